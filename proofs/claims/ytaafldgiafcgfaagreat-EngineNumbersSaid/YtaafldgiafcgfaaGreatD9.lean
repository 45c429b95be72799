/- Texts of ours. No condition. -/
import Derived.Test.YtaafldgiafcgfaaGreatD8
set_option linter.all false
open List renaming map->aa,replicate->ab,take->ac
open Sx.AObj renaming fro->ae,objs->af,adt->ag,cells->aj,own->ak,map->am
open Bool renaming true->ao,false->ap
open Go.IntKind renaming i64->aq
open Option renaming some->ar,none->au
open Exists renaming intro->av
open And renaming intro->aw
namespace Sx
set_option maxRecDepth 100000
open Go Cv Go.Proofs
def zCa (a:Nat->Prop) (b:Nat) (c:Nat->Nat) (d:Nat) (e:BkL) (f:ArN):Prop:=a b/\c b<c d/\da (aj [V.nm 1 0,V.own 2,V.own 3,V.mp 4,V.d (dI e.b.top1),V.d (dI e.b.top2),V.own 5,V.d (D.v (.bool e.b.has1)),V.d (D.v (.bool e.b.has2))] (245:TypeId))/\ag Arena 3 zF f.a=ag Arena 3 zF e.b.a/\da (ak 255 2 (aa zB e.b.buys))/\da (ak 255 2 (aa zB e.b.sells))/\da (am (atE e.b.at_))/\da (ak 3 1 (iE e.b.spare))
def cY (a:Nat) (b:BkL):=(ac a (uD b.L (zC ap)))
def yMu (i:BkL):Prop:=
 ∃(a:Int),a=zC ap/\True/\∀(b:Unit),True->cnd (qG a) (∃(c:Unit),da i.b.top1/\da i.b.top2/\da i.b.has1/\da i.b.has2/\da (ag Arena 3 zF i.b.a)/\da (aa zB i.b.buys)/\da (aa zB i.b.sells)/\da (atE i.b.at_)/\da (iE i.b.spare)/\aa lvE (uD i.L (zC ap))=[]/\True) (∃(c:Nat),(↑c:Int)=0/\aa lvE (cY c i)=[]/\∃(d:Nat->Prop),∃(e:Nat->Nat),d c/\∀(f:Nat),d f->cnd (decide ((↑f:Int)<(↑(aa zB i.b.buys).length:Int))) ((0<=(↑f:Int)/\(↑f:Int)<(↑(aa zB i.b.buys).length:Int))/\∃(g:Int),∃(h:Int),zE (aa zB i.b.buys) (↑f:Int).toNat 0 2=ar [dI g,dI h]/\∃(j:ArN),j.n=h/\ag Arena 3 zF j.a=ag Arena 3 zF i.b.a/\True/\∀(k:Unit),True->h=h/\True/\g=g/\∃(l:ArN),l.n=h/\ag Arena 3 zF l.a=ag Arena 3 zF j.a/\True/\∀(m:Unit),True->g=g/\((aa lvE (cY f i)).length+1)*(24:Nat)<=(140737488355328:Nat)/\∃(n:Nat),(↑n:Int)=aq.wrap ((↑f:Int)+1)/\aa lvE (cY n i)=aa lvE (cY f i)++[[dI g,dI ((j.a.qAt j.n).total),dI ((l.a.qAt l.n).count)]]/\zCa d n e f i l) (∃(g:Unit),da i.b.top1/\da i.b.top2/\da i.b.has1/\da i.b.has2/\da (ag Arena 3 zF i.b.a)/\da (aa zB i.b.buys)/\da (aa zB i.b.sells)/\da (atE i.b.at_)/\da (iE i.b.spare)/\aa lvE (uD i.L (zC ap))=aa lvE (cY f i)/\True))
def cN (a:Nat) (b:BkL):=(ac a (uD b.L (zC ao)))
def yMm (i:BkL):Prop:=
 ∃(a:Int),a=zC ao/\True/\∀(b:Unit),True->cnd (qG a) (∃(c:Unit),da i.b.top1/\da i.b.top2/\da i.b.has1/\da i.b.has2/\da (ag Arena 3 zF i.b.a)/\da (aa zB i.b.buys)/\da (aa zB i.b.sells)/\da (atE i.b.at_)/\da (iE i.b.spare)/\aa lvE (uD i.L (zC ao))=[]/\True) (∃(c:Nat),(↑c:Int)=0/\aa lvE (cN c i)=[]/\∃(d:Nat->Prop),∃(e:Nat->Nat),d c/\∀(f:Nat),d f->cnd (decide ((↑f:Int)<(↑(aa zB i.b.sells).length:Int))) ((0<=(↑f:Int)/\(↑f:Int)<(↑(aa zB i.b.sells).length:Int))/\∃(g:Int),∃(h:Int),zE (aa zB i.b.sells) (↑f:Int).toNat 0 2=ar [dI g,dI h]/\∃(j:ArN),j.n=h/\ag Arena 3 zF j.a=ag Arena 3 zF i.b.a/\True/\∀(k:Unit),True->h=h/\True/\g=g/\∃(l:ArN),l.n=h/\ag Arena 3 zF l.a=ag Arena 3 zF j.a/\True/\∀(m:Unit),True->g=g/\((aa lvE (cN f i)).length+1)*(24:Nat)<=(140737488355328:Nat)/\∃(n:Nat),(↑n:Int)=aq.wrap ((↑f:Int)+1)/\aa lvE (cN n i)=aa lvE (cN f i)++[[dI g,dI ((j.a.qAt j.n).total),dI ((l.a.qAt l.n).count)]]/\zCa d n e f i l) (∃(g:Unit),da i.b.top1/\da i.b.top2/\da i.b.has1/\da i.b.has2/\da (ag Arena 3 zF i.b.a)/\da (aa zB i.b.buys)/\da (aa zB i.b.sells)/\da (atE i.b.at_)/\da (iE i.b.spare)/\aa lvE (uD i.L (zC ao))=aa lvE (cN f i)/\True))
def rH (a:Nat×Top->Prop) (b:Nat×Top) (c:MSt) (d:Nat) (e:Book):Prop:=a b/\da (ak 3 1 [[dI 1],[dI 2]])/\da (xH c 0)/\af 197 Book 6 zO (c.books.set (↑d:Int).toNat e) au=xH c 1/\da (xH c 2)/\da (xH c 3)/\da (xH c 4)
def zBr (a:MSt) (b:Nat×Top) (c:Nat×Top->Prop) (d:Nat) (e:Book):Prop:=∃(f:Nat×Top),aa zZ (xK a f.fst f.snd)=aa zZ (xK a b.fst b.snd)/\rH c f a d e
def yCs (s:MSt):Prop:=
 (lO s)/\∃(a:Nat),(↑a:Int)=0/\aa zZ (xQ s a)=ab (↑s.books.length:Int).toNat [D.v (.bool ap),D.v (.bool ap),dI 0,dI 0,dI 0,dI 0]/\∃(b:Nat->Prop),∃(c:Nat->Nat),b a/\∀(d:Nat),b d->cnd (decide ((↑d:Int)<(↑s.books.length:Int))) ((0<=(↑d:Int)/\(↑d:Int)<(↑s.books.length:Int))/\(↑d:Int).toNat<s.books.length/\∃(e:Nat×Top),aa zZ (xK s e.fst e.snd)=aa zZ (xQ s d)/\∃(f:Nat×Top->Prop),(((0:Int)<=(0:Int)/\0<(↑(2:Nat):Int))/\∃(g:Int),zE [[dI 1],[dI 2]] (Int.toNat 0) 0 1=ar [dI g]/\∃(h:Book),s.books[(↑d:Int).toNat]?=ar h/\∃(j:BkS),zC j.side=g/\z6 j.b=z6 h/\(wG j)/\∀(k:Unit),True->∃(l:Book),z6 j.b=z6 l/\da ((↑d:Int).toNat)/\(↑d:Int).toNat<s.books.length/\cnd (zX j).snd ((qA d s e)/\(qA d s e)/\(qA d s e)/\(↑d:Int).toNat<(vT s e).length/\(cS d s e)/\(cS d s e)/\da ((zX j).fst.qty)/\da ((zX j).fst.price)/\(↑d:Int).toNat<(c8 s e d).length/\(eB d s e j)/\da ((zX j).fst.qty)/\(↑d:Int).toNat<(fC s e d j).length/\∃(m:Nat×Top),aa zZ (xK s m.fst m.snd)=zW (fC s e d j) (↑d:Int).toNat 4 [dI (vJ j)]/\rH f m s d l) (zBr s e f d l))/\∀(g:Nat×Top),f g->∃(h:Nat×Top),aa zZ (xK s h.fst h.snd)=aa zZ (xK s g.fst g.snd)/\∃(j:Nat×Top->Prop),((gA)/\∃(k:Int),zE [[dI 1],[dI 2]] Vtopst340.toNat 0 1=ar [dI k]/\∃(l:Book),s.books[(↑d:Int).toNat]?=ar l/\∃(m:BkS),zC m.side=k/\z6 m.b=z6 l/\(wG m)/\∀(n:Unit),True->∃(p:Book),z6 m.b=z6 p/\da ((↑d:Int).toNat)/\(↑d:Int).toNat<s.books.length/\cnd (zX m).snd ((qA d s h)/\(qA d s h)/\(qA d s h)/\(↑d:Int).toNat<(vT s h).length/\(cX d s h)/\(cX d s h)/\da ((zX m).fst.qty)/\da ((zX m).fst.price)/\(↑d:Int).toNat<(cP s h d).length/\(lQ d s h m)/\da ((zX m).fst.qty)/\(↑d:Int).toNat<(fN s h d m).length/\∃(q:Nat×Top),aa zZ (xK s q.fst q.snd)=zW (fN s h d m) (↑d:Int).toNat 5 [dI (vJ m)]/\rH j q s d p) (zBr s h j d p))/\∀(k:Nat×Top),j k->∃(l:Nat),(↑l:Int)=aq.wrap ((↑d:Int)+1)/\aa zZ (xQ s l)=aa zZ (xK s k.fst k.snd)/\b l/\c l<c d/\da (xH s 0)/\da (xH s 1)/\da (xH s 2)/\da (xH s 3)/\da (xH s 4)) (∃(e:Unit),da (sb s.p.code)/\da s.p.tick/\da s.p.low/\da s.p.high/\da s.p.wide/\da s.p.rule/\da s.p.top/\da s.p.least/\da s.p.part/\af 197 Book 6 zO s.books au=xH s 1/\da (yM s.wh)/\ae 1 (iE s.p.months)=xH s 3/\ae 1 (iE s.p.settle)=xH s 4/\aa zZ s.tops=aa zZ (xQ s d)/\True)
def zAe (a:MSt) (b:StI):Prop:=ae 1 (iE a.p.months)=ae 1 (iE b.s.p.months)/\ae 1 (iE a.p.settle)=ae 1 (iE b.s.p.settle)/\a.Rep b.p (qM b.B b.id b.q).fst
def zAi (a:MSt) (b:StI):Prop:=yM a.wh=yM b.s.wh/\zAe a b
def pC (a:StI) (b:Int) (c:Bool):Prop:=qQ (Value.int aq a.id) (yM a.s.wh)=ar [dI b]/\c=ao\/qQ (Value.int aq a.id) (yM a.s.wh)=au/\[dI b]=[dI 0]/\c=ap
def aC (a:StI):Prop:=∀(b:Value×List D),b∈yM a.s.wh->like (Value.int aq a.id) b.fst=ao
def yGx (i:StI):Prop:=
 (aC i)/\∃(a:Bool),∃(b:Int),(pC i b a)/\cnd (!a) (∃(c:MSt),(qM i.B i.id i.q).snd=26/\sb c.p.code=sb i.s.p.code/\c.p.tick=i.s.p.tick/\c.p.low=i.s.p.low/\c.p.high=i.s.p.high/\c.p.wide=i.s.p.wide/\c.p.rule=i.s.p.rule/\c.p.top=i.s.p.top/\c.p.least=i.s.p.least/\c.p.part=i.s.p.part/\af 197 Book 6 zO c.books au=af 197 Book 6 zO i.s.books au/\zAi c i) ((0<=b/\b<(↑i.s.books.length:Int))/\b.toNat<i.s.books.length/\∃(c:Book),i.s.books[b.toNat]?=ar c/\∃(d:FlI),d.id=i.id/\d.qty=i.q/\z6 d.b=z6 c/\d.b.Rep d.L/\∀(e:Book),e.Rep (xR d.L d.id d.qty).fst->∃(f:Book),z6 e=z6 f/\da b.toNat/\b.toNat<i.s.books.length/\(0<=b/\b<(↑(i.s.books.set b.toNat f).length:Int))/\b.toNat<(i.s.books.set b.toNat f).length/\∃(g:Book),(i.s.books.set b.toNat f)[b.toNat]?=ar g/\∃(h:FlI),h.id=i.id/\z6 h.b=z6 g/\h.b.Rep h.L/\∀(j:Unit),True->∃(k:Book),z6 h.b=z6 k/\da b.toNat/\b.toNat<(i.s.books.set b.toNat f).length/\cnd (!jU h.L h.id) ((aC i)/\∃(l:MSt),(qM i.B i.id i.q).snd=(xR d.L d.id d.qty).snd/\sb l.p.code=sb i.s.p.code/\l.p.tick=i.s.p.tick/\l.p.low=i.s.p.low/\l.p.high=i.s.p.high/\l.p.wide=i.s.p.wide/\l.p.rule=i.s.p.rule/\l.p.top=i.s.p.top/\l.p.least=i.s.p.least/\l.p.part=i.s.p.part/\af 197 Book 6 zO l.books au=af 197 Book 6 zO ((i.s.books.set b.toNat f).set b.toNat k) au/\yM l.wh=lV (Value.int aq i.id) (yM i.s.wh)/\zAe l i) (∃(l:MSt),(qM i.B i.id i.q).snd=(xR d.L d.id d.qty).snd/\sb l.p.code=sb i.s.p.code/\l.p.tick=i.s.p.tick/\l.p.low=i.s.p.low/\l.p.high=i.s.p.high/\l.p.wide=i.s.p.wide/\l.p.rule=i.s.p.rule/\l.p.top=i.s.p.top/\l.p.least=i.s.p.least/\l.p.part=i.s.p.part/\af 197 Book 6 zO l.books au=af 197 Book 6 zO ((i.s.books.set b.toNat f).set b.toNat k) au/\zAi l i))
def yYi (i:BkL) (h:lad1C.cnd i):yMu i:=by
 obtain⟨Q,c,ht,hL⟩:i.b.Rep i.L:=h;have hsm:=c.small;obtain⟨⟨ha1,ha2⟩,hb1,hb2,hsp⟩:=id hsm;have hlad:=c.lad (.inl rfl);rw[<- hL]at hlad;have hlad:uD i.L (zC ap)=i.b.buys.map i.b.told:=hlad;unfold yMu zCa cY qG dI;simp only[hlad,y0z];refine⟨1,rfl,trivial,λ_ _=>Cv.cnd.mk (λe=>absurd e Z8) λ_=>⟨0,by(first|exact rfl|exact trivial),by(first|exact rfl|exact trivial),λj=>j<=i.b.buys.length,λj=>i.b.buys.length-j,y2a _,λj hj=>zH (λe=> ?_) (λe=> ?_)⟩⟩
 ·obtain⟨r,hr⟩:=yE (l:=i.b.buys) (i:=j) oM;have hi:=c.cnt;refine⟨⟨oM,oM⟩,r.price,r.queue,elA hr (by simp[zB]) rfl,⟨i.b.a,r.queue⟩,by(first|exact rfl|exact trivial),by(first|exact rfl|exact trivial),trivial,λ_ _=>⟨by(first|exact rfl|exact trivial),by(first|exact rfl|exact trivial),by(first|exact rfl|exact trivial),⟨i.b.a,r.queue⟩,by(first|exact rfl|exact trivial),by(first|exact rfl|exact trivial),by(first|exact rfl|exact trivial),λ_ _=>⟨by(first|exact rfl|exact trivial),by simp only[y1q,y0z];omega,j+1,wjn oM,?_,oM,Z9,k0q⟩⟩⟩;have hrt:(i.b.buys.map i.b.told)[j]? =ar (i.b.told r):=by rw[y2n,hr];rfl
  rw[y2e,hrt];simp[lvE,Book.told]
 ·rw[y1k (by rw[y0z];omega)];exact⟨(),k0q⟩
def yJb:lad1C.ok Tryz.prog 128:=okw mixed (gokc tF (gokc zFb (gokc m9 gok0))) 1 (λ_=>[]) (λi=>yVt ap i) [0] Tryz.func128 yYi
def yVr (i:BkL) (h:lad2C.cnd i):yMm i:=by
 obtain⟨Q,c,ht,hL⟩:i.b.Rep i.L:=h;have hsm:=c.small;obtain⟨⟨ha1,ha2⟩,hb1,hb2,hsp⟩:=id hsm;have hlad:=c.lad (.inr rfl);rw[<- hL]at hlad;have hlad:uD i.L (zC ao)=i.b.sells.map i.b.told:=hlad;unfold yMm cN zCa qG dI;simp only[hlad,y0z];refine⟨2,rfl,trivial,λ_ _=>Cv.cnd.mk (λe=>absurd e Z8) λ_=>⟨0,by(first|exact rfl|exact trivial),by(first|exact rfl|exact trivial),λj=>j<=i.b.sells.length,λj=>i.b.sells.length-j,y2a _,λj hj=>zH (λe=> ?_) (λe=> ?_)⟩⟩
 ·obtain⟨r,hr⟩:=yE (l:=i.b.sells) (i:=j) oM;have hi:=c.cnt;refine⟨⟨oM,oM⟩,r.price,r.queue,elA hr (by simp[zB]) rfl,⟨i.b.a,r.queue⟩,by(first|exact rfl|exact trivial),by(first|exact rfl|exact trivial),trivial,λ_ _=>⟨by(first|exact rfl|exact trivial),by(first|exact rfl|exact trivial),by(first|exact rfl|exact trivial),⟨i.b.a,r.queue⟩,by(first|exact rfl|exact trivial),by(first|exact rfl|exact trivial),by(first|exact rfl|exact trivial),λ_ _=>⟨by(first|exact rfl|exact trivial),by simp only[y1q,y0z];omega,j+1,wjn oM,?_,oM,Z9,k0q⟩⟩⟩;have hrt:(i.b.sells.map i.b.told)[j]? =ar (i.b.told r):=by rw[y2n,hr];rfl
  rw[y2e,hrt];simp[lvE,Book.told]
 ·rw[y1k (by rw[y0z];omega)];exact⟨(),k0q⟩
def yKj:lad2C.ok Tryz.prog 128:=okw mixed (gokc tF (gokc zFb (gokc m9 gok0))) 1 (λ_=>[]) (λi=>yVt ao i) [0] Tryz.func128 yVr
def yRx:ladC.ok Tryz.prog 128:=λj=>match j with
 |⟨b,L,ap⟩=>yJb ⟨b,L⟩
 |⟨b,L,ao⟩=>yKj ⟨b,L⟩
def yOk (s:MSt) (h:topsOC.cnd s):yCs s:=by
 obtain⟨h1,h2⟩:s.cntOk:=h;unfold yCs vJ Vtopst340 qA wG gA cS cX lO eB fC c8 lQ fN fG zX cP vT zBr rH dI;have p48:(2:Int) ^ (48:Nat)=281474976710656:=by decide
 refine⟨⟨oM,oM,oM,by rw[p48];omega⟩,0,rfl,?_,λj=>j<=s.books.length,λj=>s.books.length-j,oM,λj hj=>zH (λhlt=> ?_) (λhlt=> ?_)⟩
 ·rw[xQ,y1i,List.map_replicate];rfl
 ·have hj':j<s.books.length:=by omega
  obtain⟨b,hb⟩:=yE hj';have hc:=h2 b (y1j hb);simp only[y1o];have ha:∀x,(aa zZ (xK s j x)).length=s.books.length:=λx=>by rw[y0z,zMh hj']
  have w1:aq.wrap (0+1)=1:=by decide
  have w2:(0+1) % ((2:Int) ^ aq.bits).natAbs=1:=by decide
  refine⟨⟨oM,oM⟩,oM,(j,top0),by rw[zHx hj'],λx=>x=(j,top0.buy (b.best b.buys)),⟨⟨Z8,Z8⟩,1,rfl,b,hb,⟨ap,b⟩,rfl,rfl,hc,λ_ _=>⟨b,rfl,kp,oM,?_⟩⟩,?_⟩
  ·refine Cv.cnd.mk (λc=> ?_) (λc=> ?_)
   ·have c:(b.best b.buys).2=ao:=c;have e1:=qD (s:=s) hj' (x:=top0) (y:={top0 with has1:=ao}) (f:=0+0+0*1) (ds:=[D.v (.bool ao)]) rfl;have e2:=qD (s:=s) hj' (x:={top0 with has1:=ao}) (y:={top0 with has1:=ao,p1:=(b.best b.buys).1.price}) (f:=0+2+0*1) (ds:=[D.v (.int .i64 (b.best b.buys).1.price)]) rfl;have e3:=qD (s:=s) hj' (x:={top0 with has1:=ao,p1:=(b.best b.buys).1.price}) (y:={top0 with has1:=ao,p1:=(b.best b.buys).1.price,q1:=(b.best b.buys).1.qty}) (f:=0+4+0*1) (ds:=[D.v (.int .i64 (b.best b.buys).1.qty)]) rfl;dsimp only;simp only[show b.side ap=b.buys from rfl,e1,e2,e3,ha]
    (repeat'(first|exact rfl|exact trivial|assumption|apply aw|refineλ(_:Unit) (_:True)=>?_|refine av () ?_|omega|(dsimp only;omega)))
    refine⟨(j,{top0 with has1:=ao,p1:=(b.best b.buys).1.price,q1:=(b.best b.buys).1.qty}),rfl,?_,?_⟩
    ·rw[Top.buy,y1a c]
    ·(repeat'(first|exact rfl|exact trivial|assumption|apply aw|refineλ(_:Unit) (_:True)=>?_|refine av () ?_|omega|(dsimp only;omega)))
     rw[gV hb];rfl
   ·have c:(b.best b.buys).2=ap:=c;refine⟨(j,top0),rfl,?_,?_⟩
    ·rw[Top.buy,y0y (by rw[c];simp)]
    ·(repeat'(first|exact rfl|exact trivial|assumption|apply aw|refineλ(_:Unit) (_:True)=>?_|refine av () ?_|omega|(dsimp only;omega)))
     rw[gV hb];rfl
  ·rintro _ rfl;rw[w1];generalize hx:top0.buy (b.best b.buys)=x;have hx2:b.top=x.sell (b.best b.sells):=by rw[Book.top,hx]
   refine⟨(j,x),rfl,λy=>y=(j,b.top),⟨⟨Z8,Z8⟩,2,rfl,b,hb,⟨ao,b⟩,rfl,rfl,hc,λ_ _=>⟨b,rfl,kp,oM,?_⟩⟩,?_⟩
   ·refine Cv.cnd.mk (λc=> ?_) (λc=> ?_)
    ·have c:(b.best b.sells).2=ao:=c;have e1:=qD (s:=s) hj' (x:=x) (y:={x with has2:=ao}) (f:=0+0+1*1) (ds:=[D.v (.bool ao)]) rfl;have e2:=qD (s:=s) hj' (x:={x with has2:=ao}) (y:={x with has2:=ao,p2:=(b.best b.sells).1.price}) (f:=0+2+1*1) (ds:=[D.v (.int .i64 (b.best b.sells).1.price)]) rfl;have e3:=qD (s:=s) hj' (x:={x with has2:=ao,p2:=(b.best b.sells).1.price}) (y:={x with has2:=ao,p2:=(b.best b.sells).1.price,q2:=(b.best b.sells).1.qty}) (f:=0+4+1*1) (ds:=[D.v (.int .i64 (b.best b.sells).1.qty)]) rfl;dsimp only;simp only[w2,show b.side ao=b.sells from rfl,e1,e2,e3,ha]
     (repeat'(first|exact rfl|exact trivial|assumption|apply aw|refineλ(_:Unit) (_:True)=>?_|refine av () ?_|omega|(dsimp only;omega)))
     refine⟨(j,{x with has2:=ao,p2:=(b.best b.sells).1.price,q2:=(b.best b.sells).1.qty}),rfl,?_,?_⟩
     ·rw[hx2,Top.sell,y1a c]
     ·(repeat'(first|exact rfl|exact trivial|assumption|apply aw|refineλ(_:Unit) (_:True)=>?_|refine av () ?_|omega|(dsimp only;omega)))
      rw[gV hb];rfl
    ·have c:(b.best b.sells).2=ap:=c;refine⟨(j,x),rfl,?_,?_⟩
     ·rw[hx2,Top.sell,y0y (by rw[c];simp)]
     ·(repeat'(first|exact rfl|exact trivial|assumption|apply aw|refineλ(_:Unit) (_:True)=>?_|refine av () ?_|omega|(dsimp only;omega)))
      rw[gV hb];rfl
   ·rintro _ rfl;refine⟨j+1,by rw[w64 (by omega)];rfl,?_⟩;refine⟨by dsimp only;rw[zIc hb],?_⟩;exact kp
 ·have hj:j<=s.books.length:=hj;obtain rfl:j=s.books.length:=by omega
  have e:xQ s s.books.length=s.tops:=by
   rw[xQ,y6g,List.replicate_zero,y1t,y1k (by rw[MSt.tops,y0z];omega)]
  rw[e];exact kp
def zWh:topsOC.ok Tryz.prog 76:=okw mixed (gokc zJj gok0) 0 (λs=>yMr s) (λs=>yNf s) [] Tryz.func76 yOk
def yOx (i:StI) (h:stakeC.cnd i):yGx i:=by
 obtain⟨hR,hB⟩:i.s.Rep i.p i.B/\i.B.length<=1000:=h;have hat:=hR.at_ i.id;unfold yGx aC pC zAi zAe dI;cases hi:bI i.B i.id with
 |none=>
  rw[hi]at hat;refine⟨fD _ _,ap,0,.inr ⟨by rw[mO,hat];rfl,rfl,rfl⟩,Cv.cnd.mk (λ_=>⟨i.s,?_⟩) (λe=>absurd e Z8)⟩;have ht:qM i.B i.id i.q=(i.B,26):=by rw[qM,hi]
  rw[ht];exact(rF8 (rF6 hR))
 |some k=>
  rw[hi]at hat;obtain⟨L,hL,hh⟩:=uM hi;have hk:=(y1c.1 hL).1;obtain⟨b,hb⟩:=yE (l:=i.s.books) (i:=k) (by rw[hR.bl];exact hk);have hbR:=hR.bk k b L hb hL;have hbl:=hR.bl;have hnd:=hbR.ords.2.1;refine⟨fD _ _,ao,k,.inl ⟨by rw[mO,hat];rfl,rfl⟩,Cv.cnd.mk (λe=>absurd e Z8) (λ_=> ?_)⟩;rw[y1o];refine⟨⟨oM,oM⟩,oM,b,hb,⟨b,L,i.id,i.q⟩,rfl,rfl,rfl,hbR,λb' hb'=> ?_⟩;have hT:=hR.take (q:=i.q) hi hL hnd hb';have hk2:(qM i.B i.id i.q).2=(xR L i.id i.q).2:=by simp only[qM,hi,zV hL]
  refine⟨b',rfl,rfl,oM,by rw[y2d];omega,by rw[y2d];omega,b',gJ oM,⟨b',(xR L i.id i.q).1,i.id,0⟩,rfl,rfl,hb',λ_ _=>⟨b',rfl,rfl,by rw[y2d];omega,Cv.cnd.mk (λe=>⟨fD _ _,?_⟩) (λe=> ?_)⟩⟩
  ·have e:jU (xR L i.id i.q).1 i.id=ap:=by simpa using e
   rw[e,y0y (by decide)]at hT;refine⟨{i.s with books:=i.s.books.set k b',wh:=z1z i.id i.s.wh},hk2,rF8 ⟨rfl,?_,(zVt _ _).symm,rfl,rfl,hT⟩⟩;rw[y4x]
  ·have e:jU (xR L i.id i.q).1 i.id=ao:=by simpa using e
   rw[e,y1a rfl]at hT;refine⟨{i.s with books:=i.s.books.set k b',wh:=i.s.wh},hk2,rF8 ⟨rfl,?_,rfl,rfl,rfl,hT⟩⟩;rw[y4x]
def zDq:stakeC.ok Tryz.prog 169:=okw mixed (gokc yHu (gokc zXt gok0)) 0 (λ_=>[]) (λ_=>[]) [0] Tryz.func169 yOx
structure BOk (p:Prd) (B:List (List zG)):Prop where
 pc:p.check=0
 ps:p.small
 bl:B.length=p.count
 pr:∀(k:Nat) (L:List zG),B[k]? =ar L->∀o∈L,p.price k o.price=0
def motherC:Con:=zR Bool (λb=>[zA (zC b)]) (λ_=>[]) (λ_=>True) (λb=>zA (zC (!b))) (λ_=>[])
def dX (s:Bool) (p x:Int):Bool:=if s then decide (p<=x)else decide (x<=p)
structure GoI where
 s:Bool
 p:Int
 x:Int
def mgoodC:Con:=zR GoI (λi=>[zA (zC i.s),zA i.p,zA i.x]) (λ_=>[]) (λ_=>True) (λi=>yT (dX i.s i.p i.x)) (λ_=>[])
def yO (p:Prd) (B:List (List zG)) (inst:Int) (s:Int):Quote×Bool×Bool:=
 let bq:=zU (xO ⟨p,B.map qI,inst⟩ s) s
 let l:=bestL (B.getD inst.toNat []) s
 if(l.2 && !(bq.2 && btr s bq.1.price l.1.price))=ao then(⟨l.1.price,l.1.qty,⟨0,0⟩,⟨0,0⟩⟩,ap,ao)else(bq.1,bq.2,bq.2)
structure NxI where
 s:MSt
 p:Prd
 B:List (List zG)
 inst:Int
 sd:Bool
def nextC:Con:=zR NxI (λi=>[.nm 0 0,zA i.inst,zA (zC i.sd)]) (λi=>[zD i.s]) (λi=>i.s.Rep i.p i.B/\BOk i.p i.B/\0<=i.inst/\i.inst<i.B.length)
 (λi=> .tup [zTr (yO i.p i.B i.inst (zC i.sd)).1,yT (yO i.p i.B i.inst (zC i.sd)).2.1,yT (yO i.p i.B i.inst (zC i.sd)).2.2]) (λi=>[zD i.s])
structure dF where
 id:Int
 inst:Int
 side:Int
 price:Int
 qty:Int
 left:Int
 deriving DecidableEq
def yR (f:dF):List D:=[.v (.int .i64 f.id),.v (.int .i64 f.inst),.v (.int .i64 f.side),.v (.int .i64 f.price),.v (.int .i64 f.qty),.v (.int .i64 f.left)]
def xP (inst s:Int):List zG->List Int->List dF
 |o::os,k::ks=>if 0<k then⟨o.id,inst,s,o.price,k,o.qty-k⟩::xP inst s os ks else xP inst s os ks
 |_,_=>[]
def qZ (B:List (List zG)) (fs:List dF):List (List zG):=fs.foldl (λB f=>(qM B f.id f.qty).1) B
def zRn (B:List (List zG)) (inst s:Int):List zG:=atL (B.getD inst.toNat []) s (bestL (B.getD inst.toNat []) s).1.price
def qC (p:Prd) (B:List (List zG)) (inst s q:Int):List dF:=xP inst s (zRn B inst s) (qL ⟨p,zRn B inst s,q⟩)
structure TrI where
 s:MSt
 p:Prd
 B:List (List zG)
 inst:Int
 sd:Bool
 q:Int
def TrI.os (i:TrI):List zG:=zRn i.B i.inst (zC i.sd)
def TrI.sh (i:TrI):List Int:=qL ⟨i.p,i.os,i.q⟩
def TrI.fs (i:TrI) (j:Nat):List dF:=xP i.inst (zC i.sd) (i.os.take j) (i.sh.take j)
def tradeC:Con where
 ι:=TrI
 pat:=λi=>[.nm 0 0,.agg [zA i.inst,zA (zC i.sd)],zA i.q]
 pre:=λi=>[zD i.s]
 cnd:=λi=>i.s.Rep i.p i.B/\BOk i.p i.B/\0<=i.inst/\i.inst<i.B.length/\y9 i.q
 alts:=λi=>[{o:=MSt,res:=λ_=> .own 1,post:=λs=>[zD s,.own 302 6 ((qC i.p i.B i.inst (zC i.sd) i.q).map yR)],rel:=λs=>s.Rep i.p (qZ i.B (qC i.p i.B i.inst (zC i.sd) i.q))}]
def yPe (i:TrI):List SAnn:=[{ι:=Nat×MSt,slots:=λj=>[(0,.nm 0 0),(11,.own 1),(44,zA j.1)],rows:=λj=>[zD j.2,.own 302 6 ((i.fs j.1).map yR)]}]
def z5g (b:Bool):Prop:=
 ∃(a:Unit),(zC !b)=aq.wrap (3-zC b)/\True
def yCp (i:GoI):Prop:=
 cnd (zC i.s==1) (cnd (decide (i.x<=i.p)) (∃(a:Unit),dX i.s i.p i.x=ao/\True) (cnd (zC i.s==2) (∃(a:Unit),dX i.s i.p i.x=decide (i.x>=i.p)/\True) (∃(a:Unit),dX i.s i.p i.x=ap/\True))) (cnd (zC i.s==2) (∃(a:Unit),dX i.s i.p i.x=decide (i.x>=i.p)/\True) (∃(a:Unit),dX i.s i.p i.x=ap/\True))
def zGt (a:MSt) (b:NxI):Prop:=sb a.p.code=sb b.s.p.code/\True/\a.p.tick=b.s.p.tick/\a.p.low=b.s.p.low/\a.p.high=b.s.p.high/\a.p.wide=b.s.p.wide/\a.p.rule=b.s.p.rule/\a.p.top=b.s.p.top/\a.p.least=b.s.p.least/\a.p.part=b.s.p.part/\True/\True
def g9 (a:BsI):Prop:=(a.s=1\/a.s=2)/\a.l.length<=1000000
def zGw (a:NxI) (b:MSt) (c:Book):Prop:=sb a.s.p.code=sb b.p.code/\a.s.p.tick=b.p.tick/\a.s.p.low=b.p.low/\a.s.p.high=b.p.high/\a.s.p.wide=b.p.wide/\a.s.p.rule=b.p.rule/\a.s.p.top=b.p.top/\a.s.p.least=b.p.least/\a.s.p.part=b.p.part/\af 197 Book 6 zO a.s.books au=af 197 Book 6 zO (b.books.set a.inst.toNat c) au/\yM a.s.wh=yM b.wh/\ae 1 (iE a.s.p.months)=ae 1 (iE b.p.months)/\ae 1 (iE a.s.p.settle)=ae 1 (iE b.p.settle)/\True
def z7 (a:NxI):=(yO a.p a.B a.inst (zC a.sd))
def zLh (a:NxI) (b:BsI) (c:MSt) (d:Book):Prop:=∃(e:Unit),(z7 a).fst.price=(zU b.l b.s).fst.price/\(z7 a).fst.qty=(zU b.l b.s).fst.qty/\(z7 a).fst.a.inst=(zU b.l b.s).fst.a.inst/\(z7 a).fst.a.side=(zU b.l b.s).fst.a.side/\(z7 a).fst.b.inst=(zU b.l b.s).fst.b.inst/\(z7 a).fst.b.side=(zU b.l b.s).fst.b.side/\(z7 a).snd.fst=(zU b.l b.s).snd/\(z7 a).snd.snd=(zU b.l b.s).snd/\zGw a c d
def zLl (a:NxI) (b:BkS) (c:MSt) (d:Book):Prop:=∃(e:Unit),(z7 a).fst.price=(zX b).fst.price/\(z7 a).fst.qty=(zX b).fst.qty/\(z7 a).fst.a.inst=0/\(z7 a).fst.a.side=0/\(z7 a).fst.b.inst=0/\(z7 a).fst.b.side=0/\(z7 a).snd.fst=ap/\(z7 a).snd.snd=ao/\zGw a c d
def zJd (a:tQ) (b:NxI) (c:MSt):Prop:=∃(d:BsI),aa zI d.l=aa zI (xO a.i (zC a.s))/\d.s=zC b.sd/\(g9 d)/\∀(e:Unit),True->(0<=b.inst/\b.inst<(↑c.books.length:Int))/\b.inst.toNat<c.books.length/\∃(f:Book),c.books[b.inst.toNat]?=ar f/\∃(g:BkS),zC g.side=zC b.sd/\z6 g.b=z6 f/\(wG g)/\∀(h:Unit),True->∃(j:Book),z6 g.b=z6 j/\da b.inst.toNat/\b.inst.toNat<c.books.length/\cnd (zX g).snd (cnd (zU d.l d.s).snd (∃(k:I3'),k.side=zC b.sd/\k.x=(zU d.l d.s).fst.price/\k.y=(zX g).fst.price/\True/\∀(l:Unit),True->cnd (!btr k.side k.x k.y) (zLl b g c j) (zLh b d c j)) (zLl b g c j)) (zLh b d c j)
def zRw (a:MSt) (b:NxI):Prop:=(zGt a b)/\∃(c:tQ),sb c.i.p.code=sb b.s.p.code/\iE c.i.p.months=iE a.p.months/\c.i.p.tick=b.s.p.tick/\c.i.p.low=b.s.p.low/\c.i.p.high=b.s.p.high/\c.i.p.wide=b.s.p.wide/\c.i.p.rule=b.s.p.rule/\c.i.p.top=b.s.p.top/\c.i.p.least=b.s.p.least/\c.i.p.part=b.s.p.part/\iE c.i.p.settle=iE a.p.settle/\aa zZ c.i.tops=aa zZ a.tops/\c.i.inst=b.inst/\zC c.s=zC b.sd/\(qN c)/\∀(d:Unit),True->zJd c b a
def g7 (a:MSt):Prop:=a.books.length<=1000000/\∀(b:Book),b∈a.books->∀(c:dO),c∈b.a.queues->(-9223372036854775808)<=c.count/\c.count<=9223372036854775807
def yMw (i:NxI):Prop:=
 (∃(a:MSt),sb a.p.code=sb i.s.p.code/\a.p.tick=i.s.p.tick/\a.p.low=i.s.p.low/\a.p.high=i.s.p.high/\a.p.wide=i.s.p.wide/\a.p.rule=i.s.p.rule/\a.p.top=i.s.p.top/\a.p.least=i.s.p.least/\a.p.part=i.s.p.part/\af 197 Book 6 zO a.books au=af 197 Book 6 zO i.s.books au/\yM a.wh=yM i.s.wh/\ae 1 (iE a.p.months)=ae 1 (iE i.s.p.months)/\ae 1 (iE a.p.settle)=ae 1 (iE i.s.p.settle)/\(g7 a)/\∀(b:Unit),True->(zGt a i)/\(∃(c:tQ),sb c.i.p.code=sb i.s.p.code/\iE c.i.p.months=iE a.p.months/\c.i.p.tick=i.s.p.tick/\c.i.p.low=i.s.p.low/\c.i.p.high=i.s.p.high/\c.i.p.wide=i.s.p.wide/\c.i.p.rule=i.s.p.rule/\c.i.p.top=i.s.p.top/\c.i.p.least=i.s.p.least/\c.i.p.part=i.s.p.part/\iE c.i.p.settle=iE a.p.settle/\aa zZ c.i.tops=aa zZ a.tops/\c.i.inst=i.inst/\zC c.s=zC i.sd/\(qN c)/\∀(d:Unit),True->(zJd c i a)/\zJd c i a)/\zRw a i)/\(da (sb i.s.p.code)/\True/\da i.s.p.tick/\da i.s.p.low/\da i.s.p.high/\da i.s.p.wide/\da i.s.p.rule/\da i.s.p.top/\da i.s.p.least/\da i.s.p.part/\True/\True)/\∃(a:MSt),sb a.p.code=sb i.s.p.code/\a.p.tick=i.s.p.tick/\a.p.low=i.s.p.low/\a.p.high=i.s.p.high/\a.p.wide=i.s.p.wide/\a.p.rule=i.s.p.rule/\a.p.top=i.s.p.top/\a.p.least=i.s.p.least/\a.p.part=i.s.p.part/\af 197 Book 6 zO a.books au=af 197 Book 6 zO i.s.books au/\yM a.wh=yM i.s.wh/\ae 1 (iE a.p.months)=ae 1 (iE i.s.p.months)/\ae 1 (iE a.p.settle)=ae 1 (iE i.s.p.settle)/\(g7 a)/\∀(b:Unit),True->zRw a i
def bD (a:AtI):=(aa j8 (atL a.L (zC a.s) a.price))
def zGn (a:Nat×MSt->Prop) (b:Nat×MSt) (c:Nat×MSt->Nat) (d:Nat×MSt) (e:AlI) (f:AtI) (g:BkS) (h:TrI):Prop:=a b/\c b<c d/\da (ak 2 1 (iE (qL e)))/\da (ae 5 (bD f))/\da (aj [V.d (dI (fG g)),V.d (dI (vJ g)),V.d (dI ((zX g).fst.count))] 127)/\da (aj [V.d (dI h.inst),V.d (dI (zC h.sd))] 169)/\da (ae 1 (iE h.s.p.months))/\da (ae 1 (iE h.s.p.settle))
def uP (a:TrI):=(qC a.p a.B a.inst (zC a.sd) a.q)
def fS (a:TrI):=(qZ a.B (uP a))
def yDp (i:TrI):Prop:=
 (0<=i.inst/\i.inst<(↑i.s.books.length:Int))/\i.inst.toNat<i.s.books.length/\∃(a:Book),i.s.books[i.inst.toNat]?=ar a/\∃(b:BkS),zC b.side=zC i.sd/\z6 b.b=z6 a/\(wG b)/\∀(c:Unit),True->∃(d:Book),z6 b.b=z6 d/\da i.inst.toNat/\i.inst.toNat<i.s.books.length/\∃(e:Book),(i.s.books.set i.inst.toNat d)[i.inst.toNat]?=ar e/\∃(f:AtI),zC f.s=zC i.sd/\f.price=(zX b).fst.price/\z6 f.b=z6 e/\f.b.Rep f.L/\∀(g:Unit),True->∃(h:Book),z6 f.b=z6 h/\da i.inst.toNat/\i.inst.toNat<(i.s.books.set i.inst.toNat d).length/\∃(j:AlI),sb j.p.code=sb i.s.p.code/\iE j.p.months=iE i.s.p.months/\j.p.tick=i.s.p.tick/\j.p.low=i.s.p.low/\j.p.high=i.s.p.high/\j.p.wide=i.s.p.wide/\j.p.rule=i.s.p.rule/\j.p.top=i.s.p.top/\j.p.least=i.s.p.least/\j.p.part=i.s.p.part/\iE j.p.settle=iE i.s.p.settle/\aa j8 j.l=aa j8 (atL f.L (zC f.s) f.price)/\j.q=i.q/\(j.l.length<=1000/\((-9223372036854775808)<=j.q/\j.q<=9223372036854775807)/\((-9223372036854775808)<=j.p.least/\j.p.least<=9223372036854775807)/\((-9223372036854775808)<=j.p.top/\j.p.top<=9223372036854775807)/\(-9223372036854775808)<=j.p.part/\j.p.part<=9223372036854775807)/\∀(k:Unit),True->∃(l:Nat×MSt),(↑l.fst:Int)=0/\sb l.snd.p.code=sb i.s.p.code/\l.snd.p.tick=i.s.p.tick/\l.snd.p.low=i.s.p.low/\l.snd.p.high=i.s.p.high/\l.snd.p.wide=i.s.p.wide/\l.snd.p.rule=i.s.p.rule/\l.snd.p.top=i.s.p.top/\l.snd.p.least=i.s.p.least/\l.snd.p.part=i.s.p.part/\af 197 Book 6 zO l.snd.books au=af 197 Book 6 zO ((i.s.books.set i.inst.toNat d).set i.inst.toNat h) au/\yM l.snd.wh=yM i.s.wh/\ae 1 (iE l.snd.p.months)=ae 1 (iE i.s.p.months)/\ae 1 (iE l.snd.p.settle)=ae 1 (iE i.s.p.settle)/\aa yR (i.fs l.fst)=[]/\∃(m:Nat×MSt->Prop),∃(n:Nat×MSt->Nat),m l/\∀(p:Nat×MSt),m p->cnd (decide ((↑p.fst:Int)<(↑(iE (qL j)).length:Int))) ((0<=(↑p.fst:Int)/\(↑p.fst:Int)<(↑(iE (qL j)).length:Int))/\∃(q:Int),zE (iE (qL j)) (↑p.fst:Int).toNat 0 1=ar [dI q]/\cnd (decide (q>0)) ((0<=(↑p.fst:Int)/\(↑p.fst:Int)<(↑(bD f).length:Int))/\∃(r:Int),∃(s:Int),∃(t:Int),∃(u:Int),∃(v:Bool),zE (bD f) (↑p.fst:Int).toNat 0 5=ar [dI r,dI s,dI t,dI u,D.v (.bool v)]/\∃(w:StI),w.id=r/\w.q=q/\zD w.s=zD p.snd/\(w.s.Rep w.p w.B/\w.B.length<=1000)/\∀(x:MSt),x.Rep w.p (qM w.B w.id w.q).fst->((aa yR (i.fs p.fst)).length+1)*(48:Nat)<=(140737488355328:Nat)/\∃(y:Nat×MSt),(↑y.fst:Int)=aq.wrap ((↑p.fst:Int)+1)/\zD y.snd=zD x/\aa yR (i.fs y.fst)=aa yR (i.fs p.fst)++[[dI r,dI i.inst,dI (zC i.sd),dI t,dI q,dI (aq.wrap (u-q))]]/\zGn m y n p j f b i) (∃(r:Nat×MSt),(↑r.fst:Int)=aq.wrap ((↑p.fst:Int)+1)/\zD r.snd=zD p.snd/\aa yR (i.fs r.fst)=aa yR (i.fs p.fst)/\zGn m r n p j f b i)) (∃(q:MSt),zD q=zD p.snd/\aa yR (uP i)=aa yR (i.fs p.fst)/\q.Rep i.p (fS i))
def sG {p:Prd} (hc:p.check=0) {k v:Int} (h:p.price k v=0): -2000000<=v/\v<=2000000:=by
 have ok:=jJ hc;have:=ok.b1;have:=ok.b2;have:=ok.b3;have:=ok.b4;have:=ok.b5;rw[Prd.price]at h;by_cases c1:p.count=0
 ·rw[y1a c1]at h;cases h
 by_cases c2:k<0\/(p.count:Int)<=k
 ·rw[y0y c1,y1a c2]at h;cases h
 cases c3:dM p.tick v with
 |true=>rw[y0y c1,y0y c2,y1a c3]at h;cases h
 |false=>
  rw[y0y c1,y0y c2,y0y (by rw[c3];decide)]at h;by_cases c4:(p.months.length:Int)<=k
  ·simp only[y1a c4]at h;by_cases c5:v< -p.wide\/p.wide<v
   ·rw[y1a c5]at h;cases h
   ·omega
  ·simp only[y0y c4]at h;by_cases c5:v<p.low\/p.high<v
   ·rw[y1a c5]at h;cases h
   ·omega
structure zRj (qs sh:List Int) (q:Int):Prop where
 len:sh.length=qs.length
 bd:∀n,0<=sh.getD n 0/\sh.getD n 0<=qs.getD n 0
 sum:sh.sum=q
def yEz:∀{l:List Int},(∀x∈l,0<=x)->0<=l.sum
 |[],_=>y4s 0
 |a::l,h=>by
  have:=yEz (l:=l) λx hx=>h x (y1g _ hx)
  have:=h a y1f;rw[y2o];omega
def z4t:∀{z:List (Int×Int)},(∀y∈z,0<=y.2/\y.2<=y.1)->(z.map (·.2)).sum<=(z.map (·.1)).sum
 |[],_=>y4s 0
 |a::l,h=>by
  have:=z4t (z:=l) λx hx=>h x (y1g _ hx)
  have:=h a y1f;rw[y1m,y1m,y2o,y2o];omega
def s6:∀(l:List Int) (q:Int),(∀x∈l,0<=x)->0<=q->q<=l.sum->zRj l (vV l q) q
 |[],q,_,h0,h1=>⟨rfl,λn=>by simp[vV],by simp at h1;simp[vV];omega⟩
 |n::l,q,h,h0,h1=>by
  have hn:=h n y1f;rw[y2o]at h1;have:=yEz λx hx=>h x (y1g _ hx)
  have ih:=s6 l (q-min n q) (λx hx=>h x (y1g _ hx)) oM oM;refine⟨by rw[vV,y1d,y1d,ih.len],λk=> ?_,by rw[vV,y2o,ih.sum];omega⟩;cases k with
  |zero=>exact⟨by show 0<=min n q;omega,by show min n q<=n;omega⟩
  |succ k=>exact ih.bd k
def l5:∀(z:List (Int×Int)) (q:Int),(∀y∈z,0<=y.2/\y.2<=y.1)->0<=q->q<=(z.map (·.1)).sum-(z.map (·.2)).sum->(jH z q).length=z.length/\(∀n,0<=(jH z q).getD n 0/\(jH z q).getD n 0<=(z.map (·.1)).getD n 0)/\(jH z q).sum=(z.map (·.2)).sum+q
 |[],q,_,h0,h1=>⟨rfl,λn=>by simp[jH],by simp at h1;simp[jH];omega⟩
 |(n,x)::r,q,h,h0,h1=>by
  have hn:=h (n,x) y1f;simp only[y1m,y2o]at h1;have:=z4t λy hy=>h y (y1g _ hy)
  have ih:=l5 r (q-min (n-x) q) (λy hy=>h y (y1g _ hy)) oM oM;refine⟨by rw[jH,y1d,y1d,ih.1],λk=> ?_,by rw[jH,y2o,ih.2.2,y1m,y2o];omega⟩;cases k with
  |zero=>exact⟨by show 0<=x+min (n-x) q;have:=hn.1;have:=hn.2;dsimp only at*;omega,by show x+min (n-x) q<=n;have:=hn.2;dsimp only at*;omega⟩
  |succ k=>exact ih.2.1 k
def yEx {l:List Int} {q:Int} (h1:l.length<=250) (h2:0<=q) (h3:∀x∈l,1<=x/\x<=1000000) (h4:q<=l.sum):yQ l q=ao:=by
 rw[yQ,y1v h1,y1v h2,y1v h4];simp only[y4b,Bool.and_true,y4h,y1l,y2v];exact h3
def zTo {i:PlI} (h:yQ i.l i.q=ao) (hl:1<=i.least):zRj i.l (kE i) i.q:=by
 obtain⟨r1,r2,r3,r4⟩:=kG h;rw[kE,y1a ⟨h,hl⟩];by_cases hne:i.l.length=0
 ·have e:i.l=[]:=y1z hne;have hq:i.q=0:=by rw[e]at r4;simp at r4;omega
  have e0:i.p1=[]:=by rw[PlI.p1,e];rfl
  rw[e0,e,hq];exact⟨rfl,λn=>by simp,rfl⟩
 ·obtain⟨_,_,f1,f2⟩:=zCj h oM;have hpl:=z2c i;have m1:(i.l.zip i.p0).map (·.1)=i.l:=List.map_fst_zip oM
  have m2:(i.l.zip i.p0).map (·.2)=i.p0:=List.map_snd_zip oM
  have hp:=l5 (i.l.zip i.p0) (i.q-i.p0.sum) (λy hy=>by
   obtain⟨j,hj⟩:=y3m.1 hy;rw[y5m]at hj;exact f1 j _ _ hj.1 hj.2) oM (by rw[m1,m2];omega)
  rw[m1,m2]at hp;refine⟨?_,hp.2.1,?_⟩
  ·rw[PlI.p1,hp.1,List.length_zip,hpl,Nat.min_self]
  ·rw[PlI.p1,hp.2.2];omega
def zSp:∀{l:List Int} {k:Nat} {x:Int},k<l.length->(l.set k x).sum=l.sum+(x-l.getD k 0)
 |[],k,x,h=>absurd h (by simp)
 |a::l,0,x,_=>by
  show x+l.sum=a+l.sum+(x-a);omega
 |a::l,k+1,x,h=>by
  have:=zSp (l:=l) (k:=k) (x:=x) (by simpa using h);show a+(l.set k x).sum=a+l.sum+(x-l.getD k 0);omega
def zJq {l:List Int} {k n:Nat} {x:Int} (h:k<l.length):(l.set k x).getD n 0=if n=k then x else l.getD n 0:=by
 rw[y1h,y4l];by_cases e:k=n
 ·subst e;rw[y1a rfl,y1a h,y1a rfl];rfl
 ·rw[y0y e,y0y (λe2=>e e2.symm),y1h]
def zYh {l:List Int}:∀(z:List (Nat×Int)) (o:List Int),(z.map (·.1)).Nodup->(∀y∈z,y.1<o.length/\0<=y.2/\o.getD y.1 0+y.2<=l.getD y.1 0)->(∀n,0<=o.getD n 0/\o.getD n 0<=l.getD n 0/\l.getD n 0<=1000000)->
 (z.foldl (λo y=>o.set y.1 (aq.wrap (o.getD y.1 0+y.2))) o).length=o.length/\(z.foldl (λo y=>o.set y.1 (aq.wrap (o.getD y.1 0+y.2))) o).sum=o.sum+(z.map (·.2)).sum/\∀n,0<=(z.foldl (λo y=>o.set y.1 (aq.wrap (o.getD y.1 0+y.2))) o).getD n 0/\(z.foldl (λo y=>o.set y.1 (aq.wrap (o.getD y.1 0+y.2))) o).getD n 0<=l.getD n 0
 |[],o,_,_,h=>⟨rfl,by simp,λn=>⟨(h n).1,(h n).2.1⟩⟩
 |y::z,o,hn,hz,h=>by
  obtain⟨h1,h2,h3⟩:=hz y y1f;rw[y1m,y3l]at hn;have hw:aq.wrap (o.getD y.1 0+y.2)=o.getD y.1 0+y.2:=by
   have:=h y.1;exact w64 oM
  rw[y5d,hw];have ih:=zYh (l:=l) z (o.set y.1 (o.getD y.1 0+y.2)) hn.2 (λx hx=>by
   obtain⟨g1,g2,g3⟩:=hz x (y1g _ hx);have hne:x.1≠y.1:=λe=>hn.1 (e▸y2c (f:=(·.1)) hx)
   rw[y2d,zJq h1,y0y hne];exact⟨g1,g2,g3⟩) (λn=>by
   rw[zJq h1];split
   ·rename_i e;rw[e];exact⟨by have:=h y.1;omega,h3,(h y.1).2.2⟩
   ·exact h n)
  refine⟨by rw[ih.1,y2d],?_,ih.2.2⟩;rw[ih.2.1,zSp h1,y1m,y2o];omega
def zNi (l:List Int):(List.range l.length).map (λn=>l.getD n 0)=l:=by
 apply y5c;intro n;rw[y2n];by_cases h:n<l.length
 ·rw[y5f h,y2h h,y3b,y1h,y2h h];rfl
 ·rw[y2i (by simpa using h),y2i (by omega)];rfl
def z4m {f g:Nat->Int}:∀l:List Nat,(l.map λn=>f n-g n).sum=(l.map f).sum-(l.map g).sum
 |[]=>rfl
 |a::l=>by rw[y1m,y1m,y1m,y2o,y2o,y2o,z4m l];omega
def zJo {f:Nat->Int} {p:Nat->Bool}:∀{l:List Nat},(∀n∈l,p n=ap->f n=0)->((l.filter p).map f).sum=(l.map f).sum
 |[],_=>rfl
 |a::l,h=>by
  have ih:=zJo (l:=l) λn hn=>h n (y1g _ hn)
  rw[y1m,y2o];by_cases e:p a=ao
  ·rw[y5r e,y1m,y2o,ih]
  ·rw[y5s e,ih,h a y1f (by simpa using e)];omega
def sR {i:RsI} (hl:i.l.length<=250) (ho:i.out.length=i.l.length) (hn:∀n,0<=i.out.getD n 0/\i.out.getD n 0<=i.l.getD n 0/\i.l.getD n 0<=1000000) (hq:0<=i.q/\i.q<=i.l.sum-i.out.sum) (hle:1<=i.least):
 zRj i.l (m5 i) (i.out.sum+i.q):=by
 have hidx:(i.idx i.l.length).length<=250:=y3u (y4i _ _) (by simpa using hl);have hmem:∀n∈i.idx i.l.length,n<i.l.length/\i.out.getD n 0<i.l.getD n 0:=by
  intro n hn;obtain⟨a,b⟩:=y2x.1 hn;exact⟨y4f.1 a,y1y b⟩
 have hls:(i.left i.l.length).sum=i.l.sum-i.out.sum:=by
  rw[RsI.left,RsI.idx,zJo,z4m,zNi]
  ·rw[<- ho,zNi]
  ·intro n _ e;have:=y5j e;have:=hn n;omega
 have hr:yQ (i.left i.l.length) i.q=ao:=by
  refine yEx (by rw[RsI.left,y0z];exact hidx) hq.1 (λx hx=> ?_) oM;obtain⟨n,hm,rfl⟩:=y2m.1 hx;have:=hmem n hm;have:=hn n;omega
 have hp:=zTo (i:=⟨i.left i.l.length,i.least,i.q⟩) hr hle;have hpl:i.pl.length=(i.idx i.l.length).length:=by
  have:=hp.len;rw[RsI.pl,this,RsI.left,y0z]
 have hnd:(i.idx i.l.length).Nodup:=List.nodup_range.sublist y6l;have z1:((i.idx i.l.length).zip i.pl).map (·.1)=i.idx i.l.length:=List.map_fst_zip oM
 have z2:((i.idx i.l.length).zip i.pl).map (·.2)=i.pl:=List.map_snd_zip oM
 have hf:=zYh (l:=i.l) ((i.idx i.l.length).zip i.pl) i.out (by rw[z1];exact hnd) (λy hy=>by
  obtain⟨j,hj⟩:=y3m.1 hy;rw[y5m]at hj;have hm:=hmem y.1 (y1j hj.1);have hb:=hp.bd j;have e1:(kE ⟨i.left i.l.length,i.least,i.q⟩).getD j 0=y.2:=by
   rw[y1h];have:(kE ⟨i.left i.l.length,i.least,i.q⟩)[j]? =ar y.2:=hj.2;rw[this];rfl
  have e2:(i.left i.l.length).getD j 0=i.l.getD y.1 0-i.out.getD y.1 0:=by
   rw[y1h,RsI.left,y2n,hj.1];rfl
  dsimp only at hb;rw[e1,e2]at hb;exact⟨oM,hb.1,oM⟩) hn
 have hall:m5 i=((i.idx i.l.length).zip i.pl).foldl (λo y=>o.set y.1 (aq.wrap (o.getD y.1 0+y.2))) i.out:=by
  rw[m5,RsI.add,y1k (by rw[List.length_zip];omega)]
 rw[hall];refine⟨by rw[hf.1,ho],hf.2.2,?_⟩;rw[hf.2.1,z2];have:=hp.sum;rw[RsI.pl,this]
def z4z {l:List Int} (h:∀x∈l,1<=x/\x<=1000000) (n:Nat):0<=l.getD n 0/\l.getD n 0<=1000000:=by
 by_cases hn:n<l.length
 ·obtain⟨x,hx⟩:=yE hn;have:=h x (y1j hx);rw[zV hx];omega
 ·rw[y1h,y2i (by omega)];decide
def yTf (n k:Nat):(ab n (0:Int)).getD k 0=0:=by
 rw[y1h,List.getElem?_replicate];split<;>rfl
def zJv (n:Nat):(ab n (0:Int)).sum=0:=by
 induction n with
 |zero=>rfl
 |succ n ih=>rw[y5e,y2o,ih];rfl
def yPy {q part:Int} (hq:0<=q) (h0:0<=part) (h1:part<=100):0<=q*part / 100/\q*part / 100<=q:=by
 have h2:0<=q*part:=Int.mul_nonneg hq h0;have h3:q*part<=q*100:=Int.mul_le_mul_of_nonneg_left h1 hq;constructor<;>omega
def zTq {p:Prd} (hc:p.check=0) {l:List zG} {q:Int} (hr:yQ (l.map (·.qty)) q=ao):zRj (l.map (·.qty)) (qL ⟨p,l,q⟩) q:=by
 have ok:=jJ hc;obtain⟨r1,r2,r3,r4⟩:=kG hr;have q1:=ok.q1;have q3:=ok.q3;have q5:=ok.q5;have q6:=ok.q6;have r5:=ok.r1;have r6:=ok.r2;have gb:=z4z r3;have eqs:(AlI.qs ⟨p,l,q⟩)=l.map (·.qty):=rfl
 rw[qL];simp only[eqs];generalize l.map (·.qty)=qs at*
 by_cases c1:p.rule=1
 ·rw[y1a c1,uF,y1a hr];exact s6 _ _ (λx hx=>by have:=r3 x hx;omega) r2 r4
 by_cases c2:p.rule=2
 ·rw[y0y c1,y1a c2,zDd,y1a ⟨hr,q3,q1⟩];rw[PsI.rs];dsimp only;split
  ·rename_i ht;have hk:(topI l).toNat<(ab qs.length (0:Int)).length:=by simp;omega
   have hf:0<=PsI.first ⟨qs,topI l,p.top,p.least,q⟩/\PsI.first ⟨qs,topI l,p.top,p.least,q⟩<=qs.getD (topI l).toNat 0/\PsI.first ⟨qs,topI l,p.top,p.least,q⟩<=q:=by
    have:=gb (topI l).toNat;simp only[PsI.first];omega
   have hs:((ab qs.length (0:Int)).set (topI l).toNat (PsI.first ⟨qs,topI l,p.top,p.least,q⟩)).sum=PsI.first ⟨qs,topI l,p.top,p.least,q⟩:=by
    rw[zSp hk,zJv,yTf];omega
   have:=sR (i:=⟨qs,(ab qs.length 0).set (topI l).toNat (PsI.first ⟨qs,topI l,p.top,p.least,q⟩),p.least,q-PsI.first ⟨qs,topI l,p.top,p.least,q⟩⟩) r1 (by simp) (λn=>by
    dsimp only;rw[zJq hk,yTf];have:=gb n;split
    ·rename_i e;rw[e];exact⟨hf.1,hf.2.1,(gb _).2⟩
    ·omega) (by dsimp only;rw[hs];omega) q3
   dsimp only at this;rw[hs]at this;have e:PsI.first ⟨qs,topI l,p.top,p.least,q⟩+(q-PsI.first ⟨qs,topI l,p.top,p.least,q⟩)=q:=by omega
   rw[e]at this;exact this
  ·have:=sR (i:=⟨qs,ab qs.length 0,p.least,q⟩) r1 (by simp) (λn=>by
    dsimp only;rw[yTf];have:=gb n;omega) (by dsimp only;rw[zJv];omega) q3
   dsimp only at this;rw[zJv,Int.zero_add]at this;exact this
 ·have c3:p.rule=3:=by omega
  rw[y0y c1,y0y c2,y1a c3,zBm,y1a ⟨hr,q5,q6,q3⟩];rw[SpI.rs];dsimp only;obtain⟨d1,d2⟩:=yPy r2 q5 q6;have hr2:yQ qs (q*p.part / 100)=ao:=yEx r1 d1 r3 oM;have hfs:=s6 qs (q*p.part / 100) (λx hx=>by have:=r3 x hx;omega) d1 oM;have e0:uF qs (q*p.part / 100)=vV qs (q*p.part / 100):=by rw[uF,y1a hr2]
  have:=sR (i:=⟨qs,uF qs (q*p.part / 100),p.least,q-q*p.part / 100⟩) r1 (by dsimp only;rw[e0];exact hfs.len) (λn=>by
   dsimp only;rw[e0];exact⟨(hfs.bd n).1,(hfs.bd n).2,(gb n).2⟩) (by dsimp only;rw[e0,hfs.sum];omega) q3
  dsimp only at this;rw[e0,hfs.sum]at this;rw[e0];have e:q*p.part / 100+(q-q*p.part / 100)=q:=by omega
  rw[e]at this;exact this
def zZk {p:Prd} {l:List zG} {q:Int} (hr:yQ (l.map (·.qty)) q=ap):qL ⟨p,l,q⟩=[]:=by
 have eqs:(AlI.qs ⟨p,l,q⟩)=l.map (·.qty):=rfl
 rw[qL];simp only[eqs,uF,zDd,zBm,hr];simp
def zQt:motherC.ok Tryz.prog 183:=okw (V:=z5g) mixed gok0 0 (λ_=>[]) (λ_=>[]) [] Tryz.func183 λ(b:Bool) _=>by
 unfold z5g;cases b<;>exact⟨(),Z8,trivial⟩
def zUu:mgoodC.ok Tryz.prog 184:=okw (V:=yCp) mixed gok0 0 (λ_=>[]) (λ_=>[]) [] Tryz.func184 λ(i:GoI) _=>by
 obtain⟨s,p,x⟩:=i;unfold yCp;cases s
 ·refine Cv.cnd.mk (λ_=>zH (λc=>⟨(),?_,trivial⟩) (λc=>Cv.cnd.mk (λe=>by simp[zC]at e) (λ_=>⟨(),?_,trivial⟩))) (λe=>by simp[zC]at e)
  ·exact y1v c
  ·exact y1s c
 ·exact Cv.cnd.mk (λe=>by simp[zC]at e) (λ_=>Cv.cnd.mk (λ_=>⟨(),rfl,trivial⟩) (λe=>by simp[zC]at e))
def zYa {L:List zG} {s:Int}:((bestL L s).2=ao/\∃o∈L,o.side=s/\o.price=(bestL L s).1.price)\/(bestL L s=(⟨0,0,0⟩,ap)/\∀o∈L,o.side≠s):=by
 rw[bestL];cases hl:uD L s with
 |nil=>
  refine .inr ⟨rfl,λo ho e=> ?_⟩;rw[uD]at hl;cases hf:L.filter λo=>decide (o.side=s)with
  |nil=>
   rw[List.filter_eq_nil_iff]at hf;have:=hf o ho;simp[e]at this
  |cons x y=>
   rw[hf,grp]at hl;split at hl
   ·cases hl
   ·split at hl<;>cases hl
 |cons v vs=>
  refine .inl ⟨rfl,?_⟩;rw[uD]at hl;obtain⟨o,r,e1,e2⟩:=zNa hl;have:o∈L.filter λo=>decide (o.side=s):=by rw[e1];exact y1f
  rw[y2x]at this;exact⟨o,this.1,by simpa using this.2,e2⟩
def zUd {L:List zG} {s:Int} (h:∀o∈L,-2000000<=o.price/\o.price<=2000000): -2000000<=(bestL L s).1.price/\(bestL L s).1.price<=2000000:=by
 rcases zYa (L:=L) (s:=s)with⟨_,o,ho,_,e⟩|⟨e,_⟩
 ·rw[<- e];exact h o ho
 ·rw[e];constructor<;>decide
def zIw (L:List zG):(qI L).p1=(bestL L 1).1.price/\(qI L).q1=(bestL L 1).1.qty/\(qI L).has1=(bestL L 1).2/\(qI L).p2=(bestL L 2).1.price/\(qI L).q2=(bestL L 2).1.qty/\(qI L).has2=(bestL L 2).2:=by
 have h:∀s,(bestL L s).2=ao\/bestL L s=(⟨0,0,0⟩,ap):=λs=>by
  rcases zYa (L:=L) (s:=s)with⟨h,_⟩|⟨h,_⟩
  ·exact .inl h
  ·exact .inr h
 rw[qI,Top.sell,Top.buy];rcases h 1 with h1|h1<;>rcases h 2 with h2|h2<;>simp[h1,h2,top0]
def BOk.prices {p:Prd} {B:List (List zG)} (h:BOk p B) {k:Nat} {L:List zG} (hL:B[k]? =ar L):∀o∈L,-2000000<=o.price/\o.price<=2000000:=λo ho=>sG h.pc (h.pr k L hL o ho)
def BOk.tops {p:Prd} {B:List (List zG)} (h:BOk p B):wJ (B.map qI):=by
 have:=xN p;refine⟨by rw[y0z,h.bl];omega,λt ht=> ?_⟩;obtain⟨L,hL,rfl⟩:=y2m.1 ht;obtain⟨k,hk⟩:=y3m.1 hL;have b1:=zUd (s:=1) (h.prices hk);have b2:=zUd (s:=2) (h.prices hk);rw[(zIw L).1,(zIw L).2.2.2.1];exact⟨by constructor<;>omega,by constructor<;>omega⟩
def MSt.Rep.tops {s:MSt} {p:Prd} {B:List (List zG)} (h:s.Rep p B):s.tops=B.map qI:=by
 rw[MSt.tops];apply y5c;intro k;rw[y2n,y2n];by_cases hk:k<B.length
 ·obtain⟨L,hL⟩:=yE hk;obtain⟨b,hb⟩:=yE (l:=s.books) (i:=k) (by rw[h.bl];exact hk);rw[hL,hb,y3b,y3b,(h.bk k b L hb hL).top]
 ·rw[y2i (by rw[h.bl];omega),y2i (by omega)];rfl
def MSt.Rep.cnt {s:MSt} {p:Prd} {B:List (List zG)} (h:s.Rep p B) (hB:B.length<=1000000):s.cntOk:=by
 refine⟨by rw[h.bl];exact hB,λb hb=> ?_⟩;obtain⟨k,hk⟩:=y3m.1 hb;have hlt:=(y1c.1 hk).1;rw[h.bl]at hlt;obtain⟨L,hL⟩:=yE hlt;exact(h.bk k b L hk hL).cnt
def zXy {b:Book} {L:List zG} (h:b.Rep L) (sd:Bool):b.best (b.side sd)=bestL L (zC sd):=by
 obtain⟨Q,c,ht,rfl⟩:=h;cases sd
 ·exact c.bestL (.inl rfl)
 ·exact c.bestL (.inr rfl)
def zEb (sd:Bool):zC sd=1\/zC sd=2:=by cases sd;exact .inl rfl;exact .inr rfl
def yXe (i:NxI) (h:nextC.cnd i):yMw i:=by
 obtain⟨hR,hB,h0,h1⟩:i.s.Rep i.p i.B/\BOk i.p i.B/\0<=i.inst/\i.inst<i.B.length:=h;have hcl:=xN i.p;have hbl:=hB.bl;have hsl:=hR.bl;obtain⟨k,hk⟩:∃k:Nat,i.inst=k:=⟨i.inst.toNat,oM⟩
 obtain⟨L,hL⟩:=yE (l:=i.B) (i:=k) oM;obtain⟨b,hb⟩:=yE (l:=i.s.books) (i:=k) oM;have hbR:=hR.bk k b L hb hL;have hps:i.s.p.small:=by rw[hR.ep];exact hB.ps
 have hto:wJ i.s.tops:=by rw[hR.tops];exact hB.tops
 have hnx:yO i.p i.B i.inst (zC i.sd)=if((bestL L (zC i.sd)).2 && !((zU (xO ⟨i.s.p,i.s.tops,i.inst⟩ (zC i.sd)) (zC i.sd)).2 && btr (zC i.sd) (zU (xO ⟨i.s.p,i.s.tops,i.inst⟩ (zC i.sd)) (zC i.sd)).1.price (bestL L (zC i.sd)).1.price))=ao then(⟨(bestL L (zC i.sd)).1.price,(bestL L (zC i.sd)).1.qty,⟨0,0⟩,⟨0,0⟩⟩,ap,ao)else((zU (xO ⟨i.s.p,i.s.tops,i.inst⟩ (zC i.sd)) (zC i.sd)).1,(zU (xO ⟨i.s.p,i.s.tops,i.inst⟩ (zC i.sd)) (zC i.sd)).2,(zU (xO ⟨i.s.p,i.s.tops,i.inst⟩ (zC i.sd)) (zC i.sd)).2):=by
  rw[yO,hR.tops,hR.ep,hk,y1o,zV hL]
 have hbest:=zXy hbR i.sd;unfold yMw g7 zRw qN u9 zJd wG zLl zX zLh z7 zGw g9 zGt;have hcnt:i.s.cntOk:=hR.cnt oM;have hql:(xO ⟨i.s.p,i.s.tops,i.inst⟩ (zC i.sd)).length<=1000000:=by
  have:=y3u (y4i (λq=>decide (i.s.p.price i.inst q.price=0)) _) (zCd ⟨i.s.p,i.s.tops,i.inst⟩ (zC i.sd));exact y3u this Z8
 refine(λhT=>⟨⟨i.s,rF8 (rF4 ⟨rfl,hcnt,λ_ _=>⟨⟨rfl,trivial,rF7 ⟨rfl,trivial,trivial⟩⟩,⟨⟨⟨i.s.p,i.s.tops,i.inst⟩,i.sd⟩,rF8 (rF5 ⟨rfl,⟨hps,hto⟩,λ_ _=>⟨hT,hT⟩⟩)⟩,⟨rfl,trivial,rF7 ⟨rfl,trivial,trivial⟩⟩,⟨⟨⟨i.s.p,i.s.tops,i.inst⟩,i.sd⟩,rF8 (rF5 ⟨rfl,⟨hps,hto⟩,λ_ _=>hT⟩)⟩⟩⟩)⟩,
  ⟨rfl,trivial,rF7 ⟨rfl,trivial,trivial⟩⟩,⟨i.s,rF8 (rF4 ⟨rfl,hcnt,λ_ _=>⟨⟨rfl,trivial,rF7 ⟨rfl,trivial,trivial⟩⟩,⟨⟨⟨i.s.p,i.s.tops,i.inst⟩,i.sd⟩,rF8 (rF5 ⟨rfl,⟨hps,hto⟩,λ_ _=>hT⟩)⟩⟩⟩)⟩⟩) ?_
 refine⟨⟨xO ⟨i.s.p,i.s.tops,i.inst⟩ (zC i.sd),zC i.sd⟩,rfl,rfl,⟨zEb _,hql⟩,λ_ _=>⟨⟨h0,oM⟩,oM,b,by rw[hk];exact hb,⟨i.sd,b⟩,rfl,rfl,hbR.cnt,λ_ _=>⟨b,rfl,rfl,oM,?_⟩⟩⟩;dsimp only;rw[hbest];generalize bestL L (zC i.sd)=l at*;generalize zU (xO ⟨i.s.p,i.s.tops,i.inst⟩ (zC i.sd)) (zC i.sd)=bq at*;have hset:i.s.books.set i.inst.toNat b=i.s.books:=vQ (by rw[hk];exact hb);rw[hset];refine Cv.cnd.mk (λc1=>Cv.cnd.mk (λc2=>⟨⟨zC i.sd,bq.1.price,l.1.price⟩,rfl,rfl,rfl,trivial,λ_ _=>Cv.cnd.mk (λc3=> ?_) (λc3=> ?_)⟩) (λc2=> ?_)) (λc1=> ?_)
 ·dsimp only at c3;rw[y1a (by rw[c1,c2];simpa using c3)]at hnx;rw[hnx];exact⟨(),k0q⟩
 ·dsimp only at c3;rw[y0y (by rw[c1,c2];simpa using c3)]at hnx;rw[hnx];exact⟨(),k0q⟩
 ·rw[y1a (by rw[c1,c2];rfl)]at hnx;rw[hnx];exact⟨(),k0q⟩
 ·rw[y0y (by rw[c1];simp)]at hnx;rw[hnx];exact⟨(),k0q⟩
def yKy:nextC.ok Tryz.prog 190:=okw mixed (gokc zWh (gokc zPv (gokc zWp (gokc zJj (gokc aM gok0))))) 0 (λ_=>[]) (λ_=>[]) [0] Tryz.func190 yXe
def z3u (i:RsI) (k:Nat):(i.add k).length=i.out.length:=by
 have:∀(l:List (Nat×Int)) (o:List Int),(l.foldl (λo y=>o.set y.1 (aq.wrap (o.getD y.1 0+y.2))) o).length=o.length:=by
  intro l
  induction l with
  |nil=>intro o;rfl
  |cons x l ih=>intro o;rw[y5d,ih,y2d]
 exact this _ _
def zVk (l:List Int) (q:Int):(uF l q).length<=l.length:=by
 rw[uF];split
 ·rw[sI];exact y1u _
 ·exact y2a _
def z9a (i:AlI):(qL i).length<=i.l.length:=by
 have hq:i.qs.length=i.l.length:=by simp[AlI.qs]
 rw[qL,<- hq]
 repeat' split
 ·exact zVk _ _
 ·rw[zDd];split
  ·rw[m5,z3u,PsI.rs];split
   ·simp
   ·simp
  ·exact y2a _
 ·rw[zBm];split
  ·rw[m5,z3u];exact zVk _ _
  ·exact y2a _
 ·exact y2a _
def zMd {inst s:Int}:∀{os:List zG} {sh:List Int} {j:Nat} {o:zG} {k:Int},os[j]? =ar o->sh[j]? =ar k->xP inst s (os.take (j+1)) (sh.take (j+1))=xP inst s (os.take j) (sh.take j)++(if 0<k then[⟨o.id,inst,s,o.price,k,o.qty-k⟩]else[])
 |[],_,_,_,_,h,_=>by simp at h
 |_::_,[],_,_,_,_,h=>by simp at h
 |o::os,k::sh,0,_,_,h,h2=>by
  cases h;cases h2;rw[y2j,y2j,y5w,y5w,y5w,y5w,xP];split<;>rfl
 |o::os,k::sh,j+1,o',k',h,h2=>by
  rw[y2j,y2j,xP,y2j,y2j,xP,zMd (os:=os) (sh:=sh) (j:=j) h h2];split<;>rfl
def zPk {inst s:Int}:∀(os:List zG) (sh:List Int),xP inst s (os.take sh.length) (sh.take sh.length)=xP inst s os sh
 |[],sh=>by simp
 |_::_,[]=>by simp[xP]
 |o::os,k::sh=>by
  rw[y1d,y2j,y2j,xP,xP,zPk os sh]
def z7o (B:List (List zG)) (a b:List dF):qZ B (a++b)=qZ (qZ B a) b:=y5q
def mR (B:List (List zG)) (id q:Int):(qM B id q).1.length=B.length:=by
 rw[qM];split
 ·rfl
 ·simp
def vS:∀(fs:List dF) (B:List (List zG)),(qZ B fs).length=B.length
 |[],B=>rfl
 |f::fs,B=>by
  show(qZ (qM B f.id f.qty).1 fs).length=_;rw[vS fs,mR]
def ySc {p:Prd} (h:p.check=0):y9 p.least/\y9 p.top/\y9 p.part:=by
 have ok:=jJ h;have:=ok.q1;have:=ok.q2;have:=ok.q3;have:=ok.q4;have:=ok.q5;have:=ok.q6;exact⟨⟨oM,oM⟩,⟨oM,oM⟩,⟨oM,oM⟩⟩
def yTi (i:TrI) (h:tradeC.cnd i):yDp i:=by
 obtain⟨hR,hB,h0,h1,hq⟩:i.s.Rep i.p i.B/\BOk i.p i.B/\0<=i.inst/\i.inst<i.B.length/\y9 i.q:=h;have hcl:=xN i.p;have hbl:=hB.bl;have hsl:=hR.bl;have ep:=hR.ep;obtain⟨k,hk⟩:∃k:Nat,i.inst=k:=⟨i.inst.toNat,oM⟩
 obtain⟨L,hL⟩:=yE (l:=i.B) (i:=k) oM;obtain⟨b,hb⟩:=yE (l:=i.s.books) (i:=k) oM;have hbR:=hR.bk k b L hb hL;have hbest:=zXy hbR i.sd;have hos:atL L (zC i.sd) (bestL L (zC i.sd)).1.price=i.os:=by rw[TrI.os,zRn,hk,y1o,zV hL]
 have hset:i.s.books.set i.inst.toNat b=i.s.books:=vQ (by rw[hk];exact hb);have hosl:i.os.length<=250:=by
  rw[<- hos];exact y3u (y4i _ _) hbR.ords.2.2
 have hsh:i.sh.length<=i.os.length:=z9a _;obtain⟨k1,k2,k3⟩:=ySc hB.pc;have hsb:∀(j:Nat) (n:Int),i.sh[j]? =ar n->n<=1000000:=by
  intro j n hn;cases hr:yQ (i.os.map (·.qty)) i.q with
  |false=>
   have:i.sh=[]:=zZk hr;rw[this]at hn;cases hn
  |true=>
   have:=(zTq hB.pc hr).bd j;have e:(qL ⟨i.p,i.os,i.q⟩).getD j 0=n:=zV hn;rw[e]at this;have:=(z4z (kG hr).2.2.1 j).2;omega
 unfold yDp zGn vJ fG bD fS uP zX wG dI;refine⟨⟨h0,oM⟩,oM,b,by rw[hk];exact hb,⟨i.sd,b⟩,rfl,rfl,hbR.cnt,λ_ _=> ?_⟩;refine⟨b,rfl,rfl,oM,b,by rw[hset,hk];exact hb,⟨b,L,i.sd,(bestL L (zC i.sd)).1.price⟩,rfl,by dsimp only;rw[hbest],rfl,hbR,λ_ _=> ?_⟩;dsimp only
 try rw[hbest]
 rw[hset,hos];refine⟨b,rfl,rfl,oM,⟨i.p,i.os,i.q⟩,by rw[ep],by rw[ep],by rw[ep],by rw[ep],by rw[ep],by rw[ep],by rw[ep],by rw[ep],by rw[ep],by rw[ep],by rw[ep],rfl,rfl,⟨Z9,hq,k1,k2,k3⟩,λ_ _=> ?_⟩;have esh:qL ⟨i.p,i.os,i.q⟩=i.sh:=rfl;rw[esh,hset,y3,y0z];refine⟨(0,i.s),rF8 (rF6 ⟨rfl,λj=>j.2.Rep i.p (qZ i.B (i.fs j.1))/\j.1<=i.sh.length,λj=>i.sh.length-j.1,⟨hR,y2a _⟩,λj hj=> ?_⟩)⟩;obtain⟨hjR,hjl⟩:=hj;obtain⟨j,sj⟩:=j;dsimp only at hjR hjl ⊢;refine zH (λc=> ?_) (λc=> ?_)
 ·obtain⟨n,hn⟩:=yE (l:=i.sh) (i:=j) oM;obtain⟨o,ho⟩:=yE (l:=i.os) (i:=j) oM;have hst:=zMd (inst:=i.inst) (s:=zC i.sd) ho hn;have hoL:o∈L:=by
   have:=y1j ho;rw[<- hos]at this;exact(y2x.1 this).1
  have hoq:=(hbR.ords.1 o hoL).q;have hnb:=hsb j n hn;refine⟨⟨oM,oM⟩,n,elI hn,zH (λc2=> ?_) (λc2=> ?_)⟩
  ·rw[y1a (show 0<n from c2)]at hst;have hfl:(i.fs j).length<=j:=by
    have:∀(os:List zG) (sh:List Int),(xP i.inst (zC i.sd) os sh).length<=os.length:=by
     intro os
     induction os with
     |nil=>intro sh;exact y1u 0
     |cons o os ih=>
      intro sh;cases sh with
      |nil=>exact y2a _
      |cons k sh=>
       have:=ih sh;rw[xP];split
       ·simp only[y1d];omega
       ·simp only[y1d];omega
    exact y3u (this _ _) (by rw[y1q];omega)
   refine⟨⟨oM,oM⟩,o.id,o.side,o.price,o.qty,o.top,yQy ho,⟨sj,i.p,qZ i.B (i.fs j),o.id,n⟩,rfl,rfl,rfl,⟨hjR,by dsimp only;rw[vS];omega⟩,λs' hs'=>⟨by rw[y0z];omega,(j+1,s'),wjn oM,rfl,?_,⟨?_,Z9⟩,Z9,k0q⟩⟩
   ·show aa yR (xP i.inst (zC i.sd) (i.os.take (j+1)) (i.sh.take (j+1)))=_;rw[hst,y1i,w64 (by omega)];rfl
   ·show s'.Rep i.p (qZ i.B (xP i.inst (zC i.sd) (i.os.take (j+1)) (i.sh.take (j+1))));rw[hst,z7o];exact hs'
  ·rw[y0y (show ¬0<n from c2),y1t]at hst;refine⟨(j+1,sj),wjn oM,rfl,?_,⟨?_,Z9⟩,Z9,k0q⟩
   ·show aa yR (xP i.inst (zC i.sd) (i.os.take (j+1)) (i.sh.take (j+1)))=_;rw[hst];rfl
   ·show sj.Rep i.p (qZ i.B (xP i.inst (zC i.sd) (i.os.take (j+1)) (i.sh.take (j+1))));rw[hst];exact hjR
 ·have hje:j=i.sh.length:=by omega
  subst hje;have hfa:i.fs i.sh.length=qC i.p i.B i.inst (zC i.sd) i.q:=zPk _ _;rw[hfa]at hjR ⊢;exact⟨sj,rfl,rfl,hjR⟩
def yDw:tradeC.ok Tryz.prog 191:=okw mixed (gokc zJj (gokc yWb (gokc yCi (gokc zDq gok0)))) 0 (λ_=>[]) (λi=>yPe i) [0] Tryz.func191 yTi
structure jT where
 price:Int
 qty:Int
 implied:Bool
 fills:List dF
 deriving DecidableEq
def jN (t:jT):List D:=[.v (.int .i64 t.price),.v (.int .i64 t.qty),.v (.bool t.implied),.ro 6 (t.fills.map yR)]
def aJ (p:Prd) (B:List (List zG)) (inst:Int) (sd:Bool) (price qty:Int):Option (jT×List (List zG)):=
 let n:=yO p B inst (zC (!sd))
 if(n.2.2 && (dX sd price n.1.price && decide (1<=n.1.qty)))=ao then
  if n.2.1=ao then
   let f1:=qC p B n.1.a.inst n.1.a.side (min qty n.1.qty)
   let f2:=qC p (qZ B f1) n.1.b.inst n.1.b.side (min qty n.1.qty)
   ar (⟨n.1.price,min qty n.1.qty,ao,f1++f2⟩,qZ (qZ B f1) f2)
  else
   let f:=qC p B inst (zC (!sd)) (min qty n.1.qty)
   ar (⟨n.1.price,min qty n.1.qty,ap,f⟩,qZ B f)
 else au
structure ySh where
 steps:List jT
 left:Int
 B:List (List zG)
def zIl (p:Prd) (inst:Int) (sd:Bool) (price:Int):Nat->List (List zG)->Int->ySh
 |0,B,q=>⟨[],q,B⟩
 |n+1,B,q=>if q<=0 then⟨[],q,B⟩else match aJ p B inst sd price q with
  |none=>⟨[],q,B⟩
  |some (t,B')=>let r:=zIl p inst sd price n B' (q-t.qty);⟨t::r.steps,r.left,r.B⟩
def jP (p:Prd) (B:List (List zG)) (inst:Int) (sd:Bool) (price q:Int):ySh:=zIl p inst sd price q.toNat B q
structure RunI where
 s:MSt
 p:Prd
 B:List (List zG)
 inst:Int
 sd:Bool
 price:Int
 q:Int
def RunI.r (i:RunI):ySh:=jP i.p i.B i.inst i.sd i.price i.q
def runC:Con where
 ι:=RunI
 pat:=λi=>[.nm 0 0,zA i.inst,zA (zC i.sd),zA i.price,zA i.q]
 pre:=λi=>[zD i.s]
 cnd:=λi=>i.s.Rep i.p i.B/\BOk i.p i.B/\(0<=i.inst/\i.inst<i.B.length)/\1<=i.q/\i.q<=1000000
 alts:=λi=>[{o:=MSt,res:=λ_=> .tup [.own 1,zA i.r.left],post:=λs=>[zD s,.own 290 4 (i.r.steps.map jN)],rel:=λs=>s.Rep i.p i.r.B}]
structure zNs where
 s:MSt
 B:List (List zG)
 steps:List jT
 q:Int
def y0j:List SAnn:=[
 {ι:=zNs,slots:=λj=>[(0,.nm 0 0),(12,.own 1),(4,zA j.q)],rows:=λj=>[zD j.s,.own 290 4 (j.steps.map jN)]},
 {ι:=Unit,slots:=λ_=>[],rows:=λ_=>[],un:=3}]
def zNp (a:zNs->Nat) (b:zNs) (c:zNs) (d:RunI):Prop:=a b<a c/\da (ae 1 (iE d.s.p.months))/\da (ae 1 (iE d.s.p.settle))
def zEc (a:TrI):Prop:=a.s.Rep a.p a.B/\BOk a.p a.B/\0<=a.inst/\a.inst<(↑a.B.length:Int)/\(-9223372036854775808)<=a.q/\a.q<=9223372036854775807
def zLu (a:RunI) (b:zNs) (c:NxI):Prop:=∃(d:MSt),a.r.left=b.q/\zD d=zD c.s/\aa jN a.r.steps=aa jN b.steps/\d.Rep a.p a.r.B
def tN (a:TrI):=(aa yR (uP a))
def z0m (a:RunI):Prop:=∃(b:zNs),b.q=a.q/\sb b.s.p.code=sb a.s.p.code/\b.s.p.tick=a.s.p.tick/\b.s.p.low=a.s.p.low/\b.s.p.high=a.s.p.high/\b.s.p.wide=a.s.p.wide/\b.s.p.rule=a.s.p.rule/\b.s.p.top=a.s.p.top/\b.s.p.least=a.s.p.least/\b.s.p.part=a.s.p.part/\af 197 Book 6 zO b.s.books au=af 197 Book 6 zO a.s.books au/\yM b.s.wh=yM a.s.wh/\ae 1 (iE b.s.p.months)=ae 1 (iE a.s.p.months)/\ae 1 (iE b.s.p.settle)=ae 1 (iE a.s.p.settle)/\aa jN b.steps=[]/\∃(c:zNs->Prop),∃(d:zNs->Nat),c b/\∀(e:zNs),c e->cnd (decide (e.q>0)) (∃(f:Bool),zC f=zC a.sd/\True/\∀(g:Unit),True->∃(h:NxI),h.inst=a.inst/\zC h.sd=zC !f/\zD h.s=zD e.s/\(h.s.Rep h.p h.B/\BOk h.p h.B/\0<=h.inst/\h.inst<(↑h.B.length:Int))/\∀(j:Unit),True->cnd (!(z7 h).snd.snd) (zLu a e h) (∃(k:GoI),zC k.s=zC a.sd/\k.p=a.price/\k.x=(z7 h).fst.price/\True/\∀(l:Unit),True->cnd (!dX k.s k.p k.x) (zLu a e h) (cnd (z7 h).snd.fst (∃(m:TrI),m.inst=(z7 h).fst.a.inst/\zC m.sd=(z7 h).fst.a.side/\m.q=min e.q (z7 h).fst.qty/\zD m.s=zD h.s/\(zEc m)/\∀(n:MSt),n.Rep m.p (fS m)->True/\(tN m).length*(48:Nat)<=(140737488355328:Nat)/\∃(p:TrI),p.inst=(z7 h).fst.b.inst/\zC p.sd=(z7 h).fst.b.side/\p.q=min e.q (z7 h).fst.qty/\zD p.s=zD n/\(zEc p)/\∀(q:MSt),q.Rep p.p (fS p)->True/\((tN m).length+(tN p).length)*(48:Nat)<=(140737488355328:Nat)/\((aa jN e.steps).length+1)*(48:Nat)<=(140737488355328:Nat)/\∃(r:zNs),r.q=aq.wrap (e.q-min e.q (z7 h).fst.qty)/\zD r.s=zD q/\aa jN r.steps=aa jN e.steps++[[dI ((z7 h).fst.price),dI (min e.q (z7 h).fst.qty),D.v (.bool (z7 h).snd.fst),D.ro 6 (aa yR (uP m)++aa yR (uP p))]]/\c r/\zNp d r e a) (∃(m:Bool),zC m=zC a.sd/\True/\∀(n:Unit),True->da (min e.q (z7 h).fst.qty)/\∃(p:TrI),p.inst=a.inst/\zC p.sd=zC !m/\p.q=min e.q (z7 h).fst.qty/\zD p.s=zD h.s/\(zEc p)/\∀(q:MSt),q.Rep p.p (fS p)->((aa jN e.steps).length+1)*(48:Nat)<=(140737488355328:Nat)/\∃(r:zNs),r.q=aq.wrap (e.q-min e.q (z7 h).fst.qty)/\zD r.s=zD q/\aa jN r.steps=aa jN e.steps++[[dI ((z7 h).fst.price),dI (min e.q (z7 h).fst.qty),D.v (.bool (z7 h).snd.fst),D.ro 6 (tN p)]]/\c r/\zNp d r e a)))) (∃(f:MSt),a.r.left=e.q/\zD f=zD e.s/\aa jN a.r.steps=aa jN e.steps/\f.Rep a.p a.r.B)
def aY (a:RunI):Prop:=∃(b:MSt),a.r.left=a.q/\sb b.p.code=sb a.s.p.code/\b.p.tick=a.s.p.tick/\b.p.low=a.s.p.low/\b.p.high=a.s.p.high/\b.p.wide=a.s.p.wide/\b.p.rule=a.s.p.rule/\b.p.top=a.s.p.top/\b.p.least=a.s.p.least/\b.p.part=a.s.p.part/\af 197 Book 6 zO b.books au=af 197 Book 6 zO a.s.books au/\yM b.wh=yM a.s.wh/\ae 1 (iE b.p.months)=ae 1 (iE a.s.p.months)/\ae 1 (iE b.p.settle)=ae 1 (iE a.s.p.settle)/\aa jN a.r.steps=[]/\b.Rep a.p a.r.B
def yVa (i:RunI):Prop:=
 cnd (decide (i.inst>=0)) (cnd (decide (i.inst<(↑i.s.books.length:Int))) (cnd (zC i.sd==1) (cnd (decide (i.q>=1)) (cnd (!decide (i.q<=1000000)) (aY i) (z0m i)) (aY i)) (cnd (zC i.sd==2) (cnd (decide (i.q>=1)) (cnd (!decide (i.q<=1000000)) (aY i) (z0m i)) (aY i)) (aY i))) (aY i)) (aY i)
structure QOk (T:List Top) (q:Quote):Prop where
 a:0<=q.a.inst/\q.a.inst<T.length
 b:0<=q.b.inst/\q.b.inst<T.length
 sa:q.a.side=1\/q.a.side=2
 sb:q.b.side=1\/q.b.side=2
 ne:q.a.inst≠q.b.inst
 ha:(T.getD q.a.inst.toNat top0).has q.a.side=ao
 hb:(T.getD q.b.inst.toNat top0).has q.b.side=ao
 qty:q.qty=min ((T.getD q.a.inst.toNat top0).qty q.a.side) ((T.getD q.b.inst.toNat top0).qty q.b.side)
def z2i {T:List Top} {a b:Leg} {less:Bool} {q:Quote} (h:q∈mkq T a b less) (h1:0<=a.inst/\a.inst<T.length) (h2:0<=b.inst/\b.inst<T.length) (h3:a.side=1\/a.side=2) (h4:b.side=1\/b.side=2) (hne:a.inst≠b.inst):QOk T q/\q.a=a/\q.b=b:=by
 cases less
 all_goals
  simp only[mkq,y1p,↓reduceIte]at h;split at h
  ·rename_i hc;simp only[y1l]at hc;rw[y2l]at h;subst h;exact⟨⟨h1,h2,h3,h4,hne,hc.1.1,hc.1.2,rfl⟩,rfl,rfl⟩
  ·cases h
def yRv:∀n≤6,∀k<n+n*(n-1) / 2,n<=k->(kU n k n 0).1≠(kU n k n 0).2.1:=by decide
def z4n {p:Prd} (hc:p.check=0) {k:Nat} (hk:k<p.count) (hs:(p.legs k).2.2=ao):(p.legs k).1≠(p.legs k).2.1:=by
 have m6:=(jJ hc).m6;have hk':=hk;rw[Prd.count,y1a hc]at hk';by_cases h:k<p.months.length
 ·rw[Prd.legs,y0y (by omega),y1a (by omega)]at hs;cases hs
 ·rw[Prd.legs,y0y (by omega),y0y (by omega)];exact yRv p.months.length m6 k hk' oM
def z7r:∀n≤6,∀a<n,∀b<n,a<b->(y8 n a:Int)+b-a-1>=n:=by decide
def zPj {p:Prd} (hc:p.check=0) {a b:Nat} (hab:a<b) (hb:b<p.months.length):(p.months.length:Int)<=(p.spread a b).1:=by
 have m6:=(jJ hc).m6;have:=z7r p.months.length m6 a oM b hb hab;rw[Prd.spread,y0y (by omega)];simpa using this
def z6n {p:Prd} (hc:p.check=0) {T:List Top} (hT:T.length=p.count) {inst:Int} {s:Int} (hs:s=1\/s=2) {q:Quote} (h:q∈qP ⟨p,T,inst⟩ s):QOk T q/\0<=inst/\inst<p.count/\
 (((p.legs inst).2.2=ao/\q.a=⟨(p.legs inst).1,s⟩/\q.b=⟨(p.legs inst).2.1,3-s⟩)\/(inst<p.months.length/\q.a.inst≠inst/\(p.months.length:Int)<=q.a.inst)):=by
 rw[qP]at h;dsimp only at h;split at h
 ·cases h
 ·rename_i hn;have h0:0<=inst/\inst<p.count:=by omega
  obtain⟨k,rfl⟩:∃k:Nat,inst=k:=⟨inst.toNat,oM⟩
  have hk:k<p.count:=by omega
  have hge:=zLd hc;split at h
  ·rename_i hl;obtain⟨q',hq',rfl⟩:=y2m.1 h;have hle:=dN hc hk;rcases hle with⟨_,l1,l2,l3,l4⟩|⟨e,_⟩
   ·obtain⟨ok,e1,e2⟩:=z2i hq' Z9 Z9 Z9 hs (λe=>z4n hc hk hl e.symm);refine⟨⟨by dsimp only[dW];omega,by dsimp only[dW];omega,hs,by dsimp only[dW];omega,z4n hc hk hl,?_,?_,?_⟩,h0.1,h0.2,.inl ⟨hl,rfl,rfl⟩⟩
    ·have:=ok.hb;rw[e2]at this;exact this
    ·have:=ok.ha;rw[e1]at this;exact this
    ·have:=ok.qty;rw[e1,e2]at this;dsimp only[dW];rw[this];exact Int.min_comm _ _
   ·rw[e]at hl;cases hl
  ·rename_i hl;have hm:k<p.months.length:=by
    rcases dN hc hk with⟨e,_⟩|⟨_,e⟩
    ·exact absurd e hl
    ·exact e
   rcases y2f.1 h with h|h
   ·obtain⟨j,hj,h⟩:=y3t.1 h;have hj:=y4f.1 hj;rw[y1o]at hj;have s1:=cT hc (a:=k) (b:=k+1+j) oM oM;have s2:=zPj hc (a:=k) (b:=k+1+j) oM oM;have ec:((k:Int)+1+j)=((k+1+j:Nat):Int):=by omega
    rw[ec]at h;obtain⟨ok,e1,e2⟩:=z2i h Z9 Z9 hs hs Z9;exact⟨ok,h0.1,h0.2,.inr ⟨oM,by rw[e1];dsimp only;omega,by rw[e1];exact s2⟩⟩
   ·obtain⟨j,hj,h⟩:=y3t.1 h;have hj:=y4f.1 hj;rw[y1o]at hj;have s1:=cT hc (a:=j) (b:=k) oM oM;have s2:=zPj hc (a:=j) (b:=k) oM oM;obtain⟨ok,e1,e2⟩:=z2i h Z9 Z9 Z9 hs Z9;exact⟨ok,h0.1,h0.2,.inr ⟨oM,by rw[e1];dsimp only;omega,by rw[e1];exact s2⟩⟩
def zQf {s:Int}:∀(r:List Quote) (q:Quote),r.foldl (λb q=>if btr s q.price b.price then q else b) q∈q::r
 |[],q=>y1f
 |x::r,q=>by
  rw[y5d];have:=zQf (s:=s) r (if btr s x.price q.price then x else q);rcases y1r.1 this with e|h
  ·rw[e];split
   ·exact y1g _ y1f
   ·exact y1f
  ·exact y1g _ (y1g _ h)
def zFq {l:List Quote} {s:Int} (h:(zU l s).2=ao):(zU l s).1∈l:=by
 cases l with
 |nil=>cases h
 |cons q r=>exact zQf r q
def yLx (B:List (List zG)):Prop:=∀(k:Nat) (L:List zG),B[k]?=ar L->(∀o∈L,zMt o)/\(L.map (·.id)).Nodup/\L.length<=250
def MSt.Rep.ords {s:MSt} {p:Prd} {B:List (List zG)} (h:s.Rep p B):yLx B:=by
 intro k L hL;obtain⟨b,hb⟩:=yE (l:=s.books) (i:=k) (by rw[h.bl];exact(y1c.1 hL).1);exact(h.bk k b L hb hL).ords
def z2s:∀{l:List zG} {v:Lv},(∀o∈l,zMt o)->v∈grp l->1<=v.qty/\v.qty<=1000000*l.length
 |[],v,_,h=>by cases h
 |o::l,v,ho,h=>by
  have h0:=(ho o y1f).q;have ih:∀v∈grp l,1<=v.qty/\v.qty<=1000000*l.length:=λv hv=>z2s (λx hx=>ho x (y1g _ hx)) hv
  rw[grp]at h;rw[y1d];split at h
  ·rw[y2l]at h;subst h;dsimp only;omega
  ·rename_i w ws e;rw[e]at ih;have hw:=ih w y1f;split at h
   ·rcases y1r.1 h with rfl|h
    ·dsimp only;omega
    ·have:=ih v (y1g _ h);omega
   ·rcases y1r.1 h with rfl|h
    ·dsimp only;omega
    ·have:=ih v h;omega
def z0e {L:List zG} {s:Int} (h:∀o∈L,zMt o) (hl:L.length<=250) (hb:(bestL L s).2=ao):1<=(bestL L s).1.qty/\(bestL L s).1.qty<=250000000:=by
 rw[bestL]at hb ⊢;cases hl2:uD L s with
 |nil=>rw[hl2]at hb;cases hb
 |cons v vs=>
  dsimp only;have hm:v∈grp (L.filter λo=>decide (o.side=s)):=by rw[<- uD,hl2];exact y1f
  have:=z2s (λo ho=>h o (y2x.1 ho).1) hm;have:=y4i (λo:zG=>decide (o.side=s)) L;omega
def yGd {B:List (List zG)} {k:Nat} {L:List zG} (hL:B[k]? =ar L):(B.map qI).getD k top0=qI L:=zV (by rw[y2n,hL];rfl)
def zJk (L:List zG) {s:Int} (hs:s=1\/s=2):(qI L).has s=(bestL L s).2/\(qI L).qty s=(bestL L s).1.qty/\(qI L).price s=(bestL L s).1.price:=by
 obtain⟨e1,e2,e3,e4,e5,e6⟩:=zIw L;rcases hs with rfl|rfl
 ·exact⟨e3,e2,e1⟩
 ·exact⟨e6,e5,e4⟩
def z2t {p:Prd} {B:List (List zG)} (h:BOk p B) (ho:yLx B) {inst:Int} (hi:0<=inst/\inst<B.length) {s:Int} (hs:s=1\/s=2) (hn:(yO p B inst s).2.2=ao):
 (1<=(yO p B inst s).1.qty/\(yO p B inst s).1.qty<=250000000)/\((yO p B inst s).2.1=ao->(yO p B inst s).1∈qP ⟨p,B.map qI,inst⟩ s/\QOk (B.map qI) (yO p B inst s).1)/\
 ((yO p B inst s).2.1=ap->(bestL (B.getD inst.toNat []) s).2=ao/\(yO p B inst s).1.price=(bestL (B.getD inst.toNat []) s).1.price/\(yO p B inst s).1.qty=(bestL (B.getD inst.toNat []) s).1.qty):=by
 obtain⟨k,rfl⟩:∃k:Nat,inst=k:=⟨inst.toNat,oM⟩
 obtain⟨L,hL⟩:=yE (l:=B) (i:=k) oM;have hLo:=ho k L hL;rw[yO]at hn ⊢;rw[y1o,zV hL]at hn ⊢;split
 ·rename_i c;simp only[y1l]at c;exact⟨z0e hLo.1 hLo.2.2 c.1,⟨λe=>(by cases e),λ_=>⟨c.1,rfl,rfl⟩⟩⟩
 ·rename_i c;rw[y0y c]at hn;dsimp only at hn ⊢;have hm:=zFq hn;have ha:(zU (xO ⟨p,B.map qI,k⟩ s) s).1∈qP ⟨p,B.map qI,k⟩ s:=(y2x.1 hm).1;obtain⟨ok,_⟩:=z6n h.pc (by rw[y0z];exact h.bl) hs ha;refine⟨?_,λ_=>⟨ha,ok⟩,λe=>by rw[hn]at e;cases e⟩;generalize (zU (xO ⟨p,B.map qI,k⟩ s) s).1=q at ok;have a:=ok.a;have b:=ok.b;rw[y0z]at a b;obtain⟨La,hLa⟩:=yE (l:=B) (i:=q.a.inst.toNat) oM;obtain⟨Lb,hLb⟩:=yE (l:=B) (i:=q.b.inst.toNat) oM;have e1:=ok.ha;have e2:=ok.hb;have e3:=ok.qty;rw[yGd hLa]at e1 e3;rw[yGd hLb]at e2 e3;rw[(zJk La ok.sa).1]at e1;rw[(zJk Lb ok.sb).1]at e2;rw[(zJk La ok.sa).2.1,(zJk Lb ok.sb).2.1]at e3;have:=z0e (ho _ _ hLa).1 (ho _ _ hLa).2.2 e1;have:=z0e (ho _ _ hLb).1 (ho _ _ hLb).2.2 e2;omega
def yAa {L:List zG} {id q:Int} {o:zG} (h:o∈(xR L id q).1):∃o'∈L,o.price=o'.price/\o.side=o'.side/\o.id=o'.id:=by
 rw[xR]at h;split at h
 ·exact⟨o,h,rfl,rfl,rfl⟩
 split at h
 ·exact⟨o,h,rfl,rfl,rfl⟩
 obtain⟨o',ho',e⟩:=y6a.1 h;refine⟨o',ho',?_⟩;split at e
 ·split at e
  ·cases e
  ·cases e;exact⟨rfl,rfl,rfl⟩
 ·cases e;exact⟨rfl,rfl,rfl⟩
def BOk.take {p:Prd} {B:List (List zG)} (h:BOk p B) (id q:Int):BOk p (qM B id q).1:=by
 refine⟨h.pc,h.ps,by rw[mR];exact h.bl,λk L hL o ho=> ?_⟩;rw[qM]at hL;split at hL
 ·exact h.pr k L hL o ho
 ·rename_i j hj;dsimp only at hL;rcases cK hL with⟨rfl,rfl⟩|⟨_,hL⟩
  ·obtain⟨o',ho',e,_⟩:=yAa ho;obtain⟨L',hL',_⟩:=uM hj;rw[zV hL']at ho';rw[e];exact h.pr k L' hL' o' ho'
  ·exact h.pr k L hL o ho
def BOk.takes {p:Prd}:∀{fs:List dF} {B:List (List zG)},BOk p B->BOk p (qZ B fs)
 |[],B,h=>h
 |f::fs,B,h=>BOk.takes (fs:=fs) (h.take f.id f.qty)
def zWi (inst s:Int):∀(os:List zG) (sh:List Int),(xP inst s os sh).length<=os.length
 |[],sh=>y1u 0
 |o::os,[]=>y2a _
 |o::os,k::sh=>by
  have:=zWi inst s os sh;rw[xP];split
  ·simp only[y1d];omega
  ·simp only[y1d];omega
def mG {p:Prd} {B:List (List zG)} (ho:yLx B) (inst s q:Int):(qC p B inst s q).length<=250:=by
 refine y3u (zWi _ _ _ _) (y3u (y4i _ _) ?_);by_cases h:inst.toNat<B.length
 ·obtain⟨L,hL⟩:=yE h;rw[zV hL];exact(ho _ _ hL).2.2
 ·rw[y1h,y2i (by omega)];exact y2a _
def zKk {p:Prd} {B:List (List zG)} {inst:Int} {sd:Bool} {price q:Int} {t:jT} {B':List (List zG)} (hq:1<=q) (h:aJ p B inst sd price q=ar (t,B')):1<=t.qty/\t.qty<=q:=by
 rw[aJ]at h;dsimp only at h;split at h
 ·rename_i c;simp only[y1l,y2v]at c;split at h
  ·cases h;dsimp only;omega
  ·cases h;dsimp only;omega
 ·cases h
def zYq {p:Prd} {inst:Int} {sd:Bool} {price:Int}:∀(m n:Nat) (B:List (List zG)) (q:Int),q.toNat<=m->q.toNat<=n->zIl p inst sd price m B q=zIl p inst sd price n B q
 |0,0,B,q,_,_=>rfl
 |0,n+1,B,q,h,_=>by rw[zIl,zIl,y1a (by omega)]
 |m+1,0,B,q,_,h=>by rw[zIl,zIl,y1a (by omega)]
 |m+1,n+1,B,q,h1,h2=>by
  rw[zIl,zIl];split
  ·rfl
  ·rename_i hq;cases hs:aJ p B inst sd price q with
   |none=>rfl
   |some x=>
    obtain⟨t,B'⟩:=x;have:=zKk oM hs;dsimp only;rw[zYq m n B' (q-t.qty) (by omega) (by omega)]
def tK {p:Prd} {B:List (List zG)} {inst:Int} {sd:Bool} {price q:Int} (h:q<=0\/aJ p B inst sd price q=au):jP p B inst sd price q=⟨[],q,B⟩:=by
 rw[jP];cases hn:q.toNat with
 |zero=>rfl
 |succ n=>
  rw[zIl];rcases h with h|h
  ·rw[y1a h]
  ·rw[y0y (by omega),h]
def zLa {p:Prd} {B:List (List zG)} {inst:Int} {sd:Bool} {price q:Int} {t:jT} {B':List (List zG)} (hq:1<=q) (h:aJ p B inst sd price q=ar (t,B')):
 jP p B inst sd price q=⟨t::(jP p B' inst sd price (q-t.qty)).steps,(jP p B' inst sd price (q-t.qty)).left,(jP p B' inst sd price (q-t.qty)).B⟩:=by
 have ht:=zKk hq h;rw[jP];cases hn:q.toNat with
 |zero=>omega
 |succ n=>
  rw[zIl,y0y (by omega),h];dsimp only;rw[zYq n (q-t.qty).toNat B' (q-t.qty) (by omega) (y1u _)];rfl
def gC {s:Int} (h:s=1\/s=2):zC (decide (s=2))=s:=by
 rcases h with rfl|rfl<;>rfl
def y0i (i:RunI) (h:runC.cnd i):yVa i:=by
 obtain⟨hR,hB,⟨h0,h1⟩,hq1,hq2⟩:i.s.Rep i.p i.B/\BOk i.p i.B/\(0<=i.inst/\i.inst<i.B.length)/\1<=i.q/\i.q<=1000000:=h;have hbl:=hR.bl;have hcl:=xN i.p;have hbB:=hB.bl;unfold yVa aY z0m fS tN uP zLu zEc zNp z7 dI;refine(λhT=>zH (λc=>zH (λc2=>Cv.cnd.mk (λ_=>zH (λ_=>Cv.cnd.mk (λe=>absurd hq2 (by simpa using e)) (λ_=>hT)) (λe=>absurd hq1 e)) (λe1=>Cv.cnd.mk (λ_=>zH (λ_=>Cv.cnd.mk (λe=>absurd hq2 (by simpa using e)) (λ_=>hT)) (λe=>absurd hq1 e)) (λe2=>by
  rcases zEb i.sd with e|e
  ·rw[e]at e1;cases e1
  ·rw[e]at e2;cases e2))) (λc2=>absurd oM c2)) (λc=>absurd h0 c)) ?_
 refine⟨⟨i.s,i.B,[],i.q⟩,rF8 (rF6 ⟨rfl,λj=>j.s.Rep i.p j.B/\BOk i.p j.B/\j.B.length=i.B.length/\(0<=j.q/\j.q<=i.q)/\(j.steps.length:Int)<=i.q-j.q/\i.r=⟨j.steps++(jP i.p j.B i.inst i.sd i.price j.q).steps,(jP i.p j.B i.inst i.sd i.price j.q).left,(jP i.p j.B i.inst i.sd i.price j.q).B⟩,λj=>j.q.toNat,⟨hR,hB,rfl,⟨Z9,y4s _⟩,by dsimp only;simp,rfl⟩,?_⟩)⟩;rintro⟨s,B,st,q⟩ ⟨r1,r2,r3,⟨r4,r4'⟩,r5,r6⟩;dsimp only at r1 r2 r3 r4 r4' r5 r6 ⊢;have hno (hn:q<=0\/aJ i.p B i.inst i.sd i.price q=au):∃(o:MSt),i.r.left=q/\ag MSt (5:Nat) xH o=ag MSt (5:Nat) xH s/\aa jN i.r.steps=aa jN st/\o.Rep i.p i.r.B:=by
  rw[tK hn,y1t]at r6;rw[r6];exact⟨s,rF3 r1⟩
 refine zH (λc=> ?_) (λc=>hno (.inl oM));have c:0<q:=c;refine⟨i.sd,rfl,trivial,λ_ _=>⟨⟨s,i.p,B,i.inst,!i.sd⟩,rfl,rfl,rfl,⟨r1,r2,h0,Z9⟩,λ_ _=> ?_⟩⟩;dsimp only;have hni:=z2t r2 r1.ords (inst:=i.inst) ⟨h0,oM⟩ (zEb (!i.sd));have hsb:aJ i.p B i.inst i.sd i.price q=(if((yO i.p B i.inst (zC (!i.sd))).2.2 && (dX i.sd i.price (yO i.p B i.inst (zC (!i.sd))).1.price && decide (1<=(yO i.p B i.inst (zC (!i.sd))).1.qty)))=ao then
  if(yO i.p B i.inst (zC (!i.sd))).2.1=ao then
   ar (⟨(yO i.p B i.inst (zC (!i.sd))).1.price,min q (yO i.p B i.inst (zC (!i.sd))).1.qty,ao,qC i.p B (yO i.p B i.inst (zC (!i.sd))).1.a.inst (yO i.p B i.inst (zC (!i.sd))).1.a.side (min q (yO i.p B i.inst (zC (!i.sd))).1.qty)++qC i.p (qZ B (qC i.p B (yO i.p B i.inst (zC (!i.sd))).1.a.inst (yO i.p B i.inst (zC (!i.sd))).1.a.side (min q (yO i.p B i.inst (zC (!i.sd))).1.qty))) (yO i.p B i.inst (zC (!i.sd))).1.b.inst (yO i.p B i.inst (zC (!i.sd))).1.b.side (min q (yO i.p B i.inst (zC (!i.sd))).1.qty)⟩,qZ (qZ B (qC i.p B (yO i.p B i.inst (zC (!i.sd))).1.a.inst (yO i.p B i.inst (zC (!i.sd))).1.a.side (min q (yO i.p B i.inst (zC (!i.sd))).1.qty))) (qC i.p (qZ B (qC i.p B (yO i.p B i.inst (zC (!i.sd))).1.a.inst (yO i.p B i.inst (zC (!i.sd))).1.a.side (min q (yO i.p B i.inst (zC (!i.sd))).1.qty))) (yO i.p B i.inst (zC (!i.sd))).1.b.inst (yO i.p B i.inst (zC (!i.sd))).1.b.side (min q (yO i.p B i.inst (zC (!i.sd))).1.qty)))
  else ar (⟨(yO i.p B i.inst (zC (!i.sd))).1.price,min q (yO i.p B i.inst (zC (!i.sd))).1.qty,ap,qC i.p B i.inst (zC (!i.sd)) (min q (yO i.p B i.inst (zC (!i.sd))).1.qty)⟩,qZ B (qC i.p B i.inst (zC (!i.sd)) (min q (yO i.p B i.inst (zC (!i.sd))).1.qty)))else au):=rfl
 generalize yO i.p B i.inst (zC (!i.sd))=nb at hni hsb ⊢;refine Cv.cnd.mk (λn1=> ?_) (λn1=>⟨⟨i.sd,i.price,nb.1.price⟩,rfl,rfl,rfl,trivial,λ_ _=>Cv.cnd.mk (λn2=> ?_) (λn2=> ?_)⟩)
 ·have n1:nb.2.2=ap:=by simpa using n1
  rw[n1,y0y (by simp)]at hsb;exact hno (.inr hsb)
 ·have n2:dX i.sd i.price nb.1.price=ap:=by simpa using n2
  rw[n2,y0y (by simp)]at hsb;exact hno (.inr hsb)
 have n1:nb.2.2=ao:=by simpa using n1
 have n2:dX i.sd i.price nb.1.price=ao:=by simpa using n2
 obtain⟨⟨b1,b2⟩,hi,hr⟩:=hni n1;rw[n1,n2,y1v b1,y1a (by rfl)]at hsb;have hk:y9 (min q nb.1.qty):=by constructor<;>omega
 have hsl:(st.length+1)*48<=140737488355328:=by omega
 have beh:∀(t:jT) (B':List (List zG)) (s':MSt),aJ i.p B i.inst i.sd i.price q=ar (t,B')->s'.Rep i.p B'->BOk i.p B'->B'.length=B.length->
  (s'.Rep i.p B'/\BOk i.p B'/\B'.length=i.B.length/\(0<=q-t.qty/\q-t.qty<=i.q)/\((st++[t]).length:Int)<=i.q-(q-t.qty)/\i.r=⟨(st++[t])++(jP i.p B' i.inst i.sd i.price (q-t.qty)).steps,(jP i.p B' i.inst i.sd i.price (q-t.qty)).left,(jP i.p B' i.inst i.sd i.price (q-t.qty)).B⟩)/\(q-t.qty).toNat<q.toNat:=by
  intro t B' s' h1 h2 h3 h4;have ht:=zKk oM h1;refine⟨⟨h2,h3,oM,⟨oM,oM⟩,by rw[y0x,y2z];omega,?_⟩,oM⟩;rw[zLa (by omega) h1]at r6;rw[r6,y1e];rfl
 refine Cv.cnd.mk (λn3=> ?_) (λn3=> ?_)
 ·obtain⟨_,ok⟩:=hi n3;rw[n3,y1a rfl]at hsb;have oka:=ok.a;have okb:=ok.b;rw[y0z]at oka okb;have ea:=gC ok.sa;have eb:=gC ok.sb;refine⟨⟨s,i.p,B,nb.1.a.inst,decide (nb.1.a.side=2),min q nb.1.qty⟩,rfl,ea,rfl,rfl,⟨r1,r2,oka.1,oka.2,hk⟩,λs1 hs1=> ?_⟩;dsimp only at hs1 ⊢;rw[ea]at hs1 ⊢;have l1:=mG (p:=i.p) r1.ords nb.1.a.inst nb.1.a.side (min q nb.1.qty);have hB1:=r2.takes (fs:=qC i.p B nb.1.a.inst nb.1.a.side (min q nb.1.qty));have l2:=mG (p:=i.p) hs1.ords nb.1.b.inst nb.1.b.side (min q nb.1.qty);refine⟨trivial,by rw[y0z];omega,⟨s1,i.p,qZ B (qC i.p B nb.1.a.inst nb.1.a.side (min q nb.1.qty)),nb.1.b.inst,decide (nb.1.b.side=2),min q nb.1.qty⟩,rfl,eb,rfl,rfl,⟨hs1,hB1,okb.1,by dsimp only;rw[vS];exact okb.2,hk⟩,λs2 hs2=> ?_⟩;dsimp only at hs2 ⊢;rw[eb]at hs2 ⊢;obtain⟨g1,g2⟩:=beh _ _ s2 hsb hs2 hB1.takes (by rw[vS,vS]);refine⟨trivial,by rw[y0z,y0z];omega,by rw[y0z];exact hsl,⟨s2,_,st++[_],_⟩,?_,rfl,?_,g1,g2,k0q⟩
  ·dsimp only;rw[w64 (by omega)]
  ·dsimp only;rw[y1i,n3];simp[jN]
 ·rw[n3,y0y (by decide)]at hsb;refine⟨i.sd,rfl,trivial,λ_ _=>⟨rfl,⟨s,i.p,B,i.inst,!i.sd,min q nb.1.qty⟩,rF3 ⟨rfl,⟨r1,r2,h0,Z9,hk⟩,λs1 hs1=> ?_⟩⟩⟩;dsimp only at hs1 ⊢;obtain⟨g1,g2⟩:=beh _ _ s1 hsb hs1 r2.takes (by rw[vS]);refine⟨by rw[y0z];exact hsl,⟨s1,_,st++[_],_⟩,?_,rfl,?_,g1,g2,k0q⟩
  ·dsimp only;rw[w64 (by omega)]
  ·dsimp only;rw[y1i,n3];simp[jN]
def z1d:runC.ok Tryz.prog 182:=okw mixed (gokc yKy (gokc zQt (gokc zUu (gokc yDw gok0)))) 2 (λ_=>[]) (λ_=>y0j) [0] Tryz.func182 y0i
def yDk {L:List zG} {s id p q:Int} {o:zG} (h:o∈zSv L s id p q):o.price=p\/∃o'∈L,o.price=o'.price:=by
 have key:∀X:List zG,(o∈X.takeWhile (before s p)++⟨id,s,p,q,uT L s p⟩::X.dropWhile (before s p))->o.price=p\/o∈X:=by
  intro X hX;rcases y2f.1 hX with hX|hX
  ·exact .inr (List.takeWhile_sublist _|>.subset hX)
  ·rcases y1r.1 hX with rfl|hX
   ·exact .inl rfl
   ·exact .inr (List.dropWhile_sublist _|>.subset hX)
 rw[zSv]at h;split at h
 ·rcases key _ h with h|h
  ·exact .inl h
  ·obtain⟨o',ho',_,_,e,_⟩:=z5l h;exact .inr ⟨o',ho',e⟩
 ·rcases key _ h with h|h
  ·exact .inl h
  ·exact .inr ⟨o,h,rfl⟩
def BOk.add {p:Prd} {B:List (List zG)} (h:BOk p B) (inst id s price q:Int):BOk p (z2n p B inst id s price q).1:=by
 rw[z2n];split
 ·exact h
 split
 ·exact h
 split
 ·exact h
 split
 ·exact h
 rename_i c1 _ _ c4;have c4:p.price inst price=0:=by simpa using c4
 refine⟨h.pc,h.ps,by simpa using h.bl,λk L hL o ho=> ?_⟩;dsimp only at hL;rcases cK hL with⟨rfl,rfl⟩|⟨_,hL⟩
 ·obtain⟨L',hL'⟩:=yE (l:=B) (i:=inst.toNat) oM;rw[zV hL',zIf]at ho;have e:((inst.toNat:Nat):Int)=inst:=by omega
  repeat' split at ho
  ·exact h.pr _ L' hL' o ho
  ·exact h.pr _ L' hL' o ho
  ·exact h.pr _ L' hL' o ho
  ·rcases yDk ho with h1|⟨o',ho',h1⟩
   ·rw[h1,e];exact c4
   ·rw[h1];exact h.pr _ L' hL' o' ho'
 ·exact h.pr k L hL o ho
def BOk.new {p:Prd} (hc:p.check=0) (hp:p.small):BOk p (ab p.count []):=by
 refine⟨hc,hp,by simp,λk L hL o ho=> ?_⟩;rw[y6j (y1j hL)]at ho;cases ho
def MSt.Rep.fit {s:MSt} {p:Prd} {B:List (List zG)} (h:s.Rep p B) (hb:BOk p B):s.fit:=by
 have:=xN p;refine⟨by rw[h.ep];exact hb.ps,by rw[h.bl,hb.bl];omega,λb hm=> ?_⟩;obtain⟨k,hk⟩:=y3m.1 hm;have hlt:=(y1c.1 hk).1;rw[h.bl]at hlt;obtain⟨L,hL⟩:=yE hlt;exact(h.bk k b L hk hL).fit
def zNz (r:Nat):Bool:=decide (32<=r) && decide (r≠127) && decide (r≠65533)
def gN (s:List UInt8):Bool:=(wU s).all zNz && decide (1<=(wU s).length) && decide ((wU s).length<=12)
def labC:Con:=zR (List UInt8) (λs=>[sV s]) (λ_=>[]) (λs=>s.length<=140737488355328) (λs=>yT (gN s)) (λ_=>[])
def yZy (s:List UInt8):List SAnn:=[{ι:=Nat×Nat,slots:=λx=>[(3,zA x.2),(7,.nm 0 0)],rows:=λx=>[.iter (sb s) x.1]}]
def uO (n:Int):Bool:=decide (-2000000<=n) && decide (n<=2000000)
def jO (n:Int):Bool:=decide (1<=n) && decide (n<=1000000)
def Cmd.orderE (c:Cmd):Int:=
 if c.side≠1/\c.side≠2 then 21 else if c.time<1\/3<c.time then 27 else if jO c.qty=ap then 24 else if c.least<0\/c.qty<c.least then 28
 else if c.label≠[]/\gN c.label=ap then 29 else if uO c.price=ap then 23 else if c.inst<0\/255<c.inst then 20 else 0
def Cmd.right (c:Cmd):Int:=
 if c.kind<1\/4<c.kind then 31 else if c.id<1\/1099511627776<c.id then 1 else if c.kind=1 then c.orderE
 else if c.kind≠2/\jO c.qty=ap then 24 else if c.kind=4/\uO c.price=ap then 23 else 0
def cmdOrdC:Con:=zR Cmd (λc=>[zIi c]) (λ_=>[]) (λc=>c.label.length<=140737488355328) (λc=>zA c.orderE) (λ_=>[])
def cmdRtC:Con:=zR Cmd (λc=>[zIi c]) (λ_=>[]) (λc=>c.label.length<=140737488355328) (λc=>zA c.right) (λ_=>[])
open Classical
def RB.byte (r:RB):Int×RB:=(qE (r.n 1).got,⟨(r.n 1).left,(r.n 1).bad⟩)
def RB.long (r:RB):Int×RB:=(aq.wrap (qE (r.n 8).got),⟨(r.n 8).left,(r.n 8).bad⟩)
def RB.endOf (r:RB):Int:=if r.b then 10 else if 0<r.l.length then 15 else 0
@[reducible] def RdB (r:RB):AObj:=Rd r.l r.b
@[reducible] def RB.ok (i:RB):Prop:=i.l.length<=1099511627776
def RB.text (r:RB):List UInt8×RB:=((r.byte.2.n r.byte.1.toNat).got,⟨(r.byte.2.n r.byte.1.toNat).left,(r.byte.2.n r.byte.1.toNat).bad⟩)
def zMv (s:List UInt8):List UInt8:=lob (s.take 255).length::s.take 255
def Cmd.tail (c:Cmd):List UInt8:=
 if c.kind=1 then lob c.inst::lob c.side::lob c.time::(le c.price 8++(le c.qty 8++(le c.least 8++zMv c.label)))
 else if c.kind=3 then le c.qty 8 else if c.kind=4 then le c.price 8++le c.qty 8 else[]
def Cmd.enc (c:Cmd):List UInt8:=if c.right≠0 then[]else lob c.kind::(le c.id 8++c.tail)
def xX (k id:Int) (r:RB):Cmd×RB:=
 if k=1 then
  let a:=r.byte;let b:=a.2.byte;let t:=b.2.byte;let x:=t.2.long;let y:=x.2.long;let z:=y.2.long;let w:=z.2.text
  (⟨k,id,a.1,b.1,x.1,y.1,z.1,t.1,w.1⟩,w.2)
 else if k=3 then(⟨k,id,0,0,0,r.long.1,0,0,[]⟩,r.long.2)
 else if k=4 then(⟨k,id,0,0,r.long.1,r.long.2.long.1,0,0,[]⟩,r.long.2.long.2)
 else(⟨k,id,0,0,0,0,0,0,[]⟩,r)
def xD (b:List UInt8):Cmd×Int:=
 let k:=(RB.mk b ap).byte
 if k.1<1\/4<k.1 then(zWs,31)else
 let x:=xX k.1 k.2.long.1 k.2.long.2
 if x.2.endOf≠0 then(zWs,12)else if x.1.right≠0 then(zWs,x.1.right)else(x.1,0)
def yYb (n:Int):((lob n).toNat:Int)=n % 256:=(nZ n).symm
def yUc {n:Int} (h:0<=n/\n<=255):((lob n).toNat:Int)=n:=by rw[yYb];omega
def z6b (s:List UInt8):∀(k p:Nat),s.length-p<=k->s.length-p<=4*(gK s p).length
 |0,p,h=>by rw[uV (by omega)];simp;omega
 |k+1,p,h=>by
  by_cases hp:p<s.length
  ·have hw:=bG s hp;have h4:(Utf8.decode (sb s) p).2<=4:=by
    unfold Utf8.decode;simp only[zIz,y1l,y2v]
    repeat' split
    all_goals simp
   rw[h9 hp,y1d];have:=z6b s k (p+(Utf8.decode (sb s) p).2) oM;omega
  ·rw[uV (by omega)];simp;omega
def z8x {s:List UInt8} (h:s=[]\/gN s=ao):s.length<=48:=by
 obtain rfl|h:=h
 ·simp
 ·simp only[gN,y1l,y2v]at h;have:=z6b s s.length 0 oM;rw[wU,y0z]at h;omega
def zTp {c:Cmd} (h:c.right=0):(1<=c.kind/\c.kind<=4)/\(1<=c.id/\c.id<=1099511627776)/\
 (c.kind≠2->1<=c.qty/\c.qty<=1000000)/\(c.kind=1\/c.kind=4->-2000000<=c.price/\c.price<=2000000)/\
 (c.kind=1->(c.side=1\/c.side=2)/\(1<=c.time/\c.time<=3)/\(0<=c.least/\c.least<=c.qty)/\(0<=c.inst/\c.inst<=255)/\c.label.length<=48):=by
 rw[Cmd.right]at h;split at h;·cases h
 split at h;·cases h
 rename_i h1 h2;refine⟨oM,oM,?_⟩;split at h
 ·rename_i hk;rw[Cmd.orderE]at h
  iterate 7 (split at h;·cases h)
  rename_i a1 a2 a3 a4 a5 a6 a7;simp only[jO,Bool.not_eq_false,y1l,y2v]at a3;simp only[uO,Bool.not_eq_false,y1l,y2v]at a6;refine⟨λ_=>a3,λ_=>a6,λ_=>⟨oM,oM,oM,oM,z8x ?_⟩⟩;by_cases hl:c.label=[]
  ·exact .inl hl
  ·exact .inr (by simpa[hl]using a5)
 ·rename_i hk;split at h;·cases h
  split at h;·cases h
  rename_i a1 a2;refine⟨λh2=> ?_,λh2=> ?_,λh2=>absurd h2 hk⟩
  ·simpa[h2,jO]using a1
  ·simpa[show c.kind=4 by omega,uO]using a2
end Sx
