/- Texts of ours. No condition. -/
import Derived.Test.YtgmmlhddihaocaaGreatS8
set_option linter.all false
open List renaming map->aa,replicate->ab,take->ac
open Sx.fi renaming jc->ae,jz->af,qw->ag,cells->aj,own->ak,map->am
open Bool renaming false->ao,true->ap
open Go.IntKind renaming i64->aq
open Option renaming some->ar,none->au
open Exists renaming intro->av
open And renaming intro->aw
namespace Sx
set_option maxRecDepth 100000
open Go Cv Go.Proofs
def Tu (a:Nat->Prop) (b:Nat) (c:Nat->Nat) (d:Nat) (e:HZ) (f:vy):Prop:=a b/\c b<c d/\dj (aj [V.nm 1 0,V.own 2,V.own 3,V.mp 4,V.d (dI e.b.gm),V.d (dI e.b.gn),V.own 5,V.d (D.v (.bool e.b.fv)),V.d (D.v (.bool e.b.fw))] (273:TypeId))/\ag du 3 zF f.a=ag du 3 zF e.b.a/\dj (ak 276 2 (aa zB e.b.fc))/\dj (ak 276 2 (aa zB e.b.dw))/\dj (am (iK e.b.at_))/\dj (ak 3 1 (iE e.b.spare))
def aL (a:Nat) (b:HZ):=(ac a (gL b.L (zC ao)))
def yTq (i:HZ):Prop:=
 ∃(a:Int),a=zC ao/\True/\∀(b:Unit),True->dq (kA a) (∃(c:Unit),dj i.b.gm/\dj i.b.gn/\dj i.b.fv/\dj i.b.fw/\dj (ag du 3 zF i.b.a)/\dj (aa zB i.b.fc)/\dj (aa zB i.b.dw)/\dj (iK i.b.at_)/\dj (iE i.b.spare)/\aa kx (gL i.L (zC ao))=[]/\True) (∃(c:Nat),(↑c:Int)=0/\aa kx (aL c i)=[]/\∃(d:Nat->Prop),∃(e:Nat->Nat),d c/\∀(f:Nat),d f->dq (decide ((↑f:Int)<(↑(aa zB i.b.fc).length:Int))) ((0<=(↑f:Int)/\(↑f:Int)<(↑(aa zB i.b.fc).length:Int))/\∃(g:Int),∃(h:Int),zD (aa zB i.b.fc) (↑f:Int).toNat 0 2=ar [dI g,dI h]/\∃(j:vy),j.n=h/\ag du 3 zF j.a=ag du 3 zF i.b.a/\True/\∀(k:Unit),True->h=h/\True/\g=g/\∃(l:vy),l.n=h/\ag du 3 zF l.a=ag du 3 zF j.a/\True/\∀(m:Unit),True->g=g/\((aa kx (aL f i)).length+1)*(24:Nat)<=(140737488355328:Nat)/\∃(n:Nat),(↑n:Int)=aq.wrap ((↑f:Int)+1)/\aa kx (aL n i)=aa kx (aL f i)++[[dI g,dI ((j.a.qc j.n).total),dI ((l.a.qc l.n).count)]]/\Tu d n e f i l) (∃(g:Unit),dj i.b.gm/\dj i.b.gn/\dj i.b.fv/\dj i.b.fw/\dj (ag du 3 zF i.b.a)/\dj (aa zB i.b.fc)/\dj (aa zB i.b.dw)/\dj (iK i.b.at_)/\dj (iE i.b.spare)/\aa kx (gL i.L (zC ao))=aa kx (aL f i)/\True))
def aK (a:Nat) (b:HZ):=(ac a (gL b.L (zC ap)))
def yVk (i:HZ):Prop:=
 ∃(a:Int),a=zC ap/\True/\∀(b:Unit),True->dq (kA a) (∃(c:Unit),dj i.b.gm/\dj i.b.gn/\dj i.b.fv/\dj i.b.fw/\dj (ag du 3 zF i.b.a)/\dj (aa zB i.b.fc)/\dj (aa zB i.b.dw)/\dj (iK i.b.at_)/\dj (iE i.b.spare)/\aa kx (gL i.L (zC ap))=[]/\True) (∃(c:Nat),(↑c:Int)=0/\aa kx (aK c i)=[]/\∃(d:Nat->Prop),∃(e:Nat->Nat),d c/\∀(f:Nat),d f->dq (decide ((↑f:Int)<(↑(aa zB i.b.dw).length:Int))) ((0<=(↑f:Int)/\(↑f:Int)<(↑(aa zB i.b.dw).length:Int))/\∃(g:Int),∃(h:Int),zD (aa zB i.b.dw) (↑f:Int).toNat 0 2=ar [dI g,dI h]/\∃(j:vy),j.n=h/\ag du 3 zF j.a=ag du 3 zF i.b.a/\True/\∀(k:Unit),True->h=h/\True/\g=g/\∃(l:vy),l.n=h/\ag du 3 zF l.a=ag du 3 zF j.a/\True/\∀(m:Unit),True->g=g/\((aa kx (aK f i)).length+1)*(24:Nat)<=(140737488355328:Nat)/\∃(n:Nat),(↑n:Int)=aq.wrap ((↑f:Int)+1)/\aa kx (aK n i)=aa kx (aK f i)++[[dI g,dI ((j.a.qc j.n).total),dI ((l.a.qc l.n).count)]]/\Tu d n e f i l) (∃(g:Unit),dj i.b.gm/\dj i.b.gn/\dj i.b.fv/\dj i.b.fw/\dj (ag du 3 zF i.b.a)/\dj (aa zB i.b.fc)/\dj (aa zB i.b.dw)/\dj (iK i.b.at_)/\dj (iE i.b.spare)/\aa kx (gL i.L (zC ap))=aa kx (aK f i)/\True))
def tZ (a:Nat×jy->Prop) (b:Nat×jy) (c:gq) (d:Nat) (e:dp):Prop:=a b/\dj (ak 3 1 [[dI 1],[dI 2]])/\dj (xV c 0)/\af 211 dp 6 zQ (c.ej.set (↑d:Int).toNat e) au=xV c 1/\dj (xV c 2)/\dj (xV c 3)/\dj (xV c 4)
def YW (a:gq) (b:Nat×jy) (c:Nat×jy->Prop) (d:Nat) (e:dp):Prop:=∃(f:Nat×jy),aa z7 (xZ a f.fst f.snd)=aa z7 (xZ a b.fst b.snd)/\tZ c f a d e
def yKa (s:gq):Prop:=
 (TB s)/\∃(a:Nat),(↑a:Int)=0/\aa z7 (qC s a)=ab (↑s.ej.length:Int).toNat [D.v (.bool ao),D.v (.bool ao),dI 0,dI 0,dI 0,dI 0]/\∃(b:Nat->Prop),∃(c:Nat->Nat),b a/\∀(d:Nat),b d->dq (decide ((↑d:Int)<(↑s.ej.length:Int))) ((0<=(↑d:Int)/\(↑d:Int)<(↑s.ej.length:Int))/\(↑d:Int).toNat<s.ej.length/\∃(e:Nat×jy),aa z7 (xZ s e.fst e.snd)=aa z7 (qC s d)/\∃(f:Nat×jy->Prop),(((0:Int)<=(0:Int)/\0<(↑(2:Nat):Int))/\∃(g:Int),zD [[dI 1],[dI 2]] (Int.toNat 0) 0 1=ar [dI g]/\∃(h:dp),s.ej[(↑d:Int).toNat]?=ar h/\∃(j:Ba),zC j.side=g/\yB j.b=yB h/\(vM j)/\∀(k:Unit),True->∃(l:dp),yB j.b=yB l/\dj ((↑d:Int).toNat)/\(↑d:Int).toNat<s.ej.length/\dq (zY j).snd ((qV d s e)/\(qV d s e)/\(qV d s e)/\(↑d:Int).toNat<(u0 s e).length/\(aO d s e)/\(aO d s e)/\dj ((zY j).fst.dr)/\dj ((zY j).fst.dk)/\(↑d:Int).toNat<(aP s e d).length/\(TZ d s e j)/\dj ((zY j).fst.dr)/\(↑d:Int).toNat<(dV s e d j).length/\∃(m:Nat×jy),aa z7 (xZ s m.fst m.snd)=zV (dV s e d j) (↑d:Int).toNat 4 [dI (uT j)]/\tZ f m s d l) (YW s e f d l))/\∀(g:Nat×jy),f g->∃(h:Nat×jy),aa z7 (xZ s h.fst h.snd)=aa z7 (xZ s g.fst g.snd)/\∃(j:Nat×jy->Prop),((fV)/\∃(k:Int),zD [[dI 1],[dI 2]] (aq.wrap ((0:Int)+(1:Int))).toNat 0 1=ar [dI k]/\∃(l:dp),s.ej[(↑d:Int).toNat]?=ar l/\∃(m:Ba),zC m.side=k/\yB m.b=yB l/\(vM m)/\∀(n:Unit),True->∃(p:dp),yB m.b=yB p/\dj ((↑d:Int).toNat)/\(↑d:Int).toNat<s.ej.length/\dq (zY m).snd ((qV d s h)/\(qV d s h)/\(qV d s h)/\(↑d:Int).toNat<(u0 s h).length/\(aI d s h)/\(aI d s h)/\dj ((zY m).fst.dr)/\dj ((zY m).fst.dk)/\(↑d:Int).toNat<(aU s h d).length/\(TY d s h m)/\dj ((zY m).fst.dr)/\(↑d:Int).toNat<(cP s h d m).length/\∃(q:Nat×jy),aa z7 (xZ s q.fst q.snd)=zV (cP s h d m) (↑d:Int).toNat 5 [dI (uT m)]/\tZ j q s d p) (YW s h j d p))/\∀(k:Nat×jy),j k->∃(l:Nat),(↑l:Int)=aq.wrap ((↑d:Int)+1)/\aa z7 (qC s l)=aa z7 (xZ s k.fst k.snd)/\b l/\c l<c d/\dj (xV s 0)/\dj (xV s 1)/\dj (xV s 2)/\dj (xV s 3)/\dj (xV s 4)) (∃(e:Unit),dj (sb s.p.code)/\dj s.p.tick/\dj s.p.low/\dj s.p.high/\dj s.p.wide/\dj s.p.dt/\dj s.p.top/\dj s.p.least/\dj s.p.part/\af 211 dp 6 zQ s.ej au=xV s 1/\dj (yS s.wh)/\ae 1 (iE s.p.dm)=xV s 3/\ae 1 (iE s.p.settle)=xV s 4/\aa z7 s.fg=aa z7 (qC s d)/\True)
def YY (a:gq) (b:A5):Prop:=ae 1 (iE a.p.dm)=ae 1 (iE b.s.p.dm)/\ae 1 (iE a.p.settle)=ae 1 (iE b.s.p.settle)/\a.fq b.p (kM b.B b.id b.q).fst
def Za (a:gq) (b:A5):Prop:=yS a.wh=yS b.s.wh/\YY a b
def sW (a:A5) (b:Int) (c:Bool):Prop:=kR (Value.int aq a.id) (yS a.s.wh)=ar [dI b]/\c=ap\/kR (Value.int aq a.id) (yS a.s.wh)=au/\[dI b]=[dI 0]/\c=ao
def mO (a:A5):Prop:=∀(b:Value×List D),b∈yS a.s.wh->ma (Value.int aq a.id) b.fst=ap
def yOe (i:A5):Prop:=
 (mO i)/\∃(a:Bool),∃(b:Int),(sW i b a)/\dq (!a) (∃(c:gq),(kM i.B i.id i.q).snd=26/\sb c.p.code=sb i.s.p.code/\c.p.tick=i.s.p.tick/\c.p.low=i.s.p.low/\c.p.high=i.s.p.high/\c.p.wide=i.s.p.wide/\c.p.dt=i.s.p.dt/\c.p.top=i.s.p.top/\c.p.least=i.s.p.least/\c.p.part=i.s.p.part/\af 211 dp 6 zQ c.ej au=af 211 dp 6 zQ i.s.ej au/\Za c i) ((0<=b/\b<(↑i.s.ej.length:Int))/\b.toNat<i.s.ej.length/\∃(c:dp),i.s.ej[b.toNat]?=ar c/\∃(d:Cj),d.id=i.id/\d.dr=i.q/\yB d.b=yB c/\d.b.fq d.L/\∀(e:dp),e.fq (qA d.L d.id d.dr).fst->∃(f:dp),yB e=yB f/\dj b.toNat/\b.toNat<i.s.ej.length/\(0<=b/\b<(↑(i.s.ej.set b.toNat f).length:Int))/\b.toNat<(i.s.ej.set b.toNat f).length/\∃(g:dp),(i.s.ej.set b.toNat f)[b.toNat]?=ar g/\∃(h:Cj),h.id=i.id/\yB h.b=yB g/\h.b.fq h.L/\∀(j:Unit),True->∃(k:dp),yB h.b=yB k/\dj b.toNat/\b.toNat<(i.s.ej.set b.toNat f).length/\dq (!wZ h.L h.id) ((mO i)/\∃(l:gq),(kM i.B i.id i.q).snd=(qA d.L d.id d.dr).snd/\sb l.p.code=sb i.s.p.code/\l.p.tick=i.s.p.tick/\l.p.low=i.s.p.low/\l.p.high=i.s.p.high/\l.p.wide=i.s.p.wide/\l.p.dt=i.s.p.dt/\l.p.top=i.s.p.top/\l.p.least=i.s.p.least/\l.p.part=i.s.p.part/\af 211 dp 6 zQ l.ej au=af 211 dp 6 zQ ((i.s.ej.set b.toNat f).set b.toNat k) au/\yS l.wh=BI (Value.int aq i.id) (yS i.s.wh)/\YY l i) (∃(l:gq),(kM i.B i.id i.q).snd=(qA d.L d.id d.dr).snd/\sb l.p.code=sb i.s.p.code/\l.p.tick=i.s.p.tick/\l.p.low=i.s.p.low/\l.p.high=i.s.p.high/\l.p.wide=i.s.p.wide/\l.p.dt=i.s.p.dt/\l.p.top=i.s.p.top/\l.p.least=i.s.p.least/\l.p.part=i.s.p.part/\af 211 dp 6 zQ l.ej au=af 211 dp 6 zQ ((i.s.ej.set b.toNat f).set b.toNat k) au/\Za l i))
def y2v (i:HZ) (h:JT.dq i):yTq i:=by
 obtain⟨Q,c,ht,hL⟩:i.b.fq i.L:=h;have ug:=c.small;obtain⟨⟨ha1,ha2⟩,qe,nh,tq⟩:=id ug;have Az:=c.lad (.inl rfl);rw[<- hL]at Az;have Az:gL i.L (zC ao)=i.b.fc.map i.b.told:=Az;unfold yTq Tu aL kA dI;simp only[Az,im];refine⟨1,rfl,trivial,λ_ _=>Cv.dq.mk (λe=>absurd e Z8) λ_=>⟨0,by(first|exact rfl|exact trivial),by(first|exact rfl|exact trivial),λj=>j<=i.b.fc.length,λj=>i.b.fc.length-j,mz _,λj hj=>zH (λe=> ?_) (λe=> ?_)⟩⟩
 ·obtain⟨r,hr⟩:=z6 (l:=i.b.fc) (i:=j) oM;have hi:=c.Fb;refine⟨⟨oM,oM⟩,r.dk,r.queue,ju hr (by simp[zB]) rfl,⟨i.b.a,r.queue⟩,by(first|exact rfl|exact trivial),by(first|exact rfl|exact trivial),trivial,λ_ _=>⟨by(first|exact rfl|exact trivial),by(first|exact rfl|exact trivial),by(first|exact rfl|exact trivial),⟨i.b.a,r.queue⟩,by(first|exact rfl|exact trivial),by(first|exact rfl|exact trivial),by(first|exact rfl|exact trivial),λ_ _=>⟨by(first|exact rfl|exact trivial),by simp only[om,im];omega,j+1,rf oM,?_,oM,Z9,gu⟩⟩⟩;have Np:(i.b.fc.map i.b.told)[j]? =ar (i.b.told r):=by rw[vc,hr];rfl
  rw[tb,Np];simp[kx,dp.told]
 ·rw[oh (by rw[im];omega)];exact⟨(),gu⟩
def yRg:JT.ok Tryz.prog 148:=ib mixed (dx IN (dx Yy (dx rO fj))) 1 (λ_=>[]) (λi=>y4p ao i) [0] Tryz.func148 y2v
def y3l (i:HZ) (h:JS.dq i):yVk i:=by
 obtain⟨Q,c,ht,hL⟩:i.b.fq i.L:=h;have ug:=c.small;obtain⟨⟨ha1,ha2⟩,qe,nh,tq⟩:=id ug;have Az:=c.lad (.inr rfl);rw[<- hL]at Az;have Az:gL i.L (zC ap)=i.b.dw.map i.b.told:=Az;unfold yVk aK Tu kA dI;simp only[Az,im];refine⟨2,rfl,trivial,λ_ _=>Cv.dq.mk (λe=>absurd e Z8) λ_=>⟨0,by(first|exact rfl|exact trivial),by(first|exact rfl|exact trivial),λj=>j<=i.b.dw.length,λj=>i.b.dw.length-j,mz _,λj hj=>zH (λe=> ?_) (λe=> ?_)⟩⟩
 ·obtain⟨r,hr⟩:=z6 (l:=i.b.dw) (i:=j) oM;have hi:=c.Fb;refine⟨⟨oM,oM⟩,r.dk,r.queue,ju hr (by simp[zB]) rfl,⟨i.b.a,r.queue⟩,by(first|exact rfl|exact trivial),by(first|exact rfl|exact trivial),trivial,λ_ _=>⟨by(first|exact rfl|exact trivial),by(first|exact rfl|exact trivial),by(first|exact rfl|exact trivial),⟨i.b.a,r.queue⟩,by(first|exact rfl|exact trivial),by(first|exact rfl|exact trivial),by(first|exact rfl|exact trivial),λ_ _=>⟨by(first|exact rfl|exact trivial),by simp only[om,im];omega,j+1,rf oM,?_,oM,Z9,gu⟩⟩⟩;have Np:(i.b.dw.map i.b.told)[j]? =ar (i.b.told r):=by rw[vc,hr];rfl
  rw[tb,Np];simp[kx,dp.told]
 ·rw[oh (by rw[im];omega)];exact⟨(),gu⟩
def yOw:JS.ok Tryz.prog 148:=ib mixed (dx IN (dx Yy (dx rO fj))) 1 (λ_=>[]) (λi=>y4p ap i) [0] Tryz.func148 y3l
def yZc:aao.ok Tryz.prog 148:=λj=>match j with
 |⟨b,L,ao⟩=>yRg ⟨b,L⟩
 |⟨b,L,ap⟩=>yOw ⟨b,L⟩
def yWe (s:gq) (h:Fx.dq s):yKa s:=by
 obtain⟨h1,h2⟩:s.ou:=h;unfold yKa uT qV vM fV aO aI TB TZ dV aP TY cP dX zY aU u0 YW tZ dI;have p48:(2:Int) ^ (48:Nat)=281474976710656:=by decide
 refine⟨⟨oM,oM,oM,by rw[p48];omega⟩,0,rfl,?_,λj=>j<=s.ej.length,λj=>s.ej.length-j,oM,λj hj=>zH (λgv=> ?_) (λgv=> ?_)⟩
 ·rw[qC,jr,List.map_replicate];rfl
 ·have ov:j<s.ej.length:=by omega
  obtain⟨b,hb⟩:=z6 ov;have hc:=h2 b (lq hb);simp only[oF];have ha:∀x,(aa z7 (xZ s j x)).length=s.ej.length:=λx=>by rw[im,zNy ov]
  have w1:aq.wrap (0+1)=1:=by decide
  have w2:(0+1) % ((2:Int) ^ aq.bits).natAbs=1:=by decide
  refine⟨⟨oM,oM⟩,oM,(j,kq),by rw[zMg ov],λx=>x=(j,kq.Fc (b.iy b.fc)),⟨⟨Z8,Z8⟩,1,rfl,b,hb,⟨ao,b⟩,rfl,rfl,hc,λ_ _=>⟨b,rfl,kp,oM,?_⟩⟩,?_⟩
  ·refine Cv.dq.mk (λc=> ?_) (λc=> ?_)
   ·have c:(b.iy b.fc).2=ap:=c;have e1:=kB (s:=s) ov (x:=kq) (y:={kq with fv:=ap}) (f:=0+0+0*1) (ds:=[D.v (.bool ap)]) rfl;have e2:=kB (s:=s) ov (x:={kq with fv:=ap}) (y:={kq with fv:=ap,p1:=(b.iy b.fc).1.dk}) (f:=0+2+0*1) (ds:=[D.v (.int .i64 (b.iy b.fc).1.dk)]) rfl;have e3:=kB (s:=s) ov (x:={kq with fv:=ap,p1:=(b.iy b.fc).1.dk}) (y:={kq with fv:=ap,p1:=(b.iy b.fc).1.dk,q1:=(b.iy b.fc).1.dr}) (f:=0+4+0*1) (ds:=[D.v (.int .i64 (b.iy b.fc).1.dr)]) rfl;dsimp only;simp only[show b.side ao=b.fc from rfl,e1,e2,e3,ha]
    (repeat'(first|exact rfl|exact trivial|assumption|apply aw|refineλ(_:Unit) (_:True)=>?_|refine av () ?_|omega|(dsimp only;omega)))
    refine⟨(j,{kq with fv:=ap,p1:=(b.iy b.fc).1.dk,q1:=(b.iy b.fc).1.dr}),rfl,?_,?_⟩
    ·rw[jy.Fc,fh c]
    ·(repeat'(first|exact rfl|exact trivial|assumption|apply aw|refineλ(_:Unit) (_:True)=>?_|refine av () ?_|omega|(dsimp only;omega)))
     rw[dM hb];rfl
   ·have c:(b.iy b.fc).2=ao:=c;refine⟨(j,kq),rfl,?_,?_⟩
    ·rw[jy.Fc,fb (by rw[c];simp)]
    ·(repeat'(first|exact rfl|exact trivial|assumption|apply aw|refineλ(_:Unit) (_:True)=>?_|refine av () ?_|omega|(dsimp only;omega)))
     rw[dM hb];rfl
  ·rintro _ rfl;rw[w1];generalize hx:kq.Fc (b.iy b.fc)=x;have Pf:b.top=x.At (b.iy b.dw):=by rw[dp.top,hx]
   refine⟨(j,x),rfl,λy=>y=(j,b.top),⟨⟨Z8,Z8⟩,2,rfl,b,hb,⟨ap,b⟩,rfl,rfl,hc,λ_ _=>⟨b,rfl,kp,oM,?_⟩⟩,?_⟩
   ·refine Cv.dq.mk (λc=> ?_) (λc=> ?_)
    ·have c:(b.iy b.dw).2=ap:=c;have e1:=kB (s:=s) ov (x:=x) (y:={x with fw:=ap}) (f:=0+0+1*1) (ds:=[D.v (.bool ap)]) rfl;have e2:=kB (s:=s) ov (x:={x with fw:=ap}) (y:={x with fw:=ap,p2:=(b.iy b.dw).1.dk}) (f:=0+2+1*1) (ds:=[D.v (.int .i64 (b.iy b.dw).1.dk)]) rfl;have e3:=kB (s:=s) ov (x:={x with fw:=ap,p2:=(b.iy b.dw).1.dk}) (y:={x with fw:=ap,p2:=(b.iy b.dw).1.dk,q2:=(b.iy b.dw).1.dr}) (f:=0+4+1*1) (ds:=[D.v (.int .i64 (b.iy b.dw).1.dr)]) rfl;dsimp only;simp only[w2,show b.side ap=b.dw from rfl,e1,e2,e3,ha]
     (repeat'(first|exact rfl|exact trivial|assumption|apply aw|refineλ(_:Unit) (_:True)=>?_|refine av () ?_|omega|(dsimp only;omega)))
     refine⟨(j,{x with fw:=ap,p2:=(b.iy b.dw).1.dk,q2:=(b.iy b.dw).1.dr}),rfl,?_,?_⟩
     ·rw[Pf,jy.At,fh c]
     ·(repeat'(first|exact rfl|exact trivial|assumption|apply aw|refineλ(_:Unit) (_:True)=>?_|refine av () ?_|omega|(dsimp only;omega)))
      rw[dM hb];rfl
    ·have c:(b.iy b.dw).2=ao:=c;refine⟨(j,x),rfl,?_,?_⟩
     ·rw[Pf,jy.At,fb (by rw[c];simp)]
     ·(repeat'(first|exact rfl|exact trivial|assumption|apply aw|refineλ(_:Unit) (_:True)=>?_|refine av () ?_|omega|(dsimp only;omega)))
      rw[dM hb];rfl
   ·rintro _ rfl;refine⟨j+1,by rw[iA (by omega)];rfl,?_⟩;refine⟨by dsimp only;rw[zMa hb],?_⟩;exact kp
 ·have hj:j<=s.ej.length:=hj;obtain rfl:j=s.ej.length:=by omega
  have e:qC s s.ej.length=s.fg:=by
   rw[qC,I0,List.replicate_zero,oU,oh (by rw[gq.fg,im];omega)]
  rw[e];exact kp
def z1h:Fx.ok Tryz.prog 59:=ib mixed (dx SW fj) 0 (λs=>yVd s) (λs=>yUo s) [] Tryz.func59 yWe
def y0r (i:A5) (h:FA.dq i):yOe i:=by
 obtain⟨hR,hB⟩:i.s.fq i.p i.B/\i.B.length<=1000:=h;have tr:=hR.at_ i.id;unfold yOe mO sW Za YY dI;cases hi:mZ i.B i.id with
 |none=>
  rw[hi]at tr;refine⟨cN _ _,ao,0,.inr ⟨by rw[rD,tr];rfl,rfl,rfl⟩,Cv.dq.mk (λ_=>⟨i.s,?_⟩) (λe=>absurd e Z8)⟩;have ht:kM i.B i.id i.q=(i.B,26):=by rw[kM,hi]
  rw[ht];exact(gr (mh hR))
 |some k=>
  rw[hi]at tr;obtain⟨L,hL,hh⟩:=gZ hi;have hk:=(jv.1 hL).1;obtain⟨b,hb⟩:=z6 (l:=i.s.ej) (i:=k) (by rw[hR.bl];exact hk);have DK:=hR.bk k b L hb hL;have Am:=hR.bl;have qt:=DK.ox.2.1;refine⟨cN _ _,ap,k,.inl ⟨by rw[rD,tr];rfl,rfl⟩,Cv.dq.mk (λe=>absurd e Z8) (λ_=> ?_)⟩;rw[oF];refine⟨⟨oM,oM⟩,oM,b,hb,⟨b,L,i.id,i.q⟩,rfl,rfl,rfl,DK,λb' An=> ?_⟩;have hT:=hR.take (q:=i.q) hi hL qt An;have rn:(kM i.B i.id i.q).2=(qA L i.id i.q).2:=by simp only[kM,hi,zT hL]
  refine⟨b',rfl,rfl,oM,by rw[qv];omega,by rw[qv];omega,b',fW oM,⟨b',(qA L i.id i.q).1,i.id,0⟩,rfl,rfl,An,λ_ _=>⟨b',rfl,rfl,by rw[qv];omega,Cv.dq.mk (λe=>⟨cN _ _,?_⟩) (λe=> ?_)⟩⟩
  ·have e:wZ (qA L i.id i.q).1 i.id=ao:=by simpa using e
   rw[e,fb (by decide)]at hT;refine⟨{i.s with ej:=i.s.ej.set k b',wh:=KH i.id i.s.wh},rn,gr ⟨rfl,?_,(z3o _ _).symm,rfl,rfl,hT⟩⟩;rw[Ea]
  ·have e:wZ (qA L i.id i.q).1 i.id=ap:=by simpa using e
   rw[e,fh rfl]at hT;refine⟨{i.s with ej:=i.s.ej.set k b',wh:=i.s.wh},rn,gr ⟨rfl,?_,rfl,rfl,rfl,hT⟩⟩;rw[Ea]
def Tc:FA.ok Tryz.prog 199:=ib mixed (dx yQm (dx z1n fj)) 0 (λ_=>[]) (λ_=>[]) [0] Tryz.func199 y0r
structure iS (p:ff) (B:List (List zI)):Prop where
 pc:p.check=0
 ps:p.small
 bl:B.length=p.count
 pr:∀(k:Nat) (L:List zI),B[k]? =ar L->∀o∈L,p.dk k o.dk=0
def Iu:gi:=fp Bool (λb=>[zA (zC b)]) (λ_=>[]) (λ_=>True) (λb=>zA (zC (!b))) (λ_=>[])
def bU (s:Bool) (p x:Int):Bool:=if s then decide (p<=x)else decide (x<=p)
structure P3 where
 s:Bool
 p:Int
 x:Int
def LV:gi:=fp P3 (λi=>[zA (zC i.s),zA i.p,zA i.x]) (λ_=>[]) (λ_=>True) (λi=>yN (bU i.s i.p i.x)) (λ_=>[])
def yV (p:ff) (B:List (List zI)) (inst:Int) (s:Int):Quote×Bool×Bool:=
 let bq:=zU (x5 ⟨p,B.map kC,inst⟩ s) s
 let l:=iG (B.getD inst.toNat []) s
 if(l.2 && !(bq.2 && ki s bq.1.dk l.1.dk))=ap then(⟨l.1.dk,l.1.dr,⟨0,0⟩,⟨0,0⟩⟩,ao,ap)else(bq.1,bq.2,bq.2)
structure Ew where
 s:gq
 p:ff
 B:List (List zI)
 inst:Int
 sd:Bool
def JM:gi:=fp Ew (λi=>[.nm 0 0,zA i.inst,zA (zC i.sd)]) (λi=>[zE i.s]) (λi=>i.s.fq i.p i.B/\iS i.p i.B/\0<=i.inst/\i.inst<i.B.length)
 (λi=> .ja [Si (yV i.p i.B i.inst (zC i.sd)).1,yN (yV i.p i.B i.inst (zC i.sd)).2.1,yN (yV i.p i.B i.inst (zC i.sd)).2.2]) (λi=>[zE i.s])
structure bQ where
 id:Int
 inst:Int
 side:Int
 dk:Int
 dr:Int
 left:Int
 deriving DecidableEq
def yX (f:bQ):List D:=[.v (.int .i64 f.id),.v (.int .i64 f.inst),.v (.int .i64 f.side),.v (.int .i64 f.dk),.v (.int .i64 f.dr),.v (.int .i64 f.left)]
def x6 (inst s:Int):List zI->List Int->List bQ
 |o::os,k::ks=>if 0<k then⟨o.id,inst,s,o.dk,k,o.dr-k⟩::x6 inst s os ks else x6 inst s os ks
 |_,_=>[]
def k0 (B:List (List zI)) (fs:List bQ):List (List zI):=fs.foldl (λB f=>(kM B f.id f.dr).1) B
def SB (B:List (List zI)) (inst s:Int):List zI:=vg (B.getD inst.toNat []) s (iG (B.getD inst.toNat []) s).1.dk
def qY (p:ff) (B:List (List zI)) (inst s q:Int):List bQ:=x6 inst s (SB B inst s) (kJ ⟨p,SB B inst s,q⟩)
structure Aq where
 s:gq
 p:ff
 B:List (List zI)
 inst:Int
 sd:Bool
 q:Int
def Aq.os (i:Aq):List zI:=SB i.B i.inst (zC i.sd)
def Aq.sh (i:Aq):List Int:=kJ ⟨i.p,i.os,i.q⟩
def Aq.fs (i:Aq) (j:Nat):List bQ:=x6 i.inst (zC i.sd) (i.os.take j) (i.sh.take j)
def Fw:gi where
 ι:=Aq
 pat:=λi=>[.nm 0 0,.agg [zA i.inst,zA (zC i.sd)],zA i.q]
 pre:=λi=>[zE i.s]
 dq:=λi=>i.s.fq i.p i.B/\iS i.p i.B/\0<=i.inst/\i.inst<i.B.length/\gx i.q
 alts:=λi=>[{o:=gq,res:=λ_=> .own 1,post:=λs=>[zE s,.own 346 6 ((qY i.p i.B i.inst (zC i.sd) i.q).map yX)],rel:=λs=>s.fq i.p (k0 i.B (qY i.p i.B i.inst (zC i.sd) i.q))}]
def y1k (i:Aq):List gp:=[{ι:=Nat×gq,dv:=λj=>[(0,.nm 0 0),(11,.own 1),(44,zA j.1)],rows:=λj=>[zE j.2,.own 346 6 ((i.fs j.1).map yX)]}]
def yAd (b:Bool):Prop:=
 ∃(a:Unit),(zC !b)=aq.wrap (3-zC b)/\True
def yGi (i:P3):Prop:=
 dq (zC i.s==1) (dq (decide (i.x<=i.p)) (∃(a:Unit),bU i.s i.p i.x=ap/\True) (dq (zC i.s==2) (∃(a:Unit),bU i.s i.p i.x=decide (i.x>=i.p)/\True) (∃(a:Unit),bU i.s i.p i.x=ao/\True))) (dq (zC i.s==2) (∃(a:Unit),bU i.s i.p i.x=decide (i.x>=i.p)/\True) (∃(a:Unit),bU i.s i.p i.x=ao/\True))
def XW (a:gq) (b:Ew):Prop:=sb a.p.code=sb b.s.p.code/\True/\a.p.tick=b.s.p.tick/\a.p.low=b.s.p.low/\a.p.high=b.s.p.high/\a.p.wide=b.s.p.wide/\a.p.dt=b.s.p.dt/\a.p.top=b.s.p.top/\a.p.least=b.s.p.least/\a.p.part=b.s.p.part/\True/\True
def dU (a:zw):Prop:=(a.s=1\/a.s=2)/\a.l.length<=1000000
def XG (a:Ew) (b:gq) (c:dp):Prop:=sb a.s.p.code=sb b.p.code/\a.s.p.tick=b.p.tick/\a.s.p.low=b.p.low/\a.s.p.high=b.p.high/\a.s.p.wide=b.p.wide/\a.s.p.dt=b.p.dt/\a.s.p.top=b.p.top/\a.s.p.least=b.p.least/\a.s.p.part=b.p.part/\af 211 dp 6 zQ a.s.ej au=af 211 dp 6 zQ (b.ej.set a.inst.toNat c) au/\yS a.s.wh=yS b.wh/\ae 1 (iE a.s.p.dm)=ae 1 (iE b.p.dm)/\ae 1 (iE a.s.p.settle)=ae 1 (iE b.p.settle)/\True
def yA (a:Ew):=(yV a.p a.B a.inst (zC a.sd))
def WK (a:Ew) (b:zw) (c:gq) (d:dp):Prop:=∃(e:Unit),(yA a).fst.dk=(zU b.l b.s).fst.dk/\(yA a).fst.dr=(zU b.l b.s).fst.dr/\(yA a).fst.a.inst=(zU b.l b.s).fst.a.inst/\(yA a).fst.a.side=(zU b.l b.s).fst.a.side/\(yA a).fst.b.inst=(zU b.l b.s).fst.b.inst/\(yA a).fst.b.side=(zU b.l b.s).fst.b.side/\(yA a).snd.fst=(zU b.l b.s).snd/\(yA a).snd.snd=(zU b.l b.s).snd/\XG a c d
def WQ (a:Ew) (b:Ba) (c:gq) (d:dp):Prop:=∃(e:Unit),(yA a).fst.dk=(zY b).fst.dk/\(yA a).fst.dr=(zY b).fst.dr/\(yA a).fst.a.inst=0/\(yA a).fst.a.side=0/\(yA a).fst.b.inst=0/\(yA a).fst.b.side=0/\(yA a).snd.fst=ao/\(yA a).snd.snd=ap/\XG a c d
def S4 (a:AY) (b:Ew) (c:gq):Prop:=∃(d:zw),aa zJ d.l=aa zJ (x5 a.i (zC a.s))/\d.s=zC b.sd/\(dU d)/\∀(e:Unit),True->(0<=b.inst/\b.inst<(↑c.ej.length:Int))/\b.inst.toNat<c.ej.length/\∃(f:dp),c.ej[b.inst.toNat]?=ar f/\∃(g:Ba),zC g.side=zC b.sd/\yB g.b=yB f/\(vM g)/\∀(h:Unit),True->∃(j:dp),yB g.b=yB j/\dj b.inst.toNat/\b.inst.toNat<c.ej.length/\dq (zY g).snd (dq (zU d.l d.s).snd (∃(k:DM),k.side=zC b.sd/\k.x=(zU d.l d.s).fst.dk/\k.y=(zY g).fst.dk/\True/\∀(l:Unit),True->dq (!ki k.side k.x k.y) (WQ b g c j) (WK b d c j)) (WQ b g c j)) (WK b d c j)
def V3 (a:gq) (b:Ew):Prop:=(XW a b)/\∃(c:AY),sb c.i.p.code=sb b.s.p.code/\iE c.i.p.dm=iE a.p.dm/\c.i.p.tick=b.s.p.tick/\c.i.p.low=b.s.p.low/\c.i.p.high=b.s.p.high/\c.i.p.wide=b.s.p.wide/\c.i.p.dt=b.s.p.dt/\c.i.p.top=b.s.p.top/\c.i.p.least=b.s.p.least/\c.i.p.part=b.s.p.part/\iE c.i.p.settle=iE a.p.settle/\aa z7 c.i.fg=aa z7 a.fg/\c.i.inst=b.inst/\zC c.s=zC b.sd/\(kO c)/\∀(d:Unit),True->S4 c b a
def cC (a:gq):Prop:=a.ej.length<=1000000/\∀(b:dp),b∈a.ej->∀(c:bL),c∈b.a.dz->(-9223372036854775808)<=c.count/\c.count<=9223372036854775807
def yVn (i:Ew):Prop:=
 (∃(a:gq),sb a.p.code=sb i.s.p.code/\a.p.tick=i.s.p.tick/\a.p.low=i.s.p.low/\a.p.high=i.s.p.high/\a.p.wide=i.s.p.wide/\a.p.dt=i.s.p.dt/\a.p.top=i.s.p.top/\a.p.least=i.s.p.least/\a.p.part=i.s.p.part/\af 211 dp 6 zQ a.ej au=af 211 dp 6 zQ i.s.ej au/\yS a.wh=yS i.s.wh/\ae 1 (iE a.p.dm)=ae 1 (iE i.s.p.dm)/\ae 1 (iE a.p.settle)=ae 1 (iE i.s.p.settle)/\(cC a)/\∀(b:Unit),True->(XW a i)/\(∃(c:AY),sb c.i.p.code=sb i.s.p.code/\iE c.i.p.dm=iE a.p.dm/\c.i.p.tick=i.s.p.tick/\c.i.p.low=i.s.p.low/\c.i.p.high=i.s.p.high/\c.i.p.wide=i.s.p.wide/\c.i.p.dt=i.s.p.dt/\c.i.p.top=i.s.p.top/\c.i.p.least=i.s.p.least/\c.i.p.part=i.s.p.part/\iE c.i.p.settle=iE a.p.settle/\aa z7 c.i.fg=aa z7 a.fg/\c.i.inst=i.inst/\zC c.s=zC i.sd/\(kO c)/\∀(d:Unit),True->(S4 c i a)/\S4 c i a)/\V3 a i)/\(dj (sb i.s.p.code)/\True/\dj i.s.p.tick/\dj i.s.p.low/\dj i.s.p.high/\dj i.s.p.wide/\dj i.s.p.dt/\dj i.s.p.top/\dj i.s.p.least/\dj i.s.p.part/\True/\True)/\∃(a:gq),sb a.p.code=sb i.s.p.code/\a.p.tick=i.s.p.tick/\a.p.low=i.s.p.low/\a.p.high=i.s.p.high/\a.p.wide=i.s.p.wide/\a.p.dt=i.s.p.dt/\a.p.top=i.s.p.top/\a.p.least=i.s.p.least/\a.p.part=i.s.p.part/\af 211 dp 6 zQ a.ej au=af 211 dp 6 zQ i.s.ej au/\yS a.wh=yS i.s.wh/\ae 1 (iE a.p.dm)=ae 1 (iE i.s.p.dm)/\ae 1 (iE a.p.settle)=ae 1 (iE i.s.p.settle)/\(cC a)/\∀(b:Unit),True->V3 a i
def mN (a:H9):=(aa vI (vg a.L (zC a.s) a.dk))
def XC (a:Nat×gq->Prop) (b:Nat×gq) (c:Nat×gq->Nat) (d:Nat×gq) (e:Ck) (f:H9) (g:Ba) (h:Aq):Prop:=a b/\c b<c d/\dj (ak 2 1 (iE (kJ e)))/\dj (ae 5 (mN f))/\dj (aj [V.d (dI (dX g)),V.d (dI (uT g)),V.d (dI ((zY g).fst.count))] 177)/\dj (aj [V.d (dI h.inst),V.d (dI (zC h.sd))] 125)/\dj (ae 1 (iE h.s.p.dm))/\dj (ae 1 (iE h.s.p.settle))
def gY (a:Aq):=(qY a.p a.B a.inst (zC a.sd) a.q)
def cD (a:Aq):=(k0 a.B (gY a))
def yLc (i:Aq):Prop:=
 (0<=i.inst/\i.inst<(↑i.s.ej.length:Int))/\i.inst.toNat<i.s.ej.length/\∃(a:dp),i.s.ej[i.inst.toNat]?=ar a/\∃(b:Ba),zC b.side=zC i.sd/\yB b.b=yB a/\(vM b)/\∀(c:Unit),True->∃(d:dp),yB b.b=yB d/\dj i.inst.toNat/\i.inst.toNat<i.s.ej.length/\∃(e:dp),(i.s.ej.set i.inst.toNat d)[i.inst.toNat]?=ar e/\∃(f:H9),zC f.s=zC i.sd/\f.dk=(zY b).fst.dk/\yB f.b=yB e/\f.b.fq f.L/\∀(g:Unit),True->∃(h:dp),yB f.b=yB h/\dj i.inst.toNat/\i.inst.toNat<(i.s.ej.set i.inst.toNat d).length/\∃(j:Ck),sb j.p.code=sb i.s.p.code/\iE j.p.dm=iE i.s.p.dm/\j.p.tick=i.s.p.tick/\j.p.low=i.s.p.low/\j.p.high=i.s.p.high/\j.p.wide=i.s.p.wide/\j.p.dt=i.s.p.dt/\j.p.top=i.s.p.top/\j.p.least=i.s.p.least/\j.p.part=i.s.p.part/\iE j.p.settle=iE i.s.p.settle/\aa vI j.l=aa vI (vg f.L (zC f.s) f.dk)/\j.q=i.q/\(j.l.length<=1000/\((-9223372036854775808)<=j.q/\j.q<=9223372036854775807)/\((-9223372036854775808)<=j.p.least/\j.p.least<=9223372036854775807)/\((-9223372036854775808)<=j.p.top/\j.p.top<=9223372036854775807)/\(-9223372036854775808)<=j.p.part/\j.p.part<=9223372036854775807)/\∀(k:Unit),True->∃(l:Nat×gq),(↑l.fst:Int)=0/\sb l.snd.p.code=sb i.s.p.code/\l.snd.p.tick=i.s.p.tick/\l.snd.p.low=i.s.p.low/\l.snd.p.high=i.s.p.high/\l.snd.p.wide=i.s.p.wide/\l.snd.p.dt=i.s.p.dt/\l.snd.p.top=i.s.p.top/\l.snd.p.least=i.s.p.least/\l.snd.p.part=i.s.p.part/\af 211 dp 6 zQ l.snd.ej au=af 211 dp 6 zQ ((i.s.ej.set i.inst.toNat d).set i.inst.toNat h) au/\yS l.snd.wh=yS i.s.wh/\ae 1 (iE l.snd.p.dm)=ae 1 (iE i.s.p.dm)/\ae 1 (iE l.snd.p.settle)=ae 1 (iE i.s.p.settle)/\aa yX (i.fs l.fst)=[]/\∃(m:Nat×gq->Prop),∃(n:Nat×gq->Nat),m l/\∀(p:Nat×gq),m p->dq (decide ((↑p.fst:Int)<(↑(iE (kJ j)).length:Int))) ((0<=(↑p.fst:Int)/\(↑p.fst:Int)<(↑(iE (kJ j)).length:Int))/\∃(q:Int),zD (iE (kJ j)) (↑p.fst:Int).toNat 0 1=ar [dI q]/\dq (decide (q>0)) ((0<=(↑p.fst:Int)/\(↑p.fst:Int)<(↑(mN f).length:Int))/\∃(r:Int),∃(s:Int),∃(t:Int),∃(u:Int),∃(v:Bool),zD (mN f) (↑p.fst:Int).toNat 0 5=ar [dI r,dI s,dI t,dI u,D.v (.bool v)]/\∃(w:A5),w.id=r/\w.q=q/\zE w.s=zE p.snd/\(w.s.fq w.p w.B/\w.B.length<=1000)/\∀(x:gq),x.fq w.p (kM w.B w.id w.q).fst->((aa yX (i.fs p.fst)).length+1)*(48:Nat)<=(140737488355328:Nat)/\∃(y:Nat×gq),(↑y.fst:Int)=aq.wrap ((↑p.fst:Int)+1)/\zE y.snd=zE x/\aa yX (i.fs y.fst)=aa yX (i.fs p.fst)++[[dI r,dI i.inst,dI (zC i.sd),dI t,dI q,dI (aq.wrap (u-q))]]/\XC m y n p j f b i) (∃(r:Nat×gq),(↑r.fst:Int)=aq.wrap ((↑p.fst:Int)+1)/\zE r.snd=zE p.snd/\aa yX (i.fs r.fst)=aa yX (i.fs p.fst)/\XC m r n p j f b i)) (∃(q:gq),zE q=zE p.snd/\aa yX (gY i)=aa yX (i.fs p.fst)/\q.fq i.p (cD i))
def lU {p:ff} (hc:p.check=0) {k v:Int} (h:p.dk k v=0): -2000000<=v/\v<=2000000:=by
 have ok:=qS hc;have:=ok.b1;have:=ok.b2;have:=ok.b3;have:=ok.b4;have:=ok.b5;rw[ff.dk]at h;by_cases c1:p.count=0
 ·rw[fh c1]at h;cases h
 by_cases c2:k<0\/(p.count:Int)<=k
 ·rw[fb c1,fh c2]at h;cases h
 cases c3:qT p.tick v with
 |true=>rw[fb c1,fb c2,fh c3]at h;cases h
 |false=>
  rw[fb c1,fb c2,fb (by rw[c3];decide)]at h;by_cases c4:(p.dm.length:Int)<=k
  ·simp only[fh c4]at h;by_cases c5:v< -p.wide\/p.wide<v
   ·rw[fh c5]at h;cases h
   ·omega
  ·simp only[fb c4]at h;by_cases c5:v<p.low\/p.high<v
   ·rw[fh c5]at h;cases h
   ·omega
def MI {t:Int} (k:Int):qT t (t*k)=ao:=by
 simp[qT,Int.mul_tmod_right]
def zMc (x:ff):(ie x).small:=by
 have:=yNs x;refine⟨by simp[ie],?_,?_⟩
 ·show(qJ _).length<=_;rw[Zp];omega
 ·show(kK _ _).length<=_;rw[nO];omega
def nP (x:ff):(ie x).check=0:=by
 have ht:=To x;have hn:=yNs x;have hw:=yW (n:=x.wide) (lo:=0) (hi:=60) oM;have hr:=yW (n:=x.dt) (lo:=0) (hi:=2) oM;have ho:=yW (n:=x.top) (lo:=0) (hi:=9) oM;have hl:=yW (n:=x.least) (lo:=0) (hi:=4) oM;have hp:=yW (n:=x.part) (lo:=0) (hi:=100) oM;have h1:wH (ie x).code=ap:=by show wH [206,169]=ap;decide+kernel
 obtain⟨k,hk,DJ⟩:∃k:Nat,(kN x).toNat=k/\(2<=k/\k<=5):=⟨_,rfl,oM⟩
 have h2:xH (ie x).dm=ap:=by
  show xH (qJ (kN x).toNat)=ap;rw[hk];have:k=2\/k=3\/k=4\/k=5:=by omega
  rcases this with rfl|rfl|rfl|rfl<;>decide
 have h3:qO (ie x)=ap:=by
  have a:qT (zS x) (-20*zS x)=ao:=by rw[EH];exact MI _
  have b:qT (zS x) (100*zS x)=ao:=by rw[EH];exact MI _
  have c:(kK (zS x) (kN x).toNat).any (qT (zS x))=ao:=by
   rw[KR];intro y hy;obtain⟨j,_,rfl⟩:=pj.1 hy;rw[MI];decide
  simp only[qO,ie,a,b,c,MI,I4,Bool.and_true,lr];exact⟨lg oM,lg oM⟩
 have mw:=IM (a:=zS x) (b:=5+zG x.wide 0 60) (m:=zS x) (n:=65) oM oM;have h4:qR (ie x)=ao:=by
  simp only[qR,ie,KV];exact⟨⟨⟨⟨ku oM,ku oM⟩,ku oM⟩,ku oM⟩,ku oM⟩
 have h5:xK (ie x)=ao:=by
  have e:(kK (zS x) (kN x).toNat).length=(qJ (kN x).toNat).length:=by rw[nO,Zp]
  have ne:kK (zS x) (kN x).toNat≠[]:=by
   intro hc;have:=nO (zS x) (kN x).toNat;rw[hc]at this;simp at this;omega
  have bd:∀y∈kK (zS x) (kN x).toNat,0<=y/\y<=zS x*15:=by
   intro y hy;obtain⟨j,hj,rfl⟩:=pj.1 hy;have:=B5.1 hj;exact IM oM oM
  have m1:=bd _ (z1i ne);have m2:=bd _ (zZq ne);simp only[xK,ie,e,ne_eq,not_true_eq_false,decide_false,KL,KV];exact⟨ku oM,ku oM⟩
 have h6:kH (ie x)=ao:=by
  simp only[kH,ie,KV];exact⟨ku oM,ku oM⟩
 have h7:qD (ie x)=ao:=by
  simp only[qD,ie,KV];exact⟨⟨⟨⟨⟨ku oM,ku oM⟩,ku oM⟩,ku oM⟩,ku oM⟩,ku oM⟩
 rw[ff.check,h1,h2,h3,h4,h5,h6,h7];rfl
structure Sz (qs sh:List Int) (q:Int):Prop where
 len:sh.length=qs.length
 bd:∀n,0<=sh.getD n 0/\sh.getD n 0<=qs.getD n 0
 sum:sh.sum=q
def yIt:∀{l:List Int},(∀x∈l,0<=x)->0<=l.sum
 |[],_=>yp 0
 |a::l,h=>by
  have:=yIt (l:=l) λx hx=>h x (kg _ hx)
  have:=h a jm;rw[ra];omega
def yAw:∀{z:List (Int×Int)},(∀y∈z,0<=y.2/\y.2<=y.1)->(z.map (·.2)).sum<=(z.map (·.1)).sum
 |[],_=>yp 0
 |a::l,h=>by
  have:=yAw (z:=l) λx hx=>h x (kg _ hx)
  have:=h a jm;rw[jx,jx,ra,ra];omega
def lG:∀(l:List Int) (q:Int),(∀x∈l,0<=x)->0<=q->q<=l.sum->Sz l (gA l q) q
 |[],q,_,h0,h1=>⟨rfl,λn=>by simp[gA],by simp at h1;simp[gA];omega⟩
 |n::l,q,h,h0,h1=>by
  have hn:=h n jm;rw[ra]at h1;have:=yIt λx hx=>h x (kg _ hx)
  have ih:=lG l (q-min n q) (λx hx=>h x (kg _ hx)) oM oM;refine⟨by rw[gA,iJ,iJ,ih.len],λk=> ?_,by rw[gA,ra,ih.sum];omega⟩;cases k with
  |zero=>exact⟨by show 0<=min n q;omega,by show min n q<=n;omega⟩
  |succ k=>exact ih.bd k
def zDb:∀(z:List (Int×Int)) (q:Int),(∀y∈z,0<=y.2/\y.2<=y.1)->0<=q->q<=(z.map (·.1)).sum-(z.map (·.2)).sum->(wQ z q).length=z.length/\(∀n,0<=(wQ z q).getD n 0/\(wQ z q).getD n 0<=(z.map (·.1)).getD n 0)/\(wQ z q).sum=(z.map (·.2)).sum+q
 |[],q,_,h0,h1=>⟨rfl,λn=>by simp[wQ],by simp at h1;simp[wQ];omega⟩
 |(n,x)::r,q,h,h0,h1=>by
  have hn:=h (n,x) jm;simp only[jx,ra]at h1;have:=yAw λy hy=>h y (kg _ hy)
  have ih:=zDb r (q-min (n-x) q) (λy hy=>h y (kg _ hy)) oM oM;refine⟨by rw[wQ,iJ,iJ,ih.1],λk=> ?_,by rw[wQ,ra,ih.2.2,jx,ra];omega⟩;cases k with
  |zero=>exact⟨by show 0<=x+min (n-x) q;have:=hn.1;have:=hn.2;dsimp only at*;omega,by show x+min (n-x) q<=n;have:=hn.2;dsimp only at*;omega⟩
  |succ k=>exact ih.2.1 k
def yNh {l:List Int} {q:Int} (h1:l.length<=250) (h2:0<=q) (h3:∀x∈l,1<=x/\x<=1000000) (h4:q<=l.sum):yZ l q=ap:=by
 rw[yZ,lg h1,lg h2,lg h4];simp only[Ae,Bool.and_true,DB,lr,ud];exact h3
def zYa {i:vh} (h:yZ i.l i.q=ap) (hl:1<=i.least):Sz i.l (jJ i) i.q:=by
 obtain⟨r1,r2,r3,r4⟩:=jN h;rw[jJ,fh ⟨h,hl⟩];by_cases ji:i.l.length=0
 ·have e:i.l=[]:=yh ji;have hq:i.q=0:=by rw[e]at r4;simp at r4;omega
  have e0:i.p1=[]:=by rw[vh.p1,e];rfl
  rw[e0,e,hq];exact⟨rfl,λn=>by simp,rfl⟩
 ·obtain⟨_,_,f1,f2⟩:=S9 h oM;have yx:=Z2 i;have m1:(i.l.zip i.p0).map (·.1)=i.l:=List.map_fst_zip oM
  have m2:(i.l.zip i.p0).map (·.2)=i.p0:=List.map_snd_zip oM
  have hp:=zDb (i.l.zip i.p0) (i.q-i.p0.sum) (λy hy=>by
   obtain⟨j,hj⟩:=B6.1 hy;rw[OX]at hj;exact f1 j _ _ hj.1 hj.2) oM (by rw[m1,m2];omega)
  rw[m1,m2]at hp;refine⟨?_,hp.2.1,?_⟩
  ·rw[vh.p1,hp.1,List.length_zip,yx,Nat.min_self]
  ·rw[vh.p1,hp.2.2];omega
def VZ:∀{l:List Int} {k:Nat} {x:Int},k<l.length->(l.set k x).sum=l.sum+(x-l.getD k 0)
 |[],k,x,h=>absurd h (by simp)
 |a::l,0,x,_=>by
  show x+l.sum=a+l.sum+(x-a);omega
 |a::l,k+1,x,h=>by
  have:=VZ (l:=l) (k:=k) (x:=x) (by simpa using h);show a+(l.set k x).sum=a+l.sum+(x-l.getD k 0);omega
def WJ {l:List Int} {k n:Nat} {x:Int} (h:k<l.length):(l.set k x).getD n 0=if n=k then x else l.getD n 0:=by
 rw[nk,GF];by_cases e:k=n
 ·subst e;rw[fh rfl,fh h,fh rfl];rfl
 ·rw[fb e,fb (λe2=>e e2.symm),nk]
def z2q {l:List Int}:∀(z:List (Nat×Int)) (o:List Int),(z.map (·.1)).Nodup->(∀y∈z,y.1<o.length/\0<=y.2/\o.getD y.1 0+y.2<=l.getD y.1 0)->(∀n,0<=o.getD n 0/\o.getD n 0<=l.getD n 0/\l.getD n 0<=1000000)->
 (z.foldl (λo y=>o.set y.1 (aq.wrap (o.getD y.1 0+y.2))) o).length=o.length/\(z.foldl (λo y=>o.set y.1 (aq.wrap (o.getD y.1 0+y.2))) o).sum=o.sum+(z.map (·.2)).sum/\∀n,0<=(z.foldl (λo y=>o.set y.1 (aq.wrap (o.getD y.1 0+y.2))) o).getD n 0/\(z.foldl (λo y=>o.set y.1 (aq.wrap (o.getD y.1 0+y.2))) o).getD n 0<=l.getD n 0
 |[],o,_,_,h=>⟨rfl,by simp,λn=>⟨(h n).1,(h n).2.1⟩⟩
 |y::z,o,hn,hz,h=>by
  obtain⟨h1,h2,h3⟩:=hz y jm;rw[jx,zk]at hn;have hw:aq.wrap (o.getD y.1 0+y.2)=o.getD y.1 0+y.2:=by
   have:=h y.1;exact iA oM
  rw[EL,hw];have ih:=z2q (l:=l) z (o.set y.1 (o.getD y.1 0+y.2)) hn.2 (λx hx=>by
   obtain⟨g1,g2,g3⟩:=hz x (kg _ hx);have ji:x.1≠y.1:=λe=>hn.1 (e▸tc (f:=(·.1)) hx)
   rw[qv,WJ h1,fb ji];exact⟨g1,g2,g3⟩) (λn=>by
   rw[WJ h1];split
   ·rename_i e;rw[e];exact⟨by have:=h y.1;omega,h3,(h y.1).2.2⟩
   ·exact h n)
  refine⟨by rw[ih.1,qv],?_,ih.2.2⟩;rw[ih.2.1,VZ h1,jx,ra];omega
def zSh (l:List Int):(List.range l.length).map (λn=>l.getD n 0)=l:=by
 apply Hw;intro n;rw[vc];by_cases h:n<l.length
 ·rw[KT h,vd h,we,nk,vd h];rfl
 ·rw[ue (by simpa using h),ue (by omega)];rfl
def z9l {f g:Nat->Int}:∀l:List Nat,(l.map λn=>f n-g n).sum=(l.map f).sum-(l.map g).sum
 |[]=>rfl
 |a::l=>by rw[jx,jx,jx,ra,ra,ra,z9l l];omega
def zNw {f:Nat->Int} {p:Nat->Bool}:∀{l:List Nat},(∀n∈l,p n=ao->f n=0)->((l.filter p).map f).sum=(l.map f).sum
 |[],_=>rfl
 |a::l,h=>by
  have ih:=zNw (l:=l) λn hn=>h n (kg _ hn)
  rw[jx,ra];by_cases e:p a=ap
  ·rw[OW e,jx,ra,ih]
  ·rw[OV e,ih,h a jm (by simpa using e)];omega
def lF {i:py} (hl:i.l.length<=250) (ho:i.out.length=i.l.length) (hn:∀n,0<=i.out.getD n 0/\i.out.getD n 0<=i.l.getD n 0/\i.l.getD n 0<=1000000) (hq:0<=i.q/\i.q<=i.l.sum-i.out.sum) (hle:1<=i.least):
 Sz i.l (pQ i) (i.out.sum+i.q):=by
 have aaR:(i.idx i.l.length).length<=250:=xi (GG _ _) (by simpa using hl);have tu:∀n∈i.idx i.l.length,n<i.l.length/\i.out.getD n 0<i.l.getD n 0:=by
  intro n hn;obtain⟨a,b⟩:=uu.1 hn;exact⟨B5.1 a,oV b⟩
 have Ps:(i.left i.l.length).sum=i.l.sum-i.out.sum:=by
  rw[py.left,py.idx,zNw,z9l,zSh]
  ·rw[<- ho,zSh]
  ·intro n _ e;have:=KS e;have:=hn n;omega
 have hr:yZ (i.left i.l.length) i.q=ap:=by
  refine yNh (by rw[py.left,im];exact aaR) hq.1 (λx hx=> ?_) oM;obtain⟨n,hm,rfl⟩:=pj.1 hx;have:=tu n hm;have:=hn n;omega
 have hp:=zYa (i:=⟨i.left i.l.length,i.least,i.q⟩) hr hle;have yx:i.pl.length=(i.idx i.l.length).length:=by
  have:=hp.len;rw[py.pl,this,py.left,im]
 have qt:(i.idx i.l.length).Nodup:=List.nodup_range.sublist OR;have z1:((i.idx i.l.length).zip i.pl).map (·.1)=i.idx i.l.length:=List.map_fst_zip oM
 have z2:((i.idx i.l.length).zip i.pl).map (·.2)=i.pl:=List.map_snd_zip oM
 have hf:=z2q (l:=i.l) ((i.idx i.l.length).zip i.pl) i.out (by rw[z1];exact qt) (λy hy=>by
  obtain⟨j,hj⟩:=B6.1 hy;rw[OX]at hj;have hm:=tu y.1 (lq hj.1);have hb:=hp.bd j;have e1:(jJ ⟨i.left i.l.length,i.least,i.q⟩).getD j 0=y.2:=by
   rw[nk];have:(jJ ⟨i.left i.l.length,i.least,i.q⟩)[j]? =ar y.2:=hj.2;rw[this];rfl
  have e2:(i.left i.l.length).getD j 0=i.l.getD y.1 0-i.out.getD y.1 0:=by
   rw[nk,py.left,vc,hj.1];rfl
  dsimp only at hb;rw[e1,e2]at hb;exact⟨oM,hb.1,oM⟩) hn
 have vj:pQ i=((i.idx i.l.length).zip i.pl).foldl (λo y=>o.set y.1 (aq.wrap (o.getD y.1 0+y.2))) i.out:=by
  rw[pQ,py.add,oh (by rw[List.length_zip];omega)]
 rw[vj];refine⟨by rw[hf.1,ho],hf.2.2,?_⟩;rw[hf.2.1,z2];have:=hp.sum;rw[py.pl,this]
def yCd {l:List Int} (h:∀x∈l,1<=x/\x<=1000000) (n:Nat):0<=l.getD n 0/\l.getD n 0<=1000000:=by
 by_cases hn:n<l.length
 ·obtain⟨x,hx⟩:=z6 hn;have:=h x (lq hx);rw[zT hx];omega
 ·rw[nk,ue (by omega)];decide
def y0b (n k:Nat):(ab n (0:Int)).getD k 0=0:=by
 rw[nk,List.getElem?_replicate];split<;>rfl
def W2 (n:Nat):(ab n (0:Int)).sum=0:=by
 induction n with
 |zero=>rfl
 |succ n ih=>rw[KU,ra,ih];rfl
def yYe {q part:Int} (hq:0<=q) (h0:0<=part) (h1:part<=100):0<=q*part / 100/\q*part / 100<=q:=by
 have h2:0<=q*part:=MV hq h0;have h3:q*part<=q*100:=UO h1 hq;constructor<;>omega
def zYb {p:ff} (hc:p.check=0) {l:List zI} {q:Int} (hr:yZ (l.map (·.dr)) q=ap):Sz (l.map (·.dr)) (kJ ⟨p,l,q⟩) q:=by
 have ok:=qS hc;obtain⟨r1,r2,r3,r4⟩:=jN hr;have q1:=ok.q1;have q3:=ok.q3;have q5:=ok.q5;have q6:=ok.q6;have r5:=ok.r1;have r6:=ok.r2;have gb:=yCd r3;have eqs:(Ck.qs ⟨p,l,q⟩)=l.map (·.dr):=rfl
 rw[kJ];simp only[eqs];generalize l.map (·.dr)=qs at*
 by_cases c1:p.dt=1
 ·rw[fh c1,gM,fh hr];exact lG _ _ (λx hx=>by have:=r3 x hx;omega) r2 r4
 by_cases c2:p.dt=2
 ·rw[fb c1,fh c2,CE,fh ⟨hr,q3,q1⟩];rw[u'.rs];dsimp only;split
  ·rename_i ht;have hk:(iZ l).toNat<(ab qs.length (0:Int)).length:=by simp;omega
   have hf:0<=u'.first ⟨qs,iZ l,p.top,p.least,q⟩/\u'.first ⟨qs,iZ l,p.top,p.least,q⟩<=qs.getD (iZ l).toNat 0/\u'.first ⟨qs,iZ l,p.top,p.least,q⟩<=q:=by
    have:=gb (iZ l).toNat;simp only[u'.first];omega
   have hs:((ab qs.length (0:Int)).set (iZ l).toNat (u'.first ⟨qs,iZ l,p.top,p.least,q⟩)).sum=u'.first ⟨qs,iZ l,p.top,p.least,q⟩:=by
    rw[VZ hk,W2,y0b];omega
   have:=lF (i:=⟨qs,(ab qs.length 0).set (iZ l).toNat (u'.first ⟨qs,iZ l,p.top,p.least,q⟩),p.least,q-u'.first ⟨qs,iZ l,p.top,p.least,q⟩⟩) r1 (by simp) (λn=>by
    dsimp only;rw[WJ hk,y0b];have:=gb n;split
    ·rename_i e;rw[e];exact⟨hf.1,hf.2.1,(gb _).2⟩
    ·omega) (by dsimp only;rw[hs];omega) q3
   dsimp only at this;rw[hs]at this;have e:u'.first ⟨qs,iZ l,p.top,p.least,q⟩+(q-u'.first ⟨qs,iZ l,p.top,p.least,q⟩)=q:=by omega
   rw[e]at this;exact this
  ·have:=lF (i:=⟨qs,ab qs.length 0,p.least,q⟩) r1 (by simp) (λn=>by
    dsimp only;rw[y0b];have:=gb n;omega) (by dsimp only;rw[W2];omega) q3
   dsimp only at this;rw[W2,Int.zero_add]at this;exact this
 ·have c3:p.dt=3:=by omega
  rw[fb c1,fb c2,fh c3,B4,fh ⟨hr,q5,q6,q3⟩];rw[Jw.rs];dsimp only;obtain⟨d1,d2⟩:=yYe r2 q5 q6;have xf:yZ qs (q*p.part / 100)=ap:=yNh r1 d1 r3 oM;have xl:=lG qs (q*p.part / 100) (λx hx=>by have:=r3 x hx;omega) d1 oM;have e0:gM qs (q*p.part / 100)=gA qs (q*p.part / 100):=by rw[gM,fh xf]
  have:=lF (i:=⟨qs,gM qs (q*p.part / 100),p.least,q-q*p.part / 100⟩) r1 (by dsimp only;rw[e0];exact xl.len) (λn=>by
   dsimp only;rw[e0];exact⟨(xl.bd n).1,(xl.bd n).2,(gb n).2⟩) (by dsimp only;rw[e0,xl.sum];omega) q3
  dsimp only at this;rw[e0,xl.sum]at this;rw[e0];have e:q*p.part / 100+(q-q*p.part / 100)=q:=by omega
  rw[e]at this;exact this
def z7m {p:ff} {l:List zI} {q:Int} (hr:yZ (l.map (·.dr)) q=ao):kJ ⟨p,l,q⟩=[]:=by
 have eqs:(Ck.qs ⟨p,l,q⟩)=l.map (·.dr):=rfl
 rw[kJ];simp only[eqs,gM,CE,B4,hr];simp
def zTt:Iu.ok Tryz.prog 217:=ib (V:=yAd) mixed fj 0 (λ_=>[]) (λ_=>[]) [] Tryz.func217 λ(b:Bool) _=>by
 unfold yAd;cases b<;>exact⟨(),Z8,trivial⟩
def z1g:LV.ok Tryz.prog 218:=ib (V:=yGi) mixed fj 0 (λ_=>[]) (λ_=>[]) [] Tryz.func218 λ(i:P3) _=>by
 obtain⟨s,p,x⟩:=i;unfold yGi;cases s
 ·refine Cv.dq.mk (λ_=>zH (λc=>⟨(),?_,trivial⟩) (λc=>Cv.dq.mk (λe=>by simp[zC]at e) (λ_=>⟨(),?_,trivial⟩))) (λe=>by simp[zC]at e)
  ·exact lg c
  ·exact ku c
 ·exact Cv.dq.mk (λe=>by simp[zC]at e) (λ_=>Cv.dq.mk (λ_=>⟨(),rfl,trivial⟩) (λe=>by simp[zC]at e))
def z3u {L:List zI} {s:Int}:((iG L s).2=ap/\∃o∈L,o.side=s/\o.dk=(iG L s).1.dk)\/(iG L s=(⟨0,0,0⟩,ao)/\∀o∈L,o.side≠s):=by
 rw[iG];cases hl:gL L s with
 |nil=>
  refine .inr ⟨rfl,λo ho e=> ?_⟩;rw[gL]at hl;cases hf:L.filter λo=>decide (o.side=s)with
  |nil=>
   rw[UK]at hf;have:=hf o ho;simp[e]at this
  |cons x y=>
   rw[hf,xm]at hl;split at hl
   ·cases hl
   ·split at hl<;>cases hl
 |cons v vs=>
  refine .inl ⟨rfl,?_⟩;rw[gL]at hl;obtain⟨o,r,e1,e2⟩:=Xf hl;have:o∈L.filter λo=>decide (o.side=s):=by rw[e1];exact jm
  rw[uu]at this;exact⟨o,this.1,by simpa using this.2,e2⟩
def V4 {L:List zI} {s:Int} (h:∀o∈L,-2000000<=o.dk/\o.dk<=2000000): -2000000<=(iG L s).1.dk/\(iG L s).1.dk<=2000000:=by
 rcases z3u (L:=L) (s:=s)with⟨_,o,ho,_,e⟩|⟨e,_⟩
 ·rw[<- e];exact h o ho
 ·rw[e];constructor<;>decide
def SD (L:List zI):(kC L).p1=(iG L 1).1.dk/\(kC L).q1=(iG L 1).1.dr/\(kC L).fv=(iG L 1).2/\(kC L).p2=(iG L 2).1.dk/\(kC L).q2=(iG L 2).1.dr/\(kC L).fw=(iG L 2).2:=by
 have h:∀s,(iG L s).2=ap\/iG L s=(⟨0,0,0⟩,ao):=λs=>by
  rcases z3u (L:=L) (s:=s)with⟨h,_⟩|⟨h,_⟩
  ·exact .inl h
  ·exact .inr h
 rw[kC,jy.At,jy.Fc];rcases h 1 with h1|h1<;>rcases h 2 with h2|h2<;>simp[h1,h2,kq]
def iS.xz {p:ff} {B:List (List zI)} (h:iS p B) {k:Nat} {L:List zI} (hL:B[k]? =ar L):∀o∈L,-2000000<=o.dk/\o.dk<=2000000:=λo ho=>lU h.pc (h.pr k L hL o ho)
def iS.fg {p:ff} {B:List (List zI)} (h:iS p B):vV (B.map kC):=by
 have:=xS p;refine⟨by rw[im,h.bl];omega,λt ht=> ?_⟩;obtain⟨L,hL,rfl⟩:=pj.1 ht;obtain⟨k,hk⟩:=B6.1 hL;have b1:=V4 (s:=1) (h.xz hk);have b2:=V4 (s:=2) (h.xz hk);rw[(SD L).1,(SD L).2.2.2.1];exact⟨by constructor<;>omega,by constructor<;>omega⟩
def gq.fq.fg {s:gq} {p:ff} {B:List (List zI)} (h:s.fq p B):s.fg=B.map kC:=by
 rw[gq.fg];apply Hw;intro k;rw[vc,vc];by_cases hk:k<B.length
 ·obtain⟨L,hL⟩:=z6 hk;obtain⟨b,hb⟩:=z6 (l:=s.ej) (i:=k) (by rw[h.bl];exact hk);rw[hL,hb,we,we,(h.bk k b L hb hL).top]
 ·rw[ue (by rw[h.bl];omega),ue (by omega)];rfl
def gq.fq.Fb {s:gq} {p:ff} {B:List (List zI)} (h:s.fq p B) (hB:B.length<=1000000):s.ou:=by
 refine⟨by rw[h.bl];exact hB,λb hb=> ?_⟩;obtain⟨k,hk⟩:=B6.1 hb;have gv:=(jv.1 hk).1;rw[h.bl]at gv;obtain⟨L,hL⟩:=z6 gv;exact(h.bk k b L hk hL).Fb
def zZu {b:dp} {L:List zI} (h:b.fq L) (sd:Bool):b.iy (b.side sd)=iG L (zC sd):=by
 obtain⟨Q,c,ht,rfl⟩:=h;cases sd
 ·exact c.iG (.inl rfl)
 ·exact c.iG (.inr rfl)
def Ol (sd:Bool):zC sd=1\/zC sd=2:=by cases sd;exact .inl rfl;exact .inr rfl
def y3j (i:Ew) (h:JM.dq i):yVn i:=by
 obtain⟨hR,hB,h0,h1⟩:i.s.fq i.p i.B/\iS i.p i.B/\0<=i.inst/\i.inst<i.B.length:=h;have wm:=xS i.p;have Am:=hB.bl;have ym:=hR.bl;obtain⟨k,hk⟩:∃k:Nat,i.inst=k:=⟨i.inst.toNat,oM⟩
 obtain⟨L,hL⟩:=z6 (l:=i.B) (i:=k) oM;obtain⟨b,hb⟩:=z6 (l:=i.s.ej) (i:=k) oM;have DK:=hR.bk k b L hb hL;have CQ:i.s.p.small:=by rw[hR.ep];exact hB.ps
 have tp:vV i.s.fg:=by rw[hR.fg];exact hB.fg
 have BN:yV i.p i.B i.inst (zC i.sd)=if((iG L (zC i.sd)).2 && !((zU (x5 ⟨i.s.p,i.s.fg,i.inst⟩ (zC i.sd)) (zC i.sd)).2 && ki (zC i.sd) (zU (x5 ⟨i.s.p,i.s.fg,i.inst⟩ (zC i.sd)) (zC i.sd)).1.dk (iG L (zC i.sd)).1.dk))=ap then(⟨(iG L (zC i.sd)).1.dk,(iG L (zC i.sd)).1.dr,⟨0,0⟩,⟨0,0⟩⟩,ao,ap)else((zU (x5 ⟨i.s.p,i.s.fg,i.inst⟩ (zC i.sd)) (zC i.sd)).1,(zU (x5 ⟨i.s.p,i.s.fg,i.inst⟩ (zC i.sd)) (zC i.sd)).2,(zU (x5 ⟨i.s.p,i.s.fg,i.inst⟩ (zC i.sd)) (zC i.sd)).2):=by
  rw[yV,hR.fg,hR.ep,hk,oF,zT hL]
 have C8:=zZu DK i.sd;unfold yVn cC V3 kO fE S4 vM WQ zY WK yA XG dU XW;have DW:i.s.ou:=hR.Fb oM;have HI:(x5 ⟨i.s.p,i.s.fg,i.inst⟩ (zC i.sd)).length<=1000000:=by
  have:=xi (GG (λq=>decide (i.s.p.dk i.inst q.dk=0)) _) (Tj ⟨i.s.p,i.s.fg,i.inst⟩ (zC i.sd));exact xi this Z8
 refine(λhT=>⟨⟨i.s,gr (nn ⟨rfl,DW,λ_ _=>⟨⟨rfl,trivial,oJ ⟨rfl,trivial,trivial⟩⟩,⟨⟨⟨i.s.p,i.s.fg,i.inst⟩,i.sd⟩,gr (yj ⟨rfl,⟨CQ,tp⟩,λ_ _=>⟨hT,hT⟩⟩)⟩,⟨rfl,trivial,oJ ⟨rfl,trivial,trivial⟩⟩,⟨⟨⟨i.s.p,i.s.fg,i.inst⟩,i.sd⟩,gr (yj ⟨rfl,⟨CQ,tp⟩,λ_ _=>hT⟩)⟩⟩⟩)⟩,
  ⟨rfl,trivial,oJ ⟨rfl,trivial,trivial⟩⟩,⟨i.s,gr (nn ⟨rfl,DW,λ_ _=>⟨⟨rfl,trivial,oJ ⟨rfl,trivial,trivial⟩⟩,⟨⟨⟨i.s.p,i.s.fg,i.inst⟩,i.sd⟩,gr (yj ⟨rfl,⟨CQ,tp⟩,λ_ _=>hT⟩)⟩⟩⟩)⟩⟩) ?_
 refine⟨⟨x5 ⟨i.s.p,i.s.fg,i.inst⟩ (zC i.sd),zC i.sd⟩,rfl,rfl,⟨Ol _,HI⟩,λ_ _=>⟨⟨h0,oM⟩,oM,b,by rw[hk];exact hb,⟨i.sd,b⟩,rfl,rfl,DK.Fb,λ_ _=>⟨b,rfl,rfl,oM,?_⟩⟩⟩;dsimp only;rw[C8];generalize iG L (zC i.sd)=l at*;generalize zU (x5 ⟨i.s.p,i.s.fg,i.inst⟩ (zC i.sd)) (zC i.sd)=bq at*;have qh:i.s.ej.set i.inst.toNat b=i.s.ej:=uV (by rw[hk];exact hb);rw[qh];refine Cv.dq.mk (λc1=>Cv.dq.mk (λc2=>⟨⟨zC i.sd,bq.1.dk,l.1.dk⟩,rfl,rfl,rfl,trivial,λ_ _=>Cv.dq.mk (λc3=> ?_) (λc3=> ?_)⟩) (λc2=> ?_)) (λc1=> ?_)
 ·dsimp only at c3;rw[fh (by rw[c1,c2];simpa using c3)]at BN;rw[BN];exact⟨(),gu⟩
 ·dsimp only at c3;rw[fb (by rw[c1,c2];simpa using c3)]at BN;rw[BN];exact⟨(),gu⟩
 ·rw[fh (by rw[c1,c2];rfl)]at BN;rw[BN];exact⟨(),gu⟩
 ·rw[fb (by rw[c1];simp)]at BN;rw[BN];exact⟨(),gu⟩
def yOv:JM.ok Tryz.prog 226:=ib mixed (dx z1h (dx zVc (dx z3f (dx SW (dx mV fj))))) 0 (λ_=>[]) (λ_=>[]) [0] Tryz.func226 y3j
def z9t (i:py) (k:Nat):(i.add k).length=i.out.length:=by
 have:∀(l:List (Nat×Int)) (o:List Int),(l.foldl (λo y=>o.set y.1 (aq.wrap (o.getD y.1 0+y.2))) o).length=o.length:=by
  intro l
  induction l with
  |nil=>intro o;rfl
  |cons x l ih=>intro o;rw[EL,ih,qv]
 exact this _ _
def z0o (l:List Int) (q:Int):(gM l q).length<=l.length:=by
 rw[gM];split
 ·rw[Ot];exact lk _
 ·exact mz _
def yEq (i:Ck):(kJ i).length<=i.l.length:=by
 have hq:i.qs.length=i.l.length:=by simp[Ck.qs]
 rw[kJ,<- hq]
 repeat' split
 ·exact z0o _ _
 ·rw[CE];split
  ·rw[pQ,z9t,u'.rs];split
   ·simp
   ·simp
  ·exact mz _
 ·rw[B4];split
  ·rw[pQ,z9t];exact z0o _ _
  ·exact mz _
 ·exact mz _
def zQz {inst s:Int}:∀{os:List zI} {sh:List Int} {j:Nat} {o:zI} {k:Int},os[j]? =ar o->sh[j]? =ar k->x6 inst s (os.take (j+1)) (sh.take (j+1))=x6 inst s (os.take j) (sh.take j)++(if 0<k then[⟨o.id,inst,s,o.dk,k,o.dr-k⟩]else[])
 |[],_,_,_,_,h,_=>by simp at h
 |_::_,[],_,_,_,_,h=>by simp at h
 |o::os,k::sh,0,_,_,h,h2=>by
  cases h;cases h2;rw[vo,vo,Hu,Hu,Hu,Hu,x6];split<;>rfl
 |o::os,k::sh,j+1,o',k',h,h2=>by
  rw[vo,vo,x6,vo,vo,x6,zQz (os:=os) (sh:=sh) (j:=j) h h2];split<;>rfl
def zVw {inst s:Int}:∀(os:List zI) (sh:List Int),x6 inst s (os.take sh.length) (sh.take sh.length)=x6 inst s os sh
 |[],sh=>by simp
 |_::_,[]=>by simp[x6]
 |o::os,k::sh=>by
  rw[iJ,vo,vo,x6,x6,zVw os sh]
def yDd (B:List (List zI)) (a b:List bQ):k0 B (a++b)=k0 (k0 B a) b:=I7
def pN (B:List (List zI)) (id q:Int):(kM B id q).1.length=B.length:=by
 rw[kM];split
 ·rfl
 ·simp
def uW:∀(fs:List bQ) (B:List (List zI)),(k0 B fs).length=B.length
 |[],B=>rfl
 |f::fs,B=>by
  show(k0 (kM B f.id f.dr).1 fs).length=_;rw[uW fs,pN]
def yYu {p:ff} (h:p.check=0):gx p.least/\gx p.top/\gx p.part:=by
 have ok:=qS h;have:=ok.q1;have:=ok.q2;have:=ok.q3;have:=ok.q4;have:=ok.q5;have:=ok.q6;exact⟨⟨oM,oM⟩,⟨oM,oM⟩,⟨oM,oM⟩⟩
def yWq (i:Aq) (h:Fw.dq i):yLc i:=by
 obtain⟨hR,hB,h0,h1,hq⟩:i.s.fq i.p i.B/\iS i.p i.B/\0<=i.inst/\i.inst<i.B.length/\gx i.q:=h;have wm:=xS i.p;have Am:=hB.bl;have ym:=hR.bl;have ep:=hR.ep;obtain⟨k,hk⟩:∃k:Nat,i.inst=k:=⟨i.inst.toNat,oM⟩
 obtain⟨L,hL⟩:=z6 (l:=i.B) (i:=k) oM;obtain⟨b,hb⟩:=z6 (l:=i.s.ej) (i:=k) oM;have DK:=hR.bk k b L hb hL;have C8:=zZu DK i.sd;have Ca:vg L (zC i.sd) (iG L (zC i.sd)).1.dk=i.os:=by rw[Aq.os,SB,hk,oF,zT hL]
 have qh:i.s.ej.set i.inst.toNat b=i.s.ej:=uV (by rw[hk];exact hb);have abh:i.os.length<=250:=by
  rw[<- Ca];exact xi (GG _ _) DK.ox.2.2
 have Nm:i.sh.length<=i.os.length:=yEq _;obtain⟨k1,k2,k3⟩:=yYu hB.pc;have Ej:∀(j:Nat) (n:Int),i.sh[j]? =ar n->n<=1000000:=by
  intro j n hn;cases hr:yZ (i.os.map (·.dr)) i.q with
  |false=>
   have:i.sh=[]:=z7m hr;rw[this]at hn;cases hn
  |true=>
   have:=(zYb hB.pc hr).bd j;have e:(kJ ⟨i.p,i.os,i.q⟩).getD j 0=n:=zT hn;rw[e]at this;have:=(yCd (jN hr).2.2.1 j).2;omega
 unfold yLc XC uT dX mN cD gY zY vM dI;refine⟨⟨h0,oM⟩,oM,b,by rw[hk];exact hb,⟨i.sd,b⟩,rfl,rfl,DK.Fb,λ_ _=> ?_⟩;refine⟨b,rfl,rfl,oM,b,by rw[qh,hk];exact hb,⟨b,L,i.sd,(iG L (zC i.sd)).1.dk⟩,rfl,by dsimp only;rw[C8],rfl,DK,λ_ _=> ?_⟩;dsimp only
 try rw[C8]
 rw[qh,Ca];refine⟨b,rfl,rfl,oM,⟨i.p,i.os,i.q⟩,by rw[ep],by rw[ep],by rw[ep],by rw[ep],by rw[ep],by rw[ep],by rw[ep],by rw[ep],by rw[ep],by rw[ep],by rw[ep],rfl,rfl,⟨Z9,hq,k1,k2,k3⟩,λ_ _=> ?_⟩;have esh:kJ ⟨i.p,i.os,i.q⟩=i.sh:=rfl;rw[esh,qh,y4,im];refine⟨(0,i.s),gr (mh ⟨rfl,λj=>j.2.fq i.p (k0 i.B (i.fs j.1))/\j.1<=i.sh.length,λj=>i.sh.length-j.1,⟨hR,mz _⟩,λj hj=> ?_⟩)⟩;obtain⟨PA,El⟩:=hj;obtain⟨j,sj⟩:=j;dsimp only at PA El ⊢;refine zH (λc=> ?_) (λc=> ?_)
 ·obtain⟨n,hn⟩:=z6 (l:=i.sh) (i:=j) oM;obtain⟨o,ho⟩:=z6 (l:=i.os) (i:=j) oM;have ln:=zQz (inst:=i.inst) (s:=zC i.sd) ho hn;have hoL:o∈L:=by
   have:=lq ho;rw[<- Ca]at this;exact(uu.1 this).1
  have hoq:=(DK.ox.1 o hoL).q;have hnb:=Ej j n hn;refine⟨⟨oM,oM⟩,n,rk hn,zH (λc2=> ?_) (λc2=> ?_)⟩
  ·rw[fh (show 0<n from c2)]at ln;have Al:(i.fs j).length<=j:=by
    have:∀(os:List zI) (sh:List Int),(x6 i.inst (zC i.sd) os sh).length<=os.length:=by
     intro os
     induction os with
     |nil=>intro sh;exact lk 0
     |cons o os ih=>
      intro sh;cases sh with
      |nil=>exact mz _
      |cons k sh=>
       have:=ih sh;rw[x6];split
       ·simp only[iJ];omega
       ·simp only[iJ];omega
    exact xi (this _ _) (by rw[om];omega)
   refine⟨⟨oM,oM⟩,o.id,o.side,o.dk,o.dr,o.top,y1r ho,⟨sj,i.p,k0 i.B (i.fs j),o.id,n⟩,rfl,rfl,rfl,⟨PA,by dsimp only;rw[uW];omega⟩,λs' iM=>⟨by rw[im];omega,(j+1,s'),rf oM,rfl,?_,⟨?_,Z9⟩,Z9,gu⟩⟩
   ·show aa yX (x6 i.inst (zC i.sd) (i.os.take (j+1)) (i.sh.take (j+1)))=_;rw[ln,jr,iA (by omega)];rfl
   ·show s'.fq i.p (k0 i.B (x6 i.inst (zC i.sd) (i.os.take (j+1)) (i.sh.take (j+1))));rw[ln,yDd];exact iM
  ·rw[fb (show ¬0<n from c2),oU]at ln;refine⟨(j+1,sj),rf oM,rfl,?_,⟨?_,Z9⟩,Z9,gu⟩
   ·show aa yX (x6 i.inst (zC i.sd) (i.os.take (j+1)) (i.sh.take (j+1)))=_;rw[ln];rfl
   ·show sj.fq i.p (k0 i.B (x6 i.inst (zC i.sd) (i.os.take (j+1)) (i.sh.take (j+1))));rw[ln];exact PA
 ·have E7:j=i.sh.length:=by omega
  subst E7;have hfa:i.fs i.sh.length=qY i.p i.B i.inst (zC i.sd) i.q:=zVw _ _;rw[hfa]at PA ⊢;exact⟨sj,rfl,rfl,PA⟩
def yLn:Fw.ok Tryz.prog 227:=ib mixed (dx SW (dx y3q (dx yGj (dx Tc fj)))) 0 (λ_=>[]) (λi=>y1k i) [0] Tryz.func227 yWq
structure wC where
 dk:Int
 dr:Int
 iN:Bool
 ig:List bQ
 deriving DecidableEq
def wJ (t:wC):List D:=[.v (.int .i64 t.dk),.v (.int .i64 t.dr),.v (.bool t.iN),.ro 6 (t.ig.map yX)]
def mU (p:ff) (B:List (List zI)) (inst:Int) (sd:Bool) (dk dr:Int):Option (wC×List (List zI)):=
 let n:=yV p B inst (zC (!sd))
 if(n.2.2 && (bU sd dk n.1.dk && decide (1<=n.1.dr)))=ap then
  if n.2.1=ap then
   let f1:=qY p B n.1.a.inst n.1.a.side (min dr n.1.dr)
   let f2:=qY p (k0 B f1) n.1.b.inst n.1.b.side (min dr n.1.dr)
   ar (⟨n.1.dk,min dr n.1.dr,ap,f1++f2⟩,k0 (k0 B f1) f2)
  else
   let f:=qY p B inst (zC (!sd)) (min dr n.1.dr)
   ar (⟨n.1.dk,min dr n.1.dr,ao,f⟩,k0 B f)
 else au
structure yYn where
 steps:List wC
 left:Int
 B:List (List zI)
def D5 (p:ff) (inst:Int) (sd:Bool) (dk:Int):Nat->List (List zI)->Int->yYn
 |0,B,q=>⟨[],q,B⟩
 |n+1,B,q=>if q<=0 then⟨[],q,B⟩else match mU p B inst sd dk q with
  |none=>⟨[],q,B⟩
  |some (t,B')=>let r:=D5 p inst sd dk n B' (q-t.dr);⟨t::r.steps,r.left,r.B⟩
def wU (p:ff) (B:List (List zI)) (inst:Int) (sd:Bool) (dk q:Int):yYn:=D5 p inst sd dk q.toNat B q
structure nq where
 s:gq
 p:ff
 B:List (List zI)
 inst:Int
 sd:Bool
 dk:Int
 q:Int
def nq.r (i:nq):yYn:=wU i.p i.B i.inst i.sd i.dk i.q
def Qc:gi where
 ι:=nq
 pat:=λi=>[.nm 0 0,zA i.inst,zA (zC i.sd),zA i.dk,zA i.q]
 pre:=λi=>[zE i.s]
 dq:=λi=>i.s.fq i.p i.B/\iS i.p i.B/\(0<=i.inst/\i.inst<i.B.length)/\1<=i.q/\i.q<=1000000
 alts:=λi=>[{o:=gq,res:=λ_=> .ja [.own 1,zA i.r.left],post:=λs=>[zE s,.own 331 4 (i.r.steps.map wJ)],rel:=λs=>s.fq i.p i.r.B}]
structure ED where
 s:gq
 B:List (List zI)
 steps:List wC
 q:Int
def y7p:List gp:=[
 {ι:=ED,dv:=λj=>[(0,.nm 0 0),(12,.own 1),(4,zA j.q)],rows:=λj=>[zE j.s,.own 331 4 (j.steps.map wJ)]},
 {ι:=Unit,dv:=λ_=>[],rows:=λ_=>[],un:=3}]
def W5 (a:ED->Nat) (b:ED) (c:ED) (d:nq):Prop:=a b<a c/\dj (ae 1 (iE d.s.p.dm))/\dj (ae 1 (iE d.s.p.settle))
def Tv (a:Aq):Prop:=a.s.fq a.p a.B/\iS a.p a.B/\0<=a.inst/\a.inst<(↑a.B.length:Int)/\(-9223372036854775808)<=a.q/\a.q<=9223372036854775807
def WT (a:nq) (b:ED) (c:Ew):Prop:=∃(d:gq),a.r.left=b.q/\zE d=zE c.s/\aa wJ a.r.steps=aa wJ b.steps/\d.fq a.p a.r.B
def l8 (a:Aq):=(aa yX (gY a))
def z4o (a:nq):Prop:=∃(b:ED),b.q=a.q/\sb b.s.p.code=sb a.s.p.code/\b.s.p.tick=a.s.p.tick/\b.s.p.low=a.s.p.low/\b.s.p.high=a.s.p.high/\b.s.p.wide=a.s.p.wide/\b.s.p.dt=a.s.p.dt/\b.s.p.top=a.s.p.top/\b.s.p.least=a.s.p.least/\b.s.p.part=a.s.p.part/\af 211 dp 6 zQ b.s.ej au=af 211 dp 6 zQ a.s.ej au/\yS b.s.wh=yS a.s.wh/\ae 1 (iE b.s.p.dm)=ae 1 (iE a.s.p.dm)/\ae 1 (iE b.s.p.settle)=ae 1 (iE a.s.p.settle)/\aa wJ b.steps=[]/\∃(c:ED->Prop),∃(d:ED->Nat),c b/\∀(e:ED),c e->dq (decide (e.q>0)) (∃(f:Bool),zC f=zC a.sd/\True/\∀(g:Unit),True->∃(h:Ew),h.inst=a.inst/\zC h.sd=zC !f/\zE h.s=zE e.s/\(h.s.fq h.p h.B/\iS h.p h.B/\0<=h.inst/\h.inst<(↑h.B.length:Int))/\∀(j:Unit),True->dq (!(yA h).snd.snd) (WT a e h) (∃(k:P3),zC k.s=zC a.sd/\k.p=a.dk/\k.x=(yA h).fst.dk/\True/\∀(l:Unit),True->dq (!bU k.s k.p k.x) (WT a e h) (dq (yA h).snd.fst (∃(m:Aq),m.inst=(yA h).fst.a.inst/\zC m.sd=(yA h).fst.a.side/\m.q=min e.q (yA h).fst.dr/\zE m.s=zE h.s/\(Tv m)/\∀(n:gq),n.fq m.p (cD m)->True/\(l8 m).length*(48:Nat)<=(140737488355328:Nat)/\∃(p:Aq),p.inst=(yA h).fst.b.inst/\zC p.sd=(yA h).fst.b.side/\p.q=min e.q (yA h).fst.dr/\zE p.s=zE n/\(Tv p)/\∀(q:gq),q.fq p.p (cD p)->True/\((l8 m).length+(l8 p).length)*(48:Nat)<=(140737488355328:Nat)/\((aa wJ e.steps).length+1)*(48:Nat)<=(140737488355328:Nat)/\∃(r:ED),r.q=aq.wrap (e.q-min e.q (yA h).fst.dr)/\zE r.s=zE q/\aa wJ r.steps=aa wJ e.steps++[[dI ((yA h).fst.dk),dI (min e.q (yA h).fst.dr),D.v (.bool (yA h).snd.fst),D.ro 6 (aa yX (gY m)++aa yX (gY p))]]/\c r/\W5 d r e a) (∃(m:Bool),zC m=zC a.sd/\True/\∀(n:Unit),True->dj (min e.q (yA h).fst.dr)/\∃(p:Aq),p.inst=a.inst/\zC p.sd=zC !m/\p.q=min e.q (yA h).fst.dr/\zE p.s=zE h.s/\(Tv p)/\∀(q:gq),q.fq p.p (cD p)->((aa wJ e.steps).length+1)*(48:Nat)<=(140737488355328:Nat)/\∃(r:ED),r.q=aq.wrap (e.q-min e.q (yA h).fst.dr)/\zE r.s=zE q/\aa wJ r.steps=aa wJ e.steps++[[dI ((yA h).fst.dk),dI (min e.q (yA h).fst.dr),D.v (.bool (yA h).snd.fst),D.ro 6 (l8 p)]]/\c r/\W5 d r e a)))) (∃(f:gq),a.r.left=e.q/\zE f=zE e.s/\aa wJ a.r.steps=aa wJ e.steps/\f.fq a.p a.r.B)
def bK (a:nq):Prop:=∃(b:gq),a.r.left=a.q/\sb b.p.code=sb a.s.p.code/\b.p.tick=a.s.p.tick/\b.p.low=a.s.p.low/\b.p.high=a.s.p.high/\b.p.wide=a.s.p.wide/\b.p.dt=a.s.p.dt/\b.p.top=a.s.p.top/\b.p.least=a.s.p.least/\b.p.part=a.s.p.part/\af 211 dp 6 zQ b.ej au=af 211 dp 6 zQ a.s.ej au/\yS b.wh=yS a.s.wh/\ae 1 (iE b.p.dm)=ae 1 (iE a.s.p.dm)/\ae 1 (iE b.p.settle)=ae 1 (iE a.s.p.settle)/\aa wJ a.r.steps=[]/\b.fq a.p a.r.B
def y5o (i:nq):Prop:=
 dq (decide (i.inst>=0)) (dq (decide (i.inst<(↑i.s.ej.length:Int))) (dq (zC i.sd==1) (dq (decide (i.q>=1)) (dq (!decide (i.q<=1000000)) (bK i) (z4o i)) (bK i)) (dq (zC i.sd==2) (dq (decide (i.q>=1)) (dq (!decide (i.q<=1000000)) (bK i) (z4o i)) (bK i)) (bK i))) (bK i)) (bK i)
structure QOk (T:List jy) (q:Quote):Prop where
 a:0<=q.a.inst/\q.a.inst<T.length
 b:0<=q.b.inst/\q.b.inst<T.length
 sa:q.a.side=1\/q.a.side=2
 sb:q.b.side=1\/q.b.side=2
 ne:q.a.inst≠q.b.inst
 ha:(T.getD q.a.inst.toNat kq).has q.a.side=ap
 hb:(T.getD q.b.inst.toNat kq).has q.b.side=ap
 dr:q.dr=min ((T.getD q.a.inst.toNat kq).dr q.a.side) ((T.getD q.b.inst.toNat kq).dr q.b.side)
def z4r {T:List jy} {a b:Ch} {less:Bool} {q:Quote} (h:q∈yl T a b less) (h1:0<=a.inst/\a.inst<T.length) (h2:0<=b.inst/\b.inst<T.length) (h3:a.side=1\/a.side=2) (h4:b.side=1\/b.side=2) (ji:a.inst≠b.inst):QOk T q/\q.a=a/\q.b=b:=by
 cases less
 all_goals
  simp only[yl,oK,↓reduceIte]at h;split at h
  ·rename_i hc;simp only[lr]at hc;rw[vm]at h;subst h;exact⟨⟨h1,h2,h3,h4,ji,hc.1.1,hc.1.2,rfl⟩,rfl,rfl⟩
  ·cases h
def yXy:∀n≤6,∀k<n+n*(n-1) / 2,n<=k->(jE n k n 0).1≠(jE n k n 0).2.1:=by decide
def z8i {p:ff} (hc:p.check=0) {k:Nat} (hk:k<p.count) (hs:(p.gj k).2.2=ap):(p.gj k).1≠(p.gj k).2.1:=by
 have m6:=(qS hc).m6;have rh:=hk;rw[ff.count,fh hc]at rh;by_cases h:k<p.dm.length
 ·rw[ff.gj,fb (by omega),fh (by omega)]at hs;cases hs
 ·rw[ff.gj,fb (by omega),fb (by omega)];exact yXy p.dm.length m6 k rh oM
def yFp:∀n≤6,∀a<n,∀b<n,a<b->(yL n a:Int)+b-a-1>=n:=by decide
def zVx {p:ff} (hc:p.check=0) {a b:Nat} (Eo:a<b) (hb:b<p.dm.length):(p.dm.length:Int)<=(p.spread a b).1:=by
 have m6:=(qS hc).m6;have:=yFp p.dm.length m6 a oM b hb Eo;rw[ff.spread,fb (by omega)];simpa using this
def yAs {p:ff} (hc:p.check=0) {T:List jy} (hT:T.length=p.count) {inst:Int} {s:Int} (hs:s=1\/s=2) {q:Quote} (h:q∈kQ ⟨p,T,inst⟩ s):QOk T q/\0<=inst/\inst<p.count/\
 (((p.gj inst).2.2=ap/\q.a=⟨(p.gj inst).1,s⟩/\q.b=⟨(p.gj inst).2.1,3-s⟩)\/(inst<p.dm.length/\q.a.inst≠inst/\(p.dm.length:Int)<=q.a.inst)):=by
 rw[kQ]at h;dsimp only at h;split at h
 ·cases h
 ·rename_i hn;have h0:0<=inst/\inst<p.count:=by omega
  obtain⟨k,rfl⟩:∃k:Nat,inst=k:=⟨inst.toNat,oM⟩
  have hk:k<p.count:=by omega
  have K4:=Ti hc;split at h
  ·rename_i hl;obtain⟨q',Vb,rfl⟩:=pj.1 h;have hle:=fC hc hk;rcases hle with⟨_,l1,l2,l3,l4⟩|⟨e,_⟩
   ·obtain⟨ok,e1,e2⟩:=z4r Vb Z9 Z9 Z9 hs (λe=>z8i hc hk hl e.symm);refine⟨⟨by dsimp only[bX];omega,by dsimp only[bX];omega,hs,by dsimp only[bX];omega,z8i hc hk hl,?_,?_,?_⟩,h0.1,h0.2,.inl ⟨hl,rfl,rfl⟩⟩
    ·have:=ok.hb;rw[e2]at this;exact this
    ·have:=ok.ha;rw[e1]at this;exact this
    ·have:=ok.dr;rw[e1,e2]at this;dsimp only[bX];rw[this];exact Int.min_comm _ _
   ·rw[e]at hl;cases hl
  ·rename_i hl;have hm:k<p.dm.length:=by
    rcases fC hc hk with⟨e,_⟩|⟨_,e⟩
    ·exact absurd e hl
    ·exact e
   rcases pz.1 h with h|h
   ·obtain⟨j,hj,h⟩:=AL.1 h;have hj:=B5.1 hj;rw[oF]at hj;have s1:=aT hc (a:=k) (b:=k+1+j) oM oM;have s2:=zVx hc (a:=k) (b:=k+1+j) oM oM;have ec:((k:Int)+1+j)=((k+1+j:Nat):Int):=by omega
    rw[ec]at h;obtain⟨ok,e1,e2⟩:=z4r h Z9 Z9 hs hs Z9;exact⟨ok,h0.1,h0.2,.inr ⟨oM,by rw[e1];dsimp only;omega,by rw[e1];exact s2⟩⟩
   ·obtain⟨j,hj,h⟩:=AL.1 h;have hj:=B5.1 hj;rw[oF]at hj;have s1:=aT hc (a:=j) (b:=k) oM oM;have s2:=zVx hc (a:=j) (b:=k) oM oM;obtain⟨ok,e1,e2⟩:=z4r h Z9 Z9 Z9 hs Z9;exact⟨ok,h0.1,h0.2,.inr ⟨oM,by rw[e1];dsimp only;omega,by rw[e1];exact s2⟩⟩
def zUs {s:Int}:∀(r:List Quote) (q:Quote),r.foldl (λb q=>if ki s q.dk b.dk then q else b) q∈q::r
 |[],q=>jm
 |x::r,q=>by
  rw[EL];have:=zUs (s:=s) r (if ki s x.dk q.dk then x else q);rcases mn.1 this with e|h
  ·rw[e];split
   ·exact kg _ jm
   ·exact jm
  ·exact kg _ (kg _ h)
def Ym {l:List Quote} {s:Int} (h:(zU l s).2=ap):(zU l s).1∈l:=by
 cases l with
 |nil=>cases h
 |cons q r=>exact zUs r q
def Ut (B:List (List zI)):Prop:=∀(k:Nat) (L:List zI),B[k]?=ar L->(∀o∈L,Kn o)/\(L.map (·.id)).Nodup/\L.length<=250
def gq.fq.ox {s:gq} {p:ff} {B:List (List zI)} (h:s.fq p B):Ut B:=by
 intro k L hL;obtain⟨b,hb⟩:=z6 (l:=s.ej) (i:=k) (by rw[h.bl];exact(jv.1 hL).1);exact(h.bk k b L hb hL).ox
def UG:∀{l:List zI} {v:Lv},(∀o∈l,Kn o)->v∈xm l->1<=v.dr/\v.dr<=1000000*l.length
 |[],v,_,h=>by cases h
 |o::l,v,ho,h=>by
  have h0:=(ho o jm).q;have ih:∀v∈xm l,1<=v.dr/\v.dr<=1000000*l.length:=λv hv=>UG (λx hx=>ho x (kg _ hx)) hv
  rw[xm]at h;rw[iJ];split at h
  ·rw[vm]at h;subst h;dsimp only;omega
  ·rename_i w ws e;rw[e]at ih;have hw:=ih w jm;split at h
   ·rcases mn.1 h with rfl|h
    ·dsimp only;omega
    ·have:=ih v (kg _ h);omega
   ·rcases mn.1 h with rfl|h
    ·dsimp only;omega
    ·have:=ih v h;omega
def ZT {L:List zI} {s:Int} (h:∀o∈L,Kn o) (hl:L.length<=250) (hb:(iG L s).2=ap):1<=(iG L s).1.dr/\(iG L s).1.dr<=250000000:=by
 rw[iG]at hb ⊢;cases Nv:gL L s with
 |nil=>rw[Nv]at hb;cases hb
 |cons v vs=>
  dsimp only;have hm:v∈xm (L.filter λo=>decide (o.side=s)):=by rw[<- gL,Nv];exact jm
  have:=UG (λo ho=>h o (uu.1 ho).1) hm;have:=GG (λo:zI=>decide (o.side=s)) L;omega
def yIn {B:List (List zI)} {k:Nat} {L:List zI} (hL:B[k]? =ar L):(B.map kC).getD k kq=kC L:=zT (by rw[vc,hL];rfl)
def SP (L:List zI) {s:Int} (hs:s=1\/s=2):(kC L).has s=(iG L s).2/\(kC L).dr s=(iG L s).1.dr/\(kC L).dk s=(iG L s).1.dk:=by
 obtain⟨e1,e2,e3,e4,e5,e6⟩:=SD L;rcases hs with rfl|rfl
 ·exact⟨e3,e2,e1⟩
 ·exact⟨e6,e5,e4⟩
def yAt {p:ff} {B:List (List zI)} (h:iS p B) (ho:Ut B) {inst:Int} (hi:0<=inst/\inst<B.length) {s:Int} (hs:s=1\/s=2) (hn:(yV p B inst s).2.2=ap):
 (1<=(yV p B inst s).1.dr/\(yV p B inst s).1.dr<=250000000)/\((yV p B inst s).2.1=ap->(yV p B inst s).1∈kQ ⟨p,B.map kC,inst⟩ s/\QOk (B.map kC) (yV p B inst s).1)/\
 ((yV p B inst s).2.1=ao->(iG (B.getD inst.toNat []) s).2=ap/\(yV p B inst s).1.dk=(iG (B.getD inst.toNat []) s).1.dk/\(yV p B inst s).1.dr=(iG (B.getD inst.toNat []) s).1.dr):=by
 obtain⟨k,rfl⟩:∃k:Nat,inst=k:=⟨inst.toNat,oM⟩
 obtain⟨L,hL⟩:=z6 (l:=B) (i:=k) oM;have hLo:=ho k L hL;rw[yV]at hn ⊢;rw[oF,zT hL]at hn ⊢;split
 ·rename_i c;simp only[lr]at c;exact⟨ZT hLo.1 hLo.2.2 c.1,⟨λe=>(by cases e),λ_=>⟨c.1,rfl,rfl⟩⟩⟩
 ·rename_i c;rw[fb c]at hn;dsimp only at hn ⊢;have hm:=Ym hn;have ha:(zU (x5 ⟨p,B.map kC,k⟩ s) s).1∈kQ ⟨p,B.map kC,k⟩ s:=(uu.1 hm).1;obtain⟨ok,_⟩:=yAs h.pc (by rw[im];exact h.bl) hs ha;refine⟨?_,λ_=>⟨ha,ok⟩,λe=>by rw[hn]at e;cases e⟩;generalize (zU (x5 ⟨p,B.map kC,k⟩ s) s).1=q at ok;have a:=ok.a;have b:=ok.b;rw[im]at a b;obtain⟨La,hLa⟩:=z6 (l:=B) (i:=q.a.inst.toNat) oM;obtain⟨Lb,hLb⟩:=z6 (l:=B) (i:=q.b.inst.toNat) oM;have e1:=ok.ha;have e2:=ok.hb;have e3:=ok.dr;rw[yIn hLa]at e1 e3;rw[yIn hLb]at e2 e3;rw[(SP La ok.sa).1]at e1;rw[(SP Lb ok.sb).1]at e2;rw[(SP La ok.sa).2.1,(SP Lb ok.sb).2.1]at e3;have:=ZT (ho _ _ hLa).1 (ho _ _ hLa).2.2 e1;have:=ZT (ho _ _ hLb).1 (ho _ _ hLb).2.2 e2;omega
def yHk {L:List zI} {id q:Int} {o:zI} (h:o∈(qA L id q).1):∃o'∈L,o.dk=o'.dk/\o.side=o'.side/\o.id=o'.id:=by
 rw[qA]at h;split at h
 ·exact⟨o,h,rfl,rfl,rfl⟩
 split at h
 ·exact⟨o,h,rfl,rfl,rfl⟩
 obtain⟨o',oG,e⟩:=M1.1 h;refine⟨o',oG,?_⟩;split at e
 ·split at e
  ·cases e
  ·cases e;exact⟨rfl,rfl,rfl⟩
 ·cases e;exact⟨rfl,rfl,rfl⟩
def iS.take {p:ff} {B:List (List zI)} (h:iS p B) (id q:Int):iS p (kM B id q).1:=by
 refine⟨h.pc,h.ps,by rw[pN];exact h.bl,λk L hL o ho=> ?_⟩;rw[kM]at hL;split at hL
 ·exact h.pr k L hL o ho
 ·rename_i j hj;dsimp only at hL;rcases aB hL with⟨rfl,rfl⟩|⟨_,hL⟩
  ·obtain⟨o',oG,e,_⟩:=yHk ho;obtain⟨L',Jt,_⟩:=gZ hj;rw[zT Jt]at oG;rw[e];exact h.pr k L' Jt o' oG
  ·exact h.pr k L hL o ho
def iS.takes {p:ff}:∀{fs:List bQ} {B:List (List zI)},iS p B->iS p (k0 B fs)
 |[],B,h=>h
 |f::fs,B,h=>iS.takes (fs:=fs) (h.take f.id f.dr)
def z0x (inst s:Int):∀(os:List zI) (sh:List Int),(x6 inst s os sh).length<=os.length
 |[],sh=>lk 0
 |o::os,[]=>mz _
 |o::os,k::sh=>by
  have:=z0x inst s os sh;rw[x6];split
  ·simp only[iJ];omega
  ·simp only[iJ];omega
def rQ {p:ff} {B:List (List zI)} (ho:Ut B) (inst s q:Int):(qY p B inst s q).length<=250:=by
 refine xi (z0x _ _ _ _) (xi (GG _ _) ?_);by_cases h:inst.toNat<B.length
 ·obtain⟨L,hL⟩:=z6 h;rw[zT hL];exact(ho _ _ hL).2.2
 ·rw[nk,ue (by omega)];exact mz _
def NP {p:ff} {B:List (List zI)} {inst:Int} {sd:Bool} {dk q:Int} {t:wC} {B':List (List zI)} (hq:1<=q) (h:mU p B inst sd dk q=ar (t,B')):1<=t.dr/\t.dr<=q:=by
 rw[mU]at h;dsimp only at h;split at h
 ·rename_i c;simp only[lr,ud]at c;split at h
  ·cases h;dsimp only;omega
  ·cases h;dsimp only;omega
 ·cases h
def z0n {p:ff} {inst:Int} {sd:Bool} {dk:Int}:∀(m n:Nat) (B:List (List zI)) (q:Int),q.toNat<=m->q.toNat<=n->D5 p inst sd dk m B q=D5 p inst sd dk n B q
 |0,0,B,q,_,_=>rfl
 |0,n+1,B,q,h,_=>by rw[D5,D5,fh (by omega)]
 |m+1,0,B,q,_,h=>by rw[D5,D5,fh (by omega)]
 |m+1,n+1,B,q,h1,h2=>by
  rw[D5,D5];split
  ·rfl
  ·rename_i hq;cases hs:mU p B inst sd dk q with
   |none=>rfl
   |some x=>
    obtain⟨t,B'⟩:=x;have:=NP oM hs;dsimp only;rw[z0n m n B' (q-t.dr) (by omega) (by omega)]
def lH {p:ff} {B:List (List zI)} {inst:Int} {sd:Bool} {dk q:Int} (h:q<=0\/mU p B inst sd dk q=au):wU p B inst sd dk q=⟨[],q,B⟩:=by
 rw[wU];cases hn:q.toNat with
 |zero=>rfl
 |succ n=>
  rw[D5];rcases h with h|h
  ·rw[fh h]
  ·rw[fb (by omega),h]
def W7 {p:ff} {B:List (List zI)} {inst:Int} {sd:Bool} {dk q:Int} {t:wC} {B':List (List zI)} (hq:1<=q) (h:mU p B inst sd dk q=ar (t,B')):
 wU p B inst sd dk q=⟨t::(wU p B' inst sd dk (q-t.dr)).steps,(wU p B' inst sd dk (q-t.dr)).left,(wU p B' inst sd dk (q-t.dr)).B⟩:=by
 have ht:=NP hq h;rw[wU];cases hn:q.toNat with
 |zero=>omega
 |succ n=>
  rw[D5,fb (by omega),h];dsimp only;rw[z0n n (q-t.dr).toNat B' (q-t.dr) (by omega) (lk _)];rfl
def fN {s:Int} (h:s=1\/s=2):zC (decide (s=2))=s:=by
 rcases h with rfl|rfl<;>rfl
def y9h (i:nq) (h:Qc.dq i):y5o i:=by
 obtain⟨hR,hB,⟨h0,h1⟩,rm,rl⟩:i.s.fq i.p i.B/\iS i.p i.B/\(0<=i.inst/\i.inst<i.B.length)/\1<=i.q/\i.q<=1000000:=h;have Am:=hR.bl;have wm:=xS i.p;have hbB:=hB.bl;unfold y5o z4o cD l8 gY WT Tv W5 yA bK dI;refine(λhT=>zH (λc=>zH (λc2=>Cv.dq.mk (λ_=>zH (λ_=>Cv.dq.mk (λe=>absurd rl (by simpa using e)) (λ_=>hT)) (λe=>absurd rm e)) (λe1=>Cv.dq.mk (λ_=>zH (λ_=>Cv.dq.mk (λe=>absurd rl (by simpa using e)) (λ_=>hT)) (λe=>absurd rm e)) (λe2=>by
  rcases Ol i.sd with e|e
  ·rw[e]at e1;cases e1
  ·rw[e]at e2;cases e2))) (λc2=>absurd oM c2)) (λc=>absurd h0 c)) ?_
 refine⟨⟨i.s,i.B,[],i.q⟩,gr (mh ⟨rfl,λj=>j.s.fq i.p j.B/\iS i.p j.B/\j.B.length=i.B.length/\(0<=j.q/\j.q<=i.q)/\(j.steps.length:Int)<=i.q-j.q/\i.r=⟨j.steps++(wU i.p j.B i.inst i.sd i.dk j.q).steps,(wU i.p j.B i.inst i.sd i.dk j.q).left,(wU i.p j.B i.inst i.sd i.dk j.q).B⟩,λj=>j.q.toNat,⟨hR,hB,rfl,⟨Z9,yp _⟩,by dsimp only;simp,rfl⟩,?_⟩)⟩;rintro⟨s,B,st,q⟩ ⟨r1,r2,r3,⟨r4,r4'⟩,r5,r6⟩;dsimp only at r1 r2 r3 r4 r4' r5 r6 ⊢;have GQ (hn:q<=0\/mU i.p B i.inst i.sd i.dk q=au):∃(o:gq),i.r.left=q/\ag gq (5:Nat) xV o=ag gq (5:Nat) xV s/\aa wJ i.r.steps=aa wJ st/\o.fq i.p i.r.B:=by
  rw[lH hn,oU]at r6;rw[r6];exact⟨s,iT r1⟩
 refine zH (λc=> ?_) (λc=>GQ (.inl oM));have c:0<q:=c;refine⟨i.sd,rfl,trivial,λ_ _=>⟨⟨s,i.p,B,i.inst,!i.sd⟩,rfl,rfl,rfl,⟨r1,r2,h0,Z9⟩,λ_ _=> ?_⟩⟩;dsimp only;have hni:=yAt r2 r1.ox (inst:=i.inst) ⟨h0,oM⟩ (Ol (!i.sd));have Ej:mU i.p B i.inst i.sd i.dk q=(if((yV i.p B i.inst (zC (!i.sd))).2.2 && (bU i.sd i.dk (yV i.p B i.inst (zC (!i.sd))).1.dk && decide (1<=(yV i.p B i.inst (zC (!i.sd))).1.dr)))=ap then
  if(yV i.p B i.inst (zC (!i.sd))).2.1=ap then
   ar (⟨(yV i.p B i.inst (zC (!i.sd))).1.dk,min q (yV i.p B i.inst (zC (!i.sd))).1.dr,ap,qY i.p B (yV i.p B i.inst (zC (!i.sd))).1.a.inst (yV i.p B i.inst (zC (!i.sd))).1.a.side (min q (yV i.p B i.inst (zC (!i.sd))).1.dr)++qY i.p (k0 B (qY i.p B (yV i.p B i.inst (zC (!i.sd))).1.a.inst (yV i.p B i.inst (zC (!i.sd))).1.a.side (min q (yV i.p B i.inst (zC (!i.sd))).1.dr))) (yV i.p B i.inst (zC (!i.sd))).1.b.inst (yV i.p B i.inst (zC (!i.sd))).1.b.side (min q (yV i.p B i.inst (zC (!i.sd))).1.dr)⟩,k0 (k0 B (qY i.p B (yV i.p B i.inst (zC (!i.sd))).1.a.inst (yV i.p B i.inst (zC (!i.sd))).1.a.side (min q (yV i.p B i.inst (zC (!i.sd))).1.dr))) (qY i.p (k0 B (qY i.p B (yV i.p B i.inst (zC (!i.sd))).1.a.inst (yV i.p B i.inst (zC (!i.sd))).1.a.side (min q (yV i.p B i.inst (zC (!i.sd))).1.dr))) (yV i.p B i.inst (zC (!i.sd))).1.b.inst (yV i.p B i.inst (zC (!i.sd))).1.b.side (min q (yV i.p B i.inst (zC (!i.sd))).1.dr)))
  else ar (⟨(yV i.p B i.inst (zC (!i.sd))).1.dk,min q (yV i.p B i.inst (zC (!i.sd))).1.dr,ao,qY i.p B i.inst (zC (!i.sd)) (min q (yV i.p B i.inst (zC (!i.sd))).1.dr)⟩,k0 B (qY i.p B i.inst (zC (!i.sd)) (min q (yV i.p B i.inst (zC (!i.sd))).1.dr)))else au):=rfl
 generalize yV i.p B i.inst (zC (!i.sd))=nb at hni Ej ⊢;refine Cv.dq.mk (λn1=> ?_) (λn1=>⟨⟨i.sd,i.dk,nb.1.dk⟩,rfl,rfl,rfl,trivial,λ_ _=>Cv.dq.mk (λn2=> ?_) (λn2=> ?_)⟩)
 ·have n1:nb.2.2=ao:=by simpa using n1
  rw[n1,fb (by simp)]at Ej;exact GQ (.inr Ej)
 ·have n2:bU i.sd i.dk nb.1.dk=ao:=by simpa using n2
  rw[n2,fb (by simp)]at Ej;exact GQ (.inr Ej)
 have n1:nb.2.2=ap:=by simpa using n1
 have n2:bU i.sd i.dk nb.1.dk=ap:=by simpa using n2
 obtain⟨⟨b1,b2⟩,hi,hr⟩:=hni n1;rw[n1,n2,lg b1,fh (by rfl)]at Ej;have hk:gx (min q nb.1.dr):=by constructor<;>omega
 have ym:(st.length+1)*48<=140737488355328:=by omega
 have beh:∀(t:wC) (B':List (List zI)) (s':gq),mU i.p B i.inst i.sd i.dk q=ar (t,B')->s'.fq i.p B'->iS i.p B'->B'.length=B.length->
  (s'.fq i.p B'/\iS i.p B'/\B'.length=i.B.length/\(0<=q-t.dr/\q-t.dr<=i.q)/\((st++[t]).length:Int)<=i.q-(q-t.dr)/\i.r=⟨(st++[t])++(wU i.p B' i.inst i.sd i.dk (q-t.dr)).steps,(wU i.p B' i.inst i.sd i.dk (q-t.dr)).left,(wU i.p B' i.inst i.sd i.dk (q-t.dr)).B⟩)/\(q-t.dr).toNat<q.toNat:=by
  intro t B' s' h1 h2 h3 h4;have ht:=NP oM h1;refine⟨⟨h2,h3,oM,⟨oM,oM⟩,by rw[iv,AN];omega,?_⟩,oM⟩;rw[W7 (by omega) h1]at r6;rw[r6,jh];rfl
 refine Cv.dq.mk (λn3=> ?_) (λn3=> ?_)
 ·obtain⟨_,ok⟩:=hi n3;rw[n3,fh rfl]at Ej;have oka:=ok.a;have okb:=ok.b;rw[im]at oka okb;have ea:=fN ok.sa;have eb:=fN ok.sb;refine⟨⟨s,i.p,B,nb.1.a.inst,decide (nb.1.a.side=2),min q nb.1.dr⟩,rfl,ea,rfl,rfl,⟨r1,r2,oka.1,oka.2,hk⟩,λs1 uh=> ?_⟩;dsimp only at uh ⊢;rw[ea]at uh ⊢;have l1:=rQ (p:=i.p) r1.ox nb.1.a.inst nb.1.a.side (min q nb.1.dr);have G1:=r2.takes (fs:=qY i.p B nb.1.a.inst nb.1.a.side (min q nb.1.dr));have l2:=rQ (p:=i.p) uh.ox nb.1.b.inst nb.1.b.side (min q nb.1.dr);refine⟨trivial,by rw[im];omega,⟨s1,i.p,k0 B (qY i.p B nb.1.a.inst nb.1.a.side (min q nb.1.dr)),nb.1.b.inst,decide (nb.1.b.side=2),min q nb.1.dr⟩,rfl,eb,rfl,rfl,⟨uh,G1,okb.1,by dsimp only;rw[uW];exact okb.2,hk⟩,λs2 zp=> ?_⟩;dsimp only at zp ⊢;rw[eb]at zp ⊢;obtain⟨g1,g2⟩:=beh _ _ s2 Ej zp G1.takes (by rw[uW,uW]);refine⟨trivial,by rw[im,im];omega,by rw[im];exact ym,⟨s2,_,st++[_],_⟩,?_,rfl,?_,g1,g2,gu⟩
  ·dsimp only;rw[iA (by omega)]
  ·dsimp only;rw[jr,n3];simp[wJ]
 ·rw[n3,fb (by decide)]at Ej;refine⟨i.sd,rfl,trivial,λ_ _=>⟨rfl,⟨s,i.p,B,i.inst,!i.sd,min q nb.1.dr⟩,iT ⟨rfl,⟨r1,r2,h0,Z9,hk⟩,λs1 uh=> ?_⟩⟩⟩;dsimp only at uh ⊢;obtain⟨g1,g2⟩:=beh _ _ s1 Ej uh r2.takes (by rw[uW]);refine⟨by rw[im];exact ym,⟨s1,_,st++[_],_⟩,?_,rfl,?_,g1,g2,gu⟩
  ·dsimp only;rw[iA (by omega)]
  ·dsimp only;rw[jr,n3];simp[wJ]
def Z5:Qc.ok Tryz.prog 216:=ib mixed (dx yOv (dx zTt (dx z1g (dx yLn fj)))) 2 (λ_=>[]) (λ_=>y7p) [0] Tryz.func216 y9h
def yMb {L:List zI} {s id p q:Int} {o:zI} (h:o∈Ha L s id p q):o.dk=p\/∃o'∈L,o.dk=o'.dk:=by
 have key:∀X:List zI,(o∈X.takeWhile (before s p)++⟨id,s,p,q,gU L s p⟩::X.dropWhile (before s p))->o.dk=p\/o∈X:=by
  intro X hX;rcases pz.1 hX with hX|hX
  ·exact .inr (List.takeWhile_sublist _|>.subset hX)
  ·rcases mn.1 hX with rfl|hX
   ·exact .inl rfl
   ·exact .inr (List.dropWhile_sublist _|>.subset hX)
 rw[Ha]at h;split at h
 ·rcases key _ h with h|h
  ·exact .inl h
  ·obtain⟨o',oG,_,_,e,_⟩:=yBi h;exact .inr ⟨o',oG,e⟩
 ·rcases key _ h with h|h
  ·exact .inl h
  ·exact .inr ⟨o,h,rfl⟩
def iS.add {p:ff} {B:List (List zI)} (h:iS p B) (inst id s dk q:Int):iS p (Kx p B inst id s dk q).1:=by
 rw[Kx];split
 ·exact h
 split
 ·exact h
 split
 ·exact h
 split
 ·exact h
 rename_i c1 _ _ c4;have c4:p.dk inst dk=0:=by simpa using c4
 refine⟨h.pc,h.ps,by simpa using h.bl,λk L hL o ho=> ?_⟩;dsimp only at hL;rcases aB hL with⟨rfl,rfl⟩|⟨_,hL⟩
 ·obtain⟨L',Jt⟩:=z6 (l:=B) (i:=inst.toNat) oM;rw[zT Jt,D2]at ho;have e:((inst.toNat:Nat):Int)=inst:=by omega
  repeat' split at ho
  ·exact h.pr _ L' Jt o ho
  ·exact h.pr _ L' Jt o ho
  ·exact h.pr _ L' Jt o ho
  ·rcases yMb ho with h1|⟨o',oG,h1⟩
   ·rw[h1,e];exact c4
   ·rw[h1];exact h.pr _ L' Jt o' oG
 ·exact h.pr k L hL o ho
def iS.new {p:ff} (hc:p.check=0) (hp:p.small):iS p (ab p.count []):=by
 refine⟨hc,hp,by simp,λk L hL o ho=> ?_⟩;rw[UL (lq hL)]at ho;cases ho
def gq.fq.fit {s:gq} {p:ff} {B:List (List zI)} (h:s.fq p B) (hb:iS p B):s.fit:=by
 have:=xS p;refine⟨by rw[h.ep];exact hb.ps,by rw[h.bl,hb.bl];omega,λb hm=> ?_⟩;obtain⟨k,hk⟩:=B6.1 hm;have gv:=(jv.1 hk).1;rw[h.bl]at gv;obtain⟨L,hL⟩:=z6 gv;exact(h.bk k b L hk hL).fit
def Gs (r:Nat):Bool:=decide (32<=r) && decide (r≠127) && decide (r≠65533)
def dJ (s:List UInt8):Bool:=(jF s).all Gs && decide (1<=(jF s).length) && decide ((jF s).length<=12)
def Qq:gi:=fp (List UInt8) (λs=>[sV s]) (λ_=>[]) (λs=>s.length<=140737488355328) (λs=>yN (dJ s)) (λ_=>[])
def y8s (s:List UInt8):List gp:=[{ι:=Nat×Nat,dv:=λx=>[(3,zA x.2),(7,.nm 0 0)],rows:=λx=>[.iter (sb s) x.1]}]
def vU (n:Int):Bool:=decide (-2000000<=n) && decide (n<=2000000)
def kL (n:Int):Bool:=decide (1<=n) && decide (n<=1000000)
def ir.gg (c:ir):Int:=
 if c.side≠1/\c.side≠2 then 21 else if c.time<1\/3<c.time then 27 else if kL c.dr=ao then 24 else if c.least<0\/c.dr<c.least then 28
 else if c.label≠[]/\dJ c.label=ao then 29 else if vU c.dk=ao then 23 else if c.inst<0\/255<c.inst then 20 else 0
def ir.right (c:ir):Int:=
 if c.kind<1\/4<c.kind then 31 else if c.id<1\/1099511627776<c.id then 1 else if c.kind=1 then c.gg
 else if c.kind≠2/\kL c.dr=ao then 24 else if c.kind=4/\vU c.dk=ao then 23 else 0
def Du:gi:=fp ir (λc=>[CD c]) (λ_=>[]) (λc=>c.label.length<=140737488355328) (λc=>zA c.gg) (λ_=>[])
def F3:gi:=fp ir (λc=>[CD c]) (λ_=>[]) (λc=>c.label.length<=140737488355328) (λc=>zA c.right) (λ_=>[])
open Classical
def RB.byte (r:RB):Int×RB:=(qG (r.n 1).lh,⟨(r.n 1).left,(r.n 1).bad⟩)
def RB.jd (r:RB):Int×RB:=(aq.wrap (qG (r.n 8).lh),⟨(r.n 8).left,(r.n 8).bad⟩)
def RB.uk (r:RB):Int:=if r.b then 10 else if 0<r.l.length then 15 else 0
@[reducible] def P1 (r:RB):fi:=Rd r.l r.b
@[reducible] def RB.ok (i:RB):Prop:=i.l.length<=1099511627776
def RB.text (r:RB):List UInt8×RB:=((r.byte.2.n r.byte.1.toNat).lh,⟨(r.byte.2.n r.byte.1.toNat).left,(r.byte.2.n r.byte.1.toNat).bad⟩)
def EG (s:List UInt8):List UInt8:=jj (s.take 255).length::s.take 255
def ir.tail (c:ir):List UInt8:=
 if c.kind=1 then jj c.inst::jj c.side::jj c.time::(le c.dk 8++(le c.dr 8++(le c.least 8++EG c.label)))
 else if c.kind=3 then le c.dr 8 else if c.kind=4 then le c.dk 8++le c.dr 8 else[]
def ir.enc (c:ir):List UInt8:=if c.right≠0 then[]else jj c.kind::(le c.id 8++c.tail)
def x9 (k id:Int) (r:RB):ir×RB:=
 if k=1 then
  let a:=r.byte;let b:=a.2.byte;let t:=b.2.byte;let x:=t.2.jd;let y:=x.2.jd;let z:=y.2.jd;let w:=z.2.text
  (⟨k,id,a.1,b.1,x.1,y.1,z.1,t.1,w.1⟩,w.2)
 else if k=3 then(⟨k,id,0,0,0,r.jd.1,0,0,[]⟩,r.jd.2)
 else if k=4 then(⟨k,id,0,0,r.jd.1,r.jd.2.jd.1,0,0,[]⟩,r.jd.2.jd.2)
 else(⟨k,id,0,0,0,0,0,0,[]⟩,r)
def xL (b:List UInt8):ir×Int:=
 let k:=(RB.mk b ao).byte
 if k.1<1\/4<k.1 then(Hg,31)else
 let x:=x9 k.1 k.2.jd.1 k.2.jd.2
 if x.2.uk≠0 then(Hg,12)else if x.1.right≠0 then(Hg,x.1.right)else(x.1,0)
def ir.asks (c:ir):ir:=if c.kind=1 then c else if c.kind=2 then⟨2,c.id,0,0,0,0,0,0,[]⟩else if c.kind=3 then⟨3,c.id,0,0,0,c.dr,0,0,[]⟩else if c.kind=4 then⟨4,c.id,0,0,c.dk,c.dr,0,0,[]⟩else Hg
def OK (n:Int):((jj n).toNat:Int)=n % 256:=(SX n).symm
def rX (x:UInt8) (l:List UInt8):RB.byte ⟨x::l,ao⟩=((x.toNat:Int),⟨l,ao⟩):=by
 simp[RB.byte,RB.n,RN.lh,RN.left,RN.bad,qG]
def yAj (a l:List UInt8):(RN.mk (a++l) ao a.length).lh=a/\(RN.mk (a++l) ao a.length).left=l/\(RN.mk (a++l) ao a.length).bad=ao:=by
 have h:(RN.mk (a++l) ao a.length).bad=ao:=by simp[RN.bad]
 simp[RN.lh,RN.left,h]
def z3q (n:Int):qG (le n 8)=n % 18446744073709551616:=by
 simp only[le,qG,OK];omega
def My {n:Int} (h:gx n) (l:List UInt8):RB.jd ⟨le n 8++l,ao⟩=(n,⟨l,ao⟩):=by
 have e:(RB.mk (le n 8++l) ao).n 8=RN.mk (le n 8++l) ao (le n 8).length:=by rw[xJ];rfl
 obtain⟨h1,h2,h3⟩:=yAj (le n 8) l;rw[RB.jd,e,h1,h2,h3,z3q];obtain⟨ha,hb⟩:=h;have:aq.wrap (n % 18446744073709551616)=n:=by
  have e:=Cv.wrap_i64 ha hb;by_cases hn:0<=n
  ·rw[show n % 18446744073709551616=n by omega];exact e
  ·have:n % 18446744073709551616=n+18446744073709551616:=by omega
   rw[this];rw[IntKind.wrap]at e ⊢;simp only[IntKind.wrap,IntKind.bits,IntKind.signed]at e ⊢;simp at e ⊢;omega
 rw[this]
def yIp {s:List UInt8} (h:s.length<=255) (l:List UInt8):RB.text ⟨EG s++l,ao⟩=(s,⟨l,ao⟩):=by
 have ht:s.take 255=s:=oh h;have e:((jj (s.length:Int)).toNat:Int)=s.length:=by rw[OK];omega
 rw[EG,ht,uc,RB.text,rX];dsimp only;rw[e];have e:(RB.mk (s++l) ao).n ((s.length:Int)).toNat=RN.mk (s++l) ao s.length:=rfl;obtain⟨h1,h2,h3⟩:=yAj s l;rw[e,h1,h2,h3]
def Kk {n:Int} (h:0<=n/\n<=255):((jj n).toNat:Int)=n:=by rw[OK];omega
def yAi (s:List UInt8):∀(k p:Nat),s.length-p<=k->s.length-p<=4*(gE s p).length
 |0,p,h=>by rw[uN (by omega)];simp;omega
 |k+1,p,h=>by
  by_cases hp:p<s.length
  ·have hw:=bI s hp;have h4:(Utf8.decode (sb s) p).2<=4:=by
    unfold Utf8.decode;simp only[SU,lr,ud]
    repeat' split
    all_goals simp
   rw[jY hp,iJ];have:=yAi s k (p+(Utf8.decode (sb s) p).2) oM;omega
  ·rw[uN (by omega)];simp;omega
def yDf {s:List UInt8} (h:s=[]\/dJ s=ap):s.length<=48:=by
 obtain rfl|h:=h
 ·simp
 ·simp only[dJ,lr,ud]at h;have:=yAi s s.length 0 oM;rw[jF,im]at h;omega
def tG {c:ir} (h:c.right=0):(1<=c.kind/\c.kind<=4)/\(1<=c.id/\c.id<=1099511627776)/\
 (c.kind≠2->1<=c.dr/\c.dr<=1000000)/\(c.kind=1\/c.kind=4->-2000000<=c.dk/\c.dk<=2000000)/\
 (c.kind=1->(c.side=1\/c.side=2)/\(1<=c.time/\c.time<=3)/\(0<=c.least/\c.least<=c.dr)/\(0<=c.inst/\c.inst<=255)/\c.label.length<=48):=by
 rw[ir.right]at h;split at h;·cases h
 split at h;·cases h
 rename_i h1 h2;refine⟨oM,oM,?_⟩;split at h
 ·rename_i hk;rw[ir.gg]at h
  iterate 7 (split at h;·cases h)
  rename_i a1 a2 a3 a4 a5 a6 a7;simp only[kL,Bool.not_eq_false,lr,ud]at a3;simp only[vU,Bool.not_eq_false,lr,ud]at a6;refine⟨λ_=>a3,λ_=>a6,λ_=>⟨oM,oM,oM,oM,yDf ?_⟩⟩;by_cases hl:c.label=[]
  ·exact .inl hl
  ·exact .inr (by simpa[hl]using a5)
 ·rename_i hk;split at h;·cases h
  split at h;·cases h
  rename_i a1 a2;refine⟨λh2=> ?_,λh2=> ?_,λh2=>absurd h2 hk⟩
  ·simpa[h2,kL]using a1
  ·simpa[show c.kind=4 by omega,vU]using a2
def yJk {n:Int} (h:gx n):RB.jd ⟨le n 8,ao⟩=(n,⟨[],ao⟩):=by
 have:=My h [];rwa [oU]at this
def yMn {s:List UInt8} (h:s.length<=255):RB.text ⟨EG s,ao⟩=(s,⟨[],ao⟩):=by
 have:=yIp h [];rwa [oU]at this
def yTg {c:ir} (h:c.right=0):x9 c.kind c.id ⟨c.tail,ao⟩=(c.asks,⟨[],ao⟩):=by
 obtain⟨hk,hi,hq,hp,ho⟩:=tG h;rw[x9,ir.tail,ir.asks];by_cases h1:c.kind=1
 ·obtain⟨hs,ht,hl,hn,hb⟩:=ho h1;have hq:=hq oM;have hp:=hp (.inl h1);simp only[fh h1];rw[rX];dsimp only;rw[rX];dsimp only;rw[rX];dsimp only;rw[My ⟨by omega,by omega⟩];dsimp only;rw[My ⟨by omega,by omega⟩];dsimp only;rw[My ⟨by omega,by omega⟩];dsimp only;rw[yMn (by omega),Kk (by omega),Kk (by omega),Kk (by omega)]
 ·by_cases h3:c.kind=3
  ·have hq:=hq oM;simp only[h3,fh,fb,show ¬((3:Int)=1)by decide,show ¬((3:Int)=2)by decide,if_false,if_true];rw[yJk ⟨by omega,by omega⟩]
  ·by_cases h4:c.kind=4
   ·have hq:=hq oM;have hp:=hp (.inr h4);simp only[h4,show ¬((4:Int)=1)by decide,show ¬((4:Int)=2)by decide,show ¬((4:Int)=3)by decide,if_false,if_true];rw[My ⟨by omega,by omega⟩];dsimp only;rw[yJk ⟨by omega,by omega⟩]
   ·have h2:c.kind=2:=by omega
    simp only[h2,show ¬((2:Int)=1)by decide,show ¬((2:Int)=4)by decide,show ¬((2:Int)=3)by decide,if_false,if_true]
def z7s {c:ir} (h:c.right=0):c.asks.right=0:=by
 obtain⟨hk,hi,hq,hp,ho⟩:=tG h;rw[ir.asks];split
 ·exact h
 split
 ·rw[ir.right];simp only[];repeat (first|rw[fb (by omega)]|rw[fb (by decide)]|rw[fb (by simp)])
 split
 ·have:=hq oM;rw[ir.right];simp only[];rw[fb (by decide),fb (by omega),fb (by decide),fb (by simp[kL];omega),fb (by simp)]
 split
 ·have:=hq oM;have:=hp (.inr oM);rw[ir.right];simp only[];rw[fb (by decide),fb (by omega),fb (by decide),fb (by simp[kL];omega),fb (by simp[vU];omega)]
 ·omega
def yTd {c:ir} (h:c.right=0):xL c.enc=(c.asks,0):=by
 obtain⟨hk,hi,_⟩:=tG h;have e:c.enc=jj c.kind::(le c.id 8++c.tail):=by rw[ir.enc,fb (by simp[h])]
 rw[xL,e,rX];dsimp only;rw[Kk (by omega),fb (by omega),My ⟨by omega,by omega⟩];dsimp only;rw[yTg h];dsimp only;rw[fb (by simp[RB.uk]),fb (by rw[z7s h];simp)]
end Sx
