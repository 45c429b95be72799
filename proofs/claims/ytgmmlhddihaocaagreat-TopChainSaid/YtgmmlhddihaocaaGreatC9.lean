/- Texts of ours. No condition. -/
import Derived.Test.YtgmmlhddihaocaaGreatC8
set_option linter.all false
open List renaming map->aa,replicate->ab,take->ac
open Sx.ff renaming ja->ae,jt->af,qq->ag,cells->aj,own->ak,map->am
open Bool renaming false->ao,true->ap
open Go.IntKind renaming i64->aq
open Option renaming some->ar,none->au
open Exists renaming intro->av
open And renaming intro->aw
namespace Sx
set_option maxRecDepth 100000
open Go Cv Go.Proofs
def SE (a:Nat->Prop) (b:Nat) (c:Nat->Nat) (d:Nat) (e:HI) (f:vp):Prop:=a b/\c b<c d/\di (aj [V.nm 1 0,V.own 2,V.own 3,V.mp 4,V.d (dI e.b.gg),V.d (dI e.b.gh),V.own 5,V.d (D.v (.bool e.b.fm)),V.d (D.v (.bool e.b.fp))] (273:TypeId))/\ag dt 3 zF f.a=ag dt 3 zF e.b.a/\di (ak 276 2 (aa zB e.b.ez))/\di (ak 276 2 (aa zB e.b.dv))/\di (am (iF e.b.at_))/\di (ak 3 1 (iE e.b.spare))
def aF (a:Nat) (b:HI):=(ac a (gL b.L (zC ao)))
def yUq (i:HI):Prop:=
 ∃(a:Int),a=zC ao/\True/\∀(b:Unit),True->dp (qY a) (∃(c:Unit),di i.b.gg/\di i.b.gh/\di i.b.fm/\di i.b.fp/\di (ag dt 3 zF i.b.a)/\di (aa zB i.b.ez)/\di (aa zB i.b.dv)/\di (iF i.b.at_)/\di (iE i.b.spare)/\aa kg (gL i.L (zC ao))=[]/\True) (∃(c:Nat),(↑c:Int)=0/\aa kg (aF c i)=[]/\∃(d:Nat->Prop),∃(e:Nat->Nat),d c/\∀(f:Nat),d f->dp (decide ((↑f:Int)<(↑(aa zB i.b.ez).length:Int))) ((0<=(↑f:Int)/\(↑f:Int)<(↑(aa zB i.b.ez).length:Int))/\∃(g:Int),∃(h:Int),zD (aa zB i.b.ez) (↑f:Int).toNat 0 2=ar [dI g,dI h]/\∃(j:vp),j.n=h/\ag dt 3 zF j.a=ag dt 3 zF i.b.a/\True/\∀(k:Unit),True->h=h/\True/\g=g/\∃(l:vp),l.n=h/\ag dt 3 zF l.a=ag dt 3 zF j.a/\True/\∀(m:Unit),True->g=g/\((aa kg (aF f i)).length+1)*(24:Nat)<=(140737488355328:Nat)/\∃(n:Nat),(↑n:Int)=aq.wrap ((↑f:Int)+1)/\aa kg (aF n i)=aa kg (aF f i)++[[dI g,dI ((j.a.pw j.n).total),dI ((l.a.pw l.n).count)]]/\SE d n e f i l) (∃(g:Unit),di i.b.gg/\di i.b.gh/\di i.b.fm/\di i.b.fp/\di (ag dt 3 zF i.b.a)/\di (aa zB i.b.ez)/\di (aa zB i.b.dv)/\di (iF i.b.at_)/\di (iE i.b.spare)/\aa kg (gL i.L (zC ao))=aa kg (aF f i)/\True))
def aN (a:Nat) (b:HI):=(ac a (gL b.L (zC ap)))
def yTx (i:HI):Prop:=
 ∃(a:Int),a=zC ap/\True/\∀(b:Unit),True->dp (qY a) (∃(c:Unit),di i.b.gg/\di i.b.gh/\di i.b.fm/\di i.b.fp/\di (ag dt 3 zF i.b.a)/\di (aa zB i.b.ez)/\di (aa zB i.b.dv)/\di (iF i.b.at_)/\di (iE i.b.spare)/\aa kg (gL i.L (zC ap))=[]/\True) (∃(c:Nat),(↑c:Int)=0/\aa kg (aN c i)=[]/\∃(d:Nat->Prop),∃(e:Nat->Nat),d c/\∀(f:Nat),d f->dp (decide ((↑f:Int)<(↑(aa zB i.b.dv).length:Int))) ((0<=(↑f:Int)/\(↑f:Int)<(↑(aa zB i.b.dv).length:Int))/\∃(g:Int),∃(h:Int),zD (aa zB i.b.dv) (↑f:Int).toNat 0 2=ar [dI g,dI h]/\∃(j:vp),j.n=h/\ag dt 3 zF j.a=ag dt 3 zF i.b.a/\True/\∀(k:Unit),True->h=h/\True/\g=g/\∃(l:vp),l.n=h/\ag dt 3 zF l.a=ag dt 3 zF j.a/\True/\∀(m:Unit),True->g=g/\((aa kg (aN f i)).length+1)*(24:Nat)<=(140737488355328:Nat)/\∃(n:Nat),(↑n:Int)=aq.wrap ((↑f:Int)+1)/\aa kg (aN n i)=aa kg (aN f i)++[[dI g,dI ((j.a.pw j.n).total),dI ((l.a.pw l.n).count)]]/\SE d n e f i l) (∃(g:Unit),di i.b.gg/\di i.b.gh/\di i.b.fm/\di i.b.fp/\di (ag dt 3 zF i.b.a)/\di (aa zB i.b.ez)/\di (aa zB i.b.dv)/\di (iF i.b.at_)/\di (iE i.b.spare)/\aa kg (gL i.L (zC ap))=aa kg (aN f i)/\True))
def tD (a:Nat×jr->Prop) (b:Nat×jr) (c:gl) (d:Nat) (e:dm):Prop:=a b/\di (ak 3 1 [[dI 1],[dI 2]])/\di (xO c 0)/\af 211 dm 6 zQ (c.dz.set (↑d:Int).toNat e) au=xO c 1/\di (xO c 2)/\di (xO c 3)/\di (xO c 4)
def X4 (a:gl) (b:Nat×jr) (c:Nat×jr->Prop) (d:Nat) (e:dm):Prop:=∃(f:Nat×jr),aa z6 (xV a f.fst f.snd)=aa z6 (xV a b.fst b.snd)/\tD c f a d e
def yKv (s:gl):Prop:=
 (S2 s)/\∃(a:Nat),(↑a:Int)=0/\aa z6 (x7 s a)=ab (↑s.dz.length:Int).toNat [D.v (.bool ao),D.v (.bool ao),dI 0,dI 0,dI 0,dI 0]/\∃(b:Nat->Prop),∃(c:Nat->Nat),b a/\∀(d:Nat),b d->dp (decide ((↑d:Int)<(↑s.dz.length:Int))) ((0<=(↑d:Int)/\(↑d:Int)<(↑s.dz.length:Int))/\(↑d:Int).toNat<s.dz.length/\∃(e:Nat×jr),aa z6 (xV s e.fst e.snd)=aa z6 (x7 s d)/\∃(f:Nat×jr->Prop),(((0:Int)<=(0:Int)/\0<(↑(2:Nat):Int))/\∃(g:Int),zD [[dI 1],[dI 2]] (Int.toNat 0) 0 1=ar [dI g]/\∃(h:dm),s.dz[(↑d:Int).toNat]?=ar h/\∃(j:A2),zC j.side=g/\yA j.b=yA h/\(vN j)/\∀(k:Unit),True->∃(l:dm),yA j.b=yA l/\di ((↑d:Int).toNat)/\(↑d:Int).toNat<s.dz.length/\dp (zY j).snd ((qX d s e)/\(qX d s e)/\(qX d s e)/\(↑d:Int).toNat<(uS s e).length/\(aG d s e)/\(aG d s e)/\di ((zY j).fst.dq)/\di ((zY j).fst.dj)/\(↑d:Int).toNat<(aC s e d).length/\(S9 d s e j)/\di ((zY j).fst.dq)/\(↑d:Int).toNat<(dP s e d j).length/\∃(m:Nat×jr),aa z6 (xV s m.fst m.snd)=zV (dP s e d j) (↑d:Int).toNat 4 [dI (uX j)]/\tD f m s d l) (X4 s e f d l))/\∀(g:Nat×jr),f g->∃(h:Nat×jr),aa z6 (xV s h.fst h.snd)=aa z6 (xV s g.fst g.snd)/\∃(j:Nat×jr->Prop),((fP)/\∃(k:Int),zD [[dI 1],[dI 2]] (aq.wrap ((0:Int)+(1:Int))).toNat 0 1=ar [dI k]/\∃(l:dm),s.dz[(↑d:Int).toNat]?=ar l/\∃(m:A2),zC m.side=k/\yA m.b=yA l/\(vN m)/\∀(n:Unit),True->∃(p:dm),yA m.b=yA p/\di ((↑d:Int).toNat)/\(↑d:Int).toNat<s.dz.length/\dp (zY m).snd ((qX d s h)/\(qX d s h)/\(qX d s h)/\(↑d:Int).toNat<(uS s h).length/\(aM d s h)/\(aM d s h)/\di ((zY m).fst.dq)/\di ((zY m).fst.dj)/\(↑d:Int).toNat<(aI s h d).length/\(Te d s h m)/\di ((zY m).fst.dq)/\(↑d:Int).toNat<(cF s h d m).length/\∃(q:Nat×jr),aa z6 (xV s q.fst q.snd)=zV (cF s h d m) (↑d:Int).toNat 5 [dI (uX m)]/\tD j q s d p) (X4 s h j d p))/\∀(k:Nat×jr),j k->∃(l:Nat),(↑l:Int)=aq.wrap ((↑d:Int)+1)/\aa z6 (x7 s l)=aa z6 (xV s k.fst k.snd)/\b l/\c l<c d/\di (xO s 0)/\di (xO s 1)/\di (xO s 2)/\di (xO s 3)/\di (xO s 4)) (∃(e:Unit),di (sb s.p.code)/\di s.p.tick/\di s.p.low/\di s.p.high/\di s.p.wide/\di s.p.dr/\di s.p.top/\di s.p.least/\di s.p.part/\af 211 dm 6 zQ s.dz au=xO s 1/\di (yR s.wh)/\ae 1 (iE s.p.dk)=xO s 3/\ae 1 (iE s.p.settle)=xO s 4/\aa z6 s.fa=aa z6 (x7 s d)/\True)
def XZ (a:gl) (b:AW):Prop:=ae 1 (iE a.p.dk)=ae 1 (iE b.s.p.dk)/\ae 1 (iE a.p.settle)=ae 1 (iE b.s.p.settle)/\a.fk b.p (kK b.B b.id b.q).fst
def YF (a:gl) (b:AW):Prop:=yR a.wh=yR b.s.wh/\XZ a b
def sB (a:AW) (b:Int) (c:Bool):Prop:=kO (Value.int aq a.id) (yR a.s.wh)=ar [dI b]/\c=ap\/kO (Value.int aq a.id) (yR a.s.wh)=au/\[dI b]=[dI 0]/\c=ao
def mH (a:AW):Prop:=∀(b:Value×List D),b∈yR a.s.wh->lj (Value.int aq a.id) b.fst=ap
def yIo (i:AW):Prop:=
 (mH i)/\∃(a:Bool),∃(b:Int),(sB i b a)/\dp (!a) (∃(c:gl),(kK i.B i.id i.q).snd=26/\sb c.p.code=sb i.s.p.code/\c.p.tick=i.s.p.tick/\c.p.low=i.s.p.low/\c.p.high=i.s.p.high/\c.p.wide=i.s.p.wide/\c.p.dr=i.s.p.dr/\c.p.top=i.s.p.top/\c.p.least=i.s.p.least/\c.p.part=i.s.p.part/\af 211 dm 6 zQ c.dz au=af 211 dm 6 zQ i.s.dz au/\YF c i) ((0<=b/\b<(↑i.s.dz.length:Int))/\b.toNat<i.s.dz.length/\∃(c:dm),i.s.dz[b.toNat]?=ar c/\∃(d:B6),d.id=i.id/\d.dq=i.q/\yA d.b=yA c/\d.b.fk d.L/\∀(e:dm),e.fk (qB d.L d.id d.dq).fst->∃(f:dm),yA e=yA f/\di b.toNat/\b.toNat<i.s.dz.length/\(0<=b/\b<(↑(i.s.dz.set b.toNat f).length:Int))/\b.toNat<(i.s.dz.set b.toNat f).length/\∃(g:dm),(i.s.dz.set b.toNat f)[b.toNat]?=ar g/\∃(h:B6),h.id=i.id/\yA h.b=yA g/\h.b.fk h.L/\∀(j:Unit),True->∃(k:dm),yA h.b=yA k/\di b.toNat/\b.toNat<(i.s.dz.set b.toNat f).length/\dp (!wU h.L h.id) ((mH i)/\∃(l:gl),(kK i.B i.id i.q).snd=(qB d.L d.id d.dq).snd/\sb l.p.code=sb i.s.p.code/\l.p.tick=i.s.p.tick/\l.p.low=i.s.p.low/\l.p.high=i.s.p.high/\l.p.wide=i.s.p.wide/\l.p.dr=i.s.p.dr/\l.p.top=i.s.p.top/\l.p.least=i.s.p.least/\l.p.part=i.s.p.part/\af 211 dm 6 zQ l.dz au=af 211 dm 6 zQ ((i.s.dz.set b.toNat f).set b.toNat k) au/\yR l.wh=Bx (Value.int aq i.id) (yR i.s.wh)/\XZ l i) (∃(l:gl),(kK i.B i.id i.q).snd=(qB d.L d.id d.dq).snd/\sb l.p.code=sb i.s.p.code/\l.p.tick=i.s.p.tick/\l.p.low=i.s.p.low/\l.p.high=i.s.p.high/\l.p.wide=i.s.p.wide/\l.p.dr=i.s.p.dr/\l.p.top=i.s.p.top/\l.p.least=i.s.p.least/\l.p.part=i.s.p.part/\af 211 dm 6 zQ l.dz au=af 211 dm 6 zQ ((i.s.dz.set b.toNat f).set b.toNat k) au/\YF l i))
def y2v (i:HI) (h:JF.dp i):yUq i:=by
 obtain⟨Q,c,ht,hL⟩:i.b.fk i.L:=h;have ua:=c.small;obtain⟨⟨ha1,ha2⟩,pz,mr,tb⟩:=id ua;have Aq:=c.lad (.inl rfl);rw[<- hL]at Aq;have Aq:gL i.L (zC ao)=i.b.ez.map i.b.told:=Aq;unfold yUq SE aF qY dI;simp only[Aq,ia];refine⟨1,rfl,trivial,λ_ _=>Cv.dp.mk (λe=>absurd e Z8) λ_=>⟨0,by(first|exact rfl|exact trivial),by(first|exact rfl|exact trivial),λj=>j<=i.b.ez.length,λj=>i.b.ez.length-j,my _,λj hj=>zH (λe=> ?_) (λe=> ?_)⟩⟩
 ·obtain⟨r,hr⟩:=z7 (l:=i.b.ez) (i:=j) oM;have hi:=c.EV;refine⟨⟨oM,oM⟩,r.dj,r.queue,jq hr (by simp[zB]) rfl,⟨i.b.a,r.queue⟩,by(first|exact rfl|exact trivial),by(first|exact rfl|exact trivial),trivial,λ_ _=>⟨by(first|exact rfl|exact trivial),by(first|exact rfl|exact trivial),by(first|exact rfl|exact trivial),⟨i.b.a,r.queue⟩,by(first|exact rfl|exact trivial),by(first|exact rfl|exact trivial),by(first|exact rfl|exact trivial),λ_ _=>⟨by(first|exact rfl|exact trivial),by simp only[oe,ia];omega,j+1,qw oM,?_,oM,Z9,gn⟩⟩⟩;have M9:(i.b.ez.map i.b.told)[j]? =ar (i.b.told r):=by rw[uq,hr];rfl
  rw[sm,M9];simp[kg,dm.told]
 ·rw[og (by rw[ia];omega)];exact⟨(),gn⟩
def yOe:JF.ok Tryz.prog 148:=gw mixed (dw lI (dw XV (dw pF fg))) 1 (λ_=>[]) (λi=>y5p ao i) [0] Tryz.func148 y2v
def y1r (i:HI) (h:JE.dp i):yTx i:=by
 obtain⟨Q,c,ht,hL⟩:i.b.fk i.L:=h;have ua:=c.small;obtain⟨⟨ha1,ha2⟩,pz,mr,tb⟩:=id ua;have Aq:=c.lad (.inr rfl);rw[<- hL]at Aq;have Aq:gL i.L (zC ap)=i.b.dv.map i.b.told:=Aq;unfold yTx aN SE qY dI;simp only[Aq,ia];refine⟨2,rfl,trivial,λ_ _=>Cv.dp.mk (λe=>absurd e Z8) λ_=>⟨0,by(first|exact rfl|exact trivial),by(first|exact rfl|exact trivial),λj=>j<=i.b.dv.length,λj=>i.b.dv.length-j,my _,λj hj=>zH (λe=> ?_) (λe=> ?_)⟩⟩
 ·obtain⟨r,hr⟩:=z7 (l:=i.b.dv) (i:=j) oM;have hi:=c.EV;refine⟨⟨oM,oM⟩,r.dj,r.queue,jq hr (by simp[zB]) rfl,⟨i.b.a,r.queue⟩,by(first|exact rfl|exact trivial),by(first|exact rfl|exact trivial),trivial,λ_ _=>⟨by(first|exact rfl|exact trivial),by(first|exact rfl|exact trivial),by(first|exact rfl|exact trivial),⟨i.b.a,r.queue⟩,by(first|exact rfl|exact trivial),by(first|exact rfl|exact trivial),by(first|exact rfl|exact trivial),λ_ _=>⟨by(first|exact rfl|exact trivial),by simp only[oe,ia];omega,j+1,qw oM,?_,oM,Z9,gn⟩⟩⟩;have M9:(i.b.dv.map i.b.told)[j]? =ar (i.b.told r):=by rw[uq,hr];rfl
  rw[sm,M9];simp[kg,dm.told]
 ·rw[og (by rw[ia];omega)];exact⟨(),gn⟩
def yOb:JE.ok Tryz.prog 148:=gw mixed (dw lI (dw XV (dw pF fg))) 1 (λ_=>[]) (λi=>y5p ap i) [0] Tryz.func148 y1r
def yWt:aan.ok Tryz.prog 148:=λj=>match j with
 |⟨b,L,ao⟩=>yOe ⟨b,L⟩
 |⟨b,L,ap⟩=>yOb ⟨b,L⟩
def yVp (s:gl) (h:Fl.dp s):yKv s:=by
 obtain⟨h1,h2⟩:s.oc:=h;unfold yKv uX qX vN fP aG aM S2 S9 dP aC Te cF dX zY aI uS X4 tD dI;have p48:(2:Int) ^ (48:Nat)=281474976710656:=by decide
 refine⟨⟨oM,oM,oM,by rw[p48];omega⟩,0,rfl,?_,λj=>j<=s.dz.length,λj=>s.dz.length-j,oM,λj hj=>zH (λgr=> ?_) (λgr=> ?_)⟩
 ·rw[x7,jk,List.map_replicate];rfl
 ·have oh:j<s.dz.length:=by omega
  obtain⟨b,hb⟩:=z7 oh;have hc:=h2 b (lr hb);simp only[ow];have ha:∀x,(aa z6 (xV s j x)).length=s.dz.length:=λx=>by rw[ia,zRx oh]
  have w1:aq.wrap (0+1)=1:=by decide
  have w2:(0+1) % ((2:Int) ^ aq.bits).natAbs=1:=by decide
  refine⟨⟨oM,oM⟩,oM,(j,j'),by rw[zLp oh],λx=>x=(j,j'.EW (b.iu b.ez)),⟨⟨Z8,Z8⟩,1,rfl,b,hb,⟨ao,b⟩,rfl,rfl,hc,λ_ _=>⟨b,rfl,kp,oM,?_⟩⟩,?_⟩
  ·refine Cv.dp.mk (λc=> ?_) (λc=> ?_)
   ·have c:(b.iu b.ez).2=ap:=c;have e1:=qZ (s:=s) oh (x:=j') (y:={j' with fm:=ap}) (f:=0+0+0*1) (ds:=[D.v (.bool ap)]) rfl;have e2:=qZ (s:=s) oh (x:={j' with fm:=ap}) (y:={j' with fm:=ap,p1:=(b.iu b.ez).1.dj}) (f:=0+2+0*1) (ds:=[D.v (.int .i64 (b.iu b.ez).1.dj)]) rfl;have e3:=qZ (s:=s) oh (x:={j' with fm:=ap,p1:=(b.iu b.ez).1.dj}) (y:={j' with fm:=ap,p1:=(b.iu b.ez).1.dj,q1:=(b.iu b.ez).1.dq}) (f:=0+4+0*1) (ds:=[D.v (.int .i64 (b.iu b.ez).1.dq)]) rfl;dsimp only;simp only[show b.side ao=b.ez from rfl,e1,e2,e3,ha]
    (repeat'(first|exact rfl|exact trivial|assumption|apply aw|refineλ(_:Unit) (_:True)=>?_|refine av () ?_|omega|(dsimp only;omega)))
    refine⟨(j,{j' with fm:=ap,p1:=(b.iu b.ez).1.dj,q1:=(b.iu b.ez).1.dq}),rfl,?_,?_⟩
    ·rw[jr.EW,fc c]
    ·(repeat'(first|exact rfl|exact trivial|assumption|apply aw|refineλ(_:Unit) (_:True)=>?_|refine av () ?_|omega|(dsimp only;omega)))
     rw[dC hb];rfl
   ·have c:(b.iu b.ez).2=ao:=c;refine⟨(j,j'),rfl,?_,?_⟩
    ·rw[jr.EW,ej (by rw[c];simp)]
    ·(repeat'(first|exact rfl|exact trivial|assumption|apply aw|refineλ(_:Unit) (_:True)=>?_|refine av () ?_|omega|(dsimp only;omega)))
     rw[dC hb];rfl
  ·rintro _ rfl;rw[w1];generalize hx:j'.EW (b.iu b.ez)=x;have OS:b.top=x.Ak (b.iu b.dv):=by rw[dm.top,hx]
   refine⟨(j,x),rfl,λy=>y=(j,b.top),⟨⟨Z8,Z8⟩,2,rfl,b,hb,⟨ap,b⟩,rfl,rfl,hc,λ_ _=>⟨b,rfl,kp,oM,?_⟩⟩,?_⟩
   ·refine Cv.dp.mk (λc=> ?_) (λc=> ?_)
    ·have c:(b.iu b.dv).2=ap:=c;have e1:=qZ (s:=s) oh (x:=x) (y:={x with fp:=ap}) (f:=0+0+1*1) (ds:=[D.v (.bool ap)]) rfl;have e2:=qZ (s:=s) oh (x:={x with fp:=ap}) (y:={x with fp:=ap,p2:=(b.iu b.dv).1.dj}) (f:=0+2+1*1) (ds:=[D.v (.int .i64 (b.iu b.dv).1.dj)]) rfl;have e3:=qZ (s:=s) oh (x:={x with fp:=ap,p2:=(b.iu b.dv).1.dj}) (y:={x with fp:=ap,p2:=(b.iu b.dv).1.dj,q2:=(b.iu b.dv).1.dq}) (f:=0+4+1*1) (ds:=[D.v (.int .i64 (b.iu b.dv).1.dq)]) rfl;dsimp only;simp only[w2,show b.side ap=b.dv from rfl,e1,e2,e3,ha]
     (repeat'(first|exact rfl|exact trivial|assumption|apply aw|refineλ(_:Unit) (_:True)=>?_|refine av () ?_|omega|(dsimp only;omega)))
     refine⟨(j,{x with fp:=ap,p2:=(b.iu b.dv).1.dj,q2:=(b.iu b.dv).1.dq}),rfl,?_,?_⟩
     ·rw[OS,jr.Ak,fc c]
     ·(repeat'(first|exact rfl|exact trivial|assumption|apply aw|refineλ(_:Unit) (_:True)=>?_|refine av () ?_|omega|(dsimp only;omega)))
      rw[dC hb];rfl
    ·have c:(b.iu b.dv).2=ao:=c;refine⟨(j,x),rfl,?_,?_⟩
     ·rw[OS,jr.Ak,ej (by rw[c];simp)]
     ·(repeat'(first|exact rfl|exact trivial|assumption|apply aw|refineλ(_:Unit) (_:True)=>?_|refine av () ?_|omega|(dsimp only;omega)))
      rw[dC hb];rfl
   ·rintro _ rfl;refine⟨j+1,by rw[ir (by omega)];rfl,?_⟩;refine⟨by dsimp only;rw[zLy hb],?_⟩;exact kp
 ·have hj:j<=s.dz.length:=hj;obtain rfl:j=s.dz.length:=by omega
  have e:x7 s s.dz.length=s.fa:=by
   rw[x7,II,List.replicate_zero,oL,og (by rw[gl.fa,ia];omega)]
  rw[e];exact kp
def zYt:Fl.ok Tryz.prog 59:=gw mixed (dw RZ fg) 0 (λs=>yTn s) (λs=>yUa s) [] Tryz.func59 yVp
def yXs (i:AW) (h:Fp.dp i):yIo i:=by
 obtain⟨hR,hB⟩:i.s.fk i.p i.B/\i.B.length<=1000:=h;have td:=hR.at_ i.id;unfold yIo mH sB YF XZ dI;cases hi:aW i.B i.id with
 |none=>
  rw[hi]at td;refine⟨dO _ _,ao,0,.inr ⟨by rw[pA,td];rfl,rfl,rfl⟩,Cv.dp.mk (λ_=>⟨i.s,?_⟩) (λe=>absurd e Z8)⟩;have ht:kK i.B i.id i.q=(i.B,26):=by rw[kK,hi]
  rw[ht];exact(gm (ma hR))
 |some k=>
  rw[hi]at td;obtain⟨L,hL,hh⟩:=g7 hi;have hk:=(jl.1 hL).1;obtain⟨b,hb⟩:=z7 (l:=i.s.dz) (i:=k) (by rw[hR.bl];exact hk);have Dx:=hR.bk k b L hb hL;have zj:=hR.bl;have qm:=Dx.om.2.1;refine⟨dO _ _,ap,k,.inl ⟨by rw[pA,td];rfl,rfl⟩,Cv.dp.mk (λe=>absurd e Z8) (λ_=> ?_)⟩;rw[ow];refine⟨⟨oM,oM⟩,oM,b,hb,⟨b,L,i.id,i.q⟩,rfl,rfl,rfl,Dx,λb' Ae=> ?_⟩;have hT:=hR.take (q:=i.q) hi hL qm Ae;have ra:(kK i.B i.id i.q).2=(qB L i.id i.q).2:=by simp only[kK,hi,zT hL]
  refine⟨b',rfl,rfl,oM,by rw[qp];omega,by rw[qp];omega,b',f8 oM,⟨b',(qB L i.id i.q).1,i.id,0⟩,rfl,rfl,Ae,λ_ _=>⟨b',rfl,rfl,by rw[qp];omega,Cv.dp.mk (λe=>⟨dO _ _,?_⟩) (λe=> ?_)⟩⟩
  ·have e:wU (qB L i.id i.q).1 i.id=ao:=by simpa using e
   rw[e,ej (by decide)]at hT;refine⟨{i.s with dz:=i.s.dz.set k b',wh:=Kw i.id i.s.wh},ra,gm ⟨rfl,?_,(zZf _ _).symm,rfl,rfl,hT⟩⟩;rw[DZ]
  ·have e:wU (qB L i.id i.q).1 i.id=ap:=by simpa using e
   rw[e,fc rfl]at hT;refine⟨{i.s with dz:=i.s.dz.set k b',wh:=i.s.wh},ra,gm ⟨rfl,?_,rfl,rfl,rfl,hT⟩⟩;rw[DZ]
def SL:Fp.ok Tryz.prog 199:=gw mixed (dw yRp (dw z3l fg)) 0 (λ_=>[]) (λ_=>[]) [0] Tryz.func199 yXs
structure iQ (p:fb) (B:List (List zI)):Prop where
 pc:p.check=0
 ps:p.small
 bl:B.length=p.count
 pr:∀(k:Nat) (L:List zI),B[k]? =ar L->∀o∈L,p.dj k o.dj=0
def Ib:fy:=fj Bool (λb=>[zA (zC b)]) (λ_=>[]) (λ_=>True) (λb=>zA (zC (!b))) (λ_=>[])
def bM (s:Bool) (p x:Int):Bool:=if s then decide (p<=x)else decide (x<=p)
structure PC where
 s:Bool
 p:Int
 x:Int
def LF:fy:=fj PC (λi=>[zA (zC i.s),zA i.p,zA i.x]) (λ_=>[]) (λ_=>True) (λi=>yL (bM i.s i.p i.x)) (λ_=>[])
def yT (p:fb) (B:List (List zI)) (inst:Int) (s:Int):Quote×Bool×Bool:=
 let bq:=zU (xY ⟨p,B.map kC,inst⟩ s) s
 let l:=iA (B.getD inst.toNat []) s
 if(l.2 && !(bq.2 && jy s bq.1.dj l.1.dj))=ap then(⟨l.1.dj,l.1.dq,⟨0,0⟩,⟨0,0⟩⟩,ao,ap)else(bq.1,bq.2,bq.2)
structure Eh where
 s:gl
 p:fb
 B:List (List zI)
 inst:Int
 sd:Bool
def Jy:fy:=fj Eh (λi=>[.nm 0 0,zA i.inst,zA (zC i.sd)]) (λi=>[zE i.s]) (λi=>i.s.fk i.p i.B/\iQ i.p i.B/\0<=i.inst/\i.inst<i.B.length)
 (λi=> .iW [Rz (yT i.p i.B i.inst (zC i.sd)).1,yL (yT i.p i.B i.inst (zC i.sd)).2.1,yL (yT i.p i.B i.inst (zC i.sd)).2.2]) (λi=>[zE i.s])
structure bG where
 id:Int
 inst:Int
 side:Int
 dj:Int
 dq:Int
 left:Int
 deriving DecidableEq
def yY (f:bG):List D:=[.v (.int .i64 f.id),.v (.int .i64 f.inst),.v (.int .i64 f.side),.v (.int .i64 f.dj),.v (.int .i64 f.dq),.v (.int .i64 f.left)]
def xX (inst s:Int):List zI->List Int->List bG
 |o::os,k::ks=>if 0<k then⟨o.id,inst,s,o.dj,k,o.dq-k⟩::xX inst s os ks else xX inst s os ks
 |_,_=>[]
def kZ (B:List (List zI)) (fs:List bG):List (List zI):=fs.foldl (λB f=>(kK B f.id f.dq).1) B
def RI (B:List (List zI)) (inst s:Int):List zI:=uu (B.getD inst.toNat []) s (iA (B.getD inst.toNat []) s).1.dj
def qV (p:fb) (B:List (List zI)) (inst s q:Int):List bG:=xX inst s (RI B inst s) (kI ⟨p,RI B inst s,q⟩)
structure Ag where
 s:gl
 p:fb
 B:List (List zI)
 inst:Int
 sd:Bool
 q:Int
def Ag.os (i:Ag):List zI:=RI i.B i.inst (zC i.sd)
def Ag.sh (i:Ag):List Int:=kI ⟨i.p,i.os,i.q⟩
def Ag.fs (i:Ag) (j:Nat):List bG:=xX i.inst (zC i.sd) (i.os.take j) (i.sh.take j)
def Fk:fy where
 ι:=Ag
 pat:=λi=>[.nm 0 0,.agg [zA i.inst,zA (zC i.sd)],zA i.q]
 pre:=λi=>[zE i.s]
 dp:=λi=>i.s.fk i.p i.B/\iQ i.p i.B/\0<=i.inst/\i.inst<i.B.length/\gq i.q
 alts:=λi=>[{o:=gl,res:=λ_=> .own 1,post:=λs=>[zE s,.own 346 6 ((qV i.p i.B i.inst (zC i.sd) i.q).map yY)],rel:=λs=>s.fk i.p (kZ i.B (qV i.p i.B i.inst (zC i.sd) i.q))}]
def yWw (i:Ag):List gj:=[{ι:=Nat×gl,du:=λj=>[(0,.nm 0 0),(11,.own 1),(44,zA j.1)],rows:=λj=>[zE j.2,.own 346 6 ((i.fs j.1).map yY)]}]
def z9y (b:Bool):Prop:=
 ∃(a:Unit),(zC !b)=aq.wrap (3-zC b)/\True
def yGi (i:PC):Prop:=
 dp (zC i.s==1) (dp (decide (i.x<=i.p)) (∃(a:Unit),bM i.s i.p i.x=ap/\True) (dp (zC i.s==2) (∃(a:Unit),bM i.s i.p i.x=decide (i.x>=i.p)/\True) (∃(a:Unit),bM i.s i.p i.x=ao/\True))) (dp (zC i.s==2) (∃(a:Unit),bM i.s i.p i.x=decide (i.x>=i.p)/\True) (∃(a:Unit),bM i.s i.p i.x=ao/\True))
def Xw (a:gl) (b:Eh):Prop:=sb a.p.code=sb b.s.p.code/\True/\a.p.tick=b.s.p.tick/\a.p.low=b.s.p.low/\a.p.high=b.s.p.high/\a.p.wide=b.s.p.wide/\a.p.dr=b.s.p.dr/\a.p.top=b.s.p.top/\a.p.least=b.s.p.least/\a.p.part=b.s.p.part/\True/\True
def cK (a:zm):Prop:=(a.s=1\/a.s=2)/\a.l.length<=1000000
def XF (a:Eh) (b:gl) (c:dm):Prop:=sb a.s.p.code=sb b.p.code/\a.s.p.tick=b.p.tick/\a.s.p.low=b.p.low/\a.s.p.high=b.p.high/\a.s.p.wide=b.p.wide/\a.s.p.dr=b.p.dr/\a.s.p.top=b.p.top/\a.s.p.least=b.p.least/\a.s.p.part=b.p.part/\af 211 dm 6 zQ a.s.dz au=af 211 dm 6 zQ (b.dz.set a.inst.toNat c) au/\yR a.s.wh=yR b.wh/\ae 1 (iE a.s.p.dk)=ae 1 (iE b.p.dk)/\ae 1 (iE a.s.p.settle)=ae 1 (iE b.p.settle)/\True
def yB (a:Eh):=(yT a.p a.B a.inst (zC a.sd))
def V2 (a:Eh) (b:zm) (c:gl) (d:dm):Prop:=∃(e:Unit),(yB a).fst.dj=(zU b.l b.s).fst.dj/\(yB a).fst.dq=(zU b.l b.s).fst.dq/\(yB a).fst.a.inst=(zU b.l b.s).fst.a.inst/\(yB a).fst.a.side=(zU b.l b.s).fst.a.side/\(yB a).fst.b.inst=(zU b.l b.s).fst.b.inst/\(yB a).fst.b.side=(zU b.l b.s).fst.b.side/\(yB a).snd.fst=(zU b.l b.s).snd/\(yB a).snd.snd=(zU b.l b.s).snd/\XF a c d
def Wy (a:Eh) (b:A2) (c:gl) (d:dm):Prop:=∃(e:Unit),(yB a).fst.dj=(zY b).fst.dj/\(yB a).fst.dq=(zY b).fst.dq/\(yB a).fst.a.inst=0/\(yB a).fst.a.side=0/\(yB a).fst.b.inst=0/\(yB a).fst.b.side=0/\(yB a).snd.fst=ao/\(yB a).snd.snd=ap/\XF a c d
def R6 (a:AP) (b:Eh) (c:gl):Prop:=∃(d:zm),aa zJ d.l=aa zJ (xY a.i (zC a.s))/\d.s=zC b.sd/\(cK d)/\∀(e:Unit),True->(0<=b.inst/\b.inst<(↑c.dz.length:Int))/\b.inst.toNat<c.dz.length/\∃(f:dm),c.dz[b.inst.toNat]?=ar f/\∃(g:A2),zC g.side=zC b.sd/\yA g.b=yA f/\(vN g)/\∀(h:Unit),True->∃(j:dm),yA g.b=yA j/\di b.inst.toNat/\b.inst.toNat<c.dz.length/\dp (zY g).snd (dp (zU d.l d.s).snd (∃(k:DA),k.side=zC b.sd/\k.x=(zU d.l d.s).fst.dj/\k.y=(zY g).fst.dj/\True/\∀(l:Unit),True->dp (!jy k.side k.x k.y) (Wy b g c j) (V2 b d c j)) (Wy b g c j)) (V2 b d c j)
def Vx (a:gl) (b:Eh):Prop:=(Xw a b)/\∃(c:AP),sb c.i.p.code=sb b.s.p.code/\iE c.i.p.dk=iE a.p.dk/\c.i.p.tick=b.s.p.tick/\c.i.p.low=b.s.p.low/\c.i.p.high=b.s.p.high/\c.i.p.wide=b.s.p.wide/\c.i.p.dr=b.s.p.dr/\c.i.p.top=b.s.p.top/\c.i.p.least=b.s.p.least/\c.i.p.part=b.s.p.part/\iE c.i.p.settle=iE a.p.settle/\aa z6 c.i.fa=aa z6 a.fa/\c.i.inst=b.inst/\zC c.s=zC b.sd/\(kL c)/\∀(d:Unit),True->R6 c b a
def dU (a:gl):Prop:=a.dz.length<=1000000/\∀(b:dm),b∈a.dz->∀(c:cV),c∈b.a.dx->(-9223372036854775808)<=c.count/\c.count<=9223372036854775807
def yTq (i:Eh):Prop:=
 (∃(a:gl),sb a.p.code=sb i.s.p.code/\a.p.tick=i.s.p.tick/\a.p.low=i.s.p.low/\a.p.high=i.s.p.high/\a.p.wide=i.s.p.wide/\a.p.dr=i.s.p.dr/\a.p.top=i.s.p.top/\a.p.least=i.s.p.least/\a.p.part=i.s.p.part/\af 211 dm 6 zQ a.dz au=af 211 dm 6 zQ i.s.dz au/\yR a.wh=yR i.s.wh/\ae 1 (iE a.p.dk)=ae 1 (iE i.s.p.dk)/\ae 1 (iE a.p.settle)=ae 1 (iE i.s.p.settle)/\(dU a)/\∀(b:Unit),True->(Xw a i)/\(∃(c:AP),sb c.i.p.code=sb i.s.p.code/\iE c.i.p.dk=iE a.p.dk/\c.i.p.tick=i.s.p.tick/\c.i.p.low=i.s.p.low/\c.i.p.high=i.s.p.high/\c.i.p.wide=i.s.p.wide/\c.i.p.dr=i.s.p.dr/\c.i.p.top=i.s.p.top/\c.i.p.least=i.s.p.least/\c.i.p.part=i.s.p.part/\iE c.i.p.settle=iE a.p.settle/\aa z6 c.i.fa=aa z6 a.fa/\c.i.inst=i.inst/\zC c.s=zC i.sd/\(kL c)/\∀(d:Unit),True->(R6 c i a)/\R6 c i a)/\Vx a i)/\(di (sb i.s.p.code)/\True/\di i.s.p.tick/\di i.s.p.low/\di i.s.p.high/\di i.s.p.wide/\di i.s.p.dr/\di i.s.p.top/\di i.s.p.least/\di i.s.p.part/\True/\True)/\∃(a:gl),sb a.p.code=sb i.s.p.code/\a.p.tick=i.s.p.tick/\a.p.low=i.s.p.low/\a.p.high=i.s.p.high/\a.p.wide=i.s.p.wide/\a.p.dr=i.s.p.dr/\a.p.top=i.s.p.top/\a.p.least=i.s.p.least/\a.p.part=i.s.p.part/\af 211 dm 6 zQ a.dz au=af 211 dm 6 zQ i.s.dz au/\yR a.wh=yR i.s.wh/\ae 1 (iE a.p.dk)=ae 1 (iE i.s.p.dk)/\ae 1 (iE a.p.settle)=ae 1 (iE i.s.p.settle)/\(dU a)/\∀(b:Unit),True->Vx a i
def m8 (a:HJ):=(aa vG (uu a.L (zC a.s) a.dj))
def XC (a:Nat×gl->Prop) (b:Nat×gl) (c:Nat×gl->Nat) (d:Nat×gl) (e:B7) (f:HJ) (g:A2) (h:Ag):Prop:=a b/\c b<c d/\di (ak 2 1 (iE (kI e)))/\di (ae 5 (m8 f))/\di (aj [V.d (dI (dX g)),V.d (dI (uX g)),V.d (dI ((zY g).fst.count))] 177)/\di (aj [V.d (dI h.inst),V.d (dI (zC h.sd))] 125)/\di (ae 1 (iE h.s.p.dk))/\di (ae 1 (iE h.s.p.settle))
def gX (a:Ag):=(qV a.p a.B a.inst (zC a.sd) a.q)
def cE (a:Ag):=(kZ a.B (gX a))
def yKx (i:Ag):Prop:=
 (0<=i.inst/\i.inst<(↑i.s.dz.length:Int))/\i.inst.toNat<i.s.dz.length/\∃(a:dm),i.s.dz[i.inst.toNat]?=ar a/\∃(b:A2),zC b.side=zC i.sd/\yA b.b=yA a/\(vN b)/\∀(c:Unit),True->∃(d:dm),yA b.b=yA d/\di i.inst.toNat/\i.inst.toNat<i.s.dz.length/\∃(e:dm),(i.s.dz.set i.inst.toNat d)[i.inst.toNat]?=ar e/\∃(f:HJ),zC f.s=zC i.sd/\f.dj=(zY b).fst.dj/\yA f.b=yA e/\f.b.fk f.L/\∀(g:Unit),True->∃(h:dm),yA f.b=yA h/\di i.inst.toNat/\i.inst.toNat<(i.s.dz.set i.inst.toNat d).length/\∃(j:B7),sb j.p.code=sb i.s.p.code/\iE j.p.dk=iE i.s.p.dk/\j.p.tick=i.s.p.tick/\j.p.low=i.s.p.low/\j.p.high=i.s.p.high/\j.p.wide=i.s.p.wide/\j.p.dr=i.s.p.dr/\j.p.top=i.s.p.top/\j.p.least=i.s.p.least/\j.p.part=i.s.p.part/\iE j.p.settle=iE i.s.p.settle/\aa vG j.l=aa vG (uu f.L (zC f.s) f.dj)/\j.q=i.q/\(j.l.length<=1000/\((-9223372036854775808)<=j.q/\j.q<=9223372036854775807)/\((-9223372036854775808)<=j.p.least/\j.p.least<=9223372036854775807)/\((-9223372036854775808)<=j.p.top/\j.p.top<=9223372036854775807)/\(-9223372036854775808)<=j.p.part/\j.p.part<=9223372036854775807)/\∀(k:Unit),True->∃(l:Nat×gl),(↑l.fst:Int)=0/\sb l.snd.p.code=sb i.s.p.code/\l.snd.p.tick=i.s.p.tick/\l.snd.p.low=i.s.p.low/\l.snd.p.high=i.s.p.high/\l.snd.p.wide=i.s.p.wide/\l.snd.p.dr=i.s.p.dr/\l.snd.p.top=i.s.p.top/\l.snd.p.least=i.s.p.least/\l.snd.p.part=i.s.p.part/\af 211 dm 6 zQ l.snd.dz au=af 211 dm 6 zQ ((i.s.dz.set i.inst.toNat d).set i.inst.toNat h) au/\yR l.snd.wh=yR i.s.wh/\ae 1 (iE l.snd.p.dk)=ae 1 (iE i.s.p.dk)/\ae 1 (iE l.snd.p.settle)=ae 1 (iE i.s.p.settle)/\aa yY (i.fs l.fst)=[]/\∃(m:Nat×gl->Prop),∃(n:Nat×gl->Nat),m l/\∀(p:Nat×gl),m p->dp (decide ((↑p.fst:Int)<(↑(iE (kI j)).length:Int))) ((0<=(↑p.fst:Int)/\(↑p.fst:Int)<(↑(iE (kI j)).length:Int))/\∃(q:Int),zD (iE (kI j)) (↑p.fst:Int).toNat 0 1=ar [dI q]/\dp (decide (q>0)) ((0<=(↑p.fst:Int)/\(↑p.fst:Int)<(↑(m8 f).length:Int))/\∃(r:Int),∃(s:Int),∃(t:Int),∃(u:Int),∃(v:Bool),zD (m8 f) (↑p.fst:Int).toNat 0 5=ar [dI r,dI s,dI t,dI u,D.v (.bool v)]/\∃(w:AW),w.id=r/\w.q=q/\zE w.s=zE p.snd/\(w.s.fk w.p w.B/\w.B.length<=1000)/\∀(x:gl),x.fk w.p (kK w.B w.id w.q).fst->((aa yY (i.fs p.fst)).length+1)*(48:Nat)<=(140737488355328:Nat)/\∃(y:Nat×gl),(↑y.fst:Int)=aq.wrap ((↑p.fst:Int)+1)/\zE y.snd=zE x/\aa yY (i.fs y.fst)=aa yY (i.fs p.fst)++[[dI r,dI i.inst,dI (zC i.sd),dI t,dI q,dI (aq.wrap (u-q))]]/\XC m y n p j f b i) (∃(r:Nat×gl),(↑r.fst:Int)=aq.wrap ((↑p.fst:Int)+1)/\zE r.snd=zE p.snd/\aa yY (i.fs r.fst)=aa yY (i.fs p.fst)/\XC m r n p j f b i)) (∃(q:gl),zE q=zE p.snd/\aa yY (gX i)=aa yY (i.fs p.fst)/\q.fk i.p (cE i))
def eX {p:fb} (hc:p.check=0) {k v:Int} (h:p.dj k v=0): -2000000<=v/\v<=2000000:=by
 have ok:=qR hc;have:=ok.b1;have:=ok.b2;have:=ok.b3;have:=ok.b4;have:=ok.b5;rw[fb.dj]at h;by_cases c1:p.count=0
 ·rw[fc c1]at h;cases h
 by_cases c2:k<0\/(p.count:Int)<=k
 ·rw[ej c1,fc c2]at h;cases h
 cases c3:qQ p.tick v with
 |true=>rw[ej c1,ej c2,fc c3]at h;cases h
 |false=>
  rw[ej c1,ej c2,ej (by rw[c3];decide)]at h;by_cases c4:(p.dk.length:Int)<=k
  ·simp only[fc c4]at h;by_cases c5:v< -p.wide\/p.wide<v
   ·rw[fc c5]at h;cases h
   ·omega
  ·simp only[ej c4]at h;by_cases c5:v<p.low\/p.high<v
   ·rw[fc c5]at h;cases h
   ·omega
def Mp {t:Int} (k:Int):qQ t (t*k)=ao:=by
 simp[qQ,Int.mul_tmod_right]
def zLz (x:fb):(gy x).small:=by
 have:=Z5 x;refine⟨by simp[gy],?_,?_⟩
 ·show(qO _).length<=_;rw[lJ];omega
 ·show(kF _ _).length<=_;rw[m9];omega
def nK (x:fb):(gy x).check=0:=by
 have ht:=Su x;have hn:=Z5 x;have hw:=yV (n:=x.wide) (lo:=0) (hi:=60) oM;have hr:=yV (n:=x.dr) (lo:=0) (hi:=2) oM;have ho:=yV (n:=x.top) (lo:=0) (hi:=9) oM;have hl:=yV (n:=x.least) (lo:=0) (hi:=4) oM;have hp:=yV (n:=x.part) (lo:=0) (hi:=100) oM;have h1:wE (gy x).code=ap:=by show wE [206,169]=ap;decide+kernel
 obtain⟨k,hk,Dw⟩:∃k:Nat,(kN x).toNat=k/\(2<=k/\k<=5):=⟨_,rfl,oM⟩
 have h2:xG (gy x).dk=ap:=by
  show xG (qO (kN x).toNat)=ap;rw[hk];have:k=2\/k=3\/k=4\/k=5:=by omega
  rcases this with rfl|rfl|rfl|rfl<;>decide
 have h3:qL (gy x)=ap:=by
  have a:qQ (zS x) (-20*zS x)=ao:=by rw[Ex];exact Mp _
  have b:qQ (zS x) (100*zS x)=ao:=by rw[Ex];exact Mp _
  have c:(kF (zS x) (kN x).toNat).any (qQ (zS x))=ao:=by
   rw[MM];intro y hy;obtain⟨j,_,rfl⟩:=pk.1 hy;rw[Mp];decide
  simp only[qL,gy,a,b,c,Mp,IK,Bool.and_true,kx];exact⟨lg oM,lg oM⟩
 have mw:=eY (a:=zS x) (b:=5+zG x.wide 0 60) (m:=zS x) (n:=65) oM oM;have h4:qP (gy x)=ao:=by
  simp only[qP,gy,KF];exact⟨⟨⟨⟨kr oM,kr oM⟩,kr oM⟩,kr oM⟩,kr oM⟩
 have h5:xI (gy x)=ao:=by
  have e:(kF (zS x) (kN x).toNat).length=(qO (kN x).toNat).length:=by rw[m9,lJ]
  have ne:kF (zS x) (kN x).toNat≠[]:=by
   intro hc;have:=m9 (zS x) (kN x).toNat;rw[hc]at this;simp at this;omega
  have bd:∀y∈kF (zS x) (kN x).toNat,0<=y/\y<=zS x*15:=by
   intro y hy;obtain⟨j,hj,rfl⟩:=pk.1 hy;have:=BT.1 hj;exact eY oM oM
  have m1:=bd _ (zYu ne);have m2:=bd _ (z2e ne);simp only[xI,gy,e,ne_eq,not_true_eq_false,decide_false,Kx,KF];exact⟨kr oM,kr oM⟩
 have h6:kG (gy x)=ao:=by
  simp only[kG,gy,KF];exact⟨kr oM,kr oM⟩
 have h7:qA (gy x)=ao:=by
  simp only[qA,gy,KF];exact⟨⟨⟨⟨⟨kr oM,kr oM⟩,kr oM⟩,kr oM⟩,kr oM⟩,kr oM⟩
 rw[fb.check,h1,h2,h3,h4,h5,h6,h7];rfl
structure RJ (qs sh:List Int) (q:Int):Prop where
 len:sh.length=qs.length
 bd:∀n,0<=sh.getD n 0/\sh.getD n 0<=qs.getD n 0
 sum:sh.sum=q
def yIb:∀{l:List Int},(∀x∈l,0<=x)->0<=l.sum
 |[],_=>yg 0
 |a::l,h=>by
  have:=yIb (l:=l) λx hx=>h x (jw _ hx)
  have:=h a ji;rw[qv];omega
def yCc:∀{z:List (Int×Int)},(∀y∈z,0<=y.2/\y.2<=y.1)->(z.map (·.2)).sum<=(z.map (·.1)).sum
 |[],_=>yg 0
 |a::l,h=>by
  have:=yCc (z:=l) λx hx=>h x (jw _ hx)
  have:=h a ji;rw[jo,jo,qv,qv];omega
def lV:∀(l:List Int) (q:Int),(∀x∈l,0<=x)->0<=q->q<=l.sum->RJ l (gA l q) q
 |[],q,_,h0,h1=>⟨rfl,λn=>by simp[gA],by simp at h1;simp[gA];omega⟩
 |n::l,q,h,h0,h1=>by
  have hn:=h n ji;rw[qv]at h1;have:=yIb λx hx=>h x (jw _ hx)
  have ih:=lV l (q-min n q) (λx hx=>h x (jw _ hx)) oM oM;refine⟨by rw[gA,iD,iD,ih.len],λk=> ?_,by rw[gA,qv,ih.sum];omega⟩;cases k with
  |zero=>exact⟨by show 0<=min n q;omega,by show min n q<=n;omega⟩
  |succ k=>exact ih.bd k
def zCu:∀(z:List (Int×Int)) (q:Int),(∀y∈z,0<=y.2/\y.2<=y.1)->0<=q->q<=(z.map (·.1)).sum-(z.map (·.2)).sum->(wK z q).length=z.length/\(∀n,0<=(wK z q).getD n 0/\(wK z q).getD n 0<=(z.map (·.1)).getD n 0)/\(wK z q).sum=(z.map (·.2)).sum+q
 |[],q,_,h0,h1=>⟨rfl,λn=>by simp[wK],by simp at h1;simp[wK];omega⟩
 |(n,x)::r,q,h,h0,h1=>by
  have hn:=h (n,x) ji;simp only[jo,qv]at h1;have:=yCc λy hy=>h y (jw _ hy)
  have ih:=zCu r (q-min (n-x) q) (λy hy=>h y (jw _ hy)) oM oM;refine⟨by rw[wK,iD,iD,ih.1],λk=> ?_,by rw[wK,qv,ih.2.2,jo,qv];omega⟩;cases k with
  |zero=>exact⟨by show 0<=x+min (n-x) q;have:=hn.1;have:=hn.2;dsimp only at*;omega,by show x+min (n-x) q<=n;have:=hn.2;dsimp only at*;omega⟩
  |succ k=>exact ih.2.1 k
def yLw {l:List Int} {q:Int} (h1:l.length<=250) (h2:0<=q) (h3:∀x∈l,1<=x/\x<=1000000) (h4:q<=l.sum):yX l q=ap:=by
 rw[yX,lg h1,lg h2,lg h4];simp only[zw,Bool.and_true,Dp,kx,tw];exact h3
def zXy {i:uv} (h:yX i.l i.q=ap) (hl:1<=i.least):RJ i.l (jD i) i.q:=by
 obtain⟨r1,r2,r3,r4⟩:=jJ h;rw[jD,fc ⟨h,hl⟩];by_cases je:i.l.length=0
 ·have e:i.l=[]:=xu je;have hq:i.q=0:=by rw[e]at r4;simp at r4;omega
  have e0:i.p1=[]:=by rw[uv.p1,e];rfl
  rw[e0,e,hq];exact⟨rfl,λn=>by simp,rfl⟩
 ·obtain⟨_,_,f1,f2⟩:=SH h oM;have ym:=Zi i;have m1:(i.l.zip i.p0).map (·.1)=i.l:=List.map_fst_zip oM
  have m2:(i.l.zip i.p0).map (·.2)=i.p0:=List.map_snd_zip oM
  have hp:=zCu (i.l.zip i.p0) (i.q-i.p0.sum) (λy hy=>by
   obtain⟨j,hj⟩:=BU.1 hy;rw[OH]at hj;exact f1 j _ _ hj.1 hj.2) oM (by rw[m1,m2];omega)
  rw[m1,m2]at hp;refine⟨?_,hp.2.1,?_⟩
  ·rw[uv.p1,hp.1,List.length_zip,ym,Nat.min_self]
  ·rw[uv.p1,hp.2.2];omega
def Vr:∀{l:List Int} {k:Nat} {x:Int},k<l.length->(l.set k x).sum=l.sum+(x-l.getD k 0)
 |[],k,x,h=>absurd h (by simp)
 |a::l,0,x,_=>by
  show x+l.sum=a+l.sum+(x-a);omega
 |a::l,k+1,x,h=>by
  have:=Vr (l:=l) (k:=k) (x:=x) (by simpa using h);show a+(l.set k x).sum=a+l.sum+(x-l.getD k 0);omega
def WE {l:List Int} {k n:Nat} {x:Int} (h:k<l.length):(l.set k x).getD n 0=if n=k then x else l.getD n 0:=by
 rw[np,Gv];by_cases e:k=n
 ·subst e;rw[fc rfl,fc h,fc rfl];rfl
 ·rw[ej e,ej (λe2=>e e2.symm),np]
def z1b {l:List Int}:∀(z:List (Nat×Int)) (o:List Int),(z.map (·.1)).Nodup->(∀y∈z,y.1<o.length/\0<=y.2/\o.getD y.1 0+y.2<=l.getD y.1 0)->(∀n,0<=o.getD n 0/\o.getD n 0<=l.getD n 0/\l.getD n 0<=1000000)->
 (z.foldl (λo y=>o.set y.1 (aq.wrap (o.getD y.1 0+y.2))) o).length=o.length/\(z.foldl (λo y=>o.set y.1 (aq.wrap (o.getD y.1 0+y.2))) o).sum=o.sum+(z.map (·.2)).sum/\∀n,0<=(z.foldl (λo y=>o.set y.1 (aq.wrap (o.getD y.1 0+y.2))) o).getD n 0/\(z.foldl (λo y=>o.set y.1 (aq.wrap (o.getD y.1 0+y.2))) o).getD n 0<=l.getD n 0
 |[],o,_,_,h=>⟨rfl,by simp,λn=>⟨(h n).1,(h n).2.1⟩⟩
 |y::z,o,hn,hz,h=>by
  obtain⟨h1,h2,h3⟩:=hz y ji;rw[jo,ze]at hn;have hw:aq.wrap (o.getD y.1 0+y.2)=o.getD y.1 0+y.2:=by
   have:=h y.1;exact ir oM
  rw[EA,hw];have ih:=z1b (l:=l) z (o.set y.1 (o.getD y.1 0+y.2)) hn.2 (λx hx=>by
   obtain⟨g1,g2,g3⟩:=hz x (jw _ hx);have je:x.1≠y.1:=λe=>hn.1 (e▸su (f:=(·.1)) hx)
   rw[qp,WE h1,ej je];exact⟨g1,g2,g3⟩) (λn=>by
   rw[WE h1];split
   ·rename_i e;rw[e];exact⟨by have:=h y.1;omega,h3,(h y.1).2.2⟩
   ·exact h n)
  refine⟨by rw[ih.1,qp],?_,ih.2.2⟩;rw[ih.2.1,Vr h1,jo,qv];omega
def zPc (l:List Int):(List.range l.length).map (λn=>l.getD n 0)=l:=by
 apply He;intro n;rw[uq];by_cases h:n<l.length
 ·rw[KD h,vd h,vw,np,vd h];rfl
 ·rw[tx (by simpa using h),tx (by omega)];rfl
def z9s {f g:Nat->Int}:∀l:List Nat,(l.map λn=>f n-g n).sum=(l.map f).sum-(l.map g).sum
 |[]=>rfl
 |a::l=>by rw[jo,jo,jo,qv,qv,qv,z9s l];omega
def zNn {f:Nat->Int} {p:Nat->Bool}:∀{l:List Nat},(∀n∈l,p n=ao->f n=0)->((l.filter p).map f).sum=(l.map f).sum
 |[],_=>rfl
 |a::l,h=>by
  have ih:=zNn (l:=l) λn hn=>h n (jw _ hn)
  rw[jo,qv];by_cases e:p a=ap
  ·rw[OG e,jo,qv,ih]
  ·rw[OF e,ih,h a ji (by simpa using e)];omega
def lE {i:ph} (hl:i.l.length<=250) (ho:i.out.length=i.l.length) (hn:∀n,0<=i.out.getD n 0/\i.out.getD n 0<=i.l.getD n 0/\i.l.getD n 0<=1000000) (hq:0<=i.q/\i.q<=i.l.sum-i.out.sum) (hle:1<=i.least):
 RJ i.l (pP i) (i.out.sum+i.q):=by
 have aaO:(i.idx i.l.length).length<=250:=xw (Hg _ _) (by simpa using hl);have tf:∀n∈i.idx i.l.length,n<i.l.length/\i.out.getD n 0<i.l.getD n 0:=by
  intro n hn;obtain⟨a,b⟩:=ve.1 hn;exact⟨BT.1 a,pj b⟩
 have O7:(i.left i.l.length).sum=i.l.sum-i.out.sum:=by
  rw[ph.left,ph.idx,zNn,z9s,zPc]
  ·rw[<- ho,zPc]
  ·intro n _ e;have:=KC e;have:=hn n;omega
 have hr:yX (i.left i.l.length) i.q=ap:=by
  refine yLw (by rw[ph.left,ia];exact aaO) hq.1 (λx hx=> ?_) oM;obtain⟨n,hm,rfl⟩:=pk.1 hx;have:=tf n hm;have:=hn n;omega
 have hp:=zXy (i:=⟨i.left i.l.length,i.least,i.q⟩) hr hle;have ym:i.pl.length=(i.idx i.l.length).length:=by
  have:=hp.len;rw[ph.pl,this,ph.left,ia]
 have qm:(i.idx i.l.length).Nodup:=List.nodup_range.sublist OB;have z1:((i.idx i.l.length).zip i.pl).map (·.1)=i.idx i.l.length:=List.map_fst_zip oM
 have z2:((i.idx i.l.length).zip i.pl).map (·.2)=i.pl:=List.map_snd_zip oM
 have hf:=z1b (l:=i.l) ((i.idx i.l.length).zip i.pl) i.out (by rw[z1];exact qm) (λy hy=>by
  obtain⟨j,hj⟩:=BU.1 hy;rw[OH]at hj;have hm:=tf y.1 (lr hj.1);have hb:=hp.bd j;have e1:(jD ⟨i.left i.l.length,i.least,i.q⟩).getD j 0=y.2:=by
   rw[np];have:(jD ⟨i.left i.l.length,i.least,i.q⟩)[j]? =ar y.2:=hj.2;rw[this];rfl
  have e2:(i.left i.l.length).getD j 0=i.l.getD y.1 0-i.out.getD y.1 0:=by
   rw[np,ph.left,uq,hj.1];rfl
  dsimp only at hb;rw[e1,e2]at hb;exact⟨oM,hb.1,oM⟩) hn
 have uz:pP i=((i.idx i.l.length).zip i.pl).foldl (λo y=>o.set y.1 (aq.wrap (o.getD y.1 0+y.2))) i.out:=by
  rw[pP,ph.add,og (by rw[List.length_zip];omega)]
 rw[uz];refine⟨by rw[hf.1,ho],hf.2.2,?_⟩;rw[hf.2.1,z2];have:=hp.sum;rw[ph.pl,this]
def yBb {l:List Int} (h:∀x∈l,1<=x/\x<=1000000) (n:Nat):0<=l.getD n 0/\l.getD n 0<=1000000:=by
 by_cases hn:n<l.length
 ·obtain⟨x,hx⟩:=z7 hn;have:=h x (lr hx);rw[zT hx];omega
 ·rw[np,tx (by omega)];decide
def ZK (n k:Nat):(ab n (0:Int)).getD k 0=0:=by
 rw[np,List.getElem?_replicate];split<;>rfl
def Wl (n:Nat):(ab n (0:Int)).sum=0:=by
 induction n with
 |zero=>rfl
 |succ n ih=>rw[KE,qv,ih];rfl
def yVx {q part:Int} (hq:0<=q) (h0:0<=part) (h1:part<=100):0<=q*part / 100/\q*part / 100<=q:=by
 have h2:0<=q*part:=MG hq h0;have h3:q*part<=q*100:=Ub h1 hq;constructor<;>omega
def zXf {p:fb} (hc:p.check=0) {l:List zI} {q:Int} (hr:yX (l.map (·.dq)) q=ap):RJ (l.map (·.dq)) (kI ⟨p,l,q⟩) q:=by
 have ok:=qR hc;obtain⟨r1,r2,r3,r4⟩:=jJ hr;have q1:=ok.q1;have q3:=ok.q3;have q5:=ok.q5;have q6:=ok.q6;have r5:=ok.r1;have r6:=ok.r2;have gb:=yBb r3;have eqs:(B7.qs ⟨p,l,q⟩)=l.map (·.dq):=rfl
 rw[kI];simp only[eqs];generalize l.map (·.dq)=qs at*
 by_cases c1:p.dr=1
 ·rw[fc c1,gO,fc hr];exact lV _ _ (λx hx=>by have:=r3 x hx;omega) r2 r4
 by_cases c2:p.dr=2
 ·rw[ej c1,fc c2,Cr,fc ⟨hr,q3,q1⟩];rw[um.rs];dsimp only;split
  ·rename_i ht;have hk:(iU l).toNat<(ab qs.length (0:Int)).length:=by simp;omega
   have hf:0<=um.first ⟨qs,iU l,p.top,p.least,q⟩/\um.first ⟨qs,iU l,p.top,p.least,q⟩<=qs.getD (iU l).toNat 0/\um.first ⟨qs,iU l,p.top,p.least,q⟩<=q:=by
    have:=gb (iU l).toNat;simp only[um.first];omega
   have hs:((ab qs.length (0:Int)).set (iU l).toNat (um.first ⟨qs,iU l,p.top,p.least,q⟩)).sum=um.first ⟨qs,iU l,p.top,p.least,q⟩:=by
    rw[Vr hk,Wl,ZK];omega
   have:=lE (i:=⟨qs,(ab qs.length 0).set (iU l).toNat (um.first ⟨qs,iU l,p.top,p.least,q⟩),p.least,q-um.first ⟨qs,iU l,p.top,p.least,q⟩⟩) r1 (by simp) (λn=>by
    dsimp only;rw[WE hk,ZK];have:=gb n;split
    ·rename_i e;rw[e];exact⟨hf.1,hf.2.1,(gb _).2⟩
    ·omega) (by dsimp only;rw[hs];omega) q3
   dsimp only at this;rw[hs]at this;have e:um.first ⟨qs,iU l,p.top,p.least,q⟩+(q-um.first ⟨qs,iU l,p.top,p.least,q⟩)=q:=by omega
   rw[e]at this;exact this
  ·have:=lE (i:=⟨qs,ab qs.length 0,p.least,q⟩) r1 (by simp) (λn=>by
    dsimp only;rw[ZK];have:=gb n;omega) (by dsimp only;rw[Wl];omega) q3
   dsimp only at this;rw[Wl,Int.zero_add]at this;exact this
 ·have c3:p.dr=3:=by omega
  rw[ej c1,ej c2,fc c3,BS,fc ⟨hr,q5,q6,q3⟩];rw[Ji.rs];dsimp only;obtain⟨d1,d2⟩:=yVx r2 q5 q6;have wu:yX qs (q*p.part / 100)=ap:=yLw r1 d1 r3 oM;have wx:=lV qs (q*p.part / 100) (λx hx=>by have:=r3 x hx;omega) d1 oM;have e0:gO qs (q*p.part / 100)=gA qs (q*p.part / 100):=by rw[gO,fc wu]
  have:=lE (i:=⟨qs,gO qs (q*p.part / 100),p.least,q-q*p.part / 100⟩) r1 (by dsimp only;rw[e0];exact wx.len) (λn=>by
   dsimp only;rw[e0];exact⟨(wx.bd n).1,(wx.bd n).2,(gb n).2⟩) (by dsimp only;rw[e0,wx.sum];omega) q3
  dsimp only at this;rw[e0,wx.sum]at this;rw[e0];have e:q*p.part / 100+(q-q*p.part / 100)=q:=by omega
  rw[e]at this;exact this
def z6g {p:fb} {l:List zI} {q:Int} (hr:yX (l.map (·.dq)) q=ao):kI ⟨p,l,q⟩=[]:=by
 have eqs:(B7.qs ⟨p,l,q⟩)=l.map (·.dq):=rfl
 rw[kI];simp only[eqs,gO,Cr,BS,hr];simp
def zVp:Ib.ok Tryz.prog 217:=gw (V:=z9y) mixed fg 0 (λ_=>[]) (λ_=>[]) [] Tryz.func217 λ(b:Bool) _=>by
 unfold z9y;cases b<;>exact⟨(),Z8,trivial⟩
def z1i:LF.ok Tryz.prog 218:=gw (V:=yGi) mixed fg 0 (λ_=>[]) (λ_=>[]) [] Tryz.func218 λ(i:PC) _=>by
 obtain⟨s,p,x⟩:=i;unfold yGi;cases s
 ·refine Cv.dp.mk (λ_=>zH (λc=>⟨(),?_,trivial⟩) (λc=>Cv.dp.mk (λe=>by simp[zC]at e) (λ_=>⟨(),?_,trivial⟩))) (λe=>by simp[zC]at e)
  ·exact lg c
  ·exact kr c
 ·exact Cv.dp.mk (λe=>by simp[zC]at e) (λ_=>Cv.dp.mk (λ_=>⟨(),rfl,trivial⟩) (λe=>by simp[zC]at e))
def zZa {L:List zI} {s:Int}:((iA L s).2=ap/\∃o∈L,o.side=s/\o.dj=(iA L s).1.dj)\/(iA L s=(⟨0,0,0⟩,ao)/\∀o∈L,o.side≠s):=by
 rw[iA];cases hl:gL L s with
 |nil=>
  refine .inr ⟨rfl,λo ho e=> ?_⟩;rw[gL]at hl;cases hf:L.filter λo=>decide (o.side=s)with
  |nil=>
   rw[List.filter_eq_nil_iff]at hf;have:=hf o ho;simp[e]at this
  |cons x y=>
   rw[hf,wy]at hl;split at hl
   ·cases hl
   ·split at hl<;>cases hl
 |cons v vs=>
  refine .inl ⟨rfl,?_⟩;rw[gL]at hl;obtain⟨o,r,e1,e2⟩:=V9 hl;have:o∈L.filter λo=>decide (o.side=s):=by rw[e1];exact ji
  rw[ve]at this;exact⟨o,this.1,by simpa using this.2,e2⟩
def Va {L:List zI} {s:Int} (h:∀o∈L,-2000000<=o.dj/\o.dj<=2000000): -2000000<=(iA L s).1.dj/\(iA L s).1.dj<=2000000:=by
 rcases zZa (L:=L) (s:=s)with⟨_,o,ho,_,e⟩|⟨e,_⟩
 ·rw[<- e];exact h o ho
 ·rw[e];constructor<;>decide
def Sp (L:List zI):(kC L).p1=(iA L 1).1.dj/\(kC L).q1=(iA L 1).1.dq/\(kC L).fm=(iA L 1).2/\(kC L).p2=(iA L 2).1.dj/\(kC L).q2=(iA L 2).1.dq/\(kC L).fp=(iA L 2).2:=by
 have h:∀s,(iA L s).2=ap\/iA L s=(⟨0,0,0⟩,ao):=λs=>by
  rcases zZa (L:=L) (s:=s)with⟨h,_⟩|⟨h,_⟩
  ·exact .inl h
  ·exact .inr h
 rw[kC,jr.Ak,jr.EW];rcases h 1 with h1|h1<;>rcases h 2 with h2|h2<;>simp[h1,h2,j']
def iQ.xk {p:fb} {B:List (List zI)} (h:iQ p B) {k:Nat} {L:List zI} (hL:B[k]? =ar L):∀o∈L,-2000000<=o.dj/\o.dj<=2000000:=λo ho=>eX h.pc (h.pr k L hL o ho)
def iQ.fa {p:fb} {B:List (List zI)} (h:iQ p B):vU (B.map kC):=by
 have:=xR p;refine⟨by rw[ia,h.bl];omega,λt ht=> ?_⟩;obtain⟨L,hL,rfl⟩:=pk.1 ht;obtain⟨k,hk⟩:=BU.1 hL;have b1:=Va (s:=1) (h.xk hk);have b2:=Va (s:=2) (h.xk hk);rw[(Sp L).1,(Sp L).2.2.2.1];exact⟨by constructor<;>omega,by constructor<;>omega⟩
def gl.fk.fa {s:gl} {p:fb} {B:List (List zI)} (h:s.fk p B):s.fa=B.map kC:=by
 rw[gl.fa];apply He;intro k;rw[uq,uq];by_cases hk:k<B.length
 ·obtain⟨L,hL⟩:=z7 hk;obtain⟨b,hb⟩:=z7 (l:=s.dz) (i:=k) (by rw[h.bl];exact hk);rw[hL,hb,vw,vw,(h.bk k b L hb hL).top]
 ·rw[tx (by rw[h.bl];omega),tx (by omega)];rfl
def gl.fk.EV {s:gl} {p:fb} {B:List (List zI)} (h:s.fk p B) (hB:B.length<=1000000):s.oc:=by
 refine⟨by rw[h.bl];exact hB,λb hb=> ?_⟩;obtain⟨k,hk⟩:=BU.1 hb;have gr:=(jl.1 hk).1;rw[h.bl]at gr;obtain⟨L,hL⟩:=z7 gr;exact(h.bk k b L hk hL).EV
def zZm {b:dm} {L:List zI} (h:b.fk L) (sd:Bool):b.iu (b.side sd)=iA L (zC sd):=by
 obtain⟨Q,c,ht,rfl⟩:=h;cases sd
 ·exact c.iA (.inl rfl)
 ·exact c.iA (.inr rfl)
def N4 (sd:Bool):zC sd=1\/zC sd=2:=by cases sd;exact .inl rfl;exact .inr rfl
def y4u (i:Eh) (h:Jy.dp i):yTq i:=by
 obtain⟨hR,hB,h0,h1⟩:i.s.fk i.p i.B/\iQ i.p i.B/\0<=i.inst/\i.inst<i.B.length:=h;have vz:=xR i.p;have zj:=hB.bl;have yd:=hR.bl;obtain⟨k,hk⟩:∃k:Nat,i.inst=k:=⟨i.inst.toNat,oM⟩
 obtain⟨L,hL⟩:=z7 (l:=i.B) (i:=k) oM;obtain⟨b,hb⟩:=z7 (l:=i.s.dz) (i:=k) oM;have Dx:=hR.bk k b L hb hL;have CE:i.s.p.small:=by rw[hR.ep];exact hB.ps
 have ta:vU i.s.fa:=by rw[hR.fa];exact hB.fa
 have BC:yT i.p i.B i.inst (zC i.sd)=if((iA L (zC i.sd)).2 && !((zU (xY ⟨i.s.p,i.s.fa,i.inst⟩ (zC i.sd)) (zC i.sd)).2 && jy (zC i.sd) (zU (xY ⟨i.s.p,i.s.fa,i.inst⟩ (zC i.sd)) (zC i.sd)).1.dj (iA L (zC i.sd)).1.dj))=ap then(⟨(iA L (zC i.sd)).1.dj,(iA L (zC i.sd)).1.dq,⟨0,0⟩,⟨0,0⟩⟩,ao,ap)else((zU (xY ⟨i.s.p,i.s.fa,i.inst⟩ (zC i.sd)) (zC i.sd)).1,(zU (xY ⟨i.s.p,i.s.fa,i.inst⟩ (zC i.sd)) (zC i.sd)).2,(zU (xY ⟨i.s.p,i.s.fa,i.inst⟩ (zC i.sd)) (zC i.sd)).2):=by
  rw[yT,hR.fa,hR.ep,hk,ow,zT hL]
 have CV:=zZm Dx i.sd;unfold yTq Vx kL fE R6 vN Wy zY V2 yB XF cK dU Xw;have DJ:i.s.oc:=hR.EV oM;have Ht:(xY ⟨i.s.p,i.s.fa,i.inst⟩ (zC i.sd)).length<=1000000:=by
  have:=xw (Hg (λq=>decide (i.s.p.dj i.inst q.dj=0)) _) (Sy ⟨i.s.p,i.s.fa,i.inst⟩ (zC i.sd));exact xw this Z8
 refine(λhT=>⟨⟨i.s,gm (nr ⟨rfl,DJ,λ_ _=>⟨⟨rfl,trivial,oA ⟨rfl,trivial,trivial⟩⟩,⟨⟨⟨i.s.p,i.s.fa,i.inst⟩,i.sd⟩,gm (Aa ⟨rfl,⟨CE,ta⟩,λ_ _=>⟨hT,hT⟩⟩)⟩,⟨rfl,trivial,oA ⟨rfl,trivial,trivial⟩⟩,⟨⟨⟨i.s.p,i.s.fa,i.inst⟩,i.sd⟩,gm (Aa ⟨rfl,⟨CE,ta⟩,λ_ _=>hT⟩)⟩⟩⟩)⟩,
  ⟨rfl,trivial,oA ⟨rfl,trivial,trivial⟩⟩,⟨i.s,gm (nr ⟨rfl,DJ,λ_ _=>⟨⟨rfl,trivial,oA ⟨rfl,trivial,trivial⟩⟩,⟨⟨⟨i.s.p,i.s.fa,i.inst⟩,i.sd⟩,gm (Aa ⟨rfl,⟨CE,ta⟩,λ_ _=>hT⟩)⟩⟩⟩)⟩⟩) ?_
 refine⟨⟨xY ⟨i.s.p,i.s.fa,i.inst⟩ (zC i.sd),zC i.sd⟩,rfl,rfl,⟨N4 _,Ht⟩,λ_ _=>⟨⟨h0,oM⟩,oM,b,by rw[hk];exact hb,⟨i.sd,b⟩,rfl,rfl,Dx.EV,λ_ _=>⟨b,rfl,rfl,oM,?_⟩⟩⟩;dsimp only;rw[CV];generalize iA L (zC i.sd)=l at*;generalize zU (xY ⟨i.s.p,i.s.fa,i.inst⟩ (zC i.sd)) (zC i.sd)=bq at*;have qd:i.s.dz.set i.inst.toNat b=i.s.dz:=uR (by rw[hk];exact hb);rw[qd];refine Cv.dp.mk (λc1=>Cv.dp.mk (λc2=>⟨⟨zC i.sd,bq.1.dj,l.1.dj⟩,rfl,rfl,rfl,trivial,λ_ _=>Cv.dp.mk (λc3=> ?_) (λc3=> ?_)⟩) (λc2=> ?_)) (λc1=> ?_)
 ·dsimp only at c3;rw[fc (by rw[c1,c2];simpa using c3)]at BC;rw[BC];exact⟨(),gn⟩
 ·dsimp only at c3;rw[ej (by rw[c1,c2];simpa using c3)]at BC;rw[BC];exact⟨(),gn⟩
 ·rw[fc (by rw[c1,c2];rfl)]at BC;rw[BC];exact⟨(),gn⟩
 ·rw[ej (by rw[c1];simp)]at BC;rw[BC];exact⟨(),gn⟩
def yQy:Jy.ok Tryz.prog 226:=gw mixed (dw zYt (dw zTl (dw z0y (dw RZ (dw mP fg))))) 0 (λ_=>[]) (λ_=>[]) [0] Tryz.func226 y4u
def z9z (i:ph) (k:Nat):(i.add k).length=i.out.length:=by
 have:∀(l:List (Nat×Int)) (o:List Int),(l.foldl (λo y=>o.set y.1 (aq.wrap (o.getD y.1 0+y.2))) o).length=o.length:=by
  intro l
  induction l with
  |nil=>intro o;rfl
  |cons x l ih=>intro o;rw[EA,ih,qp]
 exact this _ _
def z0q (l:List Int) (q:Int):(gO l q).length<=l.length:=by
 rw[gO];split
 ·rw[l5];exact km _
 ·exact my _
def yCh (i:B7):(kI i).length<=i.l.length:=by
 have hq:i.qs.length=i.l.length:=by simp[B7.qs]
 rw[kI,<- hq]
 repeat' split
 ·exact z0q _ _
 ·rw[Cr];split
  ·rw[pP,z9z,um.rs];split
   ·simp
   ·simp
  ·exact my _
 ·rw[BS];split
  ·rw[pP,z9z];exact z0q _ _
  ·exact my _
 ·exact my _
def zRg {inst s:Int}:∀{os:List zI} {sh:List Int} {j:Nat} {o:zI} {k:Int},os[j]? =ar o->sh[j]? =ar k->xX inst s (os.take (j+1)) (sh.take (j+1))=xX inst s (os.take j) (sh.take j)++(if 0<k then[⟨o.id,inst,s,o.dj,k,o.dq-k⟩]else[])
 |[],_,_,_,_,h,_=>by simp at h
 |_::_,[],_,_,_,_,h=>by simp at h
 |o::os,k::sh,0,_,_,h,h2=>by
  cases h;cases h2;rw[vg,vg,Hc,Hc,Hc,Hc,xX];split<;>rfl
 |o::os,k::sh,j+1,o',k',h,h2=>by
  rw[vg,vg,xX,vg,vg,xX,zRg (os:=os) (sh:=sh) (j:=j) h h2];split<;>rfl
def zTb {inst s:Int}:∀(os:List zI) (sh:List Int),xX inst s (os.take sh.length) (sh.take sh.length)=xX inst s os sh
 |[],sh=>by simp
 |_::_,[]=>by simp[xX]
 |o::os,k::sh=>by
  rw[iD,vg,vg,xX,xX,zTb os sh]
def yFf (B:List (List zI)) (a b:List bG):kZ B (a++b)=kZ (kZ B a) b:=IP
def rJ (B:List (List zI)) (id q:Int):(kK B id q).1.length=B.length:=by
 rw[kK];split
 ·rfl
 ·simp
def uU:∀(fs:List bG) (B:List (List zI)),(kZ B fs).length=B.length
 |[],B=>rfl
 |f::fs,B=>by
  show(kZ (kK B f.id f.dq).1 fs).length=_;rw[uU fs,rJ]
def y0x {p:fb} (h:p.check=0):gq p.least/\gq p.top/\gq p.part:=by
 have ok:=qR h;have:=ok.q1;have:=ok.q2;have:=ok.q3;have:=ok.q4;have:=ok.q5;have:=ok.q6;exact⟨⟨oM,oM⟩,⟨oM,oM⟩,⟨oM,oM⟩⟩
def y0w (i:Ag) (h:Fk.dp i):yKx i:=by
 obtain⟨hR,hB,h0,h1,hq⟩:i.s.fk i.p i.B/\iQ i.p i.B/\0<=i.inst/\i.inst<i.B.length/\gq i.q:=h;have vz:=xR i.p;have zj:=hB.bl;have yd:=hR.bl;have ep:=hR.ep;obtain⟨k,hk⟩:∃k:Nat,i.inst=k:=⟨i.inst.toNat,oM⟩
 obtain⟨L,hL⟩:=z7 (l:=i.B) (i:=k) oM;obtain⟨b,hb⟩:=z7 (l:=i.s.dz) (i:=k) oM;have Dx:=hR.bk k b L hb hL;have CV:=zZm Dx i.sd;have BX:uu L (zC i.sd) (iA L (zC i.sd)).1.dj=i.os:=by rw[Ag.os,RI,hk,ow,zT hL]
 have qd:i.s.dz.set i.inst.toNat b=i.s.dz:=uR (by rw[hk];exact hb);have abb:i.os.length<=250:=by
  rw[<- BX];exact xw (Hg _ _) Dx.om.2.2
 have M8:i.sh.length<=i.os.length:=yCh _;obtain⟨k1,k2,k3⟩:=y0x hB.pc;have D8:∀(j:Nat) (n:Int),i.sh[j]? =ar n->n<=1000000:=by
  intro j n hn;cases hr:yX (i.os.map (·.dq)) i.q with
  |false=>
   have:i.sh=[]:=z6g hr;rw[this]at hn;cases hn
  |true=>
   have:=(zXf hB.pc hr).bd j;have e:(kI ⟨i.p,i.os,i.q⟩).getD j 0=n:=zT hn;rw[e]at this;have:=(yBb (jJ hr).2.2.1 j).2;omega
 unfold yKx XC uX dX m8 cE gX zY vN dI;refine⟨⟨h0,oM⟩,oM,b,by rw[hk];exact hb,⟨i.sd,b⟩,rfl,rfl,Dx.EV,λ_ _=> ?_⟩;refine⟨b,rfl,rfl,oM,b,by rw[qd,hk];exact hb,⟨b,L,i.sd,(iA L (zC i.sd)).1.dj⟩,rfl,by dsimp only;rw[CV],rfl,Dx,λ_ _=> ?_⟩;dsimp only
 try rw[CV]
 rw[qd,BX];refine⟨b,rfl,rfl,oM,⟨i.p,i.os,i.q⟩,by rw[ep],by rw[ep],by rw[ep],by rw[ep],by rw[ep],by rw[ep],by rw[ep],by rw[ep],by rw[ep],by rw[ep],by rw[ep],rfl,rfl,⟨Z9,hq,k1,k2,k3⟩,λ_ _=> ?_⟩;have esh:kI ⟨i.p,i.os,i.q⟩=i.sh:=rfl;rw[esh,qd,y4,ia];refine⟨(0,i.s),gm (ma ⟨rfl,λj=>j.2.fk i.p (kZ i.B (i.fs j.1))/\j.1<=i.sh.length,λj=>i.sh.length-j.1,⟨hR,my _⟩,λj hj=> ?_⟩)⟩;obtain⟨Pe,D'⟩:=hj;obtain⟨j,sj⟩:=j;dsimp only at Pe D' ⊢;refine zH (λc=> ?_) (λc=> ?_)
 ·obtain⟨n,hn⟩:=z7 (l:=i.sh) (i:=j) oM;obtain⟨o,ho⟩:=z7 (l:=i.os) (i:=j) oM;have ku:=zRg (inst:=i.inst) (s:=zC i.sd) ho hn;have hoL:o∈L:=by
   have:=lr ho;rw[<- BX]at this;exact(ve.1 this).1
  have hoq:=(Dx.om.1 o hoL).q;have hnb:=D8 j n hn;refine⟨⟨oM,oM⟩,n,qz hn,zH (λc2=> ?_) (λc2=> ?_)⟩
  ·rw[fc (show 0<n from c2)]at ku;have Ad:(i.fs j).length<=j:=by
    have:∀(os:List zI) (sh:List Int),(xX i.inst (zC i.sd) os sh).length<=os.length:=by
     intro os
     induction os with
     |nil=>intro sh;exact km 0
     |cons o os ih=>
      intro sh;cases sh with
      |nil=>exact my _
      |cons k sh=>
       have:=ih sh;rw[xX];split
       ·simp only[iD];omega
       ·simp only[iD];omega
    exact xw (this _ _) (by rw[oe];omega)
   refine⟨⟨oM,oM⟩,o.id,o.side,o.dj,o.dq,o.top,ZR ho,⟨sj,i.p,kZ i.B (i.fs j),o.id,n⟩,rfl,rfl,rfl,⟨Pe,by dsimp only;rw[uU];omega⟩,λs' iI=>⟨by rw[ia];omega,(j+1,s'),qw oM,rfl,?_,⟨?_,Z9⟩,Z9,gn⟩⟩
   ·show aa yY (xX i.inst (zC i.sd) (i.os.take (j+1)) (i.sh.take (j+1)))=_;rw[ku,jk,ir (by omega)];rfl
   ·show s'.fk i.p (kZ i.B (xX i.inst (zC i.sd) (i.os.take (j+1)) (i.sh.take (j+1))));rw[ku,yFf];exact iI
  ·rw[ej (show ¬0<n from c2),oL]at ku;refine⟨(j+1,sj),qw oM,rfl,?_,⟨?_,Z9⟩,Z9,gn⟩
   ·show aa yY (xX i.inst (zC i.sd) (i.os.take (j+1)) (i.sh.take (j+1)))=_;rw[ku];rfl
   ·show sj.fk i.p (kZ i.B (xX i.inst (zC i.sd) (i.os.take (j+1)) (i.sh.take (j+1))));rw[ku];exact Pe
 ·have EO:j=i.sh.length:=by omega
  subst EO;have hfa:i.fs i.sh.length=qV i.p i.B i.inst (zC i.sd) i.q:=zTb _ _;rw[hfa]at Pe ⊢;exact⟨sj,rfl,rfl,Pe⟩
def yJv:Fk.ok Tryz.prog 227:=gw mixed (dw RZ (dw y3e (dw yNl (dw SL fg)))) 0 (λ_=>[]) (λi=>yWw i) [0] Tryz.func227 y0w
structure j9 where
 dj:Int
 dq:Int
 iJ:Bool
 gz:List bG
 deriving DecidableEq
def wN (t:j9):List D:=[.v (.int .i64 t.dj),.v (.int .i64 t.dq),.v (.bool t.iJ),.ro 6 (t.gz.map yY)]
def mC (p:fb) (B:List (List zI)) (inst:Int) (sd:Bool) (dj dq:Int):Option (j9×List (List zI)):=
 let n:=yT p B inst (zC (!sd))
 if(n.2.2 && (bM sd dj n.1.dj && decide (1<=n.1.dq)))=ap then
  if n.2.1=ap then
   let f1:=qV p B n.1.a.inst n.1.a.side (min dq n.1.dq)
   let f2:=qV p (kZ B f1) n.1.b.inst n.1.b.side (min dq n.1.dq)
   ar (⟨n.1.dj,min dq n.1.dq,ap,f1++f2⟩,kZ (kZ B f1) f2)
  else
   let f:=qV p B inst (zC (!sd)) (min dq n.1.dq)
   ar (⟨n.1.dj,min dq n.1.dq,ao,f⟩,kZ B f)
 else au
structure ZC where
 steps:List j9
 left:Int
 B:List (List zI)
def DY (p:fb) (inst:Int) (sd:Bool) (dj:Int):Nat->List (List zI)->Int->ZC
 |0,B,q=>⟨[],q,B⟩
 |n+1,B,q=>if q<=0 then⟨[],q,B⟩else match mC p B inst sd dj q with
  |none=>⟨[],q,B⟩
  |some (t,B')=>let r:=DY p inst sd dj n B' (q-t.dq);⟨t::r.steps,r.left,r.B⟩
def wS (p:fb) (B:List (List zI)) (inst:Int) (sd:Bool) (dj q:Int):ZC:=DY p inst sd dj q.toNat B q
structure nf where
 s:gl
 p:fb
 B:List (List zI)
 inst:Int
 sd:Bool
 dj:Int
 q:Int
def nf.r (i:nf):ZC:=wS i.p i.B i.inst i.sd i.dj i.q
def PO:fy where
 ι:=nf
 pat:=λi=>[.nm 0 0,zA i.inst,zA (zC i.sd),zA i.dj,zA i.q]
 pre:=λi=>[zE i.s]
 dp:=λi=>i.s.fk i.p i.B/\iQ i.p i.B/\(0<=i.inst/\i.inst<i.B.length)/\1<=i.q/\i.q<=1000000
 alts:=λi=>[{o:=gl,res:=λ_=> .iW [.own 1,zA i.r.left],post:=λs=>[zE s,.own 331 4 (i.r.steps.map wN)],rel:=λs=>s.fk i.p i.r.B}]
structure Eo where
 s:gl
 B:List (List zI)
 steps:List j9
 q:Int
def y7n:List gj:=[
 {ι:=Eo,du:=λj=>[(0,.nm 0 0),(12,.own 1),(4,zA j.q)],rows:=λj=>[zE j.s,.own 331 4 (j.steps.map wN)]},
 {ι:=Unit,du:=λ_=>[],rows:=λ_=>[],un:=3}]
def Wx (a:Eo->Nat) (b:Eo) (c:Eo) (d:nf):Prop:=a b<a c/\di (ae 1 (iE d.s.p.dk))/\di (ae 1 (iE d.s.p.settle))
def SB (a:Ag):Prop:=a.s.fk a.p a.B/\iQ a.p a.B/\0<=a.inst/\a.inst<(↑a.B.length:Int)/\(-9223372036854775808)<=a.q/\a.q<=9223372036854775807
def VI (a:nf) (b:Eo) (c:Eh):Prop:=∃(d:gl),a.r.left=b.q/\zE d=zE c.s/\aa wN a.r.steps=aa wN b.steps/\d.fk a.p a.r.B
def Oa (a:Ag):=(aa yY (gX a))
def Y1 (a:nf):Prop:=∃(b:Eo),b.q=a.q/\sb b.s.p.code=sb a.s.p.code/\b.s.p.tick=a.s.p.tick/\b.s.p.low=a.s.p.low/\b.s.p.high=a.s.p.high/\b.s.p.wide=a.s.p.wide/\b.s.p.dr=a.s.p.dr/\b.s.p.top=a.s.p.top/\b.s.p.least=a.s.p.least/\b.s.p.part=a.s.p.part/\af 211 dm 6 zQ b.s.dz au=af 211 dm 6 zQ a.s.dz au/\yR b.s.wh=yR a.s.wh/\ae 1 (iE b.s.p.dk)=ae 1 (iE a.s.p.dk)/\ae 1 (iE b.s.p.settle)=ae 1 (iE a.s.p.settle)/\aa wN b.steps=[]/\∃(c:Eo->Prop),∃(d:Eo->Nat),c b/\∀(e:Eo),c e->dp (decide (e.q>0)) (∃(f:Bool),zC f=zC a.sd/\True/\∀(g:Unit),True->∃(h:Eh),h.inst=a.inst/\zC h.sd=zC !f/\zE h.s=zE e.s/\(h.s.fk h.p h.B/\iQ h.p h.B/\0<=h.inst/\h.inst<(↑h.B.length:Int))/\∀(j:Unit),True->dp (!(yB h).snd.snd) (VI a e h) (∃(k:PC),zC k.s=zC a.sd/\k.p=a.dj/\k.x=(yB h).fst.dj/\True/\∀(l:Unit),True->dp (!bM k.s k.p k.x) (VI a e h) (dp (yB h).snd.fst (∃(m:Ag),m.inst=(yB h).fst.a.inst/\zC m.sd=(yB h).fst.a.side/\m.q=min e.q (yB h).fst.dq/\zE m.s=zE h.s/\(SB m)/\∀(n:gl),n.fk m.p (cE m)->True/\(Oa m).length*(48:Nat)<=(140737488355328:Nat)/\∃(p:Ag),p.inst=(yB h).fst.b.inst/\zC p.sd=(yB h).fst.b.side/\p.q=min e.q (yB h).fst.dq/\zE p.s=zE n/\(SB p)/\∀(q:gl),q.fk p.p (cE p)->True/\((Oa m).length+(Oa p).length)*(48:Nat)<=(140737488355328:Nat)/\((aa wN e.steps).length+1)*(48:Nat)<=(140737488355328:Nat)/\∃(r:Eo),r.q=aq.wrap (e.q-min e.q (yB h).fst.dq)/\zE r.s=zE q/\aa wN r.steps=aa wN e.steps++[[dI ((yB h).fst.dj),dI (min e.q (yB h).fst.dq),D.v (.bool (yB h).snd.fst),D.ro 6 (aa yY (gX m)++aa yY (gX p))]]/\c r/\Wx d r e a) (∃(m:Bool),zC m=zC a.sd/\True/\∀(n:Unit),True->di (min e.q (yB h).fst.dq)/\∃(p:Ag),p.inst=a.inst/\zC p.sd=zC !m/\p.q=min e.q (yB h).fst.dq/\zE p.s=zE h.s/\(SB p)/\∀(q:gl),q.fk p.p (cE p)->((aa wN e.steps).length+1)*(48:Nat)<=(140737488355328:Nat)/\∃(r:Eo),r.q=aq.wrap (e.q-min e.q (yB h).fst.dq)/\zE r.s=zE q/\aa wN r.steps=aa wN e.steps++[[dI ((yB h).fst.dj),dI (min e.q (yB h).fst.dq),D.v (.bool (yB h).snd.fst),D.ro 6 (Oa p)]]/\c r/\Wx d r e a)))) (∃(f:gl),a.r.left=e.q/\zE f=zE e.s/\aa wN a.r.steps=aa wN e.steps/\f.fk a.p a.r.B)
def bC (a:nf):Prop:=∃(b:gl),a.r.left=a.q/\sb b.p.code=sb a.s.p.code/\b.p.tick=a.s.p.tick/\b.p.low=a.s.p.low/\b.p.high=a.s.p.high/\b.p.wide=a.s.p.wide/\b.p.dr=a.s.p.dr/\b.p.top=a.s.p.top/\b.p.least=a.s.p.least/\b.p.part=a.s.p.part/\af 211 dm 6 zQ b.dz au=af 211 dm 6 zQ a.s.dz au/\yR b.wh=yR a.s.wh/\ae 1 (iE b.p.dk)=ae 1 (iE a.s.p.dk)/\ae 1 (iE b.p.settle)=ae 1 (iE a.s.p.settle)/\aa wN a.r.steps=[]/\b.fk a.p a.r.B
def y3d (i:nf):Prop:=
 dp (decide (i.inst>=0)) (dp (decide (i.inst<(↑i.s.dz.length:Int))) (dp (zC i.sd==1) (dp (decide (i.q>=1)) (dp (!decide (i.q<=1000000)) (bC i) (Y1 i)) (bC i)) (dp (zC i.sd==2) (dp (decide (i.q>=1)) (dp (!decide (i.q<=1000000)) (bC i) (Y1 i)) (bC i)) (bC i))) (bC i)) (bC i)
structure QOk (T:List jr) (q:Quote):Prop where
 a:0<=q.a.inst/\q.a.inst<T.length
 b:0<=q.b.inst/\q.b.inst<T.length
 sa:q.a.side=1\/q.a.side=2
 sb:q.b.side=1\/q.b.side=2
 ne:q.a.inst≠q.b.inst
 ha:(T.getD q.a.inst.toNat j').has q.a.side=ap
 hb:(T.getD q.b.inst.toNat j').has q.b.side=ap
 dq:q.dq=min ((T.getD q.a.inst.toNat j').dq q.a.side) ((T.getD q.b.inst.toNat j').dq q.b.side)
def Zc {T:List jr} {a b:B4} {less:Bool} {q:Quote} (h:q∈yb T a b less) (h1:0<=a.inst/\a.inst<T.length) (h2:0<=b.inst/\b.inst<T.length) (h3:a.side=1\/a.side=2) (h4:b.side=1\/b.side=2) (je:a.inst≠b.inst):QOk T q/\q.a=a/\q.b=b:=by
 cases less
 all_goals
  simp only[yb,oD,↓reduceIte]at h;split at h
  ·rename_i hc;simp only[kx]at hc;rw[vf]at h;subst h;exact⟨⟨h1,h2,h3,h4,je,hc.1.1,hc.1.2,rfl⟩,rfl,rfl⟩
  ·cases h
def yWn:∀n≤6,∀k<n+n*(n-1) / 2,n<=k->(kQ n k n 0).1≠(kQ n k n 0).2.1:=by decide
def yAh {p:fb} (hc:p.check=0) {k:Nat} (hk:k<p.count) (hs:(p.ga k).2.2=ap):(p.ga k).1≠(p.ga k).2.1:=by
 have m6:=(qR hc).m6;have qx:=hk;rw[fb.count,fc hc]at qx;by_cases h:k<p.dk.length
 ·rw[fb.ga,ej (by omega),fc (by omega)]at hs;cases hs
 ·rw[fb.ga,ej (by omega),ej (by omega)];exact yWn p.dk.length m6 k qx oM
def yFh:∀n≤6,∀a<n,∀b<n,a<b->(yK n a:Int)+b-a-1>=n:=by decide
def zTw {p:fb} (hc:p.check=0) {a b:Nat} (Eb:a<b) (hb:b<p.dk.length):(p.dk.length:Int)<=(p.spread a b).1:=by
 have m6:=(qR hc).m6;have:=yFh p.dk.length m6 a oM b hb Eb;rw[fb.spread,ej (by omega)];simpa using this
def z8t {p:fb} (hc:p.check=0) {T:List jr} (hT:T.length=p.count) {inst:Int} {s:Int} (hs:s=1\/s=2) {q:Quote} (h:q∈kM ⟨p,T,inst⟩ s):QOk T q/\0<=inst/\inst<p.count/\
 (((p.ga inst).2.2=ap/\q.a=⟨(p.ga inst).1,s⟩/\q.b=⟨(p.ga inst).2.1,3-s⟩)\/(inst<p.dk.length/\q.a.inst≠inst/\(p.dk.length:Int)<=q.a.inst)):=by
 rw[kM]at h;dsimp only at h;split at h
 ·cases h
 ·rename_i hn;have h0:0<=inst/\inst<p.count:=by omega
  obtain⟨k,rfl⟩:∃k:Nat,inst=k:=⟨inst.toNat,oM⟩
  have hk:k<p.count:=by omega
  have KN:=Sv hc;split at h
  ·rename_i hl;obtain⟨q',UA,rfl⟩:=pk.1 h;have hle:=fD hc hk;rcases hle with⟨_,l1,l2,l3,l4⟩|⟨e,_⟩
   ·obtain⟨ok,e1,e2⟩:=Zc UA Z9 Z9 Z9 hs (λe=>yAh hc hk hl e.symm);refine⟨⟨by dsimp only[bP];omega,by dsimp only[bP];omega,hs,by dsimp only[bP];omega,yAh hc hk hl,?_,?_,?_⟩,h0.1,h0.2,.inl ⟨hl,rfl,rfl⟩⟩
    ·have:=ok.hb;rw[e2]at this;exact this
    ·have:=ok.ha;rw[e1]at this;exact this
    ·have:=ok.dq;rw[e1,e2]at this;dsimp only[bP];rw[this];exact Int.min_comm _ _
   ·rw[e]at hl;cases hl
  ·rename_i hl;have hm:k<p.dk.length:=by
    rcases fD hc hk with⟨e,_⟩|⟨_,e⟩
    ·exact absurd e hl
    ·exact e
   rcases pn.1 h with h|h
   ·obtain⟨j,hj,h⟩:=AB.1 h;have hj:=BT.1 hj;rw[ow]at hj;have s1:=aO hc (a:=k) (b:=k+1+j) oM oM;have s2:=zTw hc (a:=k) (b:=k+1+j) oM oM;have ec:((k:Int)+1+j)=((k+1+j:Nat):Int):=by omega
    rw[ec]at h;obtain⟨ok,e1,e2⟩:=Zc h Z9 Z9 hs hs Z9;exact⟨ok,h0.1,h0.2,.inr ⟨oM,by rw[e1];dsimp only;omega,by rw[e1];exact s2⟩⟩
   ·obtain⟨j,hj,h⟩:=AB.1 h;have hj:=BT.1 hj;rw[ow]at hj;have s1:=aO hc (a:=j) (b:=k) oM oM;have s2:=zTw hc (a:=j) (b:=k) oM oM;obtain⟨ok,e1,e2⟩:=Zc h Z9 Z9 Z9 hs Z9;exact⟨ok,h0.1,h0.2,.inr ⟨oM,by rw[e1];dsimp only;omega,by rw[e1];exact s2⟩⟩
def zTt {s:Int}:∀(r:List Quote) (q:Quote),r.foldl (λb q=>if jy s q.dj b.dj then q else b) q∈q::r
 |[],q=>ji
 |x::r,q=>by
  rw[EA];have:=zTt (s:=s) r (if jy s x.dj q.dj then x else q);rcases mf.1 this with e|h
  ·rw[e];split
   ·exact jw _ ji
   ·exact ji
  ·exact jw _ (jw _ h)
def WY {l:List Quote} {s:Int} (h:(zU l s).2=ap):(zU l s).1∈l:=by
 cases l with
 |nil=>cases h
 |cons q r=>exact zTt r q
def TT (B:List (List zI)):Prop:=∀(k:Nat) (L:List zI),B[k]?=ar L->(∀o∈L,J7 o)/\(L.map (·.id)).Nodup/\L.length<=250
def gl.fk.om {s:gl} {p:fb} {B:List (List zI)} (h:s.fk p B):TT B:=by
 intro k L hL;obtain⟨b,hb⟩:=z7 (l:=s.dz) (i:=k) (by rw[h.bl];exact(jl.1 hL).1);exact(h.bk k b L hb hL).om
def TA:∀{l:List zI} {v:Lv},(∀o∈l,J7 o)->v∈wy l->1<=v.dq/\v.dq<=1000000*l.length
 |[],v,_,h=>by cases h
 |o::l,v,ho,h=>by
  have h0:=(ho o ji).q;have ih:∀v∈wy l,1<=v.dq/\v.dq<=1000000*l.length:=λv hv=>TA (λx hx=>ho x (jw _ hx)) hv
  rw[wy]at h;rw[iD];split at h
  ·rw[vf]at h;subst h;dsimp only;omega
  ·rename_i w ws e;rw[e]at ih;have hw:=ih w ji;split at h
   ·rcases mf.1 h with rfl|h
    ·dsimp only;omega
    ·have:=ih v (jw _ h);omega
   ·rcases mf.1 h with rfl|h
    ·dsimp only;omega
    ·have:=ih v h;omega
def Zp {L:List zI} {s:Int} (h:∀o∈L,J7 o) (hl:L.length<=250) (hb:(iA L s).2=ap):1<=(iA L s).1.dq/\(iA L s).1.dq<=250000000:=by
 rw[iA]at hb ⊢;cases Ng:gL L s with
 |nil=>rw[Ng]at hb;cases hb
 |cons v vs=>
  dsimp only;have hm:v∈wy (L.filter λo=>decide (o.side=s)):=by rw[<- gL,Ng];exact ji
  have:=TA (λo ho=>h o (ve.1 ho).1) hm;have:=Hg (λo:zI=>decide (o.side=s)) L;omega
def yKg {B:List (List zI)} {k:Nat} {L:List zI} (hL:B[k]? =ar L):(B.map kC).getD k j'=kC L:=zT (by rw[uq,hL];rfl)
def RV (L:List zI) {s:Int} (hs:s=1\/s=2):(kC L).has s=(iA L s).2/\(kC L).dq s=(iA L s).1.dq/\(kC L).dj s=(iA L s).1.dj:=by
 obtain⟨e1,e2,e3,e4,e5,e6⟩:=Sp L;rcases hs with rfl|rfl
 ·exact⟨e3,e2,e1⟩
 ·exact⟨e6,e5,e4⟩
def yBc {p:fb} {B:List (List zI)} (h:iQ p B) (ho:TT B) {inst:Int} (hi:0<=inst/\inst<B.length) {s:Int} (hs:s=1\/s=2) (hn:(yT p B inst s).2.2=ap):
 (1<=(yT p B inst s).1.dq/\(yT p B inst s).1.dq<=250000000)/\((yT p B inst s).2.1=ap->(yT p B inst s).1∈kM ⟨p,B.map kC,inst⟩ s/\QOk (B.map kC) (yT p B inst s).1)/\
 ((yT p B inst s).2.1=ao->(iA (B.getD inst.toNat []) s).2=ap/\(yT p B inst s).1.dj=(iA (B.getD inst.toNat []) s).1.dj/\(yT p B inst s).1.dq=(iA (B.getD inst.toNat []) s).1.dq):=by
 obtain⟨k,rfl⟩:∃k:Nat,inst=k:=⟨inst.toNat,oM⟩
 obtain⟨L,hL⟩:=z7 (l:=B) (i:=k) oM;have hLo:=ho k L hL;rw[yT]at hn ⊢;rw[ow,zT hL]at hn ⊢;split
 ·rename_i c;simp only[kx]at c;exact⟨Zp hLo.1 hLo.2.2 c.1,⟨λe=>(by cases e),λ_=>⟨c.1,rfl,rfl⟩⟩⟩
 ·rename_i c;rw[ej c]at hn;dsimp only at hn ⊢;have hm:=WY hn;have ha:(zU (xY ⟨p,B.map kC,k⟩ s) s).1∈kM ⟨p,B.map kC,k⟩ s:=(ve.1 hm).1;obtain⟨ok,_⟩:=z8t h.pc (by rw[ia];exact h.bl) hs ha;refine⟨?_,λ_=>⟨ha,ok⟩,λe=>by rw[hn]at e;cases e⟩;generalize (zU (xY ⟨p,B.map kC,k⟩ s) s).1=q at ok;have a:=ok.a;have b:=ok.b;rw[ia]at a b;obtain⟨La,hLa⟩:=z7 (l:=B) (i:=q.a.inst.toNat) oM;obtain⟨Lb,hLb⟩:=z7 (l:=B) (i:=q.b.inst.toNat) oM;have e1:=ok.ha;have e2:=ok.hb;have e3:=ok.dq;rw[yKg hLa]at e1 e3;rw[yKg hLb]at e2 e3;rw[(RV La ok.sa).1]at e1;rw[(RV Lb ok.sb).1]at e2;rw[(RV La ok.sa).2.1,(RV Lb ok.sb).2.1]at e3;have:=Zp (ho _ _ hLa).1 (ho _ _ hLa).2.2 e1;have:=Zp (ho _ _ hLb).1 (ho _ _ hLb).2.2 e2;omega
def yJa {L:List zI} {id q:Int} {o:zI} (h:o∈(qB L id q).1):∃o'∈L,o.dj=o'.dj/\o.side=o'.side/\o.id=o'.id:=by
 rw[qB]at h;split at h
 ·exact⟨o,h,rfl,rfl,rfl⟩
 split at h
 ·exact⟨o,h,rfl,rfl,rfl⟩
 obtain⟨o',oz,e⟩:=MN.1 h;refine⟨o',oz,?_⟩;split at e
 ·split at e
  ·cases e
  ·cases e;exact⟨rfl,rfl,rfl⟩
 ·cases e;exact⟨rfl,rfl,rfl⟩
def iQ.take {p:fb} {B:List (List zI)} (h:iQ p B) (id q:Int):iQ p (kK B id q).1:=by
 refine⟨h.pc,h.ps,by rw[rJ];exact h.bl,λk L hL o ho=> ?_⟩;rw[kK]at hL;split at hL
 ·exact h.pr k L hL o ho
 ·rename_i j hj;dsimp only at hL;rcases b7 hL with⟨rfl,rfl⟩|⟨_,hL⟩
  ·obtain⟨o',oz,e,_⟩:=yJa ho;obtain⟨L',Jg,_⟩:=g7 hj;rw[zT Jg]at oz;rw[e];exact h.pr k L' Jg o' oz
  ·exact h.pr k L hL o ho
def iQ.takes {p:fb}:∀{fs:List bG} {B:List (List zI)},iQ p B->iQ p (kZ B fs)
 |[],B,h=>h
 |f::fs,B,h=>iQ.takes (fs:=fs) (h.take f.id f.dq)
def zZi (inst s:Int):∀(os:List zI) (sh:List Int),(xX inst s os sh).length<=os.length
 |[],sh=>km 0
 |o::os,[]=>my _
 |o::os,k::sh=>by
  have:=zZi inst s os sh;rw[xX];split
  ·simp only[iD];omega
  ·simp only[iD];omega
def rF {p:fb} {B:List (List zI)} (ho:TT B) (inst s q:Int):(qV p B inst s q).length<=250:=by
 refine xw (zZi _ _ _ _) (xw (Hg _ _) ?_);by_cases h:inst.toNat<B.length
 ·obtain⟨L,hL⟩:=z7 h;rw[zT hL];exact(ho _ _ hL).2.2
 ·rw[np,tx (by omega)];exact my _
def NA {p:fb} {B:List (List zI)} {inst:Int} {sd:Bool} {dj q:Int} {t:j9} {B':List (List zI)} (hq:1<=q) (h:mC p B inst sd dj q=ar (t,B')):1<=t.dq/\t.dq<=q:=by
 rw[mC]at h;dsimp only at h;split at h
 ·rename_i c;simp only[kx,tw]at c;split at h
  ·cases h;dsimp only;omega
  ·cases h;dsimp only;omega
 ·cases h
def z1s {p:fb} {inst:Int} {sd:Bool} {dj:Int}:∀(m n:Nat) (B:List (List zI)) (q:Int),q.toNat<=m->q.toNat<=n->DY p inst sd dj m B q=DY p inst sd dj n B q
 |0,0,B,q,_,_=>rfl
 |0,n+1,B,q,h,_=>by rw[DY,DY,fc (by omega)]
 |m+1,0,B,q,_,h=>by rw[DY,DY,fc (by omega)]
 |m+1,n+1,B,q,h1,h2=>by
  rw[DY,DY];split
  ·rfl
  ·rename_i hq;cases hs:mC p B inst sd dj q with
   |none=>rfl
   |some x=>
    obtain⟨t,B'⟩:=x;have:=NA oM hs;dsimp only;rw[z1s m n B' (q-t.dq) (by omega) (by omega)]
def Ob {p:fb} {B:List (List zI)} {inst:Int} {sd:Bool} {dj q:Int} (h:q<=0\/mC p B inst sd dj q=au):wS p B inst sd dj q=⟨[],q,B⟩:=by
 rw[wS];cases hn:q.toNat with
 |zero=>rfl
 |succ n=>
  rw[DY];rcases h with h|h
  ·rw[fc h]
  ·rw[ej (by omega),h]
def V0 {p:fb} {B:List (List zI)} {inst:Int} {sd:Bool} {dj q:Int} {t:j9} {B':List (List zI)} (hq:1<=q) (h:mC p B inst sd dj q=ar (t,B')):
 wS p B inst sd dj q=⟨t::(wS p B' inst sd dj (q-t.dq)).steps,(wS p B' inst sd dj (q-t.dq)).left,(wS p B' inst sd dj (q-t.dq)).B⟩:=by
 have ht:=NA hq h;rw[wS];cases hn:q.toNat with
 |zero=>omega
 |succ n=>
  rw[DY,ej (by omega),h];dsimp only;rw[z1s n (q-t.dq).toNat B' (q-t.dq) (by omega) (km _)];rfl
def fG {s:Int} (h:s=1\/s=2):zC (decide (s=2))=s:=by
 rcases h with rfl|rfl<;>rfl
def y6q (i:nf) (h:PO.dp i):y3d i:=by
 obtain⟨hR,hB,⟨h0,h1⟩,qe,qk⟩:i.s.fk i.p i.B/\iQ i.p i.B/\(0<=i.inst/\i.inst<i.B.length)/\1<=i.q/\i.q<=1000000:=h;have zj:=hR.bl;have vz:=xR i.p;have hbB:=hB.bl;unfold y3d Y1 cE Oa gX VI SB Wx yB bC dI;refine(λhT=>zH (λc=>zH (λc2=>Cv.dp.mk (λ_=>zH (λ_=>Cv.dp.mk (λe=>absurd qk (by simpa using e)) (λ_=>hT)) (λe=>absurd qe e)) (λe1=>Cv.dp.mk (λ_=>zH (λ_=>Cv.dp.mk (λe=>absurd qk (by simpa using e)) (λ_=>hT)) (λe=>absurd qe e)) (λe2=>by
  rcases N4 i.sd with e|e
  ·rw[e]at e1;cases e1
  ·rw[e]at e2;cases e2))) (λc2=>absurd oM c2)) (λc=>absurd h0 c)) ?_
 refine⟨⟨i.s,i.B,[],i.q⟩,gm (ma ⟨rfl,λj=>j.s.fk i.p j.B/\iQ i.p j.B/\j.B.length=i.B.length/\(0<=j.q/\j.q<=i.q)/\(j.steps.length:Int)<=i.q-j.q/\i.r=⟨j.steps++(wS i.p j.B i.inst i.sd i.dj j.q).steps,(wS i.p j.B i.inst i.sd i.dj j.q).left,(wS i.p j.B i.inst i.sd i.dj j.q).B⟩,λj=>j.q.toNat,⟨hR,hB,rfl,⟨Z9,yg _⟩,by dsimp only;simp,rfl⟩,?_⟩)⟩;rintro⟨s,B,st,q⟩ ⟨r1,r2,r3,⟨r4,r4'⟩,r5,r6⟩;dsimp only at r1 r2 r3 r4 r4' r5 r6 ⊢;have Ja (hn:q<=0\/mC i.p B i.inst i.sd i.dj q=au):∃(o:gl),i.r.left=q/\ag gl (5:Nat) xO o=ag gl (5:Nat) xO s/\aa wN i.r.steps=aa wN st/\o.fk i.p i.r.B:=by
  rw[Ob hn,oL]at r6;rw[r6];exact⟨s,iM r1⟩
 refine zH (λc=> ?_) (λc=>Ja (.inl oM));have c:0<q:=c;refine⟨i.sd,rfl,trivial,λ_ _=>⟨⟨s,i.p,B,i.inst,!i.sd⟩,rfl,rfl,rfl,⟨r1,r2,h0,Z9⟩,λ_ _=> ?_⟩⟩;dsimp only;have hni:=yBc r2 r1.om (inst:=i.inst) ⟨h0,oM⟩ (N4 (!i.sd));have D8:mC i.p B i.inst i.sd i.dj q=(if((yT i.p B i.inst (zC (!i.sd))).2.2 && (bM i.sd i.dj (yT i.p B i.inst (zC (!i.sd))).1.dj && decide (1<=(yT i.p B i.inst (zC (!i.sd))).1.dq)))=ap then
  if(yT i.p B i.inst (zC (!i.sd))).2.1=ap then
   ar (⟨(yT i.p B i.inst (zC (!i.sd))).1.dj,min q (yT i.p B i.inst (zC (!i.sd))).1.dq,ap,qV i.p B (yT i.p B i.inst (zC (!i.sd))).1.a.inst (yT i.p B i.inst (zC (!i.sd))).1.a.side (min q (yT i.p B i.inst (zC (!i.sd))).1.dq)++qV i.p (kZ B (qV i.p B (yT i.p B i.inst (zC (!i.sd))).1.a.inst (yT i.p B i.inst (zC (!i.sd))).1.a.side (min q (yT i.p B i.inst (zC (!i.sd))).1.dq))) (yT i.p B i.inst (zC (!i.sd))).1.b.inst (yT i.p B i.inst (zC (!i.sd))).1.b.side (min q (yT i.p B i.inst (zC (!i.sd))).1.dq)⟩,kZ (kZ B (qV i.p B (yT i.p B i.inst (zC (!i.sd))).1.a.inst (yT i.p B i.inst (zC (!i.sd))).1.a.side (min q (yT i.p B i.inst (zC (!i.sd))).1.dq))) (qV i.p (kZ B (qV i.p B (yT i.p B i.inst (zC (!i.sd))).1.a.inst (yT i.p B i.inst (zC (!i.sd))).1.a.side (min q (yT i.p B i.inst (zC (!i.sd))).1.dq))) (yT i.p B i.inst (zC (!i.sd))).1.b.inst (yT i.p B i.inst (zC (!i.sd))).1.b.side (min q (yT i.p B i.inst (zC (!i.sd))).1.dq)))
  else ar (⟨(yT i.p B i.inst (zC (!i.sd))).1.dj,min q (yT i.p B i.inst (zC (!i.sd))).1.dq,ao,qV i.p B i.inst (zC (!i.sd)) (min q (yT i.p B i.inst (zC (!i.sd))).1.dq)⟩,kZ B (qV i.p B i.inst (zC (!i.sd)) (min q (yT i.p B i.inst (zC (!i.sd))).1.dq)))else au):=rfl
 generalize yT i.p B i.inst (zC (!i.sd))=nb at hni D8 ⊢;refine Cv.dp.mk (λn1=> ?_) (λn1=>⟨⟨i.sd,i.dj,nb.1.dj⟩,rfl,rfl,rfl,trivial,λ_ _=>Cv.dp.mk (λn2=> ?_) (λn2=> ?_)⟩)
 ·have n1:nb.2.2=ao:=by simpa using n1
  rw[n1,ej (by simp)]at D8;exact Ja (.inr D8)
 ·have n2:bM i.sd i.dj nb.1.dj=ao:=by simpa using n2
  rw[n2,ej (by simp)]at D8;exact Ja (.inr D8)
 have n1:nb.2.2=ap:=by simpa using n1
 have n2:bM i.sd i.dj nb.1.dj=ap:=by simpa using n2
 obtain⟨⟨b1,b2⟩,hi,hr⟩:=hni n1;rw[n1,n2,lg b1,fc (by rfl)]at D8;have hk:gq (min q nb.1.dq):=by constructor<;>omega
 have yd:(st.length+1)*48<=140737488355328:=by omega
 have beh:∀(t:j9) (B':List (List zI)) (s':gl),mC i.p B i.inst i.sd i.dj q=ar (t,B')->s'.fk i.p B'->iQ i.p B'->B'.length=B.length->
  (s'.fk i.p B'/\iQ i.p B'/\B'.length=i.B.length/\(0<=q-t.dq/\q-t.dq<=i.q)/\((st++[t]).length:Int)<=i.q-(q-t.dq)/\i.r=⟨(st++[t])++(wS i.p B' i.inst i.sd i.dj (q-t.dq)).steps,(wS i.p B' i.inst i.sd i.dj (q-t.dq)).left,(wS i.p B' i.inst i.sd i.dj (q-t.dq)).B⟩)/\(q-t.dq).toNat<q.toNat:=by
  intro t B' s' h1 h2 h3 h4;have ht:=NA oM h1;refine⟨⟨h2,h3,oM,⟨oM,oM⟩,by rw[im,AE];omega,?_⟩,oM⟩;rw[V0 (by omega) h1]at r6;rw[r6,jd];rfl
 refine Cv.dp.mk (λn3=> ?_) (λn3=> ?_)
 ·obtain⟨_,ok⟩:=hi n3;rw[n3,fc rfl]at D8;have oka:=ok.a;have okb:=ok.b;rw[ia]at oka okb;have ea:=fG ok.sa;have eb:=fG ok.sb;refine⟨⟨s,i.p,B,nb.1.a.inst,decide (nb.1.a.side=2),min q nb.1.dq⟩,rfl,ea,rfl,rfl,⟨r1,r2,oka.1,oka.2,hk⟩,λs1 tc=> ?_⟩;dsimp only at tc ⊢;rw[ea]at tc ⊢;have l1:=rF (p:=i.p) r1.om nb.1.a.inst nb.1.a.side (min q nb.1.dq);have GO:=r2.takes (fs:=qV i.p B nb.1.a.inst nb.1.a.side (min q nb.1.dq));have l2:=rF (p:=i.p) tc.om nb.1.b.inst nb.1.b.side (min q nb.1.dq);refine⟨trivial,by rw[ia];omega,⟨s1,i.p,kZ B (qV i.p B nb.1.a.inst nb.1.a.side (min q nb.1.dq)),nb.1.b.inst,decide (nb.1.b.side=2),min q nb.1.dq⟩,rfl,eb,rfl,rfl,⟨tc,GO,okb.1,by dsimp only;rw[uU];exact okb.2,hk⟩,λs2 ye=> ?_⟩;dsimp only at ye ⊢;rw[eb]at ye ⊢;obtain⟨g1,g2⟩:=beh _ _ s2 D8 ye GO.takes (by rw[uU,uU]);refine⟨trivial,by rw[ia,ia];omega,by rw[ia];exact yd,⟨s2,_,st++[_],_⟩,?_,rfl,?_,g1,g2,gn⟩
  ·dsimp only;rw[ir (by omega)]
  ·dsimp only;rw[jk,n3];simp[wN]
 ·rw[n3,ej (by decide)]at D8;refine⟨i.sd,rfl,trivial,λ_ _=>⟨rfl,⟨s,i.p,B,i.inst,!i.sd,min q nb.1.dq⟩,iM ⟨rfl,⟨r1,r2,h0,Z9,hk⟩,λs1 tc=> ?_⟩⟩⟩;dsimp only at tc ⊢;obtain⟨g1,g2⟩:=beh _ _ s1 D8 tc r2.takes (by rw[uU]);refine⟨by rw[ia];exact yd,⟨s1,_,st++[_],_⟩,?_,rfl,?_,g1,g2,gn⟩
  ·dsimp only;rw[ir (by omega)]
  ·dsimp only;rw[jk,n3];simp[wN]
def Zx:PO.ok Tryz.prog 216:=gw mixed (dw yQy (dw zVp (dw z1i (dw yJv fg)))) 2 (λ_=>[]) (λ_=>y7n) [0] Tryz.func216 y6q
def yMg {L:List zI} {s id p q:Int} {o:zI} (h:o∈GX L s id p q):o.dj=p\/∃o'∈L,o.dj=o'.dj:=by
 have key:∀X:List zI,(o∈X.takeWhile (before s p)++⟨id,s,p,q,gZ L s p⟩::X.dropWhile (before s p))->o.dj=p\/o∈X:=by
  intro X hX;rcases pn.1 hX with hX|hX
  ·exact .inr (List.takeWhile_sublist _|>.subset hX)
  ·rcases mf.1 hX with rfl|hX
   ·exact .inl rfl
   ·exact .inr (List.dropWhile_sublist _|>.subset hX)
 rw[GX]at h;split at h
 ·rcases key _ h with h|h
  ·exact .inl h
  ·obtain⟨o',oz,_,_,e,_⟩:=z8o h;exact .inr ⟨o',oz,e⟩
 ·rcases key _ h with h|h
  ·exact .inl h
  ·exact .inr ⟨o,h,rfl⟩
def iQ.add {p:fb} {B:List (List zI)} (h:iQ p B) (inst id s dj q:Int):iQ p (Ki p B inst id s dj q).1:=by
 rw[Ki];split
 ·exact h
 split
 ·exact h
 split
 ·exact h
 split
 ·exact h
 rename_i c1 _ _ c4;have c4:p.dj inst dj=0:=by simpa using c4
 refine⟨h.pc,h.ps,by simpa using h.bl,λk L hL o ho=> ?_⟩;dsimp only at hL;rcases b7 hL with⟨rfl,rfl⟩|⟨_,hL⟩
 ·obtain⟨L',Jg⟩:=z7 (l:=B) (i:=inst.toNat) oM;rw[zT Jg,DX]at ho;have e:((inst.toNat:Nat):Int)=inst:=by omega
  repeat' split at ho
  ·exact h.pr _ L' Jg o ho
  ·exact h.pr _ L' Jg o ho
  ·exact h.pr _ L' Jg o ho
  ·rcases yMg ho with h1|⟨o',oz,h1⟩
   ·rw[h1,e];exact c4
   ·rw[h1];exact h.pr _ L' Jg o' oz
 ·exact h.pr k L hL o ho
def iQ.new {p:fb} (hc:p.check=0) (hp:p.small):iQ p (ab p.count []):=by
 refine⟨hc,hp,by simp,λk L hL o ho=> ?_⟩;rw[T8 (lr hL)]at ho;cases ho
def gl.fk.fit {s:gl} {p:fb} {B:List (List zI)} (h:s.fk p B) (hb:iQ p B):s.fit:=by
 have:=xR p;refine⟨by rw[h.ep];exact hb.ps,by rw[h.bl,hb.bl];omega,λb hm=> ?_⟩;obtain⟨k,hk⟩:=BU.1 hm;have gr:=(jl.1 hk).1;rw[h.bl]at gr;obtain⟨L,hL⟩:=z7 gr;exact(h.bk k b L hk hL).fit
def Gk (r:Nat):Bool:=decide (32<=r) && decide (r≠127) && decide (r≠65533)
def dK (s:List UInt8):Bool:=(kY s).all Gk && decide (1<=(kY s).length) && decide ((kY s).length<=12)
def P6:fy:=fj (List UInt8) (λs=>[sV s]) (λ_=>[]) (λs=>s.length<=140737488355328) (λs=>yL (dK s)) (λ_=>[])
def y6n (s:List UInt8):List gj:=[{ι:=Nat×Nat,du:=λx=>[(3,zA x.2),(7,.nm 0 0)],rows:=λx=>[.iter (sb s) x.1]}]
def vR (n:Int):Bool:=decide (-2000000<=n) && decide (n<=2000000)
def kE (n:Int):Bool:=decide (1<=n) && decide (n<=1000000)
def ib.fw (c:ib):Int:=
 if c.side≠1/\c.side≠2 then 21 else if c.time<1\/3<c.time then 27 else if kE c.dq=ao then 24 else if c.least<0\/c.dq<c.least then 28
 else if c.label≠[]/\dK c.label=ao then 29 else if vR c.dj=ao then 23 else if c.inst<0\/255<c.inst then 20 else 0
def ib.right (c:ib):Int:=
 if c.kind<1\/4<c.kind then 31 else if c.id<1\/1099511627776<c.id then 1 else if c.kind=1 then c.fw
 else if c.kind≠2/\kE c.dq=ao then 24 else if c.kind=4/\vR c.dj=ao then 23 else 0
def De:fy:=fj ib (λc=>[Cs c]) (λ_=>[]) (λc=>c.label.length<=140737488355328) (λc=>zA c.fw) (λ_=>[])
def FT:fy:=fj ib (λc=>[Cs c]) (λ_=>[]) (λc=>c.label.length<=140737488355328) (λc=>zA c.right) (λ_=>[])
open Classical
def RB.byte (r:RB):Int×RB:=(qE (r.n 1).kj,⟨(r.n 1).left,(r.n 1).bad⟩)
def RB.iY (r:RB):Int×RB:=(aq.wrap (qE (r.n 8).kj),⟨(r.n 8).left,(r.n 8).bad⟩)
def RB.ue (r:RB):Int:=if r.b then 10 else if 0<r.l.length then 15 else 0
@[reducible] def PA (r:RB):ff:=Rd r.l r.b
@[reducible] def RB.ok (i:RB):Prop:=i.l.length<=1099511627776
def RB.text (r:RB):List UInt8×RB:=((r.byte.2.n r.byte.1.toNat).kj,⟨(r.byte.2.n r.byte.1.toNat).left,(r.byte.2.n r.byte.1.toNat).bad⟩)
def l9 (s:List UInt8):List UInt8:=jf (s.take 255).length::s.take 255
def ib.tail (c:ib):List UInt8:=
 if c.kind=1 then jf c.inst::jf c.side::jf c.time::(le c.dj 8++(le c.dq 8++(le c.least 8++l9 c.label)))
 else if c.kind=3 then le c.dq 8 else if c.kind=4 then le c.dj 8++le c.dq 8 else[]
def ib.enc (c:ib):List UInt8:=if c.right≠0 then[]else jf c.kind::(le c.id 8++c.tail)
def x5 (k id:Int) (r:RB):ib×RB:=
 if k=1 then
  let a:=r.byte;let b:=a.2.byte;let t:=b.2.byte;let x:=t.2.iY;let y:=x.2.iY;let z:=y.2.iY;let w:=z.2.text
  (⟨k,id,a.1,b.1,x.1,y.1,z.1,t.1,w.1⟩,w.2)
 else if k=3 then(⟨k,id,0,0,0,r.iY.1,0,0,[]⟩,r.iY.2)
 else if k=4 then(⟨k,id,0,0,r.iY.1,r.iY.2.iY.1,0,0,[]⟩,r.iY.2.iY.2)
 else(⟨k,id,0,0,0,0,0,0,[]⟩,r)
def xJ (b:List UInt8):ib×Int:=
 let k:=(RB.mk b ao).byte
 if k.1<1\/4<k.1 then(G0,31)else
 let x:=x5 k.1 k.2.iY.1 k.2.iY.2
 if x.2.ue≠0 then(G0,12)else if x.1.right≠0 then(G0,x.1.right)else(x.1,0)
def ib.asks (c:ib):ib:=if c.kind=1 then c else if c.kind=2 then⟨2,c.id,0,0,0,0,0,0,[]⟩else if c.kind=3 then⟨3,c.id,0,0,0,c.dq,0,0,[]⟩else if c.kind=4 then⟨4,c.id,0,0,c.dj,c.dq,0,0,[]⟩else G0
def Oj (n:Int):((jf n).toNat:Int)=n % 256:=(Sj n).symm
def rL (x:UInt8) (l:List UInt8):RB.byte ⟨x::l,ao⟩=((x.toNat:Int),⟨l,ao⟩):=by
 simp[RB.byte,RB.n,RN.kj,RN.left,RN.bad,qE]
def yAq (a l:List UInt8):(RN.mk (a++l) ao a.length).kj=a/\(RN.mk (a++l) ao a.length).left=l/\(RN.mk (a++l) ao a.length).bad=ao:=by
 have h:(RN.mk (a++l) ao a.length).bad=ao:=by simp[RN.bad]
 simp[RN.kj,RN.left,h]
def zYv (n:Int):qE (le n 8)=n % 18446744073709551616:=by
 simp only[le,qE,Oj];omega
def Mn {n:Int} (h:gq n) (l:List UInt8):RB.iY ⟨le n 8++l,ao⟩=(n,⟨l,ao⟩):=by
 have e:(RB.mk (le n 8++l) ao).n 8=RN.mk (le n 8++l) ao (le n 8).length:=by rw[xH];rfl
 obtain⟨h1,h2,h3⟩:=yAq (le n 8) l;rw[RB.iY,e,h1,h2,h3,zYv];obtain⟨ha,hb⟩:=h;have:aq.wrap (n % 18446744073709551616)=n:=by
  have e:=Cv.wrap_i64 ha hb;by_cases hn:0<=n
  ·rw[show n % 18446744073709551616=n by omega];exact e
  ·have:n % 18446744073709551616=n+18446744073709551616:=by omega
   rw[this];rw[IntKind.wrap]at e ⊢;simp only[IntKind.wrap,IntKind.bits,IntKind.signed]at e ⊢;simp at e ⊢;omega
 rw[this]
def yKm {s:List UInt8} (h:s.length<=255) (l:List UInt8):RB.text ⟨l9 s++l,ao⟩=(s,⟨l,ao⟩):=by
 have ht:s.take 255=s:=og h;have e:((jf (s.length:Int)).toNat:Int)=s.length:=by rw[Oj];omega
 rw[l9,ht,tv,RB.text,rL];dsimp only;rw[e];have e:(RB.mk (s++l) ao).n ((s.length:Int)).toNat=RN.mk (s++l) ao s.length:=rfl;obtain⟨h1,h2,h3⟩:=yAq s l;rw[e,h1,h2,h3]
def J5 {n:Int} (h:0<=n/\n<=255):((jf n).toNat:Int)=n:=by rw[Oj];omega
def yAw (s:List UInt8):∀(k p:Nat),s.length-p<=k->s.length-p<=4*(gD s p).length
 |0,p,h=>by rw[uJ (by omega)];simp;omega
 |k+1,p,h=>by
  by_cases hp:p<s.length
  ·have hw:=bF s hp;have h4:(Utf8.decode (sb s) p).2<=4:=by
    unfold Utf8.decode;simp only[RY,kx,tw]
    repeat' split
    all_goals simp
   rw[jP hp,iD];have:=yAw s k (p+(Utf8.decode (sb s) p).2) oM;omega
  ·rw[uJ (by omega)];simp;omega
def yEt {s:List UInt8} (h:s=[]\/dK s=ap):s.length<=48:=by
 obtain rfl|h:=h
 ·simp
 ·simp only[dK,kx,tw]at h;have:=yAw s s.length 0 oM;rw[kY,ia]at h;omega
def tG {c:ib} (h:c.right=0):(1<=c.kind/\c.kind<=4)/\(1<=c.id/\c.id<=1099511627776)/\
 (c.kind≠2->1<=c.dq/\c.dq<=1000000)/\(c.kind=1\/c.kind=4->-2000000<=c.dj/\c.dj<=2000000)/\
 (c.kind=1->(c.side=1\/c.side=2)/\(1<=c.time/\c.time<=3)/\(0<=c.least/\c.least<=c.dq)/\(0<=c.inst/\c.inst<=255)/\c.label.length<=48):=by
 rw[ib.right]at h;split at h;·cases h
 split at h;·cases h
 rename_i h1 h2;refine⟨oM,oM,?_⟩;split at h
 ·rename_i hk;rw[ib.fw]at h
  iterate 7 (split at h;·cases h)
  rename_i a1 a2 a3 a4 a5 a6 a7;simp only[kE,Bool.not_eq_false,kx,tw]at a3;simp only[vR,Bool.not_eq_false,kx,tw]at a6;refine⟨λ_=>a3,λ_=>a6,λ_=>⟨oM,oM,oM,oM,yEt ?_⟩⟩;by_cases hl:c.label=[]
  ·exact .inl hl
  ·exact .inr (by simpa[hl]using a5)
 ·rename_i hk;split at h;·cases h
  split at h;·cases h
  rename_i a1 a2;refine⟨λh2=> ?_,λh2=> ?_,λh2=>absurd h2 hk⟩
  ·simpa[h2,kE]using a1
  ·simpa[show c.kind=4 by omega,vR]using a2
def yMw {n:Int} (h:gq n):RB.iY ⟨le n 8,ao⟩=(n,⟨[],ao⟩):=by
 have:=Mn h [];rwa [oL]at this
def yKs {s:List UInt8} (h:s.length<=255):RB.text ⟨l9 s,ao⟩=(s,⟨[],ao⟩):=by
 have:=yKm h [];rwa [oL]at this
def yQj {c:ib} (h:c.right=0):x5 c.kind c.id ⟨c.tail,ao⟩=(c.asks,⟨[],ao⟩):=by
 obtain⟨hk,hi,hq,hp,ho⟩:=tG h;rw[x5,ib.tail,ib.asks];by_cases h1:c.kind=1
 ·obtain⟨hs,ht,hl,hn,hb⟩:=ho h1;have hq:=hq oM;have hp:=hp (.inl h1);simp only[fc h1];rw[rL];dsimp only;rw[rL];dsimp only;rw[rL];dsimp only;rw[Mn ⟨by omega,by omega⟩];dsimp only;rw[Mn ⟨by omega,by omega⟩];dsimp only;rw[Mn ⟨by omega,by omega⟩];dsimp only;rw[yKs (by omega),J5 (by omega),J5 (by omega),J5 (by omega)]
 ·by_cases h3:c.kind=3
  ·have hq:=hq oM;simp only[h3,fc,ej,show ¬((3:Int)=1)by decide,show ¬((3:Int)=2)by decide,if_false,if_true];rw[yMw ⟨by omega,by omega⟩]
  ·by_cases h4:c.kind=4
   ·have hq:=hq oM;have hp:=hp (.inr h4);simp only[h4,show ¬((4:Int)=1)by decide,show ¬((4:Int)=2)by decide,show ¬((4:Int)=3)by decide,if_false,if_true];rw[Mn ⟨by omega,by omega⟩];dsimp only;rw[yMw ⟨by omega,by omega⟩]
   ·have h2:c.kind=2:=by omega
    simp only[h2,show ¬((2:Int)=1)by decide,show ¬((2:Int)=4)by decide,show ¬((2:Int)=3)by decide,if_false,if_true]
def z6z {c:ib} (h:c.right=0):c.asks.right=0:=by
 obtain⟨hk,hi,hq,hp,ho⟩:=tG h;rw[ib.asks];split
 ·exact h
 split
 ·rw[ib.right];simp only[];repeat (first|rw[ej (by omega)]|rw[ej (by decide)]|rw[ej (by simp)])
 split
 ·have:=hq oM;rw[ib.right];simp only[];rw[ej (by decide),ej (by omega),ej (by decide),ej (by simp[kE];omega),ej (by simp)]
 split
 ·have:=hq oM;have:=hp (.inr oM);rw[ib.right];simp only[];rw[ej (by decide),ej (by omega),ej (by decide),ej (by simp[kE];omega),ej (by simp[vR];omega)]
 ·omega
def ySl {c:ib} (h:c.right=0):xJ c.enc=(c.asks,0):=by
 obtain⟨hk,hi,_⟩:=tG h;have e:c.enc=jf c.kind::(le c.id 8++c.tail):=by rw[ib.enc,ej (by simp[h])]
 rw[xJ,e,rL];dsimp only;rw[J5 (by omega),ej (by omega),Mn ⟨by omega,by omega⟩];dsimp only;rw[yQj h];dsimp only;rw[ej (by simp[RB.ue]),ej (by rw[z6z h];simp)]
end Sx
