/- Texts of ours. No condition. -/
import Derived.Test.YtgmmlhddihaocaaGreatH8
set_option linter.all false
open List renaming map->aa,replicate->ab,take->ac
open Sx.fw renaming kh->ae,kg->af,cells->ag,sv->aj,own->ak
open Bool renaming false->am,true->ao,not_eq_false->ap
open Go.IntKind renaming i64->aq,wrap->ar,signed->au
open Option renaming some->av,none->aw
open Exists renaming intro->ax
open And renaming intro->ay
namespace Sx
set_option maxRecDepth 100000
open Go Cv Go.Proofs
def Uv (a:Nat->Prop) (b:Nat) (c:Nat->Nat) (d:Nat) (e:Ic) (f:vm):Prop:=a b/\c b<c d/\dm (ag [V.nm 1 0,V.own 2,V.own 3,V.mp 4,V.d (dI e.b.iN),V.d (dI e.b.iM),V.own 5,V.d (D.v (.bool e.b.gp)),V.d (D.v (.bool e.b.gj))] (273:TypeId))/\aj dw 3 zG f.a=aj dw 3 zG e.b.a/\QE e.b (dm (ak 3 1 (iE e.b.spare)))
def mK (a:Nat) (b:Ic):=(ac a (x7 b.L (zA am)))
def yXw (i:Ic):Prop:=
 ∃(a:Int),a=zA am/\True/\fp (du (kQ a) (ez (Qg i.b (aa my (x7 i.L (zA am))=[]/\True))) (∃(c:Nat),(↑c:Int)=0/\aa my (mK c i)=[]/\∃(d:Nat->Prop),∃(e:Nat->Nat),d c/\∀(f:Nat),d f->du (decide ((↑f:Int)<(↑(aa zC i.b.fv).length:Int))) ((0<=(↑f:Int)/\(↑f:Int)<(↑(aa zC i.b.fv).length:Int))/\∃(g:Int),∃(h:Int),zF (aa zC i.b.fv) (↑f:Int).toNat 0 2=av [dI g,dI h]/\∃(j:vm),Hh j h i.b (True/\fp (h=h/\True/\g=g/\∃(l:vm),l.n=h/\aj dw 3 zG l.a=aj dw 3 zG j.a/\True/\fp (g=g/\((aa my (mK f i)).length+1)*(24:Nat)<=(140737488355328:Nat)/\∃(n:Nat),(↑n:Int)=aq.wrap ((↑f:Int)+1)/\aa my (mK n i)=aa my (mK f i)++[[dI g,dI ((j.a.qx j.n).total),dI ((l.a.qx l.n).count)]]/\Uv d n e f i l)))) (ez (Qg i.b (aa my (x7 i.L (zA am))=aa my (mK f i)/\True)))))
def mT (a:Nat) (b:Ic):=(ac a (x7 b.L (zA ao)))
def yXk (i:Ic):Prop:=
 ∃(a:Int),a=zA ao/\True/\fp (du (kQ a) (ez (Qg i.b (aa my (x7 i.L (zA ao))=[]/\True))) (∃(c:Nat),(↑c:Int)=0/\aa my (mT c i)=[]/\∃(d:Nat->Prop),∃(e:Nat->Nat),d c/\∀(f:Nat),d f->du (decide ((↑f:Int)<(↑(aa zC i.b.ff).length:Int))) ((0<=(↑f:Int)/\(↑f:Int)<(↑(aa zC i.b.ff).length:Int))/\∃(g:Int),∃(h:Int),zF (aa zC i.b.ff) (↑f:Int).toNat 0 2=av [dI g,dI h]/\∃(j:vm),Hh j h i.b (True/\fp (h=h/\True/\g=g/\∃(l:vm),l.n=h/\aj dw 3 zG l.a=aj dw 3 zG j.a/\True/\fp (g=g/\((aa my (mT f i)).length+1)*(24:Nat)<=(140737488355328:Nat)/\∃(n:Nat),(↑n:Int)=aq.wrap ((↑f:Int)+1)/\aa my (mT n i)=aa my (mT f i)++[[dI g,dI ((j.a.qx j.n).total),dI ((l.a.qx l.n).count)]]/\Uv d n e f i l)))) (ez (Qg i.b (aa my (x7 i.L (zA ao))=aa my (mT f i)/\True)))))
def sZ (a:Nat×iS->Prop) (b:Nat×iS) (c:ia) (d:Nat) (e:dt):Prop:=a b/\dm (ak 3 1 [[dI 1],[dI 2]])/\dm (x5 c 0)/\af 211 dt 6 zR (c.fc.set (↑d:Int).toNat e) aw=x5 c 1/\dm (x5 c 2)/\dm (x5 c 3)/\dm (x5 c 4)
def Z' (a:ia) (b:Nat×iS) (c:Nat×iS->Prop) (d:Nat) (e:dt):Prop:=∃(f:Nat×iS),aa zY (x6 a f.fst f.snd)=aa zY (x6 a b.fst b.snd)/\sZ c f a d e
def yLf (s:ia):Prop:=
 (US s)/\∃(a:Nat),(↑a:Int)=0/\aa zY (qI s a)=ab (↑s.fc.length:Int).toNat [D.v (.bool am),D.v (.bool am),dI 0,dI 0,dI 0,dI 0]/\∃(b:Nat->Prop),∃(c:Nat->Nat),b a/\∀(d:Nat),b d->du (decide ((↑d:Int)<(↑s.fc.length:Int))) ((0<=(↑d:Int)/\(↑d:Int)<(↑s.fc.length:Int))/\(↑d:Int).toNat<s.fc.length/\∃(e:Nat×iS),aa zY (x6 s e.fst e.snd)=aa zY (qI s d)/\∃(f:Nat×iS->Prop),(((0:Int)<=(0:Int)/\0<(↑(2:Nat):Int))/\∃(g:Int),zF [[dI 1],[dI 2]] (Int.toNat 0) 0 1=av [dI g]/\∃(h:dt),s.fc[(↑d:Int).toNat]?=av h/\∃(j:Ap),zA j.side=g/\yE j.b=yE h/\(uD j)/\fp (∃(l:dt),QW j l d s (du (z8 j).snd (QU d s e j (∃(m:Nat×iS),aa zY (x6 s m.fst m.snd)=zX (bU s e d j) (↑d:Int).toNat 4 [dI (gR j)]/\sZ f m s d l)) (Z' s e f d l))))/\∀(g:Nat×iS),f g->∃(h:Nat×iS),aa zY (x6 s h.fst h.snd)=aa zY (x6 s g.fst g.snd)/\∃(j:Nat×iS->Prop),((dB)/\∃(k:Int),zF [[dI 1],[dI 2]] (aq.wrap ((0:Int)+(1:Int))).toNat 0 1=av [dI k]/\∃(l:dt),s.fc[(↑d:Int).toNat]?=av l/\∃(m:Ap),zA m.side=k/\yE m.b=yE l/\(uD m)/\fp (∃(p:dt),QW m p d s (du (z8 m).snd (QV d s h m (∃(q:Nat×iS),aa zY (x6 s q.fst q.snd)=zX (bL s h d m) (↑d:Int).toNat 5 [dI (gR m)]/\sZ j q s d p)) (Z' s h j d p))))/\∀(k:Nat×iS),j k->∃(l:Nat),(↑l:Int)=aq.wrap ((↑d:Int)+1)/\aa zY (qI s l)=aa zY (x6 s k.fst k.snd)/\b l/\c l<c d/\dm (x5 s 0)/\dm (x5 s 1)/\dm (x5 s 2)/\dm (x5 s 3)/\dm (x5 s 4)) (ez (Qc s.p (af 211 dt 6 zR s.fc aw=x5 s 1/\dm (z5 s.wh)/\ae 1 (iE s.p.dr)=x5 s 3/\ae 1 (iE s.p.settle)=x5 s 4/\aa zY s.fm=aa zY (qI s d)/\True)))
@[reducible] def Q6 (a b:fj)(R:Prop):Prop:=ae 1 (iE a.dr)=ae 1 (iE b.dr)/\ae 1 (iE a.settle)=ae 1 (iE b.settle)/\R
def zFv (a:ia) (b:A9):Prop:=Q6 a.p b.s.p (a.fy b.p (yZ b.B b.id b.q).fst)
def zEh (a:ia) (b:A9):Prop:=z5 a.wh=z5 b.s.wh/\zFv a b
def tP (a:A9) (b:Int) (c:Bool):Prop:=kH (Value.int aq a.id) (z5 a.s.wh)=av [dI b]/\c=ao\/kH (Value.int aq a.id) (z5 a.s.wh)=aw/\[dI b]=[dI 0]/\c=am
def mY (a:A9):Prop:=∀(b:Value×List D),b∈z5 a.s.wh->kr (Value.int aq a.id) b.fst=ao
@[reducible] def Qb (a b:fj)(R:Prop):Prop:=sb a.code=sb b.code/\a.tick=b.tick/\a.low=b.low/\a.high=b.high/\a.wide=b.wide/\a.gw=b.gw/\a.top=b.top/\a.least=b.least/\a.part=b.part/\R
def yLq (i:A9):Prop:=
 (mY i)/\∃(a:Bool),∃(b:Int),(tP i b a)/\du (!a) (∃(c:ia),(yZ i.B i.id i.q).snd=26/\Qb c.p i.s.p (af 211 dt 6 zR c.fc aw=af 211 dt 6 zR i.s.fc aw/\zEh c i)) ((0<=b/\b<(↑i.s.fc.length:Int))/\b.toNat<i.s.fc.length/\∃(c:dt),i.s.fc[b.toNat]?=av c/\∃(d:Cr),d.id=i.id/\d.dq=i.q/\yE d.b=yE c/\d.b.fy d.L/\∀(e:dt),e.fy (x4 d.L d.id d.dq).fst->∃(f:dt),yE e=yE f/\EK b i.s.fc ((0<=b/\b<(↑(i.s.fc.set b.toNat f).length:Int))/\b.toNat<(i.s.fc.set b.toNat f).length/\∃(g:dt),(i.s.fc.set b.toNat f)[b.toNat]?=av g/\∃(h:Cr),h.id=i.id/\yE h.b=yE g/\h.b.fy h.L/\fp (∃(k:dt),yE h.b=yE k/\dm b.toNat/\b.toNat<(i.s.fc.set b.toNat f).length/\du (!kW h.L h.id) ((mY i)/\∃(l:ia),(yZ i.B i.id i.q).snd=(x4 d.L d.id d.dq).snd/\Qb l.p i.s.p (af 211 dt 6 zR l.fc aw=af 211 dt 6 zR ((i.s.fc.set b.toNat f).set b.toNat k) aw/\z5 l.wh=rC (Value.int aq i.id) (z5 i.s.wh)/\zFv l i)) (∃(l:ia),(yZ i.B i.id i.q).snd=(x4 d.L d.id d.dq).snd/\Qb l.p i.s.p (af 211 dt 6 zR l.fc aw=af 211 dt 6 zR ((i.s.fc.set b.toNat f).set b.toNat k) aw/\zEh l i)))))
def y9l (i:Ic) (h:J4.du i):yXw i:=by
 obtain⟨Q,c,ht,hL⟩:i.b.fy i.L:=h;have xx:=c.small;obtain⟨⟨ha1,ha2⟩,qu,oG,te⟩:=id xx;have AU:=c.lad (.inl rfl);rw[<- hL]at AU;have AU:x7 i.L (zA am)=i.b.fv.map i.b.told:=AU;unfold yXw Hh fp ez Qg Uv QE mK kQ dI;simp only[AU,iz];refine⟨1,rfl,trivial,λ_ _=>Cv.du.mk (λe=>absurd e Z8) λ_=>⟨0,by(first|exact rfl|exact trivial),by(first|exact rfl|exact trivial),λj=>j<=i.b.fv.length,λj=>i.b.fv.length-j,oQ _,λj hj=>zI (λe=> ?_) (λe=> ?_)⟩⟩
 ·obtain⟨r,hr⟩:=z6 (l:=i.b.fv) (i:=j) oM;have hi:=c.EJ;refine⟨⟨oM,oM⟩,r.dp,r.queue,kf hr (by simp[zC]) rfl,⟨i.b.a,r.queue⟩,by(first|exact rfl|exact trivial),by(first|exact rfl|exact trivial),trivial,λ_ _=>⟨by(first|exact rfl|exact trivial),by(first|exact rfl|exact trivial),by(first|exact rfl|exact trivial),⟨i.b.a,r.queue⟩,by(first|exact rfl|exact trivial),by(first|exact rfl|exact trivial),by(first|exact rfl|exact trivial),λ_ _=>⟨by(first|exact rfl|exact trivial),by simp only[oK,iz];omega,j+1,um oM,?_,oM,Z9,ic⟩⟩⟩;have PW:(i.b.fv.map i.b.told)[j]? =av (i.b.told r):=by rw[uz,hr];rfl
  rw[tv,PW];simp[my,dt.told]
 ·rw[oV (by rw[iz];omega)];exact⟨(),ic⟩
def yUr:J4.ok Tryz.prog 148:=ix mixed (dz I0 (dz YJ (dz rO fx))) 1 (λ_=>[]) (λi=>y8i am i) [0] Tryz.func148 y9l
def xAb (i:Ic) (h:J3.du i):yXk i:=by
 obtain⟨Q,c,ht,hL⟩:i.b.fy i.L:=h;have xx:=c.small;obtain⟨⟨ha1,ha2⟩,qu,oG,te⟩:=id xx;have AU:=c.lad (.inr rfl);rw[<- hL]at AU;have AU:x7 i.L (zA ao)=i.b.ff.map i.b.told:=AU;unfold yXk Hh fp ez Qg mT Uv QE kQ dI;simp only[AU,iz];refine⟨2,rfl,trivial,λ_ _=>Cv.du.mk (λe=>absurd e Z8) λ_=>⟨0,by(first|exact rfl|exact trivial),by(first|exact rfl|exact trivial),λj=>j<=i.b.ff.length,λj=>i.b.ff.length-j,oQ _,λj hj=>zI (λe=> ?_) (λe=> ?_)⟩⟩
 ·obtain⟨r,hr⟩:=z6 (l:=i.b.ff) (i:=j) oM;have hi:=c.EJ;refine⟨⟨oM,oM⟩,r.dp,r.queue,kf hr (by simp[zC]) rfl,⟨i.b.a,r.queue⟩,by(first|exact rfl|exact trivial),by(first|exact rfl|exact trivial),trivial,λ_ _=>⟨by(first|exact rfl|exact trivial),by(first|exact rfl|exact trivial),by(first|exact rfl|exact trivial),⟨i.b.a,r.queue⟩,by(first|exact rfl|exact trivial),by(first|exact rfl|exact trivial),by(first|exact rfl|exact trivial),λ_ _=>⟨by(first|exact rfl|exact trivial),by simp only[oK,iz];omega,j+1,um oM,?_,oM,Z9,ic⟩⟩⟩;have PW:(i.b.ff.map i.b.told)[j]? =av (i.b.told r):=by rw[uz,hr];rfl
  rw[tv,PW];simp[my,dt.told]
 ·rw[oV (by rw[iz];omega)];exact⟨(),ic⟩
def yTy:J3.ok Tryz.prog 148:=ix mixed (dz I0 (dz YJ (dz rO fx))) 1 (λ_=>[]) (λi=>y8i ao i) [0] Tryz.func148 xAb
def y3t:aam.ok Tryz.prog 148:=λj=>match j with
 |⟨b,L,am⟩=>yUr ⟨b,L⟩
 |⟨b,L,ao⟩=>yTy ⟨b,L⟩
def y1u (s:ia) (h:FQ.du s):yLf s:=by
 obtain⟨h1,h2⟩:s.nw:=h;unfold yLf QU QV QW fp ez Qc gR kO uD cK dB mL mS US zBu bU mO zCs bL c9 z8 mH g8 Z' sZ dI;have PA:(2:Int) ^ (48:Nat)=281474976710656:=by decide
 refine⟨⟨oM,oM,oM,by rw[PA];omega⟩,0,rfl,?_,λj=>j<=s.fc.length,λj=>s.fc.length-j,oM,λj hj=>zI (λiq=> ?_) (λiq=> ?_)⟩
 ·rw[qI,jz,Nl];rfl
 ·have oF:j<s.fc.length:=by omega
  obtain⟨b,hb⟩:=z6 oF;have hc:=h2 b (mc hb);simp only[ml];have ha:∀x,(aa zY (x6 s j x)).length=s.fc.length:=λx=>by rw[iz,zRp oF]
  have w1:aq.wrap (0+1)=1:=by decide
  have w2:(0+1) % ((2:Int) ^ aq.bits).natAbs=1:=by decide
  refine⟨⟨oM,oM⟩,oM,(j,fq),by rw[zNx oF],λx=>x=(j,fq.Dc (b.iA b.fv)),⟨⟨Z8,Z8⟩,1,rfl,b,hb,⟨am,b⟩,rfl,rfl,hc,λ_ _=>⟨b,rfl,kp,oM,?_⟩⟩,?_⟩
  ·refine Cv.du.mk (λc=> ?_) (λc=> ?_)
   ·have c:(b.iA b.fv).2=ao:=c;have e1:=kR (s:=s) oF (x:=fq) (y:={fq with gp:=ao}) (f:=0+0+0*1) (ds:=[D.v (.bool ao)]) rfl;have e2:=kR (s:=s) oF (x:={fq with gp:=ao}) (y:={fq with gp:=ao,p1:=(b.iA b.fv).1.dp}) (f:=0+2+0*1) (ds:=[D.v (.int .i64 (b.iA b.fv).1.dp)]) rfl;have e3:=kR (s:=s) oF (x:={fq with gp:=ao,p1:=(b.iA b.fv).1.dp}) (y:={fq with gp:=ao,p1:=(b.iA b.fv).1.dp,q1:=(b.iA b.fv).1.dq}) (f:=0+4+0*1) (ds:=[D.v (.int .i64 (b.iA b.fv).1.dq)]) rfl;dsimp only;simp only[show b.side am=b.fv from rfl,e1,e2,e3,ha]
    (repeat'(first|exact rfl|exact trivial|assumption|apply ay|refineλ(_:Unit) (_:True)=>?_|refine ax () ?_|omega|(dsimp only;omega)))
    refine⟨(j,{fq with gp:=ao,p1:=(b.iA b.fv).1.dp,q1:=(b.iA b.fv).1.dq}),rfl,?_,?_⟩
    ·rw[iS.Dc,fk c]
    ·(repeat'(first|exact rfl|exact trivial|assumption|apply ay|refineλ(_:Unit) (_:True)=>?_|refine ax () ?_|omega|(dsimp only;omega)))
     rw[cJ hb];rfl
   ·have c:(b.iA b.fv).2=am:=c;refine⟨(j,fq),rfl,?_,?_⟩
    ·rw[iS.Dc,dx (by rw[c];simp)]
    ·(repeat'(first|exact rfl|exact trivial|assumption|apply ay|refineλ(_:Unit) (_:True)=>?_|refine ax () ?_|omega|(dsimp only;omega)))
     rw[cJ hb];rfl
  ·rintro _ rfl;rw[w1];generalize hx:fq.Dc (b.iA b.fv)=x;have PG:b.top=x.xz (b.iA b.ff):=by rw[dt.top,hx]
   refine⟨(j,x),rfl,λy=>y=(j,b.top),⟨⟨Z8,Z8⟩,2,rfl,b,hb,⟨ao,b⟩,rfl,rfl,hc,λ_ _=>⟨b,rfl,kp,oM,?_⟩⟩,?_⟩
   ·refine Cv.du.mk (λc=> ?_) (λc=> ?_)
    ·have c:(b.iA b.ff).2=ao:=c;have e1:=kR (s:=s) oF (x:=x) (y:={x with gj:=ao}) (f:=0+0+1*1) (ds:=[D.v (.bool ao)]) rfl;have e2:=kR (s:=s) oF (x:={x with gj:=ao}) (y:={x with gj:=ao,p2:=(b.iA b.ff).1.dp}) (f:=0+2+1*1) (ds:=[D.v (.int .i64 (b.iA b.ff).1.dp)]) rfl;have e3:=kR (s:=s) oF (x:={x with gj:=ao,p2:=(b.iA b.ff).1.dp}) (y:={x with gj:=ao,p2:=(b.iA b.ff).1.dp,q2:=(b.iA b.ff).1.dq}) (f:=0+4+1*1) (ds:=[D.v (.int .i64 (b.iA b.ff).1.dq)]) rfl;dsimp only;simp only[w2,show b.side ao=b.ff from rfl,e1,e2,e3,ha]
     (repeat'(first|exact rfl|exact trivial|assumption|apply ay|refineλ(_:Unit) (_:True)=>?_|refine ax () ?_|omega|(dsimp only;omega)))
     refine⟨(j,{x with gj:=ao,p2:=(b.iA b.ff).1.dp,q2:=(b.iA b.ff).1.dq}),rfl,?_,?_⟩
     ·rw[PG,iS.xz,fk c]
     ·(repeat'(first|exact rfl|exact trivial|assumption|apply ay|refineλ(_:Unit) (_:True)=>?_|refine ax () ?_|omega|(dsimp only;omega)))
      rw[cJ hb];rfl
    ·have c:(b.iA b.ff).2=am:=c;refine⟨(j,x),rfl,?_,?_⟩
     ·rw[PG,iS.xz,dx (by rw[c];simp)]
     ·(repeat'(first|exact rfl|exact trivial|assumption|apply ay|refineλ(_:Unit) (_:True)=>?_|refine ax () ?_|omega|(dsimp only;omega)))
      rw[cJ hb];rfl
   ·rintro _ rfl;refine⟨j+1,by rw[iD (by omega)];rfl,?_⟩;refine⟨by dsimp only;rw[zNo hb],?_⟩;exact kp
 ·have hj:j<=s.fc.length:=hj;obtain rfl:j=s.fc.length:=by omega
  have e:qI s s.fc.length=s.fm:=by
   rw[qI,Hx,List.replicate_zero,pd,oV (by rw[ia.fm,iz];omega)]
  rw[e];exact kp
def z4z:FQ.ok Tryz.prog 59:=ix mixed (dz TL fx) 0 (λs=>yYh s) (λs=>yXl s) [] Tryz.func59 y1u
def y0t (i:A9) (h:FV.du i):yLq i:=by
 obtain⟨hR,hB⟩:i.s.fy i.p i.B/\i.B.length<=1000:=h;have uf:=hR.at_ i.id;unfold yLq EK Qb fp mY tP zEh zFv Q6 dI;cases hi:dZ i.B i.id with
 |none=>
  rw[hi]at uf;refine⟨jG _ _,am,0,.inr ⟨by rw[rL,uf];rfl,rfl,rfl⟩,Cv.du.mk (λ_=>⟨i.s,?_⟩) (λe=>absurd e Z8)⟩;have ht:yZ i.B i.id i.q=(i.B,26):=by rw[yZ,hi]
  rw[ht];exact(iH (oE hR))
 |some k=>
  rw[hi]at uf;obtain⟨L,hL,hh⟩:=xR hi;have hk:=(ju.1 hL).1;obtain⟨b,hb⟩:=z6 (l:=i.s.fc) (i:=k) (by rw[hR.bl];exact hk);have DX:=hR.bk k b L hb hL;have wg:=hR.bl;have ry:=DX.oI.2.1;refine⟨jG _ _,ao,k,.inl ⟨by rw[rL,uf];rfl,rfl⟩,Cv.du.mk (λe=>absurd e Z8) (λ_=> ?_)⟩;rw[ml];refine⟨⟨oM,oM⟩,oM,b,hb,⟨b,L,i.id,i.q⟩,rfl,rfl,rfl,DX,λb' Ao=> ?_⟩;have hT:=hR.take (q:=i.q) hi hL ry Ao;have tf:(yZ i.B i.id i.q).2=(x4 L i.id i.q).2:=by simp only[yZ,hi,zJ hL]
  refine⟨b',rfl,rfl,oM,by rw[rj];omega,by rw[rj];omega,b',uM oM,⟨b',(x4 L i.id i.q).1,i.id,0⟩,rfl,rfl,Ao,λ_ _=>⟨b',rfl,rfl,by rw[rj];omega,Cv.du.mk (λe=>⟨jG _ _,?_⟩) (λe=> ?_)⟩⟩
  ·have e:kW (x4 L i.id i.q).1 i.id=am:=by simpa using e
   rw[e,dx (by decide)]at hT;refine⟨{i.s with fc:=i.s.fc.set k b',wh:=DK i.id i.s.wh},tf,iH ⟨rfl,?_,(XJ _ _).symm,rfl,rfl,hT⟩⟩;rw[Et]
  ·have e:kW (x4 L i.id i.q).1 i.id=ao:=by simpa using e
   rw[e,fk rfl]at hT;refine⟨{i.s with fc:=i.s.fc.set k b',wh:=i.s.wh},tf,iH ⟨rfl,?_,rfl,rfl,rfl,hT⟩⟩;rw[Et]
def T9:FV.ok Tryz.prog 199:=ix mixed (dz yTx (dz z3m fx)) 0 (λ_=>[]) (λ_=>[]) [0] Tryz.func199 y0t
structure jo (p:fj) (B:List (List zE)):Prop where
 pc:p.check=0
 ps:p.small
 bl:B.length=p.count
 pr:∀(k:Nat) (L:List zE),B[k]? =av L->∀o∈L,p.dp k o.dp=0
def IB:gx:=gh Bool (λb=>[zB (zA b)]) (λ_=>[]) (λ_=>True) (λb=>zB (zA (!b))) (λ_=>[])
def wA (s:Bool) (p x:Int):Bool:=if s then decide (p<=x)else decide (x<=p)
structure RA where
 s:Bool
 p:Int
 x:Int
def Me:gx:=gh RA (λi=>[zB (zA i.s),zB i.p,zB i.x]) (λ_=>[]) (λ_=>True) (λi=>y4 (wA i.s i.p i.x)) (λ_=>[])
def z7 (p:fj) (B:List (List zE)) (inst:Int) (s:Int):Quote×Bool×Bool:=
 let bq:=zN (yC ⟨p,B.map yS,inst⟩ s) s
 let l:=gm (B.getD inst.toNat []) s
 if(l.2 && !(bq.2 && jj s bq.1.dp l.1.dp))=ao then(⟨l.1.dp,l.1.dq,⟨0,0⟩,⟨0,0⟩⟩,am,ao)else(bq.1,bq.2,bq.2)
structure EM where
 s:ia
 p:fj
 B:List (List zE)
 inst:Int
 sd:Bool
def JW:gx:=gh EM (λi=>[.nm 0 0,zB i.inst,zB (zA i.sd)]) (λi=>[zD i.s]) (λi=>i.s.fy i.p i.B/\jo i.p i.B/\0<=i.inst/\i.inst<i.B.length)
 (λi=> .jm [Tp (z7 i.p i.B i.inst (zA i.sd)).1,y4 (z7 i.p i.B i.inst (zA i.sd)).2.1,y4 (z7 i.p i.B i.inst (zA i.sd)).2.2]) (λi=>[zD i.s])
structure uV where
 id:Int
 inst:Int
 side:Int
 dp:Int
 dq:Int
 left:Int
 deriving DecidableEq
def y5 (f:uV):List D:=[.v (.int .i64 f.id),.v (.int .i64 f.inst),.v (.int .i64 f.side),.v (.int .i64 f.dp),.v (.int .i64 f.dq),.v (.int .i64 f.left)]
def yM (inst s:Int):List zE->List Int->List uV
 |o::os,k::ks=>if 0<k then⟨o.id,inst,s,o.dp,k,o.dq-k⟩::yM inst s os ks else yM inst s os ks
 |_,_=>[]
def y8 (B:List (List zE)) (fs:List uV):List (List zE):=fs.foldl (λB f=>(yZ B f.id f.dq).1) B
def MM (B:List (List zE)) (inst s:Int):List zE:=qy (B.getD inst.toNat []) s (gm (B.getD inst.toNat []) s).1.dp
def xA (p:fj) (B:List (List zE)) (inst s q:Int):List uV:=yM inst s (MM B inst s) (qU ⟨p,MM B inst s,q⟩)
structure AJ where
 s:ia
 p:fj
 B:List (List zE)
 inst:Int
 sd:Bool
 q:Int
def AJ.os (i:AJ):List zE:=MM i.B i.inst (zA i.sd)
def AJ.sh (i:AJ):List Int:=qU ⟨i.p,i.os,i.q⟩
def AJ.fs (i:AJ) (j:Nat):List uV:=yM i.inst (zA i.sd) (i.os.take j) (i.sh.take j)
def FP:gx where
 ι:=AJ
 pat:=λi=>[.nm 0 0,.agg [zB i.inst,zB (zA i.sd)],zB i.q]
 pre:=λi=>[zD i.s]
 du:=λi=>i.s.fy i.p i.B/\jo i.p i.B/\0<=i.inst/\i.inst<i.B.length/\ie i.q
 alts:=λi=>[{o:=ia,res:=λ_=> .own 1,post:=λs=>[zD s,.own 346 6 ((xA i.p i.B i.inst (zA i.sd) i.q).map y5)],rel:=λs=>s.fy i.p (y8 i.B (xA i.p i.B i.inst (zA i.sd) i.q))}]
def yZy (i:AJ):List ib:=[{ι:=Nat×ia,dv:=λj=>[(0,.nm 0 0),(11,.own 1),(44,zB j.1)],rows:=λj=>[zD j.2,.own 346 6 ((i.fs j.1).map y5)]}]
def yDe (b:Bool):Prop:=
 ez ((zA !b)=aq.wrap (3-zA b)/\True)
def yQx (i:RA):Prop:=
 du (zA i.s==1) (du (decide (i.x<=i.p)) (ez (wA i.s i.p i.x=ao/\True)) (du (zA i.s==2) (ez (wA i.s i.p i.x=decide (i.x>=i.p)/\True)) (ez (wA i.s i.p i.x=am/\True)))) (du (zA i.s==2) (ez (wA i.s i.p i.x=decide (i.x>=i.p)/\True)) (ez (wA i.s i.p i.x=am/\True)))
def ZH (a:ia) (b:EM):Prop:=sb a.p.code=sb b.s.p.code/\True/\Qp a.p b.s.p (True/\True)
def Ze (a:EM) (b:ia) (c:dt):Prop:=Qb a.s.p b.p (af 211 dt 6 zR a.s.fc aw=af 211 dt 6 zR (b.fc.set a.inst.toNat c) aw/\z5 a.s.wh=z5 b.wh/\Q6 a.s.p b.p (True))
def yD (a:EM):=(z7 a.p a.B a.inst (zA a.sd))
def XC (a:EM) (b:yy) (c:ia) (d:dt):Prop:=ez ((yD a).fst.dp=(zN b.l b.s).fst.dp/\(yD a).fst.dq=(zN b.l b.s).fst.dq/\(yD a).fst.a.inst=(zN b.l b.s).fst.a.inst/\(yD a).fst.a.side=(zN b.l b.s).fst.a.side/\(yD a).fst.b.inst=(zN b.l b.s).fst.b.inst/\(yD a).fst.b.side=(zN b.l b.s).fst.b.side/\(yD a).snd.fst=(zN b.l b.s).snd/\(yD a).snd.snd=(zN b.l b.s).snd/\Ze a c d)
def Yv (a:EM) (b:Ap) (c:ia) (d:dt):Prop:=ez ((yD a).fst.dp=(z8 b).fst.dp/\(yD a).fst.dq=(z8 b).fst.dq/\(yD a).fst.a.inst=0/\(yD a).fst.a.side=0/\(yD a).fst.b.inst=0/\(yD a).fst.b.side=0/\(yD a).snd.fst=am/\(yD a).snd.snd=ao/\Ze a c d)
def TQ (a:tW) (b:EM) (c:ia):Prop:=∃(d:yy),aa zK d.l=aa zK (yC a.i (zA a.s))/\d.s=zA b.sd/\(wP d)/\fp ((0<=b.inst/\b.inst<(↑c.fc.length:Int))/\b.inst.toNat<c.fc.length/\∃(f:dt),c.fc[b.inst.toNat]?=av f/\∃(g:Ap),zA g.side=zA b.sd/\yE g.b=yE f/\(uD g)/\fp (∃(j:dt),yE g.b=yE j/\EK b.inst c.fc (du (z8 g).snd (du (zN d.l d.s).snd (∃(k:D4),k.side=zA b.sd/\k.x=(zN d.l d.s).fst.dp/\k.y=(z8 g).fst.dp/\True/\fp (du (!jj k.side k.x k.y) (Yv b g c j) (XC b d c j))) (Yv b g c j)) (XC b d c j))))
@[reducible] def Qm (a:bM)(b c:ia)(R:Prop):Prop:=sb a.p.code=sb b.p.code/\iE a.p.dr=iE c.p.dr/\a.p.tick=b.p.tick/\a.p.low=b.p.low/\a.p.high=b.p.high/\a.p.wide=b.p.wide/\a.p.gw=b.p.gw/\a.p.top=b.p.top/\a.p.least=b.p.least/\a.p.part=b.p.part/\iE a.p.settle=iE c.p.settle/\aa zY a.fm=aa zY c.fm/\R
def Xc (a:ia) (b:EM):Prop:=(ZH a b)/\∃(c:tW),Qm c.i b.s a (c.i.inst=b.inst/\zA c.s=zA b.sd/\(qD c)/\fp (TQ c b a))
@[reducible] def QA (a b:ia)(R:Prop):Prop:=af 211 dt 6 zR a.fc aw=af 211 dt 6 zR b.fc aw/\z5 a.wh=z5 b.wh/\ae 1 (iE a.p.dr)=ae 1 (iE b.p.dr)/\ae 1 (iE a.p.settle)=ae 1 (iE b.p.settle)/\R
def yYm (i:EM):Prop:=
 (∃(a:ia),Qb a.p i.s.p (QA a i.s ((vS a)/\fp ((ZH a i)/\(∃(c:tW),Qm c.i i.s a (c.i.inst=i.inst/\zA c.s=zA i.sd/\(qD c)/\fp ((TQ c i a)/\TQ c i a)))/\Xc a i))))/\(Qi i.s.p (True))/\∃(a:ia),Qb a.p i.s.p (QA a i.s ((vS a)/\fp (Xc a i)))
def nE (a:Ig):=(aa uA (qy a.L (zA a.s) a.dp))
def ZM (a:Nat×ia->Prop) (b:Nat×ia) (c:Nat×ia->Nat) (d:Nat×ia) (e:Cs) (f:Ig) (g:Ap) (h:AJ):Prop:=a b/\c b<c d/\dm (ak 2 1 (iE (qU e)))/\dm (ae 5 (nE f))/\dm (ag [V.d (dI (c9 g)),V.d (dI (gR g)),V.d (dI ((z8 g).fst.count))] 177)/\dm (ag [V.d (dI h.inst),V.d (dI (zA h.sd))] 125)/\dm (ae 1 (iE h.s.p.dr))/\dm (ae 1 (iE h.s.p.settle))
def fW (a:AJ):=(xA a.p a.B a.inst (zA a.sd) a.q)
def bH (a:AJ):=(y8 a.B (fW a))
def yRi (i:AJ):Prop:=
 (0<=i.inst/\i.inst<(↑i.s.fc.length:Int))/\i.inst.toNat<i.s.fc.length/\∃(a:dt),i.s.fc[i.inst.toNat]?=av a/\∃(b:Ap),zA b.side=zA i.sd/\yE b.b=yE a/\(uD b)/\fp (∃(d:dt),yE b.b=yE d/\EK i.inst i.s.fc (∃(e:dt),(i.s.fc.set i.inst.toNat d)[i.inst.toNat]?=av e/\∃(f:Ig),zA f.s=zA i.sd/\f.dp=(z8 b).fst.dp/\yE f.b=yE e/\f.b.fy f.L/\fp (∃(h:dt),yE f.b=yE h/\dm i.inst.toNat/\i.inst.toNat<(i.s.fc.set i.inst.toNat d).length/\∃(j:Cs),Qa j.p i.s.p (aa uA j.l=aa uA (qy f.L (zA f.s) f.dp)/\j.q=i.q/\(j.l.length<=1000/\((-9223372036854775808)<=j.q/\j.q<=9223372036854775807)/\((-9223372036854775808)<=j.p.least/\j.p.least<=9223372036854775807)/\((-9223372036854775808)<=j.p.top/\j.p.top<=9223372036854775807)/\(-9223372036854775808)<=j.p.part/\j.p.part<=9223372036854775807)/\fp (∃(l:Nat×ia),(↑l.fst:Int)=0/\Qb l.snd.p i.s.p (af 211 dt 6 zR l.snd.fc aw=af 211 dt 6 zR ((i.s.fc.set i.inst.toNat d).set i.inst.toNat h) aw/\z5 l.snd.wh=z5 i.s.wh/\Q6 l.snd.p i.s.p (aa y5 (i.fs l.fst)=[]/\∃(m:Nat×ia->Prop),∃(n:Nat×ia->Nat),m l/\∀(p:Nat×ia),m p->du (decide ((↑p.fst:Int)<(↑(iE (qU j)).length:Int))) ((0<=(↑p.fst:Int)/\(↑p.fst:Int)<(↑(iE (qU j)).length:Int))/\∃(q:Int),zF (iE (qU j)) (↑p.fst:Int).toNat 0 1=av [dI q]/\du (decide (q>0)) ((0<=(↑p.fst:Int)/\(↑p.fst:Int)<(↑(nE f).length:Int))/\∃(r:Int),∃(s:Int),∃(t:Int),∃(u:Int),∃(v:Bool),zF (nE f) (↑p.fst:Int).toNat 0 5=av [dI r,dI s,dI t,dI u,D.v (.bool v)]/\∃(w:A9),w.id=r/\w.q=q/\zD w.s=zD p.snd/\(w.s.fy w.p w.B/\w.B.length<=1000)/\∀(x:ia),x.fy w.p (yZ w.B w.id w.q).fst->((aa y5 (i.fs p.fst)).length+1)*(48:Nat)<=(140737488355328:Nat)/\∃(y:Nat×ia),(↑y.fst:Int)=aq.wrap ((↑p.fst:Int)+1)/\zD y.snd=zD x/\aa y5 (i.fs y.fst)=aa y5 (i.fs p.fst)++[[dI r,dI i.inst,dI (zA i.sd),dI t,dI q,dI (aq.wrap (u-q))]]/\ZM m y n p j f b i) (∃(r:Nat×ia),(↑r.fst:Int)=aq.wrap ((↑p.fst:Int)+1)/\zD r.snd=zD p.snd/\aa y5 (i.fs r.fst)=aa y5 (i.fs p.fst)/\ZM m r n p j f b i)) (∃(q:ia),zD q=zD p.snd/\aa y5 (fW i)=aa y5 (i.fs p.fst)/\q.fy i.p (bH i)))))))))
def OM {p:fj} (hc:p.check=0) {k v:Int} (h:p.dp k v=0): -2000000<=v/\v<=2000000:=by
 have ok:=qF hc;have:=ok.b1;have:=ok.b2;have:=ok.b3;have:=ok.b4;have:=ok.b5;rw[fj.dp]at h;by_cases c1:p.count=0
 ·rw[fk c1]at h;cases h
 by_cases c2:k<0\/(p.count:Int)<=k
 ·rw[dx c1,fk c2]at h;cases h
 cases c3:kC p.tick v with
 |true=>rw[dx c1,dx c2,fk c3]at h;cases h
 |false=>
  rw[dx c1,dx c2,dx (by rw[c3];decide)]at h;by_cases c4:(p.dr.length:Int)<=k
  ·simp only[fk c4]at h;by_cases c5:v< -p.wide\/p.wide<v
   ·rw[fk c5]at h;cases h
   ·omega
  ·simp only[dx c4]at h;by_cases c5:v<p.low\/p.high<v
   ·rw[fk c5]at h;cases h
   ·omega
def MN {t:Int} (k:Int):kC t (t*k)=am:=by
 simp[kC,Int.mul_tmod_right]
def zNc (x:fj):(iw x).small:=by
 have:=yQk x;refine⟨by simp[iw],?_,?_⟩
 ·show(qP _).length<=_;rw[zAc];omega
 ·show(kZ _ _).length<=_;rw[pN];omega
def pT (x:fj):(iw x).check=0:=by
 have ht:=Um x;have hn:=yQk x;have hw:=yY (n:=x.wide) (lo:=0) (hi:=60) oM;have hr:=yY (n:=x.gw) (lo:=0) (hi:=2) oM;have ho:=yY (n:=x.top) (lo:=0) (hi:=9) oM;have hl:=yY (n:=x.least) (lo:=0) (hi:=4) oM;have hp:=yY (n:=x.part) (lo:=0) (hi:=100) oM;have h1:vB (iw x).code=ao:=by show vB [206,169]=ao;decide+kernel
 obtain⟨k,hk,DW⟩:∃k:Nat,(kN x).toNat=k/\(2<=k/\k<=5):=⟨_,rfl,oM⟩
 have h2:xO (iw x).dr=ao:=by
  show xO (qP (kN x).toNat)=ao;rw[hk];have:k=2\/k=3\/k=4\/k=5:=by omega
  rcases this with rfl|rfl|rfl|rfl<;>decide
 have h3:qX (iw x)=ao:=by
  have a:kC (zV x) (-20*zV x)=am:=by rw[E7];exact MN _
  have b:kC (zV x) (100*zV x)=am:=by rw[E7];exact MN _
  have c:(kZ (zV x) (kN x).toNat).any (kC (zV x))=am:=by
   rw[KW];intro y hy;obtain⟨j,_,rfl⟩:=oe.1 hy;rw[MN];decide
  simp only[qX,iw,a,b,c,MN,Je,Bool.and_true,ld];exact⟨kx oM,kx oM⟩
 have mw:=IZ (a:=zV x) (b:=5+zH x.wide 0 60) (m:=zV x) (n:=65) oM oM;have h4:kB (iw x)=am:=by
  simp only[kB,iw,K1];exact⟨⟨⟨⟨jq oM,jq oM⟩,jq oM⟩,jq oM⟩,jq oM⟩
 have h5:xU (iw x)=am:=by
  have e:(kZ (zV x) (kN x).toNat).length=(qP (kN x).toNat).length:=by rw[pN,zAc]
  have ne:kZ (zV x) (kN x).toNat≠[]:=by
   intro hc;have:=pN (zV x) (kN x).toNat;rw[hc]at this;simp at this;omega
  have bd:∀y∈kZ (zV x) (kN x).toNat,0<=y/\y<=zV x*15:=by
   intro y hy;obtain⟨j,hj,rfl⟩:=oe.1 hy;have:=zh.1 hj;exact IZ oM oM
  have m1:=bd _ (z3n ne);have m2:=bd _ (z4i ne);simp only[xU,iw,e,ne_eq,not_true_eq_false,decide_false,CT,K1];exact⟨jq oM,jq oM⟩
 have h6:jE (iw x)=am:=by
  simp only[jE,iw,K1];exact⟨jq oM,jq oM⟩
 have h7:qH (iw x)=am:=by
  simp only[qH,iw,K1];exact⟨⟨⟨⟨⟨jq oM,jq oM⟩,jq oM⟩,jq oM⟩,jq oM⟩,jq oM⟩
 rw[fj.check,h1,h2,h3,h4,h5,h6,h7];rfl
structure Od (qs sh:List Int) (q:Int):Prop where
 len:sh.length=qs.length
 bd:∀n,0<=sh.getD n 0/\sh.getD n 0<=qs.getD n 0
 sum:sh.sum=q
def N8:∀{l:List Int},(∀x∈l,0<=x)->0<=l.sum
 |[],_=>yl 0
 |a::l,h=>by
  have:=N8 (l:=l) λx hx=>h x (jx _ hx)
  have:=h a jg;rw[oR];omega
def yCs:∀{z:List (Int×Int)},(∀y∈z,0<=y.2/\y.2<=y.1)->(z.map (·.2)).sum<=(z.map (·.1)).sum
 |[],_=>yl 0
 |a::l,h=>by
  have:=yCs (z:=l) λx hx=>h x (jx _ hx)
  have:=h a jg;rw[iT,iT,oR,oR];omega
def zBf:∀(l:List Int) (q:Int),(∀x∈l,0<=x)->0<=q->q<=l.sum->Od l (fC l q) q
 |[],q,_,h0,h1=>⟨rfl,λn=>by simp[fC],by simp at h1;simp[fC];omega⟩
 |n::l,q,h,h0,h1=>by
  have hn:=h n jg;rw[oR]at h1;have:=N8 λx hx=>h x (jx _ hx)
  have ih:=zBf l (q-min n q) (λx hx=>h x (jx _ hx)) oM oM;refine⟨by rw[fC,iY,iY,ih.len],λk=> ?_,by rw[fC,oR,ih.sum];omega⟩;cases k with
  |zero=>exact⟨by show 0<=min n q;omega,by show min n q<=n;omega⟩
  |succ k=>exact ih.bd k
def zEa:∀(z:List (Int×Int)) (q:Int),(∀y∈z,0<=y.2/\y.2<=y.1)->0<=q->q<=(z.map (·.1)).sum-(z.map (·.2)).sum->(wZ z q).length=z.length/\(∀n,0<=(wZ z q).getD n 0/\(wZ z q).getD n 0<=(z.map (·.1)).getD n 0)/\(wZ z q).sum=(z.map (·.2)).sum+q
 |[],q,_,h0,h1=>⟨rfl,λn=>by simp[wZ],by simp at h1;simp[wZ];omega⟩
 |(n,x)::r,q,h,h0,h1=>by
  have hn:=h (n,x) jg;simp only[iT,oR]at h1;have:=yCs λy hy=>h y (jx _ hy)
  have ih:=zEa r (q-min (n-x) q) (λy hy=>h y (jx _ hy)) oM oM;refine⟨by rw[wZ,iY,iY,ih.1],λk=> ?_,by rw[wZ,oR,ih.2.2,iT,oR];omega⟩;cases k with
  |zero=>exact⟨by show 0<=x+min (n-x) q;have:=hn.1;have:=hn.2;dsimp only at*;omega,by show x+min (n-x) q<=n;have:=hn.2;dsimp only at*;omega⟩
  |succ k=>exact ih.2.1 k
def z7x {l:List Int} {q:Int} (h1:l.length<=250) (h2:0<=q) (h3:∀x∈l,1<=x/\x<=1000000) (h4:q<=l.sum):yV l q=ao:=by
 rw[yV,kx h1,kx h2,kx h4];simp only[qj,Bool.and_true,DO,ld,sm];exact h3
def zYk {i:xb} (h:yV i.l i.q=ao) (hl:1<=i.least):Od i.l (jZ i) i.q:=by
 obtain⟨r1,r2,r3,r4⟩:=j7 h;rw[jZ,fk ⟨h,hl⟩];by_cases jf:i.l.length=0
 ·have e:i.l=[]:=zm jf;have hq:i.q=0:=by rw[e]at r4;simp at r4;omega
  have e0:i.p1=[]:=by rw[xb.p1,e];rfl
  rw[e0,e,hq];exact⟨rfl,λn=>by simp,rfl⟩
 ·obtain⟨_,_,f1,f2⟩:=Ur h oM;have zu:=z7l i;have m1:(i.l.zip i.p0).map (·.1)=i.l:=List.map_fst_zip oM
  have m2:(i.l.zip i.p0).map (·.2)=i.p0:=List.map_snd_zip oM
  have hp:=zEa (i.l.zip i.p0) (i.q-i.p0.sum) (λy hy=>by
   obtain⟨j,hj⟩:=AB.1 hy;rw[Pr]at hj;exact f1 j _ _ hj.1 hj.2) oM (by rw[m1,m2];omega)
  rw[m1,m2]at hp;refine⟨?_,hp.2.1,?_⟩
  ·rw[xb.p1,hp.1,List.length_zip,zu,Nat.min_self]
  ·rw[xb.p1,hp.2.2];omega
def Xn:∀{l:List Int} {k:Nat} {x:Int},k<l.length->(l.set k x).sum=l.sum+(x-l.getD k 0)
 |[],k,x,h=>absurd h (by simp)
 |a::l,0,x,_=>by
  show x+l.sum=a+l.sum+(x-a);omega
 |a::l,k+1,x,h=>by
  have:=Xn (l:=l) (k:=k) (x:=x) (by simpa using h);show a+(l.set k x).sum=a+l.sum+(x-l.getD k 0);omega
def Uf {l:List Int} {k n:Nat} {x:Int} (h:k<l.length):(l.set k x).getD n 0=if n=k then x else l.getD n 0:=by
 rw[mi,GW];by_cases e:k=n
 ·subst e;rw[fk rfl,fk h,fk rfl];rfl
 ·rw[dx e,dx (λe2=>e e2.symm),mi]
def z5t {l:List Int}:∀(z:List (Nat×Int)) (o:List Int),(z.map (·.1)).Nodup->(∀y∈z,y.1<o.length/\0<=y.2/\o.getD y.1 0+y.2<=l.getD y.1 0)->(∀n,0<=o.getD n 0/\o.getD n 0<=l.getD n 0/\l.getD n 0<=1000000)->
 (z.foldl (λo y=>o.set y.1 (aq.wrap (o.getD y.1 0+y.2))) o).length=o.length/\(z.foldl (λo y=>o.set y.1 (aq.wrap (o.getD y.1 0+y.2))) o).sum=o.sum+(z.map (·.2)).sum/\∀n,0<=(z.foldl (λo y=>o.set y.1 (aq.wrap (o.getD y.1 0+y.2))) o).getD n 0/\(z.foldl (λo y=>o.set y.1 (aq.wrap (o.getD y.1 0+y.2))) o).getD n 0<=l.getD n 0
 |[],o,_,_,h=>⟨rfl,by simp,λn=>⟨(h n).1,(h n).2.1⟩⟩
 |y::z,o,hn,hz,h=>by
  obtain⟨h1,h2,h3⟩:=hz y jg;rw[iT,ve]at hn;have hw:aq.wrap (o.getD y.1 0+y.2)=o.getD y.1 0+y.2:=by
   have:=h y.1;exact iD oM
  rw[DN,hw];have ih:=z5t (l:=l) z (o.set y.1 (o.getD y.1 0+y.2)) hn.2 (λx hx=>by
   obtain⟨g1,g2,g3⟩:=hz x (jx _ hx);have jf:x.1≠y.1:=λe=>hn.1 (e▸pn (f:=(·.1)) hx)
   rw[rj,Uf h1,dx jf];exact⟨g1,g2,g3⟩) (λn=>by
   rw[Uf h1];split
   ·rename_i e;rw[e];exact⟨by have:=h y.1;omega,h3,(h y.1).2.2⟩
   ·exact h n)
  refine⟨by rw[ih.1,rj],?_,ih.2.2⟩;rw[ih.2.1,Xn h1,iT,oR];omega
def zTn (l:List Int):(List.range l.length).map (λn=>l.getD n 0)=l:=by
 apply Hz;intro n;rw[uz];by_cases h:n<l.length
 ·rw[KZ h,xl h,ym,mi,xl h];rfl
 ·rw[ue (by simpa using h),ue (by omega)];rfl
def yBd {f g:Nat->Int}:∀l:List Nat,(l.map λn=>f n-g n).sum=(l.map f).sum-(l.map g).sum
 |[]=>rfl
 |a::l=>by rw[iT,iT,iT,oR,oR,oR,yBd l];omega
def zQh {f:Nat->Int} {p:Nat->Bool}:∀{l:List Nat},(∀n∈l,p n=am->f n=0)->((l.filter p).map f).sum=(l.map f).sum
 |[],_=>rfl
 |a::l,h=>by
  have ih:=zQh (l:=l) λn hn=>h n (jx _ hn)
  rw[iT,oR];by_cases e:p a=ao
  ·rw[Jr e,iT,oR,ih]
  ·rw[Jq e,ih,h a jg (by simpa using e)];omega
def zAs {i:qw} (hl:i.l.length<=250) (ho:i.out.length=i.l.length) (hn:∀n,0<=i.out.getD n 0/\i.out.getD n 0<=i.l.getD n 0/\i.l.getD n 0<=1000000) (hq:0<=i.q/\i.q<=i.l.sum-i.out.sum) (hle:1<=i.least):
 Od i.l (rM i) (i.out.sum+i.q):=by
 have aaN:(i.idx i.l.length).length<=250:=wu (GX _ _) (by simpa using hl);have rf:∀n∈i.idx i.l.length,n<i.l.length/\i.out.getD n 0<i.l.getD n 0:=by
  intro n hn;obtain⟨a,b⟩:=qk.1 hn;exact⟨zh.1 a,td b⟩
 have Fp:(i.left i.l.length).sum=i.l.sum-i.out.sum:=by
  rw[qw.left,qw.idx,zQh,yBd,zTn]
  ·rw[<- ho,zTn]
  ·intro n _ e;have:=Fa e;have:=hn n;omega
 have hr:yV (i.left i.l.length) i.q=ao:=by
  refine z7x (by rw[qw.left,iz];exact aaN) hq.1 (λx hx=> ?_) oM;obtain⟨n,hm,rfl⟩:=oe.1 hx;have:=rf n hm;have:=hn n;omega
 have hp:=zYk (i:=⟨i.left i.l.length,i.least,i.q⟩) hr hle;have zu:i.pl.length=(i.idx i.l.length).length:=by
  have:=hp.len;rw[qw.pl,this,qw.left,iz]
 have ry:(i.idx i.l.length).Nodup:=List.nodup_range.sublist HC;have z1:((i.idx i.l.length).zip i.pl).map (·.1)=i.idx i.l.length:=List.map_fst_zip oM
 have z2:((i.idx i.l.length).zip i.pl).map (·.2)=i.pl:=List.map_snd_zip oM
 have hf:=z5t (l:=i.l) ((i.idx i.l.length).zip i.pl) i.out (by rw[z1];exact ry) (λy hy=>by
  obtain⟨j,hj⟩:=AB.1 hy;rw[Pr]at hj;have hm:=rf y.1 (mc hj.1);have hb:=hp.bd j;have e1:(jZ ⟨i.left i.l.length,i.least,i.q⟩).getD j 0=y.2:=by
   rw[mi];have:(jZ ⟨i.left i.l.length,i.least,i.q⟩)[j]? =av y.2:=hj.2;rw[this];rfl
  have e2:(i.left i.l.length).getD j 0=i.l.getD y.1 0-i.out.getD y.1 0:=by
   rw[mi,qw.left,uz,hj.1];rfl
  dsimp only at hb;rw[e1,e2]at hb;exact⟨oM,hb.1,oM⟩) hn
 have tj:rM i=((i.idx i.l.length).zip i.pl).foldl (λo y=>o.set y.1 (aq.wrap (o.getD y.1 0+y.2))) i.out:=by
  rw[rM,qw.add,oV (by rw[List.length_zip];omega)]
 rw[tj];refine⟨by rw[hf.1,ho],hf.2.2,?_⟩;rw[hf.2.1,z2];have:=hp.sum;rw[qw.pl,this]
def yBy {l:List Int} (h:∀x∈l,1<=x/\x<=1000000) (n:Nat):0<=l.getD n 0/\l.getD n 0<=1000000:=by
 by_cases hn:n<l.length
 ·obtain⟨x,hx⟩:=z6 hn;have:=h x (mc hx);rw[zJ hx];omega
 ·rw[mi,ue (by omega)];decide
def VH (n k:Nat):(ab n (0:Int)).getD k 0=0:=by
 rw[mi,Wb];split<;>rfl
def Yn (n:Nat):(ab n (0:Int)).sum=0:=by
 induction n with
 |zero=>rfl
 |succ n ih=>rw[K0,oR,ih];rfl
def y0z {q part:Int} (hq:0<=q) (h0:0<=part) (h1:part<=100):0<=q*part / 100/\q*part / 100<=q:=by
 have h2:0<=q*part:=Nf hq h0;have h3:q*part<=q*100:=Wd h1 hq;constructor<;>omega
def zIc {p:fj} (hc:p.check=0) {l:List zE} {q:Int} (hr:yV (l.map (·.dq)) q=ao):Od (l.map (·.dq)) (qU ⟨p,l,q⟩) q:=by
 have ok:=qF hc;obtain⟨r1,r2,r3,r4⟩:=j7 hr;have q1:=ok.q1;have q3:=ok.q3;have q5:=ok.q5;have q6:=ok.q6;have r5:=ok.r1;have r6:=ok.r2;have gb:=yBy r3;have eqs:(Cs.qs ⟨p,l,q⟩)=l.map (·.dq):=rfl
 rw[qU];simp only[eqs];generalize l.map (·.dq)=qs at*
 by_cases c1:p.gw=1
 ·rw[fk c1,fJ,fk hr];exact zBf _ _ (λx hx=>by have:=r3 x hx;omega) r2 r4
 by_cases c2:p.gw=2
 ·rw[dx c1,fk c2,CO,fk ⟨hr,q3,q1⟩];rw[wo.rs];dsimp only;split
  ·rename_i ht;have hk:(jd l).toNat<(ab qs.length (0:Int)).length:=by simp;omega
   have hf:0<=wo.first ⟨qs,jd l,p.top,p.least,q⟩/\wo.first ⟨qs,jd l,p.top,p.least,q⟩<=qs.getD (jd l).toNat 0/\wo.first ⟨qs,jd l,p.top,p.least,q⟩<=q:=by
    have:=gb (jd l).toNat;simp only[wo.first];omega
   have hs:((ab qs.length (0:Int)).set (jd l).toNat (wo.first ⟨qs,jd l,p.top,p.least,q⟩)).sum=wo.first ⟨qs,jd l,p.top,p.least,q⟩:=by
    rw[Xn hk,Yn,VH];omega
   have:=zAs (i:=⟨qs,(ab qs.length 0).set (jd l).toNat (wo.first ⟨qs,jd l,p.top,p.least,q⟩),p.least,q-wo.first ⟨qs,jd l,p.top,p.least,q⟩⟩) r1 (by simp) (λn=>by
    dsimp only;rw[Uf hk,VH];have:=gb n;split
    ·rename_i e;rw[e];exact⟨hf.1,hf.2.1,(gb _).2⟩
    ·omega) (by dsimp only;rw[hs];omega) q3
   dsimp only at this;rw[hs]at this;have e:wo.first ⟨qs,jd l,p.top,p.least,q⟩+(q-wo.first ⟨qs,jd l,p.top,p.least,q⟩)=q:=by omega
   rw[e]at this;exact this
  ·have:=zAs (i:=⟨qs,ab qs.length 0,p.least,q⟩) r1 (by simp) (λn=>by
    dsimp only;rw[VH];have:=gb n;omega) (by dsimp only;rw[Yn];omega) q3
   dsimp only at this;rw[Yn,Int.zero_add]at this;exact this
 ·have c3:p.gw=3:=by omega
  rw[dx c1,dx c2,fk c3,Ci,fk ⟨hr,q5,q6,q3⟩];rw[JJ.rs];dsimp only;obtain⟨d1,d2⟩:=y0z r2 q5 q6;have wx:yV qs (q*p.part / 100)=ao:=z7x r1 d1 r3 oM;have yw:=zBf qs (q*p.part / 100) (λx hx=>by have:=r3 x hx;omega) d1 oM;have e0:fJ qs (q*p.part / 100)=fC qs (q*p.part / 100):=by rw[fJ,fk wx]
  have:=zAs (i:=⟨qs,fJ qs (q*p.part / 100),p.least,q-q*p.part / 100⟩) r1 (by dsimp only;rw[e0];exact yw.len) (λn=>by
   dsimp only;rw[e0];exact⟨(yw.bd n).1,(yw.bd n).2,(gb n).2⟩) (by dsimp only;rw[e0,yw.sum];omega) q3
  dsimp only at this;rw[e0,yw.sum]at this;rw[e0];have e:q*p.part / 100+(q-q*p.part / 100)=q:=by omega
  rw[e]at this;exact this
def z7o {p:fj} {l:List zE} {q:Int} (hr:yV (l.map (·.dq)) q=am):qU ⟨p,l,q⟩=[]:=by
 have eqs:(Cs.qs ⟨p,l,q⟩)=l.map (·.dq):=rfl
 rw[qU];simp only[eqs,fJ,CO,Ci,hr];simp
def zVi:IB.ok Tryz.prog 217:=ix (V:=yDe) mixed fx 0 (λ_=>[]) (λ_=>[]) [] Tryz.func217 λ(b:Bool) _=>by
 unfold yDe ez;cases b<;>exact⟨(),Z8,trivial⟩
def z2h:Me.ok Tryz.prog 218:=ix (V:=yQx) mixed fx 0 (λ_=>[]) (λ_=>[]) [] Tryz.func218 λ(i:RA) _=>by
 obtain⟨s,p,x⟩:=i;unfold yQx ez;cases s
 ·refine Cv.du.mk (λ_=>zI (λc=>⟨(),?_,trivial⟩) (λc=>Cv.du.mk (λe=>by simp[zA]at e) (λ_=>⟨(),?_,trivial⟩))) (λe=>by simp[zA]at e)
  ·exact kx c
  ·exact jq c
 ·exact Cv.du.mk (λe=>by simp[zA]at e) (λ_=>Cv.du.mk (λ_=>⟨(),rfl,trivial⟩) (λe=>by simp[zA]at e))
def z2m {L:List zE} {s:Int}:((gm L s).2=ao/\∃o∈L,o.side=s/\o.dp=(gm L s).1.dp)\/(gm L s=(⟨0,0,0⟩,am)/\∀o∈L,o.side≠s):=by
 rw[gm];cases hl:x7 L s with
 |nil=>
  refine .inr ⟨rfl,λo ho e=> ?_⟩;rw[x7]at hl;cases hf:L.filter λo=>decide (o.side=s)with
  |nil=>
   rw[Pp]at hf;have:=hf o ho;simp[e]at this
  |cons x y=>
   rw[hf,qg]at hl;split at hl
   ·cases hl
   ·split at hl<;>cases hl
 |cons v vs=>
  refine .inl ⟨rfl,?_⟩;rw[x7]at hl;obtain⟨o,r,e1,e2⟩:=rI hl;have:o∈L.filter λo=>decide (o.side=s):=by rw[e1];exact jg
  rw[qk]at this;exact⟨o,this.1,by simpa using this.2,e2⟩
def Xh {L:List zE} {s:Int} (h:∀o∈L,-2000000<=o.dp/\o.dp<=2000000): -2000000<=(gm L s).1.dp/\(gm L s).1.dp<=2000000:=by
 rcases z2m (L:=L) (s:=s)with⟨_,o,ho,_,e⟩|⟨e,_⟩
 ·rw[<- e];exact h o ho
 ·rw[e];constructor<;>decide
def TI (L:List zE):(yS L).p1=(gm L 1).1.dp/\(yS L).q1=(gm L 1).1.dq/\(yS L).gp=(gm L 1).2/\(yS L).p2=(gm L 2).1.dp/\(yS L).q2=(gm L 2).1.dq/\(yS L).gj=(gm L 2).2:=by
 have h:∀s,(gm L s).2=ao\/gm L s=(⟨0,0,0⟩,am):=λs=>by
  rcases z2m (L:=L) (s:=s)with⟨h,_⟩|⟨h,_⟩
  ·exact .inl h
  ·exact .inr h
 rw[yS,iS.xz,iS.Dc];rcases h 1 with h1|h1<;>rcases h 2 with h2|h2<;>simp[h1,h2,fq]
def jo.xf {p:fj} {B:List (List zE)} (h:jo p B) {k:Nat} {L:List zE} (hL:B[k]? =av L):∀o∈L,-2000000<=o.dp/\o.dp<=2000000:=λo ho=>OM h.pc (h.pr k L hL o ho)
def jo.fm {p:fj} {B:List (List zE)} (h:jo p B):vF (B.map yS):=by
 have:=xQ p;refine⟨by rw[iz,h.bl];omega,λt ht=> ?_⟩;obtain⟨L,hL,rfl⟩:=oe.1 ht;obtain⟨k,hk⟩:=AB.1 hL;have b1:=Xh (s:=1) (h.xf hk);have b2:=Xh (s:=2) (h.xf hk);rw[(TI L).1,(TI L).2.2.2.1];exact⟨by constructor<;>omega,by constructor<;>omega⟩
def ia.fy.fm {s:ia} {p:fj} {B:List (List zE)} (h:s.fy p B):s.fm=B.map yS:=by
 rw[ia.fm];apply Hz;intro k;rw[uz,uz];by_cases hk:k<B.length
 ·obtain⟨L,hL⟩:=z6 hk;obtain⟨b,hb⟩:=z6 (l:=s.fc) (i:=k) (by rw[h.bl];exact hk);rw[hL,hb,ym,ym,(h.bk k b L hb hL).top]
 ·rw[ue (by rw[h.bl];omega),ue (by omega)];rfl
def ia.fy.EJ {s:ia} {p:fj} {B:List (List zE)} (h:s.fy p B) (hB:B.length<=1000000):s.nw:=by
 refine⟨by rw[h.bl];exact hB,λb hb=> ?_⟩;obtain⟨k,hk⟩:=AB.1 hb;have iq:=(ju.1 hk).1;rw[h.bl]at iq;obtain⟨L,hL⟩:=z6 iq;exact(h.bk k b L hk hL).EJ
def z6r {b:dt} {L:List zE} (h:b.fy L) (sd:Bool):b.iA (b.side sd)=gm L (zA sd):=by
 obtain⟨Q,c,ht,rfl⟩:=h;cases sd
 ·exact c.gm (.inl rfl)
 ·exact c.gm (.inr rfl)
def aC (sd:Bool):zA sd=1\/zA sd=2:=by cases sd;exact .inl rfl;exact .inr rfl
def y8m (i:EM) (h:JW.du i):yYm i:=by
 obtain⟨hR,hB,h0,h1⟩:i.s.fy i.p i.B/\jo i.p i.B/\0<=i.inst/\i.inst<i.B.length:=h;have xy:=xQ i.p;have wg:=hB.bl;have yq:=hR.bl;obtain⟨k,hk⟩:∃k:Nat,i.inst=k:=⟨i.inst.toNat,oM⟩
 obtain⟨L,hL⟩:=z6 (l:=i.B) (i:=k) oM;obtain⟨b,hb⟩:=z6 (l:=i.s.fc) (i:=k) oM;have DX:=hR.bk k b L hb hL;have C4:i.s.p.small:=by rw[hR.ep];exact hB.ps
 have ur:vF i.s.fm:=by rw[hR.fm];exact hB.fm
 have ED:z7 i.p i.B i.inst (zA i.sd)=if((gm L (zA i.sd)).2 && !((zN (yC ⟨i.s.p,i.s.fm,i.inst⟩ (zA i.sd)) (zA i.sd)).2 && jj (zA i.sd) (zN (yC ⟨i.s.p,i.s.fm,i.inst⟩ (zA i.sd)) (zA i.sd)).1.dp (gm L (zA i.sd)).1.dp))=ao then(⟨(gm L (zA i.sd)).1.dp,(gm L (zA i.sd)).1.dq,⟨0,0⟩,⟨0,0⟩⟩,am,ao)else((zN (yC ⟨i.s.p,i.s.fm,i.inst⟩ (zA i.sd)) (zA i.sd)).1,(zN (yC ⟨i.s.p,i.s.fm,i.inst⟩ (zA i.sd)) (zA i.sd)).2,(zN (yC ⟨i.s.p,i.s.fm,i.inst⟩ (zA i.sd)) (zA i.sd)).2):=by
  rw[z7,hR.fm,hR.ep,hk,ml,zJ hL]
 have Dm:=z6r DX i.sd;unfold yYm QA Qb fp Qi Qm Xc fp Qm qD Q8 vE TQ EK fp uD Yv ez z8 XC ez yD Ze Q6 Qb wP ZH Qp vS cK;have Ec:i.s.nw:=hR.EJ oM;have HN:(yC ⟨i.s.p,i.s.fm,i.inst⟩ (zA i.sd)).length<=1000000:=by
  have:=wu (GX (λq=>decide (i.s.p.dp i.inst q.dp=0)) _) (UC ⟨i.s.p,i.s.fm,i.inst⟩ (zA i.sd));exact wu this Z8
 refine(λhT=>⟨⟨i.s,iH (oT ⟨rfl,Ec,λ_ _=>⟨⟨rfl,trivial,rn ⟨rfl,trivial,trivial⟩⟩,⟨⟨⟨i.s.p,i.s.fm,i.inst⟩,i.sd⟩,iH (A6 ⟨rfl,⟨C4,ur⟩,λ_ _=>⟨hT,hT⟩⟩)⟩,⟨rfl,trivial,rn ⟨rfl,trivial,trivial⟩⟩,⟨⟨⟨i.s.p,i.s.fm,i.inst⟩,i.sd⟩,iH (A6 ⟨rfl,⟨C4,ur⟩,λ_ _=>hT⟩)⟩⟩⟩)⟩,
  ⟨rfl,trivial,rn ⟨rfl,trivial,trivial⟩⟩,⟨i.s,iH (oT ⟨rfl,Ec,λ_ _=>⟨⟨rfl,trivial,rn ⟨rfl,trivial,trivial⟩⟩,⟨⟨⟨i.s.p,i.s.fm,i.inst⟩,i.sd⟩,iH (A6 ⟨rfl,⟨C4,ur⟩,λ_ _=>hT⟩)⟩⟩⟩)⟩⟩) ?_
 refine⟨⟨yC ⟨i.s.p,i.s.fm,i.inst⟩ (zA i.sd),zA i.sd⟩,rfl,rfl,⟨aC _,HN⟩,λ_ _=>⟨⟨h0,oM⟩,oM,b,by rw[hk];exact hb,⟨i.sd,b⟩,rfl,rfl,DX.EJ,λ_ _=>⟨b,rfl,rfl,oM,?_⟩⟩⟩;dsimp only;rw[Dm];generalize gm L (zA i.sd)=l at*;generalize zN (yC ⟨i.s.p,i.s.fm,i.inst⟩ (zA i.sd)) (zA i.sd)=bq at*;have ra:i.s.fc.set i.inst.toNat b=i.s.fc:=kL (by rw[hk];exact hb);rw[ra];refine Cv.du.mk (λc1=>Cv.du.mk (λc2=>⟨⟨zA i.sd,bq.1.dp,l.1.dp⟩,rfl,rfl,rfl,trivial,λ_ _=>Cv.du.mk (λc3=> ?_) (λc3=> ?_)⟩) (λc2=> ?_)) (λc1=> ?_)
 ·dsimp only at c3;rw[fk (by rw[c1,c2];simpa using c3)]at ED;rw[ED];exact⟨(),ic⟩
 ·dsimp only at c3;rw[dx (by rw[c1,c2];simpa using c3)]at ED;rw[ED];exact⟨(),ic⟩
 ·rw[fk (by rw[c1,c2];rfl)]at ED;rw[ED];exact⟨(),ic⟩
 ·rw[dx (by rw[c1];simp)]at ED;rw[ED];exact⟨(),ic⟩
def ySm:JW.ok Tryz.prog 226:=ix mixed (dz z4z (dz Zw (dz Yt (dz TL (dz mX fx))))) 0 (λ_=>[]) (λ_=>[]) [0] Tryz.func226 y8m
def yDs (i:qw) (k:Nat):(i.add k).length=i.out.length:=by
 have:∀(l:List (Nat×Int)) (o:List Int),(l.foldl (λo y=>o.set y.1 (aq.wrap (o.getD y.1 0+y.2))) o).length=o.length:=by
  intro l
  induction l with
  |nil=>intro o;rfl
  |cons x l ih=>intro o;rw[DN,ih,rj]
 exact this _ _
def z4p (l:List Int) (q:Int):(fJ l q).length<=l.length:=by
 rw[fJ];split
 ·rw[l8];exact mg _
 ·exact oQ _
def yHr (i:Cs):(qU i).length<=i.l.length:=by
 have hq:i.qs.length=i.l.length:=by simp[Cs.qs]
 rw[qU,<- hq]
 repeat' split
 ·exact z4p _ _
 ·rw[CO];split
  ·rw[rM,yDs,wo.rs];split
   ·simp
   ·simp
  ·exact oQ _
 ·rw[Ci];split
  ·rw[rM,yDs];exact z4p _ _
  ·exact oQ _
 ·exact oQ _
def zRq {inst s:Int}:∀{os:List zE} {sh:List Int} {j:Nat} {o:zE} {k:Int},os[j]? =av o->sh[j]? =av k->yM inst s (os.take (j+1)) (sh.take (j+1))=yM inst s (os.take j) (sh.take j)++(if 0<k then[⟨o.id,inst,s,o.dp,k,o.dq-k⟩]else[])
 |[],_,_,_,_,h,_=>by simp at h
 |_::_,[],_,_,_,_,h=>by simp at h
 |o::os,k::sh,0,_,_,h,h2=>by
  cases h;cases h2;rw[xk,xk,GU,GU,GU,GU,yM];split<;>rfl
 |o::os,k::sh,j+1,o',k',h,h2=>by
  rw[xk,xk,yM,xk,xk,yM,zRq (os:=os) (sh:=sh) (j:=j) h h2];split<;>rfl
def zXb {inst s:Int}:∀(os:List zE) (sh:List Int),yM inst s (os.take sh.length) (sh.take sh.length)=yM inst s os sh
 |[],sh=>by simp
 |_::_,[]=>by simp[yM]
 |o::os,k::sh=>by
  rw[iY,xk,xk,yM,yM,zXb os sh]
def zYc (B:List (List zE)) (a b:List uV):y8 B (a++b)=y8 (y8 B a) b:=Jh
def sW (B:List (List zE)) (id q:Int):(yZ B id q).1.length=B.length:=by
 rw[yZ];split
 ·rfl
 ·simp
def qT:∀(fs:List uV) (B:List (List zE)),(y8 B fs).length=B.length
 |[],B=>rfl
 |f::fs,B=>by
  show(y8 (yZ B f.id f.dq).1 fs).length=_;rw[qT fs,sW]
def yZm {p:fj} (h:p.check=0):ie p.least/\ie p.top/\ie p.part:=by
 have ok:=qF h;have:=ok.q1;have:=ok.q2;have:=ok.q3;have:=ok.q4;have:=ok.q5;have:=ok.q6;exact⟨⟨oM,oM⟩,⟨oM,oM⟩,⟨oM,oM⟩⟩
def y5l (i:AJ) (h:FP.du i):yRi i:=by
 obtain⟨hR,hB,h0,h1,hq⟩:i.s.fy i.p i.B/\jo i.p i.B/\0<=i.inst/\i.inst<i.B.length/\ie i.q:=h;have xy:=xQ i.p;have wg:=hB.bl;have yq:=hR.bl;have ep:=hR.ep;obtain⟨k,hk⟩:∃k:Nat,i.inst=k:=⟨i.inst.toNat,oM⟩
 obtain⟨L,hL⟩:=z6 (l:=i.B) (i:=k) oM;obtain⟨b,hb⟩:=z6 (l:=i.s.fc) (i:=k) oM;have DX:=hR.bk k b L hb hL;have Dm:=z6r DX i.sd;have wy:qy L (zA i.sd) (gm L (zA i.sd)).1.dp=i.os:=by rw[AJ.os,MM,hk,ml,zJ hL]
 have ra:i.s.fc.set i.inst.toNat b=i.s.fc:=kL (by rw[hk];exact hb);have abf:i.os.length<=250:=by
  rw[<- wy];exact wu (GX _ _) DX.oI.2.2
 have Ju:i.sh.length<=i.os.length:=yHr _;obtain⟨k1,k2,k3⟩:=yZm hB.pc;have EB:∀(j:Nat) (n:Int),i.sh[j]? =av n->n<=1000000:=by
  intro j n hn;cases hr:yV (i.os.map (·.dq)) i.q with
  |false=>
   have:i.sh=[]:=z7o hr;rw[this]at hn;cases hn
  |true=>
   have:=(zIc hB.pc hr).bd j;have e:(qU ⟨i.p,i.os,i.q⟩).getD j 0=n:=zJ hn;rw[e]at this;have:=(yBy (j7 hr).2.2.1 j).2;omega
 unfold yRi Q6 Qa EK Qb fp ZM gR c9 nE bH fW z8 uD cK dI;refine⟨⟨h0,oM⟩,oM,b,by rw[hk];exact hb,⟨i.sd,b⟩,rfl,rfl,DX.EJ,λ_ _=> ?_⟩;refine⟨b,rfl,rfl,oM,b,by rw[ra,hk];exact hb,⟨b,L,i.sd,(gm L (zA i.sd)).1.dp⟩,rfl,by dsimp only;rw[Dm],rfl,DX,λ_ _=> ?_⟩;dsimp only
 try rw[Dm]
 rw[ra,wy];refine⟨b,rfl,rfl,oM,⟨i.p,i.os,i.q⟩,by rw[ep],by rw[ep],by rw[ep],by rw[ep],by rw[ep],by rw[ep],by rw[ep],by rw[ep],by rw[ep],by rw[ep],by rw[ep],rfl,rfl,⟨Z9,hq,k1,k2,k3⟩,λ_ _=> ?_⟩;have esh:qU ⟨i.p,i.os,i.q⟩=i.sh:=rfl;rw[esh,ra,yW,iz];refine⟨(0,i.s),iH (oE ⟨rfl,λj=>j.2.fy i.p (y8 i.B (i.fs j.1))/\j.1<=i.sh.length,λj=>i.sh.length-j.1,⟨hR,oQ _⟩,λj hj=> ?_⟩)⟩;obtain⟨Rb,EE⟩:=hj;obtain⟨j,sj⟩:=j;dsimp only at Rb EE ⊢;refine zI (λc=> ?_) (λc=> ?_)
 ·obtain⟨n,hn⟩:=z6 (l:=i.sh) (i:=j) oM;obtain⟨o,ho⟩:=z6 (l:=i.os) (i:=j) oM;have jy:=zRq (inst:=i.inst) (s:=zA i.sd) ho hn;have hoL:o∈L:=by
   have:=mc ho;rw[<- wy]at this;exact(qk.1 this).1
  have hoq:=(DX.oI.1 o hoL).q;have hnb:=EB j n hn;refine⟨⟨oM,oM⟩,n,rz hn,zI (λc2=> ?_) (λc2=> ?_)⟩
  ·rw[fk (show 0<n from c2)]at jy;have Bl:(i.fs j).length<=j:=by
    have:∀(os:List zE) (sh:List Int),(yM i.inst (zA i.sd) os sh).length<=os.length:=by
     intro os
     induction os with
     |nil=>intro sh;exact mg 0
     |cons o os ih=>
      intro sh;cases sh with
      |nil=>exact oQ _
      |cons k sh=>
       have:=ih sh;rw[yM];split
       ·simp only[iY];omega
       ·simp only[iY];omega
    exact wu (this _ _) (by rw[oK];omega)
   refine⟨⟨oM,oM⟩,o.id,o.side,o.dp,o.dq,o.top,y4l ho,⟨sj,i.p,y8 i.B (i.fs j),o.id,n⟩,rfl,rfl,rfl,⟨Rb,by dsimp only;rw[qT];omega⟩,λs' iR=>⟨by rw[iz];omega,(j+1,s'),um oM,rfl,?_,⟨?_,Z9⟩,Z9,ic⟩⟩
   ·show aa y5 (yM i.inst (zA i.sd) (i.os.take (j+1)) (i.sh.take (j+1)))=_;rw[jy,jz,iD (by omega)];rfl
   ·show s'.fy i.p (y8 i.B (yM i.inst (zA i.sd) (i.os.take (j+1)) (i.sh.take (j+1))));rw[jy,zYc];exact iR
  ·rw[dx (show ¬0<n from c2),pd]at jy;refine⟨(j+1,sj),um oM,rfl,?_,⟨?_,Z9⟩,Z9,ic⟩
   ·show aa y5 (yM i.inst (zA i.sd) (i.os.take (j+1)) (i.sh.take (j+1)))=_;rw[jy];rfl
   ·show sj.fy i.p (y8 i.B (yM i.inst (zA i.sd) (i.os.take (j+1)) (i.sh.take (j+1))));rw[jy];exact Rb
 ·have Fq:j=i.sh.length:=by omega
  subst Fq;have hfa:i.fs i.sh.length=xA i.p i.B i.inst (zA i.sd) i.q:=zXb _ _;rw[hfa]at Rb ⊢;exact⟨sj,rfl,rfl,Rb⟩
def yOo:FP.ok Tryz.prog 227:=ix mixed (dz TL (dz y6r (dz yPt (dz T9 fx)))) 0 (λ_=>[]) (λi=>yZy i) [0] Tryz.func227 y5l
structure kX where
 dp:Int
 dq:Int
 je:Bool
 ig:List uV
 deriving DecidableEq
def vC (t:kX):List D:=[.v (.int .i64 t.dp),.v (.int .i64 t.dq),.v (.bool t.je),.ro 6 (t.ig.map y5)]
def wJ (p:fj) (B:List (List zE)) (inst:Int) (sd:Bool) (dp dq:Int):Option (kX×List (List zE)):=
 let n:=z7 p B inst (zA (!sd))
 if(n.2.2 && (wA sd dp n.1.dp && decide (1<=n.1.dq)))=ao then
  if n.2.1=ao then
   let f1:=xA p B n.1.a.inst n.1.a.side (min dq n.1.dq)
   let f2:=xA p (y8 B f1) n.1.b.inst n.1.b.side (min dq n.1.dq)
   av (⟨n.1.dp,min dq n.1.dq,ao,f1++f2⟩,y8 (y8 B f1) f2)
  else
   let f:=xA p B inst (zA (!sd)) (min dq n.1.dq)
   av (⟨n.1.dp,min dq n.1.dq,am,f⟩,y8 B f)
 else aw
structure y5h where
 steps:List kX
 left:Int
 B:List (List zE)
def Ei (p:fj) (inst:Int) (sd:Bool) (dp:Int):Nat->List (List zE)->Int->y5h
 |0,B,q=>⟨[],q,B⟩
 |n+1,B,q=>if q<=0 then⟨[],q,B⟩else match wJ p B inst sd dp q with
  |none=>⟨[],q,B⟩
  |some (t,B')=>let r:=Ei p inst sd dp n B' (q-t.dq);⟨t::r.steps,r.left,r.B⟩
def qC (p:fj) (B:List (List zE)) (inst:Int) (sd:Bool) (dp q:Int):y5h:=Ei p inst sd dp q.toNat B q
structure oh where
 s:ia
 p:fj
 B:List (List zE)
 inst:Int
 sd:Bool
 dp:Int
 q:Int
def oh.r (i:oh):y5h:=qC i.p i.B i.inst i.sd i.dp i.q
def RO:gx where
 ι:=oh
 pat:=λi=>[.nm 0 0,zB i.inst,zB (zA i.sd),zB i.dp,zB i.q]
 pre:=λi=>[zD i.s]
 du:=λi=>i.s.fy i.p i.B/\jo i.p i.B/\(0<=i.inst/\i.inst<i.B.length)/\1<=i.q/\i.q<=1000000
 alts:=λi=>[{o:=ia,res:=λ_=> .jm [.own 1,zB i.r.left],post:=λs=>[zD s,.own 331 4 (i.r.steps.map vC)],rel:=λs=>s.fy i.p i.r.B}]
structure ET where
 s:ia
 B:List (List zE)
 steps:List kX
 q:Int
def xBp:List ib:=[
 {ι:=ET,dv:=λj=>[(0,.nm 0 0),(12,.own 1),(4,zB j.q)],rows:=λj=>[zD j.s,.own 331 4 (j.steps.map vC)]},
 {ι:=Unit,dv:=λ_=>[],rows:=λ_=>[],un:=3}]
def XS (a:ET->Nat) (b:ET) (c:ET) (d:oh):Prop:=a b<a c/\dm (ae 1 (iE d.s.p.dr))/\dm (ae 1 (iE d.s.p.settle))
def Uh (a:AJ):Prop:=a.s.fy a.p a.B/\jo a.p a.B/\0<=a.inst/\a.inst<(↑a.B.length:Int)/\(-9223372036854775808)<=a.q/\a.q<=9223372036854775807
def XW (a:oh) (b:ET) (c:EM):Prop:=∃(d:ia),a.r.left=b.q/\zD d=zD c.s/\aa vC a.r.steps=aa vC b.steps/\d.fy a.p a.r.B
def ON (a:AJ):=(aa y5 (fW a))
def z7u (a:oh):Prop:=∃(b:ET),b.q=a.q/\Qb b.s.p a.s.p (QA b.s a.s (aa vC b.steps=[]/\∃(c:ET->Prop),∃(d:ET->Nat),c b/\∀(e:ET),c e->du (decide (e.q>0)) (∃(f:Bool),zA f=zA a.sd/\True/\fp (∃(h:EM),h.inst=a.inst/\zA h.sd=zA !f/\zD h.s=zD e.s/\(h.s.fy h.p h.B/\jo h.p h.B/\0<=h.inst/\h.inst<(↑h.B.length:Int))/\fp (du (!(yD h).snd.snd) (XW a e h) (∃(k:RA),zA k.s=zA a.sd/\k.p=a.dp/\k.x=(yD h).fst.dp/\True/\fp (du (!wA k.s k.p k.x) (XW a e h) (du (yD h).snd.fst (∃(m:AJ),m.inst=(yD h).fst.a.inst/\zA m.sd=(yD h).fst.a.side/\m.q=min e.q (yD h).fst.dq/\zD m.s=zD h.s/\(Uh m)/\∀(n:ia),n.fy m.p (bH m)->True/\(ON m).length*(48:Nat)<=(140737488355328:Nat)/\∃(p:AJ),p.inst=(yD h).fst.b.inst/\zA p.sd=(yD h).fst.b.side/\p.q=min e.q (yD h).fst.dq/\zD p.s=zD n/\(Uh p)/\∀(q:ia),q.fy p.p (bH p)->True/\((ON m).length+(ON p).length)*(48:Nat)<=(140737488355328:Nat)/\((aa vC e.steps).length+1)*(48:Nat)<=(140737488355328:Nat)/\∃(r:ET),r.q=aq.wrap (e.q-min e.q (yD h).fst.dq)/\zD r.s=zD q/\aa vC r.steps=aa vC e.steps++[[dI ((yD h).fst.dp),dI (min e.q (yD h).fst.dq),D.v (.bool (yD h).snd.fst),D.ro 6 (aa y5 (fW m)++aa y5 (fW p))]]/\c r/\XS d r e a) (∃(m:Bool),zA m=zA a.sd/\True/\fp (dm (min e.q (yD h).fst.dq)/\∃(p:AJ),p.inst=a.inst/\zA p.sd=zA !m/\p.q=min e.q (yD h).fst.dq/\zD p.s=zD h.s/\(Uh p)/\∀(q:ia),q.fy p.p (bH p)->((aa vC e.steps).length+1)*(48:Nat)<=(140737488355328:Nat)/\∃(r:ET),r.q=aq.wrap (e.q-min e.q (yD h).fst.dq)/\zD r.s=zD q/\aa vC r.steps=aa vC e.steps++[[dI ((yD h).fst.dp),dI (min e.q (yD h).fst.dq),D.v (.bool (yD h).snd.fst),D.ro 6 (ON p)]]/\c r/\XS d r e a)))))))) (∃(f:ia),a.r.left=e.q/\zD f=zD e.s/\aa vC a.r.steps=aa vC e.steps/\f.fy a.p a.r.B)))
def aL (a:oh):Prop:=∃(b:ia),a.r.left=a.q/\Qb b.p a.s.p (QA b a.s (aa vC a.r.steps=[]/\b.fy a.p a.r.B))
def y9b (i:oh):Prop:=
 du (decide (i.inst>=0)) (du (decide (i.inst<(↑i.s.fc.length:Int))) (du (zA i.sd==1) (du (decide (i.q>=1)) (du (!decide (i.q<=1000000)) (aL i) (z7u i)) (aL i)) (du (zA i.sd==2) (du (decide (i.q>=1)) (du (!decide (i.q<=1000000)) (aL i) (z7u i)) (aL i)) (aL i))) (aL i)) (aL i)
structure QOk (T:List iS) (q:Quote):Prop where
 a:0<=q.a.inst/\q.a.inst<T.length
 b:0<=q.b.inst/\q.b.inst<T.length
 sa:q.a.side=1\/q.a.side=2
 sb:q.b.side=1\/q.b.side=2
 ne:q.a.inst≠q.b.inst
 ha:(T.getD q.a.inst.toNat fq).has q.a.side=ao
 hb:(T.getD q.b.inst.toNat fq).has q.b.side=ao
 dq:q.dq=min ((T.getD q.a.inst.toNat fq).dq q.a.side) ((T.getD q.b.inst.toNat fq).dq q.b.side)
def Oa {T:List iS} {a b:AK} {less:Bool} {q:Quote} (h:q∈wb T a b less) (h1:0<=a.inst/\a.inst<T.length) (h2:0<=b.inst/\b.inst<T.length) (h3:a.side=1\/a.side=2) (h4:b.side=1\/b.side=2) (jf:a.inst≠b.inst):QOk T q/\q.a=a/\q.b=b:=by
 cases less
 all_goals
  simp only[wb,nr,↓reduceIte]at h;split at h
  ·rename_i hc;simp only[ld]at hc;rw[xj]at h;subst h;exact⟨⟨h1,h2,h3,h4,jf,hc.1.1,hc.1.2,rfl⟩,rfl,rfl⟩
  ·cases h
def yZt:∀n≤6,∀k<n+n*(n-1) / 2,n<=k->(kU n k n 0).1≠(kU n k n 0).2.1:=by decide
def Xg {p:fj} (hc:p.check=0) {k:Nat} (hk:k<p.count) (hs:(p.gf k).2.2=ao):(p.gf k).1≠(p.gf k).2.1:=by
 have m6:=(qF hc).m6;have tb:=hk;rw[fj.count,fk hc]at tb;by_cases h:k<p.dr.length
 ·rw[fj.gf,dx (by omega),fk (by omega)]at hs;cases hs
 ·rw[fj.gf,dx (by omega),dx (by omega)];exact yZt p.dr.length m6 k tb oM
def yIt:∀n≤6,∀a<n,∀b<n,a<b->(yJ n a:Int)+b-a-1>=n:=by decide
def Vg {p:fj} (hc:p.check=0) {a b:Nat} (vc:a<b) (hb:b<p.dr.length):(p.dr.length:Int)<=(p.spread a b).1:=by
 have m6:=(qF hc).m6;have:=yIt p.dr.length m6 a oM b hb vc;rw[fj.spread,dx (by omega)];simpa using this
def yEi {p:fj} (hc:p.check=0) {T:List iS} (hT:T.length=p.count) {inst:Int} {s:Int} (hs:s=1\/s=2) {q:Quote} (h:q∈qM ⟨p,T,inst⟩ s):QOk T q/\0<=inst/\inst<p.count/\
 (((p.gf inst).2.2=ao/\q.a=⟨(p.gf inst).1,s⟩/\q.b=⟨(p.gf inst).2.1,3-s⟩)\/(inst<p.dr.length/\q.a.inst≠inst/\(p.dr.length:Int)<=q.a.inst)):=by
 rw[qM]at h;dsimp only at h;split at h
 ·cases h
 ·rename_i hn;have h0:0<=inst/\inst<p.count:=by omega
  obtain⟨k,rfl⟩:∃k:Nat,inst=k:=⟨inst.toNat,oM⟩
  have hk:k<p.count:=by omega
  have JE:=aH hc;split at h
  ·rename_i hl;obtain⟨q',Le,rfl⟩:=oe.1 h;have hle:=vO hc hk;rcases hle with⟨_,l1,l2,l3,l4⟩|⟨e,_⟩
   ·obtain⟨ok,e1,e2⟩:=Oa Le Z9 Z9 Z9 hs (λe=>Xg hc hk hl e.symm);refine⟨⟨by dsimp only[cX];omega,by dsimp only[cX];omega,hs,by dsimp only[cX];omega,Xg hc hk hl,?_,?_,?_⟩,h0.1,h0.2,.inl ⟨hl,rfl,rfl⟩⟩
    ·have:=ok.hb;rw[e2]at this;exact this
    ·have:=ok.ha;rw[e1]at this;exact this
    ·have:=ok.dq;rw[e1,e2]at this;dsimp only[cX];rw[this];exact Int.min_comm _ _
   ·rw[e]at hl;cases hl
  ·rename_i hl;have hm:k<p.dr.length:=by
    rcases vO hc hk with⟨e,_⟩|⟨_,e⟩
    ·exact absurd e hl
    ·exact e
   rcases qq.1 h with h|h
   ·obtain⟨j,hj,h⟩:=yg.1 h;have hj:=zh.1 hj;rw[ml]at hj;have s1:=dD hc (a:=k) (b:=k+1+j) oM oM;have s2:=Vg hc (a:=k) (b:=k+1+j) oM oM;have ec:((k:Int)+1+j)=((k+1+j:Nat):Int):=by omega
    rw[ec]at h;obtain⟨ok,e1,e2⟩:=Oa h Z9 Z9 hs hs Z9;exact⟨ok,h0.1,h0.2,.inr ⟨oM,by rw[e1];dsimp only;omega,by rw[e1];exact s2⟩⟩
   ·obtain⟨j,hj,h⟩:=yg.1 h;have hj:=zh.1 hj;rw[ml]at hj;have s1:=dD hc (a:=j) (b:=k) oM oM;have s2:=Vg hc (a:=j) (b:=k) oM oM;obtain⟨ok,e1,e2⟩:=Oa h Z9 Z9 Z9 hs Z9;exact⟨ok,h0.1,h0.2,.inr ⟨oM,by rw[e1];dsimp only;omega,by rw[e1];exact s2⟩⟩
def zVs {s:Int}:∀(r:List Quote) (q:Quote),r.foldl (λb q=>if jj s q.dp b.dp then q else b) q∈q::r
 |[],q=>jg
 |x::r,q=>by
  rw[DN];have:=zVs (s:=s) r (if jj s x.dp q.dp then x else q);rcases ku.1 this with e|h
  ·rw[e];split
   ·exact jx _ jg
   ·exact jg
  ·exact jx _ (jx _ h)
def Y2 {l:List Quote} {s:Int} (h:(zN l s).2=ao):(zN l s).1∈l:=by
 cases l with
 |nil=>cases h
 |cons q r=>exact zVs r q
def VS (B:List (List zE)):Prop:=∀(k:Nat) (L:List zE),B[k]?=av L->(∀o∈L,Kr o)/\(L.map (·.id)).Nodup/\L.length<=250
def ia.fy.oI {s:ia} {p:fj} {B:List (List zE)} (h:s.fy p B):VS B:=by
 intro k L hL;obtain⟨b,hb⟩:=z6 (l:=s.fc) (i:=k) (by rw[h.bl];exact(ju.1 hL).1);exact(h.bk k b L hb hL).oI
def V6:∀{l:List zE} {v:Lv},(∀o∈l,Kr o)->v∈qg l->1<=v.dq/\v.dq<=1000000*l.length
 |[],v,_,h=>by cases h
 |o::l,v,ho,h=>by
  have h0:=(ho o jg).q;have ih:∀v∈qg l,1<=v.dq/\v.dq<=1000000*l.length:=λv hv=>V6 (λx hx=>ho x (jx _ hx)) hv
  rw[qg]at h;rw[iY];split at h
  ·rw[xj]at h;subst h;dsimp only;omega
  ·rename_i w ws e;rw[e]at ih;have hw:=ih w jg;split at h
   ·rcases ku.1 h with rfl|h
    ·dsimp only;omega
    ·have:=ih v (jx _ h);omega
   ·rcases ku.1 h with rfl|h
    ·dsimp only;omega
    ·have:=ih v h;omega
def yAm {L:List zE} {s:Int} (h:∀o∈L,Kr o) (hl:L.length<=250) (hb:(gm L s).2=ao):1<=(gm L s).1.dq/\(gm L s).1.dq<=250000000:=by
 rw[gm]at hb ⊢;cases NL:x7 L s with
 |nil=>rw[NL]at hb;cases hb
 |cons v vs=>
  dsimp only;have hm:v∈qg (L.filter λo=>decide (o.side=s)):=by rw[<- x7,NL];exact jg
  have:=V6 (λo ho=>h o (qk.1 ho).1) hm;have:=GX (λo:zE=>decide (o.side=s)) L;omega
def KF {B:List (List zE)} {k:Nat} {L:List zE} (hL:B[k]? =av L):(B.map yS).getD k fq=yS L:=zJ (by rw[uz,hL];rfl)
def gS (L:List zE) {s:Int} (hs:s=1\/s=2):(yS L).has s=(gm L s).2/\(yS L).dq s=(gm L s).1.dq/\(yS L).dp s=(gm L s).1.dp:=by
 obtain⟨e1,e2,e3,e4,e5,e6⟩:=TI L;rcases hs with rfl|rfl
 ·exact⟨e3,e2,e1⟩
 ·exact⟨e6,e5,e4⟩
def eD {p:fj} {B:List (List zE)} (h:jo p B) (ho:VS B) {inst:Int} (hi:0<=inst/\inst<B.length) {s:Int} (hs:s=1\/s=2) (hn:(z7 p B inst s).2.2=ao):
 (1<=(z7 p B inst s).1.dq/\(z7 p B inst s).1.dq<=250000000)/\((z7 p B inst s).2.1=ao->(z7 p B inst s).1∈qM ⟨p,B.map yS,inst⟩ s/\QOk (B.map yS) (z7 p B inst s).1)/\
 ((z7 p B inst s).2.1=am->(gm (B.getD inst.toNat []) s).2=ao/\(z7 p B inst s).1.dp=(gm (B.getD inst.toNat []) s).1.dp/\(z7 p B inst s).1.dq=(gm (B.getD inst.toNat []) s).1.dq):=by
 obtain⟨k,rfl⟩:∃k:Nat,inst=k:=⟨inst.toNat,oM⟩
 obtain⟨L,hL⟩:=z6 (l:=B) (i:=k) oM;have hLo:=ho k L hL;rw[z7]at hn ⊢;rw[ml,zJ hL]at hn ⊢;split
 ·rename_i c;simp only[ld]at c;exact⟨yAm hLo.1 hLo.2.2 c.1,⟨λe=>(by cases e),λ_=>⟨c.1,rfl,rfl⟩⟩⟩
 ·rename_i c;rw[dx c]at hn;dsimp only at hn ⊢;have hm:=Y2 hn;have ha:(zN (yC ⟨p,B.map yS,k⟩ s) s).1∈qM ⟨p,B.map yS,k⟩ s:=(qk.1 hm).1;obtain⟨ok,_⟩:=yEi h.pc (by rw[iz];exact h.bl) hs ha;refine⟨?_,λ_=>⟨ha,ok⟩,λe=>by rw[hn]at e;cases e⟩;generalize (zN (yC ⟨p,B.map yS,k⟩ s) s).1=q at ok;have a:=ok.a;have b:=ok.b;rw[iz]at a b;obtain⟨La,DZ⟩:=z6 (l:=B) (i:=q.a.inst.toNat) oM;obtain⟨Lb,Hc⟩:=z6 (l:=B) (i:=q.b.inst.toNat) oM;have e1:=ok.ha;have e2:=ok.hb;have e3:=ok.dq;rw[KF DZ]at e1 e3;rw[KF Hc]at e2 e3;rw[(gS La ok.sa).1]at e1;rw[(gS Lb ok.sb).1]at e2;rw[(gS La ok.sa).2.1,(gS Lb ok.sb).2.1]at e3;have:=yAm (ho _ _ DZ).1 (ho _ _ DZ).2.2 e1;have:=yAm (ho _ _ Hc).1 (ho _ _ Hc).2.2 e2;omega
def Ud {L:List zE} {id q:Int} {o:zE} (h:o∈(x4 L id q).1):∃o'∈L,o.dp=o'.dp/\o.side=o'.side/\o.id=o'.id:=by
 rw[x4]at h;split at h
 ·exact⟨o,h,rfl,rfl,rfl⟩
 split at h
 ·exact⟨o,h,rfl,rfl,rfl⟩
 obtain⟨o',ln,e⟩:=HB.1 h;refine⟨o',ln,?_⟩;split at e
 ·split at e
  ·cases e
  ·cases e;exact⟨rfl,rfl,rfl⟩
 ·cases e;exact⟨rfl,rfl,rfl⟩
def jo.take {p:fj} {B:List (List zE)} (h:jo p B) (id q:Int):jo p (yZ B id q).1:=by
 refine⟨h.pc,h.ps,by rw[sW];exact h.bl,λk L hL o ho=> ?_⟩;rw[yZ]at hL;split at hL
 ·exact h.pr k L hL o ho
 ·rename_i j hj;dsimp only at hL;rcases uO hL with⟨rfl,rfl⟩|⟨_,hL⟩
  ·obtain⟨o',ln,e,_⟩:=Ud ho;obtain⟨L',zx,_⟩:=xR hj;rw[zJ zx]at ln;rw[e];exact h.pr k L' zx o' ln
  ·exact h.pr k L hL o ho
def jo.takes {p:fj}:∀{fs:List uV} {B:List (List zE)},jo p B->jo p (y8 B fs)
 |[],B,h=>h
 |f::fs,B,h=>jo.takes (fs:=fs) (h.take f.id f.dq)
def z1t (inst s:Int):∀(os:List zE) (sh:List Int),(yM inst s os sh).length<=os.length
 |[],sh=>mg 0
 |o::os,[]=>oQ _
 |o::os,k::sh=>by
  have:=z1t inst s os sh;rw[yM];split
  ·simp only[iY];omega
  ·simp only[iY];omega
def rV {p:fj} {B:List (List zE)} (ho:VS B) (inst s q:Int):(xA p B inst s q).length<=250:=by
 refine wu (z1t _ _ _ _) (wu (GX _ _) ?_);by_cases h:inst.toNat<B.length
 ·obtain⟨L,hL⟩:=z6 h;rw[zJ hL];exact(ho _ _ hL).2.2
 ·rw[mi,ue (by omega)];exact oQ _
def rD {p:fj} {B:List (List zE)} {inst:Int} {sd:Bool} {dp q:Int} {t:kX} {B':List (List zE)} (hq:1<=q) (h:wJ p B inst sd dp q=av (t,B')):1<=t.dq/\t.dq<=q:=by
 rw[wJ]at h;dsimp only at h;split at h
 ·rename_i c;simp only[ld,sm]at c;split at h
  ·cases h;dsimp only;omega
  ·cases h;dsimp only;omega
 ·cases h
def z5c {p:fj} {inst:Int} {sd:Bool} {dp:Int}:∀(m n:Nat) (B:List (List zE)) (q:Int),q.toNat<=m->q.toNat<=n->Ei p inst sd dp m B q=Ei p inst sd dp n B q
 |0,0,B,q,_,_=>rfl
 |0,n+1,B,q,h,_=>by rw[Ei,Ei,fk (by omega)]
 |m+1,0,B,q,_,h=>by rw[Ei,Ei,fk (by omega)]
 |m+1,n+1,B,q,h1,h2=>by
  rw[Ei,Ei];split
  ·rfl
  ·rename_i hq;cases hs:wJ p B inst sd dp q with
   |none=>rfl
   |some x=>
    obtain⟨t,B'⟩:=x;have:=rD oM hs;dsimp only;rw[z5c m n B' (q-t.dq) (by omega) (by omega)]
def jS {p:fj} {B:List (List zE)} {inst:Int} {sd:Bool} {dp q:Int} (h:q<=0\/wJ p B inst sd dp q=aw):qC p B inst sd dp q=⟨[],q,B⟩:=by
 rw[qC];cases hn:q.toNat with
 |zero=>rfl
 |succ n=>
  rw[Ei];rcases h with h|h
  ·rw[fk h]
  ·rw[dx (by omega),h]
def aP {p:fj} {B:List (List zE)} {inst:Int} {sd:Bool} {dp q:Int} {t:kX} {B':List (List zE)} (hq:1<=q) (h:wJ p B inst sd dp q=av (t,B')):
 qC p B inst sd dp q=⟨t::(qC p B' inst sd dp (q-t.dq)).steps,(qC p B' inst sd dp (q-t.dq)).left,(qC p B' inst sd dp (q-t.dq)).B⟩:=by
 have ht:=rD hq h;rw[qC];cases hn:q.toNat with
 |zero=>omega
 |succ n=>
  rw[Ei,dx (by omega),h];dsimp only;rw[z5c n (q-t.dq).toNat B' (q-t.dq) (by omega) (mg _)];rfl
def fA {s:Int} (h:s=1\/s=2):zA (decide (s=2))=s:=by
 rcases h with rfl|rfl<;>rfl
def xAh (i:oh) (h:RO.du i):y9b i:=by
 obtain⟨hR,hB,⟨h0,h1⟩,u',tw⟩:i.s.fy i.p i.B/\jo i.p i.B/\(0<=i.inst/\i.inst<i.B.length)/\1<=i.q/\i.q<=1000000:=h;have wg:=hR.bl;have xy:=xQ i.p;have hbB:=hB.bl;unfold y9b z7u QA Qb fp bH ON fW XW Uh XS yD aL QA Qb dI;refine(λhT=>zI (λc=>zI (λc2=>Cv.du.mk (λ_=>zI (λ_=>Cv.du.mk (λe=>absurd tw (by simpa using e)) (λ_=>hT)) (λe=>absurd u' e)) (λe1=>Cv.du.mk (λ_=>zI (λ_=>Cv.du.mk (λe=>absurd tw (by simpa using e)) (λ_=>hT)) (λe=>absurd u' e)) (λe2=>by
  rcases aC i.sd with e|e
  ·rw[e]at e1;cases e1
  ·rw[e]at e2;cases e2))) (λc2=>absurd oM c2)) (λc=>absurd h0 c)) ?_
 refine⟨⟨i.s,i.B,[],i.q⟩,iH (oE ⟨rfl,λj=>j.s.fy i.p j.B/\jo i.p j.B/\j.B.length=i.B.length/\(0<=j.q/\j.q<=i.q)/\(j.steps.length:Int)<=i.q-j.q/\i.r=⟨j.steps++(qC i.p j.B i.inst i.sd i.dp j.q).steps,(qC i.p j.B i.inst i.sd i.dp j.q).left,(qC i.p j.B i.inst i.sd i.dp j.q).B⟩,λj=>j.q.toNat,⟨hR,hB,rfl,⟨Z9,yl _⟩,by dsimp only;simp,rfl⟩,?_⟩)⟩;rintro⟨s,B,st,q⟩ ⟨r1,r2,r3,⟨r4,r4'⟩,r5,r6⟩;dsimp only at r1 r2 r3 r4 r4' r5 r6 ⊢;have A7 (hn:q<=0\/wJ i.p B i.inst i.sd i.dp q=aw):∃(o:ia),i.r.left=q/\aj ia (5:Nat) x5 o=aj ia (5:Nat) x5 s/\aa vC i.r.steps=aa vC st/\o.fy i.p i.r.B:=by
  rw[jS hn,pd]at r6;rw[r6];exact⟨s,jh r1⟩
 refine zI (λc=> ?_) (λc=>A7 (.inl oM));have c:0<q:=c;refine⟨i.sd,rfl,trivial,λ_ _=>⟨⟨s,i.p,B,i.inst,!i.sd⟩,rfl,rfl,rfl,⟨r1,r2,h0,Z9⟩,λ_ _=> ?_⟩⟩;dsimp only;have hni:=eD r2 r1.oI (inst:=i.inst) ⟨h0,oM⟩ (aC (!i.sd));have EB:wJ i.p B i.inst i.sd i.dp q=(if((z7 i.p B i.inst (zA (!i.sd))).2.2 && (wA i.sd i.dp (z7 i.p B i.inst (zA (!i.sd))).1.dp && decide (1<=(z7 i.p B i.inst (zA (!i.sd))).1.dq)))=ao then
  if(z7 i.p B i.inst (zA (!i.sd))).2.1=ao then
   av (⟨(z7 i.p B i.inst (zA (!i.sd))).1.dp,min q (z7 i.p B i.inst (zA (!i.sd))).1.dq,ao,xA i.p B (z7 i.p B i.inst (zA (!i.sd))).1.a.inst (z7 i.p B i.inst (zA (!i.sd))).1.a.side (min q (z7 i.p B i.inst (zA (!i.sd))).1.dq)++xA i.p (y8 B (xA i.p B (z7 i.p B i.inst (zA (!i.sd))).1.a.inst (z7 i.p B i.inst (zA (!i.sd))).1.a.side (min q (z7 i.p B i.inst (zA (!i.sd))).1.dq))) (z7 i.p B i.inst (zA (!i.sd))).1.b.inst (z7 i.p B i.inst (zA (!i.sd))).1.b.side (min q (z7 i.p B i.inst (zA (!i.sd))).1.dq)⟩,y8 (y8 B (xA i.p B (z7 i.p B i.inst (zA (!i.sd))).1.a.inst (z7 i.p B i.inst (zA (!i.sd))).1.a.side (min q (z7 i.p B i.inst (zA (!i.sd))).1.dq))) (xA i.p (y8 B (xA i.p B (z7 i.p B i.inst (zA (!i.sd))).1.a.inst (z7 i.p B i.inst (zA (!i.sd))).1.a.side (min q (z7 i.p B i.inst (zA (!i.sd))).1.dq))) (z7 i.p B i.inst (zA (!i.sd))).1.b.inst (z7 i.p B i.inst (zA (!i.sd))).1.b.side (min q (z7 i.p B i.inst (zA (!i.sd))).1.dq)))
  else av (⟨(z7 i.p B i.inst (zA (!i.sd))).1.dp,min q (z7 i.p B i.inst (zA (!i.sd))).1.dq,am,xA i.p B i.inst (zA (!i.sd)) (min q (z7 i.p B i.inst (zA (!i.sd))).1.dq)⟩,y8 B (xA i.p B i.inst (zA (!i.sd)) (min q (z7 i.p B i.inst (zA (!i.sd))).1.dq)))else aw):=rfl
 generalize z7 i.p B i.inst (zA (!i.sd))=nb at hni EB ⊢;refine Cv.du.mk (λn1=> ?_) (λn1=>⟨⟨i.sd,i.dp,nb.1.dp⟩,rfl,rfl,rfl,trivial,λ_ _=>Cv.du.mk (λn2=> ?_) (λn2=> ?_)⟩)
 ·have n1:nb.2.2=am:=by simpa using n1
  rw[n1,dx (by simp)]at EB;exact A7 (.inr EB)
 ·have n2:wA i.sd i.dp nb.1.dp=am:=by simpa using n2
  rw[n2,dx (by simp)]at EB;exact A7 (.inr EB)
 have n1:nb.2.2=ao:=by simpa using n1
 have n2:wA i.sd i.dp nb.1.dp=ao:=by simpa using n2
 obtain⟨⟨b1,b2⟩,hi,hr⟩:=hni n1;rw[n1,n2,kx b1,fk (by rfl)]at EB;have hk:ie (min q nb.1.dq):=by constructor<;>omega
 have yq:(st.length+1)*48<=140737488355328:=by omega
 have beh:∀(t:kX) (B':List (List zE)) (s':ia),wJ i.p B i.inst i.sd i.dp q=av (t,B')->s'.fy i.p B'->jo i.p B'->B'.length=B.length->
  (s'.fy i.p B'/\jo i.p B'/\B'.length=i.B.length/\(0<=q-t.dq/\q-t.dq<=i.q)/\((st++[t]).length:Int)<=i.q-(q-t.dq)/\i.r=⟨(st++[t])++(qC i.p B' i.inst i.sd i.dp (q-t.dq)).steps,(qC i.p B' i.inst i.sd i.dp (q-t.dq)).left,(qC i.p B' i.inst i.sd i.dp (q-t.dq)).B⟩)/\(q-t.dq).toNat<q.toNat:=by
  intro t B' s' h1 h2 h3 h4;have ht:=rD oM h1;refine⟨⟨h2,h3,oM,⟨oM,oM⟩,by rw[iQ,Cj];omega,?_⟩,oM⟩;rw[aP (by omega) h1]at r6;rw[r6,km];rfl
 refine Cv.du.mk (λn3=> ?_) (λn3=> ?_)
 ·obtain⟨_,ok⟩:=hi n3;rw[n3,fk rfl]at EB;have oka:=ok.a;have okb:=ok.b;rw[iz]at oka okb;have ea:=fA ok.sa;have eb:=fA ok.sb;refine⟨⟨s,i.p,B,nb.1.a.inst,decide (nb.1.a.side=2),min q nb.1.dq⟩,rfl,ea,rfl,rfl,⟨r1,r2,oka.1,oka.2,hk⟩,λs1 vg=> ?_⟩;dsimp only at vg ⊢;rw[ea]at vg ⊢;have l1:=rV (p:=i.p) r1.oI nb.1.a.inst nb.1.a.side (min q nb.1.dq);have NR:=r2.takes (fs:=xA i.p B nb.1.a.inst nb.1.a.side (min q nb.1.dq));have l2:=rV (p:=i.p) vg.oI nb.1.b.inst nb.1.b.side (min q nb.1.dq);refine⟨trivial,by rw[iz];omega,⟨s1,i.p,y8 B (xA i.p B nb.1.a.inst nb.1.a.side (min q nb.1.dq)),nb.1.b.inst,decide (nb.1.b.side=2),min q nb.1.dq⟩,rfl,eb,rfl,rfl,⟨vg,NR,okb.1,by dsimp only;rw[qT];exact okb.2,hk⟩,λs2 yu=> ?_⟩;dsimp only at yu ⊢;rw[eb]at yu ⊢;obtain⟨g1,g2⟩:=beh _ _ s2 EB yu NR.takes (by rw[qT,qT]);refine⟨trivial,by rw[iz,iz];omega,by rw[iz];exact yq,⟨s2,_,st++[_],_⟩,?_,rfl,?_,g1,g2,ic⟩
  ·dsimp only;rw[iD (by omega)]
  ·dsimp only;rw[jz,n3];simp[vC]
 ·rw[n3,dx (by decide)]at EB;refine⟨i.sd,rfl,trivial,λ_ _=>⟨rfl,⟨s,i.p,B,i.inst,!i.sd,min q nb.1.dq⟩,jh ⟨rfl,⟨r1,r2,h0,Z9,hk⟩,λs1 vg=> ?_⟩⟩⟩;dsimp only at vg ⊢;obtain⟨g1,g2⟩:=beh _ _ s1 EB vg r2.takes (by rw[qT]);refine⟨by rw[iz];exact yq,⟨s1,_,st++[_],_⟩,?_,rfl,?_,g1,g2,ic⟩
  ·dsimp only;rw[iD (by omega)]
  ·dsimp only;rw[jz,n3];simp[vC]
def yAc:RO.ok Tryz.prog 216:=ix mixed (dz ySm (dz zVi (dz z2h (dz yOo fx)))) 2 (λ_=>[]) (λ_=>xBp) [0] Tryz.func216 xAh
def yLc {L:List zE} {s id p q:Int} {o:zE} (h:o∈Cf L s id p q):o.dp=p\/∃o'∈L,o.dp=o'.dp:=by
 have key:∀X:List zE,(o∈X.takeWhile (before s p)++⟨id,s,p,q,fG L s p⟩::X.dropWhile (before s p))->o.dp=p\/o∈X:=by
  intro X hX;rcases qq.1 hX with hX|hX
  ·exact .inr (List.takeWhile_sublist _|>.subset hX)
  ·rcases ku.1 hX with rfl|hX
   ·exact .inl rfl
   ·exact .inr (List.dropWhile_sublist _|>.subset hX)
 rw[Cf]at h;split at h
 ·rcases key _ h with h|h
  ·exact .inl h
  ·obtain⟨o',ln,_,_,e,_⟩:=yAr h;exact .inr ⟨o',ln,e⟩
 ·rcases key _ h with h|h
  ·exact .inl h
  ·exact .inr ⟨o,h,rfl⟩
def jo.add {p:fj} {B:List (List zE)} (h:jo p B) (inst id s dp q:Int):jo p (lZ p B inst id s dp q).1:=by
 rw[lZ];split
 ·exact h
 split
 ·exact h
 split
 ·exact h
 split
 ·exact h
 rename_i c1 _ _ c4;have c4:p.dp inst dp=0:=by simpa using c4
 refine⟨h.pc,h.ps,by simpa using h.bl,λk L hL o ho=> ?_⟩;dsimp only at hL;rcases uO hL with⟨rfl,rfl⟩|⟨_,hL⟩
 ·obtain⟨L',zx⟩:=z6 (l:=B) (i:=inst.toNat) oM;rw[zJ zx,lS]at ho;have e:((inst.toNat:Nat):Int)=inst:=by omega
  repeat' split at ho
  ·exact h.pr _ L' zx o ho
  ·exact h.pr _ L' zx o ho
  ·exact h.pr _ L' zx o ho
  ·rcases yLc ho with h1|⟨o',ln,h1⟩
   ·rw[h1,e];exact c4
   ·rw[h1];exact h.pr _ L' zx o' ln
 ·exact h.pr k L hL o ho
def jo.new {p:fj} (hc:p.check=0) (hp:p.small):jo p (ab p.count []):=by
 refine⟨hc,hp,by simp,λk L hL o ho=> ?_⟩;rw[K2 (mc hL)]at ho;cases ho
def ia.fy.fit {s:ia} {p:fj} {B:List (List zE)} (h:s.fy p B) (hb:jo p B):s.fit:=by
 have:=xQ p;refine⟨by rw[h.ep];exact hb.ps,by rw[h.bl,hb.bl];omega,λb hm=> ?_⟩;obtain⟨k,hk⟩:=AB.1 hm;have iq:=(ju.1 hk).1;rw[h.bl]at iq;obtain⟨L,hL⟩:=z6 iq;exact(h.bk k b L hk hL).fit
def GI (r:Nat):Bool:=decide (32<=r) && decide (r≠127) && decide (r≠65533)
def cA (s:List UInt8):Bool:=(jN s).all GI && decide (1<=(jN s).length) && decide ((jN s).length<=12)
def R8:gx:=gh (List UInt8) (λs=>[sV s]) (λ_=>[]) (λs=>s.length<=140737488355328) (λs=>y4 (cA s)) (λ_=>[])
def xBy (s:List UInt8):List ib:=[{ι:=Nat×Nat,dv:=λx=>[(3,zB x.2),(7,.nm 0 0)],rows:=λx=>[.iter (sb s) x.1]}]
def uK (n:Int):Bool:=decide (-2000000<=n) && decide (n<=2000000)
def jD (n:Int):Bool:=decide (1<=n) && decide (n<=1000000)
def ir.gv (c:ir):Int:=
 if c.side≠1/\c.side≠2 then 21 else if c.time<1\/3<c.time then 27 else if jD c.dq=am then 24 else if c.least<0\/c.dq<c.least then 28
 else if c.label≠[]/\cA c.label=am then 29 else if uK c.dp=am then 23 else if c.inst<0\/255<c.inst then 20 else 0
def ir.right (c:ir):Int:=
 if c.kind<1\/4<c.kind then 31 else if c.id<1\/1099511627776<c.id then 1 else if c.kind=1 then c.gv
 else if c.kind≠2/\jD c.dq=am then 24 else if c.kind=4/\uK c.dp=am then 23 else 0
def DF:gx:=gh ir (λc=>[CP c]) (λ_=>[]) (λc=>c.label.length<=140737488355328) (λc=>zB c.gv) (λ_=>[])
def Gl:gx:=gh ir (λc=>[CP c]) (λ_=>[]) (λc=>c.label.length<=140737488355328) (λc=>zB c.right) (λ_=>[])
open Classical
def RB.byte (r:RB):Int×RB:=(kA (r.n 1).mr,⟨(r.n 1).left,(r.n 1).bad⟩)
def RB.jk (r:RB):Int×RB:=(aq.wrap (kA (r.n 8).mr),⟨(r.n 8).left,(r.n 8).bad⟩)
def RB.vp (r:RB):Int:=if r.b then 10 else if 0<r.l.length then 15 else 0
@[reducible] def Rv (r:RB):fw:=Rd r.l r.b
@[reducible] def RB.ok (i:RB):Prop:=i.l.length<=1099511627776
def RB.text (r:RB):List UInt8×RB:=((r.byte.2.n r.byte.1.toNat).mr,⟨(r.byte.2.n r.byte.1.toNat).left,(r.byte.2.n r.byte.1.toNat).bad⟩)
def l6 (s:List UInt8):List UInt8:=pf (s.take 255).length::s.take 255
def ir.tail (c:ir):List UInt8:=
 if c.kind=1 then pf c.inst::pf c.side::pf c.time::(le c.dp 8++(le c.dq 8++(le c.least 8++l6 c.label)))
 else if c.kind=3 then le c.dq 8 else if c.kind=4 then le c.dp 8++le c.dq 8 else[]
def ir.enc (c:ir):List UInt8:=if c.right≠0 then[]else pf c.kind::(le c.id 8++c.tail)
def qE (k id:Int) (r:RB):ir×RB:=
 if k=1 then
  let a:=r.byte;let b:=a.2.byte;let t:=b.2.byte;let x:=t.2.jk;let y:=x.2.jk;let z:=y.2.jk;let w:=z.2.text
  (⟨k,id,a.1,b.1,x.1,y.1,z.1,t.1,w.1⟩,w.2)
 else if k=3 then(⟨k,id,0,0,0,r.jk.1,0,0,[]⟩,r.jk.2)
 else if k=4 then(⟨k,id,0,0,r.jk.1,r.jk.2.jk.1,0,0,[]⟩,r.jk.2.jk.2)
 else(⟨k,id,0,0,0,0,0,0,[]⟩,r)
def xS (b:List UInt8):ir×Int:=
 let k:=(RB.mk b am).byte
 if k.1<1\/4<k.1 then(Hl,31)else
 let x:=qE k.1 k.2.jk.1 k.2.jk.2
 if x.2.vp≠0 then(Hl,12)else if x.1.right≠0 then(Hl,x.1.right)else(x.1,0)
def ir.asks (c:ir):ir:=if c.kind=1 then c else if c.kind=2 then⟨2,c.id,0,0,0,0,0,0,[]⟩else if c.kind=3 then⟨3,c.id,0,0,0,c.dq,0,0,[]⟩else if c.kind=4 then⟨4,c.id,0,0,c.dp,c.dq,0,0,[]⟩else Hl
def VF (n:Int):((pf n).toNat:Int)=n % 256:=(T4 n).symm
def sK (x:UInt8) (l:List UInt8):RB.byte ⟨x::l,am⟩=((x.toNat:Int),⟨l,am⟩):=by
 simp[RB.byte,RB.n,RN.mr,RN.left,RN.bad,kA]
def yEz (a l:List UInt8):(RN.mk (a++l) am a.length).mr=a/\(RN.mk (a++l) am a.length).left=l/\(RN.mk (a++l) am a.length).bad=am:=by
 have h:(RN.mk (a++l) am a.length).bad=am:=by simp[RN.bad]
 simp[RN.mr,RN.left,h]
def yMx (n:Int):kA (le n 8)=n % 18446744073709551616:=by
 simp only[le,kA,VF];omega
def MO {n:Int} (h:ie n) (l:List UInt8):RB.jk ⟨le n 8++l,am⟩=(n,⟨l,am⟩):=by
 have e:(RB.mk (le n 8++l) am).n 8=RN.mk (le n 8++l) am (le n 8).length:=by rw[jB];rfl
 obtain⟨h1,h2,h3⟩:=yEz (le n 8) l;rw[RB.jk,e,h1,h2,h3,yMx];obtain⟨ha,hb⟩:=h;have:aq.wrap (n % 18446744073709551616)=n:=by
  have e:=Cv.wrap_i64 ha hb;by_cases hn:0<=n
  ·rw[show n % 18446744073709551616=n by omega];exact e
  ·have:n % 18446744073709551616=n+18446744073709551616:=by omega
   rw[this];rw[ar]at e ⊢;simp only[ar,IntKind.bits,au]at e ⊢;simp at e ⊢;omega
 rw[this]
def yJh {s:List UInt8} (h:s.length<=255) (l:List UInt8):RB.text ⟨l6 s++l,am⟩=(s,⟨l,am⟩):=by
 have ht:s.take 255=s:=oV h;have e:((pf (s.length:Int)).toNat:Int)=s.length:=by rw[VF];omega
 rw[l6,ht,tu,RB.text,sK];dsimp only;rw[e];have e:(RB.mk (s++l) am).n ((s.length:Int)).toNat=RN.mk (s++l) am s.length:=rfl;obtain⟨h1,h2,h3⟩:=yEz s l;rw[e,h1,h2,h3]
def OX {n:Int} (h:0<=n/\n<=255):((pf n).toNat:Int)=n:=by rw[VF];omega
def yDh (s:List UInt8):∀(k p:Nat),s.length-p<=k->s.length-p<=4*(fE s p).length
 |0,p,h=>by rw[hZ (by omega)];simp;omega
 |k+1,p,h=>by
  by_cases hp:p<s.length
  ·have hw:=aI s hp;have h4:(Utf8.decode (sb s) p).2<=4:=by
    unfold Utf8.decode;simp only[T3,ld,sm]
    repeat' split
    all_goals simp
   rw[wC hp,iY];have:=yDh s k (p+(Utf8.decode (sb s) p).2) oM;omega
  ·rw[hZ (by omega)];simp;omega
def yIh {s:List UInt8} (h:s=[]\/cA s=ao):s.length<=48:=by
 obtain rfl|h:=h
 ·simp
 ·simp only[cA,ld,sm]at h;have:=yDh s s.length 0 oM;rw[jN,iz]at h;omega
def eH {c:ir} (h:c.right=0):(1<=c.kind/\c.kind<=4)/\(1<=c.id/\c.id<=1099511627776)/\
 (c.kind≠2->1<=c.dq/\c.dq<=1000000)/\(c.kind=1\/c.kind=4->-2000000<=c.dp/\c.dp<=2000000)/\
 (c.kind=1->(c.side=1\/c.side=2)/\(1<=c.time/\c.time<=3)/\(0<=c.least/\c.least<=c.dq)/\(0<=c.inst/\c.inst<=255)/\c.label.length<=48):=by
 rw[ir.right]at h;split at h;·cases h
 split at h;·cases h
 rename_i h1 h2;refine⟨oM,oM,?_⟩;split at h
 ·rename_i hk;rw[ir.gv]at h
  iterate 7 (split at h;·cases h)
  rename_i a1 a2 a3 a4 a5 a6 a7;simp only[jD,ap,ld,sm]at a3;simp only[uK,ap,ld,sm]at a6;refine⟨λ_=>a3,λ_=>a6,λ_=>⟨oM,oM,oM,oM,yIh ?_⟩⟩;by_cases hl:c.label=[]
  ·exact .inl hl
  ·exact .inr (by simpa[hl]using a5)
 ·rename_i hk;split at h;·cases h
  split at h;·cases h
  rename_i a1 a2;refine⟨λh2=> ?_,λh2=> ?_,λh2=>absurd h2 hk⟩
  ·simpa[h2,jD]using a1
  ·simpa[show c.kind=4 by omega,uK]using a2
def yMn {n:Int} (h:ie n):RB.jk ⟨le n 8,am⟩=(n,⟨[],am⟩):=by
 have:=MO h [];rwa [pd]at this
def yQe {s:List UInt8} (h:s.length<=255):RB.text ⟨l6 s,am⟩=(s,⟨[],am⟩):=by
 have:=yJh h [];rwa [pd]at this
def ySp {c:ir} (h:c.right=0):qE c.kind c.id ⟨c.tail,am⟩=(c.asks,⟨[],am⟩):=by
 obtain⟨hk,hi,hq,hp,ho⟩:=eH h;rw[qE,ir.tail,ir.asks];by_cases h1:c.kind=1
 ·obtain⟨hs,ht,hl,hn,hb⟩:=ho h1;have hq:=hq oM;have hp:=hp (.inl h1);simp only[fk h1];rw[sK];dsimp only;rw[sK];dsimp only;rw[sK];dsimp only;rw[MO ⟨by omega,by omega⟩];dsimp only;rw[MO ⟨by omega,by omega⟩];dsimp only;rw[MO ⟨by omega,by omega⟩];dsimp only;rw[yQe (by omega),OX (by omega),OX (by omega),OX (by omega)]
 ·by_cases h3:c.kind=3
  ·have hq:=hq oM;simp only[h3,fk,dx,show ¬((3:Int)=1)by decide,show ¬((3:Int)=2)by decide,if_false,if_true];rw[yMn ⟨by omega,by omega⟩]
  ·by_cases h4:c.kind=4
   ·have hq:=hq oM;have hp:=hp (.inr h4);simp only[h4,show ¬((4:Int)=1)by decide,show ¬((4:Int)=2)by decide,show ¬((4:Int)=3)by decide,if_false,if_true];rw[MO ⟨by omega,by omega⟩];dsimp only;rw[yMn ⟨by omega,by omega⟩]
   ·have h2:c.kind=2:=by omega
    simp only[h2,show ¬((2:Int)=1)by decide,show ¬((2:Int)=4)by decide,show ¬((2:Int)=3)by decide,if_false,if_true]
def z6v {c:ir} (h:c.right=0):c.asks.right=0:=by
 obtain⟨hk,hi,hq,hp,ho⟩:=eH h;rw[ir.asks];split
 ·exact h
 split
 ·rw[ir.right];simp only[];repeat (first|rw[dx (by omega)]|rw[dx (by decide)]|rw[dx (by simp)])
 split
 ·have:=hq oM;rw[ir.right];simp only[];rw[dx (by decide),dx (by omega),dx (by decide),dx (by simp[jD];omega),dx (by simp)]
 split
 ·have:=hq oM;have:=hp (.inr oM);rw[ir.right];simp only[];rw[dx (by decide),dx (by omega),dx (by decide),dx (by simp[jD];omega),dx (by simp[uK];omega)]
 ·omega
def yCh {c:ir} (h:c.right=0):xS c.enc=(c.asks,0):=by
 obtain⟨hk,hi,_⟩:=eH h;have e:c.enc=pf c.kind::(le c.id 8++c.tail):=by rw[ir.enc,dx (by simp[h])]
 rw[xS,e,sK];dsimp only;rw[OX (by omega),dx (by omega),MO ⟨by omega,by omega⟩];dsimp only;rw[ySp h];dsimp only;rw[dx (by simp[RB.vp]),dx (by rw[z6v h];simp)]
end Sx
