/- Texts of ours. No condition. -/
import Derived.Test.YtfmobncdogfbmaaGreatQ7
set_option linter.all false
open List renaming map->ab,replicate->ac,take->ae
open Sx.fq renaming kj->af,kq->ag,cells->aj,rh->ak,own->am
open Bool renaming false->ao,true->ap
open Go.IntKind renaming i64->aq
open Option renaming some->ar,none->au
open Exists renaming intro->av
open And renaming intro->aw
namespace Sx
set_option maxRecDepth 100000
open Go Cv Go.Proofs
def Vp (a:Nat->Prop) (b:Nat) (c:Nat->Nat) (d:Nat) (e:Ic) (f:ur):Prop:=a b/\c b<c d/\dl (aj [V.nm 1 0,V.own 2,V.own 3,V.mp 4,V.d (dI e.b.iK),V.d (dI e.b.iJ),V.own 5,V.d (D.v (.bool e.b.gv)),V.d (D.v (.bool e.b.gq))] (284:TypeId))/\ak dv 3 zH f.a=ak dv 3 zH e.b.a/\QP e.b (dl (am 3 1 (iE e.b.spare)))
def mQ (a:Nat) (b:Ic):=(ae a (uE b.L (zF ao)))
def y1x (i:Ic):Prop:=
 ∃(a:Int),a=zF ao/\True/\ff (dp (kX a) (dx (Qf i.b (ab im (uE i.L (zF ao))=[]/\True))) (∃(c:Nat),(c:Int)=0/\ab im (mQ c i)=[]/\∃(d:Nat->Prop),∃(e:Nat->Nat),d c/\∀(f:Nat),d f->dp (decide ((f:Int)<((ab zC i.b.fv).length:Int))) ((0<=(f:Int)/\(f:Int)<((ab zC i.b.fv).length:Int))/\∃(g:Int),∃(h:Int),zD (ab zC i.b.fv) (f:Int).toNat 0 2=ar [dI g,dI h]/\∃(j:ur),H9 j h i.b (True/\ff (h=h/\True/\g=g/\∃(l:ur),l.n=h/\ak dv 3 zH l.a=ak dv 3 zH j.a/\True/\ff (g=g/\((ab im (mQ f i)).length+1)*(24:Nat)<=(140737488355328:Nat)/\∃(n:Nat),(n:Int)=aq.wrap ((f:Int)+1)/\ab im (mQ n i)=ab im (mQ f i)++[[dI g,dI ((j.a.qg j.n).total),dI ((l.a.qg l.n).count)]]/\Vp d n e f i l)))) (dx (Qf i.b (ab im (uE i.L (zF ao))=ab im (mQ f i)/\True)))))
def mV (a:Nat) (b:Ic):=(ae a (uE b.L (zF ap)))
def y1p (i:Ic):Prop:=
 ∃(a:Int),a=zF ap/\True/\ff (dp (kX a) (dx (Qf i.b (ab im (uE i.L (zF ap))=[]/\True))) (∃(c:Nat),(c:Int)=0/\ab im (mV c i)=[]/\∃(d:Nat->Prop),∃(e:Nat->Nat),d c/\∀(f:Nat),d f->dp (decide ((f:Int)<((ab zC i.b.fc).length:Int))) ((0<=(f:Int)/\(f:Int)<((ab zC i.b.fc).length:Int))/\∃(g:Int),∃(h:Int),zD (ab zC i.b.fc) (f:Int).toNat 0 2=ar [dI g,dI h]/\∃(j:ur),H9 j h i.b (True/\ff (h=h/\True/\g=g/\∃(l:ur),l.n=h/\ak dv 3 zH l.a=ak dv 3 zH j.a/\True/\ff (g=g/\((ab im (mV f i)).length+1)*(24:Nat)<=(140737488355328:Nat)/\∃(n:Nat),(n:Int)=aq.wrap ((f:Int)+1)/\ab im (mV n i)=ab im (mV f i)++[[dI g,dI ((j.a.qg j.n).total),dI ((l.a.qg l.n).count)]]/\Vp d n e f i l)))) (dx (Qf i.b (ab im (uE i.L (zF ap))=ab im (mV f i)/\True)))))
def lE (a:Nat×j'->Prop) (b:Nat×j') (c:gy) (d:Nat) (e:dq):Prop:=a b/\dl (am 3 1 [[dI 1],[dI 2]])/\dl (qB c 0)/\af 160 dq 6 zR (c.eg.set (d:Int).toNat e) au=qB c 1/\dl (qB c 2)/\dl (qB c 3)/\dl (qB c 4)
def zHl (a:gy) (b:Nat×j') (c:Nat×j'->Prop) (d:Nat) (e:dq):Prop:=∃(f:Nat×j'),ab yC (qD a f.fst f.snd)=ab yC (qD a b.fst b.snd)/\lE c f a d e
def yUi (s:gy):Prop:=
 (V4 s)/\∃(a:Nat),(a:Int)=0/\ab yC (qP s a)=ac (s.eg.length:Int).toNat [D.v (.bool ao),D.v (.bool ao),dI 0,dI 0,dI 0,dI 0]/\∃(b:Nat->Prop),∃(c:Nat->Nat),b a/\∀(d:Nat),b d->dp (decide ((d:Int)<(s.eg.length:Int))) ((0<=(d:Int)/\(d:Int)<(s.eg.length:Int))/\(d:Int).toNat<s.eg.length/\∃(e:Nat×j'),ab yC (qD s e.fst e.snd)=ab yC (qP s d)/\∃(f:Nat×j'->Prop),(((0:Int)<=(0:Int)/\0<((2:Nat):Int))/\∃(g:Int),zD [[dI 1],[dI 2]] (Int.toNat 0) 0 1=ar [dI g]/\∃(h:dq),s.eg[(d:Int).toNat]?=ar h/\∃(j:Ac),zF j.side=g/\yA j.b=yA h/\(uH j)/\ff (∃(l:dq),O6 j l d s (dp (z7 j).snd (Ys d s e j (∃(m:Nat×j'),ab yC (qD s m.fst m.snd)=zK (bW s e d j) (d:Int).toNat 4 [dI (gT j)]/\lE f m s d l)) (zHl s e f d l))))/\∀(g:Nat×j'),f g->∃(h:Nat×j'),ab yC (qD s h.fst h.snd)=ab yC (qD s g.fst g.snd)/\∃(j:Nat×j'->Prop),((gN)/\∃(k:Int),zD [[dI 1],[dI 2]] (aq.wrap ((0:Int)+(1:Int))).toNat 0 1=ar [dI k]/\∃(l:dq),s.eg[(d:Int).toNat]?=ar l/\∃(m:Ac),zF m.side=k/\yA m.b=yA l/\(uH m)/\ff (∃(p:dq),O6 m p d s (dp (z7 m).snd (Yr d s h m (∃(q:Nat×j'),ab yC (qD s q.fst q.snd)=zK (bK s h d m) (d:Int).toNat 5 [dI (gT m)]/\lE j q s d p)) (zHl s h j d p))))/\∀(k:Nat×j'),j k->∃(l:Nat),(l:Int)=aq.wrap ((d:Int)+1)/\ab yC (qP s l)=ab yC (qD s k.fst k.snd)/\b l/\c l<c d/\dl (qB s 0)/\dl (qB s 1)/\dl (qB s 2)/\dl (qB s 3)/\dl (qB s 4)) (dx (Qc s.p (af 160 dq 6 zR s.eg au=qB s 1/\dl (yV s.wh)/\ag 1 (iE s.p.dt)=qB s 3/\ag 1 (iE s.p.settle)=qB s 4/\ab yC s.fm=ab yC (qP s d)/\True)))
@[reducible] def BG (a b:fj)(R:Prop):Prop:=ag 1 (iE a.dt)=ag 1 (iE b.dt)/\ag 1 (iE a.settle)=ag 1 (iE b.settle)/\R
def zFe (a:gy) (b:Bh):Prop:=BG a.p b.s.p (a.ga b.p (iO b.B b.id b.q).fst)
def zGu (a:gy) (b:Bh):Prop:=yV a.wh=yV b.s.wh/\zFe a b
def tV (a:Bh) (b:Int) (c:Bool):Prop:=jK (Value.int aq a.id) (yV a.s.wh)=ar [dI b]/\c=ap\/jK (Value.int aq a.id) (yV a.s.wh)=au/\[dI b]=[dI 0]/\c=ao
def pF (a:Bh):Prop:=∀(b:Value×List D),b∈yV a.s.wh->mc (Value.int aq a.id) b.fst=ap
@[reducible] def Qa (a b:fj)(R:Prop):Prop:=sb a.code=sb b.code/\a.tick=b.tick/\a.low=b.low/\a.high=b.high/\a.wide=b.wide/\a.gm=b.gm/\a.top=b.top/\a.least=b.least/\a.part=b.part/\R
def yQs (i:Bh):Prop:=
 (pF i)/\∃(a:Bool),∃(b:Int),(tV i b a)/\dp (!a) (∃(c:gy),(iO i.B i.id i.q).snd=26/\Qa c.p i.s.p (af 160 dq 6 zR c.eg au=af 160 dq 6 zR i.s.eg au/\zGu c i)) ((0<=b/\b<(i.s.eg.length:Int))/\b.toNat<i.s.eg.length/\∃(c:dq),i.s.eg[b.toNat]?=ar c/\∃(d:CR),d.id=i.id/\d.dr=i.q/\yA d.b=yA c/\d.b.ga d.L/\∀(e:dq),e.ga (qK d.L d.id d.dr).fst->∃(f:dq),yA e=yA f/\DF b i.s.eg ((0<=b/\b<((i.s.eg.set b.toNat f).length:Int))/\b.toNat<(i.s.eg.set b.toNat f).length/\∃(g:dq),(i.s.eg.set b.toNat f)[b.toNat]?=ar g/\∃(h:CR),h.id=i.id/\yA h.b=yA g/\h.b.ga h.L/\ff (∃(k:dq),yA h.b=yA k/\dl b.toNat/\b.toNat<(i.s.eg.set b.toNat f).length/\dp (!vQ h.L h.id) ((pF i)/\∃(l:gy),(iO i.B i.id i.q).snd=(qK d.L d.id d.dr).snd/\Qa l.p i.s.p (af 160 dq 6 zR l.eg au=af 160 dq 6 zR ((i.s.eg.set b.toNat f).set b.toNat k) au/\yV l.wh=CE (Value.int aq i.id) (yV i.s.wh)/\zFe l i)) (∃(l:gy),(iO i.B i.id i.q).snd=(qK d.L d.id d.dr).snd/\Qa l.p i.s.p (af 160 dq 6 zR l.eg au=af 160 dq 6 zR ((i.s.eg.set b.toNat f).set b.toNat k) au/\zGu l i)))))
def xGt (i:Ic) (h:KR.dp i):y1x i:=by
 obtain⟨Q,c,ht,hL⟩:i.b.ga i.L:=h;have qy:=c.small;obtain⟨⟨ha1,ha2⟩,qd,ni,tr⟩:=id qy;have AO:=c.lad (.inl rfl);rw[<- hL]at AO;have AO:uE i.L (zF ao)=i.b.fv.map i.b.told:=AO;unfold y1x H9 ff dx Qf Vp QP mQ kX dI;simp only[AO,ia];refine⟨1,rfl,trivial,λ_ _=>Cv.dp.mk (λe=>absurd e Z8) λ_=>⟨0,i7,i7,λj=>j<=i.b.fv.length,λj=>i.b.fv.length-j,mn _,λj hj=>zG (λe=> ?_) (λe=> ?_)⟩⟩
 ·obtain⟨r,hr⟩:=zZ (l:=i.b.fv) (i:=j) oM;have hi:=c.Fl;refine⟨⟨oM,oM⟩,r.dm,r.queue,jz hr (by simp[zC]) rfl,⟨i.b.a,r.queue⟩,i7,i7,trivial,λ_ _=>⟨i7,i7,i7,⟨i.b.a,r.queue⟩,i7,i7,i7,λ_ _=>⟨i7,by simp only[nn,ia];omega,j+1,qu oM,?_,oM,Z9,gn⟩⟩⟩;have R8:(i.b.fv.map i.b.told)[j]? =ar (i.b.told r):=by rw[qt,hr];rfl
  rw[qq,R8];simp[im,dq.told]
 ·rw[mz (by rw[ia];omega)];exact⟨(),gn⟩
def y0w:KR.ok Tryz.prog 157:=gx mixed (dw JK (dw zLn (dw sO fk))) 1 i6 (λi=>xEu ao i) [0] Tryz.func157 xGt
def xBy (i:Ic) (h:KQ.dp i):y1p i:=by
 obtain⟨Q,c,ht,hL⟩:i.b.ga i.L:=h;have qy:=c.small;obtain⟨⟨ha1,ha2⟩,qd,ni,tr⟩:=id qy;have AO:=c.lad (.inr rfl);rw[<- hL]at AO;have AO:uE i.L (zF ap)=i.b.fc.map i.b.told:=AO;unfold y1p H9 ff dx Qf mV Vp QP kX dI;simp only[AO,ia];refine⟨2,rfl,trivial,λ_ _=>Cv.dp.mk (λe=>absurd e Z8) λ_=>⟨0,i7,i7,λj=>j<=i.b.fc.length,λj=>i.b.fc.length-j,mn _,λj hj=>zG (λe=> ?_) (λe=> ?_)⟩⟩
 ·obtain⟨r,hr⟩:=zZ (l:=i.b.fc) (i:=j) oM;have hi:=c.Fl;refine⟨⟨oM,oM⟩,r.dm,r.queue,jz hr (by simp[zC]) rfl,⟨i.b.a,r.queue⟩,i7,i7,trivial,λ_ _=>⟨i7,i7,i7,⟨i.b.a,r.queue⟩,i7,i7,i7,λ_ _=>⟨i7,by simp only[nn,ia];omega,j+1,qu oM,?_,oM,Z9,gn⟩⟩⟩;have R8:(i.b.fc.map i.b.told)[j]? =ar (i.b.told r):=by rw[qt,hr];rfl
  rw[qq,R8];simp[im,dq.told]
 ·rw[mz (by rw[ia];omega)];exact⟨(),gn⟩
def yXu:KQ.ok Tryz.prog 157:=gx mixed (dw JK (dw zLn (dw sO fk))) 1 i6 (λi=>xEu ap i) [0] Tryz.func157 xBy
def y7v:aan.ok Tryz.prog 157:=λj=>match j with
 |⟨b,L,ao⟩=>y0w ⟨b,L⟩
 |⟨b,L,ap⟩=>yXu ⟨b,L⟩
def y5a (s:gy) (h:Gp.dp s):yUi s:=by
 obtain⟨h1,h2⟩:s.ob:=h;unfold yUi Ys Yr O6 Qc ff dx gT kP uH gN mM mL V4 zEd bW mS zDj bK bF z7 mN gK zHl lE dI;have p48:(2:Int) ^ (48:Nat)=281474976710656:=by decide
 refine⟨⟨oM,oM,oM,by rw[p48];omega⟩,0,rfl,?_,λj=>j<=s.eg.length,λj=>s.eg.length-j,oM,λj hj=>zG (λgu=> ?_) (λgu=> ?_)⟩
 ·rw[qP,jk,Oi];rfl
 ·have ox:j<s.eg.length:=by omega
  obtain⟨b,hb⟩:=zZ ox;have hc:=h2 b (lh hb);simp only[ot];have ha:∀x,(ab yC (qD s j x)).length=s.eg.length:=λx=>by rw[ia,zRy ox]
  have w1:aq.wrap (0+1)=1:=by decide
  have w2:(0+1) % ((2:Int) ^ aq.bits).natAbs=1:=by decide
  refine⟨⟨oM,oM⟩,oM,(j,kf),by rw[zOa ox],λx=>x=(j,kf.F4 (b.ix b.fv)),⟨⟨Z8,Z8⟩,1,rfl,b,hb,⟨ao,b⟩,rfl,rfl,hc,λ_ _=>⟨b,rfl,kp,oM,?_⟩⟩,?_⟩
  ·refine Cv.dp.mk (λc=> ?_) (λc=> ?_)
   ·have c:(b.ix b.fv).2=ap:=c;have e1:=kW (s:=s) ox (x:=kf) (y:={kf with gv:=ap}) (f:=0+0+0*1) (ds:=[D.v (.bool ap)]) rfl;have e2:=kW (s:=s) ox (x:={kf with gv:=ap}) (y:={kf with gv:=ap,p1:=(b.ix b.fv).1.dm}) (f:=0+2+0*1) (ds:=[D.v (.int .i64 (b.ix b.fv).1.dm)]) rfl;have e3:=kW (s:=s) ox (x:={kf with gv:=ap,p1:=(b.ix b.fv).1.dm}) (y:={kf with gv:=ap,p1:=(b.ix b.fv).1.dm,q1:=(b.ix b.fv).1.dr}) (f:=0+4+0*1) (ds:=[D.v (.int .i64 (b.ix b.fv).1.dr)]) rfl;dsimp only;simp only[show b.side ao=b.fv from rfl,e1,e2,e3,ha]
    (repeat'(first|exact rfl|exact trivial|assumption|apply aw|refineλ(_:Unit) (_:True)=>?_|refine av () ?_|omega|(dsimp only;omega)))
    refine⟨(j,{kf with gv:=ap,p1:=(b.ix b.fv).1.dm,q1:=(b.ix b.fv).1.dr}),rfl,?_,?_⟩
    ·rw[j'.F4,fh c]
    ·(repeat'(first|exact rfl|exact trivial|assumption|apply aw|refineλ(_:Unit) (_:True)=>?_|refine av () ?_|omega|(dsimp only;omega)))
     rw[cJ hb];rfl
   ·have c:(b.ix b.fv).2=ao:=c;refine⟨(j,kf),rfl,?_,?_⟩
    ·rw[j'.F4,ez (by rw[c];simp)]
    ·(repeat'(first|exact rfl|exact trivial|assumption|apply aw|refineλ(_:Unit) (_:True)=>?_|refine av () ?_|omega|(dsimp only;omega)))
     rw[cJ hb];rfl
  ·rintro _ rfl;rw[w1];generalize hx:kf.F4 (b.ix b.fv)=x;have RV:b.top=x.AI (b.ix b.fc):=by rw[dq.top,hx]
   refine⟨(j,x),rfl,λy=>y=(j,b.top),⟨⟨Z8,Z8⟩,2,rfl,b,hb,⟨ap,b⟩,rfl,rfl,hc,λ_ _=>⟨b,rfl,kp,oM,?_⟩⟩,?_⟩
   ·refine Cv.dp.mk (λc=> ?_) (λc=> ?_)
    ·have c:(b.ix b.fc).2=ap:=c;have e1:=kW (s:=s) ox (x:=x) (y:={x with gq:=ap}) (f:=0+0+1*1) (ds:=[D.v (.bool ap)]) rfl;have e2:=kW (s:=s) ox (x:={x with gq:=ap}) (y:={x with gq:=ap,p2:=(b.ix b.fc).1.dm}) (f:=0+2+1*1) (ds:=[D.v (.int .i64 (b.ix b.fc).1.dm)]) rfl;have e3:=kW (s:=s) ox (x:={x with gq:=ap,p2:=(b.ix b.fc).1.dm}) (y:={x with gq:=ap,p2:=(b.ix b.fc).1.dm,q2:=(b.ix b.fc).1.dr}) (f:=0+4+1*1) (ds:=[D.v (.int .i64 (b.ix b.fc).1.dr)]) rfl;dsimp only;simp only[w2,show b.side ap=b.fc from rfl,e1,e2,e3,ha]
     (repeat'(first|exact rfl|exact trivial|assumption|apply aw|refineλ(_:Unit) (_:True)=>?_|refine av () ?_|omega|(dsimp only;omega)))
     refine⟨(j,{x with gq:=ap,p2:=(b.ix b.fc).1.dm,q2:=(b.ix b.fc).1.dr}),rfl,?_,?_⟩
     ·rw[RV,j'.AI,fh c]
     ·(repeat'(first|exact rfl|exact trivial|assumption|apply aw|refineλ(_:Unit) (_:True)=>?_|refine av () ?_|omega|(dsimp only;omega)))
      rw[cJ hb];rfl
    ·have c:(b.ix b.fc).2=ao:=c;refine⟨(j,x),rfl,?_,?_⟩
     ·rw[RV,j'.AI,ez (by rw[c];simp)]
     ·(repeat'(first|exact rfl|exact trivial|assumption|apply aw|refineλ(_:Unit) (_:True)=>?_|refine av () ?_|omega|(dsimp only;omega)))
      rw[cJ hb];rfl
   ·rintro _ rfl;refine⟨j+1,by rw[iw (by omega)];rfl,?_⟩;refine⟨by dsimp only;rw[zOj hb],?_⟩;exact kp
 ·have hj:j<=s.eg.length:=hj;obtain rfl:j=s.eg.length:=by omega
  have e:qP s s.eg.length=s.fm:=by
   rw[qP,JW,List.replicate_zero,oJ,mz (by rw[gy.fm,ia];omega)]
  rw[e];exact kp
def z5w:Gp.ok Tryz.prog 78:=gx mixed (dw U1 fk) 0 (λs=>y1m s) (λs=>y3m s) [] Tryz.func78 y5a
def xBa (i:Bh) (h:Gu.dp i):yQs i:=by
 obtain⟨hR,hB⟩:i.s.ga i.p i.B/\i.B.length<=1000:=h;have ta:=hR.at_ i.id;unfold yQs Qa DF ff pF tV zGu zFe BG dI;cases hi:nT i.B i.id with
 |none=>
  rw[hi]at ta;refine⟨bV _ _,ao,0,.inr ⟨by rw[sW,ta];rfl,rfl,rfl⟩,Cv.dp.mk (λ_=>⟨i.s,?_⟩) (λe=>absurd e Z8)⟩;have ht:iO i.B i.id i.q=(i.B,26):=by rw[iO,hi]
  rw[ht];exact(iA (nr hR))
 |some k=>
  rw[hi]at ta;obtain⟨L,hL,hh⟩:=u6 hi;have hk:=(jm.1 hL).1;obtain⟨b,hb⟩:=zZ (l:=i.s.eg) (i:=k) (by rw[hR.bl];exact hk);have Em:=hR.bk k b L hb hL;have zz:=hR.bl;have qz:=Em.oy.2.1;refine⟨bV _ _,ap,k,.inl ⟨by rw[sW,ta];rfl,rfl⟩,Cv.dp.mk (λe=>absurd e Z8) (λ_=> ?_)⟩;rw[ot];refine⟨⟨oM,oM⟩,oM,b,hb,⟨b,L,i.id,i.q⟩,rfl,rfl,rfl,Em,λb' AD=> ?_⟩;have hT:=hR.take (q:=i.q) hi hL qz AD;have oY:(iO i.B i.id i.q).2=(qK L i.id i.q).2:=by simp only[iO,hi,zX hL]
  refine⟨b',rfl,rfl,oM,by rw[qm];omega,by rw[qm];omega,b',cQ oM,⟨b',(qK L i.id i.q).1,i.id,0⟩,rfl,rfl,AD,λ_ _=>⟨b',rfl,rfl,by rw[qm];omega,Cv.dp.mk (λe=>⟨bV _ _,?_⟩) (λe=> ?_)⟩⟩
  ·have e:vQ (qK L i.id i.q).1 i.id=ao:=i9 e
   rw[e,ez (by decide)]at hT;refine⟨{i.s with eg:=i.s.eg.set k b',wh:=LD i.id i.s.wh},oY,iA ⟨rfl,?_,(z5k _ _).symm,rfl,rfl,hT⟩⟩;rw[Ec]
  ·have e:vQ (qK L i.id i.q).1 i.id=ap:=i9 e
   rw[e,fh rfl]at hT;refine⟨{i.s with eg:=i.s.eg.set k b',wh:=i.s.wh},oY,iA ⟨rfl,?_,rfl,rfl,rfl,hT⟩⟩;rw[Ec]
def Vo:Gu.ok Tryz.prog 95:=gx mixed (dw yXm (dw z4v fk)) 0 i6 i6 [0] Tryz.func95 xBa
structure jh (p:fj) (B:Q_ zJ):Prop where
 pc:p.check=0
 ps:p.small
 bl:B.length=p.count
 pr:∀(k:Nat) (L:List zJ),B[k]? =ar L->∀o∈L,p.dm k o.dm=0
def Jl:gh:=fp Bool (λb=>[zB (zF b)]) i6 (λ_=>True) (λb=>zB (zF (!b))) i6
def aZ (s:Bool) (p x:Int):Bool:=if s then decide (p<=x)else decide (x<=p)
structure SP where
 s:Bool
 p:Int
 x:Int
def Na:gh:=fp SP (λi=>[zB (zF i.s),zB i.p,zB i.x]) i6 (λ_=>True) (λi=>yL (aZ i.s i.p i.x)) i6
def y3 (p:fj) (B:Q_ zJ) (inst:Int) (s:Int):Quote×Bool×Bool:=
 let bq:=z6 (xR ⟨p,B.map qC,inst⟩ s) s
 let l:=iG (B.getD inst.toNat []) s
 if(l.2 && !(bq.2 && jl s bq.1.dm l.1.dm))=ap then(⟨l.1.dm,l.1.dr,⟨0,0⟩,⟨0,0⟩⟩,ao,ap)else(bq.1,bq.2,bq.2)
structure Fo where
 s:gy
 p:fj
 B:Q_ zJ
 inst:Int
 sd:Bool
def KK:gh:=fp Fo (λi=>[.nm 0 0,zB i.inst,zB (zF i.sd)]) (λi=>[zE i.s]) (λi=>i.s.ga i.p i.B/\jh i.p i.B/\0<=i.inst/\i.inst<i.B.length)
 (λi=> .je [WR (y3 i.p i.B i.inst (zF i.sd)).1,yL (y3 i.p i.B i.inst (zF i.sd)).2.1,yL (y3 i.p i.B i.inst (zF i.sd)).2.2]) (λi=>[zE i.s])
structure cS where
 id:Int
 inst:Int
 side:Int
 dm:Int
 dr:Int
 left:Int
 deriving DecidableEq
def y5 (f:cS):List D:=[.v (.int .i64 f.id),.v (.int .i64 f.inst),.v (.int .i64 f.side),.v (.int .i64 f.dm),.v (.int .i64 f.dr),.v (.int .i64 f.left)]
def qI (inst s:Int):List zJ->List Int->List cS
 |o::os,k::ks=>if 0<k then⟨o.id,inst,s,o.dm,k,o.dr-k⟩::qI inst s os ks else qI inst s os ks
 |_,_=>[]
def jG (B:Q_ zJ) (fs:List cS):Q_ zJ:=fs.foldl (λB f=>(iO B f.id f.dr).1) B
def WJ (B:Q_ zJ) (inst s:Int):List zJ:=vl (B.getD inst.toNat []) s (iG (B.getD inst.toNat []) s).1.dm
def kV (p:fj) (B:Q_ zJ) (inst s q:Int):List cS:=qI inst s (WJ B inst s) (jF ⟨p,WJ B inst s,q⟩)
structure AF where
 s:gy
 p:fj
 B:Q_ zJ
 inst:Int
 sd:Bool
 q:Int
def AF.os (i:AF):List zJ:=WJ i.B i.inst (zF i.sd)
def AF.sh (i:AF):List Int:=jF ⟨i.p,i.os,i.q⟩
def AF.fs (i:AF) (j:Nat):List cS:=qI i.inst (zF i.sd) (i.os.take j) (i.sh.take j)
def Gn:gh where
 ι:=AF
 pat:=λi=>[.nm 0 0,.agg [zB i.inst,zB (zF i.sd)],zB i.q]
 pre:=λi=>[zE i.s]
 dp:=λi=>i.s.ga i.p i.B/\jh i.p i.B/\0<=i.inst/\i.inst<i.B.length/\yP i.q
 alts:=λi=>[{o:=gy,res:=λ_=> .own 1,post:=λs=>[zE s,.own 207 6 ((kV i.p i.B i.inst (zF i.sd) i.q).map y5)],rel:=λs=>s.ga i.p (jG i.B (kV i.p i.B i.inst (zF i.sd) i.q))}]
def y9e (i:AF):List gr:=[{ι:=Nat×gy,du:=λj=>[(0,.nm 0 0),(11,.own 1),(44,zB j.1)],rows:=λj=>[zE j.2,.own 207 6 ((i.fs j.1).map y5)]}]
def yIo (b:Bool):Prop:=
 dx ((zF !b)=aq.wrap (3-zF b)/\True)
def yTf (i:SP):Prop:=
 dp (zF i.s==1) (dp (decide (i.x<=i.p)) (dx (aZ i.s i.p i.x=ap/\True)) (dp (zF i.s==2) (dx (aZ i.s i.p i.x=decide (i.x>=i.p)/\True)) (dx (aZ i.s i.p i.x=ao/\True)))) (dp (zF i.s==2) (dx (aZ i.s i.p i.x=decide (i.x>=i.p)/\True)) (dx (aZ i.s i.p i.x=ao/\True)))
def zMh (a:gy) (b:Fo):Prop:=sb a.p.code=sb b.s.p.code/\True/\Qr a.p b.s.p (True/\True)
def dO (a:Ab):Prop:=(a.s=1\/a.s=2)/\a.l.length<=1000000
def ZW (a:Fo) (b:gy) (c:dq):Prop:=Qa a.s.p b.p (af 160 dq 6 zR a.s.eg au=af 160 dq 6 zR (b.eg.set a.inst.toNat c) au/\yV a.s.wh=yV b.wh/\BG a.s.p b.p (True))
def yE (a:Fo):=(y3 a.p a.B a.inst (zF a.sd))
def Zm (a:Fo) (b:Ab) (c:gy) (d:dq):Prop:=dx ((yE a).fst.dm=(z6 b.l b.s).fst.dm/\(yE a).fst.dr=(z6 b.l b.s).fst.dr/\(yE a).fst.a.inst=(z6 b.l b.s).fst.a.inst/\(yE a).fst.a.side=(z6 b.l b.s).fst.a.side/\(yE a).fst.b.inst=(z6 b.l b.s).fst.b.inst/\(yE a).fst.b.side=(z6 b.l b.s).fst.b.side/\(yE a).snd.fst=(z6 b.l b.s).snd/\(yE a).snd.snd=(z6 b.l b.s).snd/\ZW a c d)
def YK (a:Fo) (b:Ac) (c:gy) (d:dq):Prop:=dx ((yE a).fst.dm=(z7 b).fst.dm/\(yE a).fst.dr=(z7 b).fst.dr/\(yE a).fst.a.inst=0/\(yE a).fst.a.side=0/\(yE a).fst.b.inst=0/\(yE a).fst.b.side=0/\(yE a).snd.fst=ao/\(yE a).snd.snd=ap/\ZW a c d)
def Vf (a:Bq) (b:Fo) (c:gy):Prop:=∃(d:Ab),ab zL d.l=ab zL (xR a.i (zF a.s))/\d.s=zF b.sd/\(dO d)/\ff ((0<=b.inst/\b.inst<(c.eg.length:Int))/\b.inst.toNat<c.eg.length/\∃(f:dq),c.eg[b.inst.toNat]?=ar f/\∃(g:Ac),zF g.side=zF b.sd/\yA g.b=yA f/\(uH g)/\ff (∃(j:dq),yA g.b=yA j/\DF b.inst c.eg (dp (z7 g).snd (dp (z6 d.l d.s).snd (∃(k:Et),k.side=zF b.sd/\k.x=(z6 d.l d.s).fst.dm/\k.y=(z7 g).fst.dm/\True/\ff (dp (!jl k.side k.x k.y) (YK b g c j) (Zm b d c j))) (YK b g c j)) (Zm b d c j))))
@[reducible] def Qo (a:bS)(b c:gy)(R:Prop):Prop:=sb a.p.code=sb b.p.code/\iE a.p.dt=iE c.p.dt/\a.p.tick=b.p.tick/\a.p.low=b.p.low/\a.p.high=b.p.high/\a.p.wide=b.p.wide/\a.p.gm=b.p.gm/\a.p.top=b.p.top/\a.p.least=b.p.least/\a.p.part=b.p.part/\iE a.p.settle=iE c.p.settle/\ab yC a.fm=ab yC c.fm/\R
def z0u (a:gy) (b:Fo):Prop:=(zMh a b)/\∃(c:Bq),Qo c.i b.s a (c.i.inst=b.inst/\zF c.s=zF b.sd/\(kK c)/\ff (Vf c b a))
def gS (a:gy):Prop:=a.eg.length<=1000000/\∀(b:dq),b∈a.eg->∀(c:aV),c∈b.a.dy->(-9223372036854775808)<=c.count/\c.count<=9223372036854775807
@[reducible] def Ql (a:fj)(R:Prop):Prop:=sb a.code=sb a.code/\True/\a.tick=a.tick/\a.low=a.low/\a.high=a.high/\a.wide=a.wide/\a.gm=a.gm/\a.top=a.top/\a.least=a.least/\a.part=a.part/\True/\R
@[reducible] def QH (a b:gy)(R:Prop):Prop:=af 160 dq 6 zR a.eg au=af 160 dq 6 zR b.eg au/\yV a.wh=yV b.wh/\ag 1 (iE a.p.dt)=ag 1 (iE b.p.dt)/\ag 1 (iE a.p.settle)=ag 1 (iE b.p.settle)/\R
def y4i (i:Fo):Prop:=
 (∃(a:gy),Qa a.p i.s.p (QH a i.s ((gS a)/\ff ((zMh a i)/\(∃(c:Bq),Qo c.i i.s a (c.i.inst=i.inst/\zF c.s=zF i.sd/\(kK c)/\ff ((Vf c i a)/\Vf c i a)))/\z0u a i))))/\(Ql i.s.p (True))/\∃(a:gy),Qa a.p i.s.p (QH a i.s ((gS a)/\ff (z0u a i)))
def nU (a:IY):=(ab wV (vl a.L (zF a.s) a.dm))
def Z6 (a:Nat×gy->Prop) (b:Nat×gy) (c:Nat×gy->Nat) (d:Nat×gy) (e:CS) (f:IY) (g:Ac) (h:AF):Prop:=a b/\c b<c d/\dl (am 2 1 (iE (jF e)))/\dl (ag 5 (nU f))/\dl (aj [V.d (dI (bF g)),V.d (dI (gT g)),V.d (dI ((z7 g).fst.count))] 135)/\dl (aj [V.d (dI h.inst),V.d (dI (zF h.sd))] 268)/\dl (ag 1 (iE h.s.p.dt))/\dl (ag 1 (iE h.s.p.settle))
def fZ (a:AF):=(kV a.p a.B a.inst (zF a.sd) a.q)
def bY (a:AF):=(jG a.B (fZ a))
def yUc (i:AF):Prop:=
 (0<=i.inst/\i.inst<(i.s.eg.length:Int))/\i.inst.toNat<i.s.eg.length/\∃(a:dq),i.s.eg[i.inst.toNat]?=ar a/\∃(b:Ac),zF b.side=zF i.sd/\yA b.b=yA a/\(uH b)/\ff (∃(d:dq),yA b.b=yA d/\DF i.inst i.s.eg (∃(e:dq),(i.s.eg.set i.inst.toNat d)[i.inst.toNat]?=ar e/\∃(f:IY),zF f.s=zF i.sd/\f.dm=(z7 b).fst.dm/\yA f.b=yA e/\f.b.ga f.L/\ff (∃(h:dq),yA f.b=yA h/\dl i.inst.toNat/\i.inst.toNat<(i.s.eg.set i.inst.toNat d).length/\∃(j:CS),Qb j.p i.s.p (ab wV j.l=ab wV (vl f.L (zF f.s) f.dm)/\j.q=i.q/\(j.l.length<=1000/\((-9223372036854775808)<=j.q/\j.q<=9223372036854775807)/\((-9223372036854775808)<=j.p.least/\j.p.least<=9223372036854775807)/\((-9223372036854775808)<=j.p.top/\j.p.top<=9223372036854775807)/\(-9223372036854775808)<=j.p.part/\j.p.part<=9223372036854775807)/\ff (∃(l:Nat×gy),(l.fst:Int)=0/\Qa l.snd.p i.s.p (af 160 dq 6 zR l.snd.eg au=af 160 dq 6 zR ((i.s.eg.set i.inst.toNat d).set i.inst.toNat h) au/\yV l.snd.wh=yV i.s.wh/\BG l.snd.p i.s.p (ab y5 (i.fs l.fst)=[]/\∃(m:Nat×gy->Prop),∃(n:Nat×gy->Nat),m l/\∀(p:Nat×gy),m p->dp (decide ((p.fst:Int)<((iE (jF j)).length:Int))) ((0<=(p.fst:Int)/\(p.fst:Int)<((iE (jF j)).length:Int))/\∃(q:Int),zD (iE (jF j)) (p.fst:Int).toNat 0 1=ar [dI q]/\dp (decide (q>0)) ((0<=(p.fst:Int)/\(p.fst:Int)<((nU f).length:Int))/\∃(r:Int),∃(s:Int),∃(t:Int),∃(u:Int),∃(v:Bool),zD (nU f) (p.fst:Int).toNat 0 5=ar [dI r,dI s,dI t,dI u,D.v (.bool v)]/\∃(w:Bh),w.id=r/\w.q=q/\zE w.s=zE p.snd/\(w.s.ga w.p w.B/\w.B.length<=1000)/\∀(x:gy),x.ga w.p (iO w.B w.id w.q).fst->((ab y5 (i.fs p.fst)).length+1)*(48:Nat)<=(140737488355328:Nat)/\∃(y:Nat×gy),(y.fst:Int)=aq.wrap ((p.fst:Int)+1)/\zE y.snd=zE x/\ab y5 (i.fs y.fst)=ab y5 (i.fs p.fst)++[[dI r,dI i.inst,dI (zF i.sd),dI t,dI q,dI (aq.wrap (u-q))]]/\Z6 m y n p j f b i) (∃(r:Nat×gy),(r.fst:Int)=aq.wrap ((p.fst:Int)+1)/\zE r.snd=zE p.snd/\ab y5 (i.fs r.fst)=ab y5 (i.fs p.fst)/\Z6 m r n p j f b i)) (∃(q:gy),zE q=zE p.snd/\ab y5 (fZ i)=ab y5 (i.fs p.fst)/\q.ga i.p (bY i)))))))))
def PX {p:fj} (hc:p.check=0) {k v:Int} (h:p.dm k v=0): -2000000<=v/\v<=2000000:=by
 have ok:=jB hc;have:=ok.b1;have:=ok.b2;have:=ok.b3;have:=ok.b4;have:=ok.b5;rw[fj.dm]at h;by_cases c1:p.count=0
 ·rw[fh c1]at h;cases h
 by_cases c2:k<0\/(p.count:Int)<=k
 ·rw[ez c1,fh c2]at h;cases h
 cases c3:kJ p.tick v with
 |true=>rw[ez c1,ez c2,fh c3]at h;cases h
 |false=>
  rw[ez c1,ez c2,ez (by rw[c3];decide)]at h;by_cases c4:(p.dt.length:Int)<=k
  ·simp only[fh c4]at h;by_cases c5:v< -p.wide\/p.wide<v
   ·rw[fh c5]at h;cases h
   ·omega
  ·simp only[ez c4]at h;by_cases c5:v<p.low\/p.high<v
   ·rw[fh c5]at h;cases h
   ·omega
def NT {t:Int} (k:Int):kJ t (t*k)=ao:=by
 simp[kJ,Int.mul_tmod_right]
def zOe (x:fj):(ig x).small:=by
 have:=yVf x;refine⟨by simp[ig],?_,?_⟩
 ·show(qU _).length<=_;rw[zBq];omega
 ·show(jA _ _).length<=_;rw[rC];omega
def pU (x:fj):(ig x).check=0:=by
 have ht:=Vv x;have hn:=yVf x;have hw:=yZ (n:=x.wide) (lo:=0) (hi:=60) oM;have hr:=yZ (n:=x.gm) (lo:=0) (hi:=2) oM;have ho:=yZ (n:=x.top) (lo:=0) (hi:=9) oM;have hl:=yZ (n:=x.least) (lo:=0) (hi:=4) oM;have hp:=yZ (n:=x.part) (lo:=0) (hi:=100) oM;have h1:vL (ig x).code=ap:=by show vL [206,169]=ap;decide+kernel
 obtain⟨k,hk,Ay⟩:∃k:Nat,(kN x).toNat=k/\(2<=k/\k<=5):=⟨_,rfl,oM⟩
 have h2:xS (ig x).dt=ap:=by
  show xS (qU (kN x).toNat)=ap;rw[hk];have:k=2\/k=3\/k=4\/k=5:=by omega
  rcases this with rfl|rfl|rfl|rfl<;>decide
 have h3:kI (ig x)=ap:=by
  have a:kJ (zW x) (-20*zW x)=ao:=by rw[Eb];exact NT _
  have b:kJ (zW x) (100*zW x)=ao:=by rw[Eb];exact NT _
  have c:(jA (zW x) (kN x).toNat).any (kJ (zW x))=ao:=by
   rw[L0];intro y hy;obtain⟨j,_,rfl⟩:=np.1 hy;rw[NT];decide
  simp only[kI,ig,a,b,c,NT,JZ,Bool.and_true,lr];exact⟨jo oM,jo oM⟩
 have mw:=JE (a:=zW x) (b:=5+zI x.wide 0 60) (m:=zW x) (n:=65) oM oM;have h4:kG (ig x)=ao:=by
  simp only[kG,ig,HD];exact⟨⟨⟨⟨jv oM,jv oM⟩,jv oM⟩,jv oM⟩,jv oM⟩
 have h5:xW (ig x)=ao:=by
  have e:(jA (zW x) (kN x).toNat).length=(qU (kN x).toNat).length:=by rw[rC,zBq]
  have ne:jA (zW x) (kN x).toNat≠[]:=by
   intro hc;have:=rC (zW x) (kN x).toNat;rw[hc]at this;simp at this;omega
  have bd:∀y∈jA (zW x) (kN x).toNat,0<=y/\y<=zW x*15:=by
   intro y hy;obtain⟨j,hj,rfl⟩:=np.1 hy;have:=Cd.1 hj;exact JE oM oM
  have m1:=bd _ (z6a ne);have m2:=bd _ (z8a ne);simp only[xW,ig,e,ne_eq,not_true_eq_false,decide_false,LU,HD];exact⟨jv oM,jv oM⟩
 have h6:jD (ig x)=ao:=by
  simp only[jD,ig,HD];exact⟨jv oM,jv oM⟩
 have h7:qO (ig x)=ao:=by
  simp only[qO,ig,HD];exact⟨⟨⟨⟨⟨jv oM,jv oM⟩,jv oM⟩,jv oM⟩,jv oM⟩,jv oM⟩
 rw[fj.check,h1,h2,h3,h4,h5,h6,h7];rfl
structure WQ (qs sh:List Int) (q:Int):Prop where
 len:sh.length=qs.length
 bd:∀n,0<=sh.getD n 0/\sh.getD n 0<=qs.getD n 0
 sum:sh.sum=q
def yOv:∀{l:List Int},(∀x∈l,0<=x)->0<=l.sum
 |[],_=>yl 0
 |a::l,h=>by
  have:=yOv (l:=l) λx hx=>h x (ji _ hx)
  have:=h a iX;rw[qc];omega
def yDz:∀{z:List (Int×Int)},(∀y∈z,0<=y.2/\y.2<=y.1)->(z.map (·.2)).sum<=(z.map (·.1)).sum
 |[],_=>yl 0
 |a::l,h=>by
  have:=yDz (z:=l) λx hx=>h x (ji _ hx)
  have:=h a iX;rw[jf,jf,qc,qc];omega
def zAw:∀(l:List Int) (q:Int),(∀x∈l,0<=x)->0<=q->q<=l.sum->WQ l (gY l q) q
 |[],q,_,h0,h1=>⟨rfl,λn=>by simp[gY],by simp at h1;simp[gY];omega⟩
 |n::l,q,h,h0,h1=>by
  have hn:=h n iX;rw[qc]at h1;have:=yOv λx hx=>h x (ji _ hx)
  have ih:=zAw l (q-min n q) (λx hx=>h x (ji _ hx)) oM oM;refine⟨by rw[gY,iF,iF,ih.len],λk=> ?_,by rw[gY,qc,ih.sum];omega⟩;cases k with
  |zero=>exact⟨by show 0<=min n q;omega,by show min n q<=n;omega⟩
  |succ k=>exact ih.bd k
def zEy:∀(z:List (Int×Int)) (q:Int),(∀y∈z,0<=y.2/\y.2<=y.1)->0<=q->q<=(z.map (·.1)).sum-(z.map (·.2)).sum->(vC z q).length=z.length/\(∀n,0<=(vC z q).getD n 0/\(vC z q).getD n 0<=(z.map (·.1)).getD n 0)/\(vC z q).sum=(z.map (·.2)).sum+q
 |[],q,_,h0,h1=>⟨rfl,λn=>by simp[vC],by simp at h1;simp[vC];omega⟩
 |(n,x)::r,q,h,h0,h1=>by
  have hn:=h (n,x) iX;simp only[jf,qc]at h1;have:=yDz λy hy=>h y (ji _ hy)
  have ih:=zEy r (q-min (n-x) q) (λy hy=>h y (ji _ hy)) oM oM;refine⟨by rw[vC,iF,iF,ih.1],λk=> ?_,by rw[vC,qc,ih.2.2,jf,qc];omega⟩;cases k with
  |zero=>exact⟨by show 0<=x+min (n-x) q;have:=hn.1;have:=hn.2;dsimp only at*;omega,by show x+min (n-x) q<=n;have:=hn.2;dsimp only at*;omega⟩
  |succ k=>exact ih.2.1 k
def yNe {l:List Int} {q:Int} (h1:l.length<=250) (h2:0<=q) (h3:∀x∈l,1<=x/\x<=1000000) (h4:q<=l.sum):y6 l q=ap:=by
 rw[y6,jo h1,jo h2,jo h4];simp only[As,Bool.and_true,Ef,lr,tn];exact h3
def z2c {i:vo} (h:y6 i.l i.q=ap) (hl:1<=i.least):WQ i.l (j0 i) i.q:=by
 obtain⟨r1,r2,r3,r4⟩:=wD h;rw[j0,fh ⟨h,hl⟩];by_cases jy:i.l.length=0
 ·have e:i.l=[]:=xq jy;have hq:i.q=0:=by rw[e]at r4;simp at r4;omega
  have e0:i.p1=[]:=by rw[vo.p1,e];rfl
  rw[e0,e,hq];exact⟨rfl,λn=>by simp,rfl⟩
 ·obtain⟨_,_,f1,f2⟩:=VP h oM;have zb:=yAz i;have m1:(i.l.zip i.p0).map (·.1)=i.l:=List.map_fst_zip oM
  have m2:(i.l.zip i.p0).map (·.2)=i.p0:=List.map_snd_zip oM
  have hp:=zEy (i.l.zip i.p0) (i.q-i.p0.sum) (λy hy=>by
   obtain⟨j,hj⟩:=Bv.1 hy;rw[RG]at hj;exact f1 j _ _ hj.1 hj.2) oM (by rw[m1,m2];omega)
  rw[m1,m2]at hp;refine⟨?_,hp.2.1,?_⟩
  ·rw[vo.p1,hp.1,List.length_zip,zb,Nat.min_self]
  ·rw[vo.p1,hp.2.2];omega
def z1d:∀{l:List Int} {k:Nat} {x:Int},k<l.length->(l.set k x).sum=l.sum+(x-l.getD k 0)
 |[],k,x,h=>absurd h (by simp)
 |a::l,0,x,_=>by
  show x+l.sum=a+l.sum+(x-a);omega
 |a::l,k+1,x,h=>by
  have:=z1d (l:=l) (k:=k) (x:=x) (i9 h);show a+(l.set k x).sum=a+l.sum+(x-l.getD k 0);omega
def YY {l:List Int} {k n:Nat} {x:Int} (h:k<l.length):(l.set k x).getD n 0=if n=k then x else l.getD n 0:=by
 rw[mu,Ce];by_cases e:k=n
 ·subst e;rw[fh rfl,fh h,fh rfl];rfl
 ·rw[ez e,ez (λe2=>e e2.symm),mu]
def z3n {l:List Int}:∀(z:List (Nat×Int)) (o:List Int),(z.map (·.1)).Nodup->(∀y∈z,y.1<o.length/\0<=y.2/\o.getD y.1 0+y.2<=l.getD y.1 0)->(∀n,0<=o.getD n 0/\o.getD n 0<=l.getD n 0/\l.getD n 0<=1000000)->
 (z.foldl (λo y=>o.set y.1 (aq.wrap (o.getD y.1 0+y.2))) o).length=o.length/\(z.foldl (λo y=>o.set y.1 (aq.wrap (o.getD y.1 0+y.2))) o).sum=o.sum+(z.map (·.2)).sum/\∀n,0<=(z.foldl (λo y=>o.set y.1 (aq.wrap (o.getD y.1 0+y.2))) o).getD n 0/\(z.foldl (λo y=>o.set y.1 (aq.wrap (o.getD y.1 0+y.2))) o).getD n 0<=l.getD n 0
 |[],o,_,_,h=>⟨rfl,by simp,λn=>⟨(h n).1,(h n).2.1⟩⟩
 |y::z,o,hn,hz,h=>by
  obtain⟨h1,h2,h3⟩:=hz y iX;rw[jf,ym]at hn;have hw:aq.wrap (o.getD y.1 0+y.2)=o.getD y.1 0+y.2:=by
   have:=h y.1;exact iw oM
  rw[A7,hw];have ih:=z3n (l:=l) z (o.set y.1 (o.getD y.1 0+y.2)) hn.2 (λx hx=>by
   obtain⟨g1,g2,g3⟩:=hz x (ji _ hx);have jy:x.1≠y.1:=λe=>hn.1 (e▸si (f:=(·.1)) hx)
   rw[qm,YY h1,ez jy];exact⟨g1,g2,g3⟩) (λn=>by
   rw[YY h1];split
   ·rename_i e;rw[e];exact⟨by have:=h y.1;omega,h3,(h y.1).2.2⟩
   ·exact h n)
  refine⟨by rw[ih.1,qm],?_,ih.2.2⟩;rw[ih.2.1,z1d h1,jf,qc];omega
def zTr (l:List Int):(List.range l.length).map (λn=>l.getD n 0)=l:=by
 apply Dn;intro n;rw[qt];by_cases h:n<l.length
 ·rw[J6 h,vd h,wg,mu,vd h];rfl
 ·rw[ui (i9 h),ui (by omega)];rfl
def yHu {f g:Nat->Int}:∀l:List Nat,(l.map λn=>f n-g n).sum=(l.map f).sum-(l.map g).sum
 |[]=>rfl
 |a::l=>by rw[jf,jf,jf,qc,qc,qc,yHu l];omega
def zTq {f:Nat->Int} {p:Nat->Bool}:∀{l:List Nat},(∀n∈l,p n=ao->f n=0)->((l.filter p).map f).sum=(l.map f).sum
 |[],_=>rfl
 |a::l,h=>by
  have ih:=zTq (l:=l) λn hn=>h n (ji _ hn)
  rw[jf,qc];by_cases e:p a=ap
  ·rw[RF e,jf,qc,ih]
  ·rw[RE e,ih,h a iX (i9 e)];omega
def zCf {i:qf} (hl:i.l.length<=250) (ho:i.out.length=i.l.length) (hn:∀n,0<=i.out.getD n 0/\i.out.getD n 0<=i.l.getD n 0/\i.l.getD n 0<=1000000) (hq:0<=i.q/\i.q<=i.l.sum-i.out.sum) (hle:1<=i.least):
 WQ i.l (rP i) (i.out.sum+i.q):=by
 have aaM:(i.idx i.l.length).length<=250:=tm (HE _ _) (i9 hl);have tv:∀n∈i.idx i.l.length,n<i.l.length/\i.out.getD n 0<i.l.getD n 0:=by
  intro n hn;obtain⟨a,b⟩:=ug.1 hn;exact⟨Cd.1 a,rf b⟩
 have Sj:(i.left i.l.length).sum=i.l.sum-i.out.sum:=by
  rw[qf.left,qf.idx,zTq,yHu,zTr]
  ·rw[<- ho,zTr]
  ·intro n _ e;have:=L3 e;have:=hn n;omega
 have hr:y6 (i.left i.l.length) i.q=ap:=by
  refine yNe (by rw[qf.left,ia];exact aaM) hq.1 (λx hx=> ?_) oM;obtain⟨n,hm,rfl⟩:=np.1 hx;have:=tv n hm;have:=hn n;omega
 have hp:=z2c (i:=⟨i.left i.l.length,i.least,i.q⟩) hr hle;have zb:i.pl.length=(i.idx i.l.length).length:=by
  have:=hp.len;rw[qf.pl,this,qf.left,ia]
 have qz:(i.idx i.l.length).Nodup:=List.nodup_range.sublist Ry;have z1:((i.idx i.l.length).zip i.pl).map (·.1)=i.idx i.l.length:=List.map_fst_zip oM
 have z2:((i.idx i.l.length).zip i.pl).map (·.2)=i.pl:=List.map_snd_zip oM
 have hf:=z3n (l:=i.l) ((i.idx i.l.length).zip i.pl) i.out (by rw[z1];exact qz) (λy hy=>by
  obtain⟨j,hj⟩:=Bv.1 hy;rw[RG]at hj;have hm:=tv y.1 (lh hj.1);have hb:=hp.bd j;have e1:(j0 ⟨i.left i.l.length,i.least,i.q⟩).getD j 0=y.2:=by
   rw[mu];have:(j0 ⟨i.left i.l.length,i.least,i.q⟩)[j]? =ar y.2:=hj.2;rw[this];rfl
  have e2:(i.left i.l.length).getD j 0=i.l.getD y.1 0-i.out.getD y.1 0:=by
   rw[mu,qf.left,qt,hj.1];rfl
  dsimp only at hb;rw[e1,e2]at hb;exact⟨oM,hb.1,oM⟩) hn
 have te:rP i=((i.idx i.l.length).zip i.pl).foldl (λo y=>o.set y.1 (aq.wrap (o.getD y.1 0+y.2))) i.out:=by
  rw[rP,qf.add,mz (by rw[List.length_zip];omega)]
 rw[te];refine⟨by rw[hf.1,ho],hf.2.2,?_⟩;rw[hf.2.1,z2];have:=hp.sum;rw[qf.pl,this]
def yHq {l:List Int} (h:∀x∈l,1<=x/\x<=1000000) (n:Nat):0<=l.getD n 0/\l.getD n 0<=1000000:=by
 by_cases hn:n<l.length
 ·obtain⟨x,hx⟩:=zZ hn;have:=h x (lh hx);rw[zX hx];omega
 ·rw[mu,ui (by omega)];decide
def y9q (n k:Nat):(ac n (0:Int)).getD k 0=0:=by
 rw[mu,RD];split<;>rfl
def Zo (n:Nat):(ac n (0:Int)).sum=0:=by
 induction n with
 |zero=>rfl
 |succ n ih=>rw[J7,qc,ih];rfl
def xBh {q part:Int} (hq:0<=q) (h0:0<=part) (h1:part<=100):0<=q*part / 100/\q*part / 100<=q:=by
 have h2:0<=q*part:=Od hq h0;have h3:q*part<=q*100:=XK h1 hq;constructor<;>omega
def z1l {p:fj} (hc:p.check=0) {l:List zJ} {q:Int} (hr:y6 (l.map (·.dr)) q=ap):WQ (l.map (·.dr)) (jF ⟨p,l,q⟩) q:=by
 have ok:=jB hc;obtain⟨r1,r2,r3,r4⟩:=wD hr;have q1:=ok.q1;have q3:=ok.q3;have q5:=ok.q5;have q6:=ok.q6;have r5:=ok.r1;have r6:=ok.r2;have gb:=yHq r3;have eqs:(CS.qs ⟨p,l,q⟩)=l.map (·.dr):=rfl
 rw[jF];simp only[eqs];generalize l.map (·.dr)=qs at*
 by_cases c1:p.gm=1
 ·rw[fh c1,fD,fh hr];exact zAw _ _ (λx hx=>by have:=r3 x hx;omega) r2 r4
 by_cases c2:p.gm=2
 ·rw[ez c1,fh c2,Dg,fh ⟨hr,q3,q1⟩];rw[vh.rs];dsimp only;split
  ·rename_i ht;have hk:(jc l).toNat<(ac qs.length (0:Int)).length:=by simp;omega
   have hf:0<=vh.first ⟨qs,jc l,p.top,p.least,q⟩/\vh.first ⟨qs,jc l,p.top,p.least,q⟩<=qs.getD (jc l).toNat 0/\vh.first ⟨qs,jc l,p.top,p.least,q⟩<=q:=by
    have:=gb (jc l).toNat;simp only[vh.first];omega
   have hs:((ac qs.length (0:Int)).set (jc l).toNat (vh.first ⟨qs,jc l,p.top,p.least,q⟩)).sum=vh.first ⟨qs,jc l,p.top,p.least,q⟩:=by
    rw[z1d hk,Zo,y9q];omega
   have:=zCf (i:=⟨qs,(ac qs.length 0).set (jc l).toNat (vh.first ⟨qs,jc l,p.top,p.least,q⟩),p.least,q-vh.first ⟨qs,jc l,p.top,p.least,q⟩⟩) r1 (by simp) (λn=>by
    dsimp only;rw[YY hk,y9q];have:=gb n;split
    ·rename_i e;rw[e];exact⟨hf.1,hf.2.1,(gb _).2⟩
    ·omega) (by dsimp only;rw[hs];omega) q3
   dsimp only at this;rw[hs]at this;have e:vh.first ⟨qs,jc l,p.top,p.least,q⟩+(q-vh.first ⟨qs,jc l,p.top,p.least,q⟩)=q:=by omega
   rw[e]at this;exact this
  ·have:=zCf (i:=⟨qs,ac qs.length 0,p.least,q⟩) r1 (by simp) (λn=>by
    dsimp only;rw[y9q];have:=gb n;omega) (by dsimp only;rw[Zo];omega) q3
   dsimp only at this;rw[Zo,Int.zero_add]at this;exact this
 ·have c3:p.gm=3:=by omega
  rw[ez c1,ez c2,fh c3,CC,fh ⟨hr,q5,q6,q3⟩];rw[Kr.rs];dsimp only;obtain⟨d1,d2⟩:=xBh r2 q5 q6;have xo:y6 qs (q*p.part / 100)=ap:=yNe r1 d1 r3 oM;have xv:=zAw qs (q*p.part / 100) (λx hx=>by have:=r3 x hx;omega) d1 oM;have e0:fD qs (q*p.part / 100)=gY qs (q*p.part / 100):=by rw[fD,fh xo]
  have:=zCf (i:=⟨qs,fD qs (q*p.part / 100),p.least,q-q*p.part / 100⟩) r1 (by dsimp only;rw[e0];exact xv.len) (λn=>by
   dsimp only;rw[e0];exact⟨(xv.bd n).1,(xv.bd n).2,(gb n).2⟩) (by dsimp only;rw[e0,xv.sum];omega) q3
  dsimp only at this;rw[e0,xv.sum]at this;rw[e0];have e:q*p.part / 100+(q-q*p.part / 100)=q:=by omega
  rw[e]at this;exact this
def z8v {p:fj} {l:List zJ} {q:Int} (hr:y6 (l.map (·.dr)) q=ao):jF ⟨p,l,q⟩=[]:=by
 have eqs:(CS.qs ⟨p,l,q⟩)=l.map (·.dr):=rfl
 rw[jF];simp only[eqs,fD,Dg,CC,hr];simp
def zXe:Jl.ok Tryz.prog 175:=gx (V:=yIo) mixed fk 0 i6 i6 [] Tryz.func175 λ(b:Bool) _=>by
 unfold yIo dx;cases b<;>exact⟨(),Z8,trivial⟩
def z3i:Na.ok Tryz.prog 176:=gx (V:=yTf) mixed fk 0 i6 i6 [] Tryz.func176 λ(i:SP) _=>by
 obtain⟨s,p,x⟩:=i;unfold yTf dx;cases s
 ·refine Cv.dp.mk (λ_=>zG (λc=>⟨(),?_,trivial⟩) (λc=>Cv.dp.mk (λe=>by simp[zF]at e) (λ_=>⟨(),?_,trivial⟩))) (λe=>by simp[zF]at e)
  ·exact jo c
  ·exact jv c
 ·exact Cv.dp.mk (λe=>by simp[zF]at e) (λ_=>Cv.dp.mk (λ_=>⟨(),rfl,trivial⟩) (λe=>by simp[zF]at e))
def z3z {L:List zJ} {s:Int}:((iG L s).2=ap/\∃o∈L,o.side=s/\o.dm=(iG L s).1.dm)\/(iG L s=(⟨0,0,0⟩,ao)/\∀o∈L,o.side≠s):=by
 rw[iG];cases hl:uE L s with
 |nil=>
  refine .inr ⟨rfl,λo ho e=> ?_⟩;rw[uE]at hl;cases hf:L.filter λo=>decide (o.side=s)with
  |nil=>
   rw[HG]at hf;have:=hf o ho;simp[e]at this
  |cons x y=>
   rw[hf,xw]at hl;split at hl
   ·cases hl
   ·split at hl<;>cases hl
 |cons v vs=>
  refine .inl ⟨rfl,?_⟩;rw[uE]at hl;obtain⟨o,r,e1,e2⟩:=ZI hl;have:o∈L.filter λo=>decide (o.side=s):=by rw[e1];exact iX
  rw[ug]at this;exact⟨o,this.1,by simpa using this.2,e2⟩
def YD {L:List zJ} {s:Int} (h:∀o∈L,-2000000<=o.dm/\o.dm<=2000000): -2000000<=(iG L s).1.dm/\(iG L s).1.dm<=2000000:=by
 rcases z3z (L:=L) (s:=s)with⟨_,o,ho,_,e⟩|⟨e,_⟩
 ·rw[<- e];exact h o ho
 ·rw[e];constructor<;>decide
def UW (L:List zJ):(qC L).p1=(iG L 1).1.dm/\(qC L).q1=(iG L 1).1.dr/\(qC L).gv=(iG L 1).2/\(qC L).p2=(iG L 2).1.dm/\(qC L).q2=(iG L 2).1.dr/\(qC L).gq=(iG L 2).2:=by
 have h:∀s,(iG L s).2=ap\/iG L s=(⟨0,0,0⟩,ao):=λs=>by
  rcases z3z (L:=L) (s:=s)with⟨h,_⟩|⟨h,_⟩
  ·exact .inl h
  ·exact .inr h
 rw[qC,j'.AI,j'.F4];rcases h 1 with h1|h1<;>rcases h 2 with h2|h2<;>simp[h1,h2,kf]
def jh.yh {p:fj} {B:Q_ zJ} (h:jh p B) {k:Nat} {L:List zJ} (hL:B[k]? =ar L):∀o∈L,-2000000<=o.dm/\o.dm<=2000000:=λo ho=>PX h.pc (h.pr k L hL o ho)
def jh.fm {p:fj} {B:Q_ zJ} (h:jh p B):uB (B.map qC):=by
 have:=y7 p;refine⟨by rw[ia,h.bl];omega,λt ht=> ?_⟩;obtain⟨L,hL,rfl⟩:=np.1 ht;obtain⟨k,hk⟩:=Bv.1 hL;have b1:=YD (s:=1) (h.yh hk);have b2:=YD (s:=2) (h.yh hk);rw[(UW L).1,(UW L).2.2.2.1];exact⟨by constructor<;>omega,by constructor<;>omega⟩
def gy.ga.fm {s:gy} {p:fj} {B:Q_ zJ} (h:s.ga p B):s.fm=B.map qC:=by
 rw[gy.fm];apply Dn;intro k;rw[qt,qt];by_cases hk:k<B.length
 ·obtain⟨L,hL⟩:=zZ hk;obtain⟨b,hb⟩:=zZ (l:=s.eg) (i:=k) (by rw[h.bl];exact hk);rw[hL,hb,wg,wg,(h.bk k b L hb hL).top]
 ·rw[ui (by rw[h.bl];omega),ui (by omega)];rfl
def gy.ga.Fl {s:gy} {p:fj} {B:Q_ zJ} (h:s.ga p B) (hB:B.length<=1000000):s.ob:=by
 refine⟨by rw[h.bl];exact hB,λb hb=> ?_⟩;obtain⟨k,hk⟩:=Bv.1 hb;have gu:=(jm.1 hk).1;rw[h.bl]at gu;obtain⟨L,hL⟩:=zZ gu;exact(h.bk k b L hk hL).Fl
def z7u {b:dq} {L:List zJ} (h:b.ga L) (sd:Bool):b.ix (b.side sd)=iG L (zF sd):=by
 obtain⟨Q,c,ht,rfl⟩:=h;cases sd
 ·exact c.iG (.inl rfl)
 ·exact c.iG (.inr rfl)
def Py (sd:Bool):zF sd=1\/zF sd=2:=by cases sd;exact .inl rfl;exact .inr rfl
def xEp (i:Fo) (h:KK.dp i):y4i i:=by
 obtain⟨hR,hB,h0,h1⟩:i.s.ga i.p i.B/\jh i.p i.B/\0<=i.inst/\i.inst<i.B.length:=h;have wv:=y7 i.p;have zz:=hB.bl;have yt:=hR.bl;obtain⟨k,hk⟩:∃k:Nat,i.inst=k:=⟨i.inst.toNat,oM⟩
 obtain⟨L,hL⟩:=zZ (l:=i.B) (i:=k) oM;obtain⟨b,hb⟩:=zZ (l:=i.s.eg) (i:=k) oM;have Em:=hR.bk k b L hb hL;have Ck:i.s.p.small:=by rw[hR.ep];exact hB.ps
 have ss:uB i.s.fm:=by rw[hR.fm];exact hB.fm
 have Fc:y3 i.p i.B i.inst (zF i.sd)=if((iG L (zF i.sd)).2 && !((z6 (xR ⟨i.s.p,i.s.fm,i.inst⟩ (zF i.sd)) (zF i.sd)).2 && jl (zF i.sd) (z6 (xR ⟨i.s.p,i.s.fm,i.inst⟩ (zF i.sd)) (zF i.sd)).1.dm (iG L (zF i.sd)).1.dm))=ap then(⟨(iG L (zF i.sd)).1.dm,(iG L (zF i.sd)).1.dr,⟨0,0⟩,⟨0,0⟩⟩,ao,ap)else((z6 (xR ⟨i.s.p,i.s.fm,i.inst⟩ (zF i.sd)) (zF i.sd)).1,(z6 (xR ⟨i.s.p,i.s.fm,i.inst⟩ (zF i.sd)) (zF i.sd)).2,(z6 (xR ⟨i.s.p,i.s.fm,i.inst⟩ (zF i.sd)) (zF i.sd)).2):=by
  rw[y3,hR.fm,hR.ep,hk,ot,zX hL]
 have DN:=z7u Em i.sd;unfold y4i QH Qa ff Ql Qo gS z0u ff Qo kK o8 gI Vf DF ff uH YK dx z7 Zm dx yE ZW Qa BG dO zMh Qr;have BQ:i.s.ob:=hR.Fl oM;have IJ:(xR ⟨i.s.p,i.s.fm,i.inst⟩ (zF i.sd)).length<=1000000:=by
  have:=tm (HE (λq=>decide (i.s.p.dm i.inst q.dm=0)) _) (VG ⟨i.s.p,i.s.fm,i.inst⟩ (zF i.sd));exact tm this Z8
 refine(λhT=>⟨⟨i.s,iA (nf ⟨rfl,BQ,λ_ _=>⟨⟨rfl,trivial,oL ⟨rfl,trivial,trivial⟩⟩,⟨⟨⟨i.s.p,i.s.fm,i.inst⟩,i.sd⟩,iA (sy ⟨rfl,⟨Ck,ss⟩,λ_ _=>⟨hT,hT⟩⟩)⟩,⟨rfl,trivial,oL ⟨rfl,trivial,trivial⟩⟩,⟨⟨⟨i.s.p,i.s.fm,i.inst⟩,i.sd⟩,iA (sy ⟨rfl,⟨Ck,ss⟩,λ_ _=>hT⟩)⟩⟩⟩)⟩,
  ⟨rfl,trivial,oL ⟨rfl,trivial,trivial⟩⟩,⟨i.s,iA (nf ⟨rfl,BQ,λ_ _=>⟨⟨rfl,trivial,oL ⟨rfl,trivial,trivial⟩⟩,⟨⟨⟨i.s.p,i.s.fm,i.inst⟩,i.sd⟩,iA (sy ⟨rfl,⟨Ck,ss⟩,λ_ _=>hT⟩)⟩⟩⟩)⟩⟩) ?_
 refine⟨⟨xR ⟨i.s.p,i.s.fm,i.inst⟩ (zF i.sd),zF i.sd⟩,rfl,rfl,⟨Py _,IJ⟩,λ_ _=>⟨⟨h0,oM⟩,oM,b,by rw[hk];exact hb,⟨i.sd,b⟩,rfl,rfl,Em.Fl,λ_ _=>⟨b,rfl,rfl,oM,?_⟩⟩⟩;dsimp only;rw[DN];generalize iG L (zF i.sd)=l at*;generalize z6 (xR ⟨i.s.p,i.s.fm,i.inst⟩ (zF i.sd)) (zF i.sd)=bq at*;have qj:i.s.eg.set i.inst.toNat b=i.s.eg:=jL (by rw[hk];exact hb);rw[qj];refine Cv.dp.mk (λc1=>Cv.dp.mk (λc2=>⟨⟨zF i.sd,bq.1.dm,l.1.dm⟩,rfl,rfl,rfl,trivial,λ_ _=>Cv.dp.mk (λc3=> ?_) (λc3=> ?_)⟩) (λc2=> ?_)) (λc1=> ?_)
 ·dsimp only at c3;rw[fh (by rw[c1,c2];simpa using c3)]at Fc;rw[Fc];exact⟨(),gn⟩
 ·dsimp only at c3;rw[ez (by rw[c1,c2];simpa using c3)]at Fc;rw[Fc];exact⟨(),gn⟩
 ·rw[fh (by rw[c1,c2];rfl)]at Fc;rw[Fc];exact⟨(),gn⟩
 ·rw[ez (by rw[c1];simp)]at Fc;rw[Fc];exact⟨(),gn⟩
def yYy:KK.ok Tryz.prog 174:=gx mixed (dw z5w (dw zMl (dw z6i (dw U1 (dw nS fk))))) 0 i6 i6 [0] Tryz.func174 xEp
def yEd (i:qf) (k:Nat):(i.add k).length=i.out.length:=by
 have:∀(l:List (Nat×Int)) (o:List Int),(l.foldl (λo y=>o.set y.1 (aq.wrap (o.getD y.1 0+y.2))) o).length=o.length:=by
  intro l
  induction l with
  |nil=>intro o;rfl
  |cons x l ih=>intro o;rw[A7,ih,qm]
 exact this _ _
def z4w (l:List Int) (q:Int):(fD l q).length<=l.length:=by
 rw[fD];split
 ·rw[PO];exact ju _
 ·exact mn _
def yLm (i:CS):(jF i).length<=i.l.length:=by
 have hq:i.qs.length=i.l.length:=by simp[CS.qs]
 rw[jF,<- hq]
 repeat' split
 ·exact z4w _ _
 ·rw[Dg];split
  ·rw[rP,yEd,vh.rs];split
   ·simp
   ·simp
  ·exact mn _
 ·rw[CC];split
  ·rw[rP,yEd];exact z4w _ _
  ·exact mn _
 ·exact mn _
def zVl {inst s:Int}:∀{os:List zJ} {sh:List Int} {j:Nat} {o:zJ} {k:Int},os[j]? =ar o->sh[j]? =ar k->qI inst s (os.take (j+1)) (sh.take (j+1))=qI inst s (os.take j) (sh.take j)++(if 0<k then[⟨o.id,inst,s,o.dm,k,o.dr-k⟩]else[])
 |[],_,_,_,_,h,_=>by simp at h
 |_::_,[],_,_,_,_,h=>by simp at h
 |o::os,k::sh,0,_,_,h,h2=>by
  cases h;cases h2;rw[u',u',EU,EU,EU,EU,qI];split<;>rfl
 |o::os,k::sh,j+1,o',k',h,h2=>by
  rw[u',u',qI,u',u',qI,zVl (os:=os) (sh:=sh) (j:=j) h h2];split<;>rfl
def zYd {inst s:Int}:∀(os:List zJ) (sh:List Int),qI inst s (os.take sh.length) (sh.take sh.length)=qI inst s os sh
 |[],sh=>by simp
 |_::_,[]=>by simp[qI]
 |o::os,k::sh=>by
  rw[iF,u',u',qI,qI,zYd os sh]
def yJt (B:Q_ zJ) (a b:List cS):jG B (a++b)=jG (jG B a) b:=Iz
def sQ (B:Q_ zJ) (id q:Int):(iO B id q).1.length=B.length:=by
 rw[iO];split
 ·rfl
 ·simp
def gO:∀(fs:List cS) (B:Q_ zJ),(jG B fs).length=B.length
 |[],B=>rfl
 |f::fs,B=>by
  show(jG (iO B f.id f.dr).1 fs).length=_;rw[gO fs,sQ]
def y4k {p:fj} (h:p.check=0):yP p.least/\yP p.top/\yP p.part:=by
 have ok:=jB h;have:=ok.q1;have:=ok.q2;have:=ok.q3;have:=ok.q4;have:=ok.q5;have:=ok.q6;exact⟨⟨oM,oM⟩,⟨oM,oM⟩,⟨oM,oM⟩⟩
def y8f (i:AF) (h:Gn.dp i):yUc i:=by
 obtain⟨hR,hB,h0,h1,hq⟩:i.s.ga i.p i.B/\jh i.p i.B/\0<=i.inst/\i.inst<i.B.length/\yP i.q:=h;have wv:=y7 i.p;have zz:=hB.bl;have yt:=hR.bl;have ep:=hR.ep;obtain⟨k,hk⟩:∃k:Nat,i.inst=k:=⟨i.inst.toNat,oM⟩
 obtain⟨L,hL⟩:=zZ (l:=i.B) (i:=k) oM;obtain⟨b,hb⟩:=zZ (l:=i.s.eg) (i:=k) oM;have Em:=hR.bk k b L hb hL;have DN:=z7u Em i.sd;have CL:vl L (zF i.sd) (iG L (zF i.sd)).1.dm=i.os:=by rw[AF.os,WJ,hk,ot,zX hL]
 have qj:i.s.eg.set i.inst.toNat b=i.s.eg:=jL (by rw[hk];exact hb);have aa9:i.os.length<=250:=by
  rw[<- CL];exact tm (HE _ _) Em.oy.2.2
 have OI:i.sh.length<=i.os.length:=yLm _;obtain⟨k1,k2,k3⟩:=y4k hB.pc;have Fb:∀(j:Nat) (n:Int),i.sh[j]? =ar n->n<=1000000:=by
  intro j n hn;cases hr:y6 (i.os.map (·.dr)) i.q with
  |false=>
   have:i.sh=[]:=z8v hr;rw[this]at hn;cases hn
  |true=>
   have:=(z1l hB.pc hr).bd j;have e:(jF ⟨i.p,i.os,i.q⟩).getD j 0=n:=zX hn;rw[e]at this;have:=(yHq (wD hr).2.2.1 j).2;omega
 unfold yUc Qa Qb BG DF ff Z6 gT bF nU bY fZ z7 uH dI;refine⟨⟨h0,oM⟩,oM,b,by rw[hk];exact hb,⟨i.sd,b⟩,rfl,rfl,Em.Fl,λ_ _=> ?_⟩;refine⟨b,rfl,rfl,oM,b,by rw[qj,hk];exact hb,⟨b,L,i.sd,(iG L (zF i.sd)).1.dm⟩,rfl,by dsimp only;rw[DN],rfl,Em,λ_ _=> ?_⟩;dsimp only
 try rw[DN]
 rw[qj,CL];refine⟨b,rfl,rfl,oM,⟨i.p,i.os,i.q⟩,by rw[ep],by rw[ep],by rw[ep],by rw[ep],by rw[ep],by rw[ep],by rw[ep],by rw[ep],by rw[ep],by rw[ep],by rw[ep],rfl,rfl,⟨Z9,hq,k1,k2,k3⟩,λ_ _=> ?_⟩;have esh:jF ⟨i.p,i.os,i.q⟩=i.sh:=rfl;rw[esh,qj,y9,ia];refine⟨(0,i.s),iA (nr ⟨rfl,λj=>j.2.ga i.p (jG i.B (i.fs j.1))/\j.1<=i.sh.length,λj=>i.sh.length-j.1,⟨hR,mn _⟩,λj hj=> ?_⟩)⟩;obtain⟨Sp,Fg⟩:=hj;obtain⟨j,sj⟩:=j;dsimp only at Sp Fg ⊢;refine zG (λc=> ?_) (λc=> ?_)
 ·obtain⟨n,hn⟩:=zZ (l:=i.sh) (i:=j) oM;obtain⟨o,ho⟩:=zZ (l:=i.os) (i:=j) oM;have lp:=zVl (inst:=i.inst) (s:=zF i.sd) ho hn;have hoL:o∈L:=by
   have:=lh ho;rw[<- CL]at this;exact(ug.1 this).1
  have hoq:=(Em.oy.1 o hoL).q;have hnb:=Fb j n hn;refine⟨⟨oM,oM⟩,n,rp hn,zG (λc2=> ?_) (λc2=> ?_)⟩
  ·rw[fh (show 0<n from c2)]at lp;have BC:(i.fs j).length<=j:=by
    have:∀(os:List zJ) (sh:List Int),(qI i.inst (zF i.sd) os sh).length<=os.length:=by
     intro os
     induction os with
     |nil=>intro sh;exact ju 0
     |cons o os ih=>
      intro sh;cases sh with
      |nil=>exact mn _
      |cons k sh=>
       have:=ih sh;rw[qI];split
       ·simp only[iF];omega
       ·simp only[iF];omega
    exact tm (this _ _) (by rw[nn];omega)
   refine⟨⟨oM,oM⟩,o.id,o.side,o.dm,o.dr,o.top,y7x ho,⟨sj,i.p,jG i.B (i.fs j),o.id,n⟩,rfl,rfl,rfl,⟨Sp,by dsimp only;rw[gO];omega⟩,λs' iP=>⟨by rw[ia];omega,(j+1,s'),qu oM,rfl,?_,⟨?_,Z9⟩,Z9,gn⟩⟩
   ·show ab y5 (qI i.inst (zF i.sd) (i.os.take (j+1)) (i.sh.take (j+1)))=_;rw[lp,jk,iw (by omega)];rfl
   ·show s'.ga i.p (jG i.B (qI i.inst (zF i.sd) (i.os.take (j+1)) (i.sh.take (j+1))));rw[lp,yJt];exact iP
  ·rw[ez (show ¬0<n from c2),oJ]at lp;refine⟨(j+1,sj),qu oM,rfl,?_,⟨?_,Z9⟩,Z9,gn⟩
   ·show ab y5 (qI i.inst (zF i.sd) (i.os.take (j+1)) (i.sh.take (j+1)))=_;rw[lp];rfl
   ·show sj.ga i.p (jG i.B (qI i.inst (zF i.sd) (i.os.take (j+1)) (i.sh.take (j+1))));rw[lp];exact Sp
 ·have FW:j=i.sh.length:=by omega
  subst FW;have hfa:i.fs i.sh.length=kV i.p i.B i.inst (zF i.sd) i.q:=zYd _ _;rw[hfa]at Sp ⊢;exact⟨sj,rfl,rfl,Sp⟩
def yRi:Gn.ok Tryz.prog 177:=gx mixed (dw U1 (dw xFv (dw yNd (dw Vo fk)))) 0 i6 (λi=>y9e i) [0] Tryz.func177 y8f
structure wY where
 dm:Int
 dr:Int
 gg:Bool
 ir:List cS
 deriving DecidableEq
def vB (t:wY):List D:=[.v (.int .i64 t.dm),.v (.int .i64 t.dr),.v (.bool t.gg),.ro 6 (t.ir.map y5)]
def aI (p:fj) (B:Q_ zJ) (inst:Int) (sd:Bool) (dm dr:Int):Option (wY×Q_ zJ):=
 let n:=y3 p B inst (zF (!sd))
 if(n.2.2 && (aZ sd dm n.1.dm && decide (1<=n.1.dr)))=ap then
  if n.2.1=ap then
   let f1:=kV p B n.1.a.inst n.1.a.side (min dr n.1.dr)
   let f2:=kV p (jG B f1) n.1.b.inst n.1.b.side (min dr n.1.dr)
   ar (⟨n.1.dm,min dr n.1.dr,ap,f1++f2⟩,jG (jG B f1) f2)
  else
   let f:=kV p B inst (zF (!sd)) (min dr n.1.dr)
   ar (⟨n.1.dm,min dr n.1.dr,ao,f⟩,jG B f)
 else au
structure y6f where
 steps:List wY
 left:Int
 B:Q_ zJ
def Dd (p:fj) (inst:Int) (sd:Bool) (dm:Int):Nat->Q_ zJ->Int->y6f
 |0,B,q=>⟨[],q,B⟩
 |n+1,B,q=>if q<=0 then⟨[],q,B⟩else match aI p B inst sd dm q with
  |none=>⟨[],q,B⟩
  |some (t,B')=>let r:=Dd p inst sd dm n B' (q-t.dr);⟨t::r.steps,r.left,r.B⟩
def vN (p:fj) (B:Q_ zJ) (inst:Int) (sd:Bool) (dm q:Int):y6f:=Dd p inst sd dm q.toNat B q
structure nv where
 s:gy
 p:fj
 B:Q_ zJ
 inst:Int
 sd:Bool
 dm:Int
 q:Int
def nv.r (i:nv):y6f:=vN i.p i.B i.inst i.sd i.dm i.q
def SZ:gh where
 ι:=nv
 pat:=λi=>[.nm 0 0,zB i.inst,zB (zF i.sd),zB i.dm,zB i.q]
 pre:=λi=>[zE i.s]
 dp:=λi=>i.s.ga i.p i.B/\jh i.p i.B/\(0<=i.inst/\i.inst<i.B.length)/\1<=i.q/\i.q<=1000000
 alts:=λi=>[{o:=gy,res:=λ_=> .je [.own 1,zB i.r.left],post:=λs=>[zE s,.own 205 4 (i.r.steps.map vB)],rel:=λs=>s.ga i.p i.r.B}]
structure Ft where
 s:gy
 B:Q_ zJ
 steps:List wY
 q:Int
def xJu:List gr:=[
 {ι:=Ft,du:=λj=>[(0,.nm 0 0),(12,.own 1),(4,zB j.q)],rows:=λj=>[zE j.s,.own 205 4 (j.steps.map vB)]},
 {ι:=Unit,du:=λ_=>[],rows:=λ_=>[],un:=3}]
def ZA (a:Ft->Nat) (b:Ft) (c:Ft) (d:nv):Prop:=a b<a c/\dl (ag 1 (iE d.s.p.dt))/\dl (ag 1 (iE d.s.p.settle))
def Vt (a:AF):Prop:=a.s.ga a.p a.B/\jh a.p a.B/\0<=a.inst/\a.inst<(a.B.length:Int)/\(-9223372036854775808)<=a.q/\a.q<=9223372036854775807
def ZD (a:nv) (b:Ft) (c:Fo):Prop:=∃(d:gy),a.r.left=b.q/\zE d=zE c.s/\ab vB a.r.steps=ab vB b.steps/\d.ga a.p a.r.B
def P1 (a:AF):=(ab y5 (fZ a))
def z9l (a:nv):Prop:=∃(b:Ft),b.q=a.q/\Qa b.s.p a.s.p (QH b.s a.s (ab vB b.steps=[]/\∃(c:Ft->Prop),∃(d:Ft->Nat),c b/\∀(e:Ft),c e->dp (decide (e.q>0)) (∃(f:Bool),zF f=zF a.sd/\True/\ff (∃(h:Fo),h.inst=a.inst/\zF h.sd=zF !f/\zE h.s=zE e.s/\(h.s.ga h.p h.B/\jh h.p h.B/\0<=h.inst/\h.inst<(h.B.length:Int))/\ff (dp (!(yE h).snd.snd) (ZD a e h) (∃(k:SP),zF k.s=zF a.sd/\k.p=a.dm/\k.x=(yE h).fst.dm/\True/\ff (dp (!aZ k.s k.p k.x) (ZD a e h) (dp (yE h).snd.fst (∃(m:AF),m.inst=(yE h).fst.a.inst/\zF m.sd=(yE h).fst.a.side/\m.q=min e.q (yE h).fst.dr/\zE m.s=zE h.s/\(Vt m)/\∀(n:gy),n.ga m.p (bY m)->True/\(P1 m).length*(48:Nat)<=(140737488355328:Nat)/\∃(p:AF),p.inst=(yE h).fst.b.inst/\zF p.sd=(yE h).fst.b.side/\p.q=min e.q (yE h).fst.dr/\zE p.s=zE n/\(Vt p)/\∀(q:gy),q.ga p.p (bY p)->True/\((P1 m).length+(P1 p).length)*(48:Nat)<=(140737488355328:Nat)/\((ab vB e.steps).length+1)*(48:Nat)<=(140737488355328:Nat)/\∃(r:Ft),r.q=aq.wrap (e.q-min e.q (yE h).fst.dr)/\zE r.s=zE q/\ab vB r.steps=ab vB e.steps++[[dI ((yE h).fst.dm),dI (min e.q (yE h).fst.dr),D.v (.bool (yE h).snd.fst),D.ro 6 (ab y5 (fZ m)++ab y5 (fZ p))]]/\c r/\ZA d r e a) (∃(m:Bool),zF m=zF a.sd/\True/\ff (dl (min e.q (yE h).fst.dr)/\∃(p:AF),p.inst=a.inst/\zF p.sd=zF !m/\p.q=min e.q (yE h).fst.dr/\zE p.s=zE h.s/\(Vt p)/\∀(q:gy),q.ga p.p (bY p)->((ab vB e.steps).length+1)*(48:Nat)<=(140737488355328:Nat)/\∃(r:Ft),r.q=aq.wrap (e.q-min e.q (yE h).fst.dr)/\zE r.s=zE q/\ab vB r.steps=ab vB e.steps++[[dI ((yE h).fst.dm),dI (min e.q (yE h).fst.dr),D.v (.bool (yE h).snd.fst),D.ro 6 (P1 p)]]/\c r/\ZA d r e a)))))))) (∃(f:gy),a.r.left=e.q/\zE f=zE e.s/\ab vB a.r.steps=ab vB e.steps/\f.ga a.p a.r.B)))
def aS (a:nv):Prop:=∃(b:gy),a.r.left=a.q/\Qa b.p a.s.p (QH b a.s (ab vB a.r.steps=[]/\b.ga a.p a.r.B))
def xCg (i:nv):Prop:=
 dp (decide (i.inst>=0)) (dp (decide (i.inst<(i.s.eg.length:Int))) (dp (zF i.sd==1) (dp (decide (i.q>=1)) (dp (!decide (i.q<=1000000)) (aS i) (z9l i)) (aS i)) (dp (zF i.sd==2) (dp (decide (i.q>=1)) (dp (!decide (i.q<=1000000)) (aS i) (z9l i)) (aS i)) (aS i))) (aS i)) (aS i)
structure QOk (T:List j') (q:Quote):Prop where
 a:0<=q.a.inst/\q.a.inst<T.length
 b:0<=q.b.inst/\q.b.inst<T.length
 sa:q.a.side=1\/q.a.side=2
 sb:q.b.side=1\/q.b.side=2
 ne:q.a.inst≠q.b.inst
 ha:(T.getD q.a.inst.toNat kf).has q.a.side=ap
 hb:(T.getD q.b.inst.toNat kf).has q.b.side=ap
 dr:q.dr=min ((T.getD q.a.inst.toNat kf).dr q.a.side) ((T.getD q.b.inst.toNat kf).dr q.b.side)
def yCf {T:List j'} {a b:Ct} {less:Bool} {q:Quote} (h:q∈xm T a b less) (h1:0<=a.inst/\a.inst<T.length) (h2:0<=b.inst/\b.inst<T.length) (h3:a.side=1\/a.side=2) (h4:b.side=1\/b.side=2) (jy:a.inst≠b.inst):QOk T q/\q.a=a/\q.b=b:=by
 cases less
 all_goals
  simp only[xm,oR,↓reduceIte]at h;split at h
  ·rename_i hc;simp only[lr]at hc;rw[ua]at h;subst h;exact⟨⟨h1,h2,h3,h4,jy,hc.1.1,hc.1.2,rfl⟩,rfl,rfl⟩
  ·cases h
def y4y:∀n≤6,∀k<n+n*(n-1) / 2,n<=k->(jT n k n 0).1≠(jT n k n 0).2.1:=by decide
def yIq {p:fj} (hc:p.check=0) {k:Nat} (hk:k<p.count) (hs:(p.gp k).2.2=ap):(p.gp k).1≠(p.gp k).2.1:=by
 have m6:=(jB hc).m6;have pk:=hk;rw[fj.count,fh hc]at pk;by_cases h:k<p.dt.length
 ·rw[fj.gp,ez (by omega),fh (by omega)]at hs;cases hs
 ·rw[fj.gp,ez (by omega),ez (by omega)];exact y4y p.dt.length m6 k pk oM
def yKv:∀n≤6,∀a<n,∀b<n,a<b->(yQ n a:Int)+b-a-1>=n:=by decide
def zZf {p:fj} (hc:p.check=0) {a b:Nat} (Dx:a<b) (hb:b<p.dt.length):(p.dt.length:Int)<=(p.spread a b).1:=by
 have m6:=(jB hc).m6;have:=yKv p.dt.length m6 a oM b hb Dx;rw[fj.spread,ez (by omega)];simpa using this
def yFr {p:fj} (hc:p.check=0) {T:List j'} (hT:T.length=p.count) {inst:Int} {s:Int} (hs:s=1\/s=2) {q:Quote} (h:q∈kZ ⟨p,T,inst⟩ s):QOk T q/\0<=inst/\inst<p.count/\
 (((p.gp inst).2.2=ap/\q.a=⟨(p.gp inst).1,s⟩/\q.b=⟨(p.gp inst).2.1,3-s⟩)\/(inst<p.dt.length/\q.a.inst≠inst/\(p.dt.length:Int)<=q.a.inst)):=by
 rw[kZ]at h;dsimp only at h;split at h
 ·cases h
 ·rename_i hn;have h0:0<=inst/\inst<p.count:=by omega
  obtain⟨k,rfl⟩:∃k:Nat,inst=k:=⟨inst.toNat,oM⟩
  have hk:k<p.count:=by omega
  have Me:=VA hc;split at h
  ·rename_i hl;obtain⟨q',X4,rfl⟩:=np.1 h;have hle:=dM hc hk;rcases hle with⟨_,l1,l2,l3,l4⟩|⟨e,_⟩
   ·obtain⟨ok,e1,e2⟩:=yCf X4 Z9 Z9 Z9 hs (λe=>yIq hc hk hl e.symm);refine⟨⟨by dsimp only[aY];omega,by dsimp only[aY];omega,hs,by dsimp only[aY];omega,yIq hc hk hl,?_,?_,?_⟩,h0.1,h0.2,.inl ⟨hl,rfl,rfl⟩⟩
    ·have:=ok.hb;rw[e2]at this;exact this
    ·have:=ok.ha;rw[e1]at this;exact this
    ·have:=ok.dr;rw[e1,e2]at this;dsimp only[aY];rw[this];exact Int.min_comm _ _
   ·rw[e]at hl;cases hl
  ·rename_i hl;have hm:k<p.dt.length:=by
    rcases dM hc hk with⟨e,_⟩|⟨_,e⟩
    ·exact absurd e hl
    ·exact e
   rcases oK.1 h with h|h
   ·obtain⟨j,hj,h⟩:=A8.1 h;have hj:=Cd.1 hj;rw[ot]at hj;have s1:=mI hc (a:=k) (b:=k+1+j) oM oM;have s2:=zZf hc (a:=k) (b:=k+1+j) oM oM;have ec:((k:Int)+1+j)=((k+1+j:Nat):Int):=by omega
    rw[ec]at h;obtain⟨ok,e1,e2⟩:=yCf h Z9 Z9 hs hs Z9;exact⟨ok,h0.1,h0.2,.inr ⟨oM,by rw[e1];dsimp only;omega,by rw[e1];exact s2⟩⟩
   ·obtain⟨j,hj,h⟩:=A8.1 h;have hj:=Cd.1 hj;rw[ot]at hj;have s1:=mI hc (a:=j) (b:=k) oM oM;have s2:=zZf hc (a:=j) (b:=k) oM oM;obtain⟨ok,e1,e2⟩:=yCf h Z9 Z9 Z9 hs Z9;exact⟨ok,h0.1,h0.2,.inr ⟨oM,by rw[e1];dsimp only;omega,by rw[e1];exact s2⟩⟩
def zXy {s:Int}:∀(r:List Quote) (q:Quote),r.foldl (λb q=>if jl s q.dm b.dm then q else b) q∈q::r
 |[],q=>iX
 |x::r,q=>by
  rw[A7];have:=zXy (s:=s) r (if jl s x.dm q.dm then x else q);rcases jx.1 this with e|h
  ·rw[e];split
   ·exact ji _ iX
   ·exact iX
  ·exact ji _ (ji _ h)
def zMp {l:List Quote} {s:Int} (h:(z6 l s).2=ap):(z6 l s).1∈l:=by
 cases l with
 |nil=>cases h
 |cons q r=>exact zXy r q
def W6 (B:Q_ zJ):Prop:=∀(k:Nat) (L:List zJ),B[k]?=ar L->(∀o∈L,Ln o)/\(L.map (·.id)).Nodup/\L.length<=250
def gy.ga.oy {s:gy} {p:fj} {B:Q_ zJ} (h:s.ga p B):W6 B:=by
 intro k L hL;obtain⟨b,hb⟩:=zZ (l:=s.eg) (i:=k) (by rw[h.bl];exact(jm.1 hL).1);exact(h.bk k b L hb hL).oy
def Xs:∀{l:List zJ} {v:Lv},(∀o∈l,Ln o)->v∈xw l->1<=v.dr/\v.dr<=1000000*l.length
 |[],v,_,h=>by cases h
 |o::l,v,ho,h=>by
  have h0:=(ho o iX).q;have ih:∀v∈xw l,1<=v.dr/\v.dr<=1000000*l.length:=λv hv=>Xs (λx hx=>ho x (ji _ hx)) hv
  rw[xw]at h;rw[iF];split at h
  ·rw[ua]at h;subst h;dsimp only;omega
  ·rename_i w ws e;rw[e]at ih;have hw:=ih w iX;split at h
   ·rcases jx.1 h with rfl|h
    ·dsimp only;omega
    ·have:=ih v (ji _ h);omega
   ·rcases jx.1 h with rfl|h
    ·dsimp only;omega
    ·have:=ih v h;omega
def yCx {L:List zJ} {s:Int} (h:∀o∈L,Ln o) (hl:L.length<=250) (hb:(iG L s).2=ap):1<=(iG L s).1.dr/\(iG L s).1.dr<=250000000:=by
 rw[iG]at hb ⊢;cases Ff:uE L s with
 |nil=>rw[Ff]at hb;cases hb
 |cons v vs=>
  dsimp only;have hm:v∈xw (L.filter λo=>decide (o.side=s)):=by rw[<- uE,Ff];exact iX
  have:=Xs (λo ho=>h o (ug.1 ho).1) hm;have:=HE (λo:zJ=>decide (o.side=s)) L;omega
def yRd {B:Q_ zJ} {k:Nat} {L:List zJ} (hL:B[k]? =ar L):(B.map qC).getD k kf=qC L:=zX (by rw[qt,hL];rfl)
def Va (L:List zJ) {s:Int} (hs:s=1\/s=2):(qC L).has s=(iG L s).2/\(qC L).dr s=(iG L s).1.dr/\(qC L).dm s=(iG L s).1.dm:=by
 obtain⟨e1,e2,e3,e4,e5,e6⟩:=UW L;rcases hs with rfl|rfl
 ·exact⟨e3,e2,e1⟩
 ·exact⟨e6,e5,e4⟩
def yDi {p:fj} {B:Q_ zJ} (h:jh p B) (ho:W6 B) {inst:Int} (hi:0<=inst/\inst<B.length) {s:Int} (hs:s=1\/s=2) (hn:(y3 p B inst s).2.2=ap):
 (1<=(y3 p B inst s).1.dr/\(y3 p B inst s).1.dr<=250000000)/\((y3 p B inst s).2.1=ap->(y3 p B inst s).1∈kZ ⟨p,B.map qC,inst⟩ s/\QOk (B.map qC) (y3 p B inst s).1)/\
 ((y3 p B inst s).2.1=ao->(iG (B.getD inst.toNat []) s).2=ap/\(y3 p B inst s).1.dm=(iG (B.getD inst.toNat []) s).1.dm/\(y3 p B inst s).1.dr=(iG (B.getD inst.toNat []) s).1.dr):=by
 obtain⟨k,rfl⟩:∃k:Nat,inst=k:=⟨inst.toNat,oM⟩
 obtain⟨L,hL⟩:=zZ (l:=B) (i:=k) oM;have hLo:=ho k L hL;rw[y3]at hn ⊢;rw[ot,zX hL]at hn ⊢;split
 ·rename_i c;simp only[lr]at c;exact⟨yCx hLo.1 hLo.2.2 c.1,⟨λe=>(by cases e),λ_=>⟨c.1,rfl,rfl⟩⟩⟩
 ·rename_i c;rw[ez c]at hn;dsimp only at hn ⊢;have hm:=zMp hn;have ha:(z6 (xR ⟨p,B.map qC,k⟩ s) s).1∈kZ ⟨p,B.map qC,k⟩ s:=(ug.1 hm).1;obtain⟨ok,_⟩:=yFr h.pc (by rw[ia];exact h.bl) hs ha;refine⟨?_,λ_=>⟨ha,ok⟩,λe=>by rw[hn]at e;cases e⟩;generalize (z6 (xR ⟨p,B.map qC,k⟩ s) s).1=q at ok;have a:=ok.a;have b:=ok.b;rw[ia]at a b;obtain⟨La,hLa⟩:=zZ (l:=B) (i:=q.a.inst.toNat) oM;obtain⟨Lb,Kn⟩:=zZ (l:=B) (i:=q.b.inst.toNat) oM;have e1:=ok.ha;have e2:=ok.hb;have e3:=ok.dr;rw[yRd hLa]at e1 e3;rw[yRd Kn]at e2 e3;rw[(Va La ok.sa).1]at e1;rw[(Va Lb ok.sb).1]at e2;rw[(Va La ok.sa).2.1,(Va Lb ok.sb).2.1]at e3;have:=yCx (ho _ _ hLa).1 (ho _ _ hLa).2.2 e1;have:=yCx (ho _ _ Kn).1 (ho _ _ Kn).2.2 e2;omega
def yUb {L:List zJ} {id q:Int} {o:zJ} (h:o∈(qK L id q).1):∃o'∈L,o.dm=o'.dm/\o.side=o'.side/\o.id=o'.id:=by
 rw[qK]at h;split at h
 ·exact⟨o,h,rfl,rfl,rfl⟩
 split at h
 ·exact⟨o,h,rfl,rfl,rfl⟩
 obtain⟨o',oG,e⟩:=Om.1 h;refine⟨o',oG,?_⟩;split at e
 ·split at e
  ·cases e
  ·cases e;exact⟨rfl,rfl,rfl⟩
 ·cases e;exact⟨rfl,rfl,rfl⟩
def jh.take {p:fj} {B:Q_ zJ} (h:jh p B) (id q:Int):jh p (iO B id q).1:=by
 refine⟨h.pc,h.ps,by rw[sQ];exact h.bl,λk L hL o ho=> ?_⟩;rw[iO]at hL;split at hL
 ·exact h.pr k L hL o ho
 ·rename_i j hj;dsimp only at hL;rcases mE hL with⟨rfl,rfl⟩|⟨_,hL⟩
  ·obtain⟨o',oG,e,_⟩:=yUb ho;obtain⟨L',Kp,_⟩:=u6 hj;rw[zX Kp]at oG;rw[e];exact h.pr k L' Kp o' oG
  ·exact h.pr k L hL o ho
def jh.takes {p:fj}:∀{fs:List cS} {B:Q_ zJ},jh p B->jh p (jG B fs)
 |[],B,h=>h
 |f::fs,B,h=>jh.takes (fs:=fs) (h.take f.id f.dr)
def z5s (inst s:Int):∀(os:List zJ) (sh:List Int),(qI inst s os sh).length<=os.length
 |[],sh=>ju 0
 |o::os,[]=>mn _
 |o::os,k::sh=>by
  have:=z5s inst s os sh;rw[qI];split
  ·simp only[iF];omega
  ·simp only[iF];omega
def r9 {p:fj} {B:Q_ zJ} (ho:W6 B) (inst s q:Int):(kV p B inst s q).length<=250:=by
 refine tm (z5s _ _ _ _) (tm (HE _ _) ?_);by_cases h:inst.toNat<B.length
 ·obtain⟨L,hL⟩:=zZ h;rw[zX hL];exact(ho _ _ hL).2.2
 ·rw[mu,ui (by omega)];exact mn _
def Pd {p:fj} {B:Q_ zJ} {inst:Int} {sd:Bool} {dm q:Int} {t:wY} {B':Q_ zJ} (hq:1<=q) (h:aI p B inst sd dm q=ar (t,B')):1<=t.dr/\t.dr<=q:=by
 rw[aI]at h;dsimp only at h;split at h
 ·rename_i c;simp only[lr,tn]at c;split at h
  ·cases h;dsimp only;omega
  ·cases h;dsimp only;omega
 ·cases h
def z5y {p:fj} {inst:Int} {sd:Bool} {dm:Int}:∀(m n:Nat) (B:Q_ zJ) (q:Int),q.toNat<=m->q.toNat<=n->Dd p inst sd dm m B q=Dd p inst sd dm n B q
 |0,0,B,q,_,_=>rfl
 |0,n+1,B,q,h,_=>by rw[Dd,Dd,fh (by omega)]
 |m+1,0,B,q,_,h=>by rw[Dd,Dd,fh (by omega)]
 |m+1,n+1,B,q,h1,h2=>by
  rw[Dd,Dd];split
  ·rfl
  ·rename_i hq;cases hs:aI p B inst sd dm q with
   |none=>rfl
   |some x=>
    obtain⟨t,B'⟩:=x;have:=Pd oM hs;dsimp only;rw[z5y m n B' (q-t.dr) (by omega) (by omega)]
def PU {p:fj} {B:Q_ zJ} {inst:Int} {sd:Bool} {dm q:Int} (h:q<=0\/aI p B inst sd dm q=au):vN p B inst sd dm q=⟨[],q,B⟩:=by
 rw[vN];cases hn:q.toNat with
 |zero=>rfl
 |succ n=>
  rw[Dd];rcases h with h|h
  ·rw[fh h]
  ·rw[ez (by omega),h]
def YN {p:fj} {B:Q_ zJ} {inst:Int} {sd:Bool} {dm q:Int} {t:wY} {B':Q_ zJ} (hq:1<=q) (h:aI p B inst sd dm q=ar (t,B')):
 vN p B inst sd dm q=⟨t::(vN p B' inst sd dm (q-t.dr)).steps,(vN p B' inst sd dm (q-t.dr)).left,(vN p B' inst sd dm (q-t.dr)).B⟩:=by
 have ht:=Pd hq h;rw[vN];cases hn:q.toNat with
 |zero=>omega
 |succ n=>
  rw[Dd,ez (by omega),h];dsimp only;rw[z5y n (q-t.dr).toNat B' (q-t.dr) (by omega) (ju _)];rfl
def dL {s:Int} (h:s=1\/s=2):zF (decide (s=2))=s:=by
 rcases h with rfl|rfl<;>rfl
def xHp (i:nv) (h:SZ.dp i):xCg i:=by
 obtain⟨hR,hB,⟨h0,h1⟩,wm,ue⟩:i.s.ga i.p i.B/\jh i.p i.B/\(0<=i.inst/\i.inst<i.B.length)/\1<=i.q/\i.q<=1000000:=h;have zz:=hR.bl;have wv:=y7 i.p;have hbB:=hB.bl;unfold xCg z9l QH Qa ff bY P1 fZ ZD Vt ZA yE aS QH Qa dI;refine(λhT=>zG (λc=>zG (λc2=>Cv.dp.mk (λ_=>zG (λ_=>Cv.dp.mk (λe=>absurd ue (i9 e)) (λ_=>hT)) (λe=>absurd wm e)) (λe1=>Cv.dp.mk (λ_=>zG (λ_=>Cv.dp.mk (λe=>absurd ue (i9 e)) (λ_=>hT)) (λe=>absurd wm e)) (λe2=>by
  rcases Py i.sd with e|e
  ·rw[e]at e1;cases e1
  ·rw[e]at e2;cases e2))) (λc2=>absurd oM c2)) (λc=>absurd h0 c)) ?_
 refine⟨⟨i.s,i.B,[],i.q⟩,iA (nr ⟨rfl,λj=>j.s.ga i.p j.B/\jh i.p j.B/\j.B.length=i.B.length/\(0<=j.q/\j.q<=i.q)/\(j.steps.length:Int)<=i.q-j.q/\i.r=⟨j.steps++(vN i.p j.B i.inst i.sd i.dm j.q).steps,(vN i.p j.B i.inst i.sd i.dm j.q).left,(vN i.p j.B i.inst i.sd i.dm j.q).B⟩,λj=>j.q.toNat,⟨hR,hB,rfl,⟨Z9,yl _⟩,by dsimp only;simp,rfl⟩,?_⟩)⟩;rintro⟨s,B,st,q⟩ ⟨r1,r2,r3,⟨r4,r4'⟩,r5,r6⟩;dsimp only at r1 r2 r3 r4 r4' r5 r6 ⊢;have Ek (hn:q<=0\/aI i.p B i.inst i.sd i.dm q=au):∃(o:gy),i.r.left=q/\ak gy (5:Nat) qB o=ak gy (5:Nat) qB s/\ab vB i.r.steps=ab vB st/\o.ga i.p i.r.B:=by
  rw[PU hn,oJ]at r6;rw[r6];exact⟨s,iM r1⟩
 refine zG (λc=> ?_) (λc=>Ek (.inl oM));have c:0<q:=c;refine⟨i.sd,rfl,trivial,λ_ _=>⟨⟨s,i.p,B,i.inst,!i.sd⟩,rfl,rfl,rfl,⟨r1,r2,h0,Z9⟩,λ_ _=> ?_⟩⟩;dsimp only;have hni:=yDi r2 r1.oy (inst:=i.inst) ⟨h0,oM⟩ (Py (!i.sd));have Fb:aI i.p B i.inst i.sd i.dm q=(if((y3 i.p B i.inst (zF (!i.sd))).2.2 && (aZ i.sd i.dm (y3 i.p B i.inst (zF (!i.sd))).1.dm && decide (1<=(y3 i.p B i.inst (zF (!i.sd))).1.dr)))=ap then
  if(y3 i.p B i.inst (zF (!i.sd))).2.1=ap then
   ar (⟨(y3 i.p B i.inst (zF (!i.sd))).1.dm,min q (y3 i.p B i.inst (zF (!i.sd))).1.dr,ap,kV i.p B (y3 i.p B i.inst (zF (!i.sd))).1.a.inst (y3 i.p B i.inst (zF (!i.sd))).1.a.side (min q (y3 i.p B i.inst (zF (!i.sd))).1.dr)++kV i.p (jG B (kV i.p B (y3 i.p B i.inst (zF (!i.sd))).1.a.inst (y3 i.p B i.inst (zF (!i.sd))).1.a.side (min q (y3 i.p B i.inst (zF (!i.sd))).1.dr))) (y3 i.p B i.inst (zF (!i.sd))).1.b.inst (y3 i.p B i.inst (zF (!i.sd))).1.b.side (min q (y3 i.p B i.inst (zF (!i.sd))).1.dr)⟩,jG (jG B (kV i.p B (y3 i.p B i.inst (zF (!i.sd))).1.a.inst (y3 i.p B i.inst (zF (!i.sd))).1.a.side (min q (y3 i.p B i.inst (zF (!i.sd))).1.dr))) (kV i.p (jG B (kV i.p B (y3 i.p B i.inst (zF (!i.sd))).1.a.inst (y3 i.p B i.inst (zF (!i.sd))).1.a.side (min q (y3 i.p B i.inst (zF (!i.sd))).1.dr))) (y3 i.p B i.inst (zF (!i.sd))).1.b.inst (y3 i.p B i.inst (zF (!i.sd))).1.b.side (min q (y3 i.p B i.inst (zF (!i.sd))).1.dr)))
  else ar (⟨(y3 i.p B i.inst (zF (!i.sd))).1.dm,min q (y3 i.p B i.inst (zF (!i.sd))).1.dr,ao,kV i.p B i.inst (zF (!i.sd)) (min q (y3 i.p B i.inst (zF (!i.sd))).1.dr)⟩,jG B (kV i.p B i.inst (zF (!i.sd)) (min q (y3 i.p B i.inst (zF (!i.sd))).1.dr)))else au):=rfl
 generalize y3 i.p B i.inst (zF (!i.sd))=nb at hni Fb ⊢;refine Cv.dp.mk (λn1=> ?_) (λn1=>⟨⟨i.sd,i.dm,nb.1.dm⟩,rfl,rfl,rfl,trivial,λ_ _=>Cv.dp.mk (λn2=> ?_) (λn2=> ?_)⟩)
 ·have n1:nb.2.2=ao:=i9 n1
  rw[n1,ez (by simp)]at Fb;exact Ek (.inr Fb)
 ·have n2:aZ i.sd i.dm nb.1.dm=ao:=i9 n2
  rw[n2,ez (by simp)]at Fb;exact Ek (.inr Fb)
 have n1:nb.2.2=ap:=i9 n1
 have n2:aZ i.sd i.dm nb.1.dm=ap:=i9 n2
 obtain⟨⟨b1,b2⟩,hi,hr⟩:=hni n1;rw[n1,n2,jo b1,fh (by rfl)]at Fb;have hk:yP (min q nb.1.dr):=by constructor<;>omega
 have yt:(st.length+1)*48<=140737488355328:=by omega
 have beh:∀(t:wY) (B':Q_ zJ) (s':gy),aI i.p B i.inst i.sd i.dm q=ar (t,B')->s'.ga i.p B'->jh i.p B'->B'.length=B.length->
  (s'.ga i.p B'/\jh i.p B'/\B'.length=i.B.length/\(0<=q-t.dr/\q-t.dr<=i.q)/\((st++[t]).length:Int)<=i.q-(q-t.dr)/\i.r=⟨(st++[t])++(vN i.p B' i.inst i.sd i.dm (q-t.dr)).steps,(vN i.p B' i.inst i.sd i.dm (q-t.dr)).left,(vN i.p B' i.inst i.sd i.dm (q-t.dr)).B⟩)/\(q-t.dr).toNat<q.toNat:=by
  intro t B' s' h1 h2 h3 h4;have ht:=Pd oM h1;refine⟨⟨h2,h3,oM,⟨oM,oM⟩,by rw[iv,Ba];omega,?_⟩,oM⟩;rw[YN (by omega) h1]at r6;rw[r6,jd];rfl
 refine Cv.dp.mk (λn3=> ?_) (λn3=> ?_)
 ·obtain⟨_,ok⟩:=hi n3;rw[n3,fh rfl]at Fb;have oka:=ok.a;have okb:=ok.b;rw[ia]at oka okb;have ea:=dL ok.sa;have eb:=dL ok.sb;refine⟨⟨s,i.p,B,nb.1.a.inst,decide (nb.1.a.side=2),min q nb.1.dr⟩,rfl,ea,rfl,rfl,⟨r1,r2,oka.1,oka.2,hk⟩,λs1 ud=> ?_⟩;dsimp only at ud ⊢;rw[ea]at ud ⊢;have l1:=r9 (p:=i.p) r1.oy nb.1.a.inst nb.1.a.side (min q nb.1.dr);have OW:=r2.takes (fs:=kV i.p B nb.1.a.inst nb.1.a.side (min q nb.1.dr));have l2:=r9 (p:=i.p) ud.oy nb.1.b.inst nb.1.b.side (min q nb.1.dr);refine⟨trivial,by rw[ia];omega,⟨s1,i.p,jG B (kV i.p B nb.1.a.inst nb.1.a.side (min q nb.1.dr)),nb.1.b.inst,decide (nb.1.b.side=2),min q nb.1.dr⟩,rfl,eb,rfl,rfl,⟨ud,OW,okb.1,by dsimp only;rw[gO];exact okb.2,hk⟩,λs2 yu=> ?_⟩;dsimp only at yu ⊢;rw[eb]at yu ⊢;obtain⟨g1,g2⟩:=beh _ _ s2 Fb yu OW.takes (by rw[gO,gO]);refine⟨trivial,by rw[ia,ia];omega,by rw[ia];exact yt,⟨s2,_,st++[_],_⟩,?_,rfl,?_,g1,g2,gn⟩
  ·dsimp only;rw[iw (by omega)]
  ·dsimp only;rw[jk,n3];simp[vB]
 ·rw[n3,ez (by decide)]at Fb;refine⟨i.sd,rfl,trivial,λ_ _=>⟨rfl,⟨s,i.p,B,i.inst,!i.sd,min q nb.1.dr⟩,iM ⟨rfl,⟨r1,r2,h0,Z9,hk⟩,λs1 ud=> ?_⟩⟩⟩;dsimp only at ud ⊢;obtain⟨g1,g2⟩:=beh _ _ s1 Fb ud r2.takes (by rw[gO]);refine⟨by rw[ia];exact yt,⟨s1,_,st++[_],_⟩,?_,rfl,?_,g1,g2,gn⟩
  ·dsimp only;rw[iw (by omega)]
  ·dsimp only;rw[jk,n3];simp[vB]
def yBy:SZ.ok Tryz.prog 97:=gx mixed (dw yYy (dw zXe (dw z3i (dw yRi fk)))) 2 i6 (λ_=>xJu) [0] Tryz.func97 xHp
def yUv {L:List zJ} {s id p q:Int} {o:zJ} (h:o∈Ie L s id p q):o.dm=p\/∃o'∈L,o.dm=o'.dm:=by
 have key:∀X:List zJ,(o∈X.takeWhile (before s p)++⟨id,s,p,q,fS L s p⟩::X.dropWhile (before s p))->o.dm=p\/o∈X:=by
  intro X hX;rcases oK.1 hX with hX|hX
  ·exact .inr (List.takeWhile_sublist _|>.subset hX)
  ·rcases jx.1 hX with rfl|hX
   ·exact .inl rfl
   ·exact .inr (List.dropWhile_sublist _|>.subset hX)
 rw[Ie]at h;split at h
 ·rcases key _ h with h|h
  ·exact .inl h
  ·obtain⟨o',oG,_,_,e,_⟩:=yFl h;exact .inr ⟨o',oG,e⟩
 ·rcases key _ h with h|h
  ·exact .inl h
  ·exact .inr ⟨o,h,rfl⟩
def jh.add {p:fj} {B:Q_ zJ} (h:jh p B) (inst id s dm q:Int):jh p (Io p B inst id s dm q).1:=by
 rw[Io];split
 ·exact h
 split
 ·exact h
 split
 ·exact h
 split
 ·exact h
 rename_i c1 _ _ c4;have c4:p.dm inst dm=0:=i9 c4
 refine⟨h.pc,h.ps,by simpa using h.bl,λk L hL o ho=> ?_⟩;dsimp only at hL;rcases mE hL with⟨rfl,rfl⟩|⟨_,hL⟩
 ·obtain⟨L',Kp⟩:=zZ (l:=B) (i:=inst.toNat) oM;rw[zX Kp,CB]at ho;have e:((inst.toNat:Nat):Int)=inst:=by omega
  repeat' split at ho
  ·exact h.pr _ L' Kp o ho
  ·exact h.pr _ L' Kp o ho
  ·exact h.pr _ L' Kp o ho
  ·rcases yUv ho with h1|⟨o',oG,h1⟩
   ·rw[h1,e];exact c4
   ·rw[h1];exact h.pr _ L' Kp o' oG
 ·exact h.pr k L hL o ho
def jh.new {p:fj} (hc:p.check=0) (hp:p.small):jh p (ac p.count []):=by
 refine⟨hc,hp,by simp,λk L hL o ho=> ?_⟩;rw[XF (lh hL)]at ho;cases ho
def gy.ga.fit {s:gy} {p:fj} {B:Q_ zJ} (h:s.ga p B) (hb:jh p B):s.fit:=by
 have:=y7 p;refine⟨by rw[h.ep];exact hb.ps,by rw[h.bl,hb.bl];omega,λb hm=> ?_⟩;obtain⟨k,hk⟩:=Bv.1 hm;have gu:=(jm.1 hk).1;rw[h.bl]at gu;obtain⟨L,hL⟩:=zZ gu;exact(h.bk k b L hk hL).fit
def Ho (r:Nat):Bool:=decide (32<=r) && decide (r≠127) && decide (r≠65533)
def cK (s:i4):Bool:=(jM s).all Ho && decide (1<=(jM s).length) && decide ((jM s).length<=12)
def Td:gh:=fp i4 (λs=>[sV s]) i6 (λs=>s.length<=140737488355328) (λs=>yL (cK s)) i6
def xHz (s:i4):List gr:=[{ι:=Nat×Nat,du:=λx=>[(3,zB x.2),(7,.nm 0 0)],rows:=λx=>[.iter (sb s) x.1]}]
def uN (n:Int):Bool:=decide (-2000000<=n) && decide (n<=2000000)
def jE (n:Int):Bool:=decide (1<=n) && decide (n<=1000000)
def iq.gl (c:iq):Int:=
 if c.side≠1/\c.side≠2 then 21 else if c.time<1\/3<c.time then 27 else if jE c.dr=ao then 24 else if c.least<0\/c.dr<c.least then 28
 else if c.label≠[]/\cK c.label=ao then 29 else if uN c.dm=ao then 23 else if c.inst<0\/255<c.inst then 20 else 0
def iq.right (c:iq):Int:=
 if c.kind<1\/4<c.kind then 31 else if c.id<1\/1099511627776<c.id then 1 else if c.kind=1 then c.gl
 else if c.kind≠2/\jE c.dr=ao then 24 else if c.kind=4/\uN c.dm=ao then 23 else 0
def D7:gh:=fp iq (λc=>[De c]) i6 (λc=>c.label.length<=140737488355328) (λc=>zB c.gl) i6
def GY:gh:=fp iq (λc=>[De c]) i6 (λc=>c.label.length<=140737488355328) (λc=>zB c.right) i6
def xEh (s:i4):Prop:=
 ∃(a:Nat×Nat),(a.snd:Int)=0/\sb s=sb s/\a.fst=0/\∃(b:Nat×Nat->Prop),∃(c:Nat×Nat->Nat),b a/\∀(d:Nat×Nat),b d->dp (d.fst.blt (sb s).size) (dp (decide ((qS s d)<32)) (dx (cK s=ao/\True)) (dp ((qS s d)==127) (dx (cK s=ao/\True)) (dp ((qS s d)==65533) (dx (cK s=ao/\True)) (bU d s b c)))) (dp (decide ((d.snd:Int)>=1)) (dx (cK s=decide ((d.snd:Int)<=12)/\True)) (dx (cK s=ao/\True)))
def zMc (a:iq):Prop:=∃(b:i4),sb b=sb a.label/\b.length<=140737488355328/\ff (dp (!cK b) (dx (a.gl=29/\True)) (dp (decide (a.dm>=(-2000000))) (dp (!decide (a.dm<=2000000)) (dx (a.gl=23/\True)) (dp (decide (a.inst<0)) (dx (a.gl=20/\True)) (dp (decide (a.inst>255)) (dx (a.gl=20/\True)) (dx (a.gl=0/\True))))) (dx (a.gl=23/\True))))
def y2f (c:iq):Prop:=
 dp (c.side !=1) (dp (c.side !=2) (dx (c.gl=21/\True)) (dp (decide (c.time<1)) (dx (c.gl=27/\True)) (dp (decide (c.time>3)) (dx (c.gl=27/\True)) (dp (decide (c.dr>=1)) (dp (!decide (c.dr<=1000000)) (dx (c.gl=24/\True)) (dp (decide (c.least<0)) (dx (c.gl=28/\True)) (dp (decide (c.least>c.dr)) (dx (c.gl=28/\True)) (dp (!(sb c.label).toList==(ByteArray.mk #[]).toList) (zMc c) (dp (decide (c.dm>=(-2000000))) (dp (!decide (c.dm<=2000000)) (dx (c.gl=23/\True)) (dp (decide (c.inst<0)) (dx (c.gl=20/\True)) (dp (decide (c.inst>255)) (dx (c.gl=20/\True)) (dx (c.gl=0/\True))))) (dx (c.gl=23/\True))))))) (dx (c.gl=24/\True)))))) (dp (decide (c.time<1)) (dx (c.gl=27/\True)) (dp (decide (c.time>3)) (dx (c.gl=27/\True)) (dp (decide (c.dr>=1)) (dp (!decide (c.dr<=1000000)) (dx (c.gl=24/\True)) (dp (decide (c.least<0)) (dx (c.gl=28/\True)) (dp (decide (c.least>c.dr)) (dx (c.gl=28/\True)) (dp (!(sb c.label).toList==(ByteArray.mk #[]).toList) (zMc c) (dp (decide (c.dm>=(-2000000))) (dp (!decide (c.dm<=2000000)) (dx (c.gl=23/\True)) (dp (decide (c.inst<0)) (dx (c.gl=20/\True)) (dp (decide (c.inst>255)) (dx (c.gl=20/\True)) (dx (c.gl=0/\True))))) (dx (c.gl=23/\True))))))) (dx (c.gl=24/\True)))))
def yOs (c:iq):Prop:=
 dp (decide (c.kind<1)) (dx (c.right=31/\True)) (dp (decide (c.kind>4)) (dx (c.right=31/\True)) (dp (decide (c.id<1)) (dx (c.right=1/\True)) (dp (decide (c.id>1099511627776)) (dx (c.right=1/\True)) (dp (c.kind==1) (∃(a:iq),Qd a c (a.label.length<=140737488355328/\ff (dx (c.right=a.gl/\True)))) (dp (c.kind !=2) (dp (decide (c.dr>=1)) (dp (!decide (c.dr<=1000000)) (dx (c.right=24/\True)) (dp (c.kind==4) (dp (decide (c.dm>=(-2000000))) (dp (!decide (c.dm<=2000000)) (dx (c.right=23/\True)) (dx (c.right=0/\True))) (dx (c.right=23/\True))) (dx (c.right=0/\True)))) (dx (c.right=24/\True))) (dp (c.kind==4) (dp (decide (c.dm>=(-2000000))) (dp (!decide (c.dm<=2000000)) (dx (c.right=23/\True)) (dx (c.right=0/\True))) (dx (c.right=23/\True))) (dx (c.right=0/\True))))))))
def xIm (s:i4) (h:Td.dp s):xEh s:=by
 have h:s.length<=140737488355328:=h;have hr:=zMs s;unfold xEh dx qS bU;refine⟨(0,0),rfl,rfl,rfl,λx=>x.1<=s.length/\x.2+(g7 s x.1).length=(jM s).length/\(jM s).all Ho=(g7 s x.1).all λx=>Ho x.2,λx=>s.length-x.1,⟨oM,by rw[jM,ia];simp,by rw[jM,List.all_map];rfl⟩,?_⟩;rintro⟨p,n⟩ ⟨h1,h2,h3⟩;dsimp only at h1 h2 h3 ⊢;refine Cv.dp.mk (λhp=> ?_) (λhp=> ?_)
 ·have hp:p<s.length:=by simpa[yk]using hp
  have hw:=aU s hp;rw[wM hp,iF]at h2;rw[wM hp,List.all_cons]at h3;generalize hc:(Utf8.decode (sb s) p).1=c at h2 h3 ⊢;generalize hww:(Utf8.decode (sb s) p).2=w at h2 h3 hw ⊢;dsimp only at h3;have bad:Ho c=ao->∃(o:Unit),cK s=ao/\True:=λe=>⟨(),by rw[cK,h3,e];rfl,trivial⟩
  refine zG (λc1=>bad ?_) (λc1=>Cv.dp.mk (λc2=>bad ?_) (λc2=>Cv.dp.mk (λc3=>bad ?_) (λc3=> ?_)))
  ·simp[Ho];omega
  ·have c2:(c:Int)=127:=i9 c2
   simp[Ho];omega
  ·have c3:(c:Int)=65533:=i9 c3
   simp[Ho];omega
  ·have c2:¬(c:Int)=127:=i9 c2
   have c3:¬(c:Int)=65533:=i9 c3
   have e:Ho c=ap:=by simp[Ho];omega
   refine⟨(p+w,n+1),?_,rfl,rfl,⟨hw.2,by(first|omega|(dsimp only;omega)),by rw[h3,e];rfl⟩,by(first|omega|(dsimp only;omega)),trivial⟩;rw[iw (by omega)];rfl
 ·have hp:s.length<=p:=by have:=Xt hp;simpa using this
  rw[hU hp]at h2 h3;have h2:n=(jM s).length:=h2;have h3:(jM s).all Ho=ap:=h3;refine zG (λc=>⟨(),?_,trivial⟩) (λc=>⟨(),?_,trivial⟩)
  ·rw[cK,h3,<- h2,jo (show 1<=n by omega)];simp only[As];congr 1;simp only[eq_iff_iff];omega
  ·rw[cK,<- h2,jv (show ¬1<=n by omega)];simp
def y4l:Td.ok Tryz.prog 244:=gx mixed fk 0 i6 (λs=>xHz s) [] Tryz.func244 xIm
def xHt (a b:Int):(a==b)=decide (a=b):=by
 by_cases h:a=b
 ·subst h;simp
 ·simp[h]
def xDx (a b:Int):(a !=b)=decide (a≠b):=by
 by_cases h:a=b
 ·subst h;simp
 ·simp[h]
def eqB (a b:i4):((sb a).toList==(sb b).toList)=decide (a=b):=by
 rw[rT,rT];by_cases h:a=b
 ·subst h;simp
 ·simp[h]
def y9j:ByteArray.mk #[]=sb []:=rfl
def xEv (c:iq) (h:D7.dp c):y2f c:=by
 have h:c.label.length<=140737488355328:=h;unfold y2f dx zMc ff dx;simp only[y9j,eqB,xDx];have tail:¬(c.side≠1/\c.side≠2)->dp (decide (c.time<1)) (∃(o:Unit),c.gl=27/\True) (dp (decide (c.time>3)) (∃(o:Unit),c.gl=27/\True) (dp (decide (c.dr>=1)) (dp (!decide (c.dr<=1000000)) (∃(o:Unit),c.gl=24/\True) (dp (decide (c.least<0)) (∃(o:Unit),c.gl=28/\True) (dp (decide (c.least>c.dr)) (∃(o:Unit),c.gl=28/\True) (dp (!decide (c.label=[])) (∃(i:i4),sb i=sb c.label/\i.length<=140737488355328/\∀(o:Unit),True->dp (!cK i) (∃(o:Unit),c.gl=29/\True) (dp (decide (c.dm>=-2000000)) (dp (!decide (c.dm<=2000000)) (∃(o:Unit),c.gl=23/\True) (dp (decide (c.inst<0)) (∃(o:Unit),c.gl=20/\True) (dp (decide (c.inst>255)) (∃(o:Unit),c.gl=20/\True) (∃(o:Unit),c.gl=0/\True)))) (∃(o:Unit),c.gl=23/\True))) (dp (decide (c.dm>=-2000000)) (dp (!decide (c.dm<=2000000)) (∃(o:Unit),c.gl=23/\True) (dp (decide (c.inst<0)) (∃(o:Unit),c.gl=20/\True) (dp (decide (c.inst>255)) (∃(o:Unit),c.gl=20/\True) (∃(o:Unit),c.gl=0/\True)))) (∃(o:Unit),c.gl=23/\True)))))) (∃(o:Unit),c.gl=24/\True))):=by
  intro hs;have e1:c.gl=if c.time<1\/3<c.time then 27 else if jE c.dr=ao then 24 else if c.least<0\/c.dr<c.least then 28
   else if c.label≠[]/\cK c.label=ao then 29 else if uN c.dm=ao then 23 else if c.inst<0\/255<c.inst then 20 else 0:=by rw[iq.gl,ez hs]
  refine zG (λd1=>⟨(),by rw[e1,fh (.inl d1)],trivial⟩) λd1=>zG (λd2=>⟨(),by rw[e1,fh (.inr d2)],trivial⟩) λd2=> ?_
  rw[ez (by omega)]at e1;have q (hq:jE c.dr=ao):∃(o:Unit),c.gl=24/\True:=⟨(),by rw[e1,fh hq],trivial⟩
  refine zG (λd3=>Cv.dp.mk (λd4=>q ?_) λd4=> ?_) λd3=>q ?_
  ·have d4:¬c.dr<=1000000:=i9 d4
   simp[jE,d4]
  ·have d4:c.dr<=1000000:=i9 d4
   have hq:¬jE c.dr=ao:=by simp[jE,d4];omega
   rw[ez hq]at e1;refine zG (λd5=>⟨(),by rw[e1,fh (.inl d5)],trivial⟩) λd5=>zG (λd6=>⟨(),by rw[e1,fh (.inr d6)],trivial⟩) λd6=> ?_
   rw[ez (by omega)]at e1;have last:¬(c.label≠[]/\cK c.label=ao)->dp (decide (c.dm>=-2000000)) (dp (!decide (c.dm<=2000000)) (∃(o:Unit),c.gl=23/\True) (dp (decide (c.inst<0)) (∃(o:Unit),c.gl=20/\True) (dp (decide (c.inst>255)) (∃(o:Unit),c.gl=20/\True) (∃(o:Unit),c.gl=0/\True)))) (∃(o:Unit),c.gl=23/\True):=by
    intro hl;rw[ez hl]at e1;have pr (hq:uN c.dm=ao):∃(o:Unit),c.gl=23/\True:=⟨(),by rw[e1,fh hq],trivial⟩
    refine zG (λg1=>Cv.dp.mk (λg2=>pr ?_) λg2=> ?_) λg1=>pr ?_
    ·have g2:¬c.dm<=2000000:=i9 g2
     simp[uN,g2]
    ·have g2:c.dm<=2000000:=i9 g2
     have hp:¬uN c.dm=ao:=by simp[uN,g2];omega
     rw[ez hp]at e1;refine zG (λg3=>⟨(),by rw[e1,fh (.inl g3)],trivial⟩) λg3=>zG (λg4=>⟨(),by rw[e1,fh (.inr g4)],trivial⟩) λg4=>⟨(),by rw[e1,ez (by omega)],trivial⟩
    ·simp[uN];omega
   refine Cv.dp.mk (λd7=>⟨c.label,rfl,h,λ_ _=>Cv.dp.mk (λd8=> ?_) λd8=>last ?_⟩) λd7=>last ?_
   ·have d7:¬c.label=[]:=i9 d7
    have d8:cK c.label=ao:=i9 d8
    exact⟨(),by rw[e1,fh ⟨d7,d8⟩],trivial⟩
   ·have d8:cK c.label=ap:=i9 d8
    simp[d8]
   ·have d7:c.label=[]:=i9 d7
    simp[d7]
  ·simp[jE];omega
 refine zG (λc1=>zG (λc2=>⟨(),by rw[iq.gl,fh ⟨c1,c2⟩],trivial⟩) λc2=>tail ?_) λc1=>tail ?_
 ·omega
 ·omega
def y0s:D7.ok Tryz.prog 192:=gx mixed (dw y4l fk) 1 i6 i6 [] Tryz.func192 xEv
def y5o (c:iq) (h:GY.dp c):yOs c:=by
 have h:c.label.length<=140737488355328:=h;unfold yOs Qd ff dx;simp only[xHt,xDx];refine zG (λc1=>⟨(),by rw[iq.right,fh (.inl c1)],trivial⟩) λc1=>zG (λc2=>⟨(),by rw[iq.right,fh (.inr c2)],trivial⟩) λc2=> ?_
 refine zG (λc3=>⟨(),by rw[iq.right,ez (by omega),fh (.inl c3)],trivial⟩) λc3=>zG (λc4=>⟨(),by rw[iq.right,ez (by omega),fh (.inr c4)],trivial⟩) λc4=> ?_
 have e0:c.right=if c.kind=1 then c.gl else if c.kind≠2/\jE c.dr=ao then 24 else if c.kind=4/\uN c.dm=ao then 23 else 0:=by rw[iq.right,ez (by omega),ez (by omega)]
 refine zG (λc5=>⟨c,?_⟩) λc5=> ?_
 ·rw[fh c5]at e0;exact kp
 rw[ez c5]at e0;have last (hn:¬(c.kind≠2/\jE c.dr=ao)):dp (decide (c.kind=4)) (dp (decide (c.dm>=-2000000)) (dp (!decide (c.dm<=2000000)) (∃(o:Unit),c.right=23/\True) (∃(o:Unit),c.right=0/\True)) (∃(o:Unit),c.right=23/\True)) (∃(o:Unit),c.right=0/\True):=by
  rw[ez hn]at e0;refine zG (λd1=>zG (λd2=>Cv.dp.mk (λd3=> ?_) λd3=> ?_) λd2=> ?_) λd1=> ?_
  ·have d3:¬c.dm<=2000000:=i9 d3
   exact⟨(),by rw[e0,fh ⟨d1,by simp[uN,d3]⟩],trivial⟩
  ·have d3:c.dm<=2000000:=i9 d3
   exact⟨(),by rw[e0,ez (by simp[uN,d3];omega)],trivial⟩
  ·exact⟨(),by rw[e0,fh ⟨d1,by simp[uN];omega⟩],trivial⟩
  ·exact⟨(),by rw[e0,ez (by simp[d1])],trivial⟩
 refine zG (λd1=>zG (λd2=>Cv.dp.mk (λd3=> ?_) λd3=>last ?_) λd2=> ?_) λd1=>last ?_
 ·have d3:¬c.dr<=1000000:=i9 d3
  exact⟨(),by rw[e0,fh ⟨d1,by simp[jE,d3]⟩],trivial⟩
 ·have d3:c.dr<=1000000:=i9 d3
  simp[jE,d3];omega
 ·exact⟨(),by rw[e0,fh ⟨d1,by simp[jE];omega⟩],trivial⟩
 ·omega
def Ze:GY.ok Tryz.prog 112:=gx mixed (dw y0s fk) 1 i6 i6 [] Tryz.func112 y5o
structure ze where
 s:gy
 p:fj
 B:Q_ zJ
 inst:Int
 sd:Bool
@[reducible] def ze.ok (i:ze):Prop:=i.s.ga i.p i.B/\i.B.length<=1000
def CO (B:Q_ zJ) (inst:Int):List zJ:=if inst<0 then[]else B.getD inst.toNat []
def Hc:gh:=fp ze (λi=>[.nm 0 0,zB i.inst]) (λi=>[zE i.s]) (λi=>i.ok) (λ_=> .own 1) (λi=>[zE i.s,.own 174 5 ((CO i.B i.inst).map wV)])
def KC:gh:=fp ze (λi=>[.nm 0 0,zB i.inst,zB (zF i.sd)]) (λi=>[zE i.s]) (λi=>i.ok) (λ_=> .own 1) (λi=>[zE i.s,.own 135 3 ((uE (CO i.B i.inst) (zF i.sd)).map im)])
def eL (a:ze):Prop:=dx (Qc a.s.p (dl (af 160 dq 6 zR a.s.eg au)/\QJ a.s (ab wV (CO a.B a.inst)=[]/\True)))
def z6z (i:ze):Prop:=
 dp (decide (i.inst>=0)) (dp (!decide (i.inst<(i.s.eg.length:Int))) (eL i) ((0<=i.inst/\i.inst<(i.s.eg.length:Int))/\i.inst.toNat<i.s.eg.length/\∃(a:dq),i.s.eg[i.inst.toNat]?=ar a/\∃(b:Ic),yA b.b=yA a/\b.b.ga b.L/\ff (∃(d:dq),yA b.b=yA d/\DF i.inst i.s.eg (dx (Qc i.s.p (af 160 dq 6 zR i.s.eg au=af 160 dq 6 zR (i.s.eg.set i.inst.toNat d) au/\QJ i.s (ab wV (CO i.B i.inst)=ab wV b.L/\True))))))) (eL i)
def bH (a:ze):=(uE (CO a.B a.inst) (zF a.sd))
def Z5 (a:ze):Prop:=dx (Qc a.s.p (dl (af 160 dq 6 zR a.s.eg au)/\QJ a.s (ab im (bH a)=[]/\True)))
def y2s (i:ze):Prop:=
 dp (decide (i.inst>=0)) (dp (!decide (i.inst<(i.s.eg.length:Int))) (Z5 i) ((0<=i.inst/\i.inst<(i.s.eg.length:Int))/\i.inst.toNat<i.s.eg.length/\∃(a:dq),i.s.eg[i.inst.toNat]?=ar a/\∃(b:BkT),zF b.s=zF i.sd/\yA b.b=yA a/\b.b.ga b.L/\ff (∃(d:dq),yA b.b=yA d/\DF i.inst i.s.eg (dx (Qc i.s.p (af 160 dq 6 zR i.s.eg au=af 160 dq 6 zR (i.s.eg.set i.inst.toNat d) au/\QJ i.s (ab im (bH i)=ab im (uE b.L (zF b.s))/\True))))))) (Z5 i)
def yFh {B:Q_ zJ} {inst:Int} {L:List zJ} (h0:0<=inst) (hL:B[inst.toNat]? =ar L):CO B inst=L:=by
 rw[CO,ez (by omega),zX hL]
def yGl {B:Q_ zJ} {inst:Int} (h:inst<0\/(B.length:Int)<=inst):CO B inst=[]:=by
 rw[CO];split
 ·rfl
 ·rw[mu,ui (by omega)];rfl
def xEj (i:ze) (h:Hc.dp i):z6z i:=by
 obtain⟨hR,hB⟩:i.s.ga i.p i.B/\i.B.length<=1000:=h;have zz:=hR.bl;have out (hx:i.inst<0\/(i.B.length:Int)<=i.inst):ab wV (CO i.B i.inst)=[]:=by
  rw[yGl hx];rfl
 unfold z6z QJ Qc DF ff dx eL QJ Qc dx;refine zG (λc=>Cv.dp.mk (λd=> ?_) (λd=> ?_)) (λc=> ?_)
 ·have d:¬i.inst<(i.s.eg.length:Int):=i9 d
  rw[out (.inr (by omega))];exact⟨(),gn⟩
 ·have d:i.inst<(i.s.eg.length:Int):=i9 d
  obtain⟨b,hb⟩:=zZ (l:=i.s.eg) (i:=i.inst.toNat) oM;obtain⟨L,hL⟩:=zZ (l:=i.B) (i:=i.inst.toNat) oM;refine⟨⟨c,d⟩,oM,b,hb,⟨b,L⟩,rfl,hR.bk _ b L hb hL,λ_ _=>⟨b,rfl,rfl,oM,?_⟩⟩;rw[jL hb,yFh c hL];exact⟨(),gn⟩
 ·rw[out (.inl (by omega))];exact⟨(),gn⟩
def xCs (i:ze) (h:KC.dp i):y2s i:=by
 obtain⟨hR,hB⟩:i.s.ga i.p i.B/\i.B.length<=1000:=h;have zz:=hR.bl;have out (hx:i.inst<0\/(i.B.length:Int)<=i.inst):ab im (uE (CO i.B i.inst) (zF i.sd))=[]:=by
  rw[yGl hx];rfl
 unfold y2s QJ Qc DF ff dx Z5 QJ Qc dx bH;refine zG (λc=>Cv.dp.mk (λd=> ?_) (λd=> ?_)) (λc=> ?_)
 ·have d:¬i.inst<(i.s.eg.length:Int):=i9 d
  rw[out (.inr (by omega))];exact⟨(),gn⟩
 ·have d:i.inst<(i.s.eg.length:Int):=i9 d
  obtain⟨b,hb⟩:=zZ (l:=i.s.eg) (i:=i.inst.toNat) oM;obtain⟨L,hL⟩:=zZ (l:=i.B) (i:=i.inst.toNat) oM;refine⟨⟨c,d⟩,oM,b,hb,⟨b,L,i.sd⟩,rfl,rfl,hR.bk _ b L hb hL,λ_ _=>⟨b,rfl,rfl,oM,?_⟩⟩;rw[jL hb,yFh c hL];exact⟨(),gn⟩
 ·rw[out (.inl (by omega))];exact⟨(),gn⟩
def yEc:KC.ok Tryz.prog 80:=gx mixed (dw y7v fk) 1 i6 i6 [0] Tryz.func80 xCs
def JR (s:Int) (F:List zJ):Prop:=F.Pairwise λo o'=>jl s o'.dm o.dm=ao
def Fz (L:List zJ) (s:Int):List zJ:=L.filter λo=>decide (o.side=s)
structure rr (p:fj) (B:Q_ zJ):Prop where
 ok:jh p B
 od:W6 B
 ub:((sm 0 B).map (·.1)).Nodup
 xk:∀(k:Nat) (L:List zJ),B[k]? =ar L->∀s,s=1\/s=2->JR s (Fz L s)
def z3p {s:Int} {b:dq} {Q:Q_ Nat}:∀{R:List xY},(R.Pairwise λr r'=>jl s r.dm r'.dm=ap)->JR s (R.flatMap (b.ie Q s))
 |[],_=>List.Pairwise.nil
 |r::R,h=>by
  rw[yx]at h;rw[vi,JR,List.pairwise_append];refine⟨List.pairwise_of_forall_mem_list λo ho o' oG=> ?_,z3p h.2,λo ho o' oG=> ?_⟩
  ·rw[(kA ho).2,(kA oG).2];exact NO _ _
  ·obtain⟨r',ov,oG⟩:=A8.1 oG;rw[(kA ho).2,(kA oG).2];exact z3f (h.1 r' ov)
def dq.ga.xk {b:dq} {L:List zJ} (h:b.ga L) {s:Int} (hs:s=1\/s=2):JR s (Fz L s):=by
 obtain⟨Q,c,ht,rfl⟩:=h;rw[Fz,zYf hs];exact z3p (c.xk s hs)
def gy.ga.wf {s:gy} {p:fj} {B:Q_ zJ} (h:s.ga p B) (hb:jh p B):rr p B:=by
 refine⟨hb,h.oy,h.ids,λk L hL=> ?_⟩;obtain⟨b,hb⟩:=zZ (l:=s.eg) (i:=k) (by rw[h.bl];exact(jm.1 hL).1);exactλs hs=>(h.bk k b L hb hL).xk hs
def yQn {L:List zJ} (h:∀o∈L,Ln o) (hn:(L.map (·.id)).Nodup) (id q:Int):∀o∈(qK L id q).1,Ln o:=by
 intro o ho;rw[qK]at ho;split at ho
 ·exact h o ho
 split at ho
 ·exact h o ho
 rename_i hb;obtain⟨o',oG,e⟩:=Om.1 ho;have h0:=h o' oG;split at e
 ·rename_i e1;have hg:=lM hn oG;rw[e1]at hg;rw[hg]at hb;split at e
  ·cases e
  ·rename_i e2;cases e;have:=h0.q;exact⟨h0.s,Z9⟩
 ·cases e;exact h0
def yPy (L:List zJ) (id q:Int):(qK L id q).1.length<=L.length:=by
 rw[qK];split
 ·exact ju _
 split
 ·exact ju _
 exact List.length_filterMap_le _ _
def yVj {L:List zJ} {s:Int} (h:JR s (Fz L s)) (id q:Int):JR s (Fz (qK L id q).1 s):=by
 rw[qK];split
 ·exact h
 split
 ·exact h
 have e:Fz (wX L id q) s=wX (Fz L s) id q:=by
  rw[Fz,Fz,wX,wX,List.filter_filterMap,List.filterMap_filter];refine mZ λo _=> ?_
  by_cases e1:o.id=id
  ·rw[fh e1];by_cases e2:o.dr=q
   ·rw[fh e2];simp
   ·rw[ez e2];by_cases e3:o.side=s<;>simp[Option.filter,e3]
  ·rw[ez e1];by_cases e3:o.side=s<;>simp[Option.filter,e3]
 rw[e,wX];refine List.Pairwise.filterMap _ (λa a' haa b hb b' AD=> ?_) h;have g:∀{a b:zJ},(if a.id=id then(if a.dr=q then au else ar {a with dr:=a.dr-q})else ar a)=ar b->b.dm=a.dm:=by
  intro a b e;split at e
  ·split at e
   ·cases e
   ·cases e;rfl
  ·cases e;rfl
 rw[g hb,g AD];exact haa
def yWy {B:Q_ zJ} (h:((sm 0 B).map (·.1)).Nodup) {k:Nat} {L L':List zJ} (hL:B[k]? =ar L) (hs:(L'.map (·.id)).Sublist (L.map (·.id))):((sm 0 (B.set k L')).map (·.1)).Nodup:=by
 have hk:=(jm.1 hL).1;obtain⟨rest,hr⟩:=U0 (B:=B) 0 k hk;have h0:=hr L;rw[jL hL]at h0;have h1:=(h0.map (·.1)).nodup_iff.1 h
 refine((hr L').map (·.1)).nodup_iff.2 ?_
 rw[jk,wb]at h1 ⊢;exact h1.sublist (List.Sublist.append hs (List.Sublist.refl _))
def rr.take {p:fj} {B:Q_ zJ} (h:rr p B) (id q:Int):rr p (iO B id q).1:=by
 refine⟨h.ok.take id q,?_,?_,?_⟩
 all_goals
  rw[iO];cases hi:nT B id with
  |none=>first|exact h.od|exact h.ub|exact h.xk
  |some k=>
   obtain⟨L,hL,hh⟩:=u6 hi;have ho:=h.od k L hL;dsimp only;rw[zX hL]
   first
   |(intro j M hM
     rcases mE hM with⟨rfl,rfl⟩|⟨_,hM⟩
     ·refine⟨yQn ho.1 ho.2.1 id q,?_,tm (yPy L id q) ho.2.2⟩;rcases Zv ho.2.1 id q with⟨e,_⟩|⟨e,_⟩
      ·rw[e];exact ho.2.1
      ·rw[e];exact ho.2.1.sublist (List.Sublist.map _ Ry)
     ·exact h.od j M hM)
   |(refine yWy h.ub hL ?_
     rcases Zv ho.2.1 id q with⟨e,_⟩|⟨e,_⟩
     ·rw[e];exact List.Sublist.refl _
     ·rw[e];exact List.Sublist.map _ Ry)
   |(intro j M hM s hs
     rcases mE hM with⟨rfl,rfl⟩|⟨_,hM⟩
     ·exact yVj (h.xk _ L hL s hs) id q
     ·exact h.xk j M hM s hs)
def rr.takes {p:fj}:∀{fs:List cS} {B:Q_ zJ},rr p B->rr p (jG B fs)
 |[],B,h=>h
 |f::fs,B,h=>rr.takes (fs:=fs) (h.take f.id f.dr)
def zXz {p:fj} {B:Q_ zJ} (h:rr p B) {inst:Int} {sd:Bool} {dm q:Int} {t:wY} {B':Q_ zJ} (e:aI p B inst sd dm q=ar (t,B')):rr p B'/\B'.length=B.length:=by
 rw[aI]at e;dsimp only at e;split at e
 ·split at e
  ·cases e;exact⟨h.takes.takes,by rw[gO,gO]⟩
  ·cases e;exact⟨h.takes,by rw[gO]⟩
 ·cases e
def sB {p:fj} {inst:Int} {sd:Bool} {dm:Int}:∀(m:Nat) (q:Int) (B:Q_ zJ),q.toNat<=m->rr p B->rr p (vN p B inst sd dm q).B/\(vN p B inst sd dm q).B.length=B.length/\(0<=q->0<=(vN p B inst sd dm q).left/\(vN p B inst sd dm q).left<=q)
 |m,q,B,hm,h=>by
  by_cases hq:q<=0
  ·rw[PU (.inl hq)];exact⟨h,rfl,λx=>⟨x,yl _⟩⟩
  cases hs:aI p B inst sd dm q with
  |none=>
   rw[PU (.inr hs)];exact⟨h,rfl,λx=>⟨x,yl _⟩⟩
  |some x=>
   obtain⟨t,C⟩:=x;obtain⟨k1,k2⟩:=zXz h hs;have ue:=Pd oM hs;cases m with
   |zero=>omega
   |succ m=>
   obtain⟨i1,i2,i3⟩:=sB (p:=p) (inst:=inst) (sd:=sd) (dm:=dm) m (q-t.dr) C oM k1;rw[YN (by omega) hs];exact⟨i1,i2.trans k2,λ_=>⟨(i3 oM).1,by dsimp only;have:=(i3 oM).2;omega⟩⟩
@[reducible] def nv.ok (i:nv):Prop:=i.s.ga i.p i.B/\jh i.p i.B/\(0<=i.inst/\i.inst<i.B.length)/\1<=i.q/\i.q<=1000000
def DS:gh:=fp nv (λi=>[.nm 0 0,zB i.inst,zB (zF i.sd),zB i.dm,zB i.q]) (λi=>[zE i.s]) (λi=>i.ok) (λi=>zB (i.q-i.r.left)) (λi=>[zE i.s])
def nI (p:fj) (B:Q_ zJ) (inst:Int) (sd:Bool) (dm q:Int):Bool:=
 decide ((vN p B inst sd dm q).left≠0) && (kZ ⟨p,(vN p B inst sd dm q).B.map qC,inst⟩ (zF (!sd))).any λx=>aZ sd dm x.dm
def Gr:gh:=fp nv (λi=>[.nm 0 0,zB i.inst,zB (zF i.sd),zB i.dm,zB i.q]) (λi=>[zE i.s]) (λi=>i.ok) (λi=>yL (nI i.p i.B i.inst i.sd i.dm i.q)) (λi=>[zE i.s])
def EJ (B:Q_ zJ):Nat:=(sm 0 B).length
def Ca:gh:=fp ze (λi=>[.nm 0 0]) (λi=>[zE i.s]) (λi=>i.ok) (λi=>zB (EJ i.B)) (λi=>[zE i.s])
def dY (p:fj) (inst dm:Int):Int×Int×Int:=
 if(p.gp inst).2.2=ao then(0,0,20)else if p.dm inst dm≠0 then(0,0,p.dm inst dm)else
 let Fi:=p.settle.getD (p.gp inst).2.1.toNat 0
 let a:=if p.high<Fi+dm then(p.high,p.high-dm)else(Fi+dm,Fi)
 if a.1<p.low then(p.low,p.low-dm,0)else(a.1,a.2,0)
structure Pa where
 p:fj
 inst:Int
 dm:Int
def B7:gh:=fp Pa (λi=>[nt i.p,zB i.inst,zB i.dm]) i6 (λi=>i.p.check=0/\i.p.small/\yP i.dm) (λi=> .je [zB (dY i.p i.inst i.dm).1,zB (dY i.p i.inst i.dm).2.1,zB (dY i.p i.inst i.dm).2.2]) i6
def ijj (t u:Nat):gr:={ι:=Int×Int,du:=λn=>[(t,zB n.1),(u,zB n.2)],rows:=λ_=>[]}
def lpJ:List (Nat×gr):=[(50,ijj 15 14),(58,ijj 15 14)]
def y8d:List gr:=[{ι:=Nat,du:=λj=>[(40,zB j)],rows:=λ_=>[]}]
def y6z:List (Nat×gr):=[(8,{ι:=Unit,du:=λ_=>[],rows:=λ_=>[],Ds:=[11]})]
end Sx
