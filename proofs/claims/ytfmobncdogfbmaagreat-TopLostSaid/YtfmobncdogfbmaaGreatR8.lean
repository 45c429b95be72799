/- Texts of ours. No condition. -/
import Derived.Test.YtfmobncdogfbmaaGreatR7
set_option linter.all false
open List renaming map->aa,replicate->ab,take->ac
open Sx.fq renaming km->ae,kr->af,cells->ag,rk->aj,own->ak
open Bool renaming false->am,true->ao
open Go.IntKind renaming i64->ap
open Option renaming some->aq,none->ar
open Exists renaming intro->au
open And renaming intro->av
open True renaming intro->Y_
open Cv.dp renaming mk->W_
namespace Sx
set_option maxRecDepth 100000
open Go Cv Go.Proofs
open Tryz renaming prog->Z_
open Tryz hiding prog
def Vt (a:Nat->Prop) (b:Nat) (c:Nat->Nat) (d:Nat) (e:Im) (f:vc):Prop:=a b/\c b<c d/\dk (ag [V.nm 1 0,V.own 2,V.own 3,V.mp 4,V.d (dI e.b.iM),V.d (dI e.b.iL),V.own 5,V.d (D.v (.bool e.b.gv)),V.d (D.v (.bool e.b.gq))] (284:TypeId))/\aj dv 3 zI f.a=aj dv 3 zI e.b.a/\QN e.b (dk (ak 3 1 (iE e.b.spare)))
def mX (a:Nat) (b:Im):=(ac a (uF b.L (zF am)))
def y4h (i:Im):Prop:=
 ∃(a:Int),a=zF am/\True/\ff (dp (kW a) (dx (Qf i.b (aa iq (uF i.L (zF am))=[]/\True))) (∃(c:Nat),(c:Int)=0/\aa iq (mX c i)=[]/\∃(d:Nat->Prop),∃(e:Nat->Nat),d c/\∀(f:Nat),d f->dp (decide ((f:Int)<((aa zD i.b.fv).length:Int))) ((0<=(f:Int)/\(f:Int)<((aa zD i.b.fv).length:Int))/\∃(g:Int),∃(h:Int),zC (aa zD i.b.fv) (f:Int).toNat 0 2=aq [dI g,dI h]/\∃(j:vc),Ij j h i.b (True/\ff (h=h/\True/\g=g/\∃(l:vc),l.n=h/\aj dv 3 zI l.a=aj dv 3 zI j.a/\True/\ff (g=g/\((aa iq (mX f i)).length+1)*(24:Nat)<=(140737488355328:Nat)/\∃(n:Nat),(n:Int)=ap.wrap ((f:Int)+1)/\aa iq (mX n i)=aa iq (mX f i)++[[dI g,dI ((j.a.qn j.n).total),dI ((l.a.qn l.n).count)]]/\Vt d n e f i l)))) (dx (Qf i.b (aa iq (uF i.L (zF am))=aa iq (mX f i)/\True)))))
def mJ (a:Nat) (b:Im):=(ac a (uF b.L (zF ao)))
def y4a (i:Im):Prop:=
 ∃(a:Int),a=zF ao/\True/\ff (dp (kW a) (dx (Qf i.b (aa iq (uF i.L (zF ao))=[]/\True))) (∃(c:Nat),(c:Int)=0/\aa iq (mJ c i)=[]/\∃(d:Nat->Prop),∃(e:Nat->Nat),d c/\∀(f:Nat),d f->dp (decide ((f:Int)<((aa zD i.b.fc).length:Int))) ((0<=(f:Int)/\(f:Int)<((aa zD i.b.fc).length:Int))/\∃(g:Int),∃(h:Int),zC (aa zD i.b.fc) (f:Int).toNat 0 2=aq [dI g,dI h]/\∃(j:vc),Ij j h i.b (True/\ff (h=h/\True/\g=g/\∃(l:vc),l.n=h/\aj dv 3 zI l.a=aj dv 3 zI j.a/\True/\ff (g=g/\((aa iq (mJ f i)).length+1)*(24:Nat)<=(140737488355328:Nat)/\∃(n:Nat),(n:Int)=ap.wrap ((f:Int)+1)/\aa iq (mJ n i)=aa iq (mJ f i)++[[dI g,dI ((j.a.qn j.n).total),dI ((l.a.qn l.n).count)]]/\Vt d n e f i l)))) (dx (Qf i.b (aa iq (uF i.L (zF ao))=aa iq (mJ f i)/\True)))))
def l8 (a:Nat×kf->Prop) (b:Nat×kf) (c:gz) (d:Nat) (e:dq):Prop:=a b/\dk (ak 3 1 [[dI 1],[dI 2]])/\dk (qB c 0)/\ae 160 dq 6 zR (c.ez.set (d:Int).toNat e) ar=qB c 1/\dk (qB c 2)/\dk (qB c 3)/\dk (qB c 4)
def zGq (a:gz) (b:Nat×kf) (c:Nat×kf->Prop) (d:Nat) (e:dq):Prop:=∃(f:Nat×kf),aa yC (qF a f.fst f.snd)=aa yC (qF a b.fst b.snd)/\l8 c f a d e
def yQj (s:gz):Prop:=
 (Wm s)/\∃(a:Nat),(a:Int)=0/\aa yC (qM s a)=ab (s.ez.length:Int).toNat [D.v (.bool am),D.v (.bool am),dI 0,dI 0,dI 0,dI 0]/\∃(b:Nat->Prop),∃(c:Nat->Nat),b a/\∀(d:Nat),b d->dp (decide ((d:Int)<(s.ez.length:Int))) ((0<=(d:Int)/\(d:Int)<(s.ez.length:Int))/\(d:Int).toNat<s.ez.length/\∃(e:Nat×kf),aa yC (qF s e.fst e.snd)=aa yC (qM s d)/\∃(f:Nat×kf->Prop),(((0:Int)<=(0:Int)/\0<((2:Nat):Int))/\∃(g:Int),zC [[dI 1],[dI 2]] (Int.toNat 0) 0 1=aq [dI g]/\∃(h:dq),s.ez[(d:Int).toNat]?=aq h/\∃(j:An),zF j.side=g/\yA j.b=yA h/\(uI j)/\ff (∃(l:dq),Pl j l d s (dp (z7 j).snd (YI d s e j (∃(m:Nat×kf),aa yC (qF s m.fst m.snd)=zJ (bJ s e d j) (d:Int).toNat 4 [dI (gS j)]/\l8 f m s d l)) (zGq s e f d l))))/\∀(g:Nat×kf),f g->∃(h:Nat×kf),aa yC (qF s h.fst h.snd)=aa yC (qF s g.fst g.snd)/\∃(j:Nat×kf->Prop),((gV)/\∃(k:Int),zC [[dI 1],[dI 2]] (ap.wrap ((0:Int)+(1:Int))).toNat 0 1=aq [dI k]/\∃(l:dq),s.ez[(d:Int).toNat]?=aq l/\∃(m:An),zF m.side=k/\yA m.b=yA l/\(uI m)/\ff (∃(p:dq),Pl m p d s (dp (z7 m).snd (YH d s h m (∃(q:Nat×kf),aa yC (qF s q.fst q.snd)=zJ (bG s h d m) (d:Int).toNat 5 [dI (gS m)]/\l8 j q s d p)) (zGq s h j d p))))/\∀(k:Nat×kf),j k->∃(l:Nat),(l:Int)=ap.wrap ((d:Int)+1)/\aa yC (qM s l)=aa yC (qF s k.fst k.snd)/\b l/\c l<c d/\dk (qB s 0)/\dk (qB s 1)/\dk (qB s 2)/\dk (qB s 3)/\dk (qB s 4)) (dx (Qc s.p (ae 160 dq 6 zR s.ez ar=qB s 1/\dk (yT s.wh)/\af 1 (iE s.p.dt)=qB s 3/\af 1 (iE s.p.settle)=qB s 4/\aa yC s.fm=aa yC (qM s d)/\True)))
@[reducible] def BM (a b:fj)(R:Prop):Prop:=af 1 (iE a.dt)=af 1 (iE b.dt)/\af 1 (iE a.settle)=af 1 (iE b.settle)/\R
def zHt (a:gz) (b:Bo):Prop:=BM a.p b.s.p (a.ga b.p (iR b.B b.id b.q).fst)
def zGo (a:gz) (b:Bo):Prop:=yT a.wh=yT b.s.wh/\zHt a b
def eD (a:Bo) (b:Int) (c:Bool):Prop:=jL (Value.int ap a.id) (yT a.s.wh)=aq [dI b]/\c=ao\/jL (Value.int ap a.id) (yT a.s.wh)=ar/\[dI b]=[dI 0]/\c=am
def nT (a:Bo):Prop:=∀(b:Value×List D),b∈yT a.s.wh->me (Value.int ap a.id) b.fst=ao
@[reducible] def Qa (a b:fj)(R:Prop):Prop:=sb a.code=sb b.code/\a.tick=b.tick/\a.low=b.low/\a.high=b.high/\a.wide=b.wide/\a.gn=b.gn/\a.top=b.top/\a.least=b.least/\a.part=b.part/\R
def yTl (i:Bo):Prop:=
 (nT i)/\∃(a:Bool),∃(b:Int),(eD i b a)/\dp (!a) (∃(c:gz),(iR i.B i.id i.q).snd=26/\Qa c.p i.s.p (ae 160 dq 6 zR c.ez ar=ae 160 dq 6 zR i.s.ez ar/\zGo c i)) ((0<=b/\b<(i.s.ez.length:Int))/\b.toNat<i.s.ez.length/\∃(c:dq),i.s.ez[b.toNat]?=aq c/\∃(d:CY),d.id=i.id/\d.dr=i.q/\yA d.b=yA c/\d.b.ga d.L/\∀(e:dq),e.ga (qK d.L d.id d.dr).fst->∃(f:dq),yA e=yA f/\DK b i.s.ez ((0<=b/\b<((i.s.ez.set b.toNat f).length:Int))/\b.toNat<(i.s.ez.set b.toNat f).length/\∃(g:dq),(i.s.ez.set b.toNat f)[b.toNat]?=aq g/\∃(h:CY),h.id=i.id/\yA h.b=yA g/\h.b.ga h.L/\ff (∃(k:dq),yA h.b=yA k/\dk b.toNat/\b.toNat<(i.s.ez.set b.toNat f).length/\dp (!vQ h.L h.id) ((nT i)/\∃(l:gz),(iR i.B i.id i.q).snd=(qK d.L d.id d.dr).snd/\Qa l.p i.s.p (ae 160 dq 6 zR l.ez ar=ae 160 dq 6 zR ((i.s.ez.set b.toNat f).set b.toNat k) ar/\yT l.wh=CI (Value.int ap i.id) (yT i.s.wh)/\zHt l i)) (∃(l:gz),(iR i.B i.id i.q).snd=(qK d.L d.id d.dr).snd/\Qa l.p i.s.p (ae 160 dq 6 zR l.ez ar=ae 160 dq 6 zR ((i.s.ez.set b.toNat f).set b.toNat k) ar/\zGo l i)))))
def xEr (i:Im) (h:KZ.dp i):y4h i:=by
 obtain⟨Q,c,ht,hL⟩:i.b.ga i.L:=h;have qw:=c.small;obtain⟨⟨ha1,Mw⟩,qk,np,ue⟩:=id qw;have AW:=c.lad (.inl rfl);rw[<- hL]at AW;have AW:uF i.L (zF am)=i.b.fv.map i.b.told:=AW;unfold y4h Ij ff dx Qf Vt QN mX kW dI;simp only[AW,ib];refine⟨1,rfl,Y_,λ_ _=>W_ (λe=>absurd e Z8) λ_=>⟨0,i7,i7,λj=>j<=i.b.fv.length,λj=>i.b.fv.length-j,ml _,λj hj=>zH (λe=> ?_) (λe=> ?_)⟩⟩
 ·obtain⟨r,hr⟩:=zZ (l:=i.b.fv) (i:=j) oM;have hi:=c.Fm;refine⟨⟨oM,oM⟩,r.dm,r.queue,jz hr (by simp[zD]) rfl,⟨i.b.a,r.queue⟩,i7,i7,Y_,λ_ _=>⟨i7,i7,i7,⟨i.b.a,r.queue⟩,i7,i7,i7,λ_ _=>⟨i7,by simp only[nr,ib];omega,j+1,pf oM,?_,oM,Z9,gj⟩⟩⟩;have Sm:(i.b.fv.map i.b.told)[j]? =aq (i.b.told r):=by rw[ra,hr];rfl
  rw[qf,Sm];simp[iq,dq.told]
 ·rw[ng (by rw[ib];omega)];exact⟨(),gj⟩
def yZi:KZ.ok Z_ 157:=gy mixed (dw JR (dw ZY (dw sX fk))) 1 i6 (λi=>xEe am i) [0] func157 xEr
def xDv (i:Im) (h:KY.dp i):y4a i:=by
 obtain⟨Q,c,ht,hL⟩:i.b.ga i.L:=h;have qw:=c.small;obtain⟨⟨ha1,Mw⟩,qk,np,ue⟩:=id qw;have AW:=c.lad (.inr rfl);rw[<- hL]at AW;have AW:uF i.L (zF ao)=i.b.fc.map i.b.told:=AW;unfold y4a Ij ff dx Qf mJ Vt QN kW dI;simp only[AW,ib];refine⟨2,rfl,Y_,λ_ _=>W_ (λe=>absurd e Z8) λ_=>⟨0,i7,i7,λj=>j<=i.b.fc.length,λj=>i.b.fc.length-j,ml _,λj hj=>zH (λe=> ?_) (λe=> ?_)⟩⟩
 ·obtain⟨r,hr⟩:=zZ (l:=i.b.fc) (i:=j) oM;have hi:=c.Fm;refine⟨⟨oM,oM⟩,r.dm,r.queue,jz hr (by simp[zD]) rfl,⟨i.b.a,r.queue⟩,i7,i7,Y_,λ_ _=>⟨i7,i7,i7,⟨i.b.a,r.queue⟩,i7,i7,i7,λ_ _=>⟨i7,by simp only[nr,ib];omega,j+1,pf oM,?_,oM,Z9,gj⟩⟩⟩;have Sm:(i.b.fc.map i.b.told)[j]? =aq (i.b.told r):=by rw[ra,hr];rfl
  rw[qf,Sm];simp[iq,dq.told]
 ·rw[ng (by rw[ib];omega)];exact⟨(),gj⟩
def y0l:KY.ok Z_ 157:=gy mixed (dw JR (dw ZY (dw sX fk))) 1 i6 (λi=>xEe ao i) [0] func157 xDv
def xAc:aan.ok Z_ 157:=λj=>match j with
 |⟨b,L,am⟩=>yZi ⟨b,L⟩
 |⟨b,L,ao⟩=>y0l ⟨b,L⟩
def y5o (s:gz) (h:Gx.dp s):yQj s:=by
 obtain⟨h1,h2⟩:s.oe:=h;unfold yQj YI YH Pl Qc ff dx gS kV uI gV mQ mU Wm zDa bJ mW zEr bG bM z7 mO gH zGq l8 dI;have p48:(2:Int) ^ (48:Nat)=281474976710656:=by decide
 refine⟨⟨oM,oM,oM,by rw[p48];omega⟩,0,rfl,?_,λj=>j<=s.ez.length,λj=>s.ez.length-j,oM,λj hj=>zH (λgr=> ?_) (λgr=> ?_)⟩
 ·rw[qM,jh,OA];rfl
 ·have oz:j<s.ez.length:=X_
  obtain⟨b,hb⟩:=zZ oz;have hc:=h2 b (kx hb);simp only[ov];have ha:∀x,(aa yC (qF s j x)).length=s.ez.length:=λx=>by rw[ib,zSo oz]
  have w1:ap.wrap (0+1)=1:=by decide
  have w2:(0+1) % ((2:Int) ^ ap.bits).natAbs=1:=by decide
  refine⟨⟨oM,oM⟩,oM,(j,kg),by rw[zOq oz],λx=>x=(j,kg.F9 (b.iy b.fv)),⟨⟨Z8,Z8⟩,1,rfl,b,hb,⟨am,b⟩,rfl,rfl,hc,λ_ _=>⟨b,rfl,kp,oM,?_⟩⟩,?_⟩
  ·refine W_ (λc=> ?_) (λc=> ?_)
   ·have c:(b.iy b.fv).2=ao:=c;have e1:=kX (s:=s) oz (x:=kg) (y:={kg with gv:=ao}) (f:=0+0+0*1) (ds:=[D.v (.bool ao)]) rfl;have e2:=kX (s:=s) oz (x:={kg with gv:=ao}) (y:={kg with gv:=ao,p1:=(b.iy b.fv).1.dm}) (f:=0+2+0*1) (ds:=[D.v (.int .i64 (b.iy b.fv).1.dm)]) rfl;have e3:=kX (s:=s) oz (x:={kg with gv:=ao,p1:=(b.iy b.fv).1.dm}) (y:={kg with gv:=ao,p1:=(b.iy b.fv).1.dm,q1:=(b.iy b.fv).1.dr}) (f:=0+4+0*1) (ds:=[D.v (.int .i64 (b.iy b.fv).1.dr)]) rfl;dsimp only;simp only[show b.side am=b.fv from rfl,e1,e2,e3,ha]
    (repeat'(first|exact rfl|exact Y_|assumption|apply av|refineλ(_:Unit) (_:True)=>?_|refine au () ?_|omega|(dsimp only;omega)))
    refine⟨(j,{kg with gv:=ao,p1:=(b.iy b.fv).1.dm,q1:=(b.iy b.fv).1.dr}),rfl,?_,?_⟩
    ·rw[kf.F9,fh c]
    ·(repeat'(first|exact rfl|exact Y_|assumption|apply av|refineλ(_:Unit) (_:True)=>?_|refine au () ?_|omega|(dsimp only;omega)))
     rw[cD hb];rfl
   ·have c:(b.iy b.fv).2=am:=c;refine⟨(j,kg),rfl,?_,?_⟩
    ·rw[kf.F9,eg (by rw[c];simp)]
    ·(repeat'(first|exact rfl|exact Y_|assumption|apply av|refineλ(_:Unit) (_:True)=>?_|refine au () ?_|omega|(dsimp only;omega)))
     rw[cD hb];rfl
  ·rintro _ rfl;rw[w1];generalize hx:kg.F9 (b.iy b.fv)=x;have Se:b.top=x.AQ (b.iy b.fc):=by rw[dq.top,hx]
   refine⟨(j,x),rfl,λy=>y=(j,b.top),⟨⟨Z8,Z8⟩,2,rfl,b,hb,⟨ao,b⟩,rfl,rfl,hc,λ_ _=>⟨b,rfl,kp,oM,?_⟩⟩,?_⟩
   ·refine W_ (λc=> ?_) (λc=> ?_)
    ·have c:(b.iy b.fc).2=ao:=c;have e1:=kX (s:=s) oz (x:=x) (y:={x with gq:=ao}) (f:=0+0+1*1) (ds:=[D.v (.bool ao)]) rfl;have e2:=kX (s:=s) oz (x:={x with gq:=ao}) (y:={x with gq:=ao,p2:=(b.iy b.fc).1.dm}) (f:=0+2+1*1) (ds:=[D.v (.int .i64 (b.iy b.fc).1.dm)]) rfl;have e3:=kX (s:=s) oz (x:={x with gq:=ao,p2:=(b.iy b.fc).1.dm}) (y:={x with gq:=ao,p2:=(b.iy b.fc).1.dm,q2:=(b.iy b.fc).1.dr}) (f:=0+4+1*1) (ds:=[D.v (.int .i64 (b.iy b.fc).1.dr)]) rfl;dsimp only;simp only[w2,show b.side ao=b.fc from rfl,e1,e2,e3,ha]
     (repeat'(first|exact rfl|exact Y_|assumption|apply av|refineλ(_:Unit) (_:True)=>?_|refine au () ?_|omega|(dsimp only;omega)))
     refine⟨(j,{x with gq:=ao,p2:=(b.iy b.fc).1.dm,q2:=(b.iy b.fc).1.dr}),rfl,?_,?_⟩
     ·rw[Se,kf.AQ,fh c]
     ·(repeat'(first|exact rfl|exact Y_|assumption|apply av|refineλ(_:Unit) (_:True)=>?_|refine au () ?_|omega|(dsimp only;omega)))
      rw[cD hb];rfl
    ·have c:(b.iy b.fc).2=am:=c;refine⟨(j,x),rfl,?_,?_⟩
     ·rw[Se,kf.AQ,eg (by rw[c];simp)]
     ·(repeat'(first|exact rfl|exact Y_|assumption|apply av|refineλ(_:Unit) (_:True)=>?_|refine au () ?_|omega|(dsimp only;omega)))
      rw[cD hb];rfl
   ·rintro _ rfl;refine⟨j+1,by rw[iw X_];rfl,?_⟩;refine⟨by dsimp only;rw[zOi hb],?_⟩;exact kp
 ·have hj:j<=s.ez.length:=hj;obtain rfl:j=s.ez.length:=X_
  have e:qM s s.ez.length=s.fm:=by
   rw[qM,J6,List.replicate_zero,oQ,ng (by rw[gz.fm,ib];omega)]
  rw[e];exact kp
def z7z:Gx.ok Z_ 78:=gy mixed (dw Vj fk) 0 (λs=>y3o s) (λs=>y4i s) [] func78 y5o
def xBs (i:Bo) (h:GB.dp i):yTl i:=by
 obtain⟨hR,hB⟩:i.s.ga i.p i.B/\i.B.length<=1000:=h;have tf:=hR.at_ i.id;unfold yTl Qa DK ff nT eD zGo zHt BM dI;cases hi:pK i.B i.id with
 |none=>
  rw[hi]at tf;refine⟨bQ _ _,am,0,.inr ⟨by rw[tN,tf];rfl,rfl,rfl⟩,W_ (λ_=>⟨i.s,?_⟩) (λe=>absurd e Z8)⟩;have ht:iR i.B i.id i.q=(i.B,26):=by rw[iR,hi]
  rw[ht];exact(iB (nu hR))
 |some k=>
  rw[hi]at tf;obtain⟨L,hL,hh⟩:=uW hi;have hk:=(jk.1 hL).1;obtain⟨b,hb⟩:=zZ (l:=i.s.ez) (i:=k) (by rw[hR.bl];exact hk);have Ep:=hR.bk k b L hb hL;have Aj:=hR.bl;have rj:=Ep.oA.2.1;refine⟨bQ _ _,ao,k,.inl ⟨by rw[tN,tf];rfl,rfl⟩,W_ (λe=>absurd e Z8) (λ_=> ?_)⟩;rw[ov];refine⟨⟨oM,oM⟩,oM,b,hb,⟨b,L,i.id,i.q⟩,rfl,rfl,rfl,Ep,λb' AL=> ?_⟩;have hT:=hR.take (q:=i.q) hi hL rj AL;have o5:(iR i.B i.id i.q).2=(qK L i.id i.q).2:=by simp only[iR,hi,zX hL]
  refine⟨b',rfl,rfl,oM,by rw[qj];omega,by rw[qj];omega,b',cN oM,⟨b',(qK L i.id i.q).1,i.id,0⟩,rfl,rfl,AL,λ_ _=>⟨b',rfl,rfl,by rw[qj];omega,W_ (λe=>⟨bQ _ _,?_⟩) (λe=> ?_)⟩⟩
  ·have e:vQ (qK L i.id i.q).1 i.id=am:=i9 e
   rw[e,eg (by decide)]at hT;refine⟨{i.s with ez:=i.s.ez.set k b',wh:=L5 i.id i.s.wh},o5,iB ⟨rfl,?_,(z5s _ _).symm,rfl,rfl,hT⟩⟩;rw[Eg]
  ·have e:vQ (qK L i.id i.q).1 i.id=ao:=i9 e
   rw[e,fh rfl]at hT;refine⟨{i.s with ez:=i.s.ez.set k b',wh:=i.s.wh},o5,iB ⟨rfl,?_,rfl,rfl,rfl,hT⟩⟩;rw[Eg]
def VV:GB.ok Z_ 95:=gy mixed (dw y0d (dw z6z fk)) 0 i6 i6 [0] func95 xBs
structure jf (p:fj) (B:Q_ zK):Prop where
 pc:p.check=0
 ps:p.small
 bl:B.length=p.count
 pr:∀(k:Nat) (L:List zK),B[k]? =aq L->∀o∈L,p.dm k o.dm=0
def Ju:gh:=fp Bool (λb=>[zB (zF b)]) i6 (λ_=>True) (λb=>zB (zF (!b))) i6
def aZ (s:Bool) (p x:Int):Bool:=if s then decide (p<=x)else decide (x<=p)
structure S3 where
 s:Bool
 p:Int
 x:Int
def Nn:gh:=fp S3 (λi=>[zB (zF i.s),zB i.p,zB i.x]) i6 (λ_=>True) (λi=>yM (aZ i.s i.p i.x)) i6
def yY (p:fj) (B:Q_ zK) (inst:Int) (s:Int):Quote×Bool×Bool:=
 let bq:=z6 (xR ⟨p,B.map qC,inst⟩ s) s
 let l:=iI (B.getD inst.toNat []) s
 if(l.2 && !(bq.2 && jo s bq.1.dm l.1.dm))=ao then(⟨l.1.dm,l.1.dr,⟨0,0⟩,⟨0,0⟩⟩,am,ao)else(bq.1,bq.2,bq.2)
structure Ft where
 s:gz
 p:fj
 B:Q_ zK
 inst:Int
 sd:Bool
def KS:gh:=fp Ft (λi=>[.nm 0 0,zB i.inst,zB (zF i.sd)]) (λi=>[zE i.s]) (λi=>i.s.ga i.p i.B/\jf i.p i.B/\0<=i.inst/\i.inst<i.B.length)
 (λi=> .je [WU (yY i.p i.B i.inst (zF i.sd)).1,yM (yY i.p i.B i.inst (zF i.sd)).2.1,yM (yY i.p i.B i.inst (zF i.sd)).2.2]) (λi=>[zE i.s])
structure cX where
 id:Int
 inst:Int
 side:Int
 dm:Int
 dr:Int
 left:Int
 deriving DecidableEq
def y4 (f:cX):List D:=[.v (.int .i64 f.id),.v (.int .i64 f.inst),.v (.int .i64 f.side),.v (.int .i64 f.dm),.v (.int .i64 f.dr),.v (.int .i64 f.left)]
def qI (inst s:Int):List zK->List Int->List cX
 |o::os,k::ks=>if 0<k then⟨o.id,inst,s,o.dm,k,o.dr-k⟩::qI inst s os ks else qI inst s os ks
 |_,_=>[]
def jE (B:Q_ zK) (fs:List cX):Q_ zK:=fs.foldl (λB f=>(iR B f.id f.dr).1) B
def UP (B:Q_ zK) (inst s:Int):List zK:=vy (B.getD inst.toNat []) s (iI (B.getD inst.toNat []) s).1.dm
def kO (p:fj) (B:Q_ zK) (inst s q:Int):List cX:=qI inst s (UP B inst s) (jD ⟨p,UP B inst s,q⟩)
structure AN where
 s:gz
 p:fj
 B:Q_ zK
 inst:Int
 sd:Bool
 q:Int
def AN.os (i:AN):List zK:=UP i.B i.inst (zF i.sd)
def AN.sh (i:AN):List Int:=jD ⟨i.p,i.os,i.q⟩
def AN.fs (i:AN) (j:Nat):List cX:=qI i.inst (zF i.sd) (i.os.take j) (i.sh.take j)
def Gw:gh where
 ι:=AN
 pat:=λi=>[.nm 0 0,.agg [zB i.inst,zB (zF i.sd)],zB i.q]
 pre:=λi=>[zE i.s]
 dp:=λi=>i.s.ga i.p i.B/\jf i.p i.B/\0<=i.inst/\i.inst<i.B.length/\gx i.q
 alts:=λi=>[{o:=gz,res:=λ_=> .own 1,post:=λs=>[zE s,.own 207 6 ((kO i.p i.B i.inst (zF i.sd) i.q).map y4)],rel:=λs=>s.ga i.p (jE i.B (kO i.p i.B i.inst (zF i.sd) i.q))}]
def xAp (i:AN):List gu:=[{ι:=Nat×gz,du:=λj=>[(0,.nm 0 0),(11,.own 1),(44,zB j.1)],rows:=λj=>[zE j.2,.own 207 6 ((i.fs j.1).map y4)]}]
def yIm (b:Bool):Prop:=
 dx ((zF !b)=ap.wrap (3-zF b)/\True)
def yRh (i:S3):Prop:=
 dp (zF i.s==1) (dp (decide (i.x<=i.p)) (dx (aZ i.s i.p i.x=ao/\True)) (dp (zF i.s==2) (dx (aZ i.s i.p i.x=decide (i.x>=i.p)/\True)) (dx (aZ i.s i.p i.x=am/\True)))) (dp (zF i.s==2) (dx (aZ i.s i.p i.x=decide (i.x>=i.p)/\True)) (dx (aZ i.s i.p i.x=am/\True)))
def zMc (a:gz) (b:Ft):Prop:=sb a.p.code=sb b.s.p.code/\True/\Qr a.p b.s.p (True/\True)
def dE (a:Am):Prop:=(a.s=1\/a.s=2)/\a.l.length<=1000000
def Z6 (a:Ft) (b:gz) (c:dq):Prop:=Qa a.s.p b.p (ae 160 dq 6 zR a.s.ez ar=ae 160 dq 6 zR (b.ez.set a.inst.toNat c) ar/\yT a.s.wh=yT b.wh/\BM a.s.p b.p (True))
def yE (a:Ft):=(yY a.p a.B a.inst (zF a.sd))
def ZS (a:Ft) (b:Am) (c:gz) (d:dq):Prop:=dx ((yE a).fst.dm=(z6 b.l b.s).fst.dm/\(yE a).fst.dr=(z6 b.l b.s).fst.dr/\(yE a).fst.a.inst=(z6 b.l b.s).fst.a.inst/\(yE a).fst.a.side=(z6 b.l b.s).fst.a.side/\(yE a).fst.b.inst=(z6 b.l b.s).fst.b.inst/\(yE a).fst.b.side=(z6 b.l b.s).fst.b.side/\(yE a).snd.fst=(z6 b.l b.s).snd/\(yE a).snd.snd=(z6 b.l b.s).snd/\Z6 a c d)
def Zi (a:Ft) (b:An) (c:gz) (d:dq):Prop:=dx ((yE a).fst.dm=(z7 b).fst.dm/\(yE a).fst.dr=(z7 b).fst.dr/\(yE a).fst.a.inst=0/\(yE a).fst.a.side=0/\(yE a).fst.b.inst=0/\(yE a).fst.b.side=0/\(yE a).snd.fst=am/\(yE a).snd.snd=ao/\Z6 a c d)
def Vg (a:Bw) (b:Ft) (c:gz):Prop:=∃(d:Am),aa zL d.l=aa zL (xR a.i (zF a.s))/\d.s=zF b.sd/\(dE d)/\ff ((0<=b.inst/\b.inst<(c.ez.length:Int))/\b.inst.toNat<c.ez.length/\∃(f:dq),c.ez[b.inst.toNat]?=aq f/\∃(g:An),zF g.side=zF b.sd/\yA g.b=yA f/\(uI g)/\ff (∃(j:dq),yA g.b=yA j/\DK b.inst c.ez (dp (z7 g).snd (dp (z6 d.l d.s).snd (∃(k:Ew),k.side=zF b.sd/\k.x=(z6 d.l d.s).fst.dm/\k.y=(z7 g).fst.dm/\True/\ff (dp (!jo k.side k.x k.y) (Zi b g c j) (ZS b d c j))) (Zi b g c j)) (ZS b d c j))))
@[reducible] def Qo (a:bU)(b c:gz)(R:Prop):Prop:=sb a.p.code=sb b.p.code/\iE a.p.dt=iE c.p.dt/\a.p.tick=b.p.tick/\a.p.low=b.p.low/\a.p.high=b.p.high/\a.p.wide=b.p.wide/\a.p.gn=b.p.gn/\a.p.top=b.p.top/\a.p.least=b.p.least/\a.p.part=b.p.part/\iE a.p.settle=iE c.p.settle/\aa yC a.fm=aa yC c.fm/\R
def YR (a:gz) (b:Ft):Prop:=(zMc a b)/\∃(c:Bw),Qo c.i b.s a (c.i.inst=b.inst/\zF c.s=zF b.sd/\(kJ c)/\ff (Vg c b a))
def gY (a:gz):Prop:=a.ez.length<=1000000/\∀(b:dq),b∈a.ez->∀(c:aV),c∈b.a.dy->(-9223372036854775808)<=c.count/\c.count<=9223372036854775807
@[reducible] def Ql (a:fj)(R:Prop):Prop:=sb a.code=sb a.code/\True/\a.tick=a.tick/\a.low=a.low/\a.high=a.high/\a.wide=a.wide/\a.gn=a.gn/\a.top=a.top/\a.least=a.least/\a.part=a.part/\True/\R
@[reducible] def QG (a b:gz)(R:Prop):Prop:=ae 160 dq 6 zR a.ez ar=ae 160 dq 6 zR b.ez ar/\yT a.wh=yT b.wh/\af 1 (iE a.p.dt)=af 1 (iE b.p.dt)/\af 1 (iE a.p.settle)=af 1 (iE b.p.settle)/\R
def y4n (i:Ft):Prop:=
 (∃(a:gz),Qa a.p i.s.p (QG a i.s ((gY a)/\ff ((zMc a i)/\(∃(c:Bw),Qo c.i i.s a (c.i.inst=i.inst/\zF c.s=zF i.sd/\(kJ c)/\ff ((Vg c i a)/\Vg c i a)))/\YR a i))))/\(Ql i.s.p (True))/\∃(a:gz),Qa a.p i.s.p (QG a i.s ((gY a)/\ff (YR a i)))
def nP (a:I'):=(aa wT (vy a.L (zF a.s) a.dm))
def Z' (a:Nat×gz->Prop) (b:Nat×gz) (c:Nat×gz->Nat) (d:Nat×gz) (e:CZ) (f:I') (g:An) (h:AN):Prop:=a b/\c b<c d/\dk (ak 2 1 (iE (jD e)))/\dk (af 5 (nP f))/\dk (ag [V.d (dI (bM g)),V.d (dI (gS g)),V.d (dI ((z7 g).fst.count))] 135)/\dk (ag [V.d (dI h.inst),V.d (dI (zF h.sd))] 268)/\dk (af 1 (iE h.s.p.dt))/\dk (af 1 (iE h.s.p.settle))
def fV (a:AN):=(kO a.p a.B a.inst (zF a.sd) a.q)
def bT (a:AN):=(jE a.B (fV a))
def yRe (i:AN):Prop:=
 (0<=i.inst/\i.inst<(i.s.ez.length:Int))/\i.inst.toNat<i.s.ez.length/\∃(a:dq),i.s.ez[i.inst.toNat]?=aq a/\∃(b:An),zF b.side=zF i.sd/\yA b.b=yA a/\(uI b)/\ff (∃(d:dq),yA b.b=yA d/\DK i.inst i.s.ez (∃(e:dq),(i.s.ez.set i.inst.toNat d)[i.inst.toNat]?=aq e/\∃(f:I'),zF f.s=zF i.sd/\f.dm=(z7 b).fst.dm/\yA f.b=yA e/\f.b.ga f.L/\ff (∃(h:dq),yA f.b=yA h/\dk i.inst.toNat/\i.inst.toNat<(i.s.ez.set i.inst.toNat d).length/\∃(j:CZ),Qb j.p i.s.p (aa wT j.l=aa wT (vy f.L (zF f.s) f.dm)/\j.q=i.q/\(j.l.length<=1000/\((-9223372036854775808)<=j.q/\j.q<=9223372036854775807)/\((-9223372036854775808)<=j.p.least/\j.p.least<=9223372036854775807)/\((-9223372036854775808)<=j.p.top/\j.p.top<=9223372036854775807)/\(-9223372036854775808)<=j.p.part/\j.p.part<=9223372036854775807)/\ff (∃(l:Nat×gz),(l.fst:Int)=0/\Qa l.snd.p i.s.p (ae 160 dq 6 zR l.snd.ez ar=ae 160 dq 6 zR ((i.s.ez.set i.inst.toNat d).set i.inst.toNat h) ar/\yT l.snd.wh=yT i.s.wh/\BM l.snd.p i.s.p (aa y4 (i.fs l.fst)=[]/\∃(m:Nat×gz->Prop),∃(n:Nat×gz->Nat),m l/\∀(p:Nat×gz),m p->dp (decide ((p.fst:Int)<((iE (jD j)).length:Int))) ((0<=(p.fst:Int)/\(p.fst:Int)<((iE (jD j)).length:Int))/\∃(q:Int),zC (iE (jD j)) (p.fst:Int).toNat 0 1=aq [dI q]/\dp (decide (q>0)) ((0<=(p.fst:Int)/\(p.fst:Int)<((nP f).length:Int))/\∃(r:Int),∃(s:Int),∃(t:Int),∃(u:Int),∃(v:Bool),zC (nP f) (p.fst:Int).toNat 0 5=aq [dI r,dI s,dI t,dI u,D.v (.bool v)]/\∃(w:Bo),w.id=r/\w.q=q/\zE w.s=zE p.snd/\(w.s.ga w.p w.B/\w.B.length<=1000)/\∀(x:gz),x.ga w.p (iR w.B w.id w.q).fst->((aa y4 (i.fs p.fst)).length+1)*(48:Nat)<=(140737488355328:Nat)/\∃(y:Nat×gz),(y.fst:Int)=ap.wrap ((p.fst:Int)+1)/\zE y.snd=zE x/\aa y4 (i.fs y.fst)=aa y4 (i.fs p.fst)++[[dI r,dI i.inst,dI (zF i.sd),dI t,dI q,dI (ap.wrap (u-q))]]/\Z' m y n p j f b i) (∃(r:Nat×gz),(r.fst:Int)=ap.wrap ((p.fst:Int)+1)/\zE r.snd=zE p.snd/\aa y4 (i.fs r.fst)=aa y4 (i.fs p.fst)/\Z' m r n p j f b i)) (∃(q:gz),zE q=zE p.snd/\aa y4 (fV i)=aa y4 (i.fs p.fst)/\q.ga i.p (bT i)))))))))
def Re {p:fj} (hc:p.check=0) {k v:Int} (h:p.dm k v=0): -2000000<=v/\v<=2000000:=by
 have ok:=jH hc;have:=ok.b1;have:=ok.b2;have:=ok.b3;have:=ok.b4;have:=ok.b5;rw[fj.dm]at h;by_cases c1:p.count=0
 ·rw[fh c1]at h;cases h
 by_cases c2:k<0\/(p.count:Int)<=k
 ·rw[eg c1,fh c2]at h;cases h
 cases c3:kM p.tick v with
 |true=>rw[eg c1,eg c2,fh c3]at h;cases h
 |false=>
  rw[eg c1,eg c2,eg (by rw[c3];decide)]at h;by_cases c4:(p.dt.length:Int)<=k
  ·simp only[fh c4]at h;by_cases c5:v< -p.wide\/p.wide<v
   ·rw[fh c5]at h;cases h
   ·omega
  ·simp only[eg c4]at h;by_cases c5:v<p.low\/p.high<v
   ·rw[fh c5]at h;cases h
   ·omega
def NV {t:Int} (k:Int):kM t (t*k)=am:=by
 simp[kM,Int.mul_tmod_right]
def zPa (x:fj):(im x).small:=by
 have:=yNk x;refine⟨by simp[im],?_,?_⟩
 ·show(qU _).length<=_;rw[zBp];omega
 ·show(jB _ _).length<=_;rw[pV];omega
def rI (x:fj):(im x).check=0:=by
 have ht:=VU x;have hn:=yNk x;have hw:=y3 (n:=x.wide) (lo:=0) (hi:=60) oM;have hr:=y3 (n:=x.gn) (lo:=0) (hi:=2) oM;have ho:=y3 (n:=x.top) (lo:=0) (hi:=9) oM;have hl:=y3 (n:=x.least) (lo:=0) (hi:=4) oM;have hp:=y3 (n:=x.part) (lo:=0) (hi:=100) oM;have h1:vC (im x).code=ao:=by show vC [206,169]=ao;decide+kernel
 obtain⟨k,hk,AH⟩:∃k:Nat,(kN x).toNat=k/\(2<=k/\k<=5):=⟨_,rfl,oM⟩
 have h2:xQ (im x).dt=ao:=by
  show xQ (qU (kN x).toNat)=ao;rw[hk];have:k=2\/k=3\/k=4\/k=5:=X_
  rcases this with rfl|rfl|rfl|rfl<;>decide
 have h3:kE (im x)=ao:=by
  have a:kM (zW x) (-20*zW x)=am:=by rw[Ef];exact NV _
  have b:kM (zW x) (100*zW x)=am:=by rw[Ef];exact NV _
  have c:(jB (zW x) (kN x).toNat).any (kM (zW x))=am:=by
   rw[Mf];intro y hy;obtain⟨j,_,rfl⟩:=nn.1 hy;rw[NV];decide
  simp only[kE,im,a,b,c,NV,J9,Bool.and_true,lu];exact⟨jt oM,jt oM⟩
 have mw:=JN (a:=zW x) (b:=5+zG x.wide 0 60) (m:=zW x) (n:=65) oM oM;have h4:kD (im x)=am:=by
  simp only[kD,im,HJ];exact⟨⟨⟨⟨ju oM,ju oM⟩,ju oM⟩,ju oM⟩,ju oM⟩
 have h5:xV (im x)=am:=by
  have e:(jB (zW x) (kN x).toNat).length=(qU (kN x).toNat).length:=by rw[pV,zBp]
  have ne:jB (zW x) (kN x).toNat≠[]:=by
   intro hc;have:=pV (zW x) (kN x).toNat;rw[hc]at this;simp at this;omega
  have bd:∀y∈jB (zW x) (kN x).toNat,0<=y/\y<=zW x*15:=by
   intro y hy;obtain⟨j,hj,rfl⟩:=nn.1 hy;have:=CJ.1 hj;exact JN oM oM
  have m1:=bd _ (z4v ne);have m2:=bd _ (z3v ne);simp only[xV,im,e,ne_eq,not_true_eq_false,decide_false,L8,HJ];exact⟨ju oM,ju oM⟩
 have h6:jA (im x)=am:=by
  simp only[jA,im,HJ];exact⟨ju oM,ju oM⟩
 have h7:qO (im x)=am:=by
  simp only[qO,im,HJ];exact⟨⟨⟨⟨⟨ju oM,ju oM⟩,ju oM⟩,ju oM⟩,ju oM⟩,ju oM⟩
 rw[fj.check,h1,h2,h3,h4,h5,h6,h7];rfl
structure WW (qs sh:List Int) (q:Int):Prop where
 len:sh.length=qs.length
 bd:∀n,0<=sh.getD n 0/\sh.getD n 0<=qs.getD n 0
 sum:sh.sum=q
def yNm:∀{l:List Int},(∀x∈l,0<=x)->0<=l.sum
 |[],_=>yy 0
 |a::l,h=>by
  have:=yNm (l:=l) λx hx=>h x (jj _ hx)
  have:=h a iY;rw[qi];omega
def yDu:∀{z:List (Int×Int)},(∀y∈z,0<=y.2/\y.2<=y.1)->(z.map (·.2)).sum<=(z.map (·.1)).sum
 |[],_=>yy 0
 |a::l,h=>by
  have:=yDu (z:=l) λx hx=>h x (jj _ hx)
  have:=h a iY;rw[jg,jg,qi,qi];omega
def zCk:∀(l:List Int) (q:Int),(∀x∈l,0<=x)->0<=q->q<=l.sum->WW l (gZ l q) q
 |[],q,_,h0,h1=>⟨rfl,λn=>by simp[gZ],by simp at h1;simp[gZ];omega⟩
 |n::l,q,h,h0,h1=>by
  have hn:=h n iY;rw[qi]at h1;have:=yNm λx hx=>h x (jj _ hx)
  have ih:=zCk l (q-min n q) (λx hx=>h x (jj _ hx)) oM oM;refine⟨by rw[gZ,iG,iG,ih.len],λk=> ?_,by rw[gZ,qi,ih.sum];omega⟩;cases k with
  |zero=>exact⟨by show 0<=min n q;omega,by show min n q<=n;omega⟩
  |succ k=>exact ih.bd k
def zFl:∀(z:List (Int×Int)) (q:Int),(∀y∈z,0<=y.2/\y.2<=y.1)->0<=q->q<=(z.map (·.1)).sum-(z.map (·.2)).sum->(vK z q).length=z.length/\(∀n,0<=(vK z q).getD n 0/\(vK z q).getD n 0<=(z.map (·.1)).getD n 0)/\(vK z q).sum=(z.map (·.2)).sum+q
 |[],q,_,h0,h1=>⟨rfl,λn=>by simp[vK],by simp at h1;simp[vK];omega⟩
 |(n,x)::r,q,h,h0,h1=>by
  have hn:=h (n,x) iY;simp only[jg,qi]at h1;have:=yDu λy hy=>h y (jj _ hy)
  have ih:=zFl r (q-min (n-x) q) (λy hy=>h y (jj _ hy)) oM oM;refine⟨by rw[vK,iG,iG,ih.1],λk=> ?_,by rw[vK,qi,ih.2.2,jg,qi];omega⟩;cases k with
  |zero=>exact⟨by show 0<=x+min (n-x) q;have:=hn.1;have:=hn.2;dsimp only at*;omega,by show x+min (n-x) q<=n;have:=hn.2;dsimp only at*;omega⟩
  |succ k=>exact ih.2.1 k
def ySu {l:List Int} {q:Int} (h1:l.length<=250) (h2:0<=q) (h3:∀x∈l,1<=x/\x<=1000000) (h4:q<=l.sum):y5 l q=ao:=by
 rw[y5,jt h1,jt h2,jt h4];simp only[AA,Bool.and_true,Ej,lu,ua];exact h3
def z3h {i:wb} (h:y5 i.l i.q=ao) (hl:1<=i.least):WW i.l (j0 i) i.q:=by
 obtain⟨r1,r2,r3,r4⟩:=j9 h;rw[j0,fh ⟨h,hl⟩];by_cases jy:i.l.length=0
 ·have e:i.l=[]:=ye jy;have hq:i.q=0:=by rw[e]at r4;simp at r4;omega
  have e0:i.p1=[]:=by rw[wb.p1,e];rfl
  rw[e0,e,hq];exact⟨rfl,λn=>by simp,rfl⟩
 ·obtain⟨_,_,f1,f2⟩:=VX h oM;have zm:=z8y i;have m1:(i.l.zip i.p0).map (·.1)=i.l:=List.map_fst_zip oM
  have m2:(i.l.zip i.p0).map (·.2)=i.p0:=List.map_snd_zip oM
  have hp:=zFl (i.l.zip i.p0) (i.q-i.p0.sum) (λy hy=>by
   obtain⟨j,hj⟩:=BB.1 hy;rw[RT]at hj;exact f1 j _ _ hj.1 hj.2) oM (by rw[m1,m2];omega)
  rw[m1,m2]at hp;refine⟨?_,hp.2.1,?_⟩
  ·rw[wb.p1,hp.1,List.length_zip,zm,Nat.min_self]
  ·rw[wb.p1,hp.2.2];omega
def z3i:∀{l:List Int} {k:Nat} {x:Int},k<l.length->(l.set k x).sum=l.sum+(x-l.getD k 0)
 |[],k,x,h=>absurd h (by simp)
 |a::l,0,x,_=>by
  show x+l.sum=a+l.sum+(x-a);omega
 |a::l,k+1,x,h=>by
  have:=z3i (l:=l) (k:=k) (x:=x) (i9 h);show a+(l.set k x).sum=a+l.sum+(x-l.getD k 0);omega
def YV {l:List Int} {k n:Nat} {x:Int} (h:k<l.length):(l.set k x).getD n 0=if n=k then x else l.getD n 0:=by
 rw[mz,Ci];by_cases e:k=n
 ·subst e;rw[fh rfl,fh h,fh rfl];rfl
 ·rw[eg e,eg (λe2=>e e2.symm),mz]
def z4z {l:List Int}:∀(z:List (Nat×Int)) (o:List Int),(z.map (·.1)).Nodup->(∀y∈z,y.1<o.length/\0<=y.2/\o.getD y.1 0+y.2<=l.getD y.1 0)->(∀n,0<=o.getD n 0/\o.getD n 0<=l.getD n 0/\l.getD n 0<=1000000)->
 (z.foldl (λo y=>o.set y.1 (ap.wrap (o.getD y.1 0+y.2))) o).length=o.length/\(z.foldl (λo y=>o.set y.1 (ap.wrap (o.getD y.1 0+y.2))) o).sum=o.sum+(z.map (·.2)).sum/\∀n,0<=(z.foldl (λo y=>o.set y.1 (ap.wrap (o.getD y.1 0+y.2))) o).getD n 0/\(z.foldl (λo y=>o.set y.1 (ap.wrap (o.getD y.1 0+y.2))) o).getD n 0<=l.getD n 0
 |[],o,_,_,h=>⟨rfl,by simp,λn=>⟨(h n).1,(h n).2.1⟩⟩
 |y::z,o,hn,hz,h=>by
  obtain⟨h1,h2,h3⟩:=hz y iY;rw[jg,yz]at hn;have hw:ap.wrap (o.getD y.1 0+y.2)=o.getD y.1 0+y.2:=by
   have:=h y.1;exact iw oM
  rw[Be,hw];have ih:=z4z (l:=l) z (o.set y.1 (o.getD y.1 0+y.2)) hn.2 (λx hx=>by
   obtain⟨g1,g2,g3⟩:=hz x (jj _ hx);have jy:x.1≠y.1:=λe=>hn.1 (e▸sv (f:=(·.1)) hx)
   rw[qj,YV h1,eg jy];exact⟨g1,g2,g3⟩) (λn=>by
   rw[YV h1];split
   ·rename_i e;rw[e];exact⟨by have:=h y.1;omega,h3,(h y.1).2.2⟩
   ·exact h n)
  refine⟨by rw[ih.1,qj],?_,ih.2.2⟩;rw[ih.2.1,z3i h1,jg,qi];omega
def zVs (l:List Int):(List.range l.length).map (λn=>l.getD n 0)=l:=by
 apply Du;intro n;rw[ra];by_cases h:n<l.length
 ·rw[Mh h,vl h,wz,mz,vl h];rfl
 ·rw[uv (i9 h),uv X_];rfl
def yGr {f g:Nat->Int}:∀l:List Nat,(l.map λn=>f n-g n).sum=(l.map f).sum-(l.map g).sum
 |[]=>rfl
 |a::l=>by rw[jg,jg,jg,qi,qi,qi,yGr l];omega
def zRm {f:Nat->Int} {p:Nat->Bool}:∀{l:List Nat},(∀n∈l,p n=am->f n=0)->((l.filter p).map f).sum=(l.map f).sum
 |[],_=>rfl
 |a::l,h=>by
  have ih:=zRm (l:=l) λn hn=>h n (jj _ hn)
  rw[jg,qi];by_cases e:p a=ao
  ·rw[RS e,jg,qi,ih]
  ·rw[RR e,ih,h a iY (i9 e)];omega
def zBk {i:qm} (hl:i.l.length<=250) (ho:i.out.length=i.l.length) (hn:∀n,0<=i.out.getD n 0/\i.out.getD n 0<=i.l.getD n 0/\i.l.getD n 0<=1000000) (hq:0<=i.q/\i.q<=i.l.sum-i.out.sum) (hle:1<=i.least):
 WW i.l (tE i) (i.out.sum+i.q):=by
 have aaM:(i.idx i.l.length).length<=250:=tz (HK _ _) (i9 hl);have ug:∀n∈i.idx i.l.length,n<i.l.length/\i.out.getD n 0<i.l.getD n 0:=by
  intro n hn;obtain⟨a,b⟩:=vi.1 hn;exact⟨CJ.1 a,su b⟩
 have Sv:(i.left i.l.length).sum=i.l.sum-i.out.sum:=by
  rw[qm.left,qm.idx,zRm,yGr,zVs]
  ·rw[<- ho,zVs]
  ·intro n _ e;have:=Mg e;have:=hn n;omega
 have hr:y5 (i.left i.l.length) i.q=ao:=by
  refine ySu (by rw[qm.left,ib];exact aaM) hq.1 (λx hx=> ?_) oM;obtain⟨n,hm,rfl⟩:=nn.1 hx;have:=ug n hm;have:=hn n;omega
 have hp:=z3h (i:=⟨i.left i.l.length,i.least,i.q⟩) hr hle;have zm:i.pl.length=(i.idx i.l.length).length:=by
  have:=hp.len;rw[qm.pl,this,qm.left,ib]
 have rj:(i.idx i.l.length).Nodup:=List.nodup_range.sublist RL;have z1:((i.idx i.l.length).zip i.pl).map (·.1)=i.idx i.l.length:=List.map_fst_zip oM
 have z2:((i.idx i.l.length).zip i.pl).map (·.2)=i.pl:=List.map_snd_zip oM
 have hf:=z4z (l:=i.l) ((i.idx i.l.length).zip i.pl) i.out (by rw[z1];exact rj) (λy hy=>by
  obtain⟨j,hj⟩:=BB.1 hy;rw[RT]at hj;have hm:=ug y.1 (kx hj.1);have hb:=hp.bd j;have e1:(j0 ⟨i.left i.l.length,i.least,i.q⟩).getD j 0=y.2:=by
   rw[mz];have:(j0 ⟨i.left i.l.length,i.least,i.q⟩)[j]? =aq y.2:=hj.2;rw[this];rfl
  have e2:(i.left i.l.length).getD j 0=i.l.getD y.1 0-i.out.getD y.1 0:=by
   rw[mz,qm.left,ra,hj.1];rfl
  dsimp only at hb;rw[e1,e2]at hb;exact⟨oM,hb.1,oM⟩) hn
 have tp:tE i=((i.idx i.l.length).zip i.pl).foldl (λo y=>o.set y.1 (ap.wrap (o.getD y.1 0+y.2))) i.out:=by
  rw[tE,qm.add,ng (by rw[List.length_zip];omega)]
 rw[tp];refine⟨by rw[hf.1,ho],hf.2.2,?_⟩;rw[hf.2.1,z2];have:=hp.sum;rw[qm.pl,this]
def yGn {l:List Int} (h:∀x∈l,1<=x/\x<=1000000) (n:Nat):0<=l.getD n 0/\l.getD n 0<=1000000:=by
 by_cases hn:n<l.length
 ·obtain⟨x,hx⟩:=zZ hn;have:=h x (kx hx);rw[zX hx];omega
 ·rw[mz,uv X_];decide
def y7f (n k:Nat):(ab n (0:Int)).getD k 0=0:=by
 rw[mz,RQ];split<;>rfl
def Y5 (n:Nat):(ab n (0:Int)).sum=0:=by
 induction n with
 |zero=>rfl
 |succ n ih=>rw[Ke,qi,ih];rfl
def xBp {q part:Int} (hq:0<=q) (h0:0<=part) (h1:part<=100):0<=q*part / 100/\q*part / 100<=q:=by
 have h2:0<=q*part:=Ov hq h0;have h3:q*part<=q*100:=XX h1 hq;constructor<;>omega
def z1n {p:fj} (hc:p.check=0) {l:List zK} {q:Int} (hr:y5 (l.map (·.dr)) q=ao):WW (l.map (·.dr)) (jD ⟨p,l,q⟩) q:=by
 have ok:=jH hc;obtain⟨r1,r2,r3,r4⟩:=j9 hr;have q1:=ok.q1;have q3:=ok.q3;have q5:=ok.q5;have q6:=ok.q6;have r5:=ok.r1;have r6:=ok.r2;have gb:=yGn r3;have eqs:(CZ.qs ⟨p,l,q⟩)=l.map (·.dr):=rfl
 rw[jD];simp only[eqs];generalize l.map (·.dr)=qs at*
 by_cases c1:p.gn=1
 ·rw[fh c1,fG,fh hr];exact zCk _ _ (λx hx=>by have:=r3 x hx;omega) r2 r4
 by_cases c2:p.gn=2
 ·rw[eg c1,fh c2,Dn,fh ⟨hr,q3,q1⟩];rw[vu.rs];dsimp only;split
  ·rename_i ht;have hk:(jc l).toNat<(ab qs.length (0:Int)).length:=by simp;omega
   have hf:0<=vu.first ⟨qs,jc l,p.top,p.least,q⟩/\vu.first ⟨qs,jc l,p.top,p.least,q⟩<=qs.getD (jc l).toNat 0/\vu.first ⟨qs,jc l,p.top,p.least,q⟩<=q:=by
    have:=gb (jc l).toNat;simp only[vu.first];omega
   have hs:((ab qs.length (0:Int)).set (jc l).toNat (vu.first ⟨qs,jc l,p.top,p.least,q⟩)).sum=vu.first ⟨qs,jc l,p.top,p.least,q⟩:=by
    rw[z3i hk,Y5,y7f];omega
   have:=zBk (i:=⟨qs,(ab qs.length 0).set (jc l).toNat (vu.first ⟨qs,jc l,p.top,p.least,q⟩),p.least,q-vu.first ⟨qs,jc l,p.top,p.least,q⟩⟩) r1 (by simp) (λn=>by
    dsimp only;rw[YV hk,y7f];have:=gb n;split
    ·rename_i e;rw[e];exact⟨hf.1,hf.2.1,(gb _).2⟩
    ·omega) (by dsimp only;rw[hs];omega) q3
   dsimp only at this;rw[hs]at this;have e:vu.first ⟨qs,jc l,p.top,p.least,q⟩+(q-vu.first ⟨qs,jc l,p.top,p.least,q⟩)=q:=X_
   rw[e]at this;exact this
  ·have:=zBk (i:=⟨qs,ab qs.length 0,p.least,q⟩) r1 (by simp) (λn=>by
    dsimp only;rw[y7f];have:=gb n;omega) (by dsimp only;rw[Y5];omega) q3
   dsimp only at this;rw[Y5,Int.zero_add]at this;exact this
 ·have c3:p.gn=3:=X_
  rw[eg c1,eg c2,fh c3,Cz,fh ⟨hr,q5,q6,q3⟩];rw[Kz.rs];dsimp only;obtain⟨d1,d2⟩:=xBp r2 q5 q6;have xz:y5 qs (q*p.part / 100)=ao:=ySu r1 d1 r3 oM;have yg:=zCk qs (q*p.part / 100) (λx hx=>by have:=r3 x hx;omega) d1 oM;have e0:fG qs (q*p.part / 100)=gZ qs (q*p.part / 100):=by rw[fG,fh xz]
  have:=zBk (i:=⟨qs,fG qs (q*p.part / 100),p.least,q-q*p.part / 100⟩) r1 (by dsimp only;rw[e0];exact yg.len) (λn=>by
   dsimp only;rw[e0];exact⟨(yg.bd n).1,(yg.bd n).2,(gb n).2⟩) (by dsimp only;rw[e0,yg.sum];omega) q3
  dsimp only at this;rw[e0,yg.sum]at this;rw[e0];have e:q*p.part / 100+(q-q*p.part / 100)=q:=X_
  rw[e]at this;exact this
def yBy {p:fj} {l:List zK} {q:Int} (hr:y5 (l.map (·.dr)) q=am):jD ⟨p,l,q⟩=[]:=by
 have eqs:(CZ.qs ⟨p,l,q⟩)=l.map (·.dr):=rfl
 rw[jD];simp only[eqs,fG,Dn,Cz,hr];simp
def zWp:Ju.ok Z_ 175:=gy (V:=yIm) mixed fk 0 i6 i6 [] func175 λ(b:Bool) _=>by
 unfold yIm dx;cases b<;>exact⟨(),Z8,Y_⟩
def z4x:Nn.ok Z_ 176:=gy (V:=yRh) mixed fk 0 i6 i6 [] func176 λ(i:S3) _=>by
 obtain⟨s,p,x⟩:=i;unfold yRh dx;cases s
 ·refine W_ (λ_=>zH (λc=>⟨(),?_,Y_⟩) (λc=>W_ (λe=>by simp[zF]at e) (λ_=>⟨(),?_,Y_⟩))) (λe=>by simp[zF]at e)
  ·exact jt c
  ·exact ju c
 ·exact W_ (λe=>by simp[zF]at e) (λ_=>W_ (λ_=>⟨(),rfl,Y_⟩) (λe=>by simp[zF]at e))
def z5u {L:List zK} {s:Int}:((iI L s).2=ao/\∃o∈L,o.side=s/\o.dm=(iI L s).1.dm)\/(iI L s=(⟨0,0,0⟩,am)/\∀o∈L,o.side≠s):=by
 rw[iI];cases hl:uF L s with
 |nil=>
  refine .inr ⟨rfl,λo ho e=> ?_⟩;rw[uF]at hl;cases hf:L.filter λo=>decide (o.side=s)with
  |nil=>
   rw[IJ]at hf;have:=hf o ho;simp[e]at this
  |cons x y=>
   rw[hf,yh]at hl;split at hl
   ·cases hl
   ·split at hl<;>cases hl
 |cons v vs=>
  refine .inl ⟨rfl,?_⟩;rw[uF]at hl;obtain⟨o,r,e1,e2⟩:=Y2 hl;have:o∈L.filter λo=>decide (o.side=s):=by rw[e1];exact iY
  rw[vi]at this;exact⟨o,this.1,by simpa using this.2,e2⟩
def z1y {L:List zK} {s:Int} (h:∀o∈L,-2000000<=o.dm/\o.dm<=2000000): -2000000<=(iI L s).1.dm/\(iI L s).1.dm<=2000000:=by
 rcases z5u (L:=L) (s:=s)with⟨_,o,ho,_,e⟩|⟨e,_⟩
 ·rw[<- e];exact h o ho
 ·rw[e];constructor<;>decide
def U2 (L:List zK):(qC L).p1=(iI L 1).1.dm/\(qC L).q1=(iI L 1).1.dr/\(qC L).gv=(iI L 1).2/\(qC L).p2=(iI L 2).1.dm/\(qC L).q2=(iI L 2).1.dr/\(qC L).gq=(iI L 2).2:=by
 have h:∀s,(iI L s).2=ao\/iI L s=(⟨0,0,0⟩,am):=λs=>by
  rcases z5u (L:=L) (s:=s)with⟨h,_⟩|⟨h,_⟩
  ·exact .inl h
  ·exact .inr h
 rw[qC,kf.AQ,kf.F9];rcases h 1 with h1|h1<;>rcases h 2 with h2|h2<;>simp[h1,h2,kg]
def jf.yq {p:fj} {B:Q_ zK} (h:jf p B) {k:Nat} {L:List zK} (hL:B[k]? =aq L):∀o∈L,-2000000<=o.dm/\o.dm<=2000000:=λo ho=>Re h.pc (h.pr k L hL o ho)
def jf.fm {p:fj} {B:Q_ zK} (h:jf p B):vW (B.map qC):=by
 have:=y8 p;refine⟨by rw[ib,h.bl];omega,λt ht=> ?_⟩;obtain⟨L,hL,rfl⟩:=nn.1 ht;obtain⟨k,hk⟩:=BB.1 hL;have b1:=z1y (s:=1) (h.yq hk);have b2:=z1y (s:=2) (h.yq hk);rw[(U2 L).1,(U2 L).2.2.2.1];exact⟨by constructor<;>omega,by constructor<;>omega⟩
def gz.ga.fm {s:gz} {p:fj} {B:Q_ zK} (h:s.ga p B):s.fm=B.map qC:=by
 rw[gz.fm];apply Du;intro k;rw[ra,ra];by_cases hk:k<B.length
 ·obtain⟨L,hL⟩:=zZ hk;obtain⟨b,hb⟩:=zZ (l:=s.ez) (i:=k) (by rw[h.bl];exact hk);rw[hL,hb,wz,wz,(h.bk k b L hb hL).top]
 ·rw[uv (by rw[h.bl];omega),uv X_];rfl
def gz.ga.Fm {s:gz} {p:fj} {B:Q_ zK} (h:s.ga p B) (hB:B.length<=1000000):s.oe:=by
 refine⟨by rw[h.bl];exact hB,λb hb=> ?_⟩;obtain⟨k,hk⟩:=BB.1 hb;have gr:=(jk.1 hk).1;rw[h.bl]at gr;obtain⟨L,hL⟩:=zZ gr;exact(h.bk k b L hk hL).Fm
def z8g {b:dq} {L:List zK} (h:b.ga L) (sd:Bool):b.iy (b.side sd)=iI L (zF sd):=by
 obtain⟨Q,c,ht,rfl⟩:=h;cases sd
 ·exact c.iI (.inl rfl)
 ·exact c.iI (.inr rfl)
def PO (sd:Bool):zF sd=1\/zF sd=2:=by cases sd;exact .inl rfl;exact .inr rfl
def xEy (i:Ft) (h:KS.dp i):y4n i:=by
 obtain⟨hR,hB,h0,h1⟩:i.s.ga i.p i.B/\jf i.p i.B/\0<=i.inst/\i.inst<i.B.length:=h;have xe:=y8 i.p;have Aj:=hB.bl;have zc:=hR.bl;obtain⟨k,hk⟩:∃k:Nat,i.inst=k:=⟨i.inst.toNat,oM⟩
 obtain⟨L,hL⟩:=zZ (l:=i.B) (i:=k) oM;obtain⟨b,hb⟩:=zZ (l:=i.s.ez) (i:=k) oM;have Ep:=hR.bk k b L hb hL;have Cn:i.s.p.small:=by rw[hR.ep];exact hB.ps
 have sx:vW i.s.fm:=by rw[hR.fm];exact hB.fm
 have Fe:yY i.p i.B i.inst (zF i.sd)=if((iI L (zF i.sd)).2 && !((z6 (xR ⟨i.s.p,i.s.fm,i.inst⟩ (zF i.sd)) (zF i.sd)).2 && jo (zF i.sd) (z6 (xR ⟨i.s.p,i.s.fm,i.inst⟩ (zF i.sd)) (zF i.sd)).1.dm (iI L (zF i.sd)).1.dm))=ao then(⟨(iI L (zF i.sd)).1.dm,(iI L (zF i.sd)).1.dr,⟨0,0⟩,⟨0,0⟩⟩,am,ao)else((z6 (xR ⟨i.s.p,i.s.fm,i.inst⟩ (zF i.sd)) (zF i.sd)).1,(z6 (xR ⟨i.s.p,i.s.fm,i.inst⟩ (zF i.sd)) (zF i.sd)).2,(z6 (xR ⟨i.s.p,i.s.fm,i.inst⟩ (zF i.sd)) (zF i.sd)).2):=by
  rw[yY,hR.fm,hR.ep,hk,ov,zX hL]
 have DS:=z8g Ep i.sd;unfold y4n QG Qa ff Ql Qo gY YR ff Qo kJ ph gK Vg DK ff uI Zi dx z7 ZS dx yE Z6 Qa BM dE zMc Qr;have BW:i.s.oe:=hR.Fm oM;have IV:(xR ⟨i.s.p,i.s.fm,i.inst⟩ (zF i.sd)).length<=1000000:=by
  have:=tz (HK (λq=>decide (i.s.p.dm i.inst q.dm=0)) _) (V2 ⟨i.s.p,i.s.fm,i.inst⟩ (zF i.sd));exact tz this Z8
 refine(λhT=>⟨⟨i.s,iB (nh ⟨rfl,BW,λ_ _=>⟨⟨rfl,Y_,oO ⟨rfl,Y_,Y_⟩⟩,⟨⟨⟨i.s.p,i.s.fm,i.inst⟩,i.sd⟩,iB (tr ⟨rfl,⟨Cn,sx⟩,λ_ _=>⟨hT,hT⟩⟩)⟩,⟨rfl,Y_,oO ⟨rfl,Y_,Y_⟩⟩,⟨⟨⟨i.s.p,i.s.fm,i.inst⟩,i.sd⟩,iB (tr ⟨rfl,⟨Cn,sx⟩,λ_ _=>hT⟩)⟩⟩⟩)⟩,
  ⟨rfl,Y_,oO ⟨rfl,Y_,Y_⟩⟩,⟨i.s,iB (nh ⟨rfl,BW,λ_ _=>⟨⟨rfl,Y_,oO ⟨rfl,Y_,Y_⟩⟩,⟨⟨⟨i.s.p,i.s.fm,i.inst⟩,i.sd⟩,iB (tr ⟨rfl,⟨Cn,sx⟩,λ_ _=>hT⟩)⟩⟩⟩)⟩⟩) ?_
 refine⟨⟨xR ⟨i.s.p,i.s.fm,i.inst⟩ (zF i.sd),zF i.sd⟩,rfl,rfl,⟨PO _,IV⟩,λ_ _=>⟨⟨h0,oM⟩,oM,b,by rw[hk];exact hb,⟨i.sd,b⟩,rfl,rfl,Ep.Fm,λ_ _=>⟨b,rfl,rfl,oM,?_⟩⟩⟩;dsimp only;rw[DS];generalize iI L (zF i.sd)=l at*;generalize z6 (xR ⟨i.s.p,i.s.fm,i.inst⟩ (zF i.sd)) (zF i.sd)=bq at*;have qu:i.s.ez.set i.inst.toNat b=i.s.ez:=jK (by rw[hk];exact hb);rw[qu];refine W_ (λc1=>W_ (λc2=>⟨⟨zF i.sd,bq.1.dm,l.1.dm⟩,rfl,rfl,rfl,Y_,λ_ _=>W_ (λc3=> ?_) (λc3=> ?_)⟩) (λc2=> ?_)) (λc1=> ?_)
 ·dsimp only at c3;rw[fh (by rw[c1,c2];simpa using c3)]at Fe;rw[Fe];exact⟨(),gj⟩
 ·dsimp only at c3;rw[eg (by rw[c1,c2];simpa using c3)]at Fe;rw[Fe];exact⟨(),gj⟩
 ·rw[fh (by rw[c1,c2];rfl)]at Fe;rw[Fe];exact⟨(),gj⟩
 ·rw[eg (by rw[c1];simp)]at Fe;rw[Fe];exact⟨(),gj⟩
def y1d:KS.ok Z_ 174:=gy mixed (dw z7z (dw zMo (dw z7p (dw Vj (dw pA fk))))) 0 i6 i6 [0] func174 xEy
def yEu (i:qm) (k:Nat):(i.add k).length=i.out.length:=by
 have:∀(l:List (Nat×Int)) (o:List Int),(l.foldl (λo y=>o.set y.1 (ap.wrap (o.getD y.1 0+y.2))) o).length=o.length:=by
  intro l
  induction l with
  |nil=>intro o;rfl
  |cons x l ih=>intro o;rw[Be,ih,qj]
 exact this _ _
def z3m (l:List Int) (q:Int):(fG l q).length<=l.length:=by
 rw[fG];split
 ·rw[P4];exact jx _
 ·exact ml _
def yLv (i:CZ):(jD i).length<=i.l.length:=by
 have hq:i.qs.length=i.l.length:=by simp[CZ.qs]
 rw[jD,<- hq]
 repeat' split
 ·exact z3m _ _
 ·rw[Dn];split
  ·rw[tE,yEu,vu.rs];split
   ·simp
   ·simp
  ·exact ml _
 ·rw[Cz];split
  ·rw[tE,yEu];exact z3m _ _
  ·exact ml _
 ·exact ml _
def zSm {inst s:Int}:∀{os:List zK} {sh:List Int} {j:Nat} {o:zK} {k:Int},os[j]? =aq o->sh[j]? =aq k->qI inst s (os.take (j+1)) (sh.take (j+1))=qI inst s (os.take j) (sh.take j)++(if 0<k then[⟨o.id,inst,s,o.dm,k,o.dr-k⟩]else[])
 |[],_,_,_,_,h,_=>by simp at h
 |_::_,[],_,_,_,_,h=>by simp at h
 |o::os,k::sh,0,_,_,h,h2=>by
  cases h;cases h2;rw[vj,vj,EX,EX,EX,EX,qI];split<;>rfl
 |o::os,k::sh,j+1,o',k',h,h2=>by
  rw[vj,vj,qI,vj,vj,qI,zSm (os:=os) (sh:=sh) (j:=j) h h2];split<;>rfl
def zXt {inst s:Int}:∀(os:List zK) (sh:List Int),qI inst s (os.take sh.length) (sh.take sh.length)=qI inst s os sh
 |[],sh=>by simp
 |_::_,[]=>by simp[qI]
 |o::os,k::sh=>by
  rw[iG,vj,vj,qI,qI,zXt os sh]
def yMd (B:Q_ zK) (a b:List cX):jE B (a++b)=jE (jE B a) b:=IG
def sL (B:Q_ zK) (id q:Int):(iR B id q).1.length=B.length:=by
 rw[iR];split
 ·rfl
 ·simp
def gG:∀(fs:List cX) (B:Q_ zK),(jE B fs).length=B.length
 |[],B=>rfl
 |f::fs,B=>by
  show(jE (iR B f.id f.dr).1 fs).length=_;rw[gG fs,sL]
def y5k {p:fj} (h:p.check=0):gx p.least/\gx p.top/\gx p.part:=by
 have ok:=jH h;have:=ok.q1;have:=ok.q2;have:=ok.q3;have:=ok.q4;have:=ok.q5;have:=ok.q6;exact⟨⟨oM,oM⟩,⟨oM,oM⟩,⟨oM,oM⟩⟩
def y9w (i:AN) (h:Gw.dp i):yRe i:=by
 obtain⟨hR,hB,h0,h1,hq⟩:i.s.ga i.p i.B/\jf i.p i.B/\0<=i.inst/\i.inst<i.B.length/\gx i.q:=h;have xe:=y8 i.p;have Aj:=hB.bl;have zc:=hR.bl;have ep:=hR.ep;obtain⟨k,hk⟩:∃k:Nat,i.inst=k:=⟨i.inst.toNat,oM⟩
 obtain⟨L,hL⟩:=zZ (l:=i.B) (i:=k) oM;obtain⟨b,hb⟩:=zZ (l:=i.s.ez) (i:=k) oM;have Ep:=hR.bk k b L hb hL;have DS:=z8g Ep i.sd;have CS:vy L (zF i.sd) (iI L (zF i.sd)).1.dm=i.os:=by rw[AN.os,UP,hk,ov,zX hL]
 have qu:i.s.ez.set i.inst.toNat b=i.s.ez:=jK (by rw[hk];exact hb);have abd:i.os.length<=250:=by
  rw[<- CS];exact tz (HK _ _) Ep.oA.2.2
 have OW:i.sh.length<=i.os.length:=yLv _;obtain⟨k1,k2,k3⟩:=y5k hB.pc;have Fc:∀(j:Nat) (n:Int),i.sh[j]? =aq n->n<=1000000:=by
  intro j n hn;cases hr:y5 (i.os.map (·.dr)) i.q with
  |false=>
   have:i.sh=[]:=yBy hr;rw[this]at hn;cases hn
  |true=>
   have:=(z1n hB.pc hr).bd j;have e:(jD ⟨i.p,i.os,i.q⟩).getD j 0=n:=zX hn;rw[e]at this;have:=(yGn (j9 hr).2.2.1 j).2;omega
 unfold yRe Qa Qb BM DK ff Z' gS bM nP bT fV z7 uI dI;refine⟨⟨h0,oM⟩,oM,b,by rw[hk];exact hb,⟨i.sd,b⟩,rfl,rfl,Ep.Fm,λ_ _=> ?_⟩;refine⟨b,rfl,rfl,oM,b,by rw[qu,hk];exact hb,⟨b,L,i.sd,(iI L (zF i.sd)).1.dm⟩,rfl,by dsimp only;rw[DS],rfl,Ep,λ_ _=> ?_⟩;dsimp only
 try rw[DS]
 rw[qu,CS];refine⟨b,rfl,rfl,oM,⟨i.p,i.os,i.q⟩,by rw[ep],by rw[ep],by rw[ep],by rw[ep],by rw[ep],by rw[ep],by rw[ep],by rw[ep],by rw[ep],by rw[ep],by rw[ep],rfl,rfl,⟨Z9,hq,k1,k2,k3⟩,λ_ _=> ?_⟩;have esh:jD ⟨i.p,i.os,i.q⟩=i.sh:=rfl;rw[esh,qu,y9,ib];refine⟨(0,i.s),iB (nu ⟨rfl,λj=>j.2.ga i.p (jE i.B (i.fs j.1))/\j.1<=i.sh.length,λj=>i.sh.length-j.1,⟨hR,ml _⟩,λj hj=> ?_⟩)⟩;obtain⟨SC,Fh⟩:=hj;obtain⟨j,sj⟩:=j;dsimp only at SC Fh ⊢;refine zH (λc=> ?_) (λc=> ?_)
 ·obtain⟨n,hn⟩:=zZ (l:=i.sh) (i:=j) oM;obtain⟨o,ho⟩:=zZ (l:=i.os) (i:=j) oM;have lr:=zSm (inst:=i.inst) (s:=zF i.sd) ho hn;have hoL:o∈L:=by
   have:=kx ho;rw[<- CS]at this;exact(vi.1 this).1
  have hoq:=(Ep.oA.1 o hoL).q;have hnb:=Fc j n hn;refine⟨⟨oM,oM⟩,n,rq hn,zH (λc2=> ?_) (λc2=> ?_)⟩
  ·rw[fh (show 0<n from c2)]at lr;have BI:(i.fs j).length<=j:=by
    have:∀(os:List zK) (sh:List Int),(qI i.inst (zF i.sd) os sh).length<=os.length:=by
     intro os
     induction os with
     |nil=>intro sh;exact jx 0
     |cons o os ih=>
      intro sh;cases sh with
      |nil=>exact ml _
      |cons k sh=>
       have:=ih sh;rw[qI];split
       ·simp only[iG];omega
       ·simp only[iG];omega
    exact tz (this _ _) (by rw[nr];omega)
   refine⟨⟨oM,oM⟩,o.id,o.side,o.dm,o.dr,o.top,y7d ho,⟨sj,i.p,jE i.B (i.fs j),o.id,n⟩,rfl,rfl,rfl,⟨SC,by dsimp only;rw[gG];omega⟩,λs' iQ=>⟨by rw[ib];omega,(j+1,s'),pf oM,rfl,?_,⟨?_,Z9⟩,Z9,gj⟩⟩
   ·show aa y4 (qI i.inst (zF i.sd) (i.os.take (j+1)) (i.sh.take (j+1)))=_;rw[lr,jh,iw X_];rfl
   ·show s'.ga i.p (jE i.B (qI i.inst (zF i.sd) (i.os.take (j+1)) (i.sh.take (j+1))));rw[lr,yMd];exact iQ
  ·rw[eg (show ¬0<n from c2),oQ]at lr;refine⟨(j+1,sj),pf oM,rfl,?_,⟨?_,Z9⟩,Z9,gj⟩
   ·show aa y4 (qI i.inst (zF i.sd) (i.os.take (j+1)) (i.sh.take (j+1)))=_;rw[lr];rfl
   ·show sj.ga i.p (jE i.B (qI i.inst (zF i.sd) (i.os.take (j+1)) (i.sh.take (j+1))));rw[lr];exact SC
 ·have F2:j=i.sh.length:=X_
  subst F2;have hfa:i.fs i.sh.length=kO i.p i.B i.inst (zF i.sd) i.q:=zXt _ _;rw[hfa]at SC ⊢;exact⟨sj,rfl,rfl,SC⟩
def yUp:Gw.ok Z_ 177:=gy mixed (dw Vj (dw xGm (dw yOt (dw VV fk)))) 0 i6 (λi=>xAp i) [0] func177 y9w
structure wY where
 dm:Int
 dr:Int
 gg:Bool
 iu:List cX
 deriving DecidableEq
def vG (t:wY):List D:=[.v (.int .i64 t.dm),.v (.int .i64 t.dr),.v (.bool t.gg),.ro 6 (t.iu.map y4)]
def aI (p:fj) (B:Q_ zK) (inst:Int) (sd:Bool) (dm dr:Int):Option (wY×Q_ zK):=
 let n:=yY p B inst (zF (!sd))
 if(n.2.2 && (aZ sd dm n.1.dm && decide (1<=n.1.dr)))=ao then
  if n.2.1=ao then
   let f1:=kO p B n.1.a.inst n.1.a.side (min dr n.1.dr)
   let f2:=kO p (jE B f1) n.1.b.inst n.1.b.side (min dr n.1.dr)
   aq (⟨n.1.dm,min dr n.1.dr,ao,f1++f2⟩,jE (jE B f1) f2)
  else
   let f:=kO p B inst (zF (!sd)) (min dr n.1.dr)
   aq (⟨n.1.dm,min dr n.1.dr,am,f⟩,jE B f)
 else ar
structure y7r where
 steps:List wY
 left:Int
 B:Q_ zK
def Dm (p:fj) (inst:Int) (sd:Bool) (dm:Int):Nat->Q_ zK->Int->y7r
 |0,B,q=>⟨[],q,B⟩
 |n+1,B,q=>if q<=0 then⟨[],q,B⟩else match aI p B inst sd dm q with
  |none=>⟨[],q,B⟩
  |some (t,B')=>let r:=Dm p inst sd dm n B' (q-t.dr);⟨t::r.steps,r.left,r.B⟩
def vO (p:fj) (B:Q_ zK) (inst:Int) (sd:Bool) (dm q:Int):y7r:=Dm p inst sd dm q.toNat B q
structure oa where
 s:gz
 p:fj
 B:Q_ zK
 inst:Int
 sd:Bool
 dm:Int
 q:Int
def oa.r (i:oa):y7r:=vO i.p i.B i.inst i.sd i.dm i.q
def Tc:gh where
 ι:=oa
 pat:=λi=>[.nm 0 0,zB i.inst,zB (zF i.sd),zB i.dm,zB i.q]
 pre:=λi=>[zE i.s]
 dp:=λi=>i.s.ga i.p i.B/\jf i.p i.B/\(0<=i.inst/\i.inst<i.B.length)/\1<=i.q/\i.q<=1000000
 alts:=λi=>[{o:=gz,res:=λ_=> .je [.own 1,zB i.r.left],post:=λs=>[zE s,.own 205 4 (i.r.steps.map vG)],rel:=λs=>s.ga i.p i.r.B}]
structure Fy where
 s:gz
 B:Q_ zK
 steps:List wY
 q:Int
def xIe:List gu:=[
 {ι:=Fy,du:=λj=>[(0,.nm 0 0),(12,.own 1),(4,zB j.q)],rows:=λj=>[zE j.s,.own 205 4 (j.steps.map vG)]},
 {ι:=Unit,du:=λ_=>[],rows:=λ_=>[],un:=3}]
def ZF (a:Fy->Nat) (b:Fy) (c:Fy) (d:oa):Prop:=a b<a c/\dk (af 1 (iE d.s.p.dt))/\dk (af 1 (iE d.s.p.settle))
def VQ (a:AN):Prop:=a.s.ga a.p a.B/\jf a.p a.B/\0<=a.inst/\a.inst<(a.B.length:Int)/\(-9223372036854775808)<=a.q/\a.q<=9223372036854775807
def Y1 (a:oa) (b:Fy) (c:Ft):Prop:=∃(d:gz),a.r.left=b.q/\zE d=zE c.s/\aa vG a.r.steps=aa vG b.steps/\d.ga a.p a.r.B
def P7 (a:AN):=(aa y4 (fV a))
def z9k (a:oa):Prop:=∃(b:Fy),b.q=a.q/\Qa b.s.p a.s.p (QG b.s a.s (aa vG b.steps=[]/\∃(c:Fy->Prop),∃(d:Fy->Nat),c b/\∀(e:Fy),c e->dp (decide (e.q>0)) (∃(f:Bool),zF f=zF a.sd/\True/\ff (∃(h:Ft),h.inst=a.inst/\zF h.sd=zF !f/\zE h.s=zE e.s/\(h.s.ga h.p h.B/\jf h.p h.B/\0<=h.inst/\h.inst<(h.B.length:Int))/\ff (dp (!(yE h).snd.snd) (Y1 a e h) (∃(k:S3),zF k.s=zF a.sd/\k.p=a.dm/\k.x=(yE h).fst.dm/\True/\ff (dp (!aZ k.s k.p k.x) (Y1 a e h) (dp (yE h).snd.fst (∃(m:AN),m.inst=(yE h).fst.a.inst/\zF m.sd=(yE h).fst.a.side/\m.q=min e.q (yE h).fst.dr/\zE m.s=zE h.s/\(VQ m)/\∀(n:gz),n.ga m.p (bT m)->True/\(P7 m).length*(48:Nat)<=(140737488355328:Nat)/\∃(p:AN),p.inst=(yE h).fst.b.inst/\zF p.sd=(yE h).fst.b.side/\p.q=min e.q (yE h).fst.dr/\zE p.s=zE n/\(VQ p)/\∀(q:gz),q.ga p.p (bT p)->True/\((P7 m).length+(P7 p).length)*(48:Nat)<=(140737488355328:Nat)/\((aa vG e.steps).length+1)*(48:Nat)<=(140737488355328:Nat)/\∃(r:Fy),r.q=ap.wrap (e.q-min e.q (yE h).fst.dr)/\zE r.s=zE q/\aa vG r.steps=aa vG e.steps++[[dI ((yE h).fst.dm),dI (min e.q (yE h).fst.dr),D.v (.bool (yE h).snd.fst),D.ro 6 (aa y4 (fV m)++aa y4 (fV p))]]/\c r/\ZF d r e a) (∃(m:Bool),zF m=zF a.sd/\True/\ff (dk (min e.q (yE h).fst.dr)/\∃(p:AN),p.inst=a.inst/\zF p.sd=zF !m/\p.q=min e.q (yE h).fst.dr/\zE p.s=zE h.s/\(VQ p)/\∀(q:gz),q.ga p.p (bT p)->((aa vG e.steps).length+1)*(48:Nat)<=(140737488355328:Nat)/\∃(r:Fy),r.q=ap.wrap (e.q-min e.q (yE h).fst.dr)/\zE r.s=zE q/\aa vG r.steps=aa vG e.steps++[[dI ((yE h).fst.dm),dI (min e.q (yE h).fst.dr),D.v (.bool (yE h).snd.fst),D.ro 6 (P7 p)]]/\c r/\ZF d r e a)))))))) (∃(f:gz),a.r.left=e.q/\zE f=zE e.s/\aa vG a.r.steps=aa vG e.steps/\f.ga a.p a.r.B)))
def aU (a:oa):Prop:=∃(b:gz),a.r.left=a.q/\Qa b.p a.s.p (QG b a.s (aa vG a.r.steps=[]/\b.ga a.p a.r.B))
def xGi (i:oa):Prop:=
 dp (decide (i.inst>=0)) (dp (decide (i.inst<(i.s.ez.length:Int))) (dp (zF i.sd==1) (dp (decide (i.q>=1)) (dp (!decide (i.q<=1000000)) (aU i) (z9k i)) (aU i)) (dp (zF i.sd==2) (dp (decide (i.q>=1)) (dp (!decide (i.q<=1000000)) (aU i) (z9k i)) (aU i)) (aU i))) (aU i)) (aU i)
structure QOk (T:List kf) (q:Quote):Prop where
 a:0<=q.a.inst/\q.a.inst<T.length
 b:0<=q.b.inst/\q.b.inst<T.length
 sa:q.a.side=1\/q.a.side=2
 sb:q.b.side=1\/q.b.side=2
 ne:q.a.inst≠q.b.inst
 ha:(T.getD q.a.inst.toNat kg).has q.a.side=ao
 hb:(T.getD q.b.inst.toNat kg).has q.b.side=ao
 dr:q.dr=min ((T.getD q.a.inst.toNat kg).dr q.a.side) ((T.getD q.b.inst.toNat kg).dr q.b.side)
def z9s {T:List kf} {a b:Cw} {less:Bool} {q:Quote} (h:q∈xy T a b less) (h1:0<=a.inst/\a.inst<T.length) (h2:0<=b.inst/\b.inst<T.length) (h3:a.side=1\/a.side=2) (h4:b.side=1\/b.side=2) (jy:a.inst≠b.inst):QOk T q/\q.a=a/\q.b=b:=by
 cases less
 all_goals
  simp only[xy,oS,↓reduceIte]at h;split at h
  ·rename_i hc;simp only[lu]at hc;rw[tq]at h;subst h;exact⟨⟨h1,h2,h3,h4,jy,hc.1.1,hc.1.2,rfl⟩,rfl,rfl⟩
  ·cases h
def xAt:∀n≤6,∀k<n+n*(n-1) / 2,n<=k->(jO n k n 0).1≠(jO n k n 0).2.1:=by decide
def yDy {p:fj} (hc:p.check=0) {k:Nat} (hk:k<p.count) (hs:(p.gp k).2.2=ao):(p.gp k).1≠(p.gp k).2.1:=by
 have m6:=(jH hc).m6;have qc:=hk;rw[fj.count,fh hc]at qc;by_cases h:k<p.dt.length
 ·rw[fj.gp,eg X_,fh X_]at hs;cases hs
 ·rw[fj.gp,eg X_,eg X_];exact xAt p.dt.length m6 k qc oM
def yMc:∀n≤6,∀a<n,∀b<n,a<b->(yP n a:Int)+b-a-1>=n:=by decide
def zYe {p:fj} (hc:p.check=0) {a b:Nat} (CU:a<b) (hb:b<p.dt.length):(p.dt.length:Int)<=(p.spread a b).1:=by
 have m6:=(jH hc).m6;have:=yMc p.dt.length m6 a oM b hb CU;rw[fj.spread,eg X_];simpa using this
def yGl {p:fj} (hc:p.check=0) {T:List kf} (hT:T.length=p.count) {inst:Int} {s:Int} (hs:s=1\/s=2) {q:Quote} (h:q∈kY ⟨p,T,inst⟩ s):QOk T q/\0<=inst/\inst<p.count/\
 (((p.gp inst).2.2=ao/\q.a=⟨(p.gp inst).1,s⟩/\q.b=⟨(p.gp inst).2.1,3-s⟩)\/(inst<p.dt.length/\q.a.inst≠inst/\(p.dt.length:Int)<=q.a.inst)):=by
 rw[kY]at h;dsimp only at h;split at h
 ·cases h
 ·rename_i hn;have h0:0<=inst/\inst<p.count:=X_
  obtain⟨k,rfl⟩:∃k:Nat,inst=k:=⟨inst.toNat,oM⟩
  have hk:k<p.count:=X_
  have Ms:=V3 hc;split at h
  ·rename_i hl;obtain⟨q',Yg,rfl⟩:=nn.1 h;have hle:=dC hc hk;rcases hle with⟨_,l1,l2,l3,l4⟩|⟨e,_⟩
   ·obtain⟨ok,e1,e2⟩:=z9s Yg Z9 Z9 Z9 hs (λe=>yDy hc hk hl e.symm);refine⟨⟨by dsimp only[aX];omega,by dsimp only[aX];omega,hs,by dsimp only[aX];omega,yDy hc hk hl,?_,?_,?_⟩,h0.1,h0.2,.inl ⟨hl,rfl,rfl⟩⟩
    ·have:=ok.hb;rw[e2]at this;exact this
    ·have:=ok.ha;rw[e1]at this;exact this
    ·have:=ok.dr;rw[e1,e2]at this;dsimp only[aX];rw[this];exact Int.min_comm _ _
   ·rw[e]at hl;cases hl
  ·rename_i hl;have hm:k<p.dt.length:=by
    rcases dC hc hk with⟨e,_⟩|⟨_,e⟩
    ·exact absurd e hl
    ·exact e
   rcases oH.1 h with h|h
   ·obtain⟨j,hj,h⟩:=Bf.1 h;have hj:=CJ.1 hj;rw[ov]at hj;have s1:=mS hc (a:=k) (b:=k+1+j) oM oM;have s2:=zYe hc (a:=k) (b:=k+1+j) oM oM;have ec:((k:Int)+1+j)=((k+1+j:Nat):Int):=X_
    rw[ec]at h;obtain⟨ok,e1,e2⟩:=z9s h Z9 Z9 hs hs Z9;exact⟨ok,h0.1,h0.2,.inr ⟨oM,by rw[e1];dsimp only;omega,by rw[e1];exact s2⟩⟩
   ·obtain⟨j,hj,h⟩:=Bf.1 h;have hj:=CJ.1 hj;rw[ov]at hj;have s1:=mS hc (a:=j) (b:=k) oM oM;have s2:=zYe hc (a:=j) (b:=k) oM oM;obtain⟨ok,e1,e2⟩:=z9s h Z9 Z9 Z9 hs Z9;exact⟨ok,h0.1,h0.2,.inr ⟨oM,by rw[e1];dsimp only;omega,by rw[e1];exact s2⟩⟩
def zXq {s:Int}:∀(r:List Quote) (q:Quote),r.foldl (λb q=>if jo s q.dm b.dm then q else b) q∈q::r
 |[],q=>iY
 |x::r,q=>by
  rw[Be];have:=zXq (s:=s) r (if jo s x.dm q.dm then x else q);rcases j'.1 this with e|h
  ·rw[e];split
   ·exact jj _ iY
   ·exact iY
  ·exact jj _ (jj _ h)
def ZZ {l:List Quote} {s:Int} (h:(z6 l s).2=ao):(z6 l s).1∈l:=by
 cases l with
 |nil=>cases h
 |cons q r=>exact zXq r q
def Xd (B:Q_ zK):Prop:=∀(k:Nat) (L:List zK),B[k]?=aq L->(∀o∈L,Lx o)/\(L.map (·.id)).Nodup/\L.length<=250
def gz.ga.oA {s:gz} {p:fj} {B:Q_ zK} (h:s.ga p B):Xd B:=by
 intro k L hL;obtain⟨b,hb⟩:=zZ (l:=s.ez) (i:=k) (by rw[h.bl];exact(jk.1 hL).1);exact(h.bk k b L hb hL).oA
def XM:∀{l:List zK} {v:Lv},(∀o∈l,Lx o)->v∈yh l->1<=v.dr/\v.dr<=1000000*l.length
 |[],v,_,h=>by cases h
 |o::l,v,ho,h=>by
  have h0:=(ho o iY).q;have ih:∀v∈yh l,1<=v.dr/\v.dr<=1000000*l.length:=λv hv=>XM (λx hx=>ho x (jj _ hx)) hv
  rw[yh]at h;rw[iG];split at h
  ·rw[tq]at h;subst h;dsimp only;omega
  ·rename_i w ws e;rw[e]at ih;have hw:=ih w iY;split at h
   ·rcases j'.1 h with rfl|h
    ·dsimp only;omega
    ·have:=ih v (jj _ h);omega
   ·rcases j'.1 h with rfl|h
    ·dsimp only;omega
    ·have:=ih v h;omega
def yCv {L:List zK} {s:Int} (h:∀o∈L,Lx o) (hl:L.length<=250) (hb:(iI L s).2=ao):1<=(iI L s).1.dr/\(iI L s).1.dr<=250000000:=by
 rw[iI]at hb ⊢;cases Fg:uF L s with
 |nil=>rw[Fg]at hb;cases hb
 |cons v vs=>
  dsimp only;have hm:v∈yh (L.filter λo=>decide (o.side=s)):=by rw[<- uF,Fg];exact iY
  have:=XM (λo ho=>h o (vi.1 ho).1) hm;have:=HK (λo:zK=>decide (o.side=s)) L;omega
def yOp {B:Q_ zK} {k:Nat} {L:List zK} (hL:B[k]? =aq L):(B.map qC).getD k kg=qC L:=zX (by rw[ra,hL];rfl)
def Vc (L:List zK) {s:Int} (hs:s=1\/s=2):(qC L).has s=(iI L s).2/\(qC L).dr s=(iI L s).1.dr/\(qC L).dm s=(iI L s).1.dm:=by
 obtain⟨e1,e2,e3,e4,e5,e6⟩:=U2 L;rcases hs with rfl|rfl
 ·exact⟨e3,e2,e1⟩
 ·exact⟨e6,e5,e4⟩
def yGc {p:fj} {B:Q_ zK} (h:jf p B) (ho:Xd B) {inst:Int} (hi:0<=inst/\inst<B.length) {s:Int} (hs:s=1\/s=2) (hn:(yY p B inst s).2.2=ao):
 (1<=(yY p B inst s).1.dr/\(yY p B inst s).1.dr<=250000000)/\((yY p B inst s).2.1=ao->(yY p B inst s).1∈kY ⟨p,B.map qC,inst⟩ s/\QOk (B.map qC) (yY p B inst s).1)/\
 ((yY p B inst s).2.1=am->(iI (B.getD inst.toNat []) s).2=ao/\(yY p B inst s).1.dm=(iI (B.getD inst.toNat []) s).1.dm/\(yY p B inst s).1.dr=(iI (B.getD inst.toNat []) s).1.dr):=by
 obtain⟨k,rfl⟩:∃k:Nat,inst=k:=⟨inst.toNat,oM⟩
 obtain⟨L,hL⟩:=zZ (l:=B) (i:=k) oM;have hLo:=ho k L hL;rw[yY]at hn ⊢;rw[ov,zX hL]at hn ⊢;split
 ·rename_i c;simp only[lu]at c;exact⟨yCv hLo.1 hLo.2.2 c.1,⟨λe=>(by cases e),λ_=>⟨c.1,rfl,rfl⟩⟩⟩
 ·rename_i c;rw[eg c]at hn;dsimp only at hn ⊢;have hm:=ZZ hn;have ha:(z6 (xR ⟨p,B.map qC,k⟩ s) s).1∈kY ⟨p,B.map qC,k⟩ s:=(vi.1 hm).1;obtain⟨ok,_⟩:=yGl h.pc (by rw[ib];exact h.bl) hs ha;refine⟨?_,λ_=>⟨ha,ok⟩,λe=>by rw[hn]at e;cases e⟩;generalize (z6 (xR ⟨p,B.map qC,k⟩ s) s).1=q at ok;have a:=ok.a;have b:=ok.b;rw[ib]at a b;obtain⟨La,hLa⟩:=zZ (l:=B) (i:=q.a.inst.toNat) oM;obtain⟨Lb,Yu⟩:=zZ (l:=B) (i:=q.b.inst.toNat) oM;have e1:=ok.ha;have e2:=ok.hb;have e3:=ok.dr;rw[yOp hLa]at e1 e3;rw[yOp Yu]at e2 e3;rw[(Vc La ok.sa).1]at e1;rw[(Vc Lb ok.sb).1]at e2;rw[(Vc La ok.sa).2.1,(Vc Lb ok.sb).2.1]at e3;have:=yCv (ho _ _ hLa).1 (ho _ _ hLa).2.2 e1;have:=yCv (ho _ _ Yu).1 (ho _ _ Yu).2.2 e2;omega
def yNh {L:List zK} {id q:Int} {o:zK} (h:o∈(qK L id q).1):∃o'∈L,o.dm=o'.dm/\o.side=o'.side/\o.id=o'.id:=by
 rw[qK]at h;split at h
 ·exact⟨o,h,rfl,rfl,rfl⟩
 split at h
 ·exact⟨o,h,rfl,rfl,rfl⟩
 obtain⟨o',oK,e⟩:=OD.1 h;refine⟨o',oK,?_⟩;split at e
 ·split at e
  ·cases e
  ·cases e;exact⟨rfl,rfl,rfl⟩
 ·cases e;exact⟨rfl,rfl,rfl⟩
def jf.take {p:fj} {B:Q_ zK} (h:jf p B) (id q:Int):jf p (iR B id q).1:=by
 refine⟨h.pc,h.ps,by rw[sL];exact h.bl,λk L hL o ho=> ?_⟩;rw[iR]at hL;split at hL
 ·exact h.pr k L hL o ho
 ·rename_i j hj;dsimp only at hL;rcases mI hL with⟨rfl,rfl⟩|⟨_,hL⟩
  ·obtain⟨o',oK,e,_⟩:=yNh ho;obtain⟨L',Kx,_⟩:=uW hj;rw[zX Kx]at oK;rw[e];exact h.pr k L' Kx o' oK
  ·exact h.pr k L hL o ho
def jf.takes {p:fj}:∀{fs:List cX} {B:Q_ zK},jf p B->jf p (jE B fs)
 |[],B,h=>h
 |f::fs,B,h=>jf.takes (fs:=fs) (h.take f.id f.dr)
def z3s (inst s:Int):∀(os:List zK) (sh:List Int),(qI inst s os sh).length<=os.length
 |[],sh=>jx 0
 |o::os,[]=>ml _
 |o::os,k::sh=>by
  have:=z3s inst s os sh;rw[qI];split
  ·simp only[iG];omega
  ·simp only[iG];omega
def sC {p:fj} {B:Q_ zK} (ho:Xd B) (inst s q:Int):(kO p B inst s q).length<=250:=by
 refine tz (z3s _ _ _ _) (tz (HK _ _) ?_);by_cases h:inst.toNat<B.length
 ·obtain⟨L,hL⟩:=zZ h;rw[zX hL];exact(ho _ _ hL).2.2
 ·rw[mz,uv X_];exact ml _
def PC {p:fj} {B:Q_ zK} {inst:Int} {sd:Bool} {dm q:Int} {t:wY} {B':Q_ zK} (hq:1<=q) (h:aI p B inst sd dm q=aq (t,B')):1<=t.dr/\t.dr<=q:=by
 rw[aI]at h;dsimp only at h;split at h
 ·rename_i c;simp only[lu,ua]at c;split at h
  ·cases h;dsimp only;omega
  ·cases h;dsimp only;omega
 ·cases h
def z7s {p:fj} {inst:Int} {sd:Bool} {dm:Int}:∀(m n:Nat) (B:Q_ zK) (q:Int),q.toNat<=m->q.toNat<=n->Dm p inst sd dm m B q=Dm p inst sd dm n B q
 |0,0,B,q,_,_=>rfl
 |0,n+1,B,q,h,_=>by rw[Dm,Dm,fh (by omega)]
 |m+1,0,B,q,_,h=>by rw[Dm,Dm,fh (by omega)]
 |m+1,n+1,B,q,h1,h2=>by
  rw[Dm,Dm];split
  ·rfl
  ·rename_i hq;cases hs:aI p B inst sd dm q with
   |none=>rfl
   |some x=>
    obtain⟨t,B'⟩:=x;have:=PC oM hs;dsimp only;rw[z7s m n B' (q-t.dr) X_ X_]
def Ri {p:fj} {B:Q_ zK} {inst:Int} {sd:Bool} {dm q:Int} (h:q<=0\/aI p B inst sd dm q=ar):vO p B inst sd dm q=⟨[],q,B⟩:=by
 rw[vO];cases hn:q.toNat with
 |zero=>rfl
 |succ n=>
  rw[Dm];rcases h with h|h
  ·rw[fh h]
  ·rw[eg X_,h]
def ZB {p:fj} {B:Q_ zK} {inst:Int} {sd:Bool} {dm q:Int} {t:wY} {B':Q_ zK} (hq:1<=q) (h:aI p B inst sd dm q=aq (t,B')):
 vO p B inst sd dm q=⟨t::(vO p B' inst sd dm (q-t.dr)).steps,(vO p B' inst sd dm (q-t.dr)).left,(vO p B' inst sd dm (q-t.dr)).B⟩:=by
 have ht:=PC hq h;rw[vO];cases hn:q.toNat with
 |zero=>omega
 |succ n=>
  rw[Dm,eg X_,h];dsimp only;rw[z7s n (q-t.dr).toNat B' (q-t.dr) X_ (jx _)];rfl
def dP {s:Int} (h:s=1\/s=2):zF (decide (s=2))=s:=by
 rcases h with rfl|rfl<;>rfl
def xIw (i:oa) (h:Tc.dp i):xGi i:=by
 obtain⟨hR,hB,⟨h0,h1⟩,xb,uo⟩:i.s.ga i.p i.B/\jf i.p i.B/\(0<=i.inst/\i.inst<i.B.length)/\1<=i.q/\i.q<=1000000:=h;have Aj:=hR.bl;have xe:=y8 i.p;have hbB:=hB.bl;unfold xGi z9k QG Qa ff bT P7 fV Y1 VQ ZF yE aU QG Qa dI;refine(λhT=>zH (λc=>zH (λc2=>W_ (λ_=>zH (λ_=>W_ (λe=>absurd uo (i9 e)) (λ_=>hT)) (λe=>absurd xb e)) (λe1=>W_ (λ_=>zH (λ_=>W_ (λe=>absurd uo (i9 e)) (λ_=>hT)) (λe=>absurd xb e)) (λe2=>by
  rcases PO i.sd with e|e
  ·rw[e]at e1;cases e1
  ·rw[e]at e2;cases e2))) (λc2=>absurd oM c2)) (λc=>absurd h0 c)) ?_
 refine⟨⟨i.s,i.B,[],i.q⟩,iB (nu ⟨rfl,λj=>j.s.ga i.p j.B/\jf i.p j.B/\j.B.length=i.B.length/\(0<=j.q/\j.q<=i.q)/\(j.steps.length:Int)<=i.q-j.q/\i.r=⟨j.steps++(vO i.p j.B i.inst i.sd i.dm j.q).steps,(vO i.p j.B i.inst i.sd i.dm j.q).left,(vO i.p j.B i.inst i.sd i.dm j.q).B⟩,λj=>j.q.toNat,⟨hR,hB,rfl,⟨Z9,yy _⟩,by dsimp only;simp,rfl⟩,?_⟩)⟩;rintro⟨s,B,st,q⟩ ⟨r1,r2,r3,⟨r4,r4'⟩,r5,r6⟩;dsimp only at r1 r2 r3 r4 r4' r5 r6 ⊢;have Bl (hn:q<=0\/aI i.p B i.inst i.sd i.dm q=ar):∃(o:gz),i.r.left=q/\aj gz (5:Nat) qB o=aj gz (5:Nat) qB s/\aa vG i.r.steps=aa vG st/\o.ga i.p i.r.B:=by
  rw[Ri hn,oQ]at r6;rw[r6];exact⟨s,iP r1⟩
 refine zH (λc=> ?_) (λc=>Bl (.inl oM));have c:0<q:=c;refine⟨i.sd,rfl,Y_,λ_ _=>⟨⟨s,i.p,B,i.inst,!i.sd⟩,rfl,rfl,rfl,⟨r1,r2,h0,Z9⟩,λ_ _=> ?_⟩⟩;dsimp only;have hni:=yGc r2 r1.oA (inst:=i.inst) ⟨h0,oM⟩ (PO (!i.sd));have Fc:aI i.p B i.inst i.sd i.dm q=(if((yY i.p B i.inst (zF (!i.sd))).2.2 && (aZ i.sd i.dm (yY i.p B i.inst (zF (!i.sd))).1.dm && decide (1<=(yY i.p B i.inst (zF (!i.sd))).1.dr)))=ao then
  if(yY i.p B i.inst (zF (!i.sd))).2.1=ao then
   aq (⟨(yY i.p B i.inst (zF (!i.sd))).1.dm,min q (yY i.p B i.inst (zF (!i.sd))).1.dr,ao,kO i.p B (yY i.p B i.inst (zF (!i.sd))).1.a.inst (yY i.p B i.inst (zF (!i.sd))).1.a.side (min q (yY i.p B i.inst (zF (!i.sd))).1.dr)++kO i.p (jE B (kO i.p B (yY i.p B i.inst (zF (!i.sd))).1.a.inst (yY i.p B i.inst (zF (!i.sd))).1.a.side (min q (yY i.p B i.inst (zF (!i.sd))).1.dr))) (yY i.p B i.inst (zF (!i.sd))).1.b.inst (yY i.p B i.inst (zF (!i.sd))).1.b.side (min q (yY i.p B i.inst (zF (!i.sd))).1.dr)⟩,jE (jE B (kO i.p B (yY i.p B i.inst (zF (!i.sd))).1.a.inst (yY i.p B i.inst (zF (!i.sd))).1.a.side (min q (yY i.p B i.inst (zF (!i.sd))).1.dr))) (kO i.p (jE B (kO i.p B (yY i.p B i.inst (zF (!i.sd))).1.a.inst (yY i.p B i.inst (zF (!i.sd))).1.a.side (min q (yY i.p B i.inst (zF (!i.sd))).1.dr))) (yY i.p B i.inst (zF (!i.sd))).1.b.inst (yY i.p B i.inst (zF (!i.sd))).1.b.side (min q (yY i.p B i.inst (zF (!i.sd))).1.dr)))
  else aq (⟨(yY i.p B i.inst (zF (!i.sd))).1.dm,min q (yY i.p B i.inst (zF (!i.sd))).1.dr,am,kO i.p B i.inst (zF (!i.sd)) (min q (yY i.p B i.inst (zF (!i.sd))).1.dr)⟩,jE B (kO i.p B i.inst (zF (!i.sd)) (min q (yY i.p B i.inst (zF (!i.sd))).1.dr)))else ar):=rfl
 generalize yY i.p B i.inst (zF (!i.sd))=nb at hni Fc ⊢;refine W_ (λn1=> ?_) (λn1=>⟨⟨i.sd,i.dm,nb.1.dm⟩,rfl,rfl,rfl,Y_,λ_ _=>W_ (λn2=> ?_) (λn2=> ?_)⟩)
 ·have n1:nb.2.2=am:=i9 n1
  rw[n1,eg (by simp)]at Fc;exact Bl (.inr Fc)
 ·have n2:aZ i.sd i.dm nb.1.dm=am:=i9 n2
  rw[n2,eg (by simp)]at Fc;exact Bl (.inr Fc)
 have n1:nb.2.2=ao:=i9 n1
 have n2:aZ i.sd i.dm nb.1.dm=ao:=i9 n2
 obtain⟨⟨b1,b2⟩,hi,hr⟩:=hni n1;rw[n1,n2,jt b1,fh (by rfl)]at Fc;have hk:gx (min q nb.1.dr):=by constructor<;>omega
 have zc:(st.length+1)*48<=140737488355328:=X_
 have beh:∀(t:wY) (B':Q_ zK) (s':gz),aI i.p B i.inst i.sd i.dm q=aq (t,B')->s'.ga i.p B'->jf i.p B'->B'.length=B.length->
  (s'.ga i.p B'/\jf i.p B'/\B'.length=i.B.length/\(0<=q-t.dr/\q-t.dr<=i.q)/\((st++[t]).length:Int)<=i.q-(q-t.dr)/\i.r=⟨(st++[t])++(vO i.p B' i.inst i.sd i.dm (q-t.dr)).steps,(vO i.p B' i.inst i.sd i.dm (q-t.dr)).left,(vO i.p B' i.inst i.sd i.dm (q-t.dr)).B⟩)/\(q-t.dr).toNat<q.toNat:=by
  intro t B' s' h1 h2 h3 h4;have ht:=PC oM h1;refine⟨⟨h2,h3,oM,⟨oM,oM⟩,by rw[ix,Bh];omega,?_⟩,oM⟩;rw[ZB X_ h1]at r6;rw[r6,jd];rfl
 refine W_ (λn3=> ?_) (λn3=> ?_)
 ·obtain⟨_,ok⟩:=hi n3;rw[n3,fh rfl]at Fc;have oka:=ok.a;have okb:=ok.b;rw[ib]at oka okb;have ea:=dP ok.sa;have eb:=dP ok.sb;refine⟨⟨s,i.p,B,nb.1.a.inst,decide (nb.1.a.side=2),min q nb.1.dr⟩,rfl,ea,rfl,rfl,⟨r1,r2,oka.1,oka.2,hk⟩,λs1 um=> ?_⟩;dsimp only at um ⊢;rw[ea]at um ⊢;have l1:=sC (p:=i.p) r1.oA nb.1.a.inst nb.1.a.side (min q nb.1.dr);have Pd:=r2.takes (fs:=kO i.p B nb.1.a.inst nb.1.a.side (min q nb.1.dr));have l2:=sC (p:=i.p) um.oA nb.1.b.inst nb.1.b.side (min q nb.1.dr);refine⟨Y_,by rw[ib];omega,⟨s1,i.p,jE B (kO i.p B nb.1.a.inst nb.1.a.side (min q nb.1.dr)),nb.1.b.inst,decide (nb.1.b.side=2),min q nb.1.dr⟩,rfl,eb,rfl,rfl,⟨um,Pd,okb.1,by dsimp only;rw[gG];exact okb.2,hk⟩,λs2 zd=> ?_⟩;dsimp only at zd ⊢;rw[eb]at zd ⊢;obtain⟨g1,g2⟩:=beh _ _ s2 Fc zd Pd.takes (by rw[gG,gG]);refine⟨Y_,by rw[ib,ib];omega,by rw[ib];exact zc,⟨s2,_,st++[_],_⟩,?_,rfl,?_,g1,g2,gj⟩
  ·dsimp only;rw[iw X_]
  ·dsimp only;rw[jh,n3];simp[vG]
 ·rw[n3,eg (by decide)]at Fc;refine⟨i.sd,rfl,Y_,λ_ _=>⟨rfl,⟨s,i.p,B,i.inst,!i.sd,min q nb.1.dr⟩,iP ⟨rfl,⟨r1,r2,h0,Z9,hk⟩,λs1 um=> ?_⟩⟩⟩;dsimp only at um ⊢;obtain⟨g1,g2⟩:=beh _ _ s1 Fc um r2.takes (by rw[gG]);refine⟨by rw[ib];exact zc,⟨s1,_,st++[_],_⟩,?_,rfl,?_,g1,g2,gj⟩
  ·dsimp only;rw[iw X_]
  ·dsimp only;rw[jh,n3];simp[vG]
def yCe:Tc.ok Z_ 97:=gy mixed (dw y1d (dw zWp (dw z4x (dw yUp fk)))) 2 i6 (λ_=>xIe) [0] func97 xIw
def yTm {L:List zK} {s id p q:Int} {o:zK} (h:o∈Iw L s id p q):o.dm=p\/∃o'∈L,o.dm=o'.dm:=by
 have key:∀X:List zK,(o∈X.takeWhile (before s p)++⟨id,s,p,q,fU L s p⟩::X.dropWhile (before s p))->o.dm=p\/o∈X:=by
  intro X hX;rcases oH.1 hX with hX|hX
  ·exact .inr (List.takeWhile_sublist _|>.subset hX)
  ·rcases j'.1 hX with rfl|hX
   ·exact .inl rfl
   ·exact .inr (List.dropWhile_sublist _|>.subset hX)
 rw[Iw]at h;split at h
 ·rcases key _ h with h|h
  ·exact .inl h
  ·obtain⟨o',oK,_,_,e,_⟩:=yFm h;exact .inr ⟨o',oK,e⟩
 ·rcases key _ h with h|h
  ·exact .inl h
  ·exact .inr ⟨o,h,rfl⟩
def jf.add {p:fj} {B:Q_ zK} (h:jf p B) (inst id s dm q:Int):jf p (Iz p B inst id s dm q).1:=by
 rw[Iz];split
 ·exact h
 split
 ·exact h
 split
 ·exact h
 split
 ·exact h
 rename_i c1 _ _ c4;have c4:p.dm inst dm=0:=i9 c4
 refine⟨h.pc,h.ps,by simpa using h.bl,λk L hL o ho=> ?_⟩;dsimp only at hL;rcases mI hL with⟨rfl,rfl⟩|⟨_,hL⟩
 ·obtain⟨L',Kx⟩:=zZ (l:=B) (i:=inst.toNat) oM;rw[zX Kx,CC]at ho;have e:((inst.toNat:Nat):Int)=inst:=X_
  repeat' split at ho
  ·exact h.pr _ L' Kx o ho
  ·exact h.pr _ L' Kx o ho
  ·exact h.pr _ L' Kx o ho
  ·rcases yTm ho with h1|⟨o',oK,h1⟩
   ·rw[h1,e];exact c4
   ·rw[h1];exact h.pr _ L' Kx o' oK
 ·exact h.pr k L hL o ho
def jf.new {p:fj} (hc:p.check=0) (hp:p.small):jf p (ab p.count []):=by
 refine⟨hc,hp,by simp,λk L hL o ho=> ?_⟩;rw[XS (kx hL)]at ho;cases ho
def gz.ga.fit {s:gz} {p:fj} {B:Q_ zK} (h:s.ga p B) (hb:jf p B):s.fit:=by
 have:=y8 p;refine⟨by rw[h.ep];exact hb.ps,by rw[h.bl,hb.bl];omega,λb hm=> ?_⟩;obtain⟨k,hk⟩:=BB.1 hm;have gr:=(jk.1 hk).1;rw[h.bl]at gr;obtain⟨L,hL⟩:=zZ gr;exact(h.bk k b L hk hL).fit
def HC (r:Nat):Bool:=decide (32<=r) && decide (r≠127) && decide (r≠65533)
def cG (s:i4):Bool:=(jW s).all HC && decide (1<=(jW s).length) && decide ((jW s).length<=12)
def Tq:gh:=fp i4 (λs=>[sV s]) i6 (λs=>s.length<=140737488355328) (λs=>yM (cG s)) i6
def xKd (s:i4):List gu:=[{ι:=Nat×Nat,du:=λx=>[(3,zB x.2),(7,.nm 0 0)],rows:=λx=>[.iter (sb s) x.1]}]
def uP (n:Int):Bool:=decide (-2000000<=n) && decide (n<=2000000)
def jF (n:Int):Bool:=decide (1<=n) && decide (n<=1000000)
def ir.gm (c:ir):Int:=
 if c.side≠1/\c.side≠2 then 21 else if c.time<1\/3<c.time then 27 else if jF c.dr=am then 24 else if c.least<0\/c.dr<c.least then 28
 else if c.label≠[]/\cG c.label=am then 29 else if uP c.dm=am then 23 else if c.inst<0\/255<c.inst then 20 else 0
def ir.right (c:ir):Int:=
 if c.kind<1\/4<c.kind then 31 else if c.id<1\/1099511627776<c.id then 1 else if c.kind=1 then c.gm
 else if c.kind≠2/\jF c.dr=am then 24 else if c.kind=4/\uP c.dm=am then 23 else 0
def Ea:gh:=fp ir (λc=>[Dp c]) i6 (λc=>c.label.length<=140737488355328) (λc=>zB c.gm) i6
def G5:gh:=fp ir (λc=>[Dp c]) i6 (λc=>c.label.length<=140737488355328) (λc=>zB c.right) i6
def xDx (s:i4):Prop:=
 ∃(a:Nat×Nat),(a.snd:Int)=0/\sb s=sb s/\a.fst=0/\∃(b:Nat×Nat->Prop),∃(c:Nat×Nat->Nat),b a/\∀(d:Nat×Nat),b d->dp (d.fst.blt (sb s).size) (dp (decide ((qT s d)<32)) (dx (cG s=am/\True)) (dp ((qT s d)==127) (dx (cG s=am/\True)) (dp ((qT s d)==65533) (dx (cG s=am/\True)) (bR d s b c)))) (dp (decide ((d.snd:Int)>=1)) (dx (cG s=decide ((d.snd:Int)<=12)/\True)) (dx (cG s=am/\True)))
def zNj (a:ir):Prop:=∃(b:i4),sb b=sb a.label/\b.length<=140737488355328/\ff (dp (!cG b) (dx (a.gm=29/\True)) (dp (decide (a.dm>=(-2000000))) (dp (!decide (a.dm<=2000000)) (dx (a.gm=23/\True)) (dp (decide (a.inst<0)) (dx (a.gm=20/\True)) (dp (decide (a.inst>255)) (dx (a.gm=20/\True)) (dx (a.gm=0/\True))))) (dx (a.gm=23/\True))))
def y4t (c:ir):Prop:=
 dp (c.side !=1) (dp (c.side !=2) (dx (c.gm=21/\True)) (dp (decide (c.time<1)) (dx (c.gm=27/\True)) (dp (decide (c.time>3)) (dx (c.gm=27/\True)) (dp (decide (c.dr>=1)) (dp (!decide (c.dr<=1000000)) (dx (c.gm=24/\True)) (dp (decide (c.least<0)) (dx (c.gm=28/\True)) (dp (decide (c.least>c.dr)) (dx (c.gm=28/\True)) (dp (!(sb c.label).toList==(ByteArray.mk #[]).toList) (zNj c) (dp (decide (c.dm>=(-2000000))) (dp (!decide (c.dm<=2000000)) (dx (c.gm=23/\True)) (dp (decide (c.inst<0)) (dx (c.gm=20/\True)) (dp (decide (c.inst>255)) (dx (c.gm=20/\True)) (dx (c.gm=0/\True))))) (dx (c.gm=23/\True))))))) (dx (c.gm=24/\True)))))) (dp (decide (c.time<1)) (dx (c.gm=27/\True)) (dp (decide (c.time>3)) (dx (c.gm=27/\True)) (dp (decide (c.dr>=1)) (dp (!decide (c.dr<=1000000)) (dx (c.gm=24/\True)) (dp (decide (c.least<0)) (dx (c.gm=28/\True)) (dp (decide (c.least>c.dr)) (dx (c.gm=28/\True)) (dp (!(sb c.label).toList==(ByteArray.mk #[]).toList) (zNj c) (dp (decide (c.dm>=(-2000000))) (dp (!decide (c.dm<=2000000)) (dx (c.gm=23/\True)) (dp (decide (c.inst<0)) (dx (c.gm=20/\True)) (dp (decide (c.inst>255)) (dx (c.gm=20/\True)) (dx (c.gm=0/\True))))) (dx (c.gm=23/\True))))))) (dx (c.gm=24/\True)))))
def yOe (c:ir):Prop:=
 dp (decide (c.kind<1)) (dx (c.right=31/\True)) (dp (decide (c.kind>4)) (dx (c.right=31/\True)) (dp (decide (c.id<1)) (dx (c.right=1/\True)) (dp (decide (c.id>1099511627776)) (dx (c.right=1/\True)) (dp (c.kind==1) (∃(a:ir),Qd a c (a.label.length<=140737488355328/\ff (dx (c.right=a.gm/\True)))) (dp (c.kind !=2) (dp (decide (c.dr>=1)) (dp (!decide (c.dr<=1000000)) (dx (c.right=24/\True)) (dp (c.kind==4) (dp (decide (c.dm>=(-2000000))) (dp (!decide (c.dm<=2000000)) (dx (c.right=23/\True)) (dx (c.right=0/\True))) (dx (c.right=23/\True))) (dx (c.right=0/\True)))) (dx (c.right=24/\True))) (dp (c.kind==4) (dp (decide (c.dm>=(-2000000))) (dp (!decide (c.dm<=2000000)) (dx (c.right=23/\True)) (dx (c.right=0/\True))) (dx (c.right=23/\True))) (dx (c.right=0/\True))))))))
def xJn (s:i4) (h:Tq.dp s):xDx s:=by
 have h:s.length<=140737488355328:=h;have hr:=ZX s;unfold xDx dx qT bR;refine⟨(0,0),rfl,rfl,rfl,λx=>x.1<=s.length/\x.2+(fA s x.1).length=(jW s).length/\(jW s).all HC=(fA s x.1).all λx=>HC x.2,λx=>s.length-x.1,⟨oM,by rw[jW,ib];simp,by rw[jW,List.all_map];rfl⟩,?_⟩;rintro⟨p,n⟩ ⟨h1,h2,h3⟩;dsimp only at h1 h2 h3 ⊢;refine W_ (λhp=> ?_) (λhp=> ?_)
 ·have hp:p<s.length:=by simpa[yx]using hp
  have hw:=aT s hp;rw[wM hp,iG]at h2;rw[wM hp,List.all_cons]at h3;generalize hc:(Utf8.decode (sb s) p).1=c at h2 h3 ⊢;generalize Yb:(Utf8.decode (sb s) p).2=w at h2 h3 hw ⊢;dsimp only at h3;have bad:HC c=am->∃(o:Unit),cG s=am/\True:=λe=>⟨(),by rw[cG,h3,e];rfl,Y_⟩
  refine zH (λc1=>bad ?_) (λc1=>W_ (λc2=>bad ?_) (λc2=>W_ (λc3=>bad ?_) (λc3=> ?_)))
  ·simp[HC];omega
  ·have c2:(c:Int)=127:=i9 c2
   simp[HC];omega
  ·have c3:(c:Int)=65533:=i9 c3
   simp[HC];omega
  ·have c2:¬(c:Int)=127:=i9 c2
   have c3:¬(c:Int)=65533:=i9 c3
   have e:HC c=ao:=by simp[HC];omega
   refine⟨(p+w,n+1),?_,rfl,rfl,⟨hw.2,by(first|omega|(dsimp only;omega)),by rw[h3,e];rfl⟩,by(first|omega|(dsimp only;omega)),Y_⟩;rw[iw X_];rfl
 ·have hp:s.length<=p:=by have:=Xz hp;simpa using this
  rw[uY hp]at h2 h3;have h2:n=(jW s).length:=h2;have h3:(jW s).all HC=ao:=h3;refine zH (λc=>⟨(),?_,Y_⟩) (λc=>⟨(),?_,Y_⟩)
  ·rw[cG,h3,<- h2,jt (show 1<=n by omega)];simp only[AA];congr 1;simp only[eq_iff_iff];omega
  ·rw[cG,<- h2,ju (show ¬1<=n by omega)];simp
def y7p:Tq.ok Z_ 244:=gy mixed fk 0 i6 (λs=>xKd s) [] func244 xJn
def xKf (a b:Int):(a==b)=decide (a=b):=by
 by_cases h:a=b
 ·subst h;simp
 ·simp[h]
def xFj (a b:Int):(a !=b)=decide (a≠b):=by
 by_cases h:a=b
 ·subst h;simp
 ·simp[h]
def eqB (a b:i4):((sb a).toList==(sb b).toList)=decide (a=b):=by
 rw[sZ,sZ];by_cases h:a=b
 ·subst h;simp
 ·simp[h]
def y7m:ByteArray.mk #[]=sb []:=rfl
def xDr (c:ir) (h:Ea.dp c):y4t c:=by
 have h:c.label.length<=140737488355328:=h;unfold y4t dx zNj ff dx;simp only[y7m,eqB,xFj];have tail:¬(c.side≠1/\c.side≠2)->dp (decide (c.time<1)) (∃(o:Unit),c.gm=27/\True) (dp (decide (c.time>3)) (∃(o:Unit),c.gm=27/\True) (dp (decide (c.dr>=1)) (dp (!decide (c.dr<=1000000)) (∃(o:Unit),c.gm=24/\True) (dp (decide (c.least<0)) (∃(o:Unit),c.gm=28/\True) (dp (decide (c.least>c.dr)) (∃(o:Unit),c.gm=28/\True) (dp (!decide (c.label=[])) (∃(i:i4),sb i=sb c.label/\i.length<=140737488355328/\∀(o:Unit),True->dp (!cG i) (∃(o:Unit),c.gm=29/\True) (dp (decide (c.dm>=-2000000)) (dp (!decide (c.dm<=2000000)) (∃(o:Unit),c.gm=23/\True) (dp (decide (c.inst<0)) (∃(o:Unit),c.gm=20/\True) (dp (decide (c.inst>255)) (∃(o:Unit),c.gm=20/\True) (∃(o:Unit),c.gm=0/\True)))) (∃(o:Unit),c.gm=23/\True))) (dp (decide (c.dm>=-2000000)) (dp (!decide (c.dm<=2000000)) (∃(o:Unit),c.gm=23/\True) (dp (decide (c.inst<0)) (∃(o:Unit),c.gm=20/\True) (dp (decide (c.inst>255)) (∃(o:Unit),c.gm=20/\True) (∃(o:Unit),c.gm=0/\True)))) (∃(o:Unit),c.gm=23/\True)))))) (∃(o:Unit),c.gm=24/\True))):=by
  intro hs;have e1:c.gm=if c.time<1\/3<c.time then 27 else if jF c.dr=am then 24 else if c.least<0\/c.dr<c.least then 28
   else if c.label≠[]/\cG c.label=am then 29 else if uP c.dm=am then 23 else if c.inst<0\/255<c.inst then 20 else 0:=by rw[ir.gm,eg hs]
  refine zH (λd1=>⟨(),by rw[e1,fh (.inl d1)],Y_⟩) λd1=>zH (λd2=>⟨(),by rw[e1,fh (.inr d2)],Y_⟩) λd2=> ?_
  rw[eg X_]at e1;have q (hq:jF c.dr=am):∃(o:Unit),c.gm=24/\True:=⟨(),by rw[e1,fh hq],Y_⟩
  refine zH (λd3=>W_ (λd4=>q ?_) λd4=> ?_) λd3=>q ?_
  ·have d4:¬c.dr<=1000000:=i9 d4
   simp[jF,d4]
  ·have d4:c.dr<=1000000:=i9 d4
   have hq:¬jF c.dr=am:=by simp[jF,d4];omega
   rw[eg hq]at e1;refine zH (λd5=>⟨(),by rw[e1,fh (.inl d5)],Y_⟩) λd5=>zH (λd6=>⟨(),by rw[e1,fh (.inr d6)],Y_⟩) λd6=> ?_
   rw[eg X_]at e1;have last:¬(c.label≠[]/\cG c.label=am)->dp (decide (c.dm>=-2000000)) (dp (!decide (c.dm<=2000000)) (∃(o:Unit),c.gm=23/\True) (dp (decide (c.inst<0)) (∃(o:Unit),c.gm=20/\True) (dp (decide (c.inst>255)) (∃(o:Unit),c.gm=20/\True) (∃(o:Unit),c.gm=0/\True)))) (∃(o:Unit),c.gm=23/\True):=by
    intro hl;rw[eg hl]at e1;have pr (hq:uP c.dm=am):∃(o:Unit),c.gm=23/\True:=⟨(),by rw[e1,fh hq],Y_⟩
    refine zH (λg1=>W_ (λg2=>pr ?_) λg2=> ?_) λg1=>pr ?_
    ·have g2:¬c.dm<=2000000:=i9 g2
     simp[uP,g2]
    ·have g2:c.dm<=2000000:=i9 g2
     have hp:¬uP c.dm=am:=by simp[uP,g2];omega
     rw[eg hp]at e1;refine zH (λg3=>⟨(),by rw[e1,fh (.inl g3)],Y_⟩) λg3=>zH (λg4=>⟨(),by rw[e1,fh (.inr g4)],Y_⟩) λg4=>⟨(),by rw[e1,eg X_],Y_⟩
    ·simp[uP];omega
   refine W_ (λd7=>⟨c.label,rfl,h,λ_ _=>W_ (λd8=> ?_) λd8=>last ?_⟩) λd7=>last ?_
   ·have d7:¬c.label=[]:=i9 d7
    have d8:cG c.label=am:=i9 d8
    exact⟨(),by rw[e1,fh ⟨d7,d8⟩],Y_⟩
   ·have d8:cG c.label=ao:=i9 d8
    simp[d8]
   ·have d7:c.label=[]:=i9 d7
    simp[d7]
  ·simp[jF];omega
 refine zH (λc1=>zH (λc2=>⟨(),by rw[ir.gm,fh ⟨c1,c2⟩],Y_⟩) λc2=>tail ?_) λc1=>tail ?_
 ·omega
 ·omega
def y2b:Ea.ok Z_ 192:=gy mixed (dw y7p fk) 1 i6 i6 [] func192 xDr
def y6s (c:ir) (h:G5.dp c):yOe c:=by
 have h:c.label.length<=140737488355328:=h;unfold yOe Qd ff dx;simp only[xKf,xFj];refine zH (λc1=>⟨(),by rw[ir.right,fh (.inl c1)],Y_⟩) λc1=>zH (λc2=>⟨(),by rw[ir.right,fh (.inr c2)],Y_⟩) λc2=> ?_
 refine zH (λc3=>⟨(),by rw[ir.right,eg X_,fh (.inl c3)],Y_⟩) λc3=>zH (λc4=>⟨(),by rw[ir.right,eg X_,fh (.inr c4)],Y_⟩) λc4=> ?_
 have e0:c.right=if c.kind=1 then c.gm else if c.kind≠2/\jF c.dr=am then 24 else if c.kind=4/\uP c.dm=am then 23 else 0:=by rw[ir.right,eg X_,eg X_]
 refine zH (λc5=>⟨c,?_⟩) λc5=> ?_
 ·rw[fh c5]at e0;exact kp
 rw[eg c5]at e0;have last (hn:¬(c.kind≠2/\jF c.dr=am)):dp (decide (c.kind=4)) (dp (decide (c.dm>=-2000000)) (dp (!decide (c.dm<=2000000)) (∃(o:Unit),c.right=23/\True) (∃(o:Unit),c.right=0/\True)) (∃(o:Unit),c.right=23/\True)) (∃(o:Unit),c.right=0/\True):=by
  rw[eg hn]at e0;refine zH (λd1=>zH (λd2=>W_ (λd3=> ?_) λd3=> ?_) λd2=> ?_) λd1=> ?_
  ·have d3:¬c.dm<=2000000:=i9 d3
   exact⟨(),by rw[e0,fh ⟨d1,by simp[uP,d3]⟩],Y_⟩
  ·have d3:c.dm<=2000000:=i9 d3
   exact⟨(),by rw[e0,eg (by simp[uP,d3];omega)],Y_⟩
  ·exact⟨(),by rw[e0,fh ⟨d1,by simp[uP];omega⟩],Y_⟩
  ·exact⟨(),by rw[e0,eg (by simp[d1])],Y_⟩
 refine zH (λd1=>zH (λd2=>W_ (λd3=> ?_) λd3=>last ?_) λd2=> ?_) λd1=>last ?_
 ·have d3:¬c.dr<=1000000:=i9 d3
  exact⟨(),by rw[e0,fh ⟨d1,by simp[jF,d3]⟩],Y_⟩
 ·have d3:c.dr<=1000000:=i9 d3
  simp[jF,d3];omega
 ·exact⟨(),by rw[e0,fh ⟨d1,by simp[jF];omega⟩],Y_⟩
 ·omega
def Y8:G5.ok Z_ 112:=gy mixed (dw y2b fk) 1 i6 i6 [] func112 y6s
structure zp where
 s:gz
 p:fj
 B:Q_ zK
 inst:Int
 sd:Bool
@[reducible] def zp.ok (i:zp):Prop:=i.s.ga i.p i.B/\i.B.length<=1000
def CW (B:Q_ zK) (inst:Int):List zK:=if inst<0 then[]else B.getD inst.toNat []
def Hk:gh:=fp zp (λi=>[.nm 0 0,zB i.inst]) (λi=>[zE i.s]) (λi=>i.ok) (λ_=> .own 1) (λi=>[zE i.s,.own 174 5 ((CW i.B i.inst).map wT)])
def KK:gh:=fp zp (λi=>[.nm 0 0,zB i.inst,zB (zF i.sd)]) (λi=>[zE i.s]) (λi=>i.ok) (λ_=> .own 1) (λi=>[zE i.s,.own 135 3 ((uF (CW i.B i.inst) (zF i.sd)).map iq)])
def zAd (a:zp):Prop:=dx (Qc a.s.p (dk (ae 160 dq 6 zR a.s.ez ar)/\QI a.s (aa wT (CW a.B a.inst)=[]/\True)))
def z5f (i:zp):Prop:=
 dp (decide (i.inst>=0)) (dp (!decide (i.inst<(i.s.ez.length:Int))) (zAd i) ((0<=i.inst/\i.inst<(i.s.ez.length:Int))/\i.inst.toNat<i.s.ez.length/\∃(a:dq),i.s.ez[i.inst.toNat]?=aq a/\∃(b:Im),yA b.b=yA a/\b.b.ga b.L/\ff (∃(d:dq),yA b.b=yA d/\DK i.inst i.s.ez (dx (Qc i.s.p (ae 160 dq 6 zR i.s.ez ar=ae 160 dq 6 zR (i.s.ez.set i.inst.toNat d) ar/\QI i.s (aa wT (CW i.B i.inst)=aa wT b.L/\True))))))) (zAd i)
def bK (a:zp):=(uF (CW a.B a.inst) (zF a.sd))
def zMl (a:zp):Prop:=dx (Qc a.s.p (dk (ae 160 dq 6 zR a.s.ez ar)/\QI a.s (aa iq (bK a)=[]/\True)))
def y4u (i:zp):Prop:=
 dp (decide (i.inst>=0)) (dp (!decide (i.inst<(i.s.ez.length:Int))) (zMl i) ((0<=i.inst/\i.inst<(i.s.ez.length:Int))/\i.inst.toNat<i.s.ez.length/\∃(a:dq),i.s.ez[i.inst.toNat]?=aq a/\∃(b:BkT),zF b.s=zF i.sd/\yA b.b=yA a/\b.b.ga b.L/\ff (∃(d:dq),yA b.b=yA d/\DK i.inst i.s.ez (dx (Qc i.s.p (ae 160 dq 6 zR i.s.ez ar=ae 160 dq 6 zR (i.s.ez.set i.inst.toNat d) ar/\QI i.s (aa iq (bK i)=aa iq (uF b.L (zF b.s))/\True))))))) (zMl i)
def yDz {B:Q_ zK} {inst:Int} {L:List zK} (h0:0<=inst) (hL:B[inst.toNat]? =aq L):CW B inst=L:=by
 rw[CW,eg X_,zX hL]
def yHt {B:Q_ zK} {inst:Int} (h:inst<0\/(B.length:Int)<=inst):CW B inst=[]:=by
 rw[CW];split
 ·rfl
 ·rw[mz,uv X_];rfl
def xHo (i:zp) (h:Hk.dp i):z5f i:=by
 obtain⟨hR,hB⟩:i.s.ga i.p i.B/\i.B.length<=1000:=h;have Aj:=hR.bl;have out (hx:i.inst<0\/(i.B.length:Int)<=i.inst):aa wT (CW i.B i.inst)=[]:=by
  rw[yHt hx];rfl
 unfold z5f QI Qc DK ff dx zAd QI Qc dx;refine zH (λc=>W_ (λd=> ?_) (λd=> ?_)) (λc=> ?_)
 ·have d:¬i.inst<(i.s.ez.length:Int):=i9 d
  rw[out (.inr X_)];exact⟨(),gj⟩
 ·have d:i.inst<(i.s.ez.length:Int):=i9 d
  obtain⟨b,hb⟩:=zZ (l:=i.s.ez) (i:=i.inst.toNat) oM;obtain⟨L,hL⟩:=zZ (l:=i.B) (i:=i.inst.toNat) oM;refine⟨⟨c,d⟩,oM,b,hb,⟨b,L⟩,rfl,hR.bk _ b L hb hL,λ_ _=>⟨b,rfl,rfl,oM,?_⟩⟩;rw[jK hb,yDz c hL];exact⟨(),gj⟩
 ·rw[out (.inl X_)];exact⟨(),gj⟩
def xFn (i:zp) (h:KK.dp i):y4u i:=by
 obtain⟨hR,hB⟩:i.s.ga i.p i.B/\i.B.length<=1000:=h;have Aj:=hR.bl;have out (hx:i.inst<0\/(i.B.length:Int)<=i.inst):aa iq (uF (CW i.B i.inst) (zF i.sd))=[]:=by
  rw[yHt hx];rfl
 unfold y4u QI Qc DK ff dx zMl QI Qc dx bK;refine zH (λc=>W_ (λd=> ?_) (λd=> ?_)) (λc=> ?_)
 ·have d:¬i.inst<(i.s.ez.length:Int):=i9 d
  rw[out (.inr X_)];exact⟨(),gj⟩
 ·have d:i.inst<(i.s.ez.length:Int):=i9 d
  obtain⟨b,hb⟩:=zZ (l:=i.s.ez) (i:=i.inst.toNat) oM;obtain⟨L,hL⟩:=zZ (l:=i.B) (i:=i.inst.toNat) oM;refine⟨⟨c,d⟩,oM,b,hb,⟨b,L,i.sd⟩,rfl,rfl,hR.bk _ b L hb hL,λ_ _=>⟨b,rfl,rfl,oM,?_⟩⟩;rw[jK hb,yDz c hL];exact⟨(),gj⟩
 ·rw[out (.inl X_)];exact⟨(),gj⟩
def yEm:KK.ok Z_ 80:=gy mixed (dw xAc fk) 1 i6 i6 [0] func80 xFn
def JZ (s:Int) (F:List zK):Prop:=F.Pairwise λo o'=>jo s o'.dm o.dm=am
def FD (L:List zK) (s:Int):List zK:=L.filter λo=>decide (o.side=s)
structure rz (p:fj) (B:Q_ zK):Prop where
 ok:jf p B
 od:Xd B
 ub:((sw 0 B).map (·.1)).Nodup
 xw:∀(k:Nat) (L:List zK),B[k]? =aq L->∀s,s=1\/s=2->JZ s (FD L s)
def z5b {s:Int} {b:dq} {Q:Q_ Nat}:∀{R:List xX},(R.Pairwise λr r'=>jo s r.dm r'.dm=ao)->JZ s (R.flatMap (b.ig Q s))
 |[],_=>List.Pairwise.nil
 |r::R,h=>by
  rw[zg]at h;rw[vw,JZ,List.pairwise_append];refine⟨List.pairwise_of_forall_mem_list λo ho o' oK=> ?_,z5b h.2,λo ho o' oK=> ?_⟩
  ·rw[(qZ ho).2,(qZ oK).2];exact N6 _ _
  ·obtain⟨r',oy,oK⟩:=Bf.1 oK;rw[(qZ ho).2,(qZ oK).2];exact z5r (h.1 r' oy)
def dq.ga.xw {b:dq} {L:List zK} (h:b.ga L) {s:Int} (hs:s=1\/s=2):JZ s (FD L s):=by
 obtain⟨Q,c,ht,rfl⟩:=h;rw[FD,zXw hs];exact z5b (c.xw s hs)
def gz.ga.wf {s:gz} {p:fj} {B:Q_ zK} (h:s.ga p B) (hb:jf p B):rz p B:=by
 refine⟨hb,h.oA,h.ids,λk L hL=> ?_⟩;obtain⟨b,hb⟩:=zZ (l:=s.ez) (i:=k) (by rw[h.bl];exact(jk.1 hL).1);exactλs hs=>(h.bk k b L hb hL).xw hs
def yNp {L:List zK} (h:∀o∈L,Lx o) (hn:(L.map (·.id)).Nodup) (id q:Int):∀o∈(qK L id q).1,Lx o:=by
 intro o ho;rw[qK]at ho;split at ho
 ·exact h o ho
 split at ho
 ·exact h o ho
 rename_i hb;obtain⟨o',oK,e⟩:=OD.1 ho;have h0:=h o' oK;split at e
 ·rename_i e1;have hg:=eO hn oK;rw[e1]at hg;rw[hg]at hb;split at e
  ·cases e
  ·rename_i e2;cases e;have:=h0.q;exact⟨h0.s,Z9⟩
 ·cases e;exact h0
def yRf (L:List zK) (id q:Int):(qK L id q).1.length<=L.length:=by
 rw[qK];split
 ·exact jx _
 split
 ·exact jx _
 exact List.length_filterMap_le _ _
def yTs {L:List zK} {s:Int} (h:JZ s (FD L s)) (id q:Int):JZ s (FD (qK L id q).1 s):=by
 rw[qK];split
 ·exact h
 split
 ·exact h
 have e:FD (wZ L id q) s=wZ (FD L s) id q:=by
  rw[FD,FD,wZ,wZ,List.filter_filterMap,List.filterMap_filter];refine nU λo _=> ?_
  by_cases e1:o.id=id
  ·rw[fh e1];by_cases e2:o.dr=q
   ·rw[fh e2];simp
   ·rw[eg e2];by_cases e3:o.side=s<;>simp[Option.filter,e3]
  ·rw[eg e1];by_cases e3:o.side=s<;>simp[Option.filter,e3]
 rw[e,wZ];refine List.Pairwise.filterMap _ (λa a' haa b hb b' AL=> ?_) h;have g:∀{a b:zK},(if a.id=id then(if a.dr=q then ar else aq {a with dr:=a.dr-q})else aq a)=aq b->b.dm=a.dm:=by
  intro a b e;split at e
  ·split at e
   ·cases e
   ·cases e;rfl
  ·cases e;rfl
 rw[g hb,g AL];exact haa
def yXi {B:Q_ zK} (h:((sw 0 B).map (·.1)).Nodup) {k:Nat} {L L':List zK} (hL:B[k]? =aq L) (hs:(L'.map (·.id)).Sublist (L.map (·.id))):((sw 0 (B.set k L')).map (·.1)).Nodup:=by
 have hk:=(jk.1 hL).1;obtain⟨rest,hr⟩:=UZ (B:=B) 0 k hk;have h0:=hr L;rw[jK hL]at h0;have h1:=(h0.map (·.1)).nodup_iff.1 h
 refine((hr L').map (·.1)).nodup_iff.2 ?_
 rw[jh,wx]at h1 ⊢;exact h1.sublist (List.Sublist.append hs (List.Sublist.refl _))
def rz.take {p:fj} {B:Q_ zK} (h:rz p B) (id q:Int):rz p (iR B id q).1:=by
 refine⟨h.ok.take id q,?_,?_,?_⟩
 all_goals
  rw[iR];cases hi:pK B id with
  |none=>first|exact h.od|exact h.ub|exact h.xw
  |some k=>
   obtain⟨L,hL,hh⟩:=uW hi;have ho:=h.od k L hL;dsimp only;rw[zX hL]
   first
   |(intro j M hM
     rcases mI hM with⟨rfl,rfl⟩|⟨_,hM⟩
     ·refine⟨yNp ho.1 ho.2.1 id q,?_,tz (yRf L id q) ho.2.2⟩;rcases Y4 ho.2.1 id q with⟨e,_⟩|⟨e,_⟩
      ·rw[e];exact ho.2.1
      ·rw[e];exact ho.2.1.sublist (List.Sublist.map _ RL)
     ·exact h.od j M hM)
   |(refine yXi h.ub hL ?_
     rcases Y4 ho.2.1 id q with⟨e,_⟩|⟨e,_⟩
     ·rw[e];exact List.Sublist.refl _
     ·rw[e];exact List.Sublist.map _ RL)
   |(intro j M hM s hs
     rcases mI hM with⟨rfl,rfl⟩|⟨_,hM⟩
     ·exact yTs (h.xw _ L hL s hs) id q
     ·exact h.xw j M hM s hs)
def rz.takes {p:fj}:∀{fs:List cX} {B:Q_ zK},rz p B->rz p (jE B fs)
 |[],B,h=>h
 |f::fs,B,h=>rz.takes (fs:=fs) (h.take f.id f.dr)
def zXy {p:fj} {B:Q_ zK} (h:rz p B) {inst:Int} {sd:Bool} {dm q:Int} {t:wY} {B':Q_ zK} (e:aI p B inst sd dm q=aq (t,B')):rz p B'/\B'.length=B.length:=by
 rw[aI]at e;dsimp only at e;split at e
 ·split at e
  ·cases e;exact⟨h.takes.takes,by rw[gG,gG]⟩
  ·cases e;exact⟨h.takes,by rw[gG]⟩
 ·cases e
def rU {p:fj} {inst:Int} {sd:Bool} {dm:Int}:∀(m:Nat) (q:Int) (B:Q_ zK),q.toNat<=m->rz p B->rz p (vO p B inst sd dm q).B/\(vO p B inst sd dm q).B.length=B.length/\(0<=q->0<=(vO p B inst sd dm q).left/\(vO p B inst sd dm q).left<=q)
 |m,q,B,hm,h=>by
  by_cases hq:q<=0
  ·rw[Ri (.inl hq)];exact⟨h,rfl,λx=>⟨x,yy _⟩⟩
  cases hs:aI p B inst sd dm q with
  |none=>
   rw[Ri (.inr hs)];exact⟨h,rfl,λx=>⟨x,yy _⟩⟩
  |some x=>
   obtain⟨t,C⟩:=x;obtain⟨k1,k2⟩:=zXy h hs;have uo:=PC oM hs;cases m with
   |zero=>omega
   |succ m=>
   obtain⟨i1,i2,i3⟩:=rU (p:=p) (inst:=inst) (sd:=sd) (dm:=dm) m (q-t.dr) C oM k1;rw[ZB X_ hs];exact⟨i1,i2.trans k2,λ_=>⟨(i3 oM).1,by dsimp only;have:=(i3 oM).2;omega⟩⟩
@[reducible] def oa.ok (i:oa):Prop:=i.s.ga i.p i.B/\jf i.p i.B/\(0<=i.inst/\i.inst<i.B.length)/\1<=i.q/\i.q<=1000000
def DW:gh:=fp oa (λi=>[.nm 0 0,zB i.inst,zB (zF i.sd),zB i.dm,zB i.q]) (λi=>[zE i.s]) (λi=>i.ok) (λi=>zB (i.q-i.r.left)) (λi=>[zE i.s])
def nB (p:fj) (B:Q_ zK) (inst:Int) (sd:Bool) (dm q:Int):Bool:=
 decide ((vO p B inst sd dm q).left≠0) && (kY ⟨p,(vO p B inst sd dm q).B.map qC,inst⟩ (zF (!sd))).any λx=>aZ sd dm x.dm
def Gz:gh:=fp oa (λi=>[.nm 0 0,zB i.inst,zB (zF i.sd),zB i.dm,zB i.q]) (λi=>[zE i.s]) (λi=>i.ok) (λi=>yM (nB i.p i.B i.inst i.sd i.dm i.q)) (λi=>[zE i.s])
def ET (B:Q_ zK):Nat:=(sw 0 B).length
def Cf:gh:=fp zp (λi=>[.nm 0 0]) (λi=>[zE i.s]) (λi=>i.ok) (λi=>zB (ET i.B)) (λi=>[zE i.s])
def cF (p:fj) (inst dm:Int):Int×Int×Int:=
 if(p.gp inst).2.2=am then(0,0,20)else if p.dm inst dm≠0 then(0,0,p.dm inst dm)else
 let Fj:=p.settle.getD (p.gp inst).2.1.toNat 0
 let a:=if p.high<Fj+dm then(p.high,p.high-dm)else(Fj+dm,Fj)
 if a.1<p.low then(p.low,p.low-dm,0)else(a.1,a.2,0)
structure Pp where
 p:fj
 inst:Int
 dm:Int
def Cc:gh:=fp Pp (λi=>[nv i.p,zB i.inst,zB i.dm]) i6 (λi=>i.p.check=0/\i.p.small/\gx i.dm) (λi=> .je [zB (cF i.p i.inst i.dm).1,zB (cF i.p i.inst i.dm).2.1,zB (cF i.p i.inst i.dm).2.2]) i6
def ijj (t u:Nat):gu:={ι:=Int×Int,du:=λn=>[(t,zB n.1),(u,zB n.2)],rows:=λ_=>[]}
def lpJ:List (Nat×gu):=[(50,ijj 15 14),(58,ijj 15 14)]
def y8a:List gu:=[{ι:=Nat,du:=λj=>[(40,zB j)],rows:=λ_=>[]}]
def xAm:List (Nat×gu):=[(8,{ι:=Unit,du:=λ_=>[],rows:=λ_=>[],Dy:=[11]})]
end Sx
