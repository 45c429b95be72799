/- Texts of ours. No condition. -/
import Derived.Test.YtgmmlhddihaocaaGreatH14
set_option linter.all false
namespace Sx
set_option maxRecDepth 100000
open Go Cv Go.Proofs
def z9r (c:ir) (h:c.right=0) (hl:c.label=[]):c.enc.length<=100:=yBa h hl
def y2f:(zS 0 NB.enc).2=0:=by decide+kernel
def y2l:(zS 1 NA.enc).2=0:=by decide+kernel
def yZw:(zS 2 K6.enc).2=0:=by decide+kernel
def yXy {O:List (Int×fy)} {k:Nat} {o:Int×fy} (h:O[k]? =some o):zF (O.map kG) k 1 8=some [D.v (.int .i64 o.2.kind),.v (.int .i64 o.2.id),.v (.int .i64 o.2.inst),.v (.int .i64 o.2.side),.v (.int .i64 o.2.dp),.v (.int .i64 o.2.dq),.v (.int .i64 o.2.left),.v (.int .i64 o.2.oD)]:=kf h (by simp[kG,yX]) rfl
def Bv.Ih {p:fj} {x:Es} {d:Dk} {s:Int} {b:List UInt8} {j:ph} (h:Bv p x d s b j) (hr:(zS s b).2=0):j.x=x.ed p s b/\j.d=⟨d.b++jA (lU s b),d.safe⟩/\j.O=(x.X p s b).O/\j.N=vJ x.q (x.M p s b):=by
 rcases h.c with⟨a0,_⟩|⟨_,a1,a2,a3,a4⟩
 ·exact absurd hr a0
 ·exact⟨a1,a2,a3,a4⟩
def vaw (p:fj) (h:awC.du p):Vaw p:=by
 have h:p=cY 2:=h;obtain⟨b1,qu⟩:∃b,NB.enc=b:=⟨_,rfl⟩
 obtain⟨b2,oG⟩:∃b,NA.enc=b:=⟨_,rfl⟩
 obtain⟨b3,C5⟩:∃b,K6.enc=b:=⟨_,rfl⟩
 have l1:b1.length<=100:=by rw[<- qu];exact z9r _ yXp rfl
 have l2:b2.length<=100:=by rw[<- oG];exact z9r _ yXz rfl
 have l3:b3.length<=100:=by rw[<- C5];exact z9r _ yYb rfl
 have r1:(zS 0 b1).2=0:=by rw[<- qu];exact y2f
 have r2:(zS 1 b2).2=0:=by rw[<- oG];exact y2l
 have r3:(zS 2 b3).2=0:=by rw[<- C5];exact yZw
 have q1:((wz p).X p 0 b1).O.length=1:=by rw[<- qu,h];exact xCe
 have q2:(((wz p).ed p 0 b1).X p 1 b2).O.length=1:=by rw[<- qu,<- oG,h];exact xAz
 have q3:((((wz p).ed p 0 b1).ed p 1 b2).X p 2 b3).O.length=6/\(((((wz p).ed p 0 b1).ed p 1 b2).X p 2 b3).O.getD 5 (0,⟨0,0,0,0,0,0,0,0⟩)).2=⟨3,3,0,1,505,4,5,0⟩/\((((wz p).ed p 0 b1).ed p 1 b2).M p 2 b3).length≠0:=by rw[<- qu,<- oG,<- C5,h];exact xBk
 have hc:p.check=0:=by rw[h];decide+kernel
 have hs:p.small:=by rw[h];exact z2e 2
 obtain⟨p1,p2,p3,p4,p5,p6,p7,p8,p9,PC,PB⟩:sb p.code=sb [67,76]/\iE p.dr=iE [320,321,323]/\p.tick=5/\p.low=0/\p.high=1000/\p.wide=200/\p.gw=2/\p.top=4/\p.least=2/\p.part=40/\iE p.settle=iE [500,505,490]:=by
  rw[h];exact(rn (jh rfl))
 clear h;have NR:jo p (wz p).B:=jo.new hc hs;unfold Vaw Q6 Qb W4 W3 fp ez Qc Qj Qk Qn Qt mE Vm Ut QK dX v8 cM cP fL dW z9n z8l z8f Q4 z7q Q4 yAi Q4 aK jC dI;refine⟨2,rfl,trivial,λ_ _=>⟨(),trivial,λ_ _=>⟨ic,⟨⟨p,0,[],[]⟩,p1,p2,p3,p4,p5,p6,p7,p8,p9,PC,PB,rfl,⟨⟨hc,hs⟩,⟨⟨λl hl=>(by cases hl),rfl,td rfl⟩,mg _,td rfl⟩,λr hr=>(by cases hr),td rfl⟩,λo WV=> ?_⟩⟩⟩⟩;have WV:o.fy p (wz p).B (wz p).U:=WV;have z0:(wz p).q=0:=rfl;have z1:(wz p).R.length=0:=rfl;have z2:([]:List UInt8).length=0:=rfl;refine⟨⟨wz p,o,⟨[],0⟩,[],[]⟩,iH (iH ⟨rfl,λj=>Bv p (wz p) ⟨[],0⟩ 0 b1 j,⟨NB,iH ⟨rfl,⟨rfl,yXp⟩,λ_ _=>⟨⟨o,wz p,p,⟨[],0⟩,0,b1⟩,rfl,by rw[qu],iH (iH ⟨rfl,⟨⟨WV,NR⟩,Z9,⟨td rfl,td rfl⟩,⟨Z9,Z9⟩,Z9,Z9⟩,λo9 hb=>⟨⟨wz p,o9,⟨[],0⟩,_,[]⟩,rfl,rfl,rfl,rfl,rfl,rfl,rfl,rfl,rfl,rfl,rfl,rfl,rfl,rfl,rfl,rfl,rfl,rfl,rfl,Bv.bad hb.2 NR hb.1,ic⟩,λo9 hg=>⟨⟨_,o9,_,_,_⟩,rfl,rfl,rfl,rfl,rfl,rfl,rfl,rfl,rfl,rfl,rfl,rfl,rfl,rfl,rfl,rfl,rfl,rfl,rfl,Bv.qn WV NR oM hg.1 hg.2,ic⟩⟩)⟩⟩⟩,?_⟩)⟩;rintro⟨x1,o1,d1,O1,N1⟩ Lp;obtain⟨⟨DY,wj,u1,u2,u3,u4,_,_⟩,_⟩:=id Lp;obtain⟨e1,_,e3,_⟩:=Lp.Ih r1;dsimp only at DY wj u1 u2 u3 u4 e1 e3 ⊢;refine⟨⟨x1,o1,d1,[],[]⟩,iH (iH ⟨rfl,λj=>Bv p (x1) d1 1 b2 j,⟨NA,iH ⟨rfl,⟨rfl,yXz⟩,λ_ _=>⟨⟨o1,x1,p,d1,1,b2⟩,rfl,by rw[oG],iH (iH ⟨rfl,⟨⟨DY,wj⟩,Z9,⟨td rfl,td rfl⟩,⟨Z9,Z9⟩,Z9,Z9⟩,λo9 hb=>⟨⟨x1,o9,d1,_,[]⟩,rfl,rfl,rfl,rfl,rfl,rfl,rfl,rfl,rfl,rfl,rfl,rfl,rfl,rfl,rfl,rfl,rfl,rfl,rfl,Bv.bad hb.2 wj hb.1,ic⟩,λo9 hg=>⟨⟨_,o9,_,_,_⟩,rfl,rfl,rfl,rfl,rfl,rfl,rfl,rfl,rfl,rfl,rfl,rfl,rfl,rfl,rfl,rfl,rfl,rfl,rfl,Bv.qn DY wj oM hg.1 hg.2,ic⟩⟩)⟩⟩⟩,?_⟩)⟩;rintro⟨x2,o2,d2,O2,N2⟩ NS;obtain⟨⟨hM3,WW,v1,v2,v3,v4,_,_⟩,_⟩:=id NS;obtain⟨f1,_,f3,_⟩:=NS.Ih r2;dsimp only at hM3 WW v1 v2 v3 v4 f1 f3 ⊢;refine⟨⟨x2,o2,d2,[],[]⟩,iH (iH ⟨rfl,λj=>Bv p (x2) d2 2 b3 j,⟨K6,iH ⟨rfl,⟨rfl,yYb⟩,λ_ _=>⟨⟨o2,x2,p,d2,2,b3⟩,rfl,by rw[C5],iH (iH ⟨rfl,⟨⟨hM3,WW⟩,Z9,⟨td rfl,td rfl⟩,⟨Z9,Z9⟩,Z9,Z9⟩,λo9 hb=>⟨⟨x2,o9,d2,_,[]⟩,rfl,rfl,rfl,rfl,rfl,rfl,rfl,rfl,rfl,rfl,rfl,rfl,rfl,rfl,rfl,rfl,rfl,rfl,rfl,Bv.bad hb.2 WW hb.1,ic⟩,λo9 hg=>⟨⟨_,o9,_,_,_⟩,rfl,rfl,rfl,rfl,rfl,rfl,rfl,rfl,rfl,rfl,rfl,rfl,rfl,rfl,rfl,rfl,rfl,rfl,rfl,Bv.qn hM3 WW oM hg.1 hg.2,ic⟩⟩)⟩⟩⟩,?_⟩)⟩;rintro⟨x3,o3,d3,O3,N3⟩ hA3;obtain⟨g1,_,g3,g4⟩:=hA3.Ih r3;dsimp only at g1 g3 g4 ⊢;rw[e1]at f1 f3;rw[f1]at g3 g4;rw[e3,f3,g3,g4];obtain⟨q31,q32,q33⟩:=q3;have DV:∀(l:List (Int×fy)),(l.map kG).length=l.length:=λl=>iz _
 have P1:((vJ ((wz p).ed p 0 b1|>.ed p 1 b2).q ((((wz p).ed p 0 b1).ed p 1 b2).M p 2 b3)).map xW).length=((((wz p).ed p 0 b1).ed p 1 b2).M p 2 b3).length:=by rw[iz,sP]
 rw[DV,DV,DV,q1,q2,q31,P1];obtain⟨y,hy⟩:=z6 (l:=((((wz p).ed p 0 b1).ed p 1 b2).X p 2 b3).O) (i:=5) oM;have hy2:y.2=⟨3,3,0,1,505,4,5,0⟩:=by rw[mi,hy]at q32;exact q32
 have h8:=yXy hy;rw[hy2]at h8;exact Cv.du.mk (λ_=>Cv.du.mk (λ_=>Cv.du.mk (λ_=>⟨⟨td rfl,td rfl⟩,_,_,_,_,_,_,_,_,h8,Cv.du.mk (λ_=>⟨(),(kx oM).symm,trivial⟩) (λe=>absurd e Z8)⟩) (λe=>absurd e Z8)) (λe=>absurd e Z8)) (λe=>absurd e Z8)
def Tm:awC.ok Tryz.prog 19:=ix mixed (dz yNn (dz yBh (dz yQh (dz yFj (dz Ge fx))))) 1 (λp=>awJ p) (λ_=>[]) [] Tryz.func19 vaw
def z2d (s:Int):∀(W:List (Int×Int)) (R:List fy),(sN s W R).2.map (·.2)=R
 |_,[]=>rfl
 |W,r::R=>by
  rw[sN];dsimp only;rw[iT,z2d s _ R]
def z7v {p:fj} {B:List (List zE)} {U:List Int} {W:List (Int×Int)} {s:Int} (hs:0<=s/\s<8) {c:ir} (h:c.right=0):
 (∃r:fy,wE p B U W s c.enc=⟨B,U,W,[(s,r)]⟩/\r.kind=2)\/((wE p B U W s c.enc).B=(tx p B U c.asks).B/\(wE p B U W s c.enc).U=(tx p B U c.asks).U/\(wE p B U W s c.enc).O.map (·.2)=(tx p B U c.asks).R):=by
 rw[yKt hs h,Kx];split
 ·exact .inl ⟨_,rfl,rfl⟩
 split
 ·exact .inl ⟨_,rfl,rfl⟩
 exact .inr ⟨rfl,rfl,z2d _ _ _⟩
def yWl {p:fj} {o o2:iO} {lg:fa} {all:List fy} {j:Nat} {B:List (List zE)} {U:List Int} {W:List (Int×Int)} {S:tg} {N:Int->Int} {s:Int} {c:ir} (hK:Xb p o lg all j B U S N) (hc:p.check=0) (hs:0<=s/\s<8) (hr:c.right=0)
 (ho:o2.fy p (wE p B U W s c.enc).B (wE p B U W s c.enc).U) (wj:jo p (wE p B U W s c.enc).B):
 ((wE p B U W s c.enc).O.map (·.2)).length<=2000000000/\(lg.gy ((wE p B U W s c.enc).O.map (·.2))).2=0/\∃S2 N2,Xb p o2 (lg.gy ((wE p B U W s c.enc).O.map (·.2))).1 (all++(wE p B U W s c.enc).O.map (·.2)) (j+1) (wE p B U W s c.enc).B (wE p B U W s c.enc).U S2 N2:=by
 have zt:lu p B:=by have:=hK.r.s;exact this.wf hK.b
 have yq:=hK.s;rcases z7v (p:=p) (B:=B) (U:=U) (W:=W) hs hr with⟨r,e,hk⟩|⟨e1,e2,e3⟩
 ·rw[e]at ho wj ⊢;dsimp only at ho wj ⊢;have ea:lg.gy [r]=(lg,0):=by rw[zFn];exact z5a hk
  show([r]:List fy).length<=_/\(lg.gy [r]).2=0/\∃S2 N2,Xb p o2 (lg.gy [r]).1 (all++[r]) (j+1) B U S2 N2;rw[ea];exact⟨td rfl,rfl,S,N,ho,wj,hK.a,hK.n,hK.f,hK.z,hK.u,hK.lr,by rw[bZ,hK.e,dx λh=>h rfl];exact ea,by rw[iQ];show all.length+1<=_;omega⟩
 ·have jy:=y6f zt hK.a (c:=c.asks) (D:=λ_=>True) trivial hK.n hK.f;have zb:=(yWk (p:=p) hK.a c.asks).acc;have hXl:=yBs zt U c.asks;have PO:=y9f zt U c.asks hK.u;rw[e1,e2]at ho;rw[e1]at wj;rw[e1,e2,e3];generalize hX:tx p B U c.asks=X at*;have LB:lu p X.B:=by have:=ho.s;exact this.wf wj
  have PO:=PO LB;have oW:(all++X.R).length<=2000000000*(j+1):=by rw[iQ];omega
  have he:∀L2,lg.gy X.R=(L2,0)->(jU p).gy (all++X.R)=(L2,0):=λL2 e=>by
   rw[bZ,hK.e,dx λh=>h rfl];exact e
  refine⟨oM,?_⟩;rcases jy with⟨w,e⟩|⟨h1,h2,h3,h4⟩
  ·have ea:lg.gy (aW c.asks w)=(lg,0):=by rw[aW,zFn];exact z5a rfl
   rw[e]at ho wj zb PO he oW ⊢;dsimp only at he oW ⊢;rw[ea]at he ⊢;exact⟨rfl,S,N,ho,wj,zb,hK.n,hK.f,hK.z,PO,hK.lr,he _ rfl,oW⟩
  ·obtain⟨a1,a2⟩:=z5j hc hK.lr h2;exact⟨a1,_,_,ho,wj,zb,h1,h3,λn hn=>by rw[hK.z n hn,h4 n (oQ _) hn];rfl,PO,a2,he _ (by rw[<- a1]),oW⟩
def yKr {α:Type} {l:List α} {k:Nat} {a:α} (h:l[k]? =some a):l.take (k+1)=l.take k++[a]:=by rw[tv,h];rfl
def vti (i:zy) (h:tpC.du i):Vti i:=by
 obtain⟨x0,p,l,ss⟩:=i;obtain⟨hp,aaD,pg,hss,hlen,aa8⟩:p=iw x0/\x0.raw/\(∀c∈l,c.raw)/\(∀s∈ss,ie s)/\l.length<=9223372036854775807/\ss.length<=9223372036854775807:=h;have DV:(l.map Af).length=l.length:=iz _;have hc:p.check=0:=by rw[hp];exact pT _
 have hs:p.small:=by rw[hp];exact zNc _
 obtain⟨p1,p2,p3,p4,p5,p6,p7,p8,p9,PC,PB⟩:sb p.code=sb [206,169]/\iE p.dr=iE (qP (kN x0).toNat)/\p.tick=zV x0/\p.low= -20*zV x0/\p.high=100*zV x0/\p.wide=zV x0*(5+zH x0.wide 0 60)/\p.gw=1+zH x0.gw 0 2/\p.top=zH x0.top 0 9/\p.least=1+zH x0.least 0 4/\p.part=zH x0.part 0 100/\iE p.settle=iE (kZ (zV x0) (kN x0).toNat):=by
  rw[hp];exact(rn (jh rfl))
 have hpx:∃x,p=iw x:=⟨x0,hp⟩
 have PW:∀(c:ir) (k:Nat),k<=1000000->(xF ⟨p,c,k⟩).right=0:=by rw[hp];exactλc k hk=>yJy hk
 clear hp;have WX:jo p (wz p).B:=jo.new hc hs;unfold Vti Q4 Q6 Q7 Q8 QH Qa Qb Rw fp ez Qc Qr To yOy Q7 mE cK z7g z7j Q4 Qo pK MQ QL Oq Qi Vm yAa z9w Qo Vq Q2 Q4 OK cD pV b9 Q8 gE wN dX v8 cM cP fL dW zU Q8 vE dI;dsimp only;have hcb:=UK hc;have hcg:=aH hc;refine⟨x0,rn (jh ⟨rfl,aaD,λ_ _=>⟨p,p1,p2,p3,p4,p5,p6,p7,p8,p9,PC,PB,⟨hc,hs⟩,λo ho=>⟨p,p1,p2,p3,p4,p5,p6,p7,p8,p9,PC,PB,hs,λ_ _=>⟨⟨wz p,o,⟨[],0⟩,jU p,[],0⟩,iH (oE (jh ⟨rfl,p1,p3,p4,p5,p6,p7,p8,p9,PC,by rw[p2],by rw[PB],rfl,rfl,λj=>(j.k<=l.length/\j.k<=40)/\(0<=j.x.q/\j.x.q<=202000000*(j.k:Int))/\(j.x.R.length<=j.k/\j.d.b.length<=107*j.k)/\∃S N,Xb p j.o j.lg j.all j.k j.x.B j.x.U S N,λj=>40-j.k,⟨⟨oQ _,oQ _⟩,⟨yl _,yl _⟩,⟨mg _,mg _⟩,⟨λ_=>0,λ_=>0⟩,λ_=>0,⟨ho,WX,?_,?_,⟨λx=> ?_,?_,λ_ _ _ _=>trivial⟩,λ_ _=>rfl,y0e _,yIg _,rfl,mg _⟩⟩,?_⟩))⟩,λ_ jf=>absurd hc jf⟩⟩⟩)⟩
 ·intro L hL o ho;rw[K2 hL]at ho;cases ho
 ·show jH (List.replicate p.count [])<=250;rw[jH,Nl];simp
 ·exact(Kw λL hL o ho=>by rw[K2 hL]at ho;cases ho).symm
 ·intro k L hL o ho;rw[K2 (mc hL)]at ho;cases ho
 clear ho;rintro⟨x,o,d,lg,all,k⟩ ⟨⟨hk,aaK⟩,⟨u',tw⟩,⟨hR,hd⟩,S,N,hK⟩;dsimp only at hk aaK u' tw hR hd hK ⊢;have hM:=hK.r;have hB:=hK.b;refine⟨true,λb=>b=decide (k<l.length/\k<40),zI (λc=>⟨_,rfl,decide_eq_decide.2 ⟨λx=>⟨oM,oM⟩,λx=>by omega⟩,ic⟩) (λc=>⟨_,rfl,(jq oM).symm,ic⟩),?_⟩;rintro _ rfl;refine zI (λc=> ?_) (λc=>⟨cY 2,rfl,λ_ _=>⟨(),rfl,trivial⟩⟩);obtain⟨c1,c2⟩:=c;obtain⟨c,hcm⟩:=z6 c1;have hcr:=pg c (mc hcm);have hw:=y4a ss k;have hr:=PW c k oM;have wg:(xF ⟨p,c,k⟩).enc.length<=100:=yBa hr (zFz _);refine⟨⟨x,o,d,[],[]⟩,iH (iH ⟨rfl,Bv p x d (BY ss k) (xF ⟨p,c,k⟩).enc,?_,?_⟩)⟩
 ·exact⟨⟨oM,oM⟩,_,_,_,_,_,_,_,_,_,xAy hcm,⟨ss,k⟩,rfl,rfl,⟨hss,Z9⟩,λ_ _=>⟨trivial,ic,⟨p,c,k⟩,iH (iH (oT ⟨rfl,⟨hpx,hcr,Z9,Z9⟩,λ_ _=>⟨⟨o,x,p,d,BY ss k,(xF ⟨p,c,k⟩).enc⟩,iH (rn (jh ⟨rfl,⟨⟨hM,hB⟩,Z9,⟨Z9,Z9⟩,⟨u',Z9⟩,Z9,Z9⟩,λo9 hb=>absurd (zPt (s:=BY ss k) oM hr) hb.1,λo9 hg=>⟨⟨_,o9,_,_,_⟩,rfl,rfl,rfl,rfl,rfl,rfl,rfl,rfl,rfl,rfl,rfl,rfl,rfl,rfl,rfl,rfl,rfl,rfl,Bv.qn hM hB wg hg.1 hg.2,ic⟩⟩))⟩⟩))⟩⟩
 rintro⟨x2,o2,d2,O,N⟩ hA;obtain⟨⟨DY,wj,hq3,hq4,NQ,AG,_,_⟩,_⟩:=id hA;obtain⟨ex,_,eO,_⟩:=hA.Ih (zPt oM hr);dsimp only at DY wj hq3 hq4 NQ AG ex eO ⊢;clear hA;have WZ:x2.B=(wE p x.B x.U x.W (BY ss k) (xF ⟨p,c,k⟩).enc).B:=by rw[ex];rfl
 have e2U:x2.U=(wE p x.B x.U x.W (BY ss k) (xF ⟨p,c,k⟩).enc).U:=by rw[ex];rfl
 have jy:=yWl (o2:=o2) (W:=x.W) (s:=BY ss k) (c:=xF ⟨p,c,k⟩) hK hc oM hr (by rw[<- WZ,<- e2U];exact DY) (by rw[<- WZ];exact wj);rw[<- WZ,<- e2U]at jy;have eO:O=(wE p x.B x.U x.W (BY ss k) (xF ⟨p,c,k⟩).enc).O:=eO;rw[<- eO]at jy;obtain⟨hRl,tj,S2,N2,hE⟩:=jy;rw[iz]at hRl;have Bm:=hK.s;clear eO ex WZ e2U;refine⟨⟨lg,all,0⟩,rfl,rfl,rfl,λj=>j.k<=O.length/\j.lg=(lg.gy ((O.map (·.2)).take j.k)).1/\j.all=all++(O.map (·.2)).take j.k,λj=>O.length-j.k,⟨oQ _,rfl,(pd _).symm⟩,?_⟩
 rintro⟨lg1,abl,m⟩ ⟨hm,h1,h2⟩;dsimp only at hm h1 h2 ⊢;subst h1 h2;have vh:(O.map kG).length=O.length:=iz _;refine zI (λcc=> ?_) (λcc=> ?_)
 ·obtain⟨y,hy⟩:=z6 (l:=O) (i:=m) oM;have wx:(O.map (·.2))[m]? =some y.2:=by rw[uz,hy];rfl
  have Fz:=zTq tj m;have hsu:=pQ wx Fz;have BD:((lg.gy ((O.map (·.2)).take m)).1.add y.2).2=0:=by rw[<- hsu];exact zTq tj (m+1)
  have rh:(lg.gy ((O.map (·.2)).take m)).1.fit:=eE (l:=lg) ⟨⟨by rw[hK.lr.tl];omega,by rw[hK.lr.nl,hK.lr.tl]⟩,by rw[hK.lr.ep];exact hs⟩
  have h8:=yXy hy;refine⟨⟨oM,oM⟩,_,_,_,_,_,_,_,_,h8,⟨(lg.gy ((O.map (·.2)).take m)).1,y.2⟩,rfl,rfl,rfl,rfl,rfl,rfl,rfl,rfl,rfl,rh,λ_ _=> ?_⟩
  dsimp only;rw[BD];exact Cv.du.mk (λe=>absurd e Z8) (λ_=>⟨⟨oM,oM⟩,_,_,_,_,_,_,_,_,h8,by rw[iz,iQ,oK,iz];omega,⟨((lg.gy ((O.map (·.2)).take m)).1.add y.2).1,all++(O.map (·.2)).take (m+1),m+1⟩,wjN oM,rfl,by rw[yKr wx,<- km,jz];rfl,⟨Z9,by dsimp only;rw[hsu],rfl⟩,Z9,ic⟩)
 ·have DV:m=O.length:=by omega
  subst DV;have PR:(O.map (·.2)).take O.length=O.map (·.2):=oV (by rw[iz];exact mg _)
  rw[PR];have LB:=DY.s.wf wj;have wg:=wj.bl;have hTl:(x2.B.map yS).length=p.count:=by rw[iz];exact wg
  have Mi:kE p (x2.B.map yS)=0:=yLe hc hE.u LB.small hTl;have oW:=hE.s;have aaC:vZ p (all++O.map (·.2))=0:=by
   have h1:=hE.e;rw[vZ,dx (by rw[hc];decide),h1,dx λh=>h rfl,dx];rw[Bool.not_eq_true];refine UU λn hn=>jq λx=>x ?_
   dsimp only;rw[fa.at,fk (hE.lr.Bk (by omega)),ml,hE.lr.nt n (by omega),hE.z n hn];decide
  refine⟨false,λb=>b=false,⟨⟨⟨o2,x2.W⟩,p,x2.B,x2.U⟩,rfl,⟨DY,wj⟩,λ_ _=>⟨ic,⟨⟨o2,x2.W⟩,p,x2.B,x2.U,0⟩,rfl,⟨DY,wj⟩,λ_ _=>⟨ic,o2,rfl,DY.s.small wj,λ_ _=>⟨ic,⟨p,o2.s⟩,iH (jh ⟨rfl,⟨hs,DY.s.EJ (by rw[wg];omega),by dsimp only;rw[DY.s.fm];exact wj.fm⟩,λ_ _=> ?_⟩)⟩⟩⟩⟩,?_⟩
  ·dsimp only;rw[DY.s.fm,Mi];exact Cv.du.mk (λe=>absurd e Z8) (λ_=>⟨⟨p,all++O.map (·.2)⟩,iH (jh ⟨rfl,⟨hs,Z9⟩,λ_ _=>⟨_,rfl,by dsimp only;rw[aaC];rfl,ic⟩⟩)⟩)
  rintro _ rfl;exact Cv.du.mk (λe1=>absurd e1 Bool.false_ne_true) (λ_=>⟨⟨x2,o2,d2,(lg.gy (O.map (·.2))).1,all++O.map (·.2),k+1⟩,um oM,iH (iH (iH (A6 ⟨rfl,⟨⟨Z9,Z9⟩,⟨Z9,Z9⟩,⟨Z9,Z9⟩,S2,N2,hE⟩,Z9,ic⟩)))⟩)
end Sx
