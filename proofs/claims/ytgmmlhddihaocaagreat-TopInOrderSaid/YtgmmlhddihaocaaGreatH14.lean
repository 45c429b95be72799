/- Texts of ours. No condition. -/
import Derived.Test.YtgmmlhddihaocaaGreatH13
set_option linter.all false
open Sx.fw renaming kh->aa,cells->ab,own->ac,sv->ae
open List renaming map->af,replicate->ag,range->aj,drop->ak
open Go.IntKind renaming i64->am,wrap->ao,u8->ap,signed->aq
open Bool renaming true->ar,false->au
open Go.Value renaming string->av
open Int renaming toNat->aw,add_zero->ax
open Option renaming some->ay,none->ba
open Go renaming Value->bc,TypeId->be
open Ne renaming symm->bg
namespace Sx
set_option maxRecDepth 100000
open Go Cv Go.Proofs
def yUd {n lo hi:Int} (h:lo<=hi):lo<=zH n lo hi/\zH n lo hi<=hi:=by
 have h1:=Ni n (show hi-lo+1≠0 by omega);have h2:=Pl n (show 0<hi-lo+1 by omega);rw[zH];constructor<;>omega
open Classical in
open Classical in
def y8j {p:fj} {v w:Vw} (hv:NT p v) (hw:NT p w):v.length=w.length/\Vw.qm v<=100000000/\Vw.qm w<=100000000/\v.length<=1000000:=by
 have h1:=yKm hv;have h2:=yKm hw;have h3:=hv.r.2;have h4:=hw.r.2;exact⟨by rw[hv.len,hw.len],oM,oM,oM⟩
def y4m (i:N4) (h:F6.du i):yRg i:=by
 obtain⟨hR,hB⟩:i.s.fy i.p i.B/\jo i.p i.B:=h;have xy:=xQ i.p;have wg:=hB.bl;have Ec:i.s.nw:=hR.EJ oM;have ur:vF (i.B.map yS):=hB.fm;have hll:=YX i.p i.B;unfold yRg Q5 Qa fp ez dB mN qD Q8 vE hY zU Q8 wP vS cK dI;refine⟨i.p,rn (jh ⟨rfl,hB.ps,λ_ _=>Cv.du.mk (λc=>absurd hB.pc (by simpa using c)) (λ_=>⟨i.s,rfl,Ec,λ_ _=>⟨i.p,rn (jh ⟨rfl,hB.ps,λ_ _=>⟨0,rfl,rfl,by rw[hR.fm],λj=>j<=i.p.count,λj=>i.p.count-j,oQ _,λj hj=>zI (λiq=> ?_) (λiq=> ?_)⟩⟩)⟩⟩)⟩)⟩
 ·have iq:j<i.p.count:=by omega
  have uf:HY i.B (j:Int)=i.B.getD j []:=by rw[HY,dx (by omega),ml]
  have hq:∀s,(yC ⟨i.p,i.B.map yS,j⟩ s).length<=1000000:=λs=>wu (pP _ _) Z8
  refine⟨⟨Z8,Z8⟩,1,rfl,⟨i.s,i.p,i.B,j,au⟩,rfl,rfl,rfl,⟨hR,Z9⟩,λ_ _=>⟨⟨⟨i.p,i.B.map yS,j⟩,au⟩,iH (A6 ⟨rfl,⟨hB.ps,ur⟩,λ_ _=>⟨⟨yC ⟨i.p,i.B.map yS,j⟩ 1,1⟩,rfl,rfl,⟨.inl rfl,hq 1⟩,λ_ _=>⟨⟨Z8,Z8⟩,2,rfl,⟨i.s,i.p,i.B,j,ar⟩,rfl,rfl,rfl,⟨hR,Z9⟩,λ_ _=>⟨⟨⟨i.p,i.B.map yS,j⟩,ar⟩,iH (A6 ⟨rfl,⟨hB.ps,ur⟩,λ_ _=>⟨⟨yC ⟨i.p,i.B.map yS,j⟩ 2,2⟩,rfl,rfl,⟨.inr rfl,hq 2⟩,λ_ _=>⟨?_,j+1,um oM,?_,rfl,Z9,Z9,rfl,ic⟩⟩⟩)⟩⟩⟩⟩)⟩⟩
  ·rw[iz,oK];omega
  ·rw[tv,yFy i.p i.B iq,DP,jz,iT,CS];dsimp only;rw[uf];rfl
 ·have hj:j<=i.p.count:=hj;rw[oV (by omega)];exact⟨(),ic⟩
def z1w:F6.ok Tryz.prog 37:=ix mixed (dz mU (dz yAq (dz bN (dz yUi (dz Zw (dz yWf fx)))))) 1 (λ_=>[]) (λi=>y6w i) [] Tryz.func37 y4m
def yDq:Tb.ok Tryz.prog 47:=ix (V:=y9o) mixed (dz z3v fx) 0 (λ_=>[]) (λ_=>[]) [] Tryz.func47 λ(i:wm) h=>⟨i,rfl,rfl,h,λ_ _=>⟨(),rfl,trivial⟩⟩
def zXo:Ml.ok Tryz.prog 101:=ix (V:=y0x) mixed fx 0 (λ_=>[]) (λ_=>[]) [] Tryz.func101 λ(g:Gt) _=>⟨(),rfl,rfl,trivial⟩
def z3k:Mc.ok Tryz.prog 102:=ix (V:=y5e) mixed fx 0 (λ_=>[]) (λ_=>[]) [] Tryz.func102 λ(m:iO) _=>⟨(),ic⟩
def z6j {p:fj} {B:List (List zE)} (h:lu p B) (U:List Int) (W:List (Int×Int)) (s:Int) (b:List UInt8):jo p (wE p B U W s b).B:=by
 rw[wE];split
 ·exact h.ok
 split
 ·exact h.ok
 rw[Kx];split
 ·exact h.ok
 split
 ·exact h.ok
 ·exact y4j h U _
def y8c {p:fj} {v w:Vw} (hv:NT p v) (hw:NT p w):(wR 0 v w).length<=202000000:=by
 obtain⟨h1,h2,h3,h4⟩:=y8j hv hw;have:=yKc v w v.length (mg _) oM;rw[oV (mg _),oV (by omega)]at this;omega
def ved (i:yx) (h:edC.du i):Ved i:=by
 obtain⟨o0,x,p,s,b⟩:=i;obtain⟨⟨hM,hB⟩,hb,⟨vg,yu⟩,⟨u',tw⟩,hR⟩:(o0.fy p x.B x.U/\jo p x.B)/\b.length<=1048576/\(0<=s/\s<8)/\(0<=x.q/\x.q<=1000000000000000000)/\x.R.length<=1000000:=h;have zt:=hM.s.wf hB;have wj:jo p (x.X p s b).B:=z6j zt _ _ _ _;have Fp:((pf s).toNat:Int)=ap.wrap s:=(T4 s).symm;unfold Ved Qb fp Qz TY z7i Qb fp Qz z8d z8u Q4 Qa Qb fp Qc Qz MP MW Qi;dsimp only;refine⟨trivial,trivial,[[pf s],b],?_,⟨by simp,by simp;omega,by simp⟩,λ_ _=>⟨trivial,trivial,by rw[iz];omega,⟨⟨o0,x.W⟩,p,x.B,x.U,s,b,x.X p s b⟩,rfl,rfl,rfl,⟨⟨hM,hB⟩,Z9,rfl⟩,λo ho=> ?_⟩⟩
 ·show[kq [pf s],kq b]=_;rw[kq,kq,<- Fp];rfl
 have hv:=Tw zt;have hw:=Tw (ho.s.wf wj);obtain⟨g1,g2,g3,g4⟩:=y8j hv hw;have hl:=y8c hv hw;have er:af kq (x.R++[lU s b])=af kq x.R++[[D.ro 1 (bE [[pf s],b].flatten)]]:=by
  rw[jz];simp[kq,lU]
 have eq1:x.q+((x.M p s b).length:Int)=am.wrap (x.q+(af xW (vJ x.q (x.M p s b))).length):=by
  have:(x.M p s b).length<=202000000:=hl;rw[iz,sP,iD (by omega)]
 refine⟨⟨⟨o,(x.X p s b).W⟩,rfl,rfl,trivial,λ_ _=>⟨ic,⟨o,iH (oT ⟨rfl,trivial,λ_ _=>⟨ic,?_,ic,?_⟩⟩)⟩,ic,o,rfl,rfl,rfl,rfl,rfl,rfl,rfl,rfl,rfl,rfl,rfl,rfl,rfl,trivial,λ_ _=>⟨ic,?_⟩⟩⟩,trivial,ic,⟨o,(x.X p s b).W⟩,rfl,rfl,trivial,λ_ _=>⟨ic,o,iH (oT ⟨rfl,trivial,λ_ _=>⟨ic,?_⟩⟩)⟩⟩
 all_goals exact⟨⟨o.s,p,(x.X p s b).B⟩,iH (jh ⟨rfl,⟨ho.s,wj⟩,λ_ _=>⟨⟨xJ p x.B,xJ p (x.X p s b).B,x.q⟩,rfl,rfl,rfl,⟨g1,⟨Z9,Z9⟩,g2,g3,g4⟩,λ_ _=>⟨o,iH ⟨rfl,eq1,iH (rn ⟨rfl,er,jh ho⟩)⟩⟩⟩⟩)⟩
def yYj:edC.ok Tryz.prog 51:=ix mixed (dz yFi (dz yLo (dz zXo (dz z3k (dz z1w (dz yMq fx)))))) 0 (λ_=>[]) (λ_=>[]) [] Tryz.func51 ved
structure xd where
 o:iO
 x:Es
 p:fj
 d:Dk
 s:Int
 b:List UInt8
def I8 (p:fj) (x:Es) (o:iO) (d:Dk):List fw:=[Rr (x.en p) 4 7,K7 3 x.R.length,nk ⟨o,x.W⟩,mo d,G1 x.R,.kh 1 (iE p.dr),.kh 1 (iE p.settle),Hk (xJ p x.B)]
@[reducible] def xd.ok (i:xd):Prop:=(i.o.fy i.p i.x.B i.x.U/\jo i.p i.x.B)/\i.b.length<=254/\(-1<=i.s/\i.s<8)/\(0<=i.x.q/\i.x.q<=1000000000000000000)/\i.x.R.length<=1000000/\i.d.b.length+i.b.length+7<=1048576
def xd.Y (i:xd):Es:=i.x.ed i.p i.s i.b
def xd.N (i:xd):List I5:=vJ i.x.q (i.x.M i.p i.s i.b)
def xd.O (i:xd):List (Int×fy):=(i.x.X i.p i.s i.b).O
def xd.D (i:xd):Dk:=⟨i.d.b++jA (lU i.s i.b),i.d.safe⟩
def LS:gx where
 ι:=xd
 pat:=λi=>[.nm 0 0,zB i.s,ru 1 (bE i.b)]
 pre:=λi=>I8 i.p i.x i.o i.d
 du:=λi=>i.ok
 alts:=λi=>[
  {o:=iO,res:=λ_=> .agg [.own 8,KG],post:=λo=>I8 i.p i.x o i.d++[I1 [(i.s,⟨2,0,0,0,0,0,0,(zS i.s i.b).2⟩)]],rel:=λo=>(zS i.s i.b).2≠0/\o.fy i.p i.x.B i.x.U},
  {o:=iO,res:=λ_=> .agg [.own 10,.own 11],post:=λo=>[Rr (i.Y.en i.p) 8 9,K7 3 i.Y.R.length,nk ⟨o,i.Y.W⟩,mo i.D,.gone,.kh 1 (iE i.p.dr),.kh 1 (iE i.p.settle),.gone,G1 i.Y.R,Hk (xJ i.p i.Y.B),I1 i.O,M8 i.N],rel:=λo=>(zS i.s i.b).2=0/\o.fy i.p i.Y.B i.Y.U}]
def wz (p:fj):Es:=⟨ag p.count [],[],[],0,[]⟩
def yZf (p:fj) (x:Es) (r:List UInt8):Es:=x.ed p (r.headD 0).toNat r.tail
def vK (p:fj) (L:List (List UInt8)):Es:=L.foldl (yZf p) (wz p)
def yWy (r:List UInt8):Prop:=r≠[]/\(zS (r.headD 0).toNat r.tail).2=0
structure Bb where
 p:fj
 s:Nat
 L:List (List UInt8)
 t:List UInt8
def Bb.j (i:Bb):Cb:=⟨i.s,i.L,i.t⟩
@[reducible] def Bb.ok (i:Bb):Prop:=(i.p.check=0/\i.p.small)/\((D2.mk i.L i.t).ok/\i.j.d.ok)/\(∀r∈i.L,yWy r)/\i.L.length<=100000
def enK (e:En):fw:= .cells [sV e.p.code,.own 5,zB e.p.tick,zB e.p.low,zB e.p.high,zB e.p.wide,zB e.p.gw,zB e.p.top,zB e.p.least,zB e.p.part,.own 6,.nm 2 0,.nm 3 0,.own 7,zB e.q,.own 4] O5
def Sr:gx where
 ι:=Bb
 pat:=λi=>[oa i.p,.nm 0 0]
 pre:=λi=>[mo i.j.d]
 du:=λi=>i.ok
 alts:=λi=>[{o:=iO,res:=λ_=> .jm [.nm 1 0,zB 0],post:=λo=>[mo i.j.d',enK ((vK i.p i.L).en i.p),K7 0 i.L.length,nk ⟨o,(vK i.p i.L).W⟩,G1 (vK i.p i.L).R,.kh 1 (iE i.p.dr),.kh 1 (iE i.p.settle),Hk (xJ i.p (vK i.p i.L).B)],rel:=λo=>o.fy i.p (vK i.p i.L).B (vK i.p i.L).U}]
structure N6 where
 o:iO
 x:Es
 k:Nat
def xCn (i:Bb):List ib:=[{ι:=N6,dv:=λj=>[(6,.nm 2 0),(10,.nm 0 0),(48,.own 8),(50,zB j.k)],rows:=λj=>[Rr (j.x.en i.p) 4 7,K7 3 i.L.length,nk ⟨j.o,j.x.W⟩,mo i.j.d',G1 j.x.R,.kh 1 (iE i.p.dr),.kh 1 (iE i.p.settle),Hk (xJ i.p j.x.B),G1 i.L]}]
def Us (a:yx):Prop:=(a.o.fy a.p a.x.B a.x.U/\jo a.p a.x.B)/\a.b.length<=1048576/\(0<=a.s/\a.s<8)/\(0<=a.x.q/\a.x.q<=1000000000000000000)/\a.x.R.length<=1000000
def dW (a:xd):=(af xM (xJ a.p (a.x.X a.p a.s a.b).B))
def fL (a:xd):=(a.x.R++[lU a.s a.b])
def cP (a:xd):=(↑(fL a).length:Int)
def cM (a:xd):=(↑(a.x.M a.p a.s a.b).length:Int)
def v8 (a:xd):=(af xM (xJ a.p a.x.B))
def dX (a:iO) (b:xd):=(Gt.mk a (b.x.X b.p b.s b.b).W)
@[reducible] def QH (a b:Es)(c d:fj)(R:Prop):Prop:=af kq a.R=af kq b.R/\aa 1 (iE c.dr)=aa 1 (iE d.dr)/\aa 1 (iE c.settle)=aa 1 (iE d.settle)/\R
def y5y (i:xd):Prop:=
 ∃(a:wm),a.s=i.s/\bE a.b=bE i.b/\a.b.length<=1099511627776/\fp (du ((zS a.s a.b).snd !=0) (∃(c:Dg),c.s=i.s/\bE c.b=bE i.b/\nk c.g=nk (Gt.mk i.o i.x.W)/\(TY c)/\∀(d:iO),d.fy c.p c.X.B c.X.U->(∃(e:iO),True/\Qc i.p (dm i.x.q/\dm ((↑i.x.R.length:Int))/\nk (Gt.mk e i.x.W)=nk (Gt.mk d c.X.W)/\dm (mo i.d)/\dm (af kq i.x.R)/\Q4 i.p (aa 10 (v8 i)=Hk (xJ i.p i.x.B)/\[kG (i.s,fy.mk 2 0 0 0 0 0 0 (zS i.s i.b).snd)]=af kG c.X.O/\(zS i.s i.b).snd≠0/\e.fy i.p i.x.B i.x.U)))\/(∃(e:iO),Qc i.p (i.x.q+(cM i)=i.x.q/\(cP i)=(↑i.x.R.length:Int)/\nk (dX e i)=nk (Gt.mk d c.X.W)/\mo i.D=mo i.d/\Q4 i.p (af kq (fL i)=af kq i.x.R/\aa 10 (dW i)=Hk (xJ i.p i.x.B)/\af kG i.O=af kG c.X.O/\af xW i.N=[]/\(zS i.s i.b).snd=0/\e.fy i.p (i.x.X i.p i.s i.b).B (i.x.X i.p i.s i.b).U)))) (True/\True/\∃(c:List (List UInt8)),af kq c=[[D.ro 1 [[D.v (.int .u8 (ap.wrap i.s))]]],[D.ro 1 (bE i.b)]]/\(1<=c.flatten.length/\c.flatten.length<=1099511627776/\c.length<=1000)/\fp (True/\∃(e:W8),bE e.l=bE c.flatten/\e.n=(↑i.x.R.length:Int)/\mo e.d=mo i.d/\(e.l.length<=255/\e.d.b.length+e.l.length+(6:Nat)<=(1048576:Nat)/\0<=e.n/\e.n<=1048576)/\fp (∃(g:yx),g.s=i.s/\bE g.b=bE i.b/\Qb g.p i.p (g.x.q=i.x.q/\nk g.g=nk (Gt.mk i.o i.x.W)/\QH g.x i.x g.p i.p (aa 10 (af xM (xJ g.p g.x.B))=Hk (xJ i.p i.x.B)/\(Us g)/\∀(h:iO),h.fy g.p (g.x.X g.p g.s g.b).B (g.x.X g.p g.s g.b).U->(∃(j:iO),False)\/(∃(j:iO),Qb i.p g.p (i.x.q+(cM i)=g.x.q+(↑(g.x.M g.p g.s g.b).length:Int)/\(cP i)=e.n+1/\nk (dX j i)=nk (Gt.mk h (g.x.X g.p g.s g.b).W)/\mo i.D=mo (Dk.mk (e.d.b++jA e.l) e.d.safe)/\Q6 i.p g.p (af kq (fL i)=af kq (g.x.R++[lU g.s g.b])/\aa 10 (dW i)=aa 10 (MP g)/\af kG i.O=af kG g.O/\af xW i.N=af xW g.N/\(zS i.s i.b).snd=0/\j.fy i.p (i.x.X i.p i.s i.b).B (i.x.X i.p i.s i.b).U)))))))))
def rG (a:Bb):Prop:=Qi a.p (True)
def XH (a:Cb):Prop:=((∀(b:List UInt8),b∈a.L->b.length<=255)/\(Cd a.t).snd.snd=10/\(oZ a.L).length+a.t.length<=1048576)/\a.s<=(oZ a.L++a.t).length/\(oZ a.L++a.t).length<=1048576
def aK (a:Bb):=(af xM (xJ a.p (vK a.p a.L).B))
def y6j (i:Bb):Prop:=
 ∃(a:fj),Qa a i.p ((zU a)/\(∀(b:Unit),a.check=0->∃(c:Cb),mo c.d=mo i.j.d/\(XH c)/\fp (∃(e:List Int),iE e=iE i.p.dr/\e.length<=1000000/\fp (True/\∃(g:List Int),iE g=iE i.p.settle/\g.length<=1000000/\fp (∃(j:Gt),kF j.m=kF (iO.mk a (nD a) [])/\xP j.W=xP []/\True/\fp ((rG i)/\(rG i)/\∃(l:iO),Qb l.p j.m.p (zD l.s=zD j.m.s/\Qz l j.m (True/\fp ((rG i)/\(rG i)/\∃(n:N4),sb n.p.code=sb i.p.code/\iE n.p.dr=iE e/\Qp n.p i.p (iE n.p.settle=iE g/\zD n.s=zD l.s/\(n.s.fy n.p n.B/\jo n.p n.B)/\fp ((rG i)/\∃(q:N6),(↑q.k:Int)=0/\Qc i.p (q.x.q=0/\(↑i.L.length:Int)=(↑c.L.length:Int)/\Qb q.o.p l.p (zD q.o.s=zD n.s/\Qz q.o l (xP q.x.W=xP j.W/\mo i.j.d'=mo c.d'/\af kq q.x.R=[]/\aa 1 (iE i.p.dr)=aa 1 (iE e)/\aa 1 (iE i.p.settle)=aa 1 (iE g)/\af xM (xJ i.p q.x.B)=af xM (xJ n.p n.B)/\af kq i.L=af kq c.L/\∃(r:N6->Prop),∃(s:N6->Nat),r q/\∀(t:N6),r t->du (decide ((↑t.k:Int)<(↑(af kq c.L).length:Int))) ((0<=(↑t.k:Int)/\(↑t.k:Int)<(↑(af kq i.L).length:Int))/\∃(u:List (List D)),zF (af kq i.L) (↑t.k:Int).toNat 0 1=ay [D.ro 1 u]/\du ((↑u.length:Int)==0) (∃(v:iO),False) (((0:Int)<=(0:Int)/\0<(↑u.length:Int))/\∃(v:Int),zF u (aw 0) 0 1=ay [D.v (.int .u8 v)]/\((0:Int)<=(1:Int)/\1<=(↑u.length:Int))/\∃(w:wm),w.s=am.wrap v/\bE w.b=ak (aw 1) u/\w.b.length<=1099511627776/\fp (du ((zS w.s w.b).snd !=0) (∃(y:iO),False) (((0:Int)<=(0:Int)/\0<(↑u.length:Int))/\∃(y:Int),zF u (aw 0) 0 1=ay [D.v (.int .u8 y)]/\((0:Int)<=(1:Int)/\1<=(↑u.length:Int))/\∃(z:yx),z.s=am.wrap y/\bE z.b=ak (aw 1) u/\Qb z.p i.p (z.x.q=t.x.q/\nk z.g=nk (Gt.mk t.o t.x.W)/\QH z.x t.x z.p i.p (aa 10 (af xM (xJ z.p z.x.B))=aa 10 (af xM (xJ i.p t.x.B))/\(Us z)/\∀(ma:iO),ma.fy z.p (z.x.X z.p z.s z.b).B (z.x.X z.p z.s z.b).U->∃(sc:N6),(↑sc.k:Int)=am.wrap ((↑t.k:Int)+1)/\Qb i.p z.p (sc.x.q=z.x.q+(↑(z.x.M z.p z.s z.b).length:Int)/\dm ((↑i.L.length:Int))/\nk (Gt.mk sc.o sc.x.W)=nk (Gt.mk ma (z.x.X z.p z.s z.b).W)/\dm (mo i.j.d')/\af kq sc.x.R=af kq (z.x.R++[lU z.s z.b])/\Q6 i.p z.p (aa 10 (af xM (xJ i.p sc.x.B))=aa 10 (MP z)/\dm (af kq i.L)/\r sc/\s sc<s t/\Q4 l.p (Q4 j.m.p (dm (aa 1 (iE g))/\dm (aa 1 (iE e))/\dm (ab [V.d (D.v (av (sb i.p.code))),V.own 7,V.d (dI i.p.tick),V.d (dI i.p.low),V.d (dI i.p.high),V.d (dI i.p.wide),V.d (dI i.p.gw),V.d (dI i.p.top),V.d (dI i.p.least),V.d (dI i.p.part),V.own 8] 25)/\dm (aa 1 (iE i.p.settle))/\dm (aa 1 (iE i.p.dr)))))))))))) (∃(u:iO),dm ((0:Int))/\dm (mo i.j.d')/\Qc i.p ((vK i.p i.L).q=t.x.q/\dm ((↑i.L.length:Int))/\nk (Gt.mk u (vK i.p i.L).W)=nk (Gt.mk t.o t.x.W)/\af kq (vK i.p i.L).R=af kq t.x.R/\Q4 i.p (aa 10 (aK i)=aa 10 (af xM (xJ i.p t.x.B))/\u.fy i.p (vK i.p i.L).B (vK i.p i.L).U))))))))))))))))/\∀(b:Unit),a.check≠0->du (a.check !=0) (∃(c:iO),False) (∃(c:Cb),mo c.d=mo i.j.d/\(XH c)/\fp (∃(e:List Int),iE e=iE i.p.dr/\e.length<=1000000/\fp (True/\∃(g:List Int),iE g=iE i.p.settle/\g.length<=1000000/\fp (∃(j:Gt),False)))))
def yMb {s:Int} {b:List UInt8} (h:(zS s b).2=0):0<=s/\s<8:=by
 rw[zS]at h;split at h
 ·cases h
 ·omega
def xCh (i:xd) (h:LS.du i):y5y i:=by
 obtain⟨o0,x,p,d,s,b⟩:=i;obtain⟨⟨hM,hB⟩,hb,⟨vg,yu⟩,⟨u',tw⟩,hR,hd⟩:(o0.fy p x.B x.U/\jo p x.B)/\b.length<=254/\(-1<=s/\s<8)/\(0<=x.q/\x.q<=1000000000000000000)/\x.R.length<=1000000/\d.b.length+b.length+7<=1048576:=h;have Fp:((pf s).toNat:Int)=ap.wrap s:=(T4 s).symm;unfold y5y Q4 Q6 QH Qb fp Qc MP TY dX v8 cM cP fL dW Us;dsimp only;refine⟨⟨s,b⟩,rfl,rfl,Z9,λ_ _=>Cv.du.mk (λe=> ?_) (λe=> ?_)⟩
 ·have e:(zS s b).2≠0:=by simpa using e
  exact⟨⟨⟨o0,x.W⟩,p,x.B,x.U,s,b,M4 x.B x.U x.W s 0 (zS s b).2⟩,rfl,rfl,rfl,⟨⟨hM,hB⟩,Z9,by dsimp only;rw[zVl,fk e]⟩,λo ho=> .inl ⟨o,trivial,iH (oE (jh ⟨rfl,e,ho⟩))⟩⟩
 ·have e:(zS s b).2=0:=by simpa using e
  have hs:=yMb e;refine⟨trivial,trivial,[[pf s],b],?_,⟨by simp,by simp;omega,by simp⟩,λ_ _=>⟨trivial,⟨d,x.R.length,lU s b⟩,by simp[lU],rfl,rfl,⟨by simp[lU];omega,by simp[lU];omega,Z9,Z9⟩,λ_ _=>⟨⟨o0,x,p,s,b⟩,iH (iH ⟨rfl,⟨⟨hM,hB⟩,Z9,hs,⟨u',tw⟩,hR⟩,λo ho=> .inr ⟨o,oE (jh ⟨rfl,by simp,rn ⟨rfl,e,ho⟩⟩)⟩⟩)⟩⟩⟩;show[kq [pf s],kq b]=_;rw[kq,kq,<- Fp];rfl
def Ge:LS.ok Tryz.prog 10:=ix mixed (dz yDq (dz yLo (dz yFi (dz yTq (dz yYj fx))))) 0 (λ_=>[]) (λ_=>[]) [] Tryz.func10 xCh
def y5s {p:fj} {L:List (List UInt8)} {k:Nat} {r:List UInt8} (h:L[k]? =ay r):vK p (L.take (k+1))=yZf p (vK p (L.take k)) r:=by
 rw[tv,h,DP,vK,Jh];rfl
def yAz {p:fj} {x:Es} {o:iO} (hM:o.fy p x.B x.U) (hB:jo p x.B) (s:Int) (b:List UInt8) {o2:iO} (ho:o2.fy p (x.X p s b).B (x.X p s b).U):
 jo p (x.ed p s b).B/\x.q<=(x.ed p s b).q/\(x.ed p s b).q<=x.q+202000000/\(x.ed p s b).R.length=x.R.length+1:=by
 have zt:=hM.s.wf hB;have wj:jo p (x.X p s b).B:=z6j zt _ _ _ _;have:(x.M p s b).length<=202000000:=y8c (Tw zt) (Tw (ho.s.wf wj));refine⟨wj,?_,?_,?_⟩
 ·show x.q<=x.q+((x.M p s b).length:Int);omega
 ·show x.q+((x.M p s b).length:Int)<=_;omega
 ·show(x.R++[lU s b]).length=_;rw[iQ];rfl
def xBo (i:Bb) (h:Sr.du i):y6j i:=by
 obtain⟨p,s,L,t⟩:=i;obtain⟨⟨hc,xx⟩,⟨hs,hd⟩,hr,hl⟩:(p.check=0/\p.small)/\((D2.mk L t).ok/\(Cb.mk s L t).d.ok)/\(∀r∈L,yWy r)/\L.length<=100000:=h;have WX:jo p (ag p.count []):=jo.new hc xx;have hM0:=yUe p;have m6:=(qF hc).m6;have sl:=(qF hc).s1;have DV:(L.map kq).length=L.length:=iz _;unfold y6j Q4 Q6 QH Qa Qb fp Qc Qp Qz aK XH rG Qi MP Us zU Q8 dI;dsimp only;refine⟨p,rn (jh ⟨rfl,xx,λ_ _=>⟨⟨s,L,t⟩,rfl,⟨hs,hd⟩,λ_ _=>⟨p.dr,rfl,oM,λ_ _=>⟨trivial,p.settle,rfl,oM,λ_ _=>⟨⟨PD p,[]⟩,rfl,rfl,trivial,λ_ _=>⟨ic,ic,PD p,iH (oT ⟨rfl,trivial,λ_ _=>⟨ic,ic,⟨(PD p).s,p,ag p.count []⟩,iH (jh ⟨rfl,⟨hM0.s,WX⟩,λ_ _=>⟨ic,⟨PD p,wz p,0⟩,iH (iH (iH (rn ⟨rfl,λj=>(j.k<=L.length/\j.x=vK p (L.take j.k))/\(j.o.fy p j.x.B j.x.U/\jo p j.x.B)/\(0<=j.x.q/\j.x.q<=202000000*(j.k:Int))/\j.x.R.length=j.k,λj=>L.length-j.k,⟨⟨oQ _,rfl⟩,⟨hM0,WX⟩,⟨yl _,yl _⟩,rfl⟩,?_⟩)))⟩⟩)⟩⟩)⟩⟩⟩⟩⟩,λ_ jf=>absurd hc jf⟩)⟩;rintro⟨o,x,k⟩ ⟨⟨hk,hx⟩,⟨hM,hB⟩,⟨u',tw⟩,hR⟩;dsimp only at hk hx hM hB u' tw hR ⊢;refine zI (λiq=> ?_) (λiq=> ?_)
 ·obtain⟨r,hrk⟩:=z6 (l:=L) (i:=k) oM;have HL:=mc hrk;obtain⟨jf,NG⟩:=hr r HL;have SW:=hs.1 r HL;obtain⟨c,b,rfl⟩:∃c b,r=c::b:=by
   cases r with
   |nil=>exact absurd rfl jf
   |cons c b=>exact⟨c,b,rfl⟩
  have NG:(zS (c.toNat:Int) b).2=0:=NG;have hc8:=yMb NG;have wc:am.wrap (c.toNat:Int)=c.toNat:=iD oM;rw[iY]at SW;refine⟨⟨oM,oM⟩,bE (c::b),z8r hrk,Cv.du.mk (λe=>by have e:=beq_iff_eq.1 e;rw[xL,iY]at e;omega) (λ_=>⟨⟨Z8,by rw[xL,iY];omega⟩,c.toNat,bK rfl,⟨Z8,by rw[xL,iY];omega⟩,⟨c.toNat,b⟩,wc.symm,rfl,Z9,λ_ _=>Cv.du.mk (λe=>by simp[NG]at e) (λ_=>⟨⟨Z8,by rw[xL,iY];omega⟩,c.toNat,bK rfl,⟨Z8,by rw[xL,iY];omega⟩,⟨o,x,p,c.toNat,b⟩,wc.symm,iH (rn ⟨rfl,⟨⟨hM,hB⟩,Z9,hc8,⟨u',Z9⟩,Z9⟩,λo2 ho=> ?_⟩)⟩)⟩)⟩;obtain⟨t1,t2,t3,t4⟩:=yAz hM hB (c.toNat:Int) b ho;exact⟨⟨o2,x.ed p c.toNat b,k+1⟩,um oM,iH (oE (jh ⟨rfl,⟨⟨Z9,by dsimp only;rw[y5s hrk,<- hx];rfl⟩,⟨ho,t1⟩,⟨Z9,Z9⟩,Z9⟩,Z9,ic⟩))⟩
 ·obtain rfl:k=L.length:=by omega
  rw[CV]at hx;subst hx;exact⟨o,by repeat'(first|exact rfl|exact hM|apply And.intro)⟩
def yQh:Sr.ok Tryz.prog 42:=ix mixed (dz ySs (dz y2k (dz zVu (dz zNm (dz zXo (dz z3k (dz z1w (dz yDq (dz yYj fx))))))))) 0 (λ_=>[]) (λi=>xCn i) [] Tryz.func42 xBo
@[reducible] def yQv:Nat:=40
structure ph where
 x:Es
 o:iO
 d:Dk
 O:List (Int×fy)
 N:List I5
def xBj (p:fj) (j:ph):List fw:=I8 p j.x j.o j.d++[.cells [.own 9,.own 10] yQv,I1 j.O,M8 j.N]
def doJ (p:fj) (e a:Nat):ib:={ι:=ph,qo:=λ_=>[(e,.nm 0 0)],nf:=λj=>I8 p j.x j.o j.d,dv:=λj=>[(e,.nm 0 0),(a,.nm 8 0)],rows:=xBj p}
def xAu (p:fj):List fw:=[.cells [sV p.code,.own 9,zB p.tick,zB p.low,zB p.high,zB p.wide,zB p.gw,zB p.top,zB p.least,zB p.part,.own 10] 25,.kh 1 (iE p.dr),.kh 1 (iE p.settle)]
def yVx {t:zz} (h:0<=t.i/\t.i<=1000000):1<=(xF t).id/\(xF t).id<=1099511627776:=by
 have:0<=zH t.c.id 0 30/\zH t.c.id 0 30<=30:=by rw[zH];omega
 rw[xF];split
 ·dsimp only;omega
 ·simp only[y9];omega
def yJy {x:fj} {c:ir} {k:Nat} (hk:k<=1000000):(xF ⟨iw x,c,k⟩).right=0:=by
 have:=yAl x c k (xF ⟨iw x,c,k⟩).id (yVx Z9);exact this
def yBa {c:ir} (h:c.right=0) (hl:c.label=[]):c.enc.length<=100:=by
 have e:c.enc=pf c.kind::(le c.id 8++c.tail):=by rw[ir.enc,dx (by simp[h])]
 have ht:c.tail.length<=60:=by
  rw[ir.tail];split
  ·simp only[iY,iQ,jB,l6,hl,oK,Al];omega
  split
  ·rw[jB];omega
  split
  ·rw[iQ,jB,jB];omega
  ·exact oQ _
 rw[e,iY,iQ,jB];omega
def yMa (p:fj) (B:List (List zE)) (U:List Int) (c:ir):∃r l,(tx p B U c).R=r::l/\(r.kind=2->(tx p B U c).B=B):=by
 rw[tx];split
 ·exact⟨_,_,rfl,λ_=>rfl⟩
 split
 ·rw[bR]
  iterate 5 (split;·exact⟨_,_,rfl,λ_=>rfl⟩)
  obtain⟨r,l,h1,h2,_⟩:=(z5w p B U c).2;exact⟨r,l,h1,λe=>by omega⟩
 split
 ·exact⟨_,_,rfl,λ_=>rfl⟩
 split
 ·rw[uB];split
  ·exact⟨_,_,rfl,λ_=>rfl⟩
  split
  ·rw[uQ];exact⟨_,_,rfl,λe=>by simp at e⟩
  split
  ·exact⟨_,_,rfl,λ_=>rfl⟩
  rw[jV];exact⟨_,_,rfl,λe=>by simp at e⟩
 split
 ·rw[jV];exact⟨_,_,rfl,λe=>by simp at e⟩
 ·rw[uQ];exact⟨_,_,rfl,λe=>by simp at e⟩
def yAb (p:fj) (B:List (List zE)) (U:List Int) (W:List (Int×Int)) (s:Int) (b:List UInt8):∃o l,(wE p B U W s b).O=o::l/\(o.2.kind=2->(wE p B U W s b).B=B):=by
 rw[wE];split
 ·exact⟨_,_,rfl,λ_=>rfl⟩
 split
 ·exact⟨_,_,rfl,λ_=>rfl⟩
 rw[Kx];split
 ·exact⟨_,_,rfl,λ_=>rfl⟩
 split
 ·exact⟨_,_,rfl,λ_=>rfl⟩
 obtain⟨r,l,h1,h2⟩:=yMa p B U (xS b).1;dsimp only;rw[h1];dsimp only[sN];refine⟨_,_,rfl,λe=>h2 ?_⟩;exact e
def yMf (x:Es) (p:fj) (s:Int) (b:List UInt8):∃o l,(x.X p s b).O=o::l/\(o.2.kind=2->x.M p s b=[]):=by
 obtain⟨o,l,h1,h2⟩:=yAb p x.B x.U x.W s b;refine⟨o,l,h1,λe=> ?_⟩;rw[Es.M,Es.X,h2 e];exact yFb 0 _
structure CG (p:fj) (x:Es) (d:Dk) (j:ph):Prop where
 r:j.o.fy p j.x.B j.x.U
 ok:jo p j.x.B
 q1:x.q<=j.x.q
 q2:j.x.q<=x.q+202000000
 n:j.x.R.length<=x.R.length+1
 d:j.d.b.length<=d.b.length+107
 m:∃M:List VM,j.N=vJ x.q M/\j.x.q=x.q+(M.length:Int)
 t:∃o l,j.O=o::l/\(o.2.kind=2->j.N=[])
def CG.bad {p:fj} {x:Es} {d:Dk} {o:iO} (h1:o.fy p x.B x.U) (h2:jo p x.B) (s w:Int):CG p x d ⟨x,o,d,[(s,⟨2,0,0,0,0,0,0,w⟩)],[]⟩:=
 ⟨h1,h2,yl _,Z9,Z9,Z9,⟨[],rfl,by simp⟩,⟨_,_,rfl,λ_=>rfl⟩⟩
def CG.qn {p:fj} {x:Es} {d:Dk} {o o2:iO} (h1:o.fy p x.B x.U) (h2:jo p x.B) {s:Int} {b:List UInt8} (hb:b.length<=100) (h3:o2.fy p (x.X p s b).B (x.X p s b).U):
 CG p x d ⟨x.ed p s b,o2,⟨d.b++jA (lU s b),d.safe⟩,(x.X p s b).O,vJ x.q (x.M p s b)⟩:=by
 obtain⟨t1,t2,t3,t4⟩:=yAz h1 h2 s b h3;refine⟨h3,t1,t2,t3,Z9,?_,⟨_,rfl,rfl⟩,?_⟩
 ·dsimp only;rw[iQ,bY,lU,iY];omega
 ·obtain⟨o,l,e1,e2⟩:=yMf x p s b;exact⟨o,l,e1,λe=>by rw[e2 e];rfl⟩
def Au:gx:=Tx 2
structure RC where
 g:Gt
 p:fj
 B:List (List zE)
 U:List Int
def So:gx:=gh RC (λ_=>[.nm 0 0]) (λi=>[nk i.g]) (λi=>i.g.m.fy i.p i.B i.U/\jo i.p i.B) (λ_=> .nm 1 0) (λi=>[nk i.g,nk i.g])
def yXg (es:List (bc×List D)):Prop:=
 ∃(i:List (bc×List D)),i=es/\True/\∀(o:Unit),True->∃(o:Unit),es=i/\es=i/\True
def y0r (es:List (bc×List D)):yXg es=walk Tryz.prog ([(174,vQ 100)]) 0 ([]) ([]) [] Tryz.f124 (Tryz.f124.body.getD .skip) (Au.pat es) (Au.pre es) (Au.alts es):=by kernel_rfl
def y2e (hG:Bs Tryz.prog ([(174,vQ 100)])) (h:∀(es:List (bc×List D)),Au.du es->yXg es):Au.ok Tryz.prog 124:=vV mixed ([(174,vQ 100)]) hG 0 (λ(es:List (bc×List D))=>[]) (λ(es:List (bc×List D))=>[]) [] Tryz.func124 (by kernel_rfl) (by kernel_rfl) (by kernel_rfl) (λ_=>by kernel_rfl) (λ(es:List (bc×List D)) hc=>Eq.mp (y0r es) (h es hc))
def xCb (i:RC):Prop:=
 ∃(iC:D3),ae iO 5 yN iC.m=ae iO 5 yN i.g.m/\(iC.m.fy iC.p iC.B iC.U/\jo iC.p iC.B)/\∀(o:Unit),True->True/\∃(oy:List (bc×List D)),oy=xP i.g.W/\True/\∀(o:Unit),True->∃(o:Unit),ae iO 5 yN i.g.m=ae iO 5 yN iC.m/\xP i.g.W=oy/\ae iO 5 yN i.g.m=ae iO 5 yN iC.m/\xP i.g.W=oy/\True
def yWq:Au.ok Tryz.prog 124:=y2e (dz (UW _) fx) λes _=>⟨es,rfl,trivial,λ_ _=>⟨(),rfl,rfl,trivial⟩⟩
def Mm:So.ok Tryz.prog 63:=ix (V:=xCb) mixed (dz z4a (dz yWq fx)) 0 (λ_=>[]) (λ_=>[]) [0] Tryz.func63 λ(i:RC) h=>⟨⟨i.g.m,i.p,i.B,i.U⟩,rfl,h,λ_ _=>⟨trivial,xP i.g.W,rfl,trivial,λ_ _=>⟨(),oT trivial⟩⟩⟩
structure Bv (p:fj) (x:Es) (d:Dk) (s:Int) (b:List UInt8) (j:ph):Prop where
 a:CG p x d j
 c:((zS s b).2≠0/\j.x=x/\j.d=d/\j.O=[(s,⟨2,0,0,0,0,0,0,(zS s b).2⟩)]/\j.N=[])\/((zS s b).2=0/\j.x=x.ed p s b/\j.d=⟨d.b++jA (lU s b),d.safe⟩/\j.O=(x.X p s b).O/\j.N=vJ x.q (x.M p s b))
def Bv.bad {p:fj} {x:Es} {d:Dk} {o:iO} (h1:o.fy p x.B x.U) (h2:jo p x.B) {s:Int} {b:List UInt8} (h:(zS s b).2≠0):Bv p x d s b ⟨x,o,d,[(s,⟨2,0,0,0,0,0,0,(zS s b).2⟩)],[]⟩:=⟨CG.bad h1 h2 s _,.inl ⟨h,jh rfl⟩⟩
def Bv.qn {p:fj} {x:Es} {d:Dk} {o o2:iO} (h1:o.fy p x.B x.U) (h2:jo p x.B) {s:Int} {b:List UInt8} (hb:b.length<=100) (h:(zS s b).2=0) (h3:o2.fy p (x.X p s b).B (x.X p s b).U):
 Bv p x d s b ⟨x.ed p s b,o2,⟨d.b++jA (lU s b),d.safe⟩,(x.X p s b).O,vJ x.q (x.M p s b)⟩:=⟨CG.qn h1 h2 hb h3,.inr ⟨h,jh rfl⟩⟩
def LW:gx:=gh Ru (λi=>[.nm 0 0,sV i.s]) (λi=>[Wr i.l]) (λi=>i.l.length+300<=1099511627776/\i.s.length<=255) (λ_=>EX) (λi=>[Wr (i.l++l6 i.s)])
def JV:gx:=gh ir (λc=>[CP c]) (λ_=>[]) (λc=>c.label=[]/\c.right=0) (λc=> .jm [ru 1 (bE c.enc),zB 0]) (λ_=>[])
structure W0 where
 l:List Int
 k:Nat
def BY (l:List Int) (k:Nat):Int:=match l[k]? with
 |some s=>zH s 0 3
 |none=>0
def RF:gx:=gh W0 (λi=>[ru 1 (iE i.l),zB i.k]) (λ_=>[]) (λi=>(∀s∈i.l,ie s)/\i.k<=1000000) (λi=>zB (BY i.l i.k)) (λ_=>[])
def RH:gx:=gh zz (λt=>[oa t.p,CP t.c,zB t.i]) (λ_=>[]) (λt=>(∃x,t.p=iw x)/\t.c.raw/\0<=t.i/\t.i<=1000000) (λt=>ru 1 (bE (xF t).enc)) (λ_=>[])
def Sp:gx where
 ι:=fj
 pat:=λp=>[oa p]
 pre:=λ_=>[]
 du:=λp=>p.check=0/\p.small
 alts:=λp=>[{o:=iO,res:=λ_=> .jm [.nm 0 0,.nm 3 0,y4 ar],post:=λo=>I8 p (wz p) o ⟨[],0⟩,rel:=λo=>o.fy p (wz p).B (wz p).U}]
def awC:gx:=gh fj (λ_=>[]) (λ_=>[]) (λp=>p=cY 2) (λ_=>y4 ar) (λ_=>[])
def y2b:List (Nat×ib):=[(4,{ι:=Unit,dv:=λ_=>[],rows:=λ_=>[],C1:=[0]})]
def awJ (p:fj):List (Nat×ib):=[(20,doJ p 2 4),(24,doJ p 2 5),(28,doJ p 2 6)]
def zPt {s:Int} (h0:0<=s/\s<8) {c:ir} (h:c.right=0):(zS s c.enc).2=0:=by
 rw[zS,dx (by omega),yCh h]
def NB:ir:=⟨1,1,3,2,5,4,0,1,[]⟩
def NA:ir:=⟨1,2,1,2,500,6,0,1,[]⟩
def K6:ir:=⟨1,3,0,1,505,9,0,1,[]⟩
def yXp:NB.right=0:=by decide+kernel
def yXz:NA.right=0:=by decide+kernel
def yYb:K6.right=0:=by decide+kernel
def aw1:Es:=(wz (cY 2)).ed (cY 2) 0 NB.enc
def aw2:Es:=aw1.ed (cY 2) 1 NA.enc
def xCe:((wz (cY 2)).X (cY 2) 0 NB.enc).O.length=1:=by decide+kernel
def xAz:(aw1.X (cY 2) 1 NA.enc).O.length=1:=by decide+kernel
def xBk:(aw2.X (cY 2) 2 K6.enc).O.length=6/\((aw2.X (cY 2) 2 K6.enc).O.getD 5 (0,⟨0,0,0,0,0,0,0,0⟩)).2=⟨3,3,0,1,505,4,5,0⟩/\(aw2.M (cY 2) 2 K6.enc).length≠0:=by decide+kernel
structure zy where
 x:fj
 p:fj
 l:List ir
 ss:List Int
@[reducible] def zy.ok (i:zy):Prop:=i.p=iw i.x/\i.x.raw/\(∀c∈i.l,c.raw)/\(∀s∈i.ss,ie s)/\i.l.length<=9223372036854775807/\i.ss.length<=9223372036854775807
def tpC:gx:=gh zy (λi=>[oa i.x,ru 9 (i.l.map Af),ru 1 (iE i.ss)]) (λ_=>[]) (λi=>i.ok) (λ_=>y4 ar) (λ_=>[])
structure Un (p:fj) (T:List iS):Prop where
 d:∀n,n<p.count->(T.getD n fq).gp=ar->(T.getD n fq).gj=ar->(T.getD n fq).p1<(T.getD n fq).p2
 x:∀{a b k},Hf p a b k->(T.getD a fq).gp=ar->(T.getD b fq).gj=ar->(T.getD k fq).gj=ar->(T.getD a fq).p1-(T.getD b fq).p2<(T.getD k fq).p2
 y:∀{a b k},Hf p a b k->(T.getD a fq).gj=ar->(T.getD b fq).gp=ar->(T.getD k fq).gp=ar->(T.getD k fq).p1<(T.getD a fq).p2-(T.getD b fq).p1
def Wrs (T T':List iS):Prop:=∀n,((T'.getD n fq).gp=ar->(T.getD n fq).gp=ar/\(T'.getD n fq).p1<=(T.getD n fq).p1)/\((T'.getD n fq).gj=ar->(T.getD n fq).gj=ar/\(T.getD n fq).p2<=(T'.getD n fq).p2)
def Un.Px {p:fj} {T T':List iS} (h:Un p T) (w:Wrs T T'):Un p T':=by
 refine⟨λn hn h1 h2=> ?_,λ{a b k} t h1 h2 h3=> ?_,λ{a b k} t h1 h2 h3=> ?_⟩
 ·obtain⟨u1,u2⟩:=(w n).1 h1;obtain⟨v1,v2⟩:=(w n).2 h2;have:=h.d n hn u1 v1;omega
 ·obtain⟨u1,u2⟩:=(w a).1 h1;obtain⟨v1,v2⟩:=(w b).2 h2;obtain⟨w1,w2⟩:=(w k).2 h3;have:=h.x t u1 v1 w1;omega
 ·obtain⟨u1,u2⟩:=(w a).2 h1;obtain⟨v1,v2⟩:=(w b).1 h2;obtain⟨w1,w2⟩:=(w k).1 h3;have:=h.y t u1 v1 w1;omega
def Un.ps {p:fj} (hc:p.check=0) {T:List iS} (h:Un p T) (hs:aX T) (hT:T.length=p.count) {n:Nat} (hn:n<p.count) {v:Int}:
 (PS p T n 1 v->(T.getD n fq).gj=ar->v<(T.getD n fq).p2)/\(PS p T n 2 v->(T.getD n fq).gp=ar->(T.getD n fq).p1<v):=by
 by_cases hm:p.dr.length<=n
 ·obtain⟨a,b,t⟩:=VX hc hn hm;refine⟨λhv h2=> ?_,λhv h1=> ?_⟩
  ·obtain⟨q1,q2,rfl⟩:=(IT hc hs hT t).1 hv;exact h.x t q1 q2 h2
  ·obtain⟨q1,q2,rfl⟩:=(IT hc hs hT t).1 hv;exact h.y t q1 q2 h1
 ·refine⟨λhv h2=> ?_,λhv h1=> ?_⟩
  ·rcases(aU hc hs hT oM).1 hv with⟨b,k,t,q1,q2,rfl⟩|⟨a,k,t,q1,q2,rfl⟩
   ·have:=h.y t h2 q2 q1;simp only[uR];omega
   ·have:=h.x t q2 h2 q1;simp only[uR,show(3:Int)-1=2 by decide,fB];omega
  ·rcases(aU hc hs hT oM).1 hv with⟨b,k,t,q1,q2,rfl⟩|⟨a,k,t,q1,q2,rfl⟩
   ·have:=h.x t h1 q2 q1;simp only[fB];omega
   ·have:=h.y t q2 h1 q1;simp only[fB,show(3:Int)-2=1 by decide,uR];omega
def Hf.ne {p:fj} {a b k:Nat} (t:Hf p a b k):a≠b/\a≠k/\b≠k/\a<p.dr.length/\b<p.dr.length:=by
 have:=t.vc;have:=t.hb;have:=t.hm;omega
def Un.aa4 {p:fj} (hc:p.check=0) {T T':List iS} (h:Un p T) (hs:aX T) (hT:T.length=p.count) {n:Nat} (ho:∀m,m≠n->T'.getD m fq=T.getD m fq)
 (h2:(T'.getD n fq).gj=ar->(T.getD n fq).gj=ar/\(T.getD n fq).p2<=(T'.getD n fq).p2)
 (h1:(T'.getD n fq).gp=ar->((T.getD n fq).gj=ar->(T'.getD n fq).p1<(T.getD n fq).p2)/\∀v,PS p T n 2 v->(T'.getD n fq).p1<v):Un p T':=by
 refine⟨λm hm g1 g2=> ?_,λ{a b k} t g1 g2 g3=> ?_,λ{a b k} t g1 g2 g3=> ?_⟩
 ·by_cases e:m=n
  ·subst e;have:=(h1 g1).1 (h2 g2).1;have:=(h2 g2).2;omega
  ·rw[ho m e]at g1 g2 ⊢;exact h.d m hm g1 g2
 ·obtain⟨n1,n2,n3,n4,n5⟩:=t.ne;by_cases e:a=n
  ·subst e;rw[ho b (bg n1)]at g2 ⊢;rw[ho k (bg n2)]at g3 ⊢;have:=(h1 g1).2 _ ((aU hc hs hT n4).2 (.inl ⟨b,k,t,g3,g2,rfl⟩));simp only[fB]at this;omega
  ·rw[ho a e]at g1 ⊢;have gb:(T.getD b fq).gj=ar/\(T.getD b fq).p2<=(T'.getD b fq).p2:=by
    by_cases eb:b=n
    ·subst eb;exact h2 g2
    ·rw[ho b eb]at g2 ⊢;exact⟨g2,yl _⟩
   have gk:(T.getD k fq).gj=ar/\(T.getD k fq).p2<=(T'.getD k fq).p2:=by
    by_cases eb:k=n
    ·subst eb;exact h2 g3
    ·rw[ho k eb]at g3 ⊢;exact⟨g3,yl _⟩
   have:=h.x t g1 gb.1 gk.1;omega
 ·obtain⟨n1,n2,n3,n4,n5⟩:=t.ne;by_cases eb:b=n
  ·subst eb;rw[ho a n1]at g1 ⊢;rw[ho k (bg n3)]at g3 ⊢;have:=(h1 g2).2 _ ((aU hc hs hT n5).2 (.inr ⟨a,k,t,g3,g1,rfl⟩));simp only[fB,show(3:Int)-2=1 by decide,uR]at this;omega
  by_cases ek:k=n
  ·subst ek;rw[ho a n2]at g1 ⊢;rw[ho b n3]at g2 ⊢;have:=(h1 g3).2 _ ((IT hc hs hT t).2 ⟨g1,g2,rfl⟩);simp only[fB,show(3:Int)-2=1 by decide,uR]at this;omega
  rw[ho b eb]at g2 ⊢;rw[ho k ek]at g3 ⊢;have ga:(T.getD a fq).gj=ar/\(T.getD a fq).p2<=(T'.getD a fq).p2:=by
   by_cases ea:a=n
   ·subst ea;exact h2 g1
   ·rw[ho a ea]at g1 ⊢;exact⟨g1,yl _⟩
  have:=h.y t ga.1 g2 g3;omega
def Un.aa3 {p:fj} (hc:p.check=0) {T T':List iS} (h:Un p T) (hs:aX T) (hT:T.length=p.count) {n:Nat} (ho:∀m,m≠n->T'.getD m fq=T.getD m fq)
 (h1:(T'.getD n fq).gp=ar->(T.getD n fq).gp=ar/\(T'.getD n fq).p1<=(T.getD n fq).p1)
 (h2:(T'.getD n fq).gj=ar->((T.getD n fq).gp=ar->(T.getD n fq).p1<(T'.getD n fq).p2)/\∀v,PS p T n 1 v->v<(T'.getD n fq).p2):Un p T':=by
 refine⟨λm hm g1 g2=> ?_,λ{a b k} t g1 g2 g3=> ?_,λ{a b k} t g1 g2 g3=> ?_⟩
 ·by_cases e:m=n
  ·subst e;have:=(h2 g2).1 (h1 g1).1;have:=(h1 g1).2;omega
  ·rw[ho m e]at g1 g2 ⊢;exact h.d m hm g1 g2
 ·obtain⟨n1,n2,n3,n4,n5⟩:=t.ne;by_cases eb:b=n
  ·subst eb;rw[ho a n1]at g1 ⊢;rw[ho k (bg n3)]at g3 ⊢;have:=(h2 g2).2 _ ((aU hc hs hT n5).2 (.inr ⟨a,k,t,g3,g1,rfl⟩));simp only[uR,show(3:Int)-1=2 by decide,fB]at this;omega
  by_cases ek:k=n
  ·subst ek;rw[ho a n2]at g1 ⊢;rw[ho b n3]at g2 ⊢;have:=(h2 g3).2 _ ((IT hc hs hT t).2 ⟨g1,g2,rfl⟩);simp only[uR,show(3:Int)-1=2 by decide,fB]at this;omega
  rw[ho b eb]at g2 ⊢;rw[ho k ek]at g3 ⊢;have ga:(T.getD a fq).gp=ar/\(T'.getD a fq).p1<=(T.getD a fq).p1:=by
   by_cases ea:a=n
   ·subst ea;exact h1 g1
   ·rw[ho a ea]at g1 ⊢;exact⟨g1,yl _⟩
  have:=h.x t ga.1 g2 g3;omega
 ·obtain⟨n1,n2,n3,n4,n5⟩:=t.ne;by_cases e:a=n
  ·subst e;rw[ho b (bg n1)]at g2 ⊢;rw[ho k (bg n2)]at g3 ⊢;have:=(h2 g1).2 _ ((aU hc hs hT n4).2 (.inl ⟨b,k,t,g3,g2,rfl⟩));simp only[uR]at this;omega
  ·rw[ho a e]at g1 ⊢;have gb:(T.getD b fq).gp=ar/\(T'.getD b fq).p1<=(T.getD b fq).p1:=by
    by_cases eb:b=n
    ·subst eb;exact h1 g2
    ·rw[ho b eb]at g2 ⊢;exact⟨g2,yl _⟩
   have gk:(T.getD k fq).gp=ar/\(T'.getD k fq).p1<=(T.getD k fq).p1:=by
    by_cases eb:k=n
    ·subst eb;exact h1 g3
    ·rw[ho k eb]at g3 ⊢;exact⟨g3,yl _⟩
   have:=h.y t g1 gb.1 gk.1;omega
def Ou {L:List zE} {s:Int} (hs:B0 s (jY L s)) (h:(gm L s).2=ar):(∃o∈L,o.side=s/\o.dp=(gm L s).1.dp)/\∀o∈L,o.side=s->jj s o.dp (gm L s).1.dp=au:=by
 have e:x7 L s=qg (jY L s):=rfl;cases hg:qg (jY L s)with
 |nil=>rw[gm,e,hg]at h;cases h
 |cons v vs=>
  obtain⟨o,r,ho,hp⟩:=rI hg;have hb:(gm L s).1=v:=by rw[gm,e,hg]
  rw[hb,<- hp];have hm:∀x,x∈jY L s↔x∈L/\x.side=s:=λx=>by rw[jY,qk,sm]
  refine⟨⟨o,((hm o).1 (by rw[ho];exact jg)).1,((hm o).1 (by rw[ho];exact jg)).2,rfl⟩,λx hx we=> ?_⟩;have DU:=(hm x).2 ⟨hx,we⟩;rw[ho]at hs DU;rcases ku.1 DU with rfl|DU
  ·rw[jj];split<;>exact jq oM
  ·exact(Ew.1 hs).1 x DU
def z3d {L:List zE} {s:Int} {o:zE} (ho:o∈L) (wy:o.side=s):(gm L s).2=ar:=by
 have hm:o∈jY L s:=qk.2 ⟨ho,by simpa using wy⟩;obtain⟨v,vs,h⟩:=yKz (A:=jY L s) (by intro e;rw[e]at hm;cases hm);have e:x7 L s=qg (jY L s):=rfl;rw[gm,e,h]
def LV {x y:Int}:jj 1 x y=au↔x<=y:=by simp[jj]
def LU {x y:Int}:jj 2 x y=au↔y<=x:=by simp[jj]
def py (B B':List (List zE)):Prop:=∀(k:Nat) (L':List zE),B'[k]?=ay L'->∃L,B[k]?=ay L/\∀o∈L',∃o'∈L,o.dp=o'.dp/\o.side=o'.side
def py.refl (B:List (List zE)):py B B:=λk L h=>⟨L,h,λo ho=>⟨o,ho,rfl,rfl⟩⟩
def py.trans {A B C:List (List zE)} (h:py A B) (h2:py B C):py A C:=λk L hL=>by
 obtain⟨M,hM,m⟩:=h2 k L hL;obtain⟨N,hN,n⟩:=h k M hM;refine⟨N,hN,λo ho=> ?_⟩;obtain⟨o',ln,e1,e2⟩:=m o ho;obtain⟨o2,Jz,e3,e4⟩:=n o' ln;exact⟨o2,Jz,e1.trans e3,e2.trans e4⟩
def py.take (B:List (List zE)) (id q:Int):py B (yZ B id q).1:=by
 rw[yZ];split
 ·exact .refl B
 ·rename_i k hk;obtain⟨M,hM,_⟩:=xR hk;intro j L hL;dsimp only at hL;rcases uO hL with⟨rfl,rfl⟩|⟨_,hL⟩
  ·rw[zJ hM];refine⟨M,hM,λo ho=> ?_⟩;obtain⟨o',ln,e1,e2,_⟩:=Ud ho;exact⟨o',ln,e1,e2⟩
  ·exact⟨L,hL,λo ho=>⟨o,ho,rfl,rfl⟩⟩
def py.takes:∀(fs:List uV) (B:List (List zE)),py B (y8 B fs)
 |[],B=> .refl B
 |f::fs,B=>(py.take B f.id f.dq).trans (py.takes fs _)
def py.run {p:fj} {inst:Int} {sd:Bool} {dp:Int}:∀(m:Nat) (q:Int) (B:List (List zE)),q.toNat<=m->py B (qC p B inst sd dp q).B
 |m,q,B,hm=>by
  by_cases hq:q<=0
  ·rw[jS (.inl hq)];exact .refl B
  cases hs:wJ p B inst sd dp q with
  |none=>rw[jS (.inr hs)];exact .refl B
  |some x=>
   obtain⟨t,C⟩:=x;have tw:=rD oM hs;cases m with
   |zero=>omega
   |succ m=>
   rw[aP (by omega) hs];have:=zPw hs;subst this;exact(py.takes t.ig B).trans (py.run m (q-t.dq) _ oM)
def lu.RL {p:fj} {B:List (List zE)} (h:lu p B) (n:Nat) {s:Int} (hs:s=1\/s=2):B0 s (jY (B.getD n []) s):=by
 rw[mi];cases e:B[n]? with
 |none=>exact List.Pairwise.nil
 |some L=>exact h.uo n L e s hs
def py.Px {p:fj} {B B':List (List zE)} (h:lu p B) (h':lu p B') (s:py B B'):Wrs (B.map yS) (B'.map yS):=by
 have key:∀(n:Nat) (z:Int),z=1\/z=2->(gm (B'.getD n []) z).2=ar->(gm (B.getD n []) z).2=ar/\jj z (gm (B'.getD n []) z).1.dp (gm (B.getD n []) z).1.dp=au:=by
  intro n z hz hh;obtain⟨⟨o,ho,wy,HO⟩,_⟩:=Ou (h'.RL n hz) hh;cases e:B'[n]? with
  |none=>
   rw[mi,e]at ho;cases ho
  |some L'=>
   obtain⟨L,hL,hm⟩:=s n L' e;rw[zJ e]at ho HO ⊢;rw[zJ hL];obtain⟨o',ln,e1,e2⟩:=hm o ho;have hb:=z3d ln (e2.symm.trans wy);refine⟨hb,?_⟩;rw[<- HO,e1];exact(Ou (h.uo n L hL z hz) hb).2 o' ln (e2.symm.trans wy)
 intro n;obtain⟨a1,_,a3⟩:=gN B n 1 (.inl rfl);obtain⟨b1,_,b3⟩:=gN B n 2 (.inr rfl);obtain⟨c1,_,c3⟩:=gN B' n 1 (.inl rfl);obtain⟨d1,_,d3⟩:=gN B' n 2 (.inr rfl);rw[V1,uR]at*;refine⟨λg=> ?_,λg=> ?_⟩
 ·have g':(gm (B'.getD n []) 1).2=ar:=c1▸g;obtain⟨k1,k2⟩:=key n 1 (.inl rfl) g';refine⟨a1.trans k1,?_⟩;have:((B.map yS).getD n fq).p1=_:=a3;have:((B'.map yS).getD n fq).p1=_:=c3;have:=LV.1 k2;omega
 ·have g':(gm (B'.getD n []) 2).2=ar:=d1▸g;obtain⟨k1,k2⟩:=key n 2 (.inr rfl) g';refine⟨b1.trans k1,?_⟩;have:((B.map yS).getD n fq).p2=_:=b3;have:((B'.map yS).getD n fq).p2=_:=d3;have:=LU.1 k2;omega
def lu.small {p:fj} {B:List (List zE)} (h:lu p B):aX (B.map yS):=by
 have key:∀(n:Nat) (z:Int),z=1\/z=2->-2000000<=((B.map yS).getD n fq).dp z/\((B.map yS).getD n fq).dp z<=2000000:=by
  intro n z hz;rw[(gN B n z hz).2.2];cases c:(gm (B.getD n []) z).2 with
  |false=>
   have:(gm (B.getD n []) z).1.dp=0:=by
    rw[gm]at c ⊢;split at c
    ·rfl
    ·cases c
   omega
  |true=>
   obtain⟨⟨o,ho,_,HO⟩,_⟩:=Ou (h.RL n hz) c;rw[<- HO];cases e:B[n]? with
   |none=>rw[mi,e]at ho;cases ho
   |some L=>
    rw[zJ e]at ho;exact h.ok.xf e o ho
 intro n z;by_cases hz:z=1
 ·exact key n z (.inl hz)
 ·have:((B.map yS).getD n fq).dp z=((B.map yS).getD n fq).dp 2:=by rw[iS.dp,dx hz];rfl
  rw[this];exact key n 2 (.inr rfl)
def yCy {p:fj} {inst:Int} {sd:Bool} {dp:Int}:∀(m:Nat) (q:Int) (B:List (List zE)),q.toNat<=m->lu p B->0<=inst/\inst<B.length->0<=q->1<=(qC p B inst sd dp q).left->C8 p (qC p B inst sd dp q).B inst sd dp=au
 |m,q,B,hm,h,hi,hq0,hl=>by
  by_cases hq:q<=0
  ·rw[jS (.inl hq)]at hl;dsimp only at hl;omega
  cases hs:wJ p B inst sd dp q with
  |none=>
   rw[jS (.inr hs)];dsimp only;cases hg:C8 p B inst sd dp with
   |false=>rfl
   |true=>
    obtain⟨t,C,a1,_⟩:=z4h h hi hg (q:=q) oM;rw[a1]at hs;cases hs
  |some x=>
   obtain⟨t,C⟩:=x;have WA:=rD oM hs;obtain⟨hW,WM⟩:=Vn h hs;cases m with
   |zero=>omega
   |succ m=>
   rw[aP (by omega) hs]at hl ⊢;exact yCy m (q-t.dq) C oM hW (by rw[WM];exact hi) oM hl
def yIv {p:fj} {B:List (List zE)} (h:lu p B) {inst:Int} (hi:0<=inst/\inst<B.length) {sd:Bool} {dp:Int} (hg:C8 p B inst sd dp=au) (hb:(gm (B.getD inst.toNat []) (zA (!sd))).2=ar):wA sd dp (gm (B.getD inst.toNat []) (zA (!sd))).1.dp=au:=by
 rw[y0y h hi,z7]at hg;split at hg
 ·simpa using hg
 ·rename_i c;rw[hb]at c;simp only[qj,HA,Bool.and_eq_false_iff,not_or,Bool.not_eq_false]at c;rw[c.1]at hg;have hg:wA sd dp (zN (yC ⟨p,B.map yS,inst⟩ (zA (!sd))) (zA (!sd))).1.dp=au:=by simpa using hg
  have c2:=c.2;cases sd with
  |false=>
   have c2:jj 2 _ _=ar:=c2;simp[jj]at c2;simp[wA]at hg ⊢;omega
  |true=>
   have c2:jj 1 _ _=ar:=c2;simp[jj]at c2;simp[wA]at hg ⊢;omega
def yRf {L:List zE} {s id pr q:Int} {o:zE} (h:o∈Cf L s id pr q):(o.side=s/\o.dp=pr)\/∃o'∈L,o.dp=o'.dp/\o.side=o'.side:=by
 have hX:∀X:List zE,(∀y∈X,∃o'∈L,y.dp=o'.dp/\y.side=o'.side)->∀b,o∈X.takeWhile (before s pr)++⟨id,s,pr,q,b⟩::X.dropWhile (before s pr)->(o.side=s/\o.dp=pr)\/∃o'∈L,o.dp=o'.dp/\o.side=o'.side:=by
  intro X hx b hm;rcases qq.1 hm with hm|hm
  ·exact .inr (hx o ((List.takeWhile_sublist _).mem hm))
  ·rcases ku.1 hm with rfl|hm
   ·exact .inl ⟨rfl,rfl⟩
   ·exact .inr (hx o ((List.dropWhile_sublist _).mem hm))
 rw[Cf]at h;refine hX _ ?_ _ h;split
 ·intro y hy;obtain⟨z,hz,rfl⟩:=oe.1 hy;exact⟨z,hz,by split<;>exact⟨rfl,rfl⟩⟩
 ·exactλy hy=>⟨y,hy,rfl,rfl⟩
def Un.add {p:fj} {B:List (List zE)} (h:lu p B) {inst id:Int} {sd:Bool} {dp q:Int} (hi:0<=inst/\inst<B.length) (C7:lu p (lZ p B inst id (zA sd) dp q).1) (hU:Un p (B.map yS))
 (hd:(gm (B.getD inst.toNat []) (zA (!sd))).2=ar->wA sd dp (gm (B.getD inst.toNat []) (zA (!sd))).1.dp=au) (hq:∀x∈qM ⟨p,B.map yS,inst⟩ (zA (!sd)),wA sd dp x.dp=au):Un p ((lZ p B inst id (zA sd) dp q).1.map yS):=by
 obtain⟨k,rfl⟩:∃k:Nat,inst=k:=⟨inst.toNat,oM⟩
 obtain⟨L,hL⟩:=z6 (l:=B) (i:=k) oM;have hk:=(ju.1 hL).1;have wg:=h.ok.bl;have hc:=h.ok.pc;have hT:(B.map yS).length=p.count:=by rw[iz];exact wg
 obtain⟨M,hM,hMm⟩:∃M,(lZ p B k id (zA sd) dp q).1=B.set k M/\∀o∈M,(o.side=zA sd/\o.dp=dp)\/∃o'∈L,o.dp=o'.dp/\o.side=o'.side:=by
  have self:∃M,B=B.set k M/\∀o∈M,(o.side=zA sd/\o.dp=dp)\/∃o'∈L,o.dp=o'.dp/\o.side=o'.side:=⟨L,(kL hL).symm,λo ho=> .inr ⟨o,ho,rfl,rfl⟩⟩
  rw[lZ];split
  ·exact self
  split
  ·exact self
  split
  ·exact self
  split
  ·exact self
  refine⟨_,by rw[ml],λo ho=> ?_⟩;rw[zJ hL,lS]at ho;split at ho
  ·exact .inr ⟨o,ho,rfl,rfl⟩
  split at ho
  ·exact .inr ⟨o,ho,rfl,rfl⟩
  split at ho
  ·exact .inr ⟨o,ho,rfl,rfl⟩
  exact yRf ho
 rw[hM]at C7 ⊢;have gk:(B.set k M).getD k []=M:=zJ (uM hk);have gL:B.getD k []=L:=zJ hL;rw[ml,gL]at hd;have ho:∀m,m≠k->((B.set k M).map yS).getD m fq=(B.map yS).getD m fq:=λm hm=>by
  rw[mi,mi,uz,uz,List.getElem?_set_ne (bg hm)]
 obtain⟨a1,_,a3⟩:=gN B k 1 (.inl rfl);obtain⟨b1,_,b3⟩:=gN B k 2 (.inr rfl);obtain⟨c1,_,c3⟩:=gN (B.set k M) k 1 (.inl rfl);obtain⟨d1,_,d3⟩:=gN (B.set k M) k 2 (.inr rfl);rw[gL]at a1 a3 b1 b3;rw[gk]at c1 c3 d1 d3;have a1:((B.map yS).getD k fq).gp=_:=a1;have a3:((B.map yS).getD k fq).p1=_:=a3;have b1:((B.map yS).getD k fq).gj=_:=b1;have b3:((B.map yS).getD k fq).p2=_:=b3;have c1:(((B.set k M).map yS).getD k fq).gp=_:=c1;have c3:(((B.set k M).map yS).getD k fq).p1=_:=c3;have d1:(((B.set k M).map yS).getD k fq).gj=_:=d1;have d3:(((B.set k M).map yS).getD k fq).p2=_:=d3;have Nx:∀z,z=1\/z=2->(gm M z).2=ar->((gm L z).2=ar/\jj z (gm M z).1.dp (gm L z).1.dp=au)\/(z=zA sd/\(gm M z).1.dp=dp):=by
  intro z hz hh;obtain⟨⟨o,ho,wy,HO⟩,_⟩:=Ou (C7.uo k M (uM hk) z hz) hh;rcases hMm o ho with⟨e1,e2⟩|⟨o',ln,e1,e2⟩
  ·exact .inr ⟨wy.symm.trans e1,HO.symm.trans e2⟩
  ·have hb:=z3d ln (e2.symm.trans wy);refine .inl ⟨hb,?_⟩;rw[<- HO,e1];exact(Ou (h.uo k L hL z hz) hb).2 o' ln (e2.symm.trans wy)
 cases sd with
 |false=>
  have e1:zA (!false)=2:=rfl;have e2:zA au=1:=rfl;rw[e1]at hd hq;rw[e2]at Nx;refine hU.aa4 hc h.small hT (n:=k) ho (λg=> ?_) (λg=> ?_)
  ·rcases Nx 2 (.inr rfl) (d1▸g)with⟨x,y⟩|⟨x,_⟩
   ·have:=LU.1 y;exact⟨b1.trans x,oM⟩
   ·cases x
  ·rcases Nx 1 (.inl rfl) (c1▸g)with⟨x,y⟩|⟨_,y⟩
   ·have y:=LV.1 y;have hx:((B.map yS).getD k fq).gp=ar:=a1.trans x;refine⟨λg2=> ?_,λv hv=> ?_⟩
    ·have:=hU.d k oM hx g2;omega
    ·have:=(hU.ps hc h.small hT (n:=k) oM (v:=v)).2 hv hx;omega
   ·refine⟨λg2=> ?_,λv hv=> ?_⟩
    ·have:=hd (b1▸g2);have:¬(gm L 2).1.dp<=dp:=by simpa[wA]using this
     omega
    ·obtain⟨x,hx,rfl⟩:=hv;have:=hq x hx;have:¬x.dp<=dp:=by simpa[wA]using this
     omega
 |true=>
  have e1:zA (!true)=1:=rfl;have e2:zA ar=2:=rfl;rw[e1]at hd hq;rw[e2]at Nx;refine hU.aa3 hc h.small hT (n:=k) ho (λg=> ?_) (λg=> ?_)
  ·rcases Nx 1 (.inl rfl) (c1▸g)with⟨x,y⟩|⟨x,_⟩
   ·have:=LV.1 y;exact⟨a1.trans x,oM⟩
   ·cases x
  ·rcases Nx 2 (.inr rfl) (d1▸g)with⟨x,y⟩|⟨_,y⟩
   ·have y:=LU.1 y;have hx:((B.map yS).getD k fq).gj=ar:=b1.trans x;refine⟨λg2=> ?_,λv hv=> ?_⟩
    ·have:=hU.d k oM g2 hx;omega
    ·have:=(hU.ps hc h.small hT (n:=k) oM (v:=v)).1 hv hx;omega
   ·refine⟨λg2=> ?_,λv hv=> ?_⟩
    ·have:=hd (a1▸g2);have:¬dp<=(gm L 1).1.dp:=by simpa[wA]using this
     omega
    ·obtain⟨x,hx,rfl⟩:=hv;have:=hq x hx;have:¬dp<=x.dp:=by simpa[wA]using this
     omega
def Un.take {p:fj} {B:List (List zE)} (h:lu p B) (hU:Un p (B.map yS)) (id q:Int):Un p ((yZ B id q).1.map yS):=hU.Px (py.Px h (h.take id q) (py.take B id q))
def Un.enter {p:fj} {B:List (List zE)} (h:lu p B) (U:List Int) {c:ir} (hi:0<=c.inst/\c.inst<B.length) (hs:c.side=1\/c.side=2) (hq:1<=c.dq) (hU:Un p (B.map yS)) (jy:c.time=1->cZ p B c.inst (decide (c.side=2)) c.dp c.dq=au) (C7:lu p (wQ p B U c).B):Un p ((wQ p B U c).B.map yS):=by
 obtain⟨hW,hl,xp⟩:=aG (inst:=c.inst) (sd:=decide (c.side=2)) (dp:=c.dp) _ c.dq B (mg _) h;have xp:=xp oM;have CC:=yCy (inst:=c.inst) (sd:=decide (c.side=2)) (dp:=c.dp) _ c.dq B (mg _) h hi oM;have hUr:Un p ((qC p B c.inst (decide (c.side=2)) c.dp c.dq).B.map yS):=hU.Px (py.Px h hW (py.run _ _ _ (mg _)));have yt:c.side=zA (decide (c.side=2)):=(fA hs).symm;rw[vH]at C7 ⊢;dsimp only at C7 ⊢;by_cases cl:(qC p B c.inst (decide (c.side=2)) c.dp c.dq).left≠0/\c.time=1
 ·rw[fk cl]at C7 ⊢;have jy:=jy cl.2;rw[cZ]at jy;have tj:∀x∈qM ⟨p,(qC p B c.inst (decide (c.side=2)) c.dp c.dq).B.map yS,c.inst⟩ (zA (!decide (c.side=2))),wA (decide (c.side=2)) c.dp x.dp=au:=by
   rw[kx cl.1,qj,KW]at jy;exactλx hx=>by simpa using jy x hx
  have hg:=CC oM;generalize qC p B c.inst (decide (c.side=2)) c.dp c.dq=R at*;rw[yt]at C7 ⊢;have aba:decide (zA (decide (c.side=2))=2)=decide (c.side=2):=by rw[<- yt]
  exact Un.add hW oM C7 hUr (λhb=>yIv hW oM hg hb) tj
 ·rw[dx cl];exact hUr
def y9f {p:fj} {B:List (List zE)} (h:lu p B) (U:List Int) (c:ir) (hU:Un p (B.map yS)):lu p (tx p B U c).B->Un p ((tx p B U c).B.map yS):=by
 have wg:=h.ok.bl;rw[tx];split
 ·exactλ_=>hU
 rename_i hr;have hr:c.right=0:=by simpa using hr
 split
 ·rename_i hk;obtain⟨hs,hq,_⟩:=UN hr hk;rw[bR];split
  ·exactλ_=>hU
  rename_i hp;have hi:=zPn (p:=p) (i:=c.inst) (n:=c.dp) (by simpa using hp);split
  ·exactλ_=>hU
  split
  ·exactλ_=>hU
  split
  ·exactλ_=>hU
  split
  ·exactλ_=>hU
  rename_i jy;exact Un.enter h U oM hs hq.1 hU (λe=>by simpa[e]using jy)
 rename_i hk;split
 ·exactλ_=>hU
 rename_i hf;obtain⟨k,L,f1,hL,ho,vi⟩:=z3c (by simpa using hf);generalize zW B c.id=F at*;obtain⟨fi,o,fb⟩:=F;dsimp only at f1 hL ho vi ⊢;subst f1;have aaJ:=(ju.1 hL).1;split
 ·have WD:=mQ hr hk oM;rw[uB];split
  ·exactλ_=>hU
  split
  ·exactλ_=>hU.take h _ _
  split
  ·exactλ_=>hU
  rename_i jy;have hW:lu p (yZ B c.id o.dq).1:=h.take _ _;have aaT:=hW.ok.bl;exactλC7=>Un.enter hW U (c:=⟨1,c.id,k,o.side,c.dp,c.dq,0,1,[]⟩) Z9 ((h.od k L hL).1 o ho).s WD.1 (hU.take h _ _) (λ_=>by simpa using jy) C7
 split
 ·exactλ_=>hU.take h _ _
 ·exactλ_=>hU.take h _ _
def y0e (p:fj):Un p ((ag p.count []).map yS):=by
 have e:∀n,((ag p.count ([]:List zE)).map yS).getD n fq=fq\/((ag p.count ([]:List zE)).map yS).getD n fq=yS []:=λn=>by
  rw[Nl,mi,Wb];split
  ·exact .inr rfl
  ·exact .inl rfl
 have f:∀n,(((ag p.count ([]:List zE)).map yS).getD n fq).gp=au/\(((ag p.count ([]:List zE)).map yS).getD n fq).gj=au:=λn=>by
  rcases e n with h|h<;>rw[h]<;>exact⟨rfl,rfl⟩
 refine⟨λn _ h=> ?_,λ{a b k} _ h=> ?_,λ{a b k} _ h=> ?_⟩
 ·rw[(f n).1]at h;cases h
 ·rw[(f a).1]at h;cases h
 ·rw[(f a).2]at h;cases h
def xg:gx:=gh Lt (λi=>[oa i.p,.own 0]) (λi=>[Er i.l]) (λi=>i.p.small/\i.l.length<=1099511627776) (λi=>zB (vZ i.p i.l)) (λi=>[Er i.l])
def rE (a:Lt):Prop:=Q5 a.p (dm (aa 1 (iE a.p.dr))/\dm (Er a.l))
def b9 (a:uv):Prop:=(a.l.jc.length<=1000000/\a.l.qd.length=a.l.jc.length)/\Q8 a.l.p (a.l.p.settle.length<=1099511627776)
def uH (a:Lt) (b:Nat):=((jU a.p).gy (List.take b a.l))
def zWf (i:Lt):Prop:=
 ∃(a:fj),Qa a i.p ((zU a)/\(∀(b:Unit),a.check=0->∃(c:Nat),(↑c:Int)=0/\y7 (uH i c).fst=y7 (jU a)/\∃(d:Nat->Prop),∃(e:Nat->Nat),d c/\∀(f:Nat),d f->du (decide ((↑f:Int)<(↑(af yX i.l).length:Int))) ((0<=(↑f:Int)/\(↑f:Int)<(↑(af yX i.l).length:Int))/\∃(g:Int),∃(h:Int),∃(j:Int),∃(k:Int),∃(l:Int),∃(m:Int),∃(n:Int),∃(p:Int),zF (af yX i.l) (↑f:Int).toNat 0 8=ay [dI g,dI h,dI j,dI k,dI l,dI m,dI n,dI p]/\∃(q:uv),q.r.kind=g/\q.r.id=h/\q.r.inst=j/\q.r.side=k/\q.r.dp=l/\q.r.dq=m/\q.r.left=n/\q.r.oD=p/\y7 q.l=y7 (uH i f).fst/\(b9 q)/\fp (du ((q.l.add q.r).snd !=0) (ez (vZ i.p i.l=(q.l.add q.r).snd/\dm (af yX i.l)/\True)) (∃(s:Nat),(↑s:Int)=am.wrap ((↑f:Int)+1)/\y7 (uH i s).fst=y7 (q.l.add q.r).fst/\d s/\e s<e f/\rE i))) (∃(g:Nat),(↑g:Int)=0/\∃(h:Nat->Prop),∃(j:Nat->Nat),h g/\∀(k:Nat),h k->du (decide ((↑k:Int)<(↑(iE i.p.dr).length:Int))) (∃(l:N5),l.n=(↑k:Int)/\y7 l.l=y7 (uH i f).fst/\(l.l.jc.length<=1000000/\l.l.qd.length=l.l.jc.length)/\fp (du (l.l.at l.l.qd l.n !=0) (ez (vZ i.p i.l=21/\dm (af yX i.l)/\True)) (∃(n:Nat),Q0 n k h j (y7 l.l=y7 (uH i f).fst/\rE i)))) (ez (vZ i.p i.l=0/\dm (af yX i.l)/\True))))/\∀(b:Unit),a.check≠0->du (a.check !=0) (ez (vZ i.p i.l=a.check/\dm (af yX i.l)/\True)) (∃(c:Nat),False))
def yRy (a:Int):∃c,am.wrap a=a+c*18446744073709551616:=by
 by_cases h:a % 18446744073709551616>=9223372036854775808
 ·refine⟨-(a / 18446744073709551616)-1,?_⟩;have:am.wrap a=a % 18446744073709551616-18446744073709551616:=by
   simp only[ao,IntKind.bits,aq];exact fk (by simpa using h)
  omega
 ·refine⟨-(a / 18446744073709551616),?_⟩;have:am.wrap a=a % 18446744073709551616:=by
   simp only[ao,IntKind.bits,aq];exact dx (by simpa using h)
  omega
def yOe (a c:Int):am.wrap (a+c*18446744073709551616)=am.wrap a:=by
 have e:(a+c*18446744073709551616) % 2 ^ am.bits=a % 2 ^ am.bits:=Int.add_mul_emod_self_right a c _;simp only[ao,e]
def yHn (a b:Int):am.wrap (am.wrap a+b)=am.wrap (a+b):=by
 obtain⟨c,h⟩:=yRy a;rw[h,show a+c*18446744073709551616+b=a+b+c*18446744073709551616 by omega,yOe]
def dO (a b k:Int) (l:List (Int×Int)):jW ((a,b)::l) k=if a=k then ay b else jW l k:=by
 rw[jW,KR];by_cases h:a=k
 ·rw[kx h,fk h];rfl
 ·rw[jq h,dx h];rfl
def l7 (k v x:Int):∀l:List (Int×Int),jW (dV k v l) x=if x=k then ay v else jW l x
 |[]=>by
  rw[dV,dO];by_cases h:x=k
  ·rw[fk h,fk h.symm]
  ·rw[dx h,dx λe=>h e.symm]
 |(a,b)::l=>by
  have ih:=l7 k v x l;rw[dV];by_cases h:k=a
  ·subst h;rw[fk rfl,dO,dO];by_cases e:x=k
   ·rw[fk e,fk e.symm]
   ·rw[dx e,dx λc=>e c.symm,dx λc=>e c.symm]
  ·rw[dx h,dO,dO,ih];by_cases e:x=k
   ·rw[dx λc=>h (by rw[c,e]),fk e,fk e]
   ·rw[dx e,dx e]
def XQ (k v:Int):∀{l:List (Int×Int)},(l.map (·.1)).Nodup->((dV k v l).map (·.1)).Nodup/\∀x,x∈(dV k v l).map (·.1)->x=k\/x∈l.map (·.1)
 |[],_=>⟨by simp[dV],λx hx=> .inl (by simpa[dV]using hx)⟩
 |(a,b)::l,h=>by
  rw[iT,ve]at h;obtain⟨i1,i2⟩:=XQ k v h.2;rw[dV];by_cases e:k=a
  ·rw[fk e,iT];exact⟨ve.2 h,λx hx=> .inr hx⟩
  ·rw[dx e,iT,iT];refine⟨ve.2 ⟨λhm=> ?_,i1⟩,λx hx=> ?_⟩
   ·rcases i2 a hm with c|c
    ·exact e c.symm
    ·exact h.1 c
   ·rcases ku.1 hx with c|c
    ·exact .inr (ku.2 (.inl c))
    ·exact(i2 x c).imp_right (jx _)
def z6n (k x:Int):∀{l:List (Int×Int)},(l.map (·.1)).Nodup->jW (DK k l) x=if x=k then ba else jW l x
 |[],_=>by rw[DK];split<;>rfl
 |(a,b)::l,h=>by
  rw[iT,ve]at h;rw[DK];by_cases e:k=a
  ·subst e;rw[fk rfl,dO];by_cases c:x=k
   ·rw[fk c,c,zXi h.1]
   ·rw[dx c,dx λd=>c d.symm]
  ·rw[dx e,dO,dO,z6n k x h.2];by_cases c:x=k
   ·rw[dx λd=>e (by rw[d,c]),fk c,fk c]
   ·rw[dx c,dx c]
def z6e (k:Int):∀(l:List (Int×Int)),((DK k l).map (·.1)).Sublist (l.map (·.1))
 |[]=>List.Sublist.refl _
 |(a,b)::l=>by
  rw[DK];split
  ·exact List.sublist_cons_self _ _
  ·exact(z6e k l).cons_cons _
structure Bq (l:fa) (p:fj) (S:tg) (N:Int->Int):Prop where
 ep:l.p=p
 tl:l.jc.length=p.count
 nl:l.qd.length=p.count
 kd:(l.left.map (·.1)).Nodup
 lf:∀id,jW l.left id=if S.left id=0 then ba else ay (S.left id)
 ow:∀id,jW l.inst id=ay (S.own id)\/(jW l.inst id=ba/\S.own id=0/\S.left id=0)
 nt:∀n:Nat,n<p.count->l.qd.getD n 0=am.wrap (N n)
def zPs {l:fa} (h:(l.left.map (·.1)).Nodup) (id n x:Int):jW (l.close id n).left x=(if x=id then(if n=0 then ba else ay n)else jW l.left x)/\((l.close id n).left.map (·.1)).Nodup:=by
 obtain⟨k1,_⟩:=XQ id n h;rw[fa.close];dsimp only;by_cases c:n=0
 ·rw[fk c,fk c,z6n id x k1,l7];refine⟨?_,k1.sublist (z6e id _)⟩;by_cases e:x=id
  ·rw[fk e,fk e]
  ·rw[dx e,dx e,dx e]
 ·rw[dx c,dx c,l7];exact⟨rfl,k1⟩
def Bq.close {l:fa} {p:fj} {S:tg} {N:Int->Int} (h:Bq l p S N) {id:Int} (n:Int) (hs:S.left id≠0):Bq (l.close id n) p ⟨oc S.left id n,S.own⟩ N:=by
 refine⟨h.ep,h.tl,h.nl,(zPs h.kd id n 0).2,λx=> ?_,λx=> ?_,h.nt⟩
 ·rw[(zPs h.kd id n x).1,h.lf];show _=if oc S.left id n x=0 then ba else ay (oc S.left id n x)
  by_cases e:x=id
  ·have eu:oc S.left id n x=n:=fk e;rw[fk e,eu]
  ·have eu:oc S.left id n x=S.left x:=dx e;rw[dx e,eu]
 ·rcases h.ow x with c|⟨c1,c2,c3⟩
  ·exact .inl c
  ·refine .inr ⟨c1,c2,?_⟩;dsimp only[oc];rw[dx λe:x=id=>hs (by rw[<- e];exact c3)];exact c3
def yOb {l:fa} {r:fy} {N:Int->Int} {c:Nat} (h:∀n:Nat,n<c->l.qd.getD n 0=am.wrap (N n)) (hl:l.qd.length=c) (hk:r.kind=3) (hs:r.side=1\/r.side=2) (hi:0<=r.inst/\r.inst<c):(l.om r).qd.length=c/\∀n:Nat,n<c->(l.om r).qd.getD n 0=am.wrap (N n+one r n):=by
 have key:∀x:Int,x=one r r.inst->∀n:Nat,n<c->(l.qd.set r.inst.toNat (am.wrap (l.qd.getD r.inst.toNat 0+x))).getD n 0=am.wrap (N n+one r n):=by
  intro x hx n hn;rw[Uf (by omega)];by_cases e:n=r.inst.toNat
  ·have ei:(r.inst.toNat:Int)=r.inst:=by omega
   rw[fk e,h _ (by omega),yHn,hx,e,ei]
  ·rw[dx e,h n hn,one,dx λd=>e (by omega),ax]
 rw[fa.om];dsimp only;rcases hs with s|s
 ·rw[fk s,GP];exact⟨by rw[rj];exact hl,key r.dq (by rw[one,fk ⟨hk,rfl⟩,fk s])⟩
 ·rw[dx (by omega),fk s,My];exact⟨by rw[rj];exact hl,key (-r.dq) (by rw[one,fk ⟨hk,rfl⟩,dx (by omega)])⟩
def Bq.om {l:fa} {p:fj} {S:tg} {N:Int->Int} (h:Bq l p S N) {r:fy} (hk:r.kind=3) (hs:r.side=1\/r.side=2) (hi:0<=r.inst/\r.inst<p.count):Bq (l.om r) p S λn=>N n+one r n:=by
 obtain⟨n1,n2⟩:=yOb h.nt h.nl hk hs hi;exact⟨h.ep,by rw[fa.om,GP];dsimp only;rw[rj];exact h.tl,n1,h.kd,h.lf,h.ow,n2⟩
def Bq.qd {l:fa} {p:fj} {S:tg} {N N':Int->Int} (h:Bq l p S N) (e:∀n,N' n=N n):Bq l p S N':=⟨h.ep,h.tl,h.nl,h.kd,h.lf,h.ow,λn hn=>by rw[e];exact h.nt n hn⟩
def Bq.Bk {l:fa} {p:fj} {S:tg} {N:Int->Int} (h:Bq l p S N) {n:Int} (hn:0<=n/\n<p.count):l.Bk n=ar:=by
 rw[fa.Bk,h.tl,kx hn.1,kx hn.2];rfl
def z5a {l:fa} {r:fy} (h:r.kind=2):l.add r=(l,0):=by
 rw[fa.add,dx (by rw[fy.CE,h];decide),fk h]
def yUl {l:fa} {p:fj} (hc:p.check=0) {D:Int->Prop} {S:tg} {N:Int->Int} (h:Bq l p S N) {r:fy} (g:Lr p D S r):(l.add r).2=0/\Bq (l.add r).1 p (yp S r) λn=>N n+one r n:=by
 have gi:=g.i;have gl:=g.l;have gq:=g.q;have LO:1<=r.kind/\r.kind<=5/\r.kind≠2:=by rcases g.k with k|k|k|k<;>omega
 have It:¬r.CE=ar:=by
  rw[fy.CE,jq (by omega),jq (by omega)];decide
 have qt:¬l.Bk r.inst=au:=by rw[h.Bk gi];decide
 have LA:r.kind≠3->∀n,N n+one r n=N n:=λe n=>by rw[one,dx λx=>e x.1,ax]
 rw[fa.add,dx It,dx LO.2.2,dx qt];have JC:=h.lf r.id;by_cases k1:r.kind=1
 ·obtain⟨l0,q1,lq⟩:S.left r.id=0/\1<=r.dq/\r.left=r.dq:=by
   rcases g.k with k|k|k|k
   ·exact k.2
   ·omega
   ·omega
   ·omega
  rw[fk l0]at JC;rw[fk k1,fa.acc,JC,dx (by decide),dx (by omega),yp,fk k1];refine⟨rfl,h.ep,h.tl,h.nl,(XQ _ _ h.kd).1,λx=> ?_,λx=> ?_,λn hn=>by rw[LA (by omega)];exact h.nt n hn⟩
  ·rw[l7,h.lf,lq];show _=if oc S.left r.id r.dq x=0 then ba else ay (oc S.left r.id r.dq x)
   by_cases e:x=r.id
   ·have eu:oc S.left r.id r.dq x=r.dq:=fk e;rw[fk e,eu,dx (by omega)]
   ·have eu:oc S.left r.id r.dq x=S.left x:=dx e;rw[dx e,eu]
  ·dsimp only[oc];rw[l7];by_cases e:x=r.id
   ·rw[fk e,fk e];exact .inl rfl
   ·rw[dx e,dx e,dx e];exact h.ow x
 rw[dx k1];by_cases k3:r.kind=3
 ·obtain⟨q1,Wk,G3⟩:1<=r.dq/\(r.side=1\/r.side=2)/\((r.inst=S.own r.id/\r.dq<=S.left r.id/\r.left=S.left r.id-r.dq)\/(r.inst≠S.own r.id/\(p.gf (S.own r.id)).2.2=ar/\(r.inst=(p.gf (S.own r.id)).1\/r.inst=(p.gf (S.own r.id)).2.1)/\r.left=S.left r.id)):=by
   rcases g.k with k|k|k|k
   ·omega
   ·exact k.2
   ·omega
   ·omega
  rcases G3 with⟨ho,hq,hl⟩|⟨ho,te,P5,hl⟩
  ·have Io:l.own r.id=S.own r.id:=by
    rcases h.ow r.id with c|⟨_,_,c⟩
    ·rw[fa.own,c];rfl
    ·omega
   have FA:¬l.ri r=ar:=by
    rw[fa.ri,fa.Cu,Io,h.ep];intro x;simp only[ld,E9,sm]at x;obtain⟨_,_,y,z⟩:=x;have:=TE hc (k:=S.own r.id) oM y;omega
   rw[dx FA,JC,dx (by omega)];dsimp only;have e1:¬l.e1 r=ar:=by rw[fa.e1,Io,jq (show ¬r.inst≠S.own r.id from λx=>x ho)];simp
   have e2:¬r.e2 (S.left r.id)=ar:=by
    intro x;rw[fy.e2,iD (by omega)]at x;simp only[ld,E9,sm]at x;omega
   have e3:¬r.e3 (S.left r.id)=ar:=by rw[fy.e3,jq (by omega)];simp
   have e4:¬r.e4 (S.left r.id)=ar:=by rw[fy.e4,jq (by omega)];simp
   rw[dx e1,dx e2,dx e3,dx e4,fa.done,fk k3,ML k1 LO.2.2 λ_=>ho];exact⟨rfl,(h.om k3 Wk gi).close r.left oM⟩
  ·have Io:jW l.inst r.id=ay (S.own r.id):=by
    rcases h.ow r.id with c|⟨_,c,_⟩
    ·exact c
    ·exfalso;rw[c]at te;have hct:=UK hc;have:=(TE hc (k:=0) oM te)
     omega
   have FA:l.ri r=ar:=by
    rw[fa.ri,fa.Cu,fa.own,Io,h.ep,kx k3];simp only[Option.isSome_some,zj,te,qj,E9,sm];exact P5
   rw[fk FA,dx (by omega),Xu k3 ho];exact⟨rfl,h.om k3 Wk gi⟩
 ·have FA:¬l.ri r=ar:=by rw[fa.ri,jq k3];simp
  have hl0:S.left r.id≠0:=by rcases g.k with k|k|k|k<;>omega
  have e1:¬l.e1 r=ar:=by rw[fa.e1,jq k3];simp
  have e2:¬r.e2 (S.left r.id)=ar:=by rw[fy.e2,jq k3];simp
  rw[dx FA,JC,dx hl0];dsimp only;rw[dx e1,dx e2,ML k1 LO.2.2 λx=>absurd x k3];rcases g.k with k|k|⟨k4,q1,q2,lz⟩|⟨k5,q1,lq⟩
  ·omega
  ·omega
  ·have e3:¬r.e3 (S.left r.id)=ar:=by rw[fy.e3,jq (show ¬r.dq≠S.left r.id from λx=>x q2)];simp
   have e4:¬r.e4 (S.left r.id)=ar:=by rw[fy.e4,jq (by omega)];simp
   rw[dx e3,dx e4,fa.done,dx k3,fk k4,lz];exact⟨rfl,(h.close 0 hl0).qd (LA k3)⟩
  ·have e3:¬r.e3 (S.left r.id)=ar:=by rw[fy.e3,jq (by omega)];simp
   have e4:¬r.e4 (S.left r.id)=ar:=by
    intro x;rw[fy.e4,iD (by omega)]at x;simp only[ld,E9,sm]at x;omega
   rw[dx e3,dx e4,fa.done,dx k3,dx (by omega)];exact⟨rfl,(h.close r.left hl0).qd (LA k3)⟩
def z5j {p:fj} (hc:p.check=0) {D:Int->Prop}:∀{R:List fy} {l:fa} {S:tg} {N:Int->Int},Bq l p S N->aY p D S R->(l.gy R).2=0/\Bq (l.gy R).1 p (uZ S R) λn=>N n+uW R n
 |[],l,S,N,h,_=>⟨rfl,h.qd λn=>by rw[uW,ax]⟩
 |r::R,l,S,N,h,g=>by
  obtain⟨a1,a2⟩:=yUl hc h g.1;obtain⟨b1,b2⟩:=z5j hc a2 g.2;rw[fa.gy,dx (by rw[a1];decide)];exact⟨b1,b2.qd λn=>by rw[uW];omega⟩
def yIg (p:fj):Bq (jU p) p ⟨λ_=>0,λ_=>0⟩ λ_=>0:=by
 refine⟨rfl,CW,CW,List.nodup_nil,λid=>rfl,λid=> .inr ⟨rfl,rfl,rfl⟩,λn hn=> ?_⟩;show(ag p.count (0:Int)).getD n 0=_;rw[VH];decide
def yLe {p:fj} (hc:p.check=0) {T:List iS} (h:Un p T) (hs:aX T) (hT:T.length=p.count):kE p T=0:=by
 rw[z1s hc hs hT,dx,dx]
 ·intro x;obtain⟨k,hk,hm⟩:=yk.1 x;by_cases P3:p.dr.length<=k
  ·obtain⟨a,b,t⟩:=VX hc oM P3;rcases(f7 t).1 hm with⟨h1,h2,h3,h4,_⟩|⟨h1,h2,h3,h4,_⟩
   ·have:=h.x t h1 h2 h3;omega
   ·have:=h.y t h1 h2 h3;omega
  ·have Fp:(p.gf k).2.2=au:=OR hc oM;rw[KC,Fp]at hm;cases hm
 ·intro x;obtain⟨k,hk,hm⟩:=yk.1 x;rw[TW]at hm;simp only[ld,sm]at hm;have:=h.d k oM hm.1 hm.2.1;omega
def yIp (i:Lt) (h:xg.du i):zWf i:=by
 obtain⟨hs,hlen⟩:i.p.small/\i.l.length<=1099511627776:=h;have iR:=hs;obtain⟨h1,h2,h3⟩:=iR;unfold zWf Q0 Qa fp ez uH b9 Q8 rE Q5 zU Q8 dI;simp only[yW,iz];refine⟨i.p,?_⟩
 (repeat'(first|exact rfl|exact trivial|assumption|apply And.intro|refineλ(_:Unit) (_:True)=>?_|refine Exists.intro () ?_|omega|(dsimp only;omega)))
 ·intro _ c;have c:i.p.check=0:=c;generalize hL:jU i.p=L;have hf:L.fit:=hL▸z2k hs;have e0:vZ i.p i.l=if(L.gy i.l).2≠0 then(L.gy i.l).2 else if(aj i.p.dr.length).any (λn=>decide ((L.gy i.l).1.at (L.gy i.l).1.qd n≠0))then 21 else 0:=by
   rw[vZ,dx (by simp[c]),hL]
  refine⟨0,rfl,by rw[GU];rfl,λj=>j<=i.l.length/\(L.gy (i.l.take j)).2=0,λj=>i.l.length-j,⟨oM,rfl⟩,?_⟩;rintro j ⟨g1,g2⟩;refine zI (λiq=> ?_) (λiq=> ?_)
  ·obtain⟨r,hr⟩:=z6 (l:=i.l) (i:=j) oM;refine⟨⟨oM,oM⟩,r.kind,r.id,r.inst,r.side,r.dp,r.dq,r.left,r.oD,xCd hr,⟨(L.gy (i.l.take j)).1,r⟩,iH ⟨rfl,eE hf,λ_ _=> ?_⟩⟩;dsimp only;refine Cv.du.mk (λe=>⟨(),?_,trivial,trivial⟩) (λe=>⟨j+1,?_,?_,⟨oM,?_⟩,oM,ic⟩)
   ·have e:((L.gy (i.l.take j)).1.add r).2≠0:=by simpa using e
    rw[e0,z5x hr g2 e,fk e]
   ·rw[iD (by omega)];rfl
   ·rw[pQ hr g2]
   ·rw[pQ hr g2];simpa using e
  ·have ej:i.l.take j=i.l:=oV oM;rw[ej]at g2 ⊢;have rh:=eE hf (xs:=i.l);generalize L.gy i.l=X at*;have e1:vZ i.p i.l=if(aj i.p.dr.length).any (λn=>decide (X.1.at X.1.qd n≠0))then 21 else 0:=by
    rw[e0,dx (by simp[g2])]
   refine⟨0,rfl,λk=>k<=i.p.dr.length/\∀m<k,X.1.at X.1.qd m=0,λk=>i.p.dr.length-k,⟨oM,λm hm=>by omega⟩,?_⟩;rintro k ⟨g3,g4⟩;refine zI (λiq=>⟨⟨X.1,k⟩,rfl,rfl,rh.1,λ_ _=> ?_⟩) (λiq=>⟨(),?_,trivial,trivial⟩)
   ·dsimp only;refine Cv.du.mk (λe=>⟨(),?_,trivial,trivial⟩) (λe=>⟨k+1,?_,⟨oM,λm hm=> ?_⟩,oM,rfl,ic⟩)
    ·rw[e1,fk (Yc (k:=k) (by omega) (by simpa using e))]
    ·rw[iD (by omega)];rfl
    ·rcases vx m k with h|h
     ·exact g4 m h
     ·obtain rfl:m=k:=by omega
      simpa using e
   ·rw[e1,dx (by
     rw[Bool.not_eq_true];exact UU λm hm=>by simpa using g4 m oM)]
 ·intro _ c;refine Cv.du.mk (λe=>⟨(),?_,trivial,trivial⟩) (λe=>absurd (by simpa using e) c);rw[vZ,fk c]
def BX:xg.ok Tryz.prog 18:=ix mixed (dz Dz (dz DB (dz yWh fx))) 0 (λ_=>[]) (λi=>yLh i) [] Tryz.func18 yIp
structure Xb (p:fj) (m:iO) (l:fa) (all:List fy) (j:Nat) (B:List (List zE)) (U:List Int) (S:tg) (N:Int->Int):Prop where
 r:m.fy p B U
 b:jo p B
 a:Acc B U
 n:jH B<=250
 f:Fits (λ_=>True) S B
 z:∀n:Nat,n<p.dr.length->N n=0
 u:Un p (B.map yS)
 lr:Bq l p S N
 e:(jU p).gy all=(l,0)
 s:all.length<=2000000000*j
def zTq {l:fa} {R:List fy} (h:(l.gy R).2=0) (k:Nat):(l.gy (R.take k)).2=0:=by
 have:=bZ (R.take k) (R.drop k) l;rw[A3]at this;by_cases c:(l.gy (R.take k)).2=0
 ·exact c
 ·rw[fk c]at this;rw[this]at h;exact h
def ioJ (p:fj):ib:={ι:=ph,qo:=λ_=>[(8,.nm 0 0)],nf:=λj=>I8 p j.x j.o j.d,dv:=λ_=>[(8,.nm 0 0),(15,.own 8)],rows:=λj=>I8 p j.x j.o j.d++[I1 j.O]}
structure D1 where
 x:Es
 o:iO
 d:Dk
 lg:fa
 all:List fy
 k:Nat
structure NU where
 lg:fa
 all:List fy
 k:Nat
def tiA (i:zy):List ib:=[
 {ι:=D1,dv:=λj=>[(7,.nm 8 0),(8,.nm 0 0),(11,.nm 11 0),(13,.own 12),(14,zB j.k)],rows:=λj=>I8 i.p j.x j.o j.d++xAu i.p++[y7 j.lg,Er j.all]},
 {ι:=NU,dv:=λj=>[(11,.nm 0 0),(13,.own 1),(16,zB j.k)],rows:=λj=>[y7 j.lg,Er j.all]}]
def tiJ (i:zy):List (Nat×ib):=[(32,bj 47),(40,ioJ i.p),(68,bj 97)]
def pV (a:zy) (b:D1):=(af xM (xJ a.p b.x.B))
def pK (a:zy) (b:ph):=(af xM (xJ a.p b.x.B))
def cD (a:zy):=(D.v (av (sb a.p.code)))
def OK (a:fj):=(af xM (xJ a (ag a.count [])))
def Vq (a:fj) (b:fj) (c:zy):Prop:=Q4 a (dm (aa 10 (OK a))/\dm (aa 1 (iE (gE b)))/\dm (aa 1 (iE (qP (kN b).toNat)))/\Q2 c.x (dm (aa 1 (iE c.x.dr))))
@[reducible] def Qo (a:fj)(b:zy)(c:D1)(R:Prop):Prop:=aa 1 (iE a.dr)=aa 1 (iE a.dr)/\aa 1 (iE a.settle)=aa 1 (iE a.settle)/\aa 10 (pV b c)=aa 10 (pV b c)/\ab [V.d (cD b),V.own 25,V.d (dI a.tick),V.d (dI a.low),V.d (dI a.high),V.d (dI a.wide),V.d (dI a.gw),V.d (dI a.top),V.d (dI a.least),V.d (dI a.part),V.own 26] (25:be)=ab [V.d (cD b),V.own 25,V.d (dI a.tick),V.d (dI a.low),V.d (dI a.high),V.d (dI a.wide),V.d (dI a.gw),V.d (dI a.top),V.d (dI a.least),V.d (dI a.part),V.own 26] (25:be)/\aa 1 (iE a.dr)=aa 1 (iE a.dr)/\aa 1 (iE a.settle)=aa 1 (iE a.settle)/\R
def z7j (a:ph) (b:zy) (c:D1) (d:fj) (e:fj):Prop:=mo a.d=mo a.d/\dm (ac tBy 1 (af kq a.x.R))/\Q4 b.p (dm (aa 10 (pK b a))/\dm (ac Mw 9 (af kG a.O))/\Qo b.p b c (Vq d e b))
@[reducible] def Q7 (a:zy)(b:Es)(R:Prop):Prop:=ab [V.d (cD a),V.own 34,V.d (dI a.p.tick),V.d (dI a.p.low),V.d (dI a.p.high),V.d (dI a.p.wide),V.d (dI a.p.gw),V.d (dI a.p.top),V.d (dI a.p.least),V.d (dI a.p.part),V.own 35,V.nm 7 0,V.nm 8 0,V.own 36,V.d (dI b.q),V.own 33] O5=ab [V.d (cD a),V.own 34,V.d (dI a.p.tick),V.d (dI a.p.low),V.d (dI a.p.high),V.d (dI a.p.wide),V.d (dI a.p.gw),V.d (dI a.p.top),V.d (dI a.p.least),V.d (dI a.p.part),V.own 35,V.nm 7 0,V.nm 8 0,V.own 36,V.d (dI b.q),V.own 33] O5/\ab [V.nm 9 0,V.d (dI (↑b.R.length:Int))] (201:be)=ab [V.nm 9 0,V.d (dI (↑b.R.length:Int))] (201:be)/\R
def yOy (a:zy) (b:ph) (c:RC) (d:D1) (e:fj) (f:fj):Prop:=Q7 a b.x (nk c.g=nk (Gt.mk b.o b.x.W)/\z7j b a d e f)
def z9w (a:zy) (b:D1) (c:fj) (d:fj):Prop:=Qo a.p a b (dm (y7 b.lg)/\dm (ac K3 8 (af yX b.all))/\Vq c d a)
def yAa (a:Bool->Prop) (b:Bool) (c:zy) (d:D1) (e:fj) (f:fj):Prop:=a b/\dm (ab [V.d (cD c),V.own 21,V.d (dI c.p.tick),V.d (dI c.p.low),V.d (dI c.p.high),V.d (dI c.p.wide),V.d (dI c.p.gw),V.d (dI c.p.top),V.d (dI c.p.least),V.d (dI c.p.part),V.own 22,V.nm 7 0,V.nm 8 0,V.own 23,V.d (dI d.x.q),V.own 20] O5)/\dm (ab [V.nm 9 0,V.d (dI (↑d.x.R.length:Int))] (201:be))/\dm (nk (Gt.mk d.o d.x.W))/\dm (mo d.d)/\dm (ac tBy 1 (af kq d.x.R))/\z9w c d e f
def z7g (a:ph->Prop) (b:ph) (c:zy) (d:D1) (e:fj) (f:fj):Prop:=a b/\z9w c d e f
def To (a:zz):Prop:=(((-9223372036854775808)<=a.c.kind/\a.c.kind<=9223372036854775807)/\((-9223372036854775808)<=a.c.id/\a.c.id<=9223372036854775807)/\((-9223372036854775808)<=a.c.inst/\a.c.inst<=9223372036854775807)/\((-9223372036854775808)<=a.c.side/\a.c.side<=9223372036854775807)/\((-9223372036854775808)<=a.c.dp/\a.c.dp<=9223372036854775807)/\((-9223372036854775808)<=a.c.dq/\a.c.dq<=9223372036854775807)/\((-9223372036854775808)<=a.c.least/\a.c.least<=9223372036854775807)/\(-9223372036854775808)<=a.c.time/\a.c.time<=9223372036854775807)/\0<=a.i/\a.i<=1000000
def Vm (a:xd):Prop:=(a.o.fy a.p a.x.B a.x.U/\jo a.p a.x.B)/\a.b.length<=254/\((-1)<=a.s/\a.s<8)/\(0<=a.x.q/\a.x.q<=1000000000000000000)/\a.x.R.length<=1000000/\a.d.b.length+a.b.length+(7:Nat)<=(1048576:Nat)
def Oq (a:zy):Prop:=Qi a.p (True)
def mE (a:ph):=(↑(af kG a.O).length:Int)
@[reducible] def Qr (a b:fj)(R:Prop):Prop:=a.tick=zV b/\a.low=(-20)*zV b/\a.high=100*zV b/\a.wide=zV b*(wN b)/\a.gw=1+zH b.gw 0 2/\a.top=zH b.top 0 9/\a.least=1+zH b.least 0 4/\a.part=zH b.part 0 100/\R
@[reducible] def Rw (a b:Es)(R:Prop):Prop:=a.q=b.q/\(↑a.R.length:Int)=(↑b.R.length:Int)/\R
def Vti (i:zy):Prop:=
 ∃(a:fj),Qa a i.x ((((-9223372036854775808)<=a.tick/\a.tick<=9223372036854775807)/\((-9223372036854775808)<=a.wide/\a.wide<=9223372036854775807)/\((-9223372036854775808)<=a.gw/\a.gw<=9223372036854775807)/\((-9223372036854775808)<=a.top/\a.top<=9223372036854775807)/\((-9223372036854775808)<=a.least/\a.least<=9223372036854775807)/\((-9223372036854775808)<=a.part/\a.part<=9223372036854775807)/\a.dr.length<=9223372036854775807)/\fp (∃(c:fj),sb c.code=sb [(206:UInt8),(169:UInt8)]/\iE c.dr=iE (qP (kN a).toNat)/\Qr c a (iE c.settle=iE (gE a)/\(c.check=0/\zU c)/\∀(d:iO),d.fy c (ag c.count []) []->∃(e:fj),sb e.code=sb [(206:UInt8),(169:UInt8)]/\iE e.dr=iE (qP (kN a).toNat)/\Qr e a (iE e.settle=iE (gE a)/\(zU e)/\(∀(f:Unit),e.check=0->∃(g:D1),(↑g.k:Int)=0/\Qb i.p c (g.x.q=0/\(↑g.x.R.length:Int)=(↑(0:Nat):Int)/\nk (Gt.mk g.o g.x.W)=nk (Gt.mk d [])/\mo g.d=mo (Dk.mk [] 0)/\af kq g.x.R=[]/\Q6 i.p c (aa 10 (pV i g)=aa 10 (OK c)/\sb i.p.code=sb [(206:UInt8),(169:UInt8)]/\Qr i.p a (aa 1 (iE i.p.dr)=aa 1 (iE (qP (kN a).toNat))/\aa 1 (iE i.p.settle)=aa 1 (iE (gE a))/\y7 g.lg=y7 (jU e)/\af yX g.all=[]/\∃(h:D1->Prop),∃(j:D1->Nat),h g/\∀(k:D1),h k->∃(l:Bool),∃(m:Bool->Prop),du (decide ((↑k.k:Int)<(↑(af Af i.l).length:Int))) (∃(n:Bool),n=decide ((↑k.k:Int)<40)/\yAa m n i k c a) (∃(n:Bool),n=au/\yAa m n i k c a)/\∀(n:Bool),m n->du n (∃(p:ph),Qc i.p (Rw p.x k.x (nk (Gt.mk p.o p.x.W)=nk (Gt.mk k.o k.x.W)/\mo p.d=mo k.d/\af kq p.x.R=af kq k.x.R/\Q4 i.p (aa 10 (pK i p)=aa 10 (pV i k)/\∃(q:ph->Prop),((0<=(↑k.k:Int)/\(↑k.k:Int)<(↑(af Af i.l).length:Int))/\∃(r:Int),∃(s:Int),∃(t:Int),∃(u:Int),∃(v:Int),∃(w:Int),∃(x:Int),∃(y:Int),∃(z:ByteArray),zF (af Af i.l) (↑k.k:Int).toNat 0 9=ay [dI r,dI s,dI t,dI u,dI v,dI w,dI x,dI y,D.v (av z)]/\∃(ma:W0),iE ma.l=iE i.ss/\(↑ma.k:Int)=(↑k.k:Int)/\((∀(sc:Int),sc∈ma.l->(-9223372036854775808)<=sc/\sc<=9223372036854775807)/\ma.k<=1000000)/\fp (True/\(Oq i)/\∃(lh:zz),Qa lh.p i.p (lh.c.kind=r/\lh.c.id=s/\lh.c.inst=t/\lh.c.side=u/\lh.c.dp=v/\lh.c.dq=w/\lh.c.least=x/\lh.c.time=y/\sb lh.c.label=z/\lh.i=(↑k.k:Int)/\((∃(wk:fj),lh.p=iw wk)/\To lh)/\fp (∃(iX:xd),iX.s=BY ma.l ma.k/\bE iX.b=bE (xF lh).enc/\Qb iX.p i.p (Rw iX.x p.x (nk (Gt.mk iX.o iX.x.W)=nk (Gt.mk p.o p.x.W)/\mo iX.d=mo p.d/\QH iX.x p.x iX.p i.p (aa 10 (v8 iX)=aa 10 (pK i p)/\(Vm iX)/\(∀(xa:iO),(zS iX.s iX.b).snd≠0/\xa.fy iX.p iX.x.B iX.x.U->∃(qv:ph),Qb i.p iX.p (Rw qv.x iX.x (nk (Gt.mk qv.o qv.x.W)=nk (Gt.mk xa iX.x.W)/\mo qv.d=mo iX.d/\QH qv.x iX.x i.p iX.p (aa 10 (pK i qv)=aa 10 (v8 iX)/\af kG qv.O=[kG (iX.s,fy.mk 2 0 0 0 0 0 0 (zS iX.s iX.b).snd)]/\z7g q qv i k c a))))/\∀(xa:iO),(zS iX.s iX.b).snd=0/\xa.fy iX.p (iX.x.X iX.p iX.s iX.b).B (iX.x.X iX.p iX.s iX.b).U->∃(qv:ph),Qb i.p iX.p (qv.x.q=iX.x.q+(cM iX)/\(↑qv.x.R.length:Int)=(cP iX)/\nk (Gt.mk qv.o qv.x.W)=nk (dX xa iX)/\mo qv.d=mo iX.D/\af kq qv.x.R=af kq (fL iX)/\Q6 i.p iX.p (aa 10 (pK i qv)=aa 10 (dW iX)/\af kG qv.O=af kG iX.O/\z7g q qv i k c a)))))))))/\∀(r:ph),q r->∃(s:NU),(↑s.k:Int)=0/\y7 s.lg=y7 k.lg/\af yX s.all=af yX k.all/\∃(t:NU->Prop),∃(u:NU->Nat),t s/\∀(v:NU),t v->du (decide ((↑v.k:Int)<(mE r))) ((0<=(↑v.k:Int)/\(↑v.k:Int)<(mE r))/\∃(w:Int),∃(x:Int),∃(y:Int),∃(z:Int),∃(ma:Int),∃(sc:Int),∃(lh:Int),∃(wk:Int),zF (af kG r.O) (↑v.k:Int).toNat 1 8=ay [dI w,dI x,dI y,dI z,dI ma,dI sc,dI lh,dI wk]/\∃(iX:uv),iX.r.kind=w/\iX.r.id=x/\iX.r.inst=y/\iX.r.side=z/\iX.r.dp=ma/\iX.r.dq=sc/\iX.r.left=lh/\iX.r.oD=wk/\y7 iX.l=y7 v.lg/\(b9 iX)/\fp (du ((iX.l.add iX.r).snd !=0) (ez (ar=au/\True)) ((0<=(↑v.k:Int)/\(↑v.k:Int)<(mE r))/\∃(qv:Int),∃(a_8:Int),∃(Rt:Int),∃(SD:Int),∃(SC:Int),∃(SB:Int),∃(SA:Int),∃(Sz:Int),zF (af kG r.O) (↑v.k:Int).toNat 1 8=ay [dI qv,dI a_8,dI Rt,dI SD,dI SC,dI SB,dI SA,dI Sz]/\((af yX v.all).length+1)*(64:Nat)<=(140737488355328:Nat)/\∃(FC:NU),(↑FC.k:Int)=am.wrap ((↑v.k:Int)+1)/\y7 FC.lg=y7 (iX.l.add iX.r).fst/\af yX FC.all=af yX v.all++[[dI qv,dI a_8,dI Rt,dI SD,dI SC,dI SB,dI SA,dI Sz]]/\t FC/\u FC<u v/\Q7 i r.x (dm (nk (Gt.mk r.o r.x.W))/\z7j r i k c a)))) (∃(w:Bool),∃(x:Bool->Prop),(∃(y:RC),nk y.g=nk (Gt.mk r.o r.x.W)/\(y.g.m.fy y.p y.B y.U/\jo y.p y.B)/\fp ((Oq i)/\∃(ma:Df),nk ma.g=nk y.g/\(ma.g.m.fy ma.p ma.B ma.U/\jo ma.p ma.B)/\fp ((Oq i)/\∃(lh:iO),kF lh=kF ma.g.m/\(lh.s.fc.length<=1000000/\∀(wk:dt),wk∈lh.s.fc->MQ wk)/\fp ((Oq i)/\∃(iX:Ie),Qa iX.p i.p (zD iX.s=zD lh.s/\((Q8 iX.p (iX.p.settle.length<=1099511627776))/\(iX.s.fc.length<=1000000/\∀(xa:dt),xa∈iX.s.fc->∀(qv:cI),qv∈xa.a.dy->cK qv)/\iX.s.fm.length<=1000000/\∀(xa:iS),xa∈iX.s.fm->vE xa)/\fp (du (kE iX.p iX.s.fm !=0) (∃(qv:Bool),qv=ar/\x qv/\dm (y7 v.lg)/\dm (ac K3 8 (af yX v.all))/\yOy i r y k c a) (∃(qv:Lt),Qa qv.p i.p (af yX qv.l=af yX v.all/\((Q8 qv.p (qv.p.settle.length<=1099511627776))/\qv.l.length<=1099511627776)/\fp (∃(Rt:Bool),Rt=(vZ qv.p qv.l !=0)/\x Rt/\dm (y7 v.lg)/\ac K3 8 (af yX qv.l)=ac K3 8 (af yX v.all)/\yOy i r y k c a)))))))))/\∀(y:Bool),x y->du y (ez (ar=au/\True)) (∃(z:D1),(↑z.k:Int)=am.wrap ((↑k.k:Int)+1)/\Qc i.p (Rw z.x r.x (nk (Gt.mk z.o z.x.W)=nk (Gt.mk r.o r.x.W)/\mo z.d=mo r.d/\af kq z.x.R=af kq r.x.R/\Q4 i.p (aa 10 (pV i z)=aa 10 (pK i r)/\Qc i.p (Q4 i.p (y7 z.lg=y7 v.lg/\af yX z.all=af yX v.all/\h z/\j z<j k/\Vq c a i))))))))))) (∃(p:fj),p=cY 2/\fp (ez (ar=ar/\True)))))))/\∀(f:Unit),e.check≠0->ez (ar=au/\True)))))
def aaZ (i:zy):Vti i=walk Tryz.prog ([(7,CH),(8,Sp),(9,FE),(11,RF),(12,RH),(10,LS),(13,FF),(63,So),(16,Kf),(17,FU),(14,CJ),(18,xg),(19,awC)]) 1 (tiJ i) (tiA i) [] Tryz.f3 (Tryz.f3.body.getD .skip) (tpC.pat i) (tpC.pre i) (tpC.alts i):=by kernel_rfl
def tX (a:Ru):=((sb a.s).extract 0 (min (↑(sb a.s).size:Int) 255).toNat)
def yKf (i:Ru):Prop:=
 (0<=min (↑(sb i.s).size:Int) 255/\min (↑(sb i.s).size:Int) 255<=(↑(sb i.s).size:Int))/\∃(a:WN),a.n=(↑(tX i).size:Int)/\ae (List UInt8) 2 uu a.l=Wr i.l/\a.ok/\fp (((bE (a.l++[pf a.n])).length+(vU (tX i)).length)*(1:Nat)<=(140737488355328:Nat)/\ez (bE (i.l++l6 i.s)=bE (a.l++[pf a.n])++vU (tX i)/\True))
def Zi (a:WN) (b:ir):Prop:=∃(c:List UInt8),ae (List UInt8) 2 uu c=ae (List UInt8) 2 uu (a.l++le a.n 8)/\c.length<=1099511627776/\fp (ez (bE b.enc=bE c/\dm ((0:Int))/\True))
@[reducible] def Lw (a b:WN)(R:Prop):Prop:=ae (List UInt8) 2 uu a.l=ae (List UInt8) 2 uu (b.l++le b.n 8)/\a.ok/\R
def Zo (a:ir) (b:WN):Prop:=∃(c:WN),c.n=a.dq/\Lw c b (fp (Zi c a))
@[reducible] def Rx (a b:WN)(R:Prop):Prop:=ae (List UInt8) 2 uu a.l=ae (List UInt8) 2 uu (b.l++[pf b.n])/\a.ok/\R
def yXm (c:ir):Prop:=
 ∃(a:ir),Qe a c (a.label.length<=140737488355328/\fp (du (a.right !=0) (ez (bE c.enc=[]/\0=a.right/\True)) (ez (True/\fp (∃(f:WN),f.n=c.kind/\ae (List UInt8) 2 uu f.l=ae (List UInt8) 2 uu []/\f.ok/\fp (∃(h:WN),h.n=c.id/\Rx h f (fp (du (c.kind==1) (∃(k:WN),k.n=c.inst/\Lw k h (fp (∃(m:WN),m.n=c.side/\Rx m k (fp (∃(p:WN),p.n=c.time/\Rx p m (fp (∃(r:WN),r.n=c.dp/\Rx r p (fp (∃(t:WN),t.n=c.dq/\Lw t r (fp (∃(v:WN),v.n=c.least/\Lw v t (fp (∃(x:Ru),sb x.s=sb c.label/\ae (List UInt8) 2 uu x.l=ae (List UInt8) 2 uu (v.l++le v.n 8)/\(x.l.length+(300:Nat)<=(1099511627776:Nat)/\x.s.length<=255)/\fp (∃(z:List UInt8),ae (List UInt8) 2 uu z=ae (List UInt8) 2 uu (x.l++l6 x.s)/\z.length<=1099511627776/\fp (ez (bE c.enc=bE z/\dm ((0:Int))/\True)))))))))))))))) (du (c.kind==3) (Zo c h) (du (c.kind==4) (∃(k:WN),k.n=c.dp/\Lw k h (fp (Zo c k))) (Zi h c)))))))))))
def y8p (i:W0):Prop:=
 du (decide ((↑i.k:Int)<(↑(iE i.l).length:Int))) ((0<=(↑i.k:Int)/\(↑i.k:Int)<(↑(iE i.l).length:Int))/\∃(a:Int),zF (iE i.l) (↑i.k:Int).toNat 0 1=ay [dI a]/\∃(b:si),b.n=a/\b.lo=0/\b.hi=3/\(y6 b)/\fp (ez (BY i.l i.k=zH b.n b.lo b.hi/\True))) (ez (BY i.l i.k=0/\True))
def y7l (t:zz):Prop:=
 ∃(a:zz),Qa a.p t.p (Qe a.c t.c (a.i=t.i/\(a.p.check=0/\(Q8 a.p (a.p.settle.length<=1099511627776))/\To a)/\fp (∃(c:ir),c.kind=(xF a).kind/\c.id=(xF a).id/\c.inst=(xF a).inst/\c.side=(xF a).side/\c.dp=(xF a).dp/\c.dq=(xF a).dq/\c.least=(xF a).least/\c.time=(xF a).time/\sb c.label=sb (xF a).label/\(c.label=[]/\c.right=0)/\fp (ez (bE (xF t).enc=bE c.enc/\True)))))
def Ut (a:Bb):Prop:=(QK a.p (a.p.settle.length<=1099511627776))/\(((∀(b:List UInt8),b∈a.L->b.length<=255)/\(Cd a.t).snd.snd=10/\(oZ a.L).length+a.t.length<=1048576)/\a.s<=(oZ a.L++a.t).length/\(oZ a.L++a.t).length<=1048576)/\(∀(b:List UInt8),b∈a.L->b≠[]/\(zS (↑(b.headD (0:UInt8)).toNat:Int) b.tail).snd=0)/\a.L.length<=100000
def y9j (p:fj):Prop:=
 ez (True/\fp (∃(c:Bb),Qa c.p p (mo c.j.d=mo (Dk.mk [] 0)/\(Ut c)/\∀(d:iO),d.fy c.p (vK c.p c.L).B (vK c.p c.L).U->∃(e:iO),ar=((0:Int)==(0:Int))/\Qb p c.p (0=(vK c.p c.L).q/\(↑(0:Nat):Int)=(↑c.L.length:Int)/\nk (Gt.mk e [])=nk (Gt.mk d (vK c.p c.L).W)/\mo (Dk.mk [] 0)=mo c.j.d'/\[]=af kq (vK c.p c.L).R/\Q6 p c.p (aa 10 (OK p)=aa 10 (aK c)/\e.fy p (ag p.count []) [])))))
def jC (a:fj) (b:ph):=(af xM (xJ a b.x.B))
def yAi (a:Bb) (b:Int):Prop:=Q4 a.p (dm (aa 10 (aK a))/\dm (aa 1 (iE [(500:Int),(505:Int),(490:Int)]))/\dm (aa 1 (iE [(320:Int),(321:Int),(323:Int)]))/\dm (ab [V.d (D.v (av (sb [(67:UInt8),(76:UInt8)]))),V.own 1,V.d (dI 5),V.d (dI 0),V.d (dI 1000),V.d (dI 200),V.d (dI b),V.d (dI 4),V.d (dI 2),V.d (dI 40),V.own 2] 25))
def z7q (a:fj) (b:ph) (c:Bb) (d:Int):Prop:=Q4 a (dm (aa 10 (jC a b))/\dm (ab [V.own 20,V.own 21] yQv)/\dm (ac Mw 9 (af kG b.O))/\dm (ac Pb 7 (af xW b.N))/\yAi c d)
def z8f (a:ph->Prop) (b:ph) (c:fj) (d:ph) (e:ph) (f:Bb) (g:Int):Prop:=a b/\Q4 c (dm (aa 10 (jC c d))/\dm (ab [V.own 31,V.own 32] yQv)/\dm (ac Mw 9 (af kG d.O))/\dm (ac Pb 7 (af xW d.N))/\z7q c e f g)
def z8l (a:ph->Prop) (b:ph) (c:fj) (d:ph) (e:Bb) (f:Int):Prop:=a b/\z7q c d e f
def z9n (a:ph->Prop) (b:ph) (c:Bb) (d:Int):Prop:=a b/\yAi c d
@[reducible] def Qj (a:ph)(b:xd)(c:iO)(d:fj)(R:Prop):Prop:=a.x.q=b.x.q/\(↑a.x.R.length:Int)=(↑b.x.R.length:Int)/\nk (Gt.mk a.o a.x.W)=nk (Gt.mk c b.x.W)/\mo a.d=mo b.d/\af kq a.x.R=af kq b.x.R/\aa 1 (iE d.dr)=aa 1 (iE b.p.dr)/\aa 1 (iE d.settle)=aa 1 (iE b.p.settle)/\aa 10 (jC d a)=aa 10 (v8 b)/\af kG a.O=[kG (b.s,fy.mk 2 0 0 0 0 0 0 (zS b.s b.b).snd)]/\af xW a.N=[]/\R
@[reducible] def Qk (a:ph)(b:xd)(c:iO)(d:fj)(R:Prop):Prop:=a.x.q=b.x.q+(cM b)/\(↑a.x.R.length:Int)=(cP b)/\nk (Gt.mk a.o a.x.W)=nk (dX c b)/\mo a.d=mo b.D/\af kq a.x.R=af kq (fL b)/\aa 1 (iE d.dr)=aa 1 (iE b.p.dr)/\aa 1 (iE d.settle)=aa 1 (iE b.p.settle)/\aa 10 (jC d a)=aa 10 (dW b)/\af kG a.O=af kG b.O/\af xW a.N=af xW b.N/\R
@[reducible] def Qn (a:xd)(b:ph)(c:fj)(R:Prop):Prop:=a.x.q=b.x.q/\(↑a.x.R.length:Int)=(↑b.x.R.length:Int)/\nk (Gt.mk a.o a.x.W)=nk (Gt.mk b.o b.x.W)/\mo a.d=mo b.d/\af kq a.x.R=af kq b.x.R/\aa 1 (iE a.p.dr)=aa 1 (iE c.dr)/\aa 1 (iE a.p.settle)=aa 1 (iE c.settle)/\aa 10 (v8 a)=aa 10 (jC c b)/\(Vm a)/\R
@[reducible] def Qt (a b:ph)(c:fj)(R:Prop):Prop:=a.x.q=b.x.q/\(↑a.x.R.length:Int)=(↑b.x.R.length:Int)/\nk (Gt.mk a.o a.x.W)=nk (Gt.mk b.o b.x.W)/\mo a.d=mo b.d/\af kq a.x.R=af kq b.x.R/\aa 1 (iE c.dr)=aa 1 (iE c.dr)/\aa 1 (iE c.settle)=aa 1 (iE c.settle)/\aa 10 (jC c a)=aa 10 (jC c b)/\R
@[reducible] def W3 (a:ir)(R:Prop):Prop:=a.least=0/\a.time=1/\sb a.label=ByteArray.mk #[]/\(a.label=[]/\a.right=0)/\R
def Vaw (p:fj):Prop:=
 ∃(a:Int),a=2/\True/\fp (ez (True/\fp ((dm (sb [(67:UInt8),(76:UInt8)])/\True/\W4 a (True/\True))/\∃(e:Bb),sb e.p.code=sb [(67:UInt8),(76:UInt8)]/\iE e.p.dr=iE [(320:Int),(321:Int),(323:Int)]/\e.p.tick=5/\e.p.low=0/\e.p.high=1000/\e.p.wide=200/\e.p.gw=a/\e.p.top=4/\e.p.least=2/\e.p.part=40/\iE e.p.settle=iE [(500:Int),(505:Int),(490:Int)]/\mo e.j.d=mo (Dk.mk [] 0)/\(Ut e)/\∀(f:iO),f.fy e.p (vK e.p e.L).B (vK e.p e.L).U->∃(g:ph),Qb p e.p (g.x.q=(vK e.p e.L).q/\(↑g.x.R.length:Int)=(↑e.L.length:Int)/\nk (Gt.mk g.o g.x.W)=nk (Gt.mk f (vK e.p e.L).W)/\mo g.d=mo e.j.d'/\af kq g.x.R=af kq (vK e.p e.L).R/\Q6 p e.p (aa 10 (jC p g)=aa 10 (aK e)/\∃(h:ph->Prop),(∃(j:ir),j.kind=1/\j.id=1/\j.inst=3/\j.side=2/\j.dp=5/\j.dq=4/\W3 j (fp (∃(l:xd),l.s=0/\bE l.b=bE j.enc/\Qb l.p p (Qn l g p ((∀(m:iO),(zS l.s l.b).snd≠0/\m.fy l.p l.x.B l.x.U->∃(n:ph),Qb p l.p (Qj n l m p (z9n h n e a)))/\∀(m:iO),(zS l.s l.b).snd=0/\m.fy l.p (l.x.X l.p l.s l.b).B (l.x.X l.p l.s l.b).U->∃(n:ph),Qb p l.p (Qk n l m p (z9n h n e a)))))))/\∀(j:ph),h j->∃(k:ph),Qc p (Qt k j p (∃(l:ph->Prop),(∃(m:ir),m.kind=1/\m.id=2/\m.inst=1/\m.side=2/\m.dp=500/\m.dq=6/\W3 m (fp (∃(q:xd),q.s=1/\bE q.b=bE m.enc/\Qb q.p p (Qn q k p ((∀(r:iO),(zS q.s q.b).snd≠0/\r.fy q.p q.x.B q.x.U->∃(s:ph),Qb p q.p (Qj s q r p (z8l l s p j e a)))/\∀(r:iO),(zS q.s q.b).snd=0/\r.fy q.p (q.x.X q.p q.s q.b).B (q.x.X q.p q.s q.b).U->∃(s:ph),Qb p q.p (Qk s q r p (z8l l s p j e a)))))))/\∀(m:ph),l m->∃(n:ph),Qc p (Qt n m p (∃(q:ph->Prop),(∃(r:ir),r.kind=1/\r.id=3/\r.inst=0/\r.side=1/\r.dp=505/\r.dq=9/\W3 r (fp (∃(t:xd),t.s=2/\bE t.b=bE r.enc/\Qb t.p p (Qn t n p ((∀(u:iO),(zS t.s t.b).snd≠0/\u.fy t.p t.x.B t.x.U->∃(v:ph),Qb p t.p (Qj v t u p (z8f q v p m j e a)))/\∀(u:iO),(zS t.s t.b).snd=0/\u.fy t.p (t.x.X t.p t.s t.b).B (t.x.X t.p t.s t.b).U->∃(v:ph),Qb p t.p (Qk v t u p (z8f q v p m j e a)))))))/\∀(r:ph),q r->du ((mE j)==1) (du ((mE m)==1) (du ((mE r)==6) (((0:Int)<=(5:Int)/\5<(mE r))/\∃(s:Int),∃(t:Int),∃(u:Int),∃(v:Int),∃(w:Int),∃(x:Int),∃(y:Int),∃(z:Int),zF (af kG r.O) (aw 5) 1 8=ay [dI s,dI t,dI u,dI v,dI w,dI x,dI y,dI z]/\du (s==3 && (t==3 && (u==0 && (v==1 && (w==505 && (x==4 && (y==5 && (z==0 && ar)))))))) (ez (ar=decide ((↑(af xW r.N).length:Int)>0)/\True)) (ez (ar=au/\True))) (ez (ar=au/\True))) (ez (ar=au/\True))) (ez (ar=au/\True)))))))))))
def ySx (a:List UInt8) (i j:Nat):(sb a).extract i j=sb ((a.take j).drop i):=by
 apply ByteArray.ext;simp only[sb,ByteArray.data_extract,List.extract_toArray];rw[List.extract_eq_drop_take',List.drop_take]
def yJl:LW.ok Tryz.prog 116:=ix (V:=yKf) mixed (dz z0x fx) 0 (λ_=>y2b) (λ_=>[]) [] Tryz.func116 λ(i:Ru) h=>by
 obtain⟨l,s⟩:=i;obtain⟨h,hl⟩:l.length+300<=1099511627776/\s.length<=255:=h;have hs:(sb s).size=s.length:=T3 s;have hm:min ((sb s).size:Int) 255=(s.length:Int):=by rw[hs];omega
 have he:(sb s).extract 0 ((s.length:Int)).toNat=sb s:=by
  rw[ySx,ml,CV];rfl
 have et:s.take 255=s:=oV oM;unfold yKf fp ez tX;dsimp only;rw[hm,he,hs];refine⟨⟨oM,oM⟩,⟨l,s.length⟩,rfl,rfl,by dsimp only[WN.ok];omega,λ_ _=>⟨?_,(),?_,trivial⟩⟩
 ·dsimp only;rw[zVp,xL,xL,iQ];simp[sb];omega
 ·dsimp only;rw[zVp,<- Tv,l6,et];simp[sb]
def y8x (c:ir) (h:JV.du c):yXm c:=by
 obtain⟨hl,hr⟩:c.label=[]/\c.right=0:=h;have he:c.enc=pf c.kind::(le c.id 8++c.tail):=by rw[ir.enc,dx (by simp[hr])]
 unfold yXm Lw Rx fp ez Qe Zo Lw fp Zi fp ez;refine⟨c,iH ⟨rfl,by rw[hl];exact oQ _,λ_ _=>Cv.du.mk (λe=>absurd e (by rw[hr];simp)) (λ_=>⟨(),trivial,λ_ _=>⟨⟨[],c.kind⟩,rfl,rfl,by simp[WN.ok],λ_ _=>⟨⟨[pf c.kind],c.id⟩,rfl,rfl,by simp[WN.ok],λ_ _=> ?_⟩⟩⟩)⟩⟩;dsimp only;refine Cv.du.mk (λe=> ?_) (λe=>Cv.du.mk (λe3=> ?_) (λe3=>Cv.du.mk (λe4=> ?_) (λe4=> ?_)))
 ·have e:c.kind=1:=by simpa using e
  have ht:c.tail=pf c.inst::pf c.side::pf c.time::(le c.dp 8++(le c.dq 8++(le c.least 8++l6 c.label))):=by rw[ir.tail,fk e]
  refine⟨⟨[pf c.kind]++le c.id 8,c.inst⟩,rfl,rfl,by simp[WN.ok,jB],λ_ _=>⟨⟨_,c.side⟩,rfl,rfl,by simp[WN.ok,jB],λ_ _=>⟨⟨_,c.time⟩,rfl,rfl,by simp[WN.ok,jB],λ_ _=>⟨⟨_,c.dp⟩,rfl,rfl,by simp[WN.ok,jB],λ_ _=>⟨⟨_,c.dq⟩,rfl,rfl,by simp[WN.ok,jB],λ_ _=>⟨⟨_,c.least⟩,rfl,rfl,by simp[WN.ok,jB],λ_ _=>⟨⟨_,c.label⟩,rfl,rfl,⟨by simp[jB],by rw[hl];exact oQ _⟩,λ_ _=>⟨_,rfl,by dsimp only;rw[hl];simp[jB,l6],λ_ _=>⟨(),?_,rfl,trivial⟩⟩⟩⟩⟩⟩⟩⟩⟩;dsimp only;rw[he,ht];simp
 ·have e3:c.kind=3:=by simpa using e3
  have ht:c.tail=le c.dq 8:=by rw[ir.tail,dx (by omega),fk e3]
  refine⟨⟨[pf c.kind]++le c.id 8,c.dq⟩,rfl,rfl,by simp[WN.ok,jB],λ_ _=>⟨_,rfl,by simp[jB],λ_ _=>⟨(),?_,rfl,trivial⟩⟩⟩;dsimp only;rw[he,ht];simp
 ·have e4:c.kind=4:=by simpa using e4
  have ht:c.tail=le c.dp 8++le c.dq 8:=by rw[ir.tail,dx (by omega),dx (by omega),fk e4]
  refine⟨⟨[pf c.kind]++le c.id 8,c.dp⟩,rfl,rfl,by simp[WN.ok,jB],λ_ _=>⟨⟨_,c.dq⟩,rfl,rfl,by simp[WN.ok,jB],λ_ _=>⟨_,rfl,by simp[jB],λ_ _=>⟨(),?_,rfl,trivial⟩⟩⟩⟩;dsimp only;rw[he,ht];simp
 ·have e:¬c.kind=1:=by simpa using e
  have e3:¬c.kind=3:=by simpa using e3
  have e4:¬c.kind=4:=by simpa using e4
  have ht:c.tail=[]:=by rw[ir.tail,dx e,dx e3,dx e4]
  refine⟨_,rfl,by simp[jB],λ_ _=>⟨(),?_,rfl,trivial⟩⟩;rw[he,ht];simp
def yFj:JV.ok Tryz.prog 52:=ix mixed (dz XZ (dz yDo (dz z0x (dz yUs (dz yJl (dz yDi fx)))))) 0 (λ_=>[]) (λ_=>[]) [] Tryz.func52 y8x
def LX:RF.ok Tryz.prog 11:=ix (V:=y8p) mixed (dz Y5 fx) 0 (λ_=>[]) (λ_=>[]) [] Tryz.func11 λ(i:W0) h=>by
 obtain⟨l,k⟩:=i;obtain⟨h1,h2⟩:(∀s∈l,ie s)/\k<=1000000:=h;have hl:(iE l).length=l.length:=iz _;unfold y8p fp ez y6 dI;dsimp only;refine zI (λc=> ?_) (λc=>⟨(),?_,trivial⟩)
 ·obtain⟨s,hs⟩:=z6 (l:=l) (i:=k) oM;refine⟨⟨oM,oM⟩,s,rz hs,⟨s,0,3⟩,rfl,rfl,rfl,⟨h1 s (mc hs),td rfl,td rfl,td rfl⟩,λ_ _=>⟨(),?_,trivial⟩⟩;rw[BY,hs]
 ·rw[BY,ue (by omega)]
def y4a (l:List Int) (k:Nat):0<=BY l k/\BY l k<=3:=by
 rw[BY];split
 ·exact yUd Z8
 ·exact⟨yl _,Z8⟩
def LZ:RH.ok Tryz.prog 12:=ix (V:=y7l) mixed (dz yTt (dz yFj fx)) 0 (λ_=>[]) (λ_=>[]) [] Tryz.func12 λ(t:zz) h=>by
 obtain⟨p,c,k⟩:=t;obtain⟨⟨x,hp⟩,hc,h1,h2⟩:(∃x,p=iw x)/\c.raw/\0<=k/\k<=1000000:=h;subst hp;have hr:(xF ⟨iw x,c,k⟩).right=0:=by
  obtain⟨n,rfl⟩:∃n:Nat,k=n:=⟨k.toNat,oM⟩
  exact yJy oM
 unfold y7l Q8 Qa fp ez Qe To;dsimp only;exact⟨⟨iw x,c,k⟩,iH (iH (oT ⟨rfl,⟨pT x,zNc x,hc,h1,h2⟩,λ_ _=>⟨xF ⟨iw x,c,k⟩,iH ⟨rfl,⟨zFz _,hr⟩,λ_ _=>⟨(),rfl,trivial⟩⟩⟩⟩))⟩
def Mn:Sp.ok Tryz.prog 8:=ix (V:=y9j) mixed (dz yBh (dz yQh fx)) 0 (λ_=>[]) (λ_=>[]) [] Tryz.func8 λ(p:fj) h=>by
 obtain⟨hc,hs⟩:p.check=0/\p.small:=h;unfold y9j Q6 Qa Qb fp ez OK Ut QK aK;exact⟨(),trivial,λ_ _=>⟨⟨p,0,[],[]⟩,iH (jh ⟨rfl,⟨⟨hc,hs⟩,⟨⟨λl hl=>(by cases hl),rfl,td rfl⟩,mg _,td rfl⟩,λr hr=>(by cases hr),td rfl⟩,λo ho=>⟨o,iH (rn (jh ho))⟩⟩)⟩⟩
end Sx
