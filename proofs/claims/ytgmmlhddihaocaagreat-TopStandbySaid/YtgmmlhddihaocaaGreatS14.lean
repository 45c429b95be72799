/- Texts of ours. No condition. -/
import Derived.Test.YtgmmlhddihaocaaGreatS13
set_option linter.all false
open Sx.fi renaming jc->aa,qw->ab,cells->ac,own->ae
open List renaming map->af,replicate->ag,range'->aj,drop->ak
open Bool renaming false->am,true->ao,or_false->ap
open Go.IntKind renaming i64->aq,u8->ar
open Option renaming some->au
open Go.Value renaming string->av
open Int renaming toNat->aw
namespace Sx
set_option maxRecDepth 100000
open Go Cv Go.Proofs
def yTa {n lo hi:Int} (h:lo<=hi):lo<=zG n lo hi/\zG n lo hi<=hi:=by
 have h1:=MY n (show hi-lo+1≠0 by omega);have h2:=ON n (show 0<hi-lo+1 by omega);rw[zG];constructor<;>omega
open Classical in
open Classical in
def y6r {p:ff} {v w:Vw} (hv:Nz p v) (hw:Nz p w):v.length=w.length/\Vw.pn v<=100000000/\Vw.pn w<=100000000/\v.length<=1000000:=by
 have h1:=yIu hv;have h2:=yIu hw;have h3:=hv.r.2;have h4:=hw.r.2;exact⟨by rw[hv.len,hw.len],oM,oM,oM⟩
def yWi (i:NG) (h:FO.dq i):yKl i:=by
 obtain⟨hR,hB⟩:i.s.fq i.p i.B/\iS i.p i.B:=h;have wm:=xS i.p;have Am:=hB.bl;have DW:i.s.ou:=hR.Fb oM;have tp:vV (i.B.map kC):=hB.fg;have hll:=Yr i.p i.B;unfold yKl fV aS kO fE dU cC uI zW dI;refine⟨i.p,oJ (iT ⟨rfl,hB.ps,λ_ _=>Cv.dq.mk (λc=>absurd hB.pc (by simpa using c)) (λ_=>⟨i.s,rfl,DW,λ_ _=>⟨i.p,oJ (iT ⟨rfl,hB.ps,λ_ _=>⟨0,rfl,rfl,by rw[hR.fg],λj=>j<=i.p.count,λj=>i.p.count-j,mz _,λj hj=>zH (λgv=> ?_) (λgv=> ?_)⟩⟩)⟩⟩)⟩)⟩
 ·have gv:j<i.p.count:=by omega
  have tr:HT i.B (j:Int)=i.B.getD j []:=by rw[HT,fb (by omega),oF]
  have hq:∀s,(x5 ⟨i.p,i.B.map kC,j⟩ s).length<=1000000:=λs=>xi (zLt _ _) Z8
  refine⟨⟨Z8,Z8⟩,1,rfl,⟨i.s,i.p,i.B,j,am⟩,rfl,rfl,rfl,⟨hR,Z9⟩,λ_ _=>⟨⟨⟨i.p,i.B.map kC,j⟩,am⟩,gr (yj ⟨rfl,⟨hB.ps,tp⟩,λ_ _=>⟨⟨x5 ⟨i.p,i.B.map kC,j⟩ 1,1⟩,rfl,rfl,⟨.inl rfl,hq 1⟩,λ_ _=>⟨⟨Z8,Z8⟩,2,rfl,⟨i.s,i.p,i.B,j,ao⟩,rfl,rfl,rfl,⟨hR,Z9⟩,λ_ _=>⟨⟨⟨i.p,i.B.map kC,j⟩,ao⟩,gr (yj ⟨rfl,⟨hB.ps,tp⟩,λ_ _=>⟨⟨x5 ⟨i.p,i.B.map kC,j⟩ 2,2⟩,rfl,rfl,⟨.inr rfl,hq 2⟩,λ_ _=>⟨?_,j+1,rf oM,?_,rfl,Z9,Z9,rfl,gu⟩⟩⟩)⟩⟩⟩⟩)⟩⟩
  ·rw[im,om];omega
  ·rw[tb,yEo i.p i.B gv,Eb,jr,jx,CG];dsimp only;rw[tr];rfl
 ·have hj:j<=i.p.count:=hj;rw[oh (by omega)];exact⟨(),gu⟩
def z2i:FO.ok Tryz.prog 37:=ib mixed (dx On (dx ySs (dx aQ (dx yPh (dx zVc (dx yRz fj)))))) 1 (λ_=>[]) (λi=>y3h i) [] Tryz.func37 yWi
def VK:RW.ok Tryz.prog 47:=ib (V:=y4l) mixed (dx z1y fj) 0 (λ_=>[]) (λ_=>[]) [] Tryz.func47 λ(i:uz) h=>⟨i,rfl,rfl,h,λ_ _=>⟨(),rfl,trivial⟩⟩
def zUe:L0.ok Tryz.prog 101:=ib (V:=y0j) mixed fj 0 (λ_=>[]) (λ_=>[]) [] Tryz.func101 λ(g:Gt) _=>⟨(),rfl,rfl,trivial⟩
def z1a:LS.ok Tryz.prog 102:=ib (V:=yZo) mixed fj 0 (λ_=>[]) (λ_=>[]) [] Tryz.func102 λ(m:iq) _=>⟨(),gu⟩
def Xa {p:ff} {B:List (List zI)} (h:tg p B) (U:List Int) (W:List (Int×Int)) (s:Int) (b:List UInt8):iS p (bW p B U W s b).B:=by
 rw[bW];split
 ·exact h.ok
 split
 ·exact h.ok
 rw[Md];split
 ·exact h.ok
 split
 ·exact h.ok
 ·exact y1j h U _
def y3u {p:ff} {v w:Vw} (hv:Nz p v) (hw:Nz p w):(wD 0 v w).length<=202000000:=by
 obtain⟨h1,h2,h3,h4⟩:=y6r hv hw;have:=yKw v w v.length (lk _) oM;rw[oh (lk _),oh (by omega)]at this;omega
def ved (i:xp) (h:edC.dq i):Ved i:=by
 obtain⟨o0,x,p,s,b⟩:=i;obtain⟨⟨hM,hB⟩,hb,⟨uh,zp⟩,⟨rm,rl⟩,hR⟩:(o0.fq p x.B x.U/\iS p x.B)/\b.length<=1048576/\(0<=s/\s<8)/\(0<=x.q/\x.q<=1000000000000000000)/\x.R.length<=1000000:=h;have Ai:=hM.s.wf hB;have A3:iS p (x.X p s b).B:=Xa Ai _ _ _ _;have Ps:((jj s).toNat:Int)=ar.wrap s:=(SX s).symm;unfold Ved Mw Z3 Zz ZE Mx MH;dsimp only;refine⟨trivial,trivial,[[jj s],b],?_,⟨by simp,by simp;omega,by simp⟩,λ_ _=>⟨trivial,trivial,by rw[im];omega,⟨⟨o0,x.W⟩,p,x.B,x.U,s,b,x.X p s b⟩,rfl,rfl,rfl,⟨⟨hM,hB⟩,Z9,rfl⟩,λo ho=> ?_⟩⟩
 ·show[gh [jj s],gh b]=_;rw[gh,gh,<- Ps];rfl
 have hv:=SA Ai;have hw:=SA (ho.s.wf A3);obtain⟨g1,g2,g3,g4⟩:=y6r hv hw;have hl:=y3u hv hw;have er:af gh (x.R++[v8 s b])=af gh x.R++[[D.ro 1 (bE [[jj s],b].flatten)]]:=by
  rw[jr];simp[gh,v8]
 have eq1:x.q+((x.M p s b).length:Int)=aq.wrap (x.q+(af yK (wT x.q (x.M p s b))).length):=by
  have:(x.M p s b).length<=202000000:=hl;rw[im,mE,iA (by omega)]
 refine⟨⟨⟨o,(x.X p s b).W⟩,rfl,rfl,trivial,λ_ _=>⟨gu,⟨o,gr (nn ⟨rfl,trivial,λ_ _=>⟨gu,?_,gu,?_⟩⟩)⟩,gu,o,rfl,rfl,rfl,rfl,rfl,rfl,rfl,rfl,rfl,rfl,rfl,rfl,rfl,trivial,λ_ _=>⟨gu,?_⟩⟩⟩,trivial,gu,⟨o,(x.X p s b).W⟩,rfl,rfl,trivial,λ_ _=>⟨gu,o,gr (nn ⟨rfl,trivial,λ_ _=>⟨gu,?_⟩⟩)⟩⟩
 all_goals exact⟨⟨o.s,p,(x.X p s b).B⟩,gr (iT ⟨rfl,⟨ho.s,A3⟩,λ_ _=>⟨⟨yO p x.B,yO p (x.X p s b).B,x.q⟩,rfl,rfl,rfl,⟨g1,⟨Z9,Z9⟩,g2,g3,g4⟩,λ_ _=>⟨o,gr ⟨rfl,eq1,gr (oJ ⟨rfl,er,iT ho⟩)⟩⟩⟩⟩)⟩
def yUn:edC.ok Tryz.prog 51:=ib mixed (dx yBk (dx Sg (dx zUe (dx z1a (dx z2i (dx yIs fj)))))) 0 (λ_=>[]) (λ_=>[]) [] Tryz.func51 ved
structure tz where
 o:iq
 x:Es
 p:ff
 d:Dk
 s:Int
 b:List UInt8
def Dy (p:ff) (x:Es) (o:iq) (d:Dk):List fi:=[G3 (x.en p) 4 7,Ee 3 x.R.length,gy ⟨o,x.W⟩,ix d,yu x.R,.jc 1 (iE p.dm),.jc 1 (iE p.settle),BZ (yO p x.B)]
@[reducible] def tz.ok (i:tz):Prop:=(i.o.fq i.p i.x.B i.x.U/\iS i.p i.x.B)/\i.b.length<=254/\(-1<=i.s/\i.s<8)/\(0<=i.x.q/\i.x.q<=1000000000000000000)/\i.x.R.length<=1000000/\i.d.b.length+i.b.length+7<=1048576
def tz.Y (i:tz):Es:=i.x.ed i.p i.s i.b
def tz.N (i:tz):List tY:=wT i.x.q (i.x.M i.p i.s i.b)
def tz.O (i:tz):List (Int×fq):=(i.x.X i.p i.s i.b).O
def tz.D (i:tz):Dk:=⟨i.d.b++x7 (v8 i.s i.b),i.d.safe⟩
def LB:gi where
 ι:=tz
 pat:=λi=>[.nm 0 0,zA i.s,oD 1 (bE i.b)]
 pre:=λi=>Dy i.p i.x i.o i.d
 dq:=λi=>i.ok
 alts:=λi=>[
  {o:=iq,res:=λ_=> .agg [.own 8,IV],post:=λo=>Dy i.p i.x o i.d++[EE [(i.s,⟨2,0,0,0,0,0,0,(zL i.s i.b).2⟩)]],rel:=λo=>(zL i.s i.b).2≠0/\o.fq i.p i.x.B i.x.U},
  {o:=iq,res:=λ_=> .agg [.own 10,.own 11],post:=λo=>[G3 (i.Y.en i.p) 8 9,Ee 3 i.Y.R.length,gy ⟨o,i.Y.W⟩,ix i.D,.gone,.jc 1 (iE i.p.dm),.jc 1 (iE i.p.settle),.gone,yu i.Y.R,BZ (yO i.p i.Y.B),EE i.O,IW i.N],rel:=λo=>(zL i.s i.b).2=0/\o.fq i.p i.Y.B i.Y.U}]
def rj (p:ff):Es:=⟨ag p.count [],[],[],0,[]⟩
def vL (p:ff) (x:Es) (r:List UInt8):Es:=x.ed p (r.headD 0).toNat r.tail
def xI (p:ff) (L:List (List UInt8)):Es:=L.foldl (vL p) (rj p)
def Hq (r:List UInt8):Prop:=r≠[]/\(zL (r.headD 0).toNat r.tail).2=0
structure zu where
 p:ff
 s:Nat
 L:List (List UInt8)
 t:List UInt8
def zu.j (i:zu):BX:=⟨i.s,i.L,i.t⟩
@[reducible] def zu.ok (i:zu):Prop:=(i.p.check=0/\i.p.small)/\((DL.mk i.L i.t).ok/\i.j.d.ok)/\(∀r∈i.L,Hq r)/\i.L.length<=100000
def enK (e:En):fi:= .cells [sV e.p.code,.own 5,zA e.p.tick,zA e.p.low,zA e.p.high,zA e.p.wide,zA e.p.dt,zA e.p.top,zA e.p.least,zA e.p.part,.own 6,.nm 2 0,.nm 3 0,.own 7,zA e.q,.own 4] bF
def QJ:gi where
 ι:=zu
 pat:=λi=>[oe i.p,.nm 0 0]
 pre:=λi=>[ix i.j.d]
 dq:=λi=>i.ok
 alts:=λi=>[{o:=iq,res:=λ_=> .ja [.nm 1 0,zA 0],post:=λo=>[ix i.j.d',enK ((xI i.p i.L).en i.p),Ee 0 i.L.length,gy ⟨o,(xI i.p i.L).W⟩,yu (xI i.p i.L).R,.jc 1 (iE i.p.dm),.jc 1 (iE i.p.settle),BZ (yO i.p (xI i.p i.L).B)],rel:=λo=>o.fq i.p (xI i.p i.L).B (xI i.p i.L).U}]
structure NH where
 o:iq
 x:Es
 k:Nat
def y7m (i:zu):List gp:=[{ι:=NH,dv:=λj=>[(6,.nm 2 0),(10,.nm 0 0),(48,.own 8),(50,zA j.k)],rows:=λj=>[G3 (j.x.en i.p) 4 7,Ee 3 i.L.length,gy ⟨j.o,j.x.W⟩,ix i.j.d',yu j.x.R,.jc 1 (iE i.p.dm),.jc 1 (iE i.p.settle),BZ (yO i.p j.x.B),yu i.L]}]
noncomputable def QI:gi:=fp En (λ_=>[.nm 0 0]) (λe=>[G3 e 4 7,.gone,.gone,.gone,.gone,.gone,.gone,BZ e.v]) (λe=>Mv e.v) (λe=>oD 1 (bE (dZ e.v e.q))) (λe=>[G3 e 4 7,.gone,.gone,.gone,.gone,.gone,.gone,BZ e.v])
structure Fe where
 e:En
 n:Int
def J8:gi where
 ι:=Fe
 pat:=λi=>[.nm 0 0,zA i.n]
 pre:=λi=>[G3 i.e 4 7,.gone,.gone,.gone,yu i.e.R,.gone,.gone,.gone]
 dq:=λi=>i.e.R.length<=1000000/\∀r∈i.e.R,r.length<=1048576
 alts:=λi=>[
  {o:=Unit,res:=λ_=> .ja [oD 1 (bE (i.e.R.getD i.n.toNat [])),yN ao],post:=λ_=>[G3 i.e 4 7,.gone,.gone,.gone,yu i.e.R,.gone,.gone,.gone],rel:=λ_=>0<=i.n/\i.n<i.e.R.length},
  {o:=Unit,res:=λ_=> .ja [IV,yN am],post:=λ_=>[G3 i.e 4 7,.gone,.gone,.gone,yu i.e.R,.gone,.gone,.gone],rel:=λ_=>¬(0<=i.n/\i.n<i.e.R.length)}]
def Tq (a:xp):Prop:=(a.o.fq a.p a.x.B a.x.U/\iS a.p a.x.B)/\a.b.length<=1048576/\(0<=a.s/\a.s<8)/\(0<=a.x.q/\a.x.q<=1000000000000000000)/\a.x.R.length<=1000000
def kV (a:tz):=(af yG (yO a.p (a.x.X a.p a.s a.b).B))
def kF (a:tz):=(a.x.R++[v8 a.s a.b])
def kZ (a:tz):=(↑(kF a).length:Int)
def jG (a:tz):=(↑(a.x.M a.p a.s a.b).length:Int)
def xN (a:tz):=(af yG (yO a.p a.x.B))
def kY (a:iq) (b:tz):=(Gt.mk a (b.x.X b.p b.s b.b).W)
def y3k (i:tz):Prop:=
 ∃(a:uz),a.s=i.s/\bE a.b=bE i.b/\a.b.length<=1099511627776/\∀(b:Unit),True->dq ((zL a.s a.b).snd !=0) (∃(c:A8),c.s=i.s/\bE c.b=bE i.b/\gy c.g=gy (Gt.mk i.o i.x.W)/\(Mw c)/\∀(d:iq),d.fq c.p c.X.B c.X.U->(∃(e:iq),True/\dj (sb i.p.code)/\dj i.p.tick/\dj i.p.low/\dj i.p.high/\dj i.p.wide/\dj i.p.dt/\dj i.p.top/\dj i.p.least/\dj i.p.part/\dj i.x.q/\dj ((↑i.x.R.length:Int))/\gy (Gt.mk e i.x.W)=gy (Gt.mk d c.X.W)/\dj (ix i.d)/\dj (af gh i.x.R)/\dj (aa 1 (iE i.p.dm))/\dj (aa 1 (iE i.p.settle))/\aa 10 (xN i)=BZ (yO i.p i.x.B)/\[xF (i.s,fq.mk 2 0 0 0 0 0 0 (zL i.s i.b).snd)]=af xF c.X.O/\(zL i.s i.b).snd≠0/\e.fq i.p i.x.B i.x.U)\/(∃(e:iq),dj (sb i.p.code)/\dj i.p.tick/\dj i.p.low/\dj i.p.high/\dj i.p.wide/\dj i.p.dt/\dj i.p.top/\dj i.p.least/\dj i.p.part/\i.x.q+(jG i)=i.x.q/\(kZ i)=(↑i.x.R.length:Int)/\gy (kY e i)=gy (Gt.mk d c.X.W)/\ix i.D=ix i.d/\dj (aa 1 (iE i.p.dm))/\dj (aa 1 (iE i.p.settle))/\af gh (kF i)=af gh i.x.R/\aa 10 (kV i)=BZ (yO i.p i.x.B)/\af xF i.O=af xF c.X.O/\af yK i.N=[]/\(zL i.s i.b).snd=0/\e.fq i.p (i.x.X i.p i.s i.b).B (i.x.X i.p i.s i.b).U)) (True/\True/\∃(c:List (List UInt8)),af gh c=[[D.ro 1 [[D.v (.int .u8 (ar.wrap i.s))]]],[D.ro 1 (bE i.b)]]/\(1<=c.flatten.length/\c.flatten.length<=1099511627776/\c.length<=1000)/\∀(d:Unit),True->True/\∃(e:JA),bE e.l=bE c.flatten/\e.n=(↑i.x.R.length:Int)/\ix e.d=ix i.d/\(e.l.length<=255/\e.d.b.length+e.l.length+(6:Nat)<=(1048576:Nat)/\0<=e.n/\e.n<=1048576)/\∀(f:Unit),True->∃(g:xp),g.s=i.s/\bE g.b=bE i.b/\sb g.p.code=sb i.p.code/\g.p.tick=i.p.tick/\g.p.low=i.p.low/\g.p.high=i.p.high/\g.p.wide=i.p.wide/\g.p.dt=i.p.dt/\g.p.top=i.p.top/\g.p.least=i.p.least/\g.p.part=i.p.part/\g.x.q=i.x.q/\gy g.g=gy (Gt.mk i.o i.x.W)/\af gh g.x.R=af gh i.x.R/\aa 1 (iE g.p.dm)=aa 1 (iE i.p.dm)/\aa 1 (iE g.p.settle)=aa 1 (iE i.p.settle)/\aa 10 (af yG (yO g.p g.x.B))=BZ (yO i.p i.x.B)/\(Tq g)/\∀(h:iq),h.fq g.p (g.x.X g.p g.s g.b).B (g.x.X g.p g.s g.b).U->(∃(j:iq),False)\/(∃(j:iq),sb i.p.code=sb g.p.code/\i.p.tick=g.p.tick/\i.p.low=g.p.low/\i.p.high=g.p.high/\i.p.wide=g.p.wide/\i.p.dt=g.p.dt/\i.p.top=g.p.top/\i.p.least=g.p.least/\i.p.part=g.p.part/\i.x.q+(jG i)=g.x.q+(↑(g.x.M g.p g.s g.b).length:Int)/\(kZ i)=e.n+1/\gy (kY j i)=gy (Gt.mk h (g.x.X g.p g.s g.b).W)/\ix i.D=ix (Dk.mk (e.d.b++x7 e.l) e.d.safe)/\aa 1 (iE i.p.dm)=aa 1 (iE g.p.dm)/\aa 1 (iE i.p.settle)=aa 1 (iE g.p.settle)/\af gh (kF i)=af gh (g.x.R++[v8 g.s g.b])/\aa 10 (kV i)=aa 10 (Mx g)/\af xF i.O=af xF g.O/\af yK i.N=af yK g.N/\(zL i.s i.b).snd=0/\j.fq i.p (i.x.X i.p i.s i.b).B (i.x.X i.p i.s i.b).U))
def rJ (a:zu):Prop:=sb a.p.code=sb a.p.code/\True/\dj a.p.tick/\dj a.p.low/\dj a.p.high/\dj a.p.wide/\dj a.p.dt/\dj a.p.top/\dj a.p.least/\dj a.p.part/\True/\True
def Xb (a:BX):Prop:=((∀(b:List UInt8),b∈a.L->b.length<=255)/\(BF a.t).snd.snd=10/\(ni a.L).length+a.t.length<=1048576)/\a.s<=(ni a.L++a.t).length/\(ni a.L++a.t).length<=1048576
def vH (a:zu):=(af yG (yO a.p (xI a.p a.L).B))
def y3t (i:zu):Prop:=
 ∃(a:ff),sb a.code=sb i.p.code/\iE a.dm=iE i.p.dm/\a.tick=i.p.tick/\a.low=i.p.low/\a.high=i.p.high/\a.wide=i.p.wide/\a.dt=i.p.dt/\a.top=i.p.top/\a.least=i.p.least/\a.part=i.p.part/\iE a.settle=iE i.p.settle/\(zW a)/\(∀(b:Unit),a.check=0->∃(c:BX),ix c.d=ix i.j.d/\(Xb c)/\∀(d:Unit),True->∃(e:List Int),iE e=iE i.p.dm/\e.length<=1000000/\∀(f:Unit),True->True/\∃(g:List Int),iE g=iE i.p.settle/\g.length<=1000000/\∀(h:Unit),True->∃(j:Gt),jX j.m=jX (iq.mk a (bR a) [])/\xO j.W=xO []/\True/\∀(k:Unit),True->(rJ i)/\(rJ i)/\∃(l:iq),sb l.p.code=sb j.m.p.code/\l.p.tick=j.m.p.tick/\l.p.low=j.m.p.low/\l.p.high=j.m.p.high/\l.p.wide=j.m.p.wide/\l.p.dt=j.m.p.dt/\l.p.top=j.m.p.top/\l.p.least=j.m.p.least/\l.p.part=j.m.p.part/\zE l.s=zE j.m.s/\zX l.used=zX j.m.used/\aa 1 (iE l.p.dm)=aa 1 (iE j.m.p.dm)/\aa 1 (iE l.p.settle)=aa 1 (iE j.m.p.settle)/\True/\∀(m:Unit),True->(rJ i)/\(rJ i)/\∃(n:NG),sb n.p.code=sb i.p.code/\iE n.p.dm=iE e/\n.p.tick=i.p.tick/\n.p.low=i.p.low/\n.p.high=i.p.high/\n.p.wide=i.p.wide/\n.p.dt=i.p.dt/\n.p.top=i.p.top/\n.p.least=i.p.least/\n.p.part=i.p.part/\iE n.p.settle=iE g/\zE n.s=zE l.s/\(n.s.fq n.p n.B/\iS n.p n.B)/\∀(p:Unit),True->(rJ i)/\∃(q:NH),(↑q.k:Int)=0/\dj (sb i.p.code)/\dj i.p.tick/\dj i.p.low/\dj i.p.high/\dj i.p.wide/\dj i.p.dt/\dj i.p.top/\dj i.p.least/\dj i.p.part/\q.x.q=0/\(↑i.L.length:Int)=(↑c.L.length:Int)/\sb q.o.p.code=sb l.p.code/\q.o.p.tick=l.p.tick/\q.o.p.low=l.p.low/\q.o.p.high=l.p.high/\q.o.p.wide=l.p.wide/\q.o.p.dt=l.p.dt/\q.o.p.top=l.p.top/\q.o.p.least=l.p.least/\q.o.p.part=l.p.part/\zE q.o.s=zE n.s/\zX q.o.used=zX l.used/\aa 1 (iE q.o.p.dm)=aa 1 (iE l.p.dm)/\aa 1 (iE q.o.p.settle)=aa 1 (iE l.p.settle)/\xO q.x.W=xO j.W/\ix i.j.d'=ix c.d'/\af gh q.x.R=[]/\aa 1 (iE i.p.dm)=aa 1 (iE e)/\aa 1 (iE i.p.settle)=aa 1 (iE g)/\af yG (yO i.p q.x.B)=af yG (yO n.p n.B)/\af gh i.L=af gh c.L/\∃(r:NH->Prop),∃(s:NH->Nat),r q/\∀(t:NH),r t->dq (decide ((↑t.k:Int)<(↑(af gh c.L).length:Int))) ((0<=(↑t.k:Int)/\(↑t.k:Int)<(↑(af gh i.L).length:Int))/\∃(u:List (List D)),zD (af gh i.L) (↑t.k:Int).toNat 0 1=au [D.ro 1 u]/\dq ((↑u.length:Int)==0) (∃(v:iq),False) (((0:Int)<=(0:Int)/\0<(↑u.length:Int))/\∃(v:Int),zD u (aw 0) 0 1=au [D.v (.int .u8 v)]/\((0:Int)<=(1:Int)/\1<=(↑u.length:Int))/\∃(w:uz),w.s=aq.wrap v/\bE w.b=ak (aw 1) u/\w.b.length<=1099511627776/\∀(x:Unit),True->dq ((zL w.s w.b).snd !=0) (∃(y:iq),False) (((0:Int)<=(0:Int)/\0<(↑u.length:Int))/\∃(y:Int),zD u (aw 0) 0 1=au [D.v (.int .u8 y)]/\((0:Int)<=(1:Int)/\1<=(↑u.length:Int))/\∃(z:xp),z.s=aq.wrap y/\bE z.b=ak (aw 1) u/\sb z.p.code=sb i.p.code/\z.p.tick=i.p.tick/\z.p.low=i.p.low/\z.p.high=i.p.high/\z.p.wide=i.p.wide/\z.p.dt=i.p.dt/\z.p.top=i.p.top/\z.p.least=i.p.least/\z.p.part=i.p.part/\z.x.q=t.x.q/\gy z.g=gy (Gt.mk t.o t.x.W)/\af gh z.x.R=af gh t.x.R/\aa 1 (iE z.p.dm)=aa 1 (iE i.p.dm)/\aa 1 (iE z.p.settle)=aa 1 (iE i.p.settle)/\aa 10 (af yG (yO z.p z.x.B))=aa 10 (af yG (yO i.p t.x.B))/\(Tq z)/\∀(iW:iq),iW.fq z.p (z.x.X z.p z.s z.b).B (z.x.X z.p z.s z.b).U->∃(lu:NH),(↑lu.k:Int)=aq.wrap ((↑t.k:Int)+1)/\sb i.p.code=sb z.p.code/\i.p.tick=z.p.tick/\i.p.low=z.p.low/\i.p.high=z.p.high/\i.p.wide=z.p.wide/\i.p.dt=z.p.dt/\i.p.top=z.p.top/\i.p.least=z.p.least/\i.p.part=z.p.part/\lu.x.q=z.x.q+(↑(z.x.M z.p z.s z.b).length:Int)/\dj ((↑i.L.length:Int))/\gy (Gt.mk lu.o lu.x.W)=gy (Gt.mk iW (z.x.X z.p z.s z.b).W)/\dj (ix i.j.d')/\af gh lu.x.R=af gh (z.x.R++[v8 z.s z.b])/\aa 1 (iE i.p.dm)=aa 1 (iE z.p.dm)/\aa 1 (iE i.p.settle)=aa 1 (iE z.p.settle)/\aa 10 (af yG (yO i.p lu.x.B))=aa 10 (Mx z)/\dj (af gh i.L)/\r lu/\s lu<s t/\dj (aa 1 (iE l.p.dm))/\dj (aa 1 (iE l.p.settle))/\dj (aa 1 (iE j.m.p.dm))/\dj (aa 1 (iE j.m.p.settle))/\dj (aa 1 (iE g))/\dj (aa 1 (iE e))/\dj (ac [V.d (D.v (av (sb i.p.code))),V.own 7,V.d (dI i.p.tick),V.d (dI i.p.low),V.d (dI i.p.high),V.d (dI i.p.wide),V.d (dI i.p.dt),V.d (dI i.p.top),V.d (dI i.p.least),V.d (dI i.p.part),V.own 8] 25)/\dj (aa 1 (iE i.p.settle))/\dj (aa 1 (iE i.p.dm))))) (∃(u:iq),dj ((0:Int))/\dj (ix i.j.d')/\dj (sb i.p.code)/\dj i.p.tick/\dj i.p.low/\dj i.p.high/\dj i.p.wide/\dj i.p.dt/\dj i.p.top/\dj i.p.least/\dj i.p.part/\(xI i.p i.L).q=t.x.q/\dj ((↑i.L.length:Int))/\gy (Gt.mk u (xI i.p i.L).W)=gy (Gt.mk t.o t.x.W)/\af gh (xI i.p i.L).R=af gh t.x.R/\dj (aa 1 (iE i.p.dm))/\dj (aa 1 (iE i.p.settle))/\aa 10 (vH i)=aa 10 (af yG (yO i.p t.x.B))/\u.fq i.p (xI i.p i.L).B (xI i.p i.L).U))/\∀(b:Unit),a.check≠0->dq (a.check !=0) (∃(c:iq),False) (∃(c:BX),ix c.d=ix i.j.d/\(Xb c)/\∀(d:Unit),True->∃(e:List Int),iE e=iE i.p.dm/\e.length<=1000000/\∀(f:Unit),True->True/\∃(g:List Int),iE g=iE i.p.settle/\g.length<=1000000/\∀(h:Unit),True->∃(j:Gt),False)
def y8e (e:En):Prop:=
 ∃(i:Gw),af yG i.v=af yG e.v/\i.seq=e.q/\(List.length i.v<=1099511627776/\∀(b:Sd×Sd),b∈i.v->b.fst.levels.length<=1099511627776/\b.snd.levels.length<=1099511627776)/\∀(o:Unit),True->∃(o:Unit),bE (dZ e.v e.q)=bE (dZ i.v i.seq)/\dj (sb e.p.code)/\dj e.p.tick/\dj e.p.low/\dj e.p.high/\dj e.p.wide/\dj e.p.dt/\dj e.p.top/\dj e.p.least/\dj e.p.part/\e.q=e.q/\aa 10 (af yG e.v)=BZ e.v/\True
def XI (a:Fe):Prop:=sb a.e.p.code=sb a.e.p.code/\dj a.e.p.tick/\dj a.e.p.low/\dj a.e.p.high/\dj a.e.p.wide/\dj a.e.p.dt/\dj a.e.p.top/\dj a.e.p.least/\dj a.e.p.part/\dj a.e.q/\dj (af gh a.e.R)/\0<=a.n/\a.n<(↑a.e.R.length:Int)
def X2 (a:Fe):Prop:=∃(b:Unit),bE (a.e.R.getD a.n.toNat [])=[]/\ao=am/\XI a
def XL (a:Fe):Prop:=sb a.e.p.code=sb a.e.p.code/\dj a.e.p.tick/\dj a.e.p.low/\dj a.e.p.high/\dj a.e.p.wide/\dj a.e.p.dt/\dj a.e.p.top/\dj a.e.p.least/\dj a.e.p.part/\dj a.e.q/\dj (af gh a.e.R)/\(0<=a.n/\a.n<(↑a.e.R.length:Int)->False)
def X6 (a:Fe):Prop:=∃(b:Unit),True/\am=am/\XL a
def yUv (i:Fe):Prop:=
 dq (decide (i.n<0)) ((X2 i)\/(X6 i)) (dq (decide (i.n>=(↑(af gh i.e.R).length:Int))) ((X2 i)\/(X6 i)) ((0<=i.n/\i.n<(↑(af gh i.e.R).length:Int))/\∃(a:List (List D)),zD (af gh i.e.R) i.n.toNat 0 1=au [D.ro 1 a]/\∃(b:List (List D)),b=a/\b.length*(1:Nat)<=(140737488355328:Nat)/\∀(c:Unit),True->(∃(d:Unit),bE (i.e.R.getD i.n.toNat [])=b/\ao=ao/\XI i)\/(∃(d:Unit),False/\am=ao/\XL i)))
def Kq {s:Int} {b:List UInt8} (h:(zL s b).2=0):0<=s/\s<8:=by
 rw[zL]at h;split at h
 ·cases h
 ·omega
def y7d (i:tz) (h:LB.dq i):y3k i:=by
 obtain⟨o0,x,p,d,s,b⟩:=i;obtain⟨⟨hM,hB⟩,hb,⟨uh,zp⟩,⟨rm,rl⟩,hR,hd⟩:(o0.fq p x.B x.U/\iS p x.B)/\b.length<=254/\(-1<=s/\s<8)/\(0<=x.q/\x.q<=1000000000000000000)/\x.R.length<=1000000/\d.b.length+b.length+7<=1048576:=h;have Ps:((jj s).toNat:Int)=ar.wrap s:=(SX s).symm;unfold y3k Mx Mw kY xN jG kZ kF kV Tq;dsimp only;refine⟨⟨s,b⟩,rfl,rfl,Z9,λ_ _=>Cv.dq.mk (λe=> ?_) (λe=> ?_)⟩
 ·have e:(zL s b).2≠0:=by simpa using e
  exact⟨⟨⟨o0,x.W⟩,p,x.B,x.U,s,b,MN x.B x.U x.W s 0 (zL s b).2⟩,rfl,rfl,rfl,⟨⟨hM,hB⟩,Z9,by dsimp only;rw[zUo,fh e]⟩,λo ho=> .inl ⟨o,trivial,gr (mh (iT ⟨rfl,e,ho⟩))⟩⟩
 ·have e:(zL s b).2=0:=by simpa using e
  have hs:=Kq e;refine⟨trivial,trivial,[[jj s],b],?_,⟨by simp,by simp;omega,by simp⟩,λ_ _=>⟨trivial,⟨d,x.R.length,v8 s b⟩,by simp[v8],rfl,rfl,⟨by simp[v8];omega,by simp[v8];omega,Z9,Z9⟩,λ_ _=>⟨⟨o0,x,p,s,b⟩,gr (gr ⟨rfl,⟨⟨hM,hB⟩,Z9,hs,⟨rm,rl⟩,hR⟩,λo ho=> .inr ⟨o,mh (iT ⟨rfl,by simp,oJ ⟨rfl,e,ho⟩⟩)⟩⟩)⟩⟩⟩;show[gh [jj s],gh b]=_;rw[gh,gh,<- Ps];rfl
def Cz:LB.ok Tryz.prog 10:=ib mixed (dx VK (dx Sg (dx yBk (dx yPl (dx yUn fj))))) 0 (λ_=>[]) (λ_=>[]) [] Tryz.func10 y7d
def Uh {p:ff} {L:List (List UInt8)} {k:Nat} {r:List UInt8} (h:L[k]? =au r):xI p (L.take (k+1))=vL p (xI p (L.take k)) r:=by
 rw[tb,h,Eb,xI,I7];rfl
def VL {p:ff} {x:Es} {o:iq} (hM:o.fq p x.B x.U) (hB:iS p x.B) (s:Int) (b:List UInt8) {o2:iq} (ho:o2.fq p (x.X p s b).B (x.X p s b).U):
 iS p (x.ed p s b).B/\x.q<=(x.ed p s b).q/\(x.ed p s b).q<=x.q+202000000/\(x.ed p s b).R.length=x.R.length+1:=by
 have Ai:=hM.s.wf hB;have A3:iS p (x.X p s b).B:=Xa Ai _ _ _ _;have:(x.M p s b).length<=202000000:=y3u (SA Ai) (SA (ho.s.wf A3));refine⟨A3,?_,?_,?_⟩
 ·show x.q<=x.q+((x.M p s b).length:Int);omega
 ·show x.q+((x.M p s b).length:Int)<=_;omega
 ·show(x.R++[v8 s b]).length=_;rw[iv];rfl
def y8y (i:zu) (h:QJ.dq i):y3t i:=by
 obtain⟨p,s,L,t⟩:=i;obtain⟨⟨hc,ug⟩,⟨hs,hd⟩,hr,hl⟩:(p.check=0/\p.small)/\((DL.mk L t).ok/\(BX.mk s L t).d.ok)/\(∀r∈L,Hq r)/\L.length<=100000:=h;have Ju:iS p (ag p.count []):=iS.new hc ug;have hM0:=yCj p;have m6:=(qS hc).m6;have sl:=(qS hc).s1;have Aj:(L.map gh).length=L.length:=im _;unfold y3t vH Xb rJ Mx Tq zW dI;dsimp only;refine⟨p,oJ (iT ⟨rfl,ug,λ_ _=>⟨⟨s,L,t⟩,rfl,⟨hs,hd⟩,λ_ _=>⟨p.dm,rfl,oM,λ_ _=>⟨trivial,p.settle,rfl,oM,λ_ _=>⟨⟨Ng p,[]⟩,rfl,rfl,trivial,λ_ _=>⟨gu,gu,Ng p,gr (nn ⟨rfl,trivial,λ_ _=>⟨gu,gu,⟨(Ng p).s,p,ag p.count []⟩,gr (iT ⟨rfl,⟨hM0.s,Ju⟩,λ_ _=>⟨gu,⟨Ng p,rj p,0⟩,gr (gr (gr (oJ ⟨rfl,λj=>(j.k<=L.length/\j.x=xI p (L.take j.k))/\(j.o.fq p j.x.B j.x.U/\iS p j.x.B)/\(0<=j.x.q/\j.x.q<=202000000*(j.k:Int))/\j.x.R.length=j.k,λj=>L.length-j.k,⟨⟨mz _,rfl⟩,⟨hM0,Ju⟩,⟨yp _,yp _⟩,rfl⟩,?_⟩)))⟩⟩)⟩⟩)⟩⟩⟩⟩⟩,λ_ ji=>absurd hc ji⟩)⟩;rintro⟨o,x,k⟩ ⟨⟨hk,hx⟩,⟨hM,hB⟩,⟨rm,rl⟩,hR⟩;dsimp only at hk hx hM hB rm rl hR ⊢;refine zH (λgv=> ?_) (λgv=> ?_)
 ·obtain⟨r,Jj⟩:=z6 (l:=L) (i:=k) oM;have Ek:=lq Jj;obtain⟨ji,xe⟩:=hr r Ek;have RF:=hs.1 r Ek;obtain⟨c,b,rfl⟩:∃c b,r=c::b:=by
   cases r with
   |nil=>exact absurd rfl ji
   |cons c b=>exact⟨c,b,rfl⟩
  have xe:(zL (c.toNat:Int) b).2=0:=xe;have PM:=Kq xe;have wc:aq.wrap (c.toNat:Int)=c.toNat:=iA oM;rw[iJ]at RF;refine⟨⟨oM,oM⟩,bE (c::b),NO Jj,Cv.dq.mk (λe=>by have e:=beq_iff_eq.1 e;rw[yH,iJ]at e;omega) (λ_=>⟨⟨Z8,by rw[yH,iJ];omega⟩,c.toNat,wN rfl,⟨Z8,by rw[yH,iJ];omega⟩,⟨c.toNat,b⟩,wc.symm,rfl,Z9,λ_ _=>Cv.dq.mk (λe=>by simp[xe]at e) (λ_=>⟨⟨Z8,by rw[yH,iJ];omega⟩,c.toNat,wN rfl,⟨Z8,by rw[yH,iJ];omega⟩,⟨o,x,p,c.toNat,b⟩,wc.symm,gr (oJ ⟨rfl,⟨⟨hM,hB⟩,Z9,PM,⟨rm,Z9⟩,Z9⟩,λo2 ho=> ?_⟩)⟩)⟩)⟩;obtain⟨t1,t2,t3,t4⟩:=VL hM hB (c.toNat:Int) b ho;exact⟨⟨o2,x.ed p c.toNat b,k+1⟩,rf oM,gr (mh (iT ⟨rfl,⟨⟨Z9,by dsimp only;rw[Uh Jj,<- hx];rfl⟩,⟨ho,t1⟩,⟨Z9,Z9⟩,Z9⟩,Z9,gu⟩))⟩
 ·obtain rfl:k=L.length:=by omega
  rw[BJ]at hx;subst hx;exact⟨o,by repeat'(first|exact rfl|exact hM|apply And.intro)⟩
def Z6:QJ.ok Tryz.prog 42:=ib mixed (dx yAn (dx yXc (dx zUt (dx zMd (dx zUe (dx z1a (dx z2i (dx VK (dx yUn fj))))))))) 0 (λ_=>[]) (λi=>y7m i) [] Tryz.func42 y8y
def L4:QI.ok Tryz.prog 27:=ib (V:=y8e) mixed (dx y0u fj) 0 (λ_=>[]) (λ_=>[]) [] Tryz.func27 λ(e:En) h=>⟨⟨e.v,e.q⟩,rfl,rfl,h,λ_ _=>⟨(),gu⟩⟩
def Ix:J8.ok Tryz.prog 22:=ib (V:=yUv) mixed (dx zPh fj) 0 (λ_=>[]) (λ_=>[]) [] Tryz.func22 λ(i:Fe) h=>by
 obtain⟨h1,h2⟩:i.e.R.length<=1000000/\∀r∈i.e.R,r.length<=1048576:=h;unfold yUv X6 XL X2 XI;rw[im];refine zH (λc=> .inr ⟨(),trivial,gr (nn oM)⟩) (λc=>zH (λc2=> .inr ⟨(),trivial,gr (nn oM)⟩) (λc2=> ?_));obtain⟨r,hr⟩:=z6 (l:=i.e.R) (i:=i.n.toNat) oM;have hg:i.e.R.getD i.n.toNat []=r:=by rw[nk,hr];rfl
 have hl:=h2 r (lq hr);refine⟨⟨oM,oM⟩,bE r,NO hr,_,rfl,by rw[yH];omega,λ_ _=> .inl ⟨(),by rw[hg],gr (iT ⟨rfl,oM,oM⟩)⟩⟩
@[reducible] def Ki:Nat:=40
structure o6 where
 x:Es
 o:iq
 d:Dk
 O:List (Int×fq)
 N:List tY
def y8j (p:ff) (j:o6):List fi:=Dy p j.x j.o j.d++[.cells [.own 9,.own 10] Ki,EE j.O,IW j.N]
def doJ (p:ff) (e a:Nat):gp:={ι:=o6,oI:=λ_=>[(e,.nm 0 0)],lp:=λj=>Dy p j.x j.o j.d,dv:=λj=>[(e,.nm 0 0),(a,.nm 8 0)],rows:=y8j p}
def y5g (p:ff):List fi:=[.cells [sV p.code,.own 9,zA p.tick,zA p.low,zA p.high,zA p.wide,zA p.dt,zA p.top,zA p.least,zA p.part,.own 10] 25,.jc 1 (iE p.dm),.jc 1 (iE p.settle)]
def yQq {t:xo} (h:0<=t.i/\t.i<=1000000):1<=(y5 t).id/\(y5 t).id<=1099511627776:=by
 have:0<=zG t.c.id 0 30/\zG t.c.id 0 30<=30:=by rw[zG];omega
 rw[y5];split
 ·dsimp only;omega
 ·simp only[y6];omega
def yNp {x:ff} {c:ir} {k:Nat} (hk:k<=1000000):(y5 ⟨ie x,c,k⟩).right=0:=by
 have:=z5p x c k (y5 ⟨ie x,c,k⟩).id (yQq Z9);exact this
def Vy {c:ir} (h:c.right=0) (hl:c.label=[]):c.enc.length<=100:=by
 have e:c.enc=jj c.kind::(le c.id 8++c.tail):=by rw[ir.enc,fb (by simp[h])]
 have ht:c.tail.length<=60:=by
  rw[ir.tail];split
  ·simp only[iJ,iv,xJ,EG,hl,om,ua];omega
  split
  ·rw[xJ];omega
  split
  ·rw[iv,xJ,xJ];omega
  ·exact mz _
 rw[e,iJ,iv,xJ];omega
def yGr (p:ff) (B:List (List zI)) (U:List Int) (c:ir):∃r l,(AS p B U c).R=r::l/\(r.kind=2->(AS p B U c).B=B):=by
 rw[AS];split
 ·exact⟨_,_,rfl,λ_=>rfl⟩
 split
 ·rw[pK]
  iterate 5 (split;·exact⟨_,_,rfl,λ_=>rfl⟩)
  obtain⟨r,l,h1,h2,_⟩:=(z2m p B U c).2;exact⟨r,l,h1,λe=>by omega⟩
 split
 ·exact⟨_,_,rfl,λ_=>rfl⟩
 split
 ·rw[dB];split
  ·exact⟨_,_,rfl,λ_=>rfl⟩
  split
  ·rw[b8];exact⟨_,_,rfl,λe=>by simp at e⟩
  split
  ·exact⟨_,_,rfl,λ_=>rfl⟩
  rw[u7];exact⟨_,_,rfl,λe=>by simp at e⟩
 split
 ·rw[u7];exact⟨_,_,rfl,λe=>by simp at e⟩
 ·rw[b8];exact⟨_,_,rfl,λe=>by simp at e⟩
def z4k (p:ff) (B:List (List zI)) (U:List Int) (W:List (Int×Int)) (s:Int) (b:List UInt8):∃o l,(bW p B U W s b).O=o::l/\(o.2.kind=2->(bW p B U W s b).B=B):=by
 rw[bW];split
 ·exact⟨_,_,rfl,λ_=>rfl⟩
 split
 ·exact⟨_,_,rfl,λ_=>rfl⟩
 rw[Md];split
 ·exact⟨_,_,rfl,λ_=>rfl⟩
 split
 ·exact⟨_,_,rfl,λ_=>rfl⟩
 obtain⟨r,l,h1,h2⟩:=yGr p B U (xL b).1;dsimp only;rw[h1];dsimp only[rF];refine⟨_,_,rfl,λe=>h2 ?_⟩;exact e
def yKk (x:Es) (p:ff) (s:Int) (b:List UInt8):∃o l,(x.X p s b).O=o::l/\(o.2.kind=2->x.M p s b=[]):=by
 obtain⟨o,l,h1,h2⟩:=z4k p x.B x.U x.W s b;refine⟨o,l,h1,λe=> ?_⟩;rw[Es.M,Es.X,h2 e];exact z9w 0 _
structure Cw (p:ff) (x:Es) (d:Dk) (j:o6):Prop where
 r:j.o.fq p j.x.B j.x.U
 ok:iS p j.x.B
 q1:x.q<=j.x.q
 q2:j.x.q<=x.q+202000000
 n:j.x.R.length<=x.R.length+1
 d:j.d.b.length<=d.b.length+107
 m:∃M:List VM,j.N=wT x.q M/\j.x.q=x.q+(M.length:Int)
 t:∃o l,j.O=o::l/\(o.2.kind=2->j.N=[])
def Cw.bad {p:ff} {x:Es} {d:Dk} {o:iq} (h1:o.fq p x.B x.U) (h2:iS p x.B) (s w:Int):Cw p x d ⟨x,o,d,[(s,⟨2,0,0,0,0,0,0,w⟩)],[]⟩:=
 ⟨h1,h2,yp _,Z9,Z9,Z9,⟨[],rfl,by simp⟩,⟨_,_,rfl,λ_=>rfl⟩⟩
def Cw.tw {p:ff} {x:Es} {d:Dk} {o o2:iq} (h1:o.fq p x.B x.U) (h2:iS p x.B) {s:Int} {b:List UInt8} (hb:b.length<=100) (h3:o2.fq p (x.X p s b).B (x.X p s b).U):
 Cw p x d ⟨x.ed p s b,o2,⟨d.b++x7 (v8 s b),d.safe⟩,(x.X p s b).O,wT x.q (x.M p s b)⟩:=by
 obtain⟨t1,t2,t3,t4⟩:=VL h1 h2 s b h3;refine⟨h3,t1,t2,t3,Z9,?_,⟨_,rfl,rfl⟩,?_⟩
 ·dsimp only;rw[iv,uA,v8,iJ];omega
 ·obtain⟨o,l,e1,e2⟩:=yKk x p s b;exact⟨o,l,e1,λe=>by rw[e2 e];rfl⟩
def y9d {O:List (Int×fq)} {k:Nat} {o:Int×fq} (h:O[k]? =au o):zD (O.map xF) k 0 9=au [D.v (.int .i64 o.1),.v (.int .i64 o.2.kind),.v (.int .i64 o.2.id),.v (.int .i64 o.2.inst),.v (.int .i64 o.2.side),.v (.int .i64 o.2.dk),.v (.int .i64 o.2.dr),.v (.int .i64 o.2.left),.v (.int .i64 o.2.oY)]:=ju h (by simp[xF,xP]) rfl
def zUd (s:Int):∀(W:List (Int×Int)) (l:List fq),(rF s W l).2.length=l.length
 |_,[]=>rfl
 |W,r::l=>by rw[rF];dsimp only;rw[iJ,zUd s _ l,iJ]
def yIy {p:ff} {B:List (List zI)} (h:tg p B) (U:List Int) (W:List (Int×Int)) (s:Int) (b:List UInt8):(bW p B U W s b).O.length<=1503000003:=by
 rw[bW];split
 ·exact oV rfl
 split
 ·exact oV rfl
 rw[Md];split
 ·exact oV rfl
 split
 ·exact oV rfl
 dsimp only;rw[zUd];exact yCo h U _
def FF:gi:=fp (List tY) (λM=>[oD 7 (M.map yK),oD 7 (M.map yK)]) (λ_=>[]) (λM=>M.length<=1099511627776) (λ_=>yN ao) (λ_=>[])
def yXe:List gp:=[{ι:=Nat,dv:=λk=>[(5,zA k)],rows:=λ_=>[]}]
def yYq (k:Nat) (p:ff) (x:Es) (o:iq) (d:Dk):List fi:=[.cells [sV p.code,.own (k+5),zA p.tick,zA p.low,zA p.high,zA p.wide,zA p.dt,zA p.top,zA p.least,zA p.part,.own (k+6),.nm (k+1) 0,.nm (k+2) 0,.own (k+7),zA x.q,.own (k+4)] bF,Ee (k+3) x.R.length,gy ⟨o,x.W⟩,ix d,yu x.R,.jc 1 (iE p.dm),.jc 1 (iE p.settle),BZ (yO p x.B)]
structure NA where
 O:List (Int×fq)
 N:List tY
 O2:List (Int×fq)
 N2:List tY
 m:Nat
def gJ (p:ff) (e:Nat):gp:={ι:=o6,oI:=λ_=>[(e,.nm 0 0)],lp:=λj=>Dy p j.x j.o j.d,dv:=λ_=>[(e,.nm 0 0)],rows:=λj=>Dy p j.x j.o j.d}
def cJ (a:List tY):=(↑(af yK a).length:Int)
def yKh (M:List tY):Prop:=
 dq ((cJ M) !=(cJ M)) (∃(a:Unit),ao=am/\True) (∃(a:Nat),(↑a:Int)=0/\∃(b:Nat->Prop),∃(c:Nat->Nat),b a/\∀(d:Nat),b d->dq (decide ((↑d:Int)<(cJ M))) ((0<=(↑d:Int)/\(↑d:Int)<(cJ M))/\∃(e:Int),∃(f:Int),∃(g:Int),∃(h:Int),∃(j:Int),∃(k:Int),∃(l:Bool),zD (af yK M) (↑d:Int).toNat 0 7=au [dI e,dI f,dI g,dI h,dI j,dI k,D.v (.bool l)]/\(0<=(↑d:Int)/\(↑d:Int)<(cJ M))/\∃(m:Int),∃(n:Int),∃(p:Int),∃(q:Int),∃(r:Int),∃(s:Int),∃(t:Bool),zD (af yK M) (↑d:Int).toNat 0 7=au [dI m,dI n,dI p,dI q,dI r,dI s,D.v (.bool t)]/\dq (!(e==m && (f==n && (g==p && (h==q && (j==r && (k==s && (l==t && ao)))))))) (∃(u:Unit),ao=am/\True) (uK d b c)) (∃(e:Unit),ao=ao/\True))
def y6q {M:List tY} {k:Nat} {m:tY} (h:M[k]? =au m):zD (M.map yK) k 0 7=au [D.v (.int .i64 m.seq),.v (.int .i64 m.inst),.v (.int .i64 m.side),.v (.int .i64 m.dk),.v (.int .i64 m.dr),.v (.int .i64 m.count),.v (.bool m.iN)]:=ju h (by simp[yK]) rfl
def Gg:FF.ok Tryz.prog 29:=ib (V:=yKh) mixed fj 0 (λ_=>[]) (λ_=>yXe) [] Tryz.func29 λ(M:List tY) h=>by
 have hl:M.length<=1099511627776:=h;have Aj:(M.map yK).length=M.length:=im _;unfold yKh cJ uK kD dI;refine Cv.dq.mk (λe=>absurd e (by simp)) (λ_=>⟨0,rfl,λk=>k<=M.length,λk=>M.length-k,mz _,λk hk=>zH (λc=> ?_) (λ_=>⟨(),rfl,trivial⟩)⟩);obtain⟨m,hm⟩:=z6 (l:=M) (i:=k) oM;have h7:=y6q hm;exact⟨⟨oM,oM⟩,_,_,_,_,_,_,_,h7,⟨oM,oM⟩,_,_,_,_,_,_,_,h7,Cv.dq.mk (λe=>absurd e (by simp)) (λ_=>⟨k+1,UR oM,Z9,Z9,trivial⟩)⟩
structure tj (p:ff) (x:Es) (d:Dk) (s:Int) (b:List UInt8) (j:o6):Prop where
 a:Cw p x d j
 c:((zL s b).2≠0/\j.x=x/\j.d=d/\j.O=[(s,⟨2,0,0,0,0,0,0,(zL s b).2⟩)]/\j.N=[])\/((zL s b).2=0/\j.x=x.ed p s b/\j.d=⟨d.b++x7 (v8 s b),d.safe⟩/\j.O=(x.X p s b).O/\j.N=wT x.q (x.M p s b))
def tj.bad {p:ff} {x:Es} {d:Dk} {o:iq} (h1:o.fq p x.B x.U) (h2:iS p x.B) {s:Int} {b:List UInt8} (h:(zL s b).2≠0):tj p x d s b ⟨x,o,d,[(s,⟨2,0,0,0,0,0,0,(zL s b).2⟩)],[]⟩:=⟨Cw.bad h1 h2 s _,.inl ⟨h,iT rfl⟩⟩
def tj.tw {p:ff} {x:Es} {d:Dk} {o o2:iq} (h1:o.fq p x.B x.U) (h2:iS p x.B) {s:Int} {b:List UInt8} (hb:b.length<=100) (h:(zL s b).2=0) (h3:o2.fq p (x.X p s b).B (x.X p s b).U):
 tj p x d s b ⟨x.ed p s b,o2,⟨d.b++x7 (v8 s b),d.safe⟩,(x.X p s b).O,wT x.q (x.M p s b)⟩:=⟨Cw.tw h1 h2 hb h3,.inr ⟨h,iT rfl⟩⟩
def tj.same {p:ff} {x:Es} {d d2:Dk} {s:Int} {b:List UInt8} {j j2:o6} (h:tj p x d s b j) (h2:tj p x d2 s b j2) (hd:d.b=d2.b):j2.x=j.x/\j2.d.b=j.d.b/\j2.O=j.O/\j2.N=j.N:=by
 rcases h.c with⟨a0,a1,a2,a3,a4⟩|⟨a0,a1,a2,a3,a4⟩<;>rcases h2.c with⟨b0,b1,b2,b3,b4⟩|⟨b0,b1,b2,b3,b4⟩
 ·exact⟨b1.trans a1.symm,by rw[a2,b2,hd],b3.trans a3.symm,b4.trans a4.symm⟩
 ·exact absurd b0 a0
 ·exact absurd a0 b0
 ·exact⟨b1.trans a1.symm,by rw[a2,b2,hd],b3.trans a3.symm,b4.trans a4.symm⟩
def tj.safe {p:ff} {x:Es} {d:Dk} {s:Int} {b:List UInt8} {j:o6} (h:tj p x d s b j):j.d.safe=d.safe/\d.b.length<=j.d.b.length:=by
 rcases h.c with⟨a0,a1,a2,a3,a4⟩|⟨a0,a1,a2,a3,a4⟩
 ·rw[a2];exact⟨rfl,lk _⟩
 ·rw[a2];exact⟨rfl,by dsimp only;rw[iv];omega⟩
def tj.aac {p:ff} {x:Es} {d:Dk} {s:Int} {b:List UInt8} {j:o6} (h:tj p x d s b j) (hb:b.length<=100) (hR:∀r∈x.R,r.length<=101):∀r∈j.x.R,r.length<=101:=by
 rcases h.c with⟨a0,a1,a2,a3,a4⟩|⟨a0,a1,a2,a3,a4⟩
 ·rw[a1];exact hR
 ·rw[a1];intro r hr;have hr:r∈x.R++[v8 s b]:=hr;rw[pz,vm]at hr;rcases hr with hr|rfl
  ·exact hR r hr
  ·have:(v8 s b).length=b.length+1:=rfl;omega
def tj.len {p:ff} {x:Es} {d:Dk} {s:Int} {b:List UInt8} {j:o6} (h:tj p x d s b j) (hB:tg p x.B):j.O.length<=1503000003:=by
 rcases h.c with⟨a0,a1,a2,a3,a4⟩|⟨a0,a1,a2,a3,a4⟩
 ·rw[a3];exact oV rfl
 ·rw[a3];exact yIy hB _ _ _ _
structure Fk (p:ff) (x:Es) (d:Dk):Prop where
 e:x=xI p x.R
 d:d.b=ni x.R
 r:∀r∈x.R,Hq r
def yPu (p:ff) (x:Es) {s:Int} (b:List UInt8) (h:0<=s/\s<8):vL p x (v8 s b)=x.ed p s b:=by
 have hl:=Kk (n:=s) oM;show x.ed p ((jj s).toNat:Int) b=_;rw[hl]
def Fk.step {p:ff} {x:Es} {d:Dk} {s:Int} {b:List UInt8} {j:o6} (h:Fk p x d) (hj:tj p x d s b j):Fk p j.x j.d:=by
 rcases hj.c with⟨a0,a1,a2,a3,a4⟩|⟨a0,a1,a2,a3,a4⟩
 ·rw[a1,a2];exact h
 ·have hs:=Kq a0;have hl:=Kk (n:=s) oM;rw[a1,a2];refine⟨?_,?_,λr hr=> ?_⟩
  ·show x.ed p s b=xI p (x.R++[v8 s b]);rw[xI,I7];show _=vL p (xI p x.R) (v8 s b);rw[<- h.e,yPu p x b hs]
  ·show d.b++x7 (v8 s b)=ni (x.R++[v8 s b]);rw[z8t,h.d,Ta];show _=ni x.R++(x7 (v8 s b)++[]);rw[oU]
  ·have hr:r∈x.R++[v8 s b]:=hr;rw[pz,vm]at hr;rcases hr with hr|rfl
   ·exact h.r r hr
   ·refine⟨List.cons_ne_nil _ _,?_⟩;show(zL ((jj s).toNat:Int) b).2=0;rw[hl];exact a0
def LC:gi:=fp P0 (λi=>[.nm 0 0,sV i.s]) (λi=>[Wr i.l]) (λi=>i.l.length+300<=1099511627776/\i.s.length<=255) (λ_=>bN) (λi=>[Wr (i.l++EG i.s)])
def JL:gi:=fp ir (λc=>[CD c]) (λ_=>[]) (λc=>c.label=[]/\c.right=0) (λc=> .ja [oD 1 (bE c.enc),zA 0]) (λ_=>[])
structure Vs where
 l:List Int
 k:Nat
def D4 (l:List Int) (k:Nat):Int:=match l[k]? with
 |some s=>zG s 0 3
 |none=>0
def P6:gi:=fp Vs (λi=>[oD 1 (iE i.l),zA i.k]) (λ_=>[]) (λi=>(∀s∈i.l,gx s)/\i.k<=1000000) (λi=>zA (D4 i.l i.k)) (λ_=>[])
def P8:gi:=fp xo (λt=>[oe t.p,CD t.c,zA t.i]) (λ_=>[]) (λt=>(∃x,t.p=ie x)/\t.c.raw/\0<=t.i/\t.i<=1000000) (λt=>oD 1 (bE (y5 t).enc)) (λ_=>[])
def QG:gi where
 ι:=ff
 pat:=λp=>[oe p]
 pre:=λ_=>[]
 dq:=λp=>p.check=0/\p.small
 alts:=λp=>[{o:=iq,res:=λ_=> .ja [.nm 0 0,.nm 3 0,yN ao],post:=λo=>Dy p (rj p) o ⟨[],0⟩,rel:=λo=>o.fq p (rj p).B (rj p).U}]
def awC:gi:=fp ff (λ_=>[]) (λ_=>[]) (λp=>p=dP 2) (λ_=>yN ao) (λ_=>[])
def y1d:List (Nat×gp):=[(4,{ι:=Unit,dv:=λ_=>[],rows:=λ_=>[],CN:=[0]})]
def awJ (p:ff):List (Nat×gp):=[(20,doJ p 2 4),(24,doJ p 2 5),(28,doJ p 2 6)]
def tC (a:P0):=((sb a.s).extract 0 (min (↑(sb a.s).size:Int) 255).toNat)
def yNt (i:P0):Prop:=
 (0<=min (↑(sb i.s).size:Int) 255/\min (↑(sb i.s).size:Int) 255<=(↑(sb i.s).size:Int))/\∃(a:WN),a.n=(↑(tC i).size:Int)/\ab (List UInt8) 2 je a.l=Wr i.l/\a.ok/\∀(b:Unit),True->((bE (a.l++[jj a.n])).length+(jI (tC i)).length)*(1:Nat)<=(140737488355328:Nat)/\∃(c:Unit),bE (i.l++EG i.s)=bE (a.l++[jj a.n])++jI (tC i)/\True
def Yk (a:WN) (b:ir):Prop:=∃(c:List UInt8),ab (List UInt8) 2 je c=ab (List UInt8) 2 je (a.l++le a.n 8)/\c.length<=1099511627776/\∀(d:Unit),True->∃(e:Unit),bE b.enc=bE c/\dj ((0:Int))/\True
def XJ (a:ir) (b:WN):Prop:=∃(c:WN),c.n=a.dr/\ab (List UInt8) 2 je c.l=ab (List UInt8) 2 je (b.l++le b.n 8)/\c.ok/\∀(d:Unit),True->Yk c a
def yVf (c:ir):Prop:=
 ∃(a:ir),a.kind=c.kind/\a.id=c.id/\a.inst=c.inst/\a.side=c.side/\a.dk=c.dk/\a.dr=c.dr/\a.least=c.least/\a.time=c.time/\sb a.label=sb c.label/\a.label.length<=140737488355328/\∀(b:Unit),True->dq (a.right !=0) (∃(d:Unit),bE c.enc=[]/\0=a.right/\True) (∃(d:Unit),True/\∀(e:Unit),True->∃(f:WN),f.n=c.kind/\ab (List UInt8) 2 je f.l=ab (List UInt8) 2 je []/\f.ok/\∀(g:Unit),True->∃(h:WN),h.n=c.id/\ab (List UInt8) 2 je h.l=ab (List UInt8) 2 je (f.l++[jj f.n])/\h.ok/\∀(j:Unit),True->dq (c.kind==1) (∃(k:WN),k.n=c.inst/\ab (List UInt8) 2 je k.l=ab (List UInt8) 2 je (h.l++le h.n 8)/\k.ok/\∀(l:Unit),True->∃(m:WN),m.n=c.side/\ab (List UInt8) 2 je m.l=ab (List UInt8) 2 je (k.l++[jj k.n])/\m.ok/\∀(n:Unit),True->∃(p:WN),p.n=c.time/\ab (List UInt8) 2 je p.l=ab (List UInt8) 2 je (m.l++[jj m.n])/\p.ok/\∀(q:Unit),True->∃(r:WN),r.n=c.dk/\ab (List UInt8) 2 je r.l=ab (List UInt8) 2 je (p.l++[jj p.n])/\r.ok/\∀(s:Unit),True->∃(t:WN),t.n=c.dr/\ab (List UInt8) 2 je t.l=ab (List UInt8) 2 je (r.l++le r.n 8)/\t.ok/\∀(u:Unit),True->∃(v:WN),v.n=c.least/\ab (List UInt8) 2 je v.l=ab (List UInt8) 2 je (t.l++le t.n 8)/\v.ok/\∀(w:Unit),True->∃(x:P0),sb x.s=sb c.label/\ab (List UInt8) 2 je x.l=ab (List UInt8) 2 je (v.l++le v.n 8)/\(x.l.length+(300:Nat)<=(1099511627776:Nat)/\x.s.length<=255)/\∀(y:Unit),True->∃(z:List UInt8),ab (List UInt8) 2 je z=ab (List UInt8) 2 je (x.l++EG x.s)/\z.length<=1099511627776/\∀(iW:Unit),True->∃(lu:Unit),bE c.enc=bE z/\dj ((0:Int))/\True) (dq (c.kind==3) (XJ c h) (dq (c.kind==4) (∃(k:WN),k.n=c.dk/\ab (List UInt8) 2 je k.l=ab (List UInt8) 2 je (h.l++le h.n 8)/\k.ok/\∀(l:Unit),True->XJ c k) (Yk h c))))
def y4y (i:Vs):Prop:=
 dq (decide ((↑i.k:Int)<(↑(iE i.l).length:Int))) ((0<=(↑i.k:Int)/\(↑i.k:Int)<(↑(iE i.l).length:Int))/\∃(a:Int),zD (iE i.l) (↑i.k:Int).toNat 0 1=au [dI a]/\∃(b:qu),b.n=a/\b.lo=0/\b.hi=3/\(y3 b)/\∀(c:Unit),True->∃(d:Unit),D4 i.l i.k=zG b.n b.lo b.hi/\True) (∃(a:Unit),D4 i.l i.k=0/\True)
def Tk (a:xo):Prop:=(((-9223372036854775808)<=a.c.kind/\a.c.kind<=9223372036854775807)/\((-9223372036854775808)<=a.c.id/\a.c.id<=9223372036854775807)/\((-9223372036854775808)<=a.c.inst/\a.c.inst<=9223372036854775807)/\((-9223372036854775808)<=a.c.side/\a.c.side<=9223372036854775807)/\((-9223372036854775808)<=a.c.dk/\a.c.dk<=9223372036854775807)/\((-9223372036854775808)<=a.c.dr/\a.c.dr<=9223372036854775807)/\((-9223372036854775808)<=a.c.least/\a.c.least<=9223372036854775807)/\(-9223372036854775808)<=a.c.time/\a.c.time<=9223372036854775807)/\0<=a.i/\a.i<=1000000
def y6l (t:xo):Prop:=
 ∃(a:xo),sb a.p.code=sb t.p.code/\iE a.p.dm=iE t.p.dm/\a.p.tick=t.p.tick/\a.p.low=t.p.low/\a.p.high=t.p.high/\a.p.wide=t.p.wide/\a.p.dt=t.p.dt/\a.p.top=t.p.top/\a.p.least=t.p.least/\a.p.part=t.p.part/\iE a.p.settle=iE t.p.settle/\a.c.kind=t.c.kind/\a.c.id=t.c.id/\a.c.inst=t.c.inst/\a.c.side=t.c.side/\a.c.dk=t.c.dk/\a.c.dr=t.c.dr/\a.c.least=t.c.least/\a.c.time=t.c.time/\sb a.c.label=sb t.c.label/\a.i=t.i/\(a.p.check=0/\(a.p.code.length<=1099511627776/\a.p.dm.length<=1099511627776/\a.p.settle.length<=1099511627776)/\Tk a)/\∀(b:Unit),True->∃(c:ir),c.kind=(y5 a).kind/\c.id=(y5 a).id/\c.inst=(y5 a).inst/\c.side=(y5 a).side/\c.dk=(y5 a).dk/\c.dr=(y5 a).dr/\c.least=(y5 a).least/\c.time=(y5 a).time/\sb c.label=sb (y5 a).label/\(c.label=[]/\c.right=0)/\∀(d:Unit),True->∃(e:Unit),bE (y5 t).enc=bE c.enc/\True
def pL (a:zu):Prop:=(a.p.check=0/\a.p.code.length<=1099511627776/\a.p.dm.length<=1099511627776/\a.p.settle.length<=1099511627776)/\(((∀(b:List UInt8),b∈a.L->b.length<=255)/\(BF a.t).snd.snd=10/\(ni a.L).length+a.t.length<=1048576)/\a.s<=(ni a.L++a.t).length/\(ni a.L++a.t).length<=1048576)/\(∀(b:List UInt8),b∈a.L->b≠[]/\(zL (↑(b.headD (0:UInt8)).toNat:Int) b.tail).snd=0)/\a.L.length<=100000
def rP (a:ff):=(af yG (yO a (ag a.count [])))
def y3b (p:ff):Prop:=
 ∃(a:Unit),True/\∀(b:Unit),True->∃(c:zu),sb c.p.code=sb p.code/\iE c.p.dm=iE p.dm/\c.p.tick=p.tick/\c.p.low=p.low/\c.p.high=p.high/\c.p.wide=p.wide/\c.p.dt=p.dt/\c.p.top=p.top/\c.p.least=p.least/\c.p.part=p.part/\iE c.p.settle=iE p.settle/\ix c.j.d=ix (Dk.mk [] 0)/\(pL c)/\∀(d:iq),d.fq c.p (xI c.p c.L).B (xI c.p c.L).U->∃(e:iq),ao=((0:Int)==(0:Int))/\sb p.code=sb c.p.code/\p.tick=c.p.tick/\p.low=c.p.low/\p.high=c.p.high/\p.wide=c.p.wide/\p.dt=c.p.dt/\p.top=c.p.top/\p.least=c.p.least/\p.part=c.p.part/\0=(xI c.p c.L).q/\(↑(0:Nat):Int)=(↑c.L.length:Int)/\gy (Gt.mk e [])=gy (Gt.mk d (xI c.p c.L).W)/\ix (Dk.mk [] 0)=ix c.j.d'/\[]=af gh (xI c.p c.L).R/\aa 1 (iE p.dm)=aa 1 (iE c.p.dm)/\aa 1 (iE p.settle)=aa 1 (iE c.p.settle)/\aa 10 (rP p)=aa 10 (vH c)/\e.fq p (ag p.count []) []
def kI (a:ff) (b:o6):=(af yG (yO a b.x.B))
def z5g (a:zu) (b:Int):Prop:=aa 1 (iE a.p.dm)=aa 1 (iE a.p.dm)/\dj (aa 1 (iE a.p.settle))/\dj (aa 10 (vH a))/\dj (aa 1 (iE [(500:Int),(505:Int),(490:Int)]))/\dj (aa 1 (iE [(320:Int),(321:Int),(323:Int)]))/\dj (ac [V.d (D.v (av (sb [(67:UInt8),(76:UInt8)]))),V.own 1,V.d (dI 5),V.d (dI 0),V.d (dI 1000),V.d (dI 200),V.d (dI b),V.d (dI 4),V.d (dI 2),V.d (dI 40),V.own 2] 25)
def ZU (a:ff) (b:o6) (c:zu) (d:Int):Prop:=aa 1 (iE a.dm)=aa 1 (iE a.dm)/\dj (aa 1 (iE a.settle))/\dj (aa 10 (kI a b))/\dj (ac [V.own 20,V.own 21] Ki)/\dj (ae Ou 9 (af xF b.O))/\dj (ae NK 7 (af yK b.N))/\z5g c d
def z4i (a:o6->Prop) (b:o6) (c:ff) (d:o6) (e:o6) (f:zu) (g:Int):Prop:=a b/\dj (aa 1 (iE c.dm))/\dj (aa 1 (iE c.settle))/\dj (aa 10 (kI c d))/\dj (ac [V.own 31,V.own 32] Ki)/\dj (ae Ou 9 (af xF d.O))/\dj (ae NK 7 (af yK d.N))/\ZU c e f g
def z4b (a:o6->Prop) (b:o6) (c:ff) (d:o6) (e:zu) (f:Int):Prop:=a b/\ZU c d e f
def Z4 (a:o6->Prop) (b:o6) (c:zu) (d:Int):Prop:=a b/\z5g c d
def f7 (a:tz):Prop:=(a.o.fq a.p a.x.B a.x.U/\iS a.p a.x.B)/\a.b.length<=254/\((-1)<=a.s/\a.s<8)/\(0<=a.x.q/\a.x.q<=1000000000000000000)/\a.x.R.length<=1000000/\a.d.b.length+a.b.length+(7:Nat)<=(1048576:Nat)
def Vaw (p:ff):Prop:=
 ∃(a:Int),a=2/\True/\∀(b:Unit),True->∃(c:Unit),True/\∀(d:Unit),True->(dj (sb [(67:UInt8),(76:UInt8)])/\True/\dj ((5:Int))/\dj ((0:Int))/\dj ((1000:Int))/\dj ((200:Int))/\a=a/\dj ((4:Int))/\dj ((2:Int))/\dj ((40:Int))/\True/\True)/\∃(e:zu),sb e.p.code=sb [(67:UInt8),(76:UInt8)]/\iE e.p.dm=iE [(320:Int),(321:Int),(323:Int)]/\e.p.tick=5/\e.p.low=0/\e.p.high=1000/\e.p.wide=200/\e.p.dt=a/\e.p.top=4/\e.p.least=2/\e.p.part=40/\iE e.p.settle=iE [(500:Int),(505:Int),(490:Int)]/\ix e.j.d=ix (Dk.mk [] 0)/\(pL e)/\∀(f:iq),f.fq e.p (xI e.p e.L).B (xI e.p e.L).U->∃(g:o6),sb p.code=sb e.p.code/\p.tick=e.p.tick/\p.low=e.p.low/\p.high=e.p.high/\p.wide=e.p.wide/\p.dt=e.p.dt/\p.top=e.p.top/\p.least=e.p.least/\p.part=e.p.part/\g.x.q=(xI e.p e.L).q/\(↑g.x.R.length:Int)=(↑e.L.length:Int)/\gy (Gt.mk g.o g.x.W)=gy (Gt.mk f (xI e.p e.L).W)/\ix g.d=ix e.j.d'/\af gh g.x.R=af gh (xI e.p e.L).R/\aa 1 (iE p.dm)=aa 1 (iE e.p.dm)/\aa 1 (iE p.settle)=aa 1 (iE e.p.settle)/\aa 10 (kI p g)=aa 10 (vH e)/\∃(h:o6->Prop),(∃(j:ir),j.kind=1/\j.id=1/\j.inst=3/\j.side=2/\j.dk=5/\j.dr=4/\j.least=0/\j.time=1/\sb j.label=ByteArray.mk #[]/\(j.label=[]/\j.right=0)/\∀(k:Unit),True->∃(l:tz),l.s=0/\bE l.b=bE j.enc/\sb l.p.code=sb p.code/\l.p.tick=p.tick/\l.p.low=p.low/\l.p.high=p.high/\l.p.wide=p.wide/\l.p.dt=p.dt/\l.p.top=p.top/\l.p.least=p.least/\l.p.part=p.part/\l.x.q=g.x.q/\(↑l.x.R.length:Int)=(↑g.x.R.length:Int)/\gy (Gt.mk l.o l.x.W)=gy (Gt.mk g.o g.x.W)/\ix l.d=ix g.d/\af gh l.x.R=af gh g.x.R/\aa 1 (iE l.p.dm)=aa 1 (iE p.dm)/\aa 1 (iE l.p.settle)=aa 1 (iE p.settle)/\aa 10 (xN l)=aa 10 (kI p g)/\(f7 l)/\(∀(m:iq),(zL l.s l.b).snd≠0/\m.fq l.p l.x.B l.x.U->∃(n:o6),sb p.code=sb l.p.code/\p.tick=l.p.tick/\p.low=l.p.low/\p.high=l.p.high/\p.wide=l.p.wide/\p.dt=l.p.dt/\p.top=l.p.top/\p.least=l.p.least/\p.part=l.p.part/\n.x.q=l.x.q/\(↑n.x.R.length:Int)=(↑l.x.R.length:Int)/\gy (Gt.mk n.o n.x.W)=gy (Gt.mk m l.x.W)/\ix n.d=ix l.d/\af gh n.x.R=af gh l.x.R/\aa 1 (iE p.dm)=aa 1 (iE l.p.dm)/\aa 1 (iE p.settle)=aa 1 (iE l.p.settle)/\aa 10 (kI p n)=aa 10 (xN l)/\af xF n.O=[xF (l.s,fq.mk 2 0 0 0 0 0 0 (zL l.s l.b).snd)]/\af yK n.N=[]/\Z4 h n e a)/\∀(m:iq),(zL l.s l.b).snd=0/\m.fq l.p (l.x.X l.p l.s l.b).B (l.x.X l.p l.s l.b).U->∃(n:o6),sb p.code=sb l.p.code/\p.tick=l.p.tick/\p.low=l.p.low/\p.high=l.p.high/\p.wide=l.p.wide/\p.dt=l.p.dt/\p.top=l.p.top/\p.least=l.p.least/\p.part=l.p.part/\n.x.q=l.x.q+(jG l)/\(↑n.x.R.length:Int)=(kZ l)/\gy (Gt.mk n.o n.x.W)=gy (kY m l)/\ix n.d=ix l.D/\af gh n.x.R=af gh (kF l)/\aa 1 (iE p.dm)=aa 1 (iE l.p.dm)/\aa 1 (iE p.settle)=aa 1 (iE l.p.settle)/\aa 10 (kI p n)=aa 10 (kV l)/\af xF n.O=af xF l.O/\af yK n.N=af yK l.N/\Z4 h n e a)/\∀(j:o6),h j->∃(k:o6),dj (sb p.code)/\dj p.tick/\dj p.low/\dj p.high/\dj p.wide/\dj p.dt/\dj p.top/\dj p.least/\dj p.part/\k.x.q=j.x.q/\(↑k.x.R.length:Int)=(↑j.x.R.length:Int)/\gy (Gt.mk k.o k.x.W)=gy (Gt.mk j.o j.x.W)/\ix k.d=ix j.d/\af gh k.x.R=af gh j.x.R/\dj (aa 1 (iE p.dm))/\dj (aa 1 (iE p.settle))/\aa 10 (kI p k)=aa 10 (kI p j)/\∃(l:o6->Prop),(∃(m:ir),m.kind=1/\m.id=2/\m.inst=1/\m.side=2/\m.dk=500/\m.dr=6/\m.least=0/\m.time=1/\sb m.label=ByteArray.mk #[]/\(m.label=[]/\m.right=0)/\∀(n:Unit),True->∃(q:tz),q.s=1/\bE q.b=bE m.enc/\sb q.p.code=sb p.code/\q.p.tick=p.tick/\q.p.low=p.low/\q.p.high=p.high/\q.p.wide=p.wide/\q.p.dt=p.dt/\q.p.top=p.top/\q.p.least=p.least/\q.p.part=p.part/\q.x.q=k.x.q/\(↑q.x.R.length:Int)=(↑k.x.R.length:Int)/\gy (Gt.mk q.o q.x.W)=gy (Gt.mk k.o k.x.W)/\ix q.d=ix k.d/\af gh q.x.R=af gh k.x.R/\aa 1 (iE q.p.dm)=aa 1 (iE p.dm)/\aa 1 (iE q.p.settle)=aa 1 (iE p.settle)/\aa 10 (xN q)=aa 10 (kI p k)/\(f7 q)/\(∀(r:iq),(zL q.s q.b).snd≠0/\r.fq q.p q.x.B q.x.U->∃(s:o6),sb p.code=sb q.p.code/\p.tick=q.p.tick/\p.low=q.p.low/\p.high=q.p.high/\p.wide=q.p.wide/\p.dt=q.p.dt/\p.top=q.p.top/\p.least=q.p.least/\p.part=q.p.part/\s.x.q=q.x.q/\(↑s.x.R.length:Int)=(↑q.x.R.length:Int)/\gy (Gt.mk s.o s.x.W)=gy (Gt.mk r q.x.W)/\ix s.d=ix q.d/\af gh s.x.R=af gh q.x.R/\aa 1 (iE p.dm)=aa 1 (iE q.p.dm)/\aa 1 (iE p.settle)=aa 1 (iE q.p.settle)/\aa 10 (kI p s)=aa 10 (xN q)/\af xF s.O=[xF (q.s,fq.mk 2 0 0 0 0 0 0 (zL q.s q.b).snd)]/\af yK s.N=[]/\z4b l s p j e a)/\∀(r:iq),(zL q.s q.b).snd=0/\r.fq q.p (q.x.X q.p q.s q.b).B (q.x.X q.p q.s q.b).U->∃(s:o6),sb p.code=sb q.p.code/\p.tick=q.p.tick/\p.low=q.p.low/\p.high=q.p.high/\p.wide=q.p.wide/\p.dt=q.p.dt/\p.top=q.p.top/\p.least=q.p.least/\p.part=q.p.part/\s.x.q=q.x.q+(jG q)/\(↑s.x.R.length:Int)=(kZ q)/\gy (Gt.mk s.o s.x.W)=gy (kY r q)/\ix s.d=ix q.D/\af gh s.x.R=af gh (kF q)/\aa 1 (iE p.dm)=aa 1 (iE q.p.dm)/\aa 1 (iE p.settle)=aa 1 (iE q.p.settle)/\aa 10 (kI p s)=aa 10 (kV q)/\af xF s.O=af xF q.O/\af yK s.N=af yK q.N/\z4b l s p j e a)/\∀(m:o6),l m->∃(n:o6),dj (sb p.code)/\dj p.tick/\dj p.low/\dj p.high/\dj p.wide/\dj p.dt/\dj p.top/\dj p.least/\dj p.part/\n.x.q=m.x.q/\(↑n.x.R.length:Int)=(↑m.x.R.length:Int)/\gy (Gt.mk n.o n.x.W)=gy (Gt.mk m.o m.x.W)/\ix n.d=ix m.d/\af gh n.x.R=af gh m.x.R/\dj (aa 1 (iE p.dm))/\dj (aa 1 (iE p.settle))/\aa 10 (kI p n)=aa 10 (kI p m)/\∃(q:o6->Prop),(∃(r:ir),r.kind=1/\r.id=3/\r.inst=0/\r.side=1/\r.dk=505/\r.dr=9/\r.least=0/\r.time=1/\sb r.label=ByteArray.mk #[]/\(r.label=[]/\r.right=0)/\∀(s:Unit),True->∃(t:tz),t.s=2/\bE t.b=bE r.enc/\sb t.p.code=sb p.code/\t.p.tick=p.tick/\t.p.low=p.low/\t.p.high=p.high/\t.p.wide=p.wide/\t.p.dt=p.dt/\t.p.top=p.top/\t.p.least=p.least/\t.p.part=p.part/\t.x.q=n.x.q/\(↑t.x.R.length:Int)=(↑n.x.R.length:Int)/\gy (Gt.mk t.o t.x.W)=gy (Gt.mk n.o n.x.W)/\ix t.d=ix n.d/\af gh t.x.R=af gh n.x.R/\aa 1 (iE t.p.dm)=aa 1 (iE p.dm)/\aa 1 (iE t.p.settle)=aa 1 (iE p.settle)/\aa 10 (xN t)=aa 10 (kI p n)/\(f7 t)/\(∀(u:iq),(zL t.s t.b).snd≠0/\u.fq t.p t.x.B t.x.U->∃(v:o6),sb p.code=sb t.p.code/\p.tick=t.p.tick/\p.low=t.p.low/\p.high=t.p.high/\p.wide=t.p.wide/\p.dt=t.p.dt/\p.top=t.p.top/\p.least=t.p.least/\p.part=t.p.part/\v.x.q=t.x.q/\(↑v.x.R.length:Int)=(↑t.x.R.length:Int)/\gy (Gt.mk v.o v.x.W)=gy (Gt.mk u t.x.W)/\ix v.d=ix t.d/\af gh v.x.R=af gh t.x.R/\aa 1 (iE p.dm)=aa 1 (iE t.p.dm)/\aa 1 (iE p.settle)=aa 1 (iE t.p.settle)/\aa 10 (kI p v)=aa 10 (xN t)/\af xF v.O=[xF (t.s,fq.mk 2 0 0 0 0 0 0 (zL t.s t.b).snd)]/\af yK v.N=[]/\z4i q v p m j e a)/\∀(u:iq),(zL t.s t.b).snd=0/\u.fq t.p (t.x.X t.p t.s t.b).B (t.x.X t.p t.s t.b).U->∃(v:o6),sb p.code=sb t.p.code/\p.tick=t.p.tick/\p.low=t.p.low/\p.high=t.p.high/\p.wide=t.p.wide/\p.dt=t.p.dt/\p.top=t.p.top/\p.least=t.p.least/\p.part=t.p.part/\v.x.q=t.x.q+(jG t)/\(↑v.x.R.length:Int)=(kZ t)/\gy (Gt.mk v.o v.x.W)=gy (kY u t)/\ix v.d=ix t.D/\af gh v.x.R=af gh (kF t)/\aa 1 (iE p.dm)=aa 1 (iE t.p.dm)/\aa 1 (iE p.settle)=aa 1 (iE t.p.settle)/\aa 10 (kI p v)=aa 10 (kV t)/\af xF v.O=af xF t.O/\af yK v.N=af yK t.N/\z4i q v p m j e a)/\∀(r:o6),q r->dq ((↑(af xF j.O).length:Int)==1) (dq ((↑(af xF m.O).length:Int)==1) (dq ((↑(af xF r.O).length:Int)==6) (((0:Int)<=(5:Int)/\5<(↑(af xF r.O).length:Int))/\∃(s:Int),∃(t:Int),∃(u:Int),∃(v:Int),∃(w:Int),∃(x:Int),∃(y:Int),∃(z:Int),zD (af xF r.O) (aw 5) 1 8=au [dI s,dI t,dI u,dI v,dI w,dI x,dI y,dI z]/\dq (s==3 && (t==3 && (u==0 && (v==1 && (w==505 && (x==4 && (y==5 && (z==0 && ao)))))))) (∃(iW:Unit),ao=decide ((↑(af yK r.N).length:Int)>0)/\True) (∃(iW:Unit),ao=am/\True)) (∃(s:Unit),ao=am/\True)) (∃(s:Unit),ao=am/\True)) (∃(s:Unit),ao=am/\True)
def zOu {s:Int} (h0:0<=s/\s<8) {c:ir} (h:c.right=0):(zL s c.enc).2=0:=by
 rw[zL,fb (by omega),yTd h]
def Nj:ir:=⟨1,1,3,2,5,4,0,1,[]⟩
def Ni:ir:=⟨1,2,1,2,500,6,0,1,[]⟩
def KY:ir:=⟨1,3,0,1,505,9,0,1,[]⟩
def yUe:Nj.right=0:=by decide+kernel
def yUc:Ni.right=0:=by decide+kernel
def yTw:KY.right=0:=by decide+kernel
def aw1:Es:=(rj (dP 2)).ed (dP 2) 0 Nj.enc
def aw2:Es:=aw1.ed (dP 2) 1 Ni.enc
def y7u:((rj (dP 2)).X (dP 2) 0 Nj.enc).O.length=1:=by decide+kernel
def y8u:(aw1.X (dP 2) 1 Ni.enc).O.length=1:=by decide+kernel
def y6v:(aw2.X (dP 2) 2 KY.enc).O.length=6/\((aw2.X (dP 2) 2 KY.enc).O.getD 5 (0,⟨0,0,0,0,0,0,0,0⟩)).2=⟨3,3,0,1,505,4,5,0⟩/\(aw2.M (dP 2) 2 KY.enc).length≠0:=by decide+kernel
def yQt (a:List UInt8) (i j:Nat):(sb a).extract i j=sb ((a.take j).drop i):=by
 apply ByteArray.ext;simp only[sb,ByteArray.data_extract,List.extract_toArray];rw[List.extract_eq_drop_take',List.drop_take]
def yLk:LC.ok Tryz.prog 116:=ib (V:=yNt) mixed (dx SJ fj) 0 (λ_=>y1d) (λ_=>[]) [] Tryz.func116 λ(i:P0) h=>by
 obtain⟨l,s⟩:=i;obtain⟨h,hl⟩:l.length+300<=1099511627776/\s.length<=255:=h;have hs:(sb s).size=s.length:=SU s;have hm:min ((sb s).size:Int) 255=(s.length:Int):=by rw[hs];omega
 have he:(sb s).extract 0 ((s.length:Int)).toNat=sb s:=by
  rw[yQt,oF,BJ];rfl
 have et:s.take 255=s:=oh oM;unfold yNt tC;dsimp only;rw[hm,he,hs];refine⟨⟨oM,oM⟩,⟨l,s.length⟩,rfl,rfl,by dsimp only[WN.ok];omega,λ_ _=>⟨?_,(),?_,trivial⟩⟩
 ·dsimp only;rw[zUn,yH,yH,iv];simp[sb];omega
 ·dsimp only;rw[zUn,<- NX,EG,et];simp[sb]
def y4d (c:ir) (h:JL.dq c):yVf c:=by
 obtain⟨hl,hr⟩:c.label=[]/\c.right=0:=h;have he:c.enc=jj c.kind::(le c.id 8++c.tail):=by rw[ir.enc,fb (by simp[hr])]
 unfold yVf XJ Yk;refine⟨c,gr ⟨rfl,by rw[hl];exact mz _,λ_ _=>Cv.dq.mk (λe=>absurd e (by rw[hr];simp)) (λ_=>⟨(),trivial,λ_ _=>⟨⟨[],c.kind⟩,rfl,rfl,by simp[WN.ok],λ_ _=>⟨⟨[jj c.kind],c.id⟩,rfl,rfl,by simp[WN.ok],λ_ _=> ?_⟩⟩⟩)⟩⟩;dsimp only;refine Cv.dq.mk (λe=> ?_) (λe=>Cv.dq.mk (λe3=> ?_) (λe3=>Cv.dq.mk (λe4=> ?_) (λe4=> ?_)))
 ·have e:c.kind=1:=by simpa using e
  have ht:c.tail=jj c.inst::jj c.side::jj c.time::(le c.dk 8++(le c.dr 8++(le c.least 8++EG c.label))):=by rw[ir.tail,fh e]
  refine⟨⟨[jj c.kind]++le c.id 8,c.inst⟩,rfl,rfl,by simp[WN.ok,xJ],λ_ _=>⟨⟨_,c.side⟩,rfl,rfl,by simp[WN.ok,xJ],λ_ _=>⟨⟨_,c.time⟩,rfl,rfl,by simp[WN.ok,xJ],λ_ _=>⟨⟨_,c.dk⟩,rfl,rfl,by simp[WN.ok,xJ],λ_ _=>⟨⟨_,c.dr⟩,rfl,rfl,by simp[WN.ok,xJ],λ_ _=>⟨⟨_,c.least⟩,rfl,rfl,by simp[WN.ok,xJ],λ_ _=>⟨⟨_,c.label⟩,rfl,rfl,⟨by simp[xJ],by rw[hl];exact mz _⟩,λ_ _=>⟨_,rfl,by dsimp only;rw[hl];simp[xJ,EG],λ_ _=>⟨(),?_,rfl,trivial⟩⟩⟩⟩⟩⟩⟩⟩⟩;dsimp only;rw[he,ht];simp
 ·have e3:c.kind=3:=by simpa using e3
  have ht:c.tail=le c.dr 8:=by rw[ir.tail,fb (by omega),fh e3]
  refine⟨⟨[jj c.kind]++le c.id 8,c.dr⟩,rfl,rfl,by simp[WN.ok,xJ],λ_ _=>⟨_,rfl,by simp[xJ],λ_ _=>⟨(),?_,rfl,trivial⟩⟩⟩;dsimp only;rw[he,ht];simp
 ·have e4:c.kind=4:=by simpa using e4
  have ht:c.tail=le c.dk 8++le c.dr 8:=by rw[ir.tail,fb (by omega),fb (by omega),fh e4]
  refine⟨⟨[jj c.kind]++le c.id 8,c.dk⟩,rfl,rfl,by simp[WN.ok,xJ],λ_ _=>⟨⟨_,c.dr⟩,rfl,rfl,by simp[WN.ok,xJ],λ_ _=>⟨_,rfl,by simp[xJ],λ_ _=>⟨(),?_,rfl,trivial⟩⟩⟩⟩;dsimp only;rw[he,ht];simp
 ·have e:¬c.kind=1:=by simpa using e
  have e3:¬c.kind=3:=by simpa using e3
  have e4:¬c.kind=4:=by simpa using e4
  have ht:c.tail=[]:=by rw[ir.tail,fb e,fb e3,fb e4]
  refine⟨_,rfl,by simp[xJ],λ_ _=>⟨(),?_,rfl,trivial⟩⟩;rw[he,ht];simp
def yBf:JL.ok Tryz.prog 52:=ib mixed (dx WZ (dx SR (dx SJ (dx S3 (dx yLk (dx SK fj)))))) 0 (λ_=>[]) (λ_=>[]) [] Tryz.func52 y4d
def LD:P6.ok Tryz.prog 11:=ib (V:=y4y) mixed (dx X0 fj) 0 (λ_=>[]) (λ_=>[]) [] Tryz.func11 λ(i:Vs) h=>by
 obtain⟨l,k⟩:=i;obtain⟨h1,h2⟩:(∀s∈l,gx s)/\k<=1000000:=h;have hl:(iE l).length=l.length:=im _;unfold y4y y3 dI;dsimp only;refine zH (λc=> ?_) (λc=>⟨(),?_,trivial⟩)
 ·obtain⟨s,hs⟩:=z6 (l:=l) (i:=k) oM;refine⟨⟨oM,oM⟩,s,rk hs,⟨s,0,3⟩,rfl,rfl,rfl,⟨h1 s (lq hs),oV rfl,oV rfl,oV rfl⟩,λ_ _=>⟨(),?_,trivial⟩⟩;rw[D4,hs]
 ·rw[D4,ue (by omega)]
def y1v (l:List Int) (k:Nat):0<=D4 l k/\D4 l k<=3:=by
 rw[D4];split
 ·exact yTa Z8
 ·exact⟨yp _,Z8⟩
def LG:P8.ok Tryz.prog 12:=ib (V:=y6l) mixed (dx ySr (dx yBf fj)) 0 (λ_=>[]) (λ_=>[]) [] Tryz.func12 λ(t:xo) h=>by
 obtain⟨p,c,k⟩:=t;obtain⟨⟨x,hp⟩,hc,h1,h2⟩:(∃x,p=ie x)/\c.raw/\0<=k/\k<=1000000:=h;subst hp;have hr:(y5 ⟨ie x,c,k⟩).right=0:=by
  obtain⟨n,rfl⟩:∃n:Nat,k=n:=⟨k.toNat,oM⟩
  exact yNp oM
 unfold y6l Tk;dsimp only;exact⟨⟨ie x,c,k⟩,gr (gr (nn ⟨rfl,⟨nP x,zMc x,hc,h1,h2⟩,λ_ _=>⟨y5 ⟨ie x,c,k⟩,gr ⟨rfl,⟨sM _,hr⟩,λ_ _=>⟨(),rfl,trivial⟩⟩⟩⟩))⟩
def L3:QG.ok Tryz.prog 8:=ib (V:=y3b) mixed (dx AK (dx Z6 fj)) 0 (λ_=>[]) (λ_=>[]) [] Tryz.func8 λ(p:ff) h=>by
 obtain⟨hc,hs⟩:p.check=0/\p.small:=h;unfold y3b rP pL vH;exact⟨(),trivial,λ_ _=>⟨⟨p,0,[],[]⟩,gr (iT ⟨rfl,⟨⟨hc,hs⟩,⟨⟨λl hl=>(by cases hl),rfl,oV rfl⟩,lk _,oV rfl⟩,λr hr=>(by cases hr),oV rfl⟩,λo ho=>⟨o,gr (oJ (iT ho))⟩⟩)⟩⟩
def ZD (c:ir) (h:c.right=0) (hl:c.label=[]):c.enc.length<=100:=Vy h hl
def y1e:(zL 0 Nj.enc).2=0:=by decide+kernel
def y0l:(zL 1 Ni.enc).2=0:=by decide+kernel
def yYz:(zL 2 KY.enc).2=0:=by decide+kernel
def y6c {O:List (Int×fq)} {k:Nat} {o:Int×fq} (h:O[k]? =au o):zD (O.map xF) k 1 8=au [D.v (.int .i64 o.2.kind),.v (.int .i64 o.2.id),.v (.int .i64 o.2.inst),.v (.int .i64 o.2.side),.v (.int .i64 o.2.dk),.v (.int .i64 o.2.dr),.v (.int .i64 o.2.left),.v (.int .i64 o.2.oY)]:=ju h (by simp[xF,xP]) rfl
def tj.Ia {p:ff} {x:Es} {d:Dk} {s:Int} {b:List UInt8} {j:o6} (h:tj p x d s b j) (hr:(zL s b).2=0):j.x=x.ed p s b/\j.d=⟨d.b++x7 (v8 s b),d.safe⟩/\j.O=(x.X p s b).O/\j.N=wT x.q (x.M p s b):=by
 rcases h.c with⟨a0,_⟩|⟨_,a1,a2,a3,a4⟩
 ·exact absurd hr a0
 ·exact⟨a1,a2,a3,a4⟩
def vaw (p:ff) (h:awC.dq p):Vaw p:=by
 have h:p=dP 2:=h;obtain⟨b1,qe⟩:∃b,Nj.enc=b:=⟨_,rfl⟩
 obtain⟨b2,nh⟩:∃b,Ni.enc=b:=⟨_,rfl⟩
 obtain⟨b3,CR⟩:∃b,KY.enc=b:=⟨_,rfl⟩
 have l1:b1.length<=100:=by rw[<- qe];exact ZD _ yUe rfl
 have l2:b2.length<=100:=by rw[<- nh];exact ZD _ yUc rfl
 have l3:b3.length<=100:=by rw[<- CR];exact ZD _ yTw rfl
 have r1:(zL 0 b1).2=0:=by rw[<- qe];exact y1e
 have r2:(zL 1 b2).2=0:=by rw[<- nh];exact y0l
 have r3:(zL 2 b3).2=0:=by rw[<- CR];exact yYz
 have q1:((rj p).X p 0 b1).O.length=1:=by rw[<- qe,h];exact y7u
 have q2:(((rj p).ed p 0 b1).X p 1 b2).O.length=1:=by rw[<- qe,<- nh,h];exact y8u
 have q3:((((rj p).ed p 0 b1).ed p 1 b2).X p 2 b3).O.length=6/\(((((rj p).ed p 0 b1).ed p 1 b2).X p 2 b3).O.getD 5 (0,⟨0,0,0,0,0,0,0,0⟩)).2=⟨3,3,0,1,505,4,5,0⟩/\((((rj p).ed p 0 b1).ed p 1 b2).M p 2 b3).length≠0:=by rw[<- qe,<- nh,<- CR,h];exact y6v
 have hc:p.check=0:=by rw[h];decide+kernel
 have hs:p.small:=by rw[h];exact z3n 2
 obtain⟨p1,p2,p3,p4,p5,p6,p7,p8,p9,Pb,Pa⟩:sb p.code=sb [67,76]/\iE p.dm=iE [320,321,323]/\p.tick=5/\p.low=0/\p.high=1000/\p.wide=200/\p.dt=2/\p.top=4/\p.least=2/\p.part=40/\iE p.settle=iE [500,505,490]:=by
  rw[h];exact(oJ (iT rfl))
 clear h;have G1:iS p (rj p).B:=iS.new hc hs;unfold Vaw pL kY xN jG kZ kF kV Z4 z4b z4i ZU z5g vH kI f7 dI;refine⟨2,rfl,trivial,λ_ _=>⟨(),trivial,λ_ _=>⟨gu,⟨⟨p,0,[],[]⟩,p1,p2,p3,p4,p5,p6,p7,p8,p9,Pb,Pa,rfl,⟨⟨hc,hs⟩,⟨⟨λl hl=>(by cases hl),rfl,oV rfl⟩,lk _,oV rfl⟩,λr hr=>(by cases hr),oV rfl⟩,λo HQ=> ?_⟩⟩⟩⟩;have HQ:o.fq p (rj p).B (rj p).U:=HQ;have z0:(rj p).q=0:=rfl;have z1:(rj p).R.length=0:=rfl;have z2:([]:List UInt8).length=0:=rfl;refine⟨⟨rj p,o,⟨[],0⟩,[],[]⟩,gr (gr ⟨rfl,λj=>tj p (rj p) ⟨[],0⟩ 0 b1 j,⟨Nj,gr ⟨rfl,⟨rfl,yUe⟩,λ_ _=>⟨⟨o,rj p,p,⟨[],0⟩,0,b1⟩,rfl,by rw[qe],gr (gr ⟨rfl,⟨⟨HQ,G1⟩,Z9,⟨oV rfl,oV rfl⟩,⟨Z9,Z9⟩,Z9,Z9⟩,λo9 hb=>⟨⟨rj p,o9,⟨[],0⟩,_,[]⟩,rfl,rfl,rfl,rfl,rfl,rfl,rfl,rfl,rfl,rfl,rfl,rfl,rfl,rfl,rfl,rfl,rfl,rfl,rfl,tj.bad hb.2 G1 hb.1,gu⟩,λo9 hg=>⟨⟨_,o9,_,_,_⟩,rfl,rfl,rfl,rfl,rfl,rfl,rfl,rfl,rfl,rfl,rfl,rfl,rfl,rfl,rfl,rfl,rfl,rfl,rfl,tj.tw HQ G1 oM hg.1 hg.2,gu⟩⟩)⟩⟩⟩,?_⟩)⟩;rintro⟨x1,o1,d1,O1,N1⟩ Ld;obtain⟨⟨G0,A3,u1,u2,u3,u4,_,_⟩,_⟩:=id Ld;obtain⟨e1,_,e3,_⟩:=Ld.Ia r1;dsimp only at G0 A3 u1 u2 u3 u4 e1 e3 ⊢;refine⟨⟨x1,o1,d1,[],[]⟩,gr (gr ⟨rfl,λj=>tj p (x1) d1 1 b2 j,⟨Ni,gr ⟨rfl,⟨rfl,yUc⟩,λ_ _=>⟨⟨o1,x1,p,d1,1,b2⟩,rfl,by rw[nh],gr (gr ⟨rfl,⟨⟨G0,A3⟩,Z9,⟨oV rfl,oV rfl⟩,⟨Z9,Z9⟩,Z9,Z9⟩,λo9 hb=>⟨⟨x1,o9,d1,_,[]⟩,rfl,rfl,rfl,rfl,rfl,rfl,rfl,rfl,rfl,rfl,rfl,rfl,rfl,rfl,rfl,rfl,rfl,rfl,rfl,tj.bad hb.2 A3 hb.1,gu⟩,λo9 hg=>⟨⟨_,o9,_,_,_⟩,rfl,rfl,rfl,rfl,rfl,rfl,rfl,rfl,rfl,rfl,rfl,rfl,rfl,rfl,rfl,rfl,rfl,rfl,rfl,tj.tw G0 A3 oM hg.1 hg.2,gu⟩⟩)⟩⟩⟩,?_⟩)⟩;rintro⟨x2,o2,d2,O2,N2⟩ G2;obtain⟨⟨Ao,zr,v1,v2,v3,v4,_,_⟩,_⟩:=id G2;obtain⟨f1,_,f3,_⟩:=G2.Ia r2;dsimp only at Ao zr v1 v2 v3 v4 f1 f3 ⊢;refine⟨⟨x2,o2,d2,[],[]⟩,gr (gr ⟨rfl,λj=>tj p (x2) d2 2 b3 j,⟨KY,gr ⟨rfl,⟨rfl,yTw⟩,λ_ _=>⟨⟨o2,x2,p,d2,2,b3⟩,rfl,by rw[CR],gr (gr ⟨rfl,⟨⟨Ao,zr⟩,Z9,⟨oV rfl,oV rfl⟩,⟨Z9,Z9⟩,Z9,Z9⟩,λo9 hb=>⟨⟨x2,o9,d2,_,[]⟩,rfl,rfl,rfl,rfl,rfl,rfl,rfl,rfl,rfl,rfl,rfl,rfl,rfl,rfl,rfl,rfl,rfl,rfl,rfl,tj.bad hb.2 zr hb.1,gu⟩,λo9 hg=>⟨⟨_,o9,_,_,_⟩,rfl,rfl,rfl,rfl,rfl,rfl,rfl,rfl,rfl,rfl,rfl,rfl,rfl,rfl,rfl,rfl,rfl,rfl,rfl,tj.tw Ao zr oM hg.1 hg.2,gu⟩⟩)⟩⟩⟩,?_⟩)⟩;rintro⟨x3,o3,d3,O3,N3⟩ hA3;obtain⟨g1,_,g3,g4⟩:=hA3.Ia r3;dsimp only at g1 g3 g4 ⊢;rw[e1]at f1 f3;rw[f1]at g3 g4;rw[e3,f3,g3,g4];obtain⟨q31,q32,q33⟩:=q3;have Aj:∀(l:List (Int×fq)),(l.map xF).length=l.length:=λl=>im _
 have Pq:((wT ((rj p).ed p 0 b1|>.ed p 1 b2).q ((((rj p).ed p 0 b1).ed p 1 b2).M p 2 b3)).map yK).length=((((rj p).ed p 0 b1).ed p 1 b2).M p 2 b3).length:=by rw[im,mE]
 rw[Aj,Aj,Aj,q1,q2,q31,Pq];obtain⟨y,hy⟩:=z6 (l:=((((rj p).ed p 0 b1).ed p 1 b2).X p 2 b3).O) (i:=5) oM;have hy2:y.2=⟨3,3,0,1,505,4,5,0⟩:=by rw[nk,hy]at q32;exact q32
 have h8:=y6c hy;rw[hy2]at h8;exact Cv.dq.mk (λ_=>Cv.dq.mk (λ_=>Cv.dq.mk (λ_=>⟨⟨oV rfl,oV rfl⟩,_,_,_,_,_,_,_,_,h8,Cv.dq.mk (λ_=>⟨(),(lg oM).symm,trivial⟩) (λe=>absurd e Z8)⟩) (λe=>absurd e Z8)) (λe=>absurd e Z8)) (λe=>absurd e Z8)
def Sf:awC.ok Tryz.prog 19:=ib mixed (dx yLf (dx AK (dx Z6 (dx yBf (dx Cz fj))))) 1 (λp=>awJ p) (λ_=>[]) [] Tryz.func19 vaw
def dO (n:Int) (r:List UInt8):List UInt8:=x7 (le n 8++r)
structure qf where
 n:Int
 r:List UInt8
def FB:gi:=fp qf (λi=>[zA i.n,oD 1 (bE i.r)]) (λ_=>[]) (λi=>(0<=i.n/\i.n<=1000000)/\i.r.length<=247) (λ_=> .ja [.own 0,zA 0]) (λi=>[.own DD 1 (bE (dO i.n i.r))])
@[reducible] def Hj:Nat:=145
@[reducible] def Jc:Nat:=152
def jt (l:qf):List D:=[.v (.int .i64 l.n),.ro 1 (bE l.r)]
@[reducible] def Jd (H:List qf):fi:= .own Jc 2 (H.map jt)
def qf.ok (l:qf):Prop:=(0<=l.n/\l.n<=1000000)/\Hq l.r/\l.r.length<=247
structure Sb where
 x:Es
 H:List qf
def UW (p:ff) (k r h:Nat):fi:= .cells [sV p.code,.own (k+2),zA p.tick,zA p.low,zA p.high,zA p.wide,zA p.dt,zA p.top,zA p.least,zA p.part,.own (k+3),.nm (k+1) 0,.own (k+r),.own (k+h)] Hj
def EP (p:ff) (s:Sb) (o:iq):List fi:=[UW p 0 4 5,gy ⟨o,s.x.W⟩,.jc 1 (iE p.dm),.jc 1 (iE p.settle),yu s.x.R,Jd s.H]
def y0d (p:ff) (s:Sb) (o:iq):List fi:=[UW p 0 6 7,gy ⟨o,s.x.W⟩,.jc 1 (iE p.dm),.jc 1 (iE p.settle),.gone,.gone,yu s.x.R,Jd s.H]
def sbK (k:Nat) (p:ff) (s:Sb) (o:iq):List fi:=[UW p k 4 5,gy ⟨o,s.x.W⟩,.jc 1 (iE p.dm),.jc 1 (iE p.settle),yu s.x.R,Jd s.H]
def FE:gi where
 ι:=ff
 pat:=λp=>[oe p]
 pre:=λ_=>[]
 dq:=λp=>p.check=0/\p.small
 alts:=λp=>[{o:=iq,res:=λ_=> .ja [.nm 0 0,zA 0],post:=λo=>EP p ⟨rj p,[]⟩ o,rel:=λo=>o.fq p (rj p).B (rj p).U}]
def bV (p:ff):Es->List qf->List UInt8->Sb
 |x,[],r=>⟨vL p x r,[]⟩
 |x,l::H,r=>if l.n=(vL p x r).R.length then bV p (vL p x r) H l.r else⟨vL p x r,l::H⟩
structure ow where
 p:ff
 s:Sb
 o:iq
 n:Int
 r:List UInt8
@[reducible] def ow.ok (i:ow):Prop:=(i.o.fq i.p i.s.x.B i.s.x.U/\iS i.p i.s.x.B)/\(Hq i.r/\i.r.length<=247)/\(0<=i.n/\i.n<=1000000)/\(∀l∈i.s.H,l.ok)/\i.s.x.R.length+i.s.H.length<=1000000
def ow.Y (i:ow):Sb:=bV i.p i.s.x i.s.H i.r
def Dc:gi:=fp ow (λi=>[.nm 0 0,oD 1 (bE (dO i.n i.r))]) (λi=>EP i.p i.s i.o) (λi=>i.ok) (λi=> .ja [.agg [zA i.n,oD 1 (bE i.r)],zA 0]) (λi=>EP i.p i.s i.o)
def um:gi:=fp (List (List D)) (λl=>[oD 2 l]) (λ_=>[]) (λl=>l.length<=1000000) (λ_=> .own 0) (λl=>[.own Jc 2 l])
def pG (s:Sb):Prop:=∀l H,s.H=l::H->l.n≠s.x.R.length+1
def Bn:gi where
 ι:=ow
 pat:=λi=>[.nm 0 0,oD 1 (bE i.r)]
 pre:=λi=>EP i.p i.s i.o
 dq:=λi=>i.ok/\pG i.s
 alts:=λi=>[{o:=iq,res:=λ_=>bN,post:=λo=>y0d i.p ⟨vL i.p i.s.x i.r,i.s.H⟩ o,rel:=λo=>o.fq i.p (vL i.p i.s.x i.r).B (vL i.p i.s.x i.r).U}]
def Rn:gi:=fp ow (λi=>[.nm 0 0,oD 1 (bE i.r)]) (λi=>EP i.p i.s i.o) (λ_=>False) (λ_=>bN) (λi=>EP i.p i.s i.o)
def Gy (k:Nat):gi where
 ι:=ow
 pat:=λi=>[.nm 0 0,oD 1 (bE i.r)]
 pre:=λi=>[UW i.p 0 4 5,gy ⟨i.o,i.s.x.W⟩,.jc 1 (iE i.p.dm),.jc 1 (iE i.p.settle),yu i.s.x.R,.jc 2 (i.s.H.map jt)]
 dq:=λi=>i.ok/\¬pG i.s/\i.s.H.length<k
 alts:=λi=>[{o:=iq,res:=λ_=>bN,post:=λo=>y0d i.p i.Y o,rel:=λo=>o.fq i.p i.Y.x.B i.Y.x.U}]
def GA (H:List qf):Prop:=H.Pairwise λa b=>a.n<b.n
def f9 (H:List qf) (n:Int):Nat:=(H.takeWhile λl=>decide (l.n<n)).length
def pE (H:List qf) (n:Int):Bool:=H.any λl=>decide (l.n=n)
structure Lh where
 H:List qf
 n:Int
def QN:gi:=fp Lh (λi=>[.own 0,zA i.n,.fn 77 [] []]) (λi=>[Jd i.H]) (λi=>GA i.H/\(∀l∈i.H,0<=l.n/\l.n<=1000000)/\(0<=i.n/\i.n<=1000000)/\i.H.length<=1000000) (λi=> .ja [zA (f9 i.H i.n),yN (pE i.H i.n)]) (λi=>[Jd i.H])
structure Jx where
 a:Nat
 b:Nat
def y7w:List gp:=[{ι:=Jx,dv:=λj=>[(9,zA j.a),(10,zA j.b)],rows:=λ_=>[]}]
def Rz:gi:=OL Jc 2 32
def AX (p:ff) (s:Sb) (n:Int) (r:List UInt8):Sb×Int:=
 if n<s.x.R.length\/pE s.H n=ao then(s,33)else if n=s.x.R.length then(bV p s.x s.H r,0)else
 if 4096<=s.H.length then(s,13)else(⟨s.x,s.H.take (f9 s.H n)++⟨n,r⟩::s.H.drop (f9 s.H n)⟩,32)
def ow.T (i:ow):Sb:=(AX i.p i.s i.n i.r).1
def ow.W (i:ow):Int:=(AX i.p i.s i.n i.r).2
def AH:gi where
 ι:=ow
 pat:=λi=>[.nm 0 0,oD 1 (bE (dO i.n i.r))]
 pre:=λi=>EP i.p i.s i.o
 dq:=λi=>i.ok/\GA i.s.H
 alts:=λi=>[{o:=iq,res:=λ_=>zA i.W,post:=λo=>y0d i.p i.T o,rel:=λo=>o.fq i.p i.T.x.B i.T.x.U}]
structure zt where
 p:ff
 s:Sb
 o:iq
 z:Nat
def y4m (p:ff) (q:Int) (m t g j v r:Nat):fi:= .cells [sV p.code,.own m,zA p.tick,zA p.low,zA p.high,zA p.wide,zA p.dt,zA p.top,zA p.least,zA p.part,.own t,.nm j 0,.nm g 0,.own v,zA q,.own r] bF
def y8g (p:ff) (m t r h:Nat):fi:= .cells [sV p.code,.own m,zA p.tick,zA p.low,zA p.high,zA p.wide,zA p.dt,zA p.top,zA p.least,zA p.part,.own t,.nm 1 0,.own r,.own h] Hj
def AI:gi where
 ι:=zt
 pat:=λ_=>[.nm 0 0,.nm 6 0]
 pre:=λi=>EP i.p i.s i.o++[ix ⟨[],i.z⟩]
 dq:=λi=>((i.p.check=0/\i.p.small)/\i.o.fq i.p i.s.x.B i.s.x.U/\iS i.p i.s.x.B)/\(i.s.x=xI i.p i.s.x.R/\∀r∈i.s.x.R,Hq r/\r.length<=101)/\i.s.x.R.length<=1000/\i.z=0
 alts:=λi=>[{o:=iq,res:=λ_=> .ja [.nm 7 0,zA 0],post:=λo=>[y8g i.p 14 15 16 17,gy ⟨i.o,i.s.x.W⟩,.gone,.gone,.gone,.gone,ix ⟨ni i.s.x.R,(ni i.s.x.R).length⟩,y4m i.p i.s.x.q 11 12 9 8 13 10,Ee 6 i.s.x.R.length,gy ⟨o,i.s.x.W⟩,yu i.s.x.R,.jc 1 (iE i.p.dm),.jc 1 (iE i.p.settle),BZ (yO i.p i.s.x.B),.jc 1 (iE i.p.dm),.jc 1 (iE i.p.settle),yu i.s.x.R,Jd i.s.H],rel:=λo=>o.fq i.p i.s.x.B i.s.x.U}]
structure Eu where
 x:Es
 o:iq
 d:Dk
 k:Nat
def yQb (i:zt):List gp:=[{ι:=Eu,dv:=λj=>[(0,.nm 0 0),(1,.nm 6 0),(6,.nm 7 0),(33,.own 4),(35,zA j.k)],rows:=λj=>EP i.p i.s i.o++[ix j.d,y4m i.p j.x.q 11 12 9 8 13 10,Ee 6 j.x.R.length,gy ⟨j.o,j.x.W⟩,yu j.x.R,.jc 1 (iE i.p.dm),.jc 1 (iE i.p.settle),BZ (yO i.p j.x.B)]}]
structure TpI where
 x:ff
 p:ff
 l:List ir
 ss:List Int
@[reducible] def TpI.ok (i:TpI):Prop:=i.p=ie i.x/\i.x.raw/\(∀c∈i.l,c.raw)/\(∀s∈i.ss,gx s)/\i.l.length<=9223372036854775807/\i.ss.length<=9223372036854775807
structure vx where
 x:Es
 o:iq
 d:Dk
 k:Nat
structure tf where
 x:Es
 o:iq
 d:Dk
 s:Sb
 o2:iq
 k:Nat
structure C4 where
 x:Es
 o:iq
 d:Dk
 x2:Es
 o2:iq
 d2:Dk
 k:Nat
def W0:∀{H:List qf} {n:Int} {a:Nat},a<=H.length->(∀k l,H[k]? =au l->k<a->l.n<n)->(∀k l,H[k]? =au l->a<=k->n<=l.n)->f9 H n=a
 |[],n,a,h,_,_=>by
  have:a=0:=by simpa using h
  subst this;rfl
 |l::H,n,0,_,_,h2=>by
  have:=h2 0 l rfl (lk _);rw[f9,List.takeWhile_cons_of_neg (by simp;omega)];rfl
 |l::H,n,a+1,h,h1,h2=>by
  have h3:=h1 0 l rfl oM;have:=W0 (H:=H) (n:=n) (a:=a) (by simpa using h) (λk l' hk gv=>h1 (k+1) l' hk oM) (λk l' hk hle=>h2 (k+1) l' hk oM);rw[f9]at this;rw[f9,List.takeWhile_cons_of_pos (by simpa using h3),iJ,this]
def yHm (H:List qf) (n:Int):f9 H n<=H.length:=by
 rw[f9];exact(List.takeWhile_sublist _).length_le
def z5d {H:List qf} (h:GA H) {i j:Nat} {a b:qf} (ha:H[i]? =au a) (hb:H[j]? =au b) (Jp:i<j):a.n<b.n:=by
 obtain⟨hi,rfl⟩:=jv.1 ha;obtain⟨hj,rfl⟩:=jv.1 hb;exact List.pairwise_iff_getElem.1 h i j hi hj Jp
def yJg {H:List qf} (h:GA H) {n:Int} {a:Nat} {l:qf} (hl:H[a]? =au l) (h1:∀k l,H[k]? =au l->k<a->l.n<n) (h2:∀k l,H[k]? =au l->a<=k->n<=l.n):pE H n=decide (l.n=n):=by
 rw[pE,Hv,MZ];constructor
 ·rintro⟨y,hy,hyn⟩;obtain⟨k,hk⟩:=M5 hy;have hyn:y.n=n:=oV hyn;refine lg ?_;rcases Nat.lt_trichotomy k a with c|c|c
  ·have:=h1 k y hk c;omega
  ·subst c;rw[hl]at hk;cases hk;exact hyn
  ·have:=z5d h hl hk c;have:=h2 a l hl (lk _);omega
 ·intro e;exact⟨l,lq hl,e⟩
def yHp {H:List qf} {n:Int} (h1:∀l∈H,l.n<n):pE H n=am:=by
 rw[pE,KR];intro y hy;have:=h1 y hy;simp;omega
def Bl (p:ff) (R:List (List UInt8)):Prop:=∀j≤R.length,iS p (xI p (R.take j)).B/\(xI p (R.take j)).R=R.take j
def Bl.step {p:ff} {x x2:Es} {d:Dk} {r:List UInt8} (h:Bl p x.R) (hR:x2.R=x.R++[r]) (hG:Fk p x2 d) (hB:iS p x2.B):Bl p x2.R:=by
 intro j hj;by_cases hc:j<=x.R.length
 ·have e:x2.R.take j=x.R.take j:=by rw[hR,xk hc]
  rw[e];exact h j hc
 ·have hl:x2.R.length=x.R.length+1:=by rw[hR,iv];rfl
  have e:x2.R.take j=x2.R:=oh oM;rw[e,<- hG.e];exact⟨hB,rfl⟩
def wk (R:List (List UInt8)) (S:Nat->Bool) (k m:Nat):List qf:=((aj k m).filter S).map λ(j:Nat)=>⟨(j:Int),R.getD j []⟩
def Mp {R:List (List UInt8)} {S:Nat->Bool} {k m:Nat} {l:qf} (h:l∈wk R S k m):∃j:Nat,S j=ao/\(k<=j/\j<k+m)/\l=⟨j,R.getD j []⟩:=by
 obtain⟨j,hj,rfl⟩:=pj.1 h;obtain⟨h1,h2⟩:=uu.1 hj;have:=List.mem_range'_1.1 h1;exact⟨j,h2,this,rfl⟩
def yWu (R:List (List UInt8)) (S:Nat->Bool) (k m:Nat):GA (wk R S k m):=by
 refine List.pairwise_map.2 ?_;have:=(List.pairwise_lt_range' (s:=k) (n:=m)).filter S;refine this.imp ?_;intro a b h;dsimp only;omega
def yGg (R:List (List UInt8)) (S:Nat->Bool) (k m:Nat):(wk R S k m).length<=m:=by
 rw[wk,im];have:=GG S (aj k m);rw[List.length_range']at this;exact this
def WA (R:List (List UInt8)) (S:Nat->Bool) (k a b:Nat):wk R S k (a+1+b)=wk R S k a++((if S (k+a)=ao then[⟨((k+a:Nat):Int),R.getD (k+a) []⟩]else[])++wk R S (k+a+1) b):=by
 have e:aj k (a+1+b)=aj k a++((k+a)::aj (k+a+1) b):=by
  rw[CH,<- List.range'_append_1,EI 1 b,List.range'_succ]
 rw[wk,e,Hy,jr,List.filter_cons];split
 ·rfl
 ·rfl
def yMq {R:List (List UInt8)} {S T:Nat->Bool} {k m:Nat} (h:∀j,k<=j->j<k+m->S j=T j):wk R S k m=wk R T k m:=by
 rw[wk,wk];congr 1;refine List.filter_congr λj hj=> ?_
 have:=List.mem_range'_1.1 hj;exact h j this.1 this.2
def getD_some {R:List (List UInt8)} {n:Nat} (h:n<R.length):R[n]? =au (R.getD n []):=by
 rw[nk,vd h];rfl
def VF {p:ff} {R:List (List UInt8)} (hP:Bl p R) {n:Nat} (h:n<=R.length):(xI p (R.take n)).R.length=n:=by
 rw[(hP n h).2,om];omega
def zZj {p:ff} {R:List (List UInt8)} (hP:Bl p R) {S:Nat->Bool} (hS:∀j,R.length<=j->S j=am):∀m n,n+1+m=R.length->
 ∃k,(n<k/\k<=R.length)/\(∀j,n<j->j<k->S j=ao)/\S k=am/\bV p (xI p (R.take n)) (wk R S (n+1) m) (R.getD n [])=⟨xI p (R.take k),wk R S (k+1) (R.length-(k+1))⟩
 |0,n,h=>by
  refine⟨n+1,⟨oM,oM⟩,λj h1 h2=>by omega,hS _ oM,?_⟩;have e0:R.length-(n+1+1)=0:=by omega
  rw[e0,Uh (getD_some (by omega))];rfl
 |m+1,n,h=>by
  have hx:vL p (xI p (R.take n)) (R.getD n [])=xI p (R.take (n+1)):=(Uh (getD_some oM)).symm;have hl:=VF hP (n:=n+1) oM;have e:wk R S (n+1) (m+1)=(if S (n+1)=ao then[⟨((n+1:Nat):Int),R.getD (n+1) []⟩]else[])++wk R S (n+1+1) m:=by
   have:=WA R S (n+1) 0 m;rw[oa,EI 1 m]at this;rw[this];rfl
  by_cases c:S (n+1)=ao
  ·obtain⟨k,⟨k1,k2⟩,k3,k4,k5⟩:=zZj hP hS m (n+1) oM;refine⟨k,⟨oM,k2⟩,λj h1 h2=> ?_,k4,?_⟩
   ·by_cases cj:j=n+1
    ·rw[cj];exact c
    ·exact k3 j oM h2
   ·rw[e,fh c];show bV p _ (_::_) _=_;rw[bV,hx,hl,fh rfl];exact k5
  ·have c':S (n+1)=am:=by simpa using c
   refine⟨n+1,⟨oM,oM⟩,λj h1 h2=>by omega,c',?_⟩;have e1:R.length-(n+1+1)=m:=by omega
   rw[e,fb c,xj,e1];cases hH:wk R S (n+1+1) m with
   |nil=>rw[bV,hx]
   |cons l H=>
    obtain⟨j,_,⟨j1,j2⟩,rfl⟩:=Mp (by rw[hH];exact jm:l∈wk R S (n+1+1) m);rw[bV,hx,hl,fb (by dsimp only;omega)]
structure Cf (p:ff) (R:List (List UInt8)) (s:Sb) (S:Nat->Bool) (n:Nat):Prop where
 len:n<=R.length
 x:s.x=xI p (R.take n)
 lo:∀j,j<n->S j=ao
 hi:S n=am
 out:∀j,R.length<=j->S j=am
 H:s.H=wk R S (n+1) (R.length-(n+1))
def Cf.new (p:ff) (R:List (List UInt8)):Cf p R ⟨rj p,[]⟩ (λ_=>am) 0:=⟨mz _,rfl,λj h=>by omega,rfl,λ_ _=>rfl,by
 rw[wk,UK.2 λa _=>by simp];rfl⟩
def Cf.had {p:ff} {R:List (List UInt8)} {s:Sb} {S:Nat->Bool} {n:Nat} (h:Cf p R s S n) {i:Nat} (h1:n<i) (h2:i<R.length):pE s.H i=S i:=by
 rw[h.H,pE,Hv,MZ];constructor
 ·rintro⟨l,hl,e⟩;obtain⟨j,j1,_,rfl⟩:=Mp hl;have e:(j:Int)=(i:Int):=oV e;have:j=i:=by omega
  rw[<- this];exact j1
 ·intro e;refine⟨⟨i,R.getD i []⟩,pj.2 ⟨i,uu.2 ⟨List.mem_range'_1.2 ⟨oM,oM⟩,e⟩,rfl⟩,lg rfl⟩
def Cf.step {p:ff} {R:List (List UInt8)} {s:Sb} {S:Nat->Bool} {n:Nat} (h:Cf p R s S n) (hP:Bl p R) (hN:R.length<=4000) {i:Nat} (hi:i<R.length):
 ∃k,Cf p R (AX p s i (R.getD i [])).1 (λj=>S j||decide (j=i)) k:=by
 have xd:s.x.R.length=n:=by rw[h.x];exact VF hP h.len
 have ze:∀j,R.length<=j->(S j||decide (j=i))=am:=λj hj=>by rw[h.out j hj,ku (by omega)];rfl
 by_cases c1:i<n
 ·have e:AX p s i (R.getD i [])=(s,33):=by rw[AX,fh (.inl (by rw[xd];omega))]
  have hS:(λj=>S j||decide (j=i))=S:=by
   funext j;by_cases cj:j=i
   ·rw[cj,h.lo i c1];rfl
   ·rw[ku cj,ap]
  rw[e,hS];exact⟨n,h⟩
 by_cases c2:i=n
 ·subst c2;have GQ:pE s.H i=am:=by
   rw[h.H,pE,KR];intro l hl;obtain⟨j,_,j2,rfl⟩:=Mp hl;simp;omega
  have e:AX p s i (R.getD i [])=(bV p s.x s.H (R.getD i []),0):=by
   rw[AX,fb (by rw[xd,GQ];rintro(q|q);exact absurd q (by omega);cases q),fh (by rw[xd])]
  have hT:∀j,i<j->(S j||decide (j=i))=S j:=λj hj=>by rw[ku (by omega),ap]
  obtain⟨k,⟨k1,k2⟩,k3,k4,k5⟩:=zZj hP h.out (R.length-(i+1)) i oM;rw[e,h.x,h.H];dsimp only;rw[k5];refine⟨k,k2,rfl,λj hj=> ?_,by rw[hT k k1];exact k4,ze,?_⟩
  ·rcases Nat.lt_trichotomy j i with q|q|q
   ·rw[h.lo j q];rfl
   ·rw[q,lg rfl,Bool.or_true]
   ·rw[k3 j q hj];rfl
  ·exact yMq λj j1 j2=>(hT j oM).symm
 have gv:n<i:=by omega
 have hh:=h.had gv hi;by_cases c3:S i=ao
 ·have e:AX p s i (R.getD i [])=(s,33):=by rw[AX,fh (.inr (by rw[hh,c3]))]
  have hS:(λj=>S j||decide (j=i))=S:=by
   funext j;by_cases cj:j=i
   ·rw[cj,c3];rfl
   ·rw[ku cj,ap]
  rw[e,hS];exact⟨n,h⟩
 ·have c3:S i=am:=by simpa using c3
  have hlen:s.H.length<=R.length:=by rw[h.H];have:=yGg R S (n+1) (R.length-(n+1));omega
  have e:AX p s i (R.getD i [])=(⟨s.x,s.H.take (f9 s.H i)++⟨i,R.getD i []⟩::s.H.drop (f9 s.H i)⟩,32):=by
   rw[AX,fb (by rw[xd,hh,c3];rintro(q|q);exact absurd q (by omega);cases q),fb (by rw[xd];omega),fb (by omega)]
  rw[e];have hT:∀j,j≠i->(S j||decide (j=i))=S j:=λj hj=>by rw[ku hj,ap]
  refine⟨n,h.len,h.x,λj hj=>by rw[h.lo j hj];rfl,by rw[hT n (by omega)];exact h.hi,ze,?_⟩;have em:R.length-(n+1)=(i-(n+1))+1+(R.length-(i+1)):=by omega
  have ei:n+1+(i-(n+1))=i:=by omega
  have e1:=WA R S (n+1) (i-(n+1)) (R.length-(i+1));have e2:=WA R (λj=>S j||decide (j=i)) (n+1) (i-(n+1)) (R.length-(i+1));rw[ei]at e1 e2;rw[fb (by rw[c3];exact Bool.false_ne_true),xj]at e1;rw[fh (by rw[lg rfl,Bool.or_true])]at e2;have hA:wk R (λj=>S j||decide (j=i)) (n+1) (i-(n+1))=wk R S (n+1) (i-(n+1)):=yMq λj _ j2=>hT j oM
  have hB:wk R (λj=>S j||decide (j=i)) (i+1) (R.length-(i+1))=wk R S (i+1) (R.length-(i+1)):=yMq λj j1 _=>hT j oM
  rw[hA,hB]at e2;have wo:f9 s.H i=(wk R S (n+1) (i-(n+1))).length:=by
   rw[h.H,em,e1];refine W0 (by rw[iv];omega) (λk l hk gv=> ?_) (λk l hk hle=> ?_)
   ·rw[Ec gv]at hk;obtain⟨j,_,j2,rfl⟩:=Mp (lq hk);dsimp only;omega
   ·rw[B7 hle]at hk;obtain⟨j,_,j2,rfl⟩:=Mp (lq hk);dsimp only;omega
  dsimp only;rw[wo,em,e2,h.H,em,e1,KM,List.drop_left];rfl
def Cf.all {p:ff} {R:List (List UInt8)} {s:Sb} {S:Nat->Bool} {n:Nat} (h:Cf p R s S n) (ha:∀j,j<R.length->S j=ao):s.x=xI p R/\s.H=[]:=by
 have hn:n=R.length:=by
  have h1:=h.len;rcases ur n R.length with q|q
  ·have:=ha n q;rw[h.hi]at this;cases this
  ·omega
 refine⟨by rw[h.x,hn,BJ],?_⟩;have e:R.length-(n+1)=0:=by omega
 rw[h.H,e];rfl
def HS (b:Bool):List D:=[.v (.bool b)]
structure qm where
 x:ff
 p:ff
 l:List ir
 ss:List Int
 lo:List Bool
 m:List ir
@[reducible] def qm.ok (i:qm):Prop:=(TpI.mk i.x i.p i.l i.ss).ok/\i.lo.length<=9223372036854775807/\(∀c∈i.m,c.raw)/\i.m.length<=9223372036854775807
def KW:gi:=fp qm (λi=>[oe i.x,oD 9 (i.l.map rp),oD 1 (iE i.ss),oD 1 (i.lo.map HS),oD 9 (i.m.map rp)]) (λ_=>[]) (λi=>i.ok) (λ_=>yN ao) (λ_=>[])
structure G9 where
 s:Sb
 o:iq
structure BT where
 x:Es
 o:iq
 d:Dk
 x2:Es
 o2:iq
 d2:Dk
 O:List (Int×fq)
 N:List tY
 O2:List (Int×fq)
 N2:List tY
def stA (i:qm):List gp:=[
 {ι:=vx,dv:=λj=>[(11,.nm 8 0),(12,.nm 0 0),(17,zA j.k)],rows:=λj=>Dy i.p j.x j.o j.d++y5g i.p},
 {ι:=tf,dv:=λj=>[(12,.nm 0 0),(15,.nm 8 0),(18,zA j.k)],rows:=λj=>Dy i.p j.x j.o j.d++sbK 8 i.p j.s j.o2},
 {ι:=tf,dv:=λj=>[(12,.nm 0 0),(15,.nm 8 0),(19,zA j.k)],rows:=λj=>Dy i.p j.x j.o j.d++sbK 8 i.p j.s j.o2},
 {ι:=C4,dv:=λj=>[(11,.nm 8 0),(12,.nm 0 0),(24,.nm 11 0),(26,zA j.k)],rows:=λj=>Dy i.p j.x j.o j.d++y5g i.p++yYq 11 i.p j.x2 j.o2 j.d2},
 {ι:=NA,dv:=λj=>[(28,.nm 0 0),(29,.nm 3 0),(30,zA j.m)],rows:=λj=>[.cells [.own 1,.own 2] Ki,EE j.O,.jc 7 (j.N.map yK),.cells [.own 4,.own 5] Ki,EE j.O2,.jc 7 (j.N2.map yK)]}]
def cpJ (p:ff) (c:Nat):gp:={ι:=G9,oI:=λ_=>[(c,.nm 0 0)],lp:=λj=>EP p j.s j.o,dv:=λ_=>[(c,.nm 0 0)],rows:=λj=>EP p j.s j.o}
def y7z (p:ff):gp:={ι:=BT,oI:=λ_=>[(12,.nm 0 0),(24,.nm 8 0)],lp:=λj=>Dy p j.x j.o j.d++yYq 8 p j.x2 j.o2 j.d2,dv:=λ_=>[(12,.nm 0 0),(24,.nm 8 0),(28,.nm 16 0),(29,.nm 19 0)],rows:=λj=>Dy p j.x j.o j.d++yYq 8 p j.x2 j.o2 j.d2++[.cells [.own 17,.own 18] Ki,EE j.O,IW j.N,.cells [.own 20,.own 21] Ki,EE j.O2,IW j.N2]}
def stJ (i:qm):List (Nat×gp):=[(28,bj 61),(7,gJ i.p 12),(80,bj 118),(23,cpJ i.p 15),(92,bj 161),(104,bj 169),(116,y7z i.p)]
end Sx
