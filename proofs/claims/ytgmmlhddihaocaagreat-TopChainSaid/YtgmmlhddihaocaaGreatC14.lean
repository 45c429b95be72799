/- Texts of ours. No condition. -/
import Derived.Test.YtgmmlhddihaocaaGreatC13
set_option linter.all false
open Sx.ff renaming ja->aa,qq->ab,cells->ac,own->ae
open List renaming map->af,replicate->ag,drop->aj
open Bool renaming true->ak,false->am
open Go.IntKind renaming i64->ao,u8->ap
open Go.Value renaming string->aq
open Int renaming toNat->ar
namespace Sx
set_option maxRecDepth 100000
open Go Cv Go.Proofs
def yQe {n lo hi:Int} (h:lo<=hi):lo<=zG n lo hi/\zG n lo hi<=hi:=by
 have h1:=MK n (show hi-lo+1≠0 by omega);have h2:=Ox n (show 0<hi-lo+1 by omega);rw[zG];constructor<;>omega
open Classical in
open Classical in
def y5i {p:fb} {v w:Vw} (hv:Nk p v) (hw:Nk p w):v.length=w.length/\Vw.o7 v<=100000000/\Vw.o7 w<=100000000/\v.length<=1000000:=by
 have h1:=yGa hv;have h2:=yGa hw;have h3:=hv.r.2;have h4:=hw.r.2;exact⟨by rw[hv.len,hw.len],oM,oM,oM⟩
def y1i (i:Nq) (h:FE.dp i):yMz i:=by
 obtain⟨hR,hB⟩:i.s.fk i.p i.B/\iQ i.p i.B:=h;have vz:=xR i.p;have zj:=hB.bl;have DJ:i.s.oc:=hR.EV oM;have ta:vU (i.B.map kC):=hB.fa;have hll:=WS i.p i.B;unfold yMz fP aE kL fE cK dU v8 zW dI;refine⟨i.p,oA (iM ⟨rfl,hB.ps,λ_ _=>Cv.dp.mk (λc=>absurd hB.pc (by simpa using c)) (λ_=>⟨i.s,rfl,DJ,λ_ _=>⟨i.p,oA (iM ⟨rfl,hB.ps,λ_ _=>⟨0,rfl,rfl,by rw[hR.fa],λj=>j<=i.p.count,λj=>i.p.count-j,my _,λj hj=>zH (λgr=> ?_) (λgr=> ?_)⟩⟩)⟩⟩)⟩)⟩
 ·have gr:j<i.p.count:=by omega
  have td:HB i.B (j:Int)=i.B.getD j []:=by rw[HB,ej (by omega),ow]
  have hq:∀s,(xY ⟨i.p,i.B.map kC,j⟩ s).length<=1000000:=λs=>xw (zLa _ _) Z8
  refine⟨⟨Z8,Z8⟩,1,rfl,⟨i.s,i.p,i.B,j,am⟩,rfl,rfl,rfl,⟨hR,Z9⟩,λ_ _=>⟨⟨⟨i.p,i.B.map kC,j⟩,am⟩,gm (Aa ⟨rfl,⟨hB.ps,ta⟩,λ_ _=>⟨⟨xY ⟨i.p,i.B.map kC,j⟩ 1,1⟩,rfl,rfl,⟨.inl rfl,hq 1⟩,λ_ _=>⟨⟨Z8,Z8⟩,2,rfl,⟨i.s,i.p,i.B,j,ak⟩,rfl,rfl,rfl,⟨hR,Z9⟩,λ_ _=>⟨⟨⟨i.p,i.B.map kC,j⟩,ak⟩,gm (Aa ⟨rfl,⟨hB.ps,ta⟩,λ_ _=>⟨⟨xY ⟨i.p,i.B.map kC,j⟩ 2,2⟩,rfl,rfl,⟨.inr rfl,hq 2⟩,λ_ _=>⟨?_,j+1,qw oM,?_,rfl,Z9,Z9,rfl,gn⟩⟩⟩)⟩⟩⟩⟩)⟩⟩
  ·rw[ia,oe];omega
  ·rw[sm,yEa i.p i.B gr,D0,jk,jo,Ct];dsimp only;rw[td];rfl
 ·have hj:j<=i.p.count:=hj;rw[og (by omega)];exact⟨(),gn⟩
def zYx:FE.ok Tryz.prog 37:=gw mixed (dw lF (dw yQi (dw aH (dw yQq (dw zTl (dw ySa fg)))))) 1 (λ_=>[]) (λi=>y5d i) [] Tryz.func37 y1i
def Vv:Rk.ok Tryz.prog 47:=gw (V:=y3u) mixed (dw z2v fg) 0 (λ_=>[]) (λ_=>[]) [] Tryz.func47 λ(i:uk) h=>⟨i,rfl,rfl,h,λ_ _=>⟨(),rfl,trivial⟩⟩
def zSs:LM.ok Tryz.prog 101:=gw (V:=yXy) mixed fg 0 (λ_=>[]) (λ_=>[]) [] Tryz.func101 λ(g:Gt) _=>⟨(),rfl,rfl,trivial⟩
def z2i:LC.ok Tryz.prog 102:=gw (V:=y0q) mixed fg 0 (λ_=>[]) (λ_=>[]) [] Tryz.func102 λ(m:ic) _=>⟨(),gn⟩
def V1 {p:fb} {B:List (List zI)} (h:tr p B) (U:List Int) (W:List (Int×Int)) (s:Int) (b:List UInt8):iQ p (nP p B U W s b).B:=by
 rw[nP];split
 ·exact h.ok
 split
 ·exact h.ok
 rw[Nu];split
 ·exact h.ok
 split
 ·exact h.ok
 ·exact yVl h U _
def y3b {p:fb} {v w:Vw} (hv:Nk p v) (hw:Nk p w):(j8 0 v w).length<=202000000:=by
 obtain⟨h1,h2,h3,h4⟩:=y5i hv hw;have:=yIc v w v.length (km _) oM;rw[og (km _),og (by omega)]at this;omega
def ved (i:xa) (h:edC.dp i):Ved i:=by
 obtain⟨o0,x,p,s,b⟩:=i;obtain⟨⟨hM,hB⟩,hb,⟨tc,ye⟩,⟨qe,qk⟩,hR⟩:(o0.fk p x.B x.U/\iQ p x.B)/\b.length<=1048576/\(0<=s/\s<8)/\(0<=x.q/\x.q<=1000000000000000000)/\x.R.length<=1000000:=h;have AU:=hM.s.wf hB;have BI:iQ p (x.X p s b).B:=V1 AU _ _ _ _;have O7:((jf s).toNat:Int)=ap.wrap s:=(Sj s).symm;unfold Ved Mi Ze YV Y6 Md Mh;dsimp only;refine⟨trivial,trivial,[[jf s],b],?_,⟨by simp,by simp;omega,by simp⟩,λ_ _=>⟨trivial,trivial,by rw[ia];omega,⟨⟨o0,x.W⟩,p,x.B,x.U,s,b,x.X p s b⟩,rfl,rfl,rfl,⟨⟨hM,hB⟩,Z9,rfl⟩,λo ho=> ?_⟩⟩
 ·show[gi [jf s],gi b]=_;rw[gi,gi,<- O7];rfl
 have hv:=RO AU;have hw:=RO (ho.s.wf BI);obtain⟨g1,g2,g3,g4⟩:=y5i hv hw;have hl:=y3b hv hw;have er:af gi (x.R++[uF s b])=af gi x.R++[[D.ro 1 (bE [[jf s],b].flatten)]]:=by
  rw[jk];simp[gi,uF]
 have eq1:x.q+((x.M p s b).length:Int)=ao.wrap (x.q+(af y3 (wR x.q (x.M p s b))).length):=by
  have:(x.M p s b).length<=202000000:=hl;rw[ia,mJ,ir (by omega)]
 refine⟨⟨⟨o,(x.X p s b).W⟩,rfl,rfl,trivial,λ_ _=>⟨gn,⟨o,gm (nr ⟨rfl,trivial,λ_ _=>⟨gn,?_,gn,?_⟩⟩)⟩,gn,o,rfl,rfl,rfl,rfl,rfl,rfl,rfl,rfl,rfl,rfl,rfl,rfl,rfl,trivial,λ_ _=>⟨gn,?_⟩⟩⟩,trivial,gn,⟨o,(x.X p s b).W⟩,rfl,rfl,trivial,λ_ _=>⟨gn,o,gm (nr ⟨rfl,trivial,λ_ _=>⟨gn,?_⟩⟩)⟩⟩
 all_goals exact⟨⟨o.s,p,(x.X p s b).B⟩,gm (iM ⟨rfl,⟨ho.s,BI⟩,λ_ _=>⟨⟨yQ p x.B,yQ p (x.X p s b).B,x.q⟩,rfl,rfl,rfl,⟨g1,⟨Z9,Z9⟩,g2,g3,g4⟩,λ_ _=>⟨o,gm ⟨rfl,eq1,gm (oA ⟨rfl,er,iM ho⟩)⟩⟩⟩⟩)⟩
def yTb:edC.ok Tryz.prog 51:=gw mixed (dw z7y (dw Rx (dw zSs (dw z2i (dw zYx (dw yJo fg)))))) 0 (λ_=>[]) (λ_=>[]) [] Tryz.func51 ved
structure tq where
 o:ic
 x:Es
 p:fb
 d:Dk
 s:Int
 b:List UInt8
def Dh (p:fb) (x:Es) (o:ic) (d:Dk):List ff:=[GP (x.en p) 4 7,D3 3 x.R.length,iq ⟨o,x.W⟩,iy d,yk x.R,.ja 1 (iE p.dk),.ja 1 (iE p.settle),BR (yQ p x.B)]
@[reducible] def tq.ok (i:tq):Prop:=(i.o.fk i.p i.x.B i.x.U/\iQ i.p i.x.B)/\i.b.length<=254/\(-1<=i.s/\i.s<8)/\(0<=i.x.q/\i.x.q<=1000000000000000000)/\i.x.R.length<=1000000/\i.d.b.length+i.b.length+7<=1048576
def tq.Y (i:tq):Es:=i.x.ed i.p i.s i.b
def tq.N (i:tq):List eL:=wR i.x.q (i.x.M i.p i.s i.b)
def tq.O (i:tq):List (Int×fk):=(i.x.X i.p i.s i.b).O
def tq.D (i:tq):Dk:=⟨i.d.b++xZ (uF i.s i.b),i.d.safe⟩
def Lm:fy where
 ι:=tq
 pat:=λi=>[.nm 0 0,zA i.s,oy 1 (bE i.b)]
 pre:=λi=>Dh i.p i.x i.o i.d
 dp:=λi=>i.ok
 alts:=λi=>[
  {o:=ic,res:=λ_=> .agg [.own 8,ID],post:=λo=>Dh i.p i.x o i.d++[Kr [(i.s,⟨2,0,0,0,0,0,0,(zL i.s i.b).2⟩)]],rel:=λo=>(zL i.s i.b).2≠0/\o.fk i.p i.x.B i.x.U},
  {o:=ic,res:=λ_=> .agg [.own 10,.own 11],post:=λo=>[GP (i.Y.en i.p) 8 9,D3 3 i.Y.R.length,iq ⟨o,i.Y.W⟩,iy i.D,.gone,.ja 1 (iE i.p.dk),.ja 1 (iE i.p.settle),.gone,yk i.Y.R,BR (yQ i.p i.Y.B),Kr i.O,My i.N],rel:=λo=>(zL i.s i.b).2=0/\o.fk i.p i.Y.B i.Y.U}]
def ru (p:fb):Es:=⟨ag p.count [],[],[],0,[]⟩
def wJ (p:fb) (x:Es) (r:List UInt8):Es:=x.ed p (r.headD 0).toNat r.tail
def x6 (p:fb) (L:List (List UInt8)):Es:=L.foldl (wJ p) (ru p)
def Ix (r:List UInt8):Prop:=r≠[]/\(zL (r.headD 0).toNat r.tail).2=0
structure zk where
 p:fb
 s:Nat
 L:List (List UInt8)
 t:List UInt8
def zk.j (i:zk):BM:=⟨i.s,i.L,i.t⟩
@[reducible] def zk.ok (i:zk):Prop:=(i.p.check=0/\i.p.small)/\((Dz.mk i.L i.t).ok/\i.j.d.ok)/\(∀r∈i.L,Ix r)/\i.L.length<=100000
def enK (e:En):ff:= .cells [sV e.p.code,.own 5,zA e.p.tick,zA e.p.low,zA e.p.high,zA e.p.wide,zA e.p.dr,zA e.p.top,zA e.p.least,zA e.p.part,.own 6,.nm 2 0,.nm 3 0,.own 7,zA e.q,.own 4] Eu
def Qp:fy where
 ι:=zk
 pat:=λi=>[nu i.p,.nm 0 0]
 pre:=λi=>[iy i.j.d]
 dp:=λi=>i.ok
 alts:=λi=>[{o:=ic,res:=λ_=> .iW [.nm 1 0,zA 0],post:=λo=>[iy i.j.d',enK ((x6 i.p i.L).en i.p),D3 0 i.L.length,iq ⟨o,(x6 i.p i.L).W⟩,yk (x6 i.p i.L).R,.ja 1 (iE i.p.dk),.ja 1 (iE i.p.settle),BR (yQ i.p (x6 i.p i.L).B)],rel:=λo=>o.fk i.p (x6 i.p i.L).B (x6 i.p i.L).U}]
structure Nr where
 o:ic
 x:Es
 k:Nat
def y7u (i:zk):List gj:=[{ι:=Nr,du:=λj=>[(6,.nm 2 0),(10,.nm 0 0),(48,.own 8),(50,zA j.k)],rows:=λj=>[GP (j.x.en i.p) 4 7,D3 3 i.L.length,iq ⟨j.o,j.x.W⟩,iy i.j.d',yk j.x.R,.ja 1 (iE i.p.dk),.ja 1 (iE i.p.settle),BR (yQ i.p j.x.B),yk i.L]}]
noncomputable def Qo:fy:=fj En (λ_=>[.nm 0 0]) (λe=>[GP e 4 7,.gone,.gone,.gone,.gone,.gone,.gone,BR e.v]) (λe=>Mu e.v) (λe=>oy 1 (bE (dS e.v e.q))) (λe=>[GP e 4 7,.gone,.gone,.gone,.gone,.gone,.gone,BR e.v])
structure HF where
 e:En
 n:Int
def JU:fy where
 ι:=HF
 pat:=λi=>[.nm 0 0,zA i.n]
 pre:=λi=>[GP i.e 4 7,.gone,.gone,.gone,yk i.e.R,.gone,.gone,.gone]
 dp:=λi=>i.e.R.length<=1000000/\∀r∈i.e.R,r.length<=1048576
 alts:=λi=>[
  {o:=Unit,res:=λ_=> .iW [oy 1 (bE (i.e.R.getD i.n.toNat [])),yL ak],post:=λ_=>[GP i.e 4 7,.gone,.gone,.gone,yk i.e.R,.gone,.gone,.gone],rel:=λ_=>0<=i.n/\i.n<i.e.R.length},
  {o:=Unit,res:=λ_=> .iW [ID,yL am],post:=λ_=>[GP i.e 4 7,.gone,.gone,.gone,yk i.e.R,.gone,.gone,.gone],rel:=λ_=>¬(0<=i.n/\i.n<i.e.R.length)}]
def SR (a:xa):Prop:=(a.o.fk a.p a.x.B a.x.U/\iQ a.p a.x.B)/\a.b.length<=1048576/\(0<=a.s/\a.s<8)/\(0<=a.x.q/\a.x.q<=1000000000000000000)/\a.x.R.length<=1000000
def jW (a:tq):=(af yG (yQ a.p (a.x.X a.p a.s a.b).B))
def kX (a:tq):=(a.x.R++[uF a.s a.b])
def jS (a:tq):=(↑(kX a).length:Int)
def jO (a:tq):=(↑(a.x.M a.p a.s a.b).length:Int)
def xQ (a:tq):=(af yG (yQ a.p a.x.B))
def jV (a:ic) (b:tq):=(Gt.mk a (b.x.X b.p b.s b.b).W)
def y2s (i:tq):Prop:=
 ∃(a:uk),a.s=i.s/\bE a.b=bE i.b/\a.b.length<=1099511627776/\∀(b:Unit),True->dp ((zL a.s a.b).snd !=0) (∃(c:AZ),c.s=i.s/\bE c.b=bE i.b/\iq c.g=iq (Gt.mk i.o i.x.W)/\(Mi c)/\∀(d:ic),d.fk c.p c.X.B c.X.U->(∃(e:ic),True/\di (sb i.p.code)/\di i.p.tick/\di i.p.low/\di i.p.high/\di i.p.wide/\di i.p.dr/\di i.p.top/\di i.p.least/\di i.p.part/\di i.x.q/\di ((↑i.x.R.length:Int))/\iq (Gt.mk e i.x.W)=iq (Gt.mk d c.X.W)/\di (iy i.d)/\di (af gi i.x.R)/\di (aa 1 (iE i.p.dk))/\di (aa 1 (iE i.p.settle))/\aa 10 (xQ i)=BR (yQ i.p i.x.B)/\[jB (i.s,fk.mk 2 0 0 0 0 0 0 (zL i.s i.b).snd)]=af jB c.X.O/\(zL i.s i.b).snd≠0/\e.fk i.p i.x.B i.x.U)\/(∃(e:ic),di (sb i.p.code)/\di i.p.tick/\di i.p.low/\di i.p.high/\di i.p.wide/\di i.p.dr/\di i.p.top/\di i.p.least/\di i.p.part/\i.x.q+(jO i)=i.x.q/\(jS i)=(↑i.x.R.length:Int)/\iq (jV e i)=iq (Gt.mk d c.X.W)/\iy i.D=iy i.d/\di (aa 1 (iE i.p.dk))/\di (aa 1 (iE i.p.settle))/\af gi (kX i)=af gi i.x.R/\aa 10 (jW i)=BR (yQ i.p i.x.B)/\af jB i.O=af jB c.X.O/\af y3 i.N=[]/\(zL i.s i.b).snd=0/\e.fk i.p (i.x.X i.p i.s i.b).B (i.x.X i.p i.s i.b).U)) (True/\True/\∃(c:List (List UInt8)),af gi c=[[D.ro 1 [[D.v (.int .u8 (ap.wrap i.s))]]],[D.ro 1 (bE i.b)]]/\(1<=c.flatten.length/\c.flatten.length<=1099511627776/\c.length<=1000)/\∀(d:Unit),True->True/\∃(e:Jm),bE e.l=bE c.flatten/\e.n=(↑i.x.R.length:Int)/\iy e.d=iy i.d/\(e.l.length<=255/\e.d.b.length+e.l.length+(6:Nat)<=(1048576:Nat)/\0<=e.n/\e.n<=1048576)/\∀(f:Unit),True->∃(g:xa),g.s=i.s/\bE g.b=bE i.b/\sb g.p.code=sb i.p.code/\g.p.tick=i.p.tick/\g.p.low=i.p.low/\g.p.high=i.p.high/\g.p.wide=i.p.wide/\g.p.dr=i.p.dr/\g.p.top=i.p.top/\g.p.least=i.p.least/\g.p.part=i.p.part/\g.x.q=i.x.q/\iq g.g=iq (Gt.mk i.o i.x.W)/\af gi g.x.R=af gi i.x.R/\aa 1 (iE g.p.dk)=aa 1 (iE i.p.dk)/\aa 1 (iE g.p.settle)=aa 1 (iE i.p.settle)/\aa 10 (af yG (yQ g.p g.x.B))=BR (yQ i.p i.x.B)/\(SR g)/\∀(h:ic),h.fk g.p (g.x.X g.p g.s g.b).B (g.x.X g.p g.s g.b).U->(∃(j:ic),False)\/(∃(j:ic),sb i.p.code=sb g.p.code/\i.p.tick=g.p.tick/\i.p.low=g.p.low/\i.p.high=g.p.high/\i.p.wide=g.p.wide/\i.p.dr=g.p.dr/\i.p.top=g.p.top/\i.p.least=g.p.least/\i.p.part=g.p.part/\i.x.q+(jO i)=g.x.q+(↑(g.x.M g.p g.s g.b).length:Int)/\(jS i)=e.n+1/\iq (jV j i)=iq (Gt.mk h (g.x.X g.p g.s g.b).W)/\iy i.D=iy (Dk.mk (e.d.b++xZ e.l) e.d.safe)/\aa 1 (iE i.p.dk)=aa 1 (iE g.p.dk)/\aa 1 (iE i.p.settle)=aa 1 (iE g.p.settle)/\af gi (kX i)=af gi (g.x.R++[uF g.s g.b])/\aa 10 (jW i)=aa 10 (Md g)/\af jB i.O=af jB g.O/\af y3 i.N=af y3 g.N/\(zL i.s i.b).snd=0/\j.fk i.p (i.x.X i.p i.s i.b).B (i.x.X i.p i.s i.b).U))
def pI (a:zk):Prop:=sb a.p.code=sb a.p.code/\True/\di a.p.tick/\di a.p.low/\di a.p.high/\di a.p.wide/\di a.p.dr/\di a.p.top/\di a.p.least/\di a.p.part/\True/\True
def VE (a:BM):Prop:=((∀(b:List UInt8),b∈a.L->b.length<=255)/\(Bv a.t).snd.snd=10/\(mu a.L).length+a.t.length<=1048576)/\a.s<=(mu a.L++a.t).length/\(mu a.L++a.t).length<=1048576
def vI (a:zk):=(af yG (yQ a.p (x6 a.p a.L).B))
def y3y (i:zk):Prop:=
 ∃(a:fb),sb a.code=sb i.p.code/\iE a.dk=iE i.p.dk/\a.tick=i.p.tick/\a.low=i.p.low/\a.high=i.p.high/\a.wide=i.p.wide/\a.dr=i.p.dr/\a.top=i.p.top/\a.least=i.p.least/\a.part=i.p.part/\iE a.settle=iE i.p.settle/\(zW a)/\(∀(b:Unit),a.check=0->∃(c:BM),iy c.d=iy i.j.d/\(VE c)/\∀(d:Unit),True->∃(e:List Int),iE e=iE i.p.dk/\e.length<=1000000/\∀(f:Unit),True->True/\∃(g:List Int),iE g=iE i.p.settle/\g.length<=1000000/\∀(h:Unit),True->∃(j:Gt),jR j.m=jR (ic.mk a (bL a) [])/\xK j.W=xK []/\True/\∀(k:Unit),True->(pI i)/\(pI i)/\∃(l:ic),sb l.p.code=sb j.m.p.code/\l.p.tick=j.m.p.tick/\l.p.low=j.m.p.low/\l.p.high=j.m.p.high/\l.p.wide=j.m.p.wide/\l.p.dr=j.m.p.dr/\l.p.top=j.m.p.top/\l.p.least=j.m.p.least/\l.p.part=j.m.p.part/\zE l.s=zE j.m.s/\zX l.used=zX j.m.used/\aa 1 (iE l.p.dk)=aa 1 (iE j.m.p.dk)/\aa 1 (iE l.p.settle)=aa 1 (iE j.m.p.settle)/\True/\∀(m:Unit),True->(pI i)/\(pI i)/\∃(n:Nq),sb n.p.code=sb i.p.code/\iE n.p.dk=iE e/\n.p.tick=i.p.tick/\n.p.low=i.p.low/\n.p.high=i.p.high/\n.p.wide=i.p.wide/\n.p.dr=i.p.dr/\n.p.top=i.p.top/\n.p.least=i.p.least/\n.p.part=i.p.part/\iE n.p.settle=iE g/\zE n.s=zE l.s/\(n.s.fk n.p n.B/\iQ n.p n.B)/\∀(p:Unit),True->(pI i)/\∃(q:Nr),(↑q.k:Int)=0/\di (sb i.p.code)/\di i.p.tick/\di i.p.low/\di i.p.high/\di i.p.wide/\di i.p.dr/\di i.p.top/\di i.p.least/\di i.p.part/\q.x.q=0/\(↑i.L.length:Int)=(↑c.L.length:Int)/\sb q.o.p.code=sb l.p.code/\q.o.p.tick=l.p.tick/\q.o.p.low=l.p.low/\q.o.p.high=l.p.high/\q.o.p.wide=l.p.wide/\q.o.p.dr=l.p.dr/\q.o.p.top=l.p.top/\q.o.p.least=l.p.least/\q.o.p.part=l.p.part/\zE q.o.s=zE n.s/\zX q.o.used=zX l.used/\aa 1 (iE q.o.p.dk)=aa 1 (iE l.p.dk)/\aa 1 (iE q.o.p.settle)=aa 1 (iE l.p.settle)/\xK q.x.W=xK j.W/\iy i.j.d'=iy c.d'/\af gi q.x.R=[]/\aa 1 (iE i.p.dk)=aa 1 (iE e)/\aa 1 (iE i.p.settle)=aa 1 (iE g)/\af yG (yQ i.p q.x.B)=af yG (yQ n.p n.B)/\af gi i.L=af gi c.L/\∃(r:Nr->Prop),∃(s:Nr->Nat),r q/\∀(t:Nr),r t->dp (decide ((↑t.k:Int)<(↑(af gi c.L).length:Int))) ((0<=(↑t.k:Int)/\(↑t.k:Int)<(↑(af gi i.L).length:Int))/\∃(u:List (List D)),zD (af gi i.L) (↑t.k:Int).toNat 0 1=some [D.ro 1 u]/\dp ((↑u.length:Int)==0) (∃(v:ic),False) (((0:Int)<=(0:Int)/\0<(↑u.length:Int))/\∃(v:Int),zD u (ar 0) 0 1=some [D.v (.int .u8 v)]/\((0:Int)<=(1:Int)/\1<=(↑u.length:Int))/\∃(w:uk),w.s=ao.wrap v/\bE w.b=aj (ar 1) u/\w.b.length<=1099511627776/\∀(x:Unit),True->dp ((zL w.s w.b).snd !=0) (∃(y:ic),False) (((0:Int)<=(0:Int)/\0<(↑u.length:Int))/\∃(y:Int),zD u (ar 0) 0 1=some [D.v (.int .u8 y)]/\((0:Int)<=(1:Int)/\1<=(↑u.length:Int))/\∃(z:xa),z.s=ao.wrap y/\bE z.b=aj (ar 1) u/\sb z.p.code=sb i.p.code/\z.p.tick=i.p.tick/\z.p.low=i.p.low/\z.p.high=i.p.high/\z.p.wide=i.p.wide/\z.p.dr=i.p.dr/\z.p.top=i.p.top/\z.p.least=i.p.least/\z.p.part=i.p.part/\z.x.q=t.x.q/\iq z.g=iq (Gt.mk t.o t.x.W)/\af gi z.x.R=af gi t.x.R/\aa 1 (iE z.p.dk)=aa 1 (iE i.p.dk)/\aa 1 (iE z.p.settle)=aa 1 (iE i.p.settle)/\aa 10 (af yG (yQ z.p z.x.B))=aa 10 (af yG (yQ i.p t.x.B))/\(SR z)/\∀(jb:ic),jb.fk z.p (z.x.X z.p z.s z.b).B (z.x.X z.p z.s z.b).U->∃(oZ:Nr),(↑oZ.k:Int)=ao.wrap ((↑t.k:Int)+1)/\sb i.p.code=sb z.p.code/\i.p.tick=z.p.tick/\i.p.low=z.p.low/\i.p.high=z.p.high/\i.p.wide=z.p.wide/\i.p.dr=z.p.dr/\i.p.top=z.p.top/\i.p.least=z.p.least/\i.p.part=z.p.part/\oZ.x.q=z.x.q+(↑(z.x.M z.p z.s z.b).length:Int)/\di ((↑i.L.length:Int))/\iq (Gt.mk oZ.o oZ.x.W)=iq (Gt.mk jb (z.x.X z.p z.s z.b).W)/\di (iy i.j.d')/\af gi oZ.x.R=af gi (z.x.R++[uF z.s z.b])/\aa 1 (iE i.p.dk)=aa 1 (iE z.p.dk)/\aa 1 (iE i.p.settle)=aa 1 (iE z.p.settle)/\aa 10 (af yG (yQ i.p oZ.x.B))=aa 10 (Md z)/\di (af gi i.L)/\r oZ/\s oZ<s t/\di (aa 1 (iE l.p.dk))/\di (aa 1 (iE l.p.settle))/\di (aa 1 (iE j.m.p.dk))/\di (aa 1 (iE j.m.p.settle))/\di (aa 1 (iE g))/\di (aa 1 (iE e))/\di (ac [V.d (D.v (aq (sb i.p.code))),V.own 7,V.d (dI i.p.tick),V.d (dI i.p.low),V.d (dI i.p.high),V.d (dI i.p.wide),V.d (dI i.p.dr),V.d (dI i.p.top),V.d (dI i.p.least),V.d (dI i.p.part),V.own 8] 25)/\di (aa 1 (iE i.p.settle))/\di (aa 1 (iE i.p.dk))))) (∃(u:ic),di ((0:Int))/\di (iy i.j.d')/\di (sb i.p.code)/\di i.p.tick/\di i.p.low/\di i.p.high/\di i.p.wide/\di i.p.dr/\di i.p.top/\di i.p.least/\di i.p.part/\(x6 i.p i.L).q=t.x.q/\di ((↑i.L.length:Int))/\iq (Gt.mk u (x6 i.p i.L).W)=iq (Gt.mk t.o t.x.W)/\af gi (x6 i.p i.L).R=af gi t.x.R/\di (aa 1 (iE i.p.dk))/\di (aa 1 (iE i.p.settle))/\aa 10 (vI i)=aa 10 (af yG (yQ i.p t.x.B))/\u.fk i.p (x6 i.p i.L).B (x6 i.p i.L).U))/\∀(b:Unit),a.check≠0->dp (a.check !=0) (∃(c:ic),False) (∃(c:BM),iy c.d=iy i.j.d/\(VE c)/\∀(d:Unit),True->∃(e:List Int),iE e=iE i.p.dk/\e.length<=1000000/\∀(f:Unit),True->True/\∃(g:List Int),iE g=iE i.p.settle/\g.length<=1000000/\∀(h:Unit),True->∃(j:Gt),False)
def y7z (e:En):Prop:=
 ∃(i:Gj),af yG i.v=af yG e.v/\i.seq=e.q/\(List.length i.v<=1099511627776/\∀(b:Sd×Sd),b∈i.v->b.fst.levels.length<=1099511627776/\b.snd.levels.length<=1099511627776)/\∀(o:Unit),True->∃(o:Unit),bE (dS e.v e.q)=bE (dS i.v i.seq)/\di (sb e.p.code)/\di e.p.tick/\di e.p.low/\di e.p.high/\di e.p.wide/\di e.p.dr/\di e.p.top/\di e.p.least/\di e.p.part/\e.q=e.q/\aa 10 (af yG e.v)=BR e.v/\True
def W6 (a:HF):Prop:=sb a.e.p.code=sb a.e.p.code/\di a.e.p.tick/\di a.e.p.low/\di a.e.p.high/\di a.e.p.wide/\di a.e.p.dr/\di a.e.p.top/\di a.e.p.least/\di a.e.p.part/\di a.e.q/\di (af gi a.e.R)/\0<=a.n/\a.n<(↑a.e.R.length:Int)
def WV (a:HF):Prop:=∃(b:Unit),bE (a.e.R.getD a.n.toNat [])=[]/\ak=am/\W6 a
def XH (a:HF):Prop:=sb a.e.p.code=sb a.e.p.code/\di a.e.p.tick/\di a.e.p.low/\di a.e.p.high/\di a.e.p.wide/\di a.e.p.dr/\di a.e.p.top/\di a.e.p.least/\di a.e.p.part/\di a.e.q/\di (af gi a.e.R)/\(0<=a.n/\a.n<(↑a.e.R.length:Int)->False)
def XI (a:HF):Prop:=∃(b:Unit),True/\am=am/\XH a
def yVf (i:HF):Prop:=
 dp (decide (i.n<0)) ((WV i)\/(XI i)) (dp (decide (i.n>=(↑(af gi i.e.R).length:Int))) ((WV i)\/(XI i)) ((0<=i.n/\i.n<(↑(af gi i.e.R).length:Int))/\∃(a:List (List D)),zD (af gi i.e.R) i.n.toNat 0 1=some [D.ro 1 a]/\∃(b:List (List D)),b=a/\b.length*(1:Nat)<=(140737488355328:Nat)/\∀(c:Unit),True->(∃(d:Unit),bE (i.e.R.getD i.n.toNat [])=b/\ak=ak/\W6 i)\/(∃(d:Unit),False/\am=ak/\XH i)))
def Kc {s:Int} {b:List UInt8} (h:(zL s b).2=0):0<=s/\s<8:=by
 rw[zL]at h;split at h
 ·cases h
 ·omega
def y6o (i:tq) (h:Lm.dp i):y2s i:=by
 obtain⟨o0,x,p,d,s,b⟩:=i;obtain⟨⟨hM,hB⟩,hb,⟨tc,ye⟩,⟨qe,qk⟩,hR,hd⟩:(o0.fk p x.B x.U/\iQ p x.B)/\b.length<=254/\(-1<=s/\s<8)/\(0<=x.q/\x.q<=1000000000000000000)/\x.R.length<=1000000/\d.b.length+b.length+7<=1048576:=h;have O7:((jf s).toNat:Int)=ap.wrap s:=(Sj s).symm;unfold y2s Md Mi jV xQ jO jS kX jW SR;dsimp only;refine⟨⟨s,b⟩,rfl,rfl,Z9,λ_ _=>Cv.dp.mk (λe=> ?_) (λe=> ?_)⟩
 ·have e:(zL s b).2≠0:=by simpa using e
  exact⟨⟨⟨o0,x.W⟩,p,x.B,x.U,s,b,MD x.B x.U x.W s 0 (zL s b).2⟩,rfl,rfl,rfl,⟨⟨hM,hB⟩,Z9,by dsimp only;rw[zUo,fc e]⟩,λo ho=> .inl ⟨o,trivial,gm (ma (iM ⟨rfl,e,ho⟩))⟩⟩
 ·have e:(zL s b).2=0:=by simpa using e
  have hs:=Kc e;refine⟨trivial,trivial,[[jf s],b],?_,⟨by simp,by simp;omega,by simp⟩,λ_ _=>⟨trivial,⟨d,x.R.length,uF s b⟩,by simp[uF],rfl,rfl,⟨by simp[uF];omega,by simp[uF];omega,Z9,Z9⟩,λ_ _=>⟨⟨o0,x,p,s,b⟩,gm (gm ⟨rfl,⟨⟨hM,hB⟩,Z9,hs,⟨qe,qk⟩,hR⟩,λo ho=> .inr ⟨o,ma (iM ⟨rfl,by simp,oA ⟨rfl,e,ho⟩⟩)⟩⟩)⟩⟩⟩;show[gi [jf s],gi b]=_;rw[gi,gi,<- O7];rfl
def Cm:Lm.ok Tryz.prog 10:=gw mixed (dw Vv (dw Rx (dw z7y (dw yQd (dw yTb fg))))) 0 (λ_=>[]) (λ_=>[]) [] Tryz.func10 y6o
def yGl {p:fb} {L:List (List UInt8)} {k:Nat} {r:List UInt8} (h:L[k]? =some r):x6 p (L.take (k+1))=wJ p (x6 p (L.take k)) r:=by
 rw[sm,h,D0,x6,IP];rfl
def NX {p:fb} {x:Es} {o:ic} (hM:o.fk p x.B x.U) (hB:iQ p x.B) (s:Int) (b:List UInt8) {o2:ic} (ho:o2.fk p (x.X p s b).B (x.X p s b).U):
 iQ p (x.ed p s b).B/\x.q<=(x.ed p s b).q/\(x.ed p s b).q<=x.q+202000000/\(x.ed p s b).R.length=x.R.length+1:=by
 have AU:=hM.s.wf hB;have BI:iQ p (x.X p s b).B:=V1 AU _ _ _ _;have:(x.M p s b).length<=202000000:=y3b (RO AU) (RO (ho.s.wf BI));refine⟨BI,?_,?_,?_⟩
 ·show x.q<=x.q+((x.M p s b).length:Int);omega
 ·show x.q+((x.M p s b).length:Int)<=_;omega
 ·show(x.R++[uF s b]).length=_;rw[im];rfl
def y8c (i:zk) (h:Qp.dp i):y3y i:=by
 obtain⟨p,s,L,t⟩:=i;obtain⟨⟨hc,ua⟩,⟨hs,hd⟩,hr,hl⟩:(p.check=0/\p.small)/\((Dz.mk L t).ok/\(BM.mk s L t).d.ok)/\(∀r∈L,Ix r)/\L.length<=100000:=h;have KU:iQ p (ag p.count []):=iQ.new hc ua;have hM0:=yBh p;have m6:=(qR hc).m6;have sl:=(qR hc).s1;have Ab:(L.map gi).length=L.length:=ia _;unfold y3y vI VE pI Md SR zW dI;dsimp only;refine⟨p,oA (iM ⟨rfl,ua,λ_ _=>⟨⟨s,L,t⟩,rfl,⟨hs,hd⟩,λ_ _=>⟨p.dk,rfl,oM,λ_ _=>⟨trivial,p.settle,rfl,oM,λ_ _=>⟨⟨M1 p,[]⟩,rfl,rfl,trivial,λ_ _=>⟨gn,gn,M1 p,gm (nr ⟨rfl,trivial,λ_ _=>⟨gn,gn,⟨(M1 p).s,p,ag p.count []⟩,gm (iM ⟨rfl,⟨hM0.s,KU⟩,λ_ _=>⟨gn,⟨M1 p,ru p,0⟩,gm (gm (gm (oA ⟨rfl,λj=>(j.k<=L.length/\j.x=x6 p (L.take j.k))/\(j.o.fk p j.x.B j.x.U/\iQ p j.x.B)/\(0<=j.x.q/\j.x.q<=202000000*(j.k:Int))/\j.x.R.length=j.k,λj=>L.length-j.k,⟨⟨my _,rfl⟩,⟨hM0,KU⟩,⟨yg _,yg _⟩,rfl⟩,?_⟩)))⟩⟩)⟩⟩)⟩⟩⟩⟩⟩,λ_ je=>absurd hc je⟩)⟩;rintro⟨o,x,k⟩ ⟨⟨hk,hx⟩,⟨hM,hB⟩,⟨qe,qk⟩,hR⟩;dsimp only at hk hx hM hB qe qk hR ⊢;refine zH (λgr=> ?_) (λgr=> ?_)
 ·obtain⟨r,I6⟩:=z7 (l:=L) (i:=k) oM;have D9:=lr I6;obtain⟨je,wo⟩:=hr r D9;have Q0:=hs.1 r D9;obtain⟨c,b,rfl⟩:∃c b,r=c::b:=by
   cases r with
   |nil=>exact absurd rfl je
   |cons c b=>exact⟨c,b,rfl⟩
  have wo:(zL (c.toNat:Int) b).2=0:=wo;have Pp:=Kc wo;have wc:ao.wrap (c.toNat:Int)=c.toNat:=ir oM;rw[iD]at Q0;refine⟨⟨oM,oM⟩,bE (c::b),NN I6,Cv.dp.mk (λe=>by have e:=beq_iff_eq.1 e;rw[yH,iD]at e;omega) (λ_=>⟨⟨Z8,by rw[yH,iD];omega⟩,c.toNat,wQ rfl,⟨Z8,by rw[yH,iD];omega⟩,⟨c.toNat,b⟩,wc.symm,rfl,Z9,λ_ _=>Cv.dp.mk (λe=>by simp[wo]at e) (λ_=>⟨⟨Z8,by rw[yH,iD];omega⟩,c.toNat,wQ rfl,⟨Z8,by rw[yH,iD];omega⟩,⟨o,x,p,c.toNat,b⟩,wc.symm,gm (oA ⟨rfl,⟨⟨hM,hB⟩,Z9,Pp,⟨qe,Z9⟩,Z9⟩,λo2 ho=> ?_⟩)⟩)⟩)⟩;obtain⟨t1,t2,t3,t4⟩:=NX hM hB (c.toNat:Int) b ho;exact⟨⟨o2,x.ed p c.toNat b,k+1⟩,qw oM,gm (ma (iM ⟨rfl,⟨⟨Z9,by dsimp only;rw[yGl I6,<- hx];rfl⟩,⟨ho,t1⟩,⟨Z9,Z9⟩,Z9⟩,Z9,gn⟩))⟩
 ·obtain rfl:k=L.length:=by omega
  rw[By]at hx;subst hx;exact⟨o,by repeat'(first|exact rfl|exact hM|apply And.intro)⟩
def YW:Qp.ok Tryz.prog 42:=gw mixed (dw z9d (dw y1g (dw zUr (dw zLc (dw zSs (dw z2i (dw zYx (dw Vv (dw yTb fg))))))))) 0 (λ_=>[]) (λi=>y7u i) [] Tryz.func42 y8c
def LO:Qo.ok Tryz.prog 27:=gw (V:=y7z) mixed (dw y0o fg) 0 (λ_=>[]) (λ_=>[]) [] Tryz.func27 λ(e:En) h=>⟨⟨e.v,e.q⟩,rfl,rfl,h,λ_ _=>⟨(),gn⟩⟩
def Ig:JU.ok Tryz.prog 22:=gw (V:=yVf) mixed (dw zNz fg) 0 (λ_=>[]) (λ_=>[]) [] Tryz.func22 λ(i:HF) h=>by
 obtain⟨h1,h2⟩:i.e.R.length<=1000000/\∀r∈i.e.R,r.length<=1048576:=h;unfold yVf XI XH WV W6;rw[ia];refine zH (λc=> .inr ⟨(),trivial,gm (nr oM)⟩) (λc=>zH (λc2=> .inr ⟨(),trivial,gm (nr oM)⟩) (λc2=> ?_));obtain⟨r,hr⟩:=z7 (l:=i.e.R) (i:=i.n.toNat) oM;have hg:i.e.R.getD i.n.toNat []=r:=by rw[np,hr];rfl
 have hl:=h2 r (lr hr);refine⟨⟨oM,oM⟩,bE r,NN hr,_,rfl,by rw[yH];omega,λ_ _=> .inl ⟨(),by rw[hg],gm (iM ⟨rfl,oM,oM⟩)⟩⟩
@[reducible] def Z6:Nat:=40
structure o5 where
 x:Es
 o:ic
 d:Dk
 O:List (Int×fk)
 N:List eL
def y8e (p:fb) (j:o5):List ff:=Dh p j.x j.o j.d++[.cells [.own 9,.own 10] Z6,Kr j.O,My j.N]
def doJ (p:fb) (e a:Nat):gj:={ι:=o5,oP:=λ_=>[(e,.nm 0 0)],lp:=λj=>Dh p j.x j.o j.d,du:=λj=>[(e,.nm 0 0),(a,.nm 8 0)],rows:=y8e p}
def TR (p:fb):List ff:=[.cells [sV p.code,.own 9,zA p.tick,zA p.low,zA p.high,zA p.wide,zA p.dr,zA p.top,zA p.least,zA p.part,.own 10] 25,.ja 1 (iE p.dk),.ja 1 (iE p.settle)]
def yQk {t:wz} (h:0<=t.i/\t.i<=1000000):1<=(yZ t).id/\(yZ t).id<=1099511627776:=by
 have:0<=zG t.c.id 0 30/\zG t.c.id 0 30<=30:=by rw[zG];omega
 rw[yZ];split
 ·dsimp only;omega
 ·simp only[y6];omega
def yKj {x:fb} {c:ib} {k:Nat} (hk:k<=1000000):(yZ ⟨gy x,c,k⟩).right=0:=by
 have:=z6d x c k (yZ ⟨gy x,c,k⟩).id (yQk Z9);exact this
def U7 {c:ib} (h:c.right=0) (hl:c.label=[]):c.enc.length<=100:=by
 have e:c.enc=jf c.kind::(le c.id 8++c.tail):=by rw[ib.enc,ej (by simp[h])]
 have ht:c.tail.length<=60:=by
  rw[ib.tail];split
  ·simp only[iD,im,xH,l9,hl,oe,tp];omega
  split
  ·rw[xH];omega
  split
  ·rw[im,xH,xH];omega
  ·exact my _
 rw[e,iD,im,xH];omega
def yNj (p:fb) (B:List (List zI)) (U:List Int) (c:ib):∃r l,(AJ p B U c).R=r::l/\(r.kind=2->(AJ p B U c).B=B):=by
 rw[AJ];split
 ·exact⟨_,_,rfl,λ_=>rfl⟩
 split
 ·rw[nW]
  iterate 5 (split;·exact⟨_,_,rfl,λ_=>rfl⟩)
  obtain⟨r,l,h1,h2,_⟩:=(zYz p B U c).2;exact⟨r,l,h1,λe=>by omega⟩
 split
 ·exact⟨_,_,rfl,λ_=>rfl⟩
 split
 ·rw[f9];split
  ·exact⟨_,_,rfl,λ_=>rfl⟩
  split
  ·rw[bW];exact⟨_,_,rfl,λe=>by simp at e⟩
  split
  ·exact⟨_,_,rfl,λ_=>rfl⟩
  rw[uT];exact⟨_,_,rfl,λe=>by simp at e⟩
 split
 ·rw[uT];exact⟨_,_,rfl,λe=>by simp at e⟩
 ·rw[bW];exact⟨_,_,rfl,λe=>by simp at e⟩
def z7b (p:fb) (B:List (List zI)) (U:List Int) (W:List (Int×Int)) (s:Int) (b:List UInt8):∃o l,(nP p B U W s b).O=o::l/\(o.2.kind=2->(nP p B U W s b).B=B):=by
 rw[nP];split
 ·exact⟨_,_,rfl,λ_=>rfl⟩
 split
 ·exact⟨_,_,rfl,λ_=>rfl⟩
 rw[Nu];split
 ·exact⟨_,_,rfl,λ_=>rfl⟩
 split
 ·exact⟨_,_,rfl,λ_=>rfl⟩
 obtain⟨r,l,h1,h2⟩:=yNj p B U (xJ b).1;dsimp only;rw[h1];dsimp only[lG];refine⟨_,_,rfl,λe=>h2 ?_⟩;exact e
def yJs (x:Es) (p:fb) (s:Int) (b:List UInt8):∃o l,(x.X p s b).O=o::l/\(o.2.kind=2->x.M p s b=[]):=by
 obtain⟨o,l,h1,h2⟩:=z7b p x.B x.U x.W s b;refine⟨o,l,h1,λe=> ?_⟩;rw[Es.M,Es.X,h2 e];exact z8x 0 _
structure Cj (p:fb) (x:Es) (d:Dk) (j:o5):Prop where
 r:j.o.fk p j.x.B j.x.U
 ok:iQ p j.x.B
 q1:x.q<=j.x.q
 q2:j.x.q<=x.q+202000000
 n:j.x.R.length<=x.R.length+1
 d:j.d.b.length<=d.b.length+107
 m:∃M:List VM,j.N=wR x.q M/\j.x.q=x.q+(M.length:Int)
 t:∃o l,j.O=o::l/\(o.2.kind=2->j.N=[])
def Cj.bad {p:fb} {x:Es} {d:Dk} {o:ic} (h1:o.fk p x.B x.U) (h2:iQ p x.B) (s w:Int):Cj p x d ⟨x,o,d,[(s,⟨2,0,0,0,0,0,0,w⟩)],[]⟩:=
 ⟨h1,h2,yg _,Z9,Z9,Z9,⟨[],rfl,by simp⟩,⟨_,_,rfl,λ_=>rfl⟩⟩
def Cj.tj {p:fb} {x:Es} {d:Dk} {o o2:ic} (h1:o.fk p x.B x.U) (h2:iQ p x.B) {s:Int} {b:List UInt8} (hb:b.length<=100) (h3:o2.fk p (x.X p s b).B (x.X p s b).U):
 Cj p x d ⟨x.ed p s b,o2,⟨d.b++xZ (uF s b),d.safe⟩,(x.X p s b).O,wR x.q (x.M p s b)⟩:=by
 obtain⟨t1,t2,t3,t4⟩:=NX h1 h2 s b h3;refine⟨h3,t1,t2,t3,Z9,?_,⟨_,rfl,rfl⟩,?_⟩
 ·dsimp only;rw[im,uB,uF,iD];omega
 ·obtain⟨o,l,e1,e2⟩:=yJs x p s b;exact⟨o,l,e1,λe=>by rw[e2 e];rfl⟩
def Fv:fy:=fj (List eL) (λM=>[oy 7 (M.map y3),oy 7 (M.map y3)]) (λ_=>[]) (λM=>M.length<=1099511627776) (λ_=>yL ak) (λ_=>[])
def yWa:List gj:=[{ι:=Nat,du:=λk=>[(5,zA k)],rows:=λ_=>[]}]
def ZQ (k:Nat) (p:fb) (x:Es) (o:ic) (d:Dk):List ff:=[.cells [sV p.code,.own (k+5),zA p.tick,zA p.low,zA p.high,zA p.wide,zA p.dr,zA p.top,zA p.least,zA p.part,.own (k+6),.nm (k+1) 0,.nm (k+2) 0,.own (k+7),zA x.q,.own (k+4)] Eu,D3 (k+3) x.R.length,iq ⟨o,x.W⟩,iy d,yk x.R,.ja 1 (iE p.dk),.ja 1 (iE p.settle),BR (yQ p x.B)]
def gJ (p:fb) (e:Nat):gj:={ι:=o5,oP:=λ_=>[(e,.nm 0 0)],lp:=λj=>Dh p j.x j.o j.d,du:=λ_=>[(e,.nm 0 0)],rows:=λj=>Dh p j.x j.o j.d}
def cN (a:List eL):=(↑(af y3 a).length:Int)
def yJq (M:List eL):Prop:=
 dp ((cN M) !=(cN M)) (∃(a:Unit),ak=am/\True) (∃(a:Nat),(↑a:Int)=0/\∃(b:Nat->Prop),∃(c:Nat->Nat),b a/\∀(d:Nat),b d->dp (decide ((↑d:Int)<(cN M))) ((0<=(↑d:Int)/\(↑d:Int)<(cN M))/\∃(e:Int),∃(f:Int),∃(g:Int),∃(h:Int),∃(j:Int),∃(k:Int),∃(l:Bool),zD (af y3 M) (↑d:Int).toNat 0 7=some [dI e,dI f,dI g,dI h,dI j,dI k,D.v (.bool l)]/\(0<=(↑d:Int)/\(↑d:Int)<(cN M))/\∃(m:Int),∃(n:Int),∃(p:Int),∃(q:Int),∃(r:Int),∃(s:Int),∃(t:Bool),zD (af y3 M) (↑d:Int).toNat 0 7=some [dI m,dI n,dI p,dI q,dI r,dI s,D.v (.bool t)]/\dp (!(e==m && (f==n && (g==p && (h==q && (j==r && (k==s && (l==t && ak)))))))) (∃(u:Unit),ak=am/\True) (v7 d b c)) (∃(e:Unit),ak=ak/\True))
def y3i {M:List eL} {k:Nat} {m:eL} (h:M[k]? =some m):zD (M.map y3) k 0 7=some [D.v (.int .i64 m.seq),.v (.int .i64 m.inst),.v (.int .i64 m.side),.v (.int .i64 m.dj),.v (.int .i64 m.dq),.v (.int .i64 m.count),.v (.bool m.iJ)]:=jq h (by simp[y3]) rfl
def F6:Fv.ok Tryz.prog 29:=gw (V:=yJq) mixed fg 0 (λ_=>[]) (λ_=>yWa) [] Tryz.func29 λ(M:List eL) h=>by
 have hl:M.length<=1099511627776:=h;have Ab:(M.map y3).length=M.length:=ia _;unfold yJq cN v7 kA dI;refine Cv.dp.mk (λe=>absurd e (by simp)) (λ_=>⟨0,rfl,λk=>k<=M.length,λk=>M.length-k,my _,λk hk=>zH (λc=> ?_) (λ_=>⟨(),rfl,trivial⟩)⟩);obtain⟨m,hm⟩:=z7 (l:=M) (i:=k) oM;have h7:=y3i hm;exact⟨⟨oM,oM⟩,_,_,_,_,_,_,_,h7,⟨oM,oM⟩,_,_,_,_,_,_,_,h7,Cv.dp.mk (λe=>absurd e (by simp)) (λ_=>⟨k+1,wjN oM,Z9,Z9,trivial⟩)⟩
structure tu (p:fb) (x:Es) (d:Dk) (s:Int) (b:List UInt8) (j:o5):Prop where
 a:Cj p x d j
 c:((zL s b).2≠0/\j.x=x/\j.d=d/\j.O=[(s,⟨2,0,0,0,0,0,0,(zL s b).2⟩)]/\j.N=[])\/((zL s b).2=0/\j.x=x.ed p s b/\j.d=⟨d.b++xZ (uF s b),d.safe⟩/\j.O=(x.X p s b).O/\j.N=wR x.q (x.M p s b))
def tu.bad {p:fb} {x:Es} {d:Dk} {o:ic} (h1:o.fk p x.B x.U) (h2:iQ p x.B) {s:Int} {b:List UInt8} (h:(zL s b).2≠0):tu p x d s b ⟨x,o,d,[(s,⟨2,0,0,0,0,0,0,(zL s b).2⟩)],[]⟩:=⟨Cj.bad h1 h2 s _,.inl ⟨h,iM rfl⟩⟩
def tu.tj {p:fb} {x:Es} {d:Dk} {o o2:ic} (h1:o.fk p x.B x.U) (h2:iQ p x.B) {s:Int} {b:List UInt8} (hb:b.length<=100) (h:(zL s b).2=0) (h3:o2.fk p (x.X p s b).B (x.X p s b).U):
 tu p x d s b ⟨x.ed p s b,o2,⟨d.b++xZ (uF s b),d.safe⟩,(x.X p s b).O,wR x.q (x.M p s b)⟩:=⟨Cj.tj h1 h2 hb h3,.inr ⟨h,iM rfl⟩⟩
def tu.same {p:fb} {x:Es} {d d2:Dk} {s:Int} {b:List UInt8} {j j2:o5} (h:tu p x d s b j) (h2:tu p x d2 s b j2) (hd:d.b=d2.b):j2.x=j.x/\j2.d.b=j.d.b/\j2.O=j.O/\j2.N=j.N:=by
 rcases h.c with⟨a0,a1,a2,a3,a4⟩|⟨a0,a1,a2,a3,a4⟩<;>rcases h2.c with⟨b0,b1,b2,b3,b4⟩|⟨b0,b1,b2,b3,b4⟩
 ·exact⟨b1.trans a1.symm,by rw[a2,b2,hd],b3.trans a3.symm,b4.trans a4.symm⟩
 ·exact absurd b0 a0
 ·exact absurd a0 b0
 ·exact⟨b1.trans a1.symm,by rw[a2,b2,hd],b3.trans a3.symm,b4.trans a4.symm⟩
def tu.safe {p:fb} {x:Es} {d:Dk} {s:Int} {b:List UInt8} {j:o5} (h:tu p x d s b j):j.d.safe=d.safe/\d.b.length<=j.d.b.length:=by
 rcases h.c with⟨a0,a1,a2,a3,a4⟩|⟨a0,a1,a2,a3,a4⟩
 ·rw[a2];exact⟨rfl,km _⟩
 ·rw[a2];exact⟨rfl,by dsimp only;rw[im];omega⟩
def tu.PR {p:fb} {x:Es} {d:Dk} {s:Int} {b:List UInt8} {j:o5} (h:tu p x d s b j) (hb:b.length<=100) (hR:∀r∈x.R,r.length<=101):∀r∈j.x.R,r.length<=101:=by
 rcases h.c with⟨a0,a1,a2,a3,a4⟩|⟨a0,a1,a2,a3,a4⟩
 ·rw[a1];exact hR
 ·rw[a1];intro r hr;have hr:r∈x.R++[uF s b]:=hr;rw[pn,vf]at hr;rcases hr with hr|rfl
  ·exact hR r hr
  ·have:(uF s b).length=b.length+1:=rfl;omega
structure DL (p:fb) (x:Es) (d:Dk):Prop where
 e:x=x6 p x.R
 d:d.b=mu x.R
 r:∀r∈x.R,Ix r
def yPv (p:fb) (x:Es) {s:Int} (b:List UInt8) (h:0<=s/\s<8):wJ p x (uF s b)=x.ed p s b:=by
 have hl:=J5 (n:=s) oM;show x.ed p ((jf s).toNat:Int) b=_;rw[hl]
def DL.step {p:fb} {x:Es} {d:Dk} {s:Int} {b:List UInt8} {j:o5} (h:DL p x d) (hj:tu p x d s b j):DL p j.x j.d:=by
 rcases hj.c with⟨a0,a1,a2,a3,a4⟩|⟨a0,a1,a2,a3,a4⟩
 ·rw[a1,a2];exact h
 ·have hs:=Kc a0;have hl:=J5 (n:=s) oM;rw[a1,a2];refine⟨?_,?_,λr hr=> ?_⟩
  ·show x.ed p s b=x6 p (x.R++[uF s b]);rw[x6,IP];show _=wJ p (x6 p x.R) (uF s b);rw[<- h.e,yPv p x b hs]
  ·show d.b++xZ (uF s b)=mu (x.R++[uF s b]);rw[z7u,h.d,SO];show _=mu x.R++(xZ (uF s b)++[]);rw[oL]
  ·have hr:r∈x.R++[uF s b]:=hr;rw[pn,vf]at hr;rcases hr with hr|rfl
   ·exact h.r r hr
   ·refine⟨List.cons_ne_nil _ _,?_⟩;show(zL ((jf s).toNat:Int) b).2=0;rw[hl];exact a0
def Lo:fy:=fj Pz (λi=>[.nm 0 0,sV i.s]) (λi=>[Wr i.l]) (λi=>i.l.length+300<=1099511627776/\i.s.length<=255) (λ_=>c9) (λi=>[Wr (i.l++l9 i.s)])
def Jx:fy:=fj ib (λc=>[Cs c]) (λ_=>[]) (λc=>c.label=[]/\c.right=0) (λc=> .iW [oy 1 (bE c.enc),zA 0]) (λ_=>[])
structure UQ where
 l:List Int
 k:Nat
def Er (l:List Int) (k:Nat):Int:=match l[k]? with
 |some s=>zG s 0 3
 |none=>0
def PF:fy:=fj UQ (λi=>[oy 1 (iE i.l),zA i.k]) (λ_=>[]) (λi=>(∀s∈i.l,gq s)/\i.k<=1000000) (λi=>zA (Er i.l i.k)) (λ_=>[])
def PI:fy:=fj wz (λt=>[nu t.p,Cs t.c,zA t.i]) (λ_=>[]) (λt=>(∃x,t.p=gy x)/\t.c.raw/\0<=t.i/\t.i<=1000000) (λt=>oy 1 (bE (yZ t).enc)) (λ_=>[])
def Qm:fy where
 ι:=fb
 pat:=λp=>[nu p]
 pre:=λ_=>[]
 dp:=λp=>p.check=0/\p.small
 alts:=λp=>[{o:=ic,res:=λ_=> .iW [.nm 0 0,.nm 3 0,yL ak],post:=λo=>Dh p (ru p) o ⟨[],0⟩,rel:=λo=>o.fk p (ru p).B (ru p).U}]
def awC:fy:=fj fb (λ_=>[]) (λ_=>[]) (λp=>p=dL 2) (λ_=>yL ak) (λ_=>[])
def yZp:List (Nat×gj):=[(4,{ι:=Unit,du:=λ_=>[],rows:=λ_=>[],CB:=[0]})]
def awJ (p:fb):List (Nat×gj):=[(20,doJ p 2 4),(24,doJ p 2 5),(28,doJ p 2 6)]
def eG (a:Pz):=((sb a.s).extract 0 (min (↑(sb a.s).size:Int) 255).toNat)
def yLn (i:Pz):Prop:=
 (0<=min (↑(sb i.s).size:Int) 255/\min (↑(sb i.s).size:Int) 255<=(↑(sb i.s).size:Int))/\∃(a:WN),a.n=(↑(eG i).size:Int)/\ab (List UInt8) 2 iZ a.l=Wr i.l/\a.ok/\∀(b:Unit),True->((bE (a.l++[jf a.n])).length+(jF (eG i)).length)*(1:Nat)<=(140737488355328:Nat)/\∃(c:Unit),bE (i.l++l9 i.s)=bE (a.l++[jf a.n])++jF (eG i)/\True
def XJ (a:WN) (b:ib):Prop:=∃(c:List UInt8),ab (List UInt8) 2 iZ c=ab (List UInt8) 2 iZ (a.l++le a.n 8)/\c.length<=1099511627776/\∀(d:Unit),True->∃(e:Unit),bE b.enc=bE c/\di ((0:Int))/\True
def XO (a:ib) (b:WN):Prop:=∃(c:WN),c.n=a.dq/\ab (List UInt8) 2 iZ c.l=ab (List UInt8) 2 iZ (b.l++le b.n 8)/\c.ok/\∀(d:Unit),True->XJ c a
def yTp (c:ib):Prop:=
 ∃(a:ib),a.kind=c.kind/\a.id=c.id/\a.inst=c.inst/\a.side=c.side/\a.dj=c.dj/\a.dq=c.dq/\a.least=c.least/\a.time=c.time/\sb a.label=sb c.label/\a.label.length<=140737488355328/\∀(b:Unit),True->dp (a.right !=0) (∃(d:Unit),bE c.enc=[]/\0=a.right/\True) (∃(d:Unit),True/\∀(e:Unit),True->∃(f:WN),f.n=c.kind/\ab (List UInt8) 2 iZ f.l=ab (List UInt8) 2 iZ []/\f.ok/\∀(g:Unit),True->∃(h:WN),h.n=c.id/\ab (List UInt8) 2 iZ h.l=ab (List UInt8) 2 iZ (f.l++[jf f.n])/\h.ok/\∀(j:Unit),True->dp (c.kind==1) (∃(k:WN),k.n=c.inst/\ab (List UInt8) 2 iZ k.l=ab (List UInt8) 2 iZ (h.l++le h.n 8)/\k.ok/\∀(l:Unit),True->∃(m:WN),m.n=c.side/\ab (List UInt8) 2 iZ m.l=ab (List UInt8) 2 iZ (k.l++[jf k.n])/\m.ok/\∀(n:Unit),True->∃(p:WN),p.n=c.time/\ab (List UInt8) 2 iZ p.l=ab (List UInt8) 2 iZ (m.l++[jf m.n])/\p.ok/\∀(q:Unit),True->∃(r:WN),r.n=c.dj/\ab (List UInt8) 2 iZ r.l=ab (List UInt8) 2 iZ (p.l++[jf p.n])/\r.ok/\∀(s:Unit),True->∃(t:WN),t.n=c.dq/\ab (List UInt8) 2 iZ t.l=ab (List UInt8) 2 iZ (r.l++le r.n 8)/\t.ok/\∀(u:Unit),True->∃(v:WN),v.n=c.least/\ab (List UInt8) 2 iZ v.l=ab (List UInt8) 2 iZ (t.l++le t.n 8)/\v.ok/\∀(w:Unit),True->∃(x:Pz),sb x.s=sb c.label/\ab (List UInt8) 2 iZ x.l=ab (List UInt8) 2 iZ (v.l++le v.n 8)/\(x.l.length+(300:Nat)<=(1099511627776:Nat)/\x.s.length<=255)/\∀(y:Unit),True->∃(z:List UInt8),ab (List UInt8) 2 iZ z=ab (List UInt8) 2 iZ (x.l++l9 x.s)/\z.length<=1099511627776/\∀(jb:Unit),True->∃(oZ:Unit),bE c.enc=bE z/\di ((0:Int))/\True) (dp (c.kind==3) (XO c h) (dp (c.kind==4) (∃(k:WN),k.n=c.dj/\ab (List UInt8) 2 iZ k.l=ab (List UInt8) 2 iZ (h.l++le h.n 8)/\k.ok/\∀(l:Unit),True->XO c k) (XJ h c))))
def y2c (i:UQ):Prop:=
 dp (decide ((↑i.k:Int)<(↑(iE i.l).length:Int))) ((0<=(↑i.k:Int)/\(↑i.k:Int)<(↑(iE i.l).length:Int))/\∃(a:Int),zD (iE i.l) (↑i.k:Int).toNat 0 1=some [dI a]/\∃(b:qn),b.n=a/\b.lo=0/\b.hi=3/\(y5 b)/\∀(c:Unit),True->∃(d:Unit),Er i.l i.k=zG b.n b.lo b.hi/\True) (∃(a:Unit),Er i.l i.k=0/\True)
def RW (a:wz):Prop:=(((-9223372036854775808)<=a.c.kind/\a.c.kind<=9223372036854775807)/\((-9223372036854775808)<=a.c.id/\a.c.id<=9223372036854775807)/\((-9223372036854775808)<=a.c.inst/\a.c.inst<=9223372036854775807)/\((-9223372036854775808)<=a.c.side/\a.c.side<=9223372036854775807)/\((-9223372036854775808)<=a.c.dj/\a.c.dj<=9223372036854775807)/\((-9223372036854775808)<=a.c.dq/\a.c.dq<=9223372036854775807)/\((-9223372036854775808)<=a.c.least/\a.c.least<=9223372036854775807)/\(-9223372036854775808)<=a.c.time/\a.c.time<=9223372036854775807)/\0<=a.i/\a.i<=1000000
def y5r (t:wz):Prop:=
 ∃(a:wz),sb a.p.code=sb t.p.code/\iE a.p.dk=iE t.p.dk/\a.p.tick=t.p.tick/\a.p.low=t.p.low/\a.p.high=t.p.high/\a.p.wide=t.p.wide/\a.p.dr=t.p.dr/\a.p.top=t.p.top/\a.p.least=t.p.least/\a.p.part=t.p.part/\iE a.p.settle=iE t.p.settle/\a.c.kind=t.c.kind/\a.c.id=t.c.id/\a.c.inst=t.c.inst/\a.c.side=t.c.side/\a.c.dj=t.c.dj/\a.c.dq=t.c.dq/\a.c.least=t.c.least/\a.c.time=t.c.time/\sb a.c.label=sb t.c.label/\a.i=t.i/\(a.p.check=0/\(a.p.code.length<=1099511627776/\a.p.dk.length<=1099511627776/\a.p.settle.length<=1099511627776)/\RW a)/\∀(b:Unit),True->∃(c:ib),c.kind=(yZ a).kind/\c.id=(yZ a).id/\c.inst=(yZ a).inst/\c.side=(yZ a).side/\c.dj=(yZ a).dj/\c.dq=(yZ a).dq/\c.least=(yZ a).least/\c.time=(yZ a).time/\sb c.label=sb (yZ a).label/\(c.label=[]/\c.right=0)/\∀(d:Unit),True->∃(e:Unit),bE (yZ t).enc=bE c.enc/\True
def pZ (a:zk):Prop:=(a.p.check=0/\a.p.code.length<=1099511627776/\a.p.dk.length<=1099511627776/\a.p.settle.length<=1099511627776)/\(((∀(b:List UInt8),b∈a.L->b.length<=255)/\(Bv a.t).snd.snd=10/\(mu a.L).length+a.t.length<=1048576)/\a.s<=(mu a.L++a.t).length/\(mu a.L++a.t).length<=1048576)/\(∀(b:List UInt8),b∈a.L->b≠[]/\(zL (↑(b.headD (0:UInt8)).toNat:Int) b.tail).snd=0)/\a.L.length<=100000
def rH (a:fb):=(af yG (yQ a (ag a.count [])))
def y4v (p:fb):Prop:=
 ∃(a:Unit),True/\∀(b:Unit),True->∃(c:zk),sb c.p.code=sb p.code/\iE c.p.dk=iE p.dk/\c.p.tick=p.tick/\c.p.low=p.low/\c.p.high=p.high/\c.p.wide=p.wide/\c.p.dr=p.dr/\c.p.top=p.top/\c.p.least=p.least/\c.p.part=p.part/\iE c.p.settle=iE p.settle/\iy c.j.d=iy (Dk.mk [] 0)/\(pZ c)/\∀(d:ic),d.fk c.p (x6 c.p c.L).B (x6 c.p c.L).U->∃(e:ic),ak=((0:Int)==(0:Int))/\sb p.code=sb c.p.code/\p.tick=c.p.tick/\p.low=c.p.low/\p.high=c.p.high/\p.wide=c.p.wide/\p.dr=c.p.dr/\p.top=c.p.top/\p.least=c.p.least/\p.part=c.p.part/\0=(x6 c.p c.L).q/\(↑(0:Nat):Int)=(↑c.L.length:Int)/\iq (Gt.mk e [])=iq (Gt.mk d (x6 c.p c.L).W)/\iy (Dk.mk [] 0)=iy c.j.d'/\[]=af gi (x6 c.p c.L).R/\aa 1 (iE p.dk)=aa 1 (iE c.p.dk)/\aa 1 (iE p.settle)=aa 1 (iE c.p.settle)/\aa 10 (rH p)=aa 10 (vI c)/\e.fk p (ag p.count []) []
def kH (a:fb) (b:o5):=(af yG (yQ a b.x.B))
def YN (a:zk) (b:Int):Prop:=aa 1 (iE a.p.dk)=aa 1 (iE a.p.dk)/\di (aa 1 (iE a.p.settle))/\di (aa 10 (vI a))/\di (aa 1 (iE [(500:Int),(505:Int),(490:Int)]))/\di (aa 1 (iE [(320:Int),(321:Int),(323:Int)]))/\di (ac [V.d (D.v (aq (sb [(67:UInt8),(76:UInt8)]))),V.own 1,V.d (dI 5),V.d (dI 0),V.d (dI 1000),V.d (dI 200),V.d (dI b),V.d (dI 4),V.d (dI 2),V.d (dI 40),V.own 2] 25)
def Y7 (a:fb) (b:o5) (c:zk) (d:Int):Prop:=aa 1 (iE a.dk)=aa 1 (iE a.dk)/\di (aa 1 (iE a.settle))/\di (aa 10 (kH a b))/\di (ac [V.own 20,V.own 21] Z6)/\di (ae Oc 9 (af jB b.O))/\di (ae Ny 7 (af y3 b.N))/\YN c d
def Y8 (a:o5->Prop) (b:o5) (c:fb) (d:o5) (e:o5) (f:zk) (g:Int):Prop:=a b/\di (aa 1 (iE c.dk))/\di (aa 1 (iE c.settle))/\di (aa 10 (kH c d))/\di (ac [V.own 31,V.own 32] Z6)/\di (ae Oc 9 (af jB d.O))/\di (ae Ny 7 (af y3 d.N))/\Y7 c e f g
def Zk (a:o5->Prop) (b:o5) (c:fb) (d:o5) (e:zk) (f:Int):Prop:=a b/\Y7 c d e f
def Y2 (a:o5->Prop) (b:o5) (c:zk) (d:Int):Prop:=a b/\YN c d
def f7 (a:tq):Prop:=(a.o.fk a.p a.x.B a.x.U/\iQ a.p a.x.B)/\a.b.length<=254/\((-1)<=a.s/\a.s<8)/\(0<=a.x.q/\a.x.q<=1000000000000000000)/\a.x.R.length<=1000000/\a.d.b.length+a.b.length+(7:Nat)<=(1048576:Nat)
def Vaw (p:fb):Prop:=
 ∃(a:Int),a=2/\True/\∀(b:Unit),True->∃(c:Unit),True/\∀(d:Unit),True->(di (sb [(67:UInt8),(76:UInt8)])/\True/\di ((5:Int))/\di ((0:Int))/\di ((1000:Int))/\di ((200:Int))/\a=a/\di ((4:Int))/\di ((2:Int))/\di ((40:Int))/\True/\True)/\∃(e:zk),sb e.p.code=sb [(67:UInt8),(76:UInt8)]/\iE e.p.dk=iE [(320:Int),(321:Int),(323:Int)]/\e.p.tick=5/\e.p.low=0/\e.p.high=1000/\e.p.wide=200/\e.p.dr=a/\e.p.top=4/\e.p.least=2/\e.p.part=40/\iE e.p.settle=iE [(500:Int),(505:Int),(490:Int)]/\iy e.j.d=iy (Dk.mk [] 0)/\(pZ e)/\∀(f:ic),f.fk e.p (x6 e.p e.L).B (x6 e.p e.L).U->∃(g:o5),sb p.code=sb e.p.code/\p.tick=e.p.tick/\p.low=e.p.low/\p.high=e.p.high/\p.wide=e.p.wide/\p.dr=e.p.dr/\p.top=e.p.top/\p.least=e.p.least/\p.part=e.p.part/\g.x.q=(x6 e.p e.L).q/\(↑g.x.R.length:Int)=(↑e.L.length:Int)/\iq (Gt.mk g.o g.x.W)=iq (Gt.mk f (x6 e.p e.L).W)/\iy g.d=iy e.j.d'/\af gi g.x.R=af gi (x6 e.p e.L).R/\aa 1 (iE p.dk)=aa 1 (iE e.p.dk)/\aa 1 (iE p.settle)=aa 1 (iE e.p.settle)/\aa 10 (kH p g)=aa 10 (vI e)/\∃(h:o5->Prop),(∃(j:ib),j.kind=1/\j.id=1/\j.inst=3/\j.side=2/\j.dj=5/\j.dq=4/\j.least=0/\j.time=1/\sb j.label=ByteArray.mk #[]/\(j.label=[]/\j.right=0)/\∀(k:Unit),True->∃(l:tq),l.s=0/\bE l.b=bE j.enc/\sb l.p.code=sb p.code/\l.p.tick=p.tick/\l.p.low=p.low/\l.p.high=p.high/\l.p.wide=p.wide/\l.p.dr=p.dr/\l.p.top=p.top/\l.p.least=p.least/\l.p.part=p.part/\l.x.q=g.x.q/\(↑l.x.R.length:Int)=(↑g.x.R.length:Int)/\iq (Gt.mk l.o l.x.W)=iq (Gt.mk g.o g.x.W)/\iy l.d=iy g.d/\af gi l.x.R=af gi g.x.R/\aa 1 (iE l.p.dk)=aa 1 (iE p.dk)/\aa 1 (iE l.p.settle)=aa 1 (iE p.settle)/\aa 10 (xQ l)=aa 10 (kH p g)/\(f7 l)/\(∀(m:ic),(zL l.s l.b).snd≠0/\m.fk l.p l.x.B l.x.U->∃(n:o5),sb p.code=sb l.p.code/\p.tick=l.p.tick/\p.low=l.p.low/\p.high=l.p.high/\p.wide=l.p.wide/\p.dr=l.p.dr/\p.top=l.p.top/\p.least=l.p.least/\p.part=l.p.part/\n.x.q=l.x.q/\(↑n.x.R.length:Int)=(↑l.x.R.length:Int)/\iq (Gt.mk n.o n.x.W)=iq (Gt.mk m l.x.W)/\iy n.d=iy l.d/\af gi n.x.R=af gi l.x.R/\aa 1 (iE p.dk)=aa 1 (iE l.p.dk)/\aa 1 (iE p.settle)=aa 1 (iE l.p.settle)/\aa 10 (kH p n)=aa 10 (xQ l)/\af jB n.O=[jB (l.s,fk.mk 2 0 0 0 0 0 0 (zL l.s l.b).snd)]/\af y3 n.N=[]/\Y2 h n e a)/\∀(m:ic),(zL l.s l.b).snd=0/\m.fk l.p (l.x.X l.p l.s l.b).B (l.x.X l.p l.s l.b).U->∃(n:o5),sb p.code=sb l.p.code/\p.tick=l.p.tick/\p.low=l.p.low/\p.high=l.p.high/\p.wide=l.p.wide/\p.dr=l.p.dr/\p.top=l.p.top/\p.least=l.p.least/\p.part=l.p.part/\n.x.q=l.x.q+(jO l)/\(↑n.x.R.length:Int)=(jS l)/\iq (Gt.mk n.o n.x.W)=iq (jV m l)/\iy n.d=iy l.D/\af gi n.x.R=af gi (kX l)/\aa 1 (iE p.dk)=aa 1 (iE l.p.dk)/\aa 1 (iE p.settle)=aa 1 (iE l.p.settle)/\aa 10 (kH p n)=aa 10 (jW l)/\af jB n.O=af jB l.O/\af y3 n.N=af y3 l.N/\Y2 h n e a)/\∀(j:o5),h j->∃(k:o5),di (sb p.code)/\di p.tick/\di p.low/\di p.high/\di p.wide/\di p.dr/\di p.top/\di p.least/\di p.part/\k.x.q=j.x.q/\(↑k.x.R.length:Int)=(↑j.x.R.length:Int)/\iq (Gt.mk k.o k.x.W)=iq (Gt.mk j.o j.x.W)/\iy k.d=iy j.d/\af gi k.x.R=af gi j.x.R/\di (aa 1 (iE p.dk))/\di (aa 1 (iE p.settle))/\aa 10 (kH p k)=aa 10 (kH p j)/\∃(l:o5->Prop),(∃(m:ib),m.kind=1/\m.id=2/\m.inst=1/\m.side=2/\m.dj=500/\m.dq=6/\m.least=0/\m.time=1/\sb m.label=ByteArray.mk #[]/\(m.label=[]/\m.right=0)/\∀(n:Unit),True->∃(q:tq),q.s=1/\bE q.b=bE m.enc/\sb q.p.code=sb p.code/\q.p.tick=p.tick/\q.p.low=p.low/\q.p.high=p.high/\q.p.wide=p.wide/\q.p.dr=p.dr/\q.p.top=p.top/\q.p.least=p.least/\q.p.part=p.part/\q.x.q=k.x.q/\(↑q.x.R.length:Int)=(↑k.x.R.length:Int)/\iq (Gt.mk q.o q.x.W)=iq (Gt.mk k.o k.x.W)/\iy q.d=iy k.d/\af gi q.x.R=af gi k.x.R/\aa 1 (iE q.p.dk)=aa 1 (iE p.dk)/\aa 1 (iE q.p.settle)=aa 1 (iE p.settle)/\aa 10 (xQ q)=aa 10 (kH p k)/\(f7 q)/\(∀(r:ic),(zL q.s q.b).snd≠0/\r.fk q.p q.x.B q.x.U->∃(s:o5),sb p.code=sb q.p.code/\p.tick=q.p.tick/\p.low=q.p.low/\p.high=q.p.high/\p.wide=q.p.wide/\p.dr=q.p.dr/\p.top=q.p.top/\p.least=q.p.least/\p.part=q.p.part/\s.x.q=q.x.q/\(↑s.x.R.length:Int)=(↑q.x.R.length:Int)/\iq (Gt.mk s.o s.x.W)=iq (Gt.mk r q.x.W)/\iy s.d=iy q.d/\af gi s.x.R=af gi q.x.R/\aa 1 (iE p.dk)=aa 1 (iE q.p.dk)/\aa 1 (iE p.settle)=aa 1 (iE q.p.settle)/\aa 10 (kH p s)=aa 10 (xQ q)/\af jB s.O=[jB (q.s,fk.mk 2 0 0 0 0 0 0 (zL q.s q.b).snd)]/\af y3 s.N=[]/\Zk l s p j e a)/\∀(r:ic),(zL q.s q.b).snd=0/\r.fk q.p (q.x.X q.p q.s q.b).B (q.x.X q.p q.s q.b).U->∃(s:o5),sb p.code=sb q.p.code/\p.tick=q.p.tick/\p.low=q.p.low/\p.high=q.p.high/\p.wide=q.p.wide/\p.dr=q.p.dr/\p.top=q.p.top/\p.least=q.p.least/\p.part=q.p.part/\s.x.q=q.x.q+(jO q)/\(↑s.x.R.length:Int)=(jS q)/\iq (Gt.mk s.o s.x.W)=iq (jV r q)/\iy s.d=iy q.D/\af gi s.x.R=af gi (kX q)/\aa 1 (iE p.dk)=aa 1 (iE q.p.dk)/\aa 1 (iE p.settle)=aa 1 (iE q.p.settle)/\aa 10 (kH p s)=aa 10 (jW q)/\af jB s.O=af jB q.O/\af y3 s.N=af y3 q.N/\Zk l s p j e a)/\∀(m:o5),l m->∃(n:o5),di (sb p.code)/\di p.tick/\di p.low/\di p.high/\di p.wide/\di p.dr/\di p.top/\di p.least/\di p.part/\n.x.q=m.x.q/\(↑n.x.R.length:Int)=(↑m.x.R.length:Int)/\iq (Gt.mk n.o n.x.W)=iq (Gt.mk m.o m.x.W)/\iy n.d=iy m.d/\af gi n.x.R=af gi m.x.R/\di (aa 1 (iE p.dk))/\di (aa 1 (iE p.settle))/\aa 10 (kH p n)=aa 10 (kH p m)/\∃(q:o5->Prop),(∃(r:ib),r.kind=1/\r.id=3/\r.inst=0/\r.side=1/\r.dj=505/\r.dq=9/\r.least=0/\r.time=1/\sb r.label=ByteArray.mk #[]/\(r.label=[]/\r.right=0)/\∀(s:Unit),True->∃(t:tq),t.s=2/\bE t.b=bE r.enc/\sb t.p.code=sb p.code/\t.p.tick=p.tick/\t.p.low=p.low/\t.p.high=p.high/\t.p.wide=p.wide/\t.p.dr=p.dr/\t.p.top=p.top/\t.p.least=p.least/\t.p.part=p.part/\t.x.q=n.x.q/\(↑t.x.R.length:Int)=(↑n.x.R.length:Int)/\iq (Gt.mk t.o t.x.W)=iq (Gt.mk n.o n.x.W)/\iy t.d=iy n.d/\af gi t.x.R=af gi n.x.R/\aa 1 (iE t.p.dk)=aa 1 (iE p.dk)/\aa 1 (iE t.p.settle)=aa 1 (iE p.settle)/\aa 10 (xQ t)=aa 10 (kH p n)/\(f7 t)/\(∀(u:ic),(zL t.s t.b).snd≠0/\u.fk t.p t.x.B t.x.U->∃(v:o5),sb p.code=sb t.p.code/\p.tick=t.p.tick/\p.low=t.p.low/\p.high=t.p.high/\p.wide=t.p.wide/\p.dr=t.p.dr/\p.top=t.p.top/\p.least=t.p.least/\p.part=t.p.part/\v.x.q=t.x.q/\(↑v.x.R.length:Int)=(↑t.x.R.length:Int)/\iq (Gt.mk v.o v.x.W)=iq (Gt.mk u t.x.W)/\iy v.d=iy t.d/\af gi v.x.R=af gi t.x.R/\aa 1 (iE p.dk)=aa 1 (iE t.p.dk)/\aa 1 (iE p.settle)=aa 1 (iE t.p.settle)/\aa 10 (kH p v)=aa 10 (xQ t)/\af jB v.O=[jB (t.s,fk.mk 2 0 0 0 0 0 0 (zL t.s t.b).snd)]/\af y3 v.N=[]/\Y8 q v p m j e a)/\∀(u:ic),(zL t.s t.b).snd=0/\u.fk t.p (t.x.X t.p t.s t.b).B (t.x.X t.p t.s t.b).U->∃(v:o5),sb p.code=sb t.p.code/\p.tick=t.p.tick/\p.low=t.p.low/\p.high=t.p.high/\p.wide=t.p.wide/\p.dr=t.p.dr/\p.top=t.p.top/\p.least=t.p.least/\p.part=t.p.part/\v.x.q=t.x.q+(jO t)/\(↑v.x.R.length:Int)=(jS t)/\iq (Gt.mk v.o v.x.W)=iq (jV u t)/\iy v.d=iy t.D/\af gi v.x.R=af gi (kX t)/\aa 1 (iE p.dk)=aa 1 (iE t.p.dk)/\aa 1 (iE p.settle)=aa 1 (iE t.p.settle)/\aa 10 (kH p v)=aa 10 (jW t)/\af jB v.O=af jB t.O/\af y3 v.N=af y3 t.N/\Y8 q v p m j e a)/\∀(r:o5),q r->dp ((↑(af jB j.O).length:Int)==1) (dp ((↑(af jB m.O).length:Int)==1) (dp ((↑(af jB r.O).length:Int)==6) (((0:Int)<=(5:Int)/\5<(↑(af jB r.O).length:Int))/\∃(s:Int),∃(t:Int),∃(u:Int),∃(v:Int),∃(w:Int),∃(x:Int),∃(y:Int),∃(z:Int),zD (af jB r.O) (ar 5) 1 8=some [dI s,dI t,dI u,dI v,dI w,dI x,dI y,dI z]/\dp (s==3 && (t==3 && (u==0 && (v==1 && (w==505 && (x==4 && (y==5 && (z==0 && ak)))))))) (∃(jb:Unit),ak=decide ((↑(af y3 r.N).length:Int)>0)/\True) (∃(jb:Unit),ak=am/\True)) (∃(s:Unit),ak=am/\True)) (∃(s:Unit),ak=am/\True)) (∃(s:Unit),ak=am/\True)
def zOs {s:Int} (h0:0<=s/\s<8) {c:ib} (h:c.right=0):(zL s c.enc).2=0:=by
 rw[zL,ej (by omega),ySl h]
def M5:ib:=⟨1,1,3,2,5,4,0,1,[]⟩
def M4:ib:=⟨1,2,1,2,500,6,0,1,[]⟩
def KH:ib:=⟨1,3,0,1,505,9,0,1,[]⟩
def yUo:M5.right=0:=by decide+kernel
def yUt:M4.right=0:=by decide+kernel
def yUc:KH.right=0:=by decide+kernel
def aw1:Es:=(ru (dL 2)).ed (dL 2) 0 M5.enc
def aw2:Es:=aw1.ed (dL 2) 1 M4.enc
def y8q:((ru (dL 2)).X (dL 2) 0 M5.enc).O.length=1:=by decide+kernel
def y7e:(aw1.X (dL 2) 1 M4.enc).O.length=1:=by decide+kernel
def y8d:(aw2.X (dL 2) 2 KH.enc).O.length=6/\((aw2.X (dL 2) 2 KH.enc).O.getD 5 (0,⟨0,0,0,0,0,0,0,0⟩)).2=⟨3,3,0,1,505,4,5,0⟩/\(aw2.M (dL 2) 2 KH.enc).length≠0:=by decide+kernel
def ySz (a:List UInt8) (i j:Nat):(sb a).extract i j=sb ((a.take j).drop i):=by
 apply ByteArray.ext;simp only[sb,ByteArray.data_extract,List.extract_toArray];rw[List.extract_eq_drop_take',List.drop_take]
def yIr:Lo.ok Tryz.prog 116:=gw (V:=yLn) mixed (dw RS fg) 0 (λ_=>yZp) (λ_=>[]) [] Tryz.func116 λ(i:Pz) h=>by
 obtain⟨l,s⟩:=i;obtain⟨h,hl⟩:l.length+300<=1099511627776/\s.length<=255:=h;have hs:(sb s).size=s.length:=RY s;have hm:min ((sb s).size:Int) 255=(s.length:Int):=by rw[hs];omega
 have he:(sb s).extract 0 ((s.length:Int)).toNat=sb s:=by
  rw[ySz,ow,By];rfl
 have et:s.take 255=s:=og oM;unfold yLn eG;dsimp only;rw[hm,he,hs];refine⟨⟨oM,oM⟩,⟨l,s.length⟩,rfl,rfl,by dsimp only[WN.ok];omega,λ_ _=>⟨?_,(),?_,trivial⟩⟩
 ·dsimp only;rw[zVg,yH,yH,im];simp[sb];omega
 ·dsimp only;rw[zVg,<- NJ,l9,et];simp[sb]
def y2x (c:ib) (h:Jx.dp c):yTp c:=by
 obtain⟨hl,hr⟩:c.label=[]/\c.right=0:=h;have he:c.enc=jf c.kind::(le c.id 8++c.tail):=by rw[ib.enc,ej (by simp[hr])]
 unfold yTp XO XJ;refine⟨c,gm ⟨rfl,by rw[hl];exact my _,λ_ _=>Cv.dp.mk (λe=>absurd e (by rw[hr];simp)) (λ_=>⟨(),trivial,λ_ _=>⟨⟨[],c.kind⟩,rfl,rfl,by simp[WN.ok],λ_ _=>⟨⟨[jf c.kind],c.id⟩,rfl,rfl,by simp[WN.ok],λ_ _=> ?_⟩⟩⟩)⟩⟩;dsimp only;refine Cv.dp.mk (λe=> ?_) (λe=>Cv.dp.mk (λe3=> ?_) (λe3=>Cv.dp.mk (λe4=> ?_) (λe4=> ?_)))
 ·have e:c.kind=1:=by simpa using e
  have ht:c.tail=jf c.inst::jf c.side::jf c.time::(le c.dj 8++(le c.dq 8++(le c.least 8++l9 c.label))):=by rw[ib.tail,fc e]
  refine⟨⟨[jf c.kind]++le c.id 8,c.inst⟩,rfl,rfl,by simp[WN.ok,xH],λ_ _=>⟨⟨_,c.side⟩,rfl,rfl,by simp[WN.ok,xH],λ_ _=>⟨⟨_,c.time⟩,rfl,rfl,by simp[WN.ok,xH],λ_ _=>⟨⟨_,c.dj⟩,rfl,rfl,by simp[WN.ok,xH],λ_ _=>⟨⟨_,c.dq⟩,rfl,rfl,by simp[WN.ok,xH],λ_ _=>⟨⟨_,c.least⟩,rfl,rfl,by simp[WN.ok,xH],λ_ _=>⟨⟨_,c.label⟩,rfl,rfl,⟨by simp[xH],by rw[hl];exact my _⟩,λ_ _=>⟨_,rfl,by dsimp only;rw[hl];simp[xH,l9],λ_ _=>⟨(),?_,rfl,trivial⟩⟩⟩⟩⟩⟩⟩⟩⟩;dsimp only;rw[he,ht];simp
 ·have e3:c.kind=3:=by simpa using e3
  have ht:c.tail=le c.dq 8:=by rw[ib.tail,ej (by omega),fc e3]
  refine⟨⟨[jf c.kind]++le c.id 8,c.dq⟩,rfl,rfl,by simp[WN.ok,xH],λ_ _=>⟨_,rfl,by simp[xH],λ_ _=>⟨(),?_,rfl,trivial⟩⟩⟩;dsimp only;rw[he,ht];simp
 ·have e4:c.kind=4:=by simpa using e4
  have ht:c.tail=le c.dj 8++le c.dq 8:=by rw[ib.tail,ej (by omega),ej (by omega),fc e4]
  refine⟨⟨[jf c.kind]++le c.id 8,c.dj⟩,rfl,rfl,by simp[WN.ok,xH],λ_ _=>⟨⟨_,c.dq⟩,rfl,rfl,by simp[WN.ok,xH],λ_ _=>⟨_,rfl,by simp[xH],λ_ _=>⟨(),?_,rfl,trivial⟩⟩⟩⟩;dsimp only;rw[he,ht];simp
 ·have e:¬c.kind=1:=by simpa using e
  have e3:¬c.kind=3:=by simpa using e3
  have e4:¬c.kind=4:=by simpa using e4
  have ht:c.tail=[]:=by rw[ib.tail,ej e,ej e3,ej e4]
  refine⟨_,rfl,by simp[xH],λ_ _=>⟨(),?_,rfl,trivial⟩⟩;rw[he,ht];simp
def z8b:Jx.ok Tryz.prog 52:=gw mixed (dw Wu (dw Se (dw RS (dw Sq (dw yIr (dw R7 fg)))))) 0 (λ_=>[]) (λ_=>[]) [] Tryz.func52 y2x
def Lp:PF.ok Tryz.prog 11:=gw (V:=y2c) mixed (dw Xp fg) 0 (λ_=>[]) (λ_=>[]) [] Tryz.func11 λ(i:UQ) h=>by
 obtain⟨l,k⟩:=i;obtain⟨h1,h2⟩:(∀s∈l,gq s)/\k<=1000000:=h;have hl:(iE l).length=l.length:=ia _;unfold y2c y5 dI;dsimp only;refine zH (λc=> ?_) (λc=>⟨(),?_,trivial⟩)
 ·obtain⟨s,hs⟩:=z7 (l:=l) (i:=k) oM;refine⟨⟨oM,oM⟩,s,qz hs,⟨s,0,3⟩,rfl,rfl,rfl,⟨h1 s (lr hs),pj rfl,pj rfl,pj rfl⟩,λ_ _=>⟨(),?_,trivial⟩⟩;rw[Er,hs]
 ·rw[Er,tx (by omega)]
def yXg (l:List Int) (k:Nat):0<=Er l k/\Er l k<=3:=by
 rw[Er];split
 ·exact yQe Z8
 ·exact⟨yg _,Z8⟩
def Lr:PI.ok Tryz.prog 12:=gw (V:=y5r) mixed (dw yRf (dw z8b fg)) 0 (λ_=>[]) (λ_=>[]) [] Tryz.func12 λ(t:wz) h=>by
 obtain⟨p,c,k⟩:=t;obtain⟨⟨x,hp⟩,hc,h1,h2⟩:(∃x,p=gy x)/\c.raw/\0<=k/\k<=1000000:=h;subst hp;have hr:(yZ ⟨gy x,c,k⟩).right=0:=by
  obtain⟨n,rfl⟩:∃n:Nat,k=n:=⟨k.toNat,oM⟩
  exact yKj oM
 unfold y5r RW;dsimp only;exact⟨⟨gy x,c,k⟩,gm (gm (nr ⟨rfl,⟨nK x,zLz x,hc,h1,h2⟩,λ_ _=>⟨yZ ⟨gy x,c,k⟩,gm ⟨rfl,⟨tJ _,hr⟩,λ_ _=>⟨(),rfl,trivial⟩⟩⟩⟩))⟩
def LN:Qm.ok Tryz.prog 8:=gw (V:=y4v) mixed (dw AA (dw YW fg)) 0 (λ_=>[]) (λ_=>[]) [] Tryz.func8 λ(p:fb) h=>by
 obtain⟨hc,hs⟩:p.check=0/\p.small:=h;unfold y4v rH pZ vI;exact⟨(),trivial,λ_ _=>⟨⟨p,0,[],[]⟩,gm (iM ⟨rfl,⟨⟨hc,hs⟩,⟨⟨λl hl=>(by cases hl),rfl,pj rfl⟩,km _,pj rfl⟩,λr hr=>(by cases hr),pj rfl⟩,λo ho=>⟨o,gm (oA (iM ho))⟩⟩)⟩⟩
def Zz (c:ib) (h:c.right=0) (hl:c.label=[]):c.enc.length<=100:=U7 h hl
def yYp:(zL 0 M5.enc).2=0:=by decide+kernel
def y0k:(zL 1 M4.enc).2=0:=by decide+kernel
def y0f:(zL 2 KH.enc).2=0:=by decide+kernel
def y5l {O:List (Int×fk)} {k:Nat} {o:Int×fk} (h:O[k]? =some o):zD (O.map jB) k 1 8=some [D.v (.int .i64 o.2.kind),.v (.int .i64 o.2.id),.v (.int .i64 o.2.inst),.v (.int .i64 o.2.side),.v (.int .i64 o.2.dj),.v (.int .i64 o.2.dq),.v (.int .i64 o.2.left),.v (.int .i64 o.2.oS)]:=jq h (by simp[jB,xP]) rfl
def tu.HK {p:fb} {x:Es} {d:Dk} {s:Int} {b:List UInt8} {j:o5} (h:tu p x d s b j) (hr:(zL s b).2=0):j.x=x.ed p s b/\j.d=⟨d.b++xZ (uF s b),d.safe⟩/\j.O=(x.X p s b).O/\j.N=wR x.q (x.M p s b):=by
 rcases h.c with⟨a0,_⟩|⟨_,a1,a2,a3,a4⟩
 ·exact absurd hr a0
 ·exact⟨a1,a2,a3,a4⟩
def vaw (p:fb) (h:awC.dp p):Vaw p:=by
 have h:p=dL 2:=h;obtain⟨b1,pz⟩:∃b,M5.enc=b:=⟨_,rfl⟩
 obtain⟨b2,mr⟩:∃b,M4.enc=b:=⟨_,rfl⟩
 obtain⟨b3,CG⟩:∃b,KH.enc=b:=⟨_,rfl⟩
 have l1:b1.length<=100:=by rw[<- pz];exact Zz _ yUo rfl
 have l2:b2.length<=100:=by rw[<- mr];exact Zz _ yUt rfl
 have l3:b3.length<=100:=by rw[<- CG];exact Zz _ yUc rfl
 have r1:(zL 0 b1).2=0:=by rw[<- pz];exact yYp
 have r2:(zL 1 b2).2=0:=by rw[<- mr];exact y0k
 have r3:(zL 2 b3).2=0:=by rw[<- CG];exact y0f
 have q1:((ru p).X p 0 b1).O.length=1:=by rw[<- pz,h];exact y8q
 have q2:(((ru p).ed p 0 b1).X p 1 b2).O.length=1:=by rw[<- pz,<- mr,h];exact y7e
 have q3:((((ru p).ed p 0 b1).ed p 1 b2).X p 2 b3).O.length=6/\(((((ru p).ed p 0 b1).ed p 1 b2).X p 2 b3).O.getD 5 (0,⟨0,0,0,0,0,0,0,0⟩)).2=⟨3,3,0,1,505,4,5,0⟩/\((((ru p).ed p 0 b1).ed p 1 b2).M p 2 b3).length≠0:=by rw[<- pz,<- mr,<- CG,h];exact y8d
 have hc:p.check=0:=by rw[h];decide+kernel
 have hs:p.small:=by rw[h];exact zZr 2
 obtain⟨p1,p2,p3,p4,p5,p6,p7,p8,p9,Uj,Ui⟩:sb p.code=sb [67,76]/\iE p.dk=iE [320,321,323]/\p.tick=5/\p.low=0/\p.high=1000/\p.wide=200/\p.dr=2/\p.top=4/\p.least=2/\p.part=40/\iE p.settle=iE [500,505,490]:=by
  rw[h];exact(oA (iM rfl))
 clear h;have GO:iQ p (ru p).B:=iQ.new hc hs;unfold Vaw pZ jV xQ jO jS kX jW Y2 Zk Y8 Y7 YN vI kH f7 dI;refine⟨2,rfl,trivial,λ_ _=>⟨(),trivial,λ_ _=>⟨gn,⟨⟨p,0,[],[]⟩,p1,p2,p3,p4,p5,p6,p7,p8,p9,Uj,Ui,rfl,⟨⟨hc,hs⟩,⟨⟨λl hl=>(by cases hl),rfl,pj rfl⟩,km _,pj rfl⟩,λr hr=>(by cases hr),pj rfl⟩,λo Hz=> ?_⟩⟩⟩⟩;have Hz:o.fk p (ru p).B (ru p).U:=Hz;have z0:(ru p).q=0:=rfl;have z1:(ru p).R.length=0:=rfl;have z2:([]:List UInt8).length=0:=rfl;refine⟨⟨ru p,o,⟨[],0⟩,[],[]⟩,gm (gm ⟨rfl,λj=>tu p (ru p) ⟨[],0⟩ 0 b1 j,⟨M5,gm ⟨rfl,⟨rfl,yUo⟩,λ_ _=>⟨⟨o,ru p,p,⟨[],0⟩,0,b1⟩,rfl,by rw[pz],gm (gm ⟨rfl,⟨⟨Hz,GO⟩,Z9,⟨pj rfl,pj rfl⟩,⟨Z9,Z9⟩,Z9,Z9⟩,λo9 hb=>⟨⟨ru p,o9,⟨[],0⟩,_,[]⟩,rfl,rfl,rfl,rfl,rfl,rfl,rfl,rfl,rfl,rfl,rfl,rfl,rfl,rfl,rfl,rfl,rfl,rfl,rfl,tu.bad hb.2 GO hb.1,gn⟩,λo9 hg=>⟨⟨_,o9,_,_,_⟩,rfl,rfl,rfl,rfl,rfl,rfl,rfl,rfl,rfl,rfl,rfl,rfl,rfl,rfl,rfl,rfl,rfl,rfl,rfl,tu.tj Hz GO oM hg.1 hg.2,gn⟩⟩)⟩⟩⟩,?_⟩)⟩;rintro⟨x1,o1,d1,O1,N1⟩ KW;obtain⟨⟨ES,BI,u1,u2,u3,u4,_,_⟩,_⟩:=id KW;obtain⟨e1,_,e3,_⟩:=KW.HK r1;dsimp only at ES BI u1 u2 u3 u4 e1 e3 ⊢;refine⟨⟨x1,o1,d1,[],[]⟩,gm (gm ⟨rfl,λj=>tu p (x1) d1 1 b2 j,⟨M4,gm ⟨rfl,⟨rfl,yUt⟩,λ_ _=>⟨⟨o1,x1,p,d1,1,b2⟩,rfl,by rw[mr],gm (gm ⟨rfl,⟨⟨ES,BI⟩,Z9,⟨pj rfl,pj rfl⟩,⟨Z9,Z9⟩,Z9,Z9⟩,λo9 hb=>⟨⟨x1,o9,d1,_,[]⟩,rfl,rfl,rfl,rfl,rfl,rfl,rfl,rfl,rfl,rfl,rfl,rfl,rfl,rfl,rfl,rfl,rfl,rfl,rfl,tu.bad hb.2 BI hb.1,gn⟩,λo9 hg=>⟨⟨_,o9,_,_,_⟩,rfl,rfl,rfl,rfl,rfl,rfl,rfl,rfl,rfl,rfl,rfl,rfl,rfl,rfl,rfl,rfl,rfl,rfl,rfl,tu.tj ES BI oM hg.1 hg.2,gn⟩⟩)⟩⟩⟩,?_⟩)⟩;rintro⟨x2,o2,d2,O2,N2⟩ ET;obtain⟨⟨Ec,Dy,v1,v2,v3,v4,_,_⟩,_⟩:=id ET;obtain⟨f1,_,f3,_⟩:=ET.HK r2;dsimp only at Ec Dy v1 v2 v3 v4 f1 f3 ⊢;refine⟨⟨x2,o2,d2,[],[]⟩,gm (gm ⟨rfl,λj=>tu p (x2) d2 2 b3 j,⟨KH,gm ⟨rfl,⟨rfl,yUc⟩,λ_ _=>⟨⟨o2,x2,p,d2,2,b3⟩,rfl,by rw[CG],gm (gm ⟨rfl,⟨⟨Ec,Dy⟩,Z9,⟨pj rfl,pj rfl⟩,⟨Z9,Z9⟩,Z9,Z9⟩,λo9 hb=>⟨⟨x2,o9,d2,_,[]⟩,rfl,rfl,rfl,rfl,rfl,rfl,rfl,rfl,rfl,rfl,rfl,rfl,rfl,rfl,rfl,rfl,rfl,rfl,rfl,tu.bad hb.2 Dy hb.1,gn⟩,λo9 hg=>⟨⟨_,o9,_,_,_⟩,rfl,rfl,rfl,rfl,rfl,rfl,rfl,rfl,rfl,rfl,rfl,rfl,rfl,rfl,rfl,rfl,rfl,rfl,rfl,tu.tj Ec Dy oM hg.1 hg.2,gn⟩⟩)⟩⟩⟩,?_⟩)⟩;rintro⟨x3,o3,d3,O3,N3⟩ hA3;obtain⟨g1,_,g3,g4⟩:=hA3.HK r3;dsimp only at g1 g3 g4 ⊢;rw[e1]at f1 f3;rw[f1]at g3 g4;rw[e3,f3,g3,g4];obtain⟨q31,q32,q33⟩:=q3;have Ab:∀(l:List (Int×fk)),(l.map jB).length=l.length:=λl=>ia _
 have O5:((wR ((ru p).ed p 0 b1|>.ed p 1 b2).q ((((ru p).ed p 0 b1).ed p 1 b2).M p 2 b3)).map y3).length=((((ru p).ed p 0 b1).ed p 1 b2).M p 2 b3).length:=by rw[ia,mJ]
 rw[Ab,Ab,Ab,q1,q2,q31,O5];obtain⟨y,hy⟩:=z7 (l:=((((ru p).ed p 0 b1).ed p 1 b2).X p 2 b3).O) (i:=5) oM;have hy2:y.2=⟨3,3,0,1,505,4,5,0⟩:=by rw[np,hy]at q32;exact q32
 have h8:=y5l hy;rw[hy2]at h8;exact Cv.dp.mk (λ_=>Cv.dp.mk (λ_=>Cv.dp.mk (λ_=>⟨⟨pj rfl,pj rfl⟩,_,_,_,_,_,_,_,_,h8,Cv.dp.mk (λ_=>⟨(),(lg oM).symm,trivial⟩) (λe=>absurd e Z8)⟩) (λe=>absurd e Z8)) (λe=>absurd e Z8)) (λe=>absurd e Z8)
def Rv:awC.ok Tryz.prog 19:=gw mixed (dw yGg (dw AA (dw YW (dw z8b (dw Cm fg))))) 1 (λp=>awJ p) (λ_=>[]) [] Tryz.func19 vaw
def bH (n:Int) (r:List UInt8):List UInt8:=xZ (le n 8++r)
structure qo where
 n:Int
 r:List UInt8
def Fq:fy:=fj qo (λi=>[zA i.n,oy 1 (bE i.r)]) (λ_=>[]) (λi=>(0<=i.n/\i.n<=1000000)/\i.r.length<=247) (λ_=> .iW [.own 0,zA 0]) (λi=>[.own D1 1 (bE (bH i.n i.r))])
@[reducible] def Ow:Nat:=145
@[reducible] def OM:Nat:=152
def kh (l:qo):List D:=[.v (.int .i64 l.n),.ro 1 (bE l.r)]
@[reducible] def IY (H:List qo):ff:= .own OM 2 (H.map kh)
def qo.ok (l:qo):Prop:=(0<=l.n/\l.n<=1000000)/\Ix l.r/\l.r.length<=247
structure Sb where
 x:Es
 H:List qo
def Uh (p:fb) (k r h:Nat):ff:= .cells [sV p.code,.own (k+2),zA p.tick,zA p.low,zA p.high,zA p.wide,zA p.dr,zA p.top,zA p.least,zA p.part,.own (k+3),.nm (k+1) 0,.own (k+r),.own (k+h)] Ow
def Hj (p:fb) (s:Sb) (o:ic):List ff:=[Uh p 0 4 5,iq ⟨o,s.x.W⟩,.ja 1 (iE p.dk),.ja 1 (iE p.settle),yk s.x.R,IY s.H]
def ZB (p:fb) (s:Sb) (o:ic):List ff:=[Uh p 0 6 7,iq ⟨o,s.x.W⟩,.ja 1 (iE p.dk),.ja 1 (iE p.settle),.gone,.gone,yk s.x.R,IY s.H]
def sbK (k:Nat) (p:fb) (s:Sb) (o:ic):List ff:=[Uh p k 4 5,iq ⟨o,s.x.W⟩,.ja 1 (iE p.dk),.ja 1 (iE p.settle),yk s.x.R,IY s.H]
def Fu:fy where
 ι:=fb
 pat:=λp=>[nu p]
 pre:=λ_=>[]
 dp:=λp=>p.check=0/\p.small
 alts:=λp=>[{o:=ic,res:=λ_=> .iW [.nm 0 0,zA 0],post:=λo=>Hj p ⟨ru p,[]⟩ o,rel:=λo=>o.fk p (ru p).B (ru p).U}]
def Gr (p:fb):Es->List qo->List UInt8->Sb
 |x,[],r=>⟨wJ p x r,[]⟩
 |x,l::H,r=>if l.n=(wJ p x r).R.length then Gr p (wJ p x r) H l.r else⟨wJ p x r,l::H⟩
structure nq where
 p:fb
 s:Sb
 o:ic
 n:Int
 r:List UInt8
@[reducible] def nq.ok (i:nq):Prop:=(i.o.fk i.p i.s.x.B i.s.x.U/\iQ i.p i.s.x.B)/\(Ix i.r/\i.r.length<=247)/\(0<=i.n/\i.n<=1000000)/\(∀l∈i.s.H,l.ok)/\i.s.x.R.length+i.s.H.length<=1000000
def nq.Y (i:nq):Sb:=Gr i.p i.s.x i.s.H i.r
def C0:fy:=fj nq (λi=>[.nm 0 0,oy 1 (bE (bH i.n i.r))]) (λi=>Hj i.p i.s i.o) (λi=>i.ok) (λi=> .iW [.agg [zA i.n,oy 1 (bE i.r)],zA 0]) (λi=>Hj i.p i.s i.o)
def uf:fy:=fj (List (List D)) (λl=>[oy 2 l]) (λ_=>[]) (λl=>l.length<=1000000) (λ_=> .own 0) (λl=>[.own OM 2 l])
def nX (s:Sb):Prop:=∀l H,s.H=l::H->l.n≠s.x.R.length+1
def Bc:fy where
 ι:=nq
 pat:=λi=>[.nm 0 0,oy 1 (bE i.r)]
 pre:=λi=>Hj i.p i.s i.o
 dp:=λi=>i.ok/\nX i.s
 alts:=λi=>[{o:=ic,res:=λ_=>c9,post:=λo=>ZB i.p ⟨wJ i.p i.s.x i.r,i.s.H⟩ o,rel:=λo=>o.fk i.p (wJ i.p i.s.x i.r).B (wJ i.p i.s.x i.r).U}]
def QJ:fy:=fj nq (λi=>[.nm 0 0,oy 1 (bE i.r)]) (λi=>Hj i.p i.s i.o) (λ_=>False) (λ_=>c9) (λi=>Hj i.p i.s i.o)
def Gm (k:Nat):fy where
 ι:=nq
 pat:=λi=>[.nm 0 0,oy 1 (bE i.r)]
 pre:=λi=>[Uh i.p 0 4 5,iq ⟨i.o,i.s.x.W⟩,.ja 1 (iE i.p.dk),.ja 1 (iE i.p.settle),yk i.s.x.R,.ja 2 (i.s.H.map kh)]
 dp:=λi=>i.ok/\¬nX i.s/\i.s.H.length<k
 alts:=λi=>[{o:=ic,res:=λ_=>c9,post:=λo=>ZB i.p i.Y o,rel:=λo=>o.fk i.p i.Y.x.B i.Y.x.U}]
def Iv (H:List qo):Prop:=H.Pairwise λa b=>a.n<b.n
def bN (H:List qo) (n:Int):Nat:=(H.takeWhile λl=>decide (l.n<n)).length
def Gs (H:List qo) (n:Int):Bool:=H.any λl=>decide (l.n=n)
structure K1 where
 H:List qo
 n:Int
def Qt:fy:=fj K1 (λi=>[.own 0,zA i.n,.fn 77 [] []]) (λi=>[IY i.H]) (λi=>Iv i.H/\(∀l∈i.H,0<=l.n/\l.n<=1000000)/\(0<=i.n/\i.n<=1000000)/\i.H.length<=1000000) (λi=> .iW [zA (bN i.H i.n),yL (Gs i.H i.n)]) (λi=>[IY i.H])
structure Jj where
 a:Nat
 b:Nat
def y6f:List gj:=[{ι:=Jj,du:=λj=>[(9,zA j.a),(10,zA j.b)],rows:=λ_=>[]}]
def QV:fy:=On OM 2 32
def Gi (p:fb) (s:Sb) (n:Int) (r:List UInt8):Sb×Int:=
 if n<s.x.R.length\/Gs s.H n=ak then(s,33)else if n=s.x.R.length then(Gr p s.x s.H r,0)else
 if 4096<=s.H.length then(s,13)else(⟨s.x,s.H.take (bN s.H n)++⟨n,r⟩::s.H.drop (bN s.H n)⟩,32)
def nq.T (i:nq):Sb:=(Gi i.p i.s i.n i.r).1
def nq.W (i:nq):Int:=(Gi i.p i.s i.n i.r).2
def Ax:fy where
 ι:=nq
 pat:=λi=>[.nm 0 0,oy 1 (bE (bH i.n i.r))]
 pre:=λi=>Hj i.p i.s i.o
 dp:=λi=>i.ok/\Iv i.s.H
 alts:=λi=>[{o:=ic,res:=λ_=>zA i.W,post:=λo=>ZB i.p i.T o,rel:=λo=>o.fk i.p i.T.x.B i.T.x.U}]
structure Ah where
 p:fb
 s:Sb
 o:ic
 z:Nat
def y4i (p:fb) (q:Int) (m t g j v r:Nat):ff:= .cells [sV p.code,.own m,zA p.tick,zA p.low,zA p.high,zA p.wide,zA p.dr,zA p.top,zA p.least,zA p.part,.own t,.nm j 0,.nm g 0,.own v,zA q,.own r] Eu
def y7l (p:fb) (m t r h:Nat):ff:= .cells [sV p.code,.own m,zA p.tick,zA p.low,zA p.high,zA p.wide,zA p.dr,zA p.top,zA p.least,zA p.part,.own t,.nm 1 0,.own r,.own h] Ow
def Ay:fy where
 ι:=Ah
 pat:=λ_=>[.nm 0 0,.nm 6 0]
 pre:=λi=>Hj i.p i.s i.o++[iy ⟨[],i.z⟩]
 dp:=λi=>((i.p.check=0/\i.p.small)/\i.o.fk i.p i.s.x.B i.s.x.U/\iQ i.p i.s.x.B)/\(i.s.x=x6 i.p i.s.x.R/\∀r∈i.s.x.R,Ix r/\r.length<=101)/\i.s.x.R.length<=1000/\i.z=0
 alts:=λi=>[{o:=ic,res:=λ_=> .iW [.nm 7 0,zA 0],post:=λo=>[y7l i.p 14 15 16 17,iq ⟨i.o,i.s.x.W⟩,.gone,.gone,.gone,.gone,iy ⟨mu i.s.x.R,(mu i.s.x.R).length⟩,y4i i.p i.s.x.q 11 12 9 8 13 10,D3 6 i.s.x.R.length,iq ⟨o,i.s.x.W⟩,yk i.s.x.R,.ja 1 (iE i.p.dk),.ja 1 (iE i.p.settle),BR (yQ i.p i.s.x.B),.ja 1 (iE i.p.dk),.ja 1 (iE i.p.settle),yk i.s.x.R,IY i.s.H],rel:=λo=>o.fk i.p i.s.x.B i.s.x.U}]
structure Eg where
 x:Es
 o:ic
 d:Dk
 k:Nat
def yRs (i:Ah):List gj:=[{ι:=Eg,du:=λj=>[(0,.nm 0 0),(1,.nm 6 0),(6,.nm 7 0),(33,.own 4),(35,zA j.k)],rows:=λj=>Hj i.p i.s i.o++[iy j.d,y4i i.p j.x.q 11 12 9 8 13 10,D3 6 j.x.R.length,iq ⟨j.o,j.x.W⟩,yk j.x.R,.ja 1 (iE i.p.dk),.ja 1 (iE i.p.settle),BR (yQ i.p j.x.B)]}]
structure TpI where
 x:fb
 p:fb
 l:List ib
 ss:List Int
@[reducible] def TpI.ok (i:TpI):Prop:=i.p=gy i.x/\i.x.raw/\(∀c∈i.l,c.raw)/\(∀s∈i.ss,gq s)/\i.l.length<=9223372036854775807/\i.ss.length<=9223372036854775807
structure ry where
 x:fb
 p:fb
 l:List ib
 ss:List Int
 m:List ib
@[reducible] def ry.ok (i:ry):Prop:=(TpI.mk i.x i.p i.l i.ss).ok/\(∀c∈i.m,c.raw)/\i.m.length<=9223372036854775807
def KX:fy:=fj ry (λi=>[nu i.x,oy 9 (i.l.map rf),oy 1 (iE i.ss),oy 9 (i.m.map rf)]) (λ_=>[]) (λi=>i.ok) (λ_=>yL ak) (λ_=>[])
structure qh where
 x:Es
 o:ic
 d:Dk
 k:Nat
structure AM where
 x:Es
 o:ic
 d:Dk
 s:Sb
 o2:ic
 k:Nat
structure uw where
 x:Es
 o:ic
 d:Dk
 x2:Es
 o2:ic
 d2:Dk
 k:Nat
def chA (i:ry):List gj:=[
 {ι:=qh,du:=λj=>[(9,.nm 8 0),(10,.nm 0 0),(13,zA j.k)],rows:=λj=>Dh i.p j.x j.o j.d++TR i.p},
 {ι:=qh,du:=λj=>[(9,.nm 8 0),(10,.nm 0 0),(14,zA j.k)],rows:=λj=>Dh i.p j.x j.o j.d++TR i.p,fr:=λn=>Nat.blt n 4},
 {ι:=AM,du:=λj=>[(9,.nm 8 0),(10,.nm 0 0),(15,.nm 11 0),(17,zA j.k)],rows:=λj=>Dh i.p j.x j.o j.d++TR i.p++sbK 11 i.p j.s j.o2},
 {ι:=uw,du:=λj=>[(9,.nm 8 0),(10,.nm 0 0),(22,.nm 11 0),(24,zA j.k)],rows:=λj=>Dh i.p j.x j.o j.d++TR i.p++ZQ 11 i.p j.x2 j.o2 j.d2}]
def y7b (i:ry):gj:={ι:=uw,oP:=λ_=>[(10,.nm 0 0),(22,.nm 8 0)],lp:=λj=>Dh i.p j.x j.o j.d++ZQ 8 i.p j.x2 j.o2 j.d2,du:=λ_=>[(10,.nm 0 0),(22,.nm 8 0),(164,yL am)],rows:=λj=>Dh i.p j.x j.o j.d++ZQ 8 i.p j.x2 j.o2 j.d2}
def chJ (i:ry):List (Nat×gj):=[(24,bj 43),(7,gJ i.p 10),(92,bj 129),(104,bj 137),(116,y7b i)]
end Sx
