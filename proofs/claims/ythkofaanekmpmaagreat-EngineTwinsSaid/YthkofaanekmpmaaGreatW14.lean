/- Texts of ours. No condition. -/
import Derived.Test.YthkofaanekmpmaaGreatW13
set_option linter.all false
open Sx.AObj renaming fro->aa,cells->ab
open List renaming map->ac,replicate->ae,drop->af
open Go.IntKind renaming i64->ag,u8->aj
namespace Sx
set_option maxRecDepth 100000
open Go Cv Go.Proofs
def yOt {n lo hi:Int} (h:lo<=hi):lo<=zF n lo hi/\zF n lo hi<=hi:=by
 have h1:=xBt n (show hi-lo+1≠0 by omega);have h2:=xBu n (show 0<hi-lo+1 by omega);rw[zF];constructor<;>omega
open Classical in
open Classical in
def y0d {p:Prd} {v w:Vw} (hv:VwG p v) (hw:VwG p w):v.length=w.length/\Vw.levs v<=100000000/\Vw.levs w<=100000000/\v.length<=1000000:=by
 have h1:=yFw hv;have h2:=yFw hw;have h3:=hv.r.2;have h4:=hw.r.2;exact⟨by rw[hv.len,hw.len],oM,oM,oM⟩
def yTf (i:LkI) (h:lookOC.cnd i):yIw i:=by
 obtain⟨hR,hB⟩:i.s.Rep i.p i.B/\BOk i.p i.B:=h;have hcl:=xU i.p;have hbl:=hB.bl;have hcnt:i.s.cntOk:=hR.cnt oM;have hto:vS (i.B.map kD):=hB.tops;have hll:=zJb i.p i.B;unfold yIw fH aG kM fQ dV cG uG yD dI;refine⟨i.p,rF7 (rF3 ⟨rfl,hB.ps,λ_ _=>Cv.cnd.mk (λc=>absurd hB.pc (by simpa using c)) (λ_=>⟨i.s,rfl,hcnt,λ_ _=>⟨i.p,rF7 (rF3 ⟨rfl,hB.ps,λ_ _=>⟨0,rfl,rfl,by rw[hR.tops],λj=>j<=i.p.count,λj=>i.p.count-j,y6z _,λj hj=>zH (λhlt=> ?_) (λhlt=> ?_)⟩⟩)⟩⟩)⟩)⟩
 ·have hlt:j<i.p.count:=by omega
  have hat:atB i.B (j:Int)=i.B.getD j []:=by rw[atB,y5t (by omega),y6m]
  have hq:∀s,(x5 ⟨i.p,i.B.map kD,j⟩ s).length<=1000000:=λs=>y8p (zKa _ _) Z8
  refine⟨⟨Z8,Z8⟩,1,rfl,⟨i.s,i.p,i.B,j,false⟩,rfl,rfl,rfl,⟨hR,Z9⟩,λ_ _=>⟨⟨⟨i.p,i.B.map kD,j⟩,false⟩,rF8 (rF5 ⟨rfl,⟨hB.ps,hto⟩,λ_ _=>⟨⟨x5 ⟨i.p,i.B.map kD,j⟩ 1,1⟩,rfl,rfl,⟨.inl rfl,hq 1⟩,λ_ _=>⟨⟨Z8,Z8⟩,2,rfl,⟨i.s,i.p,i.B,j,true⟩,rfl,rfl,rfl,⟨hR,Z9⟩,λ_ _=>⟨⟨⟨i.p,i.B.map kD,j⟩,true⟩,rF8 (rF5 ⟨rfl,⟨hB.ps,hto⟩,λ_ _=>⟨⟨x5 ⟨i.p,i.B.map kD,j⟩ 2,2⟩,rfl,rfl,⟨.inr rfl,hq 2⟩,λ_ _=>⟨?_,j+1,wjn oM,?_,rfl,Z9,Z9,rfl,k0q⟩⟩⟩)⟩⟩⟩⟩)⟩⟩
  ·rw[y5u,y6l];omega
  ·rw[y7c,yAg i.p i.B hlt,y8w,y6d,y6i,y9l];dsimp only;rw[hat];rfl
 ·have hj:j<=i.p.count:=hj;rw[y6f (by omega)];exact⟨(),k0q⟩
def z0c:lookOC.ok Tryz.prog 48:=okw mixed (gokc eK (gokc yMt (gokc aF (gokc yMm (gokc zRv (gokc yPg gok0)))))) 1 (λ_=>[]) (λi=>y2p i) [] Tryz.func48 yTf
def z5p:gchkC.ok Tryz.prog 39:=okw (V:=y0g) mixed (gokc z1d gok0) 0 (λ_=>[]) (λ_=>[]) [] Tryz.func39 λ(i:SbI) h=>⟨i,rfl,rfl,h,λ_ _=>⟨(),rfl,trivial⟩⟩
def zRx:glookC.ok Tryz.prog 90:=okw (V:=yUq) mixed gok0 0 (λ_=>[]) (λ_=>[]) [] Tryz.func90 λ(g:Gt) _=>⟨(),rfl,rfl,trivial⟩
def z0e:mlookC.ok Tryz.prog 91:=okw (V:=yUl) mixed gok0 0 (λ_=>[]) (λ_=>[]) [] Tryz.func91 λ(m:Mkt) _=>⟨(),k0q⟩
def zPz {p:Prd} {B:List (List zI)} (h:BWf p B) (U:List Int) (W:List (Int×Int)) (s:Int) (b:List UInt8):BOk p (rF p B U W s b).B:=by
 rw[rF];split
 ·exact h.ok
 split
 ·exact h.ok
 rw[zSb];split
 ·exact h.ok
 split
 ·exact h.ok
 ·exact yWq h U _
def y3d {p:Prd} {v w:Vw} (hv:VwG p v) (hw:VwG p w):(j8 0 v w).length<=202000000:=by
 obtain⟨h1,h2,h3,h4⟩:=y0d hv hw;have:=yHw v w v.length (y6p _) oM;rw[y6f (y6p _),y6f (by omega)]at this;omega
def ved (i:EdI) (h:edC.cnd i):Ved i:=by
 obtain⟨o0,x,p,s,b⟩:=i;obtain⟨⟨hM,hB⟩,hb,⟨hs1,hs2⟩,⟨hq1,hq2⟩,hR⟩:(o0.Rep p x.B x.U/\BOk p x.B)/\b.length<=1048576/\(0<=s/\s<8)/\(0<=x.q/\x.q<=1000000000000000000)/\x.R.length<=1000000:=h;have hwf:=hM.s.wf hB;have hB2:BOk p (x.X p s b).B:=zPz hwf _ _ _ _;have hls:((lob s).toNat:Int)=aj.wrap s:=(zBg s).symm;unfold Ved zLn z4i z2j z3b zAh zAz;dsimp only;refine⟨trivial,trivial,[[lob s],b],?_,⟨by simp,by simp;omega,by simp⟩,λ_ _=>⟨trivial,trivial,by rw[y5u];omega,⟨⟨o0,x.W⟩,p,x.B,x.U,s,b,x.X p s b⟩,rfl,rfl,rfl,⟨⟨hM,hB⟩,Z9,rfl⟩,λo ho=> ?_⟩⟩
 ·show[rcE [lob s],rcE b]=_;rw[rcE,rcE,<- hls];rfl
 have hv:=zVo hwf;have hw:=zVo (ho.s.wf hB2);obtain⟨g1,g2,g3,g4⟩:=y0d hv hw;have hl:=y3d hv hw;have er:ac rcE (x.R++[vG s b])=ac rcE x.R++[[D.ro 1 (bE [[lob s],b].flatten)]]:=by
  rw[y6d];simp[rcE,vG]
 have eq1:x.q+((x.M p s b).length:Int)=ag.wrap (x.q+(ac yN (wT x.q (x.M p s b))).length):=by
  have:(x.M p s b).length<=202000000:=hl;rw[y5u,nX,w64 (by omega)]
 refine⟨⟨⟨o,(x.X p s b).W⟩,rfl,rfl,trivial,λ_ _=>⟨k0q,⟨o,rF8 (rF4 ⟨rfl,trivial,λ_ _=>⟨k0q,?_,k0q,?_⟩⟩)⟩,k0q,o,rfl,rfl,rfl,rfl,rfl,rfl,rfl,rfl,rfl,rfl,rfl,rfl,rfl,trivial,λ_ _=>⟨k0q,?_⟩⟩⟩,trivial,k0q,⟨o,(x.X p s b).W⟩,rfl,rfl,trivial,λ_ _=>⟨k0q,o,rF8 (rF4 ⟨rfl,trivial,λ_ _=>⟨k0q,?_⟩⟩)⟩⟩
 all_goals exact⟨⟨o.s,p,(x.X p s b).B⟩,rF8 (rF3 ⟨rfl,⟨ho.s,hB2⟩,λ_ _=>⟨⟨y3 p x.B,y3 p (x.X p s b).B,x.q⟩,rfl,rfl,rfl,⟨g1,⟨Z9,Z9⟩,g2,g3,g4⟩,λ_ _=>⟨o,rF8 ⟨rfl,eq1,rF8 (rF7 ⟨rfl,er,rF3 ho⟩)⟩⟩⟩⟩)⟩
def ySg:edC.ok Tryz.prog 92:=okw mixed (gokc z9e (gokc yJj (gokc zRx (gokc z0e (gokc z0c (gokc yGd gok0)))))) 0 (λ_=>[]) (λ_=>[]) [] Tryz.func92 ved
structure EoI where
 o:Mkt
 x:Es
 p:Prd
 d:Dk
 s:Int
 b:List UInt8
def z4x (p:Prd) (x:Es) (o:Mkt) (d:Dk):List AObj:=[enC (x.en p) 4 7,jnR 3 x.R.length,GtR ⟨o,x.W⟩,DkR d,rcR x.R,.fro 1 (iE p.months),.fro 1 (iE p.settle),zJo (y3 p x.B)]
@[reducible] def EoI.ok (i:EoI):Prop:=(i.o.Rep i.p i.x.B i.x.U/\BOk i.p i.x.B)/\i.b.length<=254/\(-1<=i.s/\i.s<8)/\(0<=i.x.q/\i.x.q<=1000000000000000000)/\i.x.R.length<=1000000/\i.d.b.length+i.b.length+7<=1048576
def EoI.Y (i:EoI):Es:=i.x.ed i.p i.s i.b
def EoI.N (i:EoI):List eB:=wT i.x.q (i.x.M i.p i.s i.b)
def EoI.O (i:EoI):List (Int×Rep):=(i.x.X i.p i.s i.b).O
def EoI.D (i:EoI):Dk:=⟨i.d.b++xI (vG i.s i.b),i.d.safe⟩
def edoC:Con where
 ι:=EoI
 pat:=λi=>[.nm 0 0,zA i.s,roV 1 (bE i.b)]
 pre:=λi=>z4x i.p i.x i.o i.d
 cnd:=λi=>i.ok
 alts:=λi=>[
  {o:=Mkt,res:=λ_=> .agg [.own 8,zZt],post:=λo=>z4x i.p i.x o i.d++[zUx [(i.s,⟨2,0,0,0,0,0,0,(zR i.s i.b).2⟩)]],rel:=λo=>(zR i.s i.b).2≠0/\o.Rep i.p i.x.B i.x.U},
  {o:=Mkt,res:=λ_=> .agg [.own 10,.own 11],post:=λo=>[enC (i.Y.en i.p) 8 9,jnR 3 i.Y.R.length,GtR ⟨o,i.Y.W⟩,DkR i.D,.gone,.fro 1 (iE i.p.months),.fro 1 (iE i.p.settle),.gone,rcR i.Y.R,zJo (y3 i.p i.Y.B),zUx i.O,yBs i.N],rel:=λo=>(zR i.s i.b).2=0/\o.Rep i.p i.Y.B i.Y.U}]
def es0 (p:Prd):Es:=⟨ae p.count [],[],[],0,[]⟩
def yRe (p:Prd) (x:Es) (r:List UInt8):Es:=x.ed p (r.headD 0).toNat r.tail
def qS (p:Prd) (L:List (List UInt8)):Es:=L.foldl (yRe p) (es0 p)
def yDm (r:List UInt8):Prop:=r≠[]/\(zR (r.headD 0).toNat r.tail).2=0
structure EpI where
 p:Prd
 s:Nat
 L:List (List UInt8)
 t:List UInt8
def EpI.j (i:EpI):JoI:=⟨i.s,i.L,i.t⟩
@[reducible] def EpI.ok (i:EpI):Prop:=(i.p.check=0/\i.p.small)/\((ScI.mk i.L i.t).ok/\i.j.d.ok)/\(∀r∈i.L,yDm r)/\i.L.length<=100000
def enK (e:En):AObj:= .cells [sV e.p.code,.own 5,zA e.p.tick,zA e.p.low,zA e.p.high,zA e.p.wide,zA e.p.rule,zA e.p.top,zA e.p.least,zA e.p.part,.own 6,.nm 2 0,.nm 3 0,.own 7,zA e.q,.own 4] zIc
def eopC:Con where
 ι:=EpI
 pat:=λi=>[prdV i.p,.nm 0 0]
 pre:=λi=>[DkR i.j.d]
 cnd:=λi=>i.ok
 alts:=λi=>[{o:=Mkt,res:=λ_=> .tup [.nm 1 0,zA 0],post:=λo=>[DkR i.j.d',enK ((qS i.p i.L).en i.p),jnR 0 i.L.length,GtR ⟨o,(qS i.p i.L).W⟩,rcR (qS i.p i.L).R,.fro 1 (iE i.p.months),.fro 1 (iE i.p.settle),zJo (y3 i.p (qS i.p i.L).B)],rel:=λo=>o.Rep i.p (qS i.p i.L).B (qS i.p i.L).U}]
structure EpJ where
 o:Mkt
 x:Es
 k:Nat
def y4m (i:EpI):List SAnn:=[{ι:=EpJ,slots:=λj=>[(6,.nm 2 0),(10,.nm 0 0),(48,.own 8),(50,zA j.k)],rows:=λj=>[enC (j.x.en i.p) 4 7,jnR 3 i.L.length,GtR ⟨j.o,j.x.W⟩,DkR i.j.d',rcR j.x.R,.fro 1 (iE i.p.months),.fro 1 (iE i.p.settle),zJo (y3 i.p j.x.B),rcR i.L]}]
noncomputable def esnC:Con:=con1 En (λ_=>[.nm 0 0]) (λe=>[enC e 4 7,.gone,.gone,.gone,.gone,.gone,.gone,zJo e.v]) (λe=>zBk e.v) (λe=>roV 1 (bE (uD e.v e.q))) (λe=>[enC e 4 7,.gone,.gone,.gone,.gone,.gone,.gone,zJo e.v])
structure ErI where
 e:En
 n:Int
def erecC:Con where
 ι:=ErI
 pat:=λi=>[.nm 0 0,zA i.n]
 pre:=λi=>[enC i.e 4 7,.gone,.gone,.gone,rcR i.e.R,.gone,.gone,.gone]
 cnd:=λi=>i.e.R.length<=1000000/\∀r∈i.e.R,r.length<=1048576
 alts:=λi=>[
  {o:=Unit,res:=λ_=> .tup [roV 1 (bE (i.e.R.getD i.n.toNat [])),yR true],post:=λ_=>[enC i.e 4 7,.gone,.gone,.gone,rcR i.e.R,.gone,.gone,.gone],rel:=λ_=>0<=i.n/\i.n<i.e.R.length},
  {o:=Unit,res:=λ_=> .tup [zZt,yR false],post:=λ_=>[enC i.e 4 7,.gone,.gone,.gone,rcR i.e.R,.gone,.gone,.gone],rel:=λ_=>¬(0<=i.n/\i.n<i.e.R.length)}]
def zGb (a:EdI):Prop:=(a.o.Rep a.p a.x.B a.x.U/\BOk a.p a.x.B)/\a.b.length<=1048576/\(0<=a.s/\a.s<8)/\(0<=a.x.q/\a.x.q<=1000000000000000000)/\a.x.R.length<=1000000
def fY (a:EoI):=(ac yG (y3 a.p (a.x.X a.p a.s a.b).B))
def gL (a:EoI):=(a.x.R++[vG a.s a.b])
def dB (a:EoI):=(↑(gL a).length:Int)
def dD (a:EoI):=(↑(a.x.M a.p a.s a.b).length:Int)
def vI (a:EoI):=(ac yG (y3 a.p a.x.B))
def yZq (i:EoI):Prop:=
 ∃(a:SbI),a.s=i.s/\bE a.b=bE i.b/\a.b.length<=1099511627776/\∀(b:Unit),True->cnd ((zR a.s a.b).snd !=0) (∃(c:GdI),c.s=i.s/\bE c.b=bE i.b/\GtR c.g=GtR (Gt.mk i.o i.x.W)/\(zLn c)/\∀(d:Mkt),d.Rep c.p c.X.B c.X.U->(∃(e:Mkt),True/\dh (sb i.p.code)/\dh i.p.tick/\dh i.p.low/\dh i.p.high/\dh i.p.wide/\dh i.p.rule/\dh i.p.top/\dh i.p.least/\dh i.p.part/\dh i.x.q/\dh ((↑i.x.R.length:Int))/\GtR (Gt.mk e i.x.W)=GtR (Gt.mk d c.X.W)/\dh (DkR i.d)/\dh (ac rcE i.x.R)/\dh (aa 1 (iE i.p.months))/\dh (aa 1 (iE i.p.settle))/\aa 10 (vI i)=zJo (y3 i.p i.x.B)/\[xZ (i.s,Rep.mk 2 0 0 0 0 0 0 (zR i.s i.b).snd)]=ac xZ c.X.O/\(zR i.s i.b).snd≠0/\e.Rep i.p i.x.B i.x.U)\/∃(o_1:Mkt),dh (sb i.p.code)/\dh i.p.tick/\dh i.p.low/\dh i.p.high/\dh i.p.wide/\dh i.p.rule/\dh i.p.top/\dh i.p.least/\dh i.p.part/\i.x.q+(dD i)=i.x.q/\(dB i)=(↑i.x.R.length:Int)/\GtR (Gt.mk o_1 (i.x.X i.p i.s i.b).W)=GtR (Gt.mk d c.X.W)/\DkR i.D=DkR i.d/\dh (aa 1 (iE i.p.months))/\dh (aa 1 (iE i.p.settle))/\ac rcE (gL i)=ac rcE i.x.R/\aa 10 (fY i)=zJo (y3 i.p i.x.B)/\ac xZ i.O=ac xZ c.X.O/\ac yN i.N=[]/\(zR i.s i.b).snd=0/\o_1.Rep i.p (i.x.X i.p i.s i.b).B (i.x.X i.p i.s i.b).U) (True/\True/\∃(c:List (List UInt8)),ac rcE c=[[D.ro 1 [[D.v (.int .u8 (aj.wrap i.s))]]],[D.ro 1 (bE i.b)]]/\(1<=c.flatten.length/\c.flatten.length<=1099511627776/\c.length<=1000)/\∀(d:Unit),True->True/\∃(e:JaI),bE e.l=bE c.flatten/\e.n=(↑i.x.R.length:Int)/\DkR e.d=DkR i.d/\(e.l.length<=255/\e.d.b.length+e.l.length+(6:Nat)<=(1048576:Nat)/\0<=e.n/\e.n<=1048576)/\∀(f:Unit),True->∃(g:EdI),g.s=i.s/\bE g.b=bE i.b/\sb g.p.code=sb i.p.code/\g.p.tick=i.p.tick/\g.p.low=i.p.low/\g.p.high=i.p.high/\g.p.wide=i.p.wide/\g.p.rule=i.p.rule/\g.p.top=i.p.top/\g.p.least=i.p.least/\g.p.part=i.p.part/\g.x.q=i.x.q/\GtR g.g=GtR (Gt.mk i.o i.x.W)/\ac rcE g.x.R=ac rcE i.x.R/\aa 1 (iE g.p.months)=aa 1 (iE i.p.months)/\aa 1 (iE g.p.settle)=aa 1 (iE i.p.settle)/\aa 10 (ac yG (y3 g.p g.x.B))=zJo (y3 i.p i.x.B)/\(zGb g)/\∀(h:Mkt),h.Rep g.p (g.x.X g.p g.s g.b).B (g.x.X g.p g.s g.b).U->(∃(j:Mkt),False)\/∃(o_1:Mkt),sb i.p.code=sb g.p.code/\i.p.tick=g.p.tick/\i.p.low=g.p.low/\i.p.high=g.p.high/\i.p.wide=g.p.wide/\i.p.rule=g.p.rule/\i.p.top=g.p.top/\i.p.least=g.p.least/\i.p.part=g.p.part/\i.x.q+(dD i)=g.x.q+(↑(g.x.M g.p g.s g.b).length:Int)/\(dB i)=e.n+1/\GtR (Gt.mk o_1 (i.x.X i.p i.s i.b).W)=GtR (Gt.mk h (g.x.X g.p g.s g.b).W)/\DkR i.D=DkR (Dk.mk (e.d.b++xI e.l) e.d.safe)/\aa 1 (iE i.p.months)=aa 1 (iE g.p.months)/\aa 1 (iE i.p.settle)=aa 1 (iE g.p.settle)/\ac rcE (gL i)=ac rcE (g.x.R++[vG g.s g.b])/\aa 10 (fY i)=aa 10 (zAh g)/\ac xZ i.O=ac xZ g.O/\ac yN i.N=ac yN g.N/\(zR i.s i.b).snd=0/\o_1.Rep i.p (i.x.X i.p i.s i.b).B (i.x.X i.p i.s i.b).U)
def pU (a:EpI):Prop:=sb a.p.code=sb a.p.code/\True/\dh a.p.tick/\dh a.p.low/\dh a.p.high/\dh a.p.wide/\dh a.p.rule/\dh a.p.top/\dh a.p.least/\dh a.p.part/\True/\True
def zPu (a:JoI):Prop:=((∀(b:List UInt8),b∈a.L->b.length<=255)/\(zCx a.t).snd.snd=10/\(fsB a.L).length+a.t.length<=1048576)/\a.s<=(fsB a.L++a.t).length/\(fsB a.L++a.t).length<=1048576
def jT (a:EpI):=(ac yG (y3 a.p (qS a.p a.L).B))
def yZg (i:EpI):Prop:=
 ∃(a:Prd),sb a.code=sb i.p.code/\iE a.months=iE i.p.months/\a.tick=i.p.tick/\a.low=i.p.low/\a.high=i.p.high/\a.wide=i.p.wide/\a.rule=i.p.rule/\a.top=i.p.top/\a.least=i.p.least/\a.part=i.p.part/\iE a.settle=iE i.p.settle/\(yD a)/\(∀(b:Unit),a.check=0->∃(c:JoI),DkR c.d=DkR i.j.d/\(zPu c)/\∀(d:Unit),True->∃(e:List Int),iE e=iE i.p.months/\e.length<=1000000/\∀(f:Unit),True->True/\∃(g:List Int),iE g=iE i.p.settle/\g.length<=1000000/\∀(h:Unit),True->∃(j:Gt),kX j.m=kX (Mkt.mk a (mS a) [])/\xH j.W=xH []/\True/\∀(k:Unit),True->(pU i)/\(pU i)/\∃(l:Mkt),sb l.p.code=sb j.m.p.code/\l.p.tick=j.m.p.tick/\l.p.low=j.m.p.low/\l.p.high=j.m.p.high/\l.p.wide=j.m.p.wide/\l.p.rule=j.m.p.rule/\l.p.top=j.m.p.top/\l.p.least=j.m.p.least/\l.p.part=j.m.p.part/\zD l.s=zD j.m.s/\zU l.used=zU j.m.used/\aa 1 (iE l.p.months)=aa 1 (iE j.m.p.months)/\aa 1 (iE l.p.settle)=aa 1 (iE j.m.p.settle)/\True/\∀(m:Unit),True->(pU i)/\(pU i)/\∃(n:LkI),sb n.p.code=sb i.p.code/\iE n.p.months=iE e/\n.p.tick=i.p.tick/\n.p.low=i.p.low/\n.p.high=i.p.high/\n.p.wide=i.p.wide/\n.p.rule=i.p.rule/\n.p.top=i.p.top/\n.p.least=i.p.least/\n.p.part=i.p.part/\iE n.p.settle=iE g/\zD n.s=zD l.s/\(n.s.Rep n.p n.B/\BOk n.p n.B)/\∀(p:Unit),True->(pU i)/\∃(q:EpJ),(↑q.k:Int)=0/\dh (sb i.p.code)/\dh i.p.tick/\dh i.p.low/\dh i.p.high/\dh i.p.wide/\dh i.p.rule/\dh i.p.top/\dh i.p.least/\dh i.p.part/\q.x.q=0/\(↑i.L.length:Int)=(↑c.L.length:Int)/\sb q.o.p.code=sb l.p.code/\q.o.p.tick=l.p.tick/\q.o.p.low=l.p.low/\q.o.p.high=l.p.high/\q.o.p.wide=l.p.wide/\q.o.p.rule=l.p.rule/\q.o.p.top=l.p.top/\q.o.p.least=l.p.least/\q.o.p.part=l.p.part/\zD q.o.s=zD n.s/\zU q.o.used=zU l.used/\aa 1 (iE q.o.p.months)=aa 1 (iE l.p.months)/\aa 1 (iE q.o.p.settle)=aa 1 (iE l.p.settle)/\xH q.x.W=xH j.W/\DkR i.j.d'=DkR c.d'/\ac rcE q.x.R=[]/\aa 1 (iE i.p.months)=aa 1 (iE e)/\aa 1 (iE i.p.settle)=aa 1 (iE g)/\ac yG (y3 i.p q.x.B)=ac yG (y3 n.p n.B)/\ac rcE i.L=ac rcE c.L/\∃(r:EpJ->Prop),∃(s:EpJ->Nat),r q/\∀(t:EpJ),r t->cnd (decide ((↑t.k:Int)<(↑(ac rcE c.L).length:Int))) ((0<=(↑t.k:Int)/\(↑t.k:Int)<(↑(ac rcE i.L).length:Int))/\∃(u:List (List D)),zE (ac rcE i.L) (↑t.k:Int).toNat 0 1=some [D.ro 1 u]/\cnd ((↑u.length:Int)==0) (∃(v:Mkt),False) (((0:Int)<=(0:Int)/\0<(↑u.length:Int))/\∃(v:Int),zE u (Int.toNat 0) 0 1=some [D.v (.int .u8 v)]/\((0:Int)<=(1:Int)/\1<=(↑u.length:Int))/\∃(w:SbI),w.s=ag.wrap v/\bE w.b=af (Int.toNat 1) u/\w.b.length<=1099511627776/\∀(x:Unit),True->cnd ((zR w.s w.b).snd !=0) (∃(y:Mkt),False) (((0:Int)<=(0:Int)/\0<(↑u.length:Int))/\∃(y:Int),zE u (Int.toNat 0) 0 1=some [D.v (.int .u8 y)]/\((0:Int)<=(1:Int)/\1<=(↑u.length:Int))/\∃(z:EdI),z.s=ag.wrap y/\bE z.b=af (Int.toNat 1) u/\sb z.p.code=sb i.p.code/\z.p.tick=i.p.tick/\z.p.low=i.p.low/\z.p.high=i.p.high/\z.p.wide=i.p.wide/\z.p.rule=i.p.rule/\z.p.top=i.p.top/\z.p.least=i.p.least/\z.p.part=i.p.part/\z.x.q=t.x.q/\GtR z.g=GtR (Gt.mk t.o t.x.W)/\ac rcE z.x.R=ac rcE t.x.R/\aa 1 (iE z.p.months)=aa 1 (iE i.p.months)/\aa 1 (iE z.p.settle)=aa 1 (iE i.p.settle)/\aa 10 (ac yG (y3 z.p z.x.B))=aa 10 (ac yG (y3 i.p t.x.B))/\(zGb z)/\∀(a_1:Mkt),a_1.Rep z.p (z.x.X z.p z.s z.b).B (z.x.X z.p z.s z.b).U->∃(a_2:EpJ),(↑a_2.k:Int)=ag.wrap ((↑t.k:Int)+1)/\sb i.p.code=sb z.p.code/\i.p.tick=z.p.tick/\i.p.low=z.p.low/\i.p.high=z.p.high/\i.p.wide=z.p.wide/\i.p.rule=z.p.rule/\i.p.top=z.p.top/\i.p.least=z.p.least/\i.p.part=z.p.part/\a_2.x.q=z.x.q+(↑(z.x.M z.p z.s z.b).length:Int)/\dh ((↑i.L.length:Int))/\GtR (Gt.mk a_2.o a_2.x.W)=GtR (Gt.mk a_1 (z.x.X z.p z.s z.b).W)/\dh (DkR i.j.d')/\ac rcE a_2.x.R=ac rcE (z.x.R++[vG z.s z.b])/\aa 1 (iE i.p.months)=aa 1 (iE z.p.months)/\aa 1 (iE i.p.settle)=aa 1 (iE z.p.settle)/\aa 10 (ac yG (y3 i.p a_2.x.B))=aa 10 (zAh z)/\dh (ac rcE i.L)/\r a_2/\s a_2<s t/\dh (aa 1 (iE l.p.months))/\dh (aa 1 (iE l.p.settle))/\dh (aa 1 (iE j.m.p.months))/\dh (aa 1 (iE j.m.p.settle))/\dh (aa 1 (iE g))/\dh (aa 1 (iE e))/\dh (ab [V.d (D.v (Value.string (sb i.p.code))),V.own 7,V.d (dI i.p.tick),V.d (dI i.p.low),V.d (dI i.p.high),V.d (dI i.p.wide),V.d (dI i.p.rule),V.d (dI i.p.top),V.d (dI i.p.least),V.d (dI i.p.part),V.own 8] 25)/\dh (aa 1 (iE i.p.settle))/\dh (aa 1 (iE i.p.months))))) (∃(u:Mkt),dh ((0:Int))/\dh (DkR i.j.d')/\dh (sb i.p.code)/\dh i.p.tick/\dh i.p.low/\dh i.p.high/\dh i.p.wide/\dh i.p.rule/\dh i.p.top/\dh i.p.least/\dh i.p.part/\(qS i.p i.L).q=t.x.q/\dh ((↑i.L.length:Int))/\GtR (Gt.mk u (qS i.p i.L).W)=GtR (Gt.mk t.o t.x.W)/\ac rcE (qS i.p i.L).R=ac rcE t.x.R/\dh (aa 1 (iE i.p.months))/\dh (aa 1 (iE i.p.settle))/\aa 10 (jT i)=aa 10 (ac yG (y3 i.p t.x.B))/\u.Rep i.p (qS i.p i.L).B (qS i.p i.L).U))/\∀(b:Unit),a.check≠0->cnd (a.check !=0) (∃(c:Mkt),False) (∃(c:JoI),DkR c.d=DkR i.j.d/\(zPu c)/\∀(d:Unit),True->∃(e:List Int),iE e=iE i.p.months/\e.length<=1000000/\∀(f:Unit),True->True/\∃(g:List Int),iE g=iE i.p.settle/\g.length<=1000000/\∀(h:Unit),True->∃(j:Gt),False)
def y5j (e:En):Prop:=
 ∃(i:zQk),ac yG i.v=ac yG e.v/\i.seq=e.q/\(List.length i.v<=1099511627776/\∀(b:Sd×Sd),b∈i.v->b.fst.levels.length<=1099511627776/\b.snd.levels.length<=1099511627776)/\∀(o:Unit),True->∃(o:Unit),bE (uD e.v e.q)=bE (uD i.v i.seq)/\dh (sb e.p.code)/\dh e.p.tick/\dh e.p.low/\dh e.p.high/\dh e.p.wide/\dh e.p.rule/\dh e.p.top/\dh e.p.least/\dh e.p.part/\e.q=e.q/\aa 10 (ac yG e.v)=zJo e.v/\True
def zGx (a:ErI):Prop:=sb a.e.p.code=sb a.e.p.code/\dh a.e.p.tick/\dh a.e.p.low/\dh a.e.p.high/\dh a.e.p.wide/\dh a.e.p.rule/\dh a.e.p.top/\dh a.e.p.least/\dh a.e.p.part/\dh a.e.q/\dh (ac rcE a.e.R)/\0<=a.n/\a.n<(↑a.e.R.length:Int)
def zOb (a:ErI):Prop:=(∃(b:Unit),bE (a.e.R.getD a.n.toNat [])=[]/\true=false/\zGx a)\/∃(o:Unit),True/\dh false/\dh (sb a.e.p.code)/\dh a.e.p.tick/\dh a.e.p.low/\dh a.e.p.high/\dh a.e.p.wide/\dh a.e.p.rule/\dh a.e.p.top/\dh a.e.p.least/\dh a.e.p.part/\dh a.e.q/\dh (ac rcE a.e.R)/\(0<=a.n/\a.n<(↑a.e.R.length:Int)->False)
def ySi (i:ErI):Prop:=
 cnd (decide (i.n<0)) (zOb i) (cnd (decide (i.n>=(↑(ac rcE i.e.R).length:Int))) (zOb i) ((0<=i.n/\i.n<(↑(ac rcE i.e.R).length:Int))/\∃(a:List (List D)),zE (ac rcE i.e.R) i.n.toNat 0 1=some [D.ro 1 a]/\∃(b:List (List D)),b=a/\b.length*(1:Nat)<=(140737488355328:Nat)/\∀(c:Unit),True->(∃(d:Unit),bE (i.e.R.getD i.n.toNat [])=b/\dh true/\zGx i)\/∃(c:Unit),False/\false=true/\dh (sb i.e.p.code)/\dh i.e.p.tick/\dh i.e.p.low/\dh i.e.p.high/\dh i.e.p.wide/\dh i.e.p.rule/\dh i.e.p.top/\dh i.e.p.least/\dh i.e.p.part/\dh i.e.q/\dh (ac rcE i.e.R)/\(0<=i.n/\i.n<(↑i.e.R.length:Int)->False)))
def yKo {s:Int} {b:List UInt8} (h:(zR s b).2=0):0<=s/\s<8:=by
 rw[zR]at h;split at h
 ·cases h
 ·omega
def y4y (i:EoI) (h:edoC.cnd i):yZq i:=by
 obtain⟨o0,x,p,d,s,b⟩:=i;obtain⟨⟨hM,hB⟩,hb,⟨hs1,hs2⟩,⟨hq1,hq2⟩,hR,hd⟩:(o0.Rep p x.B x.U/\BOk p x.B)/\b.length<=254/\(-1<=s/\s<8)/\(0<=x.q/\x.q<=1000000000000000000)/\x.R.length<=1000000/\d.b.length+b.length+7<=1048576:=h;have hls:((lob s).toNat:Int)=aj.wrap s:=(zBg s).symm;unfold yZq zAh zLn vI dD dB gL fY zGb;dsimp only;refine⟨⟨s,b⟩,rfl,rfl,Z9,λ_ _=>Cv.cnd.mk (λe=> ?_) (λe=> ?_)⟩
 ·have e:(zR s b).2≠0:=by simpa using e
  exact⟨⟨⟨o0,x.W⟩,p,x.B,x.U,s,b,yBx x.B x.U x.W s 0 (zR s b).2⟩,rfl,rfl,rfl,⟨⟨hM,hB⟩,Z9,by dsimp only;rw[zRe,y5v e]⟩,λo ho=> .inl ⟨o,trivial,rF8 (rF6 (rF3 ⟨rfl,e,ho⟩))⟩⟩
 ·have e:(zR s b).2=0:=by simpa using e
  have hs:=yKo e;refine⟨trivial,trivial,[[lob s],b],?_,⟨by simp,by simp;omega,by simp⟩,λ_ _=>⟨trivial,⟨d,x.R.length,vG s b⟩,by simp[vG],rfl,rfl,⟨by simp[vG];omega,by simp[vG];omega,Z9,Z9⟩,λ_ _=>⟨⟨o0,x,p,s,b⟩,rF8 (rF8 ⟨rfl,⟨⟨hM,hB⟩,Z9,hs,⟨hq1,hq2⟩,hR⟩,λo ho=> .inr ⟨o,rF6 (rF3 ⟨rfl,by simp,rF7 ⟨rfl,e,ho⟩⟩)⟩⟩)⟩⟩⟩;show[rcE [lob s],rcE b]=_;rw[rcE,rcE,<- hls];rfl
def edo_ok:edoC.ok Tryz.prog 34:=okw mixed (gokc z5p (gokc yJj (gokc z9e (gokc yNt (gokc ySg gok0))))) 0 (λ_=>[]) (λ_=>[]) [] Tryz.func34 y4y
def y1j {p:Prd} {L:List (List UInt8)} {k:Nat} {r:List UInt8} (h:L[k]? =some r):qS p (L.take (k+1))=yRe p (qS p (L.take k)) r:=by
 rw[y7c,h,y8w,qS,xAp];rfl
def z7a {p:Prd} {x:Es} {o:Mkt} (hM:o.Rep p x.B x.U) (hB:BOk p x.B) (s:Int) (b:List UInt8) {o2:Mkt} (ho:o2.Rep p (x.X p s b).B (x.X p s b).U):
 BOk p (x.ed p s b).B/\x.q<=(x.ed p s b).q/\(x.ed p s b).q<=x.q+202000000/\(x.ed p s b).R.length=x.R.length+1:=by
 have hwf:=hM.s.wf hB;have hB2:BOk p (x.X p s b).B:=zPz hwf _ _ _ _;have:(x.M p s b).length<=202000000:=y3d (zVo hwf) (zVo (ho.s.wf hB2));refine⟨hB2,?_,?_,?_⟩
 ·show x.q<=x.q+((x.M p s b).length:Int);omega
 ·show x.q+((x.M p s b).length:Int)<=_;omega
 ·show(x.R++[vG s b]).length=_;rw[y5s];rfl
def y4n (i:EpI) (h:eopC.cnd i):yZg i:=by
 obtain⟨p,s,L,t⟩:=i;obtain⟨⟨hc,hsm⟩,⟨hs,hd⟩,hr,hl⟩:(p.check=0/\p.small)/\((ScI.mk L t).ok/\(JoI.mk s L t).d.ok)/\(∀r∈L,yDm r)/\L.length<=100000:=h;have hB0:BOk p (ae p.count []):=BOk.new hc hsm;have hM0:=yNn p;have m6:=(kH hc).m6;have sl:=(kH hc).s1;have hml:(L.map rcE).length=L.length:=y5u _;unfold yZg jT zPu pU zAh zGb yD dI;dsimp only;refine⟨p,rF7 (rF3 ⟨rfl,hsm,λ_ _=>⟨⟨s,L,t⟩,rfl,⟨hs,hd⟩,λ_ _=>⟨p.months,rfl,oM,λ_ _=>⟨trivial,p.settle,rfl,oM,λ_ _=>⟨⟨mk0 p,[]⟩,rfl,rfl,trivial,λ_ _=>⟨k0q,k0q,mk0 p,rF8 (rF4 ⟨rfl,trivial,λ_ _=>⟨k0q,k0q,⟨(mk0 p).s,p,ae p.count []⟩,rF8 (rF3 ⟨rfl,⟨hM0.s,hB0⟩,λ_ _=>⟨k0q,⟨mk0 p,es0 p,0⟩,rF8 (rF8 (rF8 (rF7 ⟨rfl,λj=>(j.k<=L.length/\j.x=qS p (L.take j.k))/\(j.o.Rep p j.x.B j.x.U/\BOk p j.x.B)/\(0<=j.x.q/\j.x.q<=202000000*(j.k:Int))/\j.x.R.length=j.k,λj=>L.length-j.k,⟨⟨y6z _,rfl⟩,⟨hM0,hB0⟩,⟨y9h _,y9h _⟩,rfl⟩,?_⟩)))⟩⟩)⟩⟩)⟩⟩⟩⟩⟩,λ_ hne=>absurd hc hne⟩)⟩;rintro⟨o,x,k⟩ ⟨⟨hk,hx⟩,⟨hM,hB⟩,⟨hq1,hq2⟩,hR⟩;dsimp only at hk hx hM hB hq1 hq2 hR ⊢;refine zH (λhlt=> ?_) (λhlt=> ?_)
 ·obtain⟨r,hrk⟩:=yA (l:=L) (i:=k) oM;have hrm:=y6e hrk;obtain⟨hne,hrd⟩:=hr r hrm;have hr255:=hs.1 r hrm;obtain⟨c,b,rfl⟩:∃c b,r=c::b:=by
   cases r with
   |nil=>exact absurd rfl hne
   |cons c b=>exact⟨c,b,rfl⟩
  have hrd:(zR (c.toNat:Int) b).2=0:=hrd;have hc8:=yKo hrd;have wc:ag.wrap (c.toNat:Int)=c.toNat:=w64 oM;rw[y5y]at hr255;refine⟨⟨oM,oM⟩,bE (c::b),zVk hrk,Cv.cnd.mk (λe=>by have e:=beq_iff_eq.1 e;rw[yQ,y5y]at e;omega) (λ_=>⟨⟨Z8,by rw[yQ,y5y];omega⟩,c.toNat,cD rfl,⟨Z8,by rw[yQ,y5y];omega⟩,⟨c.toNat,b⟩,wc.symm,rfl,Z9,λ_ _=>Cv.cnd.mk (λe=>by simp[hrd]at e) (λ_=>⟨⟨Z8,by rw[yQ,y5y];omega⟩,c.toNat,cD rfl,⟨Z8,by rw[yQ,y5y];omega⟩,⟨o,x,p,c.toNat,b⟩,wc.symm,rF8 (rF7 ⟨rfl,⟨⟨hM,hB⟩,Z9,hc8,⟨hq1,Z9⟩,Z9⟩,λo2 ho=> ?_⟩)⟩)⟩)⟩;obtain⟨t1,t2,t3,t4⟩:=z7a hM hB (c.toNat:Int) b ho;exact⟨⟨o2,x.ed p c.toNat b,k+1⟩,wjn oM,rF8 (rF6 (rF3 ⟨rfl,⟨⟨Z9,by dsimp only;rw[y1j hrk,<- hx];rfl⟩,⟨ho,t1⟩,⟨Z9,Z9⟩,Z9⟩,Z9,k0q⟩))⟩
 ·obtain rfl:k=L.length:=by omega
  rw[y8s]at hx;subst hx;exact⟨o,by repeat'(first|exact rfl|exact hM|apply And.intro)⟩
def eop_ok:eopC.ok Tryz.prog 31:=okw mixed (gokc yMv (gokc yXs (gokc yAv (gokc zWx (gokc zRx (gokc z0e (gokc z0c (gokc z5p (gokc ySg gok0))))))))) 0 (λ_=>[]) (λi=>y4m i) [] Tryz.func31 y4n
def esn_ok:esnC.ok Tryz.prog 40:=okw (V:=y5j) mixed (gokc yWm gok0) 0 (λ_=>[]) (λ_=>[]) [] Tryz.func40 λ(e:En) h=>⟨⟨e.v,e.q⟩,rfl,rfl,h,λ_ _=>⟨(),k0q⟩⟩
def erec_ok:erecC.ok Tryz.prog 42:=okw (V:=ySi) mixed (gokc zMg gok0) 0 (λ_=>[]) (λ_=>[]) [] Tryz.func42 λ(i:ErI) h=>by
 obtain⟨h1,h2⟩:i.e.R.length<=1000000/\∀r∈i.e.R,r.length<=1048576:=h;unfold ySi zOb zGx;rw[y5u];refine zH (λc=> .inr ⟨(),trivial,rF8 (rF4 oM)⟩) (λc=>zH (λc2=> .inr ⟨(),trivial,rF8 (rF4 oM)⟩) (λc2=> ?_));obtain⟨r,hr⟩:=yA (l:=i.e.R) (i:=i.n.toNat) oM;have hg:i.e.R.getD i.n.toNat []=r:=by rw[y6c,hr];rfl
 have hl:=h2 r (y6e hr);refine⟨⟨oM,oM⟩,bE r,zVk hr,_,rfl,by rw[yQ];omega,λ_ _=> .inl ⟨(),by rw[hg],rF8 (rF3 ⟨rfl,oM,oM⟩)⟩⟩
structure EaM where
 kind:Int
 s:Int
 n:Int
 c:Cmd
 b:List UInt8
def eaE (a:EaM):List D:= .v (.int .i64 a.kind):: .v (.int .i64 a.s):: .v (.int .i64 a.n)::(cmdE a.c++[.ro 1 (bE a.b)])
@[reducible] def eaV (a:EaM):V:= .agg [zA a.kind,zA a.s,zA a.n,zA a.c.kind,zA a.c.id,zA a.c.inst,zA a.c.side,zA a.c.price,zA a.c.qty,zA a.c.least,zA a.c.time,sV a.c.label,roV 1 (bE a.b)]
@[reducible] def EaM.ok (a:EaM):Prop:=yY a.kind/\yY a.s/\yY a.n/\a.c.raw
structure ByI where
 p:Prd
 a:EaM
 k:Nat
def ByI.t (i:ByI):Cmd:=xJ ⟨i.p,i.a.c,i.k⟩
def ByI.r (i:ByI):List UInt8:=if i.a.kind=2 then i.a.b.take 100 else i.t.enc
def bytC:Con:=con1 ByI (λi=>[prdV i.p,eaV i.a,zA i.k]) (λ_=>[]) (λi=>(∃x,i.p=kprod x)/\i.a.ok/\i.k<=1000000) (λi=>roV 1 (bE i.r)) (λ_=>[])
@[reducible] def z2v:Nat:=77
structure SdJ where
 x:Es
 o:Mkt
 d:Dk
 O:List (Int×Rep)
 N:List eB
def y3i (p:Prd) (j:SdJ):List AObj:=z4x p j.x j.o j.d++[.cells [.own 9,.own 10] z2v,zUx j.O,yBs j.N]
def doJ (p:Prd) (e a:Nat):SAnn:={ι:=SdJ,slots0:=λ_=>[(e,.nm 0 0)],rows0:=λj=>z4x p j.x j.o j.d,slots:=λj=>[(e,.nm 0 0),(a,.nm 8 0)],rows:=y3i p}
noncomputable def known24C:Con:=con1 Prd (λ_=>[]) (λ_=>[]) (λp=>p=nB 1) (λ_=>yR true) (λ_=>[])
def yEu (p:Prd):List (Nat×SAnn):=[(28,doJ p 3 7),(32,doJ p 3 8)]
structure SqI where
 x:Prd
 p:Prd
 l:List EaM
@[reducible] def SqI.ok (i:SqI):Prop:=i.p=kprod i.x/\i.x.raw/\(∀a∈i.l,a.ok)/\i.l.length<=9223372036854775807
def y4z (p:Prd):List AObj:=[.cells [sV p.code,.own 9,zA p.tick,zA p.low,zA p.high,zA p.wide,zA p.rule,zA p.top,zA p.least,zA p.part,.own 10] 25,.fro 1 (iE p.months),.fro 1 (iE p.settle)]
def sqC:Con:=con1 SqI (λi=>[prdV i.x,roV 13 (i.l.map eaE)]) (λ_=>[]) (λi=>i.ok) (λ_=>yR true) (λ_=>[])
end Sx
