/- Texts of ours. No condition. -/
import Derived.Test.YthkofaanekmpmaaGreatS13
set_option linter.all false
open Sx.AObj renaming fro->aa,cells->ab
open List renaming map->ac,replicate->ae,drop->af
open Go.IntKind renaming i64->ag,u8->aj
namespace Sx
set_option maxRecDepth 100000
open Go Cv Go.Proofs
def yMk {n lo hi:Int} (h:lo<=hi):lo<=zF n lo hi/\zF n lo hi<=hi:=by
 have h1:=xBb n (show hi-lo+1≠0 by omega);have h2:=xBc n (show 0<hi-lo+1 by omega);rw[zF];constructor<;>omega
def yPe {els:List (List D)} {k:Nat} {m:zKi} (h:els[k]? =some (y9 m)):zE els k (0+0) 1=some [D.v (.int .i64 m.seq)]:=by
 rw[zE,h];rfl
open Classical in
open Classical in
def y0n {p:Prd} {v w:Vw} (hv:VwG p v) (hw:VwG p w):v.length=w.length/\Vw.levs v<=100000000/\Vw.levs w<=100000000/\v.length<=1000000:=by
 have h1:=yHt hv;have h2:=yHt hw;have h3:=hv.r.2;have h4:=hw.r.2;exact⟨by rw[hv.len,hw.len],oM,oM,oM⟩
def ySm (i:LkI) (h:lookOC.cnd i):yIv i:=by
 obtain⟨hR,hB⟩:i.s.Rep i.p i.B/\BOk i.p i.B:=h;have hcl:=xS i.p;have hbl:=hB.bl;have hcnt:i.s.cntOk:=hR.cnt oM;have hto:vI (i.B.map qY):=hB.tops;have hll:=zIf i.p i.B;unfold yIv fB bY kF fD dM dQ uB yD dI;refine⟨i.p,rF8 (rF3 ⟨hB.ps,λ_ _=>Cv.cnd.mk (λc=>absurd hB.pc (by simpa using c)) (λ_=>⟨i.s,rfl,hcnt,λ_ _=>⟨i.p,rF8 (rF3 ⟨hB.ps,λ_ _=>⟨0,rfl,rfl,by rw[hR.tops],λj=>j<=i.p.count,λj=>i.p.count-j,y6i _,λj hj=>zH (λhlt=> ?_) (λhlt=> ?_)⟩⟩)⟩⟩)⟩)⟩
 ·have hlt:j<i.p.count:=by omega
  have hat:atB i.B (j:Int)=i.B.getD j []:=by rw[atB,y5b (by omega),y5u]
  have hq:∀s,(xZ ⟨i.p,i.B.map qY,j⟩ s).length<=1000000:=λs=>y7x (zKf _ _) Z8
  refine⟨⟨Z8,Z8⟩,1,rfl,⟨i.s,i.p,i.B,j,false⟩,rF3 ⟨⟨hR,Z9⟩,λ_ _=>⟨⟨⟨i.p,i.B.map qY,j⟩,false⟩,rF8 (rF6 ⟨⟨hB.ps,hto⟩,λ_ _=>⟨⟨xZ ⟨i.p,i.B.map qY,j⟩ 1,1⟩,rfl,rfl,⟨.inl rfl,hq 1⟩,λ_ _=>⟨⟨Z8,Z8⟩,2,rfl,⟨i.s,i.p,i.B,j,true⟩,rF3 ⟨⟨hR,Z9⟩,λ_ _=>⟨⟨⟨i.p,i.B.map qY,j⟩,true⟩,rF8 (rF6 ⟨⟨hB.ps,hto⟩,λ_ _=>⟨⟨xZ ⟨i.p,i.B.map qY,j⟩ 2,2⟩,rfl,rfl,⟨.inr rfl,hq 2⟩,λ_ _=>⟨?_,j+1,wjn oM,?_,rfl,Z9,Z9,rfl,k0q⟩⟩⟩)⟩⟩⟩⟩⟩)⟩⟩⟩
  ·rw[y5c,y5t];omega
  ·rw[y6k,yBx i.p i.B hlt,y8e,y5l,y5q,y8t];dsimp only;rw[hat];rfl
 ·have hj:j<=i.p.count:=hj;rw[y5n (by omega)];exact⟨(),k0q⟩
def z1f:lookOC.ok Tryz.prog 48:=okw mixed (gokc lE (gokc yOs (gokc bZ (gokc yLh (gokc zSh (gokc yOf gok0)))))) 1 (λ_=>[]) (λi=>y0l i) [] Tryz.func48 ySm
def z7v:gchkC.ok Tryz.prog 39:=okw (V:=yZi) mixed (gokc z1j gok0) 0 (λ_=>[]) (λ_=>[]) [] Tryz.func39 λ(i:SbI) h=>⟨i,rfl,rfl,h,λ_ _=>⟨(),rfl,trivial⟩⟩
def zSl:glookC.ok Tryz.prog 90:=okw (V:=yTf) mixed gok0 0 (λ_=>[]) (λ_=>[]) [] Tryz.func90 λ(g:Gt) _=>⟨(),rfl,rfl,trivial⟩
def zZc:mlookC.ok Tryz.prog 91:=okw (V:=yWl) mixed gok0 0 (λ_=>[]) (λ_=>[]) [] Tryz.func91 λ(m:Mkt) _=>⟨(),k0q⟩
def zOn {p:Prd} {B:List (List zI)} (h:BWf p B) (U:List Int) (W:List (Int×Int)) (s:Int) (b:List UInt8):BOk p (lB p B U W s b).B:=by
 rw[lB];split
 ·exact h.ok
 split
 ·exact h.ok
 rw[z0h];split
 ·exact h.ok
 split
 ·exact h.ok
 ·exact yVa h U _
def y0e {p:Prd} {v w:Vw} (hv:VwG p v) (hw:VwG p w):(jY 0 v w).length<=202000000:=by
 obtain⟨h1,h2,h3,h4⟩:=y0n hv hw;have:=yKn v w v.length (y5x _) oM;rw[y5n (y5x _),y5n (by omega)]at this;omega
def ved (i:EdI) (h:edC.cnd i):Ved i:=by
 obtain⟨o0,x,p,s,b⟩:=i;obtain⟨⟨hM,hB⟩,hb,⟨hs1,hs2⟩,⟨hq1,hq2⟩,hR⟩:(o0.Rep p x.B x.U/\BOk p x.B)/\b.length<=1048576/\(0<=s/\s<8)/\(0<=x.q/\x.q<=1000000000000000000)/\x.R.length<=1000000:=h;have hwf:=hM.s.wf hB;have hB2:BOk p (x.X p s b).B:=zOn hwf _ _ _ _;have hls:((lob s).toNat:Int)=aj.wrap s:=(zAi s).symm;unfold Ved zLc z2c z3l z2m zAf zBa;dsimp only;refine⟨trivial,trivial,[[lob s],b],?_,⟨by simp,by simp;omega,by simp⟩,λ_ _=>⟨trivial,trivial,by rw[y5c];omega,⟨⟨o0,x.W⟩,p,x.B,x.U,s,b,x.X p s b⟩,rF3 ⟨⟨⟨hM,hB⟩,Z9,rfl⟩,λo ho=> ?_⟩⟩⟩
 ·show[rcE [lob s],rcE b]=_;rw[rcE,rcE,<- hls];rfl
 have hv:=zVp hwf;have hw:=zVp (ho.s.wf hB2);obtain⟨g1,g2,g3,g4⟩:=y0n hv hw;have hl:=y0e hv hw;have er:ac rcE (x.R++[wR s b])=ac rcE x.R++[[D.ro 1 (bE [[lob s],b].flatten)]]:=by
  rw[y5l];simp[rcE,wR]
 have eq1:x.q+((x.M p s b).length:Int)=ag.wrap (x.q+(ac y9 (wF x.q (x.M p s b))).length):=by
  have:(x.M p s b).length<=202000000:=hl;rw[y5c,pN,w64 (by omega)]
 refine⟨⟨⟨o,(x.X p s b).W⟩,rfl,rfl,trivial,λ_ _=>⟨k0q,⟨o,rF8 (rF5 ⟨trivial,λ_ _=>⟨k0q,?_,k0q,?_⟩⟩)⟩,k0q,o,rF8 (rF5 ⟨trivial,λ_ _=>⟨k0q,?_⟩⟩)⟩⟩,trivial,k0q,⟨o,(x.X p s b).W⟩,rfl,rfl,trivial,λ_ _=>⟨k0q,o,rF8 (rF5 ⟨trivial,λ_ _=>⟨k0q,?_⟩⟩)⟩⟩
 all_goals exact⟨⟨o.s,p,(x.X p s b).B⟩,rF8 (rF4 ⟨⟨ho.s,hB2⟩,λ_ _=>⟨⟨y8 p x.B,y8 p (x.X p s b).B,x.q⟩,rF3 ⟨⟨g1,⟨Z9,Z9⟩,g2,g3,g4⟩,λ_ _=>⟨o,rF6 (rF3 ⟨eq1,rF8 (rF8 ⟨er,rF3 ho⟩)⟩)⟩⟩⟩⟩)⟩
def yQx:edC.ok Tryz.prog 92:=okw mixed (gokc z5s (gokc yKe (gokc zSl (gokc zZc (gokc z1f (gokc yDf gok0)))))) 0 (λ_=>[]) (λ_=>[]) [] Tryz.func92 ved
structure EoI where
 o:Mkt
 x:Es
 p:Prd
 d:Dk
 s:Int
 b:List UInt8
def yHz (p:Prd) (x:Es) (o:Mkt) (d:Dk):List AObj:=[enC (x.en p) 4 7,jnR 3 x.R.length,GtR ⟨o,x.W⟩,DkR d,rcR x.R,.fro 1 (iE p.months),.fro 1 (iE p.settle),zKl (y8 p x.B)]
@[reducible] def EoI.ok (i:EoI):Prop:=(i.o.Rep i.p i.x.B i.x.U/\BOk i.p i.x.B)/\i.b.length<=254/\(-1<=i.s/\i.s<8)/\(0<=i.x.q/\i.x.q<=1000000000000000000)/\i.x.R.length<=1000000/\i.d.b.length+i.b.length+7<=1048576
def EoI.Y (i:EoI):Es:=i.x.ed i.p i.s i.b
def EoI.N (i:EoI):List zKi:=wF i.x.q (i.x.M i.p i.s i.b)
def EoI.O (i:EoI):List (Int×Rep):=(i.x.X i.p i.s i.b).O
def EoI.D (i:EoI):Dk:=⟨i.d.b++xN (wR i.s i.b),i.d.safe⟩
def edoC:Con where
 ι:=EoI
 pat:=λi=>[.nm 0 0,zA i.s,roV 1 (bE i.b)]
 pre:=λi=>yHz i.p i.x i.o i.d
 cnd:=λi=>i.ok
 alts:=λi=>[
  {o:=Mkt,res:=λ_=> .agg [.own 8,z2s],post:=λo=>yHz i.p i.x o i.d++[zXx [(i.s,⟨2,0,0,0,0,0,0,(zT i.s i.b).2⟩)]],rel:=λo=>(zT i.s i.b).2≠0/\o.Rep i.p i.x.B i.x.U},
  {o:=Mkt,res:=λ_=> .agg [.own 10,.own 11],post:=λo=>[enC (i.Y.en i.p) 8 9,jnR 3 i.Y.R.length,GtR ⟨o,i.Y.W⟩,DkR i.D,.gone,.fro 1 (iE i.p.months),.fro 1 (iE i.p.settle),.gone,rcR i.Y.R,zKl (y8 i.p i.Y.B),zXx i.O,z2l i.N],rel:=λo=>(zT i.s i.b).2=0/\o.Rep i.p i.Y.B i.Y.U}]
def es0 (p:Prd):Es:=⟨ae p.count [],[],[],0,[]⟩
def yRf (p:Prd) (x:Es) (r:List UInt8):Es:=x.ed p (r.headD 0).toNat r.tail
def kW (p:Prd) (L:List (List UInt8)):Es:=L.foldl (yRf p) (es0 p)
def yDy (r:List UInt8):Prop:=r≠[]/\(zT (r.headD 0).toNat r.tail).2=0
structure EpI where
 p:Prd
 s:Nat
 L:List (List UInt8)
 t:List UInt8
def EpI.j (i:EpI):JoI:=⟨i.s,i.L,i.t⟩
@[reducible] def EpI.ok (i:EpI):Prop:=(i.p.check=0/\i.p.small)/\((ScI.mk i.L i.t).ok/\i.j.d.ok)/\(∀r∈i.L,yDy r)/\i.L.length<=100000
def enK (e:En):AObj:= .cells [sV e.p.code,.own 5,zA e.p.tick,zA e.p.low,zA e.p.high,zA e.p.wide,zA e.p.rule,zA e.p.top,zA e.p.least,zA e.p.part,.own 6,.nm 2 0,.nm 3 0,.own 7,zA e.q,.own 4] yAm
def eopC:Con where
 ι:=EpI
 pat:=λi=>[prdV i.p,.nm 0 0]
 pre:=λi=>[DkR i.j.d]
 cnd:=λi=>i.ok
 alts:=λi=>[{o:=Mkt,res:=λ_=> .tup [.nm 1 0,zA 0],post:=λo=>[DkR i.j.d',enK ((kW i.p i.L).en i.p),jnR 0 i.L.length,GtR ⟨o,(kW i.p i.L).W⟩,rcR (kW i.p i.L).R,.fro 1 (iE i.p.months),.fro 1 (iE i.p.settle),zKl (y8 i.p (kW i.p i.L).B)],rel:=λo=>o.Rep i.p (kW i.p i.L).B (kW i.p i.L).U}]
structure EpJ where
 o:Mkt
 x:Es
 k:Nat
def y3e (i:EpI):List SAnn:=[{ι:=EpJ,slots:=λj=>[(6,.nm 2 0),(10,.nm 0 0),(48,.own 8),(50,zA j.k)],rows:=λj=>[enC (j.x.en i.p) 4 7,jnR 3 i.L.length,GtR ⟨j.o,j.x.W⟩,DkR i.j.d',rcR j.x.R,.fro 1 (iE i.p.months),.fro 1 (iE i.p.settle),zKl (y8 i.p j.x.B),rcR i.L]}]
noncomputable def esnC:Con:=con1 En (λ_=>[.nm 0 0]) (λe=>[enC e 4 7,.gone,.gone,.gone,.gone,.gone,.gone,zKl e.v]) (λe=>zAs e.v) (λe=>roV 1 (bE (cW e.v e.q))) (λe=>[enC e 4 7,.gone,.gone,.gone,.gone,.gone,.gone,zKl e.v])
def zGg (a:EdI):Prop:=(a.o.Rep a.p a.x.B a.x.U/\BOk a.p a.x.B)/\a.b.length<=1048576/\(0<=a.s/\a.s<8)/\(0<=a.x.q/\a.x.q<=1000000000000000000)/\a.x.R.length<=1000000
def cH (a:EoI):=(ac yI (y8 a.p (a.x.X a.p a.s a.b).B))
def cQ (a:EoI):=(↑(a.x.R++[wR a.s a.b]).length:Int)
def cU (a:EoI):=(↑(a.x.M a.p a.s a.b).length:Int)
def u6 (a:EoI):=(ac yI (y8 a.p a.x.B))
def yYk (i:EoI):Prop:=
 ∃(a:SbI),a.s=i.s/\bE a.b=bE i.b/\a.b.length<=1099511627776/\∀(b:Unit),True->cnd ((zT a.s a.b).snd !=0) (∃(c:GdI),c.s=i.s/\bE c.b=bE i.b/\GtR c.g=GtR (Gt.mk i.o i.x.W)/\(zLc c)/\∀(d:Mkt),d.Rep c.p c.X.B c.X.U->(∃(e:Mkt),True/\rE (sb i.p.code)/\rE i.p.tick/\rE i.p.low/\rE i.p.high/\rE i.p.wide/\rE i.p.rule/\rE i.p.top/\rE i.p.least/\rE i.p.part/\rE i.x.q/\rE ((↑i.x.R.length:Int))/\GtR (Gt.mk e i.x.W)=GtR (Gt.mk d c.X.W)/\rE (DkR i.d)/\rE (ac rcE i.x.R)/\rE (aa 1 (iE i.p.months))/\rE (aa 1 (iE i.p.settle))/\aa 10 (u6 i)=zKl (y8 i.p i.x.B)/\[kJ (i.s,Rep.mk 2 0 0 0 0 0 0 (zT i.s i.b).snd)]=ac kJ c.X.O/\(zT i.s i.b).snd≠0/\e.Rep i.p i.x.B i.x.U)\/∃(o_1:Mkt),rE (sb i.p.code)/\rE i.p.tick/\rE i.p.low/\rE i.p.high/\rE i.p.wide/\rE i.p.rule/\rE i.p.top/\rE i.p.least/\rE i.p.part/\i.x.q+(cU i)=i.x.q/\(cQ i)=(↑i.x.R.length:Int)/\GtR (Gt.mk o_1 (i.x.X i.p i.s i.b).W)=GtR (Gt.mk d c.X.W)/\DkR i.D=DkR i.d/\rE (aa 1 (iE i.p.months))/\rE (aa 1 (iE i.p.settle))/\ac rcE (i.x.R++[wR i.s i.b])=ac rcE i.x.R/\aa 10 (cH i)=zKl (y8 i.p i.x.B)/\ac kJ i.O=ac kJ c.X.O/\ac y9 i.N=[]/\(zT i.s i.b).snd=0/\o_1.Rep i.p (i.x.X i.p i.s i.b).B (i.x.X i.p i.s i.b).U) (True/\True/\∃(c:List (List UInt8)),ac rcE c=[[D.ro 1 [[D.v (.int .u8 (aj.wrap i.s))]]],[D.ro 1 (bE i.b)]]/\(1<=c.flatten.length/\c.flatten.length<=1099511627776/\c.length<=1000)/\∀(d:Unit),True->True/\∃(e:JaI),bE e.l=bE c.flatten/\e.n=(↑i.x.R.length:Int)/\DkR e.d=DkR i.d/\(e.l.length<=255/\e.d.b.length+e.l.length+(6:Nat)<=(1048576:Nat)/\0<=e.n/\e.n<=1048576)/\∀(f:Unit),True->∃(g:EdI),g.s=i.s/\bE g.b=bE i.b/\sb g.p.code=sb i.p.code/\g.p.tick=i.p.tick/\g.p.low=i.p.low/\g.p.high=i.p.high/\g.p.wide=i.p.wide/\g.p.rule=i.p.rule/\g.p.top=i.p.top/\g.p.least=i.p.least/\g.p.part=i.p.part/\g.x.q=i.x.q/\GtR g.g=GtR (Gt.mk i.o i.x.W)/\ac rcE g.x.R=ac rcE i.x.R/\aa 1 (iE g.p.months)=aa 1 (iE i.p.months)/\aa 1 (iE g.p.settle)=aa 1 (iE i.p.settle)/\aa 10 (ac yI (y8 g.p g.x.B))=zKl (y8 i.p i.x.B)/\(zGg g)/\∀(h:Mkt),h.Rep g.p (g.x.X g.p g.s g.b).B (g.x.X g.p g.s g.b).U->(∃(j:Mkt),False)\/∃(o_1:Mkt),sb i.p.code=sb g.p.code/\i.p.tick=g.p.tick/\i.p.low=g.p.low/\i.p.high=g.p.high/\i.p.wide=g.p.wide/\i.p.rule=g.p.rule/\i.p.top=g.p.top/\i.p.least=g.p.least/\i.p.part=g.p.part/\i.x.q+(cU i)=g.x.q+(↑(g.x.M g.p g.s g.b).length:Int)/\(cQ i)=e.n+1/\GtR (Gt.mk o_1 (i.x.X i.p i.s i.b).W)=GtR (Gt.mk h (g.x.X g.p g.s g.b).W)/\DkR i.D=DkR (Dk.mk (e.d.b++xN e.l) e.d.safe)/\aa 1 (iE i.p.months)=aa 1 (iE g.p.months)/\aa 1 (iE i.p.settle)=aa 1 (iE g.p.settle)/\ac rcE (i.x.R++[wR i.s i.b])=ac rcE (g.x.R++[wR g.s g.b])/\aa 10 (cH i)=aa 10 (zAf g)/\ac kJ i.O=ac kJ g.O/\ac y9 i.N=ac y9 g.N/\(zT i.s i.b).snd=0/\o_1.Rep i.p (i.x.X i.p i.s i.b).B (i.x.X i.p i.s i.b).U)
def nI (a:EpI):Prop:=sb a.p.code=sb a.p.code/\True/\rE a.p.tick/\rE a.p.low/\rE a.p.high/\rE a.p.wide/\rE a.p.rule/\rE a.p.top/\rE a.p.least/\rE a.p.part/\True/\True
def zPn (a:JoI):Prop:=((∀(b:List UInt8),b∈a.L->b.length<=255)/\(zCi a.t).snd.snd=10/\(fsB a.L).length+a.t.length<=1048576)/\a.s<=(fsB a.L++a.t).length/\(fsB a.L++a.t).length<=1048576
def uA (a:EpI):=(ac yI (y8 a.p (kW a.p a.L).B))
def yZh (i:EpI):Prop:=
 ∃(a:Prd),sb a.code=sb i.p.code/\iE a.months=iE i.p.months/\a.tick=i.p.tick/\a.low=i.p.low/\a.high=i.p.high/\a.wide=i.p.wide/\a.rule=i.p.rule/\a.top=i.p.top/\a.least=i.p.least/\a.part=i.p.part/\iE a.settle=iE i.p.settle/\(yD a)/\(∀(b:Unit),a.check=0->∃(c:JoI),DkR c.d=DkR i.j.d/\(zPn c)/\∀(d:Unit),True->∃(e:List Int),iE e=iE i.p.months/\e.length<=1000000/\∀(f:Unit),True->True/\∃(g:List Int),iE g=iE i.p.settle/\g.length<=1000000/\∀(h:Unit),True->∃(j:Gt),jU j.m=jU (Mkt.mk a (mM a) [])/\xL j.W=xL []/\True/\∀(k:Unit),True->(nI i)/\(nI i)/\∃(l:Mkt),sb l.p.code=sb j.m.p.code/\l.p.tick=j.m.p.tick/\l.p.low=j.m.p.low/\l.p.high=j.m.p.high/\l.p.wide=j.m.p.wide/\l.p.rule=j.m.p.rule/\l.p.top=j.m.p.top/\l.p.least=j.m.p.least/\l.p.part=j.m.p.part/\zD l.s=zD j.m.s/\zX l.used=zX j.m.used/\aa 1 (iE l.p.months)=aa 1 (iE j.m.p.months)/\aa 1 (iE l.p.settle)=aa 1 (iE j.m.p.settle)/\True/\∀(m:Unit),True->(nI i)/\(nI i)/\∃(n:LkI),sb n.p.code=sb i.p.code/\iE n.p.months=iE e/\n.p.tick=i.p.tick/\n.p.low=i.p.low/\n.p.high=i.p.high/\n.p.wide=i.p.wide/\n.p.rule=i.p.rule/\n.p.top=i.p.top/\n.p.least=i.p.least/\n.p.part=i.p.part/\iE n.p.settle=iE g/\zD n.s=zD l.s/\(n.s.Rep n.p n.B/\BOk n.p n.B)/\∀(p:Unit),True->(nI i)/\∃(q:EpJ),(↑q.k:Int)=0/\rE (sb i.p.code)/\rE i.p.tick/\rE i.p.low/\rE i.p.high/\rE i.p.wide/\rE i.p.rule/\rE i.p.top/\rE i.p.least/\rE i.p.part/\q.x.q=0/\(↑i.L.length:Int)=(↑c.L.length:Int)/\sb q.o.p.code=sb l.p.code/\q.o.p.tick=l.p.tick/\q.o.p.low=l.p.low/\q.o.p.high=l.p.high/\q.o.p.wide=l.p.wide/\q.o.p.rule=l.p.rule/\q.o.p.top=l.p.top/\q.o.p.least=l.p.least/\q.o.p.part=l.p.part/\zD q.o.s=zD n.s/\zX q.o.used=zX l.used/\aa 1 (iE q.o.p.months)=aa 1 (iE l.p.months)/\aa 1 (iE q.o.p.settle)=aa 1 (iE l.p.settle)/\xL q.x.W=xL j.W/\DkR i.j.d'=DkR c.d'/\ac rcE q.x.R=[]/\aa 1 (iE i.p.months)=aa 1 (iE e)/\aa 1 (iE i.p.settle)=aa 1 (iE g)/\ac yI (y8 i.p q.x.B)=ac yI (y8 n.p n.B)/\ac rcE i.L=ac rcE c.L/\∃(r:EpJ->Prop),∃(s:EpJ->Nat),r q/\∀(t:EpJ),r t->cnd (decide ((↑t.k:Int)<(↑(ac rcE c.L).length:Int))) ((0<=(↑t.k:Int)/\(↑t.k:Int)<(↑(ac rcE i.L).length:Int))/\∃(u:List (List D)),zE (ac rcE i.L) (↑t.k:Int).toNat 0 1=some [D.ro 1 u]/\cnd ((↑u.length:Int)==0) (∃(v:Mkt),False) (((0:Int)<=(0:Int)/\0<(↑u.length:Int))/\∃(v:Int),zE u (Int.toNat 0) 0 1=some [D.v (.int .u8 v)]/\((0:Int)<=(1:Int)/\1<=(↑u.length:Int))/\∃(w:SbI),w.s=ag.wrap v/\bE w.b=af (Int.toNat 1) u/\w.b.length<=1099511627776/\∀(x:Unit),True->cnd ((zT w.s w.b).snd !=0) (∃(y:Mkt),False) (((0:Int)<=(0:Int)/\0<(↑u.length:Int))/\∃(y:Int),zE u (Int.toNat 0) 0 1=some [D.v (.int .u8 y)]/\((0:Int)<=(1:Int)/\1<=(↑u.length:Int))/\∃(z:EdI),z.s=ag.wrap y/\bE z.b=af (Int.toNat 1) u/\sb z.p.code=sb i.p.code/\z.p.tick=i.p.tick/\z.p.low=i.p.low/\z.p.high=i.p.high/\z.p.wide=i.p.wide/\z.p.rule=i.p.rule/\z.p.top=i.p.top/\z.p.least=i.p.least/\z.p.part=i.p.part/\z.x.q=t.x.q/\GtR z.g=GtR (Gt.mk t.o t.x.W)/\ac rcE z.x.R=ac rcE t.x.R/\aa 1 (iE z.p.months)=aa 1 (iE i.p.months)/\aa 1 (iE z.p.settle)=aa 1 (iE i.p.settle)/\aa 10 (ac yI (y8 z.p z.x.B))=aa 10 (ac yI (y8 i.p t.x.B))/\(zGg z)/\∀(a_1:Mkt),a_1.Rep z.p (z.x.X z.p z.s z.b).B (z.x.X z.p z.s z.b).U->∃(a_2:EpJ),(↑a_2.k:Int)=ag.wrap ((↑t.k:Int)+1)/\sb i.p.code=sb z.p.code/\i.p.tick=z.p.tick/\i.p.low=z.p.low/\i.p.high=z.p.high/\i.p.wide=z.p.wide/\i.p.rule=z.p.rule/\i.p.top=z.p.top/\i.p.least=z.p.least/\i.p.part=z.p.part/\a_2.x.q=z.x.q+(↑(z.x.M z.p z.s z.b).length:Int)/\rE ((↑i.L.length:Int))/\GtR (Gt.mk a_2.o a_2.x.W)=GtR (Gt.mk a_1 (z.x.X z.p z.s z.b).W)/\rE (DkR i.j.d')/\ac rcE a_2.x.R=ac rcE (z.x.R++[wR z.s z.b])/\aa 1 (iE i.p.months)=aa 1 (iE z.p.months)/\aa 1 (iE i.p.settle)=aa 1 (iE z.p.settle)/\aa 10 (ac yI (y8 i.p a_2.x.B))=aa 10 (zAf z)/\rE (ac rcE i.L)/\r a_2/\s a_2<s t/\rE (aa 1 (iE l.p.months))/\rE (aa 1 (iE l.p.settle))/\rE (aa 1 (iE j.m.p.months))/\rE (aa 1 (iE j.m.p.settle))/\rE (aa 1 (iE g))/\rE (aa 1 (iE e))/\rE (ab [V.d (D.v (Value.string (sb i.p.code))),V.own 7,V.d (dI i.p.tick),V.d (dI i.p.low),V.d (dI i.p.high),V.d (dI i.p.wide),V.d (dI i.p.rule),V.d (dI i.p.top),V.d (dI i.p.least),V.d (dI i.p.part),V.own 8] 25)/\rE (aa 1 (iE i.p.settle))/\rE (aa 1 (iE i.p.months))))) (∃(u:Mkt),rE ((0:Int))/\rE (DkR i.j.d')/\rE (sb i.p.code)/\rE i.p.tick/\rE i.p.low/\rE i.p.high/\rE i.p.wide/\rE i.p.rule/\rE i.p.top/\rE i.p.least/\rE i.p.part/\(kW i.p i.L).q=t.x.q/\rE ((↑i.L.length:Int))/\GtR (Gt.mk u (kW i.p i.L).W)=GtR (Gt.mk t.o t.x.W)/\ac rcE (kW i.p i.L).R=ac rcE t.x.R/\rE (aa 1 (iE i.p.months))/\rE (aa 1 (iE i.p.settle))/\aa 10 (uA i)=aa 10 (ac yI (y8 i.p t.x.B))/\u.Rep i.p (kW i.p i.L).B (kW i.p i.L).U))/\∀(b:Unit),a.check≠0->cnd (a.check !=0) (∃(c:Mkt),False) (∃(c:JoI),DkR c.d=DkR i.j.d/\(zPn c)/\∀(d:Unit),True->∃(e:List Int),iE e=iE i.p.months/\e.length<=1000000/\∀(f:Unit),True->True/\∃(g:List Int),iE g=iE i.p.settle/\g.length<=1000000/\∀(h:Unit),True->∃(j:Gt),False)
def y3q (e:En):Prop:=
 ∃(i:zQd),ac yI i.v=ac yI e.v/\i.seq=e.q/\(List.length i.v<=1099511627776/\∀(b:Sd×Sd),b∈i.v->b.fst.levels.length<=1099511627776/\b.snd.levels.length<=1099511627776)/\∀(o:Unit),True->∃(o:Unit),bE (cW e.v e.q)=bE (cW i.v i.seq)/\rE (sb e.p.code)/\rE e.p.tick/\rE e.p.low/\rE e.p.high/\rE e.p.wide/\rE e.p.rule/\rE e.p.top/\rE e.p.least/\rE e.p.part/\e.q=e.q/\aa 10 (ac yI e.v)=zKl e.v/\True
def yJh {s:Int} {b:List UInt8} (h:(zT s b).2=0):0<=s/\s<8:=by
 rw[zT]at h;split at h
 ·cases h
 ·omega
def y4s (i:EoI) (h:edoC.cnd i):yYk i:=by
 obtain⟨o0,x,p,d,s,b⟩:=i;obtain⟨⟨hM,hB⟩,hb,⟨hs1,hs2⟩,⟨hq1,hq2⟩,hR,hd⟩:(o0.Rep p x.B x.U/\BOk p x.B)/\b.length<=254/\(-1<=s/\s<8)/\(0<=x.q/\x.q<=1000000000000000000)/\x.R.length<=1000000/\d.b.length+b.length+7<=1048576:=h;have hls:((lob s).toNat:Int)=aj.wrap s:=(zAi s).symm;unfold yYk zAf zLc u6 cU cQ cH zGg;dsimp only;refine⟨⟨s,b⟩,rfl,rfl,Z9,λ_ _=>Cv.cnd.mk (λe=> ?_) (λe=> ?_)⟩
 ·have e:(zT s b).2≠0:=by simpa using e
  exact⟨⟨⟨o0,x.W⟩,p,x.B,x.U,s,b,yCf x.B x.U x.W s 0 (zT s b).2⟩,rF3 ⟨⟨⟨hM,hB⟩,Z9,by dsimp only;rw[zSy,y5d e]⟩,λo ho=> .inl ⟨o,trivial,rF8 (rF7 (rF3 ⟨e,ho⟩))⟩⟩⟩
 ·have e:(zT s b).2=0:=by simpa using e
  have hs:=yJh e;refine⟨trivial,trivial,[[lob s],b],?_,⟨by simp,by simp;omega,by simp⟩,λ_ _=>⟨trivial,⟨d,x.R.length,wR s b⟩,by simp[wR],rfl,rfl,⟨by simp[wR];omega,by simp[wR];omega,Z9,Z9⟩,λ_ _=>⟨⟨o0,x,p,s,b⟩,rF8 (rF6 (rF3 ⟨⟨⟨hM,hB⟩,Z9,hs,⟨hq1,hq2⟩,hR⟩,λo ho=> .inr ⟨o,rF7 (rF3 ⟨by simp,rF8 ⟨e,ho⟩⟩)⟩⟩))⟩⟩⟩;show[rcE [lob s],rcE b]=_;rw[rcE,rcE,<- hls];rfl
def edo_ok:edoC.ok Tryz.prog 34:=okw mixed (gokc z7v (gokc yKe (gokc z5s (gokc yKu (gokc yQx gok0))))) 0 (λ_=>[]) (λ_=>[]) [] Tryz.func34 y4s
def yYx {p:Prd} {L:List (List UInt8)} {k:Nat} {r:List UInt8} (h:L[k]? =some r):kW p (L.take (k+1))=yRf p (kW p (L.take k)) r:=by
 rw[y6k,h,y8e,kW,y9x];rfl
def z5o {p:Prd} {x:Es} {o:Mkt} (hM:o.Rep p x.B x.U) (hB:BOk p x.B) (s:Int) (b:List UInt8) {o2:Mkt} (ho:o2.Rep p (x.X p s b).B (x.X p s b).U):
 BOk p (x.ed p s b).B/\x.q<=(x.ed p s b).q/\(x.ed p s b).q<=x.q+202000000/\(x.ed p s b).R.length=x.R.length+1:=by
 have hwf:=hM.s.wf hB;have hB2:BOk p (x.X p s b).B:=zOn hwf _ _ _ _;have:(x.M p s b).length<=202000000:=y0e (zVp hwf) (zVp (ho.s.wf hB2));refine⟨hB2,?_,?_,?_⟩
 ·show x.q<=x.q+((x.M p s b).length:Int);omega
 ·show x.q+((x.M p s b).length:Int)<=_;omega
 ·show(x.R++[wR s b]).length=_;rw[y5a];rfl
def y3m (i:EpI) (h:eopC.cnd i):yZh i:=by
 obtain⟨p,s,L,t⟩:=i;obtain⟨⟨hc,hsm⟩,⟨hs,hd⟩,hr,hl⟩:(p.check=0/\p.small)/\((ScI.mk L t).ok/\(JoI.mk s L t).d.ok)/\(∀r∈L,yDy r)/\L.length<=100000:=h;have hB0:BOk p (ae p.count []):=BOk.new hc hsm;have hM0:=yLt p;have m6:=(kA hc).m6;have sl:=(kA hc).s1;have hml:(L.map rcE).length=L.length:=y5c _;unfold yZh uA zPn nI zAf zGg yD dI;dsimp only;refine⟨p,rF8 (rF3 ⟨hsm,λ_ _=>⟨⟨s,L,t⟩,rfl,⟨hs,hd⟩,λ_ _=>⟨p.months,rfl,oM,λ_ _=>⟨trivial,p.settle,rfl,oM,λ_ _=>⟨⟨mk0 p,[]⟩,rfl,rfl,trivial,λ_ _=>⟨k0q,k0q,mk0 p,rF8 (rF5 ⟨trivial,λ_ _=>⟨k0q,k0q,⟨(mk0 p).s,p,ae p.count []⟩,rF8 (rF4 ⟨⟨hM0.s,hB0⟩,λ_ _=>⟨k0q,⟨mk0 p,es0 p,0⟩,rF8 (rF8 (rF8 (rF8 ⟨λj=>(j.k<=L.length/\j.x=kW p (L.take j.k))/\(j.o.Rep p j.x.B j.x.U/\BOk p j.x.B)/\(0<=j.x.q/\j.x.q<=202000000*(j.k:Int))/\j.x.R.length=j.k,λj=>L.length-j.k,⟨⟨y6i _,rfl⟩,⟨hM0,hB0⟩,⟨y8p _,y8p _⟩,rfl⟩,?_⟩)))⟩⟩)⟩⟩)⟩⟩⟩⟩⟩,λ_ hne=>absurd hc hne⟩)⟩;rintro⟨o,x,k⟩ ⟨⟨hk,hx⟩,⟨hM,hB⟩,⟨hq1,hq2⟩,hR⟩;dsimp only at hk hx hM hB hq1 hq2 hR ⊢;refine zH (λhlt=> ?_) (λhlt=> ?_)
 ·obtain⟨r,hrk⟩:=yE (l:=L) (i:=k) oM;have hrm:=y5m hrk;obtain⟨hne,hrd⟩:=hr r hrm;have hr255:=hs.1 r hrm;obtain⟨c,b,rfl⟩:∃c b,r=c::b:=by
   cases r with
   |nil=>exact absurd rfl hne
   |cons c b=>exact⟨c,b,rfl⟩
  have hrd:(zT (c.toNat:Int) b).2=0:=hrd;have hc8:=yJh hrd;have wc:ag.wrap (c.toNat:Int)=c.toNat:=w64 oM;rw[y5g]at hr255;refine⟨⟨oM,oM⟩,bE (c::b),z3s hrk,Cv.cnd.mk (λe=>by have e:=beq_iff_eq.1 e;rw[yN,y5g]at e;omega) (λ_=>⟨⟨Z8,by rw[yN,y5g];omega⟩,c.toNat,dE rfl,⟨Z8,by rw[yN,y5g];omega⟩,⟨c.toNat,b⟩,wc.symm,rfl,Z9,λ_ _=>Cv.cnd.mk (λe=>by simp[hrd]at e) (λ_=>⟨⟨Z8,by rw[yN,y5g];omega⟩,c.toNat,dE rfl,⟨Z8,by rw[yN,y5g];omega⟩,⟨o,x,p,c.toNat,b⟩,wc.symm,rF8 (rF8 ⟨⟨⟨hM,hB⟩,Z9,hc8,⟨hq1,Z9⟩,Z9⟩,λo2 ho=> ?_⟩)⟩)⟩)⟩;obtain⟨t1,t2,t3,t4⟩:=z5o hM hB (c.toNat:Int) b ho;exact⟨⟨o2,x.ed p c.toNat b,k+1⟩,wjn oM,rF8 (rF7 (rF3 ⟨⟨⟨Z9,by dsimp only;rw[yYx hrk,<- hx];rfl⟩,⟨ho,t1⟩,⟨Z9,Z9⟩,Z9⟩,Z9,k0q⟩))⟩
 ·obtain rfl:k=L.length:=by omega
  rw[y8a]at hx;subst hx;exact⟨o,by repeat'(first|exact rfl|exact hM|apply And.intro)⟩
def eop_ok:eopC.ok Tryz.prog 31:=okw mixed (gokc yPg (gokc yWg (gokc yCj (gokc z0l (gokc zSl (gokc zZc (gokc z1f (gokc z7v (gokc yQx gok0))))))))) 0 (λ_=>[]) (λi=>y3e i) [] Tryz.func31 y3m
def ySc:esnC.ok Tryz.prog 40:=okw (V:=y3q) mixed (gokc yYb gok0) 0 (λ_=>[]) (λ_=>[]) [] Tryz.func40 λ(e:En) h=>⟨⟨e.v,e.q⟩,rfl,rfl,h,λ_ _=>⟨(),k0q⟩⟩
structure EaM where
 kind:Int
 s:Int
 n:Int
 c:Cmd
 b:List UInt8
def eaE (a:EaM):List D:= .v (.int .i64 a.kind):: .v (.int .i64 a.s):: .v (.int .i64 a.n)::(cmdE a.c++[.ro 1 (bE a.b)])
@[reducible] def eaV (a:EaM):V:= .agg [zA a.kind,zA a.s,zA a.n,zA a.c.kind,zA a.c.id,zA a.c.inst,zA a.c.side,zA a.c.price,zA a.c.qty,zA a.c.least,zA a.c.time,sV a.c.label,roV 1 (bE a.b)]
@[reducible] def EaM.ok (a:EaM):Prop:=yV a.kind/\yV a.s/\yV a.n/\a.c.raw
structure ByI where
 p:Prd
 a:EaM
 k:Nat
def ByI.t (i:ByI):Cmd:=xH ⟨i.p,i.a.c,i.k⟩
def ByI.r (i:ByI):List UInt8:=if i.a.kind=2 then i.a.b.take 100 else i.t.enc
def bytC:Con:=con1 ByI (λi=>[prdV i.p,eaV i.a,zA i.k]) (λ_=>[]) (λi=>(∃x,i.p=kprod x)/\i.a.ok/\i.k<=1000000) (λi=>roV 1 (bE i.r)) (λ_=>[])
@[reducible] def yCn:Nat:=77
structure SdJ where
 x:Es
 o:Mkt
 d:Dk
 O:List (Int×Rep)
 N:List zKi
def y3b (p:Prd) (j:SdJ):List AObj:=yHz p j.x j.o j.d++[.cells [.own 9,.own 10] yCn,zXx j.O,z2l j.N]
def doJ (p:Prd) (e a:Nat):SAnn:={ι:=SdJ,slots0:=λ_=>[(e,.nm 0 0)],rows0:=λj=>yHz p j.x j.o j.d,slots:=λj=>[(e,.nm 0 0),(a,.nm 8 0)],rows:=y3b p}
noncomputable def known24C:Con:=con1 Prd (λ_=>[]) (λ_=>[]) (λp=>p=mX 1) (λ_=>yX true) (λ_=>[])
def yFe (p:Prd):List (Nat×SAnn):=[(28,doJ p 3 7),(32,doJ p 3 8)]
structure SqI where
 x:Prd
 p:Prd
 l:List EaM
@[reducible] def SqI.ok (i:SqI):Prop:=i.p=kprod i.x/\i.x.raw/\(∀a∈i.l,a.ok)/\i.l.length<=9223372036854775807
structure SqJ where
 x:Es
 o:Mkt
 d:Dk
 k:Nat
structure SkJ where
 q:Int
 O:List (Int×Rep)
 N:List zKi
 m:Nat
def y3d (p:Prd):List AObj:=[.cells [sV p.code,.own 9,zA p.tick,zA p.low,zA p.high,zA p.wide,zA p.rule,zA p.top,zA p.least,zA p.part,.own 10] 25,.fro 1 (iE p.months),.fro 1 (iE p.settle)]
def sqC:Con:=con1 SqI (λi=>[prdV i.x,roV 13 (i.l.map eaE)]) (λ_=>[]) (λi=>i.ok) (λ_=>yX true) (λ_=>[])
def sqA (i:SqI):List SAnn:=[
 {ι:=SqJ,slots:=λj=>[(5,.nm 8 0),(6,.nm 0 0),(8,zA j.x.q),(9,zA j.k)],rows:=λj=>yHz i.p j.x j.o j.d++y3d i.p},
 {ι:=SkJ,slots:=λj=>[(8,zA (j.q+j.m)),(10,.nm 0 0),(11,zA j.m)],rows:=λj=>[.cells [.own 1,.own 2] yCn,zXx j.O,z2l j.N]}]
def sqJ (i:SqI):List (Nat×SAnn):=[(28,bj 38),(36,doJ i.p 6 10),(64,bj 98)]
end Sx
