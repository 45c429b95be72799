/- Texts of ours. No condition. -/
import Derived.Test.YthkofaanekmpmaaGreatR13
set_option linter.all false
open Sx.AObj renaming fro->aa,cells->ab
open List renaming map->ac,replicate->ae,drop->af
open Go.IntKind renaming i64->ag,u8->aj
namespace Sx
set_option maxRecDepth 100000
open Go Cv Go.Proofs
def yPd {n lo hi:Int} (h:lo<=hi):lo<=zF n lo hi/\zF n lo hi<=hi:=by
 have h1:=xBe n (show hi-lo+1≠0 by omega);have h2:=xBf n (show 0<hi-lo+1 by omega);rw[zF];constructor<;>omega
open Classical in
open Classical in
def y1q {p:Prd} {v w:Vw} (hv:VwG p v) (hw:VwG p w):v.length=w.length/\Vw.levs v<=100000000/\Vw.levs w<=100000000/\v.length<=1000000:=by
 have h1:=yJe hv;have h2:=yJe hw;have h3:=hv.r.2;have h4:=hw.r.2;exact⟨by rw[hv.len,hw.len],oM,oM,oM⟩
def yWs (i:LkI) (h:lookOC.cnd i):yFp i:=by
 obtain⟨hR,hB⟩:i.s.Rep i.p i.B/\BOk i.p i.B:=h;have hcl:=xS i.p;have hbl:=hB.bl;have hcnt:i.s.cntOk:=hR.cnt oM;have hto:vJ (i.B.map qZ):=hB.tops;have hll:=zJd i.p i.B;unfold yFp gY bX kJ g7 dF dN vV z6 dI;refine⟨i.p,rF7 (rF3 ⟨rfl,hB.ps,λ_ _=>Cv.cnd.mk (λc=>absurd hB.pc (by simpa using c)) (λ_=>⟨i.s,rfl,hcnt,λ_ _=>⟨i.p,rF7 (rF3 ⟨rfl,hB.ps,λ_ _=>⟨0,rfl,rfl,by rw[hR.tops],λj=>j<=i.p.count,λj=>i.p.count-j,y6l _,λj hj=>zH (λhlt=> ?_) (λhlt=> ?_)⟩⟩)⟩⟩)⟩)⟩
 ·have hlt:j<i.p.count:=by omega
  have hat:atB i.B (j:Int)=i.B.getD j []:=by rw[atB,y5e (by omega),y5x]
  have hq:∀s,(xY ⟨i.p,i.B.map qZ,j⟩ s).length<=1000000:=λs=>y8a (zKn _ _) Z8
  refine⟨⟨Z8,Z8⟩,1,rfl,⟨i.s,i.p,i.B,j,false⟩,rfl,rfl,rfl,⟨hR,Z9⟩,λ_ _=>⟨⟨⟨i.p,i.B.map qZ,j⟩,false⟩,rF8 (rF5 ⟨rfl,⟨hB.ps,hto⟩,λ_ _=>⟨⟨xY ⟨i.p,i.B.map qZ,j⟩ 1,1⟩,rfl,rfl,⟨.inl rfl,hq 1⟩,λ_ _=>⟨⟨Z8,Z8⟩,2,rfl,⟨i.s,i.p,i.B,j,true⟩,rfl,rfl,rfl,⟨hR,Z9⟩,λ_ _=>⟨⟨⟨i.p,i.B.map qZ,j⟩,true⟩,rF8 (rF5 ⟨rfl,⟨hB.ps,hto⟩,λ_ _=>⟨⟨xY ⟨i.p,i.B.map qZ,j⟩ 2,2⟩,rfl,rfl,⟨.inr rfl,hq 2⟩,λ_ _=>⟨?_,j+1,wjn oM,?_,rfl,Z9,Z9,rfl,k0q⟩⟩⟩)⟩⟩⟩⟩)⟩⟩
  ·rw[y5f,y5w];omega
  ·rw[y6n,yAf i.p i.B hlt,y8h,y5o,y5t,y8w];dsimp only;rw[hat];rfl
 ·have hj:j<=i.p.count:=hj;rw[y5q (by omega)];exact⟨(),k0q⟩
def z1f:lookOC.ok Tryz.prog 48:=okw mixed (gokc eM (gokc yPi (gokc b7 (gokc yMw (gokc zSm (gokc yMn gok0)))))) 1 (λ_=>[]) (λi=>y2d i) [] Tryz.func48 yWs
def gchk_ok:gchkC.ok Tryz.prog 39:=okw (V:=y0w) mixed (gokc z1t gok0) 0 (λ_=>[]) (λ_=>[]) [] Tryz.func39 λ(i:SbI) h=>⟨i,rfl,rfl,h,λ_ _=>⟨(),rfl,trivial⟩⟩
def zRs:glookC.ok Tryz.prog 90:=okw (V:=yVb) mixed gok0 0 (λ_=>[]) (λ_=>[]) [] Tryz.func90 λ(g:Gt) _=>⟨(),rfl,rfl,trivial⟩
def z1g:mlookC.ok Tryz.prog 91:=okw (V:=yTw) mixed gok0 0 (λ_=>[]) (λ_=>[]) [] Tryz.func91 λ(m:Mkt) _=>⟨(),k0q⟩
def zNw {p:Prd} {B:List (List zI)} (h:BWf p B) (U:List Int) (W:List (Int×Int)) (s:Int) (b:List UInt8):BOk p (pA p B U W s b).B:=by
 rw[pA];split
 ·exact h.ok
 split
 ·exact h.ok
 rw[zTc];split
 ·exact h.ok
 split
 ·exact h.ok
 ·exact yXa h U _
def y2l {p:Prd} {v w:Vw} (hv:VwG p v) (hw:VwG p w):(jZ 0 v w).length<=202000000:=by
 obtain⟨h1,h2,h3,h4⟩:=y1q hv hw;have:=yGp v w v.length (y6a _) oM;rw[y5q (y6a _),y5q (by omega)]at this;omega
def ved (i:EdI) (h:edC.cnd i):Ved i:=by
 obtain⟨o0,x,p,s,b⟩:=i;obtain⟨⟨hM,hB⟩,hb,⟨hs1,hs2⟩,⟨hq1,hq2⟩,hR⟩:(o0.Rep p x.B x.U/\BOk p x.B)/\b.length<=1048576/\(0<=s/\s<8)/\(0<=x.q/\x.q<=1000000000000000000)/\x.R.length<=1000000:=h;have hwf:=hM.s.wf hB;have hB2:BOk p (x.X p s b).B:=zNw hwf _ _ _ _;have hls:((lob s).toNat:Int)=aj.wrap s:=(zAe s).symm;unfold Ved lW z4z z4n z2u lX zAb;dsimp only;refine⟨trivial,trivial,[[lob s],b],?_,⟨by simp,by simp;omega,by simp⟩,λ_ _=>⟨trivial,trivial,by rw[y5f];omega,⟨⟨o0,x.W⟩,p,x.B,x.U,s,b,x.X p s b⟩,rfl,rfl,rfl,⟨⟨hM,hB⟩,Z9,rfl⟩,λo ho=> ?_⟩⟩
 ·show[rcE [lob s],rcE b]=_;rw[rcE,rcE,<- hls];rfl
 have hv:=zVl hwf;have hw:=zVl (ho.s.wf hB2);obtain⟨g1,g2,g3,g4⟩:=y1q hv hw;have hl:=y2l hv hw;have er:ac rcE (x.R++[jO s b])=ac rcE x.R++[[D.ro 1 (bE [[lob s],b].flatten)]]:=by
  rw[y5o];simp[rcE,jO]
 have eq1:x.q+((x.M p s b).length:Int)=ag.wrap (x.q+(ac xG (wZ x.q (x.M p s b))).length):=by
  have:(x.M p s b).length<=202000000:=hl;rw[y5f,eU,w64 (by omega)]
 refine⟨⟨⟨o,(x.X p s b).W⟩,rfl,rfl,trivial,λ_ _=>⟨k0q,⟨o,rF8 (rF4 ⟨rfl,trivial,λ_ _=>⟨k0q,?_,k0q,?_⟩⟩)⟩,k0q,o,rfl,rfl,rfl,rfl,rfl,rfl,rfl,rfl,rfl,rfl,rfl,rfl,rfl,trivial,λ_ _=>⟨k0q,?_⟩⟩⟩,trivial,k0q,⟨o,(x.X p s b).W⟩,rfl,rfl,trivial,λ_ _=>⟨k0q,o,rF8 (rF4 ⟨rfl,trivial,λ_ _=>⟨k0q,?_⟩⟩)⟩⟩
 all_goals exact⟨⟨o.s,p,(x.X p s b).B⟩,rF8 (rF3 ⟨rfl,⟨ho.s,hB2⟩,λ_ _=>⟨⟨y6 p x.B,y6 p (x.X p s b).B,x.q⟩,rfl,rfl,rfl,⟨g1,⟨Z9,Z9⟩,g2,g3,g4⟩,λ_ _=>⟨o,rF8 ⟨rfl,eq1,rF8 (rF7 ⟨rfl,er,rF3 ho⟩)⟩⟩⟩⟩)⟩
def yQf:edC.ok Tryz.prog 92:=okw mixed (gokc z7t (gokc gdo_ok (gokc zRs (gokc z1g (gokc z1f (gokc yGw gok0)))))) 0 (λ_=>[]) (λ_=>[]) [] Tryz.func92 ved
structure EoI where
 o:Mkt
 x:Es
 p:Prd
 d:Dk
 s:Int
 b:List UInt8
def yGq (p:Prd) (x:Es) (o:Mkt) (d:Dk):List AObj:=[enC (x.en p) 4 7,jnR 3 x.R.length,GtR ⟨o,x.W⟩,DkR d,rcR x.R,.fro 1 (iE p.months),.fro 1 (iE p.settle),zKx (y6 p x.B)]
@[reducible] def EoI.ok (i:EoI):Prop:=(i.o.Rep i.p i.x.B i.x.U/\BOk i.p i.x.B)/\i.b.length<=254/\(-1<=i.s/\i.s<8)/\(0<=i.x.q/\i.x.q<=1000000000000000000)/\i.x.R.length<=1000000/\i.d.b.length+i.b.length+7<=1048576
def EoI.Y (i:EoI):Es:=i.x.ed i.p i.s i.b
def EoI.N (i:EoI):List zQq:=wZ i.x.q (i.x.M i.p i.s i.b)
def EoI.O (i:EoI):List (Int×Rep):=(i.x.X i.p i.s i.b).O
def EoI.D (i:EoI):Dk:=⟨i.d.b++xJ (jO i.s i.b),i.d.safe⟩
def edoC:Con where
 ι:=EoI
 pat:=λi=>[.nm 0 0,zA i.s,roV 1 (bE i.b)]
 pre:=λi=>yGq i.p i.x i.o i.d
 cnd:=λi=>i.ok
 alts:=λi=>[
  {o:=Mkt,res:=λ_=> .agg [.own 8,z2p],post:=λo=>yGq i.p i.x o i.d++[zWh [(i.s,⟨2,0,0,0,0,0,0,(zS i.s i.b).2⟩)]],rel:=λo=>(zS i.s i.b).2≠0/\o.Rep i.p i.x.B i.x.U},
  {o:=Mkt,res:=λ_=> .agg [.own 10,.own 11],post:=λo=>[enC (i.Y.en i.p) 8 9,jnR 3 i.Y.R.length,GtR ⟨o,i.Y.W⟩,DkR i.D,.gone,.fro 1 (iE i.p.months),.fro 1 (iE i.p.settle),.gone,rcR i.Y.R,zKx (y6 i.p i.Y.B),zWh i.O,z2e i.N],rel:=λo=>(zS i.s i.b).2=0/\o.Rep i.p i.Y.B i.Y.U}]
def es0 (p:Prd):Es:=⟨ae p.count [],[],[],0,[]⟩
def yQd (p:Prd) (x:Es) (r:List UInt8):Es:=x.ed p (r.headD 0).toNat r.tail
def jA (p:Prd) (L:List (List UInt8)):Es:=L.foldl (yQd p) (es0 p)
def yGa (r:List UInt8):Prop:=r≠[]/\(zS (r.headD 0).toNat r.tail).2=0
structure EpI where
 p:Prd
 s:Nat
 L:List (List UInt8)
 t:List UInt8
def EpI.j (i:EpI):JoI:=⟨i.s,i.L,i.t⟩
@[reducible] def EpI.ok (i:EpI):Prop:=(i.p.check=0/\i.p.small)/\((ScI.mk i.L i.t).ok/\i.j.d.ok)/\(∀r∈i.L,yGa r)/\i.L.length<=100000
def enK (e:En):AObj:= .cells [sV e.p.code,.own 5,zA e.p.tick,zA e.p.low,zA e.p.high,zA e.p.wide,zA e.p.rule,zA e.p.top,zA e.p.least,zA e.p.part,.own 6,.nm 2 0,.nm 3 0,.own 7,zA e.q,.own 4] z0l
def eopC:Con where
 ι:=EpI
 pat:=λi=>[prdV i.p,.nm 0 0]
 pre:=λi=>[DkR i.j.d]
 cnd:=λi=>i.ok
 alts:=λi=>[{o:=Mkt,res:=λ_=> .tup [.nm 1 0,zA 0],post:=λo=>[DkR i.j.d',enK ((jA i.p i.L).en i.p),jnR 0 i.L.length,GtR ⟨o,(jA i.p i.L).W⟩,rcR (jA i.p i.L).R,.fro 1 (iE i.p.months),.fro 1 (iE i.p.settle),zKx (y6 i.p (jA i.p i.L).B)],rel:=λo=>o.Rep i.p (jA i.p i.L).B (jA i.p i.L).U}]
structure EpJ where
 o:Mkt
 x:Es
 k:Nat
def y4y (i:EpI):List SAnn:=[{ι:=EpJ,slots:=λj=>[(6,.nm 2 0),(10,.nm 0 0),(48,.own 8),(50,zA j.k)],rows:=λj=>[enC (j.x.en i.p) 4 7,jnR 3 i.L.length,GtR ⟨j.o,j.x.W⟩,DkR i.j.d',rcR j.x.R,.fro 1 (iE i.p.months),.fro 1 (iE i.p.settle),zKx (y6 i.p j.x.B),rcR i.L]}]
noncomputable def esnC:Con:=con1 En (λ_=>[.nm 0 0]) (λe=>[enC e 4 7,.gone,.gone,.gone,.gone,.gone,.gone,zKx e.v]) (λe=>zBa e.v) (λe=>roV 1 (bE (cW e.v e.q))) (λe=>[enC e 4 7,.gone,.gone,.gone,.gone,.gone,.gone,zKx e.v])
structure ErI where
 e:En
 n:Int
def zFm (a:EdI):Prop:=(a.o.Rep a.p a.x.B a.x.U/\BOk a.p a.x.B)/\a.b.length<=1048576/\(0<=a.s/\a.s<8)/\(0<=a.x.q/\a.x.q<=1000000000000000000)/\a.x.R.length<=1000000
def cP (a:EoI):=(ac yI (y6 a.p (a.x.X a.p a.s a.b).B))
def cQ (a:EoI):=(↑(a.x.R++[jO a.s a.b]).length:Int)
def cR (a:EoI):=(↑(a.x.M a.p a.s a.b).length:Int)
def gB (a:EoI):=(ac yI (y6 a.p a.x.B))
def yZx (i:EoI):Prop:=
 ∃(a:SbI),a.s=i.s/\bE a.b=bE i.b/\a.b.length<=1099511627776/\∀(b:Unit),True->cnd ((zS a.s a.b).snd !=0) (∃(c:GdI),c.s=i.s/\bE c.b=bE i.b/\GtR c.g=GtR (Gt.mk i.o i.x.W)/\(lW c)/\∀(d:Mkt),d.Rep c.p c.X.B c.X.U->(∃(e:Mkt),True/\dh (sb i.p.code)/\dh i.p.tick/\dh i.p.low/\dh i.p.high/\dh i.p.wide/\dh i.p.rule/\dh i.p.top/\dh i.p.least/\dh i.p.part/\dh i.x.q/\dh ((↑i.x.R.length:Int))/\GtR (Gt.mk e i.x.W)=GtR (Gt.mk d c.X.W)/\dh (DkR i.d)/\dh (ac rcE i.x.R)/\dh (aa 1 (iE i.p.months))/\dh (aa 1 (iE i.p.settle))/\aa 10 (gB i)=zKx (y6 i.p i.x.B)/\[qA (i.s,Rep.mk 2 0 0 0 0 0 0 (zS i.s i.b).snd)]=ac qA c.X.O/\(zS i.s i.b).snd≠0/\e.Rep i.p i.x.B i.x.U)\/∃(o_1:Mkt),dh (sb i.p.code)/\dh i.p.tick/\dh i.p.low/\dh i.p.high/\dh i.p.wide/\dh i.p.rule/\dh i.p.top/\dh i.p.least/\dh i.p.part/\i.x.q+(cR i)=i.x.q/\(cQ i)=(↑i.x.R.length:Int)/\GtR (Gt.mk o_1 (i.x.X i.p i.s i.b).W)=GtR (Gt.mk d c.X.W)/\DkR i.D=DkR i.d/\dh (aa 1 (iE i.p.months))/\dh (aa 1 (iE i.p.settle))/\ac rcE (i.x.R++[jO i.s i.b])=ac rcE i.x.R/\aa 10 (cP i)=zKx (y6 i.p i.x.B)/\ac qA i.O=ac qA c.X.O/\ac xG i.N=[]/\(zS i.s i.b).snd=0/\o_1.Rep i.p (i.x.X i.p i.s i.b).B (i.x.X i.p i.s i.b).U) (True/\True/\∃(c:List (List UInt8)),ac rcE c=[[D.ro 1 [[D.v (.int .u8 (aj.wrap i.s))]]],[D.ro 1 (bE i.b)]]/\(1<=c.flatten.length/\c.flatten.length<=1099511627776/\c.length<=1000)/\∀(d:Unit),True->True/\∃(e:JaI),bE e.l=bE c.flatten/\e.n=(↑i.x.R.length:Int)/\DkR e.d=DkR i.d/\(e.l.length<=255/\e.d.b.length+e.l.length+(6:Nat)<=(1048576:Nat)/\0<=e.n/\e.n<=1048576)/\∀(f:Unit),True->∃(g:EdI),g.s=i.s/\bE g.b=bE i.b/\sb g.p.code=sb i.p.code/\g.p.tick=i.p.tick/\g.p.low=i.p.low/\g.p.high=i.p.high/\g.p.wide=i.p.wide/\g.p.rule=i.p.rule/\g.p.top=i.p.top/\g.p.least=i.p.least/\g.p.part=i.p.part/\g.x.q=i.x.q/\GtR g.g=GtR (Gt.mk i.o i.x.W)/\ac rcE g.x.R=ac rcE i.x.R/\aa 1 (iE g.p.months)=aa 1 (iE i.p.months)/\aa 1 (iE g.p.settle)=aa 1 (iE i.p.settle)/\aa 10 (ac yI (y6 g.p g.x.B))=zKx (y6 i.p i.x.B)/\(zFm g)/\∀(h:Mkt),h.Rep g.p (g.x.X g.p g.s g.b).B (g.x.X g.p g.s g.b).U->(∃(j:Mkt),False)\/∃(o_1:Mkt),sb i.p.code=sb g.p.code/\i.p.tick=g.p.tick/\i.p.low=g.p.low/\i.p.high=g.p.high/\i.p.wide=g.p.wide/\i.p.rule=g.p.rule/\i.p.top=g.p.top/\i.p.least=g.p.least/\i.p.part=g.p.part/\i.x.q+(cR i)=g.x.q+(↑(g.x.M g.p g.s g.b).length:Int)/\(cQ i)=e.n+1/\GtR (Gt.mk o_1 (i.x.X i.p i.s i.b).W)=GtR (Gt.mk h (g.x.X g.p g.s g.b).W)/\DkR i.D=DkR (Dk.mk (e.d.b++xJ e.l) e.d.safe)/\aa 1 (iE i.p.months)=aa 1 (iE g.p.months)/\aa 1 (iE i.p.settle)=aa 1 (iE g.p.settle)/\ac rcE (i.x.R++[jO i.s i.b])=ac rcE (g.x.R++[jO g.s g.b])/\aa 10 (cP i)=aa 10 (lX g)/\ac qA i.O=ac qA g.O/\ac xG i.N=ac xG g.N/\(zS i.s i.b).snd=0/\o_1.Rep i.p (i.x.X i.p i.s i.b).B (i.x.X i.p i.s i.b).U)
def nJ (a:EpI):Prop:=sb a.p.code=sb a.p.code/\True/\dh a.p.tick/\dh a.p.low/\dh a.p.high/\dh a.p.wide/\dh a.p.rule/\dh a.p.top/\dh a.p.least/\dh a.p.part/\True/\True
def zNg (a:JoI):Prop:=((∀(b:List UInt8),b∈a.L->b.length<=255)/\(zCm a.t).snd.snd=10/\(fsB a.L).length+a.t.length<=1048576)/\a.s<=(fsB a.L++a.t).length/\(fsB a.L++a.t).length<=1048576
def v8 (a:EpI):=(ac yI (y6 a.p (jA a.p a.L).B))
def yZs (i:EpI):Prop:=
 ∃(a:Prd),sb a.code=sb i.p.code/\iE a.months=iE i.p.months/\a.tick=i.p.tick/\a.low=i.p.low/\a.high=i.p.high/\a.wide=i.p.wide/\a.rule=i.p.rule/\a.top=i.p.top/\a.least=i.p.least/\a.part=i.p.part/\iE a.settle=iE i.p.settle/\(z6 a)/\(∀(b:Unit),a.check=0->∃(c:JoI),DkR c.d=DkR i.j.d/\(zNg c)/\∀(d:Unit),True->∃(e:List Int),iE e=iE i.p.months/\e.length<=1000000/\∀(f:Unit),True->True/\∃(g:List Int),iE g=iE i.p.settle/\g.length<=1000000/\∀(h:Unit),True->∃(j:Gt),jR j.m=jR (Mkt.mk a (cV a) [])/\xL j.W=xL []/\True/\∀(k:Unit),True->(nJ i)/\(nJ i)/\∃(l:Mkt),sb l.p.code=sb j.m.p.code/\l.p.tick=j.m.p.tick/\l.p.low=j.m.p.low/\l.p.high=j.m.p.high/\l.p.wide=j.m.p.wide/\l.p.rule=j.m.p.rule/\l.p.top=j.m.p.top/\l.p.least=j.m.p.least/\l.p.part=j.m.p.part/\zD l.s=zD j.m.s/\zW l.used=zW j.m.used/\aa 1 (iE l.p.months)=aa 1 (iE j.m.p.months)/\aa 1 (iE l.p.settle)=aa 1 (iE j.m.p.settle)/\True/\∀(m:Unit),True->(nJ i)/\(nJ i)/\∃(n:LkI),sb n.p.code=sb i.p.code/\iE n.p.months=iE e/\n.p.tick=i.p.tick/\n.p.low=i.p.low/\n.p.high=i.p.high/\n.p.wide=i.p.wide/\n.p.rule=i.p.rule/\n.p.top=i.p.top/\n.p.least=i.p.least/\n.p.part=i.p.part/\iE n.p.settle=iE g/\zD n.s=zD l.s/\(n.s.Rep n.p n.B/\BOk n.p n.B)/\∀(p:Unit),True->(nJ i)/\∃(q:EpJ),(↑q.k:Int)=0/\dh (sb i.p.code)/\dh i.p.tick/\dh i.p.low/\dh i.p.high/\dh i.p.wide/\dh i.p.rule/\dh i.p.top/\dh i.p.least/\dh i.p.part/\q.x.q=0/\(↑i.L.length:Int)=(↑c.L.length:Int)/\sb q.o.p.code=sb l.p.code/\q.o.p.tick=l.p.tick/\q.o.p.low=l.p.low/\q.o.p.high=l.p.high/\q.o.p.wide=l.p.wide/\q.o.p.rule=l.p.rule/\q.o.p.top=l.p.top/\q.o.p.least=l.p.least/\q.o.p.part=l.p.part/\zD q.o.s=zD n.s/\zW q.o.used=zW l.used/\aa 1 (iE q.o.p.months)=aa 1 (iE l.p.months)/\aa 1 (iE q.o.p.settle)=aa 1 (iE l.p.settle)/\xL q.x.W=xL j.W/\DkR i.j.d'=DkR c.d'/\ac rcE q.x.R=[]/\aa 1 (iE i.p.months)=aa 1 (iE e)/\aa 1 (iE i.p.settle)=aa 1 (iE g)/\ac yI (y6 i.p q.x.B)=ac yI (y6 n.p n.B)/\ac rcE i.L=ac rcE c.L/\∃(r:EpJ->Prop),∃(s:EpJ->Nat),r q/\∀(t:EpJ),r t->cnd (decide ((↑t.k:Int)<(↑(ac rcE c.L).length:Int))) ((0<=(↑t.k:Int)/\(↑t.k:Int)<(↑(ac rcE i.L).length:Int))/\∃(u:List (List D)),zE (ac rcE i.L) (↑t.k:Int).toNat 0 1=some [D.ro 1 u]/\cnd ((↑u.length:Int)==0) (∃(v:Mkt),False) (((0:Int)<=(0:Int)/\0<(↑u.length:Int))/\∃(v:Int),zE u (Int.toNat 0) 0 1=some [D.v (.int .u8 v)]/\((0:Int)<=(1:Int)/\1<=(↑u.length:Int))/\∃(w:SbI),w.s=ag.wrap v/\bE w.b=af (Int.toNat 1) u/\w.b.length<=1099511627776/\∀(x:Unit),True->cnd ((zS w.s w.b).snd !=0) (∃(y:Mkt),False) (((0:Int)<=(0:Int)/\0<(↑u.length:Int))/\∃(y:Int),zE u (Int.toNat 0) 0 1=some [D.v (.int .u8 y)]/\((0:Int)<=(1:Int)/\1<=(↑u.length:Int))/\∃(z:EdI),z.s=ag.wrap y/\bE z.b=af (Int.toNat 1) u/\sb z.p.code=sb i.p.code/\z.p.tick=i.p.tick/\z.p.low=i.p.low/\z.p.high=i.p.high/\z.p.wide=i.p.wide/\z.p.rule=i.p.rule/\z.p.top=i.p.top/\z.p.least=i.p.least/\z.p.part=i.p.part/\z.x.q=t.x.q/\GtR z.g=GtR (Gt.mk t.o t.x.W)/\ac rcE z.x.R=ac rcE t.x.R/\aa 1 (iE z.p.months)=aa 1 (iE i.p.months)/\aa 1 (iE z.p.settle)=aa 1 (iE i.p.settle)/\aa 10 (ac yI (y6 z.p z.x.B))=aa 10 (ac yI (y6 i.p t.x.B))/\(zFm z)/\∀(a_1:Mkt),a_1.Rep z.p (z.x.X z.p z.s z.b).B (z.x.X z.p z.s z.b).U->∃(a_2:EpJ),(↑a_2.k:Int)=ag.wrap ((↑t.k:Int)+1)/\sb i.p.code=sb z.p.code/\i.p.tick=z.p.tick/\i.p.low=z.p.low/\i.p.high=z.p.high/\i.p.wide=z.p.wide/\i.p.rule=z.p.rule/\i.p.top=z.p.top/\i.p.least=z.p.least/\i.p.part=z.p.part/\a_2.x.q=z.x.q+(↑(z.x.M z.p z.s z.b).length:Int)/\dh ((↑i.L.length:Int))/\GtR (Gt.mk a_2.o a_2.x.W)=GtR (Gt.mk a_1 (z.x.X z.p z.s z.b).W)/\dh (DkR i.j.d')/\ac rcE a_2.x.R=ac rcE (z.x.R++[jO z.s z.b])/\aa 1 (iE i.p.months)=aa 1 (iE z.p.months)/\aa 1 (iE i.p.settle)=aa 1 (iE z.p.settle)/\aa 10 (ac yI (y6 i.p a_2.x.B))=aa 10 (lX z)/\dh (ac rcE i.L)/\r a_2/\s a_2<s t/\dh (aa 1 (iE l.p.months))/\dh (aa 1 (iE l.p.settle))/\dh (aa 1 (iE j.m.p.months))/\dh (aa 1 (iE j.m.p.settle))/\dh (aa 1 (iE g))/\dh (aa 1 (iE e))/\dh (ab [V.d (D.v (Value.string (sb i.p.code))),V.own 7,V.d (dI i.p.tick),V.d (dI i.p.low),V.d (dI i.p.high),V.d (dI i.p.wide),V.d (dI i.p.rule),V.d (dI i.p.top),V.d (dI i.p.least),V.d (dI i.p.part),V.own 8] 25)/\dh (aa 1 (iE i.p.settle))/\dh (aa 1 (iE i.p.months))))) (∃(u:Mkt),dh ((0:Int))/\dh (DkR i.j.d')/\dh (sb i.p.code)/\dh i.p.tick/\dh i.p.low/\dh i.p.high/\dh i.p.wide/\dh i.p.rule/\dh i.p.top/\dh i.p.least/\dh i.p.part/\(jA i.p i.L).q=t.x.q/\dh ((↑i.L.length:Int))/\GtR (Gt.mk u (jA i.p i.L).W)=GtR (Gt.mk t.o t.x.W)/\ac rcE (jA i.p i.L).R=ac rcE t.x.R/\dh (aa 1 (iE i.p.months))/\dh (aa 1 (iE i.p.settle))/\aa 10 (v8 i)=aa 10 (ac yI (y6 i.p t.x.B))/\u.Rep i.p (jA i.p i.L).B (jA i.p i.L).U))/\∀(b:Unit),a.check≠0->cnd (a.check !=0) (∃(c:Mkt),False) (∃(c:JoI),DkR c.d=DkR i.j.d/\(zNg c)/\∀(d:Unit),True->∃(e:List Int),iE e=iE i.p.months/\e.length<=1000000/\∀(f:Unit),True->True/\∃(g:List Int),iE g=iE i.p.settle/\g.length<=1000000/\∀(h:Unit),True->∃(j:Gt),False)
def y3q (e:En):Prop:=
 ∃(i:zQo),ac yI i.v=ac yI e.v/\i.seq=e.q/\(List.length i.v<=1099511627776/\∀(b:Sd×Sd),b∈i.v->b.fst.levels.length<=1099511627776/\b.snd.levels.length<=1099511627776)/\∀(o:Unit),True->∃(o:Unit),bE (cW e.v e.q)=bE (cW i.v i.seq)/\dh (sb e.p.code)/\dh e.p.tick/\dh e.p.low/\dh e.p.high/\dh e.p.wide/\dh e.p.rule/\dh e.p.top/\dh e.p.least/\dh e.p.part/\e.q=e.q/\aa 10 (ac yI e.v)=zKx e.v/\True
def z3l {s:Int} {b:List UInt8} (h:(zS s b).2=0):0<=s/\s<8:=by
 rw[zS]at h;split at h
 ·cases h
 ·omega
def y4c (i:EoI) (h:edoC.cnd i):yZx i:=by
 obtain⟨o0,x,p,d,s,b⟩:=i;obtain⟨⟨hM,hB⟩,hb,⟨hs1,hs2⟩,⟨hq1,hq2⟩,hR,hd⟩:(o0.Rep p x.B x.U/\BOk p x.B)/\b.length<=254/\(-1<=s/\s<8)/\(0<=x.q/\x.q<=1000000000000000000)/\x.R.length<=1000000/\d.b.length+b.length+7<=1048576:=h;have hls:((lob s).toNat:Int)=aj.wrap s:=(zAe s).symm;unfold yZx lX lW gB cR cQ cP zFm;dsimp only;refine⟨⟨s,b⟩,rfl,rfl,Z9,λ_ _=>Cv.cnd.mk (λe=> ?_) (λe=> ?_)⟩
 ·have e:(zS s b).2≠0:=by simpa using e
  exact⟨⟨⟨o0,x.W⟩,p,x.B,x.U,s,b,yCz x.B x.U x.W s 0 (zS s b).2⟩,rfl,rfl,rfl,⟨⟨hM,hB⟩,Z9,by dsimp only;rw[zTr,y5g e]⟩,λo ho=> .inl ⟨o,trivial,rF8 (rF6 (rF3 ⟨rfl,e,ho⟩))⟩⟩
 ·have e:(zS s b).2=0:=by simpa using e
  have hs:=z3l e;refine⟨trivial,trivial,[[lob s],b],?_,⟨by simp,by simp;omega,by simp⟩,λ_ _=>⟨trivial,⟨d,x.R.length,jO s b⟩,by simp[jO],rfl,rfl,⟨by simp[jO];omega,by simp[jO];omega,Z9,Z9⟩,λ_ _=>⟨⟨o0,x,p,s,b⟩,rF8 (rF8 ⟨rfl,⟨⟨hM,hB⟩,Z9,hs,⟨hq1,hq2⟩,hR⟩,λo ho=> .inr ⟨o,rF6 (rF3 ⟨rfl,by simp,rF7 ⟨rfl,e,ho⟩⟩)⟩⟩)⟩⟩⟩;show[rcE [lob s],rcE b]=_;rw[rcE,rcE,<- hls];rfl
def edo_ok:edoC.ok Tryz.prog 34:=okw mixed (gokc gchk_ok (gokc gdo_ok (gokc z7t (gokc yOw (gokc yQf gok0))))) 0 (λ_=>[]) (λ_=>[]) [] Tryz.func34 y4c
def y1p {p:Prd} {L:List (List UInt8)} {k:Nat} {r:List UInt8} (h:L[k]? =some r):jA p (L.take (k+1))=yQd p (jA p (L.take k)) r:=by
 rw[y6n,h,y8h,jA,xAa];rfl
def z7w {p:Prd} {x:Es} {o:Mkt} (hM:o.Rep p x.B x.U) (hB:BOk p x.B) (s:Int) (b:List UInt8) {o2:Mkt} (ho:o2.Rep p (x.X p s b).B (x.X p s b).U):
 BOk p (x.ed p s b).B/\x.q<=(x.ed p s b).q/\(x.ed p s b).q<=x.q+202000000/\(x.ed p s b).R.length=x.R.length+1:=by
 have hwf:=hM.s.wf hB;have hB2:BOk p (x.X p s b).B:=zNw hwf _ _ _ _;have:(x.M p s b).length<=202000000:=y2l (zVl hwf) (zVl (ho.s.wf hB2));refine⟨hB2,?_,?_,?_⟩
 ·show x.q<=x.q+((x.M p s b).length:Int);omega
 ·show x.q+((x.M p s b).length:Int)<=_;omega
 ·show(x.R++[jO s b]).length=_;rw[y5d];rfl
def y4b (i:EpI) (h:eopC.cnd i):yZs i:=by
 obtain⟨p,s,L,t⟩:=i;obtain⟨⟨hc,hsm⟩,⟨hs,hd⟩,hr,hl⟩:(p.check=0/\p.small)/\((ScI.mk L t).ok/\(JoI.mk s L t).d.ok)/\(∀r∈L,yGa r)/\L.length<=100000:=h;have hB0:BOk p (ae p.count []):=BOk.new hc hsm;have hM0:=z5p p;have m6:=(kE hc).m6;have sl:=(kE hc).s1;have hml:(L.map rcE).length=L.length:=y5f _;unfold yZs v8 zNg nJ lX zFm z6 dI;dsimp only;refine⟨p,rF7 (rF3 ⟨rfl,hsm,λ_ _=>⟨⟨s,L,t⟩,rfl,⟨hs,hd⟩,λ_ _=>⟨p.months,rfl,oM,λ_ _=>⟨trivial,p.settle,rfl,oM,λ_ _=>⟨⟨mk0 p,[]⟩,rfl,rfl,trivial,λ_ _=>⟨k0q,k0q,mk0 p,rF8 (rF4 ⟨rfl,trivial,λ_ _=>⟨k0q,k0q,⟨(mk0 p).s,p,ae p.count []⟩,rF8 (rF3 ⟨rfl,⟨hM0.s,hB0⟩,λ_ _=>⟨k0q,⟨mk0 p,es0 p,0⟩,rF8 (rF8 (rF8 (rF7 ⟨rfl,λj=>(j.k<=L.length/\j.x=jA p (L.take j.k))/\(j.o.Rep p j.x.B j.x.U/\BOk p j.x.B)/\(0<=j.x.q/\j.x.q<=202000000*(j.k:Int))/\j.x.R.length=j.k,λj=>L.length-j.k,⟨⟨y6l _,rfl⟩,⟨hM0,hB0⟩,⟨y8s _,y8s _⟩,rfl⟩,?_⟩)))⟩⟩)⟩⟩)⟩⟩⟩⟩⟩,λ_ hne=>absurd hc hne⟩)⟩;rintro⟨o,x,k⟩ ⟨⟨hk,hx⟩,⟨hM,hB⟩,⟨hq1,hq2⟩,hR⟩;dsimp only at hk hx hM hB hq1 hq2 hR ⊢;refine zH (λhlt=> ?_) (λhlt=> ?_)
 ·obtain⟨r,hrk⟩:=yD (l:=L) (i:=k) oM;have hrm:=y5p hrk;obtain⟨hne,hrd⟩:=hr r hrm;have hr255:=hs.1 r hrm;obtain⟨c,b,rfl⟩:∃c b,r=c::b:=by
   cases r with
   |nil=>exact absurd rfl hne
   |cons c b=>exact⟨c,b,rfl⟩
  have hrd:(zS (c.toNat:Int) b).2=0:=hrd;have hc8:=z3l hrd;have wc:ag.wrap (c.toNat:Int)=c.toNat:=w64 oM;rw[y5j]at hr255;refine⟨⟨oM,oM⟩,bE (c::b),zUu hrk,Cv.cnd.mk (λe=>by have e:=beq_iff_eq.1 e;rw[yK,y5j]at e;omega) (λ_=>⟨⟨Z8,by rw[yK,y5j];omega⟩,c.toNat,uU rfl,⟨Z8,by rw[yK,y5j];omega⟩,⟨c.toNat,b⟩,wc.symm,rfl,Z9,λ_ _=>Cv.cnd.mk (λe=>by simp[hrd]at e) (λ_=>⟨⟨Z8,by rw[yK,y5j];omega⟩,c.toNat,uU rfl,⟨Z8,by rw[yK,y5j];omega⟩,⟨o,x,p,c.toNat,b⟩,wc.symm,rF8 (rF7 ⟨rfl,⟨⟨hM,hB⟩,Z9,hc8,⟨hq1,Z9⟩,Z9⟩,λo2 ho=> ?_⟩)⟩)⟩)⟩;obtain⟨t1,t2,t3,t4⟩:=z7w hM hB (c.toNat:Int) b ho;exact⟨⟨o2,x.ed p c.toNat b,k+1⟩,wjn oM,rF8 (rF6 (rF3 ⟨rfl,⟨⟨Z9,by dsimp only;rw[y1p hrk,<- hx];rfl⟩,⟨ho,t1⟩,⟨Z9,Z9⟩,Z9⟩,Z9,k0q⟩))⟩
 ·obtain rfl:k=L.length:=by omega
  rw[y8d]at hx;subst hx;exact⟨o,by repeat'(first|exact rfl|exact hM|apply And.intro)⟩
def eop_ok:eopC.ok Tryz.prog 31:=okw mixed (gokc newG_ok (gokc yXn (gokc yBn (gokc zZw (gokc zRs (gokc z1g (gokc z1f (gokc gchk_ok (gokc yQf gok0))))))))) 0 (λ_=>[]) (λi=>y4y i) [] Tryz.func31 y4b
def yXc:esnC.ok Tryz.prog 40:=okw (V:=y3q) mixed (gokc yYa gok0) 0 (λ_=>[]) (λ_=>[]) [] Tryz.func40 λ(e:En) h=>⟨⟨e.v,e.q⟩,rfl,rfl,h,λ_ _=>⟨(),k0q⟩⟩
structure EaM where
 kind:Int
 s:Int
 n:Int
 c:Cmd
 b:List UInt8
def eaE (a:EaM):List D:= .v (.int .i64 a.kind):: .v (.int .i64 a.s):: .v (.int .i64 a.n)::(cmdE a.c++[.ro 1 (bE a.b)])
@[reducible] def eaV (a:EaM):V:= .agg [zA a.kind,zA a.s,zA a.n,zA a.c.kind,zA a.c.id,zA a.c.inst,zA a.c.side,zA a.c.price,zA a.c.qty,zA a.c.least,zA a.c.time,sV a.c.label,roV 1 (bE a.b)]
@[reducible] def EaM.ok (a:EaM):Prop:=yW a.kind/\yW a.s/\yW a.n/\a.c.raw
structure ByI where
 p:Prd
 a:EaM
 k:Nat
def ByI.t (i:ByI):Cmd:=xH ⟨i.p,i.a.c,i.k⟩
def ByI.r (i:ByI):List UInt8:=if i.a.kind=2 then i.a.b.take 100 else i.t.enc
def bytC:Con:=con1 ByI (λi=>[prdV i.p,eaV i.a,zA i.k]) (λ_=>[]) (λi=>(∃x,i.p=kprod x)/\i.a.ok/\i.k<=1000000) (λi=>roV 1 (bE i.r)) (λ_=>[])
@[reducible] def yCp:Nat:=77
structure SdJ where
 x:Es
 o:Mkt
 d:Dk
 O:List (Int×Rep)
 N:List zQq
def y3t (p:Prd) (j:SdJ):List AObj:=yGq p j.x j.o j.d++[.cells [.own 9,.own 10] yCp,zWh j.O,z2e j.N]
def doJ (p:Prd) (e a:Nat):SAnn:={ι:=SdJ,slots0:=λ_=>[(e,.nm 0 0)],rows0:=λj=>yGq p j.x j.o j.d,slots:=λj=>[(e,.nm 0 0),(a,.nm 8 0)],rows:=y3t p}
noncomputable def known24C:Con:=con1 Prd (λ_=>[]) (λ_=>[]) (λp=>p=mT 1) (λ_=>yR true) (λ_=>[])
def yDy (p:Prd):List (Nat×SAnn):=[(28,doJ p 3 7),(32,doJ p 3 8)]
structure SqI where
 x:Prd
 p:Prd
 l:List EaM
@[reducible] def SqI.ok (i:SqI):Prop:=i.p=kprod i.x/\i.x.raw/\(∀a∈i.l,a.ok)/\i.l.length<=9223372036854775807
def y4d (p:Prd):List AObj:=[.cells [sV p.code,.own 9,zA p.tick,zA p.low,zA p.high,zA p.wide,zA p.rule,zA p.top,zA p.least,zA p.part,.own 10] 25,.fro 1 (iE p.months),.fro 1 (iE p.settle)]
def sqC:Con:=con1 SqI (λi=>[prdV i.x,roV 13 (i.l.map eaE)]) (λ_=>[]) (λi=>i.ok) (λ_=>yR true) (λ_=>[])
end Sx
