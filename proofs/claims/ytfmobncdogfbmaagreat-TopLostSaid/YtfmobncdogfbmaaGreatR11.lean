/- Texts of ours. No condition. -/
import Derived.Test.YtfmobncdogfbmaaGreatR10
set_option linter.all false
open List renaming map->aa,take->ab,drop->ac,length->ae
open Sx.fq renaming cells->af,kr->ag,rk->aj,own->ak
open Bool renaming false->am,true->ao
open Int renaming toNat->ap
open Go.IntKind renaming i64->aq
open Option renaming some->ar
open True renaming intro->Y_
open Cv.dp renaming mk->W_
namespace Sx
set_option maxRecDepth 100000
open Go Cv Go.Proofs
open Tryz renaming prog->Z_
open Tryz hiding prog
def vN (B:Q_ zK):Nat:=(B.map ae).sum
def spO (o:zK):Int×Int:=(o.side,o.dm)
def Xn (B:Q_ zK):List (List (Int×Int)):=B.map λL=>L.map spO
def yIp (id q:Int):∀(L:List zK),(wZ L id q).length<=L.length/\((wZ L id q).length=L.length->(wZ L id q).map spO=L.map spO)
 |[]=>⟨jx _,λ_=>rfl⟩
 |o::L=>by
  obtain⟨i1,i2⟩:=yIp id q L;rw[wZ]at i1 i2;rw[wZ,List.filterMap_cons];by_cases c:o.id=id
  ·rw[fh c];by_cases d:o.dr=q
   ·rw[fh d];refine⟨HI i1,λe=> ?_⟩;rw[iG]at e;dsimp only at e;omega
   ·rw[eg d];refine⟨Nat.succ_le_succ i1,λe=> ?_⟩;rw[jg,jg,i2 (Nat.succ.inj e)];rfl
  ·rw[eg c];refine⟨Nat.succ_le_succ i1,λe=> ?_⟩;rw[jg,jg,i2 (Nat.succ.inj e)]
def z0q:∀{B:Q_ zK} {k:Nat} {L L':List zK},B[k]? =ar L->vN (B.set k L')+L.length=vN B+L'.length
 |[],k,L,L',h=>by cases h
 |M::B,0,L,L',h=>by
  cases h;rw[OC,vN,vN,jg,jg,qi,qi];omega
 |M::B,k+1,L,L',h=>by
  have:=z0q (B:=B) (k:=k) (L:=L) (L':=L') h;rw[vN,vN]at this;rw[OB,vN,vN,jg,jg,qi,qi];omega
def yIf (B:Q_ zK) (id q:Int):vN (iR B id q).1<=vN B/\(vN (iR B id q).1=vN B->Xn (iR B id q).1=Xn B):=by
 rw[iR];split
 ·exact⟨jx _,λ_=>rfl⟩
 ·rename_i k hk;dsimp only;obtain⟨L,hL,hh⟩:=uW hk;rw[zX hL,qK];split
  ·rw[jK hL];exact⟨jx _,λ_=>rfl⟩
  split
  ·rw[jK hL];exact⟨jx _,λ_=>rfl⟩
  dsimp only;have:=z0q (L':=wZ L id q) hL;obtain⟨i1,i2⟩:=yIp id q L;refine⟨oM,λe=> ?_⟩;rw[Xn,Xn,List.map_set,i2 X_];exact jK (by rw[ra,hL];rfl)
def zj (f:Int->Int) (k v:Int):Int->Int:=λx=>if x=k then v else f x
def one (r:ga) (m:Int):Int:=if r.kind=3/\r.inst=m then(if r.side=1 then r.dr else-r.dr)else 0
def vq (p:fj) (k s q m:Int):Int:=
 if(p.gp k).2.2=ao then(if(p.gp k).1=m then(if s=1 then q else-q)else 0)-(if(p.gp k).2.1=m then(if s=1 then q else-q)else 0)
 else if k=m then(if s=1 then q else-q)else 0
def yZb (p:fj) (B:Q_ zK) (inst id s dm q:Int):vN (Iz p B inst id s dm q).1<=vN B+1:=by
 rw[Iz]
 repeat' split
 all_goals first|exact By _|skip
 rename_i c1 _ _ _;obtain⟨L,hL⟩:=zZ (l:=B) (i:=inst.toNat) oM;dsimp only;rw[zX hL];have h1:=z0q (L':=(CC L s id dm q).1) hL;have h2:(CC L s id dm q).1.length<=L.length+1:=by
  rw[CC]
  repeat' split
  all_goals first|exact By _|skip
  have:=(z4r L s id dm q).length_eq;rw[ib,iG,ib]at this;dsimp only;omega
 omega
def yHe {s:Int}:∀{F:List zK},JZ s F->cT s (yh F)
 |[],_=>List.Pairwise.nil
 |o::F,h=>by
  rw[JZ,zg]at h;have ih:=yHe h.2;rw[yh];cases hg:yh F with
  |nil=>exact List.pairwise_singleton _ _
  |cons v vs=>
   rw[hg]at ih;dsimp only;have hv:=ih;rw[cT,zg]at hv;by_cases e:v.dm=o.dm
   ·rw[fh e];exact zg.2 ⟨λw hw=>hv.1 w hw,hv.2⟩
   ·rw[eg e];obtain⟨o',r,e2,e3⟩:=Y2 hg;have hb:jo s o.dm v.dm=ao:=by
     rw[<- e3];refine Vd (h.1 o' (by rw[e2];exact iY)) (by rw[e3];exact e)
    refine zg.2 ⟨λw hw=> ?_,ih⟩;rcases j'.1 hw with rfl|hw
    ·exact hb
    ·exact Is hb (hv.1 w hw)
def yXk {p:fj} {B:Q_ zK} (h:rz p B) {k:Nat} {L:List zK} (hL:B[k]? =ar L) {s:Int} (hs:s=1\/s=2):cT s (uF L s)/\Ru (uF L s):=
 ⟨yHe (h.xw k L hL s hs),λl hl=>(XM (λo ho=>(h.od k L hL).1 o (vi.1 ho).1) hl).1⟩
open Classical
def cW (l:List Quote) (b:Quote):Int×Int:=l.foldl (λa q=>if q.dm=b.dm then(if q.dr>a.1 then q.dr else a.1,a.2+1)else a) (b.dr,0)
def kC (l:List Quote) (s:Int):Lv×Bool:=if(z6 l s).2 then(⟨(z6 l s).1.dm,(cW l (z6 l s).1).1,(cW l (z6 l s).1).2⟩,ao)else(⟨0,0,0⟩,am)
def KN:gh:=fp Am (λi=>[ox 6 (i.l.map zL),zB i.s]) i6 (λi=>(i.s=1\/i.s=2)/\i.l.length<=1000000) (λi=> .je [zB (kC i.l i.s).1.dm,zB (kC i.l i.s).1.dr,zB (kC i.l i.s).1.count,yM (kC i.l i.s).2]) i6
def y5v (i:Am):List gu:=[{ι:=Nat,du:=λk=>[(8,.nm 0 0),(10,zB (cW (i.l.take k) (z6 i.l i.s).1).1),(11,zB (cW (i.l.take k) (z6 i.l i.s).1).2),(26,zB k)],rows:=λ_=>[.cells (WU (z6 i.l i.s).1).cl 271]}]
def cY (p:fj) (B:Q_ zK) (n:Nat) (s:Int):Sd:=⟨uF (B.getD n []) s,(kC (xR ⟨p,B.map qC,n⟩ s) s).1,(kC (xR ⟨p,B.map qC,n⟩ s) s).2⟩
def yH (p:fj) (B:Q_ zK):Vw:=(List.range p.count).map λn=>(cY p B n 1,cY p B n 2)
structure Fu where
 s:gz
 p:fj
 B:Q_ zK
def Gj:gh:=fp Fu (λi=>[nv i.p,.nm 0 0]) (λi=>[zE i.s]) (λi=>i.s.ga i.p i.B/\jf i.p i.B) (λi=>Ag (yH i.p i.B)) (λi=>[zE i.s])
def y3h (i:Fu):List gu:=[
 {ι:=Nat,du:=λj=>[(5,.nm 0 0),(6,.own 2),(27,zB j)],rows:=λj=>[.cells [.own 1] 59,.own 138 10 (((yH i.p i.B).take j).map zA),.kr 6 ((i.B.map qC).map yC)]},
 {ι:=Unit,du:=λ_=>[],rows:=λ_=>[],un:=3}]
noncomputable def Rx (a b:List Lv):Bool:=decide (a=b)
noncomputable def Oq (a b:Sd):Bool:=decide (a=b)
noncomputable def Fw (a b:Vw):Bool:=decide (a=b)
structure Xg where
 x:List Lv
 y:List Lv
noncomputable def Li:gh:=fp Xg (λi=>[ox 3 (i.x.map iq),ox 3 (i.y.map iq)]) i6 (λi=>i.x.length<=1099511627776/\i.y.length<=1099511627776) (λi=>yM (Rx i.x i.y)) i6
def xHc:List gu:=[{ι:=Nat,du:=λk=>[(13,zB k)],rows:=λ_=>[]}]
def xDi:List (Nat×gu):=[(24,bj 24)]
structure RA where
 a:Sd
 b:Sd
noncomputable def TK:gh:=fp RA (λi=>[ON i.a,ON i.b]) i6 (λi=>i.a.levels.length<=1099511627776/\i.b.levels.length<=1099511627776) (λi=>yM (Oq i.a i.b)) i6
structure Hz where
 v:Vw
 w:Vw
noncomputable def TP:gh:=fp Hz (λi=>[ox 10 (i.v.map zA),ox 10 (i.w.map zA),.fn 75 [] []]) i6 (λi=>xZ i.v/\xZ i.w) (λi=>yM (Fw i.v i.w)) i6
def xJa:List gu:=[{ι:=Nat,du:=λk=>[(17,zB k)],rows:=λ_=>[]}]
def xIa:List (Nat×gu):=[(28,bj 30)]
noncomputable def Dd:gh:=fp Hz (λi=>[Ag i.v,Ag i.w]) i6 (λi=>xZ i.v/\xZ i.w) (λi=>yM (Fw i.v i.w)) i6
def zU (m:gi):List D:=[.v (.int .i64 m.seq),.v (.int .i64 m.inst),.v (.int .i64 m.side),.v (.int .i64 m.dm),.v (.int .i64 m.dr),.v (.int .i64 m.count),.v (.bool m.gg)]
def Iy (m:gi):V:= .agg [zB m.seq,zB m.inst,zB m.side,zB m.dm,zB m.dr,zB m.count,yM m.gg]
@[reducible] def nA:Nat:=51
@[reducible] def tF (l:List gi):fq:= .own nA 7 (l.map zU)
def jX (seq:Int):List VM->List gi
 |[]=>[]
 |m::M=>⟨seq+1,m.inst,m.side,m.l.dm,m.l.dr,m.l.count,m.imp⟩::jX (seq+1) M
structure tw where
 seq:Int
 out:List gi
@[reducible] def Pr (d:tw):List fq:=[.cells [zB d.seq,.own 1] 326,tF d.out]
@[reducible] def DfP (d:tw):List fq:=[.cells [zB d.seq,.own 2] 326,.gone,tF d.out]
def tw.add (d:tw) (M:List VM):tw:=⟨d.seq+M.length,d.out++jX d.seq M⟩
@[reducible] def tw.ok (d:tw) (n:Nat):Prop:= -4611686018427387904<=d.seq/\d.seq+n<=4611686018427387904/\d.out.length+n<=1000000000
structure I9 where
 d:tw
 m:VM
def GZ:gh:=fp I9 (λi=>[.nm 0 0,zB i.m.inst,zB i.m.side,Sb i.m.l,yM i.m.imp]) (λi=>Pr i.d) (λi=>i.d.ok 1) (λ_=>pW) (λi=>DfP (i.d.add [i.m]))
structure AO where
 d:tw
 n:Nat
 s:Int
 a:Sd
 b:Sd
def G0:gh:=fp AO (λi=>[.nm 0 0,zB i.n,zB i.s,ON i.a,ON i.b]) (λi=>Pr i.d) (λi=>i.d.ok (i.a.levels.length+i.b.levels.length+1)) (λ_=>pW) (λi=>DfP (i.d.add (xW i.n i.s i.a i.b)))
structure xj where
 x:List Lv
 y:List Lv
 M:List VM
def y8q (i:AO):List gu:=[{ι:=xj,du:=λj=>[(0,.nm 0 0),(10,ox 3 (j.x.map iq)),(11,ox 3 (j.y.map iq))],rows:=λj=>Pr (i.d.add j.M)}]
def xIq:gu:={ι:=tw,du:=λ_=>[(0,.nm 0 0)],rows:=λd=>Pr d,o8:=λ_=>[(0,.nm 0 0)],mf:=λd=>Pr d}
def lvT (t:Nat):gu:={ι:=Lv,du:=λ_=>[(t,.nm 0 0)],rows:=λl=>[.cells [zB l.dm,zB l.dr,zB l.count] 135],o8:=λ_=>[(t,.nm 0 0)],mf:=λl=>[.cells [zB l.dm,zB l.dr,zB l.count] 135]}
def xAk:List (Nat×gu):=[(24,bj 41),(36,bj 73),(12,bj 29),(14,xIq),(48,bj 109),(58,lvT 12)]
structure KD where
 v:Vw
 w:Vw
 seq:Int
def Vw.oP (v:Vw):Nat:=(v.map λb=>b.1.levels.length+b.2.levels.length).sum
def Lj:gh:=fp KD (λi=>[Ag i.v,Ag i.w,zB i.seq]) i6 (λi=>i.v.length=i.w.length/\(-4000000000000000000<=i.seq/\i.seq<=4000000000000000000)/\Vw.oP i.v<=100000000/\Vw.oP i.w<=100000000/\i.v.length<=1000000) (λ_=> .own 0) (λi=>[tF (jX i.seq (xN 0 i.v i.w))])
def xDs (i:KD):List gu:=[
 {ι:=Nat,du:=λj=>[(7,.nm 0 0),(24,zB j)],rows:=λj=>Pr (tw.add ⟨i.seq,[]⟩ (xN 0 (i.v.take j) (i.w.take j)))},
 {ι:=Unit,du:=λ_=>[],rows:=λ_=>[],un:=3}]
def Gi:gh:=fp gi (λm=>[Iy m]) i6 (λ_=>True) (λm=> .je [ox 1 (bE m.enc),zB m.form]) i6
def xDl:List (Nat×gu):=[(4,bj 23),(46,ij 5)]
def xEv:List (Nat×gu):=[(20,bj 43)]
def zMr (a:Nat) (b:Nat) (c:Am) (d:Nat->Prop) (e:Nat->Nat):Prop:=(a:Int)=aq.wrap ((b:Int)+1)/\dk ((z6 c.l c.s).fst.dm)/\dk ((z6 c.l c.s).fst.dr)/\dk ((z6 c.l c.s).fst.a.inst)/\dk ((z6 c.l c.s).fst.a.side)/\dk ((z6 c.l c.s).fst.b.inst)/\dk ((z6 c.l c.s).fst.b.side)/\d a/\e a<e b/\True
def kQ (a:Nat) (b:Am):=(cW (ab a b.l) (z6 b.l b.s).fst)
def y4z (i:Am):Prop:=
 ∃(a:Am),aa zL a.l=aa zL i.l/\a.s=i.s/\(dE a)/\ff (dp (!(z6 a.l a.s).snd) (dx ((kC i.l i.s).fst.dm=0/\(kC i.l i.s).fst.dr=0/\(kC i.l i.s).fst.count=0/\(kC i.l i.s).snd=am/\True)) (∃(c:Nat),(kQ c i).fst=(z6 a.l a.s).fst.dr/\(kQ c i).snd=0/\(c:Int)=0/\(z6 i.l i.s).fst.dm=(z6 a.l a.s).fst.dm/\(z6 i.l i.s).fst.dr=(z6 a.l a.s).fst.dr/\(z6 i.l i.s).fst.a.inst=(z6 a.l a.s).fst.a.inst/\(z6 i.l i.s).fst.a.side=(z6 a.l a.s).fst.a.side/\(z6 i.l i.s).fst.b.inst=(z6 a.l a.s).fst.b.inst/\(z6 i.l i.s).fst.b.side=(z6 a.l a.s).fst.b.side/\∃(d:Nat->Prop),∃(e:Nat->Nat),d c/\∀(f:Nat),d f->dp (decide ((f:Int)<(uZ i))) ((0<=(f:Int)/\(f:Int)<(uZ i))/\∃(g:Int),∃(h:Int),∃(j:Int),∃(k:Int),∃(l:Int),∃(m:Int),zC (aa zL i.l) (f:Int).toNat 0 6=ar [dI g,dI h,dI j,dI k,dI l,dI m]/\dp (g==(z6 i.l i.s).fst.dm) (∃(n:Nat),((kQ n i).fst=if h>(kQ f i).fst then h else(kQ f i).fst)/\(kQ n i).snd=aq.wrap ((kQ f i).snd+1)/\zMr n f i d e) (∃(n:Nat),(kQ n i).fst=(kQ f i).fst/\(kQ n i).snd=(kQ f i).snd/\zMr n f i d e)) (dx ((kC i.l i.s).fst.dm=(z6 i.l i.s).fst.dm/\(kC i.l i.s).fst.dr=(kQ f i).fst/\(kC i.l i.s).fst.count=(kQ f i).snd/\(kC i.l i.s).snd=ao/\True))))
def gO (a:Nat) (b:Fu):=(ab a (yH b.p b.B))
def U9 (a:Nat) (b:gz) (c:Fu) (d:Nat->Prop) (e:Nat->Nat):Prop:=((0:Int)<=(0:Int)/\0<((2:Nat):Int))/\∃(f:Int),zC [[dI 1],[dI 2]] (ap 0) 0 1=ar [dI f]/\∃(g:zp),g.inst=(a:Int)/\zF g.sd=f/\zE g.s=zE b/\(g.s.ga g.p g.B/\g.B.length<=1000)/\ff (∃(j:Bw),Qb j.i.p c.p (aa yC j.i.fm=aa yC (aa qC c.B)/\j.i.inst=(a:Int)/\zF j.s=f/\(kJ j)/\ff (∃(l:Am),aa zL l.l=aa zL (xR j.i (zF j.s))/\l.s=f/\(dE l)/\ff ((gV)/\∃(n:Int),zC [[dI 1],[dI 2]] (aq.wrap ((0:Int)+(1:Int))).toNat 0 1=ar [dI n]/\∃(p:zp),p.inst=(a:Int)/\zF p.sd=n/\zE p.s=zE g.s/\(p.s.ga p.p p.B/\p.B.length<=1000)/\ff (∃(r:Bw),Qb r.i.p c.p (aa yC r.i.fm=aa yC (aa qC c.B)/\r.i.inst=(a:Int)/\zF r.s=n/\(kJ r)/\ff (∃(t:Am),aa zL t.l=aa zL (xR r.i (zF r.s))/\t.s=n/\(dE t)/\ff (((aa zA (gO a c)).length+1)*(112:Nat)<=(140737488355328:Nat)/\∃(v:Nat),(v:Int)=aq.wrap ((a:Int)+1)/\aa zA (gO v c)=aa zA (gO a c)++[[D.ro 3 (aa iq (bK g)),dI ((kC l.l l.s).fst.dm),dI ((kC l.l l.s).fst.dr),dI ((kC l.l l.s).fst.count),D.v (.bool (kC l.l l.s).snd),D.ro 3 (aa iq (bK p)),dI ((kC t.l t.s).fst.dm),dI ((kC t.l t.s).fst.dr),dI ((kC t.l t.s).fst.count),D.v (.bool (kC t.l t.s).snd)]]/\dk (ag 6 (aa yC (aa qC c.B)))/\d v/\e v<e a/\zE p.s=zE b/\dk (af ot.cl 59)/\dk (af [V.d (D.v (Value.string (sb c.p.code))),V.own 1,V.d (dI c.p.tick),V.d (dI c.p.low),V.d (dI c.p.high),V.d (dI c.p.wide),V.d (dI c.p.gn),V.d (dI c.p.top),V.d (dI c.p.least),V.d (dI c.p.part),V.own 2] 25)/\dk (ag 1 (iE c.p.settle))/\dk (ag 1 (iE c.p.dt))))))))))
def y4o (i:Fu):Prop:=
 ∃(a:fj),Qb a i.p ((zV a)/\ff (dp (a.check !=0) (dx (aa zA (yH i.p i.B)=[]/\dk (zE i.s)/\True)) (∃(c:gz),zE c=zE i.s/\(gY c)/\ff (∃(e:fj),Qb e i.p ((zV e)/\ff (∃(g:Nat),(g:Int)=0/\aa zA (gO g i)=[]/\aa yC (aa qC i.B)=aa yC c.fm/\∃(h:Nat->Prop),∃(j:Nat->Nat),h g/\∀(k:Nat),h k->dp (decide ((k:Int)<(e.count:Int))) (U9 k c i h j) (dx (aa zA (yH i.p i.B)=aa zA (gO k i)/\zE i.s=zE c/\True))))))))
def y4c (i:Xg):Prop:=
 dp (((aa iq i.x).length:Int) !=((aa iq i.y).length:Int)) (dx (Rx i.x i.y=am/\True)) (∃(a:Nat),(a:Int)=0/\∃(b:Nat->Prop),∃(c:Nat->Nat),b a/\∀(d:Nat),b d->dp (decide ((d:Int)<((aa iq i.x).length:Int))) (∃(e:Bool),∃(f:Bool->Prop),((0<=(d:Int)/\(d:Int)<((aa iq i.x).length:Int))/\∃(g:Int),∃(h:Int),∃(j:Int),zC (aa iq i.x) (d:Int).toNat 0 3=ar [dI g,dI h,dI j]/\(0<=(d:Int)/\(d:Int)<((aa iq i.y).length:Int))/\∃(k:Int),∃(l:Int),∃(m:Int),zC (aa iq i.y) (d:Int).toNat 0 3=ar [dI k,dI l,dI m]/\∃(n:Bool),n=!(g==k && (h==l && (j==m && ao)))/\f n/\True)/\∀(g:Bool),f g->dp g (dx (Rx i.x i.y=am/\True)) (wS d b c)) (dx (Rx i.x i.y=ao/\True)))
def xFe (i:RA):Prop:=
 ∃(a:Xg),aa iq a.x=aa iq i.a.levels/\aa iq a.y=aa iq i.b.levels/\(a.x.length<=1099511627776/\a.y.length<=1099511627776)/\ff (dp (Rx a.x a.y) (dp (i.a.imp.dm==i.b.imp.dm && (i.a.imp.dr==i.b.imp.dr && (i.a.imp.count==i.b.imp.count && ao))) (dx (Oq i.a i.b=(i.a.has==i.b.has)/\True)) (dx (Oq i.a i.b=am/\True))) (dx (Oq i.a i.b=am/\True)))
def z2j (a:Bool->Prop) (b:Bool) (c:Q_ D) (d:Q_ D) (e:Int) (f:Int) (g:Int) (h:Bool) (j:Int) (k:Int) (l:Int) (m:Bool) (n:Q_ D) (p:Q_ D) (q:Int) (r:Int) (s:Int) (t:Bool) (u:Int) (v:Int) (w:Int) (x:Bool):Prop:=a b/\dk (ag 3 c)/\dk (ag 3 d)/\dk (af [V.own 4,V.d (dI e),V.d (dI f),V.d (dI g),V.d (D.v (.bool h)),V.own 5,V.d (dI j),V.d (dI k),V.d (dI l),V.d (D.v (.bool m))] 138)/\dk (ag 3 n)/\dk (ag 3 p)/\dk (af [V.own 1,V.d (dI q),V.d (dI r),V.d (dI s),V.d (D.v (.bool t)),V.own 2,V.d (dI u),V.d (dI v),V.d (dI w),V.d (D.v (.bool x))] 138)
def xCk (i:Hz):Prop:=
 dp (((aa zA i.v).length:Int) !=((aa zA i.w).length:Int)) (dx (Fw i.v i.w=am/\True)) (∃(a:Nat),(a:Int)=0/\∃(b:Nat->Prop),∃(c:Nat->Nat),b a/\∀(d:Nat),b d->dp (decide ((d:Int)<((aa zA i.v).length:Int))) ((0<=(d:Int)/\(d:Int)<((aa zA i.v).length:Int))/\∃(e:Q_ D),∃(f:Int),∃(g:Int),∃(h:Int),∃(j:Bool),∃(k:Q_ D),∃(l:Int),∃(m:Int),∃(n:Int),∃(p:Bool),zC (aa zA i.v) (d:Int).toNat 0 10=ar [D.ro 3 e,dI f,dI g,dI h,D.v (.bool j),D.ro 3 k,dI l,dI m,dI n,D.v (.bool p)]/\(0<=(d:Int)/\(d:Int)<((aa zA i.w).length:Int))/\∃(q:Q_ D),∃(r:Int),∃(s:Int),∃(t:Int),∃(u:Bool),∃(v:Q_ D),∃(w:Int),∃(x:Int),∃(y:Int),∃(z:Bool),zC (aa zA i.w) (d:Int).toNat 0 10=ar [D.ro 3 q,dI r,dI s,dI t,D.v (.bool u),D.ro 3 v,dI w,dI x,dI y,D.v (.bool z)]/\∃(lk:Bool),∃(my:Bool->Prop),(∃(iH:RA),QL iH.a e f g h j (QL iH.b q r s t u ((iH.a.levels.length<=1099511627776/\iH.b.levels.length<=1099511627776)/\ff (dp (Oq iH.a iH.b) (∃(jl:RA),QL jl.a k l m n p (QL jl.b v w x y z ((jl.a.levels.length<=1099511627776/\jl.b.levels.length<=1099511627776)/\ff (∃(qp:Bool),qp=!Oq jl.a jl.b/\z2j my qp v q r s t u w x y z k e f g h j l m n p)))) (∃(jl:Bool),jl=!false/\z2j my jl v q r s t u w x y z k e f g h j l m n p)))))/\∀(iH:Bool),my iH->dp iH (dx (Fw i.v i.w=am/\True)) (wS d b c)) (dx (Fw i.v i.w=ao/\True)))
def pF (a:Hz):Prop:=(ae a.v<=1099511627776/\∀(b:Sd×Sd),b∈a.v->qN b)/\ae a.w<=1099511627776/\∀(b:Sd×Sd),b∈a.w->qN b
def yOv (i:Hz):Prop:=
 ∃(a:Hz),aa zA a.v=aa zA i.v/\aa zA a.w=aa zA i.w/\(pF a)/\ff (dx (Fw i.v i.w=Fw a.v a.w/\True))
def yQm (i:I9):Prop:=
 True/\((aa zU i.d.out).length+1)*(56:Nat)<=(140737488355328:Nat)/\dx (i.d.seq+((1:Nat):Int)=aq.wrap (i.d.seq+1)/\aa zU (i.d.out++jX i.d.seq [i.m])=aa zU i.d.out++[[dI (aq.wrap (i.d.seq+1)),dI (i.m.inst:Int),dI i.m.side,dI i.m.l.dm,dI i.m.l.dr,dI i.m.l.count,D.v (.bool i.m.imp)]]/\True)
def m8 (a:AO):Prop:=af [V.own 4,V.d (dI a.b.imp.dm),V.d (dI a.b.imp.dr),V.d (dI a.b.imp.count),V.d (D.v (.bool a.b.has))] 137=af [V.own 4,V.d (dI a.b.imp.dm),V.d (dI a.b.imp.dr),V.d (dI a.b.imp.count),V.d (D.v (.bool a.b.has))] 137/\dk (ag 3 (aa iq a.b.levels))/\dk (af [V.own 2,V.d (dI a.a.imp.dm),V.d (dI a.a.imp.dr),V.d (dI a.a.imp.count),V.d (D.v (.bool a.a.has))] 137)/\dk (ag 3 (aa iq a.a.levels))
def jP (a:AO) (b:xj):=(a.d.out++jX a.d.seq b.M)
def zLz (a:AO) (b:xj):Prop:=af [V.d (dI (a.d.seq+(b.M.length:Int))),V.own 7] (326:TypeId)=af [V.d (dI (a.d.seq+(b.M.length:Int))),V.own 7] (326:TypeId)/\dk (ak nA 7 (aa zU (jP a b)))/\m8 a
def sE (a:Bool->Prop) (b:Bool) (c:AO) (d:xj):Prop:=a b/\zLz c d
def zMn (a:AO) (b:Int) (c:Int) (d:Bool->Prop) (e:xj):Prop:=∃(f:I3),f.side=a.s/\f.x=b/\f.y=c/\True/\ff (∃(h:Bool),h=xJ f.side f.x f.y/\sE d h a e)
def Wz (a:Bool->Prop) (b:AO) (c:xj):Prop:=∃(d:Bool),d=ao/\sE a d b c
def zLs (a:Lv->Prop) (b:Lv) (c:AO) (d:xj):Prop:=a b/\zLz c d
def zGr (a:xj->Prop) (b:xj) (c:xj->Nat) (d:xj) (e:AO):Prop:=a b/\c b<c d/\m8 e
def zLl (a:AO) (b:xj) (c:I9) (d:xj->Prop) (e:xj->Nat) (f:xj):Prop:=a.d.seq+(b.M.length:Int)=c.d.seq+((1:Nat):Int)/\aa zU (jP a b)=aa zU (c.d.out++jX c.d.seq [c.m])/\zGr d b e f a
def zGv (a:tw->Prop) (b:tw) (c:AO):Prop:=a b/\m8 c
def m3 (a:I9):Prop:=(-4611686018427387904)<=a.d.seq/\a.d.seq+((1:Nat):Int)<=4611686018427387904/\a.d.out.length+(1:Nat)<=(1000000000:Nat)
def bD (a:xj):=((aa iq a.y).length:Int)
def bI (a:xj):Prop:=(0:Int)<=(0:Int)/\0<(bD a)
def fY (a:xj):=((aa iq a.x).length:Int)
def pI (a:xj):Prop:=(0:Int)<=(0:Int)/\0<(fY a)
def bH (a:AO):=(a.d.out++jX a.d.seq (xW a.n a.s a.a a.b))
def bF (a:AO):=((xW a.n a.s a.a a.b).length:Int)
def yUv (i:AO):Prop:=
 ∃(a:xj),aa iq a.x=aa iq i.a.levels/\aa iq a.y=aa iq i.b.levels/\i.d.seq+(a.M.length:Int)=i.d.seq/\aa zU (jP i a)=aa zU i.d.out/\∃(b:xj->Prop),∃(c:xj->Nat),b a/\∀(d:xj),b d->dp (decide (aq.wrap ((fY d)+(bD d))>0)) (∃(e:Bool),∃(f:Bool->Prop),dp ((bD d)==0) (Wz f i d) (dp (decide ((fY d)>0)) ((pI d)/\∃(g:Int),zC (aa iq d.x) (ap 0) 0 1=ar [dI g]/\(bI d)/\∃(h:Int),zC (aa iq d.y) (ap 0) 0 1=ar [dI h]/\zMn i g h f d) (∃(g:Bool),g=am/\sE f g i d))/\∀(g:Bool),f g->dp g ((pI d)/\∃(h:Int),zC (aa iq d.x) (ap 0) 0 1=ar [dI h]/\∃(j:I9),(j.m.inst:Int)=(i.n:Int)/\j.m.side=i.s/\j.m.l.dm=h/\j.m.l.dr=0/\j.m.l.count=0/\j.m.imp=am/\j.d.seq=i.d.seq+(d.M.length:Int)/\aa zU j.d.out=aa zU (jP i d)/\(m3 j)/\ff (((0:Int)<=(1:Int)/\1<=(fY d))/\∃(l:xj),aa iq l.x=ac (ap 1) (aa iq d.x)/\aa iq l.y=aa iq d.y/\zLl i l j b c d)) (∃(h:Bool),∃(j:Bool->Prop),dp ((fY d)==0) (Wz j i d) ((bI d)/\∃(k:Int),zC (aa iq d.y) (ap 0) 0 1=ar [dI k]/\(pI d)/\∃(l:Int),zC (aa iq d.x) (ap 0) 0 1=ar [dI l]/\zMn i k l j d)/\∀(k:Bool),j k->dp k ((bI d)/\∃(l:Int),∃(m:Int),∃(n:Int),zC (aa iq d.y) (ap 0) 0 3=ar [dI l,dI m,dI n]/\∃(p:I9),(p.m.inst:Int)=(i.n:Int)/\p.m.side=i.s/\p.m.l.dm=l/\p.m.l.dr=m/\p.m.l.count=n/\p.m.imp=am/\p.d.seq=i.d.seq+(d.M.length:Int)/\aa zU p.d.out=aa zU (jP i d)/\(m3 p)/\ff (((0:Int)<=(1:Int)/\1<=(bD d))/\∃(r:xj),aa iq r.x=aa iq d.x/\aa iq r.y=ac (ap 1) (aa iq d.y)/\zLl i r p b c d)) (∃(l:tw),l.seq=i.d.seq+(d.M.length:Int)/\aa zU l.out=aa zU (jP i d)/\∃(m:tw->Prop),(∃(n:Bool),∃(p:Bool->Prop),((pI d)/\∃(q:Int),∃(r:Int),∃(s:Int),zC (aa iq d.x) (ap 0) 0 3=ar [dI q,dI r,dI s]/\(bI d)/\∃(t:Int),∃(u:Int),∃(v:Int),zC (aa iq d.y) (ap 0) 0 3=ar [dI t,dI u,dI v]/\∃(w:Bool),w=!(q==t && (r==u && (s==v && ao)))/\p w/\dk (af [V.d (dI l.seq),V.own 9] (326:TypeId))/\dk (ak nA 7 (aa zU l.out))/\m8 i)/\∀(q:Bool),p q->dp q ((bI d)/\∃(r:Int),∃(s:Int),∃(t:Int),zC (aa iq d.y) (ap 0) 0 3=ar [dI r,dI s,dI t]/\∃(u:I9),(u.m.inst:Int)=(i.n:Int)/\u.m.side=i.s/\u.m.l.dm=r/\u.m.l.dr=s/\u.m.l.count=t/\u.m.imp=am/\u.d.seq=l.seq/\aa zU u.d.out=aa zU l.out/\(m3 u)/\ff (∃(w:tw),w.seq=u.d.seq+((1:Nat):Int)/\aa zU w.out=aa zU (u.d.out++jX u.d.seq [u.m])/\zGv m w i)) (∃(r:tw),r.seq=l.seq/\aa zU r.out=aa zU l.out/\zGv m r i))/\∀(n:tw),m n->((0:Int)<=(1:Int)/\1<=(fY d))/\((0:Int)<=(1:Int)/\1<=(bD d))/\∃(p:xj),aa iq p.x=ac (ap 1) (aa iq d.x)/\aa iq p.y=ac (ap 1) (aa iq d.y)/\i.d.seq+(p.M.length:Int)=n.seq/\aa zU (jP i p)=aa zU n.out/\zGr b p c d i))) (∃(e:Bool),∃(f:Bool->Prop),dp (!(i.a.imp.dm==i.b.imp.dm && (i.a.imp.dr==i.b.imp.dr && (i.a.imp.count==i.b.imp.count && ao)))) (Wz f i d) (∃(g:Bool),g=!i.a.has==i.b.has/\sE f g i d)/\∀(g:Bool),f g->dp g (∃(h:Lv),h.dm=i.b.imp.dm/\h.dr=i.b.imp.dr/\h.count=i.b.imp.count/\∃(j:Lv->Prop),dp (!i.b.has) (∃(k:Lv),k.dm=0/\k.dr=0/\k.count=0/\zLs j k i d) (∃(k:Lv),k.dm=h.dm/\k.dr=h.dr/\k.count=h.count/\zLs j k i d)/\∀(k:Lv),j k->∃(l:I9),(l.m.inst:Int)=(i.n:Int)/\l.m.side=i.s/\l.m.l.dm=k.dm/\l.m.l.dr=k.dr/\l.m.l.count=k.count/\l.m.imp=ao/\l.d.seq=i.d.seq+(d.M.length:Int)/\aa zU l.d.out=aa zU (jP i d)/\(m3 l)/\ff (dx (i.d.seq+(bF i)=l.d.seq+((1:Nat):Int)/\aa zU (bH i)=aa zU (l.d.out++jX l.d.seq [l.m])/\True))) (dx (i.d.seq+(bF i)=i.d.seq+(d.M.length:Int)/\aa zU (bH i)=aa zU (jP i d)/\True)))
def zLk (a:AO):Prop:=(-4611686018427387904)<=a.d.seq/\a.d.seq+((a.a.levels.length+a.b.levels.length+1):Int)<=4611686018427387904/\a.d.out.length+(a.a.levels.length+a.b.levels.length+1)<=1000000000
def tP (a:KD) (b:Nat):=([]++jX a.seq (xN 0 (ab b a.v) (ab b a.w)))
def Wp (a:Nat) (b:KD):=((xN 0 (ab a b.v) (ab a b.w)).length:Int)
def tM (a:KD):=((aa zA a.v).length:Int)
def y2t (i:KD):Prop:=
 dp ((tM i) !=((aa zA i.w).length:Int)) (dx (aa zU (jX i.seq (xN 0 i.v i.w))=[]/\True)) (∃(a:Nat),(a:Int)=0/\i.seq+(Wp a i)=i.seq/\aa zU (tP i a)=[]/\∃(b:Nat->Prop),∃(c:Nat->Nat),b a/\∀(d:Nat),b d->dp (decide ((d:Int)<(tM i))) (((0:Int)<=(0:Int)/\0<((2:Nat):Int))/\∃(e:Int),zC [[dI 1],[dI 2]] (ap 0) 0 1=ar [dI e]/\(0<=(d:Int)/\(d:Int)<(tM i))/\∃(f:Q_ D),∃(g:Int),∃(h:Int),∃(j:Int),∃(k:Bool),zC (aa zA i.v) (d:Int).toNat 0 5=ar [D.ro 3 f,dI g,dI h,dI j,D.v (.bool k)]/\(0<=(d:Int)/\(d:Int)<((aa zA i.w).length:Int))/\∃(l:Q_ D),∃(m:Int),∃(n:Int),∃(p:Int),∃(q:Bool),zC (aa zA i.w) (d:Int).toNat 0 5=ar [D.ro 3 l,dI m,dI n,dI p,D.v (.bool q)]/\∃(r:AO),(r.n:Int)=(d:Int)/\r.s=e/\QL r.a f g h j k (QL r.b l m n p q (r.d.seq=i.seq+(Wp d i)/\aa zU r.d.out=aa zU (tP i d)/\(zLk r)/\ff ((gV)/\∃(t:Int),zC [[dI 1],[dI 2]] (aq.wrap ((0:Int)+(1:Int))).toNat 0 1=ar [dI t]/\(0<=(d:Int)/\(d:Int)<(tM i))/\∃(u:Q_ D),∃(v:Int),∃(w:Int),∃(x:Int),∃(y:Bool),zC (aa zA i.v) (d:Int).toNat 5 5=ar [D.ro 3 u,dI v,dI w,dI x,D.v (.bool y)]/\(0<=(d:Int)/\(d:Int)<((aa zA i.w).length:Int))/\∃(z:Q_ D),∃(lk:Int),∃(my:Int),∃(iH:Int),∃(oR:Bool),zC (aa zA i.w) (d:Int).toNat 5 5=ar [D.ro 3 z,dI lk,dI my,dI iH,D.v (.bool oR)]/\∃(jl:AO),(jl.n:Int)=(d:Int)/\jl.s=t/\QL jl.a u v w x y (QL jl.b z lk my iH oR (jl.d.seq=r.d.seq+(bF r)/\aa zU jl.d.out=aa zU (bH r)/\(zLk jl)/\ff (∃(qp:Nat),(qp:Int)=aq.wrap ((d:Int)+1)/\i.seq+(Wp qp i)=jl.d.seq+(bF jl)/\aa zU (tP i qp)=aa zU (bH jl)/\b qp/\c qp<c d/\dk (af [V.own 2] 59)/\dk (ag 10 (aa zA i.w))/\dk (af [V.own 0] 59)/\dk (ag 10 (aa zA i.v))))))))) (dx (aa zU (jX i.seq (xN 0 i.v i.w))=aa zU (tP i d)/\True)))
def Z4 (a:gi):Prop:=af [V.d (dI a.seq),V.d (dI a.inst),V.d (dI a.side),V.d (dI a.dm),V.d (dI a.dr),V.d (dI a.count),V.d (D.v (.bool a.gg))] 51=af [V.d (dI a.seq),V.d (dI a.inst),V.d (dI a.side),V.d (dI a.dm),V.d (dI a.dr),V.d (dI a.count),V.d (D.v (.bool a.gg))] 51
def zMi (a:Int->Prop) (b:Int) (c:WN) (d:gi):Prop:=a b/\dk (aj i4 2 ld (c.l++le c.n 8))/\Z4 d
def Ww (a:Bool->Prop) (b:Bool) (c:gi):Prop:=a b/\Z4 c
def zNh (a:Bool->Prop) (b:gi):Prop:=∃(c:Bool),c=ao/\Ww a c b
@[reducible] def KB (a b:WN)(R:Prop):Prop:=aj i4 2 ld a.l=aj i4 2 ld (b.l++[iZ b.n])/\a.ok/\R
def y4s (m:gi):Prop:=
 ∃(a:Bool),∃(b:Bool->Prop),dp (decide (m.inst<0)) (zNh b m) (dp (decide (m.inst>255)) (zNh b m) (dp (m.side !=1) (∃(c:Bool),c=(m.side !=2)/\Ww b c m) (∃(c:Bool),c=am/\Ww b c m)))/\∀(c:Bool),b c->dp c (dx (bE m.enc=[]/\m.form=12/\True)) (dx (True/\ff (∃(f:WN),f.n=m.seq/\Pf f (ff (∃(h:WN),h.n=m.inst/\DL h f (ff (∃(k:WN),k.n=m.side/\KB k h (ff (∃(n:WN),n.n=m.dm/\KB n k (ff (∃(q:WN),q.n=m.dr/\DL q n (ff (∃(s:WN),s.n=m.count/\DL s q (ff (∃(u:Int),∃(v:Int->Prop),dp m.gg (∃(w:Int),w=1/\zMi v w s m) (∃(w:Int),w=0/\zMi v w s m)/\∀(w:Int),v w->∃(x:WN),x.n=w/\DL x s (ff (∃(z:i4),aj i4 2 ld z=aj i4 2 ld (x.l++[iZ x.n])/\z.length<=1099511627776/\ff (dx (bE m.enc=bE z/\m.form=0/\True)))))))))))))))))))
def zUq {l:List Quote} {k:Nat} {q:Quote} (b:Quote) (h:l[k]? =ar q):cW (l.take (k+1)) b=if q.dm=b.dm then(if q.dr>(cW (l.take k) b).1 then q.dr else(cW (l.take k) b).1,(cW (l.take k) b).2+1)else cW (l.take k) b:=by
 rw[cW,qf,h,AD,IG,Be,List.foldl_nil];rfl
def z5w (b:Quote) (l:List Quote):∀k,k<=l.length->0<=(cW (l.take k) b).2/\(cW (l.take k) b).2<=k
 |0,_=>⟨by rw[EX];exact yy 0,by rw[EX];exact yy 0⟩
 |k+1,h=>by
  obtain⟨q,hq⟩:=zZ (l:=l) (i:=k) oM;have:=z5w b l k oM;rw[zUq b hq];split
  ·dsimp only;constructor<;>omega
  ·constructor<;>omega
def xEp (i:Am) (h:KN.dp i):y4z i:=by
 obtain⟨hs,hl⟩:(i.s=1\/i.s=2)/\i.l.length<=1000000:=h;have ux:(i.l.map zL).length=i.l.length:=ib _;unfold y4z ff dx kQ zMr dE uZ dI;rw[ux];refine⟨i,rfl,rfl,⟨hs,hl⟩,λ_ _=>W_ (λc=> ?_) (λc=> ?_)⟩
 ·have e:kC i.l i.s=(⟨0,0,0⟩,am):=by rw[kC,eg (i9 c)]
  rw[e];exact⟨(),gj⟩
 have e:kC i.l i.s=(⟨(z6 i.l i.s).1.dm,(cW i.l (z6 i.l i.s).1).1,(cW i.l (z6 i.l i.s).1).2⟩,ao):=by rw[kC,fh (i9 c)]
 rw[e];generalize (z6 i.l i.s).1=b;refine⟨0,iB ⟨rfl,λk=>k<=i.l.length,λk=>i.l.length-k,ml _,λk hk=>zH (λgr=> ?_) (λgr=> ?_)⟩⟩
 ·obtain⟨q,hq⟩:=zZ (l:=i.l) (i:=k) oM;have st:=zUq b hq;have bd:=z5w b i.l k hk;have hk:k<=i.l.length:=hk;refine⟨⟨oM,oM⟩,q.dm,q.dr,q.a.inst,q.a.side,q.b.inst,q.b.side,jz hq (by simp[zL]) rfl,W_ (λe=>⟨k+1,?_⟩) (λe=>⟨k+1,?_⟩)⟩
  ·rw[st,fh (i9 e)];exact⟨rfl,by dsimp only;rw[iw X_],pf oM,tr ⟨rfl,Z9,Z9,Y_⟩⟩
  ·rw[st,eg (i9 e)];exact⟨rfl,rfl,pf oM,tr ⟨rfl,Z9,Z9,Y_⟩⟩
 ·have hk:k<=i.l.length:=hk;obtain rfl:k=i.l.length:=X_
  rw[zf];exact⟨(),gj⟩
def yGq:KN.ok Z_ 81:=gy mixed (dw z7p fk) 0 i6 (λi=>y5v i) [] func81 xEp
def dO (p:fj) (B:Q_ zK):(yH p B).length=p.count:=by rw[yH,ib,List.length_range]
def zYu (p:fj) (B:Q_ zK) {j:Nat} (h:j<p.count):(yH p B)[j]? =ar (cY p B j 1,cY p B j 2):=by
 rw[yH,ra,Mh h];rfl
def xDq (i:Fu) (h:Gj.dp i):y4o i:=by
 obtain⟨hR,hB⟩:i.s.ga i.p i.B/\jf i.p i.B:=h;have xe:=y8 i.p;have Aj:=hB.bl;have BW:i.s.oe:=hR.Fm oM;have sx:vW (i.B.map qC):=hB.fm;have O7:=dO i.p i.B;unfold y4o Qb ff dx gY U9 Qb ff gV bK kJ ph gK dE ot qL y7 gO zV ph dI;refine⟨i.p,oO (iP ⟨rfl,hB.ps,λ_ _=>W_ (λc=>absurd hB.pc (i9 c)) (λ_=>⟨i.s,rfl,BW,λ_ _=>⟨i.p,oO (iP ⟨rfl,hB.ps,λ_ _=>⟨0,rfl,rfl,by rw[hR.fm],λj=>j<=i.p.count,λj=>i.p.count-j,ml _,λj hj=>zH (λgr=> ?_) (λgr=> ?_)⟩⟩)⟩⟩)⟩)⟩
 ·have gr:j<i.p.count:=X_
  have tf:CW i.B (j:Int)=i.B.getD j []:=by rw[CW,eg X_,ov]
  have hq:∀s,(xR ⟨i.p,i.B.map qC,j⟩ s).length<=1000000:=λs=>tz (zBs _ _) Z8
  refine⟨⟨Z8,Z8⟩,1,rfl,⟨i.s,i.p,i.B,j,am⟩,rfl,rfl,rfl,⟨hR,Z9⟩,λ_ _=>⟨⟨⟨i.p,i.B.map qC,j⟩,am⟩,iB (tr ⟨rfl,⟨hB.ps,sx⟩,λ_ _=>⟨⟨xR ⟨i.p,i.B.map qC,j⟩ 1,1⟩,rfl,rfl,⟨.inl rfl,hq 1⟩,λ_ _=>⟨⟨Z8,Z8⟩,2,rfl,⟨i.s,i.p,i.B,j,ao⟩,rfl,rfl,rfl,⟨hR,Z9⟩,λ_ _=>⟨⟨⟨i.p,i.B.map qC,j⟩,ao⟩,iB (tr ⟨rfl,⟨hB.ps,sx⟩,λ_ _=>⟨⟨xR ⟨i.p,i.B.map qC,j⟩ 2,2⟩,rfl,rfl,⟨.inr rfl,hq 2⟩,λ_ _=>⟨?_,j+1,pf oM,?_,rfl,Z9,Z9,rfl,gj⟩⟩⟩)⟩⟩⟩⟩)⟩⟩
  ·rw[ib,nr];omega
  ·rw[qf,zYu i.p i.B gr,AD,jh,jg,Bz];dsimp only;rw[tf];rfl
 ·have hj:j<=i.p.count:=hj;rw[ng X_];exact⟨(),gj⟩
def Jx:Gj.ok Z_ 26:=gy mixed (dw pC (dw yGi (dw dL (dw yEm (dw zMo (dw yGq fk)))))) 1 i6 (λi=>y3h i) [] func26 xDq
def zYk {α:Type} {x y:List α} {k:Nat} {a b:α} (ha:x[k]? =ar a) (hb:y[k]? =ar b) (h:x.take k=y.take k) (e:a=b):x.take (k+1)=y.take (k+1):=by rw[qf,qf,h,ha,hb,e]
def Rk (a b:Lv):(a.dm==b.dm && (a.dr==b.dr && (a.count==b.count && ao)))=decide (a=b):=by
 rw[CK,decide_eq_true_iff];obtain⟨p,q,c⟩:=a;obtain⟨p2,q2,c2⟩:=b;simp
def xFf (i:Xg) (h:Li.dp i):y4c i:=by
 obtain⟨hx,hy⟩:i.x.length<=1099511627776/\i.y.length<=1099511627776:=h;have Ff:(i.x.map iq).length=i.x.length:=ib _;have Ss:(i.y.map iq).length=i.y.length:=ib _;unfold y4c dx wS kL QM dI;rw[Ff,Ss];refine W_ (λc=>⟨(),ju (λe=>by rw[e]at c;simp at c),Y_⟩) (λc=> ?_);have X':i.x.length=i.y.length:=by have:(i.x.length:Int)=i.y.length:=(i9 c);omega
 refine⟨0,rfl,λk=>k<=i.x.length/\i.x.take k=i.y.take k,λk=>i.x.length-k,⟨ml _,rfl⟩,λk hk=>zH (λe=> ?_) (λe=> ?_)⟩
 ·obtain⟨AH,o5⟩:=hk;obtain⟨a,ha⟩:=zZ (l:=i.x) (i:=k) oM;obtain⟨b,hb⟩:=zZ (l:=i.y) (i:=k) oM;refine⟨am,λt=>t= !decide (a=b),⟨⟨oM,oM⟩,a.dm,a.dr,a.count,jz ha (by simp[iq]) rfl,⟨oM,oM⟩,b.dm,b.dr,b.count,jz hb (by simp[iq]) rfl,_,rfl,?_,Y_⟩,?_⟩
  ·rw[Rk a b]
  ·rintro _ rfl;refine W_ (λc=>⟨(),ju (λe2=> ?_),Y_⟩) (λc=>⟨k+1,by rw[iw X_];rfl,⟨oM,zYk ha hb o5 (i9 c)⟩,Z9,Y_⟩);have c:a≠b:=i9 c
   rw[e2]at ha;rw[ha]at hb;exact c (Option.some.inj hb)
 ·obtain⟨AH,o5⟩:=hk;rw[ng X_,ng X_]at o5;exact⟨(),jt o5,Y_⟩
def yZx:Li.ok Z_ 152:=gy mixed fk 0 (λ_=>xDi) (λ_=>xHc) [] func152 xFf
def xKh (i:RA) (h:TK.dp i):xFe i:=by
 obtain⟨⟨al,ai,ah⟩,⟨bl,bi,bh⟩⟩:=i;obtain⟨ha,hb⟩:al.length<=1099511627776/\bl.length<=1099511627776:=h;unfold xFe ff dx;refine⟨⟨al,bl⟩,rfl,rfl,⟨ha,hb⟩,λ_ _=>zH (λe=> ?_) (λe=>⟨(),ju (λx=>e (congrArg Sd.levels x)),Y_⟩)⟩;dsimp only;rw[Rk];refine zH (λe2=>⟨(),?_,Y_⟩) (λe2=>⟨(),ju (λx=>e2 (congrArg Sd.imp x)),Y_⟩);have e:al=bl:=e;have e2:ai=bi:=e2;subst e e2;show decide ((⟨al,ai,ah⟩:Sd)=⟨al,ai,bh⟩)=(ah==bh);rw[CK,decide_eq_true_iff,ID];exact⟨λx=>congrArg Sd.has x,λx=>by have x:ah=bh:=x;rw[x]⟩
def xBi:TK.ok Z_ 76:=gy mixed (dw yZx fk) 0 i6 i6 [] func76 xKh
def Ol {v:Vw} {k:Nat} {b:Sd×Sd} (h:v[k]? =ar b):zC (v.map zA) k 0 10=ar [D.ro 3 (b.1.levels.map iq),.v (.int .i64 b.1.imp.dm),.v (.int .i64 b.1.imp.dr),.v (.int .i64 b.1.imp.count),.v (.bool b.1.has),.ro 3 (b.2.levels.map iq),.v (.int .i64 b.2.imp.dm),.v (.int .i64 b.2.imp.dr),.v (.int .i64 b.2.imp.count),.v (.bool b.2.has)]/\
 zC (v.map zA) k 0 5=ar [D.ro 3 (b.1.levels.map iq),.v (.int .i64 b.1.imp.dm),.v (.int .i64 b.1.imp.dr),.v (.int .i64 b.1.imp.count),.v (.bool b.1.has)]/\
 zC (v.map zA) k 5 5=ar [D.ro 3 (b.2.levels.map iq),.v (.int .i64 b.2.imp.dm),.v (.int .i64 b.2.imp.dr),.v (.int .i64 b.2.imp.count),.v (.bool b.2.has)]:=
 ⟨jz h (by simp[zA]) rfl,jz h (by simp[zA]) rfl,jz h (by simp[zA]) rfl⟩
def xIm (i:Hz) (h:TP.dp i):xCk i:=by
 obtain⟨⟨hv,hvs⟩,⟨hw,hws⟩⟩:xZ i.v/\xZ i.w:=h;have Ff:(i.v.map zA).length=i.v.length:=ib _;have Ss:(i.w.map zA).length=i.w.length:=ib _;unfold xCk QL ff dx wS kL QM z2j dI;rw[Ff,Ss];refine W_ (λc=>⟨(),ju (λe=>by rw[e]at c;simp at c),Y_⟩) (λc=> ?_);have X':i.v.length=i.w.length:=by have:(i.v.length:Int)=i.w.length:=(i9 c);omega
 refine⟨0,rfl,λk=>k<=i.v.length/\i.v.take k=i.w.take k,λk=>i.v.length-k,⟨ml _,rfl⟩,λk hk=>zH (λe=> ?_) (λe=> ?_)⟩
 ·obtain⟨AH,o5⟩:=hk;obtain⟨a,ha⟩:=zZ (l:=i.v) (i:=k) oM;obtain⟨b,hb⟩:=zZ (l:=i.w) (i:=k) oM;have sa:=hvs a (kx ha);have sb:=hws b (kx hb);refine⟨⟨oM,oM⟩,_,_,_,_,_,_,_,_,_,_,(Ol ha).1,⟨oM,oM⟩,_,_,_,_,_,_,_,_,_,_,(Ol hb).1,am,λt=>t= !decide (a=b),⟨⟨a.1,b.1⟩,nu (iP ⟨rfl,⟨sa.1,sb.1⟩,λ_ _=>zH (λe1=>⟨⟨a.2,b.2⟩,nu (iP ⟨rfl,⟨sa.2,sb.2⟩,λ_ _=>⟨_,rfl,?_,gj⟩⟩)⟩) (λe1=>⟨_,rfl,?_,gj⟩)⟩)⟩,?_⟩
  ·show(!decide (a.2=b.2))= !decide (a=b);rw[CK,Dv,Dv,decide_eq_false_iff_not,decide_eq_false_iff_not];exact⟨λx y=>x (by rw[y]),λx y=>x (Prod.ext e1 y)⟩
  ·have e1:¬a.1=b.1:=e1;rw[ju λx=>e1 (congrArg Prod.fst x)]
  ·rintro _ rfl;refine W_ (λc=>⟨(),ju (λe2=> ?_),Y_⟩) (λc=>⟨k+1,by rw[iw X_];rfl,⟨oM,zYk ha hb o5 (i9 c)⟩,Z9,Y_⟩);have c:a≠b:=i9 c
   rw[e2]at ha;rw[ha]at hb;exact c (Option.some.inj hb)
 ·obtain⟨AH,o5⟩:=hk;rw[ng X_,ng X_]at o5;exact⟨(),jt o5,Y_⟩
def y5z:TP.ok Z_ 74:=gy mixed (dw xBi fk) 1 (λ_=>xIa) (λ_=>xJa) [] func74 xIm
def xBl (i:Hz) (h:Dd.dp i):yOv i:=by
 unfold yOv ff dx pF qN;exact⟨i,rfl,rfl,h,λ_ _=>⟨(),rfl,Y_⟩⟩
def Hr:Dd.ok Z_ 24:=gy mixed (dw y5z fk) 0 i6 i6 [] func24 xBl
def ZI (q:Int):∀(A B:List VM),jX q (A++B)=jX q A++jX (q+A.length) B
 |[],B=>by simp[jX]
 |a::A,B=>by
  rw[uu,jX,jX,ZI,iG,uu];congr 3;omega
def U1 (d:tw) (A B:List VM):(d.add A).add B=d.add (A++B):=by
 rw[tw.add,tw.add,tw.add,ZI,ix,jd];congr 1;dsimp only;omega
def xAs (i:I9) (h:GZ.dp i):yQm i:=by
 obtain⟨h1,h2,h3⟩:i.d.ok 1:=h;unfold yQm dx dI;have e:aq.wrap (i.d.seq+1)=i.d.seq+1:=iw oM;rw[e];exact⟨Y_,by rw[ib];omega,(),rfl,by rw[jh];rfl,Y_⟩
def yVs:GZ.ok Z_ 250:=gy mixed fk 0 i6 i6 [] func250 xAs
def tJ {s:Int}:∀(k:Nat) (X Y:List Lv),(x7 s k X Y).length<=k
 |0,X,Y=>by rw[x7];exact jx 0
 |k+1,[],[]=>by rw[x7];exact ml _
 |k+1,x::X,[]=>by rw[x7,iG];have:=tJ (s:=s) k X [];omega
 |k+1,[],y::Y=>by rw[x7,iG];have:=tJ (s:=s) k [] Y;omega
 |k+1,x::X,y::Y=>by
  have h1:=tJ (s:=s) k X (y::Y);have h2:=tJ (s:=s) k (x::X) Y;have h3:=tJ (s:=s) k X Y;rw[x7];split
  ·rw[iG];omega
  split
  ·rw[iG];omega
  rw[ix];split
  ·simp only[uj];omega
  ·simp only[Bh];omega
def z8z (n:Nat) (s:Int) (a b:Sd):(xW n s a b).length<=a.levels.length+b.levels.length+1:=by
 have:=tJ (s:=s) (a.levels.length+b.levels.length) a.levels b.levels;rw[xW,ix,ib];split
 ·rw[Bh];omega
 ·simp only[uj];omega
def z2s:∀(n j:Nat) {v w:Vw} {a b:Sd×Sd},v[j]? =ar a->w[j]? =ar b->xN n (v.take (j+1)) (w.take (j+1))=xN n (v.take j) (w.take j)++(xW (n+j) 1 a.1 b.1++xW (n+j) 2 a.2 b.2)
 |n,0,x::v,y::w,a,b,h1,h2=>by
  obtain rfl:x=a:=i9 h1
  obtain rfl:y=b:=i9 h2
  simp[xN]
 |n,j+1,x::v,y::w,a,b,h1,h2=>by
  have:=z2s (n+1) j (v:=v) (w:=w) (a:=a) (b:=b) (i9 h1) (i9 h2);rw[vj,vj,vj,vj,xN,xN,this,jd,jd,jd,Dq n 1 j,FI 1 j]
 |_,0,[],_,_,_,h1,_=>by simp at h1
 |_,j+1,[],_,_,_,h1,_=>by simp at h1
 |_,0,_::_,[],_,_,_,h2=>by simp at h2
 |_,j+1,_::_,[],_,_,_,h2=>by simp at h2
def Wk {v:Vw} {j:Nat} {a:Sd×Sd} (h:v[j]? =ar a):Vw.oP (v.take (j+1))=Vw.oP (v.take j)+(a.1.levels.length+a.2.levels.length):=by
 rw[Vw.oP,Vw.oP,qf,h,AD,jh,J'];simp
def yFs (v:Vw) (j:Nat):Vw.oP (v.take j)<=Vw.oP v:=by
 conv=>rhs;rw[<- Bi j v]
 rw[Vw.oP,Vw.oP,jh,J'];omega
def XK (v w:Vw):∀j,j<=v.length->j<=w.length->(xN 0 (v.take j) (w.take j)).length<=Vw.oP (v.take j)+Vw.oP (w.take j)+2*j
 |0,_,_=>by rw[EX,xN];exact ml _;simp
 |j+1,h1,h2=>by
  obtain⟨a,ha⟩:=zZ (l:=v) (i:=j) oM;obtain⟨b,hb⟩:=zZ (l:=w) (i:=j) oM;have:=XK v w j oM oM;have s1:=z8z (0+j) 1 a.1 b.1;have s2:=z8z (0+j) 2 a.2 b.2;rw[z2s 0 j ha hb,Wk ha,Wk hb,ix,ix];omega
def sK (q:Int):∀M:List VM,(jX q M).length=M.length
 |[]=>rfl
 |m::M=>by rw[jX,iG,sK,iG]
def OL (q:Int) (M:List VM) (m:VM):q+((M++[m]).length:Nat)=q+(M.length:Nat)+((1:Nat):Int):=by
 rw[ix,Bh];omega
def OK (o:List gi) (q:Int) (M:List VM) (m:VM):(o++jX q (M++[m])).map zU=((o++jX q M)++jX (q+(M.length:Nat)) [m]).map zU:=by rw[ZI,jd]
def Em (x:Lv) (X:List Lv):zC ((x::X).map iq) 0 0 1=ar [D.v (.int .i64 x.dm)]/\zC ((x::X).map iq) 0 0 3=ar [D.v (.int .i64 x.dm),.v (.int .i64 x.dr),.v (.int .i64 x.count)]:=⟨rfl,rfl⟩
def yNa (s:Int) (k:Nat):x7 s k [] []=[]:=by cases k<;>rw[x7]
def y7j (i:AO) (h:G0.dp i):yUv i:=by
 obtain⟨d,n,s,⟨al,ai,ah⟩,⟨bl,bi,bh⟩⟩:=i;obtain⟨h1,h2,h3⟩:tw.ok d (al.length+bl.length+1):=h;unfold yUv ff dx zLl zLs Wz zMn ff sE zLz jP bF bH pI fY bI bD m3 zGv zGr m8 dI;refine⟨⟨al,bl,[]⟩,rfl,rfl,by simp,by simp[jX],λj=>∃k,j.x.length+j.y.length<=k/\(x7 s (al.length+bl.length) al bl).map (λl=>(⟨n,s,l,am⟩:VM))=j.M++(x7 s k j.x j.y).map (λl=>(⟨n,s,l,am⟩:VM))/\k+j.M.length<=al.length+bl.length,λj=>j.x.length+j.y.length,⟨al.length+bl.length,jx _,rfl,jx _⟩,?_⟩;rintro⟨x,y,M⟩ ⟨k,hk,hM,hl⟩;dsimp only at hk hM hl ⊢;have hx:(x.map iq).length=x.length:=ib _;have hy:(y.map iq).length=y.length:=ib _;have OQ:tw.ok ⟨d.seq+(M.length:Nat),d.out++jX d.seq M⟩ 1:=⟨Z9,Z9,by dsimp only;rw[ix,sK];omega⟩
 rw[hx,hy,iw X_];refine zH (λc=> ?_) (λc=> ?_)
 ·obtain⟨k',rfl⟩:∃k',k=k'+1:=⟨k-1,oM⟩
  rcases x with _|⟨a,X⟩
  ·rcases y with _|⟨b,Y⟩
   ·exact absurd c (by simp)
   refine⟨am,λt=>t=am,W_ (λe=> ?_) (λ_=>W_ (λe=>absurd e (by simp)) (λ_=>⟨am,rfl,rfl,gj⟩)),?_⟩
   ·exfalso;simp at e;omega
   rintro _ rfl;refine W_ (λc=>absurd c Z8) (λ_=>⟨am,λt=>t=ao,W_ (λ_=>⟨ao,rfl,rfl,gj⟩) (λe=>absurd e (by simp)),?_⟩);rintro _ rfl;refine W_ (λ_=> ?_) (λc=>absurd c Z8);rw[iG]at hk;refine⟨⟨Z8,by rw[iG];omega⟩,b.dm,b.dr,b.count,(Em b Y).2,⟨_,⟨n,s,b,am⟩⟩,rfl,rfl,rfl,rfl,rfl,rfl,rfl,rfl,OQ,λ_ _=>⟨⟨Z8,by rw[iG];omega⟩,⟨[],Y,M++[⟨n,s,b,am⟩]⟩,rfl,rfl,OL _ _ _,OK _ _ _ _,⟨k',Z9,?_,by dsimp only;rw[ix,Bh];omega⟩,by dsimp only;rw[iG];omega,gj⟩⟩;rw[hM,x7,jg,jd];rfl
  rcases y with _|⟨b,Y⟩
  ·refine⟨am,λt=>t=ao,W_ (λ_=>⟨ao,rfl,rfl,gj⟩) (λe=>absurd e (by simp)),?_⟩;rintro _ rfl;refine W_ (λ_=> ?_) (λc=>absurd c Z8);rw[iG]at hk;refine⟨⟨Z8,by rw[iG];omega⟩,a.dm,(Em a X).1,⟨_,⟨n,s,⟨a.dm,0,0⟩,am⟩⟩,rfl,rfl,rfl,rfl,rfl,rfl,rfl,rfl,OQ,λ_ _=>⟨⟨Z8,by rw[iG];omega⟩,⟨X,[],M++[⟨n,s,⟨a.dm,0,0⟩,am⟩]⟩,rfl,rfl,OL _ _ _,OK _ _ _ _,⟨k',by dsimp only;simp only[uj]at hk ⊢;omega,?_,by dsimp only;rw[ix,Bh];omega⟩,by dsimp only;rw[iG];omega,gj⟩⟩;rw[hM,x7,jg,jd];rfl
  rw[iG,iG]at hk;have la:(0:Int)<=0/\(0:Int)<((a::X).length:Nat):=⟨Z8,by rw[iG];omega⟩
  have lb:(0:Int)<=0/\(0:Int)<((b::Y).length:Nat):=⟨Z8,by rw[iG];omega⟩
  have la1:(0:Int)<=1/\(1:Int)<=((a::X).length:Nat):=⟨Z8,by rw[iG];omega⟩
  have lb1:(0:Int)<=1/\(1:Int)<=((b::Y).length:Nat):=⟨Z8,by rw[iG];omega⟩
  refine⟨am,λt=>t=jo s a.dm b.dm,W_ (λe=> ?_) (λ_=>W_ (λ_=>⟨la,a.dm,(Em a X).1,lb,b.dm,(Em b Y).1,⟨s,a.dm,b.dm⟩,rfl,rfl,rfl,Y_,λ_ _=>⟨_,rfl,rfl,gj⟩⟩) (λe=> ?_)),?_⟩
  ·exfalso;simp at e;omega
  ·exfalso;simp at e
  rintro _ rfl;refine W_ (λc1=> ?_) (λc1=> ?_)
  ·refine⟨la,a.dm,(Em a X).1,⟨_,⟨n,s,⟨a.dm,0,0⟩,am⟩⟩,rfl,rfl,rfl,rfl,rfl,rfl,rfl,rfl,OQ,λ_ _=>⟨la1,⟨X,b::Y,M++[⟨n,s,⟨a.dm,0,0⟩,am⟩]⟩,rfl,rfl,OL _ _ _,OK _ _ _ _,⟨k',by dsimp only;rw[iG];omega,?_,by dsimp only;rw[ix,Bh];omega⟩,by dsimp only;rw[iG,iG];omega,gj⟩⟩;rw[hM,x7,fh c1,jg,jd];rfl
  have c1:¬jo s a.dm b.dm=ao:=by simp[c1]
  refine⟨am,λt=>t=jo s b.dm a.dm,W_ (λe=> ?_) (λ_=>⟨lb,b.dm,(Em b Y).1,la,a.dm,(Em a X).1,⟨s,b.dm,a.dm⟩,rfl,rfl,rfl,Y_,λ_ _=>⟨_,rfl,rfl,gj⟩⟩),?_⟩
  ·exfalso;simp at e;omega
  rintro _ rfl;refine W_ (λc2=> ?_) (λc2=> ?_)
  ·refine⟨lb,b.dm,b.dr,b.count,(Em b Y).2,⟨_,⟨n,s,b,am⟩⟩,rfl,rfl,rfl,rfl,rfl,rfl,rfl,rfl,OQ,λ_ _=>⟨lb1,⟨a::X,Y,M++[⟨n,s,b,am⟩]⟩,rfl,rfl,OL _ _ _,OK _ _ _ _,⟨k',by dsimp only;rw[iG];omega,?_,by dsimp only;rw[ix,Bh];omega⟩,by dsimp only;rw[iG,iG];omega,gj⟩⟩;rw[hM,x7,eg c1,fh c2,jg,jd];rfl
  have c2:¬jo s b.dm a.dm=ao:=by simp[c2]
  by_cases CU:a=b
  ·refine⟨⟨_,_⟩,rfl,rfl,λD=>D=⟨d.seq+(M.length:Nat),d.out++jX d.seq M⟩,⟨am,λt=>t=am,⟨la,a.dm,a.dr,a.count,(Em a X).2,lb,b.dm,b.dr,b.count,(Em b Y).2,_,rfl,by rw[Rk,jt CU];rfl,gj⟩,?_⟩,?_⟩
   ·rintro _ rfl;exact W_ (λc=>absurd c Z8) (λ_=>⟨_,rfl,rfl,rfl,gj⟩)
   rintro _ rfl;refine⟨la1,lb1,⟨X,Y,M⟩,iP ⟨rfl,⟨k',Z9,?_,Z9⟩,by dsimp only;rw[iG,iG];omega,gj⟩⟩;rw[hM,x7,eg c1,eg c2,fh CU];rfl
  ·refine⟨⟨_,_⟩,rfl,rfl,λD=>D=tw.add ⟨d.seq+(M.length:Nat),d.out++jX d.seq M⟩ [⟨n,s,b,am⟩],⟨am,λt=>t=ao,⟨la,a.dm,a.dr,a.count,(Em a X).2,lb,b.dm,b.dr,b.count,(Em b Y).2,_,rfl,by rw[Rk,ju CU];rfl,gj⟩,?_⟩,?_⟩
   ·rintro _ rfl;exact W_ (λ_=>⟨lb,b.dm,b.dr,b.count,(Em b Y).2,⟨_,⟨n,s,b,am⟩⟩,rfl,rfl,rfl,rfl,rfl,rfl,rfl,rfl,OQ,λ_ _=>⟨_,rfl,rfl,rfl,gj⟩⟩) (λc=>absurd c Z8)
   rintro _ rfl;refine⟨la1,lb1,⟨X,Y,M++[⟨n,s,b,am⟩]⟩,rfl,rfl,OL _ _ _,OK _ _ _ _,⟨k',Z9,?_,by dsimp only;rw[ix,Bh];omega⟩,by dsimp only;rw[iG,iG];omega,gj⟩;rw[hM,x7,eg c1,eg c2,eg CU,jh,jd];rfl
 obtain rfl:x=[]:=ye oM;obtain rfl:y=[]:=ye oM;rw[yNa,Bz,oQ]at hM;rw[Rk];refine⟨am,λt=>t=Io ⟨al,ai,ah⟩ ⟨bl,bi,bh⟩,W_ (λe=>⟨ao,rfl,?_,gj⟩) (λe=>⟨_,rfl,?_,gj⟩),?_⟩
 ·have e:ai≠bi:=i9 e
  rw[Io];simp[e]
 ·have e:ai=bi:=i9 e
  rw[Io,e];cases ah<;>cases bh<;>simp
 rintro _ rfl;refine W_ (λe=>⟨bi,rfl,rfl,rfl,λl=>l=CF ⟨bl,bi,bh⟩,W_ (λe2=>⟨BG,rfl,rfl,rfl,?_,gj⟩) (λe2=>⟨bi,rfl,rfl,rfl,?_,gj⟩),?_⟩) (λe=> ?_)
 ·rw[CF,eg (i9 e2)]
 ·rw[CF,fh (i9 e2)]
 ·rintro _ rfl;have Fb:xW n s ⟨al,ai,ah⟩ ⟨bl,bi,bh⟩=M++[⟨n,s,CF ⟨bl,bi,bh⟩,ao⟩]:=by rw[xW,fh e,hM]
  rw[Fb];exact⟨⟨_,⟨n,s,CF ⟨bl,bi,bh⟩,ao⟩⟩,rfl,rfl,rfl,rfl,rfl,rfl,rfl,rfl,OQ,λ_ _=>⟨(),OL _ _ _,OK _ _ _ _,Y_⟩⟩
 ·have Fb:xW n s ⟨al,ai,ah⟩ ⟨bl,bi,bh⟩=M:=by rw[xW,eg (by simp[e]),hM,oQ]
  rw[Fb];exact⟨(),rfl,rfl,Y_⟩
def yPp:G0.ok Z_ 205:=gy mixed (dw yVs (dw zMq fk)) 0 (λ_=>xAk) (λi=>y8q i) [] func205 y7j
def xEt (i:KD) (h:Lj.dp i):y2t i:=by
 obtain⟨hvw,⟨s1,s2⟩,l1,l2,hn⟩:i.v.length=i.w.length/\(-4000000000000000000<=i.seq/\i.seq<=4000000000000000000)/\Vw.oP i.v<=100000000/\Vw.oP i.w<=100000000/\i.v.length<=1000000:=h;have Ff:(i.v.map zA).length=i.v.length:=ib _;have Ss:(i.w.map zA).length=i.w.length:=ib _;unfold y2t QL ff dx gV bF bH tM Wp tP zLk dI;rw[Ff,Ss];refine W_ (λc=> ?_) (λ_=> ?_)
 ·have c:(i.v.length:Int)≠i.w.length:=i9 c
  omega
 refine⟨0,rfl,by simp[xN],by simp[xN,jX],λj=>j<=i.v.length,λj=>i.v.length-j,ml _,λj hj=>zH (λe=> ?_) (λe=> ?_)⟩
 ·have hj:j<=i.v.length:=hj;obtain⟨a,ha⟩:=zZ (l:=i.v) (i:=j) oM;obtain⟨b,hb⟩:=zZ (l:=i.w) (i:=j) oM;have hd:=XK i.v i.w j hj oM;have t1:=Wk ha;have t2:=Wk hb;have u1:=yFs i.v (j+1);have u2:=yFs i.w (j+1);have q1:=z8z j 1 a.1 b.1;have hvt:=z2s 0 j ha hb;rw[nt]at hvt;have bdv:(0:Int)<=j/\(j:Int)<(i.v.length:Nat):=⟨oM,e⟩
  have bdw:(0:Int)<=j/\(j:Int)<(i.w.length:Nat):=⟨oM,oM⟩
  obtain⟨D,hD⟩:∃D:tw,D=tw.add ⟨i.seq,[]⟩ (xN 0 (i.v.take j) (i.w.take j)):=⟨_,rfl⟩
  have hDs:D.seq=i.seq+((xN 0 (i.v.take j) (i.w.take j)).length:Nat):=by rw[hD];rfl
  have hDo:D.out=[]++jX i.seq (xN 0 (i.v.take j) (i.w.take j)):=by rw[hD];rfl
  have hDl:D.out.length=(xN 0 (i.v.take j) (i.w.take j)).length:=by rw[hDo,wy,sK]
  refine⟨⟨Z8,Z8⟩,1,rfl,bdv,_,_,_,_,_,(Ol ha).2.1,bdw,_,_,_,_,_,(Ol hb).2.1,⟨D,j,1,a.1,b.1⟩,rfl,rfl,rfl,rfl,rfl,rfl,rfl,rfl,rfl,rfl,rfl,rfl,hDs,by rw[hDo],⟨Z9,Z9,Z9⟩,λ_ _=>⟨⟨Z8,Z8⟩,2,rfl,bdv,_,_,_,_,_,(Ol ha).2.2,bdw,_,_,_,_,_,(Ol hb).2.2,⟨D.add (xW j 1 a.1 b.1),j,2,a.2,b.2⟩,rfl,rfl,rfl,rfl,rfl,rfl,rfl,rfl,rfl,rfl,rfl,rfl,rfl,rfl,⟨by simp only[tw.add];omega,by simp only[tw.add];omega,by simp only[tw.add];rw[ix,sK];omega⟩,λ_ _=>⟨j+1,pf oM,?_,?_,Z9,Z9,gj⟩⟩⟩
  ·show(tw.add ⟨i.seq,[]⟩ (xN 0 (i.v.take (j+1)) (i.w.take (j+1)))).seq=((D.add (xW j 1 a.1 b.1)).add (xW j 2 a.2 b.2)).seq;rw[hvt,hD,U1,U1]
  ·show(tw.add ⟨i.seq,[]⟩ (xN 0 (i.v.take (j+1)) (i.w.take (j+1)))).out.map zU=((D.add (xW j 1 a.1 b.1)).add (xW j 2 a.2 b.2)).out.map zU;rw[hvt,hD,U1,U1]
 ·have hj:j<=i.v.length:=hj;rw[ng X_,ng X_];exact⟨(),rfl,Y_⟩
def yOm:Lj.ok Z_ 135:=gy mixed (dw yPp fk) 1 i6 (λi=>xDs i) [] func135 xEt
def xEf (m:gi) (h:Gi.dp m):y4s m:=by
 unfold y4s DL KB Pf ff dx zNh Ww zMi Z4 dI;refine⟨am,λb=>b=decide (m.inst<0\/255<m.inst\/(m.side≠1/\m.side≠2)),zH (λe=>⟨ao,rfl,(jt (.inl e)).symm,gj⟩) (λe=>zH (λe2=>⟨ao,rfl,(jt (.inr (.inl e2))).symm,gj⟩) (λe2=>W_ (λe3=>⟨_,rfl,?_,gj⟩) (λe3=>⟨_,rfl,?_,gj⟩))),?_⟩
 ·have e3:m.side≠1:=i9 e3
  show(m.side !=2)=decide _;rw[CK,decide_eq_true_iff,bne_iff_ne];exact⟨λx=> .inr (.inr ⟨e3,x⟩),λx=>((x.resolve_left e).resolve_left e2).2⟩
 ·have e3:m.side=1:=i9 e3
  exact(ju λx=>((x.resolve_left e).resolve_left e2).1 e3).symm
 rintro _ rfl;refine zH (λe=> ?_) (λe=> ?_)
 ·have hf:m.form=12:=by rw[gi.form,fh e]
  exact⟨(),by rw[gi.enc,fh (by rw[hf];decide)];rfl,hf,Y_⟩
 have hf:m.form=0:=by rw[gi.form,eg e]
 have he:m.enc=m.body:=by rw[gi.enc,eg (by simp[hf])]
 refine⟨(),Y_,λ_ _=>⟨⟨[],m.seq⟩,rfl,rfl,by simp[WN.ok],λ_ _=>⟨⟨_,m.inst⟩,rfl,rfl,by simp[WN.ok,xA],λ_ _=>⟨⟨_,m.side⟩,rfl,rfl,by simp[WN.ok,xA],λ_ _=>⟨⟨_,m.dm⟩,rfl,rfl,by simp[WN.ok,xA],λ_ _=>⟨⟨_,m.dr⟩,rfl,rfl,by simp[WN.ok,xA],λ_ _=>⟨⟨_,m.count⟩,rfl,rfl,by simp[WN.ok,xA],λ_ _=>⟨0,λx=>x=if m.gg=ao then 1 else 0,W_ (λe=>⟨1,rfl,by rw[fh e],gj⟩) (λe=>⟨0,rfl,by rw[eg (by simp[e])],gj⟩),?_⟩⟩⟩⟩⟩⟩⟩⟩;rintro _ rfl;refine⟨⟨_,if m.gg=ao then 1 else 0⟩,rfl,rfl,by simp[WN.ok,xA],λ_ _=>⟨_,rfl,by simp[xA],λ_ _=>⟨(),?_,hf,Y_⟩⟩⟩;rw[he,gi.body];simp
def Jv:Gi.ok Z_ 17:=gy mixed (dw PZ (dw U8 (dw PR (dw PS fk)))) 0 (λ_=>xDl) i6 [] func17 xEf
@[reducible] def vS:Nat:=138
@[reducible] def EZ:Nat:=135
def Ar:gh:=fp (Q_ D) (λl=>[ox 10 l]) i6 (λl=>l.length*112<=140737488355328) (λ_=> .own 0) (λl=>[.own vS 10 l])
def Av:gh:=fp (Q_ D) (λl=>[ox 3 l]) i6 (λl=>l.length*24<=140737488355328) (λ_=> .own 0) (λl=>[.own EZ 3 l])
structure o6 where
 v:Vw
 n:Nat
 s:Bool
def xJw (s:Bool) (p:Sd×Sd):Sd:=bif s then p.2 else p.1
def LS (v:Vw) (n:Nat) (s:Bool):Sd:=match v[n]? with
 |some p=>xJw s p
 |none=>⟨[],BG,am⟩
def o6.f (i:o6):Nat:=bif i.s then 5 else 0
def o6.lv (i:o6):Q_ D:=(LS i.v i.n i.s).levels.map iq
def GW:gh:=fp o6 (λi=>[Ag i.v]) i6 (λi=>i.n<i.v.length/\i.v.length<=1000000/\xZ i.v) (λ_=> .agg [.own 0])
 (λi=>[.uq ao vS 10 (i.v.map zA) i.n i.f ao (ar 1),.own EZ 3 i.lv])
def y7x (i:o6):List gu:=[
 {ι:=Nat,du:=λj=>[(1,.nm 0 0),(12,zB j)],rows:=λj=>[.cells [.own 1] 59,.uq am vS 10 (i.v.map zA) i.n i.f (decide (i.n<j)) (ar 2),.own EZ 3 (bif decide (i.n<j)then i.lv else[])]},
 {ι:=Unit,du:=λ_=>[],rows:=λ_=>[],un:=3}]
def gi.iO (k:Int) (m:gi):Int:=if m.inst<0\/k<=m.inst then 20 else if m.side≠1/\m.side≠2 then 21 else if(m.dr<0\/m.count<0)\/¬(m.dr=0↔m.count=0)then 24 else 0
structure MJ where
 k:Int
 m:gi
def Nx:gh:=fp MJ (λi=>[zB i.k,Iy i.m]) i6 (λ_=>True) (λi=>zB (i.m.iO i.k)) i6
structure we where
 L:List Lv
 m:gi
def oI:Option Nat->Int
 |some k=>k
 |none=> -1
def RI (m:gi):fq:= .cells [zB m.seq,zB m.inst,zB m.side,zB m.dm,zB m.dr,zB m.count,yM m.gg] nA
def ixA:List gu:=[{ι:=Nat,du:=λk=>[(8,zB k)],rows:=λ_=>[]}]
def Tt:gh:=fp we (λi=>[.own 0,.fn 208 [] [.nm 1 0]]) (λi=>[.own EZ 3 (i.L.map iq),RI i.m]) (λi=>i.L.length<=1099511627776) (λi=>zB (oI (i.L.findIdx? λy=>decide (y.dm=i.m.dm)))) (λi=>[.own EZ 3 (i.L.map iq),RI i.m])
def Tu:gh:=fp we (λi=>[.own 0,.fn 210 [] [.nm 1 0]]) (λi=>[.own EZ 3 (i.L.map iq),RI i.m]) (λi=>i.L.length<=1099511627776) (λi=>zB (oI (i.L.findIdx? λy=>xJ i.m.side i.m.dm y.dm))) (λi=>[.own EZ 3 (i.L.map iq),RI i.m])
def UJ:gh:=Xs EZ 3
def Ui:gh:=Ot EZ 3 24
structure Ey where
 v:Vw
 m:gi
def gi.lv (m:gi):Lv:=⟨m.dm,m.dr,m.count⟩
def Ba (s:Int) (x:Sd) (m:gi):Sd:=if m.gg=ao then(if 0<m.dr then⟨x.levels,m.lv,ao⟩else⟨x.levels,BG,am⟩)else⟨jR s x.levels m.lv,x.imp,x.has⟩
def ru (v:Vw) (m:gi):Vw:=v.modify m.inst.toNat λp=>if m.side=1 then(Ba 1 p.1 m,p.2)else(p.1,Ba 2 p.2 m)
def xEg (s:Int):gh:=fp Ey (λi=>[Ag i.v,.agg [zB i.m.seq,zB i.m.inst,zB s,zB i.m.dm,zB i.m.dr,zB i.m.count,yM i.m.gg]]) i6
 (λi=>i.m.side=s/\i.m.iO i.v.length=0/\i.v.length<=1000000/\xZ i.v) (λi=> .je [Ag (ru i.v i.m),zB 0]) i6
def M4:gh:=xEg 1
def M3:gh:=xEg 2
def De:gh:=fp Ey (λi=>[Ag i.v,Iy i.m]) i6 (λi=>i.m.iO i.v.length=0/\i.v.length<=1000000/\xZ i.v) (λi=> .je [Ag (ru i.v i.m),zB 0]) i6
end Sx
