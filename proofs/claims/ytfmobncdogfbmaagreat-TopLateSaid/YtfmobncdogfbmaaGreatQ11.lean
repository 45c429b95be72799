/- Texts of ours. No condition. -/
import Derived.Test.YtfmobncdogfbmaaGreatQ10
set_option linter.all false
open List renaming map->ab,take->ac,drop->ae,length->af
open Sx.fq renaming cells->ag,kq->aj,rh->ak,own->am
open Bool renaming false->ao,true->ap
open Int renaming toNat->aq
open Go.IntKind renaming i64->ar
open Option renaming some->au
namespace Sx
set_option maxRecDepth 100000
open Go Cv Go.Proofs
def vM (B:Q_ zJ):Nat:=(B.map af).sum
def spO (o:zJ):Int×Int:=(o.side,o.dm)
def Xb (B:Q_ zJ):List (List (Int×Int)):=B.map λL=>L.map spO
def yEj (id q:Int):∀(L:List zJ),(wX L id q).length<=L.length/\((wX L id q).length=L.length->(wX L id q).map spO=L.map spO)
 |[]=>⟨ju _,λ_=>rfl⟩
 |o::L=>by
  obtain⟨i1,i2⟩:=yEj id q L;rw[wX]at i1 i2;rw[wX,List.filterMap_cons];by_cases c:o.id=id
  ·rw[fh c];by_cases d:o.dr=q
   ·rw[fh d];refine⟨HC i1,λe=> ?_⟩;rw[iF]at e;dsimp only at e;omega
   ·rw[ez d];refine⟨Nat.succ_le_succ i1,λe=> ?_⟩;rw[jf,jf,i2 (Nat.succ.inj e)];rfl
  ·rw[ez c];refine⟨Nat.succ_le_succ i1,λe=> ?_⟩;rw[jf,jf,i2 (Nat.succ.inj e)]
def YE:∀{B:Q_ zJ} {k:Nat} {L L':List zJ},B[k]? =au L->vM (B.set k L')+L.length=vM B+L'.length
 |[],k,L,L',h=>by cases h
 |M::B,0,L,L',h=>by
  cases h;rw[Ol,vM,vM,jf,jf,qc,qc];omega
 |M::B,k+1,L,L',h=>by
  have:=YE (B:=B) (k:=k) (L:=L) (L':=L') h;rw[vM,vM]at this;rw[Oj,vM,vM,jf,jf,qc,qc];omega
def yFs (B:Q_ zJ) (id q:Int):vM (iO B id q).1<=vM B/\(vM (iO B id q).1=vM B->Xb (iO B id q).1=Xb B):=by
 rw[iO];split
 ·exact⟨ju _,λ_=>rfl⟩
 ·rename_i k hk;dsimp only;obtain⟨L,hL,hh⟩:=u6 hk;rw[zX hL,qK];split
  ·rw[jL hL];exact⟨ju _,λ_=>rfl⟩
  split
  ·rw[jL hL];exact⟨ju _,λ_=>rfl⟩
  dsimp only;have:=YE (L':=wX L id q) hL;obtain⟨i1,i2⟩:=yEj id q L;refine⟨oM,λe=> ?_⟩;rw[Xb,Xb,List.map_set,i2 (by omega)];exact jL (by rw[qt,hL];rfl)
def yz (f:Int->Int) (k v:Int):Int->Int:=λx=>if x=k then v else f x
def one (r:ga) (m:Int):Int:=if r.kind=3/\r.inst=m then(if r.side=1 then r.dr else-r.dr)else 0
def vq (p:fj) (k s q m:Int):Int:=
 if(p.gp k).2.2=ap then(if(p.gp k).1=m then(if s=1 then q else-q)else 0)-(if(p.gp k).2.1=m then(if s=1 then q else-q)else 0)
 else if k=m then(if s=1 then q else-q)else 0
def yVw (p:fj) (B:Q_ zJ) (inst id s dm q:Int):vM (Io p B inst id s dm q).1<=vM B+1:=by
 rw[Io]
 repeat' split
 all_goals first|exact Br _|skip
 rename_i c1 _ _ _;obtain⟨L,hL⟩:=zZ (l:=B) (i:=inst.toNat) oM;dsimp only;rw[zX hL];have h1:=YE (L':=(CB L s id dm q).1) hL;have h2:(CB L s id dm q).1.length<=L.length+1:=by
  rw[CB]
  repeat' split
  all_goals first|exact Br _|skip
  have:=(z3u L s id dm q).length_eq;rw[ia,iF,ia]at this;dsimp only;omega
 omega
def yGs {s:Int}:∀{F:List zJ},JR s F->cR s (xw F)
 |[],_=>List.Pairwise.nil
 |o::F,h=>by
  rw[JR,yx]at h;have ih:=yGs h.2;rw[xw];cases hg:xw F with
  |nil=>exact List.pairwise_singleton _ _
  |cons v vs=>
   rw[hg]at ih;dsimp only;have hv:=ih;rw[cR,yx]at hv;by_cases e:v.dm=o.dm
   ·rw[fh e];exact yx.2 ⟨λw hw=>hv.1 w hw,hv.2⟩
   ·rw[ez e];obtain⟨o',r,e2,e3⟩:=ZI hg;have hb:jl s o.dm v.dm=ap:=by
     rw[<- e3];refine UM (h.1 o' (by rw[e2];exact iX)) (by rw[e3];exact e)
    refine yx.2 ⟨λw hw=> ?_,ih⟩;rcases jx.1 hw with rfl|hw
    ·exact hb
    ·exact lO hb (hv.1 w hw)
def yYi {p:fj} {B:Q_ zJ} (h:rr p B) {k:Nat} {L:List zJ} (hL:B[k]? =au L) {s:Int} (hs:s=1\/s=2):cR s (uE L s)/\Rn (uE L s):=
 ⟨yGs (h.xk k L hL s hs),λl hl=>(Xs (λo ho=>(h.od k L hL).1 o (ug.1 ho).1) hl).1⟩
open Classical
def cT (l:List Quote) (b:Quote):Int×Int:=l.foldl (λa q=>if q.dm=b.dm then(if q.dr>a.1 then q.dr else a.1,a.2+1)else a) (b.dr,0)
def kB (l:List Quote) (s:Int):Lv×Bool:=if(z6 l s).2 then(⟨(z6 l s).1.dm,(cT l (z6 l s).1).1,(cT l (z6 l s).1).2⟩,ap)else(⟨0,0,0⟩,ao)
def KF:gh:=fp Ab (λi=>[ow 6 (i.l.map zL),zB i.s]) i6 (λi=>(i.s=1\/i.s=2)/\i.l.length<=1000000) (λi=> .je [zB (kB i.l i.s).1.dm,zB (kB i.l i.s).1.dr,zB (kB i.l i.s).1.count,yL (kB i.l i.s).2]) i6
def xAt (i:Ab):List gr:=[{ι:=Nat,du:=λk=>[(8,.nm 0 0),(10,zB (cT (i.l.take k) (z6 i.l i.s).1).1),(11,zB (cT (i.l.take k) (z6 i.l i.s).1).2),(26,zB k)],rows:=λ_=>[.cells (WR (z6 i.l i.s).1).cl 271]}]
def cX (p:fj) (B:Q_ zJ) (n:Nat) (s:Int):Sd:=⟨uE (B.getD n []) s,(kB (xR ⟨p,B.map qC,n⟩ s) s).1,(kB (xR ⟨p,B.map qC,n⟩ s) s).2⟩
def yK (p:fj) (B:Q_ zJ):Vw:=(List.range p.count).map λn=>(cX p B n 1,cX p B n 2)
structure Fp where
 s:gy
 p:fj
 B:Q_ zJ
def Gc:gh:=fp Fp (λi=>[nt i.p,.nm 0 0]) (λi=>[zE i.s]) (λi=>i.s.ga i.p i.B/\jh i.p i.B) (λi=>zw (yK i.p i.B)) (λi=>[zE i.s])
def y3k (i:Fp):List gr:=[
 {ι:=Nat,du:=λj=>[(5,.nm 0 0),(6,.own 2),(27,zB j)],rows:=λj=>[.cells [.own 1] 59,.own 138 10 (((yK i.p i.B).take j).map zA),.kq 6 ((i.B.map qC).map yC)]},
 {ι:=Unit,du:=λ_=>[],rows:=λ_=>[],un:=3}]
noncomputable def Rq (a b:List Lv):Bool:=decide (a=b)
noncomputable def N7 (a b:Sd):Bool:=decide (a=b)
noncomputable def Iv (a b:Vw):Bool:=decide (a=b)
structure Xy where
 x:List Lv
 y:List Lv
noncomputable def K8:gh:=fp Xy (λi=>[ow 3 (i.x.map im),ow 3 (i.y.map im)]) i6 (λi=>i.x.length<=1099511627776/\i.y.length<=1099511627776) (λi=>yL (Rq i.x i.y)) i6
def xDe:List gr:=[{ι:=Nat,du:=λk=>[(13,zB k)],rows:=λ_=>[]}]
def xGb:List (Nat×gr):=[(24,bj 24)]
structure Rh where
 a:Sd
 b:Sd
noncomputable def Ty:gh:=fp Rh (λi=>[OA i.a,OA i.b]) i6 (λi=>i.a.levels.length<=1099511627776/\i.b.levels.length<=1099511627776) (λi=>yL (N7 i.a i.b)) i6
structure Ig where
 v:Vw
 w:Vw
noncomputable def TD:gh:=fp Ig (λi=>[ow 10 (i.v.map zA),ow 10 (i.w.map zA),.fn 75 [] []]) i6 (λi=>xZ i.v/\xZ i.w) (λi=>yL (Iv i.v i.w)) i6
def xHn:List gr:=[{ι:=Nat,du:=λk=>[(17,zB k)],rows:=λ_=>[]}]
def xIb:List (Nat×gr):=[(28,bj 30)]
noncomputable def C7:gh:=fp Ig (λi=>[zw i.v,zw i.w]) i6 (λi=>xZ i.v/\xZ i.w) (λi=>yL (Iv i.v i.w)) i6
def zS (m:gi):List D:=[.v (.int .i64 m.seq),.v (.int .i64 m.inst),.v (.int .i64 m.side),.v (.int .i64 m.dm),.v (.int .i64 m.dr),.v (.int .i64 m.count),.v (.bool m.gg)]
def Iu (m:gi):V:= .agg [zB m.seq,zB m.inst,zB m.side,zB m.dm,zB m.dr,zB m.count,yL m.gg]
@[reducible] def rM:Nat:=51
@[reducible] def tJ (l:List gi):fq:= .own rM 7 (l.map zS)
def jY (seq:Int):List VM->List gi
 |[]=>[]
 |m::M=>⟨seq+1,m.inst,m.side,m.l.dm,m.l.dr,m.l.count,m.imp⟩::jY (seq+1) M
structure tg where
 seq:Int
 out:List gi
@[reducible] def Pc (d:tg):List fq:=[.cells [zB d.seq,.own 1] 326,tJ d.out]
@[reducible] def DfP (d:tg):List fq:=[.cells [zB d.seq,.own 2] 326,.gone,tJ d.out]
def tg.add (d:tg) (M:List VM):tg:=⟨d.seq+M.length,d.out++jY d.seq M⟩
@[reducible] def tg.ok (d:tg) (n:Nat):Prop:= -4611686018427387904<=d.seq/\d.seq+n<=4611686018427387904/\d.out.length+n<=1000000000
structure IX where
 d:tg
 m:VM
def GR:gh:=fp IX (λi=>[.nm 0 0,zB i.m.inst,zB i.m.side,RT i.m.l,yL i.m.imp]) (λi=>Pc i.d) (λi=>i.d.ok 1) (λ_=>rE) (λi=>DfP (i.d.add [i.m]))
structure AG where
 d:tg
 n:Nat
 s:Int
 a:Sd
 b:Sd
def GS:gh:=fp AG (λi=>[.nm 0 0,zB i.n,zB i.s,OA i.a,OA i.b]) (λi=>Pc i.d) (λi=>i.d.ok (i.a.levels.length+i.b.levels.length+1)) (λ_=>rE) (λi=>DfP (i.d.add (xV i.n i.s i.a i.b)))
structure wz where
 x:List Lv
 y:List Lv
 M:List VM
def y6r (i:AG):List gr:=[{ι:=wz,du:=λj=>[(0,.nm 0 0),(10,ow 3 (j.x.map im)),(11,ow 3 (j.y.map im))],rows:=λj=>Pc (i.d.add j.M)}]
def xIu:gr:={ι:=tg,du:=λ_=>[(0,.nm 0 0)],rows:=λd=>Pc d,oP:=λ_=>[(0,.nm 0 0)],lq:=λd=>Pc d}
def lvT (t:Nat):gr:={ι:=Lv,du:=λ_=>[(t,.nm 0 0)],rows:=λl=>[.cells [zB l.dm,zB l.dr,zB l.count] 135],oP:=λ_=>[(t,.nm 0 0)],lq:=λl=>[.cells [zB l.dm,zB l.dr,zB l.count] 135]}
def xAq:List (Nat×gr):=[(24,bj 41),(36,bj 73),(12,bj 29),(14,xIu),(48,bj 109),(58,lvT 12)]
structure Kv where
 v:Vw
 w:Vw
 seq:Int
def Vw.oO (v:Vw):Nat:=(v.map λb=>b.1.levels.length+b.2.levels.length).sum
def K9:gh:=fp Kv (λi=>[zw i.v,zw i.w,zB i.seq]) i6 (λi=>i.v.length=i.w.length/\(-4000000000000000000<=i.seq/\i.seq<=4000000000000000000)/\Vw.oO i.v<=100000000/\Vw.oO i.w<=100000000/\i.v.length<=1000000) (λ_=> .own 0) (λi=>[tJ (jY i.seq (xN 0 i.v i.w))])
def xGh (i:Kv):List gr:=[
 {ι:=Nat,du:=λj=>[(7,.nm 0 0),(24,zB j)],rows:=λj=>Pc (tg.add ⟨i.seq,[]⟩ (xN 0 (i.v.take j) (i.w.take j)))},
 {ι:=Unit,du:=λ_=>[],rows:=λ_=>[],un:=3}]
def Gb:gh:=fp gi (λm=>[Iu m]) i6 (λ_=>True) (λm=> .je [ow 1 (bE m.enc),zB m.form]) i6
def xDs:List (Nat×gr):=[(4,bj 23),(46,ij 5)]
def xGl:List (Nat×gr):=[(20,bj 43)]
def Z4 (a:Nat) (b:Nat) (c:Ab) (d:Nat->Prop) (e:Nat->Nat):Prop:=(a:Int)=ar.wrap ((b:Int)+1)/\dl ((z6 c.l c.s).fst.dm)/\dl ((z6 c.l c.s).fst.dr)/\dl ((z6 c.l c.s).fst.a.inst)/\dl ((z6 c.l c.s).fst.a.side)/\dl ((z6 c.l c.s).fst.b.inst)/\dl ((z6 c.l c.s).fst.b.side)/\d a/\e a<e b/\True
def kT (a:Nat) (b:Ab):=(cT (ac a b.l) (z6 b.l b.s).fst)
def y2b (i:Ab):Prop:=
 ∃(a:Ab),ab zL a.l=ab zL i.l/\a.s=i.s/\(dO a)/\ff (dp (!(z6 a.l a.s).snd) (dx ((kB i.l i.s).fst.dm=0/\(kB i.l i.s).fst.dr=0/\(kB i.l i.s).fst.count=0/\(kB i.l i.s).snd=ao/\True)) (∃(c:Nat),(kT c i).fst=(z6 a.l a.s).fst.dr/\(kT c i).snd=0/\(c:Int)=0/\(z6 i.l i.s).fst.dm=(z6 a.l a.s).fst.dm/\(z6 i.l i.s).fst.dr=(z6 a.l a.s).fst.dr/\(z6 i.l i.s).fst.a.inst=(z6 a.l a.s).fst.a.inst/\(z6 i.l i.s).fst.a.side=(z6 a.l a.s).fst.a.side/\(z6 i.l i.s).fst.b.inst=(z6 a.l a.s).fst.b.inst/\(z6 i.l i.s).fst.b.side=(z6 a.l a.s).fst.b.side/\∃(d:Nat->Prop),∃(e:Nat->Nat),d c/\∀(f:Nat),d f->dp (decide ((f:Int)<(u9 i))) ((0<=(f:Int)/\(f:Int)<(u9 i))/\∃(g:Int),∃(h:Int),∃(j:Int),∃(k:Int),∃(l:Int),∃(m:Int),zD (ab zL i.l) (f:Int).toNat 0 6=au [dI g,dI h,dI j,dI k,dI l,dI m]/\dp (g==(z6 i.l i.s).fst.dm) (∃(n:Nat),((kT n i).fst=if h>(kT f i).fst then h else(kT f i).fst)/\(kT n i).snd=ar.wrap ((kT f i).snd+1)/\Z4 n f i d e) (∃(n:Nat),(kT n i).fst=(kT f i).fst/\(kT n i).snd=(kT f i).snd/\Z4 n f i d e)) (dx ((kB i.l i.s).fst.dm=(z6 i.l i.s).fst.dm/\(kB i.l i.s).fst.dr=(kT f i).fst/\(kB i.l i.s).fst.count=(kT f i).snd/\(kB i.l i.s).snd=ap/\True))))
def gD (a:Nat) (b:Fp):=(ac a (yK b.p b.B))
def UU (a:Nat) (b:gy) (c:Fp) (d:Nat->Prop) (e:Nat->Nat):Prop:=((0:Int)<=(0:Int)/\0<((2:Nat):Int))/\∃(f:Int),zD [[dI 1],[dI 2]] (aq 0) 0 1=au [dI f]/\∃(g:ze),g.inst=(a:Int)/\zF g.sd=f/\zE g.s=zE b/\(g.s.ga g.p g.B/\g.B.length<=1000)/\ff (∃(j:Bq),Qb j.i.p c.p (ab yC j.i.fm=ab yC (ab qC c.B)/\j.i.inst=(a:Int)/\zF j.s=f/\(kK j)/\ff (∃(l:Ab),ab zL l.l=ab zL (xR j.i (zF j.s))/\l.s=f/\(dO l)/\ff ((gN)/\∃(n:Int),zD [[dI 1],[dI 2]] (ar.wrap ((0:Int)+(1:Int))).toNat 0 1=au [dI n]/\∃(p:ze),p.inst=(a:Int)/\zF p.sd=n/\zE p.s=zE g.s/\(p.s.ga p.p p.B/\p.B.length<=1000)/\ff (∃(r:Bq),Qb r.i.p c.p (ab yC r.i.fm=ab yC (ab qC c.B)/\r.i.inst=(a:Int)/\zF r.s=n/\(kK r)/\ff (∃(t:Ab),ab zL t.l=ab zL (xR r.i (zF r.s))/\t.s=n/\(dO t)/\ff (((ab zA (gD a c)).length+1)*(112:Nat)<=(140737488355328:Nat)/\∃(v:Nat),(v:Int)=ar.wrap ((a:Int)+1)/\ab zA (gD v c)=ab zA (gD a c)++[[D.ro 3 (ab im (bH g)),dI ((kB l.l l.s).fst.dm),dI ((kB l.l l.s).fst.dr),dI ((kB l.l l.s).fst.count),D.v (.bool (kB l.l l.s).snd),D.ro 3 (ab im (bH p)),dI ((kB t.l t.s).fst.dm),dI ((kB t.l t.s).fst.dr),dI ((kB t.l t.s).fst.count),D.v (.bool (kB t.l t.s).snd)]]/\dl (aj 6 (ab yC (ab qC c.B)))/\d v/\e v<e a/\zE p.s=zE b/\dl (ag om.cl 59)/\dl (ag [V.d (D.v (Value.string (sb c.p.code))),V.own 1,V.d (dI c.p.tick),V.d (dI c.p.low),V.d (dI c.p.high),V.d (dI c.p.wide),V.d (dI c.p.gm),V.d (dI c.p.top),V.d (dI c.p.least),V.d (dI c.p.part),V.own 2] 25)/\dl (aj 1 (iE c.p.settle))/\dl (aj 1 (iE c.p.dt))))))))))
def y2c (i:Fp):Prop:=
 ∃(a:fj),Qb a i.p ((zV a)/\ff (dp (a.check !=0) (dx (ab zA (yK i.p i.B)=[]/\dl (zE i.s)/\True)) (∃(c:gy),zE c=zE i.s/\(gS c)/\ff (∃(e:fj),Qb e i.p ((zV e)/\ff (∃(g:Nat),(g:Int)=0/\ab zA (gD g i)=[]/\ab yC (ab qC i.B)=ab yC c.fm/\∃(h:Nat->Prop),∃(j:Nat->Nat),h g/\∀(k:Nat),h k->dp (decide ((k:Int)<(e.count:Int))) (UU k c i h j) (dx (ab zA (yK i.p i.B)=ab zA (gD k i)/\zE i.s=zE c/\True))))))))
def y3c (i:Xy):Prop:=
 dp (((ab im i.x).length:Int) !=((ab im i.y).length:Int)) (dx (Rq i.x i.y=ao/\True)) (∃(a:Nat),(a:Int)=0/\∃(b:Nat->Prop),∃(c:Nat->Nat),b a/\∀(d:Nat),b d->dp (decide ((d:Int)<((ab im i.x).length:Int))) (∃(e:Bool),∃(f:Bool->Prop),((0<=(d:Int)/\(d:Int)<((ab im i.x).length:Int))/\∃(g:Int),∃(h:Int),∃(j:Int),zD (ab im i.x) (d:Int).toNat 0 3=au [dI g,dI h,dI j]/\(0<=(d:Int)/\(d:Int)<((ab im i.y).length:Int))/\∃(k:Int),∃(l:Int),∃(m:Int),zD (ab im i.y) (d:Int).toNat 0 3=au [dI k,dI l,dI m]/\∃(n:Bool),n=!(g==k && (h==l && (j==m && ap)))/\f n/\True)/\∀(g:Bool),f g->dp g (dx (Rq i.x i.y=ao/\True)) (wG d b c)) (dx (Rq i.x i.y=ap/\True)))
def xFa (i:Rh):Prop:=
 ∃(a:Xy),ab im a.x=ab im i.a.levels/\ab im a.y=ab im i.b.levels/\(a.x.length<=1099511627776/\a.y.length<=1099511627776)/\ff (dp (Rq a.x a.y) (dp (i.a.imp.dm==i.b.imp.dm && (i.a.imp.dr==i.b.imp.dr && (i.a.imp.count==i.b.imp.count && ap))) (dx (N7 i.a i.b=(i.a.has==i.b.has)/\True)) (dx (N7 i.a i.b=ao/\True))) (dx (N7 i.a i.b=ao/\True)))
def z1w (a:Bool->Prop) (b:Bool) (c:Q_ D) (d:Q_ D) (e:Int) (f:Int) (g:Int) (h:Bool) (j:Int) (k:Int) (l:Int) (m:Bool) (n:Q_ D) (p:Q_ D) (q:Int) (r:Int) (s:Int) (t:Bool) (u:Int) (v:Int) (w:Int) (x:Bool):Prop:=a b/\dl (aj 3 c)/\dl (aj 3 d)/\dl (ag [V.own 4,V.d (dI e),V.d (dI f),V.d (dI g),V.d (D.v (.bool h)),V.own 5,V.d (dI j),V.d (dI k),V.d (dI l),V.d (D.v (.bool m))] 138)/\dl (aj 3 n)/\dl (aj 3 p)/\dl (ag [V.own 1,V.d (dI q),V.d (dI r),V.d (dI s),V.d (D.v (.bool t)),V.own 2,V.d (dI u),V.d (dI v),V.d (dI w),V.d (D.v (.bool x))] 138)
def xFu (i:Ig):Prop:=
 dp (((ab zA i.v).length:Int) !=((ab zA i.w).length:Int)) (dx (Iv i.v i.w=ao/\True)) (∃(a:Nat),(a:Int)=0/\∃(b:Nat->Prop),∃(c:Nat->Nat),b a/\∀(d:Nat),b d->dp (decide ((d:Int)<((ab zA i.v).length:Int))) ((0<=(d:Int)/\(d:Int)<((ab zA i.v).length:Int))/\∃(e:Q_ D),∃(f:Int),∃(g:Int),∃(h:Int),∃(j:Bool),∃(k:Q_ D),∃(l:Int),∃(m:Int),∃(n:Int),∃(p:Bool),zD (ab zA i.v) (d:Int).toNat 0 10=au [D.ro 3 e,dI f,dI g,dI h,D.v (.bool j),D.ro 3 k,dI l,dI m,dI n,D.v (.bool p)]/\(0<=(d:Int)/\(d:Int)<((ab zA i.w).length:Int))/\∃(q:Q_ D),∃(r:Int),∃(s:Int),∃(t:Int),∃(u:Bool),∃(v:Q_ D),∃(w:Int),∃(x:Int),∃(y:Int),∃(z:Bool),zD (ab zA i.w) (d:Int).toNat 0 10=au [D.ro 3 q,dI r,dI s,dI t,D.v (.bool u),D.ro 3 v,dI w,dI x,dI y,D.v (.bool z)]/\∃(lk:Bool),∃(lu:Bool->Prop),(∃(jq:Rh),QN jq.a e f g h j (QN jq.b q r s t u ((jq.a.levels.length<=1099511627776/\jq.b.levels.length<=1099511627776)/\ff (dp (N7 jq.a jq.b) (∃(iR:Rh),QN iR.a k l m n p (QN iR.b v w x y z ((iR.a.levels.length<=1099511627776/\iR.b.levels.length<=1099511627776)/\ff (∃(qe:Bool),qe=!N7 iR.a iR.b/\z1w lu qe v q r s t u w x y z k e f g h j l m n p)))) (∃(iR:Bool),iR=!false/\z1w lu iR v q r s t u w x y z k e f g h j l m n p)))))/\∀(jq:Bool),lu jq->dp jq (dx (Iv i.v i.w=ao/\True)) (wG d b c)) (dx (Iv i.v i.w=ap/\True)))
def tZ (a:Ig):Prop:=(af a.v<=1099511627776/\∀(b:Sd×Sd),b∈a.v->qL b)/\af a.w<=1099511627776/\∀(b:Sd×Sd),b∈a.w->qL b
def yTd (i:Ig):Prop:=
 ∃(a:Ig),ab zA a.v=ab zA i.v/\ab zA a.w=ab zA i.w/\(tZ a)/\ff (dx (Iv i.v i.w=Iv a.v a.w/\True))
def yUu (i:IX):Prop:=
 True/\((ab zS i.d.out).length+1)*(56:Nat)<=(140737488355328:Nat)/\dx (i.d.seq+((1:Nat):Int)=ar.wrap (i.d.seq+1)/\ab zS (i.d.out++jY i.d.seq [i.m])=ab zS i.d.out++[[dI (ar.wrap (i.d.seq+1)),dI (i.m.inst:Int),dI i.m.side,dI i.m.l.dm,dI i.m.l.dr,dI i.m.l.count,D.v (.bool i.m.imp)]]/\True)
def jO (a:AG) (b:wz):=(a.d.out++jY a.d.seq b.M)
def rZ (a:AG):Prop:=ag [V.own 4,V.d (dI a.b.imp.dm),V.d (dI a.b.imp.dr),V.d (dI a.b.imp.count),V.d (D.v (.bool a.b.has))] 137=ag [V.own 4,V.d (dI a.b.imp.dm),V.d (dI a.b.imp.dr),V.d (dI a.b.imp.count),V.d (D.v (.bool a.b.has))] 137/\dl (aj 3 (ab im a.b.levels))/\dl (ag [V.own 2,V.d (dI a.a.imp.dm),V.d (dI a.a.imp.dr),V.d (dI a.a.imp.count),V.d (D.v (.bool a.a.has))] 137)/\dl (aj 3 (ab im a.a.levels))
def zLf (a:AG) (b:wz):Prop:=ag [V.d (dI (a.d.seq+(b.M.length:Int))),V.own 7] (326:TypeId)=ag [V.d (dI (a.d.seq+(b.M.length:Int))),V.own 7] (326:TypeId)/\dl (am rM 7 (ab zS (jO a b)))/\rZ a
def tG (a:Bool->Prop) (b:Bool) (c:AG) (d:wz):Prop:=a b/\zLf c d
def zLb (a:AG) (b:Int) (c:Int) (d:Bool->Prop) (e:wz):Prop:=∃(f:I3),f.side=a.s/\f.x=b/\f.y=c/\True/\ff (∃(h:Bool),h=xK f.side f.x f.y/\tG d h a e)
def Wn (a:Bool->Prop) (b:AG) (c:wz):Prop:=∃(d:Bool),d=ap/\tG a d b c
def ZV (a:Lv->Prop) (b:Lv) (c:AG) (d:wz):Prop:=a b/\zLf c d
def zLo (a:wz->Prop) (b:wz) (c:wz->Nat) (d:wz) (e:AG):Prop:=a b/\c b<c d/\rZ e
def ZS (a:AG) (b:wz) (c:IX) (d:wz->Prop) (e:wz->Nat) (f:wz):Prop:=a.d.seq+(b.M.length:Int)=c.d.seq+((1:Nat):Int)/\ab zS (jO a b)=ab zS (c.d.out++jY c.d.seq [c.m])/\zLo d b e f a
def ZT (a:tg->Prop) (b:tg) (c:AG):Prop:=a b/\rZ c
def nZ (a:IX):Prop:=(-4611686018427387904)<=a.d.seq/\a.d.seq+((1:Nat):Int)<=4611686018427387904/\a.d.out.length+(1:Nat)<=(1000000000:Nat)
def bM (a:wz):=((ab im a.y).length:Int)
def c9 (a:wz):Prop:=(0:Int)<=(0:Int)/\0<(bM a)
def fT (a:wz):=((ab im a.x).length:Int)
def nM (a:wz):Prop:=(0:Int)<=(0:Int)/\0<(fT a)
def bQ (a:AG):=(a.d.out++jY a.d.seq (xV a.n a.s a.a a.b))
def bJ (a:AG):=((xV a.n a.s a.a a.b).length:Int)
def yUs (i:AG):Prop:=
 ∃(a:wz),ab im a.x=ab im i.a.levels/\ab im a.y=ab im i.b.levels/\i.d.seq+(a.M.length:Int)=i.d.seq/\ab zS (jO i a)=ab zS i.d.out/\∃(b:wz->Prop),∃(c:wz->Nat),b a/\∀(d:wz),b d->dp (decide (ar.wrap ((fT d)+(bM d))>0)) (∃(e:Bool),∃(f:Bool->Prop),dp ((bM d)==0) (Wn f i d) (dp (decide ((fT d)>0)) ((nM d)/\∃(g:Int),zD (ab im d.x) (aq 0) 0 1=au [dI g]/\(c9 d)/\∃(h:Int),zD (ab im d.y) (aq 0) 0 1=au [dI h]/\zLb i g h f d) (∃(g:Bool),g=ao/\tG f g i d))/\∀(g:Bool),f g->dp g ((nM d)/\∃(h:Int),zD (ab im d.x) (aq 0) 0 1=au [dI h]/\∃(j:IX),(j.m.inst:Int)=(i.n:Int)/\j.m.side=i.s/\j.m.l.dm=h/\j.m.l.dr=0/\j.m.l.count=0/\j.m.imp=ao/\j.d.seq=i.d.seq+(d.M.length:Int)/\ab zS j.d.out=ab zS (jO i d)/\(nZ j)/\ff (((0:Int)<=(1:Int)/\1<=(fT d))/\∃(l:wz),ab im l.x=ae (aq 1) (ab im d.x)/\ab im l.y=ab im d.y/\ZS i l j b c d)) (∃(h:Bool),∃(j:Bool->Prop),dp ((fT d)==0) (Wn j i d) ((c9 d)/\∃(k:Int),zD (ab im d.y) (aq 0) 0 1=au [dI k]/\(nM d)/\∃(l:Int),zD (ab im d.x) (aq 0) 0 1=au [dI l]/\zLb i k l j d)/\∀(k:Bool),j k->dp k ((c9 d)/\∃(l:Int),∃(m:Int),∃(n:Int),zD (ab im d.y) (aq 0) 0 3=au [dI l,dI m,dI n]/\∃(p:IX),(p.m.inst:Int)=(i.n:Int)/\p.m.side=i.s/\p.m.l.dm=l/\p.m.l.dr=m/\p.m.l.count=n/\p.m.imp=ao/\p.d.seq=i.d.seq+(d.M.length:Int)/\ab zS p.d.out=ab zS (jO i d)/\(nZ p)/\ff (((0:Int)<=(1:Int)/\1<=(bM d))/\∃(r:wz),ab im r.x=ab im d.x/\ab im r.y=ae (aq 1) (ab im d.y)/\ZS i r p b c d)) (∃(l:tg),l.seq=i.d.seq+(d.M.length:Int)/\ab zS l.out=ab zS (jO i d)/\∃(m:tg->Prop),(∃(n:Bool),∃(p:Bool->Prop),((nM d)/\∃(q:Int),∃(r:Int),∃(s:Int),zD (ab im d.x) (aq 0) 0 3=au [dI q,dI r,dI s]/\(c9 d)/\∃(t:Int),∃(u:Int),∃(v:Int),zD (ab im d.y) (aq 0) 0 3=au [dI t,dI u,dI v]/\∃(w:Bool),w=!(q==t && (r==u && (s==v && ap)))/\p w/\dl (ag [V.d (dI l.seq),V.own 9] (326:TypeId))/\dl (am rM 7 (ab zS l.out))/\rZ i)/\∀(q:Bool),p q->dp q ((c9 d)/\∃(r:Int),∃(s:Int),∃(t:Int),zD (ab im d.y) (aq 0) 0 3=au [dI r,dI s,dI t]/\∃(u:IX),(u.m.inst:Int)=(i.n:Int)/\u.m.side=i.s/\u.m.l.dm=r/\u.m.l.dr=s/\u.m.l.count=t/\u.m.imp=ao/\u.d.seq=l.seq/\ab zS u.d.out=ab zS l.out/\(nZ u)/\ff (∃(w:tg),w.seq=u.d.seq+((1:Nat):Int)/\ab zS w.out=ab zS (u.d.out++jY u.d.seq [u.m])/\ZT m w i)) (∃(r:tg),r.seq=l.seq/\ab zS r.out=ab zS l.out/\ZT m r i))/\∀(n:tg),m n->((0:Int)<=(1:Int)/\1<=(fT d))/\((0:Int)<=(1:Int)/\1<=(bM d))/\∃(p:wz),ab im p.x=ae (aq 1) (ab im d.x)/\ab im p.y=ae (aq 1) (ab im d.y)/\i.d.seq+(p.M.length:Int)=n.seq/\ab zS (jO i p)=ab zS n.out/\zLo b p c d i))) (∃(e:Bool),∃(f:Bool->Prop),dp (!(i.a.imp.dm==i.b.imp.dm && (i.a.imp.dr==i.b.imp.dr && (i.a.imp.count==i.b.imp.count && ap)))) (Wn f i d) (∃(g:Bool),g=!i.a.has==i.b.has/\tG f g i d)/\∀(g:Bool),f g->dp g (∃(h:Lv),h.dm=i.b.imp.dm/\h.dr=i.b.imp.dr/\h.count=i.b.imp.count/\∃(j:Lv->Prop),dp (!i.b.has) (∃(k:Lv),k.dm=0/\k.dr=0/\k.count=0/\ZV j k i d) (∃(k:Lv),k.dm=h.dm/\k.dr=h.dr/\k.count=h.count/\ZV j k i d)/\∀(k:Lv),j k->∃(l:IX),(l.m.inst:Int)=(i.n:Int)/\l.m.side=i.s/\l.m.l.dm=k.dm/\l.m.l.dr=k.dr/\l.m.l.count=k.count/\l.m.imp=ap/\l.d.seq=i.d.seq+(d.M.length:Int)/\ab zS l.d.out=ab zS (jO i d)/\(nZ l)/\ff (dx (i.d.seq+(bJ i)=l.d.seq+((1:Nat):Int)/\ab zS (bQ i)=ab zS (l.d.out++jY l.d.seq [l.m])/\True))) (dx (i.d.seq+(bJ i)=i.d.seq+(d.M.length:Int)/\ab zS (bQ i)=ab zS (jO i d)/\True)))
def Z0 (a:AG):Prop:=(-4611686018427387904)<=a.d.seq/\a.d.seq+((a.a.levels.length+a.b.levels.length+1):Int)<=4611686018427387904/\a.d.out.length+(a.a.levels.length+a.b.levels.length+1)<=1000000000
def sX (a:Kv) (b:Nat):=([]++jY a.seq (xN 0 (ac b a.v) (ac b a.w)))
def Wj (a:Nat) (b:Kv):=((xN 0 (ac a b.v) (ac a b.w)).length:Int)
def rX (a:Kv):=((ab zA a.v).length:Int)
def y4j (i:Kv):Prop:=
 dp ((rX i) !=((ab zA i.w).length:Int)) (dx (ab zS (jY i.seq (xN 0 i.v i.w))=[]/\True)) (∃(a:Nat),(a:Int)=0/\i.seq+(Wj a i)=i.seq/\ab zS (sX i a)=[]/\∃(b:Nat->Prop),∃(c:Nat->Nat),b a/\∀(d:Nat),b d->dp (decide ((d:Int)<(rX i))) (((0:Int)<=(0:Int)/\0<((2:Nat):Int))/\∃(e:Int),zD [[dI 1],[dI 2]] (aq 0) 0 1=au [dI e]/\(0<=(d:Int)/\(d:Int)<(rX i))/\∃(f:Q_ D),∃(g:Int),∃(h:Int),∃(j:Int),∃(k:Bool),zD (ab zA i.v) (d:Int).toNat 0 5=au [D.ro 3 f,dI g,dI h,dI j,D.v (.bool k)]/\(0<=(d:Int)/\(d:Int)<((ab zA i.w).length:Int))/\∃(l:Q_ D),∃(m:Int),∃(n:Int),∃(p:Int),∃(q:Bool),zD (ab zA i.w) (d:Int).toNat 0 5=au [D.ro 3 l,dI m,dI n,dI p,D.v (.bool q)]/\∃(r:AG),(r.n:Int)=(d:Int)/\r.s=e/\QN r.a f g h j k (QN r.b l m n p q (r.d.seq=i.seq+(Wj d i)/\ab zS r.d.out=ab zS (sX i d)/\(Z0 r)/\ff ((gN)/\∃(t:Int),zD [[dI 1],[dI 2]] (ar.wrap ((0:Int)+(1:Int))).toNat 0 1=au [dI t]/\(0<=(d:Int)/\(d:Int)<(rX i))/\∃(u:Q_ D),∃(v:Int),∃(w:Int),∃(x:Int),∃(y:Bool),zD (ab zA i.v) (d:Int).toNat 5 5=au [D.ro 3 u,dI v,dI w,dI x,D.v (.bool y)]/\(0<=(d:Int)/\(d:Int)<((ab zA i.w).length:Int))/\∃(z:Q_ D),∃(lk:Int),∃(lu:Int),∃(jq:Int),∃(oQ:Bool),zD (ab zA i.w) (d:Int).toNat 5 5=au [D.ro 3 z,dI lk,dI lu,dI jq,D.v (.bool oQ)]/\∃(iR:AG),(iR.n:Int)=(d:Int)/\iR.s=t/\QN iR.a u v w x y (QN iR.b z lk lu jq oQ (iR.d.seq=r.d.seq+(bJ r)/\ab zS iR.d.out=ab zS (bQ r)/\(Z0 iR)/\ff (∃(qe:Nat),(qe:Int)=ar.wrap ((d:Int)+1)/\i.seq+(Wj qe i)=iR.d.seq+(bJ iR)/\ab zS (sX i qe)=ab zS (bQ iR)/\b qe/\c qe<c d/\dl (ag [V.own 2] 59)/\dl (aj 10 (ab zA i.w))/\dl (ag [V.own 0] 59)/\dl (aj 10 (ab zA i.v))))))))) (dx (ab zS (jY i.seq (xN 0 i.v i.w))=ab zS (sX i d)/\True)))
def zLw (a:gi):Prop:=ag [V.d (dI a.seq),V.d (dI a.inst),V.d (dI a.side),V.d (dI a.dm),V.d (dI a.dr),V.d (dI a.count),V.d (D.v (.bool a.gg))] 51=ag [V.d (dI a.seq),V.d (dI a.inst),V.d (dI a.side),V.d (dI a.dm),V.d (dI a.dr),V.d (dI a.count),V.d (D.v (.bool a.gg))] 51
def zKz (a:Int->Prop) (b:Int) (c:WN) (d:gi):Prop:=a b/\dl (ak i4 2 ku (c.l++le c.n 8))/\zLw d
def V9 (a:Bool->Prop) (b:Bool) (c:gi):Prop:=a b/\zLw c
def zLx (a:Bool->Prop) (b:gi):Prop:=∃(c:Bool),c=ap/\V9 a c b
@[reducible] def Kt (a b:WN)(R:Prop):Prop:=ak i4 2 ku a.l=ak i4 2 ku (b.l++[iY b.n])/\a.ok/\R
def y1w (m:gi):Prop:=
 ∃(a:Bool),∃(b:Bool->Prop),dp (decide (m.inst<0)) (zLx b m) (dp (decide (m.inst>255)) (zLx b m) (dp (m.side !=1) (∃(c:Bool),c=(m.side !=2)/\V9 b c m) (∃(c:Bool),c=ao/\V9 b c m)))/\∀(c:Bool),b c->dp c (dx (bE m.enc=[]/\m.form=12/\True)) (dx (True/\ff (∃(f:WN),f.n=m.seq/\OZ f (ff (∃(h:WN),h.n=m.inst/\DG h f (ff (∃(k:WN),k.n=m.side/\Kt k h (ff (∃(n:WN),n.n=m.dm/\Kt n k (ff (∃(q:WN),q.n=m.dr/\DG q n (ff (∃(s:WN),s.n=m.count/\DG s q (ff (∃(u:Int),∃(v:Int->Prop),dp m.gg (∃(w:Int),w=1/\zKz v w s m) (∃(w:Int),w=0/\zKz v w s m)/\∀(w:Int),v w->∃(x:WN),x.n=w/\DG x s (ff (∃(z:i4),ak i4 2 ku z=ak i4 2 ku (x.l++[iY x.n])/\z.length<=1099511627776/\ff (dx (bE m.enc=bE z/\m.form=0/\True)))))))))))))))))))
def zRm {l:List Quote} {k:Nat} {q:Quote} (b:Quote) (h:l[k]? =au q):cT (l.take (k+1)) b=if q.dm=b.dm then(if q.dr>(cT (l.take k) b).1 then q.dr else(cT (l.take k) b).1,(cT (l.take k) b).2+1)else cT (l.take k) b:=by
 rw[cT,qq,h,Bt,Iz,A7,List.foldl_nil];rfl
def z7o (b:Quote) (l:List Quote):∀k,k<=l.length->0<=(cT (l.take k) b).2/\(cT (l.take k) b).2<=k
 |0,_=>⟨by rw[EU];exact yl 0,by rw[EU];exact yl 0⟩
 |k+1,h=>by
  obtain⟨q,hq⟩:=zZ (l:=l) (i:=k) oM;have:=z7o b l k oM;rw[zRm b hq];split
  ·dsimp only;constructor<;>omega
  ·constructor<;>omega
def xBm (i:Ab) (h:KF.dp i):y2b i:=by
 obtain⟨hs,hl⟩:(i.s=1\/i.s=2)/\i.l.length<=1000000:=h;have uk:(i.l.map zL).length=i.l.length:=ia _;unfold y2b ff dx kT Z4 dO u9 dI;rw[uk];refine⟨i,rfl,rfl,⟨hs,hl⟩,λ_ _=>Cv.dp.mk (λc=> ?_) (λc=> ?_)⟩
 ·have e:kB i.l i.s=(⟨0,0,0⟩,ao):=by rw[kB,ez (i9 c)]
  rw[e];exact⟨(),gn⟩
 have e:kB i.l i.s=(⟨(z6 i.l i.s).1.dm,(cT i.l (z6 i.l i.s).1).1,(cT i.l (z6 i.l i.s).1).2⟩,ap):=by rw[kB,fh (i9 c)]
 rw[e];generalize (z6 i.l i.s).1=b;refine⟨0,iA ⟨rfl,λk=>k<=i.l.length,λk=>i.l.length-k,mn _,λk hk=>zG (λgu=> ?_) (λgu=> ?_)⟩⟩
 ·obtain⟨q,hq⟩:=zZ (l:=i.l) (i:=k) oM;have st:=zRm b hq;have bd:=z7o b i.l k hk;have hk:k<=i.l.length:=hk;refine⟨⟨oM,oM⟩,q.dm,q.dr,q.a.inst,q.a.side,q.b.inst,q.b.side,jz hq (by simp[zL]) rfl,Cv.dp.mk (λe=>⟨k+1,?_⟩) (λe=>⟨k+1,?_⟩)⟩
  ·rw[st,fh (i9 e)];exact⟨rfl,by dsimp only;rw[iw (by omega)],qu oM,sy ⟨rfl,Z9,Z9,trivial⟩⟩
  ·rw[st,ez (i9 e)];exact⟨rfl,rfl,qu oM,sy ⟨rfl,Z9,Z9,trivial⟩⟩
 ·have hk:k<=i.l.length:=hk;obtain rfl:k=i.l.length:=by omega
  rw[At];exact⟨(),gn⟩
def yGp:KF.ok Tryz.prog 81:=gx mixed (dw z6i fk) 0 i6 (λi=>xAt i) [] Tryz.func81 xBm
def dN (p:fj) (B:Q_ zJ):(yK p B).length=p.count:=by rw[yK,ia,Rv]
def zWj (p:fj) (B:Q_ zJ) {j:Nat} (h:j<p.count):(yK p B)[j]? =au (cX p B j 1,cX p B j 2):=by
 rw[yK,qt,J6 h];rfl
def xCp (i:Fp) (h:Gc.dp i):y2c i:=by
 obtain⟨hR,hB⟩:i.s.ga i.p i.B/\jh i.p i.B:=h;have wv:=y7 i.p;have zz:=hB.bl;have BQ:i.s.ob:=hR.Fl oM;have ss:uB (i.B.map qC):=hB.fm;have OP:=dN i.p i.B;unfold y2c Qb ff dx gS UU Qb ff gN bH kK o8 gI dO gD om qN zV o8 dI;refine⟨i.p,oL (iM ⟨rfl,hB.ps,λ_ _=>Cv.dp.mk (λc=>absurd hB.pc (i9 c)) (λ_=>⟨i.s,rfl,BQ,λ_ _=>⟨i.p,oL (iM ⟨rfl,hB.ps,λ_ _=>⟨0,rfl,rfl,by rw[hR.fm],λj=>j<=i.p.count,λj=>i.p.count-j,mn _,λj hj=>zG (λgu=> ?_) (λgu=> ?_)⟩⟩)⟩⟩)⟩)⟩
 ·have gu:j<i.p.count:=by omega
  have ta:CO i.B (j:Int)=i.B.getD j []:=by rw[CO,ez (by omega),ot]
  have hq:∀s,(xR ⟨i.p,i.B.map qC,j⟩ s).length<=1000000:=λs=>tm (zAz _ _) Z8
  refine⟨⟨Z8,Z8⟩,1,rfl,⟨i.s,i.p,i.B,j,ao⟩,rfl,rfl,rfl,⟨hR,Z9⟩,λ_ _=>⟨⟨⟨i.p,i.B.map qC,j⟩,ao⟩,iA (sy ⟨rfl,⟨hB.ps,ss⟩,λ_ _=>⟨⟨xR ⟨i.p,i.B.map qC,j⟩ 1,1⟩,rfl,rfl,⟨.inl rfl,hq 1⟩,λ_ _=>⟨⟨Z8,Z8⟩,2,rfl,⟨i.s,i.p,i.B,j,ap⟩,rfl,rfl,rfl,⟨hR,Z9⟩,λ_ _=>⟨⟨⟨i.p,i.B.map qC,j⟩,ap⟩,iA (sy ⟨rfl,⟨hB.ps,ss⟩,λ_ _=>⟨⟨xR ⟨i.p,i.B.map qC,j⟩ 2,2⟩,rfl,rfl,⟨.inr rfl,hq 2⟩,λ_ _=>⟨?_,j+1,qu oM,?_,rfl,Z9,Z9,rfl,gn⟩⟩⟩)⟩⟩⟩⟩)⟩⟩
  ·rw[ia,nn];omega
  ·rw[qq,zWj i.p i.B gu,Bt,jk,jf,Bs];dsimp only;rw[ta];rfl
 ·have hj:j<=i.p.count:=hj;rw[mz (by omega)];exact⟨(),gn⟩
def Jo:Gc.ok Tryz.prog 26:=gx mixed (dw pG (dw yGo (dw dU (dw yEc (dw zMl (dw yGp fk)))))) 1 i6 (λi=>y3k i) [] Tryz.func26 xCp
def zZg {α:Type} {x y:List α} {k:Nat} {a b:α} (ha:x[k]? =au a) (hb:y[k]? =au b) (h:x.take k=y.take k) (e:a=b):x.take (k+1)=y.take (k+1):=by rw[qq,qq,h,ha,hb,e]
def P7 (a b:Lv):(a.dm==b.dm && (a.dr==b.dr && (a.count==b.count && ap)))=decide (a=b):=by
 rw[CF,decide_eq_true_iff];obtain⟨p,q,c⟩:=a;obtain⟨p2,q2,c2⟩:=b;simp
def xDj (i:Xy) (h:K8.dp i):y3c i:=by
 obtain⟨hx,hy⟩:i.x.length<=1099511627776/\i.y.length<=1099511627776:=h;have Fe:(i.x.map im).length=i.x.length:=ia _;have Sg:(i.y.map im).length=i.y.length:=ia _;unfold y3c dx wG kL QO dI;rw[Fe,Sg];refine Cv.dp.mk (λc=>⟨(),jv (λe=>by rw[e]at c;simp at c),trivial⟩) (λc=> ?_);have XX:i.x.length=i.y.length:=by have:(i.x.length:Int)=i.y.length:=(i9 c);omega
 refine⟨0,rfl,λk=>k<=i.x.length/\i.x.take k=i.y.take k,λk=>i.x.length-k,⟨mn _,rfl⟩,λk hk=>zG (λe=> ?_) (λe=> ?_)⟩
 ·obtain⟨Ay,oY⟩:=hk;obtain⟨a,ha⟩:=zZ (l:=i.x) (i:=k) oM;obtain⟨b,hb⟩:=zZ (l:=i.y) (i:=k) oM;refine⟨ao,λt=>t= !decide (a=b),⟨⟨oM,oM⟩,a.dm,a.dr,a.count,jz ha (by simp[im]) rfl,⟨oM,oM⟩,b.dm,b.dr,b.count,jz hb (by simp[im]) rfl,_,rfl,?_,trivial⟩,?_⟩
  ·rw[P7 a b]
  ·rintro _ rfl;refine Cv.dp.mk (λc=>⟨(),jv (λe2=> ?_),trivial⟩) (λc=>⟨k+1,by rw[iw (by omega)];rfl,⟨oM,zZg ha hb oY (i9 c)⟩,Z9,trivial⟩);have c:a≠b:=i9 c
   rw[e2]at ha;rw[ha]at hb;exact c (Option.some.inj hb)
 ·obtain⟨Ay,oY⟩:=hk;rw[mz (by omega),mz (by omega)]at oY;exact⟨(),jo oY,trivial⟩
def yZy:K8.ok Tryz.prog 152:=gx mixed fk 0 (λ_=>xGb) (λ_=>xDe) [] Tryz.func152 xDj
def xHu (i:Rh) (h:Ty.dp i):xFa i:=by
 obtain⟨⟨al,ai,ah⟩,⟨bl,bi,bh⟩⟩:=i;obtain⟨ha,hb⟩:al.length<=1099511627776/\bl.length<=1099511627776:=h;unfold xFa ff dx;refine⟨⟨al,bl⟩,rfl,rfl,⟨ha,hb⟩,λ_ _=>zG (λe=> ?_) (λe=>⟨(),jv (λx=>e (congrArg Sd.levels x)),trivial⟩)⟩;dsimp only;rw[P7];refine zG (λe2=>⟨(),?_,trivial⟩) (λe2=>⟨(),jv (λx=>e2 (congrArg Sd.imp x)),trivial⟩);have e:al=bl:=e;have e2:ai=bi:=e2;subst e e2;show decide ((⟨al,ai,ah⟩:Sd)=⟨al,ai,bh⟩)=(ah==bh);rw[CF,decide_eq_true_iff,Ix];exact⟨λx=>congrArg Sd.has x,λx=>by have x:ah=bh:=x;rw[x]⟩
def y8e:Ty.ok Tryz.prog 76:=gx mixed (dw yZy fk) 0 i6 i6 [] Tryz.func76 xHu
def N8 {v:Vw} {k:Nat} {b:Sd×Sd} (h:v[k]? =au b):zD (v.map zA) k 0 10=au [D.ro 3 (b.1.levels.map im),.v (.int .i64 b.1.imp.dm),.v (.int .i64 b.1.imp.dr),.v (.int .i64 b.1.imp.count),.v (.bool b.1.has),.ro 3 (b.2.levels.map im),.v (.int .i64 b.2.imp.dm),.v (.int .i64 b.2.imp.dr),.v (.int .i64 b.2.imp.count),.v (.bool b.2.has)]/\
 zD (v.map zA) k 0 5=au [D.ro 3 (b.1.levels.map im),.v (.int .i64 b.1.imp.dm),.v (.int .i64 b.1.imp.dr),.v (.int .i64 b.1.imp.count),.v (.bool b.1.has)]/\
 zD (v.map zA) k 5 5=au [D.ro 3 (b.2.levels.map im),.v (.int .i64 b.2.imp.dm),.v (.int .i64 b.2.imp.dr),.v (.int .i64 b.2.imp.count),.v (.bool b.2.has)]:=
 ⟨jz h (by simp[zA]) rfl,jz h (by simp[zA]) rfl,jz h (by simp[zA]) rfl⟩
def xHc (i:Ig) (h:TD.dp i):xFu i:=by
 obtain⟨⟨hv,hvs⟩,⟨hw,hws⟩⟩:xZ i.v/\xZ i.w:=h;have Fe:(i.v.map zA).length=i.v.length:=ia _;have Sg:(i.w.map zA).length=i.w.length:=ia _;unfold xFu QN ff dx wG kL QO z1w dI;rw[Fe,Sg];refine Cv.dp.mk (λc=>⟨(),jv (λe=>by rw[e]at c;simp at c),trivial⟩) (λc=> ?_);have XX:i.v.length=i.w.length:=by have:(i.v.length:Int)=i.w.length:=(i9 c);omega
 refine⟨0,rfl,λk=>k<=i.v.length/\i.v.take k=i.w.take k,λk=>i.v.length-k,⟨mn _,rfl⟩,λk hk=>zG (λe=> ?_) (λe=> ?_)⟩
 ·obtain⟨Ay,oY⟩:=hk;obtain⟨a,ha⟩:=zZ (l:=i.v) (i:=k) oM;obtain⟨b,hb⟩:=zZ (l:=i.w) (i:=k) oM;have sa:=hvs a (lh ha);have sb:=hws b (lh hb);refine⟨⟨oM,oM⟩,_,_,_,_,_,_,_,_,_,_,(N8 ha).1,⟨oM,oM⟩,_,_,_,_,_,_,_,_,_,_,(N8 hb).1,ao,λt=>t= !decide (a=b),⟨⟨a.1,b.1⟩,nr (iM ⟨rfl,⟨sa.1,sb.1⟩,λ_ _=>zG (λe1=>⟨⟨a.2,b.2⟩,nr (iM ⟨rfl,⟨sa.2,sb.2⟩,λ_ _=>⟨_,rfl,?_,gn⟩⟩)⟩) (λe1=>⟨_,rfl,?_,gn⟩)⟩)⟩,?_⟩
  ·show(!decide (a.2=b.2))= !decide (a=b);rw[CF,Dp,Dp,decide_eq_false_iff_not,decide_eq_false_iff_not];exact⟨λx y=>x (by rw[y]),λx y=>x (Prod.ext e1 y)⟩
  ·have e1:¬a.1=b.1:=e1;rw[jv λx=>e1 (congrArg Prod.fst x)]
  ·rintro _ rfl;refine Cv.dp.mk (λc=>⟨(),jv (λe2=> ?_),trivial⟩) (λc=>⟨k+1,by rw[iw (by omega)];rfl,⟨oM,zZg ha hb oY (i9 c)⟩,Z9,trivial⟩);have c:a≠b:=i9 c
   rw[e2]at ha;rw[ha]at hb;exact c (Option.some.inj hb)
 ·obtain⟨Ay,oY⟩:=hk;rw[mz (by omega),mz (by omega)]at oY;exact⟨(),jo oY,trivial⟩
def y9x:TD.ok Tryz.prog 74:=gx mixed (dw y8e fk) 1 (λ_=>xIb) (λ_=>xHn) [] Tryz.func74 xHc
def y9s (i:Ig) (h:C7.dp i):yTd i:=by
 unfold yTd ff dx tZ qL;exact⟨i,rfl,rfl,h,λ_ _=>⟨(),rfl,trivial⟩⟩
def Hj:C7.ok Tryz.prog 24:=gx mixed (dw y9x fk) 0 i6 i6 [] Tryz.func24 y9s
def Zf (q:Int):∀(A B:List VM),jY q (A++B)=jY q A++jY (q+A.length) B
 |[],B=>by simp[jY]
 |a::A,B=>by
  rw[uh,jY,jY,Zf,iF,uh];congr 3;omega
def UN (d:tg) (A B:List VM):(d.add A).add B=d.add (A++B):=by
 rw[tg.add,tg.add,tg.add,Zf,iv,jd];congr 1;dsimp only;omega
def y7w (i:IX) (h:GR.dp i):yUu i:=by
 obtain⟨h1,h2,h3⟩:i.d.ok 1:=h;unfold yUu dx dI;have e:ar.wrap (i.d.seq+1)=i.d.seq+1:=iw oM;rw[e];exact⟨trivial,by rw[ia];omega,(),rfl,by rw[jk];rfl,trivial⟩
def yPf:GR.ok Tryz.prog 250:=gx mixed fk 0 i6 i6 [] Tryz.func250 y7w
def rV {s:Int}:∀(k:Nat) (X Y:List Lv),(qA s k X Y).length<=k
 |0,X,Y=>by rw[qA];exact ju 0
 |k+1,[],[]=>by rw[qA];exact mn _
 |k+1,x::X,[]=>by rw[qA,iF];have:=rV (s:=s) k X [];omega
 |k+1,[],y::Y=>by rw[qA,iF];have:=rV (s:=s) k [] Y;omega
 |k+1,x::X,y::Y=>by
  have h1:=rV (s:=s) k X (y::Y);have h2:=rV (s:=s) k (x::X) Y;have h3:=rV (s:=s) k X Y;rw[qA];split
  ·rw[iF];omega
  split
  ·rw[iF];omega
  rw[iv];split
  ·simp only[tz];omega
  ·simp only[Ba];omega
def z8y (n:Nat) (s:Int) (a b:Sd):(xV n s a b).length<=a.levels.length+b.levels.length+1:=by
 have:=rV (s:=s) (a.levels.length+b.levels.length) a.levels b.levels;rw[xV,iv,ia];split
 ·rw[Ba];omega
 ·simp only[tz];omega
def z1r:∀(n j:Nat) {v w:Vw} {a b:Sd×Sd},v[j]? =au a->w[j]? =au b->xN n (v.take (j+1)) (w.take (j+1))=xN n (v.take j) (w.take j)++(xV (n+j) 1 a.1 b.1++xV (n+j) 2 a.2 b.2)
 |n,0,x::v,y::w,a,b,h1,h2=>by
  obtain rfl:x=a:=i9 h1
  obtain rfl:y=b:=i9 h2
  simp[xN]
 |n,j+1,x::v,y::w,a,b,h1,h2=>by
  have:=z1r (n+1) j (v:=v) (w:=w) (a:=a) (b:=b) (i9 h1) (i9 h2);rw[u',u',u',u',xN,xN,this,jd,jd,jd,Dh n 1 j,HA 1 j]
 |_,0,[],_,_,_,h1,_=>by simp at h1
 |_,j+1,[],_,_,_,h1,_=>by simp at h1
 |_,0,_::_,[],_,_,_,h2=>by simp at h2
 |_,j+1,_::_,[],_,_,_,h2=>by simp at h2
def V2 {v:Vw} {j:Nat} {a:Sd×Sd} (h:v[j]? =au a):Vw.oO (v.take (j+1))=Vw.oO (v.take j)+(a.1.levels.length+a.2.levels.length):=by
 rw[Vw.oO,Vw.oO,qq,h,Bt,jk,J0];simp
def yDt (v:Vw) (j:Nat):Vw.oO (v.take j)<=Vw.oO v:=by
 conv=>rhs;rw[<- Bb j v]
 rw[Vw.oO,Vw.oO,jk,J0];omega
def Xu (v w:Vw):∀j,j<=v.length->j<=w.length->(xN 0 (v.take j) (w.take j)).length<=Vw.oO (v.take j)+Vw.oO (w.take j)+2*j
 |0,_,_=>by rw[EU,xN];exact mn _;simp
 |j+1,h1,h2=>by
  obtain⟨a,ha⟩:=zZ (l:=v) (i:=j) oM;obtain⟨b,hb⟩:=zZ (l:=w) (i:=j) oM;have:=Xu v w j oM oM;have s1:=z8y (0+j) 1 a.1 b.1;have s2:=z8y (0+j) 2 a.2 b.2;rw[z1r 0 j ha hb,V2 ha,V2 hb,iv,iv];omega
def sZ (q:Int):∀M:List VM,(jY q M).length=M.length
 |[]=>rfl
 |m::M=>by rw[jY,iF,sZ,iF]
def Oy (q:Int) (M:List VM) (m:VM):q+((M++[m]).length:Nat)=q+(M.length:Nat)+((1:Nat):Int):=by
 rw[iv,Ba];omega
def Ox (o:List gi) (q:Int) (M:List VM) (m:VM):(o++jY q (M++[m])).map zS=((o++jY q M)++jY (q+(M.length:Nat)) [m]).map zS:=by rw[Zf,jd]
def Ej (x:Lv) (X:List Lv):zD ((x::X).map im) 0 0 1=au [D.v (.int .i64 x.dm)]/\zD ((x::X).map im) 0 0 3=au [D.v (.int .i64 x.dm),.v (.int .i64 x.dr),.v (.int .i64 x.count)]:=⟨rfl,rfl⟩
def yPt (s:Int) (k:Nat):qA s k [] []=[]:=by cases k<;>rw[qA]
def y9k (i:AG) (h:GS.dp i):yUs i:=by
 obtain⟨d,n,s,⟨al,ai,ah⟩,⟨bl,bi,bh⟩⟩:=i;obtain⟨h1,h2,h3⟩:tg.ok d (al.length+bl.length+1):=h;unfold yUs ff dx ZT ZS zLo ZV Wn zLb ff tG zLf rZ jO bJ bQ nM fT c9 bM nZ dI;refine⟨⟨al,bl,[]⟩,rfl,rfl,by simp,by simp[jY],λj=>∃k,j.x.length+j.y.length<=k/\(qA s (al.length+bl.length) al bl).map (λl=>(⟨n,s,l,ao⟩:VM))=j.M++(qA s k j.x j.y).map (λl=>(⟨n,s,l,ao⟩:VM))/\k+j.M.length<=al.length+bl.length,λj=>j.x.length+j.y.length,⟨al.length+bl.length,ju _,rfl,ju _⟩,?_⟩;rintro⟨x,y,M⟩ ⟨k,hk,hM,hl⟩;dsimp only at hk hM hl ⊢;have hx:(x.map im).length=x.length:=ia _;have hy:(y.map im).length=y.length:=ia _;have OC:tg.ok ⟨d.seq+(M.length:Nat),d.out++jY d.seq M⟩ 1:=⟨Z9,Z9,by dsimp only;rw[iv,sZ];omega⟩
 rw[hx,hy,iw (by omega)];refine zG (λc=> ?_) (λc=> ?_)
 ·obtain⟨k',rfl⟩:∃k',k=k'+1:=⟨k-1,oM⟩
  rcases x with _|⟨a,X⟩
  ·rcases y with _|⟨b,Y⟩
   ·exact absurd c (by simp)
   refine⟨ao,λt=>t=ao,Cv.dp.mk (λe=> ?_) (λ_=>Cv.dp.mk (λe=>absurd e (by simp)) (λ_=>⟨ao,rfl,rfl,gn⟩)),?_⟩
   ·exfalso;simp at e;omega
   rintro _ rfl;refine Cv.dp.mk (λc=>absurd c Z8) (λ_=>⟨ao,λt=>t=ap,Cv.dp.mk (λ_=>⟨ap,rfl,rfl,gn⟩) (λe=>absurd e (by simp)),?_⟩);rintro _ rfl;refine Cv.dp.mk (λ_=> ?_) (λc=>absurd c Z8);rw[iF]at hk;refine⟨⟨Z8,by rw[iF];omega⟩,b.dm,b.dr,b.count,(Ej b Y).2,⟨_,⟨n,s,b,ao⟩⟩,rfl,rfl,rfl,rfl,rfl,rfl,rfl,rfl,OC,λ_ _=>⟨⟨Z8,by rw[iF];omega⟩,⟨[],Y,M++[⟨n,s,b,ao⟩]⟩,rfl,rfl,Oy _ _ _,Ox _ _ _ _,⟨k',Z9,?_,by dsimp only;rw[iv,Ba];omega⟩,by dsimp only;rw[iF];omega,gn⟩⟩;rw[hM,qA,jf,jd];rfl
  rcases y with _|⟨b,Y⟩
  ·refine⟨ao,λt=>t=ap,Cv.dp.mk (λ_=>⟨ap,rfl,rfl,gn⟩) (λe=>absurd e (by simp)),?_⟩;rintro _ rfl;refine Cv.dp.mk (λ_=> ?_) (λc=>absurd c Z8);rw[iF]at hk;refine⟨⟨Z8,by rw[iF];omega⟩,a.dm,(Ej a X).1,⟨_,⟨n,s,⟨a.dm,0,0⟩,ao⟩⟩,rfl,rfl,rfl,rfl,rfl,rfl,rfl,rfl,OC,λ_ _=>⟨⟨Z8,by rw[iF];omega⟩,⟨X,[],M++[⟨n,s,⟨a.dm,0,0⟩,ao⟩]⟩,rfl,rfl,Oy _ _ _,Ox _ _ _ _,⟨k',by dsimp only;simp only[tz]at hk ⊢;omega,?_,by dsimp only;rw[iv,Ba];omega⟩,by dsimp only;rw[iF];omega,gn⟩⟩;rw[hM,qA,jf,jd];rfl
  rw[iF,iF]at hk;have la:(0:Int)<=0/\(0:Int)<((a::X).length:Nat):=⟨Z8,by rw[iF];omega⟩
  have lb:(0:Int)<=0/\(0:Int)<((b::Y).length:Nat):=⟨Z8,by rw[iF];omega⟩
  have la1:(0:Int)<=1/\(1:Int)<=((a::X).length:Nat):=⟨Z8,by rw[iF];omega⟩
  have lb1:(0:Int)<=1/\(1:Int)<=((b::Y).length:Nat):=⟨Z8,by rw[iF];omega⟩
  refine⟨ao,λt=>t=jl s a.dm b.dm,Cv.dp.mk (λe=> ?_) (λ_=>Cv.dp.mk (λ_=>⟨la,a.dm,(Ej a X).1,lb,b.dm,(Ej b Y).1,⟨s,a.dm,b.dm⟩,rfl,rfl,rfl,trivial,λ_ _=>⟨_,rfl,rfl,gn⟩⟩) (λe=> ?_)),?_⟩
  ·exfalso;simp at e;omega
  ·exfalso;simp at e
  rintro _ rfl;refine Cv.dp.mk (λc1=> ?_) (λc1=> ?_)
  ·refine⟨la,a.dm,(Ej a X).1,⟨_,⟨n,s,⟨a.dm,0,0⟩,ao⟩⟩,rfl,rfl,rfl,rfl,rfl,rfl,rfl,rfl,OC,λ_ _=>⟨la1,⟨X,b::Y,M++[⟨n,s,⟨a.dm,0,0⟩,ao⟩]⟩,rfl,rfl,Oy _ _ _,Ox _ _ _ _,⟨k',by dsimp only;rw[iF];omega,?_,by dsimp only;rw[iv,Ba];omega⟩,by dsimp only;rw[iF,iF];omega,gn⟩⟩;rw[hM,qA,fh c1,jf,jd];rfl
  have c1:¬jl s a.dm b.dm=ap:=by simp[c1]
  refine⟨ao,λt=>t=jl s b.dm a.dm,Cv.dp.mk (λe=> ?_) (λ_=>⟨lb,b.dm,(Ej b Y).1,la,a.dm,(Ej a X).1,⟨s,b.dm,a.dm⟩,rfl,rfl,rfl,trivial,λ_ _=>⟨_,rfl,rfl,gn⟩⟩),?_⟩
  ·exfalso;simp at e;omega
  rintro _ rfl;refine Cv.dp.mk (λc2=> ?_) (λc2=> ?_)
  ·refine⟨lb,b.dm,b.dr,b.count,(Ej b Y).2,⟨_,⟨n,s,b,ao⟩⟩,rfl,rfl,rfl,rfl,rfl,rfl,rfl,rfl,OC,λ_ _=>⟨lb1,⟨a::X,Y,M++[⟨n,s,b,ao⟩]⟩,rfl,rfl,Oy _ _ _,Ox _ _ _ _,⟨k',by dsimp only;rw[iF];omega,?_,by dsimp only;rw[iv,Ba];omega⟩,by dsimp only;rw[iF,iF];omega,gn⟩⟩;rw[hM,qA,ez c1,fh c2,jf,jd];rfl
  have c2:¬jl s b.dm a.dm=ap:=by simp[c2]
  by_cases Dx:a=b
  ·refine⟨⟨_,_⟩,rfl,rfl,λD=>D=⟨d.seq+(M.length:Nat),d.out++jY d.seq M⟩,⟨ao,λt=>t=ao,⟨la,a.dm,a.dr,a.count,(Ej a X).2,lb,b.dm,b.dr,b.count,(Ej b Y).2,_,rfl,by rw[P7,jo Dx];rfl,gn⟩,?_⟩,?_⟩
   ·rintro _ rfl;exact Cv.dp.mk (λc=>absurd c Z8) (λ_=>⟨_,rfl,rfl,rfl,gn⟩)
   rintro _ rfl;refine⟨la1,lb1,⟨X,Y,M⟩,iM ⟨rfl,⟨k',Z9,?_,Z9⟩,by dsimp only;rw[iF,iF];omega,gn⟩⟩;rw[hM,qA,ez c1,ez c2,fh Dx];rfl
  ·refine⟨⟨_,_⟩,rfl,rfl,λD=>D=tg.add ⟨d.seq+(M.length:Nat),d.out++jY d.seq M⟩ [⟨n,s,b,ao⟩],⟨ao,λt=>t=ap,⟨la,a.dm,a.dr,a.count,(Ej a X).2,lb,b.dm,b.dr,b.count,(Ej b Y).2,_,rfl,by rw[P7,jv Dx];rfl,gn⟩,?_⟩,?_⟩
   ·rintro _ rfl;exact Cv.dp.mk (λ_=>⟨lb,b.dm,b.dr,b.count,(Ej b Y).2,⟨_,⟨n,s,b,ao⟩⟩,rfl,rfl,rfl,rfl,rfl,rfl,rfl,rfl,OC,λ_ _=>⟨_,rfl,rfl,rfl,gn⟩⟩) (λc=>absurd c Z8)
   rintro _ rfl;refine⟨la1,lb1,⟨X,Y,M++[⟨n,s,b,ao⟩]⟩,rfl,rfl,Oy _ _ _,Ox _ _ _ _,⟨k',Z9,?_,by dsimp only;rw[iv,Ba];omega⟩,by dsimp only;rw[iF,iF];omega,gn⟩;rw[hM,qA,ez c1,ez c2,ez Dx,jk,jd];rfl
 obtain rfl:x=[]:=xq oM;obtain rfl:y=[]:=xq oM;rw[yPt,Bs,oJ]at hM;rw[P7];refine⟨ao,λt=>t=Iq ⟨al,ai,ah⟩ ⟨bl,bi,bh⟩,Cv.dp.mk (λe=>⟨ap,rfl,?_,gn⟩) (λe=>⟨_,rfl,?_,gn⟩),?_⟩
 ·have e:ai≠bi:=i9 e
  rw[Iq];simp[e]
 ·have e:ai=bi:=i9 e
  rw[Iq,e];cases ah<;>cases bh<;>simp
 rintro _ rfl;refine Cv.dp.mk (λe=>⟨bi,rfl,rfl,rfl,λl=>l=Cy ⟨bl,bi,bh⟩,Cv.dp.mk (λe2=>⟨BA,rfl,rfl,rfl,?_,gn⟩) (λe2=>⟨bi,rfl,rfl,rfl,?_,gn⟩),?_⟩) (λe=> ?_)
 ·rw[Cy,ez (i9 e2)]
 ·rw[Cy,fh (i9 e2)]
 ·rintro _ rfl;have Fa:xV n s ⟨al,ai,ah⟩ ⟨bl,bi,bh⟩=M++[⟨n,s,Cy ⟨bl,bi,bh⟩,ap⟩]:=by rw[xV,fh e,hM]
  rw[Fa];exact⟨⟨_,⟨n,s,Cy ⟨bl,bi,bh⟩,ap⟩⟩,rfl,rfl,rfl,rfl,rfl,rfl,rfl,rfl,OC,λ_ _=>⟨(),Oy _ _ _,Ox _ _ _ _,trivial⟩⟩
 ·have Fa:xV n s ⟨al,ai,ah⟩ ⟨bl,bi,bh⟩=M:=by rw[xV,ez (by simp[e]),hM,oJ]
  rw[Fa];exact⟨(),rfl,rfl,trivial⟩
def yTh:GS.ok Tryz.prog 205:=gx mixed (dw yPf (dw Z2 fk)) 0 (λ_=>xAq) (λi=>y6r i) [] Tryz.func205 y9k
def xDu (i:Kv) (h:K9.dp i):y4j i:=by
 obtain⟨hvw,⟨s1,s2⟩,l1,l2,hn⟩:i.v.length=i.w.length/\(-4000000000000000000<=i.seq/\i.seq<=4000000000000000000)/\Vw.oO i.v<=100000000/\Vw.oO i.w<=100000000/\i.v.length<=1000000:=h;have Fe:(i.v.map zA).length=i.v.length:=ia _;have Sg:(i.w.map zA).length=i.w.length:=ia _;unfold y4j QN ff dx gN bJ bQ rX Wj sX Z0 dI;rw[Fe,Sg];refine Cv.dp.mk (λc=> ?_) (λ_=> ?_)
 ·have c:(i.v.length:Int)≠i.w.length:=i9 c
  omega
 refine⟨0,rfl,by simp[xN],by simp[xN,jY],λj=>j<=i.v.length,λj=>i.v.length-j,mn _,λj hj=>zG (λe=> ?_) (λe=> ?_)⟩
 ·have hj:j<=i.v.length:=hj;obtain⟨a,ha⟩:=zZ (l:=i.v) (i:=j) oM;obtain⟨b,hb⟩:=zZ (l:=i.w) (i:=j) oM;have hd:=Xu i.v i.w j hj oM;have t1:=V2 ha;have t2:=V2 hb;have u1:=yDt i.v (j+1);have u2:=yDt i.w (j+1);have q1:=z8y j 1 a.1 b.1;have hvt:=z1r 0 j ha hb;rw[nq]at hvt;have bdv:(0:Int)<=j/\(j:Int)<(i.v.length:Nat):=⟨oM,e⟩
  have bdw:(0:Int)<=j/\(j:Int)<(i.w.length:Nat):=⟨oM,oM⟩
  obtain⟨D,hD⟩:∃D:tg,D=tg.add ⟨i.seq,[]⟩ (xN 0 (i.v.take j) (i.w.take j)):=⟨_,rfl⟩
  have hDs:D.seq=i.seq+((xN 0 (i.v.take j) (i.w.take j)).length:Nat):=by rw[hD];rfl
  have hDo:D.out=[]++jY i.seq (xN 0 (i.v.take j) (i.w.take j)):=by rw[hD];rfl
  have hDl:D.out.length=(xN 0 (i.v.take j) (i.w.take j)).length:=by rw[hDo,we,sZ]
  refine⟨⟨Z8,Z8⟩,1,rfl,bdv,_,_,_,_,_,(N8 ha).2.1,bdw,_,_,_,_,_,(N8 hb).2.1,⟨D,j,1,a.1,b.1⟩,rfl,rfl,rfl,rfl,rfl,rfl,rfl,rfl,rfl,rfl,rfl,rfl,hDs,by rw[hDo],⟨Z9,Z9,Z9⟩,λ_ _=>⟨⟨Z8,Z8⟩,2,rfl,bdv,_,_,_,_,_,(N8 ha).2.2,bdw,_,_,_,_,_,(N8 hb).2.2,⟨D.add (xV j 1 a.1 b.1),j,2,a.2,b.2⟩,rfl,rfl,rfl,rfl,rfl,rfl,rfl,rfl,rfl,rfl,rfl,rfl,rfl,rfl,⟨by simp only[tg.add];omega,by simp only[tg.add];omega,by simp only[tg.add];rw[iv,sZ];omega⟩,λ_ _=>⟨j+1,qu oM,?_,?_,Z9,Z9,gn⟩⟩⟩
  ·show(tg.add ⟨i.seq,[]⟩ (xN 0 (i.v.take (j+1)) (i.w.take (j+1)))).seq=((D.add (xV j 1 a.1 b.1)).add (xV j 2 a.2 b.2)).seq;rw[hvt,hD,UN,UN]
  ·show(tg.add ⟨i.seq,[]⟩ (xN 0 (i.v.take (j+1)) (i.w.take (j+1)))).out.map zS=((D.add (xV j 1 a.1 b.1)).add (xV j 2 a.2 b.2)).out.map zS;rw[hvt,hD,UN,UN]
 ·have hj:j<=i.v.length:=hj;rw[mz (by omega),mz (by omega)];exact⟨(),rfl,trivial⟩
def yRo:K9.ok Tryz.prog 135:=gx mixed (dw yTh fk) 1 i6 (λi=>xGh i) [] Tryz.func135 xDu
def xEl (m:gi) (h:Gb.dp m):y1w m:=by
 unfold y1w DG Kt OZ ff dx zLx V9 zKz zLw dI;refine⟨ao,λb=>b=decide (m.inst<0\/255<m.inst\/(m.side≠1/\m.side≠2)),zG (λe=>⟨ap,rfl,(jo (.inl e)).symm,gn⟩) (λe=>zG (λe2=>⟨ap,rfl,(jo (.inr (.inl e2))).symm,gn⟩) (λe2=>Cv.dp.mk (λe3=>⟨_,rfl,?_,gn⟩) (λe3=>⟨_,rfl,?_,gn⟩))),?_⟩
 ·have e3:m.side≠1:=i9 e3
  show(m.side !=2)=decide _;rw[CF,decide_eq_true_iff,bne_iff_ne];exact⟨λx=> .inr (.inr ⟨e3,x⟩),λx=>((x.resolve_left e).resolve_left e2).2⟩
 ·have e3:m.side=1:=i9 e3
  exact(jv λx=>((x.resolve_left e).resolve_left e2).1 e3).symm
 rintro _ rfl;refine zG (λe=> ?_) (λe=> ?_)
 ·have hf:m.form=12:=by rw[gi.form,fh e]
  exact⟨(),by rw[gi.enc,fh (by rw[hf];decide)];rfl,hf,trivial⟩
 have hf:m.form=0:=by rw[gi.form,ez e]
 have he:m.enc=m.body:=by rw[gi.enc,ez (by simp[hf])]
 refine⟨(),trivial,λ_ _=>⟨⟨[],m.seq⟩,rfl,rfl,by simp[WN.ok],λ_ _=>⟨⟨_,m.inst⟩,rfl,rfl,by simp[WN.ok,y8],λ_ _=>⟨⟨_,m.side⟩,rfl,rfl,by simp[WN.ok,y8],λ_ _=>⟨⟨_,m.dm⟩,rfl,rfl,by simp[WN.ok,y8],λ_ _=>⟨⟨_,m.dr⟩,rfl,rfl,by simp[WN.ok,y8],λ_ _=>⟨⟨_,m.count⟩,rfl,rfl,by simp[WN.ok,y8],λ_ _=>⟨0,λx=>x=if m.gg=ap then 1 else 0,Cv.dp.mk (λe=>⟨1,rfl,by rw[fh e],gn⟩) (λe=>⟨0,rfl,by rw[ez (by simp[e])],gn⟩),?_⟩⟩⟩⟩⟩⟩⟩⟩;rintro _ rfl;refine⟨⟨_,if m.gg=ap then 1 else 0⟩,rfl,rfl,by simp[WN.ok,y8],λ_ _=>⟨_,rfl,by simp[y8],λ_ _=>⟨(),?_,hf,trivial⟩⟩⟩;rw[he,gi.body];simp
def Jm:Gb.ok Tryz.prog 17:=gx mixed (dw PC (dw UZ (dw Pt (dw Pw fk)))) 0 (λ_=>xDs) i6 [] Tryz.func17 xEl
@[reducible] def vS:Nat:=138
@[reducible] def EX:Nat:=135
def Ag:gh:=fp (Q_ D) (λl=>[ow 10 l]) i6 (λl=>l.length*112<=140737488355328) (λ_=> .own 0) (λl=>[.own vS 10 l])
def Ak:gh:=fp (Q_ D) (λl=>[ow 3 l]) i6 (λl=>l.length*24<=140737488355328) (λ_=> .own 0) (λl=>[.own EX 3 l])
structure oZ where
 v:Vw
 n:Nat
 s:Bool
def xIr (s:Bool) (p:Sd×Sd):Sd:=bif s then p.2 else p.1
def LA (v:Vw) (n:Nat) (s:Bool):Sd:=match v[n]? with
 |some p=>xIr s p
 |none=>⟨[],BA,ao⟩
def oZ.f (i:oZ):Nat:=bif i.s then 5 else 0
def oZ.lv (i:oZ):Q_ D:=(LA i.v i.n i.s).levels.map im
def GO:gh:=fp oZ (λi=>[zw i.v]) i6 (λi=>i.n<i.v.length/\i.v.length<=1000000/\xZ i.v) (λ_=> .agg [.own 0])
 (λi=>[.uf ap vS 10 (i.v.map zA) i.n i.f ap (au 1),.own EX 3 i.lv])
def xAu (i:oZ):List gr:=[
 {ι:=Nat,du:=λj=>[(1,.nm 0 0),(12,zB j)],rows:=λj=>[.cells [.own 1] 59,.uf ao vS 10 (i.v.map zA) i.n i.f (decide (i.n<j)) (au 2),.own EX 3 (bif decide (i.n<j)then i.lv else[])]},
 {ι:=Unit,du:=λ_=>[],rows:=λ_=>[],un:=3}]
def gi.iN (k:Int) (m:gi):Int:=if m.inst<0\/k<=m.inst then 20 else if m.side≠1/\m.side≠2 then 21 else if(m.dr<0\/m.count<0)\/¬(m.dr=0↔m.count=0)then 24 else 0
structure Mv where
 k:Int
 m:gi
def Nk:gh:=fp Mv (λi=>[zB i.k,Iu i.m]) i6 (λ_=>True) (λi=>zB (i.m.iN i.k)) i6
structure vp where
 L:List Lv
 m:gi
def oI:Option Nat->Int
 |some k=>k
 |none=> -1
def Rt (m:gi):fq:= .cells [zB m.seq,zB m.inst,zB m.side,zB m.dm,zB m.dr,zB m.count,yL m.gg] rM
def ixA:List gr:=[{ι:=Nat,du:=λk=>[(8,zB k)],rows:=λ_=>[]}]
def Tf:gh:=fp vp (λi=>[.own 0,.fn 208 [] [.nm 1 0]]) (λi=>[.own EX 3 (i.L.map im),Rt i.m]) (λi=>i.L.length<=1099511627776) (λi=>zB (oI (i.L.findIdx? λy=>decide (y.dm=i.m.dm)))) (λi=>[.own EX 3 (i.L.map im),Rt i.m])
def Tg:gh:=fp vp (λi=>[.own 0,.fn 210 [] [.nm 1 0]]) (λi=>[.own EX 3 (i.L.map im),Rt i.m]) (λi=>i.L.length<=1099511627776) (λi=>zB (oI (i.L.findIdx? λy=>xK i.m.side i.m.dm y.dm))) (λi=>[.own EX 3 (i.L.map im),Rt i.m])
def Ux:gh:=W7 EX 3
def T6:gh:=NY EX 3 24
structure Ew where
 v:Vw
 m:gi
def gi.lv (m:gi):Lv:=⟨m.dm,m.dr,m.count⟩
def A0 (s:Int) (x:Sd) (m:gi):Sd:=if m.gg=ap then(if 0<m.dr then⟨x.levels,m.lv,ap⟩else⟨x.levels,BA,ao⟩)else⟨jS s x.levels m.lv,x.imp,x.has⟩
def rn (v:Vw) (m:gi):Vw:=v.modify m.inst.toNat λp=>if m.side=1 then(A0 1 p.1 m,p.2)else(p.1,A0 2 p.2 m)
def xEq (s:Int):gh:=fp Ew (λi=>[zw i.v,.agg [zB i.m.seq,zB i.m.inst,zB s,zB i.m.dm,zB i.m.dr,zB i.m.count,yL i.m.gg]]) i6
 (λi=>i.m.side=s/\i.m.iN i.v.length=0/\i.v.length<=1000000/\xZ i.v) (λi=> .je [zw (rn i.v i.m),zB 0]) i6
def MQ:gh:=xEq 1
def MP:gh:=xEq 2
def C8:gh:=fp Ew (λi=>[zw i.v,Iu i.m]) i6 (λi=>i.m.iN i.v.length=0/\i.v.length<=1000000/\xZ i.v) (λi=> .je [zw (rn i.v i.m),zB 0]) i6
end Sx
