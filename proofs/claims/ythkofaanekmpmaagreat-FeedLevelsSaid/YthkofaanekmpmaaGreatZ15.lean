/- Texts of ours, one behind the other: a walk that the kernel reckons, and contracts of functions. No condition. -/
import Derived.Test.YthkofaanekmpmaaGreatZ14
namespace Sx
set_option linter.unusedVariables false
set_option linter.unusedSimpArgs false
set_option maxRecDepth 100000
open Go Cv Go.Proofs
open Classical in
theorem zDn (a b:List Lv):zBz a b=true↔a=b:=by
 unfold zBz
 exact decide_eq_true_iff
theorem zHg {L:List Lv} {k:Nat} {l:Lv} (h:L[k]? =some l):zE (L.map lvE) k 0 3=some [D.v (.int .i64 l.price),D.v (.int .i64 l.qty),D.v (.int .i64 l.count)]:=by
 rw[zE,yXq,h];rfl
theorem rZ {L:List Lv} {k:Nat} {l:Lv} (h:L[k]? =some l):zE (L.map lvE) k (0+0) 1=some [D.v (.int .i64 l.price)]:=by
 rw[zE,yXq,h];rfl
theorem yQw (i:zBq) (h:sameLC.cnd i):yDg i:=by
 obtain⟨hx,hy⟩:i.x.length≤1000000∧i.y.length≤1000000:=h
 have l1:(i.x.map lvE).length=i.x.length:=yWu _
 have l2:(i.y.map lvE).length=i.y.length:=yWu _
 unfold yDg zBp gG dI
 rw[l1,l2]
 have fls:i.x≠i.y→zBz i.x i.y=false:=fun h=>by
  cases e:zBz i.x i.y
  ·rfl
  ·exact absurd ((zDn _ _).1 e) h
 refine Cv.cnd.mk (fun e=>⟨(),fls fun x=> ?_,k0q⟩) (fun e=> ?_)
 ·rw[x]at e;simp at e
 have hl:i.x.length=i.y.length:=by simp at e;omega
 refine⟨0,rfl,fun k=>k≤i.x.length∧i.x.take k=i.y.take k,fun k=>i.x.length-k,⟨yYc _,by rw[y0i,y0i]⟩,fun k hk=>zK (fun c=> ?_) (fun c=> ?_)⟩
 ·obtain⟨hk,ht⟩:=hk
  obtain⟨a,ha⟩:=zW (l:=i.x) (i:=k) (by omega)
  obtain⟨b,hb⟩:=zW (l:=i.y) (i:=k) (by omega)
  refine⟨⟨by omega,by omega⟩,_,_,_,zHg ha,⟨by omega,by omega⟩,_,_,_,zHg hb,Cv.cnd.mk (fun e=>⟨(),fls fun x=> ?_,k0q⟩) (fun e=>⟨k+1,wjn (by omega),⟨by omega,?_⟩,by first|omega|(dsimp only;omega),k0q⟩)⟩
  ·rw[x,hb]at ha
   cases ha
   simp at e
  ·rw[yXx,yXx,ha,hb,ht]
   have:a=b:=by
    obtain⟨a1,a2,a3⟩:=a
    obtain⟨b1,b2,b3⟩:=b
    simp at e
    simp[e]
   rw[this]
 ·obtain⟨hk,ht⟩:=hk
  obtain rfl:k=i.x.length:=by omega
  rw[yZi,hl,yZi]at ht
  exact⟨(),(zDn _ _).2 ht,k0q⟩
theorem sameL_ok:sameLC.ok Tryz.prog 16:=okw mixed gok0 0 (fun _=>[]) (fun _=>yRj) [] Tryz.func16 yQw
def ffB (h im:Bool) (P:Int) (l:Lv):Bool:= !h||(im|| !decide (l.price=P))
def ggB (h im:Bool) (P:Int) (l:Lv):Bool:= !(h && (!im && decide (l.price=P)))
structure SdF (s:Int) (h im:Bool) (P Q:Int) (A B:Sd):Prop where
 imp1:h=true→im=true→B.has=decide (0<Q)∧(B.has=true→B.imp=⟨P,Q,Q⟩)∧(B.has=false→B.imp=lv0)
 imp2:¬(h=true∧im=true)→A.has=B.has∧A.imp=B.imp
 eq:A.levels.filter (ffB h im P)=B.levels.filter (ggB h im P)
 one:h=true→im=false→∀l∈B.levels,l.price=P→l=⟨P,Q,Q⟩
 fnd:h=true→im=false→B.levels.any (fun l=> !ggB h im P l)=decide (Q>0)
 srt:rA s B.levels
 la:A.levels.length≤1000
 lb:B.levels.length≤1000
theorem z0w {s:Int}:∀{L:List Lv},rA s L→∀l∈L,lkL L l.price=some l
 |[],_,l,h=>by cases h
 |x::L,h,l,hl=>by
  obtain⟨h1,h2⟩:=yYy.1 h
  rw[aJ]
  rcases yXl.1 hl with rfl|hl
  ·rw[yWt rfl]
  ·rw[yWs (zTk (h1 l hl))]
   exact z0w h2 l hl
theorem yJe {L:List Lv} {P:Int} {l:Lv} (h:lkL L P=some l):l∈L∧l.price=P:=by
 rw[lkL]at h
 exact⟨List.mem_of_find?_eq_some h,by simpa using List.find?_some h⟩
theorem yCg {s P Q:Int} {h im:Bool} {A B:Sd} {m:MsgM} (hA:rA s A.levels) (hl:A.levels.length≤255) (hq:0≤Q) (hm:m.lv=⟨P,Q,Q⟩) (hi:m.implied=im) (hB:B=if h=true then lF s A m else A):SdF s h im P Q A B:=by
 have hmq:m.qty=Q:=congrArg Lv.qty hm
 cases h
 ·have hB:B=A:=by rw[hB,yWs (by decide)]
  subst hB
  refine⟨(fun e=>by cases e),fun _=>⟨rfl,rfl⟩,y1s fun l _=>rfl,(fun e=>by cases e),(fun e=>by cases e),hA,by omega,by omega⟩
 ·rw[yWt rfl]at hB
  cases im
  ·have hB:B=⟨kJ s A.levels m.lv,A.imp,A.has⟩:=by rw[hB,zZa (by rw[hi];decide)]
   rw[zQb (by rw[hm];exact hq) hA,hm]at hB
   subst hB
   have hsr:rA s (bY s A.levels ⟨P,Q,Q⟩):=z2g hA
   have hlk:=yAd (m:=⟨P,Q,Q⟩) hq hA P
   rw[yWt rfl]at hlk
   have hone:∀l∈bY s A.levels ⟨P,Q,Q⟩,l.price=P→l=⟨P,Q,Q⟩:=fun l hl e=>by
    have:=z0w hsr l hl
    rw[e,hlk]at this
    split at this
    ·cases this
    ·exact(Option.some.inj this).symm
   have hlen:=z2v s ⟨P,Q,Q⟩ A.levels
   refine⟨(fun _ e=>by cases e),fun _=>⟨rfl,rfl⟩,?_,fun _ _=>hone,fun _ _=> ?_,hsr,by omega,by first|omega|(dsimp only;omega)⟩
   ·have e1:A.levels.filter (ffB true false P)=A.levels.filter (fun l=> !decide (l.price=P)):=y1s fun l _=>rfl
    have e2:(bY s A.levels ⟨P,Q,Q⟩).filter (ggB true false P)=(bY s A.levels ⟨P,Q,Q⟩).filter (fun l=> !decide (l.price=P)):=y1s fun l _=>by simp[ggB]
    rw[e1]
    dsimp only
    rw[e2]
    exact(zYf (m:=⟨P,Q,Q⟩) A.levels).symm
   ·rw[y1f,List.any_eq_true,decide_eq_true_iff]
    constructor
    ·rintro⟨l,hl,e⟩
     have e:l.price=P:=by simpa[ggB]using e
     have:=z0w hsr l hl
     rw[e,hlk]at this
     split at this
     ·cases this
     ·rename_i hne
      have hne:¬Q=0:=hne
      omega
    ·intro hQ
     rw[yWs (show ¬Q=0 by omega)]at hlk
     obtain⟨a,b⟩:=yJe hlk
     exact⟨_,a,by simp[ggB]⟩
  ·have hB:B=if 0<m.qty then⟨A.levels,m.lv,true⟩else⟨A.levels,lv0,false⟩:=by rw[hB,lF,yWt hi]
   rw[hmq,hm]at hB
   have hBl:B.levels=A.levels:=by rw[hB];split<;>rfl
   refine⟨fun _ _=> ?_,fun e=>absurd ⟨rfl,rfl⟩ e,?_,(fun _ e=>by cases e),(fun _ e=>by cases e),by rw[hBl];exact hA,by omega,by rw[hBl];omega⟩
   ·rw[hB]
    by_cases hQ:0<Q
    ·rw[yWt hQ,yXi hQ]
     exact⟨rfl,fun _=>rfl,(fun e=>by cases e)⟩
    ·rw[yWs hQ,yXf hQ]
     exact⟨rfl,(fun e=>by cases e),fun _=>rfl⟩
   ·rw[hBl]
    exact y1s fun l _=>rfl
theorem yAs {v:Vw} {j:Nat} {p:Sd×Sd} (h:v[j]? =some p):zE (v.map zC) j ((0:Nat)+nat_lit 0*(5:Nat)) (5:Nat)=some [D.ro 3 (p.1.levels.map lvE),D.v (.int .i64 p.1.imp.price),D.v (.int .i64 p.1.imp.qty),D.v (.int .i64 p.1.imp.count),D.v (.bool p.1.has)]:=by
 rw[show(0:Nat)+nat_lit 0*(5:Nat)=0 from rfl,zE,yXq,h];rfl
theorem yEi {v:Vw} {j:Nat} {p:Sd×Sd} (h:v[j]? =some p):zE (v.map zC) j ((0:Nat)+(nat_lit 0+nat_lit 1) % ((2:Int) ^ IntKind.i64.bits).natAbs*(5:Nat)) (5:Nat)=some [D.ro 3 (p.2.levels.map lvE),D.v (.int .i64 p.2.imp.price),D.v (.int .i64 p.2.imp.qty),D.v (.int .i64 p.2.imp.count),D.v (.bool p.2.has)]:=by
 rw[show(0:Nat)+(nat_lit 0+nat_lit 1) % ((2:Int) ^ IntKind.i64.bits).natAbs*(5:Nat)=5 by decide,zE,yXq,h];rfl
theorem yBi (x:Prd):1≤(uH x).count:=by
 rw[Prd.count,yWt (zHh x)]
 have:2≤(uH x).months.length:=by
  show 2≤(qF (kN x).toNat).length
  have hb:=zIr (n:=(x.months.length:Int)) (lo:=0) (hi:=3) (by decide)
  have:(qF (kN x).toNat).length=(kN x).toNat:=by rw[qF,yWu,List.length_range]
  rw[this,kN]
  omega
 omega
theorem zWe {f:Lv→Bool} {L:List Lv} {k:Nat} {l:Lv} (h:L[k]? =some l):(L.take (k+1)).any f=((L.take k).any f||f l):=by
 rw[yXx,h,yZx,List.any_append];simp
theorem zCu {f:Lv→Bool} {L:List Lv} {k:Nat} {l:Lv} (h:L[k]? =some l):(L.take (k+1)).filter f=(L.take k).filter f++(if f l=true then[l]else[]):=by
 rw[yXx,h,yZx,y0p,List.filter_cons,List.filter_nil]
theorem aQ {f:Lv→Bool} {L:List Lv} {n:Nat} (h:L.length≤n) (k:Nat):((L.take k).filter f).length≤n:=by
 have:=y0b f (L.take k)
 rw[yXo]at this
 omega
theorem yEp {l:Lv} {P Q:Int} (h:l=⟨P,Q,Q⟩):(l.price==P && (l.qty==Q && (l.count==Q && true)))=true:=by
 subst h;simp
theorem zEq {l m:Lv} (h:l=m):(!(l.price==m.price && (l.qty==m.qty && (l.count==m.count && true))))=false:=by
 subst h;simp
def flI (i:FlI2) (n:Nat):Int:=zI i.m.inst 0 ((n:Int)-1)
def flS (i:FlI2):Int:=IntKind.i64.wrap (1+zI i.m.side 0 1)
def flP (i:FlI2):Int:=IntKind.i64.wrap (yG i.x*IntKind.i64.wrap (zI i.m.price 0 30-5))
def flQ (i:FlI2):Int:=zI i.m.qty 0 5
def flM (i:FlI2) (n:Nat):MsgM:=⟨i.m.seq,flI i n,flS i,flP i,flQ i,flQ i,i.m.implied⟩
theorem yJl (i:FlI2):flS i=1∨flS i=2:=by
 have:=zIr (n:=i.m.side) (lo:=0) (hi:=1) (by decide)
 rw[flS,w64 (by omega)]
 omega
theorem yPx (i:FlI2):0≤flQ i:=(zIr (n:=i.m.qty) (lo:=0) (hi:=5) (by decide)).1
theorem yJo (i:FlI2) {n:Nat} (hn:1≤n):(flM i n).fine n=0∧0≤flI i n∧flI i n<n:=by
 have h1:=zIr (n:=i.m.inst) (lo:=0) (hi:=(n:Int)-1) (by omega)
 have h2:=yJl i
 have h3:=yPx i
 have h4:0≤flI i n∧flI i n≤(n:Int)-1:=h1
 refine⟨?_,h4.1,by omega⟩
 rw[MsgM.fine]
 show(if flI i n<0∨(n:Int)≤flI i n then _ else if flS i≠1∧flS i≠2 then _ else if(flQ i<0∨flQ i<0)∨¬(flQ i=0↔flQ i=0)then _ else _)=_
 rw[yWs (by omega),yWs (by omega),yWs]
 rintro(x|x)
 ·omega
 ·exact x Iff.rfl
theorem yOu {v:Vw} {m:MsgM} {j:Nat} {p:Sd×Sd} (hp:v[j]? =some p) (hi:0≤m.inst):∃q,(apV v m)[j]? =some q∧q.1=(if(decide ((j:Int)=m.inst) && decide (m.side=1))=true then lF 1 p.1 m else p.1)∧(m.side=1∨m.side=2→q.2=if(decide ((j:Int)=m.inst) && decide (m.side=2))=true then lF 2 p.2 m else p.2):=by
 rw[apV,y1d,hp]
 by_cases hj:m.inst.toNat=j
 ·have hj':(j:Int)=m.inst:=by omega
  refine⟨if m.side=1 then(lF 1 p.1 m,p.2)else(p.1,lF 2 p.2 m),?_,?_,fun hs=> ?_⟩
  ·show some (if m.inst.toNat=j then _ else p)=_
   rw[yWt hj]
  ·by_cases e:m.side=1
   ·rw[yWt e,yWt (by simp[hj',e])]
   ·rw[yWs e,yWs (by simp[e])]
  ·by_cases e:m.side=1
   ·rw[yWt e,yWs (by simp[e])]
   ·rw[yWs e,yWt (by simp[hj'];omega)]
 ·have hj':¬(j:Int)=m.inst:=by omega
  refine⟨p,?_,?_,fun hs=> ?_⟩
  ·show some (if m.inst.toNat=j then _ else p)=_
   rw[yWs hj]
  ·rw[yWs (by simp[hj'])]
  ·rw[yWs (by simp[hj'])]
theorem vfv (i:FlI2) (h:fvC.cnd i):Vfv i:=by
 obtain⟨hraw,hok,hlen,mi,ms,mr⟩:i.ok:=h
 unfold Vfv yO yGf yGg yEa yAq zYz z9s z5d eQ zTb zKt z0b zYo zYs z0v zDt z0f zAa cF z1f zRn zYn z0n zTl zCg zZw zTr zTz z1p zYi z1t zDr nW zIp zRq z9p zRs zMm zAp z1b z1h z0m z0s zKo zEo zRz zKq zGz zMb yW pW aI dC zRf zEg zDg wD cM Vtopst403 dI
 refine⟨i.x,rfl,rfl,rfl,rfl,rfl,rfl,rfl,rfl,rfl,rfl,rfl,hraw,fun _ _=>⟨⟨uH i.x,i.l⟩,rfl,rfl,rfl,rfl,rfl,rfl,rfl,rfl,rfl,rfl,rfl,rfl,⟨zHh i.x,zWa i.x,hok,hlen⟩,fun V hV=> ?_⟩⟩
 obtain⟨hne,hl,hV⟩:=hV
 have hV:∀v∈V,VwG (uH i.x) v:=hV
 have hvl:(V.map vwE).length=V.length:=yWu _
 have h0:0<V.length:=List.length_pos_iff.2 hne
 have hw:IntKind.i64.wrap (((V.map vwE).length:Nat)-1)=((V.length-1:Nat):Int):=by rw[hvl,w64 (by omega)];omega
 obtain⟨v,hv⟩:=zW (l:=V) (i:=V.length-1) (by omega)
 have gv:=hV v (yXd hv)
 have hn:1≤v.length:=by rw[gv.len];exact yBi i.x
 have hcl:=xP (uH i.x)
 have hvc:=gv.len
 have hml:(v.map zC).length=v.length:=yWu _
 have hw2:((v.length:Int)-1)=IntKind.i64.wrap (((v.map zC).length:Nat)-1):=by rw[hml,w64 (by omega)]
 obtain⟨ffn,fi1,fi2⟩:=yJo i hn
 have hsrt:=yNv (z1e gv.r)
 have hlev:=yPo gv
 have hapl:(apV v (flM i v.length)).length=v.length:=by rw[apV,List.length_modify]
 have hwl:((apV v (flM i v.length)).map zC).length=v.length:=by rw[yWu,hapl]
 refine Cv.cnd.mk (fun e=>absurd e (by rw[hvl];simp;omega)) (fun _=>⟨by rw[hw];exact⟨by omega,by omega⟩,_,by rw[hw];exact ySk hv,⟨i.m.inst,0,(v.length:Int)-1⟩,rfl,rfl,hw2,⟨mi,by first|omega|(dsimp only;omega),by first|omega|(dsimp only;omega),by first|omega|(dsimp only;omega)⟩,fun _ _=>⟨⟨i.m.side,0,1⟩,rfl,rfl,rfl,⟨ms,by first|omega|(dsimp only;omega),by first|omega|(dsimp only;omega),by first|omega|(dsimp only;omega)⟩,fun _ _=>⟨⟨i.m.price,0,30⟩,rfl,rfl,rfl,⟨mr.2.1,by first|omega|(dsimp only;omega),by first|omega|(dsimp only;omega),by first|omega|(dsimp only;omega)⟩,fun _ _=>⟨rfl,⟨i.m.qty,0,5⟩,rfl,rfl,rfl,⟨mr.2.2.1,by first|omega|(dsimp only;omega),by first|omega|(dsimp only;omega),by first|omega|(dsimp only;omega)⟩,fun _ _=>⟨⟨v,flM i v.length⟩,rfl,rfl,rfl,rfl,rfl,rfl,rfl,rfl,⟨ffn,by first|omega|(dsimp only;omega),gv.s⟩,fun _ _=> ?_⟩⟩⟩⟩⟩)
 refine⟨false,fun z=>z=false,⟨_,rfl,?_,k0q⟩,?_⟩
 ·show((((apV v (flM i v.length)).map zC).length:Int) !=(((v.map zC).length:Nat):Int))=false
  rw[hwl,hml];simp
 rintro _ rfl
 refine Cv.cnd.mk (fun e=>nomatch e) (fun _=>⟨0,rfl,fun j=>j≤v.length,fun j=>v.length-j,yYc _,fun j hj=>Cv.cnd.mk (fun c=> ?_) (fun _=>⟨(),trivial,fun _ _=>⟨(),rfl,trivial⟩⟩)⟩)
 have c:(j:Int)<(((apV v (flM i v.length)).map zC).length:Nat):=yYh c
 have hj:j<v.length:=by omega
 obtain⟨p,hp⟩:=zW (l:=v) (i:=j) hj
 obtain⟨q,hq,hq1,hq2⟩:=yOu (m:=flM i v.length) hp fi1
 have bW:(0:Int)≤(j:Int)∧(j:Int)<(((apV v (flM i v.length)).map zC).length:Nat):=⟨by omega,c⟩
 have bV:(0:Int)≤(j:Int)∧(j:Int)<((v.map zC).length:Nat):=⟨by omega,by omega⟩
 have hsr:=hsrt p (yXd hp)
 have hlv:=hlev p (yXd hp)
 refine⟨(p.1,q.1),fun z=>z=(p.1,q.1),⟨bV,_,_,_,_,_,yAs hp,bW,_,_,_,_,_,yAs hq,⟨trivial,⟨bW,rfl⟩,trivial,trivial,⟨bV,rfl⟩,trivial,trivial,⟨bW,rfl⟩,trivial,trivial,⟨bV,rfl⟩,trivial,trivial,⟨bW,rfl⟩,trivial,⟨(p.1,q.1),rfl,rfl,rfl,rfl,rfl,rfl,rfl,rfl,rfl,rfl,rfl,k0q⟩⟩,trivial,⟨bW,rfl⟩,trivial,trivial,⟨bV,rfl⟩,trivial,trivial,⟨bW,rfl⟩,trivial,trivial,⟨bV,rfl⟩,trivial,trivial,⟨bW,rfl⟩,trivial,⟨(p.1,q.1),rfl,rfl,rfl,rfl,rfl,rfl,rfl,rfl,rfl,rfl,rfl,k0q⟩⟩,?_⟩
 rintro _ rfl
 have F1:SdF 1 (decide ((j:Int)=flI i v.length) && decide (flS i=1)) i.m.implied (flP i) (flQ i) p.1 q.1:=yCg (m:=flM i v.length) hsr.1 hlv.1 (yPx i) rfl rfl hq1
 refine⟨false,fun z=>z=(decide ((j:Int)=flI i v.length) && decide (flS i=1)),Cv.cnd.mk (fun e=>⟨_,rfl,?_,k0q⟩) (fun e=>⟨_,rfl,?_,k0q⟩),?_⟩
 ·have e:(j:Int)=flI i v.length:=by simpa[flI]using e
  rw[yXi e,yYx]
  rcases yJl i with h|h
  ·show((0:Int)==IntKind.i64.wrap (flS i-1))=decide (flS i=1)
   rw[h];decide
  ·show((0:Int)==IntKind.i64.wrap (flS i-1))=decide (flS i=1)
   rw[h];decide
 ·have e:¬(j:Int)=flI i v.length:=by simpa[flI]using e
  rw[yXf e];rfl
 rintro _ rfl
 revert F1
 generalize (decide ((j:Int)=flI i v.length) && decide (flS i=1))=hh
 intro F1
 have lA:(p.1.levels.map lvE).length=p.1.levels.length:=yWu _
 have lB:(q.1.levels.map lvE).length=q.1.levels.length:=yWu _
 have la:=F1.la
 have lb:=F1.lb
 refine⟨(),fun _=>True,⟨false,fun z=>z=(hh && i.m.implied),Cv.cnd.mk (fun e=>⟨_,rfl,by rw[e];rfl,k0q⟩) (fun e=>⟨_,rfl,by rw[e];rfl,k0q⟩),?_⟩,?_⟩
 ·rintro _ rfl
  refine Cv.cnd.mk (fun e=> ?_) (fun e=> ?_)
  ·rw[yXg]at e
   obtain⟨g1,g2,g3⟩:=F1.imp1 e.1 e.2
   refine⟨false,fun z=>z=false,Cv.cnd.mk (fun e1=> ?_) (fun _=>Cv.cnd.mk (fun hb=>Cv.cnd.mk (fun e1=> ?_) (fun _=>Cv.cnd.mk (fun e1=> ?_) (fun _=>⟨_,rfl,rfl,k0q⟩))) (fun hb=>Cv.cnd.mk (fun _=>⟨_,rfl,?_,k0q⟩) (fun _=>⟨_,rfl,rfl,k0q⟩))),?_⟩
   ·exfalso
    have g1:q.1.has=decide (flQ i>0):=g1
    dsimp only at e1
    rw[g1]at e1
    change (!(decide (flQ i>0)==decide (flQ i>0)))=true at e1
    revert e1
    cases decide (flQ i>0)<;>decide
   ·exfalso
    have g2:=g2 hb
    have:=zEq g2
    dsimp only at e1
    change (!(q.1.imp.price==flP i && (q.1.imp.qty==flQ i && (q.1.imp.count==flQ i && true))))=true at e1
    rw[this]at e1
    cases e1
   ·exfalso
    dsimp only at e1 hb
    rw[hb]at e1;cases e1
   ·dsimp only at hb ⊢
    exact zEq (m:=lv0) (g3 hb)
   ·rintro _ rfl
    exact Cv.cnd.mk (fun e=>nomatch e) (fun _=>⟨(),trivial,k0q⟩)
  ·obtain⟨g1,g2⟩:=F1.imp2 (fun x=>by rw[x.1,x.2]at e;cases e)
   refine⟨false,fun z=>z=false,Cv.cnd.mk (fun e1=> ?_) (fun _=>⟨_,rfl,zEq g2,k0q⟩),?_⟩
   ·exfalso
    dsimp only at e1
    rw[g1]at e1
    revert e1
    cases q.1.has<;>decide
   ·rintro _ rfl
    exact Cv.cnd.mk (fun e=>nomatch e) (fun _=>⟨(),trivial,k0q⟩)
 rintro _-
 refine⟨⟨[],false,0⟩,rfl,rfl,fun j=>j.k≤p.1.levels.length∧j.L=(p.1.levels.take j.k).filter (ffB hh i.m.implied (flP i)),fun j=>p.1.levels.length-j.k,⟨yYc _,rfl⟩,?_⟩
 rintro⟨L4,b4,k4⟩ ⟨hk4,hL4⟩
 dsimp only at hk4 hL4
 subst hL4
 refine Cv.cnd.mk (fun c=> ?_) (fun c=> ?_)
 ·have c:(k4:Int)<((p.1.levels.map lvE).length:Nat):=yYh c
  obtain⟨l,hl⟩:=zW (l:=p.1.levels) (i:=k4) (by omega)
  have bk:(0:Int)≤(k4:Int)∧(k4:Int)<((p.1.levels.map lvE).length:Nat):=⟨by omega,c⟩
  have tf:=zCu (f:=ffB hh i.m.implied (flP i)) hl
  have tl:=aQ (f:=ffB hh i.m.implied (flP i)) (n:=1000) la k4
  refine⟨false,fun z=>z=ffB hh i.m.implied (flP i) l,Cv.cnd.mk (fun e=>⟨_,rfl,by rw[ffB,e];rfl,k0q⟩) (fun e=>Cv.cnd.mk (fun e2=>⟨_,rfl,by rw[ffB,e,e2];rfl,k0q⟩) (fun e2=>⟨bk,_,rZ hl,_,rfl,?_,k0q⟩)),?_⟩
  ·have e2:i.m.implied=false:=e2
   rw[ffB,e,e2]
   show(l.price !=flP i)=(!decide (l.price=flP i))
   rfl
  rintro _ rfl
  refine Cv.cnd.mk (fun e=>⟨bk,_,_,_,zHg hl,by rw[yWu];first|omega|(dsimp only;omega),⟨(p.1.levels.take k4).filter (ffB hh i.m.implied (flP i))++[l],false,k4+1⟩,wjn (by first|omega|(dsimp only;omega)),by rw[yXe];rfl,⟨by first|omega|(dsimp only;omega),by rw[tf,yWt e]⟩,by first|omega|(dsimp only;omega),k0q⟩) (fun e=>⟨⟨(p.1.levels.take k4).filter (ffB hh i.m.implied (flP i)),false,k4+1⟩,wjn (by first|omega|(dsimp only;omega)),rfl,⟨by first|omega|(dsimp only;omega),by rw[tf,yWs (by rw[e];decide),yXp]⟩,by first|omega|(dsimp only;omega),k0q⟩)
 have c:¬(k4:Int)<((p.1.levels.map lvE).length:Nat):=y0f c
 obtain rfl:k4=p.1.levels.length:=by omega
 rw[yZi]
 refine⟨⟨[],false,0⟩,rfl,rfl,rfl,fun j=>j.k≤q.1.levels.length∧j.L=(q.1.levels.take j.k).filter (ggB hh i.m.implied (flP i))∧j.b=(q.1.levels.take j.k).any (fun l=> !ggB hh i.m.implied (flP i) l),fun j=>q.1.levels.length-j.k,⟨yYc _,rfl,rfl⟩,?_⟩
 rintro⟨L6,b6,k6⟩ ⟨hk6,hL6,hb6⟩
 dsimp only at hk6 hL6 hb6
 subst hL6 hb6
 refine Cv.cnd.mk (fun c=> ?_) (fun c=> ?_)
 ·have c:(k6:Int)<((q.1.levels.map lvE).length:Nat):=yYh c
  obtain⟨l,hl⟩:=zW (l:=q.1.levels) (i:=k6) (by omega)
  have bk:(0:Int)≤(k6:Int)∧(k6:Int)<((q.1.levels.map lvE).length:Nat):=⟨by omega,c⟩
  have tf:=zCu (f:=ggB hh i.m.implied (flP i)) hl
  have ta:=zWe (f:=fun l=> !ggB hh i.m.implied (flP i) l) hl
  have tl:=aQ (f:=ggB hh i.m.implied (flP i)) (n:=1000) lb k6
  refine⟨false,fun z=>z= !ggB hh i.m.implied (flP i) l,Cv.cnd.mk (fun e=>Cv.cnd.mk (fun e2=>⟨bk,_,rZ hl,_,rfl,?_,k0q⟩) (fun e2=>⟨_,rfl,?_,k0q⟩)) (fun e=>⟨_,rfl,by rw[ggB,e];rfl,k0q⟩),?_⟩
  ·have e2:i.m.implied=false:=by simpa using e2
   rw[ggB,e,e2]
   show(l.price==flP i)=(!(!(true && (!false && decide (l.price=flP i)))))
   rw[Bool.not_not,yYx,y1a,yYx,y1f,beq_iff_eq,decide_eq_true_iff]
  ·have e2:i.m.implied=true:=by simpa using e2
   rw[ggB,e,e2];rfl
  rintro _ rfl
  refine Cv.cnd.mk (fun e=> ?_) (fun e=> ?_)
  ·have eg:ggB hh i.m.implied (flP i) l=false:=by simpa using e
   have eh:hh=true∧i.m.implied=false∧l.price=flP i:=by simpa[ggB]using eg
   have el:=F1.one eh.1 eh.2.1 l (yXd hl) eh.2.2
   exact⟨bk,_,_,_,zHg hl,⟨(q.1.levels.take k6).filter (ggB hh i.m.implied (flP i)),true,k6+1⟩,(yEp el).symm,wjn (by first|omega|(dsimp only;omega)),rfl,⟨by first|omega|(dsimp only;omega),by rw[tf,yWs (by rw[eg];decide),yXp],by rw[ta,eg];simp⟩,by first|omega|(dsimp only;omega),k0q⟩
  ·have eg:ggB hh i.m.implied (flP i) l=true:=by simpa using e
   refine⟨bk,_,_,_,zHg hl,by rw[yWu];first|omega|(dsimp only;omega),false,fun z=>z=false,Cv.cnd.mk (fun c2=> ?_) (fun _=>⟨_,rfl,rfl,k0q⟩),?_⟩
   ·have c2:(k6:Int)>0:=yYh c2
    obtain⟨k7,rfl⟩:∃k7,k6=k7+1:=⟨k6-1,by omega⟩
    obtain⟨l7,hl7⟩:=zW (l:=q.1.levels) (i:=k7) (by omega)
    have hw:IntKind.i64.wrap (((k7+1:Nat):Int)-1)=(k7:Int):=by rw[w64 (by omega)];omega
    have hbt:btr 1 l7.price l.price=true:=by
     obtain⟨h1,e1⟩:=yWv.1 hl7
     obtain⟨h2,e2⟩:=yWv.1 hl
     have:=(List.pairwise_iff_getElem.1 F1.srt) k7 (k7+1) h1 h2 (y0z k7)
     rw[e1,e2]at this
     exact this
    have hbt:l.price<l7.price:=by simpa[btr]using hbt
    have bk7:(0:Int)≤(k7:Int)∧(k7:Int)<((q.1.levels.map lvE).length:Nat):=⟨by omega,by omega⟩
    refine⟨by rw[hw];exact bk7,l7.price,by rw[hw];exact rZ hl7,bk,_,rZ hl,?_⟩
    exact Cv.cnd.mk (fun c3=>absurd (yYh c3) (by omega)) (fun _=>⟨_,rfl,rfl,k0q⟩)
   ·rintro _ rfl
    exact Cv.cnd.mk (fun e=>nomatch e) (fun _=>⟨⟨(q.1.levels.take k6).filter (ggB hh i.m.implied (flP i))++[l],(q.1.levels.take k6).any (fun l=> !ggB hh i.m.implied (flP i) l),k6+1⟩,rfl,wjn (by first|omega|(dsimp only;omega)),by rw[yXe];rfl,⟨by first|omega|(dsimp only;omega),by rw[tf,yWt eg],by rw[ta,eg];simp⟩,by first|omega|(dsimp only;omega),k0q⟩)
 have c:¬(k6:Int)<((q.1.levels.map lvE).length:Nat):=y0f c
 obtain rfl:k6=q.1.levels.length:=by omega
 rw[yZi]
 have x1:=aQ (f:=ffB hh i.m.implied (flP i)) (n:=1000) la p.1.levels.length
 have x2:=aQ (f:=ggB hh i.m.implied (flP i)) (n:=1000) lb q.1.levels.length
 rw[yZi]at x1 x2
 refine⟨false,fun z=>z=false,⟨⟨p.1.levels.filter (ffB hh i.m.implied (flP i)),q.1.levels.filter (ggB hh i.m.implied (flP i))⟩,rfl,rfl,⟨by first|omega|(dsimp only;omega),by first|omega|(dsimp only;omega)⟩,fun _ _=>Cv.cnd.mk (fun e=> ?_) (fun _=>Cv.cnd.mk (fun e=>Cv.cnd.mk (fun e2=>⟨_,rfl,?_,k0q⟩) (fun _=>⟨_,rfl,rfl,k0q⟩)) (fun _=>⟨_,rfl,rfl,k0q⟩))⟩,?_⟩
 ·exfalso
  dsimp only at e
  rw[(zDn _ _).2 F1.eq]at e
  cases e
 ·have e2:i.m.implied=false:=by simpa using e2
  have:=F1.fnd e e2
  dsimp only
  rw[this]
  show(!(decide (flQ i>0)==decide (flQ i>0)))=false
  cases decide (flQ i>0)<;>rfl
 rintro _ rfl
 refine Cv.cnd.mk (fun e=>nomatch e) (fun _=> ?_)
 clear la lb lA lB x1 x2 F1
 refine⟨(p.2,q.2),fun z=>z=(p.2,q.2),⟨bV,_,_,_,_,_,yEi hp,bW,_,_,_,_,_,yEi hq,⟨trivial,⟨bW,rfl⟩,trivial,trivial,⟨bV,rfl⟩,trivial,trivial,⟨bW,rfl⟩,trivial,trivial,⟨bV,rfl⟩,trivial,trivial,⟨bW,rfl⟩,trivial,⟨(p.2,q.2),rfl,rfl,rfl,rfl,rfl,rfl,rfl,rfl,rfl,rfl,rfl,k0q⟩⟩,trivial,⟨bW,rfl⟩,trivial,trivial,⟨bV,rfl⟩,trivial,trivial,⟨bW,rfl⟩,trivial,trivial,⟨bV,rfl⟩,trivial,trivial,⟨bW,rfl⟩,trivial,⟨(p.2,q.2),rfl,rfl,rfl,rfl,rfl,rfl,rfl,rfl,rfl,rfl,rfl,k0q⟩⟩,?_⟩
 rintro _ rfl
 have F2:SdF 2 (decide ((j:Int)=flI i v.length) && decide (flS i=2)) i.m.implied (flP i) (flQ i) p.2 q.2:=yCg (m:=flM i v.length) hsr.2 hlv.2 (yPx i) rfl rfl (hq2 (yJl i))
 refine⟨false,fun z=>z=(decide ((j:Int)=flI i v.length) && decide (flS i=2)),Cv.cnd.mk (fun e=>⟨_,rfl,?_,k0q⟩) (fun e=>⟨_,rfl,?_,k0q⟩),?_⟩
 ·have e:(j:Int)=flI i v.length:=by simpa[flI]using e
  rw[yXi e,yYx]
  rcases yJl i with h|h
  ·show((IntKind.i64.wrap (0+1):Int)==IntKind.i64.wrap (flS i-1))=decide (flS i=2)
   rw[h];decide
  ·show((IntKind.i64.wrap (0+1):Int)==IntKind.i64.wrap (flS i-1))=decide (flS i=2)
   rw[h];decide
 ·have e:¬(j:Int)=flI i v.length:=by simpa[flI]using e
  rw[yXf e];rfl
 rintro _ rfl
 revert F2
 generalize (decide ((j:Int)=flI i v.length) && decide (flS i=2))=hh
 intro F2
 have lA:(p.2.levels.map lvE).length=p.2.levels.length:=yWu _
 have lB:(q.2.levels.map lvE).length=q.2.levels.length:=yWu _
 have la:=F2.la
 have lb:=F2.lb
 refine⟨(),fun _=>True,⟨false,fun z=>z=(hh && i.m.implied),Cv.cnd.mk (fun e=>⟨_,rfl,by rw[e];rfl,k0q⟩) (fun e=>⟨_,rfl,by rw[e];rfl,k0q⟩),?_⟩,?_⟩
 ·rintro _ rfl
  refine Cv.cnd.mk (fun e=> ?_) (fun e=> ?_)
  ·rw[yXg]at e
   obtain⟨g1,g2,g3⟩:=F2.imp1 e.1 e.2
   refine⟨false,fun z=>z=false,Cv.cnd.mk (fun e1=> ?_) (fun _=>Cv.cnd.mk (fun hb=>Cv.cnd.mk (fun e1=> ?_) (fun _=>Cv.cnd.mk (fun e1=> ?_) (fun _=>⟨_,rfl,rfl,k0q⟩))) (fun hb=>Cv.cnd.mk (fun _=>⟨_,rfl,?_,k0q⟩) (fun _=>⟨_,rfl,rfl,k0q⟩))),?_⟩
   ·exfalso
    have g1:q.2.has=decide (flQ i>0):=g1
    dsimp only at e1
    rw[g1]at e1
    change (!(decide (flQ i>0)==decide (flQ i>0)))=true at e1
    revert e1
    cases decide (flQ i>0)<;>decide
   ·exfalso
    have g2:=g2 hb
    have:=zEq g2
    dsimp only at e1
    change (!(q.2.imp.price==flP i && (q.2.imp.qty==flQ i && (q.2.imp.count==flQ i && true))))=true at e1
    rw[this]at e1
    cases e1
   ·exfalso
    dsimp only at e1 hb
    rw[hb]at e1;cases e1
   ·dsimp only at hb ⊢
    exact zEq (m:=lv0) (g3 hb)
   ·rintro _ rfl
    exact Cv.cnd.mk (fun e=>nomatch e) (fun _=>⟨(),trivial,k0q⟩)
  ·obtain⟨g1,g2⟩:=F2.imp2 (fun x=>by rw[x.1,x.2]at e;cases e)
   refine⟨false,fun z=>z=false,Cv.cnd.mk (fun e1=> ?_) (fun _=>⟨_,rfl,zEq g2,k0q⟩),?_⟩
   ·exfalso
    dsimp only at e1
    rw[g1]at e1
    revert e1
    cases q.2.has<;>decide
   ·rintro _ rfl
    exact Cv.cnd.mk (fun e=>nomatch e) (fun _=>⟨(),trivial,k0q⟩)
 rintro _-
 refine⟨⟨[],false,0⟩,rfl,rfl,fun j=>j.k≤p.2.levels.length∧j.L=(p.2.levels.take j.k).filter (ffB hh i.m.implied (flP i)),fun j=>p.2.levels.length-j.k,⟨yYc _,rfl⟩,?_⟩
 rintro⟨L4,b4,k4⟩ ⟨hk4,hL4⟩
 dsimp only at hk4 hL4
 subst hL4
 refine Cv.cnd.mk (fun c=> ?_) (fun c=> ?_)
 ·have c:(k4:Int)<((p.2.levels.map lvE).length:Nat):=yYh c
  obtain⟨l,hl⟩:=zW (l:=p.2.levels) (i:=k4) (by omega)
  have bk:(0:Int)≤(k4:Int)∧(k4:Int)<((p.2.levels.map lvE).length:Nat):=⟨by omega,c⟩
  have tf:=zCu (f:=ffB hh i.m.implied (flP i)) hl
  have tl:=aQ (f:=ffB hh i.m.implied (flP i)) (n:=1000) la k4
  refine⟨false,fun z=>z=ffB hh i.m.implied (flP i) l,Cv.cnd.mk (fun e=>⟨_,rfl,by rw[ffB,e];rfl,k0q⟩) (fun e=>Cv.cnd.mk (fun e2=>⟨_,rfl,by rw[ffB,e,e2];rfl,k0q⟩) (fun e2=>⟨bk,_,rZ hl,_,rfl,?_,k0q⟩)),?_⟩
  ·have e2:i.m.implied=false:=e2
   rw[ffB,e,e2]
   show(l.price !=flP i)=(!decide (l.price=flP i))
   rfl
  rintro _ rfl
  refine Cv.cnd.mk (fun e=>⟨bk,_,_,_,zHg hl,by rw[yWu];first|omega|(dsimp only;omega),⟨(p.2.levels.take k4).filter (ffB hh i.m.implied (flP i))++[l],false,k4+1⟩,wjn (by first|omega|(dsimp only;omega)),by rw[yXe];rfl,⟨by first|omega|(dsimp only;omega),by rw[tf,yWt e]⟩,by first|omega|(dsimp only;omega),k0q⟩) (fun e=>⟨⟨(p.2.levels.take k4).filter (ffB hh i.m.implied (flP i)),false,k4+1⟩,wjn (by first|omega|(dsimp only;omega)),rfl,⟨by first|omega|(dsimp only;omega),by rw[tf,yWs (by rw[e];decide),yXp]⟩,by first|omega|(dsimp only;omega),k0q⟩)
 have c:¬(k4:Int)<((p.2.levels.map lvE).length:Nat):=y0f c
 obtain rfl:k4=p.2.levels.length:=by omega
 rw[yZi]
 refine⟨⟨[],false,0⟩,rfl,rfl,rfl,fun j=>j.k≤q.2.levels.length∧j.L=(q.2.levels.take j.k).filter (ggB hh i.m.implied (flP i))∧j.b=(q.2.levels.take j.k).any (fun l=> !ggB hh i.m.implied (flP i) l),fun j=>q.2.levels.length-j.k,⟨yYc _,rfl,rfl⟩,?_⟩
 rintro⟨L6,b6,k6⟩ ⟨hk6,hL6,hb6⟩
 dsimp only at hk6 hL6 hb6
 subst hL6 hb6
 refine Cv.cnd.mk (fun c=> ?_) (fun c=> ?_)
 ·have c:(k6:Int)<((q.2.levels.map lvE).length:Nat):=yYh c
  obtain⟨l,hl⟩:=zW (l:=q.2.levels) (i:=k6) (by omega)
  have bk:(0:Int)≤(k6:Int)∧(k6:Int)<((q.2.levels.map lvE).length:Nat):=⟨by omega,c⟩
  have tf:=zCu (f:=ggB hh i.m.implied (flP i)) hl
  have ta:=zWe (f:=fun l=> !ggB hh i.m.implied (flP i) l) hl
  have tl:=aQ (f:=ggB hh i.m.implied (flP i)) (n:=1000) lb k6
  refine⟨false,fun z=>z= !ggB hh i.m.implied (flP i) l,Cv.cnd.mk (fun e=>Cv.cnd.mk (fun e2=>⟨bk,_,rZ hl,_,rfl,?_,k0q⟩) (fun e2=>⟨_,rfl,?_,k0q⟩)) (fun e=>⟨_,rfl,by rw[ggB,e];rfl,k0q⟩),?_⟩
  ·have e2:i.m.implied=false:=by simpa using e2
   rw[ggB,e,e2]
   show(l.price==flP i)=(!(!(true && (!false && decide (l.price=flP i)))))
   rw[Bool.not_not,yYx,y1a,yYx,y1f,beq_iff_eq,decide_eq_true_iff]
  ·have e2:i.m.implied=true:=by simpa using e2
   rw[ggB,e,e2];rfl
  rintro _ rfl
  refine Cv.cnd.mk (fun e=> ?_) (fun e=> ?_)
  ·have eg:ggB hh i.m.implied (flP i) l=false:=by simpa using e
   have eh:hh=true∧i.m.implied=false∧l.price=flP i:=by simpa[ggB]using eg
   have el:=F2.one eh.1 eh.2.1 l (yXd hl) eh.2.2
   exact⟨bk,_,_,_,zHg hl,⟨(q.2.levels.take k6).filter (ggB hh i.m.implied (flP i)),true,k6+1⟩,(yEp el).symm,wjn (by first|omega|(dsimp only;omega)),rfl,⟨by first|omega|(dsimp only;omega),by rw[tf,yWs (by rw[eg];decide),yXp],by rw[ta,eg];simp⟩,by first|omega|(dsimp only;omega),k0q⟩
  ·have eg:ggB hh i.m.implied (flP i) l=true:=by simpa using e
   refine⟨bk,_,_,_,zHg hl,by rw[yWu];first|omega|(dsimp only;omega),false,fun z=>z=false,Cv.cnd.mk (fun c2=> ?_) (fun _=>⟨_,rfl,rfl,k0q⟩),?_⟩
   ·have c2:(k6:Int)>0:=yYh c2
    obtain⟨k7,rfl⟩:∃k7,k6=k7+1:=⟨k6-1,by omega⟩
    obtain⟨l7,hl7⟩:=zW (l:=q.2.levels) (i:=k7) (by omega)
    have hw:IntKind.i64.wrap (((k7+1:Nat):Int)-1)=(k7:Int):=by rw[w64 (by omega)];omega
    have hbt:btr 2 l7.price l.price=true:=by
     obtain⟨h1,e1⟩:=yWv.1 hl7
     obtain⟨h2,e2⟩:=yWv.1 hl
     have:=(List.pairwise_iff_getElem.1 F2.srt) k7 (k7+1) h1 h2 (y0z k7)
     rw[e1,e2]at this
     exact this
    have hbt:l7.price<l.price:=by simpa[btr]using hbt
    have bk7:(0:Int)≤(k7:Int)∧(k7:Int)<((q.2.levels.map lvE).length:Nat):=⟨by omega,by omega⟩
    refine⟨by rw[hw];exact bk7,l7.price,by rw[hw];exact rZ hl7,bk,_,rZ hl,?_⟩
    exact⟨_,rfl,yXf (by omega),k0q⟩
   ·rintro _ rfl
    exact Cv.cnd.mk (fun e=>nomatch e) (fun _=>⟨⟨(q.2.levels.take k6).filter (ggB hh i.m.implied (flP i))++[l],(q.2.levels.take k6).any (fun l=> !ggB hh i.m.implied (flP i) l),k6+1⟩,rfl,wjn (by first|omega|(dsimp only;omega)),by rw[yXe];rfl,⟨by first|omega|(dsimp only;omega),by rw[tf,yWt eg],by rw[ta,eg];simp⟩,by first|omega|(dsimp only;omega),k0q⟩)
 have c:¬(k6:Int)<((q.2.levels.map lvE).length:Nat):=y0f c
 obtain rfl:k6=q.2.levels.length:=by omega
 rw[yZi]
 have x1:=aQ (f:=ffB hh i.m.implied (flP i)) (n:=1000) la p.2.levels.length
 have x2:=aQ (f:=ggB hh i.m.implied (flP i)) (n:=1000) lb q.2.levels.length
 rw[yZi]at x1 x2
 refine⟨false,fun z=>z=false,⟨⟨p.2.levels.filter (ffB hh i.m.implied (flP i)),q.2.levels.filter (ggB hh i.m.implied (flP i))⟩,rfl,rfl,⟨by first|omega|(dsimp only;omega),by first|omega|(dsimp only;omega)⟩,fun _ _=>Cv.cnd.mk (fun e=> ?_) (fun _=>Cv.cnd.mk (fun e=>Cv.cnd.mk (fun e2=>⟨_,rfl,?_,k0q⟩) (fun _=>⟨_,rfl,rfl,k0q⟩)) (fun _=>⟨_,rfl,rfl,k0q⟩))⟩,?_⟩
 ·exfalso
  dsimp only at e
  rw[(zDn _ _).2 F2.eq]at e
  cases e
 ·have e2:i.m.implied=false:=by simpa using e2
  have:=F2.fnd e e2
  dsimp only
  rw[this]
  show(!(decide (flQ i>0)==decide (flQ i>0)))=false
  cases decide (flQ i>0)<;>rfl
 rintro _ rfl
 refine Cv.cnd.mk (fun e=>nomatch e) (fun _=> ?_)
 clear la lb lA lB x1 x2 F2
 exact⟨j+1,wjn (by omega),by show j+1≤v.length;omega,by show v.length-(j+1)<v.length-j;omega,k0q⟩
end Sx
