/- Texts of ours, one behind the other: a walk that the kernel reckons, and contracts of functions. No condition. -/
import Derived.Maps.RangeRun
import Derived.Test.YtogkpgfggfbhaaaGreatX10
namespace Sx
set_option linter.unusedVariables false
set_option linter.unusedSimpArgs false
set_option maxRecDepth 100000
open Go Cv Go.Proofs
def qL:List zD→Int→Int
 |[],_=>0
 |o::L,id=>(if o.id=id then o.qty else 0)+qL L id
def qB:List (List zD)→Int→Int
 |[],_=>0
 |L::B,id=>qL L id+qB B id
theorem zYu (id:Int):∀A B:List zD,qL (A++B) id=qL A id+qL B id
 |[],B=>by rw[yYu,qL];omega
 |o::A,B=>by rw[yXx,qL,qL,zYu id A B];omega
theorem zWe {id:Int}:∀{L:List zD},(∀o∈L,o.id≠id)→qL L id=0
 |[],_=>rfl
 |o::L,h=>by
  rw[qL,yWl (h o yWq),zWe fun x hx=>h x (yWr _ hx)];rfl
theorem z1e {o:zD}:∀{L:List zD},(L.map (·.id)).Nodup→o∈L→qL L o.id=o.qty
 |[],_,h=>by cases h
 |x::L,hn,h=>by
  rw[yWu,yYl]at hn
  rw[qL]
  rcases yXd.1 h with rfl|h
  ·rw[yWm rfl,zWe fun y hy e=>hn.1 (yXl.2 ⟨y,hy,e⟩)];omega
  ·rw[yWl fun e=>hn.1 (yXl.2 ⟨o,h,e.symm⟩),z1e hn.2 h];omega
theorem zKv {id x y:Int} (hy:y≠id):∀L:List zD,qL (yO L id x) y=qL L y
 |[]=>rfl
 |o::L=>by
  have ih:=zKv (x:=x) hy L
  rw[yO]at ih ⊢
  rw[y0e,qL]
  by_cases c:o.id=id
  ·have hne:¬o.id=y:=fun e=>hy (by rw[← e,c])
   rw[yWm c,yWl hne]
   by_cases d:o.qty=x
   ·rw[yWm d];dsimp only;rw[ih];omega
   ·rw[yWl d];dsimp only;rw[qL,ih];dsimp only;rw[yWl hne]
  ·rw[yWl c];dsimp only;rw[qL,ih]
theorem z5e {o:zD} {x:Int}:∀{L:List zD},(L.map (·.id)).Nodup→o∈L→qL (yO L o.id x) o.id=o.qty-x
 |[],_,h=>by cases h
 |y::L,hn,h=>by
  rw[yWu,yYl]at hn
  rcases yXd.1 h with rfl|h
  ·have hno:∀z∈L,z.id≠o.id:=fun z hz e=>hn.1 (e▸yXh (f:=(·.id)) hz)
   have ht:=zBk (x:=x) hno
   rw[yO]at ht ⊢
   rw[y0e,yWm rfl,ht]
   by_cases d:o.qty=x
   ·rw[yWm d];dsimp only;rw[zWe hno];omega
   ·rw[yWl d];dsimp only;rw[qL,zWe hno];dsimp only;rw[yWm rfl];omega
  ·have hne:¬y.id=o.id:=fun e=>hn.1 (e▸yXh (f:=(·.id)) h)
   have ih:=z5e (x:=x) hn.2 h
   rw[yO]at ih ⊢
   rw[y0e,yWl hne]
   dsimp only
   rw[qL,yWl hne,ih];omega
theorem zQx {y:Int}:∀{B:List (List zD)} {k:Nat} {L L':List zD},B[k]? =some L→qB (B.set k L') y=qB B y-qL L y+qL L' y
 |[],k,L,L',h=>by cases h
 |M::B,0,L,L',h=>by cases h;rw[y0x,qB,qB];omega
 |M::B,k+1,L,L',h=>by
  have:=zQx (y:=y) (B:=B) (k:=k) (L:=L) (L':=L') h
  rw[y0y,qB,qB,this];omega
theorem zMl {id:Int}:∀{B:List (List zD)},(∀L∈B,∀o∈L,o.id≠id)→qB B id=0
 |[],_=>rfl
 |L::B,h=>by
  rw[qB,zWe (h L yWq),zMl fun M hM=>h M (yWr _ hM)];rfl
theorem zIx {p:Prd} {B:List (List zD)} (h:BWf p B) {k:Nat} {L:List zD} (hL:B[k]? =some L) {o:zD} (ho:o∈L):qB B o.id=o.qty:=by
 have hk:=(yWn.1 hL).1
 have h1:=zQx (y:=o.id) (L':=[]) hL
 have h2:qB (B.set k []) o.id=0:=by
  refine zMl fun M hM x hx e=> ?_
  obtain⟨j,hj⟩:=yYi.1 hM
  rcases uH hj with⟨_,rfl⟩|⟨hne,hj⟩
  ·cases hx
  ·exact hne (zJw h.ub hj hL (e▸yXh (f:=(·.id)) hx) (yXh (f:=(·.id)) ho))
 rw[h2,z1e (h.od k L hL).2.1 ho]at h1
 have:qL [] o.id=0:=rfl
 omega
theorem zKf {p:Prd} {B:List (List zD)} (h:BWf p B) {k:Nat} {L:List zD} (hL:B[k]? =some L) {o:zD} (ho:o∈L) {x:Int} (hx:1≤x∧x≤o.qty):(yX B o.id x).1=B.set k (yO L o.id x):=by
 have hi:=h.inst hL (yXh (f:=(·.id)) ho)
 have hg:=uA (h.od k L hL).2.1 ho
 have hh:kA L o.id=true:=hasId_iff.2 (yXh (f:=(·.id)) ho)
 simp only[yX,hi,zK hL]
 rw[xS,yWl (by rw[hh];decide),yWl (by rw[hg];omega)]
theorem z3a {p:Prd} {B:List (List zD)} (h:BWf p B) {k:Nat} {L:List zD} (hL:B[k]? =some L) {o:zD} (ho:o∈L) {x:Int} (hx:1≤x∧x≤o.qty) (y:Int):qB (yX B o.id x).1 y=if y=o.id then o.qty-x else qB B y:=by
 rw[zKf h hL ho hx,zQx hL]
 by_cases c:y=o.id
 ·subst c
  rw[yWm rfl,z5e (h.od k L hL).2.1 ho,z1e (h.od k L hL).2.1 ho,zIx h hL ho];omega
 ·rw[yWl c,zKv c];omega
theorem zBy {B:List (List zD)} {id x:Int} {k:Nat} {L:List zD} (h:(yX B id x).1[k]? =some L):∃M,B[k]? =some M∧∀o∈L,∃o'∈M,o'.id=o.id:=by
 rw[yX]at h
 split at h
 ·exact⟨L,h,fun o ho=>⟨o,ho,rfl⟩⟩
 ·rename_i j hj
  dsimp only at h
  obtain⟨M,hM,_⟩:=xO hj
  rcases uH h with⟨rfl,rfl⟩|⟨_,h⟩
  ·refine⟨M,hM,fun o ho=> ?_⟩
   rw[zK hM]at ho
   obtain⟨o',ho',_,_,e⟩:=zLq ho
   exact⟨o',ho',e.symm⟩
  ·exact⟨L,h,fun o ho=>⟨o,ho,rfl⟩⟩
theorem yAo (y s:Int):∀L:List zD,qL (clr L s) y=qL L y
 |[]=>rfl
 |o::L=>by
  have ih:=yAo y s L
  rw[clr]at ih
  rw[clr,yWu,qL,qL,ih]
  split<;>rfl
theorem yOm (L:List zD) (s id p q y:Int):qL (zEp L s id p q) y=(if id=y then q else 0)+qL L y:=by
 have h:∀(X:List zD) (b:Bool),qL (X.takeWhile (before s p)++⟨id,s,p,q,b⟩::X.dropWhile (before s p)) y=(if id=y then q else 0)+qL X y:=fun X b=>by
  have e:=zYu y (X.takeWhile (before s p)) (X.dropWhile (before s p))
  rw[y1g]at e
  rw[zYu,qL,e];dsimp only;omega
 rw[zEp,h]
 by_cases c:uX L s p=true
 ·rw[yWm c,yAo]
 ·rw[yWl c]
structure Stm where
 left:Int→Int
 own:Int→Int
def upd (f:Int→Int) (k v:Int):Int→Int:=fun x=>if x=k then v else f x
def stN (s:Stm) (r:Rep):Stm:=
 if r.kind=1 then⟨upd s.left r.id r.qty,upd s.own r.id r.inst⟩
 else if r.kind=2∨(r.kind=3∧r.inst≠s.own r.id)then s
 else⟨upd s.left r.id r.left,s.own⟩
theorem zSv {s:Stm} {r:Rep} (h1:r.kind≠1) (h2:r.kind≠2) (h3:r.kind=3→r.inst=s.own r.id):stN s r=⟨upd s.left r.id r.left,s.own⟩:=by
 rw[stN,yWl h1,yWl fun h=>h.elim h2 fun h=>h.2 (h3 h.1)]
theorem z4l {s:Stm} {r:Rep} (h:r.kind=3) (h2:r.inst≠s.own r.id):stN s r=s:=by
 rw[stN,yWl (by omega),yWm (.inr ⟨h,h2⟩)]
structure StG (p:Prd) (D:Int→Prop) (s:Stm) (r:Rep):Prop where
 d:D r.id
 i:0≤r.inst∧r.inst<p.count
 q:0≤r.qty∧r.qty≤1000000
 l:0≤r.left∧r.left≤1000000
 k:(r.kind=1∧s.left r.id=0∧1≤r.qty∧r.left=r.qty)∨
  (r.kind=3∧1≤r.qty∧(r.side=1∨r.side=2)∧((r.inst=s.own r.id∧r.qty≤s.left r.id∧r.left=s.left r.id-r.qty)∨
    (r.inst≠s.own r.id∧(p.legs (s.own r.id)).2.2=true∧(r.inst=(p.legs (s.own r.id)).1∨r.inst=(p.legs (s.own r.id)).2.1)∧r.left=s.left r.id)))∨
  (r.kind=4∧1≤r.qty∧r.qty=s.left r.id∧r.left=0)∨
  (r.kind=5∧r.qty<s.left r.id∧r.left=s.left r.id-r.qty)
def cH (p:Prd) (D:Int→Prop):Stm→List Rep→Prop
 |_,[]=>True
 |s,r::l=>StG p D s r∧cH p D (stN s r) l
def uR (s:Stm) (l:List Rep):Stm:=l.foldl stN s
theorem fW {p:Prd} {D:Int→Prop}:∀{s:Stm} {a b:List Rep},cH p D s a→cH p D (uR s a) b→cH p D s (a++b)
 |_,[],_,_,h=>h
 |_,_::_,_,h,h2=>⟨h.1,fW h.2 h2⟩
theorem zEw (s:Stm) (r:Rep):uR s [r]=stN s r:=rfl
theorem bD (s:Stm) (a b:List Rep):uR s (a++b)=uR (uR s a) b:=y2m
def one (r:Rep) (m:Int):Int:=if r.kind=3∧r.inst=m then(if r.side=1 then r.qty else-r.qty)else 0
def uS:List Rep→Int→Int
 |[],_=>0
 |r::l,m=>one r m+uS l m
theorem aB (m:Int):∀a b:List Rep,uS (a++b) m=uS a m+uS b m
 |[],b=>by rw[yYu,uS];omega
 |r::a,b=>by rw[yXx,uS,uS,aB m a b];omega
def vq (p:Prd) (k s q m:Int):Int:=
 if(p.legs k).2.2=true then(if(p.legs k).1=m then(if s=1 then q else-q)else 0)-(if(p.legs k).2.1=m then(if s=1 then q else-q)else 0)
 else if k=m then(if s=1 then q else-q)else 0
theorem yRf (p:Prd) (k s a b m:Int):vq p k s (a+b) m=vq p k s a m+vq p k s b m:=by
 rw[vq,vq,vq]
 split
 ·repeat' split
  all_goals omega
 ·repeat' split
  all_goals omega
theorem zZy (p:Prd) {s:Int} (hs:s=1∨s=2) (k q m:Int):vq p k (3-s) q m= -vq p k s q m:=by
 rw[vq,vq]
 rcases hs with rfl|rfl
 ·split
  ·repeat' split
   all_goals omega
  ·repeat' split
   all_goals omega
 ·split
  ·repeat' split
   all_goals omega
  ·repeat' split
   all_goals omega
theorem z1o {p:Prd} (hc:p.check=0) {k:Int} (hk:0≤k∧k<p.count) (hs:(p.legs k).2.2=true):(0≤(p.legs k).1∧(p.legs k).1<p.months.length)∧(0≤(p.legs k).2.1∧(p.legs k).2.1<p.months.length)∧(p.months.length:Int)≤k∧(p.legs k).1≠(p.legs k).2.1:=by
 obtain⟨n,rfl⟩:∃n:Nat,k=n:=⟨k.toNat,by omega⟩
 have hn:n<p.count:=by omega
 have hne:=zQp hc hn hs
 rcases wC hc hn with⟨_,a,b,c,d⟩|⟨e,_⟩
 ·refine⟨⟨a,b⟩,⟨c,d⟩,?_,hne⟩
  rcases Int.lt_or_le (n:Int) p.months.length with x|x
  ·exfalso
   rw[Prd.legs,yWl (by omega),yWm x]at hs
   cases hs
  ·exact x
 ·rw[e]at hs;cases hs
theorem zXm {p:Prd} (hc:p.check=0) {a b:Nat} (hab:a<b) (hb:b<p.months.length):p.legs (p.spread a b).1=((a:Int),(b:Int),true):=by
 obtain⟨k,t⟩:=yPg hc hab hb
 rw[t.hs];exact t.hl
theorem zCv {p:Prd} (hc:p.check=0) {k:Nat} (hk:k<p.months.length):(p.legs k).2.2=false:=by
 rw[Prd.legs]
 split
 ·rfl
 ·rw[yWm (by omega)]
theorem yGn {p:Prd} (hc:p.check=0) {T:List Top} (hT:T.length=p.count) {inst:Int} {s:Int} (hs:s=1∨s=2) {q:Quote} (h:q∈qW ⟨p,T,inst⟩ s) (x m:Int):vq p q.a.inst q.a.side x m+vq p q.b.inst q.b.side x m=vq p inst s x m:=by
 rw[qW]at h
 dsimp only at h
 split at h
 ·cases h
 ·rename_i hn
  obtain⟨k,rfl⟩:∃k:Nat,inst=k:=⟨inst.toNat,by omega⟩
  have hk:k<p.count:=by omega
  have hge:=sW hc
  split at h
  ·rename_i hl
   obtain⟨q',hq',rfl⟩:=yXl.1 h
   obtain⟨l1,l2,l3,l4⟩:=z1o hc (k:=(k:Int)) (by omega) hl
   obtain⟨u,hu⟩:∃u:Nat,(p.legs k).1=u:=⟨(p.legs k).1.toNat,by omega⟩
   obtain⟨v,hv⟩:∃v:Nat,(p.legs k).2.1=v:=⟨(p.legs k).2.1.toNat,by omega⟩
   have mu:=zCv hc (k:=u) (by omega)
   have mv:=zCv hc (k:=v) (by omega)
   dsimp only[dQ]
   rw[hu,hv,zZy p hs]
   simp only[vq,mu,mv,hl,hu,hv,if_true,yXe,if_false]
   omega
  ·rename_i hl
   have hl:(p.legs k).2.2=false:=by simpa using hl
   have hm:k<p.months.length:=by
    rcases wC hc hk with⟨e,_⟩|⟨_,e⟩
    ·rw[hl]at e;cases e
    ·exact e
   rcases yXo.1 h with h|h
   ·obtain⟨j,hj,h⟩:=yYt.1 h
    have hj:=yZg.1 hj
    rw[yXc]at hj
    have s1:=gV hc (a:=k) (b:=k+1+j) (by omega) (by omega)
    have s2:=eF hc (a:=k) (b:=k+1+j) (by omega) (by omega)
    have sl:=zXm hc (a:=k) (b:=k+1+j) (by omega) (by omega)
    have mv:=zCv hc (k:=k+1+j) (by omega)
    have ec:((k:Int)+1+j)=((k+1+j:Nat):Int):=by omega
    rw[ec]at h
    obtain⟨ok,e1,e2⟩:=zLl h (by dsimp only;omega) (by dsimp only;omega) hs hs (by dsimp only;omega)
    rw[e1,e2]
    dsimp only
    simp only[vq,sl,hl,mv,if_true,yXe,if_false]
    omega
   ·obtain⟨j,hj,h⟩:=yYt.1 h
    have hj:=yZg.1 hj
    rw[yXc]at hj
    have s1:=gV hc (a:=j) (b:=k) (by omega) (by omega)
    have s2:=eF hc (a:=j) (b:=k) (by omega) (by omega)
    have sl:=zXm hc (a:=j) (b:=k) (by omega) (by omega)
    have mv:=zCv hc (k:=j) (by omega)
    obtain⟨ok,e1,e2⟩:=zLl h (by dsimp only;omega) (by dsimp only;omega) (by dsimp only;omega) hs (by dsimp only;omega)
    rw[e1,e2]
    dsimp only
    rw[zZy p hs]
    simp only[vq,sl,hl,mv,if_true,yXe,if_false]
    omega
theorem zHv {p:Prd} {r:Rep} (m:Int) (hk:r.kind=3) (hs:r.side=1∨r.side=2):one r m=if r.inst=m then(if r.side=1 then r.qty else-r.qty)else 0:=by
 rw[one]
 by_cases c:r.inst=m
 ·rw[yWm ⟨hk,c⟩,yWm c]
 ·rw[yWl fun h=>c h.2,yWl c]
theorem z1s {p:Prd} (hc:p.check=0) {D:Int→Prop} {S:Stm} (x:qZ) {r:Rep} (hd:D r.id) (hk:r.kind=3) (hi:0≤r.inst∧r.inst<p.count) (ho:r.inst=S.own r.id) (hq:1≤r.qty∧r.qty≤S.left r.id∧S.left r.id≤1000000) (hl:r.left=S.left r.id-r.qty) (hs:r.side=1∨r.side=2):
 cH p D S (kQ p x r)∧uR S (kQ p x r)=⟨upd S.left r.id r.left,S.own⟩∧∀m,0≤m→m<p.months.length→uS (kQ p x r) m=vq p r.inst r.side r.qty m:=by
 have hn:stN S r=⟨upd S.left r.id r.left,S.own⟩:=zSv (by omega) (by omega) fun _=>ho
 have hg:StG p D S r:=⟨hd,hi,by omega,by omega,.inr (.inl ⟨hk,hq.1,hs,.inl ⟨ho,hq.2.1,hl⟩⟩)⟩
 rw[kQ]
 cases c:(p.legs r.inst).2.2 with
 |false=>
  rw[yWl (by decide)]
  refine⟨⟨hg,trivial⟩,hn,fun m _ _=> ?_⟩
  rw[uS,uS,zHv (p:=p) m hk hs,vq]
  simp only[c,yXe,if_false]
  omega
 |true=>
  obtain⟨l1,l2,l3,l4⟩:=z1o hc hi c
  rw[yWm rfl,tT]
  have hu:upd S.left r.id r.left r.id=r.left:=by rw[upd,yWm rfl]
  have hc':(p.legs (S.own r.id)).2.2=true:=by rw[← ho];exact c
  have h1:StG p D ⟨upd S.left r.id r.left,S.own⟩ {r with inst:=(p.legs r.inst).1,price:=(qM p r.inst x).1}:=by
   refine⟨hd,by dsimp only;omega,by dsimp only;omega,by dsimp only;omega,.inr (.inl ⟨hk,hq.1,hs,.inr ⟨?_,hc',.inl ?_,hu.symm⟩⟩)⟩
   ·dsimp only;omega
   ·dsimp only;rw[← ho]
  have h2:StG p D ⟨upd S.left r.id r.left,S.own⟩ {r with inst:=(p.legs r.inst).2.1,side:=3-r.side,price:=(qM p r.inst x).2}:=by
   refine⟨hd,by dsimp only;omega,by dsimp only;omega,by dsimp only;omega,.inr (.inl ⟨hk,hq.1,by dsimp only;omega,.inr ⟨?_,hc',.inr ?_,hu.symm⟩⟩)⟩
   ·dsimp only;omega
   ·dsimp only;rw[← ho]
  have n1:stN ⟨upd S.left r.id r.left,S.own⟩ {r with inst:=(p.legs r.inst).1,price:=(qM p r.inst x).1}=⟨upd S.left r.id r.left,S.own⟩:=z4l hk (by dsimp only;omega)
  have n2:stN ⟨upd S.left r.id r.left,S.own⟩ {r with inst:=(p.legs r.inst).2.1,side:=3-r.side,price:=(qM p r.inst x).2}=⟨upd S.left r.id r.left,S.own⟩:=z4l hk (by dsimp only;omega)
  refine⟨⟨hg,?_⟩,?_,fun m m0 m1=> ?_⟩
  ·rw[hn]
   exact⟨h1,by rw[n1];exact⟨h2,trivial⟩⟩
  ·show stN (stN (stN S r) _) _=_
   rw[hn,n1,n2]
  ·rw[uS,uS,uS,uS,zHv (p:=p) m hk hs,zHv (p:=p) m (r:={r with inst:=(p.legs r.inst).1,price:=(qM p r.inst x).1}) hk hs,zHv (p:=p) m (r:={r with inst:=(p.legs r.inst).2.1,side:=3-r.side,price:=(qM p r.inst x).2}) hk (by dsimp only;omega),vq,yWm c,yWl (by omega)]
   dsimp only
   repeat' split
   all_goals omega
structure FitX (D:Int→Prop) (S:Stm) (B:List (List zD)) (id lf inst:Int):Prop where
 rest:∀x,x≠id→S.left x=qB B x
 me:S.left id=lf
 own:∀(k:Nat) (L:List zD),B[k]? =some L→∀o∈L,S.own o.id=k
 mine:S.own id=inst
 no:∀L∈B,∀o∈L,o.id≠id
 d:∀L∈B,∀o∈L,D o.id
 di:D id
theorem FitX.take {D:Int→Prop} {S:Stm} {p:Prd} {B:List (List zD)} {id lf inst:Int} (h:FitX D S B id lf inst) (hB:BWf p B) {k:Nat} {L:List zD} (hL:B[k]? =some L) {o:zD} (ho:o∈L) {x:Int} (hx:1≤x∧x≤o.qty):FitX D ⟨upd S.left o.id (o.qty-x),S.own⟩ (yX B o.id x).1 id lf inst:=by
 have hne:o.id≠id:=h.no L (yWv hL) o ho
 refine⟨fun y hy=> ?_,?_,fun j M hM z hz=> ?_,h.mine,fun M hM z hz=> ?_,fun M hM z hz=> ?_,h.di⟩
 ·rw[z3a hB hL ho hx]
  dsimp only[upd]
  by_cases c:y=o.id
  ·rw[yWm c,yWm c]
  ·rw[yWl c,yWl c];exact h.rest y hy
 ·dsimp only[upd]
  rw[yWl fun e=>hne e.symm];exact h.me
 ·obtain⟨M',h1,h2⟩:=zBy hM
  obtain⟨o',h3,h4⟩:=h2 z hz
  rw[← h4];exact h.own j M' h1 o' h3
 ·obtain⟨j,hj⟩:=yYi.1 hM
  obtain⟨M',h1,h2⟩:=zBy hj
  obtain⟨o',h3,h4⟩:=h2 z hz
  rw[← h4];exact h.no M' (yWv h1) o' h3
 ·obtain⟨j,hj⟩:=yYi.1 hM
  obtain⟨M',h1,h2⟩:=zBy hj
  obtain⟨o',h3,h4⟩:=h2 z hz
  rw[← h4];exact h.d M' (yWv h1) o' h3
theorem zKt {p:Prd} {D:Int→Prop} {k:Nat} {s id lf inst:Int} (hs:s=1∨s=2) (x:qZ):∀{os:List zD} {sh:List Int} {B:List (List zD)} {L:List zD} {S:Stm},BWf p B→B[k]? =some L→(∀o∈os,o∈L)→(os.map (·.id)).Nodup→sh.length=os.length→(∀n,0≤sh.getD n 0∧sh.getD n 0≤(os.map (·.qty)).getD n 0)→FitX D S B id lf inst→
 cH p D S ((yI k s os sh).flatMap fun f=>kQ p x (fS f))∧FitX D (uR S ((yI k s os sh).flatMap fun f=>kQ p x (fS f))) (y6 B (yI k s os sh)) id lf inst∧
 ∀m,0≤m→m<p.months.length→uS ((yI k s os sh).flatMap fun f=>kQ p x (fS f)) m=vq p k s sh.sum m
 |[],sh,B,L,S,h,hL,ho,hn,hl,hb,hF=>by
  have:sh=[]:=List.length_eq_zero_iff.1 hl
  subst this
  refine⟨trivial,hF,fun m _ _=> ?_⟩
  show 0=vq p k s 0 m
  rw[vq]
  repeat' split
  all_goals omega
 |o::os,[],B,L,S,h,hL,ho,hn,hl,hb,hF=>by cases hl
 |o::os,y::sh,B,L,S,h,hL,ho,hn,hl,hb,hF=>by
  have hy:0≤y∧y≤o.qty:=hb 0
  have hb':∀n,0≤sh.getD n 0∧sh.getD n 0≤(os.map (·.qty)).getD n 0:=fun n=>hb (n+1)
  have hl':sh.length=os.length:=by simpa using hl
  rw[yWu,yYl]at hn
  have ho0:=ho o yWq
  have ho':∀z∈os,z∈L:=fun z hz=>ho z (yWr _ hz)
  rw[yXj,yI]
  by_cases c:0<y
  ·rw[yWm c]
   have hx:1≤y∧y≤o.qty:=by omega
   have hk:=(yWn.1 hL).1
   have hod:=h.od k L hL
   have hoq:=(hod.1 o ho0).q
   have hne:o.id≠id:=hF.no L (yWv hL) o ho0
   have hlf:S.left o.id=o.qty:=by rw[hF.rest _ hne,zIx h hL ho0]
   have hbl:=h.ok.bl
   obtain⟨t1,t2,t3⟩:=z1s h.ok.pc (D:=D) (S:=S) x (r:=⟨3,o.id,k,s,o.price,y,o.qty-y,0⟩) (hF.d L (yWv hL) o ho0) rfl (by dsimp only;omega) (hF.own k L hL o ho0).symm (by dsimp only;omega) (by dsimp only;rw[hlf]) hs
   have hF':=hF.take h hL ho0 hx
   have hW:=h.take o.id y
   have hL':(yX B o.id y).1[k]? =some (yO L o.id y):=by rw[zKf h hL ho0 hx];exact uY hk
   obtain⟨i1,i2,i3⟩:=zKt (s:=s) hs x (os:=os) (sh:=sh) hW hL' (fun z hz=>yZz.2 ⟨z,ho' z hz,yWl fun(e:z.id=o.id)=>hn.1 (yXl.2 ⟨z,hz,e⟩)⟩) hn.2 hl' hb' hF'
   rw[yYc]
   show cH p D S (kQ p x ⟨3,o.id,k,s,o.price,y,o.qty-y,0⟩++_)∧FitX D (uR S (kQ p x ⟨3,o.id,k,s,o.price,y,o.qty-y,0⟩++_)) _ id lf inst∧∀m,0≤m→m<p.months.length→uS (kQ p x ⟨3,o.id,k,s,o.price,y,o.qty-y,0⟩++_) m=_
   refine⟨fW t1 ?_,?_,fun m m0 m1=> ?_⟩
   ·rw[t2];exact i1
   ·rw[bD,t2];exact i2
   ·rw[aB,t3 m m0 m1,i3 m m0 m1,yRf]
  ·rw[yWl c]
   have:y=0:=by omega
   subst this
   rw[Int.zero_add]
   exact zKt hs x h hL ho' hn.2 hl' hb' hF
theorem zZu {p:Prd} {D:Int→Prop} {B:List (List zD)} (h:BWf p B) {q:Int} {g:List vL} {k:Nat} {s pr:Int} (G:yRm p B q g k s pr) {S:Stm} {id lf inst:Int} (hF:FitX D S B id lf inst) (x:qZ):
 cH p D S (g.flatMap fun f=>kQ p x (fS f))∧FitX D (uR S (g.flatMap fun f=>kQ p x (fS f))) (y6 B g) id lf inst∧
 ∀m,0≤m→m<p.months.length→uS (g.flatMap fun f=>kQ p x (fS f)) m=vq p k s q m:=by
 obtain⟨L,hL⟩:=yA G.lt
 have e:=G.eq
 have Sh:=G.sh
 rw[zK hL]at e Sh
 have ho:=h.od k L hL
 have:=zKt (D:=D) (k:=k) G.s12 x (os:=atL L s pr) h hL (fun o ho=>(yXt.1 ho).1) (ho.2.1.sublist (List.Sublist.map _ yZv)) (by rw[Sh.len,yWo]) Sh.bd hF
 rw[Sh.sum,← e]at this
 exact this
theorem yDa {sd:Bool}:zB (!sd)=3-zB sd:=by cases sd<;>rfl
theorem yJv {p:Prd} {D:Int→Prop} {B:List (List zD)} (h:BWf p B) {inst:Int} (hi:0≤inst∧inst<B.length) {sd:Bool} {price q:Int} (hq:1≤q∧q≤1000000) {t:qZ} {B':List (List zD)} (e:jW p B inst sd price q=some (t,B')) {c:Cmd} (hci:c.inst=inst) (hcs:c.side=zB sd) {S:Stm} (hF:FitX D S B c.id q inst):
 cH p D S (fV p c t (q-t.qty))∧FitX D (uR S (fV p c t (q-t.qty))) B' c.id (q-t.qty) inst∧∀m,0≤m→m<p.months.length→uS (fV p c t (q-t.qty)) m=0:=by
 have hs:zB (!sd)=1∨zB (!sd)=2:=cN _
 have hsd:zB sd=1∨zB sd=2:=cN _
 have hin:=eM h.ok h.od hi hs
 have hbl:=h.ok.bl
 have htq:=sB hq.1 e
 have key:cH p D S (t.fills.flatMap fun f=>kQ p t (fS f))∧FitX D (uR S (t.fills.flatMap fun f=>kQ p t (fS f))) B' c.id q inst∧∀m,0≤m→m<p.months.length→uS (t.fills.flatMap fun f=>kQ p t (fS f)) m=vq p inst (zB (!sd)) t.qty m:=by
  rw[jW]at e
  dsimp only at e
  split at e
  ·rename_i c0
   have c1:(zW p B inst (zB (!sd))).2.2=true:=by
    cases hx:(zW p B inst (zB (!sd))).2.2 with
    |false=>rw[hx]at c0;cases c0
    |true=>rfl
   obtain⟨hq1,h1,h2⟩:=hin c1
   split at e
   ·rename_i c2
    obtain⟨hall,ok⟩:=h1 c2
    have hv:=yGn h.ok.pc (T:=B.map u7) (by rw[yWo];exact hbl) hs hall t.qty
    generalize (zW p B inst (zB (!sd))).1=n at*
    obtain⟨np,nq,⟨ai,az⟩,⟨bi,bs⟩⟩:=n
    have a:=ok.a
    have b:=ok.b
    have ne:=ok.ne
    rw[yWo]at a b
    dsimp only at a b ne hq1
    obtain⟨ka,rfl⟩:∃k:Nat,ai=k:=⟨ai.toNat,by omega⟩
    obtain⟨kb,rfl⟩:∃k:Nat,bi=k:=⟨bi.toNat,by omega⟩
    obtain⟨La,hLa⟩:=yA (l:=B) (i:=ka) (by omega)
    obtain⟨Lb,hLb⟩:=yA (l:=B) (i:=kb) (by omega)
    have e1:=ok.ha
    have e2:=ok.hb
    have e3:=ok.qty
    have sa:az=1∨az=2:=ok.sa
    have bz:bs=1∨bs=2:=ok.sb
    dsimp only at e1 e2 e3 hv
    rw[yXc,zAm hLa]at e1 e3
    rw[yXc,zAm hLb]at e2 e3
    rw[(uB La sa).1]at e1
    rw[(uB Lb bz).1]at e2
    rw[(uB La sa).2.1,(uB Lb bz).2.1]at e3
    cases e
    dsimp only at htq hv ⊢
    have hl:=gZ h (k:=ka) (j:=kb) (by omega) hLa hLb az (min q nq)
    have hW2:BWf p (y6 B (y4 p B ka az (min q nq))):=h.takes
    obtain⟨i1,i2,i3⟩:=zZu h (zRg h hLa sa e1 (q:=min q nq) (by omega)) hF ⟨np,min q nq,true,y4 p B ka az (min q nq)++y4 p (y6 B (y4 p B ka az (min q nq))) kb bs (min q nq)⟩
    obtain⟨j1,j2,j3⟩:=zZu hW2 (zRg hW2 hl bz e2 (q:=min q nq) (by omega)) i2 ⟨np,min q nq,true,y4 p B ka az (min q nq)++y4 p (y6 B (y4 p B ka az (min q nq))) kb bs (min q nq)⟩
    rw[yYh]
    refine⟨fW i1 j1,by rw[bD];exact j2,fun m m0 m1=> ?_⟩
    rw[aB,i3 m m0 m1,j3 m m0 m1];exact hv m
   ·rename_i c2
    have c2:(zW p B inst (zB (!sd))).2.1=false:=by simpa using c2
    obtain⟨d1,d2,d3⟩:=h2 c2
    obtain⟨k0,rfl⟩:∃k:Nat,inst=k:=⟨inst.toNat,by omega⟩
    obtain⟨L,hL⟩:=yA (l:=B) (i:=k0) (by omega)
    rw[yXc,zK hL]at d1 d2 d3
    cases e
    dsimp only at htq ⊢
    exact zZu h (zRg h hL hs d1 (q:=min q (zW p B k0 (zB (!sd))).1.qty) (by omega)) hF _
  ·cases e
 obtain⟨k1,k2,k3⟩:=key
 rw[fV]
 obtain⟨t1,t2,t3⟩:=z1s h.ok.pc (D:=D) (S:=uR S (t.fills.flatMap fun f=>kQ p t (fS f))) t (r:=⟨3,c.id,c.inst,c.side,t.price,t.qty,q-t.qty,0⟩) k2.di rfl (by dsimp only;omega) (by dsimp only;rw[k2.mine,hci]) (by dsimp only;rw[k2.me];omega) (by dsimp only;rw[k2.me]) (by dsimp only;omega)
 refine⟨fW k1 t1,?_,fun m m0 m1=> ?_⟩
 ·rw[bD,t2]
  exact⟨fun y hy=>by dsimp only[upd];rw[yWl hy];exact k2.rest y hy,by dsimp only[upd];rw[yWm rfl],k2.own,k2.mine,k2.no,k2.d,k2.di⟩
 ·rw[aB,k3 m m0 m1,t3 m m0 m1]
  dsimp only
  rw[hci,hcs,yDa,zZy p hsd];omega
theorem yBh {p:Prd} {D:Int→Prop} {inst:Int} {sd:Bool} {price:Int} {c:Cmd} (hci:c.inst=inst) (hcs:c.side=zB sd):∀(m:Nat) (q:Int) (B:List (List zD)) (S:Stm),q.toNat≤m→0≤q∧q≤1000000→BWf p B→0≤inst∧inst<B.length→FitX D S B c.id q inst→
 cH p D S (j6 p c (qG p B inst sd price q).steps q)∧FitX D (uR S (j6 p c (qG p B inst sd price q).steps q)) (qG p B inst sd price q).B c.id (qG p B inst sd price q).left inst∧∀n,0≤n→n<p.months.length→uS (j6 p c (qG p B inst sd price q).steps q) n=0
 |m,q,B,S,hm,hq0,h,hi,hF=>by
  by_cases hq:q≤0
  ·rw[vV (.inl hq)];exact⟨trivial,hF,fun _ _ _=>rfl⟩
  cases hs:jW p B inst sd price q with
  |none=>rw[vV (.inr hs)];exact⟨trivial,hF,fun _ _ _=>rfl⟩
  |some x=>
   obtain⟨t,C⟩:=x
   have htq:=sB (by omega) hs
   obtain⟨hW,hl⟩:=zEo h hs
   obtain⟨i1,i2,i3⟩:=yJv h hi (by omega) hs hci hcs hF
   cases m with
   |zero=>omega
   |succ m=>
   obtain⟨j1,j2,j3⟩:=yBh (price:=price) hci hcs m (q-t.qty) C _ (by omega) (by omega) hW (by rw[hl];exact hi) i2
   rw[a8 (by omega) hs]
   dsimp only
   rw[j6]
   refine⟨fW i1 j1,by rw[bD];exact j2,fun n n0 n1=> ?_⟩
   rw[aB,i3 n n0 n1,j3 n n0 n1];rfl
structure Fits (D:Int→Prop) (S:Stm) (B:List (List zD)):Prop where
 lf:∀x,S.left x=qB B x
 own:∀(k:Nat) (L:List zD),B[k]? =some L→∀o∈L,S.own o.id=k
 d:∀L∈B,∀o∈L,D o.id
theorem yJz (B:List (List zD)):zDx B=qQ B:=zSm B 0
theorem z1z:∀{B:List (List zD)} {L:List zD},L∈B→L.length≤qQ B
 |[],L,h=>by cases h
 |M::B,L,h=>by
  rw[qQ,yWu,yXj]
  rcases yXd.1 h with rfl|h
  ·omega
  ·have:=z1z h
   rw[qQ]at this;omega
theorem yId {B:List (List zD)} {id:Int} (h:∀L∈B,∀o∈L,o.id≠id):fF B id=none:=by
 cases e:fF B id with
 |none=>rfl
 |some k=>
  obtain⟨L,hL,hh⟩:=xO e
  obtain⟨o,ho,e2⟩:=yXl.1 (hasId_iff.1 hh)
  exact absurd e2 (h L (yWv hL) o ho)
theorem yPm {D:Int→Prop} {S:Stm} {p:Prd} {B:List (List zD)} {id lf inst s price:Int} (h:FitX D S B id lf inst) (hi:0≤inst∧inst<B.length) (hq:1≤lf∧lf≤1000000) (hn:qQ B<250) (hp:p.price inst price=0):Fits D S (zCx p B inst id s price lf).1:=by
 obtain⟨k,rfl⟩:∃k:Nat,inst=k:=⟨inst.toNat,by omega⟩
 obtain⟨L,hL⟩:=yA (l:=B) (i:=k) (by omega)
 have hLm:=yWv hL
 have hln:=z1z hLm
 have hh:kA L id=false:=by
  cases e:kA L id with
  |false=>rfl
  |true=>
   obtain⟨o,ho,e2⟩:=yXl.1 (hasId_iff.1 e)
   exact absurd e2 (h.no L hLm o ho)
 have hin:=yId h.no
 have e:(zCx p B k id s price lf).1=B.set k (zEp L s id price lf):=by
  rw[zCx,yWl (by omega),hin,yWl (show ¬(none:Option Nat).isSome=true by decide),yWl (by rw[zSm];omega),yWl (by rw[hp];decide),yXc,zK hL,rM,yWl (by omega),hh,yWl (by decide),yWl (by omega)]
 have hmem:∀o∈zEp L s id price lf,o.id=id∨∃o'∈L,o'.id=o.id:=fun o ho=>by
  rcases yXd.1 ((zBw L s id price lf).mem_iff.1 (yXh (f:=(·.id)) ho))with e|hm
  ·exact .inl e
  ·obtain⟨o',ho',e⟩:=yXl.1 hm
   exact .inr ⟨o',ho',e⟩
 rw[e]
 refine⟨fun x=> ?_,fun j M hM o ho=> ?_,fun M hM o ho=> ?_⟩
 ·rw[zQx hL,yOm]
  by_cases c:id=x
  ·subst c
   rw[yWm rfl,h.me,zMl h.no];omega
  ·rw[yWl c,h.rest x fun e=>c e.symm];omega
 ·rcases uH hM with⟨rfl,rfl⟩|⟨_,hM⟩
  ·rcases hmem o ho with e|⟨o',ho',e⟩
   ·rw[e];exact h.mine
   ·rw[← e];exact h.own _ L hL o' ho'
  ·exact h.own j M hM o ho
 ·rcases y1c hM with hM|rfl
  ·exact h.d M hM o ho
  ·rcases hmem o ho with e|⟨o',ho',e⟩
   ·rw[e];exact h.di
   ·rw[← e];exact h.d L hLm o' ho'
theorem FitX.fits {D:Int→Prop} {S:Stm} {B:List (List zD)} {id inst:Int} (h:FitX D S B id 0 inst):Fits D S B:=by
 refine⟨fun x=> ?_,h.own,h.d⟩
 by_cases c:x=id
 ·subst c;rw[h.me,zMl h.no]
 ·exact h.rest x c
theorem zUa {p:Prd} {inst:Int} {sd:Bool} {price:Int} {q:Int} {B:List (List zD)} (h:BWf p B) (hi:0≤inst∧inst<B.length):qQ (qG p B inst sd price q).B≤qQ B:=(z3o _ q B (yXn _) h hi).2.2.2
theorem zUm {p:Prd} {D:Int→Prop} {B:List (List zD)} (h:BWf p B) (U:List Int) {c:Cmd} (hi:0≤c.inst∧c.inst<B.length) (hs:c.side=1∨c.side=2) (hq:1≤c.qty∧c.qty≤1000000) (hp:p.price c.inst c.price=0) (hn:qQ B<250) {S:Stm} (hF:Fits D S B) (hno:∀L∈B,∀o∈L,o.id≠c.id) (hd:D c.id):
 cH p D S (wI p B U c).R∧Fits D (uR S (wI p B U c).R) (wI p B U c).B∧∀n,0≤n→n<p.months.length→uS (wI p B U c).R n=0:=by
 have hsd:c.side=zB (decide (c.side=2)):=by rcases hs with e|e<;>rw[e]<;>rfl
 have hbl:=h.ok.bl
 have hF0:FitX D (stN S ⟨1,c.id,c.inst,c.side,c.price,c.qty,c.qty,0⟩) B c.id c.qty c.inst:=by
  rw[stN,yWm rfl]
  dsimp only
  refine⟨fun x hx=> ?_,?_,fun k L hL o ho=> ?_,?_,hno,hF.d,hd⟩
  ·dsimp only[upd];rw[yWl hx];exact hF.lf x
  ·dsimp only[upd];rw[yWm rfl]
  ·dsimp only[upd];rw[yWl (hno L (yWv hL) o ho)];exact hF.own k L hL o ho
  ·dsimp only[upd];rw[yWm rfl]
 have g0:StG p D S ⟨1,c.id,c.inst,c.side,c.price,c.qty,c.qty,0⟩:=⟨hd,by dsimp only;omega,by dsimp only;omega,by dsimp only;omega,.inl ⟨rfl,by dsimp only;rw[hF.lf,zMl hno],hq.1,rfl⟩⟩
 obtain⟨i1,i2,i3⟩:=yBh (price:=c.price) (rfl:c.inst=c.inst) hsd _ c.qty B _ (yXn _) (by omega) h hi hF0
 have hcn:=zUa (sd:=decide (c.side=2)) (price:=c.price) (q:=c.qty) h hi
 obtain⟨hW,hl,hleft⟩:=bY (inst:=c.inst) (sd:=decide (c.side=2)) (price:=c.price) _ c.qty B (yXn _) h
 have hleft:=hleft (by omega)
 rw[wV]
 generalize qG p B c.inst (decide (c.side=2)) c.price c.qty=R at*
 obtain⟨ts,left,B'⟩:=R
 dsimp only at*
 by_cases cl:left=0
 ·subst cl
  rw[yWl fun x=>x.1 rfl,yWl fun x=>x.1 rfl,yXk]
  exact⟨⟨g0,i1⟩,i2.fits,fun n n0 n1=>by rw[uS,i3 n n0 n1,one,yWl (fun x=>absurd x.1 (by show ¬(1:Int)=3;decide))];rfl⟩
 by_cases ct:c.time=1
 ·rw[yWl (show ¬(left≠0∧c.time≠1)from fun x=>x.2 ct),yWm (show left≠0∧c.time=1 from⟨cl,ct⟩),yXk]
  exact⟨⟨g0,i1⟩,yPm i2 (by omega) (by omega) (by omega) hp,fun n n0 n1=>by rw[uS,i3 n n0 n1,one,yWl (fun x=>absurd x.1 (by show ¬(1:Int)=3;decide))];rfl⟩
 ·rw[yWm (show left≠0∧c.time≠1 from⟨cl,ct⟩),yWl (show ¬(left≠0∧c.time=1)from fun x=>ct x.2)]
  have g2:StG p D (uR (stN S ⟨1,c.id,c.inst,c.side,c.price,c.qty,c.qty,0⟩) (j6 p c ts c.qty)) ⟨4,c.id,c.inst,c.side,c.price,left,0,0⟩:=⟨hd,by dsimp only;omega,by dsimp only;omega,by dsimp only;omega,.inr (.inr (.inl ⟨rfl,by dsimp only;omega,by dsimp only;rw[i2.me],rfl⟩))⟩
  have n2:stN (uR (stN S ⟨1,c.id,c.inst,c.side,c.price,c.qty,c.qty,0⟩) (j6 p c ts c.qty)) ⟨4,c.id,c.inst,c.side,c.price,left,0,0⟩=⟨upd (uR (stN S ⟨1,c.id,c.inst,c.side,c.price,c.qty,c.qty,0⟩) (j6 p c ts c.qty)).left c.id 0,(uR (stN S ⟨1,c.id,c.inst,c.side,c.price,c.qty,c.qty,0⟩) (j6 p c ts c.qty)).own⟩:=zSv (by show(4:Int)≠1;decide) (by show(4:Int)≠2;decide) fun h=>absurd (show(4:Int)=3 from h) (by decide)
  refine⟨⟨g0,fW i1 ⟨g2,trivial⟩⟩,?_,fun n n0 n1=> ?_⟩
  ·show Fits D (uR (stN S _) (j6 p c ts c.qty++[_])) B'
   rw[bD,zEw,n2]
   refine⟨fun x=> ?_,i2.own,i2.d⟩
   dsimp only[upd]
   by_cases e:x=c.id
   ·rw[yWm e,e,zMl i2.no]
   ·rw[yWl e];exact i2.rest x e
  ·rw[yXx,uS,aB,i3 n n0 n1,uS,uS,one,one,yWl (fun x=>absurd x.1 (by show ¬(1:Int)=3;decide)),yWl (fun x=>absurd x.1 (by show ¬(4:Int)=3;decide))];rfl
theorem Fits.take {D:Int→Prop} {S:Stm} {p:Prd} {B:List (List zD)} (h:Fits D S B) (hB:BWf p B) {k:Nat} {L:List zD} (hL:B[k]? =some L) {o:zD} (ho:o∈L) {x:Int} (hx:1≤x∧x≤o.qty):Fits D ⟨upd S.left o.id (o.qty-x),S.own⟩ (yX B o.id x).1:=by
 refine⟨fun y=> ?_,fun j M hM z hz=> ?_,fun M hM z hz=> ?_⟩
 ·rw[z3a hB hL ho hx]
  dsimp only[upd]
  by_cases c:y=o.id
  ·rw[yWm c,yWm c]
  ·rw[yWl c,yWl c];exact h.lf y
 ·obtain⟨M',h1,h2⟩:=zBy hM
  obtain⟨o',h3,h4⟩:=h2 z hz
  rw[← h4];exact h.own j M' h1 o' h3
 ·obtain⟨j,hj⟩:=yYi.1 hM
  obtain⟨M',h1,h2⟩:=zBy hj
  obtain⟨o',h3,h4⟩:=h2 z hz
  rw[← h4];exact h.d M' (yWv h1) o' h3
theorem yFs {B:List (List zD)} {id:Int} (h:(zI B id).2.2=true):∃(k:Nat) (L:List zD),(zI B id).1=k∧B[k]? =some L∧(zI B id).2.1∈L∧(zI B id).2.1.id=id:=by
 rw[zI]at h ⊢
 split at h
 ·cases h
 ·rename_i k hk
  obtain⟨L,hL,hh⟩:=xO hk
  obtain⟨o,ho,e⟩:=yXl.1 (hasId_iff.1 hh)
  refine⟨k,L,rfl,hL,?_⟩
  dsimp only
  rw[zK hL,fT]
  cases hf:L.find? fun o=>decide (o.id=id)with
  |none=>exact absurd e (by simpa using List.find?_eq_none.1 hf o ho)
  |some y=>exact⟨List.mem_of_find?_eq_some hf,by simpa using List.find?_some hf⟩
theorem z7t {p:Prd} {B:List (List zD)} (h:BWf p B) {k:Nat} {L:List zD} (hL:B[k]? =some L) {o:zD} (ho:o∈L):(∀M∈(yX B o.id o.qty).1,∀y∈M,y.id≠o.id)∧qQ (yX B o.id o.qty).1<qQ B:=by
 have hod:=h.od k L hL
 have hq:=(hod.1 o ho).q
 have hg:=uA hod.2.1 ho
 have hh:kA L o.id=true:=hasId_iff.2 (yXh (f:=(·.id)) ho)
 have ht:=zEu hod.2.1 hh
 rw[hg]at ht
 rw[zKf h hL ho (by omega),ht]
 refine⟨fun M hM y hy e=> ?_,?_⟩
 ·obtain⟨j,hj⟩:=yYi.1 hM
  rcases uH hj with⟨_,rfl⟩|⟨hne,hj⟩
  ·have:=(yXt.1 hy).2
   rw[e]at this;simp at this
  ·exact hne (zJw h.ub hj hL (e▸yXh (f:=(·.id)) hy) (yXh (f:=(·.id)) ho))
 ·have h1:=zIb (L':=L.filter fun y=> !decide (y.id=o.id)) hL
  have h2:(L.filter fun y=> !decide (y.id=o.id)).length<L.length:=List.length_filter_lt_length_iff_exists.2 ⟨o,ho,by simp⟩
  omega
theorem take_zero {B:List (List zD)} {id x:Int} (hx:x<1):(yX B id x).1=B:=by
 rw[yX]
 split
 ·rfl
 ·rename_i k hk
  obtain⟨L,hL,hh⟩:=xO hk
  dsimp only
  rw[zK hL,xS,yWl (by rw[hh];decide),yWm (.inl hx)]
  exact jC hL
theorem z1b {p:Prd} {i n:Int} (h:p.price i n=0):0≤i∧i<p.count:=by
 rw[Prd.price]at h
 split at h
 ·cases h
 split at h
 ·cases h
 ·omega
theorem zOm {p:Prd} {D:Int→Prop} {B:List (List zD)} (h:BWf p B) (U:List Int) {S:Stm} (hF:Fits D S B) {k:Nat} {L:List zD} (hL:B[k]? =some L) {o:zD} (ho:o∈L):
 cH p D S (kT B U o.id k o).R∧Fits D (uR S (kT B U o.id k o).R) (kT B U o.id k o).B∧∀n,uS (kT B U o.id k o).R n=0:=by
 have hq:=((h.od k L hL).1 o ho).q
 have hk:=(yWn.1 hL).1
 have hbl:=h.ok.bl
 have hlf:S.left o.id=o.qty:=by rw[hF.lf,zIx h hL ho]
 have ht:=hF.take h hL ho (x:=o.qty) (by omega)
 rw[Int.sub_self]at ht
 rw[kT]
 refine⟨⟨⟨hF.d L (yWv hL) o ho,by dsimp only;omega,by dsimp only;omega,by dsimp only;omega,.inr (.inr (.inl ⟨rfl,hq.1,hlf.symm,rfl⟩))⟩,trivial⟩,?_,fun n=> ?_⟩
 ·dsimp only
  rw[zEw,zSv (by show(4:Int)≠1;decide) (by show(4:Int)≠2;decide) fun h=>absurd (show(4:Int)=3 from h) (by decide)]
  exact ht
 ·rw[uS,uS,one,yWl (fun x=>absurd x.1 (by show ¬(4:Int)=3;decide))];rfl
theorem zOr {p:Prd} {D:Int→Prop} {B:List (List zD)} (h:BWf p B) (U:List Int) {S:Stm} (hF:Fits D S B) {k:Nat} {L:List zD} (hL:B[k]? =some L) {o:zD} (ho:o∈L) {q:Int} (hx:0≤q∧q<o.qty):
 cH p D S (vF B U o.id q k o).R∧Fits D (uR S (vF B U o.id q k o).R) (vF B U o.id q k o).B∧∀n,uS (vF B U o.id q k o).R n=0:=by
 have hq:=((h.od k L hL).1 o ho).q
 have hk:=(yWn.1 hL).1
 have hbl:=h.ok.bl
 have hlf:S.left o.id=o.qty:=by rw[hF.lf,zIx h hL ho]
 rw[vF]
 refine⟨⟨⟨hF.d L (yWv hL) o ho,by dsimp only;omega,by dsimp only;omega,by dsimp only;omega,.inr (.inr (.inr ⟨rfl,by dsimp only;omega,by dsimp only;omega⟩))⟩,trivial⟩,?_,fun n=> ?_⟩
 ·dsimp only
  rw[zEw,zSv (by show(5:Int)≠1;decide) (by show(5:Int)≠2;decide) fun h=>absurd (show(5:Int)=3 from h) (by decide)]
  dsimp only
  by_cases c:q<1
  ·have e:q=0:=by omega
   subst e
   rw[take_zero (by decide),Int.sub_zero]
   refine⟨fun y=> ?_,hF.own,hF.d⟩
   dsimp only[upd]
   by_cases e:y=o.id
   ·rw[yWm e,e,zIx h hL ho]
   ·rw[yWl e];exact hF.lf y
  ·exact hF.take h hL ho (by omega)
 ·rw[uS,uS,one,yWl (fun x=>absurd x.1 (by show ¬(5:Int)=3;decide))];rfl
theorem yGp (p:Prd) (B:List (List zD)) (inst id s price q:Int):qQ (zCx p B inst id s price q).1≤qQ B+1:=by
 rw[zCx]
 repeat' split
 all_goals first|exact Nat.le_succ _|skip
 rename_i c1 _ _ _
 obtain⟨L,hL⟩:=yA (l:=B) (i:=inst.toNat) (by omega)
 dsimp only
 rw[zK hL]
 have h1:=zIb (L':=(rM L s id price q).1) hL
 have h2:(rM L s id price q).1.length≤L.length+1:=by
  rw[rM]
  repeat' split
  all_goals first|exact Nat.le_succ _|skip
  have:=(zBw L s id price q).length_eq
  rw[yWo,yXa,yWo]at this
  dsimp only;omega
 omega
theorem zNm {p:Prd} {B:List (List zD)} (h:BWf p B) (U:List Int) {c:Cmd} (hi:0≤c.inst∧c.inst<B.length):qQ (wI p B U c).B≤qQ B+1:=by
 have hcn:=zUa (sd:=decide (c.side=2)) (price:=c.price) (q:=c.qty) h hi
 rw[wV]
 dsimp only
 split
 ·exact yYw (yGp ..) (by omega)
 ·omega
theorem ySw {p:Prd} {D:Int→Prop} {B:List (List zD)} (h:BWf p B) {U:List Int} (hA:Acc B U) {c:Cmd} (hd:D c.id) (hn:qQ B≤250) {S:Stm} (hF:Fits D S B):
 (∃w,doF p B U c=⟨B,U,cE c w⟩)∨(qQ (doF p B U c).B≤250∧cH p D S (doF p B U c).R∧Fits D (uR S (doF p B U c).R) (doF p B U c).B∧∀n,0≤n→n<p.months.length→uS (doF p B U c).R n=0):=by
 have hbl:=h.ok.bl
 rw[doF]
 split
 ·exact .inl ⟨_,rfl⟩
 rename_i hr
 have hr:c.right=0:=by simpa using hr
 split
 ·rename_i hk
  obtain⟨hs,hq,_⟩:=zFh hr hk
  rw[cF]
  split
  ·exact .inl ⟨_,rfl⟩
  rename_i hp
  have hp:p.price c.inst c.price=0:=by simpa using hp
  have hi:=z1b hp
  split
  ·exact .inl ⟨_,rfl⟩
  rename_i hu
  split
  ·exact .inl ⟨_,rfl⟩
  rename_i h250
  rw[yJz]at h250
  split
  ·exact .inl ⟨_,rfl⟩
  split
  ·exact .inl ⟨_,rfl⟩
  have hcn:=zNm h U (c:=c) (by omega)
  exact .inr ⟨by omega,zUm h U (by omega) hs hq hp (by omega) hF (fun L hL o ho e=>hu (e▸hA L hL o ho)) hd⟩
 rename_i hk
 split
 ·exact .inl ⟨_,rfl⟩
 rename_i hf
 obtain⟨k,L,f1,hL,ho,hid⟩:=yFs (by simpa using hf)
 generalize zI B c.id=F at*
 obtain⟨fi,o,fb⟩:=F
 dsimp only at f1 hL ho hid ⊢
 subst f1
 have hq:=((h.od k L hL).1 o ho).q
 have hklt:=(yWn.1 hL).1
 split
 ·rename_i h4
  have hqc:=m7 hr hk (by omega)
  rw[vT]
  split
  ·exact .inl ⟨_,rfl⟩
  rename_i hp
  have hp:p.price k c.price=0:=by simpa using hp
  split
  ·rename_i hless
   right
   have:=zOr h U hF hL ho (q:=o.qty-c.qty) (by omega)
   rw[hid]at this
   exact⟨yYw (zHq B c.id (o.qty-c.qty)).1 hn,this.1,this.2.1,fun n _ _=>this.2.2 n⟩
  split
  ·exact .inl ⟨_,rfl⟩
  right
  obtain⟨c1,c2,c3⟩:=zOm h U hF hL ho
  obtain⟨g1,g2⟩:=z7t h hL ho
  rw[hid]at c1 c2 c3 g1 g2
  have hW:BWf p (yX B c.id o.qty).1:=h.take _ _
  have hbl':=hW.ok.bl
  have hcn:=zNm hW U (c:=⟨1,c.id,k,o.side,c.price,c.qty,0,1,[]⟩) (by dsimp only;omega)
  obtain⟨e1,e2,e3⟩:=zUm hW U (c:=⟨1,c.id,k,o.side,c.price,c.qty,0,1,[]⟩) (by dsimp only;omega) ((h.od k L hL).1 o ho).s hqc hp (by omega) c2 g1 hd
  dsimp only
  refine⟨yYw hcn (by omega),fW c1 e1,by rw[bD];exact e2,fun n n0 n1=> ?_⟩
  rw[aB,c3,Int.zero_add];exact e3 n n0 n1
 rename_i h4
 split
 ·right
  have:=zOm h U hF hL ho
  rw[hid]at this
  exact⟨yYw (zHq B c.id o.qty).1 hn,this.1,this.2.1,fun n _ _=>this.2.2 n⟩
 ·rename_i h2
  right
  have hqc:=m7 hr hk (by omega)
  have:=zOr h U hF hL ho (q:=c.qty) (by omega)
  rw[hid]at this
  exact⟨yYw (zHq B c.id c.qty).1 hn,this.1,this.2.1,fun n _ _=>this.2.2 n⟩
open Go Cv Go.Proofs
theorem zPq {p:Prd} (hc:p.check=0):1≤p.count∧p.count≤21:=by
 have h1:=sW hc
 have h2:=(kP hc).m2
 have h3:=xV p
 omega
theorem yHz (c:Cmd):1≤vU c∧vU c≤4:=by
 have:=yS (n:=c.kind) (lo:=0) (hi:=8) (by omega)
 rw[vU];split<;>omega
theorem z8f (t:TmI):(xK t).kind=vU t.c:=by
 rw[xK];split<;>rfl
theorem yFv (t:TmI):1≤(xK t).qty∧(xK t).qty≤12:=by
 have:=yS (n:=t.c.qty) (lo:=0) (hi:=11) (by omega)
 have e:(xK t).qty=1+zG t.c.qty 0 11:=by rw[xK];split<;>rfl
 omega
theorem zIj (t:TmI):(xK t).label=[]:=by
 rw[xK];split<;>rfl
theorem zTn (x:Prd) (c:Cmd) (i:Int) (hk:vU c=1):let y:=xK ⟨yC x,c,i⟩
 (0≤y.inst∧y.inst<(yC x).count)∧(y.side=1∨y.side=2)∧(1≤y.time∧y.time≤3)∧(0≤y.least∧y.least≤y.qty)∧(-2000000≤y.price∧y.price≤2000000)∧(yC x).price y.inst y.price=0:=by
 have hc:=sM x
 have hcb:=zPq hc
 have ht:=zCo x
 have wi:=yS (n:=c.inst) (lo:=0) (hi:=((yC x).count:Int)-1) (by omega)
 have ws:=yS (n:=c.side) (lo:=0) (hi:=1) (by omega)
 have wq:=yS (n:=c.qty) (lo:=0) (hi:=11) (by omega)
 have wp:=yS (n:=c.price) (lo:=0) (hi:=9) (by omega)
 have ww:=yS (n:=x.wide) (lo:=0) (hi:=60) (by omega)
 have wl:=yS (n:=c.least) (lo:=0) (hi:=1+zG c.qty 0 11) (by omega)
 have hm:=sS (a:=zU x) (b:=zG c.price 0 9) (m:=zU x) (n:=9) (by omega) wp
 have hw:=sS (a:=zU x) (b:=zG x.wide 0 60) (m:=zU x) (n:=60) (by omega) ww
 have hh:(yZ ⟨yC x,c,i⟩).kind=1:=hk
 have e:xK ⟨yC x,c,i⟩={yZ ⟨yC x,c,i⟩with id:=i+1,time:=fE c,least:=dN c (1+zG c.qty 0 11),price:=if((yC x).legs (zG c.inst 0 ((yC x).count-1))).2.2=true then zU x*zG c.price 0 9-4*zU x else zU x*zG c.price 0 9+8*zU x}:=by
  rw[xK,yWm hh];rfl
 intro y
 have ey:y=_:=e
 rw[ey]
 have htm:1≤fE c∧fE c≤3:=by rw[fE];split;omega;split<;>omega
 have hle:0≤dN c (1+zG c.qty 0 11)∧dN c (1+zG c.qty 0 11)≤1+zG c.qty 0 11:=by rw[dN];split<;>omega
 refine⟨⟨wi.1,by show zG c.inst 0 ((yC x).count-1)<_;omega⟩,by show 1+zG c.side 0 1=1∨1+zG c.side 0 1=2;omega,htm,hle,?_,?_⟩
 ·dsimp only
  split<;>omega
 ·dsimp only
  show(yC x).price (zG c.inst 0 ((yC x).count-1)) _=0
  obtain⟨k,hk2⟩:∃k:Nat,zG c.inst 0 (((yC x).count:Int)-1)=k:=⟨(zG c.inst 0 (((yC x).count:Int)-1)).toNat,by omega⟩
  rw[hk2]at wi ⊢
  have hkc:k<(yC x).count:=by omega
  have et:(yC x).tick=zU x:=rfl
  have el:(yC x).low= -20*zU x:=rfl
  have eh:(yC x).high=100*zU x:=rfl
  have ew:(yC x).wide=zU x*(5+zG x.wide 0 60):=rfl
  rw[Int.mul_add]at ew
  rw[Prd.price,yWl (by omega),yWl (by omega),et,el,eh,ew]
  rcases wC hc hkc with⟨h1,_⟩|⟨h1,h2⟩
  ·have hge:((yC x).months.length:Int)≤k:=by
    rcases yZa k (yC x).months.length with y|y
    ·rw[Prd.legs,yWl (by omega),yWm (by omega)]at h1;cases h1
    ·omega
   rw[yWm h1,yWm hge,yWm hge,yWl,yWl (by omega)]
   have:zU x*zG c.price 0 9-4*zU x=zU x*(zG c.price 0 9-4):=by rw[Int.mul_sub,y0s 4]
   rw[this,tA];decide
  ·have hlt:¬((yC x).months.length:Int)≤k:=by omega
   rw[yWl (show ¬((yC x).legs k).2.2=true by rw[h1];decide),yWl hlt,yWl hlt,yWl,yWl (by omega)]
   have:zU x*zG c.price 0 9+8*zU x=zU x*(zG c.price 0 9+8):=by rw[Int.mul_add,y0s 8]
   rw[this,tA];decide
theorem zLb (x:Prd) (c:Cmd) (i:Int): -2000000≤(xK ⟨yC x,c,i⟩).price∧(xK ⟨yC x,c,i⟩).price≤2000000:=by
 have ht:=zCo x
 have wp:=yS (n:=c.price) (lo:=0) (hi:=9) (by omega)
 have hm:=sS (a:=zU x) (b:=zG c.price 0 9) (m:=zU x) (n:=9) (by omega) wp
 have et:(yC x).tick=zU x:=rfl
 by_cases h1:vU c=1
 ·obtain⟨_,_,_,_,h,_⟩:=zTn x c i h1;exact h
 ·have hh:¬(yZ ⟨yC x,c,i⟩).kind=1:=h1
  have e:(xK ⟨yC x,c,i⟩).price=if(yZ ⟨yC x,c,i⟩).kind=4 then zU x*zG c.price 0 9+5*zU x else zU x*zG c.price 0 9:=by rw[xK,yWl hh];rfl
  rw[e]
  split<;>omega
theorem zXs (x:Prd) (c:Cmd) (i id:Int) (hid:1≤id∧id≤1099511627776):Cmd.right {xK ⟨yC x,c,i⟩with id:=id}=0:=by
 have hk:=yHz c
 have hq:=yFv ⟨yC x,c,i⟩
 have hp:=zLb x c i
 have hcb:=zPq (sM x)
 rw[Cmd.right]
 dsimp only
 rw[z8f]
 dsimp only
 rw[yWl (by omega),yWl (by omega)]
 have q1:kC (xK ⟨yC x,c,i⟩).qty=true:=by rw[kC,yXf (by omega),yXf (by omega)];rfl
 have q2:vC (xK ⟨yC x,c,i⟩).price=true:=by rw[vC,yXf (by omega),yXf (by omega)];rfl
 by_cases h1:vU c=1
 ·obtain⟨a1,a2,a3,a4,a5,a6⟩:=zTn x c i h1
  rw[yWm h1,Cmd.orderE]
  dsimp only
  rw[yWl (by omega),yWl (by omega),yWl (by rw[q1];decide),yWl (by omega),yWl (by rw[zIj];simp),yWl (by rw[q2];decide),yWl (by omega)]
 ·rw[yWl h1,yWl (by rw[q1];simp),yWl (by rw[q2];simp)]
open Go Cv Go.Proofs
open Go Cv Go.Proofs
open Go Cv Go.Proofs
def xG (W:List (Int×Int)) (id:Int):Int×Bool:=match W.find? fun x=>decide (x.1=id)with
 |some x=>(x.2,true)
 |none=>(0,false)
def zAg:List (Int×Int)→Int→Int→List (Int×Int)
 |[],id,s=>[(id,s)]
 |x::W,id,s=>if id=x.1 then(x.1,s)::W else x::zAg W id s
theorem m3 (x:Int×Int) (W:List (Int×Int)) (id:Int):xG (x::W) id=if id=x.1 then(x.2,true)else xG W id:=by
 rw[xG,y2k]
 by_cases c:id=x.1
 ·rw[yWm c,yXf c.symm]
 ·rw[yWl c,yWy (fun e=>c e.symm)];rfl
theorem zCg (id s x:Int):∀W:List (Int×Int),xG (zAg W id s) x=if x=id then(s,true)else xG W x
 |[]=>by
  rw[zAg,m3]
 |a::W=>by
  rw[zAg]
  by_cases c:id=a.1
  ·rw[yWm c,m3,m3]
   by_cases e:x=id
   ·rw[yWm e,yWm (e.trans c)]
   ·rw[yWl e,yWl (fun h=>e (h.trans c.symm)),yWl (fun h=>e (h.trans c.symm))]
  ·rw[yWl c,m3,m3,zCg id s x W]
   by_cases e:x=id
   ·rw[yWm e,yWl (fun h=>c (e.symm.trans h)),yWm e]
   ·rw[yWl e,yWl e]
structure GtX where
 B:List (List zD)
 U:List Int
 W:List (Int×Int)
 O:List (Int×Rep)
def zKq (B:List (List zD)) (U:List Int) (W:List (Int×Int)) (s id why:Int):GtX:=⟨B,U,W,[(s,⟨2,id,0,0,0,0,0,why⟩)]⟩
def hP (s:Int):List (Int×Int)→List Rep→List (Int×Int)×List (Int×Rep)
 |W,[]=>(W,[])
 |W,r::R=>
  let W1:=if r.kind=1 then zAg W r.id s else W
  ((hP s W1 R).1,(if r.kind=2 then s else(xG W1 r.id).1,r)::(hP s W1 R).2)
def eX (B:List (List zD)) (W:List (Int×Int)) (s:Int):Nat:=(whL 0 B).countP fun x=>decide ((xG W x.1).1=s)
def dS (p:Prd) (B:List (List zD)) (U:List Int) (W:List (Int×Int)) (s:Int) (c:Cmd):GtX:=
 if c.kind=1∧64≤eX B W s then zKq B U W s c.id 30
 else if c.kind≠1∧((xG W c.id).2=false∨(xG W c.id).1≠s)then zKq B U W s c.id 26
 else⟨(doF p B U c).B,(doF p B U c).U,(hP s W (doF p B U c).R).1,(hP s W (doF p B U c).R).2⟩
def fP (p:Prd) (B:List (List zD)) (U:List Int) (W:List (Int×Int)) (s:Int) (b:List UInt8):GtX:=
 if s<0∨8≤s then zKq B U W s 0 1 else if(xL b).2≠0 then zKq B U W s 0 (xL b).2 else dS p B U W s (xL b).1
theorem yEc {p:Prd} {B:List (List zD)} {U:List Int} {W:List (Int×Int)} {s:Int} {c:Cmd} (hs:0≤s∧s<8) (h:c.right=0):fP p B U W s c.enc=dS p B U W s c.asks:=by
 rw[fP,yWl (by omega),yKf h,yWl (by simp)]
open Go Cv Go.Proofs
theorem z5a (p:Prd) (x:qZ) {r:Rep} (hr:r.kind=3):∀y∈kQ p x r,y.kind=3:=by
 intro y hy
 rw[kQ,yXd]at hy
 rcases hy with rfl|hy
 ·exact hr
 ·split at hy
  ·rw[tT]at hy
   simp only[yXd,y2f,or_false]at hy
   rcases hy with rfl|rfl<;>exact hr
  ·cases hy
theorem zTi (p:Prd) (c:Cmd):∀(l:List qZ) (q:Int),∀y∈j6 p c l q,y.kind=3
 |[],_,y,hy=>by cases hy
 |x::l,q,y,hy=>by
  rw[j6,yXo]at hy
  rcases hy with hy|hy
  ·rw[fV,yXo]at hy
   rcases hy with hy|hy
   ·obtain⟨f,_,hy⟩:=yYt.1 hy
    exact z5a p x rfl y hy
   ·exact z5a p x rfl y hy
  ·exact zTi p c l _ y hy
theorem zGk (p:Prd) (B:List (List zD)) (U:List Int) (c:Cmd):(∀r∈(wI p B U c).R,r.kind=1→r.id=c.id)∧∃r l,(wI p B U c).R=r::l∧r.kind=1∧r.id=c.id:=by
 rw[wV]
 dsimp only
 refine⟨fun r hr hk=> ?_,_,_,rfl,rfl,rfl⟩
 rw[yXx,yXd,yXo]at hr
 rcases hr with rfl|hr|hr
 ·rfl
 ·have:=zTi _ _ _ _ r hr;omega
 ·split at hr
  ·rw[yXz]at hr;subst hr;rfl
  ·cases hr
theorem z8p (p:Prd) (B:List (List zD)) (U:List Int) (c:Cmd):(∃w,doF p B U c=⟨B,U,cE c w⟩)∨
 ((∀r∈(doF p B U c).R,r.kind=1→r.id=c.id)∧(c.kind=1→∃r l,(doF p B U c).R=r::l∧r.kind=1∧r.id=c.id)):=by
 rw[doF]
 split
 ·exact .inl ⟨_,rfl⟩
 split
 ·rename_i hk
  rw[cF]
  iterate 5 (split;·exact .inl ⟨_,rfl⟩)
  have:=zGk p B U c
  exact .inr ⟨this.1,fun _=>this.2⟩
 rename_i hk
 split
 ·exact .inl ⟨_,rfl⟩
 have hcan:∀(i:Int) (o:zD),∀r∈(kT B U c.id i o).R,r.kind=1→r.id=c.id:=by
  intro i o r hr h1
  rw[kT,yXz]at hr;subst hr;rfl
 have hred:∀(q i:Int) (o:zD),∀r∈(vF B U c.id q i o).R,r.kind=1→r.id=c.id:=by
  intro q i o r hr h1
  rw[vF,yXz]at hr;subst hr;rfl
 split
 ·rw[vT]
  split
  ·exact .inl ⟨_,rfl⟩
  split
  ·exact .inr ⟨hred _ _ _,fun h=>absurd h hk⟩
  split
  ·exact .inl ⟨_,rfl⟩
  right
  refine⟨fun r hr h1=> ?_,fun h=>absurd h hk⟩
  dsimp only at hr
  rcases yXo.1 hr with hr|hr
  ·exact hcan _ _ r hr h1
  ·have e:=(zGk _ _ _ _).1 r hr h1
   exact e
 split
 ·exact .inr ⟨hcan _ _,fun h=>absurd h hk⟩
 ·exact .inr ⟨hred _ _ _,fun h=>absurd h hk⟩
theorem zIt {s id:Int}:∀{R:List Rep} {W:List (Int×Int)},xG W id=(s,true)→(∀r∈R,r.kind=1→r.id=id)→
 xG (hP s W R).1=xG W∧∀o∈(hP s W R).2,o.2∈R∧o.1=if o.2.kind=2 then s else(xG W o.2.id).1
 |[],W,_,_=>⟨rfl,fun o ho=>by cases ho⟩
 |r::R,W,hw,hr=>by
  have e:xG (if r.kind=1 then zAg W r.id s else W)=xG W:=by
   split
   ·rename_i h1
    funext x
    rw[zCg]
    split
    ·rename_i hx;rw[hx,hr r yWq h1,hw]
    ·rfl
   ·rfl
  have ih:=zIt (R:=R) (W:=if r.kind=1 then zAg W r.id s else W) (by rw[e];exact hw) fun y hy=>hr y (yWr _ hy)
  rw[e]at ih
  rw[hP]
  dsimp only
  refine⟨ih.1,fun o ho=> ?_⟩
  rcases yXd.1 ho with rfl|ho
  ·dsimp only;rw[e];exact⟨yWq,rfl⟩
  ·exact⟨yWr _ (ih.2 o ho).1,(ih.2 o ho).2⟩
def Own (W:List (Int×Int)) (id:Int):Prop:=(xG W id).2=true
theorem Fits.weak {D D':Int→Prop} {S:Stm} {B:List (List zD)} (h:Fits D S B) (hd:∀x,D x→D' x):Fits D' S B:=⟨h.lf,h.own,fun L hL o ho=>hd _ (h.d L hL o ho)⟩
theorem z2o {p:Prd} {D:Int→Prop}:∀{R:List Rep} {S:Stm},cH p D S R→∀r∈R,D r.id∧r.kind≠2
 |[],_,_,r,hr=>by cases hr
 |x::R,S,h,r,hr=>by
  rcases yXd.1 hr with rfl|hr
  ·refine⟨h.1.d,?_⟩
   have:=h.1.k
   omega
  ·exact z2o h.2 r hr
def yRb (s:Int) (W:List (Int×Int)) (O:List (Int×Rep)):Prop:=∀o∈O,(o.2.kind=2→o.1=s)∧(o.2.kind≠2→xG W o.2.id=(o.1,true))
theorem z3v {B:List (List zD)} {U:List Int} {W:List (Int×Int)} {s id w:Int}:yRb s (zKq B U W s id w).W (zKq B U W s id w).O:=by
 intro o ho
 rw[zKq]at ho
 dsimp only at ho
 rw[yXz]at ho;subst ho
 exact⟨fun _=>rfl,fun h=>absurd rfl h⟩
theorem yAg {p:Prd} {B:List (List zD)} (h:BWf p B) {U:List Int} (hA:Acc B U) (hn:qQ B≤250) {W:List (Int×Int)} {S:Stm} (hF:Fits (Own W) S B) (s:Int) (c:Cmd):
 (Acc (dS p B U W s c).B (dS p B U W s c).U∧qQ (dS p B U W s c).B≤250∧∃S',Fits (Own (dS p B U W s c).W) S' (dS p B U W s c).B)∧yRb s (dS p B U W s c).W (dS p B U W s c).O:=by
 rw[dS]
 split
 ·exact⟨⟨hA,hn,S,hF⟩,z3v⟩
 split
 ·exact⟨⟨hA,hn,S,hF⟩,z3v⟩
 rename_i h1 h2
 have hacc:=(yKk (p:=p) hA c).acc
 have hrej:∀w,doF p B U c=⟨B,U,cE c w⟩→(Acc (doF p B U c).B (doF p B U c).U∧qQ (doF p B U c).B≤250∧∃S',Fits (Own (hP s W (doF p B U c).R).1) S' (doF p B U c).B)∧yRb s (hP s W (doF p B U c).R).1 (hP s W (doF p B U c).R).2:=by
  intro w e
  rw[e]
  refine⟨⟨hA,hn,S,hF⟩,fun o ho=> ?_⟩
  have ho:o∈[(s,(⟨2,c.id,0,0,0,0,0,w⟩:Rep))]:=ho
  rw[yXz]at ho;subst ho
  exact⟨fun _=>rfl,fun h=>absurd rfl h⟩
 rcases z8p p B U c with⟨w,e⟩|⟨hs1,hs2⟩
 ·exact hrej w e
 obtain⟨W1,hW1,hmono,he,ho⟩:∃W1,xG W1 c.id=(s,true)∧(∀x,Own W x→Own W1 x)∧xG (hP s W (doF p B U c).R).1=xG W1∧∀o∈(hP s W (doF p B U c).R).2,o.2∈(doF p B U c).R∧o.1=if o.2.kind=2 then s else(xG W1 o.2.id).1:=by
  by_cases hk:c.kind=1
  ·obtain⟨r,l,e,r1,r2⟩:=hs2 hk
   refine⟨zAg W c.id s,by rw[zCg,yWm rfl],fun x hx=> ?_,?_⟩
   ·rw[Own,zCg];split
    ·rfl
    ·exact hx
   ·have hw:xG (zAg W c.id s) c.id=(s,true):=by rw[zCg,yWm rfl]
    have t:=zIt (R:=l) hw fun y hy=>hs1 y (by rw[e];exact yWr _ hy)
    rw[e,hP,yWm r1,r2]
    dsimp only
    refine⟨t.1,fun o ho=> ?_⟩
    rcases yXd.1 ho with rfl|ho
    ·dsimp only;rw[r2];exact⟨yWq,rfl⟩
    ·exact⟨yWr _ (t.2 o ho).1,(t.2 o ho).2⟩
  ·have hw:xG W c.id=(s,true):=by
    have a:¬(xG W c.id).2=false:=fun e=>h2 ⟨hk,.inl e⟩
    have b:(xG W c.id).1=s:=by
     by_cases e:(xG W c.id).1=s
     ·exact e
     ·exact absurd ⟨hk,.inr e⟩ h2
    exact Prod.ext b (by simpa using a)
   have t:=zIt (R:=(doF p B U c).R) hw hs1
   exact⟨W,hw,fun x hx=>hx,t.1,t.2⟩
 rcases ySw (D:=Own W1) h hA (c:=c) (by rw[Own,hW1]) hn (hF.weak hmono)with⟨w,e⟩|⟨d1,d2,d3,_⟩
 ·exact hrej w e
 refine⟨⟨hacc,d1,_,d3.weak fun x hx=> ?_⟩,fun o hm=> ?_⟩
 ·rw[Own,he];exact hx
 ·obtain⟨m1,m2⟩:=ho o hm
  obtain⟨g1,g2⟩:=z2o d2 _ m1
  refine⟨fun e=>absurd e g2,fun _=> ?_⟩
  rw[yWl g2]at m2
  have g1:(xG W1 o.2.id).2=true:=g1
  rw[he]
  exact Prod.ext m2.symm g1
theorem z0o {p:Prd} {B:List (List zD)} {U:List Int} {W:List (Int×Int)} {s:Int} {c:Cmd} (hk:c.kind≠1) (h:¬((xG W c.id).2=true∧(xG W c.id).1=s)):dS p B U W s c=zKq B U W s c.id 26:=by
 have g:(xG W c.id).2=false∨(xG W c.id).1≠s:=by
  by_cases e:(xG W c.id).2=true
  ·exact .inr fun e2=>h ⟨e,e2⟩
  ·exact .inl (by simpa using e)
 rw[dS,yWl (fun e=>hk e.1),yWm ⟨hk,g⟩]
open Go Cv Go.Proofs
theorem z2l:∀{l m:List Nat},l.Nodup→(∀x∈l,x∈m)→l.length≤m.length
 |[],m,_,_=>yYe _
 |a::l,m,h,hs=>by
  rw[yYl]at h
  have ha:=hs a yWq
  have:=z2l (l:=l) (m:=m.erase a) h.2 fun x hx=>(List.mem_erase_of_ne (fun e=>h.1 (by rw[← e];exact hx))).2 (hs x (yWr _ hx))
  rw[List.length_erase_of_mem ha]at this
  have:=List.length_pos_of_mem ha
  rw[yXa];omega
structure Handed (ents:List MapEntry) (seen:Array Nat) (dn:List MapEntry):Prop where
 sn:seen.toList=dn.map (·.born)
 nd:(dn.map (·.born)).Nodup
 sub:∀e∈dn,e∈ents
theorem Handed.push {ents:List MapEntry} {seen:Array Nat} {dn:List MapEntry} (h:Handed ents seen dn) {e:MapEntry} (he:e∈(leftOf ents.toArray seen).toList):Handed ents (seen.push e.born) (dn++[e]):=by
 simp only[leftOf,Array.toList_filter,yXt,y1k]at he
 obtain⟨h1,h2⟩:=he
 have h3:e.born∉dn.map (·.born):=by
  rw[← h.sn]
  intro hm
  have:seen.contains e.born=true:=by
   rw[Array.contains_iff_mem];exact Array.mem_toList_iff.1 hm
  rw[this]at h2;cases h2
 refine⟨by rw[Array.toList_push,h.sn,yWw];rfl,?_,fun x hx=> ?_⟩
 ·rw[yWw,List.map_singleton,yYq]
  exact⟨h.nd,by simp,fun x hx y hy e=>by rw[yXz]at hy;subst hy;subst e;exact h3 hx⟩
 ·rcases yXo.1 hx with hx|hx
  ·exact h.sub x hx
  ·rw[yXz]at hx;subst hx;exact h1
theorem Handed.len {ents:List MapEntry} {seen:Array Nat} {dn:List MapEntry} (h:Handed ents seen dn):dn.length≤ents.length:=by
 have:=z2l (m:=ents.map (·.born)) h.nd fun x hx=>by
  obtain⟨e,he,rfl⟩:=yXl.1 hx
  exact yXh (f:=(·.born)) (h.sub e he)
 simpa using this
theorem Handed.all {ents:List MapEntry} {seen:Array Nat} {dn:List MapEntry} (h:Handed ents seen dn) (hn:(ents.map (·.born)).Nodup) (h0:(leftOf ents.toArray seen).size=0):dn.Perm ents:=by
 have inj:∀{l:List MapEntry},(l.map (·.born)).Nodup→∀x∈l,∀y∈l,x.born=y.born→x=y:=by
  intro l hl
  induction l with
  |nil=>intro x hx;cases hx
  |cons a l ih=>
   rw[yWu,yYl]at hl
   intro x hx y hy e
   rcases yXd.1 hx with e1|h1<;>rcases yXd.1 hy with e2|h2
   ·rw[e1,e2]
   ·refine absurd ?_ hl.1
    rw[← e1,e];exact yXh (f:=(·.born)) h2
   ·refine absurd ?_ hl.1
    rw[← e2,← e];exact yXh (f:=(·.born)) h1
   ·exact ih hl.2 x h1 y h2 e
 have nd:∀{l:List MapEntry},(l.map (·.born)).Nodup→l.Nodup:=fun hl=>List.Pairwise.imp (fun hne e=>hne (by rw[e])) (List.pairwise_map.1 hl)
 refine(List.perm_ext_iff_of_nodup (nd h.nd) (nd hn)).2 fun e=>⟨h.sub e,fun he=> ?_⟩
 have:seen.contains e.born=true:=by
  cases hc:seen.contains e.born with
  |true=>rfl
  |false=>
   have hm:e∈(leftOf ents.toArray seen).toList:=by
    simp only[leftOf,Array.toList_filter,yXt]
    exact⟨he,by rw[hc];rfl⟩
   have:(leftOf ents.toArray seen).toList=[]:=yXr (by simpa using h0)
   rw[this]at hm;cases hm
 rw[Array.contains_iff_mem]at this
 have:=Array.mem_toList_iff.2 this
 rw[h.sn]at this
 obtain⟨x,hx,e2⟩:=yXl.1 this
 rw[← inj hn x (h.sub x hx) e he e2];exact hx
def zYx (k:Ko) (LL:List HP) (ents:List MapEntry) (e:Ending) (w':World):Prop:=∃(a:Option Addr) (n c:Nat) (xs:List Value) (dn:List MapEntry),e=.returned (.slice a n c)∧xs=dn.map (·.key)∧n=dn.length∧dn.Perm ents∧Hp k w' (slO 2 1 a n c xs::LL)
def yCe (k:Ko) (LL:List HP) (ents:List MapEntry) (r bm ck:Nat) (v:Value) (w1:World):Prop:=∃(a:Option Addr) (n c:Nat) (xs:List Value) (seen:Array Nat) (c0:Nat) (dn:List MapEntry),v=.slice a n c∧xs=dn.map (·.key)∧n=dn.length∧ck≤c0∧Handed ents seen dn∧Hp k w1 (slO 2 1 a n c xs::pt r (.mapIter (some bm) ck seen c0)::LL)
def z9n (ents:List MapEntry) (v:Value) (_:World):Nat:=match v with| .slice _ n _=>ents.length-n|_=>0
theorem z5t {b bm ck:Nat} {ents:List MapEntry} {w:World} {k:Ko} {LL:List HP} {l:List Value} {T:TypeId}
 (H:Hp k w LL) (hat:∀w',Hp k w' LL→w'.heap[b]? =some (.cells l.toArray T)∧w'.heap[bm]? =some (.map ents.toArray ck)) (hl:l[12]? =some (.map (some bm)))
 (hck:∀e∈ents,e.born<ck) (hn:(ents.map (·.born)).Nodup) (hk:∀e∈ents,∃n,e.key= .int .i64 n) (hsz:ents.length≤1000000):
 Calls Tryz.prog 101 #[.pointer (some ⟨b,0,none⟩)] w (zYx k LL ents):=by
 refine calls_of_cwp (c:=Tryz.f101.body.getD .skip) (args:=[.pointer (some ⟨b,0,none⟩)]) mixed Tryz.func101 (by kernel_rfl) [{ι:=Value,chg:=fun v=>[(3,v)],fix:=[9]}] (by kernel_rfl) (by kernel_rfl) (by kernel_rfl) ?_
 obtain⟨h1,h2⟩:=hat w H
 have hu:Tryz.prog.underlying 105=some (.map 2 3):=by kernel_rfl
 refine⟨some bm,?_,some ⟨w.heap.size,0,none⟩,w.alloc (.mapIter (some bm) ck #[] ck),?_,?_⟩
 ·show rD Tryz.prog 105 ⟨b,12,none⟩ w (.map (some bm))
  exact gG (by kernel_rfl) h1 hl
 ·show(Instr.range 105 (.map (some bm))).run Tryz.prog w=_
  exact run_range_map w _ _ _ bm _ ck hu h2
 refine⟨yCe k LL ents w.heap.size bm ck,z9n ents,⟨.slice none 0 0,rfl,none,0,0,[],#[],ck,[],rfl,rfl,rfl,yXn _,⟨rfl,List.nodup_nil,fun e he=>by cases he⟩,(H.new _).nil _ _⟩,?_⟩
 rintro j v w1 ⟨a,n,c,xs,seen,c0,dn,rfl,hxs,hnl,hc0,hh,H1⟩
 have hr:=H1.drop.get
 obtain⟨-,g2⟩:=hat w1 H1.drop.drop
 rcases run_next_at (P:=Tryz.prog) w1 0 w.heap.size bm ck c0 seen ents.toArray ck hr g2 (fun x hx=>hck x (by simpa using hx)) hc0 with⟨e1,e2⟩|⟨e,he,w2,hw2,hrun⟩
 ·refine .inl ⟨w1,e2,?_⟩
  show zYx k LL ents (.returned (.slice a n c)) w1
  exact⟨a,n,c,xs,dn,rfl,hxs,hnl,hh.all hn e1,(H1.swap).drop⟩
 ·have hmem:e∈ents:=by
   have:=he
   simp only[leftOf,Array.toList_filter,yXt]at this
   exact this.1
  obtain⟨m,hm⟩:=hk e hmem
  have hp:=hh.push he
  have H2:Hp k (World.setB w2 w.heap.size (.mapIter (some bm) ck (seen.push e.born) ck)) (slO 2 1 a n c xs::pt w.heap.size (.mapIter (some bm) ck (seen.push e.born) ck)::LL):=by
   have H1':Hp k w2 (slO 2 1 a n c xs::pt w.heap.size (.mapIter (some bm) ck seen c0)::LL):=by
    rcases hw2 with rfl|rfl
    ·exact H1
    ·exact H1.drew
   exact((H1'.swap).upd _).swap
  have hset:Go.ChangeMaps.setBlock w2 w.heap.size (.mapIter (some bm) ck (seen.push e.born) ck)=World.setB w2 w.heap.size (.mapIter (some bm) ck (seen.push e.born) ck):=rfl
  rw[hset]at hrun
  generalize hw3:World.setB w2 w.heap.size (.mapIter (some bm) ck (seen.push e.born) ck)=w3 at H2 hrun
  obtain⟨-,g3⟩:=hat w3 H2.drop.drop
  have hent:=run_entry_at (P:=Tryz.prog) w3 w.heap.size bm ck seen ents.toArray ck e H2.drop.get g3 (by simpa using hmem) (by simpa using hn)
  refine .inr ⟨e.key,e.val,w3,hrun,.tuple #[e.key,e.val],hent,?_⟩
  rw[hm]
  have hlen:=hp.len
  rw[yWs,y0f]at hlen
  refine Eq.mp (α:=zXy w3 (.cells #[.int .i64 m] 2) fun bb w4=>∃(a':Option Addr) (n' c':Nat),∃w5,u6 Tryz.prog (Builtin.append_ #[24,24] 24 #[.slice a n c,.slice (some ⟨bb,0,none⟩) 1 1]) w4 (.slice a' n' c') w5∧∃i',.slice a' n' c'=i'∧yCe k LL ents w.heap.size bm ck i' w5∧z9n ents i' w5<z9n ents (.slice a n c) w1) (by kernel_rfl) ?_
  rintro bb w4 hb hw4
  subst hb hw4
  have H3:=(H2.new (.cells [Value.int .i64 m].toArray 2)).lit (sz:=1) (n:=1) rfl
  obtain⟨a',c',w5,hap,H5⟩:=(H3.swap).append (P:=Tryz.prog) (t1:=24) (t2:=24) (rt:=24) (e:=2) (sz:=1) (by_:=8) (z:= #[.int .i64 0]) (by kernel_rfl) (by kernel_rfl) (x:= .slice (some ⟨w3.heap.size,0,none⟩) 1 1) (m:=1) (ys:=[.int .i64 m]) (.inl ⟨_,_,rfl,H3.satR⟩) (by simp[Value.oneC]) rfl (by decide) (by omega)
  refine⟨a',n+1,c',w5,hap,.slice a' (n+1) c',rfl,⟨a',n+1,c',_,_,ck,dn++[e],rfl,?_,?_,yXn _,hp,(H5.swap).drop⟩,?_⟩
  ·rw[hxs,yWw,List.map_singleton,hm]
  ·rw[yWs,hnl];rfl
  ·show ents.length-(n+1)<ents.length-n
   omega
theorem z4o {F:PH}:∀{l:List (Int×Int)} {ents:List MapEntry},MR F (yU l) ents→ents.map (·.key)=l.map (fun p=>Value.int .i64 p.1)
 |[],ents,h=>by
  have h:ents=[]:=h
  subst h;rfl
 |p::l,ents,h=>by
  obtain⟨m,ms,rfl,h1,-,h3⟩:=h
  rw[yWu,yWu,z4o (l:=l) h3,h1]
def z3h:Value→Int
 | .int _ n=>n
 |_=>0
theorem z7a {xs:List Value} {m:List Int} (h:xs.Perm (m.map fun n=>Value.int .i64 n)):∃l:List Int,xs=l.map (fun n=>Value.int .i64 n)∧l.Perm m:=by
 refine⟨xs.map z3h,?_,?_⟩
 ·rw[yYx]
  have:∀x∈xs,((fun n=>Value.int .i64 n)∘z3h) x=x:=by
   intro x hx
   obtain⟨n,_,rfl⟩:=yXl.1 (h.mem_iff.1 hx)
   rfl
  rw[yXu this,List.map_id']
 ·have:=h.map z3h
  rw[yYx]at this
  have e:(z3h∘fun n=>Value.int .i64 n)=id:=rfl
  rw[e,List.map_id]at this
  exact this
theorem z4n (F:PH):∀l:List Int,DRL F (iE l).flatten (l.map fun n=>Value.int .i64 n)
 |[]=>by simp[iE,DRL]
 |n::l=>by
  have ih:=z4n F l
  have e:(iE (n::l)).flatten= .v (.int .i64 n)::(iE l).flatten:=rfl
  rw[e,DRL]
  exact⟨.int .i64 n,_,rfl,by simp[DR,Value.oneC],ih⟩
def sids0C:Con where
 ι:=MSt
 pat:=fun _=>[.nm 0 0]
 pre:=fun s=>[zE s]
 cnd:=fun s=>s.wh.length≤1000000
 alts:=fun s=>[{o:=List Int,res:=fun _=> .own 1,post:=fun l=>[zE s,.own 2 1 (iE l)],rel:=fun l=>l.Perm (s.wh.map (·.1))}]
@[reducible] def zHg (s:MSt):St:=zIa [0] ⟨uT 0 (sids0C.pre s),(sids0C.pre s).length⟩
theorem yIs (s:MSt) (l:List Int) (hl:l.Perm (s.wh.map (·.1))):yKj 1 (.own 5) ((zHg s).new (.own 2 1 (iE l))) (sids0C.alts s):=by
 refine Eq.mp (α:=∃(o:List Int),sb s.p.code=sb s.p.code∧s.p.tick=s.p.tick∧s.p.low=s.p.low∧s.p.high=s.p.high∧s.p.wide=s.p.wide∧s.p.rule=s.p.rule∧s.p.top=s.p.top∧s.p.least=s.p.least∧s.p.part=s.p.part∧AObj.objs 184 Book 6 zS s.books none=AObj.objs 184 Book 6 zS s.books none∧yU s.wh=yU s.wh∧AObj.fro 1 (iE s.p.months)=AObj.fro 1 (iE s.p.months)∧AObj.fro 1 (iE s.p.settle)=AObj.fro 1 (iE s.p.settle)∧iE o=iE l∧o.Perm (s.wh.map (·.1))) (by kernel_rfl) ?_
 exact⟨l,rfl,rfl,rfl,rfl,rfl,rfl,rfl,rfl,rfl,rfl,rfl,rfl,rfl,rfl,hl⟩
theorem z9p:sids0C.ok Tryz.prog 101:=by
 intro s hc k L E w ys R hv
 have hc:s.wh.length≤1000000:=hc
 have hnx:=R.nx
 obtain⟨E1,hle,R1⟩:=lF [0] R
 have R1:Rel k L E1 (zHg s) w:=R1
 have hc0:(zHg s).get 0=some (.cells [sV s.p.code,.own 3,zA s.p.tick,zA s.p.low,zA s.p.high,zA s.p.wide,zA s.p.rule,zA s.p.top,zA s.p.least,zA s.p.part,.own 4,.own 1,.mp 2] 182):=rfl
 have hc2:((zHg s).del 0).get 2=some (.map (yU s.wh)):=rfl
 have Ra:=(R1.take hc0).take hc2
 have H0:Hp k w (rHP E1 (2,.map (yU s.wh))::rHP E1 (0,.cells [sV s.p.code,.own 3,zA s.p.tick,zA s.p.low,zA s.p.high,zA s.p.wide,zA s.p.rule,zA s.p.top,zA s.p.least,zA s.p.part,.own 4,.own 1,.mp 2] 182)::((((zHg s).del 0).del 2).rows.map (rHP E1)++fz E1.F::L)):=
  Ra.out.perm (.cons _ (((List.Perm.swap _ _ _).append_left _).trans yXb))
 generalize hrest:(((zHg s).del 0).del 2).rows.map (rHP E1)++fz E1.F::L=rest at H0
 obtain⟨hk,hs,hh⟩:=H0
 cases hh with
 |cons ha hsub hdj hr=>
 cases hr with
 |cons ha0 hsub0 hdj0 hr0=>
 rcases ha with⟨e,_⟩|⟨hd2,t2,r2⟩
 ·cases e
 rcases ha0 with⟨e,_⟩|⟨hd0,t0,r0⟩
 ·cases e
 simp only[rowHP]at r2 r0
 obtain⟨bm,ents,ck,q1,q2,q3,rfl⟩:=r2
 obtain⟨b,l,p1,p2,rfl⟩:=r0
 have H:Hp k w (pt bm (.map ents.toArray ck)::pt b (.cells l.toArray 182)::rest):=⟨hk,_,.cons rfl hsub hdj (.cons rfl hsub0 hdj0 hr0)⟩
 have hl12:l[12]? =some (.map (some bm)):=by
  simp only[VRL,VR]at p2
  obtain⟨_,_,rfl,-,_,_,rfl,-,_,_,rfl,-,_,_,rfl,-,_,_,rfl,-,_,_,rfl,-,_,_,rfl,-,_,_,rfl,-,_,_,rfl,-,_,_,rfl,-,_,_,rfl,-,_,_,rfl,-,y,_,rfl,⟨bb,sub,g1,rfl⟩,rfl⟩:=p2
  rw[t2]at g1
  cases g1
  cases q1
  rfl
 have hys:ys=[.pointer (some ⟨b,0,none⟩)]:=by
  simp only[sids0C,VRL,VR]at hv
  obtain⟨y,_,rfl,⟨b',oo,sub,g1,rfl⟩,rfl⟩:=hv
  rw[hle.get g1]at t0
  cases t0
  cases p1
  rfl
 subst hys
 have hkeys:=z4o q2
 have hlen:ents.length=s.wh.length:=by simpa using congrArg List.length hkeys
 have hcall:=z5t H (fun w' H'=>⟨(H'.swap).get,H'.get⟩) hl12 q3.2 q3.1 (fun e he=>by
  have:e.key∈ents.map (·.key):=yXh (f:=(·.key)) he
  rw[hkeys]at this
  obtain⟨p,_,hp⟩:=yXl.1 this
  exact⟨p.1,hp.symm⟩) (by omega)
 have hdo:=pM (P:=Tryz.prog) (f:=101) (args:= #[.pointer (some ⟨b,0,none⟩)]) (w:=w) (K:=fun v w'=>zYx k (pt bm (.map ents.toArray ck)::pt b (.cells l.toArray 182)::rest) ents (.returned v) w') (by kernel_rfl) (hcall.mono fun e w' h=>by
  have h2:=h
  obtain⟨a,n,c,xs,dn,rfl,-⟩:=h2
  exact⟨_,rfl,h⟩)
 refine hdo.mono ?_
 rintro v w' ⟨a,n,c,xs,dn,hv',rfl,rfl,hperm,H2⟩
 cases hv'
 obtain⟨li,e1,e2⟩:=z7a (xs:=dn.map (·.key)) (m:=s.wh.map (·.1)) (by
  have:=hperm.map (·.key)
  rw[hkeys]at this
  rwa [yYx])
 have elen:dn.length=li.length:=by simpa using congrArg List.length e1
 rw[e1,elen]at H2
 rw[elen]
 have H3:Hp k w' (slO 2 1 a li.length c (li.map fun n=>Value.int .i64 n)::((zHg s).rows.map (rHP E1)++fz E1.F::L)):=by
  have h1:Hp k w' (rHP E1 (2,.map (yU s.wh))::rHP E1 (0,.cells [sV s.p.code,.own 3,zA s.p.tick,zA s.p.low,zA s.p.high,zA s.p.wide,zA s.p.rule,zA s.p.top,zA s.p.least,zA s.p.part,.own 4,.own 1,.mp 2] 182)::slO 2 1 a li.length c (li.map fun n=>Value.int .i64 n)::rest):=by
   have g0:Hp k w' (pt bm (.map ents.toArray ck)::pt b (.cells l.toArray 182)::slO 2 1 a li.length c (li.map fun n=>Value.int .i64 n)::rest):=
    H2.perm ((List.Perm.swap _ _ _).trans (.cons _ (.swap _ _ _)))
   have g1:=g0.imp (B:=rHP E1 (2,.map (yU s.wh))) fun x hx=> .inr ⟨hd2,t2,by simp only[rowHP];exact⟨bm,ents,ck,q1,q2,q3,hx⟩⟩
   have g2:=(g1.swap).imp (B:=rHP E1 (0,.cells [sV s.p.code,.own 3,zA s.p.tick,zA s.p.low,zA s.p.high,zA s.p.wide,zA s.p.rule,zA s.p.top,zA s.p.least,zA s.p.part,.own 4,.own 1,.mp 2] 182)) fun x hx=> .inr ⟨hd0,t0,by simp only[rowHP];exact⟨b,l,p1,p2,hx⟩⟩
   exact g2.swap
  subst hrest
  refine h1.perm ?_
  have p0:=((wT hc0).1.map (rHP E1))
  have p2:=((wT hc2).1.map (rHP E1))
  have p3:=(p0.trans (p2.cons _)).append_right (fz E1.F::L)
  refine List.Perm.trans ?_ (p3.symm.cons _)
  exact(List.Perm.swap _ _ _).trans ((List.Perm.cons _ (.swap _ _ _)).trans (.swap _ _ _))
 have hle2:E1.le ⟨E1.F,E1.tab++[((.slice a li.length c,[]):Hd)]⟩:=Ev.le.app _
 have hget:(E1.tab++[((.slice a li.length c,[]):Hd)])[(zHg s).nx]? =some (.slice a li.length c,[]):=by rw[← R1.nx];simp
 have R2:Rel k L ⟨E1.F,E1.tab++[((.slice a li.length c,[]):Hd)]⟩ ((zHg s).new (.own 2 1 (iE li))) w':=by
  refine⟨by simp[St.new,R1.nx],?_⟩
  have g1:Hp k w' ((zHg s).rows.map (rHP E1)++(slO 2 1 a li.length c (li.map fun n=>Value.int .i64 n)::fz E1.F::L)):=H3.perm (yXb (l₁:=(zHg s).rows.map (rHP E1))).symm
  have g2:=jX (fun r x=>rHP.mono hle2 r) g1
  have g3:Hp k w' (slO 2 1 a li.length c (li.map fun n=>Value.int .i64 n)::((zHg s).rows.map (rHP ⟨E1.F,E1.tab++[((.slice a li.length c,[]):Hd)]⟩)++fz E1.F::L)):=g2.perm yXb
  exact g3.imp fun x hx=> .inr ⟨_,hget,by
   simp only[rowHP]
   exact⟨a,c,_,by rw[y5],z4n _ li,fun el hel=>by obtain⟨n,_,rfl⟩:=yXl.1 hel;rfl,by rw[y5];exact hx⟩⟩
 obtain⟨al,ha,hend⟩:=zBl (yIs s li e2)
 obtain⟨o,o1,E3,o2,o3,o4⟩:=zQb hend hnx (hle.trans hle2) R2 (y:= .slice a li.length c) (by simp only[VR];exact⟨_,hget,_,_,_,rfl⟩)
 exact⟨al,ha,o,o1,E3,o2,o3,o4⟩
open Go Cv Go.Proofs
structure MkB where
 m:Mkt
 p:Prd
 B:List (List zD)
 U:List Int
@[reducible] def MkB.ok (i:MkB):Prop:=i.m.Rep i.p i.B i.U∧BOk i.p i.B
def midsC:Con where
 ι:=MkB
 pat:=fun _=>[.nm 0 0]
 pre:=fun i=>[qC i.m]
 cnd:=fun i=>i.ok
 alts:=fun i=>[{o:=List Int,res:=fun _=> .own 1,post:=fun l=>[qC i.m,.own 2 1 (iE l)],rel:=fun l=>l.Perm ((whL 0 i.B).map (·.1))}]
def clUsC:Con:=zXr 2
def mcopyC:Con:=con1 MkB (fun _=>[.nm 0 0]) (fun i=>[qC i.m]) (fun i=>i.ok) (fun _=> .nm 1 0) (fun i=>[qC i.m,qC i.m])
structure Gt where
 m:Mkt
 W:List (Int×Int)
def xY (W:List (Int×Int)):List (Value×List D):=W.map fun x=>(.int .i64 x.1,[.v (.int .i64 x.2)])
def GtU (g:Gt):Nat→AObj
 |0=> .cells [.nm 1 0,.mp 2] 107
 |1=>qC g.m
 |2=> .map (xY g.W)
 |_=> .gone
def GtR (g:Gt):AObj:= .adt Gt 3 GtU g
def wY (o:Int×Rep):List D:= .v (.int .i64 o.1)::xN o.2
@[reducible] def z0n:Nat:=42
@[reducible] def yPi (O:List (Int×Rep)):AObj:= .own z0n 9 (O.map wY)
def newGC:Con where
 ι:=Prd
 pat:=fun p=>[prdV p]
 pre:=fun _=>[]
 cnd:=fun p=>p.small
 alts:=fun p=>[{o:=Unit,res:=fun _=> .tup [.nm 0 0,zA 0],post:=fun _=>[GtR ⟨⟨p,cD p,[]⟩,[]⟩],rel:=fun _=>p.check=0},{o:=Unit,res:=fun _=> .tup [.d (.v (.pointer none)),zA p.check],post:=fun _=>[],rel:=fun _=>p.check≠0}]
structure GrI where
 s:Int
 id:Int
 why:Int
def grejC:Con:=con1 GrI (fun i=>[zA i.s,zA i.id,zA i.why]) (fun _=>[]) (fun _=>True) (fun _=> .own 0) (fun i=>[yPi [(i.s,⟨2,i.id,0,0,0,0,0,i.why⟩)]])
structure SbI where
 s:Int
 b:List UInt8
def yJ (s:Int) (b:List UInt8):Cmd×Int:=if s<0∨8≤s then(zNa,1)else xL b
def greadC:Con:=con1 SbI (fun i=>[zA i.s,roV 1 (bE i.b)]) (fun _=>[]) (fun i=>i.b.length≤1099511627776) (fun i=> .tup [zCy (yJ i.s i.b).1,zA (yJ i.s i.b).2]) (fun _=>[])
structure GtI where
 g:Gt
 p:Prd
 B:List (List zD)
 U:List Int
 s:Int
@[reducible] def GtI.ok (i:GtI):Prop:=i.g.m.Rep i.p i.B i.U∧BOk i.p i.B
def gopenC:Con:=con1 GtI (fun i=>[.nm 0 0,zA i.s]) (fun i=>[GtR i.g]) (fun i=>i.ok) (fun i=>zA (eX i.B i.g.W i.s)) (fun i=>[GtR i.g])
def GtO (g:Gt):List AObj:=[.cells [.nm 1 0,.mp 2] 107,qC g.m,.map (xY g.W)]
def gopenOC:Con:=con1 GtI (fun i=>[.nm 0 0,zA i.s]) (fun i=>GtO i.g) (fun i=>i.ok) (fun i=>zA (eX i.B i.g.W i.s)) (fun i=>GtO i.g)
def yEt:List SAnn:=[{ι:=Int×Nat,slots:=fun j=>[(5,zA j.1),(14,zA j.2)],rows:=fun _=>[]}]
def gownerC:Con:=con1 GtI (fun i=>[.nm 0 0,zA i.s]) (fun i=>[GtR i.g]) (fun _=>True) (fun i=> .tup [zA (xG i.g.W i.s).1,yL (xG i.g.W i.s).2]) (fun i=>[GtR i.g])
def gmktC:Con:=con1 GtI (fun _=>[.nm 0 0]) (fun i=>[GtR i.g]) (fun i=>i.ok) (fun _=> .nm 1 0) (fun i=>[GtR i.g,qC i.g.m])
structure GdI where
 g:Gt
 p:Prd
 B:List (List zD)
 U:List Int
 s:Int
 b:List UInt8
 X:GtX
def gdoC:Con where
 ι:=GdI
 pat:=fun i=>[.nm 0 0,zA i.s,roV 1 (bE i.b)]
 pre:=fun i=>[GtR i.g]
 cnd:=fun i=>(i.g.m.Rep i.p i.B i.U∧BOk i.p i.B)∧i.b.length≤1099511627776∧i.X=fP i.p i.B i.U i.g.W i.s i.b
 alts:=fun i=>[{o:=Mkt,res:=fun _=> .own 1,post:=fun o=>[GtR ⟨o,i.X.W⟩,yPi i.X.O],rel:=fun o=>o.Rep i.p i.X.B i.X.U}]
structure GdJ where
 o:Mkt
 W:List (Int×Int)
 O:List (Int×Rep)
 k:Nat
def GdJ.rows (j:GdJ):List AObj:=[.cells [.nm 1 0,.mp 2] 107,qC j.o,.map (xY j.W),yPi j.O]
def yUw:List SAnn:=[{ι:=GdJ,slots:=fun j=>[(0,.nm 0 0),(11,.own 3),(74,zA j.k)],rows:=GdJ.rows}]
def yVs:List (Nat×SAnn):=[(20,bj 36),(28,bj 50),(66,ij 14)]
open Go Cv Go.Proofs
def yBf (es:List (Value×List D)):Prop:=
 ∃(a:List (Value×List D)),a=es∧True∧∀(b:Unit),True→∃(c:Unit),es=a∧es=a∧True
theorem yPs (es:List (Value×List D)):yBf es=walk Tryz.prog ([(147,gE 119)]) 0 ([]) ([]) [] Tryz.f104 (Tryz.f104.body.getD .skip) (clUsC.pat es) (clUsC.pre es) (clUsC.alts es):=by kernel_rfl
theorem yNc (hG:GOk Tryz.prog ([(147,gE 119)])) (h:∀(es:List (Value×List D)),clUsC.cnd es→yBf es):clUsC.ok Tryz.prog 104:=dA mixed ([(147,gE 119)]) hG 0 (fun(es:List (Value×List D))=>[]) (fun(es:List (Value×List D))=>[]) [] Tryz.func104 (by kernel_rfl) (by kernel_rfl) (by kernel_rfl) (fun _=>by kernel_rfl) (fun(es:List (Value×List D)) hc=>Eq.mp (yPs es) (h es hc))
def yRw (i:MkB):Prop:=
 ∃(i_1:MSt),zE i_1=zE i.m.s∧i_1.wh.length≤1000000∧∀(o:List Int),o.Perm (List.map (fun(x:Int×Int) ↦ x.fst) i_1.wh)→∃(o_1:List Int),sb i.m.p.code=sb i.m.p.code∧i.m.p.tick=i.m.p.tick∧i.m.p.low=i.m.p.low∧i.m.p.high=i.m.p.high∧i.m.p.wide=i.m.p.wide∧i.m.p.rule=i.m.p.rule∧i.m.p.top=i.m.p.top∧i.m.p.least=i.m.p.least∧i.m.p.part=i.m.p.part∧zE i.m.s=zE i_1∧zX i.m.used=zX i.m.used∧AObj.fro 1 (iE i.m.p.months)=AObj.fro 1 (iE i.m.p.months)∧AObj.fro 1 (iE i.m.p.settle)=AObj.fro 1 (iE i.m.p.settle)∧iE o_1=iE o∧o_1.Perm (List.map (fun(x:Int×Int) ↦ x.fst) (whL 0 i.B))
def yMi (i:MkB):Prop:=
 ∃(i_1:MSt),zE i_1=zE i.m.s∧(i_1.books.length≤1000000∧∀(b:Book),b∈i_1.books→(b.a.slots.length≤1000000∧b.a.queues.length≤1000000)∧b.buys.length≤1000000∧b.sells.length≤1000000∧b.spare.length≤1000000)∧∀(o:Unit),True→True∧(sb i.m.p.code=sb i.m.p.code∧True∧i.m.p.tick=i.m.p.tick∧i.m.p.low=i.m.p.low∧i.m.p.high=i.m.p.high∧i.m.p.wide=i.m.p.wide∧i.m.p.rule=i.m.p.rule∧i.m.p.top=i.m.p.top∧i.m.p.least=i.m.p.least∧i.m.p.part=i.m.p.part∧True∧True)∧∃(i_2:List (Value×List D)),i_2=zX i.m.used∧True∧∀(o:Unit),True→(sb i.m.p.code=sb i.m.p.code∧True∧i.m.p.tick=i.m.p.tick∧i.m.p.low=i.m.p.low∧i.m.p.high=i.m.p.high∧i.m.p.wide=i.m.p.wide∧i.m.p.rule=i.m.p.rule∧i.m.p.top=i.m.p.top∧i.m.p.least=i.m.p.least∧i.m.p.part=i.m.p.part∧True∧True)∧∃(o:Unit),sb i.m.p.code=sb i.m.p.code∧i.m.p.tick=i.m.p.tick∧i.m.p.low=i.m.p.low∧i.m.p.high=i.m.p.high∧i.m.p.wide=i.m.p.wide∧i.m.p.rule=i.m.p.rule∧i.m.p.top=i.m.p.top∧i.m.p.least=i.m.p.least∧i.m.p.part=i.m.p.part∧zE i.m.s=zE i_1∧zX i.m.used=i_2∧AObj.fro 1 (iE i.m.p.months)=AObj.fro 1 (iE i.m.p.months)∧AObj.fro 1 (iE i.m.p.settle)=AObj.fro 1 (iE i.m.p.settle)∧sb i.m.p.code=sb i.m.p.code∧i.m.p.tick=i.m.p.tick∧i.m.p.low=i.m.p.low∧i.m.p.high=i.m.p.high∧i.m.p.wide=i.m.p.wide∧i.m.p.rule=i.m.p.rule∧i.m.p.top=i.m.p.top∧i.m.p.least=i.m.p.least∧i.m.p.part=i.m.p.part∧zE i.m.s=zE i_1∧zX i.m.used=i_2∧AObj.fro 1 (iE i.m.p.months)=AObj.fro 1 (iE i.m.p.months)∧AObj.fro 1 (iE i.m.p.settle)=AObj.fro 1 (iE i.m.p.settle)∧True
def yTw (p:Prd):Prop:=
 ∃(i:Prd),sb i.code=sb p.code∧iE i.months=iE p.months∧i.tick=p.tick∧i.low=p.low∧i.high=p.high∧i.wide=p.wide∧i.rule=p.rule∧i.top=p.top∧i.least=p.least∧i.part=p.part∧iE i.settle=iE p.settle∧(i.code.length≤1099511627776∧i.months.length≤1099511627776∧i.settle.length≤1099511627776)∧(∀(o:Unit),i.check=0→(∃(o:Unit),(0:Int)=(0:Int)∧AObj.adt Mkt 5 yP (Mkt.mk p (cD p) [])=AObj.adt Mkt 5 yP (Mkt.mk i (cD i) [])∧xY []=[]∧p.check=0)∨∃(o:Unit),False)∧∀(o:Unit),i.check≠0→cnd (i.check !=0) ((∃(o:Unit),False)∨∃(o:Unit),True∧p.check=i.check∧(p.check=0→False)) ((∃(o:Unit),(0:Int)=(0:Int)∧False)∨∃(o:Unit),False)
def yTs (i:GrI):Prop:=
 ∃(o:Unit),[wY (i.s,Rep.mk 2 i.id 0 0 0 0 0 i.why)]=[[D.v (.int .i64 i.s),D.v (.int .i64 2),D.v (.int .i64 i.id),D.v (.int .i64 0),D.v (.int .i64 0),D.v (.int .i64 0),D.v (.int .i64 0),D.v (.int .i64 0),D.v (.int .i64 i.why)]]∧True
def yOf (i:SbI):Prop:=
 cnd (decide (i.s<0)) (∃(o:Unit),(yJ i.s i.b).fst.kind=0∧(yJ i.s i.b).fst.id=0∧(yJ i.s i.b).fst.inst=0∧(yJ i.s i.b).fst.side=0∧(yJ i.s i.b).fst.price=0∧(yJ i.s i.b).fst.qty=0∧(yJ i.s i.b).fst.least=0∧(yJ i.s i.b).fst.time=0∧sb (yJ i.s i.b).fst.label=ByteArray.mk #[]∧(yJ i.s i.b).snd=1∧True) (cnd (decide (i.s≥8)) (∃(o:Unit),(yJ i.s i.b).fst.kind=0∧(yJ i.s i.b).fst.id=0∧(yJ i.s i.b).fst.inst=0∧(yJ i.s i.b).fst.side=0∧(yJ i.s i.b).fst.price=0∧(yJ i.s i.b).fst.qty=0∧(yJ i.s i.b).fst.least=0∧(yJ i.s i.b).fst.time=0∧sb (yJ i.s i.b).fst.label=ByteArray.mk #[]∧(yJ i.s i.b).snd=1∧True) (∃(i_1:List UInt8),bE i_1=bE i.b∧i_1.length≤1099511627776∧∀(o:Unit),True→∃(o:Unit),(yJ i.s i.b).fst.kind=(xL i_1).fst.kind∧(yJ i.s i.b).fst.id=(xL i_1).fst.id∧(yJ i.s i.b).fst.inst=(xL i_1).fst.inst∧(yJ i.s i.b).fst.side=(xL i_1).fst.side∧(yJ i.s i.b).fst.price=(xL i_1).fst.price∧(yJ i.s i.b).fst.qty=(xL i_1).fst.qty∧(yJ i.s i.b).fst.least=(xL i_1).fst.least∧(yJ i.s i.b).fst.time=(xL i_1).fst.time∧sb (yJ i.s i.b).fst.label=sb (xL i_1).fst.label∧(yJ i.s i.b).snd=(xL i_1).snd∧True))
def zAn (a:Int×Nat) (b:Int×Nat) (c:Int×Nat→Prop) (d:Int×Nat→Nat) (e:MkB) (f:List Int) (g:GtI):Prop:=(↑a.snd:Int)=IntKind.i64.wrap ((↑b.snd:Int)+1)∧c a∧d a<d b∧qC e.m=qC e.m∧AObj.own 2 1 (iE f)=AObj.own 2 1 (iE f)∧Sx.AObj.cells (jT (kG 0 1 3) [V.nm 1 0,V.mp 2]) (107:TypeId)=Sx.AObj.cells (jT (kG 0 1 3) [V.nm 1 0,V.mp 2]) (107:TypeId)∧Sx.AObj.map (xY g.g.W)=Sx.AObj.map (xY g.g.W)
def yFg (i:GtI):Prop:=
 ∃(a:MkB),qC a.m=qC i.g.m∧(a.m.Rep a.p a.B a.U∧BOk a.p a.B)∧∀(b:List Int),b.Perm (List.map (fun(x:Int×Int) ↦ x.fst) (whL 0 a.B))→∃(c:Int×Nat),c.fst=0∧(↑c.snd:Int)=0∧∃(d:Int×Nat→Prop),∃(e:Int×Nat→Nat),d c∧∀(f:Int×Nat),d f→cnd (decide ((↑f.snd:Int)<(↑(iE b).length:Int))) ((0≤(↑f.snd:Int)∧(↑f.snd:Int)<(↑(iE b).length:Int))∧∃(g:Int),zF (iE b) (↑f.snd:Int).toNat 0 1=some [dI g]∧(∀(h:Value×List D),h∈xY i.g.W→like (Value.int IntKind.i64 g) h.fst=true)∧∃(h:Bool),∃(j:Int),(qY (Value.int IntKind.i64 g) (xY i.g.W)=some [dI j]∧h=true∨qY (Value.int IntKind.i64 g) (xY i.g.W)=none∧[dI j]=[dI 0]∧h=false)∧cnd (j==i.s) (∃(k:Int×Nat),k.fst=IntKind.i64.wrap (f.fst+1)∧zAn k f d e a b i) (∃(k:Int×Nat),k.fst=f.fst∧zAn k f d e a b i)) (∃(g:Unit),(↑(eX i.B i.g.W i.s):Int)=f.fst∧qC i.g.m=qC a.m∧xY i.g.W=xY i.g.W∧True)
def yHm (i:GtI):Prop:=
 ∃(i_1:MkB),AObj.adt Mkt 5 yP i_1.m=qC i.g.m∧(i_1.m.Rep i_1.p i_1.B i_1.U∧BOk i_1.p i_1.B)∧∀(o:List Int),o.Perm (List.map (fun(x:Int×Int) ↦ x.fst) (whL 0 i_1.B))→∃(i0:Int×Nat),i0.fst=0∧(↑i0.snd:Int)=0∧∃(I:Int×Nat→Prop),∃(μ:Int×Nat→Nat),I i0∧∀(i_2:Int×Nat),I i_2→cnd (decide ((↑i_2.snd:Int)<(↑(iE o).length:Int))) ((0≤(↑i_2.snd:Int)∧(↑i_2.snd:Int)<(↑(iE o).length:Int))∧∃(n:Int),zF (iE o) (↑i_2.snd:Int).toNat 0 1=some [D.v (.int .i64 n)]∧(∀(p:Value×List D),p∈xY i.g.W→like (Value.int IntKind.i64 n) p.fst=true)∧∃(b:Bool),∃(n_1:Int),(qY (Value.int IntKind.i64 n) (xY i.g.W)=some [D.v (.int .i64 n_1)]∧b=true∨qY (Value.int IntKind.i64 n) (xY i.g.W)=none∧[D.v (.int .i64 n_1)]=[D.v (.int .i64 0)]∧b=false)∧cnd (n_1==i.s) (∃(i':Int×Nat),i'.fst=IntKind.i64.wrap (i_2.fst+1)∧(↑i'.snd:Int)=IntKind.i64.wrap ((↑i_2.snd:Int)+1)∧I i'∧μ i'<μ i_2∧AObj.adt Mkt 5 yP i_1.m=AObj.adt Mkt 5 yP i_1.m∧AObj.own 2 1 (iE o)=AObj.own 2 1 (iE o)∧Sx.AObj.cells [V.nm 1 0,V.mp 2] (107:TypeId)=Sx.AObj.cells [V.nm 1 0,V.mp 2] (107:TypeId)∧Sx.AObj.map (xY i.g.W)=Sx.AObj.map (xY i.g.W)) (∃(i':Int×Nat),i'.fst=i_2.fst∧(↑i'.snd:Int)=IntKind.i64.wrap ((↑i_2.snd:Int)+1)∧I i'∧μ i'<μ i_2∧AObj.adt Mkt 5 yP i_1.m=AObj.adt Mkt 5 yP i_1.m∧AObj.own 2 1 (iE o)=AObj.own 2 1 (iE o)∧Sx.AObj.cells [V.nm 1 0,V.mp 2] (107:TypeId)=Sx.AObj.cells [V.nm 1 0,V.mp 2] (107:TypeId)∧Sx.AObj.map (xY i.g.W)=Sx.AObj.map (xY i.g.W))) (∃(o:Unit),(↑(eX i.B i.g.W i.s):Int)=i_2.fst∧AObj.adt Mkt 5 yP i.g.m=AObj.adt Mkt 5 yP i_1.m∧xY i.g.W=xY i.g.W∧True)
def yIt (i:GtI):Prop:=
 (∀(p:Value×List D),p∈xY i.g.W→like (Value.int IntKind.i64 i.s) p.fst=true)∧∃(b:Bool),∃(n:Int),(qY (Value.int IntKind.i64 i.s) (xY i.g.W)=some [D.v (.int .i64 n)]∧b=true∨qY (Value.int IntKind.i64 i.s) (xY i.g.W)=none∧[D.v (.int .i64 n)]=[D.v (.int .i64 0)]∧b=false)∧∃(o:Unit),(xG i.g.W i.s).fst=n∧(xG i.g.W i.s).snd=b∧AObj.adt Mkt 5 yP i.g.m=AObj.adt Mkt 5 yP i.g.m∧xY i.g.W=xY i.g.W∧True
def yUe (i:GtI):Prop:=
 ∃(i_1:MkB),AObj.adt Mkt 5 yP i_1.m=AObj.adt Mkt 5 yP i.g.m∧(i_1.m.Rep i_1.p i_1.B i_1.U∧BOk i_1.p i_1.B)∧∀(o:Unit),True→∃(o:Unit),AObj.adt Mkt 5 yP i.g.m=AObj.adt Mkt 5 yP i_1.m∧xY i.g.W=xY i.g.W∧AObj.adt Mkt 5 yP i.g.m=AObj.adt Mkt 5 yP i_1.m∧True
def r9:=(1+((3:Nat)-(1:Nat))+((0:Nat)-(0:Nat))+(1:Nat)+(0:Nat)+0+((2:Nat)-(1:Nat))+1)
def rP (a:Int) (b:GdI) (c:GdJ):=(uC (Value.int IntKind.i64 a) [dI b.s] (xY c.W))
def aG (a:SbI):=(D.v (Value.string (sb (yJ a.s a.b).fst.label)))
def bT (a:SbI):=(dI ((yJ a.s a.b).fst.price))
def aH (a:SbI):=(dI ((yJ a.s a.b).fst.least))
def b9 (a:SbI):=(dI ((yJ a.s a.b).fst.time))
def aA (a:SbI):=(dI ((yJ a.s a.b).fst.side))
def aE (a:SbI):=(dI ((yJ a.s a.b).fst.kind))
def bN (a:SbI):=(dI ((yJ a.s a.b).fst.inst))
def bX (a:SbI):=(dI ((yJ a.s a.b).fst.qty))
def bH (a:SbI):=(dI ((yJ a.s a.b).fst.id))
def zSd (a:EnI) (b:SbI):Prop:=AObj.own tRp 8 (List.map xN a.X.R)=AObj.own tRp 8 (List.map xN a.X.R)∧Sx.AObj.cells [V.d (aE b),V.d (bH b),V.d (bN b),V.d (aA b),V.d (bT b),V.d (bX b),V.d (aH b),V.d (b9 b),V.d (aG b)] 36=Sx.AObj.cells [V.d (aE b),V.d (bH b),V.d (bN b),V.d (aA b),V.d (bT b),V.d (bX b),V.d (aH b),V.d (b9 b),V.d (aG b)] 36
def zQm (a:GdJ) (b:EnI) (c:SbI):Prop:=AObj.own z0n 9 (List.map wY a.O)=AObj.own z0n 9 (List.map wY a.O)∧zSd b c
def zSl (a:Int→Prop) (b:Int) (c:Int) (d:Int) (e:Int) (f:Int) (g:Int) (h:Int) (j:Int) (k:Int) (l:GdJ) (m:GdJ) (n:GdI) (p:EnI) (q:SbI):Prop:=a b∧Sx.AObj.cells [V.d (dI c),V.d (dI d),V.d (dI e),V.d (dI f),V.d (dI g),V.d (dI h),V.d (dI j),V.d (dI k)] 40=Sx.AObj.cells [V.d (dI c),V.d (dI d),V.d (dI e),V.d (dI f),V.d (dI g),V.d (dI h),V.d (dI j),V.d (dI k)] 40∧Sx.AObj.cells (jT (bG r9 [((2:Nat),1+nat_lit 1),((1:Nat),1+nat_lit 0),((3:Nat),1+((3:Nat)-(1:Nat))+((0:Nat)-(0:Nat))+(1:Nat)+(0:Nat)+0+((2:Nat)-(1:Nat))),((0:Nat),(0:Nat))] 0 l.rows) [V.nm 1 0,V.mp 2]) (107:TypeId)=Sx.AObj.cells (jT (bG r9 [((2:Nat),1+nat_lit 1),((1:Nat),1+nat_lit 0),((3:Nat),1+((3:Nat)-(1:Nat))+((0:Nat)-(0:Nat))+(1:Nat)+(0:Nat)+0+((2:Nat)-(1:Nat))),((0:Nat),(0:Nat))] 0 l.rows) [V.nm 1 0,V.mp 2]) (107:TypeId)∧qC m.o=qC m.o∧Sx.AObj.map (rP d n m)=Sx.AObj.map (rP d n m)∧zQm m p q
def zTb (a:Int→Prop) (b:Int) (c:Int) (d:Int) (e:Int) (f:Int) (g:Int) (h:Int) (j:Int) (k:Int) (l:GdJ) (m:GdJ) (n:EnI) (p:SbI):Prop:=a b∧Sx.AObj.cells [V.d (dI c),V.d (dI d),V.d (dI e),V.d (dI f),V.d (dI g),V.d (dI h),V.d (dI j),V.d (dI k)] 40=Sx.AObj.cells [V.d (dI c),V.d (dI d),V.d (dI e),V.d (dI f),V.d (dI g),V.d (dI h),V.d (dI j),V.d (dI k)] 40∧Sx.AObj.cells (jT (bG r9 [((2:Nat),1+nat_lit 1),((1:Nat),1+nat_lit 0),((3:Nat),1+((3:Nat)-(1:Nat))+((0:Nat)-(0:Nat))+(1:Nat)+(0:Nat)+0+((2:Nat)-(1:Nat))),((0:Nat),(0:Nat))] 0 l.rows) [V.nm 1 0,V.mp 2]) (107:TypeId)=Sx.AObj.cells (jT (bG r9 [((2:Nat),1+nat_lit 1),((1:Nat),1+nat_lit 0),((3:Nat),1+((3:Nat)-(1:Nat))+((0:Nat)-(0:Nat))+(1:Nat)+(0:Nat)+0+((2:Nat)-(1:Nat))),((0:Nat),(0:Nat))] 0 l.rows) [V.nm 1 0,V.mp 2]) (107:TypeId)∧qC m.o=qC m.o∧Sx.AObj.map (xY m.W)=Sx.AObj.map (xY m.W)∧zQm m n p
def zHo (a:Bool→Prop) (b:Bool) (c:SbI) (d:GdI):Prop:=a b∧Sx.AObj.cells [V.d (aE c),V.d (bH c),V.d (bN c),V.d (aA c),V.d (bT c),V.d (bX c),V.d (aH c),V.d (b9 c),V.d (aG c)] 36=Sx.AObj.cells [V.d (aE c),V.d (bH c),V.d (bN c),V.d (aA c),V.d (bT c),V.d (bX c),V.d (aH c),V.d (b9 c),V.d (aG c)] 36∧Sx.AObj.cells (jT (kG 0 1 3) [V.nm 1 0,V.mp 2]) (107:TypeId)=Sx.AObj.cells (jT (kG 0 1 3) [V.nm 1 0,V.mp 2]) (107:TypeId)∧qC d.g.m=qC d.g.m∧Sx.AObj.map (xY d.g.W)=Sx.AObj.map (xY d.g.W)
def zRv (a:Bool→Prop) (b:SbI) (c:GdI):Prop:=∃(d:Bool),d=false∧zHo a d b c
def zSq (a:GdJ) (b:GdJ) (c:Int) (d:Int) (e:Int) (f:Int) (g:Int) (h:Int) (j:Int) (k:Int) (l:Int) (m:GdJ→Prop) (n:GdJ→Nat) (p:EnI) (q:SbI):Prop:=List.map wY a.O=List.map wY b.O++[[dI c,dI d,dI e,dI f,dI g,dI h,dI j,dI k,dI l]]∧m a∧n a<n b∧zSd p q
def zDf (a:GdI) (b:GrI):Prop:=True∧∀(c:Unit),True→∃(d:Mkt),qC d=qC a.g.m∧xY a.X.W=xY a.g.W∧List.map wY a.X.O=[wY (b.s,Rep.mk 2 b.id 0 0 0 0 0 b.why)]∧d.Rep a.p a.X.B a.X.U
def zDa (a:SbI):=(Value.int IntKind.i64 (yJ a.s a.b).fst.id)
def yRz (i:GdI):Prop:=
 ∃(a:SbI),a.s=i.s∧bE a.b=bE i.b∧a.b.length≤1099511627776∧∀(b:Unit),True→cnd ((yJ a.s a.b).snd !=0) (∃(c:GrI),c.s=i.s∧c.id=0∧c.why=(yJ a.s a.b).snd∧zDf i c) ((∀(c:Value×List D),c∈xY i.g.W→like (zDa a) c.fst=true)∧∃(c:Bool),∃(d:Int),(qY (zDa a) (xY i.g.W)=some [dI d]∧c=true∨qY (zDa a) (xY i.g.W)=none∧[dI d]=[dI 0]∧c=false)∧∃(e:Bool),∃(f:Bool→Prop),cnd ((yJ a.s a.b).fst.kind==1) (∃(g:GtI),g.s=i.s∧qC g.g.m=qC i.g.m∧xY g.g.W=xY i.g.W∧(g.g.m.Rep g.p g.B g.U∧BOk g.p g.B)∧∀(h:Unit),True→∃(j:Bool),j=decide ((↑(eX g.B g.g.W g.s):Int)≥64)∧f j∧Sx.AObj.cells [V.d (aE a),V.d (bH a),V.d (bN a),V.d (aA a),V.d (bT a),V.d (bX a),V.d (aH a),V.d (b9 a),V.d (aG a)] 36=Sx.AObj.cells [V.d (aE a),V.d (bH a),V.d (bN a),V.d (aA a),V.d (bT a),V.d (bX a),V.d (aH a),V.d (b9 a),V.d (aG a)] 36∧Sx.AObj.cells (jT (cJ 3 (1+((3:Nat)-(1:Nat))+((0:Nat)-(0:Nat))+(1:Nat)+(0:Nat)) ((3:Nat)-(3:Nat)) [((2:Nat),1+nat_lit 1),((1:Nat),1+nat_lit 0),((0:Nat),(0:Nat))]) [V.nm 1 0,V.mp 2]) (107:TypeId)=Sx.AObj.cells (jT (kG 0 1 3) [V.nm 1 0,V.mp 2]) (107:TypeId)∧qC g.g.m=qC i.g.m∧Sx.AObj.map (xY g.g.W)=Sx.AObj.map (xY i.g.W)) (zRv f a i)∧∀(g:Bool),f g→cnd g (∃(h:GrI),h.s=i.s∧h.id=(yJ a.s a.b).fst.id∧h.why=30∧zDf i h) (∃(h:Bool),∃(j:Bool→Prop),cnd ((yJ a.s a.b).fst.kind !=1) (cnd (!c) (∃(k:Bool),k=true∧zHo j k a i) (∃(k:Bool),k=(d !=i.s)∧zHo j k a i)) (zRv j a i)∧∀(k:Bool),j k→cnd k (∃(l:GrI),l.s=i.s∧l.id=(yJ a.s a.b).fst.id∧l.why=26∧zDf i l) (∃(l:EnI),l.c.kind=(yJ a.s a.b).fst.kind∧l.c.id=(yJ a.s a.b).fst.id∧l.c.inst=(yJ a.s a.b).fst.inst∧l.c.side=(yJ a.s a.b).fst.side∧l.c.price=(yJ a.s a.b).fst.price∧l.c.qty=(yJ a.s a.b).fst.qty∧l.c.least=(yJ a.s a.b).fst.least∧l.c.time=(yJ a.s a.b).fst.time∧sb l.c.label=sb (yJ a.s a.b).fst.label∧qC l.m=qC i.g.m∧((l.m.Rep l.p l.B l.U∧BOk l.p l.B)∧l.c.label.length≤140737488355328∧((-9223372036854775808)≤l.c.qty∧l.c.qty≤9223372036854775807)∧l.X=doF l.p l.B l.U l.c)∧∀(m:Mkt),m.Rep l.p l.X.B l.X.U→∃(n:GdJ),(↑n.k:Int)=0∧qC n.o=qC m∧xY n.W=xY i.g.W∧List.map wY n.O=[]∧∃(p:GdJ→Prop),∃(q:GdJ→Nat),p n∧∀(r:GdJ),p r→cnd (decide ((↑r.k:Int)<(↑(List.map xN l.X.R).length:Int))) ((0≤(↑r.k:Int)∧(↑r.k:Int)<(↑(List.map xN l.X.R).length:Int))∧∃(s:Int),∃(t:Int),∃(u:Int),∃(v:Int),∃(w:Int),∃(x:Int),∃(y:Int),∃(z:Int),zF (List.map xN l.X.R) (↑r.k:Int).toNat 0 8=some [dI s,dI t,dI u,dI v,dI w,dI x,dI y,dI z]∧cnd (s==1) ((∀(a_1:Value×List D),a_1∈xY r.W→like (Value.int IntKind.i64 t) a_1.fst=true)∧(∀(a_1:Value×List D),a_1∈uC (Value.int IntKind.i64 t) [dI i.s] (xY r.W)→like (Value.int IntKind.i64 t) a_1.fst=true)∧∃(a_1:Bool),∃(a_2:Int),(qY (Value.int IntKind.i64 t) (rP t i r)=some [dI a_2]∧a_1=true∨qY (Value.int IntKind.i64 t) (rP t i r)=none∧[dI a_2]=[dI 0]∧a_1=false)∧∃(a_3:Int),∃(a_4:Int→Prop),cnd (s==2) (∃(a_5:Int),a_5=i.s∧zSl a_4 a_5 s t u v w x y z n r i l a) (∃(a_5:Int),a_5=a_2∧zSl a_4 a_5 s t u v w x y z n r i l a)∧∀(a_5:Int),a_4 a_5→((List.map wY r.O).length+1)*(72:Nat)≤(70368744177664:Nat)∧∃(a_6:GdJ),(↑a_6.k:Int)=IntKind.i64.wrap ((↑r.k:Int)+1)∧qC a_6.o=qC r.o∧xY a_6.W=uC (Value.int IntKind.i64 t) [dI i.s] (xY r.W)∧zSq a_6 r a_5 s t u v w x y z p q l a) ((∀(a_1:Value×List D),a_1∈xY r.W→like (Value.int IntKind.i64 t) a_1.fst=true)∧∃(a_1:Bool),∃(a_2:Int),(qY (Value.int IntKind.i64 t) (xY r.W)=some [dI a_2]∧a_1=true∨qY (Value.int IntKind.i64 t) (xY r.W)=none∧[dI a_2]=[dI 0]∧a_1=false)∧∃(a_3:Int),∃(a_4:Int→Prop),cnd (s==2) (∃(a_5:Int),a_5=i.s∧zTb a_4 a_5 s t u v w x y z n r l a) (∃(a_5:Int),a_5=a_2∧zTb a_4 a_5 s t u v w x y z n r l a)∧∀(a_5:Int),a_4 a_5→((List.map wY r.O).length+1)*(72:Nat)≤(70368744177664:Nat)∧∃(a_6:GdJ),(↑a_6.k:Int)=IntKind.i64.wrap ((↑r.k:Int)+1)∧qC a_6.o=qC r.o∧xY a_6.W=xY r.W∧zSq a_6 r a_5 s t u v w x y z p q l a)) (∃(s:Mkt),qC s=qC r.o∧xY i.X.W=xY r.W∧List.map wY i.X.O=List.map wY r.O∧s.Rep i.p i.X.B i.X.U))))
open Go Cv Go.Proofs
theorem yKl:clUsC.ok Tryz.prog 104:=yNc (gokc (zDs _) gok0) fun es _=>by
 unfold yBf
 refine⟨es,?_⟩;(repeat'(first|exact rfl|exact trivial|assumption|apply And.intro|refine fun(_:Unit) (_:True)=>?_|refine Exists.intro () ?_|omega|(dsimp only;omega)))
theorem yNw {s:MSt} {p:Prd} {B:List (List zD)} (h:s.Rep p B):s.wh.length=zDx B:=by rw[zDx];exact h.wh.length_eq
theorem zYe:∀{B:List (List zD)} (n:Nat),(∀L∈B,L.length≤250)→(whL n B).length≤250*B.length
 |[],_,_=>yXn _
 |L::B,n,h=>by
  have:=zYe (B:=B) (n+1) fun x hx=>h x (yWr _ hx)
  have:=h L yWq
  rw[whL,yWs,yWo,yXa];omega
theorem z3r:midsC.ok Tryz.prog 51:=okw (V:=yRw) mixed (gokc z9p gok0) 0 (fun _=>[]) (fun _=>[]) [0] Tryz.func51 fun(i:MkB) h=>by
 obtain⟨⟨ep,hR,eu⟩,hB⟩:i.m.Rep i.p i.B i.U∧BOk i.p i.B:=h
 have hl:i.m.s.wh.length≤1000000:=by
  have hwf:=hR.wf hB
  have h1:=zYe (B:=i.B) 0 fun L hL=>by
   obtain⟨k,hk⟩:=yYi.1 hL
   exact(hwf.od k L hk).2.2
  have:=hB.bl
  have:=xV i.p
  rw[yNw hR,zDx]
  omega
 exact⟨i.m.s,rfl,hl,fun o ho=>⟨o,rfl,rfl,rfl,rfl,rfl,rfl,rfl,rfl,rfl,rfl,rfl,rfl,by(repeat'(first|exact trivial|exact rfl|apply And.intro)),rfl,ho.trans (hR.wh.map _)⟩⟩
theorem yDn:mcopyC.ok Tryz.prog 54:=okw (V:=yMi) mixed (gokc zDh (gokc yKl gok0)) 0 (fun _=>[]) (fun _=>[]) [0] Tryz.func54 fun(i:MkB) h=>by
 obtain⟨⟨ep,hR,eu⟩,hB⟩:i.m.Rep i.p i.B i.U∧BOk i.p i.B:=h
 have hs:=hR.small hB
 exact⟨i.m.s,rfl,hs,fun _ _=>⟨trivial,by(repeat'(first|exact trivial|exact rfl|apply And.intro)),zX i.m.used,rfl,trivial,fun _ _=>⟨by(repeat'(first|exact trivial|exact rfl|apply And.intro)),(),by(repeat'(first|exact trivial|exact rfl|apply And.intro))⟩⟩⟩
theorem newG_ok:newGC.ok Tryz.prog 14:=okw (V:=yTw) mixed (gokc yIi gok0) 0 (fun _=>[]) (fun _=>[]) [] Tryz.func14 fun(p:Prd) h=>by
 refine⟨p,rfl,rfl,rfl,rfl,rfl,rfl,rfl,rfl,rfl,rfl,rfl,h,fun _ c=> .inl ⟨(),rfl,rfl,rfl,c⟩,fun _ c=>Cv.cnd.mk (fun e=> .inr ⟨(),trivial,rfl,c⟩) (fun e=>absurd (by simpa using e) c)⟩
theorem yIo:grejC.ok Tryz.prog 50:=okw (V:=yTs) mixed gok0 0 (fun _=>[]) (fun _=>[]) [] Tryz.func50 fun(i:GrI) h=>⟨(),rfl,trivial⟩
theorem yEb:greadC.ok Tryz.prog 49:=okw (V:=yOf) mixed (gokc yGv gok0) 0 (fun _=>[]) (fun _=>[]) [] Tryz.func49 fun(i:SbI) h=>by
 have h:i.b.length≤1099511627776:=h
 have hbad:i.s<0∨8≤i.s→yJ i.s i.b=(zNa,1):=fun e=>yWm e
 refine zJ (fun e=> ?_) (fun e=>zJ (fun e2=> ?_) (fun e2=> ?_))
 ·rw[hbad (.inl e)];exact⟨(),rfl,rfl,rfl,rfl,rfl,rfl,rfl,rfl,rfl,rfl,trivial⟩
 ·rw[hbad (.inr e2)];exact⟨(),rfl,rfl,rfl,rfl,rfl,rfl,rfl,rfl,rfl,rfl,trivial⟩
 ·have hg:yJ i.s i.b=xL i.b:=yWl (by omega)
  rw[hg]
  exact⟨i.b,rfl,h,fun _ _=>⟨(),rfl,rfl,rfl,rfl,rfl,rfl,rfl,rfl,rfl,rfl,trivial⟩⟩
theorem mU (id:Int) (W:List (Int×Int)):∀p∈xY W,like (Value.int IntKind.i64 id) p.1=true:=by
 intro p hp
 obtain⟨k,_,rfl⟩:=yXl.1 hp
 rfl
theorem zTp (id s:Int):∀W:List (Int×Int),uC (Value.int IntKind.i64 id) [D.v (.int .i64 s)] (xY W)=xY (zAg W id s)
 |[]=>rfl
 |x::W=>by
  have ih:=zTp id s W
  have e:cO (Value.int IntKind.i64 id) (Value.int IntKind.i64 x.1)=decide (id=x.1):=by simp[cO,keq]
  show(bif cO (Value.int IntKind.i64 id) (Value.int IntKind.i64 x.1)then(Value.int IntKind.i64 x.1,[D.v (.int .i64 s)])::xY W else(Value.int IntKind.i64 x.1,[D.v (.int .i64 x.2)])::uC (Value.int IntKind.i64 id) [D.v (.int .i64 s)] (xY W))=_
  rw[e,ih,zAg]
  by_cases c:id=x.1
  ·rw[yXf c,cond_true,yWm c];rfl
  ·rw[yWy c,cond_false,yWl c];rfl
theorem tH (id:Int):∀W:List (Int×Int),qY (Value.int IntKind.i64 id) (xY W)=some [D.v (.int .i64 (xG W id).1)]∧(xG W id).2=true∨qY (Value.int IntKind.i64 id) (xY W)=none∧[D.v (.int .i64 (xG W id).1)]=[D.v (.int .i64 0)]∧(xG W id).2=false
 |[]=> .inr ⟨rfl,rfl,rfl⟩
 |x::W=>by
  have ih:=tH id W
  have e:cO (Value.int IntKind.i64 id) (Value.int IntKind.i64 x.1)=decide (id=x.1):=by simp[cO,keq]
  have e2:qY (Value.int IntKind.i64 id) (xY (x::W))=bif cO (Value.int IntKind.i64 id) (Value.int IntKind.i64 x.1)then some [D.v (.int .i64 x.2)]else qY (Value.int IntKind.i64 id) (xY W):=rfl
  rw[e2,e,m3]
  by_cases c:id=x.1
  ·rw[yXf c,cond_true,yWm c];exact .inl ⟨rfl,rfl⟩
  ·rw[yWy c,cond_false,yWl c];exact ih
theorem gowner_ok:gownerC.ok Tryz.prog 22:=okw (V:=yIt) mixed gok0 0 (fun _=>[]) (fun _=>[]) [0] Tryz.func22 fun(i:GtI) h=>⟨mU _ _,_,_,tH i.s i.g.W,(),rfl,rfl,by(repeat'(first|exact trivial|exact rfl|apply And.intro)),rfl,trivial⟩
theorem gmkt_ok:gmktC.ok Tryz.prog 23:=okw (V:=yUe) mixed (gokc yDn gok0) 0 (fun _=>[]) (fun _=>[]) [0] Tryz.func23 fun(i:GtI) h=>⟨⟨i.g.m,i.p,i.B,i.U⟩,rfl,h,fun _ _=>⟨(),rfl,rfl,rfl,trivial⟩⟩
theorem yNl {l:List Int} {k:Nat} {n:Int} {f:Int→Bool} (h:l[k]? =some n):(l.take (k+1)).countP f=(l.take k).countP f+if f n then 1 else 0:=by
 rw[yYm,h,List.countP_append];simp[List.countP_cons]
theorem yCc (W:List (Int×Int)) (B:List (List zD)) (s:Int) (l:List Int) (h:l.Perm ((whL 0 B).map (·.1))):(eX B W s:Int)=l.countP fun x=>decide ((xG W x).1=s):=by
 rw[h.countP_eq,List.countP_map];rfl
theorem z5s {l:List Int} {W:List (Int×Int)} {s:Int} (hl:l.length≤1000000):∀{k:Nat} {n:Int},l[k]? =some n→IntKind.i64.wrap (((l.take k).countP fun x=>decide ((xG W x).1=s):Nat)+1:Int)=((l.take k).countP fun x=>decide ((xG W x).1=s):Nat)+1:=by
 intro k n h
 have:=List.countP_le_length (p:=fun x=>decide ((xG W x).1=s)) (l:=l.take k)
 rw[yXi]at this
 exact w64 (by omega)
theorem yHx {p:Prd} {B:List (List zD)} (h:BWf p B) {l:List Int} (hl:l.Perm ((whL 0 B).map (·.1))):l.length≤1000000:=by
 have h1:=zYe (B:=B) 0 fun L hL=>by
  obtain⟨k,hk⟩:=yYi.1 hL
  exact(h.od k L hk).2.2
 have:=h.ok.bl
 have:=xV p
 have:=hl.length_eq
 rw[yWo]at this
 omega
theorem yCz (i:GtI) (h:gopenC.cnd i):yFg i:=by
 obtain⟨⟨m,W⟩,p,B,U,s⟩:=i
 have h:m.Rep p B U∧BOk p B:=h
 unfold yFg zAn dI
 dsimp only
 refine⟨⟨m,p,B,U⟩,rfl,h,fun l hl=> ?_⟩
 have hle:=yHx (h.1.s.wf h.2) hl
 refine⟨(0,0),rfl,rfl,fun j=>j.2≤l.length∧j.1=((l.take j.2).countP fun x=>decide ((xG W x).1=s):Nat),fun j=>l.length-j.2,⟨yYe _,rfl⟩,?_⟩
 rintro⟨n,k⟩ ⟨j1,j2⟩
 dsimp only at j1 j2 ⊢
 subst j2
 refine zJ (fun e=> ?_) (fun e=> ?_)
 ·rw[y5]at e
  obtain⟨x,hx⟩:=yA (l:=l) (i:=k) (by omega)
  have hc:=yNl (f:=fun x=>decide ((xG W x).1=s)) hx
  refine⟨⟨by omega,by rw[y5];exact e⟩,x,elA hx (by simp) rfl,mU _ _,_,_,tH x W,Cv.cnd.mk (fun e2=>⟨(_,k+1),(z5s hle hx).symm,wjn (by omega),⟨by dsimp only;omega,?_⟩,by dsimp only;omega,by(repeat'(first|exact trivial|exact rfl|apply And.intro))⟩) (fun e2=>⟨(_,k+1),rfl,wjn (by omega),⟨by dsimp only;omega,?_⟩,by dsimp only;omega,by(repeat'(first|exact trivial|exact rfl|apply And.intro))⟩)⟩
  ·have e2:(xG W x).1=s:=by simpa using e2
   dsimp only;rw[hc,yXf e2];rfl
  ·have e2:¬(xG W x).1=s:=by simpa using e2
   dsimp only;rw[hc,yWy e2];rfl
 ·rw[y5]at e
  have hk:l.take k=l:=yXg (by omega)
  rw[hk]
  exact⟨(),yCc W B s l hl,rfl,rfl,trivial⟩
theorem yCr:gopenC.ok Tryz.prog 18:=okw mixed (gokc z3r gok0) 0 (fun _=>[]) (fun _=>yEt) [0] Tryz.func18 yCz
theorem z6t:gopenOC.ok Tryz.prog 18:=okw (V:=yHm) mixed (gokc z3r gok0) 0 (fun _=>[]) (fun _=>yEt) [] Tryz.func18 fun(i:GtI) h=>yCz i h
theorem z6z {b:List UInt8} (h:(xL b).2=0):(xL b).1.right=0:=by
 rw[xL]at h ⊢
 dsimp only at h ⊢
 split at h
 ·cases h
 ·rename_i h1
  rw[yWl h1]
  split at h
  ·cases h
  ·rename_i h2
   rw[yWl h2]
   split at h
   ·rename_i h3;exact absurd h h3
   ·rename_i h3
    rw[yWl h3];simpa using h3
theorem zIz (n:Int):yV (IntKind.i64.wrap n):=by
 rw[IntKind.wrap]
 simp only[IntKind.bits,IntKind.signed]
 simp
 omega
theorem z5c:yV 0:=⟨by decide,by decide⟩
theorem yQf (k id:Int) (r:RB):yV (x0 k id r).1.qty:=by
 rw[x0]
 split
 ·exact zIz _
 split
 ·exact zIz _
 split
 ·exact zIz _
 ·exact z5c
theorem yHn (b:List UInt8):yV (xL b).1.qty:=by
 rw[xL]
 dsimp only
 split
 ·exact z5c
 split
 ·exact z5c
 split
 ·exact z5c
 ·exact yQf _ _ _
theorem z2a {p:Prd} {B:List (List zD)} (h:BWf p B) (U:List Int) (c:Cmd):(doF p B U c).R.length≤1503000003:=by
 have hbl:=h.ok.bl
 have hrj:∀w,(cE c w).length≤1503000003:=fun w=>by simp[cE]
 rw[doF]
 split
 ·exact hrj _
 rename_i hr
 have hr:c.right=0:=by simpa using hr
 split
 ·rename_i hk
  obtain⟨_,hq,_⟩:=zFh hr hk
  rw[cF]
  split
  ·exact hrj _
  rename_i hp
  have hp:p.price c.inst c.price=0:=by simpa using hp
  have hin:=zJr hp
  split
  ·exact hrj _
  split
  ·exact hrj _
  split
  ·exact hrj _
  split
  ·exact hrj _
  have:=zAi h U (c:=c) (by omega) hq
  omega
 rename_i hk
 split
 ·exact hrj _
 rename_i hf
 have hf:(zI B c.id).2.2=true:=by simpa using hf
 have hf:zI B c.id=((zI B c.id).1,(zI B c.id).2.1,true):=by rw[← hf]
 obtain⟨hin,_⟩:=zSg h hf
 split
 ·rename_i h4
  have hq:=m7 hr hk (by omega)
  rw[vT]
  split
  ·exact hrj _
  split
  ·simp[vF]
  split
  ·exact hrj _
  have:=zAi (h.take c.id (zI B c.id).2.1.qty) U (c:=⟨1,c.id,(zI B c.id).1,(zI B c.id).2.1.side,c.price,c.qty,0,1,[]⟩) (by dsimp only;rw[mN];exact hin) hq
  dsimp only
  rw[yWs]
  have e1:(kT B U c.id (zI B c.id).1 (zI B c.id).2.1).R.length=1:=rfl
  have e2:(kT B U c.id (zI B c.id).1 (zI B c.id).2.1).B=(yX B c.id (zI B c.id).2.1.qty).1:=rfl
  rw[e1,e2]
  omega
 split
 ·simp[kT]
 ·simp[vF]
theorem yIg {b:List UInt8} (h:b.length≤1099511627776):(xL b).1.label.length≤255:=by
 have h0:(RB.mk b false).ok:=h
 rw[xL]
 dsimp only
 split
 ·exact yYe _
 split
 ·exact yYe _
 split
 ·exact yYe _
 ·exact(yLa (gF (aI h0))).2
theorem z6n (p:Prd) (B:List (List zD)) (U:List Int) (W:List (Int×Int)) (s:Int) (b:List UInt8):fP p B U W s b=if(yJ s b).2≠0 then zKq B U W s 0 (yJ s b).2 else dS p B U W s (yJ s b).1:=by
 rw[fP,yJ]
 by_cases c:s<0∨8≤s
 ·rw[yWm c,yWm c];rfl
 ·rw[yWl c,yWl c]
theorem yOi {s:Int} {b:List UInt8} (hb:b.length≤1099511627776) (h:(yJ s b).2=0):(yJ s b).1.right=0∧yV (yJ s b).1.qty∧(yJ s b).1.label.length≤255:=by
 rw[yJ]at h ⊢
 split at h
 ·cases h
 ·rename_i c
  rw[yWl c]
  exact⟨z6z h,yHn b,yIg hb⟩
theorem wjN {j:Nat} (h:(j:Int)≤9223372036854775806):((j+1:Nat):Int)=IntKind.i64.wrap ((j:Int)+1):=by rw[w64 (by omega)];rfl
theorem yVh (i:GdI) (h:gdoC.cnd i):yRz i:=by
 obtain⟨⟨m,W⟩,p,B,U,s,b,X⟩:=i
 obtain⟨hMB,hb,hX⟩:(m.Rep p B U∧BOk p B)∧b.length≤1099511627776∧X=fP p B U W s b:=h
 rw[z6n]at hX
 have hc:= @yOi s b hb
 unfold yRz zSq zRv zHo zTb zSl zQm zSd bH bX bN aE aA b9 aH bT r9 zDa aG rP zDf dI
 dsimp only
 generalize hrd:yJ s b=y at hX hc
 obtain⟨c,why⟩:=y
 dsimp only at hX hc
 refine⟨⟨s,b⟩,rfl,rfl,hb,fun _ _=> ?_⟩
 dsimp only
 rw[hrd]
 dsimp only
 refine Cv.cnd.mk (fun e=> ?_) (fun e=>⟨mU _ _,_,_,tH c.id W,true,fun x=>x=decide (c.kind=1∧64≤eX B W s),Cv.cnd.mk (fun e1=>⟨⟨⟨m,W⟩,p,B,U,s⟩,rfl,rfl,rfl,hMB,fun _ _=>⟨_,rfl,?_,by(repeat'(first|exact trivial|exact rfl|apply And.intro))⟩⟩) (fun e1=>⟨false,rfl,?_,by(repeat'(first|exact trivial|exact rfl|apply And.intro))⟩),?_⟩)
 ·have e:why≠0:=by simpa using e
  rw[yWm e]at hX;subst hX
  exact⟨⟨s,0,why⟩,rfl,rfl,rfl,trivial,fun _ _=>⟨m,rfl,rfl,rfl,hMB.1⟩⟩
 ·have e1:c.kind=1:=by simpa using e1
  dsimp only
  rw[decide_eq_decide]
  exact⟨fun x=>⟨e1,by omega⟩,fun x=>by have:=x.2;omega⟩
 ·have e1:¬c.kind=1:=by simpa using e1
  exact(yWy fun x=>e1 x.1).symm
 have e:why=0:=by simpa using e
 obtain⟨hr,hq,hlab⟩:=hc e
 rw[yWl (by rw[e];decide),dS]at hX
 rintro _ rfl
 refine zJ (fun e1=> ?_) (fun e1=> ?_)
 ·rw[yWm e1]at hX;subst hX
  exact⟨⟨s,c.id,30⟩,rfl,rfl,rfl,trivial,fun _ _=>⟨m,rfl,rfl,rfl,hMB.1⟩⟩
 rw[yWl e1]at hX
 refine⟨true,fun x=>x=decide (c.kind≠1∧((xG W c.id).2=false∨(xG W c.id).1≠s)),Cv.cnd.mk (fun e2=>Cv.cnd.mk (fun e3=>⟨true,rfl,?_,by(repeat'(first|exact trivial|exact rfl|apply And.intro))⟩) (fun e3=>⟨_,rfl,?_,by(repeat'(first|exact trivial|exact rfl|apply And.intro))⟩)) (fun e2=>⟨false,rfl,?_,by(repeat'(first|exact trivial|exact rfl|apply And.intro))⟩),?_⟩
 ·have e2:¬c.kind=1:=by simpa using e2
  exact(yXf ⟨e2,.inl (by simpa using e3)⟩).symm
 ·have e2:¬c.kind=1:=by simpa using e2
  have e3:(xG W c.id).2=true:=by simpa using e3
  show((xG W c.id).1 !=s)=decide (c.kind≠1∧((xG W c.id).2=false∨(xG W c.id).1≠s))
  rw[Bool.eq_iff_iff,yXy,bne_iff_ne]
  exact⟨fun x=>⟨e2,.inr x⟩,fun x=>x.2.resolve_left (by rw[e3];decide)⟩
 ·have e2:c.kind=1:=by simpa using e2
  exact(yWy fun x=>x.1 e2).symm
 rintro _ rfl
 refine zJ (fun e2=> ?_) (fun e2=> ?_)
 ·rw[yWm e2]at hX;subst hX
  exact⟨⟨s,c.id,26⟩,rfl,rfl,rfl,trivial,fun _ _=>⟨m,rfl,rfl,rfl,hMB.1⟩⟩
 rw[yWl e2]at hX
 have hlen:=z2a (hMB.1.s.wf hMB.2) U c
 refine⟨⟨m,p,B,U,c,doF p B U c⟩,rfl,rfl,rfl,rfl,rfl,rfl,rfl,rfl,rfl,rfl,⟨hMB,yYw hlab (by decide),hq,rfl⟩,fun o ho=> ?_⟩
 dsimp only at ho ⊢
 generalize doF p B U c=Y at hX ho hlen ⊢
 obtain⟨YB,YU,R⟩:=Y
 dsimp only at hX ho hlen ⊢
 subst hX
 have e4:(R.map xN).length=R.length:=yWo ..
 refine⟨⟨o,W,[],0⟩,rfl,rfl,rfl,rfl,fun j=>j.o=o∧j.k≤R.length∧j.O.length=j.k∧(hP s W R).1=(hP s j.W (R.drop j.k)).1∧(hP s W R).2=j.O++(hP s j.W (R.drop j.k)).2,fun j=>R.length-j.k,⟨rfl,yYe _,rfl,rfl,rfl⟩,?_⟩
 rintro⟨o',W',O,k⟩ ⟨j1,j2,j3,j4,j5⟩
 dsimp only at j1 j2 j3 j4 j5 ⊢
 subst j1
 have e5:(O.map wY).length=O.length:=yWo ..
 refine zJ (fun e6=> ?_) (fun e6=> ?_)
 ·obtain⟨r,hr'⟩:=yA (l:=R) (i:=k) (by omega)
  have hd:R.drop k=r::R.drop (k+1):=by rw[yZb (by omega),(yWn.1 hr').2]
  rw[hd,hP]at j4 j5
  dsimp only at j4 j5
  refine⟨⟨by omega,e6⟩,r.kind,r.id,r.inst,r.side,r.price,r.qty,r.left,r.why,elA hr' (by simp[xN]) rfl,Cv.cnd.mk (fun e7=>⟨mU _ _,?_⟩) (fun e7=>⟨mU _ _,_,_,tH r.id W',?_⟩)⟩
  ·have e7:r.kind=1:=by simpa using e7
   rw[zTp]
   rw[yWm e7]at j4 j5
   refine⟨mU _ _,_,_,tH r.id (zAg W' r.id s),0,fun x=>x=if r.kind=2 then s else(xG (zAg W' r.id s) r.id).1,Cv.cnd.mk (fun e8=>⟨_,rfl,(yWm (by simpa using e8)).symm,by(repeat'(first|exact trivial|exact rfl|apply And.intro))⟩) (fun e8=>⟨_,rfl,(yWl (by simpa using e8)).symm,by(repeat'(first|exact trivial|exact rfl|apply And.intro))⟩),?_⟩
   rintro _ rfl
   exact⟨by omega,⟨o',zAg W' r.id s,O++[(if r.kind=2 then s else(xG (zAg W' r.id s) r.id).1,r)],k+1⟩,wjN (by omega),rfl,rfl,by rw[yWw];rfl,⟨rfl,by dsimp only;omega,by rw[yWs];dsimp only;rw[j3];rfl,j4,by rw[j5];simp⟩,by dsimp only;omega,by(repeat'(first|exact trivial|exact rfl|apply And.intro))⟩
  ·have e7:¬r.kind=1:=by simpa using e7
   rw[yWl e7]at j4 j5
   refine⟨0,fun x=>x=if r.kind=2 then s else(xG W' r.id).1,Cv.cnd.mk (fun e8=>⟨_,rfl,(yWm (by simpa using e8)).symm,by(repeat'(first|exact trivial|exact rfl|apply And.intro))⟩) (fun e8=>⟨_,rfl,(yWl (by simpa using e8)).symm,by(repeat'(first|exact trivial|exact rfl|apply And.intro))⟩),?_⟩
   rintro _ rfl
   exact⟨by omega,⟨o',W',O++[(if r.kind=2 then s else(xG W' r.id).1,r)],k+1⟩,wjN (by omega),rfl,rfl,by rw[yWw];rfl,⟨rfl,by dsimp only;omega,by rw[yWs];dsimp only;rw[j3];rfl,j4,by rw[j5];simp⟩,by dsimp only;omega,by(repeat'(first|exact trivial|exact rfl|apply And.intro))⟩
 ·have hk:R.drop k=[]:=List.drop_of_length_le (by omega)
  rw[hk,hP]at j4 j5
  dsimp only at j4 j5
  rw[yXk]at j5
  rw[j4,j5]
  exact⟨o',rfl,rfl,rfl,ho⟩
theorem gdo_ok:gdoC.ok Tryz.prog 16:=okw mixed (gokc yEb (gokc yIo (gokc z6t (gokc yRt gok0)))) 0 (fun _=>yVs) (fun _=>yUw) [0] Tryz.func16 yVh
open Go Cv Go.Proofs
def yVe (t:Nat):SAnn:={ι:=Prd,slots:=fun _=>[(t,.nm 0 0)],rows:=fun p=>[.cells [sV p.code,.own 1,zA p.tick,zA p.low,zA p.high,zA p.wide,zA p.rule,zA p.top,zA p.least,zA p.part,.own 2] 26,.fro 1 (iE p.months),.fro 1 (iE p.settle)]}
def yVn (t:Nat):SAnn:={ι:=Cmd,slots:=fun _=>[(t,.nm 0 0)],rows:=fun c=>[.cells c.cells 36]}
open Go Cv Go.Proofs
open Go Cv Go.Proofs
theorem yVp {P Q:Prop} (h:P) (q:Q):P∧True∧Q∧P:=⟨h,trivial,q,h⟩
def mk0 (p:Prd):Mkt:=⟨p,cD p,[]⟩
theorem z1l (p:Prd):(mk0 p).Rep p (List.replicate p.count []) []:=⟨rfl,z0p _,rfl⟩
open Go Cv Go.Proofs
def known18C:Con:=con1 Unit (fun _=>[]) (fun _=>[]) (fun _=>True) (fun _=>yL true) (fun _=>[])
structure AskM where
 s:Int
 c:Cmd
 raw:Bool
 b:List UInt8
def gaskE (a:AskM):List D:= .v (.int .i64 a.s)::(cmdE a.c++[.v (.bool a.raw),.ro 1 (bE a.b)])
@[reducible] def AskM.ok (a:AskM):Prop:=yV a.s∧a.c.raw
structure AgI where
 x:Prd
 l:List AskM
 q:List AskM
@[reducible] def AgI.ok (i:AgI):Prop:=i.x.raw∧(∀a∈i.l,a.ok)∧(∀a∈i.q,a.ok)∧i.l.length≤9223372036854775807∧i.q.length≤9223372036854775807
structure GkJ where
 g:Gt
 k:Nat
def goC:Con:=con1 AgI (fun i=>[prdV i.x,roV 12 (i.l.map gaskE)]) (fun _=>[]) (fun i=>i.ok) (fun _=>yL true) (fun _=>[])
def goA:List SAnn:=[
 {ι:=GkJ,slots:=fun j=>[(6,.nm 0 0),(8,zA j.k)],rows:=fun j=>[GtR j.g]},
 {ι:=Nat,slots:=fun k=>[(20,zA k)],rows:=fun _=>[]}]
def yUb (t u:Nat):SAnn:={ι:=zD×Bool,slots:=fun x=>[(t,.nm 0 0),(u,yL x.2)],rows:=fun x=>[.cells (zQj x.1).cl 56]}
def goJ:List (Nat×SAnn):=[(4,yVe 5),(24,bj 49),(36,yVn 10),(84,bj 148),(96,bj 164),(104,bj 175),(108,yUb 27 28),(112,bj 205)]
end Sx
