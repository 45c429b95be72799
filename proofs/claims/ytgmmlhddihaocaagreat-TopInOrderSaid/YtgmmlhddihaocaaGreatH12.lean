/- Texts of ours. No condition. -/
import Derived.Maps.RangeRun
import Derived.Test.YtgmmlhddihaocaaGreatH11
set_option linter.all false
open Sx.fw renaming cells->aa,map->ab,kh->ac,sv->ae,own->af,kg->ag
open Go.IntKind renaming i64->aj,wrap->ak,signed->am
open Go.Value renaming int->ao
open Go renaming MapEntry->ap,Value->aq,TypeId->ar,World->au
open Bool renaming true->av,false->aw
open Option renaming some->ax,none->ay
open List renaming map->ba,map_singleton->bc,length->be
open List.Perm renaming swap->bg,cons->bo
namespace Sx
set_option maxRecDepth 100000
open Go Cv Go.Proofs
def qL:List zE->Int->Int
 |[],_=>0
 |o::L,id=>(if o.id=id then o.dq else 0)+qL L id
def qB:List (List zE)->Int->Int
 |[],_=>0
 |L::B,id=>qL L id+qB B id
def yAd (id:Int):∀A B:List zE,qL (A++B) id=qL A id+qL B id
 |[],B=>by rw[zi,qL];omega
 |o::A,B=>by rw[tu,qL,qL,yAd id A B];omega
def O7 {id:Int}:∀{L:List zE},(∀o∈L,o.id≠id)->qL L id=0
 |[],_=>rfl
 |o::L,h=>by
  rw[qL,dx (h o jg),O7 λx hx=>h x (jx _ hx)];rfl
def z8p {o:zE}:∀{L:List zE},(L.map (·.id)).Nodup->o∈L->qL L o.id=o.dq
 |[],_,h=>by cases h
 |x::L,hn,h=>by
  rw[iT,ve]at hn;rw[qL];rcases ku.1 h with rfl|h
  ·rw[fk rfl,O7 λy hy e=>hn.1 (oe.2 ⟨y,hy,e⟩)];omega
  ·rw[dx λe=>hn.1 (oe.2 ⟨o,h,e.symm⟩),z8p hn.2 h];omega
def zSl {id x y:Int} (hy:y≠id):∀L:List zE,qL (yU L id x) y=qL L y
 |[]=>rfl
 |o::L=>by
  have ih:=zSl (x:=x) hy L;rw[yU]at ih ⊢;rw[Jn,qL];by_cases c:o.id=id
  ·have jf:¬o.id=y:=λe=>hy (by rw[<- e,c])
   rw[fk c,dx jf];by_cases d:o.dq=x
   ·rw[fk d];dsimp only;rw[ih];omega
   ·rw[dx d];dsimp only;rw[qL,ih];dsimp only;rw[dx jf]
  ·rw[dx c];dsimp only;rw[qL,ih]
def yAt {o:zE} {x:Int}:∀{L:List zE},(L.map (·.id)).Nodup->o∈L->qL (yU L o.id x) o.id=o.dq-x
 |[],_,h=>by cases h
 |y::L,hn,h=>by
  rw[iT,ve]at hn;rcases ku.1 h with rfl|h
  ·have A7:∀z∈L,z.id≠o.id:=λz hz e=>hn.1 (e▸pn (f:=(·.id)) hz)
   have ht:=Ui (x:=x) A7;rw[yU]at ht ⊢;rw[Jn,fk rfl,ht];by_cases d:o.dq=x
   ·rw[fk d];dsimp only;rw[O7 A7];omega
   ·rw[dx d];dsimp only;rw[qL,O7 A7];dsimp only;rw[fk rfl];omega
  ·have jf:¬y.id=o.id:=λe=>hn.1 (e▸pn (f:=(·.id)) h)
   have ih:=yAt (x:=x) hn.2 h;rw[yU]at ih ⊢;rw[Jn,dx jf];dsimp only;rw[qL,dx jf,ih];omega
def Vp {y:Int}:∀{B:List (List zE)} {k:Nat} {L L':List zE},B[k]? =ax L->qB (B.set k L') y=qB B y-qL L y+qL L' y
 |[],k,L,L',h=>by cases h
 |M::B,0,L,L',h=>by cases h;rw[KX,qB,qB];omega
 |M::B,k+1,L,L',h=>by
  have:=Vp (y:=y) (B:=B) (k:=k) (L:=L) (L':=L') h;rw[Jl,qB,qB,this];omega
def Kw {id:Int}:∀{B:List (List zE)},(∀L∈B,∀o∈L,o.id≠id)->qB B id=0
 |[],_=>rfl
 |L::B,h=>by
  rw[qB,O7 (h L jg),Kw λM hM=>h M (jx _ hM)];rfl
def Ol {p:fj} {B:List (List zE)} (h:lu p B) {k:Nat} {L:List zE} (hL:B[k]? =ax L) {o:zE} (ho:o∈L):qB B o.id=o.dq:=by
 have hk:=(ju.1 hL).1;have h1:=Vp (y:=o.id) (L':=[]) hL;have h2:qB (B.set k []) o.id=0:=by
  refine Kw λM hM x hx e=> ?_
  obtain⟨j,hj⟩:=AB.1 hM;rcases uO hj with⟨_,rfl⟩|⟨jf,hj⟩
  ·cases hx
  ·exact jf (Yz h.ub hj hL (e▸pn (f:=(·.id)) hx) (pn (f:=(·.id)) ho))
 rw[h2,z8p (h.od k L hL).2.1 ho]at h1;have:qL [] o.id=0:=rfl;omega
def XB {p:fj} {B:List (List zE)} (h:lu p B) {k:Nat} {L:List zE} (hL:B[k]? =ax L) {o:zE} (ho:o∈L) {x:Int} (hx:1<=x/\x<=o.dq):(yZ B o.id x).1=B.set k (yU L o.id x):=by
 have hi:=h.inst hL (pn (f:=(·.id)) ho)
 have hg:=gY (h.od k L hL).2.1 ho;have hh:kW L o.id=av:=iG.2 (pn (f:=(·.id)) ho)
 simp only[yZ,hi,zJ hL];rw[x4,dx (by rw[hh];decide),dx (by rw[hg];omega)]
def yCl {p:fj} {B:List (List zE)} (h:lu p B) {k:Nat} {L:List zE} (hL:B[k]? =ax L) {o:zE} (ho:o∈L) {x:Int} (hx:1<=x/\x<=o.dq) (y:Int):qB (yZ B o.id x).1 y=if y=o.id then o.dq-x else qB B y:=by
 rw[XB h hL ho hx,Vp hL];by_cases c:y=o.id
 ·subst c;rw[fk rfl,yAt (h.od k L hL).2.1 ho,z8p (h.od k L hL).2.1 ho,Ol h hL ho];omega
 ·rw[dx c,zSl c];omega
def OE {B:List (List zE)} {id x:Int} {k:Nat} {L:List zE} (h:(yZ B id x).1[k]? =ax L):∃M,B[k]? =ax M/\∀o∈L,∃o'∈M,o'.id=o.id:=by
 rw[yZ]at h;split at h
 ·exact⟨L,h,λo ho=>⟨o,ho,rfl⟩⟩
 ·rename_i j hj;dsimp only at h;obtain⟨M,hM,_⟩:=xR hj;rcases uO h with⟨rfl,rfl⟩|⟨_,h⟩
  ·refine⟨M,hM,λo ho=> ?_⟩;rw[zJ hM]at ho;obtain⟨o',ln,_,_,e⟩:=Ud ho;exact⟨o',ln,e.symm⟩
  ·exact⟨L,h,λo ho=>⟨o,ho,rfl⟩⟩
def yLw (y s:Int):∀L:List zE,qL (Bo L s) y=qL L y
 |[]=>rfl
 |o::L=>by
  have ih:=yLw y s L;rw[Bo]at ih;rw[Bo,iT,qL,qL,ih];split<;>rfl
def y2t (L:List zE) (s id p q y:Int):qL (Cf L s id p q) y=(if id=y then q else 0)+qL L y:=by
 have h:∀(X:List zE) (b:Bool),qL (X.takeWhile (before s p)++⟨id,s,p,q,b⟩::X.dropWhile (before s p)) y=(if id=y then q else 0)+qL X y:=λX b=>by
  have e:=yAd y (X.takeWhile (before s p)) (X.dropWhile (before s p));rw[We]at e;rw[yAd,qL,e];dsimp only;omega
 rw[Cf,h];by_cases c:fG L s p=av
 ·rw[fk c,yLw]
 ·rw[dx c]
structure tg where
 left:Int->Int
 own:Int->Int
def oc (f:Int->Int) (k v:Int):Int->Int:=λx=>if x=k then v else f x
def yp (s:tg) (r:fy):tg:=
 if r.kind=1 then⟨oc s.left r.id r.dq,oc s.own r.id r.inst⟩
 else if r.kind=2\/(r.kind=3/\r.inst≠s.own r.id)then s
 else⟨oc s.left r.id r.left,s.own⟩
def ML {s:tg} {r:fy} (h1:r.kind≠1) (h2:r.kind≠2) (h3:r.kind=3->r.inst=s.own r.id):yp s r=⟨oc s.left r.id r.left,s.own⟩:=by
 rw[yp,dx h1,dx λh=>h.elim h2 λh=>h.2 (h3 h.1)]
def Xu {s:tg} {r:fy} (h:r.kind=3) (h2:r.inst≠s.own r.id):yp s r=s:=by
 rw[yp,dx (by omega),fk (.inr ⟨h,h2⟩)]
structure Lr (p:fj) (D:Int->Prop) (s:tg) (r:fy):Prop where
 d:D r.id
 i:0<=r.inst/\r.inst<p.count
 q:0<=r.dq/\r.dq<=1000000
 l:0<=r.left/\r.left<=1000000
 k:(r.kind=1/\s.left r.id=0/\1<=r.dq/\r.left=r.dq)\/
  (r.kind=3/\1<=r.dq/\(r.side=1\/r.side=2)/\((r.inst=s.own r.id/\r.dq<=s.left r.id/\r.left=s.left r.id-r.dq)\/
    (r.inst≠s.own r.id/\(p.gf (s.own r.id)).2.2=av/\(r.inst=(p.gf (s.own r.id)).1\/r.inst=(p.gf (s.own r.id)).2.1)/\r.left=s.left r.id)))\/
  (r.kind=4/\1<=r.dq/\r.dq=s.left r.id/\r.left=0)\/
  (r.kind=5/\r.dq<s.left r.id/\r.left=s.left r.id-r.dq)
def aY (p:fj) (D:Int->Prop):tg->List fy->Prop
 |_,[]=>True
 |s,r::l=>Lr p D s r/\aY p D (yp s r) l
def uZ (s:tg) (l:List fy):tg:=l.foldl yp s
def bG {p:fj} {D:Int->Prop}:∀{s:tg} {a b:List fy},aY p D s a->aY p D (uZ s a) b->aY p D s (a++b)
 |_,[],_,_,h=>h
 |_,_::_,_,h,h2=>⟨h.1,bG h.2 h2⟩
def Y6 (s:tg) (r:fy):uZ s [r]=yp s r:=rfl
def mF (s:tg) (a b:List fy):uZ s (a++b)=uZ (uZ s a) b:=Jh
def one (r:fy) (m:Int):Int:=if r.kind=3/\r.inst=m then(if r.side=1 then r.dq else-r.dq)else 0
def uW:List fy->Int->Int
 |[],_=>0
 |r::l,m=>one r m+uW l m
def pG (m:Int):∀a b:List fy,uW (a++b) m=uW a m+uW b m
 |[],b=>by rw[zi,uW];omega
 |r::a,b=>by rw[tu,uW,uW,pG m a b];omega
def vq (p:fj) (k s q m:Int):Int:=
 if(p.gf k).2.2=av then(if(p.gf k).1=m then(if s=1 then q else-q)else 0)-(if(p.gf k).2.1=m then(if s=1 then q else-q)else 0)
 else if k=m then(if s=1 then q else-q)else 0
def y2q (p:fj) (k s a b m:Int):vq p k s (a+b) m=vq p k s a m+vq p k s b m:=by
 rw[vq,vq,vq];split
 ·repeat' split
  all_goals omega
 ·repeat' split
  all_goals omega
def z9b (p:fj) {s:Int} (hs:s=1\/s=2) (k q m:Int):vq p k (3-s) q m= -vq p k s q m:=by
 rw[vq,vq];rcases hs with rfl|rfl
 ·split
  ·repeat' split
   all_goals omega
  ·repeat' split
   all_goals omega
 ·split
  ·repeat' split
   all_goals omega
  ·repeat' split
   all_goals omega
def TE {p:fj} (hc:p.check=0) {k:Int} (hk:0<=k/\k<p.count) (hs:(p.gf k).2.2=av):(0<=(p.gf k).1/\(p.gf k).1<p.dr.length)/\(0<=(p.gf k).2.1/\(p.gf k).2.1<p.dr.length)/\(p.dr.length:Int)<=k/\(p.gf k).1≠(p.gf k).2.1:=by
 obtain⟨n,rfl⟩:∃n:Nat,k=n:=⟨k.toNat,oM⟩
 have hn:n<p.count:=by omega
 have jf:=Xg hc hn hs;rcases vO hc hn with⟨_,a,b,c,d⟩|⟨e,_⟩
 ·refine⟨⟨a,b⟩,⟨c,d⟩,?_,jf⟩;rcases Int.lt_or_le (n:Int) p.dr.length with x|x
  ·exfalso;rw[fj.gf,dx (by omega),fk x]at hs;cases hs
  ·exact x
 ·rw[e]at hs;cases hs
def z2f {p:fj} (hc:p.check=0) {a b:Nat} (vc:a<b) (hb:b<p.dr.length):p.gf (p.spread a b).1=((a:Int),(b:Int),av):=by
 obtain⟨k,t⟩:=Tz hc vc hb;rw[t.hs];exact t.hl
def OR {p:fj} (hc:p.check=0) {k:Nat} (hk:k<p.dr.length):(p.gf k).2.2=aw:=by
 rw[fj.gf];split
 ·rfl
 ·rw[fk (by omega)]
def yUn {p:fj} (hc:p.check=0) {T:List iS} (hT:T.length=p.count) {inst:Int} {s:Int} (hs:s=1\/s=2) {q:Quote} (h:q∈qM ⟨p,T,inst⟩ s) (x m:Int):vq p q.a.inst q.a.side x m+vq p q.b.inst q.b.side x m=vq p inst s x m:=by
 rw[qM]at h;dsimp only at h;split at h
 ·cases h
 ·rename_i hn;obtain⟨k,rfl⟩:∃k:Nat,inst=k:=⟨inst.toNat,oM⟩
  have hk:k<p.count:=by omega
  have JE:=aH hc;split at h
  ·rename_i hl;obtain⟨q',Le,rfl⟩:=oe.1 h;obtain⟨l1,l2,l3,l4⟩:=TE hc (k:=(k:Int)) oM hl;obtain⟨u,hu⟩:∃u:Nat,(p.gf k).1=u:=⟨(p.gf k).1.toNat,oM⟩
   obtain⟨v,hv⟩:∃v:Nat,(p.gf k).2.1=v:=⟨(p.gf k).2.1.toNat,oM⟩
   have mu:=OR hc (k:=u) oM;have mv:=OR hc (k:=v) oM;dsimp only[cX];rw[hu,hv,z9b p hs];simp only[vq,mu,mv,hl,hu,hv,if_true,nr,if_false];omega
  ·rename_i hl;have hl:(p.gf k).2.2=aw:=by simpa using hl
   have hm:k<p.dr.length:=by
    rcases vO hc hk with⟨e,_⟩|⟨_,e⟩
    ·rw[hl]at e;cases e
    ·exact e
   rcases qq.1 h with h|h
   ·obtain⟨j,hj,h⟩:=yg.1 h;have hj:=zh.1 hj;rw[ml]at hj;have s1:=dD hc (a:=k) (b:=k+1+j) oM oM;have s2:=Vg hc (a:=k) (b:=k+1+j) oM oM;have sl:=z2f hc (a:=k) (b:=k+1+j) oM oM;have mv:=OR hc (k:=k+1+j) oM;have ec:((k:Int)+1+j)=((k+1+j:Nat):Int):=by omega
    rw[ec]at h;obtain⟨ok,e1,e2⟩:=Oa h Z9 Z9 hs hs Z9;rw[e1,e2];dsimp only;simp only[vq,sl,hl,mv,if_true,nr,if_false];omega
   ·obtain⟨j,hj,h⟩:=yg.1 h;have hj:=zh.1 hj;rw[ml]at hj;have s1:=dD hc (a:=j) (b:=k) oM oM;have s2:=Vg hc (a:=j) (b:=k) oM oM;have sl:=z2f hc (a:=j) (b:=k) oM oM;have mv:=OR hc (k:=j) oM;obtain⟨ok,e1,e2⟩:=Oa h Z9 Z9 Z9 hs Z9;rw[e1,e2];dsimp only;rw[z9b p hs];simp only[vq,sl,hl,mv,if_true,nr,if_false];omega
def TG {p:fj} {r:fy} (m:Int) (hk:r.kind=3) (hs:r.side=1\/r.side=2):one r m=if r.inst=m then(if r.side=1 then r.dq else-r.dq)else 0:=by
 rw[one];by_cases c:r.inst=m
 ·rw[fk ⟨hk,c⟩,fk c]
 ·rw[dx λh=>c h.2,dx c]
def yCq {p:fj} (hc:p.check=0) {D:Int->Prop} {S:tg} (x:kX) {r:fy} (hd:D r.id) (hk:r.kind=3) (hi:0<=r.inst/\r.inst<p.count) (ho:r.inst=S.own r.id) (hq:1<=r.dq/\r.dq<=S.left r.id/\S.left r.id<=1000000) (hl:r.left=S.left r.id-r.dq) (hs:r.side=1\/r.side=2):
 aY p D S (jJ p x r)/\uZ S (jJ p x r)=⟨oc S.left r.id r.left,S.own⟩/\∀m,0<=m->m<p.dr.length->uW (jJ p x r) m=vq p r.inst r.side r.dq m:=by
 have hn:yp S r=⟨oc S.left r.id r.left,S.own⟩:=ML oM oM λ_=>ho
 have hg:Lr p D S r:=⟨hd,hi,oM,oM,.inr (.inl ⟨hk,hq.1,hs,.inl ⟨ho,hq.2.1,hl⟩⟩)⟩
 rw[jJ];cases c:(p.gf r.inst).2.2 with
 |false=>
  rw[dx (by decide)];refine⟨⟨hg,trivial⟩,hn,λm _ _=> ?_⟩;rw[uW,uW,TG (p:=p) m hk hs,vq];simp only[c,nr,if_false];omega
 |true=>
  obtain⟨l1,l2,l3,l4⟩:=TE hc hi c;rw[fk rfl,M1];have hu:oc S.left r.id r.left r.id=r.left:=by rw[oc,fk rfl]
  have WR:(p.gf (S.own r.id)).2.2=av:=by rw[<- ho];exact c
  have h1:Lr p D ⟨oc S.left r.id r.left,S.own⟩ {r with inst:=(p.gf r.inst).1,dp:=(qW p r.inst x).1}:=by
   refine⟨hd,Z9,Z9,Z9,.inr (.inl ⟨hk,hq.1,hs,.inr ⟨?_,WR,.inl ?_,hu.symm⟩⟩)⟩
   ·dsimp only;omega
   ·dsimp only;rw[<- ho]
  have h2:Lr p D ⟨oc S.left r.id r.left,S.own⟩ {r with inst:=(p.gf r.inst).2.1,side:=3-r.side,dp:=(qW p r.inst x).2}:=by
   refine⟨hd,Z9,Z9,Z9,.inr (.inl ⟨hk,hq.1,Z9,.inr ⟨?_,WR,.inr ?_,hu.symm⟩⟩)⟩
   ·dsimp only;omega
   ·dsimp only;rw[<- ho]
  have n1:yp ⟨oc S.left r.id r.left,S.own⟩ {r with inst:=(p.gf r.inst).1,dp:=(qW p r.inst x).1}=⟨oc S.left r.id r.left,S.own⟩:=Xu hk Z9;have n2:yp ⟨oc S.left r.id r.left,S.own⟩ {r with inst:=(p.gf r.inst).2.1,side:=3-r.side,dp:=(qW p r.inst x).2}=⟨oc S.left r.id r.left,S.own⟩:=Xu hk Z9;refine⟨⟨hg,?_⟩,?_,λm m0 m1=> ?_⟩
  ·rw[hn];exact⟨h1,by rw[n1];exact⟨h2,trivial⟩⟩
  ·show yp (yp (yp S r) _) _=_;rw[hn,n1,n2]
  ·rw[uW,uW,uW,uW,TG (p:=p) m hk hs,TG (p:=p) m (r:={r with inst:=(p.gf r.inst).1,dp:=(qW p r.inst x).1}) hk hs,TG (p:=p) m (r:={r with inst:=(p.gf r.inst).2.1,side:=3-r.side,dp:=(qW p r.inst x).2}) hk (by dsimp only;omega),vq,fk c,dx (by omega)];dsimp only
   repeat' split
   all_goals omega
structure tm (D:Int->Prop) (S:tg) (B:List (List zE)) (id lf inst:Int):Prop where
 rest:∀x,x≠id->S.left x=qB B x
 me:S.left id=lf
 own:∀(k:Nat) (L:List zE),B[k]? =ax L->∀o∈L,S.own o.id=k
 Ij:S.own id=inst
 no:∀L∈B,∀o∈L,o.id≠id
 d:∀L∈B,∀o∈L,D o.id
 di:D id
def tm.take {D:Int->Prop} {S:tg} {p:fj} {B:List (List zE)} {id lf inst:Int} (h:tm D S B id lf inst) (hB:lu p B) {k:Nat} {L:List zE} (hL:B[k]? =ax L) {o:zE} (ho:o∈L) {x:Int} (hx:1<=x/\x<=o.dq):tm D ⟨oc S.left o.id (o.dq-x),S.own⟩ (yZ B o.id x).1 id lf inst:=by
 have jf:o.id≠id:=h.no L (mc hL) o ho;refine⟨λy hy=> ?_,?_,λj M hM z hz=> ?_,h.Ij,λM hM z hz=> ?_,λM hM z hz=> ?_,h.di⟩
 ·rw[yCl hB hL ho hx];dsimp only[oc];by_cases c:y=o.id
  ·rw[fk c,fk c]
  ·rw[dx c,dx c];exact h.rest y hy
 ·dsimp only[oc];rw[dx λe=>jf e.symm];exact h.me
 ·obtain⟨M',h1,h2⟩:=OE hM;obtain⟨o',h3,h4⟩:=h2 z hz;rw[<- h4];exact h.own j M' h1 o' h3
 ·obtain⟨j,hj⟩:=AB.1 hM;obtain⟨M',h1,h2⟩:=OE hj;obtain⟨o',h3,h4⟩:=h2 z hz;rw[<- h4];exact h.no M' (mc h1) o' h3
 ·obtain⟨j,hj⟩:=AB.1 hM;obtain⟨M',h1,h2⟩:=OE hj;obtain⟨o',h3,h4⟩:=h2 z hz;rw[<- h4];exact h.d M' (mc h1) o' h3
def XM {p:fj} {D:Int->Prop} {k:Nat} {s id lf inst:Int} (hs:s=1\/s=2) (x:kX):∀{os:List zE} {sh:List Int} {B:List (List zE)} {L:List zE} {S:tg},lu p B->B[k]? =ax L->(∀o∈os,o∈L)->(os.map (·.id)).Nodup->sh.length=os.length->(∀n,0<=sh.getD n 0/\sh.getD n 0<=(os.map (·.dq)).getD n 0)->tm D S B id lf inst->
 aY p D S ((yM k s os sh).flatMap λf=>jJ p x (cR f))/\tm D (uZ S ((yM k s os sh).flatMap λf=>jJ p x (cR f))) (y8 B (yM k s os sh)) id lf inst/\
 ∀m,0<=m->m<p.dr.length->uW ((yM k s os sh).flatMap λf=>jJ p x (cR f)) m=vq p k s sh.sum m
 |[],sh,B,L,S,h,hL,ho,hn,hl,hb,hF=>by
  have:sh=[]:=List.length_eq_zero_iff.1 hl;subst this;refine⟨trivial,hF,λm _ _=> ?_⟩;show 0=vq p k s 0 m;rw[vq]
  repeat' split
  all_goals omega
 |o::os,[],B,L,S,h,hL,ho,hn,hl,hb,hF=>by cases hl
 |o::os,y::sh,B,L,S,h,hL,ho,hn,hl,hb,hF=>by
  have hy:0<=y/\y<=o.dq:=hb 0;have Ao:∀n,0<=sh.getD n 0/\sh.getD n 0<=(os.map (·.dq)).getD n 0:=λn=>hb (n+1)
  have HS:sh.length=os.length:=by simpa using hl
  rw[iT,ve]at hn;have EC:=ho o jg;have ln:∀z∈os,z∈L:=λz hz=>ho z (jx _ hz)
  rw[oR,yM];by_cases c:0<y
  ·rw[fk c];have hx:1<=y/\y<=o.dq:=by omega
   have hk:=(ju.1 hL).1;have HQ:=h.od k L hL;have hoq:=(HQ.1 o EC).q;have jf:o.id≠id:=hF.no L (mc hL) o EC;have NK:S.left o.id=o.dq:=by rw[hF.rest _ jf,Ol h hL EC]
   have wg:=h.ok.bl;obtain⟨t1,t2,t3⟩:=yCq h.ok.pc (D:=D) (S:=S) x (r:=⟨3,o.id,k,s,o.dp,y,o.dq-y,0⟩) (hF.d L (mc hL) o EC) rfl Z9 (hF.own k L hL o EC).symm Z9 (by dsimp only;rw[NK]) hs;have hF':=hF.take h hL EC hx;have hW:=h.take o.id y;have zx:(yZ B o.id y).1[k]? =ax (yU L o.id y):=by rw[XB h hL EC hx];exact uM hk
   obtain⟨i1,i2,i3⟩:=XM (s:=s) hs x (os:=os) (sh:=sh) hW zx (λz hz=>HB.2 ⟨z,ln z hz,dx λ(e:z.id=o.id)=>hn.1 (oe.2 ⟨z,hz,e⟩)⟩) hn.2 HS Ao hF';rw[xu];show aY p D S (jJ p x ⟨3,o.id,k,s,o.dp,y,o.dq-y,0⟩++_)/\tm D (uZ S (jJ p x ⟨3,o.id,k,s,o.dp,y,o.dq-y,0⟩++_)) _ id lf inst/\∀m,0<=m->m<p.dr.length->uW (jJ p x ⟨3,o.id,k,s,o.dp,y,o.dq-y,0⟩++_) m=_;refine⟨bG t1 ?_,?_,λm m0 m1=> ?_⟩
   ·rw[t2];exact i1
   ·rw[mF,t2];exact i2
   ·rw[pG,t3 m m0 m1,i3 m m0 m1,y2q]
  ·rw[dx c];have:y=0:=by omega
   subst this;rw[Int.zero_add];exact XM hs x h hL ln hn.2 HS Ao hF
def z7c {p:fj} {D:Int->Prop} {B:List (List zE)} (h:lu p B) {q:Int} {g:List uV} {k:Nat} {s pr:Int} (G:xAe p B q g k s pr) {S:tg} {id lf inst:Int} (hF:tm D S B id lf inst) (x:kX):
 aY p D S (g.flatMap λf=>jJ p x (cR f))/\tm D (uZ S (g.flatMap λf=>jJ p x (cR f))) (y8 B g) id lf inst/\
 ∀m,0<=m->m<p.dr.length->uW (g.flatMap λf=>jJ p x (cR f)) m=vq p k s q m:=by
 obtain⟨L,hL⟩:=z6 G.lt;have e:=G.eq;have Sh:=G.sh;rw[zJ hL]at e Sh;have ho:=h.od k L hL;have:=XM (D:=D) (k:=k) G.Wk x (os:=qy L s pr) h hL (λo ho=>(qk.1 ho).1) (ho.2.1.sublist (List.Sublist.map _ HC)) (by rw[Sh.len,iz]) Sh.bd hF;rw[Sh.sum,<- e]at this;exact this
def yPi {sd:Bool}:zA (!sd)=3-zA sd:=by cases sd<;>rfl
def ySg {p:fj} {D:Int->Prop} {B:List (List zE)} (h:lu p B) {inst:Int} (hi:0<=inst/\inst<B.length) {sd:Bool} {dp q:Int} (hq:1<=q/\q<=1000000) {t:kX} {B':List (List zE)} (e:wJ p B inst sd dp q=ax (t,B')) {c:ir} (Rj:c.inst=inst) (AH:c.side=zA sd) {S:tg} (hF:tm D S B c.id q inst):
 aY p D S (cU p c t (q-t.dq))/\tm D (uZ S (cU p c t (q-t.dq))) B' c.id (q-t.dq) inst/\∀m,0<=m->m<p.dr.length->uW (cU p c t (q-t.dq)) m=0:=by
 have hs:zA (!sd)=1\/zA (!sd)=2:=aC _;have yt:zA sd=1\/zA sd=2:=aC _;have qt:=eD h.ok h.od hi hs;have wg:=h.ok.bl;have WA:=rD hq.1 e;have key:aY p D S (t.ig.flatMap λf=>jJ p t (cR f))/\tm D (uZ S (t.ig.flatMap λf=>jJ p t (cR f))) B' c.id q inst/\∀m,0<=m->m<p.dr.length->uW (t.ig.flatMap λf=>jJ p t (cR f)) m=vq p inst (zA (!sd)) t.dq m:=by
  rw[wJ]at e;dsimp only at e;split at e
  ·rename_i c0;have c1:(z7 p B inst (zA (!sd))).2.2=av:=by
    cases hx:(z7 p B inst (zA (!sd))).2.2 with
    |false=>rw[hx]at c0;cases c0
    |true=>rfl
   obtain⟨u',h1,h2⟩:=qt c1;split at e
   ·rename_i c2;obtain⟨tj,ok⟩:=h1 c2;have hv:=yUn h.ok.pc (T:=B.map yS) (by rw[iz];exact wg) hs tj t.dq;generalize (z7 p B inst (zA (!sd))).1=n at*;obtain⟨np,nq,⟨ai,az⟩,⟨bi,bs⟩⟩:=n;have a:=ok.a;have b:=ok.b;have ne:=ok.ne;rw[iz]at a b;dsimp only at a b ne u';obtain⟨ka,rfl⟩:∃k:Nat,ai=k:=⟨ai.toNat,oM⟩
    obtain⟨kb,rfl⟩:∃k:Nat,bi=k:=⟨bi.toNat,oM⟩
    obtain⟨La,DZ⟩:=z6 (l:=B) (i:=ka) oM;obtain⟨Lb,Hc⟩:=z6 (l:=B) (i:=kb) oM;have e1:=ok.ha;have e2:=ok.hb;have e3:=ok.dq;have sa:az=1\/az=2:=ok.sa;have bz:bs=1\/bs=2:=ok.sb;dsimp only at e1 e2 e3 hv;rw[ml,KF DZ]at e1 e3;rw[ml,KF Hc]at e2 e3;rw[(gS La sa).1]at e1;rw[(gS Lb bz).1]at e2;rw[(gS La sa).2.1,(gS Lb bz).2.1]at e3;cases e;dsimp only at WA hv ⊢;have hl:=dH h (k:=ka) (j:=kb) oM DZ Hc az (min q nq);have hW2:lu p (y8 B (xA p B ka az (min q nq))):=h.takes;obtain⟨i1,i2,i3⟩:=z7c h (TD h DZ sa e1 (q:=min q nq) oM) hF ⟨np,min q nq,av,xA p B ka az (min q nq)++xA p (y8 B (xA p B ka az (min q nq))) kb bs (min q nq)⟩;obtain⟨j1,j2,j3⟩:=z7c hW2 (TD hW2 hl bz e2 (q:=min q nq) oM) i2 ⟨np,min q nq,av,xA p B ka az (min q nq)++xA p (y8 B (xA p B ka az (min q nq))) kb bs (min q nq)⟩;rw[zk];refine⟨bG i1 j1,by rw[mF];exact j2,λm m0 m1=> ?_⟩;rw[pG,i3 m m0 m1,j3 m m0 m1];exact hv m
   ·rename_i c2;have c2:(z7 p B inst (zA (!sd))).2.1=aw:=by simpa using c2
    obtain⟨d1,d2,d3⟩:=h2 c2;obtain⟨k0,rfl⟩:∃k:Nat,inst=k:=⟨inst.toNat,oM⟩
    obtain⟨L,hL⟩:=z6 (l:=B) (i:=k0) oM;rw[ml,zJ hL]at d1 d2 d3;cases e;dsimp only at WA ⊢;exact z7c h (TD h hL hs d1 (q:=min q (z7 p B k0 (zA (!sd))).1.dq) oM) hF _
  ·cases e
 obtain⟨k1,k2,k3⟩:=key;rw[cU];obtain⟨t1,t2,t3⟩:=yCq h.ok.pc (D:=D) (S:=uZ S (t.ig.flatMap λf=>jJ p t (cR f))) t (r:=⟨3,c.id,c.inst,c.side,t.dp,t.dq,q-t.dq,0⟩) k2.di rfl Z9 (by dsimp only;rw[k2.Ij,Rj]) (by dsimp only;rw[k2.me];omega) (by dsimp only;rw[k2.me]) Z9;refine⟨bG k1 t1,?_,λm m0 m1=> ?_⟩
 ·rw[mF,t2];exact⟨λy hy=>by dsimp only[oc];rw[dx hy];exact k2.rest y hy,by dsimp only[oc];rw[fk rfl],k2.own,k2.Ij,k2.no,k2.d,k2.di⟩
 ·rw[pG,k3 m m0 m1,t3 m m0 m1];dsimp only;rw[Rj,AH,yPi,z9b p yt];omega
def yMv {p:fj} {D:Int->Prop} {inst:Int} {sd:Bool} {dp:Int} {c:ir} (Rj:c.inst=inst) (AH:c.side=zA sd):∀(m:Nat) (q:Int) (B:List (List zE)) (S:tg),q.toNat<=m->0<=q/\q<=1000000->lu p B->0<=inst/\inst<B.length->tm D S B c.id q inst->
 aY p D S (vI p c (qC p B inst sd dp q).steps q)/\tm D (uZ S (vI p c (qC p B inst sd dp q).steps q)) (qC p B inst sd dp q).B c.id (qC p B inst sd dp q).left inst/\∀n,0<=n->n<p.dr.length->uW (vI p c (qC p B inst sd dp q).steps q) n=0
 |m,q,B,S,hm,hq0,h,hi,hF=>by
  by_cases hq:q<=0
  ·rw[jS (.inl hq)];exact⟨trivial,hF,λ_ _ _=>rfl⟩
  cases hs:wJ p B inst sd dp q with
  |none=>rw[jS (.inr hs)];exact⟨trivial,hF,λ_ _ _=>rfl⟩
  |some x=>
   obtain⟨t,C⟩:=x;have WA:=rD oM hs;obtain⟨hW,hl⟩:=Vn h hs;obtain⟨i1,i2,i3⟩:=ySg h hi oM hs Rj AH hF;cases m with
   |zero=>omega
   |succ m=>
   obtain⟨j1,j2,j3⟩:=yMv (dp:=dp) Rj AH m (q-t.dq) C _ oM oM hW (by rw[hl];exact hi) i2;rw[aP (by omega) hs];dsimp only;rw[vI];refine⟨bG i1 j1,by rw[mF];exact j2,λn n0 n1=> ?_⟩;rw[pG,i3 n n0 n1,j3 n n0 n1];rfl
structure Fits (D:Int->Prop) (S:tg) (B:List (List zE)):Prop where
 lf:∀x,S.left x=qB B x
 own:∀(k:Nat) (L:List zE),B[k]? =ax L->∀o∈L,S.own o.id=k
 d:∀L∈B,∀o∈L,D o.id
def yRp (B:List (List zE)):GJ B=jH B:=Xv B 0
def yFf:∀{B:List (List zE)} {L:List zE},L∈B->L.length<=jH B
 |[],L,h=>by cases h
 |M::B,L,h=>by
  rw[jH,iT,oR];rcases ku.1 h with rfl|h
  ·omega
  ·have:=yFf h;rw[jH]at this;omega
def yRu {B:List (List zE)} {id:Int} (h:∀L∈B,∀o∈L,o.id≠id):dZ B id=ay:=by
 cases e:dZ B id with
 |none=>rfl
 |some k=>
  obtain⟨L,hL,hh⟩:=xR e;obtain⟨o,ho,e2⟩:=oe.1 (iG.1 hh);exact absurd e2 (h L (mc hL) o ho)
def y4q {D:Int->Prop} {S:tg} {p:fj} {B:List (List zE)} {id lf inst s dp:Int} (h:tm D S B id lf inst) (hi:0<=inst/\inst<B.length) (hq:1<=lf/\lf<=1000000) (hn:jH B<250) (hp:p.dp inst dp=0):Fits D S (lZ p B inst id s dp lf).1:=by
 obtain⟨k,rfl⟩:∃k:Nat,inst=k:=⟨inst.toNat,oM⟩
 obtain⟨L,hL⟩:=z6 (l:=B) (i:=k) oM;have hLm:=mc hL;have WM:=yFf hLm;have hh:kW L id=aw:=by
  cases e:kW L id with
  |false=>rfl
  |true=>
   obtain⟨o,ho,e2⟩:=oe.1 (iG.1 e);exact absurd e2 (h.no L hLm o ho)
 have qt:=yRu h.no;have e:(lZ p B k id s dp lf).1=B.set k (Cf L s id dp lf):=by
  rw[lZ,dx (by omega),qt,dx (show ¬(ay:Option Nat).isSome=av by decide),dx (by rw[Xv];omega),dx (by rw[hp];decide),ml,zJ hL,lS,dx (by omega),hh,dx (by decide),dx (by omega)]
 have rf:∀o∈Cf L s id dp lf,o.id=id\/∃o'∈L,o'.id=o.id:=λo ho=>by
  rcases ku.1 ((Uw L s id dp lf).mem_iff.1 (pn (f:=(·.id)) ho))with e|hm
  ·exact .inl e
  ·obtain⟨o',ln,e⟩:=oe.1 hm;exact .inr ⟨o',ln,e⟩
 rw[e];refine⟨λx=> ?_,λj M hM o ho=> ?_,λM hM o ho=> ?_⟩
 ·rw[Vp hL,y2t];by_cases c:id=x
  ·subst c;rw[fk rfl,h.me,Kw h.no];omega
  ·rw[dx c,h.rest x λe=>c e.symm];omega
 ·rcases uO hM with⟨rfl,rfl⟩|⟨_,hM⟩
  ·rcases rf o ho with e|⟨o',ln,e⟩
   ·rw[e];exact h.Ij
   ·rw[<- e];exact h.own _ L hL o' ln
  ·exact h.own j M hM o ho
 ·rcases Pt hM with hM|rfl
  ·exact h.d M hM o ho
  ·rcases rf o ho with e|⟨o',ln,e⟩
   ·rw[e];exact h.di
   ·rw[<- e];exact h.d L hLm o' ln
def tm.fits {D:Int->Prop} {S:tg} {B:List (List zE)} {id inst:Int} (h:tm D S B id 0 inst):Fits D S B:=by
 refine⟨λx=> ?_,h.own,h.d⟩;by_cases c:x=id
 ·subst c;rw[h.me,Kw h.no]
 ·exact h.rest x c
def z2t {p:fj} {inst:Int} {sd:Bool} {dp:Int} {q:Int} {B:List (List zE)} (h:lu p B) (hi:0<=inst/\inst<B.length):jH (qC p B inst sd dp q).B<=jH B:=(yBn _ q B (mg _) h hi).2.2.2
def z6i {p:fj} {D:Int->Prop} {B:List (List zE)} (h:lu p B) (U:List Int) {c:ir} (hi:0<=c.inst/\c.inst<B.length) (hs:c.side=1\/c.side=2) (hq:1<=c.dq/\c.dq<=1000000) (hp:p.dp c.inst c.dp=0) (hn:jH B<250) {S:tg} (hF:Fits D S B) (A7:∀L∈B,∀o∈L,o.id≠c.id) (hd:D c.id):
 aY p D S (wQ p B U c).R/\Fits D (uZ S (wQ p B U c).R) (wQ p B U c).B/\∀n,0<=n->n<p.dr.length->uW (wQ p B U c).R n=0:=by
 have yt:c.side=zA (decide (c.side=2)):=by rcases hs with e|e<;>rw[e]<;>rfl
 have wg:=h.ok.bl;have hF0:tm D (yp S ⟨1,c.id,c.inst,c.side,c.dp,c.dq,c.dq,0⟩) B c.id c.dq c.inst:=by
  rw[yp,fk rfl];dsimp only;refine⟨λx hx=> ?_,?_,λk L hL o ho=> ?_,?_,A7,hF.d,hd⟩
  ·dsimp only[oc];rw[dx hx];exact hF.lf x
  ·dsimp only[oc];rw[fk rfl]
  ·dsimp only[oc];rw[dx (A7 L (mc hL) o ho)];exact hF.own k L hL o ho
  ·dsimp only[oc];rw[fk rfl]
 have g0:Lr p D S ⟨1,c.id,c.inst,c.side,c.dp,c.dq,c.dq,0⟩:=⟨hd,Z9,Z9,Z9,.inl ⟨rfl,by dsimp only;rw[hF.lf,Kw A7],hq.1,rfl⟩⟩
 obtain⟨i1,i2,i3⟩:=yMv (dp:=c.dp) (rfl:c.inst=c.inst) yt _ c.dq B _ (mg _) oM h hi hF0;have Cn:=z2t (sd:=decide (c.side=2)) (dp:=c.dp) (q:=c.dq) h hi;obtain⟨hW,hl,xp⟩:=aG (inst:=c.inst) (sd:=decide (c.side=2)) (dp:=c.dp) _ c.dq B (mg _) h;have xp:=xp oM;rw[vH];generalize qC p B c.inst (decide (c.side=2)) c.dp c.dq=R at*;obtain⟨ts,left,B'⟩:=R;dsimp only at*;by_cases cl:left=0
 ·subst cl;rw[dx λx=>x.1 rfl,dx λx=>x.1 rfl,pd];exact⟨⟨g0,i1⟩,i2.fits,λn n0 n1=>by rw[uW,i3 n n0 n1,one,dx (λx=>absurd x.1 (by show ¬(1:Int)=3;decide))];rfl⟩
 by_cases ct:c.time=1
 ·rw[dx (show ¬(left≠0/\c.time≠1)from λx=>x.2 ct),fk (show left≠0/\c.time=1 from⟨cl,ct⟩),pd];exact⟨⟨g0,i1⟩,y4q i2 oM oM oM hp,λn n0 n1=>by rw[uW,i3 n n0 n1,one,dx (λx=>absurd x.1 (by show ¬(1:Int)=3;decide))];rfl⟩
 ·rw[fk (show left≠0/\c.time≠1 from⟨cl,ct⟩),dx (show ¬(left≠0/\c.time=1)from λx=>ct x.2)];have g2:Lr p D (uZ (yp S ⟨1,c.id,c.inst,c.side,c.dp,c.dq,c.dq,0⟩) (vI p c ts c.dq)) ⟨4,c.id,c.inst,c.side,c.dp,left,0,0⟩:=⟨hd,Z9,Z9,Z9,.inr (.inr (.inl ⟨rfl,Z9,by dsimp only;rw[i2.me],rfl⟩))⟩
  have n2:yp (uZ (yp S ⟨1,c.id,c.inst,c.side,c.dp,c.dq,c.dq,0⟩) (vI p c ts c.dq)) ⟨4,c.id,c.inst,c.side,c.dp,left,0,0⟩=⟨oc (uZ (yp S ⟨1,c.id,c.inst,c.side,c.dp,c.dq,c.dq,0⟩) (vI p c ts c.dq)).left c.id 0,(uZ (yp S ⟨1,c.id,c.inst,c.side,c.dp,c.dq,c.dq,0⟩) (vI p c ts c.dq)).own⟩:=ML (by show(4:Int)≠1;decide) (by show(4:Int)≠2;decide) λh=>absurd (show(4:Int)=3 from h) Z8
  refine⟨⟨g0,bG i1 ⟨g2,trivial⟩⟩,?_,λn n0 n1=> ?_⟩
  ·show Fits D (uZ (yp S _) (vI p c ts c.dq++[_])) B';rw[mF,Y6,n2];refine⟨λx=> ?_,i2.own,i2.d⟩;dsimp only[oc];by_cases e:x=c.id
   ·rw[fk e,e,Kw i2.no]
   ·rw[dx e];exact i2.rest x e
  ·rw[tu,uW,pG,i3 n n0 n1,uW,uW,one,one,dx (λx=>absurd x.1 (by show ¬(1:Int)=3;decide)),dx (λx=>absurd x.1 (by show ¬(4:Int)=3;decide))];rfl
def Fits.take {D:Int->Prop} {S:tg} {p:fj} {B:List (List zE)} (h:Fits D S B) (hB:lu p B) {k:Nat} {L:List zE} (hL:B[k]? =ax L) {o:zE} (ho:o∈L) {x:Int} (hx:1<=x/\x<=o.dq):Fits D ⟨oc S.left o.id (o.dq-x),S.own⟩ (yZ B o.id x).1:=by
 refine⟨λy=> ?_,λj M hM z hz=> ?_,λM hM z hz=> ?_⟩
 ·rw[yCl hB hL ho hx];dsimp only[oc];by_cases c:y=o.id
  ·rw[fk c,fk c]
  ·rw[dx c,dx c];exact h.lf y
 ·obtain⟨M',h1,h2⟩:=OE hM;obtain⟨o',h3,h4⟩:=h2 z hz;rw[<- h4];exact h.own j M' h1 o' h3
 ·obtain⟨j,hj⟩:=AB.1 hM;obtain⟨M',h1,h2⟩:=OE hj;obtain⟨o',h3,h4⟩:=h2 z hz;rw[<- h4];exact h.d M' (mc h1) o' h3
def z3c {B:List (List zE)} {id:Int} (h:(zW B id).2.2=av):∃(k:Nat) (L:List zE),(zW B id).1=k/\B[k]? =ax L/\(zW B id).2.1∈L/\(zW B id).2.1.id=id:=by
 rw[zW]at h ⊢;split at h
 ·cases h
 ·rename_i k hk;obtain⟨L,hL,hh⟩:=xR hk;obtain⟨o,ho,e⟩:=oe.1 (iG.1 hh);refine⟨k,L,rfl,hL,?_⟩;dsimp only;rw[zJ hL,cT];cases hf:L.find? λo=>decide (o.id=id)with
  |none=>exact absurd e (by simpa using List.find?_eq_none.1 hf o ho)
  |some y=>exact⟨List.mem_of_find?_eq_some hf,by simpa using List.find?_some hf⟩
def yFt {p:fj} {B:List (List zE)} (h:lu p B) {k:Nat} {L:List zE} (hL:B[k]? =ax L) {o:zE} (ho:o∈L):(∀M∈(yZ B o.id o.dq).1,∀y∈M,y.id≠o.id)/\jH (yZ B o.id o.dq).1<jH B:=by
 have HQ:=h.od k L hL;have hq:=(HQ.1 o ho).q;have hg:=gY HQ.2.1 ho;have hh:kW L o.id=av:=iG.2 (pn (f:=(·.id)) ho)
 have ht:=YP HQ.2.1 hh;rw[hg]at ht;rw[XB h hL ho (by omega),ht];refine⟨λM hM y hy e=> ?_,?_⟩
 ·obtain⟨j,hj⟩:=AB.1 hM;rcases uO hj with⟨_,rfl⟩|⟨jf,hj⟩
  ·have:=(qk.1 hy).2;rw[e]at this;simp at this
  ·exact jf (Yz h.ub hj hL (e▸pn (f:=(·.id)) hy) (pn (f:=(·.id)) ho))
 ·have h1:=TM (L':=L.filter λy=> !decide (y.id=o.id)) hL;have h2:(L.filter λy=> !decide (y.id=o.id)).length<L.length:=List.length_filter_lt_length_iff_exists.2 ⟨o,ho,by simp⟩;omega
def take_zero {B:List (List zE)} {id x:Int} (hx:x<1):(yZ B id x).1=B:=by
 rw[yZ];split
 ·rfl
 ·rename_i k hk;obtain⟨L,hL,hh⟩:=xR hk;dsimp only;rw[zJ hL,x4,dx (by rw[hh];decide),fk (.inl hx)];exact kL hL
def zPn {p:fj} {i n:Int} (h:p.dp i n=0):0<=i/\i<p.count:=by
 rw[fj.dp]at h;split at h
 ·cases h
 split at h
 ·cases h
 ·omega
def zWy {p:fj} {D:Int->Prop} {B:List (List zE)} (h:lu p B) (U:List Int) {S:tg} (hF:Fits D S B) {k:Nat} {L:List zE} (hL:B[k]? =ax L) {o:zE} (ho:o∈L):
 aY p D S (jV B U o.id k o).R/\Fits D (uZ S (jV B U o.id k o).R) (jV B U o.id k o).B/\∀n,uW (jV B U o.id k o).R n=0:=by
 have hq:=((h.od k L hL).1 o ho).q;have hk:=(ju.1 hL).1;have wg:=h.ok.bl;have NK:S.left o.id=o.dq:=by rw[hF.lf,Ol h hL ho]
 have ht:=hF.take h hL ho (x:=o.dq) oM;rw[Int.sub_self]at ht;rw[jV];refine⟨⟨⟨hF.d L (mc hL) o ho,Z9,Z9,Z9,.inr (.inr (.inl ⟨rfl,hq.1,NK.symm,rfl⟩))⟩,trivial⟩,?_,λn=> ?_⟩
 ·dsimp only;rw[Y6,ML (by show(4:Int)≠1;decide) (by show(4:Int)≠2;decide) λh=>absurd (show(4:Int)=3 from h) (by decide)];exact ht
 ·rw[uW,uW,one,dx (λx=>absurd x.1 (by show ¬(4:Int)=3;decide))];rfl
def zXv {p:fj} {D:Int->Prop} {B:List (List zE)} (h:lu p B) (U:List Int) {S:tg} (hF:Fits D S B) {k:Nat} {L:List zE} (hL:B[k]? =ax L) {o:zE} (ho:o∈L) {q:Int} (hx:0<=q/\q<o.dq):
 aY p D S (uQ B U o.id q k o).R/\Fits D (uZ S (uQ B U o.id q k o).R) (uQ B U o.id q k o).B/\∀n,uW (uQ B U o.id q k o).R n=0:=by
 have hq:=((h.od k L hL).1 o ho).q;have hk:=(ju.1 hL).1;have wg:=h.ok.bl;have NK:S.left o.id=o.dq:=by rw[hF.lf,Ol h hL ho]
 rw[uQ];refine⟨⟨⟨hF.d L (mc hL) o ho,Z9,Z9,Z9,.inr (.inr (.inr ⟨rfl,Z9,Z9⟩))⟩,trivial⟩,?_,λn=> ?_⟩
 ·dsimp only;rw[Y6,ML (by show(5:Int)≠1;decide) (by show(5:Int)≠2;decide) λh=>absurd (show(5:Int)=3 from h) (by decide)];dsimp only;by_cases c:q<1
  ·have e:q=0:=by omega
   subst e;rw[take_zero (by decide),Int.sub_zero];refine⟨λy=> ?_,hF.own,hF.d⟩;dsimp only[oc];by_cases e:y=o.id
   ·rw[fk e,e,Ol h hL ho]
   ·rw[dx e];exact hF.lf y
  ·exact hF.take h hL ho oM
 ·rw[uW,uW,one,dx (λx=>absurd x.1 (by show ¬(5:Int)=3;decide))];rfl
def yUz (p:fj) (B:List (List zE)) (inst id s dp q:Int):jH (lZ p B inst id s dp q).1<=jH B+1:=by
 rw[lZ]
 repeat' split
 all_goals first|exact Nat.le_succ _|skip
 rename_i c1 _ _ _;obtain⟨L,hL⟩:=z6 (l:=B) (i:=inst.toNat) oM;dsimp only;rw[zJ hL];have h1:=TM (L':=(lS L s id dp q).1) hL;have h2:(lS L s id dp q).1.length<=L.length+1:=by
  rw[lS]
  repeat' split
  all_goals first|exact Nat.le_succ _|skip
  have:=(Uw L s id dp q).length_eq;rw[iz,iY,iz]at this;dsimp only;omega
 omega
def zWd {p:fj} {B:List (List zE)} (h:lu p B) (U:List Int) {c:ir} (hi:0<=c.inst/\c.inst<B.length):jH (wQ p B U c).B<=jH B+1:=by
 have Cn:=z2t (sd:=decide (c.side=2)) (dp:=c.dp) (q:=c.dq) h hi;rw[vH];dsimp only;split
 ·exact wu (yUz ..) oM
 ·omega
def y6f {p:fj} {D:Int->Prop} {B:List (List zE)} (h:lu p B) {U:List Int} (hA:Acc B U) {c:ir} (hd:D c.id) (hn:jH B<=250) {S:tg} (hF:Fits D S B):
 (∃w,tx p B U c=⟨B,U,aW c w⟩)\/(jH (tx p B U c).B<=250/\aY p D S (tx p B U c).R/\Fits D (uZ S (tx p B U c).R) (tx p B U c).B/\∀n,0<=n->n<p.dr.length->uW (tx p B U c).R n=0):=by
 have wg:=h.ok.bl;rw[tx];split
 ·exact .inl ⟨_,rfl⟩
 rename_i hr;have hr:c.right=0:=by simpa using hr
 split
 ·rename_i hk;obtain⟨hs,hq,_⟩:=UN hr hk;rw[bR];split
  ·exact .inl ⟨_,rfl⟩
  rename_i hp;have hp:p.dp c.inst c.dp=0:=by simpa using hp
  have hi:=zPn hp;split
  ·exact .inl ⟨_,rfl⟩
  rename_i hu;split
  ·exact .inl ⟨_,rfl⟩
  rename_i aaX;rw[yRp]at aaX;split
  ·exact .inl ⟨_,rfl⟩
  split
  ·exact .inl ⟨_,rfl⟩
  have Cn:=zWd h U (c:=c) oM;exact .inr ⟨oM,z6i h U oM hs hq hp oM hF (λL hL o ho e=>hu (e▸hA L hL o ho)) hd⟩
 rename_i hk;split
 ·exact .inl ⟨_,rfl⟩
 rename_i hf;obtain⟨k,L,f1,hL,ho,vi⟩:=z3c (by simpa using hf);generalize zW B c.id=F at*;obtain⟨fi,o,fb⟩:=F;dsimp only at f1 hL ho vi ⊢;subst f1;have hq:=((h.od k L hL).1 o ho).q;have aaJ:=(ju.1 hL).1;split
 ·rename_i h4;have WD:=mQ hr hk oM;rw[uB];split
  ·exact .inl ⟨_,rfl⟩
  rename_i hp;have hp:p.dp k c.dp=0:=by simpa using hp
  split
  ·rename_i FH;right;have:=zXv h U hF hL ho (q:=o.dq-c.dq) oM;rw[vi]at this;exact⟨wu (T0 B c.id (o.dq-c.dq)).1 hn,this.1,this.2.1,λn _ _=>this.2.2 n⟩
  split
  ·exact .inl ⟨_,rfl⟩
  right;obtain⟨c1,c2,c3⟩:=zWy h U hF hL ho;obtain⟨g1,g2⟩:=yFt h hL ho;rw[vi]at c1 c2 c3 g1 g2;have hW:lu p (yZ B c.id o.dq).1:=h.take _ _;have aaT:=hW.ok.bl;have Cn:=zWd hW U (c:=⟨1,c.id,k,o.side,c.dp,c.dq,0,1,[]⟩) Z9;obtain⟨e1,e2,e3⟩:=z6i hW U (c:=⟨1,c.id,k,o.side,c.dp,c.dq,0,1,[]⟩) Z9 ((h.od k L hL).1 o ho).s WD hp oM c2 g1 hd;dsimp only;refine⟨wu Cn oM,bG c1 e1,by rw[mF];exact e2,λn n0 n1=> ?_⟩;rw[pG,c3,Int.zero_add];exact e3 n n0 n1
 rename_i h4;split
 ·right;have:=zWy h U hF hL ho;rw[vi]at this;exact⟨wu (T0 B c.id o.dq).1 hn,this.1,this.2.1,λn _ _=>this.2.2 n⟩
 ·rename_i h2;right;have WD:=mQ hr hk oM;have:=zXv h U hF hL ho (q:=c.dq) oM;rw[vi]at this;exact⟨wu (T0 B c.id c.dq).1 hn,this.1,this.2.1,λn _ _=>this.2.2 n⟩
def UK {p:fj} (hc:p.check=0):1<=p.count/\p.count<=21:=by
 have h1:=aH hc;have h2:=(qF hc).m2;have h3:=xQ p;omega
def yWu (c:ir):1<=u9 c/\u9 c<=4:=by
 have:=yY (n:=c.kind) (lo:=0) (hi:=8) oM;rw[u9];split<;>omega
def yGq (t:zz):(xF t).kind=u9 t.c:=by
 rw[xF];split<;>rfl
def yJs (t:zz):1<=(xF t).dq/\(xF t).dq<=12:=by
 have:=yY (n:=t.c.dq) (lo:=0) (hi:=11) oM;have e:(xF t).dq=1+zH t.c.dq 0 11:=by rw[xF];split<;>rfl
 omega
def zFz (t:zz):(xF t).label=[]:=by
 rw[xF];split<;>rfl
def z5i (x:fj) (c:ir) (i:Int) (hk:u9 c=1):let y:=xF ⟨iw x,c,i⟩
 (0<=y.inst/\y.inst<(iw x).count)/\(y.side=1\/y.side=2)/\(1<=y.time/\y.time<=3)/\(0<=y.least/\y.least<=y.dq)/\(-2000000<=y.dp/\y.dp<=2000000)/\(iw x).dp y.inst y.dp=0:=by
 have hc:=pT x;have hcb:=UK hc;have ht:=Um x;have wi:=yY (n:=c.inst) (lo:=0) (hi:=((iw x).count:Int)-1) oM;have ws:=yY (n:=c.side) (lo:=0) (hi:=1) oM;have wq:=yY (n:=c.dq) (lo:=0) (hi:=11) oM;have wp:=yY (n:=c.dp) (lo:=0) (hi:=9) oM;have ww:=yY (n:=x.wide) (lo:=0) (hi:=60) oM;have wl:=yY (n:=c.least) (lo:=0) (hi:=1+zH c.dq 0 11) oM;have hm:=IZ (a:=zV x) (b:=zH c.dp 0 9) (m:=zV x) (n:=9) oM wp;have hw:=IZ (a:=zV x) (b:=zH x.wide 0 60) (m:=zV x) (n:=60) oM ww;have hh:(y9 ⟨iw x,c,i⟩).kind=1:=hk;have e:xF ⟨iw x,c,i⟩={y9 ⟨iw x,c,i⟩with id:=i+1,time:=cC c,least:=aD c (1+zH c.dq 0 11),dp:=if((iw x).gf (zH c.inst 0 ((iw x).count-1))).2.2=av then zV x*zH c.dp 0 9-4*zV x else zV x*zH c.dp 0 9+8*zV x}:=by
  rw[xF,fk hh];rfl
 intro y;have ey:y=_:=e;rw[ey];have htm:1<=cC c/\cC c<=3:=by rw[cC];split;omega;split<;>omega
 have hle:0<=aD c (1+zH c.dq 0 11)/\aD c (1+zH c.dq 0 11)<=1+zH c.dq 0 11:=by rw[aD];split<;>omega
 refine⟨⟨wi.1,by show zH c.inst 0 ((iw x).count-1)<_;omega⟩,by show 1+zH c.side 0 1=1\/1+zH c.side 0 1=2;omega,htm,hle,?_,?_⟩
 ·dsimp only;split<;>omega
 ·dsimp only;show(iw x).dp (zH c.inst 0 ((iw x).count-1)) _=0;obtain⟨k,tf⟩:∃k:Nat,zH c.inst 0 (((iw x).count:Int)-1)=k:=⟨(zH c.inst 0 (((iw x).count:Int)-1)).toNat,oM⟩
  rw[tf]at wi ⊢;have hkc:k<(iw x).count:=by omega
  have et:(iw x).tick=zV x:=rfl;have el:(iw x).low= -20*zV x:=rfl;have eh:(iw x).high=100*zV x:=rfl;have ew:(iw x).wide=zV x*(5+zH x.wide 0 60):=rfl;rw[Int.mul_add]at ew;rw[fj.dp,dx (by omega),dx (by omega),et,el,eh,ew];rcases vO hc hkc with⟨h1,_⟩|⟨h1,h2⟩
  ·have JE:((iw x).dr.length:Int)<=k:=by
    rcases vx k (iw x).dr.length with y|y
    ·rw[fj.gf,dx (by omega),fk (by omega)]at h1;cases h1
    ·omega
   rw[fk h1,fk JE,fk JE,dx,dx (by omega)];have:zV x*zH c.dp 0 9-4*zV x=zV x*(zH c.dp 0 9-4):=by rw[Int.mul_sub,E7 4]
   rw[this,MN];decide
  ·have iq:¬((iw x).dr.length:Int)<=k:=by omega
   rw[dx (show ¬((iw x).gf k).2.2=av by rw[h1];decide),dx iq,dx iq,dx,dx (by omega)];have:zV x*zH c.dp 0 9+8*zV x=zV x*(zH c.dp 0 9+8):=by rw[Int.mul_add,E7 8]
   rw[this,MN];decide
def zQa (x:fj) (c:ir) (i:Int): -2000000<=(xF ⟨iw x,c,i⟩).dp/\(xF ⟨iw x,c,i⟩).dp<=2000000:=by
 have ht:=Um x;have wp:=yY (n:=c.dp) (lo:=0) (hi:=9) oM;have hm:=IZ (a:=zV x) (b:=zH c.dp 0 9) (m:=zV x) (n:=9) oM wp;have et:(iw x).tick=zV x:=rfl;by_cases h1:u9 c=1
 ·obtain⟨_,_,_,_,h,_⟩:=z5i x c i h1;exact h
 ·have hh:¬(y9 ⟨iw x,c,i⟩).kind=1:=h1;have e:(xF ⟨iw x,c,i⟩).dp=if(y9 ⟨iw x,c,i⟩).kind=4 then zV x*zH c.dp 0 9+5*zV x else zV x*zH c.dp 0 9:=by rw[xF,dx hh];rfl
  rw[e];split<;>omega
def yAl (x:fj) (c:ir) (i id:Int) (vi:1<=id/\id<=1099511627776):ir.right {xF ⟨iw x,c,i⟩with id:=id}=0:=by
 have hk:=yWu c;have hq:=yJs ⟨iw x,c,i⟩;have hp:=zQa x c i;have hcb:=UK (pT x);rw[ir.right];dsimp only;rw[yGq];dsimp only;rw[dx (by omega),dx (by omega)];have q1:jD (xF ⟨iw x,c,i⟩).dq=av:=by rw[jD,kx (by omega),kx (by omega)];rfl
 have q2:uK (xF ⟨iw x,c,i⟩).dp=av:=by rw[uK,kx (by omega),kx (by omega)];rfl
 by_cases h1:u9 c=1
 ·obtain⟨a1,a2,a3,a4,a5,a6⟩:=z5i x c i h1;rw[fk h1,ir.gv];dsimp only;rw[dx (by omega),dx (by omega),dx (by rw[q1];decide),dx (by omega),dx (by rw[zFz];simp),dx (by rw[q2];decide),dx (by omega)]
 ·rw[dx h1,dx (by rw[q1];simp),dx (by rw[q2];simp)]
def cH (W:List (Int×Int)) (id:Int):Int×Bool:=match W.find? λx=>decide (x.1=id)with
 |some x=>(x.2,av)
 |none=>(0,aw)
def I7:List (Int×Int)->Int->Int->List (Int×Int)
 |[],id,s=>[(id,s)]
 |x::W,id,s=>if id=x.1 then(x.1,s)::W else x::I7 W id s
def yLl (x:Int×Int) (W:List (Int×Int)) (id:Int):cH (x::W) id=if id=x.1 then(x.2,av)else cH W id:=by
 rw[cH,KR];by_cases c:id=x.1
 ·rw[fk c,kx c.symm]
 ·rw[dx c,jq (λe=>c e.symm)];rfl
structure Rz where
 B:List (List zE)
 U:List Int
 W:List (Int×Int)
 O:List (Int×fy)
def M4 (B:List (List zE)) (U:List Int) (W:List (Int×Int)) (s id oD:Int):Rz:=⟨B,U,W,[(s,⟨2,id,0,0,0,0,0,oD⟩)]⟩
def sN (s:Int):List (Int×Int)->List fy->List (Int×Int)×List (Int×fy)
 |W,[]=>(W,[])
 |W,r::R=>
  let W1:=if r.kind=1 then I7 W r.id s else W
  ((sN s W1 R).1,(if r.kind=2 then s else(cH W1 r.id).1,r)::(sN s W1 R).2)
def IS (B:List (List zE)) (W:List (Int×Int)) (s:Int):Nat:=(su 0 B).countP λx=>decide ((cH W x.1).1=s)
def Kx (p:fj) (B:List (List zE)) (U:List Int) (W:List (Int×Int)) (s:Int) (c:ir):Rz:=
 if c.kind=1/\64<=IS B W s then M4 B U W s c.id 30
 else if c.kind≠1/\((cH W c.id).2=aw\/(cH W c.id).1≠s)then M4 B U W s c.id 26
 else⟨(tx p B U c).B,(tx p B U c).U,(sN s W (tx p B U c).R).1,(sN s W (tx p B U c).R).2⟩
def wE (p:fj) (B:List (List zE)) (U:List Int) (W:List (Int×Int)) (s:Int) (b:List UInt8):Rz:=
 if s<0\/8<=s then M4 B U W s 0 1 else if(xS b).2≠0 then M4 B U W s 0 (xS b).2 else Kx p B U W s (xS b).1
def yKt {p:fj} {B:List (List zE)} {U:List Int} {W:List (Int×Int)} {s:Int} {c:ir} (hs:0<=s/\s<8) (h:c.right=0):wE p B U W s c.enc=Kx p B U W s c.asks:=by
 rw[wE,dx (by omega),yCh h,dx (by simp)]
def yBk (p:fj) (x:kX) {r:fy} (hr:r.kind=3):∀y∈jJ p x r,y.kind=3:=by
 intro y hy;rw[jJ,ku]at hy;rcases hy with rfl|hy
 ·exact hr
 ·split at hy
  ·rw[M1]at hy;simp only[ku,Nk,or_false]at hy;rcases hy with rfl|rfl<;>exact hr
  ·cases hy
def z1o (p:fj) (c:ir):∀(l:List kX) (q:Int),∀y∈vI p c l q,y.kind=3
 |[],_,y,hy=>by cases hy
 |x::l,q,y,hy=>by
  rw[vI,qq]at hy;rcases hy with hy|hy
  ·rw[cU,qq]at hy;rcases hy with hy|hy
   ·obtain⟨f,_,hy⟩:=yg.1 hy;exact yBk p x rfl y hy
   ·exact yBk p x rfl y hy
  ·exact z1o p c l _ y hy
def z5w (p:fj) (B:List (List zE)) (U:List Int) (c:ir):(∀r∈(wQ p B U c).R,r.kind=1->r.id=c.id)/\∃r l,(wQ p B U c).R=r::l/\r.kind=1/\r.id=c.id:=by
 rw[vH];dsimp only;refine⟨λr hr hk=> ?_,_,_,rfl,rfl,rfl⟩;rw[tu,ku,qq]at hr;rcases hr with rfl|hr|hr
 ·rfl
 ·have:=z1o _ _ _ _ r hr;omega
 ·split at hr
  ·rw[xj]at hr;subst hr;rfl
  ·cases hr
def yCt:∀{l m:List Nat},l.Nodup->(∀x∈l,x∈m)->l.length<=m.length
 |[],m,_,_=>oQ _
 |a::l,m,h,hs=>by
  rw[ve]at h;have ha:=hs a jg;have:=yCt (l:=l) (m:=m.erase a) h.2 λx hx=>(List.mem_erase_of_ne (λe=>h.1 (by rw[<- e];exact hx))).2 (hs x (jx _ hx))
  rw[List.length_erase_of_mem ha]at this;have:=List.length_pos_of_mem ha;rw[iY];omega
structure Handed (gn:List ap) (seen:Array Nat) (dn:List ap):Prop where
 sn:seen.toList=dn.map (·.born)
 nd:(dn.map (·.born)).Nodup
 sub:∀e∈dn,e∈gn
def Handed.push {gn:List ap} {seen:Array Nat} {dn:List ap} (h:Handed gn seen dn) {e:ap} (he:e∈(leftOf gn.toArray seen).toList):Handed gn (seen.push e.born) (dn++[e]):=by
 simp only[leftOf,Array.toList_filter,qk,HA]at he;obtain⟨h1,h2⟩:=he;have h3:e.born∉dn.map (·.born):=by
  rw[<- h.sn];intro hm;have:seen.contains e.born=av:=by
   rw[Array.contains_iff_mem];exact Array.mem_toList_iff.1 hm
  rw[this]at h2;cases h2
 refine⟨by rw[Array.toList_push,h.sn,jz];rfl,?_,λx hx=> ?_⟩
 ·rw[jz,bc,AA];exact⟨h.nd,by simp,λx hx y hy e=>by rw[xj]at hy;subst hy;subst e;exact h3 hx⟩
 ·rcases qq.1 hx with hx|hx
  ·exact h.sub x hx
  ·rw[xj]at hx;subst hx;exact h1
def Handed.len {gn:List ap} {seen:Array Nat} {dn:List ap} (h:Handed gn seen dn):dn.length<=gn.length:=by
 have:=yCt (m:=gn.map (·.born)) h.nd λx hx=>by
  obtain⟨e,he,rfl⟩:=oe.1 hx;exact pn (f:=(·.born)) (h.sub e he)
 simpa using this
def Handed.all {gn:List ap} {seen:Array Nat} {dn:List ap} (h:Handed gn seen dn) (hn:(gn.map (·.born)).Nodup) (h0:(leftOf gn.toArray seen).size=0):dn.Perm gn:=by
 have inj:∀{l:List ap},(l.map (·.born)).Nodup->∀x∈l,∀y∈l,x.born=y.born->x=y:=by
  intro l hl
  induction l with
  |nil=>intro x hx;cases hx
  |cons a l ih=>
   rw[iT,ve]at hl;intro x hx y hy e;rcases ku.1 hx with e1|h1<;>rcases ku.1 hy with e2|h2
   ·rw[e1,e2]
   ·refine absurd ?_ hl.1;rw[<- e1,e];exact pn (f:=(·.born)) h2
   ·refine absurd ?_ hl.1;rw[<- e2,<- e];exact pn (f:=(·.born)) h1
   ·exact ih hl.2 x h1 y h2 e
 have nd:∀{l:List ap},(l.map (·.born)).Nodup->l.Nodup:=λhl=>List.Pairwise.imp (λjf e=>jf (by rw[e])) (List.pairwise_map.1 hl)
 refine(List.perm_ext_iff_of_nodup (nd h.nd) (nd hn)).2 λe=>⟨h.sub e,λhe=> ?_⟩
 have:seen.contains e.born=av:=by
  cases hc:seen.contains e.born with
  |true=>rfl
  |false=>
   have hm:e∈(leftOf gn.toArray seen).toList:=by
    simp only[leftOf,Array.toList_filter,qk];exact⟨he,by rw[hc];rfl⟩
   have:(leftOf gn.toArray seen).toList=[]:=zm (by simpa using h0);rw[this]at hm;cases hm
 rw[Array.contains_iff_mem]at this;have:=Array.mem_toList_iff.2 this;rw[h.sn]at this;obtain⟨x,hx,e2⟩:=oe.1 this;rw[<- inj hn x (h.sub x hx) e he e2];exact hx
def z7b (k:Ko) (LL:List HP) (gn:List ap) (e:Ending) (w':au):Prop:=∃(a:Option Addr) (n c:Nat) (xs:List aq) (dn:List ap),e=.returned (.slice a n c)/\xs=dn.map (·.key)/\n=dn.length/\dn.Perm gn/\Hp k w' (oA 2 1 a n c xs::LL)
def yQa (k:Ko) (LL:List HP) (gn:List ap) (r bm ck:Nat) (v:aq) (w1:au):Prop:=∃(a:Option Addr) (n c:Nat) (xs:List aq) (seen:Array Nat) (c0:Nat) (dn:List ap),v=.slice a n c/\xs=dn.map (·.key)/\n=dn.length/\ck<=c0/\Handed gn seen dn/\Hp k w1 (oA 2 1 a n c xs::pt r (.mapIter (ax bm) ck seen c0)::LL)
def yJb (gn:List ap) (v:aq) (_:au):Nat:=match v with| .slice _ n _=>gn.length-n|_=>0
def yHj {b bm ck:Nat} {gn:List ap} {w:au} {k:Ko} {LL:List HP} {l:List aq} {T:ar}
 (H:Hp k w LL) (uf:∀w',Hp k w' LL->w'.heap[b]? =ax (.cells l.toArray T)/\w'.heap[bm]? =ax (.map gn.toArray ck)) (hl:l[12]? =ax (.map (ax bm)))
 (hck:∀e∈gn,e.born<ck) (hn:(gn.map (·.born)).Nodup) (hk:∀e∈gn,∃n,e.key= .int .i64 n) (oW:gn.length<=1000000):
 Calls Tryz.prog 193 #[.pointer (ax ⟨b,0,ay⟩)] w (z7b k LL gn):=by
 refine vw (c:=Tryz.f193.body.getD .skip) (args:=[.pointer (ax ⟨b,0,ay⟩)]) mixed Tryz.func193 (by kernel_rfl) [{ι:=aq,Rs:=λv=>[(3,v)],fix:=[9]}] (by kernel_rfl) (by kernel_rfl) (by kernel_rfl) ?_;obtain⟨h1,h2⟩:=uf w H;have hu:Tryz.prog.underlying 100=ax (.map 2 3):=by kernel_rfl
 refine⟨ax bm,?_,ax ⟨w.heap.size,0,ay⟩,w.alloc (.mapIter (ax bm) ck #[] ck),?_,?_⟩
 ·show pZ Tryz.prog 100 ⟨b,12,ay⟩ w (.map (ax bm));exact vT (by kernel_rfl) h1 hl
 ·show(Instr.range 100 (.map (ax bm))).run Tryz.prog w=_;exact run_range_map w _ _ _ bm _ ck hu h2
 refine⟨yQa k LL gn w.heap.size bm ck,yJb gn,⟨.slice ay 0 0,rfl,ay,0,0,[],#[],ck,[],rfl,rfl,rfl,mg _,⟨rfl,List.nodup_nil,λe he=>by cases he⟩,(H.new _).nil _ _⟩,?_⟩;rintro j v w1 ⟨a,n,c,xs,seen,c0,dn,rfl,we,P1,NP,hh,H1⟩;have hr:=H1.drop.get;obtain⟨-,g2⟩:=uf w1 H1.drop.drop;rcases run_next_at (P:=Tryz.prog) w1 0 w.heap.size bm ck c0 seen gn.toArray ck hr g2 (λx hx=>hck x (by simpa using hx)) NP with⟨e1,e2⟩|⟨e,he,w2,hw2,jr⟩
 ·refine .inl ⟨w1,e2,?_⟩;show z7b k LL gn (.returned (.slice a n c)) w1;exact⟨a,n,c,xs,dn,rfl,we,P1,hh.all hn e1,(H1.swap).drop⟩
 ·have rf:e∈gn:=by
   have:=he;simp only[leftOf,Array.toList_filter,qk]at this;exact this.1
  obtain⟨m,hm⟩:=hk e rf;have hp:=hh.push he;have H2:Hp k (World.ja w2 w.heap.size (.mapIter (ax bm) ck (seen.push e.born) ck)) (oA 2 1 a n c xs::pt w.heap.size (.mapIter (ax bm) ck (seen.push e.born) ck)::LL):=by
   have H1':Hp k w2 (oA 2 1 a n c xs::pt w.heap.size (.mapIter (ax bm) ck seen c0)::LL):=by
    rcases hw2 with rfl|rfl
    ·exact H1
    ·exact H1.drew
   exact((H1'.swap).oc _).swap
  have ra:Go.ChangeMaps.setBlock w2 w.heap.size (.mapIter (ax bm) ck (seen.push e.born) ck)=World.ja w2 w.heap.size (.mapIter (ax bm) ck (seen.push e.born) ck):=rfl;rw[ra]at jr;generalize Wy:World.ja w2 w.heap.size (.mapIter (ax bm) ck (seen.push e.born) ck)=w3 at H2 jr;obtain⟨-,g3⟩:=uf w3 H2.drop.drop;have Eb:=run_entry_at (P:=Tryz.prog) w3 w.heap.size bm ck seen gn.toArray ck e H2.drop.get g3 (by simpa using rf) (by simpa using hn);refine .inr ⟨e.key,e.val,w3,jr,.tuple #[e.key,e.val],Eb,?_⟩;rw[hm];have hlen:=hp.len;rw[iQ,Cj]at hlen;refine Eq.mp (α:=KO w3 (.cells #[.int .i64 m] 2) λbb w4=>∃(a':Option Addr) (n' c':Nat),∃w5,fS Tryz.prog (Builtin.append_ #[23,23] 23 #[.slice a n c,.slice (ax ⟨bb,0,ay⟩) 1 1]) w4 (.slice a' n' c') w5/\∃i',.slice a' n' c'=i'/\yQa k LL gn w.heap.size bm ck i' w5/\yJb gn i' w5<yJb gn (.slice a n c) w1) (by kernel_rfl) ?_;rintro bb w4 hb hw4;subst hb hw4;have H3:=(H2.new (.cells [ao .i64 m].toArray 2)).lit (sz:=1) (n:=1) rfl;obtain⟨a',c',w5,JG,H5⟩:=(H3.swap).append (P:=Tryz.prog) (t1:=23) (t2:=23) (rt:=23) (e:=2) (sz:=1) (oO:=8) (z:= #[.int .i64 0]) (by kernel_rfl) (by kernel_rfl) (x:= .slice (ax ⟨w3.heap.size,0,ay⟩) 1 1) (m:=1) (ys:=[.int .i64 m]) (.inl ⟨_,_,rfl,H3.Ii⟩) (by simp[Value.oz]) rfl Z8 oM;refine⟨a',n+1,c',w5,JG,.slice a' (n+1) c',rfl,⟨a',n+1,c',_,_,ck,dn++[e],rfl,?_,?_,mg _,hp,(H5.swap).drop⟩,?_⟩
  ·rw[we,jz,bc,hm]
  ·rw[iQ,P1];rfl
  ·show gn.length-(n+1)<gn.length-n;omega
def yEa {F:PH}:∀{l:List (Int×Int)} {gn:List ap},MR F (z5 l) gn->gn.map (·.key)=l.map (λp=>ao .i64 p.1)
 |[],gn,h=>by
  have h:gn=[]:=h;subst h;rfl
 |p::l,gn,h=>by
  obtain⟨m,ms,rfl,h1,-,h3⟩:=h;rw[iT,iT,yEa (l:=l) h3,h1]
def V0:aq->Int
 | .int _ n=>n
 |_=>0
def yGp {xs:List aq} {m:List Int} (h:xs.Perm (m.map λn=>ao .i64 n)):∃l:List Int,xs=l.map (λn=>ao .i64 n)/\l.Perm m:=by
 refine⟨xs.map V0,?_,?_⟩
 ·rw[xi];have:∀x∈xs,((λn=>ao .i64 n)∘V0) x=x:=by
   intro x hx;obtain⟨n,_,rfl⟩:=oe.1 (h.mem_iff.1 hx);rfl
  rw[vy this,List.map_id']
 ·have:=h.map V0;rw[xi]at this;have e:(V0∘λn=>ao .i64 n)=id:=rfl;rw[e,List.map_id]at this;exact this
def yDb (F:PH):∀l:List Int,iI F (iE l).flatten (l.map λn=>ao .i64 n)
 |[]=>by simp[iE,iI]
 |n::l=>by
  have ih:=yDb F l;have e:(iE (n::l)).flatten= .v (.int .i64 n)::(iE l).flatten:=rfl;rw[e,iI];exact⟨.int .i64 n,_,rfl,by simp[DR,Value.oz],ih⟩
def zd:gx where
 ι:=ia
 pat:=λ_=>[.nm 0 0]
 pre:=λs=>[zD s]
 du:=λs=>s.wh.length<=1000000
 alts:=λs=>[{o:=List Int,res:=λ_=> .own 1,post:=λl=>[zD s,.own 2 1 (iE l)],rel:=λl=>l.Perm (s.wh.map (·.1))}]
@[reducible] def El (s:ia):St:=TH [0] ⟨fD 0 (zd.pre s),(zd.pre s).length⟩
def yTl (s:ia) (l:List Int) (hl:l.Perm (s.wh.map (·.1))):VE 1 (.own 5) ((El s).new (.own 2 1 (iE l))) (zd.alts s):=by
 refine Eq.mp (α:=∃(o:List Int),sb s.p.code=sb s.p.code/\s.p.tick=s.p.tick/\s.p.low=s.p.low/\s.p.high=s.p.high/\s.p.wide=s.p.wide/\s.p.gw=s.p.gw/\s.p.top=s.p.top/\s.p.least=s.p.least/\s.p.part=s.p.part/\ag 211 dt 6 zR s.fc ay=ag 211 dt 6 zR s.fc ay/\z5 s.wh=z5 s.wh/\ac 1 (iE s.p.dr)=ac 1 (iE s.p.dr)/\ac 1 (iE s.p.settle)=ac 1 (iE s.p.settle)/\iE o=iE l/\o.Perm (s.wh.map (·.1))) (by kernel_rfl) ?_
 exact⟨l,iH (oE hl)⟩
def yOt:zd.ok Tryz.prog 193:=by
 intro s hc k L E w ys R hv;have hc:s.wh.length<=1000000:=hc;have ED:=R.nx;obtain⟨E1,hle,R1⟩:=zEg [0] R;have R1:Rel k L E1 (El s) w:=R1;have NP:(El s).get 0=ax (.cells [sV s.p.code,.own 3,zB s.p.tick,zB s.p.low,zB s.p.high,zB s.p.wide,zB s.p.gw,zB s.p.top,zB s.p.least,zB s.p.part,.own 4,.own 1,.mp 2] 210):=rfl;have B5:((El s).del 0).get 2=ax (.map (z5 s.wh)):=rfl;have Ra:=(R1.take NP).take B5;have H0:Hp k w (iu E1 (2,.map (z5 s.wh))::iu E1 (0,.cells [sV s.p.code,.own 3,zB s.p.tick,zB s.p.low,zB s.p.high,zB s.p.wide,zB s.p.gw,zB s.p.top,zB s.p.least,zB s.p.part,.own 4,.own 1,.mp 2] 210)::((((El s).del 0).del 2).rows.map (iu E1)++fz E1.F::L)):=
  Ra.out.perm (.cons _ (((bg _ _ _).append_left _).trans ni))
 generalize BJ:(((El s).del 0).del 2).rows.map (iu E1)++fz E1.F::L=rest at H0;obtain⟨hk,hs,hh⟩:=H0;cases hh with
 |cons ha jb Hb hr=>
 cases hr with
 |cons ha0 SS aaR G8=>
 rcases ha with⟨e,_⟩|⟨AG,t2,r2⟩
 ·cases e
 rcases ha0 with⟨e,_⟩|⟨hd0,t0,r0⟩
 ·cases e
 simp only[gg]at r2 r0;obtain⟨bm,gn,ck,q1,q2,q3,rfl⟩:=r2;obtain⟨b,l,p1,p2,rfl⟩:=r0;have H:Hp k w (pt bm (.map gn.toArray ck)::pt b (.cells l.toArray 210)::rest):=⟨hk,_,.cons rfl jb Hb (.cons rfl SS aaR G8)⟩
 have aaI:l[12]? =ax (.map (ax bm)):=by
  simp only[im,VR]at p2;obtain⟨_,_,rfl,-,_,_,rfl,-,_,_,rfl,-,_,_,rfl,-,_,_,rfl,-,_,_,rfl,-,_,_,rfl,-,_,_,rfl,-,_,_,rfl,-,_,_,rfl,-,_,_,rfl,-,_,_,rfl,-,y,_,rfl,⟨bb,sub,g1,rfl⟩,rfl⟩:=p2;rw[t2]at g1;cases g1;cases q1;rfl
 have G6:ys=[.pointer (ax ⟨b,0,ay⟩)]:=by
  simp only[zd,im,VR]at hv;obtain⟨y,_,rfl,⟨b',oo,sub,g1,rfl⟩,rfl⟩:=hv;rw[hle.get g1]at t0;cases t0;cases p1;rfl
 subst G6;have FK:=yEa q2;have hlen:gn.length=s.wh.length:=by simpa using congrArg be FK
 have xq:=yHj H (λw' H'=>⟨(H'.swap).get,H'.get⟩) aaI q3.2 q3.1 (λe he=>by
  have:e.key∈gn.map (·.key):=pn (f:=(·.key)) he
  rw[FK]at this;obtain⟨p,_,hp⟩:=oe.1 this;exact⟨p.1,hp.symm⟩) oM
 have hdo:=nO (P:=Tryz.prog) (f:=193) (args:= #[.pointer (ax ⟨b,0,ay⟩)]) (w:=w) (K:=λv w'=>z7b k (pt bm (.map gn.toArray ck)::pt b (.cells l.toArray 210)::rest) gn (.returned v) w') (by kernel_rfl) (xq.mono λe w' h=>by
  have h2:=h;obtain⟨a,n,c,xs,dn,rfl,-⟩:=h2;exact⟨_,rfl,h⟩)
 refine hdo.mono ?_;rintro v w' ⟨a,n,c,xs,dn,Fi,rfl,rfl,SY,H2⟩;cases Fi;obtain⟨li,e1,e2⟩:=yGp (xs:=dn.map (·.key)) (m:=s.wh.map (·.1)) (by
  have:=SY.map (·.key)
  rw[FK]at this;rwa [xi])
 have Ss:dn.length=li.length:=by simpa using congrArg be e1
 rw[e1,Ss]at H2;rw[Ss];have H3:Hp k w' (oA 2 1 a li.length c (li.map λn=>ao .i64 n)::((El s).rows.map (iu E1)++fz E1.F::L)):=by
  have h1:Hp k w' (iu E1 (2,.map (z5 s.wh))::iu E1 (0,.cells [sV s.p.code,.own 3,zB s.p.tick,zB s.p.low,zB s.p.high,zB s.p.wide,zB s.p.gw,zB s.p.top,zB s.p.least,zB s.p.part,.own 4,.own 1,.mp 2] 210)::oA 2 1 a li.length c (li.map λn=>ao .i64 n)::rest):=by
   have g0:Hp k w' (pt bm (.map gn.toArray ck)::pt b (.cells l.toArray 210)::oA 2 1 a li.length c (li.map λn=>ao .i64 n)::rest):=
    H2.perm ((bg _ _ _).trans (.cons _ (.swap _ _ _)))
   have g1:=g0.imp (B:=iu E1 (2,.map (z5 s.wh))) λx hx=> .inr ⟨AG,t2,by simp only[gg];exact⟨bm,gn,ck,q1,q2,q3,hx⟩⟩
   have g2:=(g1.swap).imp (B:=iu E1 (0,.cells [sV s.p.code,.own 3,zB s.p.tick,zB s.p.low,zB s.p.high,zB s.p.wide,zB s.p.gw,zB s.p.top,zB s.p.least,zB s.p.part,.own 4,.own 1,.mp 2] 210)) λx hx=> .inr ⟨hd0,t0,by simp only[gg];exact⟨b,l,p1,p2,hx⟩⟩
   exact g2.swap
  subst BJ;refine h1.perm ?_;have p0:=((uG NP).1.map (iu E1))
  have p2:=((uG B5).1.map (iu E1))
  have p3:=(p0.trans (p2.cons _)).append_right (fz E1.F::L);refine List.Perm.trans ?_ (p3.symm.cons _);exact(bg _ _ _).trans ((bo _ (.swap _ _ _)).trans (.swap _ _ _))
 have uw:E1.le ⟨E1.F,E1.gu++[((.slice a li.length c,[]):Hd)]⟩:=Ev.le.app _;have kj:(E1.gu++[((.slice a li.length c,[]):Hd)])[(El s).nx]? =ax (.slice a li.length c,[]):=by rw[<- R1.nx];simp
 have R2:Rel k L ⟨E1.F,E1.gu++[((.slice a li.length c,[]):Hd)]⟩ ((El s).new (.own 2 1 (iE li))) w':=by
  refine⟨by simp[St.new,R1.nx],?_⟩;have g1:Hp k w' ((El s).rows.map (iu E1)++(oA 2 1 a li.length c (li.map λn=>ao .i64 n)::fz E1.F::L)):=H3.perm (ni (l₁:=(El s).rows.map (iu E1))).symm;have g2:=vD (λr x=>iu.mono uw r) g1;have g3:Hp k w' (oA 2 1 a li.length c (li.map λn=>ao .i64 n)::((El s).rows.map (iu ⟨E1.F,E1.gu++[((.slice a li.length c,[]):Hd)]⟩)++fz E1.F::L)):=g2.perm ni;exact g3.imp λx hx=> .inr ⟨_,kj,by
   simp only[gg];exact⟨a,c,_,by rw[yW],yDb _ li,λel qf=>by obtain⟨n,_,rfl⟩:=oe.1 qf;rfl,by rw[yW];exact hx⟩⟩
 obtain⟨al,ha,CC⟩:=Uz (yTl s li e2);obtain⟨o,o1,E3,o2,o3,o4⟩:=Xd CC ED (hle.trans uw) R2 (y:= .slice a li.length c) (by simp only[VR];exact⟨_,kj,_,_,_,rfl⟩);exact⟨al,ha,o,o1,E3,o2,o3,o4⟩
structure D3 where
 m:iO
 p:fj
 B:List (List zE)
 U:List Int
@[reducible] def D3.ok (i:D3):Prop:=i.m.fy i.p i.B i.U/\jo i.p i.B
def SO:gx where
 ι:=D3
 pat:=λ_=>[.nm 0 0]
 pre:=λi=>[kF i.m]
 du:=λi=>i.ok
 alts:=λi=>[{o:=List Int,res:=λ_=> .own 1,post:=λl=>[kF i.m,.own 2 1 (iE l)],rel:=λl=>l.Perm ((su 0 i.B).map (·.1))}]
def At:gx:=Tx 2
def Mf:gx:=gh D3 (λ_=>[.nm 0 0]) (λi=>[kF i.m]) (λi=>i.ok) (λ_=> .nm 1 0) (λi=>[kF i.m,kF i.m])
structure Gt where
 m:iO
 W:List (Int×Int)
def xP (W:List (Int×Int)):List (aq×List D):=W.map λx=>(.int .i64 x.1,[.v (.int .i64 x.2)])
def GtU (g:Gt):Nat->fw
 |0=> .cells [.nm 1 0,.mp 2] 134
 |1=>kF g.m
 |2=> .map (xP g.W)
 |_=> .gone
def nk (g:Gt):fw:= .sv Gt 3 GtU g
def kG (o:Int×fy):List D:= .v (.int .i64 o.1)::yX o.2
@[reducible] def Mw:Nat:=51
@[reducible] def I1 (O:List (Int×fy)):fw:= .own Mw 9 (O.map kG)
def SM:gx where
 ι:=fj
 pat:=λp=>[oa p]
 pre:=λ_=>[]
 du:=λp=>p.small
 alts:=λp=>[{o:=Unit,res:=λ_=> .jm [.nm 0 0,zB 0],post:=λ_=>[nk ⟨⟨p,nD p,[]⟩,[]⟩],rel:=λ_=>p.check=0},{o:=Unit,res:=λ_=> .jm [.d (.v (.pointer ay)),zB p.check],post:=λ_=>[],rel:=λ_=>p.check≠0}]
structure Lx where
 s:Int
 id:Int
 oD:Int
def Ta:gx:=gh Lx (λi=>[zB i.s,zB i.id,zB i.oD]) (λ_=>[]) (λ_=>True) (λ_=> .own 0) (λi=>[I1 [(i.s,⟨2,i.id,0,0,0,0,0,i.oD⟩)]])
structure wm where
 s:Int
 b:List UInt8
def zS (s:Int) (b:List UInt8):ir×Int:=if s<0\/8<=s then(Hl,1)else xS b
def Mj:gx:=gh wm (λi=>[zB i.s,ru 1 (bE i.b)]) (λ_=>[]) (λi=>i.b.length<=1099511627776) (λi=> .jm [CP (zS i.s i.b).1,zB (zS i.s i.b).2]) (λ_=>[])
structure Df where
 g:Gt
 p:fj
 B:List (List zE)
 U:List Int
 s:Int
@[reducible] def Df.ok (i:Df):Prop:=i.g.m.fy i.p i.B i.U/\jo i.p i.B
def Mk:gx:=gh Df (λi=>[.nm 0 0,zB i.s]) (λi=>[nk i.g]) (λi=>i.ok) (λi=>zB (IS i.B i.g.W i.s)) (λi=>[nk i.g])
def W9 (g:Gt):List fw:=[.cells [.nm 1 0,.mp 2] 134,kF g.m,.map (xP g.W)]
def IE:gx:=gh Df (λi=>[.nm 0 0,zB i.s]) (λi=>W9 i.g) (λi=>i.ok) (λi=>zB (IS i.B i.g.W i.s)) (λi=>W9 i.g)
def y3g:List ib:=[{ι:=Int×Nat,dv:=λj=>[(5,zB j.1),(14,zB j.2)],rows:=λ_=>[]}]
def Kf:gx:=gh Df (λ_=>[.nm 0 0]) (λi=>[nk i.g]) (λi=>i.ok) (λ_=> .nm 1 0) (λi=>[nk i.g,kF i.g.m])
structure Dg where
 g:Gt
 p:fj
 B:List (List zE)
 U:List Int
 s:Int
 b:List UInt8
 X:Rz
def Sn:gx where
 ι:=Dg
 pat:=λi=>[.nm 0 0,zB i.s,ru 1 (bE i.b)]
 pre:=λi=>[nk i.g]
 du:=λi=>(i.g.m.fy i.p i.B i.U/\jo i.p i.B)/\i.b.length<=1099511627776/\i.X=wE i.p i.B i.U i.g.W i.s i.b
 alts:=λi=>[{o:=iO,res:=λ_=> .own 1,post:=λo=>[nk ⟨o,i.X.W⟩,I1 i.X.O],rel:=λo=>o.fy i.p i.X.B i.X.U}]
structure Ba where
 o:iO
 W:List (Int×Int)
 O:List (Int×fy)
 k:Nat
def Ba.rows (j:Ba):List fw:=[.cells [.nm 1 0,.mp 2] 134,kF j.o,.map (xP j.W),I1 j.O]
def xAg:List ib:=[{ι:=Ba,dv:=λj=>[(0,.nm 0 0),(11,.own 3),(74,zB j.k)],rows:=Ba.rows}]
def xBh:List (Nat×ib):=[(20,bj 36),(28,bj 50),(66,ij 14)]
def yNu (es:List (aq×List D)):Prop:=
 ∃(a:List (aq×List D)),a=es/\True/\fp (ez (es=a/\es=a/\True))
def y5g (es:List (aq×List D)):yNu es=walk Tryz.prog ([(174,vQ 135)]) 0 ([]) ([]) [] Tryz.f125 (Tryz.f125.body.getD .skip) (At.pat es) (At.pre es) (At.alts es):=by kernel_rfl
def y3j (hG:Bs Tryz.prog ([(174,vQ 135)])) (h:∀(es:List (aq×List D)),At.du es->yNu es):At.ok Tryz.prog 125:=vV mixed ([(174,vQ 135)]) hG 0 (λ(es:List (aq×List D))=>[]) (λ(es:List (aq×List D))=>[]) [] Tryz.func125 (by kernel_rfl) (by kernel_rfl) (by kernel_rfl) (λ_=>by kernel_rfl) (λ(es:List (aq×List D)) hc=>Eq.mp (y5g es) (h es hc))
def y7f (i:D3):Prop:=
 ∃(iC:ia),zD iC=zD i.m.s/\iC.wh.length<=1000000/\∀(o:List Int),o.Perm (ba (λ(x:Int×Int) ↦ x.fst) iC.wh)->∃(Bi:List Int),dm (sb i.m.p.code)/\dm i.m.p.tick/\dm i.m.p.low/\dm i.m.p.high/\dm i.m.p.wide/\dm i.m.p.gw/\dm i.m.p.top/\dm i.m.p.least/\dm i.m.p.part/\zD i.m.s=zD iC/\dm (zZ i.m.used)/\dm (ac 1 (iE i.m.p.dr))/\dm (ac 1 (iE i.m.p.settle))/\iE Bi=iE o/\Bi.Perm (ba (λ(x:Int×Int) ↦ x.fst) (su 0 i.B))
def y4s (i:D3):Prop:=
 ∃(iC:ia),zD iC=zD i.m.s/\(iC.fc.length<=1000000/\∀(b:dt),b∈iC.fc->(b.a.dv.length<=1000000/\b.a.dy.length<=1000000)/\b.fv.length<=1000000/\b.ff.length<=1000000/\b.spare.length<=1000000)/\∀(o:Unit),True->True/\(dm (sb i.m.p.code)/\True/\dm i.m.p.tick/\dm i.m.p.low/\dm i.m.p.high/\dm i.m.p.wide/\dm i.m.p.gw/\dm i.m.p.top/\dm i.m.p.least/\dm i.m.p.part/\True/\True)/\∃(oy:List (aq×List D)),oy=zZ i.m.used/\True/\∀(o:Unit),True->(dm (sb i.m.p.code)/\True/\dm i.m.p.tick/\dm i.m.p.low/\dm i.m.p.high/\dm i.m.p.wide/\dm i.m.p.gw/\dm i.m.p.top/\dm i.m.p.least/\dm i.m.p.part/\True/\True)/\∃(o:Unit),dm (sb i.m.p.code)/\dm i.m.p.tick/\dm i.m.p.low/\dm i.m.p.high/\dm i.m.p.wide/\dm i.m.p.gw/\dm i.m.p.top/\dm i.m.p.least/\dm i.m.p.part/\zD i.m.s=zD iC/\zZ i.m.used=oy/\dm (ac 1 (iE i.m.p.dr))/\dm (ac 1 (iE i.m.p.settle))/\dm (sb i.m.p.code)/\dm i.m.p.tick/\dm i.m.p.low/\dm i.m.p.high/\dm i.m.p.wide/\dm i.m.p.gw/\dm i.m.p.top/\dm i.m.p.least/\dm i.m.p.part/\zD i.m.s=zD iC/\zZ i.m.used=oy/\dm (ac 1 (iE i.m.p.dr))/\dm (ac 1 (iE i.m.p.settle))/\True
def y6g (p:fj):Prop:=
 ∃(i:fj),sb i.code=sb p.code/\iE i.dr=iE p.dr/\i.tick=p.tick/\i.low=p.low/\i.high=p.high/\i.wide=p.wide/\i.gw=p.gw/\i.top=p.top/\i.least=p.least/\i.part=p.part/\iE i.settle=iE p.settle/\(i.code.length<=1099511627776/\i.dr.length<=1099511627776/\i.settle.length<=1099511627776)/\(∀(o:Unit),i.check=0->(∃(o:Unit),dm ((0:Int))/\ae iO 5 yN (iO.mk p (nD p) [])=ae iO 5 yN (iO.mk i (nD i) [])/\xP []=[]/\p.check=0)\/(∃(o:Unit),False))/\∀(o:Unit),i.check≠0->du (i.check !=0) ((∃(o:Unit),False)\/(∃(o:Unit),True/\p.check=i.check/\(p.check=0->False))) ((∃(o:Unit),dm ((0:Int))/\False)\/(∃(o:Unit),False))
def y9w (i:Lx):Prop:=
 ∃(o:Unit),[kG (i.s,fy.mk 2 i.id 0 0 0 0 0 i.oD)]=[[D.v (.int .i64 i.s),D.v (.int .i64 2),D.v (.int .i64 i.id),D.v (.int .i64 0),D.v (.int .i64 0),D.v (.int .i64 0),D.v (.int .i64 0),D.v (.int .i64 0),D.v (.int .i64 i.oD)]]/\True
def y0h (i:wm):Prop:=
 du (decide (i.s<0)) (∃(o:Unit),(zS i.s i.b).fst.kind=0/\(zS i.s i.b).fst.id=0/\(zS i.s i.b).fst.inst=0/\(zS i.s i.b).fst.side=0/\(zS i.s i.b).fst.dp=0/\(zS i.s i.b).fst.dq=0/\(zS i.s i.b).fst.least=0/\(zS i.s i.b).fst.time=0/\sb (zS i.s i.b).fst.label=ByteArray.mk #[]/\(zS i.s i.b).snd=1/\True) (du (decide (i.s>=8)) (∃(o:Unit),(zS i.s i.b).fst.kind=0/\(zS i.s i.b).fst.id=0/\(zS i.s i.b).fst.inst=0/\(zS i.s i.b).fst.side=0/\(zS i.s i.b).fst.dp=0/\(zS i.s i.b).fst.dq=0/\(zS i.s i.b).fst.least=0/\(zS i.s i.b).fst.time=0/\sb (zS i.s i.b).fst.label=ByteArray.mk #[]/\(zS i.s i.b).snd=1/\True) (∃(iC:List UInt8),bE iC=bE i.b/\iC.length<=1099511627776/\∀(o:Unit),True->∃(o:Unit),(zS i.s i.b).fst.kind=(xS iC).fst.kind/\(zS i.s i.b).fst.id=(xS iC).fst.id/\(zS i.s i.b).fst.inst=(xS iC).fst.inst/\(zS i.s i.b).fst.side=(xS iC).fst.side/\(zS i.s i.b).fst.dp=(xS iC).fst.dp/\(zS i.s i.b).fst.dq=(xS iC).fst.dq/\(zS i.s i.b).fst.least=(xS iC).fst.least/\(zS i.s i.b).fst.time=(xS iC).fst.time/\sb (zS i.s i.b).fst.label=sb (xS iC).fst.label/\(zS i.s i.b).snd=(xS iC).snd/\True))
def zFf (a:Int×Nat) (b:Int×Nat) (c:Int×Nat->Prop) (d:Int×Nat->Nat) (e:D3) (f:List Int) (g:Df):Prop:=(↑a.snd:Int)=aj.wrap ((↑b.snd:Int)+1)/\c a/\d a<d b/\dm (kF e.m)/\dm (af 2 1 (iE f))/\dm (aa [V.nm 1 0,V.mp 2] (134:ar))/\dm (ab (xP g.g.W))
def yKj (i:Df):Prop:=
 ∃(a:D3),kF a.m=kF i.g.m/\(a.m.fy a.p a.B a.U/\jo a.p a.B)/\∀(b:List Int),b.Perm (ba (λ(x:Int×Int) ↦ x.fst) (su 0 a.B))->∃(c:Int×Nat),c.fst=0/\(↑c.snd:Int)=0/\∃(d:Int×Nat->Prop),∃(e:Int×Nat->Nat),d c/\∀(f:Int×Nat),d f->du (decide ((↑f.snd:Int)<(↑(iE b).length:Int))) ((0<=(↑f.snd:Int)/\(↑f.snd:Int)<(↑(iE b).length:Int))/\∃(g:Int),zF (iE b) (↑f.snd:Int).toNat 0 1=ax [dI g]/\(∀(h:aq×List D),h∈xP i.g.W->kr (ao aj g) h.fst=av)/\∃(h:Bool),∃(j:Int),(kH (ao aj g) (xP i.g.W)=ax [dI j]/\h=av\/kH (ao aj g) (xP i.g.W)=ay/\[dI j]=[dI 0]/\h=aw)/\du (j==i.s) (∃(k:Int×Nat),k.fst=aj.wrap (f.fst+1)/\zFf k f d e a b i) (∃(k:Int×Nat),k.fst=f.fst/\zFf k f d e a b i)) (ez ((↑(IS i.B i.g.W i.s):Int)=f.fst/\kF i.g.m=kF a.m/\dm (xP i.g.W)/\True))
def yTz (i:Df):Prop:=
 ∃(iC:D3),ae iO 5 yN iC.m=kF i.g.m/\(iC.m.fy iC.p iC.B iC.U/\jo iC.p iC.B)/\∀(o:List Int),o.Perm (ba (λ(x:Int×Int) ↦ x.fst) (su 0 iC.B))->∃(i0:Int×Nat),i0.fst=0/\(↑i0.snd:Int)=0/\∃(I:Int×Nat->Prop),∃(μ:Int×Nat->Nat),I i0/\∀(oy:Int×Nat),I oy->du (decide ((↑oy.snd:Int)<(↑(iE o).length:Int))) ((0<=(↑oy.snd:Int)/\(↑oy.snd:Int)<(↑(iE o).length:Int))/\∃(n:Int),zF (iE o) (↑oy.snd:Int).toNat 0 1=ax [D.v (.int .i64 n)]/\(∀(p:aq×List D),p∈xP i.g.W->kr (ao aj n) p.fst=av)/\∃(b:Bool),∃(HG:Int),(kH (ao aj n) (xP i.g.W)=ax [D.v (.int .i64 HG)]/\b=av\/kH (ao aj n) (xP i.g.W)=ay/\[D.v (.int .i64 HG)]=[D.v (.int .i64 0)]/\b=aw)/\du (HG==i.s) (∃(i':Int×Nat),i'.fst=aj.wrap (oy.fst+1)/\(↑i'.snd:Int)=aj.wrap ((↑oy.snd:Int)+1)/\I i'/\μ i'<μ oy/\dm (ae iO 5 yN iC.m)/\dm (af 2 1 (iE o))/\dm (aa [V.nm 1 0,V.mp 2] (134:ar))/\dm (ab (xP i.g.W))) (∃(i':Int×Nat),i'.fst=oy.fst/\(↑i'.snd:Int)=aj.wrap ((↑oy.snd:Int)+1)/\I i'/\μ i'<μ oy/\dm (ae iO 5 yN iC.m)/\dm (af 2 1 (iE o))/\dm (aa [V.nm 1 0,V.mp 2] (134:ar))/\dm (ab (xP i.g.W)))) (∃(o:Unit),(↑(IS i.B i.g.W i.s):Int)=oy.fst/\ae iO 5 yN i.g.m=ae iO 5 yN iC.m/\dm (xP i.g.W)/\True)
def y8e (i:Df):Prop:=
 ∃(iC:D3),ae iO 5 yN iC.m=ae iO 5 yN i.g.m/\(iC.m.fy iC.p iC.B iC.U/\jo iC.p iC.B)/\∀(o:Unit),True->∃(o:Unit),ae iO 5 yN i.g.m=ae iO 5 yN iC.m/\dm (xP i.g.W)/\ae iO 5 yN i.g.m=ae iO 5 yN iC.m/\True
def Vo (a:Int) (b:Dg) (c:Ba):=(jI (ao aj a) [dI b.s] (xP c.W))
def pD (a:wm):=(D.v (Value.string (sb (zS a.s a.b).fst.label)))
def nX (a:wm):=(dI ((zS a.s a.b).fst.dp))
def mZ (a:wm):=(dI ((zS a.s a.b).fst.least))
def nR (a:wm):=(dI ((zS a.s a.b).fst.time))
def pC (a:wm):=(dI ((zS a.s a.b).fst.side))
def nI (a:wm):=(dI ((zS a.s a.b).fst.kind))
def pB (a:wm):=(dI ((zS a.s a.b).fst.inst))
def nF (a:wm):=(dI ((zS a.s a.b).fst.dq))
def nT (a:wm):=(dI ((zS a.s a.b).fst.id))
def z0p (a:rm) (b:wm):Prop:=af K3 8 (ba yX a.X.R)=af K3 8 (ba yX a.X.R)/\dm (aa [V.d (nI b),V.d (nT b),V.d (pB b),V.d (pC b),V.d (nX b),V.d (nF b),V.d (mZ b),V.d (nR b),V.d (pD b)] 46)
def z1d (a:Ba) (b:rm) (c:wm):Prop:=af Mw 9 (ba kG a.O)=af Mw 9 (ba kG a.O)/\z0p b c
def Xk (a:Int->Prop) (b:Int) (c:Int) (d:Int) (e:Int) (f:Int) (g:Int) (h:Int) (j:Int) (k:Int) (l:Ba) (m:Dg) (n:rm) (p:wm):Prop:=a b/\dm (aa [V.d (dI c),V.d (dI d),V.d (dI e),V.d (dI f),V.d (dI g),V.d (dI h),V.d (dI j),V.d (dI k)] 49)/\dm (aa [V.nm 1 0,V.mp 2] (134:ar))/\dm (kF l.o)/\dm (ab (Vo d m l))/\z1d l n p
def z0i (a:Int->Prop) (b:Int) (c:Int) (d:Int) (e:Int) (f:Int) (g:Int) (h:Int) (j:Int) (k:Int) (l:Ba) (m:rm) (n:wm):Prop:=a b/\dm (aa [V.d (dI c),V.d (dI d),V.d (dI e),V.d (dI f),V.d (dI g),V.d (dI h),V.d (dI j),V.d (dI k)] 49)/\dm (aa [V.nm 1 0,V.mp 2] (134:ar))/\dm (kF l.o)/\dm (ab (xP l.W))/\z1d l m n
def z1m (a:Ba) (b:Ba) (c:Int) (d:Int) (e:Int) (f:Int) (g:Int) (h:Int) (j:Int) (k:Int) (l:Int) (m:Ba->Prop) (n:Ba->Nat) (p:rm) (q:wm):Prop:=ba kG a.O=ba kG b.O++[[dI c,dI d,dI e,dI f,dI g,dI h,dI j,dI k,dI l]]/\m a/\n a<n b/\z0p p q
@[reducible] def QM (a:Bool->Prop)(b:Bool)(c:wm)(R:Prop):Prop:=a b/\aa [V.d (nI c),V.d (nT c),V.d (pB c),V.d (pC c),V.d (nX c),V.d (nF c),V.d (mZ c),V.d (nR c),V.d (pD c)] 46=aa [V.d (nI c),V.d (nT c),V.d (pB c),V.d (pC c),V.d (nX c),V.d (nF c),V.d (mZ c),V.d (nR c),V.d (pD c)] 46/\aa [V.nm 1 0,V.mp 2] (134:ar)=aa [V.nm 1 0,V.mp 2] (134:ar)/\R
def TN (a:Bool->Prop) (b:Bool) (c:wm) (d:Dg):Prop:=QM a b c (dm (kF d.g.m)/\dm (ab (xP d.g.W)))
def z1f (a:Bool->Prop) (b:wm) (c:Dg):Prop:=∃(d:Bool),d=aw/\TN a d b c
def T7 (a:Dg) (b:Lx):Prop:=True/\fp (∃(d:iO),kF d=kF a.g.m/\xP a.X.W=xP a.g.W/\ba kG a.X.O=[kG (b.s,fy.mk 2 b.id 0 0 0 0 0 b.oD)]/\d.fy a.p a.X.B a.X.U)
def T8 (a:wm):=(ao aj (zS a.s a.b).fst.id)
def y5u (i:Dg):Prop:=
 ∃(a:wm),a.s=i.s/\bE a.b=bE i.b/\a.b.length<=1099511627776/\fp (du ((zS a.s a.b).snd !=0) (∃(c:Lx),c.s=i.s/\c.id=0/\c.oD=(zS a.s a.b).snd/\T7 i c) ((∀(c:aq×List D),c∈xP i.g.W->kr (T8 a) c.fst=av)/\∃(c:Bool),∃(d:Int),(kH (T8 a) (xP i.g.W)=ax [dI d]/\c=av\/kH (T8 a) (xP i.g.W)=ay/\[dI d]=[dI 0]/\c=aw)/\∃(e:Bool),∃(f:Bool->Prop),du ((zS a.s a.b).fst.kind==1) (∃(g:Df),g.s=i.s/\kF g.g.m=kF i.g.m/\xP g.g.W=xP i.g.W/\(g.g.m.fy g.p g.B g.U/\jo g.p g.B)/\fp (∃(j:Bool),j=decide ((↑(IS g.B g.g.W g.s):Int)>=64)/\QM f j a (kF g.g.m=kF i.g.m/\ab (xP g.g.W)=ab (xP i.g.W)))) (z1f f a i)/\∀(g:Bool),f g->du g (∃(h:Lx),h.s=i.s/\h.id=(zS a.s a.b).fst.id/\h.oD=30/\T7 i h) (∃(h:Bool),∃(j:Bool->Prop),du ((zS a.s a.b).fst.kind !=1) (du (!c) (∃(k:Bool),k=av/\TN j k a i) (∃(k:Bool),k=(d !=i.s)/\TN j k a i)) (z1f j a i)/\∀(k:Bool),j k->du k (∃(l:Lx),l.s=i.s/\l.id=(zS a.s a.b).fst.id/\l.oD=26/\T7 i l) (∃(l:rm),l.c.kind=(zS a.s a.b).fst.kind/\l.c.id=(zS a.s a.b).fst.id/\l.c.inst=(zS a.s a.b).fst.inst/\l.c.side=(zS a.s a.b).fst.side/\l.c.dp=(zS a.s a.b).fst.dp/\l.c.dq=(zS a.s a.b).fst.dq/\l.c.least=(zS a.s a.b).fst.least/\l.c.time=(zS a.s a.b).fst.time/\sb l.c.label=sb (zS a.s a.b).fst.label/\kF l.m=kF i.g.m/\((l.m.fy l.p l.B l.U/\jo l.p l.B)/\l.c.label.length<=140737488355328/\((-9223372036854775808)<=l.c.dq/\l.c.dq<=9223372036854775807)/\l.X=tx l.p l.B l.U l.c)/\∀(m:iO),m.fy l.p l.X.B l.X.U->∃(n:Ba),(↑n.k:Int)=0/\kF n.o=kF m/\xP n.W=xP i.g.W/\ba kG n.O=[]/\∃(p:Ba->Prop),∃(q:Ba->Nat),p n/\∀(r:Ba),p r->du (decide ((↑r.k:Int)<(↑(ba yX l.X.R).length:Int))) ((0<=(↑r.k:Int)/\(↑r.k:Int)<(↑(ba yX l.X.R).length:Int))/\∃(s:Int),∃(t:Int),∃(u:Int),∃(v:Int),∃(w:Int),∃(x:Int),∃(y:Int),∃(z:Int),zF (ba yX l.X.R) (↑r.k:Int).toNat 0 8=ax [dI s,dI t,dI u,dI v,dI w,dI x,dI y,dI z]/\du (s==1) ((∀(ma:aq×List D),ma∈xP r.W->kr (ao aj t) ma.fst=av)/\(∀(ma:aq×List D),ma∈jI (ao aj t) [dI i.s] (xP r.W)->kr (ao aj t) ma.fst=av)/\∃(ma:Bool),∃(sc:Int),(kH (ao aj t) (Vo t i r)=ax [dI sc]/\ma=av\/kH (ao aj t) (Vo t i r)=ay/\[dI sc]=[dI 0]/\ma=aw)/\∃(lh:Int),∃(wk:Int->Prop),du (s==2) (∃(iX:Int),iX=i.s/\Xk wk iX s t u v w x y z r i l a) (∃(iX:Int),iX=sc/\Xk wk iX s t u v w x y z r i l a)/\∀(iX:Int),wk iX->((ba kG r.O).length+1)*(72:Nat)<=(140737488355328:Nat)/\∃(xa:Ba),(↑xa.k:Int)=aj.wrap ((↑r.k:Int)+1)/\kF xa.o=kF r.o/\xP xa.W=jI (ao aj t) [dI i.s] (xP r.W)/\z1m xa r iX s t u v w x y z p q l a) ((∀(ma:aq×List D),ma∈xP r.W->kr (ao aj t) ma.fst=av)/\∃(ma:Bool),∃(sc:Int),(kH (ao aj t) (xP r.W)=ax [dI sc]/\ma=av\/kH (ao aj t) (xP r.W)=ay/\[dI sc]=[dI 0]/\ma=aw)/\∃(lh:Int),∃(wk:Int->Prop),du (s==2) (∃(iX:Int),iX=i.s/\z0i wk iX s t u v w x y z r l a) (∃(iX:Int),iX=sc/\z0i wk iX s t u v w x y z r l a)/\∀(iX:Int),wk iX->((ba kG r.O).length+1)*(72:Nat)<=(140737488355328:Nat)/\∃(xa:Ba),(↑xa.k:Int)=aj.wrap ((↑r.k:Int)+1)/\kF xa.o=kF r.o/\xP xa.W=xP r.W/\z1m xa r iX s t u v w x y z p q l a)) (∃(s:iO),kF s=kF r.o/\xP i.X.W=xP r.W/\ba kG i.X.O=ba kG r.O/\s.fy i.p i.X.B i.X.U)))))
def yRw:At.ok Tryz.prog 125:=y3j (dz (UW _) fx) λes _=>by
 unfold yNu fp ez;refine⟨es,?_⟩;exact kp
def y1z {s:ia} {p:fj} {B:List (List zE)} (h:s.fy p B):s.wh.length=GJ B:=by rw[GJ];exact h.wh.length_eq
def z7r:∀{B:List (List zE)} (n:Nat),(∀L∈B,L.length<=250)->(su n B).length<=250*B.length
 |[],_,_=>mg _
 |L::B,n,h=>by
  have:=z7r (B:=B) (n+1) λx hx=>h x (jx _ hx)
  have:=h L jg;rw[su,iQ,iz,iY];omega
def yRv:SO.ok Tryz.prog 157:=ix (V:=y7f) mixed (dz yOt fx) 0 (λ_=>[]) (λ_=>[]) [0] Tryz.func157 λ(i:D3) h=>by
 obtain⟨⟨ep,hR,eu⟩,hB⟩:i.m.fy i.p i.B i.U/\jo i.p i.B:=h;have hl:i.m.s.wh.length<=1000000:=by
  have zt:=hR.wf hB;have h1:=z7r (B:=i.B) 0 λL hL=>by
   obtain⟨k,hk⟩:=AB.1 hL;exact(zt.od k L hk).2.2
  have:=hB.bl;have:=xQ i.p;rw[y1z hR,GJ];omega
 exact⟨i.m.s,rfl,hl,λo ho=>⟨o,iH (jh ⟨rfl,ic,rfl,ho.trans (hR.wh.map _)⟩)⟩⟩
def z4a:Mf.ok Tryz.prog 64:=ix (V:=y4s) mixed (dz OV (dz yRw fx)) 0 (λ_=>[]) (λ_=>[]) [0] Tryz.func64 λ(i:D3) h=>by
 obtain⟨⟨ep,hR,eu⟩,hB⟩:i.m.fy i.p i.B i.U/\jo i.p i.B:=h;have hs:=hR.small hB;exact⟨i.m.s,rfl,hs,λ_ _=>⟨trivial,ic,zZ i.m.used,rfl,trivial,λ_ _=>⟨ic,(),ic⟩⟩⟩
def ySs:SM.ok Tryz.prog 69:=ix (V:=y6g) mixed (dz yVo fx) 0 (λ_=>[]) (λ_=>[]) [] Tryz.func69 λ(p:fj) h=>by
 refine⟨p,rn (jh ⟨rfl,h,λ_ c=> .inl ⟨(),jh c⟩,λ_ c=>Cv.du.mk (λe=> .inr ⟨(),trivial,rfl,c⟩) (λe=>absurd (by simpa using e) c)⟩)⟩
def yVb:Ta.ok Tryz.prog 109:=ix (V:=y9w) mixed fx 0 (λ_=>[]) (λ_=>[]) [] Tryz.func109 λ(i:Lx) h=>⟨(),rfl,trivial⟩
def z3v:Mj.ok Tryz.prog 108:=ix (V:=y0h) mixed (dz yUt fx) 0 (λ_=>[]) (λ_=>[]) [] Tryz.func108 λ(i:wm) h=>by
 have h:i.b.length<=1099511627776:=h;have It:i.s<0\/8<=i.s->zS i.s i.b=(Hl,1):=λe=>fk e
 refine zI (λe=> ?_) (λe=>zI (λe2=> ?_) (λe2=> ?_))
 ·rw[It (.inl e)];exact⟨(),rn (jh trivial)⟩
 ·rw[It (.inr e2)];exact⟨(),rn (jh trivial)⟩
 ·have hg:zS i.s i.b=xS i.b:=dx oM;rw[hg];exact⟨i.b,rfl,h,λ_ _=>⟨(),rn (jh trivial)⟩⟩
def OO (id:Int) (W:List (Int×Int)):∀p∈xP W,kr (ao aj id) p.1=av:=by
 intro p hp;obtain⟨k,_,rfl⟩:=oe.1 hp;rfl
def z5z (id s:Int):∀W:List (Int×Int),jI (ao aj id) [D.v (.int .i64 s)] (xP W)=xP (I7 W id s)
 |[]=>rfl
 |x::W=>by
  have ih:=z5z id s W;have e:aZ (ao aj id) (ao aj x.1)=decide (id=x.1):=by simp[aZ,xw]
  show(bif aZ (ao aj id) (ao aj x.1)then(ao aj x.1,[D.v (.int .i64 s)])::xP W else(ao aj x.1,[D.v (.int .i64 x.2)])::jI (ao aj id) [D.v (.int .i64 s)] (xP W))=_;rw[e,ih,I7];by_cases c:id=x.1
  ·rw[kx c,cond_true,fk c];rfl
  ·rw[jq c,cond_false,dx c];rfl
def Oz (id:Int):∀W:List (Int×Int),kH (ao aj id) (xP W)=ax [D.v (.int .i64 (cH W id).1)]/\(cH W id).2=av\/kH (ao aj id) (xP W)=ay/\[D.v (.int .i64 (cH W id).1)]=[D.v (.int .i64 0)]/\(cH W id).2=aw
 |[]=> .inr ⟨rfl,rfl,rfl⟩
 |x::W=>by
  have ih:=Oz id W;have e:aZ (ao aj id) (ao aj x.1)=decide (id=x.1):=by simp[aZ,xw]
  have e2:kH (ao aj id) (xP (x::W))=bif aZ (ao aj id) (ao aj x.1)then ax [D.v (.int .i64 x.2)]else kH (ao aj id) (xP W):=rfl
  rw[e2,e,yLl];by_cases c:id=x.1
  ·rw[kx c,cond_true,fk c];exact .inl ⟨rfl,rfl⟩
  ·rw[jq c,cond_false,dx c];exact ih
def IF:Kf.ok Tryz.prog 16:=ix (V:=y8e) mixed (dz z4a fx) 0 (λ_=>[]) (λ_=>[]) [0] Tryz.func16 λ(i:Df) h=>⟨⟨i.g.m,i.p,i.B,i.U⟩,rfl,h,λ_ _=>⟨(),jh trivial⟩⟩
def yZq {l:List Int} {k:Nat} {n:Int} {f:Int->Bool} (h:l[k]? =ax n):(l.take (k+1)).countP f=(l.take k).countP f+if f n then 1 else 0:=by
 rw[tv,h,List.countP_append];simp[List.countP_cons]
def yLr (W:List (Int×Int)) (B:List (List zE)) (s:Int) (l:List Int) (h:l.Perm ((su 0 B).map (·.1))):(IS B W s:Int)=l.countP λx=>decide ((cH W x).1=s):=by
 rw[h.countP_eq,List.countP_map];rfl
def yIe {l:List Int} {W:List (Int×Int)} {s:Int} (hl:l.length<=1000000):∀{k:Nat} {n:Int},l[k]? =ax n->aj.wrap (((l.take k).countP λx=>decide ((cH W x).1=s):Nat)+1:Int)=((l.take k).countP λx=>decide ((cH W x).1=s):Nat)+1:=by
 intro k n h;have:=List.countP_le_length (p:=λx=>decide ((cH W x).1=s)) (l:=l.take k);rw[oK]at this;exact iD oM
def yVv {p:fj} {B:List (List zE)} (h:lu p B) {l:List Int} (hl:l.Perm ((su 0 B).map (·.1))):l.length<=1000000:=by
 have h1:=z7r (B:=B) 0 λL hL=>by
  obtain⟨k,hk⟩:=AB.1 hL;exact(h.od k L hk).2.2
 have:=h.ok.bl;have:=xQ p;have:=hl.length_eq;rw[iz]at this;omega
def y0a (i:Df) (h:Mk.du i):yKj i:=by
 obtain⟨⟨m,W⟩,p,B,U,s⟩:=i;have h:m.fy p B U/\jo p B:=h;unfold yKj ez zFf dI;dsimp only;refine⟨⟨m,p,B,U⟩,rfl,h,λl hl=> ?_⟩;have hle:=yVv (h.1.s.wf h.2) hl;refine⟨(0,0),rfl,rfl,λj=>j.2<=l.length/\j.1=((l.take j.2).countP λx=>decide ((cH W x).1=s):Nat),λj=>l.length-j.2,⟨oQ _,rfl⟩,?_⟩;rintro⟨n,k⟩ ⟨j1,j2⟩;dsimp only at j1 j2 ⊢;subst j2;refine zI (λe=> ?_) (λe=> ?_)
 ·rw[yW]at e;obtain⟨x,hx⟩:=z6 (l:=l) (i:=k) oM;have hc:=yZq (f:=λx=>decide ((cH W x).1=s)) hx;refine⟨⟨oM,by rw[yW];exact e⟩,x,kf hx (by simp) rfl,OO _ _,_,_,Oz x W,Cv.du.mk (λe2=>⟨(_,k+1),(yIe hle hx).symm,um oM,⟨Z9,?_⟩,Z9,ic⟩) (λe2=>⟨(_,k+1),rfl,um oM,⟨Z9,?_⟩,Z9,ic⟩)⟩
  ·have e2:(cH W x).1=s:=by simpa using e2
   dsimp only;rw[hc,kx e2];rfl
  ·have e2:¬(cH W x).1=s:=by simpa using e2
   dsimp only;rw[hc,jq e2];rfl
 ·rw[yW]at e;have hk:l.take k=l:=oV oM;rw[hk];exact⟨(),yLr W B s l hl,rfl,rfl,trivial⟩
def yHv:IE.ok Tryz.prog 110:=ix (V:=yTz) mixed (dz yRv fx) 0 (λ_=>[]) (λ_=>y3g) [] Tryz.func110 λ(i:Df) h=>y0a i h
def yFk {b:List UInt8} (h:(xS b).2=0):(xS b).1.right=0:=by
 rw[xS]at h ⊢;dsimp only at h ⊢;split at h
 ·cases h
 ·rename_i h1;rw[dx h1];split at h
  ·cases h
  ·rename_i h2;rw[dx h2];split at h
   ·rename_i h3;exact absurd h h3
   ·rename_i h3;rw[dx h3];simpa using h3
def X4 (n:Int):ie (aj.wrap n):=by
 rw[ak];simp only[IntKind.bits,am];simp;omega
def V7:ie 0:=⟨Z8,Z8⟩
def y3w (k id:Int) (r:RB):ie (qE k id r).1.dq:=by
 rw[qE];split
 ·exact X4 _
 split
 ·exact X4 _
 split
 ·exact X4 _
 ·exact V7
def yUu (b:List UInt8):ie (xS b).1.dq:=by
 rw[xS];dsimp only;split
 ·exact V7
 split
 ·exact V7
 split
 ·exact V7
 ·exact y3w _ _ _
def yBs {p:fj} {B:List (List zE)} (h:lu p B) (U:List Int) (c:ir):(tx p B U c).R.length<=1503000003:=by
 have wg:=h.ok.bl;have HM:∀w,(aW c w).length<=1503000003:=λw=>by simp[aW]
 rw[tx];split
 ·exact HM _
 rename_i hr;have hr:c.right=0:=by simpa using hr
 split
 ·rename_i hk;obtain⟨_,hq,_⟩:=UN hr hk;rw[bR];split
  ·exact HM _
  rename_i hp;have hp:p.dp c.inst c.dp=0:=by simpa using hp
  have qt:=XU hp;split
  ·exact HM _
  split
  ·exact HM _
  split
  ·exact HM _
  split
  ·exact HM _
  have:=zEk h U (c:=c) oM hq;omega
 rename_i hk;split
 ·exact HM _
 rename_i hf;have hf:(zW B c.id).2.2=av:=by simpa using hf
 have hf:zW B c.id=((zW B c.id).1,(zW B c.id).2.1,av):=by rw[<- hf]
 obtain⟨qt,_⟩:=z0w h hf;split
 ·rename_i h4;have hq:=mQ hr hk oM;rw[uB];split
  ·exact HM _
  split
  ·simp[uQ]
  split
  ·exact HM _
  have:=zEk (h.take c.id (zW B c.id).2.1.dq) U (c:=⟨1,c.id,(zW B c.id).1,(zW B c.id).2.1.side,c.dp,c.dq,0,1,[]⟩) (by dsimp only;rw[sW];exact qt) hq;dsimp only;rw[iQ];have e1:(jV B U c.id (zW B c.id).1 (zW B c.id).2.1).R.length=1:=rfl;have e2:(jV B U c.id (zW B c.id).1 (zW B c.id).2.1).B=(yZ B c.id (zW B c.id).2.1.dq).1:=rfl;rw[e1,e2];omega
 split
 ·simp[jV]
 ·simp[uQ]
def ySc {b:List UInt8} (h:b.length<=1099511627776):(xS b).1.label.length<=255:=by
 have h0:(RB.mk b aw).ok:=h;rw[xS];dsimp only;split
 ·exact oQ _
 split
 ·exact oQ _
 split
 ·exact oQ _
 ·exact(yZg (fU (pL h0))).2
def zVl (p:fj) (B:List (List zE)) (U:List Int) (W:List (Int×Int)) (s:Int) (b:List UInt8):wE p B U W s b=if(zS s b).2≠0 then M4 B U W s 0 (zS s b).2 else Kx p B U W s (zS s b).1:=by
 rw[wE,zS];by_cases c:s<0\/8<=s
 ·rw[fk c,fk c];rfl
 ·rw[dx c,dx c]
def yZl {s:Int} {b:List UInt8} (hb:b.length<=1099511627776) (h:(zS s b).2=0):(zS s b).1.right=0/\ie (zS s b).1.dq/\(zS s b).1.label.length<=255:=by
 rw[zS]at h ⊢;split at h
 ·cases h
 ·rename_i c;rw[dx c];exact⟨yFk h,yUu b,ySc hb⟩
def wjN {j:Nat} (h:(j:Int)<=9223372036854775806):((j+1:Nat):Int)=aj.wrap ((j:Int)+1):=by rw[iD (by omega)];rfl
def xBx (i:Dg) (h:Sn.du i):y5u i:=by
 obtain⟨⟨m,W⟩,p,B,U,s,b,X⟩:=i;obtain⟨Ln,hb,hX⟩:(m.fy p B U/\jo p B)/\b.length<=1099511627776/\X=wE p B U W s b:=h;rw[zVl]at hX;have hc:= @yZl s b hb;unfold y5u QM fp z1f TN QM z1m z0i Xk z1d z0p nT nF pB nI pC nR mZ nX T8 pD Vo T7 fp dI;dsimp only;generalize NG:zS s b=y at hX hc;obtain⟨c,oD⟩:=y;dsimp only at hX hc;refine⟨⟨s,b⟩,rfl,rfl,hb,λ_ _=> ?_⟩;dsimp only;rw[NG];dsimp only;refine Cv.du.mk (λe=> ?_) (λe=>⟨OO _ _,_,_,Oz c.id W,av,λx=>x=decide (c.kind=1/\64<=IS B W s),Cv.du.mk (λe1=>⟨⟨⟨m,W⟩,p,B,U,s⟩,rfl,rfl,rfl,Ln,λ_ _=>⟨_,rfl,?_,ic⟩⟩) (λe1=>⟨aw,rfl,?_,ic⟩),?_⟩)
 ·have e:oD≠0:=by simpa using e
  rw[fk e]at hX;subst hX;exact⟨⟨s,0,oD⟩,rfl,rfl,rfl,trivial,λ_ _=>⟨m,jh Ln.1⟩⟩
 ·have e1:c.kind=1:=by simpa using e1
  dsimp only;rw[decide_eq_decide];exact⟨λx=>⟨e1,oM⟩,λx=>by have:=x.2;omega⟩
 ·have e1:¬c.kind=1:=by simpa using e1
  exact(jq λx=>e1 x.1).symm
 have e:oD=0:=by simpa using e
 obtain⟨hr,hq,aaH⟩:=hc e;rw[dx (by rw[e];decide),Kx]at hX;rintro _ rfl;refine zI (λe1=> ?_) (λe1=> ?_)
 ·rw[fk e1]at hX;subst hX;exact⟨⟨s,c.id,30⟩,rfl,rfl,rfl,trivial,λ_ _=>⟨m,jh Ln.1⟩⟩
 rw[dx e1]at hX;refine⟨av,λx=>x=decide (c.kind≠1/\((cH W c.id).2=aw\/(cH W c.id).1≠s)),Cv.du.mk (λe2=>Cv.du.mk (λe3=>⟨av,rfl,?_,ic⟩) (λe3=>⟨_,rfl,?_,ic⟩)) (λe2=>⟨aw,rfl,?_,ic⟩),?_⟩
 ·have e2:¬c.kind=1:=by simpa using e2
  exact(kx ⟨e2,.inl (by simpa using e3)⟩).symm
 ·have e2:¬c.kind=1:=by simpa using e2
  have e3:(cH W c.id).2=av:=by simpa using e3
  show((cH W c.id).1 !=s)=decide (c.kind≠1/\((cH W c.id).2=aw\/(cH W c.id).1≠s));rw[Bool.eq_iff_iff,sm,bne_iff_ne];exact⟨λx=>⟨e2,.inr x⟩,λx=>x.2.resolve_left (by rw[e3];decide)⟩
 ·have e2:c.kind=1:=by simpa using e2
  exact(jq λx=>x.1 e2).symm
 rintro _ rfl;refine zI (λe2=> ?_) (λe2=> ?_)
 ·rw[fk e2]at hX;subst hX;exact⟨⟨s,c.id,26⟩,rfl,rfl,rfl,trivial,λ_ _=>⟨m,jh Ln.1⟩⟩
 rw[dx e2]at hX;have hlen:=yBs (Ln.1.s.wf Ln.2) U c;refine⟨⟨m,p,B,U,c,tx p B U c⟩,oE (jh ⟨rfl,⟨Ln,wu aaH Z8,hq,rfl⟩,λo ho=> ?_⟩)⟩;dsimp only at ho ⊢;generalize tx p B U c=Y at hX ho hlen ⊢;obtain⟨YB,YU,R⟩:=Y;dsimp only at hX ho hlen ⊢;subst hX;have e4:(R.map yX).length=R.length:=iz ..;refine⟨⟨o,W,[],0⟩,jh ⟨rfl,λj=>j.o=o/\j.k<=R.length/\j.O.length=j.k/\(sN s W R).1=(sN s j.W (R.drop j.k)).1/\(sN s W R).2=j.O++(sN s j.W (R.drop j.k)).2,λj=>R.length-j.k,⟨rfl,oQ _,rfl,rfl,rfl⟩,?_⟩⟩;rintro⟨o',W',O,k⟩ ⟨j1,j2,j3,j4,j5⟩;dsimp only at j1 j2 j3 j4 j5 ⊢;subst j1;have e5:(O.map kG).length=O.length:=iz ..;refine zI (λe6=> ?_) (λe6=> ?_)
 ·obtain⟨r,oB⟩:=z6 (l:=R) (i:=k) oM;have hd:R.drop k=r::R.drop (k+1):=by rw[DQ (by omega),(ju.1 oB).2]
  rw[hd,sN]at j4 j5;dsimp only at j4 j5;refine⟨⟨oM,e6⟩,r.kind,r.id,r.inst,r.side,r.dp,r.dq,r.left,r.oD,kf oB (by simp[yX]) rfl,Cv.du.mk (λe7=>⟨OO _ _,?_⟩) (λe7=>⟨OO _ _,_,_,Oz r.id W',?_⟩)⟩
  ·have e7:r.kind=1:=by simpa using e7
   rw[z5z];rw[fk e7]at j4 j5;refine⟨OO _ _,_,_,Oz r.id (I7 W' r.id s),0,λx=>x=if r.kind=2 then s else(cH (I7 W' r.id s) r.id).1,Cv.du.mk (λe8=>⟨_,rfl,(fk (by simpa using e8)).symm,ic⟩) (λe8=>⟨_,rfl,(dx (by simpa using e8)).symm,ic⟩),?_⟩;rintro _ rfl;exact⟨oM,⟨o',I7 W' r.id s,O++[(if r.kind=2 then s else(cH (I7 W' r.id s) r.id).1,r)],k+1⟩,wjN oM,rfl,rfl,by rw[jz];rfl,⟨rfl,Z9,by rw[iQ];dsimp only;rw[j3];rfl,j4,by rw[j5];simp⟩,Z9,ic⟩
  ·have e7:¬r.kind=1:=by simpa using e7
   rw[dx e7]at j4 j5;refine⟨0,λx=>x=if r.kind=2 then s else(cH W' r.id).1,Cv.du.mk (λe8=>⟨_,rfl,(fk (by simpa using e8)).symm,ic⟩) (λe8=>⟨_,rfl,(dx (by simpa using e8)).symm,ic⟩),?_⟩;rintro _ rfl;exact⟨oM,⟨o',W',O++[(if r.kind=2 then s else(cH W' r.id).1,r)],k+1⟩,wjN oM,rfl,rfl,by rw[jz];rfl,⟨rfl,Z9,by rw[iQ];dsimp only;rw[j3];rfl,j4,by rw[j5];simp⟩,Z9,ic⟩
 ·have hk:R.drop k=[]:=List.drop_of_length_le oM;rw[hk,sN]at j4 j5;dsimp only at j4 j5;rw[pd]at j5;rw[j4,j5];exact⟨o',jh ho⟩
def yLo:Sn.ok Tryz.prog 48:=ix mixed (dz z3v (dz yVb (dz yHv (dz y5v fx)))) 0 (λ_=>xBh) (λ_=>xAg) [0] Tryz.func48 xBx
def xAy {l:List ir} {k:Nat} {c:ir} (h:l[k]? =ax c):zF (l.map Af) k 0 9=ax [D.v (.int .i64 c.kind),.v (.int .i64 c.id),.v (.int .i64 c.inst),.v (.int .i64 c.side),.v (.int .i64 c.dp),.v (.int .i64 c.dq),.v (.int .i64 c.least),.v (.int .i64 c.time),.v (.string (sb c.label))]:=kf h (by simp[Af]) rfl
def PD (p:fj):iO:=⟨p,nD p,[]⟩
def yUe (p:fj):(PD p).fy p (List.replicate p.count []) []:=⟨rfl,z8v _,rfl⟩
structure I5 where
 seq:Int
 inst:Int
 side:Int
 dp:Int
 dq:Int
 count:Int
 je:Bool
 deriving DecidableEq
deriving instance DecidableEq for Lv
def VK (s:Int) (L:List Lv):Prop:=L.Pairwise λa b=>jj s a.dp b.dp=av
def uS (s:Int):Nat->List Lv->List Lv->List Lv
 |0,_,_=>[]
 |k+1,[],[]=>[]
 |k+1,x::X,[]=>⟨x.dp,0,0⟩::uS s k X []
 |k+1,[],y::Y=>y::uS s k [] Y
 |k+1,x::X,y::Y=>if jj s x.dp y.dp=av then⟨x.dp,0,0⟩::uS s k X (y::Y)else if jj s y.dp x.dp=av then y::uS s k (x::X) Y else(if x=y then[]else[y])++uS s k X Y
def y4g {s x y z:Int} (h:jj s x y=av) (h2:jj s y z=av):jj s x z=av:=by
 rw[jj]at h h2 ⊢;split
 ·rename_i e;rw[fk e]at h h2;have:=td h;have:=td h2;exact kx oM
 ·rename_i e;rw[dx e]at h h2;have:=td h;have:=td h2;exact kx oM
def yVs {s x y:Int} (h:jj s x y=aw) (jf:x≠y):jj s y x=av:=by
 rw[jj]at h ⊢;split
 ·rename_i e;rw[fk e]at h;have:=Fa h;exact kx oM
 ·rename_i e;rw[dx e]at h;have:=Fa h;exact kx oM
def xCg (L:List Lv):Prop:=∀l∈L,1<=l.dq
def zWp {s:Int}:∀(k:Nat) (A:List Lv),uS s k A A=[]
 |0,_=>rfl
 |k+1,[]=>rfl
 |k+1,x::A=>by
  rw[uS];have:jj s x.dp x.dp=aw:=by rw[jj];split<;>simp
  rw[dx (by rw[this];decide),dx (by rw[this];decide),fk rfl,zWp k A];rfl
open Classical
def Lv.fit (x:Lv):Prop:=ie x.dp/\ie x.dq/\ie x.count
def Sd.fit (s:Sd):Prop:=(∀x∈s.levels,x.fit)/\s.imp.fit
def y9c (v:Vw):Prop:=∀b∈v,b.1.fit/\b.2.fit
structure VM where
 inst:Nat
 side:Int
 l:Lv
 imp:Bool
def lv0:Lv:=⟨0,0,0⟩
def Pk (a b:Sd):Bool:=decide (a.imp≠b.imp)||decide (a.has≠b.has)
def M5 (b:Sd):Lv:=if b.has=av then b.imp else lv0
def wU (n:Nat) (s:Int) (a b:Sd):List VM:=(uS s (a.levels.length+b.levels.length) a.levels b.levels).map (λl=>⟨n,s,l,aw⟩)++if Pk a b=av then[⟨n,s,M5 b,av⟩]else[]
def yDf (n:Nat) (s:Int) (a:Sd):wU n s a a=[]:=by
 rw[wU,zWp];simp[Pk]
def wR (n:Nat):Vw->Vw->List VM
 |a::A,b::B=>wU n 1 a.1 b.1++wU n 2 a.2 b.2++wR (n+1) A B
 |_,_=>[]
def yFb:∀(n:Nat) (A:Vw),wR n A A=[]
 |_,[]=>rfl
 |n,a::A=>by rw[wR,yDf,yDf,yFb];rfl
def yCb {s:Int}:∀{F:List zE},B0 s F->VK s (qg F)
 |[],_=>List.Pairwise.nil
 |o::F,h=>by
  rw[B0,Ew]at h;have ih:=yCb h.2;rw[qg];cases hg:qg F with
  |nil=>exact List.pairwise_singleton _ _
  |cons v vs=>
   rw[hg]at ih;dsimp only;have hv:=ih;rw[VK,Ew]at hv;by_cases e:v.dp=o.dp
   ·rw[fk e];exact Ew.2 ⟨λw hw=>hv.1 w hw,hv.2⟩
   ·rw[dx e];obtain⟨o',r,e2,e3⟩:=rI hg;have hb:jj s o.dp v.dp=av:=by
     rw[<- e3];refine yVs (h.1 o' (by rw[e2];exact jg)) (by rw[e3];exact e)
    refine Ew.2 ⟨λw hw=> ?_,ih⟩;rcases ku.1 hw with rfl|hw
    ·exact hb
    ·exact y4g hb (hv.1 w hw)
def yUv {p:fj} {B:List (List zE)} (h:lu p B) {k:Nat} {L:List zE} (hL:B[k]? =ax L) {s:Int} (hs:s=1\/s=2):VK s (x7 L s)/\xCg (x7 L s):=
 ⟨yCb (h.uo k L hL s hs),λl hl=>(V6 (λo ho=>(h.od k L hL).1 o (qk.1 ho).1) hl).1⟩
def cV (l:List Quote) (b:Quote):Int×Int:=l.foldl (λa q=>if q.dp=b.dp then(if q.dq>a.1 then q.dq else a.1,a.2+1)else a) (b.dq,0)
def qV (l:List Quote) (s:Int):Lv×Bool:=if(zN l s).2 then(⟨(zN l s).1.dp,(cV l (zN l s).1).1,(cV l (zN l s).1).2⟩,av)else(⟨0,0,0⟩,aw)
def JR:gx:=gh yy (λi=>[ru 6 (i.l.map zK),zB i.s]) (λ_=>[]) (λi=>(i.s=1\/i.s=2)/\i.l.length<=1000000) (λi=> .jm [zB (qV i.l i.s).1.dp,zB (qV i.l i.s).1.dq,zB (qV i.l i.s).1.count,y4 (qV i.l i.s).2]) (λ_=>[])
def y0f (i:yy):List ib:=[{ι:=Nat,dv:=λk=>[(8,.nm 0 0),(10,zB (cV (i.l.take k) (zN i.l i.s).1).1),(11,zB (cV (i.l.take k) (zN i.l i.s).1).2),(26,zB k)],rows:=λ_=>[.cells (Tp (zN i.l i.s).1).cl 128]}]
def Hr (p:fj) (B:List (List zE)) (n:Nat) (s:Int):Sd:=⟨x7 (B.getD n []) s,(qV (yC ⟨p,B.map yS,n⟩ s) s).1,(qV (yC ⟨p,B.map yS,n⟩ s) s).2⟩
def xJ (p:fj) (B:List (List zE)):Vw:=(List.range p.count).map λn=>(Hr p B n 1,Hr p B n 2)
structure N4 where
 s:ia
 p:fj
 B:List (List zE)
def y6w (i:N4):List ib:=[
 {ι:=Nat,dv:=λj=>[(5,.nm 0 0),(6,.own 2),(27,zB j)],rows:=λj=>[.cells [.own 1] 89,.own 180 10 (((xJ i.p i.B).take j).map xM),.kh 6 ((i.B.map yS).map zY)]},
 {ι:=Unit,dv:=λ_=>[],rows:=λ_=>[],un:=3}]
def xW (m:I5):List D:=[.v (.int .i64 m.seq),.v (.int .i64 m.inst),.v (.int .i64 m.side),.v (.int .i64 m.dp),.v (.int .i64 m.dq),.v (.int .i64 m.count),.v (.bool m.je)]
@[reducible] def Pb:Nat:=78
@[reducible] def M8 (l:List I5):fw:= .own Pb 7 (l.map xW)
def vJ (seq:Int):List VM->List I5
 |[]=>[]
 |m::M=>⟨seq+1,m.inst,m.side,m.l.dp,m.l.dq,m.l.count,m.imp⟩::vJ (seq+1) M
structure uj where
 seq:Int
 out:List I5
@[reducible] def N7 (d:uj):List fw:=[.cells [zB d.seq,.own 1] 266,M8 d.out]
@[reducible] def DfP (d:uj):List fw:=[.cells [zB d.seq,.own 2] 266,.gone,M8 d.out]
def uj.add (d:uj) (M:List VM):uj:=⟨d.seq+M.length,d.out++vJ d.seq M⟩
@[reducible] def uj.ok (d:uj) (n:Nat):Prop:= -4611686018427387904<=d.seq/\d.seq+n<=4611686018427387904/\d.out.length+n<=1000000000
structure Ib where
 d:uj
 m:VM
def Gf:gx:=gh Ib (λi=>[.nm 0 0,zB i.m.inst,zB i.m.side,lvV i.m.l,y4 i.m.imp]) (λi=>N7 i.d) (λi=>i.d.ok 1) (λ_=>EX) (λi=>DfP (i.d.add [i.m]))
structure AL where
 d:uj
 n:Nat
 s:Int
 a:Sd
 b:Sd
def Gg:gx:=gh AL (λi=>[.nm 0 0,zB i.n,zB i.s,sdV i.a,sdV i.b]) (λi=>N7 i.d) (λi=>i.d.ok (i.a.levels.length+i.b.levels.length+1)) (λ_=>EX) (λi=>DfP (i.d.add (wU i.n i.s i.a i.b)))
structure xo where
 x:List Lv
 y:List Lv
 M:List VM
def y3r (i:AL):List ib:=[{ι:=xo,dv:=λj=>[(0,.nm 0 0),(10,ru 3 (j.x.map my)),(11,ru 3 (j.y.map my))],rows:=λj=>N7 (i.d.add j.M)}]
def xAm:ib:={ι:=uj,dv:=λ_=>[(0,.nm 0 0)],rows:=λd=>N7 d,qo:=λ_=>[(0,.nm 0 0)],nf:=λd=>N7 d}
def lvT (t:Nat):ib:={ι:=Lv,dv:=λ_=>[(t,.nm 0 0)],rows:=λl=>[.cells [zB l.dp,zB l.dq,zB l.count] 177],qo:=λ_=>[(t,.nm 0 0)],nf:=λl=>[.cells [zB l.dp,zB l.dq,zB l.count] 177]}
def y1t:List (Nat×ib):=[(24,bj 41),(36,bj 73),(12,bj 29),(14,xAm),(48,bj 109),(58,lvT 12)]
structure JL where
 v:Vw
 w:Vw
 seq:Int
def Vw.qm (v:Vw):Nat:=(v.map λb=>b.1.levels.length+b.2.levels.length).sum
def Ki:gx:=gh JL (λi=>[vwV i.v,vwV i.w,zB i.seq]) (λ_=>[]) (λi=>i.v.length=i.w.length/\(-4000000000000000000<=i.seq/\i.seq<=4000000000000000000)/\Vw.qm i.v<=100000000/\Vw.qm i.w<=100000000/\i.v.length<=1000000) (λ_=> .own 0) (λi=>[M8 (vJ i.seq (wR 0 i.v i.w))])
def y7q (i:JL):List ib:=[
 {ι:=Nat,dv:=λj=>[(7,.nm 0 0),(24,zB j)],rows:=λj=>N7 (uj.add ⟨i.seq,[]⟩ (wR 0 (i.v.take j) (i.w.take j)))},
 {ι:=Unit,dv:=λ_=>[],rows:=λ_=>[],un:=3}]
end Sx
