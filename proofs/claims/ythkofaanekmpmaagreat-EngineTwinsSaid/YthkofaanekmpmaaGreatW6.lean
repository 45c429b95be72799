/- Texts of ours. No condition. -/
import Derived.Laws.Externs
import Derived.Test.YthkofaanekmpmaaGreatW5
set_option linter.all false
open Go.IntKind renaming i64->aa,u64->ab
open List renaming map->ac,take->ae,headD_cons->af,tail_cons->ag,range->aj,drop->ak
open And renaming intro->am
open Sx.AObj renaming adt->ao,cells->ap,fro->aq,objs->ar,own->au,iter->av,map->aw
open Exists renaming intro->ax
open Bool renaming true->ay,false->az,or_eq_true->ba
open Go.Value renaming int->bc,string->be
open Option renaming some->bg,none->bo
open Go.Utf8 renaming decode->bu
namespace Sx
set_option maxRecDepth 100000
open Go Cv Go.Proofs
def aW:bbetterC.ok Tryz.prog 58:=okw (V:=zZz) mixed gok0 0 (λ_=>[]) (λ_=>[]) [] Tryz.func58 λ(i:I3') _=>by
 unfold zZz;refine Cv.cnd.mk (λc=> ?_) (λc=> ?_)
 ·have c:i.side=1:=by simpa using c
  rw[btr,y5v c];exact kp
 ·have c:¬i.side=1:=by simpa using c
  rw[btr,y5t c];exact kp
def yDf:pushFC.ok Tryz.prog 293:=okw (V:=yHe) mixed gok0 0 (λ_=>[]) (λ_=>[]) [] Tryz.func293 λ(s:Slot) _=>by
 unfold yHe;exact kp
def y3w {l:List Slot} {k:Nat} {s:Slot} (h:l[k]? =bg s):zE (l.map zQ) k 0 8=bg [D.v (.bool s.used),.v (.int .i64 s.n),.v (.int .i64 s.id),.v (.int .i64 s.qty),.v (.bool s.top),.v (.int .i64 s.queue),.v (.int .i64 s.ahead),.v (.int .i64 s.back)]:=elA h (by simp[zQ]) rfl
def yKv (l:List Slot) (h:idxSlotC.cnd l):zYj l:=by
 have h:l.length<=1000000:=h;unfold zYj dI;simp only[y5u];refine⟨0,rfl,λj=>j<=l.length/\∀k<j,∀x,l[k]? =bg x->(!x.used)=az,λj=>l.length-j,⟨oM,λk hk=>by omega⟩,?_⟩;rintro j ⟨h3,h4⟩;refine zH (λhj=> ?_) (λhj=> ?_)
 ·obtain⟨s,hs⟩:=yA (l:=l) (i:=j) oM;refine⟨⟨oM,oM⟩,s.used,s.n,s.id,s.qty,s.top,s.queue,s.ahead,s.back,y3w hs,s,rF7 ⟨rfl,trivial,λ_ _=>Cv.cnd.mk (λe=> ?_) (λe=> ?_)⟩⟩
  ·rw[kY,zHt hs e h4];exact kp
  ·refine⟨j+1,by rw[w64 (by omega)];rfl,⟨oM,λk hk x hx=> ?_⟩,by(first|omega|(dsimp only;omega)),k0q⟩;rcases y8c k j with hk'|hk'
   ·exact h4 k hk' x hx
   ·obtain rfl:k=j:=by omega
    rw[hs]at hx;cases hx;exact e
 ·rw[kY,zHe λk x hx=>h4 k (by have:=(y5x.1 hx).1;omega) x hx];exact kp
def z4y:idxSlotC.ok Tryz.prog 292:=okw mixed (gokc yDf gok0) 0 (λ_=>[]) (λl=>yKd l) [] Tryz.func292 yKv
def zZo:aopenC.ok Tryz.prog 294:=okw (V:=yKk) mixed gok0 0 (λ_=>[]) (λ_=>[]) [0] Tryz.func294 λ(a:Arena) h=>by
 have h:a.queues.length<=1000000:=h;unfold yKk dI;rw[y5s,y5u,w64 (by simp only[y5y,y7n];omega)];refine⟨oM,(),?_,rfl,rfl,?_,trivial⟩
 ·simp
 ·rw[y6d];rfl
def cT {α:Type} {f:α->α}:∀{l:List α} {i:Nat} {x:α},l[i]? =bg x->l.modify i f=l.set i (f x)
 |[],i,x,h=>by simp at h
 |a::l,0,x,h=>by simp at h;subst h;rfl
 |a::l,i+1,x,h=>by
  simp only[y7s]at h;simp only[xBd,xBs,cT h]
def yH {α:Type} {f:α->List D} {l:List α} {i g:Nat} {x y:α} {ds:List D} (hi:l[i]? =bg x) (hh:(f x).take g++(ds++(f x).drop (g+ds.length))=f y):zW (l.map f) i g ds=(l.set i y).map f:=by
 have hlt:=(y5x.1 hi).1;rw[zW,cT (by rw[y7k,hi];rfl),hh,List.map_set]
def uS {α:Type} {l:List α} {i:Nat} {x y:α} (hi:l[i]? =bg x):(l.set i y)[i]? =bg y:=List.getElem?_set_self (y5x.1 hi).1
def zT {α:Type} {l:List α} {i:Nat} {x d:α} (h:l[i]? =bg x):l.getD i d=x:=by rw[y6c,h];rfl
def yYw (i:yAk) (h:atopC.cnd i):yQj i:=by
 have h:i.a.slots.length<=1000000:=h;unfold yQj l7;simp only[y5u];have no (e:i.a.usedAt i.n=az):i.a.topF i.n i.t=i.a:=by rw[Arena.topF,y5t (by rw[e];decide)]
 refine zH (λc=> ?_) (λc=>zH (λd=> ?_) (λd=> ?_))
 ·have e:i.a.usedAt i.n=az:=by rw[Arena.usedAt,y6g (by omega),y9e]
  rw[no e,e];exact kp
 ·have e:i.a.usedAt i.n=az:=by rw[Arena.usedAt,y6g (show ¬i.n<(i.a.slots.length:Int)by omega),y9e,xAx]
  rw[no e,e];exact kp
 ·obtain⟨s,hs⟩:=yA (l:=i.a.slots) (i:=i.n.toNat) oM;have eu:i.a.usedAt i.n=s.used:=by rw[Arena.usedAt,y6k (show 0<=i.n by omega),y6k (show i.n<(i.a.slots.length:Int)by omega),zT hs];simp
  refine⟨⟨oM,oM⟩,s.used,elA hs (by simp[zQ]) rfl,Cv.cnd.mk (λu=> ?_) (λu=> ?_)⟩
  ·have e:i.a.usedAt i.n=az:=by rw[eu];simpa using u
   rw[no e,e];exact kp
  ·have e:i.a.usedAt i.n=ay:=by rw[eu];simpa using u
   have et:i.a.topF i.n i.t={i.a with slots:=i.a.slots.set i.n.toNat {s with top:=i.t}}:=by
    rw[Arena.topF,y5v e,cT hs]
   rw[et,e,yH hs (y:={s with top:=i.t}) rfl];refine⟨⟨oM,oM⟩,oM,(),rF4 trivial⟩
def z7h:atopC.ok Tryz.prog 291:=okw mixed gok0 1 (λ_=>[]) (λ_=>[]) [0] Tryz.func291 yYw
def yIr {l:List Slot} (h:∃s∈l,s.used=az):∃k:Nat,kY l=k/\k<l.length:=by
 obtain⟨s,hs,hu⟩:=h;cases hf:l.findIdx? λs=> !s.used with
 |none=>
  rw[xAk]at hf;have:=hf s hs;rw[hu]at this;cases this
 |some k=>
  rw[y9c]at hf;exact⟨k,by rw[kY,show(l.findIdx? λs=> !s.used)=bg k by rw[y9c];exact hf];rfl,hf.1⟩
def yWe (i:PuI) (h:apushC.cnd i):yLa i:=by
 obtain⟨h1,h2,h3⟩:i.a.fit:=h;unfold yLa rY sR tF tG zDa zCy tJ yI dI;simp only[y5u];have out (e:i.n<0\/i.a.queues.length<=i.n):i.a.push i.n i.id i.qty i.top=(i.a,0,26):=by rw[Arena.push,y5v e]
 refine zH (λc=>Cv.cnd.mk (λd=> ?_) (λd=> ?_)) (λc=> ?_)
 ·have d:¬i.n<(i.a.queues.length:Int):=by simpa using d
  rw[out (.inr (by omega))];exact kp
 ·have d:i.n<(i.a.queues.length:Int):=by simpa using d
  have hn:¬(i.n<0\/(i.a.queues.length:Int)<=i.n):=by omega
  refine zH (λq1=> ?_) (λq1=>zH (λq2=> ?_) (λq2=>Cv.cnd.mk (λfr=> ?_) (λfr=> ?_)))
  ·rw[Arena.push,y5t hn,y5v (.inl q1)];exact kp
  ·rw[Arena.push,y5t hn,y5v (.inr q2)];exact kp
  ·rw[Arena.push,y5t hn,y5t (by omega),y5v (by simpa using fr)];exact kp
  ·have fr:i.a.free≠0:=by simpa using fr
   have ep:i.a.push i.n i.id i.qty i.top=(i.a.put i.n i.id i.qty i.top,kY i.a.slots,0):=by rw[Arena.push,y5t hn,y5t (by omega),y5t fr]
   obtain⟨k,hk,hkl⟩:=yIr (h2 fr);obtain⟨q,hq⟩:=yA (l:=i.a.queues) (i:=i.n.toNat) oM;have hqm:=y6e hq;have hl:=h3 q hqm;obtain⟨s,hs⟩:=yA hkl;refine⟨i.a.slots,rfl,h1,λ_ _=>⟨⟨oM,oM⟩,q.last,elA hq (by simp[zO]) rfl,⟨oM,oM⟩,by rw[hk];exact hkl,q.last,elA hq (by simp[zO]) rfl,?_⟩⟩;rw[ep];have eput:i.a.put i.n i.id i.qty i.top=⟨if q.last= -1 then i.a.slots.set k ⟨ay,k,i.id,i.qty,i.top,i.n,q.last,-1⟩else(i.a.slots.set k ⟨ay,k,i.id,i.qty,i.top,i.n,q.last,-1⟩).modify q.last.toNat λs=>{s with back:=k},i.a.queues.set i.n.toNat ⟨if q.last= -1 then k else q.first,k,aa.wrap (q.total+i.qty),aa.wrap (q.count+1)⟩,aa.wrap (i.a.free-1)⟩:=by
    simp only[Arena.put,zT hq,hk,y6m]
   rw[eput,hk];simp only[y6m];have es:zW (ac zQ i.a.slots) k 0 [D.v (.bool ay),D.v (.int .i64 k),D.v (.int .i64 i.id),D.v (.int .i64 i.qty),D.v (.bool i.top),D.v (.int .i64 i.n),D.v (.int .i64 q.last),D.v (.int .i64 (-1))]=ac zQ (i.a.slots.set k ⟨ay,k,i.id,i.qty,i.top,i.n,q.last,-1⟩):=yH hs rfl;rw[es];refine Cv.cnd.mk (λe=> ?_) (λe=> ?_)
   ·have e:q.last= -1:=by simpa using e
    have e1:zW (ac zO i.a.queues) i.n.toNat (0+0) [D.v (.int .i64 k)]=ac zO (i.a.queues.set i.n.toNat {q with first:=k}):=yH hq rfl;have g1:=uS (y:={q with first:=(k:Int)}) hq;have e2:zW (ac zO (i.a.queues.set i.n.toNat {q with first:=k})) i.n.toNat (0+1) [D.v (.int .i64 k)]=ac zO (i.a.queues.set i.n.toNat {q with first:=k,last:=k}):=by
     rw[yH g1 (y:={q with first:=(k:Int),last:=(k:Int)}) rfl,y9v]
    have g2:=uS (y:={q with first:=(k:Int),last:=(k:Int)}) hq;have e3:zW (ac zO (i.a.queues.set i.n.toNat {q with first:=k,last:=k})) i.n.toNat (0+2) [D.v (.int .i64 (aa.wrap (q.total+i.qty)))]=ac zO (i.a.queues.set i.n.toNat {q with first:=k,last:=k,total:=aa.wrap (q.total+i.qty)}):=by
     rw[yH g2 (y:={q with first:=(k:Int),last:=(k:Int),total:=aa.wrap (q.total+i.qty)}) rfl,y9v]
    have g3:=uS (y:={q with first:=(k:Int),last:=(k:Int),total:=aa.wrap (q.total+i.qty)}) hq;have e4:zW (ac zO (i.a.queues.set i.n.toNat {q with first:=k,last:=k,total:=aa.wrap (q.total+i.qty)})) i.n.toNat (0+3) [D.v (.int .i64 (aa.wrap (q.count+1)))]=ac zO (i.a.queues.set i.n.toNat ⟨k,k,aa.wrap (q.total+i.qty),aa.wrap (q.count+1)⟩):=by
     rw[yH g3 (y:=⟨k,k,aa.wrap (q.total+i.qty),aa.wrap (q.count+1)⟩) rfl,y9v]
    rw[e1,e2];simp only[y5v e];refine⟨oM,by simp only[y5u,y7b];omega,q.total,elA g2 (by simp[zO]) rfl,by simp only[y5u,y7b];omega,q.count,?_,by rw[e3];simp only[y5u,y7b];omega,(),?_⟩
    ·rw[e3];exact elA g3 (by simp[zO]) rfl
    ·rw[e3,e4];exact kp
   ·have e:¬q.last= -1:=by simpa using e
    have hl:0<=q.last/\q.last<i.a.slots.length:=hl.resolve_left e;have e2:zW (ac zO i.a.queues) i.n.toNat (0+1) [D.v (.int .i64 k)]=ac zO (i.a.queues.set i.n.toNat {q with last:=k}):=yH hq rfl;have g2:=uS (y:={q with last:=(k:Int)}) hq;have e3:zW (ac zO (i.a.queues.set i.n.toNat {q with last:=k})) i.n.toNat (0+2) [D.v (.int .i64 (aa.wrap (q.total+i.qty)))]=ac zO (i.a.queues.set i.n.toNat {q with last:=k,total:=aa.wrap (q.total+i.qty)}):=by
     rw[yH g2 (y:={q with last:=(k:Int),total:=aa.wrap (q.total+i.qty)}) rfl,y9v]
    have g3:=uS (y:={q with last:=(k:Int),total:=aa.wrap (q.total+i.qty)}) hq;have e4:zW (ac zO (i.a.queues.set i.n.toNat {q with last:=k,total:=aa.wrap (q.total+i.qty)})) i.n.toNat (0+3) [D.v (.int .i64 (aa.wrap (q.count+1)))]=ac zO (i.a.queues.set i.n.toNat ⟨q.first,k,aa.wrap (q.total+i.qty),aa.wrap (q.count+1)⟩):=by
     rw[yH g3 (y:=⟨q.first,k,aa.wrap (q.total+i.qty),aa.wrap (q.count+1)⟩) rfl,y9v]
    obtain⟨s2,hs2⟩:=yA (l:=i.a.slots.set k ⟨ay,k,i.id,i.qty,i.top,i.n,q.last,-1⟩) (i:=q.last.toNat) (by rw[y7b];omega);have e5:zW (ac zQ (i.a.slots.set k ⟨ay,k,i.id,i.qty,i.top,i.n,q.last,-1⟩)) q.last.toNat (0+7) [D.v (.int .i64 k)]=ac zQ ((i.a.slots.set k ⟨ay,k,i.id,i.qty,i.top,i.n,q.last,-1⟩).modify q.last.toNat λs=>{s with back:=k}):=by
     rw[yH hs2 (y:={s2 with back:=(k:Int)}) rfl,cT hs2]
    rw[e2];simp only[y5t e];refine⟨q.last,elA hq (by simp[zO]) rfl,⟨oM,by simp only[y5u,y7b];omega⟩,by simp only[y5u,y7b];omega,oM,q.total,elA g2 (by simp[zO]) rfl,by simp only[y5u,y7b];omega,q.count,?_,by rw[e3];simp only[y5u,y7b];omega,(),?_⟩
    ·rw[e3];exact elA g3 (by simp[zO]) rfl
    ·rw[e3,e4,e5];exact kp
 ·rw[out (.inl (by omega))];exact kp
def z1a:apushC.ok Tryz.prog 267:=okw mixed (gokc z4y gok0) 1 (λ_=>[]) (λ_=>[]) [0] Tryz.func267 yWe
def pP {s price:Int}:∀{l:List xN} {j:Nat},j<=l.length->(∀k<j,∀r,l[k]? =bg r->btr s r.price price=ay)->(∀r,l[j]? =bg r->btr s r.price price=az)->zY s l price=j
 |[],j,hj,_,_=>by
  obtain rfl:j=0:=by simpa using hj
  rfl
 |r::l,0,_,_,he=>by
  have:=he r rfl;rw[zY,List.takeWhile_cons,this];rfl
 |r::l,j+1,hj,h,he=>by
  have h0:=h 0 oM r rfl;have ih:=pP (l:=l) (j:=j) (by simpa using hj) (λk hk x hx=>h (k+1) oM x (by simpa using hx)) (λx hx=>he x (by simpa using hx));rw[zY]at ih ⊢;rw[List.takeWhile_cons,h0,y5v rfl,y5y,ih]
def zEf (s price:Int) (l:List xN):zY s l price<=l.length:=(List.takeWhile_sublist _).length_le
def sX (b:Book):b.rungs 1=b.buys:=rfl
def rV (b:Book):b.rungs 2=b.sells:=rfl
def ySv (i:BkP) (h:find1C.cnd i):yGm i:=by
 obtain⟨_,h1,h2,_⟩:i.b.small:=h;unfold yGm zHi rQ uI sQ zCd dS xX dI;simp only[y5u,sX];refine⟨0,rfl,λj=>j<=i.b.buys.length/\∀k<j,∀r,i.b.buys[k]? =bg r->btr 1 r.price i.price=ay,λj=>i.b.buys.length-j,⟨oM,λk hk=>by omega⟩,?_⟩;rintro j ⟨h3,h4⟩;refine zH (λhj=> ?_) (λhj=> ?_)
 ·obtain⟨r,hr⟩:=yA (l:=i.b.buys) (i:=j) oM;refine⟨⟨oM,oM⟩,r.price,elA hr (by simp[zB]) rfl,⟨1,r.price,i.price⟩,rfl,rfl,rfl,trivial,λ_ _=> ?_⟩;dsimp only;refine Cv.cnd.mk (λe=>⟨j+1,by rw[w64 (by omega)];rfl,⟨oM,λk hk x hx=> ?_⟩,by(first|omega|(dsimp only;omega)),k0q⟩) (λe=>zH (λ_=> ?_) (λc=>absurd hj c))
  ·rcases y8c k j with hk'|hk'
   ·exact h4 k hk' x hx
   ·obtain rfl:k=j:=by omega
    rw[hr]at hx;cases hx;exact e
  ·have en:zY 1 i.b.buys i.price=j:=pP h3 h4 λx hx=>by rw[hr]at hx;cases hx;exact e
   have eb:kZ 1 i.b.buys i.price=(r.price==i.price):=by rw[kZ,en,hr];exact(z0g _ _).symm
   refine⟨⟨oM,oM⟩,r.price,elA hr (by simp[zB]) rfl,(),by rw[en],eb,?_⟩
   (repeat'(first|exact trivial|exact rfl|apply am))
 ·have en:zY 1 i.b.buys i.price=j:=pP h3 h4 λx hx=>by have:=(y5x.1 hx).1;omega
  have eb:kZ 1 i.b.buys i.price=az:=by rw[kZ,en,y7a (by omega)]
  refine zH (λc=>absurd c hj) (λ_=>⟨(),by rw[en],eb,?_⟩)
  (repeat'(first|exact trivial|exact rfl|apply am))
def zMi:find1C.ok Tryz.prog 270:=okw mixed (gokc aW gok0) 0 (λ_=>[]) (λ_=>yRh) [] Tryz.func270 ySv
def wA (l:List (Int×Place)) (k:Int):∀(p:Value×List D),p∈atE l->like (bc aa k) p.1=ay:=by
 intro p hp;obtain⟨x,_,rfl⟩:=y7f.1 hp;rfl
def zAc (k:Int):∀l:List (Int×Place),kQ (bc aa k) (atE l)=(pget l k).map z5i
 |[]=>rfl
 |(a,v)::l=>by
  have ih:=zAc k l;show(bif (keq .i64 .i64 && decide (k=a))then _ else kQ _ (atE l))=_;by_cases h:k=a
  ·subst h;simp[pget,keq]
  ·have h':¬a=k:=λe=>h e.symm
   rw[show(keq .i64 .i64 && decide (k=a))=az by simp[h],cond_false,ih];simp[pget,xBw,h']
def zIb:Place:=⟨0,0,0⟩
def zSm (l:List (Int×Place)) (k:Int):kQ (bc aa k) (atE l)=bg [D.v (.int .i64 ((pget l k).getD zIb).side),D.v (.int .i64 ((pget l k).getD zIb).price),D.v (.int .i64 ((pget l k).getD zIb).slot)]/\(pget l k).isSome=ay\/kQ (bc aa k) (atE l)=bo/\[D.v (.int .i64 ((pget l k).getD zIb).side),D.v (.int .i64 ((pget l k).getD zIb).price),D.v (.int .i64 ((pget l k).getD zIb).slot)]=[D.v (.int .i64 0),D.v (.int .i64 0),D.v (.int .i64 0)]/\(pget l k).isSome=az:=by
 rw[zAc];cases pget l k with
 |none=>exact .inr ⟨rfl,rfl,rfl⟩
 |some v=>exact .inl ⟨rfl,rfl⟩
def zVa (k:Int) (v:Place):∀l,uZ (bc aa k) (z5i v) (atE l)=atE (tO k v l)
 |[]=>rfl
 |(a,b)::l=>by
  have ih:=zVa k v l;show(bif (keq .i64 .i64 && decide (k=a))then _ else _::uZ _ _ (atE l))=_;rw[ih,tO];by_cases h:k=a
  ·subst h;simp[keq,atE]
  ·simp[h,atE]
def yWl (i:LdI) (h:lead1C.cnd i):yEs i:=by
 obtain⟨⟨ha,_⟩,h1,h2,_⟩:i.b.small:=h;unfold yEs zDe zCu rL cC dI;have no (e:i.b.untop 1=i.b.a):ao Arena 3 zG (i.b.untop 1)=zP i.b 1:=by rw[e];rfl
 refine Cv.cnd.mk (λc=> ?_) (λc=>⟨(),?_⟩)
 ·have c:i.b.hasF 1=ay:=c;refine⟨wA _ _,(pget i.b.at_ i.b.top1).isSome,_,_,_,zSm _ _,⟨wA _ _,(pget i.b.at_ i.b.top1).isSome,_,_,_,zSm _ _,(rF3 trivial),rfl,trivial⟩,rfl,trivial,Cv.cnd.mk (λd=>Cv.cnd.mk (λe=> ?_) (λe=>⟨(),?_⟩)) (λd=>⟨(),?_⟩)⟩
  ·obtain⟨o,ho⟩:=xBk.1 d;have e:o.side=1:=by rw[ho]at e;simpa using e
   have eu:i.b.untop 1=i.b.a.topF o.slot az:=by
    have ht:pget i.b.at_ (i.b.topI 1)=bg o:=ho;rw[Book.untop,y5v c,ht];dsimp only;rw[y5v e]
   refine⟨⟨i.b.a,o.slot,az⟩,by rw[ho];rfl,rfl,rfl,ha,λ_ _=>⟨(),?_⟩⟩;rw[eu];(repeat'(first|exact trivial|exact rfl|apply am))
  ·obtain⟨o,ho⟩:=xBk.1 d;have e:¬o.side=1:=by rw[ho]at e;simpa using e
   have ht:pget i.b.at_ (i.b.topI 1)=bg o:=ho;rw[no (by rw[Book.untop,y5v c,ht];dsimp only;rw[y5t e])];(repeat'(first|exact trivial|exact rfl|apply am))
  ·have ht:pget i.b.at_ (i.b.topI 1)=bo:=by
    show pget i.b.at_ i.b.top1=bo;simpa using d
   rw[no (by rw[Book.untop,y5v c,ht])];(repeat'(first|exact trivial|exact rfl|apply am))
 ·have c:¬i.b.hasF 1=ay:=by rw[show i.b.hasF 1=i.b.has1 from rfl,c];decide
  rw[no (by rw[Book.untop,y5t c])];(repeat'(first|exact trivial|exact rfl|apply am))
def yEv:lead1C.ok Tryz.prog 266:=okw mixed (gokc z7h gok0) 0 (λ_=>[]) (λ_=>[]) [] Tryz.func266 yWl
def zZh {s price:Int} {l:List xN} (h:kZ s l price=ay):∃r,l[zY s l price]? =bg r:=by
 rw[kZ]at h;split at h
 ·rename_i r hr;exact⟨r,hr⟩
 ·cases h
def yLm (i:BkP) (h:queue1C.cnd i):z8c i:=by
 obtain⟨⟨ha,_⟩,ha',h1,h2,h3⟩:i.b.fit:=h;have hle:=zEf 1 i.price i.b.buys;unfold z8c zM fT fN m8 nM uK fU uI qF xX dI;refine⟨i,rF7 (rF3 ⟨rfl,⟨⟨ha,oM⟩,oM,oM,oM⟩,λ_ _=> ?_⟩)⟩;simp only[y5u,y4,sX];refine Cv.cnd.mk (λc=> ?_) (λc=> ?_)
 ·obtain⟨r,hr⟩:=zZh c;have hlt:=(y5x.1 hr).1;have e:i.b.queueF 1 i.price=(i.b,r.queue):=by rw[Book.queueF,y5v (by rw[sX];exact c),sX,zT hr]
  rw[e];refine⟨⟨oM,oM⟩,r.queue,elA (by simpa using hr) (by simp[zB]) rfl,(),?_⟩
  (repeat'(first|exact trivial|exact rfl|apply am))
 ·have e:i.b.queueF 1 i.price=({i.b with a:=i.b.newQ.2.2,buys:=i.b.ins 1 i.price,spare:=i.b.newQ.2.1},i.b.newQ.1):=by
   rw[Book.queueF,y5t (by rw[sX,c];decide),y5v rfl]
  have hins:ac zB (i.b.ins 1 i.price)=ae (zY 1 i.b.buys i.price) (ac zB i.b.buys)++zB ⟨i.price,i.b.newQ.1⟩::ak (zY 1 i.b.buys i.price) (ac zB i.b.buys):=by
   rw[Book.ins,sX,y6d,y6i,xAe,xBe]
  rw[e];refine zH (λd=> ?_) (λd=> ?_)
  ·have w:aa.wrap ((i.b.spare.length:Int)-1)=((i.b.spare.length-1:Nat):Int):=by rw[w64 (by omega)];omega
   rw[w];simp only[y6m];obtain⟨q,hq⟩:=yA (l:=i.b.spare) (i:=i.b.spare.length-1) oM;have eq:i.b.newQ=(q,i.b.spare.take (i.b.spare.length-1),i.b.a):=by rw[Book.newQ,y5t (by omega),zT hq]
   rw[eq]at hins ⊢;refine⟨⟨oM,oM⟩,q,elI hq,⟨oM,oM⟩,trivial,⟨i.b.buys.map zB,zB ⟨i.price,q⟩,zY 1 i.b.buys i.price⟩,rfl,rfl,rfl,⟨by rw[y5u];exact hle,by rw[y5u];omega⟩,λ_ _=>⟨(),?_⟩⟩;have hs:iE (i.b.spare.take (i.b.spare.length-1))=(iE i.b.spare).take (i.b.spare.length-1):=by simp only[iE,xAe]
   exact kp
  ·have eq:i.b.newQ=((i.b.a.queues.length:Int),i.b.spare,i.b.a.openQ):=by rw[Book.newQ,y5v (by omega)]
   rw[eq]at hins ⊢;refine⟨i.b.a,rfl,oM,λ_ _=>⟨trivial,⟨i.b.buys.map zB,zB ⟨i.price,i.b.a.queues.length⟩,zY 1 i.b.buys i.price⟩,rfl,rfl,rfl,⟨by rw[y5u];exact hle,by rw[y5u];omega⟩,λ_ _=>⟨(),?_⟩⟩⟩
   exact kp
def zGz:uM Tryz.prog 296=bg (304,2,16,#[.int .i64 0,.int .i64 0]):=by kernel_rfl
def z7e:insRC.ok Tryz.prog 295:=
 insX_ok (tS:=296) (tI:=3) (fO:=308) (fR:=309) (z:= #[.int .i64 0,.int .i64 0]) mixed Tryz.func295 rfl (by kernel_rfl) (by kernel_rfl) (by kernel_rfl) (by kernel_rfl) zGz rfl Z8 Z8 (by kernel_rfl) Tryz.underlying3
  (yOs (tS:=296) (tB:=4) Tryz.func308 (by kernel_rfl) (by kernel_rfl) (by kernel_rfl) (by kernel_rfl) zGz) (λs sn sk i v vn vk w R=>by kernel_rfl)
def yAo:queue1C.ok Tryz.prog 268:=okw mixed (gokc zMi (gokc zZo (gokc z7e gok0))) 0 (λ_=>[]) (λ_=>[]) [] Tryz.func268 yLm
def yVn (i:BkP) (h:find2C.cnd i):yFe i:=by
 obtain⟨_,h1,h2,_⟩:i.b.small:=h;unfold yFe zJe tM uH zDt xW dS sQ dI;simp only[y5u,rV];refine⟨0,rfl,λj=>j<=i.b.sells.length/\∀k<j,∀r,i.b.sells[k]? =bg r->btr 2 r.price i.price=ay,λj=>i.b.sells.length-j,⟨oM,λk hk=>by omega⟩,?_⟩;rintro j ⟨h3,h4⟩;refine zH (λhj=> ?_) (λhj=> ?_)
 ·obtain⟨r,hr⟩:=yA (l:=i.b.sells) (i:=j) oM;refine⟨⟨oM,oM⟩,r.price,elA hr (by simp[zB]) rfl,⟨2,r.price,i.price⟩,rfl,rfl,rfl,trivial,λ_ _=> ?_⟩;dsimp only;refine Cv.cnd.mk (λe=>⟨j+1,by rw[w64 (by omega)];rfl,⟨oM,λk hk x hx=> ?_⟩,by(first|omega|(dsimp only;omega)),k0q⟩) (λe=>zH (λ_=> ?_) (λc=>absurd hj c))
  ·rcases y8c k j with hk'|hk'
   ·exact h4 k hk' x hx
   ·obtain rfl:k=j:=by omega
    rw[hr]at hx;cases hx;exact e
  ·have en:zY 2 i.b.sells i.price=j:=pP h3 h4 λx hx=>by rw[hr]at hx;cases hx;exact e
   have eb:kZ 2 i.b.sells i.price=(r.price==i.price):=by rw[kZ,en,hr];exact(z0g _ _).symm
   refine⟨⟨oM,oM⟩,r.price,elA hr (by simp[zB]) rfl,(),by rw[en],eb,?_⟩
   (repeat'(first|exact trivial|exact rfl|apply am))
 ·have en:zY 2 i.b.sells i.price=j:=pP h3 h4 λx hx=>by have:=(y5x.1 hx).1;omega
  have eb:kZ 2 i.b.sells i.price=az:=by rw[kZ,en,y7a (by omega)]
  refine zH (λc=>absurd c hj) (λ_=>⟨(),by rw[en],eb,?_⟩)
  (repeat'(first|exact trivial|exact rfl|apply am))
def zOy:find2C.ok Tryz.prog 270:=okw mixed (gokc aW gok0) 0 (λ_=>[]) (λ_=>yRh) [] Tryz.func270 yVn
def yXn (i:LdI) (h:lead2C.cnd i):yIk i:=by
 obtain⟨⟨ha,_⟩,h1,h2,_⟩:i.b.small:=h;unfold yIk zDy zDv sK cC dI;have no (e:i.b.untop 2=i.b.a):ao Arena 3 zG (i.b.untop 2)=zP i.b 1:=by rw[e];rfl
 refine Cv.cnd.mk (λc=> ?_) (λc=>⟨(),?_⟩)
 ·have c:i.b.hasF 2=ay:=c;refine⟨wA _ _,(pget i.b.at_ i.b.top2).isSome,_,_,_,zSm _ _,⟨wA _ _,(pget i.b.at_ i.b.top2).isSome,_,_,_,zSm _ _,(rF3 trivial),rfl,trivial⟩,rfl,trivial,Cv.cnd.mk (λd=>Cv.cnd.mk (λe=> ?_) (λe=>⟨(),?_⟩)) (λd=>⟨(),?_⟩)⟩
  ·obtain⟨o,ho⟩:=xBk.1 d;have e:o.side=2:=by rw[ho]at e;simpa using e
   have eu:i.b.untop 2=i.b.a.topF o.slot az:=by
    have ht:pget i.b.at_ (i.b.topI 2)=bg o:=ho;rw[Book.untop,y5v c,ht];dsimp only;rw[y5v e]
   refine⟨⟨i.b.a,o.slot,az⟩,by rw[ho];rfl,rfl,rfl,ha,λ_ _=>⟨(),?_⟩⟩;rw[eu];(repeat'(first|exact trivial|exact rfl|apply am))
  ·obtain⟨o,ho⟩:=xBk.1 d;have e:¬o.side=2:=by rw[ho]at e;simpa using e
   have ht:pget i.b.at_ (i.b.topI 2)=bg o:=ho;rw[no (by rw[Book.untop,y5v c,ht];dsimp only;rw[y5t e])];(repeat'(first|exact trivial|exact rfl|apply am))
  ·have ht:pget i.b.at_ (i.b.topI 2)=bo:=by
    show pget i.b.at_ i.b.top2=bo;simpa using d
   rw[no (by rw[Book.untop,y5v c,ht])];(repeat'(first|exact trivial|exact rfl|apply am))
 ·have c:¬i.b.hasF 2=ay:=by rw[show i.b.hasF 2=i.b.has2 from rfl,c];decide
  rw[no (by rw[Book.untop,y5t c])];(repeat'(first|exact trivial|exact rfl|apply am))
def yEm:lead2C.ok Tryz.prog 266:=okw mixed (gokc z7h gok0) 0 (λ_=>[]) (λ_=>[]) [] Tryz.func266 yXn
def yMc (i:BkP) (h:queue2C.cnd i):z5x i:=by
 obtain⟨⟨ha,_⟩,ha',h1,h2,h3⟩:i.b.fit:=h;have hle:=zEf 2 i.price i.b.sells;unfold z5x zN fP uH fT fN m8 nM uK qF xW dI;refine⟨i,rF7 (rF3 ⟨rfl,⟨⟨ha,oM⟩,oM,oM,oM⟩,λ_ _=> ?_⟩)⟩;simp only[y5u,y4,rV];refine Cv.cnd.mk (λc=> ?_) (λc=> ?_)
 ·obtain⟨r,hr⟩:=zZh c;have hlt:=(y5x.1 hr).1;have e:i.b.queueF 2 i.price=(i.b,r.queue):=by rw[Book.queueF,y5v (by rw[rV];exact c),rV,zT hr]
  rw[e];refine⟨⟨oM,oM⟩,r.queue,elA (by simpa using hr) (by simp[zB]) rfl,(),?_⟩
  (repeat'(first|exact trivial|exact rfl|apply am))
 ·have e:i.b.queueF 2 i.price=({i.b with a:=i.b.newQ.2.2,sells:=i.b.ins 2 i.price,spare:=i.b.newQ.2.1},i.b.newQ.1):=by
   rw[Book.queueF,y5t (by rw[rV,c];decide),y5t (by decide)]
  have hins:ac zB (i.b.ins 2 i.price)=ae (zY 2 i.b.sells i.price) (ac zB i.b.sells)++zB ⟨i.price,i.b.newQ.1⟩::ak (zY 2 i.b.sells i.price) (ac zB i.b.sells):=by
   rw[Book.ins,rV,y6d,y6i,xAe,xBe]
  rw[e];refine zH (λd=> ?_) (λd=> ?_)
  ·have w:aa.wrap ((i.b.spare.length:Int)-1)=((i.b.spare.length-1:Nat):Int):=by rw[w64 (by omega)];omega
   rw[w];simp only[y6m];obtain⟨q,hq⟩:=yA (l:=i.b.spare) (i:=i.b.spare.length-1) oM;have eq:i.b.newQ=(q,i.b.spare.take (i.b.spare.length-1),i.b.a):=by rw[Book.newQ,y5t (by omega),zT hq]
   rw[eq]at hins ⊢;refine⟨⟨oM,oM⟩,q,elI hq,⟨oM,oM⟩,trivial,⟨i.b.sells.map zB,zB ⟨i.price,q⟩,zY 2 i.b.sells i.price⟩,rfl,rfl,rfl,⟨by rw[y5u];exact hle,by rw[y5u];omega⟩,λ_ _=>⟨(),?_⟩⟩;have hs:iE (i.b.spare.take (i.b.spare.length-1))=(iE i.b.spare).take (i.b.spare.length-1):=by simp only[iE,xAe]
   exact kp
  ·have eq:i.b.newQ=((i.b.a.queues.length:Int),i.b.spare,i.b.a.openQ):=by rw[Book.newQ,y5v (by omega)]
   rw[eq]at hins ⊢;refine⟨i.b.a,rfl,oM,λ_ _=>⟨trivial,⟨i.b.sells.map zB,zB ⟨i.price,i.b.a.queues.length⟩,zY 2 i.b.sells i.price⟩,rfl,rfl,rfl,⟨by rw[y5u];exact hle,by rw[y5u];omega⟩,λ_ _=>⟨(),?_⟩⟩⟩
   exact kp
def yBa:queue2C.ok Tryz.prog 268:=okw mixed (gokc zOy (gokc zZo (gokc z7e gok0))) 0 (λ_=>[]) (λ_=>[]) [] Tryz.func268 yMc
structure BaI where
 b:Book
 id:Int
 price:Int
 qty:Int
def Book.leads (b:Book) (s price:Int):Bool:=match b.rungs s with
 |[]=>ay
 |r::_=>btr s price r.price
def Book.led (b:Book) (id s price:Int):Book:=if b.leads s price=ay then b.leadF id s else b
def Book.stand (b:Book) (s id price qty:Int):Book:=
 let b2:=(b.led id s price).queueF s price
 let x:=b2.1.a.push b2.2 id qty (b.leads s price)
 {b2.1 with a:=x.1,at_:=tO id ⟨s,price,x.2.1⟩ b2.1.at_}
def Book.addF (b:Book) (s id price qty:Int):Book×Int:=
 if qty<1\/1000000<qty then(b,24)else if(pget b.at_ id).isSome=ay then(b,25)else if 250<=b.at_.length then(b,13)else(b.stand s id price qty,0)
def yGn (s:Int):Con:=con1 BaI (λi=>[.nm 0 0,zA i.id,zA s,zA i.price,zA i.qty]) (λi=>[z7 i.b]) (λi=>i.b.fit) (λi=>zA (i.b.addF s i.id i.price i.qty).2) (λi=>[z7 (i.b.addF s i.id i.price i.qty).1])
def yRp:List (Nat×SAnn):=[(44,bj 14)]
def badd1C:Con:=yGn 1
def badd2C:Con:=yGn 2
structure BaJ where
 i:BaI
 s:Bool
def baddC:Con:=con1 BaJ (λj=>[.nm 0 0,zA j.i.id,zA (zC j.s),zA j.i.price,zA j.i.qty]) (λj=>[z7 j.i.b]) (λj=>j.i.b.fit) (λj=>zA (j.i.b.addF (zC j.s) j.i.id j.i.price j.i.qty).2) (λj=>[z7 (j.i.b.addF (zC j.s) j.i.id j.i.price j.i.qty).1])
structure SaI where
 s:MSt
 inst:Int
 id:Int
 sd:Bool
 price:Int
 qty:Int
def MSt.bookAt (s:MSt) (n:Int):Book:=s.books.getD n.toNat book0
def MSt.addF (i:SaI):MSt×Int:=
 if i.inst<0\/i.s.books.length<=i.inst then(i.s,20)else if(zDm i.s.wh i.id).isSome=ay then(i.s,25)else if 250<=i.s.wh.length then(i.s,13)else if i.s.p.price i.inst i.price≠0 then(i.s,i.s.p.price i.inst i.price)
 else
  let x:=(i.s.bookAt i.inst).addF (zC i.sd) i.id i.price i.qty
  ({i.s with books:=i.s.books.set i.inst.toNat x.1,wh:=if x.2=0 then zYr i.id i.inst i.s.wh else i.s.wh},x.2)
@[reducible] def MSt.fit (s:MSt):Prop:=s.p.small/\s.books.length<=1000000/\∀b∈s.books,b.fit
def saddC:Con:=con1 SaI (λi=>[.nm 0 0,zA i.inst,zA i.id,zA (zC i.sd),zA i.price,zA i.qty]) (λi=>[zD i.s]) (λi=>i.s.fit) (λi=>zA (MSt.addF i).2) (λi=>[zD (MSt.addF i).1])
def sC (a:BkP):Prop:=(a.b.a.slots.length<=1000000/\(a.b.a.free≠0->∃(b:Slot),b∈a.b.a.slots/\b.used=az)/\∀(b:cV),b∈a.b.a.queues->b.last=(-1)\/0<=b.last/\b.last<(↑a.b.a.slots.length:Int))/\a.b.a.queues.length<=100000/\a.b.buys.length<=100000/\a.b.sells.length<=100000/\a.b.spare.length<=100000
def sA (a:PuI):Prop:=a.a.slots.length<=1000000/\(a.a.free≠0->∃(b:Slot),b∈a.a.slots/\b.used=az)/\∀(b:cV),b∈a.a.queues->b.last=(-1)\/0<=b.last/\b.last<(↑a.a.slots.length:Int)
def yP (a:BaI):=(a.b.addF 1 a.id a.price a.qty)
def zIf (a:BkP) (b:BaI) (c:Bool):Prop:=(sC a)/\∀(d:Unit),True->True/\∃(e:PuI),e.n=(zM a).snd/\e.id=b.id/\e.qty=b.qty/\e.top=c/\ao Arena 3 zG e.a=ao Arena 3 zG (zM a).fst.a/\(sA e)/\∀(f:Unit),True->(∀(g:Value×List D),g∈atE (zM a).fst.at_->like (bc aa b.id) g.fst=ay)/\∃(g:Unit),(yP b).snd=0/\(yP b).fst.top1=(zM a).fst.top1/\(yP b).fst.top2=(zM a).fst.top2/\(yP b).fst.has1=(zM a).fst.has1/\(yP b).fst.has2=(zM a).fst.has2/\ao Arena 3 zG (yP b).fst.a=ao Arena 3 zG (yI e).fst/\ac zB (yP b).fst.buys=ac zB (zM a).fst.buys/\ac zB (yP b).fst.sells=ac zB (zM a).fst.sells/\atE (yP b).fst.at_=uZ (bc aa b.id) [dI 1,dI b.price,dI ((yI e).snd.fst)] (atE (zM a).fst.at_)/\iE (yP b).fst.spare=iE (zM a).fst.spare/\True
def zBh (a:Bool->Prop) (b:Bool) (c:Int) (d:Int) (e:Int) (f:BaI):Prop:=a b/\dh (ap [V.d (dI c),V.d (dI d),V.d (dI e)] 313)/\dh (ap [V.nm 1 0,V.own 2,V.own 3,V.mp 4,V.d (dI f.b.top1),V.d (dI f.b.top2),V.own 5,V.d (D.v (.bool f.b.has1)),V.d (D.v (.bool f.b.has2))] (299:TypeId))/\dh (ao Arena 3 zG f.b.a)/\dh (au 304 2 (ac zB f.b.buys))/\dh (au 304 2 (ac zB f.b.sells))/\dh (aw (atE f.b.at_))/\dh (au 3 1 (iE f.b.spare))
def zBb (a:I3') (b:BaI) (c:Int) (d:Bool->Prop) (e:Int) (f:Int) (g:Int):Prop:=a.x=b.price/\a.y=c/\True/\∀(h:Unit),True->∃(j:Bool),j=btr a.side a.x a.y/\zBh d j e f g b
def l8 (a:Bool->Prop) (b:Int) (c:Int) (d:Int) (e:BaI):Prop:=∃(f:Bool),f=ay/\zBh a f b c d e
def pB (a:BaI):Prop:=(yP a).fst.top1=a.b.top1/\(yP a).fst.top2=a.b.top2/\(yP a).fst.has1=a.b.has1/\(yP a).fst.has2=a.b.has2/\ao Arena 3 zG (yP a).fst.a=ao Arena 3 zG a.b.a/\ac zB (yP a).fst.buys=ac zB a.b.buys/\ac zB (yP a).fst.sells=ac zB a.b.sells/\atE (yP a).fst.at_=atE a.b.at_/\iE (yP a).fst.spare=iE a.b.spare/\True
def zHn (a:BaI):Prop:=∃(b:Unit),(yP a).snd=24/\pB a
def rJ (a:BaI) (b:Int) (c:Int) (d:Int) (e:Bool):Prop:=kQ (bc aa a.id) (atE a.b.at_)=bg [dI b,dI c,dI d]/\e=ay\/kQ (bc aa a.id) (atE a.b.at_)=bo/\[dI b,dI c,dI d]=[dI 0,dI 0,dI 0]/\e=az
def rX (a:LdI):Prop:=(a.b.a.slots.length<=1000000/\a.b.a.queues.length<=1000000)/\a.b.buys.length<=1000000/\a.b.sells.length<=1000000/\a.b.spare.length<=1000000
def kA (a:Int):=(!(decide (a=1)||decide (a=2)))
def yDr (i:BaI):Prop:=
 (∀(a:Value×List D),a∈atE i.b.at_->like (bc aa i.id) a.fst=ay)/\∃(a:Bool),∃(b:Int),∃(c:Int),∃(d:Int),(rJ i b c d a)/\∃(e:Int),e=1/\True/\∀(f:Unit),True->cnd (kA e) (∃(g:Unit),(yP i).snd=21/\pB i) (cnd (decide (i.qty<1)) (zHn i) (cnd (decide (i.qty>1000000)) (zHn i) (cnd a (∃(g:Unit),(yP i).snd=25/\pB i) (cnd (decide ((↑(atE i.b.at_).length:Int)>=250)) (∃(g:Unit),(yP i).snd=13/\pB i) (∃(g:Bool),∃(h:Bool->Prop),cnd ((↑(ac zB i.b.buys).length:Int)==0) (l8 h b c d i) (((0:Int)<=(0:Int)/\0<(↑(ac zB i.b.buys).length:Int))/\∃(j:Int),zE (ac zB i.b.buys) (Int.toNat 0) 0 1=bg [dI j]/\∃(k:I3'),k.side=1/\zBb k i j h b c d)/\∀(j:Bool),h j->cnd j (∃(k:LdI),k.id=i.id/\dh ((1:Int))/\k.b.top1=i.b.top1/\k.b.top2=i.b.top2/\k.b.has1=i.b.has1/\k.b.has2=i.b.has2/\ao Arena 3 zG k.b.a=ao Arena 3 zG i.b.a/\ac zB k.b.buys=ac zB i.b.buys/\ac zB k.b.sells=ac zB i.b.sells/\atE k.b.at_=atE i.b.at_/\iE k.b.spare=iE i.b.spare/\(rX k)/\∀(l:Unit),True->∃(m:BkP),dh ((1:Int))/\m.price=i.price/\m.b.top1=k.id/\m.b.top2=k.b.top2/\m.b.has1=ay/\m.b.has2=k.b.has2/\ao Arena 3 zG m.b.a=ao Arena 3 zG (k.b.untop 1)/\ac zB m.b.buys=ac zB k.b.buys/\ac zB m.b.sells=ac zB k.b.sells/\atE m.b.at_=atE k.b.at_/\iE m.b.spare=iE k.b.spare/\zIf m i j) (∃(k:BkP),dh ((1:Int))/\k.price=i.price/\k.b.top1=i.b.top1/\k.b.top2=i.b.top2/\k.b.has1=i.b.has1/\k.b.has2=i.b.has2/\ao Arena 3 zG k.b.a=ao Arena 3 zG i.b.a/\ac zB k.b.buys=ac zB i.b.buys/\ac zB k.b.sells=ac zB i.b.sells/\atE k.b.at_=atE i.b.at_/\iE k.b.spare=iE i.b.spare/\zIf k i j))))))
def yL (a:BaI):=(a.b.addF 2 a.id a.price a.qty)
def zJg (a:BkP) (b:BaI) (c:Bool):Prop:=(sC a)/\∀(d:Unit),True->True/\∃(e:PuI),e.n=(zN a).snd/\e.id=b.id/\e.qty=b.qty/\e.top=c/\ao Arena 3 zG e.a=ao Arena 3 zG (zN a).fst.a/\(sA e)/\∀(f:Unit),True->(∀(g:Value×List D),g∈atE (zN a).fst.at_->like (bc aa b.id) g.fst=ay)/\∃(g:Unit),(yL b).snd=0/\(yL b).fst.top1=(zN a).fst.top1/\(yL b).fst.top2=(zN a).fst.top2/\(yL b).fst.has1=(zN a).fst.has1/\(yL b).fst.has2=(zN a).fst.has2/\ao Arena 3 zG (yL b).fst.a=ao Arena 3 zG (yI e).fst/\ac zB (yL b).fst.buys=ac zB (zN a).fst.buys/\ac zB (yL b).fst.sells=ac zB (zN a).fst.sells/\atE (yL b).fst.at_=uZ (bc aa b.id) [dI 2,dI b.price,dI ((yI e).snd.fst)] (atE (zN a).fst.at_)/\iE (yL b).fst.spare=iE (zN a).fst.spare/\True
def pA (a:BaI):Prop:=(yL a).fst.top1=a.b.top1/\(yL a).fst.top2=a.b.top2/\(yL a).fst.has1=a.b.has1/\(yL a).fst.has2=a.b.has2/\ao Arena 3 zG (yL a).fst.a=ao Arena 3 zG a.b.a/\ac zB (yL a).fst.buys=ac zB a.b.buys/\ac zB (yL a).fst.sells=ac zB a.b.sells/\atE (yL a).fst.at_=atE a.b.at_/\iE (yL a).fst.spare=iE a.b.spare/\True
def zHo (a:BaI):Prop:=∃(b:Unit),(yL a).snd=24/\pA a
def yKn (i:BaI):Prop:=
 (∀(a:Value×List D),a∈atE i.b.at_->like (bc aa i.id) a.fst=ay)/\∃(a:Bool),∃(b:Int),∃(c:Int),∃(d:Int),(rJ i b c d a)/\∃(e:Int),e=2/\True/\∀(f:Unit),True->cnd (kA e) (∃(g:Unit),(yL i).snd=21/\pA i) (cnd (decide (i.qty<1)) (zHo i) (cnd (decide (i.qty>1000000)) (zHo i) (cnd a (∃(g:Unit),(yL i).snd=25/\pA i) (cnd (decide ((↑(atE i.b.at_).length:Int)>=250)) (∃(g:Unit),(yL i).snd=13/\pA i) (∃(g:Bool),∃(h:Bool->Prop),cnd ((↑(ac zB i.b.sells).length:Int)==0) (l8 h b c d i) (((0:Int)<=(0:Int)/\0<(↑(ac zB i.b.sells).length:Int))/\∃(j:Int),zE (ac zB i.b.sells) (Int.toNat 0) 0 1=bg [dI j]/\∃(k:I3'),k.side=2/\zBb k i j h b c d)/\∀(j:Bool),h j->cnd j (∃(k:LdI),k.id=i.id/\dh ((2:Int))/\k.b.top1=i.b.top1/\k.b.top2=i.b.top2/\k.b.has1=i.b.has1/\k.b.has2=i.b.has2/\ao Arena 3 zG k.b.a=ao Arena 3 zG i.b.a/\ac zB k.b.buys=ac zB i.b.buys/\ac zB k.b.sells=ac zB i.b.sells/\atE k.b.at_=atE i.b.at_/\iE k.b.spare=iE i.b.spare/\(rX k)/\∀(l:Unit),True->∃(m:BkP),dh ((2:Int))/\m.price=i.price/\m.b.top1=k.b.top1/\m.b.top2=k.id/\m.b.has1=k.b.has1/\m.b.has2=ay/\ao Arena 3 zG m.b.a=ao Arena 3 zG (k.b.untop 2)/\ac zB m.b.buys=ac zB k.b.buys/\ac zB m.b.sells=ac zB k.b.sells/\atE m.b.at_=atE k.b.at_/\iE m.b.spare=iE k.b.spare/\zJg m i j) (∃(k:BkP),dh ((2:Int))/\k.price=i.price/\k.b.top1=i.b.top1/\k.b.top2=i.b.top2/\k.b.has1=i.b.has1/\k.b.has2=i.b.has2/\ao Arena 3 zG k.b.a=ao Arena 3 zG i.b.a/\ac zB k.b.buys=ac zB i.b.buys/\ac zB k.b.sells=ac zB i.b.sells/\atE k.b.at_=atE i.b.at_/\iE k.b.spare=iE i.b.spare/\zJg k i j))))))
def zHp (a:SaI):Prop:=aq 1 (iE (MSt.addF a).fst.p.months)=aq 1 (iE a.s.p.months)/\aq 1 (iE (MSt.addF a).fst.p.settle)=aq 1 (iE a.s.p.settle)/\True
def zIp (a:SaI):Prop:=yS (MSt.addF a).fst.wh=yS a.s.wh/\zHp a
def lL (a:SaI):Prop:=sb (MSt.addF a).fst.p.code=sb a.s.p.code/\(MSt.addF a).fst.p.tick=a.s.p.tick/\(MSt.addF a).fst.p.low=a.s.p.low/\(MSt.addF a).fst.p.high=a.s.p.high/\(MSt.addF a).fst.p.wide=a.s.p.wide/\(MSt.addF a).fst.p.rule=a.s.p.rule/\(MSt.addF a).fst.p.top=a.s.p.top/\(MSt.addF a).fst.p.least=a.s.p.least/\(MSt.addF a).fst.p.part=a.s.p.part/\ar 241 Book 6 zP (MSt.addF a).fst.books bo=ar 241 Book 6 zP a.s.books bo/\zIp a
def zMu (a:SaI):Prop:=∃(b:Unit),(MSt.addF a).snd=20/\lL a
def pO (a:BaJ):=(a.i.b.addF (zC a.s) a.i.id a.i.price a.i.qty)
def yRk (i:SaI):Prop:=
 (∀(a:Value×List D),a∈yS i.s.wh->like (bc aa i.id) a.fst=ay)/\∃(a:Bool),∃(b:Int),(kQ (bc aa i.id) (yS i.s.wh)=bg [dI b]/\a=ay\/kQ (bc aa i.id) (yS i.s.wh)=bo/\[dI b]=[dI 0]/\a=az)/\cnd (decide (i.inst>=0)) (cnd (!decide (i.inst<(↑i.s.books.length:Int))) (zMu i) (cnd a (∃(c:Unit),(MSt.addF i).snd=25/\lL i) (cnd (decide ((↑(yS i.s.wh).length:Int)>=250)) (∃(c:Unit),(MSt.addF i).snd=13/\lL i) (∃(c:eD),sb c.p.code=sb i.s.p.code/\iE c.p.months=iE i.s.p.months/\c.p.tick=i.s.p.tick/\c.p.low=i.s.p.low/\c.p.high=i.s.p.high/\c.p.wide=i.s.p.wide/\c.p.rule=i.s.p.rule/\c.p.top=i.s.p.top/\c.p.least=i.s.p.least/\c.p.part=i.s.p.part/\iE c.p.settle=iE i.s.p.settle/\c.a=i.inst/\c.b=i.price/\(qD c)/\∀(d:Unit),True->cnd (c.p.price c.a c.b !=0) (∃(e:Unit),(MSt.addF i).snd=c.p.price c.a c.b/\lL i) ((0<=i.inst/\i.inst<(↑i.s.books.length:Int))/\i.inst.toNat<i.s.books.length/\∃(e:Book),i.s.books[i.inst.toNat]?=bg e/\∃(f:BaJ),f.i.id=i.id/\zC f.s=zC i.sd/\f.i.price=i.price/\f.i.qty=i.qty/\z7 f.i.b=z7 e/\((f.i.b.a.slots.length<=1000000/\(f.i.b.a.free≠0->∃(g:Slot),g∈f.i.b.a.slots/\g.used=az)/\∀(g:cV),g∈f.i.b.a.queues->g.last=(-1)\/0<=g.last/\g.last<(↑f.i.b.a.slots.length:Int))/\f.i.b.a.queues.length<=100000/\f.i.b.buys.length<=100000/\f.i.b.sells.length<=100000/\f.i.b.spare.length<=100000)/\∀(g:Unit),True->∃(h:Book),z7 (pO f).fst=z7 h/\dh i.inst.toNat/\i.inst.toNat<i.s.books.length/\cnd ((pO f).snd==0) ((∀(j:Value×List D),j∈yS i.s.wh->like (bc aa i.id) j.fst=ay)/\∃(j:Unit),(MSt.addF i).snd=(pO f).snd/\sb (MSt.addF i).fst.p.code=sb i.s.p.code/\(MSt.addF i).fst.p.tick=i.s.p.tick/\(MSt.addF i).fst.p.low=i.s.p.low/\(MSt.addF i).fst.p.high=i.s.p.high/\(MSt.addF i).fst.p.wide=i.s.p.wide/\(MSt.addF i).fst.p.rule=i.s.p.rule/\(MSt.addF i).fst.p.top=i.s.p.top/\(MSt.addF i).fst.p.least=i.s.p.least/\(MSt.addF i).fst.p.part=i.s.p.part/\ar 241 Book 6 zP (MSt.addF i).fst.books bo=ar 241 Book 6 zP (i.s.books.set i.inst.toNat h) bo/\yS (MSt.addF i).fst.wh=uZ (bc aa i.id) [dI i.inst] (yS i.s.wh)/\zHp i) (∃(j:Unit),(MSt.addF i).snd=(pO f).snd/\sb (MSt.addF i).fst.p.code=sb i.s.p.code/\(MSt.addF i).fst.p.tick=i.s.p.tick/\(MSt.addF i).fst.p.low=i.s.p.low/\(MSt.addF i).fst.p.high=i.s.p.high/\(MSt.addF i).fst.p.wide=i.s.p.wide/\(MSt.addF i).fst.p.rule=i.s.p.rule/\(MSt.addF i).fst.p.top=i.s.p.top/\(MSt.addF i).fst.p.least=i.s.p.least/\(MSt.addF i).fst.p.part=i.s.p.part/\ar 241 Book 6 zP (MSt.addF i).fst.books bo=ar 241 Book 6 zP (i.s.books.set i.inst.toNat h) bo/\zIp i)))))) (zMu i)
def zMe {α:Type} {f:α->α} {Q:α->Prop} (hf:∀x,Q x->Q (f x)):∀{l:List α} (i:Nat),(∃x∈l,Q x)->∃x∈l.modify i f,Q x
 |[],i,⟨x,hx,_⟩=>by cases hx
 |a::l,0,⟨x,hx,q⟩=>by
  rcases y6o.1 hx with rfl|hx
  ·exact⟨f x,y5z,hf x q⟩
  ·exact⟨x,y6b _ hx,q⟩
 |a::l,i+1,⟨x,hx,q⟩=>by
  rw[xBd];rcases y6o.1 hx with rfl|hx
  ·exact⟨x,y5z,q⟩
  ·obtain⟨y,hy,hq⟩:=zMe hf (l:=l) i ⟨x,hx,q⟩;exact⟨y,y6b _ hy,hq⟩
def yIa {a:Arena} (h:a.fit) (n:Int) (t:Bool):(a.topF n t).fit:=by
 obtain⟨h1,h2,h3⟩:=h;rw[Arena.topF];split
 ·refine⟨by simpa using h1,λhf=> ?_,by simpa using h3⟩;exact zMe (f:=λs:Slot=>{s with top:=t}) (Q:=λs=>s.used=az) (λx hx=>hx) _ (h2 hf)
 ·exact⟨h1,h2,h3⟩
def yCz {b:Book} (h:b.a.fit) (s:Int):(b.untop s).fit:=by
 rw[Book.untop]
 repeat' split
 all_goals first|exact h|exact yIa h _ _
def yAu {a:Arena} (h:a.fit):a.openQ.fit:=by
 obtain⟨h1,h2,h3⟩:=h;refine⟨h1,h2,λq hq=> ?_⟩;rcases y6y.1 hq with hq|hq
 ·exact h3 q hq
 ·rw[y7g.1 hq];exact .inl rfl
def z0a {b:Book} (h:b.a.fit):b.newQ.2.2.fit:=by
 rw[Book.newQ];split
 ·exact yAu h
 ·exact h
def sB {b:Book} (h:b.a.fit) (s p:Int):(b.queueF s p).1.a.fit:=by
 rw[Book.queueF]
 repeat' split
 ·exact h
 ·exact z0a h
 ·exact z0a h
def yAr (b:Book) (s:Int):(b.untop s).slots.length=b.a.slots.length/\(b.untop s).queues=b.a.queues:=by
 have ht:∀n t,(b.a.topF n t).slots.length=b.a.slots.length/\(b.a.topF n t).queues=b.a.queues:=by
  intro n t;rw[Arena.topF];split
  ·exact⟨by simp,rfl⟩
  ·exact⟨rfl,rfl⟩
 rw[Book.untop]
 repeat' split
 all_goals first|exact⟨rfl,rfl⟩|exact ht _ _
def zTf {b:Book} (h:b.fit) (id s:Int):(b.leadF id s).fit:=by
 obtain⟨h1,h2,h3,h4,h5⟩:=h;have hl:=yAr b s;rw[Book.leadF];split
 all_goals exact⟨yCz h1 s,by rw[hl.2];exact h2,h3,h4,h5⟩
def zRz {b:Book} (h:b.fit):b.small:=by
 obtain⟨⟨h1,_⟩,h2,h3,h4,h5⟩:=h;exact⟨⟨h1,oM⟩,oM,oM,oM⟩
def yUa (i:BaI) (h:badd1C.cnd i):yDr i:=by
 have hfit:i.b.fit:=h;have hsm:=zRz hfit;unfold yDr zHn pB l8 zBb zBh kA zIf zM yP sA sC yI rX rJ dI;have plc:∀(b:Book) (x:Int),uZ (bc aa i.id) [D.v (.int .i64 1),D.v (.int .i64 i.price),D.v (.int .i64 x)] (atE b.at_)=atE (tO i.id ⟨1,i.price,x⟩ b.at_):=λb x=>zVa i.id ⟨1,i.price,x⟩ b.at_
 refine⟨wA _ _,(pget i.b.at_ i.id).isSome,_,_,_,zSm _ _,1,rfl,trivial,λ_ _=> ?_⟩;refine Cv.cnd.mk (λc=>absurd c Z8) λ_=> ?_
 refine zH (λc=> ?_) (λc=>zH (λd=> ?_) (λd=> ?_))
 ·have ha:i.b.addF 1 i.id i.price i.qty=(i.b,24):=by rw[Book.addF,y5v (.inl c)]
  rw[ha];exact kp
 ·have ha:i.b.addF 1 i.id i.price i.qty=(i.b,24):=by rw[Book.addF,y5v (.inr d)]
  rw[ha];exact kp
 have hq:¬(i.qty<1\/1000000<i.qty):=by omega
 refine Cv.cnd.mk (λe=> ?_) (λe=> ?_)
 ·have ha:i.b.addF 1 i.id i.price i.qty=(i.b,25):=by rw[Book.addF,y5t hq,y5v e]
  rw[ha];exact kp
 have hlen:(atE i.b.at_).length=i.b.at_.length:=by simp[atE]
 rw[hlen];refine zH (λf=> ?_) (λf=> ?_)
 ·have ha:i.b.addF 1 i.id i.price i.qty=(i.b,13):=by rw[Book.addF,y5t hq,y5t (by rw[e];decide),y5v (by omega)]
  rw[ha];exact kp
 have ha:i.b.addF 1 i.id i.price i.qty=(i.b.stand 1 i.id i.price i.qty,0):=by rw[Book.addF,y5t hq,y5t (by rw[e];decide),y5t (by omega)]
 rw[ha];simp only[y5u];refine⟨ay,λx=>x=i.b.leads 1 i.price,Cv.cnd.mk (λg=>⟨ay,rfl,?_,k0q⟩) (λg=> ?_),λx hx=> ?_⟩
 ·have:i.b.buys=[]:=y6u (by have:(i.b.buys.length:Int)=0:=(by simpa using g);omega);rw[Book.leads,sX,this]
 ·obtain⟨r,l,hl⟩:∃r l,i.b.buys=r::l:=by
   cases hb:i.b.buys with
   |nil=>rw[hb]at g;exact absurd g Z8
   |cons r l=>exact⟨r,l,rfl⟩
  refine⟨⟨oM,by rw[hl,y5y];omega⟩,r.price,elA (x:=r) (by rw[hl];rfl) (by simp[zB]) rfl,⟨1,i.price,r.price⟩,rfl,rfl,rfl,trivial,λ_ _=>⟨_,rfl,?_,k0q⟩⟩;rw[Book.leads,sX,hl]
 subst hx;refine Cv.cnd.mk (λg=> ?_) (λg=> ?_)
 ·have hled:i.b.led i.id 1 i.price=i.b.leadF i.id 1:=by rw[Book.led,y5v g]
  have hf1:=zTf hfit i.id 1;have hst:i.b.stand 1 i.id i.price i.qty={((i.b.leadF i.id 1).queueF 1 i.price).1 with a:=(((i.b.leadF i.id 1).queueF 1 i.price).1.a.push ((i.b.leadF i.id 1).queueF 1 i.price).2 i.id i.qty (i.b.leads 1 i.price)).1,at_:=tO i.id ⟨1,i.price,(((i.b.leadF i.id 1).queueF 1 i.price).1.a.push ((i.b.leadF i.id 1).queueF 1 i.price).2 i.id i.qty (i.b.leads 1 i.price)).2.1⟩ ((i.b.leadF i.id 1).queueF 1 i.price).1.at_}:=by
   simp only[Book.stand,hled]
  refine⟨⟨i.b,i.id⟩,rfl,trivial,rF8 ⟨rfl,hsm,λ_ _=>⟨⟨i.b.leadF i.id 1,i.price⟩,trivial,rF6 (rF3 ⟨rfl,hf1,λ_ _=>⟨trivial,?_⟩⟩)⟩⟩⟩;refine⟨⟨((i.b.leadF i.id 1).queueF 1 i.price).1.a,((i.b.leadF i.id 1).queueF 1 i.price).2,i.id,i.qty,i.b.leads 1 i.price⟩,rF4 ⟨rfl,sB hf1.1 1 i.price,λ_ _=>⟨wA _ _,(),?_⟩⟩⟩;dsimp only;rw[hst,plc]
  exact kp
 ·have hled:i.b.led i.id 1 i.price=i.b:=by rw[Book.led,y5t (by rw[g];decide)]
  have hst:i.b.stand 1 i.id i.price i.qty={(i.b.queueF 1 i.price).1 with a:=((i.b.queueF 1 i.price).1.a.push (i.b.queueF 1 i.price).2 i.id i.qty (i.b.leads 1 i.price)).1,at_:=tO i.id ⟨1,i.price,((i.b.queueF 1 i.price).1.a.push (i.b.queueF 1 i.price).2 i.id i.qty (i.b.leads 1 i.price)).2.1⟩ (i.b.queueF 1 i.price).1.at_}:=by
   simp only[Book.stand,hled]
  refine⟨⟨i.b,i.price⟩,trivial,rF6 (rF3 ⟨rfl,hfit,λ_ _=>⟨trivial,?_⟩⟩)⟩;refine⟨⟨(i.b.queueF 1 i.price).1.a,(i.b.queueF 1 i.price).2,i.id,i.qty,i.b.leads 1 i.price⟩,rF4 ⟨rfl,sB hfit.1 1 i.price,λ_ _=>⟨wA _ _,(),?_⟩⟩⟩;dsimp only;rw[hst,plc]
  exact kp
def yHg:badd1C.ok Tryz.prog 240:=okw mixed (gokc lN (gokc aW (gokc yEv (gokc yAo (gokc z1a gok0))))) 0 (λ_=>yRp) (λ_=>[]) [0] Tryz.func240 yUa
def yXl (i:BaI) (h:badd2C.cnd i):yKn i:=by
 have hfit:i.b.fit:=h;have hsm:=zRz hfit;unfold yKn zHo pA zJg zN yL sA sC yI l8 zBb zBh kA rX rJ dI;have plc:∀(b:Book) (x:Int),uZ (bc aa i.id) [D.v (.int .i64 2),D.v (.int .i64 i.price),D.v (.int .i64 x)] (atE b.at_)=atE (tO i.id ⟨2,i.price,x⟩ b.at_):=λb x=>zVa i.id ⟨2,i.price,x⟩ b.at_
 refine⟨wA _ _,(pget i.b.at_ i.id).isSome,_,_,_,zSm _ _,2,rfl,trivial,λ_ _=> ?_⟩;refine Cv.cnd.mk (λc=>absurd c Z8) λ_=> ?_
 refine zH (λc=> ?_) (λc=>zH (λd=> ?_) (λd=> ?_))
 ·have ha:i.b.addF 2 i.id i.price i.qty=(i.b,24):=by rw[Book.addF,y5v (.inl c)]
  rw[ha];exact kp
 ·have ha:i.b.addF 2 i.id i.price i.qty=(i.b,24):=by rw[Book.addF,y5v (.inr d)]
  rw[ha];exact kp
 have hq:¬(i.qty<1\/1000000<i.qty):=by omega
 refine Cv.cnd.mk (λe=> ?_) (λe=> ?_)
 ·have ha:i.b.addF 2 i.id i.price i.qty=(i.b,25):=by rw[Book.addF,y5t hq,y5v e]
  rw[ha];exact kp
 have hlen:(atE i.b.at_).length=i.b.at_.length:=by simp[atE]
 rw[hlen];refine zH (λf=> ?_) (λf=> ?_)
 ·have ha:i.b.addF 2 i.id i.price i.qty=(i.b,13):=by rw[Book.addF,y5t hq,y5t (by rw[e];decide),y5v (by omega)]
  rw[ha];exact kp
 have ha:i.b.addF 2 i.id i.price i.qty=(i.b.stand 2 i.id i.price i.qty,0):=by rw[Book.addF,y5t hq,y5t (by rw[e];decide),y5t (by omega)]
 rw[ha];simp only[y5u];refine⟨ay,λx=>x=i.b.leads 2 i.price,Cv.cnd.mk (λg=>⟨ay,rfl,?_,k0q⟩) (λg=> ?_),λx hx=> ?_⟩
 ·have:i.b.sells=[]:=y6u (by have:(i.b.sells.length:Int)=0:=(by simpa using g);omega);rw[Book.leads,rV,this]
 ·obtain⟨r,l,hl⟩:∃r l,i.b.sells=r::l:=by
   cases hb:i.b.sells with
   |nil=>rw[hb]at g;exact absurd g Z8
   |cons r l=>exact⟨r,l,rfl⟩
  refine⟨⟨oM,by rw[hl,y5y];omega⟩,r.price,elA (x:=r) (by rw[hl];rfl) (by simp[zB]) rfl,⟨2,i.price,r.price⟩,rfl,rfl,rfl,trivial,λ_ _=>⟨_,rfl,?_,k0q⟩⟩;rw[Book.leads,rV,hl]
 subst hx;refine Cv.cnd.mk (λg=> ?_) (λg=> ?_)
 ·have hled:i.b.led i.id 2 i.price=i.b.leadF i.id 2:=by rw[Book.led,y5v g]
  have hf1:=zTf hfit i.id 2;have hst:i.b.stand 2 i.id i.price i.qty={((i.b.leadF i.id 2).queueF 2 i.price).1 with a:=(((i.b.leadF i.id 2).queueF 2 i.price).1.a.push ((i.b.leadF i.id 2).queueF 2 i.price).2 i.id i.qty (i.b.leads 2 i.price)).1,at_:=tO i.id ⟨2,i.price,(((i.b.leadF i.id 2).queueF 2 i.price).1.a.push ((i.b.leadF i.id 2).queueF 2 i.price).2 i.id i.qty (i.b.leads 2 i.price)).2.1⟩ ((i.b.leadF i.id 2).queueF 2 i.price).1.at_}:=by
   simp only[Book.stand,hled]
  refine⟨⟨i.b,i.id⟩,rfl,trivial,rF8 ⟨rfl,hsm,λ_ _=>⟨⟨i.b.leadF i.id 2,i.price⟩,trivial,rF6 (rF3 ⟨rfl,hf1,λ_ _=>⟨trivial,?_⟩⟩)⟩⟩⟩;refine⟨⟨((i.b.leadF i.id 2).queueF 2 i.price).1.a,((i.b.leadF i.id 2).queueF 2 i.price).2,i.id,i.qty,i.b.leads 2 i.price⟩,rF4 ⟨rfl,sB hf1.1 2 i.price,λ_ _=>⟨wA _ _,(),?_⟩⟩⟩;dsimp only;rw[hst,plc]
  exact kp
 ·have hled:i.b.led i.id 2 i.price=i.b:=by rw[Book.led,y5t (by rw[g];decide)]
  have hst:i.b.stand 2 i.id i.price i.qty={(i.b.queueF 2 i.price).1 with a:=((i.b.queueF 2 i.price).1.a.push (i.b.queueF 2 i.price).2 i.id i.qty (i.b.leads 2 i.price)).1,at_:=tO i.id ⟨2,i.price,((i.b.queueF 2 i.price).1.a.push (i.b.queueF 2 i.price).2 i.id i.qty (i.b.leads 2 i.price)).2.1⟩ (i.b.queueF 2 i.price).1.at_}:=by
   simp only[Book.stand,hled]
  refine⟨⟨i.b,i.price⟩,trivial,rF6 (rF3 ⟨rfl,hfit,λ_ _=>⟨trivial,?_⟩⟩)⟩;refine⟨⟨(i.b.queueF 2 i.price).1.a,(i.b.queueF 2 i.price).2,i.id,i.qty,i.b.leads 2 i.price⟩,rF4 ⟨rfl,sB hfit.1 2 i.price,λ_ _=>⟨wA _ _,(),?_⟩⟩⟩;dsimp only;rw[hst,plc]
  exact kp
def yDj:badd2C.ok Tryz.prog 240:=okw mixed (gokc lN (gokc aW (gokc yEm (gokc yBa (gokc z1a gok0))))) 0 (λ_=>yRp) (λ_=>[]) [0] Tryz.func240 yXl
def yNr:baddC.ok Tryz.prog 240:=λj=>match j with
 |⟨i,az⟩=>yHg i
 |⟨i,ay⟩=>yDj i
def yYr (i:SaI) (h:saddC.cnd i):yRk i:=by
 obtain⟨hp,hbl,hb⟩:i.s.fit:=h;unfold yRk zMu lL pO zIp zHp qD dI;simp only[zZr];have hml:(yS i.s.wh).length=i.s.wh.length:=by simp[yS]
 rw[hml];have out (e:i.inst<0\/i.s.books.length<=i.inst):MSt.addF i=(i.s,20):=by rw[MSt.addF,y5v e]
 refine⟨dR _ _,(zDm i.s.wh i.id).isSome,_,yXa _ _,zH (λc=>Cv.cnd.mk (λd=> ?_) (λd=> ?_)) (λc=> ?_)⟩
 ·have d:¬i.inst<(i.s.books.length:Int):=by simpa using d
  rw[out (.inr (by omega))];exact kp
 ·have d:i.inst<(i.s.books.length:Int):=by simpa using d
  have hn:¬(i.inst<0\/(i.s.books.length:Int)<=i.inst):=by omega
  refine Cv.cnd.mk (λe=> ?_) (λe=>zH (λf=> ?_) (λf=> ?_))
  ·rw[MSt.addF,y5t hn,y5v e];exact kp
  ·rw[MSt.addF,y5t hn,y5t (by rw[e];decide),y5v (by omega)];exact kp
  ·refine⟨⟨i.s.p,i.inst,i.price⟩,rF8 (rF4 ⟨rfl,hp,λ_ _=>Cv.cnd.mk (λg=> ?_) (λg=> ?_)⟩)⟩
   ·have g:i.s.p.price i.inst i.price≠0:=by simpa using g
    rw[MSt.addF,y5t hn,y5t (by rw[e];decide),y5t (by omega),y5v g];exact kp
   ·have g:i.s.p.price i.inst i.price=0:=by simpa using g
    obtain⟨x,hx⟩:=yA (l:=i.s.books) (i:=i.inst.toNat) oM;have hba:i.s.bookAt i.inst=x:=zT hx;have ha:MSt.addF i=({i.s with books:=i.s.books.set i.inst.toNat (x.addF (zC i.sd) i.id i.price i.qty).1,wh:=if(x.addF (zC i.sd) i.id i.price i.qty).2=0 then zYr i.id i.inst i.s.wh else i.s.wh},(x.addF (zC i.sd) i.id i.price i.qty).2):=by
     rw[MSt.addF,y5t hn,y5t (by rw[e];decide),y5t (by omega),y5t (by simp[g])];simp only[hba]
    refine⟨⟨oM,oM⟩,oM,x,hx,⟨⟨x,i.id,i.price,i.qty⟩,i.sd⟩,rF4 ⟨rfl,hb x (y6e hx),λ_ _=>⟨(x.addF (zC i.sd) i.id i.price i.qty).1,rfl,trivial,oM,Cv.cnd.mk (λz=>⟨dR _ _,?_⟩) (λz=> ?_)⟩⟩⟩
    ·have z:(x.addF (zC i.sd) i.id i.price i.qty).2=0:=by simpa using z
     rw[ha,z];simp only[if_true]
     exact kp
    ·have z:¬(x.addF (zC i.sd) i.id i.price i.qty).2=0:=by simpa using z
     rw[ha,y5t z]
     exact kp
 ·rw[out (.inl (by omega))];exact kp
def yNv:saddC.ok Tryz.prog 209:=okw mixed (gokc eN (gokc yNr gok0)) 1 (λ_=>[]) (λ_=>[]) [0] Tryz.func209 yYr
def r3prodC:Con:=con1 (List UInt8) (λs=>[sV s]) (λ_=>[]) (λs=>s.length<=1099511627776) (λs=>yR (wF s)) (λ_=>[])
def yNi (s:List UInt8):List SAnn:=[{ι:=Nat×Nat,slots:=λx=>[(3,zA x.2),(7,.nm 0 0)],rows:=λx=>[.iter (sb s) x.1]}]
def yPh:List (Nat×SAnn):=[(20,bj 29)]
def r5checkC:Con:=con1 Prd (λp=>[prdV p]) (λ_=>[]) Prd.small (λp=>zA p.check) (λ_=>[])
def yIl:List SAnn:=[{ι:=Nat,slots:=λj=>[(3,zA j)],rows:=λ_=>[]},{ι:=Nat,slots:=λj=>[(4,zA j)],rows:=λ_=>[]},{ι:=Nat,slots:=λj=>[(5,zA j)],rows:=λ_=>[]}]
def yIc:List (Nat×SAnn):=[(12,bj 19),(32,bj 58),(40,bj 90),(68,bj 136),(96,bj 168),(104,bj 176),(112,bj 204)]
def r5countC:Con:=con1 Prd (λp=>[prdV p]) (λ_=>[]) Prd.small (λp=>zA p.count) (λ_=>[])
def r5legsC:Con:=con1 c8 (λi=>[prdV i.p,zA i.n]) (λ_=>[]) (λi=>i.p.small) (λi=> .tup [zA (i.p.legs i.n).1,zA (i.p.legs i.n).2.1,yR (i.p.legs i.n).2.2]) (λ_=>[])
def yOa (i:c8):List SAnn:=[{ι:=Nat,slots:=λm=>[(8,zA (yJ i.p.months.length m)),(9,zA m)],rows:=λ_=>[]},
 {ι:=Nat×Nat,slots:=λm=>[(8,zA ((yJ i.p.months.length m.1+m.2:Nat):Int)),(9,zA m.1),(10,zA ((m.1+1+m.2:Nat):Int))],rows:=λ_=>[]}]
def kN (x:Prd):Int:=2+zF x.months.length 0 3
def zS (x:Prd):Int:=1+zF x.tick 0 9
def qI (n:Nat):List Int:=(aj n).map λ(i:Nat)=>10*(i:Int)+3
def kK (t:Int) (n:Nat):List Int:=(aj n).map λ(i:Nat)=>t*(10+(i:Int))
def kprod (x:Prd):Prd:=⟨[206,169],qI (kN x).toNat,zS x,-20*zS x,100*zS x,zS x*(5+zF x.wide 0 60),1+zF x.rule 0 2,zF x.top 0 9,1+zF x.least 0 4,zF x.part 0 100,kK (zS x) (kN x).toNat⟩
@[reducible] def Prd.raw (x:Prd):Prop:=yY x.tick/\yY x.wide/\yY x.rule/\yY x.top/\yY x.least/\yY x.part/\x.months.length<=9223372036854775807
def kprodC:Con:=con1 Prd (λx=>[prdV x]) (λ_=>[]) Prd.raw (λx=>prdV (kprod x)) (λ_=>[])
def y4a (x:Prd) (w:Int) (j:Nat):List AObj:=[.cells [sV [206,169],.own 1,zA (zS x),zA (-20*zS x),zA (100*zS x),zA w,zA (1+zF x.rule 0 2),zA (zF x.top 0 9),zA (1+zF x.least 0 4),zA (zF x.part 0 100),.own 2] 25,.own 3 1 (iE (qI j)),.own 2 1 (iE (kK (zS x) j))]
def y1y (x:Prd):List AObj:=[.cells [sV [206,169],.d (.v (.slice bo 0 0)),zA (zS x),zA (-20*zS x),zA (100*zS x),zA 0,zA (1+zF x.rule 0 2),zA (zF x.top 0 9),zA (1+zF x.least 0 4),zA (zF x.part 0 100),.d (.v (.slice bo 0 0))] 25]
def yVx (x:Prd):List SAnn:=[{ι:=Nat,slots:=λj=>[(5,.nm 0 0),(6,zA j)],rows:=λj=>y4a x (zS x*(5+zF x.wide 0 60)) j}]
def yVu (x:Prd):List (Nat×SAnn):=[(12,{ι:=Unit,slots:=λ_=>[(5,.nm 0 0)],slots0:=λ_=>[],rows0:=λ_=>[],rows:=λ_=>y1y x})]
def m5 (a:Bool->Prop) (b:Bool) (c:List UInt8) (d:Nat×Nat):Prop:=a b/\dh (av (sb c) (d.fst+(bu (sb c) d.fst).snd))
def qG (a:List UInt8) (b:Nat×Nat):=(↑(bu (sb a) b.fst).fst:Int)
def lJ (a:List UInt8) (b:Nat×Nat) (c:Bool->Prop):Prop:=∃(d:Bool),d=!(qG a b) !=930/\m5 c d a b
def bD (a:Bool->Prop) (b:List UInt8) (c:Nat×Nat):Prop:=∃(d:Bool),d=!false/\m5 a d b c
def z5q (s:List UInt8):Prop:=
 ∃(a:Nat×Nat),(↑a.snd:Int)=0/\sb s=sb s/\a.fst=0/\∃(b:Nat×Nat->Prop),∃(c:Nat×Nat->Nat),b a/\∀(d:Nat×Nat),b d->cnd (d.fst.blt (sb s).size) (∃(e:Bool),∃(f:Bool->Prop),cnd (decide ((qG s d)>=65)) (cnd (decide ((qG s d)<=90)) (∃(g:Bool),g=!true/\m5 f g s d) (cnd (decide ((qG s d)>=913)) (cnd (decide ((qG s d)<=937)) (lJ s d f) (bD f s d)) (bD f s d))) (cnd (decide ((qG s d)>=913)) (cnd (decide ((qG s d)<=937)) (lJ s d f) (bD f s d)) (bD f s d))/\∀(g:Bool),f g->cnd g (∃(h:Unit),wF s=az/\True) (cF d s b c)) (cnd (decide ((↑d.snd:Int)>=1)) (∃(e:Unit),wF s=decide ((↑d.snd:Int)<=4)/\True) (∃(e:Unit),wF s=az/\True))
def mL (a:Prd):Prop:=ap [V.d (uO a),V.own 0,V.d (dI a.tick),V.d (dI a.low),V.d (dI a.high),V.d (dI a.wide),V.d (dI a.rule),V.d (dI a.top),V.d (dI a.least),V.d (dI a.part),V.own 1] 25=ap [V.d (uO a),V.own 0,V.d (dI a.tick),V.d (dI a.low),V.d (dI a.high),V.d (dI a.wide),V.d (dI a.rule),V.d (dI a.top),V.d (dI a.least),V.d (dI a.part),V.own 1] 25/\aC a
def lF (a:Nat) (b:Nat->Prop) (c:Nat->Nat) (d:Prd):Prop:=∃(e:Nat),(↑e:Int)=aa.wrap ((↑a:Int)+1)/\b e/\c e<c a/\mL d
def lQ (a:Bool->Prop) (b:Prd) (c:Nat) (d:Nat->Prop) (e:Nat->Nat):Prop:=∀(f:Bool),a f->cnd f (∃(g:Unit),b.check=1/\True) (lF c d e b)
def qR (a:Bool->Prop) (b:Bool) (c:Prd):Prop:=a b/\mL c
def yO (a:Bool->Prop) (b:Prd):Prop:=∃(c:Bool),c=ay/\qR a c b
def zZq (p:Prd):Prop:=
 ∃(a:List UInt8),sb a=sb p.code/\a.length<=1099511627776/\∀(b:Unit),True->cnd (!wF a) (∃(c:Unit),p.check=12/\True) (∃(c:Bool),∃(d:Bool->Prop),cnd (decide ((xF p)<2)) (yO d p) (∃(e:Bool),e=decide ((xF p)>6)/\qR d e p)/\∀(e:Bool),d e->cnd e (∃(f:Unit),p.check=1/\True) (∃(f:Nat),(↑f:Int)=0/\∃(g:Nat->Prop),∃(h:Nat->Nat),g f/\∀(j:Nat),g j->cnd (decide ((↑j:Int)<(xF p))) (∃(k:Bool),∃(l:Bool->Prop),((0<=(↑j:Int)/\(↑j:Int)<(xF p))/\∃(m:Int),zE (iE p.months) (↑j:Int).toNat 0 1=bg [dI m]/\cnd (decide (m<0)) (yO l p) ((0<=(↑j:Int)/\(↑j:Int)<(xF p))/\∃(n:Int),zE (iE p.months) (↑j:Int).toNat 0 1=bg [dI n]/\cnd (decide (n>1199)) (yO l p) (cnd (decide ((↑j:Int)>0)) ((0<=aa.wrap ((↑j:Int)-1)/\aa.wrap ((↑j:Int)-1)<(xF p))/\∃(q:Int),zE (iE p.months) (aa.wrap ((↑j:Int)-1)).toNat 0 1=bg [dI q]/\(0<=(↑j:Int)/\(↑j:Int)<(xF p))/\∃(r:Int),zE (iE p.months) (↑j:Int).toNat 0 1=bg [dI r]/\∃(s:Bool),s=decide (q>=r)/\qR l s p) (∃(q:Bool),q=az/\qR l q p))))/\lQ l p j g h) (∃(k:Bool),∃(l:Bool->Prop),cnd (decide (p.tick<1)) (yO l p) (cnd (decide (p.tick>1000)) (yO l p) (aa=aa/\p.tick≠0/\cnd (p.low.tmod p.tick !=0) (yO l p) (aa=aa/\p.tick≠0/\cnd (p.high.tmod p.tick !=0) (yO l p) (aa=aa/\p.tick≠0/\∃(m:Bool),m=(p.wide.tmod p.tick !=0)/\qR l m p))))/\∀(m:Bool),l m->cnd m (∃(n:Unit),p.check=22/\True) (∃(n:Nat),(↑n:Int)=0/\∃(q:Nat->Prop),∃(r:Nat->Nat),q n/\∀(s:Nat),q s->cnd (decide ((↑s:Int)<(vD p))) ((0<=(↑s:Int)/\(↑s:Int)<(vD p))/\∃(t:Int),zE (iE p.settle) (↑s:Int).toNat 0 1=bg [dI t]/\aa=aa/\p.tick≠0/\cnd (t.tmod p.tick !=0) (∃(u:Unit),p.check=22/\True) (lF s q r p)) (∃(t:Bool),∃(u:Bool->Prop),cnd (decide (p.low<(-1000000))) (yO u p) (cnd (decide (p.low>=p.high)) (yO u p) (cnd (decide (p.high>1000000)) (yO u p) (cnd (decide (p.wide<0)) (yO u p) (∃(v:Bool),v=decide (p.wide>aa.wrap (p.high-p.low))/\qR u v p))))/\∀(v:Bool),u v->cnd v (∃(w:Unit),p.check=23/\True) (cnd ((vD p) !=(xF p)) (∃(w:Unit),p.check=1/\True) (∃(w:Nat),(↑w:Int)=0/\∃(x:Nat->Prop),∃(y:Nat->Nat),x w/\∀(z:Nat),x z->cnd (decide ((↑z:Int)<(vD p))) (∃(a_1:Bool),∃(a_2:Bool->Prop),((0<=(↑z:Int)/\(↑z:Int)<(vD p))/\∃(a_3:Int),zE (iE p.settle) (↑z:Int).toNat 0 1=bg [dI a_3]/\cnd (decide (a_3<p.low)) (yO a_2 p) ((0<=(↑z:Int)/\(↑z:Int)<(vD p))/\∃(a_4:Int),zE (iE p.settle) (↑z:Int).toNat 0 1=bg [dI a_4]/\∃(a_5:Bool),a_5=decide (a_4>p.high)/\qR a_2 a_5 p))/\lQ a_2 p z x y) (∃(a_1:Bool),∃(a_2:Bool->Prop),cnd (decide (p.rule<1)) (yO a_2 p) (∃(a_3:Bool),a_3=decide (p.rule>3)/\qR a_2 a_3 p)/\∀(a_3:Bool),a_2 a_3->cnd a_3 (∃(a_4:Unit),p.check=31/\True) (∃(a_4:Bool),∃(a_5:Bool->Prop),cnd (decide (p.top<0)) (yO a_5 p) (cnd (decide (p.top>1000000)) (yO a_5 p) (cnd (decide (p.least<1)) (yO a_5 p) (cnd (decide (p.least>1000)) (yO a_5 p) (cnd (decide (p.part<0)) (yO a_5 p) (∃(a_6:Bool),a_6=decide (p.part>100)/\qR a_5 a_6 p)))))/\∀(a_6:Bool),a_5 a_6->cnd a_6 (∃(a_7:Unit),p.check=24/\True) (∃(a_7:Unit),p.check=0/\True))))))))))
def zXd (p:Prd):Prop:=
 ∃(a:Prd),tN a p
def fB (a:c8) (b:Nat×Nat):=(↑(yJ a.p.months.length b.fst+b.snd):Int)
def z7r (i:c8):Prop:=
 ∃(a:Prd),sb a.code=sb i.p.code/\iE a.months=iE i.p.months/\a.tick=i.p.tick/\a.low=i.p.low/\a.high=i.p.high/\a.wide=i.p.wide/\a.rule=i.p.rule/\a.top=i.p.top/\a.least=i.p.least/\a.part=i.p.part/\iE a.settle=iE i.p.settle/\(yD a)/\∀(b:Unit),True->cnd (a.check !=0) (fG i) (cnd (decide (i.n<0)) (fG i) (cnd (decide (i.n<(vQ i))) (zAs i) (∃(c:Nat),(uT i c)=(vQ i)/\(↑c:Int)=0/\∃(d:Nat->Prop),∃(e:Nat->Nat),d c/\∀(f:Nat),d f->cnd (decide ((↑f:Int)<(vQ i))) (∃(g:Nat×Nat),(fB i g)=(uT i f)/\(↑g.fst:Int)=(↑f:Int)/\(↑(g.fst+1+g.snd):Int)=aa.wrap ((↑f:Int)+1)/\∃(h:Nat×Nat->Prop),∃(j:Nat×Nat->Nat),h g/\∀(k:Nat×Nat),h k->cnd (decide ((↑(k.fst+1+k.snd):Int)<(vQ i))) (cnd ((fB i k)==i.n) (∃(l:Unit),(i.p.legs i.n).fst=(↑k.fst:Int)/\(i.p.legs i.n).snd.fst=(↑(k.fst+1+k.snd):Int)/\(i.p.legs i.n).snd.snd=ay/\True) (∃(l:Nat×Nat),(fB i l)=aa.wrap ((fB i k)+1)/\(↑l.fst:Int)=(↑k.fst:Int)/\(↑(l.fst+1+l.snd):Int)=aa.wrap ((↑(k.fst+1+k.snd):Int)+1)/\h l/\j l<j k/\tH i)) (∃(l:Nat),(uT i l)=(fB i k)/\(↑l:Int)=aa.wrap ((↑k.fst:Int)+1)/\zGj d l e f i)) (fG i))))
def y5 (a:WiI):Prop:=((-9223372036854775808)<=a.n/\a.n<=9223372036854775807)/\(-1000000)<=a.lo/\a.lo<=a.hi/\a.hi<=1000000
def qA (a:WiI):=(1+zF a.n a.lo a.hi)
def uG:=(D.v (Value.slice bo 0 0))
def jA:=(D.v (be (ByteArray.mk #[])))
def zGs (a:Prd):Prop:=ap (Sx.V.agg [V.d jA,V.d uG,V.d (dI 0),V.d (dI 0),V.d (dI 0),V.d (dI 0),V.d (dI 0),V.d (dI 0),V.d (dI 0),V.d (dI 0),V.d uG]).cl 25=ap (Sx.V.agg [V.d jA,V.d uG,V.d (dI 0),V.d (dI 0),V.d (dI 0),V.d (dI 0),V.d (dI 0),V.d (dI 0),V.d (dI 0),V.d (dI 0),V.d uG]).cl 25/\mL a
def zGy (a:Prd) (b:WiI) (c:WiI) (d:WiI) (e:WiI) (f:Unit->Prop):Prop:=∃(g:WiI),g.n=a.part/\g.lo=0/\g.hi=100/\(y5 g)/\∀(h:Unit),True->∃(j:Unit),sb [(206:UInt8),(169:UInt8)]=ByteArray.mk #[(206:UInt8),(169:UInt8)]/\True/\zS a=aa.wrap (qA b)/\(-20)*zS a=aa.wrap ((-20)*aa.wrap (qA b))/\100*zS a=aa.wrap (100*aa.wrap (qA b))/\dh ((0:Int))/\1+zF a.rule 0 2=aa.wrap (qA c)/\zF a.top 0 9=zF d.n d.lo d.hi/\1+zF a.least 0 4=aa.wrap (qA e)/\zF a.part 0 100=zF g.n g.lo g.hi/\True/\f j/\zGs a
def zHr (a:Prd) (b:WiI) (c:WiI) (d:WiI) (e:WiI) (f:Unit->Prop):Prop:=a.part=a.part/\zGy a b c d e f
def zJj (a:Prd) (b:WiI) (c:WiI) (d:WiI) (e:Unit->Prop):Prop:=a.part=a.part/\dh a.least/\∃(f:WiI),f.n=a.least/\f.lo=0/\f.hi=4/\(y5 f)/\∀(g:Unit),True->zHr a b c d f e
def zJn (a:Prd) (b:WiI) (c:WiI) (d:Unit->Prop):Prop:=a.part=a.part/\dh a.least/\dh a.top/\∃(e:WiI),e.n=a.top/\e.lo=0/\e.hi=9/\(y5 e)/\∀(f:Unit),True->zJj a b c e d
def j0 (a:Prd):=(5+zF a.wide 0 60)
def uA (a:Prd):=(kK (zS a) (kN a).toNat)
def yFm (x:Prd):Prop:=
 ∃(a:WiI),a.n=(xF x)/\a.lo=0/\a.hi=3/\(y5 a)/\∀(b:Unit),True->∃(c:WiI),c.n=x.tick/\c.lo=0/\c.hi=9/\(y5 c)/\∀(d:Unit),True->∃(e:Unit),∃(f:Unit->Prop),((∃(g:WiI),g.n=x.rule/\g.lo=0/\g.hi=2/\(y5 g)/\∀(h:Unit),True->dh x.part/\dh x.least/\dh x.top/\(∃(j:WiI),j.n=x.top/\j.lo=0/\j.hi=9/\(y5 j)/\∀(k:Unit),True->dh x.part/\dh x.least/\(∃(l:WiI),l.n=x.least/\l.lo=0/\l.hi=4/\(y5 l)/\∀(m:Unit),True->dh x.part/\(zGy x c g j l f)/\zHr x c g j l f)/\zJj x c g j f)/\zJn x c g f)/\dh x.part/\dh x.least/\dh x.top/\dh x.rule/\∃(g:WiI),g.n=x.rule/\g.lo=0/\g.hi=2/\(y5 g)/\∀(h:Unit),True->zJn x c g f)/\∀(g:Unit),f g->∃(h:WiI),h.n=x.wide/\h.lo=0/\h.hi=60/\(y5 h)/\∀(j:Unit),True->∃(k:Nat),(↑k:Int)=0/\dh (sb [(206:UInt8),(169:UInt8)])/\zS x=zS x/\dh ((-20)*zS x)/\dh (100*zS x)/\zS x*(j0 x)=aa.wrap (aa.wrap (qA c)*aa.wrap (5+zF h.n h.lo h.hi))/\1+zF x.rule 0 (2:Int)=(1:Int)+zF x.rule 0 2/\zF x.top 0 9=zF x.top 0 (9:Int)/\(1:Int)+zF x.least 0 (4:Int)=(1:Int)+zF x.least 0 4/\dh (zF x.part 0 100)/\iE (qI k)=[]/\iE (kK (zS x) k)=[]/\∃(l:Nat->Prop),∃(m:Nat->Nat),l k/\∀(n:Nat),l n->cnd (decide ((↑n:Int)<aa.wrap (2+zF a.n a.lo a.hi))) (((iE (qI n)).length+1)*(8:Nat)<=(140737488355328:Nat)/\((iE (kK (zS x) n)).length+1)*(8:Nat)<=(140737488355328:Nat)/\∃(p:Nat),(↑p:Int)=aa.wrap ((↑n:Int)+1)/\dh (sb [(206:UInt8),(169:UInt8)])/\zS x=zS x/\dh ((-20)*zS x)/\dh (100*zS x)/\dh (zS x*(j0 x))/\1+zF x.rule 0 (2:Int)=(1:Int)+zF x.rule 0 2/\zF x.top 0 9=zF x.top 0 (9:Int)/\(1:Int)+zF x.least 0 (4:Int)=(1:Int)+zF x.least 0 4/\dh (zF x.part 0 100)/\iE (qI p)=iE (qI n)++[[dI (aa.wrap (aa.wrap (10*(↑n:Int))+3))]]/\iE (kK (zS x) p)=iE (kK (zS x) n)++[[dI (aa.wrap (aa.wrap (qA c)*aa.wrap (10+(↑n:Int))))]]/\l p/\m p<m n/\zGs x) (∃(p:Unit),dh (sb [(206:UInt8),(169:UInt8)])/\iE (qI (kN x).toNat)=iE (qI n)/\zS x=zS x/\dh ((-20)*zS x)/\dh (100*zS x)/\dh (zS x*(j0 x))/\1+zF x.rule 0 (2:Int)=(1:Int)+zF x.rule 0 2/\zF x.top 0 9=zF x.top 0 (9:Int)/\(1:Int)+zF x.least 0 (4:Int)=(1:Int)+zF x.least 0 4/\dh (zF x.part 0 100)/\iE (uA x)=iE (kK (zS x) n)/\True)
def yNb (s:List UInt8) (h:r3prodC.cnd s):z5q s:=by
 have h:s.length<=1099511627776:=h;have hr:=zHd s;unfold z5q bD lJ qG m5 cF;refine⟨(0,0),rfl,rfl,rfl,λx=>x.1<=s.length/\x.2+(gC s x.1).length=(kW s).length/\(kW s).all gI=((gC s x.1).all λy=>gI y.2),λx=>s.length-x.1,⟨oM,by rw[kW,y5u];simp,by rw[kW,List.all_map];rfl⟩,?_⟩;rintro⟨p,n⟩ ⟨h1,h2,h3⟩;dsimp only at h1 h2 h3 ⊢;refine Cv.cnd.mk (λhp=> ?_) (λhp=> ?_)
 ·have hp:p<s.length:=by simpa[y8u]using hp
  have hw:=bC s hp;rw[jX hp,y5y]at h2;rw[jX hp,List.all_cons]at h3;generalize hc:(bu (sb s) p).1=c at h2 h3 ⊢;generalize hww:(bu (sb s) p).2=w at h2 h3 hw ⊢;dsimp only at h3;have g0:∀b:Bool,(b=ay->gI c=ay)->(b=az->gI c=az)->b=gI c:=λb e1 e2=>by cases b<;>simp_all
  refine⟨ay,λb=>b= !gI c,?_,λb hb=> ?_⟩
  ·refine zH (λc1=>zH (λc2=>⟨_,rfl,?_,k0q⟩) (λc2=>zH (λc3=>zH (λc4=>⟨_,rfl,?_,k0q⟩) (λc4=>⟨_,rfl,?_,k0q⟩)) (λc3=>⟨_,rfl,?_,k0q⟩))) (λc1=>zH (λc3=>zH (λc4=>⟨_,rfl,?_,k0q⟩) (λc4=>⟨_,rfl,?_,k0q⟩)) (λc3=>⟨_,rfl,?_,k0q⟩))
   all_goals congr 1
   all_goals refine g0 _ (λe=> ?_) (λe=> ?_)
   all_goals first|(simp[gI]at*;done)|(simp[gI]at*;omega)
  ·subst hb;refine Cv.cnd.mk (λe=>⟨(),?_,trivial⟩) (λe=>⟨(p+w,n+1),?_,rfl,rfl,⟨hw.2,by(first|omega|(dsimp only;omega)),?_⟩,by(first|omega|(dsimp only;omega)),trivial⟩)
   ·have e:gI c=az:=by simpa using e
    rw[wF,h3,e];rfl
   ·rw[w64 (by omega)];rfl
   ·have e:gI c=ay:=by simpa using e
    rw[h3,e];rfl
 ·have hp:s.length<=p:=by have:=z6h hp;simpa using this
  rw[uN hp]at h2 h3;have h3:(kW s).all gI=ay:=h3;have hn:n=(kW s).length:=by simpa using h2
  have hne:(s=[])↔(kW s).length=0:=by
   constructor
   ·intro e;subst e;rfl
   ·intro e;cases s with
    |nil=>rfl
    |cons b l=>
     rw[kW,y5u,jX (by simp)]at e;simp at e
  refine zH (λc=>⟨(),?_,trivial⟩) (λc=>⟨(),?_,trivial⟩)
  ·have:¬s=[]:=by rw[hne];omega
   rw[wF,h3,y6k this,hn];simp only[y8q];congr 1;simp only[eq_iff_iff];omega
  ·have:s=[]:=by rw[hne];omega
   rw[wF,this];rfl
def yBc:r3prodC.ok Tryz.prog 212:=okw mixed gok0 0 (λ_=>yPh) (λs=>yNi s) [] Tryz.func212 yNb
def sL:∀(l:List Int) (a:Int),l.foldl min a<=a/\∀x∈l,l.foldl min a<=x
 |[],a=>⟨y9h _,by simp⟩
 |b::l,a=>by
  obtain⟨h1,h2⟩:=sL l (min a b);rw[y9m];refine⟨oM,λx hx=> ?_⟩;rcases y6o.1 hx with rfl|hx
  ·omega
  ·exact h2 x hx
def tT:∀(l:List Int) (a:Int),a<=l.foldl max a/\∀x∈l,x<=l.foldl max a
 |[],a=>⟨y9h _,by simp⟩
 |b::l,a=>by
  obtain⟨h1,h2⟩:=tT l (max a b);rw[y9m];refine⟨oM,λx hx=> ?_⟩;rcases y6o.1 hx with rfl|hx
  ·omega
  ·exact h2 x hx
def zBx:∀(l:List Int) (a:Int),l.foldl min a=a\/l.foldl min a∈l
 |[],a=> .inl rfl
 |b::l,a=>by
  rw[y9m];rcases zBx l (min a b)with h|h
  ·rcases Int.le_total a b with e|e
   ·left;rw[h];omega
   ·right;rw[h,show min a b=b by omega];exact y5z
  ·exact .inr (y6b _ h)
def zCa:∀(l:List Int) (a:Int),l.foldl max a=a\/l.foldl max a∈l
 |[],a=> .inl rfl
 |b::l,a=>by
  rw[y9m];rcases zCa l (max a b)with h|h
  ·rcases Int.le_total a b with e|e
   ·right;rw[h,show max a b=b by omega];exact y5z
   ·left;rw[h];omega
  ·exact .inr (y6b _ h)
def z8v {l:List Int} {x:Int} (h:x∈l):sW l<=x:=by
 cases l with
 |nil=>cases h
 |cons a l=>
  rw[sW,ag,af];rcases y6o.1 h with rfl|h
  ·exact(sL l x).1
  ·exact(sL l a).2 x h
def z9r {l:List Int} {x:Int} (h:x∈l):x<=tX l:=by
 cases l with
 |nil=>cases h
 |cons a l=>
  rw[tX,ag,af];rcases y6o.1 h with rfl|h
  ·exact(tT l x).1
  ·exact(tT l a).2 x h
def zYz {l:List Int} (h:l≠[]):sW l∈l:=by
 cases l with
 |nil=>exact absurd rfl h
 |cons a l=>
  rw[sW,ag,af];rcases zBx l a with h|h
  ·rw[h];exact y5z
  ·exact y6b _ h
def zXq {l:List Int} (h:l≠[]):tX l∈l:=by
 cases l with
 |nil=>exact absurd rfl h
 |cons a l=>
  rw[tX,ag,af];rcases zCa l a with h|h
  ·rw[h];exact y5z
  ·exact y6b _ h
def yKa (p:Prd) (h:r5checkC.cnd p):zZq p:=by
 obtain⟨h1,h2,h3⟩:p.small:=h;unfold zZq lQ lF yO qR mL uO aC xF vD dI;simp only[y4];refine⟨p.code,rfl,h1,λ_ _=>Cv.cnd.mk (λc1=>⟨(),by rw[Prd.check,y5v c1],trivial⟩) λc1=> ?_⟩;have c1:wF p.code=ay:=by simpa using c1
 have e1:p.check=if !xG p.months then 1 else if !qP p then 22 else if qQ p then 23 else if xM p then 1 else if kJ p then 31 else if x9 p then 24 else 0:=by
  rw[Prd.check,y5t (by simp[c1])]
 refine⟨ay,λb=>b=(decide (p.months.length<2)||decide (p.months.length>6)),zH (λc=>⟨ay,rfl,?_,k0q⟩) (λc=>⟨_,rfl,?_,k0q⟩),λb hb=> ?_⟩
 ·rw[y6k (show p.months.length<2 by omega)];rfl
 ·rw[y6g (show ¬p.months.length<2 by omega),xBp];congr 1;simp only[eq_iff_iff];omega
 subst hb;refine Cv.cnd.mk (λc2=> ?_) (λc2=> ?_)
 ·have:xG p.months=az:=by
   simp only[ba,y7i]at c2;rw[xG];rcases c2 with c2|c2
   ·rw[y6g (show ¬2<=p.months.length by omega)];simp
   ·rw[y6g (show ¬p.months.length<=6 by omega)];simp
  exact⟨(),by rw[e1,y5v (by rw[this];rfl)],trivial⟩
 have c2:2<=p.months.length/\p.months.length<=6:=by
  simp only[y9y,decide_eq_false_iff_not]at c2;omega
 have em:xG p.months=(aj p.months.length).all (qZ p.months):=by
  rw[xG,y6k c2.1,y6k c2.2];simp
 refine⟨0,rfl,λj=>j<=p.months.length/\∀k<j,qZ p.months k=ay,λj=>p.months.length-j,⟨oM,λk hk=>by omega⟩,?_⟩;rintro j ⟨g1,g2⟩;refine zH (λhj=> ?_) (λhj=> ?_)
 ·obtain⟨m,hm⟩:=yA (l:=p.months) (i:=j) oM;have hmj:p.months.getD j 0=m:=zT hm;refine⟨ay,λb=>b= !qZ p.months j,⟨⟨oM,oM⟩,m,elI hm,zH (λc=>⟨ay,rfl,?_,k0q⟩) (λc=>⟨⟨oM,oM⟩,m,elI hm,zH (λd=>⟨ay,rfl,?_,k0q⟩) (λd=>zH (λe=> ?_) (λe=>⟨az,rfl,?_,k0q⟩))⟩)⟩,λb hb=> ?_⟩
  ·rw[qZ,hmj,y6g (show ¬0<=m by omega)];rfl
  ·rw[qZ,hmj,y6g (show ¬m<=1199 by omega)];simp
  ·obtain⟨m',hm'⟩:=yA (l:=p.months) (i:=j-1) oM;rw[w64 (by omega),show((j:Int)-1).toNat=j-1 by omega];refine⟨⟨oM,oM⟩,m',elI hm',⟨oM,oM⟩,m,elI hm,_,rfl,?_,k0q⟩;rw[qZ,hmj,zT hm',y6k (show 0<=m by omega),y6k (show m<=1199 by omega),y6g (show ¬j=0 by omega)];simp only[y8q,xBp];by_cases hlt:m'<m
   ·rw[y6k hlt,y6g (by omega)];rfl
   ·rw[y6g hlt,y6k (by omega)];rfl
  ·rw[qZ,hmj,y6k (show 0<=m by omega),y6k (show m<=1199 by omega),y6k (show j=0 by omega)];rfl
  ·subst hb;refine Cv.cnd.mk (λc=>⟨(),?_,trivial⟩) (λc=>⟨j+1,by rw[w64 (by omega)];rfl,⟨oM,λk hk=> ?_⟩,by(first|omega|(dsimp only;omega)),k0q⟩)
   ·have c:qZ p.months j=az:=by simpa using c
    rw[e1,y5v (by rw[em,zRf (k:=j) (by omega) c];rfl)]
   ·have c:qZ p.months j=ay:=by simpa using c
    rcases y8c k j with h|h
    ·exact g2 k h
    ·obtain rfl:k=j:=by omega
     exact c
 have em:xG p.months=ay:=by rw[em];exact z1i λk hk=>g2 k oM
 have e2:p.check=if !qP p then 22 else if qQ p then 23 else if xM p then 1 else if kJ p then 31 else if x9 p then 24 else 0:=by
  rw[e1,y5t (by simp[em])]
 have et:qP p=((decide (1<=p.tick) && decide (p.tick<=1000) && !qU p.tick p.low && !qU p.tick p.high && !qU p.tick p.wide) && !p.settle.any (qU p.tick)):=rfl;refine⟨ay,λb=>b= !(decide (1<=p.tick) && decide (p.tick<=1000) && !qU p.tick p.low && !qU p.tick p.high && !qU p.tick p.wide),zH (λd1=>⟨ay,rfl,?_,k0q⟩) (λd1=>zH (λd2=>⟨ay,rfl,?_,k0q⟩) (λd2=>⟨trivial,oM,Cv.cnd.mk (λd3=>⟨ay,rfl,?_,k0q⟩) (λd3=>⟨trivial,oM,Cv.cnd.mk (λd4=>⟨ay,rfl,?_,k0q⟩) (λd4=>⟨trivial,oM,_,rfl,?_,k0q⟩)⟩)⟩)),λb hb=> ?_⟩
 ·rw[y6g (show ¬1<=p.tick by omega)];rfl
 ·rw[y6g (show ¬p.tick<=1000 by omega)];simp
 ·have d3:qU p.tick p.low=ay:=d3;rw[d3];simp
 ·have d4:qU p.tick p.high=ay:=d4;rw[d4];simp
 ·have d3:qU p.tick p.low=az:=d3;have d4:qU p.tick p.high=az:=d4;rw[d3,d4,y6k (show 1<=p.tick by omega),y6k (show p.tick<=1000 by omega)];show qU p.tick p.wide=_;simp
 subst hb;refine Cv.cnd.mk (λc3=> ?_) (λc3=> ?_)
 ·have c3:(decide (1<=p.tick) && decide (p.tick<=1000) && !qU p.tick p.low && !qU p.tick p.high && !qU p.tick p.wide)=az:=by
   rw[y9g]at c3;exact c3
  exact⟨(),by rw[e2,y5v (by rw[et,c3];rfl)],trivial⟩
 have c3:(decide (1<=p.tick) && decide (p.tick<=1000) && !qU p.tick p.low && !qU p.tick p.high && !qU p.tick p.wide)=ay:=by simpa using c3
 have ht1:1<=p.tick:=by
  simp only[y6h,y7i]at c3;exact c3.1.1.1.1
 rw[c3,y8q]at et;refine⟨0,rfl,λj=>j<=p.settle.length/\∀k<j,∀x,p.settle[k]? =bg x->qU p.tick x=az,λj=>p.settle.length-j,⟨oM,λk hk=>by omega⟩,?_⟩;rintro j ⟨g1,g2⟩;refine zH (λhj=> ?_) (λhj=> ?_)
 ·obtain⟨m,hm⟩:=yA (l:=p.settle) (i:=j) oM;refine⟨⟨oM,oM⟩,m,elI hm,trivial,oM,Cv.cnd.mk (λc=>⟨(),?_,trivial⟩) (λc=>⟨j+1,by rw[w64 (by omega)];rfl,⟨oM,λk hk x hx=> ?_⟩,by(first|omega|(dsimp only;omega)),k0q⟩)⟩
  ·have c:qU p.tick m=ay:=c;have:p.settle.any (qU p.tick)=ay:=by rw[List.any_eq_true];exact⟨m,y6e hm,c⟩
   rw[e2,y5v (by rw[et,this];rfl)]
  ·rcases y8c k j with h|h
   ·exact g2 k h x hx
   ·obtain rfl:k=j:=by omega
    rw[hm]at hx;cases hx;exact c
 have et:qP p=ay:=by
  rw[et];have:p.settle.any (qU p.tick)=az:=by
   rw[xBy];intro x hx;obtain⟨k,hk⟩:=xBg hx;rw[g2 k (by have:=(y5x.1 hk).1;omega) x hk];simp
  rw[this];rfl
 have e3:p.check=if qQ p then 23 else if xM p then 1 else if kJ p then 31 else if x9 p then 24 else 0:=by
  rw[e2,y5t (by simp[et])]
 refine⟨ay,λb=>b=qQ p,zH (λd1=>⟨ay,rfl,?_,k0q⟩) (λd1=>zH (λd2=>⟨ay,rfl,?_,k0q⟩) (λd2=>zH (λd3=>⟨ay,rfl,?_,k0q⟩) (λd3=>zH (λd4=>⟨ay,rfl,?_,k0q⟩) (λd4=>⟨_,rfl,?_,k0q⟩)))),λb hb=> ?_⟩
 ·simp[qQ,d1]
 ·simp[qQ,d2]
 ·simp[qQ,d3]
 ·simp[qQ,d4]
 ·rw[w64 (by omega)];simp[qQ,d1,d2,d3,d4]
 subst hb;refine Cv.cnd.mk (λc4=>⟨(),by rw[e3,y5v c4],trivial⟩) (λc4=> ?_);have e4:p.check=if xM p then 1 else if kJ p then 31 else if x9 p then 24 else 0:=by
  rw[e3,y5t (by simp[c4])]
 refine Cv.cnd.mk (λd6=>⟨(),?_,trivial⟩) (λd6=> ?_)
 ·have d6:¬(p.settle.length:Int)=p.months.length:=by simpa using d6
  rw[e4,y5v (by simp[xM];omega)]
 have d6:p.settle.length=p.months.length:=by
  have:(p.settle.length:Int)=p.months.length:=by simpa using d6
  omega
 have hne:p.settle≠[]:=by intro e;rw[e]at d6;simp at d6;omega
 refine⟨0,rfl,λj=>j<=p.settle.length/\∀k<j,∀x,p.settle[k]? =bg x->p.low<=x/\x<=p.high,λj=>p.settle.length-j,⟨oM,λk hk=>by omega⟩,?_⟩;rintro j ⟨g3,g4⟩;refine zH (λhj=> ?_) (λhj=> ?_)
 ·obtain⟨m,hm⟩:=yA (l:=p.settle) (i:=j) oM;have hmm:=y6e hm;refine⟨ay,λb=>b=(decide (m<p.low)||decide (m>p.high)),⟨⟨oM,oM⟩,m,elI hm,zH (λc=>⟨ay,rfl,?_,k0q⟩) (λc=>⟨⟨oM,oM⟩,m,elI hm,_,rfl,?_,k0q⟩)⟩,λb hb=> ?_⟩
  ·rw[y6k c];rfl
  ·rw[y6g c,xBp]
  ·subst hb;refine Cv.cnd.mk (λc=>⟨(),?_,trivial⟩) (λc=>⟨j+1,by rw[w64 (by omega)];rfl,⟨oM,λk hk x hx=> ?_⟩,by(first|omega|(dsimp only;omega)),k0q⟩)
   ·have l1:=z8v hmm;have l2:=z9r hmm;rw[e4,y5v (by
     simp only[ba,y7i]at c;simp only[xM,ba,y7i];rcases c with c|c
     ·left;right;omega
     ·right;omega)]
   ·rcases y8c k j with h|h
    ·exact g4 k h x hx
    ·obtain rfl:k=j:=by omega
     rw[hm]at hx;cases hx;simp only[y9y,decide_eq_false_iff_not]at c;omega
 have hset:xM p=az:=by
  have all:∀x∈p.settle,p.low<=x/\x<=p.high:=λx hx=>by
   obtain⟨k,hk⟩:=xBg hx;exact g4 k (by have:=(y5x.1 hk).1;omega) x hk
  have a1:=all _ (zYz hne);have a2:=all _ (zXq hne);simp only[xM,y9y,decide_eq_false_iff_not];omega
 have e5:p.check=if kJ p then 31 else if x9 p then 24 else 0:=by
  rw[e4,y5t (by simp[hset])]
 refine⟨ay,λb=>b=kJ p,zH (λd1=>⟨ay,rfl,?_,k0q⟩) (λd1=>⟨_,rfl,?_,k0q⟩),λb hb=> ?_⟩
 ·simp[kJ,d1]
 ·simp[kJ,d1]
 subst hb;refine Cv.cnd.mk (λc6=>⟨(),by rw[e5,y5v c6],trivial⟩) (λc6=> ?_);have e6:p.check=if x9 p then 24 else 0:=by rw[e5,y5t (by simp[c6])]
 refine⟨ay,λb=>b=x9 p,zH (λd1=>⟨ay,rfl,?_,k0q⟩) (λd1=>zH (λd2=>⟨ay,rfl,?_,k0q⟩) (λd2=>zH (λd3=>⟨ay,rfl,?_,k0q⟩) (λd3=>zH (λd4=>⟨ay,rfl,?_,k0q⟩) (λd4=>zH (λd5=>⟨ay,rfl,?_,k0q⟩) (λd5=>⟨_,rfl,?_,k0q⟩))))),λb hb=> ?_⟩
 ·simp[x9,d1]
 ·simp[x9,d2]
 ·simp[x9,d3]
 ·simp[x9,d4]
 ·simp[x9,d5]
 ·simp[x9,d1,d2,d3,d4,d5]
 subst hb;exact Cv.cnd.mk (λc7=>⟨(),by rw[e6,y5v c7],trivial⟩) (λc7=>⟨(),by rw[e6,y5t (by simp[c7])],trivial⟩)
def zMw:r5checkC.ok Tryz.prog 172:=okw mixed (gokc yBc gok0) 0 (λ_=>yIc) (λ_=>yIl) [] Tryz.func172 yKa
def pH {p:Prd} (h:p.check=0):p.count=p.months.length+p.months.length*(p.months.length-1) / 2:=by rw[Prd.count,y5v h]
def zPs {p:Prd} (h:p.check≠0):p.count=0:=by rw[Prd.count,y5t h]
def yDh (p:Prd) (h:r5countC.cnd p):zXd p:=by
 have hs:p.small:=h;unfold zXd tN xF yD;simp only[y4];refine⟨p,rF7 (rF3 ⟨rfl,hs,λ_ _=>Cv.cnd.mk (λc=>⟨(),?_,trivial⟩) (λc=>⟨trivial,Z8,(),?_,trivial⟩)⟩)⟩
 ·rw[zPs (by simpa using c)];rfl
 ·have c:p.check=0:=by simpa using c
  have m6:=(kH c).m6;have m2:=(kH c).m2;rw[pH c];generalize p.months.length=n at*;have:n=2\/n=3\/n=4\/n=5\/n=6:=by omega
  rcases this with rfl|rfl|rfl|rfl|rfl<;>decide
def z2h:r5countC.ok Tryz.prog 118:=okw mixed (gokc zMw gok0) 0 (λ_=>[]) (λ_=>[]) [] Tryz.func118 yDh
def yIf:∀n≤6,∀a<n,∀b<n-1-a,kT n (yJ n a+b) n 0=((a:Int),((a+1+b:Nat):Int),ay)/\yJ n a+b<n+n*(n-1) / 2/\n<=yJ n a+b:=by decide
def z9u:∀n≤6,yJ n n=n+n*(n-1) / 2:=by decide
def yNw {p:Prd} (h:p.check=0) {a b:Nat} (ha:a<p.months.length) (hb:b<p.months.length-1-a):p.legs ((yJ p.months.length a+b:Nat):Int)=((a:Int),((a+1+b:Nat):Int),ay):=by
 obtain⟨h1,h2,h3⟩:=yIf _ (kH h).m6 a ha b hb;rw[Prd.legs,y5t (by rw[pH h];omega),y5t (by omega),y6m];exact h1
def yPy (i:c8) (h:r5legsC.cnd i):z7r i:=by
 have hs:i.p.small:=h;unfold z7r fB zGj tH vQ uT zAs fG yD dI;simp only[y4];refine⟨i.p,rF7 (rF3 ⟨rfl,hs,λ_ _=>Cv.cnd.mk (λc=> ?_) (λc=>zH (λc1=> ?_) (λc1=>zH (λc2=> ?_) (λc2=> ?_)))⟩)⟩
 ·rw[Prd.legs,y5v (by rw[zPs (by simpa using c)];omega)];exact kp
 ·rw[Prd.legs,y5v (.inl c1)];exact kp
 ·have c:i.p.check=0:=by simpa using c
  rw[Prd.legs,y5t (by rw[pH c];omega),y5v c2];exact kp
 ·have c:i.p.check=0:=by simpa using c
  have m6:=(kH c).m6;obtain⟨k,hk⟩:∃k:Nat,i.n=k:=⟨i.n.toNat,oM⟩
  have sp:=λ(a b:Nat) ha hb=>yNw (p:=i.p) c (a:=a) (b:=b) ha hb
  have fe:=z9u _ m6;have out:i.p.count<=k->i.p.legs (k:Int)=(0,0,az):=λe=>by rw[Prd.legs,y5v (by omega)]
  rw[pH c,<- fe]at out;rw[hk]at c2 ⊢;generalize hn:i.p.months.length=n at*;refine⟨0,rfl,rfl,λm=>m<=n/\yJ n m<=k,λm=>n-m,⟨oM,by show n<=k;omega⟩,?_⟩;rintro m ⟨g1,g2⟩;have hf:=zMk m6 g1;refine zH (λc4=> ?_) (λc4=> ?_)
  ·refine⟨(m,0),rfl,rfl,by rw[w64 (by omega)];simp,λx=>x.1=m/\x.2<=n-1-m/\yJ n m+x.2<=k,λx=>n-1-m-x.2,⟨rfl,by(first|omega|(dsimp only;omega)),by(first|omega|(dsimp only;omega))⟩,?_⟩;rintro⟨a,b⟩ ⟨g3,g4,g5⟩;dsimp only at g3 g4 g5 ⊢;subst g3;refine zH (λc5=>Cv.cnd.mk (λe=> ?_) (λe=> ?_)) (λc5=> ?_)
   ·have e:((yJ n a+b:Nat):Int)=(k:Int):=by simpa using e
    have:=sp a b oM oM;rw[e]at this;rw[this];exact kp
   ·have e:¬((yJ n a+b:Nat):Int)=(k:Int):=by simpa using e
    refine⟨(a,b+1),?_,rfl,?_,⟨rfl,by(first|omega|(dsimp only;omega)),by(first|omega|(dsimp only;omega))⟩,by(first|omega|(dsimp only;omega)),k0q⟩
    ·rw[w64 (by omega)];dsimp only;omega
    ·rw[w64 (by omega)];dsimp only;omega
   ·refine⟨a+1,?_,by rw[w64 (by omega)];rfl,⟨oM,?_⟩,by(first|omega|(dsimp only;omega)),k0q⟩
    ·rw[yJ];omega
    ·rw[yJ];omega
  ·obtain rfl:m=n:=by omega
   rw[out g2];exact kp
def yBo:r5legsC.ok Tryz.prog 119:=okw mixed (gokc zMw gok0) 0 (λ_=>[]) (λi=>yOa i) [] Tryz.func119 yPy
def zEj (x:Prd):1<=zS x/\zS x<=10:=by
 have:=yU (n:=x.tick) (lo:=0) (hi:=9) oM;rw[zS];omega
def yEo (x:Prd):2<=kN x/\kN x<=5:=by
 have:=yU (n:=(x.months.length:Int)) (lo:=0) (hi:=3) oM;rw[kN];omega
def lI {a b m n:Int} (ha:0<=a/\a<=m) (hb:0<=b/\b<=n):0<=a*b/\a*b<=m*n:=by
 refine⟨xCa ha.1 hb.1,?_⟩;exact Int.le_trans (Int.mul_le_mul_of_nonneg_right ha.2 hb.1) (xAq hb.2 oM)
def zVv (j:Nat):iE (qI (j+1))=iE (qI j)++[[D.v (.int .i64 (10*(j:Int)+3))]]:=by
 rw[qI,xAo,y6d,iE,y6d];rfl
def zVb (t:Int) (j:Nat):iE (kK t (j+1))=iE (kK t j)++[[D.v (.int .i64 (t*(10+(j:Int))))]]:=by
 rw[kK,xAo,y6d,iE,y6d];rfl
def lR (j:Nat):(qI j).length=j:=by simp[qI]
def nG (t:Int) (j:Nat):(kK t j).length=j:=by simp[kK]
def yTm (x:Prd) (h:kprodC.cnd x):yFm x:=by
 obtain⟨h1,h2,h3,h4,h5,h6,h7⟩:x.raw:=h;have hw: -1000000<=(0:Int):=by decide
 have bt:=yU (n:=x.tick) (lo:=0) (hi:=9) oM;have bw:=yU (n:=x.wide) (lo:=0) (hi:=60) oM;have br:=yU (n:=x.rule) (lo:=0) (hi:=2) oM;have bl:=yU (n:=x.least) (lo:=0) (hi:=4) oM;have bn:=yU (n:=(x.months.length:Int)) (lo:=0) (hi:=3) oM;have kt:=zEj x;have kn:=yEo x;have w1:aa.wrap (1+zF x.tick 0 9)=zS x:=w64 oM;have w2:aa.wrap (-20*aa.wrap (1+zF x.tick 0 9))= -20*zS x:=by rw[w1];exact w64 oM
 have w3:aa.wrap (100*aa.wrap (1+zF x.tick 0 9))=100*zS x:=by rw[w1];exact w64 oM
 have w4:aa.wrap (1+zF x.rule 0 2)=1+zF x.rule 0 2:=w64 oM;have w5:aa.wrap (1+zF x.least 0 4)=1+zF x.least 0 4:=w64 oM;have w6:aa.wrap (2+zF x.months.length 0 3)=kN x:=w64 oM;have mb:=lI (a:=zS x) (b:=5+zF x.wide 0 60) (m:=10) (n:=65) oM oM;have w7:aa.wrap (aa.wrap (1+zF x.tick 0 9)*aa.wrap (5+zF x.wide 0 60))=zS x*(5+zF x.wide 0 60):=by
  rw[w1,w64 (x:=5+zF x.wide 0 60) (by omega)];exact w64 oM
 unfold yFm uA j0 zJn zJj zHr zGy zGs jA uG mL uO aC qA y5 xF dI;simp only[y4];refine⟨⟨x.months.length,0,3⟩,rfl,rfl,rfl,⟨⟨Z9,Z9⟩,Z9,Z9,Z9⟩,λ_ _=>⟨⟨x.tick,0,9⟩,rfl,rfl,rfl,⟨h1,Z9,Z9,Z9⟩,λ_ _=> ?_⟩⟩;dsimp only;refine⟨(),λ_=>True,?_,λ_ _=> ?_⟩
 ·repeat'(first|exact trivial|exact rfl|exact w1.symm|exact w2.symm|exact w3.symm|exact w4.symm|exact w5.symm|apply am|refine⟨⟨x.rule,0,2⟩,rfl,rfl,rfl,⟨h3,Z9,Z9,Z9⟩,λ_ _=> ?_⟩|refine⟨⟨x.top,0,9⟩,rfl,rfl,rfl,⟨h4,Z9,Z9,Z9⟩,λ_ _=> ?_⟩|refine⟨⟨x.least,0,4⟩,rfl,rfl,rfl,⟨h5,Z9,Z9,Z9⟩,λ_ _=> ?_⟩|refine⟨⟨x.part,0,100⟩,rfl,rfl,rfl,⟨h6,Z9,Z9,Z9⟩,λ_ _=> ?_⟩|refine⟨(),?_⟩)
 ·refine⟨⟨x.wide,0,60⟩,rfl,rfl,rfl,⟨h2,Z9,Z9,Z9⟩,λ_ _=> ?_⟩;dsimp only;rw[w7,w6];refine⟨0,by(first|exact rfl|exact trivial),by(first|exact rfl|exact trivial),by(first|exact rfl|exact trivial),by(first|exact rfl|exact trivial),by(first|exact rfl|exact trivial),by(first|exact rfl|exact trivial),by(first|exact rfl|exact trivial),by(first|exact rfl|exact trivial),by(first|exact rfl|exact trivial),by(first|exact rfl|exact trivial),by(first|exact rfl|exact trivial),by(first|exact rfl|exact trivial),λj=>j<=(kN x).toNat,λj=>(kN x).toNat-j,oM,?_⟩;intro j hj;rw[lR,nG];refine zH (λc=>⟨oM,oM,j+1,by rw[w64 (by omega)];rfl,by(first|exact rfl|exact trivial),by(first|exact rfl|exact trivial),by(first|exact rfl|exact trivial),by(first|exact rfl|exact trivial),by(first|exact rfl|exact trivial),by(first|exact rfl|exact trivial),by(first|exact rfl|exact trivial),by(first|exact rfl|exact trivial),by(first|exact rfl|exact trivial),?_,?_,by(first|omega|(dsimp only;omega)),by(first|omega|(dsimp only;omega)),k0q⟩) (λc=>⟨(),?_⟩)
  ·rw[zVv,w64 (x:=10*(j:Int)) (by omega),w64 (by omega)]
  ·have mj:=lI (a:=zS x) (b:=10+(j:Int)) (m:=10) (n:=20) oM oM;rw[zVb,w1,w64 (x:=10+(j:Int)) (by omega),w64 (by omega)]
  ·have e:(kN x).toNat=j:=by omega
   rw[e];(repeat'(first|exact trivial|exact rfl|apply am))
def kprod_ok:kprodC.ok Tryz.prog 12:=okw mixed (gokc within_ok gok0) 0 (λx=>yVu x) (λx=>yVx x) [] Tryz.func12 yTm
structure Cmd where
 kind:Int
 id:Int
 inst:Int
 side:Int
 price:Int
 qty:Int
 least:Int
 time:Int
 label:List UInt8
 deriving DecidableEq
@[reducible] def Cmd.cells (c:Cmd):List V:=[zA c.kind,zA c.id,zA c.inst,zA c.side,zA c.price,zA c.qty,zA c.least,zA c.time,sV c.label]
@[reducible] def zFr (c:Cmd):V:= .agg c.cells
def cmdE (c:Cmd):List D:=[.v (.int .i64 c.kind),.v (.int .i64 c.id),.v (.int .i64 c.inst),.v (.int .i64 c.side),.v (.int .i64 c.price),.v (.int .i64 c.qty),.v (.int .i64 c.least),.v (.int .i64 c.time),.v (.string (sb c.label))]
def zXl:Cmd:=⟨0,0,0,0,0,0,0,0,[]⟩
@[reducible] def Cmd.raw (c:Cmd):Prop:=yY c.kind/\yY c.id/\yY c.inst/\yY c.side/\yY c.price/\yY c.qty/\yY c.least/\yY c.time
structure TmI where
 p:Prd
 c:Cmd
 i:Int
def vY (c:Cmd):Int:=if 4<1+zF c.kind 0 8 then 1 else 1+zF c.kind 0 8
def y6 (t:TmI):Cmd:=⟨vY t.c,1+zF t.c.id 0 30,zF t.c.inst 0 (t.p.count-1),1+zF t.c.side 0 1,t.p.tick*zF t.c.price 0 9,1+zF t.c.qty 0 11,0,0,[]⟩
def dK (c:Cmd):Int:=if c.time.tmod 5=3 then 3 else if c.time.tmod 5=2 then 2 else 1
def cQ (c:Cmd) (q:Int):Int:=if c.least.tmod 4=1 then zF c.least 0 q else 0
def xJ (t:TmI):Cmd:=
 let h:=y6 t
 if h.kind=1 then{h with id:=t.i+1,time:=dK t.c,least:=cQ t.c h.qty,price:=if(t.p.legs h.inst).2.2=ay then h.price-4*t.p.tick else h.price+8*t.p.tick}
 else{h with price:=if h.kind=4 then h.price+5*t.p.tick else h.price,side:=0,inst:=0}
def tameC:Con:=con1 TmI (λt=>[prdV t.p,zFr t.c,zA t.i]) (λ_=>[]) (λt=>t.p.check=0/\t.p.small/\t.c.raw/\0<=t.i/\t.i<=1000000) (λt=>zFr (xJ t)) (λ_=>[])
def cj (k:Nat):Nat×SAnn:=(k,{ι:=Cmd,slots:=λ_=>[(7,.nm 0 0)],slots0:=λ_=>[(7,.nm 0 0)],rows0:=λc=>[.cells c.cells 80],rows:=λc=>[.cells c.cells 80]})
def yZc:List (Nat×SAnn):=[cj 14,cj 54,cj 62,cj 70]
def zFu (a:Cmd) (b:Cmd) (c:Cmd->Prop) (d:TmI):Prop:=sb a.label=sb b.label/\c a/\dh (ap (Sx.V.agg [V.d (dI 0),V.d (dI 0),V.d (dI 0),V.d (dI 0),V.d (dI 0),V.d (dI 0),V.d (dI 0),V.d (dI 0),V.d jA]).cl 80)/\dh (ap [V.d (dI d.c.kind),V.d (dI d.c.id),V.d (dI d.c.inst),V.d (dI d.c.side),V.d (dI d.c.price),V.d (dI d.c.qty),V.d (dI d.c.least),V.d (dI d.c.time),V.d (D.v (be (sb d.c.label)))] 80)/\dh (ap [V.d (D.v (be (sb d.p.code))),V.own 0,V.d (dI d.p.tick),V.d (dI d.p.low),V.d (dI d.p.high),V.d (dI d.p.wide),V.d (dI d.p.rule),V.d (dI d.p.top),V.d (dI d.p.least),V.d (dI d.p.part),V.own 1] 25)/\dh (aq 1 (iE d.p.settle))/\dh (aq 1 (iE d.p.months))
def zOc (a:Cmd) (b:Cmd) (c:Cmd->Prop) (d:TmI):Prop:=a.time=b.time/\zFu a b c d
def zMb (a:Cmd) (b:Cmd) (c:Cmd->Prop) (d:TmI):Prop:=a.id=b.id/\a.inst=b.inst/\a.side=b.side/\a.price=b.price/\a.qty=b.qty/\a.least=b.least/\zOc a b c d
def lC (a:Cmd) (b:Cmd->Prop) (c:TmI):Prop:=∃(d:Cmd),d.kind=a.kind/\zMb d a b c
def zJc (a:TmI) (b:WiI) (c:Cmd):Prop:=(xJ a).qty=aa.wrap (qA b)/\(xJ a).least=c.least/\(xJ a).time=c.time/\sb (xJ a).label=sb c.label/\True
def zIg (a:TmI) (b:Cmd):Prop:=(xJ a).qty=b.qty/\(xJ a).least=b.least/\(xJ a).time=b.time/\sb (xJ a).label=sb b.label/\True
def yQl (t:TmI):Prop:=
 ∃(a:WiI),a.n=t.c.kind/\a.lo=0/\a.hi=8/\(y5 a)/\∀(b:Unit),True->∃(c:WiI),c.n=t.c.id/\c.lo=0/\c.hi=30/\(y5 c)/\∀(d:Unit),True->∃(e:Cmd),e.kind=aa.wrap (qA a)/\e.id=aa.wrap (qA c)/\e.inst=0/\e.side=0/\e.price=0/\e.qty=0/\e.least=0/\e.time=0/\sb e.label=ByteArray.mk #[]/\∃(f:Cmd->Prop),cnd (decide (e.kind>4)) (∃(g:Cmd),g.kind=1/\zMb g e f t) (lC e f t)/\∀(g:Cmd),f g->∃(h:Prd),sb h.code=sb t.p.code/\iE h.months=iE t.p.months/\h.tick=t.p.tick/\h.low=t.p.low/\h.high=t.p.high/\h.wide=t.p.wide/\h.rule=t.p.rule/\h.top=t.p.top/\h.least=t.p.least/\h.part=t.p.part/\iE h.settle=iE t.p.settle/\(yD h)/\∀(j:Unit),True->∃(k:WiI),k.n=t.c.inst/\k.lo=0/\k.hi=aa.wrap ((↑h.count:Int)-1)/\(y5 k)/\∀(l:Unit),True->∃(m:WiI),m.n=t.c.side/\m.lo=0/\m.hi=1/\(y5 m)/\∀(n:Unit),True->∃(p:WiI),p.n=t.c.qty/\p.lo=0/\p.hi=11/\(y5 p)/\∀(q:Unit),True->∃(r:WiI),r.n=t.c.price/\r.lo=0/\r.hi=9/\(y5 r)/\∀(s:Unit),True->dh t.p.tick/\cnd (g.kind==1) (∃(u:Cmd),u.kind=g.kind/\u.id=aa.wrap (t.i+1)/\u.inst=zF k.n k.lo k.hi/\u.side=aa.wrap (qA m)/\u.price=aa.wrap (t.p.tick*zF r.n r.lo r.hi)/\u.qty=aa.wrap (qA p)/\u.least=g.least/\u.time=1/\sb u.label=sb g.label/\∃(v:Cmd->Prop),(aa=aa/\(5:Int)≠(0:Int)/\cnd (t.c.time.tmod (5:Int)==(2:Int)) (∃(w:Cmd),w.kind=u.kind/\w.id=u.id/\w.inst=u.inst/\w.side=u.side/\w.price=u.price/\w.qty=u.qty/\w.least=u.least/\w.time=2/\zFu w u v t) (lC u v t))/\∀(w:Cmd),v w->∃(x:Cmd),x.kind=w.kind/\x.id=w.id/\x.inst=w.inst/\x.side=w.side/\x.price=w.price/\x.qty=w.qty/\x.least=w.least/\x.time=w.time/\sb x.label=sb w.label/\∃(y:Cmd->Prop),(aa=aa/\(5:Int)≠(0:Int)/\cnd (t.c.time.tmod (5:Int)==(3:Int)) (∃(z:Cmd),z.kind=x.kind/\z.id=x.id/\z.inst=x.inst/\z.side=x.side/\z.price=x.price/\z.qty=x.qty/\z.least=x.least/\z.time=3/\zFu z x y t) (lC x y t))/\∀(z:Cmd),y z->∃(a_1:Cmd),a_1.kind=z.kind/\a_1.id=z.id/\a_1.inst=z.inst/\a_1.side=z.side/\a_1.price=z.price/\a_1.qty=z.qty/\a_1.least=z.least/\a_1.time=z.time/\sb a_1.label=sb z.label/\∃(a_2:Cmd->Prop),(aa=aa/\(4:Int)≠(0:Int)/\cnd (t.c.least.tmod (4:Int)==(1:Int)) (∃(a_3:WiI),a_3.n=t.c.least/\a_3.lo=0/\a_3.hi=a_1.qty/\(y5 a_3)/\∀(a_4:Unit),True->∃(a_5:Cmd),a_5.kind=a_1.kind/\a_5.id=a_1.id/\a_5.inst=a_1.inst/\a_5.side=a_1.side/\a_5.price=a_1.price/\a_5.qty=a_1.qty/\a_5.least=zF a_3.n a_3.lo a_3.hi/\zOc a_5 a_1 a_2 t) (lC a_1 a_2 t))/\∀(a_3:Cmd),a_2 a_3->∃(a_4:c8),sb a_4.p.code=sb t.p.code/\iE a_4.p.months=iE t.p.months/\a_4.p.tick=t.p.tick/\a_4.p.low=t.p.low/\a_4.p.high=t.p.high/\a_4.p.wide=t.p.wide/\a_4.p.rule=t.p.rule/\a_4.p.top=t.p.top/\a_4.p.least=t.p.least/\a_4.p.part=t.p.part/\iE a_4.p.settle=iE t.p.settle/\a_4.n=a_3.inst/\(jK a_4)/\∀(a_5:Unit),True->cnd (!(a_4.p.legs a_4.n).snd.snd) (∃(a_6:Unit),(xJ t).kind=a_3.kind/\(xJ t).id=a_3.id/\(xJ t).inst=a_3.inst/\(xJ t).side=a_3.side/\(xJ t).price=aa.wrap (a_3.price+aa.wrap (8*t.p.tick))/\zIg t a_3) (∃(a_6:Unit),(xJ t).kind=a_3.kind/\(xJ t).id=a_3.id/\(xJ t).inst=a_3.inst/\(xJ t).side=a_3.side/\(xJ t).price=aa.wrap (a_3.price-aa.wrap (4*t.p.tick))/\zIg t a_3)) (cnd (g.kind==4) (∃(u:Unit),(xJ t).kind=g.kind/\(xJ t).id=g.id/\(xJ t).inst=0/\(xJ t).side=0/\(xJ t).price=aa.wrap (aa.wrap (t.p.tick*zF r.n r.lo r.hi)+aa.wrap (5*t.p.tick))/\zJc t p g) (∃(u:Unit),(xJ t).kind=g.kind/\(xJ t).id=g.id/\(xJ t).inst=0/\(xJ t).side=0/\(xJ t).price=aa.wrap (t.p.tick*zF r.n r.lo r.hi)/\zJc t p g))
def y1n (t:TmI) (h:tameC.cnd t):yQl t:=by
 obtain⟨hc,hs,⟨r1,r2,r3,r4,r5,r6,r7,r8⟩,i0,i1⟩:t.p.check=0/\t.p.small/\t.c.raw/\0<=t.i/\t.i<=1000000:=h;have ok:=kH hc;have t1:=ok.t1;have t2:=ok.t2;have m2:=ok.m2;have hcl:=xU t.p;have hcd:=pH hc;have bk:=yU (n:=t.c.kind) (lo:=0) (hi:=8) oM;have bi:=yU (n:=t.c.id) (lo:=0) (hi:=30) oM;have bs:=yU (n:=t.c.side) (lo:=0) (hi:=1) oM;have bq:=yU (n:=t.c.qty) (lo:=0) (hi:=11) oM;have bp:=yU (n:=t.c.price) (lo:=0) (hi:=9) oM;have mb:=lI (a:=t.p.tick) (b:=zF t.c.price 0 9) (m:=1000) (n:=9) oM oM;have wp:aa.wrap (t.p.tick*zF t.c.price 0 9)=t.p.tick*zF t.c.price 0 9:=w64 oM;unfold yQl lC zMb zOc zFu jA zIg zJc qA y5 yD jK dI;refine⟨⟨t.c.kind,0,8⟩,rfl,rfl,rfl,⟨r1,Z9,Z9,Z9⟩,λ_ _=>⟨⟨t.c.id,0,30⟩,rfl,rfl,rfl,⟨r2,Z9,Z9,Z9⟩,λ_ _=> ?_⟩⟩;dsimp only;rw[w64 (x:=1+zF t.c.kind 0 8) (by omega),w64 (x:=1+zF t.c.id 0 30) (by omega)];refine⟨⟨1+zF t.c.kind 0 8,1+zF t.c.id 0 30,0,0,0,0,0,0,[]⟩,rF8 ⟨rfl,λc=>c=⟨vY t.c,1+zF t.c.id 0 30,0,0,0,0,0,0,[]⟩,zH (λe=>⟨⟨vY t.c,1+zF t.c.id 0 30,0,0,0,0,0,0,[]⟩,?_,rfl,rfl,rfl,rfl,rfl,rfl,rfl,rfl,rfl,k0q⟩) (λe=>⟨⟨vY t.c,1+zF t.c.id 0 30,0,0,0,0,0,0,[]⟩,?_,rfl,rfl,rfl,rfl,rfl,rfl,rfl,rfl,rfl,k0q⟩),λc hcc=> ?_⟩⟩
 ·dsimp only at e ⊢;rw[vY,y5v (by omega)]
 ·dsimp only at e ⊢;rw[vY,y5t (by omega)]
 subst hcc;refine⟨t.p,rF7 (rF3 ⟨rfl,hs,λ_ _=> ?_⟩)⟩;rw[w64 (x:=(t.p.count:Int)-1) (by omega)];refine⟨⟨t.c.inst,0,(t.p.count:Int)-1⟩,rfl,rfl,rfl,⟨r3,Z9,Z9,Z9⟩,λ_ _=>⟨⟨t.c.side,0,1⟩,rfl,rfl,rfl,⟨r4,Z9,Z9,Z9⟩,λ_ _=>⟨⟨t.c.qty,0,11⟩,rfl,rfl,rfl,⟨r6,Z9,Z9,Z9⟩,λ_ _=>⟨⟨t.c.price,0,9⟩,rfl,rfl,rfl,⟨r5,Z9,Z9,Z9⟩,λ_ _=>⟨rfl,?_⟩⟩⟩⟩⟩;dsimp only;rw[wp,w64 (x:=1+zF t.c.side 0 1) (by omega),w64 (x:=1+zF t.c.qty 0 11) (by omega),w64 (x:=t.i+1) (by omega)];refine Cv.cnd.mk (λk=> ?_) (λk=> ?_)
 ·have k:vY t.c=1:=by simpa using k
  refine⟨{y6 t with id:=t.i+1,time:=1},rF8 ⟨rfl,λc=>c={y6 t with id:=t.i+1,time:=if t.c.time.tmod 5=2 then 2 else 1},⟨rfl,Z8,Cv.cnd.mk (λe=>⟨{y6 t with id:=t.i+1,time:=2},rF8 ⟨rfl,?_,k0q⟩⟩) (λe=>⟨{y6 t with id:=t.i+1,time:=1},rF8 ⟨rfl,?_,k0q⟩⟩)⟩,λc hcc=> ?_⟩⟩
  ·have e:t.c.time.tmod 5=2:=by simpa using e
   rw[y5v e]
  ·have e:¬t.c.time.tmod 5=2:=by simpa using e
   rw[y5t e]
  subst hcc;refine⟨{y6 t with id:=t.i+1,time:=if t.c.time.tmod 5=2 then 2 else 1},rF8 ⟨rfl,λc=>c={y6 t with id:=t.i+1,time:=dK t.c},⟨rfl,Z8,Cv.cnd.mk (λe=>⟨{y6 t with id:=t.i+1,time:=3},rF8 ⟨rfl,?_,k0q⟩⟩) (λe=>⟨{y6 t with id:=t.i+1,time:=if t.c.time.tmod 5=2 then 2 else 1},rF8 ⟨rfl,?_,k0q⟩⟩)⟩,λc hcc=> ?_⟩⟩
  ·have e:t.c.time.tmod 5=3:=by simpa using e
   rw[dK,y5v e]
  ·have e:¬t.c.time.tmod 5=3:=by simpa using e
   rw[dK,y5t e]
  subst hcc;have hq:(y6 t).qty=1+zF t.c.qty 0 11:=rfl;refine⟨{y6 t with id:=t.i+1,time:=dK t.c},rF8 ⟨rfl,λc=>c={y6 t with id:=t.i+1,time:=dK t.c,least:=cQ t.c (y6 t).qty},⟨rfl,Z8,Cv.cnd.mk (λe=>⟨⟨t.c.least,0,(y6 t).qty⟩,rfl,rfl,rfl,⟨r7,Z9,Z9,Z9⟩,λ_ _=>⟨{y6 t with id:=t.i+1,time:=dK t.c,least:=zF t.c.least 0 (y6 t).qty},rF8 ⟨rfl,?_,k0q⟩⟩⟩) (λe=>⟨{y6 t with id:=t.i+1,time:=dK t.c},rF8 ⟨rfl,?_,k0q⟩⟩)⟩,λc hcc=> ?_⟩⟩
  ·have e:t.c.least.tmod 4=1:=by simpa using e
   rw[cQ,y5v e]
  ·have e:¬t.c.least.tmod 4=1:=by simpa using e
   rw[cQ,y5t e];rfl
  subst hcc;refine⟨⟨t.p,(y6 t).inst⟩,rF8 (rF3 ⟨rfl,hs,λ_ _=> ?_⟩)⟩;dsimp only;have hp:(y6 t).price=t.p.tick*zF t.c.price 0 9:=rfl;have hk1:(y6 t).kind=1:=k;rw[w64 (x:=8*t.p.tick) (by omega),w64 (x:=4*t.p.tick) (by omega),w64 (x:=(y6 t).price+8*t.p.tick) (by omega),w64 (x:=(y6 t).price-4*t.p.tick) (by omega)];refine Cv.cnd.mk (λe=>⟨(),?_⟩) (λe=>⟨(),?_⟩)
  ·have e:(t.p.legs (y6 t).inst).2.2=az:=by simpa using e
   have:xJ t={y6 t with id:=t.i+1,time:=dK t.c,least:=cQ t.c (y6 t).qty,price:=(y6 t).price+8*t.p.tick}:=by
    simp only[xJ,hk1,if_true,e,y6n,if_false]
   rw[this];(repeat'(first|exact trivial|exact rfl|apply am))
  ·have e:(t.p.legs (y6 t).inst).2.2=ay:=by simpa using e
   have:xJ t={y6 t with id:=t.i+1,time:=dK t.c,least:=cQ t.c (y6 t).qty,price:=(y6 t).price-4*t.p.tick}:=by
    simp only[xJ,hk1,if_true,e]
   rw[this];(repeat'(first|exact trivial|exact rfl|apply am))
 ·have k:¬vY t.c=1:=by simpa using k
  have k:¬(y6 t).kind=1:=k;rw[w64 (x:=5*t.p.tick) (by omega),w64 (x:=t.p.tick*zF t.c.price 0 9+5*t.p.tick) (by omega)];have et:xJ t={y6 t with price:=if(y6 t).kind=4 then(y6 t).price+5*t.p.tick else(y6 t).price,side:=0,inst:=0}:=by
   simp only[xJ,k,if_false]
  rw[et];refine Cv.cnd.mk (λe=>⟨(),?_⟩) (λe=>⟨(),?_⟩)
  ·have e:vY t.c=4:=by simpa using e
   have e:(y6 t).kind=4:=e;simp only[y5v e];(repeat'(first|exact trivial|exact rfl|apply am))
  ·have e:¬vY t.c=4:=by simpa using e
   have e:¬(y6 t).kind=4:=e;simp only[y5t e];(repeat'(first|exact trivial|exact rfl|apply am))
def yOn:tameC.ok Tryz.prog 51:=okw mixed (gokc within_ok (gokc z2h (gokc yBo gok0))) 0 (λ_=>yZc) (λ_=>[]) [] Tryz.func51 y1n
structure ShI where
 a:Int
 b:Int
 c:Int
def add64C:Con:=con1 ShI (λi=>[eE i.a,eE i.b,eE i.c]) (λ_=>[]) (λi=>0<=i.a/\0<=i.b/\0<=i.c/\i.c<=1) (λi=> .tup [eE ((i.a+i.b+i.c) % 18446744073709551616),eE ((i.a+i.b+i.c) / 18446744073709551616)]) (λ_=>[])
def yAj {P : Program} {f : FuncId} {fn : Func} (hf : P.funcs[f]? = some fn) (hname : (fn.name == "runtime.NumGoroutine") = false) (hb : fn.body.isNone = true) (hn : Extern.findNext fn = none) (he : Extern.find fn = some add64Entry) : add64C.ok P f := by
 intro i hc k L E w ys R hv;obtain⟨h1,h2,h3,h4⟩:0<=i.a/\0<=i.b/\0<=i.c/\i.c<=1:=hc;simp only[add64C,con1,VRL,VR,DR]at hv;obtain⟨_,_,rfl,⟨rfl,_⟩,_,_,rfl,⟨rfl,_⟩,_,_,rfl,⟨rfl,_⟩,rfl⟩:=hv;unfold Does;rw[run_callFunc_extern hf hname hb hn he,run_add64 i.a i.b i.c h1 h2 h3 h4];simp only[Result.andThen];refine⟨_,y7g.2 rfl,(),trivial,E,Ev.le.refl _,?_,R⟩;simp only[add64C,con1,VR,VRL,DR];exact⟨_,rfl,_,_,rfl,⟨rfl,rfl⟩,_,_,rfl,⟨rfl,rfl⟩,rfl⟩
def yAc:add64C.ok Tryz.prog 328:=by
 refine yAj (P:=Tryz.prog) (f:=328) (fn:=Tryz.f328) Tryz.func328 ?_ ?_ ?_ ?_
 ·kernel_rfl
 ·kernel_rfl
 ·kernel_rfl
 ·kernel_rfl
structure M2 where
 a:Int
 b:Int
def mul64C:Con:=con1 M2 (λi=>[eE i.a,eE i.b]) (λ_=>[]) (λi=>0<=i.a/\i.a<=2000000000/\0<=i.b/\i.b<=2000000000) (λi=> .tup [eE 0,eE (i.a*i.b)]) (λ_=>[])
def div64C:Con:=con1 M2 (λi=>[eE 0,eE i.a,eE i.b]) (λ_=>[]) (λi=>0<=i.a/\i.a<=4000000000000000000/\1<=i.b/\i.b<=2000000000) (λi=> .tup [eE (i.a / i.b),eE (i.a % i.b)]) (λ_=>[])
def ishareC:Con:=con1 ShI (λi=>[zA i.a,zA i.b,zA i.c]) (λ_=>[]) (λi=>0<=i.a/\i.a<=2000000000/\0<=i.b/\i.b<=2000000000/\1<=i.c/\i.c<=2000000000) (λi=> .tup [zA (i.a*i.b / i.c),yR ay]) (λ_=>[])
def isumC:Con:=con1 (List Int) (λl=>[iV l]) (λ_=>[]) (λl=>l.length<=1000/\∀x∈l,0<=x/\x<=1000000) (λl=> .tup [zA l.sum,yR ay]) (λ_=>[])
def y2k (l:List Int):List SAnn:=[{ι:=Nat,slots:=λj=>[(4,eE (l.take j).sum),(5,zA 0),(11,zA j)],rows:=λ_=>[]}]
structure LqI where
 l:List Int
 q:Int
def yZ (l:List Int) (q:Int):Bool:=decide (l.length<=250) && decide (0<=q) && l.all (λn=>decide (1<=n) && decide (n<=1000000)) && decide (q<=l.sum)
def rightC:Con:=con1 LqI (λi=>[iV i.l,zA i.q]) (λ_=>[]) (λi=>i.l.length<=1000000/\yY i.q) (λi=>yR (yZ i.l i.q)) (λ_=>[])
def yYd (i:LqI):List SAnn:=[{ι:=Nat,slots:=λj=>[(5,zA (i.l.take j).sum),(17,zA j)],rows:=λ_=>[]}]
def gA:List Int->Int->List Int
 |[],_=>[]
 |n::l,q=>min n q::gA l (q-min n q)
def gN (l:List Int) (q:Int):List Int:=if yZ l q=ay then gA l q else[]
def fifoC:Con:=con1 LqI (λi=>[iV i.l,zA i.q]) (λ_=>[]) (λi=>i.l.length<=1000000/\yY i.q) (λ_=> .own 0) (λi=>[.own 2 1 (iE (gN i.l i.q))])
def yZm (i:LqI):List SAnn:=[{ι:=Nat,slots:=λj=>[(5,.own 0),(1,zA (i.q-((gA i.l i.q).take j).sum)),(15,zA j)],rows:=λj=>[.own 2 1 (iE ((gA i.l i.q).take j))]}]
def zDh (a:M2):=(ab.wrap (ab.wrap (bV ab a.a 32*zDb ab a.b 4294967295)+bV ab (ab.wrap (zDb ab a.a 4294967295*zDb ab a.b 4294967295)) 32))
def yEj (i:M2):Prop:=
 (0:Int)<=(32:Int)/\(0:Int)<=(32:Int)/\(0:Int)<=(32:Int)/\(0:Int)<=(32:Int)/\(0:Int)<=(32:Int)/\∃(a:Unit),0=ab.wrap (ab.wrap (ab.wrap (bV ab i.a 32*bV ab i.b 32)+bV ab (zDh i) 32)+bV ab (ab.wrap (zDb ab (zDh i) 4294967295+ab.wrap (zDb ab i.a 4294967295*bV ab i.b 32))) 32)/\i.a*i.b=ab.wrap (i.a*i.b)/\True
def yGg (i:M2):Prop:=
 cnd (i.b==0) False (cnd (decide (i.b<=0)) False (ab=ab/\i.b≠0/\ab=ab/\i.b≠0/\∃(a:Unit),i.a / i.b=ab.wrap (i.a.tdiv i.b)/\i.a % i.b=i.a.tmod i.b/\True))
def z7w (i:ShI):Prop:=
 cnd (decide (i.a<0)) (∃(a:Unit),i.a*i.b / i.c=0/\ay=az/\True) (cnd (decide (i.b<0)) (∃(a:Unit),i.a*i.b / i.c=0/\ay=az/\True) (cnd (decide (i.c<1)) (∃(a:Unit),i.a*i.b / i.c=0/\ay=az/\True) (∃(a:M2),a.a=ab.wrap i.a/\a.b=ab.wrap i.b/\(0<=a.a/\a.a<=(2000000000:Int)/\(0:Int)<=a.b/\a.b<=2000000000)/\∀(b:Unit),True->cnd (decide (0>=ab.wrap i.c)) (∃(c:Unit),i.a*i.b / i.c=0/\ay=az/\True) (∃(c:M2),dh ((0:Int))/\c.a=a.a*a.b/\c.b=ab.wrap i.c/\(0<=c.a/\c.a<=(4000000000000000000:Int)/\(1:Int)<=c.b/\c.b<=2000000000)/\∀(d:Unit),True->cnd (decide (c.a / c.b>9223372036854775807)) (∃(e:Unit),i.a*i.b / i.c=0/\ay=az/\True) (∃(e:Unit),i.a*i.b / i.c=aa.wrap (c.a / c.b)/\ay=ay/\True)))))
def yRw (l:List Int):Prop:=
 ∃(a:Nat),(ae a l).sum=(0:Int)/\(0:Int)=0/\(↑a:Int)=0/\∃(b:Nat->Prop),∃(c:Nat->Nat),b a/\∀(d:Nat),b d->cnd (decide ((↑d:Int)<(↑(iE l).length:Int))) ((0<=(↑d:Int)/\(↑d:Int)<(↑(iE l).length:Int))/\∃(e:Int),zE (iE l) (↑d:Int).toNat 0 1=bg [dI e]/\∃(f:ShI),f.a=(ae d l).sum/\f.b=ab.wrap e/\f.c=0/\(0<=f.a/\0<=f.b/\0<=f.c/\f.c<=1)/\∀(g:Unit),True->(0:Int)<=(63:Int)/\∃(h:Nat),(ae h l).sum=(f.a+f.b+f.c) % (18446744073709551616:Int)/\(0:Int)=aa.wrap (0+aa.wrap (bV aa e 63+aa.wrap ((f.a+f.b+f.c) / (18446744073709551616:Int))))/\kE h d b c) ((0:Int)<=(63:Int)/\cnd (0 !=bV aa (aa.wrap (ae d l).sum) 63) (∃(e:Unit),l.sum=0/\ay=az/\True) (∃(e:Unit),l.sum=aa.wrap (ae d l).sum/\ay=ay/\True))
def yJl (i:LqI):Prop:=
 cnd (decide ((↑(iE i.l).length:Int)>250)) (∃(a:Unit),yZ i.l i.q=az/\True) (cnd (decide (i.q<0)) (∃(a:Unit),yZ i.l i.q=az/\True) (∃(a:Nat),(ae a i.l).sum=0/\(↑a:Int)=0/\∃(b:Nat->Prop),∃(c:Nat->Nat),b a/\∀(d:Nat),b d->cnd (decide ((↑d:Int)<(↑(iE i.l).length:Int))) ((0<=(↑d:Int)/\(↑d:Int)<(↑(iE i.l).length:Int))/\∃(e:Int),zE (iE i.l) (↑d:Int).toNat 0 1=bg [dI e]/\cnd (decide (e<1)) (∃(f:Unit),yZ i.l i.q=az/\True) (cnd (decide (e>1000000)) (∃(f:Unit),yZ i.l i.q=az/\True) (∃(f:Nat),(ae f i.l).sum=aa.wrap ((ae d i.l).sum+e)/\kE f d b c))) (∃(e:Unit),yZ i.l i.q=decide (i.q<=(ae d i.l).sum)/\True)))
def wH (a:LqI):Prop:=a.l.length<=(1000000:Nat)/\(-9223372036854775808:Int)<=a.q/\a.q<=9223372036854775807
def wG (a:Nat) (b:LqI):=(ae a (gA b.l b.q))
def yQg (i:LqI):Prop:=
 ∃(a:LqI),iE a.l=iE i.l/\a.q=i.q/\(wH a)/\∀(b:Unit),True->cnd (!yZ a.l a.q) (∃(c:Unit),iE (gN i.l i.q)=[]/\True) (∃(c:Nat),i.q-(wG c i).sum=i.q/\(↑c:Int)=0/\iE (wG c i)=[]/\∃(d:Nat->Prop),∃(e:Nat->Nat),d c/\∀(f:Nat),d f->cnd (decide ((↑f:Int)<(↑(iE i.l).length:Int))) ((0<=(↑f:Int)/\(↑f:Int)<(↑(iE i.l).length:Int))/\∃(g:Int),zE (iE i.l) (↑f:Int).toNat 0 1=bg [dI g]/\((iE (wG f i)).length+1)*(8:Nat)<=(140737488355328:Nat)/\∃(h:Nat),i.q-(wG h i).sum=aa.wrap (i.q-(wG f i).sum-min g (i.q-(wG f i).sum))/\(↑h:Int)=aa.wrap ((↑f:Int)+1)/\iE (wG h i)=iE (wG f i)++[[dI (min g (i.q-(wG f i).sum))]]/\d h/\e h<e f/\True) (∃(g:Unit),iE (gN i.l i.q)=iE (wG f i)/\True))
end Sx
