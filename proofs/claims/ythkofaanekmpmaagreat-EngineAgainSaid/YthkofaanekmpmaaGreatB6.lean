/- Texts of ours. No condition. -/
import Derived.Laws.Externs
import Derived.Test.YthkofaanekmpmaaGreatB5
set_option linter.all false
open Go.IntKind renaming i64->aa,u64->ab
open List renaming map->ac,take->ae,headD_cons->af,tail_cons->ag,range->aj,drop->ak
open And renaming intro->am
open Sx.AObj renaming adt->ao,cells->ap,fro->aq,objs->ar,own->au,iter->av,map->aw
open Exists renaming intro->ax
open Bool renaming true->ay,false->az,or_eq_true->ba
open Go.Value renaming int->bc,string->be
open Option renaming some->bg,none->bo
open Go.Utf8 renaming decode->bu
namespace Sx
set_option maxRecDepth 100000
open Go Cv Go.Proofs
def aT:bbetterC.ok Tryz.prog 58:=okw (V:=zZc) mixed gok0 0 (λ_=>[]) (λ_=>[]) [] Tryz.func58 λ(i:I3') _=>by
 unfold zZc;refine Cv.cnd.mk (λc=> ?_) (λc=> ?_)
 ·have c:i.side=1:=by simpa using c
  rw[btr,y5f c];exact kp
 ·have c:¬i.side=1:=by simpa using c
  rw[btr,y5d c];exact kp
def yIu:pushFC.ok Tryz.prog 293:=okw (V:=yGu) mixed gok0 0 (λ_=>[]) (λ_=>[]) [] Tryz.func293 λ(s:Slot) _=>by
 unfold yGu;exact kp
def y4f {l:List Slot} {k:Nat} {s:Slot} (h:l[k]? =bg s):zE (l.map zQ) k 0 8=bg [D.v (.bool s.used),.v (.int .i64 s.n),.v (.int .i64 s.id),.v (.int .i64 s.qty),.v (.bool s.top),.v (.int .i64 s.queue),.v (.int .i64 s.ahead),.v (.int .i64 s.back)]:=elA h (by simp[zQ]) rfl
def yIv (l:List Slot) (h:idxSlotC.cnd l):zXp l:=by
 have h:l.length<=1000000:=h;unfold zXp dI;simp only[y5e];refine⟨0,rfl,λj=>j<=l.length/\∀k<j,∀x,l[k]? =bg x->(!x.used)=az,λj=>l.length-j,⟨oM,λk hk=>by omega⟩,?_⟩;rintro j ⟨h3,h4⟩;refine zI (λhj=> ?_) (λhj=> ?_)
 ·obtain⟨s,hs⟩:=yE (l:=l) (i:=j) oM;refine⟨⟨oM,oM⟩,s.used,s.n,s.id,s.qty,s.top,s.queue,s.ahead,s.back,y4f hs,s,rF7 ⟨rfl,trivial,λ_ _=>Cv.cnd.mk (λe=> ?_) (λe=> ?_)⟩⟩
  ·rw[kU,zIy hs e h4];exact kp
  ·refine⟨j+1,by rw[w64 (by omega)];rfl,⟨oM,λk hk x hx=> ?_⟩,by(first|omega|(dsimp only;omega)),k0q⟩;rcases y7m k j with hk'|hk'
   ·exact h4 k hk' x hx
   ·obtain rfl:k=j:=by omega
    rw[hs]at hx;cases hx;exact e
 ·rw[kU,zIl λk x hx=>h4 k (by have:=(y5h.1 hx).1;omega) x hx];exact kp
def z1r:idxSlotC.ok Tryz.prog 292:=okw mixed (gokc yIu gok0) 0 (λ_=>[]) (λl=>yGt l) [] Tryz.func292 yIv
def z0h:aopenC.ok Tryz.prog 294:=okw (V:=yHs) mixed gok0 0 (λ_=>[]) (λ_=>[]) [0] Tryz.func294 λ(a:Arena) h=>by
 have h:a.queues.length<=1000000:=h;unfold yHs dI;rw[y5c,y5e,w64 (by simp only[y5i,y6x];omega)];refine⟨oM,(),?_,rfl,rfl,?_,trivial⟩
 ·simp
 ·rw[y5n];rfl
def cH {α:Type} {f:α->α}:∀{l:List α} {i:Nat} {x:α},l[i]? =bg x->l.modify i f=l.set i (f x)
 |[],i,x,h=>by simp at h
 |a::l,0,x,h=>by simp at h;subst h;rfl
 |a::l,i+1,x,h=>by
  simp only[y7c]at h;simp only[xAn,xBc,cH h]
def yH {α:Type} {f:α->List D} {l:List α} {i g:Nat} {x y:α} {ds:List D} (hi:l[i]? =bg x) (hh:(f x).take g++(ds++(f x).drop (g+ds.length))=f y):zW (l.map f) i g ds=(l.set i y).map f:=by
 have hlt:=(y5h.1 hi).1;rw[zW,cH (by rw[y6u,hi];rfl),hh,List.map_set]
def uG {α:Type} {l:List α} {i:Nat} {x y:α} (hi:l[i]? =bg x):(l.set i y)[i]? =bg y:=List.getElem?_set_self (y5h.1 hi).1
def zT {α:Type} {l:List α} {i:Nat} {x d:α} (h:l[i]? =bg x):l.getD i d=x:=by rw[y5m,h];rfl
def y0d (i:yCi) (h:atopC.cnd i):yRp i:=by
 have h:i.a.slots.length<=1000000:=h;unfold yRp zAg;simp only[y5e];have no (e:i.a.usedAt i.n=az):i.a.topF i.n i.t=i.a:=by rw[Arena.topF,y5d (by rw[e];decide)]
 refine zI (λc=> ?_) (λc=>zI (λd=> ?_) (λd=> ?_))
 ·have e:i.a.usedAt i.n=az:=by rw[Arena.usedAt,y5q (by omega),y8o]
  rw[no e,e];exact kp
 ·have e:i.a.usedAt i.n=az:=by rw[Arena.usedAt,y5q (show ¬i.n<(i.a.slots.length:Int)by omega),y8o,xAh]
  rw[no e,e];exact kp
 ·obtain⟨s,hs⟩:=yE (l:=i.a.slots) (i:=i.n.toNat) oM;have eu:i.a.usedAt i.n=s.used:=by rw[Arena.usedAt,y5u (show 0<=i.n by omega),y5u (show i.n<(i.a.slots.length:Int)by omega),zT hs];simp
  refine⟨⟨oM,oM⟩,s.used,elA hs (by simp[zQ]) rfl,Cv.cnd.mk (λu=> ?_) (λu=> ?_)⟩
  ·have e:i.a.usedAt i.n=az:=by rw[eu];simpa using u
   rw[no e,e];exact kp
  ·have e:i.a.usedAt i.n=ay:=by rw[eu];simpa using u
   have et:i.a.topF i.n i.t={i.a with slots:=i.a.slots.set i.n.toNat {s with top:=i.t}}:=by
    rw[Arena.topF,y5f e,cH hs]
   rw[et,e,yH hs (y:={s with top:=i.t}) rfl];refine⟨⟨oM,oM⟩,oM,(),rF4 trivial⟩
def z5p:atopC.ok Tryz.prog 291:=okw mixed gok0 1 (λ_=>[]) (λ_=>[]) [0] Tryz.func291 y0d
def yIa {l:List Slot} (h:∃s∈l,s.used=az):∃k:Nat,kU l=k/\k<l.length:=by
 obtain⟨s,hs,hu⟩:=h;cases hf:l.findIdx? λs=> !s.used with
 |none=>
  rw[y9v]at hf;have:=hf s hs;rw[hu]at this;cases this
 |some k=>
  rw[y8m]at hf;exact⟨k,by rw[kU,show(l.findIdx? λs=> !s.used)=bg k by rw[y8m];exact hf];rfl,hf.1⟩
def yXk (i:PuI) (h:apushC.cnd i):yIy i:=by
 obtain⟨h1,h2,h3⟩:i.a.fit:=h;unfold yIy sG sU sC rH zDs zCv sZ yI dI;simp only[y5e];have out (e:i.n<0\/i.a.queues.length<=i.n):i.a.push i.n i.id i.qty i.top=(i.a,0,26):=by rw[Arena.push,y5f e]
 refine zI (λc=>Cv.cnd.mk (λd=> ?_) (λd=> ?_)) (λc=> ?_)
 ·have d:¬i.n<(i.a.queues.length:Int):=by simpa using d
  rw[out (.inr (by omega))];exact kp
 ·have d:i.n<(i.a.queues.length:Int):=by simpa using d
  have hn:¬(i.n<0\/(i.a.queues.length:Int)<=i.n):=by omega
  refine zI (λq1=> ?_) (λq1=>zI (λq2=> ?_) (λq2=>Cv.cnd.mk (λfr=> ?_) (λfr=> ?_)))
  ·rw[Arena.push,y5d hn,y5f (.inl q1)];exact kp
  ·rw[Arena.push,y5d hn,y5f (.inr q2)];exact kp
  ·rw[Arena.push,y5d hn,y5d (by omega),y5f (by simpa using fr)];exact kp
  ·have fr:i.a.free≠0:=by simpa using fr
   have ep:i.a.push i.n i.id i.qty i.top=(i.a.put i.n i.id i.qty i.top,kU i.a.slots,0):=by rw[Arena.push,y5d hn,y5d (by omega),y5d fr]
   obtain⟨k,hk,hkl⟩:=yIa (h2 fr);obtain⟨q,hq⟩:=yE (l:=i.a.queues) (i:=i.n.toNat) oM;have hqm:=y5o hq;have hl:=h3 q hqm;obtain⟨s,hs⟩:=yE hkl;refine⟨i.a.slots,rfl,h1,λ_ _=>⟨⟨oM,oM⟩,q.last,elA hq (by simp[zO]) rfl,⟨oM,oM⟩,by rw[hk];exact hkl,q.last,elA hq (by simp[zO]) rfl,?_⟩⟩;rw[ep];have eput:i.a.put i.n i.id i.qty i.top=⟨if q.last= -1 then i.a.slots.set k ⟨ay,k,i.id,i.qty,i.top,i.n,q.last,-1⟩else(i.a.slots.set k ⟨ay,k,i.id,i.qty,i.top,i.n,q.last,-1⟩).modify q.last.toNat λs=>{s with back:=k},i.a.queues.set i.n.toNat ⟨if q.last= -1 then k else q.first,k,aa.wrap (q.total+i.qty),aa.wrap (q.count+1)⟩,aa.wrap (i.a.free-1)⟩:=by
    simp only[Arena.put,zT hq,hk,y5w]
   rw[eput,hk];simp only[y5w];have es:zW (ac zQ i.a.slots) k 0 [D.v (.bool ay),D.v (.int .i64 k),D.v (.int .i64 i.id),D.v (.int .i64 i.qty),D.v (.bool i.top),D.v (.int .i64 i.n),D.v (.int .i64 q.last),D.v (.int .i64 (-1))]=ac zQ (i.a.slots.set k ⟨ay,k,i.id,i.qty,i.top,i.n,q.last,-1⟩):=yH hs rfl;rw[es];refine Cv.cnd.mk (λe=> ?_) (λe=> ?_)
   ·have e:q.last= -1:=by simpa using e
    have e1:zW (ac zO i.a.queues) i.n.toNat (0+0) [D.v (.int .i64 k)]=ac zO (i.a.queues.set i.n.toNat {q with first:=k}):=yH hq rfl;have g1:=uG (y:={q with first:=(k:Int)}) hq;have e2:zW (ac zO (i.a.queues.set i.n.toNat {q with first:=k})) i.n.toNat (0+1) [D.v (.int .i64 k)]=ac zO (i.a.queues.set i.n.toNat {q with first:=k,last:=k}):=by
     rw[yH g1 (y:={q with first:=(k:Int),last:=(k:Int)}) rfl,y9f]
    have g2:=uG (y:={q with first:=(k:Int),last:=(k:Int)}) hq;have e3:zW (ac zO (i.a.queues.set i.n.toNat {q with first:=k,last:=k})) i.n.toNat (0+2) [D.v (.int .i64 (aa.wrap (q.total+i.qty)))]=ac zO (i.a.queues.set i.n.toNat {q with first:=k,last:=k,total:=aa.wrap (q.total+i.qty)}):=by
     rw[yH g2 (y:={q with first:=(k:Int),last:=(k:Int),total:=aa.wrap (q.total+i.qty)}) rfl,y9f]
    have g3:=uG (y:={q with first:=(k:Int),last:=(k:Int),total:=aa.wrap (q.total+i.qty)}) hq;have e4:zW (ac zO (i.a.queues.set i.n.toNat {q with first:=k,last:=k,total:=aa.wrap (q.total+i.qty)})) i.n.toNat (0+3) [D.v (.int .i64 (aa.wrap (q.count+1)))]=ac zO (i.a.queues.set i.n.toNat ⟨k,k,aa.wrap (q.total+i.qty),aa.wrap (q.count+1)⟩):=by
     rw[yH g3 (y:=⟨k,k,aa.wrap (q.total+i.qty),aa.wrap (q.count+1)⟩) rfl,y9f]
    rw[e1,e2];simp only[y5f e];refine⟨oM,by simp only[y5e,y6k];omega,q.total,elA g2 (by simp[zO]) rfl,by simp only[y5e,y6k];omega,q.count,?_,by rw[e3];simp only[y5e,y6k];omega,(),?_⟩
    ·rw[e3];exact elA g3 (by simp[zO]) rfl
    ·rw[e3,e4];exact kp
   ·have e:¬q.last= -1:=by simpa using e
    have hl:0<=q.last/\q.last<i.a.slots.length:=hl.resolve_left e;have e2:zW (ac zO i.a.queues) i.n.toNat (0+1) [D.v (.int .i64 k)]=ac zO (i.a.queues.set i.n.toNat {q with last:=k}):=yH hq rfl;have g2:=uG (y:={q with last:=(k:Int)}) hq;have e3:zW (ac zO (i.a.queues.set i.n.toNat {q with last:=k})) i.n.toNat (0+2) [D.v (.int .i64 (aa.wrap (q.total+i.qty)))]=ac zO (i.a.queues.set i.n.toNat {q with last:=k,total:=aa.wrap (q.total+i.qty)}):=by
     rw[yH g2 (y:={q with last:=(k:Int),total:=aa.wrap (q.total+i.qty)}) rfl,y9f]
    have g3:=uG (y:={q with last:=(k:Int),total:=aa.wrap (q.total+i.qty)}) hq;have e4:zW (ac zO (i.a.queues.set i.n.toNat {q with last:=k,total:=aa.wrap (q.total+i.qty)})) i.n.toNat (0+3) [D.v (.int .i64 (aa.wrap (q.count+1)))]=ac zO (i.a.queues.set i.n.toNat ⟨q.first,k,aa.wrap (q.total+i.qty),aa.wrap (q.count+1)⟩):=by
     rw[yH g3 (y:=⟨q.first,k,aa.wrap (q.total+i.qty),aa.wrap (q.count+1)⟩) rfl,y9f]
    obtain⟨s2,hs2⟩:=yE (l:=i.a.slots.set k ⟨ay,k,i.id,i.qty,i.top,i.n,q.last,-1⟩) (i:=q.last.toNat) (by rw[y6k];omega);have e5:zW (ac zQ (i.a.slots.set k ⟨ay,k,i.id,i.qty,i.top,i.n,q.last,-1⟩)) q.last.toNat (0+7) [D.v (.int .i64 k)]=ac zQ ((i.a.slots.set k ⟨ay,k,i.id,i.qty,i.top,i.n,q.last,-1⟩).modify q.last.toNat λs=>{s with back:=k}):=by
     rw[yH hs2 (y:={s2 with back:=(k:Int)}) rfl,cH hs2]
    rw[e2];simp only[y5d e];refine⟨q.last,elA hq (by simp[zO]) rfl,⟨oM,by simp only[y5e,y6k];omega⟩,by simp only[y5e,y6k];omega,oM,q.total,elA g2 (by simp[zO]) rfl,by simp only[y5e,y6k];omega,q.count,?_,by rw[e3];simp only[y5e,y6k];omega,(),?_⟩
    ·rw[e3];exact elA g3 (by simp[zO]) rfl
    ·rw[e3,e4,e5];exact kp
 ·rw[out (.inl (by omega))];exact kp
def zWw:apushC.ok Tryz.prog 267:=okw mixed (gokc z1r gok0) 1 (λ_=>[]) (λ_=>[]) [0] Tryz.func267 yXk
def pJ {s price:Int}:∀{l:List xN} {j:Nat},j<=l.length->(∀k<j,∀r,l[k]? =bg r->btr s r.price price=ay)->(∀r,l[j]? =bg r->btr s r.price price=az)->zY s l price=j
 |[],j,hj,_,_=>by
  obtain rfl:j=0:=by simpa using hj
  rfl
 |r::l,0,_,_,he=>by
  have:=he r rfl;rw[zY,List.takeWhile_cons,this];rfl
 |r::l,j+1,hj,h,he=>by
  have h0:=h 0 oM r rfl;have ih:=pJ (l:=l) (j:=j) (by simpa using hj) (λk hk x hx=>h (k+1) oM x (by simpa using hx)) (λx hx=>he x (by simpa using hx));rw[zY]at ih ⊢;rw[List.takeWhile_cons,h0,y5f rfl,y5i,ih]
def zFn (s price:Int) (l:List xN):zY s l price<=l.length:=(List.takeWhile_sublist _).length_le
def rM (b:Book):b.rungs 1=b.buys:=rfl
def rS (b:Book):b.rungs 2=b.sells:=rfl
def yWz (i:BkP) (h:find1C.cnd i):yHp i:=by
 obtain⟨_,h1,h2,_⟩:i.b.small:=h;unfold yHp zIj rN uC sI zCu dH xW dI;simp only[y5e,rM];refine⟨0,rfl,λj=>j<=i.b.buys.length/\∀k<j,∀r,i.b.buys[k]? =bg r->btr 1 r.price i.price=ay,λj=>i.b.buys.length-j,⟨oM,λk hk=>by omega⟩,?_⟩;rintro j ⟨h3,h4⟩;refine zI (λhj=> ?_) (λhj=> ?_)
 ·obtain⟨r,hr⟩:=yE (l:=i.b.buys) (i:=j) oM;refine⟨⟨oM,oM⟩,r.price,elA hr (by simp[zB]) rfl,⟨1,r.price,i.price⟩,rfl,rfl,rfl,trivial,λ_ _=> ?_⟩;dsimp only;refine Cv.cnd.mk (λe=>⟨j+1,by rw[w64 (by omega)];rfl,⟨oM,λk hk x hx=> ?_⟩,by(first|omega|(dsimp only;omega)),k0q⟩) (λe=>zI (λ_=> ?_) (λc=>absurd hj c))
  ·rcases y7m k j with hk'|hk'
   ·exact h4 k hk' x hx
   ·obtain rfl:k=j:=by omega
    rw[hr]at hx;cases hx;exact e
  ·have en:zY 1 i.b.buys i.price=j:=pJ h3 h4 λx hx=>by rw[hr]at hx;cases hx;exact e
   have eb:kQ 1 i.b.buys i.price=(r.price==i.price):=by rw[kQ,en,hr];exact(zXe _ _).symm
   refine⟨⟨oM,oM⟩,r.price,elA hr (by simp[zB]) rfl,(),by rw[en],eb,?_⟩
   (repeat'(first|exact trivial|exact rfl|apply am))
 ·have en:zY 1 i.b.buys i.price=j:=pJ h3 h4 λx hx=>by have:=(y5h.1 hx).1;omega
  have eb:kQ 1 i.b.buys i.price=az:=by rw[kQ,en,y6j (by omega)]
  refine zI (λc=>absurd c hj) (λ_=>⟨(),by rw[en],eb,?_⟩)
  (repeat'(first|exact trivial|exact rfl|apply am))
def zMm:find1C.ok Tryz.prog 270:=okw mixed (gokc aT gok0) 0 (λ_=>[]) (λ_=>yRc) [] Tryz.func270 yWz
def j6 (l:List (Int×Place)) (k:Int):∀(p:Value×List D),p∈atE l->like (bc aa k) p.1=ay:=by
 intro p hp;obtain⟨x,_,rfl⟩:=y6q.1 hp;rfl
def zBd (k:Int):∀l:List (Int×Place),kK (bc aa k) (atE l)=(pget l k).map z4z
 |[]=>rfl
 |(a,v)::l=>by
  have ih:=zBd k l;show(bif (keq .i64 .i64 && decide (k=a))then _ else kK _ (atE l))=_;by_cases h:k=a
  ·subst h;simp[pget,keq]
  ·have h':¬a=k:=λe=>h e.symm
   rw[show(keq .i64 .i64 && decide (k=a))=az by simp[h],cond_false,ih];simp[pget,xBg,h']
def zIf:Place:=⟨0,0,0⟩
def zTf (l:List (Int×Place)) (k:Int):kK (bc aa k) (atE l)=bg [D.v (.int .i64 ((pget l k).getD zIf).side),D.v (.int .i64 ((pget l k).getD zIf).price),D.v (.int .i64 ((pget l k).getD zIf).slot)]/\(pget l k).isSome=ay\/kK (bc aa k) (atE l)=bo/\[D.v (.int .i64 ((pget l k).getD zIf).side),D.v (.int .i64 ((pget l k).getD zIf).price),D.v (.int .i64 ((pget l k).getD zIf).slot)]=[D.v (.int .i64 0),D.v (.int .i64 0),D.v (.int .i64 0)]/\(pget l k).isSome=az:=by
 rw[zBd];cases pget l k with
 |none=>exact .inr ⟨rfl,rfl,rfl⟩
 |some v=>exact .inl ⟨rfl,rfl⟩
def zWh (k:Int) (v:Place):∀l,uJ (bc aa k) (z4z v) (atE l)=atE (rR k v l)
 |[]=>rfl
 |(a,b)::l=>by
  have ih:=zWh k v l;show(bif (keq .i64 .i64 && decide (k=a))then _ else _::uJ _ _ (atE l))=_;rw[ih,rR];by_cases h:k=a
  ·subst h;simp[keq,atE]
  ·simp[h,atE]
def yVs (i:LdI) (h:lead1C.cnd i):yDt i:=by
 obtain⟨⟨ha,_⟩,h1,h2,_⟩:i.b.small:=h;unfold yDt zCt zDh sN dK dI;have no (e:i.b.untop 1=i.b.a):ao Arena 3 zG (i.b.untop 1)=zP i.b 1:=by rw[e];rfl
 refine Cv.cnd.mk (λc=> ?_) (λc=>⟨(),?_⟩)
 ·have c:i.b.hasF 1=ay:=c;refine⟨j6 _ _,(pget i.b.at_ i.b.top1).isSome,_,_,_,zTf _ _,⟨j6 _ _,(pget i.b.at_ i.b.top1).isSome,_,_,_,zTf _ _,(rF3 trivial),rfl,trivial⟩,rfl,trivial,Cv.cnd.mk (λd=>Cv.cnd.mk (λe=> ?_) (λe=>⟨(),?_⟩)) (λd=>⟨(),?_⟩)⟩
  ·obtain⟨o,ho⟩:=xAu.1 d;have e:o.side=1:=by rw[ho]at e;simpa using e
   have eu:i.b.untop 1=i.b.a.topF o.slot az:=by
    have ht:pget i.b.at_ (i.b.topI 1)=bg o:=ho;rw[Book.untop,y5f c,ht];dsimp only;rw[y5f e]
   refine⟨⟨i.b.a,o.slot,az⟩,by rw[ho];rfl,rfl,rfl,ha,λ_ _=>⟨(),?_⟩⟩;rw[eu];(repeat'(first|exact trivial|exact rfl|apply am))
  ·obtain⟨o,ho⟩:=xAu.1 d;have e:¬o.side=1:=by rw[ho]at e;simpa using e
   have ht:pget i.b.at_ (i.b.topI 1)=bg o:=ho;rw[no (by rw[Book.untop,y5f c,ht];dsimp only;rw[y5d e])];(repeat'(first|exact trivial|exact rfl|apply am))
  ·have ht:pget i.b.at_ (i.b.topI 1)=bo:=by
    show pget i.b.at_ i.b.top1=bo;simpa using d
   rw[no (by rw[Book.untop,y5f c,ht])];(repeat'(first|exact trivial|exact rfl|apply am))
 ·have c:¬i.b.hasF 1=ay:=by rw[show i.b.hasF 1=i.b.has1 from rfl,c];decide
  rw[no (by rw[Book.untop,y5d c])];(repeat'(first|exact trivial|exact rfl|apply am))
def yGy:lead1C.ok Tryz.prog 266:=okw mixed (gokc z5p gok0) 0 (λ_=>[]) (λ_=>[]) [] Tryz.func266 yVs
def zYr {s price:Int} {l:List xN} (h:kQ s l price=ay):∃r,l[zY s l price]? =bg r:=by
 rw[kQ]at h;split at h
 ·rename_i r hr;exact⟨r,hr⟩
 ·cases h
def yNw (i:BkP) (h:queue1C.cnd i):z7w i:=by
 obtain⟨⟨ha,_⟩,ha',h1,h2,h3⟩:i.b.fit:=h;have hle:=zFn 1 i.price i.b.buys;unfold z7w zN fA g9 mU mV vU fG uC qB xW dI;refine⟨i,rF7 (rF3 ⟨rfl,⟨⟨ha,oM⟩,oM,oM,oM⟩,λ_ _=> ?_⟩)⟩;simp only[y5e,y3,rM];refine Cv.cnd.mk (λc=> ?_) (λc=> ?_)
 ·obtain⟨r,hr⟩:=zYr c;have hlt:=(y5h.1 hr).1;have e:i.b.queueF 1 i.price=(i.b,r.queue):=by rw[Book.queueF,y5f (by rw[rM];exact c),rM,zT hr]
  rw[e];refine⟨⟨oM,oM⟩,r.queue,elA (by simpa using hr) (by simp[zB]) rfl,(),?_⟩
  (repeat'(first|exact trivial|exact rfl|apply am))
 ·have e:i.b.queueF 1 i.price=({i.b with a:=i.b.newQ.2.2,buys:=i.b.ins 1 i.price,spare:=i.b.newQ.2.1},i.b.newQ.1):=by
   rw[Book.queueF,y5d (by rw[rM,c];decide),y5f rfl]
  have hins:ac zB (i.b.ins 1 i.price)=ae (zY 1 i.b.buys i.price) (ac zB i.b.buys)++zB ⟨i.price,i.b.newQ.1⟩::ak (zY 1 i.b.buys i.price) (ac zB i.b.buys):=by
   rw[Book.ins,rM,y5n,y5s,y9p,xAo]
  rw[e];refine zI (λd=> ?_) (λd=> ?_)
  ·have w:aa.wrap ((i.b.spare.length:Int)-1)=((i.b.spare.length-1:Nat):Int):=by rw[w64 (by omega)];omega
   rw[w];simp only[y5w];obtain⟨q,hq⟩:=yE (l:=i.b.spare) (i:=i.b.spare.length-1) oM;have eq:i.b.newQ=(q,i.b.spare.take (i.b.spare.length-1),i.b.a):=by rw[Book.newQ,y5d (by omega),zT hq]
   rw[eq]at hins ⊢;refine⟨⟨oM,oM⟩,q,elI hq,⟨oM,oM⟩,trivial,⟨i.b.buys.map zB,zB ⟨i.price,q⟩,zY 1 i.b.buys i.price⟩,rfl,rfl,rfl,⟨by rw[y5e];exact hle,by rw[y5e];omega⟩,λ_ _=>⟨(),?_⟩⟩;have hs:iE (i.b.spare.take (i.b.spare.length-1))=(iE i.b.spare).take (i.b.spare.length-1):=by simp only[iE,y9p]
   exact kp
  ·have eq:i.b.newQ=((i.b.a.queues.length:Int),i.b.spare,i.b.a.openQ):=by rw[Book.newQ,y5f (by omega)]
   rw[eq]at hins ⊢;refine⟨i.b.a,rfl,oM,λ_ _=>⟨trivial,⟨i.b.buys.map zB,zB ⟨i.price,i.b.a.queues.length⟩,zY 1 i.b.buys i.price⟩,rfl,rfl,rfl,⟨by rw[y5e];exact hle,by rw[y5e];omega⟩,λ_ _=>⟨(),?_⟩⟩⟩
   exact kp
def zGr:vQ Tryz.prog 296=bg (304,2,16,#[.int .i64 0,.int .i64 0]):=by kernel_rfl
def z7z:insRC.ok Tryz.prog 295:=
 insX_ok (tS:=296) (tI:=3) (fO:=308) (fR:=309) (z:= #[.int .i64 0,.int .i64 0]) mixed Tryz.func295 rfl (by kernel_rfl) (by kernel_rfl) (by kernel_rfl) (by kernel_rfl) zGr rfl Z8 Z8 (by kernel_rfl) Tryz.underlying3
  (yNh (tS:=296) (tB:=4) Tryz.func308 (by kernel_rfl) (by kernel_rfl) (by kernel_rfl) (by kernel_rfl) zGr) (λs sn sk i v vn vk w R=>by kernel_rfl)
def yAm:queue1C.ok Tryz.prog 268:=okw mixed (gokc zMm (gokc z0h (gokc z7z gok0))) 0 (λ_=>[]) (λ_=>[]) [] Tryz.func268 yNw
def ySh (i:BkP) (h:find2C.cnd i):yKo i:=by
 obtain⟨_,h1,h2,_⟩:i.b.small:=h;unfold yKo zGv r9 uB zDk xX dH sI dI;simp only[y5e,rS];refine⟨0,rfl,λj=>j<=i.b.sells.length/\∀k<j,∀r,i.b.sells[k]? =bg r->btr 2 r.price i.price=ay,λj=>i.b.sells.length-j,⟨oM,λk hk=>by omega⟩,?_⟩;rintro j ⟨h3,h4⟩;refine zI (λhj=> ?_) (λhj=> ?_)
 ·obtain⟨r,hr⟩:=yE (l:=i.b.sells) (i:=j) oM;refine⟨⟨oM,oM⟩,r.price,elA hr (by simp[zB]) rfl,⟨2,r.price,i.price⟩,rfl,rfl,rfl,trivial,λ_ _=> ?_⟩;dsimp only;refine Cv.cnd.mk (λe=>⟨j+1,by rw[w64 (by omega)];rfl,⟨oM,λk hk x hx=> ?_⟩,by(first|omega|(dsimp only;omega)),k0q⟩) (λe=>zI (λ_=> ?_) (λc=>absurd hj c))
  ·rcases y7m k j with hk'|hk'
   ·exact h4 k hk' x hx
   ·obtain rfl:k=j:=by omega
    rw[hr]at hx;cases hx;exact e
  ·have en:zY 2 i.b.sells i.price=j:=pJ h3 h4 λx hx=>by rw[hr]at hx;cases hx;exact e
   have eb:kQ 2 i.b.sells i.price=(r.price==i.price):=by rw[kQ,en,hr];exact(zXe _ _).symm
   refine⟨⟨oM,oM⟩,r.price,elA hr (by simp[zB]) rfl,(),by rw[en],eb,?_⟩
   (repeat'(first|exact trivial|exact rfl|apply am))
 ·have en:zY 2 i.b.sells i.price=j:=pJ h3 h4 λx hx=>by have:=(y5h.1 hx).1;omega
  have eb:kQ 2 i.b.sells i.price=az:=by rw[kQ,en,y6j (by omega)]
  refine zI (λc=>absurd c hj) (λ_=>⟨(),by rw[en],eb,?_⟩)
  (repeat'(first|exact trivial|exact rfl|apply am))
def zOi:find2C.ok Tryz.prog 270:=okw mixed (gokc aT gok0) 0 (λ_=>[]) (λ_=>yRc) [] Tryz.func270 ySh
def ySj (i:LdI) (h:lead2C.cnd i):yCu i:=by
 obtain⟨⟨ha,_⟩,h1,h2,_⟩:i.b.small:=h;unfold yCu zDx zDu sJ dK dI;have no (e:i.b.untop 2=i.b.a):ao Arena 3 zG (i.b.untop 2)=zP i.b 1:=by rw[e];rfl
 refine Cv.cnd.mk (λc=> ?_) (λc=>⟨(),?_⟩)
 ·have c:i.b.hasF 2=ay:=c;refine⟨j6 _ _,(pget i.b.at_ i.b.top2).isSome,_,_,_,zTf _ _,⟨j6 _ _,(pget i.b.at_ i.b.top2).isSome,_,_,_,zTf _ _,(rF3 trivial),rfl,trivial⟩,rfl,trivial,Cv.cnd.mk (λd=>Cv.cnd.mk (λe=> ?_) (λe=>⟨(),?_⟩)) (λd=>⟨(),?_⟩)⟩
  ·obtain⟨o,ho⟩:=xAu.1 d;have e:o.side=2:=by rw[ho]at e;simpa using e
   have eu:i.b.untop 2=i.b.a.topF o.slot az:=by
    have ht:pget i.b.at_ (i.b.topI 2)=bg o:=ho;rw[Book.untop,y5f c,ht];dsimp only;rw[y5f e]
   refine⟨⟨i.b.a,o.slot,az⟩,by rw[ho];rfl,rfl,rfl,ha,λ_ _=>⟨(),?_⟩⟩;rw[eu];(repeat'(first|exact trivial|exact rfl|apply am))
  ·obtain⟨o,ho⟩:=xAu.1 d;have e:¬o.side=2:=by rw[ho]at e;simpa using e
   have ht:pget i.b.at_ (i.b.topI 2)=bg o:=ho;rw[no (by rw[Book.untop,y5f c,ht];dsimp only;rw[y5d e])];(repeat'(first|exact trivial|exact rfl|apply am))
  ·have ht:pget i.b.at_ (i.b.topI 2)=bo:=by
    show pget i.b.at_ i.b.top2=bo;simpa using d
   rw[no (by rw[Book.untop,y5f c,ht])];(repeat'(first|exact trivial|exact rfl|apply am))
 ·have c:¬i.b.hasF 2=ay:=by rw[show i.b.hasF 2=i.b.has2 from rfl,c];decide
  rw[no (by rw[Book.untop,y5d c])];(repeat'(first|exact trivial|exact rfl|apply am))
def yJl:lead2C.ok Tryz.prog 266:=okw mixed (gokc z5p gok0) 0 (λ_=>[]) (λ_=>[]) [] Tryz.func266 ySj
def yOj (i:BkP) (h:queue2C.cnd i):z5g i:=by
 obtain⟨⟨ha,_⟩,ha',h1,h2,h3⟩:i.b.fit:=h;have hle:=zFn 2 i.price i.b.sells;unfold z5g zM g7 uB fA g9 mU mV vU qB xX dI;refine⟨i,rF7 (rF3 ⟨rfl,⟨⟨ha,oM⟩,oM,oM,oM⟩,λ_ _=> ?_⟩)⟩;simp only[y5e,y3,rS];refine Cv.cnd.mk (λc=> ?_) (λc=> ?_)
 ·obtain⟨r,hr⟩:=zYr c;have hlt:=(y5h.1 hr).1;have e:i.b.queueF 2 i.price=(i.b,r.queue):=by rw[Book.queueF,y5f (by rw[rS];exact c),rS,zT hr]
  rw[e];refine⟨⟨oM,oM⟩,r.queue,elA (by simpa using hr) (by simp[zB]) rfl,(),?_⟩
  (repeat'(first|exact trivial|exact rfl|apply am))
 ·have e:i.b.queueF 2 i.price=({i.b with a:=i.b.newQ.2.2,sells:=i.b.ins 2 i.price,spare:=i.b.newQ.2.1},i.b.newQ.1):=by
   rw[Book.queueF,y5d (by rw[rS,c];decide),y5d (by decide)]
  have hins:ac zB (i.b.ins 2 i.price)=ae (zY 2 i.b.sells i.price) (ac zB i.b.sells)++zB ⟨i.price,i.b.newQ.1⟩::ak (zY 2 i.b.sells i.price) (ac zB i.b.sells):=by
   rw[Book.ins,rS,y5n,y5s,y9p,xAo]
  rw[e];refine zI (λd=> ?_) (λd=> ?_)
  ·have w:aa.wrap ((i.b.spare.length:Int)-1)=((i.b.spare.length-1:Nat):Int):=by rw[w64 (by omega)];omega
   rw[w];simp only[y5w];obtain⟨q,hq⟩:=yE (l:=i.b.spare) (i:=i.b.spare.length-1) oM;have eq:i.b.newQ=(q,i.b.spare.take (i.b.spare.length-1),i.b.a):=by rw[Book.newQ,y5d (by omega),zT hq]
   rw[eq]at hins ⊢;refine⟨⟨oM,oM⟩,q,elI hq,⟨oM,oM⟩,trivial,⟨i.b.sells.map zB,zB ⟨i.price,q⟩,zY 2 i.b.sells i.price⟩,rfl,rfl,rfl,⟨by rw[y5e];exact hle,by rw[y5e];omega⟩,λ_ _=>⟨(),?_⟩⟩;have hs:iE (i.b.spare.take (i.b.spare.length-1))=(iE i.b.spare).take (i.b.spare.length-1):=by simp only[iE,y9p]
   exact kp
  ·have eq:i.b.newQ=((i.b.a.queues.length:Int),i.b.spare,i.b.a.openQ):=by rw[Book.newQ,y5f (by omega)]
   rw[eq]at hins ⊢;refine⟨i.b.a,rfl,oM,λ_ _=>⟨trivial,⟨i.b.sells.map zB,zB ⟨i.price,i.b.a.queues.length⟩,zY 2 i.b.sells i.price⟩,rfl,rfl,rfl,⟨by rw[y5e];exact hle,by rw[y5e];omega⟩,λ_ _=>⟨(),?_⟩⟩⟩
   exact kp
def yCp:queue2C.ok Tryz.prog 268:=okw mixed (gokc zOi (gokc z0h (gokc z7z gok0))) 0 (λ_=>[]) (λ_=>[]) [] Tryz.func268 yOj
structure BaI where
 b:Book
 id:Int
 price:Int
 qty:Int
def Book.leads (b:Book) (s price:Int):Bool:=match b.rungs s with
 |[]=>ay
 |r::_=>btr s price r.price
def Book.led (b:Book) (id s price:Int):Book:=if b.leads s price=ay then b.leadF id s else b
def Book.stand (b:Book) (s id price qty:Int):Book:=
 let b2:=(b.led id s price).queueF s price
 let x:=b2.1.a.push b2.2 id qty (b.leads s price)
 {b2.1 with a:=x.1,at_:=rR id ⟨s,price,x.2.1⟩ b2.1.at_}
def Book.addF (b:Book) (s id price qty:Int):Book×Int:=
 if qty<1\/1000000<qty then(b,24)else if(pget b.at_ id).isSome=ay then(b,25)else if 250<=b.at_.length then(b,13)else(b.stand s id price qty,0)
def yGs (s:Int):Con:=con1 BaI (λi=>[.nm 0 0,zA i.id,zA s,zA i.price,zA i.qty]) (λi=>[z8 i.b]) (λi=>i.b.fit) (λi=>zA (i.b.addF s i.id i.price i.qty).2) (λi=>[z8 (i.b.addF s i.id i.price i.qty).1])
def yQc:List (Nat×SAnn):=[(44,bj 14)]
def badd1C:Con:=yGs 1
def badd2C:Con:=yGs 2
structure BaJ where
 i:BaI
 s:Bool
def baddC:Con:=con1 BaJ (λj=>[.nm 0 0,zA j.i.id,zA (zC j.s),zA j.i.price,zA j.i.qty]) (λj=>[z8 j.i.b]) (λj=>j.i.b.fit) (λj=>zA (j.i.b.addF (zC j.s) j.i.id j.i.price j.i.qty).2) (λj=>[z8 (j.i.b.addF (zC j.s) j.i.id j.i.price j.i.qty).1])
structure SaI where
 s:MSt
 inst:Int
 id:Int
 sd:Bool
 price:Int
 qty:Int
def MSt.bookAt (s:MSt) (n:Int):Book:=s.books.getD n.toNat book0
def MSt.addF (i:SaI):MSt×Int:=
 if i.inst<0\/i.s.books.length<=i.inst then(i.s,20)else if(zDr i.s.wh i.id).isSome=ay then(i.s,25)else if 250<=i.s.wh.length then(i.s,13)else if i.s.p.price i.inst i.price≠0 then(i.s,i.s.p.price i.inst i.price)
 else
  let x:=(i.s.bookAt i.inst).addF (zC i.sd) i.id i.price i.qty
  ({i.s with books:=i.s.books.set i.inst.toNat x.1,wh:=if x.2=0 then z1f i.id i.inst i.s.wh else i.s.wh},x.2)
@[reducible] def MSt.fit (s:MSt):Prop:=s.p.small/\s.books.length<=1000000/\∀b∈s.books,b.fit
def saddC:Con:=con1 SaI (λi=>[.nm 0 0,zA i.inst,zA i.id,zA (zC i.sd),zA i.price,zA i.qty]) (λi=>[zD i.s]) (λi=>i.s.fit) (λi=>zA (MSt.addF i).2) (λi=>[zD (MSt.addF i).1])
def tG (a:BkP):Prop:=(a.b.a.slots.length<=1000000/\(a.b.a.free≠0->∃(b:Slot),b∈a.b.a.slots/\b.used=az)/\∀(b:cT),b∈a.b.a.queues->b.last=(-1)\/0<=b.last/\b.last<(↑a.b.a.slots.length:Int))/\a.b.a.queues.length<=100000/\a.b.buys.length<=100000/\a.b.sells.length<=100000/\a.b.spare.length<=100000
def rI (a:PuI):Prop:=a.a.slots.length<=1000000/\(a.a.free≠0->∃(b:Slot),b∈a.a.slots/\b.used=az)/\∀(b:cT),b∈a.a.queues->b.last=(-1)\/0<=b.last/\b.last<(↑a.a.slots.length:Int)
def yL (a:BaI):=(a.b.addF 1 a.id a.price a.qty)
def zIg (a:BkP) (b:BaI) (c:Bool):Prop:=(tG a)/\∀(d:Unit),True->True/\∃(e:PuI),e.n=(zN a).snd/\e.id=b.id/\e.qty=b.qty/\e.top=c/\ao Arena 3 zG e.a=ao Arena 3 zG (zN a).fst.a/\(rI e)/\∀(f:Unit),True->(∀(g:Value×List D),g∈atE (zN a).fst.at_->like (bc aa b.id) g.fst=ay)/\∃(g:Unit),(yL b).snd=0/\(yL b).fst.top1=(zN a).fst.top1/\(yL b).fst.top2=(zN a).fst.top2/\(yL b).fst.has1=(zN a).fst.has1/\(yL b).fst.has2=(zN a).fst.has2/\ao Arena 3 zG (yL b).fst.a=ao Arena 3 zG (yI e).fst/\ac zB (yL b).fst.buys=ac zB (zN a).fst.buys/\ac zB (yL b).fst.sells=ac zB (zN a).fst.sells/\atE (yL b).fst.at_=uJ (bc aa b.id) [dI 1,dI b.price,dI ((yI e).snd.fst)] (atE (zN a).fst.at_)/\iE (yL b).fst.spare=iE (zN a).fst.spare/\True
def zBi (a:Bool->Prop) (b:Bool) (c:Int) (d:Int) (e:Int) (f:BaI):Prop:=a b/\dh (ap [V.d (dI c),V.d (dI d),V.d (dI e)] 313)/\dh (ap [V.nm 1 0,V.own 2,V.own 3,V.mp 4,V.d (dI f.b.top1),V.d (dI f.b.top2),V.own 5,V.d (D.v (.bool f.b.has1)),V.d (D.v (.bool f.b.has2))] (299:TypeId))/\dh (ao Arena 3 zG f.b.a)/\dh (au 304 2 (ac zB f.b.buys))/\dh (au 304 2 (ac zB f.b.sells))/\dh (aw (atE f.b.at_))/\dh (au 3 1 (iE f.b.spare))
def zBj (a:I3') (b:BaI) (c:Int) (d:Bool->Prop) (e:Int) (f:Int) (g:Int):Prop:=a.x=b.price/\a.y=c/\True/\∀(h:Unit),True->∃(j:Bool),j=btr a.side a.x a.y/\zBi d j e f g b
def zAu (a:Bool->Prop) (b:Int) (c:Int) (d:Int) (e:BaI):Prop:=∃(f:Bool),f=ay/\zBi a f b c d e
def pY (a:BaI):Prop:=(yL a).fst.top1=a.b.top1/\(yL a).fst.top2=a.b.top2/\(yL a).fst.has1=a.b.has1/\(yL a).fst.has2=a.b.has2/\ao Arena 3 zG (yL a).fst.a=ao Arena 3 zG a.b.a/\ac zB (yL a).fst.buys=ac zB a.b.buys/\ac zB (yL a).fst.sells=ac zB a.b.sells/\atE (yL a).fst.at_=atE a.b.at_/\iE (yL a).fst.spare=iE a.b.spare/\True
def zIu (a:BaI):Prop:=∃(b:Unit),(yL a).snd=24/\pY a
def rG (a:BaI) (b:Int) (c:Int) (d:Int) (e:Bool):Prop:=kK (bc aa a.id) (atE a.b.at_)=bg [dI b,dI c,dI d]/\e=ay\/kK (bc aa a.id) (atE a.b.at_)=bo/\[dI b,dI c,dI d]=[dI 0,dI 0,dI 0]/\e=az
def sK (a:LdI):Prop:=(a.b.a.slots.length<=1000000/\a.b.a.queues.length<=1000000)/\a.b.buys.length<=1000000/\a.b.sells.length<=1000000/\a.b.spare.length<=1000000
def qY (a:Int):=(!(decide (a=1)||decide (a=2)))
def yFh (i:BaI):Prop:=
 (∀(a:Value×List D),a∈atE i.b.at_->like (bc aa i.id) a.fst=ay)/\∃(a:Bool),∃(b:Int),∃(c:Int),∃(d:Int),(rG i b c d a)/\∃(e:Int),e=1/\True/\∀(f:Unit),True->cnd (qY e) (∃(g:Unit),(yL i).snd=21/\pY i) (cnd (decide (i.qty<1)) (zIu i) (cnd (decide (i.qty>1000000)) (zIu i) (cnd a (∃(g:Unit),(yL i).snd=25/\pY i) (cnd (decide ((↑(atE i.b.at_).length:Int)>=250)) (∃(g:Unit),(yL i).snd=13/\pY i) (∃(g:Bool),∃(h:Bool->Prop),cnd ((↑(ac zB i.b.buys).length:Int)==0) (zAu h b c d i) (((0:Int)<=(0:Int)/\0<(↑(ac zB i.b.buys).length:Int))/\∃(j:Int),zE (ac zB i.b.buys) (Int.toNat 0) 0 1=bg [dI j]/\∃(k:I3'),k.side=1/\zBj k i j h b c d)/\∀(j:Bool),h j->cnd j (∃(k:LdI),k.id=i.id/\dh ((1:Int))/\k.b.top1=i.b.top1/\k.b.top2=i.b.top2/\k.b.has1=i.b.has1/\k.b.has2=i.b.has2/\ao Arena 3 zG k.b.a=ao Arena 3 zG i.b.a/\ac zB k.b.buys=ac zB i.b.buys/\ac zB k.b.sells=ac zB i.b.sells/\atE k.b.at_=atE i.b.at_/\iE k.b.spare=iE i.b.spare/\(sK k)/\∀(l:Unit),True->∃(m:BkP),dh ((1:Int))/\m.price=i.price/\m.b.top1=k.id/\m.b.top2=k.b.top2/\m.b.has1=ay/\m.b.has2=k.b.has2/\ao Arena 3 zG m.b.a=ao Arena 3 zG (k.b.untop 1)/\ac zB m.b.buys=ac zB k.b.buys/\ac zB m.b.sells=ac zB k.b.sells/\atE m.b.at_=atE k.b.at_/\iE m.b.spare=iE k.b.spare/\zIg m i j) (∃(k:BkP),dh ((1:Int))/\k.price=i.price/\k.b.top1=i.b.top1/\k.b.top2=i.b.top2/\k.b.has1=i.b.has1/\k.b.has2=i.b.has2/\ao Arena 3 zG k.b.a=ao Arena 3 zG i.b.a/\ac zB k.b.buys=ac zB i.b.buys/\ac zB k.b.sells=ac zB i.b.sells/\atE k.b.at_=atE i.b.at_/\iE k.b.spare=iE i.b.spare/\zIg k i j))))))
def yM (a:BaI):=(a.b.addF 2 a.id a.price a.qty)
def zHv (a:BkP) (b:BaI) (c:Bool):Prop:=(tG a)/\∀(d:Unit),True->True/\∃(e:PuI),e.n=(zM a).snd/\e.id=b.id/\e.qty=b.qty/\e.top=c/\ao Arena 3 zG e.a=ao Arena 3 zG (zM a).fst.a/\(rI e)/\∀(f:Unit),True->(∀(g:Value×List D),g∈atE (zM a).fst.at_->like (bc aa b.id) g.fst=ay)/\∃(g:Unit),(yM b).snd=0/\(yM b).fst.top1=(zM a).fst.top1/\(yM b).fst.top2=(zM a).fst.top2/\(yM b).fst.has1=(zM a).fst.has1/\(yM b).fst.has2=(zM a).fst.has2/\ao Arena 3 zG (yM b).fst.a=ao Arena 3 zG (yI e).fst/\ac zB (yM b).fst.buys=ac zB (zM a).fst.buys/\ac zB (yM b).fst.sells=ac zB (zM a).fst.sells/\atE (yM b).fst.at_=uJ (bc aa b.id) [dI 2,dI b.price,dI ((yI e).snd.fst)] (atE (zM a).fst.at_)/\iE (yM b).fst.spare=iE (zM a).fst.spare/\True
def nP (a:BaI):Prop:=(yM a).fst.top1=a.b.top1/\(yM a).fst.top2=a.b.top2/\(yM a).fst.has1=a.b.has1/\(yM a).fst.has2=a.b.has2/\ao Arena 3 zG (yM a).fst.a=ao Arena 3 zG a.b.a/\ac zB (yM a).fst.buys=ac zB a.b.buys/\ac zB (yM a).fst.sells=ac zB a.b.sells/\atE (yM a).fst.at_=atE a.b.at_/\iE (yM a).fst.spare=iE a.b.spare/\True
def zIe (a:BaI):Prop:=∃(b:Unit),(yM a).snd=24/\nP a
def yIo (i:BaI):Prop:=
 (∀(a:Value×List D),a∈atE i.b.at_->like (bc aa i.id) a.fst=ay)/\∃(a:Bool),∃(b:Int),∃(c:Int),∃(d:Int),(rG i b c d a)/\∃(e:Int),e=2/\True/\∀(f:Unit),True->cnd (qY e) (∃(g:Unit),(yM i).snd=21/\nP i) (cnd (decide (i.qty<1)) (zIe i) (cnd (decide (i.qty>1000000)) (zIe i) (cnd a (∃(g:Unit),(yM i).snd=25/\nP i) (cnd (decide ((↑(atE i.b.at_).length:Int)>=250)) (∃(g:Unit),(yM i).snd=13/\nP i) (∃(g:Bool),∃(h:Bool->Prop),cnd ((↑(ac zB i.b.sells).length:Int)==0) (zAu h b c d i) (((0:Int)<=(0:Int)/\0<(↑(ac zB i.b.sells).length:Int))/\∃(j:Int),zE (ac zB i.b.sells) (Int.toNat 0) 0 1=bg [dI j]/\∃(k:I3'),k.side=2/\zBj k i j h b c d)/\∀(j:Bool),h j->cnd j (∃(k:LdI),k.id=i.id/\dh ((2:Int))/\k.b.top1=i.b.top1/\k.b.top2=i.b.top2/\k.b.has1=i.b.has1/\k.b.has2=i.b.has2/\ao Arena 3 zG k.b.a=ao Arena 3 zG i.b.a/\ac zB k.b.buys=ac zB i.b.buys/\ac zB k.b.sells=ac zB i.b.sells/\atE k.b.at_=atE i.b.at_/\iE k.b.spare=iE i.b.spare/\(sK k)/\∀(l:Unit),True->∃(m:BkP),dh ((2:Int))/\m.price=i.price/\m.b.top1=k.b.top1/\m.b.top2=k.id/\m.b.has1=k.b.has1/\m.b.has2=ay/\ao Arena 3 zG m.b.a=ao Arena 3 zG (k.b.untop 2)/\ac zB m.b.buys=ac zB k.b.buys/\ac zB m.b.sells=ac zB k.b.sells/\atE m.b.at_=atE k.b.at_/\iE m.b.spare=iE k.b.spare/\zHv m i j) (∃(k:BkP),dh ((2:Int))/\k.price=i.price/\k.b.top1=i.b.top1/\k.b.top2=i.b.top2/\k.b.has1=i.b.has1/\k.b.has2=i.b.has2/\ao Arena 3 zG k.b.a=ao Arena 3 zG i.b.a/\ac zB k.b.buys=ac zB i.b.buys/\ac zB k.b.sells=ac zB i.b.sells/\atE k.b.at_=atE i.b.at_/\iE k.b.spare=iE i.b.spare/\zHv k i j))))))
def zHy (a:SaI):Prop:=aq 1 (iE (MSt.addF a).fst.p.months)=aq 1 (iE a.s.p.months)/\aq 1 (iE (MSt.addF a).fst.p.settle)=aq 1 (iE a.s.p.settle)/\True
def zGp (a:SaI):Prop:=yP (MSt.addF a).fst.wh=yP a.s.wh/\zHy a
def eN (a:SaI):Prop:=sb (MSt.addF a).fst.p.code=sb a.s.p.code/\(MSt.addF a).fst.p.tick=a.s.p.tick/\(MSt.addF a).fst.p.low=a.s.p.low/\(MSt.addF a).fst.p.high=a.s.p.high/\(MSt.addF a).fst.p.wide=a.s.p.wide/\(MSt.addF a).fst.p.rule=a.s.p.rule/\(MSt.addF a).fst.p.top=a.s.p.top/\(MSt.addF a).fst.p.least=a.s.p.least/\(MSt.addF a).fst.p.part=a.s.p.part/\ar 241 Book 6 zP (MSt.addF a).fst.books bo=ar 241 Book 6 zP a.s.books bo/\zGp a
def zPs (a:SaI):Prop:=∃(b:Unit),(MSt.addF a).snd=20/\eN a
def pB (a:BaJ):=(a.i.b.addF (zC a.s) a.i.id a.i.price a.i.qty)
def yRn (i:SaI):Prop:=
 (∀(a:Value×List D),a∈yP i.s.wh->like (bc aa i.id) a.fst=ay)/\∃(a:Bool),∃(b:Int),(kK (bc aa i.id) (yP i.s.wh)=bg [dI b]/\a=ay\/kK (bc aa i.id) (yP i.s.wh)=bo/\[dI b]=[dI 0]/\a=az)/\cnd (decide (i.inst>=0)) (cnd (!decide (i.inst<(↑i.s.books.length:Int))) (zPs i) (cnd a (∃(c:Unit),(MSt.addF i).snd=25/\eN i) (cnd (decide ((↑(yP i.s.wh).length:Int)>=250)) (∃(c:Unit),(MSt.addF i).snd=13/\eN i) (∃(c:tQ),sb c.p.code=sb i.s.p.code/\iE c.p.months=iE i.s.p.months/\c.p.tick=i.s.p.tick/\c.p.low=i.s.p.low/\c.p.high=i.s.p.high/\c.p.wide=i.s.p.wide/\c.p.rule=i.s.p.rule/\c.p.top=i.s.p.top/\c.p.least=i.s.p.least/\c.p.part=i.s.p.part/\iE c.p.settle=iE i.s.p.settle/\c.a=i.inst/\c.b=i.price/\(x9 c)/\∀(d:Unit),True->cnd (c.p.price c.a c.b !=0) (∃(e:Unit),(MSt.addF i).snd=c.p.price c.a c.b/\eN i) ((0<=i.inst/\i.inst<(↑i.s.books.length:Int))/\i.inst.toNat<i.s.books.length/\∃(e:Book),i.s.books[i.inst.toNat]?=bg e/\∃(f:BaJ),f.i.id=i.id/\zC f.s=zC i.sd/\f.i.price=i.price/\f.i.qty=i.qty/\z8 f.i.b=z8 e/\((f.i.b.a.slots.length<=1000000/\(f.i.b.a.free≠0->∃(g:Slot),g∈f.i.b.a.slots/\g.used=az)/\∀(g:cT),g∈f.i.b.a.queues->g.last=(-1)\/0<=g.last/\g.last<(↑f.i.b.a.slots.length:Int))/\f.i.b.a.queues.length<=100000/\f.i.b.buys.length<=100000/\f.i.b.sells.length<=100000/\f.i.b.spare.length<=100000)/\∀(g:Unit),True->∃(h:Book),z8 (pB f).fst=z8 h/\dh i.inst.toNat/\i.inst.toNat<i.s.books.length/\cnd ((pB f).snd==0) ((∀(j:Value×List D),j∈yP i.s.wh->like (bc aa i.id) j.fst=ay)/\∃(j:Unit),(MSt.addF i).snd=(pB f).snd/\sb (MSt.addF i).fst.p.code=sb i.s.p.code/\(MSt.addF i).fst.p.tick=i.s.p.tick/\(MSt.addF i).fst.p.low=i.s.p.low/\(MSt.addF i).fst.p.high=i.s.p.high/\(MSt.addF i).fst.p.wide=i.s.p.wide/\(MSt.addF i).fst.p.rule=i.s.p.rule/\(MSt.addF i).fst.p.top=i.s.p.top/\(MSt.addF i).fst.p.least=i.s.p.least/\(MSt.addF i).fst.p.part=i.s.p.part/\ar 241 Book 6 zP (MSt.addF i).fst.books bo=ar 241 Book 6 zP (i.s.books.set i.inst.toNat h) bo/\yP (MSt.addF i).fst.wh=uJ (bc aa i.id) [dI i.inst] (yP i.s.wh)/\zHy i) (∃(j:Unit),(MSt.addF i).snd=(pB f).snd/\sb (MSt.addF i).fst.p.code=sb i.s.p.code/\(MSt.addF i).fst.p.tick=i.s.p.tick/\(MSt.addF i).fst.p.low=i.s.p.low/\(MSt.addF i).fst.p.high=i.s.p.high/\(MSt.addF i).fst.p.wide=i.s.p.wide/\(MSt.addF i).fst.p.rule=i.s.p.rule/\(MSt.addF i).fst.p.top=i.s.p.top/\(MSt.addF i).fst.p.least=i.s.p.least/\(MSt.addF i).fst.p.part=i.s.p.part/\ar 241 Book 6 zP (MSt.addF i).fst.books bo=ar 241 Book 6 zP (i.s.books.set i.inst.toNat h) bo/\zGp i)))))) (zPs i)
def zMk {α:Type} {f:α->α} {Q:α->Prop} (hf:∀x,Q x->Q (f x)):∀{l:List α} (i:Nat),(∃x∈l,Q x)->∃x∈l.modify i f,Q x
 |[],i,⟨x,hx,_⟩=>by cases hx
 |a::l,0,⟨x,hx,q⟩=>by
  rcases y5y.1 hx with rfl|hx
  ·exact⟨f x,y5j,hf x q⟩
  ·exact⟨x,y5l _ hx,q⟩
 |a::l,i+1,⟨x,hx,q⟩=>by
  rw[xAn];rcases y5y.1 hx with rfl|hx
  ·exact⟨x,y5j,q⟩
  ·obtain⟨y,hy,hq⟩:=zMk hf (l:=l) i ⟨x,hx,q⟩;exact⟨y,y5l _ hy,hq⟩
def yFs {a:Arena} (h:a.fit) (n:Int) (t:Bool):(a.topF n t).fit:=by
 obtain⟨h1,h2,h3⟩:=h;rw[Arena.topF];split
 ·refine⟨by simpa using h1,λhf=> ?_,by simpa using h3⟩;exact zMk (f:=λs:Slot=>{s with top:=t}) (Q:=λs=>s.used=az) (λx hx=>hx) _ (h2 hf)
 ·exact⟨h1,h2,h3⟩
def z9x {b:Book} (h:b.a.fit) (s:Int):(b.untop s).fit:=by
 rw[Book.untop]
 repeat' split
 all_goals first|exact h|exact yFs h _ _
def yBb {a:Arena} (h:a.fit):a.openQ.fit:=by
 obtain⟨h1,h2,h3⟩:=h;refine⟨h1,h2,λq hq=> ?_⟩;rcases y6g.1 hq with hq|hq
 ·exact h3 q hq
 ·rw[y6p.1 hq];exact .inl rfl
def zZn {b:Book} (h:b.a.fit):b.newQ.2.2.fit:=by
 rw[Book.newQ];split
 ·exact yBb h
 ·exact h
def rB {b:Book} (h:b.a.fit) (s p:Int):(b.queueF s p).1.a.fit:=by
 rw[Book.queueF]
 repeat' split
 ·exact h
 ·exact zZn h
 ·exact zZn h
def yCn (b:Book) (s:Int):(b.untop s).slots.length=b.a.slots.length/\(b.untop s).queues=b.a.queues:=by
 have ht:∀n t,(b.a.topF n t).slots.length=b.a.slots.length/\(b.a.topF n t).queues=b.a.queues:=by
  intro n t;rw[Arena.topF];split
  ·exact⟨by simp,rfl⟩
  ·exact⟨rfl,rfl⟩
 rw[Book.untop]
 repeat' split
 all_goals first|exact⟨rfl,rfl⟩|exact ht _ _
def zRk {b:Book} (h:b.fit) (id s:Int):(b.leadF id s).fit:=by
 obtain⟨h1,h2,h3,h4,h5⟩:=h;have hl:=yCn b s;rw[Book.leadF];split
 all_goals exact⟨z9x h1 s,by rw[hl.2];exact h2,h3,h4,h5⟩
def zRw {b:Book} (h:b.fit):b.small:=by
 obtain⟨⟨h1,_⟩,h2,h3,h4,h5⟩:=h;exact⟨⟨h1,oM⟩,oM,oM,oM⟩
def yTe (i:BaI) (h:badd1C.cnd i):yFh i:=by
 have hfit:i.b.fit:=h;have hsm:=zRw hfit;unfold yFh zIu pY zAu zBj zBi qY zIg zN yL rI tG yI sK rG dI;have plc:∀(b:Book) (x:Int),uJ (bc aa i.id) [D.v (.int .i64 1),D.v (.int .i64 i.price),D.v (.int .i64 x)] (atE b.at_)=atE (rR i.id ⟨1,i.price,x⟩ b.at_):=λb x=>zWh i.id ⟨1,i.price,x⟩ b.at_
 refine⟨j6 _ _,(pget i.b.at_ i.id).isSome,_,_,_,zTf _ _,1,rfl,trivial,λ_ _=> ?_⟩;refine Cv.cnd.mk (λc=>absurd c Z8) λ_=> ?_
 refine zI (λc=> ?_) (λc=>zI (λd=> ?_) (λd=> ?_))
 ·have ha:i.b.addF 1 i.id i.price i.qty=(i.b,24):=by rw[Book.addF,y5f (.inl c)]
  rw[ha];exact kp
 ·have ha:i.b.addF 1 i.id i.price i.qty=(i.b,24):=by rw[Book.addF,y5f (.inr d)]
  rw[ha];exact kp
 have hq:¬(i.qty<1\/1000000<i.qty):=by omega
 refine Cv.cnd.mk (λe=> ?_) (λe=> ?_)
 ·have ha:i.b.addF 1 i.id i.price i.qty=(i.b,25):=by rw[Book.addF,y5d hq,y5f e]
  rw[ha];exact kp
 have hlen:(atE i.b.at_).length=i.b.at_.length:=by simp[atE]
 rw[hlen];refine zI (λf=> ?_) (λf=> ?_)
 ·have ha:i.b.addF 1 i.id i.price i.qty=(i.b,13):=by rw[Book.addF,y5d hq,y5d (by rw[e];decide),y5f (by omega)]
  rw[ha];exact kp
 have ha:i.b.addF 1 i.id i.price i.qty=(i.b.stand 1 i.id i.price i.qty,0):=by rw[Book.addF,y5d hq,y5d (by rw[e];decide),y5d (by omega)]
 rw[ha];simp only[y5e];refine⟨ay,λx=>x=i.b.leads 1 i.price,Cv.cnd.mk (λg=>⟨ay,rfl,?_,k0q⟩) (λg=> ?_),λx hx=> ?_⟩
 ·have:i.b.buys=[]:=y6e (by have:(i.b.buys.length:Int)=0:=(by simpa using g);omega);rw[Book.leads,rM,this]
 ·obtain⟨r,l,hl⟩:∃r l,i.b.buys=r::l:=by
   cases hb:i.b.buys with
   |nil=>rw[hb]at g;exact absurd g Z8
   |cons r l=>exact⟨r,l,rfl⟩
  refine⟨⟨oM,by rw[hl,y5i];omega⟩,r.price,elA (x:=r) (by rw[hl];rfl) (by simp[zB]) rfl,⟨1,i.price,r.price⟩,rfl,rfl,rfl,trivial,λ_ _=>⟨_,rfl,?_,k0q⟩⟩;rw[Book.leads,rM,hl]
 subst hx;refine Cv.cnd.mk (λg=> ?_) (λg=> ?_)
 ·have hled:i.b.led i.id 1 i.price=i.b.leadF i.id 1:=by rw[Book.led,y5f g]
  have hf1:=zRk hfit i.id 1;have hst:i.b.stand 1 i.id i.price i.qty={((i.b.leadF i.id 1).queueF 1 i.price).1 with a:=(((i.b.leadF i.id 1).queueF 1 i.price).1.a.push ((i.b.leadF i.id 1).queueF 1 i.price).2 i.id i.qty (i.b.leads 1 i.price)).1,at_:=rR i.id ⟨1,i.price,(((i.b.leadF i.id 1).queueF 1 i.price).1.a.push ((i.b.leadF i.id 1).queueF 1 i.price).2 i.id i.qty (i.b.leads 1 i.price)).2.1⟩ ((i.b.leadF i.id 1).queueF 1 i.price).1.at_}:=by
   simp only[Book.stand,hled]
  refine⟨⟨i.b,i.id⟩,rfl,trivial,rF8 ⟨rfl,hsm,λ_ _=>⟨⟨i.b.leadF i.id 1,i.price⟩,trivial,rF6 (rF3 ⟨rfl,hf1,λ_ _=>⟨trivial,?_⟩⟩)⟩⟩⟩;refine⟨⟨((i.b.leadF i.id 1).queueF 1 i.price).1.a,((i.b.leadF i.id 1).queueF 1 i.price).2,i.id,i.qty,i.b.leads 1 i.price⟩,rF4 ⟨rfl,rB hf1.1 1 i.price,λ_ _=>⟨j6 _ _,(),?_⟩⟩⟩;dsimp only;rw[hst,plc]
  exact kp
 ·have hled:i.b.led i.id 1 i.price=i.b:=by rw[Book.led,y5d (by rw[g];decide)]
  have hst:i.b.stand 1 i.id i.price i.qty={(i.b.queueF 1 i.price).1 with a:=((i.b.queueF 1 i.price).1.a.push (i.b.queueF 1 i.price).2 i.id i.qty (i.b.leads 1 i.price)).1,at_:=rR i.id ⟨1,i.price,((i.b.queueF 1 i.price).1.a.push (i.b.queueF 1 i.price).2 i.id i.qty (i.b.leads 1 i.price)).2.1⟩ (i.b.queueF 1 i.price).1.at_}:=by
   simp only[Book.stand,hled]
  refine⟨⟨i.b,i.price⟩,trivial,rF6 (rF3 ⟨rfl,hfit,λ_ _=>⟨trivial,?_⟩⟩)⟩;refine⟨⟨(i.b.queueF 1 i.price).1.a,(i.b.queueF 1 i.price).2,i.id,i.qty,i.b.leads 1 i.price⟩,rF4 ⟨rfl,rB hfit.1 1 i.price,λ_ _=>⟨j6 _ _,(),?_⟩⟩⟩;dsimp only;rw[hst,plc]
  exact kp
def yHu:badd1C.ok Tryz.prog 240:=okw mixed (gokc lL (gokc aT (gokc yGy (gokc yAm (gokc zWw gok0))))) 0 (λ_=>yQc) (λ_=>[]) [0] Tryz.func240 yTe
def yYc (i:BaI) (h:badd2C.cnd i):yIo i:=by
 have hfit:i.b.fit:=h;have hsm:=zRw hfit;unfold yIo zIe nP zHv zM yM rI tG yI zAu zBj zBi qY sK rG dI;have plc:∀(b:Book) (x:Int),uJ (bc aa i.id) [D.v (.int .i64 2),D.v (.int .i64 i.price),D.v (.int .i64 x)] (atE b.at_)=atE (rR i.id ⟨2,i.price,x⟩ b.at_):=λb x=>zWh i.id ⟨2,i.price,x⟩ b.at_
 refine⟨j6 _ _,(pget i.b.at_ i.id).isSome,_,_,_,zTf _ _,2,rfl,trivial,λ_ _=> ?_⟩;refine Cv.cnd.mk (λc=>absurd c Z8) λ_=> ?_
 refine zI (λc=> ?_) (λc=>zI (λd=> ?_) (λd=> ?_))
 ·have ha:i.b.addF 2 i.id i.price i.qty=(i.b,24):=by rw[Book.addF,y5f (.inl c)]
  rw[ha];exact kp
 ·have ha:i.b.addF 2 i.id i.price i.qty=(i.b,24):=by rw[Book.addF,y5f (.inr d)]
  rw[ha];exact kp
 have hq:¬(i.qty<1\/1000000<i.qty):=by omega
 refine Cv.cnd.mk (λe=> ?_) (λe=> ?_)
 ·have ha:i.b.addF 2 i.id i.price i.qty=(i.b,25):=by rw[Book.addF,y5d hq,y5f e]
  rw[ha];exact kp
 have hlen:(atE i.b.at_).length=i.b.at_.length:=by simp[atE]
 rw[hlen];refine zI (λf=> ?_) (λf=> ?_)
 ·have ha:i.b.addF 2 i.id i.price i.qty=(i.b,13):=by rw[Book.addF,y5d hq,y5d (by rw[e];decide),y5f (by omega)]
  rw[ha];exact kp
 have ha:i.b.addF 2 i.id i.price i.qty=(i.b.stand 2 i.id i.price i.qty,0):=by rw[Book.addF,y5d hq,y5d (by rw[e];decide),y5d (by omega)]
 rw[ha];simp only[y5e];refine⟨ay,λx=>x=i.b.leads 2 i.price,Cv.cnd.mk (λg=>⟨ay,rfl,?_,k0q⟩) (λg=> ?_),λx hx=> ?_⟩
 ·have:i.b.sells=[]:=y6e (by have:(i.b.sells.length:Int)=0:=(by simpa using g);omega);rw[Book.leads,rS,this]
 ·obtain⟨r,l,hl⟩:∃r l,i.b.sells=r::l:=by
   cases hb:i.b.sells with
   |nil=>rw[hb]at g;exact absurd g Z8
   |cons r l=>exact⟨r,l,rfl⟩
  refine⟨⟨oM,by rw[hl,y5i];omega⟩,r.price,elA (x:=r) (by rw[hl];rfl) (by simp[zB]) rfl,⟨2,i.price,r.price⟩,rfl,rfl,rfl,trivial,λ_ _=>⟨_,rfl,?_,k0q⟩⟩;rw[Book.leads,rS,hl]
 subst hx;refine Cv.cnd.mk (λg=> ?_) (λg=> ?_)
 ·have hled:i.b.led i.id 2 i.price=i.b.leadF i.id 2:=by rw[Book.led,y5f g]
  have hf1:=zRk hfit i.id 2;have hst:i.b.stand 2 i.id i.price i.qty={((i.b.leadF i.id 2).queueF 2 i.price).1 with a:=(((i.b.leadF i.id 2).queueF 2 i.price).1.a.push ((i.b.leadF i.id 2).queueF 2 i.price).2 i.id i.qty (i.b.leads 2 i.price)).1,at_:=rR i.id ⟨2,i.price,(((i.b.leadF i.id 2).queueF 2 i.price).1.a.push ((i.b.leadF i.id 2).queueF 2 i.price).2 i.id i.qty (i.b.leads 2 i.price)).2.1⟩ ((i.b.leadF i.id 2).queueF 2 i.price).1.at_}:=by
   simp only[Book.stand,hled]
  refine⟨⟨i.b,i.id⟩,rfl,trivial,rF8 ⟨rfl,hsm,λ_ _=>⟨⟨i.b.leadF i.id 2,i.price⟩,trivial,rF6 (rF3 ⟨rfl,hf1,λ_ _=>⟨trivial,?_⟩⟩)⟩⟩⟩;refine⟨⟨((i.b.leadF i.id 2).queueF 2 i.price).1.a,((i.b.leadF i.id 2).queueF 2 i.price).2,i.id,i.qty,i.b.leads 2 i.price⟩,rF4 ⟨rfl,rB hf1.1 2 i.price,λ_ _=>⟨j6 _ _,(),?_⟩⟩⟩;dsimp only;rw[hst,plc]
  exact kp
 ·have hled:i.b.led i.id 2 i.price=i.b:=by rw[Book.led,y5d (by rw[g];decide)]
  have hst:i.b.stand 2 i.id i.price i.qty={(i.b.queueF 2 i.price).1 with a:=((i.b.queueF 2 i.price).1.a.push (i.b.queueF 2 i.price).2 i.id i.qty (i.b.leads 2 i.price)).1,at_:=rR i.id ⟨2,i.price,((i.b.queueF 2 i.price).1.a.push (i.b.queueF 2 i.price).2 i.id i.qty (i.b.leads 2 i.price)).2.1⟩ (i.b.queueF 2 i.price).1.at_}:=by
   simp only[Book.stand,hled]
  refine⟨⟨i.b,i.price⟩,trivial,rF6 (rF3 ⟨rfl,hfit,λ_ _=>⟨trivial,?_⟩⟩)⟩;refine⟨⟨(i.b.queueF 2 i.price).1.a,(i.b.queueF 2 i.price).2,i.id,i.qty,i.b.leads 2 i.price⟩,rF4 ⟨rfl,rB hfit.1 2 i.price,λ_ _=>⟨j6 _ _,(),?_⟩⟩⟩;dsimp only;rw[hst,plc]
  exact kp
def yIn:badd2C.ok Tryz.prog 240:=okw mixed (gokc lL (gokc aT (gokc yJl (gokc yCp (gokc zWw gok0))))) 0 (λ_=>yQc) (λ_=>[]) [0] Tryz.func240 yYc
def yMe:baddC.ok Tryz.prog 240:=λj=>match j with
 |⟨i,az⟩=>yHu i
 |⟨i,ay⟩=>yIn i
def y0c (i:SaI) (h:saddC.cnd i):yRn i:=by
 obtain⟨hp,hbl,hb⟩:i.s.fit:=h;unfold yRn zPs eN pB zGp zHy x9 dI;simp only[z1g];have hml:(yP i.s.wh).length=i.s.wh.length:=by simp[yP]
 rw[hml];have out (e:i.inst<0\/i.s.books.length<=i.inst):MSt.addF i=(i.s,20):=by rw[MSt.addF,y5f e]
 refine⟨dC _ _,(zDr i.s.wh i.id).isSome,_,yVo _ _,zI (λc=>Cv.cnd.mk (λd=> ?_) (λd=> ?_)) (λc=> ?_)⟩
 ·have d:¬i.inst<(i.s.books.length:Int):=by simpa using d
  rw[out (.inr (by omega))];exact kp
 ·have d:i.inst<(i.s.books.length:Int):=by simpa using d
  have hn:¬(i.inst<0\/(i.s.books.length:Int)<=i.inst):=by omega
  refine Cv.cnd.mk (λe=> ?_) (λe=>zI (λf=> ?_) (λf=> ?_))
  ·rw[MSt.addF,y5d hn,y5f e];exact kp
  ·rw[MSt.addF,y5d hn,y5d (by rw[e];decide),y5f (by omega)];exact kp
  ·refine⟨⟨i.s.p,i.inst,i.price⟩,rF8 (rF4 ⟨rfl,hp,λ_ _=>Cv.cnd.mk (λg=> ?_) (λg=> ?_)⟩)⟩
   ·have g:i.s.p.price i.inst i.price≠0:=by simpa using g
    rw[MSt.addF,y5d hn,y5d (by rw[e];decide),y5d (by omega),y5f g];exact kp
   ·have g:i.s.p.price i.inst i.price=0:=by simpa using g
    obtain⟨x,hx⟩:=yE (l:=i.s.books) (i:=i.inst.toNat) oM;have hba:i.s.bookAt i.inst=x:=zT hx;have ha:MSt.addF i=({i.s with books:=i.s.books.set i.inst.toNat (x.addF (zC i.sd) i.id i.price i.qty).1,wh:=if(x.addF (zC i.sd) i.id i.price i.qty).2=0 then z1f i.id i.inst i.s.wh else i.s.wh},(x.addF (zC i.sd) i.id i.price i.qty).2):=by
     rw[MSt.addF,y5d hn,y5d (by rw[e];decide),y5d (by omega),y5d (by simp[g])];simp only[hba]
    refine⟨⟨oM,oM⟩,oM,x,hx,⟨⟨x,i.id,i.price,i.qty⟩,i.sd⟩,rF4 ⟨rfl,hb x (y5o hx),λ_ _=>⟨(x.addF (zC i.sd) i.id i.price i.qty).1,rfl,trivial,oM,Cv.cnd.mk (λz=>⟨dC _ _,?_⟩) (λz=> ?_)⟩⟩⟩
    ·have z:(x.addF (zC i.sd) i.id i.price i.qty).2=0:=by simpa using z
     rw[ha,z];simp only[if_true]
     exact kp
    ·have z:¬(x.addF (zC i.sd) i.id i.price i.qty).2=0:=by simpa using z
     rw[ha,y5d z]
     exact kp
 ·rw[out (.inl (by omega))];exact kp
def yOc:saddC.ok Tryz.prog 209:=okw mixed (gokc lE (gokc yMe gok0)) 1 (λ_=>[]) (λ_=>[]) [0] Tryz.func209 y0c
def r3prodC:Con:=con1 (List UInt8) (λs=>[sV s]) (λ_=>[]) (λs=>s.length<=1099511627776) (λs=>yX (wI s)) (λ_=>[])
def yMz (s:List UInt8):List SAnn:=[{ι:=Nat×Nat,slots:=λx=>[(3,zA x.2),(7,.nm 0 0)],rows:=λx=>[.iter (sb s) x.1]}]
def yNv:List (Nat×SAnn):=[(20,bj 29)]
def r5checkC:Con:=con1 Prd (λp=>[prdV p]) (λ_=>[]) Prd.small (λp=>zA p.check) (λ_=>[])
def yGh:List SAnn:=[{ι:=Nat,slots:=λj=>[(3,zA j)],rows:=λ_=>[]},{ι:=Nat,slots:=λj=>[(4,zA j)],rows:=λ_=>[]},{ι:=Nat,slots:=λj=>[(5,zA j)],rows:=λ_=>[]}]
def yHo:List (Nat×SAnn):=[(12,bj 19),(32,bj 58),(40,bj 90),(68,bj 136),(96,bj 168),(104,bj 176),(112,bj 204)]
def r5countC:Con:=con1 Prd (λp=>[prdV p]) (λ_=>[]) Prd.small (λp=>zA p.count) (λ_=>[])
def r5legsC:Con:=con1 cQ (λi=>[prdV i.p,zA i.n]) (λ_=>[]) (λi=>i.p.small) (λi=> .tup [zA (i.p.legs i.n).1,zA (i.p.legs i.n).2.1,yX (i.p.legs i.n).2.2]) (λ_=>[])
def yMn (i:cQ):List SAnn:=[{ι:=Nat,slots:=λm=>[(8,zA (yJ i.p.months.length m)),(9,zA m)],rows:=λ_=>[]},
 {ι:=Nat×Nat,slots:=λm=>[(8,zA ((yJ i.p.months.length m.1+m.2:Nat):Int)),(9,zA m.1),(10,zA ((m.1+1+m.2:Nat):Int))],rows:=λ_=>[]}]
def kN (x:Prd):Int:=2+zF x.months.length 0 3
def zS (x:Prd):Int:=1+zF x.tick 0 9
def qJ (n:Nat):List Int:=(aj n).map λ(i:Nat)=>10*(i:Int)+3
def kC (t:Int) (n:Nat):List Int:=(aj n).map λ(i:Nat)=>t*(10+(i:Int))
def kprod (x:Prd):Prd:=⟨[206,169],qJ (kN x).toNat,zS x,-20*zS x,100*zS x,zS x*(5+zF x.wide 0 60),1+zF x.rule 0 2,zF x.top 0 9,1+zF x.least 0 4,zF x.part 0 100,kC (zS x) (kN x).toNat⟩
@[reducible] def Prd.raw (x:Prd):Prop:=yU x.tick/\yU x.wide/\yU x.rule/\yU x.top/\yU x.least/\yU x.part/\x.months.length<=9223372036854775807
def kprodC:Con:=con1 Prd (λx=>[prdV x]) (λ_=>[]) Prd.raw (λx=>prdV (kprod x)) (λ_=>[])
def y3j (x:Prd) (w:Int) (j:Nat):List AObj:=[.cells [sV [206,169],.own 1,zA (zS x),zA (-20*zS x),zA (100*zS x),zA w,zA (1+zF x.rule 0 2),zA (zF x.top 0 9),zA (1+zF x.least 0 4),zA (zF x.part 0 100),.own 2] 25,.own 3 1 (iE (qJ j)),.own 2 1 (iE (kC (zS x) j))]
def y1x (x:Prd):List AObj:=[.cells [sV [206,169],.d (.v (.slice bo 0 0)),zA (zS x),zA (-20*zS x),zA (100*zS x),zA 0,zA (1+zF x.rule 0 2),zA (zF x.top 0 9),zA (1+zF x.least 0 4),zA (zF x.part 0 100),.d (.v (.slice bo 0 0))] 25]
def yUv (x:Prd):List SAnn:=[{ι:=Nat,slots:=λj=>[(5,.nm 0 0),(6,zA j)],rows:=λj=>y3j x (zS x*(5+zF x.wide 0 60)) j}]
def yTr (x:Prd):List (Nat×SAnn):=[(12,{ι:=Unit,slots:=λ_=>[(5,.nm 0 0)],slots0:=λ_=>[],rows0:=λ_=>[],rows:=λ_=>y1x x})]
def m9 (a:Bool->Prop) (b:Bool) (c:List UInt8) (d:Nat×Nat):Prop:=a b/\dh (av (sb c) (d.fst+(bu (sb c) d.fst).snd))
def qC (a:List UInt8) (b:Nat×Nat):=(↑(bu (sb a) b.fst).fst:Int)
def lH (a:List UInt8) (b:Nat×Nat) (c:Bool->Prop):Prop:=∃(d:Bool),d=!(qC a b) !=930/\m9 c d a b
def cX (a:Bool->Prop) (b:List UInt8) (c:Nat×Nat):Prop:=∃(d:Bool),d=!false/\m9 a d b c
def z8u (s:List UInt8):Prop:=
 ∃(a:Nat×Nat),(↑a.snd:Int)=0/\sb s=sb s/\a.fst=0/\∃(b:Nat×Nat->Prop),∃(c:Nat×Nat->Nat),b a/\∀(d:Nat×Nat),b d->cnd (d.fst.blt (sb s).size) (∃(e:Bool),∃(f:Bool->Prop),cnd (decide ((qC s d)>=65)) (cnd (decide ((qC s d)<=90)) (∃(g:Bool),g=!true/\m9 f g s d) (cnd (decide ((qC s d)>=913)) (cnd (decide ((qC s d)<=937)) (lH s d f) (cX f s d)) (cX f s d))) (cnd (decide ((qC s d)>=913)) (cnd (decide ((qC s d)<=937)) (lH s d f) (cX f s d)) (cX f s d))/\∀(g:Bool),f g->cnd g (∃(h:Unit),wI s=az/\True) (dQ d s b c)) (cnd (decide ((↑d.snd:Int)>=1)) (∃(e:Unit),wI s=decide ((↑d.snd:Int)<=4)/\True) (∃(e:Unit),wI s=az/\True))
def aP (a:Prd):Prop:=ap [V.d (uS a),V.own 0,V.d (dI a.tick),V.d (dI a.low),V.d (dI a.high),V.d (dI a.wide),V.d (dI a.rule),V.d (dI a.top),V.d (dI a.least),V.d (dI a.part),V.own 1] 25=ap [V.d (uS a),V.own 0,V.d (dI a.tick),V.d (dI a.low),V.d (dI a.high),V.d (dI a.wide),V.d (dI a.rule),V.d (dI a.top),V.d (dI a.least),V.d (dI a.part),V.own 1] 25/\bW a
def eG (a:Nat) (b:Nat->Prop) (c:Nat->Nat) (d:Prd):Prop:=∃(e:Nat),(↑e:Int)=aa.wrap ((↑a:Int)+1)/\b e/\c e<c a/\aP d
def lB (a:Bool->Prop) (b:Prd) (c:Nat) (d:Nat->Prop) (e:Nat->Nat):Prop:=∀(f:Bool),a f->cnd f (∃(g:Unit),b.check=1/\True) (eG c d e b)
def kH (a:Bool->Prop) (b:Bool) (c:Prd):Prop:=a b/\aP c
def yY (a:Bool->Prop) (b:Prd):Prop:=∃(c:Bool),c=ay/\kH a c b
def z0z (p:Prd):Prop:=
 ∃(a:List UInt8),sb a=sb p.code/\a.length<=1099511627776/\∀(b:Unit),True->cnd (!wI a) (∃(c:Unit),p.check=12/\True) (∃(c:Bool),∃(d:Bool->Prop),cnd (decide ((xF p)<2)) (yY d p) (∃(e:Bool),e=decide ((xF p)>6)/\kH d e p)/\∀(e:Bool),d e->cnd e (∃(f:Unit),p.check=1/\True) (∃(f:Nat),(↑f:Int)=0/\∃(g:Nat->Prop),∃(h:Nat->Nat),g f/\∀(j:Nat),g j->cnd (decide ((↑j:Int)<(xF p))) (∃(k:Bool),∃(l:Bool->Prop),((0<=(↑j:Int)/\(↑j:Int)<(xF p))/\∃(m:Int),zE (iE p.months) (↑j:Int).toNat 0 1=bg [dI m]/\cnd (decide (m<0)) (yY l p) ((0<=(↑j:Int)/\(↑j:Int)<(xF p))/\∃(n:Int),zE (iE p.months) (↑j:Int).toNat 0 1=bg [dI n]/\cnd (decide (n>1199)) (yY l p) (cnd (decide ((↑j:Int)>0)) ((0<=aa.wrap ((↑j:Int)-1)/\aa.wrap ((↑j:Int)-1)<(xF p))/\∃(q:Int),zE (iE p.months) (aa.wrap ((↑j:Int)-1)).toNat 0 1=bg [dI q]/\(0<=(↑j:Int)/\(↑j:Int)<(xF p))/\∃(r:Int),zE (iE p.months) (↑j:Int).toNat 0 1=bg [dI r]/\∃(s:Bool),s=decide (q>=r)/\kH l s p) (∃(q:Bool),q=az/\kH l q p))))/\lB l p j g h) (∃(k:Bool),∃(l:Bool->Prop),cnd (decide (p.tick<1)) (yY l p) (cnd (decide (p.tick>1000)) (yY l p) (aa=aa/\p.tick≠0/\cnd (p.low.tmod p.tick !=0) (yY l p) (aa=aa/\p.tick≠0/\cnd (p.high.tmod p.tick !=0) (yY l p) (aa=aa/\p.tick≠0/\∃(m:Bool),m=(p.wide.tmod p.tick !=0)/\kH l m p))))/\∀(m:Bool),l m->cnd m (∃(n:Unit),p.check=22/\True) (∃(n:Nat),(↑n:Int)=0/\∃(q:Nat->Prop),∃(r:Nat->Nat),q n/\∀(s:Nat),q s->cnd (decide ((↑s:Int)<(wQ p))) ((0<=(↑s:Int)/\(↑s:Int)<(wQ p))/\∃(t:Int),zE (iE p.settle) (↑s:Int).toNat 0 1=bg [dI t]/\aa=aa/\p.tick≠0/\cnd (t.tmod p.tick !=0) (∃(u:Unit),p.check=22/\True) (eG s q r p)) (∃(t:Bool),∃(u:Bool->Prop),cnd (decide (p.low<(-1000000))) (yY u p) (cnd (decide (p.low>=p.high)) (yY u p) (cnd (decide (p.high>1000000)) (yY u p) (cnd (decide (p.wide<0)) (yY u p) (∃(v:Bool),v=decide (p.wide>aa.wrap (p.high-p.low))/\kH u v p))))/\∀(v:Bool),u v->cnd v (∃(w:Unit),p.check=23/\True) (cnd ((wQ p) !=(xF p)) (∃(w:Unit),p.check=1/\True) (∃(w:Nat),(↑w:Int)=0/\∃(x:Nat->Prop),∃(y:Nat->Nat),x w/\∀(z:Nat),x z->cnd (decide ((↑z:Int)<(wQ p))) (∃(a_1:Bool),∃(a_2:Bool->Prop),((0<=(↑z:Int)/\(↑z:Int)<(wQ p))/\∃(a_3:Int),zE (iE p.settle) (↑z:Int).toNat 0 1=bg [dI a_3]/\cnd (decide (a_3<p.low)) (yY a_2 p) ((0<=(↑z:Int)/\(↑z:Int)<(wQ p))/\∃(a_4:Int),zE (iE p.settle) (↑z:Int).toNat 0 1=bg [dI a_4]/\∃(a_5:Bool),a_5=decide (a_4>p.high)/\kH a_2 a_5 p))/\lB a_2 p z x y) (∃(a_1:Bool),∃(a_2:Bool->Prop),cnd (decide (p.rule<1)) (yY a_2 p) (∃(a_3:Bool),a_3=decide (p.rule>3)/\kH a_2 a_3 p)/\∀(a_3:Bool),a_2 a_3->cnd a_3 (∃(a_4:Unit),p.check=31/\True) (∃(a_4:Bool),∃(a_5:Bool->Prop),cnd (decide (p.top<0)) (yY a_5 p) (cnd (decide (p.top>1000000)) (yY a_5 p) (cnd (decide (p.least<1)) (yY a_5 p) (cnd (decide (p.least>1000)) (yY a_5 p) (cnd (decide (p.part<0)) (yY a_5 p) (∃(a_6:Bool),a_6=decide (p.part>100)/\kH a_5 a_6 p)))))/\∀(a_6:Bool),a_5 a_6->cnd a_6 (∃(a_7:Unit),p.check=24/\True) (∃(a_7:Unit),p.check=0/\True))))))))))
def zWx (p:Prd):Prop:=
 ∃(a:Prd),rV a p
def gZ (a:cQ) (b:Nat×Nat):=(↑(yJ a.p.months.length b.fst+b.snd):Int)
def z6h (i:cQ):Prop:=
 ∃(a:Prd),sb a.code=sb i.p.code/\iE a.months=iE i.p.months/\a.tick=i.p.tick/\a.low=i.p.low/\a.high=i.p.high/\a.wide=i.p.wide/\a.rule=i.p.rule/\a.top=i.p.top/\a.least=i.p.least/\a.part=i.p.part/\iE a.settle=iE i.p.settle/\(yB a)/\∀(b:Unit),True->cnd (a.check !=0) (fD i) (cnd (decide (i.n<0)) (fD i) (cnd (decide (i.n<(vF i))) (zAa i) (∃(c:Nat),(uX i c)=(vF i)/\(↑c:Int)=0/\∃(d:Nat->Prop),∃(e:Nat->Nat),d c/\∀(f:Nat),d f->cnd (decide ((↑f:Int)<(vF i))) (∃(g:Nat×Nat),(gZ i g)=(uX i f)/\(↑g.fst:Int)=(↑f:Int)/\(↑(g.fst+1+g.snd):Int)=aa.wrap ((↑f:Int)+1)/\∃(h:Nat×Nat->Prop),∃(j:Nat×Nat->Nat),h g/\∀(k:Nat×Nat),h k->cnd (decide ((↑(k.fst+1+k.snd):Int)<(vF i))) (cnd ((gZ i k)==i.n) (∃(l:Unit),(i.p.legs i.n).fst=(↑k.fst:Int)/\(i.p.legs i.n).snd.fst=(↑(k.fst+1+k.snd):Int)/\(i.p.legs i.n).snd.snd=ay/\True) (∃(l:Nat×Nat),(gZ i l)=aa.wrap ((gZ i k)+1)/\(↑l.fst:Int)=(↑k.fst:Int)/\(↑(l.fst+1+l.snd):Int)=aa.wrap ((↑(k.fst+1+k.snd):Int)+1)/\h l/\j l<j k/\rQ i)) (∃(l:Nat),(uX i l)=(gZ i k)/\(↑l:Int)=aa.wrap ((↑k.fst:Int)+1)/\zFz d l e f i)) (fD i))))
def y4 (a:WiI):Prop:=((-9223372036854775808)<=a.n/\a.n<=9223372036854775807)/\(-1000000)<=a.lo/\a.lo<=a.hi/\a.hi<=1000000
def x6 (a:WiI):=(1+zF a.n a.lo a.hi)
def v7:=(D.v (Value.slice bo 0 0))
def kP:=(D.v (be (ByteArray.mk #[])))
def zIm (a:Prd):Prop:=ap (Sx.V.agg [V.d kP,V.d v7,V.d (dI 0),V.d (dI 0),V.d (dI 0),V.d (dI 0),V.d (dI 0),V.d (dI 0),V.d (dI 0),V.d (dI 0),V.d v7]).cl 25=ap (Sx.V.agg [V.d kP,V.d v7,V.d (dI 0),V.d (dI 0),V.d (dI 0),V.d (dI 0),V.d (dI 0),V.d (dI 0),V.d (dI 0),V.d (dI 0),V.d v7]).cl 25/\aP a
def zJa (a:Prd) (b:WiI) (c:WiI) (d:WiI) (e:WiI) (f:Unit->Prop):Prop:=∃(g:WiI),g.n=a.part/\g.lo=0/\g.hi=100/\(y4 g)/\∀(h:Unit),True->∃(j:Unit),sb [(206:UInt8),(169:UInt8)]=ByteArray.mk #[(206:UInt8),(169:UInt8)]/\True/\zS a=aa.wrap (x6 b)/\(-20)*zS a=aa.wrap ((-20)*aa.wrap (x6 b))/\100*zS a=aa.wrap (100*aa.wrap (x6 b))/\dh ((0:Int))/\1+zF a.rule 0 2=aa.wrap (x6 c)/\zF a.top 0 9=zF d.n d.lo d.hi/\1+zF a.least 0 4=aa.wrap (x6 e)/\zF a.part 0 100=zF g.n g.lo g.hi/\True/\f j/\zIm a
def zIs (a:Prd) (b:WiI) (c:WiI) (d:WiI) (e:WiI) (f:Unit->Prop):Prop:=a.part=a.part/\zJa a b c d e f
def zJg (a:Prd) (b:WiI) (c:WiI) (d:WiI) (e:Unit->Prop):Prop:=a.part=a.part/\dh a.least/\∃(f:WiI),f.n=a.least/\f.lo=0/\f.hi=4/\(y4 f)/\∀(g:Unit),True->zIs a b c d f e
def zHo (a:Prd) (b:WiI) (c:WiI) (d:Unit->Prop):Prop:=a.part=a.part/\dh a.least/\dh a.top/\∃(e:WiI),e.n=a.top/\e.lo=0/\e.hi=9/\(y4 e)/\∀(f:Unit),True->zJg a b c e d
def gO (a:Prd):=(kC (zS a) (kN a).toNat)
def yEo (x:Prd):Prop:=
 ∃(a:WiI),a.n=(xF x)/\a.lo=0/\a.hi=3/\(y4 a)/\∀(b:Unit),True->∃(c:WiI),c.n=x.tick/\c.lo=0/\c.hi=9/\(y4 c)/\∀(d:Unit),True->∃(e:Unit),∃(f:Unit->Prop),((∃(g:WiI),g.n=x.rule/\g.lo=0/\g.hi=2/\(y4 g)/\∀(h:Unit),True->dh x.part/\dh x.least/\dh x.top/\(∃(j:WiI),j.n=x.top/\j.lo=0/\j.hi=9/\(y4 j)/\∀(k:Unit),True->dh x.part/\dh x.least/\(∃(l:WiI),l.n=x.least/\l.lo=0/\l.hi=4/\(y4 l)/\∀(m:Unit),True->dh x.part/\(zJa x c g j l f)/\zIs x c g j l f)/\zJg x c g j f)/\zHo x c g f)/\dh x.part/\dh x.least/\dh x.top/\dh x.rule/\∃(g:WiI),g.n=x.rule/\g.lo=0/\g.hi=2/\(y4 g)/\∀(h:Unit),True->zHo x c g f)/\∀(g:Unit),f g->∃(h:WiI),h.n=x.wide/\h.lo=0/\h.hi=60/\(y4 h)/\∀(j:Unit),True->∃(k:Nat),(↑k:Int)=0/\dh (sb [(206:UInt8),(169:UInt8)])/\zS x=zS x/\dh ((-20)*zS x)/\dh (100*zS x)/\zS x*(5+zF x.wide 0 60)=aa.wrap (aa.wrap (x6 c)*aa.wrap (5+zF h.n h.lo h.hi))/\1+zF x.rule 0 (2:Int)=(1:Int)+zF x.rule 0 2/\zF x.top 0 9=zF x.top 0 (9:Int)/\(1:Int)+zF x.least 0 (4:Int)=(1:Int)+zF x.least 0 4/\dh (zF x.part 0 100)/\iE (qJ k)=[]/\iE (kC (zS x) k)=[]/\∃(l:Nat->Prop),∃(m:Nat->Nat),l k/\∀(n:Nat),l n->cnd (decide ((↑n:Int)<aa.wrap (2+zF a.n a.lo a.hi))) (((iE (qJ n)).length+1)*(8:Nat)<=(140737488355328:Nat)/\((iE (kC (zS x) n)).length+1)*(8:Nat)<=(140737488355328:Nat)/\∃(p:Nat),(↑p:Int)=aa.wrap ((↑n:Int)+1)/\dh (sb [(206:UInt8),(169:UInt8)])/\zS x=zS x/\dh ((-20)*zS x)/\dh (100*zS x)/\dh (zS x*(5+zF x.wide 0 60))/\1+zF x.rule 0 (2:Int)=(1:Int)+zF x.rule 0 2/\zF x.top 0 9=zF x.top 0 (9:Int)/\(1:Int)+zF x.least 0 (4:Int)=(1:Int)+zF x.least 0 4/\dh (zF x.part 0 100)/\iE (qJ p)=iE (qJ n)++[[dI (aa.wrap (aa.wrap (10*(↑n:Int))+3))]]/\iE (kC (zS x) p)=iE (kC (zS x) n)++[[dI (aa.wrap (aa.wrap (x6 c)*aa.wrap (10+(↑n:Int))))]]/\l p/\m p<m n/\zIm x) (∃(p:Unit),dh (sb [(206:UInt8),(169:UInt8)])/\iE (qJ (kN x).toNat)=iE (qJ n)/\zS x=zS x/\dh ((-20)*zS x)/\dh (100*zS x)/\dh (zS x*(5+zF x.wide 0 60))/\1+zF x.rule 0 (2:Int)=(1:Int)+zF x.rule 0 2/\zF x.top 0 9=zF x.top 0 (9:Int)/\(1:Int)+zF x.least 0 (4:Int)=(1:Int)+zF x.least 0 4/\dh (zF x.part 0 100)/\iE (gO x)=iE (kC (zS x) n)/\True)
def yNm (s:List UInt8) (h:r3prodC.cnd s):z8u s:=by
 have h:s.length<=1099511627776:=h;have hr:=zGs s;unfold z8u cX lH qC m9 dQ;refine⟨(0,0),rfl,rfl,rfl,λx=>x.1<=s.length/\x.2+(u7 s x.1).length=(kV s).length/\(kV s).all gE=((u7 s x.1).all λy=>gE y.2),λx=>s.length-x.1,⟨oM,by rw[kV,y5e];simp,by rw[kV,List.all_map];rfl⟩,?_⟩;rintro⟨p,n⟩ ⟨h1,h2,h3⟩;dsimp only at h1 h2 h3 ⊢;refine Cv.cnd.mk (λhp=> ?_) (λhp=> ?_)
 ·have hp:p<s.length:=by simpa[y8e]using hp
  have hw:=cV s hp;rw[jU hp,y5i]at h2;rw[jU hp,List.all_cons]at h3;generalize hc:(bu (sb s) p).1=c at h2 h3 ⊢;generalize hww:(bu (sb s) p).2=w at h2 h3 hw ⊢;dsimp only at h3;have g0:∀b:Bool,(b=ay->gE c=ay)->(b=az->gE c=az)->b=gE c:=λb e1 e2=>by cases b<;>simp_all
  refine⟨ay,λb=>b= !gE c,?_,λb hb=> ?_⟩
  ·refine zI (λc1=>zI (λc2=>⟨_,rfl,?_,k0q⟩) (λc2=>zI (λc3=>zI (λc4=>⟨_,rfl,?_,k0q⟩) (λc4=>⟨_,rfl,?_,k0q⟩)) (λc3=>⟨_,rfl,?_,k0q⟩))) (λc1=>zI (λc3=>zI (λc4=>⟨_,rfl,?_,k0q⟩) (λc4=>⟨_,rfl,?_,k0q⟩)) (λc3=>⟨_,rfl,?_,k0q⟩))
   all_goals congr 1
   all_goals refine g0 _ (λe=> ?_) (λe=> ?_)
   all_goals first|(simp[gE]at*;done)|(simp[gE]at*;omega)
  ·subst hb;refine Cv.cnd.mk (λe=>⟨(),?_,trivial⟩) (λe=>⟨(p+w,n+1),?_,rfl,rfl,⟨hw.2,by(first|omega|(dsimp only;omega)),?_⟩,by(first|omega|(dsimp only;omega)),trivial⟩)
   ·have e:gE c=az:=by simpa using e
    rw[wI,h3,e];rfl
   ·rw[w64 (by omega)];rfl
   ·have e:gE c=ay:=by simpa using e
    rw[h3,e];rfl
 ·have hp:s.length<=p:=by have:=z8k hp;simpa using this
  rw[vZ hp]at h2 h3;have h3:(kV s).all gE=ay:=h3;have hn:n=(kV s).length:=by simpa using h2
  have hne:(s=[])↔(kV s).length=0:=by
   constructor
   ·intro e;subst e;rfl
   ·intro e;cases s with
    |nil=>rfl
    |cons b l=>
     rw[kV,y5e,jU (by simp)]at e;simp at e
  refine zI (λc=>⟨(),?_,trivial⟩) (λc=>⟨(),?_,trivial⟩)
  ·have:¬s=[]:=by rw[hne];omega
   rw[wI,h3,y5u this,hn];simp only[y8a];congr 1;simp only[eq_iff_iff];omega
  ·have:s=[]:=by rw[hne];omega
   rw[wI,this];rfl
def yBq:r3prodC.ok Tryz.prog 212:=okw mixed gok0 0 (λ_=>yNv) (λs=>yMz s) [] Tryz.func212 yNm
def sL:∀(l:List Int) (a:Int),l.foldl min a<=a/\∀x∈l,l.foldl min a<=x
 |[],a=>⟨y8r _,by simp⟩
 |b::l,a=>by
  obtain⟨h1,h2⟩:=sL l (min a b);rw[y8w];refine⟨oM,λx hx=> ?_⟩;rcases y5y.1 hx with rfl|hx
  ·omega
  ·exact h2 x hx
def tK:∀(l:List Int) (a:Int),a<=l.foldl max a/\∀x∈l,x<=l.foldl max a
 |[],a=>⟨y8r _,by simp⟩
 |b::l,a=>by
  obtain⟨h1,h2⟩:=tK l (max a b);rw[y8w];refine⟨oM,λx hx=> ?_⟩;rcases y5y.1 hx with rfl|hx
  ·omega
  ·exact h2 x hx
def zBu:∀(l:List Int) (a:Int),l.foldl min a=a\/l.foldl min a∈l
 |[],a=> .inl rfl
 |b::l,a=>by
  rw[y8w];rcases zBu l (min a b)with h|h
  ·rcases Int.le_total a b with e|e
   ·left;rw[h];omega
   ·right;rw[h,show min a b=b by omega];exact y5j
  ·exact .inr (y5l _ h)
def zBr:∀(l:List Int) (a:Int),l.foldl max a=a\/l.foldl max a∈l
 |[],a=> .inl rfl
 |b::l,a=>by
  rw[y8w];rcases zBr l (max a b)with h|h
  ·rcases Int.le_total a b with e|e
   ·right;rw[h,show max a b=b by omega];exact y5j
   ·left;rw[h];omega
  ·exact .inr (y5l _ h)
def z6y {l:List Int} {x:Int} (h:x∈l):tF l<=x:=by
 cases l with
 |nil=>cases h
 |cons a l=>
  rw[tF,ag,af];rcases y5y.1 h with rfl|h
  ·exact(sL l x).1
  ·exact(sL l a).2 x h
def z5r {l:List Int} {x:Int} (h:x∈l):x<=tO l:=by
 cases l with
 |nil=>cases h
 |cons a l=>
  rw[tO,ag,af];rcases y5y.1 h with rfl|h
  ·exact(tK l x).1
  ·exact(tK l a).2 x h
def zWq {l:List Int} (h:l≠[]):tF l∈l:=by
 cases l with
 |nil=>exact absurd rfl h
 |cons a l=>
  rw[tF,ag,af];rcases zBu l a with h|h
  ·rw[h];exact y5j
  ·exact y5l _ h
def z1b {l:List Int} (h:l≠[]):tO l∈l:=by
 cases l with
 |nil=>exact absurd rfl h
 |cons a l=>
  rw[tO,ag,af];rcases zBr l a with h|h
  ·rw[h];exact y5j
  ·exact y5l _ h
def yHb (p:Prd) (h:r5checkC.cnd p):z0z p:=by
 obtain⟨h1,h2,h3⟩:p.small:=h;unfold z0z yY kH lB eG aP uS bW xF wQ dI;simp only[y3];refine⟨p.code,rfl,h1,λ_ _=>Cv.cnd.mk (λc1=>⟨(),by rw[Prd.check,y5f c1],trivial⟩) λc1=> ?_⟩;have c1:wI p.code=ay:=by simpa using c1
 have e1:p.check=if !xG p.months then 1 else if !qM p then 22 else if qL p then 23 else if xL p then 1 else if kD p then 31 else if x7 p then 24 else 0:=by
  rw[Prd.check,y5d (by simp[c1])]
 refine⟨ay,λb=>b=(decide (p.months.length<2)||decide (p.months.length>6)),zI (λc=>⟨ay,rfl,?_,k0q⟩) (λc=>⟨_,rfl,?_,k0q⟩),λb hb=> ?_⟩
 ·rw[y5u (show p.months.length<2 by omega)];rfl
 ·rw[y5q (show ¬p.months.length<2 by omega),xAz];congr 1;simp only[eq_iff_iff];omega
 subst hb;refine Cv.cnd.mk (λc2=> ?_) (λc2=> ?_)
 ·have:xG p.months=az:=by
   simp only[ba,y6s]at c2;rw[xG];rcases c2 with c2|c2
   ·rw[y5q (show ¬2<=p.months.length by omega)];simp
   ·rw[y5q (show ¬p.months.length<=6 by omega)];simp
  exact⟨(),by rw[e1,y5f (by rw[this];rfl)],trivial⟩
 have c2:2<=p.months.length/\p.months.length<=6:=by
  simp only[y9i,decide_eq_false_iff_not]at c2;omega
 have em:xG p.months=(aj p.months.length).all (qR p.months):=by
  rw[xG,y5u c2.1,y5u c2.2];simp
 refine⟨0,rfl,λj=>j<=p.months.length/\∀k<j,qR p.months k=ay,λj=>p.months.length-j,⟨oM,λk hk=>by omega⟩,?_⟩;rintro j ⟨g1,g2⟩;refine zI (λhj=> ?_) (λhj=> ?_)
 ·obtain⟨m,hm⟩:=yE (l:=p.months) (i:=j) oM;have hmj:p.months.getD j 0=m:=zT hm;refine⟨ay,λb=>b= !qR p.months j,⟨⟨oM,oM⟩,m,elI hm,zI (λc=>⟨ay,rfl,?_,k0q⟩) (λc=>⟨⟨oM,oM⟩,m,elI hm,zI (λd=>⟨ay,rfl,?_,k0q⟩) (λd=>zI (λe=> ?_) (λe=>⟨az,rfl,?_,k0q⟩))⟩)⟩,λb hb=> ?_⟩
  ·rw[qR,hmj,y5q (show ¬0<=m by omega)];rfl
  ·rw[qR,hmj,y5q (show ¬m<=1199 by omega)];simp
  ·obtain⟨m',hm'⟩:=yE (l:=p.months) (i:=j-1) oM;rw[w64 (by omega),show((j:Int)-1).toNat=j-1 by omega];refine⟨⟨oM,oM⟩,m',elI hm',⟨oM,oM⟩,m,elI hm,_,rfl,?_,k0q⟩;rw[qR,hmj,zT hm',y5u (show 0<=m by omega),y5u (show m<=1199 by omega),y5q (show ¬j=0 by omega)];simp only[y8a,xAz];by_cases hlt:m'<m
   ·rw[y5u hlt,y5q (by omega)];rfl
   ·rw[y5q hlt,y5u (by omega)];rfl
  ·rw[qR,hmj,y5u (show 0<=m by omega),y5u (show m<=1199 by omega),y5u (show j=0 by omega)];rfl
  ·subst hb;refine Cv.cnd.mk (λc=>⟨(),?_,trivial⟩) (λc=>⟨j+1,by rw[w64 (by omega)];rfl,⟨oM,λk hk=> ?_⟩,by(first|omega|(dsimp only;omega)),k0q⟩)
   ·have c:qR p.months j=az:=by simpa using c
    rw[e1,y5f (by rw[em,zSg (k:=j) (by omega) c];rfl)]
   ·have c:qR p.months j=ay:=by simpa using c
    rcases y7m k j with h|h
    ·exact g2 k h
    ·obtain rfl:k=j:=by omega
     exact c
 have em:xG p.months=ay:=by rw[em];exact zZd λk hk=>g2 k oM
 have e2:p.check=if !qM p then 22 else if qL p then 23 else if xL p then 1 else if kD p then 31 else if x7 p then 24 else 0:=by
  rw[e1,y5d (by simp[em])]
 have et:qM p=((decide (1<=p.tick) && decide (p.tick<=1000) && !qN p.tick p.low && !qN p.tick p.high && !qN p.tick p.wide) && !p.settle.any (qN p.tick)):=rfl;refine⟨ay,λb=>b= !(decide (1<=p.tick) && decide (p.tick<=1000) && !qN p.tick p.low && !qN p.tick p.high && !qN p.tick p.wide),zI (λd1=>⟨ay,rfl,?_,k0q⟩) (λd1=>zI (λd2=>⟨ay,rfl,?_,k0q⟩) (λd2=>⟨trivial,oM,Cv.cnd.mk (λd3=>⟨ay,rfl,?_,k0q⟩) (λd3=>⟨trivial,oM,Cv.cnd.mk (λd4=>⟨ay,rfl,?_,k0q⟩) (λd4=>⟨trivial,oM,_,rfl,?_,k0q⟩)⟩)⟩)),λb hb=> ?_⟩
 ·rw[y5q (show ¬1<=p.tick by omega)];rfl
 ·rw[y5q (show ¬p.tick<=1000 by omega)];simp
 ·have d3:qN p.tick p.low=ay:=d3;rw[d3];simp
 ·have d4:qN p.tick p.high=ay:=d4;rw[d4];simp
 ·have d3:qN p.tick p.low=az:=d3;have d4:qN p.tick p.high=az:=d4;rw[d3,d4,y5u (show 1<=p.tick by omega),y5u (show p.tick<=1000 by omega)];show qN p.tick p.wide=_;simp
 subst hb;refine Cv.cnd.mk (λc3=> ?_) (λc3=> ?_)
 ·have c3:(decide (1<=p.tick) && decide (p.tick<=1000) && !qN p.tick p.low && !qN p.tick p.high && !qN p.tick p.wide)=az:=by
   rw[y8q]at c3;exact c3
  exact⟨(),by rw[e2,y5f (by rw[et,c3];rfl)],trivial⟩
 have c3:(decide (1<=p.tick) && decide (p.tick<=1000) && !qN p.tick p.low && !qN p.tick p.high && !qN p.tick p.wide)=ay:=by simpa using c3
 have ht1:1<=p.tick:=by
  simp only[y5r,y6s]at c3;exact c3.1.1.1.1
 rw[c3,y8a]at et;refine⟨0,rfl,λj=>j<=p.settle.length/\∀k<j,∀x,p.settle[k]? =bg x->qN p.tick x=az,λj=>p.settle.length-j,⟨oM,λk hk=>by omega⟩,?_⟩;rintro j ⟨g1,g2⟩;refine zI (λhj=> ?_) (λhj=> ?_)
 ·obtain⟨m,hm⟩:=yE (l:=p.settle) (i:=j) oM;refine⟨⟨oM,oM⟩,m,elI hm,trivial,oM,Cv.cnd.mk (λc=>⟨(),?_,trivial⟩) (λc=>⟨j+1,by rw[w64 (by omega)];rfl,⟨oM,λk hk x hx=> ?_⟩,by(first|omega|(dsimp only;omega)),k0q⟩)⟩
  ·have c:qN p.tick m=ay:=c;have:p.settle.any (qN p.tick)=ay:=by rw[List.any_eq_true];exact⟨m,y5o hm,c⟩
   rw[e2,y5f (by rw[et,this];rfl)]
  ·rcases y7m k j with h|h
   ·exact g2 k h x hx
   ·obtain rfl:k=j:=by omega
    rw[hm]at hx;cases hx;exact c
 have et:qM p=ay:=by
  rw[et];have:p.settle.any (qN p.tick)=az:=by
   rw[xBi];intro x hx;obtain⟨k,hk⟩:=xAq hx;rw[g2 k (by have:=(y5h.1 hk).1;omega) x hk];simp
  rw[this];rfl
 have e3:p.check=if qL p then 23 else if xL p then 1 else if kD p then 31 else if x7 p then 24 else 0:=by
  rw[e2,y5d (by simp[et])]
 refine⟨ay,λb=>b=qL p,zI (λd1=>⟨ay,rfl,?_,k0q⟩) (λd1=>zI (λd2=>⟨ay,rfl,?_,k0q⟩) (λd2=>zI (λd3=>⟨ay,rfl,?_,k0q⟩) (λd3=>zI (λd4=>⟨ay,rfl,?_,k0q⟩) (λd4=>⟨_,rfl,?_,k0q⟩)))),λb hb=> ?_⟩
 ·simp[qL,d1]
 ·simp[qL,d2]
 ·simp[qL,d3]
 ·simp[qL,d4]
 ·rw[w64 (by omega)];simp[qL,d1,d2,d3,d4]
 subst hb;refine Cv.cnd.mk (λc4=>⟨(),by rw[e3,y5f c4],trivial⟩) (λc4=> ?_);have e4:p.check=if xL p then 1 else if kD p then 31 else if x7 p then 24 else 0:=by
  rw[e3,y5d (by simp[c4])]
 refine Cv.cnd.mk (λd6=>⟨(),?_,trivial⟩) (λd6=> ?_)
 ·have d6:¬(p.settle.length:Int)=p.months.length:=by simpa using d6
  rw[e4,y5f (by simp[xL];omega)]
 have d6:p.settle.length=p.months.length:=by
  have:(p.settle.length:Int)=p.months.length:=by simpa using d6
  omega
 have hne:p.settle≠[]:=by intro e;rw[e]at d6;simp at d6;omega
 refine⟨0,rfl,λj=>j<=p.settle.length/\∀k<j,∀x,p.settle[k]? =bg x->p.low<=x/\x<=p.high,λj=>p.settle.length-j,⟨oM,λk hk=>by omega⟩,?_⟩;rintro j ⟨g3,g4⟩;refine zI (λhj=> ?_) (λhj=> ?_)
 ·obtain⟨m,hm⟩:=yE (l:=p.settle) (i:=j) oM;have hmm:=y5o hm;refine⟨ay,λb=>b=(decide (m<p.low)||decide (m>p.high)),⟨⟨oM,oM⟩,m,elI hm,zI (λc=>⟨ay,rfl,?_,k0q⟩) (λc=>⟨⟨oM,oM⟩,m,elI hm,_,rfl,?_,k0q⟩)⟩,λb hb=> ?_⟩
  ·rw[y5u c];rfl
  ·rw[y5q c,xAz]
  ·subst hb;refine Cv.cnd.mk (λc=>⟨(),?_,trivial⟩) (λc=>⟨j+1,by rw[w64 (by omega)];rfl,⟨oM,λk hk x hx=> ?_⟩,by(first|omega|(dsimp only;omega)),k0q⟩)
   ·have l1:=z6y hmm;have l2:=z5r hmm;rw[e4,y5f (by
     simp only[ba,y6s]at c;simp only[xL,ba,y6s];rcases c with c|c
     ·left;right;omega
     ·right;omega)]
   ·rcases y7m k j with h|h
    ·exact g4 k h x hx
    ·obtain rfl:k=j:=by omega
     rw[hm]at hx;cases hx;simp only[y9i,decide_eq_false_iff_not]at c;omega
 have hset:xL p=az:=by
  have all:∀x∈p.settle,p.low<=x/\x<=p.high:=λx hx=>by
   obtain⟨k,hk⟩:=xAq hx;exact g4 k (by have:=(y5h.1 hk).1;omega) x hk
  have a1:=all _ (zWq hne);have a2:=all _ (z1b hne);simp only[xL,y9i,decide_eq_false_iff_not];omega
 have e5:p.check=if kD p then 31 else if x7 p then 24 else 0:=by
  rw[e4,y5d (by simp[hset])]
 refine⟨ay,λb=>b=kD p,zI (λd1=>⟨ay,rfl,?_,k0q⟩) (λd1=>⟨_,rfl,?_,k0q⟩),λb hb=> ?_⟩
 ·simp[kD,d1]
 ·simp[kD,d1]
 subst hb;refine Cv.cnd.mk (λc6=>⟨(),by rw[e5,y5f c6],trivial⟩) (λc6=> ?_);have e6:p.check=if x7 p then 24 else 0:=by rw[e5,y5d (by simp[c6])]
 refine⟨ay,λb=>b=x7 p,zI (λd1=>⟨ay,rfl,?_,k0q⟩) (λd1=>zI (λd2=>⟨ay,rfl,?_,k0q⟩) (λd2=>zI (λd3=>⟨ay,rfl,?_,k0q⟩) (λd3=>zI (λd4=>⟨ay,rfl,?_,k0q⟩) (λd4=>zI (λd5=>⟨ay,rfl,?_,k0q⟩) (λd5=>⟨_,rfl,?_,k0q⟩))))),λb hb=> ?_⟩
 ·simp[x7,d1]
 ·simp[x7,d2]
 ·simp[x7,d3]
 ·simp[x7,d4]
 ·simp[x7,d5]
 ·simp[x7,d1,d2,d3,d4,d5]
 subst hb;exact Cv.cnd.mk (λc7=>⟨(),by rw[e6,y5f c7],trivial⟩) (λc7=>⟨(),by rw[e6,y5d (by simp[c7])],trivial⟩)
def zOu:r5checkC.ok Tryz.prog 172:=okw mixed (gokc yBq gok0) 0 (λ_=>yHo) (λ_=>yGh) [] Tryz.func172 yHb
def pR {p:Prd} (h:p.check=0):p.count=p.months.length+p.months.length*(p.months.length-1) / 2:=by rw[Prd.count,y5f h]
def zOy {p:Prd} (h:p.check≠0):p.count=0:=by rw[Prd.count,y5d h]
def yGe (p:Prd) (h:r5countC.cnd p):zWx p:=by
 have hs:p.small:=h;unfold zWx rV xF yB;simp only[y3];refine⟨p,rF7 (rF3 ⟨rfl,hs,λ_ _=>Cv.cnd.mk (λc=>⟨(),?_,trivial⟩) (λc=>⟨trivial,Z8,(),?_,trivial⟩)⟩)⟩
 ·rw[zOy (by simpa using c)];rfl
 ·have c:p.check=0:=by simpa using c
  have m6:=(kF c).m6;have m2:=(kF c).m2;rw[pR c];generalize p.months.length=n at*;have:n=2\/n=3\/n=4\/n=5\/n=6:=by omega
  rcases this with rfl|rfl|rfl|rfl|rfl<;>decide
def z1u:r5countC.ok Tryz.prog 118:=okw mixed (gokc zOu gok0) 0 (λ_=>[]) (λ_=>[]) [] Tryz.func118 yGe
def yFc:∀n≤6,∀a<n,∀b<n-1-a,kZ n (yJ n a+b) n 0=((a:Int),((a+1+b:Nat):Int),ay)/\yJ n a+b<n+n*(n-1) / 2/\n<=yJ n a+b:=by decide
def yBs:∀n≤6,yJ n n=n+n*(n-1) / 2:=by decide
def yLl {p:Prd} (h:p.check=0) {a b:Nat} (ha:a<p.months.length) (hb:b<p.months.length-1-a):p.legs ((yJ p.months.length a+b:Nat):Int)=((a:Int),((a+1+b:Nat):Int),ay):=by
 obtain⟨h1,h2,h3⟩:=yFc _ (kF h).m6 a ha b hb;rw[Prd.legs,y5d (by rw[pR h];omega),y5d (by omega),y5w];exact h1
def yOy (i:cQ) (h:r5legsC.cnd i):z6h i:=by
 have hs:i.p.small:=h;unfold z6h gZ zFz rQ vF uX zAa fD yB dI;simp only[y3];refine⟨i.p,rF7 (rF3 ⟨rfl,hs,λ_ _=>Cv.cnd.mk (λc=> ?_) (λc=>zI (λc1=> ?_) (λc1=>zI (λc2=> ?_) (λc2=> ?_)))⟩)⟩
 ·rw[Prd.legs,y5f (by rw[zOy (by simpa using c)];omega)];exact kp
 ·rw[Prd.legs,y5f (.inl c1)];exact kp
 ·have c:i.p.check=0:=by simpa using c
  rw[Prd.legs,y5d (by rw[pR c];omega),y5f c2];exact kp
 ·have c:i.p.check=0:=by simpa using c
  have m6:=(kF c).m6;obtain⟨k,hk⟩:∃k:Nat,i.n=k:=⟨i.n.toNat,oM⟩
  have sp:=λ(a b:Nat) ha hb=>yLl (p:=i.p) c (a:=a) (b:=b) ha hb
  have fe:=yBs _ m6;have out:i.p.count<=k->i.p.legs (k:Int)=(0,0,az):=λe=>by rw[Prd.legs,y5f (by omega)]
  rw[pR c,<- fe]at out;rw[hk]at c2 ⊢;generalize hn:i.p.months.length=n at*;refine⟨0,rfl,rfl,λm=>m<=n/\yJ n m<=k,λm=>n-m,⟨oM,by show n<=k;omega⟩,?_⟩;rintro m ⟨g1,g2⟩;have hf:=zPe m6 g1;refine zI (λc4=> ?_) (λc4=> ?_)
  ·refine⟨(m,0),rfl,rfl,by rw[w64 (by omega)];simp,λx=>x.1=m/\x.2<=n-1-m/\yJ n m+x.2<=k,λx=>n-1-m-x.2,⟨rfl,by(first|omega|(dsimp only;omega)),by(first|omega|(dsimp only;omega))⟩,?_⟩;rintro⟨a,b⟩ ⟨g3,g4,g5⟩;dsimp only at g3 g4 g5 ⊢;subst g3;refine zI (λc5=>Cv.cnd.mk (λe=> ?_) (λe=> ?_)) (λc5=> ?_)
   ·have e:((yJ n a+b:Nat):Int)=(k:Int):=by simpa using e
    have:=sp a b oM oM;rw[e]at this;rw[this];exact kp
   ·have e:¬((yJ n a+b:Nat):Int)=(k:Int):=by simpa using e
    refine⟨(a,b+1),?_,rfl,?_,⟨rfl,by(first|omega|(dsimp only;omega)),by(first|omega|(dsimp only;omega))⟩,by(first|omega|(dsimp only;omega)),k0q⟩
    ·rw[w64 (by omega)];dsimp only;omega
    ·rw[w64 (by omega)];dsimp only;omega
   ·refine⟨a+1,?_,by rw[w64 (by omega)];rfl,⟨oM,?_⟩,by(first|omega|(dsimp only;omega)),k0q⟩
    ·rw[yJ];omega
    ·rw[yJ];omega
  ·obtain rfl:m=n:=by omega
   rw[out g2];exact kp
def yBw:r5legsC.ok Tryz.prog 119:=okw mixed (gokc zOu gok0) 0 (λ_=>[]) (λi=>yMn i) [] Tryz.func119 yOy
def zEy (x:Prd):1<=zS x/\zS x<=10:=by
 have:=yR (n:=x.tick) (lo:=0) (hi:=9) oM;rw[zS];omega
def yGw (x:Prd):2<=kN x/\kN x<=5:=by
 have:=yR (n:=(x.months.length:Int)) (lo:=0) (hi:=3) oM;rw[kN];omega
def eD {a b m n:Int} (ha:0<=a/\a<=m) (hb:0<=b/\b<=n):0<=a*b/\a*b<=m*n:=by
 refine⟨xBk ha.1 hb.1,?_⟩;exact Int.le_trans (Int.mul_le_mul_of_nonneg_right ha.2 hb.1) (xAa hb.2 oM)
def zUp (j:Nat):iE (qJ (j+1))=iE (qJ j)++[[D.v (.int .i64 (10*(j:Int)+3))]]:=by
 rw[qJ,y9z,y5n,iE,y5n];rfl
def zUi (t:Int) (j:Nat):iE (kC t (j+1))=iE (kC t j)++[[D.v (.int .i64 (t*(10+(j:Int))))]]:=by
 rw[kC,y9z,y5n,iE,y5n];rfl
def lF (j:Nat):(qJ j).length=j:=by simp[qJ]
def m3 (t:Int) (j:Nat):(kC t j).length=j:=by simp[kC]
def yVn (x:Prd) (h:kprodC.cnd x):yEo x:=by
 obtain⟨h1,h2,h3,h4,h5,h6,h7⟩:x.raw:=h;have hw: -1000000<=(0:Int):=by decide
 have bt:=yR (n:=x.tick) (lo:=0) (hi:=9) oM;have bw:=yR (n:=x.wide) (lo:=0) (hi:=60) oM;have br:=yR (n:=x.rule) (lo:=0) (hi:=2) oM;have bl:=yR (n:=x.least) (lo:=0) (hi:=4) oM;have bn:=yR (n:=(x.months.length:Int)) (lo:=0) (hi:=3) oM;have kt:=zEy x;have kn:=yGw x;have w1:aa.wrap (1+zF x.tick 0 9)=zS x:=w64 oM;have w2:aa.wrap (-20*aa.wrap (1+zF x.tick 0 9))= -20*zS x:=by rw[w1];exact w64 oM
 have w3:aa.wrap (100*aa.wrap (1+zF x.tick 0 9))=100*zS x:=by rw[w1];exact w64 oM
 have w4:aa.wrap (1+zF x.rule 0 2)=1+zF x.rule 0 2:=w64 oM;have w5:aa.wrap (1+zF x.least 0 4)=1+zF x.least 0 4:=w64 oM;have w6:aa.wrap (2+zF x.months.length 0 3)=kN x:=w64 oM;have mb:=eD (a:=zS x) (b:=5+zF x.wide 0 60) (m:=10) (n:=65) oM oM;have w7:aa.wrap (aa.wrap (1+zF x.tick 0 9)*aa.wrap (5+zF x.wide 0 60))=zS x*(5+zF x.wide 0 60):=by
  rw[w1,w64 (x:=5+zF x.wide 0 60) (by omega)];exact w64 oM
 unfold yEo gO zHo zJg zIs zJa zIm kP v7 aP uS bW x6 y4 xF dI;simp only[y3];refine⟨⟨x.months.length,0,3⟩,rfl,rfl,rfl,⟨⟨Z9,Z9⟩,Z9,Z9,Z9⟩,λ_ _=>⟨⟨x.tick,0,9⟩,rfl,rfl,rfl,⟨h1,Z9,Z9,Z9⟩,λ_ _=> ?_⟩⟩;dsimp only;refine⟨(),λ_=>True,?_,λ_ _=> ?_⟩
 ·repeat'(first|exact trivial|exact rfl|exact w1.symm|exact w2.symm|exact w3.symm|exact w4.symm|exact w5.symm|apply am|refine⟨⟨x.rule,0,2⟩,rfl,rfl,rfl,⟨h3,Z9,Z9,Z9⟩,λ_ _=> ?_⟩|refine⟨⟨x.top,0,9⟩,rfl,rfl,rfl,⟨h4,Z9,Z9,Z9⟩,λ_ _=> ?_⟩|refine⟨⟨x.least,0,4⟩,rfl,rfl,rfl,⟨h5,Z9,Z9,Z9⟩,λ_ _=> ?_⟩|refine⟨⟨x.part,0,100⟩,rfl,rfl,rfl,⟨h6,Z9,Z9,Z9⟩,λ_ _=> ?_⟩|refine⟨(),?_⟩)
 ·refine⟨⟨x.wide,0,60⟩,rfl,rfl,rfl,⟨h2,Z9,Z9,Z9⟩,λ_ _=> ?_⟩;dsimp only;rw[w7,w6];refine⟨0,by(first|exact rfl|exact trivial),by(first|exact rfl|exact trivial),by(first|exact rfl|exact trivial),by(first|exact rfl|exact trivial),by(first|exact rfl|exact trivial),by(first|exact rfl|exact trivial),by(first|exact rfl|exact trivial),by(first|exact rfl|exact trivial),by(first|exact rfl|exact trivial),by(first|exact rfl|exact trivial),by(first|exact rfl|exact trivial),by(first|exact rfl|exact trivial),λj=>j<=(kN x).toNat,λj=>(kN x).toNat-j,oM,?_⟩;intro j hj;rw[lF,m3];refine zI (λc=>⟨oM,oM,j+1,by rw[w64 (by omega)];rfl,by(first|exact rfl|exact trivial),by(first|exact rfl|exact trivial),by(first|exact rfl|exact trivial),by(first|exact rfl|exact trivial),by(first|exact rfl|exact trivial),by(first|exact rfl|exact trivial),by(first|exact rfl|exact trivial),by(first|exact rfl|exact trivial),by(first|exact rfl|exact trivial),?_,?_,by(first|omega|(dsimp only;omega)),by(first|omega|(dsimp only;omega)),k0q⟩) (λc=>⟨(),?_⟩)
  ·rw[zUp,w64 (x:=10*(j:Int)) (by omega),w64 (by omega)]
  ·have mj:=eD (a:=zS x) (b:=10+(j:Int)) (m:=10) (n:=20) oM oM;rw[zUi,w1,w64 (x:=10+(j:Int)) (by omega),w64 (by omega)]
  ·have e:(kN x).toNat=j:=by omega
   rw[e];(repeat'(first|exact trivial|exact rfl|apply am))
def kprod_ok:kprodC.ok Tryz.prog 12:=okw mixed (gokc within_ok gok0) 0 (λx=>yTr x) (λx=>yUv x) [] Tryz.func12 yVn
structure Cmd where
 kind:Int
 id:Int
 inst:Int
 side:Int
 price:Int
 qty:Int
 least:Int
 time:Int
 label:List UInt8
 deriving DecidableEq
@[reducible] def Cmd.cells (c:Cmd):List V:=[zA c.kind,zA c.id,zA c.inst,zA c.side,zA c.price,zA c.qty,zA c.least,zA c.time,sV c.label]
@[reducible] def zGe (c:Cmd):V:= .agg c.cells
def cmdE (c:Cmd):List D:=[.v (.int .i64 c.kind),.v (.int .i64 c.id),.v (.int .i64 c.inst),.v (.int .i64 c.side),.v (.int .i64 c.price),.v (.int .i64 c.qty),.v (.int .i64 c.least),.v (.int .i64 c.time),.v (.string (sb c.label))]
def zZf:Cmd:=⟨0,0,0,0,0,0,0,0,[]⟩
@[reducible] def Cmd.raw (c:Cmd):Prop:=yU c.kind/\yU c.id/\yU c.inst/\yU c.side/\yU c.price/\yU c.qty/\yU c.least/\yU c.time
structure TmI where
 p:Prd
 c:Cmd
 i:Int
def uD (c:Cmd):Int:=if 4<1+zF c.kind 0 8 then 1 else 1+zF c.kind 0 8
def y5 (t:TmI):Cmd:=⟨uD t.c,1+zF t.c.id 0 30,zF t.c.inst 0 (t.p.count-1),1+zF t.c.side 0 1,t.p.tick*zF t.c.price 0 9,1+zF t.c.qty 0 11,0,0,[]⟩
def fW (c:Cmd):Int:=if c.time.tmod 5=3 then 3 else if c.time.tmod 5=2 then 2 else 1
def cG (c:Cmd) (q:Int):Int:=if c.least.tmod 4=1 then zF c.least 0 q else 0
def xK (t:TmI):Cmd:=
 let h:=y5 t
 if h.kind=1 then{h with id:=t.i+1,time:=fW t.c,least:=cG t.c h.qty,price:=if(t.p.legs h.inst).2.2=ay then h.price-4*t.p.tick else h.price+8*t.p.tick}
 else{h with price:=if h.kind=4 then h.price+5*t.p.tick else h.price,side:=0,inst:=0}
def tameC:Con:=con1 TmI (λt=>[prdV t.p,zGe t.c,zA t.i]) (λ_=>[]) (λt=>t.p.check=0/\t.p.small/\t.c.raw/\0<=t.i/\t.i<=1000000) (λt=>zGe (xK t)) (λ_=>[])
def cj (k:Nat):Nat×SAnn:=(k,{ι:=Cmd,slots:=λ_=>[(7,.nm 0 0)],slots0:=λ_=>[(7,.nm 0 0)],rows0:=λc=>[.cells c.cells 80],rows:=λc=>[.cells c.cells 80]})
def y0p:List (Nat×SAnn):=[cj 14,cj 54,cj 62,cj 70]
def zGf (a:Cmd) (b:Cmd) (c:Cmd->Prop) (d:TmI):Prop:=sb a.label=sb b.label/\c a/\dh (ap (Sx.V.agg [V.d (dI 0),V.d (dI 0),V.d (dI 0),V.d (dI 0),V.d (dI 0),V.d (dI 0),V.d (dI 0),V.d (dI 0),V.d kP]).cl 80)/\dh (ap [V.d (dI d.c.kind),V.d (dI d.c.id),V.d (dI d.c.inst),V.d (dI d.c.side),V.d (dI d.c.price),V.d (dI d.c.qty),V.d (dI d.c.least),V.d (dI d.c.time),V.d (D.v (be (sb d.c.label)))] 80)/\dh (ap [V.d (D.v (be (sb d.p.code))),V.own 0,V.d (dI d.p.tick),V.d (dI d.p.low),V.d (dI d.p.high),V.d (dI d.p.wide),V.d (dI d.p.rule),V.d (dI d.p.top),V.d (dI d.p.least),V.d (dI d.p.part),V.own 1] 25)/\dh (aq 1 (iE d.p.settle))/\dh (aq 1 (iE d.p.months))
def zNu (a:Cmd) (b:Cmd) (c:Cmd->Prop) (d:TmI):Prop:=a.time=b.time/\zGf a b c d
def zNp (a:Cmd) (b:Cmd) (c:Cmd->Prop) (d:TmI):Prop:=a.id=b.id/\a.inst=b.inst/\a.side=b.side/\a.price=b.price/\a.qty=b.qty/\a.least=b.least/\zNu a b c d
def tW (a:Cmd) (b:Cmd->Prop) (c:TmI):Prop:=∃(d:Cmd),d.kind=a.kind/\zNp d a b c
def zIr (a:TmI) (b:WiI) (c:Cmd):Prop:=(xK a).qty=aa.wrap (x6 b)/\(xK a).least=c.least/\(xK a).time=c.time/\sb (xK a).label=sb c.label/\True
def zHp (a:TmI) (b:Cmd):Prop:=(xK a).qty=b.qty/\(xK a).least=b.least/\(xK a).time=b.time/\sb (xK a).label=sb b.label/\True
def yQk (t:TmI):Prop:=
 ∃(a:WiI),a.n=t.c.kind/\a.lo=0/\a.hi=8/\(y4 a)/\∀(b:Unit),True->∃(c:WiI),c.n=t.c.id/\c.lo=0/\c.hi=30/\(y4 c)/\∀(d:Unit),True->∃(e:Cmd),e.kind=aa.wrap (x6 a)/\e.id=aa.wrap (x6 c)/\e.inst=0/\e.side=0/\e.price=0/\e.qty=0/\e.least=0/\e.time=0/\sb e.label=ByteArray.mk #[]/\∃(f:Cmd->Prop),cnd (decide (e.kind>4)) (∃(g:Cmd),g.kind=1/\zNp g e f t) (tW e f t)/\∀(g:Cmd),f g->∃(h:Prd),sb h.code=sb t.p.code/\iE h.months=iE t.p.months/\h.tick=t.p.tick/\h.low=t.p.low/\h.high=t.p.high/\h.wide=t.p.wide/\h.rule=t.p.rule/\h.top=t.p.top/\h.least=t.p.least/\h.part=t.p.part/\iE h.settle=iE t.p.settle/\(yB h)/\∀(j:Unit),True->∃(k:WiI),k.n=t.c.inst/\k.lo=0/\k.hi=aa.wrap ((↑h.count:Int)-1)/\(y4 k)/\∀(l:Unit),True->∃(m:WiI),m.n=t.c.side/\m.lo=0/\m.hi=1/\(y4 m)/\∀(n:Unit),True->∃(p:WiI),p.n=t.c.qty/\p.lo=0/\p.hi=11/\(y4 p)/\∀(q:Unit),True->∃(r:WiI),r.n=t.c.price/\r.lo=0/\r.hi=9/\(y4 r)/\∀(s:Unit),True->dh t.p.tick/\cnd (g.kind==1) (∃(u:Cmd),u.kind=g.kind/\u.id=aa.wrap (t.i+1)/\u.inst=zF k.n k.lo k.hi/\u.side=aa.wrap (x6 m)/\u.price=aa.wrap (t.p.tick*zF r.n r.lo r.hi)/\u.qty=aa.wrap (x6 p)/\u.least=g.least/\u.time=1/\sb u.label=sb g.label/\∃(v:Cmd->Prop),(aa=aa/\(5:Int)≠(0:Int)/\cnd (t.c.time.tmod (5:Int)==(2:Int)) (∃(w:Cmd),w.kind=u.kind/\w.id=u.id/\w.inst=u.inst/\w.side=u.side/\w.price=u.price/\w.qty=u.qty/\w.least=u.least/\w.time=2/\zGf w u v t) (tW u v t))/\∀(w:Cmd),v w->∃(x:Cmd),x.kind=w.kind/\x.id=w.id/\x.inst=w.inst/\x.side=w.side/\x.price=w.price/\x.qty=w.qty/\x.least=w.least/\x.time=w.time/\sb x.label=sb w.label/\∃(y:Cmd->Prop),(aa=aa/\(5:Int)≠(0:Int)/\cnd (t.c.time.tmod (5:Int)==(3:Int)) (∃(z:Cmd),z.kind=x.kind/\z.id=x.id/\z.inst=x.inst/\z.side=x.side/\z.price=x.price/\z.qty=x.qty/\z.least=x.least/\z.time=3/\zGf z x y t) (tW x y t))/\∀(z:Cmd),y z->∃(a_1:Cmd),a_1.kind=z.kind/\a_1.id=z.id/\a_1.inst=z.inst/\a_1.side=z.side/\a_1.price=z.price/\a_1.qty=z.qty/\a_1.least=z.least/\a_1.time=z.time/\sb a_1.label=sb z.label/\∃(a_2:Cmd->Prop),(aa=aa/\(4:Int)≠(0:Int)/\cnd (t.c.least.tmod (4:Int)==(1:Int)) (∃(a_3:WiI),a_3.n=t.c.least/\a_3.lo=0/\a_3.hi=a_1.qty/\(y4 a_3)/\∀(a_4:Unit),True->∃(a_5:Cmd),a_5.kind=a_1.kind/\a_5.id=a_1.id/\a_5.inst=a_1.inst/\a_5.side=a_1.side/\a_5.price=a_1.price/\a_5.qty=a_1.qty/\a_5.least=zF a_3.n a_3.lo a_3.hi/\zNu a_5 a_1 a_2 t) (tW a_1 a_2 t))/\∀(a_3:Cmd),a_2 a_3->∃(a_4:cQ),sb a_4.p.code=sb t.p.code/\iE a_4.p.months=iE t.p.months/\a_4.p.tick=t.p.tick/\a_4.p.low=t.p.low/\a_4.p.high=t.p.high/\a_4.p.wide=t.p.wide/\a_4.p.rule=t.p.rule/\a_4.p.top=t.p.top/\a_4.p.least=t.p.least/\a_4.p.part=t.p.part/\iE a_4.p.settle=iE t.p.settle/\a_4.n=a_3.inst/\(jH a_4)/\∀(a_5:Unit),True->cnd (!(a_4.p.legs a_4.n).snd.snd) (∃(a_6:Unit),(xK t).kind=a_3.kind/\(xK t).id=a_3.id/\(xK t).inst=a_3.inst/\(xK t).side=a_3.side/\(xK t).price=aa.wrap (a_3.price+aa.wrap (8*t.p.tick))/\zHp t a_3) (∃(a_6:Unit),(xK t).kind=a_3.kind/\(xK t).id=a_3.id/\(xK t).inst=a_3.inst/\(xK t).side=a_3.side/\(xK t).price=aa.wrap (a_3.price-aa.wrap (4*t.p.tick))/\zHp t a_3)) (cnd (g.kind==4) (∃(u:Unit),(xK t).kind=g.kind/\(xK t).id=g.id/\(xK t).inst=0/\(xK t).side=0/\(xK t).price=aa.wrap (aa.wrap (t.p.tick*zF r.n r.lo r.hi)+aa.wrap (5*t.p.tick))/\zIr t p g) (∃(u:Unit),(xK t).kind=g.kind/\(xK t).id=g.id/\(xK t).inst=0/\(xK t).side=0/\(xK t).price=aa.wrap (t.p.tick*zF r.n r.lo r.hi)/\zIr t p g))
def y1r (t:TmI) (h:tameC.cnd t):yQk t:=by
 obtain⟨hc,hs,⟨r1,r2,r3,r4,r5,r6,r7,r8⟩,i0,i1⟩:t.p.check=0/\t.p.small/\t.c.raw/\0<=t.i/\t.i<=1000000:=h;have ok:=kF hc;have t1:=ok.t1;have t2:=ok.t2;have m2:=ok.m2;have hcl:=xR t.p;have hcd:=pR hc;have bk:=yR (n:=t.c.kind) (lo:=0) (hi:=8) oM;have bi:=yR (n:=t.c.id) (lo:=0) (hi:=30) oM;have bs:=yR (n:=t.c.side) (lo:=0) (hi:=1) oM;have bq:=yR (n:=t.c.qty) (lo:=0) (hi:=11) oM;have bp:=yR (n:=t.c.price) (lo:=0) (hi:=9) oM;have mb:=eD (a:=t.p.tick) (b:=zF t.c.price 0 9) (m:=1000) (n:=9) oM oM;have wp:aa.wrap (t.p.tick*zF t.c.price 0 9)=t.p.tick*zF t.c.price 0 9:=w64 oM;unfold yQk tW zNp zNu zGf kP zHp zIr x6 y4 yB jH dI;refine⟨⟨t.c.kind,0,8⟩,rfl,rfl,rfl,⟨r1,Z9,Z9,Z9⟩,λ_ _=>⟨⟨t.c.id,0,30⟩,rfl,rfl,rfl,⟨r2,Z9,Z9,Z9⟩,λ_ _=> ?_⟩⟩;dsimp only;rw[w64 (x:=1+zF t.c.kind 0 8) (by omega),w64 (x:=1+zF t.c.id 0 30) (by omega)];refine⟨⟨1+zF t.c.kind 0 8,1+zF t.c.id 0 30,0,0,0,0,0,0,[]⟩,rF8 ⟨rfl,λc=>c=⟨uD t.c,1+zF t.c.id 0 30,0,0,0,0,0,0,[]⟩,zI (λe=>⟨⟨uD t.c,1+zF t.c.id 0 30,0,0,0,0,0,0,[]⟩,?_,rfl,rfl,rfl,rfl,rfl,rfl,rfl,rfl,rfl,k0q⟩) (λe=>⟨⟨uD t.c,1+zF t.c.id 0 30,0,0,0,0,0,0,[]⟩,?_,rfl,rfl,rfl,rfl,rfl,rfl,rfl,rfl,rfl,k0q⟩),λc hcc=> ?_⟩⟩
 ·dsimp only at e ⊢;rw[uD,y5f (by omega)]
 ·dsimp only at e ⊢;rw[uD,y5d (by omega)]
 subst hcc;refine⟨t.p,rF7 (rF3 ⟨rfl,hs,λ_ _=> ?_⟩)⟩;rw[w64 (x:=(t.p.count:Int)-1) (by omega)];refine⟨⟨t.c.inst,0,(t.p.count:Int)-1⟩,rfl,rfl,rfl,⟨r3,Z9,Z9,Z9⟩,λ_ _=>⟨⟨t.c.side,0,1⟩,rfl,rfl,rfl,⟨r4,Z9,Z9,Z9⟩,λ_ _=>⟨⟨t.c.qty,0,11⟩,rfl,rfl,rfl,⟨r6,Z9,Z9,Z9⟩,λ_ _=>⟨⟨t.c.price,0,9⟩,rfl,rfl,rfl,⟨r5,Z9,Z9,Z9⟩,λ_ _=>⟨rfl,?_⟩⟩⟩⟩⟩;dsimp only;rw[wp,w64 (x:=1+zF t.c.side 0 1) (by omega),w64 (x:=1+zF t.c.qty 0 11) (by omega),w64 (x:=t.i+1) (by omega)];refine Cv.cnd.mk (λk=> ?_) (λk=> ?_)
 ·have k:uD t.c=1:=by simpa using k
  refine⟨{y5 t with id:=t.i+1,time:=1},rF8 ⟨rfl,λc=>c={y5 t with id:=t.i+1,time:=if t.c.time.tmod 5=2 then 2 else 1},⟨rfl,Z8,Cv.cnd.mk (λe=>⟨{y5 t with id:=t.i+1,time:=2},rF8 ⟨rfl,?_,k0q⟩⟩) (λe=>⟨{y5 t with id:=t.i+1,time:=1},rF8 ⟨rfl,?_,k0q⟩⟩)⟩,λc hcc=> ?_⟩⟩
  ·have e:t.c.time.tmod 5=2:=by simpa using e
   rw[y5f e]
  ·have e:¬t.c.time.tmod 5=2:=by simpa using e
   rw[y5d e]
  subst hcc;refine⟨{y5 t with id:=t.i+1,time:=if t.c.time.tmod 5=2 then 2 else 1},rF8 ⟨rfl,λc=>c={y5 t with id:=t.i+1,time:=fW t.c},⟨rfl,Z8,Cv.cnd.mk (λe=>⟨{y5 t with id:=t.i+1,time:=3},rF8 ⟨rfl,?_,k0q⟩⟩) (λe=>⟨{y5 t with id:=t.i+1,time:=if t.c.time.tmod 5=2 then 2 else 1},rF8 ⟨rfl,?_,k0q⟩⟩)⟩,λc hcc=> ?_⟩⟩
  ·have e:t.c.time.tmod 5=3:=by simpa using e
   rw[fW,y5f e]
  ·have e:¬t.c.time.tmod 5=3:=by simpa using e
   rw[fW,y5d e]
  subst hcc;have hq:(y5 t).qty=1+zF t.c.qty 0 11:=rfl;refine⟨{y5 t with id:=t.i+1,time:=fW t.c},rF8 ⟨rfl,λc=>c={y5 t with id:=t.i+1,time:=fW t.c,least:=cG t.c (y5 t).qty},⟨rfl,Z8,Cv.cnd.mk (λe=>⟨⟨t.c.least,0,(y5 t).qty⟩,rfl,rfl,rfl,⟨r7,Z9,Z9,Z9⟩,λ_ _=>⟨{y5 t with id:=t.i+1,time:=fW t.c,least:=zF t.c.least 0 (y5 t).qty},rF8 ⟨rfl,?_,k0q⟩⟩⟩) (λe=>⟨{y5 t with id:=t.i+1,time:=fW t.c},rF8 ⟨rfl,?_,k0q⟩⟩)⟩,λc hcc=> ?_⟩⟩
  ·have e:t.c.least.tmod 4=1:=by simpa using e
   rw[cG,y5f e]
  ·have e:¬t.c.least.tmod 4=1:=by simpa using e
   rw[cG,y5d e];rfl
  subst hcc;refine⟨⟨t.p,(y5 t).inst⟩,rF8 (rF3 ⟨rfl,hs,λ_ _=> ?_⟩)⟩;dsimp only;have hp:(y5 t).price=t.p.tick*zF t.c.price 0 9:=rfl;have hk1:(y5 t).kind=1:=k;rw[w64 (x:=8*t.p.tick) (by omega),w64 (x:=4*t.p.tick) (by omega),w64 (x:=(y5 t).price+8*t.p.tick) (by omega),w64 (x:=(y5 t).price-4*t.p.tick) (by omega)];refine Cv.cnd.mk (λe=>⟨(),?_⟩) (λe=>⟨(),?_⟩)
  ·have e:(t.p.legs (y5 t).inst).2.2=az:=by simpa using e
   have:xK t={y5 t with id:=t.i+1,time:=fW t.c,least:=cG t.c (y5 t).qty,price:=(y5 t).price+8*t.p.tick}:=by
    simp only[xK,hk1,if_true,e,y5x,if_false]
   rw[this];(repeat'(first|exact trivial|exact rfl|apply am))
  ·have e:(t.p.legs (y5 t).inst).2.2=ay:=by simpa using e
   have:xK t={y5 t with id:=t.i+1,time:=fW t.c,least:=cG t.c (y5 t).qty,price:=(y5 t).price-4*t.p.tick}:=by
    simp only[xK,hk1,if_true,e]
   rw[this];(repeat'(first|exact trivial|exact rfl|apply am))
 ·have k:¬uD t.c=1:=by simpa using k
  have k:¬(y5 t).kind=1:=k;rw[w64 (x:=5*t.p.tick) (by omega),w64 (x:=t.p.tick*zF t.c.price 0 9+5*t.p.tick) (by omega)];have et:xK t={y5 t with price:=if(y5 t).kind=4 then(y5 t).price+5*t.p.tick else(y5 t).price,side:=0,inst:=0}:=by
   simp only[xK,k,if_false]
  rw[et];refine Cv.cnd.mk (λe=>⟨(),?_⟩) (λe=>⟨(),?_⟩)
  ·have e:uD t.c=4:=by simpa using e
   have e:(y5 t).kind=4:=e;simp only[y5f e];(repeat'(first|exact trivial|exact rfl|apply am))
  ·have e:¬uD t.c=4:=by simpa using e
   have e:¬(y5 t).kind=4:=e;simp only[y5d e];(repeat'(first|exact trivial|exact rfl|apply am))
def yMw:tameC.ok Tryz.prog 51:=okw mixed (gokc within_ok (gokc z1u (gokc yBw gok0))) 0 (λ_=>y0p) (λ_=>[]) [] Tryz.func51 y1r
structure ShI where
 a:Int
 b:Int
 c:Int
def add64C:Con:=con1 ShI (λi=>[tU i.a,tU i.b,tU i.c]) (λ_=>[]) (λi=>0<=i.a/\0<=i.b/\0<=i.c/\i.c<=1) (λi=> .tup [tU ((i.a+i.b+i.c) % 18446744073709551616),tU ((i.a+i.b+i.c) / 18446744073709551616)]) (λ_=>[])
def yCk {P : Program} {f : FuncId} {fn : Func} (hf : P.funcs[f]? = some fn) (hname : (fn.name == "runtime.NumGoroutine") = false) (hb : fn.body.isNone = true) (hn : Extern.findNext fn = none) (he : Extern.find fn = some add64Entry) : add64C.ok P f := by
 intro i hc k L E w ys R hv;obtain⟨h1,h2,h3,h4⟩:0<=i.a/\0<=i.b/\0<=i.c/\i.c<=1:=hc;simp only[add64C,con1,VRL,VR,DR]at hv;obtain⟨_,_,rfl,⟨rfl,_⟩,_,_,rfl,⟨rfl,_⟩,_,_,rfl,⟨rfl,_⟩,rfl⟩:=hv;unfold Does;rw[run_callFunc_extern hf hname hb hn he,run_add64 i.a i.b i.c h1 h2 h3 h4];simp only[Result.andThen];refine⟨_,y6p.2 rfl,(),trivial,E,Ev.le.refl _,?_,R⟩;simp only[add64C,con1,VR,VRL,DR];exact⟨_,rfl,_,_,rfl,⟨rfl,rfl⟩,_,_,rfl,⟨rfl,rfl⟩,rfl⟩
def yAr:add64C.ok Tryz.prog 328:=by
 refine yCk (P:=Tryz.prog) (f:=328) (fn:=Tryz.f328) Tryz.func328 ?_ ?_ ?_ ?_
 ·kernel_rfl
 ·kernel_rfl
 ·kernel_rfl
 ·kernel_rfl
structure M2 where
 a:Int
 b:Int
def mul64C:Con:=con1 M2 (λi=>[tU i.a,tU i.b]) (λ_=>[]) (λi=>0<=i.a/\i.a<=2000000000/\0<=i.b/\i.b<=2000000000) (λi=> .tup [tU 0,tU (i.a*i.b)]) (λ_=>[])
def div64C:Con:=con1 M2 (λi=>[tU 0,tU i.a,tU i.b]) (λ_=>[]) (λi=>0<=i.a/\i.a<=4000000000000000000/\1<=i.b/\i.b<=2000000000) (λi=> .tup [tU (i.a / i.b),tU (i.a % i.b)]) (λ_=>[])
def ishareC:Con:=con1 ShI (λi=>[zA i.a,zA i.b,zA i.c]) (λ_=>[]) (λi=>0<=i.a/\i.a<=2000000000/\0<=i.b/\i.b<=2000000000/\1<=i.c/\i.c<=2000000000) (λi=> .tup [zA (i.a*i.b / i.c),yX ay]) (λ_=>[])
def isumC:Con:=con1 (List Int) (λl=>[iV l]) (λ_=>[]) (λl=>l.length<=1000/\∀x∈l,0<=x/\x<=1000000) (λl=> .tup [zA l.sum,yX ay]) (λ_=>[])
def y0a (l:List Int):List SAnn:=[{ι:=Nat,slots:=λj=>[(4,tU (l.take j).sum),(5,zA 0),(11,zA j)],rows:=λ_=>[]}]
structure LqI where
 l:List Int
 q:Int
def yW (l:List Int) (q:Int):Bool:=decide (l.length<=250) && decide (0<=q) && l.all (λn=>decide (1<=n) && decide (n<=1000000)) && decide (q<=l.sum)
def rightC:Con:=con1 LqI (λi=>[iV i.l,zA i.q]) (λ_=>[]) (λi=>i.l.length<=1000000/\yU i.q) (λi=>yX (yW i.l i.q)) (λ_=>[])
def yUm (i:LqI):List SAnn:=[{ι:=Nat,slots:=λj=>[(5,zA (i.l.take j).sum),(17,zA j)],rows:=λ_=>[]}]
def u0:List Int->Int->List Int
 |[],_=>[]
 |n::l,q=>min n q::u0 l (q-min n q)
def hP (l:List Int) (q:Int):List Int:=if yW l q=ay then u0 l q else[]
def fifoC:Con:=con1 LqI (λi=>[iV i.l,zA i.q]) (λ_=>[]) (λi=>i.l.length<=1000000/\yU i.q) (λ_=> .own 0) (λi=>[.own 2 1 (iE (hP i.l i.q))])
def y1g (i:LqI):List SAnn:=[{ι:=Nat,slots:=λj=>[(5,.own 0),(1,zA (i.q-((u0 i.l i.q).take j).sum)),(15,zA j)],rows:=λj=>[.own 2 1 (iE ((u0 i.l i.q).take j))]}]
def zCl (a:M2):=(ab.wrap (ab.wrap (bQ ab a.a 32*zCk ab a.b 4294967295)+bQ ab (ab.wrap (zCk ab a.a 4294967295*zCk ab a.b 4294967295)) 32))
def yDx (i:M2):Prop:=
 (0:Int)<=(32:Int)/\(0:Int)<=(32:Int)/\(0:Int)<=(32:Int)/\(0:Int)<=(32:Int)/\(0:Int)<=(32:Int)/\∃(a:Unit),0=ab.wrap (ab.wrap (ab.wrap (bQ ab i.a 32*bQ ab i.b 32)+bQ ab (zCl i) 32)+bQ ab (ab.wrap (zCk ab (zCl i) 4294967295+ab.wrap (zCk ab i.a 4294967295*bQ ab i.b 32))) 32)/\i.a*i.b=ab.wrap (i.a*i.b)/\True
def yJg (i:M2):Prop:=
 cnd (i.b==0) False (cnd (decide (i.b<=0)) False (ab=ab/\i.b≠0/\ab=ab/\i.b≠0/\∃(a:Unit),i.a / i.b=ab.wrap (i.a.tdiv i.b)/\i.a % i.b=i.a.tmod i.b/\True))
def z9k (i:ShI):Prop:=
 cnd (decide (i.a<0)) (∃(a:Unit),i.a*i.b / i.c=0/\ay=az/\True) (cnd (decide (i.b<0)) (∃(a:Unit),i.a*i.b / i.c=0/\ay=az/\True) (cnd (decide (i.c<1)) (∃(a:Unit),i.a*i.b / i.c=0/\ay=az/\True) (∃(a:M2),a.a=ab.wrap i.a/\a.b=ab.wrap i.b/\(0<=a.a/\a.a<=(2000000000:Int)/\(0:Int)<=a.b/\a.b<=2000000000)/\∀(b:Unit),True->cnd (decide (0>=ab.wrap i.c)) (∃(c:Unit),i.a*i.b / i.c=0/\ay=az/\True) (∃(c:M2),dh ((0:Int))/\c.a=a.a*a.b/\c.b=ab.wrap i.c/\(0<=c.a/\c.a<=(4000000000000000000:Int)/\(1:Int)<=c.b/\c.b<=2000000000)/\∀(d:Unit),True->cnd (decide (c.a / c.b>9223372036854775807)) (∃(e:Unit),i.a*i.b / i.c=0/\ay=az/\True) (∃(e:Unit),i.a*i.b / i.c=aa.wrap (c.a / c.b)/\ay=ay/\True)))))
def yRz (l:List Int):Prop:=
 ∃(a:Nat),(ae a l).sum=(0:Int)/\(0:Int)=0/\(↑a:Int)=0/\∃(b:Nat->Prop),∃(c:Nat->Nat),b a/\∀(d:Nat),b d->cnd (decide ((↑d:Int)<(↑(iE l).length:Int))) ((0<=(↑d:Int)/\(↑d:Int)<(↑(iE l).length:Int))/\∃(e:Int),zE (iE l) (↑d:Int).toNat 0 1=bg [dI e]/\∃(f:ShI),f.a=(ae d l).sum/\f.b=ab.wrap e/\f.c=0/\(0<=f.a/\0<=f.b/\0<=f.c/\f.c<=1)/\∀(g:Unit),True->(0:Int)<=(63:Int)/\∃(h:Nat),(ae h l).sum=(f.a+f.b+f.c) % (18446744073709551616:Int)/\(0:Int)=aa.wrap (0+aa.wrap (bQ aa e 63+aa.wrap ((f.a+f.b+f.c) / (18446744073709551616:Int))))/\kO h d b c) ((0:Int)<=(63:Int)/\cnd (0 !=bQ aa (aa.wrap (ae d l).sum) 63) (∃(e:Unit),l.sum=0/\ay=az/\True) (∃(e:Unit),l.sum=aa.wrap (ae d l).sum/\ay=ay/\True))
def yHh (i:LqI):Prop:=
 cnd (decide ((↑(iE i.l).length:Int)>250)) (∃(a:Unit),yW i.l i.q=az/\True) (cnd (decide (i.q<0)) (∃(a:Unit),yW i.l i.q=az/\True) (∃(a:Nat),(ae a i.l).sum=0/\(↑a:Int)=0/\∃(b:Nat->Prop),∃(c:Nat->Nat),b a/\∀(d:Nat),b d->cnd (decide ((↑d:Int)<(↑(iE i.l).length:Int))) ((0<=(↑d:Int)/\(↑d:Int)<(↑(iE i.l).length:Int))/\∃(e:Int),zE (iE i.l) (↑d:Int).toNat 0 1=bg [dI e]/\cnd (decide (e<1)) (∃(f:Unit),yW i.l i.q=az/\True) (cnd (decide (e>1000000)) (∃(f:Unit),yW i.l i.q=az/\True) (∃(f:Nat),(ae f i.l).sum=aa.wrap ((ae d i.l).sum+e)/\kO f d b c))) (∃(e:Unit),yW i.l i.q=decide (i.q<=(ae d i.l).sum)/\True)))
def wH (a:LqI):Prop:=a.l.length<=(1000000:Nat)/\(-9223372036854775808:Int)<=a.q/\a.q<=9223372036854775807
def wG (a:Nat) (b:LqI):=(ae a (u0 b.l b.q))
def yPy (i:LqI):Prop:=
 ∃(a:LqI),iE a.l=iE i.l/\a.q=i.q/\(wH a)/\∀(b:Unit),True->cnd (!yW a.l a.q) (∃(c:Unit),iE (hP i.l i.q)=[]/\True) (∃(c:Nat),i.q-(wG c i).sum=i.q/\(↑c:Int)=0/\iE (wG c i)=[]/\∃(d:Nat->Prop),∃(e:Nat->Nat),d c/\∀(f:Nat),d f->cnd (decide ((↑f:Int)<(↑(iE i.l).length:Int))) ((0<=(↑f:Int)/\(↑f:Int)<(↑(iE i.l).length:Int))/\∃(g:Int),zE (iE i.l) (↑f:Int).toNat 0 1=bg [dI g]/\((iE (wG f i)).length+1)*(8:Nat)<=(140737488355328:Nat)/\∃(h:Nat),i.q-(wG h i).sum=aa.wrap (i.q-(wG f i).sum-min g (i.q-(wG f i).sum))/\(↑h:Int)=aa.wrap ((↑f:Int)+1)/\iE (wG h i)=iE (wG f i)++[[dI (min g (i.q-(wG f i).sum))]]/\d h/\e h<e f/\True) (∃(g:Unit),iE (hP i.l i.q)=iE (wG f i)/\True))
end Sx
