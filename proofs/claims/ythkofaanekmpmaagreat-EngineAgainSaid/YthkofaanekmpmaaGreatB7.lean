/- Texts of ours. No condition. -/
import Derived.Test.YthkofaanekmpmaaGreatB6
set_option linter.all false
open List renaming map->aa,take->ab,replicate->ac,getElem?_modify->ae,drop->af,range->ag,length_erase_of_mem->aj,getElem?_replicate->ak,pairwise_append->am,map_singleton->ao
open Go.IntKind renaming i64->ap,u64->aq
open Option renaming some->ar,none->au
open Bool renaming true->av,false->aw
open Sx.AObj renaming own->ax,cells->ay,fro->az,adt->ba,map->bc
open Go.Builtin renaming zeroCells->be,firstCells->bg,append_->bo
open Exists renaming intro->bu
open And renaming intro->bv
open Go renaming World->bz,TypeId->cd,Program->ce,Value->cf,size_zeroCells->cg,Addr->ci
namespace Sx
set_option maxRecDepth 100000
open Go Cv Go.Proofs
def zUh {x:Int} (h0:0<=x) (h1:x<4294967296):zCk .u64 x 4294967295=x:=by
 have e:zCk .u64 x 4294967295=aq.wrap ((BitVec.ofInt 64 x &&& BitVec.ofInt 64 4294967295).toNat:Int):=rfl;obtain⟨n,rfl⟩:=Int.eq_ofNat_of_zero_le h0;have hn:n<4294967296:=by omega
 rw[e,BitVec.toNat_and,BitVec.ofInt_natCast,BitVec.toNat_ofNat,show(BitVec.ofInt 64 4294967295).toNat=2 ^ 32-1 by decide,Nat.and_two_pow_sub_one_eq_mod];rw[show n % 2 ^ 64 % 2 ^ 32=n by omega,zBn (by omega)]
def zLo {x:Int} (h0:0<=x) (h1:x<4294967296):bQ .u64 x 32=0:=by
 have:=zAj .u64 x 32 Z8;rw[show((32:Nat):Int)=32 by rfl]at this;rw[this];omega
def z6c {a b m n:Int} (ha:0<=a/\a<=m) (hb:0<=b/\b<=n):0<=a*b/\a*b<=m*n:=
 ⟨xBk ha.1 hb.1,Int.mul_le_mul ha.2 hb.2 hb.1 oM⟩
def ySf (i:M2) (h:mul64C.cnd i):yDx i:=by
 obtain⟨h1,h2,h3,h4⟩:0<=i.a/\i.a<=2000000000/\0<=i.b/\i.b<=2000000000:=h;have hm:=z6c ⟨h1,h2⟩ ⟨h3,h4⟩;have hs:bQ aq (i.a*i.b) 32=(i.a*i.b) / 4294967296:=by
  have:=zAj .u64 (i.a*i.b) 32 Z8;rw[show((32:Nat):Int)=32 by rfl]at this;exact this
 unfold yDx zCl;refine⟨Z8,Z8,Z8,Z8,Z8,(),?_,?_,trivial⟩
 ·rw[zUh h1 (by omega),zUh h3 (by omega),zLo h1 (by omega),zLo h3 (by omega),zBn (x:=i.a*i.b) (by omega),hs];simp only[Int.zero_mul,Int.mul_zero,Int.zero_add,Int.add_zero];rw[zBn (x:=0) (by omega)];simp only[Int.zero_add,Int.add_zero];rw[zBn (x:=i.a*i.b / 4294967296) (by omega),zLo (x:=i.a*i.b / 4294967296) (by omega) (by omega),zUh (x:=i.a*i.b / 4294967296) (by omega) (by omega),zBn (x:=i.a*i.b / 4294967296) (by omega),zLo (x:=i.a*i.b / 4294967296) (by omega) (by omega)];rfl
 ·rw[zBn (by omega)]
def yEu:mul64C.ok Tryz.prog 313:=okw mixed gok0 0 (λ_=>[]) (λ_=>[]) [] Tryz.func313 ySf
def ySy (i:M2) (h:div64C.cnd i):yJg i:=by
 obtain⟨h1,h2,h3,h4⟩:0<=i.a/\i.a<=4000000000000000000/\1<=i.b/\i.b<=2000000000:=h;unfold yJg;have hd:0<=i.a / i.b/\i.a / i.b<=i.a:=⟨Int.ediv_nonneg h1 oM,Int.ediv_le_self _ h1⟩
 refine Cv.cnd.mk (λc=>absurd (eq_of_beq c) oM) (λ_=>zI (λc=>by omega) (λ_=>⟨rfl,oM,rfl,oM,(),?_,?_,trivial⟩))
 ·rw[Int.tdiv_eq_ediv_of_nonneg h1,zBn (by omega)]
 ·rw[Int.tmod_eq_emod_of_nonneg h1]
def yJf:div64C.ok Tryz.prog 314:=okw mixed gok0 0 (λ_=>[]) (λ_=>[]) [] Tryz.func314 ySy
def yLx (i:ShI) (h:ishareC.cnd i):z9k i:=by
 obtain⟨h1,h2,h3,h4,h5,h6⟩:0<=i.a/\i.a<=2000000000/\0<=i.b/\i.b<=2000000000/\1<=i.c/\i.c<=2000000000:=h;have hm:=z6c ⟨h1,h2⟩ ⟨h3,h4⟩;have hd:0<=i.a*i.b / i.c/\i.a*i.b / i.c<=i.a*i.b:=⟨Int.ediv_nonneg hm.1 oM,Int.ediv_le_self _ hm.1⟩
 unfold z9k;rw[zBn (x:=i.a) (by omega),zBn (x:=i.b) (by omega),zBn (x:=i.c) (by omega)];refine zI (λc=>by omega) (λ_=>zI (λc=>by omega) (λ_=>zI (λc=>by omega) (λ_=>⟨⟨i.a,i.b⟩,rfl,rfl,⟨h1,h2,h3,h4⟩,λ_ _=>zI (λc=>by omega) (λ_=>⟨⟨i.a*i.b,i.c⟩,rfl,rfl,rfl,⟨hm.1,Z9,h5,h6⟩,λ_ _=>zI (λc=>by dsimp only at c;omega) (λ_=>⟨(),?_,rfl,trivial⟩)⟩)⟩)));rw[w64 (by dsimp only;omega)]
def zQu:ishareC.ok Tryz.prog 307:=okw mixed (gokc yEu (gokc yJf gok0)) 0 (λ_=>[]) (λ_=>[]) [] Tryz.func307 yLx
def wjn {j:Nat} (h:j<=1000000):((j+1:Nat):Int)=ap.wrap ((j:Int)+1):=by rw[w64 (by omega)];rfl
def jV {l:List Int} {j:Nat} {x:Int} (h:l[j]? =ar x):(l.take (j+1)).sum=(l.take j).sum+x:=by
 rw[y6m,h];simp
def jQ {l:List Int} (h:∀x∈l,0<=x/\x<=1000000):∀j:Nat,0<=(l.take j).sum/\(l.take j).sum<=1000000*j
 |0=>by simp
 |j+1=>by
  have ih:=jQ h j;cases hx:l[j]? with
  |none=>
   have:l.take (j+1)=l.take j:=by
    rw[y6m,hx];simp
   rw[this];omega
  |some x=>
   have:=h x (y5o hx);rw[jV hx];omega
def yZn (l:List Int) (h:isumC.cnd l):yRz l:=by
 obtain⟨hl,hb⟩:l.length<=1000/\∀x∈l,0<=x/\x<=1000000:=h;unfold yRz kO dI;simp only[y3];refine⟨0,by(first|exact rfl|exact trivial),by(first|exact rfl|exact trivial),by(first|exact rfl|exact trivial),λj=>j<=l.length,λj=>l.length-j,y6l _,λj hj=>zI (λc=> ?_) (λc=> ?_)⟩
 ·have hj':j<l.length:=by omega
  obtain⟨x,hx⟩:=yE (l:=l) (i:=j) hj';have bx:=hb x (y5o hx);have bs:=jQ hb j;refine⟨⟨oM,oM⟩,x,elI hx,⟨(l.take j).sum,x,0⟩,rfl,by rw[zBn (by omega)],rfl,⟨bs.1,bx.1,Z9,Z9⟩,λ_ _=>⟨Z8,j+1,?_,?_,wjn oM,hj',Z9,trivial⟩⟩
  ·rw[jV hx];dsimp only;omega
  ·have e:bQ ap x 63=x / 9223372036854775808:=by
    have:=zAj .i64 x 63 Z8;rw[show((63:Nat):Int)=63 by rfl]at this;exact this
   dsimp only;rw[e,show x / 9223372036854775808=0 by omega,show((l.take j).sum+x+0) / 18446744073709551616=0 by omega];rfl
 ·have hj':j=l.length:=by omega
  subst hj';have bs:=jQ hb l.length;rw[y8c]at bs;have e:bQ ap l.sum 63=l.sum / 9223372036854775808:=by
   have:=zAj .i64 l.sum 63 Z8;rw[show((63:Nat):Int)=63 by rfl]at this;exact this
  rw[y8c,w64 (x:=l.sum) (by omega),e,show l.sum / 9223372036854775808=0 by omega];exact⟨Z8,Cv.cnd.mk (λc=>absurd c Z8) (λ_=>⟨(),by(first|exact rfl|exact trivial),by(first|exact rfl|exact trivial),trivial⟩)⟩
def yMf:isumC.ok Tryz.prog 319:=okw mixed (gokc yAr gok0) 0 (λ_=>[]) (λl=>y0a l) [] Tryz.func319 yZn
def yVf (i:LqI) (h:rightC.cnd i):yHh i:=by
 obtain⟨hl,hq⟩:i.l.length<=1000000/\yU i.q:=h;unfold yHh kO dI;simp only[y3];refine zI (λc=>⟨(),?_,trivial⟩) (λc1=>zI (λc=>⟨(),?_,trivial⟩) (λc2=> ?_))
 ·rw[yW,y5q (by omega:¬i.l.length<=250)];rfl
 ·rw[yW,y5q (by omega:¬0<=i.q)];simp
 refine⟨0,by(first|exact rfl|exact trivial),by(first|exact rfl|exact trivial),λj=>j<=i.l.length/\∀k<j,∀x,i.l[k]? =ar x->1<=x/\x<=1000000,λj=>i.l.length-j,⟨y6l _,λk hk=>absurd hk (Nat.not_lt_zero k)⟩,λj hj=>zI (λc=> ?_) (λc=> ?_)⟩
 ·obtain⟨hj0,hjb⟩:=hj;have hj':j<i.l.length:=by omega
  obtain⟨x,hx⟩:=yE (l:=i.l) (i:=j) hj';have bad (hn:¬(1<=x/\x<=1000000)):yW i.l i.q=aw:=by
   have:(i.l.all λn=>decide (1<=n) && decide (n<=1000000))=aw:=by
    rw[List.all_eq_false];exact⟨x,y5o hx,by simpa using hn⟩
   rw[yW,this];simp
  have bs:0<=(i.l.take j).sum/\(i.l.take j).sum<=1000000*j:=by
   have:=jQ (l:=i.l.take j) (λy hy=>by
    obtain⟨k,hk⟩:=y7v.1 hy;have hkj:k<j:=by
     have:=(y5h.1 hk).1;rw[y5v]at this;omega
    rw[List.getElem?_take_of_lt hkj]at hk;have:=hjb k hkj y hk;omega) j
   rwa [List.take_take,Nat.min_self]at this
  refine⟨⟨oM,oM⟩,x,elI hx,zI (λd=>⟨(),bad oM,trivial⟩) (λd=>zI (λe=>⟨(),bad oM,trivial⟩) (λe=>⟨j+1,?_,wjn oM,⟨hj',λk hk y hy=> ?_⟩,Z9,trivial⟩))⟩
  ·rw[jV hx,w64 (by omega)]
  ·by_cases hkj:k=j
   ·rw[hkj,hx]at hy;cases hy;omega
   ·exact hjb k oM y hy
 ·obtain⟨hj0,hjb⟩:=hj;have hj':j=i.l.length:=by omega
  subst hj';have:(i.l.all λn=>decide (1<=n) && decide (n<=1000000))=av:=by
   rw[y8j];intro y hy;obtain⟨k,hk⟩:=y7v.1 hy;have:=hjb k ((y5h.1 hk).1) y hk;simpa using this
  refine⟨(),?_,trivial⟩;rw[yW,this,y5u (by omega:i.l.length<=250),y5u (by omega:0<=i.q),y8c];rfl
def zFq:rightC.ok Tryz.prog 305:=okw mixed gok0 0 (λ_=>[]) (λi=>yUm i) [] Tryz.func305 yVf
def jE {l:List Int} {q:Int} (h:yW l q=av):l.length<=250/\0<=q/\(∀x∈l,1<=x/\x<=1000000)/\q<=l.sum:=by
 simp only[yW,y5r,y6s,y8j]at h;exact⟨h.1.1.1,h.1.1.2,h.1.2,h.2⟩
def zLb {l:List Int} {q:Int} (h:yW l q=av):q<=250000000:=by
 obtain⟨h1,h2,h3,h4⟩:=jE h;have:=jQ (l:=l) (λx hx=>by have:=h3 x hx;omega) l.length;rw[y8c]at this;omega
def lS:∀(l:List Int) (q:Int),(u0 l q).length=l.length
 |[],_=>rfl
 |n::l,q=>by rw[u0,y5i,y5i,lS l]
def zPw:∀(l:List Int) (q:Int) (j:Nat) (n:Int),l[j]? =ar n->(u0 l q)[j]? =ar (min n (q-((u0 l q).take j).sum))
 |[],_,_,_,h=>by simp at h
 |m::l,q,0,n,h=>by simp at h;subst h;simp[u0]
 |m::l,q,j+1,n,h=>by
  rw[y7c]at h;rw[u0,y7c,zPw l _ j n h,y6o,y6t];congr 2;omega
def zHd:∀(l:List Int) (q:Int) (j:Nat),0<=q->(∀x∈l,0<=x)->0<=q-((u0 l q).take j).sum/\q-((u0 l q).take j).sum<=q
 |[],q,j,h,_=>by simp[u0,h]
 |m::l,q,0,h,_=>by simp[h]
 |m::l,q,j+1,h,hb=>by
  have hm:=hb m y5j;have:=zHd l (q-min m q) j oM (λx hx=>hb x (y5l _ hx));rw[u0,y6o,y6t];omega
def y2m (i:LqI) (h:fifoC.cnd i):yPy i:=by
 obtain⟨hl,hq⟩:i.l.length<=1000000/\yU i.q:=h;unfold yPy wG wH dI;refine⟨i,rfl,rfl,⟨hl,hq⟩,λ_ _=>Cv.cnd.mk (λc=> ?_) (λc=> ?_)⟩
 ·have c:yW i.l i.q=aw:=by simpa using c
  refine⟨(),?_,trivial⟩;rw[hP,y5d (by rw[c];decide)];rfl
 have c:yW i.l i.q=av:=by simpa using c
 obtain⟨h1,h2,h3,h4⟩:=jE c;have hq2:=zLb c;have h3':∀x∈i.l,0<=x:=λx hx=>by have:=h3 x hx;omega
 simp only[y3];refine⟨0,by simp,rfl,rfl,λj=>j<=i.l.length,λj=>i.l.length-j,y6l _,λj hj=>zI (λd=> ?_) (λd=> ?_)⟩
 ·have hj':j<i.l.length:=by omega
  obtain⟨x,hx⟩:=yE (l:=i.l) (i:=j) hj';have bx:=h3 x (y5o hx);have g:=zPw i.l i.q j x hx;have r:=zHd i.l i.q j h2 h3';refine⟨⟨oM,oM⟩,x,elI hx,by rw[y5v];omega,j+1,?_,wjn oM,?_,hj',Z9,trivial⟩
  ·rw[jV g,w64 (by omega)];omega
  ·rw[y6m,g];simp[iE]
 ·have hj':j=i.l.length:=by omega
  subst hj';refine⟨(),?_,trivial⟩;rw[hP,y5f c,y5p (by rw[lS];omega)]
def z8m:fifoC.ok Tryz.prog 286:=okw mixed (gokc zFq gok0) 0 (λ_=>[]) (λi=>y1g i) [] Tryz.func286 y2m
structure Ent where
 slot:Int
 id:Int
 qty:Int
 top:Bool
 deriving DecidableEq
def yYv:Ent:=⟨0,0,0,aw⟩
def zKl (e:Ent):List D:=[.v (.int .i64 e.slot),.v (.int .i64 e.id),.v (.int .i64 e.qty),.v (.bool e.top)]
@[reducible] def y4a (e:Ent):V:= .agg [zA e.slot,zA e.id,zA e.qty,yX e.top]
def Slot.ent (s:Slot):Ent:=⟨s.n,s.id,s.qty,s.top⟩
def Arena.slotAt (a:Arena) (k:Nat):Slot:=a.slots.getD k slot0
def Arena.getF (a:Arena) (n:Int):Ent×Bool:=if a.usedAt n=av then((a.slotAt n.toNat).ent,av)else(yYv,aw)
def agetC:Con:=con1 ArN (λi=>[.nm 0 0,zA i.n]) (λi=>[jX i.a]) (λi=>i.a.slots.length<=1000000) (λi=> .tup [y4a (i.a.getF i.n).1,yX (i.a.getF i.n).2]) (λi=>[jX i.a])
def zXg (sl:List Slot):Int->List Nat->Prop
 |at_,[]=>at_= -1
 |at_,k::l=>at_=k/\k<sl.length/\zXg sl (sl.getD k slot0).back l
structure ArL where
 a:Arena
 n:Int
 l:List Nat
def tR (l:List Nat) (j:Nat):Int:=match l[j]? with
 |some k=>k
 |none=> -1
def Arena.ents (a:Arena) (l:List Nat):List Ent:=l.map λk=>(a.slotAt k).ent
structure Arena.listOk (a:Arena) (n:Int) (l:List Nat):Prop where
 len:l.length<=1000000
 ch:if 0<=n/\n<a.queues.length then zXg a.slots (a.queues.getD n.toNat mK).first l else l=[]
def alistC:Con:=con1 ArL (λi=>[.nm 0 0,zA i.n]) (λi=>[jX i.a]) (λi=>i.a.listOk i.n i.l) (λ_=> .own 1) (λi=>[jX i.a,.own 326 4 ((i.a.ents i.l).map zKl)])
def yWe (i:ArL):List SAnn:=[{ι:=Nat,slots:=λj=>[(5,.own 0),(6,zA (tR i.l j))],rows:=λj=>[.own 326 4 ((i.a.ents (i.l.take j)).map zKl)]}]
structure TkI where
 a:Arena
 n:Int
 qty:Int
def Arena.dropF (a:Arena) (k:Nat):Arena:=
 let s:=a.slotAt k
 let q:=a.queues.getD s.queue.toNat mK
 let sl1:=if s.ahead= -1 then a.slots else a.slots.modify s.ahead.toNat λx=>{x with back:=s.back}
 let sl2:=if s.back= -1 then sl1 else sl1.modify s.back.toNat λx=>{x with ahead:=s.ahead}
 ⟨sl2.set k slot0,a.queues.set s.queue.toNat ⟨if s.ahead= -1 then s.back else q.first,if s.back= -1 then s.ahead else q.last,q.total,ap.wrap (q.count-1)⟩,ap.wrap (a.free+1)⟩
def Arena.less (a:Arena) (k:Nat) (qty:Int):Arena:=
 {a with slots:=a.slots.modify k λs=>{s with qty:=s.qty-qty},queues:=a.queues.modify (a.slotAt k).queue.toNat λq=>{q with total:=ap.wrap (q.total-qty)}}
def Arena.takeF (a:Arena) (n qty:Int):Arena×Int:=
 if a.usedAt n=aw then(a,26)else if qty<1\/(a.slotAt n.toNat).qty<qty then(a,24)
 else if(a.slotAt n.toNat).qty=qty then((a.less n.toNat qty).dropF n.toNat,0)else(a.less n.toNat qty,0)
def Arena.okAt (a:Arena):Prop:=a.slots.length<=1000000/\∀(k:Nat) (s:Slot),a.slots[k]? =ar s->s.used=av->(0<=s.queue/\s.queue<a.queues.length)/\s.qty<=1000000/\(s.ahead= -1\/(0<=s.ahead/\s.ahead<a.slots.length/\s.ahead≠k))/\(s.back= -1\/(0<=s.back/\s.back<a.slots.length/\s.back≠k))
def atakeC:Con:=con1 TkI (λi=>[.nm 0 0,zA i.n,zA i.qty]) (λi=>[jX i.a]) (λi=>i.a.okAt) (λi=>zA (i.a.takeF i.n i.qty).2) (λi=>[jX (i.a.takeF i.n i.qty).1])
def lX (a:ArN):Prop:=∃(b:Unit),(a.a.getF a.n).fst.slot=0/\(a.a.getF a.n).fst.id=0/\(a.a.getF a.n).fst.qty=0/\(a.a.getF a.n).fst.top=aw/\(a.a.getF a.n).snd=aw/\jO a
def yRj (i:ArN):Prop:=
 cnd (decide (i.n<0)) (lX i) (cnd (decide (i.n>=(↑(aa zQ i.a.slots).length:Int))) (lX i) ((0<=i.n/\i.n<(↑(aa zQ i.a.slots).length:Int))/\∃(a:Bool),zE (aa zQ i.a.slots) i.n.toNat 0 1=ar [D.v (.bool a)]/\cnd (!a) (lX i) ((0<=i.n/\i.n<(↑(aa zQ i.a.slots).length:Int))/\∃(b:Int),∃(c:Int),∃(d:Int),∃(e:Bool),zE (aa zQ i.a.slots) i.n.toNat 1 4=ar [dI b,dI c,dI d,D.v (.bool e)]/\∃(f:Unit),(i.a.getF i.n).fst.slot=b/\(i.a.getF i.n).fst.id=c/\(i.a.getF i.n).fst.qty=d/\(i.a.getF i.n).fst.top=e/\(i.a.getF i.n).snd=av/\jO i)))
def zDa (a:ArL):Prop:=∃(b:Unit),dh a.a.free/\dh (aa zQ a.a.slots)/\dh (aa zO a.a.queues)/\aa zKl (a.a.ents a.l)=[]/\True
def yKa (i:ArL):Prop:=
 cnd (decide (i.n>=0)) (cnd (!decide (i.n<(↑(aa zO i.a.queues).length:Int))) (zDa i) ((0<=i.n/\i.n<(↑(aa zO i.a.queues).length:Int))/\∃(a:Int),zE (aa zO i.a.queues) i.n.toNat 0 1=ar [dI a]/\∃(b:Nat),tR i.l b=a/\aa zKl (i.a.ents (ab b i.l))=[]/\∃(c:Nat->Prop),∃(d:Nat->Nat),c b/\∀(e:Nat),c e->cnd (tR i.l e !=(-1)) ((0<=tR i.l e/\tR i.l e<(↑(aa zQ i.a.slots).length:Int))/\∃(f:Int),∃(g:Int),∃(h:Int),∃(j:Bool),zE (aa zQ i.a.slots) (tR i.l e).toNat 1 4=ar [dI f,dI g,dI h,D.v (.bool j)]/\((aa zKl (i.a.ents (ab e i.l))).length+1)*(32:Nat)<=(140737488355328:Nat)/\(0<=tR i.l e/\tR i.l e<(↑(aa zQ i.a.slots).length:Int))/\∃(k:Int),zE (aa zQ i.a.slots) (tR i.l e).toNat 7 1=ar [dI k]/\∃(l:Nat),tR i.l l=k/\aa zKl (i.a.ents (ab l i.l))=aa zKl (i.a.ents (ab e i.l))++[[dI f,dI g,dI h,D.v (.bool j)]]/\c l/\d l<d e/\dh (ay [V.own 1,V.own 2,V.d (dI i.a.free)] (355:cd))/\dh (ax 362 8 (aa zQ i.a.slots))/\dh (ax 365 4 (aa zO i.a.queues))) (∃(f:Unit),dh i.a.free/\dh (aa zQ i.a.slots)/\dh (aa zO i.a.queues)/\aa zKl (i.a.ents i.l)=aa zKl (i.a.ents (ab e i.l))/\True))) (zDa i)
def zCx (a:TkI):Prop:=(a.a.takeF a.n a.qty).fst.free=a.a.free/\aa zQ (a.a.takeF a.n a.qty).fst.slots=aa zQ a.a.slots/\aa zO (a.a.takeF a.n a.qty).fst.queues=aa zO a.a.queues/\True
def sR (a:TkI):Prop:=∃(b:Unit),(a.a.takeF a.n a.qty).snd=26/\zCx a
def zCb (a:TkI):Prop:=∃(b:Unit),(a.a.takeF a.n a.qty).snd=24/\zCx a
def wT (a:TkI) (b:Int) (c:Int):=(zW (aa zO a.a.queues) b.toNat 2 [dI (ap.wrap (c-a.qty))])
def dW (a:TkI) (b:Int) (c:Int) (d:Int) (e:Int):=(zW (wT a b c) d.toNat 0 [dI e])
def rE (a:TkI) (b:Int) (c:Int) (d:Int) (e:Int) (f:Int):=(zW (dW a b c d e) d.toNat 1 [dI f])
def y7 (a:TkI) (b:Int):=(zW (aa zQ a.a.slots) a.n.toNat 3 [dI (ap.wrap (b-a.qty))])
def zDo (a:Int) (b:TkI) (c:Int):Prop:=0<=a/\a<(↑(y7 b c).length:Int)
def kX (a:TkI) (b:Int) (c:Int) (d:Int):=(zW (y7 a b) c.toNat 7 [dI d])
def sF (a:TkI) (b:Int) (c:Int) (d:Int) (e:Int):=(zW (wT a b c) d.toNat 1 [dI e])
def yJq (i:TkI):Prop:=
 cnd (decide (i.n<0)) (sR i) (cnd (decide (i.n>=(↑(aa zQ i.a.slots).length:Int))) (sR i) ((0<=i.n/\i.n<(↑(aa zQ i.a.slots).length:Int))/\∃(a:Bool),zE (aa zQ i.a.slots) i.n.toNat 0 1=ar [D.v (.bool a)]/\cnd (!a) (sR i) ((0<=i.n/\i.n<(↑(aa zQ i.a.slots).length:Int))/\cnd (decide (i.qty<1)) (zCb i) (∃(b:Int),zE (aa zQ i.a.slots) i.n.toNat 3 1=ar [dI b]/\cnd (decide (i.qty>b)) (zCb i) (∃(c:Int),zE (aa zQ i.a.slots) i.n.toNat 3 1=ar [dI c]/\i.n.toNat<(aa zQ i.a.slots).length/\∃(d:Int),zE (y7 i c) i.n.toNat 5 1=ar [dI d]/\(0<=d/\d<(↑(aa zO i.a.queues).length:Int))/\∃(e:Int),zE (aa zO i.a.queues) d.toNat 2 1=ar [dI e]/\(0<=d/\d<(↑(aa zO i.a.queues).length:Int))/\d.toNat<(aa zO i.a.queues).length/\∃(f:Int),zE (y7 i c) i.n.toNat 3 1=ar [dI f]/\cnd (f==0) (∃(g:Int),zE (y7 i c) i.n.toNat 5 1=ar [dI g]/\(0<=g/\g<(↑(wT i d e).length:Int))/\∃(h:Int),zE (y7 i c) i.n.toNat 6 1=ar [dI h]/\cnd (h==(-1)) (∃(j:Int),zE (y7 i c) i.n.toNat 7 1=ar [dI j]/\g.toNat<(wT i d e).length/\∃(k:Int),zE (y7 i c) i.n.toNat 7 1=ar [dI k]/\cnd (k==(-1)) (∃(l:Int),zE (y7 i c) i.n.toNat 6 1=ar [dI l]/\g.toNat<(dW i d e g j).length/\∃(m:Int),zE (rE i d e g j l) g.toNat 3 1=ar [dI m]/\g.toNat<(rE i d e g j l).length/\i.n.toNat<(y7 i c).length/\∃(n:Unit),(i.a.takeF i.n i.qty).snd=0/\(i.a.takeF i.n i.qty).fst.free=ap.wrap (i.a.free+1)/\aa zQ (i.a.takeF i.n i.qty).fst.slots=zW (y7 i c) i.n.toNat 0 [D.v (.bool aw),dI 0,dI 0,dI 0,D.v (.bool aw),dI 0,dI 0,dI 0]/\aa zO (i.a.takeF i.n i.qty).fst.queues=zW (rE i d e g j l) g.toNat 3 [dI (ap.wrap (m-1))]/\True) (∃(l:Int),zE (y7 i c) i.n.toNat 7 1=ar [dI l]/\∃(m:Int),zE (y7 i c) i.n.toNat 6 1=ar [dI m]/\(zDo l i c)/\l.toNat<(y7 i c).length/\∃(n:Int),zE (dW i d e g j) g.toNat 3 1=ar [dI n]/\g.toNat<(dW i d e g j).length/\i.n.toNat<(zW (y7 i c) l.toNat 6 [dI m]).length/\∃(p:Unit),(i.a.takeF i.n i.qty).snd=0/\(i.a.takeF i.n i.qty).fst.free=ap.wrap (i.a.free+1)/\aa zQ (i.a.takeF i.n i.qty).fst.slots=zW (zW (y7 i c) l.toNat 6 [dI m]) i.n.toNat 0 [D.v (.bool aw),dI 0,dI 0,dI 0,D.v (.bool aw),dI 0,dI 0,dI 0]/\aa zO (i.a.takeF i.n i.qty).fst.queues=zW (dW i d e g j) g.toNat 3 [dI (ap.wrap (n-1))]/\True)) (∃(j:Int),zE (y7 i c) i.n.toNat 6 1=ar [dI j]/\∃(k:Int),zE (y7 i c) i.n.toNat 7 1=ar [dI k]/\(zDo j i c)/\j.toNat<(y7 i c).length/\∃(l:Int),zE (kX i c j k) i.n.toNat 7 1=ar [dI l]/\cnd (l==(-1)) (∃(m:Int),zE (kX i c j k) i.n.toNat 6 1=ar [dI m]/\g.toNat<(wT i d e).length/\∃(n:Int),zE (sF i d e g m) g.toNat 3 1=ar [dI n]/\g.toNat<(sF i d e g m).length/\i.n.toNat<(kX i c j k).length/\∃(p:Unit),(i.a.takeF i.n i.qty).snd=0/\(i.a.takeF i.n i.qty).fst.free=ap.wrap (i.a.free+1)/\aa zQ (i.a.takeF i.n i.qty).fst.slots=zW (kX i c j k) i.n.toNat 0 [D.v (.bool aw),dI 0,dI 0,dI 0,D.v (.bool aw),dI 0,dI 0,dI 0]/\aa zO (i.a.takeF i.n i.qty).fst.queues=zW (sF i d e g m) g.toNat 3 [dI (ap.wrap (n-1))]/\True) (∃(m:Int),zE (kX i c j k) i.n.toNat 7 1=ar [dI m]/\∃(n:Int),zE (kX i c j k) i.n.toNat 6 1=ar [dI n]/\(0<=m/\m<(↑(kX i c j k).length:Int))/\m.toNat<(kX i c j k).length/\∃(p:Int),zE (wT i d e) g.toNat 3 1=ar [dI p]/\g.toNat<(wT i d e).length/\i.n.toNat<(zW (kX i c j k) m.toNat 6 [dI n]).length/\∃(q:Unit),(i.a.takeF i.n i.qty).snd=0/\(i.a.takeF i.n i.qty).fst.free=ap.wrap (i.a.free+1)/\aa zQ (i.a.takeF i.n i.qty).fst.slots=zW (zW (kX i c j k) m.toNat 6 [dI n]) i.n.toNat 0 [D.v (.bool aw),dI 0,dI 0,dI 0,D.v (.bool aw),dI 0,dI 0,dI 0]/\aa zO (i.a.takeF i.n i.qty).fst.queues=zW (wT i d e) g.toNat 3 [dI (ap.wrap (p-1))]/\True))) (∃(g:Unit),(i.a.takeF i.n i.qty).snd=0/\(i.a.takeF i.n i.qty).fst.free=i.a.free/\aa zQ (i.a.takeF i.n i.qty).fst.slots=zW (aa zQ i.a.slots) i.n.toNat 3 [dI (ap.wrap (c-i.qty))]/\aa zO (i.a.takeF i.n i.qty).fst.queues=zW (aa zO i.a.queues) d.toNat 2 [dI (ap.wrap (e-i.qty))]/\True))))))
def zKv {a:Arena} {n:Int} (h:n<0\/(a.slots.length:Int)<=n):a.usedAt n=aw:=by
 rcases h with h|h
 ·rw[Arena.usedAt,y5q (by omega),y8o]
 ·rw[Arena.usedAt,y5q (show ¬n<(a.slots.length:Int)by omega),y8o,xAh]
def z6v {a:Arena} {n:Int} {s:Slot} (h0:0<=n) (hs:a.slots[n.toNat]? =ar s):a.usedAt n=s.used:=by
 have hl:=(y5h.1 hs).1;rw[Arena.usedAt,y5u h0,y5u (show n<(a.slots.length:Int)by omega),zT hs];simp
def xP {a:Arena} {k:Nat} {s:Slot} (hs:a.slots[k]? =ar s):a.slotAt k=s:=zT hs
def y0j (i:ArN) (h:agetC.cnd i):yRj i:=by
 have h:i.a.slots.length<=1000000:=h;unfold yRj lX jO dI;simp only[y5e];have no (e:i.a.usedAt i.n=aw):i.a.getF i.n=(yYv,aw):=by rw[Arena.getF,y5d (by rw[e];decide)]
 refine zI (λc=> ?_) (λc=>zI (λd=> ?_) (λd=> ?_))
 ·rw[no (zKv (.inl c))];exact kp
 ·rw[no (zKv (.inr (by omega)))];exact kp
 ·obtain⟨s,hs⟩:=yE (l:=i.a.slots) (i:=i.n.toNat) oM;have eu:=z6v (a:=i.a) (n:=i.n) oM hs;refine⟨⟨oM,oM⟩,s.used,elA hs (by simp[zQ]) rfl,Cv.cnd.mk (λu=> ?_) (λu=> ?_)⟩
  ·rw[no (by rw[eu];simpa using u)];exact kp
  ·have e:i.a.usedAt i.n=av:=by rw[eu];simpa using u
   have et:i.a.getF i.n=(s.ent,av):=by rw[Arena.getF,y5f e,xP hs]
   rw[et];refine⟨⟨oM,oM⟩,s.n,s.id,s.qty,s.top,elA hs (by simp[zQ]) rfl,?_⟩
   exact kp
def z5f:agetC.ok Tryz.prog 210:=okw mixed gok0 1 (λ_=>[]) (λ_=>[]) [0] Tryz.func210 y0j
def zQn:∀{sl:List Slot} {at_:Int} {l:List Nat},zXg sl at_ l->tR l 0=at_/\∀j k,l[j]? =ar k->k<sl.length/\tR l (j+1)=(sl.getD k slot0).back
 |sl,at_,[],h=>⟨h.symm,λj k hk=>by simp at hk⟩
 |sl,at_,x::l,h=>by
  obtain⟨h1,h2,h3⟩:=h;have ih:=zQn h3;refine⟨h1.symm,λj k hk=> ?_⟩;cases j with
  |zero=>
   simp at hk;subst hk;exact⟨h2,by rw[<- ih.1];rfl⟩
  |succ j=>
   rw[y7c]at hk;obtain⟨a,b⟩:=ih.2 j k hk;exact⟨a,by rw[<- b];rfl⟩
def yVy (i:ArL) (h:alistC.cnd i):yKa i:=by
 obtain⟨hl,h⟩:i.l.length<=1000000/\(if 0<=i.n/\i.n<i.a.queues.length then zXg i.a.slots (i.a.queues.getD i.n.toNat mK).first i.l else i.l=[]):=⟨h.len,h.ch⟩
 unfold yKa zDa dI;simp only[y5e];have out (e:¬(0<=i.n/\i.n<(i.a.queues.length:Int))):i.l=[]:=by rw[y5d e]at h;exact h
 refine zI (λc=>Cv.cnd.mk (λd=> ?_) (λd=> ?_)) (λc=> ?_)
 ·have d:¬i.n<(i.a.queues.length:Int):=by simpa using d
  rw[out (by omega)];exact kp
 ·have d:i.n<(i.a.queues.length:Int):=by simpa using d
  rw[y5f ⟨by omega,d⟩]at h;obtain⟨q,hq⟩:=yE (l:=i.a.queues) (i:=i.n.toNat) oM;rw[zT hq]at h;obtain⟨n0,nx⟩:=zQn h;refine⟨⟨oM,oM⟩,q.first,elA hq (by simp[zO]) rfl,0,n0,rfl,λj=>j<=i.l.length,λj=>i.l.length-j,y6l _,λj hj=>Cv.cnd.mk (λe=> ?_) (λe=> ?_)⟩
  ·have e:tR i.l j≠-1:=by simpa using e
   obtain⟨k,hk⟩:∃k,i.l[j]? =ar k:=by
    cases hk:i.l[j]? with
    |none=>rw[tR,hk]at e;exact absurd rfl e
    |some k=>exact⟨k,rfl⟩
   have hjl:=(y5h.1 hk).1;obtain⟨hkl,hnx⟩:=nx j k hk;have en:tR i.l j=k:=by rw[tR,hk]
   obtain⟨s,hs⟩:=yE (l:=i.a.slots) (i:=k) hkl;rw[en,y5w];refine⟨⟨oM,oM⟩,s.n,s.id,s.qty,s.top,elA hs (by simp[zQ]) rfl,?_,⟨oM,oM⟩,s.back,elA hs (by simp[zQ]) rfl,j+1,by rw[hnx,zT hs],?_,hjl,Z9,k0q⟩
   ·simp only[Arena.ents,y5e,y5v];omega
   ·rw[y6m,hk];simp only[Arena.ents,Option.toList,y5n,y5s,y8v,xP hs];rfl
  ·have e:tR i.l j= -1:=by simpa using e
   have hj':i.l.length<=j:=by
    apply Classical.byContradiction;intro hn;obtain⟨k,hk⟩:=yE (l:=i.l) (i:=j) oM;rw[tR,hk]at e;simp only at e;omega
   rw[y5p hj']
   exact kp
 ·rw[out (by omega)];exact kp
def yHn:alistC.ok Tryz.prog 304:=okw mixed gok0 1 (λ_=>[]) (λi=>yWe i) [0] Tryz.func304 yVy
def z3c {α:Type} {l:List α} {i k:Nat} {x y:α} (h:i≠k) (hk:l[k]? =ar x):(l.set i y)[k]? =ar x:=by
 rw[List.getElem?_set_ne h];exact hk
def yXx (i:TkI) (h:atakeC.cnd i):yJq i:=by
 obtain⟨hl,hok⟩:i.a.okAt:=h;unfold yJq sF kX zDo y7 rE dW wT zCb sR zCx dI;simp only[y5e];have no (e:i.a.usedAt i.n=aw):i.a.takeF i.n i.qty=(i.a,26):=by rw[Arena.takeF,y5f e]
 refine zI (λc=> ?_) (λc=>zI (λd=> ?_) (λd=> ?_))
 ·rw[no (zKv (.inl c))];exact kp
 ·rw[no (zKv (.inr (by omega)))];exact kp
 obtain⟨k,hk⟩:∃k,k=i.n.toNat:=⟨_,rfl⟩
 rw[<- hk];obtain⟨s,hs⟩:=yE (l:=i.a.slots) (i:=k) oM;have hs':i.a.slots[i.n.toNat]? =ar s:=by rw[<- hk];exact hs
 have eu:=z6v (a:=i.a) (n:=i.n) oM hs';refine⟨⟨oM,oM⟩,s.used,elA hs (by simp[zQ]) rfl,Cv.cnd.mk (λu=> ?_) (λu=> ?_)⟩
 ·rw[no (by rw[eu];simpa using u)];exact kp
 have u:s.used=av:=by simpa using u
 have e:¬i.a.usedAt i.n=aw:=by rw[eu,u];decide
 obtain⟨⟨q0,q1⟩,sq,sa,sb⟩:=hok k s hs u;have esl:i.a.slotAt i.n.toNat=s:=xP hs';have bad (hq:i.qty<1\/s.qty<i.qty):i.a.takeF i.n i.qty=(i.a,24):=by rw[Arena.takeF,y5d e,esl,y5f hq]
 refine⟨⟨oM,oM⟩,zI (λc1=>by rw[bad (.inl c1)];(repeat'(first|exact rfl|exact trivial|assumption|apply bv|refineλ(_:Unit) (_:True)=>?_|refine bu () ?_|omega|(dsimp only;omega)))) (λc1=>⟨s.qty,elA hs (by simp[zQ]) rfl,zI (λc2=>by rw[bad (.inr (by omega))];(repeat'(first|exact rfl|exact trivial|assumption|apply bv|refineλ(_:Unit) (_:True)=>?_|refine bu () ?_|omega|(dsimp only;omega)))) (λc2=>⟨s.qty,elA hs (by simp[zQ]) rfl,oM,?_⟩)⟩)⟩;obtain⟨q,hq⟩:=yE (l:=i.a.queues) (i:=s.queue.toNat) oM;have hs1:(i.a.slots.set k {s with qty:=s.qty-i.qty})[k]? =ar {s with qty:=s.qty-i.qty}:=uG hs;have hq1:(i.a.queues.set s.queue.toNat {q with total:=ap.wrap (q.total-i.qty)})[s.queue.toNat]? =ar {q with total:=ap.wrap (q.total-i.qty)}:=uG hq;have hle:i.a.less i.n.toNat i.qty=⟨i.a.slots.set k {s with qty:=s.qty-i.qty},i.a.queues.set s.queue.toNat {q with total:=ap.wrap (q.total-i.qty)},i.a.free⟩:=by
  rw[Arena.less,esl,cH hs',cH hq,hk]
 have hL:(i.a.slots.set k {s with qty:=s.qty-i.qty}).length=i.a.slots.length:=y6k;have hQ:(i.a.queues.set s.queue.toNat {q with total:=ap.wrap (q.total-i.qty)}).length=i.a.queues.length:=y6k;have tk:i.a.takeF i.n i.qty=if s.qty=i.qty then((i.a.less i.n.toNat i.qty).dropF i.n.toNat,0)else(i.a.less i.n.toNat i.qty,0):=by rw[Arena.takeF,y5d e,esl,y5d (by omega)]
 rw[hle,<- hk]at tk;rw[w64 (x:=s.qty-i.qty) (by omega),yH hs (y:={s with qty:=s.qty-i.qty}) rfl];refine⟨s.queue,elA hs1 (by simp[zQ]) rfl,⟨q0,q1⟩,q.total,elA hq (by simp[zO]) rfl,⟨q0,q1⟩,oM,s.qty-i.qty,elA hs1 (by simp[zQ]) rfl,?_⟩;rw[yH hq (y:={q with total:=ap.wrap (q.total-i.qty)}) rfl];simp only[y5e];generalize hL1:i.a.slots.set k {s with qty:=s.qty-i.qty}=L1 at*;generalize hQ1:i.a.queues.set s.queue.toNat {q with total:=ap.wrap (q.total-i.qty)}=Q1 at*;refine Cv.cnd.mk (λz=> ?_) (λz=> ?_)
 ·have z:s.qty=i.qty:=by have:s.qty-i.qty=0:=by simpa using z
                         omega
  rw[y5f z]at tk;have esl1:(⟨L1,Q1,i.a.free⟩:Arena).slotAt k={s with qty:=s.qty-i.qty}:=xP hs1;have eq1:Q1.getD s.queue.toNat mK={q with total:=ap.wrap (q.total-i.qty)}:=zT hq1;rw[Arena.dropF,esl1]at tk;dsimp only at tk;rw[eq1]at tk;dsimp only at tk;rw[tk];refine⟨s.queue,elA hs1 (by simp[zQ]) rfl,⟨q0,oM⟩,s.ahead,elA hs1 (by simp[zQ]) rfl,Cv.cnd.mk (λea=> ?_) (λea=> ?_)⟩
  ·have ea:s.ahead= -1:=by simpa using ea
   refine⟨s.back,elA hs1 (by simp[zQ]) rfl,oM,s.back,elA hs1 (by simp[zQ]) rfl,?_⟩;rw[yH hq1 (y:=⟨s.back,q.last,ap.wrap (q.total-i.qty),q.count⟩) rfl];have hq2:(Q1.set s.queue.toNat ⟨s.back,q.last,ap.wrap (q.total-i.qty),q.count⟩)[s.queue.toNat]? =ar ⟨s.back,q.last,ap.wrap (q.total-i.qty),q.count⟩:=uG hq1;simp only[y5e,y6k];refine Cv.cnd.mk (λeb=> ?_) (λeb=> ?_)
   ·have eb:s.back= -1:=by simpa using eb
    refine⟨s.ahead,elA hs1 (by simp[zQ]) rfl,oM,q.count,?_,?_⟩
    ·rw[yH hq2 (y:=⟨s.back,s.ahead,ap.wrap (q.total-i.qty),q.count⟩) rfl];exact elA (uG hq2) (by simp[zO]) rfl
    rw[yH hq2 (y:=⟨s.back,s.ahead,ap.wrap (q.total-i.qty),q.count⟩) rfl,yH (uG hq2) (y:=⟨s.back,s.ahead,ap.wrap (q.total-i.qty),ap.wrap (q.count-1)⟩) rfl,yH hs1 (y:=slot0) rfl];simp only[y5e,y6k,y9f,y5f ea,y5f eb];refine⟨oM,oM,(),by(first|exact rfl|exact trivial),by(first|exact rfl|exact trivial),by(first|exact rfl|exact trivial),by(first|exact rfl|exact trivial),trivial⟩
   ·have eb:s.back≠-1:=by simpa using eb
    obtain⟨b0,b1,b2⟩:0<=s.back/\s.back<i.a.slots.length/\s.back≠k:=by omega
    obtain⟨x,hx⟩:=yE (l:=L1) (i:=s.back.toNat) oM;refine⟨s.back,elA hs1 (by simp[zQ]) rfl,s.ahead,elA hs1 (by simp[zQ]) rfl,⟨b0,oM⟩,oM,q.count,elA hq2 (by simp[zO]) rfl,?_⟩;rw[yH hx (y:={x with ahead:=s.ahead}) rfl,yH hq2 (y:=⟨s.back,q.last,ap.wrap (q.total-i.qty),ap.wrap (q.count-1)⟩) rfl,yH (z3c (by omega) hs1) (y:=slot0) rfl];simp only[y5e,y6k,y9f,y5f ea,y5d eb,cH hx];refine⟨oM,oM,(),by(first|exact rfl|exact trivial),by(first|exact rfl|exact trivial),by(first|exact rfl|exact trivial),by(first|exact rfl|exact trivial),trivial⟩
  ·have ea:s.ahead≠-1:=by simpa using ea
   obtain⟨a0,a1,a2⟩:0<=s.ahead/\s.ahead<i.a.slots.length/\s.ahead≠k:=by omega
   obtain⟨x,hx⟩:=yE (l:=L1) (i:=s.ahead.toNat) oM;have hs2:(L1.set s.ahead.toNat {x with back:=s.back})[k]? =ar {s with qty:=s.qty-i.qty}:=z3c oM hs1;refine⟨s.ahead,elA hs1 (by simp[zQ]) rfl,s.back,elA hs1 (by simp[zQ]) rfl,⟨a0,oM⟩,oM,s.back,?_,?_⟩
   ·rw[yH hx (y:={x with back:=s.back}) rfl];exact elA hs2 (by simp[zQ]) rfl
   rw[yH hx (y:={x with back:=s.back}) rfl];simp only[y5e,y6k];refine Cv.cnd.mk (λeb=> ?_) (λeb=> ?_)
   ·have eb:s.back= -1:=by simpa using eb
    refine⟨s.ahead,elA hs2 (by simp[zQ]) rfl,oM,q.count,?_,?_⟩
    ·rw[yH hq1 (y:=⟨q.first,s.ahead,ap.wrap (q.total-i.qty),q.count⟩) rfl];exact elA (uG hq1) (by simp[zO]) rfl
    rw[yH hq1 (y:=⟨q.first,s.ahead,ap.wrap (q.total-i.qty),q.count⟩) rfl,yH (uG hq1) (y:=⟨q.first,s.ahead,ap.wrap (q.total-i.qty),ap.wrap (q.count-1)⟩) rfl,yH hs2 (y:=slot0) rfl];simp only[y5e,y6k,y9f,y5d ea,y5f eb,cH hx];refine⟨oM,oM,(),by(first|exact rfl|exact trivial),by(first|exact rfl|exact trivial),by(first|exact rfl|exact trivial),by(first|exact rfl|exact trivial),trivial⟩
   ·have eb:s.back≠-1:=by simpa using eb
    obtain⟨b0,b1,b2⟩:0<=s.back/\s.back<i.a.slots.length/\s.back≠k:=by omega
    obtain⟨y,hy⟩:=yE (l:=L1.set s.ahead.toNat {x with back:=s.back}) (i:=s.back.toNat) (by rw[y6k];omega);refine⟨s.back,elA hs2 (by simp[zQ]) rfl,s.ahead,elA hs2 (by simp[zQ]) rfl,⟨b0,oM⟩,oM,q.count,elA hq1 (by simp[zO]) rfl,?_⟩;rw[yH hy (y:={y with ahead:=s.ahead}) rfl,yH hq1 (y:=⟨q.first,q.last,ap.wrap (q.total-i.qty),ap.wrap (q.count-1)⟩) rfl,yH (z3c (by omega) hs2) (y:=slot0) rfl];simp only[y5e,y6k,y9f,y5d ea,y5d eb,cH hx,cH hy];refine⟨oM,oM,(),by(first|exact rfl|exact trivial),by(first|exact rfl|exact trivial),by(first|exact rfl|exact trivial),by(first|exact rfl|exact trivial),trivial⟩
 ·have z:¬s.qty=i.qty:=by have:¬s.qty-i.qty=0:=by simpa using z
                          omega
  rw[y5d z]at tk;rw[tk];exact⟨(),rF4 trivial⟩
def yDo:atakeC.ok Tryz.prog 242:=okw mixed gok0 1 (λ_=>[]) (λ_=>[]) [0] Tryz.func242 yXx
structure PlI where
 l:List Int
 least:Int
 q:Int
def z1m (l:List Int) (least q:Int):List Int:=l.map λk=>if least<=k*q / l.sum then k*q / l.sum else 0
def wA:List (Int×Int)->Int->List Int
 |[],_=>[]
 |(n,x)::r,q=>(x+min (n-x) q)::wA r (q-min (n-x) q)
def PlI.p0 (i:PlI):List Int:=z1m i.l i.least i.q
def PlI.p1 (i:PlI):List Int:=wA (i.l.zip i.p0) (i.q-i.p0.sum)
def jD (i:PlI):List Int:=if yW i.l i.q=av/\1<=i.least then i.p1 else[]
def plainC:Con:=con1 PlI (λi=>[iV i.l,zA i.least,zA i.q]) (λ_=>[]) (λi=>i.l.length<=1000000/\yU i.q/\yU i.least) (λ_=> .own 0) (λi=>[.own 2 1 (iE (jD i))])
def ySk (i:PlI):List SAnn:=[
 {ι:=Nat,slots:=λj=>[(9,.own 0),(36,zA j)],rows:=λj=>[.own 2 1 (iE (i.p0.take j++ac (i.l.length-j) 0))]},
 {ι:=Nat,slots:=λj=>[(2,zA (i.q-(i.p0.take j).sum)),(58,zA j)],rows:=λ_=>[]},
 {ι:=Nat,slots:=λj=>[(9,.own 0),(2,zA (i.q-i.p0.sum+(i.p0.take j).sum-(i.p1.take j).sum)),(68,zA j)],rows:=λj=>[.own 2 1 (iE (i.p1.take j++i.p0.drop j))]}]
def dG (a:Nat) (b:PlI):=(iE (ab a b.p1++af a b.p0))
def rK (a:Nat) (b:PlI):Prop:=0<=(↑a:Int)/\(↑a:Int)<(↑(dG a b).length:Int)
def gL (a:Nat) (b:PlI):=(ab a b.p0++ac (b.l.length-a) 0)
def gR (a:Nat) (b:PlI):=(iE (gL a b))
def mL (a:Nat) (b:PlI):=(↑(gR a b).length:Int)
def yFu (i:PlI):Prop:=
 ∃(a:LqI),iE a.l=iE i.l/\a.q=i.q/\(wH a)/\∀(b:Unit),True->cnd (!yW a.l a.q) (∃(c:Unit),iE (jD i)=[]/\True) (cnd (decide (i.least<1)) (∃(c:Unit),iE (jD i)=[]/\True) (∃(c:List Int),iE c=iE i.l/\(c.length<=1000/\∀(d:Int),d∈c->0<=d/\d<=1000000)/\∀(d:Unit),True->(0<=(↑(iE i.l).length:Int)/\(↑(iE i.l).length:Int)<=(↑(iE i.l).length:Int)/\(↑(iE i.l).length:Int)<=9223372036854775807/\(↑(8:Nat):Int)*(↑(iE i.l).length:Int)<=2 ^ (48:Nat))/\∃(e:Nat),(↑e:Int)=0/\iE (gL e i)=ac (↑(iE i.l).length:Int).toNat [dI 0]/\∃(f:Nat->Prop),∃(g:Nat->Nat),f e/\∀(h:Nat),f h->cnd (decide ((↑h:Int)<(↑(iE i.l).length:Int))) ((0<=(↑h:Int)/\(↑h:Int)<(↑(iE i.l).length:Int))/\∃(j:Int),zE (iE i.l) (↑h:Int).toNat 0 1=ar [dI j]/\∃(k:ShI),k.a=j/\k.b=i.q/\k.c=c.sum/\(0<=k.a/\k.a<=(2000000000:Int)/\(0:Int)<=k.b/\k.b<=(2000000000:Int)/\(1:Int)<=k.c/\k.c<=2000000000)/\∀(l:Unit),True->cnd (decide (k.a*k.b / k.c>=i.least)) ((0<=(↑h:Int)/\(↑h:Int)<(mL h i))/\(↑h:Int).toNat<(gR h i).length/\∃(m:Nat),(↑m:Int)=ap.wrap ((↑h:Int)+1)/\iE (gL m i)=zW (gR h i) (↑h:Int).toNat 0 [dI (k.a*k.b / k.c)]/\f m/\g m<g h/\True) (∃(m:Nat),(↑m:Int)=ap.wrap ((↑h:Int)+1)/\iE (gL m i)=iE (gL h i)/\f m/\g m<g h/\True)) (∃(j:Nat),i.q-(ab j i.p0).sum=i.q/\(↑j:Int)=0/\∃(k:Nat->Prop),∃(l:Nat->Nat),k j/\∀(m:Nat),k m->cnd (decide ((↑m:Int)<(mL h i))) ((0<=(↑m:Int)/\(↑m:Int)<(mL h i))/\∃(n:Int),zE (gR h i) (↑m:Int).toNat 0 1=ar [dI n]/\∃(p:Nat),i.q-(ab p i.p0).sum=ap.wrap (i.q-(ab m i.p0).sum-n)/\(↑p:Int)=ap.wrap ((↑m:Int)+1)/\k p/\l p<l m/\dh (ax 2 1 (gR h i))) (∃(n:Nat),i.q-i.p0.sum+(ab n i.p0).sum-(ab n i.p1).sum=i.q-(ab m i.p0).sum/\(↑n:Int)=0/\iE (ab n i.p1++af n i.p0)=iE (gL h i)/\∃(p:Nat->Prop),∃(q:Nat->Nat),p n/\∀(r:Nat),p r->cnd (decide ((↑r:Int)<(mL h i))) ((0<=(↑r:Int)/\(↑r:Int)<(↑(iE i.l).length:Int))/\∃(s:Int),zE (iE i.l) (↑r:Int).toNat 0 1=ar [dI s]/\(rK r i)/\∃(t:Int),zE (dG r i) (↑r:Int).toNat 0 1=ar [dI t]/\(rK r i)/\∃(u:Int),zE (dG r i) (↑r:Int).toNat 0 1=ar [dI u]/\(rK r i)/\(↑r:Int).toNat<(dG r i).length/\∃(v:Nat),i.q-i.p0.sum+(ab v i.p0).sum-(ab v i.p1).sum=ap.wrap (i.q-i.p0.sum+(ab r i.p0).sum-(ab r i.p1).sum-min (ap.wrap (s-t)) (i.q-i.p0.sum+(ab r i.p0).sum-(ab r i.p1).sum))/\(↑v:Int)=ap.wrap ((↑r:Int)+1)/\iE (ab v i.p1++af v i.p0)=zW (dG r i) (↑r:Int).toNat 0 [dI (ap.wrap (u+min (ap.wrap (s-t)) (i.q-i.p0.sum+(ab r i.p0).sum-(ab r i.p1).sum)))]/\p v/\q v<q r/\True) (∃(s:Unit),iE (jD i)=iE (ab r i.p1++af r i.p0)/\True)))))
def zDe:∀(z:List (Int×Int)) (q:Int),(wA z q).length=z.length
 |[],_=>rfl
 |(n,x)::z,q=>by rw[wA,y5i,y5i,zDe z]
def zPc:∀(z:List (Int×Int)) (q:Int) (j:Nat) (n x:Int),z[j]? =ar (n,x)->(wA z q)[j]? =ar (x+min (n-x) (q+((z.map (·.2)).take j).sum-((wA z q).take j).sum))
 |[],_,_,_,_,h=>by simp at h
 |(m,y)::z,q,0,n,x,h=>by simp at h;obtain⟨rfl,rfl⟩:=h;simp[wA]
 |(m,y)::z,q,j+1,n,x,h=>by
  rw[y7c]at h;rw[wA,y7c,zPc z _ j n x h,y6o,y6t,y5s,y6o,y6t];congr 3;dsimp only;omega
def zJk:∀(z:List (Int×Int)) (q:Int) (j:Nat),0<=q->(∀y∈z,y.2<=y.1)->0<=q+((z.map (·.2)).take j).sum-((wA z q).take j).sum/\q+((z.map (·.2)).take j).sum-((wA z q).take j).sum<=q
 |[],q,j,h,_=>by simp[wA,h]
 |(m,y)::z,q,0,h,_=>by simp[h]
 |(m,y)::z,q,j+1,h,hb=>by
  have hm:=hb (m,y) y5j;have:=zJk z (q-min (m-y) q) j (by dsimp only at hm;omega) (λx hx=>hb x (y5l _ hx));rw[wA,y6o,y6t,y5s,y6o,y6t];dsimp only at hm ⊢;omega
def yCy {k q S:Int} (hk:0<=k) (hq:0<=q) (hS:1<=S) (hqS:q<=S):0<=k*q / S/\k*q / S<=k:=by
 refine⟨Int.ediv_nonneg (xBk hk hq) oM,?_⟩;have:k*q<=k*S:=xAa hqS hk;exact Int.ediv_le_of_le_mul oM this
def zSs {q S least:Int} (hq:0<=q) (hS:1<=S):∀(l:List Int),(∀x∈l,0<=x)->S*(l.map λk=>if least<=k*q / S then k*q / S else 0).sum<=q*l.sum
 |[],_=>by simp
 |k::l,h=>by
  have ih:=zSs (least:=least) hq hS l (λx hx=>h x (y5l _ hx));have hk:=h k y5j;rw[y5s,y6t,y6t,Int.mul_add,Int.mul_add];have h1:S*(k*q / S)<=k*q:=by
   have:=Int.mul_ediv_add_emod (k*q) S;have:=xBd (k*q) (show S≠0 by omega);omega
  have h2:0<=k*q:=xBk hk hq;have h3:S*(if least<=k*q / S then k*q / S else 0)<=q*k:=by
   rw[y9o q k];split
   ·exact h1
   ·simpa using h2
  omega
def yGm {i:PlI} {j:Nat} {n:Int} (h:i.l[j]? =ar n):i.p0[j]? =ar (if i.least<=n*i.q / i.l.sum then n*i.q / i.l.sum else 0):=by
 rw[PlI.p0,z1m,y6u,h];rfl
def z3v (i:PlI):i.p0.length=i.l.length:=by simp[PlI.p0,z1m]
def z7a {l:List Int} {j m:Nat} {n:Int} (hl:l.length=m) (h:l[j]? =ar n):(l.take j++ac (m-j) 0).set j n=l.take (j+1)++ac (m-(j+1)) 0:=by
 have hj:=(y5h.1 h).1;rw[List.set_append_right _ _ (by rw[y5v];omega),y5v,show j-min j l.length=0 by omega,show m-j=(m-(j+1))+1 by omega,y9l,xBb,y6m,h];simp
def yEd {l:List Int} {j m:Nat} (hl:l.length=m) (hj:j<m):(l.take j++ac (m-j) 0)[j]? =ar 0:=by
 rw[y7h (by rw[y5v];omega),y5v,show j-min j l.length=0 by omega,show m-j=(m-(j+1))+1 by omega,y9l];rfl
def yDp {α:Type} {l:List α} {j:Nat} {x:α} (h:l[j]? =ar x):l.set j x=l:=by
 obtain⟨h1,h2⟩:=y5h.1 h;rw[<- h2];exact List.set_getElem_self h1
def ySt {a b:List Int} {j:Nat} {x:Int} (ha:a.length=b.length) (h:b[j]? =ar x):(a.take j++b.drop j)[j]? =ar x:=by
 have hj:=(y5h.1 h).1;rw[y7h (by rw[y5v];omega),y5v,show j-min j a.length=0 by omega,y7r];exact h
def yLd {a b:List Int} {j:Nat} {y:Int} (ha:a.length=b.length) (h:a[j]? =ar y):(a.take j++b.drop j).set j y=a.take (j+1)++b.drop (j+1):=by
 have hj:=(y5h.1 h).1;rw[List.set_append_right _ _ (by rw[y5v];omega),y5v,show j-min j a.length=0 by omega,y7l (by omega),xBb,y6m,h];simp
def zUx {l:List Int} {j:Nat} {x y:Int} (h:l[j]? =ar x):zW (iE l) j 0 [D.v (.int .i64 y)]=iE (l.set j y):=yH (f:=λn:Int=>[D.v (.int .i64 n)]) h rfl
def zDz {i:PlI} (h:yW i.l i.q=av) (hne:0<i.l.length):1<=i.l.sum/\i.l.sum<=250000000/\(∀(j:Nat) (n x:Int),i.l[j]? =ar n->i.p0[j]? =ar x->0<=x/\x<=n)/\i.p0.sum<=i.q:=by
 obtain⟨h1,h2,h3,h4⟩:=jE h;have hb:=jQ (l:=i.l) (λx hx=>by have:=h3 x hx;omega) i.l.length;rw[y8c]at hb;have hS:1<=i.l.sum:=by
  obtain⟨x,hx⟩:=yE (l:=i.l) (i:=0) hne;have:=h3 x (y5o hx);cases hl:i.l with
  |nil=>rw[hl]at hne;exact absurd hne (Nat.lt_irrefl 0)
  |cons a r=>
   rw[hl]at hx;simp at hx;subst hx;have hr:=jQ (l:=r) (λy hy=>by have:=h3 y (by rw[hl];exact y5l _ hy);omega) r.length;rw[y8c]at hr;rw[y6t];omega
 refine⟨hS,oM,λj n x hn hx=> ?_,?_⟩
 ·have hn1:=h3 n (y5o hn);have:=yCy (k:=n) oM h2 hS h4;rw[yGm hn]at hx;cases hx;split<;>omega
 ·have:=zSs (least:=i.least) h2 hS i.l (λx hx=>by have:=h3 x hx;omega);have e:i.l.sum*i.p0.sum<=i.l.sum*i.q:=by rw[y9o i.l.sum i.q];exact this
  exact Int.le_of_mul_le_mul_left e oM
def yTj (i:PlI) (h:plainC.cnd i):yFu i:=by
 obtain⟨hl,hq,hle⟩:i.l.length<=1000000/\yU i.q/\yU i.least:=h;unfold yFu mL gR gL rK dG wH dI;refine⟨⟨i.l,i.q⟩,rfl,rfl,⟨hl,hq⟩,λ_ _=>Cv.cnd.mk (λc=> ?_) (λc=>zI (λd=> ?_) (λd=> ?_))⟩
 ·have c:yW i.l i.q=aw:=by simpa using c
  refine⟨(),?_,trivial⟩;rw[jD,y5d (by rw[c];simp)];rfl
 ·refine⟨(),?_,trivial⟩;rw[jD,y5d (by omega)];rfl
 have c:yW i.l i.q=av:=by simpa using c
 have eS:jD i=i.p1:=by rw[jD,y5f ⟨c,by omega⟩]
 obtain⟨h1,h2,h3,h4⟩:=jE c;have hq2:=zLb c;have hp0:=z3v i;have hzl:(i.l.zip i.p0).length=i.l.length:=by rw[List.length_zip,hp0];simp
 have hp1:i.p1.length=i.l.length:=by rw[PlI.p1,zDe,hzl]
 have hz2:(i.l.zip i.p0).map (·.2)=i.p0:=by rw[List.map_snd_zip];omega
 have h64:i.l.length<=250:=h1;have hrl:∀j,j<=i.l.length->(ab j i.p0++ac (i.l.length-j) 0).length=i.l.length:=by
  intro j hj;rw[y5c,y5v,y8i];omega
 simp only[y3];refine⟨i.l,rfl,⟨oM,λx hx=>by have:=h3 x hx;omega⟩,λ_ _=>⟨⟨oM,oM,oM,oM⟩,0,by(first|exact rfl|exact trivial),?_,λj=>j<=i.l.length,λj=>i.l.length-j,y6l _,λj hj=>zI (λe=> ?_) (λe=> ?_)⟩⟩
 ·simp[iE]
 ·have hj':j<i.l.length:=by omega
  obtain⟨n,hn⟩:=yE (l:=i.l) (i:=j) hj';have bn:=h3 n (y5o hn);obtain⟨f1,f2,f3,f4⟩:=zDz c oM;have g:=yGm hn;refine⟨⟨oM,oM⟩,n,elI hn,⟨n,i.q,i.l.sum⟩,rfl,rfl,rfl,⟨Z9,Z9,Z9,Z9,Z9,Z9⟩,λ_ _=>zI (λa=> ?_) (λa=> ?_)⟩
  ·have a:n*i.q / i.l.sum>=i.least:=a;rw[y5f (by omega)]at g;refine⟨⟨oM,by rw[hrl j (by omega)];omega⟩,by rw[hrl j (by omega)];omega,j+1,wjn oM,?_,hj',Z9,trivial⟩;rw[y5w,zUx (yEd hp0 hj'),z7a hp0 g]
  ·have a:¬n*i.q / i.l.sum>=i.least:=a;rw[y5d (by omega)]at g;refine⟨j+1,wjn oM,?_,hj',Z9,trivial⟩;rw[<- z7a hp0 g,yDp (yEd hp0 hj')]
 have hje:j=i.l.length:=by omega
 subst hje;have eP:ab i.l.length i.p0++ac (i.l.length-i.l.length) 0=i.p0:=by rw[y5p (by omega)];simp
 rw[eP,hp0];have px:∀(k:Nat) (n x:Int),i.l[k]? =ar n->i.p0[k]? =ar x->0<=x/\x<=n:=λk n x hn hx=>(zDz c (by have:=(y5h.1 hn).1;omega)).2.2.1 k n x hn hx
 have pb:∀x∈i.p0,0<=x/\x<=1000000:=by
  intro x hx;obtain⟨k,hk⟩:=y7v.1 hx;obtain⟨n,hn⟩:=yE (l:=i.l) (i:=k) (by have:=(y5h.1 hk).1;omega);have:=px k n x hn hk;have:=h3 n (y5o hn);omega
 have pq:i.p0.sum<=i.q:=by
  by_cases hz:0<i.l.length
  ·exact(zDz c hz).2.2.2
  ·have:i.p0=[]:=y6e oM;rw[this];simpa using h2
 refine⟨0,by simp,by(first|exact rfl|exact trivial),λk=>k<=i.l.length,λk=>i.l.length-k,y6l _,λk hk=>zI (λe=> ?_) (λe=> ?_)⟩
 ·have hk':k<i.l.length:=by omega
  obtain⟨x,hx⟩:=yE (l:=i.p0) (i:=k) oM;have bx:=pb x (y5o hx);have bs:=jQ pb k;refine⟨⟨oM,oM⟩,x,elI hx,k+1,?_,wjn oM,hk',Z9,k0q⟩;rw[jV hx,w64 (by omega)];omega
 have hke:k=i.l.length:=by omega
 subst hke;rw[y5p (l:=i.p0) (by omega)];refine⟨0,by simp,by(first|exact rfl|exact trivial),by simp,λj=>j<=i.l.length,λj=>i.l.length-j,y6l _,λj hj=>zI (λe=> ?_) (λe=> ?_)⟩
 ·have hj':j<i.l.length:=by omega
  obtain⟨n,hn⟩:=yE (l:=i.l) (i:=j) hj';obtain⟨x,hx⟩:=yE (l:=i.p0) (i:=j) oM;have bn:=h3 n (y5o hn);have bx:=px j n x hn hx;have hz:(i.l.zip i.p0)[j]? =ar (n,x):=by rw[y9w];exact⟨hn,hx⟩
  have g:=zPc (i.l.zip i.p0) (i.q-i.p0.sum) j n x hz;have r:=zJk (i.l.zip i.p0) (i.q-i.p0.sum) j oM (λy hy=>by
   obtain⟨k,hk⟩:=y7v.1 hy;rw[y9w]at hk;exact(px k y.1 y.2 hk.1 hk.2).2)
  rw[hz2]at g r;have b0:=jQ pb i.p0.length;rw[y8c]at b0;have hml:(ab j i.p1++af j i.p0).length=i.l.length:=by rw[y5c,y5v,y6b];omega
  have hma:=ySt (a:=i.p1) (b:=i.p0) oM hx;change i.p1[j]? =_ at g;change 0<=_-(ab j i.p1).sum/\_-(ab j i.p1).sum<=_ at r;change i.p1[j]? =ar (x+min (n-x) (_-(ab j i.p1).sum))at g;rw[hml];refine⟨⟨oM,oM⟩,n,elI hn,⟨oM,oM⟩,x,elI hma,⟨oM,oM⟩,x,elI hma,⟨oM,oM⟩,oM,?_⟩;rw[w64 (x:=n-x) (by omega),w64 (x:=x+min (n-x) (i.q-i.p0.sum+(ab j i.p0).sum-(ab j i.p1).sum)) (by omega)];refine⟨j+1,?_,wjn oM,?_,hj',Z9,trivial⟩
  ·rw[jV hx,jV g,w64 (by omega)];omega
  ·rw[y5w,zUx hma,yLd (by omega) g]
 ·have hje:j=i.l.length:=by omega
  subst hje;refine⟨(),?_,trivial⟩;rw[eS,y5p (by omega),y8l (by omega),y6a]
def yFd:plainC.ok Tryz.prog 312:=okw mixed (gokc zFq (gokc yMf (gokc zQu gok0))) 0 (λ_=>[]) (λi=>ySk i) [] Tryz.func312 yTj
structure RsI where
 l:List Int
 out:List Int
 least:Int
 q:Int
def RsI.idx (i:RsI) (k:Nat):List Nat:=(ag k).filter λn=>decide (i.out.getD n 0<i.l.getD n 0)
def RsI.left (i:RsI) (k:Nat):List Int:=(i.idx k).map λn=>i.l.getD n 0-i.out.getD n 0
def RsI.pl (i:RsI):List Int:=jD ⟨i.left i.l.length,i.least,i.q⟩
def RsI.add (i:RsI) (k:Nat):List Int:=(((i.idx i.l.length).zip i.pl).take k).foldl (λo y=>o.set y.1 (ap.wrap (o.getD y.1 0+y.2))) i.out
def nV (i:RsI):List Int:=i.add i.pl.length
@[reducible] def RsI.ok (i:RsI):Prop:=i.l.length<=250/\i.out.length=i.l.length/\yU i.q/\yU i.least/\∀n,0<=i.out.getD n 0/\i.out.getD n 0<=i.l.getD n 0/\i.l.getD n 0<=1000000
def restC:Con:=con1 RsI (λi=>[iV i.l,.own 0,zA i.least,zA i.q]) (λi=>[.own 2 1 (iE i.out)]) RsI.ok (λ_=> .own 1) (λi=>[.gone,.own 2 1 (iE (nV i))])
def y0q (i:RsI):List SAnn:=[
 {ι:=Nat,slots:=λj=>[(9,.own 0),(10,.own 1),(16,zA j)],rows:=λj=>[.own 2 1 (iE (i.left j)),.own 3 1 (iE ((i.idx j).map λ(n:Nat)=>(n:Int)))]},
 {ι:=Nat,slots:=λk=>[(1,.own 0),(50,zA k)],rows:=λk=>[.own 2 1 (iE (i.add k))]}]
structure zH where
 id:Int
 side:Int
 price:Int
 qty:Int
 top:Bool
 deriving DecidableEq
def vB (o:zH):List D:=[.v (.int .i64 o.id),.v (.int .i64 o.side),.v (.int .i64 o.price),.v (.int .i64 o.qty),.v (.bool o.top)]
@[reducible] def yCm (o:zH):V:= .agg [zA o.id,zA o.side,zA o.price,zA o.qty,yX o.top]
def topFC:Con:=con1 zH (λo=>[yCm o]) (λ_=>[]) (λ_=>True) (λo=>yX o.top) (λ_=>[])
def topI (l:List zH):Int:=zJr (l.findIdx? λo=>o.top)
def idxOrdC:Con:=con1 (List zH) (λl=>[roV 5 (l.map vB),.fn 288 [] []]) (λ_=>[]) (λl=>l.length<=1000000) (λl=>zA (topI l)) (λ_=>[])
def yNq (l:List zH):List SAnn:=[{ι:=Nat,slots:=λj=>[(8,zA j)],rows:=λ_=>[]}]
def yRw (i:RsI):Prop:=
 ∃(a:Nat),(↑a:Int)=0/\iE (i.left a)=[]/\iE (aa (λ(n:Nat) ↦ (↑n:Int)) (i.idx a))=[]/\∃(b:Nat->Prop),∃(c:Nat->Nat),b a/\∀(d:Nat),b d->cnd (decide ((↑d:Int)<(↑(iE i.l).length:Int))) ((0<=(↑d:Int)/\(↑d:Int)<(↑(iE i.l).length:Int))/\∃(e:Int),zE (iE i.l) (↑d:Int).toNat 0 1=ar [dI e]/\(0<=(↑d:Int)/\(↑d:Int)<(↑(iE i.out).length:Int))/\∃(f:Int),zE (iE i.out) (↑d:Int).toNat 0 1=ar [dI f]/\cnd (decide (e>f)) ((0<=(↑d:Int)/\(↑d:Int)<(↑(iE i.l).length:Int))/\∃(g:Int),zE (iE i.l) (↑d:Int).toNat 0 1=ar [dI g]/\(0<=(↑d:Int)/\(↑d:Int)<(↑(iE i.out).length:Int))/\∃(h:Int),zE (iE i.out) (↑d:Int).toNat 0 1=ar [dI h]/\((iE (i.left d)).length+1)*(8:Nat)<=(140737488355328:Nat)/\((iE (aa (λ(g:Nat) ↦ (↑g:Int)) (i.idx d))).length+1)*(8:Nat)<=(140737488355328:Nat)/\∃(j:Nat),(↑j:Int)=ap.wrap ((↑d:Int)+1)/\iE (i.left j)=iE (i.left d)++[[dI (ap.wrap (g-h))]]/\iE (aa (λ(g:Nat) ↦ (↑g:Int)) (i.idx j))=iE (aa (λ(g:Nat) ↦ (↑g:Int)) (i.idx d))++[[dI (↑d:Int)]]/\b j/\c j<c d/\dh (ax 2 1 (iE i.out))) (∃(g:Nat),(↑g:Int)=ap.wrap ((↑d:Int)+1)/\iE (i.left g)=iE (i.left d)/\iE (aa (λ(e:Nat) ↦ (↑e:Int)) (i.idx g))=iE (aa (λ(e:Nat) ↦ (↑e:Int)) (i.idx d))/\b g/\c g<c d/\dh (ax 2 1 (iE i.out)))) (∃(e:PlI),iE e.l=iE (i.left d)/\e.least=i.least/\e.q=i.q/\(e.l.length<=1000000/\((-9223372036854775808)<=e.q/\e.q<=9223372036854775807)/\(-9223372036854775808)<=e.least/\e.least<=9223372036854775807)/\∀(f:Unit),True->∃(g:Nat),(↑g:Int)=0/\iE (i.add g)=iE i.out/\∃(h:Nat->Prop),∃(j:Nat->Nat),h g/\∀(k:Nat),h k->cnd (decide ((↑k:Int)<(↑(iE (jD e)).length:Int))) ((0<=(↑k:Int)/\(↑k:Int)<(↑(iE (jD e)).length:Int))/\∃(l:Int),zE (iE (jD e)) (↑k:Int).toNat 0 1=ar [dI l]/\(0<=(↑k:Int)/\(↑k:Int)<(↑(iE (aa (λ(l:Nat) ↦ (↑l:Int)) (i.idx d))).length:Int))/\∃(m:Int),zE (iE (aa (λ(l:Nat) ↦ (↑l:Int)) (i.idx d))) (↑k:Int).toNat 0 1=ar [dI m]/\(0<=m/\m<(↑(iE (i.add k)).length:Int))/\∃(n:Int),zE (iE (i.add k)) m.toNat 0 1=ar [dI n]/\(0<=m/\m<(↑(iE (i.add k)).length:Int))/\m.toNat<(iE (i.add k)).length/\∃(p:Nat),(↑p:Int)=ap.wrap ((↑k:Int)+1)/\iE (i.add p)=zW (iE (i.add k)) m.toNat 0 [dI (ap.wrap (n+l))]/\h p/\j p<j k/\dh (ax 2 1 (iE (jD e)))/\dh (az 1 (iE (i.left d)))/\dh (ax 3 1 (iE (aa (λ(l:Nat) ↦ (↑l:Int)) (i.idx d))))) (∃(l:Unit),iE (nV i)=iE (i.add k)/\True))
def yQq (o:zH):Prop:=
 ∃(a:Unit),dh o.top/\True
def z5l (l:List zH):Prop:=
 ∃(a:Nat),(↑a:Int)=0/\∃(b:Nat->Prop),∃(c:Nat->Nat),b a/\∀(d:Nat),b d->cnd (decide ((↑d:Int)<(↑(aa vB l).length:Int))) ((0<=(↑d:Int)/\(↑d:Int)<(↑(aa vB l).length:Int))/\∃(e:Int),∃(f:Int),∃(g:Int),∃(h:Int),∃(j:Bool),zE (aa vB l) (↑d:Int).toNat 0 5=ar [dI e,dI f,dI g,dI h,D.v (.bool j)]/\∃(k:zH),k.id=e/\k.side=f/\k.price=g/\k.qty=h/\k.top=j/\True/\∀(m:Unit),True->cnd k.top (∃(n:Unit),topI l=(↑d:Int)/\True) (cN d b c)) (∃(e:Unit),topI l=(-1)/\True)
def yNs:topFC.ok Tryz.prog 288:=okw (V:=yQq) mixed gok0 0 (λ_=>[]) (λ_=>[]) [] Tryz.func288 λ(o:zH) _=>by
 unfold yQq;exact⟨(),rfl,trivial⟩
def z1l (i:PlI):(jD i).length=i.l.length\/jD i=[]:=by
 rw[jD];split
 ·left;rw[PlI.p1,zDe,List.length_zip,z3v];simp
 ·exact .inr rfl
def yTy {l:List zH} {k:Nat} {o:zH} (h:l[k]? =ar o):zE (l.map vB) k 0 5=ar [D.v (.int .i64 o.id),.v (.int .i64 o.side),.v (.int .i64 o.price),.v (.int .i64 o.qty),.v (.bool o.top)]:=elA h (by simp[vB]) rfl
def yPd (l:List zH) (h:idxOrdC.cnd l):z5l l:=by
 have h:l.length<=1000000:=h;unfold z5l cN kO dI;simp only[y5e];refine⟨0,rfl,λj=>j<=l.length/\∀k<j,∀x,l[k]? =ar x->x.top=aw,λj=>l.length-j,⟨oM,λk hk=>by omega⟩,?_⟩;rintro j ⟨h3,h4⟩;refine zI (λhj=> ?_) (λhj=> ?_)
 ·obtain⟨s,hs⟩:=yE (l:=l) (i:=j) oM;refine⟨⟨oM,oM⟩,s.id,s.side,s.price,s.qty,s.top,yTy hs,s,rF4 ⟨rfl,trivial,λ_ _=>Cv.cnd.mk (λe=> ?_) (λe=> ?_)⟩⟩
  ·rw[topI,zIy hs e h4];exact kp
  ·refine⟨j+1,by rw[w64 (by omega)];rfl,⟨oM,λk hk x hx=> ?_⟩,by(first|omega|(dsimp only;omega)),k0q⟩;rcases y7m k j with hk'|hk'
   ·exact h4 k hk' x hx
   ·obtain rfl:k=j:=by omega
    rw[hs]at hx;cases hx;exact e
 ·rw[topI,zIl λk x hx=>h4 k (by have:=(y5h.1 hx).1;omega) x hx];exact kp
def yCr:idxOrdC.ok Tryz.prog 287:=okw mixed (gokc yNs gok0) 0 (λ_=>[]) (λl=>yNq l) [] Tryz.func287 yPd
def yEj (i:RsI) (j:Nat):i.idx (j+1)=i.idx j++if i.out.getD j 0<i.l.getD j 0 then[j]else[]:=by
 rw[RsI.idx,y9z,y9g];by_cases h:i.out.getD j 0<i.l.getD j 0
 ·rw[y5f h,xAb (by simpa using h)];rfl
 ·rw[y5d h,xAc (by simpa using h)];rfl
def yUg (i:RsI) {k n:Nat} (h:n∈i.idx k):n<k:=by
 have:=(y7d.1 h).1;exact y8h.1 this
def z6b (i:RsI) (k:Nat):(i.idx k).length<=k:=by
 have:=y8p (λn=>decide (i.out.getD n 0<i.l.getD n 0)) (ag k);rw[List.length_range]at this;exact this
def zZw:∀(z:List (Nat×Int)) (o:List Int),(z.foldl (λo y=>o.set y.1 (ap.wrap (o.getD y.1 0+y.2))) o).length=o.length
 |[],_=>rfl
 |y::z,o=>by rw[y8w,zZw z,y6k]
def yZr (i:RsI) (h:restC.cnd i):yRw i:=by
 obtain⟨hl,ho,hq,hle,hb⟩:i.ok:=h;unfold yRw dI;simp only[y3,y5e];have hil:∀j,(i.left j).length=(i.idx j).length:=λj=>y5e _
 refine⟨0,by(first|exact rfl|exact trivial),by(first|exact rfl|exact trivial),by(first|exact rfl|exact trivial),λj=>j<=i.l.length,λj=>i.l.length-j,y6l _,λj hj=>zI (λc=> ?_) (λc=> ?_)⟩
 ·have hj':j<i.l.length:=by omega
  obtain⟨n,hn⟩:=yE (l:=i.l) (i:=j) hj';obtain⟨o,hoo⟩:=yE (l:=i.out) (i:=j) oM;have bj:=hb j;rw[zT hn,zT hoo]at bj;have is:=yEj i j;rw[zT hn,zT hoo]at is;have il:=z6b i j;refine⟨⟨oM,oM⟩,n,elI hn,⟨oM,oM⟩,o,elI hoo,zI (λa=> ?_) (λa=> ?_)⟩
  ·rw[y5f (by omega)]at is;refine⟨⟨oM,oM⟩,n,elI hn,⟨oM,oM⟩,o,elI hoo,by rw[hil];omega,oM,j+1,wjn oM,?_,?_,hj',Z9,k0q⟩
   ·rw[w64 (by omega),RsI.left,is,y5n];simp[iE,RsI.left,hn,hoo]
   ·rw[is];simp[iE]
  ·rw[y5d (by omega),y6a]at is;exact⟨j+1,wjn oM,by rw[RsI.left,is];rfl,by rw[is],hj',Z9,k0q⟩
 have hje:j=i.l.length:=by omega
 subst hje;have il:=z6b i i.l.length;refine⟨⟨i.left i.l.length,i.least,i.q⟩,rfl,rfl,rfl,⟨by dsimp only;rw[hil];omega,hq,hle⟩,λ_ _=> ?_⟩;have epl:jD ⟨i.left i.l.length,i.least,i.q⟩=i.pl:=rfl;rw[epl];have hpl:i.pl.length<=(i.idx i.l.length).length:=by
  rcases z1l ⟨i.left i.l.length,i.least,i.q⟩with e|e
  ·rw[epl]at e;rw[e];dsimp only;rw[hil];exact y5z _
  ·rw[epl]at e;rw[e];exact y6l _
 have hal:∀k,(i.add k).length=i.out.length:=λk=>zZw _ _
 refine⟨0,by(first|exact rfl|exact trivial),by(first|exact rfl|exact trivial),λk=>k<=i.pl.length,λk=>i.pl.length-k,y6l _,λk hk=>zI (λc=> ?_) (λc=> ?_)⟩
 ·have hk':k<i.pl.length:=by omega
  obtain⟨x,hx⟩:=yE (l:=i.pl) (i:=k) hk';obtain⟨n,hn⟩:=yE (l:=i.idx i.l.length) (i:=k) oM;have hnl:=yUg i (y5o hn);obtain⟨y,hy⟩:=yE (l:=i.add k) (i:=n) (by rw[hal];omega);have ea:i.add (k+1)=(i.add k).set n (ap.wrap (y+x)):=by
   have hz:((i.idx i.l.length).zip i.pl)[k]? =ar (n,x):=by rw[y9w];exact⟨hn,hx⟩
   have ey:(i.add k).getD n 0=y:=zT hy;rw[RsI.add,y6m,hz,y9k];show(i.add k).set n (ap.wrap ((i.add k).getD n 0+x))=_;rw[ey]
  have hnm:((i.idx i.l.length).map λ(n:Nat)=>(n:Int))[k]? =ar (n:Int):=by rw[y6u,hn];rfl
  rw[hal];refine⟨⟨oM,oM⟩,x,elI hx,⟨oM,oM⟩,n,elI hnm,⟨oM,oM⟩,y,elI hy,⟨oM,oM⟩,oM,k+1,wjn oM,?_,hk',Z9,k0q⟩;rw[ea,y5w,zUx hy]
 ·have hke:k=i.pl.length:=by omega
  subst hke;exact⟨(),rfl,trivial⟩
def z7c:restC.ok Tryz.prog 306:=okw mixed (gokc yFd gok0) 0 (λ_=>[]) (λi=>y0q i) [] Tryz.func306 yZr
structure PsI where
 l:List Int
 top:Int
 most:Int
 least:Int
 q:Int
def PsI.first (i:PsI):Int:=min (min (i.l.getD i.top.toNat 0) i.most) i.q
def PsI.rs (i:PsI):RsI:=if 0<=i.top/\i.top<i.l.length then⟨i.l,(ac i.l.length 0).set i.top.toNat i.first,i.least,i.q-i.first⟩else⟨i.l,ac i.l.length 0,i.least,i.q⟩
def zFm (i:PsI):List Int:=if yW i.l i.q=av/\1<=i.least/\0<=i.most then nV i.rs else[]
def proC:Con:=con1 PsI (λi=>[iV i.l,zA i.top,zA i.most,zA i.least,zA i.q]) (λ_=>[]) (λi=>i.l.length<=1000000/\yU i.q/\yU i.least/\yU i.most) (λ_=> .own 0) (λi=>[.own 2 1 (iE (zFm i))])
structure SpI where
 l:List Int
 part:Int
 least:Int
 q:Int
def SpI.rs (i:SpI):RsI:=⟨i.l,hP i.l (i.q*i.part / 100),i.least,i.q-i.q*i.part / 100⟩
def zDt (i:SpI):List Int:=if yW i.l i.q=av/\0<=i.part/\i.part<=100/\1<=i.least then nV i.rs else[]
def splC:Con:=con1 SpI (λi=>[iV i.l,zA i.part,zA i.least,zA i.q]) (λ_=>[]) (λi=>i.l.length<=1000000/\yU i.q/\yU i.least/\yU i.part) (λ_=> .own 0) (λi=>[.own 2 1 (iE (zDt i))])
def zEq (a:RsI):Prop:=a.l.length<=250/\a.out.length=a.l.length/\((-9223372036854775808)<=a.q/\a.q<=9223372036854775807)/\((-9223372036854775808)<=a.least/\a.least<=9223372036854775807)/\∀(b:Nat),0<=a.out.getD b 0/\a.out.getD b 0<=a.l.getD b 0/\a.l.getD b (0:Int)<=(1000000:Int)
def zPa (a:RsI) (b:PsI):Prop:=(zEq a)/\∀(c:Unit),True->∃(d:Unit),iE (zFm b)=iE (nV a)/\True
def zLr (a:PsI):Prop:=∃(b:RsI),iE b.l=iE a.l/\b.least=a.least/\b.q=a.q/\iE b.out=ac (↑(iE a.l).length:Int).toNat [dI 0]/\zPa b a
def eX (a:PsI):=(ac (↑(iE a.l).length:Int).toNat [dI 0])
def zOn (a:PsI) (b:Int):=(zW (eX a) a.top.toNat 0 [dI (min (min b a.most) a.q)])
def yYy (i:PsI):Prop:=
 ∃(a:LqI),iE a.l=iE i.l/\a.q=i.q/\(wH a)/\∀(b:Unit),True->cnd (!yW a.l a.q) (∃(c:Unit),iE (zFm i)=[]/\True) (cnd (decide (i.least<1)) (∃(c:Unit),iE (zFm i)=[]/\True) (cnd (decide (i.most<0)) (∃(c:Unit),iE (zFm i)=[]/\True) ((0<=(↑(iE i.l).length:Int)/\(↑(iE i.l).length:Int)<=(↑(iE i.l).length:Int)/\(↑(iE i.l).length:Int)<=9223372036854775807/\(↑(8:Nat):Int)*(↑(iE i.l).length:Int)<=2 ^ (48:Nat))/\cnd (decide (i.top>=0)) (cnd (decide (i.top<(↑(iE i.l).length:Int))) ((0<=i.top/\i.top<(↑(iE i.l).length:Int))/\∃(c:Int),zE (iE i.l) i.top.toNat 0 1=ar [dI c]/\(0<=i.top/\i.top<(↑(eX i).length:Int))/\i.top.toNat<(eX i).length/\(0<=i.top/\i.top<(↑(zOn i c).length:Int))/\∃(d:Int),zE (zOn i c) i.top.toNat 0 1=ar [dI d]/\∃(e:RsI),iE e.l=iE i.l/\e.least=i.least/\e.q=ap.wrap (i.q-d)/\iE e.out=zW (eX i) i.top.toNat 0 [dI (min (min c i.most) i.q)]/\zPa e i) (zLr i)) (zLr i))))
def y1m (i:SpI):Prop:=
 ∃(a:LqI),iE a.l=iE i.l/\a.q=i.q/\(wH a)/\∀(b:Unit),True->cnd (!yW a.l a.q) (∃(c:Unit),iE (zDt i)=[]/\True) (cnd (decide (i.part<0)) (∃(c:Unit),iE (zDt i)=[]/\True) (cnd (decide (i.part>100)) (∃(c:Unit),iE (zDt i)=[]/\True) (cnd (decide (i.least<1)) (∃(c:Unit),iE (zDt i)=[]/\True) (∃(c:ShI),c.a=i.q/\c.b=i.part/\c.c=100/\(0<=c.a/\c.a<=(2000000000:Int)/\(0:Int)<=c.b/\c.b<=(2000000000:Int)/\(1:Int)<=c.c/\c.c<=2000000000)/\∀(d:Unit),True->∃(e:LqI),iE e.l=iE i.l/\e.q=c.a*c.b / c.c/\(wH e)/\∀(f:Unit),True->∃(g:RsI),iE g.l=iE i.l/\g.least=i.least/\g.q=ap.wrap (i.q-c.a*c.b / c.c)/\iE g.out=iE (hP e.l e.q)/\(zEq g)/\∀(h:Unit),True->∃(j:Unit),iE (zDt i)=iE (nV g)/\True))))
def yKd {l:List Int} {q r:Int} (h:yW l q=av) (h0:0<=r) (h1:r<=q):yW l r=av:=by
 obtain⟨a,b,c,d⟩:=jE h;have e:(l.all λn=>decide (1<=n) && decide (n<=1000000))=av:=by
  rw[y8j];intro x hx;simpa using c x hx
 rw[yW,e,y5u a,y5u h0,y5u (show r<=l.sum by omega)];rfl
def getD_none {l:List Int} {n:Nat} (h:l[n]? =au):l.getD n 0=0:=by rw[y5m,h];rfl
def zDi {l:List Int} {q:Int} (h:yW l q=av) (n:Nat):0<=l.getD n 0/\l.getD n 0<=1000000:=by
 cases hn:l[n]? with
 |none=>rw[getD_none hn];decide
 |some x=>rw[zT hn];have:=(jE h).2.2.1 x (y5o hn);omega
def yAk {l:List Int} {q:Int} (h:yW l q=av) (n:Nat):0<=(hP l q).getD n 0/\(hP l q).getD n 0<=l.getD n 0:=by
 rw[hP,y5f h];obtain⟨a,b,c,d⟩:=jE h;cases hn:l[n]? with
 |none=>
  have:(u0 l q)[n]? =au:=by rw[List.getElem?_eq_none_iff,lS];exact List.getElem?_eq_none_iff.1 hn
  rw[getD_none hn,getD_none this];decide
 |some x=>
  rw[zT hn,zT (zPw l q n x hn)];have:=zHd l q n b (λy hy=>by have:=c y hy;omega);have:=c x (y5o hn);omega
def y2z (i:SpI) (h:splC.cnd i):y1m i:=by
 obtain⟨hl,hq,hle,hpa⟩:i.l.length<=1000000/\yU i.q/\yU i.least/\yU i.part:=h;unfold y1m zEq wH;have no (e:¬(yW i.l i.q=av/\0<=i.part/\i.part<=100/\1<=i.least)):zDt i=[]:=by rw[zDt,y5d e]
 refine⟨⟨i.l,i.q⟩,rfl,rfl,⟨hl,hq⟩,λ_ _=>Cv.cnd.mk (λc=> ?_) (λc=>zI (λd=> ?_) (λd=>zI (λe=> ?_) (λe=>zI (λf=> ?_) (λf=> ?_))))⟩
 ·have c:yW i.l i.q=aw:=by simpa using c
  exact⟨(),by rw[no (by rw[c];simp)];rfl,trivial⟩
 ·exact⟨(),by rw[no (by omega)];rfl,trivial⟩
 ·exact⟨(),by rw[no (by omega)];rfl,trivial⟩
 ·exact⟨(),by rw[no (by omega)];rfl,trivial⟩
 have c:yW i.l i.q=av:=by simpa using c
 obtain⟨h1,h2,h3,h4⟩:=jE c;have hq2:=zLb c;have m0:0<=i.q*i.part:=xBk h2 oM;have m1:i.q*i.part<=i.q*100:=xAa oM h2;have hr:=yKd (r:=i.q*i.part / 100) c oM oM;have es:zDt i=nV i.rs:=by rw[zDt,y5f ⟨c,by omega,by omega,by omega⟩]
 refine⟨⟨i.q,i.part,100⟩,rfl,rfl,rfl,⟨Z9,Z9,Z9,Z9,Z9,Z9⟩,λ_ _=>⟨⟨i.l,i.q*i.part / 100⟩,rfl,rfl,⟨hl,Z9,Z9⟩,λ_ _=>⟨i.rs,rfl,rfl,?_,rfl,⟨h1,?_,?_,hle,?_⟩,λ_ _=>⟨(),by rw[es],trivial⟩⟩⟩⟩
 ·rw[w64 (by dsimp only;omega)];rfl
 ·show(hP i.l (i.q*i.part / 100)).length=i.l.length;rw[hP,y5f hr,lS]
 ·show yU (i.q-i.q*i.part / 100);exact⟨oM,oM⟩
 ·intro n;have a:=yAk hr n;have b:=zDi c n;exact⟨a.1,a.2,b.2⟩
def ySq:splC.ok Tryz.prog 290:=okw mixed (gokc zFq (gokc zQu (gokc z8m (gokc z7c gok0)))) 0 (λ_=>[]) (λ_=>[]) [] Tryz.func290 y2z
def yYd (n:Nat):ac n [D.v (.int .i64 0)]=iE (ac n 0):=by simp[iE]
def zXw (n k:Nat):(ac n (0:Int)).getD k 0=0:=by
 rw[y5m,ak];split<;>rfl
def yKk (n t k:Nat) (x:Int):((ac n (0:Int)).set t x).getD k 0=x/\k=t\/((ac n (0:Int)).set t x).getD k 0=0:=by
 rw[y5m,y8t];split
 ·rename_i e;split
  ·exact .inl ⟨rfl,e.symm⟩
  ·exact .inr rfl
 ·right;rw[<- y5m];exact zXw n k
def y4g (i:PsI) (h:proC.cnd i):yYy i:=by
 obtain⟨hl,hq,hle,hmo⟩:i.l.length<=1000000/\yU i.q/\yU i.least/\yU i.most:=h;unfold yYy zOn eX zLr zPa zEq wH dI;have no (e:¬(yW i.l i.q=av/\1<=i.least/\0<=i.most)):zFm i=[]:=by rw[zFm,y5d e]
 refine⟨⟨i.l,i.q⟩,rfl,rfl,⟨hl,hq⟩,λ_ _=>Cv.cnd.mk (λc=> ?_) (λc=>zI (λd=> ?_) (λd=>zI (λe=> ?_) (λe=> ?_)))⟩
 ·have c:yW i.l i.q=aw:=by simpa using c
  exact⟨(),by rw[no (by rw[c];simp)];rfl,trivial⟩
 ·exact⟨(),by rw[no (by omega)];rfl,trivial⟩
 ·exact⟨(),by rw[no (by omega)];rfl,trivial⟩
 have c:yW i.l i.q=av:=by simpa using c
 obtain⟨h1,h2,h3,h4⟩:=jE c;have hq2:=zLb c;have es:zFm i=nV i.rs:=by rw[zFm,y5f ⟨c,by omega,by omega⟩]
 simp only[y3,y5w,yYd];have out (hn:¬(0<=i.top/\i.top<(i.l.length:Int))):i.rs=⟨i.l,ac i.l.length 0,i.least,i.q⟩:=by rw[PsI.rs,y5d hn]
 have ok0:RsI.ok ⟨i.l,ac i.l.length 0,i.least,i.q⟩:=⟨h1,by simp,hq,hle,λn=>by
  have:=zDi c n;dsimp only;rw[zXw];omega⟩
 refine⟨⟨oM,oM,oM,oM⟩,zI (λa=>zI (λb=> ?_) (λb=> ?_)) (λa=> ?_)⟩
 ·obtain⟨n,hn⟩:=yE (l:=i.l) (i:=i.top.toNat) oM;have hf:i.first=min (min n i.most) i.q:=by rw[PsI.first,zT hn]
  have bn:=h3 n (y5o hn);have hr0:(ac i.l.length (0:Int))[i.top.toNat]? =ar 0:=by rw[ak,y5f (by omega)]
  have ers:i.rs=⟨i.l,(ac i.l.length 0).set i.top.toNat i.first,i.least,i.q-i.first⟩:=by rw[PsI.rs,y5f ⟨by omega,by omega⟩]
  refine⟨⟨oM,oM⟩,n,elI hn,?_⟩;rw[zUx hr0,<- hf];simp only[y3,y6k,y8i];refine⟨⟨oM,oM⟩,oM,⟨oM,oM⟩,i.first,elI (uG hr0),?_⟩;rw[w64 (x:=i.q-i.first) (by omega)];refine⟨⟨i.l,(ac i.l.length 0).set i.top.toNat i.first,i.least,i.q-i.first⟩,rF3 ⟨rfl,⟨h1,by simp,⟨Z9,Z9⟩,hle,λk=> ?_⟩,λ_ _=>⟨(),by rw[es,ers],trivial⟩⟩⟩;have bk:=zDi c k;dsimp only;rcases yKk i.l.length i.top.toNat k i.first with⟨g,gk⟩|g
  ·rw[g,gk,zT hn];omega
  ·rw[g];omega
 ·refine⟨⟨i.l,ac i.l.length 0,i.least,i.q⟩,rF3 ⟨rfl,ok0,λ_ _=>⟨(),by rw[es,out (by omega)],trivial⟩⟩⟩
 ·refine⟨⟨i.l,ac i.l.length 0,i.least,i.q⟩,rF3 ⟨rfl,ok0,λ_ _=>⟨(),by rw[es,out (by omega)],trivial⟩⟩⟩
def ySi:proC.ok Tryz.prog 289:=okw mixed (gokc zFq (gokc z7c gok0)) 0 (λ_=>[]) (λ_=>[]) [] Tryz.func289 y4g
structure AlI where
 p:Prd
 l:List zH
 q:Int
def AlI.qs (i:AlI):List Int:=i.l.map (·.qty)
def kE (i:AlI):List Int:=if i.p.rule=1 then hP i.qs i.q else if i.p.rule=2 then zFm ⟨i.qs,topI i.l,i.p.top,i.p.least,i.q⟩else if i.p.rule=3 then zDt ⟨i.qs,i.p.part,i.p.least,i.q⟩else[]
def allocC:Con:=con1 AlI (λi=>[prdV i.p,roV 5 (i.l.map vB),zA i.q]) (λ_=>[]) (λi=>i.l.length<=1000/\yU i.q/\yU i.p.least/\yU i.p.top/\yU i.p.part) (λ_=> .own 0) (λi=>[.own 2 1 (iE (kE i))])
def yVq (i:AlI):List SAnn:=[{ι:=Nat,slots:=λj=>[(7,.own 0),(13,zA j)],rows:=λj=>[.own 2 1 (iE (i.qs.take j))]}]
def yDj (i:AlI):Prop:=
 ∃(a:Nat),(↑a:Int)=0/\iE (ab a i.qs)=[]/\∃(b:Nat->Prop),∃(c:Nat->Nat),b a/\∀(d:Nat),b d->cnd (decide ((↑d:Int)<(↑(aa vB i.l).length:Int))) ((0<=(↑d:Int)/\(↑d:Int)<(↑(aa vB i.l).length:Int))/\∃(e:Int),∃(f:Int),∃(g:Int),∃(h:Int),∃(j:Bool),zE (aa vB i.l) (↑d:Int).toNat 0 5=ar [dI e,dI f,dI g,dI h,D.v (.bool j)]/\((iE (ab d i.qs)).length+1)*(8:Nat)<=(140737488355328:Nat)/\∃(k:Nat),(↑k:Int)=ap.wrap ((↑d:Int)+1)/\iE (ab k i.qs)=iE (ab d i.qs)++[[dI h]]/\b k/\c k<c d/\dh (ay [V.d (D.v (Value.string (sb i.p.code))),V.own 0,V.d (dI i.p.tick),V.d (dI i.p.low),V.d (dI i.p.high),V.d (dI i.p.wide),V.d (dI i.p.rule),V.d (dI i.p.top),V.d (dI i.p.least),V.d (dI i.p.part),V.own 1] 25)/\dh (az 1 (iE i.p.settle))/\dh (az 1 (iE i.p.months))) (cnd (i.p.rule==1) (∃(e:LqI),iE e.l=iE (ab d i.qs)/\e.q=i.q/\(wH e)/\∀(f:Unit),True->∃(g:Unit),iE (kE i)=iE (hP e.l e.q)/\True) (cnd (i.p.rule==2) (∃(e:List zH),aa vB e=aa vB i.l/\e.length<=1000000/\∀(f:Unit),True->∃(g:PsI),iE g.l=iE (ab d i.qs)/\g.top=topI e/\g.most=i.p.top/\g.least=i.p.least/\g.q=i.q/\(g.l.length<=1000000/\((-9223372036854775808)<=g.q/\g.q<=9223372036854775807)/\((-9223372036854775808)<=g.least/\g.least<=9223372036854775807)/\(-9223372036854775808)<=g.most/\g.most<=9223372036854775807)/\∀(h:Unit),True->∃(j:Unit),iE (kE i)=iE (zFm g)/\True) (cnd (i.p.rule==3) (∃(e:SpI),iE e.l=iE (ab d i.qs)/\e.part=i.p.part/\e.least=i.p.least/\e.q=i.q/\(e.l.length<=1000000/\((-9223372036854775808)<=e.q/\e.q<=9223372036854775807)/\((-9223372036854775808)<=e.least/\e.least<=9223372036854775807)/\(-9223372036854775808)<=e.part/\e.part<=9223372036854775807)/\∀(f:Unit),True->∃(g:Unit),iE (kE i)=iE (zDt e)/\True) (∃(e:Unit),iE (kE i)=[]/\True))))
def yVi (i:AlI) (h:allocC.cnd i):yDj i:=by
 obtain⟨hl,hq,hle,hto,hpa⟩:i.l.length<=1000/\yU i.q/\yU i.p.least/\yU i.p.top/\yU i.p.part:=h;have hql:i.qs.length=i.l.length:=by simp[AlI.qs]
 unfold yDj wH dI;simp only[y3,y5e];refine⟨0,by(first|exact rfl|exact trivial),by(first|exact rfl|exact trivial),λj=>j<=i.l.length,λj=>i.l.length-j,y6l _,λj hj=>zI (λc=> ?_) (λc=> ?_)⟩
 ·have hj':j<i.l.length:=by omega
  obtain⟨o,ho⟩:=yE (l:=i.l) (i:=j) hj';have hqo:i.qs[j]? =ar o.qty:=by rw[AlI.qs,y6u,ho];rfl
  refine⟨⟨oM,oM⟩,o.id,o.side,o.price,o.qty,o.top,yTy ho,by rw[y5v];omega,j+1,wjn oM,?_,hj',Z9,k0q⟩;rw[y6m,hqo];simp[iE]
 have hje:j=i.l.length:=by omega
 subst hje;rw[y5p (l:=i.qs) (by omega)];refine Cv.cnd.mk (λa=> ?_) (λa=>Cv.cnd.mk (λb=> ?_) (λb=>Cv.cnd.mk (λd=> ?_) (λd=> ?_)))
 ·have a:i.p.rule=1:=by simpa using a
  exact⟨⟨i.qs,i.q⟩,rfl,rfl,⟨Z9,hq⟩,λ_ _=>⟨(),by rw[kE,y5f a],trivial⟩⟩
 ·have a:¬i.p.rule=1:=by simpa using a
  have b:i.p.rule=2:=by simpa using b
  exact⟨i.l,rfl,oM,λ_ _=>⟨⟨i.qs,topI i.l,i.p.top,i.p.least,i.q⟩,rF4 ⟨rfl,⟨Z9,hq,hle,hto⟩,λ_ _=>⟨(),by rw[kE,y5d a,y5f b],trivial⟩⟩⟩⟩
 ·have a:¬i.p.rule=1:=by simpa using a
  have b:¬i.p.rule=2:=by simpa using b
  have d:i.p.rule=3:=by simpa using d
  exact⟨⟨i.qs,i.p.part,i.p.least,i.q⟩,rF3 ⟨rfl,⟨Z9,hq,hle,hpa⟩,λ_ _=>⟨(),by rw[kE,y5d a,y5d b,y5f d],trivial⟩⟩⟩
 ·have a:¬i.p.rule=1:=by simpa using a
  have b:¬i.p.rule=2:=by simpa using b
  have d:¬i.p.rule=3:=by simpa using d
  exact⟨(),by rw[kE,y5d a,y5d b,y5d d];rfl,trivial⟩
def yJe:allocC.ok Tryz.prog 263:=okw mixed (gokc z8m (gokc yCr (gokc ySi (gokc ySq gok0)))) 0 (λ_=>[]) (λi=>yVq i) [] Tryz.func263 yVi
def vM (l:List Nat) (t:Int):Int:=match l with
 |[]=>t
 |k::_=>k
def kT:List Nat->Int->Int
 |[],p=>p
 |k::l,_=>kT l k
structure zTy (s:Slot) (n k:Nat) (p t:Int):Prop where
 used:s.used=av
 no:s.n=k
 queue:s.queue=n
 ahead:s.ahead=p
 back:s.back=t
 q1:0<=s.qty
 q2:s.qty<=1000000
def seg (sl:List Slot) (n:Nat):Int->List Nat->Int->Prop
 |_,[],_=>True
 |p,k::l,t=>(∃s,sl[k]? =ar s/\zTy s n k p (vM l t))/\seg sl n k l t
def zJc (l1 l2:List Nat) (t:Int):vM (l1++l2) t=vM l1 (vM l2 t):=by cases l1<;>rfl
def bU:∀(l1 l2:List Nat) (p:Int),kT (l1++l2) p=kT l2 (kT l1 p)
 |[],l2,p=>rfl
 |k::l1,l2,p=>bU l1 l2 k
def zBa {sl:List Slot} {n:Nat}:∀{l1 l2:List Nat} {p t:Int},seg sl n p (l1++l2) t↔seg sl n p l1 (vM l2 t)/\seg sl n (kT l1 p) l2 t
 |[],l2,p,t=>by simp[seg,kT]
 |k::l1,l2,p,t=>by
  rw[y6v,seg,seg,zJc,zBa,kT,and_assoc]
def z9e {sl:List Slot} {n k:Nat}:∀{l:List Nat} {p t:Int},seg sl n p l t->k∈l->∃s p' t',sl[k]? =ar s/\zTy s n k p' t'
 |j::l,p,t,h,hk=>by
  rcases y5y.1 hk with rfl|hk
  ·obtain⟨⟨s,h1,h2⟩,_⟩:=h;exact⟨s,_,_,h1,h2⟩
  ·exact z9e h.2 hk
def vG {sl sl':List Slot} {n:Nat}:∀{l:List Nat} {p t:Int},(∀k∈l,sl'[k]? =sl[k]?)->seg sl n p l t->seg sl' n p l t
 |[],p,t,_,h=>h
 |k::l,p,t,e,⟨⟨s,h1,h2⟩,h3⟩=>⟨⟨s,by rw[e k y5j];exact h1,h2⟩,vG (λj hj=>e j (y5l _ hj)) h3⟩
def dN {α:Type} {l:List α} {f:α->α} {i j:Nat} (h:i≠j):(l.modify i f)[j]? =l[j]? :=by rw[ae];cases l[j]? <;>simp[h]
def eO {α:Type} {l:List α} {f:α->α} {i:Nat} {x:α} (h:l[i]? =ar x):(l.modify i f)[i]? =ar (f x):=by rw[ae,h];simp
def vY {α:Type} {l:List α} {x:α} {i j:Nat} (h:i≠j):(l.set i x)[j]? =l[j]? :=by rw[y8t,y5d h]
def fN {α:Type} {l:List α} {x:α} {i:Nat} (h:i<l.length):(l.set i x)[i]? =ar x:=by rw[y8t,y5f rfl,y5f h]
def bL {α:Type} {Q:List α} {n m:Nat} {x y:α} (h:(Q.set n x)[m]? =ar y):(m=n/\y=x)\/(m≠n/\Q[m]? =ar y):=by
 by_cases e:n=m
 ·subst e;have hn:n<Q.length:=by
   have:=(y5h.1 h).1;simpa using this
  rw[fN hn]at h;cases h;exact .inl ⟨rfl,rfl⟩
 ·rw[vY e]at h;exact .inr ⟨λc=>e c.symm,h⟩
def z0q {sl:List Slot} {n k:Nat} {l:List Nat} {p t:Int} (t':Int) (hk:k∉l) (h:seg sl n p (l++[k]) t):seg (sl.modify k λs=>{s with back:=t'}) n p (l++[k]) t':=by
 rw[zBa]at h ⊢;obtain⟨h1,⟨s,h2,h3⟩,_⟩:=h;refine⟨vG (λj hj=>dN (λe=>hk (e▸hj))) h1,⟨_,eO h2,?_⟩,trivial⟩;exact⟨h3.used,h3.no,h3.queue,h3.ahead,rfl,h3.q1,h3.q2⟩
def yBx {sl:List Slot} {n k:Nat} {l:List Nat} {p t:Int} (p':Int) (hk:k∉l) (h:seg sl n p (k::l) t):seg (sl.modify k λs=>{s with ahead:=p'}) n p' (k::l) t:=by
 obtain⟨⟨s,h1,h2⟩,h3⟩:=h;refine⟨⟨_,eO h1,?_⟩,vG (λj hj=>dN (λe=>hk (e▸hj))) h3⟩;exact⟨h2.used,h2.no,h2.queue,rfl,h2.back,h2.q1,h2.q2⟩
def wM (l:List Nat):l=[]\/∃(x:List Nat) (j:Nat),l=x++[j]/\∀p:Int,kT l p=(j:Int):=by
 rcases List.eq_nil_or_concat l with rfl|⟨x,j,rfl⟩
 ·exact .inl rfl
 ·exact .inr ⟨x,j,by simp,λp=>by rw[List.concat_eq_append,bU];rfl⟩
def pA (l:List Nat):kT l (-1)= -1↔l=[]:=by
 rcases wM l with rfl|⟨x,j,rfl,e⟩
 ·simp[kT]
 ·rw[e];simp
def zSt (l:List Nat):vM l (-1)= -1↔l=[]:=by
 cases l with
 |nil=>simp[vM]
 |cons k l=>simp only[vM];constructor
            ·intro h;omega
            ·intro h;cases h
def zAi {α β:Type} {g:α->β} {f:α->α} (h:∀x,g (f x)=g x):∀(l:List α) (i:Nat),(l.modify i f).map g=l.map g
 |[],i=>by simp
 |a::l,0=>by simp[h]
 |a::l,i+1=>by rw[xAn,y5s,y5s,zAi h l i]
def zPb:∀(m:Nat) {l:List Nat},l.Nodup->(∀k∈l,k<m)->l.length<=m
 |0,[],_,_=>y5z 0
 |0,k::l,_,h=>absurd (h k y5j) oM
 |m+1,l,hn,h=>by
  have:=zPb m (hn.erase m) λk hk=>by
   have:=(hn.mem_erase_iff).1 hk;have:=h k this.2;omega
  by_cases hm:m∈l
  ·rw[aj hm]at this;omega
  ·rw[List.erase_of_not_mem hm]at this;omega
def z8d {f g:Nat->Int} {k:Nat}:∀{l:List Nat},l.Nodup->k∈l->(∀j∈l,j≠k->g j=f j)->(l.map g).sum=(l.map f).sum+(g k-f k)
 |j::l,hn,hk,h=>by
  have hn:=y7u.1 hn;rw[y5s,y5s,y6t,y6t];rcases y5y.1 hk with rfl|hk
  ·have:l.map g=l.map f:=y6n λi hi=>h i (y5l _ hi) (λe=>hn.1 (e▸hi))
   rw[this];omega
  ·have e:=h j y5j (λe=>hn.1 (e▸hk));rw[z8d hn.2 hk (λi hi=>h i (y5l _ hi)),e];omega
def yGk {f:Nat->Int} {m:Int}:∀{l:List Nat},(∀j∈l,0<=f j/\f j<=m)->0<=(l.map f).sum/\(l.map f).sum<=m*l.length
 |[],_=>by simp
 |j::l,h=>by
  have:=h j y5j;have:=yGk (l:=l) λi hi=>h i (y5l _ hi)
  rw[y5s,y6t,y5i,Int.natCast_add,Int.mul_add];simp only[Int.natCast_one,Int.mul_one];omega
def Arena.qsum (a:Arena) (l:List Nat):Int:=(l.map λk=>(a.slotAt k).qty).sum
structure Arena.Wf0 (a:Arena) (Q:List (List Nat)):Prop where
 len:a.slots.length=250
 ql:a.queues.length=Q.length
 q:∀(n:Nat) (l:List Nat),Q[n]? =ar l->a.queues[n]? =ar ⟨vM l (-1),kT l (-1),a.qsum l,l.length⟩
 sg:∀(n:Nat) (l:List Nat),Q[n]? =ar l->seg a.slots n (-1) l (-1)
 nd:∀(n:Nat) (l:List Nat),Q[n]? =ar l->l.Nodup
 us:∀(k:Nat) (s:Slot),a.slots[k]? =ar s->s.used=av->∃(n:Nat) (l:List Nat),Q[n]? =ar l/\k∈l
 free:a.free=((a.slots.map (·.used)).countP (!·):Nat)
structure Arena.Wf (a:Arena) (Q:List (List Nat)):Prop extends a.Wf0 Q where
 pos:∀(n:Nat) (l:List Nat),Q[n]? =ar l->∀k∈l,1<=(a.slotAt k).qty
def Arena.Wf0.mem {a:Arena} {Q:List (List Nat)} (h:a.Wf0 Q) {n k:Nat} {l:List Nat} (hl:Q[n]? =ar l) (hk:k∈l):k<250/\(∃p t,zTy (a.slotAt k) n k p t)/\a.slots[k]? =ar (a.slotAt k):=by
 obtain⟨s,p,t,h1,h2⟩:=z9e (h.sg n l hl) hk;have e:a.slotAt k=s:=zT h1;have hlt:=(y5h.1 h1).1;rw[h.len]at hlt;exact⟨hlt,⟨p,t,by rw[e];exact h2⟩,by rw[e];exact h1⟩
def Arena.Wf0.one {a:Arena} {Q:List (List Nat)} (h:a.Wf0 Q) {n m k:Nat} {l l':List Nat} (hl:Q[n]? =ar l) (hl':Q[m]? =ar l') (hk:k∈l) (hk':k∈l'):n=m:=by
 obtain⟨_,⟨_,_,h1⟩,_⟩:=h.mem hl hk;obtain⟨_,⟨_,_,h2⟩,_⟩:=h.mem hl' hk';have:=h1.queue;have:=h2.queue;omega
def Arena.Wf0.short {a:Arena} {Q:List (List Nat)} (h:a.Wf0 Q) {n:Nat} {l:List Nat} (hl:Q[n]? =ar l):l.length<=250:=zPb 250 (h.nd n l hl) λk hk=>(h.mem hl hk).1
def aJ {a a':Arena} {l:List Nat} (h:∀k∈l,(a'.slotAt k).qty=(a.slotAt k).qty):a'.qsum l=a.qsum l:=by rw[Arena.qsum,Arena.qsum,y6n h]
def Arena.Wf0.sum {a:Arena} {Q:List (List Nat)} (h:a.Wf0 Q) {n:Nat} {l:List Nat} (hl:Q[n]? =ar l):0<=a.qsum l/\a.qsum l<=250000000:=by
 have:=yGk (f:=λk=>(a.slotAt k).qty) (m:=1000000) (l:=l) λj hj=>by
  obtain⟨_,⟨_,_,h1⟩,_⟩:=h.mem hl hj;exact⟨h1.q1,h1.q2⟩
 have:=h.short hl;rw[Arena.qsum];omega
def zRa {sl:List Slot} {n:Nat}:∀{l:List Nat} {p:Int},seg sl n p l (-1)->zXg sl (vM l (-1)) l
 |[],p,_=>rfl
 |k::l,p,⟨⟨s,h1,h2⟩,h3⟩=>by
  refine⟨rfl,(y5h.1 h1).1,?_⟩;rw[zT h1,h2.back];exact zRa h3
def Arena.Wf0.ok {a:Arena} {Q:List (List Nat)} (h:a.Wf0 Q):a.okAt:=by
 refine⟨by rw[h.len];decide,λk s hk hu=> ?_⟩;obtain⟨n,l,hl,hkl⟩:=h.us k s hk hu;have hQ:=(y5h.1 hl).1;have hql:=h.ql;obtain⟨l1,l2,rfl⟩:=List.append_of_mem hkl;have hsg:=h.sg n _ hl;have hnd:=h.nd n _ hl;rw[zBa]at hsg;obtain⟨_,⟨s',h1,h2⟩,_⟩:=hsg;rw[hk]at h1;cases h1;have hq:=h2.queue;have hd:=y7n.1 hnd;have hd2:=y7u.1 hd.2.1;refine⟨⟨oM,oM⟩,h2.q2,?_,?_⟩
 ·rw[h2.ahead];rcases wM l1 with rfl|⟨x,j,rfl,e⟩
  ·exact .inl rfl
  ·have hj:j∈x++[j]:=by simp
   have hjl:=(h.mem hl (y6w _ hj)).1;rw[e,h.len];refine .inr ⟨oM,oM,λe2=> ?_⟩;have:j=k:=by omega
   exact hd.2.2 j hj k y5j this
 ·rw[h2.back];cases l2 with
  |nil=>exact .inl rfl
  |cons j x=>
   have hjl:=(h.mem hl (y6z _ (y5l _ y5j))).1;rw[vM,h.len];refine .inr ⟨oM,oM,λe2=> ?_⟩;have:j=k:=by omega
   exact hd2.1 (this▸y5j)
def Arena.Wf0.open {a:Arena} {Q:List (List Nat)} (h:a.Wf0 Q):a.openQ.Wf0 (Q++[[]]):=by
 have g:∀{n:Nat} {l:List Nat},(Q++[[]])[n]? =ar l->Q[n]? =ar l\/(n=Q.length/\l=[]):=by
  intro n l hl;rw[List.getElem?_append]at hl;split at hl
  ·exact .inl hl
  ·rename_i hn;have:=(y5h.1 hl).1;simp only[y7f]at this;have e:n-Q.length=0:=by omega
   rw[e]at hl;cases hl;exact .inr ⟨oM,rfl⟩
 refine⟨h.len,by simp[Arena.openQ,h.ql],λn l hl=> ?_,λn l hl=> ?_,λn l hl=> ?_,λk s hk hu=> ?_,h.free⟩
 ·rcases g hl with hl|⟨rfl,rfl⟩
  ·show(a.queues++[mK])[n]? =_;rw[y7y (by have:=(y5h.1 hl).1;have:=h.ql;omega)];exact h.q n l hl
  ·show(a.queues++[mK])[_]? =_;rw[<- h.ql,y7h (y5z _),xAr];rfl
 ·rcases g hl with hl|⟨rfl,rfl⟩
  ·exact h.sg n l hl
  ·trivial
 ·rcases g hl with hl|⟨rfl,rfl⟩
  ·exact h.nd n l hl
  ·exact List.nodup_nil
 ·obtain⟨n,l,hl,hkl⟩:=h.us k s hk hu;exact⟨n,l,by rw[y7y (y5h.1 hl).1];exact hl,hkl⟩
def Arena.Wf.open {a:Arena} {Q:List (List Nat)} (h:a.Wf Q):a.openQ.Wf (Q++[[]]):=by
 refine⟨h.toWf0.open,λn l hl k hk=> ?_⟩;rw[List.getElem?_append]at hl;split at hl
 ·exact h.pos n l hl k hk
 ·have:=(y5h.1 hl).1;simp only[y7f]at this;have e:n-Q.length=0:=by omega
  rw[e]at hl;cases hl;cases hk
def zNt {sl sl':List Slot} {n:Nat}:∀{l:List Nat} {p t:Int},(∀k∈l,∀s,sl[k]? =ar s->∃s',sl'[k]? =ar s'/\s'.used=s.used/\s'.n=s.n/\s'.queue=s.queue/\s'.ahead=s.ahead/\s'.back=s.back/\0<=s'.qty/\s'.qty<=1000000)->seg sl n p l t->seg sl' n p l t
 |[],p,t,_,h=>h
 |k::l,p,t,e,⟨⟨s,h1,h2⟩,h3⟩=>by
  obtain⟨s',q0,q1,q2,q3,q4,q5,q6,q7⟩:=e k y5j s h1;exact⟨⟨s',q0,⟨q1.trans h2.used,q2.trans h2.no,q3.trans h2.queue,q4.trans h2.ahead,q5.trans h2.back,q6,q7⟩⟩,zNt (λj hj=>e j (y5l _ hj)) h3⟩
def zUd (a:Arena) (n:Int) (t:Bool) (j:Nat):(a.topF n t).slotAt j=if a.usedAt n=av/\j=n.toNat then{a.slotAt j with top:=t}else a.slotAt j:=by
 rw[Arena.topF];by_cases hu:a.usedAt n=av
 ·rw[y5f hu];by_cases e:j=n.toNat
  ·subst e;rw[y5f ⟨hu,rfl⟩];have hlt:n.toNat<a.slots.length:=by
    simp only[Arena.usedAt,y5r,y6s]at hu;omega
   show(a.slots.modify n.toNat _).getD n.toNat slot0=_;obtain⟨s,hs⟩:=yE hlt;rw[zT (eO hs),xP hs]
  ·rw[y5d (λh=>e h.2)];show(a.slots.modify n.toNat _).getD j slot0=a.slots.getD j slot0;rw[y5m,dN (λh=>e h.symm),y5m]
 ·rw[y5d hu,y5d (λh=>hu h.1)]
def Arena.Wf.top {a:Arena} {Q:List (List Nat)} (h:a.Wf Q) (n:Int) (t:Bool):(a.topF n t).Wf Q:=by
 have hq:∀j,((a.topF n t).slotAt j).qty=(a.slotAt j).qty:=by
  intro j;rw[zUd];split<;>rfl
 by_cases hu:a.usedAt n=av
 ·have e:a.topF n t={a with slots:=a.slots.modify n.toNat λs=>{s with top:=t}}:=by rw[Arena.topF,y5f hu]
  have hm:∀(k:Nat) (s:Slot),a.slots[k]? =ar s->∃s',(a.topF n t).slots[k]? =ar s'/\s'.used=s.used/\s'.n=s.n/\s'.queue=s.queue/\s'.ahead=s.ahead/\s'.back=s.back/\s'.qty=s.qty:=by
   intro k s hk;rw[e];by_cases ek:n.toNat=k
   ·subst ek;exact⟨_,eO hk,rfl,rfl,rfl,rfl,rfl,rfl⟩
   ·exact⟨s,by rw[dN ek];exact hk,rF5 rfl⟩
  have hl:(a.topF n t).slots.length=250:=by rw[e];simpa using h.len
  have hmu:(a.topF n t).slots.map (·.used)=a.slots.map (·.used):=by rw[e];exact zAi (g:=λs:Slot=>s.used) (f:=λs:Slot=>{s with top:=t}) (λ_=>rfl) _ _
  refine⟨⟨hl,by rw[e];exact h.ql,λm l hm'=> ?_,λm l hm'=> ?_,h.nd,λk s hk hs=> ?_,by rw[hmu];rw[e];exact h.free⟩,λm l hm' k hk=>by rw[hq];exact h.pos m l hm' k hk⟩
  ·rw[aJ λk _=>hq k];rw[e];exact h.q m l hm'
  ·refine zNt (λk hk s hs=> ?_) (h.sg m l hm');obtain⟨s',q0,q1,q2,q3,q4,q5,q6⟩:=hm k s hs;obtain⟨_,⟨_,_,h2⟩,h3⟩:=h.mem hm' hk;rw[hs]at h3;cases h3;exact⟨s',q0,q1,q2,q3,q4,q5,by rw[q6];exact h2.q1,by rw[q6];exact h2.q2⟩
  ·have hlt:=(y5h.1 hk).1;rw[hl,<- h.len]at hlt;obtain⟨s0,h0⟩:=yE hlt;obtain⟨s',q0,q1,_⟩:=hm k s0 h0;rw[hk]at q0;cases q0;exact h.us k s0 h0 (by rw[<- q1];exact hs)
 ·have e:a.topF n t=a:=by rw[Arena.topF,y5d hu]
  rw[e];exact h
def zMl {sl:List Slot} {k:Nat} {s x:Slot} (hk:sl[k]? =ar s):((sl.set k x).map (·.used)).countP (!·)+(if s.used=av then 0 else 1)=(sl.map (·.used)).countP (!·)+(if x.used=av then 0 else 1):=by
 have hlt:=(y5h.1 hk).1;have e:(sl.map (·.used))[k]'(by simpa using hlt)=s.used:=by
  rw[List.getElem_map,(y5h.1 hk).2]
 rw[List.map_set,List.countP_set (by simpa using hlt),e];have hp:s.used=aw->1<=(sl.map (·.used)).countP (!·):=by
  intro h;apply List.countP_pos_iff.2;exact⟨s.used,y6i (y5o hk),by rw[h];rfl⟩
 generalize (sl.map (·.used)).countP (!·)=c at hp ⊢
 cases h1:s.used<;>cases h2:x.used
 all_goals
  simp only[h1,xAf,Bool.not_true,y5x,↓reduceIte,if_true,if_false]at hp ⊢
  try have hp:=hp trivial
  omega
def z6r {sl:List Slot}:(sl.map (·.used)).countP (!·)<=sl.length:=by
 have:=List.countP_le_length (p:=λb:Bool=> !b) (l:=sl.map (·.used))
 simpa using this
def Arena.Wf0.unused {a:Arena} {Q:List (List Nat)} (h:a.Wf0 Q) (hf:a.free≠0):∃k:Nat,kU a.slots=k/\k<250/\a.slots[k]? =ar (a.slotAt k)/\(a.slotAt k).used=aw/\∀(n:Nat) (l:List Nat),Q[n]? =ar l->k∉l:=by
 have hx:∃s∈a.slots,s.used=aw:=by
  have hp:0<(a.slots.map (·.used)).countP (!·):=by have:=h.free;omega
  obtain⟨b,hb,hb2⟩:=List.countP_pos_iff.1 hp;obtain⟨s,hs,rfl⟩:=y6q.1 hb;exact⟨s,hs,by simpa using hb2⟩
 obtain⟨s,hs,hu⟩:=hx;cases hi:a.slots.findIdx? λs=> !s.used with
 |none=>
  rw[y9v]at hi;have:=hi s hs;rw[hu]at this;cases this
 |some k=>
  have hi':=hi;rw[y8m]at hi;obtain⟨hk,hku,_⟩:=hi;have hk1:a.slots[k]? =ar a.slots[k]:=y6f hk;have e:=xP hk1;rw[<- e]at hku;have hku:(a.slotAt k).used=aw:=by simpa using hku
  refine⟨k,by rw[kU,hi'];rfl,by rw[<- h.len];exact hk,by rw[e];exact hk1,hku,λn l hl hkl=> ?_⟩;obtain⟨_,⟨_,_,h2⟩,_⟩:=h.mem hl hkl;have:=h2.used;rw[hku]at this;cases this
def Arena.Wf.put {a:Arena} {Q:List (List Nat)} (h:a.Wf Q) {n:Nat} {l:List Nat} (hl:Q[n]? =ar l) (hf:a.free≠0) {id qty:Int} (top:Bool) (hq:1<=qty/\qty<=1000000):
 ∃k:Nat,kU a.slots=k/\k<250/\(a.slotAt k).used=aw/\(∀(m:Nat) (l:List Nat),Q[m]? =ar l->k∉l)/\(a.put n id qty top).Wf (Q.set n (l++[k]))/\
  (∀j,((a.put n id qty top).slotAt j).ent=if j=k then⟨k,id,qty,top⟩else(a.slotAt j).ent)/\(a.put n id qty top).free=a.free-1:=by
 obtain⟨k,hk,hk2,hk1,hku,hkn⟩:=h.toWf0.unused hf;have hkl:=hkn n l hl;have hnQ:=(y5h.1 hl).1;have hqn:=h.q n l hl;have hnq:a.queues.getD n mK=⟨vM l (-1),kT l (-1),a.qsum l,l.length⟩:=zT hqn;have hsum:=h.toWf0.sum hl;have hsh:=h.toWf0.short hl;have hlen:=h.len;have hcl:=z6r (sl:=a.slots);have hfree:=h.free;obtain⟨x,hx⟩:∃x:Slot,x=⟨av,k,id,qty,top,n,kT l (-1),-1⟩:=⟨_,rfl⟩
 have hS:(a.put n id qty top).slots=if kT l (-1)= -1 then a.slots.set k x else(a.slots.set k x).modify (kT l (-1)).toNat λs=>{s with back:=k}:=by
  simp only[Arena.put,y5w,hnq,hk,hx]
 have hQs:(a.put n id qty top).queues=a.queues.set n ⟨vM (l++[k]) (-1),k,a.qsum l+qty,(l.length:Int)+1⟩:=by
  simp only[Arena.put,y5w,hnq,hk];rw[w64 (by omega),w64 (by omega)];congr 2;by_cases e:l=[]
  ·subst e;rfl
  ·rw[y5d (λc=>e ((pA l).1 c)),zJc];cases l with
   |nil=>exact absurd rfl e
   |cons y ys=>rfl
 have hF:(a.put n id qty top).free=a.free-1:=by
  simp only[Arena.put];rw[w64 (by omega)]
 have hset:(a.slots.set k x)[k]? =ar x:=fN oM;have hlo:kT l (-1)= -1\/∃(y:List Nat) (j:Nat),l=y++[j]/\kT l (-1)=(j:Int):=by
  rcases wM l with e|⟨y,j,e,e2⟩
  ·exact .inl ((pA l).2 e)
  ·exact .inr ⟨y,j,e,e2 _⟩
 have hoth:∀j,j≠k->(kT l (-1)≠(j:Int))->(a.put n id qty top).slots[j]? =a.slots[j]? :=by
  intro j hj hj2;rw[hS];split
  ·exact vY (λe=>hj e.symm)
  ·rcases hlo with e|⟨y,i,_,e⟩
   ·contradiction
   ·rw[dN (by omega),vY (λe=>hj e.symm)]
 have hself:(a.put n id qty top).slots[k]? =ar x:=by
  rw[hS];split
  ·exact hset
  ·rcases hlo with e|⟨y,i,e1,e⟩
   ·contradiction
   ·have:i≠k:=by rintro rfl;exact hkl (by rw[e1];simp)
    rw[dN (by omega)];exact hset
 have hlike:∀j,j≠k->((a.put n id qty top).slotAt j).ent=(a.slotAt j).ent/\((a.put n id qty top).slotAt j).used=(a.slotAt j).used/\((a.put n id qty top).slotAt j).qty=(a.slotAt j).qty:=by
  intro j hj;by_cases c:kT l (-1)=(j:Int)
  ·have e:(a.put n id qty top).slots=(a.slots.set k x).modify j λs=>{s with back:=k}:=by
    rw[hS,y5d (by omega),c];rfl
   by_cases hjl:j<a.slots.length
   ·obtain⟨s,hs⟩:=yE hjl;have h1:(a.put n id qty top).slots[j]? =ar {s with back:=k}:=by rw[e];exact eO (by rw[vY (λe=>hj e.symm)];exact hs)
    rw[xP h1,xP hs];exact⟨rfl,rfl,rfl⟩
   ·have h1:(a.put n id qty top).slots[j]? =au:=y6j (by rw[e];simpa using hjl);have h2:a.slots[j]? =au:=y6j oM;rw[Arena.slotAt,Arena.slotAt,y5m,y5m,h1,h2];exact⟨rfl,rfl,rfl⟩
  ·have:=hoth j hj c;rw[Arena.slotAt,Arena.slotAt,y5m,y5m,this];exact⟨rfl,rfl,rfl⟩
 have hselfA:(a.put n id qty top).slotAt k=x:=xP hself;have hent:∀j,((a.put n id qty top).slotAt j).ent=if j=k then⟨k,id,qty,top⟩else(a.slotAt j).ent:=by
  intro j;split
  ·rename_i e;rw[e,hselfA,hx];rfl
  ·rename_i e;exact(hlike j e).1
 have gQ:∀{m:Nat} {l':List Nat},(Q.set n (l++[k]))[m]? =ar l'->(m=n/\l'=l++[k])\/(m≠n/\Q[m]? =ar l'):=by
  intro m l' hm;exact bL hm
 have hsgn:seg (a.put n id qty top).slots n (-1) (l++[k]) (-1):=by
  rw[zBa];refine⟨?_,⟨x,hself,?_⟩,trivial⟩
  ·rcases wM l with e|⟨y,j,e,e2⟩
   ·subst e;trivial
   ·have h0:=h.sg n l hl;have hnd:=h.nd n l hl;rw[hS,y5d (by rw[e2];omega),e2,y5w];rw[e]at h0 hnd hkl ⊢;have hd:=y7n.1 hnd;refine z0q (k:Int) (λhj=>hd.2.2 j hj j y5j rfl) (t:= -1) ?_;exact vG (λi hi=>vY (λe=>hkl (e▸hi))) h0
  ·rw[hx];exact⟨rfl,rfl,rfl,rfl,rfl,Z9,hq.2⟩
 refine⟨k,hk,hk2,hku,hkn,⟨⟨?_,?_,?_,?_,?_,?_,?_⟩,?_⟩,hent,hF⟩
 ·rw[hS];split<;>simp[hlen]
 ·rw[hQs];simp[h.ql]
 ·intro m l' hm;rcases gQ hm with⟨rfl,rfl⟩|⟨e,hm⟩
  ·rw[hQs,fN (by rw[h.ql];exact hnQ),bU];have:(a.put m id qty top).qsum (l++[k])=a.qsum l+qty:=by
    rw[Arena.qsum,y5n,xBh];have e1:l.map (λk=>((a.put m id qty top).slotAt k).qty)=l.map λk=>(a.slotAt k).qty:=y6n λj hj=>(hlike j (λe=>hkl (e▸hj))).2.2
    rw[e1];simp only[y5s,y8v,y6t,List.sum_nil,hselfA];rw[hx,Arena.qsum];dsimp only;omega
   rw[this];simp[kT]
  ·rw[hQs,vY (λc=>e c.symm),h.q m l' hm,aJ];intro j hj;exact(hlike j (λe=>hkn m l' hm (e▸hj))).2.2.symm
 ·intro m l' hm;rcases gQ hm with⟨rfl,rfl⟩|⟨e,hm⟩
  ·exact hsgn
  ·refine vG (λj hj=>hoth j (λe=>hkn m l' hm (e▸hj)) λc=> ?_) (h.sg m l' hm);rcases hlo with e2|⟨y,i,e1,e2⟩
   ·omega
   ·have:i=j:=by omega
    exact e (h.toWf0.one hm hl hj (by rw[e1];simp[this]))
 ·intro m l' hm;rcases gQ hm with⟨rfl,rfl⟩|⟨e,hm⟩
  ·refine y7n.2 ⟨h.nd m l hl,by simp,?_⟩;rintro i hi j hj rfl;rw[y6p.1 hj]at hi;exact hkl hi
  ·exact h.nd m l' hm
 ·intro j s hj hs;by_cases e:j=k
  ·exact⟨n,l++[k],fN hnQ,by rw[e];simp⟩
  ·have hu:(a.slotAt j).used=av:=by rw[<- (hlike j e).2.1,xP hj];exact hs
   have hjl:j<a.slots.length:=by
    have:=(y5h.1 hj).1;rw[hS]at this;split at this<;>simpa using this
   obtain⟨s',hs'⟩:=yE hjl;rw[xP hs']at hu;obtain⟨m,l',hm,hjm⟩:=h.us j s' hs' hu;by_cases em:m=n
   ·subst em;rw[hl]at hm;cases hm;exact⟨m,l++[k],fN hnQ,y6w _ hjm⟩
   ·exact⟨m,l',by rw[vY (λc=>em c.symm)];exact hm,hjm⟩
 ·have hmu:(a.put n id qty top).slots.map (·.used)=(a.slots.set k x).map (·.used):=by
   rw[hS];split
   ·rfl
   ·exact zAi (g:=λs:Slot=>s.used) (f:=λs:Slot=>{s with back:=k}) (λ_=>rfl) _ _
  have:=zMl (x:=x) hk1;rw[hku,y5d (by decide),show x.used=av by rw[hx],y5f rfl]at this;rw[hmu,hF,hfree];omega
 ·intro m l' hm j hj;rcases gQ hm with⟨rfl,rfl⟩|⟨e,hm⟩
  ·rcases y6g.1 hj with hj|hj
   ·rw[(hlike j (λe=>hkl (e▸hj))).2.2];exact h.pos m l hl j hj
   ·rw[y6p.1 hj,hselfA,hx];exact hq.1
  ·rw[(hlike j (λe=>hkn m l' hm (e▸hj))).2.2];exact h.pos m l' hm j hj
def zEi (a:Arena) (k:Nat) (q:Int) (j:Nat) (hk:k<a.slots.length):(a.less k q).slotAt j=if j=k then{a.slotAt j with qty:=(a.slotAt j).qty-q}else a.slotAt j:=by
 split
 ·rename_i e;subst e;obtain⟨s,hs⟩:=yE hk;rw[xP hs,xP (a:=a.less j q) (eO hs)]
 ·rename_i e;show(a.slots.modify k _).getD j slot0=a.slots.getD j slot0;rw[y5m,dN (λc=>e c.symm),y5m]
def Arena.Wf0.less {a:Arena} {Q:List (List Nat)} (h:a.Wf0 Q) {n k:Nat} {l:List Nat} (hl:Q[n]? =ar l) (hk:k∈l) {q:Int} (hq:0<=q/\q<=(a.slotAt k).qty):(a.less k q).Wf0 Q:=by
 obtain⟨hk2,⟨p,t,hs⟩,hk1⟩:=h.mem hl hk;have hkl:k<a.slots.length:=by rw[h.len];exact hk2
 have hqt:(a.slotAt k).queue.toNat=n:=by rw[hs.queue];exact y5w n
 have hm:∀(j:Nat) (s:Slot),a.slots[j]? =ar s->∃s',(a.less k q).slots[j]? =ar s'/\s'.used=s.used/\s'.n=s.n/\s'.queue=s.queue/\s'.ahead=s.ahead/\s'.back=s.back:=by
  intro j s hj;by_cases e:k=j
  ·subst e;exact⟨_,eO hj,rfl,rfl,rfl,rfl,rfl⟩
  ·exact⟨s,by rw[show(a.less k q).slots=a.slots.modify k _ from rfl,dN e];exact hj,rfl,rfl,rfl,rfl,rfl⟩
 have hsl:(a.less k q).slots.length=250:=by simpa[Arena.less]using h.len
 have hqs:(a.less k q).queues=a.queues.modify n λx=>{x with total:=ap.wrap (x.total-q)}:=by rw[Arena.less,hqt]
 have hmu:(a.less k q).slots.map (·.used)=a.slots.map (·.used):=zAi (g:=λs:Slot=>s.used) (f:=λs:Slot=>{s with qty:=s.qty-q}) (λ_=>rfl) _ _
 refine⟨hsl,by rw[hqs];simpa using h.ql,λm l' hm'=> ?_,λm l' hm'=> ?_,h.nd,λj s hj hu=> ?_,by rw[hmu];exact h.free⟩
 ·by_cases e:n=m
  ·subst e;rw[hl]at hm';cases hm';rw[hqs,eO (h.q n l hl)];have hsum:=h.sum hl;have e2:(a.less k q).qsum l=a.qsum l-q:=by
    rw[Arena.qsum,Arena.qsum,z8d (k:=k) (f:=λk=>(a.slotAt k).qty) (h.nd n l hl) hk]
    ·rw[zEi a k q k hkl,y5f rfl];dsimp only;omega
    ·intro j _ hj;rw[zEi a k q j hkl,y5d hj]
   have h1:=hs.q2;rw[e2];dsimp only;rw[w64 (by omega)]
  ·rw[hqs,dN e,h.q m l' hm',aJ];intro j hj;have:j≠k:=λc=>e (h.one hl hm' hk (c▸hj))
   rw[zEi a k q j hkl,y5d this]
 ·refine zNt (λj hj s hs'=> ?_) (h.sg m l' hm');obtain⟨s',q0,q1,q2,q3,q4,q5⟩:=hm j s hs';refine⟨s',q0,q1,q2,q3,q4,q5,?_⟩;have e:=xP q0;rw[<- e,zEi a k q j hkl];obtain⟨_,⟨_,_,h2⟩,h3⟩:=h.mem hm' hj;have:=h2.q1;have:=h2.q2;split
  ·rename_i c;subst c;dsimp only;omega
  ·omega
 ·have hlt:=(y5h.1 hj).1;rw[hsl,<- h.len]at hlt;obtain⟨s0,h0⟩:=yE hlt;obtain⟨s',q0,q1,_⟩:=hm j s0 h0;rw[hj]at q0;cases q0;exact h.us j s0 h0 (by rw[<- q1];exact hu)
def Arena.Wf0.drop {a:Arena} {Q:List (List Nat)} (h:a.Wf0 Q) {n k:Nat} {l1 l2:List Nat} (hl:Q[n]? =ar (l1++k::l2)) (h0:(a.slotAt k).qty=0):
 (a.dropF k).Wf0 (Q.set n (l1++l2))/\(∀j,j≠k->((a.dropF k).slotAt j).ent=(a.slotAt j).ent/\((a.dropF k).slotAt j).used=(a.slotAt j).used/\((a.dropF k).slotAt j).qty=(a.slotAt j).qty)/\(a.dropF k).slotAt k=slot0/\(a.dropF k).free=a.free+1:=by
 have hkm:k∈l1++k::l2:=by simp
 have hnQ:=(y5h.1 hl).1;obtain⟨hk2,_,hk1⟩:=h.mem hl hkm;have hlen:=h.len;have hkl:k<a.slots.length:=by omega
 have hsg:=h.sg n _ hl;have hnd:=h.nd n _ hl;have hd:=y7n.1 hnd;have hd2:=y7u.1 hd.2.1;have k1:k∉l1:=λhk=>hd.2.2 k hk k y5j rfl
 have k2:k∉l2:=hd2.1;rw[zBa]at hsg;obtain⟨g1,⟨s,hs1,hs⟩,g2⟩:=hsg;have es:=xP hs1;have eqn:(a.queues.getD s.queue.toNat mK)=⟨vM (l1++k::l2) (-1),kT (l1++k::l2) (-1),a.qsum (l1++k::l2),(l1++k::l2).length⟩:=by
  rw[hs.queue,y5w];exact zT (h.q n _ hl)
 have hfree:=h.free;have hcl:=z6r (sl:=a.slots);have hsh:=h.short hl;obtain⟨sl1,hsl1⟩:∃sl1,sl1=if kT l1 (-1)= -1 then a.slots else a.slots.modify (kT l1 (-1)).toNat λx=>{x with back:=vM l2 (-1)}:=⟨_,rfl⟩
 obtain⟨sl2,hsl2⟩:∃sl2,sl2=if vM l2 (-1)= -1 then sl1 else sl1.modify (vM l2 (-1)).toNat λx=>{x with ahead:=kT l1 (-1)}:=⟨_,rfl⟩
 have hS:(a.dropF k).slots=sl2.set k slot0:=by
  simp only[Arena.dropF,es,hs.ahead,hs.back];rw[hsl2,hsl1]
 have hQs:(a.dropF k).queues=a.queues.set n ⟨vM (l1++l2) (-1),kT (l1++l2) (-1),a.qsum (l1++l2),(l1++l2).length⟩:=by
  simp only[Arena.dropF,es,eqn,hs.ahead,hs.back];rw[hs.queue,y5w];have el:(l1++k::l2).length=(l1++l2).length+1:=by simp;omega
  have eq:a.qsum (l1++k::l2)=a.qsum (l1++l2):=by
   rw[Arena.qsum,Arena.qsum,y5n,xBh,y5n,xBh,y5s,y6t,h0];omega
  rw[el]at hsh ⊢;rw[w64 (by omega),eq];congr 2
  ·cases l1 with
   |nil=>simp[kT,zJc,vM]
   |cons y ys=>
    rw[y5d (by rw[pA];simp)];rfl
  ·rcases wM l2 with e|⟨x,j,e,e2⟩
   ·subst e;simp[vM,bU,kT]
   ·have:l2≠[]:=by rw[e];simp
    rw[y5d (λc=>this ((zSt l2).1 c)),bU,bU,kT,e2,e2]
  ·simp
 have hF:(a.dropF k).free=a.free+1:=by
  simp only[Arena.dropF];rw[w64 (by omega)]
 have hc1:kT l1 (-1)= -1\/∃(y:List Nat) (j:Nat),l1=y++[j]/\kT l1 (-1)=(j:Int):=by
  rcases wM l1 with e|⟨y,j,e,e2⟩
  ·exact .inl ((pA l1).2 e)
  ·exact .inr ⟨y,j,e,e2 _⟩
 have hc2:vM l2 (-1)= -1\/∃(y:List Nat) (j:Nat),l2=j::y/\vM l2 (-1)=(j:Int):=by
  cases l2 with
  |nil=>exact .inl rfl
  |cons j y=>exact .inr ⟨y,j,rfl,rfl⟩
 have hoth:∀j,j∉l1->j∉l2->j≠k->(a.dropF k).slots[j]? =a.slots[j]? :=by
  intro j h1 h2 h3;rw[hS,vY (λe=>h3 e.symm),hsl2];have e1:sl1[j]? =a.slots[j]? :=by
   rw[hsl1];split
   ·rfl
   ·rcases hc1 with e|⟨y,i,e,e2⟩
    ·contradiction
    ·rw[dN];rw[e2,y5w];rintro rfl;exact h1 (by rw[e];simp)
  split
  ·exact e1
  ·rcases hc2 with e|⟨y,i,e,e2⟩
   ·contradiction
   ·rw[dN,e1];rw[e2,y5w];rintro rfl;exact h2 (by rw[e];simp)
 have hlike:∀j,j≠k->((a.dropF k).slotAt j).ent=(a.slotAt j).ent/\((a.dropF k).slotAt j).used=(a.slotAt j).used/\((a.dropF k).slotAt j).qty=(a.slotAt j).qty:=by
  intro j hj;have m1:∀(sl:List Slot) (i:Nat) (b:Int),((sl.modify i λx=>{x with back:=b}).getD j slot0).ent=(sl.getD j slot0).ent/\((sl.modify i λx=>{x with back:=b}).getD j slot0).used=(sl.getD j slot0).used/\((sl.modify i λx=>{x with back:=b}).getD j slot0).qty=(sl.getD j slot0).qty:=by
   intro sl i b;rw[y5m,y5m,ae];cases sl[j]? with
   |none=>exact⟨rfl,rfl,rfl⟩
   |some s=>by_cases e:i=j<;>simp[e,Slot.ent]
  have m2:∀(sl:List Slot) (i:Nat) (b:Int),((sl.modify i λx=>{x with ahead:=b}).getD j slot0).ent=(sl.getD j slot0).ent/\((sl.modify i λx=>{x with ahead:=b}).getD j slot0).used=(sl.getD j slot0).used/\((sl.modify i λx=>{x with ahead:=b}).getD j slot0).qty=(sl.getD j slot0).qty:=by
   intro sl i b;rw[y5m,y5m,ae];cases sl[j]? with
   |none=>exact⟨rfl,rfl,rfl⟩
   |some s=>by_cases e:i=j<;>simp[e,Slot.ent]
  have e0:(a.dropF k).slotAt j=sl2.getD j slot0:=by
   rw[Arena.slotAt,hS,y5m,vY (λe=>hj e.symm),y5m]
  have e1:(sl1.getD j slot0).ent=(a.slotAt j).ent/\(sl1.getD j slot0).used=(a.slotAt j).used/\(sl1.getD j slot0).qty=(a.slotAt j).qty:=by
   rw[hsl1];split
   ·exact⟨rfl,rfl,rfl⟩
   ·exact m1 _ _ _
  have e2:(sl2.getD j slot0).ent=(sl1.getD j slot0).ent/\(sl2.getD j slot0).used=(sl1.getD j slot0).used/\(sl2.getD j slot0).qty=(sl1.getD j slot0).qty:=by
   rw[hsl2];split
   ·exact⟨rfl,rfl,rfl⟩
   ·exact m2 _ _ _
  rw[e0];exact⟨e2.1.trans e1.1,e2.2.1.trans e1.2.1,e2.2.2.trans e1.2.2⟩
 have hl1:sl1.length=250:=by rw[hsl1];split<;>simp[hlen]
 have hl2:sl2.length=250:=by rw[hsl2];split<;>simp[hl1]
 have hself:(a.dropF k).slots[k]? =ar slot0:=by rw[hS];exact fN oM
 have hsgn:seg (a.dropF k).slots n (-1) (l1++l2) (-1):=by
  rw[hS,zBa];constructor
  ·--the part ahead
   refine vG (sl:=sl2) (λj hj=>vY (λe=>k1 (e▸hj))) ?_;have f1:seg sl1 n (-1) l1 (vM l2 (-1)):=by
    rcases wM l1 with e|⟨y,j,e,e2⟩
    ·subst e;trivial
    ·rw[hsl1,y5d (by rw[e2];omega),e2,y5w];subst e;have hd3:=y7n.1 hd.1;exact z0q _ (λhj=>hd3.2.2 j hj j y5j rfl) g1
   refine vG (λj hj=> ?_) f1;rw[hsl2];split
   ·rfl
   ·rcases hc2 with e|⟨y,i,e,e2⟩
    ·contradiction
    ·refine dN ?_;rw[e2,y5w];rintro rfl;exact hd.2.2 i hj i (y5l _ (by rw[e];simp)) rfl
  ·--the part behind
   refine vG (sl:=sl2) (λj hj=>vY (λe=>k2 (e▸hj))) ?_;have f1:seg sl1 n k l2 (-1):=by
    refine vG (λj hj=> ?_) g2;rw[hsl1];split
    ·rfl
    ·rcases hc1 with e|⟨y,i,e,e2⟩
     ·contradiction
     ·refine dN ?_;rw[e2,y5w];rintro rfl;exact hd.2.2 i (by rw[e];simp) i (y5l _ hj) rfl
   rcases hc2 with e|⟨y,j,e,e2⟩
   ·rw[(zSt l2).1 e];trivial
   ·rw[hsl2,y5d (by rw[e2];omega),e2,y5w];rw[e]at f1 hd2 ⊢;exact yBx _ (y7u.1 hd2.2).1 f1
 refine⟨⟨?_,?_,?_,?_,?_,?_,?_⟩,hlike,xP hself,hF⟩
 ·rw[hS,y6k];exact hl2
 ·rw[hQs];simp[h.ql]
 ·intro m l' hm;rcases bL hm with⟨rfl,rfl⟩|⟨e,hm⟩
  ·rw[hQs,fN (by rw[h.ql];exact hnQ)];congr 2;refine(aJ λj hj=>(hlike j λe=> ?_).2.2).symm;subst e;rcases y6g.1 hj with hj|hj
   ·exact k1 hj
   ·exact k2 hj
  ·rw[hQs,vY (λc=>e c.symm),h.q m l' hm];congr 2;refine(aJ λj hj=>(hlike j λe2=> ?_).2.2).symm;subst e2;exact e (h.one hm hl hj hkm)
 ·intro m l' hm;rcases bL hm with⟨rfl,rfl⟩|⟨e,hm⟩
  ·exact hsgn
  ·refine vG (λj hj=>hoth j ?_ ?_ ?_) (h.sg m l' hm)
   ·exactλc=>e (h.one hm hl hj (y6w _ c))
   ·exactλc=>e (h.one hm hl hj (y6z _ (y5l _ c)))
   ·rintro rfl;exact e (h.one hm hl hj hkm)
 ·intro m l' hm;rcases bL hm with⟨rfl,rfl⟩|⟨e,hm⟩
  ·refine y7n.2 ⟨hd.1,hd2.2,λi hi j hj=>hd.2.2 i hi j (y5l _ hj)⟩
  ·exact h.nd m l' hm
 ·intro j s' hj hu;have hjk:j≠k:=by
   rintro rfl;rw[hself]at hj;cases hj;cases hu
  have hu2:(a.slotAt j).used=av:=by rw[<- (hlike j hjk).2.1,xP hj];exact hu
  have hjl:j<a.slots.length:=by
   have:=(y5h.1 hj).1;rw[hS,y6k]at this;omega
  obtain⟨s0,hs0⟩:=yE hjl;rw[xP hs0]at hu2;obtain⟨m,l',hm,hjm⟩:=h.us j s0 hs0 hu2;by_cases em:m=n
  ·subst em;rw[hl]at hm;cases hm;refine⟨m,_,fN hnQ,?_⟩;rcases y6g.1 hjm with hj|hj
   ·exact y6w _ hj
   ·rcases y5y.1 hj with e|hj
    ·exact absurd e hjk
    ·exact y6z _ hj
  ·exact⟨m,l',by rw[vY (λc=>em c.symm)];exact hm,hjm⟩
 ·have hmu:(a.dropF k).slots.map (·.used)=(a.slots.set k slot0).map (·.used):=by
   have e1:sl2.map (·.used)=a.slots.map (·.used):=by
    have f2:sl2.map (·.used)=sl1.map (·.used):=by
     rw[hsl2];split
     ·rfl
     ·exact zAi (g:=λs:Slot=>s.used) (f:=λs:Slot=>{s with ahead:=kT l1 (-1)}) (λ_=>rfl) _ _
    have f1:sl1.map (·.used)=a.slots.map (·.used):=by
     rw[hsl1];split
     ·rfl
     ·exact zAi (g:=λs:Slot=>s.used) (f:=λs:Slot=>{s with back:=vM l2 (-1)}) (λ_=>rfl) _ _
    rw[f2,f1]
   rw[hS,List.map_set,e1,List.map_set]
  have:=zMl (x:=slot0) hs1;rw[hs.used,y5f rfl,show slot0.used=aw from rfl,y5d (by decide)]at this;rw[hmu,hF,hfree];omega
def Arena.Wf.take {a:Arena} {Q:List (List Nat)} (h:a.Wf Q) {n k:Nat} {l:List Nat} (hl:Q[n]? =ar l) (hk:k∈l) {q:Int} (hq:1<=q/\q<=(a.slotAt k).qty):
 (a.takeF k q).2=0/\(∀j,j≠k->((a.takeF k q).1.slotAt j).ent=(a.slotAt j).ent/\((a.takeF k q).1.slotAt j).used=(a.slotAt j).used)/\
   (if(a.slotAt k).qty=q then(a.takeF k q).1.Wf (Q.set n (l.erase k))/\(a.takeF k q).1.slotAt k=slot0/\(a.takeF k q).1.free=a.free+1
    else(a.takeF k q).1.Wf Q/\(a.takeF k q).1.slotAt k={a.slotAt k with qty:=(a.slotAt k).qty-q}/\(a.takeF k q).1.free=a.free):=by
 obtain⟨hk2,⟨p,t,hs⟩,hk1⟩:=h.toWf0.mem hl hk;have hkl:k<a.slots.length:=by rw[h.len];exact hk2
 have hu:a.usedAt k=av:=by
  simp only[Arena.usedAt,y5r,y6s];refine⟨oM,oM,?_⟩;rw[y5w];exact hs.used
 have hless:=h.toWf0.less hl hk (q:=q) oM;have hat:=zEi a k q;rw[Arena.takeF,y5d (by rw[hu];decide),y5w,y5d (by omega)];by_cases e:(a.slotAt k).qty=q
 ·rw[y5f e,y5f e];obtain⟨l1,l2,rfl⟩:=List.append_of_mem hk;have hnd:=h.nd n _ hl;have hd:=y7n.1 hnd;have k1:k∉l1:=λhk=>hd.2.2 k hk k y5j rfl
  obtain⟨d1,d2,d3,d4⟩:=hless.drop hl (by rw[hat k hkl,y5f rfl];dsimp only;omega);have ee:(l1++k::l2).erase k=l1++l2:=by rw[List.erase_append_right _ k1,List.erase_cons_head]
  refine⟨rfl,λj hj=> ?_,?_,d3,d4⟩
  ·have:=d2 j hj;rw[hat j hkl,y5d hj]at this;exact⟨this.1,this.2.1⟩
  ·rw[ee];refine⟨d1,λm l' hm j hj=> ?_⟩;have hj2:j≠k/\∃l'',Q[m]? =ar l''/\j∈l'':=by
    have hd2:=y7u.1 hd.2.1;rcases bL hm with⟨rfl,rfl⟩|⟨e3,hm⟩
    ·refine⟨?_,_,hl,?_⟩
     ·rintro rfl;rcases y6g.1 hj with hj|hj
      ·exact k1 hj
      ·exact hd2.1 hj
     ·rcases y6g.1 hj with hj|hj
      ·exact y6w _ hj
      ·exact y6z _ (y5l _ hj)
    ·refine⟨?_,_,hm,hj⟩;rintro rfl;exact e3 (h.toWf0.one hm hl hj hk)
   obtain⟨hj3,l'',hm2,hj4⟩:=hj2;have:=(d2 j hj3).2.2;rw[hat j hkl,y5d hj3]at this;dsimp only;rw[this];exact h.pos m l'' hm2 j hj4
 ·rw[y5d e,y5d e];refine⟨rfl,λj hj=> ?_,⟨hless,λm l' hm j hj=> ?_⟩,?_,rfl⟩
  ·dsimp only;rw[hat j hkl,y5d hj];exact⟨rfl,rfl⟩
  ·dsimp only;rw[hat j hkl];split
   ·rename_i c;subst c;dsimp only;omega
   ·exact h.pos m l' hm j hj
  ·dsimp only;rw[hat k hkl,y5f rfl]
def xD {α β:Type} {f g:α->List β}:∀{l:List α},(∀x∈l,f x=g x)->l.flatMap f=l.flatMap g
 |[],_=>rfl
 |x::l,h=>by rw[y6y,y6y,h x y5j,xD λy hy=>h y (y5l _ hy)]
def eL {α β γ:Type} {f:α->List β} {g:β->γ}:∀(l:List α),(l.flatMap f).map g=l.flatMap λx=>(f x).map g
 |[]=>rfl
 |x::l=>by rw[y6y,y6y,y5n,eL l]
def z1n {α β:Type} {f:α->List β}:∀{l:List α},(∀x∈l,f x≠[])->l.length<=(l.flatMap f).length
 |[],_=>y5z 0
 |x::l,h=>by
  have:=z1n (l:=l) λy hy=>h y (y5l _ hy)
  have:=List.length_pos_iff.2 (h x y5j);rw[y6y,y5c,y5i];omega
def zIb {α:Type} [DecidableEq α]:∀{l m:List α},l.Nodup->(∀x∈l,x∈m)->l.length<=m.length
 |[],_,_,_=>y6l _
 |x::l,m,h,hs=>by
  have hd:=y7u.1 h;have hx:=hs x y5j;have:=zIb (l:=l) (m:=m.erase x) hd.2 λy hy=>by
   have hne:y≠x:=by rintro rfl;exact hd.1 hy
   exact(List.mem_erase_of_ne hne).2 (hs y (y5l _ hy))
  rw[aj hx]at this;have:=List.length_pos_of_mem hx;rw[y5i];omega
def yBv {l:List Int} (h:l.Nodup) (hr:∀x∈l,0<=x/\x<l.length) {n:Nat} (hn:n<l.length):(n:Int)∈l:=by
 apply Classical.byContradiction;intro hx;have hnd:((n:Int)::l).Nodup:=y7u.2 ⟨hx,h⟩;have:=zIb (m:=(ag l.length).map λk:Nat=>(k:Int)) hnd λy hy=>by
  rw[y6q];rcases y5y.1 hy with rfl|hy
  ·exact⟨n,y8h.2 hn,rfl⟩
  ·have:=hr y hy;exact⟨y.toNat,y8h.2 oM,oM⟩
 simp at this;omega
def zLh {α β:Type} {l:List (α×β)} (h:(l.map (·.1)).Nodup) {k:α} {x y:β} (hx:(k,x)∈l) (hy:(k,y)∈l):x=y:=by
 induction l with
 |nil=>cases hx
 |cons p l ih=>
  rw[y5s,y7u]at h;rcases y5y.1 hx with ex|hx<;>rcases y5y.1 hy with ey|hy
  ·rw[<- ex]at ey;exact(Prod.mk.inj ey).2.symm
  ·exact absurd (y6i (f:=(·.1)) hy) (by rw[<- ex]at h;exact h.1)
  ·exact absurd (y6i (f:=(·.1)) hx) (by rw[<- ey]at h;exact h.1)
  ·exact ih h.2 hx hy
def eW:∀{l:List (Int×Place)} {k:Int} {x:Place},pget l k=ar x->(k,x)∈l
 |[],k,x,h=>by cases h
 |p::l,k,x,h=>by
  rw[pget,xBg]at h;by_cases e:p.1=k
  ·rw[y5u e]at h;simp only[y7g,Option.some.injEq]at h;subst h;subst e;exact y5j
  ·rw[y5q e]at h;exact y5l _ (eW h)
def zIt {l:List (Int×Place)} {k:Int} (h:pget l k=au):k∉l.map (·.1):=by
 intro hk;obtain⟨⟨k',x⟩,hx,rfl⟩:=y6q.1 hk;rw[pget,Option.map_eq_none_iff,List.find?_eq_none]at h;have:=h _ hx;simp at this
def zXk:∀{l:List (Int×Place)} {k:Int} {x:Place},k∉l.map (·.1)->rR k x l=l++[(k,x)]
 |[],k,x,_=>rfl
 |p::l,k,x,h=>by
  rw[y5s,y5y,not_or]at h;rw[rR,y5d h.1,zXk h.2];rfl
def xC (Q:List (List Nat)) (r:xN):List Nat:=Q.getD r.queue.toNat []
def yEf (s p:Int) (e:Ent):zH:=⟨e.id,s,p,e.qty,e.top⟩
def vC (a:Arena) (s p:Int) (k:Nat):zH:=yEf s p (a.slotAt k).ent
def Book.rOrds (b:Book) (Q:List (List Nat)) (s:Int) (r:xN):List zH:=(xC Q r).map (vC b.a s r.price)
def Book.sideL (b:Book) (Q:List (List Nat)) (s:Int):List zH:=(b.rungs s).flatMap (b.rOrds Q s)
def Book.flat (b:Book) (Q:List (List Nat)):List zH:=b.sideL Q 1++b.sideL Q 2
def vN (a:Arena) (s p:Int) (k:Nat):Int×Place:=((a.slotAt k).id,⟨s,p,k⟩)
def Book.plcs (b:Book) (Q:List (List Nat)) (s:Int):List (Int×Place):=(b.rungs s).flatMap λr=>(xC Q r).map (vN b.a s r.price)
def Book.qs (b:Book):List Int:=b.buys.map (·.queue)++b.sells.map (·.queue)++b.spare
structure Book.Core (b:Book) (Q:List (List Nat)) (hole:Int):Prop where
 wf:b.a.Wf Q
 srt:∀s,s=1\/s=2->(b.rungs s).Pairwise λr r'=>btr s r.price r'.price=av
 rng:∀q∈b.qs,0<=q/\q<Q.length
 nd:b.qs.Nodup
 ql:b.qs.length=Q.length
 ne:∀s,s=1\/s=2->∀r∈b.rungs s,r.queue≠hole->xC Q r≠[]
 sp:∀q∈b.spare,Q.getD q.toNat []=[]
 at_:b.at_.Perm (b.plcs Q 1++b.plcs Q 2)
 ids:((b.flat Q).map (·.id)).Nodup
 qb:Q.length<=250
structure Book.Tops (b:Book) (L:List zH):Prop where
 fl:∀o∈L,o.top=(b.hasF o.side && decide (o.id=b.topI o.side))
 th:∀s,s=1\/s=2->b.hasF s=av->∃o∈L,o.side=s/\o.id=b.topI s
structure Book.Rep (b:Book) (L:List zH):Prop where
 ex:∃Q,b.Core Q (-1)/\b.Tops L/\L=b.flat Q
def aN (b:Book) (Q:List (List Nat)) (s:Int):(b.plcs Q s).map (·.1)=(b.sideL Q s).map (·.id):=by
 rw[Book.plcs,Book.sideL,eL,eL];refine xD λr _=> ?_
 rw[Book.rOrds,y7s,y7s];rfl
def Book.Core.keysP {b:Book} {Q:List (List Nat)} {h:Int} (c:b.Core Q h):(b.at_.map (·.1)).Perm ((b.flat Q).map (·.id)):=by
 have:=c.at_.map (·.1)
 rw[y5n,aN,aN,<- y5n]at this;exact this
def Book.Core.keys {b:Book} {Q:List (List Nat)} {h:Int} (c:b.Core Q h):(b.at_.map (·.1)).Nodup:=c.keysP.nodup_iff.2 c.ids
def Book.Core.len {b:Book} {Q:List (List Nat)} {h:Int} (c:b.Core Q h):b.at_.length=(b.flat Q).length:=by
 have:=c.keysP.length_eq;simpa using this
def Book.Core.plc {b:Book} {Q:List (List Nat)} {h:Int} (c:b.Core Q h) {s:Int} (hs:s=1\/s=2) {r:xN} (hr:r∈b.rungs s) {k:Nat} (hk:k∈xC Q r):((b.a.slotAt k).id,(⟨s,r.price,k⟩:Place))∈b.at_:=by
 refine c.at_.mem_iff.2 ?_;have hp:vN b.a s r.price k∈b.plcs Q s:=y7x.2 ⟨r,hr,y6i hk⟩;rcases hs with rfl|rfl
 ·exact y6w _ hp
 ·exact y6z _ hp
def Book.Core.plcI {b:Book} {Q:List (List Nat)} {h:Int} (c:b.Core Q h) {id:Int} {x:Place} (hx:(id,x)∈b.at_):∃(k:Nat) (r:xN),(x.side=1\/x.side=2)/\r∈b.rungs x.side/\k∈xC Q r/\x=⟨x.side,r.price,k⟩/\(b.a.slotAt k).id=id:=by
 have:=c.at_.mem_iff.1 hx;rcases y6g.1 this with hp|hp
 all_goals
  obtain⟨r,hr,hp⟩:=y7x.1 hp;obtain⟨k,hk,e⟩:=y6q.1 hp;simp only[vN,Prod.mk.injEq]at e;obtain⟨e1,rfl⟩:=e;exact⟨k,r,by simp,hr,hk,rfl,e1⟩
def z0u {Q:List (List Nat)} {r:xN} (h:0<=r.queue/\r.queue<Q.length):Q[r.queue.toNat]? =ar (xC Q r):=by
 obtain⟨l,hl⟩:=yE (l:=Q) (i:=r.queue.toNat) oM;rw[xC,zT hl,hl]
def u9 {b:Book} {s:Int} (hs:s=1\/s=2) {r:xN} (hr:r∈b.rungs s):r.queue∈b.qs:=by
 rcases hs with rfl|rfl
 ·exact y6w _ (y6w _ (y6i (f:=(·.queue)) hr))
 ·exact y6w _ (y6z _ (y6i (f:=(·.queue)) hr))
def Book.Core.get {b:Book} {Q:List (List Nat)} {h:Int} (c:b.Core Q h) {s:Int} (hs:s=1\/s=2) {r:xN} (hr:r∈b.rungs s):Q[r.queue.toNat]? =ar (xC Q r):=z0u (c.rng _ (u9 hs hr))
def clr (L:List zH) (s:Int):List zH:=L.map λo=>if o.side=s then{o with top:=aw}else o
def zAr (s x:Int):btr s x x=aw:=by
 rw[btr];split<;>exact y5q oM
def Book.Core.flag {b:Book} {Q:List (List Nat)} {h:Int} (c:b.Core Q h) {a':Arena} (hw:a'.Wf Q) (hi:∀k,(a'.slotAt k).id=(b.a.slotAt k).id):({b with a:=a'}:Book).Core Q h:=by
 have e1:∀s,({b with a:=a'}:Book).plcs Q s=b.plcs Q s:=by
  intro s;refine xD λr _=>y6n λk _=> ?_
  simp only[vN,hi]
 have e2:((({b with a:=a'}:Book).flat Q).map (·.id))=(b.flat Q).map (·.id):=by
  rw[Book.flat,Book.flat,y5n,y5n,<- aN,<- aN,<- aN,<- aN,e1,e1]
 exact⟨hw,c.srt,c.rng,c.nd,c.ql,c.ne,c.sp,by rw[e1,e1];exact c.at_,by rw[e2];exact c.ids,c.qb⟩
def yMc (a:Arena) (n:Int) (t:Bool) (k:Nat):((a.topF n t).slotAt k).id=(a.slotAt k).id:=by
 rw[zUd];split<;>rfl
def Book.Core.untop {b:Book} {Q:List (List Nat)} {h:Int} (c:b.Core Q h) (s:Int):(b.untop s).Wf Q/\∀k,((b.untop s).slotAt k).id=(b.a.slotAt k).id:=by
 rw[Book.untop]
 repeat' split
 all_goals first|exact⟨c.wf,λ_=>rfl⟩|exact⟨c.wf.top _ _,λk=>yMc _ _ _ k⟩
def Book.Core.untop_flat {b:Book} {Q:List (List Nat)} {h:Int} (c:b.Core Q h) (ht:b.Tops (b.flat Q)) {s:Int} (hs:s=1\/s=2):({b with a:=b.untop s}:Book).flat Q=clr (b.flat Q) s:=by
 have hfl:∀{s':Int} (hs':s'=1\/s'=2) {r:xN} (hr:r∈b.rungs s') {k:Nat} (hk:k∈xC Q r),(b.a.slotAt k).top=(b.hasF s' && decide ((b.a.slotAt k).id=b.topI s')):=by
  intro s' hs' r hr k hk;have hm:vC b.a s' r.price k∈b.flat Q:=by
   have:vC b.a s' r.price k∈b.sideL Q s':=y7x.2 ⟨r,hr,y6i hk⟩;rcases hs' with rfl|rfl
   ·exact y6w _ this
   ·exact y6z _ this
  exact ht.fl _ hm
 have key:∀{s':Int} (hs':s'=1\/s'=2) {r:xN} (hr:r∈b.rungs s') {k:Nat} (hk:k∈xC Q r),((b.untop s).slotAt k).ent=if s'=s then{(b.a.slotAt k).ent with top:=aw}else(b.a.slotAt k).ent:=by
  intro s' hs' r hr k hk;have hplc:=c.plc hs' hr hk;have htop:=hfl hs' hr hk;have hno:(b.a.slotAt k).top=aw->(b.a.slotAt k).ent=if s'=s then{(b.a.slotAt k).ent with top:=aw}else(b.a.slotAt k).ent:=by
   intro e;split
   ·rw[Slot.ent,e]
   ·rfl
  rw[Book.untop];by_cases hh:b.hasF s=av
  ·rw[y5f hh];cases hg:pget b.at_ (b.topI s)with
   |none=>
    dsimp only;by_cases e:s'=s
    ·subst e;refine hno ?_;rw[htop,hh,y8a];refine y5q λe2=> ?_
     rw[<- e2]at hg;exact zIt hg (y6i (f:=(·.1)) hplc)
    ·rw[y5d e]
   |some o=>
    dsimp only;obtain⟨k',r',hs2,hr2,hk2,ho,hid⟩:=c.plcI (eW hg);by_cases es:o.side=s
    ·rw[y5f es,zUd];have hos:o.slot=(k':Int):=by rw[ho]
     by_cases ek:k=k'
     ·subst ek;have hu:b.a.usedAt o.slot=av:=by
       obtain⟨_,⟨_,_,h2⟩,h3⟩:=c.wf.toWf0.mem (c.get hs' hr) hk;have hlt:=(y5h.1 h3).1;simp only[Arena.usedAt,y5r,y6s,hos,y5w];exact⟨oM,oM,h2.used⟩
      rw[y5f ⟨hu,by rw[hos];rfl⟩];have:=c.plc hs2 hr2 hk2;have e3:=zLh c.keys hplc this;have e4:s'=s:=by
       have:=congrArg Place.side e3;dsimp only at this;rw[this,es]
      rw[y5f e4];rfl
     ·rw[y5d (λe=>ek (by have:=e.2;rw[hos]at this;simpa using this))];by_cases e:s'=s
      ·subst e;refine hno ?_;rw[htop,hh,y8a];refine y5q λe2=>ek ?_
       have hp2:=c.plc hs2 hr2 hk2;rw[hid,<- e2]at hp2;have e3:=zLh c.keys hplc hp2;have:=congrArg Place.slot e3;dsimp only at this;omega
      ·rw[y5d e]
    ·rw[y5d es];by_cases e:s'=s
     ·subst e;refine hno ?_;rw[htop,hh,y8a];refine y5q λe2=>es ?_
      have hp2:=eW hg;rw[<- e2]at hp2;have e3:=zLh c.keys hplc hp2;rw[<- e3]
     ·rw[y5d e]
  ·rw[y5d hh];by_cases e:s'=s
   ·subst e;refine hno ?_;have:b.hasF s'=aw:=by simpa using hh
    rw[htop,this,y8o]
   ·rw[y5d e]
 have side:∀s',s'=1\/s'=2->({b with a:=b.untop s}:Book).sideL Q s'=clr (b.sideL Q s') s:=by
  intro s' hs';rw[clr,Book.sideL,Book.sideL,eL];refine xD λr hr=> ?_
  rw[Book.rOrds,Book.rOrds,y7s];refine y6n λk hk=> ?_
  simp only[vC,Function.comp,key hs' hr hk,yEf];by_cases e:s'=s
  ·rw[y5f e];exact(y5f e).symm
  ·rw[y5d e];exact(y5d e).symm
 rw[Book.flat,side 1 (.inl rfl),side 2 (.inr rfl),Book.flat,clr,clr,clr,y5n]
def before (s p:Int) (o:zH):Bool:=decide (o.side<s)||(decide (o.side=s) && !btr s p o.price)
def gP (L:List zH) (s p:Int):Bool:=L.all λo=> !decide (o.side=s)||btr s p o.price
def zVr (L:List zH) (s id p q:Int):List zH:=
 let L1:=if gP L s p=av then clr L s else L
 L1.takeWhile (before s p)++⟨id,s,p,q,gP L s p⟩::L1.dropWhile (before s p)
def yJy {α:Type} {f:α->Bool}:∀{A B:List α},(∀x∈A,f x=av)->(∀x∈B,f x=aw)->(A++B).takeWhile f=A/\(A++B).dropWhile f=B
 |[],[],_,_=>⟨rfl,rfl⟩
 |[],b::B,_,h=>by
  have:=h b y5j;simp[this]
 |a::A,B,h,h2=>by
  obtain⟨i1,i2⟩:=yJy (A:=A) (B:=B) (λx hx=>h x (y5l _ hx)) h2;have:=h a y5j;rw[y6v,List.takeWhile_cons,List.dropWhile_cons,this];simp[i1,i2]
def qF {b:Book} {Q:List (List Nat)} {s:Int} {r:xN} {o:zH} (h:o∈b.rOrds Q s r):o.side=s/\o.price=r.price:=by
 obtain⟨k,_,rfl⟩:=y6q.1 h;exact⟨rfl,rfl⟩
def aS {b:Book} {Q:List (List Nat)} {s:Int} {o:zH} (h:o∈b.sideL Q s):o.side=s/\∃r∈b.rungs s,o∈b.rOrds Q s r/\o.price=r.price:=by
 obtain⟨r,hr,ho⟩:=y7x.1 h;exact⟨(qF ho).1,r,hr,ho,(qF ho).2⟩
structure Spl (s p:Int) (R1 R2:List xN):Prop where
 a:∀r∈R1,btr s r.price p=av
 b:∀r∈R2,btr s p r.price=av
def zXj {s x y:Int} (h:btr s x y=av):btr s y x=aw:=by
 rw[btr]at h ⊢;split at h
 ·rename_i e;rw[y5f e];have:=y6d h;exact y5q oM
 ·rename_i e;rw[y5d e];have:=y6d h;exact y5q oM
def zSe {s x y z:Int} (h:btr s x y=av) (h2:btr s y z=av):btr s x z=av:=by
 rw[btr]at h h2 ⊢;split at h
 ·rename_i e;rw[y5f e]at h2 ⊢;have:=y6d h;have:=y6d h2;exact y5u oM
 ·rename_i e;rw[y5d e]at h2 ⊢;have:=y6d h;have:=y6d h2;exact y5u oM
def yCb {s x y:Int} (h:btr s x y=aw) (hne:x≠y):btr s y x=av:=by
 rw[btr]at h ⊢;split at h
 ·rename_i e;rw[y5f e];have:=y9t h;exact y5u oM
 ·rename_i e;rw[y5d e];have:=y9t h;exact y5u oM
def zCn {s p:Int} {l:List xN} (hs:l.Pairwise λr r'=>btr s r.price r'.price=av):
 (∀r∈l.take (zY s l p),btr s r.price p=av)/\
 (if kQ s l p=av then ∃r,l[zY s l p]? =ar r/\r.price=p/\∀r'∈l.drop (zY s l p+1),btr s p r'.price=av
  else ∀r'∈l.drop (zY s l p),btr s p r'.price=av):=by
 have e1:l.take (zY s l p)=l.takeWhile λr=>btr s r.price p:=by
  rw[zY];have h:=xBj (l₁:=l.takeWhile λr=>btr s r.price p) (l₂:=l.dropWhile λr=>btr s r.price p);rwa [xAy]at h
 have e2:l.drop (zY s l p)=l.dropWhile λr=>btr s r.price p:=by
  have h:=y7k (zY s l p) l;have h2:=xAy (p:=λr:xN=>btr s r.price p) (l:=l);rw[e1]at h;exact List.append_cancel_left (h.trans h2.symm)
 refine⟨λr hr=> ?_,?_⟩
 ·rw[e1]at hr;exact y8j.1 List.all_takeWhile r hr
 have hd:∀r,l[zY s l p]? =ar r->btr s r.price p=aw:=by
  intro r hr;have h0:(l.drop (zY s l p))[0]? =ar r:=by rw[y7r];exact hr
  rw[e2]at h0;cases hdw:l.dropWhile λr=>btr s r.price p with
  |nil=>rw[hdw]at h0;cases h0
  |cons x y=>
   rw[hdw]at h0;cases h0;have:=List.head?_dropWhile_not (λr:xN=>btr s r.price p) l;rw[hdw]at this;simpa using this
 have hpw:∀r r',l[zY s l p]? =ar r->r'∈l.drop (zY s l p+1)->btr s r.price r'.price=av:=by
  intro r r' hr hr';have hlt:=(y5h.1 hr).1;have:=List.Pairwise.sublist (List.drop_sublist (zY s l p) l) hs;rw[y7l hlt,y8x,(y5h.1 hr).2]at this;exact this.1 r' hr'
 split
 ·rename_i hb;rw[kQ]at hb;cases hr:l[zY s l p]? with
  |none=>rw[hr]at hb;cases hb
  |some r=>
   rw[hr]at hb;have hp:r.price=p:=y6d hb;exact⟨r,rfl,hp,λr' hr'=>by rw[<- hp];exact hpw r r' hr hr'⟩
 ·rename_i hb;intro r' hr';by_cases hlt:zY s l p<l.length
  ·obtain⟨r,hr⟩:=yE hlt;rw[kQ,hr]at hb;have hp:¬r.price=p:=λe=>hb (y5u e)
   have h1:=yCb (hd r hr) hp;rw[y7l hlt,(y5h.1 hr).2]at hr';rcases y5y.1 hr' with rfl|hr'
   ·exact h1
   ·exact zSe h1 (hpw r r' hr hr')
  ·rw[y8l (by omega)]at hr';cases hr'
def Book.setR (b:Book) (s:Int) (l:List xN):Book:=if s=1 then{b with buys:=l}else{b with sells:=l}
def z9d {b:Book} {s:Int} (hs:s=1\/s=2):∃rest,b.qs.Perm ((b.rungs s).map (·.queue)++rest)/\∀l,(b.setR s l).qs.Perm (l.map (·.queue)++rest):=by
 rcases hs with rfl|rfl
 ·refine⟨b.sells.map (·.queue)++b.spare,?_,λl=> ?_⟩
  ·rw[Book.qs,y5k];exact .refl _
  ·show(l.map (·.queue)++b.sells.map (·.queue)++b.spare).Perm _
   rw[y5k]
 ·refine⟨b.buys.map (·.queue)++b.spare,?_,λl=> ?_⟩
  ·rw[Book.qs];show(b.buys.map (·.queue)++b.sells.map (·.queue)++b.spare).Perm (b.sells.map (·.queue)++(b.buys.map (·.queue)++b.spare))
   rw[<- y5k];exact y7i.append_right _
  ·show(b.buys.map (·.queue)++l.map (·.queue)++b.spare).Perm (l.map (·.queue)++(b.buys.map (·.queue)++b.spare))
   rw[<- y5k];exact y7i.append_right _
structure Queued (b:Book) (Q:List (List Nat)) (s p:Int) (b':Book) (n:Int) (Q':List (List Nat)) (R1 R2:List xN):Prop where
 core:b'.Core Q' n
 rungs:b'.rungs s=R1++⟨p,n⟩::R2
 spl:Spl s p R1 R2
 flat:b'.flat Q'=b.flat Q
 at_:b'.at_=b.at_
 free:b'.a.free=b.a.free
 tops:∀L,b.Tops L->b'.Tops L
 qty:∀x,b'.hasF x=b.hasF x/\b'.topI x=b.topI x
def yEs {α:Type} {l:List α} {x d:α} {n:Nat}:(l++[x]).getD n d=if n=l.length then x else l.getD n d:=by
 rw[y5m,y5m,List.getElem?_append];split
 ·rw[y5d (by omega)]
 ·rename_i h;by_cases e:n=l.length
  ·rw[y5f e,e,xAr];rfl
  ·rw[y5d e,y6j (show([x]:List α).length<=n-l.length by simp;omega),y6j (by omega)]
def Book.Core.add {b:Book} {Q:List (List Nat)} (c:b.Core Q (-1)) {s p n:Int} (hs:s=1\/s=2) {R1 R2:List xN} (hr:b.rungs s=R1++R2) (spl:Spl s p R1 R2) {b':Book} {Q':List (List Nat)}
 (hrs:b'.rungs s=R1++⟨p,n⟩::R2) (hro:∀s',s'≠s->s'=1\/s'=2->b'.rungs s'=b.rungs s') (hat:b'.at_=b.at_) (hw:b'.a.Wf Q') (hsl:b'.a.slots=b.a.slots)
 (hQ:∀k,Q'.getD k []=Q.getD k []) (hn:Q.getD n.toNat []=[]) (hrng:∀q∈b'.qs,0<=q/\q<Q'.length) (hnd:b'.qs.Nodup) (hql:b'.qs.length=Q'.length) (hsp:∀q∈b'.spare,Q.getD q.toNat []=[]) (hqb:Q'.length<=250):
 b'.Core Q' n/\b'.flat Q'=b.flat Q:=by
 have hslQ:∀r,xC Q' r=xC Q r:=λr=>hQ _
 have hsa:∀k,b'.a.slotAt k=b.a.slotAt k:=λk=>by rw[Arena.slotAt,Arena.slotAt,hsl]
 have hn':xC Q ⟨p,n⟩=[]:=hn;have hro':∀s' r,b'.rOrds Q' s' r=b.rOrds Q s' r:=by
  intro s' r;rw[Book.rOrds,Book.rOrds,hslQ];exact y6n λk _=>by rw[vC,vC,hsa]
 have hpo:∀s' (r:xN),(xC Q' r).map (vN b'.a s' r.price)=(xC Q r).map (vN b.a s' r.price):=by
  intro s' r;rw[hslQ];exact y6n λk _=>by rw[vN,vN,hsa]
 have hside:∀s',s'=1\/s'=2->b'.sideL Q' s'=b.sideL Q s':=by
  intro s' hs';rw[Book.sideL,Book.sideL];by_cases e:s'=s
  ·subst e;rw[hrs,hr,y7b,y7b,y6y,xD (λr _=>hro' s' r),xD (l:=R2) (λr _=>hro' s' r),hro',Book.rOrds,hn',y8v,y7t]
  ·rw[hro s' e hs'];exact xD λr _=>hro' s' r
 have hplc:∀s',s'=1\/s'=2->b'.plcs Q' s'=b.plcs Q s':=by
  intro s' hs';rw[Book.plcs,Book.plcs];by_cases e:s'=s
  ·subst e;rw[hrs,hr,y7b,y7b,y6y,xD (λr _=>hpo s' r),xD (l:=R2) (λr _=>hpo s' r),hpo,hn',y8v,y7t]
  ·rw[hro s' e hs'];exact xD λr _=>hpo s' r
 have hflat:b'.flat Q'=b.flat Q:=by rw[Book.flat,Book.flat,hside 1 (.inl rfl),hside 2 (.inr rfl)]
 refine⟨⟨hw,λs' hs'=> ?_,hrng,hnd,hql,λs' hs' r hr' hne=> ?_,λq hq=>by rw[hQ];exact hsp q hq,by rw[hat,hplc 1 (.inl rfl),hplc 2 (.inr rfl)];exact c.at_,by rw[hflat];exact c.ids,hqb⟩,hflat⟩
 ·by_cases e:s'=s
  ·subst e;have h0:=c.srt s' hs';rw[hr,am]at h0;rw[hrs,am,y8x];refine⟨h0.1,⟨spl.b,h0.2.1⟩,λx hx y hy=> ?_⟩;rcases y5y.1 hy with rfl|hy
   ·exact spl.a x hx
   ·exact h0.2.2 x hx y hy
  ·rw[hro s' e hs'];exact c.srt s' hs'
 ·rw[hslQ];have hold:∀r∈b.rungs s',xC Q r≠[]:=λr hr=>c.ne s' hs' r hr λe=>by
   have:=c.rng _ (u9 hs' hr);omega
  by_cases e:s'=s
  ·subst e;rw[hrs]at hr';rcases y6g.1 hr' with h|h
   ·exact hold r (by rw[hr];exact y6w _ h)
   ·rcases y5y.1 h with rfl|h
    ·exact absurd rfl hne
    ·exact hold r (by rw[hr];exact y6z _ h)
  ·rw[hro s' e hs']at hr';exact hold r hr'
def zMh (b:Book) {s:Int} (hs:s=1\/s=2) (l:List xN):(b.setR s l).rungs s=l/\∀s',s'≠s->s'=1\/s'=2->(b.setR s l).rungs s'=b.rungs s':=by
 rcases hs with rfl|rfl
 ·exact⟨rfl,λs' h h2=>by rcases h2 with rfl|rfl;exact absurd rfl h;rfl⟩
 ·exact⟨rfl,λs' h h2=>by rcases h2 with rfl|rfl;rfl;exact absurd rfl h⟩
def yAl (b:Book) {s p:Int} (hs:s=1\/s=2):b.queueF s p=if kQ s (b.rungs s) p=av then(b,((b.rungs s).getD (zY s (b.rungs s) p) ⟨0,0⟩).queue)else(({b with a:=b.newQ.2.2,spare:=b.newQ.2.1}:Book).setR s (b.ins s p),b.newQ.1):=by
 rcases hs with rfl|rfl<;>rfl
def Book.Core.queue {b:Book} {Q:List (List Nat)} (c:b.Core Q (-1)) (hl:(b.flat Q).length<250) {s:Int} (hs:s=1\/s=2) (p:Int):∃Q' R1 R2,Queued b Q s p (b.queueF s p).1 (b.queueF s p).2 Q' R1 R2:=by
 have hsp:=zCn (p:=p) (c.srt s hs);rw[yAl b hs];by_cases hb:kQ s (b.rungs s) p=av
 ·rw[y5f hb]at hsp ⊢;obtain⟨h1,r,hr,hp,h2⟩:=hsp;have hlt:=(y5h.1 hr).1;have er:(⟨p,r.queue⟩:xN)=r:=by rw[<- hp]
  have hsplit:b.rungs s=(b.rungs s).take (zY s (b.rungs s) p)++r::(b.rungs s).drop (zY s (b.rungs s) p+1):=by
   conv=>lhs;rw[<- y7k (zY s (b.rungs s) p) (b.rungs s)]
   rw[y7l hlt,(y5h.1 hr).2]
  refine⟨Q,_,_,⟨⟨c.wf,c.srt,c.rng,c.nd,c.ql,λs' hs' r' hr' _=>c.ne s' hs' r' hr' λe=> ?_,c.sp,c.at_,c.ids,c.qb⟩,?_,⟨h1,h2⟩,rfl,rfl,rfl,λ_ h=>h,λ_=>⟨rfl,rfl⟩⟩⟩
  ·have:=c.rng _ (u9 hs' hr');omega
  ·dsimp only;rw[zT hr,er];exact hsplit
 ·rw[y5d hb]at hsp ⊢;obtain⟨h1,h2⟩:=hsp;have hr:b.rungs s=(b.rungs s).take (zY s (b.rungs s) p)++(b.rungs s).drop (zY s (b.rungs s) p):=(y7k _ _).symm;obtain⟨g1,g2⟩:=zMh ({b with a:=b.newQ.2.2,spare:=b.newQ.2.1}:Book) hs (b.ins s p);have tops:∀x,((({b with a:=b.newQ.2.2,spare:=b.newQ.2.1}:Book).setR s (b.ins s p)).hasF x=b.hasF x/\(({b with a:=b.newQ.2.2,spare:=b.newQ.2.1}:Book).setR s (b.ins s p)).topI x=b.topI x):=by
   intro x;rcases hs with rfl|rfl<;>exact⟨rfl,rfl⟩
  have hat:(({b with a:=b.newQ.2.2,spare:=b.newQ.2.1}:Book).setR s (b.ins s p)).at_=b.at_:=by rcases hs with rfl|rfl<;>rfl
  have ha:(({b with a:=b.newQ.2.2,spare:=b.newQ.2.1}:Book).setR s (b.ins s p)).a=b.newQ.2.2:=by rcases hs with rfl|rfl<;>rfl
  have hspr:(({b with a:=b.newQ.2.2,spare:=b.newQ.2.1}:Book).setR s (b.ins s p)).spare=b.newQ.2.1:=by rcases hs with rfl|rfl<;>rfl
  obtain⟨rest,q1,q2⟩:=z9d (b:=({b with a:=b.newQ.2.2,spare:=b.newQ.2.1}:Book)) hs;have q2:=q2 (b.ins s p);have hqs:(({b with a:=b.newQ.2.2,spare:=b.newQ.2.1}:Book).setR s (b.ins s p)).qs.Perm (b.newQ.1::({b with a:=b.newQ.2.2,spare:=b.newQ.2.1}:Book).qs):=by
   refine q2.trans (.trans ?_ (q1.symm.cons _));rw[<- y6v];refine List.Perm.append_right _ ?_;show((b.ins s p).map (·.queue)).Perm (b.newQ.1::(b.rungs s).map (·.queue))
   conv=>rhs;rw[hr]
   rw[Book.ins,y5n,y5n,y5s];exact y5t
  generalize hB:(({b with a:=b.newQ.2.2,spare:=b.newQ.2.1}:Book).setR s (b.ins s p))=B at*;have fin:∀Q',B.a.Wf Q'->B.a.slots=b.a.slots->B.a.free=b.a.free->(∀k,Q'.getD k []=Q.getD k [])->Q.getD b.newQ.1.toNat []=[]->(∀q∈B.qs,0<=q/\q<Q'.length)->B.qs.Nodup->B.qs.length=Q'.length->(∀q∈B.spare,Q.getD q.toNat []=[])->Q'.length<=250->∃Q' R1 R2,Queued b Q s p B b.newQ.1 Q' R1 R2:=by
   intro Q' w1 w2 w3 w4 w5 w6 w7 w8 w9 w10;obtain⟨u1,u2⟩:=c.add hs hr ⟨h1,h2⟩ (b':=B) (Q':=Q') (n:=b.newQ.1) (by rw[g1];rfl) g2 hat w1 w2 w4 w5 w6 w7 w8 w9 w10;refine⟨Q',_,_,⟨u1,g1.trans rfl,⟨h1,h2⟩,u2,hat,w3,λL h=>⟨λo ho=> ?_,λs' hs' hh=> ?_⟩,tops⟩⟩
   ·rw[(tops o.side).1,(tops o.side).2];exact h.fl o ho
   ·rw[(tops s').1]at hh;rw[(tops s').2];exact h.th s' hs' hh
  by_cases he:b.spare.length=0
  ·have hnq:b.newQ=((b.a.queues.length:Int),b.spare,b.a.openQ):=by rw[Book.newQ,y5f he]
   have hql:=c.wf.ql;have hspe:b.spare=[]:=y6e he;have hqs':B.qs.Perm ((Q.length:Int)::b.qs):=by
    rw[hnq]at hqs;rw[<- hql];exact hqs
   refine fin (Q++[[]]) (by rw[ha,hnq];exact c.wf.open) (by rw[ha,hnq];rfl) (by rw[ha,hnq];rfl) (λk=> ?_) ?_ (λq hq=> ?_) ?_ ?_ (λq hq=> ?_) ?_
   ·rw[yEs];split
    ·rename_i e;rw[e,y5m,y6j (y5z _)];rfl
    ·rfl
   ·rw[hnq,y5m,y6j (by dsimp only;omega)];rfl
   ·rw[y5c];rcases y5y.1 (hqs'.mem_iff.1 hq)with rfl|hq
    ·simp only[y7f];omega
    ·have:=c.rng q hq;simp only[y7f];omega
   ·refine hqs'.nodup_iff.2 (y7u.2 ⟨λhm=> ?_,c.nd⟩);have:=c.rng _ hm;omega
   ·rw[hqs'.length_eq,y5i,y5c,c.ql];rfl
   ·rw[hspr,hnq]at hq;rw[hspe]at hq;cases hq
   ·have h1:=z1n (l:=b.rungs 1) (f:=b.rOrds Q 1) λr hr e=>c.ne 1 (.inl rfl) r hr (λe2=>by have:=c.rng _ (u9 (.inl rfl) hr);omega) (List.map_eq_nil_iff.1 e)
    have h2:=z1n (l:=b.rungs 2) (f:=b.rOrds Q 2) λr hr e=>c.ne 2 (.inr rfl) r hr (λe2=>by have:=c.rng _ (u9 (.inr rfl) hr);omega) (List.map_eq_nil_iff.1 e)
    have h3:=c.ql;rw[Book.flat,y5c,Book.sideL,Book.sideL]at hl;rw[Book.qs,y5c,y5c,y5e,y5e,he]at h3;rw[rM]at h1 hl;rw[rS]at h2 hl;rw[y5c,y7f];omega
  ·have hnq:b.newQ=(b.spare.getD (b.spare.length-1) 0,b.spare.take (b.spare.length-1),b.a):=by rw[Book.newQ,y5d he]
   obtain⟨sp,q,hspq⟩:∃sp q,b.spare=sp++[q]:=⟨_,_,(List.dropLast_concat_getLast (l:=b.spare) (by intro e;rw[e]at he;exact he rfl)).symm⟩
   have e1:b.newQ=(q,sp,b.a):=by
    rw[hnq,hspq];simp
   have hqs':B.qs.Perm b.qs:=by
    refine hqs.trans ?_;rw[e1];show(q::(b.buys.map (·.queue)++b.sells.map (·.queue)++sp)).Perm (b.buys.map (·.queue)++b.sells.map (·.queue)++b.spare)
    rw[hspq,<- y5k];exact y9q q _|>.symm
   have hq0:q∈b.spare:=by rw[hspq];simp
   refine fin Q (by rw[ha,e1];exact c.wf) (by rw[ha,e1]) (by rw[ha,e1]) (λ_=>rfl) (by rw[e1];exact c.sp q hq0) (λq hq=>c.rng q (hqs'.mem_iff.1 hq)) (hqs'.nodup_iff.2 c.nd) (by rw[hqs'.length_eq];exact c.ql) (λq' hq'=> ?_) c.qb;rw[hspr,e1]at hq';exact c.sp q' (by rw[hspq];exact y6w _ hq')
def Book.Core.used {b:Book} {Q:List (List Nat)} (c:b.Core Q (-1)) (hl:(b.flat Q).length<250):b.a.free≠0:=by
 intro hf;have hcn:=c.wf.free;rw[hf]at hcn;have hz:(b.a.slots.map (·.used)).countP (!·)=0:=by omega
 rw[List.countP_eq_zero]at hz;have hin:∀k∈ag 250,k∈((b.rungs 1).flatMap (xC Q)++(b.rungs 2).flatMap (xC Q)):=by
  intro k hk;have hk:=y8h.1 hk;obtain⟨s,hs⟩:=yE (l:=b.a.slots) (i:=k) (by rw[c.wf.len];exact hk);have hu:s.used=av:=by
   have:=hz s.used (y6i (y5o hs));simpa using this
  obtain⟨n,l,hn,hkl⟩:=c.wf.us k s hs hu;have hnQ:=(y5h.1 hn).1;have hm:(n:Int)∈b.qs:=yBv c.nd (λx hx=>by rw[c.ql];exact c.rng x hx) (by rw[c.ql];exact hnQ);have e:∀r:xN,r.queue=(n:Int)->k∈xC Q r:=by
   intro r hr;rw[xC,hr,y5w,zT hn];exact hkl
  rw[Book.qs]at hm;rcases y6g.1 hm with hm|hm
  ·rcases y6g.1 hm with hm|hm
   ·obtain⟨r,hr,er⟩:=y6q.1 hm;exact y6w _ (y7x.2 ⟨r,hr,e r er⟩)
   ·obtain⟨r,hr,er⟩:=y6q.1 hm;exact y6z _ (y7x.2 ⟨r,hr,e r er⟩)
  ·have:=c.sp _ hm;rw[y5w,zT hn]at this;rw[this]at hkl;cases hkl
 have h1:=zIb List.nodup_range hin;have e:∀s,(b.sideL Q s).length=((b.rungs s).flatMap (xC Q)).length:=by
  intro s;rw[Book.sideL,xAe,xAe];congr 1;exact y6n λr _=>by rw[Book.rOrds,y5e]
 rw[y5c,<- e,<- e,List.length_range]at h1;rw[Book.flat,y5c]at hl;omega
def zVe {s p:Int} {o:zH} (h:o.side≠s) (hlt:o.side=1\/o.side=2) (hs:s=1\/s=2):before s p o=decide (s=2):=by
 rw[before,y5q h,y8o,Bool.or_false];rcases hs with rfl|rfl
 ·rw[y5q (by omega),y5q (by omega)]
 ·rw[y5u (by omega),y5u rfl]
def Queued.put {b:Book} {Q:List (List Nat)} {s p:Int} {b':Book} {n:Int} {Q':List (List Nat)} {R1 R2:List xN} (h:Queued b Q s p b' n Q' R1 R2) (hs:s=1\/s=2) {id qty:Int} (top:Bool) (hid:id∉(b.flat Q).map (·.id)) (hf:b.a.free≠0) (hq:1<=qty/\qty<=1000000):
 ∃Q3 A B,({b' with a:=(b'.a.push n id qty top).1,at_:=rR id ⟨s,p,(b'.a.push n id qty top).2.1⟩ b'.at_}:Book).Core Q3 (-1)/\b'.flat Q'=A++B/\
  ({b' with a:=(b'.a.push n id qty top).1,at_:=rR id ⟨s,p,(b'.a.push n id qty top).2.1⟩ b'.at_}:Book).flat Q3=A++⟨id,s,p,qty,top⟩::B/\(∀o∈A,before s p o=av)/\∀o∈B,before s p o=aw:=by
 have c:=h.core;have hrm:(⟨p,n⟩:xN)∈b'.rungs s:=by rw[h.rungs];simp
 have hnr:0<=n/\n<Q'.length:=c.rng n (u9 hs hrm);obtain⟨m,rfl⟩:∃m:Nat,n=m:=⟨n.toNat,oM⟩
 have hl:Q'[m]? =ar (xC Q' ⟨p,m⟩):=z0u (r:=⟨p,m⟩) hnr;obtain⟨k,k1,k2,k3,k4,kw,kent,kfree⟩:=c.wf.put (id:=id) hl (by rw[h.free];exact hf) top hq;have hpush:b'.a.push m id qty top=(b'.a.put m id qty top,(k:Int),0):=by
  have:=c.wf.ql;rw[Arena.push,y5d (by omega),y5d (by omega),y5d (by rw[h.free];exact hf),k1]
 rw[hpush];dsimp only;have hmQ:=(y5h.1 hl).1;have hqd:∀s' (r:xN),(s'=1\/s'=2)->r∈b'.rungs s'->(r.queue=m->s'=s/\r=⟨p,m⟩):=by
  intro s' r hs' hr e;obtain⟨rest,q1,_⟩:=z9d (b:=b') hs;have hnd:=q1.nodup_iff.1 c.nd;rw[h.rungs,y5n,y5s]at hnd;by_cases es:s'=s
  ·subst es;refine⟨rfl,?_⟩;rw[h.rungs]at hr;have hnd2:=(y7n.1 hnd).1;rcases y6g.1 hr with hr|hr
   ·exact absurd e ((y7n.1 hnd2).2.2 r.queue (y6i (f:=(·.queue)) hr) m y5j)
   ·rcases y5y.1 hr with rfl|hr
    ·rfl
    ·have:=(y7u.1 (y7n.1 hnd2).2.1).1;exact absurd (e▸y6i (f:=(·.queue)) hr) this
  ·exfalso;have hcn:=c.nd;rw[Book.qs]at hcn;have hcn2:=(y7n.1 (y7n.1 hcn).1).2.2;have ha:(m:Int)∈(b'.rungs s).map (·.queue):=y6q.2 ⟨_,hrm,rfl⟩
   have hb:(m:Int)∈(b'.rungs s').map (·.queue):=y6q.2 ⟨r,hr,e⟩
   rcases hs with rfl|rfl<;>rcases hs' with rfl|rfl
   ·exact es rfl
   ·exact hcn2 _ ha _ hb rfl
   ·exact hcn2 _ hb _ ha rfl
   ·exact es rfl
 have hsl1:xC (Q'.set m (xC Q' ⟨p,m⟩++[k])) ⟨p,m⟩=xC Q' ⟨p,m⟩++[k]:=by
  show(Q'.set m _).getD (Int.toNat (m:Int)) []=_;rw[y5w];exact zT (fN hmQ)
 have hsl2:∀q:Int,0<=q->q≠m->(Q'.set m (xC Q' ⟨p,m⟩++[k])).getD q.toNat []=Q'.getD q.toNat []:=by
  intro q h0 hne;rw[y5m,vY (by omega),y5m]
 generalize hQ3:Q'.set m (xC Q' ⟨p,m⟩++[k])=Q3 at*;have hQl:Q3.length=Q'.length:=by rw[<- hQ3,y6k]
 have hpid:=aN;have hord:∀s' (r:xN),(s'=1\/s'=2)->r∈b'.rungs s'->∀j∈xC Q' r,j≠k/\(vC (b'.a.put m id qty top) s' r.price j=vC b'.a s' r.price j/\vN (b'.a.put m id qty top) s' r.price j=vN b'.a s' r.price j):=by
  intro s' r hs' hr j hj;have hjk:j≠k:=by rintro rfl;exact k4 _ _ (c.get hs' hr) hj
  have:=kent j;rw[y5d hjk]at this;refine⟨hjk,by rw[vC,vC,this],?_⟩;have:=congrArg Ent.id this;rw[vN,vN];exact congrArg (λi=>(i,(⟨s',r.price,j⟩:Place))) this
 have hr0:∀s' (r:xN),(s'=1\/s'=2)->r∈b'.rungs s'->r.queue≠m->xC Q3 r=xC Q' r:=by
  intro s' r hs' hr hne;exact hsl2 _ (c.rng _ (u9 hs' hr)).1 hne
 generalize hB:({b' with a:=b'.a.put m id qty top,at_:=rR id ⟨s,p,k⟩ b'.at_}:Book)=B3;have hBr:∀s',B3.rungs s'=b'.rungs s':=by intro s';rw[<- hB];rfl
 have hBa:B3.a=b'.a.put m id qty top:=by rw[<- hB]
 have hBat:B3.at_=rR id ⟨s,p,k⟩ b'.at_:=by rw[<- hB]
 have hBqs:B3.qs=b'.qs:=by rw[<- hB];rfl
 have hBsp:B3.spare=b'.spare:=by rw[<- hB]
 have hro:∀s' (r:xN),(s'=1\/s'=2)->r∈b'.rungs s'->r.queue≠m->B3.rOrds Q3 s' r=b'.rOrds Q' s' r/\(xC Q3 r).map (vN B3.a s' r.price)=(xC Q' r).map (vN b'.a s' r.price):=by
  intro s' r hs' hr hne;rw[Book.rOrds,Book.rOrds,hr0 s' r hs' hr hne,hBa];exact⟨y6n λj hj=>(hord s' r hs' hr j hj).2.1,y6n λj hj=>(hord s' r hs' hr j hj).2.2⟩
 have hnew:vC B3.a s p k=⟨id,s,p,qty,top⟩/\vN B3.a s p k=(id,⟨s,p,k⟩):=by
  have:=kent k;rw[y5f rfl]at this;rw[vC,hBa,this];refine⟨rfl,?_⟩;have:=congrArg Ent.id this;rw[vN];exact congrArg (λi=>(i,(⟨s,p,k⟩:Place))) this
 have hroN:B3.rOrds Q3 s ⟨p,m⟩=b'.rOrds Q' s ⟨p,m⟩++[⟨id,s,p,qty,top⟩]/\(xC Q3 ⟨p,m⟩).map (vN B3.a s p)=(xC Q' ⟨p,m⟩).map (vN b'.a s p)++[(id,⟨s,p,k⟩)]:=by
  rw[Book.rOrds,Book.rOrds,hsl1,y5n,y5n,ao,ao];refine⟨?_,?_⟩
  ·rw[hnew.1,y6n (g:=vC b'.a s p) λj hj=>by rw[hBa];exact(hord s ⟨p,m⟩ hs hrm j hj).2.1]
  ·rw[hnew.2,y6n (g:=vN b'.a s p) λj hj=>by rw[hBa];exact(hord s ⟨p,m⟩ hs hrm j hj).2.2]
 have hR1:∀r∈R1,r∈b'.rungs s/\r.queue≠m:=by
  intro r hr;have hm:r∈b'.rungs s:=by rw[h.rungs];exact y6w _ hr
  refine⟨hm,λe=> ?_⟩;have e2:=(hqd s r hs hm e).2;have:=h.spl.a r hr;rw[e2,zAr]at this;cases this
 have hR2:∀r∈R2,r∈b'.rungs s/\r.queue≠m:=by
  intro r hr;have hm:r∈b'.rungs s:=by rw[h.rungs];exact y6z _ (y5l _ hr)
  refine⟨hm,λe=> ?_⟩;have e2:=(hqd s r hs hm e).2;have:=h.spl.b r hr;rw[e2,zAr]at this;cases this
 have zC:B3.sideL Q3 s=(R1.flatMap (b'.rOrds Q' s)++b'.rOrds Q' s ⟨p,m⟩)++⟨id,s,p,qty,top⟩::R2.flatMap (b'.rOrds Q' s):=by
  rw[Book.sideL,hBr,h.rungs,y7b,y6y,hroN.1,xD (l:=R1) (λr hr=>(hro s r hs (hR1 r hr).1 (hR1 r hr).2).1),xD (l:=R2) (λr hr=>(hro s r hs (hR2 r hr).1 (hR2 r hr).2).1)];simp
 have sideO:b'.sideL Q' s=(R1.flatMap (b'.rOrds Q' s)++b'.rOrds Q' s ⟨p,m⟩)++R2.flatMap (b'.rOrds Q' s):=by
  rw[Book.sideL,h.rungs,y7b,y6y,y5k]
 have plcN:(B3.plcs Q3 s).Perm ((id,⟨s,p,k⟩)::b'.plcs Q' s):=by
  rw[Book.plcs,hBr,h.rungs,y7b,y6y,hroN.2,xD (l:=R1) (λr hr=>(hro s r hs (hR1 r hr).1 (hR1 r hr).2).2),xD (l:=R2) (λr hr=>(hro s r hs (hR2 r hr).1 (hR2 r hr).2).2),Book.plcs,h.rungs,y7b,y6y];rw[y5k,List.singleton_append,<- y5k];refine y5t.trans ?_;rw[y5k]
 have other:∀s',s'≠s->s'=1\/s'=2->B3.sideL Q3 s'=b'.sideL Q' s'/\B3.plcs Q3 s'=b'.plcs Q' s':=by
  intro s' hne hs';have hne':∀r∈b'.rungs s',r.queue≠m:=λr hr e=>hne (hqd s' r hs' hr e).1
  rw[Book.sideL,Book.sideL,Book.plcs,Book.plcs,hBr];exact⟨xD λr hr=>(hro s' r hs' hr (hne' r hr)).1,xD λr hr=>(hro s' r hs' hr (hne' r hr)).2⟩
 have bA:∀o∈R1.flatMap (b'.rOrds Q' s)++b'.rOrds Q' s ⟨p,m⟩,before s p o=av:=by
  intro o ho;rcases y6g.1 ho with ho|ho
  ·obtain⟨r,hr,ho⟩:=y7x.1 ho;obtain⟨e1,e2⟩:=qF ho;rw[before,e1,e2,zXj (h.spl.a r hr)];simp
  ·obtain⟨e1,e2⟩:=qF ho;rw[before,e1,e2,zAr];simp
 have bB:∀o∈R2.flatMap (b'.rOrds Q' s),before s p o=aw:=by
  intro o ho;obtain⟨r,hr,ho⟩:=y7x.1 ho;obtain⟨e1,e2⟩:=qF ho;rw[before,e1,e2,h.spl.b r hr];simp
 have bO:∀s',s'≠s->s'=1\/s'=2->∀o∈b'.sideL Q' s',before s p o=decide (s=2):=by
  intro s' hne hs' o ho;have:=(aS ho).1;exact zVe oM oM hs
 have flatE:∃A B,b'.flat Q'=A++B/\B3.flat Q3=A++⟨id,s,p,qty,top⟩::B/\(∀o∈A,before s p o=av)/\∀o∈B,before s p o=aw:=by
  rcases hs with rfl|rfl
  ·refine⟨_,R2.flatMap (b'.rOrds Q' 1)++b'.sideL Q' 2,?_,?_,bA,λo ho=> ?_⟩
   ·rw[Book.flat,sideO];simp only[y5k]
   ·rw[Book.flat,zC,(other 2 (by decide) (.inr rfl)).1];simp only[y5k,y6v]
   ·rcases y6g.1 ho with ho|ho
    ·exact bB o ho
    ·exact bO 2 Z8 (.inr rfl) o ho
  ·refine⟨b'.sideL Q' 1++(R1.flatMap (b'.rOrds Q' 2)++b'.rOrds Q' 2 ⟨p,m⟩),R2.flatMap (b'.rOrds Q' 2),?_,?_,λo ho=> ?_,bB⟩
   ·rw[Book.flat,sideO];simp only[y5k]
   ·rw[Book.flat,zC,(other 1 (by decide) (.inl rfl)).1];simp only[y5k]
   ·rcases y6g.1 ho with ho|ho
    ·exact bO 1 Z8 (.inl rfl) o ho
    ·exact bA o ho
 obtain⟨A,B,f1,f2,f3,f4⟩:=flatE;refine⟨Q3,A,B,⟨by rw[hBa];exact kw,λs' hs'=>by rw[hBr];exact c.srt s' hs',by rw[hBqs,hQl];exact c.rng,by rw[hBqs];exact c.nd,by rw[hBqs,hQl];exact c.ql,λs' hs' r hr _=> ?_,λq hq=> ?_,?_,?_,by rw[hQl];exact c.qb⟩,f1,f2,f3,f4⟩
 ·rw[hBr]at hr;by_cases e:r.queue=m
  ·obtain⟨rfl,rfl⟩:=hqd s' r hs' hr e;rw[hsl1];simp
  ·rw[hr0 s' r hs' hr e];exact c.ne s' hs' r hr e
 ·rw[hBsp]at hq;have hqq:q∈b'.qs:=y6z _ hq;rw[hsl2 q (c.rng q hqq).1 λe=> ?_]
  ·exact c.sp q hq
  ·have hcn:=c.nd;rw[Book.qs]at hcn;refine(y7n.1 hcn).2.2 m ?_ q hq e.symm;rcases hs with rfl|rfl
   ·exact y6w _ (y6q.2 ⟨_,hrm,rfl⟩)
   ·exact y6z _ (y6q.2 ⟨_,hrm,rfl⟩)
 ·have hnk:id∉b'.at_.map (·.1):=by
   rw[c.keysP.mem_iff,h.flat];exact hid
  rw[hBat,zXk hnk];refine(y9q _ _).trans ?_;rcases hs with rfl|rfl
  ·rw[(other 2 (by decide) (.inr rfl)).2];exact(c.at_.cons _).trans (plcN.symm.append_right _)
  ·rw[(other 1 (by decide) (.inl rfl)).2];refine(c.at_.cons _).trans ?_;refine(y5t.symm).trans (plcN.symm.append_left _)
 ·rw[f2,y5n,y5s];have h1:=c.ids;rw[f1,y5n]at h1;have h2:id∉(A++B).map (·.id):=by rw[<- f1,h.flat];exact hid
  refine y5t.nodup_iff.2 (y7u.2 ⟨by rw[y5n]at h2;exact h2,h1⟩)
def wN (L:List zH) (id:Int):Bool:=L.any λo=>decide (o.id=id)
def zKs (L:List zH) (s id p q:Int):List zH×Int:=if q<1\/1000000<q then(L,24)else if wN L id=av then(L,25)else if 250<=L.length then(L,13)else(zVr L s id p q,0)
def hasId_iff {L:List zH} {id:Int}:wN L id=av↔id∈L.map (·.id):=by
 rw[wN,List.any_eq_true,y6q];constructor
 ·rintro⟨o,ho,e⟩;exact⟨o,ho,y6d e⟩
 ·rintro⟨o,ho,e⟩;exact⟨o,ho,y5u e⟩
def nZ {b:Book} {Q:List (List Nat)} {o:zH} (h:o∈b.flat Q):(o.side=1\/o.side=2)/\∃r∈b.rungs o.side,o∈b.rOrds Q o.side r/\o.price=r.price:=by
 rcases y6g.1 h with h|h
 all_goals
  obtain⟨e,r,hr,ho,hp⟩:=aS h;rw[e];exact⟨by simp,r,hr,ho,hp⟩
def flat_mem {b:Book} {Q:List (List Nat)} {s:Int} (hs:s=1\/s=2) {o:zH} (h:o∈b.sideL Q s):o∈b.flat Q:=by
 rcases hs with rfl|rfl
 ·exact y6w _ h
 ·exact y6z _ h
def Book.Core.leads {b:Book} {Q:List (List Nat)} (c:b.Core Q (-1)) {s:Int} (hs:s=1\/s=2) (p:Int):b.leads s p=gP (b.flat Q) s p:=by
 have hsrt:=c.srt s hs;have hne:=c.ne s hs;rw[Book.leads];cases hr:b.rungs s with
 |nil=>
  symm;dsimp only;rw[gP,y8j];intro o ho;obtain⟨_,r,hr2,_⟩:=nZ ho;by_cases e:o.side=s
  ·rw[e,hr]at hr2;cases hr2
  ·rw[y5q e];rfl
 |cons r0 l=>
  dsimp only;rw[hr,y8x]at hsrt;have hm:r0∈b.rungs s:=by rw[hr];exact y5j
  cases hb:btr s p r0.price with
  |true=>
   symm;rw[gP,y8j];intro o ho;obtain⟨_,r,hr2,_,hp⟩:=nZ ho;by_cases e:o.side=s
   ·rw[e,hr]at hr2;rw[hp];rcases y5y.1 hr2 with rfl|hr2
    ·rw[hb];simp
    ·rw[zSe hb (hsrt.1 r hr2)];simp
   ·rw[y5q e];rfl
  |false=>
   symm;rw[gP,List.all_eq_false];have h0:=hne r0 hm λe=>by have:=c.rng _ (u9 hs hm);omega
   cases hk:xC Q r0 with
   |nil=>exact absurd hk h0
   |cons k ks=>
    refine⟨vC b.a s r0.price k,flat_mem hs (y7x.2 ⟨r0,hm,by rw[Book.rOrds,hk];exact y5j⟩),?_⟩;show ¬((!decide (s=s))||btr s p r0.price)=av;rw[hb];simp
def z8p {L:List zH} {s:Int} {o:zH} (h:o∈clr L s):∃o'∈L,o.id=o'.id/\o.side=o'.side/\o.price=o'.price/\o.qty=o'.qty/\o.top=(if o.side=s then aw else o'.top):=by
 obtain⟨o',ho,e⟩:=y6q.1 h;refine⟨o',ho,?_⟩;by_cases c:o'.side=s
 ·rw[y5f c]at e;subst e;exact(rF4 ((y5f c).symm))
 ·rw[y5d c]at e;subst e;exact(rF4 ((y5d c).symm))
def yMy {L:List zH} {s:Int} {o:zH} (h:o∈L) (hs:o.side≠s):o∈clr L s:=y6q.2 ⟨o,h,y5d hs⟩
def z6e (L:List zH) (s:Int):(clr L s).map (·.id)=L.map (·.id):=by
 rw[clr,y7s];refine y6n λo _=> ?_
 simp only[Function.comp];split<;>rfl
def zYq (b:Book) (id:Int) {s:Int} (hs:s=1\/s=2):(b.leadF id s).a=b.untop s/\(b.leadF id s).buys=b.buys/\(b.leadF id s).sells=b.sells/\(b.leadF id s).at_=b.at_/\(b.leadF id s).spare=b.spare/\∀s',s'=1\/s'=2->(b.leadF id s).hasF s'=(if s'=s then av else b.hasF s')/\(b.leadF id s).topI s'=(if s'=s then id else b.topI s'):=by
 rcases hs with rfl|rfl
 ·exact(rF5 (λs' h=>by rcases h with rfl|rfl<;>exact⟨rfl,rfl⟩))
 ·exact(rF5 (λs' h=>by rcases h with rfl|rfl<;>exact⟨rfl,rfl⟩))
def Book.Core.like {b b':Book} {Q:List (List Nat)} {h:Int} (c:b.Core Q h) (e1:b'.a=b.a) (e2:b'.buys=b.buys) (e3:b'.sells=b.sells) (e4:b'.at_=b.at_) (e5:b'.spare=b.spare):b'.Core Q h/\b'.flat Q=b.flat Q:=by
 have er:∀s,b'.rungs s=b.rungs s:=λs=>by rw[Book.rungs,Book.rungs,e2,e3]
 have eo:∀s r,b'.rOrds Q s r=b.rOrds Q s r:=λs r=>by rw[Book.rOrds,Book.rOrds,e1]
 have es:∀s,b'.sideL Q s=b.sideL Q s:=λs=>by rw[Book.sideL,Book.sideL,er];exact xD λr _=>eo s r
 have ep:∀s,b'.plcs Q s=b.plcs Q s:=λs=>by rw[Book.plcs,Book.plcs,er,e1]
 have ef:b'.flat Q=b.flat Q:=by rw[Book.flat,Book.flat,es,es]
 have eq:b'.qs=b.qs:=by rw[Book.qs,Book.qs,e2,e3,e5]
 exact⟨⟨by rw[e1];exact c.wf,λs hs=>by rw[er];exact c.srt s hs,by rw[eq];exact c.rng,by rw[eq];exact c.nd,by rw[eq];exact c.ql,λs hs=>by rw[er];exact c.ne s hs,by rw[e5];exact c.sp,by rw[e4,ep,ep];exact c.at_,by rw[ef];exact c.ids,c.qb⟩,ef⟩
def Book.Rep.stand {b:Book} {L:List zH} (h:b.Rep L) {s:Int} (hs:s=1\/s=2) {id p q:Int} (hid:id∉L.map (·.id)) (hl:L.length<250) (hq:1<=q/\q<=1000000):(b.stand s id p q).Rep (zVr L s id p q):=by
 obtain⟨Q,c,ht,rfl⟩:=h;have hld:=c.leads hs p;have h1:(b.led id s p).Core Q (-1)/\(b.led id s p).flat Q=(if gP (b.flat Q) s p=av then clr (b.flat Q) s else b.flat Q):=by
  rw[Book.led,hld];split
  ·obtain⟨e1,e2,e3,e4,e5,_⟩:=zYq b id hs;obtain⟨u1,u2⟩:=c.untop s;obtain⟨v1,v2⟩:=Book.Core.like (b':=b.leadF id s) (c.flag u1 u2) e1 e2 e3 e4 e5;exact⟨v1,v2.trans (c.untop_flat ht hs)⟩
  ·exact⟨c,rfl⟩
 obtain⟨c1,f1⟩:=h1;have hlen1:((b.led id s p).flat Q).length<250:=by
  rw[f1];split
  ·rw[clr,y5e];exact hl
  ·exact hl
 have hid1:id∉((b.led id s p).flat Q).map (·.id):=by
  rw[f1];split
  ·rw[z6e];exact hid
  ·exact hid
 obtain⟨Q',R1,R2,hqd⟩:=c1.queue hlen1 hs p;obtain⟨Q3,A,B,k1,k2,k3,k4,k5⟩:=hqd.put hs (b.leads s p) hid1 (c1.used hlen1) hq;have hAB:A++B=(if gP (b.flat Q) s p=av then clr (b.flat Q) s else b.flat Q):=by rw[<- k2,hqd.flat,f1]
 have hins:zVr (b.flat Q) s id p q=A++⟨id,s,p,q,b.leads s p⟩::B:=by
  rw[zVr];obtain⟨t1,t2⟩:=yJy k4 k5;rw[<- hAB,t1,t2,hld]
 refine⟨Q3,k1,?_,?_⟩
 ·rw[hins,hld];show Book.Tops {((b.led id s p).queueF s p).1 with a:=_,at_:=_} _;have hto:∀x,({((b.led id s p).queueF s p).1 with a:=(((b.led id s p).queueF s p).1.a.push ((b.led id s p).queueF s p).2 id q (b.leads s p)).1,at_:=rR id ⟨s,p,(((b.led id s p).queueF s p).1.a.push ((b.led id s p).queueF s p).2 id q (b.leads s p)).2.1⟩ ((b.led id s p).queueF s p).1.at_}:Book).hasF x=(b.led id s p).hasF x/\({((b.led id s p).queueF s p).1 with a:=(((b.led id s p).queueF s p).1.a.push ((b.led id s p).queueF s p).2 id q (b.leads s p)).1,at_:=rR id ⟨s,p,(((b.led id s p).queueF s p).1.a.push ((b.led id s p).queueF s p).2 id q (b.leads s p)).2.1⟩ ((b.led id s p).queueF s p).1.at_}:Book).topI x=(b.led id s p).topI x:=hqd.qty;generalize ({((b.led id s p).queueF s p).1 with a:=(((b.led id s p).queueF s p).1.a.push ((b.led id s p).queueF s p).2 id q (b.leads s p)).1,at_:=rR id ⟨s,p,(((b.led id s p).queueF s p).1.a.push ((b.led id s p).queueF s p).2 id q (b.leads s p)).2.1⟩ ((b.led id s p).queueF s p).1.at_}:Book)=B3 at*;have mAB:∀o,o∈A++⟨id,s,p,q,gP (b.flat Q) s p⟩::B↔o=⟨id,s,p,q,gP (b.flat Q) s p⟩\/o∈A++B:=by
   intro o;rw[y6g,y5y,y6g];constructor
   ·rintro(h|h|h)
    ·exact .inr (.inl h)
    ·exact .inl h
    ·exact .inr (.inr h)
   ·rintro(h|h|h)
    ·exact .inr (.inl h)
    ·exact .inl h
    ·exact .inr (.inr h)
  have hsd:∀o∈b.flat Q,o.side=1\/o.side=2:=λo ho=>(nZ ho).1
  by_cases hlead:gP (b.flat Q) s p=av
  ·rw[y5f hlead]at hAB;have hb1:b.led id s p=b.leadF id s:=by rw[Book.led,y5f (hld.trans hlead)]
   obtain⟨_,_,_,_,_,e6⟩:=zYq b id hs;rw[hb1]at hto;refine⟨λo ho=> ?_,λs' hs' hh=> ?_⟩
   ·rcases(mAB o).1 ho with rfl|ho
    ·rw[(hto s).1,(hto s).2,(e6 s hs).1,(e6 s hs).2,y5f rfl,y5f rfl,hlead];simp
    ·rw[hAB]at ho;obtain⟨o',ho',i1,i2,_,_,i5⟩:=z8p ho;rw[(hto _).1,(hto _).2,i5,(e6 o.side (by rw[i2];exact hsd o' ho')).1,(e6 o.side (by rw[i2];exact hsd o' ho')).2];by_cases e:o.side=s
     ·rw[y5f e,y5f e,y5f e,y8a];symm;refine y5q λe2=>hid ?_
      rw[<- e2,i1];exact y6i ho'
     ·rw[y5d e,y5d e,y5d e,ht.fl o' ho',i1,i2]
   ·rw[(hto s').2,(e6 s' hs').2];by_cases e:s'=s
    ·rw[y5f e];exact⟨_,(mAB _).2 (.inl rfl),e.symm,rfl⟩
    ·rw[(hto s').1,(e6 s' hs').1,y5d e]at hh;rw[y5d e];obtain⟨o,ho,o1,o2⟩:=ht.th s' hs' hh;exact⟨o,(mAB _).2 (.inr (by rw[hAB];exact yMy ho (by rw[o1];exact e))),o1,o2⟩
  ·rw[y5d hlead]at hAB;have hlf:gP (b.flat Q) s p=aw:=by simpa using hlead
   have hb1:b.led id s p=b:=by rw[Book.led,y5d (by rw[hld];exact hlead)]
   rw[hb1]at hto;refine⟨λo ho=> ?_,λs' hs' hh=> ?_⟩
   ·rw[(hto _).1,(hto _).2];rcases(mAB o).1 ho with rfl|ho
    ·show gP (b.flat Q) s p=(b.hasF s && decide (id=b.topI s));rw[hlf];cases hh:b.hasF s with
     |false=>rfl
     |true=>
      rw[y8a];symm;refine y5q λe2=>hid ?_
      obtain⟨o,ho,_,o2⟩:=ht.th s hs hh;rw[e2,<- o2];exact y6i ho
    ·rw[hAB]at ho;exact ht.fl o ho
   ·rw[(hto s').1]at hh;rw[(hto s').2];obtain⟨o,ho,o1,o2⟩:=ht.th s' hs' hh;exact⟨o,(mAB _).2 (.inr (by rw[hAB];exact ho)),o1,o2⟩
 ·rw[hins];exact k3.symm
def Book.Rep.pget {b:Book} {L:List zH} (h:b.Rep L) (id:Int):(pget b.at_ id).isSome=wN L id:=by
 obtain⟨Q,c,ht,rfl⟩:=h;cases hg:Sx.pget b.at_ id with
 |none=>
  have:=zIt hg;rw[c.keysP.mem_iff,<- hasId_iff]at this;symm;simpa using this
 |some x=>
  have:=y6i (f:=(·.1)) (eW hg)
  rw[c.keysP.mem_iff,<- hasId_iff]at this;symm;exact this
def Book.Rep.len {b:Book} {L:List zH} (h:b.Rep L):b.at_.length=L.length:=by
 obtain⟨Q,c,ht,rfl⟩:=h;exact c.len
def Book.Rep.add {b:Book} {L:List zH} (h:b.Rep L) {s:Int} (hs:s=1\/s=2) (id p q:Int):(b.addF s id p q).1.Rep (zKs L s id p q).1/\(b.addF s id p q).2=(zKs L s id p q).2:=by
 rw[Book.addF,zKs,h.pget,h.len]
 repeat' split
 all_goals first|exact⟨h,rfl⟩|skip
 rename_i c1 c2 c3;exact⟨h.stand hs (λe=>c2 (hasId_iff.2 e)) oM oM,rfl⟩
def yAs:book0.Rep []:=by
 refine⟨[],⟨⟨⟨by simp[book0,zMd],rfl,λn l h=>by simp at h,λn l h=>by simp at h,λn l h=>by simp at h,λk s hk hu=> ?_,?_⟩,λn l h=>by simp at h⟩,λs hs=> ?_,λq hq=>by simp[book0,Book.qs]at hq,by simp[book0,Book.qs],rfl,λs hs r hr=> ?_,λq hq=>by simp[book0]at hq,?_,?_,Z8⟩,⟨λo ho=>(by cases ho),λs hs hh=> ?_⟩,?_⟩
 ·have:=y5o hk;rw[xAv this]at hu;cases hu
 ·decide
 ·rcases hs with rfl|rfl<;>exact List.Pairwise.nil
 ·rcases hs with rfl|rfl<;>cases hr
 ·exact List.Perm.refl _
 ·exact List.nodup_nil
 ·rcases hs with rfl|rfl<;>cases hh
 ·rfl
structure BoI where
 b:Book
 s:Int
 r:xN
 l:List Nat
def BoI.ords (i:BoI):List zH:=(i.b.a.ents i.l).map λe=>⟨e.id,i.s,i.r.price,e.qty,e.top⟩
def ordersC:Con:=con1 BoI (λi=>[.nm 0 0,zA i.s,.agg [zA i.r.price,zA i.r.queue]]) (λi=>[z8 i.b]) (λi=>i.b.a.listOk i.r.queue i.l) (λ_=> .own 1) (λi=>[z8 i.b,.own 192 5 (i.ords.map vB)])
def yOl (i:BoI):List SAnn:=[{ι:=Nat,slots:=λj=>[(7,.own 0),(18,zA j)],rows:=λj=>[.own 192 5 ((i.ords.take j).map vB)]}]
def fH (a:ArL):=(aa zKl (a.a.ents a.l))
def z9g (i:BoI):Prop:=
 ∃(a:ArL),a.n=i.r.queue/\ba Arena 3 zG a.a=ba Arena 3 zG i.b.a/\a.a.listOk a.n a.l/\∀(b:Unit),True->∃(c:Nat),(↑c:Int)=0/\aa vB (ab c i.ords)=[]/\∃(d:Nat->Prop),∃(e:Nat->Nat),d c/\∀(f:Nat),d f->cnd (decide ((↑f:Int)<(↑(fH a).length:Int))) ((0<=(↑f:Int)/\(↑f:Int)<(↑(fH a).length:Int))/\∃(g:Int),∃(h:Int),∃(j:Int),∃(k:Bool),zE (fH a) (↑f:Int).toNat 0 4=ar [dI g,dI h,dI j,D.v (.bool k)]/\((aa vB (ab f i.ords)).length+1)*(40:Nat)<=(140737488355328:Nat)/\∃(l:Nat),(↑l:Int)=ap.wrap ((↑f:Int)+1)/\aa vB (ab l i.ords)=aa vB (ab f i.ords)++[[dI h,dI i.s,dI i.r.price,dI j,D.v (.bool k)]]/\d l/\e l<e f/\dh (ba Arena 3 zG a.a)/\dh (ax 326 4 (fH a))/\dh (ay [V.d (dI i.r.price),V.d (dI i.r.queue)] 304)/\dh (ay [V.nm 1 0,V.own 2,V.own 3,V.mp 4,V.d (dI i.b.top1),V.d (dI i.b.top2),V.own 5,V.d (D.v (.bool i.b.has1)),V.d (D.v (.bool i.b.has2))] (299:cd))/\dh (ax 304 2 (aa zB i.b.buys))/\dh (ax 304 2 (aa zB i.b.sells))/\dh (bc (atE i.b.at_))/\dh (ax 3 1 (iE i.b.spare))) (∃(g:Unit),dh i.b.top1/\dh i.b.top2/\dh i.b.has1/\dh i.b.has2/\ba Arena 3 zG i.b.a=ba Arena 3 zG a.a/\dh (aa zB i.b.buys)/\dh (aa zB i.b.sells)/\dh (atE i.b.at_)/\dh (iE i.b.spare)/\aa vB i.ords=aa vB (ab f i.ords)/\True)
def y3u {l:List Ent} {k:Nat} {e:Ent} (h:l[k]? =ar e):zE (l.map zKl) k 0 4=ar [D.v (.int .i64 e.slot),.v (.int .i64 e.id),.v (.int .i64 e.qty),.v (.bool e.top)]:=elA h (by simp[zKl]) rfl
def yPh (i:BoI) (h:ordersC.cnd i):z9g i:=by
 have h:i.b.a.listOk i.r.queue i.l:=h;have hl:=h.len;have hen:(i.b.a.ents i.l).length=i.l.length:=by simp[Arena.ents]
 have hol:i.ords.length=i.l.length:=by simp[BoI.ords,Arena.ents]
 unfold z9g fH dI;refine⟨⟨i.b.a,i.r.queue,i.l⟩,rfl,rfl,h,λ_ _=> ?_⟩;simp only[y5e];refine⟨0,rfl,rfl,λj=>j<=i.l.length,λj=>i.l.length-j,y6l _,λj hj=>zI (λc=> ?_) (λc=> ?_)⟩
 ·obtain⟨e,he⟩:=yE (l:=i.b.a.ents i.l) (i:=j) oM;have ho:i.ords[j]? =ar ⟨e.id,i.s,i.r.price,e.qty,e.top⟩:=by rw[BoI.ords,y6u,he];rfl
  refine⟨⟨oM,oM⟩,e.slot,e.id,e.qty,e.top,y3u he,by rw[y5v];omega,j+1,wjn oM,?_,oM,Z9,k0q⟩;rw[y6m,ho];simp[vB]
 ·have hje:j=i.l.length:=by omega
  subst hje;rw[y5p (l:=i.ords) (by omega)]
  exact kp
def zSp:ordersC.ok Tryz.prog 285:=okw mixed (gokc yHn gok0) 0 (λ_=>[]) (λi=>yOl i) [0] Tryz.func285 yPh
open Go Go.RowKit Cv
def zZl {P:ce} {tS rt e sz by_:Nat} {z:Array cf} (hi:vQ P tS=ar (e,sz,by_,z)) {w:bz} {g i c n k:Nat} {A:Option ci} {cur src:List cf} {T:cd}
 (hg:w.heap[g]? =ar (.cells cur.toArray T (0,0))) (hs:(bg sz n (.slice A n k)).run P w= .ok src.toArray w) (hl:src.length=n*sz) (hfit:i+n<=c) (hroom:i*sz+n*sz<=cur.length) (hone:∀v∈src,v.oneC=av):
 gA P (bo #[tS,tS] rt #[.slice (ar ⟨g,0,au⟩) i c,.slice A n k]) w (.slice (ar ⟨g,0,au⟩) (i+n) c) (World.setB w g (.cells (spl cur (i*sz) src).toArray T (0,0))):=by
 obtain⟨inf,zv,q1,q2,rfl,rfl,q5,rfl⟩:=kG hi;have hst:=wC (P:=P) src 0 (i*inf.size) cur w hg oM hone;simp only[y9n]at hst;have hln:∀w,(Builtin.lenOf (.slice A n k)).run P w= .ok n w:=λw=>rfl
 unfold gA bo;simp only[y7e,y7o,y7c,bind,pure,run_bind,Sem.bind,Sem.run,Cv.run_underlying q1,Cv.run_sizeOf q2,y5x,if_false,hs,hln,hfit,if_true,v8,y6c,hst,xAf]
def z3u {P:ce} {tS ty e sz by_:Nat} {z:Array cf} (hi:vQ P tS=ar (e,sz,by_,z)) (hz:z.size=sz) (h1:∀v∈z.toList,v.oneC=av) {w:bz} {g o n c:Nat} {cur:List cf} {T:cd} (hn:0<n)
 (hg:w.heap[g]? =ar (.cells cur.toArray T (0,0))) (hroom:o+n*sz<=cur.length):
 gA P (Builtin.clear_ #[tS] ty #[.slice (ar ⟨g,o,au⟩) n c]) w (.tuple #[]) (World.setB w g (.cells (spl cur o (be z n).toList).toArray T (0,0))):=by
 obtain⟨inf,zv,q1,q2,rfl,rfl,q5,rfl⟩:=kG hi;have hlz:(be zv.cells n).toList.length=n*inf.size:=by rw[y9b,cg,hz]
 have hst:=wC (P:=P) (be zv.cells n).toList 0 o cur w hg oM (by
  intro v hv;obtain⟨i,hi,rfl⟩:=List.getElem_of_mem hv;simp only[be,Array.getElem_toList,Array.getElem_map,Array.getElem_range];have hpos:0<zv.cells.size:=by
   rcases Nat.eq_zero_or_pos zv.cells.size with h0|h0
   ·rw[hlz,<- hz,h0]at hi;omega
   ·exact h0
  have hlt:i % zv.cells.size<zv.cells.size:=Nat.mod_lt _ hpos;rw[getElem!_pos zv.cells (i % zv.cells.size) hlt];exact h1 _ (by simp))
 simp only[y9n]at hst;have hzr:∀w,(zeroValue e).run P w= .ok zv w:=λw=>zero_run (by unfold zero?;rw[q2];exact q5) w
 obtain⟨m,rfl⟩:∃m,n=m+1:=⟨n-1,oM⟩
 unfold gA Builtin.clear_;simp only[y7e,y7o,y7c,bind,pure,run_bind,Sem.bind,Sem.run,Cv.run_underlying q1,hzr,hst]
def ySr (P:ce) (tS sz:Nat) (s:Option ci) (sn sk:Nat) (i j:Int) (w:bz) (R:Ending->bz->Prop):Prop:=
yWb s sk i j (sn:Int) sz λa1 na1 ka1=>
cnd ((i:Int)==j) (
R (.returned (.slice s sn sk)) w) (
z9h w λw2=>
slN s sn sk au (ar i) sz λa3 na3 ka3=>
slN s sn sk (ar j) au sz λa4 na4 ka4=>
∃(a5:Option ci) (na5 ka5:Nat),∃w6:bz,gA P (bo #[tS,tS] tS #[.slice a3 na3 ka3,.slice a4 na4 ka4]) w2 (.slice a5 na5 ka5) w6/\
slN a5 na5 ka5 (ar (na5:Int)) (ar (sn:Int)) sz λa7 na7 ka7=>
∃w8:bz,gA P (Builtin.clear_ #[tS] 0 #[.slice a7 na7 ka7]) w6 (.tuple #[]) w8/\
R (.returned (.slice a5 na5 ka5)) w8)
def y4n {P:ce} {tS e sz by_:Nat} {z:Array cf} (hi:vQ P tS=ar (e,sz,by_,z)) (hz:z.size=sz) (hz1:∀v∈z.toList,v.oneC=av)
 {k:Ko} {w:bz} {L:List HP} {s:Option ci} {sn sk i j:Nat} {xs:List cf} (H:Hp k w (slO e sz s sn sk xs::L)) (h1:∀u∈xs,u.oneC=av) (hij:i<j) (hj:j<=sn):
 ySr P tS sz s sn sk i j w λen w'=>∃a kk,en= .returned (.slice a (sn-(j-i)) kk)/\Hp k w' (slO e sz a (sn-(j-i)) kk (xs.take (i*sz)++xs.drop (j*sz))::L):=by
 obtain⟨hxl,hnk⟩:=H.len;rcases H.slcases with⟨_,e0,_⟩|⟨b,r,rfl,g1,g2,g3,H0⟩
 ·omega
 have hle:i*sz<=xs.length:=by rw[hxl];exact y6r _ oM
 have hjle:j*sz<=xs.length:=by rw[hxl];exact y6r _ hj
 have hdl:(xs.drop (j*sz)).length=(sn-j)*sz:=by rw[y6b,hxl,Nat.sub_mul]
 have hsum:i*sz+(sn-j)*sz=(sn-(j-i))*sz:=by rw[<- y8f];congr 1;omega
 have hsum2:i*sz+(sn-j)*sz+(j-i)*sz=sn*sz:=by rw[<- y8f,<- y8f];congr 1;omega
 have hsum3:j*sz+(sn-j)*sz=sn*sz:=by rw[<- y8f];congr 1;omega
 have hlen:(xs++r).length=xs.length+r.length:=y5c;unfold ySr;simp only[yWb,slN,y5w];refine⟨⟨oM,oM,oM,oM⟩,Cv.cnd.mk (λc=>absurd c (by simp;omega)) λ_=> ?_⟩;rintro _ rfl;have H1:=H0.drew;have hsrc:(bg sz (sn-j) (.slice (if sk=j then ar ⟨b,0,au⟩else(ar ⟨b,0,au⟩:Option ci).map (·.add (j*sz))) (sn-j) (sk-j))).run P w.drew= .ok (xs.drop (j*sz)).toArray w.drew:=by
  by_cases h0:(sn-j)*sz=0
  ·have:xs.drop (j*sz)=[]:=y6e oM;rw[this];by_cases hk:sk=j
   ·rw[y5f hk];unfold bg;rw[h0];rfl
   ·rw[y5d hk,y7g,v8];unfold bg;rw[h0];rfl
  ·have hk:sk≠j:=by rintro rfl;have:sn-sk=0:=by omega
                    rw[this]at h0;simp at h0
   rw[y5d hk,y7g,v8];unfold bg;rw[gD H1.get (by rw[hlen];omega)];rw[y6c,y7w hjle,y6h (by omega),y5p (by omega)]
 refine⟨⟨oM,oM⟩,⟨oM,oM,hnk⟩,_,_,_,_,zZl (i:=i) (c:=sk) hi H1.get hsrc hdl oM (by rw[hlen];omega) (λv hv=>h1 v (y8y hv)),⟨oM,oM,oM⟩,?_⟩;have H2:=H1.upd (.cells (spl (xs++r) (i*sz) (xs.drop (j*sz))).toArray e);have e1:i+(sn-j)=sn-(j-i):=by omega
 rw[y5d (show sk≠i+(sn-j)by omega),y7g,v8,y6c,e1];have espl:spl (xs++r) (i*sz) (xs.drop (j*sz))=(xs.take (i*sz)++xs.drop (j*sz))++(xs++r).drop ((sn-(j-i))*sz):=by
  simp only[spl];rw[y6h hle,hdl,hsum]
 rw[espl]at H2;have hA:(xs.take (i*sz)++xs.drop (j*sz)).length=(sn-(j-i))*sz:=by
  rw[y5c,y5v,hdl];omega
 have hB:((xs++r).drop ((sn-(j-i))*sz)).length=(j-i)*sz+r.length:=by
  rw[y6b,hlen];omega
 rw[espl];have hn:sn-(sn-(j-i))=j-i:=by omega
 rw[hn];refine⟨_,z3u hi hz hz1 oM H2.get (by rw[y5c,hA,hB];omega),_,_,rfl,?_⟩;have H3:=H2.upd (.cells (spl (xs.take (i*sz)++xs.drop (j*sz)++(xs++r).drop ((sn-(j-i))*sz)) ((sn-(j-i))*sz) (be z (j-i)).toList).toArray e);have es:=zVd (xs.take (i*sz)++xs.drop (j*sz)) ((xs++r).drop ((sn-(j-i))*sz)) (be z (j-i)).toList;rw[hA]at es;rw[es]at H3;rw[es];rw[y5k (xs.take (i*sz)++xs.drop (j*sz))]at H3 ⊢;have hzl:(be z (j-i)).toList.length=(j-i)*sz:=by rw[y9b,cg,hz]
 refine H3.slmk hA ?_ oM;rw[y5c,hA,y5c,hzl,y6b,hB,<- g2,hlen,hxl];omega
structure yYb where
 els:List (List D)
 i:Nat
 j:Nat
def yXf (e sz:Nat):Con where
 ι:=yYb
 pat:=λi=>[.own 0,.d (.v (.int .i64 i.i)),.d (.v (.int .i64 i.j))]
 pre:=λi=>[.own e sz i.els]
 cnd:=λi=>i.i<i.j/\i.j<=i.els.length
 alts:=λi=>[{o:=Unit,res:=λ_=> .own 1,post:=λ_=>[.gone,.own e sz (i.els.take i.i++i.els.drop i.j)],rel:=λ_=>True}]
def delX_ok {P:ce} (hm:P.follows .mixedOrders=av) {tS e sz by_ fI:Nat} {z:Array cf} {fn:Func} {c:Code} (hf:P.funcs[fI]? =ar fn) (hb:fn.body=ar c) (hbd:uE P fI=av) (hok:okC fn.ntmps c=av) (hfx:okF [] c=av) (hsz3:Nat.ble 3 fn.ntmps=av)
 (hi:vQ P tS=ar (e,sz,by_,z)) (hz:z.size=sz) (hz1:∀v∈z.toList,v.oneC=av)
 (heq:∀(s:Option ci) (sn sk:Nat) (i j:Int) (w:bz) (R:Ending->bz->Prop),ySr P tS sz s sn sk i j w R=cwp P [] c (zWk P fn R) (uR [.slice s sn sk,.int .i64 i,.int .i64 j]) w):
 (yXf e sz).ok P fI:=by
 intro i hc k L E w ys R hv;obtain⟨c1,c2⟩:i.i<i.j/\i.j<=i.els.length:=hc;simp only[yXf,VRL,VR,DR]at hv;obtain⟨y0,_,rfl,⟨l0,e0,_⟩,y1,_,rfl,⟨rfl,_⟩,y2,_,rfl,⟨rfl,_⟩,rfl⟩:=hv;obtain⟨s,sk,xs,sub0,g1,hxs,hu,H⟩:=R.ownOpen (n:=0) (t:=e) (sz:=sz) (els:=i.els) rfl;rw[e0]at g1;cases g1;have H2:Hp k w (slO e sz s i.els.length sk xs::fz E.F::L):=H;have hv:=y4n hi hz hz1 H2 hxs.one c1 c2;have hcall:=zKc (args:=[.slice s i.els.length sk,.int .i64 i.i,.int .i64 i.j]) hm hf hb [] hok hfx hsz3 (heq s i.els.length sk i.i i.j w _) hv;refine mP hbd (hcall.mono ?_);rintro en w' ⟨a,kk,rfl,H3⟩;have hl:(i.els.take i.i++i.els.drop i.j).length=i.els.length-(i.j-i.i):=by
  rw[y5c,y5v,y6b];omega
 have H4:Hp k w' (slO e sz a (i.els.take i.i++i.els.drop i.j).length kk (xs.take (i.i*sz)++xs.drop (i.j*sz))::(([]:List (Nat×AObj)).map (rHP E)++fz E.F::L)):=by
  rw[hl];exact H3
 obtain⟨E',r1,r2,r3⟩:=cL (nx:=1) R.nx (by
  rw[xAd,<- pT i.i hu,<- nW i.j hu];exact(hxs.take _).append (hxs.drop _)) (λx hx=>by
   rcases y6g.1 hx with hx|hx
   ·exact hu x (y9y hx)
   ·exact hu x (y8y hx)) H4
 rw[hl]at r3;refine⟨_,rfl,_,y6p.2 rfl,(),trivial,E',r1,r3,⟨r2.nx,?_⟩⟩;exact((@uW k w' True _).2 ⟨trivial,r2.hp⟩).imp (B:=rHP E' (0,.gone)) λx hx=> .inl ⟨rfl,hx.2⟩
def nH (k:Int):List (Int×Place)->List (Int×Place)
 |[]=>[]
 |(a,b)::l=>if k=a then l else(a,b)::nH k l
structure DrI where
 b:Book
 id:Int
 price:Int
 slot:Int
def Book.unhas (b:Book) (s id:Int):Book:=if b.hasF s=av/\b.topI s=id then(if s=1 then{b with has1:=aw}else{b with has2:=aw})else b
def Book.dropF (b:Book) (s id price:Int):Book:=
 if(b.a.qAt ((b.rungs s).getD (zY s (b.rungs s) price) ⟨0,0⟩).queue).count=0 then
  ({b.unhas s id with at_:=nH id b.at_,spare:=b.spare++[((b.rungs s).getD (zY s (b.rungs s) price) ⟨0,0⟩).queue]}:Book).setR s ((b.rungs s).take (zY s (b.rungs s) price)++(b.rungs s).drop (zY s (b.rungs s) price+1))
 else{b.unhas s id with at_:=nH id b.at_}
def yNr (b:Book):AObj:= .cells [.nm 1 0,.own 6,.own 7,.mp 4,zA b.top1,zA b.top2,.own 8,yX b.has1,yX b.has2] 299
@[reducible] def yRs (b:Book):List AObj:=[yNr b,zP b 1,.gone,.gone,zP b 4,.gone,zP b 2,zP b 3,zP b 5]
@[reducible] def DrI.ok (i:DrI) (s:Int):Prop:=i.b.small/\zY s (i.b.rungs s) i.price<(i.b.rungs s).length
def yIp (s:Int):Con:=con1 DrI (λi=>[.nm 0 0,zA i.id,.agg [zA s,zA i.price,zA i.slot]]) (λi=>zKi i.b) (λi=>i.ok s) (λ_=>mX) (λi=>yRs (i.b.dropF s i.id i.price))
def drop1C:Con:=yIp 1
def drop2C:Con:=yIp 2
structure DrJ where
 i:DrI
 s:Bool
def dropC:Con:=con1 DrJ (λj=>[.nm 0 0,zA j.i.id,.agg [zA (zC j.s),zA j.i.price,zA j.i.slot]]) (λj=>zKi j.i.b) (λj=>j.i.ok (zC j.s)) (λ_=>mX) (λj=>yRs (j.i.b.dropF (zC j.s) j.i.id j.i.price))
def delRC:Con:=yXf 304 2
def yWh:zH:=⟨0,0,0,0,aw⟩
def dS (L:List zH) (id:Int):zH:=(L.find? λo=>decide (o.id=id)).getD yWh
def uZ (L:List zH) (id q:Int):List zH:=L.filterMap λo=>if o.id=id then(if o.qty=q then au else ar {o with qty:=o.qty-q})else ar o
def x5 (L:List zH) (id q:Int):List zH×Int:=if wN L id=aw then(L,26)else if q<1\/(dS L id).qty<q then(L,24)else(uZ L id q,0)
def atL (L:List zH) (s p:Int):List zH:=L.filter λo=>decide (o.side=s) && decide (o.price=p)
def grp:List zH->List Lv
 |[]=>[]
 |o::l=>match grp l with
  |[]=>[⟨o.price,o.qty,1⟩]
  |v::vs=>if v.price=o.price then⟨v.price,o.qty+v.qty,v.count+1⟩::vs else⟨o.price,o.qty,1⟩::v::vs
def h9 (L:List zH) (s:Int):List Lv:=grp (L.filter λo=>decide (o.side=s))
def bestL (L:List zH) (s:Int):Lv×Bool:=match h9 L s with
 |[]=>(⟨0,0,0⟩,aw)
 |v::_=>(v,av)
structure BkL where
 b:Book
 L:List zH
structure FlI where
 b:Book
 L:List zH
 id:Int
 qty:Int
structure AtI where
 b:Book
 L:List zH
 s:Bool
 price:Int
def fillC:Con where
 ι:=FlI
 pat:=λi=>[.nm 0 0,zA i.id,zA i.qty]
 pre:=λi=>[z8 i.b]
 cnd:=λi=>i.b.Rep i.L
 alts:=λi=>[{o:=Book,res:=λ_=>zA (x5 i.L i.id i.qty).2,post:=λb=>[z8 b],rel:=λb=>b.Rep (x5 i.L i.id i.qty).1}]
def bfindC:Con:=con1 FlI (λi=>[.nm 0 0,zA i.id]) (λi=>[z8 i.b]) (λi=>i.b.Rep i.L) (λi=> .tup [yCm (dS i.L i.id),yX (wN i.L i.id)]) (λi=>[z8 i.b])
def y0g (s:Bool):Con:=con1 AtI (λi=>[.nm 0 0,zA (zC s),zA i.price]) (λi=>[z8 i.b]) (λi=>i.b.Rep i.L) (λ_=> .own 1) (λi=>[z8 i.b,.own 192 5 ((atL i.L (zC s) i.price).map vB)])
def at1C:Con:=y0g aw
def at2C:Con:=y0g av
def atC:Con:=con1 AtI (λi=>[.nm 0 0,zA (zC i.s),zA i.price]) (λi=>[z8 i.b]) (λi=>i.b.Rep i.L) (λ_=> .own 1) (λi=>[z8 i.b,.own 192 5 ((atL i.L (zC i.s) i.price).map vB)])
end Sx
