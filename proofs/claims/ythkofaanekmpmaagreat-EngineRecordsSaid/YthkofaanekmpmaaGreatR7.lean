/- Texts of ours. No condition. -/
import Derived.Test.YthkofaanekmpmaaGreatR6
set_option linter.all false
open List renaming map->aa,take->ab,replicate->ac,getElem?_modify->ae,drop->af,range->ag,length_erase_of_mem->aj,getElem?_replicate->ak,pairwise_append->am,map_singleton->ao
open Go.IntKind renaming i64->ap,u64->aq
open Option renaming some->ar,none->au
open Bool renaming true->av,false->aw
open Sx.AObj renaming own->ax,cells->ay,fro->az,adt->ba,map->bc
open Go.Builtin renaming zeroCells->be,firstCells->bg,append_->bo
open Exists renaming intro->bu
open And renaming intro->bv
open Go renaming World->bz,TypeId->cd,Program->ce,Value->cf,size_zeroCells->cg,Addr->ci
namespace Sx
set_option maxRecDepth 100000
open Go Cv Go.Proofs
def zVb {x:Int} (h0:0<=x) (h1:x<4294967296):zDj .u64 x 4294967295=x:=by
 have e:zDj .u64 x 4294967295=aq.wrap ((BitVec.ofInt 64 x &&& BitVec.ofInt 64 4294967295).toNat:Int):=rfl;obtain⟨n,rfl⟩:=Int.eq_ofNat_of_zero_le h0;have hn:n<4294967296:=by omega
 rw[e,BitVec.toNat_and,BitVec.ofInt_natCast,BitVec.toNat_ofNat,show(BitVec.ofInt 64 4294967295).toNat=2 ^ 32-1 by decide,Nat.and_two_pow_sub_one_eq_mod];rw[show n % 2 ^ 64 % 2 ^ 32=n by omega,zBp (by omega)]
def zLk {x:Int} (h0:0<=x) (h1:x<4294967296):bL .u64 x 32=0:=by
 have:=zAs .u64 x 32 Z8;rw[show((32:Nat):Int)=32 by rfl]at this;rw[this];omega
def z7h {a b m n:Int} (ha:0<=a/\a<=m) (hb:0<=b/\b<=n):0<=a*b/\a*b<=m*n:=
 ⟨xBl ha.1 hb.1,Int.mul_le_mul ha.2 hb.2 hb.1 oM⟩
def yWz (i:M2) (h:mul64C.cnd i):yFs i:=by
 obtain⟨h1,h2,h3,h4⟩:0<=i.a/\i.a<=2000000000/\0<=i.b/\i.b<=2000000000:=h;have hm:=z7h ⟨h1,h2⟩ ⟨h3,h4⟩;have hs:bL aq (i.a*i.b) 32=(i.a*i.b) / 4294967296:=by
  have:=zAs .u64 (i.a*i.b) 32 Z8;rw[show((32:Nat):Int)=32 by rfl]at this;exact this
 unfold yFs zDe;refine⟨Z8,Z8,Z8,Z8,Z8,(),?_,?_,trivial⟩
 ·rw[zVb h1 (by omega),zVb h3 (by omega),zLk h1 (by omega),zLk h3 (by omega),zBp (x:=i.a*i.b) (by omega),hs];simp only[Int.zero_mul,Int.mul_zero,Int.zero_add,Int.add_zero];rw[zBp (x:=0) (by omega)];simp only[Int.zero_add,Int.add_zero];rw[zBp (x:=i.a*i.b / 4294967296) (by omega),zLk (x:=i.a*i.b / 4294967296) (by omega) (by omega),zVb (x:=i.a*i.b / 4294967296) (by omega) (by omega),zBp (x:=i.a*i.b / 4294967296) (by omega),zLk (x:=i.a*i.b / 4294967296) (by omega) (by omega)];rfl
 ·rw[zBp (by omega)]
def yIw:mul64C.ok Tryz.prog 313:=okw mixed gok0 0 (λ_=>[]) (λ_=>[]) [] Tryz.func313 yWz
def yWu (i:M2) (h:div64C.cnd i):yGn i:=by
 obtain⟨h1,h2,h3,h4⟩:0<=i.a/\i.a<=4000000000000000000/\1<=i.b/\i.b<=2000000000:=h;unfold yGn;have hd:0<=i.a / i.b/\i.a / i.b<=i.a:=⟨Int.ediv_nonneg h1 oM,Int.ediv_le_self _ h1⟩
 refine Cv.cnd.mk (λc=>absurd (eq_of_beq c) oM) (λ_=>zH (λc=>by omega) (λ_=>⟨rfl,oM,rfl,oM,(),?_,?_,trivial⟩))
 ·rw[Int.tdiv_eq_ediv_of_nonneg h1,zBp (by omega)]
 ·rw[Int.tmod_eq_emod_of_nonneg h1]
def yFa:div64C.ok Tryz.prog 314:=okw mixed gok0 0 (λ_=>[]) (λ_=>[]) [] Tryz.func314 yWu
def yNe (i:ShI) (h:ishareC.cnd i):z6z i:=by
 obtain⟨h1,h2,h3,h4,h5,h6⟩:0<=i.a/\i.a<=2000000000/\0<=i.b/\i.b<=2000000000/\1<=i.c/\i.c<=2000000000:=h;have hm:=z7h ⟨h1,h2⟩ ⟨h3,h4⟩;have hd:0<=i.a*i.b / i.c/\i.a*i.b / i.c<=i.a*i.b:=⟨Int.ediv_nonneg hm.1 oM,Int.ediv_le_self _ hm.1⟩
 unfold z6z;rw[zBp (x:=i.a) (by omega),zBp (x:=i.b) (by omega),zBp (x:=i.c) (by omega)];refine zH (λc=>by omega) (λ_=>zH (λc=>by omega) (λ_=>zH (λc=>by omega) (λ_=>⟨⟨i.a,i.b⟩,rfl,rfl,⟨h1,h2,h3,h4⟩,λ_ _=>zH (λc=>by omega) (λ_=>⟨⟨i.a*i.b,i.c⟩,rfl,rfl,rfl,⟨hm.1,Z9,h5,h6⟩,λ_ _=>zH (λc=>by dsimp only at c;omega) (λ_=>⟨(),?_,rfl,trivial⟩)⟩)⟩)));rw[w64 (by dsimp only;omega)]
def zRa:ishareC.ok Tryz.prog 307:=okw mixed (gokc yIw (gokc yFa gok0)) 0 (λ_=>[]) (λ_=>[]) [] Tryz.func307 yNe
def wjn {j:Nat} (h:j<=1000000):((j+1:Nat):Int)=ap.wrap ((j:Int)+1):=by rw[w64 (by omega)];rfl
def jX {l:List Int} {j:Nat} {x:Int} (h:l[j]? =ar x):(l.take (j+1)).sum=(l.take j).sum+x:=by
 rw[y6n,h];simp
def jS {l:List Int} (h:∀x∈l,0<=x/\x<=1000000):∀j:Nat,0<=(l.take j).sum/\(l.take j).sum<=1000000*j
 |0=>by simp
 |j+1=>by
  have ih:=jS h j;cases hx:l[j]? with
  |none=>
   have:l.take (j+1)=l.take j:=by
    rw[y6n,hx];simp
   rw[this];omega
  |some x=>
   have:=h x (y5p hx);rw[jX hx];omega
def y0h (l:List Int) (h:isumC.cnd l):yRn l:=by
 obtain⟨hl,hb⟩:l.length<=1000/\∀x∈l,0<=x/\x<=1000000:=h;unfold yRn kT dI;simp only[yZ];refine⟨0,by(first|exact rfl|exact trivial),by(first|exact rfl|exact trivial),by(first|exact rfl|exact trivial),λj=>j<=l.length,λj=>l.length-j,y6l _,λj hj=>zH (λc=> ?_) (λc=> ?_)⟩
 ·have hj':j<l.length:=by omega
  obtain⟨x,hx⟩:=yD (l:=l) (i:=j) hj';have bx:=hb x (y5p hx);have bs:=jS hb j;refine⟨⟨oM,oM⟩,x,elI hx,⟨(l.take j).sum,x,0⟩,rfl,by rw[zBp (by omega)],rfl,⟨bs.1,bx.1,Z9,Z9⟩,λ_ _=>⟨Z8,j+1,?_,?_,wjn oM,hj',Z9,trivial⟩⟩
  ·rw[jX hx];dsimp only;omega
  ·have e:bL ap x 63=x / 9223372036854775808:=by
    have:=zAs .i64 x 63 Z8;rw[show((63:Nat):Int)=63 by rfl]at this;exact this
   dsimp only;rw[e,show x / 9223372036854775808=0 by omega,show((l.take j).sum+x+0) / 18446744073709551616=0 by omega];rfl
 ·have hj':j=l.length:=by omega
  subst hj';have bs:=jS hb l.length;rw[y8d]at bs;have e:bL ap l.sum 63=l.sum / 9223372036854775808:=by
   have:=zAs .i64 l.sum 63 Z8;rw[show((63:Nat):Int)=63 by rfl]at this;exact this
  rw[y8d,w64 (x:=l.sum) (by omega),e,show l.sum / 9223372036854775808=0 by omega];exact⟨Z8,Cv.cnd.mk (λc=>absurd c Z8) (λ_=>⟨(),by(first|exact rfl|exact trivial),by(first|exact rfl|exact trivial),trivial⟩)⟩
def yLc:isumC.ok Tryz.prog 319:=okw mixed (gokc yBe gok0) 0 (λ_=>[]) (λl=>y2p l) [] Tryz.func319 y0h
def yXd (i:LqI) (h:rightC.cnd i):yEx i:=by
 obtain⟨hl,hq⟩:i.l.length<=1000000/\yW i.q:=h;unfold yEx kT dI;simp only[yZ];refine zH (λc=>⟨(),?_,trivial⟩) (λc1=>zH (λc=>⟨(),?_,trivial⟩) (λc2=> ?_))
 ·rw[yU,y5r (by omega:¬i.l.length<=250)];rfl
 ·rw[yU,y5r (by omega:¬0<=i.q)];simp
 refine⟨0,by(first|exact rfl|exact trivial),by(first|exact rfl|exact trivial),λj=>j<=i.l.length/\∀k<j,∀x,i.l[k]? =ar x->1<=x/\x<=1000000,λj=>i.l.length-j,⟨y6l _,λk hk=>absurd hk (Nat.not_lt_zero k)⟩,λj hj=>zH (λc=> ?_) (λc=> ?_)⟩
 ·obtain⟨hj0,hjb⟩:=hj;have hj':j<i.l.length:=by omega
  obtain⟨x,hx⟩:=yD (l:=i.l) (i:=j) hj';have bad (hn:¬(1<=x/\x<=1000000)):yU i.l i.q=aw:=by
   have:(i.l.all λn=>decide (1<=n) && decide (n<=1000000))=aw:=by
    rw[List.all_eq_false];exact⟨x,y5p hx,by simpa using hn⟩
   rw[yU,this];simp
  have bs:0<=(i.l.take j).sum/\(i.l.take j).sum<=1000000*j:=by
   have:=jS (l:=i.l.take j) (λy hy=>by
    obtain⟨k,hk⟩:=y7w.1 hy;have hkj:k<j:=by
     have:=(y5i.1 hk).1;rw[y5w]at this;omega
    rw[List.getElem?_take_of_lt hkj]at hk;have:=hjb k hkj y hk;omega) j
   rwa [List.take_take,Nat.min_self]at this
  refine⟨⟨oM,oM⟩,x,elI hx,zH (λd=>⟨(),bad oM,trivial⟩) (λd=>zH (λe=>⟨(),bad oM,trivial⟩) (λe=>⟨j+1,?_,wjn oM,⟨hj',λk hk y hy=> ?_⟩,Z9,trivial⟩))⟩
  ·rw[jX hx,w64 (by omega)]
  ·by_cases hkj:k=j
   ·rw[hkj,hx]at hy;cases hy;omega
   ·exact hjb k oM y hy
 ·obtain⟨hj0,hjb⟩:=hj;have hj':j=i.l.length:=by omega
  subst hj';have:(i.l.all λn=>decide (1<=n) && decide (n<=1000000))=av:=by
   rw[y8k];intro y hy;obtain⟨k,hk⟩:=y7w.1 hy;have:=hjb k ((y5i.1 hk).1) y hk;simpa using this
  refine⟨(),?_,trivial⟩;rw[yU,this,y5v (by omega:i.l.length<=250),y5v (by omega:0<=i.q),y8d];rfl
def zEf:rightC.ok Tryz.prog 305:=okw mixed gok0 0 (λ_=>[]) (λi=>yTv i) [] Tryz.func305 yXd
def jH {l:List Int} {q:Int} (h:yU l q=av):l.length<=250/\0<=q/\(∀x∈l,1<=x/\x<=1000000)/\q<=l.sum:=by
 simp only[yU,y5s,y6t,y8k]at h;exact⟨h.1.1.1,h.1.1.2,h.1.2,h.2⟩
def zLi {l:List Int} {q:Int} (h:yU l q=av):q<=250000000:=by
 obtain⟨h1,h2,h3,h4⟩:=jH h;have:=jS (l:=l) (λx hx=>by have:=h3 x hx;omega) l.length;rw[y8d]at this;omega
def tZ:∀(l:List Int) (q:Int),(uX l q).length=l.length
 |[],_=>rfl
 |n::l,q=>by rw[uX,y5j,y5j,tZ l]
def zQe:∀(l:List Int) (q:Int) (j:Nat) (n:Int),l[j]? =ar n->(uX l q)[j]? =ar (min n (q-((uX l q).take j).sum))
 |[],_,_,_,h=>by simp at h
 |m::l,q,0,n,h=>by simp at h;subst h;simp[uX]
 |m::l,q,j+1,n,h=>by
  rw[y7d]at h;rw[uX,y7d,zQe l _ j n h,y6p,y6u];congr 2;omega
def zJr:∀(l:List Int) (q:Int) (j:Nat),0<=q->(∀x∈l,0<=x)->0<=q-((uX l q).take j).sum/\q-((uX l q).take j).sum<=q
 |[],q,j,h,_=>by simp[uX,h]
 |m::l,q,0,h,_=>by simp[h]
 |m::l,q,j+1,h,hb=>by
  have hm:=hb m y5k;have:=zJr l (q-min m q) j oM (λx hx=>hb x (y5m _ hx));rw[uX,y6p,y6u];omega
def y0q (i:LqI) (h:fifoC.cnd i):yRt i:=by
 obtain⟨hl,hq⟩:i.l.length<=1000000/\yW i.q:=h;unfold yRt wA wJ dI;refine⟨i,rfl,rfl,⟨hl,hq⟩,λ_ _=>Cv.cnd.mk (λc=> ?_) (λc=> ?_)⟩
 ·have c:yU i.l i.q=aw:=by simpa using c
  refine⟨(),?_,trivial⟩;rw[hP,y5e (by rw[c];decide)];rfl
 have c:yU i.l i.q=av:=by simpa using c
 obtain⟨h1,h2,h3,h4⟩:=jH c;have hq2:=zLi c;have h3':∀x∈i.l,0<=x:=λx hx=>by have:=h3 x hx;omega
 simp only[yZ];refine⟨0,by simp,rfl,rfl,λj=>j<=i.l.length,λj=>i.l.length-j,y6l _,λj hj=>zH (λd=> ?_) (λd=> ?_)⟩
 ·have hj':j<i.l.length:=by omega
  obtain⟨x,hx⟩:=yD (l:=i.l) (i:=j) hj';have bx:=h3 x (y5p hx);have g:=zQe i.l i.q j x hx;have r:=zJr i.l i.q j h2 h3';refine⟨⟨oM,oM⟩,x,elI hx,by rw[y5w];omega,j+1,?_,wjn oM,?_,hj',Z9,trivial⟩
  ·rw[jX g,w64 (by omega)];omega
  ·rw[y6n,g];simp[iE]
 ·have hj':j=i.l.length:=by omega
  subst hj';refine⟨(),?_,trivial⟩;rw[hP,y5g c,y5q (by rw[tZ];omega)]
def z7p:fifoC.ok Tryz.prog 286:=okw mixed (gokc zEf gok0) 0 (λ_=>[]) (λi=>yZz i) [] Tryz.func286 y0q
structure Ent where
 slot:Int
 id:Int
 qty:Int
 top:Bool
 deriving DecidableEq
def yZt:Ent:=⟨0,0,0,aw⟩
def zKz (e:Ent):List D:=[.v (.int .i64 e.slot),.v (.int .i64 e.id),.v (.int .i64 e.qty),.v (.bool e.top)]
@[reducible] def y4r (e:Ent):V:= .agg [zA e.slot,zA e.id,zA e.qty,yR e.top]
def Slot.ent (s:Slot):Ent:=⟨s.n,s.id,s.qty,s.top⟩
def Arena.slotAt (a:Arena) (k:Nat):Slot:=a.slots.getD k slot0
def Arena.getF (a:Arena) (n:Int):Ent×Bool:=if a.usedAt n=av then((a.slotAt n.toNat).ent,av)else(yZt,aw)
def agetC:Con:=con1 ArN (λi=>[.nm 0 0,zA i.n]) (λi=>[jY i.a]) (λi=>i.a.slots.length<=1000000) (λi=> .tup [y4r (i.a.getF i.n).1,yR (i.a.getF i.n).2]) (λi=>[jY i.a])
def zYn (sl:List Slot):Int->List Nat->Prop
 |at_,[]=>at_= -1
 |at_,k::l=>at_=k/\k<sl.length/\zYn sl (sl.getD k slot0).back l
structure ArL where
 a:Arena
 n:Int
 l:List Nat
def tX (l:List Nat) (j:Nat):Int:=match l[j]? with
 |some k=>k
 |none=> -1
def Arena.ents (a:Arena) (l:List Nat):List Ent:=l.map λk=>(a.slotAt k).ent
structure Arena.listOk (a:Arena) (n:Int) (l:List Nat):Prop where
 len:l.length<=1000000
 ch:if 0<=n/\n<a.queues.length then zYn a.slots (a.queues.getD n.toNat mB).first l else l=[]
def alistC:Con:=con1 ArL (λi=>[.nm 0 0,zA i.n]) (λi=>[jY i.a]) (λi=>i.a.listOk i.n i.l) (λ_=> .own 1) (λi=>[jY i.a,.own 326 4 ((i.a.ents i.l).map zKz)])
def yTz (i:ArL):List SAnn:=[{ι:=Nat,slots:=λj=>[(5,.own 0),(6,zA (tX i.l j))],rows:=λj=>[.own 326 4 ((i.a.ents (i.l.take j)).map zKz)]}]
structure TkI where
 a:Arena
 n:Int
 qty:Int
def Arena.dropF (a:Arena) (k:Nat):Arena:=
 let s:=a.slotAt k
 let q:=a.queues.getD s.queue.toNat mB
 let sl1:=if s.ahead= -1 then a.slots else a.slots.modify s.ahead.toNat λx=>{x with back:=s.back}
 let sl2:=if s.back= -1 then sl1 else sl1.modify s.back.toNat λx=>{x with ahead:=s.ahead}
 ⟨sl2.set k slot0,a.queues.set s.queue.toNat ⟨if s.ahead= -1 then s.back else q.first,if s.back= -1 then s.ahead else q.last,q.total,ap.wrap (q.count-1)⟩,ap.wrap (a.free+1)⟩
def Arena.less (a:Arena) (k:Nat) (qty:Int):Arena:=
 {a with slots:=a.slots.modify k λs=>{s with qty:=s.qty-qty},queues:=a.queues.modify (a.slotAt k).queue.toNat λq=>{q with total:=ap.wrap (q.total-qty)}}
def Arena.takeF (a:Arena) (n qty:Int):Arena×Int:=
 if a.usedAt n=aw then(a,26)else if qty<1\/(a.slotAt n.toNat).qty<qty then(a,24)
 else if(a.slotAt n.toNat).qty=qty then((a.less n.toNat qty).dropF n.toNat,0)else(a.less n.toNat qty,0)
def Arena.okAt (a:Arena):Prop:=a.slots.length<=1000000/\∀(k:Nat) (s:Slot),a.slots[k]? =ar s->s.used=av->(0<=s.queue/\s.queue<a.queues.length)/\s.qty<=1000000/\(s.ahead= -1\/(0<=s.ahead/\s.ahead<a.slots.length/\s.ahead≠k))/\(s.back= -1\/(0<=s.back/\s.back<a.slots.length/\s.back≠k))
def atakeC:Con:=con1 TkI (λi=>[.nm 0 0,zA i.n,zA i.qty]) (λi=>[jY i.a]) (λi=>i.a.okAt) (λi=>zA (i.a.takeF i.n i.qty).2) (λi=>[jY (i.a.takeF i.n i.qty).1])
def l9 (a:ArN):Prop:=∃(b:Unit),(a.a.getF a.n).fst.slot=0/\(a.a.getF a.n).fst.id=0/\(a.a.getF a.n).fst.qty=0/\(a.a.getF a.n).fst.top=aw/\(a.a.getF a.n).snd=aw/\jK a
def yQp (i:ArN):Prop:=
 cnd (decide (i.n<0)) (l9 i) (cnd (decide (i.n>=(↑(aa zQ i.a.slots).length:Int))) (l9 i) ((0<=i.n/\i.n<(↑(aa zQ i.a.slots).length:Int))/\∃(a:Bool),zE (aa zQ i.a.slots) i.n.toNat 0 1=ar [D.v (.bool a)]/\cnd (!a) (l9 i) ((0<=i.n/\i.n<(↑(aa zQ i.a.slots).length:Int))/\∃(b:Int),∃(c:Int),∃(d:Int),∃(e:Bool),zE (aa zQ i.a.slots) i.n.toNat 1 4=ar [dI b,dI c,dI d,D.v (.bool e)]/\∃(f:Unit),(i.a.getF i.n).fst.slot=b/\(i.a.getF i.n).fst.id=c/\(i.a.getF i.n).fst.qty=d/\(i.a.getF i.n).fst.top=e/\(i.a.getF i.n).snd=av/\jK i)))
def zCf (a:ArL):Prop:=∃(b:Unit),dh a.a.free/\dh (aa zQ a.a.slots)/\dh (aa zO a.a.queues)/\aa zKz (a.a.ents a.l)=[]/\True
def yGs (i:ArL):Prop:=
 cnd (decide (i.n>=0)) (cnd (!decide (i.n<(↑(aa zO i.a.queues).length:Int))) (zCf i) ((0<=i.n/\i.n<(↑(aa zO i.a.queues).length:Int))/\∃(a:Int),zE (aa zO i.a.queues) i.n.toNat 0 1=ar [dI a]/\∃(b:Nat),tX i.l b=a/\aa zKz (i.a.ents (ab b i.l))=[]/\∃(c:Nat->Prop),∃(d:Nat->Nat),c b/\∀(e:Nat),c e->cnd (tX i.l e !=(-1)) ((0<=tX i.l e/\tX i.l e<(↑(aa zQ i.a.slots).length:Int))/\∃(f:Int),∃(g:Int),∃(h:Int),∃(j:Bool),zE (aa zQ i.a.slots) (tX i.l e).toNat 1 4=ar [dI f,dI g,dI h,D.v (.bool j)]/\((aa zKz (i.a.ents (ab e i.l))).length+1)*(32:Nat)<=(140737488355328:Nat)/\(0<=tX i.l e/\tX i.l e<(↑(aa zQ i.a.slots).length:Int))/\∃(k:Int),zE (aa zQ i.a.slots) (tX i.l e).toNat 7 1=ar [dI k]/\∃(l:Nat),tX i.l l=k/\aa zKz (i.a.ents (ab l i.l))=aa zKz (i.a.ents (ab e i.l))++[[dI f,dI g,dI h,D.v (.bool j)]]/\c l/\d l<d e/\dh (ay [V.own 1,V.own 2,V.d (dI i.a.free)] (355:cd))/\dh (ax 362 8 (aa zQ i.a.slots))/\dh (ax 365 4 (aa zO i.a.queues))) (∃(f:Unit),dh i.a.free/\dh (aa zQ i.a.slots)/\dh (aa zO i.a.queues)/\aa zKz (i.a.ents i.l)=aa zKz (i.a.ents (ab e i.l))/\True))) (zCf i)
def zDn (a:TkI):Prop:=(a.a.takeF a.n a.qty).fst.free=a.a.free/\aa zQ (a.a.takeF a.n a.qty).fst.slots=aa zQ a.a.slots/\aa zO (a.a.takeF a.n a.qty).fst.queues=aa zO a.a.queues/\True
def rT (a:TkI):Prop:=∃(b:Unit),(a.a.takeF a.n a.qty).snd=26/\zDn a
def zDh (a:TkI):Prop:=∃(b:Unit),(a.a.takeF a.n a.qty).snd=24/\zDn a
def wS (a:TkI) (b:Int) (c:Int):=(zV (aa zO a.a.queues) b.toNat 2 [dI (ap.wrap (c-a.qty))])
def dR (a:TkI) (b:Int) (c:Int) (d:Int) (e:Int):=(zV (wS a b c) d.toNat 0 [dI e])
def rO (a:TkI) (b:Int) (c:Int) (d:Int) (e:Int) (f:Int):=(zV (dR a b c d e) d.toNat 1 [dI f])
def y7 (a:TkI) (b:Int):=(zV (aa zQ a.a.slots) a.n.toNat 3 [dI (ap.wrap (b-a.qty))])
def zCl (a:Int) (b:TkI) (c:Int):Prop:=0<=a/\a<(↑(y7 b c).length:Int)
def kZ (a:TkI) (b:Int) (c:Int) (d:Int):=(zV (y7 a b) c.toNat 7 [dI d])
def sI (a:TkI) (b:Int) (c:Int) (d:Int) (e:Int):=(zV (wS a b c) d.toNat 1 [dI e])
def yHo (i:TkI):Prop:=
 cnd (decide (i.n<0)) (rT i) (cnd (decide (i.n>=(↑(aa zQ i.a.slots).length:Int))) (rT i) ((0<=i.n/\i.n<(↑(aa zQ i.a.slots).length:Int))/\∃(a:Bool),zE (aa zQ i.a.slots) i.n.toNat 0 1=ar [D.v (.bool a)]/\cnd (!a) (rT i) ((0<=i.n/\i.n<(↑(aa zQ i.a.slots).length:Int))/\cnd (decide (i.qty<1)) (zDh i) (∃(b:Int),zE (aa zQ i.a.slots) i.n.toNat 3 1=ar [dI b]/\cnd (decide (i.qty>b)) (zDh i) (∃(c:Int),zE (aa zQ i.a.slots) i.n.toNat 3 1=ar [dI c]/\i.n.toNat<(aa zQ i.a.slots).length/\∃(d:Int),zE (y7 i c) i.n.toNat 5 1=ar [dI d]/\(0<=d/\d<(↑(aa zO i.a.queues).length:Int))/\∃(e:Int),zE (aa zO i.a.queues) d.toNat 2 1=ar [dI e]/\(0<=d/\d<(↑(aa zO i.a.queues).length:Int))/\d.toNat<(aa zO i.a.queues).length/\∃(f:Int),zE (y7 i c) i.n.toNat 3 1=ar [dI f]/\cnd (f==0) (∃(g:Int),zE (y7 i c) i.n.toNat 5 1=ar [dI g]/\(0<=g/\g<(↑(wS i d e).length:Int))/\∃(h:Int),zE (y7 i c) i.n.toNat 6 1=ar [dI h]/\cnd (h==(-1)) (∃(j:Int),zE (y7 i c) i.n.toNat 7 1=ar [dI j]/\g.toNat<(wS i d e).length/\∃(k:Int),zE (y7 i c) i.n.toNat 7 1=ar [dI k]/\cnd (k==(-1)) (∃(l:Int),zE (y7 i c) i.n.toNat 6 1=ar [dI l]/\g.toNat<(dR i d e g j).length/\∃(m:Int),zE (rO i d e g j l) g.toNat 3 1=ar [dI m]/\g.toNat<(rO i d e g j l).length/\i.n.toNat<(y7 i c).length/\∃(n:Unit),(i.a.takeF i.n i.qty).snd=0/\(i.a.takeF i.n i.qty).fst.free=ap.wrap (i.a.free+1)/\aa zQ (i.a.takeF i.n i.qty).fst.slots=zV (y7 i c) i.n.toNat 0 [D.v (.bool aw),dI 0,dI 0,dI 0,D.v (.bool aw),dI 0,dI 0,dI 0]/\aa zO (i.a.takeF i.n i.qty).fst.queues=zV (rO i d e g j l) g.toNat 3 [dI (ap.wrap (m-1))]/\True) (∃(l:Int),zE (y7 i c) i.n.toNat 7 1=ar [dI l]/\∃(m:Int),zE (y7 i c) i.n.toNat 6 1=ar [dI m]/\(zCl l i c)/\l.toNat<(y7 i c).length/\∃(n:Int),zE (dR i d e g j) g.toNat 3 1=ar [dI n]/\g.toNat<(dR i d e g j).length/\i.n.toNat<(zV (y7 i c) l.toNat 6 [dI m]).length/\∃(p:Unit),(i.a.takeF i.n i.qty).snd=0/\(i.a.takeF i.n i.qty).fst.free=ap.wrap (i.a.free+1)/\aa zQ (i.a.takeF i.n i.qty).fst.slots=zV (zV (y7 i c) l.toNat 6 [dI m]) i.n.toNat 0 [D.v (.bool aw),dI 0,dI 0,dI 0,D.v (.bool aw),dI 0,dI 0,dI 0]/\aa zO (i.a.takeF i.n i.qty).fst.queues=zV (dR i d e g j) g.toNat 3 [dI (ap.wrap (n-1))]/\True)) (∃(j:Int),zE (y7 i c) i.n.toNat 6 1=ar [dI j]/\∃(k:Int),zE (y7 i c) i.n.toNat 7 1=ar [dI k]/\(zCl j i c)/\j.toNat<(y7 i c).length/\∃(l:Int),zE (kZ i c j k) i.n.toNat 7 1=ar [dI l]/\cnd (l==(-1)) (∃(m:Int),zE (kZ i c j k) i.n.toNat 6 1=ar [dI m]/\g.toNat<(wS i d e).length/\∃(n:Int),zE (sI i d e g m) g.toNat 3 1=ar [dI n]/\g.toNat<(sI i d e g m).length/\i.n.toNat<(kZ i c j k).length/\∃(p:Unit),(i.a.takeF i.n i.qty).snd=0/\(i.a.takeF i.n i.qty).fst.free=ap.wrap (i.a.free+1)/\aa zQ (i.a.takeF i.n i.qty).fst.slots=zV (kZ i c j k) i.n.toNat 0 [D.v (.bool aw),dI 0,dI 0,dI 0,D.v (.bool aw),dI 0,dI 0,dI 0]/\aa zO (i.a.takeF i.n i.qty).fst.queues=zV (sI i d e g m) g.toNat 3 [dI (ap.wrap (n-1))]/\True) (∃(m:Int),zE (kZ i c j k) i.n.toNat 7 1=ar [dI m]/\∃(n:Int),zE (kZ i c j k) i.n.toNat 6 1=ar [dI n]/\(0<=m/\m<(↑(kZ i c j k).length:Int))/\m.toNat<(kZ i c j k).length/\∃(p:Int),zE (wS i d e) g.toNat 3 1=ar [dI p]/\g.toNat<(wS i d e).length/\i.n.toNat<(zV (kZ i c j k) m.toNat 6 [dI n]).length/\∃(q:Unit),(i.a.takeF i.n i.qty).snd=0/\(i.a.takeF i.n i.qty).fst.free=ap.wrap (i.a.free+1)/\aa zQ (i.a.takeF i.n i.qty).fst.slots=zV (zV (kZ i c j k) m.toNat 6 [dI n]) i.n.toNat 0 [D.v (.bool aw),dI 0,dI 0,dI 0,D.v (.bool aw),dI 0,dI 0,dI 0]/\aa zO (i.a.takeF i.n i.qty).fst.queues=zV (wS i d e) g.toNat 3 [dI (ap.wrap (p-1))]/\True))) (∃(g:Unit),(i.a.takeF i.n i.qty).snd=0/\(i.a.takeF i.n i.qty).fst.free=i.a.free/\aa zQ (i.a.takeF i.n i.qty).fst.slots=zV (aa zQ i.a.slots) i.n.toNat 3 [dI (ap.wrap (c-i.qty))]/\aa zO (i.a.takeF i.n i.qty).fst.queues=zV (aa zO i.a.queues) d.toNat 2 [dI (ap.wrap (e-i.qty))]/\True))))))
def zLt {a:Arena} {n:Int} (h:n<0\/(a.slots.length:Int)<=n):a.usedAt n=aw:=by
 rcases h with h|h
 ·rw[Arena.usedAt,y5r (by omega),y8p]
 ·rw[Arena.usedAt,y5r (show ¬n<(a.slots.length:Int)by omega),y8p,xAi]
def z7n {a:Arena} {n:Int} {s:Slot} (h0:0<=n) (hs:a.slots[n.toNat]? =ar s):a.usedAt n=s.used:=by
 have hl:=(y5i.1 hs).1;rw[Arena.usedAt,y5v h0,y5v (show n<(a.slots.length:Int)by omega),zT hs];simp
def xO {a:Arena} {k:Nat} {s:Slot} (hs:a.slots[k]? =ar s):a.slotAt k=s:=zT hs
def y1e (i:ArN) (h:agetC.cnd i):yQp i:=by
 have h:i.a.slots.length<=1000000:=h;unfold yQp l9 jK dI;simp only[y5f];have no (e:i.a.usedAt i.n=aw):i.a.getF i.n=(yZt,aw):=by rw[Arena.getF,y5e (by rw[e];decide)]
 refine zH (λc=> ?_) (λc=>zH (λd=> ?_) (λd=> ?_))
 ·rw[no (zLt (.inl c))];exact kp
 ·rw[no (zLt (.inr (by omega)))];exact kp
 ·obtain⟨s,hs⟩:=yD (l:=i.a.slots) (i:=i.n.toNat) oM;have eu:=z7n (a:=i.a) (n:=i.n) oM hs;refine⟨⟨oM,oM⟩,s.used,elA hs (by simp[zQ]) rfl,Cv.cnd.mk (λu=> ?_) (λu=> ?_)⟩
  ·rw[no (by rw[eu];simpa using u)];exact kp
  ·have e:i.a.usedAt i.n=av:=by rw[eu];simpa using u
   have et:i.a.getF i.n=(s.ent,av):=by rw[Arena.getF,y5g e,xO hs]
   rw[et];refine⟨⟨oM,oM⟩,s.n,s.id,s.qty,s.top,elA hs (by simp[zQ]) rfl,?_⟩
   exact kp
def z9m:agetC.ok Tryz.prog 210:=okw mixed gok0 1 (λ_=>[]) (λ_=>[]) [0] Tryz.func210 y1e
def zTd:∀{sl:List Slot} {at_:Int} {l:List Nat},zYn sl at_ l->tX l 0=at_/\∀j k,l[j]? =ar k->k<sl.length/\tX l (j+1)=(sl.getD k slot0).back
 |sl,at_,[],h=>⟨h.symm,λj k hk=>by simp at hk⟩
 |sl,at_,x::l,h=>by
  obtain⟨h1,h2,h3⟩:=h;have ih:=zTd h3;refine⟨h1.symm,λj k hk=> ?_⟩;cases j with
  |zero=>
   simp at hk;subst hk;exact⟨h2,by rw[<- ih.1];rfl⟩
  |succ j=>
   rw[y7d]at hk;obtain⟨a,b⟩:=ih.2 j k hk;exact⟨a,by rw[<- b];rfl⟩
def ySn (i:ArL) (h:alistC.cnd i):yGs i:=by
 obtain⟨hl,h⟩:i.l.length<=1000000/\(if 0<=i.n/\i.n<i.a.queues.length then zYn i.a.slots (i.a.queues.getD i.n.toNat mB).first i.l else i.l=[]):=⟨h.len,h.ch⟩
 unfold yGs zCf dI;simp only[y5f];have out (e:¬(0<=i.n/\i.n<(i.a.queues.length:Int))):i.l=[]:=by rw[y5e e]at h;exact h
 refine zH (λc=>Cv.cnd.mk (λd=> ?_) (λd=> ?_)) (λc=> ?_)
 ·have d:¬i.n<(i.a.queues.length:Int):=by simpa using d
  rw[out (by omega)];exact kp
 ·have d:i.n<(i.a.queues.length:Int):=by simpa using d
  rw[y5g ⟨by omega,d⟩]at h;obtain⟨q,hq⟩:=yD (l:=i.a.queues) (i:=i.n.toNat) oM;rw[zT hq]at h;obtain⟨n0,nx⟩:=zTd h;refine⟨⟨oM,oM⟩,q.first,elA hq (by simp[zO]) rfl,0,n0,rfl,λj=>j<=i.l.length,λj=>i.l.length-j,y6l _,λj hj=>Cv.cnd.mk (λe=> ?_) (λe=> ?_)⟩
  ·have e:tX i.l j≠-1:=by simpa using e
   obtain⟨k,hk⟩:∃k,i.l[j]? =ar k:=by
    cases hk:i.l[j]? with
    |none=>rw[tX,hk]at e;exact absurd rfl e
    |some k=>exact⟨k,rfl⟩
   have hjl:=(y5i.1 hk).1;obtain⟨hkl,hnx⟩:=nx j k hk;have en:tX i.l j=k:=by rw[tX,hk]
   obtain⟨s,hs⟩:=yD (l:=i.a.slots) (i:=k) hkl;rw[en,y5x];refine⟨⟨oM,oM⟩,s.n,s.id,s.qty,s.top,elA hs (by simp[zQ]) rfl,?_,⟨oM,oM⟩,s.back,elA hs (by simp[zQ]) rfl,j+1,by rw[hnx,zT hs],?_,hjl,Z9,k0q⟩
   ·simp only[Arena.ents,y5f,y5w];omega
   ·rw[y6n,hk];simp only[Arena.ents,Option.toList,y5o,y5t,y8w,xO hs];rfl
  ·have e:tX i.l j= -1:=by simpa using e
   have hj':i.l.length<=j:=by
    apply Classical.byContradiction;intro hn;obtain⟨k,hk⟩:=yD (l:=i.l) (i:=j) oM;rw[tX,hk]at e;simp only at e;omega
   rw[y5q hj']
   exact kp
 ·rw[out (by omega)];exact kp
def yGt:alistC.ok Tryz.prog 304:=okw mixed gok0 1 (λ_=>[]) (λi=>yTz i) [0] Tryz.func304 ySn
def z4y {α:Type} {l:List α} {i k:Nat} {x y:α} (h:i≠k) (hk:l[k]? =ar x):(l.set i y)[k]? =ar x:=by
 rw[List.getElem?_set_ne h];exact hk
def yUh (i:TkI) (h:atakeC.cnd i):yHo i:=by
 obtain⟨hl,hok⟩:i.a.okAt:=h;unfold yHo sI kZ zCl y7 rO dR wS zDh rT zDn dI;simp only[y5f];have no (e:i.a.usedAt i.n=aw):i.a.takeF i.n i.qty=(i.a,26):=by rw[Arena.takeF,y5g e]
 refine zH (λc=> ?_) (λc=>zH (λd=> ?_) (λd=> ?_))
 ·rw[no (zLt (.inl c))];exact kp
 ·rw[no (zLt (.inr (by omega)))];exact kp
 obtain⟨k,hk⟩:∃k,k=i.n.toNat:=⟨_,rfl⟩
 rw[<- hk];obtain⟨s,hs⟩:=yD (l:=i.a.slots) (i:=k) oM;have hs':i.a.slots[i.n.toNat]? =ar s:=by rw[<- hk];exact hs
 have eu:=z7n (a:=i.a) (n:=i.n) oM hs';refine⟨⟨oM,oM⟩,s.used,elA hs (by simp[zQ]) rfl,Cv.cnd.mk (λu=> ?_) (λu=> ?_)⟩
 ·rw[no (by rw[eu];simpa using u)];exact kp
 have u:s.used=av:=by simpa using u
 have e:¬i.a.usedAt i.n=aw:=by rw[eu,u];decide
 obtain⟨⟨q0,q1⟩,sq,sa,sb⟩:=hok k s hs u;have esl:i.a.slotAt i.n.toNat=s:=xO hs';have bad (hq:i.qty<1\/s.qty<i.qty):i.a.takeF i.n i.qty=(i.a,24):=by rw[Arena.takeF,y5e e,esl,y5g hq]
 refine⟨⟨oM,oM⟩,zH (λc1=>by rw[bad (.inl c1)];(repeat'(first|exact rfl|exact trivial|assumption|apply bv|refineλ(_:Unit) (_:True)=>?_|refine bu () ?_|omega|(dsimp only;omega)))) (λc1=>⟨s.qty,elA hs (by simp[zQ]) rfl,zH (λc2=>by rw[bad (.inr (by omega))];(repeat'(first|exact rfl|exact trivial|assumption|apply bv|refineλ(_:Unit) (_:True)=>?_|refine bu () ?_|omega|(dsimp only;omega)))) (λc2=>⟨s.qty,elA hs (by simp[zQ]) rfl,oM,?_⟩)⟩)⟩;obtain⟨q,hq⟩:=yD (l:=i.a.queues) (i:=s.queue.toNat) oM;have hs1:(i.a.slots.set k {s with qty:=s.qty-i.qty})[k]? =ar {s with qty:=s.qty-i.qty}:=uG hs;have hq1:(i.a.queues.set s.queue.toNat {q with total:=ap.wrap (q.total-i.qty)})[s.queue.toNat]? =ar {q with total:=ap.wrap (q.total-i.qty)}:=uG hq;have hle:i.a.less i.n.toNat i.qty=⟨i.a.slots.set k {s with qty:=s.qty-i.qty},i.a.queues.set s.queue.toNat {q with total:=ap.wrap (q.total-i.qty)},i.a.free⟩:=by
  rw[Arena.less,esl,cA hs',cA hq,hk]
 have hL:(i.a.slots.set k {s with qty:=s.qty-i.qty}).length=i.a.slots.length:=y6m;have hQ:(i.a.queues.set s.queue.toNat {q with total:=ap.wrap (q.total-i.qty)}).length=i.a.queues.length:=y6m;have tk:i.a.takeF i.n i.qty=if s.qty=i.qty then((i.a.less i.n.toNat i.qty).dropF i.n.toNat,0)else(i.a.less i.n.toNat i.qty,0):=by rw[Arena.takeF,y5e e,esl,y5e (by omega)]
 rw[hle,<- hk]at tk;rw[w64 (x:=s.qty-i.qty) (by omega),yG hs (y:={s with qty:=s.qty-i.qty}) rfl];refine⟨s.queue,elA hs1 (by simp[zQ]) rfl,⟨q0,q1⟩,q.total,elA hq (by simp[zO]) rfl,⟨q0,q1⟩,oM,s.qty-i.qty,elA hs1 (by simp[zQ]) rfl,?_⟩;rw[yG hq (y:={q with total:=ap.wrap (q.total-i.qty)}) rfl];simp only[y5f];generalize hL1:i.a.slots.set k {s with qty:=s.qty-i.qty}=L1 at*;generalize hQ1:i.a.queues.set s.queue.toNat {q with total:=ap.wrap (q.total-i.qty)}=Q1 at*;refine Cv.cnd.mk (λz=> ?_) (λz=> ?_)
 ·have z:s.qty=i.qty:=by have:s.qty-i.qty=0:=by simpa using z
                         omega
  rw[y5g z]at tk;have esl1:(⟨L1,Q1,i.a.free⟩:Arena).slotAt k={s with qty:=s.qty-i.qty}:=xO hs1;have eq1:Q1.getD s.queue.toNat mB={q with total:=ap.wrap (q.total-i.qty)}:=zT hq1;rw[Arena.dropF,esl1]at tk;dsimp only at tk;rw[eq1]at tk;dsimp only at tk;rw[tk];refine⟨s.queue,elA hs1 (by simp[zQ]) rfl,⟨q0,oM⟩,s.ahead,elA hs1 (by simp[zQ]) rfl,Cv.cnd.mk (λea=> ?_) (λea=> ?_)⟩
  ·have ea:s.ahead= -1:=by simpa using ea
   refine⟨s.back,elA hs1 (by simp[zQ]) rfl,oM,s.back,elA hs1 (by simp[zQ]) rfl,?_⟩;rw[yG hq1 (y:=⟨s.back,q.last,ap.wrap (q.total-i.qty),q.count⟩) rfl];have hq2:(Q1.set s.queue.toNat ⟨s.back,q.last,ap.wrap (q.total-i.qty),q.count⟩)[s.queue.toNat]? =ar ⟨s.back,q.last,ap.wrap (q.total-i.qty),q.count⟩:=uG hq1;simp only[y5f,y6m];refine Cv.cnd.mk (λeb=> ?_) (λeb=> ?_)
   ·have eb:s.back= -1:=by simpa using eb
    refine⟨s.ahead,elA hs1 (by simp[zQ]) rfl,oM,q.count,?_,?_⟩
    ·rw[yG hq2 (y:=⟨s.back,s.ahead,ap.wrap (q.total-i.qty),q.count⟩) rfl];exact elA (uG hq2) (by simp[zO]) rfl
    rw[yG hq2 (y:=⟨s.back,s.ahead,ap.wrap (q.total-i.qty),q.count⟩) rfl,yG (uG hq2) (y:=⟨s.back,s.ahead,ap.wrap (q.total-i.qty),ap.wrap (q.count-1)⟩) rfl,yG hs1 (y:=slot0) rfl];simp only[y5f,y6m,y9g,y5g ea,y5g eb];refine⟨oM,oM,(),by(first|exact rfl|exact trivial),by(first|exact rfl|exact trivial),by(first|exact rfl|exact trivial),by(first|exact rfl|exact trivial),trivial⟩
   ·have eb:s.back≠-1:=by simpa using eb
    obtain⟨b0,b1,b2⟩:0<=s.back/\s.back<i.a.slots.length/\s.back≠k:=by omega
    obtain⟨x,hx⟩:=yD (l:=L1) (i:=s.back.toNat) oM;refine⟨s.back,elA hs1 (by simp[zQ]) rfl,s.ahead,elA hs1 (by simp[zQ]) rfl,⟨b0,oM⟩,oM,q.count,elA hq2 (by simp[zO]) rfl,?_⟩;rw[yG hx (y:={x with ahead:=s.ahead}) rfl,yG hq2 (y:=⟨s.back,q.last,ap.wrap (q.total-i.qty),ap.wrap (q.count-1)⟩) rfl,yG (z4y (by omega) hs1) (y:=slot0) rfl];simp only[y5f,y6m,y9g,y5g ea,y5e eb,cA hx];refine⟨oM,oM,(),by(first|exact rfl|exact trivial),by(first|exact rfl|exact trivial),by(first|exact rfl|exact trivial),by(first|exact rfl|exact trivial),trivial⟩
  ·have ea:s.ahead≠-1:=by simpa using ea
   obtain⟨a0,a1,a2⟩:0<=s.ahead/\s.ahead<i.a.slots.length/\s.ahead≠k:=by omega
   obtain⟨x,hx⟩:=yD (l:=L1) (i:=s.ahead.toNat) oM;have hs2:(L1.set s.ahead.toNat {x with back:=s.back})[k]? =ar {s with qty:=s.qty-i.qty}:=z4y oM hs1;refine⟨s.ahead,elA hs1 (by simp[zQ]) rfl,s.back,elA hs1 (by simp[zQ]) rfl,⟨a0,oM⟩,oM,s.back,?_,?_⟩
   ·rw[yG hx (y:={x with back:=s.back}) rfl];exact elA hs2 (by simp[zQ]) rfl
   rw[yG hx (y:={x with back:=s.back}) rfl];simp only[y5f,y6m];refine Cv.cnd.mk (λeb=> ?_) (λeb=> ?_)
   ·have eb:s.back= -1:=by simpa using eb
    refine⟨s.ahead,elA hs2 (by simp[zQ]) rfl,oM,q.count,?_,?_⟩
    ·rw[yG hq1 (y:=⟨q.first,s.ahead,ap.wrap (q.total-i.qty),q.count⟩) rfl];exact elA (uG hq1) (by simp[zO]) rfl
    rw[yG hq1 (y:=⟨q.first,s.ahead,ap.wrap (q.total-i.qty),q.count⟩) rfl,yG (uG hq1) (y:=⟨q.first,s.ahead,ap.wrap (q.total-i.qty),ap.wrap (q.count-1)⟩) rfl,yG hs2 (y:=slot0) rfl];simp only[y5f,y6m,y9g,y5e ea,y5g eb,cA hx];refine⟨oM,oM,(),by(first|exact rfl|exact trivial),by(first|exact rfl|exact trivial),by(first|exact rfl|exact trivial),by(first|exact rfl|exact trivial),trivial⟩
   ·have eb:s.back≠-1:=by simpa using eb
    obtain⟨b0,b1,b2⟩:0<=s.back/\s.back<i.a.slots.length/\s.back≠k:=by omega
    obtain⟨y,hy⟩:=yD (l:=L1.set s.ahead.toNat {x with back:=s.back}) (i:=s.back.toNat) (by rw[y6m];omega);refine⟨s.back,elA hs2 (by simp[zQ]) rfl,s.ahead,elA hs2 (by simp[zQ]) rfl,⟨b0,oM⟩,oM,q.count,elA hq1 (by simp[zO]) rfl,?_⟩;rw[yG hy (y:={y with ahead:=s.ahead}) rfl,yG hq1 (y:=⟨q.first,q.last,ap.wrap (q.total-i.qty),ap.wrap (q.count-1)⟩) rfl,yG (z4y (by omega) hs2) (y:=slot0) rfl];simp only[y5f,y6m,y9g,y5e ea,y5e eb,cA hx,cA hy];refine⟨oM,oM,(),by(first|exact rfl|exact trivial),by(first|exact rfl|exact trivial),by(first|exact rfl|exact trivial),by(first|exact rfl|exact trivial),trivial⟩
 ·have z:¬s.qty=i.qty:=by have:¬s.qty-i.qty=0:=by simpa using z
                          omega
  rw[y5e z]at tk;rw[tk];exact⟨(),rF4 trivial⟩
def yHv:atakeC.ok Tryz.prog 242:=okw mixed gok0 1 (λ_=>[]) (λ_=>[]) [0] Tryz.func242 yUh
structure PlI where
 l:List Int
 least:Int
 q:Int
def z3b (l:List Int) (least q:Int):List Int:=l.map λk=>if least<=k*q / l.sum then k*q / l.sum else 0
def wE:List (Int×Int)->Int->List Int
 |[],_=>[]
 |(n,x)::r,q=>(x+min (n-x) q)::wE r (q-min (n-x) q)
def PlI.p0 (i:PlI):List Int:=z3b i.l i.least i.q
def PlI.p1 (i:PlI):List Int:=wE (i.l.zip i.p0) (i.q-i.p0.sum)
def jB (i:PlI):List Int:=if yU i.l i.q=av/\1<=i.least then i.p1 else[]
def plainC:Con:=con1 PlI (λi=>[iV i.l,zA i.least,zA i.q]) (λ_=>[]) (λi=>i.l.length<=1000000/\yW i.q/\yW i.least) (λ_=> .own 0) (λi=>[.own 2 1 (iE (jB i))])
def yWf (i:PlI):List SAnn:=[
 {ι:=Nat,slots:=λj=>[(9,.own 0),(36,zA j)],rows:=λj=>[.own 2 1 (iE (i.p0.take j++ac (i.l.length-j) 0))]},
 {ι:=Nat,slots:=λj=>[(2,zA (i.q-(i.p0.take j).sum)),(58,zA j)],rows:=λ_=>[]},
 {ι:=Nat,slots:=λj=>[(9,.own 0),(2,zA (i.q-i.p0.sum+(i.p0.take j).sum-(i.p1.take j).sum)),(68,zA j)],rows:=λj=>[.own 2 1 (iE (i.p1.take j++i.p0.drop j))]}]
def dW (a:Nat) (b:PlI):=(iE (ab a b.p1++af a b.p0))
def tF (a:Nat) (b:PlI):Prop:=0<=(↑a:Int)/\(↑a:Int)<(↑(dW a b).length:Int)
def gL (a:Nat) (b:PlI):=(ab a b.p0++ac (b.l.length-a) 0)
def gI (a:Nat) (b:PlI):=(iE (gL a b))
def mM (a:Nat) (b:PlI):=(↑(gI a b).length:Int)
def yKr (i:PlI):Prop:=
 ∃(a:LqI),iE a.l=iE i.l/\a.q=i.q/\(wJ a)/\∀(b:Unit),True->cnd (!yU a.l a.q) (∃(c:Unit),iE (jB i)=[]/\True) (cnd (decide (i.least<1)) (∃(c:Unit),iE (jB i)=[]/\True) (∃(c:List Int),iE c=iE i.l/\(c.length<=1000/\∀(d:Int),d∈c->0<=d/\d<=1000000)/\∀(d:Unit),True->(0<=(↑(iE i.l).length:Int)/\(↑(iE i.l).length:Int)<=(↑(iE i.l).length:Int)/\(↑(iE i.l).length:Int)<=9223372036854775807/\(↑(8:Nat):Int)*(↑(iE i.l).length:Int)<=2 ^ (48:Nat))/\∃(e:Nat),(↑e:Int)=0/\iE (gL e i)=ac (↑(iE i.l).length:Int).toNat [dI 0]/\∃(f:Nat->Prop),∃(g:Nat->Nat),f e/\∀(h:Nat),f h->cnd (decide ((↑h:Int)<(↑(iE i.l).length:Int))) ((0<=(↑h:Int)/\(↑h:Int)<(↑(iE i.l).length:Int))/\∃(j:Int),zE (iE i.l) (↑h:Int).toNat 0 1=ar [dI j]/\∃(k:ShI),k.a=j/\k.b=i.q/\k.c=c.sum/\(0<=k.a/\k.a<=(2000000000:Int)/\(0:Int)<=k.b/\k.b<=(2000000000:Int)/\(1:Int)<=k.c/\k.c<=2000000000)/\∀(l:Unit),True->cnd (decide (k.a*k.b / k.c>=i.least)) ((0<=(↑h:Int)/\(↑h:Int)<(mM h i))/\(↑h:Int).toNat<(gI h i).length/\∃(m:Nat),(↑m:Int)=ap.wrap ((↑h:Int)+1)/\iE (gL m i)=zV (gI h i) (↑h:Int).toNat 0 [dI (k.a*k.b / k.c)]/\f m/\g m<g h/\True) (∃(m:Nat),(↑m:Int)=ap.wrap ((↑h:Int)+1)/\iE (gL m i)=iE (gL h i)/\f m/\g m<g h/\True)) (∃(j:Nat),i.q-(ab j i.p0).sum=i.q/\(↑j:Int)=0/\∃(k:Nat->Prop),∃(l:Nat->Nat),k j/\∀(m:Nat),k m->cnd (decide ((↑m:Int)<(mM h i))) ((0<=(↑m:Int)/\(↑m:Int)<(mM h i))/\∃(n:Int),zE (gI h i) (↑m:Int).toNat 0 1=ar [dI n]/\∃(p:Nat),i.q-(ab p i.p0).sum=ap.wrap (i.q-(ab m i.p0).sum-n)/\(↑p:Int)=ap.wrap ((↑m:Int)+1)/\k p/\l p<l m/\dh (ax 2 1 (gI h i))) (∃(n:Nat),i.q-i.p0.sum+(ab n i.p0).sum-(ab n i.p1).sum=i.q-(ab m i.p0).sum/\(↑n:Int)=0/\iE (ab n i.p1++af n i.p0)=iE (gL h i)/\∃(p:Nat->Prop),∃(q:Nat->Nat),p n/\∀(r:Nat),p r->cnd (decide ((↑r:Int)<(mM h i))) ((0<=(↑r:Int)/\(↑r:Int)<(↑(iE i.l).length:Int))/\∃(s:Int),zE (iE i.l) (↑r:Int).toNat 0 1=ar [dI s]/\(tF r i)/\∃(t:Int),zE (dW r i) (↑r:Int).toNat 0 1=ar [dI t]/\(tF r i)/\∃(u:Int),zE (dW r i) (↑r:Int).toNat 0 1=ar [dI u]/\(tF r i)/\(↑r:Int).toNat<(dW r i).length/\∃(v:Nat),i.q-i.p0.sum+(ab v i.p0).sum-(ab v i.p1).sum=ap.wrap (i.q-i.p0.sum+(ab r i.p0).sum-(ab r i.p1).sum-min (ap.wrap (s-t)) (i.q-i.p0.sum+(ab r i.p0).sum-(ab r i.p1).sum))/\(↑v:Int)=ap.wrap ((↑r:Int)+1)/\iE (ab v i.p1++af v i.p0)=zV (dW r i) (↑r:Int).toNat 0 [dI (ap.wrap (u+min (ap.wrap (s-t)) (i.q-i.p0.sum+(ab r i.p0).sum-(ab r i.p1).sum)))]/\p v/\q v<q r/\True) (∃(s:Unit),iE (jB i)=iE (ab r i.p1++af r i.p0)/\True)))))
def zDd:∀(z:List (Int×Int)) (q:Int),(wE z q).length=z.length
 |[],_=>rfl
 |(n,x)::z,q=>by rw[wE,y5j,y5j,zDd z]
def zNi:∀(z:List (Int×Int)) (q:Int) (j:Nat) (n x:Int),z[j]? =ar (n,x)->(wE z q)[j]? =ar (x+min (n-x) (q+((z.map (·.2)).take j).sum-((wE z q).take j).sum))
 |[],_,_,_,_,h=>by simp at h
 |(m,y)::z,q,0,n,x,h=>by simp at h;obtain⟨rfl,rfl⟩:=h;simp[wE]
 |(m,y)::z,q,j+1,n,x,h=>by
  rw[y7d]at h;rw[wE,y7d,zNi z _ j n x h,y6p,y6u,y5t,y6p,y6u];congr 3;dsimp only;omega
def zKp:∀(z:List (Int×Int)) (q:Int) (j:Nat),0<=q->(∀y∈z,y.2<=y.1)->0<=q+((z.map (·.2)).take j).sum-((wE z q).take j).sum/\q+((z.map (·.2)).take j).sum-((wE z q).take j).sum<=q
 |[],q,j,h,_=>by simp[wE,h]
 |(m,y)::z,q,0,h,_=>by simp[h]
 |(m,y)::z,q,j+1,h,hb=>by
  have hm:=hb (m,y) y5k;have:=zKp z (q-min (m-y) q) j (by dsimp only at hm;omega) (λx hx=>hb x (y5m _ hx));rw[wE,y6p,y6u,y5t,y6p,y6u];dsimp only at hm ⊢;omega
def yFd {k q S:Int} (hk:0<=k) (hq:0<=q) (hS:1<=S) (hqS:q<=S):0<=k*q / S/\k*q / S<=k:=by
 refine⟨Int.ediv_nonneg (xBl hk hq) oM,?_⟩;have:k*q<=k*S:=xAb hqS hk;exact Int.ediv_le_of_le_mul oM this
def zRv {q S least:Int} (hq:0<=q) (hS:1<=S):∀(l:List Int),(∀x∈l,0<=x)->S*(l.map λk=>if least<=k*q / S then k*q / S else 0).sum<=q*l.sum
 |[],_=>by simp
 |k::l,h=>by
  have ih:=zRv (least:=least) hq hS l (λx hx=>h x (y5m _ hx));have hk:=h k y5k;rw[y5t,y6u,y6u,Int.mul_add,Int.mul_add];have h1:S*(k*q / S)<=k*q:=by
   have:=Int.mul_ediv_add_emod (k*q) S;have:=xBe (k*q) (show S≠0 by omega);omega
  have h2:0<=k*q:=xBl hk hq;have h3:S*(if least<=k*q / S then k*q / S else 0)<=q*k:=by
   rw[y9o q k];split
   ·exact h1
   ·simpa using h2
  omega
def yFh {i:PlI} {j:Nat} {n:Int} (h:i.l[j]? =ar n):i.p0[j]? =ar (if i.least<=n*i.q / i.l.sum then n*i.q / i.l.sum else 0):=by
 rw[PlI.p0,z3b,y6v,h];rfl
def z5e (i:PlI):i.p0.length=i.l.length:=by simp[PlI.p0,z3b]
def z8q {l:List Int} {j m:Nat} {n:Int} (hl:l.length=m) (h:l[j]? =ar n):(l.take j++ac (m-j) 0).set j n=l.take (j+1)++ac (m-(j+1)) 0:=by
 have hj:=(y5i.1 h).1;rw[List.set_append_right _ _ (by rw[y5w];omega),y5w,show j-min j l.length=0 by omega,show m-j=(m-(j+1))+1 by omega,y9l,xBc,y6n,h];simp
def yEa {l:List Int} {j m:Nat} (hl:l.length=m) (hj:j<m):(l.take j++ac (m-j) 0)[j]? =ar 0:=by
 rw[y7e (by rw[y5w];omega),y5w,show j-min j l.length=0 by omega,show m-j=(m-(j+1))+1 by omega,y9l];rfl
def yKa {α:Type} {l:List α} {j:Nat} {x:α} (h:l[j]? =ar x):l.set j x=l:=by
 obtain⟨h1,h2⟩:=y5i.1 h;rw[<- h2];exact List.set_getElem_self h1
def yUi {a b:List Int} {j:Nat} {x:Int} (ha:a.length=b.length) (h:b[j]? =ar x):(a.take j++b.drop j)[j]? =ar x:=by
 have hj:=(y5i.1 h).1;rw[y7e (by rw[y5w];omega),y5w,show j-min j a.length=0 by omega,y7s];exact h
def yOk {a b:List Int} {j:Nat} {y:Int} (ha:a.length=b.length) (h:a[j]? =ar y):(a.take j++b.drop j).set j y=a.take (j+1)++b.drop (j+1):=by
 have hj:=(y5i.1 h).1;rw[List.set_append_right _ _ (by rw[y5w];omega),y5w,show j-min j a.length=0 by omega,y7m (by omega),xBc,y6n,h];simp
def zWa {l:List Int} {j:Nat} {x y:Int} (h:l[j]? =ar x):zV (iE l) j 0 [D.v (.int .i64 y)]=iE (l.set j y):=yG (f:=λn:Int=>[D.v (.int .i64 n)]) h rfl
def zEt {i:PlI} (h:yU i.l i.q=av) (hne:0<i.l.length):1<=i.l.sum/\i.l.sum<=250000000/\(∀(j:Nat) (n x:Int),i.l[j]? =ar n->i.p0[j]? =ar x->0<=x/\x<=n)/\i.p0.sum<=i.q:=by
 obtain⟨h1,h2,h3,h4⟩:=jH h;have hb:=jS (l:=i.l) (λx hx=>by have:=h3 x hx;omega) i.l.length;rw[y8d]at hb;have hS:1<=i.l.sum:=by
  obtain⟨x,hx⟩:=yD (l:=i.l) (i:=0) hne;have:=h3 x (y5p hx);cases hl:i.l with
  |nil=>rw[hl]at hne;exact absurd hne (Nat.lt_irrefl 0)
  |cons a r=>
   rw[hl]at hx;simp at hx;subst hx;have hr:=jS (l:=r) (λy hy=>by have:=h3 y (by rw[hl];exact y5m _ hy);omega) r.length;rw[y8d]at hr;rw[y6u];omega
 refine⟨hS,oM,λj n x hn hx=> ?_,?_⟩
 ·have hn1:=h3 n (y5p hn);have:=yFd (k:=n) oM h2 hS h4;rw[yFh hn]at hx;cases hx;split<;>omega
 ·have:=zRv (least:=i.least) h2 hS i.l (λx hx=>by have:=h3 x hx;omega);have e:i.l.sum*i.p0.sum<=i.l.sum*i.q:=by rw[y9o i.l.sum i.q];exact this
  exact Int.le_of_mul_le_mul_left e oM
def ySv (i:PlI) (h:plainC.cnd i):yKr i:=by
 obtain⟨hl,hq,hle⟩:i.l.length<=1000000/\yW i.q/\yW i.least:=h;unfold yKr mM gI gL tF dW wJ dI;refine⟨⟨i.l,i.q⟩,rfl,rfl,⟨hl,hq⟩,λ_ _=>Cv.cnd.mk (λc=> ?_) (λc=>zH (λd=> ?_) (λd=> ?_))⟩
 ·have c:yU i.l i.q=aw:=by simpa using c
  refine⟨(),?_,trivial⟩;rw[jB,y5e (by rw[c];simp)];rfl
 ·refine⟨(),?_,trivial⟩;rw[jB,y5e (by omega)];rfl
 have c:yU i.l i.q=av:=by simpa using c
 have eS:jB i=i.p1:=by rw[jB,y5g ⟨c,by omega⟩]
 obtain⟨h1,h2,h3,h4⟩:=jH c;have hq2:=zLi c;have hp0:=z5e i;have hzl:(i.l.zip i.p0).length=i.l.length:=by rw[List.length_zip,hp0];simp
 have hp1:i.p1.length=i.l.length:=by rw[PlI.p1,zDd,hzl]
 have hz2:(i.l.zip i.p0).map (·.2)=i.p0:=by rw[List.map_snd_zip];omega
 have h64:i.l.length<=250:=h1;have hrl:∀j,j<=i.l.length->(ab j i.p0++ac (i.l.length-j) 0).length=i.l.length:=by
  intro j hj;rw[y5d,y5w,y8j];omega
 simp only[yZ];refine⟨i.l,rfl,⟨oM,λx hx=>by have:=h3 x hx;omega⟩,λ_ _=>⟨⟨oM,oM,oM,oM⟩,0,by(first|exact rfl|exact trivial),?_,λj=>j<=i.l.length,λj=>i.l.length-j,y6l _,λj hj=>zH (λe=> ?_) (λe=> ?_)⟩⟩
 ·simp[iE]
 ·have hj':j<i.l.length:=by omega
  obtain⟨n,hn⟩:=yD (l:=i.l) (i:=j) hj';have bn:=h3 n (y5p hn);obtain⟨f1,f2,f3,f4⟩:=zEt c oM;have g:=yFh hn;refine⟨⟨oM,oM⟩,n,elI hn,⟨n,i.q,i.l.sum⟩,rfl,rfl,rfl,⟨Z9,Z9,Z9,Z9,Z9,Z9⟩,λ_ _=>zH (λa=> ?_) (λa=> ?_)⟩
  ·have a:n*i.q / i.l.sum>=i.least:=a;rw[y5g (by omega)]at g;refine⟨⟨oM,by rw[hrl j (by omega)];omega⟩,by rw[hrl j (by omega)];omega,j+1,wjn oM,?_,hj',Z9,trivial⟩;rw[y5x,zWa (yEa hp0 hj'),z8q hp0 g]
  ·have a:¬n*i.q / i.l.sum>=i.least:=a;rw[y5e (by omega)]at g;refine⟨j+1,wjn oM,?_,hj',Z9,trivial⟩;rw[<- z8q hp0 g,yKa (yEa hp0 hj')]
 have hje:j=i.l.length:=by omega
 subst hje;have eP:ab i.l.length i.p0++ac (i.l.length-i.l.length) 0=i.p0:=by rw[y5q (by omega)];simp
 rw[eP,hp0];have px:∀(k:Nat) (n x:Int),i.l[k]? =ar n->i.p0[k]? =ar x->0<=x/\x<=n:=λk n x hn hx=>(zEt c (by have:=(y5i.1 hn).1;omega)).2.2.1 k n x hn hx
 have pb:∀x∈i.p0,0<=x/\x<=1000000:=by
  intro x hx;obtain⟨k,hk⟩:=y7w.1 hx;obtain⟨n,hn⟩:=yD (l:=i.l) (i:=k) (by have:=(y5i.1 hk).1;omega);have:=px k n x hn hk;have:=h3 n (y5p hn);omega
 have pq:i.p0.sum<=i.q:=by
  by_cases hz:0<i.l.length
  ·exact(zEt c hz).2.2.2
  ·have:i.p0=[]:=y6f oM;rw[this];simpa using h2
 refine⟨0,by simp,by(first|exact rfl|exact trivial),λk=>k<=i.l.length,λk=>i.l.length-k,y6l _,λk hk=>zH (λe=> ?_) (λe=> ?_)⟩
 ·have hk':k<i.l.length:=by omega
  obtain⟨x,hx⟩:=yD (l:=i.p0) (i:=k) oM;have bx:=pb x (y5p hx);have bs:=jS pb k;refine⟨⟨oM,oM⟩,x,elI hx,k+1,?_,wjn oM,hk',Z9,k0q⟩;rw[jX hx,w64 (by omega)];omega
 have hke:k=i.l.length:=by omega
 subst hke;rw[y5q (l:=i.p0) (by omega)];refine⟨0,by simp,by(first|exact rfl|exact trivial),by simp,λj=>j<=i.l.length,λj=>i.l.length-j,y6l _,λj hj=>zH (λe=> ?_) (λe=> ?_)⟩
 ·have hj':j<i.l.length:=by omega
  obtain⟨n,hn⟩:=yD (l:=i.l) (i:=j) hj';obtain⟨x,hx⟩:=yD (l:=i.p0) (i:=j) oM;have bn:=h3 n (y5p hn);have bx:=px j n x hn hx;have hz:(i.l.zip i.p0)[j]? =ar (n,x):=by rw[y9w];exact⟨hn,hx⟩
  have g:=zNi (i.l.zip i.p0) (i.q-i.p0.sum) j n x hz;have r:=zKp (i.l.zip i.p0) (i.q-i.p0.sum) j oM (λy hy=>by
   obtain⟨k,hk⟩:=y7w.1 hy;rw[y9w]at hk;exact(px k y.1 y.2 hk.1 hk.2).2)
  rw[hz2]at g r;have b0:=jS pb i.p0.length;rw[y8d]at b0;have hml:(ab j i.p1++af j i.p0).length=i.l.length:=by rw[y5d,y5w,y6c];omega
  have hma:=yUi (a:=i.p1) (b:=i.p0) oM hx;change i.p1[j]? =_ at g;change 0<=_-(ab j i.p1).sum/\_-(ab j i.p1).sum<=_ at r;change i.p1[j]? =ar (x+min (n-x) (_-(ab j i.p1).sum))at g;rw[hml];refine⟨⟨oM,oM⟩,n,elI hn,⟨oM,oM⟩,x,elI hma,⟨oM,oM⟩,x,elI hma,⟨oM,oM⟩,oM,?_⟩;rw[w64 (x:=n-x) (by omega),w64 (x:=x+min (n-x) (i.q-i.p0.sum+(ab j i.p0).sum-(ab j i.p1).sum)) (by omega)];refine⟨j+1,?_,wjn oM,?_,hj',Z9,trivial⟩
  ·rw[jX hx,jX g,w64 (by omega)];omega
  ·rw[y5x,zWa hma,yOk (by omega) g]
 ·have hje:j=i.l.length:=by omega
  subst hje;refine⟨(),?_,trivial⟩;rw[eS,y5q (by omega),y8m (by omega),y6b]
def yGi:plainC.ok Tryz.prog 312:=okw mixed (gokc zEf (gokc yLc (gokc zRa gok0))) 0 (λ_=>[]) (λi=>yWf i) [] Tryz.func312 ySv
structure RsI where
 l:List Int
 out:List Int
 least:Int
 q:Int
def RsI.idx (i:RsI) (k:Nat):List Nat:=(ag k).filter λn=>decide (i.out.getD n 0<i.l.getD n 0)
def RsI.left (i:RsI) (k:Nat):List Int:=(i.idx k).map λn=>i.l.getD n 0-i.out.getD n 0
def RsI.pl (i:RsI):List Int:=jB ⟨i.left i.l.length,i.least,i.q⟩
def RsI.add (i:RsI) (k:Nat):List Int:=(((i.idx i.l.length).zip i.pl).take k).foldl (λo y=>o.set y.1 (ap.wrap (o.getD y.1 0+y.2))) i.out
def pS (i:RsI):List Int:=i.add i.pl.length
@[reducible] def RsI.ok (i:RsI):Prop:=i.l.length<=250/\i.out.length=i.l.length/\yW i.q/\yW i.least/\∀n,0<=i.out.getD n 0/\i.out.getD n 0<=i.l.getD n 0/\i.l.getD n 0<=1000000
def restC:Con:=con1 RsI (λi=>[iV i.l,.own 0,zA i.least,zA i.q]) (λi=>[.own 2 1 (iE i.out)]) RsI.ok (λ_=> .own 1) (λi=>[.gone,.own 2 1 (iE (pS i))])
def y0l (i:RsI):List SAnn:=[
 {ι:=Nat,slots:=λj=>[(9,.own 0),(10,.own 1),(16,zA j)],rows:=λj=>[.own 2 1 (iE (i.left j)),.own 3 1 (iE ((i.idx j).map λ(n:Nat)=>(n:Int)))]},
 {ι:=Nat,slots:=λk=>[(1,.own 0),(50,zA k)],rows:=λk=>[.own 2 1 (iE (i.add k))]}]
structure zI where
 id:Int
 side:Int
 price:Int
 qty:Int
 top:Bool
 deriving DecidableEq
def vA (o:zI):List D:=[.v (.int .i64 o.id),.v (.int .i64 o.side),.v (.int .i64 o.price),.v (.int .i64 o.qty),.v (.bool o.top)]
@[reducible] def yBf (o:zI):V:= .agg [zA o.id,zA o.side,zA o.price,zA o.qty,yR o.top]
def topFC:Con:=con1 zI (λo=>[yBf o]) (λ_=>[]) (λ_=>True) (λo=>yR o.top) (λ_=>[])
def topI (l:List zI):Int:=zKj (l.findIdx? λo=>o.top)
def idxOrdC:Con:=con1 (List zI) (λl=>[roV 5 (l.map vA),.fn 288 [] []]) (λ_=>[]) (λl=>l.length<=1000000) (λl=>zA (topI l)) (λ_=>[])
def yNr (l:List zI):List SAnn:=[{ι:=Nat,slots:=λj=>[(8,zA j)],rows:=λ_=>[]}]
def yRu (i:RsI):Prop:=
 ∃(a:Nat),(↑a:Int)=0/\iE (i.left a)=[]/\iE (aa (λ(n:Nat) ↦ (↑n:Int)) (i.idx a))=[]/\∃(b:Nat->Prop),∃(c:Nat->Nat),b a/\∀(d:Nat),b d->cnd (decide ((↑d:Int)<(↑(iE i.l).length:Int))) ((0<=(↑d:Int)/\(↑d:Int)<(↑(iE i.l).length:Int))/\∃(e:Int),zE (iE i.l) (↑d:Int).toNat 0 1=ar [dI e]/\(0<=(↑d:Int)/\(↑d:Int)<(↑(iE i.out).length:Int))/\∃(f:Int),zE (iE i.out) (↑d:Int).toNat 0 1=ar [dI f]/\cnd (decide (e>f)) ((0<=(↑d:Int)/\(↑d:Int)<(↑(iE i.l).length:Int))/\∃(g:Int),zE (iE i.l) (↑d:Int).toNat 0 1=ar [dI g]/\(0<=(↑d:Int)/\(↑d:Int)<(↑(iE i.out).length:Int))/\∃(h:Int),zE (iE i.out) (↑d:Int).toNat 0 1=ar [dI h]/\((iE (i.left d)).length+1)*(8:Nat)<=(140737488355328:Nat)/\((iE (aa (λ(g:Nat) ↦ (↑g:Int)) (i.idx d))).length+1)*(8:Nat)<=(140737488355328:Nat)/\∃(j:Nat),(↑j:Int)=ap.wrap ((↑d:Int)+1)/\iE (i.left j)=iE (i.left d)++[[dI (ap.wrap (g-h))]]/\iE (aa (λ(g:Nat) ↦ (↑g:Int)) (i.idx j))=iE (aa (λ(g:Nat) ↦ (↑g:Int)) (i.idx d))++[[dI (↑d:Int)]]/\b j/\c j<c d/\dh (ax 2 1 (iE i.out))) (∃(g:Nat),(↑g:Int)=ap.wrap ((↑d:Int)+1)/\iE (i.left g)=iE (i.left d)/\iE (aa (λ(e:Nat) ↦ (↑e:Int)) (i.idx g))=iE (aa (λ(e:Nat) ↦ (↑e:Int)) (i.idx d))/\b g/\c g<c d/\dh (ax 2 1 (iE i.out)))) (∃(e:PlI),iE e.l=iE (i.left d)/\e.least=i.least/\e.q=i.q/\(e.l.length<=1000000/\((-9223372036854775808)<=e.q/\e.q<=9223372036854775807)/\(-9223372036854775808)<=e.least/\e.least<=9223372036854775807)/\∀(f:Unit),True->∃(g:Nat),(↑g:Int)=0/\iE (i.add g)=iE i.out/\∃(h:Nat->Prop),∃(j:Nat->Nat),h g/\∀(k:Nat),h k->cnd (decide ((↑k:Int)<(↑(iE (jB e)).length:Int))) ((0<=(↑k:Int)/\(↑k:Int)<(↑(iE (jB e)).length:Int))/\∃(l:Int),zE (iE (jB e)) (↑k:Int).toNat 0 1=ar [dI l]/\(0<=(↑k:Int)/\(↑k:Int)<(↑(iE (aa (λ(l:Nat) ↦ (↑l:Int)) (i.idx d))).length:Int))/\∃(m:Int),zE (iE (aa (λ(l:Nat) ↦ (↑l:Int)) (i.idx d))) (↑k:Int).toNat 0 1=ar [dI m]/\(0<=m/\m<(↑(iE (i.add k)).length:Int))/\∃(n:Int),zE (iE (i.add k)) m.toNat 0 1=ar [dI n]/\(0<=m/\m<(↑(iE (i.add k)).length:Int))/\m.toNat<(iE (i.add k)).length/\∃(p:Nat),(↑p:Int)=ap.wrap ((↑k:Int)+1)/\iE (i.add p)=zV (iE (i.add k)) m.toNat 0 [dI (ap.wrap (n+l))]/\h p/\j p<j k/\dh (ax 2 1 (iE (jB e)))/\dh (az 1 (iE (i.left d)))/\dh (ax 3 1 (iE (aa (λ(l:Nat) ↦ (↑l:Int)) (i.idx d))))) (∃(l:Unit),iE (pS i)=iE (i.add k)/\True))
def ySa (o:zI):Prop:=
 ∃(a:Unit),dh o.top/\True
def z9u (l:List zI):Prop:=
 ∃(a:Nat),(↑a:Int)=0/\∃(b:Nat->Prop),∃(c:Nat->Nat),b a/\∀(d:Nat),b d->cnd (decide ((↑d:Int)<(↑(aa vA l).length:Int))) ((0<=(↑d:Int)/\(↑d:Int)<(↑(aa vA l).length:Int))/\∃(e:Int),∃(f:Int),∃(g:Int),∃(h:Int),∃(j:Bool),zE (aa vA l) (↑d:Int).toNat 0 5=ar [dI e,dI f,dI g,dI h,D.v (.bool j)]/\∃(k:zI),k.id=e/\k.side=f/\k.price=g/\k.qty=h/\k.top=j/\True/\∀(m:Unit),True->cnd k.top (∃(n:Unit),topI l=(↑d:Int)/\True) (cJ d b c)) (∃(e:Unit),topI l=(-1)/\True)
def yMz:topFC.ok Tryz.prog 288:=okw (V:=ySa) mixed gok0 0 (λ_=>[]) (λ_=>[]) [] Tryz.func288 λ(o:zI) _=>by
 unfold ySa;exact⟨(),rfl,trivial⟩
def z2y (i:PlI):(jB i).length=i.l.length\/jB i=[]:=by
 rw[jB];split
 ·left;rw[PlI.p1,zDd,List.length_zip,z5e];simp
 ·exact .inr rfl
def yXv {l:List zI} {k:Nat} {o:zI} (h:l[k]? =ar o):zE (l.map vA) k 0 5=ar [D.v (.int .i64 o.id),.v (.int .i64 o.side),.v (.int .i64 o.price),.v (.int .i64 o.qty),.v (.bool o.top)]:=elA h (by simp[vA]) rfl
def yMl (l:List zI) (h:idxOrdC.cnd l):z9u l:=by
 have h:l.length<=1000000:=h;unfold z9u cJ kT dI;simp only[y5f];refine⟨0,rfl,λj=>j<=l.length/\∀k<j,∀x,l[k]? =ar x->x.top=aw,λj=>l.length-j,⟨oM,λk hk=>by omega⟩,?_⟩;rintro j ⟨h3,h4⟩;refine zH (λhj=> ?_) (λhj=> ?_)
 ·obtain⟨s,hs⟩:=yD (l:=l) (i:=j) oM;refine⟨⟨oM,oM⟩,s.id,s.side,s.price,s.qty,s.top,yXv hs,s,rF4 ⟨rfl,trivial,λ_ _=>Cv.cnd.mk (λe=> ?_) (λe=> ?_)⟩⟩
  ·rw[topI,zHf hs e h4];exact kp
  ·refine⟨j+1,by rw[w64 (by omega)];rfl,⟨oM,λk hk x hx=> ?_⟩,by(first|omega|(dsimp only;omega)),k0q⟩;rcases y7n k j with hk'|hk'
   ·exact h4 k hk' x hx
   ·obtain rfl:k=j:=by omega
    rw[hs]at hx;cases hx;exact e
 ·rw[topI,zHg λk x hx=>h4 k (by have:=(y5i.1 hx).1;omega) x hx];exact kp
def yCs:idxOrdC.ok Tryz.prog 287:=okw mixed (gokc yMz gok0) 0 (λ_=>[]) (λl=>yNr l) [] Tryz.func287 yMl
def yGy (i:RsI) (j:Nat):i.idx (j+1)=i.idx j++if i.out.getD j 0<i.l.getD j 0 then[j]else[]:=by
 rw[RsI.idx,y9z,y9h];by_cases h:i.out.getD j 0<i.l.getD j 0
 ·rw[y5g h,xAc (by simpa using h)];rfl
 ·rw[y5e h,xAd (by simpa using h)];rfl
def ySx (i:RsI) {k n:Nat} (h:n∈i.idx k):n<k:=by
 have:=(y7f.1 h).1;exact y8i.1 this
def z6q (i:RsI) (k:Nat):(i.idx k).length<=k:=by
 have:=y8q (λn=>decide (i.out.getD n 0<i.l.getD n 0)) (ag k);rw[List.length_range]at this;exact this
def z1i:∀(z:List (Nat×Int)) (o:List Int),(z.foldl (λo y=>o.set y.1 (ap.wrap (o.getD y.1 0+y.2))) o).length=o.length
 |[],_=>rfl
 |y::z,o=>by rw[y8x,z1i z,y6m]
def y0g (i:RsI) (h:restC.cnd i):yRu i:=by
 obtain⟨hl,ho,hq,hle,hb⟩:i.ok:=h;unfold yRu dI;simp only[yZ,y5f];have hil:∀j,(i.left j).length=(i.idx j).length:=λj=>y5f _
 refine⟨0,by(first|exact rfl|exact trivial),by(first|exact rfl|exact trivial),by(first|exact rfl|exact trivial),λj=>j<=i.l.length,λj=>i.l.length-j,y6l _,λj hj=>zH (λc=> ?_) (λc=> ?_)⟩
 ·have hj':j<i.l.length:=by omega
  obtain⟨n,hn⟩:=yD (l:=i.l) (i:=j) hj';obtain⟨o,hoo⟩:=yD (l:=i.out) (i:=j) oM;have bj:=hb j;rw[zT hn,zT hoo]at bj;have is:=yGy i j;rw[zT hn,zT hoo]at is;have il:=z6q i j;refine⟨⟨oM,oM⟩,n,elI hn,⟨oM,oM⟩,o,elI hoo,zH (λa=> ?_) (λa=> ?_)⟩
  ·rw[y5g (by omega)]at is;refine⟨⟨oM,oM⟩,n,elI hn,⟨oM,oM⟩,o,elI hoo,by rw[hil];omega,oM,j+1,wjn oM,?_,?_,hj',Z9,k0q⟩
   ·rw[w64 (by omega),RsI.left,is,y5o];simp[iE,RsI.left,hn,hoo]
   ·rw[is];simp[iE]
  ·rw[y5e (by omega),y6b]at is;exact⟨j+1,wjn oM,by rw[RsI.left,is];rfl,by rw[is],hj',Z9,k0q⟩
 have hje:j=i.l.length:=by omega
 subst hje;have il:=z6q i i.l.length;refine⟨⟨i.left i.l.length,i.least,i.q⟩,rfl,rfl,rfl,⟨by dsimp only;rw[hil];omega,hq,hle⟩,λ_ _=> ?_⟩;have epl:jB ⟨i.left i.l.length,i.least,i.q⟩=i.pl:=rfl;rw[epl];have hpl:i.pl.length<=(i.idx i.l.length).length:=by
  rcases z2y ⟨i.left i.l.length,i.least,i.q⟩with e|e
  ·rw[epl]at e;rw[e];dsimp only;rw[hil];exact y6a _
  ·rw[epl]at e;rw[e];exact y6l _
 have hal:∀k,(i.add k).length=i.out.length:=λk=>z1i _ _
 refine⟨0,by(first|exact rfl|exact trivial),by(first|exact rfl|exact trivial),λk=>k<=i.pl.length,λk=>i.pl.length-k,y6l _,λk hk=>zH (λc=> ?_) (λc=> ?_)⟩
 ·have hk':k<i.pl.length:=by omega
  obtain⟨x,hx⟩:=yD (l:=i.pl) (i:=k) hk';obtain⟨n,hn⟩:=yD (l:=i.idx i.l.length) (i:=k) oM;have hnl:=ySx i (y5p hn);obtain⟨y,hy⟩:=yD (l:=i.add k) (i:=n) (by rw[hal];omega);have ea:i.add (k+1)=(i.add k).set n (ap.wrap (y+x)):=by
   have hz:((i.idx i.l.length).zip i.pl)[k]? =ar (n,x):=by rw[y9w];exact⟨hn,hx⟩
   have ey:(i.add k).getD n 0=y:=zT hy;rw[RsI.add,y6n,hz,xAa];show(i.add k).set n (ap.wrap ((i.add k).getD n 0+x))=_;rw[ey]
  have hnm:((i.idx i.l.length).map λ(n:Nat)=>(n:Int))[k]? =ar (n:Int):=by rw[y6v,hn];rfl
  rw[hal];refine⟨⟨oM,oM⟩,x,elI hx,⟨oM,oM⟩,n,elI hnm,⟨oM,oM⟩,y,elI hy,⟨oM,oM⟩,oM,k+1,wjn oM,?_,hk',Z9,k0q⟩;rw[ea,y5x,zWa hy]
 ·have hke:k=i.pl.length:=by omega
  subst hke;exact⟨(),rfl,trivial⟩
def z7c:restC.ok Tryz.prog 306:=okw mixed (gokc yGi gok0) 0 (λ_=>[]) (λi=>y0l i) [] Tryz.func306 y0g
structure PsI where
 l:List Int
 top:Int
 most:Int
 least:Int
 q:Int
def PsI.first (i:PsI):Int:=min (min (i.l.getD i.top.toNat 0) i.most) i.q
def PsI.rs (i:PsI):RsI:=if 0<=i.top/\i.top<i.l.length then⟨i.l,(ac i.l.length 0).set i.top.toNat i.first,i.least,i.q-i.first⟩else⟨i.l,ac i.l.length 0,i.least,i.q⟩
def zFd (i:PsI):List Int:=if yU i.l i.q=av/\1<=i.least/\0<=i.most then pS i.rs else[]
def proC:Con:=con1 PsI (λi=>[iV i.l,zA i.top,zA i.most,zA i.least,zA i.q]) (λ_=>[]) (λi=>i.l.length<=1000000/\yW i.q/\yW i.least/\yW i.most) (λ_=> .own 0) (λi=>[.own 2 1 (iE (zFd i))])
structure SpI where
 l:List Int
 part:Int
 least:Int
 q:Int
def SpI.rs (i:SpI):RsI:=⟨i.l,hP i.l (i.q*i.part / 100),i.least,i.q-i.q*i.part / 100⟩
def zDs (i:SpI):List Int:=if yU i.l i.q=av/\0<=i.part/\i.part<=100/\1<=i.least then pS i.rs else[]
def splC:Con:=con1 SpI (λi=>[iV i.l,zA i.part,zA i.least,zA i.q]) (λ_=>[]) (λi=>i.l.length<=1000000/\yW i.q/\yW i.least/\yW i.part) (λ_=> .own 0) (λi=>[.own 2 1 (iE (zDs i))])
def zEn (a:RsI):Prop:=a.l.length<=250/\a.out.length=a.l.length/\((-9223372036854775808)<=a.q/\a.q<=9223372036854775807)/\((-9223372036854775808)<=a.least/\a.least<=9223372036854775807)/\∀(b:Nat),0<=a.out.getD b 0/\a.out.getD b 0<=a.l.getD b 0/\a.l.getD b (0:Int)<=(1000000:Int)
def zQh (a:RsI) (b:PsI):Prop:=(zEn a)/\∀(c:Unit),True->∃(d:Unit),iE (zFd b)=iE (pS a)/\True
def zQg (a:PsI):Prop:=∃(b:RsI),iE b.l=iE a.l/\b.least=a.least/\b.q=a.q/\iE b.out=ac (↑(iE a.l).length:Int).toNat [dI 0]/\zQh b a
def lM (a:PsI):=(ac (↑(iE a.l).length:Int).toNat [dI 0])
def zNk (a:PsI) (b:Int):=(zV (lM a) a.top.toNat 0 [dI (min (min b a.most) a.q)])
def y2h (i:PsI):Prop:=
 ∃(a:LqI),iE a.l=iE i.l/\a.q=i.q/\(wJ a)/\∀(b:Unit),True->cnd (!yU a.l a.q) (∃(c:Unit),iE (zFd i)=[]/\True) (cnd (decide (i.least<1)) (∃(c:Unit),iE (zFd i)=[]/\True) (cnd (decide (i.most<0)) (∃(c:Unit),iE (zFd i)=[]/\True) ((0<=(↑(iE i.l).length:Int)/\(↑(iE i.l).length:Int)<=(↑(iE i.l).length:Int)/\(↑(iE i.l).length:Int)<=9223372036854775807/\(↑(8:Nat):Int)*(↑(iE i.l).length:Int)<=2 ^ (48:Nat))/\cnd (decide (i.top>=0)) (cnd (decide (i.top<(↑(iE i.l).length:Int))) ((0<=i.top/\i.top<(↑(iE i.l).length:Int))/\∃(c:Int),zE (iE i.l) i.top.toNat 0 1=ar [dI c]/\(0<=i.top/\i.top<(↑(lM i).length:Int))/\i.top.toNat<(lM i).length/\(0<=i.top/\i.top<(↑(zNk i c).length:Int))/\∃(d:Int),zE (zNk i c) i.top.toNat 0 1=ar [dI d]/\∃(e:RsI),iE e.l=iE i.l/\e.least=i.least/\e.q=ap.wrap (i.q-d)/\iE e.out=zV (lM i) i.top.toNat 0 [dI (min (min c i.most) i.q)]/\zQh e i) (zQg i)) (zQg i))))
def yYm (i:SpI):Prop:=
 ∃(a:LqI),iE a.l=iE i.l/\a.q=i.q/\(wJ a)/\∀(b:Unit),True->cnd (!yU a.l a.q) (∃(c:Unit),iE (zDs i)=[]/\True) (cnd (decide (i.part<0)) (∃(c:Unit),iE (zDs i)=[]/\True) (cnd (decide (i.part>100)) (∃(c:Unit),iE (zDs i)=[]/\True) (cnd (decide (i.least<1)) (∃(c:Unit),iE (zDs i)=[]/\True) (∃(c:ShI),c.a=i.q/\c.b=i.part/\c.c=100/\(0<=c.a/\c.a<=(2000000000:Int)/\(0:Int)<=c.b/\c.b<=(2000000000:Int)/\(1:Int)<=c.c/\c.c<=2000000000)/\∀(d:Unit),True->∃(e:LqI),iE e.l=iE i.l/\e.q=c.a*c.b / c.c/\(wJ e)/\∀(f:Unit),True->∃(g:RsI),iE g.l=iE i.l/\g.least=i.least/\g.q=ap.wrap (i.q-c.a*c.b / c.c)/\iE g.out=iE (hP e.l e.q)/\(zEn g)/\∀(h:Unit),True->∃(j:Unit),iE (zDs i)=iE (pS g)/\True))))
def yIj {l:List Int} {q r:Int} (h:yU l q=av) (h0:0<=r) (h1:r<=q):yU l r=av:=by
 obtain⟨a,b,c,d⟩:=jH h;have e:(l.all λn=>decide (1<=n) && decide (n<=1000000))=av:=by
  rw[y8k];intro x hx;simpa using c x hx
 rw[yU,e,y5v a,y5v h0,y5v (show r<=l.sum by omega)];rfl
def getD_none {l:List Int} {n:Nat} (h:l[n]? =au):l.getD n 0=0:=by rw[y5n,h];rfl
def zDc {l:List Int} {q:Int} (h:yU l q=av) (n:Nat):0<=l.getD n 0/\l.getD n 0<=1000000:=by
 cases hn:l[n]? with
 |none=>rw[getD_none hn];decide
 |some x=>rw[zT hn];have:=(jH h).2.2.1 x (y5p hn);omega
def yCo {l:List Int} {q:Int} (h:yU l q=av) (n:Nat):0<=(hP l q).getD n 0/\(hP l q).getD n 0<=l.getD n 0:=by
 rw[hP,y5g h];obtain⟨a,b,c,d⟩:=jH h;cases hn:l[n]? with
 |none=>
  have:(uX l q)[n]? =au:=by rw[List.getElem?_eq_none_iff,tZ];exact List.getElem?_eq_none_iff.1 hn
  rw[getD_none hn,getD_none this];decide
 |some x=>
  rw[zT hn,zT (zQe l q n x hn)];have:=zJr l q n b (λy hy=>by have:=c y hy;omega);have:=c x (y5p hn);omega
def y3s (i:SpI) (h:splC.cnd i):yYm i:=by
 obtain⟨hl,hq,hle,hpa⟩:i.l.length<=1000000/\yW i.q/\yW i.least/\yW i.part:=h;unfold yYm zEn wJ;have no (e:¬(yU i.l i.q=av/\0<=i.part/\i.part<=100/\1<=i.least)):zDs i=[]:=by rw[zDs,y5e e]
 refine⟨⟨i.l,i.q⟩,rfl,rfl,⟨hl,hq⟩,λ_ _=>Cv.cnd.mk (λc=> ?_) (λc=>zH (λd=> ?_) (λd=>zH (λe=> ?_) (λe=>zH (λf=> ?_) (λf=> ?_))))⟩
 ·have c:yU i.l i.q=aw:=by simpa using c
  exact⟨(),by rw[no (by rw[c];simp)];rfl,trivial⟩
 ·exact⟨(),by rw[no (by omega)];rfl,trivial⟩
 ·exact⟨(),by rw[no (by omega)];rfl,trivial⟩
 ·exact⟨(),by rw[no (by omega)];rfl,trivial⟩
 have c:yU i.l i.q=av:=by simpa using c
 obtain⟨h1,h2,h3,h4⟩:=jH c;have hq2:=zLi c;have m0:0<=i.q*i.part:=xBl h2 oM;have m1:i.q*i.part<=i.q*100:=xAb oM h2;have hr:=yIj (r:=i.q*i.part / 100) c oM oM;have es:zDs i=pS i.rs:=by rw[zDs,y5g ⟨c,by omega,by omega,by omega⟩]
 refine⟨⟨i.q,i.part,100⟩,rfl,rfl,rfl,⟨Z9,Z9,Z9,Z9,Z9,Z9⟩,λ_ _=>⟨⟨i.l,i.q*i.part / 100⟩,rfl,rfl,⟨hl,Z9,Z9⟩,λ_ _=>⟨i.rs,rfl,rfl,?_,rfl,⟨h1,?_,?_,hle,?_⟩,λ_ _=>⟨(),by rw[es],trivial⟩⟩⟩⟩
 ·rw[w64 (by dsimp only;omega)];rfl
 ·show(hP i.l (i.q*i.part / 100)).length=i.l.length;rw[hP,y5g hr,tZ]
 ·show yW (i.q-i.q*i.part / 100);exact⟨oM,oM⟩
 ·intro n;have a:=yCo hr n;have b:=zDc c n;exact⟨a.1,a.2,b.2⟩
def yYd:splC.ok Tryz.prog 290:=okw mixed (gokc zEf (gokc zRa (gokc z7p (gokc z7c gok0)))) 0 (λ_=>[]) (λ_=>[]) [] Tryz.func290 y3s
def yUg (n:Nat):ac n [D.v (.int .i64 0)]=iE (ac n 0):=by simp[iE]
def zZx (n k:Nat):(ac n (0:Int)).getD k 0=0:=by
 rw[y5n,ak];split<;>rfl
def yHn (n t k:Nat) (x:Int):((ac n (0:Int)).set t x).getD k 0=x/\k=t\/((ac n (0:Int)).set t x).getD k 0=0:=by
 rw[y5n,y8u];split
 ·rename_i e;split
  ·exact .inl ⟨rfl,e.symm⟩
  ·exact .inr rfl
 ·right;rw[<- y5n];exact zZx n k
def y4h (i:PsI) (h:proC.cnd i):y2h i:=by
 obtain⟨hl,hq,hle,hmo⟩:i.l.length<=1000000/\yW i.q/\yW i.least/\yW i.most:=h;unfold y2h zNk lM zQg zQh zEn wJ dI;have no (e:¬(yU i.l i.q=av/\1<=i.least/\0<=i.most)):zFd i=[]:=by rw[zFd,y5e e]
 refine⟨⟨i.l,i.q⟩,rfl,rfl,⟨hl,hq⟩,λ_ _=>Cv.cnd.mk (λc=> ?_) (λc=>zH (λd=> ?_) (λd=>zH (λe=> ?_) (λe=> ?_)))⟩
 ·have c:yU i.l i.q=aw:=by simpa using c
  exact⟨(),by rw[no (by rw[c];simp)];rfl,trivial⟩
 ·exact⟨(),by rw[no (by omega)];rfl,trivial⟩
 ·exact⟨(),by rw[no (by omega)];rfl,trivial⟩
 have c:yU i.l i.q=av:=by simpa using c
 obtain⟨h1,h2,h3,h4⟩:=jH c;have hq2:=zLi c;have es:zFd i=pS i.rs:=by rw[zFd,y5g ⟨c,by omega,by omega⟩]
 simp only[yZ,y5x,yUg];have out (hn:¬(0<=i.top/\i.top<(i.l.length:Int))):i.rs=⟨i.l,ac i.l.length 0,i.least,i.q⟩:=by rw[PsI.rs,y5e hn]
 have ok0:RsI.ok ⟨i.l,ac i.l.length 0,i.least,i.q⟩:=⟨h1,by simp,hq,hle,λn=>by
  have:=zDc c n;dsimp only;rw[zZx];omega⟩
 refine⟨⟨oM,oM,oM,oM⟩,zH (λa=>zH (λb=> ?_) (λb=> ?_)) (λa=> ?_)⟩
 ·obtain⟨n,hn⟩:=yD (l:=i.l) (i:=i.top.toNat) oM;have hf:i.first=min (min n i.most) i.q:=by rw[PsI.first,zT hn]
  have bn:=h3 n (y5p hn);have hr0:(ac i.l.length (0:Int))[i.top.toNat]? =ar 0:=by rw[ak,y5g (by omega)]
  have ers:i.rs=⟨i.l,(ac i.l.length 0).set i.top.toNat i.first,i.least,i.q-i.first⟩:=by rw[PsI.rs,y5g ⟨by omega,by omega⟩]
  refine⟨⟨oM,oM⟩,n,elI hn,?_⟩;rw[zWa hr0,<- hf];simp only[yZ,y6m,y8j];refine⟨⟨oM,oM⟩,oM,⟨oM,oM⟩,i.first,elI (uG hr0),?_⟩;rw[w64 (x:=i.q-i.first) (by omega)];refine⟨⟨i.l,(ac i.l.length 0).set i.top.toNat i.first,i.least,i.q-i.first⟩,rF3 ⟨rfl,⟨h1,by simp,⟨Z9,Z9⟩,hle,λk=> ?_⟩,λ_ _=>⟨(),by rw[es,ers],trivial⟩⟩⟩;have bk:=zDc c k;dsimp only;rcases yHn i.l.length i.top.toNat k i.first with⟨g,gk⟩|g
  ·rw[g,gk,zT hn];omega
  ·rw[g];omega
 ·refine⟨⟨i.l,ac i.l.length 0,i.least,i.q⟩,rF3 ⟨rfl,ok0,λ_ _=>⟨(),by rw[es,out (by omega)],trivial⟩⟩⟩
 ·refine⟨⟨i.l,ac i.l.length 0,i.least,i.q⟩,rF3 ⟨rfl,ok0,λ_ _=>⟨(),by rw[es,out (by omega)],trivial⟩⟩⟩
def yWh:proC.ok Tryz.prog 289:=okw mixed (gokc zEf (gokc z7c gok0)) 0 (λ_=>[]) (λ_=>[]) [] Tryz.func289 y4h
structure AlI where
 p:Prd
 l:List zI
 q:Int
def AlI.qs (i:AlI):List Int:=i.l.map (·.qty)
def kD (i:AlI):List Int:=if i.p.rule=1 then hP i.qs i.q else if i.p.rule=2 then zFd ⟨i.qs,topI i.l,i.p.top,i.p.least,i.q⟩else if i.p.rule=3 then zDs ⟨i.qs,i.p.part,i.p.least,i.q⟩else[]
def allocC:Con:=con1 AlI (λi=>[prdV i.p,roV 5 (i.l.map vA),zA i.q]) (λ_=>[]) (λi=>i.l.length<=1000/\yW i.q/\yW i.p.least/\yW i.p.top/\yW i.p.part) (λ_=> .own 0) (λi=>[.own 2 1 (iE (kD i))])
def yXi (i:AlI):List SAnn:=[{ι:=Nat,slots:=λj=>[(7,.own 0),(13,zA j)],rows:=λj=>[.own 2 1 (iE (i.qs.take j))]}]
def yKd (i:AlI):Prop:=
 ∃(a:Nat),(↑a:Int)=0/\iE (ab a i.qs)=[]/\∃(b:Nat->Prop),∃(c:Nat->Nat),b a/\∀(d:Nat),b d->cnd (decide ((↑d:Int)<(↑(aa vA i.l).length:Int))) ((0<=(↑d:Int)/\(↑d:Int)<(↑(aa vA i.l).length:Int))/\∃(e:Int),∃(f:Int),∃(g:Int),∃(h:Int),∃(j:Bool),zE (aa vA i.l) (↑d:Int).toNat 0 5=ar [dI e,dI f,dI g,dI h,D.v (.bool j)]/\((iE (ab d i.qs)).length+1)*(8:Nat)<=(140737488355328:Nat)/\∃(k:Nat),(↑k:Int)=ap.wrap ((↑d:Int)+1)/\iE (ab k i.qs)=iE (ab d i.qs)++[[dI h]]/\b k/\c k<c d/\dh (ay [V.d (D.v (Value.string (sb i.p.code))),V.own 0,V.d (dI i.p.tick),V.d (dI i.p.low),V.d (dI i.p.high),V.d (dI i.p.wide),V.d (dI i.p.rule),V.d (dI i.p.top),V.d (dI i.p.least),V.d (dI i.p.part),V.own 1] 25)/\dh (az 1 (iE i.p.settle))/\dh (az 1 (iE i.p.months))) (cnd (i.p.rule==1) (∃(e:LqI),iE e.l=iE (ab d i.qs)/\e.q=i.q/\(wJ e)/\∀(f:Unit),True->∃(g:Unit),iE (kD i)=iE (hP e.l e.q)/\True) (cnd (i.p.rule==2) (∃(e:List zI),aa vA e=aa vA i.l/\e.length<=1000000/\∀(f:Unit),True->∃(g:PsI),iE g.l=iE (ab d i.qs)/\g.top=topI e/\g.most=i.p.top/\g.least=i.p.least/\g.q=i.q/\(g.l.length<=1000000/\((-9223372036854775808)<=g.q/\g.q<=9223372036854775807)/\((-9223372036854775808)<=g.least/\g.least<=9223372036854775807)/\(-9223372036854775808)<=g.most/\g.most<=9223372036854775807)/\∀(h:Unit),True->∃(j:Unit),iE (kD i)=iE (zFd g)/\True) (cnd (i.p.rule==3) (∃(e:SpI),iE e.l=iE (ab d i.qs)/\e.part=i.p.part/\e.least=i.p.least/\e.q=i.q/\(e.l.length<=1000000/\((-9223372036854775808)<=e.q/\e.q<=9223372036854775807)/\((-9223372036854775808)<=e.least/\e.least<=9223372036854775807)/\(-9223372036854775808)<=e.part/\e.part<=9223372036854775807)/\∀(f:Unit),True->∃(g:Unit),iE (kD i)=iE (zDs e)/\True) (∃(e:Unit),iE (kD i)=[]/\True))))
def yWj (i:AlI) (h:allocC.cnd i):yKd i:=by
 obtain⟨hl,hq,hle,hto,hpa⟩:i.l.length<=1000/\yW i.q/\yW i.p.least/\yW i.p.top/\yW i.p.part:=h;have hql:i.qs.length=i.l.length:=by simp[AlI.qs]
 unfold yKd wJ dI;simp only[yZ,y5f];refine⟨0,by(first|exact rfl|exact trivial),by(first|exact rfl|exact trivial),λj=>j<=i.l.length,λj=>i.l.length-j,y6l _,λj hj=>zH (λc=> ?_) (λc=> ?_)⟩
 ·have hj':j<i.l.length:=by omega
  obtain⟨o,ho⟩:=yD (l:=i.l) (i:=j) hj';have hqo:i.qs[j]? =ar o.qty:=by rw[AlI.qs,y6v,ho];rfl
  refine⟨⟨oM,oM⟩,o.id,o.side,o.price,o.qty,o.top,yXv ho,by rw[y5w];omega,j+1,wjn oM,?_,hj',Z9,k0q⟩;rw[y6n,hqo];simp[iE]
 have hje:j=i.l.length:=by omega
 subst hje;rw[y5q (l:=i.qs) (by omega)];refine Cv.cnd.mk (λa=> ?_) (λa=>Cv.cnd.mk (λb=> ?_) (λb=>Cv.cnd.mk (λd=> ?_) (λd=> ?_)))
 ·have a:i.p.rule=1:=by simpa using a
  exact⟨⟨i.qs,i.q⟩,rfl,rfl,⟨Z9,hq⟩,λ_ _=>⟨(),by rw[kD,y5g a],trivial⟩⟩
 ·have a:¬i.p.rule=1:=by simpa using a
  have b:i.p.rule=2:=by simpa using b
  exact⟨i.l,rfl,oM,λ_ _=>⟨⟨i.qs,topI i.l,i.p.top,i.p.least,i.q⟩,rF4 ⟨rfl,⟨Z9,hq,hle,hto⟩,λ_ _=>⟨(),by rw[kD,y5e a,y5g b],trivial⟩⟩⟩⟩
 ·have a:¬i.p.rule=1:=by simpa using a
  have b:¬i.p.rule=2:=by simpa using b
  have d:i.p.rule=3:=by simpa using d
  exact⟨⟨i.qs,i.p.part,i.p.least,i.q⟩,rF3 ⟨rfl,⟨Z9,hq,hle,hpa⟩,λ_ _=>⟨(),by rw[kD,y5e a,y5e b,y5g d],trivial⟩⟩⟩
 ·have a:¬i.p.rule=1:=by simpa using a
  have b:¬i.p.rule=2:=by simpa using b
  have d:¬i.p.rule=3:=by simpa using d
  exact⟨(),by rw[kD,y5e a,y5e b,y5e d];rfl,trivial⟩
def yJf:allocC.ok Tryz.prog 263:=okw mixed (gokc z7p (gokc yCs (gokc yWh (gokc yYd gok0)))) 0 (λ_=>[]) (λi=>yXi i) [] Tryz.func263 yWj
def vM (l:List Nat) (t:Int):Int:=match l with
 |[]=>t
 |k::_=>k
def kM:List Nat->Int->Int
 |[],p=>p
 |k::l,_=>kM l k
structure zVj (s:Slot) (n k:Nat) (p t:Int):Prop where
 used:s.used=av
 no:s.n=k
 queue:s.queue=n
 ahead:s.ahead=p
 back:s.back=t
 q1:0<=s.qty
 q2:s.qty<=1000000
def seg (sl:List Slot) (n:Nat):Int->List Nat->Int->Prop
 |_,[],_=>True
 |p,k::l,t=>(∃s,sl[k]? =ar s/\zVj s n k p (vM l t))/\seg sl n k l t
def zJp (l1 l2:List Nat) (t:Int):vM (l1++l2) t=vM l1 (vM l2 t):=by cases l1<;>rfl
def bY:∀(l1 l2:List Nat) (p:Int),kM (l1++l2) p=kM l2 (kM l1 p)
 |[],l2,p=>rfl
 |k::l1,l2,p=>bY l1 l2 k
def zAd {sl:List Slot} {n:Nat}:∀{l1 l2:List Nat} {p t:Int},seg sl n p (l1++l2) t↔seg sl n p l1 (vM l2 t)/\seg sl n (kM l1 p) l2 t
 |[],l2,p,t=>by simp[seg,kM]
 |k::l1,l2,p,t=>by
  rw[y6w,seg,seg,zJp,zAd,kM,and_assoc]
def z9f {sl:List Slot} {n k:Nat}:∀{l:List Nat} {p t:Int},seg sl n p l t->k∈l->∃s p' t',sl[k]? =ar s/\zVj s n k p' t'
 |j::l,p,t,h,hk=>by
  rcases y5z.1 hk with rfl|hk
  ·obtain⟨⟨s,h1,h2⟩,_⟩:=h;exact⟨s,_,_,h1,h2⟩
  ·exact z9f h.2 hk
def vE {sl sl':List Slot} {n:Nat}:∀{l:List Nat} {p t:Int},(∀k∈l,sl'[k]? =sl[k]?)->seg sl n p l t->seg sl' n p l t
 |[],p,t,_,h=>h
 |k::l,p,t,e,⟨⟨s,h1,h2⟩,h3⟩=>⟨⟨s,by rw[e k y5k];exact h1,h2⟩,vE (λj hj=>e j (y5m _ hj)) h3⟩
def dM {α:Type} {l:List α} {f:α->α} {i j:Nat} (h:i≠j):(l.modify i f)[j]? =l[j]? :=by rw[ae];cases l[j]? <;>simp[h]
def eQ {α:Type} {l:List α} {f:α->α} {i:Nat} {x:α} (h:l[i]? =ar x):(l.modify i f)[i]? =ar (f x):=by rw[ae,h];simp
def vP {α:Type} {l:List α} {x:α} {i j:Nat} (h:i≠j):(l.set i x)[j]? =l[j]? :=by rw[y8u,y5e h]
def fJ {α:Type} {l:List α} {x:α} {i:Nat} (h:i<l.length):(l.set i x)[i]? =ar x:=by rw[y8u,y5g rfl,y5g h]
def c8 {α:Type} {Q:List α} {n m:Nat} {x y:α} (h:(Q.set n x)[m]? =ar y):(m=n/\y=x)\/(m≠n/\Q[m]? =ar y):=by
 by_cases e:n=m
 ·subst e;have hn:n<Q.length:=by
   have:=(y5i.1 h).1;simpa using this
  rw[fJ hn]at h;cases h;exact .inl ⟨rfl,rfl⟩
 ·rw[vP e]at h;exact .inr ⟨λc=>e c.symm,h⟩
def zYc {sl:List Slot} {n k:Nat} {l:List Nat} {p t:Int} (t':Int) (hk:k∉l) (h:seg sl n p (l++[k]) t):seg (sl.modify k λs=>{s with back:=t'}) n p (l++[k]) t':=by
 rw[zAd]at h ⊢;obtain⟨h1,⟨s,h2,h3⟩,_⟩:=h;refine⟨vE (λj hj=>dM (λe=>hk (e▸hj))) h1,⟨_,eQ h2,?_⟩,trivial⟩;exact⟨h3.used,h3.no,h3.queue,h3.ahead,rfl,h3.q1,h3.q2⟩
def z9w {sl:List Slot} {n k:Nat} {l:List Nat} {p t:Int} (p':Int) (hk:k∉l) (h:seg sl n p (k::l) t):seg (sl.modify k λs=>{s with ahead:=p'}) n p' (k::l) t:=by
 obtain⟨⟨s,h1,h2⟩,h3⟩:=h;refine⟨⟨_,eQ h1,?_⟩,vE (λj hj=>dM (λe=>hk (e▸hj))) h3⟩;exact⟨h2.used,h2.no,h2.queue,rfl,h2.back,h2.q1,h2.q2⟩
def wP (l:List Nat):l=[]\/∃(x:List Nat) (j:Nat),l=x++[j]/\∀p:Int,kM l p=(j:Int):=by
 rcases List.eq_nil_or_concat l with rfl|⟨x,j,rfl⟩
 ·exact .inl rfl
 ·exact .inr ⟨x,j,by simp,λp=>by rw[List.concat_eq_append,bY];rfl⟩
def pY (l:List Nat):kM l (-1)= -1↔l=[]:=by
 rcases wP l with rfl|⟨x,j,rfl,e⟩
 ·simp[kM]
 ·rw[e];simp
def zRk (l:List Nat):vM l (-1)= -1↔l=[]:=by
 cases l with
 |nil=>simp[vM]
 |cons k l=>simp only[vM];constructor
            ·intro h;omega
            ·intro h;cases h
def zAr {α β:Type} {g:α->β} {f:α->α} (h:∀x,g (f x)=g x):∀(l:List α) (i:Nat),(l.modify i f).map g=l.map g
 |[],i=>by simp
 |a::l,0=>by simp[h]
 |a::l,i+1=>by rw[xAp,y5t,y5t,zAr h l i]
def zNm:∀(m:Nat) {l:List Nat},l.Nodup->(∀k∈l,k<m)->l.length<=m
 |0,[],_,_=>y6a 0
 |0,k::l,_,h=>absurd (h k y5k) oM
 |m+1,l,hn,h=>by
  have:=zNm m (hn.erase m) λk hk=>by
   have:=(hn.mem_erase_iff).1 hk;have:=h k this.2;omega
  by_cases hm:m∈l
  ·rw[aj hm]at this;omega
  ·rw[List.erase_of_not_mem hm]at this;omega
def z7e {f g:Nat->Int} {k:Nat}:∀{l:List Nat},l.Nodup->k∈l->(∀j∈l,j≠k->g j=f j)->(l.map g).sum=(l.map f).sum+(g k-f k)
 |j::l,hn,hk,h=>by
  have hn:=y7v.1 hn;rw[y5t,y5t,y6u,y6u];rcases y5z.1 hk with rfl|hk
  ·have:l.map g=l.map f:=y6o λi hi=>h i (y5m _ hi) (λe=>hn.1 (e▸hi))
   rw[this];omega
  ·have e:=h j y5k (λe=>hn.1 (e▸hk));rw[z7e hn.2 hk (λi hi=>h i (y5m _ hi)),e];omega
def yEm {f:Nat->Int} {m:Int}:∀{l:List Nat},(∀j∈l,0<=f j/\f j<=m)->0<=(l.map f).sum/\(l.map f).sum<=m*l.length
 |[],_=>by simp
 |j::l,h=>by
  have:=h j y5k;have:=yEm (l:=l) λi hi=>h i (y5m _ hi)
  rw[y5t,y6u,y5j,Int.natCast_add,Int.mul_add];simp only[Int.natCast_one,Int.mul_one];omega
def Arena.qsum (a:Arena) (l:List Nat):Int:=(l.map λk=>(a.slotAt k).qty).sum
structure Arena.Wf0 (a:Arena) (Q:List (List Nat)):Prop where
 len:a.slots.length=250
 ql:a.queues.length=Q.length
 q:∀(n:Nat) (l:List Nat),Q[n]? =ar l->a.queues[n]? =ar ⟨vM l (-1),kM l (-1),a.qsum l,l.length⟩
 sg:∀(n:Nat) (l:List Nat),Q[n]? =ar l->seg a.slots n (-1) l (-1)
 nd:∀(n:Nat) (l:List Nat),Q[n]? =ar l->l.Nodup
 us:∀(k:Nat) (s:Slot),a.slots[k]? =ar s->s.used=av->∃(n:Nat) (l:List Nat),Q[n]? =ar l/\k∈l
 free:a.free=((a.slots.map (·.used)).countP (!·):Nat)
structure Arena.Wf (a:Arena) (Q:List (List Nat)):Prop extends a.Wf0 Q where
 pos:∀(n:Nat) (l:List Nat),Q[n]? =ar l->∀k∈l,1<=(a.slotAt k).qty
def Arena.Wf0.mem {a:Arena} {Q:List (List Nat)} (h:a.Wf0 Q) {n k:Nat} {l:List Nat} (hl:Q[n]? =ar l) (hk:k∈l):k<250/\(∃p t,zVj (a.slotAt k) n k p t)/\a.slots[k]? =ar (a.slotAt k):=by
 obtain⟨s,p,t,h1,h2⟩:=z9f (h.sg n l hl) hk;have e:a.slotAt k=s:=zT h1;have hlt:=(y5i.1 h1).1;rw[h.len]at hlt;exact⟨hlt,⟨p,t,by rw[e];exact h2⟩,by rw[e];exact h1⟩
def Arena.Wf0.one {a:Arena} {Q:List (List Nat)} (h:a.Wf0 Q) {n m k:Nat} {l l':List Nat} (hl:Q[n]? =ar l) (hl':Q[m]? =ar l') (hk:k∈l) (hk':k∈l'):n=m:=by
 obtain⟨_,⟨_,_,h1⟩,_⟩:=h.mem hl hk;obtain⟨_,⟨_,_,h2⟩,_⟩:=h.mem hl' hk';have:=h1.queue;have:=h2.queue;omega
def Arena.Wf0.short {a:Arena} {Q:List (List Nat)} (h:a.Wf0 Q) {n:Nat} {l:List Nat} (hl:Q[n]? =ar l):l.length<=250:=zNm 250 (h.nd n l hl) λk hk=>(h.mem hl hk).1
def aS {a a':Arena} {l:List Nat} (h:∀k∈l,(a'.slotAt k).qty=(a.slotAt k).qty):a'.qsum l=a.qsum l:=by rw[Arena.qsum,Arena.qsum,y6o h]
def Arena.Wf0.sum {a:Arena} {Q:List (List Nat)} (h:a.Wf0 Q) {n:Nat} {l:List Nat} (hl:Q[n]? =ar l):0<=a.qsum l/\a.qsum l<=250000000:=by
 have:=yEm (f:=λk=>(a.slotAt k).qty) (m:=1000000) (l:=l) λj hj=>by
  obtain⟨_,⟨_,_,h1⟩,_⟩:=h.mem hl hj;exact⟨h1.q1,h1.q2⟩
 have:=h.short hl;rw[Arena.qsum];omega
def zRq {sl:List Slot} {n:Nat}:∀{l:List Nat} {p:Int},seg sl n p l (-1)->zYn sl (vM l (-1)) l
 |[],p,_=>rfl
 |k::l,p,⟨⟨s,h1,h2⟩,h3⟩=>by
  refine⟨rfl,(y5i.1 h1).1,?_⟩;rw[zT h1,h2.back];exact zRq h3
def Arena.Wf0.ok {a:Arena} {Q:List (List Nat)} (h:a.Wf0 Q):a.okAt:=by
 refine⟨by rw[h.len];decide,λk s hk hu=> ?_⟩;obtain⟨n,l,hl,hkl⟩:=h.us k s hk hu;have hQ:=(y5i.1 hl).1;have hql:=h.ql;obtain⟨l1,l2,rfl⟩:=List.append_of_mem hkl;have hsg:=h.sg n _ hl;have hnd:=h.nd n _ hl;rw[zAd]at hsg;obtain⟨_,⟨s',h1,h2⟩,_⟩:=hsg;rw[hk]at h1;cases h1;have hq:=h2.queue;have hd:=y7o.1 hnd;have hd2:=y7v.1 hd.2.1;refine⟨⟨oM,oM⟩,h2.q2,?_,?_⟩
 ·rw[h2.ahead];rcases wP l1 with rfl|⟨x,j,rfl,e⟩
  ·exact .inl rfl
  ·have hj:j∈x++[j]:=by simp
   have hjl:=(h.mem hl (y6x _ hj)).1;rw[e,h.len];refine .inr ⟨oM,oM,λe2=> ?_⟩;have:j=k:=by omega
   exact hd.2.2 j hj k y5k this
 ·rw[h2.back];cases l2 with
  |nil=>exact .inl rfl
  |cons j x=>
   have hjl:=(h.mem hl (y7a _ (y5m _ y5k))).1;rw[vM,h.len];refine .inr ⟨oM,oM,λe2=> ?_⟩;have:j=k:=by omega
   exact hd2.1 (this▸y5k)
def Arena.Wf0.open {a:Arena} {Q:List (List Nat)} (h:a.Wf0 Q):a.openQ.Wf0 (Q++[[]]):=by
 have g:∀{n:Nat} {l:List Nat},(Q++[[]])[n]? =ar l->Q[n]? =ar l\/(n=Q.length/\l=[]):=by
  intro n l hl;rw[List.getElem?_append]at hl;split at hl
  ·exact .inl hl
  ·rename_i hn;have:=(y5i.1 hl).1;simp only[y7h]at this;have e:n-Q.length=0:=by omega
   rw[e]at hl;cases hl;exact .inr ⟨oM,rfl⟩
 refine⟨h.len,by simp[Arena.openQ,h.ql],λn l hl=> ?_,λn l hl=> ?_,λn l hl=> ?_,λk s hk hu=> ?_,h.free⟩
 ·rcases g hl with hl|⟨rfl,rfl⟩
  ·show(a.queues++[mB])[n]? =_;rw[y7z (by have:=(y5i.1 hl).1;have:=h.ql;omega)];exact h.q n l hl
  ·show(a.queues++[mB])[_]? =_;rw[<- h.ql,y7e (y6a _),xAl];rfl
 ·rcases g hl with hl|⟨rfl,rfl⟩
  ·exact h.sg n l hl
  ·trivial
 ·rcases g hl with hl|⟨rfl,rfl⟩
  ·exact h.nd n l hl
  ·exact List.nodup_nil
 ·obtain⟨n,l,hl,hkl⟩:=h.us k s hk hu;exact⟨n,l,by rw[y7z (y5i.1 hl).1];exact hl,hkl⟩
def Arena.Wf.open {a:Arena} {Q:List (List Nat)} (h:a.Wf Q):a.openQ.Wf (Q++[[]]):=by
 refine⟨h.toWf0.open,λn l hl k hk=> ?_⟩;rw[List.getElem?_append]at hl;split at hl
 ·exact h.pos n l hl k hk
 ·have:=(y5i.1 hl).1;simp only[y7h]at this;have e:n-Q.length=0:=by omega
  rw[e]at hl;cases hl;cases hk
def zMf {sl sl':List Slot} {n:Nat}:∀{l:List Nat} {p t:Int},(∀k∈l,∀s,sl[k]? =ar s->∃s',sl'[k]? =ar s'/\s'.used=s.used/\s'.n=s.n/\s'.queue=s.queue/\s'.ahead=s.ahead/\s'.back=s.back/\0<=s'.qty/\s'.qty<=1000000)->seg sl n p l t->seg sl' n p l t
 |[],p,t,_,h=>h
 |k::l,p,t,e,⟨⟨s,h1,h2⟩,h3⟩=>by
  obtain⟨s',q0,q1,q2,q3,q4,q5,q6,q7⟩:=e k y5k s h1;exact⟨⟨s',q0,⟨q1.trans h2.used,q2.trans h2.no,q3.trans h2.queue,q4.trans h2.ahead,q5.trans h2.back,q6,q7⟩⟩,zMf (λj hj=>e j (y5m _ hj)) h3⟩
def zWk (a:Arena) (n:Int) (t:Bool) (j:Nat):(a.topF n t).slotAt j=if a.usedAt n=av/\j=n.toNat then{a.slotAt j with top:=t}else a.slotAt j:=by
 rw[Arena.topF];by_cases hu:a.usedAt n=av
 ·rw[y5g hu];by_cases e:j=n.toNat
  ·subst e;rw[y5g ⟨hu,rfl⟩];have hlt:n.toNat<a.slots.length:=by
    simp only[Arena.usedAt,y5s,y6t]at hu;omega
   show(a.slots.modify n.toNat _).getD n.toNat slot0=_;obtain⟨s,hs⟩:=yD hlt;rw[zT (eQ hs),xO hs]
  ·rw[y5e (λh=>e h.2)];show(a.slots.modify n.toNat _).getD j slot0=a.slots.getD j slot0;rw[y5n,dM (λh=>e h.symm),y5n]
 ·rw[y5e hu,y5e (λh=>hu h.1)]
def Arena.Wf.top {a:Arena} {Q:List (List Nat)} (h:a.Wf Q) (n:Int) (t:Bool):(a.topF n t).Wf Q:=by
 have hq:∀j,((a.topF n t).slotAt j).qty=(a.slotAt j).qty:=by
  intro j;rw[zWk];split<;>rfl
 by_cases hu:a.usedAt n=av
 ·have e:a.topF n t={a with slots:=a.slots.modify n.toNat λs=>{s with top:=t}}:=by rw[Arena.topF,y5g hu]
  have hm:∀(k:Nat) (s:Slot),a.slots[k]? =ar s->∃s',(a.topF n t).slots[k]? =ar s'/\s'.used=s.used/\s'.n=s.n/\s'.queue=s.queue/\s'.ahead=s.ahead/\s'.back=s.back/\s'.qty=s.qty:=by
   intro k s hk;rw[e];by_cases ek:n.toNat=k
   ·subst ek;exact⟨_,eQ hk,rfl,rfl,rfl,rfl,rfl,rfl⟩
   ·exact⟨s,by rw[dM ek];exact hk,rF5 rfl⟩
  have hl:(a.topF n t).slots.length=250:=by rw[e];simpa using h.len
  have hmu:(a.topF n t).slots.map (·.used)=a.slots.map (·.used):=by rw[e];exact zAr (g:=λs:Slot=>s.used) (f:=λs:Slot=>{s with top:=t}) (λ_=>rfl) _ _
  refine⟨⟨hl,by rw[e];exact h.ql,λm l hm'=> ?_,λm l hm'=> ?_,h.nd,λk s hk hs=> ?_,by rw[hmu];rw[e];exact h.free⟩,λm l hm' k hk=>by rw[hq];exact h.pos m l hm' k hk⟩
  ·rw[aS λk _=>hq k];rw[e];exact h.q m l hm'
  ·refine zMf (λk hk s hs=> ?_) (h.sg m l hm');obtain⟨s',q0,q1,q2,q3,q4,q5,q6⟩:=hm k s hs;obtain⟨_,⟨_,_,h2⟩,h3⟩:=h.mem hm' hk;rw[hs]at h3;cases h3;exact⟨s',q0,q1,q2,q3,q4,q5,by rw[q6];exact h2.q1,by rw[q6];exact h2.q2⟩
  ·have hlt:=(y5i.1 hk).1;rw[hl,<- h.len]at hlt;obtain⟨s0,h0⟩:=yD hlt;obtain⟨s',q0,q1,_⟩:=hm k s0 h0;rw[hk]at q0;cases q0;exact h.us k s0 h0 (by rw[<- q1];exact hs)
 ·have e:a.topF n t=a:=by rw[Arena.topF,y5e hu]
  rw[e];exact h
def zLz {sl:List Slot} {k:Nat} {s x:Slot} (hk:sl[k]? =ar s):((sl.set k x).map (·.used)).countP (!·)+(if s.used=av then 0 else 1)=(sl.map (·.used)).countP (!·)+(if x.used=av then 0 else 1):=by
 have hlt:=(y5i.1 hk).1;have e:(sl.map (·.used))[k]'(by simpa using hlt)=s.used:=by
  rw[List.getElem_map,(y5i.1 hk).2]
 rw[List.map_set,List.countP_set (by simpa using hlt),e];have hp:s.used=aw->1<=(sl.map (·.used)).countP (!·):=by
  intro h;apply List.countP_pos_iff.2;exact⟨s.used,y6i (y5p hk),by rw[h];rfl⟩
 generalize (sl.map (·.used)).countP (!·)=c at hp ⊢
 cases h1:s.used<;>cases h2:x.used
 all_goals
  simp only[h1,xAg,Bool.not_true,y5y,↓reduceIte,if_true,if_false]at hp ⊢
  try have hp:=hp trivial
  omega
def z6m {sl:List Slot}:(sl.map (·.used)).countP (!·)<=sl.length:=by
 have:=List.countP_le_length (p:=λb:Bool=> !b) (l:=sl.map (·.used))
 simpa using this
def Arena.Wf0.unused {a:Arena} {Q:List (List Nat)} (h:a.Wf0 Q) (hf:a.free≠0):∃k:Nat,kY a.slots=k/\k<250/\a.slots[k]? =ar (a.slotAt k)/\(a.slotAt k).used=aw/\∀(n:Nat) (l:List Nat),Q[n]? =ar l->k∉l:=by
 have hx:∃s∈a.slots,s.used=aw:=by
  have hp:0<(a.slots.map (·.used)).countP (!·):=by have:=h.free;omega
  obtain⟨b,hb,hb2⟩:=List.countP_pos_iff.1 hp;obtain⟨s,hs,rfl⟩:=y6q.1 hb;exact⟨s,hs,by simpa using hb2⟩
 obtain⟨s,hs,hu⟩:=hx;cases hi:a.slots.findIdx? λs=> !s.used with
 |none=>
  rw[y9v]at hi;have:=hi s hs;rw[hu]at this;cases this
 |some k=>
  have hi':=hi;rw[y8n]at hi;obtain⟨hk,hku,_⟩:=hi;have hk1:a.slots[k]? =ar a.slots[k]:=y6g hk;have e:=xO hk1;rw[<- e]at hku;have hku:(a.slotAt k).used=aw:=by simpa using hku
  refine⟨k,by rw[kY,hi'];rfl,by rw[<- h.len];exact hk,by rw[e];exact hk1,hku,λn l hl hkl=> ?_⟩;obtain⟨_,⟨_,_,h2⟩,_⟩:=h.mem hl hkl;have:=h2.used;rw[hku]at this;cases this
def Arena.Wf.put {a:Arena} {Q:List (List Nat)} (h:a.Wf Q) {n:Nat} {l:List Nat} (hl:Q[n]? =ar l) (hf:a.free≠0) {id qty:Int} (top:Bool) (hq:1<=qty/\qty<=1000000):
 ∃k:Nat,kY a.slots=k/\k<250/\(a.slotAt k).used=aw/\(∀(m:Nat) (l:List Nat),Q[m]? =ar l->k∉l)/\(a.put n id qty top).Wf (Q.set n (l++[k]))/\
  (∀j,((a.put n id qty top).slotAt j).ent=if j=k then⟨k,id,qty,top⟩else(a.slotAt j).ent)/\(a.put n id qty top).free=a.free-1:=by
 obtain⟨k,hk,hk2,hk1,hku,hkn⟩:=h.toWf0.unused hf;have hkl:=hkn n l hl;have hnQ:=(y5i.1 hl).1;have hqn:=h.q n l hl;have hnq:a.queues.getD n mB=⟨vM l (-1),kM l (-1),a.qsum l,l.length⟩:=zT hqn;have hsum:=h.toWf0.sum hl;have hsh:=h.toWf0.short hl;have hlen:=h.len;have hcl:=z6m (sl:=a.slots);have hfree:=h.free;obtain⟨x,hx⟩:∃x:Slot,x=⟨av,k,id,qty,top,n,kM l (-1),-1⟩:=⟨_,rfl⟩
 have hS:(a.put n id qty top).slots=if kM l (-1)= -1 then a.slots.set k x else(a.slots.set k x).modify (kM l (-1)).toNat λs=>{s with back:=k}:=by
  simp only[Arena.put,y5x,hnq,hk,hx]
 have hQs:(a.put n id qty top).queues=a.queues.set n ⟨vM (l++[k]) (-1),k,a.qsum l+qty,(l.length:Int)+1⟩:=by
  simp only[Arena.put,y5x,hnq,hk];rw[w64 (by omega),w64 (by omega)];congr 2;by_cases e:l=[]
  ·subst e;rfl
  ·rw[y5e (λc=>e ((pY l).1 c)),zJp];cases l with
   |nil=>exact absurd rfl e
   |cons y ys=>rfl
 have hF:(a.put n id qty top).free=a.free-1:=by
  simp only[Arena.put];rw[w64 (by omega)]
 have hset:(a.slots.set k x)[k]? =ar x:=fJ oM;have hlo:kM l (-1)= -1\/∃(y:List Nat) (j:Nat),l=y++[j]/\kM l (-1)=(j:Int):=by
  rcases wP l with e|⟨y,j,e,e2⟩
  ·exact .inl ((pY l).2 e)
  ·exact .inr ⟨y,j,e,e2 _⟩
 have hoth:∀j,j≠k->(kM l (-1)≠(j:Int))->(a.put n id qty top).slots[j]? =a.slots[j]? :=by
  intro j hj hj2;rw[hS];split
  ·exact vP (λe=>hj e.symm)
  ·rcases hlo with e|⟨y,i,_,e⟩
   ·contradiction
   ·rw[dM (by omega),vP (λe=>hj e.symm)]
 have hself:(a.put n id qty top).slots[k]? =ar x:=by
  rw[hS];split
  ·exact hset
  ·rcases hlo with e|⟨y,i,e1,e⟩
   ·contradiction
   ·have:i≠k:=by rintro rfl;exact hkl (by rw[e1];simp)
    rw[dM (by omega)];exact hset
 have hlike:∀j,j≠k->((a.put n id qty top).slotAt j).ent=(a.slotAt j).ent/\((a.put n id qty top).slotAt j).used=(a.slotAt j).used/\((a.put n id qty top).slotAt j).qty=(a.slotAt j).qty:=by
  intro j hj;by_cases c:kM l (-1)=(j:Int)
  ·have e:(a.put n id qty top).slots=(a.slots.set k x).modify j λs=>{s with back:=k}:=by
    rw[hS,y5e (by omega),c];rfl
   by_cases hjl:j<a.slots.length
   ·obtain⟨s,hs⟩:=yD hjl;have h1:(a.put n id qty top).slots[j]? =ar {s with back:=k}:=by rw[e];exact eQ (by rw[vP (λe=>hj e.symm)];exact hs)
    rw[xO h1,xO hs];exact⟨rfl,rfl,rfl⟩
   ·have h1:(a.put n id qty top).slots[j]? =au:=y6k (by rw[e];simpa using hjl);have h2:a.slots[j]? =au:=y6k oM;rw[Arena.slotAt,Arena.slotAt,y5n,y5n,h1,h2];exact⟨rfl,rfl,rfl⟩
  ·have:=hoth j hj c;rw[Arena.slotAt,Arena.slotAt,y5n,y5n,this];exact⟨rfl,rfl,rfl⟩
 have hselfA:(a.put n id qty top).slotAt k=x:=xO hself;have hent:∀j,((a.put n id qty top).slotAt j).ent=if j=k then⟨k,id,qty,top⟩else(a.slotAt j).ent:=by
  intro j;split
  ·rename_i e;rw[e,hselfA,hx];rfl
  ·rename_i e;exact(hlike j e).1
 have gQ:∀{m:Nat} {l':List Nat},(Q.set n (l++[k]))[m]? =ar l'->(m=n/\l'=l++[k])\/(m≠n/\Q[m]? =ar l'):=by
  intro m l' hm;exact c8 hm
 have hsgn:seg (a.put n id qty top).slots n (-1) (l++[k]) (-1):=by
  rw[zAd];refine⟨?_,⟨x,hself,?_⟩,trivial⟩
  ·rcases wP l with e|⟨y,j,e,e2⟩
   ·subst e;trivial
   ·have h0:=h.sg n l hl;have hnd:=h.nd n l hl;rw[hS,y5e (by rw[e2];omega),e2,y5x];rw[e]at h0 hnd hkl ⊢;have hd:=y7o.1 hnd;refine zYc (k:Int) (λhj=>hd.2.2 j hj j y5k rfl) (t:= -1) ?_;exact vE (λi hi=>vP (λe=>hkl (e▸hi))) h0
  ·rw[hx];exact⟨rfl,rfl,rfl,rfl,rfl,Z9,hq.2⟩
 refine⟨k,hk,hk2,hku,hkn,⟨⟨?_,?_,?_,?_,?_,?_,?_⟩,?_⟩,hent,hF⟩
 ·rw[hS];split<;>simp[hlen]
 ·rw[hQs];simp[h.ql]
 ·intro m l' hm;rcases gQ hm with⟨rfl,rfl⟩|⟨e,hm⟩
  ·rw[hQs,fJ (by rw[h.ql];exact hnQ),bY];have:(a.put m id qty top).qsum (l++[k])=a.qsum l+qty:=by
    rw[Arena.qsum,y5o,xBi];have e1:l.map (λk=>((a.put m id qty top).slotAt k).qty)=l.map λk=>(a.slotAt k).qty:=y6o λj hj=>(hlike j (λe=>hkl (e▸hj))).2.2
    rw[e1];simp only[y5t,y8w,y6u,List.sum_nil,hselfA];rw[hx,Arena.qsum];dsimp only;omega
   rw[this];simp[kM]
  ·rw[hQs,vP (λc=>e c.symm),h.q m l' hm,aS];intro j hj;exact(hlike j (λe=>hkn m l' hm (e▸hj))).2.2.symm
 ·intro m l' hm;rcases gQ hm with⟨rfl,rfl⟩|⟨e,hm⟩
  ·exact hsgn
  ·refine vE (λj hj=>hoth j (λe=>hkn m l' hm (e▸hj)) λc=> ?_) (h.sg m l' hm);rcases hlo with e2|⟨y,i,e1,e2⟩
   ·omega
   ·have:i=j:=by omega
    exact e (h.toWf0.one hm hl hj (by rw[e1];simp[this]))
 ·intro m l' hm;rcases gQ hm with⟨rfl,rfl⟩|⟨e,hm⟩
  ·refine y7o.2 ⟨h.nd m l hl,by simp,?_⟩;rintro i hi j hj rfl;rw[y6r.1 hj]at hi;exact hkl hi
  ·exact h.nd m l' hm
 ·intro j s hj hs;by_cases e:j=k
  ·exact⟨n,l++[k],fJ hnQ,by rw[e];simp⟩
  ·have hu:(a.slotAt j).used=av:=by rw[<- (hlike j e).2.1,xO hj];exact hs
   have hjl:j<a.slots.length:=by
    have:=(y5i.1 hj).1;rw[hS]at this;split at this<;>simpa using this
   obtain⟨s',hs'⟩:=yD hjl;rw[xO hs']at hu;obtain⟨m,l',hm,hjm⟩:=h.us j s' hs' hu;by_cases em:m=n
   ·subst em;rw[hl]at hm;cases hm;exact⟨m,l++[k],fJ hnQ,y6x _ hjm⟩
   ·exact⟨m,l',by rw[vP (λc=>em c.symm)];exact hm,hjm⟩
 ·have hmu:(a.put n id qty top).slots.map (·.used)=(a.slots.set k x).map (·.used):=by
   rw[hS];split
   ·rfl
   ·exact zAr (g:=λs:Slot=>s.used) (f:=λs:Slot=>{s with back:=k}) (λ_=>rfl) _ _
  have:=zLz (x:=x) hk1;rw[hku,y5e (by decide),show x.used=av by rw[hx],y5g rfl]at this;rw[hmu,hF,hfree];omega
 ·intro m l' hm j hj;rcases gQ hm with⟨rfl,rfl⟩|⟨e,hm⟩
  ·rcases y6j.1 hj with hj|hj
   ·rw[(hlike j (λe=>hkl (e▸hj))).2.2];exact h.pos m l hl j hj
   ·rw[y6r.1 hj,hselfA,hx];exact hq.1
  ·rw[(hlike j (λe=>hkn m l' hm (e▸hj))).2.2];exact h.pos m l' hm j hj
def zFl (a:Arena) (k:Nat) (q:Int) (j:Nat) (hk:k<a.slots.length):(a.less k q).slotAt j=if j=k then{a.slotAt j with qty:=(a.slotAt j).qty-q}else a.slotAt j:=by
 split
 ·rename_i e;subst e;obtain⟨s,hs⟩:=yD hk;rw[xO hs,xO (a:=a.less j q) (eQ hs)]
 ·rename_i e;show(a.slots.modify k _).getD j slot0=a.slots.getD j slot0;rw[y5n,dM (λc=>e c.symm),y5n]
def Arena.Wf0.less {a:Arena} {Q:List (List Nat)} (h:a.Wf0 Q) {n k:Nat} {l:List Nat} (hl:Q[n]? =ar l) (hk:k∈l) {q:Int} (hq:0<=q/\q<=(a.slotAt k).qty):(a.less k q).Wf0 Q:=by
 obtain⟨hk2,⟨p,t,hs⟩,hk1⟩:=h.mem hl hk;have hkl:k<a.slots.length:=by rw[h.len];exact hk2
 have hqt:(a.slotAt k).queue.toNat=n:=by rw[hs.queue];exact y5x n
 have hm:∀(j:Nat) (s:Slot),a.slots[j]? =ar s->∃s',(a.less k q).slots[j]? =ar s'/\s'.used=s.used/\s'.n=s.n/\s'.queue=s.queue/\s'.ahead=s.ahead/\s'.back=s.back:=by
  intro j s hj;by_cases e:k=j
  ·subst e;exact⟨_,eQ hj,rfl,rfl,rfl,rfl,rfl⟩
  ·exact⟨s,by rw[show(a.less k q).slots=a.slots.modify k _ from rfl,dM e];exact hj,rfl,rfl,rfl,rfl,rfl⟩
 have hsl:(a.less k q).slots.length=250:=by simpa[Arena.less]using h.len
 have hqs:(a.less k q).queues=a.queues.modify n λx=>{x with total:=ap.wrap (x.total-q)}:=by rw[Arena.less,hqt]
 have hmu:(a.less k q).slots.map (·.used)=a.slots.map (·.used):=zAr (g:=λs:Slot=>s.used) (f:=λs:Slot=>{s with qty:=s.qty-q}) (λ_=>rfl) _ _
 refine⟨hsl,by rw[hqs];simpa using h.ql,λm l' hm'=> ?_,λm l' hm'=> ?_,h.nd,λj s hj hu=> ?_,by rw[hmu];exact h.free⟩
 ·by_cases e:n=m
  ·subst e;rw[hl]at hm';cases hm';rw[hqs,eQ (h.q n l hl)];have hsum:=h.sum hl;have e2:(a.less k q).qsum l=a.qsum l-q:=by
    rw[Arena.qsum,Arena.qsum,z7e (k:=k) (f:=λk=>(a.slotAt k).qty) (h.nd n l hl) hk]
    ·rw[zFl a k q k hkl,y5g rfl];dsimp only;omega
    ·intro j _ hj;rw[zFl a k q j hkl,y5e hj]
   have h1:=hs.q2;rw[e2];dsimp only;rw[w64 (by omega)]
  ·rw[hqs,dM e,h.q m l' hm',aS];intro j hj;have:j≠k:=λc=>e (h.one hl hm' hk (c▸hj))
   rw[zFl a k q j hkl,y5e this]
 ·refine zMf (λj hj s hs'=> ?_) (h.sg m l' hm');obtain⟨s',q0,q1,q2,q3,q4,q5⟩:=hm j s hs';refine⟨s',q0,q1,q2,q3,q4,q5,?_⟩;have e:=xO q0;rw[<- e,zFl a k q j hkl];obtain⟨_,⟨_,_,h2⟩,h3⟩:=h.mem hm' hj;have:=h2.q1;have:=h2.q2;split
  ·rename_i c;subst c;dsimp only;omega
  ·omega
 ·have hlt:=(y5i.1 hj).1;rw[hsl,<- h.len]at hlt;obtain⟨s0,h0⟩:=yD hlt;obtain⟨s',q0,q1,_⟩:=hm j s0 h0;rw[hj]at q0;cases q0;exact h.us j s0 h0 (by rw[<- q1];exact hu)
def Arena.Wf0.drop {a:Arena} {Q:List (List Nat)} (h:a.Wf0 Q) {n k:Nat} {l1 l2:List Nat} (hl:Q[n]? =ar (l1++k::l2)) (h0:(a.slotAt k).qty=0):
 (a.dropF k).Wf0 (Q.set n (l1++l2))/\(∀j,j≠k->((a.dropF k).slotAt j).ent=(a.slotAt j).ent/\((a.dropF k).slotAt j).used=(a.slotAt j).used/\((a.dropF k).slotAt j).qty=(a.slotAt j).qty)/\(a.dropF k).slotAt k=slot0/\(a.dropF k).free=a.free+1:=by
 have hkm:k∈l1++k::l2:=by simp
 have hnQ:=(y5i.1 hl).1;obtain⟨hk2,_,hk1⟩:=h.mem hl hkm;have hlen:=h.len;have hkl:k<a.slots.length:=by omega
 have hsg:=h.sg n _ hl;have hnd:=h.nd n _ hl;have hd:=y7o.1 hnd;have hd2:=y7v.1 hd.2.1;have k1:k∉l1:=λhk=>hd.2.2 k hk k y5k rfl
 have k2:k∉l2:=hd2.1;rw[zAd]at hsg;obtain⟨g1,⟨s,hs1,hs⟩,g2⟩:=hsg;have es:=xO hs1;have eqn:(a.queues.getD s.queue.toNat mB)=⟨vM (l1++k::l2) (-1),kM (l1++k::l2) (-1),a.qsum (l1++k::l2),(l1++k::l2).length⟩:=by
  rw[hs.queue,y5x];exact zT (h.q n _ hl)
 have hfree:=h.free;have hcl:=z6m (sl:=a.slots);have hsh:=h.short hl;obtain⟨sl1,hsl1⟩:∃sl1,sl1=if kM l1 (-1)= -1 then a.slots else a.slots.modify (kM l1 (-1)).toNat λx=>{x with back:=vM l2 (-1)}:=⟨_,rfl⟩
 obtain⟨sl2,hsl2⟩:∃sl2,sl2=if vM l2 (-1)= -1 then sl1 else sl1.modify (vM l2 (-1)).toNat λx=>{x with ahead:=kM l1 (-1)}:=⟨_,rfl⟩
 have hS:(a.dropF k).slots=sl2.set k slot0:=by
  simp only[Arena.dropF,es,hs.ahead,hs.back];rw[hsl2,hsl1]
 have hQs:(a.dropF k).queues=a.queues.set n ⟨vM (l1++l2) (-1),kM (l1++l2) (-1),a.qsum (l1++l2),(l1++l2).length⟩:=by
  simp only[Arena.dropF,es,eqn,hs.ahead,hs.back];rw[hs.queue,y5x];have el:(l1++k::l2).length=(l1++l2).length+1:=by simp;omega
  have eq:a.qsum (l1++k::l2)=a.qsum (l1++l2):=by
   rw[Arena.qsum,Arena.qsum,y5o,xBi,y5o,xBi,y5t,y6u,h0];omega
  rw[el]at hsh ⊢;rw[w64 (by omega),eq];congr 2
  ·cases l1 with
   |nil=>simp[kM,zJp,vM]
   |cons y ys=>
    rw[y5e (by rw[pY];simp)];rfl
  ·rcases wP l2 with e|⟨x,j,e,e2⟩
   ·subst e;simp[vM,bY,kM]
   ·have:l2≠[]:=by rw[e];simp
    rw[y5e (λc=>this ((zRk l2).1 c)),bY,bY,kM,e2,e2]
  ·simp
 have hF:(a.dropF k).free=a.free+1:=by
  simp only[Arena.dropF];rw[w64 (by omega)]
 have hc1:kM l1 (-1)= -1\/∃(y:List Nat) (j:Nat),l1=y++[j]/\kM l1 (-1)=(j:Int):=by
  rcases wP l1 with e|⟨y,j,e,e2⟩
  ·exact .inl ((pY l1).2 e)
  ·exact .inr ⟨y,j,e,e2 _⟩
 have hc2:vM l2 (-1)= -1\/∃(y:List Nat) (j:Nat),l2=j::y/\vM l2 (-1)=(j:Int):=by
  cases l2 with
  |nil=>exact .inl rfl
  |cons j y=>exact .inr ⟨y,j,rfl,rfl⟩
 have hoth:∀j,j∉l1->j∉l2->j≠k->(a.dropF k).slots[j]? =a.slots[j]? :=by
  intro j h1 h2 h3;rw[hS,vP (λe=>h3 e.symm),hsl2];have e1:sl1[j]? =a.slots[j]? :=by
   rw[hsl1];split
   ·rfl
   ·rcases hc1 with e|⟨y,i,e,e2⟩
    ·contradiction
    ·rw[dM];rw[e2,y5x];rintro rfl;exact h1 (by rw[e];simp)
  split
  ·exact e1
  ·rcases hc2 with e|⟨y,i,e,e2⟩
   ·contradiction
   ·rw[dM,e1];rw[e2,y5x];rintro rfl;exact h2 (by rw[e];simp)
 have hlike:∀j,j≠k->((a.dropF k).slotAt j).ent=(a.slotAt j).ent/\((a.dropF k).slotAt j).used=(a.slotAt j).used/\((a.dropF k).slotAt j).qty=(a.slotAt j).qty:=by
  intro j hj;have m1:∀(sl:List Slot) (i:Nat) (b:Int),((sl.modify i λx=>{x with back:=b}).getD j slot0).ent=(sl.getD j slot0).ent/\((sl.modify i λx=>{x with back:=b}).getD j slot0).used=(sl.getD j slot0).used/\((sl.modify i λx=>{x with back:=b}).getD j slot0).qty=(sl.getD j slot0).qty:=by
   intro sl i b;rw[y5n,y5n,ae];cases sl[j]? with
   |none=>exact⟨rfl,rfl,rfl⟩
   |some s=>by_cases e:i=j<;>simp[e,Slot.ent]
  have m2:∀(sl:List Slot) (i:Nat) (b:Int),((sl.modify i λx=>{x with ahead:=b}).getD j slot0).ent=(sl.getD j slot0).ent/\((sl.modify i λx=>{x with ahead:=b}).getD j slot0).used=(sl.getD j slot0).used/\((sl.modify i λx=>{x with ahead:=b}).getD j slot0).qty=(sl.getD j slot0).qty:=by
   intro sl i b;rw[y5n,y5n,ae];cases sl[j]? with
   |none=>exact⟨rfl,rfl,rfl⟩
   |some s=>by_cases e:i=j<;>simp[e,Slot.ent]
  have e0:(a.dropF k).slotAt j=sl2.getD j slot0:=by
   rw[Arena.slotAt,hS,y5n,vP (λe=>hj e.symm),y5n]
  have e1:(sl1.getD j slot0).ent=(a.slotAt j).ent/\(sl1.getD j slot0).used=(a.slotAt j).used/\(sl1.getD j slot0).qty=(a.slotAt j).qty:=by
   rw[hsl1];split
   ·exact⟨rfl,rfl,rfl⟩
   ·exact m1 _ _ _
  have e2:(sl2.getD j slot0).ent=(sl1.getD j slot0).ent/\(sl2.getD j slot0).used=(sl1.getD j slot0).used/\(sl2.getD j slot0).qty=(sl1.getD j slot0).qty:=by
   rw[hsl2];split
   ·exact⟨rfl,rfl,rfl⟩
   ·exact m2 _ _ _
  rw[e0];exact⟨e2.1.trans e1.1,e2.2.1.trans e1.2.1,e2.2.2.trans e1.2.2⟩
 have hl1:sl1.length=250:=by rw[hsl1];split<;>simp[hlen]
 have hl2:sl2.length=250:=by rw[hsl2];split<;>simp[hl1]
 have hself:(a.dropF k).slots[k]? =ar slot0:=by rw[hS];exact fJ oM
 have hsgn:seg (a.dropF k).slots n (-1) (l1++l2) (-1):=by
  rw[hS,zAd];constructor
  ·--the part ahead
   refine vE (sl:=sl2) (λj hj=>vP (λe=>k1 (e▸hj))) ?_;have f1:seg sl1 n (-1) l1 (vM l2 (-1)):=by
    rcases wP l1 with e|⟨y,j,e,e2⟩
    ·subst e;trivial
    ·rw[hsl1,y5e (by rw[e2];omega),e2,y5x];subst e;have hd3:=y7o.1 hd.1;exact zYc _ (λhj=>hd3.2.2 j hj j y5k rfl) g1
   refine vE (λj hj=> ?_) f1;rw[hsl2];split
   ·rfl
   ·rcases hc2 with e|⟨y,i,e,e2⟩
    ·contradiction
    ·refine dM ?_;rw[e2,y5x];rintro rfl;exact hd.2.2 i hj i (y5m _ (by rw[e];simp)) rfl
  ·--the part behind
   refine vE (sl:=sl2) (λj hj=>vP (λe=>k2 (e▸hj))) ?_;have f1:seg sl1 n k l2 (-1):=by
    refine vE (λj hj=> ?_) g2;rw[hsl1];split
    ·rfl
    ·rcases hc1 with e|⟨y,i,e,e2⟩
     ·contradiction
     ·refine dM ?_;rw[e2,y5x];rintro rfl;exact hd.2.2 i (by rw[e];simp) i (y5m _ hj) rfl
   rcases hc2 with e|⟨y,j,e,e2⟩
   ·rw[(zRk l2).1 e];trivial
   ·rw[hsl2,y5e (by rw[e2];omega),e2,y5x];rw[e]at f1 hd2 ⊢;exact z9w _ (y7v.1 hd2.2).1 f1
 refine⟨⟨?_,?_,?_,?_,?_,?_,?_⟩,hlike,xO hself,hF⟩
 ·rw[hS,y6m];exact hl2
 ·rw[hQs];simp[h.ql]
 ·intro m l' hm;rcases c8 hm with⟨rfl,rfl⟩|⟨e,hm⟩
  ·rw[hQs,fJ (by rw[h.ql];exact hnQ)];congr 2;refine(aS λj hj=>(hlike j λe=> ?_).2.2).symm;subst e;rcases y6j.1 hj with hj|hj
   ·exact k1 hj
   ·exact k2 hj
  ·rw[hQs,vP (λc=>e c.symm),h.q m l' hm];congr 2;refine(aS λj hj=>(hlike j λe2=> ?_).2.2).symm;subst e2;exact e (h.one hm hl hj hkm)
 ·intro m l' hm;rcases c8 hm with⟨rfl,rfl⟩|⟨e,hm⟩
  ·exact hsgn
  ·refine vE (λj hj=>hoth j ?_ ?_ ?_) (h.sg m l' hm)
   ·exactλc=>e (h.one hm hl hj (y6x _ c))
   ·exactλc=>e (h.one hm hl hj (y7a _ (y5m _ c)))
   ·rintro rfl;exact e (h.one hm hl hj hkm)
 ·intro m l' hm;rcases c8 hm with⟨rfl,rfl⟩|⟨e,hm⟩
  ·refine y7o.2 ⟨hd.1,hd2.2,λi hi j hj=>hd.2.2 i hi j (y5m _ hj)⟩
  ·exact h.nd m l' hm
 ·intro j s' hj hu;have hjk:j≠k:=by
   rintro rfl;rw[hself]at hj;cases hj;cases hu
  have hu2:(a.slotAt j).used=av:=by rw[<- (hlike j hjk).2.1,xO hj];exact hu
  have hjl:j<a.slots.length:=by
   have:=(y5i.1 hj).1;rw[hS,y6m]at this;omega
  obtain⟨s0,hs0⟩:=yD hjl;rw[xO hs0]at hu2;obtain⟨m,l',hm,hjm⟩:=h.us j s0 hs0 hu2;by_cases em:m=n
  ·subst em;rw[hl]at hm;cases hm;refine⟨m,_,fJ hnQ,?_⟩;rcases y6j.1 hjm with hj|hj
   ·exact y6x _ hj
   ·rcases y5z.1 hj with e|hj
    ·exact absurd e hjk
    ·exact y7a _ hj
  ·exact⟨m,l',by rw[vP (λc=>em c.symm)];exact hm,hjm⟩
 ·have hmu:(a.dropF k).slots.map (·.used)=(a.slots.set k slot0).map (·.used):=by
   have e1:sl2.map (·.used)=a.slots.map (·.used):=by
    have f2:sl2.map (·.used)=sl1.map (·.used):=by
     rw[hsl2];split
     ·rfl
     ·exact zAr (g:=λs:Slot=>s.used) (f:=λs:Slot=>{s with ahead:=kM l1 (-1)}) (λ_=>rfl) _ _
    have f1:sl1.map (·.used)=a.slots.map (·.used):=by
     rw[hsl1];split
     ·rfl
     ·exact zAr (g:=λs:Slot=>s.used) (f:=λs:Slot=>{s with back:=vM l2 (-1)}) (λ_=>rfl) _ _
    rw[f2,f1]
   rw[hS,List.map_set,e1,List.map_set]
  have:=zLz (x:=slot0) hs1;rw[hs.used,y5g rfl,show slot0.used=aw from rfl,y5e (by decide)]at this;rw[hmu,hF,hfree];omega
def Arena.Wf.take {a:Arena} {Q:List (List Nat)} (h:a.Wf Q) {n k:Nat} {l:List Nat} (hl:Q[n]? =ar l) (hk:k∈l) {q:Int} (hq:1<=q/\q<=(a.slotAt k).qty):
 (a.takeF k q).2=0/\(∀j,j≠k->((a.takeF k q).1.slotAt j).ent=(a.slotAt j).ent/\((a.takeF k q).1.slotAt j).used=(a.slotAt j).used)/\
   (if(a.slotAt k).qty=q then(a.takeF k q).1.Wf (Q.set n (l.erase k))/\(a.takeF k q).1.slotAt k=slot0/\(a.takeF k q).1.free=a.free+1
    else(a.takeF k q).1.Wf Q/\(a.takeF k q).1.slotAt k={a.slotAt k with qty:=(a.slotAt k).qty-q}/\(a.takeF k q).1.free=a.free):=by
 obtain⟨hk2,⟨p,t,hs⟩,hk1⟩:=h.toWf0.mem hl hk;have hkl:k<a.slots.length:=by rw[h.len];exact hk2
 have hu:a.usedAt k=av:=by
  simp only[Arena.usedAt,y5s,y6t];refine⟨oM,oM,?_⟩;rw[y5x];exact hs.used
 have hless:=h.toWf0.less hl hk (q:=q) oM;have hat:=zFl a k q;rw[Arena.takeF,y5e (by rw[hu];decide),y5x,y5e (by omega)];by_cases e:(a.slotAt k).qty=q
 ·rw[y5g e,y5g e];obtain⟨l1,l2,rfl⟩:=List.append_of_mem hk;have hnd:=h.nd n _ hl;have hd:=y7o.1 hnd;have k1:k∉l1:=λhk=>hd.2.2 k hk k y5k rfl
  obtain⟨d1,d2,d3,d4⟩:=hless.drop hl (by rw[hat k hkl,y5g rfl];dsimp only;omega);have ee:(l1++k::l2).erase k=l1++l2:=by rw[List.erase_append_right _ k1,List.erase_cons_head]
  refine⟨rfl,λj hj=> ?_,?_,d3,d4⟩
  ·have:=d2 j hj;rw[hat j hkl,y5e hj]at this;exact⟨this.1,this.2.1⟩
  ·rw[ee];refine⟨d1,λm l' hm j hj=> ?_⟩;have hj2:j≠k/\∃l'',Q[m]? =ar l''/\j∈l'':=by
    have hd2:=y7v.1 hd.2.1;rcases c8 hm with⟨rfl,rfl⟩|⟨e3,hm⟩
    ·refine⟨?_,_,hl,?_⟩
     ·rintro rfl;rcases y6j.1 hj with hj|hj
      ·exact k1 hj
      ·exact hd2.1 hj
     ·rcases y6j.1 hj with hj|hj
      ·exact y6x _ hj
      ·exact y7a _ (y5m _ hj)
    ·refine⟨?_,_,hm,hj⟩;rintro rfl;exact e3 (h.toWf0.one hm hl hj hk)
   obtain⟨hj3,l'',hm2,hj4⟩:=hj2;have:=(d2 j hj3).2.2;rw[hat j hkl,y5e hj3]at this;dsimp only;rw[this];exact h.pos m l'' hm2 j hj4
 ·rw[y5e e,y5e e];refine⟨rfl,λj hj=> ?_,⟨hless,λm l' hm j hj=> ?_⟩,?_,rfl⟩
  ·dsimp only;rw[hat j hkl,y5e hj];exact⟨rfl,rfl⟩
  ·dsimp only;rw[hat j hkl];split
   ·rename_i c;subst c;dsimp only;omega
   ·exact h.pos m l' hm j hj
  ·dsimp only;rw[hat k hkl,y5g rfl]
def xD {α β:Type} {f g:α->List β}:∀{l:List α},(∀x∈l,f x=g x)->l.flatMap f=l.flatMap g
 |[],_=>rfl
 |x::l,h=>by rw[y6z,y6z,h x y5k,xD λy hy=>h y (y5m _ hy)]
def eF {α β γ:Type} {f:α->List β} {g:β->γ}:∀(l:List α),(l.flatMap f).map g=l.flatMap λx=>(f x).map g
 |[]=>rfl
 |x::l=>by rw[y6z,y6z,y5o,eF l]
def z2q {α β:Type} {f:α->List β}:∀{l:List α},(∀x∈l,f x≠[])->l.length<=(l.flatMap f).length
 |[],_=>y6a 0
 |x::l,h=>by
  have:=z2q (l:=l) λy hy=>h y (y5m _ hy)
  have:=List.length_pos_iff.2 (h x y5k);rw[y6z,y5d,y5j];omega
def zHu {α:Type} [DecidableEq α]:∀{l m:List α},l.Nodup->(∀x∈l,x∈m)->l.length<=m.length
 |[],_,_,_=>y6l _
 |x::l,m,h,hs=>by
  have hd:=y7v.1 h;have hx:=hs x y5k;have:=zHu (l:=l) (m:=m.erase x) hd.2 λy hy=>by
   have hne:y≠x:=by rintro rfl;exact hd.1 hy
   exact(List.mem_erase_of_ne hne).2 (hs y (y5m _ hy))
  rw[aj hx]at this;have:=List.length_pos_of_mem hx;rw[y5j];omega
def yCi {l:List Int} (h:l.Nodup) (hr:∀x∈l,0<=x/\x<l.length) {n:Nat} (hn:n<l.length):(n:Int)∈l:=by
 apply Classical.byContradiction;intro hx;have hnd:((n:Int)::l).Nodup:=y7v.2 ⟨hx,h⟩;have:=zHu (m:=(ag l.length).map λk:Nat=>(k:Int)) hnd λy hy=>by
  rw[y6q];rcases y5z.1 hy with rfl|hy
  ·exact⟨n,y8i.2 hn,rfl⟩
  ·have:=hr y hy;exact⟨y.toNat,y8i.2 oM,oM⟩
 simp at this;omega
def zLw {α β:Type} {l:List (α×β)} (h:(l.map (·.1)).Nodup) {k:α} {x y:β} (hx:(k,x)∈l) (hy:(k,y)∈l):x=y:=by
 induction l with
 |nil=>cases hx
 |cons p l ih=>
  rw[y5t,y7v]at h;rcases y5z.1 hx with ex|hx<;>rcases y5z.1 hy with ey|hy
  ·rw[<- ex]at ey;exact(Prod.mk.inj ey).2.symm
  ·exact absurd (y6i (f:=(·.1)) hy) (by rw[<- ex]at h;exact h.1)
  ·exact absurd (y6i (f:=(·.1)) hx) (by rw[<- ey]at h;exact h.1)
  ·exact ih h.2 hx hy
def lQ:∀{l:List (Int×Place)} {k:Int} {x:Place},pget l k=ar x->(k,x)∈l
 |[],k,x,h=>by cases h
 |p::l,k,x,h=>by
  rw[pget,xBh]at h;by_cases e:p.1=k
  ·rw[y5v e]at h;simp only[y7i,Option.some.injEq]at h;subst h;subst e;exact y5k
  ·rw[y5r e]at h;exact y5m _ (lQ h)
def zHk {l:List (Int×Place)} {k:Int} (h:pget l k=au):k∉l.map (·.1):=by
 intro hk;obtain⟨⟨k',x⟩,hx,rfl⟩:=y6q.1 hk;rw[pget,Option.map_eq_none_iff,List.find?_eq_none]at h;have:=h _ hx;simp at this
def zZu:∀{l:List (Int×Place)} {k:Int} {x:Place},k∉l.map (·.1)->sF k x l=l++[(k,x)]
 |[],k,x,_=>rfl
 |p::l,k,x,h=>by
  rw[y5t,y5z,not_or]at h;rw[sF,y5e h.1,zZu h.2];rfl
def xC (Q:List (List Nat)) (r:xM):List Nat:=Q.getD r.queue.toNat []
def yGl (s p:Int) (e:Ent):zI:=⟨e.id,s,p,e.qty,e.top⟩
def wX (a:Arena) (s p:Int) (k:Nat):zI:=yGl s p (a.slotAt k).ent
def Book.rOrds (b:Book) (Q:List (List Nat)) (s:Int) (r:xM):List zI:=(xC Q r).map (wX b.a s r.price)
def Book.sideL (b:Book) (Q:List (List Nat)) (s:Int):List zI:=(b.rungs s).flatMap (b.rOrds Q s)
def Book.flat (b:Book) (Q:List (List Nat)):List zI:=b.sideL Q 1++b.sideL Q 2
def vK (a:Arena) (s p:Int) (k:Nat):Int×Place:=((a.slotAt k).id,⟨s,p,k⟩)
def Book.plcs (b:Book) (Q:List (List Nat)) (s:Int):List (Int×Place):=(b.rungs s).flatMap λr=>(xC Q r).map (vK b.a s r.price)
def Book.qs (b:Book):List Int:=b.buys.map (·.queue)++b.sells.map (·.queue)++b.spare
structure Book.Core (b:Book) (Q:List (List Nat)) (hole:Int):Prop where
 wf:b.a.Wf Q
 srt:∀s,s=1\/s=2->(b.rungs s).Pairwise λr r'=>btr s r.price r'.price=av
 rng:∀q∈b.qs,0<=q/\q<Q.length
 nd:b.qs.Nodup
 ql:b.qs.length=Q.length
 ne:∀s,s=1\/s=2->∀r∈b.rungs s,r.queue≠hole->xC Q r≠[]
 sp:∀q∈b.spare,Q.getD q.toNat []=[]
 at_:b.at_.Perm (b.plcs Q 1++b.plcs Q 2)
 ids:((b.flat Q).map (·.id)).Nodup
 qb:Q.length<=250
structure Book.Tops (b:Book) (L:List zI):Prop where
 fl:∀o∈L,o.top=(b.hasF o.side && decide (o.id=b.topI o.side))
 th:∀s,s=1\/s=2->b.hasF s=av->∃o∈L,o.side=s/\o.id=b.topI s
structure Book.Rep (b:Book) (L:List zI):Prop where
 ex:∃Q,b.Core Q (-1)/\b.Tops L/\L=b.flat Q
def aQ (b:Book) (Q:List (List Nat)) (s:Int):(b.plcs Q s).map (·.1)=(b.sideL Q s).map (·.id):=by
 rw[Book.plcs,Book.sideL,eF,eF];refine xD λr _=> ?_
 rw[Book.rOrds,y7t,y7t];rfl
def Book.Core.keysP {b:Book} {Q:List (List Nat)} {h:Int} (c:b.Core Q h):(b.at_.map (·.1)).Perm ((b.flat Q).map (·.id)):=by
 have:=c.at_.map (·.1)
 rw[y5o,aQ,aQ,<- y5o]at this;exact this
def Book.Core.keys {b:Book} {Q:List (List Nat)} {h:Int} (c:b.Core Q h):(b.at_.map (·.1)).Nodup:=c.keysP.nodup_iff.2 c.ids
def Book.Core.len {b:Book} {Q:List (List Nat)} {h:Int} (c:b.Core Q h):b.at_.length=(b.flat Q).length:=by
 have:=c.keysP.length_eq;simpa using this
def Book.Core.plc {b:Book} {Q:List (List Nat)} {h:Int} (c:b.Core Q h) {s:Int} (hs:s=1\/s=2) {r:xM} (hr:r∈b.rungs s) {k:Nat} (hk:k∈xC Q r):((b.a.slotAt k).id,(⟨s,r.price,k⟩:Place))∈b.at_:=by
 refine c.at_.mem_iff.2 ?_;have hp:vK b.a s r.price k∈b.plcs Q s:=y7y.2 ⟨r,hr,y6i hk⟩;rcases hs with rfl|rfl
 ·exact y6x _ hp
 ·exact y7a _ hp
def Book.Core.plcI {b:Book} {Q:List (List Nat)} {h:Int} (c:b.Core Q h) {id:Int} {x:Place} (hx:(id,x)∈b.at_):∃(k:Nat) (r:xM),(x.side=1\/x.side=2)/\r∈b.rungs x.side/\k∈xC Q r/\x=⟨x.side,r.price,k⟩/\(b.a.slotAt k).id=id:=by
 have:=c.at_.mem_iff.1 hx;rcases y6j.1 this with hp|hp
 all_goals
  obtain⟨r,hr,hp⟩:=y7y.1 hp;obtain⟨k,hk,e⟩:=y6q.1 hp;simp only[vK,Prod.mk.injEq]at e;obtain⟨e1,rfl⟩:=e;exact⟨k,r,by simp,hr,hk,rfl,e1⟩
def zZe {Q:List (List Nat)} {r:xM} (h:0<=r.queue/\r.queue<Q.length):Q[r.queue.toNat]? =ar (xC Q r):=by
 obtain⟨l,hl⟩:=yD (l:=Q) (i:=r.queue.toNat) oM;rw[xC,zT hl,hl]
def u6 {b:Book} {s:Int} (hs:s=1\/s=2) {r:xM} (hr:r∈b.rungs s):r.queue∈b.qs:=by
 rcases hs with rfl|rfl
 ·exact y6x _ (y6x _ (y6i (f:=(·.queue)) hr))
 ·exact y6x _ (y7a _ (y6i (f:=(·.queue)) hr))
def Book.Core.get {b:Book} {Q:List (List Nat)} {h:Int} (c:b.Core Q h) {s:Int} (hs:s=1\/s=2) {r:xM} (hr:r∈b.rungs s):Q[r.queue.toNat]? =ar (xC Q r):=zZe (c.rng _ (u6 hs hr))
def clr (L:List zI) (s:Int):List zI:=L.map λo=>if o.side=s then{o with top:=aw}else o
def zBh (s x:Int):btr s x x=aw:=by
 rw[btr];split<;>exact y5r oM
def Book.Core.flag {b:Book} {Q:List (List Nat)} {h:Int} (c:b.Core Q h) {a':Arena} (hw:a'.Wf Q) (hi:∀k,(a'.slotAt k).id=(b.a.slotAt k).id):({b with a:=a'}:Book).Core Q h:=by
 have e1:∀s,({b with a:=a'}:Book).plcs Q s=b.plcs Q s:=by
  intro s;refine xD λr _=>y6o λk _=> ?_
  simp only[vK,hi]
 have e2:((({b with a:=a'}:Book).flat Q).map (·.id))=(b.flat Q).map (·.id):=by
  rw[Book.flat,Book.flat,y5o,y5o,<- aQ,<- aQ,<- aQ,<- aQ,e1,e1]
 exact⟨hw,c.srt,c.rng,c.nd,c.ql,c.ne,c.sp,by rw[e1,e1];exact c.at_,by rw[e2];exact c.ids,c.qb⟩
def yMt (a:Arena) (n:Int) (t:Bool) (k:Nat):((a.topF n t).slotAt k).id=(a.slotAt k).id:=by
 rw[zWk];split<;>rfl
def Book.Core.untop {b:Book} {Q:List (List Nat)} {h:Int} (c:b.Core Q h) (s:Int):(b.untop s).Wf Q/\∀k,((b.untop s).slotAt k).id=(b.a.slotAt k).id:=by
 rw[Book.untop]
 repeat' split
 all_goals first|exact⟨c.wf,λ_=>rfl⟩|exact⟨c.wf.top _ _,λk=>yMt _ _ _ k⟩
def Book.Core.untop_flat {b:Book} {Q:List (List Nat)} {h:Int} (c:b.Core Q h) (ht:b.Tops (b.flat Q)) {s:Int} (hs:s=1\/s=2):({b with a:=b.untop s}:Book).flat Q=clr (b.flat Q) s:=by
 have hfl:∀{s':Int} (hs':s'=1\/s'=2) {r:xM} (hr:r∈b.rungs s') {k:Nat} (hk:k∈xC Q r),(b.a.slotAt k).top=(b.hasF s' && decide ((b.a.slotAt k).id=b.topI s')):=by
  intro s' hs' r hr k hk;have hm:wX b.a s' r.price k∈b.flat Q:=by
   have:wX b.a s' r.price k∈b.sideL Q s':=y7y.2 ⟨r,hr,y6i hk⟩;rcases hs' with rfl|rfl
   ·exact y6x _ this
   ·exact y7a _ this
  exact ht.fl _ hm
 have key:∀{s':Int} (hs':s'=1\/s'=2) {r:xM} (hr:r∈b.rungs s') {k:Nat} (hk:k∈xC Q r),((b.untop s).slotAt k).ent=if s'=s then{(b.a.slotAt k).ent with top:=aw}else(b.a.slotAt k).ent:=by
  intro s' hs' r hr k hk;have hplc:=c.plc hs' hr hk;have htop:=hfl hs' hr hk;have hno:(b.a.slotAt k).top=aw->(b.a.slotAt k).ent=if s'=s then{(b.a.slotAt k).ent with top:=aw}else(b.a.slotAt k).ent:=by
   intro e;split
   ·rw[Slot.ent,e]
   ·rfl
  rw[Book.untop];by_cases hh:b.hasF s=av
  ·rw[y5g hh];cases hg:pget b.at_ (b.topI s)with
   |none=>
    dsimp only;by_cases e:s'=s
    ·subst e;refine hno ?_;rw[htop,hh,y8b];refine y5r λe2=> ?_
     rw[<- e2]at hg;exact zHk hg (y6i (f:=(·.1)) hplc)
    ·rw[y5e e]
   |some o=>
    dsimp only;obtain⟨k',r',hs2,hr2,hk2,ho,hid⟩:=c.plcI (lQ hg);by_cases es:o.side=s
    ·rw[y5g es,zWk];have hos:o.slot=(k':Int):=by rw[ho]
     by_cases ek:k=k'
     ·subst ek;have hu:b.a.usedAt o.slot=av:=by
       obtain⟨_,⟨_,_,h2⟩,h3⟩:=c.wf.toWf0.mem (c.get hs' hr) hk;have hlt:=(y5i.1 h3).1;simp only[Arena.usedAt,y5s,y6t,hos,y5x];exact⟨oM,oM,h2.used⟩
      rw[y5g ⟨hu,by rw[hos];rfl⟩];have:=c.plc hs2 hr2 hk2;have e3:=zLw c.keys hplc this;have e4:s'=s:=by
       have:=congrArg Place.side e3;dsimp only at this;rw[this,es]
      rw[y5g e4];rfl
     ·rw[y5e (λe=>ek (by have:=e.2;rw[hos]at this;simpa using this))];by_cases e:s'=s
      ·subst e;refine hno ?_;rw[htop,hh,y8b];refine y5r λe2=>ek ?_
       have hp2:=c.plc hs2 hr2 hk2;rw[hid,<- e2]at hp2;have e3:=zLw c.keys hplc hp2;have:=congrArg Place.slot e3;dsimp only at this;omega
      ·rw[y5e e]
    ·rw[y5e es];by_cases e:s'=s
     ·subst e;refine hno ?_;rw[htop,hh,y8b];refine y5r λe2=>es ?_
      have hp2:=lQ hg;rw[<- e2]at hp2;have e3:=zLw c.keys hplc hp2;rw[<- e3]
     ·rw[y5e e]
  ·rw[y5e hh];by_cases e:s'=s
   ·subst e;refine hno ?_;have:b.hasF s'=aw:=by simpa using hh
    rw[htop,this,y8p]
   ·rw[y5e e]
 have side:∀s',s'=1\/s'=2->({b with a:=b.untop s}:Book).sideL Q s'=clr (b.sideL Q s') s:=by
  intro s' hs';rw[clr,Book.sideL,Book.sideL,eF];refine xD λr hr=> ?_
  rw[Book.rOrds,Book.rOrds,y7t];refine y6o λk hk=> ?_
  simp only[wX,Function.comp,key hs' hr hk,yGl];by_cases e:s'=s
  ·rw[y5g e];exact(y5g e).symm
  ·rw[y5e e];exact(y5e e).symm
 rw[Book.flat,side 1 (.inl rfl),side 2 (.inr rfl),Book.flat,clr,clr,clr,y5o]
def before (s p:Int) (o:zI):Bool:=decide (o.side<s)||(decide (o.side=s) && !btr s p o.price)
def gN (L:List zI) (s p:Int):Bool:=L.all λo=> !decide (o.side=s)||btr s p o.price
def zUt (L:List zI) (s id p q:Int):List zI:=
 let L1:=if gN L s p=av then clr L s else L
 L1.takeWhile (before s p)++⟨id,s,p,q,gN L s p⟩::L1.dropWhile (before s p)
def yDw {α:Type} {f:α->Bool}:∀{A B:List α},(∀x∈A,f x=av)->(∀x∈B,f x=aw)->(A++B).takeWhile f=A/\(A++B).dropWhile f=B
 |[],[],_,_=>⟨rfl,rfl⟩
 |[],b::B,_,h=>by
  have:=h b y5k;simp[this]
 |a::A,B,h,h2=>by
  obtain⟨i1,i2⟩:=yDw (A:=A) (B:=B) (λx hx=>h x (y5m _ hx)) h2;have:=h a y5k;rw[y6w,List.takeWhile_cons,List.dropWhile_cons,this];simp[i1,i2]
def qI {b:Book} {Q:List (List Nat)} {s:Int} {r:xM} {o:zI} (h:o∈b.rOrds Q s r):o.side=s/\o.price=r.price:=by
 obtain⟨k,_,rfl⟩:=y6q.1 h;exact⟨rfl,rfl⟩
def aU {b:Book} {Q:List (List Nat)} {s:Int} {o:zI} (h:o∈b.sideL Q s):o.side=s/\∃r∈b.rungs s,o∈b.rOrds Q s r/\o.price=r.price:=by
 obtain⟨r,hr,ho⟩:=y7y.1 h;exact⟨(qI ho).1,r,hr,ho,(qI ho).2⟩
structure Spl (s p:Int) (R1 R2:List xM):Prop where
 a:∀r∈R1,btr s r.price p=av
 b:∀r∈R2,btr s p r.price=av
def zXz {s x y:Int} (h:btr s x y=av):btr s y x=aw:=by
 rw[btr]at h ⊢;split at h
 ·rename_i e;rw[y5g e];have:=y6d h;exact y5r oM
 ·rename_i e;rw[y5e e];have:=y6d h;exact y5r oM
def zQy {s x y z:Int} (h:btr s x y=av) (h2:btr s y z=av):btr s x z=av:=by
 rw[btr]at h h2 ⊢;split at h
 ·rename_i e;rw[y5g e]at h2 ⊢;have:=y6d h;have:=y6d h2;exact y5v oM
 ·rename_i e;rw[y5e e]at h2 ⊢;have:=y6d h;have:=y6d h2;exact y5v oM
def yBu {s x y:Int} (h:btr s x y=aw) (hne:x≠y):btr s y x=av:=by
 rw[btr]at h ⊢;split at h
 ·rename_i e;rw[y5g e];have:=y9t h;exact y5v oM
 ·rename_i e;rw[y5e e];have:=y9t h;exact y5v oM
def zCn {s p:Int} {l:List xM} (hs:l.Pairwise λr r'=>btr s r.price r'.price=av):
 (∀r∈l.take (zY s l p),btr s r.price p=av)/\
 (if kU s l p=av then ∃r,l[zY s l p]? =ar r/\r.price=p/\∀r'∈l.drop (zY s l p+1),btr s p r'.price=av
  else ∀r'∈l.drop (zY s l p),btr s p r'.price=av):=by
 have e1:l.take (zY s l p)=l.takeWhile λr=>btr s r.price p:=by
  rw[zY];have h:=xBk (l₁:=l.takeWhile λr=>btr s r.price p) (l₂:=l.dropWhile λr=>btr s r.price p);rwa [xAz]at h
 have e2:l.drop (zY s l p)=l.dropWhile λr=>btr s r.price p:=by
  have h:=y7l (zY s l p) l;have h2:=xAz (p:=λr:xM=>btr s r.price p) (l:=l);rw[e1]at h;exact List.append_cancel_left (h.trans h2.symm)
 refine⟨λr hr=> ?_,?_⟩
 ·rw[e1]at hr;exact y8k.1 List.all_takeWhile r hr
 have hd:∀r,l[zY s l p]? =ar r->btr s r.price p=aw:=by
  intro r hr;have h0:(l.drop (zY s l p))[0]? =ar r:=by rw[y7s];exact hr
  rw[e2]at h0;cases hdw:l.dropWhile λr=>btr s r.price p with
  |nil=>rw[hdw]at h0;cases h0
  |cons x y=>
   rw[hdw]at h0;cases h0;have:=List.head?_dropWhile_not (λr:xM=>btr s r.price p) l;rw[hdw]at this;simpa using this
 have hpw:∀r r',l[zY s l p]? =ar r->r'∈l.drop (zY s l p+1)->btr s r.price r'.price=av:=by
  intro r r' hr hr';have hlt:=(y5i.1 hr).1;have:=List.Pairwise.sublist (List.drop_sublist (zY s l p) l) hs;rw[y7m hlt,y8y,(y5i.1 hr).2]at this;exact this.1 r' hr'
 split
 ·rename_i hb;rw[kU]at hb;cases hr:l[zY s l p]? with
  |none=>rw[hr]at hb;cases hb
  |some r=>
   rw[hr]at hb;have hp:r.price=p:=y6d hb;exact⟨r,rfl,hp,λr' hr'=>by rw[<- hp];exact hpw r r' hr hr'⟩
 ·rename_i hb;intro r' hr';by_cases hlt:zY s l p<l.length
  ·obtain⟨r,hr⟩:=yD hlt;rw[kU,hr]at hb;have hp:¬r.price=p:=λe=>hb (y5v e)
   have h1:=yBu (hd r hr) hp;rw[y7m hlt,(y5i.1 hr).2]at hr';rcases y5z.1 hr' with rfl|hr'
   ·exact h1
   ·exact zQy h1 (hpw r r' hr hr')
  ·rw[y8m (by omega)]at hr';cases hr'
def Book.setR (b:Book) (s:Int) (l:List xM):Book:=if s=1 then{b with buys:=l}else{b with sells:=l}
def z9s {b:Book} {s:Int} (hs:s=1\/s=2):∃rest,b.qs.Perm ((b.rungs s).map (·.queue)++rest)/\∀l,(b.setR s l).qs.Perm (l.map (·.queue)++rest):=by
 rcases hs with rfl|rfl
 ·refine⟨b.sells.map (·.queue)++b.spare,?_,λl=> ?_⟩
  ·rw[Book.qs,y5l];exact .refl _
  ·show(l.map (·.queue)++b.sells.map (·.queue)++b.spare).Perm _
   rw[y5l]
 ·refine⟨b.buys.map (·.queue)++b.spare,?_,λl=> ?_⟩
  ·rw[Book.qs];show(b.buys.map (·.queue)++b.sells.map (·.queue)++b.spare).Perm (b.sells.map (·.queue)++(b.buys.map (·.queue)++b.spare))
   rw[<- y5l];exact y7j.append_right _
  ·show(b.buys.map (·.queue)++l.map (·.queue)++b.spare).Perm (l.map (·.queue)++(b.buys.map (·.queue)++b.spare))
   rw[<- y5l];exact y7j.append_right _
structure Queued (b:Book) (Q:List (List Nat)) (s p:Int) (b':Book) (n:Int) (Q':List (List Nat)) (R1 R2:List xM):Prop where
 core:b'.Core Q' n
 rungs:b'.rungs s=R1++⟨p,n⟩::R2
 spl:Spl s p R1 R2
 flat:b'.flat Q'=b.flat Q
 at_:b'.at_=b.at_
 free:b'.a.free=b.a.free
 tops:∀L,b.Tops L->b'.Tops L
 qty:∀x,b'.hasF x=b.hasF x/\b'.topI x=b.topI x
def yEl {α:Type} {l:List α} {x d:α} {n:Nat}:(l++[x]).getD n d=if n=l.length then x else l.getD n d:=by
 rw[y5n,y5n,List.getElem?_append];split
 ·rw[y5e (by omega)]
 ·rename_i h;by_cases e:n=l.length
  ·rw[y5g e,e,xAl];rfl
  ·rw[y5e e,y6k (show([x]:List α).length<=n-l.length by simp;omega),y6k (by omega)]
def Book.Core.add {b:Book} {Q:List (List Nat)} (c:b.Core Q (-1)) {s p n:Int} (hs:s=1\/s=2) {R1 R2:List xM} (hr:b.rungs s=R1++R2) (spl:Spl s p R1 R2) {b':Book} {Q':List (List Nat)}
 (hrs:b'.rungs s=R1++⟨p,n⟩::R2) (hro:∀s',s'≠s->s'=1\/s'=2->b'.rungs s'=b.rungs s') (hat:b'.at_=b.at_) (hw:b'.a.Wf Q') (hsl:b'.a.slots=b.a.slots)
 (hQ:∀k,Q'.getD k []=Q.getD k []) (hn:Q.getD n.toNat []=[]) (hrng:∀q∈b'.qs,0<=q/\q<Q'.length) (hnd:b'.qs.Nodup) (hql:b'.qs.length=Q'.length) (hsp:∀q∈b'.spare,Q.getD q.toNat []=[]) (hqb:Q'.length<=250):
 b'.Core Q' n/\b'.flat Q'=b.flat Q:=by
 have hslQ:∀r,xC Q' r=xC Q r:=λr=>hQ _
 have hsa:∀k,b'.a.slotAt k=b.a.slotAt k:=λk=>by rw[Arena.slotAt,Arena.slotAt,hsl]
 have hn':xC Q ⟨p,n⟩=[]:=hn;have hro':∀s' r,b'.rOrds Q' s' r=b.rOrds Q s' r:=by
  intro s' r;rw[Book.rOrds,Book.rOrds,hslQ];exact y6o λk _=>by rw[wX,wX,hsa]
 have hpo:∀s' (r:xM),(xC Q' r).map (vK b'.a s' r.price)=(xC Q r).map (vK b.a s' r.price):=by
  intro s' r;rw[hslQ];exact y6o λk _=>by rw[vK,vK,hsa]
 have hside:∀s',s'=1\/s'=2->b'.sideL Q' s'=b.sideL Q s':=by
  intro s' hs';rw[Book.sideL,Book.sideL];by_cases e:s'=s
  ·subst e;rw[hrs,hr,y7c,y7c,y6z,xD (λr _=>hro' s' r),xD (l:=R2) (λr _=>hro' s' r),hro',Book.rOrds,hn',y8w,y7u]
  ·rw[hro s' e hs'];exact xD λr _=>hro' s' r
 have hplc:∀s',s'=1\/s'=2->b'.plcs Q' s'=b.plcs Q s':=by
  intro s' hs';rw[Book.plcs,Book.plcs];by_cases e:s'=s
  ·subst e;rw[hrs,hr,y7c,y7c,y6z,xD (λr _=>hpo s' r),xD (l:=R2) (λr _=>hpo s' r),hpo,hn',y8w,y7u]
  ·rw[hro s' e hs'];exact xD λr _=>hpo s' r
 have hflat:b'.flat Q'=b.flat Q:=by rw[Book.flat,Book.flat,hside 1 (.inl rfl),hside 2 (.inr rfl)]
 refine⟨⟨hw,λs' hs'=> ?_,hrng,hnd,hql,λs' hs' r hr' hne=> ?_,λq hq=>by rw[hQ];exact hsp q hq,by rw[hat,hplc 1 (.inl rfl),hplc 2 (.inr rfl)];exact c.at_,by rw[hflat];exact c.ids,hqb⟩,hflat⟩
 ·by_cases e:s'=s
  ·subst e;have h0:=c.srt s' hs';rw[hr,am]at h0;rw[hrs,am,y8y];refine⟨h0.1,⟨spl.b,h0.2.1⟩,λx hx y hy=> ?_⟩;rcases y5z.1 hy with rfl|hy
   ·exact spl.a x hx
   ·exact h0.2.2 x hx y hy
  ·rw[hro s' e hs'];exact c.srt s' hs'
 ·rw[hslQ];have hold:∀r∈b.rungs s',xC Q r≠[]:=λr hr=>c.ne s' hs' r hr λe=>by
   have:=c.rng _ (u6 hs' hr);omega
  by_cases e:s'=s
  ·subst e;rw[hrs]at hr';rcases y6j.1 hr' with h|h
   ·exact hold r (by rw[hr];exact y6x _ h)
   ·rcases y5z.1 h with rfl|h
    ·exact absurd rfl hne
    ·exact hold r (by rw[hr];exact y7a _ h)
  ·rw[hro s' e hs']at hr';exact hold r hr'
def zPq (b:Book) {s:Int} (hs:s=1\/s=2) (l:List xM):(b.setR s l).rungs s=l/\∀s',s'≠s->s'=1\/s'=2->(b.setR s l).rungs s'=b.rungs s':=by
 rcases hs with rfl|rfl
 ·exact⟨rfl,λs' h h2=>by rcases h2 with rfl|rfl;exact absurd rfl h;rfl⟩
 ·exact⟨rfl,λs' h h2=>by rcases h2 with rfl|rfl;rfl;exact absurd rfl h⟩
def yAd (b:Book) {s p:Int} (hs:s=1\/s=2):b.queueF s p=if kU s (b.rungs s) p=av then(b,((b.rungs s).getD (zY s (b.rungs s) p) ⟨0,0⟩).queue)else(({b with a:=b.newQ.2.2,spare:=b.newQ.2.1}:Book).setR s (b.ins s p),b.newQ.1):=by
 rcases hs with rfl|rfl<;>rfl
def Book.Core.queue {b:Book} {Q:List (List Nat)} (c:b.Core Q (-1)) (hl:(b.flat Q).length<250) {s:Int} (hs:s=1\/s=2) (p:Int):∃Q' R1 R2,Queued b Q s p (b.queueF s p).1 (b.queueF s p).2 Q' R1 R2:=by
 have hsp:=zCn (p:=p) (c.srt s hs);rw[yAd b hs];by_cases hb:kU s (b.rungs s) p=av
 ·rw[y5g hb]at hsp ⊢;obtain⟨h1,r,hr,hp,h2⟩:=hsp;have hlt:=(y5i.1 hr).1;have er:(⟨p,r.queue⟩:xM)=r:=by rw[<- hp]
  have hsplit:b.rungs s=(b.rungs s).take (zY s (b.rungs s) p)++r::(b.rungs s).drop (zY s (b.rungs s) p+1):=by
   conv=>lhs;rw[<- y7l (zY s (b.rungs s) p) (b.rungs s)]
   rw[y7m hlt,(y5i.1 hr).2]
  refine⟨Q,_,_,⟨⟨c.wf,c.srt,c.rng,c.nd,c.ql,λs' hs' r' hr' _=>c.ne s' hs' r' hr' λe=> ?_,c.sp,c.at_,c.ids,c.qb⟩,?_,⟨h1,h2⟩,rfl,rfl,rfl,λ_ h=>h,λ_=>⟨rfl,rfl⟩⟩⟩
  ·have:=c.rng _ (u6 hs' hr');omega
  ·dsimp only;rw[zT hr,er];exact hsplit
 ·rw[y5e hb]at hsp ⊢;obtain⟨h1,h2⟩:=hsp;have hr:b.rungs s=(b.rungs s).take (zY s (b.rungs s) p)++(b.rungs s).drop (zY s (b.rungs s) p):=(y7l _ _).symm;obtain⟨g1,g2⟩:=zPq ({b with a:=b.newQ.2.2,spare:=b.newQ.2.1}:Book) hs (b.ins s p);have tops:∀x,((({b with a:=b.newQ.2.2,spare:=b.newQ.2.1}:Book).setR s (b.ins s p)).hasF x=b.hasF x/\(({b with a:=b.newQ.2.2,spare:=b.newQ.2.1}:Book).setR s (b.ins s p)).topI x=b.topI x):=by
   intro x;rcases hs with rfl|rfl<;>exact⟨rfl,rfl⟩
  have hat:(({b with a:=b.newQ.2.2,spare:=b.newQ.2.1}:Book).setR s (b.ins s p)).at_=b.at_:=by rcases hs with rfl|rfl<;>rfl
  have ha:(({b with a:=b.newQ.2.2,spare:=b.newQ.2.1}:Book).setR s (b.ins s p)).a=b.newQ.2.2:=by rcases hs with rfl|rfl<;>rfl
  have hspr:(({b with a:=b.newQ.2.2,spare:=b.newQ.2.1}:Book).setR s (b.ins s p)).spare=b.newQ.2.1:=by rcases hs with rfl|rfl<;>rfl
  obtain⟨rest,q1,q2⟩:=z9s (b:=({b with a:=b.newQ.2.2,spare:=b.newQ.2.1}:Book)) hs;have q2:=q2 (b.ins s p);have hqs:(({b with a:=b.newQ.2.2,spare:=b.newQ.2.1}:Book).setR s (b.ins s p)).qs.Perm (b.newQ.1::({b with a:=b.newQ.2.2,spare:=b.newQ.2.1}:Book).qs):=by
   refine q2.trans (.trans ?_ (q1.symm.cons _));rw[<- y6w];refine List.Perm.append_right _ ?_;show((b.ins s p).map (·.queue)).Perm (b.newQ.1::(b.rungs s).map (·.queue))
   conv=>rhs;rw[hr]
   rw[Book.ins,y5o,y5o,y5t];exact y5u
  generalize hB:(({b with a:=b.newQ.2.2,spare:=b.newQ.2.1}:Book).setR s (b.ins s p))=B at*;have fin:∀Q',B.a.Wf Q'->B.a.slots=b.a.slots->B.a.free=b.a.free->(∀k,Q'.getD k []=Q.getD k [])->Q.getD b.newQ.1.toNat []=[]->(∀q∈B.qs,0<=q/\q<Q'.length)->B.qs.Nodup->B.qs.length=Q'.length->(∀q∈B.spare,Q.getD q.toNat []=[])->Q'.length<=250->∃Q' R1 R2,Queued b Q s p B b.newQ.1 Q' R1 R2:=by
   intro Q' w1 w2 w3 w4 w5 w6 w7 w8 w9 w10;obtain⟨u1,u2⟩:=c.add hs hr ⟨h1,h2⟩ (b':=B) (Q':=Q') (n:=b.newQ.1) (by rw[g1];rfl) g2 hat w1 w2 w4 w5 w6 w7 w8 w9 w10;refine⟨Q',_,_,⟨u1,g1.trans rfl,⟨h1,h2⟩,u2,hat,w3,λL h=>⟨λo ho=> ?_,λs' hs' hh=> ?_⟩,tops⟩⟩
   ·rw[(tops o.side).1,(tops o.side).2];exact h.fl o ho
   ·rw[(tops s').1]at hh;rw[(tops s').2];exact h.th s' hs' hh
  by_cases he:b.spare.length=0
  ·have hnq:b.newQ=((b.a.queues.length:Int),b.spare,b.a.openQ):=by rw[Book.newQ,y5g he]
   have hql:=c.wf.ql;have hspe:b.spare=[]:=y6f he;have hqs':B.qs.Perm ((Q.length:Int)::b.qs):=by
    rw[hnq]at hqs;rw[<- hql];exact hqs
   refine fin (Q++[[]]) (by rw[ha,hnq];exact c.wf.open) (by rw[ha,hnq];rfl) (by rw[ha,hnq];rfl) (λk=> ?_) ?_ (λq hq=> ?_) ?_ ?_ (λq hq=> ?_) ?_
   ·rw[yEl];split
    ·rename_i e;rw[e,y5n,y6k (y6a _)];rfl
    ·rfl
   ·rw[hnq,y5n,y6k (by dsimp only;omega)];rfl
   ·rw[y5d];rcases y5z.1 (hqs'.mem_iff.1 hq)with rfl|hq
    ·simp only[y7h];omega
    ·have:=c.rng q hq;simp only[y7h];omega
   ·refine hqs'.nodup_iff.2 (y7v.2 ⟨λhm=> ?_,c.nd⟩);have:=c.rng _ hm;omega
   ·rw[hqs'.length_eq,y5j,y5d,c.ql];rfl
   ·rw[hspr,hnq]at hq;rw[hspe]at hq;cases hq
   ·have h1:=z2q (l:=b.rungs 1) (f:=b.rOrds Q 1) λr hr e=>c.ne 1 (.inl rfl) r hr (λe2=>by have:=c.rng _ (u6 (.inl rfl) hr);omega) (List.map_eq_nil_iff.1 e)
    have h2:=z2q (l:=b.rungs 2) (f:=b.rOrds Q 2) λr hr e=>c.ne 2 (.inr rfl) r hr (λe2=>by have:=c.rng _ (u6 (.inr rfl) hr);omega) (List.map_eq_nil_iff.1 e)
    have h3:=c.ql;rw[Book.flat,y5d,Book.sideL,Book.sideL]at hl;rw[Book.qs,y5d,y5d,y5f,y5f,he]at h3;rw[tE]at h1 hl;rw[sR]at h2 hl;rw[y5d,y7h];omega
  ·have hnq:b.newQ=(b.spare.getD (b.spare.length-1) 0,b.spare.take (b.spare.length-1),b.a):=by rw[Book.newQ,y5e he]
   obtain⟨sp,q,hspq⟩:∃sp q,b.spare=sp++[q]:=⟨_,_,(List.dropLast_concat_getLast (l:=b.spare) (by intro e;rw[e]at he;exact he rfl)).symm⟩
   have e1:b.newQ=(q,sp,b.a):=by
    rw[hnq,hspq];simp
   have hqs':B.qs.Perm b.qs:=by
    refine hqs.trans ?_;rw[e1];show(q::(b.buys.map (·.queue)++b.sells.map (·.queue)++sp)).Perm (b.buys.map (·.queue)++b.sells.map (·.queue)++b.spare)
    rw[hspq,<- y5l];exact y9q q _|>.symm
   have hq0:q∈b.spare:=by rw[hspq];simp
   refine fin Q (by rw[ha,e1];exact c.wf) (by rw[ha,e1]) (by rw[ha,e1]) (λ_=>rfl) (by rw[e1];exact c.sp q hq0) (λq hq=>c.rng q (hqs'.mem_iff.1 hq)) (hqs'.nodup_iff.2 c.nd) (by rw[hqs'.length_eq];exact c.ql) (λq' hq'=> ?_) c.qb;rw[hspr,e1]at hq';exact c.sp q' (by rw[hspq];exact y6x _ hq')
def Book.Core.used {b:Book} {Q:List (List Nat)} (c:b.Core Q (-1)) (hl:(b.flat Q).length<250):b.a.free≠0:=by
 intro hf;have hcn:=c.wf.free;rw[hf]at hcn;have hz:(b.a.slots.map (·.used)).countP (!·)=0:=by omega
 rw[List.countP_eq_zero]at hz;have hin:∀k∈ag 250,k∈((b.rungs 1).flatMap (xC Q)++(b.rungs 2).flatMap (xC Q)):=by
  intro k hk;have hk:=y8i.1 hk;obtain⟨s,hs⟩:=yD (l:=b.a.slots) (i:=k) (by rw[c.wf.len];exact hk);have hu:s.used=av:=by
   have:=hz s.used (y6i (y5p hs));simpa using this
  obtain⟨n,l,hn,hkl⟩:=c.wf.us k s hs hu;have hnQ:=(y5i.1 hn).1;have hm:(n:Int)∈b.qs:=yCi c.nd (λx hx=>by rw[c.ql];exact c.rng x hx) (by rw[c.ql];exact hnQ);have e:∀r:xM,r.queue=(n:Int)->k∈xC Q r:=by
   intro r hr;rw[xC,hr,y5x,zT hn];exact hkl
  rw[Book.qs]at hm;rcases y6j.1 hm with hm|hm
  ·rcases y6j.1 hm with hm|hm
   ·obtain⟨r,hr,er⟩:=y6q.1 hm;exact y6x _ (y7y.2 ⟨r,hr,e r er⟩)
   ·obtain⟨r,hr,er⟩:=y6q.1 hm;exact y7a _ (y7y.2 ⟨r,hr,e r er⟩)
  ·have:=c.sp _ hm;rw[y5x,zT hn]at this;rw[this]at hkl;cases hkl
 have h1:=zHu List.nodup_range hin;have e:∀s,(b.sideL Q s).length=((b.rungs s).flatMap (xC Q)).length:=by
  intro s;rw[Book.sideL,xAf,xAf];congr 1;exact y6o λr _=>by rw[Book.rOrds,y5f]
 rw[y5d,<- e,<- e,List.length_range]at h1;rw[Book.flat,y5d]at hl;omega
def zWf {s p:Int} {o:zI} (h:o.side≠s) (hlt:o.side=1\/o.side=2) (hs:s=1\/s=2):before s p o=decide (s=2):=by
 rw[before,y5r h,y8p,Bool.or_false];rcases hs with rfl|rfl
 ·rw[y5r (by omega),y5r (by omega)]
 ·rw[y5v (by omega),y5v rfl]
def Queued.put {b:Book} {Q:List (List Nat)} {s p:Int} {b':Book} {n:Int} {Q':List (List Nat)} {R1 R2:List xM} (h:Queued b Q s p b' n Q' R1 R2) (hs:s=1\/s=2) {id qty:Int} (top:Bool) (hid:id∉(b.flat Q).map (·.id)) (hf:b.a.free≠0) (hq:1<=qty/\qty<=1000000):
 ∃Q3 A B,({b' with a:=(b'.a.push n id qty top).1,at_:=sF id ⟨s,p,(b'.a.push n id qty top).2.1⟩ b'.at_}:Book).Core Q3 (-1)/\b'.flat Q'=A++B/\
  ({b' with a:=(b'.a.push n id qty top).1,at_:=sF id ⟨s,p,(b'.a.push n id qty top).2.1⟩ b'.at_}:Book).flat Q3=A++⟨id,s,p,qty,top⟩::B/\(∀o∈A,before s p o=av)/\∀o∈B,before s p o=aw:=by
 have c:=h.core;have hrm:(⟨p,n⟩:xM)∈b'.rungs s:=by rw[h.rungs];simp
 have hnr:0<=n/\n<Q'.length:=c.rng n (u6 hs hrm);obtain⟨m,rfl⟩:∃m:Nat,n=m:=⟨n.toNat,oM⟩
 have hl:Q'[m]? =ar (xC Q' ⟨p,m⟩):=zZe (r:=⟨p,m⟩) hnr;obtain⟨k,k1,k2,k3,k4,kw,kent,kfree⟩:=c.wf.put (id:=id) hl (by rw[h.free];exact hf) top hq;have hpush:b'.a.push m id qty top=(b'.a.put m id qty top,(k:Int),0):=by
  have:=c.wf.ql;rw[Arena.push,y5e (by omega),y5e (by omega),y5e (by rw[h.free];exact hf),k1]
 rw[hpush];dsimp only;have hmQ:=(y5i.1 hl).1;have hqd:∀s' (r:xM),(s'=1\/s'=2)->r∈b'.rungs s'->(r.queue=m->s'=s/\r=⟨p,m⟩):=by
  intro s' r hs' hr e;obtain⟨rest,q1,_⟩:=z9s (b:=b') hs;have hnd:=q1.nodup_iff.1 c.nd;rw[h.rungs,y5o,y5t]at hnd;by_cases es:s'=s
  ·subst es;refine⟨rfl,?_⟩;rw[h.rungs]at hr;have hnd2:=(y7o.1 hnd).1;rcases y6j.1 hr with hr|hr
   ·exact absurd e ((y7o.1 hnd2).2.2 r.queue (y6i (f:=(·.queue)) hr) m y5k)
   ·rcases y5z.1 hr with rfl|hr
    ·rfl
    ·have:=(y7v.1 (y7o.1 hnd2).2.1).1;exact absurd (e▸y6i (f:=(·.queue)) hr) this
  ·exfalso;have hcn:=c.nd;rw[Book.qs]at hcn;have hcn2:=(y7o.1 (y7o.1 hcn).1).2.2;have ha:(m:Int)∈(b'.rungs s).map (·.queue):=y6q.2 ⟨_,hrm,rfl⟩
   have hb:(m:Int)∈(b'.rungs s').map (·.queue):=y6q.2 ⟨r,hr,e⟩
   rcases hs with rfl|rfl<;>rcases hs' with rfl|rfl
   ·exact es rfl
   ·exact hcn2 _ ha _ hb rfl
   ·exact hcn2 _ hb _ ha rfl
   ·exact es rfl
 have hsl1:xC (Q'.set m (xC Q' ⟨p,m⟩++[k])) ⟨p,m⟩=xC Q' ⟨p,m⟩++[k]:=by
  show(Q'.set m _).getD (Int.toNat (m:Int)) []=_;rw[y5x];exact zT (fJ hmQ)
 have hsl2:∀q:Int,0<=q->q≠m->(Q'.set m (xC Q' ⟨p,m⟩++[k])).getD q.toNat []=Q'.getD q.toNat []:=by
  intro q h0 hne;rw[y5n,vP (by omega),y5n]
 generalize hQ3:Q'.set m (xC Q' ⟨p,m⟩++[k])=Q3 at*;have hQl:Q3.length=Q'.length:=by rw[<- hQ3,y6m]
 have hpid:=aQ;have hord:∀s' (r:xM),(s'=1\/s'=2)->r∈b'.rungs s'->∀j∈xC Q' r,j≠k/\(wX (b'.a.put m id qty top) s' r.price j=wX b'.a s' r.price j/\vK (b'.a.put m id qty top) s' r.price j=vK b'.a s' r.price j):=by
  intro s' r hs' hr j hj;have hjk:j≠k:=by rintro rfl;exact k4 _ _ (c.get hs' hr) hj
  have:=kent j;rw[y5e hjk]at this;refine⟨hjk,by rw[wX,wX,this],?_⟩;have:=congrArg Ent.id this;rw[vK,vK];exact congrArg (λi=>(i,(⟨s',r.price,j⟩:Place))) this
 have hr0:∀s' (r:xM),(s'=1\/s'=2)->r∈b'.rungs s'->r.queue≠m->xC Q3 r=xC Q' r:=by
  intro s' r hs' hr hne;exact hsl2 _ (c.rng _ (u6 hs' hr)).1 hne
 generalize hB:({b' with a:=b'.a.put m id qty top,at_:=sF id ⟨s,p,k⟩ b'.at_}:Book)=B3;have hBr:∀s',B3.rungs s'=b'.rungs s':=by intro s';rw[<- hB];rfl
 have hBa:B3.a=b'.a.put m id qty top:=by rw[<- hB]
 have hBat:B3.at_=sF id ⟨s,p,k⟩ b'.at_:=by rw[<- hB]
 have hBqs:B3.qs=b'.qs:=by rw[<- hB];rfl
 have hBsp:B3.spare=b'.spare:=by rw[<- hB]
 have hro:∀s' (r:xM),(s'=1\/s'=2)->r∈b'.rungs s'->r.queue≠m->B3.rOrds Q3 s' r=b'.rOrds Q' s' r/\(xC Q3 r).map (vK B3.a s' r.price)=(xC Q' r).map (vK b'.a s' r.price):=by
  intro s' r hs' hr hne;rw[Book.rOrds,Book.rOrds,hr0 s' r hs' hr hne,hBa];exact⟨y6o λj hj=>(hord s' r hs' hr j hj).2.1,y6o λj hj=>(hord s' r hs' hr j hj).2.2⟩
 have hnew:wX B3.a s p k=⟨id,s,p,qty,top⟩/\vK B3.a s p k=(id,⟨s,p,k⟩):=by
  have:=kent k;rw[y5g rfl]at this;rw[wX,hBa,this];refine⟨rfl,?_⟩;have:=congrArg Ent.id this;rw[vK];exact congrArg (λi=>(i,(⟨s,p,k⟩:Place))) this
 have hroN:B3.rOrds Q3 s ⟨p,m⟩=b'.rOrds Q' s ⟨p,m⟩++[⟨id,s,p,qty,top⟩]/\(xC Q3 ⟨p,m⟩).map (vK B3.a s p)=(xC Q' ⟨p,m⟩).map (vK b'.a s p)++[(id,⟨s,p,k⟩)]:=by
  rw[Book.rOrds,Book.rOrds,hsl1,y5o,y5o,ao,ao];refine⟨?_,?_⟩
  ·rw[hnew.1,y6o (g:=wX b'.a s p) λj hj=>by rw[hBa];exact(hord s ⟨p,m⟩ hs hrm j hj).2.1]
  ·rw[hnew.2,y6o (g:=vK b'.a s p) λj hj=>by rw[hBa];exact(hord s ⟨p,m⟩ hs hrm j hj).2.2]
 have hR1:∀r∈R1,r∈b'.rungs s/\r.queue≠m:=by
  intro r hr;have hm:r∈b'.rungs s:=by rw[h.rungs];exact y6x _ hr
  refine⟨hm,λe=> ?_⟩;have e2:=(hqd s r hs hm e).2;have:=h.spl.a r hr;rw[e2,zBh]at this;cases this
 have hR2:∀r∈R2,r∈b'.rungs s/\r.queue≠m:=by
  intro r hr;have hm:r∈b'.rungs s:=by rw[h.rungs];exact y7a _ (y5m _ hr)
  refine⟨hm,λe=> ?_⟩;have e2:=(hqd s r hs hm e).2;have:=h.spl.b r hr;rw[e2,zBh]at this;cases this
 have zC:B3.sideL Q3 s=(R1.flatMap (b'.rOrds Q' s)++b'.rOrds Q' s ⟨p,m⟩)++⟨id,s,p,qty,top⟩::R2.flatMap (b'.rOrds Q' s):=by
  rw[Book.sideL,hBr,h.rungs,y7c,y6z,hroN.1,xD (l:=R1) (λr hr=>(hro s r hs (hR1 r hr).1 (hR1 r hr).2).1),xD (l:=R2) (λr hr=>(hro s r hs (hR2 r hr).1 (hR2 r hr).2).1)];simp
 have sideO:b'.sideL Q' s=(R1.flatMap (b'.rOrds Q' s)++b'.rOrds Q' s ⟨p,m⟩)++R2.flatMap (b'.rOrds Q' s):=by
  rw[Book.sideL,h.rungs,y7c,y6z,y5l]
 have plcN:(B3.plcs Q3 s).Perm ((id,⟨s,p,k⟩)::b'.plcs Q' s):=by
  rw[Book.plcs,hBr,h.rungs,y7c,y6z,hroN.2,xD (l:=R1) (λr hr=>(hro s r hs (hR1 r hr).1 (hR1 r hr).2).2),xD (l:=R2) (λr hr=>(hro s r hs (hR2 r hr).1 (hR2 r hr).2).2),Book.plcs,h.rungs,y7c,y6z];rw[y5l,List.singleton_append,<- y5l];refine y5u.trans ?_;rw[y5l]
 have other:∀s',s'≠s->s'=1\/s'=2->B3.sideL Q3 s'=b'.sideL Q' s'/\B3.plcs Q3 s'=b'.plcs Q' s':=by
  intro s' hne hs';have hne':∀r∈b'.rungs s',r.queue≠m:=λr hr e=>hne (hqd s' r hs' hr e).1
  rw[Book.sideL,Book.sideL,Book.plcs,Book.plcs,hBr];exact⟨xD λr hr=>(hro s' r hs' hr (hne' r hr)).1,xD λr hr=>(hro s' r hs' hr (hne' r hr)).2⟩
 have bA:∀o∈R1.flatMap (b'.rOrds Q' s)++b'.rOrds Q' s ⟨p,m⟩,before s p o=av:=by
  intro o ho;rcases y6j.1 ho with ho|ho
  ·obtain⟨r,hr,ho⟩:=y7y.1 ho;obtain⟨e1,e2⟩:=qI ho;rw[before,e1,e2,zXz (h.spl.a r hr)];simp
  ·obtain⟨e1,e2⟩:=qI ho;rw[before,e1,e2,zBh];simp
 have bB:∀o∈R2.flatMap (b'.rOrds Q' s),before s p o=aw:=by
  intro o ho;obtain⟨r,hr,ho⟩:=y7y.1 ho;obtain⟨e1,e2⟩:=qI ho;rw[before,e1,e2,h.spl.b r hr];simp
 have bO:∀s',s'≠s->s'=1\/s'=2->∀o∈b'.sideL Q' s',before s p o=decide (s=2):=by
  intro s' hne hs' o ho;have:=(aU ho).1;exact zWf oM oM hs
 have flatE:∃A B,b'.flat Q'=A++B/\B3.flat Q3=A++⟨id,s,p,qty,top⟩::B/\(∀o∈A,before s p o=av)/\∀o∈B,before s p o=aw:=by
  rcases hs with rfl|rfl
  ·refine⟨_,R2.flatMap (b'.rOrds Q' 1)++b'.sideL Q' 2,?_,?_,bA,λo ho=> ?_⟩
   ·rw[Book.flat,sideO];simp only[y5l]
   ·rw[Book.flat,zC,(other 2 (by decide) (.inr rfl)).1];simp only[y5l,y6w]
   ·rcases y6j.1 ho with ho|ho
    ·exact bB o ho
    ·exact bO 2 Z8 (.inr rfl) o ho
  ·refine⟨b'.sideL Q' 1++(R1.flatMap (b'.rOrds Q' 2)++b'.rOrds Q' 2 ⟨p,m⟩),R2.flatMap (b'.rOrds Q' 2),?_,?_,λo ho=> ?_,bB⟩
   ·rw[Book.flat,sideO];simp only[y5l]
   ·rw[Book.flat,zC,(other 1 (by decide) (.inl rfl)).1];simp only[y5l]
   ·rcases y6j.1 ho with ho|ho
    ·exact bO 1 Z8 (.inl rfl) o ho
    ·exact bA o ho
 obtain⟨A,B,f1,f2,f3,f4⟩:=flatE;refine⟨Q3,A,B,⟨by rw[hBa];exact kw,λs' hs'=>by rw[hBr];exact c.srt s' hs',by rw[hBqs,hQl];exact c.rng,by rw[hBqs];exact c.nd,by rw[hBqs,hQl];exact c.ql,λs' hs' r hr _=> ?_,λq hq=> ?_,?_,?_,by rw[hQl];exact c.qb⟩,f1,f2,f3,f4⟩
 ·rw[hBr]at hr;by_cases e:r.queue=m
  ·obtain⟨rfl,rfl⟩:=hqd s' r hs' hr e;rw[hsl1];simp
  ·rw[hr0 s' r hs' hr e];exact c.ne s' hs' r hr e
 ·rw[hBsp]at hq;have hqq:q∈b'.qs:=y7a _ hq;rw[hsl2 q (c.rng q hqq).1 λe=> ?_]
  ·exact c.sp q hq
  ·have hcn:=c.nd;rw[Book.qs]at hcn;refine(y7o.1 hcn).2.2 m ?_ q hq e.symm;rcases hs with rfl|rfl
   ·exact y6x _ (y6q.2 ⟨_,hrm,rfl⟩)
   ·exact y7a _ (y6q.2 ⟨_,hrm,rfl⟩)
 ·have hnk:id∉b'.at_.map (·.1):=by
   rw[c.keysP.mem_iff,h.flat];exact hid
  rw[hBat,zZu hnk];refine(y9q _ _).trans ?_;rcases hs with rfl|rfl
  ·rw[(other 2 (by decide) (.inr rfl)).2];exact(c.at_.cons _).trans (plcN.symm.append_right _)
  ·rw[(other 1 (by decide) (.inl rfl)).2];refine(c.at_.cons _).trans ?_;refine(y5u.symm).trans (plcN.symm.append_left _)
 ·rw[f2,y5o,y5t];have h1:=c.ids;rw[f1,y5o]at h1;have h2:id∉(A++B).map (·.id):=by rw[<- f1,h.flat];exact hid
  refine y5u.nodup_iff.2 (y7v.2 ⟨by rw[y5o]at h2;exact h2,h1⟩)
def wO (L:List zI) (id:Int):Bool:=L.any λo=>decide (o.id=id)
def zKw (L:List zI) (s id p q:Int):List zI×Int:=if q<1\/1000000<q then(L,24)else if wO L id=av then(L,25)else if 250<=L.length then(L,13)else(zUt L s id p q,0)
def hasId_iff {L:List zI} {id:Int}:wO L id=av↔id∈L.map (·.id):=by
 rw[wO,List.any_eq_true,y6q];constructor
 ·rintro⟨o,ho,e⟩;exact⟨o,ho,y6d e⟩
 ·rintro⟨o,ho,e⟩;exact⟨o,ho,y5v e⟩
def nG {b:Book} {Q:List (List Nat)} {o:zI} (h:o∈b.flat Q):(o.side=1\/o.side=2)/\∃r∈b.rungs o.side,o∈b.rOrds Q o.side r/\o.price=r.price:=by
 rcases y6j.1 h with h|h
 all_goals
  obtain⟨e,r,hr,ho,hp⟩:=aU h;rw[e];exact⟨by simp,r,hr,ho,hp⟩
def flat_mem {b:Book} {Q:List (List Nat)} {s:Int} (hs:s=1\/s=2) {o:zI} (h:o∈b.sideL Q s):o∈b.flat Q:=by
 rcases hs with rfl|rfl
 ·exact y6x _ h
 ·exact y7a _ h
def Book.Core.leads {b:Book} {Q:List (List Nat)} (c:b.Core Q (-1)) {s:Int} (hs:s=1\/s=2) (p:Int):b.leads s p=gN (b.flat Q) s p:=by
 have hsrt:=c.srt s hs;have hne:=c.ne s hs;rw[Book.leads];cases hr:b.rungs s with
 |nil=>
  symm;dsimp only;rw[gN,y8k];intro o ho;obtain⟨_,r,hr2,_⟩:=nG ho;by_cases e:o.side=s
  ·rw[e,hr]at hr2;cases hr2
  ·rw[y5r e];rfl
 |cons r0 l=>
  dsimp only;rw[hr,y8y]at hsrt;have hm:r0∈b.rungs s:=by rw[hr];exact y5k
  cases hb:btr s p r0.price with
  |true=>
   symm;rw[gN,y8k];intro o ho;obtain⟨_,r,hr2,_,hp⟩:=nG ho;by_cases e:o.side=s
   ·rw[e,hr]at hr2;rw[hp];rcases y5z.1 hr2 with rfl|hr2
    ·rw[hb];simp
    ·rw[zQy hb (hsrt.1 r hr2)];simp
   ·rw[y5r e];rfl
  |false=>
   symm;rw[gN,List.all_eq_false];have h0:=hne r0 hm λe=>by have:=c.rng _ (u6 hs hm);omega
   cases hk:xC Q r0 with
   |nil=>exact absurd hk h0
   |cons k ks=>
    refine⟨wX b.a s r0.price k,flat_mem hs (y7y.2 ⟨r0,hm,by rw[Book.rOrds,hk];exact y5k⟩),?_⟩;show ¬((!decide (s=s))||btr s p r0.price)=av;rw[hb];simp
def z6k {L:List zI} {s:Int} {o:zI} (h:o∈clr L s):∃o'∈L,o.id=o'.id/\o.side=o'.side/\o.price=o'.price/\o.qty=o'.qty/\o.top=(if o.side=s then aw else o'.top):=by
 obtain⟨o',ho,e⟩:=y6q.1 h;refine⟨o',ho,?_⟩;by_cases c:o'.side=s
 ·rw[y5g c]at e;subst e;exact(rF4 ((y5g c).symm))
 ·rw[y5e c]at e;subst e;exact(rF4 ((y5e c).symm))
def yPh {L:List zI} {s:Int} {o:zI} (h:o∈L) (hs:o.side≠s):o∈clr L s:=y6q.2 ⟨o,h,y5e hs⟩
def z6i (L:List zI) (s:Int):(clr L s).map (·.id)=L.map (·.id):=by
 rw[clr,y7t];refine y6o λo _=> ?_
 simp only[Function.comp];split<;>rfl
def z1d (b:Book) (id:Int) {s:Int} (hs:s=1\/s=2):(b.leadF id s).a=b.untop s/\(b.leadF id s).buys=b.buys/\(b.leadF id s).sells=b.sells/\(b.leadF id s).at_=b.at_/\(b.leadF id s).spare=b.spare/\∀s',s'=1\/s'=2->(b.leadF id s).hasF s'=(if s'=s then av else b.hasF s')/\(b.leadF id s).topI s'=(if s'=s then id else b.topI s'):=by
 rcases hs with rfl|rfl
 ·exact(rF5 (λs' h=>by rcases h with rfl|rfl<;>exact⟨rfl,rfl⟩))
 ·exact(rF5 (λs' h=>by rcases h with rfl|rfl<;>exact⟨rfl,rfl⟩))
def Book.Core.like {b b':Book} {Q:List (List Nat)} {h:Int} (c:b.Core Q h) (e1:b'.a=b.a) (e2:b'.buys=b.buys) (e3:b'.sells=b.sells) (e4:b'.at_=b.at_) (e5:b'.spare=b.spare):b'.Core Q h/\b'.flat Q=b.flat Q:=by
 have er:∀s,b'.rungs s=b.rungs s:=λs=>by rw[Book.rungs,Book.rungs,e2,e3]
 have eo:∀s r,b'.rOrds Q s r=b.rOrds Q s r:=λs r=>by rw[Book.rOrds,Book.rOrds,e1]
 have es:∀s,b'.sideL Q s=b.sideL Q s:=λs=>by rw[Book.sideL,Book.sideL,er];exact xD λr _=>eo s r
 have ep:∀s,b'.plcs Q s=b.plcs Q s:=λs=>by rw[Book.plcs,Book.plcs,er,e1]
 have ef:b'.flat Q=b.flat Q:=by rw[Book.flat,Book.flat,es,es]
 have eq:b'.qs=b.qs:=by rw[Book.qs,Book.qs,e2,e3,e5]
 exact⟨⟨by rw[e1];exact c.wf,λs hs=>by rw[er];exact c.srt s hs,by rw[eq];exact c.rng,by rw[eq];exact c.nd,by rw[eq];exact c.ql,λs hs=>by rw[er];exact c.ne s hs,by rw[e5];exact c.sp,by rw[e4,ep,ep];exact c.at_,by rw[ef];exact c.ids,c.qb⟩,ef⟩
def Book.Rep.stand {b:Book} {L:List zI} (h:b.Rep L) {s:Int} (hs:s=1\/s=2) {id p q:Int} (hid:id∉L.map (·.id)) (hl:L.length<250) (hq:1<=q/\q<=1000000):(b.stand s id p q).Rep (zUt L s id p q):=by
 obtain⟨Q,c,ht,rfl⟩:=h;have hld:=c.leads hs p;have h1:(b.led id s p).Core Q (-1)/\(b.led id s p).flat Q=(if gN (b.flat Q) s p=av then clr (b.flat Q) s else b.flat Q):=by
  rw[Book.led,hld];split
  ·obtain⟨e1,e2,e3,e4,e5,_⟩:=z1d b id hs;obtain⟨u1,u2⟩:=c.untop s;obtain⟨v1,v2⟩:=Book.Core.like (b':=b.leadF id s) (c.flag u1 u2) e1 e2 e3 e4 e5;exact⟨v1,v2.trans (c.untop_flat ht hs)⟩
  ·exact⟨c,rfl⟩
 obtain⟨c1,f1⟩:=h1;have hlen1:((b.led id s p).flat Q).length<250:=by
  rw[f1];split
  ·rw[clr,y5f];exact hl
  ·exact hl
 have hid1:id∉((b.led id s p).flat Q).map (·.id):=by
  rw[f1];split
  ·rw[z6i];exact hid
  ·exact hid
 obtain⟨Q',R1,R2,hqd⟩:=c1.queue hlen1 hs p;obtain⟨Q3,A,B,k1,k2,k3,k4,k5⟩:=hqd.put hs (b.leads s p) hid1 (c1.used hlen1) hq;have hAB:A++B=(if gN (b.flat Q) s p=av then clr (b.flat Q) s else b.flat Q):=by rw[<- k2,hqd.flat,f1]
 have hins:zUt (b.flat Q) s id p q=A++⟨id,s,p,q,b.leads s p⟩::B:=by
  rw[zUt];obtain⟨t1,t2⟩:=yDw k4 k5;rw[<- hAB,t1,t2,hld]
 refine⟨Q3,k1,?_,?_⟩
 ·rw[hins,hld];show Book.Tops {((b.led id s p).queueF s p).1 with a:=_,at_:=_} _;have hto:∀x,({((b.led id s p).queueF s p).1 with a:=(((b.led id s p).queueF s p).1.a.push ((b.led id s p).queueF s p).2 id q (b.leads s p)).1,at_:=sF id ⟨s,p,(((b.led id s p).queueF s p).1.a.push ((b.led id s p).queueF s p).2 id q (b.leads s p)).2.1⟩ ((b.led id s p).queueF s p).1.at_}:Book).hasF x=(b.led id s p).hasF x/\({((b.led id s p).queueF s p).1 with a:=(((b.led id s p).queueF s p).1.a.push ((b.led id s p).queueF s p).2 id q (b.leads s p)).1,at_:=sF id ⟨s,p,(((b.led id s p).queueF s p).1.a.push ((b.led id s p).queueF s p).2 id q (b.leads s p)).2.1⟩ ((b.led id s p).queueF s p).1.at_}:Book).topI x=(b.led id s p).topI x:=hqd.qty;generalize ({((b.led id s p).queueF s p).1 with a:=(((b.led id s p).queueF s p).1.a.push ((b.led id s p).queueF s p).2 id q (b.leads s p)).1,at_:=sF id ⟨s,p,(((b.led id s p).queueF s p).1.a.push ((b.led id s p).queueF s p).2 id q (b.leads s p)).2.1⟩ ((b.led id s p).queueF s p).1.at_}:Book)=B3 at*;have mAB:∀o,o∈A++⟨id,s,p,q,gN (b.flat Q) s p⟩::B↔o=⟨id,s,p,q,gN (b.flat Q) s p⟩\/o∈A++B:=by
   intro o;rw[y6j,y5z,y6j];constructor
   ·rintro(h|h|h)
    ·exact .inr (.inl h)
    ·exact .inl h
    ·exact .inr (.inr h)
   ·rintro(h|h|h)
    ·exact .inr (.inl h)
    ·exact .inl h
    ·exact .inr (.inr h)
  have hsd:∀o∈b.flat Q,o.side=1\/o.side=2:=λo ho=>(nG ho).1
  by_cases hlead:gN (b.flat Q) s p=av
  ·rw[y5g hlead]at hAB;have hb1:b.led id s p=b.leadF id s:=by rw[Book.led,y5g (hld.trans hlead)]
   obtain⟨_,_,_,_,_,e6⟩:=z1d b id hs;rw[hb1]at hto;refine⟨λo ho=> ?_,λs' hs' hh=> ?_⟩
   ·rcases(mAB o).1 ho with rfl|ho
    ·rw[(hto s).1,(hto s).2,(e6 s hs).1,(e6 s hs).2,y5g rfl,y5g rfl,hlead];simp
    ·rw[hAB]at ho;obtain⟨o',ho',i1,i2,_,_,i5⟩:=z6k ho;rw[(hto _).1,(hto _).2,i5,(e6 o.side (by rw[i2];exact hsd o' ho')).1,(e6 o.side (by rw[i2];exact hsd o' ho')).2];by_cases e:o.side=s
     ·rw[y5g e,y5g e,y5g e,y8b];symm;refine y5r λe2=>hid ?_
      rw[<- e2,i1];exact y6i ho'
     ·rw[y5e e,y5e e,y5e e,ht.fl o' ho',i1,i2]
   ·rw[(hto s').2,(e6 s' hs').2];by_cases e:s'=s
    ·rw[y5g e];exact⟨_,(mAB _).2 (.inl rfl),e.symm,rfl⟩
    ·rw[(hto s').1,(e6 s' hs').1,y5e e]at hh;rw[y5e e];obtain⟨o,ho,o1,o2⟩:=ht.th s' hs' hh;exact⟨o,(mAB _).2 (.inr (by rw[hAB];exact yPh ho (by rw[o1];exact e))),o1,o2⟩
  ·rw[y5e hlead]at hAB;have hlf:gN (b.flat Q) s p=aw:=by simpa using hlead
   have hb1:b.led id s p=b:=by rw[Book.led,y5e (by rw[hld];exact hlead)]
   rw[hb1]at hto;refine⟨λo ho=> ?_,λs' hs' hh=> ?_⟩
   ·rw[(hto _).1,(hto _).2];rcases(mAB o).1 ho with rfl|ho
    ·show gN (b.flat Q) s p=(b.hasF s && decide (id=b.topI s));rw[hlf];cases hh:b.hasF s with
     |false=>rfl
     |true=>
      rw[y8b];symm;refine y5r λe2=>hid ?_
      obtain⟨o,ho,_,o2⟩:=ht.th s hs hh;rw[e2,<- o2];exact y6i ho
    ·rw[hAB]at ho;exact ht.fl o ho
   ·rw[(hto s').1]at hh;rw[(hto s').2];obtain⟨o,ho,o1,o2⟩:=ht.th s' hs' hh;exact⟨o,(mAB _).2 (.inr (by rw[hAB];exact ho)),o1,o2⟩
 ·rw[hins];exact k3.symm
def Book.Rep.pget {b:Book} {L:List zI} (h:b.Rep L) (id:Int):(pget b.at_ id).isSome=wO L id:=by
 obtain⟨Q,c,ht,rfl⟩:=h;cases hg:Sx.pget b.at_ id with
 |none=>
  have:=zHk hg;rw[c.keysP.mem_iff,<- hasId_iff]at this;symm;simpa using this
 |some x=>
  have:=y6i (f:=(·.1)) (lQ hg)
  rw[c.keysP.mem_iff,<- hasId_iff]at this;symm;exact this
def Book.Rep.len {b:Book} {L:List zI} (h:b.Rep L):b.at_.length=L.length:=by
 obtain⟨Q,c,ht,rfl⟩:=h;exact c.len
def Book.Rep.add {b:Book} {L:List zI} (h:b.Rep L) {s:Int} (hs:s=1\/s=2) (id p q:Int):(b.addF s id p q).1.Rep (zKw L s id p q).1/\(b.addF s id p q).2=(zKw L s id p q).2:=by
 rw[Book.addF,zKw,h.pget,h.len]
 repeat' split
 all_goals first|exact⟨h,rfl⟩|skip
 rename_i c1 c2 c3;exact⟨h.stand hs (λe=>c2 (hasId_iff.2 e)) oM oM,rfl⟩
def yCu:book0.Rep []:=by
 refine⟨[],⟨⟨⟨by simp[book0,zPe],rfl,λn l h=>by simp at h,λn l h=>by simp at h,λn l h=>by simp at h,λk s hk hu=> ?_,?_⟩,λn l h=>by simp at h⟩,λs hs=> ?_,λq hq=>by simp[book0,Book.qs]at hq,by simp[book0,Book.qs],rfl,λs hs r hr=> ?_,λq hq=>by simp[book0]at hq,?_,?_,Z8⟩,⟨λo ho=>(by cases ho),λs hs hh=> ?_⟩,?_⟩
 ·have:=y5p hk;rw[xAw this]at hu;cases hu
 ·decide
 ·rcases hs with rfl|rfl<;>exact List.Pairwise.nil
 ·rcases hs with rfl|rfl<;>cases hr
 ·exact List.Perm.refl _
 ·exact List.nodup_nil
 ·rcases hs with rfl|rfl<;>cases hh
 ·rfl
structure BoI where
 b:Book
 s:Int
 r:xM
 l:List Nat
def BoI.ords (i:BoI):List zI:=(i.b.a.ents i.l).map λe=>⟨e.id,i.s,i.r.price,e.qty,e.top⟩
def ordersC:Con:=con1 BoI (λi=>[.nm 0 0,zA i.s,.agg [zA i.r.price,zA i.r.queue]]) (λi=>[z8 i.b]) (λi=>i.b.a.listOk i.r.queue i.l) (λ_=> .own 1) (λi=>[z8 i.b,.own 192 5 (i.ords.map vA)])
def yMm (i:BoI):List SAnn:=[{ι:=Nat,slots:=λj=>[(7,.own 0),(18,zA j)],rows:=λj=>[.own 192 5 ((i.ords.take j).map vA)]}]
def fD (a:ArL):=(aa zKz (a.a.ents a.l))
def z8n (i:BoI):Prop:=
 ∃(a:ArL),a.n=i.r.queue/\ba Arena 3 zG a.a=ba Arena 3 zG i.b.a/\a.a.listOk a.n a.l/\∀(b:Unit),True->∃(c:Nat),(↑c:Int)=0/\aa vA (ab c i.ords)=[]/\∃(d:Nat->Prop),∃(e:Nat->Nat),d c/\∀(f:Nat),d f->cnd (decide ((↑f:Int)<(↑(fD a).length:Int))) ((0<=(↑f:Int)/\(↑f:Int)<(↑(fD a).length:Int))/\∃(g:Int),∃(h:Int),∃(j:Int),∃(k:Bool),zE (fD a) (↑f:Int).toNat 0 4=ar [dI g,dI h,dI j,D.v (.bool k)]/\((aa vA (ab f i.ords)).length+1)*(40:Nat)<=(140737488355328:Nat)/\∃(l:Nat),(↑l:Int)=ap.wrap ((↑f:Int)+1)/\aa vA (ab l i.ords)=aa vA (ab f i.ords)++[[dI h,dI i.s,dI i.r.price,dI j,D.v (.bool k)]]/\d l/\e l<e f/\dh (ba Arena 3 zG a.a)/\dh (ax 326 4 (fD a))/\dh (ay [V.d (dI i.r.price),V.d (dI i.r.queue)] 304)/\dh (ay [V.nm 1 0,V.own 2,V.own 3,V.mp 4,V.d (dI i.b.top1),V.d (dI i.b.top2),V.own 5,V.d (D.v (.bool i.b.has1)),V.d (D.v (.bool i.b.has2))] (299:cd))/\dh (ax 304 2 (aa zB i.b.buys))/\dh (ax 304 2 (aa zB i.b.sells))/\dh (bc (atE i.b.at_))/\dh (ax 3 1 (iE i.b.spare))) (∃(g:Unit),dh i.b.top1/\dh i.b.top2/\dh i.b.has1/\dh i.b.has2/\ba Arena 3 zG i.b.a=ba Arena 3 zG a.a/\dh (aa zB i.b.buys)/\dh (aa zB i.b.sells)/\dh (atE i.b.at_)/\dh (iE i.b.spare)/\aa vA i.ords=aa vA (ab f i.ords)/\True)
def y4q {l:List Ent} {k:Nat} {e:Ent} (h:l[k]? =ar e):zE (l.map zKz) k 0 4=ar [D.v (.int .i64 e.slot),.v (.int .i64 e.id),.v (.int .i64 e.qty),.v (.bool e.top)]:=elA h (by simp[zKz]) rfl
def yMs (i:BoI) (h:ordersC.cnd i):z8n i:=by
 have h:i.b.a.listOk i.r.queue i.l:=h;have hl:=h.len;have hen:(i.b.a.ents i.l).length=i.l.length:=by simp[Arena.ents]
 have hol:i.ords.length=i.l.length:=by simp[BoI.ords,Arena.ents]
 unfold z8n fD dI;refine⟨⟨i.b.a,i.r.queue,i.l⟩,rfl,rfl,h,λ_ _=> ?_⟩;simp only[y5f];refine⟨0,rfl,rfl,λj=>j<=i.l.length,λj=>i.l.length-j,y6l _,λj hj=>zH (λc=> ?_) (λc=> ?_)⟩
 ·obtain⟨e,he⟩:=yD (l:=i.b.a.ents i.l) (i:=j) oM;have ho:i.ords[j]? =ar ⟨e.id,i.s,i.r.price,e.qty,e.top⟩:=by rw[BoI.ords,y6v,he];rfl
  refine⟨⟨oM,oM⟩,e.slot,e.id,e.qty,e.top,y4q he,by rw[y5w];omega,j+1,wjn oM,?_,oM,Z9,k0q⟩;rw[y6n,ho];simp[vA]
 ·have hje:j=i.l.length:=by omega
  subst hje;rw[y5q (l:=i.ords) (by omega)]
  exact kp
def zSd:ordersC.ok Tryz.prog 285:=okw mixed (gokc yGt gok0) 0 (λ_=>[]) (λi=>yMm i) [0] Tryz.func285 yMs
open Go Go.RowKit Cv
def zZs {P:ce} {tS rt e sz by_:Nat} {z:Array cf} (hi:vX P tS=ar (e,sz,by_,z)) {w:bz} {g i c n k:Nat} {A:Option ci} {cur src:List cf} {T:cd}
 (hg:w.heap[g]? =ar (.cells cur.toArray T (0,0))) (hs:(bg sz n (.slice A n k)).run P w= .ok src.toArray w) (hl:src.length=n*sz) (hfit:i+n<=c) (hroom:i*sz+n*sz<=cur.length) (hone:∀v∈src,v.oneC=av):
 hJ P (bo #[tS,tS] rt #[.slice (ar ⟨g,0,au⟩) i c,.slice A n k]) w (.slice (ar ⟨g,0,au⟩) (i+n) c) (World.setB w g (.cells (spl cur (i*sz) src).toArray T (0,0))):=by
 obtain⟨inf,zv,q1,q2,rfl,rfl,q5,rfl⟩:=kG hi;have hst:=wC (P:=P) src 0 (i*inf.size) cur w hg oM hone;simp only[y9n]at hst;have hln:∀w,(Builtin.lenOf (.slice A n k)).run P w= .ok n w:=λw=>rfl
 unfold hJ bo;simp only[y7g,y7p,y7d,bind,pure,run_bind,Sem.bind,Sem.run,Cv.run_underlying q1,Cv.run_sizeOf q2,y5y,if_false,hs,hln,hfit,if_true,vT,y6e,hst,xAg]
def z5f {P:ce} {tS ty e sz by_:Nat} {z:Array cf} (hi:vX P tS=ar (e,sz,by_,z)) (hz:z.size=sz) (h1:∀v∈z.toList,v.oneC=av) {w:bz} {g o n c:Nat} {cur:List cf} {T:cd} (hn:0<n)
 (hg:w.heap[g]? =ar (.cells cur.toArray T (0,0))) (hroom:o+n*sz<=cur.length):
 hJ P (Builtin.clear_ #[tS] ty #[.slice (ar ⟨g,o,au⟩) n c]) w (.tuple #[]) (World.setB w g (.cells (spl cur o (be z n).toList).toArray T (0,0))):=by
 obtain⟨inf,zv,q1,q2,rfl,rfl,q5,rfl⟩:=kG hi;have hlz:(be zv.cells n).toList.length=n*inf.size:=by rw[y9c,cg,hz]
 have hst:=wC (P:=P) (be zv.cells n).toList 0 o cur w hg oM (by
  intro v hv;obtain⟨i,hi,rfl⟩:=List.getElem_of_mem hv;simp only[be,Array.getElem_toList,Array.getElem_map,Array.getElem_range];have hpos:0<zv.cells.size:=by
   rcases Nat.eq_zero_or_pos zv.cells.size with h0|h0
   ·rw[hlz,<- hz,h0]at hi;omega
   ·exact h0
  have hlt:i % zv.cells.size<zv.cells.size:=Nat.mod_lt _ hpos;rw[getElem!_pos zv.cells (i % zv.cells.size) hlt];exact h1 _ (by simp))
 simp only[y9n]at hst;have hzr:∀w,(zeroValue e).run P w= .ok zv w:=λw=>zero_run (by unfold zero?;rw[q2];exact q5) w
 obtain⟨m,rfl⟩:∃m,n=m+1:=⟨n-1,oM⟩
 unfold hJ Builtin.clear_;simp only[y7g,y7p,y7d,bind,pure,run_bind,Sem.bind,Sem.run,Cv.run_underlying q1,hzr,hst]
def yUm (P:ce) (tS sz:Nat) (s:Option ci) (sn sk:Nat) (i j:Int) (w:bz) (R:Ending->bz->Prop):Prop:=
yXt s sk i j (sn:Int) sz λa1 na1 ka1=>
cnd ((i:Int)==j) (
R (.returned (.slice s sn sk)) w) (
z9v w λw2=>
slN s sn sk au (ar i) sz λa3 na3 ka3=>
slN s sn sk (ar j) au sz λa4 na4 ka4=>
∃(a5:Option ci) (na5 ka5:Nat),∃w6:bz,hJ P (bo #[tS,tS] tS #[.slice a3 na3 ka3,.slice a4 na4 ka4]) w2 (.slice a5 na5 ka5) w6/\
slN a5 na5 ka5 (ar (na5:Int)) (ar (sn:Int)) sz λa7 na7 ka7=>
∃w8:bz,hJ P (Builtin.clear_ #[tS] 0 #[.slice a7 na7 ka7]) w6 (.tuple #[]) w8/\
R (.returned (.slice a5 na5 ka5)) w8)
def y4v {P:ce} {tS e sz by_:Nat} {z:Array cf} (hi:vX P tS=ar (e,sz,by_,z)) (hz:z.size=sz) (hz1:∀v∈z.toList,v.oneC=av)
 {k:Ko} {w:bz} {L:List HP} {s:Option ci} {sn sk i j:Nat} {xs:List cf} (H:Hp k w (slO e sz s sn sk xs::L)) (h1:∀u∈xs,u.oneC=av) (hij:i<j) (hj:j<=sn):
 yUm P tS sz s sn sk i j w λen w'=>∃a kk,en= .returned (.slice a (sn-(j-i)) kk)/\Hp k w' (slO e sz a (sn-(j-i)) kk (xs.take (i*sz)++xs.drop (j*sz))::L):=by
 obtain⟨hxl,hnk⟩:=H.len;rcases H.slcases with⟨_,e0,_⟩|⟨b,r,rfl,g1,g2,g3,H0⟩
 ·omega
 have hle:i*sz<=xs.length:=by rw[hxl];exact y6s _ oM
 have hjle:j*sz<=xs.length:=by rw[hxl];exact y6s _ hj
 have hdl:(xs.drop (j*sz)).length=(sn-j)*sz:=by rw[y6c,hxl,Nat.sub_mul]
 have hsum:i*sz+(sn-j)*sz=(sn-(j-i))*sz:=by rw[<- y8g];congr 1;omega
 have hsum2:i*sz+(sn-j)*sz+(j-i)*sz=sn*sz:=by rw[<- y8g,<- y8g];congr 1;omega
 have hsum3:j*sz+(sn-j)*sz=sn*sz:=by rw[<- y8g];congr 1;omega
 have hlen:(xs++r).length=xs.length+r.length:=y5d;unfold yUm;simp only[yXt,slN,y5x];refine⟨⟨oM,oM,oM,oM⟩,Cv.cnd.mk (λc=>absurd c (by simp;omega)) λ_=> ?_⟩;rintro _ rfl;have H1:=H0.drew;have hsrc:(bg sz (sn-j) (.slice (if sk=j then ar ⟨b,0,au⟩else(ar ⟨b,0,au⟩:Option ci).map (·.add (j*sz))) (sn-j) (sk-j))).run P w.drew= .ok (xs.drop (j*sz)).toArray w.drew:=by
  by_cases h0:(sn-j)*sz=0
  ·have:xs.drop (j*sz)=[]:=y6f oM;rw[this];by_cases hk:sk=j
   ·rw[y5g hk];unfold bg;rw[h0];rfl
   ·rw[y5e hk,y7i,vT];unfold bg;rw[h0];rfl
  ·have hk:sk≠j:=by rintro rfl;have:sn-sk=0:=by omega
                    rw[this]at h0;simp at h0
   rw[y5e hk,y7i,vT];unfold bg;rw[u9 H1.get (by rw[hlen];omega)];rw[y6e,y7x hjle,y6h (by omega),y5q (by omega)]
 refine⟨⟨oM,oM⟩,⟨oM,oM,hnk⟩,_,_,_,_,zZs (i:=i) (c:=sk) hi H1.get hsrc hdl oM (by rw[hlen];omega) (λv hv=>h1 v (y8z hv)),⟨oM,oM,oM⟩,?_⟩;have H2:=H1.upd (.cells (spl (xs++r) (i*sz) (xs.drop (j*sz))).toArray e);have e1:i+(sn-j)=sn-(j-i):=by omega
 rw[y5e (show sk≠i+(sn-j)by omega),y7i,vT,y6e,e1];have espl:spl (xs++r) (i*sz) (xs.drop (j*sz))=(xs.take (i*sz)++xs.drop (j*sz))++(xs++r).drop ((sn-(j-i))*sz):=by
  simp only[spl];rw[y6h hle,hdl,hsum]
 rw[espl]at H2;have hA:(xs.take (i*sz)++xs.drop (j*sz)).length=(sn-(j-i))*sz:=by
  rw[y5d,y5w,hdl];omega
 have hB:((xs++r).drop ((sn-(j-i))*sz)).length=(j-i)*sz+r.length:=by
  rw[y6c,hlen];omega
 rw[espl];have hn:sn-(sn-(j-i))=j-i:=by omega
 rw[hn];refine⟨_,z5f hi hz hz1 oM H2.get (by rw[y5d,hA,hB];omega),_,_,rfl,?_⟩;have H3:=H2.upd (.cells (spl (xs.take (i*sz)++xs.drop (j*sz)++(xs++r).drop ((sn-(j-i))*sz)) ((sn-(j-i))*sz) (be z (j-i)).toList).toArray e);have es:=zUg (xs.take (i*sz)++xs.drop (j*sz)) ((xs++r).drop ((sn-(j-i))*sz)) (be z (j-i)).toList;rw[hA]at es;rw[es]at H3;rw[es];rw[y5l (xs.take (i*sz)++xs.drop (j*sz))]at H3 ⊢;have hzl:(be z (j-i)).toList.length=(j-i)*sz:=by rw[y9c,cg,hz]
 refine H3.slmk hA ?_ oM;rw[y5d,hA,y5d,hzl,y6c,hB,<- g2,hlen,hxl];omega
structure yXw where
 els:List (List D)
 i:Nat
 j:Nat
def yWe (e sz:Nat):Con where
 ι:=yXw
 pat:=λi=>[.own 0,.d (.v (.int .i64 i.i)),.d (.v (.int .i64 i.j))]
 pre:=λi=>[.own e sz i.els]
 cnd:=λi=>i.i<i.j/\i.j<=i.els.length
 alts:=λi=>[{o:=Unit,res:=λ_=> .own 1,post:=λ_=>[.gone,.own e sz (i.els.take i.i++i.els.drop i.j)],rel:=λ_=>True}]
def delX_ok {P:ce} (hm:P.follows .mixedOrders=av) {tS e sz by_ fI:Nat} {z:Array cf} {fn:Func} {c:Code} (hf:P.funcs[fI]? =ar fn) (hb:fn.body=ar c) (hbd:uP P fI=av) (hok:okC fn.ntmps c=av) (hfx:okF [] c=av) (hsz3:Nat.ble 3 fn.ntmps=av)
 (hi:vX P tS=ar (e,sz,by_,z)) (hz:z.size=sz) (hz1:∀v∈z.toList,v.oneC=av)
 (heq:∀(s:Option ci) (sn sk:Nat) (i j:Int) (w:bz) (R:Ending->bz->Prop),yUm P tS sz s sn sk i j w R=cwp P [] c (zUh P fn R) (uO [.slice s sn sk,.int .i64 i,.int .i64 j]) w):
 (yWe e sz).ok P fI:=by
 intro i hc k L E w ys R hv;obtain⟨c1,c2⟩:i.i<i.j/\i.j<=i.els.length:=hc;simp only[yWe,VRL,VR,DR]at hv;obtain⟨y0,_,rfl,⟨l0,e0,_⟩,y1,_,rfl,⟨rfl,_⟩,y2,_,rfl,⟨rfl,_⟩,rfl⟩:=hv;obtain⟨s,sk,xs,sub0,g1,hxs,hu,H⟩:=R.ownOpen (n:=0) (t:=e) (sz:=sz) (els:=i.els) rfl;rw[e0]at g1;cases g1;have H2:Hp k w (slO e sz s i.els.length sk xs::fz E.F::L):=H;have hv:=y4v hi hz hz1 H2 hxs.one c1 c2;have hcall:=zKg (args:=[.slice s i.els.length sk,.int .i64 i.i,.int .i64 i.j]) hm hf hb [] hok hfx hsz3 (heq s i.els.length sk i.i i.j w _) hv;refine mD hbd (hcall.mono ?_);rintro en w' ⟨a,kk,rfl,H3⟩;have hl:(i.els.take i.i++i.els.drop i.j).length=i.els.length-(i.j-i.i):=by
  rw[y5d,y5w,y6c];omega
 have H4:Hp k w' (slO e sz a (i.els.take i.i++i.els.drop i.j).length kk (xs.take (i.i*sz)++xs.drop (i.j*sz))::(([]:List (Nat×AObj)).map (rHP E)++fz E.F::L)):=by
  rw[hl];exact H3
 obtain⟨E',r1,r2,r3⟩:=cG (nx:=1) R.nx (by
  rw[xAe,<- nV i.i hu,<- pV i.j hu];exact(hxs.take _).append (hxs.drop _)) (λx hx=>by
   rcases y6j.1 hx with hx|hx
   ·exact hu x (y9y hx)
   ·exact hu x (y8z hx)) H4
 rw[hl]at r3;refine⟨_,rfl,_,y6r.2 rfl,(),trivial,E',r1,r3,⟨r2.nx,?_⟩⟩;exact((@uM k w' True _).2 ⟨trivial,r2.hp⟩).imp (B:=rHP E' (0,.gone)) λx hx=> .inl ⟨rfl,hx.2⟩
def nD (k:Int):List (Int×Place)->List (Int×Place)
 |[]=>[]
 |(a,b)::l=>if k=a then l else(a,b)::nD k l
structure DrI where
 b:Book
 id:Int
 price:Int
 slot:Int
def Book.unhas (b:Book) (s id:Int):Book:=if b.hasF s=av/\b.topI s=id then(if s=1 then{b with has1:=aw}else{b with has2:=aw})else b
def Book.dropF (b:Book) (s id price:Int):Book:=
 if(b.a.qAt ((b.rungs s).getD (zY s (b.rungs s) price) ⟨0,0⟩).queue).count=0 then
  ({b.unhas s id with at_:=nD id b.at_,spare:=b.spare++[((b.rungs s).getD (zY s (b.rungs s) price) ⟨0,0⟩).queue]}:Book).setR s ((b.rungs s).take (zY s (b.rungs s) price)++(b.rungs s).drop (zY s (b.rungs s) price+1))
 else{b.unhas s id with at_:=nD id b.at_}
def yLj (b:Book):AObj:= .cells [.nm 1 0,.own 6,.own 7,.mp 4,zA b.top1,zA b.top2,.own 8,yR b.has1,yR b.has2] 299
@[reducible] def yQt (b:Book):List AObj:=[yLj b,zP b 1,.gone,.gone,zP b 4,.gone,zP b 2,zP b 3,zP b 5]
@[reducible] def DrI.ok (i:DrI) (s:Int):Prop:=i.b.small/\zY s (i.b.rungs s) i.price<(i.b.rungs s).length
def yJa (s:Int):Con:=con1 DrI (λi=>[.nm 0 0,zA i.id,.agg [zA s,zA i.price,zA i.slot]]) (λi=>zKr i.b) (λi=>i.ok s) (λ_=>mR) (λi=>yQt (i.b.dropF s i.id i.price))
def drop1C:Con:=yJa 1
def drop2C:Con:=yJa 2
structure DrJ where
 i:DrI
 s:Bool
def dropC:Con:=con1 DrJ (λj=>[.nm 0 0,zA j.i.id,.agg [zA (zC j.s),zA j.i.price,zA j.i.slot]]) (λj=>zKr j.i.b) (λj=>j.i.ok (zC j.s)) (λ_=>mR) (λj=>yQt (j.i.b.dropF (zC j.s) j.i.id j.i.price))
def delRC:Con:=yWe 304 2
def yWd:zI:=⟨0,0,0,0,aw⟩
def dP (L:List zI) (id:Int):zI:=(L.find? λo=>decide (o.id=id)).getD yWd
def uY (L:List zI) (id q:Int):List zI:=L.filterMap λo=>if o.id=id then(if o.qty=q then au else ar {o with qty:=o.qty-q})else ar o
def x3 (L:List zI) (id q:Int):List zI×Int:=if wO L id=aw then(L,26)else if q<1\/(dP L id).qty<q then(L,24)else(uY L id q,0)
def atL (L:List zI) (s p:Int):List zI:=L.filter λo=>decide (o.side=s) && decide (o.price=p)
def grp:List zI->List Lv
 |[]=>[]
 |o::l=>match grp l with
  |[]=>[⟨o.price,o.qty,1⟩]
  |v::vs=>if v.price=o.price then⟨v.price,o.qty+v.qty,v.count+1⟩::vs else⟨o.price,o.qty,1⟩::v::vs
def gA (L:List zI) (s:Int):List Lv:=grp (L.filter λo=>decide (o.side=s))
def bestL (L:List zI) (s:Int):Lv×Bool:=match gA L s with
 |[]=>(⟨0,0,0⟩,aw)
 |v::_=>(v,av)
structure BkL where
 b:Book
 L:List zI
structure FlI where
 b:Book
 L:List zI
 id:Int
 qty:Int
structure AtI where
 b:Book
 L:List zI
 s:Bool
 price:Int
def fillC:Con where
 ι:=FlI
 pat:=λi=>[.nm 0 0,zA i.id,zA i.qty]
 pre:=λi=>[z8 i.b]
 cnd:=λi=>i.b.Rep i.L
 alts:=λi=>[{o:=Book,res:=λ_=>zA (x3 i.L i.id i.qty).2,post:=λb=>[z8 b],rel:=λb=>b.Rep (x3 i.L i.id i.qty).1}]
def bfindC:Con:=con1 FlI (λi=>[.nm 0 0,zA i.id]) (λi=>[z8 i.b]) (λi=>i.b.Rep i.L) (λi=> .tup [yBf (dP i.L i.id),yR (wO i.L i.id)]) (λi=>[z8 i.b])
def y0c (s:Bool):Con:=con1 AtI (λi=>[.nm 0 0,zA (zC s),zA i.price]) (λi=>[z8 i.b]) (λi=>i.b.Rep i.L) (λ_=> .own 1) (λi=>[z8 i.b,.own 192 5 ((atL i.L (zC s) i.price).map vA)])
def at1C:Con:=y0c aw
def at2C:Con:=y0c av
def atC:Con:=con1 AtI (λi=>[.nm 0 0,zA (zC i.s),zA i.price]) (λi=>[z8 i.b]) (λi=>i.b.Rep i.L) (λ_=> .own 1) (λi=>[z8 i.b,.own 192 5 ((atL i.L (zC i.s) i.price).map vA)])
end Sx
