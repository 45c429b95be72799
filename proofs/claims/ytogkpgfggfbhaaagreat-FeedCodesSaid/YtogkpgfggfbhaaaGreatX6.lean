/- Texts of ours, one behind the other: a walk that the kernel reckons, and contracts of functions. No condition. -/
import Derived.Laws.Externs
import Derived.Test.YtogkpgfggfbhaaaGreatX5
namespace Sx
set_option linter.unusedVariables false
set_option maxRecDepth 100000
open Go Cv Go.Proofs
set_option linter.unusedSimpArgs false
open Go Cv Go.Proofs
theorem aU:∀(l:List Int) (a:Int),l.foldl min a≤a∧∀x∈l,l.foldl min a≤x
 |[],a=>⟨yTl _,by simp⟩
 |b::l,a=>by
  obtain⟨h1,h2⟩:=aU l (min a b)
  rw[yTb]
  refine⟨by omega,fun x hx=> ?_⟩
  rcases yPk.1 hx with rfl|hx
  ·omega
  ·exact h2 x hx
theorem aR:∀(l:List Int) (a:Int),a≤l.foldl max a∧∀x∈l,x≤l.foldl max a
 |[],a=>⟨yTl _,by simp⟩
 |b::l,a=>by
  obtain⟨h1,h2⟩:=aR l (max a b)
  rw[yTb]
  refine⟨by omega,fun x hx=> ?_⟩
  rcases yPk.1 hx with rfl|hx
  ·omega
  ·exact h2 x hx
theorem z9u {l:List Int} {x:Int} (h:x∈l):m9 l≤x:=by
 cases l with
 |nil=>cases h
 |cons a l=>
  rw[m9,List.tail_cons,List.headD_cons]
  rcases yPk.1 h with rfl|h
  ·exact(aU l x).1
  ·exact(aU l a).2 x h
theorem yCs {l:List Int} {x:Int} (h:x∈l):x≤rX l:=by
 cases l with
 |nil=>cases h
 |cons a l=>
  rw[rX,List.tail_cons,List.headD_cons]
  rcases yPk.1 h with rfl|h
  ·exact(aR l x).1
  ·exact(aR l a).2 x h
open Go Cv Go.Proofs
structure Cmd where
 kind:Int
 id:Int
 inst:Int
 side:Int
 price:Int
 qty:Int
 least:Int
 time:Int
 label:List UInt8
 deriving DecidableEq
@[reducible] def Cmd.cells (c:Cmd):List V:=[zA c.kind,zA c.id,zA c.inst,zA c.side,zA c.price,zA c.qty,zA c.least,zA c.time,sV c.label]
@[reducible] def zPv (c:Cmd):V:= .agg c.cells
open Go Cv Go.Proofs
open Go Cv Go.Proofs
open Go Cv Go.Proofs
structure ShI where
 a:Int
 b:Int
 c:Int
def add64C:Con:=con1 ShI (fun i=>[n8 i.a,n8 i.b,n8 i.c]) (fun _=>[]) (fun i=>0≤i.a∧0≤i.b∧0≤i.c∧i.c≤1) (fun i=> .tup [n8 ((i.a+i.b+i.c) % 18446744073709551616),n8 ((i.a+i.b+i.c) / 18446744073709551616)]) (fun _=>[])
theorem zZu {P : Program} {f : FuncId} {fn : Func} (hf : P.funcs[f]? = some fn) (hname : (fn.name == "runtime.NumGoroutine") = false) (hb : fn.body.isNone = true) (hn : Extern.findNext fn = none) (he : Extern.find fn = some add64Entry) : add64C.ok P f := by
 intro i hc k L E w ys R hv
 obtain⟨h1,h2,h3,h4⟩:0≤i.a∧0≤i.b∧0≤i.c∧i.c≤1:=hc
 simp only[add64C,con1,VRL,VR,DR]at hv
 obtain⟨_,_,rfl,⟨rfl,_⟩,_,_,rfl,⟨rfl,_⟩,_,_,rfl,⟨rfl,_⟩,rfl⟩:=hv
 unfold Does
 rw[run_callFunc_extern hf hname hb hn he,run_add64 i.a i.b i.c h1 h2 h3 h4]
 simp only[Result.andThen]
 refine⟨_,yQr.2 rfl,(),trivial,E,Ev.le.refl _,?_,R⟩
 simp only[add64C,con1,VR,VRL,DR]
 exact⟨_,rfl,_,_,rfl,⟨rfl,rfl⟩,_,_,rfl,⟨rfl,rfl⟩,rfl⟩
theorem z1m:add64C.ok Tryz.prog 301:=by
 refine zZu (P:=Tryz.prog) (f:=301) (fn:=Tryz.f301) Tryz.func301 ?_ ?_ ?_ ?_
 ·kernel_rfl
 ·kernel_rfl
 ·kernel_rfl
 ·kernel_rfl
structure M2 where
 a:Int
 b:Int
def mul64C:Con:=con1 M2 (fun i=>[n8 i.a,n8 i.b]) (fun _=>[]) (fun i=>0≤i.a∧i.a≤2000000000∧0≤i.b∧i.b≤2000000000) (fun i=> .tup [n8 0,n8 (i.a*i.b)]) (fun _=>[])
def div64C:Con:=con1 M2 (fun i=>[n8 0,n8 i.a,n8 i.b]) (fun _=>[]) (fun i=>0≤i.a∧i.a≤4000000000000000000∧1≤i.b∧i.b≤2000000000) (fun i=> .tup [n8 (i.a / i.b),n8 (i.a % i.b)]) (fun _=>[])
def ishareC:Con:=con1 ShI (fun i=>[zA i.a,zA i.b,zA i.c]) (fun _=>[]) (fun i=>0≤i.a∧i.a≤2000000000∧0≤i.b∧i.b≤2000000000∧1≤i.c∧i.c≤2000000000) (fun i=> .tup [zA (i.a*i.b / i.c),yB true]) (fun _=>[])
def isumC:Con:=con1 (List Int) (fun l=>[iV l]) (fun _=>[]) (fun l=>l.length≤1000∧∀x∈l,0≤x∧x≤1000000) (fun l=> .tup [zA l.sum,yB true]) (fun _=>[])
def yMb (l:List Int):List SAnn:=[{ι:=Nat,slots:=fun j=>[(4,n8 (l.take j).sum),(5,zA 0),(11,zA j)],rows:=fun _=>[]}]
structure LqI where
 l:List Int
 q:Int
def yK (l:List Int) (q:Int):Bool:=decide (l.length≤250) && decide (0≤q) && l.all (fun n=>decide (1≤n) && decide (n≤1000000)) && decide (q≤l.sum)
def rightC:Con:=con1 LqI (fun i=>[iV i.l,zA i.q]) (fun _=>[]) (fun i=>i.l.length≤1000000∧i64r i.q) (fun i=>yB (yK i.l i.q)) (fun _=>[])
def yGi (i:LqI):List SAnn:=[{ι:=Nat,slots:=fun j=>[(5,zA (i.l.take j).sum),(17,zA j)],rows:=fun _=>[]}]
def wQ:List Int→Int→List Int
 |[],_=>[]
 |n::l,q=>min n q::wQ l (q-min n q)
def wZ (l:List Int) (q:Int):List Int:=if yK l q=true then wQ l q else[]
def fifoC:Con:=con1 LqI (fun i=>[iV i.l,zA i.q]) (fun _=>[]) (fun i=>i.l.length≤1000000∧i64r i.q) (fun _=> .own 0) (fun i=>[.own 2 1 (iE (wZ i.l i.q))])
def yMf (i:LqI):List SAnn:=[{ι:=Nat,slots:=fun j=>[(5,.own 0),(1,zA (i.q-((wQ i.l i.q).take j).sum)),(15,zA j)],rows:=fun j=>[.own 2 1 (iE ((wQ i.l i.q).take j))]}]
open Go Cv Go.Proofs
def tM (a:M2):=(IntKind.u64.wrap (IntKind.u64.wrap (mP IntKind.u64 a.a 32*zBk IntKind.u64 a.b 4294967295)+mP IntKind.u64 (IntKind.u64.wrap (zBk IntKind.u64 a.a 4294967295*zBk IntKind.u64 a.b 4294967295)) 32))
def z7z (i:M2):Prop:=
 (0:Int)≤(32:Int)∧(0:Int)≤(32:Int)∧(0:Int)≤(32:Int)∧(0:Int)≤(32:Int)∧(0:Int)≤(32:Int)∧∃(a:Unit),0=IntKind.u64.wrap (IntKind.u64.wrap (IntKind.u64.wrap (mP IntKind.u64 i.a 32*mP IntKind.u64 i.b 32)+mP IntKind.u64 (tM i) 32)+mP IntKind.u64 (IntKind.u64.wrap (zBk IntKind.u64 (tM i) 4294967295+IntKind.u64.wrap (zBk IntKind.u64 i.a 4294967295*mP IntKind.u64 i.b 32))) 32)∧i.a*i.b=IntKind.u64.wrap (i.a*i.b)∧True
def z5i (i:M2):Prop:=
 cnd (i.b==0) False (cnd (decide (i.b≤0)) False (IntKind.u64=IntKind.u64∧i.b≠0∧IntKind.u64=IntKind.u64∧i.b≠0∧∃(a:Unit),i.a / i.b=IntKind.u64.wrap (i.a.tdiv i.b)∧i.a % i.b=i.a.tmod i.b∧True))
def zXe (i:ShI):Prop:=
 cnd (decide (i.a<0)) (∃(a:Unit),i.a*i.b / i.c=0∧true=false∧True) (cnd (decide (i.b<0)) (∃(a:Unit),i.a*i.b / i.c=0∧true=false∧True) (cnd (decide (i.c<1)) (∃(a:Unit),i.a*i.b / i.c=0∧true=false∧True) (∃(a:M2),a.a=IntKind.u64.wrap i.a∧a.b=IntKind.u64.wrap i.b∧(0≤a.a∧a.a≤(2000000000:Int)∧(0:Int)≤a.b∧a.b≤2000000000)∧∀(b:Unit),True→cnd (decide (0≥IntKind.u64.wrap i.c)) (∃(c:Unit),i.a*i.b / i.c=0∧true=false∧True) (∃(c:M2),(0:Int)=(0:Int)∧c.a=a.a*a.b∧c.b=IntKind.u64.wrap i.c∧(0≤c.a∧c.a≤(4000000000000000000:Int)∧(1:Int)≤c.b∧c.b≤2000000000)∧∀(d:Unit),True→cnd (decide (c.a / c.b>9223372036854775807)) (∃(e:Unit),i.a*i.b / i.c=0∧true=false∧True) (∃(e:Unit),i.a*i.b / i.c=IntKind.i64.wrap (c.a / c.b)∧true=true∧True)))))
def yDm (l:List Int):Prop:=
 ∃(a:Nat),(List.take a l).sum=(0:Int)∧(0:Int)=0∧(↑a:Int)=0∧∃(b:Nat→Prop),∃(c:Nat→Nat),b a∧∀(d:Nat),b d→cnd (decide ((↑d:Int)<(↑(iE l).length:Int))) ((0≤(↑d:Int)∧(↑d:Int)<(↑(iE l).length:Int))∧∃(e:Int),zF (iE l) (↑d:Int).toNat 0 1=some [dI e]∧∃(f:ShI),f.a=(List.take d l).sum∧f.b=IntKind.u64.wrap e∧f.c=0∧(0≤f.a∧0≤f.b∧0≤f.c∧f.c≤1)∧∀(g:Unit),True→(0:Int)≤(63:Int)∧∃(h:Nat),(List.take h l).sum=(f.a+f.b+f.c) % (18446744073709551616:Int)∧(0:Int)=IntKind.i64.wrap (0+IntKind.i64.wrap (mP IntKind.i64 e 63+IntKind.i64.wrap ((f.a+f.b+f.c) / (18446744073709551616:Int))))∧kM h d b c) ((0:Int)≤(63:Int)∧cnd (0 !=mP IntKind.i64 (IntKind.i64.wrap (List.take d l).sum) 63) (∃(e:Unit),l.sum=0∧true=false∧True) (∃(e:Unit),l.sum=IntKind.i64.wrap (List.take d l).sum∧true=true∧True))
def z2v (i:LqI):Prop:=
 cnd (decide ((↑(iE i.l).length:Int)>250)) (∃(a:Unit),yK i.l i.q=false∧True) (cnd (decide (i.q<0)) (∃(a:Unit),yK i.l i.q=false∧True) (∃(a:Nat),(List.take a i.l).sum=0∧(↑a:Int)=0∧∃(b:Nat→Prop),∃(c:Nat→Nat),b a∧∀(d:Nat),b d→cnd (decide ((↑d:Int)<(↑(iE i.l).length:Int))) ((0≤(↑d:Int)∧(↑d:Int)<(↑(iE i.l).length:Int))∧∃(e:Int),zF (iE i.l) (↑d:Int).toNat 0 1=some [dI e]∧cnd (decide (e<1)) (∃(f:Unit),yK i.l i.q=false∧True) (cnd (decide (e>1000000)) (∃(f:Unit),yK i.l i.q=false∧True) (∃(f:Nat),(List.take f i.l).sum=IntKind.i64.wrap ((List.take d i.l).sum+e)∧kM f d b c))) (∃(e:Unit),yK i.l i.q=decide (i.q≤(List.take d i.l).sum)∧True)))
def kO (a:LqI):Prop:=a.l.length≤(1000000:Nat)∧(-9223372036854775808:Int)≤a.q∧a.q≤9223372036854775807
def kL (a:Nat) (b:LqI):=(List.take a (wQ b.l b.q))
def yDh (i:LqI):Prop:=
 ∃(a:LqI),iE a.l=iE i.l∧a.q=i.q∧(kO a)∧∀(b:Unit),True→cnd (!yK a.l a.q) (∃(c:Unit),iE (wZ i.l i.q)=[]∧True) (∃(c:Nat),i.q-(kL c i).sum=i.q∧(↑c:Int)=0∧iE (kL c i)=[]∧∃(d:Nat→Prop),∃(e:Nat→Nat),d c∧∀(f:Nat),d f→cnd (decide ((↑f:Int)<(↑(iE i.l).length:Int))) ((0≤(↑f:Int)∧(↑f:Int)<(↑(iE i.l).length:Int))∧∃(g:Int),zF (iE i.l) (↑f:Int).toNat 0 1=some [dI g]∧((iE (kL f i)).length+1)*(8:Nat)≤(140737488355328:Nat)∧∃(h:Nat),i.q-(kL h i).sum=IntKind.i64.wrap (i.q-(kL f i).sum-min g (i.q-(kL f i).sum))∧(↑h:Int)=IntKind.i64.wrap ((↑f:Int)+1)∧iE (kL h i)=iE (kL f i)++[[dI (min g (i.q-(kL f i).sum))]]∧d h∧e h<e f∧True) (∃(g:Unit),iE (wZ i.l i.q)=iE (kL f i)∧True))
open Go Cv Go.Proofs
theorem zNz {x:Int} (h0:0≤x) (h1:x<4294967296):zBk .u64 x 4294967295=x:=by
 have e:zBk .u64 x 4294967295=IntKind.u64.wrap ((BitVec.ofInt 64 x &&& BitVec.ofInt 64 4294967295).toNat:Int):=rfl
 obtain⟨n,rfl⟩:=Int.eq_ofNat_of_zero_le h0
 have hn:n<4294967296:=by omega
 rw[e,BitVec.toNat_and,BitVec.ofInt_natCast,BitVec.toNat_ofNat,show(BitVec.ofInt 64 4294967295).toNat=2 ^ 32-1 by decide,Nat.and_two_pow_sub_one_eq_mod]
 rw[show n % 2 ^ 64 % 2 ^ 32=n by omega,lF (by omega)]
theorem zEi {x:Int} (h0:0≤x) (h1:x<4294967296):mP .u64 x 32=0:=by
 have:=eF .u64 x 32 (by decide)
 rw[show((32:Nat):Int)=32 by rfl]at this
 rw[this];omega
theorem zWz {a b m n:Int} (ha:0≤a∧a≤m) (hb:0≤b∧b≤n):0≤a*b∧a*b≤m*n:=
 ⟨Int.mul_nonneg ha.1 hb.1,Int.mul_le_mul ha.2 hb.2 hb.1 (by omega)⟩
theorem yFl (i:M2) (h:mul64C.cnd i):z7z i:=by
 obtain⟨h1,h2,h3,h4⟩:0≤i.a∧i.a≤2000000000∧0≤i.b∧i.b≤2000000000:=h
 have hm:=zWz ⟨h1,h2⟩ ⟨h3,h4⟩
 have hs:mP IntKind.u64 (i.a*i.b) 32=(i.a*i.b) / 4294967296:=by
  have:=eF .u64 (i.a*i.b) 32 (by decide)
  rw[show((32:Nat):Int)=32 by rfl]at this
  exact this
 unfold z7z tM
 refine⟨by decide,by decide,by decide,by decide,by decide,(),?_,?_,trivial⟩
 ·rw[zNz h1 (by omega),zNz h3 (by omega),zEi h1 (by omega),zEi h3 (by omega),lF (x:=i.a*i.b) (by omega),hs]
  simp only[Int.zero_mul,Int.mul_zero,Int.zero_add,Int.add_zero]
  rw[lF (x:=0) (by omega)]
  simp only[Int.zero_add,Int.add_zero]
  rw[lF (x:=i.a*i.b / 4294967296) (by omega),zEi (x:=i.a*i.b / 4294967296) (by omega) (by omega),zNz (x:=i.a*i.b / 4294967296) (by omega) (by omega),lF (x:=i.a*i.b / 4294967296) (by omega),zEi (x:=i.a*i.b / 4294967296) (by omega) (by omega)]
  rfl
 ·rw[lF (by omega)]
theorem z6v:mul64C.ok Tryz.prog 290:=okw mixed gok0 0 (fun _=>[]) (fun _=>[]) [] Tryz.func290 yFl
theorem yJl (i:M2) (h:div64C.cnd i):z5i i:=by
 obtain⟨h1,h2,h3,h4⟩:0≤i.a∧i.a≤4000000000000000000∧1≤i.b∧i.b≤2000000000:=h
 unfold z5i
 have hd:0≤i.a / i.b∧i.a / i.b≤i.a:=⟨Int.ediv_nonneg h1 (by omega),Int.ediv_le_self _ h1⟩
 refine Cv.cnd.mk (fun c=>absurd (eq_of_beq c) (by omega)) (fun _=>zI (fun c=>by omega) (fun _=>⟨rfl,by omega,rfl,by omega,(),?_,?_,trivial⟩))
 ·rw[Int.tdiv_eq_ediv_of_nonneg h1,lF (by omega)]
 ·rw[Int.tmod_eq_emod_of_nonneg h1]
theorem z6o:div64C.ok Tryz.prog 291:=okw mixed gok0 0 (fun _=>[]) (fun _=>[]) [] Tryz.func291 yJl
theorem z9e (i:ShI) (h:ishareC.cnd i):zXe i:=by
 obtain⟨h1,h2,h3,h4,h5,h6⟩:0≤i.a∧i.a≤2000000000∧0≤i.b∧i.b≤2000000000∧1≤i.c∧i.c≤2000000000:=h
 have hm:=zWz ⟨h1,h2⟩ ⟨h3,h4⟩
 have hd:0≤i.a*i.b / i.c∧i.a*i.b / i.c≤i.a*i.b:=⟨Int.ediv_nonneg hm.1 (by omega),Int.ediv_le_self _ hm.1⟩
 unfold zXe
 rw[lF (x:=i.a) (by omega),lF (x:=i.b) (by omega),lF (x:=i.c) (by omega)]
 refine zI (fun c=>by omega) (fun _=>zI (fun c=>by omega) (fun _=>zI (fun c=>by omega) (fun _=>⟨⟨i.a,i.b⟩,rfl,rfl,⟨h1,h2,h3,h4⟩,fun _ _=>zI (fun c=>by omega) (fun _=>⟨⟨i.a*i.b,i.c⟩,rfl,rfl,rfl,⟨hm.1,by dsimp only;omega,h5,h6⟩,fun _ _=>zI (fun c=>by dsimp only at c;omega) (fun _=>⟨(),?_,rfl,trivial⟩)⟩)⟩)))
 rw[w64 (by dsimp only;omega)]
theorem zJb:ishareC.ok Tryz.prog 278:=okw mixed (gokc z6v (gokc z6o gok0)) 0 (fun _=>[]) (fun _=>[]) [] Tryz.func278 z9e
theorem wjn {j:Nat} (h:j≤1000000):((j+1:Nat):Int)=IntKind.i64.wrap ((j:Int)+1):=by rw[w64 (by omega)];rfl
theorem kA {l:List Int} {j:Nat} {x:Int} (h:l[j]? =some x):(l.take (j+1)).sum=(l.take j).sum+x:=by
 rw[yQb,h];simp
theorem qO {l:List Int} (h:∀x∈l,0≤x∧x≤1000000):∀j:Nat,0≤(l.take j).sum∧(l.take j).sum≤1000000*j
 |0=>by simp
 |j+1=>by
  have ih:=qO h j
  cases hx:l[j]? with
  |none=>
   have:l.take (j+1)=l.take j:=by
    rw[yQb,hx];simp
   rw[this];omega
  |some x=>
   have:=h x (yPe hx)
   rw[kA hx];omega
theorem yMa (l:List Int) (h:isumC.cnd l):yDm l:=by
 obtain⟨hl,hb⟩:l.length≤1000∧∀x∈l,0≤x∧x≤1000000:=h
 unfold yDm kM dI
 simp only[y6]
 refine⟨0,by(first|exact rfl|exact trivial),by(first|exact rfl|exact trivial),by(first|exact rfl|exact trivial),fun j=>j≤l.length,fun j=>l.length-j,yQn _,fun j hj=>zI (fun c=> ?_) (fun c=> ?_)⟩
 ·have hj':j<l.length:=by omega
  obtain⟨x,hx⟩:=z8 (l:=l) (i:=j) hj'
  have bx:=hb x (yPe hx)
  have bs:=qO hb j
  refine⟨⟨by omega,by omega⟩,x,elI hx,⟨(l.take j).sum,x,0⟩,rfl,by rw[lF (by omega)],rfl,⟨bs.1,bx.1,by dsimp only;omega,by dsimp only;omega⟩,fun _ _=>⟨by decide,j+1,?_,?_,wjn (by omega),hj',by dsimp only;omega,trivial⟩⟩
  ·rw[kA hx];dsimp only;omega
  ·have e:mP IntKind.i64 x 63=x / 9223372036854775808:=by
    have:=eF .i64 x 63 (by decide)
    rw[show((63:Nat):Int)=63 by rfl]at this
    exact this
   dsimp only
   rw[e,show x / 9223372036854775808=0 by omega,show((l.take j).sum+x+0) / 18446744073709551616=0 by omega]
   rfl
 ·have hj':j=l.length:=by omega
  subst hj'
  have bs:=qO hb l.length
  rw[ySu]at bs
  have e:mP IntKind.i64 l.sum 63=l.sum / 9223372036854775808:=by
   have:=eF .i64 l.sum 63 (by decide)
   rw[show((63:Nat):Int)=63 by rfl]at this
   exact this
  rw[ySu,w64 (x:=l.sum) (by omega),e,show l.sum / 9223372036854775808=0 by omega]
  exact⟨by decide,Cv.cnd.mk (fun c=>absurd c (by decide)) (fun _=>⟨(),by(first|exact rfl|exact trivial),by(first|exact rfl|exact trivial),trivial⟩)⟩
theorem z9w:isumC.ok Tryz.prog 295:=okw mixed (gokc z1m gok0) 0 (fun _=>[]) (fun l=>yMb l) [] Tryz.func295 yMa
theorem yJa (i:LqI) (h:rightC.cnd i):z2v i:=by
 obtain⟨hl,hq⟩:i.l.length≤1000000∧i64r i.q:=h
 unfold z2v kM dI
 simp only[y6]
 refine zI (fun c=>⟨(),?_,trivial⟩) (fun c1=>zI (fun c=>⟨(),?_,trivial⟩) (fun c2=> ?_))
 ·rw[yK,yPm (by omega:¬i.l.length≤250)];rfl
 ·rw[yK,yPm (by omega:¬0≤i.q)];simp
 refine⟨0,by(first|exact rfl|exact trivial),by(first|exact rfl|exact trivial),fun j=>j≤i.l.length∧∀k<j,∀x,i.l[k]? =some x→1≤x∧x≤1000000,fun j=>i.l.length-j,⟨yQn _,fun k hk=>absurd hk (Nat.not_lt_zero k)⟩,fun j hj=>zI (fun c=> ?_) (fun c=> ?_)⟩
 ·obtain⟨hj0,hjb⟩:=hj
  have hj':j<i.l.length:=by omega
  obtain⟨x,hx⟩:=z8 (l:=i.l) (i:=j) hj'
  have bad (hn:¬(1≤x∧x≤1000000)):yK i.l i.q=false:=by
   have:(i.l.all fun n=>decide (1≤n) && decide (n≤1000000))=false:=by
    rw[List.all_eq_false]
    exact⟨x,yPe hx,by simpa using hn⟩
   rw[yK,this];simp
  have bs:0≤(i.l.take j).sum∧(i.l.take j).sum≤1000000*j:=by
   have:=qO (l:=i.l.take j) (fun y hy=>by
    obtain⟨k,hk⟩:=yRg.1 hy
    have hkj:k<j:=by
     have:=(yOt.1 hk).1
     rw[yPl]at this;omega
    rw[List.getElem?_take_of_lt hkj]at hk
    have:=hjb k hkj y hk;omega) j
   rwa [List.take_take,Nat.min_self]at this
  refine⟨⟨by omega,by omega⟩,x,elI hx,zI (fun d=>⟨(),bad (by omega),trivial⟩) (fun d=>zI (fun e=>⟨(),bad (by omega),trivial⟩) (fun e=>⟨j+1,?_,wjn (by omega),⟨hj',fun k hk y hy=> ?_⟩,by dsimp only;omega,trivial⟩))⟩
  ·rw[kA hx,w64 (by omega)]
  ·by_cases hkj:k=j
   ·rw[hkj,hx]at hy;cases hy;omega
   ·exact hjb k (by omega) y hy
 ·obtain⟨hj0,hjb⟩:=hj
  have hj':j=i.l.length:=by omega
  subst hj'
  have:(i.l.all fun n=>decide (1≤n) && decide (n≤1000000))=true:=by
   rw[yRq]
   intro y hy
   obtain⟨k,hk⟩:=yRg.1 hy
   have:=hjb k ((yOt.1 hk).1) y hk
   simpa using this
  refine⟨(),?_,trivial⟩
  rw[yK,this,yPn (by omega:i.l.length≤250),yPn (by omega:0≤i.q),ySu]
  rfl
theorem eC:rightC.ok Tryz.prog 276:=okw mixed gok0 0 (fun _=>[]) (fun i=>yGi i) [] Tryz.func276 yJa
theorem qH {l:List Int} {q:Int} (h:yK l q=true):l.length≤250∧0≤q∧(∀x∈l,1≤x∧x≤1000000)∧q≤l.sum:=by
 simp only[yK,yPh,yRf,yRq]at h
 exact⟨h.1.1.1,h.1.1.2,h.1.2,h.2⟩
theorem zDt {l:List Int} {q:Int} (h:yK l q=true):q≤250000000:=by
 obtain⟨h1,h2,h3,h4⟩:=qH h
 have:=qO (l:=l) (fun x hx=>by have:=h3 x hx;omega) l.length
 rw[ySu]at this
 omega
theorem nO:∀(l:List Int) (q:Int),(wQ l q).length=l.length
 |[],_=>rfl
 |n::l,q=>by rw[wQ,yOy,yOy,nO l]
theorem zFj:∀(l:List Int) (q:Int) (j:Nat) (n:Int),l[j]? =some n→(wQ l q)[j]? =some (min n (q-((wQ l q).take j).sum))
 |[],_,_,_,h=>by simp at h
 |m::l,q,0,n,h=>by simp at h;subst h;simp[wQ]
 |m::l,q,j+1,n,h=>by
  rw[yQj]at h
  rw[wQ,yQj,zFj l _ j n h,yQa,yQc]
  congr 2;omega
theorem zBu:∀(l:List Int) (q:Int) (j:Nat),0≤q→(∀x∈l,0≤x)→0≤q-((wQ l q).take j).sum∧q-((wQ l q).take j).sum≤q
 |[],q,j,h,_=>by simp[wQ,h]
 |m::l,q,0,h,_=>by simp[h]
 |m::l,q,j+1,h,hb=>by
  have hm:=hb m yOx
  have:=zBu l (q-min m q) j (by omega) (fun x hx=>hb x (yOz _ hx))
  rw[wQ,yQa,yQc]
  omega
theorem yMj (i:LqI) (h:fifoC.cnd i):yDh i:=by
 obtain⟨hl,hq⟩:i.l.length≤1000000∧i64r i.q:=h
 unfold yDh kL kO dI
 refine⟨i,rfl,rfl,⟨hl,hq⟩,fun _ _=>Cv.cnd.mk (fun c=> ?_) (fun c=> ?_)⟩
 ·have c:yK i.l i.q=false:=by simpa using c
  refine⟨(),?_,trivial⟩
  rw[wZ,yOr (by rw[c];decide)];rfl
 have c:yK i.l i.q=true:=by simpa using c
 obtain⟨h1,h2,h3,h4⟩:=qH c
 have hq2:=zDt c
 have h3':∀x∈i.l,0≤x:=fun x hx=>by have:=h3 x hx;omega
 simp only[y6]
 refine⟨0,by simp,rfl,rfl,fun j=>j≤i.l.length,fun j=>i.l.length-j,yQn _,fun j hj=>zI (fun d=> ?_) (fun d=> ?_)⟩
 ·have hj':j<i.l.length:=by omega
  obtain⟨x,hx⟩:=z8 (l:=i.l) (i:=j) hj'
  have bx:=h3 x (yPe hx)
  have g:=zFj i.l i.q j x hx
  have r:=zBu i.l i.q j h2 h3'
  refine⟨⟨by omega,by omega⟩,x,elI hx,by rw[yPl];omega,j+1,?_,wjn (by omega),?_,hj',by dsimp only;omega,trivial⟩
  ·rw[kA g,w64 (by omega)];omega
  ·rw[yQb,g];simp[iE]
 ·have hj':j=i.l.length:=by omega
  subst hj'
  refine⟨(),?_,trivial⟩
  rw[wZ,yOu c,yPf (by rw[nO];omega)]
theorem zXu:fifoC.ok Tryz.prog 251:=okw mixed (gokc eC gok0) 0 (fun _=>[]) (fun i=>yMf i) [] Tryz.func251 yMj
open Go Cv Go.Proofs
structure Ent where
 slot:Int
 id:Int
 qty:Int
 top:Bool
 deriving DecidableEq
def yKu:Ent:=⟨0,0,0,false⟩
def zDm (e:Ent):List D:=[.v (.int .i64 e.slot),.v (.int .i64 e.id),.v (.int .i64 e.qty),.v (.bool e.top)]
@[reducible] def yOa (e:Ent):V:= .agg [zA e.slot,zA e.id,zA e.qty,yB e.top]
def Slot.ent (s:Slot):Ent:=⟨s.n,s.id,s.qty,s.top⟩
def Arena.slotAt (a:Arena) (k:Nat):Slot:=a.slots.getD k slot0
def Arena.getF (a:Arena) (n:Int):Ent×Bool:=if a.usedAt n=true then((a.slotAt n.toNat).ent,true)else(yKu,false)
def agetC:Con:=con1 ArN (fun i=>[.nm 0 0,zA i.n]) (fun i=>[qX i.a]) (fun i=>i.a.slots.length≤1000000) (fun i=> .tup [yOa (i.a.getF i.n).1,yB (i.a.getF i.n).2]) (fun i=>[qX i.a])
def zRw (sl:List Slot):Int→List Nat→Prop
 |at_,[]=>at_= -1
 |at_,k::l=>at_=k∧k<sl.length∧zRw sl (sl.getD k slot0).back l
structure ArL where
 a:Arena
 n:Int
 l:List Nat
def mW (l:List Nat) (j:Nat):Int:=match l[j]? with
 |some k=>k
 |none=> -1
def Arena.ents (a:Arena) (l:List Nat):List Ent:=l.map fun k=>(a.slotAt k).ent
structure Arena.listOk (a:Arena) (n:Int) (l:List Nat):Prop where
 len:l.length≤1000000
 ch:if 0≤n∧n<a.queues.length then zRw a.slots (a.queues.getD n.toNat dB).first l else l=[]
def alistC:Con:=con1 ArL (fun i=>[.nm 0 0,zA i.n]) (fun i=>[qX i.a]) (fun i=>i.a.listOk i.n i.l) (fun _=> .own 1) (fun i=>[qX i.a,.own 246 4 ((i.a.ents i.l).map zDm)])
def yJc (i:ArL):List SAnn:=[{ι:=Nat,slots:=fun j=>[(5,.own 0),(6,zA (mW i.l j))],rows:=fun j=>[.own 246 4 ((i.a.ents (i.l.take j)).map zDm)]}]
structure TkI where
 a:Arena
 n:Int
 qty:Int
def Arena.dropF (a:Arena) (k:Nat):Arena:=
 let s:=a.slotAt k
 let q:=a.queues.getD s.queue.toNat dB
 let sl1:=if s.ahead= -1 then a.slots else a.slots.modify s.ahead.toNat fun x=>{x with back:=s.back}
 let sl2:=if s.back= -1 then sl1 else sl1.modify s.back.toNat fun x=>{x with ahead:=s.ahead}
 ⟨sl2.set k slot0,a.queues.set s.queue.toNat ⟨if s.ahead= -1 then s.back else q.first,if s.back= -1 then s.ahead else q.last,q.total,IntKind.i64.wrap (q.count-1)⟩,IntKind.i64.wrap (a.free+1)⟩
def Arena.less (a:Arena) (k:Nat) (qty:Int):Arena:=
 {a with slots:=a.slots.modify k fun s=>{s with qty:=s.qty-qty},queues:=a.queues.modify (a.slotAt k).queue.toNat fun q=>{q with total:=IntKind.i64.wrap (q.total-qty)}}
def Arena.takeF (a:Arena) (n qty:Int):Arena×Int:=
 if a.usedAt n=false then(a,26)else if qty<1∨(a.slotAt n.toNat).qty<qty then(a,24)
 else if(a.slotAt n.toNat).qty=qty then((a.less n.toNat qty).dropF n.toNat,0)else(a.less n.toNat qty,0)
def Arena.okAt (a:Arena):Prop:=a.slots.length≤1000000∧∀(k:Nat) (s:Slot),a.slots[k]? =some s→s.used=true→(0≤s.queue∧s.queue<a.queues.length)∧s.qty≤1000000∧(s.ahead= -1∨(0≤s.ahead∧s.ahead<a.slots.length∧s.ahead≠k))∧(s.back= -1∨(0≤s.back∧s.back<a.slots.length∧s.back≠k))
def atakeC:Con:=con1 TkI (fun i=>[.nm 0 0,zA i.n,zA i.qty]) (fun i=>[qX i.a]) (fun i=>i.a.okAt) (fun i=>zA (i.a.takeF i.n i.qty).2) (fun i=>[qX (i.a.takeF i.n i.qty).1])
open Go Cv Go.Proofs
def rQ (a:ArN):Prop:=∃(b:Unit),(a.a.getF a.n).fst.slot=0∧(a.a.getF a.n).fst.id=0∧(a.a.getF a.n).fst.qty=0∧(a.a.getF a.n).fst.top=false∧(a.a.getF a.n).snd=false∧qM a
def yEo (i:ArN):Prop:=
 cnd (decide (i.n<0)) (rQ i) (cnd (decide (i.n≥(↑(List.map zP i.a.slots).length:Int))) (rQ i) ((0≤i.n∧i.n<(↑(List.map zP i.a.slots).length:Int))∧∃(a:Bool),zF (List.map zP i.a.slots) i.n.toNat ((0:Nat)+(0:Nat)) 1=some [D.v (.bool a)]∧cnd (!a) (rQ i) ((0≤i.n∧i.n<(↑(List.map zP i.a.slots).length:Int))∧∃(b:Int),∃(c:Int),∃(d:Int),∃(e:Bool),zF (List.map zP i.a.slots) i.n.toNat ((0:Nat)+(1:Nat)) 4=some [dI b,dI c,dI d,D.v (.bool e)]∧∃(f:Unit),(i.a.getF i.n).fst.slot=b∧(i.a.getF i.n).fst.id=c∧(i.a.getF i.n).fst.qty=d∧(i.a.getF i.n).fst.top=e∧(i.a.getF i.n).snd=true∧qM i)))
def tD (a:ArL):Prop:=∃(b:Unit),a.a.free=a.a.free∧List.map zP a.a.slots=List.map zP a.a.slots∧List.map zM a.a.queues=List.map zM a.a.queues∧List.map zDm (a.a.ents a.l)=[]∧True
def z2c (i:ArL):Prop:=
 cnd (decide (i.n≥0)) (cnd (!decide (i.n<(↑(List.map zM i.a.queues).length:Int))) (tD i) ((0≤i.n∧i.n<(↑(List.map zM i.a.queues).length:Int))∧∃(a:Int),zF (List.map zM i.a.queues) i.n.toNat ((0:Nat)+(0:Nat)) 1=some [dI a]∧∃(b:Nat),mW i.l b=a∧List.map zDm (i.a.ents (List.take b i.l))=[]∧∃(c:Nat→Prop),∃(d:Nat→Nat),c b∧∀(e:Nat),c e→cnd (mW i.l e !=(-1)) ((0≤mW i.l e∧mW i.l e<(↑(List.map zP i.a.slots).length:Int))∧∃(f:Int),∃(g:Int),∃(h:Int),∃(j:Bool),zF (List.map zP i.a.slots) (mW i.l e).toNat ((0:Nat)+(1:Nat)) 4=some [dI f,dI g,dI h,D.v (.bool j)]∧((List.map zDm (i.a.ents (List.take e i.l))).length+1)*(32:Nat)≤(140737488355328:Nat)∧(0≤mW i.l e∧mW i.l e<(↑(List.map zP i.a.slots).length:Int))∧∃(k:Int),zF (List.map zP i.a.slots) (mW i.l e).toNat ((0:Nat)+(7:Nat)) 1=some [dI k]∧∃(l:Nat),mW i.l l=k∧List.map zDm (i.a.ents (List.take l i.l))=List.map zDm (i.a.ents (List.take e i.l))++[[dI f,dI g,dI h,D.v (.bool j)]]∧c l∧d l<d e∧Sx.AObj.cells (wT (qQ 0 1 3) [V.own 1,V.own 2,zA i.a.free]) (350:TypeId)=Sx.AObj.cells (wT (qQ 0 1 3) [V.own 1,V.own 2,zA i.a.free]) (350:TypeId)∧AObj.own 305 8 (List.map zP i.a.slots)=AObj.own 305 8 (List.map zP i.a.slots)∧AObj.own 354 4 (List.map zM i.a.queues)=AObj.own 354 4 (List.map zM i.a.queues)) (∃(f:Unit),i.a.free=i.a.free∧List.map zP i.a.slots=List.map zP i.a.slots∧List.map zM i.a.queues=List.map zM i.a.queues∧List.map zDm (i.a.ents i.l)=List.map zDm (i.a.ents (List.take e i.l))∧True))) (tD i)
def sW (a:TkI):Prop:=(a.a.takeF a.n a.qty).fst.free=a.a.free∧List.map zP (a.a.takeF a.n a.qty).fst.slots=List.map zP a.a.slots∧List.map zM (a.a.takeF a.n a.qty).fst.queues=List.map zM a.a.queues∧True
def bZ (a:TkI):Prop:=∃(b:Unit),(a.a.takeF a.n a.qty).snd=26∧sW a
def tG (a:TkI):Prop:=∃(b:Unit),(a.a.takeF a.n a.qty).snd=24∧sW a
def yV (a:TkI) (b:Int):=(yA (List.map zP a.a.slots) a.n.toNat ((0:Nat)+(1:Nat)+2) [dI (IntKind.i64.wrap (b-a.qty))])
def qW (a:TkI) (b:Int) (c:Int) (d:Int):=(yA (yV a b) c.toNat ((0:Nat)+(7:Nat)) [dI d])
def sE (a:TkI) (b:Int) (c:Int) (d:Int) (e:Int) (f:Int):=(yA (qW a b c d) e.toNat ((0:Nat)+(6:Nat)) [dI f])
def jB (a:TkI) (b:Int) (c:Int):=(yA (List.map zM a.a.queues) b.toNat ((0:Nat)+(2:Nat)) [dI (IntKind.i64.wrap (c-a.qty))])
def gC (a:TkI) (b:Int) (c:Int) (d:Int) (e:Int):=(yA (jB a b c) d.toNat ((0:Nat)+(0:Nat)) [dI e])
def aF (a:TkI) (b:Int) (c:Int) (d:Int) (e:Int) (f:Int):=(yA (gC a b c d e) d.toNat ((0:Nat)+(1:Nat)) [dI f])
def sS (a:TkI) (b:Int) (c:Int) (d:Int):=(yA (yV a b) c.toNat ((0:Nat)+(6:Nat)) [dI d])
def sK (a:Int) (b:TkI) (c:Int):Prop:=0≤a∧a<(↑(yV b c).length:Int)
def aN (a:TkI) (b:Int) (c:Int) (d:Int) (e:Int):=(yA (jB a b c) d.toNat ((0:Nat)+(1:Nat)) [dI e])
def z3b (i:TkI):Prop:=
 cnd (decide (i.n<0)) (bZ i) (cnd (decide (i.n≥(↑(List.map zP i.a.slots).length:Int))) (bZ i) ((0≤i.n∧i.n<(↑(List.map zP i.a.slots).length:Int))∧∃(a:Bool),zF (List.map zP i.a.slots) i.n.toNat ((0:Nat)+(0:Nat)) 1=some [D.v (.bool a)]∧cnd (!a) (bZ i) ((0≤i.n∧i.n<(↑(List.map zP i.a.slots).length:Int))∧cnd (decide (i.qty<1)) (tG i) (∃(b:Int),zF (List.map zP i.a.slots) i.n.toNat ((0:Nat)+(1:Nat)+2) 1=some [dI b]∧cnd (decide (i.qty>b)) (tG i) (∃(c:Int),zF (List.map zP i.a.slots) i.n.toNat ((0:Nat)+(1:Nat)+2) 1=some [dI c]∧i.n.toNat<(List.map zP i.a.slots).length∧∃(d:Int),zF (yV i c) i.n.toNat ((0:Nat)+(5:Nat)) 1=some [dI d]∧(0≤d∧d<(↑(List.map zM i.a.queues).length:Int))∧∃(e:Int),zF (List.map zM i.a.queues) d.toNat ((0:Nat)+(2:Nat)) 1=some [dI e]∧(0≤d∧d<(↑(List.map zM i.a.queues).length:Int))∧d.toNat<(List.map zM i.a.queues).length∧∃(f:Int),zF (yV i c) i.n.toNat ((0:Nat)+(1:Nat)+2) 1=some [dI f]∧cnd (f==0) (∃(g:Int),zF (yV i c) i.n.toNat ((0:Nat)+(5:Nat)) 1=some [dI g]∧(0≤g∧g<(↑(jB i d e).length:Int))∧∃(h:Int),zF (yV i c) i.n.toNat ((0:Nat)+(6:Nat)) 1=some [dI h]∧cnd (h==(-1)) (∃(j:Int),zF (yV i c) i.n.toNat ((0:Nat)+(7:Nat)) 1=some [dI j]∧g.toNat<(jB i d e).length∧∃(k:Int),zF (yV i c) i.n.toNat ((0:Nat)+(7:Nat)) 1=some [dI k]∧cnd (k==(-1)) (∃(l:Int),zF (yV i c) i.n.toNat ((0:Nat)+(6:Nat)) 1=some [dI l]∧g.toNat<(gC i d e g j).length∧∃(m:Int),zF (aF i d e g j l) g.toNat ((0:Nat)+(3:Nat)) 1=some [dI m]∧g.toNat<(aF i d e g j l).length∧i.n.toNat<(yV i c).length∧∃(n:Unit),(i.a.takeF i.n i.qty).snd=0∧(i.a.takeF i.n i.qty).fst.free=IntKind.i64.wrap (i.a.free+1)∧List.map zP (i.a.takeF i.n i.qty).fst.slots=yA (yV i c) i.n.toNat 0 [D.v (.bool false),dI 0,dI 0,dI 0,D.v (.bool false),dI 0,dI 0,dI 0]∧List.map zM (i.a.takeF i.n i.qty).fst.queues=yA (aF i d e g j l) g.toNat ((0:Nat)+(3:Nat)) [dI (IntKind.i64.wrap (m-1))]∧True) (∃(l:Int),zF (yV i c) i.n.toNat ((0:Nat)+(7:Nat)) 1=some [dI l]∧∃(m:Int),zF (yV i c) i.n.toNat ((0:Nat)+(6:Nat)) 1=some [dI m]∧(sK l i c)∧l.toNat<(yV i c).length∧∃(n:Int),zF (gC i d e g j) g.toNat ((0:Nat)+(3:Nat)) 1=some [dI n]∧g.toNat<(gC i d e g j).length∧i.n.toNat<(sS i c l m).length∧∃(p:Unit),(i.a.takeF i.n i.qty).snd=0∧(i.a.takeF i.n i.qty).fst.free=IntKind.i64.wrap (i.a.free+1)∧List.map zP (i.a.takeF i.n i.qty).fst.slots=yA (sS i c l m) i.n.toNat 0 [D.v (.bool false),dI 0,dI 0,dI 0,D.v (.bool false),dI 0,dI 0,dI 0]∧List.map zM (i.a.takeF i.n i.qty).fst.queues=yA (gC i d e g j) g.toNat ((0:Nat)+(3:Nat)) [dI (IntKind.i64.wrap (n-1))]∧True)) (∃(j:Int),zF (yV i c) i.n.toNat ((0:Nat)+(6:Nat)) 1=some [dI j]∧∃(k:Int),zF (yV i c) i.n.toNat ((0:Nat)+(7:Nat)) 1=some [dI k]∧(sK j i c)∧j.toNat<(yV i c).length∧∃(l:Int),zF (qW i c j k) i.n.toNat ((0:Nat)+(7:Nat)) 1=some [dI l]∧cnd (l==(-1)) (∃(m:Int),zF (qW i c j k) i.n.toNat ((0:Nat)+(6:Nat)) 1=some [dI m]∧g.toNat<(jB i d e).length∧∃(n:Int),zF (aN i d e g m) g.toNat ((0:Nat)+(3:Nat)) 1=some [dI n]∧g.toNat<(aN i d e g m).length∧i.n.toNat<(qW i c j k).length∧∃(p:Unit),(i.a.takeF i.n i.qty).snd=0∧(i.a.takeF i.n i.qty).fst.free=IntKind.i64.wrap (i.a.free+1)∧List.map zP (i.a.takeF i.n i.qty).fst.slots=yA (qW i c j k) i.n.toNat 0 [D.v (.bool false),dI 0,dI 0,dI 0,D.v (.bool false),dI 0,dI 0,dI 0]∧List.map zM (i.a.takeF i.n i.qty).fst.queues=yA (aN i d e g m) g.toNat ((0:Nat)+(3:Nat)) [dI (IntKind.i64.wrap (n-1))]∧True) (∃(m:Int),zF (qW i c j k) i.n.toNat ((0:Nat)+(7:Nat)) 1=some [dI m]∧∃(n:Int),zF (qW i c j k) i.n.toNat ((0:Nat)+(6:Nat)) 1=some [dI n]∧(0≤m∧m<(↑(qW i c j k).length:Int))∧m.toNat<(qW i c j k).length∧∃(p:Int),zF (jB i d e) g.toNat ((0:Nat)+(3:Nat)) 1=some [dI p]∧g.toNat<(jB i d e).length∧i.n.toNat<(sE i c j k m n).length∧∃(q:Unit),(i.a.takeF i.n i.qty).snd=0∧(i.a.takeF i.n i.qty).fst.free=IntKind.i64.wrap (i.a.free+1)∧List.map zP (i.a.takeF i.n i.qty).fst.slots=yA (sE i c j k m n) i.n.toNat 0 [D.v (.bool false),dI 0,dI 0,dI 0,D.v (.bool false),dI 0,dI 0,dI 0]∧List.map zM (i.a.takeF i.n i.qty).fst.queues=yA (jB i d e) g.toNat ((0:Nat)+(3:Nat)) [dI (IntKind.i64.wrap (p-1))]∧True))) (∃(g:Unit),(i.a.takeF i.n i.qty).snd=0∧(i.a.takeF i.n i.qty).fst.free=i.a.free∧List.map zP (i.a.takeF i.n i.qty).fst.slots=yA (List.map zP i.a.slots) i.n.toNat ((0:Nat)+(1:Nat)+2) [dI (IntKind.i64.wrap (c-i.qty))]∧List.map zM (i.a.takeF i.n i.qty).fst.queues=yA (List.map zM i.a.queues) d.toNat ((0:Nat)+(2:Nat)) [dI (IntKind.i64.wrap (e-i.qty))]∧True))))))
open Go Cv Go.Proofs
theorem zEd {a:Arena} {n:Int} (h:n<0∨(a.slots.length:Int)≤n):a.usedAt n=false:=by
 rcases h with h|h
 ·rw[Arena.usedAt,yPm (by omega),yRv]
 ·rw[Arena.usedAt,yPm (show ¬n<(a.slots.length:Int)by omega),yRv,yTj]
theorem zXf {a:Arena} {n:Int} {s:Slot} (h0:0≤n) (hs:a.slots[n.toNat]? =some s):a.usedAt n=s.used:=by
 have hl:=(yOt.1 hs).1
 rw[Arena.usedAt,yPn h0,yPn (show n<(a.slots.length:Int)by omega),zQ hs];simp
theorem y4 {a:Arena} {k:Nat} {s:Slot} (hs:a.slots[k]? =some s):a.slotAt k=s:=zQ hs
theorem yMk (i:ArN) (h:agetC.cnd i):yEo i:=by
 have h:i.a.slots.length≤1000000:=h
 unfold yEo rQ qM dI
 simp only[yOs]
 have no (e:i.a.usedAt i.n=false):i.a.getF i.n=(yKu,false):=by rw[Arena.getF,yOr (by rw[e];decide)]
 refine zI (fun c=> ?_) (fun c=>zI (fun d=> ?_) (fun d=> ?_))
 ·rw[no (zEd (.inl c))];(repeat'(first|exact rfl|exact trivial|assumption|apply And.intro|refine fun(_:Unit) (_:True)=>?_|refine Exists.intro () ?_|omega|(dsimp only;omega)))
 ·rw[no (zEd (.inr (by omega)))];(repeat'(first|exact rfl|exact trivial|assumption|apply And.intro|refine fun(_:Unit) (_:True)=>?_|refine Exists.intro () ?_|omega|(dsimp only;omega)))
 ·obtain⟨s,hs⟩:=z8 (l:=i.a.slots) (i:=i.n.toNat) (by omega)
  have eu:=zXf (a:=i.a) (n:=i.n) (by omega) hs
  refine⟨⟨by omega,by omega⟩,s.used,elA hs (by simp[zP]) rfl,Cv.cnd.mk (fun u=> ?_) (fun u=> ?_)⟩
  ·rw[no (by rw[eu];simpa using u)];(repeat'(first|exact rfl|exact trivial|assumption|apply And.intro|refine fun(_:Unit) (_:True)=>?_|refine Exists.intro () ?_|omega|(dsimp only;omega)))
  ·have e:i.a.usedAt i.n=true:=by rw[eu];simpa using u
   have et:i.a.getF i.n=(s.ent,true):=by rw[Arena.getF,yOu e,y4 hs]
   rw[et]
   refine⟨⟨by omega,by omega⟩,s.n,s.id,s.qty,s.top,elA hs (by simp[zP]) rfl,?_⟩
   (repeat'(first|exact rfl|exact trivial|assumption|apply And.intro|refine fun(_:Unit) (_:True)=>?_|refine Exists.intro () ?_|omega|(dsimp only;omega)))
theorem zXv:agetC.ok Tryz.prog 148:=okw mixed gok0 1 (fun _=>[]) (fun _=>[]) [0] Tryz.func148 yMk
theorem zJq:∀{sl:List Slot} {at_:Int} {l:List Nat},zRw sl at_ l→mW l 0=at_∧∀j k,l[j]? =some k→k<sl.length∧mW l (j+1)=(sl.getD k slot0).back
 |sl,at_,[],h=>⟨h.symm,fun j k hk=>by simp at hk⟩
 |sl,at_,x::l,h=>by
  obtain⟨h1,h2,h3⟩:=h
  have ih:=zJq h3
  refine⟨h1.symm,fun j k hk=> ?_⟩
  cases j with
  |zero=>
   simp at hk;subst hk
   exact⟨h2,by rw[← ih.1];rfl⟩
  |succ j=>
   rw[yQj]at hk
   obtain⟨a,b⟩:=ih.2 j k hk
   exact⟨a,by rw[← b];rfl⟩
theorem yJb (i:ArL) (h:alistC.cnd i):z2c i:=by
 obtain⟨hl,h⟩:i.l.length≤1000000∧(if 0≤i.n∧i.n<i.a.queues.length then zRw i.a.slots (i.a.queues.getD i.n.toNat dB).first i.l else i.l=[]):=⟨h.len,h.ch⟩
 unfold z2c tD dI
 simp only[yOs]
 have out (e:¬(0≤i.n∧i.n<(i.a.queues.length:Int))):i.l=[]:=by rw[yOr e]at h;exact h
 refine zI (fun c=>Cv.cnd.mk (fun d=> ?_) (fun d=> ?_)) (fun c=> ?_)
 ·have d:¬i.n<(i.a.queues.length:Int):=by simpa using d
  rw[out (by omega)];(repeat'(first|exact rfl|exact trivial|assumption|apply And.intro|refine fun(_:Unit) (_:True)=>?_|refine Exists.intro () ?_|omega|(dsimp only;omega)))
 ·have d:i.n<(i.a.queues.length:Int):=by simpa using d
  rw[yOu ⟨by omega,d⟩]at h
  obtain⟨q,hq⟩:=z8 (l:=i.a.queues) (i:=i.n.toNat) (by omega)
  rw[zQ hq]at h
  obtain⟨n0,nx⟩:=zJq h
  refine⟨⟨by omega,by omega⟩,q.first,elA hq (by simp[zM]) rfl,0,n0,rfl,fun j=>j≤i.l.length,fun j=>i.l.length-j,yQn _,fun j hj=>Cv.cnd.mk (fun e=> ?_) (fun e=> ?_)⟩
  ·have e:mW i.l j≠-1:=by simpa using e
   obtain⟨k,hk⟩:∃k,i.l[j]? =some k:=by
    cases hk:i.l[j]? with
    |none=>rw[mW,hk]at e;exact absurd rfl e
    |some k=>exact⟨k,rfl⟩
   have hjl:=(yOt.1 hk).1
   obtain⟨hkl,hnx⟩:=nx j k hk
   have en:mW i.l j=k:=by rw[mW,hk]
   obtain⟨s,hs⟩:=z8 (l:=i.a.slots) (i:=k) hkl
   rw[en,yPj]
   refine⟨⟨by omega,by omega⟩,s.n,s.id,s.qty,s.top,elA hs (by simp[zP]) rfl,?_,⟨by omega,by omega⟩,s.back,elA hs (by simp[zP]) rfl,j+1,by rw[hnx,zQ hs],?_,hjl,by dsimp only;omega,by(repeat'(first|exact trivial|exact rfl|apply And.intro))⟩
   ·simp only[Arena.ents,yOs,yPl];omega
   ·rw[yQb,hk]
    simp only[Arena.ents,Option.toList,yPc,yPd,ySc,y4 hs]
    rfl
  ·have e:mW i.l j= -1:=by simpa using e
   have hj':i.l.length≤j:=by
    apply Classical.byContradiction
    intro hn
    obtain⟨k,hk⟩:=z8 (l:=i.l) (i:=j) (by omega)
    rw[mW,hk]at e
    simp only at e;omega
   rw[yPf hj']
   (repeat'(first|exact rfl|exact trivial|assumption|apply And.intro|refine fun(_:Unit) (_:True)=>?_|refine Exists.intro () ?_|omega|(dsimp only;omega)))
 ·rw[out (by omega)];(repeat'(first|exact rfl|exact trivial|assumption|apply And.intro|refine fun(_:Unit) (_:True)=>?_|refine Exists.intro () ?_|omega|(dsimp only;omega)))
theorem z7q:alistC.ok Tryz.prog 275:=okw mixed gok0 1 (fun _=>[]) (fun i=>yJc i) [0] Tryz.func275 yJb
theorem zUz {α:Type} {l:List α} {i k:Nat} {x y:α} (h:i≠k) (hk:l[k]? =some x):(l.set i y)[k]? =some x:=by
 rw[List.getElem?_set_ne h];exact hk
theorem yHa (i:TkI) (h:atakeC.cnd i):z3b i:=by
 obtain⟨hl,hok⟩:i.a.okAt:=h
 unfold z3b aN sK sS aF gC jB sE qW yV tG bZ sW dI
 simp only[yOs]
 have no (e:i.a.usedAt i.n=false):i.a.takeF i.n i.qty=(i.a,26):=by rw[Arena.takeF,yOu e]
 refine zI (fun c=> ?_) (fun c=>zI (fun d=> ?_) (fun d=> ?_))
 ·rw[no (zEd (.inl c))];(repeat'(first|exact rfl|exact trivial|assumption|apply And.intro|refine fun(_:Unit) (_:True)=>?_|refine Exists.intro () ?_|omega|(dsimp only;omega)))
 ·rw[no (zEd (.inr (by omega)))];(repeat'(first|exact rfl|exact trivial|assumption|apply And.intro|refine fun(_:Unit) (_:True)=>?_|refine Exists.intro () ?_|omega|(dsimp only;omega)))
 obtain⟨k,hk⟩:∃k,k=i.n.toNat:=⟨_,rfl⟩
 rw[← hk]
 obtain⟨s,hs⟩:=z8 (l:=i.a.slots) (i:=k) (by omega)
 have hs':i.a.slots[i.n.toNat]? =some s:=by rw[← hk];exact hs
 have eu:=zXf (a:=i.a) (n:=i.n) (by omega) hs'
 refine⟨⟨by omega,by omega⟩,s.used,elA hs (by simp[zP]) rfl,Cv.cnd.mk (fun u=> ?_) (fun u=> ?_)⟩
 ·rw[no (by rw[eu];simpa using u)];(repeat'(first|exact rfl|exact trivial|assumption|apply And.intro|refine fun(_:Unit) (_:True)=>?_|refine Exists.intro () ?_|omega|(dsimp only;omega)))
 have u:s.used=true:=by simpa using u
 have e:¬i.a.usedAt i.n=false:=by rw[eu,u];decide
 obtain⟨⟨q0,q1⟩,sq,sa,sb⟩:=hok k s hs u
 have esl:i.a.slotAt i.n.toNat=s:=y4 hs'
 have bad (hq:i.qty<1∨s.qty<i.qty):i.a.takeF i.n i.qty=(i.a,24):=by rw[Arena.takeF,yOr e,esl,yOu hq]
 refine⟨⟨by omega,by omega⟩,zI (fun c1=>by rw[bad (.inl c1)];(repeat'(first|exact rfl|exact trivial|assumption|apply And.intro|refine fun(_:Unit) (_:True)=>?_|refine Exists.intro () ?_|omega|(dsimp only;omega)))) (fun c1=>⟨s.qty,elA hs (by simp[zP]) rfl,zI (fun c2=>by rw[bad (.inr (by omega))];(repeat'(first|exact rfl|exact trivial|assumption|apply And.intro|refine fun(_:Unit) (_:True)=>?_|refine Exists.intro () ?_|omega|(dsimp only;omega)))) (fun c2=>⟨s.qty,elA hs (by simp[zP]) rfl,by omega,?_⟩)⟩)⟩
 obtain⟨q,hq⟩:=z8 (l:=i.a.queues) (i:=s.queue.toNat) (by omega)
 have hs1:(i.a.slots.set k {s with qty:=s.qty-i.qty})[k]? =some {s with qty:=s.qty-i.qty}:=wI hs
 have hq1:(i.a.queues.set s.queue.toNat {q with total:=IntKind.i64.wrap (q.total-i.qty)})[s.queue.toNat]? =some {q with total:=IntKind.i64.wrap (q.total-i.qty)}:=wI hq
 have hle:i.a.less i.n.toNat i.qty=⟨i.a.slots.set k {s with qty:=s.qty-i.qty},i.a.queues.set s.queue.toNat {q with total:=IntKind.i64.wrap (q.total-i.qty)},i.a.free⟩:=by
  rw[Arena.less,esl,gK hs',gK hq,hk]
 have hL:(i.a.slots.set k {s with qty:=s.qty-i.qty}).length=i.a.slots.length:=yPw
 have hQ:(i.a.queues.set s.queue.toNat {q with total:=IntKind.i64.wrap (q.total-i.qty)}).length=i.a.queues.length:=yPw
 have tk:i.a.takeF i.n i.qty=if s.qty=i.qty then((i.a.less i.n.toNat i.qty).dropF i.n.toNat,0)else(i.a.less i.n.toNat i.qty,0):=by rw[Arena.takeF,yOr e,esl,yOr (by omega)]
 rw[hle,← hk]at tk
 rw[w64 (x:=s.qty-i.qty) (by omega),yD hs (y:={s with qty:=s.qty-i.qty}) rfl]
 refine⟨s.queue,elA hs1 (by simp[zP]) rfl,⟨q0,q1⟩,q.total,elA hq (by simp[zM]) rfl,⟨q0,q1⟩,by omega,s.qty-i.qty,elA hs1 (by simp[zP]) rfl,?_⟩
 rw[yD hq (y:={q with total:=IntKind.i64.wrap (q.total-i.qty)}) rfl]
 simp only[yOs]
 generalize hL1:i.a.slots.set k {s with qty:=s.qty-i.qty}=L1 at*
 generalize hQ1:i.a.queues.set s.queue.toNat {q with total:=IntKind.i64.wrap (q.total-i.qty)}=Q1 at*
 refine Cv.cnd.mk (fun z=> ?_) (fun z=> ?_)
 ·have z:s.qty=i.qty:=by have:s.qty-i.qty=0:=by simpa using z
                         omega
  rw[yOu z]at tk
  have esl1:(⟨L1,Q1,i.a.free⟩:Arena).slotAt k={s with qty:=s.qty-i.qty}:=y4 hs1
  have eq1:Q1.getD s.queue.toNat dB={q with total:=IntKind.i64.wrap (q.total-i.qty)}:=zQ hq1
  rw[Arena.dropF,esl1]at tk
  dsimp only at tk
  rw[eq1]at tk
  dsimp only at tk
  rw[tk]
  refine⟨s.queue,elA hs1 (by simp[zP]) rfl,⟨q0,by omega⟩,s.ahead,elA hs1 (by simp[zP]) rfl,Cv.cnd.mk (fun ea=> ?_) (fun ea=> ?_)⟩
  ·have ea:s.ahead= -1:=by simpa using ea
   refine⟨s.back,elA hs1 (by simp[zP]) rfl,by omega,s.back,elA hs1 (by simp[zP]) rfl,?_⟩
   rw[yD hq1 (y:=⟨s.back,q.last,IntKind.i64.wrap (q.total-i.qty),q.count⟩) rfl]
   have hq2:(Q1.set s.queue.toNat ⟨s.back,q.last,IntKind.i64.wrap (q.total-i.qty),q.count⟩)[s.queue.toNat]? =some ⟨s.back,q.last,IntKind.i64.wrap (q.total-i.qty),q.count⟩:=wI hq1
   simp only[yOs,yPw]
   refine Cv.cnd.mk (fun eb=> ?_) (fun eb=> ?_)
   ·have eb:s.back= -1:=by simpa using eb
    refine⟨s.ahead,elA hs1 (by simp[zP]) rfl,by omega,q.count,?_,?_⟩
    ·rw[yD hq2 (y:=⟨s.back,s.ahead,IntKind.i64.wrap (q.total-i.qty),q.count⟩) rfl]
     exact elA (wI hq2) (by simp[zM]) rfl
    rw[yD hq2 (y:=⟨s.back,s.ahead,IntKind.i64.wrap (q.total-i.qty),q.count⟩) rfl,yD (wI hq2) (y:=⟨s.back,s.ahead,IntKind.i64.wrap (q.total-i.qty),IntKind.i64.wrap (q.count-1)⟩) rfl,yD hs1 (y:=slot0) rfl]
    simp only[yOs,yPw,ySq,yOu ea,yOu eb]
    refine⟨by omega,by omega,(),by(first|exact rfl|exact trivial),by(first|exact rfl|exact trivial),by(first|exact rfl|exact trivial),by(first|exact rfl|exact trivial),trivial⟩
   ·have eb:s.back≠-1:=by simpa using eb
    obtain⟨b0,b1,b2⟩:0≤s.back∧s.back<i.a.slots.length∧s.back≠k:=by omega
    obtain⟨x,hx⟩:=z8 (l:=L1) (i:=s.back.toNat) (by omega)
    refine⟨s.back,elA hs1 (by simp[zP]) rfl,s.ahead,elA hs1 (by simp[zP]) rfl,⟨b0,by omega⟩,by omega,q.count,elA hq2 (by simp[zM]) rfl,?_⟩
    rw[yD hx (y:={x with ahead:=s.ahead}) rfl,yD hq2 (y:=⟨s.back,q.last,IntKind.i64.wrap (q.total-i.qty),IntKind.i64.wrap (q.count-1)⟩) rfl,yD (zUz (by omega) hs1) (y:=slot0) rfl]
    simp only[yOs,yPw,ySq,yOu ea,yOr eb,gK hx]
    refine⟨by omega,by omega,(),by(first|exact rfl|exact trivial),by(first|exact rfl|exact trivial),by(first|exact rfl|exact trivial),by(first|exact rfl|exact trivial),trivial⟩
  ·have ea:s.ahead≠-1:=by simpa using ea
   obtain⟨a0,a1,a2⟩:0≤s.ahead∧s.ahead<i.a.slots.length∧s.ahead≠k:=by omega
   obtain⟨x,hx⟩:=z8 (l:=L1) (i:=s.ahead.toNat) (by omega)
   have hs2:(L1.set s.ahead.toNat {x with back:=s.back})[k]? =some {s with qty:=s.qty-i.qty}:=zUz (by omega) hs1
   refine⟨s.ahead,elA hs1 (by simp[zP]) rfl,s.back,elA hs1 (by simp[zP]) rfl,⟨a0,by omega⟩,by omega,s.back,?_,?_⟩
   ·rw[yD hx (y:={x with back:=s.back}) rfl]
    exact elA hs2 (by simp[zP]) rfl
   rw[yD hx (y:={x with back:=s.back}) rfl]
   simp only[yOs,yPw]
   refine Cv.cnd.mk (fun eb=> ?_) (fun eb=> ?_)
   ·have eb:s.back= -1:=by simpa using eb
    refine⟨s.ahead,elA hs2 (by simp[zP]) rfl,by omega,q.count,?_,?_⟩
    ·rw[yD hq1 (y:=⟨q.first,s.ahead,IntKind.i64.wrap (q.total-i.qty),q.count⟩) rfl]
     exact elA (wI hq1) (by simp[zM]) rfl
    rw[yD hq1 (y:=⟨q.first,s.ahead,IntKind.i64.wrap (q.total-i.qty),q.count⟩) rfl,yD (wI hq1) (y:=⟨q.first,s.ahead,IntKind.i64.wrap (q.total-i.qty),IntKind.i64.wrap (q.count-1)⟩) rfl,yD hs2 (y:=slot0) rfl]
    simp only[yOs,yPw,ySq,yOr ea,yOu eb,gK hx]
    refine⟨by omega,by omega,(),by(first|exact rfl|exact trivial),by(first|exact rfl|exact trivial),by(first|exact rfl|exact trivial),by(first|exact rfl|exact trivial),trivial⟩
   ·have eb:s.back≠-1:=by simpa using eb
    obtain⟨b0,b1,b2⟩:0≤s.back∧s.back<i.a.slots.length∧s.back≠k:=by omega
    obtain⟨y,hy⟩:=z8 (l:=L1.set s.ahead.toNat {x with back:=s.back}) (i:=s.back.toNat) (by rw[yPw];omega)
    refine⟨s.back,elA hs2 (by simp[zP]) rfl,s.ahead,elA hs2 (by simp[zP]) rfl,⟨b0,by omega⟩,by omega,q.count,elA hq1 (by simp[zM]) rfl,?_⟩
    rw[yD hy (y:={y with ahead:=s.ahead}) rfl,yD hq1 (y:=⟨q.first,q.last,IntKind.i64.wrap (q.total-i.qty),IntKind.i64.wrap (q.count-1)⟩) rfl,yD (zUz (by omega) hs2) (y:=slot0) rfl]
    simp only[yOs,yPw,ySq,yOr ea,yOr eb,gK hx,gK hy]
    refine⟨by omega,by omega,(),by(first|exact rfl|exact trivial),by(first|exact rfl|exact trivial),by(first|exact rfl|exact trivial),by(first|exact rfl|exact trivial),trivial⟩
 ·have z:¬s.qty=i.qty:=by have:¬s.qty-i.qty=0:=by simpa using z
                          omega
  rw[yOr z]at tk
  rw[tk]
  exact⟨(),rfl,rfl,rfl,rfl,trivial⟩
theorem z2h:atakeC.ok Tryz.prog 195:=okw mixed gok0 1 (fun _=>[]) (fun _=>[]) [0] Tryz.func195 yHa
open Go Cv Go.Proofs
structure PlI where
 l:List Int
 least:Int
 q:Int
def zTp (l:List Int) (least q:Int):List Int:=l.map fun k=>if least≤k*q / l.sum then k*q / l.sum else 0
def kG:List (Int×Int)→Int→List Int
 |[],_=>[]
 |(n,x)::r,q=>(x+min (n-x) q)::kG r (q-min (n-x) q)
def PlI.p0 (i:PlI):List Int:=zTp i.l i.least i.q
def PlI.p1 (i:PlI):List Int:=kG (i.l.zip i.p0) (i.q-i.p0.sum)
def qF (i:PlI):List Int:=if yK i.l i.q=true∧1≤i.least then i.p1 else[]
def plainC:Con:=con1 PlI (fun i=>[iV i.l,zA i.least,zA i.q]) (fun _=>[]) (fun i=>i.l.length≤1000000∧i64r i.q∧i64r i.least) (fun _=> .own 0) (fun i=>[.own 2 1 (iE (qF i))])
def yGu (i:PlI):List SAnn:=[
 {ι:=Nat,slots:=fun j=>[(9,.own 0),(36,zA j)],rows:=fun j=>[.own 2 1 (iE (i.p0.take j++List.replicate (i.l.length-j) 0))]},
 {ι:=Nat,slots:=fun j=>[(2,zA (i.q-(i.p0.take j).sum)),(58,zA j)],rows:=fun _=>[]},
 {ι:=Nat,slots:=fun j=>[(9,.own 0),(2,zA (i.q-i.p0.sum+(i.p0.take j).sum-(i.p1.take j).sum)),(68,zA j)],rows:=fun j=>[.own 2 1 (iE (i.p1.take j++i.p0.drop j))]}]
open Go Cv Go.Proofs
def uY (a:Nat) (b:PlI):=(iE (List.take a b.p1++List.drop a b.p0))
def mI (a:Nat) (b:PlI):Prop:=0≤(↑a:Int)∧(↑a:Int)<(↑(uY a b).length:Int)
def vP (a:Nat) (b:PlI):=(List.take a b.p0++List.replicate (b.l.length-a) 0)
def vH (a:Nat) (b:PlI):=(iE (vP a b))
def dP (a:Nat) (b:PlI):=(↑(vH a b).length:Int)
def z8l (i:PlI):Prop:=
 ∃(a:LqI),iE a.l=iE i.l∧a.q=i.q∧(kO a)∧∀(b:Unit),True→cnd (!yK a.l a.q) (∃(c:Unit),iE (qF i)=[]∧True) (cnd (decide (i.least<1)) (∃(c:Unit),iE (qF i)=[]∧True) (∃(c:List Int),iE c=iE i.l∧(c.length≤1000∧∀(d:Int),d∈c→0≤d∧d≤1000000)∧∀(d:Unit),True→(0≤(↑(iE i.l).length:Int)∧(↑(iE i.l).length:Int)≤(↑(iE i.l).length:Int)∧(↑(iE i.l).length:Int)≤9223372036854775807∧(↑(8:Nat):Int)*(↑(iE i.l).length:Int)≤2 ^ (48:Nat))∧∃(e:Nat),(↑e:Int)=0∧iE (vP e i)=List.replicate (↑(iE i.l).length:Int).toNat [dI 0]∧∃(f:Nat→Prop),∃(g:Nat→Nat),f e∧∀(h:Nat),f h→cnd (decide ((↑h:Int)<(↑(iE i.l).length:Int))) ((0≤(↑h:Int)∧(↑h:Int)<(↑(iE i.l).length:Int))∧∃(j:Int),zF (iE i.l) (↑h:Int).toNat 0 1=some [dI j]∧∃(k:ShI),k.a=j∧k.b=i.q∧k.c=c.sum∧(0≤k.a∧k.a≤(2000000000:Int)∧(0:Int)≤k.b∧k.b≤(2000000000:Int)∧(1:Int)≤k.c∧k.c≤2000000000)∧∀(l:Unit),True→cnd (decide (k.a*k.b / k.c≥i.least)) ((0≤(↑h:Int)∧(↑h:Int)<(dP h i))∧(↑h:Int).toNat<(vH h i).length∧∃(m:Nat),(↑m:Int)=IntKind.i64.wrap ((↑h:Int)+1)∧iE (vP m i)=yA (vH h i) (↑h:Int).toNat 0 [dI (k.a*k.b / k.c)]∧f m∧g m<g h∧True) (∃(m:Nat),(↑m:Int)=IntKind.i64.wrap ((↑h:Int)+1)∧iE (vP m i)=iE (vP h i)∧f m∧g m<g h∧True)) (∃(j:Nat),i.q-(List.take j i.p0).sum=i.q∧(↑j:Int)=0∧∃(k:Nat→Prop),∃(l:Nat→Nat),k j∧∀(m:Nat),k m→cnd (decide ((↑m:Int)<(dP h i))) ((0≤(↑m:Int)∧(↑m:Int)<(dP h i))∧∃(n:Int),zF (vH h i) (↑m:Int).toNat 0 1=some [dI n]∧∃(p:Nat),i.q-(List.take p i.p0).sum=IntKind.i64.wrap (i.q-(List.take m i.p0).sum-n)∧(↑p:Int)=IntKind.i64.wrap ((↑m:Int)+1)∧k p∧l p<l m∧AObj.own 2 1 (vH h i)=AObj.own 2 1 (vH h i)) (∃(n:Nat),i.q-i.p0.sum+(List.take n i.p0).sum-(List.take n i.p1).sum=i.q-(List.take m i.p0).sum∧(↑n:Int)=0∧iE (List.take n i.p1++List.drop n i.p0)=iE (vP h i)∧∃(p:Nat→Prop),∃(q:Nat→Nat),p n∧∀(r:Nat),p r→cnd (decide ((↑r:Int)<(dP h i))) ((0≤(↑r:Int)∧(↑r:Int)<(↑(iE i.l).length:Int))∧∃(s:Int),zF (iE i.l) (↑r:Int).toNat 0 1=some [dI s]∧(mI r i)∧∃(t:Int),zF (uY r i) (↑r:Int).toNat 0 1=some [dI t]∧(mI r i)∧∃(u:Int),zF (uY r i) (↑r:Int).toNat 0 1=some [dI u]∧(mI r i)∧(↑r:Int).toNat<(uY r i).length∧∃(v:Nat),i.q-i.p0.sum+(List.take v i.p0).sum-(List.take v i.p1).sum=IntKind.i64.wrap (i.q-i.p0.sum+(List.take r i.p0).sum-(List.take r i.p1).sum-min (IntKind.i64.wrap (s-t)) (i.q-i.p0.sum+(List.take r i.p0).sum-(List.take r i.p1).sum))∧(↑v:Int)=IntKind.i64.wrap ((↑r:Int)+1)∧iE (List.take v i.p1++List.drop v i.p0)=yA (uY r i) (↑r:Int).toNat 0 [dI (IntKind.i64.wrap (u+min (IntKind.i64.wrap (s-t)) (i.q-i.p0.sum+(List.take r i.p0).sum-(List.take r i.p1).sum)))]∧p v∧q v<q r∧True) (∃(s:Unit),iE (qF i)=iE (List.take r i.p1++List.drop r i.p0)∧True)))))
open Go Cv Go.Proofs
theorem sP:∀(z:List (Int×Int)) (q:Int),(kG z q).length=z.length
 |[],_=>rfl
 |(n,x)::z,q=>by rw[kG,yOy,yOy,sP z]
theorem zGz:∀(z:List (Int×Int)) (q:Int) (j:Nat) (n x:Int),z[j]? =some (n,x)→(kG z q)[j]? =some (x+min (n-x) (q+((z.map (·.2)).take j).sum-((kG z q).take j).sum))
 |[],_,_,_,_,h=>by simp at h
 |(m,y)::z,q,0,n,x,h=>by simp at h;obtain⟨rfl,rfl⟩:=h;simp[kG]
 |(m,y)::z,q,j+1,n,x,h=>by
  rw[yQj]at h
  rw[kG,yQj,zGz z _ j n x h,yQa,yQc,yPd,yQa,yQc]
  congr 3;dsimp only;omega
theorem zDe:∀(z:List (Int×Int)) (q:Int) (j:Nat),0≤q→(∀y∈z,y.2≤y.1)→0≤q+((z.map (·.2)).take j).sum-((kG z q).take j).sum∧q+((z.map (·.2)).take j).sum-((kG z q).take j).sum≤q
 |[],q,j,h,_=>by simp[kG,h]
 |(m,y)::z,q,0,h,_=>by simp[h]
 |(m,y)::z,q,j+1,h,hb=>by
  have hm:=hb (m,y) yOx
  have:=zDe z (q-min (m-y) q) j (by dsimp only at hm;omega) (fun x hx=>hb x (yOz _ hx))
  rw[kG,yQa,yQc,yPd,yQa,yQc]
  dsimp only at hm ⊢
  omega
theorem z4o {k q S:Int} (hk:0≤k) (hq:0≤q) (hS:1≤S) (hqS:q≤S):0≤k*q / S∧k*q / S≤k:=by
 refine⟨Int.ediv_nonneg (Int.mul_nonneg hk hq) (by omega),?_⟩
 have:k*q≤k*S:=Int.mul_le_mul_of_nonneg_left hqS hk
 exact Int.ediv_le_of_le_mul (by omega) this
theorem zKd {q S least:Int} (hq:0≤q) (hS:1≤S):∀(l:List Int),(∀x∈l,0≤x)→S*(l.map fun k=>if least≤k*q / S then k*q / S else 0).sum≤q*l.sum
 |[],_=>by simp
 |k::l,h=>by
  have ih:=zKd (least:=least) hq hS l (fun x hx=>h x (yOz _ hx))
  have hk:=h k yOx
  rw[yPd,yQc,yQc,Int.mul_add,Int.mul_add]
  have h1:S*(k*q / S)≤k*q:=by
   have:=Int.mul_ediv_add_emod (k*q) S
   have:=Int.emod_nonneg (k*q) (show S≠0 by omega)
   omega
  have h2:0≤k*q:=Int.mul_nonneg hk hq
  have h3:S*(if least≤k*q / S then k*q / S else 0)≤q*k:=by
   rw[yTp q k]
   split
   ·exact h1
   ·simpa using h2
  omega
theorem z8h {i:PlI} {j:Nat} {n:Int} (h:i.l[j]? =some n):i.p0[j]? =some (if i.least≤n*i.q / i.l.sum then n*i.q / i.l.sum else 0):=by
 rw[PlI.p0,zTp,yQg,h];rfl
theorem zTt (i:PlI):i.p0.length=i.l.length:=by simp[PlI.p0,zTp]
theorem zYa {l:List Int} {j m:Nat} {n:Int} (hl:l.length=m) (h:l[j]? =some n):(l.take j++List.replicate (m-j) 0).set j n=l.take (j+1)++List.replicate (m-(j+1)) 0:=by
 have hj:=(yOt.1 h).1
 rw[List.set_append_right _ _ (by rw[yPl];omega),yPl,show j-min j l.length=0 by omega,show m-j=(m-(j+1))+1 by omega,ySm,yUi,yQb,h]
 simp
theorem z3q {l:List Int} {j m:Nat} (hl:l.length=m) (hj:j<m):(l.take j++List.replicate (m-j) 0)[j]? =some 0:=by
 rw[yQv (by rw[yPl];omega),yPl,show j-min j l.length=0 by omega,show m-j=(m-(j+1))+1 by omega,ySm];rfl
theorem z7e {α:Type} {l:List α} {j:Nat} {x:α} (h:l[j]? =some x):l.set j x=l:=by
 obtain⟨h1,h2⟩:=yOt.1 h
 rw[← h2];exact List.set_getElem_self h1
theorem yHm {a b:List Int} {j:Nat} {x:Int} (ha:a.length=b.length) (h:b[j]? =some x):(a.take j++b.drop j)[j]? =some x:=by
 have hj:=(yOt.1 h).1
 rw[yQv (by rw[yPl];omega),yPl,show j-min j a.length=0 by omega,yRo]
 exact h
theorem yAj {a b:List Int} {j:Nat} {y:Int} (ha:a.length=b.length) (h:a[j]? =some y):(a.take j++b.drop j).set j y=a.take (j+1)++b.drop (j+1):=by
 have hj:=(yOt.1 h).1
 rw[List.set_append_right _ _ (by rw[yPl];omega),yPl,show j-min j a.length=0 by omega,yRh (by omega),yUi,yQb,h]
 simp
theorem zMf {l:List Int} {j:Nat} {x y:Int} (h:l[j]? =some x):yA (iE l) j 0 [D.v (.int .i64 y)]=iE (l.set j y):=yD (f:=fun n:Int=>[D.v (.int .i64 n)]) h rfl
theorem eK {i:PlI} (h:yK i.l i.q=true) (hne:0<i.l.length):1≤i.l.sum∧i.l.sum≤250000000∧(∀(j:Nat) (n x:Int),i.l[j]? =some n→i.p0[j]? =some x→0≤x∧x≤n)∧i.p0.sum≤i.q:=by
 obtain⟨h1,h2,h3,h4⟩:=qH h
 have hb:=qO (l:=i.l) (fun x hx=>by have:=h3 x hx;omega) i.l.length
 rw[ySu]at hb
 have hS:1≤i.l.sum:=by
  obtain⟨x,hx⟩:=z8 (l:=i.l) (i:=0) hne
  have:=h3 x (yPe hx)
  cases hl:i.l with
  |nil=>rw[hl]at hne;exact absurd hne (Nat.lt_irrefl 0)
  |cons a r=>
   rw[hl]at hx;simp at hx;subst hx
   have hr:=qO (l:=r) (fun y hy=>by have:=h3 y (by rw[hl];exact yOz _ hy);omega) r.length
   rw[ySu]at hr
   rw[yQc];omega
 refine⟨hS,by omega,fun j n x hn hx=> ?_,?_⟩
 ·have hn1:=h3 n (yPe hn)
  have:=z4o (k:=n) (by omega) h2 hS h4
  rw[z8h hn]at hx
  cases hx
  split<;>omega
 ·have:=zKd (least:=i.least) h2 hS i.l (fun x hx=>by have:=h3 x hx;omega)
  have e:i.l.sum*i.p0.sum≤i.l.sum*i.q:=by rw[yTp i.l.sum i.q];exact this
  exact Int.le_of_mul_le_mul_left e (by omega)
theorem yGb (i:PlI) (h:plainC.cnd i):z8l i:=by
 obtain⟨hl,hq,hle⟩:i.l.length≤1000000∧i64r i.q∧i64r i.least:=h
 unfold z8l dP vH vP mI uY kO dI
 refine⟨⟨i.l,i.q⟩,rfl,rfl,⟨hl,hq⟩,fun _ _=>Cv.cnd.mk (fun c=> ?_) (fun c=>zI (fun d=> ?_) (fun d=> ?_))⟩
 ·have c:yK i.l i.q=false:=by simpa using c
  refine⟨(),?_,trivial⟩
  rw[qF,yOr (by rw[c];simp)];rfl
 ·refine⟨(),?_,trivial⟩
  rw[qF,yOr (by omega)];rfl
 have c:yK i.l i.q=true:=by simpa using c
 have eS:qF i=i.p1:=by rw[qF,yOu ⟨c,by omega⟩]
 obtain⟨h1,h2,h3,h4⟩:=qH c
 have hq2:=zDt c
 have hp0:=zTt i
 have hzl:(i.l.zip i.p0).length=i.l.length:=by rw[List.length_zip,hp0];simp
 have hp1:i.p1.length=i.l.length:=by rw[PlI.p1,sP,hzl]
 have hz2:(i.l.zip i.p0).map (·.2)=i.p0:=by rw[List.map_snd_zip];omega
 have h64:i.l.length≤250:=h1
 have hrl:∀j,j≤i.l.length→(List.take j i.p0++List.replicate (i.l.length-j) 0).length=i.l.length:=by
  intro j hj;rw[yOw,yPl,yRp];omega
 simp only[y6]
 refine⟨i.l,rfl,⟨by omega,fun x hx=>by have:=h3 x hx;omega⟩,fun _ _=>⟨⟨by omega,by omega,by omega,by omega⟩,0,by(first|exact rfl|exact trivial),?_,fun j=>j≤i.l.length,fun j=>i.l.length-j,yQn _,fun j hj=>zI (fun e=> ?_) (fun e=> ?_)⟩⟩
 ·simp[iE]
 ·have hj':j<i.l.length:=by omega
  obtain⟨n,hn⟩:=z8 (l:=i.l) (i:=j) hj'
  have bn:=h3 n (yPe hn)
  obtain⟨f1,f2,f3,f4⟩:=eK c (by omega)
  have g:=z8h hn
  refine⟨⟨by omega,by omega⟩,n,elI hn,⟨n,i.q,i.l.sum⟩,rfl,rfl,rfl,⟨by dsimp only;omega,by dsimp only;omega,by dsimp only;omega,by dsimp only;omega,by dsimp only;omega,by dsimp only;omega⟩,fun _ _=>zI (fun a=> ?_) (fun a=> ?_)⟩
  ·have a:n*i.q / i.l.sum≥i.least:=a
   rw[yOu (by omega)]at g
   refine⟨⟨by omega,by rw[hrl j (by omega)];omega⟩,by rw[hrl j (by omega)];omega,j+1,wjn (by omega),?_,hj',by dsimp only;omega,trivial⟩
   rw[yPj,zMf (z3q hp0 hj'),zYa hp0 g]
  ·have a:¬n*i.q / i.l.sum≥i.least:=a
   rw[yOr (by omega)]at g
   refine⟨j+1,wjn (by omega),?_,hj',by dsimp only;omega,trivial⟩
   rw[← zYa hp0 g,z7e (z3q hp0 hj')]
 have hje:j=i.l.length:=by omega
 subst hje
 have eP:List.take i.l.length i.p0++List.replicate (i.l.length-i.l.length) 0=i.p0:=by rw[yPf (by omega)];simp
 rw[eP,hp0]
 have px:∀(k:Nat) (n x:Int),i.l[k]? =some n→i.p0[k]? =some x→0≤x∧x≤n:=fun k n x hn hx=>(eK c (by have:=(yOt.1 hn).1;omega)).2.2.1 k n x hn hx
 have pb:∀x∈i.p0,0≤x∧x≤1000000:=by
  intro x hx
  obtain⟨k,hk⟩:=yRg.1 hx
  obtain⟨n,hn⟩:=z8 (l:=i.l) (i:=k) (by have:=(yOt.1 hk).1;omega)
  have:=px k n x hn hk
  have:=h3 n (yPe hn)
  omega
 have pq:i.p0.sum≤i.q:=by
  by_cases hz:0<i.l.length
  ·exact(eK c hz).2.2.2
  ·have:i.p0=[]:=yPo (by omega)
   rw[this];simpa using h2
 refine⟨0,by simp,by(first|exact rfl|exact trivial),fun k=>k≤i.l.length,fun k=>i.l.length-k,yQn _,fun k hk=>zI (fun e=> ?_) (fun e=> ?_)⟩
 ·have hk':k<i.l.length:=by omega
  obtain⟨x,hx⟩:=z8 (l:=i.p0) (i:=k) (by omega)
  have bx:=pb x (yPe hx)
  have bs:=qO pb k
  refine⟨⟨by omega,by omega⟩,x,elI hx,k+1,?_,wjn (by omega),hk',by dsimp only;omega,by(repeat'(first|exact trivial|exact rfl|apply And.intro))⟩
  rw[kA hx,w64 (by omega)];omega
 have hke:k=i.l.length:=by omega
 subst hke
 rw[yPf (l:=i.p0) (by omega)]
 refine⟨0,by simp,by(first|exact rfl|exact trivial),by simp,fun j=>j≤i.l.length,fun j=>i.l.length-j,yQn _,fun j hj=>zI (fun e=> ?_) (fun e=> ?_)⟩
 ·have hj':j<i.l.length:=by omega
  obtain⟨n,hn⟩:=z8 (l:=i.l) (i:=j) hj'
  obtain⟨x,hx⟩:=z8 (l:=i.p0) (i:=j) (by omega)
  have bn:=h3 n (yPe hn)
  have bx:=px j n x hn hx
  have hz:(i.l.zip i.p0)[j]? =some (n,x):=by rw[ySy];exact⟨hn,hx⟩
  have g:=zGz (i.l.zip i.p0) (i.q-i.p0.sum) j n x hz
  have r:=zDe (i.l.zip i.p0) (i.q-i.p0.sum) j (by omega) (fun y hy=>by
   obtain⟨k,hk⟩:=yRg.1 hy
   rw[ySy]at hk
   exact(px k y.1 y.2 hk.1 hk.2).2)
  rw[hz2]at g r
  have b0:=qO pb i.p0.length
  rw[ySu]at b0
  have hml:(List.take j i.p1++List.drop j i.p0).length=i.l.length:=by rw[yOw,yPl,yPq];omega
  have hma:=yHm (a:=i.p1) (b:=i.p0) (by omega) hx
  change i.p1[j]? =_ at g
  change 0≤_-(List.take j i.p1).sum∧_-(List.take j i.p1).sum≤_ at r
  change i.p1[j]? =some (x+min (n-x) (_-(List.take j i.p1).sum))at g
  rw[hml]
  refine⟨⟨by omega,by omega⟩,n,elI hn,⟨by omega,by omega⟩,x,elI hma,⟨by omega,by omega⟩,x,elI hma,⟨by omega,by omega⟩,by omega,?_⟩
  rw[w64 (x:=n-x) (by omega),w64 (x:=x+min (n-x) (i.q-i.p0.sum+(List.take j i.p0).sum-(List.take j i.p1).sum)) (by omega)]
  refine⟨j+1,?_,wjn (by omega),?_,hj',by dsimp only;omega,trivial⟩
  ·rw[kA hx,kA g,w64 (by omega)];omega
  ·rw[yPj,zMf hma,yAj (by omega) g]
 ·have hje:j=i.l.length:=by omega
  subst hje
  refine⟨(),?_,trivial⟩
  rw[eS,yPf (by omega),yRz (by omega),yPp]
theorem z5u:plainC.ok Tryz.prog 289:=okw mixed (gokc eC (gokc z9w (gokc zJb gok0))) 0 (fun _=>[]) (fun i=>yGu i) [] Tryz.func289 yGb
open Go Cv Go.Proofs
structure RsI where
 l:List Int
 out:List Int
 least:Int
 q:Int
def RsI.idx (i:RsI) (k:Nat):List Nat:=(List.range k).filter fun n=>decide (i.out.getD n 0<i.l.getD n 0)
def RsI.left (i:RsI) (k:Nat):List Int:=(i.idx k).map fun n=>i.l.getD n 0-i.out.getD n 0
def RsI.pl (i:RsI):List Int:=qF ⟨i.left i.l.length,i.least,i.q⟩
def RsI.add (i:RsI) (k:Nat):List Int:=(((i.idx i.l.length).zip i.pl).take k).foldl (fun o y=>o.set y.1 (IntKind.i64.wrap (o.getD y.1 0+y.2))) i.out
def bT (i:RsI):List Int:=i.add i.pl.length
@[reducible] def RsI.ok (i:RsI):Prop:=i.l.length≤250∧i.out.length=i.l.length∧i64r i.q∧i64r i.least∧∀n,0≤i.out.getD n 0∧i.out.getD n 0≤i.l.getD n 0∧i.l.getD n 0≤1000000
def restC:Con:=con1 RsI (fun i=>[iV i.l,.own 0,zA i.least,zA i.q]) (fun i=>[.own 2 1 (iE i.out)]) RsI.ok (fun _=> .own 1) (fun i=>[.gone,.own 2 1 (iE (bT i))])
def yKf (i:RsI):List SAnn:=[
 {ι:=Nat,slots:=fun j=>[(9,.own 0),(10,.own 1),(16,zA j)],rows:=fun j=>[.own 2 1 (iE (i.left j)),.own 3 1 (iE ((i.idx j).map fun(n:Nat)=>(n:Int)))]},
 {ι:=Nat,slots:=fun k=>[(1,.own 0),(50,zA k)],rows:=fun k=>[.own 2 1 (iE (i.add k))]}]
structure zG where
 id:Int
 side:Int
 price:Int
 qty:Int
 top:Bool
 deriving DecidableEq
def jE (o:zG):List D:=[.v (.int .i64 o.id),.v (.int .i64 o.side),.v (.int .i64 o.price),.v (.int .i64 o.qty),.v (.bool o.top)]
@[reducible] def z0m (o:zG):V:= .agg [zA o.id,zA o.side,zA o.price,zA o.qty,yB o.top]
def topFC:Con:=con1 zG (fun o=>[z0m o]) (fun _=>[]) (fun _=>True) (fun o=>yB o.top) (fun _=>[])
def topI (l:List zG):Int:=zCw (l.findIdx? fun o=>o.top)
def idxOrdC:Con:=con1 (List zG) (fun l=>[roV 5 (l.map jE),.fn 253 [] []]) (fun _=>[]) (fun l=>l.length≤1000000) (fun l=>zA (topI l)) (fun _=>[])
def yBr (l:List zG):List SAnn:=[{ι:=Nat,slots:=fun j=>[(8,zA j)],rows:=fun _=>[]}]
open Go Cv Go.Proofs
def yEg (i:RsI):Prop:=
 ∃(a:Nat),(↑a:Int)=0∧iE (i.left a)=[]∧iE (List.map (fun(n:Nat) ↦ (↑n:Int)) (i.idx a))=[]∧∃(b:Nat→Prop),∃(c:Nat→Nat),b a∧∀(d:Nat),b d→cnd (decide ((↑d:Int)<(↑(iE i.l).length:Int))) ((0≤(↑d:Int)∧(↑d:Int)<(↑(iE i.l).length:Int))∧∃(e:Int),zF (iE i.l) (↑d:Int).toNat 0 1=some [dI e]∧(0≤(↑d:Int)∧(↑d:Int)<(↑(iE i.out).length:Int))∧∃(f:Int),zF (iE i.out) (↑d:Int).toNat 0 1=some [dI f]∧cnd (decide (e>f)) ((0≤(↑d:Int)∧(↑d:Int)<(↑(iE i.l).length:Int))∧∃(g:Int),zF (iE i.l) (↑d:Int).toNat 0 1=some [dI g]∧(0≤(↑d:Int)∧(↑d:Int)<(↑(iE i.out).length:Int))∧∃(h:Int),zF (iE i.out) (↑d:Int).toNat 0 1=some [dI h]∧((iE (i.left d)).length+1)*(8:Nat)≤(140737488355328:Nat)∧((iE (List.map (fun(g:Nat) ↦ (↑g:Int)) (i.idx d))).length+1)*(8:Nat)≤(140737488355328:Nat)∧∃(j:Nat),(↑j:Int)=IntKind.i64.wrap ((↑d:Int)+1)∧iE (i.left j)=iE (i.left d)++[[dI (IntKind.i64.wrap (g-h))]]∧iE (List.map (fun(g:Nat) ↦ (↑g:Int)) (i.idx j))=iE (List.map (fun(g:Nat) ↦ (↑g:Int)) (i.idx d))++[[dI (↑d:Int)]]∧b j∧c j<c d∧AObj.own 2 1 (iE i.out)=AObj.own 2 1 (iE i.out)) (∃(g:Nat),(↑g:Int)=IntKind.i64.wrap ((↑d:Int)+1)∧iE (i.left g)=iE (i.left d)∧iE (List.map (fun(e:Nat) ↦ (↑e:Int)) (i.idx g))=iE (List.map (fun(e:Nat) ↦ (↑e:Int)) (i.idx d))∧b g∧c g<c d∧AObj.own 2 1 (iE i.out)=AObj.own 2 1 (iE i.out))) (∃(e:PlI),iE e.l=iE (i.left d)∧e.least=i.least∧e.q=i.q∧(e.l.length≤1000000∧((-9223372036854775808)≤e.q∧e.q≤9223372036854775807)∧(-9223372036854775808)≤e.least∧e.least≤9223372036854775807)∧∀(f:Unit),True→∃(g:Nat),(↑g:Int)=0∧iE (i.add g)=iE i.out∧∃(h:Nat→Prop),∃(j:Nat→Nat),h g∧∀(k:Nat),h k→cnd (decide ((↑k:Int)<(↑(iE (qF e)).length:Int))) ((0≤(↑k:Int)∧(↑k:Int)<(↑(iE (qF e)).length:Int))∧∃(l:Int),zF (iE (qF e)) (↑k:Int).toNat 0 1=some [dI l]∧(0≤(↑k:Int)∧(↑k:Int)<(↑(iE (List.map (fun(l:Nat) ↦ (↑l:Int)) (i.idx d))).length:Int))∧∃(m:Int),zF (iE (List.map (fun(l:Nat) ↦ (↑l:Int)) (i.idx d))) (↑k:Int).toNat 0 1=some [dI m]∧(0≤m∧m<(↑(iE (i.add k)).length:Int))∧∃(n:Int),zF (iE (i.add k)) m.toNat 0 1=some [dI n]∧(0≤m∧m<(↑(iE (i.add k)).length:Int))∧m.toNat<(iE (i.add k)).length∧∃(p:Nat),(↑p:Int)=IntKind.i64.wrap ((↑k:Int)+1)∧iE (i.add p)=yA (iE (i.add k)) m.toNat 0 [dI (IntKind.i64.wrap (n+l))]∧h p∧j p<j k∧AObj.own 2 1 (iE (qF e))=AObj.own 2 1 (iE (qF e))∧AObj.fro 1 (iE (i.left d))=AObj.fro 1 (iE (i.left d))∧AObj.own 3 1 (iE (List.map (fun(l:Nat) ↦ (↑l:Int)) (i.idx d)))=AObj.own 3 1 (iE (List.map (fun(l:Nat) ↦ (↑l:Int)) (i.idx d)))) (∃(l:Unit),iE (bT i)=iE (i.add k)∧True))
def yDk (o:zG):Prop:=
 ∃(a:Unit),o.top=o.top∧True
def zWv (l:List zG):Prop:=
 ∃(a:Nat),(↑a:Int)=0∧∃(b:Nat→Prop),∃(c:Nat→Nat),b a∧∀(d:Nat),b d→cnd (decide ((↑d:Int)<(↑(List.map jE l).length:Int))) ((0≤(↑d:Int)∧(↑d:Int)<(↑(List.map jE l).length:Int))∧∃(e:Int),∃(f:Int),∃(g:Int),∃(h:Int),∃(j:Bool),zF (List.map jE l) (↑d:Int).toNat 0 5=some [dI e,dI f,dI g,dI h,D.v (.bool j)]∧∃(k:zG),k.id=e∧k.side=f∧k.price=g∧k.qty=h∧k.top=j∧True∧∀(m:Unit),True→cnd k.top (∃(n:Unit),topI l=(↑d:Int)∧True) (qL d b c)) (∃(e:Unit),topI l=(-1)∧True)
open Go Cv Go.Proofs
theorem yAm:topFC.ok Tryz.prog 253:=okw (V:=yDk) mixed gok0 0 (fun _=>[]) (fun _=>[]) [] Tryz.func253 fun(o:zG) _=>by
 unfold yDk
 exact⟨(),rfl,trivial⟩
theorem zUh (i:PlI):(qF i).length=i.l.length∨qF i=[]:=by
 rw[qF]
 split
 ·left;rw[PlI.p1,sP,List.length_zip,zTt];simp
 ·exact .inr rfl
theorem yFu {l:List zG} {k:Nat} {o:zG} (h:l[k]? =some o):zF (l.map jE) k 0 5=some [D.v (.int .i64 o.id),.v (.int .i64 o.side),.v (.int .i64 o.price),.v (.int .i64 o.qty),.v (.bool o.top)]:=elA h (by simp[jE]) rfl
theorem z8v (l:List zG) (h:idxOrdC.cnd l):zWv l:=by
 have h:l.length≤1000000:=h
 unfold zWv qL kM dI
 simp only[yOs]
 refine⟨0,rfl,fun j=>j≤l.length∧∀k<j,∀x,l[k]? =some x→x.top=false,fun j=>l.length-j,⟨by omega,fun k hk=>by omega⟩,?_⟩
 rintro j ⟨h3,h4⟩
 refine zI (fun hj=> ?_) (fun hj=> ?_)
 ·obtain⟨s,hs⟩:=z8 (l:=l) (i:=j) (by omega)
  refine⟨⟨by omega,by omega⟩,s.id,s.side,s.price,s.qty,s.top,yFu hs,s,rfl,rfl,rfl,rfl,rfl,trivial,fun _ _=>Cv.cnd.mk (fun e=> ?_) (fun e=> ?_)⟩
  ·rw[topI,zAn hs e h4];(repeat'(first|exact rfl|exact trivial|assumption|apply And.intro|refine fun(_:Unit) (_:True)=>?_|refine Exists.intro () ?_|omega|(dsimp only;omega)))
  ·refine⟨j+1,by rw[w64 (by omega)];rfl,⟨by omega,fun k hk x hx=> ?_⟩,by(first|omega|(dsimp only;omega)),by(repeat'(first|exact trivial|exact rfl|apply And.intro))⟩
   rcases yRn k j with hk'|hk'
   ·exact h4 k hk' x hx
   ·obtain rfl:k=j:=by omega
    rw[hs]at hx;cases hx;exact e
 ·rw[topI,zAx fun k x hx=>h4 k (by have:=(yOt.1 hx).1;omega) x hx];(repeat'(first|exact rfl|exact trivial|assumption|apply And.intro|refine fun(_:Unit) (_:True)=>?_|refine Exists.intro () ?_|omega|(dsimp only;omega)))
theorem zZp:idxOrdC.ok Tryz.prog 252:=okw mixed (gokc yAm gok0) 0 (fun _=>[]) (fun l=>yBr l) [] Tryz.func252 z8v
theorem z3j (i:RsI) (j:Nat):i.idx (j+1)=i.idx j++if i.out.getD j 0<i.l.getD j 0 then[j]else[]:=by
 rw[RsI.idx,yUl,ySj]
 by_cases h:i.out.getD j 0<i.l.getD j 0
 ·rw[yOu h,yTe (by simpa using h)];rfl
 ·rw[yOr h,yTf (by simpa using h)];rfl
theorem yIk (i:RsI) {k n:Nat} (h:n∈i.idx k):n<k:=by
 have:=(yRa.1 h).1
 exact yRx.1 this
theorem zYn (i:RsI) (k:Nat):(i.idx k).length≤k:=by
 have:=ySd (fun n=>decide (i.out.getD n 0<i.l.getD n 0)) (List.range k)
 rw[List.length_range]at this
 exact this
theorem zRx:∀(z:List (Nat×Int)) (o:List Int),(z.foldl (fun o y=>o.set y.1 (IntKind.i64.wrap (o.getD y.1 0+y.2))) o).length=o.length
 |[],_=>rfl
 |y::z,o=>by rw[yTb,zRx z,yPw]
theorem yJt (i:RsI) (h:restC.cnd i):yEg i:=by
 obtain⟨hl,ho,hq,hle,hb⟩:i.ok:=h
 unfold yEg dI
 simp only[y6,yOs]
 have hil:∀j,(i.left j).length=(i.idx j).length:=fun j=>yOs _
 refine⟨0,by(first|exact rfl|exact trivial),by(first|exact rfl|exact trivial),by(first|exact rfl|exact trivial),fun j=>j≤i.l.length,fun j=>i.l.length-j,yQn _,fun j hj=>zI (fun c=> ?_) (fun c=> ?_)⟩
 ·have hj':j<i.l.length:=by omega
  obtain⟨n,hn⟩:=z8 (l:=i.l) (i:=j) hj'
  obtain⟨o,hoo⟩:=z8 (l:=i.out) (i:=j) (by omega)
  have bj:=hb j
  rw[zQ hn,zQ hoo]at bj
  have is:=z3j i j
  rw[zQ hn,zQ hoo]at is
  have il:=zYn i j
  refine⟨⟨by omega,by omega⟩,n,elI hn,⟨by omega,by omega⟩,o,elI hoo,zI (fun a=> ?_) (fun a=> ?_)⟩
  ·rw[yOu (by omega)]at is
   refine⟨⟨by omega,by omega⟩,n,elI hn,⟨by omega,by omega⟩,o,elI hoo,by rw[hil];omega,by omega,j+1,wjn (by omega),?_,?_,hj',by dsimp only;omega,by(repeat'(first|exact trivial|exact rfl|apply And.intro))⟩
   ·rw[w64 (by omega),RsI.left,is,yPc]
    simp[iE,RsI.left,hn,hoo]
   ·rw[is];simp[iE]
  ·rw[yOr (by omega),yPp]at is
   exact⟨j+1,wjn (by omega),by rw[RsI.left,is];rfl,by rw[is],hj',by dsimp only;omega,by(repeat'(first|exact trivial|exact rfl|apply And.intro))⟩
 have hje:j=i.l.length:=by omega
 subst hje
 have il:=zYn i i.l.length
 refine⟨⟨i.left i.l.length,i.least,i.q⟩,rfl,rfl,rfl,⟨by dsimp only;rw[hil];omega,hq,hle⟩,fun _ _=> ?_⟩
 have epl:qF ⟨i.left i.l.length,i.least,i.q⟩=i.pl:=rfl
 rw[epl]
 have hpl:i.pl.length≤(i.idx i.l.length).length:=by
  rcases zUh ⟨i.left i.l.length,i.least,i.q⟩with e|e
  ·rw[epl]at e;rw[e];dsimp only;rw[hil];exact yPy _
  ·rw[epl]at e;rw[e];exact yQn _
 have hal:∀k,(i.add k).length=i.out.length:=fun k=>zRx _ _
 refine⟨0,by(first|exact rfl|exact trivial),by(first|exact rfl|exact trivial),fun k=>k≤i.pl.length,fun k=>i.pl.length-k,yQn _,fun k hk=>zI (fun c=> ?_) (fun c=> ?_)⟩
 ·have hk':k<i.pl.length:=by omega
  obtain⟨x,hx⟩:=z8 (l:=i.pl) (i:=k) hk'
  obtain⟨n,hn⟩:=z8 (l:=i.idx i.l.length) (i:=k) (by omega)
  have hnl:=yIk i (yPe hn)
  obtain⟨y,hy⟩:=z8 (l:=i.add k) (i:=n) (by rw[hal];omega)
  have ea:i.add (k+1)=(i.add k).set n (IntKind.i64.wrap (y+x)):=by
   have hz:((i.idx i.l.length).zip i.pl)[k]? =some (n,x):=by rw[ySy];exact⟨hn,hx⟩
   have ey:(i.add k).getD n 0=y:=zQ hy
   rw[RsI.add,yQb,hz,yUo]
   show(i.add k).set n (IntKind.i64.wrap ((i.add k).getD n 0+x))=_
   rw[ey]
  have hnm:((i.idx i.l.length).map fun(n:Nat)=>(n:Int))[k]? =some (n:Int):=by rw[yQg,hn];rfl
  rw[hal]
  refine⟨⟨by omega,by omega⟩,x,elI hx,⟨by omega,by omega⟩,n,elI hnm,⟨by omega,by omega⟩,y,elI hy,⟨by omega,by omega⟩,by omega,k+1,wjn (by omega),?_,hk',by dsimp only;omega,by(repeat'(first|exact trivial|exact rfl|apply And.intro))⟩
  rw[ea,yPj,zMf hy]
 ·have hke:k=i.pl.length:=by omega
  subst hke
  exact⟨(),rfl,trivial⟩
theorem zXn:restC.ok Tryz.prog 277:=okw mixed (gokc z5u gok0) 0 (fun _=>[]) (fun i=>yKf i) [] Tryz.func277 yJt
open Go Cv Go.Proofs
structure PsI where
 l:List Int
 top:Int
 most:Int
 least:Int
 q:Int
def PsI.first (i:PsI):Int:=min (min (i.l.getD i.top.toNat 0) i.most) i.q
def PsI.rs (i:PsI):RsI:=if 0≤i.top∧i.top<i.l.length then⟨i.l,(List.replicate i.l.length 0).set i.top.toNat i.first,i.least,i.q-i.first⟩else⟨i.l,List.replicate i.l.length 0,i.least,i.q⟩
def lO (i:PsI):List Int:=if yK i.l i.q=true∧1≤i.least∧0≤i.most then bT i.rs else[]
def proC:Con:=con1 PsI (fun i=>[iV i.l,zA i.top,zA i.most,zA i.least,zA i.q]) (fun _=>[]) (fun i=>i.l.length≤1000000∧i64r i.q∧i64r i.least∧i64r i.most) (fun _=> .own 0) (fun i=>[.own 2 1 (iE (lO i))])
structure SpI where
 l:List Int
 part:Int
 least:Int
 q:Int
def SpI.rs (i:SpI):RsI:=⟨i.l,wZ i.l (i.q*i.part / 100),i.least,i.q-i.q*i.part / 100⟩
def tW (i:SpI):List Int:=if yK i.l i.q=true∧0≤i.part∧i.part≤100∧1≤i.least then bT i.rs else[]
def splC:Con:=con1 SpI (fun i=>[iV i.l,zA i.part,zA i.least,zA i.q]) (fun _=>[]) (fun i=>i.l.length≤1000000∧i64r i.q∧i64r i.least∧i64r i.part) (fun _=> .own 0) (fun i=>[.own 2 1 (iE (tW i))])
open Go Cv Go.Proofs
def zEj (a:RsI):Prop:=a.l.length≤250∧a.out.length=a.l.length∧((-9223372036854775808)≤a.q∧a.q≤9223372036854775807)∧((-9223372036854775808)≤a.least∧a.least≤9223372036854775807)∧∀(b:Nat),0≤a.out.getD b 0∧a.out.getD b 0≤a.l.getD b 0∧a.l.getD b (0:Int)≤(1000000:Int)
def zNp (a:RsI) (b:PsI):Prop:=(zEj a)∧∀(c:Unit),True→∃(d:Unit),iE (lO b)=iE (bT a)∧True
def zNm (a:PsI):Prop:=∃(b:RsI),iE b.l=iE a.l∧b.least=a.least∧b.q=a.q∧iE b.out=List.replicate (↑(iE a.l).length:Int).toNat [dI 0]∧zNp b a
def nF (a:PsI):=(List.replicate (↑(iE a.l).length:Int).toNat [dI 0])
def zHp (a:PsI) (b:Int):=(yA (nF a) a.top.toNat 0 [dI (min (min b a.most) a.q)])
def yMe (i:PsI):Prop:=
 ∃(a:LqI),iE a.l=iE i.l∧a.q=i.q∧(kO a)∧∀(b:Unit),True→cnd (!yK a.l a.q) (∃(c:Unit),iE (lO i)=[]∧True) (cnd (decide (i.least<1)) (∃(c:Unit),iE (lO i)=[]∧True) (cnd (decide (i.most<0)) (∃(c:Unit),iE (lO i)=[]∧True) ((0≤(↑(iE i.l).length:Int)∧(↑(iE i.l).length:Int)≤(↑(iE i.l).length:Int)∧(↑(iE i.l).length:Int)≤9223372036854775807∧(↑(8:Nat):Int)*(↑(iE i.l).length:Int)≤2 ^ (48:Nat))∧cnd (decide (i.top≥0)) (cnd (decide (i.top<(↑(iE i.l).length:Int))) ((0≤i.top∧i.top<(↑(iE i.l).length:Int))∧∃(c:Int),zF (iE i.l) i.top.toNat 0 1=some [dI c]∧(0≤i.top∧i.top<(↑(nF i).length:Int))∧i.top.toNat<(nF i).length∧(0≤i.top∧i.top<(↑(zHp i c).length:Int))∧∃(d:Int),zF (zHp i c) i.top.toNat 0 1=some [dI d]∧∃(e:RsI),iE e.l=iE i.l∧e.least=i.least∧e.q=IntKind.i64.wrap (i.q-d)∧iE e.out=yA (nF i) i.top.toNat 0 [dI (min (min c i.most) i.q)]∧zNp e i) (zNm i)) (zNm i))))
def yLa (i:SpI):Prop:=
 ∃(a:LqI),iE a.l=iE i.l∧a.q=i.q∧(kO a)∧∀(b:Unit),True→cnd (!yK a.l a.q) (∃(c:Unit),iE (tW i)=[]∧True) (cnd (decide (i.part<0)) (∃(c:Unit),iE (tW i)=[]∧True) (cnd (decide (i.part>100)) (∃(c:Unit),iE (tW i)=[]∧True) (cnd (decide (i.least<1)) (∃(c:Unit),iE (tW i)=[]∧True) (∃(c:ShI),c.a=i.q∧c.b=i.part∧c.c=100∧(0≤c.a∧c.a≤(2000000000:Int)∧(0:Int)≤c.b∧c.b≤(2000000000:Int)∧(1:Int)≤c.c∧c.c≤2000000000)∧∀(d:Unit),True→∃(e:LqI),iE e.l=iE i.l∧e.q=c.a*c.b / c.c∧(kO e)∧∀(f:Unit),True→∃(g:RsI),iE g.l=iE i.l∧g.least=i.least∧g.q=IntKind.i64.wrap (i.q-c.a*c.b / c.c)∧iE g.out=iE (wZ e.l e.q)∧(zEj g)∧∀(h:Unit),True→∃(j:Unit),iE (tW i)=iE (bT g)∧True))))
end Sx
