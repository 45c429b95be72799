/- Texts of ours. No condition. -/
import Derived.Test.YtaafldgiafcgfaaGreatRows
import Derived.Test.YtaafldgiafcgfaaGreatC3
set_option linter.all false
open Sx.AObj renaming adt->aa,fro->ab,cells->ac,objs->ae,map->af,own->ag
open List renaming map->aj,take->ak,replicate->am,range->ao,drop->ap,length->aq
open Go.IntKind renaming i64->ar,u64->au,u32->av,u8->aw
open Bool renaming false->ax,true->ay
open And renaming intro->az
open Exists renaming intro->ba
open Option renaming some->bc,none->be
open Go.Utf8 renaming decode->bg
open Int renaming toNat->bo,pow_succ->bu,mul_add->bv
open Go.Value renaming string->bz
open Go renaming Value->cd,TypeId->ce
open BitVec renaming ofInt->cf
namespace Sx
open Go Cv Go.Proofs
def kpp {P:Prop} (h:P:=by(repeat'(first|exact rfl|exact trivial|assumption|apply And.intro|refineλ(_:Unit) (_:True)=>?_|refine Exists.intro () ?_|omega|(dsimp only;omega)))):P:=h
def mixed:Tryz.prog.follows .mixedOrders=ay:=by kernel_rfl
def okw {P:Program} {f:FuncId} {fn:Func} {C:Con} {G:List (Nat×Con)} {V:C.ι->Prop} (hm:P.follows .mixedOrders=ay) (hG:GOk P G) (d:Nat) (J:C.ι->List (Nat×SAnn)) (an:C.ι->List SAnn) (op:List Nat) (hf:P.funcs[f]? =bc fn) (h:∀i,C.cnd i->V i) (hb:fn.body=bc (fn.body.getD .skip):=by kernel_rfl) (hbd:uP P f=ay:=by kernel_rfl) (hok:okC fn.ntmps (fn.body.getD .skip)=ay:=by kernel_rfl) (hsz:∀i,Nat.ble (C.pat i).length fn.ntmps=ay:=by intro _;kernel_rfl) (e:∀i,V i=walk P G d (J i) (an i) op fn (fn.body.getD .skip) (C.pat i) (C.pre i) (C.alts i):=by intro _;kernel_rfl):C.ok P f:=gG hm G hG d J an op hf hb hbd hok hsz λi hc=>Eq.mp (e i) (h i hc)
structure Lv where
 price:Int
 qty:Int
 count:Int
def lvE (l:Lv):List D:=[.v (.int .i64 l.price),.v (.int .i64 l.qty),.v (.int .i64 l.count)]
def lvV (l:Lv):V:= .agg [zA l.price,zA l.qty,zA l.count]
def WrU (l:List UInt8):Nat->AObj
 |0=> .cells [.own 1] 201
 |1=> .own 5 1 (bE l)
 |_=> .gone
def Wr (l:List UInt8):AObj:= .adt (List UInt8) 2 WrU l
structure zWs where
 l:List UInt8
 n:Int
 k:Nat
def putC:Con where
 ι:=zWs
 pat:=λi=>[.nm 0 0,.d (.v (.int .u64 i.n)),.d (.v (.int .i64 i.k))]
 pre:=λi=>[Wr i.l]
 cnd:=λi=>0<=i.n/\i.n<18446744073709551616/\i.l.length+i.k<=1099511627776
 alts:=λi=>[{o:=Unit,res:=λ_=> .tup [],post:=λ_=>[Wr (i.l++le i.n i.k)],rel:=λ_=>True}]
def y4h (i:zWs):List SAnn:=[{
 ι:=Nat,
 slots:=λj=>[(0,.nm 0 0),(1,.d (.v (.int .u64 (i.n / 256 ^ j)))),(7,.d (.v (.int .i64 j)))],
 rows:=λj=>[WrU (i.l++le i.n j) 0,WrU (i.l++le i.n j) 1]}]
set_option maxRecDepth 100000
@[reducible] def dI (n:Int):D:= .v (.int .i64 n)
def yYb (i:zWs):Prop:=
 ∃(a:Nat),i.n / (256:Int) ^ a=i.n/\(↑a:Int)=0/\bE (i.l++le i.n a)=bE i.l/\∃(b:Nat->Prop),∃(c:Nat->Nat),b a/\∀(d:Nat),b d->cnd (decide ((↑d:Int)<(↑i.k:Int))) (((bE (i.l++le i.n d)).length+1)*(1:Nat)<=(140737488355328:Nat)/\(0:Int)<=(8:Int)/\∃(e:Nat),i.n / (256:Int) ^ e=mL au (i.n / (256:Int) ^ d) 8/\(↑e:Int)=ar.wrap ((↑d:Int)+1)/\bE (i.l++le i.n e)=bE (i.l++le i.n d)++[[D.v (.int .u8 (aw.wrap (i.n / (256:Int) ^ d)))]]/\b e/\c e<c d/\True) (∃(e:Unit),bE (i.l++le i.n i.k)=bE (i.l++le i.n d)/\True)
def y4a (i:zWs) (h:putC.cnd i):yYb i:=by
 unfold yYb;obtain⟨h1,h2,h3⟩:=h;refine⟨0,by simp,rfl,by simp[le],λj=>j<=i.k,λj=>i.k-j,by omega,λj hj=>zI (λhlt=> ?_) (λhlt=> ?_)⟩
 ·refine⟨?_,by omega,j+1,?_,?_,?_,by omega,by dsimp only;omega,trivial⟩
  ·rw[y4,y5a,xW];omega
  ·have:=zFg .u64 (i.n / 256 ^ j) 8 (by decide);rw[show((8:Nat):Int)=8 by rfl]at this;rw[this,Int.ediv_ediv_of_nonneg (Int.pow_nonneg (by omega)),bu];rfl
  ·rw[w64 (by omega)];rfl
  ·rw[yOk,zKw];simp[bE]
 ·obtain rfl:j=i.k:=by omega
  exact⟨(),rfl,trivial⟩
def z3a:putC.ok Tryz.prog 115:=okw mixed gok0 0 (λ_=>[]) (λi=>y4h i) [0] Tryz.func115 y4a
@[reducible] def tU8:Nat:=5
structure WN where
 l:List UInt8
 n:Int
@[reducible] def WN.ok (i:WN):Prop:=i.l.length+8<=1099511627776
def byteC:Con:=con1 WN (λi=>[.nm 0 0,zA i.n]) (λi=>[Wr i.l]) WN.ok (λ_=>mG) (λi=>[Wr (i.l++[lob i.n])])
def longC:Con:=con1 WN (λi=>[.nm 0 0,zA i.n]) (λi=>[Wr i.l]) WN.ok (λ_=>mG) (λi=>[Wr (i.l++le i.n 8)])
def sumC:Con:=con1 WN (λi=>[.nm 0 0,yKs i.n]) (λi=>[Wr i.l]) (λi=>i.l.length+8<=1099511627776/\0<=i.n/\i.n<4294967296) (λ_=>mG) (λi=>[Wr (i.l++le i.n 4)])
@[reducible] def yVg (t sz by_:Nat):Con:=con1 (List (List D)) (λ_=>[.own 0]) (λl=>[.own t sz l]) (λl=>l.length*by_<=140737488355328) (λ_=> .own 1) (λl=>[.own t sz l,.own t sz l])
@[reducible] def yXq (sz by_:Nat):Con:=con1 (List (List D)) (λl=>[roV sz l]) (λ_=>[]) (λl=>l.length*by_<=140737488355328) (λl=>roV sz l) (λ_=>[])
def cloneBO:Con:=yVg tU8 1 1
def cloneBR:Con:=yXq 1 1
def newWC:Con:=con1 Unit (λ_=>[]) (λ_=>[]) (λ_=>True) (λ_=> .nm 0 0) (λ_=>[Wr []])
def doneC:Con:=con1 (List UInt8) (λ_=>[.nm 0 0]) (λl=>[Wr l]) (λl=>l.length<=1099511627776) (λ_=> .own 1) (λl=>[Wr l,.own tU8 1 (bE l)])
def z3s (c:Int):Int:=if 0<zCc .u32 c 1 then zCa .u32 (mL .u32 c 1) 3988292384 else mL .u32 c 1
def vK:Nat->Int->Int
 |0,c=>c
 |k+1,c=>z3s (vK k c)
def zHl (l:List UInt8):Int:=l.foldl (λc b=>vK 8 (zCa .u32 c b.toNat)) 4294967295
def cX (l:List UInt8):Int:=zCa .u32 4294967295 (zHl l)
def crcC:Con:=con1 (List UInt8) (λl=>[roV 1 (bE l)]) (λ_=>[]) (λl=>l.length<=1099511627776) (λl=>yKs (cX l)) (λ_=>[])
def y3o (l:List UInt8):List SAnn:=[
 {ι:=Nat,slots:=λi=>[(3,yKs (zHl (l.take i))),(9,zA i)],rows:=λ_=>[]},
 {ι:=Int×Nat,slots:=λi=>[(3,yKs (vK i.2 i.1)),(17,zA i.2)],rows:=λ_=>[]}]
def RdU (x:List UInt8×Bool):Nat->AObj
 |0=> .cells [roV 1 (bE x.1),yP x.2] 207
 |_=> .gone
def Rd (l:List UInt8) (b:Bool):AObj:= .adt (List UInt8×Bool) 1 RdU (l,b)
def newRC:Con:=con1 (List UInt8) (λl=>[roV 1 (bE l)]) (λ_=>[]) (λl=>l.length<=1099511627776) (λ_=> .nm 0 0) (λl=>[Rd l ax])
structure RN where
 l:List UInt8
 b:Bool
 n:Nat
def RN.bad (i:RN):Bool:=i.b||decide (i.l.length<i.n)
def RN.got (i:RN):List UInt8:=if i.bad then[]else i.l.take i.n
def RN.left (i:RN):List UInt8:=if i.bad then i.l else i.l.drop i.n
@[reducible] def RN.ok (i:RN):Prop:=i.n<=255/\i.l.length<=1099511627776
def takeC:Con:=con1 RN (λi=>[.nm 0 0,zA i.n]) (λi=>[Rd i.l i.b]) RN.ok (λi=>roV 1 (bE i.got)) (λi=>[Rd i.left i.bad])
def qM:List UInt8->Int
 |[]=>0
 |b::l=>b.toNat+256*qM l
def getC:Con:=con1 RN (λi=>[.nm 0 0,zA i.n]) (λi=>[Rd i.l i.b]) (λi=>i.n<=8/\i.l.length<=1099511627776) (λi=>lK (qM i.got)) (λi=>[Rd i.left i.bad])
def y3r (i:RN):List SAnn:=[{ι:=Nat,slots:=λj=>[(5,lK (qM (i.got.take j))),(12,zA j)],rows:=λ_=>[]}]
structure RB where
 l:List UInt8
 b:Bool
def RB.n (i:RB) (k:Nat):RN:=⟨i.l,i.b,k⟩
def rbyteC:Con:=con1 RB (λi=>[.nm 0 0]) (λi=>[Rd i.l i.b]) (λi=>i.l.length<=1099511627776) (λi=>zA (qM (i.n 1).got)) (λi=>[Rd (i.n 1).left (i.n 1).bad])
def rlongC:Con:=con1 RB (λi=>[.nm 0 0]) (λi=>[Rd i.l i.b]) (λi=>i.l.length<=1099511627776) (λi=>zA (ar.wrap (qM (i.n 8).got))) (λi=>[Rd (i.n 8).left (i.n 8).bad])
def rendC:Con:=con1 RB (λi=>[.nm 0 0]) (λi=>[Rd i.l i.b]) (λi=>i.l.length<=1099511627776) (λi=>zA (if i.b then 10 else if 0<i.l.length then 15 else 0)) (λi=>[Rd i.l i.b])
def bZ (a:zWs):Prop:=0<=a.n/\a.n<18446744073709551616/\a.l.length+a.k<=1099511627776
def yQx (i:WN):Prop:=
 ∃(a:zWs),a.n=au.wrap i.n/\(↑a.k:Int)=1/\aa (List UInt8) 2 WrU a.l=Wr i.l/\(bZ a)/\∀(b:Unit),True->∃(c:Unit),aa (List UInt8) 2 WrU (i.l++[lob i.n])=aa (List UInt8) 2 WrU (a.l++le a.n a.k)/\True
def yQw (i:WN):Prop:=
 ∃(a:zWs),a.n=au.wrap i.n/\(↑a.k:Int)=8/\aa (List UInt8) 2 WrU a.l=Wr i.l/\(bZ a)/\∀(b:Unit),True->∃(c:Unit),aa (List UInt8) 2 WrU (i.l++le i.n 8)=aa (List UInt8) 2 WrU (a.l++le a.n a.k)/\True
def yZe (i:WN):Prop:=
 ∃(a:zWs),a.n=au.wrap i.n/\(↑a.k:Int)=4/\aa (List UInt8) 2 WrU a.l=Wr i.l/\(bZ a)/\∀(b:Unit),True->∃(c:Unit),aa (List UInt8) 2 WrU (i.l++le i.n 4)=aa (List UInt8) 2 WrU (a.l++le a.n a.k)/\True
def zXt (i:List (List D)):Prop:=
 ∀(b:Bool),(b=ay->i=[])->cnd b (∃(o:Unit),i=i/\i=[]/\True) ((0+i.length)*(1:Nat)<=(140737488355328:Nat)/\∃(o:Unit),i=i/\i=[]++i/\True)
def z9p (i:List (List D)):zXt i=walk Tryz.prog ([]) 0 ([]) ([]) [] Tryz.f116 (Tryz.f116.body.getD .skip) (cloneBO.pat i) (cloneBO.pre i) (cloneBO.alts i):=by kernel_rfl
def z9t (hG:GOk Tryz.prog ([])) (h:∀(i:List (List D)),cloneBO.cnd i->zXt i):cloneBO.ok Tryz.prog 116:=gG mixed ([]) hG 0 (λ(i:List (List D))=>[]) (λ(i:List (List D))=>[]) [] Tryz.func116 (by kernel_rfl) (by kernel_rfl) (by kernel_rfl) (λ_=>by kernel_rfl) (λ(i:List (List D)) hc=>Eq.mp (z9p i) (h i hc))
def zXq (i:List (List D)):Prop:=
 ∀(b:Bool),(b=ay->i=[])->cnd b (∃(o:Unit),i=[]/\True) ((0+i.length)*(1:Nat)<=(140737488355328:Nat)/\∃(o:Unit),i=[]++i/\True)
def yAi (i:List (List D)):zXq i=walk Tryz.prog ([]) 0 ([]) ([]) [] Tryz.f116 (Tryz.f116.body.getD .skip) (cloneBR.pat i) (cloneBR.pre i) (cloneBR.alts i):=by kernel_rfl
def yAa (hG:GOk Tryz.prog ([])) (h:∀(i:List (List D)),cloneBR.cnd i->zXq i):cloneBR.ok Tryz.prog 116:=gG mixed ([]) hG 0 (λ(i:List (List D))=>[]) (λ(i:List (List D))=>[]) [] Tryz.func116 (by kernel_rfl) (by kernel_rfl) (by kernel_rfl) (λ_=>by kernel_rfl) (λ(i:List (List D)) hc=>Eq.mp (yAi i) (h i hc))
def yYx (i:Unit):Prop:=
 ∃(o:Unit),bE []=[]/\True
def yZx (i:List UInt8):Prop:=
 ∃(i_1:List (List D)),i_1=bE i/\i_1.length*(1:Nat)<=(140737488355328:Nat)/\∀(o:Unit),True->∃(o:Unit),bE i=i_1/\bE i=i_1/\True
def kO (a:Nat) (b:Nat) (c:Nat->Prop) (d:Nat->Nat):Prop:=(↑a:Int)=ar.wrap ((↑b:Int)+1)/\c a/\d a<d b/\True
def y1v (i:List UInt8):Prop:=
 ∃(a:Nat),zHl (ak a i)=4294967295/\(↑a:Int)=0/\∃(b:Nat->Prop),∃(c:Nat->Nat),b a/\∀(d:Nat),b d->cnd (decide ((↑d:Int)<(↑(bE i).length:Int))) ((0<=(↑d:Int)/\(↑d:Int)<(↑(bE i).length:Int))/\∃(e:Int),zE (bE i) (↑d:Int).toNat 0 1=bc [D.v (.int .u8 e)]/\∃(f:Int×Nat),vK f.snd f.fst=zCa av (zHl (ak d i)) (av.wrap e)/\(↑f.snd:Int)=0/\∃(g:Int×Nat->Prop),∃(h:Int×Nat->Nat),g f/\∀(j:Int×Nat),g j->cnd (decide ((↑j.snd:Int)<8)) ((0:Int)<=(1:Int)/\cnd (decide (zCc av (vK j.snd j.fst) (1:Int)>(0:Int))) (∃(k:Int×Nat),vK k.snd k.fst=zCa av (mL av (vK j.snd j.fst) 1) 3988292384/\(↑k.snd:Int)=ar.wrap ((↑j.snd:Int)+1)/\g k/\h k<h j/\True) (∃(k:Int×Nat),vK k.snd k.fst=mL av (vK j.snd j.fst) 1/\(↑k.snd:Int)=ar.wrap ((↑j.snd:Int)+1)/\g k/\h k<h j/\True)) (∃(k:Nat),zHl (ak k i)=vK j.snd j.fst/\kO k d b c)) (∃(e:Unit),cX i=av.wrap (↑(cf av.bits (if av.signed=ay then(-1:Int)else av.max) ^^^ cf av.bits (zHl (ak d i))).toNat:Int)/\True)
def yYs (i:List UInt8):Prop:=
 ∃(i_1:List (List D)),i_1=bE i/\i_1.length*(1:Nat)<=(140737488355328:Nat)/\∀(o:Unit),True->∃(o:Unit),bE i=i_1/\ax=ax/\True
def y0u (i:RN):Prop:=
 cnd i.b (∃(o:Unit),bE i.got=[]/\bE i.left=bE i.l/\i.bad=ay/\True) (cnd (decide ((↑i.n:Int)>(↑(bE i.l).length:Int))) (∃(o:Unit),bE i.got=[]/\bE i.left=bE i.l/\i.bad=decide ((↑i.n:Int)>(↑(bE i.l).length:Int))/\True) ((0<=(↑i.n:Int)/\(↑i.n:Int)<=(↑(bE i.l).length:Int))/\(0<=(↑i.n:Int)/\(↑i.n:Int)<=(↑(bE i.l).length:Int))/\∃(o:Unit),bE i.got=ak (↑i.n:Int).toNat (bE i.l)/\bE i.left=ap (↑i.n:Int).toNat (bE i.l)/\i.bad=decide ((↑i.n:Int)>(↑(bE i.l).length:Int))/\True))
def y2d (i:RN):Prop:=
 ∃(a:RN),(↑a.n:Int)=(↑i.n:Int)/\aa (List UInt8×Bool) 1 RdU (a.l,a.b)=Rd i.l i.b/\(a.n<=255/\a.l.length<=1099511627776)/\∀(b:Unit),True->∃(c:Nat),qM (ak c i.got)=0/\(↑c:Int)=0/\∃(d:Nat->Prop),∃(e:Nat->Nat),d c/\∀(f:Nat),d f->cnd (decide ((↑f:Int)<(↑(bE a.got).length:Int))) ((0<=(↑f:Int)/\(↑f:Int)<(↑(bE a.got).length:Int))/\∃(g:Int),zE (bE a.got) (↑f:Int).toNat 0 1=bc [D.v (.int .u8 g)]/\0<=ar.wrap (8*(↑f:Int))/\∃(h:Nat),qM (ak h i.got)=iOr au (qM (ak f i.got)) (z0b au (au.wrap g) (ar.wrap (8*(↑f:Int))))/\(↑h:Int)=ar.wrap ((↑f:Int)+1)/\d h/\e h<e f/\dh (aa (List UInt8×Bool) 1 RdU (a.left,a.bad))) (∃(g:Unit),qM i.got=qM (ak f i.got)/\aa (List UInt8×Bool) 1 RdU (i.left,i.bad)=aa (List UInt8×Bool) 1 RdU (a.left,a.bad)/\True)
def yWo (i:RB):Prop:=
 ∃(i_1:RN),(↑i_1.n:Int)=1/\aa (List UInt8×Bool) 1 RdU (i_1.l,i_1.b)=Rd i.l i.b/\(i_1.n<=8/\i_1.l.length<=1099511627776)/\∀(o:Unit),True->∃(o:Unit),qM (i.n 1).got=ar.wrap (qM i_1.got)/\aa (List UInt8×Bool) 1 RdU ((i.n 1).left,(i.n 1).bad)=aa (List UInt8×Bool) 1 RdU (i_1.left,i_1.bad)/\True
def yWa (i:RB):Prop:=
 ∃(i_1:RN),(↑i_1.n:Int)=8/\aa (List UInt8×Bool) 1 RdU (i_1.l,i_1.b)=Rd i.l i.b/\(i_1.n<=8/\i_1.l.length<=1099511627776)/\∀(o:Unit),True->∃(o:Unit),ar.wrap (qM (i.n 8).got)=ar.wrap (qM i_1.got)/\aa (List UInt8×Bool) 1 RdU ((i.n 8).left,(i.n 8).bad)=aa (List UInt8×Bool) 1 RdU (i_1.left,i_1.bad)/\True
def y0c (i:RB):Prop:=
 cnd i.b (∃(o:Unit),(if i.b=ay then(10:Int)else if 0<i.l.length then(15:Int)else(0:Int))=10/\dh (bE i.l)/\i.b=i.b/\True) (cnd (decide ((↑(bE i.l).length:Int)>0)) (∃(o:Unit),(if i.b=ay then(10:Int)else if 0<i.l.length then(15:Int)else(0:Int))=15/\dh (bE i.l)/\i.b=i.b/\True) (∃(o:Unit),(if i.b=ay then(10:Int)else if 0<i.l.length then(15:Int)else(0:Int))=0/\dh (bE i.l)/\i.b=i.b/\True))
def yWj (k:Nat):∀n:Int,le (n % 256 ^ k) k=le n k:=by
 induction k with
 |zero=>intro n;rfl
 |succ k ih=>
  intro n;have hp:(0:Int)<256 ^ k:=Int.pow_pos (by omega);have h1:lob (n % 256 ^ (k+1))=lob n:=by
   unfold lob;rw[bu,y9o,Int.emod_emod_of_dvd n ⟨256 ^ k,rfl⟩]
  have h2:n % 256 ^ (k+1) / 256=n / 256 % 256 ^ k:=by
   have e:n=256*(n / 256)+n % 256:=(Int.mul_ediv_add_emod n 256).symm;have e2:n / 256=256 ^ k*(n / 256 / 256 ^ k)+n / 256 % 256 ^ k:=(Int.mul_ediv_add_emod _ _).symm;have hr:=xBb (n / 256) (show(256:Int) ^ k≠0 by omega);have hr2:=xBc (n / 256) hp;have e3:n % 256 ^ (k+1)=256*(n / 256 % 256 ^ k)+n % 256:=by
    have:n=256 ^ (k+1)*(n / 256 / 256 ^ k)+(256*(n / 256 % 256 ^ k)+n % 256):=by
     rw[bu,y9o (256 ^ k) 256,Int.mul_assoc,<- Int.add_assoc,<- bv,<- e2];exact e
    conv=>lhs;rw[this]
    rw[Int.add_comm,Int.add_mul_emod_self_left,Int.emod_eq_of_lt]
    ·omega
    ·rw[bu];omega
   rw[e3];omega
  rw[le,le,h1,h2,ih]
def yAb (n:Int):le (au.wrap n) 8=le n 8:=yWj 8 n
def z3h (n:Int):lob (au.wrap n)=lob n:=by
 have:au.wrap n=n % 18446744073709551616:=rfl;unfold lob;rw[this,Int.emod_emod_of_dvd n ⟨72057594037927936,by decide⟩]
def b6 (n:Int):0<=au.wrap n/\au.wrap n<18446744073709551616:=by
 have:au.wrap n=n % 18446744073709551616:=rfl;rw[this];omega
def y1f (i:WN) (h:byteC.cnd i):yQx i:=by
 unfold yQx bZ;have h:i.l.length+8<=1099511627776:=h;exact⟨⟨i.l,au.wrap i.n,1⟩,rfl,rfl,rfl,⟨(b6 _).1,(b6 _).2,by dsimp only;omega⟩,λ_ _=>⟨(),by simp only[le,z3h],trivial⟩⟩
def y1j (i:WN) (h:longC.cnd i):yQw i:=by
 unfold yQw bZ;have h:i.l.length+8<=1099511627776:=h;exact⟨⟨i.l,au.wrap i.n,8⟩,rfl,rfl,rfl,⟨(b6 _).1,(b6 _).2,by dsimp only;omega⟩,λ_ _=>⟨(),by simp only[yAb],trivial⟩⟩
def y3k (i:WN) (h:sumC.cnd i):yZe i:=by
 unfold yZe bZ;obtain⟨h1,h2,h3⟩:=h;have e:au.wrap i.n=i.n:=zDf (by omega);exact⟨⟨i.l,au.wrap i.n,4⟩,rfl,rfl,rfl,⟨(b6 _).1,(b6 _).2,by dsimp only;omega⟩,λ_ _=>⟨(),by simp only[e],trivial⟩⟩
def zKp:byteC.ok Tryz.prog 59:=okw mixed (gokc z3a gok0) 0 (λ_=>[]) (λ_=>[]) [] Tryz.func59 y1f
def zVa:longC.ok Tryz.prog 60:=okw mixed (gokc z3a gok0) 0 (λ_=>[]) (λ_=>[]) [] Tryz.func60 y1j
def yJu:sumC.ok Tryz.prog 63:=okw mixed (gokc z3a gok0) 0 (λ_=>[]) (λ_=>[]) [] Tryz.func63 y3k
def zMy:cloneBO.ok Tryz.prog 116:=z9t gok0 λi h=>λb hb=>
 Cv.cnd.mk (λe=>⟨(),rfl,hb e,trivial⟩) (λ_=>⟨by rw[y6c];exact h,(),rfl,rfl,trivial⟩)
def z3p:cloneBR.ok Tryz.prog 116:=yAa gok0 λi h=>λb hb=>
 Cv.cnd.mk (λe=>⟨(),hb e,trivial⟩) (λ_=>⟨by rw[y6c];exact h,(),rfl,trivial⟩)
def zVw:newWC.ok Tryz.prog 58:=okw (V:=yYx) mixed gok0 0 (λ_=>[]) (λ_=>[]) [] Tryz.func58 λ(_:Unit) _=>⟨(),rfl,trivial⟩
def zTu:doneC.ok Tryz.prog 62:=okw (V:=yZx) mixed (gokc zMy gok0) 0 (λ_=>[]) (λ_=>[]) [0] Tryz.func62 λ(i:List UInt8) h=>by
 have h:i.length<=1099511627776:=h;exact⟨_,rfl,by rw[y4];omega,λ_ _=>⟨(),rfl,rfl,trivial⟩⟩
def z7v:newRC.ok Tryz.prog 65:=okw (V:=yYs) mixed (gokc z3p gok0) 0 (λ_=>[]) (λ_=>[]) [] Tryz.func65 λ(i:List UInt8) h=>by
 have h:i.length<=1099511627776:=h;exact⟨_,rfl,by rw[y4];omega,λ_ _=>⟨(),rfl,rfl,trivial⟩⟩
def dO {l:List UInt8} {i:Nat} {b:UInt8} (h:l[i]? =bc b):zE (bE l) i 0 1=bc [.v (.int .u8 b.toNat)]:=by
 unfold zE bE;rw[y6q,h];rfl
def z9r {l:List UInt8} {i:Nat} {b:UInt8} (h:l[i]? =bc b):zHl (l.take (i+1))=vK 8 (zCa .u32 (zHl (l.take i)) b.toNat):=by
 unfold zHl;rw[y6m,h];simp[y9k]
def y1b (b:UInt8):av.wrap (b.toNat:Int)=b.toNat:=y0j (by have:=b.toNat_lt;omega)
def y0s (b:UInt8):au.wrap (b.toNat:Int)=b.toNat:=zDf (by have:=b.toNat_lt;omega)
def y3z (i:List UInt8) (h:crcC.cnd i):y1v i:=by
 unfold y1v kO;have h:i.length<=1099511627776:=h;refine⟨0,rfl,rfl,λj=>j<=i.length,λj=>i.length-j,by dsimp only;omega,λj hj=>zI (λhlt=> ?_) (λhlt=> ?_)⟩
 ·dsimp only at hj;rw[y4]at hlt;obtain⟨b,hb⟩:∃b,i[j]? =bc b:=⟨_,y6e (by omega)⟩
  refine⟨⟨by omega,by rw[y4];omega⟩,b.toNat,dO hb,(zCa .u32 (zHl (i.take j)) b.toNat,0),?_,rfl,λx=>x.1=zCa .u32 (zHl (i.take j)) b.toNat/\x.2<=8,λx=>8-x.2,⟨rfl,by dsimp only;omega⟩,?_⟩
  ·simp only[vK,y1b]
  rintro⟨c,n⟩ ⟨h1,h2⟩;dsimp only at h1 h2;subst h1;refine zI (λhn=>⟨by omega,zI (λhc=> ?_) (λhc=> ?_)⟩) (λhn=> ?_)
  ·refine⟨(zCa .u32 (zHl (i.take j)) b.toNat,n+1),?_,?_,⟨rfl,by dsimp only at hn ⊢;omega⟩,by dsimp only at hn ⊢;omega,trivial⟩
   ·simp only[vK,z3s];rw[y5d hc]
   ·rw[w64 (by dsimp only;omega)];rfl
  ·refine⟨(zCa .u32 (zHl (i.take j)) b.toNat,n+1),?_,?_,⟨rfl,by dsimp only at hn ⊢;omega⟩,by dsimp only at hn ⊢;omega,trivial⟩
   ·simp only[vK,z3s];rw[y5b hc]
   ·rw[w64 (by dsimp only;omega)];rfl
  ·dsimp only at hn;obtain rfl:n=8:=by omega
   refine⟨j+1,z9r hb,?_,by dsimp only;omega,by dsimp only;omega,trivial⟩;rw[w64 (by omega)];rfl
 ·dsimp only at hj;rw[y4]at hlt;refine⟨(),?_,trivial⟩;rw[y5n (by omega)];rfl
def z1r:crcC.ok Tryz.prog 64:=okw mixed gok0 0 (λ_=>[]) (λi=>y3o i) [] Tryz.func64 y3z
def z6l:takeC.ok Tryz.prog 149:=okw (V:=y0u) mixed gok0 0 (λ_=>[]) (λ_=>[]) [0] Tryz.func149 λ(i:RN) h=>by
 obtain⟨h1,h2⟩:=h;refine Cv.cnd.mk (λe=> ?_) (λe=>zI (λhlt=> ?_) (λhlt=> ?_))
 ·have:i.bad=ay:=by simp[RN.bad,e]
  exact⟨(),by simp[RN.got,this],by simp[RN.left,this],this,trivial⟩
 ·rw[y4]at hlt;have:i.bad=ay:=by simp[RN.bad];right;omega
  exact⟨(),by simp[RN.got,this],by simp[RN.left,this],by rw[this,y4];simp;omega,trivial⟩
 ·rw[y4]at hlt;have:i.bad=ax:=by simp[RN.bad,e];omega
  rw[y4];exact⟨⟨by omega,by omega⟩,⟨by omega,by omega⟩,(),by simp[RN.got,this,zAj],by simp[RN.left,this,zFj],by rw[this];simp;omega,trivial⟩
def aU:∀l:List UInt8,0<=qM l/\qM l<256 ^ l.length
 |[]=>by simp[qM]
 |b::l=>by
  obtain⟨h1,h2⟩:=aU l;have:=b.toNat_lt;simp only[qM,y5g,bu];omega
def zSx (b:UInt8):∀l:List UInt8,qM (l++[b])=qM l+b.toNat*256 ^ l.length
 |[]=>by simp[qM]
 |c::l=>by
  simp only[y6t,qM,zSx b l,y5g,bu,bv];rw[y9o (256 ^ l.length) 256,<- Int.mul_assoc,<- Int.mul_assoc,y9o 256 (b.toNat:Int)];omega
def yDk {x b j:Nat} (hx:x<256 ^ j) (hb:b<256) (hj:j<8):iOr .u64 x (z0b .u64 b ((8*j:Nat):Int))=((x+b*256 ^ j:Nat):Int):=by
 have hp:256 ^ j=2 ^ (8*j):=by rw[Nat.pow_mul]
 have hle:256 ^ (j+1)<=256 ^ 8:=Nat.pow_le_pow_right (by omega) (by omega);have hbig:x+b*256 ^ j<256 ^ (j+1):=by
  rw[Nat.pow_succ];have:b*256 ^ j<=255*256 ^ j:=y6o _ (by omega);omega
 have h8:(256:Nat) ^ 8=18446744073709551616:=by decide
 rw[<- yOr,<- yTp];have e1:yWq .u64 (b:Int) ((8*j:Nat):Int)=((b*256 ^ j:Nat):Int):=by
  show wr .u64 (Int.ofNat (b*2 ^ (Nat.min (8*j) 64)))=_;rw[show Nat.min (8*j) 64=8*j from y8u (by omega),<- hp,z5m];exact zDf (by show(0:Int)<=((b*256 ^ j:Nat):Int)/\((b*256 ^ j:Nat):Int)<_;omega)
 rw[e1];show wr .u64 (Int.ofNat (Nat.lor (x % 18446744073709551616) ((b*256 ^ j) % 18446744073709551616)))=_;rw[Nat.mod_eq_of_lt (by omega),Nat.mod_eq_of_lt (by omega)];have e2:Nat.lor x (b*256 ^ j)=x+b*256 ^ j:=by
  show x|||(b*256 ^ j)=_
  rw[hp]at hx ⊢;rw[Nat.or_comm,<- Nat.shiftLeft_eq,<- Nat.shiftLeft_add_eq_or_of_lt hx,xAj]
 rw[e2,z5m];exact zDf (by show(0:Int)<=((x+b*256 ^ j:Nat):Int)/\((x+b*256 ^ j:Nat):Int)<_;omega)
def zKx (i:RN):i.got.length<=i.n:=by
 unfold RN.got;split
 ·simp
 ·rw[y5t];omega
def yYn (i:RN) (h:getC.cnd i):y2d i:=by
 unfold y2d;obtain⟨h1,h2⟩:=h;refine⟨i,rfl,rfl,⟨by omega,h2⟩,λ_ _=>⟨0,rfl,rfl,λj=>j<=i.got.length,λj=>i.got.length-j,by dsimp only;omega,λj hj=>zI (λhlt=> ?_) (λhlt=> ?_)⟩⟩
 ·dsimp only at hj;have hl:=zKx i;rw[y4]at hlt ⊢;obtain⟨b,hb⟩:∃b,i.got[j]? =bc b:=⟨_,y6e (by omega)⟩
  have e8:ar.wrap (8*(j:Int))=8*j:=w64 (by omega);refine⟨⟨by omega,by omega⟩,b.toNat,dO hb,by rw[e8];omega,j+1,?_,?_,by dsimp only;omega,by dsimp only;omega,rfl⟩
  ·rw[e8,y0s,y6m,hb];simp only[y8f];rw[zSx];obtain⟨r1,r2⟩:=aU (i.got.take j);rw[y5t,y8u (by omega)]at r2 ⊢;obtain⟨x,hx⟩:∃x:Nat,qM (i.got.take j)=x:=⟨(qM (i.got.take j)).toNat,by omega⟩
   rw[hx]at r2 ⊢;have:=yDk (x:=x) (b:=b.toNat) (j:=j) (by exact_mod_cast r2) b.toNat_lt (by omega);rw[show(8*(j:Int))=((8*j:Nat):Int)by simp,this];simp
  ·rw[w64 (by omega)];rfl
 ·dsimp only at hj;rw[y4]at hlt;exact⟨(),by rw[y5n (by omega)],rfl,trivial⟩
def z4h:getC.ok Tryz.prog 117:=okw mixed (gokc z6l gok0) 0 (λ_=>[]) (λi=>y3r i) [] Tryz.func117 yYn
def zXl:rbyteC.ok Tryz.prog 67:=okw (V:=yWo) mixed (gokc z4h gok0) 0 (λ_=>[]) (λ_=>[]) [] Tryz.func67 λ(i:RB) h=>by
 have hl:=zKx (i.n 1);have hr:=aU (i.n 1).got;have h0:(256:Int) ^ (i.n 1).got.length<=256 ^ 1:=by
  have:(256:Nat) ^ (i.n 1).got.length<=256 ^ 1:=Nat.pow_le_pow_right (by omega) hl
  exact_mod_cast this
 exact⟨i.n 1,rfl,rfl,⟨by show 1<=8;omega,h⟩,λ_ _=>⟨(),(w64 (by omega)).symm,rfl,trivial⟩⟩
def yDj:rlongC.ok Tryz.prog 66:=okw (V:=yWa) mixed (gokc z4h gok0) 0 (λ_=>[]) (λ_=>[]) [] Tryz.func66 λ(i:RB) h=>by
 exact⟨i.n 8,rfl,rfl,⟨by show 8<=8;omega,h⟩,λ_ _=>⟨(),rfl,rfl,trivial⟩⟩
def yPi:rendC.ok Tryz.prog 69:=okw (V:=y0c) mixed gok0 0 (λ_=>[]) (λ_=>[]) [0] Tryz.func69 λ(i:RB) h=>by
 refine Cv.cnd.mk (λe=>⟨(),by rw[y5d e],rfl,rfl,trivial⟩) (λe=>zI (λhlt=>⟨(),?_,rfl,rfl,trivial⟩) (λhlt=>⟨(),?_,rfl,rfl,trivial⟩))
 ·rw[y4]at hlt;rw[y5b (by simp[e]),y5d (by omega)]
 ·rw[y4]at hlt;rw[y5b (by simp[e]),y5b (by omega)]
open Classical
structure Sd where
 levels:List Lv
 imp:Lv
 has:Bool
@[reducible] def Vw:=List (Sd×Sd)
def yG (b:Sd×Sd):List D:=[.ro 3 (b.1.levels.map lvE),.v (.int .i64 b.1.imp.price),.v (.int .i64 b.1.imp.qty),.v (.int .i64 b.1.imp.count),.v (.bool b.1.has),
 .ro 3 (b.2.levels.map lvE),.v (.int .i64 b.2.imp.price),.v (.int .i64 b.2.imp.qty),.v (.int .i64 b.2.imp.count),.v (.bool b.2.has)]
def sdV (s:Sd):V:= .agg [roV 3 (s.levels.map lvE),zA s.imp.price,zA s.imp.qty,zA s.imp.count,yP s.has]
def vwV (v:Vw):V:= .agg [roV 10 (v.map yG)]
def cZ (side x y:Int):Bool:=if side=1 then decide (y<x)else decide (x<y)
structure I3 where
 side:Int
 x:Int
 y:Int
def betterC:Con:=con1 I3 (λi=>[zA i.side,zA i.x,zA i.y]) (λ_=>[]) (λ_=>True) (λi=>yP (cZ i.side i.x i.y)) (λ_=>[])
def LvAt (side:Int) (l:List Lv) (i:Nat):Prop:=∀a,l[i]?=bc a->1<=a.qty/\1<=a.count/\∀j b,i=j+1->l[j]?=bc b->cZ side b.price a.price=ay
def SdRight (side:Int) (s:Sd):Prop:=(∀i,LvAt side s.levels i)/\s.levels.length<=255/\(s.has=ay->1<=s.imp.qty/\1<=s.imp.count)/\(s.has=ax->s.imp=⟨0,0,0⟩)
def c9 (v:Vw):Prop:=(∀b∈v,SdRight 1 b.1/\SdRight 2 b.2)/\v.length<=255
noncomputable def jP (side:Int) (s:Sd):Bool:=decide (SdRight side s)
noncomputable def bJ (v:Vw):Bool:=decide (c9 v)
structure SdI where
 side:Int
 s:Sd
noncomputable def srightC:Con:=con1 SdI (λi=>[zA i.side,sdV i.s]) (λ_=>[]) (λi=>i.s.levels.length<=1099511627776) (λi=>yP (jP i.side i.s)) (λ_=>[])
def yOv:List SAnn:=[{ι:=Nat,slots:=λj=>[(10,zA j)],rows:=λ_=>[]}]
@[reducible] def zBh (v:Vw):Prop:=v.length<=1099511627776/\∀b∈v,b.1.levels.length<=1099511627776/\b.2.levels.length<=1099511627776
noncomputable def rightVC:Con:=con1 Vw (λv=>[vwV v]) (λ_=>[]) zBh (λv=>yP (bJ v)) (λ_=>[])
def yOy:List SAnn:=[{ι:=Nat,slots:=λj=>[(8,zA j)],rows:=λ_=>[]}]
def kX (l:Lv):List UInt8:=le l.price 8++le l.qty 8++le l.count 8
structure z3l where
 l:List UInt8
 v:Lv
def putLC:Con:=con1 z3l (λi=>[.nm 0 0,lvV i.v]) (λi=>[Wr i.l]) (λi=>i.l.length+24<=1099511627776) (λ_=>mG) (λi=>[Wr (i.l++kX i.v)])
def zFb (s:Sd):List UInt8:=[lob s.levels.length]++s.levels.flatMap kX++(if s.has then[lob 1]++kX s.imp else[lob 0])
def wO (b:Sd×Sd):List UInt8:=zFb b.1++zFb b.2
def bG (v:Vw) (seq:Int):List UInt8:=le seq 8++[lob v.length]++v.flatMap wO
noncomputable def vF (v:Vw) (seq:Int):List UInt8:=if c9 v then bG v seq++le (cX (bG v seq)) 4 else[]
noncomputable def zOr (v:Vw):Int:=if c9 v then 0 else 12
structure zQf where
 v:Vw
 seq:Int
noncomputable def encC:Con:=con1 zQf (λi=>[vwV i.v,zA i.seq]) (λ_=>[]) (λi=>zBh i.v) (λi=> .tup [roV 1 (bE (vF i.v i.seq)),zA (zOr i.v)]) (λ_=>[])
def y3a (i:zQf):List SAnn:=[
 {ι:=Nat,slots:=λj=>[(6,.nm 0 0),(28,zA j)],rows:=λj=>[Wr (le i.seq 8++[lob i.v.length]++(i.v.take j).flatMap wO)]},
 {ι:=Unit,slots:=λ_=>[],rows:=λ_=>[],un:=3},
 {ι:=List UInt8×List Lv×Nat,slots:=λx=>[(6,.nm 0 0),(44,zA x.2.2)],rows:=λx=>[Wr (x.1++(x.2.1.take x.2.2).flatMap kX)]}]
def yMr (i:I3):Prop:=
 cnd (i.side==1) (∃(o:Unit),cZ i.side i.x i.y=decide (i.x>i.y)/\True) (∃(o:Unit),cZ i.side i.x i.y=decide (i.x<i.y)/\True)
def tT (a:Nat) (b:Nat->Prop) (c:Nat->Nat) (d:SdI):Prop:=∃(e:Nat),(↑e:Int)=ar.wrap ((↑a:Int)+1)/\b e/\c e<c a/\dh (ac [V.own 0,V.d (dI d.s.imp.price),V.d (dI d.s.imp.qty),V.d (dI d.s.imp.count),V.d (D.v (.bool d.s.has))] 129)/\dh (ab 3 (aj lvE d.s.levels))
def g7 (a:SdI):=(↑(aj lvE a.s.levels).length:Int)
def z5k (i:SdI):Prop:=
 ∃(a:Nat),(↑a:Int)=0/\∃(b:Nat->Prop),∃(c:Nat->Nat),b a/\∀(d:Nat),b d->cnd (decide ((↑d:Int)<(g7 i))) ((0<=(↑d:Int)/\(↑d:Int)<(g7 i))/\∃(e:Int),∃(f:Int),∃(g:Int),zE (aj lvE i.s.levels) (↑d:Int).toNat 0 3=bc [dI e,dI f,dI g]/\cnd (decide (f<1)) (∃(h:Unit),jP i.side i.s=ax/\True) (cnd (decide (g<1)) (∃(h:Unit),jP i.side i.s=ax/\True) (cnd (decide ((↑d:Int)>0)) ((0<=ar.wrap ((↑d:Int)-1)/\ar.wrap ((↑d:Int)-1)<(g7 i))/\∃(h:Int),zE (aj lvE i.s.levels) (ar.wrap ((↑d:Int)-1)).toNat 0 1=bc [dI h]/\∃(j:I3),j.side=i.side/\j.x=h/\j.y=e/\True/\∀(k:Unit),True->cnd (!cZ j.side j.x j.y) (∃(l:Unit),jP i.side i.s=ax/\True) (tT d b c i)) (tT d b c i)))) (cnd (!i.s.has) (cnd (decide ((g7 i)<=255)) (∃(e:Unit),jP i.side i.s=(i.s.imp.price==0 && (i.s.imp.qty==0 && (i.s.imp.count==0 && ay)))/\True) (∃(e:Unit),jP i.side i.s=ax/\True)) (cnd (decide ((g7 i)<=255)) (cnd (decide (i.s.imp.qty>=1)) (∃(e:Unit),jP i.side i.s=decide (i.s.imp.count>=1)/\True) (∃(e:Unit),jP i.side i.s=ax/\True)) (∃(e:Unit),jP i.side i.s=ax/\True)))
def z9e (i:Vw):Prop:=
 ∃(a:Nat),(↑a:Int)=0/\∃(b:Nat->Prop),∃(c:Nat->Nat),b a/\∀(d:Nat),b d->cnd (decide ((↑d:Int)<(↑(aj yG i).length:Int))) ((0<=(↑d:Int)/\(↑d:Int)<(↑(aj yG i).length:Int))/\∃(e:List (List D)),∃(f:Int),∃(g:Int),∃(h:Int),∃(j:Bool),∃(k:List (List D)),∃(l:Int),∃(m:Int),∃(n:Int),∃(p:Bool),zE (aj yG i) (↑d:Int).toNat 0 10=bc [D.ro 3 e,dI f,dI g,dI h,D.v (.bool j),D.ro 3 k,dI l,dI m,dI n,D.v (.bool p)]/\∃(q:SdI),q.side=1/\aj lvE q.s.levels=e/\q.s.imp.price=f/\q.s.imp.qty=g/\q.s.imp.count=h/\q.s.has=j/\q.s.levels.length<=1099511627776/\∀(r:Unit),True->cnd (!jP q.side q.s) (∃(s:Unit),bJ i=ax/\True) (∃(s:SdI),s.side=2/\aj lvE s.s.levels=k/\s.s.imp.price=l/\s.s.imp.qty=m/\s.s.imp.count=n/\s.s.has=p/\s.s.levels.length<=1099511627776/\∀(t:Unit),True->cnd (!jP s.side s.s) (∃(u:Unit),bJ i=ax/\True) (∃(u:Nat),(↑u:Int)=ar.wrap ((↑d:Int)+1)/\b u/\c u<c d/\dh (ac [V.own 0] 71)/\dh (ab 10 (aj yG i))))) (∃(e:Unit),bJ i=decide ((↑(aj yG i).length:Int)<=255)/\True)
def yYr (i:z3l):Prop:=
 ∃(i_1:WN),i_1.n=i.v.price/\aa (List UInt8) 2 WrU i_1.l=Wr i.l/\i_1.ok/\∀(o:Unit),True->∃(i_2:WN),i_2.n=i.v.qty/\aa (List UInt8) 2 WrU i_2.l=aa (List UInt8) 2 WrU (i_1.l++le i_1.n 8)/\i_2.ok/\∀(o:Unit),True->∃(i_3:WN),i_3.n=i.v.count/\aa (List UInt8) 2 WrU i_3.l=aa (List UInt8) 2 WrU (i_2.l++le i_2.n 8)/\i_3.ok/\∀(o:Unit),True->∃(o:Unit),aa (List UInt8) 2 WrU (i.l++kX i.v)=aa (List UInt8) 2 WrU (i_3.l++le i_3.n 8)/\True
def zOn (a:zQf):Prop:=ac [V.own 0] 71=ac [V.own 0] 71/\dh (ab 10 (aj yG a.v))
def zPi (a:Nat->Prop) (b:Nat) (c:Nat->Nat) (d:Nat) (e:zQf):Prop:=a b/\c b<c d/\zOn e
def nW (a:zQf) (b:Nat):=(le a.seq 8++[lob (↑(aq a.v):Int)]++List.flatMap wO (ak b a.v))
def vQ (a:List UInt8×List Lv×Nat):=(a.fst++List.flatMap kX (ak a.snd.snd a.snd.fst))
def zTn (a:Int) (b:Int) (c:Int) (d:Bool) (e:List (List D)) (f:List (List D)) (g:Int) (h:Int) (j:Int) (k:Bool) (l:zQf):Prop:=ac [V.own 5,V.d (dI a),V.d (dI b),V.d (dI c),V.d (D.v (.bool d))] 129=ac [V.own 5,V.d (dI a),V.d (dI b),V.d (dI c),V.d (D.v (.bool d))] 129/\dh (ab 3 e)/\dh (ab 3 f)/\dh (ac [V.own 5,V.d (dI a),V.d (dI b),V.d (dI c),V.d (D.v (.bool d)),V.own 6,V.d (dI g),V.d (dI h),V.d (dI j),V.d (D.v (.bool k))] 130)/\zOn l
def z4z (a:WN) (b:List (List D)) (c:Int) (d:Int) (e:Int) (f:Bool) (g:Int) (h:Int) (j:Int) (k:Bool) (l:List (List D)) (m:zQf) (n:Nat) (p:Nat->Prop) (q:Nat->Nat):Prop:=a.ok/\∀(r:Unit),True->∃(s:List UInt8×List Lv×Nat),(↑s.snd.snd:Int)=0/\aa (List UInt8) 2 WrU (vQ s)=aa (List UInt8) 2 WrU (a.l++[lob a.n])/\∃(t:List UInt8×List Lv×Nat->Prop),∃(u:List UInt8×List Lv×Nat->Nat),t s/\∀(v:List UInt8×List Lv×Nat),t v->cnd (decide ((↑v.snd.snd:Int)<(↑b.length:Int))) ((0<=(↑v.snd.snd:Int)/\(↑v.snd.snd:Int)<(↑b.length:Int))/\∃(w:Int),∃(x:Int),∃(y:Int),zE b (↑v.snd.snd:Int).toNat 0 3=bc [dI w,dI x,dI y]/\∃(z:z3l),z.v.price=w/\z.v.qty=x/\z.v.count=y/\aa (List UInt8) 2 WrU z.l=aa (List UInt8) 2 WrU (vQ v)/\z.l.length+(24:Nat)<=(1099511627776:Nat)/\∀(a_1:Unit),True->∃(a_2:List UInt8×List Lv×Nat),(↑a_2.snd.snd:Int)=ar.wrap ((↑v.snd.snd:Int)+1)/\aa (List UInt8) 2 WrU (vQ a_2)=aa (List UInt8) 2 WrU (z.l++kX z.v)/\t a_2/\u a_2<u v/\dh (ac [V.own 6,V.d (dI c),V.d (dI d),V.d (dI e),V.d (D.v (.bool f))] 129)/\zTn g h j k b l c d e f m) (cnd (!f) (∃(w:WN),w.n=0/\aa (List UInt8) 2 WrU w.l=aa (List UInt8) 2 WrU (vQ v)/\w.ok/\∀(x:Unit),True->∃(y:Nat),(↑y:Int)=ar.wrap ((↑n:Int)+1)/\aa (List UInt8) 2 WrU (nW m y)=aa (List UInt8) 2 WrU (w.l++[lob w.n])/\zPi p y q n m) (∃(w:WN),w.n=1/\aa (List UInt8) 2 WrU w.l=aa (List UInt8) 2 WrU (vQ v)/\w.ok/\∀(x:Unit),True->∃(y:z3l),y.v.price=c/\y.v.qty=d/\y.v.count=e/\aa (List UInt8) 2 WrU y.l=aa (List UInt8) 2 WrU (w.l++[lob w.n])/\y.l.length+(24:Nat)<=(1099511627776:Nat)/\∀(z:Unit),True->∃(a_1:Nat),(↑a_1:Int)=ar.wrap ((↑n:Int)+1)/\aa (List UInt8) 2 WrU (nW m a_1)=aa (List UInt8) 2 WrU (y.l++kX y.v)/\zPi p a_1 q n m))
def y1n (i:zQf):Prop:=
 ∃(a:Vw),aj yG a=aj yG i.v/\(aq a<=1099511627776/\∀(b:Sd×Sd),b∈a->b.fst.levels.length<=1099511627776/\b.snd.levels.length<=1099511627776)/\∀(b:Unit),True->cnd (!bJ a) (∃(c:Unit),bE (vF i.v i.seq)=[]/\zOr i.v=12/\True) (∃(c:Unit),True/\∀(d:Unit),True->∃(e:WN),e.n=i.seq/\aa (List UInt8) 2 WrU e.l=aa (List UInt8) 2 WrU []/\e.ok/\∀(f:Unit),True->∃(g:WN),g.n=(↑(aj yG i.v).length:Int)/\aa (List UInt8) 2 WrU g.l=aa (List UInt8) 2 WrU (e.l++le e.n 8)/\g.ok/\∀(h:Unit),True->∃(j:Nat),(↑j:Int)=0/\aa (List UInt8) 2 WrU (nW i j)=aa (List UInt8) 2 WrU (g.l++[lob g.n])/\∃(k:Nat->Prop),∃(l:Nat->Nat),k j/\∀(m:Nat),k m->cnd (decide ((↑m:Int)<(↑(aj yG i.v).length:Int))) ((0<=(↑m:Int)/\(↑m:Int)<(↑(aj yG i.v).length:Int))/\∃(n:List (List D)),∃(p:Int),∃(q:Int),∃(r:Int),∃(s:Bool),∃(t:List (List D)),∃(u:Int),∃(v:Int),∃(w:Int),∃(x:Bool),zE (aj yG i.v) (↑m:Int).toNat 0 10=bc [D.ro 3 n,dI p,dI q,dI r,D.v (.bool s),D.ro 3 t,dI u,dI v,dI w,D.v (.bool x)]/\∃(y:WN),y.n=(↑n.length:Int)/\aa (List UInt8) 2 WrU y.l=aa (List UInt8) 2 WrU (nW i m)/\y.ok/\∀(z:Unit),True->∃(a_1:List UInt8×List Lv×Nat),(↑a_1.snd.snd:Int)=0/\aa (List UInt8) 2 WrU (vQ a_1)=aa (List UInt8) 2 WrU (y.l++[lob y.n])/\∃(a_2:List UInt8×List Lv×Nat->Prop),∃(a_3:List UInt8×List Lv×Nat->Nat),a_2 a_1/\∀(a_4:List UInt8×List Lv×Nat),a_2 a_4->cnd (decide ((↑a_4.snd.snd:Int)<(↑n.length:Int))) ((0<=(↑a_4.snd.snd:Int)/\(↑a_4.snd.snd:Int)<(↑n.length:Int))/\∃(a_5:Int),∃(a_6:Int),∃(a_7:Int),zE n (↑a_4.snd.snd:Int).toNat 0 3=bc [dI a_5,dI a_6,dI a_7]/\∃(a_8:z3l),a_8.v.price=a_5/\a_8.v.qty=a_6/\a_8.v.count=a_7/\aa (List UInt8) 2 WrU a_8.l=aa (List UInt8) 2 WrU (vQ a_4)/\a_8.l.length+(24:Nat)<=(1099511627776:Nat)/\∀(a_9:Unit),True->∃(a_10:List UInt8×List Lv×Nat),(↑a_10.snd.snd:Int)=ar.wrap ((↑a_4.snd.snd:Int)+1)/\aa (List UInt8) 2 WrU (vQ a_10)=aa (List UInt8) 2 WrU (a_8.l++kX a_8.v)/\a_2 a_10/\a_3 a_10<a_3 a_4/\zTn p q r s t n u v w x i) (cnd (!s) (∃(a_5:WN),a_5.n=0/\aa (List UInt8) 2 WrU a_5.l=aa (List UInt8) 2 WrU (vQ a_4)/\a_5.ok/\∀(a_6:Unit),True->∃(a_7:WN),a_7.n=(↑t.length:Int)/\aa (List UInt8) 2 WrU a_7.l=aa (List UInt8) 2 WrU (a_5.l++[lob a_5.n])/\z4z a_7 t u v w x p q r s n i m k l) (∃(a_5:WN),a_5.n=1/\aa (List UInt8) 2 WrU a_5.l=aa (List UInt8) 2 WrU (vQ a_4)/\a_5.ok/\∀(a_6:Unit),True->∃(a_7:z3l),a_7.v.price=p/\a_7.v.qty=q/\a_7.v.count=r/\aa (List UInt8) 2 WrU a_7.l=aa (List UInt8) 2 WrU (a_5.l++[lob a_5.n])/\a_7.l.length+(24:Nat)<=(1099511627776:Nat)/\∀(a_8:Unit),True->∃(a_9:WN),a_9.n=(↑t.length:Int)/\aa (List UInt8) 2 WrU a_9.l=aa (List UInt8) 2 WrU (a_7.l++kX a_7.v)/\z4z a_9 t u v w x p q r s n i m k l))) (∃(n:List UInt8),aa (List UInt8) 2 WrU n=aa (List UInt8) 2 WrU (nW i m)/\n.length<=1099511627776/\∀(p:Unit),True->∃(q:List UInt8),bE q=bE n/\q.length<=1099511627776/\∀(r:Unit),True->∃(s:WN),s.n=cX q/\aa (List UInt8) 2 WrU s.l=aa (List UInt8) 2 WrU n/\(s.l.length+(8:Nat)<=(1099511627776:Nat)/\0<=s.n/\s.n<4294967296)/\∀(t:Unit),True->∃(u:List UInt8),aa (List UInt8) 2 WrU u=aa (List UInt8) 2 WrU (s.l++le s.n 4)/\u.length<=1099511627776/\∀(v:Unit),True->∃(w:Unit),bE (vF i.v i.seq)=bE u/\zOr i.v=0/\True))
def yAt {α:Type} {f:α->List D} {l:List α} {i n:Nat} {x:α} (h:l[i]? =bc x) (hn:(f x).length=n):zE (l.map f) i 0 n=bc (f x):=by
 unfold zE;rw[y6q,h];simp only[y7e,y6c,hn,Nat.ble_eq_true_of_le (y5x n),cond_true,y8q];rw[<- hn,y5n (y5x _)]
def yYa {α:Type} {f:α->List D} {l:List α} {i g n:Nat} {x:α} {r:List D} (h:l[i]? =bc x) (hn:g+n<=(f x).length) (hr:((f x).drop g).take n=r):zE (l.map f) i g n=bc r:=by
 unfold zE;rw[y6q,h];simp only[y7e,Nat.ble_eq_true_of_le hn,cond_true,hr]
def getD {α:Type} {l:List α} {i:Nat} (h:i<l.length):∃x,l[i]? =bc x:=⟨_,y6e h⟩
def zSf:betterC.ok Tryz.prog 150:=okw (V:=yMr) mixed gok0 0 (λ_=>[]) (λ_=>[]) [] Tryz.func150 λ(i:I3) _=>by
 refine Cv.cnd.mk (λe=>⟨(),?_,trivial⟩) (λe=>⟨(),?_,trivial⟩)
 ·have e:i.side=1:=by simpa using e
  simp[cZ,e]
 ·have e:i.side≠1:=by simpa using e
  simp[cZ,e]
def sdF {side:Int} {s:Sd} (h:¬SdRight side s):jP side s=ax:=y5q h
def LvAt.of {side:Int} {l:List Lv} {i:Nat} {x:Lv} (hx:l[i]? =bc x) (h1:1<=x.qty) (h2:1<=x.count) (h3:∀j b,i=j+1->l[j]? =bc b->cZ side b.price x.price=ay):LvAt side l i:=by
 intro a ha;rw[hx]at ha;cases ha;exact⟨h1,h2,h3⟩
def yLc (i:SdI) (h:srightC.cnd i):z5k i:=by
 unfold z5k g7 tT dI;have h:i.s.levels.length<=1099511627776:=h;refine⟨0,rfl,λj=>j<=i.s.levels.length/\∀k,k<j->LvAt i.side i.s.levels k,λj=>i.s.levels.length-j,⟨by omega,by intro k hk;omega⟩,λj hj=>zI (λhlt=> ?_) (λhlt=> ?_)⟩
 ·obtain⟨hj1,hj2⟩:=hj;rw[y5c]at hlt ⊢;obtain⟨x,hx⟩:=getD (l:=i.s.levels) (i:=j) (by omega);have w1:ar.wrap ((j:Int)+1)=((j+1:Nat):Int):=by rw[w64 (by omega)];rfl
  have next:LvAt i.side i.s.levels j->(λj=>j<=i.s.levels.length/\∀k,k<j->LvAt i.side i.s.levels k) (j+1):=λhl=>⟨by omega,λk hk=>by
   rcases y7k k j with h'|h'
   ·exact hj2 k h'
   ·obtain rfl:k=j:=by omega
    exact hl⟩
  refine⟨⟨by omega,by omega⟩,x.price,x.qty,x.count,yAt hx rfl,zI (λhq=> ?_) (λhq=>zI (λhc=> ?_) (λhc=>zI (λhp=> ?_) (λhp=> ?_)))⟩
  ·exact⟨(),sdF λhr=>by have:=(hr.1 j x hx).1;omega,trivial⟩
  ·exact⟨(),sdF λhr=>by have:=(hr.1 j x hx).2.1;omega,trivial⟩
  ·have w0:ar.wrap ((j:Int)-1)=((j-1:Nat):Int):=by rw[w64 (by omega)];omega
   obtain⟨y,hy⟩:=getD (l:=i.s.levels) (i:=j-1) (by omega);refine⟨⟨by rw[w0];omega,by rw[w0];omega⟩,y.price,by rw[w0];exact yYa (n:=1) hy (by show 0+0+1<=3;omega) rfl,⟨i.side,y.price,x.price⟩,rfl,rfl,rfl,trivial,λ_ _=> ?_⟩;refine Cv.cnd.mk (λhb=>⟨(),sdF λhr=> ?_,trivial⟩) (λhb=>⟨j+1,w1.symm,next (LvAt.of hx (by omega) (by omega) ?_),by dsimp only;omega,by(repeat'(first|exact trivial|exact rfl|apply az))⟩)
   ·have:=(hr.1 j x hx).2.2 (j-1) y (by omega) hy;simp only[y8o]at hb;rw[hb]at this;cases this
   ·intro k b hk hb';obtain rfl:k=j-1:=by omega
    rw[hy]at hb';cases hb';simpa using hb
  ·exact⟨j+1,w1.symm,next (LvAt.of hx (by omega) (by omega) λk b hk _=>by omega),by dsimp only;omega,by(repeat'(first|exact trivial|exact rfl|apply az))⟩
 ·obtain⟨hj1,hj2⟩:=hj;rw[y5c]at hlt ⊢;obtain rfl:j=i.s.levels.length:=by omega
  have hall:∀k,LvAt i.side i.s.levels k:=λk=>by
   rcases y7k k i.s.levels.length with h'|h'
   ·exact hj2 k h'
   ·intro a ha;rw[y6h h']at ha;cases ha
  refine Cv.cnd.mk (λhh=>zI (λhl=>⟨(),?_,trivial⟩) (λhl=>⟨(),sdF λhr=>by have:=hr.2.1;omega,trivial⟩))
   (λhh=>zI (λhl=>zI (λhq=>⟨(),?_,trivial⟩) (λhq=>⟨(),sdF λhr=> ?_,trivial⟩)) (λhl=>⟨(),sdF λhr=>by have:=hr.2.1;omega,trivial⟩))
  ·have hh:i.s.has=ax:=by simpa using hh
   rw[xBd];simp only[jP,y6p,y5o,beq_iff_eq,and_true];constructor
   ·intro hr;have:=hr.2.2.2 hh;rw[this];exact⟨rfl,rfl,rfl⟩
   ·rintro⟨e1,e2,e3⟩;refine⟨hall,by omega,(λhc=>by rw[hh]at hc;cases hc),λ_=> ?_⟩;cases hi:i.s.imp;rw[hi]at e1 e2 e3;simp_all
  ·have hh:i.s.has=ay:=by simpa using hh
   rw[xBd];simp only[jP,y6p];exact⟨λhr=>(hr.2.2.1 hh).2,λhc=>⟨hall,by omega,λ_=>⟨hq,hc⟩,λhc=>by rw[hh]at hc;cases hc⟩⟩
  ·have hh:i.s.has=ay:=by simpa using hh
   have:=(hr.2.2.1 hh).1;omega
def yBk:srightC.ok Tryz.prog 119:=okw mixed (gokc zSf gok0) 0 (λ_=>[]) (λ_=>yOv) [] Tryz.func119 yLc
def vwF {v:Vw} (h:¬c9 v):bJ v=ax:=y5q h
def yPf (v:Vw) (h:rightVC.cnd v):z9e v:=by
 unfold z9e dI;obtain⟨h1,h2⟩:zBh v:=h;refine⟨0,rfl,λj=>j<=v.length/\∀k b,k<j->v[k]? =bc b->SdRight 1 b.1/\SdRight 2 b.2,λj=>v.length-j,⟨by omega,by intro k b hk;omega⟩,λj hj=>zI (λhlt=> ?_) (λhlt=> ?_)⟩
 ·obtain⟨hj1,hj2⟩:=hj;rw[y5c]at hlt ⊢;obtain⟨x,hx⟩:=getD (l:=v) (i:=j) (by omega);have hm:=y5m hx;have w1:ar.wrap ((j:Int)+1)=((j+1:Nat):Int):=by rw[w64 (by omega)];rfl
  refine⟨⟨by omega,by omega⟩,_,_,_,_,_,_,_,_,_,_,yAt hx rfl,⟨1,x.1⟩,rfl,rfl,rfl,rfl,rfl,rfl,(h2 x hm).1,λ_ _=>Cv.cnd.mk (λhb=> ?_) (λhb=>⟨⟨2,x.2⟩,rfl,rfl,rfl,rfl,rfl,rfl,(h2 x hm).2,λ_ _=>Cv.cnd.mk (λhb2=> ?_) (λhb2=> ?_)⟩)⟩
  ·refine⟨(),vwF λhr=> ?_,trivial⟩;simp only[y8o,jP,decide_eq_false_iff_not]at hb;exact hb (hr.1 x hm).1
  ·refine⟨(),vwF λhr=> ?_,trivial⟩;simp only[y8o,jP,decide_eq_false_iff_not]at hb2;exact hb2 (hr.1 x hm).2
  ·simp only[Bool.not_eq_false',jP,y6p]at hb hb2;refine⟨j+1,w1.symm,⟨by omega,λk b hk hb'=> ?_⟩,by dsimp only;omega,by(repeat'(first|exact trivial|exact rfl|apply az))⟩;rcases y7k k j with h'|h'
   ·exact hj2 k b h' hb'
   ·obtain rfl:k=j:=by omega
    rw[hx]at hb';cases hb';exact⟨hb,hb2⟩
 ·obtain⟨hj1,hj2⟩:=hj;rw[y5c]at hlt ⊢;obtain rfl:j=v.length:=by omega
  refine⟨(),?_,trivial⟩;rw[xBd];simp only[bJ,y6p];constructor
  ·intro hr;have:=hr.2;omega
  ·intro hr;refine⟨λb hb=> ?_,by omega⟩;obtain⟨k,hk⟩:=xAo hb;exact hj2 k b (y5f.1 hk).1 hk
def yCg:rightVC.ok Tryz.prog 70:=okw mixed (gokc yBk gok0) 0 (λ_=>[]) (λ_=>yOy) [] Tryz.func70 yPf
def yOj:putLC.ok Tryz.prog 71:=okw (V:=yYr) mixed (gokc zVa gok0) 0 (λ_=>[]) (λ_=>[]) [] Tryz.func71 λ(i:z3l) h=>by
 have h:i.l.length+24<=1099511627776:=h;refine⟨⟨i.l,i.v.price⟩,rfl,rfl,(show i.l.length+8<=1099511627776 by omega),λ_ _=>⟨⟨i.l++le i.v.price 8,i.v.qty⟩,rfl,rfl,?_,λ_ _=>⟨⟨i.l++le i.v.price 8++le i.v.qty 8,i.v.count⟩,rfl,rfl,?_,λ_ _=>⟨(),?_,trivial⟩⟩⟩⟩
 ·show _+8<=_;rw[y5a,xW];omega
 ·show _+8<=_;rw[y5a,y5a,xW,xW];omega
 ·simp only[kX,y5i]
def zPw {α:Type} {f:α->List UInt8} {c:Nat}:∀{l:List α},(∀x∈l,(f x).length<=c)->(l.flatMap f).length<=c*l.length
 |[],_=>by simp
 |a::l,h=>by
  have h1:=h a (by simp);have h2:=zPw (l:=l) λx hx=>h x (by simp[hx])
  simp only[y6w,y5a,y5g,Nat.mul_add,Nat.mul_one];omega
def pR {α β:Type} {f:α->List β} {l:List α} {k:Nat} {x:α} (h:l[k]? =bc x):(l.take (k+1)).flatMap f=(l.take k).flatMap f++f x:=by
 rw[y6m,h];simp
def zRq (l:Lv):(kX l).length=24:=by simp[kX,xW]
def sO (l:List Lv):(l.flatMap kX).length<=24*l.length:=zPw λx _=>by rw[zRq];omega
def zIl {s:Sd} (h:s.levels.length<=255):(zFb s).length<=6146:=by
 have:=sO s.levels;unfold zFb;rw[y5a,y5a,y6z];split
 ·rw[y5a,zRq,y6z];omega
 ·rw[y6z];omega
def SdRight.len {n:Int} {s:Sd} (h:SdRight n s):s.levels.length<=255:=h.2.1
def zZg {v:Vw} (h:c9 v) (j:Nat):((v.take j).flatMap wO).length<=3134460:=by
 have h1:∀x∈v.take j,(wO x).length<=12292:=λx hx=>by
  have:=h.1 x (y8x hx);have a:=zIl this.1.len;have b:=zIl this.2.len;unfold wO;rw[y5a];omega
 have h2:=zPw h1;have h3:=h.2;rw[y5t]at h2;omega
def yAq (n:Int):0<=av.wrap n/\av.wrap n<4294967296:=by
 have:av.wrap n=n % 4294967296:=rfl;rw[this];omega
def tZ (l:List UInt8):0<=cX l/\cX l<4294967296:=yAq _
def y2x (i:zQf) (h:encC.cnd i):y1n i:=by
 unfold y1n z4z zTn zPi zOn vQ nW dI;refine⟨i.v,rfl,h,λ_ _=>Cv.cnd.mk (λe=> ?_) (λe=> ?_)⟩
 ·have hn:¬c9 i.v:=by simpa[bJ]using e
  exact⟨(),by rw[vF,y5b hn];rfl,by rw[zOr,y5b hn],trivial⟩
 have hr:c9 i.v:=by simpa[bJ]using e
 have hB:∀j,(le i.seq 8++[lob i.v.length]++(i.v.take j).flatMap wO).length<=3134470:=λj=>by
  have:=zZg hr j;simp only[y5a,xW,y5g,y6v];omega
 refine⟨(),trivial,λ_ _=>⟨⟨[],i.seq⟩,rfl,rfl,(show 0+8<=1099511627776 by omega),λ_ _=>⟨⟨le i.seq 8,i.v.length⟩,by rw[y5c],rfl,(show(le i.seq 8).length+8<=1099511627776 by rw[xW];omega),λ_ _=>⟨0,rfl,by simp,λj=>j<=i.v.length,λj=>i.v.length-j,by dsimp only;omega,λj hj=>zI (λhlt=> ?_) (λhlt=> ?_)⟩⟩⟩⟩
 ·dsimp only at hj;rw[y5c]at hlt ⊢;obtain⟨x,hx⟩:=getD (l:=i.v) (i:=j) (by omega);have hm:=hr.1 x (y5m hx);have l1:=hm.1.len;have l2:=hm.2.len;have hl:=hr.2;have w1:ar.wrap ((j:Int)+1)=((j+1:Nat):Int):=by rw[w64 (by omega)];rfl
  have hBj:=hB j;have hBs:le i.seq 8++[lob i.v.length]++(i.v.take (j+1)).flatMap wO=le i.seq 8++[lob i.v.length]++(i.v.take j).flatMap wO++wO x:=by
   rw[pR hx];simp only[y5i]
  generalize hb:le i.seq 8++[lob i.v.length]++(i.v.take j).flatMap wO=B at hBj hBs;have lv:∀(C:List UInt8) (l:List Lv) (k:Nat),C.length<=5000000->l.length<=255->((C++(l.take k).flatMap kX).length+24<=1099511627776):=λC l k hC hl=>by
   have:=sO (l.take k);rw[y5a];rw[y5t]at this;omega
  have lw:∀(k:Nat),k<255->ar.wrap ((k:Int)+1)=((k+1:Nat):Int):=λk hk=>by rw[w64 (by omega)];rfl
  have le1:=sO x.1.levels;have le2:=sO x.2.levels;refine⟨⟨by omega,by omega⟩,_,_,_,_,_,_,_,_,_,_,yAt hx rfl,⟨B,x.1.levels.length⟩,by rw[y5c],rfl,by show B.length+8<=_;omega,λ_ _=>⟨(B++[lob x.1.levels.length],x.1.levels,0),rfl,by simp,λy=>∃k,k<=x.1.levels.length/\y=(B++[lob x.1.levels.length],x.1.levels,k),λy=>x.1.levels.length-y.2.2,⟨0,by omega,by(repeat'(first|exact trivial|exact rfl|apply az))⟩,?_⟩⟩;rintro _ ⟨k,hk,rfl⟩;dsimp only;refine zI (λhlt1=> ?_) (λhlt1=> ?_)
  ·rw[y5c]at hlt1 ⊢;obtain⟨y,hy⟩:=getD (l:=x.1.levels) (i:=k) (by omega);refine⟨⟨by omega,by omega⟩,_,_,_,yAt hy rfl,⟨_,y⟩,rfl,rfl,rfl,rfl,lv _ _ _ (by rw[y5a];simp;omega) l1,λ_ _=>⟨(_,_,k+1),(lw k (by omega)).symm,?_,⟨k+1,by omega,by(repeat'(first|exact trivial|exact rfl|apply az))⟩,by dsimp only;omega,by(repeat'(first|exact trivial|exact rfl|apply az))⟩⟩;dsimp only;rw[pR hy];simp only[y5i]
  ·rw[y5c]at hlt1;obtain rfl:k=x.1.levels.length:=by omega
   rw[y5n (y5x _)];have e1:zFb x.1=[lob x.1.levels.length]++x.1.levels.flatMap kX++(if x.1.has then[lob 1]++kX x.1.imp else[lob 0]):=rfl;have e2:zFb x.2=[lob x.2.levels.length]++x.2.levels.flatMap kX++(if x.2.has then[lob 1]++kX x.2.imp else[lob 0]):=rfl;have bl:∀C:List UInt8,C=B++zFb x.1->C.length<=4000000:=λC e=>by
    subst e;have:=zIl l1;rw[y5a];omega
   refine Cv.cnd.mk (λhh=> ?_) (λhh=> ?_)
   ·have hh:x.1.has=ax:=by simpa using hh
    rw[hh,y5b (by simp)]at e1;refine⟨⟨B++[lob x.1.levels.length]++x.1.levels.flatMap kX,0⟩,rfl,rfl,(by dsimp only[WN.ok];simp only[y5a,y5g,y6v];omega),λ_ _=> ?_⟩;have eC:B++[lob x.1.levels.length]++x.1.levels.flatMap kX++[lob 0]=B++zFb x.1:=by rw[e1];simp only[y5i]
    generalize B++[lob x.1.levels.length]++x.1.levels.flatMap kX++[lob 0]=C at eC
    (
    have hC:=bl C eC;refine⟨⟨C,x.2.levels.length⟩,by rw[y5c],rfl,(show C.length+8<=1099511627776 by omega),λ_ _=>⟨(C++[lob x.2.levels.length],x.2.levels,0),rfl,by simp,λy=>∃k,k<=x.2.levels.length/\y=(C++[lob x.2.levels.length],x.2.levels,k),λy=>x.2.levels.length-y.2.2,⟨0,by omega,by(repeat'(first|exact trivial|exact rfl|apply az))⟩,?_⟩⟩;rintro _ ⟨k,hk,rfl⟩;dsimp only;refine zI (λhlt2=> ?_) (λhlt2=> ?_)
    ·rw[y5c]at hlt2 ⊢;obtain⟨y,hy⟩:=getD (l:=x.2.levels) (i:=k) (by omega);refine⟨⟨by omega,by omega⟩,_,_,_,yAt hy rfl,⟨_,y⟩,rfl,rfl,rfl,rfl,lv _ _ _ (by rw[y5a];simp;omega) l2,λ_ _=>⟨(_,_,k+1),(lw k (by omega)).symm,?_,⟨k+1,by omega,by(repeat'(first|exact trivial|exact rfl|apply az))⟩,by dsimp only;omega,by(repeat'(first|exact trivial|exact rfl|apply az))⟩⟩;dsimp only;rw[pR hy];simp only[y5i]
    ·rw[y5c]at hlt2;obtain rfl:k=x.2.levels.length:=by omega
     rw[y5n (y5x _)];refine Cv.cnd.mk (λhh2=> ?_) (λhh2=> ?_)
     ·have hh2:x.2.has=ax:=by simpa using hh2
      rw[hh2,y5b (by simp)]at e2;refine⟨⟨C++[lob x.2.levels.length]++x.2.levels.flatMap kX,0⟩,rfl,rfl,(by dsimp only[WN.ok];simp only[y5a,y5g,y6v];omega),λ_ _=>⟨j+1,w1.symm,?_,(by omega),(by omega),by(repeat'(first|exact trivial|exact rfl|apply az))⟩⟩;rw[hBs,wO,<- y5i,<- eC,e2];simp only[y5i]
     ·have hh2:x.2.has=ay:=by simpa using hh2
      rw[hh2,y5d rfl]at e2;refine⟨⟨C++[lob x.2.levels.length]++x.2.levels.flatMap kX,1⟩,rfl,rfl,(by dsimp only[WN.ok];simp only[y5a,y5g,y6v];omega),λ_ _=>⟨⟨_,x.2.imp⟩,rfl,rfl,rfl,rfl,(by simp only[y5a,y5g,y6v];omega),λ_ _=>⟨j+1,w1.symm,?_,(by omega),(by omega),by(repeat'(first|exact trivial|exact rfl|apply az))⟩⟩⟩;rw[hBs,wO,<- y5i,<- eC,e2];simp only[y5i])
   ·have hh:x.1.has=ay:=by simpa using hh
    rw[hh,y5d rfl]at e1;refine⟨⟨B++[lob x.1.levels.length]++x.1.levels.flatMap kX,1⟩,rfl,rfl,(by dsimp only[WN.ok];simp only[y5a,y5g,y6v];omega),λ_ _=>⟨⟨_,x.1.imp⟩,rfl,rfl,rfl,rfl,(by simp only[y5a,y5g,y6v];omega),λ_ _=> ?_⟩⟩;have eC:B++[lob x.1.levels.length]++x.1.levels.flatMap kX++[lob 1]++kX x.1.imp=B++zFb x.1:=by rw[e1];simp only[y5i]
    generalize B++[lob x.1.levels.length]++x.1.levels.flatMap kX++[lob 1]++kX x.1.imp=C at eC
    (
    have hC:=bl C eC;refine⟨⟨C,x.2.levels.length⟩,by rw[y5c],rfl,(show C.length+8<=1099511627776 by omega),λ_ _=>⟨(C++[lob x.2.levels.length],x.2.levels,0),rfl,by simp,λy=>∃k,k<=x.2.levels.length/\y=(C++[lob x.2.levels.length],x.2.levels,k),λy=>x.2.levels.length-y.2.2,⟨0,by omega,by(repeat'(first|exact trivial|exact rfl|apply az))⟩,?_⟩⟩;rintro _ ⟨k,hk,rfl⟩;dsimp only;refine zI (λhlt2=> ?_) (λhlt2=> ?_)
    ·rw[y5c]at hlt2 ⊢;obtain⟨y,hy⟩:=getD (l:=x.2.levels) (i:=k) (by omega);refine⟨⟨by omega,by omega⟩,_,_,_,yAt hy rfl,⟨_,y⟩,rfl,rfl,rfl,rfl,lv _ _ _ (by rw[y5a];simp;omega) l2,λ_ _=>⟨(_,_,k+1),(lw k (by omega)).symm,?_,⟨k+1,by omega,by(repeat'(first|exact trivial|exact rfl|apply az))⟩,by dsimp only;omega,by(repeat'(first|exact trivial|exact rfl|apply az))⟩⟩;dsimp only;rw[pR hy];simp only[y5i]
    ·rw[y5c]at hlt2;obtain rfl:k=x.2.levels.length:=by omega
     rw[y5n (y5x _)];refine Cv.cnd.mk (λhh2=> ?_) (λhh2=> ?_)
     ·have hh2:x.2.has=ax:=by simpa using hh2
      rw[hh2,y5b (by simp)]at e2;refine⟨⟨C++[lob x.2.levels.length]++x.2.levels.flatMap kX,0⟩,rfl,rfl,(by dsimp only[WN.ok];simp only[y5a,y5g,y6v];omega),λ_ _=>⟨j+1,w1.symm,?_,(by omega),(by omega),by(repeat'(first|exact trivial|exact rfl|apply az))⟩⟩;rw[hBs,wO,<- y5i,<- eC,e2];simp only[y5i]
     ·have hh2:x.2.has=ay:=by simpa using hh2
      rw[hh2,y5d rfl]at e2;refine⟨⟨C++[lob x.2.levels.length]++x.2.levels.flatMap kX,1⟩,rfl,rfl,(by dsimp only[WN.ok];simp only[y5a,y5g,y6v];omega),λ_ _=>⟨⟨_,x.2.imp⟩,rfl,rfl,rfl,rfl,(by simp only[y5a,y5g,y6v];omega),λ_ _=>⟨j+1,w1.symm,?_,(by omega),(by omega),by(repeat'(first|exact trivial|exact rfl|apply az))⟩⟩⟩;rw[hBs,wO,<- y5i,<- eC,e2];simp only[y5i])
 ·dsimp only at hj;rw[y5c]at hlt;obtain rfl:j=i.v.length:=by omega
  have hBj:=hB i.v.length;rw[y5n (y5x _)]at hBj ⊢;have hc:=tZ (bG i.v i.seq);have hl:(bG i.v i.seq).length<=3134470:=hBj;have hl2:(bG i.v i.seq++le (cX (bG i.v i.seq)) 4).length<=1099511627776:=by rw[y5a,xW];omega
  exact⟨bG i.v i.seq,rfl,(by omega),λ_ _=>⟨bG i.v i.seq,rfl,(by omega),λ_ _=>⟨⟨bG i.v i.seq,_⟩,rfl,rfl,⟨(by dsimp only;omega),hc.1,hc.2⟩,λ_ _=>⟨_,rfl,hl2,λ_ _=>⟨(),by rw[vF,y5d hr];rfl,by rw[zOr,y5d hr],trivial⟩⟩⟩⟩⟩
def yTb:encC.ok Tryz.prog 26:=okw mixed (gokc yCg (gokc zVw (gokc zVa (gokc zKp (gokc yOj (gokc zTu (gokc z1r (gokc yJu gok0)))))))) 0 (λ_=>[]) (λi=>y3a i) [] Tryz.func26 y2x
@[reducible] def tBy:Nat:=32
def rcE (l:List UInt8):List D:=[.ro 1 (bE l)]
def growC:Con:=con1 Nat (λn=>[.d (.v (.slice be 0 0)),zA n]) (λ_=>[]) (λn=>1<=n/\n<=1099511627776) (λ_=> .own 0) (λ_=>[.own tU8 1 []])
def flatC:Con:=con1 (List (List UInt8)) (λls=>[roV 1 (ls.map rcE)]) (λ_=>[]) (λls=>1<=ls.flatten.length/\ls.flatten.length<=1099511627776/\ls.length<=1000) (λ_=> .own 0) (λls=>[.own tU8 1 (bE ls.flatten)])
def yRs (ls:List (List UInt8)):List SAnn:=[
 {ι:=Nat,slots:=λk=>[(3,zA (ls.take k).flatten.length),(11,zA k)],rows:=λ_=>[]},
 {ι:=Nat,slots:=λk=>[(6,.own 0),(27,zA k)],rows:=λk=>[.own tU8 1 (bE (ls.take k).flatten)]}]
structure Dk where
 b:List UInt8
 safe:Nat
def DkU (d:Dk):Nat->AObj
 |0=> .cells [.own 1,zA d.safe] 101
 |1=> .own tU8 1 (bE d.b)
 |_=> .gone
def DkR (d:Dk):AObj:= .adt Dk 2 DkU d
@[reducible] def Dk.ok (d:Dk):Prop:=d.safe<=d.b.length/\d.b.length<=1048576
structure DbI where
 d:Dk
 l:List UInt8
structure DnI where
 d:Dk
 n:Int
def dnewC:Con:=con1 Unit (λ_=>[]) (λ_=>[]) (λ_=>True) (λ_=> .nm 0 0) (λ_=>[DkR ⟨[],0⟩])
def dappC:Con:=con1 DbI (λi=>[.nm 0 0,roV 1 (bE i.l)]) (λi=>[DkR i.d]) (λi=>i.d.b.length+i.l.length<=1048576) (λ_=>zA 0) (λi=>[DkR ⟨i.d.b++i.l,i.d.safe⟩])
def dsynC:Con:=con1 Dk (λ_=>[.nm 0 0]) (λd=>[DkR d]) (λd=>d.ok) (λ_=>mG) (λd=>[DkR ⟨d.b,d.b.length⟩])
def dbytC:Con:=con1 Dk (λ_=>[.nm 0 0]) (λd=>[DkR d]) (λd=>d.ok) (λ_=> .own 1) (λd=>[DkR d,.own tU8 1 (bE d.b)])
def cloneBN:Con:=con1 (List (List D)) (λl=>[roV 1 l]) (λ_=>[]) (λl=>l.length<=140737488355328) (λ_=> .own 0) (λl=>[.own tU8 1 l])
def dswpC:Con:=con1 DbI (λi=>[.nm 0 0,roV 1 (bE i.l)]) (λi=>[DkR i.d]) (λi=>i.l.length<=1048576) (λ_=>zA 0) (λi=>[DkR ⟨i.l,i.l.length⟩])
def Dk.keep (d:Dk) (n:Int):Nat:=d.safe+(min (max n 0) ((d.b.length:Int)-d.safe)).toNat
def dcraC:Con:=con1 DnI (λi=>[.nm 0 0,zA i.n]) (λi=>[DkR i.d]) (λi=>i.d.ok) (λ_=>mG) (λi=>[DkR ⟨i.d.b.take (i.d.keep i.n),i.d.keep i.n⟩])
def xG (l:List UInt8):List UInt8:=lob l.length::UInt8.ofNat (255-l.length)::(l++le (cX l) 4)
def frameC:Con:=con1 (List UInt8) (λl=>[roV 1 (bE l)]) (λ_=>[]) (λl=>l.length<=255) (λ_=> .tup [.own 0,zA 0]) (λl=>[.own tU8 1 (bE (xG l))])
def yUy:List (Nat×SAnn):=[(20,{ι:=Unit,slots:=λ_=>[],rows:=λ_=>[],opn:=[4]})]
def sN (l:List UInt8):List UInt8×Nat×Int:=
 if l.length<2 then([],0,10)else if(l.getD 1 0).toNat≠255-(l.getD 0 0).toNat then([],0,14)else
 if l.length<6+(l.getD 0 0).toNat then([],0,10)else
 if qM ((l.drop (2+(l.getD 0 0).toNat)).take 4)≠cX ((l.drop 2).take (l.getD 0 0).toNat)then([],0,14)else
 ((l.drop 2).take (l.getD 0 0).toNat,6+(l.getD 0 0).toNat,0)
structure OpI where
 b:List UInt8
 k:Nat
def OpI.x (i:OpI):List UInt8×Nat×Int:=sN (i.b.drop i.k)
def z1w:V:= .d (.v (.slice be 0 0))
def wopC:Con where
 ι:=OpI
 pat:=λi=>[roV 1 (bE i.b),zA i.k]
 pre:=λ_=>[]
 cnd:=λi=>i.k<=i.b.length/\i.b.length<=1099511627776
 alts:=λi=>[{o:=Unit,res:=λ_=> .tup [.own 0,zA (i.k+i.x.2.1),zA 0],post:=λ_=>[.own tU8 1 (bE i.x.1)],rel:=λ_=>i.x.2.2=0},
  {o:=Unit,res:=λ_=> .tup [z1w,zA 0,zA i.x.2.2],post:=λ_=>[],rel:=λ_=>i.x.2.2≠0}]
def fsB (L:List (List UInt8)):List UInt8:=L.flatMap xG
structure ScI where
 L:List (List UInt8)
 t:List UInt8
@[reducible] def ScI.ok (i:ScI):Prop:=(∀l∈i.L,l.length<=255)/\(sN i.t).2.2=10/\(fsB i.L).length+i.t.length<=1048576
@[reducible] def rcR (L:List (List UInt8)):AObj:= .own tBy 1 (L.map rcE)
def scanC:Con:=con1 ScI (λi=>[roV 1 (bE (fsB i.L++i.t))]) (λ_=>[]) (λi=>i.ok) (λi=> .tup [.own 0,zA (fsB i.L).length,zA 0]) (λi=>[rcR i.L])
def y0f (i:ScI):List SAnn:=[{ι:=Nat,slots:=λk=>[(5,.own 0),(6,zA (fsB (i.L.take k)).length)],rows:=λk=>[rcR (i.L.take k)]}]
def jnR (d:Nat) (n:Int):AObj:= .cells [.nm d 0,zA n] 183
structure JoI where
 s:Nat
 L:List (List UInt8)
 t:List UInt8
def JoI.d (i:JoI):Dk:=⟨fsB i.L++i.t,i.s⟩
def JoI.d' (i:JoI):Dk:=if i.t=[]then i.d else⟨fsB i.L,(fsB i.L).length⟩
def jopC:Con:=con1 JoI (λ_=>[.nm 0 0]) (λi=>[DkR i.d]) (λi=>(ScI.mk i.L i.t).ok/\i.d.ok) (λ_=> .tup [.nm 1 0,.own 2,zA 0]) (λi=>[DkR i.d',jnR 0 i.L.length,rcR i.L])
structure JaI where
 d:Dk
 n:Int
 l:List UInt8
def jappC:Con:=con1 JaI (λi=>[.nm 0 0,roV 1 (bE i.l)]) (λi=>[jnR 1 i.n,DkR i.d]) (λi=>i.l.length<=255/\i.d.b.length+i.l.length+6<=1048576/\0<=i.n/\i.n<=1048576) (λ_=>zA 0) (λi=>[jnR 1 (i.n+1),DkR ⟨i.d.b++xG i.l,i.d.safe⟩])
def jsynC:Con:=con1 JaI (λi=>[.nm 0 0]) (λi=>[jnR 1 i.n,DkR i.d]) (λi=>i.d.ok) (λ_=>mG) (λi=>[jnR 1 i.n,DkR ⟨i.d.b,i.d.b.length⟩])
def bN (a:Nat) (b:List (List UInt8)):=(↑(ak a b).flatten.length:Int)
def z6t (ls:List (List UInt8)):Prop:=
 ∃(a:Nat),(bN a ls)=0/\(↑a:Int)=0/\∃(b:Nat->Prop),∃(c:Nat->Nat),b a/\∀(d:Nat),b d->cnd (decide ((↑d:Int)<(↑(aj rcE ls).length:Int))) ((0<=(↑d:Int)/\(↑d:Int)<(↑(aj rcE ls).length:Int))/\∃(e:List (List D)),zE (aj rcE ls) (↑d:Int).toNat 0 1=bc [D.ro 1 e]/\cnd (decide (ar.wrap ((bN d ls)+(↑e.length:Int))<0)) False (∃(f:Nat),(bN f ls)=ar.wrap ((bN d ls)+(↑e.length:Int))/\kO f d b c)) (∃(e:Nat),True/\(↑e:Int)=(bN d ls)/\(1<=e/\e<=1099511627776)/\∀(f:Unit),True->∃(g:Nat),(↑g:Int)=0/\bE (ak g ls).flatten=[]/\∃(h:Nat->Prop),∃(j:Nat->Nat),h g/\∀(k:Nat),h k->cnd (decide ((↑k:Int)<(↑(aj rcE ls).length:Int))) ((0<=(↑k:Int)/\(↑k:Int)<(↑(aj rcE ls).length:Int))/\∃(l:List (List D)),zE (aj rcE ls) (↑k:Int).toNat 0 1=bc [D.ro 1 l]/\((bE (ak k ls).flatten).length+l.length)*(1:Nat)<=(140737488355328:Nat)/\∃(m:Nat),(↑m:Int)=ar.wrap ((↑k:Int)+1)/\bE (ak m ls).flatten=bE (ak k ls).flatten++l/\h m/\j m<j k/\True) (∃(l:Unit),bE ls.flatten=bE (ak k ls).flatten/\True))
def yXl (ls:List (List UInt8)):z6t ls=walk Tryz.prog ([(100,growC)]) 0 ([]) (yRs ls) [] Tryz.f43 (Tryz.f43.body.getD .skip) (flatC.pat ls) (flatC.pre ls) (flatC.alts ls):=by kernel_rfl
def yUj (hG:GOk Tryz.prog ([(100,growC)])) (h:∀(ls:List (List UInt8)),flatC.cnd ls->z6t ls):flatC.ok Tryz.prog 43:=gG mixed ([(100,growC)]) hG 0 (λ(ls:List (List UInt8))=>[]) (λ(ls:List (List UInt8))=>yRs ls) [] Tryz.func43 (by kernel_rfl) (by kernel_rfl) (by kernel_rfl) (λ_=>by kernel_rfl) (λ(ls:List (List UInt8)) hc=>Eq.mp (yXl ls) (h ls hc))
def yYe (u:Unit):Prop:=
 ∃(o:Unit),(↑(0:Nat):Int)=0/\bE []=[]/\True
def yRl (i:DbI):Prop:=
 cnd (decide ((↑(bE i.l).length:Int)>ar.wrap (1048576-(↑(bE i.d.b).length:Int)))) (∃(a:Unit),(0:Int)=(13:Int)/\dh ((↑i.d.safe:Int))/\bE (i.d.b++i.l)=bE i.d.b/\True) (((bE i.d.b).length+(bE i.l).length)*(1:Nat)<=(140737488355328:Nat)/\∃(a:Unit),dh ((0:Int))/\dh ((↑i.d.safe:Int))/\bE (i.d.b++i.l)=bE i.d.b++bE i.l/\True)
def y0i (d:Dk):Prop:=
 ∃(o:Unit),(↑d.b.length:Int)=(↑(bE d.b).length:Int)/\dh (bE d.b)/\True
def y1m (d:Dk):Prop:=
 ∃(i:List (List D)),i=bE d.b/\i.length*(1:Nat)<=(140737488355328:Nat)/\∀(o:Unit),True->∃(o:Unit),dh ((↑d.safe:Int))/\bE d.b=i/\bE d.b=i/\True
def zXy (i:List (List D)):Prop:=
 ∀(b:Bool),(b=ay->i=[])->cnd b (∃(o:Unit),i=[]/\True) ((0+i.length)*(1:Nat)<=(140737488355328:Nat)/\∃(o:Unit),i=[]++i/\True)
def yBf (i:List (List D)):zXy i=walk Tryz.prog ([]) 0 ([]) ([]) [] Tryz.f116 (Tryz.f116.body.getD .skip) (cloneBN.pat i) (cloneBN.pre i) (cloneBN.alts i):=by kernel_rfl
def yAv (hG:GOk Tryz.prog ([])) (h:∀(i:List (List D)),cloneBN.cnd i->zXy i):cloneBN.ok Tryz.prog 116:=gG mixed ([]) hG 0 (λ(i:List (List D))=>[]) (λ(i:List (List D))=>[]) [] Tryz.func116 (by kernel_rfl) (by kernel_rfl) (by kernel_rfl) (λ_=>by kernel_rfl) (λ(i:List (List D)) hc=>Eq.mp (yBf i) (h i hc))
def ySd (i:DbI):Prop:=
 cnd (decide ((↑(bE i.l).length:Int)>1048576)) (∃(a:Unit),(0:Int)=(13:Int)/\(↑i.l.length:Int)=(↑i.d.safe:Int)/\bE i.l=bE i.d.b/\True) (∃(a:List (List D)),a=bE i.l/\a.length<=140737488355328/\∀(b:Unit),True->∃(c:Unit),dh ((0:Int))/\(↑i.l.length:Int)=(↑a.length:Int)/\bE i.l=a/\True)
def pI (a:DnI):=(ar.wrap ((↑(bE a.d.b).length:Int)-(↑a.d.safe:Int)))
def yQd (i:DnI):Prop:=
 (0<=ar.wrap ((↑i.d.safe:Int)+min (if 0>i.n then(0:Int)else i.n) (pI i))/\ar.wrap ((↑i.d.safe:Int)+min (if 0>i.n then(0:Int)else i.n) (pI i))<=(↑(bE i.d.b).length:Int))/\∃(a:Unit),(↑(i.d.keep i.n):Int)=(↑(ak (ar.wrap ((↑i.d.safe:Int)+min (if 0>i.n then(0:Int)else i.n) (pI i))).toNat (bE i.d.b)).length:Int)/\bE (ak (i.d.keep i.n) i.d.b)=ak (ar.wrap ((↑i.d.safe:Int)+min (if 0>i.n then(0:Int)else i.n) (pI i))).toNat (bE i.d.b)/\True
def yEn (l:List UInt8):Prop:=
 cnd (decide ((↑(bE l).length:Int)>255)) (∃(a:Unit),(0:Int)=(3:Int)/\bE (xG l)=[]/\True) (∃(a:Unit),True/\∀(b:Unit),True->∃(c:WN),c.n=(↑(bE l).length:Int)/\aa (List UInt8) 2 WrU c.l=aa (List UInt8) 2 WrU []/\c.ok/\∀(d:Unit),True->∃(e:WN),e.n=ar.wrap (↑(cf ar.bits (if ar.signed=ay then(-1:Int)else ar.max) ^^^ cf ar.bits (↑(bE l).length:Int)).toNat:Int)/\aa (List UInt8) 2 WrU e.l=aa (List UInt8) 2 WrU (c.l++[lob c.n])/\e.ok/\∀(f:Unit),True->((bE (e.l++[lob e.n])).length+(bE l).length)*(1:Nat)<=(140737488355328:Nat)/\∃(g:List UInt8),bE g=bE l/\g.length<=1099511627776/\∀(h:Unit),True->∃(j:WN),j.n=cX g/\bE j.l=bE (e.l++[lob e.n])++bE l/\(j.l.length+(8:Nat)<=(1099511627776:Nat)/\0<=j.n/\j.n<4294967296)/\∀(k:Unit),True->∃(m:List UInt8),aa (List UInt8) 2 WrU m=aa (List UInt8) 2 WrU (j.l++le j.n 4)/\m.length<=1099511627776/\∀(n:Unit),True->∃(p:Unit),dh ((0:Int))/\bE (xG l)=bE m/\True)
def zMd (a:OpI):Prop:=(∃(b:Unit),(↑a.k:Int)+(↑a.x.snd.fst:Int)=(0:Int)/\(0:Int)=10/\bE a.x.fst=[]/\a.x.snd.snd=0)\/∃(o:Unit),True/\dh ((0:Int))/\a.x.snd.snd=10/\(a.x.snd.snd=0->False)
def aS (a:OpI):=(ap (↑a.k:Int).toNat (bE a.b))
def cL (a:OpI):=(↑(aS a).length:Int)
def fQ (a:Int):=(2+ar.wrap a)
def zPs (a:Int) (b:OpI):Prop:=(0:Int)<=(2:Int)/\2<=ar.wrap (fQ a)/\ar.wrap (fQ a)<=(cL b)
def zEk (a:Int) (b:OpI):=(ak (ar.wrap (fQ a)).toNat (aS b))
def lF (a:Int):=(ar.wrap (fQ a)+4)
def yYc (i:OpI):Prop:=
 cnd (decide ((↑i.k:Int)>(↑(bE i.b).length:Int))) ((∃(a:Unit),(↑i.k:Int)+(↑i.x.snd.fst:Int)=(0:Int)/\(0:Int)=1/\bE i.x.fst=[]/\i.x.snd.snd=0)\/∃(o:Unit),True/\dh ((0:Int))/\i.x.snd.snd=1/\(i.x.snd.snd=0->False)) ((0<=(↑i.k:Int)/\(↑i.k:Int)<=(↑(bE i.b).length:Int))/\cnd (decide ((cL i)<2)) (zMd i) (((0:Int)<=(1:Int)/\1<(cL i))/\∃(a:Int),zE (aS i) (bo 1) 0 1=bc [D.v (.int .u8 a)]/\((0:Int)<=(0:Int)/\0<(cL i))/\∃(b:Int),zE (aS i) (bo 0) 0 1=bc [D.v (.int .u8 b)]/\cnd (a !=aw.wrap (↑(cf aw.bits (if aw.signed=ay then(-1:Int)else aw.max) ^^^ cf aw.bits b).toNat:Int)) ((∃(c:Unit),(↑i.k:Int)+(↑i.x.snd.fst:Int)=(0:Int)/\(0:Int)=14/\bE i.x.fst=[]/\i.x.snd.snd=0)\/∃(o:Unit),True/\dh ((0:Int))/\i.x.snd.snd=14/\(i.x.snd.snd=0->False)) (((0:Int)<=(0:Int)/\0<(cL i))/\∃(c:Int),zE (aS i) (bo 0) 0 1=bc [D.v (.int .u8 c)]/\cnd (decide ((cL i)<ar.wrap (lF c))) (zMd i) ((0<=ar.wrap (fQ c)/\ar.wrap (fQ c)<=ar.wrap (lF c)/\ar.wrap (lF c)<=(cL i))/\∃(d:List UInt8),bE d=ap (ar.wrap (fQ c)).toNat (ak (ar.wrap (lF c)).toNat (aS i))/\d.length<=1099511627776/\∀(e:Unit),True->(zPs c i)/\∃(f:RN),(↑f.n:Int)=4/\aa (List UInt8×Bool) 1 RdU (f.l,f.b)=aa (List UInt8×Bool) 1 RdU (d,ax)/\(f.n<=8/\f.l.length<=1099511627776)/\∀(g:Unit),True->∃(h:List UInt8),bE h=ap (bo 2) (zEk c i)/\h.length<=1099511627776/\∀(j:Unit),True->cnd (av.wrap (qM f.got) !=cX h) ((∃(k:Unit),(↑i.k:Int)+(↑i.x.snd.fst:Int)=(0:Int)/\(0:Int)=14/\bE i.x.fst=[]/\i.x.snd.snd=0)\/∃(j:Unit),True/\dh ((0:Int))/\i.x.snd.snd=14/\(i.x.snd.snd=0->False)) ((zPs c i)/\(0+(ap (bo 2) (zEk c i)).length)*(1:Nat)<=(140737488355328:Nat)/\((∃(k:Unit),(↑i.k:Int)+(↑i.x.snd.fst:Int)=ar.wrap (ar.wrap ((↑i.k:Int)+ar.wrap (fQ c))+4)/\dh ((0:Int))/\bE i.x.fst=[]++ap (bo 2) (zEk c i)/\i.x.snd.snd=0)\/∃(j:Unit),False))))))
def fB (a:Nat) (b:ScI):=(↑(fsB (ak a b.L)).length:Int)
def zHe (a:ScI) (b:Nat):Prop:=∃(c:Unit),(↑(fsB a.L).length:Int)=(fB b a)/\dh ((0:Int))/\aj rcE a.L=aj rcE (ak b a.L)/\True
def yQa (i:ScI):Prop:=
 ∃(a:Nat),(fB a i)=0/\aj rcE (ak a i.L)=[]/\∃(b:Nat->Prop),∃(c:Nat->Nat),b a/\∀(d:Nat),b d->cnd (decide ((fB d i)<(↑(bE (fsB i.L++i.t)).length:Int))) (∃(e:OpI),bE e.b=bE (fsB i.L++i.t)/\(↑e.k:Int)=(fB d i)/\(e.k<=e.b.length/\e.b.length<=1099511627776)/\(∀(f:Unit),e.x.snd.snd=0->((aj rcE (ak d i.L)).length+1)*(24:Nat)<=(140737488355328:Nat)/\∃(g:Nat),(fB g i)=(↑e.k:Int)+(↑e.x.snd.fst:Int)/\aj rcE (ak g i.L)=aj rcE (ak d i.L)++[[D.ro 1 (bE e.x.fst)]]/\b g/\c g<c d/\True)/\∀(f:Unit),e.x.snd.snd≠0->cnd (e.x.snd.snd==0) (((aj rcE (ak d i.L)).length+1)*(24:Nat)<=(140737488355328:Nat)/\∃(g:Nat),(fB g i)=0/\aj rcE (ak g i.L)=aj rcE (ak d i.L)++[[D.ro 1 []]]/\b g/\c g<c d/\True) (cnd (e.x.snd.snd==10) (zHe i d) (∃(g:Unit),(↑(fsB i.L).length:Int)=(fB d i)/\(0:Int)=(14:Int)/\aj rcE i.L=aj rcE (ak d i.L)/\True))) (zHe i d)
def y2f (i:JoI):Prop:=
 ∃(a:Dk),DkR a=DkR i.d/\(a.safe<=a.b.length/\a.b.length<=1048576)/\∀(b:Unit),True->∃(c:ScI),bE (fsB c.L++c.t)=bE a.b/\((∀(d:List UInt8),d∈c.L->d.length<=255)/\(sN c.t).snd.snd=10/\(fsB c.L).length+c.t.length<=1048576)/\∀(d:Unit),True->cnd (decide ((↑(fsB c.L).length:Int)<(↑(bE a.b).length:Int))) ((0<=(↑(fsB c.L).length:Int)/\(↑(fsB c.L).length:Int)<=(↑(bE a.b).length:Int))/\∃(e:DbI),bE e.l=ak (↑(fsB c.L).length:Int).toNat (bE a.b)/\DkR e.d=DkR a/\e.l.length<=1048576/\∀(f:Unit),True->∃(g:Unit),dh ((0:Int))/\DkR i.d'=DkR (Dk.mk e.l e.l.length)/\(↑i.L.length:Int)=(↑(aj rcE c.L).length:Int)/\aj rcE i.L=aj rcE c.L/\True) (∃(e:Unit),dh ((0:Int))/\DkR i.d'=DkR a/\(↑i.L.length:Int)=(↑(aj rcE c.L).length:Int)/\aj rcE i.L=aj rcE c.L/\True)
def y0o (i:JaI):Prop:=
 ∃(i_1:List UInt8),bE i_1=bE i.l/\i_1.length<=255/\∀(o:Unit),True->∃(i_2:DbI),bE i_2.l=bE (xG i_1)/\aa Dk 2 DkU i_2.d=DkR i.d/\i_2.d.b.length+i_2.l.length<=1048576/\∀(o:Unit),True->∃(o:Unit),dh ((0:Int))/\i.n+1=ar.wrap (i.n+1)/\aa Dk 2 DkU (Dk.mk (i.d.b++xG i.l) i.d.safe)=aa Dk 2 DkU (Dk.mk (i_2.d.b++i_2.l) i_2.d.safe)/\True
def yYk (i:JaI):Prop:=
 ∃(i_1:Dk),aa Dk 2 DkU i_1=DkR i.d/\(i_1.safe<=i_1.b.length/\i_1.b.length<=1048576)/\∀(o:Unit),True->∃(o:Unit),i.n=i.n/\aa Dk 2 DkU (Dk.mk i.d.b i.d.b.length)=aa Dk 2 DkU (Dk.mk i_1.b i_1.b.length)/\True
def sb (l:List UInt8):ByteArray:=⟨l.toArray⟩
@[reducible] def sV (l:List UInt8):V:= .d (.v (.string (sb l)))
def zPp (l:List UInt8):Nat×Nat:=bg (sb l) 0
def zAe:Nat->Nat->List UInt8->List (Nat×Nat)
 |0,_,_=>[]
 |k+1,p,l=>match l with
  |[]=>[]
  |_=>(p,(zPp l).1)::zAe k (p+(zPp l).2) (l.drop (zPp l).2)
def uU (s:List UInt8) (p:Nat):List (Nat×Nat):=zAe (s.length-p) p (s.drop p)
def kV (s:List UInt8):List Nat:=(uU s 0).map (·.2)
def countC:Con:=con1 (List UInt8) (λs=>[sV s]) (λ_=>[]) (λs=>s.length<=1099511627776) (λs=>zA (kV s).length) (λ_=>[])
def yTo (s:List UInt8):List SAnn:=[{ι:=Nat×Nat,slots:=λx=>[(3,zA x.2),(5,.nm 0 0)],rows:=λx=>[.iter (sb s) x.1]}]
def uZ (r:Nat):Bool:=(decide (65<=r) && decide (r<=90))||(decide (913<=r) && decide (r<=937) && decide (r≠930))
def wD (s:List UInt8):Bool:=(kV s).all uZ && decide (s≠[]) && decide ((kV s).length<=4)
def symC:Con:=con1 (List UInt8) (λs=>[sV s]) (λ_=>[]) (λs=>s.length<=1099511627776) (λs=>yP (wD s)) (λ_=>[])
def y3u (s:List UInt8):List SAnn:=[{ι:=Nat,slots:=λx=>[(7,.nm 0 0)],rows:=λx=>[.iter (sb s) x]}]
def iE (l:List Int):List (List D):=l.map λn=>[.v (.int .i64 n)]
@[reducible] def iV (l:List Int):V:=roV 1 (iE l)
structure Prd where
 code:List UInt8
 months:List Int
 tick:Int
 low:Int
 high:Int
 wide:Int
 rule:Int
 top:Int
 least:Int
 part:Int
 settle:List Int
 deriving DecidableEq
@[reducible] def Prd.cells (p:Prd):List V:=[sV p.code,iV p.months,zA p.tick,zA p.low,zA p.high,zA p.wide,zA p.rule,zA p.top,zA p.least,zA p.part,iV p.settle]
@[reducible] def prdV (p:Prd):V:= .agg p.cells
@[reducible] def Prd.small (p:Prd):Prop:=p.code.length<=1099511627776/\p.months.length<=1099511627776/\p.settle.length<=1099511627776
def qQ (l:List Int) (k:Nat):Bool:=decide (0<=l.getD k 0) && decide (l.getD k 0<=1199) && (decide (k=0)||decide (l.getD (k-1) 0<l.getD k 0))
def xF (l:List Int):Bool:=(ao l.length).all (qQ l) && decide (2<=l.length) && decide (l.length<=6)
def monthsC:Con:=con1 (List Int) (λl=>[iV l]) (λ_=>[]) (λl=>l.length<=1099511627776) (λl=>yP (xF l)) (λ_=>[])
def yNp:List SAnn:=[{ι:=Nat,slots:=λj=>[(7,zA j)],rows:=λ_=>[]}]
def pZ (l:List Int):Int:=l.tail.foldl min (l.headD 0)
def tO (l:List Int):Int:=l.tail.foldl max (l.headD 0)
def minC:Con:=con1 (List Int) (λl=>[iV l]) (λ_=>[]) (λl=>0<l.length/\l.length<=1099511627776) (λl=>zA (pZ l)) (λ_=>[])
def maxC:Con:=con1 (List Int) (λl=>[iV l]) (λ_=>[]) (λl=>0<l.length/\l.length<=1099511627776) (λl=>zA (tO l)) (λ_=>[])
def y4f (l:List Int):List SAnn:=[{ι:=Nat,slots:=λj=>[(3,zA (pZ (l.take j))),(4,zA j)],rows:=λ_=>[]}]
def y4k (l:List Int):List SAnn:=[{ι:=Nat,slots:=λj=>[(3,zA (tO (l.take j))),(4,zA j)],rows:=λ_=>[]}]
def dD (a:Nat×Nat) (b:List UInt8) (c:Nat×Nat->Prop) (d:Nat×Nat->Nat):Prop:=∃(e:Nat×Nat),(↑e.snd:Int)=ar.wrap ((↑a.snd:Int)+1)/\sb b=sb b/\e.fst=a.fst+(bg (sb b) a.fst).snd/\c e/\d e<d a/\True
def yJk (s:List UInt8):Prop:=
 ∃(a:Nat×Nat),(↑a.snd:Int)=0/\sb s=sb s/\a.fst=0/\∃(b:Nat×Nat->Prop),∃(c:Nat×Nat->Nat),b a/\∀(d:Nat×Nat),b d->cnd (d.fst.blt (sb s).size) (dD d s b c) (∃(e:Unit),(↑(kV s).length:Int)=(↑d.snd:Int)/\True)
def zFe (a:List UInt8) (b:Nat) (c:Nat->Prop) (d:Nat->Nat):Prop:=∃(e:Nat),sb a=sb a/\e=b+(bg (sb a) b).snd/\c e/\d e<d b/\True
def fW (a:List UInt8) (b:Nat):=(↑(bg (sb a) b).fst:Int)
def yZu (s:List UInt8):Prop:=
 ∃(a:Nat),sb s=sb s/\a=0/\∃(b:Nat->Prop),∃(c:Nat->Nat),b a/\∀(d:Nat),b d->cnd (d.blt (sb s).size) (cnd (decide ((fW s d)>=65)) (cnd (decide ((fW s d)<=90)) (zFe s d b c) (cnd (decide ((fW s d)>=913)) (cnd (decide ((fW s d)<=937)) (cnd (!(fW s d) !=930) (∃(e:Unit),wD s=ax/\True) (zFe s d b c)) (∃(e:Unit),wD s=ax/\True)) (∃(e:Unit),wD s=ax/\True))) (cnd (decide ((fW s d)>=913)) (cnd (decide ((fW s d)<=937)) (cnd (!(fW s d) !=930) (∃(e:Unit),wD s=ax/\True) (zFe s d b c)) (∃(e:Unit),wD s=ax/\True)) (∃(e:Unit),wD s=ax/\True))) (cnd (!(sb s).toList==(ByteArray.mk #[]).toList) (∃(e:List UInt8),sb e=sb s/\e.length<=1099511627776/\∀(f:Unit),True->∃(g:Unit),wD s=decide ((↑(kV e).length:Int)<=4)/\True) (∃(e:Unit),wD s=ax/\True))
def cO (a:Nat) (b:Nat->Prop) (c:Nat->Nat):Prop:=∃(d:Nat),kO d a b c
def z9b (l:List Int):Prop:=
 ∃(a:Nat),(↑a:Int)=0/\∃(b:Nat->Prop),∃(c:Nat->Nat),b a/\∀(d:Nat),b d->cnd (decide ((↑d:Int)<(↑(iE l).length:Int))) ((0<=(↑d:Int)/\(↑d:Int)<(↑(iE l).length:Int))/\∃(e:Int),zE (iE l) (↑d:Int).toNat 0 1=bc [dI e]/\cnd (decide (e<0)) (∃(f:Unit),xF l=ax/\True) (cnd (decide (e>1199)) (∃(f:Unit),xF l=ax/\True) (cnd (decide ((↑d:Int)>0)) ((0<=ar.wrap ((↑d:Int)-1)/\ar.wrap ((↑d:Int)-1)<(↑(iE l).length:Int))/\∃(f:Int),zE (iE l) (ar.wrap ((↑d:Int)-1)).toNat 0 1=bc [dI f]/\cnd (decide (f>=e)) (∃(g:Unit),xF l=ax/\True) (cO d b c)) (cO d b c)))) (cnd (decide ((↑(iE l).length:Int)>=2)) (∃(e:Unit),xF l=decide ((↑(iE l).length:Int)<=6)/\True) (∃(e:Unit),xF l=ax/\True))
def y2c (l:List Int):Prop:=
 cnd (decide ((↑(iE l).length:Int)<1)) False (((0:Int)<=(0:Int)/\0<(↑(iE l).length:Int))/\∃(a:Int),zE (iE l) (bo 0) 0 1=bc [dI a]/\∃(b:Nat),pZ (ak b l)=a/\(↑b:Int)=1/\∃(c:Nat->Prop),∃(d:Nat->Nat),c b/\∀(e:Nat),c e->cnd (decide ((↑e:Int)<(↑(iE l).length:Int))) ((0<=(↑e:Int)/\(↑e:Int)<(↑(iE l).length:Int))/\∃(f:Int),zE (iE l) (↑e:Int).toNat 0 1=bc [dI f]/\∃(g:Nat),pZ (ak g l)=min (pZ (ak e l)) f/\kO g e c d) (∃(f:Unit),pZ l=pZ (ak e l)/\True))
def y2h (l:List Int):Prop:=
 cnd (decide ((↑(iE l).length:Int)<1)) False (((0:Int)<=(0:Int)/\0<(↑(iE l).length:Int))/\∃(a:Int),zE (iE l) (bo 0) 0 1=bc [dI a]/\∃(b:Nat),tO (ak b l)=a/\(↑b:Int)=1/\∃(c:Nat->Prop),∃(d:Nat->Nat),c b/\∀(e:Nat),c e->cnd (decide ((↑e:Int)<(↑(iE l).length:Int))) ((0<=(↑e:Int)/\(↑e:Int)<(↑(iE l).length:Int))/\∃(f:Int),zE (iE l) (↑e:Int).toNat 0 1=bc [dI f]/\∃(g:Nat),(tO (ak g l)=if f>tO (ak e l)then f else tO (ak e l))/\kO g e c d) (∃(f:Unit),tO l=tO (ak e l)/\True))
@[simp] theorem zKs (s:List UInt8):(sb s).size=s.length:=by simp[sb,ByteArray.size]
def pJ (s:List UInt8):(sb s).toList=s:=by rw[ByteArray.toList_eq];rfl
def yWv (s:List UInt8) (p k:Nat):(sb s).get! (p+k)=(sb (s.drop p)).get! (0+k):=by
 simp only[sb,ByteArray.get!,y6c];simp only[List.getElem!_toArray,List.getElem!_eq_getElem?_getD,y7p]
def zJl (s:List UInt8) (p:Nat):bg (sb s) p=zPp (s.drop p):=by
 have h (k:Nat):(decide (p+k<(sb s).size))=decide (0+k<(sb (s.drop p)).size):=by
  simp only[zKs,y5z];by_cases h:p+k<s.length
  ·rw[y5s h,y5s (by omega)]
  ·rw[y5q h,y5q (by omega)]
 unfold zPp bg;simp only[yWv s p,h]
def cT (s:List UInt8) {p:Nat} (h:p<s.length):1<=(bg (sb s) p).2/\p+(bg (sb s) p).2<=s.length:=by
 unfold bg;simp only[zKs,y5o,y6p];split
 ·exact⟨by simp,by simp;omega⟩
 split
 ·rename_i h1;split
  ·exact⟨by simp,by simp;omega⟩
  ·exact⟨by simp,by simp;omega⟩
 split
 ·rename_i h1;split
  ·exact⟨by simp,by simp;omega⟩
  ·exact⟨by simp,by simp;omega⟩
 split
 ·rename_i h1;split
  ·exact⟨by simp,by simp;omega⟩
  ·exact⟨by simp,by simp;omega⟩
 ·exact⟨by simp,by simp;omega⟩
def yUs {l:List UInt8} (h:l≠[]):1<=(zPp l).2/\(zPp l).2<=l.length:=by
 have:=cT l (p:=0) (by cases l<;>simp_all);rw[zPp];omega
def rV:∀(k:Nat) (p:Nat) (l:List UInt8),l.length<=k->zAe k p l=zAe l.length p l
 |0,p,l,h=>by
  have:l=[]:=y6d (by omega);subst this;rfl
 |k+1,p,[],h=>rfl
 |k+1,p,b::l,h=>by
  have hw:=yUs (l:=b::l) (by simp);have hl:((b::l).drop (zPp (b::l)).2).length<=l.length:=by rw[y5z,y5g];omega
  rw[y5g];simp only[zAe];rw[rV k _ _ (by rw[y5g]at h;omega),rV l.length _ _ hl]
def vO {s:List UInt8} {p:Nat} (h:s.length<=p):uU s p=[]:=by
 rw[uU,show s.length-p=0 by omega];rfl
def jS {s:List UInt8} {p:Nat} (h:p<s.length):uU s p=(p,(bg (sb s) p).1)::uU s (p+(bg (sb s) p).2):=by
 obtain⟨k,hk⟩:∃k,s.length-p=k+1:=⟨s.length-p-1,by omega⟩
 have hw:=cT s h;obtain⟨b,l,hb⟩:∃b l,s.drop p=b::l:=by
  cases hd:s.drop p with
  |nil=>rw[List.drop_eq_nil_iff]at hd;omega
  |cons b l=>exact⟨b,l,rfl⟩
 have hlen:(b::l).length=s.length-p:=by rw[<- hb,y5z]
 rw[uU,hk,hb,zJl,hb,uU];rw[zJl,hb]at hw;simp only[zAe];have e:(b::l).drop (zPp (b::l)).2=s.drop (p+(zPp (b::l)).2):=by rw[<- hb,y8l]
 rw[e,rV k _ _ (by rw[y5z];omega),y5z]
def zMz (s:List UInt8):∀(k p:Nat),s.length-p<=k->(uU s p).length<=s.length-p
 |0,p,h=>by rw[vO (by omega)];simp
 |k+1,p,h=>by
  by_cases hp:p<s.length
  ·have hw:=cT s hp;rw[jS hp,y5g];have:=zMz s k (p+(bg (sb s) p).2) (by omega);omega
  ·rw[vO (by omega)];simp
def zHk (s:List UInt8):(kV s).length<=s.length:=by
 rw[kV,y5c];have:=zMz s s.length 0 (by omega);omega
def z8m {a b:Nat} (h:Nat.blt a b=ax):b<=a:=by
 rcases y7k a b with h1|h1
 ·rw[show Nat.blt a b=ay by rw[y8d];exact h1]at h;cases h
 ·exact h1
def yGe:(ByteArray.mk #[]).toList=[]:=pJ []
def yUl (s:List UInt8) (h:countC.cnd s):yJk s:=by
 have h:s.length<=1099511627776:=h;have hr:=zHk s;unfold yJk dD;refine⟨(0,0),rfl,rfl,rfl,λx=>x.1<=s.length/\x.2+(uU s x.1).length=(kV s).length,λx=>s.length-x.1,⟨by omega,by rw[kV,y5c];simp⟩,?_⟩;rintro⟨p,n⟩ ⟨h1,h2⟩;dsimp only at h1 h2 ⊢;refine Cv.cnd.mk (λhp=> ?_) (λhp=> ?_)
 ·have hp:p<s.length:=by simpa[y8d]using hp
  have hw:=cT s hp;rw[jS hp,y5g]at h2;refine⟨(p+(bg (sb s) p).2,n+1),?_,rfl,rfl,⟨hw.2,by(first|omega|(dsimp only;omega))⟩,by(first|omega|(dsimp only;omega)),trivial⟩;rw[w64 (by omega)];rfl
 ·have hp:s.length<=p:=by have:=z8m hp;simpa using this
  rw[vO hp]at h2;exact⟨(),by rw[<- h2];rfl,trivial⟩
def yFn:countC.ok Tryz.prog 151:=okw mixed gok0 0 (λ_=>[]) (λs=>yTo s) [] Tryz.func151 yUl
def y4j (s:List UInt8) (h:symC.cnd s):yZu s:=by
 have h:s.length<=1099511627776:=h;unfold yZu fW zFe;refine⟨0,rfl,rfl,λp=>p<=s.length/\(kV s).all uZ=(uU s p).all λx=>uZ x.2,λp=>s.length-p,⟨by omega,by rw[kV,List.all_map];rfl⟩,?_⟩;rintro p ⟨h1,h2⟩;refine Cv.cnd.mk (λhp=> ?_) (λhp=> ?_)
 ·have hp:p<s.length:=by simpa[y8d]using hp
  have hw:=cT s hp;rw[jS hp,List.all_cons]at h2;generalize hc:(bg (sb s) p).1=c at h2 ⊢;generalize hww:(bg (sb s) p).2=w at h2 hw ⊢;dsimp only at h2;have bad:uZ c=ax->∃(o:Unit),wD s=ax/\True:=λe=>⟨(),by rw[wD,h2,e];rfl,trivial⟩
  have good:uZ c=ay->∃i':Nat,sb s=sb s/\i'=p+w/\(i'<=s.length/\(kV s).all uZ=(uU s i').all λx=>uZ x.2)/\s.length-i'<s.length-p/\True:=λe=>⟨p+w,rfl,rfl,⟨hw.2,by rw[h2,e];rfl⟩,by omega,trivial⟩
  refine zI (λc1=>zI (λc2=> ?_) (λc2=>zI (λc3=>zI (λc4=>Cv.cnd.mk (λc5=> ?_) (λc5=> ?_)) (λc4=> ?_)) (λc3=> ?_))) (λc1=>zI (λc3=>zI (λc4=>Cv.cnd.mk (λc5=> ?_) (λc5=> ?_)) (λc4=> ?_)) (λc3=> ?_))
  all_goals first|(refine good ?_;simp[uZ]at*;omega)|(refine bad ?_;simp[uZ]at*;omega)
 ·have hp:s.length<=p:=by have:=z8m hp;simpa using this
  rw[vO hp]at h2;have h2:(kV s).all uZ=ay:=h2;refine Cv.cnd.mk (λe=>⟨s,rfl,h,λ_ _=>⟨(),?_,trivial⟩⟩) (λe=>⟨(),?_,trivial⟩)
  ·rw[pJ,yGe]at e;have:s≠[]:=by simpa using e
   rw[wD,h2,y5s this];simp only[y7z];congr 1;simp only[eq_iff_iff];omega
  ·have:s=[]:=by
    rw[pJ,yGe]at e;simpa using e
   rw[wD,this];rfl
def yTy:symC.ok Tryz.prog 121:=okw mixed (gokc yFn gok0) 0 (λ_=>[]) (λs=>y3u s) [] Tryz.func121 y4j
@[simp] theorem yZ (l:List Int):(iE l).length=l.length:=by simp[iE]
def elI {l:List Int} {k:Nat} {n:Int} (h:l[k]? =bc n):zE (iE l) k 0 1=bc [D.v (.int .i64 n)]:=by
 simp[zE,iE,h];rfl
def yC {α:Type} {l:List α} {i:Nat} (h:i<l.length):∃x,l[i]? =bc x:=⟨l[i],y6e h⟩
def zRa {n k:Nat} {f:Nat->Bool} (hk:k<n) (h:f k=ax):(ao n).all f=ax:=by
 cases hh:(ao n).all f
 ·rfl
 ·rw[y8h]at hh;rw[hh k (by simpa using hk)]at h;cases h
def z0k {n:Nat} {f:Nat->Bool} (h:∀k<n,f k=ay):(ao n).all f=ay:=by
 rw[y8h];intro k hk;exact h k (by simpa using hk)
def yNf (l:List Int) (h:monthsC.cnd l):z9b l:=by
 have h:l.length<=1099511627776:=h;unfold z9b cO kO dI;simp only[yZ];refine⟨0,rfl,λj=>j<=l.length/\∀k<j,qQ l k=ay,λj=>l.length-j,⟨by omega,λk hk=>by omega⟩,?_⟩;rintro j ⟨h1,h2⟩;have bad:j<l.length->qQ l j=ax->∃(o:Unit),xF l=ax/\True:=λhj e=>⟨(),by rw[xF,zRa hj e];rfl,trivial⟩
 have good:j<l.length->qQ l j=ay->∃i':Nat,(i':Int)=ar.wrap ((j:Int)+1)/\(i'<=l.length/\∀k<i',qQ l k=ay)/\l.length-i'<l.length-j/\True:=λhj e=>⟨j+1,by rw[w64 (by omega)];rfl,⟨by omega,λk hk=>by
  rcases y7k k j with hk'|hk'
  ·exact h2 k hk'
  ·obtain rfl:k=j:=by omega
   exact e⟩,by omega,trivial⟩
 refine zI (λhj=> ?_) (λhj=> ?_)
 ·have hj:j<l.length:=by omega
  obtain⟨n,hn⟩:=yC hj;have hg:l.getD j 0=n:=by simp[hn]
  refine⟨⟨by omega,by omega⟩,n,elI hn,zI (λc1=>bad hj (by simp[qQ,hn];omega)) (λc1=>zI (λc2=>bad hj (by simp[qQ,hn];omega)) (λc2=>zI (λc3=> ?_) (λc3=>good hj ?_)))⟩
  ·have e:ar.wrap ((j:Int)-1)=((j-1:Nat):Int):=by rw[w64 (by omega)];omega
   obtain⟨m,hm⟩:=yC (l:=l) (i:=j-1) (by omega);rw[e];refine⟨⟨by omega,by omega⟩,m,elI hm,zI (λc4=>bad hj ?_) (λc4=>good hj ?_)⟩
   ·simp[qQ,hn,hm];omega
   ·simp[qQ,hn,hm];omega
  ·simp[qQ,hn];omega
 ·have e:(ao l.length).all (qQ l)=ay:=z0k λk hk=>h2 k (by omega)
  refine zI (λc=>⟨(),?_,trivial⟩) (λc=>⟨(),?_,trivial⟩)
  ·rw[xF,e,y5s (show 2<=l.length by omega)];simp;omega
  ·rw[xF,y5q (show ¬2<=l.length by omega)];simp
def yAd:monthsC.ok Tryz.prog 122:=okw mixed gok0 0 (λ_=>[]) (λ_=>yNp) [] Tryz.func122 yNf
def zGq {f:Int->Int->Int} {l:List Int} {j:Nat} {n:Int} (h:l[j+1]? =bc n):(l.take (j+2)).tail.foldl f ((l.take (j+2)).headD 0)=f ((l.take (j+1)).tail.foldl f ((l.take (j+1)).headD 0)) n:=by
 cases l with
 |nil=>simp at h
 |cons a l=>
  simp only[y7b]at h;simp only[y6l,List.tail_cons,List.headD_cons];rw[y6m,h,y9k];rfl
def zZt {l:List Int} {n:Int} (h:l[0]? =bc n) (f:Int->Int->Int):(l.take 1).tail.foldl f ((l.take 1).headD 0)=n:=by
 cases l with
 |nil=>simp at h
 |cons a l=>simpa using h
def y4t (l:List Int) (h:minC.cnd l):y2c l:=by
 obtain⟨h0,h⟩:0<l.length/\l.length<=1099511627776:=h;unfold y2c kO dI;simp only[yZ];obtain⟨n,hn⟩:=yC h0;refine zI (λc=>by omega) (λc=>⟨⟨by omega,by omega⟩,n,elI hn,1,zZt hn min,rfl,λj=>1<=j/\j<=l.length,λj=>l.length-j,⟨by omega,by omega⟩,?_⟩);rintro j ⟨h1,h2⟩;refine zI (λhj=> ?_) (λhj=>⟨(),?_,trivial⟩)
 ·obtain⟨m,hm⟩:=yC (l:=l) (i:=j) (by omega);refine⟨⟨by omega,by omega⟩,m,elI hm,j+1,?_,?_,⟨by omega,by omega⟩,by(first|omega|(dsimp only;omega)),trivial⟩
  ·obtain⟨k,rfl⟩:∃k,j=k+1:=⟨j-1,by omega⟩
   first
    |(rw[pZ,zGq hm,<- pZ];done)
    |(rw[pZ,zGq hm,<- pZ];generalize pZ (l.take (k+1))=x;split<;>omega)
  ·rw[w64 (by omega)];rfl
 ·rw[y5n (by omega)]
def yWr:minC.ok Tryz.prog 124:=okw mixed gok0 0 (λ_=>[]) (λl=>y4f l) [] Tryz.func124 y4t
def y3i (l:List Int) (h:maxC.cnd l):y2h l:=by
 obtain⟨h0,h⟩:0<l.length/\l.length<=1099511627776:=h;unfold y2h kO dI;simp only[yZ];obtain⟨n,hn⟩:=yC h0;refine zI (λc=>by omega) (λc=>⟨⟨by omega,by omega⟩,n,elI hn,1,zZt hn max,rfl,λj=>1<=j/\j<=l.length,λj=>l.length-j,⟨by omega,by omega⟩,?_⟩);rintro j ⟨h1,h2⟩;refine zI (λhj=> ?_) (λhj=>⟨(),?_,trivial⟩)
 ·obtain⟨m,hm⟩:=yC (l:=l) (i:=j) (by omega);refine⟨⟨by omega,by omega⟩,m,elI hm,j+1,?_,?_,⟨by omega,by omega⟩,by(first|omega|(dsimp only;omega)),trivial⟩
  ·obtain⟨k,rfl⟩:∃k,j=k+1:=⟨j-1,by omega⟩
   rw[tO,zGq hm,<- tO];generalize tO (l.take (k+1))=x;split<;>omega
  ·rw[w64 (by omega)];rfl
 ·rw[y5n (by omega)]
def yTv:maxC.ok Tryz.prog 125:=okw mixed gok0 0 (λ_=>[]) (λl=>y4k l) [] Tryz.func125 y3i
@[reducible] def Prd.row (p:Prd):AObj:= .cells p.cells 25
structure z2a where
 p:Prd
 n:Int
structure zVp where
 p:Prd
 l:List Int
def qN (t n:Int):Bool:=n.tmod t !=0
def offC:Con:=con1 z2a (λi=>[zA i.n,.nm 0 0]) (λi=>[i.p.row]) (λi=>1<=i.p.tick) (λi=>yP (qN i.p.tick i.n)) (λi=>[i.p.row])
@[reducible] def y0z:V:= .fn 152 [] [.nm 0 0]
def zJk (k:Option Nat):Int:=match k with
 |some k=>k
 |none=> -1
def idxC:Con:=con1 zVp (λi=>[iV i.l,y0z]) (λi=>[i.p.row]) (λi=>1<=i.p.tick/\i.l.length<=1099511627776) (λi=>zA (zJk (i.l.findIdx? (qN i.p.tick)))) (λi=>[i.p.row])
def y4d (i:zVp):List SAnn:=[{ι:=Nat,slots:=λj=>[(8,zA j)],rows:=λ_=>[]}]
def containsC:Con:=con1 zVp (λi=>[iV i.l,y0z]) (λi=>[i.p.row]) (λi=>1<=i.p.tick/\i.l.length<=1099511627776) (λi=>yP (i.l.any (qN i.p.tick))) (λi=>[i.p.row])
def qL (p:Prd):Bool:=decide (1<=p.tick) && decide (p.tick<=1000) && !qN p.tick p.low && !qN p.tick p.high && !qN p.tick p.wide && !p.settle.any (qN p.tick)
def ticksC:Con:=con1 Prd (λp=>[prdV p]) (λ_=>[]) Prd.small (λp=>yP (qL p)) (λ_=>[])
def qJ (p:Prd):Bool:=decide (p.low< -1000000)||decide (p.low>=p.high)||decide (p.high>1000000)||decide (p.wide<0)||decide (p.wide>p.high-p.low)
def xI (p:Prd):Bool:=decide (p.settle.length≠p.months.length)||decide (pZ p.settle<p.low)||decide (tO p.settle>p.high)
def kC (p:Prd):Bool:=decide (p.rule<1)||decide (p.rule>3)
def x5 (p:Prd):Bool:=decide (p.top<0)||decide (p.top>1000000)||decide (p.least<1)||decide (p.least>1000)||decide (p.part<0)||decide (p.part>100)
def Prd.check (p:Prd):Int:=
 if !wD p.code then 12 else if !xF p.months then 1 else if !qL p then 22 else if qJ p then 23 else if xI p then 1 else if kC p then 31 else if x5 p then 24 else 0
def checkC:Con:=con1 Prd (λp=>[prdV p]) (λ_=>[]) Prd.small (λp=>zA p.check) (λ_=>[])
def Prd.count (p:Prd):Nat:=if p.check=0 then p.months.length+p.months.length*(p.months.length-1) / 2 else 0
def pcountC:Con:=con1 Prd (λp=>[prdV p]) (λ_=>[]) Prd.small (λp=>zA p.count) (λ_=>[])
structure cM where
 p:Prd
 n:Int
def yJ (n:Nat):Nat->Nat
 |0=>n
 |k+1=>yJ n k+(n-1-k)
def kP (n inst:Nat):Nat->Nat->Int×Int×Bool
 |0,_=>(0,0,ax)
 |k+1,m=>if inst<yJ n m+(n-1-m)then(m,m+1+(inst-yJ n m:Nat),ay)else kP n inst k (m+1)
def Prd.legs (p:Prd) (i:Int):Int×Int×Bool:=
 if i<0\/(p.count:Int)<=i then(0,0,ax)else if i<p.months.length then(i,i,ax)else kP p.months.length i.toNat p.months.length 0
def legsC:Con:=con1 cM (λi=>[prdV i.p,zA i.n]) (λ_=>[]) (λi=>i.p.small) (λi=> .tup [zA (i.p.legs i.n).1,zA (i.p.legs i.n).2.1,yP (i.p.legs i.n).2.2]) (λ_=>[])
structure tJ where
 p:Prd
 a:Int
 b:Int
def Prd.spread (p:Prd) (a b:Int):Int×Bool:=
 if p.check≠0\/a<0\/b<=a\/(p.months.length:Int)<=b then(0,ax)else((yJ p.months.length a.toNat:Int)+b-a-1,ay)
def spreadC:Con:=con1 tJ (λi=>[prdV i.p,zA i.a,zA i.b]) (λ_=>[]) (λi=>i.p.small) (λi=> .tup [zA (i.p.spread i.a i.b).1,yP (i.p.spread i.a i.b).2]) (λ_=>[])
def Prd.price (p:Prd) (i n:Int):Int:=
 if p.count=0 then 1 else if i<0\/(p.count:Int)<=i then 20 else if qN p.tick n then 22 else
 if n<(if(p.months.length:Int)<=i then-p.wide else p.low)\/(if(p.months.length:Int)<=i then p.wide else p.high)<n then 23 else 0
def priceC:Con:=con1 tJ (λi=>[prdV i.p,zA i.a,zA i.b]) (λ_=>[]) (λi=>i.p.small) (λi=>zA (i.p.price i.a i.b)) (λ_=>[])
structure I2 where
 x:Int
 y:Int
@[reducible] def i64r (n:Int):Prop:= -9223372036854775808<=n/\n<=9223372036854775807
def uX (x y:Int):Int×Bool:=if i64r (x+y)then(x+y,ay)else(0,ax)
def uY (x y:Int):Int×Bool:=if i64r (x-y)then(x-y,ay)else(0,ax)
def addC:Con:=con1 I2 (λi=>[zA i.x,zA i.y]) (λ_=>[]) (λi=>i64r i.x/\i64r i.y) (λi=> .tup [zA (uX i.x i.y).1,yP (uX i.x i.y).2]) (λ_=>[])
def subC:Con:=con1 I2 (λi=>[zA i.x,zA i.y]) (λ_=>[]) (λi=>i64r i.x/\i64r i.y) (λi=> .tup [zA (uY i.x i.y).1,yP (uY i.x i.y).2]) (λ_=>[])
def yZw (i:cM):List SAnn:=[{ι:=Nat,slots:=λm=>[(8,zA (yJ i.p.months.length m)),(33,zA m)],rows:=λ_=>[]}]
def yMa (i:tJ):List SAnn:=[{ι:=Nat,slots:=λm=>[(9,zA (yJ i.p.months.length m)),(33,zA m)],rows:=λ_=>[]}]
def yYm (i:z2a):Prop:=
 ar=ar/\i.p.tick≠0/\∃(a:Unit),qN i.p.tick i.n=(i.n.tmod i.p.tick !=0)/\dh (sb i.p.code)/\dh (iE i.p.months)/\dh i.p.tick/\dh i.p.low/\dh i.p.high/\dh i.p.wide/\dh i.p.rule/\dh i.p.top/\dh i.p.least/\dh i.p.part/\dh (iE i.p.settle)/\True
def yYd (i:zVp):Prop:=
 ∃(a:Nat),(↑a:Int)=0/\∃(b:Nat->Prop),∃(c:Nat->Nat),b a/\∀(d:Nat),b d->cnd (decide ((↑d:Int)<(↑(iE i.l).length:Int))) ((0<=(↑d:Int)/\(↑d:Int)<(↑(iE i.l).length:Int))/\∃(e:Int),zE (iE i.l) (↑d:Int).toNat 0 1=bc [dI e]/\∃(f:z2a),f.n=e/\sb f.p.code=sb i.p.code/\iE f.p.months=iE i.p.months/\f.p.tick=i.p.tick/\f.p.low=i.p.low/\f.p.high=i.p.high/\f.p.wide=i.p.wide/\f.p.rule=i.p.rule/\f.p.top=i.p.top/\f.p.least=i.p.least/\f.p.part=i.p.part/\iE f.p.settle=iE i.p.settle/\1<=f.p.tick/\∀(g:Unit),True->cnd (qN f.p.tick f.n) (∃(h:Unit),zJk (List.findIdx? (qN i.p.tick) i.l)=(↑d:Int)/\sb i.p.code=sb f.p.code/\iE i.p.months=iE f.p.months/\i.p.tick=f.p.tick/\i.p.low=f.p.low/\i.p.high=f.p.high/\i.p.wide=f.p.wide/\i.p.rule=f.p.rule/\i.p.top=f.p.top/\i.p.least=f.p.least/\i.p.part=f.p.part/\iE i.p.settle=iE f.p.settle/\True) (∃(h:Nat),(↑h:Int)=ar.wrap ((↑d:Int)+1)/\b h/\c h<c d/\ac [V.d (D.v (bz (sb f.p.code))),V.d (D.ro 1 (iE f.p.months)),V.d (dI f.p.tick),V.d (dI f.p.low),V.d (dI f.p.high),V.d (dI f.p.wide),V.d (dI f.p.rule),V.d (dI f.p.top),V.d (dI f.p.least),V.d (dI f.p.part),V.d (D.ro 1 (iE f.p.settle))] (25:ce)=i.p.row)) (∃(e:Unit),zJk (List.findIdx? (qN i.p.tick) i.l)=(-1)/\dh (sb i.p.code)/\dh (iE i.p.months)/\dh i.p.tick/\dh i.p.low/\dh i.p.high/\dh i.p.wide/\dh i.p.rule/\dh i.p.top/\dh i.p.least/\dh i.p.part/\dh (iE i.p.settle)/\True)
def zRg (i:zVp):Prop:=
 ∃(a:zVp),iE a.l=iE i.l/\sb a.p.code=sb i.p.code/\iE a.p.months=iE i.p.months/\a.p.tick=i.p.tick/\a.p.low=i.p.low/\a.p.high=i.p.high/\a.p.wide=i.p.wide/\a.p.rule=i.p.rule/\a.p.top=i.p.top/\a.p.least=i.p.least/\a.p.part=i.p.part/\iE a.p.settle=iE i.p.settle/\(1<=a.p.tick/\a.l.length<=1099511627776)/\∀(b:Unit),True->∃(c:Unit),i.l.any (qN i.p.tick)=decide (zJk (List.findIdx? (qN a.p.tick) a.l)>=0)/\sb i.p.code=sb a.p.code/\iE i.p.months=iE a.p.months/\i.p.tick=a.p.tick/\i.p.low=a.p.low/\i.p.high=a.p.high/\i.p.wide=a.p.wide/\i.p.rule=a.p.rule/\i.p.top=a.p.top/\i.p.least=a.p.least/\i.p.part=a.p.part/\iE i.p.settle=iE a.p.settle/\True
def yIx (p:Prd):Prop:=
 cnd (decide (p.tick<1)) (∃(a:Unit),qL p=ax/\True) (cnd (decide (p.tick>1000)) (∃(a:Unit),qL p=ax/\True) (∃(a:z2a),a.n=p.low/\sb a.p.code=sb p.code/\iE a.p.months=iE p.months/\a.p.tick=p.tick/\a.p.low=p.low/\a.p.high=p.high/\a.p.wide=p.wide/\a.p.rule=p.rule/\a.p.top=p.top/\a.p.least=p.least/\a.p.part=p.part/\iE a.p.settle=iE p.settle/\1<=a.p.tick/\∀(b:Unit),True->cnd (!qN a.p.tick a.n) (∃(c:z2a),c.n=a.p.high/\sb c.p.code=sb a.p.code/\iE c.p.months=iE a.p.months/\c.p.tick=a.p.tick/\c.p.low=a.p.low/\c.p.high=a.p.high/\c.p.wide=a.p.wide/\c.p.rule=a.p.rule/\c.p.top=a.p.top/\c.p.least=a.p.least/\c.p.part=a.p.part/\iE c.p.settle=iE a.p.settle/\1<=c.p.tick/\∀(d:Unit),True->cnd (!qN c.p.tick c.n) (∃(e:z2a),e.n=c.p.wide/\sb e.p.code=sb c.p.code/\iE e.p.months=iE c.p.months/\e.p.tick=c.p.tick/\e.p.low=c.p.low/\e.p.high=c.p.high/\e.p.wide=c.p.wide/\e.p.rule=c.p.rule/\e.p.top=c.p.top/\e.p.least=c.p.least/\e.p.part=c.p.part/\iE e.p.settle=iE c.p.settle/\1<=e.p.tick/\∀(f:Unit),True->cnd (!qN e.p.tick e.n) (∃(g:zVp),iE g.l=iE e.p.settle/\sb g.p.code=sb e.p.code/\iE g.p.months=iE e.p.months/\g.p.tick=e.p.tick/\g.p.low=e.p.low/\g.p.high=e.p.high/\g.p.wide=e.p.wide/\g.p.rule=e.p.rule/\g.p.top=e.p.top/\g.p.least=e.p.least/\g.p.part=e.p.part/\iE g.p.settle=iE e.p.settle/\(1<=g.p.tick/\g.l.length<=1099511627776)/\∀(h:Unit),True->∃(j:Unit),qL p=!g.l.any (qN g.p.tick)/\True) (∃(g:Unit),qL p=ax/\True)) (∃(e:Unit),qL p=ax/\True)) (∃(c:Unit),qL p=ax/\True)))
def z5 (a:Prd):Prop:=a.code.length<=1099511627776/\a.months.length<=1099511627776/\a.settle.length<=1099511627776
def wT (a:Prd):=(↑(iE a.settle).length:Int)
def xE (a:Prd):=(↑(iE a.months).length:Int)
def yKl (p:Prd):Prop:=
 ∃(a:List UInt8),sb a=sb p.code/\a.length<=1099511627776/\∀(b:Unit),True->cnd (!wD a) (∃(c:Unit),p.check=12/\True) (∃(c:List Int),iE c=iE p.months/\c.length<=1099511627776/\∀(d:Unit),True->cnd (!xF c) (∃(e:Unit),p.check=1/\True) (∃(e:Prd),sb e.code=sb p.code/\iE e.months=iE p.months/\e.tick=p.tick/\e.low=p.low/\e.high=p.high/\e.wide=p.wide/\e.rule=p.rule/\e.top=p.top/\e.least=p.least/\e.part=p.part/\iE e.settle=iE p.settle/\(z5 e)/\∀(f:Unit),True->cnd (!qL e) (∃(g:Unit),p.check=22/\True) (cnd (decide (p.low<(-1000000))) (∃(g:Unit),p.check=23/\True) (cnd (decide (p.low>=p.high)) (∃(g:Unit),p.check=23/\True) (cnd (decide (p.high>1000000)) (∃(g:Unit),p.check=23/\True) (cnd (decide (p.wide<0)) (∃(g:Unit),p.check=23/\True) (cnd (decide (p.wide>ar.wrap (p.high-p.low))) (∃(g:Unit),p.check=23/\True) (cnd ((wT p) !=(xE p)) (∃(g:Unit),p.check=1/\True) (∃(g:List Int),iE g=iE p.settle/\(0<g.length/\g.length<=1099511627776)/\∀(h:Unit),True->dh p.low/\cnd (decide (pZ g<p.low)) (∃(j:Unit),p.check=1/\True) (∃(j:List Int),iE j=iE p.settle/\(0<j.length/\j.length<=1099511627776)/\∀(k:Unit),True->dh p.high/\cnd (decide (tO j>p.high)) (∃(l:Unit),p.check=1/\True) (cnd (decide (p.rule<1)) (∃(l:Unit),p.check=31/\True) (cnd (decide (p.rule>3)) (∃(l:Unit),p.check=31/\True) (cnd (decide (p.top<0)) (∃(l:Unit),p.check=24/\True) (cnd (decide (p.top>1000000)) (∃(l:Unit),p.check=24/\True) (cnd (decide (p.least<1)) (∃(l:Unit),p.check=24/\True) (cnd (decide (p.least>1000)) (∃(l:Unit),p.check=24/\True) (cnd (decide (p.part<0)) (∃(l:Unit),p.check=24/\True) (cnd (decide (p.part>100)) (∃(l:Unit),p.check=24/\True) (∃(l:Unit),p.check=0/\True)))))))))))))))))))
def rY (a:Prd) (b:Prd):Prop:=sb a.code=sb b.code/\iE a.months=iE b.months/\a.tick=b.tick/\a.low=b.low/\a.high=b.high/\a.wide=b.wide/\a.rule=b.rule/\a.top=b.top/\a.least=b.least/\a.part=b.part/\iE a.settle=iE b.settle/\(z5 a)/\∀(c:Unit),True->cnd (a.check !=0) (∃(d:Unit),(↑b.count:Int)=0/\True) (ar=ar/\(2:Int)≠(0:Int)/\∃(d:Unit),(↑b.count:Int)=ar.wrap ((xE b)+ar.wrap ((ar.wrap ((xE b)*ar.wrap ((xE b)-1))).tdiv 2))/\True)
def z8x (p:Prd):Prop:=
 ∃(a:Prd),rY a p
def pV (a:cM):Prop:=ac [V.d (D.v (bz (sb a.p.code))),V.own 0,V.d (dI a.p.tick),V.d (dI a.p.low),V.d (dI a.p.high),V.d (dI a.p.wide),V.d (dI a.p.rule),V.d (dI a.p.top),V.d (dI a.p.least),V.d (dI a.p.part),V.own 1] 25=ac [V.d (D.v (bz (sb a.p.code))),V.own 0,V.d (dI a.p.tick),V.d (dI a.p.low),V.d (dI a.p.high),V.d (dI a.p.wide),V.d (dI a.p.rule),V.d (dI a.p.top),V.d (dI a.p.least),V.d (dI a.p.part),V.own 1] 25/\dh (ab 1 (iE a.p.settle))/\dh (ab 1 (iE a.p.months))
def zGb (a:Nat->Prop) (b:Nat) (c:Nat->Nat) (d:Nat) (e:cM):Prop:=a b/\c b<c d/\pV e
def uG (a:cM) (b:Nat):=(↑(yJ a.p.months.length b):Int)
def vB (a:cM):=(↑(iE a.p.months).length:Int)
def zIi (a:cM) (b:Nat):=((uG a b)+ar.wrap (ar.wrap ((vB a)-1)-(↑b:Int)))
def fC (a:cM):Prop:=∃(b:Unit),(a.p.legs a.n).fst=0/\(a.p.legs a.n).snd.fst=0/\(a.p.legs a.n).snd.snd=ax/\True
def l7 (a:cM):Prop:=∃(b:Unit),(a.p.legs a.n).fst=a.n/\(a.p.legs a.n).snd.fst=a.n/\(a.p.legs a.n).snd.snd=ax/\True
def yRc (i:cM):Prop:=
 ∃(a:Prd),sb a.code=sb i.p.code/\iE a.months=iE i.p.months/\a.tick=i.p.tick/\a.low=i.p.low/\a.high=i.p.high/\a.wide=i.p.wide/\a.rule=i.p.rule/\a.top=i.p.top/\a.least=i.p.least/\a.part=i.p.part/\iE a.settle=iE i.p.settle/\(z5 a)/\∀(b:Unit),True->cnd (decide (i.n<0)) (fC i) (cnd (decide (i.n>=(↑a.count:Int))) (fC i) (cnd (decide (i.n<(vB i))) (l7 i) (∃(c:Nat),(uG i c)=(vB i)/\(↑c:Int)=0/\∃(d:Nat->Prop),∃(e:Nat->Nat),d c/\∀(f:Nat),d f->cnd (decide ((↑f:Int)<(vB i))) (cnd (decide (i.n<ar.wrap (zIi i f))) (∃(g:Unit),(i.p.legs i.n).fst=(↑f:Int)/\(i.p.legs i.n).snd.fst=ar.wrap (ar.wrap (ar.wrap ((↑f:Int)+1)+i.n)-(uG i f))/\(i.p.legs i.n).snd.snd=ay/\True) (∃(g:Nat),(uG i g)=ar.wrap (zIi i f)/\(↑g:Int)=ar.wrap ((↑f:Int)+1)/\zGb d g e f i)) (fC i))))
def cI (a:tJ):Prop:=∃(b:Unit),(a.p.spread a.a a.b).fst=0/\(a.p.spread a.a a.b).snd=ax/\True
def z8h (i:tJ):Prop:=
 ∃(a:Prd),sb a.code=sb i.p.code/\iE a.months=iE i.p.months/\a.tick=i.p.tick/\a.low=i.p.low/\a.high=i.p.high/\a.wide=i.p.wide/\a.rule=i.p.rule/\a.top=i.p.top/\a.least=i.p.least/\a.part=i.p.part/\iE a.settle=iE i.p.settle/\(z5 a)/\∀(b:Unit),True->cnd (a.check !=0) (cI i) (cnd (decide (i.a<0)) (cI i) (cnd (decide (i.a>=i.b)) (cI i) (cnd (decide (i.b>=(↑(iE i.p.months).length:Int))) (cI i) (∃(c:Nat),(↑(yJ i.p.months.length c):Int)=(↑(iE i.p.months).length:Int)/\(↑c:Int)=0/\∃(d:Nat->Prop),∃(e:Nat->Nat),d c/\∀(f:Nat),d f->cnd (decide ((↑f:Int)<i.a)) (∃(g:Nat),(↑(yJ i.p.months.length g):Int)=ar.wrap ((↑(yJ i.p.months.length f):Int)+ar.wrap (ar.wrap ((↑(iE i.p.months).length:Int)-1)-(↑f:Int)))/\(↑g:Int)=ar.wrap ((↑f:Int)+1)/\d g/\e g<e f/\dh (ac [V.d (D.v (bz (sb i.p.code))),V.own 0,V.d (dI i.p.tick),V.d (dI i.p.low),V.d (dI i.p.high),V.d (dI i.p.wide),V.d (dI i.p.rule),V.d (dI i.p.top),V.d (dI i.p.least),V.d (dI i.p.part),V.own 1] 25)/\dh (ab 1 (iE i.p.settle))/\dh (ab 1 (iE i.p.months))) (∃(g:Unit),(i.p.spread i.a i.b).fst=ar.wrap (ar.wrap (ar.wrap ((↑(yJ i.p.months.length f):Int)+i.b)-i.a)-1)/\(i.p.spread i.a i.b).snd=ay/\True)))))
def yFz (i:tJ):Prop:=
 ∃(a:Prd),sb a.code=sb i.p.code/\iE a.months=iE i.p.months/\a.tick=i.p.tick/\a.low=i.p.low/\a.high=i.p.high/\a.wide=i.p.wide/\a.rule=i.p.rule/\a.top=i.p.top/\a.least=i.p.least/\a.part=i.p.part/\iE a.settle=iE i.p.settle/\(z5 a)/\∀(b:Unit),True->cnd ((↑a.count:Int)==0) (∃(c:Unit),i.p.price i.a i.b=1/\True) (cnd (decide (i.a<0)) (∃(c:Unit),i.p.price i.a i.b=20/\True) (cnd (decide (i.a>=(↑a.count:Int))) (∃(c:Unit),i.p.price i.a i.b=20/\True) (ar=ar/\i.p.tick≠0/\cnd (i.b.tmod i.p.tick !=0) (∃(c:Unit),i.p.price i.a i.b=22/\True) (cnd (decide (i.a>=(↑(iE i.p.months).length:Int))) (cnd (decide (i.b<ar.wrap (0-i.p.wide))) (∃(c:Unit),i.p.price i.a i.b=23/\True) (cnd (decide (i.b>i.p.wide)) (∃(c:Unit),i.p.price i.a i.b=23/\True) (∃(c:Unit),i.p.price i.a i.b=0/\True))) (cnd (decide (i.b<i.p.low)) (∃(c:Unit),i.p.price i.a i.b=23/\True) (cnd (decide (i.b>i.p.high)) (∃(c:Unit),i.p.price i.a i.b=23/\True) (∃(c:Unit),i.p.price i.a i.b=0/\True)))))))
def zLv (a:I2):Prop:=∃(b:Unit),(uX a.x a.y).fst=ar.wrap (a.x+a.y)/\(uX a.x a.y).snd=ay/\True
def y1h (i:I2):Prop:=
 cnd (decide (i.x<0)==decide (i.y<0)) (cnd (!decide (ar.wrap (i.x+i.y)<0)==decide (i.x<0)) (∃(a:Unit),(uX i.x i.y).fst=0/\(uX i.x i.y).snd=ax/\True) (zLv i)) (zLv i)
def zPd (a:I2):Prop:=∃(b:Unit),(uY a.x a.y).fst=ar.wrap (a.x-a.y)/\(uY a.x a.y).snd=ay/\True
def y1w (i:I2):Prop:=
 cnd (!decide (i.x<0)==decide (i.y<0)) (cnd (!decide (ar.wrap (i.x-i.y)<0)==decide (i.x<0)) (∃(a:Unit),(uY i.x i.y).fst=0/\(uY i.x i.y).snd=ax/\True) (zPd i)) (zPd i)
def y4w (i:z2a) (h:offC.cnd i):yYm i:=by
 have h:1<=i.p.tick:=h;unfold yYm;exact kpp
def yGq:offC.ok Tryz.prog 152:=okw mixed gok0 0 (λ_=>[]) (λ_=>[]) [] Tryz.func152 y4w
def zHr {α:Type} {f:α->Bool} {l:List α} (h:∀(k:Nat) (x:α),l[k]? =bc x->f x=ax):l.findIdx? f=be:=by
 rw[y9v];intro x hx;obtain⟨k,hk⟩:=xAo hx;exact h k x hk
def zIq {α:Type} {f:α->Bool} {l:List α} {j:Nat} {x:α} (h1:l[j]? =bc x) (h2:f x=ay) (h:∀k<j,∀x:α,l[k]? =bc x->f x=ax):l.findIdx? f=bc j:=by
 rw[y8k];obtain⟨hj,rfl⟩:=y5f.1 h1;exact⟨hj,h2,λk hk=>by rw[h k hk _ (y6e (by omega))];simp⟩
def y2w (i:zVp) (h:idxC.cnd i):yYd i:=by
 obtain⟨h1,h2⟩:1<=i.p.tick/\i.l.length<=1099511627776:=h;unfold yYd dI;simp only[yZ];refine⟨0,rfl,λj=>j<=i.l.length/\∀k<j,∀x,i.l[k]? =bc x->qN i.p.tick x=ax,λj=>i.l.length-j,⟨by omega,λk hk=>by omega⟩,?_⟩;rintro j ⟨h3,h4⟩;refine zI (λhj=> ?_) (λhj=> ?_)
 ·obtain⟨n,hn⟩:=yC (l:=i.l) (i:=j) (by omega);refine⟨⟨by omega,by omega⟩,n,elI hn,⟨i.p,n⟩,?_⟩
  (repeat'(first|exact rfl|exact trivial|assumption|apply az|refineλ(_:Unit) (_:True)=>?_|refine ba () ?_|omega|(dsimp only;omega)))
  refine Cv.cnd.mk (λe=> ?_) (λe=> ?_)
  ·rw[zIq hn e h4];exact kpp
  ·refine⟨j+1,by rw[w64 (by omega)];rfl,⟨by omega,λk hk x hx=> ?_⟩,by(first|omega|(dsimp only;omega)),rfl⟩;rcases y7k k j with hk'|hk'
   ·exact h4 k hk' x hx
   ·obtain rfl:k=j:=by omega
    rw[hn]at hx;cases hx;exact e
 ·rw[zHr λk x hx=>h4 k (by have:=(y5f.1 hx).1;omega) x hx];exact kpp
def yUb:idxC.ok Tryz.prog 174:=okw mixed (gokc yGq gok0) 0 (λ_=>[]) (λi=>y4d i) [] Tryz.func174 y2w
def yBs {l:List Int} {f:Int->Bool}:l.any f=decide (zJk (l.findIdx? f)>=0):=by
 cases hf:l.findIdx? f with
 |none=>
  rw[y9v]at hf;have:l.any f=ax:=by rw[xBh];intro x hx;simp[hf x hx]
  rw[this];rfl
 |some k=>
  rw[y8k]at hf;obtain⟨hk,h1,_⟩:=hf;have:l.any f=ay:=by rw[List.any_eq_true];exact⟨_,List.getElem_mem hk,h1⟩
  rw[this,zJk,y5s (by omega)]
def yCq (i:zVp) (h:containsC.cnd i):zRg i:=by
 unfold zRg;have h':1<=i.p.tick/\i.l.length<=1099511627776:=h;refine⟨i,?_⟩
 (repeat'(first|exact rfl|exact trivial|assumption|apply az|refineλ(_:Unit) (_:True)=>?_|refine ba () ?_|omega|(dsimp only;omega)))
 exact yBs
def zXu:containsC.ok Tryz.prog 153:=okw mixed (gokc yUb gok0) 0 (λ_=>[]) (λ_=>[]) [] Tryz.func153 yCq
def yUh (p:Prd) (h:ticksC.cnd p):yIx p:=by
 obtain⟨h1,h2,h3⟩:p.small:=h;unfold yIx;refine zI (λc1=>⟨(),by rw[qL,y5q (by omega)];rfl,trivial⟩) (λc1=>zI (λc2=>⟨(),by rw[qL,y5q (show ¬p.tick<=1000 by omega)];simp,trivial⟩) (λc2=>⟨⟨p,p.low⟩,?_⟩));have e1:qL p=(!qN p.tick p.low && !qN p.tick p.high && !qN p.tick p.wide && !p.settle.any (qN p.tick)):=by
  rw[qL,y5s (by omega),y5s (by omega)];rfl
 rw[e1]
 (repeat'(first|exact rfl|exact trivial|assumption|apply az|refineλ(_:Unit) (_:True)=>?_|refine ba () ?_|omega|(dsimp only;omega)))
 refine Cv.cnd.mk (λc3=>⟨⟨p,p.high⟩,?_⟩) (λc3=>⟨(),?_,trivial⟩)
 ·dsimp only at c3
  (repeat'(first|exact rfl|exact trivial|assumption|apply az|refineλ(_:Unit) (_:True)=>?_|refine ba () ?_|omega|(dsimp only;omega)))
  refine Cv.cnd.mk (λc4=>⟨⟨p,p.wide⟩,?_⟩) (λc4=>⟨(),?_,trivial⟩)
  ·dsimp only at c4
   (repeat'(first|exact rfl|exact trivial|assumption|apply az|refineλ(_:Unit) (_:True)=>?_|refine ba () ?_|omega|(dsimp only;omega)))
   refine Cv.cnd.mk (λc5=>⟨⟨p,p.settle⟩,?_⟩) (λc5=>⟨(),?_,trivial⟩)
   ·dsimp only at c5
    (repeat'(first|exact rfl|exact trivial|assumption|apply az|refineλ(_:Unit) (_:True)=>?_|refine ba () ?_|omega|(dsimp only;omega)))
    rw[c3,c4,c5];simp
   ·dsimp only at c5;rw[c5];simp
  ·dsimp only at c4;rw[c4];simp
 ·dsimp only at c3;rw[c3];simp
def yHt:ticksC.ok Tryz.prog 123:=okw mixed (gokc yGq (gokc zXu gok0)) 0 (λ_=>[]) (λ_=>[]) [] Tryz.func123 yUh
def yUq (p:Prd) (h:checkC.cnd p):yKl p:=by
 obtain⟨h1,h2,h3⟩:p.small:=h;unfold yKl xE wT z5;simp only[yZ];refine⟨p.code,rfl,h1,λ_ _=>Cv.cnd.mk (λc1=>⟨(),by rw[Prd.check,y5d c1],trivial⟩) (λc1=>⟨p.months,rfl,h2,λ_ _=>Cv.cnd.mk (λc2=>⟨(),by rw[Prd.check,y5b (by simp[c1]),y5d c2],trivial⟩) (λc2=>⟨p,?_⟩)⟩)⟩
 (repeat'(first|exact rfl|exact trivial|assumption|apply az|refineλ(_:Unit) (_:True)=>?_|refine ba () ?_|omega|(dsimp only;omega)))
 refine Cv.cnd.mk (λc3=>⟨(),by rw[Prd.check,y5b (by simp[c1]),y5b (by simp[c2]),y5d c3],trivial⟩) (λc3=> ?_);have e0:p.check=if qJ p then 23 else if xI p then 1 else if kC p then 31 else if x5 p then 24 else 0:=by
  rw[Prd.check,y5b (by simp[c1]),y5b (by simp[c2]),y5b (by simp[c3])]
 have b (hb:qJ p=ay):∃(o:Unit),p.check=23/\True:=⟨(),by rw[e0,y5d hb],trivial⟩
 refine zI (λd1=>b (by simp[qJ,d1])) λd1=>zI (λd2=>b (by simp[qJ];omega)) λd2=>zI (λd3=>b (by simp[qJ];omega)) λd3=>zI (λd4=>b (by simp[qJ];omega)) λd4=> ?_
 rw[w64 (by omega)];refine zI (λd5=>b (by simp[qJ];omega)) λd5=> ?_
 have e1:p.check=if xI p then 1 else if kC p then 31 else if x5 p then 24 else 0:=by
  rw[e0,y5b (by simp[qJ];omega)]
 have s (hb:xI p=ay):∃(o:Unit),p.check=1/\True:=⟨(),by rw[e1,y5d hb],trivial⟩
 have hm:2<=p.months.length:=by
  have c2:xF p.months=ay:=by simpa using c2
  simp[xF]at c2;omega
 refine Cv.cnd.mk (λd6=>s (by have d6:¬(p.settle.length:Int)=p.months.length:=(by simpa using d6);simp[xI];omega)) λd6=> ?_
 have d6:p.settle.length=p.months.length:=by
  have:(p.settle.length:Int)=p.months.length:=by simpa using d6
  omega
 refine⟨p.settle,rfl,⟨by omega,by omega⟩,λ_ _=>⟨kpp,zI (λd7=>s (by simp[xI];left;right;omega)) λd7=>⟨p.settle,rfl,⟨by omega,by omega⟩,λ_ _=>⟨kpp,zI (λd8=>s (by simp[xI];right;omega)) λd8=> ?_⟩⟩⟩⟩;have e2:p.check=if kC p then 31 else if x5 p then 24 else 0:=by
  rw[e1,y5b (by simp[xI];omega)]
 have r (hb:kC p=ay):∃(o:Unit),p.check=31/\True:=⟨(),by rw[e2,y5d hb],trivial⟩
 refine zI (λd9=>r (by simp[kC];omega)) λd9=>zI (λd10=>r (by simp[kC];omega)) λd10=> ?_
 have e3:p.check=if x5 p then 24 else 0:=by
  rw[e2,y5b (by simp[kC];omega)]
 have q (hb:x5 p=ay):∃(o:Unit),p.check=24/\True:=⟨(),by rw[e3,y5d hb],trivial⟩
 refine zI (λf1=>q (by simp[x5];omega)) λf1=>zI (λf2=>q (by simp[x5];omega)) λf2=>zI (λf3=>q (by simp[x5];omega)) λf3=>zI (λf4=>q (by simp[x5];omega)) λf4=>zI (λf5=>q (by simp[x5];omega)) λf5=>zI (λf6=>q (by simp[x5];omega)) λf6=> ?_
 exact⟨(),by rw[e3,y5b (by simp[x5];omega)],trivial⟩
def eF:checkC.ok Tryz.prog 75:=okw mixed (gokc yTy (gokc yAd (gokc yHt (gokc yWr (gokc yTv gok0))))) 0 (λ_=>[]) (λ_=>[]) [] Tryz.func75 yUq
structure Prd.Ok (p:Prd):Prop where
 sym:wD p.code=ay
 months:xF p.months=ay
 ticks:qL p=ay
 m2:2<=p.months.length
 m6:p.months.length<=6
 t1:1<=p.tick
 t2:p.tick<=1000
 b1: -1000000<=p.low
 b2:p.low<p.high
 b3:p.high<=1000000
 b4:0<=p.wide
 b5:p.wide<=p.high-p.low
 s1:p.settle.length=p.months.length
 s2:p.low<=pZ p.settle
 s3:tO p.settle<=p.high
 r1:1<=p.rule
 r2:p.rule<=3
 q1:0<=p.top
 q2:p.top<=1000000
 q3:1<=p.least
 q4:p.least<=1000
 q5:0<=p.part
 q6:p.part<=100
def kD {p:Prd} (h:p.check=0):p.Ok:=by
 unfold Prd.check at h;split at h<;>first|(exfalso;revert h;decide)|skip
 rename_i c1;split at h<;>first|(exfalso;revert h;decide)|skip
 rename_i c2;split at h<;>first|(exfalso;revert h;decide)|skip
 rename_i c3;split at h<;>first|(exfalso;revert h;decide)|skip
 rename_i c4;split at h<;>first|(exfalso;revert h;decide)|skip
 rename_i c5;split at h<;>first|(exfalso;revert h;decide)|skip
 rename_i c6;split at h<;>first|(exfalso;revert h;decide)|skip
 rename_i c7;simp only[y8o,Bool.not_eq_false,Bool.not_eq_true]at c1 c2 c3;have m:=c2;have t:=c3;simp[xF]at m;simp[qL]at t;simp[qJ]at c4;simp[xI]at c5;simp[kC]at c6;simp[x5]at c7;exact⟨c1,c2,c3,by omega,by omega,by omega,by omega,by omega,by omega,by omega,by omega,by omega,by omega,by omega,by omega,by omega,by omega,by omega,by omega,by omega,by omega,by omega,by omega⟩
def yHz {n:Nat} (h:n<=6):n+n*(n-1) / 2<=21:=by
 have:∀n≤6,n+n*(n-1) / 2<=21:=by decide
 exact this n h
def yNk (p:Prd) (h:pcountC.cnd p):z8x p:=by
 unfold z8x rY xE z5;obtain⟨h1,h2,h3⟩:p.small:=h;refine⟨p,?_⟩;simp only[yZ]
 (repeat'(first|exact rfl|exact trivial|assumption|apply az|refineλ(_:Unit) (_:True)=>?_|refine ba () ?_|omega|(dsimp only;omega)))
 refine Cv.cnd.mk (λc=>⟨(),by rw[Prd.count,y5b (by simpa using c)];rfl,trivial⟩) (λc=> ?_);have c:p.check=0:=by simpa using c
 have ok:=kD c;refine⟨kpp,by decide,(),?_,trivial⟩;rw[Prd.count,y5d c];obtain⟨n,hn⟩:∃n,p.months.length=n:=⟨_,rfl⟩
 have m2:=ok.m2;have m6:=ok.m6;rw[hn]at m2 m6 ⊢;have:n=2\/n=3\/n=4\/n=5\/n=6:=by omega
 rcases this with rfl|rfl|rfl|rfl|rfl<;>rfl
def bV:pcountC.ok Tryz.prog 77:=okw mixed (gokc eF gok0) 0 (λ_=>[]) (λ_=>[]) [] Tryz.func77 yNk
def eE {p:Prd} (h:p.count≠0):p.check=0:=by
 unfold Prd.count at h;split at h
 ·assumption
 ·exact absurd rfl h
def xK (p:Prd):p.count<=21:=by
 unfold Prd.count;split
 ·rename_i h;exact yHz (kD h).m6
 ·omega
def zLy {n m:Nat} (h:n<=6) (hm:m<=n):yJ n m<=21:=by
 have:∀n≤6,∀m≤n,yJ n m<=21:=by decide
 exact this n h m hm
def y1o (i:cM) (h:legsC.cnd i):yRc i:=by
 unfold yRc zGb pV l7 fC zIi vB uG z5 dI;obtain⟨h1,h2,h3⟩:i.p.small:=h;refine⟨i.p,?_⟩;simp only[yZ]
 (repeat'(first|exact rfl|exact trivial|assumption|apply az|refineλ(_:Unit) (_:True)=>?_|refine ba () ?_|omega|(dsimp only;omega)))
 refine zI (λc1=> ?_) (λc1=>zI (λc2=> ?_) (λc2=> ?_))
 ·rw[Prd.legs,y5d (by omega)];exact kpp
 ·rw[Prd.legs,y5d (by omega)];exact kpp
 have c2:¬i.n>=(i.p.count:Int):=c2;have hc:=xK i.p;have ok:=kD (eE (p:=i.p) (by omega));have m6:=ok.m6;refine zI (λc3=> ?_) (λc3=> ?_)
 ·rw[Prd.legs,y5b (by omega),y5d c3];exact kpp
 have e0:i.p.legs i.n=kP i.p.months.length i.n.toNat i.p.months.length 0:=by
  rw[Prd.legs,y5b (by omega),y5b c3]
 rw[e0];generalize hn:i.p.months.length=n at c3 m6 ⊢;obtain⟨k,hk⟩:∃k:Nat,i.n=k:=⟨i.n.toNat,by omega⟩
 rw[hk]at c2 c3 ⊢;refine⟨0,rfl,rfl,λm=>m<=n/\yJ n m<=k/\kP n k n 0=kP n k (n-m) m,λm=>n-m,⟨by omega,by show n<=k;omega,rfl⟩,?_⟩;rintro m ⟨g1,g2,g3⟩;have hf:=zLy m6 g1;refine zI (λc4=> ?_) (λc4=> ?_)
 ·obtain⟨r,hr⟩:∃r,n-m=r+1:=⟨n-m-1,by omega⟩
  have e1:(k:Int).toNat=k:=by omega
  rw[e1,g3,hr,w64 (x:=(n:Int)-1) (by omega),w64 (x:=(n:Int)-1-m) (by omega),w64 (x:=(yJ n m:Int)+((n:Int)-1-m)) (by omega),w64 (x:=(m:Int)+1) (by omega)];rw[hr]at g3;refine zI (λc5=> ?_) (λc5=> ?_)
  ·rw[w64 (x:=(m:Int)+1+k) (by omega),w64 (x:=(m:Int)+1+k-(yJ n m:Int)) (by omega),kP,y5d (by omega)];refine⟨(),rfl,?_,rfl,trivial⟩;dsimp only;omega
  ·refine⟨m+1,?_,rfl,⟨by omega,?_,?_⟩,by(first|omega|(dsimp only;omega)),kpp⟩
   ·rw[yJ];omega
   ·rw[yJ];omega
   ·rw[kP,y5b (by omega),show n-(m+1)=r by omega]
 ·have e1:(k:Int).toNat=k:=by omega
  rw[e1,g3,show n-m=0 by omega];exact⟨(),rfl,rfl,rfl,trivial⟩
def lN:legsC.ok Tryz.prog 133:=okw mixed (gokc bV gok0) 0 (λ_=>[]) (λi=>yZw i) [] Tryz.func133 y1o
def yNh (i:tJ) (h:spreadC.cnd i):z8h i:=by
 unfold z8h cI z5 dI;obtain⟨h1,h2,h3⟩:i.p.small:=h;refine⟨i.p,?_⟩;simp only[yZ]
 (repeat'(first|exact rfl|exact trivial|assumption|apply az|refineλ(_:Unit) (_:True)=>?_|refine ba () ?_|omega|(dsimp only;omega)))
 have bad (hb:i.p.check≠0\/i.a<0\/i.b<=i.a\/(i.p.months.length:Int)<=i.b):∃(o:Unit),(i.p.spread i.a i.b).fst=0/\(i.p.spread i.a i.b).snd=ax/\True:=⟨(),by rw[Prd.spread,y5d hb],by rw[Prd.spread,y5d hb],trivial⟩
 refine Cv.cnd.mk (λc1=>bad (.inl (by simpa using c1))) λc1=>zI (λc2=>bad (by omega)) λc2=>zI (λc3=>bad (by omega)) λc3=>zI (λc4=>bad (by omega)) λc4=> ?_
 have c1:i.p.check=0:=by simpa using c1
 have m6:=(kD c1).m6;rw[Prd.spread,y5b (by omega)];generalize hn:i.p.months.length=n at c4 m6 ⊢;obtain⟨a,ha⟩:∃k:Nat,i.a=k:=⟨i.a.toNat,by omega⟩
 rw[ha]at c3 ⊢;refine⟨0,rfl,rfl,λm=>m<=a,λm=>a-m,by omega,?_⟩;intro m hm;have hm:m<=a:=hm;have hf:=zLy (m:=m) m6 (by omega);refine zI (λc5=> ?_) (λc5=> ?_)
 ·rw[w64 (x:=(n:Int)-1) (by omega),w64 (x:=(n:Int)-1-m) (by omega),w64 (x:=(yJ n m:Int)+((n:Int)-1-m)) (by omega),w64 (x:=(m:Int)+1) (by omega)];refine⟨m+1,?_,rfl,by omega,by(first|omega|(dsimp only;omega)),kpp⟩;rw[yJ];omega
 ·obtain rfl:m=a:=by omega
  rw[w64 (x:=(yJ n m:Int)+i.b) (by omega),w64 (x:=(yJ n m:Int)+i.b-m) (by omega),w64 (x:=(yJ n m:Int)+i.b-m-1) (by omega)];exact⟨(),rfl,rfl,trivial⟩
def zRj:spreadC.ok Tryz.prog 158:=okw mixed (gokc eF gok0) 0 (λ_=>[]) (λi=>yMa i) [] Tryz.func158 yNh
def ySr (i:tJ) (h:priceC.cnd i):yFz i:=by
 unfold yFz z5;obtain⟨h1,h2,h3⟩:i.p.small:=h;refine⟨i.p,?_⟩;simp only[yZ]
 (repeat'(first|exact rfl|exact trivial|assumption|apply az|refineλ(_:Unit) (_:True)=>?_|refine ba () ?_|omega|(dsimp only;omega)))
 refine Cv.cnd.mk (λc1=>⟨(),by rw[Prd.price,y5d (by have:(i.p.count:Int)=0:=(by simpa using c1);omega)],trivial⟩) λc1=> ?_
 have c1:i.p.count≠0:=by
  have:¬(i.p.count:Int)=0:=by simpa using c1
  omega
 have e0:i.p.price i.a i.b=if i.a<0\/(i.p.count:Int)<=i.a then 20 else if qN i.p.tick i.b then 22 else
  if i.b<(if(i.p.months.length:Int)<=i.a then-i.p.wide else i.p.low)\/(if(i.p.months.length:Int)<=i.a then i.p.wide else i.p.high)<i.b then 23 else 0:=by rw[Prd.price,y5b c1]
 rw[e0];have ok:=kD (eE c1);obtain⟨t1,b3,b1,b2,b4,b5⟩:=(⟨ok.t1,ok.b3,ok.b1,ok.b2,ok.b4,ok.b5⟩:_/\_/\_/\_/\_/\_)
 refine zI (λc2=>⟨(),by rw[y5d (.inl c2)],trivial⟩) λc2=>zI (λc3=>⟨(),by rw[y5d (.inr c3)],trivial⟩) λc3=>⟨kpp,by omega,?_⟩
 have c3:¬i.a>=(i.p.count:Int):=c3;rw[y5b (by omega)];refine Cv.cnd.mk (λc4=>⟨(),y5d c4,trivial⟩) λc4=> ?_
 rw[y5b (by rw[qN,c4];simp),w64 (x:=0-i.p.wide) (by omega)];refine zI (λc5=> ?_) (λc5=> ?_)
 ·have c5:(i.p.months.length:Int)<=i.a:=c5;simp only[y5d c5];refine zI (λc6=>⟨(),y5d (.inl (by omega)),trivial⟩) λc6=>zI (λc7=>⟨(),y5d (.inr (by omega)),trivial⟩) λc7=>⟨(),y5b (by omega),trivial⟩
 ·have c5:¬(i.p.months.length:Int)<=i.a:=c5;simp only[y5b c5];refine zI (λc6=>⟨(),y5d (.inl (by omega)),trivial⟩) λc6=>zI (λc7=>⟨(),y5d (.inr (by omega)),trivial⟩) λc7=>⟨(),y5b (by omega),trivial⟩
def lL:priceC.ok Tryz.prog 130:=okw mixed (gokc bV gok0) 0 (λ_=>[]) (λ_=>[]) [] Tryz.func130 ySr
def yRk (x:Int) (h: -18446744073709551616<=x/\x<18446744073709551616):(i64r x/\ar.wrap x=x)\/(9223372036854775807<x/\ar.wrap x=x-18446744073709551616)\/(x< -9223372036854775808/\ar.wrap x=x+18446744073709551616):=by
 have e:ar.wrap x=if(decide (x % 18446744073709551616>=9223372036854775808))=ay then x % 18446744073709551616-18446744073709551616 else x % 18446744073709551616:=by
  have:ar.wrap x=if(ay && decide (x % 18446744073709551616>=9223372036854775808))=ay then x % 18446744073709551616-18446744073709551616 else x % 18446744073709551616:=rfl
  rw[this,y7z]
 have e:ar.wrap x=(x+9223372036854775808) % 18446744073709551616-9223372036854775808:=by
  rw[e];by_cases h2:x % 18446744073709551616>=9223372036854775808
  ·rw[y5d (y5s h2)];omega
  ·rw[y5b (by simpa using h2)];omega
 rw[e];by_cases h1:i64r x
 ·exact .inl ⟨h1,by unfold i64r at h1;omega⟩
 ·unfold i64r at h1;omega
def y3l (i:I2) (h:addC.cnd i):y1h i:=by
 obtain⟨⟨x1,x2⟩,y1,y2⟩:i64r i.x/\i64r i.y:=h;have hw:=yRk (i.x+i.y) (by omega);unfold y1h zLv uX;generalize ar.wrap (i.x+i.y)=w at hw ⊢;unfold i64r at hw ⊢;refine Cv.cnd.mk (λc1=>Cv.cnd.mk (λc2=> ?_) (λc2=> ?_)) (λc1=> ?_)
 all_goals(simp at*)
 ·rw[y5b (by omega)];exact kpp
 ·rw[y5d (by omega)];refine⟨?_,rfl⟩;dsimp only;omega
 ·rw[y5d (by omega)];refine⟨?_,rfl⟩;dsimp only;omega
def zVr:addC.ok Tryz.prog 177:=okw mixed gok0 0 (λ_=>[]) (λ_=>[]) [] Tryz.func177 y3l
def y4n (i:I2) (h:subC.cnd i):y1w i:=by
 obtain⟨⟨x1,x2⟩,y1,y2⟩:i64r i.x/\i64r i.y:=h;have hw:=yRk (i.x-i.y) (by omega);unfold y1w zPd uY;generalize ar.wrap (i.x-i.y)=w at hw ⊢;unfold i64r at hw ⊢;refine Cv.cnd.mk (λc1=>Cv.cnd.mk (λc2=> ?_) (λc2=> ?_)) (λc1=> ?_)
 all_goals(simp at*)
 ·rw[y5b (by omega)];exact kpp
 ·rw[y5d (by omega)];refine⟨?_,rfl⟩;dsimp only;omega
 ·rw[y5d (by omega)];refine⟨?_,rfl⟩;dsimp only;omega
def zUf:subC.ok Tryz.prog 178:=okw mixed gok0 0 (λ_=>[]) (λ_=>[]) [] Tryz.func178 y4n
structure Slot where
 used:Bool
 n:Int
 id:Int
 qty:Int
 top:Bool
 queue:Int
 ahead:Int
 back:Int
 deriving DecidableEq
structure cJ where
 first:Int
 last:Int
 total:Int
 count:Int
 deriving DecidableEq
structure Arena where
 slots:List Slot
 queues:List cJ
 free:Int
 deriving DecidableEq
def zR (s:Slot):List D:=[.v (.bool s.used),.v (.int .i64 s.n),.v (.int .i64 s.id),.v (.int .i64 s.qty),.v (.bool s.top),.v (.int .i64 s.queue),.v (.int .i64 s.ahead),.v (.int .i64 s.back)]
def zO (q:cJ):List D:=[.v (.int .i64 q.first),.v (.int .i64 q.last),.v (.int .i64 q.total),.v (.int .i64 q.count)]
def slot0:Slot:=⟨ax,0,0,0,ax,0,0,0⟩
def zG (a:Arena):Nat->AObj
 |0=> .cells [.own 1,.own 2,zA a.free] 280
 |1=> .own 273 8 (a.slots.map zR)
 |2=> .own 283 4 (a.queues.map zO)
 |_=> .gone
def jU (a:Arena):AObj:= .adt Arena 3 zG a
structure xL where
 price:Int
 queue:Int
 deriving DecidableEq
structure Place where
 side:Int
 price:Int
 slot:Int
 deriving DecidableEq
structure Book where
 a:Arena
 buys:List xL
 sells:List xL
 at_:List (Int×Place)
 top1:Int
 top2:Int
 spare:List Int
 has1:Bool
 has2:Bool
 deriving DecidableEq
def zB (r:xL):List D:=[.v (.int .i64 r.price),.v (.int .i64 r.queue)]
def z1s (p:Place):List D:=[.v (.int .i64 p.side),.v (.int .i64 p.price),.v (.int .i64 p.slot)]
def atE (l:List (Int×Place)):List (cd×List D):=l.map λx=>(.int .i64 x.1,z1s x.2)
def zP (b:Book):Nat->AObj
 |0=> .cells [.nm 1 0,.own 2,.own 3,.mp 4,zA b.top1,zA b.top2,.own 5,yP b.has1,yP b.has2] 245
 |1=>jU b.a
 |2=> .own 255 2 (b.buys.map zB)
 |3=> .own 255 2 (b.sells.map zB)
 |4=> .map (atE b.at_)
 |5=> .own 3 1 (iE b.spare)
 |_=> .gone
def z8 (b:Book):AObj:= .adt Book 6 zP b
structure MSt where
 p:Prd
 books:List Book
 wh:List (Int×Int)
def yO (l:List (Int×Int)):List (cd×List D):=l.map λx=>(.int .i64 x.1,[.v (.int .i64 x.2)])
def xR (s:MSt):Nat->AObj
 |0=> .cells [sV s.p.code,.own 3,zA s.p.tick,zA s.p.low,zA s.p.high,zA s.p.wide,zA s.p.rule,zA s.p.top,zA s.p.least,zA s.p.part,.own 4,.own 1,.mp 2] 195
 |1=> .objs 197 Book 6 zP s.books be
 |2=> .map (yO s.wh)
 |3=> .fro 1 (iE s.p.months)
 |4=> .fro 1 (iE s.p.settle)
 |_=> .gone
def zD (s:MSt):AObj:= .adt MSt 5 xR s
def zPc (n:Nat):Arena:=⟨am n slot0,[],n⟩
def book0:Book:=⟨zPc 250,[],[],[],0,0,[],ax,ax⟩
def newAC:Con:=con1 Nat (λn=>[zA n]) (λ_=>[]) (λn=>1<=n/\n<=4096) (λ_=> .tup [.nm 0 0,zA 0]) (λn=>[jU (zPc n)])
def newBC:Con:=con1 Unit (λ_=>[]) (λ_=>[]) (λ_=>True) (λ_=> .nm 0 0) (λ_=>[z8 book0])
def aV (p:Prd):MSt:=⟨p,am p.count book0,[]⟩
def newSC:Con where
 ι:=Prd
 pat:=λp=>[prdV p]
 pre:=λ_=>[]
 cnd:=λp=>p.small
 alts:=λp=>[{o:=Unit,res:=λ_=> .tup [.nm 0 0,zA 0],post:=λ_=>[zD (aV p)],rel:=λ_=>p.check=0},{o:=Unit,res:=λ_=> .tup [.d (.v (.pointer be)),zA p.check],post:=λ_=>[],rel:=λ_=>p.check≠0}]
def yYu (p:Prd):List SAnn:=[{ι:=Nat,slots:=λj=>[(5,.nm 0 0),(27,zA j)],rows:=λj=>(ao 5).map (xR ⟨p,am j book0,[]⟩)}]
def clSlotC:Con:=con1 (List Slot) (λ_=>[.own 0]) (λl=>[.own 273 8 (l.map zR)]) (λl=>l.length<=1000000) (λ_=> .own 1) (λl=>[.own 273 8 (l.map zR),.own 273 8 (l.map zR)])
def clQueueC:Con:=con1 (List cJ) (λ_=>[.own 0]) (λl=>[.own 283 4 (l.map zO)]) (λl=>l.length<=1000000) (λ_=> .own 1) (λl=>[.own 283 4 (l.map zO),.own 283 4 (l.map zO)])
def clRungC:Con:=con1 (List xL) (λ_=>[.own 0]) (λl=>[.own 255 2 (l.map zB)]) (λl=>l.length<=1000000) (λ_=> .own 1) (λl=>[.own 255 2 (l.map zB),.own 255 2 (l.map zB)])
def clIntC:Con:=con1 (List Int) (λ_=>[.own 0]) (λl=>[.own 3 1 (iE l)]) (λl=>l.length<=1000000) (λ_=> .own 1) (λl=>[.own 3 1 (iE l),.own 3 1 (iE l)])
def yEt (f:Nat):Con:=con1 (List (cd×List D)) (λ_=>[.mp 0]) (λes=>[.map es]) (λ_=>True) (λ_=> .mp 1) (λes=>[.map es,.map es])
def clAtC:Con:=yEt 0
def clWhC:Con:=yEt 1
@[reducible] def Arena.small (a:Arena):Prop:=a.slots.length<=1000000/\a.queues.length<=1000000
@[reducible] def Book.small (b:Book):Prop:=b.a.small/\b.buys.length<=1000000/\b.sells.length<=1000000/\b.spare.length<=1000000
@[reducible] def MSt.small (s:MSt):Prop:=s.books.length<=1000000/\∀b∈s.books,b.small
def copyAC:Con:=con1 Arena (λ_=>[.nm 0 0]) (λa=>[jU a]) Arena.small (λ_=> .nm 1 0) (λa=>[jU a,jU a])
def copyBC:Con:=con1 Book (λ_=>[.nm 0 0]) (λb=>[z8 b]) Book.small (λ_=> .nm 1 0) (λb=>[z8 b,z8 b])
def yXu:List SAnn:=[{ι:=Unit,slots:=λ_=>[],rows:=λ_=>[],un:=3}]
def copySC:Con:=con1 MSt (λ_=>[.nm 0 0]) (λs=>[zD s]) MSt.small (λ_=> .nm 1 0) (λs=>[zD s,zD s])
def yRw (n:Nat):Prop:=
 cnd (decide ((↑n:Int)<1)) (∃(a:Unit),False) (cnd (decide ((↑n:Int)>4096)) (∃(a:Unit),False) ((0<=(↑n:Int)/\(↑n:Int)<=(↑n:Int)/\(↑n:Int)<=9223372036854775807/\(↑(64:Nat):Int)*(↑n:Int)<=2 ^ (48:Nat))/\∃(a:Unit),dh ((0:Int))/\dh ((↑n:Int))/\aj zR (am n slot0)=am (↑n:Int).toNat [D.v (.bool ax),dI 0,dI 0,dI 0,D.v (.bool ax),dI 0,dI 0,dI 0]/\([]:List (List D))=[]/\True))
def y1c (u:Unit):Prop:=
 ∃(i:Nat),(↑i:Int)=250/\(1<=i/\i<=4096)/\∀(o:Unit),True->∃(o:Unit),dh ((0:Int))/\dh ((0:Int))/\ax=ax/\ax=ax/\aa Arena 3 zG (zPc 250)=aa Arena 3 zG (zPc i)/\([]:List (List D))=[]/\([]:List (List D))=[]/\atE []=[]/\iE []=[]/\True
def zIn (a:Prd) (b:Nat) (c:Unit):Prop:=(∃(d:Unit),dh ((0:Int))/\dh (sb a.code)/\dh a.tick/\dh a.low/\dh a.high/\dh a.wide/\dh a.rule/\dh a.top/\dh a.least/\dh a.part/\ae 197 Book 6 zP (am a.count book0) be=ae 197 Book 6 zP (am b book0) be/\dh (yO [])/\dh (ab 1 (iE a.months))/\dh (ab 1 (iE a.settle))/\a.check=0)\/∃(c:Unit),False
def bX (a:Prd):Prop:=ab 1 (iE a.settle)=ab 1 (iE a.settle)/\dh (ab 1 (iE a.months))
def uQ (a:Prd):=(D.v (bz (sb a.code)))
def zVs (a:Prd):Prop:=True/\True/\(0+(iE a.months).length)*(8:Nat)<=(140737488355328:Nat)/\True/\(0+(iE a.settle).length)*(8:Nat)<=(140737488355328:Nat)/\∃(b:Prd),sb b.code=sb a.code/\iE b.months=[]++iE a.months/\b.tick=a.tick/\b.low=a.low/\b.high=a.high/\b.wide=a.wide/\b.rule=a.rule/\b.top=a.top/\b.least=a.least/\b.part=a.part/\iE b.settle=[]++iE a.settle/\(z5 b)/\∀(c:Unit),True->∃(d:Nat),(↑d:Int)=0/\dh (sb a.code)/\dh a.tick/\dh a.low/\dh a.high/\dh a.wide/\dh a.rule/\dh a.top/\dh a.least/\dh a.part/\am d book0=[]/\(be:Option Nat)=be/\yO []=[]/\ab 1 (iE a.months)=ab 1 ([]++iE a.months)/\ab 1 (iE a.settle)=ab 1 ([]++iE a.settle)/\∃(e:Nat->Prop),∃(f:Nat->Nat),e d/\∀(g:Nat),e g->cnd (decide ((↑g:Int)<(↑b.count:Int))) (∃(h:Unit),True/\∀(j:Unit),True->True/\True/\∃(k:List Book),ae 197 Book 6 zP (am g book0) be=ae 197 Book 6 zP k be/\(k.length+1)*(8:Nat)<=(140737488355328:Nat)/\∃(l:Nat),(↑l:Int)=ar.wrap ((↑g:Int)+1)/\dh (sb a.code)/\dh a.tick/\dh a.low/\dh a.high/\dh a.wide/\dh a.rule/\dh a.top/\dh a.least/\dh a.part/\ae 197 Book 6 zP (am l book0) be=ae 197 Book 6 zP (k++[book0]) be/\dh (yO [])/\dh (ab 1 (iE a.months))/\dh (ab 1 (iE a.settle))/\e l/\f l<f g/\dh (ab 1 ([]++iE a.settle))/\dh (ab 1 ([]++iE a.months))/\dh (ac [V.d (uQ a),V.own 5,V.d (dI a.tick),V.d (dI a.low),V.d (dI a.high),V.d (dI a.wide),V.d (dI a.rule),V.d (dI a.top),V.d (dI a.least),V.d (dI a.part),V.own 6] 25)/\bX a) (zIn a g c)
def yRq (p:Prd):Prop:=
 ∃(a:Prd),sb a.code=sb p.code/\iE a.months=iE p.months/\a.tick=p.tick/\a.low=p.low/\a.high=p.high/\a.wide=p.wide/\a.rule=p.rule/\a.top=p.top/\a.least=p.least/\a.part=p.part/\iE a.settle=iE p.settle/\(z5 a)/\∀(b:Unit),True->cnd (a.check !=0) ((∃(c:Unit),False)\/∃(b:Unit),True/\p.check=a.check/\(p.check=0->False)) ((True/\True/\((0+(iE p.months).length)*(8:Nat)<=(140737488355328:Nat)/\True/\True/\(0+(iE p.settle).length)*(8:Nat)<=(140737488355328:Nat)/\∃(c:Prd),sb c.code=sb p.code/\iE c.months=[]++iE p.months/\c.tick=p.tick/\c.low=p.low/\c.high=p.high/\c.wide=p.wide/\c.rule=p.rule/\c.top=p.top/\c.least=p.least/\c.part=p.part/\iE c.settle=[]++iE p.settle/\(z5 c)/\∀(d:Unit),True->∃(e:Nat),(↑e:Int)=0/\dh (sb p.code)/\dh p.tick/\dh p.low/\dh p.high/\dh p.wide/\dh p.rule/\dh p.top/\dh p.least/\dh p.part/\am e book0=[]/\(be:Option Nat)=be/\yO []=[]/\ab 1 (iE p.months)=ab 1 ([]++iE p.months)/\ab 1 (iE p.settle)=ab 1 ([]++iE p.settle)/\∃(f:Nat->Prop),∃(g:Nat->Nat),f e/\∀(h:Nat),f h->cnd (decide ((↑h:Int)<(↑c.count:Int))) (∃(j:Unit),True/\∀(k:Unit),True->True/\True/\∃(l:List Book),ae 197 Book 6 zP (am h book0) be=ae 197 Book 6 zP l be/\(l.length+1)*(8:Nat)<=(140737488355328:Nat)/\∃(m:Nat),(↑m:Int)=ar.wrap ((↑h:Int)+1)/\dh (sb p.code)/\dh p.tick/\dh p.low/\dh p.high/\dh p.wide/\dh p.rule/\dh p.top/\dh p.least/\dh p.part/\ae 197 Book 6 zP (am m book0) be=ae 197 Book 6 zP (l++[book0]) be/\dh (yO [])/\dh (ab 1 (iE p.months))/\dh (ab 1 (iE p.settle))/\f m/\g m<g h/\dh (ab 1 ([]++iE p.settle))/\dh (ab 1 ([]++iE p.months))/\dh (ac [V.d (uQ p),V.own 4,V.d (dI p.tick),V.d (dI p.low),V.d (dI p.high),V.d (dI p.wide),V.d (dI p.rule),V.d (dI p.top),V.d (dI p.least),V.d (dI p.part),V.own 6] 25)/\bX p) (zIn p h d))/\zVs p)/\True/\True/\zVs p)
def yLh (l:List Slot):Prop:=
 ∀(b:Bool),(b=ay->aj zR l=[])->cnd b (∃(o:Unit),dh (aj zR l)/\aj zR l=[]/\True) ((0+(aj zR l).length)*(64:Nat)<=(140737488355328:Nat)/\∃(o:Unit),dh (aj zR l)/\aj zR l=[]++aj zR l/\True)
def yHv (l:List cJ):Prop:=
 ∀(b:Bool),(b=ay->aj zO l=[])->cnd b (∃(o:Unit),dh (aj zO l)/\aj zO l=[]/\True) ((0+(aj zO l).length)*(32:Nat)<=(140737488355328:Nat)/\∃(o:Unit),dh (aj zO l)/\aj zO l=[]++aj zO l/\True)
def yMs (l:List xL):Prop:=
 ∀(b:Bool),(b=ay->aj zB l=[])->cnd b (∃(o:Unit),dh (aj zB l)/\aj zB l=[]/\True) ((0+(aj zB l).length)*(16:Nat)<=(140737488355328:Nat)/\∃(o:Unit),dh (aj zB l)/\aj zB l=[]++aj zB l/\True)
def yWi (l:List Int):Prop:=
 ∀(b:Bool),(b=ay->iE l=[])->cnd b (∃(o:Unit),iE l=iE l/\iE l=[]/\True) ((0+(iE l).length)*(8:Nat)<=(140737488355328:Nat)/\∃(o:Unit),iE l=iE l/\iE l=[]++iE l/\True)
def yDy (es:List (cd×List D)):Prop:=
 ∃(a:List (cd×List D)),a=es/\True/\∀(b:Unit),True->∃(c:Unit),es=a/\es=a/\True
def yTh (es:List (cd×List D)):yDy es=walk Tryz.prog ([(146,bH 243)]) 0 ([]) ([]) [] Tryz.f160 (Tryz.f160.body.getD .skip) (clAtC.pat es) (clAtC.pre es) (clAtC.alts es):=by kernel_rfl
def ySl (hG:GOk Tryz.prog ([(146,bH 243)])) (h:∀(es:List (cd×List D)),clAtC.cnd es->yDy es):clAtC.ok Tryz.prog 160:=gG mixed ([(146,bH 243)]) hG 0 (λ(es:List (cd×List D))=>[]) (λ(es:List (cd×List D))=>[]) [] Tryz.func160 (by kernel_rfl) (by kernel_rfl) (by kernel_rfl) (λ_=>by kernel_rfl) (λ(es:List (cd×List D)) hc=>Eq.mp (yTh es) (h es hc))
def yIr (es:List (cd×List D)):Prop:=
 ∃(a:List (cd×List D)),a=es/\True/\∀(b:Unit),True->∃(c:Unit),es=a/\es=a/\True
def yWe (es:List (cd×List D)):yIr es=walk Tryz.prog ([(146,bH 109)]) 0 ([]) ([]) [] Tryz.f109 (Tryz.f109.body.getD .skip) (clWhC.pat es) (clWhC.pre es) (clWhC.alts es):=by kernel_rfl
def yWc (hG:GOk Tryz.prog ([(146,bH 109)])) (h:∀(es:List (cd×List D)),clWhC.cnd es->yIr es):clWhC.ok Tryz.prog 109:=gG mixed ([(146,bH 109)]) hG 0 (λ(es:List (cd×List D))=>[]) (λ(es:List (cd×List D))=>[]) [] Tryz.func109 (by kernel_rfl) (by kernel_rfl) (by kernel_rfl) (λ_=>by kernel_rfl) (λ(es:List (cd×List D)) hc=>Eq.mp (yWe es) (h es hc))
def yUm (a:Arena):Prop:=
 ∃(i:List Slot),aj zR i=aj zR a.slots/\i.length<=1000000/\∀(o:Unit),True->dh a.free/\True/\∃(i_1:List cJ),aj zO i_1=aj zO a.queues/\i_1.length<=1000000/\∀(o:Unit),True->dh a.free/\∃(o:Unit),dh a.free/\aj zR a.slots=aj zR i/\aj zO a.queues=aj zO i_1/\dh a.free/\aj zR a.slots=aj zR i/\aj zO a.queues=aj zO i_1/\True
def yVv (b:Book):Prop:=
 ∃(i:Arena),aa Arena 3 zG i=aa Arena 3 zG b.a/\(i.slots.length<=1000000/\i.queues.length<=1000000)/\∀(o:Unit),True->True/\True/\∃(i_1:List (cd×List D)),i_1=atE b.at_/\True/\∀(o:Unit),True->True/\∃(i_2:List Int),iE i_2=iE b.spare/\i_2.length<=1000000/\∀(o:Unit),True->∃(i_3:List xL),aj zB i_3=aj zB b.buys/\i_3.length<=1000000/\∀(o:Unit),True->∃(i_4:List xL),aj zB i_4=aj zB b.sells/\i_4.length<=1000000/\∀(o:Unit),True->∃(o:Unit),dh b.top1/\dh b.top2/\dh b.has1/\dh b.has2/\aa Arena 3 zG b.a=aa Arena 3 zG i/\aj zB b.buys=aj zB i_3/\aj zB b.sells=aj zB i_4/\atE b.at_=i_1/\iE b.spare=iE i_2/\dh b.top1/\dh b.top2/\dh b.has1/\dh b.has2/\aa Arena 3 zG b.a=aa Arena 3 zG i/\aj zB b.buys=aj zB i_3/\aj zB b.sells=aj zB i_4/\atE b.at_=i_1/\iE b.spare=iE i_2/\True
def y1e (n:Nat) (h:newAC.cnd n):yRw n:=by
 obtain⟨h1,h2⟩:1<=n/\n<=4096:=h;unfold yRw dI;refine zI (λc=>by omega) λc=>zI (λc=>by omega) λc=> ?_
 refine⟨⟨by omega,by omega,by omega,?_⟩,?_⟩
 ·have:(2:Int) ^ (48:Nat)=281474976710656:=by decide
  rw[this];omega
 ·refine⟨(),rfl,rfl,?_,rfl,trivial⟩;rw[List.map_replicate];rfl
def yNo:newAC.ok Tryz.prog 188:=okw mixed gok0 0 (λ_=>[]) (λ_=>[]) [] Tryz.func188 y1e
def yMb:newBC.ok Tryz.prog 172:=okw (V:=y1c) mixed (gokc yNo gok0) 0 (λ_=>[]) (λ_=>[]) [] Tryz.func172 λ(u:Unit) _=>by
 refine⟨250,rfl,⟨by omega,by omega⟩,?_⟩;exact kpp
def yYf (p:Prd) (h:newSC.cnd p):yRq p:=by
 unfold yRq zVs uQ bX zIn z5 dI;have hs:p.small:=h;obtain⟨h1,h2,h3⟩:p.small:=h;refine⟨p,?_⟩;simp only[yZ]
 (repeat'(first|exact rfl|exact trivial|assumption|apply az|refineλ(_:Unit) (_:True)=>?_|refine ba () ?_|omega|(dsimp only;omega)))
 refine Cv.cnd.mk (λc=> .inr ⟨(),trivial,kpp,by simpa using c⟩) λc=> ?_
 have c:p.check=0:=by simpa using c
 have hc:=xK p
 (repeat'(first|exact rfl|exact trivial|assumption|apply az|refineλ(_:Unit) (_:True)=>?_|refine ba () ?_|omega|(dsimp only;omega)))
 all_goals(refine⟨p,?_⟩;(repeat'(first|exact rfl|exact trivial|assumption|apply az|refineλ(_:Unit) (_:True)=>?_|refine ba () ?_|omega|(dsimp only;omega))))
 all_goals(refine⟨0,?_⟩;(repeat'(first|exact rfl|exact trivial|assumption|apply az|refineλ(_:Unit) (_:True)=>?_|refine ba () ?_|omega|(dsimp only;omega))))
 all_goals(refine⟨λj=>j<=p.count,λj=>p.count-j,by omega,λj hj=>zI (λhlt=> ?_) (λhlt=> ?_)⟩;all_goals dsimp only at hj hlt)
 all_goals first
  |(refine .inl ⟨(),?_⟩
    obtain rfl:j=p.count:=by omega
    (repeat'(first|exact rfl|exact trivial|assumption|apply az|refineλ(_:Unit) (_:True)=>?_|refine ba () ?_|omega|(dsimp only;omega))))
  |(refine⟨(),trivial,λ_ _=>⟨trivial,trivial,am j book0,rfl,?_,j+1,?_⟩⟩
    ·rw[y8g];omega
    ·rw[w64 (by omega),<- List.replicate_succ']
     (repeat'(first|exact rfl|exact trivial|assumption|apply az|refineλ(_:Unit) (_:True)=>?_|refine ba () ?_|omega|(dsimp only;omega))))
def yLs:newSC.ok Tryz.prog 144:=okw mixed (gokc eF (gokc bV (gokc yMb gok0))) 0 (λ_=>[]) (λp=>yYu p) [] Tryz.func144 yYf
def yAs:clSlotC.ok Tryz.prog 179:=okw (V:=yLh) mixed gok0 0 (λ_=>[]) (λ_=>[]) [] Tryz.func179 λ(l:List Slot) h=>by
 have h:l.length<=1000000:=h;exactλb hb=>Cv.cnd.mk (λe=>⟨(),rfl,hb e,trivial⟩) (λ_=>⟨by rw[y6c,y5c];omega,(),rfl,rfl,trivial⟩)
def z4o:clQueueC.ok Tryz.prog 180:=okw (V:=yHv) mixed gok0 0 (λ_=>[]) (λ_=>[]) [] Tryz.func180 λ(l:List cJ) h=>by
 have h:l.length<=1000000:=h;exactλb hb=>Cv.cnd.mk (λe=>⟨(),rfl,hb e,trivial⟩) (λ_=>⟨by rw[y6c,y5c];omega,(),rfl,rfl,trivial⟩)
def yAe:clRungC.ok Tryz.prog 161:=okw (V:=yMs) mixed gok0 0 (λ_=>[]) (λ_=>[]) [] Tryz.func161 λ(l:List xL) h=>by
 have h:l.length<=1000000:=h;exactλb hb=>Cv.cnd.mk (λe=>⟨(),rfl,hb e,trivial⟩) (λ_=>⟨by rw[y6c,y5c];omega,(),rfl,rfl,trivial⟩)
def yIg:clIntC.ok Tryz.prog 49:=okw (V:=yWi) mixed gok0 0 (λ_=>[]) (λ_=>[]) [] Tryz.func49 λ(l:List Int) h=>by
 have h:l.length<=1000000:=h;exactλb hb=>Cv.cnd.mk (λe=>⟨(),rfl,hb e,trivial⟩) (λ_=>⟨by rw[y6c,yZ];omega,(),rfl,rfl,trivial⟩)
def zTb (t:Nat):(bH t).ok Tryz.prog 146:=z3d Tryz.func146 (by kernel_rfl) (by kernel_rfl) (by kernel_rfl) (by kernel_rfl) t
def yOf:clAtC.ok Tryz.prog 160:=ySl (gokc (zTb _) gok0) λes _=>by
 unfold yDy;refine⟨es,?_⟩;exact kpp
def yPd:clWhC.ok Tryz.prog 109:=yWc (gokc (zTb _) gok0) λes _=>by
 unfold yIr;refine⟨es,?_⟩;exact kpp
def yId:copyAC.ok Tryz.prog 159:=okw (V:=yUm) mixed (gokc yAs (gokc z4o gok0)) 0 (λ_=>[]) (λ_=>[]) [0] Tryz.func159 λ(a:Arena) h=>by
 obtain⟨h1,h2⟩:a.small:=h;refine⟨a.slots,?_⟩;(repeat'(first|exact rfl|exact trivial|assumption|apply az|refineλ(_:Unit) (_:True)=>?_|refine ba () ?_|omega|(dsimp only;omega)));refine⟨a.queues,?_⟩;exact kpp
def yIs:copyBC.ok Tryz.prog 131:=okw (V:=yVv) mixed (gokc yId (gokc yOf (gokc yIg (gokc yAe gok0)))) 0 (λ_=>[]) (λ_=>yXu) [0] Tryz.func131 λ(b:Book) h=>by
 obtain⟨⟨h1,h1'⟩,h2,h3,h4⟩:b.small:=h;refine⟨b.a,?_⟩;(repeat'(first|exact rfl|exact trivial|assumption|apply az|refineλ(_:Unit) (_:True)=>?_|refine ba () ?_|omega|(dsimp only;omega)));refine⟨atE b.at_,?_⟩;(repeat'(first|exact rfl|exact trivial|assumption|apply az|refineλ(_:Unit) (_:True)=>?_|refine ba () ?_|omega|(dsimp only;omega)));refine⟨b.spare,?_⟩;(repeat'(first|exact rfl|exact trivial|assumption|apply az|refineλ(_:Unit) (_:True)=>?_|refine ba () ?_|omega|(dsimp only;omega)));refine⟨b.buys,?_⟩;(repeat'(first|exact rfl|exact trivial|assumption|apply az|refineλ(_:Unit) (_:True)=>?_|refine ba () ?_|omega|(dsimp only;omega)));refine⟨b.sells,?_⟩;exact kpp
structure ArN where
 a:Arena
 n:Int
def Arena.qAt (a:Arena) (n:Int):cJ:=if 0<=n/\n<a.queues.length then a.queues.getD n.toNat ⟨0,0,0,0⟩else⟨0,0,0,0⟩
def atotalC:Con:=con1 ArN (λi=>[.nm 0 0,zA i.n]) (λi=>[jU i.a]) (λi=>True) (λi=>zA (i.a.qAt i.n).total) (λi=>[jU i.a])
def acountC:Con:=con1 ArN (λi=>[.nm 0 0,zA i.n]) (λi=>[jU i.a]) (λi=>True) (λi=>zA (i.a.qAt i.n).count) (λi=>[jU i.a])
def bisC:Con:=con1 Int (λn=>[zA n]) (λ_=>[]) (λ_=>True) (λn=>yP (decide (n=1)||decide (n=2))) (λ_=>[])
structure BkR where
 b:Book
 r:xL
def Book.told (b:Book) (r:xL):Lv:=⟨r.price,(b.a.qAt r.queue).total,(b.a.qAt r.queue).count⟩
@[reducible] def Book.cntOk (b:Book):Prop:=∀q∈b.a.queues,i64r q.count
def toldC:Con:=con1 BkR (λi=>[.nm 0 0,.agg [zA i.r.price,zA i.r.queue]]) (λi=>[z8 i.b]) (λi=>i.b.cntOk) (λi=>lvV (i.b.told i.r)) (λi=>[z8 i.b])
def Book.best (b:Book) (l:List xL):Lv×Bool:=match l with
 |[]=>(⟨0,0,0⟩,ax)
 |r::_=>(b.told r,ay)
structure BkS where
 side:Bool
 b:Book
def Book.side (b:Book) (s:Bool):List xL:=if s then b.sells else b.buys
@[reducible] def z1v (b:Book) (l:List xL):V:= .tup [lvV (b.best l).1,yP (b.best l).2]
def best1C:Con:=con1 Book (λ_=>[.nm 0 0,zA 1]) (λb=>[z8 b]) Book.cntOk (λb=>z1v b b.buys) (λb=>[z8 b])
def best2C:Con:=con1 Book (λ_=>[.nm 0 0,zA 2]) (λb=>[z8 b]) Book.cntOk (λb=>z1v b b.sells) (λb=>[z8 b])
def zC (s:Bool):Int:=if s then 2 else 1
def bestC:Con:=con1 BkS (λi=>[.nm 0 0,zA (zC i.side)]) (λi=>[z8 i.b]) (λi=>i.b.cntOk) (λi=>z1v i.b (i.b.side i.side)) (λi=>[z8 i.b])
structure Top where
 has1:Bool
 has2:Bool
 p1:Int
 p2:Int
 q1:Int
 q2:Int
 deriving DecidableEq
def z6 (t:Top):List D:=[.v (.bool t.has1),.v (.bool t.has2),.v (.int .i64 t.p1),.v (.int .i64 t.p2),.v (.int .i64 t.q1),.v (.int .i64 t.q2)]
def top0:Top:=⟨ax,ax,0,0,0,0⟩
def Top.buy (t:Top) (x:Lv×Bool):Top:=if x.2 then{t with has1:=ay,p1:=x.1.price,q1:=x.1.qty}else t
def Top.sell (t:Top) (x:Lv×Bool):Top:=if x.2 then{t with has2:=ay,p2:=x.1.price,q2:=x.1.qty}else t
def Book.top (b:Book):Top:=(top0.buy (b.best b.buys)).sell (b.best b.sells)
def MSt.tops (s:MSt):List Top:=s.books.map Book.top
@[reducible] def MSt.cntOk (s:MSt):Prop:=s.books.length<=1000000/\∀b∈s.books,b.cntOk
def topsC:Con:=con1 MSt (λ_=>[.nm 0 0]) (λs=>[zD s]) MSt.cntOk (λs=> .own 1) (λs=>[zD s,.own 166 6 (s.tops.map z6)])
def xS (s:MSt) (j:Nat) (x:Top):List Top:=(s.tops.take j)++x::am (s.books.length-j-1) top0
def x7 (s:MSt) (j:Nat):List Top:=(s.tops.take j)++am (s.books.length-j) top0
def yRa (s:MSt):List SAnn:=[
 {ι:=Nat,slots:=λj=>[(3,.own 0),(21,zA j)],rows:=λj=>[.own 166 6 ((x7 s j).map z6)]},
 {ι:=Unit,slots:=λ_=>[],rows:=λ_=>[],un:=3}]
def ySc (s:MSt):List (Nat×SAnn):=[(15,{ι:=Nat×Top,slots:=λx=>[(3,.own 0)],slots0:=λx=>[(3,.own 0)],rows0:=λx=>[.own 166 6 ((xS s x.1 x.2).map z6)],rows:=λx=>[.own 166 6 ((xS s x.1 x.2).map z6)]})]
def yWs (s:MSt):List SAnn:=[{ι:=Nat,slots:=λj=>[(3,.nm 0 0),(22,zA j)],rows:=λj=>(ao 5).map (xR ⟨s.p,s.books.take j,s.wh⟩)}]
def jR (a:ArN):Prop:=a.a.free=a.a.free/\dh (aj zR a.a.slots)/\dh (aj zO a.a.queues)/\True
def eA (a:ArN):Prop:=∃(b:Unit),(a.a.qAt a.n).total=0/\jR a
def gZ (a:ArN):=(↑(aj zO a.a.queues).length:Int)
def z7p (i:ArN):Prop:=
 cnd (decide (i.n>=0)) (cnd (!decide (i.n<(gZ i))) (eA i) ((0<=i.n/\i.n<(gZ i))/\∃(a:Int),zE (aj zO i.a.queues) i.n.toNat 2 1=bc [dI a]/\∃(b:Unit),(i.a.qAt i.n).total=a/\jR i)) (eA i)
def eY (a:ArN):Prop:=∃(b:Unit),(a.a.qAt a.n).count=0/\jR a
def z8n (i:ArN):Prop:=
 cnd (decide (i.n>=0)) (cnd (!decide (i.n<(gZ i))) (eY i) ((0<=i.n/\i.n<(gZ i))/\∃(a:Int),zE (aj zO i.a.queues) i.n.toNat 3 1=bc [dI a]/\∃(b:Unit),(i.a.qAt i.n).count=a/\jR i)) (eY i)
def y2e (n:Int):Prop:=
 cnd (n==1) (∃(a:Unit),(decide (n=1)||decide (n=2))=ay/\True) (∃(a:Unit),(decide (n=1)||decide (n=2))=(n==2)/\True)
def yYt (i:BkR):Prop:=
 ∃(i_1:ArN),i_1.n=i.r.queue/\aa Arena 3 zG i_1.a=aa Arena 3 zG i.b.a/\True/\∀(o:Unit),True->dh i.r.queue/\True/\dh i.r.price/\∃(i_2:ArN),i_2.n=i.r.queue/\aa Arena 3 zG i_2.a=aa Arena 3 zG i_1.a/\True/\∀(o:Unit),True->dh i.r.price/\∃(o:Unit),dh i.r.price/\(i.b.a.qAt i.r.queue).total=(i_1.a.qAt i_1.n).total/\(i.b.a.qAt i.r.queue).count=(i_2.a.qAt i_2.n).count/\dh i.b.top1/\dh i.b.top2/\dh i.b.has1/\dh i.b.has2/\aa Arena 3 zG i.b.a=aa Arena 3 zG i_2.a/\dh (aj zB i.b.buys)/\dh (aj zB i.b.sells)/\dh (atE i.b.at_)/\dh (iE i.b.spare)/\True
def yUi (b:Book):Prop:=
 ∃(i:Int),i=1/\True/\∀(o:Unit),True->cnd (!(decide (i=1)||decide (i=2))) (∃(o:Unit),(b.best b.buys).fst.price=0/\(b.best b.buys).fst.qty=0/\(b.best b.buys).fst.count=0/\(b.best b.buys).snd=ax/\dh b.top1/\dh b.top2/\dh b.has1/\dh b.has2/\dh (aa Arena 3 zG b.a)/\dh (aj zB b.buys)/\dh (aj zB b.sells)/\dh (atE b.at_)/\dh (iE b.spare)/\True) (cnd ((↑(aj zB b.buys).length:Int)==0) (∃(o:Unit),(b.best b.buys).fst.price=0/\(b.best b.buys).fst.qty=0/\(b.best b.buys).fst.count=0/\(b.best b.buys).snd=ax/\dh b.top1/\dh b.top2/\dh b.has1/\dh b.has2/\dh (aa Arena 3 zG b.a)/\dh (aj zB b.buys)/\dh (aj zB b.sells)/\dh (atE b.at_)/\dh (iE b.spare)/\True) (((0:Int)<=(0:Int)/\0<(↑(aj zB b.buys).length:Int))/\∃(n:Int),∃(n_1:Int),zE (aj zB b.buys) (bo 0) 0 2=bc [D.v (.int .i64 n),D.v (.int .i64 n_1)]/\∃(i:BkR),i.r.price=n/\i.r.queue=n_1/\i.b.top1=b.top1/\i.b.top2=b.top2/\i.b.has1=b.has1/\i.b.has2=b.has2/\aa Arena 3 zG i.b.a=aa Arena 3 zG b.a/\aj zB i.b.buys=aj zB b.buys/\aj zB i.b.sells=aj zB b.sells/\atE i.b.at_=atE b.at_/\iE i.b.spare=iE b.spare/\(∀(q:cJ),q∈i.b.a.queues->(-9223372036854775808)<=q.count/\q.count<=9223372036854775807)/\∀(o:Unit),True->∃(o:Unit),(b.best b.buys).fst.price=i.r.price/\(b.best b.buys).fst.qty=(i.b.a.qAt i.r.queue).total/\(b.best b.buys).fst.count=(i.b.a.qAt i.r.queue).count/\(b.best b.buys).snd=ay/\z8 b=z8 i.b/\True))
def yXp (b:Book):Prop:=
 ∃(i:Int),i=2/\True/\∀(o:Unit),True->cnd (!(decide (i=1)||decide (i=2))) (∃(o:Unit),(b.best b.sells).fst.price=0/\(b.best b.sells).fst.qty=0/\(b.best b.sells).fst.count=0/\(b.best b.sells).snd=ax/\dh b.top1/\dh b.top2/\dh b.has1/\dh b.has2/\dh (aa Arena 3 zG b.a)/\dh (aj zB b.buys)/\dh (aj zB b.sells)/\dh (atE b.at_)/\dh (iE b.spare)/\True) (cnd ((↑(aj zB b.sells).length:Int)==0) (∃(o:Unit),(b.best b.sells).fst.price=0/\(b.best b.sells).fst.qty=0/\(b.best b.sells).fst.count=0/\(b.best b.sells).snd=ax/\dh b.top1/\dh b.top2/\dh b.has1/\dh b.has2/\dh (aa Arena 3 zG b.a)/\dh (aj zB b.buys)/\dh (aj zB b.sells)/\dh (atE b.at_)/\dh (iE b.spare)/\True) (((0:Int)<=(0:Int)/\0<(↑(aj zB b.sells).length:Int))/\∃(n:Int),∃(n_1:Int),zE (aj zB b.sells) (bo 0) 0 2=bc [D.v (.int .i64 n),D.v (.int .i64 n_1)]/\∃(i:BkR),i.r.price=n/\i.r.queue=n_1/\i.b.top1=b.top1/\i.b.top2=b.top2/\i.b.has1=b.has1/\i.b.has2=b.has2/\aa Arena 3 zG i.b.a=aa Arena 3 zG b.a/\aj zB i.b.buys=aj zB b.buys/\aj zB i.b.sells=aj zB b.sells/\atE i.b.at_=atE b.at_/\iE i.b.spare=iE b.spare/\(∀(q:cJ),q∈i.b.a.queues->(-9223372036854775808)<=q.count/\q.count<=9223372036854775807)/\∀(o:Unit),True->∃(o:Unit),(b.best b.sells).fst.price=i.r.price/\(b.best b.sells).fst.qty=(i.b.a.qAt i.r.queue).total/\(b.best b.sells).fst.count=(i.b.a.qAt i.r.queue).count/\(b.best b.sells).snd=ay/\z8 b=z8 i.b/\True))
def zIv (a:MSt):Prop:=af (yO a.wh)=af (yO a.wh)/\dh (ab 1 (iE a.p.months))/\dh (ab 1 (iE a.p.settle))
def fF (a:MSt):=(D.v (bz (sb a.p.code)))
def zDt (a:Nat×Top->Prop) (b:Nat×Top) (c:MSt) (d:Nat) (e:Book):Prop:=a b/\dh (ag 3 1 [[dI 1],[dI 2]])/\dh (ac [V.d (fF c),V.own 3,V.d (dI c.p.tick),V.d (dI c.p.low),V.d (dI c.p.high),V.d (dI c.p.wide),V.d (dI c.p.rule),V.d (dI c.p.top),V.d (dI c.p.least),V.d (dI c.p.part),V.own 4,V.own 1,V.mp 2] (195:ce))/\ae 197 Book 6 zP (c.books.set (↑d:Int).toNat e) be=ae 197 Book 6 zP c.books be/\zIv c
def zPb (a:MSt) (b:Nat×Top) (c:Nat×Top->Prop) (d:Nat) (e:Book):Prop:=∃(f:Nat×Top),aj z6 (xS a f.fst f.snd)=aj z6 (xS a b.fst b.snd)/\zDt c f a d e
def uJ (a:MSt) (b:Nat×Top):=(aj z6 (xS a b.fst b.snd))
def bR (a:MSt) (b:Nat×Top) (c:Nat):=(zX (uJ a b) (↑c:Int).toNat 1 [D.v (.bool ay)])
def zY (a:BkS):=(a.b.best (a.b.side a.side))
def dN (a:BkS):=((zY a).fst.price)
def dX (a:MSt) (b:Nat×Top) (c:Nat) (d:BkS):=(zX (bR a b c) (↑c:Int).toNat 3 [dI (dN d)])
def zAp (a:Nat) (b:MSt) (c:Nat×Top) (d:BkS):Prop:=(0<=(↑a:Int)/\(↑a:Int)<(↑(dX b c a d).length:Int))/\dh ((↑a:Int).toNat)
def b7 (a:MSt) (b:Nat×Top) (c:Nat):=(zX (uJ a b) (↑c:Int).toNat 0 [D.v (.bool ay)])
def cB (a:MSt) (b:Nat×Top) (c:Nat) (d:BkS):=(zX (b7 a b c) (↑c:Int).toNat 2 [dI (dN d)])
def zAo (a:Nat) (b:MSt) (c:Nat×Top) (d:BkS):Prop:=(0<=(↑a:Int)/\(↑a:Int)<(↑(cB b c a d).length:Int))/\dh ((↑a:Int).toNat)
def zAw (a:MSt):Prop:=0<=(↑a.books.length:Int)/\(↑a.books.length:Int)<=(↑a.books.length:Int)/\(↑a.books.length:Int)<=9223372036854775807/\(↑(40:Nat):Int)*(↑a.books.length:Int)<=2 ^ (48:Nat)
def bQ (a:Nat) (b:MSt) (c:Nat×Top):Prop:=(0<=(↑a:Int)/\(↑a:Int)<(↑(bR b c a).length:Int))/\dh ((↑a:Int).toNat)
def bP (a:Nat) (b:MSt) (c:Nat×Top):Prop:=(0<=(↑a:Int)/\(↑a:Int)<(↑(b7 b c a).length:Int))/\dh ((↑a:Int).toNat)
def fE:Prop:=0<=ar.wrap ((0:Int)+(1:Int))/\ar.wrap ((0:Int)+(1:Int))<(↑(2:Nat):Int)
def vA (a:BkS):Prop:=∀(b:cJ),b∈a.b.a.queues->(-9223372036854775808)<=b.count/\b.count<=9223372036854775807
def qP (a:Nat) (b:MSt) (c:Nat×Top):Prop:=0<=(↑a:Int)/\(↑a:Int)<(↑(uJ b c).length:Int)
def v8 (a:BkS):=((zY a).fst.qty)
def yQv (s:MSt):Prop:=
 (zAw s)/\∃(a:Nat),(↑a:Int)=0/\aj z6 (x7 s a)=am (↑s.books.length:Int).toNat [D.v (.bool ax),D.v (.bool ax),dI 0,dI 0,dI 0,dI 0]/\∃(b:Nat->Prop),∃(c:Nat->Nat),b a/\∀(d:Nat),b d->cnd (decide ((↑d:Int)<(↑s.books.length:Int))) ((0<=(↑d:Int)/\(↑d:Int)<(↑s.books.length:Int))/\(↑d:Int).toNat<s.books.length/\∃(e:Nat×Top),aj z6 (xS s e.fst e.snd)=aj z6 (x7 s d)/\∃(f:Nat×Top->Prop),(((0:Int)<=(0:Int)/\0<(↑(2:Nat):Int))/\∃(g:Int),zE [[dI 1],[dI 2]] (bo 0) 0 1=bc [dI g]/\∃(h:Book),s.books[(↑d:Int).toNat]?=bc h/\∃(j:BkS),zC j.side=g/\z8 j.b=z8 h/\(vA j)/\∀(k:Unit),True->∃(l:Book),z8 j.b=z8 l/\dh ((↑d:Int).toNat)/\(↑d:Int).toNat<s.books.length/\cnd (zY j).snd ((qP d s e)/\(qP d s e)/\(qP d s e)/\(↑d:Int).toNat<(uJ s e).length/\(bP d s e)/\(bP d s e)/\dh ((zY j).fst.qty)/\dh ((zY j).fst.price)/\(↑d:Int).toNat<(b7 s e d).length/\(zAo d s e j)/\dh ((zY j).fst.qty)/\(↑d:Int).toNat<(cB s e d j).length/\∃(m:Nat×Top),aj z6 (xS s m.fst m.snd)=zX (cB s e d j) (↑d:Int).toNat 4 [dI (v8 j)]/\zDt f m s d l) (zPb s e f d l))/\∀(g:Nat×Top),f g->∃(h:Nat×Top),aj z6 (xS s h.fst h.snd)=aj z6 (xS s g.fst g.snd)/\∃(j:Nat×Top->Prop),((fE)/\∃(k:Int),zE [[dI 1],[dI 2]] (ar.wrap ((0:Int)+(1:Int))).toNat 0 1=bc [dI k]/\∃(l:Book),s.books[(↑d:Int).toNat]?=bc l/\∃(m:BkS),zC m.side=k/\z8 m.b=z8 l/\(vA m)/\∀(n:Unit),True->∃(p:Book),z8 m.b=z8 p/\dh ((↑d:Int).toNat)/\(↑d:Int).toNat<s.books.length/\cnd (zY m).snd ((qP d s h)/\(qP d s h)/\(qP d s h)/\(↑d:Int).toNat<(uJ s h).length/\(bQ d s h)/\(bQ d s h)/\dh ((zY m).fst.qty)/\dh ((zY m).fst.price)/\(↑d:Int).toNat<(bR s h d).length/\(zAp d s h m)/\dh ((zY m).fst.qty)/\(↑d:Int).toNat<(dX s h d m).length/\∃(q:Nat×Top),aj z6 (xS s q.fst q.snd)=zX (dX s h d m) (↑d:Int).toNat 5 [dI (v8 m)]/\zDt j q s d p) (zPb s h j d p))/\∀(k:Nat×Top),j k->∃(l:Nat),(↑l:Int)=ar.wrap ((↑d:Int)+1)/\aj z6 (x7 s l)=aj z6 (xS s k.fst k.snd)/\b l/\c l<c d/\dh (ac [V.d (fF s),V.own 3,V.d (dI s.p.tick),V.d (dI s.p.low),V.d (dI s.p.high),V.d (dI s.p.wide),V.d (dI s.p.rule),V.d (dI s.p.top),V.d (dI s.p.least),V.d (dI s.p.part),V.own 4,V.own 1,V.mp 2] (195:ce))/\dh (ae 197 Book 6 zP s.books be)/\zIv s) (∃(e:Unit),dh (sb s.p.code)/\dh s.p.tick/\dh s.p.low/\dh s.p.high/\dh s.p.wide/\dh s.p.rule/\dh s.p.top/\dh s.p.least/\dh s.p.part/\dh (ae 197 Book 6 zP s.books be)/\dh (yO s.wh)/\dh (ab 1 (iE s.p.months))/\dh (ab 1 (iE s.p.settle))/\aj z6 s.tops=aj z6 (x7 s d)/\True)
def ySm (s:MSt):Prop:=
 ∃(i:List (cd×List D)),i=yO s.wh/\True/\∀(o:Unit),True->(dh (sb s.p.code)/\True/\dh s.p.tick/\dh s.p.low/\dh s.p.high/\dh s.p.wide/\dh s.p.rule/\dh s.p.top/\dh s.p.least/\dh s.p.part/\True/\True)/\∃(i0:Nat),(↑i0:Int)=0/\dh (sb s.p.code)/\dh s.p.tick/\dh s.p.low/\dh s.p.high/\dh s.p.wide/\dh s.p.rule/\dh s.p.top/\dh s.p.least/\dh s.p.part/\ak i0 s.books=[]/\(be:Option Nat)=be/\yO s.wh=i/\dh (ab 1 (iE s.p.months))/\dh (ab 1 (iE s.p.settle))/\∃(I:Nat->Prop),∃(μ:Nat->Nat),I i0/\∀(i_1:Nat),I i_1->cnd (decide ((↑i_1:Int)<(↑s.books.length:Int))) ((0<=(↑i_1:Int)/\(↑i_1:Int)<(↑s.books.length:Int))/\(↑i_1:Int).toNat<s.books.length/\∃(x:Book),s.books[(↑i_1:Int).toNat]?=bc x/\∃(i_2:Book),z8 i_2=z8 x/\((i_2.a.slots.length<=1000000/\i_2.a.queues.length<=1000000)/\i_2.buys.length<=1000000/\i_2.sells.length<=1000000/\i_2.spare.length<=1000000)/\∀(o:Unit),True->∃(x:Book),z8 i_2=z8 x/\dh ((↑i_1:Int).toNat)/\(↑i_1:Int).toNat<s.books.length/\True/\True/\∃(l1':List Book),ae 197 Book 6 zP (ak i_1 s.books) be=ae 197 Book 6 zP l1' be/\(l1'.length+1)*(8:Nat)<=(140737488355328:Nat)/\∃(i':Nat),(↑i':Int)=ar.wrap ((↑i_1:Int)+1)/\dh (sb s.p.code)/\dh s.p.tick/\dh s.p.low/\dh s.p.high/\dh s.p.wide/\dh s.p.rule/\dh s.p.top/\dh s.p.least/\dh s.p.part/\ae 197 Book 6 zP (ak i' s.books) be=ae 197 Book 6 zP (l1'++[i_2]) be/\dh (yO s.wh)/\dh (ab 1 (iE s.p.months))/\dh (ab 1 (iE s.p.settle))/\I i'/\μ i'<μ i_1/\af i=af i/\dh (ac [V.d (D.v (bz (sb s.p.code))),V.own 3,V.d (D.v (.int .i64 s.p.tick)),V.d (D.v (.int .i64 s.p.low)),V.d (D.v (.int .i64 s.p.high)),V.d (D.v (.int .i64 s.p.wide)),V.d (D.v (.int .i64 s.p.rule)),V.d (D.v (.int .i64 s.p.top)),V.d (D.v (.int .i64 s.p.least)),V.d (D.v (.int .i64 s.p.part)),V.own 4,V.own 1,V.mp 2] (195:ce))/\ae 197 Book 6 zP (s.books.set (↑i_1:Int).toNat x) be=ae 197 Book 6 zP s.books be/\dh (ab 1 (iE s.p.months))/\dh (ab 1 (iE s.p.settle))) (∃(o:Unit),dh (sb s.p.code)/\dh s.p.tick/\dh s.p.low/\dh s.p.high/\dh s.p.wide/\dh s.p.rule/\dh s.p.top/\dh s.p.least/\dh s.p.part/\dh (ae 197 Book 6 zP s.books be)/\yO s.wh=i/\dh (ab 1 (iE s.p.months))/\dh (ab 1 (iE s.p.settle))/\dh (sb s.p.code)/\dh s.p.tick/\dh s.p.low/\dh s.p.high/\dh s.p.wide/\dh s.p.rule/\dh s.p.top/\dh s.p.least/\dh s.p.part/\ae 197 Book 6 zP s.books be=ae 197 Book 6 zP (ak i_1 s.books) be/\dh (yO s.wh)/\dh (ab 1 (iE s.p.months))/\dh (ab 1 (iE s.p.settle))/\True)
end Sx
