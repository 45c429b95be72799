/- Texts of ours. No condition. -/
import Derived.Test.YtgmmlhddihaocaaGreatRows
import Derived.Test.YtgmmlhddihaocaaGreatH3
set_option linter.all false
open List renaming map->aa,take->ab,replicate->ac,range->ae,drop->af
open Go.IntKind renaming i64->ag,u64->aj,u32->ak,u8->am
open Sx.fw renaming sv->ao,kh->ap,kg->aq,cells->ar,map->au,own->av
open Bool renaming false->aw,true->ax
open Exists renaming intro->ay
open And renaming intro->ba
open Option renaming some->bc,none->be
open Go.Utf8 renaming decode->bg
open Int renaming toNat->bo,pow_succ->bu,mul_add->bv
open Go.Value renaming string->cd
open Go renaming Value->ce,TypeId->cf
open BitVec renaming ofInt->cg
namespace Sx
open Go Cv Go.Proofs
def kp {P:Prop} (h:P:=by(repeat'(first|exact rfl|exact trivial|assumption|apply And.intro|refineλ(_:Unit) (_:True)=>?_|refine Exists.intro () ?_|omega|(dsimp only;omega)))):P:=h
def oM {P:Prop} (h:P:=by omega):P:=h
def Z9 {P:Prop} (h:P:=by (dsimp only;omega)):P:=h
def Z8 {P:Prop} (h:P:=by decide):P:=h
def jh {α0:Sort _} {a0:α0} {α1:Sort _} {a1:α1} {α2:Sort _} {a2:α2} {P:Prop} (h:P):a0=a0/\a1=a1/\a2=a2/\P:=⟨rfl,rfl,rfl,h⟩
def oT {α0:Sort _} {a0:α0} {α1:Sort _} {a1:α1} {α2:Sort _} {a2:α2} {α3:Sort _} {a3:α3} {P:Prop} (h:P):a0=a0/\a1=a1/\a2=a2/\a3=a3/\P:=⟨rfl,rfl,rfl,rfl,h⟩
def A6 {α0:Sort _} {a0:α0} {α1:Sort _} {a1:α1} {α2:Sort _} {a2:α2} {α3:Sort _} {a3:α3} {α4:Sort _} {a4:α4} {P:Prop} (h:P):a0=a0/\a1=a1/\a2=a2/\a3=a3/\a4=a4/\P:=⟨rfl,rfl,rfl,rfl,rfl,h⟩
def oE {α0:Sort _} {a0:α0} {α1:Sort _} {a1:α1} {α2:Sort _} {a2:α2} {α3:Sort _} {a3:α3} {α4:Sort _} {a4:α4} {α5:Sort _} {a5:α5} {P:Prop} (h:P):a0=a0/\a1=a1/\a2=a2/\a3=a3/\a4=a4/\a5=a5/\P:=⟨rfl,rfl,rfl,rfl,rfl,rfl,h⟩
def rn {α0:Sort _} {a0:α0} {α1:Sort _} {a1:α1} {α2:Sort _} {a2:α2} {α3:Sort _} {a3:α3} {α4:Sort _} {a4:α4} {α5:Sort _} {a5:α5} {α6:Sort _} {a6:α6} {P:Prop} (h:P):a0=a0/\a1=a1/\a2=a2/\a3=a3/\a4=a4/\a5=a5/\a6=a6/\P:=⟨rfl,rfl,rfl,rfl,rfl,rfl,rfl,h⟩
def iH {α0:Sort _} {a0:α0} {α1:Sort _} {a1:α1} {α2:Sort _} {a2:α2} {α3:Sort _} {a3:α3} {α4:Sort _} {a4:α4} {α5:Sort _} {a5:α5} {α6:Sort _} {a6:α6} {α7:Sort _} {a7:α7} {P:Prop} (h:P):a0=a0/\a1=a1/\a2=a2/\a3=a3/\a4=a4/\a5=a5/\a6=a6/\a7=a7/\P:=⟨rfl,rfl,rfl,rfl,rfl,rfl,rfl,rfl,h⟩
def ic {P:Prop} (h:P:=by(repeat'(first|exact trivial|exact rfl|apply And.intro))):P:=h
def mixed:Tryz.prog.follows .mixedOrders=ax:=by kernel_rfl
def ix {P:Program} {f:FuncId} {fn:Func} {C:gx} {G:List (Nat×gx)} {V:C.ι->Prop} (hm:P.follows .mixedOrders=ax) (hG:Bs P G) (d:Nat) (J:C.ι->List (Nat×ib)) (an:C.ι->List ib) (op:List Nat) (hf:P.funcs[f]? =bc fn) (h:∀i,C.du i->V i) (hb:fn.body=bc (fn.body.getD .skip):=by kernel_rfl) (B6:gF P f=ax:=by kernel_rfl) (pg:yi fn.ntmps (fn.body.getD .skip)=ax:=by kernel_rfl) (oW:∀i,Nat.ble (C.pat i).length fn.ntmps=ax:=by intro _;kernel_rfl) (e:∀i,V i=walk P G d (J i) (an i) op fn (fn.body.getD .skip) (C.pat i) (C.pre i) (C.alts i):=by intro _;kernel_rfl):C.ok P f:=vV hm G hG d J an op hf hb B6 pg oW λi hc=>Eq.mp (e i) (h i hc)
structure Lv where
 dp:Int
 dq:Int
 count:Int
def my (l:Lv):List D:=[.v (.int .i64 l.dp),.v (.int .i64 l.dq),.v (.int .i64 l.count)]
def lvV (l:Lv):V:= .agg [zB l.dp,zB l.dq,zB l.count]
def uu (l:List UInt8):Nat->fw
 |0=> .cells [.own 1] 222
 |1=> .own 5 1 (bE l)
 |_=> .gone
def Wr (l:List UInt8):fw:= .sv (List UInt8) 2 uu l
structure I9 where
 l:List UInt8
 n:Int
 k:Nat
def RP:gx where
 ι:=I9
 pat:=λi=>[.nm 0 0,.d (.v (.int .u64 i.n)),.d (.v (.int .i64 i.k))]
 pre:=λi=>[Wr i.l]
 du:=λi=>0<=i.n/\i.n<18446744073709551616/\i.l.length+i.k<=1099511627776
 alts:=λi=>[{o:=Unit,res:=λ_=> .jm [],post:=λ_=>[Wr (i.l++le i.n i.k)],rel:=λ_=>True}]
def xAl (i:I9):List ib:=[{
 ι:=Nat,
 dv:=λj=>[(0,.nm 0 0),(1,.d (.v (.int .u64 (i.n / 256 ^ j)))),(7,.d (.v (.int .i64 j)))],
 rows:=λj=>[uu (i.l++le i.n j) 0,uu (i.l++le i.n j) 1]}]
set_option maxRecDepth 100000
@[reducible] def dI (n:Int):D:= .v (.int .i64 n)
@[reducible] def fp(R:Prop):Prop:=∀_:Unit,True->R
@[reducible] def ez(R:Prop):Prop:=∃_:Unit,R
def y7n (i:I9):Prop:=
 ∃(a:Nat),i.n / (256:Int) ^ a=i.n/\(↑a:Int)=0/\bE (i.l++le i.n a)=bE i.l/\∃(b:Nat->Prop),∃(c:Nat->Nat),b a/\∀(d:Nat),b d->du (decide ((↑d:Int)<(↑i.k:Int))) (((bE (i.l++le i.n d)).length+1)*(1:Nat)<=(140737488355328:Nat)/\(0:Int)<=(8:Int)/\∃(e:Nat),i.n / (256:Int) ^ e=nA aj (i.n / (256:Int) ^ d) 8/\(↑e:Int)=ag.wrap ((↑d:Int)+1)/\bE (i.l++le i.n e)=bE (i.l++le i.n d)++[[D.v (.int .u8 (am.wrap (i.n / (256:Int) ^ d)))]]/\b e/\c e<c d/\True) (ez (bE (i.l++le i.n i.k)=bE (i.l++le i.n d)/\True))
def xBr (i:I9) (h:RP.du i):y7n i:=by
 unfold y7n ez;obtain⟨h1,h2,h3⟩:=h;refine⟨0,by simp,rfl,by simp[le],λj=>j<=i.k,λj=>i.k-j,oM,λj hj=>zI (λiq=> ?_) (λiq=> ?_)⟩
 ·refine⟨?_,oM,j+1,?_,?_,?_,oM,Z9,trivial⟩
  ·rw[xL,iQ,jB];omega
  ·have:=OC .u64 (i.n / 256 ^ j) 8 Z8;rw[show((8:Nat):Int)=8 by rfl]at this;rw[this,Int.ediv_ediv_of_nonneg (Int.pow_nonneg (by omega)),bu];rfl
  ·rw[iD (by omega)];rfl
  ·rw[le_succ,T4];simp[bE]
 ·obtain rfl:j=i.k:=by omega
  exact⟨(),rfl,trivial⟩
def z7h:RP.ok Tryz.prog 128:=ix mixed fx 0 (λ_=>[]) (λi=>xAl i) [0] Tryz.func128 xBr
@[reducible] def G0:Nat:=5
structure WN where
 l:List UInt8
 n:Int
@[reducible] def WN.ok (i:WN):Prop:=i.l.length+8<=1099511627776
def Kk:gx:=gh WN (λi=>[.nm 0 0,zB i.n]) (λi=>[Wr i.l]) WN.ok (λ_=>EX) (λi=>[Wr (i.l++[pf i.n])])
def J0:gx:=gh WN (λi=>[.nm 0 0,zB i.n]) (λi=>[Wr i.l]) WN.ok (λ_=>EX) (λi=>[Wr (i.l++le i.n 8)])
def RJ:gx:=gh WN (λi=>[.nm 0 0,VQ i.n]) (λi=>[Wr i.l]) (λi=>i.l.length+8<=1099511627776/\0<=i.n/\i.n<4294967296) (λ_=>EX) (λi=>[Wr (i.l++le i.n 4)])
@[reducible] def y4r (t sz oO:Nat):gx:=gh (List (List D)) (λ_=>[.own 0]) (λl=>[.own t sz l]) (λl=>l.length*oO<=140737488355328) (λ_=> .own 1) (λl=>[.own t sz l,.own t sz l])
@[reducible] def y3p (sz oO:Nat):gx:=gh (List (List D)) (λl=>[ru sz l]) (λ_=>[]) (λl=>l.length*oO<=140737488355328) (λl=>ru sz l) (λ_=>[])
def uc:gx:=y4r G0 1 1
def ua:gx:=y3p 1 1
def SK:gx:=gh Unit (λ_=>[]) (λ_=>[]) (λ_=>True) (λ_=> .nm 0 0) (λ_=>[Wr []])
def Tf:gx:=gh (List UInt8) (λ_=>[.nm 0 0]) (λl=>[Wr l]) (λl=>l.length<=1099511627776) (λ_=> .own 1) (λl=>[Wr l,.own G0 1 (bE l)])
def z6w (c:Int):Int:=if 0<Cc .u32 c 1 then Ch .u32 (nA .u32 c 1) 3988292384 else nA .u32 c 1
def uP:Nat->Int->Int
 |0,c=>c
 |k+1,c=>z6w (uP k c)
def DJ (l:List UInt8):Int:=l.foldl (λc b=>uP 8 (Ch .u32 c b.toNat)) 4294967295
def lQ (l:List UInt8):Int:=Ch .u32 4294967295 (DJ l)
def Su:gx:=gh (List UInt8) (λl=>[ru 1 (bE l)]) (λ_=>[]) (λl=>l.length<=1099511627776) (λl=>VQ (lQ l)) (λ_=>[])
def xAq (l:List UInt8):List ib:=[
 {ι:=Nat,dv:=λi=>[(3,VQ (DJ (l.take i))),(9,zB i)],rows:=λ_=>[]},
 {ι:=Int×Nat,dv:=λi=>[(3,VQ (uP i.2 i.1)),(17,zB i.2)],rows:=λ_=>[]}]
def oH (x:List UInt8×Bool):Nat->fw
 |0=> .cells [ru 1 (bE x.1),y4 x.2] 292
 |_=> .gone
def Rd (l:List UInt8) (b:Bool):fw:= .sv (List UInt8×Bool) 1 oH (l,b)
def SL:gx:=gh (List UInt8) (λl=>[ru 1 (bE l)]) (λ_=>[]) (λl=>l.length<=1099511627776) (λ_=> .nm 0 0) (λl=>[Rd l aw])
structure RN where
 l:List UInt8
 b:Bool
 n:Nat
def RN.bad (i:RN):Bool:=i.b||decide (i.l.length<i.n)
def RN.mr (i:RN):List UInt8:=if i.bad then[]else i.l.take i.n
def RN.left (i:RN):List UInt8:=if i.bad then i.l else i.l.drop i.n
@[reducible] def RN.ok (i:RN):Prop:=i.n<=255/\i.l.length<=1099511627776
def SH:gx:=gh RN (λi=>[.nm 0 0,zB i.n]) (λi=>[Rd i.l i.b]) RN.ok (λi=>ru 1 (bE i.mr)) (λi=>[Rd i.left i.bad])
def kA:List UInt8->Int
 |[]=>0
 |b::l=>b.toNat+256*kA l
def Sm:gx:=gh RN (λi=>[.nm 0 0,zB i.n]) (λi=>[Rd i.l i.b]) (λi=>i.n<=8/\i.l.length<=1099511627776) (λi=>Be (kA i.mr)) (λi=>[Rd i.left i.bad])
def xBv (i:RN):List ib:=[{ι:=Nat,dv:=λj=>[(5,Be (kA (i.mr.take j))),(12,zB j)],rows:=λ_=>[]}]
structure RB where
 l:List UInt8
 b:Bool
def RB.n (i:RB) (k:Nat):RN:=⟨i.l,i.b,k⟩
def L9:gx:=gh RB (λi=>[.nm 0 0]) (λi=>[Rd i.l i.b]) (λi=>i.l.length<=1099511627776) (λi=>zB (kA (i.n 1).mr)) (λi=>[Rd (i.n 1).left (i.n 1).bad])
def L8:gx:=gh RB (λi=>[.nm 0 0]) (λi=>[Rd i.l i.b]) (λi=>i.l.length<=1099511627776) (λi=>zB (ag.wrap (kA (i.n 8).mr))) (λi=>[Rd (i.n 8).left (i.n 8).bad])
def SI:gx:=gh RB (λi=>[.nm 0 0]) (λi=>[Rd i.l i.b]) (λi=>i.l.length<=1099511627776) (λi=>zB (if i.b then 10 else if 0<i.l.length then 15 else 0)) (λi=>[Rd i.l i.b])
def mG (a:I9):Prop:=0<=a.n/\a.n<18446744073709551616/\a.l.length+a.k<=1099511627776
def yXc (i:WN):Prop:=
 ∃(a:I9),a.n=aj.wrap i.n/\(↑a.k:Int)=1/\ao (List UInt8) 2 uu a.l=Wr i.l/\(mG a)/\fp (ez (ao (List UInt8) 2 uu (i.l++[pf i.n])=ao (List UInt8) 2 uu (a.l++le a.n a.k)/\True))
def yXo (i:WN):Prop:=
 ∃(a:I9),a.n=aj.wrap i.n/\(↑a.k:Int)=8/\ao (List UInt8) 2 uu a.l=Wr i.l/\(mG a)/\fp (ez (ao (List UInt8) 2 uu (i.l++le i.n 8)=ao (List UInt8) 2 uu (a.l++le a.n a.k)/\True))
def y7u (i:WN):Prop:=
 ∃(a:I9),a.n=aj.wrap i.n/\(↑a.k:Int)=4/\ao (List UInt8) 2 uu a.l=Wr i.l/\(mG a)/\fp (ez (ao (List UInt8) 2 uu (i.l++le i.n 4)=ao (List UInt8) 2 uu (a.l++le a.n a.k)/\True))
def z6b (i:List (List D)):Prop:=
 ∀(b:Bool),(b=ax->i=[])->du b (∃(o:Unit),i=i/\i=[]/\True) ((0+i.length)*(1:Nat)<=(140737488355328:Nat)/\∃(o:Unit),i=i/\i=[]++i/\True)
def yFp (i:List (List D)):z6b i=walk Tryz.prog ([]) 0 ([]) ([]) [] Tryz.f70 (Tryz.f70.body.getD .skip) (uc.pat i) (uc.pre i) (uc.alts i):=by kernel_rfl
def yHs (hG:Bs Tryz.prog ([])) (h:∀(i:List (List D)),uc.du i->z6b i):uc.ok Tryz.prog 70:=vV mixed ([]) hG 0 (λ(i:List (List D))=>[]) (λ(i:List (List D))=>[]) [] Tryz.func70 (by kernel_rfl) (by kernel_rfl) (by kernel_rfl) (λ_=>by kernel_rfl) (λ(i:List (List D)) hc=>Eq.mp (yFp i) (h i hc))
def z3i (i:List (List D)):Prop:=
 ∀(b:Bool),(b=ax->i=[])->du b (∃(o:Unit),i=[]/\True) ((0+i.length)*(1:Nat)<=(140737488355328:Nat)/\∃(o:Unit),i=[]++i/\True)
def yIs (i:List (List D)):z3i i=walk Tryz.prog ([]) 0 ([]) ([]) [] Tryz.f70 (Tryz.f70.body.getD .skip) (ua.pat i) (ua.pre i) (ua.alts i):=by kernel_rfl
def yFq (hG:Bs Tryz.prog ([])) (h:∀(i:List (List D)),ua.du i->z3i i):ua.ok Tryz.prog 70:=vV mixed ([]) hG 0 (λ(i:List (List D))=>[]) (λ(i:List (List D))=>[]) [] Tryz.func70 (by kernel_rfl) (by kernel_rfl) (by kernel_rfl) (λ_=>by kernel_rfl) (λ(i:List (List D)) hc=>Eq.mp (yIs i) (h i hc))
def y8a (i:Unit):Prop:=
 ∃(o:Unit),bE []=[]/\True
def y5w (i:List UInt8):Prop:=
 ∃(iC:List (List D)),iC=bE i/\iC.length*(1:Nat)<=(140737488355328:Nat)/\∀(o:Unit),True->∃(o:Unit),bE i=iC/\bE i=iC/\True
@[reducible] def Q0 (a b:Nat)(c:Nat->Prop)(d:Nat->Nat)(R:Prop):Prop:=(↑a:Int)=ag.wrap ((↑b:Int)+1)/\c a/\d a<d b/\R
def jK (a:Nat) (b:Nat) (c:Nat->Prop) (d:Nat->Nat):Prop:=Q0 a b c d (True)
def y6t (i:List UInt8):Prop:=
 ∃(a:Nat),DJ (ab a i)=4294967295/\(↑a:Int)=0/\∃(b:Nat->Prop),∃(c:Nat->Nat),b a/\∀(d:Nat),b d->du (decide ((↑d:Int)<(↑(bE i).length:Int))) ((0<=(↑d:Int)/\(↑d:Int)<(↑(bE i).length:Int))/\∃(e:Int),zF (bE i) (↑d:Int).toNat 0 1=bc [D.v (.int .u8 e)]/\∃(f:Int×Nat),uP f.snd f.fst=Ch ak (DJ (ab d i)) (ak.wrap e)/\(↑f.snd:Int)=0/\∃(g:Int×Nat->Prop),∃(h:Int×Nat->Nat),g f/\∀(j:Int×Nat),g j->du (decide ((↑j.snd:Int)<8)) ((0:Int)<=(1:Int)/\du (decide (Cc ak (uP j.snd j.fst) (1:Int)>(0:Int))) (∃(k:Int×Nat),uP k.snd k.fst=Ch ak (nA ak (uP j.snd j.fst) 1) 3988292384/\(↑k.snd:Int)=ag.wrap ((↑j.snd:Int)+1)/\g k/\h k<h j/\True) (∃(k:Int×Nat),uP k.snd k.fst=nA ak (uP j.snd j.fst) 1/\(↑k.snd:Int)=ag.wrap ((↑j.snd:Int)+1)/\g k/\h k<h j/\True)) (∃(k:Nat),DJ (ab k i)=uP j.snd j.fst/\jK k d b c)) (ez (lQ i=ak.wrap (↑(cg ak.bits (if ak.signed=ax then(-1:Int)else ak.max) ^^^ cg ak.bits (DJ (ab d i))).toNat:Int)/\True))
def y6h (i:List UInt8):Prop:=
 ∃(iC:List (List D)),iC=bE i/\iC.length*(1:Nat)<=(140737488355328:Nat)/\∀(o:Unit),True->∃(o:Unit),bE i=iC/\aw=aw/\True
def y6d (i:RN):Prop:=
 du i.b (∃(o:Unit),bE i.mr=[]/\bE i.left=bE i.l/\i.bad=ax/\True) (du (decide ((↑i.n:Int)>(↑(bE i.l).length:Int))) (∃(o:Unit),bE i.mr=[]/\bE i.left=bE i.l/\i.bad=decide ((↑i.n:Int)>(↑(bE i.l).length:Int))/\True) ((0<=(↑i.n:Int)/\(↑i.n:Int)<=(↑(bE i.l).length:Int))/\(0<=(↑i.n:Int)/\(↑i.n:Int)<=(↑(bE i.l).length:Int))/\∃(o:Unit),bE i.mr=ab (↑i.n:Int).toNat (bE i.l)/\bE i.left=af (↑i.n:Int).toNat (bE i.l)/\i.bad=decide ((↑i.n:Int)>(↑(bE i.l).length:Int))/\True))
def y8t (i:RN):Prop:=
 ∃(a:RN),(↑a.n:Int)=(↑i.n:Int)/\ao (List UInt8×Bool) 1 oH (a.l,a.b)=Rd i.l i.b/\(a.n<=255/\a.l.length<=1099511627776)/\fp (∃(c:Nat),kA (ab c i.mr)=0/\(↑c:Int)=0/\∃(d:Nat->Prop),∃(e:Nat->Nat),d c/\∀(f:Nat),d f->du (decide ((↑f:Int)<(↑(bE a.mr).length:Int))) ((0<=(↑f:Int)/\(↑f:Int)<(↑(bE a.mr).length:Int))/\∃(g:Int),zF (bE a.mr) (↑f:Int).toNat 0 1=bc [D.v (.int .u8 g)]/\0<=ag.wrap (8*(↑f:Int))/\∃(h:Nat),kA (ab h i.mr)=G5 aj (kA (ab f i.mr)) (I' aj (aj.wrap g) (ag.wrap (8*(↑f:Int))))/\Q0 h f d e (dm (ao (List UInt8×Bool) 1 oH (a.left,a.bad)))) (ez (kA i.mr=kA (ab f i.mr)/\ao (List UInt8×Bool) 1 oH (i.left,i.bad)=ao (List UInt8×Bool) 1 oH (a.left,a.bad)/\True)))
def y1y (i:RB):Prop:=
 ∃(iC:RN),(↑iC.n:Int)=1/\ao (List UInt8×Bool) 1 oH (iC.l,iC.b)=Rd i.l i.b/\(iC.n<=8/\iC.l.length<=1099511627776)/\∀(o:Unit),True->∃(o:Unit),kA (i.n 1).mr=ag.wrap (kA iC.mr)/\ao (List UInt8×Bool) 1 oH ((i.n 1).left,(i.n 1).bad)=ao (List UInt8×Bool) 1 oH (iC.left,iC.bad)/\True
def y4b (i:RB):Prop:=
 ∃(iC:RN),(↑iC.n:Int)=8/\ao (List UInt8×Bool) 1 oH (iC.l,iC.b)=Rd i.l i.b/\(iC.n<=8/\iC.l.length<=1099511627776)/\∀(o:Unit),True->∃(o:Unit),ag.wrap (kA (i.n 8).mr)=ag.wrap (kA iC.mr)/\ao (List UInt8×Bool) 1 oH ((i.n 8).left,(i.n 8).bad)=ao (List UInt8×Bool) 1 oH (iC.left,iC.bad)/\True
def y7p (i:RB):Prop:=
 du i.b (∃(o:Unit),(if i.b=ax then(10:Int)else if 0<i.l.length then(15:Int)else(0:Int))=10/\dm (bE i.l)/\i.b=i.b/\True) (du (decide ((↑(bE i.l).length:Int)>0)) (∃(o:Unit),(if i.b=ax then(10:Int)else if 0<i.l.length then(15:Int)else(0:Int))=15/\dm (bE i.l)/\i.b=i.b/\True) (∃(o:Unit),(if i.b=ax then(10:Int)else if 0<i.l.length then(15:Int)else(0:Int))=0/\dm (bE i.l)/\i.b=i.b/\True))
def y2w (k:Nat):∀n:Int,le (n % 256 ^ k) k=le n k:=by
 induction k with
 |zero=>intro n;rfl
 |succ k ih=>
  intro n;have hp:(0:Int)<256 ^ k:=Int.pow_pos oM;have h1:pf (n % 256 ^ (k+1))=pf n:=by
   unfold pf;rw[bu,E7,Int.emod_emod_of_dvd n ⟨256 ^ k,rfl⟩]
  have h2:n % 256 ^ (k+1) / 256=n / 256 % 256 ^ k:=by
   have e:n=256*(n / 256)+n % 256:=(Int.mul_ediv_add_emod n 256).symm;have e2:n / 256=256 ^ k*(n / 256 / 256 ^ k)+n / 256 % 256 ^ k:=(Int.mul_ediv_add_emod _ _).symm;have hr:=Ni (n / 256) (show(256:Int) ^ k≠0 by omega);have wx:=Pl (n / 256) hp;have e3:n % 256 ^ (k+1)=256*(n / 256 % 256 ^ k)+n % 256:=by
    have:n=256 ^ (k+1)*(n / 256 / 256 ^ k)+(256*(n / 256 % 256 ^ k)+n % 256):=by
     rw[bu,E7 (256 ^ k) 256,Int.mul_assoc,<- Int.add_assoc,<- bv,<- e2];exact e
    conv=>lhs;rw[this]
    rw[Int.add_comm,Int.add_mul_emod_self_left,Int.emod_eq_of_lt]
    ·omega
    ·rw[bu];omega
   rw[e3];omega
  rw[le,le,h1,h2,ih]
def yGx (n:Int):le (aj.wrap n) 8=le n 8:=y2w 8 n
def z8q (n:Int):pf (aj.wrap n)=pf n:=by
 have:aj.wrap n=n % 18446744073709551616:=rfl;unfold pf;rw[this,Int.emod_emod_of_dvd n ⟨72057594037927936,by decide⟩]
def mM (n:Int):0<=aj.wrap n/\aj.wrap n<18446744073709551616:=by
 have:aj.wrap n=n % 18446744073709551616:=rfl;rw[this];omega
def y5r (i:WN) (h:Kk.du i):yXc i:=by
 unfold yXc fp ez mG;have h:i.l.length+8<=1099511627776:=h;exact⟨⟨i.l,aj.wrap i.n,1⟩,rfl,rfl,rfl,⟨(mM _).1,(mM _).2,Z9⟩,λ_ _=>⟨(),by simp only[le,z8q],trivial⟩⟩
def y6l (i:WN) (h:J0.du i):yXo i:=by
 unfold yXo fp ez mG;have h:i.l.length+8<=1099511627776:=h;exact⟨⟨i.l,aj.wrap i.n,8⟩,rfl,rfl,rfl,⟨(mM _).1,(mM _).2,Z9⟩,λ_ _=>⟨(),by simp only[yGx],trivial⟩⟩
def xAn (i:WN) (h:RJ.du i):y7u i:=by
 unfold y7u fp ez mG;obtain⟨h1,h2,h3⟩:=h;have e:aj.wrap i.n=i.n:=Cg oM;exact⟨⟨i.l,aj.wrap i.n,4⟩,rfl,rfl,rfl,⟨(mM _).1,(mM _).2,Z9⟩,λ_ _=>⟨(),by simp only[e],trivial⟩⟩
def z0x:Kk.ok Tryz.prog 84:=ix mixed (dz z7h fx) 0 (λ_=>[]) (λ_=>[]) [] Tryz.func84 y5r
def yUs:J0.ok Tryz.prog 72:=ix mixed (dz z7h fx) 0 (λ_=>[]) (λ_=>[]) [] Tryz.func72 y6l
def y0p:RJ.ok Tryz.prog 129:=ix mixed (dz z7h fx) 0 (λ_=>[]) (λ_=>[]) [] Tryz.func129 xAn
def zUl:uc.ok Tryz.prog 70:=yHs fx λi h=>λb hb=>
 Cv.du.mk (λe=>⟨(),rfl,hb e,trivial⟩) (λ_=>⟨by rw[oC];exact h,(),rfl,rfl,trivial⟩)
def z8e:ua.ok Tryz.prog 70:=yFq fx λi h=>λb hb=>
 Cv.du.mk (λe=>⟨(),hb e,trivial⟩) (λ_=>⟨by rw[oC];exact h,(),rfl,trivial⟩)
def yDo:SK.ok Tryz.prog 71:=ix (V:=y8a) mixed fx 0 (λ_=>[]) (λ_=>[]) [] Tryz.func71 λ(_:Unit) _=>⟨(),rfl,trivial⟩
def yDi:Tf.ok Tryz.prog 74:=ix (V:=y5w) mixed (dz zUl fx) 0 (λ_=>[]) (λ_=>[]) [0] Tryz.func74 λ(i:List UInt8) h=>by
 have h:i.length<=1099511627776:=h;exact⟨_,rfl,by rw[xL];omega,λ_ _=>⟨(),rfl,rfl,trivial⟩⟩
def yCp:SL.ok Tryz.prog 132:=ix (V:=y6h) mixed (dz z8e fx) 0 (λ_=>[]) (λ_=>[]) [] Tryz.func132 λ(i:List UInt8) h=>by
 have h:i.length<=1099511627776:=h;exact⟨_,rfl,by rw[xL];omega,λ_ _=>⟨(),rfl,rfl,trivial⟩⟩
def bK {l:List UInt8} {i:Nat} {b:UInt8} (h:l[i]? =bc b):zF (bE l) i 0 1=bc [.v (.int .u8 b.toNat)]:=by
 unfold zF bE;rw[uz,h];rfl
def yGk {l:List UInt8} {i:Nat} {b:UInt8} (h:l[i]? =bc b):DJ (l.take (i+1))=uP 8 (Ch .u32 (DJ (l.take i)) b.toNat):=by
 unfold DJ;rw[tv,h];simp[Jh]
def y6v (b:UInt8):ak.wrap (b.toNat:Int)=b.toNat:=y9h (by have:=b.toNat_lt;omega)
def y6x (b:UInt8):aj.wrap (b.toNat:Int)=b.toNat:=Cg (by have:=b.toNat_lt;omega)
def xAv (i:List UInt8) (h:Su.du i):y6t i:=by
 unfold y6t ez jK Q0;have h:i.length<=1099511627776:=h;refine⟨0,rfl,rfl,λj=>j<=i.length,λj=>i.length-j,Z9,λj hj=>zI (λiq=> ?_) (λiq=> ?_)⟩
 ·dsimp only at hj;rw[xL]at iq;obtain⟨b,hb⟩:∃b,i[j]? =bc b:=⟨_,xl oM⟩
  refine⟨⟨oM,by rw[xL];omega⟩,b.toNat,bK hb,(Ch .u32 (DJ (i.take j)) b.toNat,0),?_,rfl,λx=>x.1=Ch .u32 (DJ (i.take j)) b.toNat/\x.2<=8,λx=>8-x.2,⟨rfl,Z9⟩,?_⟩
  ·simp only[uP,y6v]
  rintro⟨c,n⟩ ⟨h1,h2⟩;dsimp only at h1 h2;subst h1;refine zI (λhn=>⟨oM,zI (λhc=> ?_) (λhc=> ?_)⟩) (λhn=> ?_)
  ·refine⟨(Ch .u32 (DJ (i.take j)) b.toNat,n+1),?_,?_,⟨rfl,by dsimp only at hn ⊢;omega⟩,by dsimp only at hn ⊢;omega,trivial⟩
   ·simp only[uP,z6w];rw[fk hc]
   ·rw[iD (by dsimp only;omega)];rfl
  ·refine⟨(Ch .u32 (DJ (i.take j)) b.toNat,n+1),?_,?_,⟨rfl,by dsimp only at hn ⊢;omega⟩,by dsimp only at hn ⊢;omega,trivial⟩
   ·simp only[uP,z6w];rw[dx hc]
   ·rw[iD (by dsimp only;omega)];rfl
  ·dsimp only at hn;obtain rfl:n=8:=by omega
   refine⟨j+1,yGk hb,?_,Z9,Z9,trivial⟩;rw[iD (by omega)];rfl
 ·dsimp only at hj;rw[xL]at iq;refine⟨(),?_,trivial⟩;rw[oV (by omega)];rfl
def yMl:Su.ok Tryz.prog 130:=ix mixed fx 0 (λ_=>[]) (λi=>xAq i) [] Tryz.func130 xAv
def yCu:SH.ok Tryz.prog 210:=ix (V:=y6d) mixed fx 0 (λ_=>[]) (λ_=>[]) [0] Tryz.func210 λ(i:RN) h=>by
 obtain⟨h1,h2⟩:=h;refine Cv.du.mk (λe=> ?_) (λe=>zI (λiq=> ?_) (λiq=> ?_))
 ·have:i.bad=ax:=by simp[RN.bad,e]
  exact⟨(),by simp[RN.mr,this],by simp[RN.left,this],this,trivial⟩
 ·rw[xL]at iq;have:i.bad=ax:=by simp[RN.bad];right;omega
  exact⟨(),by simp[RN.mr,this],by simp[RN.left,this],by rw[this,xL];simp;omega,trivial⟩
 ·rw[xL]at iq;have:i.bad=aw:=by simp[RN.bad,e];omega
  rw[xL];exact⟨⟨oM,oM⟩,⟨oM,oM⟩,(),by simp[RN.mr,this,On],by simp[RN.left,this,Oy],by rw[this];simp;omega,trivial⟩
def nC:∀l:List UInt8,0<=kA l/\kA l<256 ^ l.length
 |[]=>by simp[kA]
 |b::l=>by
  obtain⟨h1,h2⟩:=nC l;have:=b.toNat_lt;simp only[kA,iY,bu];omega
def zWn (b:UInt8):∀l:List UInt8,kA (l++[b])=kA l+b.toNat*256 ^ l.length
 |[]=>by simp[kA]
 |c::l=>by
  simp only[tu,kA,zWn b l,iY,bu,bv];rw[E7 (256 ^ l.length) 256,<- Int.mul_assoc,<- Int.mul_assoc,E7 256 (b.toNat:Int)];omega
def yPo {x b j:Nat} (hx:x<256 ^ j) (hb:b<256) (hj:j<8):G5 .u64 x (I' .u64 b ((8*j:Nat):Int))=((x+b*256 ^ j:Nat):Int):=by
 have hp:256 ^ j=2 ^ (8*j):=by rw[Nat.pow_mul]
 have hle:256 ^ (j+1)<=256 ^ 8:=Nat.pow_le_pow_right oM oM;have abh:x+b*256 ^ j<256 ^ (j+1):=by
  rw[Nat.pow_succ];have:b*256 ^ j<=255*256 ^ j:=yh _ oM;omega
 have h8:(256:Nat) ^ 8=18446744073709551616:=by decide
 rw[<- yRz,<- y2m];have e1:yZx .u64 (b:Int) ((8*j:Nat):Int)=((b*256 ^ j:Nat):Int):=by
  show wr .u64 (Int.ofNat (b*2 ^ (Nat.min (8*j) 64)))=_;rw[show Nat.min (8*j) 64=8*j from GV (by omega),<- hp,VU];exact Cg (by show(0:Int)<=((b*256 ^ j:Nat):Int)/\((b*256 ^ j:Nat):Int)<_;omega)
 rw[e1];show wr .u64 (Int.ofNat (Nat.lor (x % 18446744073709551616) ((b*256 ^ j) % 18446744073709551616)))=_;rw[Nat.mod_eq_of_lt (by omega),Nat.mod_eq_of_lt (by omega)];have e2:Nat.lor x (b*256 ^ j)=x+b*256 ^ j:=by
  show x|||(b*256 ^ j)=_
  rw[hp]at hx ⊢;rw[Nat.or_comm,<- Nat.shiftLeft_eq,<- Nat.shiftLeft_add_eq_or_of_lt hx,Hw]
 rw[e2,VU];exact Cg (by show(0:Int)<=((x+b*256 ^ j:Nat):Int)/\((x+b*256 ^ j:Nat):Int)<_;omega)
def TU (i:RN):i.mr.length<=i.n:=by
 unfold RN.mr;split
 ·simp
 ·rw[oK];omega
def y9u (i:RN) (h:Sm.du i):y8t i:=by
 unfold y8t Q0 fp ez;obtain⟨h1,h2⟩:=h;refine⟨i,rfl,rfl,⟨oM,h2⟩,λ_ _=>⟨0,rfl,rfl,λj=>j<=i.mr.length,λj=>i.mr.length-j,Z9,λj hj=>zI (λiq=> ?_) (λiq=> ?_)⟩⟩
 ·dsimp only at hj;have hl:=TU i;rw[xL]at iq ⊢;obtain⟨b,hb⟩:∃b,i.mr[j]? =bc b:=⟨_,xl oM⟩
  have e8:ag.wrap (8*(j:Int))=8*j:=iD oM;refine⟨⟨oM,oM⟩,b.toNat,bK hb,by rw[e8];omega,j+1,?_,?_,Z9,Z9,rfl⟩
  ·rw[e8,y6x,tv,hb];simp only[DP];rw[zWn];obtain⟨r1,r2⟩:=nC (i.mr.take j);rw[oK,GV (by omega)]at r2 ⊢;obtain⟨x,hx⟩:∃x:Nat,kA (i.mr.take j)=x:=⟨(kA (i.mr.take j)).toNat,oM⟩
   rw[hx]at r2 ⊢;have:=yPo (x:=x) (b:=b.toNat) (j:=j) (by exact_mod_cast r2) b.toNat_lt oM;rw[show(8*(j:Int))=((8*j:Nat):Int)by simp,this];simp
  ·rw[iD (by omega)];rfl
 ·dsimp only at hj;rw[xL]at iq;exact⟨(),by rw[oV (by omega)],rfl,trivial⟩
def z8x:Sm.ok Tryz.prog 179:=ix mixed (dz yCu fx) 0 (λ_=>[]) (λi=>xBv i) [] Tryz.func179 y9u
def z5e:L9.ok Tryz.prog 140:=ix (V:=y1y) mixed (dz z8x fx) 0 (λ_=>[]) (λ_=>[]) [] Tryz.func140 λ(i:RB) h=>by
 have hl:=TU (i.n 1);have hr:=nC (i.n 1).mr;have h0:(256:Int) ^ (i.n 1).mr.length<=256 ^ 1:=by
  have:(256:Nat) ^ (i.n 1).mr.length<=256 ^ 1:=Nat.pow_le_pow_right oM hl
  exact_mod_cast this
 exact⟨i.n 1,rfl,rfl,⟨by show 1<=8;omega,h⟩,λ_ _=>⟨(),(iD oM).symm,rfl,trivial⟩⟩
def yKx:L8.ok Tryz.prog 133:=ix (V:=y4b) mixed (dz z8x fx) 0 (λ_=>[]) (λ_=>[]) [] Tryz.func133 λ(i:RB) h=>by
 exact⟨i.n 8,rfl,rfl,⟨by show 8<=8;omega,h⟩,λ_ _=>⟨(),rfl,rfl,trivial⟩⟩
def yTd:SI.ok Tryz.prog 141:=ix (V:=y7p) mixed fx 0 (λ_=>[]) (λ_=>[]) [0] Tryz.func141 λ(i:RB) h=>by
 refine Cv.du.mk (λe=>⟨(),by rw[fk e],rfl,rfl,trivial⟩) (λe=>zI (λiq=>⟨(),?_,rfl,rfl,trivial⟩) (λiq=>⟨(),?_,rfl,rfl,trivial⟩))
 ·rw[xL]at iq;rw[dx (by simp[e]),fk (by omega)]
 ·rw[xL]at iq;rw[dx (by simp[e]),dx (by omega)]
open Classical
structure Sd where
 levels:List Lv
 imp:Lv
 has:Bool
@[reducible] def Vw:=List (Sd×Sd)
def xM (b:Sd×Sd):List D:=[.ro 3 (b.1.levels.map my),.v (.int .i64 b.1.imp.dp),.v (.int .i64 b.1.imp.dq),.v (.int .i64 b.1.imp.count),.v (.bool b.1.has),
 .ro 3 (b.2.levels.map my),.v (.int .i64 b.2.imp.dp),.v (.int .i64 b.2.imp.dq),.v (.int .i64 b.2.imp.count),.v (.bool b.2.has)]
def sdV (s:Sd):V:= .agg [ru 3 (s.levels.map my),zB s.imp.dp,zB s.imp.dq,zB s.imp.count,y4 s.has]
def vwV (v:Vw):V:= .agg [ru 10 (v.map xM)]
def tU (side x y:Int):Bool:=if side=1 then decide (y<x)else decide (x<y)
structure I3 where
 side:Int
 x:Int
 y:Int
def IK:gx:=gh I3 (λi=>[zB i.side,zB i.x,zB i.y]) (λ_=>[]) (λ_=>True) (λi=>y4 (tU i.side i.x i.y)) (λ_=>[])
def y2v (side:Int) (l:List Lv) (i:Nat):Prop:=∀a,l[i]?=bc a->1<=a.dq/\1<=a.count/\∀j b,i=j+1->l[j]?=bc b->tU side b.dp a.dp=ax
def OF (side:Int) (s:Sd):Prop:=(∀i,y2v side s.levels i)/\s.levels.length<=255/\(s.has=ax->1<=s.imp.dq/\1<=s.imp.count)/\(s.has=aw->s.imp=⟨0,0,0⟩)
def yBf (v:Vw):Prop:=(∀b∈v,OF 1 b.1/\OF 2 b.2)/\v.length<=255
@[reducible] def yEq (v:Vw):Prop:=v.length<=1099511627776/\∀b∈v,b.1.levels.length<=1099511627776/\b.2.levels.length<=1099511627776
def yTa (i:I3):Prop:=
 du (i.side==1) (∃(o:Unit),tU i.side i.x i.y=decide (i.x>i.y)/\True) (∃(o:Unit),tU i.side i.x i.y=decide (i.x<i.y)/\True)
def getD {α:Type} {l:List α} {i:Nat} (h:i<l.length):∃x,l[i]? =bc x:=⟨_,xl h⟩
def yHb:IK.ok Tryz.prog 187:=ix (V:=yTa) mixed fx 0 (λ_=>[]) (λ_=>[]) [] Tryz.func187 λ(i:I3) _=>by
 refine Cv.du.mk (λe=>⟨(),?_,trivial⟩) (λe=>⟨(),?_,trivial⟩)
 ·have e:i.side=1:=by simpa using e
  simp[tU,e]
 ·have e:i.side≠1:=by simpa using e
  simp[tU,e]
def yGg {α β:Type} {f:α->List β} {l:List α} {k:Nat} {x:α} (h:l[k]? =bc x):(l.take (k+1)).flatMap f=(l.take k).flatMap f++f x:=by
 rw[tv,h];simp
def yGn (n:Int):0<=ak.wrap n/\ak.wrap n<4294967296:=by
 have:ak.wrap n=n % 4294967296:=rfl;rw[this];omega
def zNi (l:List UInt8):0<=lQ l/\lQ l<4294967296:=yGn _
@[reducible] def tBy:Nat:=43
def kq (l:List UInt8):List D:=[.ro 1 (bE l)]
def BN:gx:=gh Nat (λn=>[.d (.v (.slice be 0 0)),zB n]) (λ_=>[]) (λn=>1<=n/\n<=1099511627776) (λ_=> .own 0) (λ_=>[.own G0 1 []])
def zc:gx:=gh (List (List UInt8)) (λls=>[ru 1 (ls.map kq)]) (λ_=>[]) (λls=>1<=ls.flatten.length/\ls.flatten.length<=1099511627776/\ls.length<=1000) (λ_=> .own 0) (λls=>[.own G0 1 (bE ls.flatten)])
def yXr (ls:List (List UInt8)):List ib:=[
 {ι:=Nat,dv:=λk=>[(3,zB (ls.take k).flatten.length),(11,zB k)],rows:=λ_=>[]},
 {ι:=Nat,dv:=λk=>[(6,.own 0),(27,zB k)],rows:=λk=>[.own G0 1 (bE (ls.take k).flatten)]}]
structure Dk where
 b:List UInt8
 safe:Nat
def Xa (d:Dk):Nat->fw
 |0=> .cells [.own 1,zB d.safe] 161
 |1=> .own G0 1 (bE d.b)
 |_=> .gone
def mo (d:Dk):fw:= .sv Dk 2 Xa d
@[reducible] def Dk.ok (d:Dk):Prop:=d.safe<=d.b.length/\d.b.length<=1048576
structure JM where
 d:Dk
 l:List UInt8
def Tg:gx:=gh Unit (λ_=>[]) (λ_=>[]) (λ_=>True) (λ_=> .nm 0 0) (λ_=>[mo ⟨[],0⟩])
def Tj:gx:=gh JM (λi=>[.nm 0 0,ru 1 (bE i.l)]) (λi=>[mo i.d]) (λi=>i.d.b.length+i.l.length<=1048576) (λ_=>zB 0) (λi=>[mo ⟨i.d.b++i.l,i.d.safe⟩])
def Ti:gx:=gh Dk (λ_=>[.nm 0 0]) (λd=>[mo d]) (λd=>d.ok) (λ_=> .own 1) (λd=>[mo d,.own G0 1 (bE d.b)])
def ud:gx:=gh (List (List D)) (λl=>[ru 1 l]) (λ_=>[]) (λl=>l.length<=140737488355328) (λ_=> .own 0) (λl=>[.own G0 1 l])
def Td:gx:=gh JM (λi=>[.nm 0 0,ru 1 (bE i.l)]) (λi=>[mo i.d]) (λi=>i.l.length<=1048576) (λ_=>zB 0) (λi=>[mo ⟨i.l,i.l.length⟩])
def jA (l:List UInt8):List UInt8:=pf l.length::UInt8.ofNat (255-l.length)::(l++le (lQ l) 4)
def Ga:gx:=gh (List UInt8) (λl=>[ru 1 (bE l)]) (λ_=>[]) (λl=>l.length<=255) (λ_=> .jm [.own 0,zB 0]) (λl=>[.own G0 1 (bE (jA l))])
def y0n:List (Nat×ib):=[(20,{ι:=Unit,dv:=λ_=>[],rows:=λ_=>[],C1:=[4]})]
def Cd (l:List UInt8):List UInt8×Nat×Int:=
 if l.length<2 then([],0,10)else if(l.getD 1 0).toNat≠255-(l.getD 0 0).toNat then([],0,14)else
 if l.length<6+(l.getD 0 0).toNat then([],0,10)else
 if kA ((l.drop (2+(l.getD 0 0).toNat)).take 4)≠lQ ((l.drop 2).take (l.getD 0 0).toNat)then([],0,14)else
 ((l.drop 2).take (l.getD 0 0).toNat,6+(l.getD 0 0).toNat,0)
structure Fv where
 b:List UInt8
 k:Nat
def Fv.x (i:Fv):List UInt8×Nat×Int:=Cd (i.b.drop i.k)
def KG:V:= .d (.v (.slice be 0 0))
def RE:gx where
 ι:=Fv
 pat:=λi=>[ru 1 (bE i.b),zB i.k]
 pre:=λ_=>[]
 du:=λi=>i.k<=i.b.length/\i.b.length<=1099511627776
 alts:=λi=>[{o:=Unit,res:=λ_=> .jm [.own 0,zB (i.k+i.x.2.1),zB 0],post:=λ_=>[.own G0 1 (bE i.x.1)],rel:=λ_=>i.x.2.2=0},
  {o:=Unit,res:=λ_=> .jm [KG,zB 0,zB i.x.2.2],post:=λ_=>[],rel:=λ_=>i.x.2.2≠0}]
def oZ (L:List (List UInt8)):List UInt8:=L.flatMap jA
structure D2 where
 L:List (List UInt8)
 t:List UInt8
@[reducible] def D2.ok (i:D2):Prop:=(∀l∈i.L,l.length<=255)/\(Cd i.t).2.2=10/\(oZ i.L).length+i.t.length<=1048576
@[reducible] def G1 (L:List (List UInt8)):fw:= .own tBy 1 (L.map kq)
def JS:gx:=gh D2 (λi=>[ru 1 (bE (oZ i.L++i.t))]) (λ_=>[]) (λi=>i.ok) (λi=> .jm [.own 0,zB (oZ i.L).length,zB 0]) (λi=>[G1 i.L])
def y7d (i:D2):List ib:=[{ι:=Nat,dv:=λk=>[(5,.own 0),(6,zB (oZ (i.L.take k)).length)],rows:=λk=>[G1 (i.L.take k)]}]
def K7 (d:Nat) (n:Int):fw:= .cells [.nm d 0,zB n] 201
structure Cb where
 s:Nat
 L:List (List UInt8)
 t:List UInt8
def Cb.d (i:Cb):Dk:=⟨oZ i.L++i.t,i.s⟩
def Cb.d' (i:Cb):Dk:=if i.t=[]then i.d else⟨oZ i.L,(oZ i.L).length⟩
def aaw:gx:=gh Cb (λ_=>[.nm 0 0]) (λi=>[mo i.d]) (λi=>(D2.mk i.L i.t).ok/\i.d.ok) (λ_=> .jm [.nm 1 0,.own 2,zB 0]) (λi=>[mo i.d',K7 0 i.L.length,G1 i.L])
structure W8 where
 d:Dk
 n:Int
 l:List UInt8
def SP:gx:=gh W8 (λi=>[.nm 0 0,ru 1 (bE i.l)]) (λi=>[K7 1 i.n,mo i.d]) (λi=>i.l.length<=255/\i.d.b.length+i.l.length+6<=1048576/\0<=i.n/\i.n<=1048576) (λ_=>zB 0) (λi=>[K7 1 (i.n+1),mo ⟨i.d.b++jA i.l,i.d.safe⟩])
def mP (a:Nat) (b:List (List UInt8)):=(↑(ab a b).flatten.length:Int)
def V' (ls:List (List UInt8)):Prop:=
 ∃(a:Nat),(mP a ls)=0/\(↑a:Int)=0/\∃(b:Nat->Prop),∃(c:Nat->Nat),b a/\∀(d:Nat),b d->du (decide ((↑d:Int)<(↑(aa kq ls).length:Int))) ((0<=(↑d:Int)/\(↑d:Int)<(↑(aa kq ls).length:Int))/\∃(e:List (List D)),zF (aa kq ls) (↑d:Int).toNat 0 1=bc [D.ro 1 e]/\du (decide (ag.wrap ((mP d ls)+(↑e.length:Int))<0)) False (∃(f:Nat),(mP f ls)=ag.wrap ((mP d ls)+(↑e.length:Int))/\jK f d b c)) (∃(e:Nat),True/\(↑e:Int)=(mP d ls)/\(1<=e/\e<=1099511627776)/\fp (∃(g:Nat),(↑g:Int)=0/\bE (ab g ls).flatten=[]/\∃(h:Nat->Prop),∃(j:Nat->Nat),h g/\∀(k:Nat),h k->du (decide ((↑k:Int)<(↑(aa kq ls).length:Int))) ((0<=(↑k:Int)/\(↑k:Int)<(↑(aa kq ls).length:Int))/\∃(l:List (List D)),zF (aa kq ls) (↑k:Int).toNat 0 1=bc [D.ro 1 l]/\((bE (ab k ls).flatten).length+l.length)*(1:Nat)<=(140737488355328:Nat)/\∃(m:Nat),(↑m:Int)=ag.wrap ((↑k:Int)+1)/\bE (ab m ls).flatten=bE (ab k ls).flatten++l/\h m/\j m<j k/\True) (ez (bE ls.flatten=bE (ab k ls).flatten/\True))))
def y3c (ls:List (List UInt8)):V' ls=walk Tryz.prog ([(113,BN)]) 0 ([]) (yXr ls) [] Tryz.f50 (Tryz.f50.body.getD .skip) (zc.pat ls) (zc.pre ls) (zc.alts ls):=by kernel_rfl
def y0c (hG:Bs Tryz.prog ([(113,BN)])) (h:∀(ls:List (List UInt8)),zc.du ls->V' ls):zc.ok Tryz.prog 50:=vV mixed ([(113,BN)]) hG 0 (λ(ls:List (List UInt8))=>[]) (λ(ls:List (List UInt8))=>yXr ls) [] Tryz.func50 (by kernel_rfl) (by kernel_rfl) (by kernel_rfl) (λ_=>by kernel_rfl) (λ(ls:List (List UInt8)) hc=>Eq.mp (y3c ls) (h ls hc))
def y8z (u:Unit):Prop:=
 ∃(o:Unit),(↑(0:Nat):Int)=0/\bE []=[]/\True
def yZi (i:JM):Prop:=
 du (decide ((↑(bE i.l).length:Int)>ag.wrap (1048576-(↑(bE i.d.b).length:Int)))) (ez ((0:Int)=(13:Int)/\dm ((↑i.d.safe:Int))/\bE (i.d.b++i.l)=bE i.d.b/\True)) (((bE i.d.b).length+(bE i.l).length)*(1:Nat)<=(140737488355328:Nat)/\ez (dm ((0:Int))/\dm ((↑i.d.safe:Int))/\bE (i.d.b++i.l)=bE i.d.b++bE i.l/\True))
def y8d (d:Dk):Prop:=
 ∃(i:List (List D)),i=bE d.b/\i.length*(1:Nat)<=(140737488355328:Nat)/\∀(o:Unit),True->∃(o:Unit),dm ((↑d.safe:Int))/\bE d.b=i/\bE d.b=i/\True
def z2u (i:List (List D)):Prop:=
 ∀(b:Bool),(b=ax->i=[])->du b (∃(o:Unit),i=[]/\True) ((0+i.length)*(1:Nat)<=(140737488355328:Nat)/\∃(o:Unit),i=[]++i/\True)
def yHm (i:List (List D)):z2u i=walk Tryz.prog ([]) 0 ([]) ([]) [] Tryz.f70 (Tryz.f70.body.getD .skip) (ud.pat i) (ud.pre i) (ud.alts i):=by kernel_rfl
def yId (hG:Bs Tryz.prog ([])) (h:∀(i:List (List D)),ud.du i->z2u i):ud.ok Tryz.prog 70:=vV mixed ([]) hG 0 (λ(i:List (List D))=>[]) (λ(i:List (List D))=>[]) [] Tryz.func70 (by kernel_rfl) (by kernel_rfl) (by kernel_rfl) (λ_=>by kernel_rfl) (λ(i:List (List D)) hc=>Eq.mp (yHm i) (h i hc))
def yYe (i:JM):Prop:=
 du (decide ((↑(bE i.l).length:Int)>1048576)) (ez ((0:Int)=(13:Int)/\(↑i.l.length:Int)=(↑i.d.safe:Int)/\bE i.l=bE i.d.b/\True)) (∃(a:List (List D)),a=bE i.l/\a.length<=140737488355328/\fp (ez (dm ((0:Int))/\(↑i.l.length:Int)=(↑a.length:Int)/\bE i.l=a/\True)))
def yNm (l:List UInt8):Prop:=
 du (decide ((↑(bE l).length:Int)>255)) (ez ((0:Int)=(3:Int)/\bE (jA l)=[]/\True)) (ez (True/\fp (∃(c:WN),c.n=(↑(bE l).length:Int)/\ao (List UInt8) 2 uu c.l=ao (List UInt8) 2 uu []/\c.ok/\fp (∃(e:WN),e.n=ag.wrap (↑(cg ag.bits (if ag.signed=ax then(-1:Int)else ag.max) ^^^ cg ag.bits (↑(bE l).length:Int)).toNat:Int)/\ao (List UInt8) 2 uu e.l=ao (List UInt8) 2 uu (c.l++[pf c.n])/\e.ok/\fp (((bE (e.l++[pf e.n])).length+(bE l).length)*(1:Nat)<=(140737488355328:Nat)/\∃(g:List UInt8),bE g=bE l/\g.length<=1099511627776/\fp (∃(j:WN),j.n=lQ g/\bE j.l=bE (e.l++[pf e.n])++bE l/\(j.l.length+(8:Nat)<=(1099511627776:Nat)/\0<=j.n/\j.n<4294967296)/\fp (∃(m:List UInt8),ao (List UInt8) 2 uu m=ao (List UInt8) 2 uu (j.l++le j.n 4)/\m.length<=1099511627776/\fp (ez (dm ((0:Int))/\bE (jA l)=bE m/\True)))))))))
def nW (a:Fv):=(af (↑a.k:Int).toNat (bE a.b))
def aR (a:Fv):=(↑(nW a).length:Int)
def dY (a:Int):=(2+ag.wrap a)
def XI (a:Int) (b:Fv):Prop:=(0:Int)<=(2:Int)/\2<=ag.wrap (dY a)/\ag.wrap (dY a)<=(aR b)
def Uj (a:Int) (b:Fv):=(ab (ag.wrap (dY a)).toNat (nW b))
def OS (a:Int):=(ag.wrap (dY a)+4)
def y8n (i:Fv):Prop:=
 du (decide ((↑i.k:Int)>(↑(bE i.b).length:Int))) ((ez ((↑i.k:Int)+(↑i.x.snd.fst:Int)=(0:Int)/\(0:Int)=1/\bE i.x.fst=[]/\i.x.snd.snd=0))\/(ez (True/\dm ((0:Int))/\i.x.snd.snd=1/\(i.x.snd.snd=0->False)))) ((0<=(↑i.k:Int)/\(↑i.k:Int)<=(↑(bE i.b).length:Int))/\du (decide ((aR i)<2)) ((ez ((↑i.k:Int)+(↑i.x.snd.fst:Int)=(0:Int)/\(0:Int)=10/\bE i.x.fst=[]/\i.x.snd.snd=0))\/(ez (True/\dm ((0:Int))/\i.x.snd.snd=10/\(i.x.snd.snd=0->False)))) (((0:Int)<=(1:Int)/\1<(aR i))/\∃(a:Int),zF (nW i) (bo 1) 0 1=bc [D.v (.int .u8 a)]/\((0:Int)<=(0:Int)/\0<(aR i))/\∃(b:Int),zF (nW i) (bo 0) 0 1=bc [D.v (.int .u8 b)]/\du (a !=am.wrap (↑(cg am.bits (if am.signed=ax then(-1:Int)else am.max) ^^^ cg am.bits b).toNat:Int)) ((ez ((↑i.k:Int)+(↑i.x.snd.fst:Int)=(0:Int)/\(0:Int)=14/\bE i.x.fst=[]/\i.x.snd.snd=0))\/(ez (True/\dm ((0:Int))/\i.x.snd.snd=14/\(i.x.snd.snd=0->False)))) (((0:Int)<=(0:Int)/\0<(aR i))/\∃(c:Int),zF (nW i) (bo 0) 0 1=bc [D.v (.int .u8 c)]/\du (decide ((aR i)<ag.wrap (OS c))) ((ez ((↑i.k:Int)+(↑i.x.snd.fst:Int)=(0:Int)/\(0:Int)=10/\bE i.x.fst=[]/\i.x.snd.snd=0))\/(ez (True/\dm ((0:Int))/\i.x.snd.snd=10/\(i.x.snd.snd=0->False)))) ((0<=ag.wrap (dY c)/\ag.wrap (dY c)<=ag.wrap (OS c)/\ag.wrap (OS c)<=(aR i))/\∃(d:List UInt8),bE d=af (ag.wrap (dY c)).toNat (ab (ag.wrap (OS c)).toNat (nW i))/\d.length<=1099511627776/\fp ((XI c i)/\∃(f:RN),(↑f.n:Int)=4/\ao (List UInt8×Bool) 1 oH (f.l,f.b)=ao (List UInt8×Bool) 1 oH (d,aw)/\(f.n<=8/\f.l.length<=1099511627776)/\fp (∃(h:List UInt8),bE h=af (bo 2) (Uj c i)/\h.length<=1099511627776/\fp (du (ak.wrap (kA f.mr) !=lQ h) ((ez ((↑i.k:Int)+(↑i.x.snd.fst:Int)=(0:Int)/\(0:Int)=14/\bE i.x.fst=[]/\i.x.snd.snd=0))\/(ez (True/\dm ((0:Int))/\i.x.snd.snd=14/\(i.x.snd.snd=0->False)))) ((XI c i)/\(0+(af (bo 2) (Uj c i)).length)*(1:Nat)<=(140737488355328:Nat)/\((ez ((↑i.k:Int)+(↑i.x.snd.fst:Int)=ag.wrap (ag.wrap ((↑i.k:Int)+ag.wrap (dY c))+4)/\dm ((0:Int))/\bE i.x.fst=[]++af (bo 2) (Uj c i)/\i.x.snd.snd=0))\/(ez (False)))))))))))
def dP (a:Nat) (b:D2):=(↑(oZ (ab a b.L)).length:Int)
def Zl (a:D2) (b:Nat):Prop:=ez ((↑(oZ a.L).length:Int)=(dP b a)/\dm ((0:Int))/\aa kq a.L=aa kq (ab b a.L)/\True)
def yYv (i:D2):Prop:=
 ∃(a:Nat),(dP a i)=0/\aa kq (ab a i.L)=[]/\∃(b:Nat->Prop),∃(c:Nat->Nat),b a/\∀(d:Nat),b d->du (decide ((dP d i)<(↑(bE (oZ i.L++i.t)).length:Int))) (∃(e:Fv),bE e.b=bE (oZ i.L++i.t)/\(↑e.k:Int)=(dP d i)/\(e.k<=e.b.length/\e.b.length<=1099511627776)/\(∀(f:Unit),e.x.snd.snd=0->((aa kq (ab d i.L)).length+1)*(24:Nat)<=(140737488355328:Nat)/\∃(g:Nat),(dP g i)=(↑e.k:Int)+(↑e.x.snd.fst:Int)/\aa kq (ab g i.L)=aa kq (ab d i.L)++[[D.ro 1 (bE e.x.fst)]]/\b g/\c g<c d/\True)/\∀(f:Unit),e.x.snd.snd≠0->du (e.x.snd.snd==0) (((aa kq (ab d i.L)).length+1)*(24:Nat)<=(140737488355328:Nat)/\∃(g:Nat),(dP g i)=0/\aa kq (ab g i.L)=aa kq (ab d i.L)++[[D.ro 1 []]]/\b g/\c g<c d/\True) (du (e.x.snd.snd==10) (Zl i d) (ez ((↑(oZ i.L).length:Int)=(dP d i)/\(0:Int)=(14:Int)/\aa kq i.L=aa kq (ab d i.L)/\True)))) (Zl i d)
def y9y (i:Cb):Prop:=
 ∃(a:Dk),mo a=mo i.d/\(a.safe<=a.b.length/\a.b.length<=1048576)/\fp (∃(c:D2),bE (oZ c.L++c.t)=bE a.b/\((∀(d:List UInt8),d∈c.L->d.length<=255)/\(Cd c.t).snd.snd=10/\(oZ c.L).length+c.t.length<=1048576)/\fp (du (decide ((↑(oZ c.L).length:Int)<(↑(bE a.b).length:Int))) ((0<=(↑(oZ c.L).length:Int)/\(↑(oZ c.L).length:Int)<=(↑(bE a.b).length:Int))/\∃(e:JM),bE e.l=ab (↑(oZ c.L).length:Int).toNat (bE a.b)/\mo e.d=mo a/\e.l.length<=1048576/\fp (ez (dm ((0:Int))/\mo i.d'=mo (Dk.mk e.l e.l.length)/\(↑i.L.length:Int)=(↑(aa kq c.L).length:Int)/\aa kq i.L=aa kq c.L/\True))) (ez (dm ((0:Int))/\mo i.d'=mo a/\(↑i.L.length:Int)=(↑(aa kq c.L).length:Int)/\aa kq i.L=aa kq c.L/\True))))
def y6b (i:W8):Prop:=
 ∃(iC:List UInt8),bE iC=bE i.l/\iC.length<=255/\∀(o:Unit),True->∃(oy:JM),bE oy.l=bE (jA iC)/\ao Dk 2 Xa oy.d=mo i.d/\oy.d.b.length+oy.l.length<=1048576/\∀(o:Unit),True->∃(o:Unit),dm ((0:Int))/\i.n+1=ag.wrap (i.n+1)/\ao Dk 2 Xa (Dk.mk (i.d.b++jA i.l) i.d.safe)=ao Dk 2 Xa (Dk.mk (oy.d.b++oy.l) oy.d.safe)/\True
def sb (l:List UInt8):ByteArray:=⟨l.toArray⟩
@[reducible] def sV (l:List UInt8):V:= .d (.v (.string (sb l)))
def EU (l:List UInt8):Nat×Nat:=bg (sb l) 0
def MV:Nat->Nat->List UInt8->List (Nat×Nat)
 |0,_,_=>[]
 |k+1,p,l=>match l with
  |[]=>[]
  |_=>(p,(EU l).1)::MV k (p+(EU l).2) (l.drop (EU l).2)
def fE (s:List UInt8) (p:Nat):List (Nat×Nat):=MV (s.length-p) p (s.drop p)
def jN (s:List UInt8):List Nat:=(fE s 0).map (·.2)
def Gk:gx:=gh (List UInt8) (λs=>[sV s]) (λ_=>[]) (λs=>s.length<=1099511627776) (λs=>zB (jN s).length) (λ_=>[])
def y2d (s:List UInt8):List ib:=[{ι:=Nat×Nat,dv:=λx=>[(3,zB x.2),(5,.nm 0 0)],rows:=λx=>[.iter (sb s) x.1]}]
def fN (r:Nat):Bool:=(decide (65<=r) && decide (r<=90))||(decide (913<=r) && decide (r<=937) && decide (r≠930))
def vB (s:List UInt8):Bool:=(jN s).all fN && decide (s≠[]) && decide ((jN s).length<=4)
def RI:gx:=gh (List UInt8) (λs=>[sV s]) (λ_=>[]) (λs=>s.length<=1099511627776) (λs=>y4 (vB s)) (λ_=>[])
def xBl (s:List UInt8):List ib:=[{ι:=Nat,dv:=λx=>[(7,.nm 0 0)],rows:=λx=>[.iter (sb s) x]}]
def iE (l:List Int):List (List D):=l.map λn=>[.v (.int .i64 n)]
@[reducible] def iV (l:List Int):V:=ru 1 (iE l)
structure fj where
 code:List UInt8
 dr:List Int
 tick:Int
 low:Int
 high:Int
 wide:Int
 gw:Int
 top:Int
 least:Int
 part:Int
 settle:List Int
 deriving DecidableEq
@[reducible] def fj.cells (p:fj):List V:=[sV p.code,iV p.dr,zB p.tick,zB p.low,zB p.high,zB p.wide,zB p.gw,zB p.top,zB p.least,zB p.part,iV p.settle]
@[reducible] def oa (p:fj):V:= .agg p.cells
@[reducible] def fj.small (p:fj):Prop:=p.code.length<=1099511627776/\p.dr.length<=1099511627776/\p.settle.length<=1099511627776
def kI (l:List Int) (k:Nat):Bool:=decide (0<=l.getD k 0) && decide (l.getD k 0<=1199) && (decide (k=0)||decide (l.getD (k-1) 0<l.getD k 0))
def xO (l:List Int):Bool:=(ae l.length).all (kI l) && decide (2<=l.length) && decide (l.length<=6)
def DA:gx:=gh (List Int) (λl=>[iV l]) (λ_=>[]) (λl=>l.length<=1099511627776) (λl=>y4 (xO l)) (λ_=>[])
def ySo:List ib:=[{ι:=Nat,dv:=λj=>[(7,zB j)],rows:=λ_=>[]}]
def tE (l:List Int):Int:=l.tail.foldl min (l.headD 0)
def l5 (l:List Int):Int:=l.tail.foldl max (l.headD 0)
def R6:gx:=gh (List Int) (λl=>[iV l]) (λ_=>[]) (λl=>0<l.length/\l.length<=1099511627776) (λl=>zB (tE l)) (λ_=>[])
def R7:gx:=gh (List Int) (λl=>[iV l]) (λ_=>[]) (λl=>0<l.length/\l.length<=1099511627776) (λl=>zB (l5 l)) (λ_=>[])
def xCi (l:List Int):List ib:=[{ι:=Nat,dv:=λj=>[(3,zB (tE (l.take j))),(4,zB j)],rows:=λ_=>[]}]
def xCc (l:List Int):List ib:=[{ι:=Nat,dv:=λj=>[(3,zB (l5 (l.take j))),(4,zB j)],rows:=λ_=>[]}]
def bT (a:Nat×Nat) (b:List UInt8) (c:Nat×Nat->Prop) (d:Nat×Nat->Nat):Prop:=∃(e:Nat×Nat),(↑e.snd:Int)=ag.wrap ((↑a.snd:Int)+1)/\sb b=sb b/\e.fst=a.fst+(bg (sb b) a.fst).snd/\c e/\d e<d a/\True
def yOf (s:List UInt8):Prop:=
 ∃(a:Nat×Nat),(↑a.snd:Int)=0/\sb s=sb s/\a.fst=0/\∃(b:Nat×Nat->Prop),∃(c:Nat×Nat->Nat),b a/\∀(d:Nat×Nat),b d->du (d.fst.blt (sb s).size) (bT d s b c) (ez ((↑(jN s).length:Int)=(↑d.snd:Int)/\True))
def Ug (a:List UInt8) (b:Nat) (c:Nat->Prop) (d:Nat->Nat):Prop:=∃(e:Nat),sb a=sb a/\e=b+(bg (sb a) b).snd/\c e/\d e<d b/\True
def cQ (a:List UInt8) (b:Nat):=(↑(bg (sb a) b).fst:Int)
def y9g (s:List UInt8):Prop:=
 ∃(a:Nat),sb s=sb s/\a=0/\∃(b:Nat->Prop),∃(c:Nat->Nat),b a/\∀(d:Nat),b d->du (d.blt (sb s).size) (du (decide ((cQ s d)>=65)) (du (decide ((cQ s d)<=90)) (Ug s d b c) (du (decide ((cQ s d)>=913)) (du (decide ((cQ s d)<=937)) (du (!(cQ s d) !=930) (ez (vB s=aw/\True)) (Ug s d b c)) (ez (vB s=aw/\True))) (ez (vB s=aw/\True)))) (du (decide ((cQ s d)>=913)) (du (decide ((cQ s d)<=937)) (du (!(cQ s d) !=930) (ez (vB s=aw/\True)) (Ug s d b c)) (ez (vB s=aw/\True))) (ez (vB s=aw/\True)))) (du (!(sb s).toList==(ByteArray.mk #[]).toList) (∃(e:List UInt8),sb e=sb s/\e.length<=1099511627776/\fp (ez (vB s=decide ((↑(jN e).length:Int)<=4)/\True))) (ez (vB s=aw/\True)))
def aQ (a:Nat) (b:Nat->Prop) (c:Nat->Nat):Prop:=∃(d:Nat),jK d a b c
def yBu (l:List Int):Prop:=
 ∃(a:Nat),(↑a:Int)=0/\∃(b:Nat->Prop),∃(c:Nat->Nat),b a/\∀(d:Nat),b d->du (decide ((↑d:Int)<(↑(iE l).length:Int))) ((0<=(↑d:Int)/\(↑d:Int)<(↑(iE l).length:Int))/\∃(e:Int),zF (iE l) (↑d:Int).toNat 0 1=bc [dI e]/\du (decide (e<0)) (ez (xO l=aw/\True)) (du (decide (e>1199)) (ez (xO l=aw/\True)) (du (decide ((↑d:Int)>0)) ((0<=ag.wrap ((↑d:Int)-1)/\ag.wrap ((↑d:Int)-1)<(↑(iE l).length:Int))/\∃(f:Int),zF (iE l) (ag.wrap ((↑d:Int)-1)).toNat 0 1=bc [dI f]/\du (decide (f>=e)) (ez (xO l=aw/\True)) (aQ d b c)) (aQ d b c)))) (du (decide ((↑(iE l).length:Int)>=2)) (ez (xO l=decide ((↑(iE l).length:Int)<=6)/\True)) (ez (xO l=aw/\True)))
def y9n (l:List Int):Prop:=
 du (decide ((↑(iE l).length:Int)<1)) False (((0:Int)<=(0:Int)/\0<(↑(iE l).length:Int))/\∃(a:Int),zF (iE l) (bo 0) 0 1=bc [dI a]/\∃(b:Nat),tE (ab b l)=a/\(↑b:Int)=1/\∃(c:Nat->Prop),∃(d:Nat->Nat),c b/\∀(e:Nat),c e->du (decide ((↑e:Int)<(↑(iE l).length:Int))) ((0<=(↑e:Int)/\(↑e:Int)<(↑(iE l).length:Int))/\∃(f:Int),zF (iE l) (↑e:Int).toNat 0 1=bc [dI f]/\∃(g:Nat),tE (ab g l)=min (tE (ab e l)) f/\jK g e c d) (ez (tE l=tE (ab e l)/\True)))
def y9r (l:List Int):Prop:=
 du (decide ((↑(iE l).length:Int)<1)) False (((0:Int)<=(0:Int)/\0<(↑(iE l).length:Int))/\∃(a:Int),zF (iE l) (bo 0) 0 1=bc [dI a]/\∃(b:Nat),l5 (ab b l)=a/\(↑b:Int)=1/\∃(c:Nat->Prop),∃(d:Nat->Nat),c b/\∀(e:Nat),c e->du (decide ((↑e:Int)<(↑(iE l).length:Int))) ((0<=(↑e:Int)/\(↑e:Int)<(↑(iE l).length:Int))/\∃(f:Int),zF (iE l) (↑e:Int).toNat 0 1=bc [dI f]/\∃(g:Nat),(l5 (ab g l)=if f>l5 (ab e l)then f else l5 (ab e l))/\jK g e c d) (ez (l5 l=l5 (ab e l)/\True)))
@[simp] theorem T3 (s:List UInt8):(sb s).size=s.length:=by simp[sb,ByteArray.size]
def sM (s:List UInt8):(sb s).toList=s:=by rw[ByteArray.toList_eq];rfl
def y2s (s:List UInt8) (p k:Nat):(sb s).get! (p+k)=(sb (s.drop p)).get! (0+k):=by
 simp only[sb,ByteArray.get!,oC];simp only[List.getElem!_toArray,List.getElem!_eq_getElem?_getD,Bg]
def zOb (s:List UInt8) (p:Nat):bg (sb s) p=EU (s.drop p):=by
 have h (k:Nat):(decide (p+k<(sb s).size))=decide (0+k<(sb (s.drop p)).size):=by
  simp only[T3,qc];by_cases h:p+k<s.length
  ·rw[kx h,kx (by omega)]
  ·rw[jq h,jq (by omega)]
 unfold EU bg;simp only[y2s s p,h]
def aI (s:List UInt8) {p:Nat} (h:p<s.length):1<=(bg (sb s) p).2/\p+(bg (sb s) p).2<=s.length:=by
 unfold bg;simp only[T3,ld,sm];split
 ·exact⟨by simp,by simp;omega⟩
 split
 ·rename_i h1;split
  ·exact⟨by simp,by simp;omega⟩
  ·exact⟨by simp,by simp;omega⟩
 split
 ·rename_i h1;split
  ·exact⟨by simp,by simp;omega⟩
  ·exact⟨by simp,by simp;omega⟩
 split
 ·rename_i h1;split
  ·exact⟨by simp,by simp;omega⟩
  ·exact⟨by simp,by simp;omega⟩
 ·exact⟨by simp,by simp;omega⟩
def y3k {l:List UInt8} (h:l≠[]):1<=(EU l).2/\(EU l).2<=l.length:=by
 have:=aI l (p:=0) (by cases l<;>simp_all);rw[EU];omega
def eQ:∀(k:Nat) (p:Nat) (l:List UInt8),l.length<=k->MV k p l=MV l.length p l
 |0,p,l,h=>by
  have:l=[]:=zm oM;subst this;rfl
 |k+1,p,[],h=>rfl
 |k+1,p,b::l,h=>by
  have hw:=y3k (l:=b::l) (by simp);have hl:((b::l).drop (EU (b::l)).2).length<=l.length:=by rw[qc,iY];omega
  rw[iY];simp only[MV];rw[eQ k _ _ (by rw[iY]at h;omega),eQ l.length _ _ hl]
def hZ {s:List UInt8} {p:Nat} (h:s.length<=p):fE s p=[]:=by
 rw[fE,show s.length-p=0 by omega];rfl
def wC {s:List UInt8} {p:Nat} (h:p<s.length):fE s p=(p,(bg (sb s) p).1)::fE s (p+(bg (sb s) p).2):=by
 obtain⟨k,hk⟩:∃k,s.length-p=k+1:=⟨s.length-p-1,oM⟩
 have hw:=aI s h;obtain⟨b,l,hb⟩:∃b l,s.drop p=b::l:=by
  cases hd:s.drop p with
  |nil=>rw[List.drop_eq_nil_iff]at hd;omega
  |cons b l=>exact⟨b,l,rfl⟩
 have hlen:(b::l).length=s.length-p:=by rw[<- hb,qc]
 rw[fE,hk,hb,zOb,hb,fE];rw[zOb,hb]at hw;simp only[MV];have e:(b::l).drop (EU (b::l)).2=s.drop (p+(EU (b::l)).2):=by rw[<- hb,CU]
 rw[e,eQ k _ _ (by rw[qc];omega),qc]
def zSy (s:List UInt8):∀(k p:Nat),s.length-p<=k->(fE s p).length<=s.length-p
 |0,p,h=>by rw[hZ (by omega)];simp
 |k+1,p,h=>by
  by_cases hp:p<s.length
  ·have hw:=aI s hp;rw[wC hp,iY];have:=zSy s k (p+(bg (sb s) p).2) oM;omega
  ·rw[hZ (by omega)];simp
def Y3 (s:List UInt8):(jN s).length<=s.length:=by
 rw[jN,iz];have:=zSy s s.length 0 oM;omega
def VV {a b:Nat} (h:Nat.blt a b=aw):b<=a:=by
 rcases vx a b with h1|h1
 ·rw[show Nat.blt a b=ax by rw[zg];exact h1]at h;cases h
 ·exact h1
def yJo:(ByteArray.mk #[]).toList=[]:=sM []
def y1r (s:List UInt8) (h:Gk.du s):yOf s:=by
 have h:s.length<=1099511627776:=h;have hr:=Y3 s;unfold yOf ez bT;refine⟨(0,0),rfl,rfl,rfl,λx=>x.1<=s.length/\x.2+(fE s x.1).length=(jN s).length,λx=>s.length-x.1,⟨oM,by rw[jN,iz];simp⟩,?_⟩;rintro⟨p,n⟩ ⟨h1,h2⟩;dsimp only at h1 h2 ⊢;refine Cv.du.mk (λhp=> ?_) (λhp=> ?_)
 ·have hp:p<s.length:=by simpa[zg]using hp
  have hw:=aI s hp;rw[wC hp,iY]at h2;refine⟨(p+(bg (sb s) p).2,n+1),?_,rfl,rfl,⟨hw.2,by(first|omega|(dsimp only;omega))⟩,by(first|omega|(dsimp only;omega)),trivial⟩;rw[iD (by omega)];rfl
 ·have hp:s.length<=p:=by have:=VV hp;simpa using this
  rw[hZ hp]at h2;exact⟨(),by rw[<- h2];rfl,trivial⟩
def yPq:Gk.ok Tryz.prog 153:=ix mixed fx 0 (λ_=>[]) (λs=>y2d s) [] Tryz.func153 y1r
def xBm (s:List UInt8) (h:RI.du s):y9g s:=by
 have h:s.length<=1099511627776:=h;unfold y9g fp ez cQ Ug;refine⟨0,rfl,rfl,λp=>p<=s.length/\(jN s).all fN=(fE s p).all λx=>fN x.2,λp=>s.length-p,⟨oM,by rw[jN,List.all_map];rfl⟩,?_⟩;rintro p ⟨h1,h2⟩;refine Cv.du.mk (λhp=> ?_) (λhp=> ?_)
 ·have hp:p<s.length:=by simpa[zg]using hp
  have hw:=aI s hp;rw[wC hp,List.all_cons]at h2;generalize hc:(bg (sb s) p).1=c at h2 ⊢;generalize hww:(bg (sb s) p).2=w at h2 hw ⊢;dsimp only at h2;have bad:fN c=aw->∃(o:Unit),vB s=aw/\True:=λe=>⟨(),by rw[vB,h2,e];rfl,trivial⟩
  have qn:fN c=ax->∃i':Nat,sb s=sb s/\i'=p+w/\(i'<=s.length/\(jN s).all fN=(fE s i').all λx=>fN x.2)/\s.length-i'<s.length-p/\True:=λe=>⟨p+w,rfl,rfl,⟨hw.2,by rw[h2,e];rfl⟩,oM,trivial⟩
  refine zI (λc1=>zI (λc2=> ?_) (λc2=>zI (λc3=>zI (λc4=>Cv.du.mk (λc5=> ?_) (λc5=> ?_)) (λc4=> ?_)) (λc3=> ?_))) (λc1=>zI (λc3=>zI (λc4=>Cv.du.mk (λc5=> ?_) (λc5=> ?_)) (λc4=> ?_)) (λc3=> ?_))
  all_goals first|(refine qn ?_;simp[fN]at*;omega)|(refine bad ?_;simp[fN]at*;omega)
 ·have hp:s.length<=p:=by have:=VV hp;simpa using this
  rw[hZ hp]at h2;have h2:(jN s).all fN=ax:=h2;refine Cv.du.mk (λe=>⟨s,rfl,h,λ_ _=>⟨(),?_,trivial⟩⟩) (λe=>⟨(),?_,trivial⟩)
  ·rw[sM,yJo]at e;have:s≠[]:=by simpa using e
   rw[vB,h2,kx this];simp only[qj];congr 1;simp only[eq_iff_iff];omega
  ·have:s=[]:=by
    rw[sM,yJo]at e;simpa using e
   rw[vB,this];rfl
def y3b:RI.ok Tryz.prog 103:=ix mixed (dz yPq fx) 0 (λ_=>[]) (λs=>xBl s) [] Tryz.func103 xBm
@[simp] theorem yW (l:List Int):(iE l).length=l.length:=by simp[iE]
def rz {l:List Int} {k:Nat} {n:Int} (h:l[k]? =bc n):zF (iE l) k 0 1=bc [D.v (.int .i64 n)]:=by
 simp[zF,iE,h];rfl
def z6 {α:Type} {l:List α} {i:Nat} (h:i<l.length):∃x,l[i]? =bc x:=⟨l[i],xl h⟩
def zXd {n k:Nat} {f:Nat->Bool} (hk:k<n) (h:f k=aw):(ae n).all f=aw:=by
 cases hh:(ae n).all f
 ·rfl
 ·rw[DO]at hh;rw[hh k (by simpa using hk)]at h;cases h
def z6f {n:Nat} {f:Nat->Bool} (h:∀k<n,f k=ax):(ae n).all f=ax:=by
 rw[DO];intro k hk;exact h k (by simpa using hk)
def yVu (l:List Int) (h:DA.du l):yBu l:=by
 have h:l.length<=1099511627776:=h;unfold yBu ez aQ jK Q0 dI;simp only[yW];refine⟨0,rfl,λj=>j<=l.length/\∀k<j,kI l k=ax,λj=>l.length-j,⟨oM,λk hk=>by omega⟩,?_⟩;rintro j ⟨h1,h2⟩;have bad:j<l.length->kI l j=aw->∃(o:Unit),xO l=aw/\True:=λhj e=>⟨(),by rw[xO,zXd hj e];rfl,trivial⟩
 have qn:j<l.length->kI l j=ax->∃i':Nat,(i':Int)=ag.wrap ((j:Int)+1)/\(i'<=l.length/\∀k<i',kI l k=ax)/\l.length-i'<l.length-j/\True:=λhj e=>⟨j+1,by rw[iD (by omega)];rfl,⟨oM,λk hk=>by
  rcases vx k j with tb|tb
  ·exact h2 k tb
  ·obtain rfl:k=j:=by omega
   exact e⟩,oM,trivial⟩
 refine zI (λhj=> ?_) (λhj=> ?_)
 ·have hj:j<l.length:=by omega
  obtain⟨n,hn⟩:=z6 hj;have hg:l.getD j 0=n:=by simp[hn]
  refine⟨⟨oM,oM⟩,n,rz hn,zI (λc1=>bad hj (by simp[kI,hn];omega)) (λc1=>zI (λc2=>bad hj (by simp[kI,hn];omega)) (λc2=>zI (λc3=> ?_) (λc3=>qn hj ?_)))⟩
  ·have e:ag.wrap ((j:Int)-1)=((j-1:Nat):Int):=by rw[iD (by omega)];omega
   obtain⟨m,hm⟩:=z6 (l:=l) (i:=j-1) oM;rw[e];refine⟨⟨oM,oM⟩,m,rz hm,zI (λc4=>bad hj ?_) (λc4=>qn hj ?_)⟩
   ·simp[kI,hn,hm];omega
   ·simp[kI,hn,hm];omega
  ·simp[kI,hn];omega
 ·have e:(ae l.length).all (kI l)=ax:=z6f λk hk=>h2 k oM
  refine zI (λc=>⟨(),?_,trivial⟩) (λc=>⟨(),?_,trivial⟩)
  ·rw[xO,e,kx (show 2<=l.length by omega)];simp;omega
  ·rw[xO,jq (show ¬2<=l.length by omega)];simp
def yGe:DA.ok Tryz.prog 104:=ix mixed fx 0 (λ_=>[]) (λ_=>ySo) [] Tryz.func104 yVu
def ZU {f:Int->Int->Int} {l:List Int} {j:Nat} {n:Int} (h:l[j+1]? =bc n):(l.take (j+2)).tail.foldl f ((l.take (j+2)).headD 0)=f ((l.take (j+1)).tail.foldl f ((l.take (j+1)).headD 0)) n:=by
 cases l with
 |nil=>simp at h
 |cons a l=>
  simp only[A5]at h;simp only[xk,List.tail_cons,List.headD_cons];rw[tv,h,Jh];rfl
def z5h {l:List Int} {n:Int} (h:l[0]? =bc n) (f:Int->Int->Int):(l.take 1).tail.foldl f ((l.take 1).headD 0)=n:=by
 cases l with
 |nil=>simp at h
 |cons a l=>simpa using h
def xBn (l:List Int) (h:R6.du l):y9n l:=by
 obtain⟨h0,h⟩:0<l.length/\l.length<=1099511627776:=h;unfold y9n ez jK Q0 dI;simp only[yW];obtain⟨n,hn⟩:=z6 h0;refine zI (λc=>by omega) (λc=>⟨⟨oM,oM⟩,n,rz hn,1,z5h hn min,rfl,λj=>1<=j/\j<=l.length,λj=>l.length-j,⟨oM,oM⟩,?_⟩);rintro j ⟨h1,h2⟩;refine zI (λhj=> ?_) (λhj=>⟨(),?_,trivial⟩)
 ·obtain⟨m,hm⟩:=z6 (l:=l) (i:=j) oM;refine⟨⟨oM,oM⟩,m,rz hm,j+1,?_,?_,⟨oM,oM⟩,by(first|omega|(dsimp only;omega)),trivial⟩
  ·obtain⟨k,rfl⟩:∃k,j=k+1:=⟨j-1,oM⟩
   first
    |(rw[tE,ZU hm,<- tE];done)
    |(rw[tE,ZU hm,<- tE];generalize tE (l.take (k+1))=x;split<;>omega)
  ·rw[iD (by omega)];rfl
 ·rw[oV (by omega)]
def y0i:R6.ok Tryz.prog 106:=ix mixed fx 0 (λ_=>[]) (λl=>xCi l) [] Tryz.func106 xBn
def xAw (l:List Int) (h:R7.du l):y9r l:=by
 obtain⟨h0,h⟩:0<l.length/\l.length<=1099511627776:=h;unfold y9r ez jK Q0 dI;simp only[yW];obtain⟨n,hn⟩:=z6 h0;refine zI (λc=>by omega) (λc=>⟨⟨oM,oM⟩,n,rz hn,1,z5h hn max,rfl,λj=>1<=j/\j<=l.length,λj=>l.length-j,⟨oM,oM⟩,?_⟩);rintro j ⟨h1,h2⟩;refine zI (λhj=> ?_) (λhj=>⟨(),?_,trivial⟩)
 ·obtain⟨m,hm⟩:=z6 (l:=l) (i:=j) oM;refine⟨⟨oM,oM⟩,m,rz hm,j+1,?_,?_,⟨oM,oM⟩,by(first|omega|(dsimp only;omega)),trivial⟩
  ·obtain⟨k,rfl⟩:∃k,j=k+1:=⟨j-1,oM⟩
   rw[l5,ZU hm,<- l5];generalize l5 (l.take (k+1))=x;split<;>omega
  ·rw[iD (by omega)];rfl
 ·rw[oV (by omega)]
def y1e:R7.ok Tryz.prog 107:=ix mixed fx 0 (λ_=>[]) (λl=>xCc l) [] Tryz.func107 xAw
@[reducible] def fj.row (p:fj):fw:= .cells p.cells 25
structure KQ where
 p:fj
 n:Int
structure Hv where
 p:fj
 l:List Int
def kC (t n:Int):Bool:=n.tmod t !=0
def RV:gx:=gh KQ (λi=>[zB i.n,.nm 0 0]) (λi=>[i.p.row]) (λi=>1<=i.p.tick) (λi=>y4 (kC i.p.tick i.n)) (λi=>[i.p.row])
@[reducible] def y9v:V:= .fn 154 [] [.nm 0 0]
def IQ (k:Option Nat):Int:=match k with
 |some k=>k
 |none=> -1
def Sa:gx:=gh Hv (λi=>[iV i.l,y9v]) (λi=>[i.p.row]) (λi=>1<=i.p.tick/\i.l.length<=1099511627776) (λi=>zB (IQ (i.l.findIdx? (kC i.p.tick)))) (λi=>[i.p.row])
def xBa (i:Hv):List ib:=[{ι:=Nat,dv:=λj=>[(8,zB j)],rows:=λ_=>[]}]
def Aw:gx:=gh Hv (λi=>[iV i.l,y9v]) (λi=>[i.p.row]) (λi=>1<=i.p.tick/\i.l.length<=1099511627776) (λi=>y4 (i.l.any (kC i.p.tick))) (λi=>[i.p.row])
def qX (p:fj):Bool:=decide (1<=p.tick) && decide (p.tick<=1000) && !kC p.tick p.low && !kC p.tick p.high && !kC p.tick p.wide && !p.settle.any (kC p.tick)
def FR:gx:=gh fj (λp=>[oa p]) (λ_=>[]) fj.small (λp=>y4 (qX p)) (λ_=>[])
def kB (p:fj):Bool:=decide (p.low< -1000000)||decide (p.low>=p.high)||decide (p.high>1000000)||decide (p.wide<0)||decide (p.wide>p.high-p.low)
def xU (p:fj):Bool:=decide (p.settle.length≠p.dr.length)||decide (tE p.settle<p.low)||decide (l5 p.settle>p.high)
def jE (p:fj):Bool:=decide (p.gw<1)||decide (p.gw>3)
def qH (p:fj):Bool:=decide (p.top<0)||decide (p.top>1000000)||decide (p.least<1)||decide (p.least>1000)||decide (p.part<0)||decide (p.part>100)
def fj.check (p:fj):Int:=
 if !vB p.code then 12 else if !xO p.dr then 1 else if !qX p then 22 else if kB p then 23 else if xU p then 1 else if jE p then 31 else if qH p then 24 else 0
def Gm:gx:=gh fj (λp=>[oa p]) (λ_=>[]) fj.small (λp=>zB p.check) (λ_=>[])
def fj.count (p:fj):Nat:=if p.check=0 then p.dr.length+p.dr.length*(p.dr.length-1) / 2 else 0
def Dw:gx:=gh fj (λp=>[oa p]) (λ_=>[]) fj.small (λp=>zB p.count) (λ_=>[])
structure b6 where
 p:fj
 n:Int
def yJ (n:Nat):Nat->Nat
 |0=>n
 |k+1=>yJ n k+(n-1-k)
def kU (n inst:Nat):Nat->Nat->Int×Int×Bool
 |0,_=>(0,0,aw)
 |k+1,m=>if inst<yJ n m+(n-1-m)then(m,m+1+(inst-yJ n m:Nat),ax)else kU n inst k (m+1)
def fj.gf (p:fj) (i:Int):Int×Int×Bool:=
 if i<0\/(p.count:Int)<=i then(0,0,aw)else if i<p.dr.length then(i,i,aw)else kU p.dr.length i.toNat p.dr.length 0
def J2:gx:=gh b6 (λi=>[oa i.p,zB i.n]) (λ_=>[]) (λi=>i.p.small) (λi=> .jm [zB (i.p.gf i.n).1,zB (i.p.gf i.n).2.1,y4 (i.p.gf i.n).2.2]) (λ_=>[])
structure lW where
 p:fj
 a:Int
 b:Int
def fj.spread (p:fj) (a b:Int):Int×Bool:=
 if p.check≠0\/a<0\/b<=a\/(p.dr.length:Int)<=b then(0,aw)else((yJ p.dr.length a.toNat:Int)+b-a-1,ax)
def Dp:gx:=gh lW (λi=>[oa i.p,zB i.a,zB i.b]) (λ_=>[]) (λi=>i.p.small) (λi=> .jm [zB (i.p.spread i.a i.b).1,y4 (i.p.spread i.a i.b).2]) (λ_=>[])
def fj.dp (p:fj) (i n:Int):Int:=
 if p.count=0 then 1 else if i<0\/(p.count:Int)<=i then 20 else if kC p.tick n then 22 else
 if n<(if(p.dr.length:Int)<=i then-p.wide else p.low)\/(if(p.dr.length:Int)<=i then p.wide else p.high)<n then 23 else 0
def F0:gx:=gh lW (λi=>[oa i.p,zB i.a,zB i.b]) (λ_=>[]) (λi=>i.p.small) (λi=>zB (i.p.dp i.a i.b)) (λ_=>[])
structure I2 where
 x:Int
 y:Int
@[reducible] def ie (n:Int):Prop:= -9223372036854775808<=n/\n<=9223372036854775807
def gX (x y:Int):Int×Bool:=if ie (x+y)then(x+y,ax)else(0,aw)
def g7 (x y:Int):Int×Bool:=if ie (x-y)then(x-y,ax)else(0,aw)
def Sy:gx:=gh I2 (λi=>[zB i.x,zB i.y]) (λ_=>[]) (λi=>ie i.x/\ie i.y) (λi=> .jm [zB (gX i.x i.y).1,y4 (gX i.x i.y).2]) (λ_=>[])
def RK:gx:=gh I2 (λi=>[zB i.x,zB i.y]) (λ_=>[]) (λi=>ie i.x/\ie i.y) (λi=> .jm [zB (g7 i.x i.y).1,y4 (g7 i.x i.y).2]) (λ_=>[])
def y7j (i:b6):List ib:=[{ι:=Nat,dv:=λm=>[(8,zB (yJ i.p.dr.length m)),(33,zB m)],rows:=λ_=>[]}]
def yVd (i:lW):List ib:=[{ι:=Nat,dv:=λm=>[(9,zB (yJ i.p.dr.length m)),(33,zB m)],rows:=λ_=>[]}]
@[reducible] def Qv (a:fj)(R:Prop):Prop:=sb a.code=sb a.code/\iE a.dr=iE a.dr/\a.tick=a.tick/\a.low=a.low/\a.high=a.high/\a.wide=a.wide/\a.gw=a.gw/\a.top=a.top/\a.least=a.least/\a.part=a.part/\iE a.settle=iE a.settle/\R
@[reducible] def HZ (a:fj)(R:Prop):Prop:=ag=ag/\a.tick≠0/\R
def y7t (i:KQ):Prop:=HZ i.p (ez (kC i.p.tick i.n=(i.n.tmod i.p.tick !=0)/\Qv i.p (True)))
@[reducible] def Qa (a b:fj)(R:Prop):Prop:=sb a.code=sb b.code/\iE a.dr=iE b.dr/\a.tick=b.tick/\a.low=b.low/\a.high=b.high/\a.wide=b.wide/\a.gw=b.gw/\a.top=b.top/\a.least=b.least/\a.part=b.part/\iE a.settle=iE b.settle/\R
def y9a (i:Hv):Prop:=
 ∃(a:Nat),(↑a:Int)=0/\∃(b:Nat->Prop),∃(c:Nat->Nat),b a/\∀(d:Nat),b d->du (decide ((↑d:Int)<(↑(iE i.l).length:Int))) ((0<=(↑d:Int)/\(↑d:Int)<(↑(iE i.l).length:Int))/\∃(e:Int),zF (iE i.l) (↑d:Int).toNat 0 1=bc [dI e]/\∃(f:KQ),f.n=e/\Qa f.p i.p (1<=f.p.tick/\fp (du (kC f.p.tick f.n) (ez (IQ (List.findIdx? (kC i.p.tick) i.l)=(↑d:Int)/\Qa i.p f.p (True))) (∃(h:Nat),Q0 h d b c (ar [V.d (D.v (cd (sb f.p.code))),V.d (D.ro 1 (iE f.p.dr)),V.d (dI f.p.tick),V.d (dI f.p.low),V.d (dI f.p.high),V.d (dI f.p.wide),V.d (dI f.p.gw),V.d (dI f.p.top),V.d (dI f.p.least),V.d (dI f.p.part),V.d (D.ro 1 (iE f.p.settle))] (25:cf)=i.p.row))))) (ez (IQ (List.findIdx? (kC i.p.tick) i.l)=(-1)/\Qv i.p (True)))
def zWs (i:Hv):Prop:=
 ∃(a:Hv),iE a.l=iE i.l/\Qa a.p i.p ((1<=a.p.tick/\a.l.length<=1099511627776)/\fp (ez (i.l.any (kC i.p.tick)=decide (IQ (List.findIdx? (kC a.p.tick) a.l)>=0)/\Qa i.p a.p (True))))
def yRd (p:fj):Prop:=
 du (decide (p.tick<1)) (ez (qX p=aw/\True)) (du (decide (p.tick>1000)) (ez (qX p=aw/\True)) (∃(a:KQ),a.n=p.low/\Qa a.p p (1<=a.p.tick/\fp (du (!kC a.p.tick a.n) (∃(c:KQ),c.n=a.p.high/\Qa c.p a.p (1<=c.p.tick/\fp (du (!kC c.p.tick c.n) (∃(e:KQ),e.n=c.p.wide/\Qa e.p c.p (1<=e.p.tick/\fp (du (!kC e.p.tick e.n) (∃(g:Hv),iE g.l=iE e.p.settle/\Qa g.p e.p ((1<=g.p.tick/\g.l.length<=1099511627776)/\fp (ez (qX p=!g.l.any (kC g.p.tick)/\True)))) (ez (qX p=aw/\True))))) (ez (qX p=aw/\True))))) (ez (qX p=aw/\True))))))
@[reducible] def Q8 (a:fj)(R:Prop):Prop:=a.code.length<=1099511627776/\a.dr.length<=1099511627776/\R
def zU (a:fj):Prop:=Q8 a (a.settle.length<=1099511627776)
def vX (a:fj):=(↑(iE a.settle).length:Int)
def xN (a:fj):=(↑(iE a.dr).length:Int)
def yKo (p:fj):Prop:=
 ∃(a:List UInt8),sb a=sb p.code/\a.length<=1099511627776/\fp (du (!vB a) (ez (p.check=12/\True)) (∃(c:List Int),iE c=iE p.dr/\c.length<=1099511627776/\fp (du (!xO c) (ez (p.check=1/\True)) (∃(e:fj),Qa e p ((zU e)/\fp (du (!qX e) (ez (p.check=22/\True)) (du (decide (p.low<(-1000000))) (ez (p.check=23/\True)) (du (decide (p.low>=p.high)) (ez (p.check=23/\True)) (du (decide (p.high>1000000)) (ez (p.check=23/\True)) (du (decide (p.wide<0)) (ez (p.check=23/\True)) (du (decide (p.wide>ag.wrap (p.high-p.low))) (ez (p.check=23/\True)) (du ((vX p) !=(xN p)) (ez (p.check=1/\True)) (∃(g:List Int),iE g=iE p.settle/\(0<g.length/\g.length<=1099511627776)/\fp (dm p.low/\du (decide (tE g<p.low)) (ez (p.check=1/\True)) (∃(j:List Int),iE j=iE p.settle/\(0<j.length/\j.length<=1099511627776)/\fp (dm p.high/\du (decide (l5 j>p.high)) (ez (p.check=1/\True)) (du (decide (p.gw<1)) (ez (p.check=31/\True)) (du (decide (p.gw>3)) (ez (p.check=31/\True)) (du (decide (p.top<0)) (ez (p.check=24/\True)) (du (decide (p.top>1000000)) (ez (p.check=24/\True)) (du (decide (p.least<1)) (ez (p.check=24/\True)) (du (decide (p.least>1000)) (ez (p.check=24/\True)) (du (decide (p.part<0)) (ez (p.check=24/\True)) (du (decide (p.part>100)) (ez (p.check=24/\True)) (ez (p.check=0/\True))))))))))))))))))))))))))
def lH (a:fj) (b:fj):Prop:=Qa a b ((zU a)/\fp (du (a.check !=0) (ez ((↑b.count:Int)=0/\True)) (ag=ag/\(2:Int)≠(0:Int)/\ez ((↑b.count:Int)=ag.wrap ((xN b)+ag.wrap ((ag.wrap ((xN b)*ag.wrap ((xN b)-1))).tdiv 2))/\True))))
def yFa (p:fj):Prop:=
 ∃(a:fj),lH a p
@[reducible] def Q2 (a:fj)(R:Prop):Prop:=ar [V.d (D.v (cd (sb a.code))),V.own 0,V.d (dI a.tick),V.d (dI a.low),V.d (dI a.high),V.d (dI a.wide),V.d (dI a.gw),V.d (dI a.top),V.d (dI a.least),V.d (dI a.part),V.own 1] 25=ar [V.d (D.v (cd (sb a.code))),V.own 0,V.d (dI a.tick),V.d (dI a.low),V.d (dI a.high),V.d (dI a.wide),V.d (dI a.gw),V.d (dI a.top),V.d (dI a.least),V.d (dI a.part),V.own 1] 25/\ap 1 (iE a.settle)=ap 1 (iE a.settle)/\R
def pR (a:b6):Prop:=Q2 a.p (dm (ap 1 (iE a.p.dr)))
def UQ (a:Nat->Prop) (b:Nat) (c:Nat->Nat) (d:Nat) (e:b6):Prop:=a b/\c b<c d/\pR e
def gM (a:b6) (b:Nat):=(↑(yJ a.p.dr.length b):Int)
def uC (a:b6):=(↑(iE a.p.dr).length:Int)
def Zh (a:b6) (b:Nat):=((gM a b)+ag.wrap (ag.wrap ((uC a)-1)-(↑b:Int)))
def dL (a:b6):Prop:=ez ((a.p.gf a.n).fst=0/\(a.p.gf a.n).snd.fst=0/\(a.p.gf a.n).snd.snd=aw/\True)
def U5 (a:b6):Prop:=ez ((a.p.gf a.n).fst=a.n/\(a.p.gf a.n).snd.fst=a.n/\(a.p.gf a.n).snd.snd=aw/\True)
def yYr (i:b6):Prop:=
 ∃(a:fj),Qa a i.p ((zU a)/\fp (du (decide (i.n<0)) (dL i) (du (decide (i.n>=(↑a.count:Int))) (dL i) (du (decide (i.n<(uC i))) (U5 i) (∃(c:Nat),(gM i c)=(uC i)/\(↑c:Int)=0/\∃(d:Nat->Prop),∃(e:Nat->Nat),d c/\∀(f:Nat),d f->du (decide ((↑f:Int)<(uC i))) (du (decide (i.n<ag.wrap (Zh i f))) (ez ((i.p.gf i.n).fst=(↑f:Int)/\(i.p.gf i.n).snd.fst=ag.wrap (ag.wrap (ag.wrap ((↑f:Int)+1)+i.n)-(gM i f))/\(i.p.gf i.n).snd.snd=ax/\True)) (∃(g:Nat),(gM i g)=ag.wrap (Zh i f)/\(↑g:Int)=ag.wrap ((↑f:Int)+1)/\UQ d g e f i)) (dL i))))))
def aO (a:lW):Prop:=ez ((a.p.spread a.a a.b).fst=0/\(a.p.spread a.a a.b).snd=aw/\True)
@[reducible] def QD (a:Nat->Nat)(b c:Nat)(d:fj)(R:Prop):Prop:=a b<a c/\ar [V.d (D.v (cd (sb d.code))),V.own 0,V.d (dI d.tick),V.d (dI d.low),V.d (dI d.high),V.d (dI d.wide),V.d (dI d.gw),V.d (dI d.top),V.d (dI d.least),V.d (dI d.part),V.own 1] 25=ar [V.d (D.v (cd (sb d.code))),V.own 0,V.d (dI d.tick),V.d (dI d.low),V.d (dI d.high),V.d (dI d.wide),V.d (dI d.gw),V.d (dI d.top),V.d (dI d.least),V.d (dI d.part),V.own 1] 25/\ap 1 (iE d.settle)=ap 1 (iE d.settle)/\R
def yEm (i:lW):Prop:=
 ∃(a:fj),Qa a i.p ((zU a)/\fp (du (a.check !=0) (aO i) (du (decide (i.a<0)) (aO i) (du (decide (i.a>=i.b)) (aO i) (du (decide (i.b>=(↑(iE i.p.dr).length:Int))) (aO i) (∃(c:Nat),(↑(yJ i.p.dr.length c):Int)=(↑(iE i.p.dr).length:Int)/\(↑c:Int)=0/\∃(d:Nat->Prop),∃(e:Nat->Nat),d c/\∀(f:Nat),d f->du (decide ((↑f:Int)<i.a)) (∃(g:Nat),(↑(yJ i.p.dr.length g):Int)=ag.wrap ((↑(yJ i.p.dr.length f):Int)+ag.wrap (ag.wrap ((↑(iE i.p.dr).length:Int)-1)-(↑f:Int)))/\(↑g:Int)=ag.wrap ((↑f:Int)+1)/\d g/\QD e g f i.p (dm (ap 1 (iE i.p.dr)))) (ez ((i.p.spread i.a i.b).fst=ag.wrap (ag.wrap (ag.wrap ((↑(yJ i.p.dr.length f):Int)+i.b)-i.a)-1)/\(i.p.spread i.a i.b).snd=ax/\True))))))))
def yPh (i:lW):Prop:=
 ∃(a:fj),Qa a i.p ((zU a)/\fp (du ((↑a.count:Int)==0) (ez (i.p.dp i.a i.b=1/\True)) (du (decide (i.a<0)) (ez (i.p.dp i.a i.b=20/\True)) (du (decide (i.a>=(↑a.count:Int))) (ez (i.p.dp i.a i.b=20/\True)) (HZ i.p (du (i.b.tmod i.p.tick !=0) (ez (i.p.dp i.a i.b=22/\True)) (du (decide (i.a>=(↑(iE i.p.dr).length:Int))) (du (decide (i.b<ag.wrap (0-i.p.wide))) (ez (i.p.dp i.a i.b=23/\True)) (du (decide (i.b>i.p.wide)) (ez (i.p.dp i.a i.b=23/\True)) (ez (i.p.dp i.a i.b=0/\True)))) (du (decide (i.b<i.p.low)) (ez (i.p.dp i.a i.b=23/\True)) (du (decide (i.b>i.p.high)) (ez (i.p.dp i.a i.b=23/\True)) (ez (i.p.dp i.a i.b=0/\True)))))))))))
def X' (a:I2):Prop:=ez ((gX a.x a.y).fst=ag.wrap (a.x+a.y)/\(gX a.x a.y).snd=ax/\True)
def y7v (i:I2):Prop:=
 du (decide (i.x<0)==decide (i.y<0)) (du (!decide (ag.wrap (i.x+i.y)<0)==decide (i.x<0)) (ez ((gX i.x i.y).fst=0/\(gX i.x i.y).snd=aw/\True)) (X' i)) (X' i)
def X7 (a:I2):Prop:=ez ((g7 a.x a.y).fst=ag.wrap (a.x-a.y)/\(g7 a.x a.y).snd=ax/\True)
def y7b (i:I2):Prop:=
 du (!decide (i.x<0)==decide (i.y<0)) (du (!decide (ag.wrap (i.x-i.y)<0)==decide (i.x<0)) (ez ((g7 i.x i.y).fst=0/\(g7 i.x i.y).snd=aw/\True)) (X7 i)) (X7 i)
def xBs (i:KQ) (h:RV.du i):y7t i:=by
 have h:1<=i.p.tick:=h;unfold y7t HZ ez Qv;exact kp
def yQw:RV.ok Tryz.prog 154:=ix mixed fx 0 (λ_=>[]) (λ_=>[]) [] Tryz.func154 xBs
def ZV {α:Type} {f:α->Bool} {l:List α} (h:∀(k:Nat) (x:α),l[k]? =bc x->f x=aw):l.findIdx? f=be:=by
 rw[Ps];intro x hx;obtain⟨k,hk⟩:=Np hx;exact h k x hk
def YT {α:Type} {f:α->Bool} {l:List α} {j:Nat} {x:α} (h1:l[j]? =bc x) (h2:f x=ax) (h:∀k<j,∀x:α,l[k]? =bc x->f x=aw):l.findIdx? f=bc j:=by
 rw[Nr];obtain⟨hj,rfl⟩:=ju.1 h1;exact⟨hj,h2,λk hk=>by rw[h k hk _ (xl (by omega))];simp⟩
def xBg (i:Hv) (h:Sa.du i):y9a i:=by
 obtain⟨h1,h2⟩:1<=i.p.tick/\i.l.length<=1099511627776:=h;unfold y9a Q0 Qa fp ez Qv dI;simp only[yW];refine⟨0,rfl,λj=>j<=i.l.length/\∀k<j,∀x,i.l[k]? =bc x->kC i.p.tick x=aw,λj=>i.l.length-j,⟨oM,λk hk=>by omega⟩,?_⟩;rintro j ⟨h3,h4⟩;refine zI (λhj=> ?_) (λhj=> ?_)
 ·obtain⟨n,hn⟩:=z6 (l:=i.l) (i:=j) oM;refine⟨⟨oM,oM⟩,n,rz hn,⟨i.p,n⟩,?_⟩
  (repeat'(first|exact rfl|exact trivial|assumption|apply ba|refineλ(_:Unit) (_:True)=>?_|refine ay () ?_|omega|(dsimp only;omega)))
  refine Cv.du.mk (λe=> ?_) (λe=> ?_)
  ·rw[YT hn e h4];exact kp
  ·refine⟨j+1,by rw[iD (by omega)];rfl,⟨oM,λk hk x hx=> ?_⟩,by(first|omega|(dsimp only;omega)),rfl⟩;rcases vx k j with tb|tb
   ·exact h4 k tb x hx
   ·obtain rfl:k=j:=by omega
    rw[hn]at hx;cases hx;exact e
 ·rw[ZV λk x hx=>h4 k (by have:=(ju.1 hx).1;omega) x hx];exact kp
def y1n:Sa.ok Tryz.prog 191:=ix mixed (dz yQw fx) 0 (λ_=>[]) (λi=>xBa i) [] Tryz.func191 xBg
def yGj {l:List Int} {f:Int->Bool}:l.any f=decide (IQ (l.findIdx? f)>=0):=by
 cases hf:l.findIdx? f with
 |none=>
  rw[Ps]at hf;have:l.any f=aw:=by rw[KW];intro x hx;simp[hf x hx]
  rw[this];rfl
 |some k=>
  rw[Nr]at hf;obtain⟨hk,h1,_⟩:=hf;have:l.any f=ax:=by rw[Nj];exact⟨_,List.getElem_mem hk,h1⟩
  rw[this,IQ,kx (by omega)]
def yIu (i:Hv) (h:Aw.du i):zWs i:=by
 unfold zWs Qa fp ez;have h':1<=i.p.tick/\i.l.length<=1099511627776:=h;refine⟨i,?_⟩
 (repeat'(first|exact rfl|exact trivial|assumption|apply ba|refineλ(_:Unit) (_:True)=>?_|refine ay () ?_|omega|(dsimp only;omega)))
 exact yGj
def z3y:Aw.ok Tryz.prog 155:=ix mixed (dz y1n fx) 0 (λ_=>[]) (λ_=>[]) [] Tryz.func155 yIu
def y2x (p:fj) (h:FR.du p):yRd p:=by
 obtain⟨h1,h2,h3⟩:p.small:=h;unfold yRd Qa fp ez;refine zI (λc1=>⟨(),by rw[qX,jq (by omega)];rfl,trivial⟩) (λc1=>zI (λc2=>⟨(),by rw[qX,jq (show ¬p.tick<=1000 by omega)];simp,trivial⟩) (λc2=>⟨⟨p,p.low⟩,?_⟩));have e1:qX p=(!kC p.tick p.low && !kC p.tick p.high && !kC p.tick p.wide && !p.settle.any (kC p.tick)):=by
  rw[qX,kx (by omega),kx (by omega)];rfl
 rw[e1]
 (repeat'(first|exact rfl|exact trivial|assumption|apply ba|refineλ(_:Unit) (_:True)=>?_|refine ay () ?_|omega|(dsimp only;omega)))
 refine Cv.du.mk (λc3=>⟨⟨p,p.high⟩,?_⟩) (λc3=>⟨(),?_,trivial⟩)
 ·dsimp only at c3
  (repeat'(first|exact rfl|exact trivial|assumption|apply ba|refineλ(_:Unit) (_:True)=>?_|refine ay () ?_|omega|(dsimp only;omega)))
  refine Cv.du.mk (λc4=>⟨⟨p,p.wide⟩,?_⟩) (λc4=>⟨(),?_,trivial⟩)
  ·dsimp only at c4
   (repeat'(first|exact rfl|exact trivial|assumption|apply ba|refineλ(_:Unit) (_:True)=>?_|refine ay () ?_|omega|(dsimp only;omega)))
   refine Cv.du.mk (λc5=>⟨⟨p,p.settle⟩,?_⟩) (λc5=>⟨(),?_,trivial⟩)
   ·dsimp only at c5
    (repeat'(first|exact rfl|exact trivial|assumption|apply ba|refineλ(_:Unit) (_:True)=>?_|refine ay () ?_|omega|(dsimp only;omega)))
    rw[c3,c4,c5];simp
   ·dsimp only at c5;rw[c5];simp
  ·dsimp only at c4;rw[c4];simp
 ·dsimp only at c3;rw[c3];simp
def yLk:FR.ok Tryz.prog 105:=ix mixed (dz yQw (dz z3y fx)) 0 (λ_=>[]) (λ_=>[]) [] Tryz.func105 y2x
def y3d (p:fj) (h:Gm.du p):yKo p:=by
 obtain⟨h1,h2,h3⟩:p.small:=h;unfold yKo Qa fp ez xN vX zU Q8;simp only[yW];refine⟨p.code,rfl,h1,λ_ _=>Cv.du.mk (λc1=>⟨(),by rw[fj.check,fk c1],trivial⟩) (λc1=>⟨p.dr,rfl,h2,λ_ _=>Cv.du.mk (λc2=>⟨(),by rw[fj.check,dx (by simp[c1]),fk c2],trivial⟩) (λc2=>⟨p,?_⟩)⟩)⟩
 (repeat'(first|exact rfl|exact trivial|assumption|apply ba|refineλ(_:Unit) (_:True)=>?_|refine ay () ?_|omega|(dsimp only;omega)))
 refine Cv.du.mk (λc3=>⟨(),by rw[fj.check,dx (by simp[c1]),dx (by simp[c2]),fk c3],trivial⟩) (λc3=> ?_);have e0:p.check=if kB p then 23 else if xU p then 1 else if jE p then 31 else if qH p then 24 else 0:=by
  rw[fj.check,dx (by simp[c1]),dx (by simp[c2]),dx (by simp[c3])]
 have b (hb:kB p=ax):∃(o:Unit),p.check=23/\True:=⟨(),by rw[e0,fk hb],trivial⟩
 refine zI (λd1=>b (by simp[kB,d1])) λd1=>zI (λd2=>b (by simp[kB];omega)) λd2=>zI (λd3=>b (by simp[kB];omega)) λd3=>zI (λd4=>b (by simp[kB];omega)) λd4=> ?_
 rw[iD (by omega)];refine zI (λd5=>b (by simp[kB];omega)) λd5=> ?_
 have e1:p.check=if xU p then 1 else if jE p then 31 else if qH p then 24 else 0:=by
  rw[e0,dx (by simp[kB];omega)]
 have s (hb:xU p=ax):∃(o:Unit),p.check=1/\True:=⟨(),by rw[e1,fk hb],trivial⟩
 have hm:2<=p.dr.length:=by
  have c2:xO p.dr=ax:=by simpa using c2
  simp[xO]at c2;omega
 refine Cv.du.mk (λd6=>s (by have d6:¬(p.settle.length:Int)=p.dr.length:=(by simpa using d6);simp[xU];omega)) λd6=> ?_
 have d6:p.settle.length=p.dr.length:=by
  have:(p.settle.length:Int)=p.dr.length:=by simpa using d6
  omega
 refine⟨p.settle,rfl,⟨oM,oM⟩,λ_ _=>⟨kp,zI (λd7=>s (by simp[xU];left;right;omega)) λd7=>⟨p.settle,rfl,⟨oM,oM⟩,λ_ _=>⟨kp,zI (λd8=>s (by simp[xU];right;omega)) λd8=> ?_⟩⟩⟩⟩;have e2:p.check=if jE p then 31 else if qH p then 24 else 0:=by
  rw[e1,dx (by simp[xU];omega)]
 have r (hb:jE p=ax):∃(o:Unit),p.check=31/\True:=⟨(),by rw[e2,fk hb],trivial⟩
 refine zI (λd9=>r (by simp[jE];omega)) λd9=>zI (λd10=>r (by simp[jE];omega)) λd10=> ?_
 have e3:p.check=if qH p then 24 else 0:=by
  rw[e2,dx (by simp[jE];omega)]
 have q (hb:qH p=ax):∃(o:Unit),p.check=24/\True:=⟨(),by rw[e3,fk hb],trivial⟩
 refine zI (λf1=>q (by simp[qH];omega)) λf1=>zI (λf2=>q (by simp[qH];omega)) λf2=>zI (λf3=>q (by simp[qH];omega)) λf3=>zI (λf4=>q (by simp[qH];omega)) λf4=>zI (λf5=>q (by simp[qH];omega)) λf5=>zI (λf6=>q (by simp[qH];omega)) λf6=> ?_
 exact⟨(),by rw[e3,dx (by simp[qH];omega)],trivial⟩
def mU:Gm.ok Tryz.prog 43:=ix mixed (dz y3b (dz yGe (dz yLk (dz y0i (dz y1e fx))))) 0 (λ_=>[]) (λ_=>[]) [] Tryz.func43 y3d
structure fj.Ok (p:fj):Prop where
 sym:vB p.code=ax
 dr:xO p.dr=ax
 aa5:qX p=ax
 m2:2<=p.dr.length
 m6:p.dr.length<=6
 t1:1<=p.tick
 t2:p.tick<=1000
 b1: -1000000<=p.low
 b2:p.low<p.high
 b3:p.high<=1000000
 b4:0<=p.wide
 b5:p.wide<=p.high-p.low
 s1:p.settle.length=p.dr.length
 s2:p.low<=tE p.settle
 s3:l5 p.settle<=p.high
 r1:1<=p.gw
 r2:p.gw<=3
 q1:0<=p.top
 q2:p.top<=1000000
 q3:1<=p.least
 q4:p.least<=1000
 q5:0<=p.part
 q6:p.part<=100
def qF {p:fj} (h:p.check=0):p.Ok:=by
 unfold fj.check at h;split at h<;>first|(exfalso;revert h;decide)|skip
 rename_i c1;split at h<;>first|(exfalso;revert h;decide)|skip
 rename_i c2;split at h<;>first|(exfalso;revert h;decide)|skip
 rename_i c3;split at h<;>first|(exfalso;revert h;decide)|skip
 rename_i c4;split at h<;>first|(exfalso;revert h;decide)|skip
 rename_i c5;split at h<;>first|(exfalso;revert h;decide)|skip
 rename_i c6;split at h<;>first|(exfalso;revert h;decide)|skip
 rename_i c7;simp only[HA,Bool.not_eq_false,Bool.not_eq_true]at c1 c2 c3;have m:=c2;have t:=c3;simp[xO]at m;simp[qX]at t;simp[kB]at c4;simp[xU]at c5;simp[jE]at c6;simp[qH]at c7;exact⟨c1,c2,c3,oM,oM,oM,oM,oM,oM,oM,oM,oM,oM,oM,oM,oM,oM,oM,oM,oM,oM,oM,oM⟩
def yKw {n:Nat} (h:n<=6):n+n*(n-1) / 2<=21:=by
 have:∀n≤6,n+n*(n-1) / 2<=21:=by decide
 exact this n h
def yUk (p:fj) (h:Dw.du p):yFa p:=by
 unfold yFa lH Qa fp ez xN zU Q8;obtain⟨h1,h2,h3⟩:p.small:=h;refine⟨p,?_⟩;simp only[yW]
 (repeat'(first|exact rfl|exact trivial|assumption|apply ba|refineλ(_:Unit) (_:True)=>?_|refine ay () ?_|omega|(dsimp only;omega)))
 refine Cv.du.mk (λc=>⟨(),by rw[fj.count,dx (by simpa using c)];rfl,trivial⟩) (λc=> ?_);have c:p.check=0:=by simpa using c
 have ok:=qF c;refine⟨kp,Z8,(),?_,trivial⟩;rw[fj.count,fk c];obtain⟨n,hn⟩:∃n,p.dr.length=n:=⟨_,rfl⟩
 have m2:=ok.m2;have m6:=ok.m6;rw[hn]at m2 m6 ⊢;have:n=2\/n=3\/n=4\/n=5\/n=6:=by omega
 rcases this with rfl|rfl|rfl|rfl|rfl<;>rfl
def bN:Dw.ok Tryz.prog 44:=ix mixed (dz mU fx) 0 (λ_=>[]) (λ_=>[]) [] Tryz.func44 yUk
def OU {p:fj} (h:p.count≠0):p.check=0:=by
 unfold fj.count at h;split at h
 ·assumption
 ·exact absurd rfl h
def xQ (p:fj):p.count<=21:=by
 unfold fj.count;split
 ·rename_i h;exact yKw (qF h).m6
 ·omega
def Yo {n m:Nat} (h:n<=6) (hm:m<=n):yJ n m<=21:=by
 have:∀n≤6,∀m≤n,yJ n m<=21:=by decide
 exact this n h m hm
def y7a (i:b6) (h:J2.du i):yYr i:=by
 unfold yYr Qa fp ez U5 ez dL ez Zh uC gM UQ pR Q2 zU Q8 dI;obtain⟨h1,h2,h3⟩:i.p.small:=h;refine⟨i.p,?_⟩;simp only[yW]
 (repeat'(first|exact rfl|exact trivial|assumption|apply ba|refineλ(_:Unit) (_:True)=>?_|refine ay () ?_|omega|(dsimp only;omega)))
 refine zI (λc1=> ?_) (λc1=>zI (λc2=> ?_) (λc2=> ?_))
 ·rw[fj.gf,fk (by omega)];exact kp
 ·rw[fj.gf,fk (by omega)];exact kp
 have c2:¬i.n>=(i.p.count:Int):=c2;have hc:=xQ i.p;have ok:=qF (OU (p:=i.p) oM);have m6:=ok.m6;refine zI (λc3=> ?_) (λc3=> ?_)
 ·rw[fj.gf,dx (by omega),fk c3];exact kp
 have e0:i.p.gf i.n=kU i.p.dr.length i.n.toNat i.p.dr.length 0:=by
  rw[fj.gf,dx (by omega),dx c3]
 rw[e0];generalize hn:i.p.dr.length=n at c3 m6 ⊢;obtain⟨k,hk⟩:∃k:Nat,i.n=k:=⟨i.n.toNat,oM⟩
 rw[hk]at c2 c3 ⊢;refine⟨0,rfl,rfl,λm=>m<=n/\yJ n m<=k/\kU n k n 0=kU n k (n-m) m,λm=>n-m,⟨oM,by show n<=k;omega,rfl⟩,?_⟩;rintro m ⟨g1,g2,g3⟩;have hf:=Yo m6 g1;refine zI (λc4=> ?_) (λc4=> ?_)
 ·obtain⟨r,hr⟩:∃r,n-m=r+1:=⟨n-m-1,oM⟩
  have e1:(k:Int).toNat=k:=by omega
  rw[e1,g3,hr,iD (x:=(n:Int)-1) (by omega),iD (x:=(n:Int)-1-m) (by omega),iD (x:=(yJ n m:Int)+((n:Int)-1-m)) (by omega),iD (x:=(m:Int)+1) (by omega)];rw[hr]at g3;refine zI (λc5=> ?_) (λc5=> ?_)
  ·rw[iD (x:=(m:Int)+1+k) (by omega),iD (x:=(m:Int)+1+k-(yJ n m:Int)) (by omega),kU,fk (by omega)];refine⟨(),rfl,?_,rfl,trivial⟩;dsimp only;omega
  ·refine⟨m+1,?_,rfl,⟨oM,?_,?_⟩,by(first|omega|(dsimp only;omega)),kp⟩
   ·rw[yJ];omega
   ·rw[yJ];omega
   ·rw[kU,dx (by omega),show n-(m+1)=r by omega]
 ·have e1:(k:Int).toNat=k:=by omega
  rw[e1,g3,show n-m=0 by omega];exact⟨(),jh trivial⟩
def tG:J2.ok Tryz.prog 119:=ix mixed (dz bN fx) 0 (λ_=>[]) (λi=>y7j i) [] Tryz.func119 y7a
def yUf (i:lW) (h:Dp.du i):yEm i:=by
 unfold yEm QD Qa fp ez aO ez zU Q8 dI;obtain⟨h1,h2,h3⟩:i.p.small:=h;refine⟨i.p,?_⟩;simp only[yW]
 (repeat'(first|exact rfl|exact trivial|assumption|apply ba|refineλ(_:Unit) (_:True)=>?_|refine ay () ?_|omega|(dsimp only;omega)))
 have bad (hb:i.p.check≠0\/i.a<0\/i.b<=i.a\/(i.p.dr.length:Int)<=i.b):∃(o:Unit),(i.p.spread i.a i.b).fst=0/\(i.p.spread i.a i.b).snd=aw/\True:=⟨(),by rw[fj.spread,fk hb],by rw[fj.spread,fk hb],trivial⟩
 refine Cv.du.mk (λc1=>bad (.inl (by simpa using c1))) λc1=>zI (λc2=>bad oM) λc2=>zI (λc3=>bad oM) λc3=>zI (λc4=>bad oM) λc4=> ?_
 have c1:i.p.check=0:=by simpa using c1
 have m6:=(qF c1).m6;rw[fj.spread,dx (by omega)];generalize hn:i.p.dr.length=n at c4 m6 ⊢;obtain⟨a,ha⟩:∃k:Nat,i.a=k:=⟨i.a.toNat,oM⟩
 rw[ha]at c3 ⊢;refine⟨0,rfl,rfl,λm=>m<=a,λm=>a-m,oM,?_⟩;intro m hm;have hm:m<=a:=hm;have hf:=Yo (m:=m) m6 oM;refine zI (λc5=> ?_) (λc5=> ?_)
 ·rw[iD (x:=(n:Int)-1) (by omega),iD (x:=(n:Int)-1-m) (by omega),iD (x:=(yJ n m:Int)+((n:Int)-1-m)) (by omega),iD (x:=(m:Int)+1) (by omega)];refine⟨m+1,?_,rfl,oM,by(first|omega|(dsimp only;omega)),kp⟩;rw[yJ];omega
 ·obtain rfl:m=a:=by omega
  rw[iD (x:=(yJ n m:Int)+i.b) (by omega),iD (x:=(yJ n m:Int)+i.b-m) (by omega),iD (x:=(yJ n m:Int)+i.b-m-1) (by omega)];exact⟨(),rfl,rfl,trivial⟩
def zVx:Dp.ok Tryz.prog 173:=ix mixed (dz mU fx) 0 (λ_=>[]) (λi=>yVd i) [] Tryz.func173 yUf
def yZz (i:lW) (h:F0.du i):yPh i:=by
 unfold yPh Qa HZ fp ez zU Q8;obtain⟨h1,h2,h3⟩:i.p.small:=h;refine⟨i.p,?_⟩;simp only[yW]
 (repeat'(first|exact rfl|exact trivial|assumption|apply ba|refineλ(_:Unit) (_:True)=>?_|refine ay () ?_|omega|(dsimp only;omega)))
 refine Cv.du.mk (λc1=>⟨(),by rw[fj.dp,fk (by have:(i.p.count:Int)=0:=(by simpa using c1);omega)],trivial⟩) λc1=> ?_
 have c1:i.p.count≠0:=by
  have:¬(i.p.count:Int)=0:=by simpa using c1
  omega
 have e0:i.p.dp i.a i.b=if i.a<0\/(i.p.count:Int)<=i.a then 20 else if kC i.p.tick i.b then 22 else
  if i.b<(if(i.p.dr.length:Int)<=i.a then-i.p.wide else i.p.low)\/(if(i.p.dr.length:Int)<=i.a then i.p.wide else i.p.high)<i.b then 23 else 0:=by rw[fj.dp,dx c1]
 rw[e0];have ok:=qF (OU c1);obtain⟨t1,b3,b1,b2,b4,b5⟩:=(⟨ok.t1,ok.b3,ok.b1,ok.b2,ok.b4,ok.b5⟩:_/\_/\_/\_/\_/\_)
 refine zI (λc2=>⟨(),by rw[fk (.inl c2)],trivial⟩) λc2=>zI (λc3=>⟨(),by rw[fk (.inr c3)],trivial⟩) λc3=>⟨kp,oM,?_⟩
 have c3:¬i.a>=(i.p.count:Int):=c3;rw[dx (by omega)];refine Cv.du.mk (λc4=>⟨(),fk c4,trivial⟩) λc4=> ?_
 rw[dx (by rw[kC,c4];simp),iD (x:=0-i.p.wide) (by omega)];refine zI (λc5=> ?_) (λc5=> ?_)
 ·have c5:(i.p.dr.length:Int)<=i.a:=c5;simp only[fk c5];refine zI (λc6=>⟨(),fk (.inl oM),trivial⟩) λc6=>zI (λc7=>⟨(),fk (.inr oM),trivial⟩) λc7=>⟨(),dx oM,trivial⟩
 ·have c5:¬(i.p.dr.length:Int)<=i.a:=c5;simp only[dx c5];refine zI (λc6=>⟨(),fk (.inl oM),trivial⟩) λc6=>zI (λc7=>⟨(),fk (.inr oM),trivial⟩) λc7=>⟨(),dx oM,trivial⟩
def l9:F0.ok Tryz.prog 123:=ix mixed (dz bN fx) 0 (λ_=>[]) (λ_=>[]) [] Tryz.func123 yZz
def yYp (x:Int) (h: -18446744073709551616<=x/\x<18446744073709551616):(ie x/\ag.wrap x=x)\/(9223372036854775807<x/\ag.wrap x=x-18446744073709551616)\/(x< -9223372036854775808/\ag.wrap x=x+18446744073709551616):=by
 have e:ag.wrap x=if(decide (x % 18446744073709551616>=9223372036854775808))=ax then x % 18446744073709551616-18446744073709551616 else x % 18446744073709551616:=by
  have:ag.wrap x=if(ax && decide (x % 18446744073709551616>=9223372036854775808))=ax then x % 18446744073709551616-18446744073709551616 else x % 18446744073709551616:=rfl
  rw[this,qj]
 have e:ag.wrap x=(x+9223372036854775808) % 18446744073709551616-9223372036854775808:=by
  rw[e];by_cases h2:x % 18446744073709551616>=9223372036854775808
  ·rw[fk (kx h2)];omega
  ·rw[dx (by simpa using h2)];omega
 rw[e];by_cases h1:ie x
 ·exact .inl ⟨h1,by unfold ie at h1;omega⟩
 ·unfold ie at h1;omega
def xBw (i:I2) (h:Sy.du i):y7v i:=by
 obtain⟨⟨x1,x2⟩,y1,y2⟩:ie i.x/\ie i.y:=h;have hw:=yYp (i.x+i.y) oM;unfold y7v ez X' ez gX;generalize ag.wrap (i.x+i.y)=w at hw ⊢;unfold ie at hw ⊢;refine Cv.du.mk (λc1=>Cv.du.mk (λc2=> ?_) (λc2=> ?_)) (λc1=> ?_)
 all_goals(simp at*)
 ·rw[dx (by omega)];exact kp
 ·rw[fk (by omega)];refine⟨?_,rfl⟩;dsimp only;omega
 ·rw[fk (by omega)];refine⟨?_,rfl⟩;dsimp only;omega
def Vs:Sy.ok Tryz.prog 205:=ix mixed fx 0 (λ_=>[]) (λ_=>[]) [] Tryz.func205 xBw
def xBb (i:I2) (h:RK.du i):y7b i:=by
 obtain⟨⟨x1,x2⟩,y1,y2⟩:ie i.x/\ie i.y:=h;have hw:=yYp (i.x-i.y) oM;unfold y7b ez X7 ez g7;generalize ag.wrap (i.x-i.y)=w at hw ⊢;unfold ie at hw ⊢;refine Cv.du.mk (λc1=>Cv.du.mk (λc2=> ?_) (λc2=> ?_)) (λc1=> ?_)
 all_goals(simp at*)
 ·rw[dx (by omega)];exact kp
 ·rw[fk (by omega)];refine⟨?_,rfl⟩;dsimp only;omega
 ·rw[fk (by omega)];refine⟨?_,rfl⟩;dsimp only;omega
def Tq:RK.ok Tryz.prog 206:=ix mixed fx 0 (λ_=>[]) (λ_=>[]) [] Tryz.func206 xBb
structure Slot where
 used:Bool
 n:Int
 id:Int
 dq:Int
 top:Bool
 queue:Int
 ahead:Int
 back:Int
 deriving DecidableEq
structure cI where
 first:Int
 last:Int
 total:Int
 count:Int
 deriving DecidableEq
structure dw where
 dv:List Slot
 dy:List cI
 free:Int
 deriving DecidableEq
def zT (s:Slot):List D:=[.v (.bool s.used),.v (.int .i64 s.n),.v (.int .i64 s.id),.v (.int .i64 s.dq),.v (.bool s.top),.v (.int .i64 s.queue),.v (.int .i64 s.ahead),.v (.int .i64 s.back)]
def zQ (q:cI):List D:=[.v (.int .i64 q.first),.v (.int .i64 q.last),.v (.int .i64 q.total),.v (.int .i64 q.count)]
def iK:Slot:=⟨aw,0,0,0,aw,0,0,0⟩
def zG (a:dw):Nat->fw
 |0=> .cells [.own 1,.own 2,zB a.free] 317
 |1=> .own 314 8 (a.dv.map zT)
 |2=> .own 320 4 (a.dy.map zQ)
 |_=> .gone
def wL (a:dw):fw:= .sv dw 3 zG a
structure xV where
 dp:Int
 queue:Int
 deriving DecidableEq
structure Place where
 side:Int
 dp:Int
 slot:Int
 deriving DecidableEq
structure dt where
 a:dw
 fv:List xV
 ff:List xV
 at_:List (Int×Place)
 iN:Int
 iM:Int
 spare:List Int
 gp:Bool
 gj:Bool
 deriving DecidableEq
def zC (r:xV):List D:=[.v (.int .i64 r.dp),.v (.int .i64 r.queue)]
def z9f (p:Place):List D:=[.v (.int .i64 p.side),.v (.int .i64 p.dp),.v (.int .i64 p.slot)]
def jv (l:List (Int×Place)):List (ce×List D):=l.map λx=>(.int .i64 x.1,z9f x.2)
def zR (b:dt):Nat->fw
 |0=> .cells [.nm 1 0,.own 2,.own 3,.mp 4,zB b.iN,zB b.iM,.own 5,y4 b.gp,y4 b.gj] 273
 |1=>wL b.a
 |2=> .own 276 2 (b.fv.map zC)
 |3=> .own 276 2 (b.ff.map zC)
 |4=> .map (jv b.at_)
 |5=> .own 3 1 (iE b.spare)
 |_=> .gone
def yE (b:dt):fw:= .sv dt 6 zR b
structure ia where
 p:fj
 fc:List dt
 wh:List (Int×Int)
def z5 (l:List (Int×Int)):List (ce×List D):=l.map λx=>(.int .i64 x.1,[.v (.int .i64 x.2)])
def x5 (s:ia):Nat->fw
 |0=> .cells [sV s.p.code,.own 3,zB s.p.tick,zB s.p.low,zB s.p.high,zB s.p.wide,zB s.p.gw,zB s.p.top,zB s.p.least,zB s.p.part,.own 4,.own 1,.mp 2] 210
 |1=> .kg 211 dt 6 zR s.fc be
 |2=> .map (z5 s.wh)
 |3=> .kh 1 (iE s.p.dr)
 |4=> .kh 1 (iE s.p.settle)
 |_=> .gone
def zD (s:ia):fw:= .sv ia 5 x5 s
def N9 (n:Nat):dw:=⟨ac n iK,[],n⟩
def ou:dt:=⟨N9 250,[],[],[],0,0,[],aw,aw⟩
def JZ:gx:=gh Nat (λn=>[zB n]) (λ_=>[]) (λn=>1<=n/\n<=4096) (λ_=> .jm [.nm 0 0,zB 0]) (λn=>[wL (N9 n)])
def SN:gx:=gh Unit (λ_=>[]) (λ_=>[]) (λ_=>True) (λ_=> .nm 0 0) (λ_=>[yE ou])
def nD (p:fj):ia:=⟨p,ac p.count ou,[]⟩
def JX:gx where
 ι:=fj
 pat:=λp=>[oa p]
 pre:=λ_=>[]
 du:=λp=>p.small
 alts:=λp=>[{o:=Unit,res:=λ_=> .jm [.nm 0 0,zB 0],post:=λ_=>[zD (nD p)],rel:=λ_=>p.check=0},{o:=Unit,res:=λ_=> .jm [.d (.v (.pointer be)),zB p.check],post:=λ_=>[],rel:=λ_=>p.check≠0}]
def y7m (p:fj):List ib:=[{ι:=Nat,dv:=λj=>[(5,.nm 0 0),(27,zB j)],rows:=λj=>(ae 5).map (x5 ⟨p,ac j ou,[]⟩)}]
def IH:gx:=gh (List Slot) (λ_=>[.own 0]) (λl=>[.own 314 8 (l.map zT)]) (λl=>l.length<=1000000) (λ_=> .own 1) (λl=>[.own 314 8 (l.map zT),.own 314 8 (l.map zT)])
def GD:gx:=gh (List cI) (λ_=>[.own 0]) (λl=>[.own 320 4 (l.map zQ)]) (λl=>l.length<=1000000) (λ_=> .own 1) (λl=>[.own 320 4 (l.map zQ),.own 320 4 (l.map zQ)])
def II:gx:=gh (List xV) (λ_=>[.own 0]) (λl=>[.own 276 2 (l.map zC)]) (λl=>l.length<=1000000) (λ_=> .own 1) (λl=>[.own 276 2 (l.map zC),.own 276 2 (l.map zC)])
def Ms:gx:=gh (List Int) (λ_=>[.own 0]) (λl=>[.own 3 1 (iE l)]) (λl=>l.length<=1000000) (λ_=> .own 1) (λl=>[.own 3 1 (iE l),.own 3 1 (iE l)])
def Tx (f:Nat):gx:=gh (List (ce×List D)) (λ_=>[.mp 0]) (λes=>[.map es]) (λ_=>True) (λ_=> .mp 1) (λes=>[.map es,.map es])
def Av:gx:=Tx 0
def As:gx:=Tx 1
@[reducible] def dw.small (a:dw):Prop:=a.dv.length<=1000000/\a.dy.length<=1000000
@[reducible] def dt.small (b:dt):Prop:=b.a.small/\b.fv.length<=1000000/\b.ff.length<=1000000/\b.spare.length<=1000000
@[reducible] def ia.small (s:ia):Prop:=s.fc.length<=1000000/\∀b∈s.fc,b.small
def Mr:gx:=gh dw (λ_=>[.nm 0 0]) (λa=>[wL a]) dw.small (λ_=> .nm 1 0) (λa=>[wL a,wL a])
def Mq:gx:=gh dt (λ_=>[.nm 0 0]) (λb=>[yE b]) dt.small (λ_=> .nm 1 0) (λb=>[yE b,yE b])
def y4o:List ib:=[{ι:=Unit,dv:=λ_=>[],rows:=λ_=>[],un:=3}]
def Mp:gx:=gh ia (λ_=>[.nm 0 0]) (λs=>[zD s]) ia.small (λ_=> .nm 1 0) (λs=>[zD s,zD s])
def yXu (n:Nat):Prop:=
 du (decide ((↑n:Int)<1)) (ez (False)) (du (decide ((↑n:Int)>4096)) (ez (False)) ((0<=(↑n:Int)/\(↑n:Int)<=(↑n:Int)/\(↑n:Int)<=9223372036854775807/\(↑(64:Nat):Int)*(↑n:Int)<=2 ^ (48:Nat))/\ez (dm ((0:Int))/\dm ((↑n:Int))/\aa zT (ac n iK)=ac (↑n:Int).toNat [D.v (.bool aw),dI 0,dI 0,dI 0,D.v (.bool aw),dI 0,dI 0,dI 0]/\([]:List (List D))=[]/\True)))
def y9t (u:Unit):Prop:=
 ∃(i:Nat),(↑i:Int)=250/\(1<=i/\i<=4096)/\∀(o:Unit),True->∃(o:Unit),dm ((0:Int))/\dm ((0:Int))/\aw=aw/\aw=aw/\ao dw 3 zG (N9 250)=ao dw 3 zG (N9 i)/\([]:List (List D))=[]/\([]:List (List D))=[]/\jv []=[]/\iE []=[]/\True
@[reducible] def Qc (a:fj)(R:Prop):Prop:=sb a.code=sb a.code/\a.tick=a.tick/\a.low=a.low/\a.high=a.high/\a.wide=a.wide/\a.gw=a.gw/\a.top=a.top/\a.least=a.least/\a.part=a.part/\R
@[reducible] def Q4 (a:fj)(R:Prop):Prop:=ap 1 (iE a.dr)=ap 1 (iE a.dr)/\ap 1 (iE a.settle)=ap 1 (iE a.settle)/\R
def Zk (a:fj) (b:Nat):Prop:=ez (dm ((0:Int))/\Qc a (aq 211 dt 6 zR (ac a.count ou) be=aq 211 dt 6 zR (ac b ou) be/\dm (z5 [])/\Q4 a (a.check=0)))
def mI (a:fj):Prop:=ap 1 (iE a.settle)=ap 1 (iE a.settle)/\dm (ap 1 (iE a.dr))
def gJ (a:fj):=(D.v (cd (sb a.code)))
@[reducible] def Qp (a b:fj)(R:Prop):Prop:=a.tick=b.tick/\a.low=b.low/\a.high=b.high/\a.wide=b.wide/\a.gw=b.gw/\a.top=b.top/\a.least=b.least/\a.part=b.part/\R
@[reducible] def Qs (a:Nat)(b:List dt)(c:fj)(d:Nat->Prop)(e:Nat->Nat)(f:Nat)(R:Prop):Prop:=aq 211 dt 6 zR (ac a ou) be=aq 211 dt 6 zR (b++[ou]) be/\z5 []=z5 []/\ap 1 (iE c.dr)=ap 1 (iE c.dr)/\ap 1 (iE c.settle)=ap 1 (iE c.settle)/\d a/\e a<e f/\ap 1 ([]++iE c.settle)=ap 1 ([]++iE c.settle)/\ap 1 ([]++iE c.dr)=ap 1 ([]++iE c.dr)/\R
@[reducible] def QY (a:Nat)(b:fj)(R:Prop):Prop:=ac a ou=[]/\(be:Option Nat)=be/\z5 []=[]/\ap 1 (iE b.dr)=ap 1 ([]++iE b.dr)/\ap 1 (iE b.settle)=ap 1 ([]++iE b.settle)/\R
@[reducible] def Lu (a:fj)(R:Prop):Prop:=(0+(iE a.dr).length)*(8:Nat)<=(140737488355328:Nat)/\True/\R
def Ym (a:fj):Prop:=True/\True/\Lu a ((0+(iE a.settle).length)*(8:Nat)<=(140737488355328:Nat)/\∃(b:fj),sb b.code=sb a.code/\iE b.dr=[]++iE a.dr/\Qp b a (iE b.settle=[]++iE a.settle/\(zU b)/\fp (∃(d:Nat),(↑d:Int)=0/\Qc a (QY d a (∃(e:Nat->Prop),∃(f:Nat->Nat),e d/\∀(g:Nat),e g->du (decide ((↑g:Int)<(↑b.count:Int))) (ez (True/\fp (True/\True/\∃(k:List dt),aq 211 dt 6 zR (ac g ou) be=aq 211 dt 6 zR k be/\(k.length+1)*(8:Nat)<=(140737488355328:Nat)/\∃(l:Nat),(↑l:Int)=ag.wrap ((↑g:Int)+1)/\Qc a (Qs l k a e f g (dm (ar [V.d (gJ a),V.own 5,V.d (dI a.tick),V.d (dI a.low),V.d (dI a.high),V.d (dI a.wide),V.d (dI a.gw),V.d (dI a.top),V.d (dI a.least),V.d (dI a.part),V.own 6] 25)/\mI a))))) ((Zk a g)\/(ez (False))))))))
def yYc (p:fj):Prop:=
 ∃(a:fj),Qa a p ((zU a)/\fp (du (a.check !=0) ((ez (False))\/(ez (True/\p.check=a.check/\(p.check=0->False)))) ((True/\True/\(Lu p (True/\(0+(iE p.settle).length)*(8:Nat)<=(140737488355328:Nat)/\∃(c:fj),sb c.code=sb p.code/\iE c.dr=[]++iE p.dr/\Qp c p (iE c.settle=[]++iE p.settle/\(zU c)/\fp (∃(e:Nat),(↑e:Int)=0/\Qc p (QY e p (∃(f:Nat->Prop),∃(g:Nat->Nat),f e/\∀(h:Nat),f h->du (decide ((↑h:Int)<(↑c.count:Int))) (ez (True/\fp (True/\True/\∃(l:List dt),aq 211 dt 6 zR (ac h ou) be=aq 211 dt 6 zR l be/\(l.length+1)*(8:Nat)<=(140737488355328:Nat)/\∃(m:Nat),(↑m:Int)=ag.wrap ((↑h:Int)+1)/\Qc p (Qs m l p f g h (dm (ar [V.d (gJ p),V.own 4,V.d (dI p.tick),V.d (dI p.low),V.d (dI p.high),V.d (dI p.wide),V.d (dI p.gw),V.d (dI p.top),V.d (dI p.least),V.d (dI p.part),V.own 6] 25)/\mI p))))) ((Zk p h)\/(ez (False)))))))))/\Ym p)/\True/\True/\Ym p)))
def yUm (l:List Slot):Prop:=
 ∀(b:Bool),(b=ax->aa zT l=[])->du b (∃(o:Unit),dm (aa zT l)/\aa zT l=[]/\True) ((0+(aa zT l).length)*(64:Nat)<=(140737488355328:Nat)/\∃(o:Unit),dm (aa zT l)/\aa zT l=[]++aa zT l/\True)
def yNo (l:List cI):Prop:=
 ∀(b:Bool),(b=ax->aa zQ l=[])->du b (∃(o:Unit),dm (aa zQ l)/\aa zQ l=[]/\True) ((0+(aa zQ l).length)*(32:Nat)<=(140737488355328:Nat)/\∃(o:Unit),dm (aa zQ l)/\aa zQ l=[]++aa zQ l/\True)
def yUp (l:List xV):Prop:=
 ∀(b:Bool),(b=ax->aa zC l=[])->du b (∃(o:Unit),dm (aa zC l)/\aa zC l=[]/\True) ((0+(aa zC l).length)*(16:Nat)<=(140737488355328:Nat)/\∃(o:Unit),dm (aa zC l)/\aa zC l=[]++aa zC l/\True)
def y0d (l:List Int):Prop:=
 ∀(b:Bool),(b=ax->iE l=[])->du b (∃(o:Unit),iE l=iE l/\iE l=[]/\True) ((0+(iE l).length)*(8:Nat)<=(140737488355328:Nat)/\∃(o:Unit),iE l=iE l/\iE l=[]++iE l/\True)
def yOa (es:List (ce×List D)):Prop:=
 ∃(a:List (ce×List D)),a=es/\True/\fp (ez (es=a/\es=a/\True))
def y5p (es:List (ce×List D)):yOa es=walk Tryz.prog ([(174,vQ 271)]) 0 ([]) ([]) [] Tryz.f176 (Tryz.f176.body.getD .skip) (Av.pat es) (Av.pre es) (Av.alts es):=by kernel_rfl
def y4e (hG:Bs Tryz.prog ([(174,vQ 271)])) (h:∀(es:List (ce×List D)),Av.du es->yOa es):Av.ok Tryz.prog 176:=vV mixed ([(174,vQ 271)]) hG 0 (λ(es:List (ce×List D))=>[]) (λ(es:List (ce×List D))=>[]) [] Tryz.func176 (by kernel_rfl) (by kernel_rfl) (by kernel_rfl) (λ_=>by kernel_rfl) (λ(es:List (ce×List D)) hc=>Eq.mp (y5p es) (h es hc))
def yMt (es:List (ce×List D)):Prop:=
 ∃(a:List (ce×List D)),a=es/\True/\fp (ez (es=a/\es=a/\True))
def y0w (es:List (ce×List D)):yMt es=walk Tryz.prog ([(174,vQ 100)]) 0 ([]) ([]) [] Tryz.f124 (Tryz.f124.body.getD .skip) (As.pat es) (As.pre es) (As.alts es):=by kernel_rfl
def y3q (hG:Bs Tryz.prog ([(174,vQ 100)])) (h:∀(es:List (ce×List D)),As.du es->yMt es):As.ok Tryz.prog 124:=vV mixed ([(174,vQ 100)]) hG 0 (λ(es:List (ce×List D))=>[]) (λ(es:List (ce×List D))=>[]) [] Tryz.func124 (by kernel_rfl) (by kernel_rfl) (by kernel_rfl) (λ_=>by kernel_rfl) (λ(es:List (ce×List D)) hc=>Eq.mp (y0w es) (h es hc))
def y1c (a:dw):Prop:=
 ∃(i:List Slot),aa zT i=aa zT a.dv/\i.length<=1000000/\∀(o:Unit),True->dm a.free/\True/\∃(iC:List cI),aa zQ iC=aa zQ a.dy/\iC.length<=1000000/\∀(o:Unit),True->dm a.free/\∃(o:Unit),dm a.free/\aa zT a.dv=aa zT i/\aa zQ a.dy=aa zQ iC/\dm a.free/\aa zT a.dv=aa zT i/\aa zQ a.dy=aa zQ iC/\True
def y2h (b:dt):Prop:=
 ∃(i:dw),ao dw 3 zG i=ao dw 3 zG b.a/\(i.dv.length<=1000000/\i.dy.length<=1000000)/\∀(o:Unit),True->True/\True/\∃(iC:List (ce×List D)),iC=jv b.at_/\True/\∀(o:Unit),True->True/\∃(oy:List Int),iE oy=iE b.spare/\oy.length<=1000000/\∀(o:Unit),True->∃(Wv:List xV),aa zC Wv=aa zC b.fv/\Wv.length<=1000000/\∀(o:Unit),True->∃(Wu:List xV),aa zC Wu=aa zC b.ff/\Wu.length<=1000000/\∀(o:Unit),True->∃(o:Unit),dm b.iN/\dm b.iM/\dm b.gp/\dm b.gj/\ao dw 3 zG b.a=ao dw 3 zG i/\aa zC b.fv=aa zC Wv/\aa zC b.ff=aa zC Wu/\jv b.at_=iC/\iE b.spare=iE oy/\dm b.iN/\dm b.iM/\dm b.gp/\dm b.gj/\ao dw 3 zG b.a=ao dw 3 zG i/\aa zC b.fv=aa zC Wv/\aa zC b.ff=aa zC Wu/\jv b.at_=iC/\iE b.spare=iE oy/\True
def y7c (n:Nat) (h:JZ.du n):yXu n:=by
 obtain⟨h1,h2⟩:1<=n/\n<=4096:=h;unfold yXu ez dI;refine zI (λc=>by omega) λc=>zI (λc=>by omega) λc=> ?_
 refine⟨⟨oM,oM,oM,?_⟩,?_⟩
 ·have:(2:Int) ^ (48:Nat)=281474976710656:=by decide
  rw[this];omega
 ·refine⟨(),rfl,rfl,?_,rfl,trivial⟩;rw[Nl];rfl
def yWr:JZ.ok Tryz.prog 224:=ix mixed fx 0 (λ_=>[]) (λ_=>[]) [] Tryz.func224 y7c
def yWd:SN.ok Tryz.prog 209:=ix (V:=y9t) mixed (dz yWr fx) 0 (λ_=>[]) (λ_=>[]) [] Tryz.func209 λ(u:Unit) _=>by
 refine⟨250,rfl,⟨oM,oM⟩,?_⟩;exact kp
def y6e (p:fj) (h:JX.du p):yYc p:=by
 unfold yYc QY Qa Lu fp ez Qc Qp Qs Ym QY Lu fp ez Qc Qp Qs gJ mI Zk Q4 ez Qc zU Q8 dI;have hs:p.small:=h;obtain⟨h1,h2,h3⟩:p.small:=h;refine⟨p,?_⟩;simp only[yW]
 (repeat'(first|exact rfl|exact trivial|assumption|apply ba|refineλ(_:Unit) (_:True)=>?_|refine ay () ?_|omega|(dsimp only;omega)))
 refine Cv.du.mk (λc=> .inr ⟨(),trivial,kp,by simpa using c⟩) λc=> ?_
 have c:p.check=0:=by simpa using c
 have hc:=xQ p
 (repeat'(first|exact rfl|exact trivial|assumption|apply ba|refineλ(_:Unit) (_:True)=>?_|refine ay () ?_|omega|(dsimp only;omega)))
 all_goals(refine⟨p,?_⟩;(repeat'(first|exact rfl|exact trivial|assumption|apply ba|refineλ(_:Unit) (_:True)=>?_|refine ay () ?_|omega|(dsimp only;omega))))
 all_goals(refine⟨0,?_⟩;(repeat'(first|exact rfl|exact trivial|assumption|apply ba|refineλ(_:Unit) (_:True)=>?_|refine ay () ?_|omega|(dsimp only;omega))))
 all_goals(refine⟨λj=>j<=p.count,λj=>p.count-j,oM,λj hj=>zI (λiq=> ?_) (λiq=> ?_)⟩;all_goals dsimp only at hj iq)
 all_goals first
  |(refine .inl ⟨(),?_⟩
    obtain rfl:j=p.count:=by omega
    (repeat'(first|exact rfl|exact trivial|assumption|apply ba|refineλ(_:Unit) (_:True)=>?_|refine ay () ?_|omega|(dsimp only;omega))))
  |(refine⟨(),trivial,λ_ _=>⟨trivial,trivial,ac j ou,rfl,?_,j+1,?_⟩⟩
    ·rw[CW];omega
    ·rw[iD (by omega),<- List.replicate_succ']
     (repeat'(first|exact rfl|exact trivial|assumption|apply ba|refineλ(_:Unit) (_:True)=>?_|refine ay () ?_|omega|(dsimp only;omega))))
def yTr:JX.ok Tryz.prog 178:=ix mixed (dz mU (dz bN (dz yWd fx))) 0 (λ_=>[]) (λp=>y7m p) [] Tryz.func178 y6e
def yHg:IH.ok Tryz.prog 207:=ix (V:=yUm) mixed fx 0 (λ_=>[]) (λ_=>[]) [] Tryz.func207 λ(l:List Slot) h=>by
 have h:l.length<=1000000:=h;exactλb hb=>Cv.du.mk (λe=>⟨(),rfl,hb e,trivial⟩) (λ_=>⟨by rw[oC,iz];omega,(),rfl,rfl,trivial⟩)
def z6x:GD.ok Tryz.prog 208:=ix (V:=yNo) mixed fx 0 (λ_=>[]) (λ_=>[]) [] Tryz.func208 λ(l:List cI) h=>by
 have h:l.length<=1000000:=h;exactλb hb=>Cv.du.mk (λe=>⟨(),rfl,hb e,trivial⟩) (λ_=>⟨by rw[oC,iz];omega,(),rfl,rfl,trivial⟩)
def yHe:II.ok Tryz.prog 177:=ix (V:=yUp) mixed fx 0 (λ_=>[]) (λ_=>[]) [] Tryz.func177 λ(l:List xV) h=>by
 have h:l.length<=1000000:=h;exactλb hb=>Cv.du.mk (λe=>⟨(),rfl,hb e,trivial⟩) (λ_=>⟨by rw[oC,iz];omega,(),rfl,rfl,trivial⟩)
def yLb:Ms.ok Tryz.prog 45:=ix (V:=y0d) mixed fx 0 (λ_=>[]) (λ_=>[]) [] Tryz.func45 λ(l:List Int) h=>by
 have h:l.length<=1000000:=h;exactλb hb=>Cv.du.mk (λe=>⟨(),rfl,hb e,trivial⟩) (λ_=>⟨by rw[oC,yW];omega,(),rfl,rfl,trivial⟩)
def UW (t:Nat):(vQ t).ok Tryz.prog 174:=z9e Tryz.func174 (by kernel_rfl) (by kernel_rfl) (by kernel_rfl) (by kernel_rfl) t
def yWv:Av.ok Tryz.prog 176:=y4e (dz (UW _) fx) λes _=>by
 unfold yOa fp ez;refine⟨es,?_⟩;exact kp
def yRr:As.ok Tryz.prog 124:=y3q (dz (UW _) fx) λes _=>by
 unfold yMt fp ez;refine⟨es,?_⟩;exact kp
def yQs:Mr.ok Tryz.prog 175:=ix (V:=y1c) mixed (dz yHg (dz z6x fx)) 0 (λ_=>[]) (λ_=>[]) [0] Tryz.func175 λ(a:dw) h=>by
 obtain⟨h1,h2⟩:a.small:=h;refine⟨a.dv,?_⟩;(repeat'(first|exact rfl|exact trivial|assumption|apply ba|refineλ(_:Unit) (_:True)=>?_|refine ay () ?_|omega|(dsimp only;omega)));refine⟨a.dy,?_⟩;exact kp
def yJd:Mq.ok Tryz.prog 126:=ix (V:=y2h) mixed (dz yQs (dz yWv (dz yLb (dz yHe fx)))) 0 (λ_=>[]) (λ_=>y4o) [0] Tryz.func126 λ(b:dt) h=>by
 obtain⟨⟨h1,Bn⟩,h2,h3,h4⟩:b.small:=h;refine⟨b.a,?_⟩;(repeat'(first|exact rfl|exact trivial|assumption|apply ba|refineλ(_:Unit) (_:True)=>?_|refine ay () ?_|omega|(dsimp only;omega)));refine⟨jv b.at_,?_⟩;(repeat'(first|exact rfl|exact trivial|assumption|apply ba|refineλ(_:Unit) (_:True)=>?_|refine ay () ?_|omega|(dsimp only;omega)));refine⟨b.spare,?_⟩;(repeat'(first|exact rfl|exact trivial|assumption|apply ba|refineλ(_:Unit) (_:True)=>?_|refine ay () ?_|omega|(dsimp only;omega)));refine⟨b.fv,?_⟩;(repeat'(first|exact rfl|exact trivial|assumption|apply ba|refineλ(_:Unit) (_:True)=>?_|refine ay () ?_|omega|(dsimp only;omega)));refine⟨b.ff,?_⟩;exact kp
structure vm where
 a:dw
 n:Int
def dw.qx (a:dw) (n:Int):cI:=if 0<=n/\n<a.dy.length then a.dy.getD n.toNat ⟨0,0,0,0⟩else⟨0,0,0,0⟩
def IL:gx:=gh vm (λi=>[.nm 0 0,zB i.n]) (λi=>[wL i.a]) (λi=>True) (λi=>zB (i.a.qx i.n).total) (λi=>[wL i.a])
def IM:gx:=gh vm (λi=>[.nm 0 0,zB i.n]) (λi=>[wL i.a]) (λi=>True) (λi=>zB (i.a.qx i.n).count) (λi=>[wL i.a])
def aa1:gx:=gh Int (λn=>[zB n]) (λ_=>[]) (λ_=>True) (λn=>y4 (decide (n=1)||decide (n=2))) (λ_=>[])
structure RD where
 b:dt
 r:xV
def dt.told (b:dt) (r:xV):Lv:=⟨r.dp,(b.a.qx r.queue).total,(b.a.qx r.queue).count⟩
@[reducible] def dt.nw (b:dt):Prop:=∀q∈b.a.dy,ie q.count
def SG:gx:=gh RD (λi=>[.nm 0 0,.agg [zB i.r.dp,zB i.r.queue]]) (λi=>[yE i.b]) (λi=>i.b.nw) (λi=>lvV (i.b.told i.r)) (λi=>[yE i.b])
def dt.iA (b:dt) (l:List xV):Lv×Bool:=match l with
 |[]=>(⟨0,0,0⟩,aw)
 |r::_=>(b.told r,ax)
structure Ap where
 side:Bool
 b:dt
def dt.side (b:dt) (s:Bool):List xV:=if s then b.ff else b.fv
@[reducible] def z7s (b:dt) (l:List xV):V:= .jm [lvV (b.iA l).1,y4 (b.iA l).2]
def Mu:gx:=gh dt (λ_=>[.nm 0 0,zB 1]) (λb=>[yE b]) dt.nw (λb=>z7s b b.fv) (λb=>[yE b])
def Mt:gx:=gh dt (λ_=>[.nm 0 0,zB 2]) (λb=>[yE b]) dt.nw (λb=>z7s b b.ff) (λb=>[yE b])
def zA (s:Bool):Int:=if s then 2 else 1
def Tk:gx:=gh Ap (λi=>[.nm 0 0,zB (zA i.side)]) (λi=>[yE i.b]) (λi=>i.b.nw) (λi=>z7s i.b (i.b.side i.side)) (λi=>[yE i.b])
structure iS where
 gp:Bool
 gj:Bool
 p1:Int
 p2:Int
 q1:Int
 q2:Int
 deriving DecidableEq
def zY (t:iS):List D:=[.v (.bool t.gp),.v (.bool t.gj),.v (.int .i64 t.p1),.v (.int .i64 t.p2),.v (.int .i64 t.q1),.v (.int .i64 t.q2)]
def fq:iS:=⟨aw,aw,0,0,0,0⟩
def iS.Dc (t:iS) (x:Lv×Bool):iS:=if x.2 then{t with gp:=ax,p1:=x.1.dp,q1:=x.1.dq}else t
def iS.xz (t:iS) (x:Lv×Bool):iS:=if x.2 then{t with gj:=ax,p2:=x.1.dp,q2:=x.1.dq}else t
def dt.top (b:dt):iS:=(fq.Dc (b.iA b.fv)).xz (b.iA b.ff)
def ia.fm (s:ia):List iS:=s.fc.map dt.top
@[reducible] def ia.nw (s:ia):Prop:=s.fc.length<=1000000/\∀b∈s.fc,b.nw
def JN:gx:=gh ia (λ_=>[.nm 0 0]) (λs=>[zD s]) ia.nw (λs=> .own 1) (λs=>[zD s,.own 122 6 (s.fm.map zY)])
def x6 (s:ia) (j:Nat) (x:iS):List iS:=(s.fm.take j)++x::ac (s.fc.length-j-1) fq
def qI (s:ia) (j:Nat):List iS:=(s.fm.take j)++ac (s.fc.length-j) fq
def yXl (s:ia):List ib:=[
 {ι:=Nat,dv:=λj=>[(3,.own 0),(21,zB j)],rows:=λj=>[.own 122 6 ((qI s j).map zY)]},
 {ι:=Unit,dv:=λ_=>[],rows:=λ_=>[],un:=3}]
def yYh (s:ia):List (Nat×ib):=[(15,{ι:=Nat×iS,dv:=λx=>[(3,.own 0)],qo:=λx=>[(3,.own 0)],nf:=λx=>[.own 122 6 ((x6 s x.1 x.2).map zY)],rows:=λx=>[.own 122 6 ((x6 s x.1 x.2).map zY)]})]
def y2a (s:ia):List ib:=[{ι:=Nat,dv:=λj=>[(3,.nm 0 0),(22,zB j)],rows:=λj=>(ae 5).map (x5 ⟨s.p,s.fc.take j,s.wh⟩)}]
@[reducible] def QP (a:dw)(R:Prop):Prop:=a.free=a.free/\aa zT a.dv=aa zT a.dv/\aa zQ a.dy=aa zQ a.dy/\R
def wF (a:vm):Prop:=QP a.a (True)
def zAb (a:vm):Prop:=ez ((a.a.qx a.n).total=0/\wF a)
def dM (a:vm):=(↑(aa zQ a.a.dy).length:Int)
def yBr (i:vm):Prop:=
 du (decide (i.n>=0)) (du (!decide (i.n<(dM i))) (zAb i) ((0<=i.n/\i.n<(dM i))/\∃(a:Int),zF (aa zQ i.a.dy) i.n.toNat 2 1=bc [dI a]/\ez ((i.a.qx i.n).total=a/\wF i))) (zAb i)
def zAr (a:vm):Prop:=ez ((a.a.qx a.n).count=0/\wF a)
def yCc (i:vm):Prop:=
 du (decide (i.n>=0)) (du (!decide (i.n<(dM i))) (zAr i) ((0<=i.n/\i.n<(dM i))/\∃(a:Int),zF (aa zQ i.a.dy) i.n.toNat 3 1=bc [dI a]/\ez ((i.a.qx i.n).count=a/\wF i))) (zAr i)
def y6i (n:Int):Prop:=
 du (n==1) (ez ((decide (n=1)||decide (n=2))=ax/\True)) (ez ((decide (n=1)||decide (n=2))=(n==2)/\True))
def y7h (i:RD):Prop:=
 ∃(iC:vm),iC.n=i.r.queue/\ao dw 3 zG iC.a=ao dw 3 zG i.b.a/\True/\∀(o:Unit),True->dm i.r.queue/\True/\dm i.r.dp/\∃(oy:vm),oy.n=i.r.queue/\ao dw 3 zG oy.a=ao dw 3 zG iC.a/\True/\∀(o:Unit),True->dm i.r.dp/\∃(o:Unit),dm i.r.dp/\(i.b.a.qx i.r.queue).total=(iC.a.qx iC.n).total/\(i.b.a.qx i.r.queue).count=(oy.a.qx oy.n).count/\dm i.b.iN/\dm i.b.iM/\dm i.b.gp/\dm i.b.gj/\ao dw 3 zG i.b.a=ao dw 3 zG oy.a/\dm (aa zC i.b.fv)/\dm (aa zC i.b.ff)/\dm (jv i.b.at_)/\dm (iE i.b.spare)/\True
def y2u (b:dt):Prop:=
 ∃(i:Int),i=1/\True/\∀(o:Unit),True->du (!(decide (i=1)||decide (i=2))) (∃(o:Unit),(b.iA b.fv).fst.dp=0/\(b.iA b.fv).fst.dq=0/\(b.iA b.fv).fst.count=0/\(b.iA b.fv).snd=aw/\dm b.iN/\dm b.iM/\dm b.gp/\dm b.gj/\dm (ao dw 3 zG b.a)/\dm (aa zC b.fv)/\dm (aa zC b.ff)/\dm (jv b.at_)/\dm (iE b.spare)/\True) (du ((↑(aa zC b.fv).length:Int)==0) (∃(o:Unit),(b.iA b.fv).fst.dp=0/\(b.iA b.fv).fst.dq=0/\(b.iA b.fv).fst.count=0/\(b.iA b.fv).snd=aw/\dm b.iN/\dm b.iM/\dm b.gp/\dm b.gj/\dm (ao dw 3 zG b.a)/\dm (aa zC b.fv)/\dm (aa zC b.ff)/\dm (jv b.at_)/\dm (iE b.spare)/\True) (((0:Int)<=(0:Int)/\0<(↑(aa zC b.fv).length:Int))/\∃(n:Int),∃(HG:Int),zF (aa zC b.fv) (bo 0) 0 2=bc [D.v (.int .i64 n),D.v (.int .i64 HG)]/\∃(i:RD),i.r.dp=n/\i.r.queue=HG/\i.b.iN=b.iN/\i.b.iM=b.iM/\i.b.gp=b.gp/\i.b.gj=b.gj/\ao dw 3 zG i.b.a=ao dw 3 zG b.a/\aa zC i.b.fv=aa zC b.fv/\aa zC i.b.ff=aa zC b.ff/\jv i.b.at_=jv b.at_/\iE i.b.spare=iE b.spare/\(∀(q:cI),q∈i.b.a.dy->(-9223372036854775808)<=q.count/\q.count<=9223372036854775807)/\∀(o:Unit),True->∃(o:Unit),(b.iA b.fv).fst.dp=i.r.dp/\(b.iA b.fv).fst.dq=(i.b.a.qx i.r.queue).total/\(b.iA b.fv).fst.count=(i.b.a.qx i.r.queue).count/\(b.iA b.fv).snd=ax/\yE b=yE i.b/\True))
def y4x (b:dt):Prop:=
 ∃(i:Int),i=2/\True/\∀(o:Unit),True->du (!(decide (i=1)||decide (i=2))) (∃(o:Unit),(b.iA b.ff).fst.dp=0/\(b.iA b.ff).fst.dq=0/\(b.iA b.ff).fst.count=0/\(b.iA b.ff).snd=aw/\dm b.iN/\dm b.iM/\dm b.gp/\dm b.gj/\dm (ao dw 3 zG b.a)/\dm (aa zC b.fv)/\dm (aa zC b.ff)/\dm (jv b.at_)/\dm (iE b.spare)/\True) (du ((↑(aa zC b.ff).length:Int)==0) (∃(o:Unit),(b.iA b.ff).fst.dp=0/\(b.iA b.ff).fst.dq=0/\(b.iA b.ff).fst.count=0/\(b.iA b.ff).snd=aw/\dm b.iN/\dm b.iM/\dm b.gp/\dm b.gj/\dm (ao dw 3 zG b.a)/\dm (aa zC b.fv)/\dm (aa zC b.ff)/\dm (jv b.at_)/\dm (iE b.spare)/\True) (((0:Int)<=(0:Int)/\0<(↑(aa zC b.ff).length:Int))/\∃(n:Int),∃(HG:Int),zF (aa zC b.ff) (bo 0) 0 2=bc [D.v (.int .i64 n),D.v (.int .i64 HG)]/\∃(i:RD),i.r.dp=n/\i.r.queue=HG/\i.b.iN=b.iN/\i.b.iM=b.iM/\i.b.gp=b.gp/\i.b.gj=b.gj/\ao dw 3 zG i.b.a=ao dw 3 zG b.a/\aa zC i.b.fv=aa zC b.fv/\aa zC i.b.ff=aa zC b.ff/\jv i.b.at_=jv b.at_/\iE i.b.spare=iE b.spare/\(∀(q:cI),q∈i.b.a.dy->(-9223372036854775808)<=q.count/\q.count<=9223372036854775807)/\∀(o:Unit),True->∃(o:Unit),(b.iA b.ff).fst.dp=i.r.dp/\(b.iA b.ff).fst.dq=(i.b.a.qx i.r.queue).total/\(b.iA b.ff).fst.count=(i.b.a.qx i.r.queue).count/\(b.iA b.ff).snd=ax/\yE b=yE i.b/\True))
def Zj (a:ia):Prop:=au (z5 a.wh)=au (z5 a.wh)/\dm (ap 1 (iE a.p.dr))/\dm (ap 1 (iE a.p.settle))
def dE (a:ia):=(D.v (cd (sb a.p.code)))
def Uo (a:Nat×iS->Prop) (b:Nat×iS) (c:ia) (d:Nat) (e:dt):Prop:=a b/\dm (av 3 1 [[dI 1],[dI 2]])/\dm (ar [V.d (dE c),V.own 3,V.d (dI c.p.tick),V.d (dI c.p.low),V.d (dI c.p.high),V.d (dI c.p.wide),V.d (dI c.p.gw),V.d (dI c.p.top),V.d (dI c.p.least),V.d (dI c.p.part),V.own 4,V.own 1,V.mp 2] (210:cf))/\aq 211 dt 6 zR (c.fc.set (↑d:Int).toNat e) be=aq 211 dt 6 zR c.fc be/\Zj c
def XT (a:ia) (b:Nat×iS) (c:Nat×iS->Prop) (d:Nat) (e:dt):Prop:=∃(f:Nat×iS),aa zY (x6 a f.fst f.snd)=aa zY (x6 a b.fst b.snd)/\Uo c f a d e
def g8 (a:ia) (b:Nat×iS):=(aa zY (x6 a b.fst b.snd))
def mH (a:ia) (b:Nat×iS) (c:Nat):=(zX (g8 a b) (↑c:Int).toNat 1 [D.v (.bool ax)])
def z8 (a:Ap):=(a.b.iA (a.b.side a.side))
def c9 (a:Ap):=((z8 a).fst.dp)
def bL (a:ia) (b:Nat×iS) (c:Nat) (d:Ap):=(zX (mH a b c) (↑c:Int).toNat 3 [dI (c9 d)])
def zCs (a:Nat) (b:ia) (c:Nat×iS) (d:Ap):Prop:=(0<=(↑a:Int)/\(↑a:Int)<(↑(bL b c a d).length:Int))/\dm ((↑a:Int).toNat)
def mO (a:ia) (b:Nat×iS) (c:Nat):=(zX (g8 a b) (↑c:Int).toNat 0 [D.v (.bool ax)])
def bU (a:ia) (b:Nat×iS) (c:Nat) (d:Ap):=(zX (mO a b c) (↑c:Int).toNat 2 [dI (c9 d)])
def zBu (a:Nat) (b:ia) (c:Nat×iS) (d:Ap):Prop:=(0<=(↑a:Int)/\(↑a:Int)<(↑(bU b c a d).length:Int))/\dm ((↑a:Int).toNat)
def US (a:ia):Prop:=0<=(↑a.fc.length:Int)/\(↑a.fc.length:Int)<=(↑a.fc.length:Int)/\(↑a.fc.length:Int)<=9223372036854775807/\(↑(40:Nat):Int)*(↑a.fc.length:Int)<=2 ^ (48:Nat)
def mS (a:Nat) (b:ia) (c:Nat×iS):Prop:=(0<=(↑a:Int)/\(↑a:Int)<(↑(mH b c a).length:Int))/\dm ((↑a:Int).toNat)
def mL (a:Nat) (b:ia) (c:Nat×iS):Prop:=(0<=(↑a:Int)/\(↑a:Int)<(↑(mO b c a).length:Int))/\dm ((↑a:Int).toNat)
def dB:Prop:=0<=ag.wrap ((0:Int)+(1:Int))/\ag.wrap ((0:Int)+(1:Int))<(↑(2:Nat):Int)
def cK (a:cI):Prop:=(-9223372036854775808)<=a.count/\a.count<=9223372036854775807
def uD (a:Ap):Prop:=∀(b:cI),b∈a.b.a.dy->cK b
def kO (a:Nat) (b:ia) (c:Nat×iS):Prop:=0<=(↑a:Int)/\(↑a:Int)<(↑(g8 b c).length:Int)
def gR (a:Ap):=((z8 a).fst.dq)
@[reducible] def QB (a:ia)(R:Prop):Prop:=z5 a.wh=z5 a.wh/\ap 1 (iE a.p.dr)=ap 1 (iE a.p.dr)/\ap 1 (iE a.p.settle)=ap 1 (iE a.p.settle)/\R
@[reducible] def QU (a:Nat)(b:ia)(c:Nat×iS)(d:Ap)(R:Prop):Prop:=(kO a b c)/\(kO a b c)/\(kO a b c)/\(↑a:Int).toNat<(g8 b c).length/\(mL a b c)/\(mL a b c)/\(z8 d).fst.dq=(z8 d).fst.dq/\(z8 d).fst.dp=(z8 d).fst.dp/\(↑a:Int).toNat<(mO b c a).length/\(zBu a b c d)/\(z8 d).fst.dq=(z8 d).fst.dq/\(↑a:Int).toNat<(bU b c a d).length/\R
@[reducible] def QV (a:Nat)(b:ia)(c:Nat×iS)(d:Ap)(R:Prop):Prop:=(kO a b c)/\(kO a b c)/\(kO a b c)/\(↑a:Int).toNat<(g8 b c).length/\(mS a b c)/\(mS a b c)/\(z8 d).fst.dq=(z8 d).fst.dq/\(z8 d).fst.dp=(z8 d).fst.dp/\(↑a:Int).toNat<(mH b c a).length/\(zCs a b c d)/\(z8 d).fst.dq=(z8 d).fst.dq/\(↑a:Int).toNat<(bL b c a d).length/\R
@[reducible] def QW (a:Ap)(b:dt)(c:Nat)(d:ia)(R:Prop):Prop:=yE a.b=yE b/\(↑c:Int).toNat=(↑c:Int).toNat/\(↑c:Int).toNat<d.fc.length/\R
def yXq (s:ia):Prop:=
 (US s)/\∃(a:Nat),(↑a:Int)=0/\aa zY (qI s a)=ac (↑s.fc.length:Int).toNat [D.v (.bool aw),D.v (.bool aw),dI 0,dI 0,dI 0,dI 0]/\∃(b:Nat->Prop),∃(c:Nat->Nat),b a/\∀(d:Nat),b d->du (decide ((↑d:Int)<(↑s.fc.length:Int))) ((0<=(↑d:Int)/\(↑d:Int)<(↑s.fc.length:Int))/\(↑d:Int).toNat<s.fc.length/\∃(e:Nat×iS),aa zY (x6 s e.fst e.snd)=aa zY (qI s d)/\∃(f:Nat×iS->Prop),(((0:Int)<=(0:Int)/\0<(↑(2:Nat):Int))/\∃(g:Int),zF [[dI 1],[dI 2]] (bo 0) 0 1=bc [dI g]/\∃(h:dt),s.fc[(↑d:Int).toNat]?=bc h/\∃(j:Ap),zA j.side=g/\yE j.b=yE h/\(uD j)/\fp (∃(l:dt),QW j l d s (du (z8 j).snd (QU d s e j (∃(m:Nat×iS),aa zY (x6 s m.fst m.snd)=zX (bU s e d j) (↑d:Int).toNat 4 [dI (gR j)]/\Uo f m s d l)) (XT s e f d l))))/\∀(g:Nat×iS),f g->∃(h:Nat×iS),aa zY (x6 s h.fst h.snd)=aa zY (x6 s g.fst g.snd)/\∃(j:Nat×iS->Prop),((dB)/\∃(k:Int),zF [[dI 1],[dI 2]] (ag.wrap ((0:Int)+(1:Int))).toNat 0 1=bc [dI k]/\∃(l:dt),s.fc[(↑d:Int).toNat]?=bc l/\∃(m:Ap),zA m.side=k/\yE m.b=yE l/\(uD m)/\fp (∃(p:dt),QW m p d s (du (z8 m).snd (QV d s h m (∃(q:Nat×iS),aa zY (x6 s q.fst q.snd)=zX (bL s h d m) (↑d:Int).toNat 5 [dI (gR m)]/\Uo j q s d p)) (XT s h j d p))))/\∀(k:Nat×iS),j k->∃(l:Nat),(↑l:Int)=ag.wrap ((↑d:Int)+1)/\aa zY (qI s l)=aa zY (x6 s k.fst k.snd)/\b l/\c l<c d/\dm (ar [V.d (dE s),V.own 3,V.d (dI s.p.tick),V.d (dI s.p.low),V.d (dI s.p.high),V.d (dI s.p.wide),V.d (dI s.p.gw),V.d (dI s.p.top),V.d (dI s.p.least),V.d (dI s.p.part),V.own 4,V.own 1,V.mp 2] (210:cf))/\dm (aq 211 dt 6 zR s.fc be)/\Zj s) (ez (Qc s.p (dm (aq 211 dt 6 zR s.fc be)/\QB s (aa zY s.fm=aa zY (qI s d)/\True))))
def yZs (s:ia):Prop:=
 ∃(i:List (ce×List D)),i=z5 s.wh/\True/\∀(o:Unit),True->(dm (sb s.p.code)/\True/\dm s.p.tick/\dm s.p.low/\dm s.p.high/\dm s.p.wide/\dm s.p.gw/\dm s.p.top/\dm s.p.least/\dm s.p.part/\True/\True)/\∃(i0:Nat),(↑i0:Int)=0/\dm (sb s.p.code)/\dm s.p.tick/\dm s.p.low/\dm s.p.high/\dm s.p.wide/\dm s.p.gw/\dm s.p.top/\dm s.p.least/\dm s.p.part/\ab i0 s.fc=[]/\(be:Option Nat)=be/\z5 s.wh=i/\dm (ap 1 (iE s.p.dr))/\dm (ap 1 (iE s.p.settle))/\∃(I:Nat->Prop),∃(μ:Nat->Nat),I i0/\∀(iC:Nat),I iC->du (decide ((↑iC:Int)<(↑s.fc.length:Int))) ((0<=(↑iC:Int)/\(↑iC:Int)<(↑s.fc.length:Int))/\(↑iC:Int).toNat<s.fc.length/\∃(x:dt),s.fc[(↑iC:Int).toNat]?=bc x/\∃(oy:dt),yE oy=yE x/\((oy.a.dv.length<=1000000/\oy.a.dy.length<=1000000)/\oy.fv.length<=1000000/\oy.ff.length<=1000000/\oy.spare.length<=1000000)/\∀(o:Unit),True->∃(x:dt),yE oy=yE x/\dm ((↑iC:Int).toNat)/\(↑iC:Int).toNat<s.fc.length/\True/\True/\∃(zr:List dt),aq 211 dt 6 zR (ab iC s.fc) be=aq 211 dt 6 zR zr be/\(zr.length+1)*(8:Nat)<=(140737488355328:Nat)/\∃(i':Nat),(↑i':Int)=ag.wrap ((↑iC:Int)+1)/\dm (sb s.p.code)/\dm s.p.tick/\dm s.p.low/\dm s.p.high/\dm s.p.wide/\dm s.p.gw/\dm s.p.top/\dm s.p.least/\dm s.p.part/\aq 211 dt 6 zR (ab i' s.fc) be=aq 211 dt 6 zR (zr++[oy]) be/\dm (z5 s.wh)/\dm (ap 1 (iE s.p.dr))/\dm (ap 1 (iE s.p.settle))/\I i'/\μ i'<μ iC/\au i=au i/\dm (ar [V.d (D.v (cd (sb s.p.code))),V.own 3,V.d (D.v (.int .i64 s.p.tick)),V.d (D.v (.int .i64 s.p.low)),V.d (D.v (.int .i64 s.p.high)),V.d (D.v (.int .i64 s.p.wide)),V.d (D.v (.int .i64 s.p.gw)),V.d (D.v (.int .i64 s.p.top)),V.d (D.v (.int .i64 s.p.least)),V.d (D.v (.int .i64 s.p.part)),V.own 4,V.own 1,V.mp 2] (210:cf))/\aq 211 dt 6 zR (s.fc.set (↑iC:Int).toNat x) be=aq 211 dt 6 zR s.fc be/\dm (ap 1 (iE s.p.dr))/\dm (ap 1 (iE s.p.settle))) (∃(o:Unit),dm (sb s.p.code)/\dm s.p.tick/\dm s.p.low/\dm s.p.high/\dm s.p.wide/\dm s.p.gw/\dm s.p.top/\dm s.p.least/\dm s.p.part/\dm (aq 211 dt 6 zR s.fc be)/\z5 s.wh=i/\dm (ap 1 (iE s.p.dr))/\dm (ap 1 (iE s.p.settle))/\dm (sb s.p.code)/\dm s.p.tick/\dm s.p.low/\dm s.p.high/\dm s.p.wide/\dm s.p.gw/\dm s.p.top/\dm s.p.least/\dm s.p.part/\aq 211 dt 6 zR s.fc be=aq 211 dt 6 zR (ab iC s.fc) be/\dm (z5 s.wh)/\dm (ap 1 (iE s.p.dr))/\dm (ap 1 (iE s.p.settle))/\True)
end Sx
