/- Texts of ours. No condition. -/
import Derived.Test.YtgmmlhddihaocaaGreatRows
import Derived.Test.YtgmmlhddihaocaaGreatS3
set_option linter.all false
open Sx.fi renaming qw->aa,jc->ab,cells->ac,jz->ae,map->af,own->ag
open List renaming map->aj,take->ak,replicate->am,range->ao,drop->ap,length->aq
open Go.IntKind renaming i64->ar,u64->au,u32->av,u8->aw
open Bool renaming false->ax,true->ay
open Exists renaming intro->az
open Option renaming some->ba,none->bc
open And renaming intro->be
open Go.Utf8 renaming decode->bg
open Int renaming toNat->bo,pow_succ->bu,mul_add->bv
open Go.Value renaming string->bz
open Go renaming Value->cd,TypeId->ce
open BitVec renaming ofInt->cf
namespace Sx
open Go Cv Go.Proofs
def kp {P:Prop} (h:P:=by(repeat'(first|exact rfl|exact trivial|assumption|apply And.intro|refineλ(_:Unit) (_:True)=>?_|refine Exists.intro () ?_|omega|(dsimp only;omega)))):P:=h
def oM {P:Prop} (h:P:=by omega):P:=h
def Z9 {P:Prop} (h:P:=by (dsimp only;omega)):P:=h
def Z8 {P:Prop} (h:P:=by decide):P:=h
def iT {α0:Sort _} {a0:α0} {α1:Sort _} {a1:α1} {α2:Sort _} {a2:α2} {P:Prop} (h:P):a0=a0/\a1=a1/\a2=a2/\P:=⟨rfl,rfl,rfl,h⟩
def nn {α0:Sort _} {a0:α0} {α1:Sort _} {a1:α1} {α2:Sort _} {a2:α2} {α3:Sort _} {a3:α3} {P:Prop} (h:P):a0=a0/\a1=a1/\a2=a2/\a3=a3/\P:=⟨rfl,rfl,rfl,rfl,h⟩
def yj {α0:Sort _} {a0:α0} {α1:Sort _} {a1:α1} {α2:Sort _} {a2:α2} {α3:Sort _} {a3:α3} {α4:Sort _} {a4:α4} {P:Prop} (h:P):a0=a0/\a1=a1/\a2=a2/\a3=a3/\a4=a4/\P:=⟨rfl,rfl,rfl,rfl,rfl,h⟩
def mh {α0:Sort _} {a0:α0} {α1:Sort _} {a1:α1} {α2:Sort _} {a2:α2} {α3:Sort _} {a3:α3} {α4:Sort _} {a4:α4} {α5:Sort _} {a5:α5} {P:Prop} (h:P):a0=a0/\a1=a1/\a2=a2/\a3=a3/\a4=a4/\a5=a5/\P:=⟨rfl,rfl,rfl,rfl,rfl,rfl,h⟩
def oJ {α0:Sort _} {a0:α0} {α1:Sort _} {a1:α1} {α2:Sort _} {a2:α2} {α3:Sort _} {a3:α3} {α4:Sort _} {a4:α4} {α5:Sort _} {a5:α5} {α6:Sort _} {a6:α6} {P:Prop} (h:P):a0=a0/\a1=a1/\a2=a2/\a3=a3/\a4=a4/\a5=a5/\a6=a6/\P:=⟨rfl,rfl,rfl,rfl,rfl,rfl,rfl,h⟩
def gr {α0:Sort _} {a0:α0} {α1:Sort _} {a1:α1} {α2:Sort _} {a2:α2} {α3:Sort _} {a3:α3} {α4:Sort _} {a4:α4} {α5:Sort _} {a5:α5} {α6:Sort _} {a6:α6} {α7:Sort _} {a7:α7} {P:Prop} (h:P):a0=a0/\a1=a1/\a2=a2/\a3=a3/\a4=a4/\a5=a5/\a6=a6/\a7=a7/\P:=⟨rfl,rfl,rfl,rfl,rfl,rfl,rfl,rfl,h⟩
def gu {P:Prop} (h:P:=by(repeat'(first|exact trivial|exact rfl|apply And.intro))):P:=h
def mixed:Tryz.prog.follows .mixedOrders=ay:=by kernel_rfl
def ib {P:Program} {f:FuncId} {fn:Func} {C:gi} {G:List (Nat×gi)} {V:C.ι->Prop} (hm:P.follows .mixedOrders=ay) (hG:A9 P G) (d:Nat) (J:C.ι->List (Nat×gp)) (an:C.ι->List gp) (op:List Nat) (hf:P.funcs[f]? =ba fn) (h:∀i,C.dq i->V i) (hb:fn.body=ba (fn.body.getD .skip):=by kernel_rfl) (BQ:hZ P f=ay:=by kernel_rfl) (oS:xb fn.ntmps (fn.body.getD .skip)=ay:=by kernel_rfl) (oZ:∀i,Nat.ble (C.pat i).length fn.ntmps=ay:=by intro _;kernel_rfl) (e:∀i,V i=walk P G d (J i) (an i) op fn (fn.body.getD .skip) (C.pat i) (C.pre i) (C.alts i):=by intro _;kernel_rfl):C.ok P f:=vB hm G hG d J an op hf hb BQ oS oZ λi hc=>Eq.mp (e i) (h i hc)
structure Lv where
 dk:Int
 dr:Int
 count:Int
def kx (l:Lv):List D:=[.v (.int .i64 l.dk),.v (.int .i64 l.dr),.v (.int .i64 l.count)]
def UY (l:Lv):V:= .agg [zA l.dk,zA l.dr,zA l.count]
def je (l:List UInt8):Nat->fi
 |0=> .cells [.own 1] 222
 |1=> .own 5 1 (bE l)
 |_=> .gone
def Wr (l:List UInt8):fi:= .qw (List UInt8) 2 je l
structure IY where
 l:List UInt8
 n:Int
 k:Nat
def Qd:gi where
 ι:=IY
 pat:=λi=>[.nm 0 0,.d (.v (.int .u64 i.n)),.d (.v (.int .i64 i.k))]
 pre:=λi=>[Wr i.l]
 dq:=λi=>0<=i.n/\i.n<18446744073709551616/\i.l.length+i.k<=1099511627776
 alts:=λi=>[{o:=Unit,res:=λ_=> .ja [],post:=λ_=>[Wr (i.l++le i.n i.k)],rel:=λ_=>True}]
def y7x (i:IY):List gp:=[{
 ι:=Nat,
 dv:=λj=>[(0,.nm 0 0),(1,.d (.v (.int .u64 (i.n / 256 ^ j)))),(7,.d (.v (.int .i64 j)))],
 rows:=λj=>[je (i.l++le i.n j) 0,je (i.l++le i.n j) 1]}]
set_option maxRecDepth 100000
@[reducible] def dI (n:Int):D:= .v (.int .i64 n)
def y3e (i:IY):Prop:=
 ∃(a:Nat),i.n / (256:Int) ^ a=i.n/\(↑a:Int)=0/\bE (i.l++le i.n a)=bE i.l/\∃(b:Nat->Prop),∃(c:Nat->Nat),b a/\∀(d:Nat),b d->dq (decide ((↑d:Int)<(↑i.k:Int))) (((bE (i.l++le i.n d)).length+1)*(1:Nat)<=(140737488355328:Nat)/\(0:Int)<=(8:Int)/\∃(e:Nat),i.n / (256:Int) ^ e=c9 au (i.n / (256:Int) ^ d) 8/\(↑e:Int)=ar.wrap ((↑d:Int)+1)/\bE (i.l++le i.n e)=bE (i.l++le i.n d)++[[D.v (.int .u8 (aw.wrap (i.n / (256:Int) ^ d)))]]/\b e/\c e<c d/\True) (∃(e:Unit),bE (i.l++le i.n i.k)=bE (i.l++le i.n d)/\True)
def y9b (i:IY) (h:Qd.dq i):y3e i:=by
 unfold y3e;obtain⟨h1,h2,h3⟩:=h;refine⟨0,by simp,rfl,by simp[le],λj=>j<=i.k,λj=>i.k-j,oM,λj hj=>zH (λgv=> ?_) (λgv=> ?_)⟩
 ·refine⟨?_,oM,j+1,?_,?_,?_,oM,Z9,trivial⟩
  ·rw[yH,iv,xJ];omega
  ·have:=Oh .u64 (i.n / 256 ^ j) 8 Z8;rw[show((8:Nat):Int)=8 by rfl]at this;rw[this,Int.ediv_ediv_of_nonneg (Int.pow_nonneg (by omega)),bu];rfl
  ·rw[iA (by omega)];rfl
  ·rw[yRq,SX];simp[bE]
 ·obtain rfl:j=i.k:=by omega
  exact⟨(),rfl,trivial⟩
def z5f:Qd.ok Tryz.prog 128:=ib mixed fj 0 (λ_=>[]) (λi=>y7x i) [0] Tryz.func128 y9b
@[reducible] def DD:Nat:=5
structure WN where
 l:List UInt8
 n:Int
@[reducible] def WN.ok (i:WN):Prop:=i.l.length+8<=1099511627776
def Kb:gi:=fp WN (λi=>[.nm 0 0,zA i.n]) (λi=>[Wr i.l]) WN.ok (λ_=>bN) (λi=>[Wr (i.l++[jj i.n])])
def JQ:gi:=fp WN (λi=>[.nm 0 0,zA i.n]) (λi=>[Wr i.l]) WN.ok (λ_=>bN) (λi=>[Wr (i.l++le i.n 8)])
def P':gi:=fp WN (λi=>[.nm 0 0,Uy i.n]) (λi=>[Wr i.l]) (λi=>i.l.length+8<=1099511627776/\0<=i.n/\i.n<4294967296) (λ_=>bN) (λi=>[Wr (i.l++le i.n 4)])
@[reducible] def yZi (t sz oB:Nat):gi:=fp (List (List D)) (λ_=>[.own 0]) (λl=>[.own t sz l]) (λl=>l.length*oB<=140737488355328) (λ_=> .own 1) (λl=>[.own t sz l,.own t sz l])
@[reducible] def yZq (sz oB:Nat):gi:=fp (List (List D)) (λl=>[oD sz l]) (λ_=>[]) (λl=>l.length*oB<=140737488355328) (λl=>oD sz l) (λ_=>[])
def su:gi:=yZi DD 1 1
def sm:gi:=yZq 1 1
def Rr:gi:=fp Unit (λ_=>[]) (λ_=>[]) (λ_=>True) (λ_=> .nm 0 0) (λ_=>[Wr []])
def R7:gi:=fp (List UInt8) (λ_=>[.nm 0 0]) (λl=>[Wr l]) (λl=>l.length<=1099511627776) (λ_=> .own 1) (λl=>[Wr l,.own DD 1 (bE l)])
def Z0 (c:Int):Int:=if 0<B0 .u32 c 1 then B2 .u32 (c9 .u32 c 1) 3988292384 else c9 .u32 c 1
def vX:Nat->Int->Int
 |0,c=>c
 |k+1,c=>Z0 (vX k c)
def Dx (l:List UInt8):Int:=l.foldl (λc b=>vX 8 (B2 .u32 c b.toNat)) 4294967295
def aY (l:List UInt8):Int:=B2 .u32 4294967295 (Dx l)
def QM:gi:=fp (List UInt8) (λl=>[oD 1 (bE l)]) (λ_=>[]) (λl=>l.length<=1099511627776) (λl=>Uy (aY l)) (λ_=>[])
def y8l (l:List UInt8):List gp:=[
 {ι:=Nat,dv:=λi=>[(3,Uy (Dx (l.take i))),(9,zA i)],rows:=λ_=>[]},
 {ι:=Int×Nat,dv:=λi=>[(3,Uy (vX i.2 i.1)),(17,zA i.2)],rows:=λ_=>[]}]
def ob (x:List UInt8×Bool):Nat->fi
 |0=> .cells [oD 1 (bE x.1),yN x.2] 292
 |_=> .gone
def Rd (l:List UInt8) (b:Bool):fi:= .qw (List UInt8×Bool) 1 ob (l,b)
def Rs:gi:=fp (List UInt8) (λl=>[oD 1 (bE l)]) (λ_=>[]) (λl=>l.length<=1099511627776) (λ_=> .nm 0 0) (λl=>[Rd l ax])
structure RN where
 l:List UInt8
 b:Bool
 n:Nat
def RN.bad (i:RN):Bool:=i.b||decide (i.l.length<i.n)
def RN.lh (i:RN):List UInt8:=if i.bad then[]else i.l.take i.n
def RN.left (i:RN):List UInt8:=if i.bad then i.l else i.l.drop i.n
@[reducible] def RN.ok (i:RN):Prop:=i.n<=255/\i.l.length<=1099511627776
def Rm:gi:=fp RN (λi=>[.nm 0 0,zA i.n]) (λi=>[Rd i.l i.b]) RN.ok (λi=>oD 1 (bE i.lh)) (λi=>[Rd i.left i.bad])
def qG:List UInt8->Int
 |[]=>0
 |b::l=>b.toNat+256*qG l
def QF:gi:=fp RN (λi=>[.nm 0 0,zA i.n]) (λi=>[Rd i.l i.b]) (λi=>i.n<=8/\i.l.length<=1099511627776) (λi=>lV (qG i.lh)) (λi=>[Rd i.left i.bad])
def y9c (i:RN):List gp:=[{ι:=Nat,dv:=λj=>[(5,lV (qG (i.lh.take j))),(12,zA j)],rows:=λ_=>[]}]
structure RB where
 l:List UInt8
 b:Bool
def RB.n (i:RB) (k:Nat):RN:=⟨i.l,i.b,k⟩
def LP:gi:=fp RB (λi=>[.nm 0 0]) (λi=>[Rd i.l i.b]) (λi=>i.l.length<=1099511627776) (λi=>zA (qG (i.n 1).lh)) (λi=>[Rd (i.n 1).left (i.n 1).bad])
def LO:gi:=fp RB (λi=>[.nm 0 0]) (λi=>[Rd i.l i.b]) (λi=>i.l.length<=1099511627776) (λi=>zA (ar.wrap (qG (i.n 8).lh))) (λi=>[Rd (i.n 8).left (i.n 8).bad])
def Ro:gi:=fp RB (λi=>[.nm 0 0]) (λi=>[Rd i.l i.b]) (λi=>i.l.length<=1099511627776) (λi=>zA (if i.b then 10 else if 0<i.l.length then 15 else 0)) (λi=>[Rd i.l i.b])
def aW (a:IY):Prop:=0<=a.n/\a.n<18446744073709551616/\a.l.length+a.k<=1099511627776
def yUb (i:WN):Prop:=
 ∃(a:IY),a.n=au.wrap i.n/\(↑a.k:Int)=1/\aa (List UInt8) 2 je a.l=Wr i.l/\(aW a)/\∀(b:Unit),True->∃(c:Unit),aa (List UInt8) 2 je (i.l++[jj i.n])=aa (List UInt8) 2 je (a.l++le a.n a.k)/\True
def yUq (i:WN):Prop:=
 ∃(a:IY),a.n=au.wrap i.n/\(↑a.k:Int)=8/\aa (List UInt8) 2 je a.l=Wr i.l/\(aW a)/\∀(b:Unit),True->∃(c:Unit),aa (List UInt8) 2 je (i.l++le i.n 8)=aa (List UInt8) 2 je (a.l++le a.n a.k)/\True
def y2i (i:WN):Prop:=
 ∃(a:IY),a.n=au.wrap i.n/\(↑a.k:Int)=4/\aa (List UInt8) 2 je a.l=Wr i.l/\(aW a)/\∀(b:Unit),True->∃(c:Unit),aa (List UInt8) 2 je (i.l++le i.n 4)=aa (List UInt8) 2 je (a.l++le a.n a.k)/\True
def zZz (i:List (List D)):Prop:=
 ∀(b:Bool),(b=ay->i=[])->dq b (∃(o:Unit),i=i/\i=[]/\True) ((0+i.length)*(1:Nat)<=(140737488355328:Nat)/\∃(o:Unit),i=i/\i=[]++i/\True)
def yEy (i:List (List D)):zZz i=walk Tryz.prog ([]) 0 ([]) ([]) [] Tryz.f70 (Tryz.f70.body.getD .skip) (su.pat i) (su.pre i) (su.alts i):=by kernel_rfl
def yFk (hG:A9 Tryz.prog ([])) (h:∀(i:List (List D)),su.dq i->zZz i):su.ok Tryz.prog 70:=vB mixed ([]) hG 0 (λ(i:List (List D))=>[]) (λ(i:List (List D))=>[]) [] Tryz.func70 (by kernel_rfl) (by kernel_rfl) (by kernel_rfl) (λ_=>by kernel_rfl) (λ(i:List (List D)) hc=>Eq.mp (yEy i) (h i hc))
def zZh (i:List (List D)):Prop:=
 ∀(b:Bool),(b=ay->i=[])->dq b (∃(o:Unit),i=[]/\True) ((0+i.length)*(1:Nat)<=(140737488355328:Nat)/\∃(o:Unit),i=[]++i/\True)
def yFq (i:List (List D)):zZh i=walk Tryz.prog ([]) 0 ([]) ([]) [] Tryz.f70 (Tryz.f70.body.getD .skip) (sm.pat i) (sm.pre i) (sm.alts i):=by kernel_rfl
def yDk (hG:A9 Tryz.prog ([])) (h:∀(i:List (List D)),sm.dq i->zZh i):sm.ok Tryz.prog 70:=vB mixed ([]) hG 0 (λ(i:List (List D))=>[]) (λ(i:List (List D))=>[]) [] Tryz.func70 (by kernel_rfl) (by kernel_rfl) (by kernel_rfl) (λ_=>by kernel_rfl) (λ(i:List (List D)) hc=>Eq.mp (yFq i) (h i hc))
def y5i (i:Unit):Prop:=
 ∃(o:Unit),bE []=[]/\True
def y4f (i:List UInt8):Prop:=
 ∃(iw:List (List D)),iw=bE i/\iw.length*(1:Nat)<=(140737488355328:Nat)/\∀(o:Unit),True->∃(o:Unit),bE i=iw/\bE i=iw/\True
def kD (a:Nat) (b:Nat) (c:Nat->Prop) (d:Nat->Nat):Prop:=(↑a:Int)=ar.wrap ((↑b:Int)+1)/\c a/\d a<d b/\True
def y4x (i:List UInt8):Prop:=
 ∃(a:Nat),Dx (ak a i)=4294967295/\(↑a:Int)=0/\∃(b:Nat->Prop),∃(c:Nat->Nat),b a/\∀(d:Nat),b d->dq (decide ((↑d:Int)<(↑(bE i).length:Int))) ((0<=(↑d:Int)/\(↑d:Int)<(↑(bE i).length:Int))/\∃(e:Int),zD (bE i) (↑d:Int).toNat 0 1=ba [D.v (.int .u8 e)]/\∃(f:Int×Nat),vX f.snd f.fst=B2 av (Dx (ak d i)) (av.wrap e)/\(↑f.snd:Int)=0/\∃(g:Int×Nat->Prop),∃(h:Int×Nat->Nat),g f/\∀(j:Int×Nat),g j->dq (decide ((↑j.snd:Int)<8)) ((0:Int)<=(1:Int)/\dq (decide (B0 av (vX j.snd j.fst) (1:Int)>(0:Int))) (∃(k:Int×Nat),vX k.snd k.fst=B2 av (c9 av (vX j.snd j.fst) 1) 3988292384/\(↑k.snd:Int)=ar.wrap ((↑j.snd:Int)+1)/\g k/\h k<h j/\True) (∃(k:Int×Nat),vX k.snd k.fst=c9 av (vX j.snd j.fst) 1/\(↑k.snd:Int)=ar.wrap ((↑j.snd:Int)+1)/\g k/\h k<h j/\True)) (∃(k:Nat),Dx (ak k i)=vX j.snd j.fst/\kD k d b c)) (∃(e:Unit),aY i=av.wrap (↑(cf av.bits (if av.signed=ay then(-1:Int)else av.max) ^^^ cf av.bits (Dx (ak d i))).toNat:Int)/\True)
def y4j (i:List UInt8):Prop:=
 ∃(iw:List (List D)),iw=bE i/\iw.length*(1:Nat)<=(140737488355328:Nat)/\∀(o:Unit),True->∃(o:Unit),bE i=iw/\ax=ax/\True
def y2w (i:RN):Prop:=
 dq i.b (∃(o:Unit),bE i.lh=[]/\bE i.left=bE i.l/\i.bad=ay/\True) (dq (decide ((↑i.n:Int)>(↑(bE i.l).length:Int))) (∃(o:Unit),bE i.lh=[]/\bE i.left=bE i.l/\i.bad=decide ((↑i.n:Int)>(↑(bE i.l).length:Int))/\True) ((0<=(↑i.n:Int)/\(↑i.n:Int)<=(↑(bE i.l).length:Int))/\(0<=(↑i.n:Int)/\(↑i.n:Int)<=(↑(bE i.l).length:Int))/\∃(o:Unit),bE i.lh=ak (↑i.n:Int).toNat (bE i.l)/\bE i.left=ap (↑i.n:Int).toNat (bE i.l)/\i.bad=decide ((↑i.n:Int)>(↑(bE i.l).length:Int))/\True))
def y5v (i:RN):Prop:=
 ∃(a:RN),(↑a.n:Int)=(↑i.n:Int)/\aa (List UInt8×Bool) 1 ob (a.l,a.b)=Rd i.l i.b/\(a.n<=255/\a.l.length<=1099511627776)/\∀(b:Unit),True->∃(c:Nat),qG (ak c i.lh)=0/\(↑c:Int)=0/\∃(d:Nat->Prop),∃(e:Nat->Nat),d c/\∀(f:Nat),d f->dq (decide ((↑f:Int)<(↑(bE a.lh).length:Int))) ((0<=(↑f:Int)/\(↑f:Int)<(↑(bE a.lh).length:Int))/\∃(g:Int),zD (bE a.lh) (↑f:Int).toNat 0 1=ba [D.v (.int .u8 g)]/\0<=ar.wrap (8*(↑f:Int))/\∃(h:Nat),qG (ak h i.lh)=GL au (qG (ak f i.lh)) (IG au (au.wrap g) (ar.wrap (8*(↑f:Int))))/\(↑h:Int)=ar.wrap ((↑f:Int)+1)/\d h/\e h<e f/\dj (aa (List UInt8×Bool) 1 ob (a.left,a.bad))) (∃(g:Unit),qG i.lh=qG (ak f i.lh)/\aa (List UInt8×Bool) 1 ob (i.left,i.bad)=aa (List UInt8×Bool) 1 ob (a.left,a.bad)/\True)
def yWb (i:RB):Prop:=
 ∃(iw:RN),(↑iw.n:Int)=1/\aa (List UInt8×Bool) 1 ob (iw.l,iw.b)=Rd i.l i.b/\(iw.n<=8/\iw.l.length<=1099511627776)/\∀(o:Unit),True->∃(o:Unit),qG (i.n 1).lh=ar.wrap (qG iw.lh)/\aa (List UInt8×Bool) 1 ob ((i.n 1).left,(i.n 1).bad)=aa (List UInt8×Bool) 1 ob (iw.left,iw.bad)/\True
def yXf (i:RB):Prop:=
 ∃(iw:RN),(↑iw.n:Int)=8/\aa (List UInt8×Bool) 1 ob (iw.l,iw.b)=Rd i.l i.b/\(iw.n<=8/\iw.l.length<=1099511627776)/\∀(o:Unit),True->∃(o:Unit),ar.wrap (qG (i.n 8).lh)=ar.wrap (qG iw.lh)/\aa (List UInt8×Bool) 1 ob ((i.n 8).left,(i.n 8).bad)=aa (List UInt8×Bool) 1 ob (iw.left,iw.bad)/\True
def y6o (i:RB):Prop:=
 dq i.b (∃(o:Unit),(if i.b=ay then(10:Int)else if 0<i.l.length then(15:Int)else(0:Int))=10/\dj (bE i.l)/\i.b=i.b/\True) (dq (decide ((↑(bE i.l).length:Int)>0)) (∃(o:Unit),(if i.b=ay then(10:Int)else if 0<i.l.length then(15:Int)else(0:Int))=15/\dj (bE i.l)/\i.b=i.b/\True) (∃(o:Unit),(if i.b=ay then(10:Int)else if 0<i.l.length then(15:Int)else(0:Int))=0/\dj (bE i.l)/\i.b=i.b/\True))
def yZn (k:Nat):∀n:Int,le (n % 256 ^ k) k=le n k:=by
 induction k with
 |zero=>intro n;rfl
 |succ k ih=>
  intro n;have hp:(0:Int)<256 ^ k:=Int.pow_pos oM;have h1:jj (n % 256 ^ (k+1))=jj n:=by
   unfold jj;rw[bu,EH,Int.emod_emod_of_dvd n ⟨256 ^ k,rfl⟩]
  have h2:n % 256 ^ (k+1) / 256=n / 256 % 256 ^ k:=by
   have e:n=256*(n / 256)+n % 256:=(Int.mul_ediv_add_emod n 256).symm;have e2:n / 256=256 ^ k*(n / 256 / 256 ^ k)+n / 256 % 256 ^ k:=(Int.mul_ediv_add_emod _ _).symm;have hr:=MY (n / 256) (show(256:Int) ^ k≠0 by omega);have xf:=ON (n / 256) hp;have e3:n % 256 ^ (k+1)=256*(n / 256 % 256 ^ k)+n % 256:=by
    have:n=256 ^ (k+1)*(n / 256 / 256 ^ k)+(256*(n / 256 % 256 ^ k)+n % 256):=by
     rw[bu,EH (256 ^ k) 256,Int.mul_assoc,<- Int.add_assoc,<- bv,<- e2];exact e
    conv=>lhs;rw[this]
    rw[Int.add_comm,Int.add_mul_emod_self_left,Int.emod_eq_of_lt]
    ·omega
    ·rw[bu];omega
   rw[e3];omega
  rw[le,le,h1,h2,ih]
def yDb (n:Int):le (au.wrap n) 8=le n 8:=yZn 8 n
def z5z (n:Int):jj (au.wrap n)=jj n:=by
 have:au.wrap n=n % 18446744073709551616:=rfl;unfold jj;rw[this,Int.emod_emod_of_dvd n ⟨72057594037927936,by decide⟩]
def aM (n:Int):0<=au.wrap n/\au.wrap n<18446744073709551616:=by
 have:au.wrap n=n % 18446744073709551616:=rfl;rw[this];omega
def y4a (i:WN) (h:Kb.dq i):yUb i:=by
 unfold yUb aW;have h:i.l.length+8<=1099511627776:=h;exact⟨⟨i.l,au.wrap i.n,1⟩,rfl,rfl,rfl,⟨(aM _).1,(aM _).2,Z9⟩,λ_ _=>⟨(),by simp only[le,z5z],trivial⟩⟩
def y6t (i:WN) (h:JQ.dq i):yUq i:=by
 unfold yUq aW;have h:i.l.length+8<=1099511627776:=h;exact⟨⟨i.l,au.wrap i.n,8⟩,rfl,rfl,rfl,⟨(aM _).1,(aM _).2,Z9⟩,λ_ _=>⟨(),by simp only[yDb],trivial⟩⟩
def y8r (i:WN) (h:P'.dq i):y2i i:=by
 unfold y2i aW;obtain⟨h1,h2,h3⟩:=h;have e:au.wrap i.n=i.n:=BH oM;exact⟨⟨i.l,au.wrap i.n,4⟩,rfl,rfl,rfl,⟨(aM _).1,(aM _).2,Z9⟩,λ_ _=>⟨(),by simp only[e],trivial⟩⟩
def SJ:Kb.ok Tryz.prog 84:=ib mixed (dx z5f fj) 0 (λ_=>[]) (λ_=>[]) [] Tryz.func84 y4a
def S3:JQ.ok Tryz.prog 72:=ib mixed (dx z5f fj) 0 (λ_=>[]) (λ_=>[]) [] Tryz.func72 y6t
def yGp:P'.ok Tryz.prog 129:=ib mixed (dx z5f fj) 0 (λ_=>[]) (λ_=>[]) [] Tryz.func129 y8r
def zNv:su.ok Tryz.prog 70:=yFk fj λi h=>λb hb=>
 Cv.dq.mk (λe=>⟨(),rfl,hb e,trivial⟩) (λ_=>⟨by rw[oa];exact h,(),rfl,rfl,trivial⟩)
def zPh:sm.ok Tryz.prog 70:=yDk fj λi h=>λb hb=>
 Cv.dq.mk (λe=>⟨(),hb e,trivial⟩) (λ_=>⟨by rw[oa];exact h,(),rfl,trivial⟩)
def SR:Rr.ok Tryz.prog 71:=ib (V:=y5i) mixed fj 0 (λ_=>[]) (λ_=>[]) [] Tryz.func71 λ(_:Unit) _=>⟨(),rfl,trivial⟩
def SK:R7.ok Tryz.prog 74:=ib (V:=y4f) mixed (dx zNv fj) 0 (λ_=>[]) (λ_=>[]) [0] Tryz.func74 λ(i:List UInt8) h=>by
 have h:i.length<=1099511627776:=h;exact⟨_,rfl,by rw[yH];omega,λ_ _=>⟨(),rfl,rfl,trivial⟩⟩
def VW:Rs.ok Tryz.prog 132:=ib (V:=y4j) mixed (dx zPh fj) 0 (λ_=>[]) (λ_=>[]) [] Tryz.func132 λ(i:List UInt8) h=>by
 have h:i.length<=1099511627776:=h;exact⟨_,rfl,by rw[yH];omega,λ_ _=>⟨(),rfl,rfl,trivial⟩⟩
def wN {l:List UInt8} {i:Nat} {b:UInt8} (h:l[i]? =ba b):zD (bE l) i 0 1=ba [.v (.int .u8 b.toNat)]:=by
 unfold zD bE;rw[vc,h];rfl
def yFz {l:List UInt8} {i:Nat} {b:UInt8} (h:l[i]? =ba b):Dx (l.take (i+1))=vX 8 (B2 .u32 (Dx (l.take i)) b.toNat):=by
 unfold Dx;rw[tb,h];simp[I7]
def y6k (b:UInt8):av.wrap (b.toNat:Int)=b.toNat:=y3s (by have:=b.toNat_lt;omega)
def y5f (b:UInt8):au.wrap (b.toNat:Int)=b.toNat:=BH (by have:=b.toNat_lt;omega)
def y6x (i:List UInt8) (h:QM.dq i):y4x i:=by
 unfold y4x kD;have h:i.length<=1099511627776:=h;refine⟨0,rfl,rfl,λj=>j<=i.length,λj=>i.length-j,Z9,λj hj=>zH (λgv=> ?_) (λgv=> ?_)⟩
 ·dsimp only at hj;rw[yH]at gv;obtain⟨b,hb⟩:∃b,i[j]? =ba b:=⟨_,vd oM⟩
  refine⟨⟨oM,by rw[yH];omega⟩,b.toNat,wN hb,(B2 .u32 (Dx (i.take j)) b.toNat,0),?_,rfl,λx=>x.1=B2 .u32 (Dx (i.take j)) b.toNat/\x.2<=8,λx=>8-x.2,⟨rfl,Z9⟩,?_⟩
  ·simp only[vX,y6k]
  rintro⟨c,n⟩ ⟨h1,h2⟩;dsimp only at h1 h2;subst h1;refine zH (λhn=>⟨oM,zH (λhc=> ?_) (λhc=> ?_)⟩) (λhn=> ?_)
  ·refine⟨(B2 .u32 (Dx (i.take j)) b.toNat,n+1),?_,?_,⟨rfl,by dsimp only at hn ⊢;omega⟩,by dsimp only at hn ⊢;omega,trivial⟩
   ·simp only[vX,Z0];rw[fh hc]
   ·rw[iA (by dsimp only;omega)];rfl
  ·refine⟨(B2 .u32 (Dx (i.take j)) b.toNat,n+1),?_,?_,⟨rfl,by dsimp only at hn ⊢;omega⟩,by dsimp only at hn ⊢;omega,trivial⟩
   ·simp only[vX,Z0];rw[fb hc]
   ·rw[iA (by dsimp only;omega)];rfl
  ·dsimp only at hn;obtain rfl:n=8:=by omega
   refine⟨j+1,yFz hb,?_,Z9,Z9,trivial⟩;rw[iA (by omega)];rfl
 ·dsimp only at hj;rw[yH]at gv;refine⟨(),?_,trivial⟩;rw[oh (by omega)];rfl
def z4w:QM.ok Tryz.prog 130:=ib mixed fj 0 (λ_=>[]) (λi=>y8l i) [] Tryz.func130 y6x
def yAc:Rm.ok Tryz.prog 210:=ib (V:=y2w) mixed fj 0 (λ_=>[]) (λ_=>[]) [0] Tryz.func210 λ(i:RN) h=>by
 obtain⟨h1,h2⟩:=h;refine Cv.dq.mk (λe=> ?_) (λe=>zH (λgv=> ?_) (λgv=> ?_))
 ·have:i.bad=ay:=by simp[RN.bad,e]
  exact⟨(),by simp[RN.lh,this],by simp[RN.left,this],this,trivial⟩
 ·rw[yH]at gv;have:i.bad=ay:=by simp[RN.bad];right;omega
  exact⟨(),by simp[RN.lh,this],by simp[RN.left,this],by rw[this,yH];simp;omega,trivial⟩
 ·rw[yH]at gv;have:i.bad=ax:=by simp[RN.bad,e];omega
  rw[yH];exact⟨⟨oM,oM⟩,⟨oM,oM⟩,(),by simp[RN.lh,this,Oc],by simp[RN.left,this,MD],by rw[this];simp;omega,trivial⟩
def mR:∀l:List UInt8,0<=qG l/\qG l<256 ^ l.length
 |[]=>by simp[qG]
 |b::l=>by
  obtain⟨h1,h2⟩:=mR l;have:=b.toNat_lt;simp only[qG,iJ,bu];omega
def zTs (b:UInt8):∀l:List UInt8,qG (l++[b])=qG l+b.toNat*256 ^ l.length
 |[]=>by simp[qG]
 |c::l=>by
  simp only[uc,qG,zTs b l,iJ,bu,bv];rw[EH (256 ^ l.length) 256,<- Int.mul_assoc,<- Int.mul_assoc,EH 256 (b.toNat:Int)];omega
def yMp {x b j:Nat} (hx:x<256 ^ j) (hb:b<256) (hj:j<8):GL .u64 x (IG .u64 b ((8*j:Nat):Int))=((x+b*256 ^ j:Nat):Int):=by
 have hp:256 ^ j=2 ^ (8*j):=by rw[Nat.pow_mul]
 have hle:256 ^ (j+1)<=256 ^ 8:=Nat.pow_le_pow_right oM oM;have abj:x+b*256 ^ j<256 ^ (j+1):=by
  rw[Nat.pow_succ];have:b*256 ^ j<=255*256 ^ j:=wz _ oM;omega
 have h8:(256:Nat) ^ 8=18446744073709551616:=by decide
 rw[<- yRa,<- yXr];have e1:yWh .u64 (b:Int) ((8*j:Nat):Int)=((b*256 ^ j:Nat):Int):=by
  show wr .u64 (Int.ofNat (b*2 ^ (Nat.min (8*j) 64)))=_;rw[show Nat.min (8*j) 64=8*j from GD (by omega),<- hp,UH];exact BH (by show(0:Int)<=((b*256 ^ j:Nat):Int)/\((b*256 ^ j:Nat):Int)<_;omega)
 rw[e1];show wr .u64 (Int.ofNat (Nat.lor (x % 18446744073709551616) ((b*256 ^ j) % 18446744073709551616)))=_;rw[Nat.mod_eq_of_lt (by omega),Nat.mod_eq_of_lt (by omega)];have e2:Nat.lor x (b*256 ^ j)=x+b*256 ^ j:=by
  show x|||(b*256 ^ j)=_
  rw[hp]at hx ⊢;rw[Nat.or_comm,<- Nat.shiftLeft_eq,<- Nat.shiftLeft_add_eq_or_of_lt hx,EI]
 rw[e2,UH];exact BH (by show(0:Int)<=((x+b*256 ^ j:Nat):Int)/\((x+b*256 ^ j:Nat):Int)<_;omega)
def SZ (i:RN):i.lh.length<=i.n:=by
 unfold RN.lh;split
 ·simp
 ·rw[om];omega
def y5k (i:RN) (h:QF.dq i):y5v i:=by
 unfold y5v;obtain⟨h1,h2⟩:=h;refine⟨i,rfl,rfl,⟨oM,h2⟩,λ_ _=>⟨0,rfl,rfl,λj=>j<=i.lh.length,λj=>i.lh.length-j,Z9,λj hj=>zH (λgv=> ?_) (λgv=> ?_)⟩⟩
 ·dsimp only at hj;have hl:=SZ i;rw[yH]at gv ⊢;obtain⟨b,hb⟩:∃b,i.lh[j]? =ba b:=⟨_,vd oM⟩
  have e8:ar.wrap (8*(j:Int))=8*j:=iA oM;refine⟨⟨oM,oM⟩,b.toNat,wN hb,by rw[e8];omega,j+1,?_,?_,Z9,Z9,rfl⟩
  ·rw[e8,y5f,tb,hb];simp only[Eb];rw[zTs];obtain⟨r1,r2⟩:=mR (i.lh.take j);rw[om,GD (by omega)]at r2 ⊢;obtain⟨x,hx⟩:∃x:Nat,qG (i.lh.take j)=x:=⟨(qG (i.lh.take j)).toNat,oM⟩
   rw[hx]at r2 ⊢;have:=yMp (x:=x) (b:=b.toNat) (j:=j) (by exact_mod_cast r2) b.toNat_lt oM;rw[show(8*(j:Int))=((8*j:Nat):Int)by simp,this];simp
  ·rw[iA (by omega)];rfl
 ·dsimp only at hj;rw[yH]at gv;exact⟨(),by rw[oh (by omega)],rfl,trivial⟩
def z5a:QF.ok Tryz.prog 179:=ib mixed (dx yAc fj) 0 (λ_=>[]) (λi=>y9c i) [] Tryz.func179 y5k
def z0i:LP.ok Tryz.prog 140:=ib (V:=yWb) mixed (dx z5a fj) 0 (λ_=>[]) (λ_=>[]) [] Tryz.func140 λ(i:RB) h=>by
 have hl:=SZ (i.n 1);have hr:=mR (i.n 1).lh;have h0:(256:Int) ^ (i.n 1).lh.length<=256 ^ 1:=by
  have:(256:Nat) ^ (i.n 1).lh.length<=256 ^ 1:=Nat.pow_le_pow_right oM hl
  exact_mod_cast this
 exact⟨i.n 1,rfl,rfl,⟨by show 1<=8;omega,h⟩,λ_ _=>⟨(),(iA oM).symm,rfl,trivial⟩⟩
def zZm:LO.ok Tryz.prog 133:=ib (V:=yXf) mixed (dx z5a fj) 0 (λ_=>[]) (λ_=>[]) [] Tryz.func133 λ(i:RB) h=>by
 exact⟨i.n 8,rfl,rfl,⟨by show 8<=8;omega,h⟩,λ_ _=>⟨(),rfl,rfl,trivial⟩⟩
def ySm:Ro.ok Tryz.prog 141:=ib (V:=y6o) mixed fj 0 (λ_=>[]) (λ_=>[]) [0] Tryz.func141 λ(i:RB) h=>by
 refine Cv.dq.mk (λe=>⟨(),by rw[fh e],rfl,rfl,trivial⟩) (λe=>zH (λgv=>⟨(),?_,rfl,rfl,trivial⟩) (λgv=>⟨(),?_,rfl,rfl,trivial⟩))
 ·rw[yH]at gv;rw[fb (by simp[e]),fh (by omega)]
 ·rw[yH]at gv;rw[fb (by simp[e]),fb (by omega)]
open Classical
structure Sd where
 levels:List Lv
 imp:Lv
 has:Bool
@[reducible] def Vw:=List (Sd×Sd)
def yG (b:Sd×Sd):List D:=[.ro 3 (b.1.levels.map kx),.v (.int .i64 b.1.imp.dk),.v (.int .i64 b.1.imp.dr),.v (.int .i64 b.1.imp.count),.v (.bool b.1.has),
 .ro 3 (b.2.levels.map kx),.v (.int .i64 b.2.imp.dk),.v (.int .i64 b.2.imp.dr),.v (.int .i64 b.2.imp.count),.v (.bool b.2.has)]
def sdV (s:Sd):V:= .agg [oD 3 (s.levels.map kx),zA s.imp.dk,zA s.imp.dr,zA s.imp.count,yN s.has]
def UT (v:Vw):V:= .agg [oD 10 (v.map yG)]
def b9 (side x y:Int):Bool:=if side=1 then decide (y<x)else decide (x<y)
structure I3 where
 side:Int
 x:Int
 y:Int
def IC:gi:=fp I3 (λi=>[zA i.side,zA i.x,zA i.y]) (λ_=>[]) (λ_=>True) (λi=>yN (b9 i.side i.x i.y)) (λ_=>[])
def xw (side:Int) (l:List Lv) (i:Nat):Prop:=∀a,l[i]?=ba a->1<=a.dr/\1<=a.count/\∀j b,i=j+1->l[j]?=ba b->b9 side b.dk a.dk=ay
def nw (side:Int) (s:Sd):Prop:=(∀i,xw side s.levels i)/\s.levels.length<=255/\(s.has=ay->1<=s.imp.dr/\1<=s.imp.count)/\(s.has=ax->s.imp=⟨0,0,0⟩)
def aF (v:Vw):Prop:=(∀b∈v,nw 1 b.1/\nw 2 b.2)/\v.length<=255
noncomputable def jU (side:Int) (s:Sd):Bool:=decide (nw side s)
noncomputable def b7 (v:Vw):Bool:=decide (aF v)
structure Lg where
 side:Int
 s:Sd
noncomputable def C':gi:=fp Lg (λi=>[zA i.side,sdV i.s]) (λ_=>[]) (λi=>i.s.levels.length<=1099511627776) (λi=>yN (jU i.side i.s)) (λ_=>[])
def yQp:List gp:=[{ι:=Nat,dv:=λj=>[(10,zA j)],rows:=λ_=>[]}]
@[reducible] def Mv (v:Vw):Prop:=v.length<=1099511627776/\∀b∈v,b.1.levels.length<=1099511627776/\b.2.levels.length<=1099511627776
noncomputable def Dd:gi:=fp Vw (λv=>[UT v]) (λ_=>[]) Mv (λv=>yN (b7 v)) (λ_=>[])
def ySj:List gp:=[{ι:=Nat,dv:=λj=>[(8,zA j)],rows:=λ_=>[]}]
def kU (l:Lv):List UInt8:=le l.dk 8++le l.dr 8++le l.count 8
structure Kw where
 l:List UInt8
 v:Lv
def Rp:gi:=fp Kw (λi=>[.nm 0 0,UY i.v]) (λi=>[Wr i.l]) (λi=>i.l.length+24<=1099511627776) (λ_=>bN) (λi=>[Wr (i.l++kU i.v)])
def Ho (s:Sd):List UInt8:=[jj s.levels.length]++s.levels.flatMap kU++(if s.has then[jj 1]++kU s.imp else[jj 0])
def vA (b:Sd×Sd):List UInt8:=Ho b.1++Ho b.2
def aG (v:Vw) (seq:Int):List UInt8:=le seq 8++[jj v.length]++v.flatMap vA
noncomputable def dZ (v:Vw) (seq:Int):List UInt8:=if aF v then aG v seq++le (aY (aG v seq)) 4 else[]
noncomputable def NZ (v:Vw):Int:=if aF v then 0 else 12
structure Gw where
 v:Vw
 seq:Int
noncomputable def QK:gi:=fp Gw (λi=>[UT i.v,zA i.seq]) (λ_=>[]) (λi=>Mv i.v) (λi=> .ja [oD 1 (bE (dZ i.v i.seq)),zA (NZ i.v)]) (λ_=>[])
def y7f (i:Gw):List gp:=[
 {ι:=Nat,dv:=λj=>[(6,.nm 0 0),(28,zA j)],rows:=λj=>[Wr (le i.seq 8++[jj i.v.length]++(i.v.take j).flatMap vA)]},
 {ι:=Unit,dv:=λ_=>[],rows:=λ_=>[],un:=3},
 {ι:=List UInt8×List Lv×Nat,dv:=λx=>[(6,.nm 0 0),(44,zA x.2.2)],rows:=λx=>[Wr (x.1++(x.2.1.take x.2.2).flatMap kU)]}]
def yRd (i:I3):Prop:=
 dq (i.side==1) (∃(o:Unit),b9 i.side i.x i.y=decide (i.x>i.y)/\True) (∃(o:Unit),b9 i.side i.x i.y=decide (i.x<i.y)/\True)
def Zt (a:Nat) (b:Nat->Prop) (c:Nat->Nat) (d:Lg):Prop:=∃(e:Nat),(↑e:Int)=ar.wrap ((↑a:Int)+1)/\b e/\c e<c a/\dj (ac [V.own 0,V.d (dI d.s.imp.dk),V.d (dI d.s.imp.dr),V.d (dI d.s.imp.count),V.d (D.v (.bool d.s.has))] 179)/\dj (ab 3 (aj kx d.s.levels))
def fA (a:Lg):=(↑(aj kx a.s.levels).length:Int)
def yAa (i:Lg):Prop:=
 ∃(a:Nat),(↑a:Int)=0/\∃(b:Nat->Prop),∃(c:Nat->Nat),b a/\∀(d:Nat),b d->dq (decide ((↑d:Int)<(fA i))) ((0<=(↑d:Int)/\(↑d:Int)<(fA i))/\∃(e:Int),∃(f:Int),∃(g:Int),zD (aj kx i.s.levels) (↑d:Int).toNat 0 3=ba [dI e,dI f,dI g]/\dq (decide (f<1)) (∃(h:Unit),jU i.side i.s=ax/\True) (dq (decide (g<1)) (∃(h:Unit),jU i.side i.s=ax/\True) (dq (decide ((↑d:Int)>0)) ((0<=ar.wrap ((↑d:Int)-1)/\ar.wrap ((↑d:Int)-1)<(fA i))/\∃(h:Int),zD (aj kx i.s.levels) (ar.wrap ((↑d:Int)-1)).toNat 0 1=ba [dI h]/\∃(j:I3),j.side=i.side/\j.x=h/\j.y=e/\True/\∀(k:Unit),True->dq (!b9 j.side j.x j.y) (∃(l:Unit),jU i.side i.s=ax/\True) (Zt d b c i)) (Zt d b c i)))) (dq (!i.s.has) (dq (decide ((fA i)<=255)) (∃(e:Unit),jU i.side i.s=(i.s.imp.dk==0 && (i.s.imp.dr==0 && (i.s.imp.count==0 && ay)))/\True) (∃(e:Unit),jU i.side i.s=ax/\True)) (dq (decide ((fA i)<=255)) (dq (decide (i.s.imp.dr>=1)) (∃(e:Unit),jU i.side i.s=decide (i.s.imp.count>=1)/\True) (∃(e:Unit),jU i.side i.s=ax/\True)) (∃(e:Unit),jU i.side i.s=ax/\True)))
def yCu (i:Vw):Prop:=
 ∃(a:Nat),(↑a:Int)=0/\∃(b:Nat->Prop),∃(c:Nat->Nat),b a/\∀(d:Nat),b d->dq (decide ((↑d:Int)<(↑(aj yG i).length:Int))) ((0<=(↑d:Int)/\(↑d:Int)<(↑(aj yG i).length:Int))/\∃(e:List (List D)),∃(f:Int),∃(g:Int),∃(h:Int),∃(j:Bool),∃(k:List (List D)),∃(l:Int),∃(m:Int),∃(n:Int),∃(p:Bool),zD (aj yG i) (↑d:Int).toNat 0 10=ba [D.ro 3 e,dI f,dI g,dI h,D.v (.bool j),D.ro 3 k,dI l,dI m,dI n,D.v (.bool p)]/\∃(q:Lg),q.side=1/\aj kx q.s.levels=e/\q.s.imp.dk=f/\q.s.imp.dr=g/\q.s.imp.count=h/\q.s.has=j/\q.s.levels.length<=1099511627776/\∀(r:Unit),True->dq (!jU q.side q.s) (∃(s:Unit),b7 i=ax/\True) (∃(s:Lg),s.side=2/\aj kx s.s.levels=k/\s.s.imp.dk=l/\s.s.imp.dr=m/\s.s.imp.count=n/\s.s.has=p/\s.s.levels.length<=1099511627776/\∀(t:Unit),True->dq (!jU s.side s.s) (∃(u:Unit),b7 i=ax/\True) (∃(u:Nat),(↑u:Int)=ar.wrap ((↑d:Int)+1)/\b u/\c u<c d/\dj (ac [V.own 0] 89)/\dj (ab 10 (aj yG i))))) (∃(e:Unit),b7 i=decide ((↑(aj yG i).length:Int)<=255)/\True)
def y2s (i:Kw):Prop:=
 ∃(iw:WN),iw.n=i.v.dk/\aa (List UInt8) 2 je iw.l=Wr i.l/\iw.ok/\∀(o:Unit),True->∃(ng:WN),ng.n=i.v.dr/\aa (List UInt8) 2 je ng.l=aa (List UInt8) 2 je (iw.l++le iw.n 8)/\ng.ok/\∀(o:Unit),True->∃(iO:WN),iO.n=i.v.count/\aa (List UInt8) 2 je iO.l=aa (List UInt8) 2 je (ng.l++le ng.n 8)/\iO.ok/\∀(o:Unit),True->∃(o:Unit),aa (List UInt8) 2 je (i.l++kU i.v)=aa (List UInt8) 2 je (iO.l++le iO.n 8)/\True
def Wz (a:Gw):Prop:=ac [V.own 0] 89=ac [V.own 0] 89/\dj (ab 10 (aj yG a.v))
def Xj (a:Nat->Prop) (b:Nat) (c:Nat->Nat) (d:Nat) (e:Gw):Prop:=a b/\c b<c d/\Wz e
def rE (a:Gw) (b:Nat):=(le a.seq 8++[jj (↑(aq a.v):Int)]++List.flatMap vA (ak b a.v))
def uB (a:List UInt8×List Lv×Nat):=(a.fst++List.flatMap kU (ak a.snd.snd a.snd.fst))
def VH (a:Int) (b:Int) (c:Int) (d:Bool) (e:List (List D)) (f:List (List D)) (g:Int) (h:Int) (j:Int) (k:Bool) (l:Gw):Prop:=ac [V.own 5,V.d (dI a),V.d (dI b),V.d (dI c),V.d (D.v (.bool d))] 179=ac [V.own 5,V.d (dI a),V.d (dI b),V.d (dI c),V.d (D.v (.bool d))] 179/\dj (ab 3 e)/\dj (ab 3 f)/\dj (ac [V.own 5,V.d (dI a),V.d (dI b),V.d (dI c),V.d (D.v (.bool d)),V.own 6,V.d (dI g),V.d (dI h),V.d (dI j),V.d (D.v (.bool k))] 180)/\Wz l
def VE (a:WN) (b:List (List D)) (c:Int) (d:Int) (e:Int) (f:Bool) (g:Int) (h:Int) (j:Int) (k:Bool) (l:List (List D)) (m:Gw) (n:Nat) (p:Nat->Prop) (q:Nat->Nat):Prop:=a.ok/\∀(r:Unit),True->∃(s:List UInt8×List Lv×Nat),(↑s.snd.snd:Int)=0/\aa (List UInt8) 2 je (uB s)=aa (List UInt8) 2 je (a.l++[jj a.n])/\∃(t:List UInt8×List Lv×Nat->Prop),∃(u:List UInt8×List Lv×Nat->Nat),t s/\∀(v:List UInt8×List Lv×Nat),t v->dq (decide ((↑v.snd.snd:Int)<(↑b.length:Int))) ((0<=(↑v.snd.snd:Int)/\(↑v.snd.snd:Int)<(↑b.length:Int))/\∃(w:Int),∃(x:Int),∃(y:Int),zD b (↑v.snd.snd:Int).toNat 0 3=ba [dI w,dI x,dI y]/\∃(z:Kw),z.v.dk=w/\z.v.dr=x/\z.v.count=y/\aa (List UInt8) 2 je z.l=aa (List UInt8) 2 je (uB v)/\z.l.length+(24:Nat)<=(1099511627776:Nat)/\∀(iW:Unit),True->∃(lu:List UInt8×List Lv×Nat),(↑lu.snd.snd:Int)=ar.wrap ((↑v.snd.snd:Int)+1)/\aa (List UInt8) 2 je (uB lu)=aa (List UInt8) 2 je (z.l++kU z.v)/\t lu/\u lu<u v/\dj (ac [V.own 6,V.d (dI c),V.d (dI d),V.d (dI e),V.d (D.v (.bool f))] 179)/\VH g h j k b l c d e f m) (dq (!f) (∃(w:WN),w.n=0/\aa (List UInt8) 2 je w.l=aa (List UInt8) 2 je (uB v)/\w.ok/\∀(x:Unit),True->∃(y:Nat),(↑y:Int)=ar.wrap ((↑n:Int)+1)/\aa (List UInt8) 2 je (rE m y)=aa (List UInt8) 2 je (w.l++[jj w.n])/\Xj p y q n m) (∃(w:WN),w.n=1/\aa (List UInt8) 2 je w.l=aa (List UInt8) 2 je (uB v)/\w.ok/\∀(x:Unit),True->∃(y:Kw),y.v.dk=c/\y.v.dr=d/\y.v.count=e/\aa (List UInt8) 2 je y.l=aa (List UInt8) 2 je (w.l++[jj w.n])/\y.l.length+(24:Nat)<=(1099511627776:Nat)/\∀(z:Unit),True->∃(iW:Nat),(↑iW:Int)=ar.wrap ((↑n:Int)+1)/\aa (List UInt8) 2 je (rE m iW)=aa (List UInt8) 2 je (y.l++kU y.v)/\Xj p iW q n m))
def y3c (i:Gw):Prop:=
 ∃(a:Vw),aj yG a=aj yG i.v/\(aq a<=1099511627776/\∀(b:Sd×Sd),b∈a->b.fst.levels.length<=1099511627776/\b.snd.levels.length<=1099511627776)/\∀(b:Unit),True->dq (!b7 a) (∃(c:Unit),bE (dZ i.v i.seq)=[]/\NZ i.v=12/\True) (∃(c:Unit),True/\∀(d:Unit),True->∃(e:WN),e.n=i.seq/\aa (List UInt8) 2 je e.l=aa (List UInt8) 2 je []/\e.ok/\∀(f:Unit),True->∃(g:WN),g.n=(↑(aj yG i.v).length:Int)/\aa (List UInt8) 2 je g.l=aa (List UInt8) 2 je (e.l++le e.n 8)/\g.ok/\∀(h:Unit),True->∃(j:Nat),(↑j:Int)=0/\aa (List UInt8) 2 je (rE i j)=aa (List UInt8) 2 je (g.l++[jj g.n])/\∃(k:Nat->Prop),∃(l:Nat->Nat),k j/\∀(m:Nat),k m->dq (decide ((↑m:Int)<(↑(aj yG i.v).length:Int))) ((0<=(↑m:Int)/\(↑m:Int)<(↑(aj yG i.v).length:Int))/\∃(n:List (List D)),∃(p:Int),∃(q:Int),∃(r:Int),∃(s:Bool),∃(t:List (List D)),∃(u:Int),∃(v:Int),∃(w:Int),∃(x:Bool),zD (aj yG i.v) (↑m:Int).toNat 0 10=ba [D.ro 3 n,dI p,dI q,dI r,D.v (.bool s),D.ro 3 t,dI u,dI v,dI w,D.v (.bool x)]/\∃(y:WN),y.n=(↑n.length:Int)/\aa (List UInt8) 2 je y.l=aa (List UInt8) 2 je (rE i m)/\y.ok/\∀(z:Unit),True->∃(iW:List UInt8×List Lv×Nat),(↑iW.snd.snd:Int)=0/\aa (List UInt8) 2 je (uB iW)=aa (List UInt8) 2 je (y.l++[jj y.n])/\∃(lu:List UInt8×List Lv×Nat->Prop),∃(jg:List UInt8×List Lv×Nat->Nat),lu iW/\∀(km:List UInt8×List Lv×Nat),lu km->dq (decide ((↑km.snd.snd:Int)<(↑n.length:Int))) ((0<=(↑km.snd.snd:Int)/\(↑km.snd.snd:Int)<(↑n.length:Int))/\∃(iB:Int),∃(o5:Int),∃(jo:Int),zD n (↑km.snd.snd:Int).toNat 0 3=ba [dI iB,dI o5,dI jo]/\∃(BS:Kw),BS.v.dk=iB/\BS.v.dr=o5/\BS.v.count=jo/\aa (List UInt8) 2 je BS.l=aa (List UInt8) 2 je (uB km)/\BS.l.length+(24:Nat)<=(1099511627776:Nat)/\∀(CZ:Unit),True->∃(Bj:List UInt8×List Lv×Nat),(↑Bj.snd.snd:Int)=ar.wrap ((↑km.snd.snd:Int)+1)/\aa (List UInt8) 2 je (uB Bj)=aa (List UInt8) 2 je (BS.l++kU BS.v)/\lu Bj/\jg Bj<jg km/\VH p q r s t n u v w x i) (dq (!s) (∃(iB:WN),iB.n=0/\aa (List UInt8) 2 je iB.l=aa (List UInt8) 2 je (uB km)/\iB.ok/\∀(o5:Unit),True->∃(jo:WN),jo.n=(↑t.length:Int)/\aa (List UInt8) 2 je jo.l=aa (List UInt8) 2 je (iB.l++[jj iB.n])/\VE jo t u v w x p q r s n i m k l) (∃(iB:WN),iB.n=1/\aa (List UInt8) 2 je iB.l=aa (List UInt8) 2 je (uB km)/\iB.ok/\∀(o5:Unit),True->∃(jo:Kw),jo.v.dk=p/\jo.v.dr=q/\jo.v.count=r/\aa (List UInt8) 2 je jo.l=aa (List UInt8) 2 je (iB.l++[jj iB.n])/\jo.l.length+(24:Nat)<=(1099511627776:Nat)/\∀(BS:Unit),True->∃(CZ:WN),CZ.n=(↑t.length:Int)/\aa (List UInt8) 2 je CZ.l=aa (List UInt8) 2 je (jo.l++kU jo.v)/\VE CZ t u v w x p q r s n i m k l))) (∃(n:List UInt8),aa (List UInt8) 2 je n=aa (List UInt8) 2 je (rE i m)/\n.length<=1099511627776/\∀(p:Unit),True->∃(q:List UInt8),bE q=bE n/\q.length<=1099511627776/\∀(r:Unit),True->∃(s:WN),s.n=aY q/\aa (List UInt8) 2 je s.l=aa (List UInt8) 2 je n/\(s.l.length+(8:Nat)<=(1099511627776:Nat)/\0<=s.n/\s.n<4294967296)/\∀(t:Unit),True->∃(u:List UInt8),aa (List UInt8) 2 je u=aa (List UInt8) 2 je (s.l++le s.n 4)/\u.length<=1099511627776/\∀(v:Unit),True->∃(w:Unit),bE (dZ i.v i.seq)=bE u/\NZ i.v=0/\True))
def MP {α:Type} {f:α->List D} {l:List α} {i n:Nat} {x:α} (h:l[i]? =ba x) (hn:(f x).length=n):zD (l.map f) i 0 n=ba (f x):=by
 unfold zD;rw[vc,h];simp only[we,oa,hn,Nat.ble_eq_true_of_le (lk n),cond_true,DA];rw[<- hn,oh (lk _)]
def y3f {α:Type} {f:α->List D} {l:List α} {i g n:Nat} {x:α} {r:List D} (h:l[i]? =ba x) (hn:g+n<=(f x).length) (hr:((f x).drop g).take n=r):zD (l.map f) i g n=ba r:=by
 unfold zD;rw[vc,h];simp only[we,Nat.ble_eq_true_of_le hn,cond_true,hr]
def getD {α:Type} {l:List α} {i:Nat} (h:i<l.length):∃x,l[i]? =ba x:=⟨_,vd h⟩
def zUb:IC.ok Tryz.prog 187:=ib (V:=yRd) mixed fj 0 (λ_=>[]) (λ_=>[]) [] Tryz.func187 λ(i:I3) _=>by
 refine Cv.dq.mk (λe=>⟨(),?_,trivial⟩) (λe=>⟨(),?_,trivial⟩)
 ·have e:i.side=1:=by simpa using e
  simp[b9,e]
 ·have e:i.side≠1:=by simpa using e
  simp[b9,e]
def Nd {side:Int} {s:Sd} (h:¬nw side s):jU side s=ax:=ku h
def xw.of {side:Int} {l:List Lv} {i:Nat} {x:Lv} (hx:l[i]? =ba x) (h1:1<=x.dr) (h2:1<=x.count) (h3:∀j b,i=j+1->l[j]? =ba b->b9 side b.dk x.dk=ay):xw side l i:=by
 intro a ha;rw[hx]at ha;cases ha;exact⟨h1,h2,h3⟩
def yTe (i:Lg) (h:C'.dq i):yAa i:=by
 unfold yAa fA Zt dI;have h:i.s.levels.length<=1099511627776:=h;refine⟨0,rfl,λj=>j<=i.s.levels.length/\∀k,k<j->xw i.side i.s.levels k,λj=>i.s.levels.length-j,⟨oM,by intro k hk;omega⟩,λj hj=>zH (λgv=> ?_) (λgv=> ?_)⟩
 ·obtain⟨hj1,GU⟩:=hj;rw[im]at gv ⊢;obtain⟨x,hx⟩:=getD (l:=i.s.levels) (i:=j) oM;have w1:ar.wrap ((j:Int)+1)=((j+1:Nat):Int):=by rw[iA (by omega)];rfl
  have next:xw i.side i.s.levels j->(λj=>j<=i.s.levels.length/\∀k,k<j->xw i.side i.s.levels k) (j+1):=λhl=>⟨oM,λk hk=>by
   rcases ur k j with h'|h'
   ·exact GU k h'
   ·obtain rfl:k=j:=by omega
    exact hl⟩
  refine⟨⟨oM,oM⟩,x.dk,x.dr,x.count,MP hx rfl,zH (λhq=> ?_) (λhq=>zH (λhc=> ?_) (λhc=>zH (λhp=> ?_) (λhp=> ?_)))⟩
  ·exact⟨(),Nd λhr=>by have:=(hr.1 j x hx).1;omega,trivial⟩
  ·exact⟨(),Nd λhr=>by have:=(hr.1 j x hx).2.1;omega,trivial⟩
  ·have w0:ar.wrap ((j:Int)-1)=((j-1:Nat):Int):=by rw[iA (by omega)];omega
   obtain⟨y,hy⟩:=getD (l:=i.s.levels) (i:=j-1) oM;refine⟨⟨by rw[w0];omega,by rw[w0];omega⟩,y.dk,by rw[w0];exact y3f (n:=1) hy (by show 0+0+1<=3;omega) rfl,⟨i.side,y.dk,x.dk⟩,rfl,rfl,rfl,trivial,λ_ _=> ?_⟩;refine Cv.dq.mk (λhb=>⟨(),Nd λhr=> ?_,trivial⟩) (λhb=>⟨j+1,w1.symm,next (xw.of hx oM oM ?_),Z9,gu⟩)
   ·have:=(hr.1 j x hx).2.2 (j-1) y oM hy;simp only[EM]at hb;rw[hb]at this;cases this
   ·intro k b hk An;obtain rfl:k=j-1:=by omega
    rw[hy]at An;cases An;simpa using hb
  ·exact⟨j+1,w1.symm,next (xw.of hx oM oM λk b hk _=>by omega),Z9,gu⟩
 ·obtain⟨hj1,GU⟩:=hj;rw[im]at gv ⊢;obtain rfl:j=i.s.levels.length:=by omega
  have vj:∀k,xw i.side i.s.levels k:=λk=>by
   rcases ur k i.s.levels.length with h'|h'
   ·exact GU k h'
   ·intro a ha;rw[ue h']at ha;cases ha
  refine Cv.dq.mk (λhh=>zH (λhl=>⟨(),?_,trivial⟩) (λhl=>⟨(),Nd λhr=>by have:=hr.2.1;omega,trivial⟩))
   (λhh=>zH (λhl=>zH (λhq=>⟨(),?_,trivial⟩) (λhq=>⟨(),Nd λhr=> ?_,trivial⟩)) (λhl=>⟨(),Nd λhr=>by have:=hr.2.1;omega,trivial⟩))
  ·have hh:i.s.has=ax:=by simpa using hh
   rw[Hv];simp only[jU,ud,lr,beq_iff_eq,and_true];constructor
   ·intro hr;have:=hr.2.2.2 hh;rw[this];exact⟨rfl,rfl,rfl⟩
   ·rintro⟨e1,e2,e3⟩;refine⟨vj,oM,(λhc=>by rw[hh]at hc;cases hc),λ_=> ?_⟩;cases hi:i.s.imp;rw[hi]at e1 e2 e3;simp_all
  ·have hh:i.s.has=ay:=by simpa using hh
   rw[Hv];simp only[jU,ud];exact⟨λhr=>(hr.2.2.1 hh).2,λhc=>⟨vj,oM,λ_=>⟨hq,hc⟩,λhc=>by rw[hh]at hc;cases hc⟩⟩
  ·have hh:i.s.has=ay:=by simpa using hh
   have:=(hr.2.2.1 hh).1;omega
def yDm:C'.ok Tryz.prog 182:=ib mixed (dx zUb fj) 0 (λ_=>[]) (λ_=>yQp) [] Tryz.func182 yTe
def vwF {v:Vw} (h:¬aF v):b7 v=ax:=ku h
def ySz (v:Vw) (h:Dd.dq v):yCu v:=by
 unfold yCu dI;obtain⟨h1,h2⟩:Mv v:=h;refine⟨0,rfl,λj=>j<=v.length/\∀k b,k<j->v[k]? =ba b->nw 1 b.1/\nw 2 b.2,λj=>v.length-j,⟨oM,by intro k b hk;omega⟩,λj hj=>zH (λgv=> ?_) (λgv=> ?_)⟩
 ·obtain⟨hj1,GU⟩:=hj;rw[im]at gv ⊢;obtain⟨x,hx⟩:=getD (l:=v) (i:=j) oM;have hm:=lq hx;have w1:ar.wrap ((j:Int)+1)=((j+1:Nat):Int):=by rw[iA (by omega)];rfl
  refine⟨⟨oM,oM⟩,_,_,_,_,_,_,_,_,_,_,MP hx rfl,⟨1,x.1⟩,rfl,rfl,rfl,rfl,rfl,rfl,(h2 x hm).1,λ_ _=>Cv.dq.mk (λhb=> ?_) (λhb=>⟨⟨2,x.2⟩,yj ⟨rfl,(h2 x hm).2,λ_ _=>Cv.dq.mk (λnh=> ?_) (λnh=> ?_)⟩⟩)⟩
  ·refine⟨(),vwF λhr=> ?_,trivial⟩;simp only[EM,jU,decide_eq_false_iff_not]at hb;exact hb (hr.1 x hm).1
  ·refine⟨(),vwF λhr=> ?_,trivial⟩;simp only[EM,jU,decide_eq_false_iff_not]at nh;exact nh (hr.1 x hm).2
  ·simp only[Bool.not_eq_false',jU,ud]at hb nh;refine⟨j+1,w1.symm,⟨oM,λk b hk An=> ?_⟩,Z9,gu⟩;rcases ur k j with h'|h'
   ·exact GU k b h' An
   ·obtain rfl:k=j:=by omega
    rw[hx]at An;cases An;exact⟨hb,nh⟩
 ·obtain⟨hj1,GU⟩:=hj;rw[im]at gv ⊢;obtain rfl:j=v.length:=by omega
  refine⟨(),?_,trivial⟩;rw[Hv];simp only[b7,ud];constructor
  ·intro hr;have:=hr.2;omega
  ·intro hr;refine⟨λb hb=> ?_,oM⟩;obtain⟨k,hk⟩:=M5 hb;exact GU k b (jv.1 hk).1 hk
def yGe:Dd.ok Tryz.prog 138:=ib mixed (dx yDm fj) 0 (λ_=>[]) (λ_=>ySj) [] Tryz.func138 ySz
def yPj:Rp.ok Tryz.prog 139:=ib (V:=y2s) mixed (dx S3 fj) 0 (λ_=>[]) (λ_=>[]) [] Tryz.func139 λ(i:Kw) h=>by
 have h:i.l.length+24<=1099511627776:=h;refine⟨⟨i.l,i.v.dk⟩,rfl,rfl,(show i.l.length+8<=1099511627776 by omega),λ_ _=>⟨⟨i.l++le i.v.dk 8,i.v.dr⟩,rfl,rfl,?_,λ_ _=>⟨⟨i.l++le i.v.dk 8++le i.v.dr 8,i.v.count⟩,rfl,rfl,?_,λ_ _=>⟨(),?_,trivial⟩⟩⟩⟩
 ·show _+8<=_;rw[iv,xJ];omega
 ·show _+8<=_;rw[iv,iv,xJ,xJ];omega
 ·simp only[kU,jh]
def Wx {α:Type} {f:α->List UInt8} {c:Nat}:∀{l:List α},(∀x∈l,(f x).length<=c)->(l.flatMap f).length<=c*l.length
 |[],_=>by simp
 |a::l,h=>by
  have h1:=h a (by simp);have h2:=Wx (l:=l) λx hx=>h x (by simp[hx])
  simp only[wg,iv,iJ,Nat.mul_add,Nat.mul_one];omega
def pY {α β:Type} {f:α->List β} {l:List α} {k:Nat} {x:α} (h:l[k]? =ba x):(l.take (k+1)).flatMap f=(l.take k).flatMap f++f x:=by
 rw[tb,h];simp
def zUq (l:Lv):(kU l).length=24:=by simp[kU,xJ]
def eV (l:List Lv):(l.flatMap kU).length<=24*l.length:=Wx λx _=>by rw[zUq];omega
def Xx {s:Sd} (h:s.levels.length<=255):(Ho s).length<=6146:=by
 have:=eV s.levels;unfold Ho;rw[iv,iv,AN];split
 ·rw[iv,zUq,AN];omega
 ·rw[AN];omega
def nw.len {n:Int} {s:Sd} (h:nw n s):s.levels.length<=255:=h.2.1
def z2p {v:Vw} (h:aF v) (j:Nat):((v.take j).flatMap vA).length<=3134460:=by
 have h1:∀x∈v.take j,(vA x).length<=12292:=λx hx=>by
  have:=h.1 x (M6 hx);have a:=Xx this.1.len;have b:=Xx this.2.len;unfold vA;rw[iv];omega
 have h2:=Wx h1;have h3:=h.2;rw[om]at h2;omega
def yDv (n:Int):0<=av.wrap n/\av.wrap n<4294967296:=by
 have:av.wrap n=n % 4294967296:=rfl;rw[this];omega
def Zq (l:List UInt8):0<=aY l/\aY l<4294967296:=yDv _
def y7l (i:Gw) (h:QK.dq i):y3c i:=by
 unfold y3c VE VH uB rE Xj Wz dI;refine⟨i.v,rfl,h,λ_ _=>Cv.dq.mk (λe=> ?_) (λe=> ?_)⟩
 ·have hn:¬aF i.v:=by simpa[b7]using e
  exact⟨(),by rw[dZ,fb hn];rfl,by rw[NZ,fb hn],trivial⟩
 have hr:aF i.v:=by simpa[b7]using e
 have hB:∀j,(le i.seq 8++[jj i.v.length]++(i.v.take j).flatMap vA).length<=3134470:=λj=>by
  have:=z2p hr j;simp only[iv,xJ,iJ,ua];omega
 refine⟨(),trivial,λ_ _=>⟨⟨[],i.seq⟩,rfl,rfl,(show 0+8<=1099511627776 by omega),λ_ _=>⟨⟨le i.seq 8,i.v.length⟩,by rw[im],rfl,(show(le i.seq 8).length+8<=1099511627776 by rw[xJ];omega),λ_ _=>⟨0,rfl,by simp,λj=>j<=i.v.length,λj=>i.v.length-j,Z9,λj hj=>zH (λgv=> ?_) (λgv=> ?_)⟩⟩⟩⟩
 ·dsimp only at hj;rw[im]at gv ⊢;obtain⟨x,hx⟩:=getD (l:=i.v) (i:=j) oM;have hm:=hr.1 x (lq hx);have l1:=hm.1.len;have l2:=hm.2.len;have hl:=hr.2;have w1:ar.wrap ((j:Int)+1)=((j+1:Nat):Int):=by rw[iA (by omega)];rfl
  have Vq:=hB j;have PT:le i.seq 8++[jj i.v.length]++(i.v.take (j+1)).flatMap vA=le i.seq 8++[jj i.v.length]++(i.v.take j).flatMap vA++vA x:=by
   rw[pY hx];simp only[jh]
  generalize hb:le i.seq 8++[jj i.v.length]++(i.v.take j).flatMap vA=B at Vq PT;have lv:∀(C:List UInt8) (l:List Lv) (k:Nat),C.length<=5000000->l.length<=255->((C++(l.take k).flatMap kU).length+24<=1099511627776):=λC l k hC hl=>by
   have:=eV (l.take k);rw[iv];rw[om]at this;omega
  have lw:∀(k:Nat),k<255->ar.wrap ((k:Int)+1)=((k+1:Nat):Int):=λk hk=>by rw[iA (by omega)];rfl
  have le1:=eV x.1.levels;have le2:=eV x.2.levels;refine⟨⟨oM,oM⟩,_,_,_,_,_,_,_,_,_,_,MP hx rfl,⟨B,x.1.levels.length⟩,by rw[im],rfl,by show B.length+8<=_;omega,λ_ _=>⟨(B++[jj x.1.levels.length],x.1.levels,0),rfl,by simp,λy=>∃k,k<=x.1.levels.length/\y=(B++[jj x.1.levels.length],x.1.levels,k),λy=>x.1.levels.length-y.2.2,⟨0,oM,gu⟩,?_⟩⟩;rintro _ ⟨k,hk,rfl⟩;dsimp only;refine zH (λLw=> ?_) (λLw=> ?_)
  ·rw[im]at Lw ⊢;obtain⟨y,hy⟩:=getD (l:=x.1.levels) (i:=k) oM;refine⟨⟨oM,oM⟩,_,_,_,MP hy rfl,⟨_,y⟩,rfl,rfl,rfl,rfl,lv _ _ _ (by rw[iv];simp;omega) l1,λ_ _=>⟨(_,_,k+1),(lw k oM).symm,?_,⟨k+1,oM,gu⟩,Z9,gu⟩⟩;dsimp only;rw[pY hy];simp only[jh]
  ·rw[im]at Lw;obtain rfl:k=x.1.levels.length:=by omega
   rw[oh (lk _)];have e1:Ho x.1=[jj x.1.levels.length]++x.1.levels.flatMap kU++(if x.1.has then[jj 1]++kU x.1.imp else[jj 0]):=rfl;have e2:Ho x.2=[jj x.2.levels.length]++x.2.levels.flatMap kU++(if x.2.has then[jj 1]++kU x.2.imp else[jj 0]):=rfl;have bl:∀C:List UInt8,C=B++Ho x.1->C.length<=4000000:=λC e=>by
    subst e;have:=Xx l1;rw[iv];omega
   refine Cv.dq.mk (λhh=> ?_) (λhh=> ?_)
   ·have hh:x.1.has=ax:=by simpa using hh
    rw[hh,fb (by simp)]at e1;refine⟨⟨B++[jj x.1.levels.length]++x.1.levels.flatMap kU,0⟩,rfl,rfl,(by dsimp only[WN.ok];simp only[iv,iJ,ua];omega),λ_ _=> ?_⟩;have eC:B++[jj x.1.levels.length]++x.1.levels.flatMap kU++[jj 0]=B++Ho x.1:=by rw[e1];simp only[jh]
    generalize B++[jj x.1.levels.length]++x.1.levels.flatMap kU++[jj 0]=C at eC
    (
    have hC:=bl C eC;refine⟨⟨C,x.2.levels.length⟩,by rw[im],rfl,(show C.length+8<=1099511627776 by omega),λ_ _=>⟨(C++[jj x.2.levels.length],x.2.levels,0),rfl,by simp,λy=>∃k,k<=x.2.levels.length/\y=(C++[jj x.2.levels.length],x.2.levels,k),λy=>x.2.levels.length-y.2.2,⟨0,oM,gu⟩,?_⟩⟩;rintro _ ⟨k,hk,rfl⟩;dsimp only;refine zH (λxu=> ?_) (λxu=> ?_)
    ·rw[im]at xu ⊢;obtain⟨y,hy⟩:=getD (l:=x.2.levels) (i:=k) oM;refine⟨⟨oM,oM⟩,_,_,_,MP hy rfl,⟨_,y⟩,rfl,rfl,rfl,rfl,lv _ _ _ (by rw[iv];simp;omega) l2,λ_ _=>⟨(_,_,k+1),(lw k oM).symm,?_,⟨k+1,oM,gu⟩,Z9,gu⟩⟩;dsimp only;rw[pY hy];simp only[jh]
    ·rw[im]at xu;obtain rfl:k=x.2.levels.length:=by omega
     rw[oh (lk _)];refine Cv.dq.mk (λCc=> ?_) (λCc=> ?_)
     ·have Cc:x.2.has=ax:=by simpa using Cc
      rw[Cc,fb (by simp)]at e2;refine⟨⟨C++[jj x.2.levels.length]++x.2.levels.flatMap kU,0⟩,rfl,rfl,(by dsimp only[WN.ok];simp only[iv,iJ,ua];omega),λ_ _=>⟨j+1,w1.symm,?_,oM,oM,gu⟩⟩;rw[PT,vA,<- jh,<- eC,e2];simp only[jh]
     ·have Cc:x.2.has=ay:=by simpa using Cc
      rw[Cc,fh rfl]at e2;refine⟨⟨C++[jj x.2.levels.length]++x.2.levels.flatMap kU,1⟩,rfl,rfl,(by dsimp only[WN.ok];simp only[iv,iJ,ua];omega),λ_ _=>⟨⟨_,x.2.imp⟩,rfl,rfl,rfl,rfl,(by simp only[iv,iJ,ua];omega),λ_ _=>⟨j+1,w1.symm,?_,oM,oM,gu⟩⟩⟩;rw[PT,vA,<- jh,<- eC,e2];simp only[jh])
   ·have hh:x.1.has=ay:=by simpa using hh
    rw[hh,fh rfl]at e1;refine⟨⟨B++[jj x.1.levels.length]++x.1.levels.flatMap kU,1⟩,rfl,rfl,(by dsimp only[WN.ok];simp only[iv,iJ,ua];omega),λ_ _=>⟨⟨_,x.1.imp⟩,rfl,rfl,rfl,rfl,(by simp only[iv,iJ,ua];omega),λ_ _=> ?_⟩⟩;have eC:B++[jj x.1.levels.length]++x.1.levels.flatMap kU++[jj 1]++kU x.1.imp=B++Ho x.1:=by rw[e1];simp only[jh]
    generalize B++[jj x.1.levels.length]++x.1.levels.flatMap kU++[jj 1]++kU x.1.imp=C at eC
    (
    have hC:=bl C eC;refine⟨⟨C,x.2.levels.length⟩,by rw[im],rfl,(show C.length+8<=1099511627776 by omega),λ_ _=>⟨(C++[jj x.2.levels.length],x.2.levels,0),rfl,by simp,λy=>∃k,k<=x.2.levels.length/\y=(C++[jj x.2.levels.length],x.2.levels,k),λy=>x.2.levels.length-y.2.2,⟨0,oM,gu⟩,?_⟩⟩;rintro _ ⟨k,hk,rfl⟩;dsimp only;refine zH (λxu=> ?_) (λxu=> ?_)
    ·rw[im]at xu ⊢;obtain⟨y,hy⟩:=getD (l:=x.2.levels) (i:=k) oM;refine⟨⟨oM,oM⟩,_,_,_,MP hy rfl,⟨_,y⟩,rfl,rfl,rfl,rfl,lv _ _ _ (by rw[iv];simp;omega) l2,λ_ _=>⟨(_,_,k+1),(lw k oM).symm,?_,⟨k+1,oM,gu⟩,Z9,gu⟩⟩;dsimp only;rw[pY hy];simp only[jh]
    ·rw[im]at xu;obtain rfl:k=x.2.levels.length:=by omega
     rw[oh (lk _)];refine Cv.dq.mk (λCc=> ?_) (λCc=> ?_)
     ·have Cc:x.2.has=ax:=by simpa using Cc
      rw[Cc,fb (by simp)]at e2;refine⟨⟨C++[jj x.2.levels.length]++x.2.levels.flatMap kU,0⟩,rfl,rfl,(by dsimp only[WN.ok];simp only[iv,iJ,ua];omega),λ_ _=>⟨j+1,w1.symm,?_,oM,oM,gu⟩⟩;rw[PT,vA,<- jh,<- eC,e2];simp only[jh]
     ·have Cc:x.2.has=ay:=by simpa using Cc
      rw[Cc,fh rfl]at e2;refine⟨⟨C++[jj x.2.levels.length]++x.2.levels.flatMap kU,1⟩,rfl,rfl,(by dsimp only[WN.ok];simp only[iv,iJ,ua];omega),λ_ _=>⟨⟨_,x.2.imp⟩,rfl,rfl,rfl,rfl,(by simp only[iv,iJ,ua];omega),λ_ _=>⟨j+1,w1.symm,?_,oM,oM,gu⟩⟩⟩;rw[PT,vA,<- jh,<- eC,e2];simp only[jh])
 ·dsimp only at hj;rw[im]at gv;obtain rfl:j=i.v.length:=by omega
  have Vq:=hB i.v.length;rw[oh (lk _)]at Vq ⊢;have hc:=Zq (aG i.v i.seq);have hl:(aG i.v i.seq).length<=3134470:=Vq;have Nv:(aG i.v i.seq++le (aY (aG i.v i.seq)) 4).length<=1099511627776:=by rw[iv,xJ];omega
  exact⟨aG i.v i.seq,rfl,oM,λ_ _=>⟨aG i.v i.seq,rfl,oM,λ_ _=>⟨⟨aG i.v i.seq,_⟩,rfl,rfl,⟨Z9,hc.1,hc.2⟩,λ_ _=>⟨_,rfl,Nv,λ_ _=>⟨(),by rw[dZ,fh hr];rfl,by rw[NZ,fh hr],trivial⟩⟩⟩⟩⟩
def y0u:QK.ok Tryz.prog 83:=ib mixed (dx yGe (dx SR (dx S3 (dx SJ (dx yPj (dx SK (dx z4w (dx yGp fj)))))))) 0 (λ_=>[]) (λi=>y7f i) [] Tryz.func83 y7l
@[reducible] def AP:Nat:=43
def gh (l:List UInt8):List D:=[.ro 1 (bE l)]
def Bu:gi:=fp Nat (λn=>[.d (.v (.slice bc 0 0)),zA n]) (λ_=>[]) (λn=>1<=n/\n<=1099511627776) (λ_=> .own 0) (λ_=>[.own DD 1 []])
def xx:gi:=fp (List (List UInt8)) (λls=>[oD 1 (ls.map gh)]) (λ_=>[]) (λls=>1<=ls.flatten.length/\ls.flatten.length<=1099511627776/\ls.length<=1000) (λ_=> .own 0) (λls=>[.own DD 1 (bE ls.flatten)])
def yVg (ls:List (List UInt8)):List gp:=[
 {ι:=Nat,dv:=λk=>[(3,zA (ls.take k).flatten.length),(11,zA k)],rows:=λ_=>[]},
 {ι:=Nat,dv:=λk=>[(6,.own 0),(27,zA k)],rows:=λk=>[.own DD 1 (bE (ls.take k).flatten)]}]
structure Dk where
 b:List UInt8
 safe:Nat
def Lk (d:Dk):Nat->fi
 |0=> .cells [.own 1,zA d.safe] 161
 |1=> .own DD 1 (bE d.b)
 |_=> .gone
def ix (d:Dk):fi:= .qw Dk 2 Lk d
@[reducible] def Dk.ok (d:Dk):Prop:=d.safe<=d.b.length/\d.b.length<=1048576
structure HY where
 d:Dk
 l:List UInt8
def J9:gi:=fp Unit (λ_=>[]) (λ_=>[]) (λ_=>True) (λ_=> .nm 0 0) (λ_=>[ix ⟨[],0⟩])
def Sa:gi:=fp HY (λi=>[.nm 0 0,oD 1 (bE i.l)]) (λi=>[ix i.d]) (λi=>i.d.b.length+i.l.length<=1048576) (λ_=>zA 0) (λi=>[ix ⟨i.d.b++i.l,i.d.safe⟩])
def RY:gi:=fp Dk (λ_=>[.nm 0 0]) (λd=>[ix d]) (λd=>d.ok) (λ_=>bN) (λd=>[ix ⟨d.b,d.b.length⟩])
def R9:gi:=fp Dk (λ_=>[.nm 0 0]) (λd=>[ix d]) (λd=>d.ok) (λ_=> .own 1) (λd=>[ix d,.own DD 1 (bE d.b)])
def sv:gi:=fp (List (List D)) (λl=>[oD 1 l]) (λ_=>[]) (λl=>l.length<=140737488355328) (λ_=> .own 0) (λl=>[.own DD 1 l])
def RZ:gi:=fp HY (λi=>[.nm 0 0,oD 1 (bE i.l)]) (λi=>[ix i.d]) (λi=>i.l.length<=1048576) (λ_=>zA 0) (λi=>[ix ⟨i.l,i.l.length⟩])
def x7 (l:List UInt8):List UInt8:=jj l.length::UInt8.ofNat (255-l.length)::(l++le (aY l) 4)
def FT:gi:=fp (List UInt8) (λl=>[oD 1 (bE l)]) (λ_=>[]) (λl=>l.length<=255) (λ_=> .ja [.own 0,zA 0]) (λl=>[.own DD 1 (bE (x7 l))])
def yXw:List (Nat×gp):=[(20,{ι:=Unit,dv:=λ_=>[],rows:=λ_=>[],CN:=[4]})]
def BF (l:List UInt8):List UInt8×Nat×Int:=
 if l.length<2 then([],0,10)else if(l.getD 1 0).toNat≠255-(l.getD 0 0).toNat then([],0,14)else
 if l.length<6+(l.getD 0 0).toNat then([],0,10)else
 if qG ((l.drop (2+(l.getD 0 0).toNat)).take 4)≠aY ((l.drop 2).take (l.getD 0 0).toNat)then([],0,14)else
 ((l.drop 2).take (l.getD 0 0).toNat,6+(l.getD 0 0).toNat,0)
structure C1 where
 b:List UInt8
 k:Nat
def C1.x (i:C1):List UInt8×Nat×Int:=BF (i.b.drop i.k)
def IV:V:= .d (.v (.slice bc 0 0))
def P5:gi where
 ι:=C1
 pat:=λi=>[oD 1 (bE i.b),zA i.k]
 pre:=λ_=>[]
 dq:=λi=>i.k<=i.b.length/\i.b.length<=1099511627776
 alts:=λi=>[{o:=Unit,res:=λ_=> .ja [.own 0,zA (i.k+i.x.2.1),zA 0],post:=λ_=>[.own DD 1 (bE i.x.1)],rel:=λ_=>i.x.2.2=0},
  {o:=Unit,res:=λ_=> .ja [IV,zA 0,zA i.x.2.2],post:=λ_=>[],rel:=λ_=>i.x.2.2≠0}]
def ni (L:List (List UInt8)):List UInt8:=L.flatMap x7
structure DL where
 L:List (List UInt8)
 t:List UInt8
@[reducible] def DL.ok (i:DL):Prop:=(∀l∈i.L,l.length<=255)/\(BF i.t).2.2=10/\(ni i.L).length+i.t.length<=1048576
@[reducible] def yu (L:List (List UInt8)):fi:= .own AP 1 (L.map gh)
def JH:gi:=fp DL (λi=>[oD 1 (bE (ni i.L++i.t))]) (λ_=>[]) (λi=>i.ok) (λi=> .ja [.own 0,zA (ni i.L).length,zA 0]) (λi=>[yu i.L])
def y5j (i:DL):List gp:=[{ι:=Nat,dv:=λk=>[(5,.own 0),(6,zA (ni (i.L.take k)).length)],rows:=λk=>[yu (i.L.take k)]}]
def Ee (d:Nat) (n:Int):fi:= .cells [.nm d 0,zA n] 201
structure BX where
 s:Nat
 L:List (List UInt8)
 t:List UInt8
def BX.d (i:BX):Dk:=⟨ni i.L++i.t,i.s⟩
def BX.d' (i:BX):Dk:=if i.t=[]then i.d else⟨ni i.L,(ni i.L).length⟩
def aay:gi:=fp BX (λ_=>[.nm 0 0]) (λi=>[ix i.d]) (λi=>(DL.mk i.L i.t).ok/\i.d.ok) (λ_=> .ja [.nm 1 0,.own 2,zA 0]) (λi=>[ix i.d',Ee 0 i.L.length,yu i.L])
structure JA where
 d:Dk
 n:Int
 l:List UInt8
def Rx:gi:=fp JA (λi=>[.nm 0 0,oD 1 (bE i.l)]) (λi=>[Ee 1 i.n,ix i.d]) (λi=>i.l.length<=255/\i.d.b.length+i.l.length+6<=1048576/\0<=i.n/\i.n<=1048576) (λ_=>zA 0) (λi=>[Ee 1 (i.n+1),ix ⟨i.d.b++x7 i.l,i.d.safe⟩])
def Rw:gi:=fp JA (λi=>[.nm 0 0]) (λi=>[Ee 1 i.n,ix i.d]) (λi=>i.d.ok) (λ_=>bN) (λi=>[Ee 1 i.n,ix ⟨i.d.b,i.d.b.length⟩])
def aR (a:Nat) (b:List (List UInt8)):=(↑(ak a b).flatten.length:Int)
def Uc (ls:List (List UInt8)):Prop:=
 ∃(a:Nat),(aR a ls)=0/\(↑a:Int)=0/\∃(b:Nat->Prop),∃(c:Nat->Nat),b a/\∀(d:Nat),b d->dq (decide ((↑d:Int)<(↑(aj gh ls).length:Int))) ((0<=(↑d:Int)/\(↑d:Int)<(↑(aj gh ls).length:Int))/\∃(e:List (List D)),zD (aj gh ls) (↑d:Int).toNat 0 1=ba [D.ro 1 e]/\dq (decide (ar.wrap ((aR d ls)+(↑e.length:Int))<0)) False (∃(f:Nat),(aR f ls)=ar.wrap ((aR d ls)+(↑e.length:Int))/\kD f d b c)) (∃(e:Nat),True/\(↑e:Int)=(aR d ls)/\(1<=e/\e<=1099511627776)/\∀(f:Unit),True->∃(g:Nat),(↑g:Int)=0/\bE (ak g ls).flatten=[]/\∃(h:Nat->Prop),∃(j:Nat->Nat),h g/\∀(k:Nat),h k->dq (decide ((↑k:Int)<(↑(aj gh ls).length:Int))) ((0<=(↑k:Int)/\(↑k:Int)<(↑(aj gh ls).length:Int))/\∃(l:List (List D)),zD (aj gh ls) (↑k:Int).toNat 0 1=ba [D.ro 1 l]/\((bE (ak k ls).flatten).length+l.length)*(1:Nat)<=(140737488355328:Nat)/\∃(m:Nat),(↑m:Int)=ar.wrap ((↑k:Int)+1)/\bE (ak m ls).flatten=bE (ak k ls).flatten++l/\h m/\j m<j k/\True) (∃(l:Unit),bE ls.flatten=bE (ak k ls).flatten/\True))
def yVz (ls:List (List UInt8)):Uc ls=walk Tryz.prog ([(113,Bu)]) 0 ([]) (yVg ls) [] Tryz.f50 (Tryz.f50.body.getD .skip) (xx.pat ls) (xx.pre ls) (xx.alts ls):=by kernel_rfl
def y0i (hG:A9 Tryz.prog ([(113,Bu)])) (h:∀(ls:List (List UInt8)),xx.dq ls->Uc ls):xx.ok Tryz.prog 50:=vB mixed ([(113,Bu)]) hG 0 (λ(ls:List (List UInt8))=>[]) (λ(ls:List (List UInt8))=>yVg ls) [] Tryz.func50 (by kernel_rfl) (by kernel_rfl) (by kernel_rfl) (λ_=>by kernel_rfl) (λ(ls:List (List UInt8)) hc=>Eq.mp (yVz ls) (h ls hc))
def y4w (u:Unit):Prop:=
 ∃(o:Unit),(↑(0:Nat):Int)=0/\bE []=[]/\True
def yTy (i:HY):Prop:=
 dq (decide ((↑(bE i.l).length:Int)>ar.wrap (1048576-(↑(bE i.d.b).length:Int)))) (∃(a:Unit),(0:Int)=(13:Int)/\dj ((↑i.d.safe:Int))/\bE (i.d.b++i.l)=bE i.d.b/\True) (((bE i.d.b).length+(bE i.l).length)*(1:Nat)<=(140737488355328:Nat)/\∃(a:Unit),dj ((0:Int))/\dj ((↑i.d.safe:Int))/\bE (i.d.b++i.l)=bE i.d.b++bE i.l/\True)
def y6n (d:Dk):Prop:=
 ∃(o:Unit),(↑d.b.length:Int)=(↑(bE d.b).length:Int)/\dj (bE d.b)/\True
def y3g (d:Dk):Prop:=
 ∃(i:List (List D)),i=bE d.b/\i.length*(1:Nat)<=(140737488355328:Nat)/\∀(o:Unit),True->∃(o:Unit),dj ((↑d.safe:Int))/\bE d.b=i/\bE d.b=i/\True
def z0y (i:List (List D)):Prop:=
 ∀(b:Bool),(b=ay->i=[])->dq b (∃(o:Unit),i=[]/\True) ((0+i.length)*(1:Nat)<=(140737488355328:Nat)/\∃(o:Unit),i=[]++i/\True)
def yEp (i:List (List D)):z0y i=walk Tryz.prog ([]) 0 ([]) ([]) [] Tryz.f70 (Tryz.f70.body.getD .skip) (sv.pat i) (sv.pre i) (sv.alts i):=by kernel_rfl
def yDi (hG:A9 Tryz.prog ([])) (h:∀(i:List (List D)),sv.dq i->z0y i):sv.ok Tryz.prog 70:=vB mixed ([]) hG 0 (λ(i:List (List D))=>[]) (λ(i:List (List D))=>[]) [] Tryz.func70 (by kernel_rfl) (by kernel_rfl) (by kernel_rfl) (λ_=>by kernel_rfl) (λ(i:List (List D)) hc=>Eq.mp (yEp i) (h i hc))
def yVt (i:HY):Prop:=
 dq (decide ((↑(bE i.l).length:Int)>1048576)) (∃(a:Unit),(0:Int)=(13:Int)/\(↑i.l.length:Int)=(↑i.d.safe:Int)/\bE i.l=bE i.d.b/\True) (∃(a:List (List D)),a=bE i.l/\a.length<=140737488355328/\∀(b:Unit),True->∃(c:Unit),dj ((0:Int))/\(↑i.l.length:Int)=(↑a.length:Int)/\bE i.l=a/\True)
def yJj (l:List UInt8):Prop:=
 dq (decide ((↑(bE l).length:Int)>255)) (∃(a:Unit),(0:Int)=(3:Int)/\bE (x7 l)=[]/\True) (∃(a:Unit),True/\∀(b:Unit),True->∃(c:WN),c.n=(↑(bE l).length:Int)/\aa (List UInt8) 2 je c.l=aa (List UInt8) 2 je []/\c.ok/\∀(d:Unit),True->∃(e:WN),e.n=ar.wrap (↑(cf ar.bits (if ar.signed=ay then(-1:Int)else ar.max) ^^^ cf ar.bits (↑(bE l).length:Int)).toNat:Int)/\aa (List UInt8) 2 je e.l=aa (List UInt8) 2 je (c.l++[jj c.n])/\e.ok/\∀(f:Unit),True->((bE (e.l++[jj e.n])).length+(bE l).length)*(1:Nat)<=(140737488355328:Nat)/\∃(g:List UInt8),bE g=bE l/\g.length<=1099511627776/\∀(h:Unit),True->∃(j:WN),j.n=aY g/\bE j.l=bE (e.l++[jj e.n])++bE l/\(j.l.length+(8:Nat)<=(1099511627776:Nat)/\0<=j.n/\j.n<4294967296)/\∀(k:Unit),True->∃(m:List UInt8),aa (List UInt8) 2 je m=aa (List UInt8) 2 je (j.l++le j.n 4)/\m.length<=1099511627776/\∀(n:Unit),True->∃(p:Unit),dj ((0:Int))/\bE (x7 l)=bE m/\True)
def mD (a:C1):=(ap (↑a.k:Int).toNat (bE a.b))
def bJ (a:C1):=(↑(mD a).length:Int)
def fX (a:Int):=(2+ar.wrap a)
def WW (a:Int) (b:C1):Prop:=(0:Int)<=(2:Int)/\2<=ar.wrap (fX a)/\ar.wrap (fX a)<=(bJ b)
def Tb (a:Int) (b:C1):=(ak (ar.wrap (fX a)).toNat (mD b))
def lL (a:Int):=(ar.wrap (fX a)+4)
def y2t (i:C1):Prop:=
 dq (decide ((↑i.k:Int)>(↑(bE i.b).length:Int))) ((∃(a:Unit),(↑i.k:Int)+(↑i.x.snd.fst:Int)=(0:Int)/\(0:Int)=1/\bE i.x.fst=[]/\i.x.snd.snd=0)\/(∃(a:Unit),True/\dj ((0:Int))/\i.x.snd.snd=1/\(i.x.snd.snd=0->False))) ((0<=(↑i.k:Int)/\(↑i.k:Int)<=(↑(bE i.b).length:Int))/\dq (decide ((bJ i)<2)) ((∃(a:Unit),(↑i.k:Int)+(↑i.x.snd.fst:Int)=(0:Int)/\(0:Int)=10/\bE i.x.fst=[]/\i.x.snd.snd=0)\/(∃(a:Unit),True/\dj ((0:Int))/\i.x.snd.snd=10/\(i.x.snd.snd=0->False))) (((0:Int)<=(1:Int)/\1<(bJ i))/\∃(a:Int),zD (mD i) (bo 1) 0 1=ba [D.v (.int .u8 a)]/\((0:Int)<=(0:Int)/\0<(bJ i))/\∃(b:Int),zD (mD i) (bo 0) 0 1=ba [D.v (.int .u8 b)]/\dq (a !=aw.wrap (↑(cf aw.bits (if aw.signed=ay then(-1:Int)else aw.max) ^^^ cf aw.bits b).toNat:Int)) ((∃(c:Unit),(↑i.k:Int)+(↑i.x.snd.fst:Int)=(0:Int)/\(0:Int)=14/\bE i.x.fst=[]/\i.x.snd.snd=0)\/(∃(c:Unit),True/\dj ((0:Int))/\i.x.snd.snd=14/\(i.x.snd.snd=0->False))) (((0:Int)<=(0:Int)/\0<(bJ i))/\∃(c:Int),zD (mD i) (bo 0) 0 1=ba [D.v (.int .u8 c)]/\dq (decide ((bJ i)<ar.wrap (lL c))) ((∃(d:Unit),(↑i.k:Int)+(↑i.x.snd.fst:Int)=(0:Int)/\(0:Int)=10/\bE i.x.fst=[]/\i.x.snd.snd=0)\/(∃(d:Unit),True/\dj ((0:Int))/\i.x.snd.snd=10/\(i.x.snd.snd=0->False))) ((0<=ar.wrap (fX c)/\ar.wrap (fX c)<=ar.wrap (lL c)/\ar.wrap (lL c)<=(bJ i))/\∃(d:List UInt8),bE d=ap (ar.wrap (fX c)).toNat (ak (ar.wrap (lL c)).toNat (mD i))/\d.length<=1099511627776/\∀(e:Unit),True->(WW c i)/\∃(f:RN),(↑f.n:Int)=4/\aa (List UInt8×Bool) 1 ob (f.l,f.b)=aa (List UInt8×Bool) 1 ob (d,ax)/\(f.n<=8/\f.l.length<=1099511627776)/\∀(g:Unit),True->∃(h:List UInt8),bE h=ap (bo 2) (Tb c i)/\h.length<=1099511627776/\∀(j:Unit),True->dq (av.wrap (qG f.lh) !=aY h) ((∃(k:Unit),(↑i.k:Int)+(↑i.x.snd.fst:Int)=(0:Int)/\(0:Int)=14/\bE i.x.fst=[]/\i.x.snd.snd=0)\/(∃(k:Unit),True/\dj ((0:Int))/\i.x.snd.snd=14/\(i.x.snd.snd=0->False))) ((WW c i)/\(0+(ap (bo 2) (Tb c i)).length)*(1:Nat)<=(140737488355328:Nat)/\((∃(k:Unit),(↑i.k:Int)+(↑i.x.snd.fst:Int)=ar.wrap (ar.wrap ((↑i.k:Int)+ar.wrap (fX c))+4)/\dj ((0:Int))/\bE i.x.fst=[]++ap (bo 2) (Tb c i)/\i.x.snd.snd=0)\/(∃(k:Unit),False)))))))
def fS (a:Nat) (b:DL):=(↑(ni (ak a b.L)).length:Int)
def X9 (a:DL) (b:Nat):Prop:=∃(c:Unit),(↑(ni a.L).length:Int)=(fS b a)/\dj ((0:Int))/\aj gh a.L=aj gh (ak b a.L)/\True
def yUm (i:DL):Prop:=
 ∃(a:Nat),(fS a i)=0/\aj gh (ak a i.L)=[]/\∃(b:Nat->Prop),∃(c:Nat->Nat),b a/\∀(d:Nat),b d->dq (decide ((fS d i)<(↑(bE (ni i.L++i.t)).length:Int))) (∃(e:C1),bE e.b=bE (ni i.L++i.t)/\(↑e.k:Int)=(fS d i)/\(e.k<=e.b.length/\e.b.length<=1099511627776)/\(∀(f:Unit),e.x.snd.snd=0->((aj gh (ak d i.L)).length+1)*(24:Nat)<=(140737488355328:Nat)/\∃(g:Nat),(fS g i)=(↑e.k:Int)+(↑e.x.snd.fst:Int)/\aj gh (ak g i.L)=aj gh (ak d i.L)++[[D.ro 1 (bE e.x.fst)]]/\b g/\c g<c d/\True)/\∀(f:Unit),e.x.snd.snd≠0->dq (e.x.snd.snd==0) (((aj gh (ak d i.L)).length+1)*(24:Nat)<=(140737488355328:Nat)/\∃(g:Nat),(fS g i)=0/\aj gh (ak g i.L)=aj gh (ak d i.L)++[[D.ro 1 []]]/\b g/\c g<c d/\True) (dq (e.x.snd.snd==10) (X9 i d) (∃(g:Unit),(↑(ni i.L).length:Int)=(fS d i)/\(0:Int)=(14:Int)/\aj gh i.L=aj gh (ak d i.L)/\True))) (X9 i d)
def y2r (i:BX):Prop:=
 ∃(a:Dk),ix a=ix i.d/\(a.safe<=a.b.length/\a.b.length<=1048576)/\∀(b:Unit),True->∃(c:DL),bE (ni c.L++c.t)=bE a.b/\((∀(d:List UInt8),d∈c.L->d.length<=255)/\(BF c.t).snd.snd=10/\(ni c.L).length+c.t.length<=1048576)/\∀(d:Unit),True->dq (decide ((↑(ni c.L).length:Int)<(↑(bE a.b).length:Int))) ((0<=(↑(ni c.L).length:Int)/\(↑(ni c.L).length:Int)<=(↑(bE a.b).length:Int))/\∃(e:HY),bE e.l=ak (↑(ni c.L).length:Int).toNat (bE a.b)/\ix e.d=ix a/\e.l.length<=1048576/\∀(f:Unit),True->∃(g:Unit),dj ((0:Int))/\ix i.d'=ix (Dk.mk e.l e.l.length)/\(↑i.L.length:Int)=(↑(aj gh c.L).length:Int)/\aj gh i.L=aj gh c.L/\True) (∃(e:Unit),dj ((0:Int))/\ix i.d'=ix a/\(↑i.L.length:Int)=(↑(aj gh c.L).length:Int)/\aj gh i.L=aj gh c.L/\True)
def y3z (i:JA):Prop:=
 ∃(iw:List UInt8),bE iw=bE i.l/\iw.length<=255/\∀(o:Unit),True->∃(ng:HY),bE ng.l=bE (x7 iw)/\aa Dk 2 Lk ng.d=ix i.d/\ng.d.b.length+ng.l.length<=1048576/\∀(o:Unit),True->∃(o:Unit),dj ((0:Int))/\i.n+1=ar.wrap (i.n+1)/\aa Dk 2 Lk (Dk.mk (i.d.b++x7 i.l) i.d.safe)=aa Dk 2 Lk (Dk.mk (ng.d.b++ng.l) ng.d.safe)/\True
def y2d (i:JA):Prop:=
 ∃(iw:Dk),aa Dk 2 Lk iw=ix i.d/\(iw.safe<=iw.b.length/\iw.b.length<=1048576)/\∀(o:Unit),True->∃(o:Unit),i.n=i.n/\aa Dk 2 Lk (Dk.mk i.d.b i.d.b.length)=aa Dk 2 Lk (Dk.mk iw.b iw.b.length)/\True
def sb (l:List UInt8):ByteArray:=⟨l.toArray⟩
@[reducible] def sV (l:List UInt8):V:= .d (.v (.string (sb l)))
def Ez (l:List UInt8):Nat×Nat:=bg (sb l) 0
def Mu:Nat->Nat->List UInt8->List (Nat×Nat)
 |0,_,_=>[]
 |k+1,p,l=>match l with
  |[]=>[]
  |_=>(p,(Ez l).1)::Mu k (p+(Ez l).2) (l.drop (Ez l).2)
def gE (s:List UInt8) (p:Nat):List (Nat×Nat):=Mu (s.length-p) p (s.drop p)
def jF (s:List UInt8):List Nat:=(gE s 0).map (·.2)
def F2:gi:=fp (List UInt8) (λs=>[sV s]) (λ_=>[]) (λs=>s.length<=1099511627776) (λs=>zA (jF s).length) (λ_=>[])
def yXs (s:List UInt8):List gp:=[{ι:=Nat×Nat,dv:=λx=>[(3,zA x.2),(5,.nm 0 0)],rows:=λx=>[.iter (sb s) x.1]}]
def gK (r:Nat):Bool:=(decide (65<=r) && decide (r<=90))||(decide (913<=r) && decide (r<=937) && decide (r≠930))
def wH (s:List UInt8):Bool:=(jF s).all gK && decide (s≠[]) && decide ((jF s).length<=4)
def P9:gi:=fp (List UInt8) (λs=>[sV s]) (λ_=>[]) (λs=>s.length<=1099511627776) (λs=>yN (wH s)) (λ_=>[])
def y8z (s:List UInt8):List gp:=[{ι:=Nat,dv:=λx=>[(7,.nm 0 0)],rows:=λx=>[.iter (sb s) x]}]
def iE (l:List Int):List (List D):=l.map λn=>[.v (.int .i64 n)]
@[reducible] def iV (l:List Int):V:=oD 1 (iE l)
structure ff where
 code:List UInt8
 dm:List Int
 tick:Int
 low:Int
 high:Int
 wide:Int
 dt:Int
 top:Int
 least:Int
 part:Int
 settle:List Int
 deriving DecidableEq
@[reducible] def ff.cells (p:ff):List V:=[sV p.code,iV p.dm,zA p.tick,zA p.low,zA p.high,zA p.wide,zA p.dt,zA p.top,zA p.least,zA p.part,iV p.settle]
@[reducible] def oe (p:ff):V:= .agg p.cells
@[reducible] def ff.small (p:ff):Prop:=p.code.length<=1099511627776/\p.dm.length<=1099511627776/\p.settle.length<=1099511627776
def qX (l:List Int) (k:Nat):Bool:=decide (0<=l.getD k 0) && decide (l.getD k 0<=1199) && (decide (k=0)||decide (l.getD (k-1) 0<l.getD k 0))
def xH (l:List Int):Bool:=(ao l.length).all (qX l) && decide (2<=l.length) && decide (l.length<=6)
def Dp:gi:=fp (List Int) (λl=>[iV l]) (λ_=>[]) (λl=>l.length<=1099511627776) (λl=>yN (xH l)) (λ_=>[])
def yPs:List gp:=[{ι:=Nat,dv:=λj=>[(7,zA j)],rows:=λ_=>[]}]
def sL (l:List Int):Int:=l.tail.foldl min (l.headD 0)
def lA (l:List Int):Int:=l.tail.foldl max (l.headD 0)
def Qo:gi:=fp (List Int) (λl=>[iV l]) (λ_=>[]) (λl=>0<l.length/\l.length<=1099511627776) (λl=>zA (sL l)) (λ_=>[])
def Qp:gi:=fp (List Int) (λl=>[iV l]) (λ_=>[]) (λl=>0<l.length/\l.length<=1099511627776) (λl=>zA (lA l)) (λ_=>[])
def y8w (l:List Int):List gp:=[{ι:=Nat,dv:=λj=>[(3,zA (sL (l.take j))),(4,zA j)],rows:=λ_=>[]}]
def y8h (l:List Int):List gp:=[{ι:=Nat,dv:=λj=>[(3,zA (lA (l.take j))),(4,zA j)],rows:=λ_=>[]}]
def cO (a:Nat×Nat) (b:List UInt8) (c:Nat×Nat->Prop) (d:Nat×Nat->Nat):Prop:=∃(e:Nat×Nat),(↑e.snd:Int)=ar.wrap ((↑a.snd:Int)+1)/\sb b=sb b/\e.fst=a.fst+(bg (sb b) a.fst).snd/\c e/\d e<d a/\True
def yMl (s:List UInt8):Prop:=
 ∃(a:Nat×Nat),(↑a.snd:Int)=0/\sb s=sb s/\a.fst=0/\∃(b:Nat×Nat->Prop),∃(c:Nat×Nat->Nat),b a/\∀(d:Nat×Nat),b d->dq (d.fst.blt (sb s).size) (cO d s b c) (∃(e:Unit),(↑(jF s).length:Int)=(↑d.snd:Int)/\True)
def Ts (a:List UInt8) (b:Nat) (c:Nat->Prop) (d:Nat->Nat):Prop:=∃(e:Nat),sb a=sb a/\e=b+(bg (sb a) b).snd/\c e/\d e<d b/\True
def dG (a:List UInt8) (b:Nat):=(↑(bg (sb a) b).fst:Int)
def y2y (s:List UInt8):Prop:=
 ∃(a:Nat),sb s=sb s/\a=0/\∃(b:Nat->Prop),∃(c:Nat->Nat),b a/\∀(d:Nat),b d->dq (d.blt (sb s).size) (dq (decide ((dG s d)>=65)) (dq (decide ((dG s d)<=90)) (Ts s d b c) (dq (decide ((dG s d)>=913)) (dq (decide ((dG s d)<=937)) (dq (!(dG s d) !=930) (∃(e:Unit),wH s=ax/\True) (Ts s d b c)) (∃(e:Unit),wH s=ax/\True)) (∃(e:Unit),wH s=ax/\True))) (dq (decide ((dG s d)>=913)) (dq (decide ((dG s d)<=937)) (dq (!(dG s d) !=930) (∃(e:Unit),wH s=ax/\True) (Ts s d b c)) (∃(e:Unit),wH s=ax/\True)) (∃(e:Unit),wH s=ax/\True))) (dq (!(sb s).toList==(ByteArray.mk #[]).toList) (∃(e:List UInt8),sb e=sb s/\e.length<=1099511627776/\∀(f:Unit),True->∃(g:Unit),wH s=decide ((↑(jF e).length:Int)<=4)/\True) (∃(e:Unit),wH s=ax/\True))
def uK (a:Nat) (b:Nat->Prop) (c:Nat->Nat):Prop:=∃(d:Nat),kD d a b c
def yBy (l:List Int):Prop:=
 ∃(a:Nat),(↑a:Int)=0/\∃(b:Nat->Prop),∃(c:Nat->Nat),b a/\∀(d:Nat),b d->dq (decide ((↑d:Int)<(↑(iE l).length:Int))) ((0<=(↑d:Int)/\(↑d:Int)<(↑(iE l).length:Int))/\∃(e:Int),zD (iE l) (↑d:Int).toNat 0 1=ba [dI e]/\dq (decide (e<0)) (∃(f:Unit),xH l=ax/\True) (dq (decide (e>1199)) (∃(f:Unit),xH l=ax/\True) (dq (decide ((↑d:Int)>0)) ((0<=ar.wrap ((↑d:Int)-1)/\ar.wrap ((↑d:Int)-1)<(↑(iE l).length:Int))/\∃(f:Int),zD (iE l) (ar.wrap ((↑d:Int)-1)).toNat 0 1=ba [dI f]/\dq (decide (f>=e)) (∃(g:Unit),xH l=ax/\True) (uK d b c)) (uK d b c)))) (dq (decide ((↑(iE l).length:Int)>=2)) (∃(e:Unit),xH l=decide ((↑(iE l).length:Int)<=6)/\True) (∃(e:Unit),xH l=ax/\True))
def y4v (l:List Int):Prop:=
 dq (decide ((↑(iE l).length:Int)<1)) False (((0:Int)<=(0:Int)/\0<(↑(iE l).length:Int))/\∃(a:Int),zD (iE l) (bo 0) 0 1=ba [dI a]/\∃(b:Nat),sL (ak b l)=a/\(↑b:Int)=1/\∃(c:Nat->Prop),∃(d:Nat->Nat),c b/\∀(e:Nat),c e->dq (decide ((↑e:Int)<(↑(iE l).length:Int))) ((0<=(↑e:Int)/\(↑e:Int)<(↑(iE l).length:Int))/\∃(f:Int),zD (iE l) (↑e:Int).toNat 0 1=ba [dI f]/\∃(g:Nat),sL (ak g l)=min (sL (ak e l)) f/\kD g e c d) (∃(f:Unit),sL l=sL (ak e l)/\True))
def y3p (l:List Int):Prop:=
 dq (decide ((↑(iE l).length:Int)<1)) False (((0:Int)<=(0:Int)/\0<(↑(iE l).length:Int))/\∃(a:Int),zD (iE l) (bo 0) 0 1=ba [dI a]/\∃(b:Nat),lA (ak b l)=a/\(↑b:Int)=1/\∃(c:Nat->Prop),∃(d:Nat->Nat),c b/\∀(e:Nat),c e->dq (decide ((↑e:Int)<(↑(iE l).length:Int))) ((0<=(↑e:Int)/\(↑e:Int)<(↑(iE l).length:Int))/\∃(f:Int),zD (iE l) (↑e:Int).toNat 0 1=ba [dI f]/\∃(g:Nat),(lA (ak g l)=if f>lA (ak e l)then f else lA (ak e l))/\kD g e c d) (∃(f:Unit),lA l=lA (ak e l)/\True))
@[simp] theorem SU (s:List UInt8):(sb s).size=s.length:=by simp[sb,ByteArray.size]
def rM (s:List UInt8):(sb s).toList=s:=by rw[ByteArray.toList_eq];rfl
def yZb (s:List UInt8) (p k:Nat):(sb s).get! (p+k)=(sb (s.drop p)).get! (0+k):=by
 simp only[sb,ByteArray.get!,oa];simp only[List.getElem!_toArray,List.getElem!_eq_getElem?_getD,AZ]
def zMb (s:List UInt8) (p:Nat):bg (sb s) p=Ez (s.drop p):=by
 have h (k:Nat):(decide (p+k<(sb s).size))=decide (0+k<(sb (s.drop p)).size):=by
  simp only[SU,pd];by_cases h:p+k<s.length
  ·rw[lg h,lg (by omega)]
  ·rw[ku h,ku (by omega)]
 unfold Ez bg;simp only[yZb s p,h]
def bI (s:List UInt8) {p:Nat} (h:p<s.length):1<=(bg (sb s) p).2/\p+(bg (sb s) p).2<=s.length:=by
 unfold bg;simp only[SU,lr,ud];split
 ·exact⟨by simp,by simp;omega⟩
 split
 ·rename_i h1;split
  ·exact⟨by simp,by simp;omega⟩
  ·exact⟨by simp,by simp;omega⟩
 split
 ·rename_i h1;split
  ·exact⟨by simp,by simp;omega⟩
  ·exact⟨by simp,by simp;omega⟩
 split
 ·rename_i h1;split
  ·exact⟨by simp,by simp;omega⟩
  ·exact⟨by simp,by simp;omega⟩
 ·exact⟨by simp,by simp;omega⟩
def yWv {l:List UInt8} (h:l≠[]):1<=(Ez l).2/\(Ez l).2<=l.length:=by
 have:=bI l (p:=0) (by cases l<;>simp_all);rw[Ez];omega
def eU:∀(k:Nat) (p:Nat) (l:List UInt8),l.length<=k->Mu k p l=Mu l.length p l
 |0,p,l,h=>by
  have:l=[]:=yh oM;subst this;rfl
 |k+1,p,[],h=>rfl
 |k+1,p,b::l,h=>by
  have hw:=yWv (l:=b::l) (by simp);have hl:((b::l).drop (Ez (b::l)).2).length<=l.length:=by rw[pd,iJ];omega
  rw[iJ];simp only[Mu];rw[eU k _ _ (by rw[iJ]at h;omega),eU l.length _ _ hl]
def uN {s:List UInt8} {p:Nat} (h:s.length<=p):gE s p=[]:=by
 rw[gE,show s.length-p=0 by omega];rfl
def jY {s:List UInt8} {p:Nat} (h:p<s.length):gE s p=(p,(bg (sb s) p).1)::gE s (p+(bg (sb s) p).2):=by
 obtain⟨k,hk⟩:∃k,s.length-p=k+1:=⟨s.length-p-1,oM⟩
 have hw:=bI s h;obtain⟨b,l,hb⟩:∃b l,s.drop p=b::l:=by
  cases hd:s.drop p with
  |nil=>rw[List.drop_eq_nil_iff]at hd;omega
  |cons b l=>exact⟨b,l,rfl⟩
 have hlen:(b::l).length=s.length-p:=by rw[<- hb,pd]
 rw[gE,hk,hb,zMb,hb,gE];rw[zMb,hb]at hw;simp only[Mu];have e:(b::l).drop (Ez (b::l)).2=s.drop (p+(Ez (b::l)).2):=by rw[<- hb,CJ]
 rw[e,eU k _ _ (by rw[pd];omega),pd]
def zSg (s:List UInt8):∀(k p:Nat),s.length-p<=k->(gE s p).length<=s.length-p
 |0,p,h=>by rw[uN (by omega)];simp
 |k+1,p,h=>by
  by_cases hp:p<s.length
  ·have hw:=bI s hp;rw[jY hp,iJ];have:=zSg s k (p+(bg (sb s) p).2) oM;omega
  ·rw[uN (by omega)];simp
def Yc (s:List UInt8):(jF s).length<=s.length:=by
 rw[jF,im];have:=zSg s s.length 0 oM;omega
def Ug {a b:Nat} (h:Nat.blt a b=ax):b<=a:=by
 rcases ur a b with h1|h1
 ·rw[show Nat.blt a b=ay by rw[yf];exact h1]at h;cases h
 ·exact h1
def yGs:(ByteArray.mk #[]).toList=[]:=rM []
def y0v (s:List UInt8) (h:F2.dq s):yMl s:=by
 have h:s.length<=1099511627776:=h;have hr:=Yc s;unfold yMl cO;refine⟨(0,0),rfl,rfl,rfl,λx=>x.1<=s.length/\x.2+(gE s x.1).length=(jF s).length,λx=>s.length-x.1,⟨oM,by rw[jF,im];simp⟩,?_⟩;rintro⟨p,n⟩ ⟨h1,h2⟩;dsimp only at h1 h2 ⊢;refine Cv.dq.mk (λhp=> ?_) (λhp=> ?_)
 ·have hp:p<s.length:=by simpa[yf]using hp
  have hw:=bI s hp;rw[jY hp,iJ]at h2;refine⟨(p+(bg (sb s) p).2,n+1),?_,rfl,rfl,⟨hw.2,by(first|omega|(dsimp only;omega))⟩,by(first|omega|(dsimp only;omega)),trivial⟩;rw[iA (by omega)];rfl
 ·have hp:s.length<=p:=by have:=Ug hp;simpa using this
  rw[uN hp]at h2;exact⟨(),by rw[<- h2];rfl,trivial⟩
def yOd:F2.ok Tryz.prog 153:=ib mixed fj 0 (λ_=>[]) (λs=>yXs s) [] Tryz.func153 y0v
def y8i (s:List UInt8) (h:P9.dq s):y2y s:=by
 have h:s.length<=1099511627776:=h;unfold y2y dG Ts;refine⟨0,rfl,rfl,λp=>p<=s.length/\(jF s).all gK=(gE s p).all λx=>gK x.2,λp=>s.length-p,⟨oM,by rw[jF,List.all_map];rfl⟩,?_⟩;rintro p ⟨h1,h2⟩;refine Cv.dq.mk (λhp=> ?_) (λhp=> ?_)
 ·have hp:p<s.length:=by simpa[yf]using hp
  have hw:=bI s hp;rw[jY hp,List.all_cons]at h2;generalize hc:(bg (sb s) p).1=c at h2 ⊢;generalize hww:(bg (sb s) p).2=w at h2 hw ⊢;dsimp only at h2;have bad:gK c=ax->∃(o:Unit),wH s=ax/\True:=λe=>⟨(),by rw[wH,h2,e];rfl,trivial⟩
  have tw:gK c=ay->∃i':Nat,sb s=sb s/\i'=p+w/\(i'<=s.length/\(jF s).all gK=(gE s i').all λx=>gK x.2)/\s.length-i'<s.length-p/\True:=λe=>⟨p+w,rfl,rfl,⟨hw.2,by rw[h2,e];rfl⟩,oM,trivial⟩
  refine zH (λc1=>zH (λc2=> ?_) (λc2=>zH (λc3=>zH (λc4=>Cv.dq.mk (λc5=> ?_) (λc5=> ?_)) (λc4=> ?_)) (λc3=> ?_))) (λc1=>zH (λc3=>zH (λc4=>Cv.dq.mk (λc5=> ?_) (λc5=> ?_)) (λc4=> ?_)) (λc3=> ?_))
  all_goals first|(refine tw ?_;simp[gK]at*;omega)|(refine bad ?_;simp[gK]at*;omega)
 ·have hp:s.length<=p:=by have:=Ug hp;simpa using this
  rw[uN hp]at h2;have h2:(jF s).all gK=ay:=h2;refine Cv.dq.mk (λe=>⟨s,rfl,h,λ_ _=>⟨(),?_,trivial⟩⟩) (λe=>⟨(),?_,trivial⟩)
  ·rw[rM,yGs]at e;have:s≠[]:=by simpa using e
   rw[wH,h2,lg this];simp only[Ae];congr 1;simp only[eq_iff_iff];omega
  ·have:s=[]:=by
    rw[rM,yGs]at e;simpa using e
   rw[wH,this];rfl
def y0x:P9.ok Tryz.prog 103:=ib mixed (dx yOd fj) 0 (λ_=>[]) (λs=>y8z s) [] Tryz.func103 y8i
@[simp] theorem y4 (l:List Int):(iE l).length=l.length:=by simp[iE]
def rk {l:List Int} {k:Nat} {n:Int} (h:l[k]? =ba n):zD (iE l) k 0 1=ba [D.v (.int .i64 n)]:=by
 simp[zD,iE,h];rfl
def z6 {α:Type} {l:List α} {i:Nat} (h:i<l.length):∃x,l[i]? =ba x:=⟨l[i],vd h⟩
def zVq {n k:Nat} {f:Nat->Bool} (hk:k<n) (h:f k=ax):(ao n).all f=ax:=by
 cases hh:(ao n).all f
 ·rfl
 ·rw[DB]at hh;rw[hh k (by simpa using hk)]at h;cases h
def z2x {n:Nat} {f:Nat->Bool} (h:∀k<n,f k=ay):(ao n).all f=ay:=by
 rw[DB];intro k hk;exact h k (by simpa using hk)
def yRt (l:List Int) (h:Dp.dq l):yBy l:=by
 have h:l.length<=1099511627776:=h;unfold yBy uK kD dI;simp only[y4];refine⟨0,rfl,λj=>j<=l.length/\∀k<j,qX l k=ay,λj=>l.length-j,⟨oM,λk hk=>by omega⟩,?_⟩;rintro j ⟨h1,h2⟩;have bad:j<l.length->qX l j=ax->∃(o:Unit),xH l=ax/\True:=λhj e=>⟨(),by rw[xH,zVq hj e];rfl,trivial⟩
 have tw:j<l.length->qX l j=ay->∃i':Nat,(i':Int)=ar.wrap ((j:Int)+1)/\(i'<=l.length/\∀k<i',qX l k=ay)/\l.length-i'<l.length-j/\True:=λhj e=>⟨j+1,by rw[iA (by omega)];rfl,⟨oM,λk hk=>by
  rcases ur k j with rh|rh
  ·exact h2 k rh
  ·obtain rfl:k=j:=by omega
   exact e⟩,oM,trivial⟩
 refine zH (λhj=> ?_) (λhj=> ?_)
 ·have hj:j<l.length:=by omega
  obtain⟨n,hn⟩:=z6 hj;have hg:l.getD j 0=n:=by simp[hn]
  refine⟨⟨oM,oM⟩,n,rk hn,zH (λc1=>bad hj (by simp[qX,hn];omega)) (λc1=>zH (λc2=>bad hj (by simp[qX,hn];omega)) (λc2=>zH (λc3=> ?_) (λc3=>tw hj ?_)))⟩
  ·have e:ar.wrap ((j:Int)-1)=((j-1:Nat):Int):=by rw[iA (by omega)];omega
   obtain⟨m,hm⟩:=z6 (l:=l) (i:=j-1) oM;rw[e];refine⟨⟨oM,oM⟩,m,rk hm,zH (λc4=>bad hj ?_) (λc4=>tw hj ?_)⟩
   ·simp[qX,hn,hm];omega
   ·simp[qX,hn,hm];omega
  ·simp[qX,hn];omega
 ·have e:(ao l.length).all (qX l)=ay:=z2x λk hk=>h2 k oM
  refine zH (λc=>⟨(),?_,trivial⟩) (λc=>⟨(),?_,trivial⟩)
  ·rw[xH,e,lg (show 2<=l.length by omega)];simp;omega
  ·rw[xH,ku (show ¬2<=l.length by omega)];simp
def yEf:Dp.ok Tryz.prog 104:=ib mixed fj 0 (λ_=>[]) (λ_=>yPs) [] Tryz.func104 yRt
def Yw {f:Int->Int->Int} {l:List Int} {j:Nat} {n:Int} (h:l[j+1]? =ba n):(l.take (j+2)).tail.foldl f ((l.take (j+2)).headD 0)=f ((l.take (j+1)).tail.foldl f ((l.take (j+1)).headD 0)) n:=by
 cases l with
 |nil=>simp at h
 |cons a l=>
  simp only[A1]at h;simp only[vo,List.tail_cons,List.headD_cons];rw[tb,h,I7];rfl
def z3s {l:List Int} {n:Int} (h:l[0]? =ba n) (f:Int->Int->Int):(l.take 1).tail.foldl f ((l.take 1).headD 0)=n:=by
 cases l with
 |nil=>simp at h
 |cons a l=>simpa using h
def y7i (l:List Int) (h:Qo.dq l):y4v l:=by
 obtain⟨h0,h⟩:0<l.length/\l.length<=1099511627776:=h;unfold y4v kD dI;simp only[y4];obtain⟨n,hn⟩:=z6 h0;refine zH (λc=>by omega) (λc=>⟨⟨oM,oM⟩,n,rk hn,1,z3s hn min,rfl,λj=>1<=j/\j<=l.length,λj=>l.length-j,⟨oM,oM⟩,?_⟩);rintro j ⟨h1,h2⟩;refine zH (λhj=> ?_) (λhj=>⟨(),?_,trivial⟩)
 ·obtain⟨m,hm⟩:=z6 (l:=l) (i:=j) oM;refine⟨⟨oM,oM⟩,m,rk hm,j+1,?_,?_,⟨oM,oM⟩,by(first|omega|(dsimp only;omega)),trivial⟩
  ·obtain⟨k,rfl⟩:∃k,j=k+1:=⟨j-1,oM⟩
   first
    |(rw[sL,Yw hm,<- sL];done)
    |(rw[sL,Yw hm,<- sL];generalize sL (l.take (k+1))=x;split<;>omega)
  ·rw[iA (by omega)];rfl
 ·rw[oh (by omega)]
def yYc:Qo.ok Tryz.prog 106:=ib mixed fj 0 (λ_=>[]) (λl=>y8w l) [] Tryz.func106 y7i
def y7j (l:List Int) (h:Qp.dq l):y3p l:=by
 obtain⟨h0,h⟩:0<l.length/\l.length<=1099511627776:=h;unfold y3p kD dI;simp only[y4];obtain⟨n,hn⟩:=z6 h0;refine zH (λc=>by omega) (λc=>⟨⟨oM,oM⟩,n,rk hn,1,z3s hn max,rfl,λj=>1<=j/\j<=l.length,λj=>l.length-j,⟨oM,oM⟩,?_⟩);rintro j ⟨h1,h2⟩;refine zH (λhj=> ?_) (λhj=>⟨(),?_,trivial⟩)
 ·obtain⟨m,hm⟩:=z6 (l:=l) (i:=j) oM;refine⟨⟨oM,oM⟩,m,rk hm,j+1,?_,?_,⟨oM,oM⟩,by(first|omega|(dsimp only;omega)),trivial⟩
  ·obtain⟨k,rfl⟩:∃k,j=k+1:=⟨j-1,oM⟩
   rw[lA,Yw hm,<- lA];generalize lA (l.take (k+1))=x;split<;>omega
  ·rw[iA (by omega)];rfl
 ·rw[oh (by omega)]
def yZh:Qp.ok Tryz.prog 107:=ib mixed fj 0 (λ_=>[]) (λl=>y8h l) [] Tryz.func107 y7j
@[reducible] def ff.row (p:ff):fi:= .cells p.cells 25
structure KC where
 p:ff
 n:Int
structure Hf where
 p:ff
 l:List Int
def qT (t n:Int):Bool:=n.tmod t !=0
def Qj:gi:=fp KC (λi=>[zA i.n,.nm 0 0]) (λi=>[i.p.row]) (λi=>1<=i.p.tick) (λi=>yN (qT i.p.tick i.n)) (λi=>[i.p.row])
@[reducible] def y6m:V:= .fn 154 [] [.nm 0 0]
def IK (k:Option Nat):Int:=match k with
 |some k=>k
 |none=> -1
def Qs:gi:=fp Hf (λi=>[iV i.l,y6m]) (λi=>[i.p.row]) (λi=>1<=i.p.tick/\i.l.length<=1099511627776) (λi=>zA (IK (i.l.findIdx? (qT i.p.tick)))) (λi=>[i.p.row])
def y7y (i:Hf):List gp:=[{ι:=Nat,dv:=λj=>[(8,zA j)],rows:=λ_=>[]}]
def Ab:gi:=fp Hf (λi=>[iV i.l,y6m]) (λi=>[i.p.row]) (λi=>1<=i.p.tick/\i.l.length<=1099511627776) (λi=>yN (i.l.any (qT i.p.tick))) (λi=>[i.p.row])
def qO (p:ff):Bool:=decide (1<=p.tick) && decide (p.tick<=1000) && !qT p.tick p.low && !qT p.tick p.high && !qT p.tick p.wide && !p.settle.any (qT p.tick)
def Fy:gi:=fp ff (λp=>[oe p]) (λ_=>[]) ff.small (λp=>yN (qO p)) (λ_=>[])
def qR (p:ff):Bool:=decide (p.low< -1000000)||decide (p.low>=p.high)||decide (p.high>1000000)||decide (p.wide<0)||decide (p.wide>p.high-p.low)
def xK (p:ff):Bool:=decide (p.settle.length≠p.dm.length)||decide (sL p.settle<p.low)||decide (lA p.settle>p.high)
def kH (p:ff):Bool:=decide (p.dt<1)||decide (p.dt>3)
def qD (p:ff):Bool:=decide (p.top<0)||decide (p.top>1000000)||decide (p.least<1)||decide (p.least>1000)||decide (p.part<0)||decide (p.part>100)
def ff.check (p:ff):Int:=
 if !wH p.code then 12 else if !xH p.dm then 1 else if !qO p then 22 else if qR p then 23 else if xK p then 1 else if kH p then 31 else if qD p then 24 else 0
def F4:gi:=fp ff (λp=>[oe p]) (λ_=>[]) ff.small (λp=>zA p.check) (λ_=>[])
def ff.count (p:ff):Nat:=if p.check=0 then p.dm.length+p.dm.length*(p.dm.length-1) / 2 else 0
def Dl:gi:=fp ff (λp=>[oe p]) (λ_=>[]) ff.small (λp=>zA p.count) (λ_=>[])
structure bG where
 p:ff
 n:Int
def yL (n:Nat):Nat->Nat
 |0=>n
 |k+1=>yL n k+(n-1-k)
def jE (n inst:Nat):Nat->Nat->Int×Int×Bool
 |0,_=>(0,0,ax)
 |k+1,m=>if inst<yL n m+(n-1-m)then(m,m+1+(inst-yL n m:Nat),ay)else jE n inst k (m+1)
def ff.gj (p:ff) (i:Int):Int×Int×Bool:=
 if i<0\/(p.count:Int)<=i then(0,0,ax)else if i<p.dm.length then(i,i,ax)else jE p.dm.length i.toNat p.dm.length 0
def JR:gi:=fp bG (λi=>[oe i.p,zA i.n]) (λ_=>[]) (λi=>i.p.small) (λi=> .ja [zA (i.p.gj i.n).1,zA (i.p.gj i.n).2.1,yN (i.p.gj i.n).2.2]) (λ_=>[])
structure lB where
 p:ff
 a:Int
 b:Int
def ff.spread (p:ff) (a b:Int):Int×Bool:=
 if p.check≠0\/a<0\/b<=a\/(p.dm.length:Int)<=b then(0,ax)else((yL p.dm.length a.toNat:Int)+b-a-1,ay)
def Da:gi:=fp lB (λi=>[oe i.p,zA i.a,zA i.b]) (λ_=>[]) (λi=>i.p.small) (λi=> .ja [zA (i.p.spread i.a i.b).1,yN (i.p.spread i.a i.b).2]) (λ_=>[])
def ff.dk (p:ff) (i n:Int):Int:=
 if p.count=0 then 1 else if i<0\/(p.count:Int)<=i then 20 else if qT p.tick n then 22 else
 if n<(if(p.dm.length:Int)<=i then-p.wide else p.low)\/(if(p.dm.length:Int)<=i then p.wide else p.high)<n then 23 else 0
def FI:gi:=fp lB (λi=>[oe i.p,zA i.a,zA i.b]) (λ_=>[]) (λi=>i.p.small) (λi=>zA (i.p.dk i.a i.b)) (λ_=>[])
structure I2 where
 x:Int
 y:Int
@[reducible] def gx (n:Int):Prop:= -9223372036854775808<=n/\n<=9223372036854775807
def gO (x y:Int):Int×Bool:=if gx (x+y)then(x+y,ay)else(0,ax)
def gP (x y:Int):Int×Bool:=if gx (x-y)then(x-y,ay)else(0,ax)
def QQ:gi:=fp I2 (λi=>[zA i.x,zA i.y]) (λ_=>[]) (λi=>gx i.x/\gx i.y) (λi=> .ja [zA (gO i.x i.y).1,yN (gO i.x i.y).2]) (λ_=>[])
def Qa:gi:=fp I2 (λi=>[zA i.x,zA i.y]) (λ_=>[]) (λi=>gx i.x/\gx i.y) (λi=> .ja [zA (gP i.x i.y).1,yN (gP i.x i.y).2]) (λ_=>[])
def y4q (i:bG):List gp:=[{ι:=Nat,dv:=λm=>[(8,zA (yL i.p.dm.length m)),(33,zA m)],rows:=λ_=>[]}]
def yRs (i:lB):List gp:=[{ι:=Nat,dv:=λm=>[(9,zA (yL i.p.dm.length m)),(33,zA m)],rows:=λ_=>[]}]
def y6u (i:KC):Prop:=
 ar=ar/\i.p.tick≠0/\∃(a:Unit),qT i.p.tick i.n=(i.n.tmod i.p.tick !=0)/\dj (sb i.p.code)/\dj (iE i.p.dm)/\dj i.p.tick/\dj i.p.low/\dj i.p.high/\dj i.p.wide/\dj i.p.dt/\dj i.p.top/\dj i.p.least/\dj i.p.part/\dj (iE i.p.settle)/\True
def y5r (i:Hf):Prop:=
 ∃(a:Nat),(↑a:Int)=0/\∃(b:Nat->Prop),∃(c:Nat->Nat),b a/\∀(d:Nat),b d->dq (decide ((↑d:Int)<(↑(iE i.l).length:Int))) ((0<=(↑d:Int)/\(↑d:Int)<(↑(iE i.l).length:Int))/\∃(e:Int),zD (iE i.l) (↑d:Int).toNat 0 1=ba [dI e]/\∃(f:KC),f.n=e/\sb f.p.code=sb i.p.code/\iE f.p.dm=iE i.p.dm/\f.p.tick=i.p.tick/\f.p.low=i.p.low/\f.p.high=i.p.high/\f.p.wide=i.p.wide/\f.p.dt=i.p.dt/\f.p.top=i.p.top/\f.p.least=i.p.least/\f.p.part=i.p.part/\iE f.p.settle=iE i.p.settle/\1<=f.p.tick/\∀(g:Unit),True->dq (qT f.p.tick f.n) (∃(h:Unit),IK (List.findIdx? (qT i.p.tick) i.l)=(↑d:Int)/\sb i.p.code=sb f.p.code/\iE i.p.dm=iE f.p.dm/\i.p.tick=f.p.tick/\i.p.low=f.p.low/\i.p.high=f.p.high/\i.p.wide=f.p.wide/\i.p.dt=f.p.dt/\i.p.top=f.p.top/\i.p.least=f.p.least/\i.p.part=f.p.part/\iE i.p.settle=iE f.p.settle/\True) (∃(h:Nat),(↑h:Int)=ar.wrap ((↑d:Int)+1)/\b h/\c h<c d/\ac [V.d (D.v (bz (sb f.p.code))),V.d (D.ro 1 (iE f.p.dm)),V.d (dI f.p.tick),V.d (dI f.p.low),V.d (dI f.p.high),V.d (dI f.p.wide),V.d (dI f.p.dt),V.d (dI f.p.top),V.d (dI f.p.least),V.d (dI f.p.part),V.d (D.ro 1 (iE f.p.settle))] (25:ce)=i.p.row)) (∃(e:Unit),IK (List.findIdx? (qT i.p.tick) i.l)=(-1)/\dj (sb i.p.code)/\dj (iE i.p.dm)/\dj i.p.tick/\dj i.p.low/\dj i.p.high/\dj i.p.wide/\dj i.p.dt/\dj i.p.top/\dj i.p.least/\dj i.p.part/\dj (iE i.p.settle)/\True)
def zTf (i:Hf):Prop:=
 ∃(a:Hf),iE a.l=iE i.l/\sb a.p.code=sb i.p.code/\iE a.p.dm=iE i.p.dm/\a.p.tick=i.p.tick/\a.p.low=i.p.low/\a.p.high=i.p.high/\a.p.wide=i.p.wide/\a.p.dt=i.p.dt/\a.p.top=i.p.top/\a.p.least=i.p.least/\a.p.part=i.p.part/\iE a.p.settle=iE i.p.settle/\(1<=a.p.tick/\a.l.length<=1099511627776)/\∀(b:Unit),True->∃(c:Unit),i.l.any (qT i.p.tick)=decide (IK (List.findIdx? (qT a.p.tick) a.l)>=0)/\sb i.p.code=sb a.p.code/\iE i.p.dm=iE a.p.dm/\i.p.tick=a.p.tick/\i.p.low=a.p.low/\i.p.high=a.p.high/\i.p.wide=a.p.wide/\i.p.dt=a.p.dt/\i.p.top=a.p.top/\i.p.least=a.p.least/\i.p.part=a.p.part/\iE i.p.settle=iE a.p.settle/\True
def yGl (p:ff):Prop:=
 dq (decide (p.tick<1)) (∃(a:Unit),qO p=ax/\True) (dq (decide (p.tick>1000)) (∃(a:Unit),qO p=ax/\True) (∃(a:KC),a.n=p.low/\sb a.p.code=sb p.code/\iE a.p.dm=iE p.dm/\a.p.tick=p.tick/\a.p.low=p.low/\a.p.high=p.high/\a.p.wide=p.wide/\a.p.dt=p.dt/\a.p.top=p.top/\a.p.least=p.least/\a.p.part=p.part/\iE a.p.settle=iE p.settle/\1<=a.p.tick/\∀(b:Unit),True->dq (!qT a.p.tick a.n) (∃(c:KC),c.n=a.p.high/\sb c.p.code=sb a.p.code/\iE c.p.dm=iE a.p.dm/\c.p.tick=a.p.tick/\c.p.low=a.p.low/\c.p.high=a.p.high/\c.p.wide=a.p.wide/\c.p.dt=a.p.dt/\c.p.top=a.p.top/\c.p.least=a.p.least/\c.p.part=a.p.part/\iE c.p.settle=iE a.p.settle/\1<=c.p.tick/\∀(d:Unit),True->dq (!qT c.p.tick c.n) (∃(e:KC),e.n=c.p.wide/\sb e.p.code=sb c.p.code/\iE e.p.dm=iE c.p.dm/\e.p.tick=c.p.tick/\e.p.low=c.p.low/\e.p.high=c.p.high/\e.p.wide=c.p.wide/\e.p.dt=c.p.dt/\e.p.top=c.p.top/\e.p.least=c.p.least/\e.p.part=c.p.part/\iE e.p.settle=iE c.p.settle/\1<=e.p.tick/\∀(f:Unit),True->dq (!qT e.p.tick e.n) (∃(g:Hf),iE g.l=iE e.p.settle/\sb g.p.code=sb e.p.code/\iE g.p.dm=iE e.p.dm/\g.p.tick=e.p.tick/\g.p.low=e.p.low/\g.p.high=e.p.high/\g.p.wide=e.p.wide/\g.p.dt=e.p.dt/\g.p.top=e.p.top/\g.p.least=e.p.least/\g.p.part=e.p.part/\iE g.p.settle=iE e.p.settle/\(1<=g.p.tick/\g.l.length<=1099511627776)/\∀(h:Unit),True->∃(j:Unit),qO p=!g.l.any (qT g.p.tick)/\True) (∃(g:Unit),qO p=ax/\True)) (∃(e:Unit),qO p=ax/\True)) (∃(c:Unit),qO p=ax/\True)))
def zW (a:ff):Prop:=a.code.length<=1099511627776/\a.dm.length<=1099511627776/\a.settle.length<=1099511627776
def vG (a:ff):=(↑(iE a.settle).length:Int)
def xG (a:ff):=(↑(iE a.dm).length:Int)
def yHc (p:ff):Prop:=
 ∃(a:List UInt8),sb a=sb p.code/\a.length<=1099511627776/\∀(b:Unit),True->dq (!wH a) (∃(c:Unit),p.check=12/\True) (∃(c:List Int),iE c=iE p.dm/\c.length<=1099511627776/\∀(d:Unit),True->dq (!xH c) (∃(e:Unit),p.check=1/\True) (∃(e:ff),sb e.code=sb p.code/\iE e.dm=iE p.dm/\e.tick=p.tick/\e.low=p.low/\e.high=p.high/\e.wide=p.wide/\e.dt=p.dt/\e.top=p.top/\e.least=p.least/\e.part=p.part/\iE e.settle=iE p.settle/\(zW e)/\∀(f:Unit),True->dq (!qO e) (∃(g:Unit),p.check=22/\True) (dq (decide (p.low<(-1000000))) (∃(g:Unit),p.check=23/\True) (dq (decide (p.low>=p.high)) (∃(g:Unit),p.check=23/\True) (dq (decide (p.high>1000000)) (∃(g:Unit),p.check=23/\True) (dq (decide (p.wide<0)) (∃(g:Unit),p.check=23/\True) (dq (decide (p.wide>ar.wrap (p.high-p.low))) (∃(g:Unit),p.check=23/\True) (dq ((vG p) !=(xG p)) (∃(g:Unit),p.check=1/\True) (∃(g:List Int),iE g=iE p.settle/\(0<g.length/\g.length<=1099511627776)/\∀(h:Unit),True->dj p.low/\dq (decide (sL g<p.low)) (∃(j:Unit),p.check=1/\True) (∃(j:List Int),iE j=iE p.settle/\(0<j.length/\j.length<=1099511627776)/\∀(k:Unit),True->dj p.high/\dq (decide (lA j>p.high)) (∃(l:Unit),p.check=1/\True) (dq (decide (p.dt<1)) (∃(l:Unit),p.check=31/\True) (dq (decide (p.dt>3)) (∃(l:Unit),p.check=31/\True) (dq (decide (p.top<0)) (∃(l:Unit),p.check=24/\True) (dq (decide (p.top>1000000)) (∃(l:Unit),p.check=24/\True) (dq (decide (p.least<1)) (∃(l:Unit),p.check=24/\True) (dq (decide (p.least>1000)) (∃(l:Unit),p.check=24/\True) (dq (decide (p.part<0)) (∃(l:Unit),p.check=24/\True) (dq (decide (p.part>100)) (∃(l:Unit),p.check=24/\True) (∃(l:Unit),p.check=0/\True)))))))))))))))))))
def tH (a:ff) (b:ff):Prop:=sb a.code=sb b.code/\iE a.dm=iE b.dm/\a.tick=b.tick/\a.low=b.low/\a.high=b.high/\a.wide=b.wide/\a.dt=b.dt/\a.top=b.top/\a.least=b.least/\a.part=b.part/\iE a.settle=iE b.settle/\(zW a)/\∀(c:Unit),True->dq (a.check !=0) (∃(d:Unit),(↑b.count:Int)=0/\True) (ar=ar/\(2:Int)≠(0:Int)/\∃(d:Unit),(↑b.count:Int)=ar.wrap ((xG b)+ar.wrap ((ar.wrap ((xG b)*ar.wrap ((xG b)-1))).tdiv 2))/\True)
def z8k (p:ff):Prop:=
 ∃(a:ff),tH a p
def pF (a:bG):Prop:=ac [V.d (D.v (bz (sb a.p.code))),V.own 0,V.d (dI a.p.tick),V.d (dI a.p.low),V.d (dI a.p.high),V.d (dI a.p.wide),V.d (dI a.p.dt),V.d (dI a.p.top),V.d (dI a.p.least),V.d (dI a.p.part),V.own 1] 25=ac [V.d (D.v (bz (sb a.p.code))),V.own 0,V.d (dI a.p.tick),V.d (dI a.p.low),V.d (dI a.p.high),V.d (dI a.p.wide),V.d (dI a.p.dt),V.d (dI a.p.top),V.d (dI a.p.least),V.d (dI a.p.part),V.own 1] 25/\dj (ab 1 (iE a.p.settle))/\dj (ab 1 (iE a.p.dm))
def TV (a:Nat->Prop) (b:Nat) (c:Nat->Nat) (d:Nat) (e:bG):Prop:=a b/\c b<c d/\pF e
def uY (a:bG) (b:Nat):=(↑(yL a.p.dm.length b):Int)
def vS (a:bG):=(↑(iE a.p.dm).length:Int)
def Xu (a:bG) (b:Nat):=((uY a b)+ar.wrap (ar.wrap ((vS a)-1)-(↑b:Int)))
def fK (a:bG):Prop:=∃(b:Unit),(a.p.gj a.n).fst=0/\(a.p.gj a.n).snd.fst=0/\(a.p.gj a.n).snd.snd=ax/\True
def T3 (a:bG):Prop:=∃(b:Unit),(a.p.gj a.n).fst=a.n/\(a.p.gj a.n).snd.fst=a.n/\(a.p.gj a.n).snd.snd=ax/\True
def yVi (i:bG):Prop:=
 ∃(a:ff),sb a.code=sb i.p.code/\iE a.dm=iE i.p.dm/\a.tick=i.p.tick/\a.low=i.p.low/\a.high=i.p.high/\a.wide=i.p.wide/\a.dt=i.p.dt/\a.top=i.p.top/\a.least=i.p.least/\a.part=i.p.part/\iE a.settle=iE i.p.settle/\(zW a)/\∀(b:Unit),True->dq (decide (i.n<0)) (fK i) (dq (decide (i.n>=(↑a.count:Int))) (fK i) (dq (decide (i.n<(vS i))) (T3 i) (∃(c:Nat),(uY i c)=(vS i)/\(↑c:Int)=0/\∃(d:Nat->Prop),∃(e:Nat->Nat),d c/\∀(f:Nat),d f->dq (decide ((↑f:Int)<(vS i))) (dq (decide (i.n<ar.wrap (Xu i f))) (∃(g:Unit),(i.p.gj i.n).fst=(↑f:Int)/\(i.p.gj i.n).snd.fst=ar.wrap (ar.wrap (ar.wrap ((↑f:Int)+1)+i.n)-(uY i f))/\(i.p.gj i.n).snd.snd=ay/\True) (∃(g:Nat),(uY i g)=ar.wrap (Xu i f)/\(↑g:Int)=ar.wrap ((↑f:Int)+1)/\TV d g e f i)) (fK i))))
def bD (a:lB):Prop:=∃(b:Unit),(a.p.spread a.a a.b).fst=0/\(a.p.spread a.a a.b).snd=ax/\True
def yBw (i:lB):Prop:=
 ∃(a:ff),sb a.code=sb i.p.code/\iE a.dm=iE i.p.dm/\a.tick=i.p.tick/\a.low=i.p.low/\a.high=i.p.high/\a.wide=i.p.wide/\a.dt=i.p.dt/\a.top=i.p.top/\a.least=i.p.least/\a.part=i.p.part/\iE a.settle=iE i.p.settle/\(zW a)/\∀(b:Unit),True->dq (a.check !=0) (bD i) (dq (decide (i.a<0)) (bD i) (dq (decide (i.a>=i.b)) (bD i) (dq (decide (i.b>=(↑(iE i.p.dm).length:Int))) (bD i) (∃(c:Nat),(↑(yL i.p.dm.length c):Int)=(↑(iE i.p.dm).length:Int)/\(↑c:Int)=0/\∃(d:Nat->Prop),∃(e:Nat->Nat),d c/\∀(f:Nat),d f->dq (decide ((↑f:Int)<i.a)) (∃(g:Nat),(↑(yL i.p.dm.length g):Int)=ar.wrap ((↑(yL i.p.dm.length f):Int)+ar.wrap (ar.wrap ((↑(iE i.p.dm).length:Int)-1)-(↑f:Int)))/\(↑g:Int)=ar.wrap ((↑f:Int)+1)/\d g/\e g<e f/\dj (ac [V.d (D.v (bz (sb i.p.code))),V.own 0,V.d (dI i.p.tick),V.d (dI i.p.low),V.d (dI i.p.high),V.d (dI i.p.wide),V.d (dI i.p.dt),V.d (dI i.p.top),V.d (dI i.p.least),V.d (dI i.p.part),V.own 1] 25)/\dj (ab 1 (iE i.p.settle))/\dj (ab 1 (iE i.p.dm))) (∃(g:Unit),(i.p.spread i.a i.b).fst=ar.wrap (ar.wrap (ar.wrap ((↑(yL i.p.dm.length f):Int)+i.b)-i.a)-1)/\(i.p.spread i.a i.b).snd=ay/\True)))))
def yKg (i:lB):Prop:=
 ∃(a:ff),sb a.code=sb i.p.code/\iE a.dm=iE i.p.dm/\a.tick=i.p.tick/\a.low=i.p.low/\a.high=i.p.high/\a.wide=i.p.wide/\a.dt=i.p.dt/\a.top=i.p.top/\a.least=i.p.least/\a.part=i.p.part/\iE a.settle=iE i.p.settle/\(zW a)/\∀(b:Unit),True->dq ((↑a.count:Int)==0) (∃(c:Unit),i.p.dk i.a i.b=1/\True) (dq (decide (i.a<0)) (∃(c:Unit),i.p.dk i.a i.b=20/\True) (dq (decide (i.a>=(↑a.count:Int))) (∃(c:Unit),i.p.dk i.a i.b=20/\True) (ar=ar/\i.p.tick≠0/\dq (i.b.tmod i.p.tick !=0) (∃(c:Unit),i.p.dk i.a i.b=22/\True) (dq (decide (i.a>=(↑(iE i.p.dm).length:Int))) (dq (decide (i.b<ar.wrap (0-i.p.wide))) (∃(c:Unit),i.p.dk i.a i.b=23/\True) (dq (decide (i.b>i.p.wide)) (∃(c:Unit),i.p.dk i.a i.b=23/\True) (∃(c:Unit),i.p.dk i.a i.b=0/\True))) (dq (decide (i.b<i.p.low)) (∃(c:Unit),i.p.dk i.a i.b=23/\True) (dq (decide (i.b>i.p.high)) (∃(c:Unit),i.p.dk i.a i.b=23/\True) (∃(c:Unit),i.p.dk i.a i.b=0/\True)))))))
def WC (a:I2):Prop:=∃(b:Unit),(gO a.x a.y).fst=ar.wrap (a.x+a.y)/\(gO a.x a.y).snd=ay/\True
def y6j (i:I2):Prop:=
 dq (decide (i.x<0)==decide (i.y<0)) (dq (!decide (ar.wrap (i.x+i.y)<0)==decide (i.x<0)) (∃(a:Unit),(gO i.x i.y).fst=0/\(gO i.x i.y).snd=ax/\True) (WC i)) (WC i)
def Xd (a:I2):Prop:=∃(b:Unit),(gP a.x a.y).fst=ar.wrap (a.x-a.y)/\(gP a.x a.y).snd=ay/\True
def y6p (i:I2):Prop:=
 dq (!decide (i.x<0)==decide (i.y<0)) (dq (!decide (ar.wrap (i.x-i.y)<0)==decide (i.x<0)) (∃(a:Unit),(gP i.x i.y).fst=0/\(gP i.x i.y).snd=ax/\True) (Xd i)) (Xd i)
def y8n (i:KC) (h:Qj.dq i):y6u i:=by
 have h:1<=i.p.tick:=h;unfold y6u;exact kp
def yHz:Qj.ok Tryz.prog 154:=ib mixed fj 0 (λ_=>[]) (λ_=>[]) [] Tryz.func154 y8n
def XT {α:Type} {f:α->Bool} {l:List α} (h:∀(k:Nat) (x:α),l[k]? =ba x->f x=ax):l.findIdx? f=bc:=by
 rw[OY];intro x hx;obtain⟨k,hk⟩:=M5 hx;exact h k x hk
def XE {α:Type} {f:α->Bool} {l:List α} {j:Nat} {x:α} (h1:l[j]? =ba x) (h2:f x=ay) (h:∀k<j,∀x:α,l[k]? =ba x->f x=ax):l.findIdx? f=ba j:=by
 rw[M7];obtain⟨hj,rfl⟩:=jv.1 h1;exact⟨hj,h2,λk hk=>by rw[h k hk _ (vd (by omega))];simp⟩
def y7q (i:Hf) (h:Qs.dq i):y5r i:=by
 obtain⟨h1,h2⟩:1<=i.p.tick/\i.l.length<=1099511627776:=h;unfold y5r dI;simp only[y4];refine⟨0,rfl,λj=>j<=i.l.length/\∀k<j,∀x,i.l[k]? =ba x->qT i.p.tick x=ax,λj=>i.l.length-j,⟨oM,λk hk=>by omega⟩,?_⟩;rintro j ⟨h3,h4⟩;refine zH (λhj=> ?_) (λhj=> ?_)
 ·obtain⟨n,hn⟩:=z6 (l:=i.l) (i:=j) oM;refine⟨⟨oM,oM⟩,n,rk hn,⟨i.p,n⟩,?_⟩
  (repeat'(first|exact rfl|exact trivial|assumption|apply be|refineλ(_:Unit) (_:True)=>?_|refine az () ?_|omega|(dsimp only;omega)))
  refine Cv.dq.mk (λe=> ?_) (λe=> ?_)
  ·rw[XE hn e h4];exact kp
  ·refine⟨j+1,by rw[iA (by omega)];rfl,⟨oM,λk hk x hx=> ?_⟩,by(first|omega|(dsimp only;omega)),rfl⟩;rcases ur k j with rh|rh
   ·exact h4 k rh x hx
   ·obtain rfl:k=j:=by omega
    rw[hn]at hx;cases hx;exact e
 ·rw[XT λk x hx=>h4 k (by have:=(jv.1 hx).1;omega) x hx];exact kp
def yXa:Qs.ok Tryz.prog 191:=ib mixed (dx yHz fj) 0 (λ_=>[]) (λi=>y7y i) [] Tryz.func191 y7q
def yEi {l:List Int} {f:Int->Bool}:l.any f=decide (IK (l.findIdx? f)>=0):=by
 cases hf:l.findIdx? f with
 |none=>
  rw[OY]at hf;have:l.any f=ax:=by rw[KR];intro x hx;simp[hf x hx]
  rw[this];rfl
 |some k=>
  rw[M7]at hf;obtain⟨hk,h1,_⟩:=hf;have:l.any f=ay:=by rw[MZ];exact⟨_,List.getElem_mem hk,h1⟩
  rw[this,IK,lg (by omega)]
def yCy (i:Hf) (h:Ab.dq i):zTf i:=by
 unfold zTf;have h':1<=i.p.tick/\i.l.length<=1099511627776:=h;refine⟨i,?_⟩
 (repeat'(first|exact rfl|exact trivial|assumption|apply be|refineλ(_:Unit) (_:True)=>?_|refine az () ?_|omega|(dsimp only;omega)))
 exact yEi
def z1k:Ab.ok Tryz.prog 155:=ib mixed (dx yXa fj) 0 (λ_=>[]) (λ_=>[]) [] Tryz.func155 yCy
def y1b (p:ff) (h:Fy.dq p):yGl p:=by
 obtain⟨h1,h2,h3⟩:p.small:=h;unfold yGl;refine zH (λc1=>⟨(),by rw[qO,ku (by omega)];rfl,trivial⟩) (λc1=>zH (λc2=>⟨(),by rw[qO,ku (show ¬p.tick<=1000 by omega)];simp,trivial⟩) (λc2=>⟨⟨p,p.low⟩,?_⟩));have e1:qO p=(!qT p.tick p.low && !qT p.tick p.high && !qT p.tick p.wide && !p.settle.any (qT p.tick)):=by
  rw[qO,lg (by omega),lg (by omega)];rfl
 rw[e1]
 (repeat'(first|exact rfl|exact trivial|assumption|apply be|refineλ(_:Unit) (_:True)=>?_|refine az () ?_|omega|(dsimp only;omega)))
 refine Cv.dq.mk (λc3=>⟨⟨p,p.high⟩,?_⟩) (λc3=>⟨(),?_,trivial⟩)
 ·dsimp only at c3
  (repeat'(first|exact rfl|exact trivial|assumption|apply be|refineλ(_:Unit) (_:True)=>?_|refine az () ?_|omega|(dsimp only;omega)))
  refine Cv.dq.mk (λc4=>⟨⟨p,p.wide⟩,?_⟩) (λc4=>⟨(),?_,trivial⟩)
  ·dsimp only at c4
   (repeat'(first|exact rfl|exact trivial|assumption|apply be|refineλ(_:Unit) (_:True)=>?_|refine az () ?_|omega|(dsimp only;omega)))
   refine Cv.dq.mk (λc5=>⟨⟨p,p.settle⟩,?_⟩) (λc5=>⟨(),?_,trivial⟩)
   ·dsimp only at c5
    (repeat'(first|exact rfl|exact trivial|assumption|apply be|refineλ(_:Unit) (_:True)=>?_|refine az () ?_|omega|(dsimp only;omega)))
    rw[c3,c4,c5];simp
   ·dsimp only at c5;rw[c5];simp
  ·dsimp only at c4;rw[c4];simp
 ·dsimp only at c3;rw[c3];simp
def yKp:Fy.ok Tryz.prog 105:=ib mixed (dx yHz (dx z1k fj)) 0 (λ_=>[]) (λ_=>[]) [] Tryz.func105 y1b
def yYf (p:ff) (h:F4.dq p):yHc p:=by
 obtain⟨h1,h2,h3⟩:p.small:=h;unfold yHc xG vG zW;simp only[y4];refine⟨p.code,rfl,h1,λ_ _=>Cv.dq.mk (λc1=>⟨(),by rw[ff.check,fh c1],trivial⟩) (λc1=>⟨p.dm,rfl,h2,λ_ _=>Cv.dq.mk (λc2=>⟨(),by rw[ff.check,fb (by simp[c1]),fh c2],trivial⟩) (λc2=>⟨p,?_⟩)⟩)⟩
 (repeat'(first|exact rfl|exact trivial|assumption|apply be|refineλ(_:Unit) (_:True)=>?_|refine az () ?_|omega|(dsimp only;omega)))
 refine Cv.dq.mk (λc3=>⟨(),by rw[ff.check,fb (by simp[c1]),fb (by simp[c2]),fh c3],trivial⟩) (λc3=> ?_);have e0:p.check=if qR p then 23 else if xK p then 1 else if kH p then 31 else if qD p then 24 else 0:=by
  rw[ff.check,fb (by simp[c1]),fb (by simp[c2]),fb (by simp[c3])]
 have b (hb:qR p=ay):∃(o:Unit),p.check=23/\True:=⟨(),by rw[e0,fh hb],trivial⟩
 refine zH (λd1=>b (by simp[qR,d1])) λd1=>zH (λd2=>b (by simp[qR];omega)) λd2=>zH (λd3=>b (by simp[qR];omega)) λd3=>zH (λd4=>b (by simp[qR];omega)) λd4=> ?_
 rw[iA (by omega)];refine zH (λd5=>b (by simp[qR];omega)) λd5=> ?_
 have e1:p.check=if xK p then 1 else if kH p then 31 else if qD p then 24 else 0:=by
  rw[e0,fb (by simp[qR];omega)]
 have s (hb:xK p=ay):∃(o:Unit),p.check=1/\True:=⟨(),by rw[e1,fh hb],trivial⟩
 have hm:2<=p.dm.length:=by
  have c2:xH p.dm=ay:=by simpa using c2
  simp[xH]at c2;omega
 refine Cv.dq.mk (λd6=>s (by have d6:¬(p.settle.length:Int)=p.dm.length:=(by simpa using d6);simp[xK];omega)) λd6=> ?_
 have d6:p.settle.length=p.dm.length:=by
  have:(p.settle.length:Int)=p.dm.length:=by simpa using d6
  omega
 refine⟨p.settle,rfl,⟨oM,oM⟩,λ_ _=>⟨kp,zH (λd7=>s (by simp[xK];left;right;omega)) λd7=>⟨p.settle,rfl,⟨oM,oM⟩,λ_ _=>⟨kp,zH (λd8=>s (by simp[xK];right;omega)) λd8=> ?_⟩⟩⟩⟩;have e2:p.check=if kH p then 31 else if qD p then 24 else 0:=by
  rw[e1,fb (by simp[xK];omega)]
 have r (hb:kH p=ay):∃(o:Unit),p.check=31/\True:=⟨(),by rw[e2,fh hb],trivial⟩
 refine zH (λd9=>r (by simp[kH];omega)) λd9=>zH (λd10=>r (by simp[kH];omega)) λd10=> ?_
 have e3:p.check=if qD p then 24 else 0:=by
  rw[e2,fb (by simp[kH];omega)]
 have q (hb:qD p=ay):∃(o:Unit),p.check=24/\True:=⟨(),by rw[e3,fh hb],trivial⟩
 refine zH (λf1=>q (by simp[qD];omega)) λf1=>zH (λf2=>q (by simp[qD];omega)) λf2=>zH (λf3=>q (by simp[qD];omega)) λf3=>zH (λf4=>q (by simp[qD];omega)) λf4=>zH (λf5=>q (by simp[qD];omega)) λf5=>zH (λf6=>q (by simp[qD];omega)) λf6=> ?_
 exact⟨(),by rw[e3,fb (by simp[qD];omega)],trivial⟩
def On:F4.ok Tryz.prog 43:=ib mixed (dx y0x (dx yEf (dx yKp (dx yYc (dx yZh fj))))) 0 (λ_=>[]) (λ_=>[]) [] Tryz.func43 yYf
structure ff.Ok (p:ff):Prop where
 sym:wH p.code=ay
 dm:xH p.dm=ay
 aa9:qO p=ay
 m2:2<=p.dm.length
 m6:p.dm.length<=6
 t1:1<=p.tick
 t2:p.tick<=1000
 b1: -1000000<=p.low
 b2:p.low<p.high
 b3:p.high<=1000000
 b4:0<=p.wide
 b5:p.wide<=p.high-p.low
 s1:p.settle.length=p.dm.length
 s2:p.low<=sL p.settle
 s3:lA p.settle<=p.high
 r1:1<=p.dt
 r2:p.dt<=3
 q1:0<=p.top
 q2:p.top<=1000000
 q3:1<=p.least
 q4:p.least<=1000
 q5:0<=p.part
 q6:p.part<=100
def qS {p:ff} (h:p.check=0):p.Ok:=by
 unfold ff.check at h;split at h<;>first|(exfalso;revert h;decide)|skip
 rename_i c1;split at h<;>first|(exfalso;revert h;decide)|skip
 rename_i c2;split at h<;>first|(exfalso;revert h;decide)|skip
 rename_i c3;split at h<;>first|(exfalso;revert h;decide)|skip
 rename_i c4;split at h<;>first|(exfalso;revert h;decide)|skip
 rename_i c5;split at h<;>first|(exfalso;revert h;decide)|skip
 rename_i c6;split at h<;>first|(exfalso;revert h;decide)|skip
 rename_i c7;simp only[EM,Bool.not_eq_false,Bool.not_eq_true]at c1 c2 c3;have m:=c2;have t:=c3;simp[xH]at m;simp[qO]at t;simp[qR]at c4;simp[xK]at c5;simp[kH]at c6;simp[qD]at c7;exact⟨c1,c2,c3,oM,oM,oM,oM,oM,oM,oM,oM,oM,oM,oM,oM,oM,oM,oM,oM,oM,oM,oM,oM⟩
def yHu {n:Nat} (h:n<=6):n+n*(n-1) / 2<=21:=by
 have:∀n≤6,n+n*(n-1) / 2<=21:=by decide
 exact this n h
def yOq (p:ff) (h:Dl.dq p):z8k p:=by
 unfold z8k tH xG zW;obtain⟨h1,h2,h3⟩:p.small:=h;refine⟨p,?_⟩;simp only[y4]
 (repeat'(first|exact rfl|exact trivial|assumption|apply be|refineλ(_:Unit) (_:True)=>?_|refine az () ?_|omega|(dsimp only;omega)))
 refine Cv.dq.mk (λc=>⟨(),by rw[ff.count,fb (by simpa using c)];rfl,trivial⟩) (λc=> ?_);have c:p.check=0:=by simpa using c
 have ok:=qS c;refine⟨kp,Z8,(),?_,trivial⟩;rw[ff.count,fh c];obtain⟨n,hn⟩:∃n,p.dm.length=n:=⟨_,rfl⟩
 have m2:=ok.m2;have m6:=ok.m6;rw[hn]at m2 m6 ⊢;have:n=2\/n=3\/n=4\/n=5\/n=6:=by omega
 rcases this with rfl|rfl|rfl|rfl|rfl<;>rfl
def aQ:Dl.ok Tryz.prog 44:=ib mixed (dx On fj) 0 (λ_=>[]) (λ_=>[]) [] Tryz.func44 yOq
def l9 {p:ff} (h:p.count≠0):p.check=0:=by
 unfold ff.count at h;split at h
 ·assumption
 ·exact absurd rfl h
def xS (p:ff):p.count<=21:=by
 unfold ff.count;split
 ·rename_i h;exact yHu (qS h).m6
 ·omega
def Ww {n m:Nat} (h:n<=6) (hm:m<=n):yL n m<=21:=by
 have:∀n≤6,∀m≤n,yL n m<=21:=by decide
 exact this n h m hm
def y4e (i:bG) (h:JR.dq i):yVi i:=by
 unfold yVi T3 fK Xu vS uY TV pF zW dI;obtain⟨h1,h2,h3⟩:i.p.small:=h;refine⟨i.p,?_⟩;simp only[y4]
 (repeat'(first|exact rfl|exact trivial|assumption|apply be|refineλ(_:Unit) (_:True)=>?_|refine az () ?_|omega|(dsimp only;omega)))
 refine zH (λc1=> ?_) (λc1=>zH (λc2=> ?_) (λc2=> ?_))
 ·rw[ff.gj,fh (by omega)];exact kp
 ·rw[ff.gj,fh (by omega)];exact kp
 have c2:¬i.n>=(i.p.count:Int):=c2;have hc:=xS i.p;have ok:=qS (l9 (p:=i.p) oM);have m6:=ok.m6;refine zH (λc3=> ?_) (λc3=> ?_)
 ·rw[ff.gj,fb (by omega),fh c3];exact kp
 have e0:i.p.gj i.n=jE i.p.dm.length i.n.toNat i.p.dm.length 0:=by
  rw[ff.gj,fb (by omega),fb c3]
 rw[e0];generalize hn:i.p.dm.length=n at c3 m6 ⊢;obtain⟨k,hk⟩:∃k:Nat,i.n=k:=⟨i.n.toNat,oM⟩
 rw[hk]at c2 c3 ⊢;refine⟨0,rfl,rfl,λm=>m<=n/\yL n m<=k/\jE n k n 0=jE n k (n-m) m,λm=>n-m,⟨oM,by show n<=k;omega,rfl⟩,?_⟩;rintro m ⟨g1,g2,g3⟩;have hf:=Ww m6 g1;refine zH (λc4=> ?_) (λc4=> ?_)
 ·obtain⟨r,hr⟩:∃r,n-m=r+1:=⟨n-m-1,oM⟩
  have e1:(k:Int).toNat=k:=by omega
  rw[e1,g3,hr,iA (x:=(n:Int)-1) (by omega),iA (x:=(n:Int)-1-m) (by omega),iA (x:=(yL n m:Int)+((n:Int)-1-m)) (by omega),iA (x:=(m:Int)+1) (by omega)];rw[hr]at g3;refine zH (λc5=> ?_) (λc5=> ?_)
  ·rw[iA (x:=(m:Int)+1+k) (by omega),iA (x:=(m:Int)+1+k-(yL n m:Int)) (by omega),jE,fh (by omega)];refine⟨(),rfl,?_,rfl,trivial⟩;dsimp only;omega
  ·refine⟨m+1,?_,rfl,⟨oM,?_,?_⟩,by(first|omega|(dsimp only;omega)),kp⟩
   ·rw[yL];omega
   ·rw[yL];omega
   ·rw[jE,fb (by omega),show n-(m+1)=r by omega]
 ·have e1:(k:Int).toNat=k:=by omega
  rw[e1,g3,show n-m=0 by omega];exact⟨(),iT trivial⟩
def MG:JR.ok Tryz.prog 119:=ib mixed (dx aQ fj) 0 (λ_=>[]) (λi=>y4q i) [] Tryz.func119 y4e
def yQw (i:lB) (h:Da.dq i):yBw i:=by
 unfold yBw bD zW dI;obtain⟨h1,h2,h3⟩:i.p.small:=h;refine⟨i.p,?_⟩;simp only[y4]
 (repeat'(first|exact rfl|exact trivial|assumption|apply be|refineλ(_:Unit) (_:True)=>?_|refine az () ?_|omega|(dsimp only;omega)))
 have bad (hb:i.p.check≠0\/i.a<0\/i.b<=i.a\/(i.p.dm.length:Int)<=i.b):∃(o:Unit),(i.p.spread i.a i.b).fst=0/\(i.p.spread i.a i.b).snd=ax/\True:=⟨(),by rw[ff.spread,fh hb],by rw[ff.spread,fh hb],trivial⟩
 refine Cv.dq.mk (λc1=>bad (.inl (by simpa using c1))) λc1=>zH (λc2=>bad oM) λc2=>zH (λc3=>bad oM) λc3=>zH (λc4=>bad oM) λc4=> ?_
 have c1:i.p.check=0:=by simpa using c1
 have m6:=(qS c1).m6;rw[ff.spread,fb (by omega)];generalize hn:i.p.dm.length=n at c4 m6 ⊢;obtain⟨a,ha⟩:∃k:Nat,i.a=k:=⟨i.a.toNat,oM⟩
 rw[ha]at c3 ⊢;refine⟨0,rfl,rfl,λm=>m<=a,λm=>a-m,oM,?_⟩;intro m hm;have hm:m<=a:=hm;have hf:=Ww (m:=m) m6 oM;refine zH (λc5=> ?_) (λc5=> ?_)
 ·rw[iA (x:=(n:Int)-1) (by omega),iA (x:=(n:Int)-1-m) (by omega),iA (x:=(yL n m:Int)+((n:Int)-1-m)) (by omega),iA (x:=(m:Int)+1) (by omega)];refine⟨m+1,?_,rfl,oM,by(first|omega|(dsimp only;omega)),kp⟩;rw[yL];omega
 ·obtain rfl:m=a:=by omega
  rw[iA (x:=(yL n m:Int)+i.b) (by omega),iA (x:=(yL n m:Int)+i.b-m) (by omega),iA (x:=(yL n m:Int)+i.b-m-1) (by omega)];exact⟨(),rfl,rfl,trivial⟩
def zVp:Da.ok Tryz.prog 173:=ib mixed (dx On fj) 0 (λ_=>[]) (λi=>yRs i) [] Tryz.func173 yQw
def y0h (i:lB) (h:FI.dq i):yKg i:=by
 unfold yKg zW;obtain⟨h1,h2,h3⟩:i.p.small:=h;refine⟨i.p,?_⟩;simp only[y4]
 (repeat'(first|exact rfl|exact trivial|assumption|apply be|refineλ(_:Unit) (_:True)=>?_|refine az () ?_|omega|(dsimp only;omega)))
 refine Cv.dq.mk (λc1=>⟨(),by rw[ff.dk,fh (by have:(i.p.count:Int)=0:=(by simpa using c1);omega)],trivial⟩) λc1=> ?_
 have c1:i.p.count≠0:=by
  have:¬(i.p.count:Int)=0:=by simpa using c1
  omega
 have e0:i.p.dk i.a i.b=if i.a<0\/(i.p.count:Int)<=i.a then 20 else if qT i.p.tick i.b then 22 else
  if i.b<(if(i.p.dm.length:Int)<=i.a then-i.p.wide else i.p.low)\/(if(i.p.dm.length:Int)<=i.a then i.p.wide else i.p.high)<i.b then 23 else 0:=by rw[ff.dk,fb c1]
 rw[e0];have ok:=qS (l9 c1);obtain⟨t1,b3,b1,b2,b4,b5⟩:=(⟨ok.t1,ok.b3,ok.b1,ok.b2,ok.b4,ok.b5⟩:_/\_/\_/\_/\_/\_)
 refine zH (λc2=>⟨(),by rw[fh (.inl c2)],trivial⟩) λc2=>zH (λc3=>⟨(),by rw[fh (.inr c3)],trivial⟩) λc3=>⟨kp,oM,?_⟩
 have c3:¬i.a>=(i.p.count:Int):=c3;rw[fb (by omega)];refine Cv.dq.mk (λc4=>⟨(),fh c4,trivial⟩) λc4=> ?_
 rw[fb (by rw[qT,c4];simp),iA (x:=0-i.p.wide) (by omega)];refine zH (λc5=> ?_) (λc5=> ?_)
 ·have c5:(i.p.dm.length:Int)<=i.a:=c5;simp only[fh c5];refine zH (λc6=>⟨(),fh (.inl oM),trivial⟩) λc6=>zH (λc7=>⟨(),fh (.inr oM),trivial⟩) λc7=>⟨(),fb oM,trivial⟩
 ·have c5:¬(i.p.dm.length:Int)<=i.a:=c5;simp only[fb c5];refine zH (λc6=>⟨(),fh (.inl oM),trivial⟩) λc6=>zH (λc7=>⟨(),fh (.inr oM),trivial⟩) λc7=>⟨(),fb oM,trivial⟩
def lN:FI.ok Tryz.prog 123:=ib mixed (dx aQ fj) 0 (λ_=>[]) (λ_=>[]) [] Tryz.func123 y0h
def yVw (x:Int) (h: -18446744073709551616<=x/\x<18446744073709551616):(gx x/\ar.wrap x=x)\/(9223372036854775807<x/\ar.wrap x=x-18446744073709551616)\/(x< -9223372036854775808/\ar.wrap x=x+18446744073709551616):=by
 have e:ar.wrap x=if(decide (x % 18446744073709551616>=9223372036854775808))=ay then x % 18446744073709551616-18446744073709551616 else x % 18446744073709551616:=by
  have:ar.wrap x=if(ay && decide (x % 18446744073709551616>=9223372036854775808))=ay then x % 18446744073709551616-18446744073709551616 else x % 18446744073709551616:=rfl
  rw[this,Ae]
 have e:ar.wrap x=(x+9223372036854775808) % 18446744073709551616-9223372036854775808:=by
  rw[e];by_cases h2:x % 18446744073709551616>=9223372036854775808
  ·rw[fh (lg h2)];omega
  ·rw[fb (by simpa using h2)];omega
 rw[e];by_cases h1:gx x
 ·exact .inl ⟨h1,by unfold gx at h1;omega⟩
 ·unfold gx at h1;omega
def y8d (i:I2) (h:QQ.dq i):y6j i:=by
 obtain⟨⟨x1,x2⟩,y1,y2⟩:gx i.x/\gx i.y:=h;have hw:=yVw (i.x+i.y) oM;unfold y6j WC gO;generalize ar.wrap (i.x+i.y)=w at hw ⊢;unfold gx at hw ⊢;refine Cv.dq.mk (λc1=>Cv.dq.mk (λc2=> ?_) (λc2=> ?_)) (λc1=> ?_)
 all_goals(simp at*)
 ·rw[fb (by omega)];exact kp
 ·rw[fh (by omega)];refine⟨?_,rfl⟩;dsimp only;omega
 ·rw[fh (by omega)];refine⟨?_,rfl⟩;dsimp only;omega
def Ss:QQ.ok Tryz.prog 205:=ib mixed fj 0 (λ_=>[]) (λ_=>[]) [] Tryz.func205 y8d
def y9f (i:I2) (h:Qa.dq i):y6p i:=by
 obtain⟨⟨x1,x2⟩,y1,y2⟩:gx i.x/\gx i.y:=h;have hw:=yVw (i.x-i.y) oM;unfold y6p Xd gP;generalize ar.wrap (i.x-i.y)=w at hw ⊢;unfold gx at hw ⊢;refine Cv.dq.mk (λc1=>Cv.dq.mk (λc2=> ?_) (λc2=> ?_)) (λc1=> ?_)
 all_goals(simp at*)
 ·rw[fb (by omega)];exact kp
 ·rw[fh (by omega)];refine⟨?_,rfl⟩;dsimp only;omega
 ·rw[fh (by omega)];refine⟨?_,rfl⟩;dsimp only;omega
def Sp:Qa.ok Tryz.prog 206:=ib mixed fj 0 (λ_=>[]) (λ_=>[]) [] Tryz.func206 y9f
structure Slot where
 used:Bool
 n:Int
 id:Int
 dr:Int
 top:Bool
 queue:Int
 ahead:Int
 back:Int
 deriving DecidableEq
structure bL where
 first:Int
 last:Int
 total:Int
 count:Int
 deriving DecidableEq
structure du where
 dv:List Slot
 dz:List bL
 free:Int
 deriving DecidableEq
def zR (s:Slot):List D:=[.v (.bool s.used),.v (.int .i64 s.n),.v (.int .i64 s.id),.v (.int .i64 s.dr),.v (.bool s.top),.v (.int .i64 s.queue),.v (.int .i64 s.ahead),.v (.int .i64 s.back)]
def zP (q:bL):List D:=[.v (.int .i64 q.first),.v (.int .i64 q.last),.v (.int .i64 q.total),.v (.int .i64 q.count)]
def iH:Slot:=⟨ax,0,0,0,ax,0,0,0⟩
def zF (a:du):Nat->fi
 |0=> .cells [.own 1,.own 2,zA a.free] 317
 |1=> .own 314 8 (a.dv.map zR)
 |2=> .own 320 4 (a.dz.map zP)
 |_=> .gone
def wB (a:du):fi:= .qw du 3 zF a
structure xM where
 dk:Int
 queue:Int
 deriving DecidableEq
structure Place where
 side:Int
 dk:Int
 slot:Int
 deriving DecidableEq
structure dp where
 a:du
 fc:List xM
 dw:List xM
 at_:List (Int×Place)
 gm:Int
 gn:Int
 spare:List Int
 fv:Bool
 fw:Bool
 deriving DecidableEq
def zB (r:xM):List D:=[.v (.int .i64 r.dk),.v (.int .i64 r.queue)]
def ZV (p:Place):List D:=[.v (.int .i64 p.side),.v (.int .i64 p.dk),.v (.int .i64 p.slot)]
def iK (l:List (Int×Place)):List (cd×List D):=l.map λx=>(.int .i64 x.1,ZV x.2)
def zQ (b:dp):Nat->fi
 |0=> .cells [.nm 1 0,.own 2,.own 3,.mp 4,zA b.gm,zA b.gn,.own 5,yN b.fv,yN b.fw] 273
 |1=>wB b.a
 |2=> .own 276 2 (b.fc.map zB)
 |3=> .own 276 2 (b.dw.map zB)
 |4=> .map (iK b.at_)
 |5=> .own 3 1 (iE b.spare)
 |_=> .gone
def yB (b:dp):fi:= .qw dp 6 zQ b
structure gq where
 p:ff
 ej:List dp
 wh:List (Int×Int)
def yS (l:List (Int×Int)):List (cd×List D):=l.map λx=>(.int .i64 x.1,[.v (.int .i64 x.2)])
def xV (s:gq):Nat->fi
 |0=> .cells [sV s.p.code,.own 3,zA s.p.tick,zA s.p.low,zA s.p.high,zA s.p.wide,zA s.p.dt,zA s.p.top,zA s.p.least,zA s.p.part,.own 4,.own 1,.mp 2] 210
 |1=> .jz 211 dp 6 zQ s.ej bc
 |2=> .map (yS s.wh)
 |3=> .jc 1 (iE s.p.dm)
 |4=> .jc 1 (iE s.p.settle)
 |_=> .gone
def zE (s:gq):fi:= .qw gq 5 xV s
def NQ (n:Nat):du:=⟨am n iH,[],n⟩
def mg:dp:=⟨NQ 250,[],[],[],0,0,[],ax,ax⟩
def JP:gi:=fp Nat (λn=>[zA n]) (λ_=>[]) (λn=>1<=n/\n<=4096) (λ_=> .ja [.nm 0 0,zA 0]) (λn=>[wB (NQ n)])
def Ru:gi:=fp Unit (λ_=>[]) (λ_=>[]) (λ_=>True) (λ_=> .nm 0 0) (λ_=>[yB mg])
def bR (p:ff):gq:=⟨p,am p.count mg,[]⟩
def JN:gi where
 ι:=ff
 pat:=λp=>[oe p]
 pre:=λ_=>[]
 dq:=λp=>p.small
 alts:=λp=>[{o:=Unit,res:=λ_=> .ja [.nm 0 0,zA 0],post:=λ_=>[zE (bR p)],rel:=λ_=>p.check=0},{o:=Unit,res:=λ_=> .ja [.d (.v (.pointer bc)),zA p.check],post:=λ_=>[],rel:=λ_=>p.check≠0}]
def y2n (p:ff):List gp:=[{ι:=Nat,dv:=λj=>[(5,.nm 0 0),(27,zA j)],rows:=λj=>(ao 5).map (xV ⟨p,am j mg,[]⟩)}]
def Iz:gi:=fp (List Slot) (λ_=>[.own 0]) (λl=>[.own 314 8 (l.map zR)]) (λl=>l.length<=1000000) (λ_=> .own 1) (λl=>[.own 314 8 (l.map zR),.own 314 8 (l.map zR)])
def Gl:gi:=fp (List bL) (λ_=>[.own 0]) (λl=>[.own 320 4 (l.map zP)]) (λl=>l.length<=1000000) (λ_=> .own 1) (λl=>[.own 320 4 (l.map zP),.own 320 4 (l.map zP)])
def IA:gi:=fp (List xM) (λ_=>[.own 0]) (λl=>[.own 276 2 (l.map zB)]) (λl=>l.length<=1000000) (λ_=> .own 1) (λl=>[.own 276 2 (l.map zB),.own 276 2 (l.map zB)])
def L8:gi:=fp (List Int) (λ_=>[.own 0]) (λl=>[.own 3 1 (iE l)]) (λl=>l.length<=1000000) (λ_=> .own 1) (λl=>[.own 3 1 (iE l),.own 3 1 (iE l)])
def yNl (f:Nat):gi:=fp (List (cd×List D)) (λ_=>[.mp 0]) (λes=>[.map es]) (λ_=>True) (λ_=> .mp 1) (λes=>[.map es,.map es])
def Aa:gi:=yNl 0
def zz:gi:=yNl 1
@[reducible] def du.small (a:du):Prop:=a.dv.length<=1000000/\a.dz.length<=1000000
@[reducible] def dp.small (b:dp):Prop:=b.a.small/\b.fc.length<=1000000/\b.dw.length<=1000000/\b.spare.length<=1000000
@[reducible] def gq.small (s:gq):Prop:=s.ej.length<=1000000/\∀b∈s.ej,b.small
def L7:gi:=fp du (λ_=>[.nm 0 0]) (λa=>[wB a]) du.small (λ_=> .nm 1 0) (λa=>[wB a,wB a])
def L6:gi:=fp dp (λ_=>[.nm 0 0]) (λb=>[yB b]) dp.small (λ_=> .nm 1 0) (λb=>[yB b,yB b])
def y0a:List gp:=[{ι:=Unit,dv:=λ_=>[],rows:=λ_=>[],un:=3}]
def L5:gi:=fp gq (λ_=>[.nm 0 0]) (λs=>[zE s]) gq.small (λ_=> .nm 1 0) (λs=>[zE s,zE s])
def yUi (n:Nat):Prop:=
 dq (decide ((↑n:Int)<1)) (∃(a:Unit),False) (dq (decide ((↑n:Int)>4096)) (∃(a:Unit),False) ((0<=(↑n:Int)/\(↑n:Int)<=(↑n:Int)/\(↑n:Int)<=9223372036854775807/\(↑(64:Nat):Int)*(↑n:Int)<=2 ^ (48:Nat))/\∃(a:Unit),dj ((0:Int))/\dj ((↑n:Int))/\aj zR (am n iH)=am (↑n:Int).toNat [D.v (.bool ax),dI 0,dI 0,dI 0,D.v (.bool ax),dI 0,dI 0,dI 0]/\([]:List (List D))=[]/\True))
def y3x (u:Unit):Prop:=
 ∃(i:Nat),(↑i:Int)=250/\(1<=i/\i<=4096)/\∀(o:Unit),True->∃(o:Unit),dj ((0:Int))/\dj ((0:Int))/\ax=ax/\ax=ax/\aa du 3 zF (NQ 250)=aa du 3 zF (NQ i)/\([]:List (List D))=[]/\([]:List (List D))=[]/\iK []=[]/\iE []=[]/\True
def XQ (a:ff) (b:Nat):Prop:=∃(c:Unit),dj ((0:Int))/\dj (sb a.code)/\dj a.tick/\dj a.low/\dj a.high/\dj a.wide/\dj a.dt/\dj a.top/\dj a.least/\dj a.part/\ae 211 dp 6 zQ (am a.count mg) bc=ae 211 dp 6 zQ (am b mg) bc/\dj (yS [])/\dj (ab 1 (iE a.dm))/\dj (ab 1 (iE a.settle))/\a.check=0
def aN (a:ff):Prop:=ab 1 (iE a.settle)=ab 1 (iE a.settle)/\dj (ab 1 (iE a.dm))
def jL (a:ff):=(D.v (bz (sb a.code)))
def WS (a:ff):Prop:=True/\True/\(0+(iE a.dm).length)*(8:Nat)<=(140737488355328:Nat)/\True/\(0+(iE a.settle).length)*(8:Nat)<=(140737488355328:Nat)/\∃(b:ff),sb b.code=sb a.code/\iE b.dm=[]++iE a.dm/\b.tick=a.tick/\b.low=a.low/\b.high=a.high/\b.wide=a.wide/\b.dt=a.dt/\b.top=a.top/\b.least=a.least/\b.part=a.part/\iE b.settle=[]++iE a.settle/\(zW b)/\∀(c:Unit),True->∃(d:Nat),(↑d:Int)=0/\dj (sb a.code)/\dj a.tick/\dj a.low/\dj a.high/\dj a.wide/\dj a.dt/\dj a.top/\dj a.least/\dj a.part/\am d mg=[]/\(bc:Option Nat)=bc/\yS []=[]/\ab 1 (iE a.dm)=ab 1 ([]++iE a.dm)/\ab 1 (iE a.settle)=ab 1 ([]++iE a.settle)/\∃(e:Nat->Prop),∃(f:Nat->Nat),e d/\∀(g:Nat),e g->dq (decide ((↑g:Int)<(↑b.count:Int))) (∃(h:Unit),True/\∀(j:Unit),True->True/\True/\∃(k:List dp),ae 211 dp 6 zQ (am g mg) bc=ae 211 dp 6 zQ k bc/\(k.length+1)*(8:Nat)<=(140737488355328:Nat)/\∃(l:Nat),(↑l:Int)=ar.wrap ((↑g:Int)+1)/\dj (sb a.code)/\dj a.tick/\dj a.low/\dj a.high/\dj a.wide/\dj a.dt/\dj a.top/\dj a.least/\dj a.part/\ae 211 dp 6 zQ (am l mg) bc=ae 211 dp 6 zQ (k++[mg]) bc/\dj (yS [])/\dj (ab 1 (iE a.dm))/\dj (ab 1 (iE a.settle))/\e l/\f l<f g/\dj (ab 1 ([]++iE a.settle))/\dj (ab 1 ([]++iE a.dm))/\dj (ac [V.d (jL a),V.own 5,V.d (dI a.tick),V.d (dI a.low),V.d (dI a.high),V.d (dI a.wide),V.d (dI a.dt),V.d (dI a.top),V.d (dI a.least),V.d (dI a.part),V.own 6] 25)/\aN a) ((XQ a g)\/(∃(h:Unit),False))
def yTv (p:ff):Prop:=
 ∃(a:ff),sb a.code=sb p.code/\iE a.dm=iE p.dm/\a.tick=p.tick/\a.low=p.low/\a.high=p.high/\a.wide=p.wide/\a.dt=p.dt/\a.top=p.top/\a.least=p.least/\a.part=p.part/\iE a.settle=iE p.settle/\(zW a)/\∀(b:Unit),True->dq (a.check !=0) ((∃(c:Unit),False)\/(∃(c:Unit),True/\p.check=a.check/\(p.check=0->False))) ((True/\True/\((0+(iE p.dm).length)*(8:Nat)<=(140737488355328:Nat)/\True/\True/\(0+(iE p.settle).length)*(8:Nat)<=(140737488355328:Nat)/\∃(c:ff),sb c.code=sb p.code/\iE c.dm=[]++iE p.dm/\c.tick=p.tick/\c.low=p.low/\c.high=p.high/\c.wide=p.wide/\c.dt=p.dt/\c.top=p.top/\c.least=p.least/\c.part=p.part/\iE c.settle=[]++iE p.settle/\(zW c)/\∀(d:Unit),True->∃(e:Nat),(↑e:Int)=0/\dj (sb p.code)/\dj p.tick/\dj p.low/\dj p.high/\dj p.wide/\dj p.dt/\dj p.top/\dj p.least/\dj p.part/\am e mg=[]/\(bc:Option Nat)=bc/\yS []=[]/\ab 1 (iE p.dm)=ab 1 ([]++iE p.dm)/\ab 1 (iE p.settle)=ab 1 ([]++iE p.settle)/\∃(f:Nat->Prop),∃(g:Nat->Nat),f e/\∀(h:Nat),f h->dq (decide ((↑h:Int)<(↑c.count:Int))) (∃(j:Unit),True/\∀(k:Unit),True->True/\True/\∃(l:List dp),ae 211 dp 6 zQ (am h mg) bc=ae 211 dp 6 zQ l bc/\(l.length+1)*(8:Nat)<=(140737488355328:Nat)/\∃(m:Nat),(↑m:Int)=ar.wrap ((↑h:Int)+1)/\dj (sb p.code)/\dj p.tick/\dj p.low/\dj p.high/\dj p.wide/\dj p.dt/\dj p.top/\dj p.least/\dj p.part/\ae 211 dp 6 zQ (am m mg) bc=ae 211 dp 6 zQ (l++[mg]) bc/\dj (yS [])/\dj (ab 1 (iE p.dm))/\dj (ab 1 (iE p.settle))/\f m/\g m<g h/\dj (ab 1 ([]++iE p.settle))/\dj (ab 1 ([]++iE p.dm))/\dj (ac [V.d (jL p),V.own 4,V.d (dI p.tick),V.d (dI p.low),V.d (dI p.high),V.d (dI p.wide),V.d (dI p.dt),V.d (dI p.top),V.d (dI p.least),V.d (dI p.part),V.own 6] 25)/\aN p) ((XQ p h)\/(∃(j:Unit),False)))/\WS p)/\True/\True/\WS p)
def yTl (l:List Slot):Prop:=
 ∀(b:Bool),(b=ay->aj zR l=[])->dq b (∃(o:Unit),dj (aj zR l)/\aj zR l=[]/\True) ((0+(aj zR l).length)*(64:Nat)<=(140737488355328:Nat)/\∃(o:Unit),dj (aj zR l)/\aj zR l=[]++aj zR l/\True)
def yJm (l:List bL):Prop:=
 ∀(b:Bool),(b=ay->aj zP l=[])->dq b (∃(o:Unit),dj (aj zP l)/\aj zP l=[]/\True) ((0+(aj zP l).length)*(32:Nat)<=(140737488355328:Nat)/\∃(o:Unit),dj (aj zP l)/\aj zP l=[]++aj zP l/\True)
def ySx (l:List xM):Prop:=
 ∀(b:Bool),(b=ay->aj zB l=[])->dq b (∃(o:Unit),dj (aj zB l)/\aj zB l=[]/\True) ((0+(aj zB l).length)*(16:Nat)<=(140737488355328:Nat)/\∃(o:Unit),dj (aj zB l)/\aj zB l=[]++aj zB l/\True)
def yZd (l:List Int):Prop:=
 ∀(b:Bool),(b=ay->iE l=[])->dq b (∃(o:Unit),iE l=iE l/\iE l=[]/\True) ((0+(iE l).length)*(8:Nat)<=(140737488355328:Nat)/\∃(o:Unit),iE l=iE l/\iE l=[]++iE l/\True)
def yKx (es:List (cd×List D)):Prop:=
 ∃(a:List (cd×List D)),a=es/\True/\∀(b:Unit),True->∃(c:Unit),es=a/\es=a/\True
def yWf (es:List (cd×List D)):yKx es=walk Tryz.prog ([(174,aH 271)]) 0 ([]) ([]) [] Tryz.f176 (Tryz.f176.body.getD .skip) (Aa.pat es) (Aa.pre es) (Aa.alts es):=by kernel_rfl
def yYy (hG:A9 Tryz.prog ([(174,aH 271)])) (h:∀(es:List (cd×List D)),Aa.dq es->yKx es):Aa.ok Tryz.prog 176:=vB mixed ([(174,aH 271)]) hG 0 (λ(es:List (cd×List D))=>[]) (λ(es:List (cd×List D))=>[]) [] Tryz.func176 (by kernel_rfl) (by kernel_rfl) (by kernel_rfl) (λ_=>by kernel_rfl) (λ(es:List (cd×List D)) hc=>Eq.mp (yWf es) (h es hc))
def yIx (es:List (cd×List D)):Prop:=
 ∃(a:List (cd×List D)),a=es/\True/\∀(b:Unit),True->∃(c:Unit),es=a/\es=a/\True
def yXq (es:List (cd×List D)):yIx es=walk Tryz.prog ([(174,aH 100)]) 0 ([]) ([]) [] Tryz.f124 (Tryz.f124.body.getD .skip) (zz.pat es) (zz.pre es) (zz.alts es):=by kernel_rfl
def yWr (hG:A9 Tryz.prog ([(174,aH 100)])) (h:∀(es:List (cd×List D)),zz.dq es->yIx es):zz.ok Tryz.prog 124:=vB mixed ([(174,aH 100)]) hG 0 (λ(es:List (cd×List D))=>[]) (λ(es:List (cd×List D))=>[]) [] Tryz.func124 (by kernel_rfl) (by kernel_rfl) (by kernel_rfl) (λ_=>by kernel_rfl) (λ(es:List (cd×List D)) hc=>Eq.mp (yXq es) (h es hc))
def yWl (a:du):Prop:=
 ∃(i:List Slot),aj zR i=aj zR a.dv/\i.length<=1000000/\∀(o:Unit),True->dj a.free/\True/\∃(iw:List bL),aj zP iw=aj zP a.dz/\iw.length<=1000000/\∀(o:Unit),True->dj a.free/\∃(o:Unit),dj a.free/\aj zR a.dv=aj zR i/\aj zP a.dz=aj zP iw/\dj a.free/\aj zR a.dv=aj zR i/\aj zP a.dz=aj zP iw/\True
def yWc (b:dp):Prop:=
 ∃(i:du),aa du 3 zF i=aa du 3 zF b.a/\(i.dv.length<=1000000/\i.dz.length<=1000000)/\∀(o:Unit),True->True/\True/\∃(iw:List (cd×List D)),iw=iK b.at_/\True/\∀(o:Unit),True->True/\∃(ng:List Int),iE ng=iE b.spare/\ng.length<=1000000/\∀(o:Unit),True->∃(iO:List xM),aj zB iO=aj zB b.fc/\iO.length<=1000000/\∀(o:Unit),True->∃(U5:List xM),aj zB U5=aj zB b.dw/\U5.length<=1000000/\∀(o:Unit),True->∃(o:Unit),dj b.gm/\dj b.gn/\dj b.fv/\dj b.fw/\aa du 3 zF b.a=aa du 3 zF i/\aj zB b.fc=aj zB iO/\aj zB b.dw=aj zB U5/\iK b.at_=iw/\iE b.spare=iE ng/\dj b.gm/\dj b.gn/\dj b.fv/\dj b.fw/\aa du 3 zF b.a=aa du 3 zF i/\aj zB b.fc=aj zB iO/\aj zB b.dw=aj zB U5/\iK b.at_=iw/\iE b.spare=iE ng/\True
def y6e (n:Nat) (h:JP.dq n):yUi n:=by
 obtain⟨h1,h2⟩:1<=n/\n<=4096:=h;unfold yUi dI;refine zH (λc=>by omega) λc=>zH (λc=>by omega) λc=> ?_
 refine⟨⟨oM,oM,oM,?_⟩,?_⟩
 ·have:(2:Int) ^ (48:Nat)=281474976710656:=by decide
  rw[this];omega
 ·refine⟨(),rfl,rfl,?_,rfl,trivial⟩;rw[List.map_replicate];rfl
def yPe:JP.ok Tryz.prog 224:=ib mixed fj 0 (λ_=>[]) (λ_=>[]) [] Tryz.func224 y6e
def yQv:Ru.ok Tryz.prog 209:=ib (V:=y3x) mixed (dx yPe fj) 0 (λ_=>[]) (λ_=>[]) [] Tryz.func209 λ(u:Unit) _=>by
 refine⟨250,rfl,⟨oM,oM⟩,?_⟩;exact kp
def y6g (p:ff) (h:JN.dq p):yTv p:=by
 unfold yTv WS jL aN XQ zW dI;have hs:p.small:=h;obtain⟨h1,h2,h3⟩:p.small:=h;refine⟨p,?_⟩;simp only[y4]
 (repeat'(first|exact rfl|exact trivial|assumption|apply be|refineλ(_:Unit) (_:True)=>?_|refine az () ?_|omega|(dsimp only;omega)))
 refine Cv.dq.mk (λc=> .inr ⟨(),trivial,kp,by simpa using c⟩) λc=> ?_
 have c:p.check=0:=by simpa using c
 have hc:=xS p
 (repeat'(first|exact rfl|exact trivial|assumption|apply be|refineλ(_:Unit) (_:True)=>?_|refine az () ?_|omega|(dsimp only;omega)))
 all_goals(refine⟨p,?_⟩;(repeat'(first|exact rfl|exact trivial|assumption|apply be|refineλ(_:Unit) (_:True)=>?_|refine az () ?_|omega|(dsimp only;omega))))
 all_goals(refine⟨0,?_⟩;(repeat'(first|exact rfl|exact trivial|assumption|apply be|refineλ(_:Unit) (_:True)=>?_|refine az () ?_|omega|(dsimp only;omega))))
 all_goals(refine⟨λj=>j<=p.count,λj=>p.count-j,oM,λj hj=>zH (λgv=> ?_) (λgv=> ?_)⟩;all_goals dsimp only at hj gv)
 all_goals first
  |(refine .inl ⟨(),?_⟩
    obtain rfl:j=p.count:=by omega
    (repeat'(first|exact rfl|exact trivial|assumption|apply be|refineλ(_:Unit) (_:True)=>?_|refine az () ?_|omega|(dsimp only;omega))))
  |(refine⟨(),trivial,λ_ _=>⟨trivial,trivial,am j mg,rfl,?_,j+1,?_⟩⟩
    ·rw[GH];omega
    ·rw[iA (by omega),<- List.replicate_succ']
     (repeat'(first|exact rfl|exact trivial|assumption|apply be|refineλ(_:Unit) (_:True)=>?_|refine az () ?_|omega|(dsimp only;omega))))
def ySb:JN.ok Tryz.prog 178:=ib mixed (dx On (dx aQ (dx yQv fj))) 0 (λ_=>[]) (λp=>y2n p) [] Tryz.func178 y6g
def yEe:Iz.ok Tryz.prog 207:=ib (V:=yTl) mixed fj 0 (λ_=>[]) (λ_=>[]) [] Tryz.func207 λ(l:List Slot) h=>by
 have h:l.length<=1000000:=h;exactλb hb=>Cv.dq.mk (λe=>⟨(),rfl,hb e,trivial⟩) (λ_=>⟨by rw[oa,im];omega,(),rfl,rfl,trivial⟩)
def z7q:Gl.ok Tryz.prog 208:=ib (V:=yJm) mixed fj 0 (λ_=>[]) (λ_=>[]) [] Tryz.func208 λ(l:List bL) h=>by
 have h:l.length<=1000000:=h;exactλb hb=>Cv.dq.mk (λe=>⟨(),rfl,hb e,trivial⟩) (λ_=>⟨by rw[oa,im];omega,(),rfl,rfl,trivial⟩)
def yDc:IA.ok Tryz.prog 177:=ib (V:=ySx) mixed fj 0 (λ_=>[]) (λ_=>[]) [] Tryz.func177 λ(l:List xM) h=>by
 have h:l.length<=1000000:=h;exactλb hb=>Cv.dq.mk (λe=>⟨(),rfl,hb e,trivial⟩) (λ_=>⟨by rw[oa,im];omega,(),rfl,rfl,trivial⟩)
def yLv:L8.ok Tryz.prog 45:=ib (V:=yZd) mixed fj 0 (λ_=>[]) (λ_=>[]) [] Tryz.func45 λ(l:List Int) h=>by
 have h:l.length<=1000000:=h;exactλb hb=>Cv.dq.mk (λe=>⟨(),rfl,hb e,trivial⟩) (λ_=>⟨by rw[oa,y4];omega,(),rfl,rfl,trivial⟩)
def zUl (t:Nat):(aH t).ok Tryz.prog 174:=z4v Tryz.func174 (by kernel_rfl) (by kernel_rfl) (by kernel_rfl) (by kernel_rfl) t
def yRe:Aa.ok Tryz.prog 176:=yYy (dx (zUl _) fj) λes _=>by
 unfold yKx;refine⟨es,?_⟩;exact kp
def ySk:zz.ok Tryz.prog 124:=yWr (dx (zUl _) fj) λes _=>by
 unfold yIx;refine⟨es,?_⟩;exact kp
def yJf:L7.ok Tryz.prog 175:=ib (V:=yWl) mixed (dx yEe (dx z7q fj)) 0 (λ_=>[]) (λ_=>[]) [0] Tryz.func175 λ(a:du) h=>by
 obtain⟨h1,h2⟩:a.small:=h;refine⟨a.dv,?_⟩;(repeat'(first|exact rfl|exact trivial|assumption|apply be|refineλ(_:Unit) (_:True)=>?_|refine az () ?_|omega|(dsimp only;omega)));refine⟨a.dz,?_⟩;exact kp
def yIm:L6.ok Tryz.prog 126:=ib (V:=yWc) mixed (dx yJf (dx yRe (dx yLv (dx yDc fj)))) 0 (λ_=>[]) (λ_=>y0a) [0] Tryz.func126 λ(b:dp) h=>by
 obtain⟨⟨h1,A4⟩,h2,h3,h4⟩:b.small:=h;refine⟨b.a,?_⟩;(repeat'(first|exact rfl|exact trivial|assumption|apply be|refineλ(_:Unit) (_:True)=>?_|refine az () ?_|omega|(dsimp only;omega)));refine⟨iK b.at_,?_⟩;(repeat'(first|exact rfl|exact trivial|assumption|apply be|refineλ(_:Unit) (_:True)=>?_|refine az () ?_|omega|(dsimp only;omega)));refine⟨b.spare,?_⟩;(repeat'(first|exact rfl|exact trivial|assumption|apply be|refineλ(_:Unit) (_:True)=>?_|refine az () ?_|omega|(dsimp only;omega)));refine⟨b.fc,?_⟩;(repeat'(first|exact rfl|exact trivial|assumption|apply be|refineλ(_:Unit) (_:True)=>?_|refine az () ?_|omega|(dsimp only;omega)));refine⟨b.dw,?_⟩;exact kp
structure vy where
 a:du
 n:Int
def du.qc (a:du) (n:Int):bL:=if 0<=n/\n<a.dz.length then a.dz.getD n.toNat ⟨0,0,0,0⟩else⟨0,0,0,0⟩
def ID:gi:=fp vy (λi=>[.nm 0 0,zA i.n]) (λi=>[wB i.a]) (λi=>True) (λi=>zA (i.a.qc i.n).total) (λi=>[wB i.a])
def IE:gi:=fp vy (λi=>[.nm 0 0,zA i.n]) (λi=>[wB i.a]) (λi=>True) (λi=>zA (i.a.qc i.n).count) (λi=>[wB i.a])
def aa7:gi:=fp Int (λn=>[zA n]) (λ_=>[]) (λ_=>True) (λn=>yN (decide (n=1)||decide (n=2))) (λ_=>[])
structure P4 where
 b:dp
 r:xM
def dp.told (b:dp) (r:xM):Lv:=⟨r.dk,(b.a.qc r.queue).total,(b.a.qc r.queue).count⟩
@[reducible] def dp.ou (b:dp):Prop:=∀q∈b.a.dz,gx q.count
def Rl:gi:=fp P4 (λi=>[.nm 0 0,.agg [zA i.r.dk,zA i.r.queue]]) (λi=>[yB i.b]) (λi=>i.b.ou) (λi=>UY (i.b.told i.r)) (λi=>[yB i.b])
def dp.iy (b:dp) (l:List xM):Lv×Bool:=match l with
 |[]=>(⟨0,0,0⟩,ax)
 |r::_=>(b.told r,ay)
structure Ba where
 side:Bool
 b:dp
def dp.side (b:dp) (s:Bool):List xM:=if s then b.dw else b.fc
@[reducible] def Zw (b:dp) (l:List xM):V:= .ja [UY (b.iy l).1,yN (b.iy l).2]
def Ma:gi:=fp dp (λ_=>[.nm 0 0,zA 1]) (λb=>[yB b]) dp.ou (λb=>Zw b b.fc) (λb=>[yB b])
def L9:gi:=fp dp (λ_=>[.nm 0 0,zA 2]) (λb=>[yB b]) dp.ou (λb=>Zw b b.dw) (λb=>[yB b])
def zC (s:Bool):Int:=if s then 2 else 1
def Sc:gi:=fp Ba (λi=>[.nm 0 0,zA (zC i.side)]) (λi=>[yB i.b]) (λi=>i.b.ou) (λi=>Zw i.b (i.b.side i.side)) (λi=>[yB i.b])
structure jy where
 fv:Bool
 fw:Bool
 p1:Int
 p2:Int
 q1:Int
 q2:Int
 deriving DecidableEq
def z7 (t:jy):List D:=[.v (.bool t.fv),.v (.bool t.fw),.v (.int .i64 t.p1),.v (.int .i64 t.p2),.v (.int .i64 t.q1),.v (.int .i64 t.q2)]
def kq:jy:=⟨ax,ax,0,0,0,0⟩
def jy.Fc (t:jy) (x:Lv×Bool):jy:=if x.2 then{t with fv:=ay,p1:=x.1.dk,q1:=x.1.dr}else t
def jy.At (t:jy) (x:Lv×Bool):jy:=if x.2 then{t with fw:=ay,p2:=x.1.dk,q2:=x.1.dr}else t
def dp.top (b:dp):jy:=(kq.Fc (b.iy b.fc)).At (b.iy b.dw)
def gq.fg (s:gq):List jy:=s.ej.map dp.top
@[reducible] def gq.ou (s:gq):Prop:=s.ej.length<=1000000/\∀b∈s.ej,b.ou
def JC:gi:=fp gq (λ_=>[.nm 0 0]) (λs=>[zE s]) gq.ou (λs=> .own 1) (λs=>[zE s,.own 122 6 (s.fg.map z7)])
def xZ (s:gq) (j:Nat) (x:jy):List jy:=(s.fg.take j)++x::am (s.ej.length-j-1) kq
def qC (s:gq) (j:Nat):List jy:=(s.fg.take j)++am (s.ej.length-j) kq
def yUo (s:gq):List gp:=[
 {ι:=Nat,dv:=λj=>[(3,.own 0),(21,zA j)],rows:=λj=>[.own 122 6 ((qC s j).map z7)]},
 {ι:=Unit,dv:=λ_=>[],rows:=λ_=>[],un:=3}]
def yVd (s:gq):List (Nat×gp):=[(15,{ι:=Nat×jy,dv:=λx=>[(3,.own 0)],oI:=λx=>[(3,.own 0)],lp:=λx=>[.own 122 6 ((xZ s x.1 x.2).map z7)],rows:=λx=>[.own 122 6 ((xZ s x.1 x.2).map z7)]})]
def yXn (s:gq):List gp:=[{ι:=Nat,dv:=λj=>[(3,.nm 0 0),(22,zA j)],rows:=λj=>(ao 5).map (xV ⟨s.p,s.ej.take j,s.wh⟩)}]
def jR (a:vy):Prop:=a.a.free=a.a.free/\dj (aj zR a.a.dv)/\dj (aj zP a.a.dz)/\True
def Zn (a:vy):Prop:=∃(b:Unit),(a.a.qc a.n).total=0/\jR a
def fM (a:vy):=(↑(aj zP a.a.dz).length:Int)
def yBh (i:vy):Prop:=
 dq (decide (i.n>=0)) (dq (!decide (i.n<(fM i))) (Zn i) ((0<=i.n/\i.n<(fM i))/\∃(a:Int),zD (aj zP i.a.dz) i.n.toNat 2 1=ba [dI a]/\∃(b:Unit),(i.a.qc i.n).total=a/\jR i)) (Zn i)
def l5 (a:vy):Prop:=∃(b:Unit),(a.a.qc a.n).count=0/\jR a
def yAr (i:vy):Prop:=
 dq (decide (i.n>=0)) (dq (!decide (i.n<(fM i))) (l5 i) ((0<=i.n/\i.n<(fM i))/\∃(a:Int),zD (aj zP i.a.dz) i.n.toNat 3 1=ba [dI a]/\∃(b:Unit),(i.a.qc i.n).count=a/\jR i)) (l5 i)
def y4u (n:Int):Prop:=
 dq (n==1) (∃(a:Unit),(decide (n=1)||decide (n=2))=ay/\True) (∃(a:Unit),(decide (n=1)||decide (n=2))=(n==2)/\True)
def y2k (i:P4):Prop:=
 ∃(iw:vy),iw.n=i.r.queue/\aa du 3 zF iw.a=aa du 3 zF i.b.a/\True/\∀(o:Unit),True->dj i.r.queue/\True/\dj i.r.dk/\∃(ng:vy),ng.n=i.r.queue/\aa du 3 zF ng.a=aa du 3 zF iw.a/\True/\∀(o:Unit),True->dj i.r.dk/\∃(o:Unit),dj i.r.dk/\(i.b.a.qc i.r.queue).total=(iw.a.qc iw.n).total/\(i.b.a.qc i.r.queue).count=(ng.a.qc ng.n).count/\dj i.b.gm/\dj i.b.gn/\dj i.b.fv/\dj i.b.fw/\aa du 3 zF i.b.a=aa du 3 zF ng.a/\dj (aj zB i.b.fc)/\dj (aj zB i.b.dw)/\dj (iK i.b.at_)/\dj (iE i.b.spare)/\True
def y1z (b:dp):Prop:=
 ∃(i:Int),i=1/\True/\∀(o:Unit),True->dq (!(decide (i=1)||decide (i=2))) (∃(o:Unit),(b.iy b.fc).fst.dk=0/\(b.iy b.fc).fst.dr=0/\(b.iy b.fc).fst.count=0/\(b.iy b.fc).snd=ax/\dj b.gm/\dj b.gn/\dj b.fv/\dj b.fw/\dj (aa du 3 zF b.a)/\dj (aj zB b.fc)/\dj (aj zB b.dw)/\dj (iK b.at_)/\dj (iE b.spare)/\True) (dq ((↑(aj zB b.fc).length:Int)==0) (∃(o:Unit),(b.iy b.fc).fst.dk=0/\(b.iy b.fc).fst.dr=0/\(b.iy b.fc).fst.count=0/\(b.iy b.fc).snd=ax/\dj b.gm/\dj b.gn/\dj b.fv/\dj b.fw/\dj (aa du 3 zF b.a)/\dj (aj zB b.fc)/\dj (aj zB b.dw)/\dj (iK b.at_)/\dj (iE b.spare)/\True) (((0:Int)<=(0:Int)/\0<(↑(aj zB b.fc).length:Int))/\∃(n:Int),∃(HC:Int),zD (aj zB b.fc) (bo 0) 0 2=ba [D.v (.int .i64 n),D.v (.int .i64 HC)]/\∃(i:P4),i.r.dk=n/\i.r.queue=HC/\i.b.gm=b.gm/\i.b.gn=b.gn/\i.b.fv=b.fv/\i.b.fw=b.fw/\aa du 3 zF i.b.a=aa du 3 zF b.a/\aj zB i.b.fc=aj zB b.fc/\aj zB i.b.dw=aj zB b.dw/\iK i.b.at_=iK b.at_/\iE i.b.spare=iE b.spare/\(∀(q:bL),q∈i.b.a.dz->(-9223372036854775808)<=q.count/\q.count<=9223372036854775807)/\∀(o:Unit),True->∃(o:Unit),(b.iy b.fc).fst.dk=i.r.dk/\(b.iy b.fc).fst.dr=(i.b.a.qc i.r.queue).total/\(b.iy b.fc).fst.count=(i.b.a.qc i.r.queue).count/\(b.iy b.fc).snd=ay/\yB b=yB i.b/\True))
def yWn (b:dp):Prop:=
 ∃(i:Int),i=2/\True/\∀(o:Unit),True->dq (!(decide (i=1)||decide (i=2))) (∃(o:Unit),(b.iy b.dw).fst.dk=0/\(b.iy b.dw).fst.dr=0/\(b.iy b.dw).fst.count=0/\(b.iy b.dw).snd=ax/\dj b.gm/\dj b.gn/\dj b.fv/\dj b.fw/\dj (aa du 3 zF b.a)/\dj (aj zB b.fc)/\dj (aj zB b.dw)/\dj (iK b.at_)/\dj (iE b.spare)/\True) (dq ((↑(aj zB b.dw).length:Int)==0) (∃(o:Unit),(b.iy b.dw).fst.dk=0/\(b.iy b.dw).fst.dr=0/\(b.iy b.dw).fst.count=0/\(b.iy b.dw).snd=ax/\dj b.gm/\dj b.gn/\dj b.fv/\dj b.fw/\dj (aa du 3 zF b.a)/\dj (aj zB b.fc)/\dj (aj zB b.dw)/\dj (iK b.at_)/\dj (iE b.spare)/\True) (((0:Int)<=(0:Int)/\0<(↑(aj zB b.dw).length:Int))/\∃(n:Int),∃(HC:Int),zD (aj zB b.dw) (bo 0) 0 2=ba [D.v (.int .i64 n),D.v (.int .i64 HC)]/\∃(i:P4),i.r.dk=n/\i.r.queue=HC/\i.b.gm=b.gm/\i.b.gn=b.gn/\i.b.fv=b.fv/\i.b.fw=b.fw/\aa du 3 zF i.b.a=aa du 3 zF b.a/\aj zB i.b.fc=aj zB b.fc/\aj zB i.b.dw=aj zB b.dw/\iK i.b.at_=iK b.at_/\iE i.b.spare=iE b.spare/\(∀(q:bL),q∈i.b.a.dz->(-9223372036854775808)<=q.count/\q.count<=9223372036854775807)/\∀(o:Unit),True->∃(o:Unit),(b.iy b.dw).fst.dk=i.r.dk/\(b.iy b.dw).fst.dr=(i.b.a.qc i.r.queue).total/\(b.iy b.dw).fst.count=(i.b.a.qc i.r.queue).count/\(b.iy b.dw).snd=ay/\yB b=yB i.b/\True))
def X8 (a:gq):Prop:=af (yS a.wh)=af (yS a.wh)/\dj (ab 1 (iE a.p.dm))/\dj (ab 1 (iE a.p.settle))
def fG (a:gq):=(D.v (bz (sb a.p.code)))
def Tt (a:Nat×jy->Prop) (b:Nat×jy) (c:gq) (d:Nat) (e:dp):Prop:=a b/\dj (ag 3 1 [[dI 1],[dI 2]])/\dj (ac [V.d (fG c),V.own 3,V.d (dI c.p.tick),V.d (dI c.p.low),V.d (dI c.p.high),V.d (dI c.p.wide),V.d (dI c.p.dt),V.d (dI c.p.top),V.d (dI c.p.least),V.d (dI c.p.part),V.own 4,V.own 1,V.mp 2] (210:ce))/\ae 211 dp 6 zQ (c.ej.set (↑d:Int).toNat e) bc=ae 211 dp 6 zQ c.ej bc/\X8 c
def WG (a:gq) (b:Nat×jy) (c:Nat×jy->Prop) (d:Nat) (e:dp):Prop:=∃(f:Nat×jy),aj z7 (xZ a f.fst f.snd)=aj z7 (xZ a b.fst b.snd)/\Tt c f a d e
def u0 (a:gq) (b:Nat×jy):=(aj z7 (xZ a b.fst b.snd))
def aU (a:gq) (b:Nat×jy) (c:Nat):=(zV (u0 a b) (↑c:Int).toNat 1 [D.v (.bool ay)])
def zY (a:Ba):=(a.b.iy (a.b.side a.side))
def dX (a:Ba):=((zY a).fst.dk)
def cP (a:gq) (b:Nat×jy) (c:Nat) (d:Ba):=(zV (aU a b c) (↑c:Int).toNat 3 [dI (dX d)])
def TY (a:Nat) (b:gq) (c:Nat×jy) (d:Ba):Prop:=(0<=(↑a:Int)/\(↑a:Int)<(↑(cP b c a d).length:Int))/\dj ((↑a:Int).toNat)
def aP (a:gq) (b:Nat×jy) (c:Nat):=(zV (u0 a b) (↑c:Int).toNat 0 [D.v (.bool ay)])
def dV (a:gq) (b:Nat×jy) (c:Nat) (d:Ba):=(zV (aP a b c) (↑c:Int).toNat 2 [dI (dX d)])
def TZ (a:Nat) (b:gq) (c:Nat×jy) (d:Ba):Prop:=(0<=(↑a:Int)/\(↑a:Int)<(↑(dV b c a d).length:Int))/\dj ((↑a:Int).toNat)
def TB (a:gq):Prop:=0<=(↑a.ej.length:Int)/\(↑a.ej.length:Int)<=(↑a.ej.length:Int)/\(↑a.ej.length:Int)<=9223372036854775807/\(↑(40:Nat):Int)*(↑a.ej.length:Int)<=2 ^ (48:Nat)
def aI (a:Nat) (b:gq) (c:Nat×jy):Prop:=(0<=(↑a:Int)/\(↑a:Int)<(↑(aU b c a).length:Int))/\dj ((↑a:Int).toNat)
def aO (a:Nat) (b:gq) (c:Nat×jy):Prop:=(0<=(↑a:Int)/\(↑a:Int)<(↑(aP b c a).length:Int))/\dj ((↑a:Int).toNat)
def fV:Prop:=0<=ar.wrap ((0:Int)+(1:Int))/\ar.wrap ((0:Int)+(1:Int))<(↑(2:Nat):Int)
def vM (a:Ba):Prop:=∀(b:bL),b∈a.b.a.dz->(-9223372036854775808)<=b.count/\b.count<=9223372036854775807
def qV (a:Nat) (b:gq) (c:Nat×jy):Prop:=0<=(↑a:Int)/\(↑a:Int)<(↑(u0 b c).length:Int)
def uT (a:Ba):=((zY a).fst.dr)
def yVc (s:gq):Prop:=
 (TB s)/\∃(a:Nat),(↑a:Int)=0/\aj z7 (qC s a)=am (↑s.ej.length:Int).toNat [D.v (.bool ax),D.v (.bool ax),dI 0,dI 0,dI 0,dI 0]/\∃(b:Nat->Prop),∃(c:Nat->Nat),b a/\∀(d:Nat),b d->dq (decide ((↑d:Int)<(↑s.ej.length:Int))) ((0<=(↑d:Int)/\(↑d:Int)<(↑s.ej.length:Int))/\(↑d:Int).toNat<s.ej.length/\∃(e:Nat×jy),aj z7 (xZ s e.fst e.snd)=aj z7 (qC s d)/\∃(f:Nat×jy->Prop),(((0:Int)<=(0:Int)/\0<(↑(2:Nat):Int))/\∃(g:Int),zD [[dI 1],[dI 2]] (bo 0) 0 1=ba [dI g]/\∃(h:dp),s.ej[(↑d:Int).toNat]?=ba h/\∃(j:Ba),zC j.side=g/\yB j.b=yB h/\(vM j)/\∀(k:Unit),True->∃(l:dp),yB j.b=yB l/\dj ((↑d:Int).toNat)/\(↑d:Int).toNat<s.ej.length/\dq (zY j).snd ((qV d s e)/\(qV d s e)/\(qV d s e)/\(↑d:Int).toNat<(u0 s e).length/\(aO d s e)/\(aO d s e)/\dj ((zY j).fst.dr)/\dj ((zY j).fst.dk)/\(↑d:Int).toNat<(aP s e d).length/\(TZ d s e j)/\dj ((zY j).fst.dr)/\(↑d:Int).toNat<(dV s e d j).length/\∃(m:Nat×jy),aj z7 (xZ s m.fst m.snd)=zV (dV s e d j) (↑d:Int).toNat 4 [dI (uT j)]/\Tt f m s d l) (WG s e f d l))/\∀(g:Nat×jy),f g->∃(h:Nat×jy),aj z7 (xZ s h.fst h.snd)=aj z7 (xZ s g.fst g.snd)/\∃(j:Nat×jy->Prop),((fV)/\∃(k:Int),zD [[dI 1],[dI 2]] (ar.wrap ((0:Int)+(1:Int))).toNat 0 1=ba [dI k]/\∃(l:dp),s.ej[(↑d:Int).toNat]?=ba l/\∃(m:Ba),zC m.side=k/\yB m.b=yB l/\(vM m)/\∀(n:Unit),True->∃(p:dp),yB m.b=yB p/\dj ((↑d:Int).toNat)/\(↑d:Int).toNat<s.ej.length/\dq (zY m).snd ((qV d s h)/\(qV d s h)/\(qV d s h)/\(↑d:Int).toNat<(u0 s h).length/\(aI d s h)/\(aI d s h)/\dj ((zY m).fst.dr)/\dj ((zY m).fst.dk)/\(↑d:Int).toNat<(aU s h d).length/\(TY d s h m)/\dj ((zY m).fst.dr)/\(↑d:Int).toNat<(cP s h d m).length/\∃(q:Nat×jy),aj z7 (xZ s q.fst q.snd)=zV (cP s h d m) (↑d:Int).toNat 5 [dI (uT m)]/\Tt j q s d p) (WG s h j d p))/\∀(k:Nat×jy),j k->∃(l:Nat),(↑l:Int)=ar.wrap ((↑d:Int)+1)/\aj z7 (qC s l)=aj z7 (xZ s k.fst k.snd)/\b l/\c l<c d/\dj (ac [V.d (fG s),V.own 3,V.d (dI s.p.tick),V.d (dI s.p.low),V.d (dI s.p.high),V.d (dI s.p.wide),V.d (dI s.p.dt),V.d (dI s.p.top),V.d (dI s.p.least),V.d (dI s.p.part),V.own 4,V.own 1,V.mp 2] (210:ce))/\dj (ae 211 dp 6 zQ s.ej bc)/\X8 s) (∃(e:Unit),dj (sb s.p.code)/\dj s.p.tick/\dj s.p.low/\dj s.p.high/\dj s.p.wide/\dj s.p.dt/\dj s.p.top/\dj s.p.least/\dj s.p.part/\dj (ae 211 dp 6 zQ s.ej bc)/\dj (yS s.wh)/\dj (ab 1 (iE s.p.dm))/\dj (ab 1 (iE s.p.settle))/\aj z7 s.fg=aj z7 (qC s d)/\True)
def y0w (s:gq):Prop:=
 ∃(i:List (cd×List D)),i=yS s.wh/\True/\∀(o:Unit),True->(dj (sb s.p.code)/\True/\dj s.p.tick/\dj s.p.low/\dj s.p.high/\dj s.p.wide/\dj s.p.dt/\dj s.p.top/\dj s.p.least/\dj s.p.part/\True/\True)/\∃(i0:Nat),(↑i0:Int)=0/\dj (sb s.p.code)/\dj s.p.tick/\dj s.p.low/\dj s.p.high/\dj s.p.wide/\dj s.p.dt/\dj s.p.top/\dj s.p.least/\dj s.p.part/\ak i0 s.ej=[]/\(bc:Option Nat)=bc/\yS s.wh=i/\dj (ab 1 (iE s.p.dm))/\dj (ab 1 (iE s.p.settle))/\∃(I:Nat->Prop),∃(μ:Nat->Nat),I i0/\∀(iw:Nat),I iw->dq (decide ((↑iw:Int)<(↑s.ej.length:Int))) ((0<=(↑iw:Int)/\(↑iw:Int)<(↑s.ej.length:Int))/\(↑iw:Int).toNat<s.ej.length/\∃(x:dp),s.ej[(↑iw:Int).toNat]?=ba x/\∃(ng:dp),yB ng=yB x/\((ng.a.dv.length<=1000000/\ng.a.dz.length<=1000000)/\ng.fc.length<=1000000/\ng.dw.length<=1000000/\ng.spare.length<=1000000)/\∀(o:Unit),True->∃(x:dp),yB ng=yB x/\dj ((↑iw:Int).toNat)/\(↑iw:Int).toNat<s.ej.length/\True/\True/\∃(yw:List dp),ae 211 dp 6 zQ (ak iw s.ej) bc=ae 211 dp 6 zQ yw bc/\(yw.length+1)*(8:Nat)<=(140737488355328:Nat)/\∃(i':Nat),(↑i':Int)=ar.wrap ((↑iw:Int)+1)/\dj (sb s.p.code)/\dj s.p.tick/\dj s.p.low/\dj s.p.high/\dj s.p.wide/\dj s.p.dt/\dj s.p.top/\dj s.p.least/\dj s.p.part/\ae 211 dp 6 zQ (ak i' s.ej) bc=ae 211 dp 6 zQ (yw++[ng]) bc/\dj (yS s.wh)/\dj (ab 1 (iE s.p.dm))/\dj (ab 1 (iE s.p.settle))/\I i'/\μ i'<μ iw/\af i=af i/\dj (ac [V.d (D.v (bz (sb s.p.code))),V.own 3,V.d (D.v (.int .i64 s.p.tick)),V.d (D.v (.int .i64 s.p.low)),V.d (D.v (.int .i64 s.p.high)),V.d (D.v (.int .i64 s.p.wide)),V.d (D.v (.int .i64 s.p.dt)),V.d (D.v (.int .i64 s.p.top)),V.d (D.v (.int .i64 s.p.least)),V.d (D.v (.int .i64 s.p.part)),V.own 4,V.own 1,V.mp 2] (210:ce))/\ae 211 dp 6 zQ (s.ej.set (↑iw:Int).toNat x) bc=ae 211 dp 6 zQ s.ej bc/\dj (ab 1 (iE s.p.dm))/\dj (ab 1 (iE s.p.settle))) (∃(o:Unit),dj (sb s.p.code)/\dj s.p.tick/\dj s.p.low/\dj s.p.high/\dj s.p.wide/\dj s.p.dt/\dj s.p.top/\dj s.p.least/\dj s.p.part/\dj (ae 211 dp 6 zQ s.ej bc)/\yS s.wh=i/\dj (ab 1 (iE s.p.dm))/\dj (ab 1 (iE s.p.settle))/\dj (sb s.p.code)/\dj s.p.tick/\dj s.p.low/\dj s.p.high/\dj s.p.wide/\dj s.p.dt/\dj s.p.top/\dj s.p.least/\dj s.p.part/\ae 211 dp 6 zQ s.ej bc=ae 211 dp 6 zQ (ak iw s.ej) bc/\dj (yS s.wh)/\dj (ab 1 (iE s.p.dm))/\dj (ab 1 (iE s.p.settle))/\True)
end Sx
