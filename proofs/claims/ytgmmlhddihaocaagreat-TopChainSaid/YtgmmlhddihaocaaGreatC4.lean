/- Texts of ours. No condition. -/
import Derived.Test.YtgmmlhddihaocaaGreatRows
import Derived.Test.YtgmmlhddihaocaaGreatC3
set_option linter.all false
open Sx.ff renaming qq->aa,ja->ab,cells->ac,jt->ae,map->af,own->ag
open List renaming map->aj,take->ak,replicate->am,range->ao,drop->ap,length->aq
open Go.IntKind renaming i64->ar,u64->au,u32->av,u8->aw
open Bool renaming false->ax,true->ay
open Exists renaming intro->az
open Option renaming some->ba,none->bc
open And renaming intro->be
open Go.Utf8 renaming decode->bg
open Int renaming toNat->bo,pow_succ->bu,mul_add->bv
open Go.Value renaming string->bz
open Go renaming Value->cd,TypeId->ce
open BitVec renaming ofInt->cf
namespace Sx
open Go Cv Go.Proofs
def kp {P:Prop} (h:P:=by(repeat'(first|exact rfl|exact trivial|assumption|apply And.intro|refineλ(_:Unit) (_:True)=>?_|refine Exists.intro () ?_|omega|(dsimp only;omega)))):P:=h
def oM {P:Prop} (h:P:=by omega):P:=h
def Z9 {P:Prop} (h:P:=by (dsimp only;omega)):P:=h
def Z8 {P:Prop} (h:P:=by decide):P:=h
def iM {α0:Sort _} {a0:α0} {α1:Sort _} {a1:α1} {α2:Sort _} {a2:α2} {P:Prop} (h:P):a0=a0/\a1=a1/\a2=a2/\P:=⟨rfl,rfl,rfl,h⟩
def nr {α0:Sort _} {a0:α0} {α1:Sort _} {a1:α1} {α2:Sort _} {a2:α2} {α3:Sort _} {a3:α3} {P:Prop} (h:P):a0=a0/\a1=a1/\a2=a2/\a3=a3/\P:=⟨rfl,rfl,rfl,rfl,h⟩
def Aa {α0:Sort _} {a0:α0} {α1:Sort _} {a1:α1} {α2:Sort _} {a2:α2} {α3:Sort _} {a3:α3} {α4:Sort _} {a4:α4} {P:Prop} (h:P):a0=a0/\a1=a1/\a2=a2/\a3=a3/\a4=a4/\P:=⟨rfl,rfl,rfl,rfl,rfl,h⟩
def ma {α0:Sort _} {a0:α0} {α1:Sort _} {a1:α1} {α2:Sort _} {a2:α2} {α3:Sort _} {a3:α3} {α4:Sort _} {a4:α4} {α5:Sort _} {a5:α5} {P:Prop} (h:P):a0=a0/\a1=a1/\a2=a2/\a3=a3/\a4=a4/\a5=a5/\P:=⟨rfl,rfl,rfl,rfl,rfl,rfl,h⟩
def oA {α0:Sort _} {a0:α0} {α1:Sort _} {a1:α1} {α2:Sort _} {a2:α2} {α3:Sort _} {a3:α3} {α4:Sort _} {a4:α4} {α5:Sort _} {a5:α5} {α6:Sort _} {a6:α6} {P:Prop} (h:P):a0=a0/\a1=a1/\a2=a2/\a3=a3/\a4=a4/\a5=a5/\a6=a6/\P:=⟨rfl,rfl,rfl,rfl,rfl,rfl,rfl,h⟩
def gm {α0:Sort _} {a0:α0} {α1:Sort _} {a1:α1} {α2:Sort _} {a2:α2} {α3:Sort _} {a3:α3} {α4:Sort _} {a4:α4} {α5:Sort _} {a5:α5} {α6:Sort _} {a6:α6} {α7:Sort _} {a7:α7} {P:Prop} (h:P):a0=a0/\a1=a1/\a2=a2/\a3=a3/\a4=a4/\a5=a5/\a6=a6/\a7=a7/\P:=⟨rfl,rfl,rfl,rfl,rfl,rfl,rfl,rfl,h⟩
def gn {P:Prop} (h:P:=by(repeat'(first|exact trivial|exact rfl|apply And.intro))):P:=h
def mixed:Tryz.prog.follows .mixedOrders=ay:=by kernel_rfl
def gw {P:Program} {f:FuncId} {fn:Func} {C:fy} {G:List (Nat×fy)} {V:C.ι->Prop} (hm:P.follows .mixedOrders=ay) (hG:A0 P G) (d:Nat) (J:C.ι->List (Nat×gj)) (an:C.ι->List gj) (op:List Nat) (hf:P.funcs[f]? =ba fn) (h:∀i,C.dp i->V i) (hb:fn.body=ba (fn.body.getD .skip):=by kernel_rfl) (BF:uP P f=ay:=by kernel_rfl) (oK:wm fn.ntmps (fn.body.getD .skip)=ay:=by kernel_rfl) (oT:∀i,Nat.ble (C.pat i).length fn.ntmps=ay:=by intro _;kernel_rfl) (e:∀i,V i=walk P G d (J i) (an i) op fn (fn.body.getD .skip) (C.pat i) (C.pre i) (C.alts i):=by intro _;kernel_rfl):C.ok P f:=vC hm G hG d J an op hf hb BF oK oT λi hc=>Eq.mp (e i) (h i hc)
structure Lv where
 dj:Int
 dq:Int
 count:Int
def kg (l:Lv):List D:=[.v (.int .i64 l.dj),.v (.int .i64 l.dq),.v (.int .i64 l.count)]
def Ul (l:Lv):V:= .agg [zA l.dj,zA l.dq,zA l.count]
def iZ (l:List UInt8):Nat->ff
 |0=> .cells [.own 1] 222
 |1=> .own 5 1 (bE l)
 |_=> .gone
def Wr (l:List UInt8):ff:= .qq (List UInt8) 2 iZ l
structure IH where
 l:List UInt8
 n:Int
 k:Nat
def PS:fy where
 ι:=IH
 pat:=λi=>[.nm 0 0,.d (.v (.int .u64 i.n)),.d (.v (.int .i64 i.k))]
 pre:=λi=>[Wr i.l]
 dp:=λi=>0<=i.n/\i.n<18446744073709551616/\i.l.length+i.k<=1099511627776
 alts:=λi=>[{o:=Unit,res:=λ_=> .iW [],post:=λ_=>[Wr (i.l++le i.n i.k)],rel:=λ_=>True}]
def y6m (i:IH):List gj:=[{
 ι:=Nat,
 du:=λj=>[(0,.nm 0 0),(1,.d (.v (.int .u64 (i.n / 256 ^ j)))),(7,.d (.v (.int .i64 j)))],
 rows:=λj=>[iZ (i.l++le i.n j) 0,iZ (i.l++le i.n j) 1]}]
set_option maxRecDepth 100000
@[reducible] def dI (n:Int):D:= .v (.int .i64 n)
def y5o (i:IH):Prop:=
 ∃(a:Nat),i.n / (256:Int) ^ a=i.n/\(↑a:Int)=0/\bE (i.l++le i.n a)=bE i.l/\∃(b:Nat->Prop),∃(c:Nat->Nat),b a/\∀(d:Nat),b d->dp (decide ((↑d:Int)<(↑i.k:Int))) (((bE (i.l++le i.n d)).length+1)*(1:Nat)<=(140737488355328:Nat)/\(0:Int)<=(8:Int)/\∃(e:Nat),i.n / (256:Int) ^ e=bD au (i.n / (256:Int) ^ d) 8/\(↑e:Int)=ar.wrap ((↑d:Int)+1)/\bE (i.l++le i.n e)=bE (i.l++le i.n d)++[[D.v (.int .u8 (aw.wrap (i.n / (256:Int) ^ d)))]]/\b e/\c e<c d/\True) (∃(e:Unit),bE (i.l++le i.n i.k)=bE (i.l++le i.n d)/\True)
def y7f (i:IH) (h:PS.dp i):y5o i:=by
 unfold y5o;obtain⟨h1,h2,h3⟩:=h;refine⟨0,by simp,rfl,by simp[le],λj=>j<=i.k,λj=>i.k-j,oM,λj hj=>zH (λgr=> ?_) (λgr=> ?_)⟩
 ·refine⟨?_,oM,j+1,?_,?_,?_,oM,Z9,trivial⟩
  ·rw[yH,im,xH];omega
  ·have:=N6 .u64 (i.n / 256 ^ j) 8 Z8;rw[show((8:Nat):Int)=8 by rfl]at this;rw[this,Int.ediv_ediv_of_nonneg (Int.pow_nonneg (by omega)),bu];rfl
  ·rw[ir (by omega)];rfl
  ·rw[yPq,Sj];simp[bE]
 ·obtain rfl:j=i.k:=by omega
  exact⟨(),rfl,trivial⟩
def Za:PS.ok Tryz.prog 128:=gw mixed fg 0 (λ_=>[]) (λi=>y6m i) [0] Tryz.func128 y7f
@[reducible] def D1:Nat:=5
structure WN where
 l:List UInt8
 n:Int
@[reducible] def WN.ok (i:WN):Prop:=i.l.length+8<=1099511627776
def JY:fy:=fj WN (λi=>[.nm 0 0,zA i.n]) (λi=>[Wr i.l]) WN.ok (λ_=>c9) (λi=>[Wr (i.l++[jf i.n])])
def JC:fy:=fj WN (λi=>[.nm 0 0,zA i.n]) (λi=>[Wr i.l]) WN.ok (λ_=>c9) (λi=>[Wr (i.l++le i.n 8)])
def PL:fy:=fj WN (λi=>[.nm 0 0,TO i.n]) (λi=>[Wr i.l]) (λi=>i.l.length+8<=1099511627776/\0<=i.n/\i.n<4294967296) (λ_=>c9) (λi=>[Wr (i.l++le i.n 4)])
@[reducible] def yYm (t sz ou:Nat):fy:=fj (List (List D)) (λ_=>[.own 0]) (λl=>[.own t sz l]) (λl=>l.length*ou<=140737488355328) (λ_=> .own 1) (λl=>[.own t sz l,.own t sz l])
@[reducible] def yYk (sz ou:Nat):fy:=fj (List (List D)) (λl=>[oy sz l]) (λ_=>[]) (λl=>l.length*ou<=140737488355328) (λl=>oy sz l) (λ_=>[])
def rq:fy:=yYm D1 1 1
def rp:fy:=yYk 1 1
def QN:fy:=fj Unit (λ_=>[]) (λ_=>[]) (λ_=>True) (λ_=> .nm 0 0) (λ_=>[Wr []])
def Rp:fy:=fj (List UInt8) (λ_=>[.nm 0 0]) (λl=>[Wr l]) (λl=>l.length<=1099511627776) (λ_=> .own 1) (λl=>[Wr l,.own D1 1 (bE l)])
def Zy (c:Int):Int:=if 0<BN .u32 c 1 then BP .u32 (bD .u32 c 1) 3988292384 else bD .u32 c 1
def vY:Nat->Int->Int
 |0,c=>c
 |k+1,c=>Zy (vY k c)
def Dg (l:List UInt8):Int:=l.foldl (λc b=>vY 8 (BP .u32 c b.toNat)) 4294967295
def aQ (l:List UInt8):Int:=BP .u32 4294967295 (Dg l)
def Qs:fy:=fj (List UInt8) (λl=>[oy 1 (bE l)]) (λ_=>[]) (λl=>l.length<=1099511627776) (λl=>TO (aQ l)) (λ_=>[])
def y6h (l:List UInt8):List gj:=[
 {ι:=Nat,du:=λi=>[(3,TO (Dg (l.take i))),(9,zA i)],rows:=λ_=>[]},
 {ι:=Int×Nat,du:=λi=>[(3,TO (vY i.2 i.1)),(17,zA i.2)],rows:=λ_=>[]}]
def nt (x:List UInt8×Bool):Nat->ff
 |0=> .cells [oy 1 (bE x.1),yL x.2] 292
 |_=> .gone
def Rd (l:List UInt8) (b:Bool):ff:= .qq (List UInt8×Bool) 1 nt (l,b)
def QO:fy:=fj (List UInt8) (λl=>[oy 1 (bE l)]) (λ_=>[]) (λl=>l.length<=1099511627776) (λ_=> .nm 0 0) (λl=>[Rd l ax])
structure RN where
 l:List UInt8
 b:Bool
 n:Nat
def RN.bad (i:RN):Bool:=i.b||decide (i.l.length<i.n)
def RN.kj (i:RN):List UInt8:=if i.bad then[]else i.l.take i.n
def RN.left (i:RN):List UInt8:=if i.bad then i.l else i.l.drop i.n
@[reducible] def RN.ok (i:RN):Prop:=i.n<=255/\i.l.length<=1099511627776
def QI:fy:=fj RN (λi=>[.nm 0 0,zA i.n]) (λi=>[Rd i.l i.b]) RN.ok (λi=>oy 1 (bE i.kj)) (λi=>[Rd i.left i.bad])
def qE:List UInt8->Int
 |[]=>0
 |b::l=>b.toNat+256*qE l
def Ql:fy:=fj RN (λi=>[.nm 0 0,zA i.n]) (λi=>[Rd i.l i.b]) (λi=>i.n<=8/\i.l.length<=1099511627776) (λi=>lD (qE i.kj)) (λi=>[Rd i.left i.bad])
def y6e (i:RN):List gj:=[{ι:=Nat,du:=λj=>[(5,lD (qE (i.kj.take j))),(12,zA j)],rows:=λ_=>[]}]
structure RB where
 l:List UInt8
 b:Bool
def RB.n (i:RB) (k:Nat):RN:=⟨i.l,i.b,k⟩
def Lz:fy:=fj RB (λi=>[.nm 0 0]) (λi=>[Rd i.l i.b]) (λi=>i.l.length<=1099511627776) (λi=>zA (qE (i.n 1).kj)) (λi=>[Rd (i.n 1).left (i.n 1).bad])
def Ly:fy:=fj RB (λi=>[.nm 0 0]) (λi=>[Rd i.l i.b]) (λi=>i.l.length<=1099511627776) (λi=>zA (ar.wrap (qE (i.n 8).kj))) (λi=>[Rd (i.n 8).left (i.n 8).bad])
def QK:fy:=fj RB (λi=>[.nm 0 0]) (λi=>[Rd i.l i.b]) (λi=>i.l.length<=1099511627776) (λi=>zA (if i.b then 10 else if 0<i.l.length then 15 else 0)) (λi=>[Rd i.l i.b])
def aB (a:IH):Prop:=0<=a.n/\a.n<18446744073709551616/\a.l.length+a.k<=1099511627776
def yUe (i:WN):Prop:=
 ∃(a:IH),a.n=au.wrap i.n/\(↑a.k:Int)=1/\aa (List UInt8) 2 iZ a.l=Wr i.l/\(aB a)/\∀(b:Unit),True->∃(c:Unit),aa (List UInt8) 2 iZ (i.l++[jf i.n])=aa (List UInt8) 2 iZ (a.l++le a.n a.k)/\True
def yTf (i:WN):Prop:=
 ∃(a:IH),a.n=au.wrap i.n/\(↑a.k:Int)=8/\aa (List UInt8) 2 iZ a.l=Wr i.l/\(aB a)/\∀(b:Unit),True->∃(c:Unit),aa (List UInt8) 2 iZ (i.l++le i.n 8)=aa (List UInt8) 2 iZ (a.l++le a.n a.k)/\True
def y4l (i:WN):Prop:=
 ∃(a:IH),a.n=au.wrap i.n/\(↑a.k:Int)=4/\aa (List UInt8) 2 iZ a.l=Wr i.l/\(aB a)/\∀(b:Unit),True->∃(c:Unit),aa (List UInt8) 2 iZ (i.l++le i.n 4)=aa (List UInt8) 2 iZ (a.l++le a.n a.k)/\True
def z1u (i:List (List D)):Prop:=
 ∀(b:Bool),(b=ay->i=[])->dp b (∃(o:Unit),i=i/\i=[]/\True) ((0+i.length)*(1:Nat)<=(140737488355328:Nat)/\∃(o:Unit),i=i/\i=[]++i/\True)
def yCr (i:List (List D)):z1u i=walk Tryz.prog ([]) 0 ([]) ([]) [] Tryz.f70 (Tryz.f70.body.getD .skip) (rq.pat i) (rq.pre i) (rq.alts i):=by kernel_rfl
def yCv (hG:A0 Tryz.prog ([])) (h:∀(i:List (List D)),rq.dp i->z1u i):rq.ok Tryz.prog 70:=vC mixed ([]) hG 0 (λ(i:List (List D))=>[]) (λ(i:List (List D))=>[]) [] Tryz.func70 (by kernel_rfl) (by kernel_rfl) (by kernel_rfl) (λ_=>by kernel_rfl) (λ(i:List (List D)) hc=>Eq.mp (yCr i) (h i hc))
def zZz (i:List (List D)):Prop:=
 ∀(b:Bool),(b=ay->i=[])->dp b (∃(o:Unit),i=[]/\True) ((0+i.length)*(1:Nat)<=(140737488355328:Nat)/\∃(o:Unit),i=[]++i/\True)
def yCy (i:List (List D)):zZz i=walk Tryz.prog ([]) 0 ([]) ([]) [] Tryz.f70 (Tryz.f70.body.getD .skip) (rp.pat i) (rp.pre i) (rp.alts i):=by kernel_rfl
def yEn (hG:A0 Tryz.prog ([])) (h:∀(i:List (List D)),rp.dp i->zZz i):rp.ok Tryz.prog 70:=vC mixed ([]) hG 0 (λ(i:List (List D))=>[]) (λ(i:List (List D))=>[]) [] Tryz.func70 (by kernel_rfl) (by kernel_rfl) (by kernel_rfl) (λ_=>by kernel_rfl) (λ(i:List (List D)) hc=>Eq.mp (yCy i) (h i hc))
def y1p (i:Unit):Prop:=
 ∃(o:Unit),bE []=[]/\True
def y2u (i:List UInt8):Prop:=
 ∃(ig:List (List D)),ig=bE i/\ig.length*(1:Nat)<=(140737488355328:Nat)/\∀(o:Unit),True->∃(o:Unit),bE i=ig/\bE i=ig/\True
def kA (a:Nat) (b:Nat) (c:Nat->Prop) (d:Nat->Nat):Prop:=(↑a:Int)=ar.wrap ((↑b:Int)+1)/\c a/\d a<d b/\True
def y2p (i:List UInt8):Prop:=
 ∃(a:Nat),Dg (ak a i)=4294967295/\(↑a:Int)=0/\∃(b:Nat->Prop),∃(c:Nat->Nat),b a/\∀(d:Nat),b d->dp (decide ((↑d:Int)<(↑(bE i).length:Int))) ((0<=(↑d:Int)/\(↑d:Int)<(↑(bE i).length:Int))/\∃(e:Int),zD (bE i) (↑d:Int).toNat 0 1=ba [D.v (.int .u8 e)]/\∃(f:Int×Nat),vY f.snd f.fst=BP av (Dg (ak d i)) (av.wrap e)/\(↑f.snd:Int)=0/\∃(g:Int×Nat->Prop),∃(h:Int×Nat->Nat),g f/\∀(j:Int×Nat),g j->dp (decide ((↑j.snd:Int)<8)) ((0:Int)<=(1:Int)/\dp (decide (BN av (vY j.snd j.fst) (1:Int)>(0:Int))) (∃(k:Int×Nat),vY k.snd k.fst=BP av (bD av (vY j.snd j.fst) 1) 3988292384/\(↑k.snd:Int)=ar.wrap ((↑j.snd:Int)+1)/\g k/\h k<h j/\True) (∃(k:Int×Nat),vY k.snd k.fst=bD av (vY j.snd j.fst) 1/\(↑k.snd:Int)=ar.wrap ((↑j.snd:Int)+1)/\g k/\h k<h j/\True)) (∃(k:Nat),Dg (ak k i)=vY j.snd j.fst/\kA k d b c)) (∃(e:Unit),aQ i=av.wrap (↑(cf av.bits (if av.signed=ay then(-1:Int)else av.max) ^^^ cf av.bits (Dg (ak d i))).toNat:Int)/\True)
def y2d (i:List UInt8):Prop:=
 ∃(ig:List (List D)),ig=bE i/\ig.length*(1:Nat)<=(140737488355328:Nat)/\∀(o:Unit),True->∃(o:Unit),bE i=ig/\ax=ax/\True
def y3v (i:RN):Prop:=
 dp i.b (∃(o:Unit),bE i.kj=[]/\bE i.left=bE i.l/\i.bad=ay/\True) (dp (decide ((↑i.n:Int)>(↑(bE i.l).length:Int))) (∃(o:Unit),bE i.kj=[]/\bE i.left=bE i.l/\i.bad=decide ((↑i.n:Int)>(↑(bE i.l).length:Int))/\True) ((0<=(↑i.n:Int)/\(↑i.n:Int)<=(↑(bE i.l).length:Int))/\(0<=(↑i.n:Int)/\(↑i.n:Int)<=(↑(bE i.l).length:Int))/\∃(o:Unit),bE i.kj=ak (↑i.n:Int).toNat (bE i.l)/\bE i.left=ap (↑i.n:Int).toNat (bE i.l)/\i.bad=decide ((↑i.n:Int)>(↑(bE i.l).length:Int))/\True))
def y4f (i:RN):Prop:=
 ∃(a:RN),(↑a.n:Int)=(↑i.n:Int)/\aa (List UInt8×Bool) 1 nt (a.l,a.b)=Rd i.l i.b/\(a.n<=255/\a.l.length<=1099511627776)/\∀(b:Unit),True->∃(c:Nat),qE (ak c i.kj)=0/\(↑c:Int)=0/\∃(d:Nat->Prop),∃(e:Nat->Nat),d c/\∀(f:Nat),d f->dp (decide ((↑f:Int)<(↑(bE a.kj).length:Int))) ((0<=(↑f:Int)/\(↑f:Int)<(↑(bE a.kj).length:Int))/\∃(g:Int),zD (bE a.kj) (↑f:Int).toNat 0 1=ba [D.v (.int .u8 g)]/\0<=ar.wrap (8*(↑f:Int))/\∃(h:Nat),qE (ak h i.kj)=GA au (qE (ak f i.kj)) (Iz au (au.wrap g) (ar.wrap (8*(↑f:Int))))/\(↑h:Int)=ar.wrap ((↑f:Int)+1)/\d h/\e h<e f/\di (aa (List UInt8×Bool) 1 nt (a.left,a.bad))) (∃(g:Unit),qE i.kj=qE (ak f i.kj)/\aa (List UInt8×Bool) 1 nt (i.left,i.bad)=aa (List UInt8×Bool) 1 nt (a.left,a.bad)/\True)
def yWi (i:RB):Prop:=
 ∃(ig:RN),(↑ig.n:Int)=1/\aa (List UInt8×Bool) 1 nt (ig.l,ig.b)=Rd i.l i.b/\(ig.n<=8/\ig.l.length<=1099511627776)/\∀(o:Unit),True->∃(o:Unit),qE (i.n 1).kj=ar.wrap (qE ig.kj)/\aa (List UInt8×Bool) 1 nt ((i.n 1).left,(i.n 1).bad)=aa (List UInt8×Bool) 1 nt (ig.left,ig.bad)/\True
def yZv (i:RB):Prop:=
 ∃(ig:RN),(↑ig.n:Int)=8/\aa (List UInt8×Bool) 1 nt (ig.l,ig.b)=Rd i.l i.b/\(ig.n<=8/\ig.l.length<=1099511627776)/\∀(o:Unit),True->∃(o:Unit),ar.wrap (qE (i.n 8).kj)=ar.wrap (qE ig.kj)/\aa (List UInt8×Bool) 1 nt ((i.n 8).left,(i.n 8).bad)=aa (List UInt8×Bool) 1 nt (ig.left,ig.bad)/\True
def y1w (i:RB):Prop:=
 dp i.b (∃(o:Unit),(if i.b=ay then(10:Int)else if 0<i.l.length then(15:Int)else(0:Int))=10/\di (bE i.l)/\i.b=i.b/\True) (dp (decide ((↑(bE i.l).length:Int)>0)) (∃(o:Unit),(if i.b=ay then(10:Int)else if 0<i.l.length then(15:Int)else(0:Int))=15/\di (bE i.l)/\i.b=i.b/\True) (∃(o:Unit),(if i.b=ay then(10:Int)else if 0<i.l.length then(15:Int)else(0:Int))=0/\di (bE i.l)/\i.b=i.b/\True))
def yYd (k:Nat):∀n:Int,le (n % 256 ^ k) k=le n k:=by
 induction k with
 |zero=>intro n;rfl
 |succ k ih=>
  intro n;have hp:(0:Int)<256 ^ k:=Int.pow_pos oM;have h1:jf (n % 256 ^ (k+1))=jf n:=by
   unfold jf;rw[bu,Ex,Int.emod_emod_of_dvd n ⟨256 ^ k,rfl⟩]
  have h2:n % 256 ^ (k+1) / 256=n / 256 % 256 ^ k:=by
   have e:n=256*(n / 256)+n % 256:=(Int.mul_ediv_add_emod n 256).symm;have e2:n / 256=256 ^ k*(n / 256 / 256 ^ k)+n / 256 % 256 ^ k:=(Int.mul_ediv_add_emod _ _).symm;have hr:=MK (n / 256) (show(256:Int) ^ k≠0 by omega);have wu:=Ox (n / 256) hp;have e3:n % 256 ^ (k+1)=256*(n / 256 % 256 ^ k)+n % 256:=by
    have:n=256 ^ (k+1)*(n / 256 / 256 ^ k)+(256*(n / 256 % 256 ^ k)+n % 256):=by
     rw[bu,Ex (256 ^ k) 256,Int.mul_assoc,<- Int.add_assoc,<- bv,<- e2];exact e
    conv=>lhs;rw[this]
    rw[Int.add_comm,Int.add_mul_emod_self_left,Int.emod_eq_of_lt]
    ·omega
    ·rw[bu];omega
   rw[e3];omega
  rw[le,le,h1,h2,ih]
def yFa (n:Int):le (au.wrap n) 8=le n 8:=yYd 8 n
def z4c (n:Int):jf (au.wrap n)=jf n:=by
 have:au.wrap n=n % 18446744073709551616:=rfl;unfold jf;rw[this,Int.emod_emod_of_dvd n ⟨72057594037927936,by decide⟩]
def aD (n:Int):0<=au.wrap n/\au.wrap n<18446744073709551616:=by
 have:au.wrap n=n % 18446744073709551616:=rfl;rw[this];omega
def y4g (i:WN) (h:JY.dp i):yUe i:=by
 unfold yUe aB;have h:i.l.length+8<=1099511627776:=h;exact⟨⟨i.l,au.wrap i.n,1⟩,rfl,rfl,rfl,⟨(aD _).1,(aD _).2,Z9⟩,λ_ _=>⟨(),by simp only[le,z4c],trivial⟩⟩
def y1y (i:WN) (h:JC.dp i):yTf i:=by
 unfold yTf aB;have h:i.l.length+8<=1099511627776:=h;exact⟨⟨i.l,au.wrap i.n,8⟩,rfl,rfl,rfl,⟨(aD _).1,(aD _).2,Z9⟩,λ_ _=>⟨(),by simp only[yFa],trivial⟩⟩
def y7q (i:WN) (h:PL.dp i):y4l i:=by
 unfold y4l aB;obtain⟨h1,h2,h3⟩:=h;have e:au.wrap i.n=i.n:=Bw oM;exact⟨⟨i.l,au.wrap i.n,4⟩,rfl,rfl,rfl,⟨(aD _).1,(aD _).2,Z9⟩,λ_ _=>⟨(),by simp only[e],trivial⟩⟩
def RS:JY.ok Tryz.prog 84:=gw mixed (dw Za fg) 0 (λ_=>[]) (λ_=>[]) [] Tryz.func84 y4g
def Sq:JC.ok Tryz.prog 72:=gw mixed (dw Za fg) 0 (λ_=>[]) (λ_=>[]) [] Tryz.func72 y1y
def yKf:PL.ok Tryz.prog 129:=gw mixed (dw Za fg) 0 (λ_=>[]) (λ_=>[]) [] Tryz.func129 y7q
def zPp:rq.ok Tryz.prog 70:=yCv fg λi h=>λb hb=>
 Cv.dp.mk (λe=>⟨(),rfl,hb e,trivial⟩) (λ_=>⟨by rw[nw];exact h,(),rfl,rfl,trivial⟩)
def zNz:rp.ok Tryz.prog 70:=yEn fg λi h=>λb hb=>
 Cv.dp.mk (λe=>⟨(),hb e,trivial⟩) (λ_=>⟨by rw[nw];exact h,(),rfl,trivial⟩)
def Se:QN.ok Tryz.prog 71:=gw (V:=y1p) mixed fg 0 (λ_=>[]) (λ_=>[]) [] Tryz.func71 λ(_:Unit) _=>⟨(),rfl,trivial⟩
def R7:Rp.ok Tryz.prog 74:=gw (V:=y2u) mixed (dw zPp fg) 0 (λ_=>[]) (λ_=>[]) [0] Tryz.func74 λ(i:List UInt8) h=>by
 have h:i.length<=1099511627776:=h;exact⟨_,rfl,by rw[yH];omega,λ_ _=>⟨(),rfl,rfl,trivial⟩⟩
def Vj:QO.ok Tryz.prog 132:=gw (V:=y2d) mixed (dw zNz fg) 0 (λ_=>[]) (λ_=>[]) [] Tryz.func132 λ(i:List UInt8) h=>by
 have h:i.length<=1099511627776:=h;exact⟨_,rfl,by rw[yH];omega,λ_ _=>⟨(),rfl,rfl,trivial⟩⟩
def wQ {l:List UInt8} {i:Nat} {b:UInt8} (h:l[i]? =ba b):zD (bE l) i 0 1=ba [.v (.int .u8 b.toNat)]:=by
 unfold zD bE;rw[uq,h];rfl
def yDn {l:List UInt8} {i:Nat} {b:UInt8} (h:l[i]? =ba b):Dg (l.take (i+1))=vY 8 (BP .u32 (Dg (l.take i)) b.toNat):=by
 unfold Dg;rw[sm,h];simp[IP]
def y4j (b:UInt8):av.wrap (b.toNat:Int)=b.toNat:=y4c (by have:=b.toNat_lt;omega)
def y2m (b:UInt8):au.wrap (b.toNat:Int)=b.toNat:=Bw (by have:=b.toNat_lt;omega)
def y6z (i:List UInt8) (h:Qs.dp i):y2p i:=by
 unfold y2p kA;have h:i.length<=1099511627776:=h;refine⟨0,rfl,rfl,λj=>j<=i.length,λj=>i.length-j,Z9,λj hj=>zH (λgr=> ?_) (λgr=> ?_)⟩
 ·dsimp only at hj;rw[yH]at gr;obtain⟨b,hb⟩:∃b,i[j]? =ba b:=⟨_,vd oM⟩
  refine⟨⟨oM,by rw[yH];omega⟩,b.toNat,wQ hb,(BP .u32 (Dg (i.take j)) b.toNat,0),?_,rfl,λx=>x.1=BP .u32 (Dg (i.take j)) b.toNat/\x.2<=8,λx=>8-x.2,⟨rfl,Z9⟩,?_⟩
  ·simp only[vY,y4j]
  rintro⟨c,n⟩ ⟨h1,h2⟩;dsimp only at h1 h2;subst h1;refine zH (λhn=>⟨oM,zH (λhc=> ?_) (λhc=> ?_)⟩) (λhn=> ?_)
  ·refine⟨(BP .u32 (Dg (i.take j)) b.toNat,n+1),?_,?_,⟨rfl,by dsimp only at hn ⊢;omega⟩,by dsimp only at hn ⊢;omega,trivial⟩
   ·simp only[vY,Zy];rw[fc hc]
   ·rw[ir (by dsimp only;omega)];rfl
  ·refine⟨(BP .u32 (Dg (i.take j)) b.toNat,n+1),?_,?_,⟨rfl,by dsimp only at hn ⊢;omega⟩,by dsimp only at hn ⊢;omega,trivial⟩
   ·simp only[vY,Zy];rw[ej hc]
   ·rw[ir (by dsimp only;omega)];rfl
  ·dsimp only at hn;obtain rfl:n=8:=by omega
   refine⟨j+1,yDn hb,?_,Z9,Z9,trivial⟩;rw[ir (by omega)];rfl
 ·dsimp only at hj;rw[yH]at gr;refine⟨(),?_,trivial⟩;rw[og (by omega)];rfl
def Zb:Qs.ok Tryz.prog 130:=gw mixed fg 0 (λ_=>[]) (λi=>y6h i) [] Tryz.func130 y6z
def z7x:QI.ok Tryz.prog 210:=gw (V:=y3v) mixed fg 0 (λ_=>[]) (λ_=>[]) [0] Tryz.func210 λ(i:RN) h=>by
 obtain⟨h1,h2⟩:=h;refine Cv.dp.mk (λe=> ?_) (λe=>zH (λgr=> ?_) (λgr=> ?_))
 ·have:i.bad=ay:=by simp[RN.bad,e]
  exact⟨(),by simp[RN.kj,this],by simp[RN.left,this],this,trivial⟩
 ·rw[yH]at gr;have:i.bad=ay:=by simp[RN.bad];right;omega
  exact⟨(),by simp[RN.kj,this],by simp[RN.left,this],by rw[this,yH];simp;omega,trivial⟩
 ·rw[yH]at gr;have:i.bad=ax:=by simp[RN.bad,e];omega
  rw[yH];exact⟨⟨oM,oM⟩,⟨oM,oM⟩,(),by simp[RN.kj,this,N8],by simp[RN.left,this,Mg],by rw[this];simp;omega,trivial⟩
def mR:∀l:List UInt8,0<=qE l/\qE l<256 ^ l.length
 |[]=>by simp[qE]
 |b::l=>by
  obtain⟨h1,h2⟩:=mR l;have:=b.toNat_lt;simp only[qE,iD,bu];omega
def zTm (b:UInt8):∀l:List UInt8,qE (l++[b])=qE l+b.toNat*256 ^ l.length
 |[]=>by simp[qE]
 |c::l=>by
  simp only[tv,qE,zTm b l,iD,bu,bv];rw[Ex (256 ^ l.length) 256,<- Int.mul_assoc,<- Int.mul_assoc,Ex 256 (b.toNat:Int)];omega
def yKw {x b j:Nat} (hx:x<256 ^ j) (hb:b<256) (hj:j<8):GA .u64 x (Iz .u64 b ((8*j:Nat):Int))=((x+b*256 ^ j:Nat):Int):=by
 have hp:256 ^ j=2 ^ (8*j):=by rw[Nat.pow_mul]
 have hle:256 ^ (j+1)<=256 ^ 8:=Nat.pow_le_pow_right oM oM;have abd:x+b*256 ^ j<256 ^ (j+1):=by
  rw[Nat.pow_succ];have:b*256 ^ j<=255*256 ^ j:=wj _ oM;omega
 have h8:(256:Nat) ^ 8=18446744073709551616:=by decide
 rw[<- yPe,<- y0z];have e1:ZM .u64 (b:Int) ((8*j:Nat):Int)=((b*256 ^ j:Nat):Int):=by
  show wr .u64 (Int.ofNat (b*2 ^ (Nat.min (8*j) 64)))=_;rw[show Nat.min (8*j) 64=8*j from Gu (by omega),<- hp,TC];exact Bw (by show(0:Int)<=((b*256 ^ j:Nat):Int)/\((b*256 ^ j:Nat):Int)<_;omega)
 rw[e1];show wr .u64 (Int.ofNat (Nat.lor (x % 18446744073709551616) ((b*256 ^ j) % 18446744073709551616)))=_;rw[Nat.mod_eq_of_lt (by omega),Nat.mod_eq_of_lt (by omega)];have e2:Nat.lor x (b*256 ^ j)=x+b*256 ^ j:=by
  show x|||(b*256 ^ j)=_
  rw[hp]at hx ⊢;rw[Nat.or_comm,<- Nat.shiftLeft_eq,<- Nat.shiftLeft_add_eq_or_of_lt hx,Ha]
 rw[e2,TC];exact Bw (by show(0:Int)<=((x+b*256 ^ j:Nat):Int)/\((x+b*256 ^ j:Nat):Int)<_;omega)
def R8 (i:RN):i.kj.length<=i.n:=by
 unfold RN.kj;split
 ·simp
 ·rw[oe];omega
def y2l (i:RN) (h:Ql.dp i):y4f i:=by
 unfold y4f;obtain⟨h1,h2⟩:=h;refine⟨i,rfl,rfl,⟨oM,h2⟩,λ_ _=>⟨0,rfl,rfl,λj=>j<=i.kj.length,λj=>i.kj.length-j,Z9,λj hj=>zH (λgr=> ?_) (λgr=> ?_)⟩⟩
 ·dsimp only at hj;have hl:=R8 i;rw[yH]at gr ⊢;obtain⟨b,hb⟩:∃b,i.kj[j]? =ba b:=⟨_,vd oM⟩
  have e8:ar.wrap (8*(j:Int))=8*j:=ir oM;refine⟨⟨oM,oM⟩,b.toNat,wQ hb,by rw[e8];omega,j+1,?_,?_,Z9,Z9,rfl⟩
  ·rw[e8,y2m,sm,hb];simp only[D0];rw[zTm];obtain⟨r1,r2⟩:=mR (i.kj.take j);rw[oe,Gu (by omega)]at r2 ⊢;obtain⟨x,hx⟩:∃x:Nat,qE (i.kj.take j)=x:=⟨(qE (i.kj.take j)).toNat,oM⟩
   rw[hx]at r2 ⊢;have:=yKw (x:=x) (b:=b.toNat) (j:=j) (by exact_mod_cast r2) b.toNat_lt oM;rw[show(8*(j:Int))=((8*j:Nat):Int)by simp,this];simp
  ·rw[ir (by omega)];rfl
 ·dsimp only at hj;rw[yH]at gr;exact⟨(),by rw[og (by omega)],rfl,trivial⟩
def Zm:Ql.ok Tryz.prog 179:=gw mixed (dw z7x fg) 0 (λ_=>[]) (λi=>y6e i) [] Tryz.func179 y2l
def z0s:Lz.ok Tryz.prog 140:=gw (V:=yWi) mixed (dw Zm fg) 0 (λ_=>[]) (λ_=>[]) [] Tryz.func140 λ(i:RB) h=>by
 have hl:=R8 (i.n 1);have hr:=mR (i.n 1).kj;have h0:(256:Int) ^ (i.n 1).kj.length<=256 ^ 1:=by
  have:(256:Nat) ^ (i.n 1).kj.length<=256 ^ 1:=Nat.pow_le_pow_right oM hl
  exact_mod_cast this
 exact⟨i.n 1,rfl,rfl,⟨by show 1<=8;omega,h⟩,λ_ _=>⟨(),(ir oM).symm,rfl,trivial⟩⟩
def z1h:Ly.ok Tryz.prog 133:=gw (V:=yZv) mixed (dw Zm fg) 0 (λ_=>[]) (λ_=>[]) [] Tryz.func133 λ(i:RB) h=>by
 exact⟨i.n 8,rfl,rfl,⟨by show 8<=8;omega,h⟩,λ_ _=>⟨(),rfl,rfl,trivial⟩⟩
def ySo:QK.ok Tryz.prog 141:=gw (V:=y1w) mixed fg 0 (λ_=>[]) (λ_=>[]) [0] Tryz.func141 λ(i:RB) h=>by
 refine Cv.dp.mk (λe=>⟨(),by rw[fc e],rfl,rfl,trivial⟩) (λe=>zH (λgr=>⟨(),?_,rfl,rfl,trivial⟩) (λgr=>⟨(),?_,rfl,rfl,trivial⟩))
 ·rw[yH]at gr;rw[ej (by simp[e]),fc (by omega)]
 ·rw[yH]at gr;rw[ej (by simp[e]),ej (by omega)]
open Classical
structure Sd where
 levels:List Lv
 imp:Lv
 has:Bool
@[reducible] def Vw:=List (Sd×Sd)
def yG (b:Sd×Sd):List D:=[.ro 3 (b.1.levels.map kg),.v (.int .i64 b.1.imp.dj),.v (.int .i64 b.1.imp.dq),.v (.int .i64 b.1.imp.count),.v (.bool b.1.has),
 .ro 3 (b.2.levels.map kg),.v (.int .i64 b.2.imp.dj),.v (.int .i64 b.2.imp.dq),.v (.int .i64 b.2.imp.count),.v (.bool b.2.has)]
def sdV (s:Sd):V:= .agg [oy 3 (s.levels.map kg),zA s.imp.dj,zA s.imp.dq,zA s.imp.count,yL s.has]
def Uf (v:Vw):V:= .agg [oy 10 (v.map yG)]
def bT (side x y:Int):Bool:=if side=1 then decide (y<x)else decide (x<y)
structure I3 where
 side:Int
 x:Int
 y:Int
def Il:fy:=fj I3 (λi=>[zA i.side,zA i.x,zA i.y]) (λ_=>[]) (λ_=>True) (λi=>yL (bT i.side i.x i.y)) (λ_=>[])
def xg (side:Int) (l:List Lv) (i:Nat):Prop:=∀a,l[i]?=ba a->1<=a.dq/\1<=a.count/\∀j b,i=j+1->l[j]?=ba b->bT side b.dj a.dj=ay
def nn (side:Int) (s:Sd):Prop:=(∀i,xg side s.levels i)/\s.levels.length<=255/\(s.has=ay->1<=s.imp.dq/\1<=s.imp.count)/\(s.has=ax->s.imp=⟨0,0,0⟩)
def bQ (v:Vw):Prop:=(∀b∈v,nn 1 b.1/\nn 2 b.2)/\v.length<=255
noncomputable def jY (side:Int) (s:Sd):Bool:=decide (nn side s)
noncomputable def b8 (v:Vw):Bool:=decide (bQ v)
structure K0 where
 side:Int
 s:Sd
noncomputable def CX:fy:=fj K0 (λi=>[zA i.side,sdV i.s]) (λ_=>[]) (λi=>i.s.levels.length<=1099511627776) (λi=>yL (jY i.side i.s)) (λ_=>[])
def ySr:List gj:=[{ι:=Nat,du:=λj=>[(10,zA j)],rows:=λ_=>[]}]
@[reducible] def Mu (v:Vw):Prop:=v.length<=1099511627776/\∀b∈v,b.1.levels.length<=1099511627776/\b.2.levels.length<=1099511627776
noncomputable def C1:fy:=fj Vw (λv=>[Uf v]) (λ_=>[]) Mu (λv=>yL (b8 v)) (λ_=>[])
def yQm:List gj:=[{ι:=Nat,du:=λj=>[(8,zA j)],rows:=λ_=>[]}]
def kR (l:Lv):List UInt8:=le l.dj 8++le l.dq 8++le l.count 8
structure Kl where
 l:List UInt8
 v:Lv
def QL:fy:=fj Kl (λi=>[.nm 0 0,Ul i.v]) (λi=>[Wr i.l]) (λi=>i.l.length+24<=1099511627776) (λ_=>c9) (λi=>[Wr (i.l++kR i.v)])
def G9 (s:Sd):List UInt8:=[jf s.levels.length]++s.levels.flatMap kR++(if s.has then[jf 1]++kR s.imp else[jf 0])
def vB (b:Sd×Sd):List UInt8:=G9 b.1++G9 b.2
def bV (v:Vw) (seq:Int):List UInt8:=le seq 8++[jf v.length]++v.flatMap vB
noncomputable def dS (v:Vw) (seq:Int):List UInt8:=if bQ v then bV v seq++le (aQ (bV v seq)) 4 else[]
noncomputable def NL (v:Vw):Int:=if bQ v then 0 else 12
structure Gj where
 v:Vw
 seq:Int
noncomputable def Qq:fy:=fj Gj (λi=>[Uf i.v,zA i.seq]) (λ_=>[]) (λi=>Mu i.v) (λi=> .iW [oy 1 (bE (dS i.v i.seq)),zA (NL i.v)]) (λ_=>[])
def y7k (i:Gj):List gj:=[
 {ι:=Nat,du:=λj=>[(6,.nm 0 0),(28,zA j)],rows:=λj=>[Wr (le i.seq 8++[jf i.v.length]++(i.v.take j).flatMap vB)]},
 {ι:=Unit,du:=λ_=>[],rows:=λ_=>[],un:=3},
 {ι:=List UInt8×List Lv×Nat,du:=λx=>[(6,.nm 0 0),(44,zA x.2.2)],rows:=λx=>[Wr (x.1++(x.2.1.take x.2.2).flatMap kR)]}]
def yOv (i:I3):Prop:=
 dp (i.side==1) (∃(o:Unit),bT i.side i.x i.y=decide (i.x>i.y)/\True) (∃(o:Unit),bT i.side i.x i.y=decide (i.x<i.y)/\True)
def lK (a:Nat) (b:Nat->Prop) (c:Nat->Nat) (d:K0):Prop:=∃(e:Nat),(↑e:Int)=ar.wrap ((↑a:Int)+1)/\b e/\c e<c a/\di (ac [V.own 0,V.d (dI d.s.imp.dj),V.d (dI d.s.imp.dq),V.d (dI d.s.imp.count),V.d (D.v (.bool d.s.has))] 179)/\di (ab 3 (aj kg d.s.levels))
def fM (a:K0):=(↑(aj kg a.s.levels).length:Int)
def yBt (i:K0):Prop:=
 ∃(a:Nat),(↑a:Int)=0/\∃(b:Nat->Prop),∃(c:Nat->Nat),b a/\∀(d:Nat),b d->dp (decide ((↑d:Int)<(fM i))) ((0<=(↑d:Int)/\(↑d:Int)<(fM i))/\∃(e:Int),∃(f:Int),∃(g:Int),zD (aj kg i.s.levels) (↑d:Int).toNat 0 3=ba [dI e,dI f,dI g]/\dp (decide (f<1)) (∃(h:Unit),jY i.side i.s=ax/\True) (dp (decide (g<1)) (∃(h:Unit),jY i.side i.s=ax/\True) (dp (decide ((↑d:Int)>0)) ((0<=ar.wrap ((↑d:Int)-1)/\ar.wrap ((↑d:Int)-1)<(fM i))/\∃(h:Int),zD (aj kg i.s.levels) (ar.wrap ((↑d:Int)-1)).toNat 0 1=ba [dI h]/\∃(j:I3),j.side=i.side/\j.x=h/\j.y=e/\True/\∀(k:Unit),True->dp (!bT j.side j.x j.y) (∃(l:Unit),jY i.side i.s=ax/\True) (lK d b c i)) (lK d b c i)))) (dp (!i.s.has) (dp (decide ((fM i)<=255)) (∃(e:Unit),jY i.side i.s=(i.s.imp.dj==0 && (i.s.imp.dq==0 && (i.s.imp.count==0 && ay)))/\True) (∃(e:Unit),jY i.side i.s=ax/\True)) (dp (decide ((fM i)<=255)) (dp (decide (i.s.imp.dq>=1)) (∃(e:Unit),jY i.side i.s=decide (i.s.imp.count>=1)/\True) (∃(e:Unit),jY i.side i.s=ax/\True)) (∃(e:Unit),jY i.side i.s=ax/\True)))
def z9r (i:Vw):Prop:=
 ∃(a:Nat),(↑a:Int)=0/\∃(b:Nat->Prop),∃(c:Nat->Nat),b a/\∀(d:Nat),b d->dp (decide ((↑d:Int)<(↑(aj yG i).length:Int))) ((0<=(↑d:Int)/\(↑d:Int)<(↑(aj yG i).length:Int))/\∃(e:List (List D)),∃(f:Int),∃(g:Int),∃(h:Int),∃(j:Bool),∃(k:List (List D)),∃(l:Int),∃(m:Int),∃(n:Int),∃(p:Bool),zD (aj yG i) (↑d:Int).toNat 0 10=ba [D.ro 3 e,dI f,dI g,dI h,D.v (.bool j),D.ro 3 k,dI l,dI m,dI n,D.v (.bool p)]/\∃(q:K0),q.side=1/\aj kg q.s.levels=e/\q.s.imp.dj=f/\q.s.imp.dq=g/\q.s.imp.count=h/\q.s.has=j/\q.s.levels.length<=1099511627776/\∀(r:Unit),True->dp (!jY q.side q.s) (∃(s:Unit),b8 i=ax/\True) (∃(s:K0),s.side=2/\aj kg s.s.levels=k/\s.s.imp.dj=l/\s.s.imp.dq=m/\s.s.imp.count=n/\s.s.has=p/\s.s.levels.length<=1099511627776/\∀(t:Unit),True->dp (!jY s.side s.s) (∃(u:Unit),b8 i=ax/\True) (∃(u:Nat),(↑u:Int)=ar.wrap ((↑d:Int)+1)/\b u/\c u<c d/\di (ac [V.own 0] 89)/\di (ab 10 (aj yG i))))) (∃(e:Unit),b8 i=decide ((↑(aj yG i).length:Int)<=255)/\True)
def y2z (i:Kl):Prop:=
 ∃(ig:WN),ig.n=i.v.dj/\aa (List UInt8) 2 iZ ig.l=Wr i.l/\ig.ok/\∀(o:Unit),True->∃(mq:WN),mq.n=i.v.dq/\aa (List UInt8) 2 iZ mq.l=aa (List UInt8) 2 iZ (ig.l++le ig.n 8)/\mq.ok/\∀(o:Unit),True->∃(iK:WN),iK.n=i.v.count/\aa (List UInt8) 2 iZ iK.l=aa (List UInt8) 2 iZ (mq.l++le mq.n 8)/\iK.ok/\∀(o:Unit),True->∃(o:Unit),aa (List UInt8) 2 iZ (i.l++kR i.v)=aa (List UInt8) 2 iZ (iK.l++le iK.n 8)/\True
def VJ (a:Gj):Prop:=ac [V.own 0] 89=ac [V.own 0] 89/\di (ab 10 (aj yG a.v))
def Wj (a:Nat->Prop) (b:Nat) (c:Nat->Nat) (d:Nat) (e:Gj):Prop:=a b/\c b<c d/\VJ e
def pC (a:Gj) (b:Nat):=(le a.seq 8++[jf (↑(aq a.v):Int)]++List.flatMap vB (ak b a.v))
def uO (a:List UInt8×List Lv×Nat):=(a.fst++List.flatMap kR (ak a.snd.snd a.snd.fst))
def Ve (a:Int) (b:Int) (c:Int) (d:Bool) (e:List (List D)) (f:List (List D)) (g:Int) (h:Int) (j:Int) (k:Bool) (l:Gj):Prop:=ac [V.own 5,V.d (dI a),V.d (dI b),V.d (dI c),V.d (D.v (.bool d))] 179=ac [V.own 5,V.d (dI a),V.d (dI b),V.d (dI c),V.d (D.v (.bool d))] 179/\di (ab 3 e)/\di (ab 3 f)/\di (ac [V.own 5,V.d (dI a),V.d (dI b),V.d (dI c),V.d (D.v (.bool d)),V.own 6,V.d (dI g),V.d (dI h),V.d (dI j),V.d (D.v (.bool k))] 180)/\VJ l
def Vb (a:WN) (b:List (List D)) (c:Int) (d:Int) (e:Int) (f:Bool) (g:Int) (h:Int) (j:Int) (k:Bool) (l:List (List D)) (m:Gj) (n:Nat) (p:Nat->Prop) (q:Nat->Nat):Prop:=a.ok/\∀(r:Unit),True->∃(s:List UInt8×List Lv×Nat),(↑s.snd.snd:Int)=0/\aa (List UInt8) 2 iZ (uO s)=aa (List UInt8) 2 iZ (a.l++[jf a.n])/\∃(t:List UInt8×List Lv×Nat->Prop),∃(u:List UInt8×List Lv×Nat->Nat),t s/\∀(v:List UInt8×List Lv×Nat),t v->dp (decide ((↑v.snd.snd:Int)<(↑b.length:Int))) ((0<=(↑v.snd.snd:Int)/\(↑v.snd.snd:Int)<(↑b.length:Int))/\∃(w:Int),∃(x:Int),∃(y:Int),zD b (↑v.snd.snd:Int).toNat 0 3=ba [dI w,dI x,dI y]/\∃(z:Kl),z.v.dj=w/\z.v.dq=x/\z.v.count=y/\aa (List UInt8) 2 iZ z.l=aa (List UInt8) 2 iZ (uO v)/\z.l.length+(24:Nat)<=(1099511627776:Nat)/\∀(jb:Unit),True->∃(oZ:List UInt8×List Lv×Nat),(↑oZ.snd.snd:Int)=ar.wrap ((↑v.snd.snd:Int)+1)/\aa (List UInt8) 2 iZ (uO oZ)=aa (List UInt8) 2 iZ (z.l++kR z.v)/\t oZ/\u oZ<u v/\di (ac [V.own 6,V.d (dI c),V.d (dI d),V.d (dI e),V.d (D.v (.bool f))] 179)/\Ve g h j k b l c d e f m) (dp (!f) (∃(w:WN),w.n=0/\aa (List UInt8) 2 iZ w.l=aa (List UInt8) 2 iZ (uO v)/\w.ok/\∀(x:Unit),True->∃(y:Nat),(↑y:Int)=ar.wrap ((↑n:Int)+1)/\aa (List UInt8) 2 iZ (pC m y)=aa (List UInt8) 2 iZ (w.l++[jf w.n])/\Wj p y q n m) (∃(w:WN),w.n=1/\aa (List UInt8) 2 iZ w.l=aa (List UInt8) 2 iZ (uO v)/\w.ok/\∀(x:Unit),True->∃(y:Kl),y.v.dj=c/\y.v.dq=d/\y.v.count=e/\aa (List UInt8) 2 iZ y.l=aa (List UInt8) 2 iZ (w.l++[jf w.n])/\y.l.length+(24:Nat)<=(1099511627776:Nat)/\∀(z:Unit),True->∃(jb:Nat),(↑jb:Int)=ar.wrap ((↑n:Int)+1)/\aa (List UInt8) 2 iZ (pC m jb)=aa (List UInt8) 2 iZ (y.l++kR y.v)/\Wj p jb q n m))
def y5z (i:Gj):Prop:=
 ∃(a:Vw),aj yG a=aj yG i.v/\(aq a<=1099511627776/\∀(b:Sd×Sd),b∈a->b.fst.levels.length<=1099511627776/\b.snd.levels.length<=1099511627776)/\∀(b:Unit),True->dp (!b8 a) (∃(c:Unit),bE (dS i.v i.seq)=[]/\NL i.v=12/\True) (∃(c:Unit),True/\∀(d:Unit),True->∃(e:WN),e.n=i.seq/\aa (List UInt8) 2 iZ e.l=aa (List UInt8) 2 iZ []/\e.ok/\∀(f:Unit),True->∃(g:WN),g.n=(↑(aj yG i.v).length:Int)/\aa (List UInt8) 2 iZ g.l=aa (List UInt8) 2 iZ (e.l++le e.n 8)/\g.ok/\∀(h:Unit),True->∃(j:Nat),(↑j:Int)=0/\aa (List UInt8) 2 iZ (pC i j)=aa (List UInt8) 2 iZ (g.l++[jf g.n])/\∃(k:Nat->Prop),∃(l:Nat->Nat),k j/\∀(m:Nat),k m->dp (decide ((↑m:Int)<(↑(aj yG i.v).length:Int))) ((0<=(↑m:Int)/\(↑m:Int)<(↑(aj yG i.v).length:Int))/\∃(n:List (List D)),∃(p:Int),∃(q:Int),∃(r:Int),∃(s:Bool),∃(t:List (List D)),∃(u:Int),∃(v:Int),∃(w:Int),∃(x:Bool),zD (aj yG i.v) (↑m:Int).toNat 0 10=ba [D.ro 3 n,dI p,dI q,dI r,D.v (.bool s),D.ro 3 t,dI u,dI v,dI w,D.v (.bool x)]/\∃(y:WN),y.n=(↑n.length:Int)/\aa (List UInt8) 2 iZ y.l=aa (List UInt8) 2 iZ (pC i m)/\y.ok/\∀(z:Unit),True->∃(jb:List UInt8×List Lv×Nat),(↑jb.snd.snd:Int)=0/\aa (List UInt8) 2 iZ (uO jb)=aa (List UInt8) 2 iZ (y.l++[jf y.n])/\∃(oZ:List UInt8×List Lv×Nat->Prop),∃(iH:List UInt8×List Lv×Nat->Nat),oZ jb/\∀(ld:List UInt8×List Lv×Nat),oZ ld->dp (decide ((↑ld.snd.snd:Int)<(↑n.length:Int))) ((0<=(↑ld.snd.snd:Int)/\(↑ld.snd.snd:Int)<(↑n.length:Int))/\∃(iT:Int),∃(te:Int),∃(oY:Int),zD n (↑ld.snd.snd:Int).toNat 0 3=ba [dI iT,dI te,dI oY]/\∃(oF:Kl),oF.v.dj=iT/\oF.v.dq=te/\oF.v.count=oY/\aa (List UInt8) 2 iZ oF.l=aa (List UInt8) 2 iZ (uO ld)/\oF.l.length+(24:Nat)<=(1099511627776:Nat)/\∀(EX:Unit),True->∃(xf:List UInt8×List Lv×Nat),(↑xf.snd.snd:Int)=ar.wrap ((↑ld.snd.snd:Int)+1)/\aa (List UInt8) 2 iZ (uO xf)=aa (List UInt8) 2 iZ (oF.l++kR oF.v)/\oZ xf/\iH xf<iH ld/\Ve p q r s t n u v w x i) (dp (!s) (∃(iT:WN),iT.n=0/\aa (List UInt8) 2 iZ iT.l=aa (List UInt8) 2 iZ (uO ld)/\iT.ok/\∀(te:Unit),True->∃(oY:WN),oY.n=(↑t.length:Int)/\aa (List UInt8) 2 iZ oY.l=aa (List UInt8) 2 iZ (iT.l++[jf iT.n])/\Vb oY t u v w x p q r s n i m k l) (∃(iT:WN),iT.n=1/\aa (List UInt8) 2 iZ iT.l=aa (List UInt8) 2 iZ (uO ld)/\iT.ok/\∀(te:Unit),True->∃(oY:Kl),oY.v.dj=p/\oY.v.dq=q/\oY.v.count=r/\aa (List UInt8) 2 iZ oY.l=aa (List UInt8) 2 iZ (iT.l++[jf iT.n])/\oY.l.length+(24:Nat)<=(1099511627776:Nat)/\∀(oF:Unit),True->∃(EX:WN),EX.n=(↑t.length:Int)/\aa (List UInt8) 2 iZ EX.l=aa (List UInt8) 2 iZ (oY.l++kR oY.v)/\Vb EX t u v w x p q r s n i m k l))) (∃(n:List UInt8),aa (List UInt8) 2 iZ n=aa (List UInt8) 2 iZ (pC i m)/\n.length<=1099511627776/\∀(p:Unit),True->∃(q:List UInt8),bE q=bE n/\q.length<=1099511627776/\∀(r:Unit),True->∃(s:WN),s.n=aQ q/\aa (List UInt8) 2 iZ s.l=aa (List UInt8) 2 iZ n/\(s.l.length+(8:Nat)<=(1099511627776:Nat)/\0<=s.n/\s.n<4294967296)/\∀(t:Unit),True->∃(u:List UInt8),aa (List UInt8) 2 iZ u=aa (List UInt8) 2 iZ (s.l++le s.n 4)/\u.length<=1099511627776/\∀(v:Unit),True->∃(w:Unit),bE (dS i.v i.seq)=bE u/\NL i.v=0/\True))
def MB {α:Type} {f:α->List D} {l:List α} {i n:Nat} {x:α} (h:l[i]? =ba x) (hn:(f x).length=n):zD (l.map f) i 0 n=ba (f x):=by
 unfold zD;rw[uq,h];simp only[vw,nw,hn,Nat.ble_eq_true_of_le (km n),cond_true,Dn];rw[<- hn,og (km _)]
def y2a {α:Type} {f:α->List D} {l:List α} {i g n:Nat} {x:α} {r:List D} (h:l[i]? =ba x) (hn:g+n<=(f x).length) (hr:((f x).drop g).take n=r):zD (l.map f) i g n=ba r:=by
 unfold zD;rw[uq,h];simp only[vw,Nat.ble_eq_true_of_le hn,cond_true,hr]
def getD {α:Type} {l:List α} {i:Nat} (h:i<l.length):∃x,l[i]? =ba x:=⟨_,vd h⟩
def zUn:Il.ok Tryz.prog 187:=gw (V:=yOv) mixed fg 0 (λ_=>[]) (λ_=>[]) [] Tryz.func187 λ(i:I3) _=>by
 refine Cv.dp.mk (λe=>⟨(),?_,trivial⟩) (λe=>⟨(),?_,trivial⟩)
 ·have e:i.side=1:=by simpa using e
  simp[bT,e]
 ·have e:i.side≠1:=by simpa using e
  simp[bT,e]
def MZ {side:Int} {s:Sd} (h:¬nn side s):jY side s=ax:=kr h
def xg.of {side:Int} {l:List Lv} {i:Nat} {x:Lv} (hx:l[i]? =ba x) (h1:1<=x.dq) (h2:1<=x.count) (h3:∀j b,i=j+1->l[j]? =ba b->bT side b.dj x.dj=ay):xg side l i:=by
 intro a ha;rw[hx]at ha;cases ha;exact⟨h1,h2,h3⟩
def yRn (i:K0) (h:CX.dp i):yBt i:=by
 unfold yBt fM lK dI;have h:i.s.levels.length<=1099511627776:=h;refine⟨0,rfl,λj=>j<=i.s.levels.length/\∀k,k<j->xg i.side i.s.levels k,λj=>i.s.levels.length-j,⟨oM,by intro k hk;omega⟩,λj hj=>zH (λgr=> ?_) (λgr=> ?_)⟩
 ·obtain⟨hj1,GI⟩:=hj;rw[ia]at gr ⊢;obtain⟨x,hx⟩:=getD (l:=i.s.levels) (i:=j) oM;have w1:ar.wrap ((j:Int)+1)=((j+1:Nat):Int):=by rw[ir (by omega)];rfl
  have next:xg i.side i.s.levels j->(λj=>j<=i.s.levels.length/\∀k,k<j->xg i.side i.s.levels k) (j+1):=λhl=>⟨oM,λk hk=>by
   rcases uo k j with h'|h'
   ·exact GI k h'
   ·obtain rfl:k=j:=by omega
    exact hl⟩
  refine⟨⟨oM,oM⟩,x.dj,x.dq,x.count,MB hx rfl,zH (λhq=> ?_) (λhq=>zH (λhc=> ?_) (λhc=>zH (λhp=> ?_) (λhp=> ?_)))⟩
  ·exact⟨(),MZ λhr=>by have:=(hr.1 j x hx).1;omega,trivial⟩
  ·exact⟨(),MZ λhr=>by have:=(hr.1 j x hx).2.1;omega,trivial⟩
  ·have w0:ar.wrap ((j:Int)-1)=((j-1:Nat):Int):=by rw[ir (by omega)];omega
   obtain⟨y,hy⟩:=getD (l:=i.s.levels) (i:=j-1) oM;refine⟨⟨by rw[w0];omega,by rw[w0];omega⟩,y.dj,by rw[w0];exact y2a (n:=1) hy (by show 0+0+1<=3;omega) rfl,⟨i.side,y.dj,x.dj⟩,rfl,rfl,rfl,trivial,λ_ _=> ?_⟩;refine Cv.dp.mk (λhb=>⟨(),MZ λhr=> ?_,trivial⟩) (λhb=>⟨j+1,w1.symm,next (xg.of hx oM oM ?_),Z9,gn⟩)
   ·have:=(hr.1 j x hx).2.2 (j-1) y oM hy;simp only[EB]at hb;rw[hb]at this;cases this
   ·intro k b hk Ae;obtain rfl:k=j-1:=by omega
    rw[hy]at Ae;cases Ae;simpa using hb
  ·exact⟨j+1,w1.symm,next (xg.of hx oM oM λk b hk _=>by omega),Z9,gn⟩
 ·obtain⟨hj1,GI⟩:=hj;rw[ia]at gr ⊢;obtain rfl:j=i.s.levels.length:=by omega
  have uz:∀k,xg i.side i.s.levels k:=λk=>by
   rcases uo k i.s.levels.length with h'|h'
   ·exact GI k h'
   ·intro a ha;rw[tx h']at ha;cases ha
  refine Cv.dp.mk (λhh=>zH (λhl=>⟨(),?_,trivial⟩) (λhl=>⟨(),MZ λhr=>by have:=hr.2.1;omega,trivial⟩))
   (λhh=>zH (λhl=>zH (λhq=>⟨(),?_,trivial⟩) (λhq=>⟨(),MZ λhr=> ?_,trivial⟩)) (λhl=>⟨(),MZ λhr=>by have:=hr.2.1;omega,trivial⟩))
  ·have hh:i.s.has=ax:=by simpa using hh
   rw[IM];simp only[jY,tw,kx,beq_iff_eq,and_true];constructor
   ·intro hr;have:=hr.2.2.2 hh;rw[this];exact⟨rfl,rfl,rfl⟩
   ·rintro⟨e1,e2,e3⟩;refine⟨uz,oM,(λhc=>by rw[hh]at hc;cases hc),λ_=> ?_⟩;cases hi:i.s.imp;rw[hi]at e1 e2 e3;simp_all
  ·have hh:i.s.has=ay:=by simpa using hh
   rw[IM];simp only[jY,tw];exact⟨λhr=>(hr.2.2.1 hh).2,λhc=>⟨uz,oM,λ_=>⟨hq,hc⟩,λhc=>by rw[hh]at hc;cases hc⟩⟩
  ·have hh:i.s.has=ay:=by simpa using hh
   have:=(hr.2.2.1 hh).1;omega
def yEj:CX.ok Tryz.prog 182:=gw mixed (dw zUn fg) 0 (λ_=>[]) (λ_=>ySr) [] Tryz.func182 yRn
def vwF {v:Vw} (h:¬bQ v):b8 v=ax:=kr h
def yQb (v:Vw) (h:C1.dp v):z9r v:=by
 unfold z9r dI;obtain⟨h1,h2⟩:Mu v:=h;refine⟨0,rfl,λj=>j<=v.length/\∀k b,k<j->v[k]? =ba b->nn 1 b.1/\nn 2 b.2,λj=>v.length-j,⟨oM,by intro k b hk;omega⟩,λj hj=>zH (λgr=> ?_) (λgr=> ?_)⟩
 ·obtain⟨hj1,GI⟩:=hj;rw[ia]at gr ⊢;obtain⟨x,hx⟩:=getD (l:=v) (i:=j) oM;have hm:=lr hx;have w1:ar.wrap ((j:Int)+1)=((j+1:Nat):Int):=by rw[ir (by omega)];rfl
  refine⟨⟨oM,oM⟩,_,_,_,_,_,_,_,_,_,_,MB hx rfl,⟨1,x.1⟩,rfl,rfl,rfl,rfl,rfl,rfl,(h2 x hm).1,λ_ _=>Cv.dp.mk (λhb=> ?_) (λhb=>⟨⟨2,x.2⟩,Aa ⟨rfl,(h2 x hm).2,λ_ _=>Cv.dp.mk (λmr=> ?_) (λmr=> ?_)⟩⟩)⟩
  ·refine⟨(),vwF λhr=> ?_,trivial⟩;simp only[EB,jY,decide_eq_false_iff_not]at hb;exact hb (hr.1 x hm).1
  ·refine⟨(),vwF λhr=> ?_,trivial⟩;simp only[EB,jY,decide_eq_false_iff_not]at mr;exact mr (hr.1 x hm).2
  ·simp only[Bool.not_eq_false',jY,tw]at hb mr;refine⟨j+1,w1.symm,⟨oM,λk b hk Ae=> ?_⟩,Z9,gn⟩;rcases uo k j with h'|h'
   ·exact GI k b h' Ae
   ·obtain rfl:k=j:=by omega
    rw[hx]at Ae;cases Ae;exact⟨hb,mr⟩
 ·obtain⟨hj1,GI⟩:=hj;rw[ia]at gr ⊢;obtain rfl:j=v.length:=by omega
  refine⟨(),?_,trivial⟩;rw[IM];simp only[b8,tw];constructor
  ·intro hr;have:=hr.2;omega
  ·intro hr;refine⟨λb hb=> ?_,oM⟩;obtain⟨k,hk⟩:=MQ hb;exact GI k b (jl.1 hk).1 hk
def yEf:C1.ok Tryz.prog 138:=gw mixed (dw yEj fg) 0 (λ_=>[]) (λ_=>yQm) [] Tryz.func138 yQb
def ySd:QL.ok Tryz.prog 139:=gw (V:=y2z) mixed (dw Sq fg) 0 (λ_=>[]) (λ_=>[]) [] Tryz.func139 λ(i:Kl) h=>by
 have h:i.l.length+24<=1099511627776:=h;refine⟨⟨i.l,i.v.dj⟩,rfl,rfl,(show i.l.length+8<=1099511627776 by omega),λ_ _=>⟨⟨i.l++le i.v.dj 8,i.v.dq⟩,rfl,rfl,?_,λ_ _=>⟨⟨i.l++le i.v.dj 8++le i.v.dq 8,i.v.count⟩,rfl,rfl,?_,λ_ _=>⟨(),?_,trivial⟩⟩⟩⟩
 ·show _+8<=_;rw[im,xH];omega
 ·show _+8<=_;rw[im,im,xH,xH];omega
 ·simp only[kR,jd]
def VS {α:Type} {f:α->List UInt8} {c:Nat}:∀{l:List α},(∀x∈l,(f x).length<=c)->(l.flatMap f).length<=c*l.length
 |[],_=>by simp
 |a::l,h=>by
  have h1:=h a (by simp);have h2:=VS (l:=l) λx hx=>h x (by simp[hx])
  simp only[vx,im,iD,Nat.mul_add,Nat.mul_one];omega
def pG {α β:Type} {f:α->List β} {l:List α} {k:Nat} {x:α} (h:l[k]? =ba x):(l.take (k+1)).flatMap f=(l.take k).flatMap f++f x:=by
 rw[sm,h];simp
def zVf (l:Lv):(kR l).length=24:=by simp[kR,xH]
def tP (l:List Lv):(l.flatMap kR).length<=24*l.length:=VS λx _=>by rw[zVf];omega
def XT {s:Sd} (h:s.levels.length<=255):(G9 s).length<=6146:=by
 have:=tP s.levels;unfold G9;rw[im,im,AE];split
 ·rw[im,zVf,AE];omega
 ·rw[AE];omega
def nn.len {n:Int} {s:Sd} (h:nn n s):s.levels.length<=255:=h.2.1
def zZe {v:Vw} (h:bQ v) (j:Nat):((v.take j).flatMap vB).length<=3134460:=by
 have h1:∀x∈v.take j,(vB x).length<=12292:=λx hx=>by
  have:=h.1 x (MS hx);have a:=XT this.1.len;have b:=XT this.2.len;unfold vB;rw[im];omega
 have h2:=VS h1;have h3:=h.2;rw[oe]at h2;omega
def yFj (n:Int):0<=av.wrap n/\av.wrap n<4294967296:=by
 have:av.wrap n=n % 4294967296:=rfl;rw[this];omega
def YI (l:List UInt8):0<=aQ l/\aQ l<4294967296:=yFj _
def y6u (i:Gj) (h:Qq.dp i):y5z i:=by
 unfold y5z Vb Ve uO pC Wj VJ dI;refine⟨i.v,rfl,h,λ_ _=>Cv.dp.mk (λe=> ?_) (λe=> ?_)⟩
 ·have hn:¬bQ i.v:=by simpa[b8]using e
  exact⟨(),by rw[dS,ej hn];rfl,by rw[NL,ej hn],trivial⟩
 have hr:bQ i.v:=by simpa[b8]using e
 have hB:∀j,(le i.seq 8++[jf i.v.length]++(i.v.take j).flatMap vB).length<=3134470:=λj=>by
  have:=zZe hr j;simp only[im,xH,iD,tp];omega
 refine⟨(),trivial,λ_ _=>⟨⟨[],i.seq⟩,rfl,rfl,(show 0+8<=1099511627776 by omega),λ_ _=>⟨⟨le i.seq 8,i.v.length⟩,by rw[ia],rfl,(show(le i.seq 8).length+8<=1099511627776 by rw[xH];omega),λ_ _=>⟨0,rfl,by simp,λj=>j<=i.v.length,λj=>i.v.length-j,Z9,λj hj=>zH (λgr=> ?_) (λgr=> ?_)⟩⟩⟩⟩
 ·dsimp only at hj;rw[ia]at gr ⊢;obtain⟨x,hx⟩:=getD (l:=i.v) (i:=j) oM;have hm:=hr.1 x (lr hx);have l1:=hm.1.len;have l2:=hm.2.len;have hl:=hr.2;have w1:ar.wrap ((j:Int)+1)=((j+1:Nat):Int):=by rw[ir (by omega)];rfl
  have UO:=hB j;have Pt:le i.seq 8++[jf i.v.length]++(i.v.take (j+1)).flatMap vB=le i.seq 8++[jf i.v.length]++(i.v.take j).flatMap vB++vB x:=by
   rw[pG hx];simp only[jd]
  generalize hb:le i.seq 8++[jf i.v.length]++(i.v.take j).flatMap vB=B at UO Pt;have lv:∀(C:List UInt8) (l:List Lv) (k:Nat),C.length<=5000000->l.length<=255->((C++(l.take k).flatMap kR).length+24<=1099511627776):=λC l k hC hl=>by
   have:=tP (l.take k);rw[im];rw[oe]at this;omega
  have lw:∀(k:Nat),k<255->ar.wrap ((k:Int)+1)=((k+1:Nat):Int):=λk hk=>by rw[ir (by omega)];rfl
  have le1:=tP x.1.levels;have le2:=tP x.2.levels;refine⟨⟨oM,oM⟩,_,_,_,_,_,_,_,_,_,_,MB hx rfl,⟨B,x.1.levels.length⟩,by rw[ia],rfl,by show B.length+8<=_;omega,λ_ _=>⟨(B++[jf x.1.levels.length],x.1.levels,0),rfl,by simp,λy=>∃k,k<=x.1.levels.length/\y=(B++[jf x.1.levels.length],x.1.levels,k),λy=>x.1.levels.length-y.2.2,⟨0,oM,gn⟩,?_⟩⟩;rintro _ ⟨k,hk,rfl⟩;dsimp only;refine zH (λLh=> ?_) (λLh=> ?_)
  ·rw[ia]at Lh ⊢;obtain⟨y,hy⟩:=getD (l:=x.1.levels) (i:=k) oM;refine⟨⟨oM,oM⟩,_,_,_,MB hy rfl,⟨_,y⟩,rfl,rfl,rfl,rfl,lv _ _ _ (by rw[im];simp;omega) l1,λ_ _=>⟨(_,_,k+1),(lw k oM).symm,?_,⟨k+1,oM,gn⟩,Z9,gn⟩⟩;dsimp only;rw[pG hy];simp only[jd]
  ·rw[ia]at Lh;obtain rfl:k=x.1.levels.length:=by omega
   rw[og (km _)];have e1:G9 x.1=[jf x.1.levels.length]++x.1.levels.flatMap kR++(if x.1.has then[jf 1]++kR x.1.imp else[jf 0]):=rfl;have e2:G9 x.2=[jf x.2.levels.length]++x.2.levels.flatMap kR++(if x.2.has then[jf 1]++kR x.2.imp else[jf 0]):=rfl;have bl:∀C:List UInt8,C=B++G9 x.1->C.length<=4000000:=λC e=>by
    subst e;have:=XT l1;rw[im];omega
   refine Cv.dp.mk (λhh=> ?_) (λhh=> ?_)
   ·have hh:x.1.has=ax:=by simpa using hh
    rw[hh,ej (by simp)]at e1;refine⟨⟨B++[jf x.1.levels.length]++x.1.levels.flatMap kR,0⟩,rfl,rfl,(by dsimp only[WN.ok];simp only[im,iD,tp];omega),λ_ _=> ?_⟩;have eC:B++[jf x.1.levels.length]++x.1.levels.flatMap kR++[jf 0]=B++G9 x.1:=by rw[e1];simp only[jd]
    generalize B++[jf x.1.levels.length]++x.1.levels.flatMap kR++[jf 0]=C at eC
    (
    have hC:=bl C eC;refine⟨⟨C,x.2.levels.length⟩,by rw[ia],rfl,(show C.length+8<=1099511627776 by omega),λ_ _=>⟨(C++[jf x.2.levels.length],x.2.levels,0),rfl,by simp,λy=>∃k,k<=x.2.levels.length/\y=(C++[jf x.2.levels.length],x.2.levels,k),λy=>x.2.levels.length-y.2.2,⟨0,oM,gn⟩,?_⟩⟩;rintro _ ⟨k,hk,rfl⟩;dsimp only;refine zH (λxb=> ?_) (λxb=> ?_)
    ·rw[ia]at xb ⊢;obtain⟨y,hy⟩:=getD (l:=x.2.levels) (i:=k) oM;refine⟨⟨oM,oM⟩,_,_,_,MB hy rfl,⟨_,y⟩,rfl,rfl,rfl,rfl,lv _ _ _ (by rw[im];simp;omega) l2,λ_ _=>⟨(_,_,k+1),(lw k oM).symm,?_,⟨k+1,oM,gn⟩,Z9,gn⟩⟩;dsimp only;rw[pG hy];simp only[jd]
    ·rw[ia]at xb;obtain rfl:k=x.2.levels.length:=by omega
     rw[og (km _)];refine Cv.dp.mk (λBZ=> ?_) (λBZ=> ?_)
     ·have BZ:x.2.has=ax:=by simpa using BZ
      rw[BZ,ej (by simp)]at e2;refine⟨⟨C++[jf x.2.levels.length]++x.2.levels.flatMap kR,0⟩,rfl,rfl,(by dsimp only[WN.ok];simp only[im,iD,tp];omega),λ_ _=>⟨j+1,w1.symm,?_,oM,oM,gn⟩⟩;rw[Pt,vB,<- jd,<- eC,e2];simp only[jd]
     ·have BZ:x.2.has=ay:=by simpa using BZ
      rw[BZ,fc rfl]at e2;refine⟨⟨C++[jf x.2.levels.length]++x.2.levels.flatMap kR,1⟩,rfl,rfl,(by dsimp only[WN.ok];simp only[im,iD,tp];omega),λ_ _=>⟨⟨_,x.2.imp⟩,rfl,rfl,rfl,rfl,(by simp only[im,iD,tp];omega),λ_ _=>⟨j+1,w1.symm,?_,oM,oM,gn⟩⟩⟩;rw[Pt,vB,<- jd,<- eC,e2];simp only[jd])
   ·have hh:x.1.has=ay:=by simpa using hh
    rw[hh,fc rfl]at e1;refine⟨⟨B++[jf x.1.levels.length]++x.1.levels.flatMap kR,1⟩,rfl,rfl,(by dsimp only[WN.ok];simp only[im,iD,tp];omega),λ_ _=>⟨⟨_,x.1.imp⟩,rfl,rfl,rfl,rfl,(by simp only[im,iD,tp];omega),λ_ _=> ?_⟩⟩;have eC:B++[jf x.1.levels.length]++x.1.levels.flatMap kR++[jf 1]++kR x.1.imp=B++G9 x.1:=by rw[e1];simp only[jd]
    generalize B++[jf x.1.levels.length]++x.1.levels.flatMap kR++[jf 1]++kR x.1.imp=C at eC
    (
    have hC:=bl C eC;refine⟨⟨C,x.2.levels.length⟩,by rw[ia],rfl,(show C.length+8<=1099511627776 by omega),λ_ _=>⟨(C++[jf x.2.levels.length],x.2.levels,0),rfl,by simp,λy=>∃k,k<=x.2.levels.length/\y=(C++[jf x.2.levels.length],x.2.levels,k),λy=>x.2.levels.length-y.2.2,⟨0,oM,gn⟩,?_⟩⟩;rintro _ ⟨k,hk,rfl⟩;dsimp only;refine zH (λxb=> ?_) (λxb=> ?_)
    ·rw[ia]at xb ⊢;obtain⟨y,hy⟩:=getD (l:=x.2.levels) (i:=k) oM;refine⟨⟨oM,oM⟩,_,_,_,MB hy rfl,⟨_,y⟩,rfl,rfl,rfl,rfl,lv _ _ _ (by rw[im];simp;omega) l2,λ_ _=>⟨(_,_,k+1),(lw k oM).symm,?_,⟨k+1,oM,gn⟩,Z9,gn⟩⟩;dsimp only;rw[pG hy];simp only[jd]
    ·rw[ia]at xb;obtain rfl:k=x.2.levels.length:=by omega
     rw[og (km _)];refine Cv.dp.mk (λBZ=> ?_) (λBZ=> ?_)
     ·have BZ:x.2.has=ax:=by simpa using BZ
      rw[BZ,ej (by simp)]at e2;refine⟨⟨C++[jf x.2.levels.length]++x.2.levels.flatMap kR,0⟩,rfl,rfl,(by dsimp only[WN.ok];simp only[im,iD,tp];omega),λ_ _=>⟨j+1,w1.symm,?_,oM,oM,gn⟩⟩;rw[Pt,vB,<- jd,<- eC,e2];simp only[jd]
     ·have BZ:x.2.has=ay:=by simpa using BZ
      rw[BZ,fc rfl]at e2;refine⟨⟨C++[jf x.2.levels.length]++x.2.levels.flatMap kR,1⟩,rfl,rfl,(by dsimp only[WN.ok];simp only[im,iD,tp];omega),λ_ _=>⟨⟨_,x.2.imp⟩,rfl,rfl,rfl,rfl,(by simp only[im,iD,tp];omega),λ_ _=>⟨j+1,w1.symm,?_,oM,oM,gn⟩⟩⟩;rw[Pt,vB,<- jd,<- eC,e2];simp only[jd])
 ·dsimp only at hj;rw[ia]at gr;obtain rfl:j=i.v.length:=by omega
  have UO:=hB i.v.length;rw[og (km _)]at UO ⊢;have hc:=YI (bV i.v i.seq);have hl:(bV i.v i.seq).length<=3134470:=UO;have Ng:(bV i.v i.seq++le (aQ (bV i.v i.seq)) 4).length<=1099511627776:=by rw[im,xH];omega
  exact⟨bV i.v i.seq,rfl,oM,λ_ _=>⟨bV i.v i.seq,rfl,oM,λ_ _=>⟨⟨bV i.v i.seq,_⟩,rfl,rfl,⟨Z9,hc.1,hc.2⟩,λ_ _=>⟨_,rfl,Ng,λ_ _=>⟨(),by rw[dS,fc hr];rfl,by rw[NL,fc hr],trivial⟩⟩⟩⟩⟩
def y0o:Qq.ok Tryz.prog 83:=gw mixed (dw yEf (dw Se (dw Sq (dw RS (dw ySd (dw R7 (dw Zb (dw yKf fg)))))))) 0 (λ_=>[]) (λi=>y7k i) [] Tryz.func83 y6u
@[reducible] def IX:Nat:=43
def gi (l:List UInt8):List D:=[.ro 1 (bE l)]
def Bj:fy:=fj Nat (λn=>[.d (.v (.slice bc 0 0)),zA n]) (λ_=>[]) (λn=>1<=n/\n<=1099511627776) (λ_=> .own 0) (λ_=>[.own D1 1 []])
def xi:fy:=fj (List (List UInt8)) (λls=>[oy 1 (ls.map gi)]) (λ_=>[]) (λls=>1<=ls.flatten.length/\ls.flatten.length<=1099511627776/\ls.length<=1000) (λ_=> .own 0) (λls=>[.own D1 1 (bE ls.flatten)])
def yUr (ls:List (List UInt8)):List gj:=[
 {ι:=Nat,du:=λk=>[(3,zA (ls.take k).flatten.length),(11,zA k)],rows:=λ_=>[]},
 {ι:=Nat,du:=λk=>[(6,.own 0),(27,zA k)],rows:=λk=>[.own D1 1 (bE (ls.take k).flatten)]}]
structure Dk where
 b:List UInt8
 safe:Nat
def K4 (d:Dk):Nat->ff
 |0=> .cells [.own 1,zA d.safe] 161
 |1=> .own D1 1 (bE d.b)
 |_=> .gone
def iy (d:Dk):ff:= .qq Dk 2 K4 d
@[reducible] def Dk.ok (d:Dk):Prop:=d.safe<=d.b.length/\d.b.length<=1048576
structure HH where
 d:Dk
 l:List UInt8
def JV:fy:=fj Unit (λ_=>[]) (λ_=>[]) (λ_=>True) (λ_=> .nm 0 0) (λ_=>[iy ⟨[],0⟩])
def Rs:fy:=fj HH (λi=>[.nm 0 0,oy 1 (bE i.l)]) (λi=>[iy i.d]) (λi=>i.d.b.length+i.l.length<=1048576) (λ_=>zA 0) (λi=>[iy ⟨i.d.b++i.l,i.d.safe⟩])
def Rm:fy:=fj Dk (λ_=>[.nm 0 0]) (λd=>[iy d]) (λd=>d.ok) (λ_=>c9) (λd=>[iy ⟨d.b,d.b.length⟩])
def Rr:fy:=fj Dk (λ_=>[.nm 0 0]) (λd=>[iy d]) (λd=>d.ok) (λ_=> .own 1) (λd=>[iy d,.own D1 1 (bE d.b)])
def rr:fy:=fj (List (List D)) (λl=>[oy 1 l]) (λ_=>[]) (λl=>l.length<=140737488355328) (λ_=> .own 0) (λl=>[.own D1 1 l])
def Rn:fy:=fj HH (λi=>[.nm 0 0,oy 1 (bE i.l)]) (λi=>[iy i.d]) (λi=>i.l.length<=1048576) (λ_=>zA 0) (λi=>[iy ⟨i.l,i.l.length⟩])
def xZ (l:List UInt8):List UInt8:=jf l.length::UInt8.ofNat (255-l.length)::(l++le (aQ l) 4)
def FI:fy:=fj (List UInt8) (λl=>[oy 1 (bE l)]) (λ_=>[]) (λl=>l.length<=255) (λ_=> .iW [.own 0,zA 0]) (λl=>[.own D1 1 (bE (xZ l))])
def yXn:List (Nat×gj):=[(20,{ι:=Unit,du:=λ_=>[],rows:=λ_=>[],CB:=[4]})]
def Bv (l:List UInt8):List UInt8×Nat×Int:=
 if l.length<2 then([],0,10)else if(l.getD 1 0).toNat≠255-(l.getD 0 0).toNat then([],0,14)else
 if l.length<6+(l.getD 0 0).toNat then([],0,10)else
 if qE ((l.drop (2+(l.getD 0 0).toNat)).take 4)≠aQ ((l.drop 2).take (l.getD 0 0).toNat)then([],0,14)else
 ((l.drop 2).take (l.getD 0 0).toNat,6+(l.getD 0 0).toNat,0)
structure CP where
 b:List UInt8
 k:Nat
def CP.x (i:CP):List UInt8×Nat×Int:=Bv (i.b.drop i.k)
def ID:V:= .d (.v (.slice bc 0 0))
def PE:fy where
 ι:=CP
 pat:=λi=>[oy 1 (bE i.b),zA i.k]
 pre:=λ_=>[]
 dp:=λi=>i.k<=i.b.length/\i.b.length<=1099511627776
 alts:=λi=>[{o:=Unit,res:=λ_=> .iW [.own 0,zA (i.k+i.x.2.1),zA 0],post:=λ_=>[.own D1 1 (bE i.x.1)],rel:=λ_=>i.x.2.2=0},
  {o:=Unit,res:=λ_=> .iW [ID,zA 0,zA i.x.2.2],post:=λ_=>[],rel:=λ_=>i.x.2.2≠0}]
def mu (L:List (List UInt8)):List UInt8:=L.flatMap xZ
structure Dz where
 L:List (List UInt8)
 t:List UInt8
@[reducible] def Dz.ok (i:Dz):Prop:=(∀l∈i.L,l.length<=255)/\(Bv i.t).2.2=10/\(mu i.L).length+i.t.length<=1048576
@[reducible] def yk (L:List (List UInt8)):ff:= .own IX 1 (L.map gi)
def Jt:fy:=fj Dz (λi=>[oy 1 (bE (mu i.L++i.t))]) (λ_=>[]) (λi=>i.ok) (λi=> .iW [.own 0,zA (mu i.L).length,zA 0]) (λi=>[yk i.L])
def y2i (i:Dz):List gj:=[{ι:=Nat,du:=λk=>[(5,.own 0),(6,zA (mu (i.L.take k)).length)],rows:=λk=>[yk (i.L.take k)]}]
def D3 (d:Nat) (n:Int):ff:= .cells [.nm d 0,zA n] 201
structure BM where
 s:Nat
 L:List (List UInt8)
 t:List UInt8
def BM.d (i:BM):Dk:=⟨mu i.L++i.t,i.s⟩
def BM.d' (i:BM):Dk:=if i.t=[]then i.d else⟨mu i.L,(mu i.L).length⟩
def aax:fy:=fj BM (λ_=>[.nm 0 0]) (λi=>[iy i.d]) (λi=>(Dz.mk i.L i.t).ok/\i.d.ok) (λ_=> .iW [.nm 1 0,.own 2,zA 0]) (λi=>[iy i.d',D3 0 i.L.length,yk i.L])
structure Jm where
 d:Dk
 n:Int
 l:List UInt8
def QT:fy:=fj Jm (λi=>[.nm 0 0,oy 1 (bE i.l)]) (λi=>[D3 1 i.n,iy i.d]) (λi=>i.l.length<=255/\i.d.b.length+i.l.length+6<=1048576/\0<=i.n/\i.n<=1048576) (λ_=>zA 0) (λi=>[D3 1 (i.n+1),iy ⟨i.d.b++xZ i.l,i.d.safe⟩])
def QS:fy:=fj Jm (λi=>[.nm 0 0]) (λi=>[D3 1 i.n,iy i.d]) (λi=>i.d.ok) (λ_=>c9) (λi=>[D3 1 i.n,iy ⟨i.d.b,i.d.b.length⟩])
def aA (a:Nat) (b:List (List UInt8)):=(↑(ak a b).flatten.length:Int)
def Ty (ls:List (List UInt8)):Prop:=
 ∃(a:Nat),(aA a ls)=0/\(↑a:Int)=0/\∃(b:Nat->Prop),∃(c:Nat->Nat),b a/\∀(d:Nat),b d->dp (decide ((↑d:Int)<(↑(aj gi ls).length:Int))) ((0<=(↑d:Int)/\(↑d:Int)<(↑(aj gi ls).length:Int))/\∃(e:List (List D)),zD (aj gi ls) (↑d:Int).toNat 0 1=ba [D.ro 1 e]/\dp (decide (ar.wrap ((aA d ls)+(↑e.length:Int))<0)) False (∃(f:Nat),(aA f ls)=ar.wrap ((aA d ls)+(↑e.length:Int))/\kA f d b c)) (∃(e:Nat),True/\(↑e:Int)=(aA d ls)/\(1<=e/\e<=1099511627776)/\∀(f:Unit),True->∃(g:Nat),(↑g:Int)=0/\bE (ak g ls).flatten=[]/\∃(h:Nat->Prop),∃(j:Nat->Nat),h g/\∀(k:Nat),h k->dp (decide ((↑k:Int)<(↑(aj gi ls).length:Int))) ((0<=(↑k:Int)/\(↑k:Int)<(↑(aj gi ls).length:Int))/\∃(l:List (List D)),zD (aj gi ls) (↑k:Int).toNat 0 1=ba [D.ro 1 l]/\((bE (ak k ls).flatten).length+l.length)*(1:Nat)<=(140737488355328:Nat)/\∃(m:Nat),(↑m:Int)=ar.wrap ((↑k:Int)+1)/\bE (ak m ls).flatten=bE (ak k ls).flatten++l/\h m/\j m<j k/\True) (∃(l:Unit),bE ls.flatten=bE (ak k ls).flatten/\True))
def y1c (ls:List (List UInt8)):Ty ls=walk Tryz.prog ([(113,Bj)]) 0 ([]) (yUr ls) [] Tryz.f50 (Tryz.f50.body.getD .skip) (xi.pat ls) (xi.pre ls) (xi.alts ls):=by kernel_rfl
def y1e (hG:A0 Tryz.prog ([(113,Bj)])) (h:∀(ls:List (List UInt8)),xi.dp ls->Ty ls):xi.ok Tryz.prog 50:=vC mixed ([(113,Bj)]) hG 0 (λ(ls:List (List UInt8))=>[]) (λ(ls:List (List UInt8))=>yUr ls) [] Tryz.func50 (by kernel_rfl) (by kernel_rfl) (by kernel_rfl) (λ_=>by kernel_rfl) (λ(ls:List (List UInt8)) hc=>Eq.mp (y1c ls) (h ls hc))
def y1s (u:Unit):Prop:=
 ∃(o:Unit),(↑(0:Nat):Int)=0/\bE []=[]/\True
def yVj (i:HH):Prop:=
 dp (decide ((↑(bE i.l).length:Int)>ar.wrap (1048576-(↑(bE i.d.b).length:Int)))) (∃(a:Unit),(0:Int)=(13:Int)/\di ((↑i.d.safe:Int))/\bE (i.d.b++i.l)=bE i.d.b/\True) (((bE i.d.b).length+(bE i.l).length)*(1:Nat)<=(140737488355328:Nat)/\∃(a:Unit),di ((0:Int))/\di ((↑i.d.safe:Int))/\bE (i.d.b++i.l)=bE i.d.b++bE i.l/\True)
def y5j (d:Dk):Prop:=
 ∃(o:Unit),(↑d.b.length:Int)=(↑(bE d.b).length:Int)/\di (bE d.b)/\True
def y3j (d:Dk):Prop:=
 ∃(i:List (List D)),i=bE d.b/\i.length*(1:Nat)<=(140737488355328:Nat)/\∀(o:Unit),True->∃(o:Unit),di ((↑d.safe:Int))/\bE d.b=i/\bE d.b=i/\True
def z1y (i:List (List D)):Prop:=
 ∀(b:Bool),(b=ay->i=[])->dp b (∃(o:Unit),i=[]/\True) ((0+i.length)*(1:Nat)<=(140737488355328:Nat)/\∃(o:Unit),i=[]++i/\True)
def yDy (i:List (List D)):z1y i=walk Tryz.prog ([]) 0 ([]) ([]) [] Tryz.f70 (Tryz.f70.body.getD .skip) (rr.pat i) (rr.pre i) (rr.alts i):=by kernel_rfl
def yEk (hG:A0 Tryz.prog ([])) (h:∀(i:List (List D)),rr.dp i->z1y i):rr.ok Tryz.prog 70:=vC mixed ([]) hG 0 (λ(i:List (List D))=>[]) (λ(i:List (List D))=>[]) [] Tryz.func70 (by kernel_rfl) (by kernel_rfl) (by kernel_rfl) (λ_=>by kernel_rfl) (λ(i:List (List D)) hc=>Eq.mp (yDy i) (h i hc))
def yVg (i:HH):Prop:=
 dp (decide ((↑(bE i.l).length:Int)>1048576)) (∃(a:Unit),(0:Int)=(13:Int)/\(↑i.l.length:Int)=(↑i.d.safe:Int)/\bE i.l=bE i.d.b/\True) (∃(a:List (List D)),a=bE i.l/\a.length<=140737488355328/\∀(b:Unit),True->∃(c:Unit),di ((0:Int))/\(↑i.l.length:Int)=(↑a.length:Int)/\bE i.l=a/\True)
def yGk (l:List UInt8):Prop:=
 dp (decide ((↑(bE l).length:Int)>255)) (∃(a:Unit),(0:Int)=(3:Int)/\bE (xZ l)=[]/\True) (∃(a:Unit),True/\∀(b:Unit),True->∃(c:WN),c.n=(↑(bE l).length:Int)/\aa (List UInt8) 2 iZ c.l=aa (List UInt8) 2 iZ []/\c.ok/\∀(d:Unit),True->∃(e:WN),e.n=ar.wrap (↑(cf ar.bits (if ar.signed=ay then(-1:Int)else ar.max) ^^^ cf ar.bits (↑(bE l).length:Int)).toNat:Int)/\aa (List UInt8) 2 iZ e.l=aa (List UInt8) 2 iZ (c.l++[jf c.n])/\e.ok/\∀(f:Unit),True->((bE (e.l++[jf e.n])).length+(bE l).length)*(1:Nat)<=(140737488355328:Nat)/\∃(g:List UInt8),bE g=bE l/\g.length<=1099511627776/\∀(h:Unit),True->∃(j:WN),j.n=aQ g/\bE j.l=bE (e.l++[jf e.n])++bE l/\(j.l.length+(8:Nat)<=(1099511627776:Nat)/\0<=j.n/\j.n<4294967296)/\∀(k:Unit),True->∃(m:List UInt8),aa (List UInt8) 2 iZ m=aa (List UInt8) 2 iZ (j.l++le j.n 4)/\m.length<=1099511627776/\∀(n:Unit),True->∃(p:Unit),di ((0:Int))/\bE (xZ l)=bE m/\True)
def mN (a:CP):=(ap (↑a.k:Int).toNat (bE a.b))
def cX (a:CP):=(↑(mN a).length:Int)
def dA (a:Int):=(2+ar.wrap a)
def Ww (a:Int) (b:CP):Prop:=(0:Int)<=(2:Int)/\2<=ar.wrap (dA a)/\ar.wrap (dA a)<=(cX b)
def SQ (a:Int) (b:CP):=(ak (ar.wrap (dA a)).toNat (mN b))
def eU (a:Int):=(ar.wrap (dA a)+4)
def y5c (i:CP):Prop:=
 dp (decide ((↑i.k:Int)>(↑(bE i.b).length:Int))) ((∃(a:Unit),(↑i.k:Int)+(↑i.x.snd.fst:Int)=(0:Int)/\(0:Int)=1/\bE i.x.fst=[]/\i.x.snd.snd=0)\/(∃(a:Unit),True/\di ((0:Int))/\i.x.snd.snd=1/\(i.x.snd.snd=0->False))) ((0<=(↑i.k:Int)/\(↑i.k:Int)<=(↑(bE i.b).length:Int))/\dp (decide ((cX i)<2)) ((∃(a:Unit),(↑i.k:Int)+(↑i.x.snd.fst:Int)=(0:Int)/\(0:Int)=10/\bE i.x.fst=[]/\i.x.snd.snd=0)\/(∃(a:Unit),True/\di ((0:Int))/\i.x.snd.snd=10/\(i.x.snd.snd=0->False))) (((0:Int)<=(1:Int)/\1<(cX i))/\∃(a:Int),zD (mN i) (bo 1) 0 1=ba [D.v (.int .u8 a)]/\((0:Int)<=(0:Int)/\0<(cX i))/\∃(b:Int),zD (mN i) (bo 0) 0 1=ba [D.v (.int .u8 b)]/\dp (a !=aw.wrap (↑(cf aw.bits (if aw.signed=ay then(-1:Int)else aw.max) ^^^ cf aw.bits b).toNat:Int)) ((∃(c:Unit),(↑i.k:Int)+(↑i.x.snd.fst:Int)=(0:Int)/\(0:Int)=14/\bE i.x.fst=[]/\i.x.snd.snd=0)\/(∃(c:Unit),True/\di ((0:Int))/\i.x.snd.snd=14/\(i.x.snd.snd=0->False))) (((0:Int)<=(0:Int)/\0<(cX i))/\∃(c:Int),zD (mN i) (bo 0) 0 1=ba [D.v (.int .u8 c)]/\dp (decide ((cX i)<ar.wrap (eU c))) ((∃(d:Unit),(↑i.k:Int)+(↑i.x.snd.fst:Int)=(0:Int)/\(0:Int)=10/\bE i.x.fst=[]/\i.x.snd.snd=0)\/(∃(d:Unit),True/\di ((0:Int))/\i.x.snd.snd=10/\(i.x.snd.snd=0->False))) ((0<=ar.wrap (dA c)/\ar.wrap (dA c)<=ar.wrap (eU c)/\ar.wrap (eU c)<=(cX i))/\∃(d:List UInt8),bE d=ap (ar.wrap (dA c)).toNat (ak (ar.wrap (eU c)).toNat (mN i))/\d.length<=1099511627776/\∀(e:Unit),True->(Ww c i)/\∃(f:RN),(↑f.n:Int)=4/\aa (List UInt8×Bool) 1 nt (f.l,f.b)=aa (List UInt8×Bool) 1 nt (d,ax)/\(f.n<=8/\f.l.length<=1099511627776)/\∀(g:Unit),True->∃(h:List UInt8),bE h=ap (bo 2) (SQ c i)/\h.length<=1099511627776/\∀(j:Unit),True->dp (av.wrap (qE f.kj) !=aQ h) ((∃(k:Unit),(↑i.k:Int)+(↑i.x.snd.fst:Int)=(0:Int)/\(0:Int)=14/\bE i.x.fst=[]/\i.x.snd.snd=0)\/(∃(k:Unit),True/\di ((0:Int))/\i.x.snd.snd=14/\(i.x.snd.snd=0->False))) ((Ww c i)/\(0+(ap (bo 2) (SQ c i)).length)*(1:Nat)<=(140737488355328:Nat)/\((∃(k:Unit),(↑i.k:Int)+(↑i.x.snd.fst:Int)=ar.wrap (ar.wrap ((↑i.k:Int)+ar.wrap (dA c))+4)/\di ((0:Int))/\bE i.x.fst=[]++ap (bo 2) (SQ c i)/\i.x.snd.snd=0)\/(∃(k:Unit),False)))))))
def fT (a:Nat) (b:Dz):=(↑(mu (ak a b.L)).length:Int)
def Xx (a:Dz) (b:Nat):Prop:=∃(c:Unit),(↑(mu a.L).length:Int)=(fT b a)/\di ((0:Int))/\aj gi a.L=aj gi (ak b a.L)/\True
def yTr (i:Dz):Prop:=
 ∃(a:Nat),(fT a i)=0/\aj gi (ak a i.L)=[]/\∃(b:Nat->Prop),∃(c:Nat->Nat),b a/\∀(d:Nat),b d->dp (decide ((fT d i)<(↑(bE (mu i.L++i.t)).length:Int))) (∃(e:CP),bE e.b=bE (mu i.L++i.t)/\(↑e.k:Int)=(fT d i)/\(e.k<=e.b.length/\e.b.length<=1099511627776)/\(∀(f:Unit),e.x.snd.snd=0->((aj gi (ak d i.L)).length+1)*(24:Nat)<=(140737488355328:Nat)/\∃(g:Nat),(fT g i)=(↑e.k:Int)+(↑e.x.snd.fst:Int)/\aj gi (ak g i.L)=aj gi (ak d i.L)++[[D.ro 1 (bE e.x.fst)]]/\b g/\c g<c d/\True)/\∀(f:Unit),e.x.snd.snd≠0->dp (e.x.snd.snd==0) (((aj gi (ak d i.L)).length+1)*(24:Nat)<=(140737488355328:Nat)/\∃(g:Nat),(fT g i)=0/\aj gi (ak g i.L)=aj gi (ak d i.L)++[[D.ro 1 []]]/\b g/\c g<c d/\True) (dp (e.x.snd.snd==10) (Xx i d) (∃(g:Unit),(↑(mu i.L).length:Int)=(fT d i)/\(0:Int)=(14:Int)/\aj gi i.L=aj gi (ak d i.L)/\True))) (Xx i d)
def y4o (i:BM):Prop:=
 ∃(a:Dk),iy a=iy i.d/\(a.safe<=a.b.length/\a.b.length<=1048576)/\∀(b:Unit),True->∃(c:Dz),bE (mu c.L++c.t)=bE a.b/\((∀(d:List UInt8),d∈c.L->d.length<=255)/\(Bv c.t).snd.snd=10/\(mu c.L).length+c.t.length<=1048576)/\∀(d:Unit),True->dp (decide ((↑(mu c.L).length:Int)<(↑(bE a.b).length:Int))) ((0<=(↑(mu c.L).length:Int)/\(↑(mu c.L).length:Int)<=(↑(bE a.b).length:Int))/\∃(e:HH),bE e.l=ak (↑(mu c.L).length:Int).toNat (bE a.b)/\iy e.d=iy a/\e.l.length<=1048576/\∀(f:Unit),True->∃(g:Unit),di ((0:Int))/\iy i.d'=iy (Dk.mk e.l e.l.length)/\(↑i.L.length:Int)=(↑(aj gi c.L).length:Int)/\aj gi i.L=aj gi c.L/\True) (∃(e:Unit),di ((0:Int))/\iy i.d'=iy a/\(↑i.L.length:Int)=(↑(aj gi c.L).length:Int)/\aj gi i.L=aj gi c.L/\True)
def y2f (i:Jm):Prop:=
 ∃(ig:List UInt8),bE ig=bE i.l/\ig.length<=255/\∀(o:Unit),True->∃(mq:HH),bE mq.l=bE (xZ ig)/\aa Dk 2 K4 mq.d=iy i.d/\mq.d.b.length+mq.l.length<=1048576/\∀(o:Unit),True->∃(o:Unit),di ((0:Int))/\i.n+1=ar.wrap (i.n+1)/\aa Dk 2 K4 (Dk.mk (i.d.b++xZ i.l) i.d.safe)=aa Dk 2 K4 (Dk.mk (mq.d.b++mq.l) mq.d.safe)/\True
def y6b (i:Jm):Prop:=
 ∃(ig:Dk),aa Dk 2 K4 ig=iy i.d/\(ig.safe<=ig.b.length/\ig.b.length<=1048576)/\∀(o:Unit),True->∃(o:Unit),i.n=i.n/\aa Dk 2 K4 (Dk.mk i.d.b i.d.b.length)=aa Dk 2 K4 (Dk.mk ig.b ig.b.length)/\True
def sb (l:List UInt8):ByteArray:=⟨l.toArray⟩
@[reducible] def sV (l:List UInt8):V:= .d (.v (.string (sb l)))
def El (l:List UInt8):Nat×Nat:=bg (sb l) 0
def Mr:Nat->Nat->List UInt8->List (Nat×Nat)
 |0,_,_=>[]
 |k+1,p,l=>match l with
  |[]=>[]
  |_=>(p,(El l).1)::Mr k (p+(El l).2) (l.drop (El l).2)
def gD (s:List UInt8) (p:Nat):List (Nat×Nat):=Mr (s.length-p) p (s.drop p)
def kY (s:List UInt8):List Nat:=(gD s 0).map (·.2)
def FR:fy:=fj (List UInt8) (λs=>[sV s]) (λ_=>[]) (λs=>s.length<=1099511627776) (λs=>zA (kY s).length) (λ_=>[])
def y1m (s:List UInt8):List gj:=[{ι:=Nat×Nat,du:=λx=>[(3,zA x.2),(5,.nm 0 0)],rows:=λx=>[.iter (sb s) x.1]}]
def gK (r:Nat):Bool:=(decide (65<=r) && decide (r<=90))||(decide (913<=r) && decide (r<=937) && decide (r≠930))
def wE (s:List UInt8):Bool:=(kY s).all gK && decide (s≠[]) && decide ((kY s).length<=4)
def PK:fy:=fj (List UInt8) (λs=>[sV s]) (λ_=>[]) (λs=>s.length<=1099511627776) (λs=>yL (wE s)) (λ_=>[])
def y6l (s:List UInt8):List gj:=[{ι:=Nat,du:=λx=>[(7,.nm 0 0)],rows:=λx=>[.iter (sb s) x]}]
def iE (l:List Int):List (List D):=l.map λn=>[.v (.int .i64 n)]
@[reducible] def iV (l:List Int):V:=oy 1 (iE l)
structure fb where
 code:List UInt8
 dk:List Int
 tick:Int
 low:Int
 high:Int
 wide:Int
 dr:Int
 top:Int
 least:Int
 part:Int
 settle:List Int
 deriving DecidableEq
@[reducible] def fb.cells (p:fb):List V:=[sV p.code,iV p.dk,zA p.tick,zA p.low,zA p.high,zA p.wide,zA p.dr,zA p.top,zA p.least,zA p.part,iV p.settle]
@[reducible] def nu (p:fb):V:= .agg p.cells
@[reducible] def fb.small (p:fb):Prop:=p.code.length<=1099511627776/\p.dk.length<=1099511627776/\p.settle.length<=1099511627776
def qU (l:List Int) (k:Nat):Bool:=decide (0<=l.getD k 0) && decide (l.getD k 0<=1199) && (decide (k=0)||decide (l.getD (k-1) 0<l.getD k 0))
def xG (l:List Int):Bool:=(ao l.length).all (qU l) && decide (2<=l.length) && decide (l.length<=6)
def C':fy:=fj (List Int) (λl=>[iV l]) (λ_=>[]) (λl=>l.length<=1099511627776) (λl=>yL (xG l)) (λ_=>[])
def yRl:List gj:=[{ι:=Nat,du:=λj=>[(7,zA j)],rows:=λ_=>[]}]
def sW (l:List Int):Int:=l.tail.foldl min (l.headD 0)
def eR (l:List Int):Int:=l.tail.foldl max (l.headD 0)
def P4:fy:=fj (List Int) (λl=>[iV l]) (λ_=>[]) (λl=>0<l.length/\l.length<=1099511627776) (λl=>zA (sW l)) (λ_=>[])
def P5:fy:=fj (List Int) (λl=>[iV l]) (λ_=>[]) (λl=>0<l.length/\l.length<=1099511627776) (λl=>zA (eR l)) (λ_=>[])
def y8h (l:List Int):List gj:=[{ι:=Nat,du:=λj=>[(3,zA (sW (l.take j))),(4,zA j)],rows:=λ_=>[]}]
def y7x (l:List Int):List gj:=[{ι:=Nat,du:=λj=>[(3,zA (eR (l.take j))),(4,zA j)],rows:=λ_=>[]}]
def dY (a:Nat×Nat) (b:List UInt8) (c:Nat×Nat->Prop) (d:Nat×Nat->Nat):Prop:=∃(e:Nat×Nat),(↑e.snd:Int)=ar.wrap ((↑a.snd:Int)+1)/\sb b=sb b/\e.fst=a.fst+(bg (sb b) a.fst).snd/\c e/\d e<d a/\True
def yHx (s:List UInt8):Prop:=
 ∃(a:Nat×Nat),(↑a.snd:Int)=0/\sb s=sb s/\a.fst=0/\∃(b:Nat×Nat->Prop),∃(c:Nat×Nat->Nat),b a/\∀(d:Nat×Nat),b d->dp (d.fst.blt (sb s).size) (dY d s b c) (∃(e:Unit),(↑(kY s).length:Int)=(↑d.snd:Int)/\True)
def SF (a:List UInt8) (b:Nat) (c:Nat->Prop) (d:Nat->Nat):Prop:=∃(e:Nat),sb a=sb a/\e=b+(bg (sb a) b).snd/\c e/\d e<d b/\True
def fY (a:List UInt8) (b:Nat):=(↑(bg (sb a) b).fst:Int)
def y5m (s:List UInt8):Prop:=
 ∃(a:Nat),sb s=sb s/\a=0/\∃(b:Nat->Prop),∃(c:Nat->Nat),b a/\∀(d:Nat),b d->dp (d.blt (sb s).size) (dp (decide ((fY s d)>=65)) (dp (decide ((fY s d)<=90)) (SF s d b c) (dp (decide ((fY s d)>=913)) (dp (decide ((fY s d)<=937)) (dp (!(fY s d) !=930) (∃(e:Unit),wE s=ax/\True) (SF s d b c)) (∃(e:Unit),wE s=ax/\True)) (∃(e:Unit),wE s=ax/\True))) (dp (decide ((fY s d)>=913)) (dp (decide ((fY s d)<=937)) (dp (!(fY s d) !=930) (∃(e:Unit),wE s=ax/\True) (SF s d b c)) (∃(e:Unit),wE s=ax/\True)) (∃(e:Unit),wE s=ax/\True))) (dp (!(sb s).toList==(ByteArray.mk #[]).toList) (∃(e:List UInt8),sb e=sb s/\e.length<=1099511627776/\∀(f:Unit),True->∃(g:Unit),wE s=decide ((↑(kY e).length:Int)<=4)/\True) (∃(e:Unit),wE s=ax/\True))
def v7 (a:Nat) (b:Nat->Prop) (c:Nat->Nat):Prop:=∃(d:Nat),kA d a b c
def yAf (l:List Int):Prop:=
 ∃(a:Nat),(↑a:Int)=0/\∃(b:Nat->Prop),∃(c:Nat->Nat),b a/\∀(d:Nat),b d->dp (decide ((↑d:Int)<(↑(iE l).length:Int))) ((0<=(↑d:Int)/\(↑d:Int)<(↑(iE l).length:Int))/\∃(e:Int),zD (iE l) (↑d:Int).toNat 0 1=ba [dI e]/\dp (decide (e<0)) (∃(f:Unit),xG l=ax/\True) (dp (decide (e>1199)) (∃(f:Unit),xG l=ax/\True) (dp (decide ((↑d:Int)>0)) ((0<=ar.wrap ((↑d:Int)-1)/\ar.wrap ((↑d:Int)-1)<(↑(iE l).length:Int))/\∃(f:Int),zD (iE l) (ar.wrap ((↑d:Int)-1)).toNat 0 1=ba [dI f]/\dp (decide (f>=e)) (∃(g:Unit),xG l=ax/\True) (v7 d b c)) (v7 d b c)))) (dp (decide ((↑(iE l).length:Int)>=2)) (∃(e:Unit),xG l=decide ((↑(iE l).length:Int)<=6)/\True) (∃(e:Unit),xG l=ax/\True))
def y3a (l:List Int):Prop:=
 dp (decide ((↑(iE l).length:Int)<1)) False (((0:Int)<=(0:Int)/\0<(↑(iE l).length:Int))/\∃(a:Int),zD (iE l) (bo 0) 0 1=ba [dI a]/\∃(b:Nat),sW (ak b l)=a/\(↑b:Int)=1/\∃(c:Nat->Prop),∃(d:Nat->Nat),c b/\∀(e:Nat),c e->dp (decide ((↑e:Int)<(↑(iE l).length:Int))) ((0<=(↑e:Int)/\(↑e:Int)<(↑(iE l).length:Int))/\∃(f:Int),zD (iE l) (↑e:Int).toNat 0 1=ba [dI f]/\∃(g:Nat),sW (ak g l)=min (sW (ak e l)) f/\kA g e c d) (∃(f:Unit),sW l=sW (ak e l)/\True))
def y2j (l:List Int):Prop:=
 dp (decide ((↑(iE l).length:Int)<1)) False (((0:Int)<=(0:Int)/\0<(↑(iE l).length:Int))/\∃(a:Int),zD (iE l) (bo 0) 0 1=ba [dI a]/\∃(b:Nat),eR (ak b l)=a/\(↑b:Int)=1/\∃(c:Nat->Prop),∃(d:Nat->Nat),c b/\∀(e:Nat),c e->dp (decide ((↑e:Int)<(↑(iE l).length:Int))) ((0<=(↑e:Int)/\(↑e:Int)<(↑(iE l).length:Int))/\∃(f:Int),zD (iE l) (↑e:Int).toNat 0 1=ba [dI f]/\∃(g:Nat),(eR (ak g l)=if f>eR (ak e l)then f else eR (ak e l))/\kA g e c d) (∃(f:Unit),eR l=eR (ak e l)/\True))
@[simp] theorem RY (s:List UInt8):(sb s).size=s.length:=by simp[sb,ByteArray.size]
def pM (s:List UInt8):(sb s).toList=s:=by rw[ByteArray.toList_eq];rfl
def yZc (s:List UInt8) (p k:Nat):(sb s).get! (p+k)=(sb (s.drop p)).get! (0+k):=by
 simp only[sb,ByteArray.get!,nw];simp only[List.getElem!_toArray,List.getElem!_eq_getElem?_getD,AQ]
def zLd (s:List UInt8) (p:Nat):bg (sb s) p=El (s.drop p):=by
 have h (k:Nat):(decide (p+k<(sb s).size))=decide (0+k<(sb (s.drop p)).size):=by
  simp only[RY,oV];by_cases h:p+k<s.length
  ·rw[lg h,lg (by omega)]
  ·rw[kr h,kr (by omega)]
 unfold El bg;simp only[yZc s p,h]
def bF (s:List UInt8) {p:Nat} (h:p<s.length):1<=(bg (sb s) p).2/\p+(bg (sb s) p).2<=s.length:=by
 unfold bg;simp only[RY,kx,tw];split
 ·exact⟨by simp,by simp;omega⟩
 split
 ·rename_i h1;split
  ·exact⟨by simp,by simp;omega⟩
  ·exact⟨by simp,by simp;omega⟩
 split
 ·rename_i h1;split
  ·exact⟨by simp,by simp;omega⟩
  ·exact⟨by simp,by simp;omega⟩
 split
 ·rename_i h1;split
  ·exact⟨by simp,by simp;omega⟩
  ·exact⟨by simp,by simp;omega⟩
 ·exact⟨by simp,by simp;omega⟩
def yZh {l:List UInt8} (h:l≠[]):1<=(El l).2/\(El l).2<=l.length:=by
 have:=bF l (p:=0) (by cases l<;>simp_all);rw[El];omega
def sK:∀(k:Nat) (p:Nat) (l:List UInt8),l.length<=k->Mr k p l=Mr l.length p l
 |0,p,l,h=>by
  have:l=[]:=xu oM;subst this;rfl
 |k+1,p,[],h=>rfl
 |k+1,p,b::l,h=>by
  have hw:=yZh (l:=b::l) (by simp);have hl:((b::l).drop (El (b::l)).2).length<=l.length:=by rw[oV,iD];omega
  rw[iD];simp only[Mr];rw[sK k _ _ (by rw[iD]at h;omega),sK l.length _ _ hl]
def uJ {s:List UInt8} {p:Nat} (h:s.length<=p):gD s p=[]:=by
 rw[gD,show s.length-p=0 by omega];rfl
def jP {s:List UInt8} {p:Nat} (h:p<s.length):gD s p=(p,(bg (sb s) p).1)::gD s (p+(bg (sb s) p).2):=by
 obtain⟨k,hk⟩:∃k,s.length-p=k+1:=⟨s.length-p-1,oM⟩
 have hw:=bF s h;obtain⟨b,l,hb⟩:∃b l,s.drop p=b::l:=by
  cases hd:s.drop p with
  |nil=>rw[List.drop_eq_nil_iff]at hd;omega
  |cons b l=>exact⟨b,l,rfl⟩
 have hlen:(b::l).length=s.length-p:=by rw[<- hb,oV]
 rw[gD,hk,hb,zLd,hb,gD];rw[zLd,hb]at hw;simp only[Mr];have e:(b::l).drop (El (b::l)).2=s.drop (p+(El (b::l)).2):=by rw[<- hb,Cw]
 rw[e,sK k _ _ (by rw[oV];omega),oV]
def zPy (s:List UInt8):∀(k p:Nat),s.length-p<=k->(gD s p).length<=s.length-p
 |0,p,h=>by rw[uJ (by omega)];simp
 |k+1,p,h=>by
  by_cases hp:p<s.length
  ·have hw:=bF s hp;rw[jP hp,iD];have:=zPy s k (p+(bg (sb s) p).2) oM;omega
  ·rw[uJ (by omega)];simp
def XE (s:List UInt8):(kY s).length<=s.length:=by
 rw[kY,ia];have:=zPy s s.length 0 oM;omega
def TB {a b:Nat} (h:Nat.blt a b=ax):b<=a:=by
 rcases uo a b with h1|h1
 ·rw[show Nat.blt a b=ay by rw[xv];exact h1]at h;cases h
 ·exact h1
def yNo:(ByteArray.mk #[]).toList=[]:=pM []
def yZj (s:List UInt8) (h:FR.dp s):yHx s:=by
 have h:s.length<=1099511627776:=h;have hr:=XE s;unfold yHx dY;refine⟨(0,0),rfl,rfl,rfl,λx=>x.1<=s.length/\x.2+(gD s x.1).length=(kY s).length,λx=>s.length-x.1,⟨oM,by rw[kY,ia];simp⟩,?_⟩;rintro⟨p,n⟩ ⟨h1,h2⟩;dsimp only at h1 h2 ⊢;refine Cv.dp.mk (λhp=> ?_) (λhp=> ?_)
 ·have hp:p<s.length:=by simpa[xv]using hp
  have hw:=bF s hp;rw[jP hp,iD]at h2;refine⟨(p+(bg (sb s) p).2,n+1),?_,rfl,rfl,⟨hw.2,by(first|omega|(dsimp only;omega))⟩,by(first|omega|(dsimp only;omega)),trivial⟩;rw[ir (by omega)];rfl
 ·have hp:s.length<=p:=by have:=TB hp;simpa using this
  rw[uJ hp]at h2;exact⟨(),by rw[<- h2];rfl,trivial⟩
def yFz:FR.ok Tryz.prog 153:=gw mixed fg 0 (λ_=>[]) (λs=>y1m s) [] Tryz.func153 yZj
def y8f (s:List UInt8) (h:PK.dp s):y5m s:=by
 have h:s.length<=1099511627776:=h;unfold y5m fY SF;refine⟨0,rfl,rfl,λp=>p<=s.length/\(kY s).all gK=(gD s p).all λx=>gK x.2,λp=>s.length-p,⟨oM,by rw[kY,List.all_map];rfl⟩,?_⟩;rintro p ⟨h1,h2⟩;refine Cv.dp.mk (λhp=> ?_) (λhp=> ?_)
 ·have hp:p<s.length:=by simpa[xv]using hp
  have hw:=bF s hp;rw[jP hp,List.all_cons]at h2;generalize hc:(bg (sb s) p).1=c at h2 ⊢;generalize hww:(bg (sb s) p).2=w at h2 hw ⊢;dsimp only at h2;have bad:gK c=ax->∃(o:Unit),wE s=ax/\True:=λe=>⟨(),by rw[wE,h2,e];rfl,trivial⟩
  have tj:gK c=ay->∃i':Nat,sb s=sb s/\i'=p+w/\(i'<=s.length/\(kY s).all gK=(gD s i').all λx=>gK x.2)/\s.length-i'<s.length-p/\True:=λe=>⟨p+w,rfl,rfl,⟨hw.2,by rw[h2,e];rfl⟩,oM,trivial⟩
  refine zH (λc1=>zH (λc2=> ?_) (λc2=>zH (λc3=>zH (λc4=>Cv.dp.mk (λc5=> ?_) (λc5=> ?_)) (λc4=> ?_)) (λc3=> ?_))) (λc1=>zH (λc3=>zH (λc4=>Cv.dp.mk (λc5=> ?_) (λc5=> ?_)) (λc4=> ?_)) (λc3=> ?_))
  all_goals first|(refine tj ?_;simp[gK]at*;omega)|(refine bad ?_;simp[gK]at*;omega)
 ·have hp:s.length<=p:=by have:=TB hp;simpa using this
  rw[uJ hp]at h2;have h2:(kY s).all gK=ay:=h2;refine Cv.dp.mk (λe=>⟨s,rfl,h,λ_ _=>⟨(),?_,trivial⟩⟩) (λe=>⟨(),?_,trivial⟩)
  ·rw[pM,yNo]at e;have:s≠[]:=by simpa using e
   rw[wE,h2,lg this];simp only[zw];congr 1;simp only[eq_iff_iff];omega
  ·have:s=[]:=by
    rw[pM,yNo]at e;simpa using e
   rw[wE,this];rfl
def yYe:PK.ok Tryz.prog 103:=gw mixed (dw yFz fg) 0 (λ_=>[]) (λs=>y6l s) [] Tryz.func103 y8f
@[simp] theorem y4 (l:List Int):(iE l).length=l.length:=by simp[iE]
def qz {l:List Int} {k:Nat} {n:Int} (h:l[k]? =ba n):zD (iE l) k 0 1=ba [D.v (.int .i64 n)]:=by
 simp[zD,iE,h];rfl
def z7 {α:Type} {l:List α} {i:Nat} (h:i<l.length):∃x,l[i]? =ba x:=⟨l[i],vd h⟩
def zVl {n k:Nat} {f:Nat->Bool} (hk:k<n) (h:f k=ax):(ao n).all f=ax:=by
 cases hh:(ao n).all f
 ·rfl
 ·rw[Dp]at hh;rw[hh k (by simpa using hk)]at h;cases h
def z2a {n:Nat} {f:Nat->Bool} (h:∀k<n,f k=ay):(ao n).all f=ay:=by
 rw[Dp];intro k hk;exact h k (by simpa using hk)
def ySb (l:List Int) (h:C'.dp l):yAf l:=by
 have h:l.length<=1099511627776:=h;unfold yAf v7 kA dI;simp only[y4];refine⟨0,rfl,λj=>j<=l.length/\∀k<j,qU l k=ay,λj=>l.length-j,⟨oM,λk hk=>by omega⟩,?_⟩;rintro j ⟨h1,h2⟩;have bad:j<l.length->qU l j=ax->∃(o:Unit),xG l=ax/\True:=λhj e=>⟨(),by rw[xG,zVl hj e];rfl,trivial⟩
 have tj:j<l.length->qU l j=ay->∃i':Nat,(i':Int)=ar.wrap ((j:Int)+1)/\(i'<=l.length/\∀k<i',qU l k=ay)/\l.length-i'<l.length-j/\True:=λhj e=>⟨j+1,by rw[ir (by omega)];rfl,⟨oM,λk hk=>by
  rcases uo k j with qx|qx
  ·exact h2 k qx
  ·obtain rfl:k=j:=by omega
   exact e⟩,oM,trivial⟩
 refine zH (λhj=> ?_) (λhj=> ?_)
 ·have hj:j<l.length:=by omega
  obtain⟨n,hn⟩:=z7 hj;have hg:l.getD j 0=n:=by simp[hn]
  refine⟨⟨oM,oM⟩,n,qz hn,zH (λc1=>bad hj (by simp[qU,hn];omega)) (λc1=>zH (λc2=>bad hj (by simp[qU,hn];omega)) (λc2=>zH (λc3=> ?_) (λc3=>tj hj ?_)))⟩
  ·have e:ar.wrap ((j:Int)-1)=((j-1:Nat):Int):=by rw[ir (by omega)];omega
   obtain⟨m,hm⟩:=z7 (l:=l) (i:=j-1) oM;rw[e];refine⟨⟨oM,oM⟩,m,qz hm,zH (λc4=>bad hj ?_) (λc4=>tj hj ?_)⟩
   ·simp[qU,hn,hm];omega
   ·simp[qU,hn,hm];omega
  ·simp[qU,hn];omega
 ·have e:(ao l.length).all (qU l)=ay:=z2a λk hk=>h2 k oM
  refine zH (λc=>⟨(),?_,trivial⟩) (λc=>⟨(),?_,trivial⟩)
  ·rw[xG,e,lg (show 2<=l.length by omega)];simp;omega
  ·rw[xG,kr (show ¬2<=l.length by omega)];simp
def yEu:C'.ok Tryz.prog 104:=gw mixed fg 0 (λ_=>[]) (λ_=>yRl) [] Tryz.func104 ySb
def W4 {f:Int->Int->Int} {l:List Int} {j:Nat} {n:Int} (h:l[j+1]? =ba n):(l.take (j+2)).tail.foldl f ((l.take (j+2)).headD 0)=f ((l.take (j+1)).tail.foldl f ((l.take (j+1)).headD 0)) n:=by
 cases l with
 |nil=>simp at h
 |cons a l=>
  simp only[AS]at h;simp only[vg,List.tail_cons,List.headD_cons];rw[sm,h,IP];rfl
def zZp {l:List Int} {n:Int} (h:l[0]? =ba n) (f:Int->Int->Int):(l.take 1).tail.foldl f ((l.take 1).headD 0)=n:=by
 cases l with
 |nil=>simp at h
 |cons a l=>simpa using h
def y7t (l:List Int) (h:P4.dp l):y3a l:=by
 obtain⟨h0,h⟩:0<l.length/\l.length<=1099511627776:=h;unfold y3a kA dI;simp only[y4];obtain⟨n,hn⟩:=z7 h0;refine zH (λc=>by omega) (λc=>⟨⟨oM,oM⟩,n,qz hn,1,zZp hn min,rfl,λj=>1<=j/\j<=l.length,λj=>l.length-j,⟨oM,oM⟩,?_⟩);rintro j ⟨h1,h2⟩;refine zH (λhj=> ?_) (λhj=>⟨(),?_,trivial⟩)
 ·obtain⟨m,hm⟩:=z7 (l:=l) (i:=j) oM;refine⟨⟨oM,oM⟩,m,qz hm,j+1,?_,?_,⟨oM,oM⟩,by(first|omega|(dsimp only;omega)),trivial⟩
  ·obtain⟨k,rfl⟩:∃k,j=k+1:=⟨j-1,oM⟩
   first
    |(rw[sW,W4 hm,<- sW];done)
    |(rw[sW,W4 hm,<- sW];generalize sW (l.take (k+1))=x;split<;>omega)
  ·rw[ir (by omega)];rfl
 ·rw[og (by omega)]
def yZl:P4.ok Tryz.prog 106:=gw mixed fg 0 (λ_=>[]) (λl=>y8h l) [] Tryz.func106 y7t
def y6y (l:List Int) (h:P5.dp l):y2j l:=by
 obtain⟨h0,h⟩:0<l.length/\l.length<=1099511627776:=h;unfold y2j kA dI;simp only[y4];obtain⟨n,hn⟩:=z7 h0;refine zH (λc=>by omega) (λc=>⟨⟨oM,oM⟩,n,qz hn,1,zZp hn max,rfl,λj=>1<=j/\j<=l.length,λj=>l.length-j,⟨oM,oM⟩,?_⟩);rintro j ⟨h1,h2⟩;refine zH (λhj=> ?_) (λhj=>⟨(),?_,trivial⟩)
 ·obtain⟨m,hm⟩:=z7 (l:=l) (i:=j) oM;refine⟨⟨oM,oM⟩,m,qz hm,j+1,?_,?_,⟨oM,oM⟩,by(first|omega|(dsimp only;omega)),trivial⟩
  ·obtain⟨k,rfl⟩:∃k,j=k+1:=⟨j-1,oM⟩
   rw[eR,W4 hm,<- eR];generalize eR (l.take (k+1))=x;split<;>omega
  ·rw[ir (by omega)];rfl
 ·rw[og (by omega)]
def yYh:P5.ok Tryz.prog 107:=gw mixed fg 0 (λ_=>[]) (λl=>y7x l) [] Tryz.func107 y6y
@[reducible] def fb.row (p:fb):ff:= .cells p.cells 25
structure Kn where
 p:fb
 n:Int
structure GY where
 p:fb
 l:List Int
def qQ (t n:Int):Bool:=n.tmod t !=0
def PZ:fy:=fj Kn (λi=>[zA i.n,.nm 0 0]) (λi=>[i.p.row]) (λi=>1<=i.p.tick) (λi=>yL (qQ i.p.tick i.n)) (λi=>[i.p.row])
@[reducible] def y4q:V:= .fn 154 [] [.nm 0 0]
def Iu (k:Option Nat):Int:=match k with
 |some k=>k
 |none=> -1
def P8:fy:=fj GY (λi=>[iV i.l,y4q]) (λi=>[i.p.row]) (λi=>1<=i.p.tick/\i.l.length<=1099511627776) (λi=>zA (Iu (i.l.findIdx? (qQ i.p.tick)))) (λi=>[i.p.row])
def y6p (i:GY):List gj:=[{ι:=Nat,du:=λj=>[(8,zA j)],rows:=λ_=>[]}]
def zr:fy:=fj GY (λi=>[iV i.l,y4q]) (λi=>[i.p.row]) (λi=>1<=i.p.tick/\i.l.length<=1099511627776) (λi=>yL (i.l.any (qQ i.p.tick))) (λi=>[i.p.row])
def qL (p:fb):Bool:=decide (1<=p.tick) && decide (p.tick<=1000) && !qQ p.tick p.low && !qQ p.tick p.high && !qQ p.tick p.wide && !p.settle.any (qQ p.tick)
def Fm:fy:=fj fb (λp=>[nu p]) (λ_=>[]) fb.small (λp=>yL (qL p)) (λ_=>[])
def qP (p:fb):Bool:=decide (p.low< -1000000)||decide (p.low>=p.high)||decide (p.high>1000000)||decide (p.wide<0)||decide (p.wide>p.high-p.low)
def xI (p:fb):Bool:=decide (p.settle.length≠p.dk.length)||decide (sW p.settle<p.low)||decide (eR p.settle>p.high)
def kG (p:fb):Bool:=decide (p.dr<1)||decide (p.dr>3)
def qA (p:fb):Bool:=decide (p.top<0)||decide (p.top>1000000)||decide (p.least<1)||decide (p.least>1000)||decide (p.part<0)||decide (p.part>100)
def fb.check (p:fb):Int:=
 if !wE p.code then 12 else if !xG p.dk then 1 else if !qL p then 22 else if qP p then 23 else if xI p then 1 else if kG p then 31 else if qA p then 24 else 0
def FU:fy:=fj fb (λp=>[nu p]) (λ_=>[]) fb.small (λp=>zA p.check) (λ_=>[])
def fb.count (p:fb):Nat:=if p.check=0 then p.dk.length+p.dk.length*(p.dk.length-1) / 2 else 0
def C7:fy:=fj fb (λp=>[nu p]) (λ_=>[]) fb.small (λp=>zA p.count) (λ_=>[])
structure bI where
 p:fb
 n:Int
def yK (n:Nat):Nat->Nat
 |0=>n
 |k+1=>yK n k+(n-1-k)
def kQ (n inst:Nat):Nat->Nat->Int×Int×Bool
 |0,_=>(0,0,ax)
 |k+1,m=>if inst<yK n m+(n-1-m)then(m,m+1+(inst-yK n m:Nat),ay)else kQ n inst k (m+1)
def fb.ga (p:fb) (i:Int):Int×Int×Bool:=
 if i<0\/(p.count:Int)<=i then(0,0,ax)else if i<p.dk.length then(i,i,ax)else kQ p.dk.length i.toNat p.dk.length 0
def JD:fy:=fj bI (λi=>[nu i.p,zA i.n]) (λ_=>[]) (λi=>i.p.small) (λi=> .iW [zA (i.p.ga i.n).1,zA (i.p.ga i.n).2.1,yL (i.p.ga i.n).2.2]) (λ_=>[])
structure eM where
 p:fb
 a:Int
 b:Int
def fb.spread (p:fb) (a b:Int):Int×Bool:=
 if p.check≠0\/a<0\/b<=a\/(p.dk.length:Int)<=b then(0,ax)else((yK p.dk.length a.toNat:Int)+b-a-1,ay)
def CY:fy:=fj eM (λi=>[nu i.p,zA i.a,zA i.b]) (λ_=>[]) (λi=>i.p.small) (λi=> .iW [zA (i.p.spread i.a i.b).1,yL (i.p.spread i.a i.b).2]) (λ_=>[])
def fb.dj (p:fb) (i n:Int):Int:=
 if p.count=0 then 1 else if i<0\/(p.count:Int)<=i then 20 else if qQ p.tick n then 22 else
 if n<(if(p.dk.length:Int)<=i then-p.wide else p.low)\/(if(p.dk.length:Int)<=i then p.wide else p.high)<n then 23 else 0
def Fy:fy:=fj eM (λi=>[nu i.p,zA i.a,zA i.b]) (λ_=>[]) (λi=>i.p.small) (λi=>zA (i.p.dj i.a i.b)) (λ_=>[])
structure I2 where
 x:Int
 y:Int
@[reducible] def gq (n:Int):Prop:= -9223372036854775808<=n/\n<=9223372036854775807
def gI (x y:Int):Int×Bool:=if gq (x+y)then(x+y,ay)else(0,ax)
def gM (x y:Int):Int×Bool:=if gq (x-y)then(x-y,ay)else(0,ax)
def Qw:fy:=fj I2 (λi=>[zA i.x,zA i.y]) (λ_=>[]) (λi=>gq i.x/\gq i.y) (λi=> .iW [zA (gI i.x i.y).1,yL (gI i.x i.y).2]) (λ_=>[])
def PM:fy:=fj I2 (λi=>[zA i.x,zA i.y]) (λ_=>[]) (λi=>gq i.x/\gq i.y) (λi=> .iW [zA (gM i.x i.y).1,yL (gM i.x i.y).2]) (λ_=>[])
def y2t (i:bI):List gj:=[{ι:=Nat,du:=λm=>[(8,zA (yK i.p.dk.length m)),(33,zA m)],rows:=λ_=>[]}]
def yRd (i:eM):List gj:=[{ι:=Nat,du:=λm=>[(9,zA (yK i.p.dk.length m)),(33,zA m)],rows:=λ_=>[]}]
def y3s (i:Kn):Prop:=
 ar=ar/\i.p.tick≠0/\∃(a:Unit),qQ i.p.tick i.n=(i.n.tmod i.p.tick !=0)/\di (sb i.p.code)/\di (iE i.p.dk)/\di i.p.tick/\di i.p.low/\di i.p.high/\di i.p.wide/\di i.p.dr/\di i.p.top/\di i.p.least/\di i.p.part/\di (iE i.p.settle)/\True
def y3c (i:GY):Prop:=
 ∃(a:Nat),(↑a:Int)=0/\∃(b:Nat->Prop),∃(c:Nat->Nat),b a/\∀(d:Nat),b d->dp (decide ((↑d:Int)<(↑(iE i.l).length:Int))) ((0<=(↑d:Int)/\(↑d:Int)<(↑(iE i.l).length:Int))/\∃(e:Int),zD (iE i.l) (↑d:Int).toNat 0 1=ba [dI e]/\∃(f:Kn),f.n=e/\sb f.p.code=sb i.p.code/\iE f.p.dk=iE i.p.dk/\f.p.tick=i.p.tick/\f.p.low=i.p.low/\f.p.high=i.p.high/\f.p.wide=i.p.wide/\f.p.dr=i.p.dr/\f.p.top=i.p.top/\f.p.least=i.p.least/\f.p.part=i.p.part/\iE f.p.settle=iE i.p.settle/\1<=f.p.tick/\∀(g:Unit),True->dp (qQ f.p.tick f.n) (∃(h:Unit),Iu (List.findIdx? (qQ i.p.tick) i.l)=(↑d:Int)/\sb i.p.code=sb f.p.code/\iE i.p.dk=iE f.p.dk/\i.p.tick=f.p.tick/\i.p.low=f.p.low/\i.p.high=f.p.high/\i.p.wide=f.p.wide/\i.p.dr=f.p.dr/\i.p.top=f.p.top/\i.p.least=f.p.least/\i.p.part=f.p.part/\iE i.p.settle=iE f.p.settle/\True) (∃(h:Nat),(↑h:Int)=ar.wrap ((↑d:Int)+1)/\b h/\c h<c d/\ac [V.d (D.v (bz (sb f.p.code))),V.d (D.ro 1 (iE f.p.dk)),V.d (dI f.p.tick),V.d (dI f.p.low),V.d (dI f.p.high),V.d (dI f.p.wide),V.d (dI f.p.dr),V.d (dI f.p.top),V.d (dI f.p.least),V.d (dI f.p.part),V.d (D.ro 1 (iE f.p.settle))] (25:ce)=i.p.row)) (∃(e:Unit),Iu (List.findIdx? (qQ i.p.tick) i.l)=(-1)/\di (sb i.p.code)/\di (iE i.p.dk)/\di i.p.tick/\di i.p.low/\di i.p.high/\di i.p.wide/\di i.p.dr/\di i.p.top/\di i.p.least/\di i.p.part/\di (iE i.p.settle)/\True)
def zTv (i:GY):Prop:=
 ∃(a:GY),iE a.l=iE i.l/\sb a.p.code=sb i.p.code/\iE a.p.dk=iE i.p.dk/\a.p.tick=i.p.tick/\a.p.low=i.p.low/\a.p.high=i.p.high/\a.p.wide=i.p.wide/\a.p.dr=i.p.dr/\a.p.top=i.p.top/\a.p.least=i.p.least/\a.p.part=i.p.part/\iE a.p.settle=iE i.p.settle/\(1<=a.p.tick/\a.l.length<=1099511627776)/\∀(b:Unit),True->∃(c:Unit),i.l.any (qQ i.p.tick)=decide (Iu (List.findIdx? (qQ a.p.tick) a.l)>=0)/\sb i.p.code=sb a.p.code/\iE i.p.dk=iE a.p.dk/\i.p.tick=a.p.tick/\i.p.low=a.p.low/\i.p.high=a.p.high/\i.p.wide=a.p.wide/\i.p.dr=a.p.dr/\i.p.top=a.p.top/\i.p.least=a.p.least/\i.p.part=a.p.part/\iE i.p.settle=iE a.p.settle/\True
def yHp (p:fb):Prop:=
 dp (decide (p.tick<1)) (∃(a:Unit),qL p=ax/\True) (dp (decide (p.tick>1000)) (∃(a:Unit),qL p=ax/\True) (∃(a:Kn),a.n=p.low/\sb a.p.code=sb p.code/\iE a.p.dk=iE p.dk/\a.p.tick=p.tick/\a.p.low=p.low/\a.p.high=p.high/\a.p.wide=p.wide/\a.p.dr=p.dr/\a.p.top=p.top/\a.p.least=p.least/\a.p.part=p.part/\iE a.p.settle=iE p.settle/\1<=a.p.tick/\∀(b:Unit),True->dp (!qQ a.p.tick a.n) (∃(c:Kn),c.n=a.p.high/\sb c.p.code=sb a.p.code/\iE c.p.dk=iE a.p.dk/\c.p.tick=a.p.tick/\c.p.low=a.p.low/\c.p.high=a.p.high/\c.p.wide=a.p.wide/\c.p.dr=a.p.dr/\c.p.top=a.p.top/\c.p.least=a.p.least/\c.p.part=a.p.part/\iE c.p.settle=iE a.p.settle/\1<=c.p.tick/\∀(d:Unit),True->dp (!qQ c.p.tick c.n) (∃(e:Kn),e.n=c.p.wide/\sb e.p.code=sb c.p.code/\iE e.p.dk=iE c.p.dk/\e.p.tick=c.p.tick/\e.p.low=c.p.low/\e.p.high=c.p.high/\e.p.wide=c.p.wide/\e.p.dr=c.p.dr/\e.p.top=c.p.top/\e.p.least=c.p.least/\e.p.part=c.p.part/\iE e.p.settle=iE c.p.settle/\1<=e.p.tick/\∀(f:Unit),True->dp (!qQ e.p.tick e.n) (∃(g:GY),iE g.l=iE e.p.settle/\sb g.p.code=sb e.p.code/\iE g.p.dk=iE e.p.dk/\g.p.tick=e.p.tick/\g.p.low=e.p.low/\g.p.high=e.p.high/\g.p.wide=e.p.wide/\g.p.dr=e.p.dr/\g.p.top=e.p.top/\g.p.least=e.p.least/\g.p.part=e.p.part/\iE g.p.settle=iE e.p.settle/\(1<=g.p.tick/\g.l.length<=1099511627776)/\∀(h:Unit),True->∃(j:Unit),qL p=!g.l.any (qQ g.p.tick)/\True) (∃(g:Unit),qL p=ax/\True)) (∃(e:Unit),qL p=ax/\True)) (∃(c:Unit),qL p=ax/\True)))
def zW (a:fb):Prop:=a.code.length<=1099511627776/\a.dk.length<=1099511627776/\a.settle.length<=1099511627776
def wY (a:fb):=(↑(iE a.settle).length:Int)
def xF (a:fb):=(↑(iE a.dk).length:Int)
def yMh (p:fb):Prop:=
 ∃(a:List UInt8),sb a=sb p.code/\a.length<=1099511627776/\∀(b:Unit),True->dp (!wE a) (∃(c:Unit),p.check=12/\True) (∃(c:List Int),iE c=iE p.dk/\c.length<=1099511627776/\∀(d:Unit),True->dp (!xG c) (∃(e:Unit),p.check=1/\True) (∃(e:fb),sb e.code=sb p.code/\iE e.dk=iE p.dk/\e.tick=p.tick/\e.low=p.low/\e.high=p.high/\e.wide=p.wide/\e.dr=p.dr/\e.top=p.top/\e.least=p.least/\e.part=p.part/\iE e.settle=iE p.settle/\(zW e)/\∀(f:Unit),True->dp (!qL e) (∃(g:Unit),p.check=22/\True) (dp (decide (p.low<(-1000000))) (∃(g:Unit),p.check=23/\True) (dp (decide (p.low>=p.high)) (∃(g:Unit),p.check=23/\True) (dp (decide (p.high>1000000)) (∃(g:Unit),p.check=23/\True) (dp (decide (p.wide<0)) (∃(g:Unit),p.check=23/\True) (dp (decide (p.wide>ar.wrap (p.high-p.low))) (∃(g:Unit),p.check=23/\True) (dp ((wY p) !=(xF p)) (∃(g:Unit),p.check=1/\True) (∃(g:List Int),iE g=iE p.settle/\(0<g.length/\g.length<=1099511627776)/\∀(h:Unit),True->di p.low/\dp (decide (sW g<p.low)) (∃(j:Unit),p.check=1/\True) (∃(j:List Int),iE j=iE p.settle/\(0<j.length/\j.length<=1099511627776)/\∀(k:Unit),True->di p.high/\dp (decide (eR j>p.high)) (∃(l:Unit),p.check=1/\True) (dp (decide (p.dr<1)) (∃(l:Unit),p.check=31/\True) (dp (decide (p.dr>3)) (∃(l:Unit),p.check=31/\True) (dp (decide (p.top<0)) (∃(l:Unit),p.check=24/\True) (dp (decide (p.top>1000000)) (∃(l:Unit),p.check=24/\True) (dp (decide (p.least<1)) (∃(l:Unit),p.check=24/\True) (dp (decide (p.least>1000)) (∃(l:Unit),p.check=24/\True) (dp (decide (p.part<0)) (∃(l:Unit),p.check=24/\True) (dp (decide (p.part>100)) (∃(l:Unit),p.check=24/\True) (∃(l:Unit),p.check=0/\True)))))))))))))))))))
def tC (a:fb) (b:fb):Prop:=sb a.code=sb b.code/\iE a.dk=iE b.dk/\a.tick=b.tick/\a.low=b.low/\a.high=b.high/\a.wide=b.wide/\a.dr=b.dr/\a.top=b.top/\a.least=b.least/\a.part=b.part/\iE a.settle=iE b.settle/\(zW a)/\∀(c:Unit),True->dp (a.check !=0) (∃(d:Unit),(↑b.count:Int)=0/\True) (ar=ar/\(2:Int)≠(0:Int)/\∃(d:Unit),(↑b.count:Int)=ar.wrap ((xF b)+ar.wrap ((ar.wrap ((xF b)*ar.wrap ((xF b)-1))).tdiv 2))/\True)
def z7r (p:fb):Prop:=
 ∃(a:fb),tC a p
def nR (a:bI):Prop:=ac [V.d (D.v (bz (sb a.p.code))),V.own 0,V.d (dI a.p.tick),V.d (dI a.p.low),V.d (dI a.p.high),V.d (dI a.p.wide),V.d (dI a.p.dr),V.d (dI a.p.top),V.d (dI a.p.least),V.d (dI a.p.part),V.own 1] 25=ac [V.d (D.v (bz (sb a.p.code))),V.own 0,V.d (dI a.p.tick),V.d (dI a.p.low),V.d (dI a.p.high),V.d (dI a.p.wide),V.d (dI a.p.dr),V.d (dI a.p.top),V.d (dI a.p.least),V.d (dI a.p.part),V.own 1] 25/\di (ab 1 (iE a.p.settle))/\di (ab 1 (iE a.p.dk))
def Tu (a:Nat->Prop) (b:Nat) (c:Nat->Nat) (d:Nat) (e:bI):Prop:=a b/\c b<c d/\nR e
def uV (a:bI) (b:Nat):=(↑(yK a.p.dk.length b):Int)
def vM (a:bI):=(↑(iE a.p.dk).length:Int)
def Xd (a:bI) (b:Nat):=((uV a b)+ar.wrap (ar.wrap ((vM a)-1)-(↑b:Int)))
def fJ (a:bI):Prop:=∃(b:Unit),(a.p.ga a.n).fst=0/\(a.p.ga a.n).snd.fst=0/\(a.p.ga a.n).snd.snd=ax/\True
def Ts (a:bI):Prop:=∃(b:Unit),(a.p.ga a.n).fst=a.n/\(a.p.ga a.n).snd.fst=a.n/\(a.p.ga a.n).snd.snd=ax/\True
def yVe (i:bI):Prop:=
 ∃(a:fb),sb a.code=sb i.p.code/\iE a.dk=iE i.p.dk/\a.tick=i.p.tick/\a.low=i.p.low/\a.high=i.p.high/\a.wide=i.p.wide/\a.dr=i.p.dr/\a.top=i.p.top/\a.least=i.p.least/\a.part=i.p.part/\iE a.settle=iE i.p.settle/\(zW a)/\∀(b:Unit),True->dp (decide (i.n<0)) (fJ i) (dp (decide (i.n>=(↑a.count:Int))) (fJ i) (dp (decide (i.n<(vM i))) (Ts i) (∃(c:Nat),(uV i c)=(vM i)/\(↑c:Int)=0/\∃(d:Nat->Prop),∃(e:Nat->Nat),d c/\∀(f:Nat),d f->dp (decide ((↑f:Int)<(vM i))) (dp (decide (i.n<ar.wrap (Xd i f))) (∃(g:Unit),(i.p.ga i.n).fst=(↑f:Int)/\(i.p.ga i.n).snd.fst=ar.wrap (ar.wrap (ar.wrap ((↑f:Int)+1)+i.n)-(uV i f))/\(i.p.ga i.n).snd.snd=ay/\True) (∃(g:Nat),(uV i g)=ar.wrap (Xd i f)/\(↑g:Int)=ar.wrap ((↑f:Int)+1)/\Tu d g e f i)) (fJ i))))
def c8 (a:eM):Prop:=∃(b:Unit),(a.p.spread a.a a.b).fst=0/\(a.p.spread a.a a.b).snd=ax/\True
def yAo (i:eM):Prop:=
 ∃(a:fb),sb a.code=sb i.p.code/\iE a.dk=iE i.p.dk/\a.tick=i.p.tick/\a.low=i.p.low/\a.high=i.p.high/\a.wide=i.p.wide/\a.dr=i.p.dr/\a.top=i.p.top/\a.least=i.p.least/\a.part=i.p.part/\iE a.settle=iE i.p.settle/\(zW a)/\∀(b:Unit),True->dp (a.check !=0) (c8 i) (dp (decide (i.a<0)) (c8 i) (dp (decide (i.a>=i.b)) (c8 i) (dp (decide (i.b>=(↑(iE i.p.dk).length:Int))) (c8 i) (∃(c:Nat),(↑(yK i.p.dk.length c):Int)=(↑(iE i.p.dk).length:Int)/\(↑c:Int)=0/\∃(d:Nat->Prop),∃(e:Nat->Nat),d c/\∀(f:Nat),d f->dp (decide ((↑f:Int)<i.a)) (∃(g:Nat),(↑(yK i.p.dk.length g):Int)=ar.wrap ((↑(yK i.p.dk.length f):Int)+ar.wrap (ar.wrap ((↑(iE i.p.dk).length:Int)-1)-(↑f:Int)))/\(↑g:Int)=ar.wrap ((↑f:Int)+1)/\d g/\e g<e f/\di (ac [V.d (D.v (bz (sb i.p.code))),V.own 0,V.d (dI i.p.tick),V.d (dI i.p.low),V.d (dI i.p.high),V.d (dI i.p.wide),V.d (dI i.p.dr),V.d (dI i.p.top),V.d (dI i.p.least),V.d (dI i.p.part),V.own 1] 25)/\di (ab 1 (iE i.p.settle))/\di (ab 1 (iE i.p.dk))) (∃(g:Unit),(i.p.spread i.a i.b).fst=ar.wrap (ar.wrap (ar.wrap ((↑(yK i.p.dk.length f):Int)+i.b)-i.a)-1)/\(i.p.spread i.a i.b).snd=ay/\True)))))
def yNb (i:eM):Prop:=
 ∃(a:fb),sb a.code=sb i.p.code/\iE a.dk=iE i.p.dk/\a.tick=i.p.tick/\a.low=i.p.low/\a.high=i.p.high/\a.wide=i.p.wide/\a.dr=i.p.dr/\a.top=i.p.top/\a.least=i.p.least/\a.part=i.p.part/\iE a.settle=iE i.p.settle/\(zW a)/\∀(b:Unit),True->dp ((↑a.count:Int)==0) (∃(c:Unit),i.p.dj i.a i.b=1/\True) (dp (decide (i.a<0)) (∃(c:Unit),i.p.dj i.a i.b=20/\True) (dp (decide (i.a>=(↑a.count:Int))) (∃(c:Unit),i.p.dj i.a i.b=20/\True) (ar=ar/\i.p.tick≠0/\dp (i.b.tmod i.p.tick !=0) (∃(c:Unit),i.p.dj i.a i.b=22/\True) (dp (decide (i.a>=(↑(iE i.p.dk).length:Int))) (dp (decide (i.b<ar.wrap (0-i.p.wide))) (∃(c:Unit),i.p.dj i.a i.b=23/\True) (dp (decide (i.b>i.p.wide)) (∃(c:Unit),i.p.dj i.a i.b=23/\True) (∃(c:Unit),i.p.dj i.a i.b=0/\True))) (dp (decide (i.b<i.p.low)) (∃(c:Unit),i.p.dj i.a i.b=23/\True) (dp (decide (i.b>i.p.high)) (∃(c:Unit),i.p.dj i.a i.b=23/\True) (∃(c:Unit),i.p.dj i.a i.b=0/\True)))))))
def V3 (a:I2):Prop:=∃(b:Unit),(gI a.x a.y).fst=ar.wrap (a.x+a.y)/\(gI a.x a.y).snd=ay/\True
def y5f (i:I2):Prop:=
 dp (decide (i.x<0)==decide (i.y<0)) (dp (!decide (ar.wrap (i.x+i.y)<0)==decide (i.x<0)) (∃(a:Unit),(gI i.x i.y).fst=0/\(gI i.x i.y).snd=ax/\True) (V3 i)) (V3 i)
def Wn (a:I2):Prop:=∃(b:Unit),(gM a.x a.y).fst=ar.wrap (a.x-a.y)/\(gM a.x a.y).snd=ay/\True
def y3z (i:I2):Prop:=
 dp (!decide (i.x<0)==decide (i.y<0)) (dp (!decide (ar.wrap (i.x-i.y)<0)==decide (i.x<0)) (∃(a:Unit),(gM i.x i.y).fst=0/\(gM i.x i.y).snd=ax/\True) (Wn i)) (Wn i)
def y7g (i:Kn) (h:PZ.dp i):y3s i:=by
 have h:1<=i.p.tick:=h;unfold y3s;exact kp
def yKh:PZ.ok Tryz.prog 154:=gw mixed fg 0 (λ_=>[]) (λ_=>[]) [] Tryz.func154 y7g
def XK {α:Type} {f:α->Bool} {l:List α} (h:∀(k:Nat) (x:α),l[k]? =ba x->f x=ax):l.findIdx? f=bc:=by
 rw[OI];intro x hx;obtain⟨k,hk⟩:=MQ hx;exact h k x hk
def WW {α:Type} {f:α->Bool} {l:List α} {j:Nat} {x:α} (h1:l[j]? =ba x) (h2:f x=ay) (h:∀k<j,∀x:α,l[k]? =ba x->f x=ax):l.findIdx? f=ba j:=by
 rw[MT];obtain⟨hj,rfl⟩:=jl.1 h1;exact⟨hj,h2,λk hk=>by rw[h k hk _ (vd (by omega))];simp⟩
def y7v (i:GY) (h:P8.dp i):y3c i:=by
 obtain⟨h1,h2⟩:1<=i.p.tick/\i.l.length<=1099511627776:=h;unfold y3c dI;simp only[y4];refine⟨0,rfl,λj=>j<=i.l.length/\∀k<j,∀x,i.l[k]? =ba x->qQ i.p.tick x=ax,λj=>i.l.length-j,⟨oM,λk hk=>by omega⟩,?_⟩;rintro j ⟨h3,h4⟩;refine zH (λhj=> ?_) (λhj=> ?_)
 ·obtain⟨n,hn⟩:=z7 (l:=i.l) (i:=j) oM;refine⟨⟨oM,oM⟩,n,qz hn,⟨i.p,n⟩,?_⟩
  (repeat'(first|exact rfl|exact trivial|assumption|apply be|refineλ(_:Unit) (_:True)=>?_|refine az () ?_|omega|(dsimp only;omega)))
  refine Cv.dp.mk (λe=> ?_) (λe=> ?_)
  ·rw[WW hn e h4];exact kp
  ·refine⟨j+1,by rw[ir (by omega)];rfl,⟨oM,λk hk x hx=> ?_⟩,by(first|omega|(dsimp only;omega)),rfl⟩;rcases uo k j with qx|qx
   ·exact h4 k qx x hx
   ·obtain rfl:k=j:=by omega
    rw[hn]at hx;cases hx;exact e
 ·rw[XK λk x hx=>h4 k (by have:=(jl.1 hx).1;omega) x hx];exact kp
def yXx:P8.ok Tryz.prog 191:=gw mixed (dw yKh fg) 0 (λ_=>[]) (λi=>y6p i) [] Tryz.func191 y7v
def yCn {l:List Int} {f:Int->Bool}:l.any f=decide (Iu (l.findIdx? f)>=0):=by
 cases hf:l.findIdx? f with
 |none=>
  rw[OI]at hf;have:l.any f=ax:=by rw[MM];intro x hx;simp[hf x hx]
  rw[this];rfl
 |some k=>
  rw[MT]at hf;obtain⟨hk,h1,_⟩:=hf;have:l.any f=ay:=by rw[List.any_eq_true];exact⟨_,List.getElem_mem hk,h1⟩
  rw[this,Iu,lg (by omega)]
def yFn (i:GY) (h:zr.dp i):zTv i:=by
 unfold zTv;have h':1<=i.p.tick/\i.l.length<=1099511627776:=h;refine⟨i,?_⟩
 (repeat'(first|exact rfl|exact trivial|assumption|apply be|refineλ(_:Unit) (_:True)=>?_|refine az () ?_|omega|(dsimp only;omega)))
 exact yCn
def z2n:zr.ok Tryz.prog 155:=gw mixed (dw yXx fg) 0 (λ_=>[]) (λ_=>[]) [] Tryz.func155 yFn
def yXt (p:fb) (h:Fm.dp p):yHp p:=by
 obtain⟨h1,h2,h3⟩:p.small:=h;unfold yHp;refine zH (λc1=>⟨(),by rw[qL,kr (by omega)];rfl,trivial⟩) (λc1=>zH (λc2=>⟨(),by rw[qL,kr (show ¬p.tick<=1000 by omega)];simp,trivial⟩) (λc2=>⟨⟨p,p.low⟩,?_⟩));have e1:qL p=(!qQ p.tick p.low && !qQ p.tick p.high && !qQ p.tick p.wide && !p.settle.any (qQ p.tick)):=by
  rw[qL,lg (by omega),lg (by omega)];rfl
 rw[e1]
 (repeat'(first|exact rfl|exact trivial|assumption|apply be|refineλ(_:Unit) (_:True)=>?_|refine az () ?_|omega|(dsimp only;omega)))
 refine Cv.dp.mk (λc3=>⟨⟨p,p.high⟩,?_⟩) (λc3=>⟨(),?_,trivial⟩)
 ·dsimp only at c3
  (repeat'(first|exact rfl|exact trivial|assumption|apply be|refineλ(_:Unit) (_:True)=>?_|refine az () ?_|omega|(dsimp only;omega)))
  refine Cv.dp.mk (λc4=>⟨⟨p,p.wide⟩,?_⟩) (λc4=>⟨(),?_,trivial⟩)
  ·dsimp only at c4
   (repeat'(first|exact rfl|exact trivial|assumption|apply be|refineλ(_:Unit) (_:True)=>?_|refine az () ?_|omega|(dsimp only;omega)))
   refine Cv.dp.mk (λc5=>⟨⟨p,p.settle⟩,?_⟩) (λc5=>⟨(),?_,trivial⟩)
   ·dsimp only at c5
    (repeat'(first|exact rfl|exact trivial|assumption|apply be|refineλ(_:Unit) (_:True)=>?_|refine az () ?_|omega|(dsimp only;omega)))
    rw[c3,c4,c5];simp
   ·dsimp only at c5;rw[c5];simp
  ·dsimp only at c4;rw[c4];simp
 ·dsimp only at c3;rw[c3];simp
def yMm:Fm.ok Tryz.prog 105:=gw mixed (dw yKh (dw z2n fg)) 0 (λ_=>[]) (λ_=>[]) [] Tryz.func105 yXt
def y0s (p:fb) (h:FU.dp p):yMh p:=by
 obtain⟨h1,h2,h3⟩:p.small:=h;unfold yMh xF wY zW;simp only[y4];refine⟨p.code,rfl,h1,λ_ _=>Cv.dp.mk (λc1=>⟨(),by rw[fb.check,fc c1],trivial⟩) (λc1=>⟨p.dk,rfl,h2,λ_ _=>Cv.dp.mk (λc2=>⟨(),by rw[fb.check,ej (by simp[c1]),fc c2],trivial⟩) (λc2=>⟨p,?_⟩)⟩)⟩
 (repeat'(first|exact rfl|exact trivial|assumption|apply be|refineλ(_:Unit) (_:True)=>?_|refine az () ?_|omega|(dsimp only;omega)))
 refine Cv.dp.mk (λc3=>⟨(),by rw[fb.check,ej (by simp[c1]),ej (by simp[c2]),fc c3],trivial⟩) (λc3=> ?_);have e0:p.check=if qP p then 23 else if xI p then 1 else if kG p then 31 else if qA p then 24 else 0:=by
  rw[fb.check,ej (by simp[c1]),ej (by simp[c2]),ej (by simp[c3])]
 have b (hb:qP p=ay):∃(o:Unit),p.check=23/\True:=⟨(),by rw[e0,fc hb],trivial⟩
 refine zH (λd1=>b (by simp[qP,d1])) λd1=>zH (λd2=>b (by simp[qP];omega)) λd2=>zH (λd3=>b (by simp[qP];omega)) λd3=>zH (λd4=>b (by simp[qP];omega)) λd4=> ?_
 rw[ir (by omega)];refine zH (λd5=>b (by simp[qP];omega)) λd5=> ?_
 have e1:p.check=if xI p then 1 else if kG p then 31 else if qA p then 24 else 0:=by
  rw[e0,ej (by simp[qP];omega)]
 have s (hb:xI p=ay):∃(o:Unit),p.check=1/\True:=⟨(),by rw[e1,fc hb],trivial⟩
 have hm:2<=p.dk.length:=by
  have c2:xG p.dk=ay:=by simpa using c2
  simp[xG]at c2;omega
 refine Cv.dp.mk (λd6=>s (by have d6:¬(p.settle.length:Int)=p.dk.length:=(by simpa using d6);simp[xI];omega)) λd6=> ?_
 have d6:p.settle.length=p.dk.length:=by
  have:(p.settle.length:Int)=p.dk.length:=by simpa using d6
  omega
 refine⟨p.settle,rfl,⟨oM,oM⟩,λ_ _=>⟨kp,zH (λd7=>s (by simp[xI];left;right;omega)) λd7=>⟨p.settle,rfl,⟨oM,oM⟩,λ_ _=>⟨kp,zH (λd8=>s (by simp[xI];right;omega)) λd8=> ?_⟩⟩⟩⟩;have e2:p.check=if kG p then 31 else if qA p then 24 else 0:=by
  rw[e1,ej (by simp[xI];omega)]
 have r (hb:kG p=ay):∃(o:Unit),p.check=31/\True:=⟨(),by rw[e2,fc hb],trivial⟩
 refine zH (λd9=>r (by simp[kG];omega)) λd9=>zH (λd10=>r (by simp[kG];omega)) λd10=> ?_
 have e3:p.check=if qA p then 24 else 0:=by
  rw[e2,ej (by simp[kG];omega)]
 have q (hb:qA p=ay):∃(o:Unit),p.check=24/\True:=⟨(),by rw[e3,fc hb],trivial⟩
 refine zH (λf1=>q (by simp[qA];omega)) λf1=>zH (λf2=>q (by simp[qA];omega)) λf2=>zH (λf3=>q (by simp[qA];omega)) λf3=>zH (λf4=>q (by simp[qA];omega)) λf4=>zH (λf5=>q (by simp[qA];omega)) λf5=>zH (λf6=>q (by simp[qA];omega)) λf6=> ?_
 exact⟨(),by rw[e3,ej (by simp[qA];omega)],trivial⟩
def lF:FU.ok Tryz.prog 43:=gw mixed (dw yYe (dw yEu (dw yMm (dw yZl (dw yYh fg))))) 0 (λ_=>[]) (λ_=>[]) [] Tryz.func43 y0s
structure fb.Ok (p:fb):Prop where
 sym:wE p.code=ay
 dk:xG p.dk=ay
 aa3:qL p=ay
 m2:2<=p.dk.length
 m6:p.dk.length<=6
 t1:1<=p.tick
 t2:p.tick<=1000
 b1: -1000000<=p.low
 b2:p.low<p.high
 b3:p.high<=1000000
 b4:0<=p.wide
 b5:p.wide<=p.high-p.low
 s1:p.settle.length=p.dk.length
 s2:p.low<=sW p.settle
 s3:eR p.settle<=p.high
 r1:1<=p.dr
 r2:p.dr<=3
 q1:0<=p.top
 q2:p.top<=1000000
 q3:1<=p.least
 q4:p.least<=1000
 q5:0<=p.part
 q6:p.part<=100
def qR {p:fb} (h:p.check=0):p.Ok:=by
 unfold fb.check at h;split at h<;>first|(exfalso;revert h;decide)|skip
 rename_i c1;split at h<;>first|(exfalso;revert h;decide)|skip
 rename_i c2;split at h<;>first|(exfalso;revert h;decide)|skip
 rename_i c3;split at h<;>first|(exfalso;revert h;decide)|skip
 rename_i c4;split at h<;>first|(exfalso;revert h;decide)|skip
 rename_i c5;split at h<;>first|(exfalso;revert h;decide)|skip
 rename_i c6;split at h<;>first|(exfalso;revert h;decide)|skip
 rename_i c7;simp only[EB,Bool.not_eq_false,Bool.not_eq_true]at c1 c2 c3;have m:=c2;have t:=c3;simp[xG]at m;simp[qL]at t;simp[qP]at c4;simp[xI]at c5;simp[kG]at c6;simp[qA]at c7;exact⟨c1,c2,c3,oM,oM,oM,oM,oM,oM,oM,oM,oM,oM,oM,oM,oM,oM,oM,oM,oM,oM,oM,oM⟩
def yFq {n:Nat} (h:n<=6):n+n*(n-1) / 2<=21:=by
 have:∀n≤6,n+n*(n-1) / 2<=21:=by decide
 exact this n h
def yRh (p:fb) (h:C7.dp p):z7r p:=by
 unfold z7r tC xF zW;obtain⟨h1,h2,h3⟩:p.small:=h;refine⟨p,?_⟩;simp only[y4]
 (repeat'(first|exact rfl|exact trivial|assumption|apply be|refineλ(_:Unit) (_:True)=>?_|refine az () ?_|omega|(dsimp only;omega)))
 refine Cv.dp.mk (λc=>⟨(),by rw[fb.count,ej (by simpa using c)];rfl,trivial⟩) (λc=> ?_);have c:p.check=0:=by simpa using c
 have ok:=qR c;refine⟨kp,Z8,(),?_,trivial⟩;rw[fb.count,fc c];obtain⟨n,hn⟩:∃n,p.dk.length=n:=⟨_,rfl⟩
 have m2:=ok.m2;have m6:=ok.m6;rw[hn]at m2 m6 ⊢;have:n=2\/n=3\/n=4\/n=5\/n=6:=by omega
 rcases this with rfl|rfl|rfl|rfl|rfl<;>rfl
def aH:C7.ok Tryz.prog 44:=gw mixed (dw lF fg) 0 (λ_=>[]) (λ_=>[]) [] Tryz.func44 yRh
def lY {p:fb} (h:p.count≠0):p.check=0:=by
 unfold fb.count at h;split at h
 ·assumption
 ·exact absurd rfl h
def xR (p:fb):p.count<=21:=by
 unfold fb.count;split
 ·rename_i h;exact yFq (qR h).m6
 ·omega
def WB {n m:Nat} (h:n<=6) (hm:m<=n):yK n m<=21:=by
 have:∀n≤6,∀m≤n,yK n m<=21:=by decide
 exact this n h m hm
def y5e (i:bI) (h:JD.dp i):yVe i:=by
 unfold yVe Ts fJ Xd vM uV Tu nR zW dI;obtain⟨h1,h2,h3⟩:i.p.small:=h;refine⟨i.p,?_⟩;simp only[y4]
 (repeat'(first|exact rfl|exact trivial|assumption|apply be|refineλ(_:Unit) (_:True)=>?_|refine az () ?_|omega|(dsimp only;omega)))
 refine zH (λc1=> ?_) (λc1=>zH (λc2=> ?_) (λc2=> ?_))
 ·rw[fb.ga,fc (by omega)];exact kp
 ·rw[fb.ga,fc (by omega)];exact kp
 have c2:¬i.n>=(i.p.count:Int):=c2;have hc:=xR i.p;have ok:=qR (lY (p:=i.p) oM);have m6:=ok.m6;refine zH (λc3=> ?_) (λc3=> ?_)
 ·rw[fb.ga,ej (by omega),fc c3];exact kp
 have e0:i.p.ga i.n=kQ i.p.dk.length i.n.toNat i.p.dk.length 0:=by
  rw[fb.ga,ej (by omega),ej c3]
 rw[e0];generalize hn:i.p.dk.length=n at c3 m6 ⊢;obtain⟨k,hk⟩:∃k:Nat,i.n=k:=⟨i.n.toNat,oM⟩
 rw[hk]at c2 c3 ⊢;refine⟨0,rfl,rfl,λm=>m<=n/\yK n m<=k/\kQ n k n 0=kQ n k (n-m) m,λm=>n-m,⟨oM,by show n<=k;omega,rfl⟩,?_⟩;rintro m ⟨g1,g2,g3⟩;have hf:=WB m6 g1;refine zH (λc4=> ?_) (λc4=> ?_)
 ·obtain⟨r,hr⟩:∃r,n-m=r+1:=⟨n-m-1,oM⟩
  have e1:(k:Int).toNat=k:=by omega
  rw[e1,g3,hr,ir (x:=(n:Int)-1) (by omega),ir (x:=(n:Int)-1-m) (by omega),ir (x:=(yK n m:Int)+((n:Int)-1-m)) (by omega),ir (x:=(m:Int)+1) (by omega)];rw[hr]at g3;refine zH (λc5=> ?_) (λc5=> ?_)
  ·rw[ir (x:=(m:Int)+1+k) (by omega),ir (x:=(m:Int)+1+k-(yK n m:Int)) (by omega),kQ,fc (by omega)];refine⟨(),rfl,?_,rfl,trivial⟩;dsimp only;omega
  ·refine⟨m+1,?_,rfl,⟨oM,?_,?_⟩,by(first|omega|(dsimp only;omega)),kp⟩
   ·rw[yK];omega
   ·rw[yK];omega
   ·rw[kQ,ej (by omega),show n-(m+1)=r by omega]
 ·have e1:(k:Int).toNat=k:=by omega
  rw[e1,g3,show n-m=0 by omega];exact⟨(),iM trivial⟩
def Ms:JD.ok Tryz.prog 119:=gw mixed (dw aH fg) 0 (λ_=>[]) (λi=>y2t i) [] Tryz.func119 y5e
def yQt (i:eM) (h:CY.dp i):yAo i:=by
 unfold yAo c8 zW dI;obtain⟨h1,h2,h3⟩:i.p.small:=h;refine⟨i.p,?_⟩;simp only[y4]
 (repeat'(first|exact rfl|exact trivial|assumption|apply be|refineλ(_:Unit) (_:True)=>?_|refine az () ?_|omega|(dsimp only;omega)))
 have bad (hb:i.p.check≠0\/i.a<0\/i.b<=i.a\/(i.p.dk.length:Int)<=i.b):∃(o:Unit),(i.p.spread i.a i.b).fst=0/\(i.p.spread i.a i.b).snd=ax/\True:=⟨(),by rw[fb.spread,fc hb],by rw[fb.spread,fc hb],trivial⟩
 refine Cv.dp.mk (λc1=>bad (.inl (by simpa using c1))) λc1=>zH (λc2=>bad oM) λc2=>zH (λc3=>bad oM) λc3=>zH (λc4=>bad oM) λc4=> ?_
 have c1:i.p.check=0:=by simpa using c1
 have m6:=(qR c1).m6;rw[fb.spread,ej (by omega)];generalize hn:i.p.dk.length=n at c4 m6 ⊢;obtain⟨a,ha⟩:∃k:Nat,i.a=k:=⟨i.a.toNat,oM⟩
 rw[ha]at c3 ⊢;refine⟨0,rfl,rfl,λm=>m<=a,λm=>a-m,oM,?_⟩;intro m hm;have hm:m<=a:=hm;have hf:=WB (m:=m) m6 oM;refine zH (λc5=> ?_) (λc5=> ?_)
 ·rw[ir (x:=(n:Int)-1) (by omega),ir (x:=(n:Int)-1-m) (by omega),ir (x:=(yK n m:Int)+((n:Int)-1-m)) (by omega),ir (x:=(m:Int)+1) (by omega)];refine⟨m+1,?_,rfl,oM,by(first|omega|(dsimp only;omega)),kp⟩;rw[yK];omega
 ·obtain rfl:m=a:=by omega
  rw[ir (x:=(yK n m:Int)+i.b) (by omega),ir (x:=(yK n m:Int)+i.b-m) (by omega),ir (x:=(yK n m:Int)+i.b-m-1) (by omega)];exact⟨(),rfl,rfl,trivial⟩
def zTe:CY.ok Tryz.prog 173:=gw mixed (dw lF fg) 0 (λ_=>[]) (λi=>yRd i) [] Tryz.func173 yQt
def yYu (i:eM) (h:Fy.dp i):yNb i:=by
 unfold yNb zW;obtain⟨h1,h2,h3⟩:i.p.small:=h;refine⟨i.p,?_⟩;simp only[y4]
 (repeat'(first|exact rfl|exact trivial|assumption|apply be|refineλ(_:Unit) (_:True)=>?_|refine az () ?_|omega|(dsimp only;omega)))
 refine Cv.dp.mk (λc1=>⟨(),by rw[fb.dj,fc (by have:(i.p.count:Int)=0:=(by simpa using c1);omega)],trivial⟩) λc1=> ?_
 have c1:i.p.count≠0:=by
  have:¬(i.p.count:Int)=0:=by simpa using c1
  omega
 have e0:i.p.dj i.a i.b=if i.a<0\/(i.p.count:Int)<=i.a then 20 else if qQ i.p.tick i.b then 22 else
  if i.b<(if(i.p.dk.length:Int)<=i.a then-i.p.wide else i.p.low)\/(if(i.p.dk.length:Int)<=i.a then i.p.wide else i.p.high)<i.b then 23 else 0:=by rw[fb.dj,ej c1]
 rw[e0];have ok:=qR (lY c1);obtain⟨t1,b3,b1,b2,b4,b5⟩:=(⟨ok.t1,ok.b3,ok.b1,ok.b2,ok.b4,ok.b5⟩:_/\_/\_/\_/\_/\_)
 refine zH (λc2=>⟨(),by rw[fc (.inl c2)],trivial⟩) λc2=>zH (λc3=>⟨(),by rw[fc (.inr c3)],trivial⟩) λc3=>⟨kp,oM,?_⟩
 have c3:¬i.a>=(i.p.count:Int):=c3;rw[ej (by omega)];refine Cv.dp.mk (λc4=>⟨(),fc c4,trivial⟩) λc4=> ?_
 rw[ej (by rw[qQ,c4];simp),ir (x:=0-i.p.wide) (by omega)];refine zH (λc5=> ?_) (λc5=> ?_)
 ·have c5:(i.p.dk.length:Int)<=i.a:=c5;simp only[fc c5];refine zH (λc6=>⟨(),fc (.inl oM),trivial⟩) λc6=>zH (λc7=>⟨(),fc (.inr oM),trivial⟩) λc7=>⟨(),ej oM,trivial⟩
 ·have c5:¬(i.p.dk.length:Int)<=i.a:=c5;simp only[ej c5];refine zH (λc6=>⟨(),fc (.inl oM),trivial⟩) λc6=>zH (λc7=>⟨(),fc (.inr oM),trivial⟩) λc7=>⟨(),ej oM,trivial⟩
def lL:Fy.ok Tryz.prog 123:=gw mixed (dw aH fg) 0 (λ_=>[]) (λ_=>[]) [] Tryz.func123 yYu
def yUw (x:Int) (h: -18446744073709551616<=x/\x<18446744073709551616):(gq x/\ar.wrap x=x)\/(9223372036854775807<x/\ar.wrap x=x-18446744073709551616)\/(x< -9223372036854775808/\ar.wrap x=x+18446744073709551616):=by
 have e:ar.wrap x=if(decide (x % 18446744073709551616>=9223372036854775808))=ay then x % 18446744073709551616-18446744073709551616 else x % 18446744073709551616:=by
  have:ar.wrap x=if(ay && decide (x % 18446744073709551616>=9223372036854775808))=ay then x % 18446744073709551616-18446744073709551616 else x % 18446744073709551616:=rfl
  rw[this,zw]
 have e:ar.wrap x=(x+9223372036854775808) % 18446744073709551616-9223372036854775808:=by
  rw[e];by_cases h2:x % 18446744073709551616>=9223372036854775808
  ·rw[fc (lg h2)];omega
  ·rw[ej (by simpa using h2)];omega
 rw[e];by_cases h1:gq x
 ·exact .inl ⟨h1,by unfold gq at h1;omega⟩
 ·unfold gq at h1;omega
def y7i (i:I2) (h:Qw.dp i):y5f i:=by
 obtain⟨⟨x1,x2⟩,y1,y2⟩:gq i.x/\gq i.y:=h;have hw:=yUw (i.x+i.y) oM;unfold y5f V3 gI;generalize ar.wrap (i.x+i.y)=w at hw ⊢;unfold gq at hw ⊢;refine Cv.dp.mk (λc1=>Cv.dp.mk (λc2=> ?_) (λc2=> ?_)) (λc1=> ?_)
 all_goals(simp at*)
 ·rw[ej (by omega)];exact kp
 ·rw[fc (by omega)];refine⟨?_,rfl⟩;dsimp only;omega
 ·rw[fc (by omega)];refine⟨?_,rfl⟩;dsimp only;omega
def RC:Qw.ok Tryz.prog 205:=gw mixed fg 0 (λ_=>[]) (λ_=>[]) [] Tryz.func205 y7i
def y6w (i:I2) (h:PM.dp i):y3z i:=by
 obtain⟨⟨x1,x2⟩,y1,y2⟩:gq i.x/\gq i.y:=h;have hw:=yUw (i.x-i.y) oM;unfold y3z Wn gM;generalize ar.wrap (i.x-i.y)=w at hw ⊢;unfold gq at hw ⊢;refine Cv.dp.mk (λc1=>Cv.dp.mk (λc2=> ?_) (λc2=> ?_)) (λc1=> ?_)
 all_goals(simp at*)
 ·rw[ej (by omega)];exact kp
 ·rw[fc (by omega)];refine⟨?_,rfl⟩;dsimp only;omega
 ·rw[fc (by omega)];refine⟨?_,rfl⟩;dsimp only;omega
def Rw:PM.ok Tryz.prog 206:=gw mixed fg 0 (λ_=>[]) (λ_=>[]) [] Tryz.func206 y6w
structure Slot where
 used:Bool
 n:Int
 id:Int
 dq:Int
 top:Bool
 queue:Int
 ahead:Int
 back:Int
 deriving DecidableEq
structure cV where
 first:Int
 last:Int
 total:Int
 count:Int
 deriving DecidableEq
structure dt where
 du:List Slot
 dx:List cV
 free:Int
 deriving DecidableEq
def zR (s:Slot):List D:=[.v (.bool s.used),.v (.int .i64 s.n),.v (.int .i64 s.id),.v (.int .i64 s.dq),.v (.bool s.top),.v (.int .i64 s.queue),.v (.int .i64 s.ahead),.v (.int .i64 s.back)]
def zP (q:cV):List D:=[.v (.int .i64 q.first),.v (.int .i64 q.last),.v (.int .i64 q.total),.v (.int .i64 q.count)]
def iB:Slot:=⟨ax,0,0,0,ax,0,0,0⟩
def zF (a:dt):Nat->ff
 |0=> .cells [.own 1,.own 2,zA a.free] 317
 |1=> .own 314 8 (a.du.map zR)
 |2=> .own 320 4 (a.dx.map zP)
 |_=> .gone
def j0 (a:dt):ff:= .qq dt 3 zF a
structure xL where
 dj:Int
 queue:Int
 deriving DecidableEq
structure Place where
 side:Int
 dj:Int
 slot:Int
 deriving DecidableEq
structure dm where
 a:dt
 ez:List xL
 dv:List xL
 at_:List (Int×Place)
 gg:Int
 gh:Int
 spare:List Int
 fm:Bool
 fp:Bool
 deriving DecidableEq
def zB (r:xL):List D:=[.v (.int .i64 r.dj),.v (.int .i64 r.queue)]
def Y3 (p:Place):List D:=[.v (.int .i64 p.side),.v (.int .i64 p.dj),.v (.int .i64 p.slot)]
def iF (l:List (Int×Place)):List (cd×List D):=l.map λx=>(.int .i64 x.1,Y3 x.2)
def zQ (b:dm):Nat->ff
 |0=> .cells [.nm 1 0,.own 2,.own 3,.mp 4,zA b.gg,zA b.gh,.own 5,yL b.fm,yL b.fp] 273
 |1=>j0 b.a
 |2=> .own 276 2 (b.ez.map zB)
 |3=> .own 276 2 (b.dv.map zB)
 |4=> .map (iF b.at_)
 |5=> .own 3 1 (iE b.spare)
 |_=> .gone
def yA (b:dm):ff:= .qq dm 6 zQ b
structure gl where
 p:fb
 dz:List dm
 wh:List (Int×Int)
def yR (l:List (Int×Int)):List (cd×List D):=l.map λx=>(.int .i64 x.1,[.v (.int .i64 x.2)])
def xO (s:gl):Nat->ff
 |0=> .cells [sV s.p.code,.own 3,zA s.p.tick,zA s.p.low,zA s.p.high,zA s.p.wide,zA s.p.dr,zA s.p.top,zA s.p.least,zA s.p.part,.own 4,.own 1,.mp 2] 210
 |1=> .jt 211 dm 6 zQ s.dz bc
 |2=> .map (yR s.wh)
 |3=> .ja 1 (iE s.p.dk)
 |4=> .ja 1 (iE s.p.settle)
 |_=> .gone
def zE (s:gl):ff:= .qq gl 5 xO s
def NB (n:Nat):dt:=⟨am n iB,[],n⟩
def lz:dm:=⟨NB 250,[],[],[],0,0,[],ax,ax⟩
def JB:fy:=fj Nat (λn=>[zA n]) (λ_=>[]) (λn=>1<=n/\n<=4096) (λ_=> .iW [.nm 0 0,zA 0]) (λn=>[j0 (NB n)])
def QQ:fy:=fj Unit (λ_=>[]) (λ_=>[]) (λ_=>True) (λ_=> .nm 0 0) (λ_=>[yA lz])
def bL (p:fb):gl:=⟨p,am p.count lz,[]⟩
def Jz:fy where
 ι:=fb
 pat:=λp=>[nu p]
 pre:=λ_=>[]
 dp:=λp=>p.small
 alts:=λp=>[{o:=Unit,res:=λ_=> .iW [.nm 0 0,zA 0],post:=λ_=>[zE (bL p)],rel:=λ_=>p.check=0},{o:=Unit,res:=λ_=> .iW [.d (.v (.pointer bc)),zA p.check],post:=λ_=>[],rel:=λ_=>p.check≠0}]
def y5v (p:fb):List gj:=[{ι:=Nat,du:=λj=>[(5,.nm 0 0),(27,zA j)],rows:=λj=>(ao 5).map (xO ⟨p,am j lz,[]⟩)}]
def Ii:fy:=fj (List Slot) (λ_=>[.own 0]) (λl=>[.own 314 8 (l.map zR)]) (λl=>l.length<=1000000) (λ_=> .own 1) (λl=>[.own 314 8 (l.map zR),.own 314 8 (l.map zR)])
def Ga:fy:=fj (List cV) (λ_=>[.own 0]) (λl=>[.own 320 4 (l.map zP)]) (λl=>l.length<=1000000) (λ_=> .own 1) (λl=>[.own 320 4 (l.map zP),.own 320 4 (l.map zP)])
def Ij:fy:=fj (List xL) (λ_=>[.own 0]) (λl=>[.own 276 2 (l.map zB)]) (λl=>l.length<=1000000) (λ_=> .own 1) (λl=>[.own 276 2 (l.map zB),.own 276 2 (l.map zB)])
def LS:fy:=fj (List Int) (λ_=>[.own 0]) (λl=>[.own 3 1 (iE l)]) (λl=>l.length<=1000000) (λ_=> .own 1) (λl=>[.own 3 1 (iE l),.own 3 1 (iE l)])
def yMj (f:Nat):fy:=fj (List (cd×List D)) (λ_=>[.mp 0]) (λes=>[.map es]) (λ_=>True) (λ_=> .mp 1) (λes=>[.map es,.map es])
def zq:fy:=yMj 0
def zp:fy:=yMj 1
@[reducible] def dt.small (a:dt):Prop:=a.du.length<=1000000/\a.dx.length<=1000000
@[reducible] def dm.small (b:dm):Prop:=b.a.small/\b.ez.length<=1000000/\b.dv.length<=1000000/\b.spare.length<=1000000
@[reducible] def gl.small (s:gl):Prop:=s.dz.length<=1000000/\∀b∈s.dz,b.small
def LR:fy:=fj dt (λ_=>[.nm 0 0]) (λa=>[j0 a]) dt.small (λ_=> .nm 1 0) (λa=>[j0 a,j0 a])
def LQ:fy:=fj dm (λ_=>[.nm 0 0]) (λb=>[yA b]) dm.small (λ_=> .nm 1 0) (λb=>[yA b,yA b])
def y1j:List gj:=[{ι:=Unit,du:=λ_=>[],rows:=λ_=>[],un:=3}]
def LP:fy:=fj gl (λ_=>[.nm 0 0]) (λs=>[zE s]) gl.small (λ_=> .nm 1 0) (λs=>[zE s,zE s])
def yTk (n:Nat):Prop:=
 dp (decide ((↑n:Int)<1)) (∃(a:Unit),False) (dp (decide ((↑n:Int)>4096)) (∃(a:Unit),False) ((0<=(↑n:Int)/\(↑n:Int)<=(↑n:Int)/\(↑n:Int)<=9223372036854775807/\(↑(64:Nat):Int)*(↑n:Int)<=2 ^ (48:Nat))/\∃(a:Unit),di ((0:Int))/\di ((↑n:Int))/\aj zR (am n iB)=am (↑n:Int).toNat [D.v (.bool ax),dI 0,dI 0,dI 0,D.v (.bool ax),dI 0,dI 0,dI 0]/\([]:List (List D))=[]/\True))
def y2y (u:Unit):Prop:=
 ∃(i:Nat),(↑i:Int)=250/\(1<=i/\i<=4096)/\∀(o:Unit),True->∃(o:Unit),di ((0:Int))/\di ((0:Int))/\ax=ax/\ax=ax/\aa dt 3 zF (NB 250)=aa dt 3 zF (NB i)/\([]:List (List D))=[]/\([]:List (List D))=[]/\iF []=[]/\iE []=[]/\True
def WI (a:fb) (b:Nat):Prop:=∃(c:Unit),di ((0:Int))/\di (sb a.code)/\di a.tick/\di a.low/\di a.high/\di a.wide/\di a.dr/\di a.top/\di a.least/\di a.part/\ae 211 dm 6 zQ (am a.count lz) bc=ae 211 dm 6 zQ (am b lz) bc/\di (yR [])/\di (ab 1 (iE a.dk))/\di (ab 1 (iE a.settle))/\a.check=0
def aL (a:fb):Prop:=ab 1 (iE a.settle)=ab 1 (iE a.settle)/\di (ab 1 (iE a.dk))
def u9 (a:fb):=(D.v (bz (sb a.code)))
def V7 (a:fb):Prop:=True/\True/\(0+(iE a.dk).length)*(8:Nat)<=(140737488355328:Nat)/\True/\(0+(iE a.settle).length)*(8:Nat)<=(140737488355328:Nat)/\∃(b:fb),sb b.code=sb a.code/\iE b.dk=[]++iE a.dk/\b.tick=a.tick/\b.low=a.low/\b.high=a.high/\b.wide=a.wide/\b.dr=a.dr/\b.top=a.top/\b.least=a.least/\b.part=a.part/\iE b.settle=[]++iE a.settle/\(zW b)/\∀(c:Unit),True->∃(d:Nat),(↑d:Int)=0/\di (sb a.code)/\di a.tick/\di a.low/\di a.high/\di a.wide/\di a.dr/\di a.top/\di a.least/\di a.part/\am d lz=[]/\(bc:Option Nat)=bc/\yR []=[]/\ab 1 (iE a.dk)=ab 1 ([]++iE a.dk)/\ab 1 (iE a.settle)=ab 1 ([]++iE a.settle)/\∃(e:Nat->Prop),∃(f:Nat->Nat),e d/\∀(g:Nat),e g->dp (decide ((↑g:Int)<(↑b.count:Int))) (∃(h:Unit),True/\∀(j:Unit),True->True/\True/\∃(k:List dm),ae 211 dm 6 zQ (am g lz) bc=ae 211 dm 6 zQ k bc/\(k.length+1)*(8:Nat)<=(140737488355328:Nat)/\∃(l:Nat),(↑l:Int)=ar.wrap ((↑g:Int)+1)/\di (sb a.code)/\di a.tick/\di a.low/\di a.high/\di a.wide/\di a.dr/\di a.top/\di a.least/\di a.part/\ae 211 dm 6 zQ (am l lz) bc=ae 211 dm 6 zQ (k++[lz]) bc/\di (yR [])/\di (ab 1 (iE a.dk))/\di (ab 1 (iE a.settle))/\e l/\f l<f g/\di (ab 1 ([]++iE a.settle))/\di (ab 1 ([]++iE a.dk))/\di (ac [V.d (u9 a),V.own 5,V.d (dI a.tick),V.d (dI a.low),V.d (dI a.high),V.d (dI a.wide),V.d (dI a.dr),V.d (dI a.top),V.d (dI a.least),V.d (dI a.part),V.own 6] 25)/\aL a) ((WI a g)\/(∃(h:Unit),False))
def yUu (p:fb):Prop:=
 ∃(a:fb),sb a.code=sb p.code/\iE a.dk=iE p.dk/\a.tick=p.tick/\a.low=p.low/\a.high=p.high/\a.wide=p.wide/\a.dr=p.dr/\a.top=p.top/\a.least=p.least/\a.part=p.part/\iE a.settle=iE p.settle/\(zW a)/\∀(b:Unit),True->dp (a.check !=0) ((∃(c:Unit),False)\/(∃(c:Unit),True/\p.check=a.check/\(p.check=0->False))) ((True/\True/\((0+(iE p.dk).length)*(8:Nat)<=(140737488355328:Nat)/\True/\True/\(0+(iE p.settle).length)*(8:Nat)<=(140737488355328:Nat)/\∃(c:fb),sb c.code=sb p.code/\iE c.dk=[]++iE p.dk/\c.tick=p.tick/\c.low=p.low/\c.high=p.high/\c.wide=p.wide/\c.dr=p.dr/\c.top=p.top/\c.least=p.least/\c.part=p.part/\iE c.settle=[]++iE p.settle/\(zW c)/\∀(d:Unit),True->∃(e:Nat),(↑e:Int)=0/\di (sb p.code)/\di p.tick/\di p.low/\di p.high/\di p.wide/\di p.dr/\di p.top/\di p.least/\di p.part/\am e lz=[]/\(bc:Option Nat)=bc/\yR []=[]/\ab 1 (iE p.dk)=ab 1 ([]++iE p.dk)/\ab 1 (iE p.settle)=ab 1 ([]++iE p.settle)/\∃(f:Nat->Prop),∃(g:Nat->Nat),f e/\∀(h:Nat),f h->dp (decide ((↑h:Int)<(↑c.count:Int))) (∃(j:Unit),True/\∀(k:Unit),True->True/\True/\∃(l:List dm),ae 211 dm 6 zQ (am h lz) bc=ae 211 dm 6 zQ l bc/\(l.length+1)*(8:Nat)<=(140737488355328:Nat)/\∃(m:Nat),(↑m:Int)=ar.wrap ((↑h:Int)+1)/\di (sb p.code)/\di p.tick/\di p.low/\di p.high/\di p.wide/\di p.dr/\di p.top/\di p.least/\di p.part/\ae 211 dm 6 zQ (am m lz) bc=ae 211 dm 6 zQ (l++[lz]) bc/\di (yR [])/\di (ab 1 (iE p.dk))/\di (ab 1 (iE p.settle))/\f m/\g m<g h/\di (ab 1 ([]++iE p.settle))/\di (ab 1 ([]++iE p.dk))/\di (ac [V.d (u9 p),V.own 4,V.d (dI p.tick),V.d (dI p.low),V.d (dI p.high),V.d (dI p.wide),V.d (dI p.dr),V.d (dI p.top),V.d (dI p.least),V.d (dI p.part),V.own 6] 25)/\aL p) ((WI p h)\/(∃(j:Unit),False)))/\V7 p)/\True/\True/\V7 p)
def yPw (l:List Slot):Prop:=
 ∀(b:Bool),(b=ay->aj zR l=[])->dp b (∃(o:Unit),di (aj zR l)/\aj zR l=[]/\True) ((0+(aj zR l).length)*(64:Nat)<=(140737488355328:Nat)/\∃(o:Unit),di (aj zR l)/\aj zR l=[]++aj zR l/\True)
def yHc (l:List cV):Prop:=
 ∀(b:Bool),(b=ay->aj zP l=[])->dp b (∃(o:Unit),di (aj zP l)/\aj zP l=[]/\True) ((0+(aj zP l).length)*(32:Nat)<=(140737488355328:Nat)/\∃(o:Unit),di (aj zP l)/\aj zP l=[]++aj zP l/\True)
def yRg (l:List xL):Prop:=
 ∀(b:Bool),(b=ay->aj zB l=[])->dp b (∃(o:Unit),di (aj zB l)/\aj zB l=[]/\True) ((0+(aj zB l).length)*(16:Nat)<=(140737488355328:Nat)/\∃(o:Unit),di (aj zB l)/\aj zB l=[]++aj zB l/\True)
def y1k (l:List Int):Prop:=
 ∀(b:Bool),(b=ay->iE l=[])->dp b (∃(o:Unit),iE l=iE l/\iE l=[]/\True) ((0+(iE l).length)*(8:Nat)<=(140737488355328:Nat)/\∃(o:Unit),iE l=iE l/\iE l=[]++iE l/\True)
def ZV (es:List (cd×List D)):Prop:=
 ∃(a:List (cd×List D)),a=es/\True/\∀(b:Unit),True->∃(c:Unit),es=a/\es=a/\True
def yWf (es:List (cd×List D)):ZV es=walk Tryz.prog ([(174,bU 271)]) 0 ([]) ([]) [] Tryz.f176 (Tryz.f176.body.getD .skip) (zq.pat es) (zq.pre es) (zq.alts es):=by kernel_rfl
def yVz (hG:A0 Tryz.prog ([(174,bU 271)])) (h:∀(es:List (cd×List D)),zq.dp es->ZV es):zq.ok Tryz.prog 176:=vC mixed ([(174,bU 271)]) hG 0 (λ(es:List (cd×List D))=>[]) (λ(es:List (cd×List D))=>[]) [] Tryz.func176 (by kernel_rfl) (by kernel_rfl) (by kernel_rfl) (λ_=>by kernel_rfl) (λ(es:List (cd×List D)) hc=>Eq.mp (yWf es) (h es hc))
def Z0 (es:List (cd×List D)):Prop:=
 ∃(a:List (cd×List D)),a=es/\True/\∀(b:Unit),True->∃(c:Unit),es=a/\es=a/\True
def yWh (es:List (cd×List D)):Z0 es=walk Tryz.prog ([(174,bU 100)]) 0 ([]) ([]) [] Tryz.f124 (Tryz.f124.body.getD .skip) (zp.pat es) (zp.pre es) (zp.alts es):=by kernel_rfl
def y0n (hG:A0 Tryz.prog ([(174,bU 100)])) (h:∀(es:List (cd×List D)),zp.dp es->Z0 es):zp.ok Tryz.prog 124:=vC mixed ([(174,bU 100)]) hG 0 (λ(es:List (cd×List D))=>[]) (λ(es:List (cd×List D))=>[]) [] Tryz.func124 (by kernel_rfl) (by kernel_rfl) (by kernel_rfl) (λ_=>by kernel_rfl) (λ(es:List (cd×List D)) hc=>Eq.mp (yWh es) (h es hc))
def y0i (a:dt):Prop:=
 ∃(i:List Slot),aj zR i=aj zR a.du/\i.length<=1000000/\∀(o:Unit),True->di a.free/\True/\∃(ig:List cV),aj zP ig=aj zP a.dx/\ig.length<=1000000/\∀(o:Unit),True->di a.free/\∃(o:Unit),di a.free/\aj zR a.du=aj zR i/\aj zP a.dx=aj zP ig/\di a.free/\aj zR a.du=aj zR i/\aj zP a.dx=aj zP ig/\True
def yWp (b:dm):Prop:=
 ∃(i:dt),aa dt 3 zF i=aa dt 3 zF b.a/\(i.du.length<=1000000/\i.dx.length<=1000000)/\∀(o:Unit),True->True/\True/\∃(ig:List (cd×List D)),ig=iF b.at_/\True/\∀(o:Unit),True->True/\∃(mq:List Int),iE mq=iE b.spare/\mq.length<=1000000/\∀(o:Unit),True->∃(iK:List xL),aj zB iK=aj zB b.ez/\iK.length<=1000000/\∀(o:Unit),True->∃(Us:List xL),aj zB Us=aj zB b.dv/\Us.length<=1000000/\∀(o:Unit),True->∃(o:Unit),di b.gg/\di b.gh/\di b.fm/\di b.fp/\aa dt 3 zF b.a=aa dt 3 zF i/\aj zB b.ez=aj zB iK/\aj zB b.dv=aj zB Us/\iF b.at_=ig/\iE b.spare=iE mq/\di b.gg/\di b.gh/\di b.fm/\di b.fp/\aa dt 3 zF b.a=aa dt 3 zF i/\aj zB b.ez=aj zB iK/\aj zB b.dv=aj zB Us/\iF b.at_=ig/\iE b.spare=iE mq/\True
def y1v (n:Nat) (h:JB.dp n):yTk n:=by
 obtain⟨h1,h2⟩:1<=n/\n<=4096:=h;unfold yTk dI;refine zH (λc=>by omega) λc=>zH (λc=>by omega) λc=> ?_
 refine⟨⟨oM,oM,oM,?_⟩,?_⟩
 ·have:(2:Int) ^ (48:Nat)=281474976710656:=by decide
  rw[this];omega
 ·refine⟨(),rfl,rfl,?_,rfl,trivial⟩;rw[List.map_replicate];rfl
def yPx:JB.ok Tryz.prog 224:=gw mixed fg 0 (λ_=>[]) (λ_=>[]) [] Tryz.func224 y1v
def yNy:QQ.ok Tryz.prog 209:=gw (V:=y2y) mixed (dw yPx fg) 0 (λ_=>[]) (λ_=>[]) [] Tryz.func209 λ(u:Unit) _=>by
 refine⟨250,rfl,⟨oM,oM⟩,?_⟩;exact kp
def y3q (p:fb) (h:Jz.dp p):yUu p:=by
 unfold yUu V7 u9 aL WI zW dI;have hs:p.small:=h;obtain⟨h1,h2,h3⟩:p.small:=h;refine⟨p,?_⟩;simp only[y4]
 (repeat'(first|exact rfl|exact trivial|assumption|apply be|refineλ(_:Unit) (_:True)=>?_|refine az () ?_|omega|(dsimp only;omega)))
 refine Cv.dp.mk (λc=> .inr ⟨(),trivial,kp,by simpa using c⟩) λc=> ?_
 have c:p.check=0:=by simpa using c
 have hc:=xR p
 (repeat'(first|exact rfl|exact trivial|assumption|apply be|refineλ(_:Unit) (_:True)=>?_|refine az () ?_|omega|(dsimp only;omega)))
 all_goals(refine⟨p,?_⟩;(repeat'(first|exact rfl|exact trivial|assumption|apply be|refineλ(_:Unit) (_:True)=>?_|refine az () ?_|omega|(dsimp only;omega))))
 all_goals(refine⟨0,?_⟩;(repeat'(first|exact rfl|exact trivial|assumption|apply be|refineλ(_:Unit) (_:True)=>?_|refine az () ?_|omega|(dsimp only;omega))))
 all_goals(refine⟨λj=>j<=p.count,λj=>p.count-j,oM,λj hj=>zH (λgr=> ?_) (λgr=> ?_)⟩;all_goals dsimp only at hj gr)
 all_goals first
  |(refine .inl ⟨(),?_⟩
    obtain rfl:j=p.count:=by omega
    (repeat'(first|exact rfl|exact trivial|assumption|apply be|refineλ(_:Unit) (_:True)=>?_|refine az () ?_|omega|(dsimp only;omega))))
  |(refine⟨(),trivial,λ_ _=>⟨trivial,trivial,am j lz,rfl,?_,j+1,?_⟩⟩
    ·rw[Gw];omega
    ·rw[ir (by omega),<- List.replicate_succ']
     (repeat'(first|exact rfl|exact trivial|assumption|apply be|refineλ(_:Unit) (_:True)=>?_|refine az () ?_|omega|(dsimp only;omega))))
def yOi:Jz.ok Tryz.prog 178:=gw mixed (dw lF (dw aH (dw yNy fg))) 0 (λ_=>[]) (λp=>y5v p) [] Tryz.func178 y3q
def yEb:Ii.ok Tryz.prog 207:=gw (V:=yPw) mixed fg 0 (λ_=>[]) (λ_=>[]) [] Tryz.func207 λ(l:List Slot) h=>by
 have h:l.length<=1000000:=h;exactλb hb=>Cv.dp.mk (λe=>⟨(),rfl,hb e,trivial⟩) (λ_=>⟨by rw[nw,ia];omega,(),rfl,rfl,trivial⟩)
def z6r:Ga.ok Tryz.prog 208:=gw (V:=yHc) mixed fg 0 (λ_=>[]) (λ_=>[]) [] Tryz.func208 λ(l:List cV) h=>by
 have h:l.length<=1000000:=h;exactλb hb=>Cv.dp.mk (λe=>⟨(),rfl,hb e,trivial⟩) (λ_=>⟨by rw[nw,ia];omega,(),rfl,rfl,trivial⟩)
def yDi:Ij.ok Tryz.prog 177:=gw (V:=yRg) mixed fg 0 (λ_=>[]) (λ_=>[]) [] Tryz.func177 λ(l:List xL) h=>by
 have h:l.length<=1000000:=h;exactλb hb=>Cv.dp.mk (λe=>⟨(),rfl,hb e,trivial⟩) (λ_=>⟨by rw[nw,ia];omega,(),rfl,rfl,trivial⟩)
def yKz:LS.ok Tryz.prog 45:=gw (V:=y1k) mixed fg 0 (λ_=>[]) (λ_=>[]) [] Tryz.func45 λ(l:List Int) h=>by
 have h:l.length<=1000000:=h;exactλb hb=>Cv.dp.mk (λe=>⟨(),rfl,hb e,trivial⟩) (λ_=>⟨by rw[nw,y4];omega,(),rfl,rfl,trivial⟩)
def zSw (t:Nat):(bU t).ok Tryz.prog 174:=z7e Tryz.func174 (by kernel_rfl) (by kernel_rfl) (by kernel_rfl) (by kernel_rfl) t
def yQz:zq.ok Tryz.prog 176:=yVz (dw (zSw _) fg) λes _=>by
 unfold ZV;refine⟨es,?_⟩;exact kp
def yRj:zp.ok Tryz.prog 124:=y0n (dw (zSw _) fg) λes _=>by
 unfold Z0;refine⟨es,?_⟩;exact kp
def yLr:LR.ok Tryz.prog 175:=gw (V:=y0i) mixed (dw yEb (dw z6r fg)) 0 (λ_=>[]) (λ_=>[]) [0] Tryz.func175 λ(a:dt) h=>by
 obtain⟨h1,h2⟩:a.small:=h;refine⟨a.du,?_⟩;(repeat'(first|exact rfl|exact trivial|assumption|apply be|refineλ(_:Unit) (_:True)=>?_|refine az () ?_|omega|(dsimp only;omega)));refine⟨a.dx,?_⟩;exact kp
def yLz:LQ.ok Tryz.prog 126:=gw (V:=yWp) mixed (dw yLr (dw yQz (dw yKz (dw yDi fg)))) 0 (λ_=>[]) (λ_=>y1j) [0] Tryz.func126 λ(b:dm) h=>by
 obtain⟨⟨h1,AV⟩,h2,h3,h4⟩:b.small:=h;refine⟨b.a,?_⟩;(repeat'(first|exact rfl|exact trivial|assumption|apply be|refineλ(_:Unit) (_:True)=>?_|refine az () ?_|omega|(dsimp only;omega)));refine⟨iF b.at_,?_⟩;(repeat'(first|exact rfl|exact trivial|assumption|apply be|refineλ(_:Unit) (_:True)=>?_|refine az () ?_|omega|(dsimp only;omega)));refine⟨b.spare,?_⟩;(repeat'(first|exact rfl|exact trivial|assumption|apply be|refineλ(_:Unit) (_:True)=>?_|refine az () ?_|omega|(dsimp only;omega)));refine⟨b.ez,?_⟩;(repeat'(first|exact rfl|exact trivial|assumption|apply be|refineλ(_:Unit) (_:True)=>?_|refine az () ?_|omega|(dsimp only;omega)));refine⟨b.dv,?_⟩;exact kp
structure vp where
 a:dt
 n:Int
def dt.pw (a:dt) (n:Int):cV:=if 0<=n/\n<a.dx.length then a.dx.getD n.toNat ⟨0,0,0,0⟩else⟨0,0,0,0⟩
def Im:fy:=fj vp (λi=>[.nm 0 0,zA i.n]) (λi=>[j0 i.a]) (λi=>True) (λi=>zA (i.a.pw i.n).total) (λi=>[j0 i.a])
def Io:fy:=fj vp (λi=>[.nm 0 0,zA i.n]) (λi=>[j0 i.a]) (λi=>True) (λi=>zA (i.a.pw i.n).count) (λi=>[j0 i.a])
def aa1:fy:=fj Int (λn=>[zA n]) (λ_=>[]) (λ_=>True) (λn=>yL (decide (n=1)||decide (n=2))) (λ_=>[])
structure PD where
 b:dm
 r:xL
def dm.told (b:dm) (r:xL):Lv:=⟨r.dj,(b.a.pw r.queue).total,(b.a.pw r.queue).count⟩
@[reducible] def dm.oc (b:dm):Prop:=∀q∈b.a.dx,gq q.count
def QH:fy:=fj PD (λi=>[.nm 0 0,.agg [zA i.r.dj,zA i.r.queue]]) (λi=>[yA i.b]) (λi=>i.b.oc) (λi=>Ul (i.b.told i.r)) (λi=>[yA i.b])
def dm.iu (b:dm) (l:List xL):Lv×Bool:=match l with
 |[]=>(⟨0,0,0⟩,ax)
 |r::_=>(b.told r,ay)
structure A2 where
 side:Bool
 b:dm
def dm.side (b:dm) (s:Bool):List xL:=if s then b.dv else b.ez
@[reducible] def Zh (b:dm) (l:List xL):V:= .iW [Ul (b.iu l).1,yL (b.iu l).2]
def LV:fy:=fj dm (λ_=>[.nm 0 0,zA 1]) (λb=>[yA b]) dm.oc (λb=>Zh b b.ez) (λb=>[yA b])
def LU:fy:=fj dm (λ_=>[.nm 0 0,zA 2]) (λb=>[yA b]) dm.oc (λb=>Zh b b.dv) (λb=>[yA b])
def zC (s:Bool):Int:=if s then 2 else 1
def Rt:fy:=fj A2 (λi=>[.nm 0 0,zA (zC i.side)]) (λi=>[yA i.b]) (λi=>i.b.oc) (λi=>Zh i.b (i.b.side i.side)) (λi=>[yA i.b])
structure jr where
 fm:Bool
 fp:Bool
 p1:Int
 p2:Int
 q1:Int
 q2:Int
 deriving DecidableEq
def z6 (t:jr):List D:=[.v (.bool t.fm),.v (.bool t.fp),.v (.int .i64 t.p1),.v (.int .i64 t.p2),.v (.int .i64 t.q1),.v (.int .i64 t.q2)]
def j':jr:=⟨ax,ax,0,0,0,0⟩
def jr.EW (t:jr) (x:Lv×Bool):jr:=if x.2 then{t with fm:=ay,p1:=x.1.dj,q1:=x.1.dq}else t
def jr.Ak (t:jr) (x:Lv×Bool):jr:=if x.2 then{t with fp:=ay,p2:=x.1.dj,q2:=x.1.dq}else t
def dm.top (b:dm):jr:=(j'.EW (b.iu b.ez)).Ak (b.iu b.dv)
def gl.fa (s:gl):List jr:=s.dz.map dm.top
@[reducible] def gl.oc (s:gl):Prop:=s.dz.length<=1000000/\∀b∈s.dz,b.oc
def Jo:fy:=fj gl (λ_=>[.nm 0 0]) (λs=>[zE s]) gl.oc (λs=> .own 1) (λs=>[zE s,.own 122 6 (s.fa.map z6)])
def xV (s:gl) (j:Nat) (x:jr):List jr:=(s.fa.take j)++x::am (s.dz.length-j-1) j'
def x7 (s:gl) (j:Nat):List jr:=(s.fa.take j)++am (s.dz.length-j) j'
def yUa (s:gl):List gj:=[
 {ι:=Nat,du:=λj=>[(3,.own 0),(21,zA j)],rows:=λj=>[.own 122 6 ((x7 s j).map z6)]},
 {ι:=Unit,du:=λ_=>[],rows:=λ_=>[],un:=3}]
def yTn (s:gl):List (Nat×gj):=[(15,{ι:=Nat×jr,du:=λx=>[(3,.own 0)],oP:=λx=>[(3,.own 0)],lp:=λx=>[.own 122 6 ((xV s x.1 x.2).map z6)],rows:=λx=>[.own 122 6 ((xV s x.1 x.2).map z6)]})]
def yYt (s:gl):List gj:=[{ι:=Nat,du:=λj=>[(3,.nm 0 0),(22,zA j)],rows:=λj=>(ao 5).map (xO ⟨s.p,s.dz.take j,s.wh⟩)}]
def jL (a:vp):Prop:=a.a.free=a.a.free/\di (aj zR a.a.du)/\di (aj zP a.a.dx)/\True
def lB (a:vp):Prop:=∃(b:Unit),(a.a.pw a.n).total=0/\jL a
def fK (a:vp):=(↑(aj zP a.a.dx).length:Int)
def z8i (i:vp):Prop:=
 dp (decide (i.n>=0)) (dp (!decide (i.n<(fK i))) (lB i) ((0<=i.n/\i.n<(fK i))/\∃(a:Int),zD (aj zP i.a.dx) i.n.toNat 2 1=ba [dI a]/\∃(b:Unit),(i.a.pw i.n).total=a/\jL i)) (lB i)
def YH (a:vp):Prop:=∃(b:Unit),(a.a.pw a.n).count=0/\jL a
def yAd (i:vp):Prop:=
 dp (decide (i.n>=0)) (dp (!decide (i.n<(fK i))) (YH i) ((0<=i.n/\i.n<(fK i))/\∃(a:Int),zD (aj zP i.a.dx) i.n.toNat 3 1=ba [dI a]/\∃(b:Unit),(i.a.pw i.n).count=a/\jL i)) (YH i)
def y1n (n:Int):Prop:=
 dp (n==1) (∃(a:Unit),(decide (n=1)||decide (n=2))=ay/\True) (∃(a:Unit),(decide (n=1)||decide (n=2))=(n==2)/\True)
def y3n (i:PD):Prop:=
 ∃(ig:vp),ig.n=i.r.queue/\aa dt 3 zF ig.a=aa dt 3 zF i.b.a/\True/\∀(o:Unit),True->di i.r.queue/\True/\di i.r.dj/\∃(mq:vp),mq.n=i.r.queue/\aa dt 3 zF mq.a=aa dt 3 zF ig.a/\True/\∀(o:Unit),True->di i.r.dj/\∃(o:Unit),di i.r.dj/\(i.b.a.pw i.r.queue).total=(ig.a.pw ig.n).total/\(i.b.a.pw i.r.queue).count=(mq.a.pw mq.n).count/\di i.b.gg/\di i.b.gh/\di i.b.fm/\di i.b.fp/\aa dt 3 zF i.b.a=aa dt 3 zF mq.a/\di (aj zB i.b.ez)/\di (aj zB i.b.dv)/\di (iF i.b.at_)/\di (iE i.b.spare)/\True
def yWe (b:dm):Prop:=
 ∃(i:Int),i=1/\True/\∀(o:Unit),True->dp (!(decide (i=1)||decide (i=2))) (∃(o:Unit),(b.iu b.ez).fst.dj=0/\(b.iu b.ez).fst.dq=0/\(b.iu b.ez).fst.count=0/\(b.iu b.ez).snd=ax/\di b.gg/\di b.gh/\di b.fm/\di b.fp/\di (aa dt 3 zF b.a)/\di (aj zB b.ez)/\di (aj zB b.dv)/\di (iF b.at_)/\di (iE b.spare)/\True) (dp ((↑(aj zB b.ez).length:Int)==0) (∃(o:Unit),(b.iu b.ez).fst.dj=0/\(b.iu b.ez).fst.dq=0/\(b.iu b.ez).fst.count=0/\(b.iu b.ez).snd=ax/\di b.gg/\di b.gh/\di b.fm/\di b.fp/\di (aa dt 3 zF b.a)/\di (aj zB b.ez)/\di (aj zB b.dv)/\di (iF b.at_)/\di (iE b.spare)/\True) (((0:Int)<=(0:Int)/\0<(↑(aj zB b.ez).length:Int))/\∃(n:Int),∃(Hl:Int),zD (aj zB b.ez) (bo 0) 0 2=ba [D.v (.int .i64 n),D.v (.int .i64 Hl)]/\∃(i:PD),i.r.dj=n/\i.r.queue=Hl/\i.b.gg=b.gg/\i.b.gh=b.gh/\i.b.fm=b.fm/\i.b.fp=b.fp/\aa dt 3 zF i.b.a=aa dt 3 zF b.a/\aj zB i.b.ez=aj zB b.ez/\aj zB i.b.dv=aj zB b.dv/\iF i.b.at_=iF b.at_/\iE i.b.spare=iE b.spare/\(∀(q:cV),q∈i.b.a.dx->(-9223372036854775808)<=q.count/\q.count<=9223372036854775807)/\∀(o:Unit),True->∃(o:Unit),(b.iu b.ez).fst.dj=i.r.dj/\(b.iu b.ez).fst.dq=(i.b.a.pw i.r.queue).total/\(b.iu b.ez).fst.count=(i.b.a.pw i.r.queue).count/\(b.iu b.ez).snd=ay/\yA b=yA i.b/\True))
def yYr (b:dm):Prop:=
 ∃(i:Int),i=2/\True/\∀(o:Unit),True->dp (!(decide (i=1)||decide (i=2))) (∃(o:Unit),(b.iu b.dv).fst.dj=0/\(b.iu b.dv).fst.dq=0/\(b.iu b.dv).fst.count=0/\(b.iu b.dv).snd=ax/\di b.gg/\di b.gh/\di b.fm/\di b.fp/\di (aa dt 3 zF b.a)/\di (aj zB b.ez)/\di (aj zB b.dv)/\di (iF b.at_)/\di (iE b.spare)/\True) (dp ((↑(aj zB b.dv).length:Int)==0) (∃(o:Unit),(b.iu b.dv).fst.dj=0/\(b.iu b.dv).fst.dq=0/\(b.iu b.dv).fst.count=0/\(b.iu b.dv).snd=ax/\di b.gg/\di b.gh/\di b.fm/\di b.fp/\di (aa dt 3 zF b.a)/\di (aj zB b.ez)/\di (aj zB b.dv)/\di (iF b.at_)/\di (iE b.spare)/\True) (((0:Int)<=(0:Int)/\0<(↑(aj zB b.dv).length:Int))/\∃(n:Int),∃(Hl:Int),zD (aj zB b.dv) (bo 0) 0 2=ba [D.v (.int .i64 n),D.v (.int .i64 Hl)]/\∃(i:PD),i.r.dj=n/\i.r.queue=Hl/\i.b.gg=b.gg/\i.b.gh=b.gh/\i.b.fm=b.fm/\i.b.fp=b.fp/\aa dt 3 zF i.b.a=aa dt 3 zF b.a/\aj zB i.b.ez=aj zB b.ez/\aj zB i.b.dv=aj zB b.dv/\iF i.b.at_=iF b.at_/\iE i.b.spare=iE b.spare/\(∀(q:cV),q∈i.b.a.dx->(-9223372036854775808)<=q.count/\q.count<=9223372036854775807)/\∀(o:Unit),True->∃(o:Unit),(b.iu b.dv).fst.dj=i.r.dj/\(b.iu b.dv).fst.dq=(i.b.a.pw i.r.queue).total/\(b.iu b.dv).fst.count=(i.b.a.pw i.r.queue).count/\(b.iu b.dv).snd=ay/\yA b=yA i.b/\True))
def Xf (a:gl):Prop:=af (yR a.wh)=af (yR a.wh)/\di (ab 1 (iE a.p.dk))/\di (ab 1 (iE a.p.settle))
def fF (a:gl):=(D.v (bz (sb a.p.code)))
def SC (a:Nat×jr->Prop) (b:Nat×jr) (c:gl) (d:Nat) (e:dm):Prop:=a b/\di (ag 3 1 [[dI 1],[dI 2]])/\di (ac [V.d (fF c),V.own 3,V.d (dI c.p.tick),V.d (dI c.p.low),V.d (dI c.p.high),V.d (dI c.p.wide),V.d (dI c.p.dr),V.d (dI c.p.top),V.d (dI c.p.least),V.d (dI c.p.part),V.own 4,V.own 1,V.mp 2] (210:ce))/\ae 211 dm 6 zQ (c.dz.set (↑d:Int).toNat e) bc=ae 211 dm 6 zQ c.dz bc/\Xf c
def WC (a:gl) (b:Nat×jr) (c:Nat×jr->Prop) (d:Nat) (e:dm):Prop:=∃(f:Nat×jr),aj z6 (xV a f.fst f.snd)=aj z6 (xV a b.fst b.snd)/\SC c f a d e
def uS (a:gl) (b:Nat×jr):=(aj z6 (xV a b.fst b.snd))
def aI (a:gl) (b:Nat×jr) (c:Nat):=(zV (uS a b) (↑c:Int).toNat 1 [D.v (.bool ay)])
def zY (a:A2):=(a.b.iu (a.b.side a.side))
def dX (a:A2):=((zY a).fst.dj)
def cF (a:gl) (b:Nat×jr) (c:Nat) (d:A2):=(zV (aI a b c) (↑c:Int).toNat 3 [dI (dX d)])
def Te (a:Nat) (b:gl) (c:Nat×jr) (d:A2):Prop:=(0<=(↑a:Int)/\(↑a:Int)<(↑(cF b c a d).length:Int))/\di ((↑a:Int).toNat)
def aC (a:gl) (b:Nat×jr) (c:Nat):=(zV (uS a b) (↑c:Int).toNat 0 [D.v (.bool ay)])
def dP (a:gl) (b:Nat×jr) (c:Nat) (d:A2):=(zV (aC a b c) (↑c:Int).toNat 2 [dI (dX d)])
def S9 (a:Nat) (b:gl) (c:Nat×jr) (d:A2):Prop:=(0<=(↑a:Int)/\(↑a:Int)<(↑(dP b c a d).length:Int))/\di ((↑a:Int).toNat)
def S2 (a:gl):Prop:=0<=(↑a.dz.length:Int)/\(↑a.dz.length:Int)<=(↑a.dz.length:Int)/\(↑a.dz.length:Int)<=9223372036854775807/\(↑(40:Nat):Int)*(↑a.dz.length:Int)<=2 ^ (48:Nat)
def aM (a:Nat) (b:gl) (c:Nat×jr):Prop:=(0<=(↑a:Int)/\(↑a:Int)<(↑(aI b c a).length:Int))/\di ((↑a:Int).toNat)
def aG (a:Nat) (b:gl) (c:Nat×jr):Prop:=(0<=(↑a:Int)/\(↑a:Int)<(↑(aC b c a).length:Int))/\di ((↑a:Int).toNat)
def fP:Prop:=0<=ar.wrap ((0:Int)+(1:Int))/\ar.wrap ((0:Int)+(1:Int))<(↑(2:Nat):Int)
def vN (a:A2):Prop:=∀(b:cV),b∈a.b.a.dx->(-9223372036854775808)<=b.count/\b.count<=9223372036854775807
def qX (a:Nat) (b:gl) (c:Nat×jr):Prop:=0<=(↑a:Int)/\(↑a:Int)<(↑(uS b c).length:Int)
def uX (a:A2):=((zY a).fst.dq)
def yTw (s:gl):Prop:=
 (S2 s)/\∃(a:Nat),(↑a:Int)=0/\aj z6 (x7 s a)=am (↑s.dz.length:Int).toNat [D.v (.bool ax),D.v (.bool ax),dI 0,dI 0,dI 0,dI 0]/\∃(b:Nat->Prop),∃(c:Nat->Nat),b a/\∀(d:Nat),b d->dp (decide ((↑d:Int)<(↑s.dz.length:Int))) ((0<=(↑d:Int)/\(↑d:Int)<(↑s.dz.length:Int))/\(↑d:Int).toNat<s.dz.length/\∃(e:Nat×jr),aj z6 (xV s e.fst e.snd)=aj z6 (x7 s d)/\∃(f:Nat×jr->Prop),(((0:Int)<=(0:Int)/\0<(↑(2:Nat):Int))/\∃(g:Int),zD [[dI 1],[dI 2]] (bo 0) 0 1=ba [dI g]/\∃(h:dm),s.dz[(↑d:Int).toNat]?=ba h/\∃(j:A2),zC j.side=g/\yA j.b=yA h/\(vN j)/\∀(k:Unit),True->∃(l:dm),yA j.b=yA l/\di ((↑d:Int).toNat)/\(↑d:Int).toNat<s.dz.length/\dp (zY j).snd ((qX d s e)/\(qX d s e)/\(qX d s e)/\(↑d:Int).toNat<(uS s e).length/\(aG d s e)/\(aG d s e)/\di ((zY j).fst.dq)/\di ((zY j).fst.dj)/\(↑d:Int).toNat<(aC s e d).length/\(S9 d s e j)/\di ((zY j).fst.dq)/\(↑d:Int).toNat<(dP s e d j).length/\∃(m:Nat×jr),aj z6 (xV s m.fst m.snd)=zV (dP s e d j) (↑d:Int).toNat 4 [dI (uX j)]/\SC f m s d l) (WC s e f d l))/\∀(g:Nat×jr),f g->∃(h:Nat×jr),aj z6 (xV s h.fst h.snd)=aj z6 (xV s g.fst g.snd)/\∃(j:Nat×jr->Prop),((fP)/\∃(k:Int),zD [[dI 1],[dI 2]] (ar.wrap ((0:Int)+(1:Int))).toNat 0 1=ba [dI k]/\∃(l:dm),s.dz[(↑d:Int).toNat]?=ba l/\∃(m:A2),zC m.side=k/\yA m.b=yA l/\(vN m)/\∀(n:Unit),True->∃(p:dm),yA m.b=yA p/\di ((↑d:Int).toNat)/\(↑d:Int).toNat<s.dz.length/\dp (zY m).snd ((qX d s h)/\(qX d s h)/\(qX d s h)/\(↑d:Int).toNat<(uS s h).length/\(aM d s h)/\(aM d s h)/\di ((zY m).fst.dq)/\di ((zY m).fst.dj)/\(↑d:Int).toNat<(aI s h d).length/\(Te d s h m)/\di ((zY m).fst.dq)/\(↑d:Int).toNat<(cF s h d m).length/\∃(q:Nat×jr),aj z6 (xV s q.fst q.snd)=zV (cF s h d m) (↑d:Int).toNat 5 [dI (uX m)]/\SC j q s d p) (WC s h j d p))/\∀(k:Nat×jr),j k->∃(l:Nat),(↑l:Int)=ar.wrap ((↑d:Int)+1)/\aj z6 (x7 s l)=aj z6 (xV s k.fst k.snd)/\b l/\c l<c d/\di (ac [V.d (fF s),V.own 3,V.d (dI s.p.tick),V.d (dI s.p.low),V.d (dI s.p.high),V.d (dI s.p.wide),V.d (dI s.p.dr),V.d (dI s.p.top),V.d (dI s.p.least),V.d (dI s.p.part),V.own 4,V.own 1,V.mp 2] (210:ce))/\di (ae 211 dm 6 zQ s.dz bc)/\Xf s) (∃(e:Unit),di (sb s.p.code)/\di s.p.tick/\di s.p.low/\di s.p.high/\di s.p.wide/\di s.p.dr/\di s.p.top/\di s.p.least/\di s.p.part/\di (ae 211 dm 6 zQ s.dz bc)/\di (yR s.wh)/\di (ab 1 (iE s.p.dk))/\di (ab 1 (iE s.p.settle))/\aj z6 s.fa=aj z6 (x7 s d)/\True)
def yZo (s:gl):Prop:=
 ∃(i:List (cd×List D)),i=yR s.wh/\True/\∀(o:Unit),True->(di (sb s.p.code)/\True/\di s.p.tick/\di s.p.low/\di s.p.high/\di s.p.wide/\di s.p.dr/\di s.p.top/\di s.p.least/\di s.p.part/\True/\True)/\∃(i0:Nat),(↑i0:Int)=0/\di (sb s.p.code)/\di s.p.tick/\di s.p.low/\di s.p.high/\di s.p.wide/\di s.p.dr/\di s.p.top/\di s.p.least/\di s.p.part/\ak i0 s.dz=[]/\(bc:Option Nat)=bc/\yR s.wh=i/\di (ab 1 (iE s.p.dk))/\di (ab 1 (iE s.p.settle))/\∃(I:Nat->Prop),∃(μ:Nat->Nat),I i0/\∀(ig:Nat),I ig->dp (decide ((↑ig:Int)<(↑s.dz.length:Int))) ((0<=(↑ig:Int)/\(↑ig:Int)<(↑s.dz.length:Int))/\(↑ig:Int).toNat<s.dz.length/\∃(x:dm),s.dz[(↑ig:Int).toNat]?=ba x/\∃(mq:dm),yA mq=yA x/\((mq.a.du.length<=1000000/\mq.a.dx.length<=1000000)/\mq.ez.length<=1000000/\mq.dv.length<=1000000/\mq.spare.length<=1000000)/\∀(o:Unit),True->∃(x:dm),yA mq=yA x/\di ((↑ig:Int).toNat)/\(↑ig:Int).toNat<s.dz.length/\True/\True/\∃(yl:List dm),ae 211 dm 6 zQ (ak ig s.dz) bc=ae 211 dm 6 zQ yl bc/\(yl.length+1)*(8:Nat)<=(140737488355328:Nat)/\∃(i':Nat),(↑i':Int)=ar.wrap ((↑ig:Int)+1)/\di (sb s.p.code)/\di s.p.tick/\di s.p.low/\di s.p.high/\di s.p.wide/\di s.p.dr/\di s.p.top/\di s.p.least/\di s.p.part/\ae 211 dm 6 zQ (ak i' s.dz) bc=ae 211 dm 6 zQ (yl++[mq]) bc/\di (yR s.wh)/\di (ab 1 (iE s.p.dk))/\di (ab 1 (iE s.p.settle))/\I i'/\μ i'<μ ig/\af i=af i/\di (ac [V.d (D.v (bz (sb s.p.code))),V.own 3,V.d (D.v (.int .i64 s.p.tick)),V.d (D.v (.int .i64 s.p.low)),V.d (D.v (.int .i64 s.p.high)),V.d (D.v (.int .i64 s.p.wide)),V.d (D.v (.int .i64 s.p.dr)),V.d (D.v (.int .i64 s.p.top)),V.d (D.v (.int .i64 s.p.least)),V.d (D.v (.int .i64 s.p.part)),V.own 4,V.own 1,V.mp 2] (210:ce))/\ae 211 dm 6 zQ (s.dz.set (↑ig:Int).toNat x) bc=ae 211 dm 6 zQ s.dz bc/\di (ab 1 (iE s.p.dk))/\di (ab 1 (iE s.p.settle))) (∃(o:Unit),di (sb s.p.code)/\di s.p.tick/\di s.p.low/\di s.p.high/\di s.p.wide/\di s.p.dr/\di s.p.top/\di s.p.least/\di s.p.part/\di (ae 211 dm 6 zQ s.dz bc)/\yR s.wh=i/\di (ab 1 (iE s.p.dk))/\di (ab 1 (iE s.p.settle))/\di (sb s.p.code)/\di s.p.tick/\di s.p.low/\di s.p.high/\di s.p.wide/\di s.p.dr/\di s.p.top/\di s.p.least/\di s.p.part/\ae 211 dm 6 zQ s.dz bc=ae 211 dm 6 zQ (ak ig s.dz) bc/\di (yR s.wh)/\di (ab 1 (iE s.p.dk))/\di (ab 1 (iE s.p.settle))/\True)
end Sx
