/- Texts of ours. No condition. -/
import Derived.Test.YtaafldgiafcgfaaGreatRows
import Derived.Test.YtaafldgiafcgfaaGreatD3
set_option linter.all false
open Sx.AObj renaming adt->aa,fro->ab,cells->ac,objs->ae,map->af,own->ag
open List renaming map->aj,take->ak,replicate->am,range->ao,drop->ap,length->aq
open Go.IntKind renaming i64->ar,u64->au,u32->av,u8->aw
open Bool renaming false->ax,true->ay
open Exists renaming intro->az
open Option renaming some->ba,none->bc
open And renaming intro->be
open Int renaming toNat->bg,pow_succ->bo,mul_comm->bp
open Go.Utf8 renaming decode->br
open Go.Value renaming string->bt
open Go renaming Value->bu,TypeId->bv
open BitVec renaming ofInt->bw
namespace Sx
open Go Cv Go.Proofs
def kp {P:Prop} (h:P:=by(repeat'(first|exact rfl|exact trivial|assumption|apply And.intro|refineλ(_:Unit) (_:True)=>?_|refine Exists.intro () ?_|omega|(dsimp only;omega)))):P:=h
def oM {P:Prop} (h:P:=by omega):P:=h
def Z9 {P:Prop} (h:P:=by (dsimp only;omega)):P:=h
def Z8 {P:Prop} (h:P:=by decide):P:=h
def rF3 {α0:Sort _} {a0:α0} {α1:Sort _} {a1:α1} {α2:Sort _} {a2:α2} {P:Prop} (h:P):a0=a0/\a1=a1/\a2=a2/\P:=⟨rfl,rfl,rfl,h⟩
def rF4 {α0:Sort _} {a0:α0} {α1:Sort _} {a1:α1} {α2:Sort _} {a2:α2} {α3:Sort _} {a3:α3} {P:Prop} (h:P):a0=a0/\a1=a1/\a2=a2/\a3=a3/\P:=⟨rfl,rfl,rfl,rfl,h⟩
def rF5 {α0:Sort _} {a0:α0} {α1:Sort _} {a1:α1} {α2:Sort _} {a2:α2} {α3:Sort _} {a3:α3} {α4:Sort _} {a4:α4} {P:Prop} (h:P):a0=a0/\a1=a1/\a2=a2/\a3=a3/\a4=a4/\P:=⟨rfl,rfl,rfl,rfl,rfl,h⟩
def rF6 {α0:Sort _} {a0:α0} {α1:Sort _} {a1:α1} {α2:Sort _} {a2:α2} {α3:Sort _} {a3:α3} {α4:Sort _} {a4:α4} {α5:Sort _} {a5:α5} {P:Prop} (h:P):a0=a0/\a1=a1/\a2=a2/\a3=a3/\a4=a4/\a5=a5/\P:=⟨rfl,rfl,rfl,rfl,rfl,rfl,h⟩
def rF7 {α0:Sort _} {a0:α0} {α1:Sort _} {a1:α1} {α2:Sort _} {a2:α2} {α3:Sort _} {a3:α3} {α4:Sort _} {a4:α4} {α5:Sort _} {a5:α5} {α6:Sort _} {a6:α6} {P:Prop} (h:P):a0=a0/\a1=a1/\a2=a2/\a3=a3/\a4=a4/\a5=a5/\a6=a6/\P:=⟨rfl,rfl,rfl,rfl,rfl,rfl,rfl,h⟩
def rF8 {α0:Sort _} {a0:α0} {α1:Sort _} {a1:α1} {α2:Sort _} {a2:α2} {α3:Sort _} {a3:α3} {α4:Sort _} {a4:α4} {α5:Sort _} {a5:α5} {α6:Sort _} {a6:α6} {α7:Sort _} {a7:α7} {P:Prop} (h:P):a0=a0/\a1=a1/\a2=a2/\a3=a3/\a4=a4/\a5=a5/\a6=a6/\a7=a7/\P:=⟨rfl,rfl,rfl,rfl,rfl,rfl,rfl,rfl,h⟩
def k0q {P:Prop} (h:P:=by(repeat'(first|exact trivial|exact rfl|apply And.intro))):P:=h
def mixed:Tryz.prog.follows .mixedOrders=ay:=by kernel_rfl
def okw {P:Program} {f:FuncId} {fn:Func} {C:Con} {G:List (Nat×Con)} {V:C.ι->Prop} (hm:P.follows .mixedOrders=ay) (hG:GOk P G) (d:Nat) (J:C.ι->List (Nat×SAnn)) (an:C.ι->List SAnn) (op:List Nat) (hf:P.funcs[f]? =ba fn) (h:∀i,C.cnd i->V i) (hb:fn.body=ba (fn.body.getD .skip):=by kernel_rfl) (hbd:vI P f=ay:=by kernel_rfl) (hok:okC fn.ntmps (fn.body.getD .skip)=ay:=by kernel_rfl) (hsz:∀i,Nat.ble (C.pat i).length fn.ntmps=ay:=by intro _;kernel_rfl) (e:∀i,V i=walk P G d (J i) (an i) op fn (fn.body.getD .skip) (C.pat i) (C.pre i) (C.alts i):=by intro _;kernel_rfl):C.ok P f:=uU hm G hG d J an op hf hb hbd hok hsz λi hc=>Eq.mp (e i) (h i hc)
structure Lv where
 price:Int
 qty:Int
 count:Int
def lvE (l:Lv):List D:=[.v (.int .i64 l.price),.v (.int .i64 l.qty),.v (.int .i64 l.count)]
def lvV (l:Lv):V:= .agg [zA l.price,zA l.qty,zA l.count]
def WrU (l:List UInt8):Nat->AObj
 |0=> .cells [.own 1] 201
 |1=> .own 5 1 (bE l)
 |_=> .gone
def Wr (l:List UInt8):AObj:= .adt (List UInt8) 2 WrU l
structure zWx where
 l:List UInt8
 n:Int
 k:Nat
def putC:Con where
 ι:=zWx
 pat:=λi=>[.nm 0 0,.d (.v (.int .u64 i.n)),.d (.v (.int .i64 i.k))]
 pre:=λi=>[Wr i.l]
 cnd:=λi=>0<=i.n/\i.n<18446744073709551616/\i.l.length+i.k<=1099511627776
 alts:=λi=>[{o:=Unit,res:=λ_=> .tup [],post:=λ_=>[Wr (i.l++le i.n i.k)],rel:=λ_=>True}]
def yZi (i:zWx):List SAnn:=[{
 ι:=Nat,
 slots:=λj=>[(0,.nm 0 0),(1,.d (.v (.int .u64 (i.n / 256 ^ j)))),(7,.d (.v (.int .i64 j)))],
 rows:=λj=>[WrU (i.l++le i.n j) 0,WrU (i.l++le i.n j) 1]}]
set_option maxRecDepth 100000
@[reducible] def dI (n:Int):D:= .v (.int .i64 n)
def yWs (i:zWx):Prop:=
 ∃(a:Nat),i.n / (256:Int) ^ a=i.n/\(↑a:Int)=0/\bE (i.l++le i.n a)=bE i.l/\∃(b:Nat->Prop),∃(c:Nat->Nat),b a/\∀(d:Nat),b d->cnd (decide ((↑d:Int)<(↑i.k:Int))) (((bE (i.l++le i.n d)).length+1)*(1:Nat)<=(140737488355328:Nat)/\(0:Int)<=(8:Int)/\∃(e:Nat),i.n / (256:Int) ^ e=cE au (i.n / (256:Int) ^ d) 8/\(↑e:Int)=ar.wrap ((↑d:Int)+1)/\bE (i.l++le i.n e)=bE (i.l++le i.n d)++[[D.v (.int .u8 (aw.wrap (i.n / (256:Int) ^ d)))]]/\b e/\c e<c d/\True) (∃(e:Unit),bE (i.l++le i.n i.k)=bE (i.l++le i.n d)/\True)
def yZw (i:zWx) (h:putC.cnd i):yWs i:=by
 unfold yWs;obtain⟨h1,h2,h3⟩:=h;refine⟨0,by simp,rfl,by simp[le],λj=>j<=i.k,λj=>i.k-j,oM,λj hj=>zH (λhlt=> ?_) (λhlt=> ?_)⟩
 ·refine⟨?_,oM,j+1,?_,?_,?_,oM,Z9,trivial⟩
  ·rw[yL,y0x,kD];omega
  ·have:=lG .u64 (i.n / 256 ^ j) 8 Z8;rw[show((8:Nat):Int)=8 by rfl]at this;rw[this,Int.ediv_ediv_of_nonneg (Int.pow_nonneg (by omega)),bo];rfl
  ·rw[w64 (by omega)];rfl
  ·rw[z3q,nZ];simp[bE]
 ·obtain rfl:j=i.k:=by omega
  exact⟨(),rfl,trivial⟩
def z1j:putC.ok Tryz.prog 115:=okw mixed gok0 0 (λ_=>[]) (λi=>yZi i) [0] Tryz.func115 yZw
@[reducible] def tU8:Nat:=5
structure WN where
 l:List UInt8
 n:Int
@[reducible] def WN.ok (i:WN):Prop:=i.l.length+8<=1099511627776
def byteC:Con:=zR WN (λi=>[.nm 0 0,zA i.n]) (λi=>[Wr i.l]) WN.ok (λ_=>aU) (λi=>[Wr (i.l++[lob i.n])])
def longC:Con:=zR WN (λi=>[.nm 0 0,zA i.n]) (λi=>[Wr i.l]) WN.ok (λ_=>aU) (λi=>[Wr (i.l++le i.n 8)])
def sumC:Con:=zR WN (λi=>[.nm 0 0,yLl i.n]) (λi=>[Wr i.l]) (λi=>i.l.length+8<=1099511627776/\0<=i.n/\i.n<4294967296) (λ_=>aU) (λi=>[Wr (i.l++le i.n 4)])
@[reducible] def ySs (t sz by_:Nat):Con:=zR (List (List D)) (λ_=>[.own 0]) (λl=>[.own t sz l]) (λl=>l.length*by_<=140737488355328) (λ_=> .own 1) (λl=>[.own t sz l,.own t sz l])
@[reducible] def yOh (sz by_:Nat):Con:=zR (List (List D)) (λl=>[roV sz l]) (λ_=>[]) (λl=>l.length*by_<=140737488355328) (λl=>roV sz l) (λ_=>[])
def cloneBO:Con:=ySs tU8 1 1
def cloneBR:Con:=yOh 1 1
def newWC:Con:=zR Unit (λ_=>[]) (λ_=>[]) (λ_=>True) (λ_=> .nm 0 0) (λ_=>[Wr []])
def doneC:Con:=zR (List UInt8) (λ_=>[.nm 0 0]) (λl=>[Wr l]) (λl=>l.length<=1099511627776) (λ_=> .own 1) (λl=>[Wr l,.own tU8 1 (bE l)])
def z2d (c:Int):Int:=if 0<zBw .u32 c 1 then zAb .u32 (cE .u32 c 1) 3988292384 else cE .u32 c 1
def wM:Nat->Int->Int
 |0,c=>c
 |k+1,c=>z2d (wM k c)
def zGy (l:List UInt8):Int:=l.foldl (λc b=>wM 8 (zAb .u32 c b.toNat)) 4294967295
def bP (l:List UInt8):Int:=zAb .u32 4294967295 (zGy l)
def crcC:Con:=zR (List UInt8) (λl=>[roV 1 (bE l)]) (λ_=>[]) (λl=>l.length<=1099511627776) (λl=>yLl (bP l)) (λ_=>[])
def yZj (l:List UInt8):List SAnn:=[
 {ι:=Nat,slots:=λi=>[(3,yLl (zGy (l.take i))),(9,zA i)],rows:=λ_=>[]},
 {ι:=Int×Nat,slots:=λi=>[(3,yLl (wM i.2 i.1)),(17,zA i.2)],rows:=λ_=>[]}]
def RdU (x:List UInt8×Bool):Nat->AObj
 |0=> .cells [roV 1 (bE x.1),yT x.2] 207
 |_=> .gone
def Rd (l:List UInt8) (b:Bool):AObj:= .adt (List UInt8×Bool) 1 RdU (l,b)
def newRC:Con:=zR (List UInt8) (λl=>[roV 1 (bE l)]) (λ_=>[]) (λl=>l.length<=1099511627776) (λ_=> .nm 0 0) (λl=>[Rd l ax])
structure RN where
 l:List UInt8
 b:Bool
 n:Nat
def RN.bad (i:RN):Bool:=i.b||decide (i.l.length<i.n)
def RN.got (i:RN):List UInt8:=if i.bad then[]else i.l.take i.n
def RN.left (i:RN):List UInt8:=if i.bad then i.l else i.l.drop i.n
@[reducible] def RN.ok (i:RN):Prop:=i.n<=255/\i.l.length<=1099511627776
def takeC:Con:=zR RN (λi=>[.nm 0 0,zA i.n]) (λi=>[Rd i.l i.b]) RN.ok (λi=>roV 1 (bE i.got)) (λi=>[Rd i.left i.bad])
def qE:List UInt8->Int
 |[]=>0
 |b::l=>b.toNat+256*qE l
def getC:Con:=zR RN (λi=>[.nm 0 0,zA i.n]) (λi=>[Rd i.l i.b]) (λi=>i.n<=8/\i.l.length<=1099511627776) (λi=>sC (qE i.got)) (λi=>[Rd i.left i.bad])
def yZd (i:RN):List SAnn:=[{ι:=Nat,slots:=λj=>[(5,sC (qE (i.got.take j))),(12,zA j)],rows:=λ_=>[]}]
structure RB where
 l:List UInt8
 b:Bool
def RB.n (i:RB) (k:Nat):RN:=⟨i.l,i.b,k⟩
def rbyteC:Con:=zR RB (λi=>[.nm 0 0]) (λi=>[Rd i.l i.b]) (λi=>i.l.length<=1099511627776) (λi=>zA (qE (i.n 1).got)) (λi=>[Rd (i.n 1).left (i.n 1).bad])
def rlongC:Con:=zR RB (λi=>[.nm 0 0]) (λi=>[Rd i.l i.b]) (λi=>i.l.length<=1099511627776) (λi=>zA (ar.wrap (qE (i.n 8).got))) (λi=>[Rd (i.n 8).left (i.n 8).bad])
def rendC:Con:=zR RB (λi=>[.nm 0 0]) (λi=>[Rd i.l i.b]) (λi=>i.l.length<=1099511627776) (λi=>zA (if i.b then 10 else if 0<i.l.length then 15 else 0)) (λi=>[Rd i.l i.b])
def cZ (a:zWx):Prop:=0<=a.n/\a.n<18446744073709551616/\a.l.length+a.k<=1099511627776
def yNw (i:WN):Prop:=
 ∃(a:zWx),a.n=au.wrap i.n/\(↑a.k:Int)=1/\aa (List UInt8) 2 WrU a.l=Wr i.l/\(cZ a)/\∀(b:Unit),True->∃(c:Unit),aa (List UInt8) 2 WrU (i.l++[lob i.n])=aa (List UInt8) 2 WrU (a.l++le a.n a.k)/\True
def yNr (i:WN):Prop:=
 ∃(a:zWx),a.n=au.wrap i.n/\(↑a.k:Int)=8/\aa (List UInt8) 2 WrU a.l=Wr i.l/\(cZ a)/\∀(b:Unit),True->∃(c:Unit),aa (List UInt8) 2 WrU (i.l++le i.n 8)=aa (List UInt8) 2 WrU (a.l++le a.n a.k)/\True
def yVy (i:WN):Prop:=
 ∃(a:zWx),a.n=au.wrap i.n/\(↑a.k:Int)=4/\aa (List UInt8) 2 WrU a.l=Wr i.l/\(cZ a)/\∀(b:Unit),True->∃(c:Unit),aa (List UInt8) 2 WrU (i.l++le i.n 4)=aa (List UInt8) 2 WrU (a.l++le a.n a.k)/\True
def zXc (i:List (List D)):Prop:=
 ∀(b:Bool),(b=ay->i=[])->cnd b (∃(o:Unit),i=i/\i=[]/\True) ((0+i.length)*(1:Nat)<=(140737488355328:Nat)/\∃(o:Unit),i=i/\i=[]++i/\True)
def z8a (i:List (List D)):zXc i=walk Tryz.prog ([]) 0 ([]) ([]) [] Tryz.f116 (Tryz.f116.body.getD .skip) (cloneBO.pat i) (cloneBO.pre i) (cloneBO.alts i):=by kernel_rfl
def z7k (hG:GOk Tryz.prog ([])) (h:∀(i:List (List D)),cloneBO.cnd i->zXc i):cloneBO.ok Tryz.prog 116:=uU mixed ([]) hG 0 (λ(i:List (List D))=>[]) (λ(i:List (List D))=>[]) [] Tryz.func116 (by kernel_rfl) (by kernel_rfl) (by kernel_rfl) (λ_=>by kernel_rfl) (λ(i:List (List D)) hc=>Eq.mp (z8a i) (h i hc))
def zYo (i:List (List D)):Prop:=
 ∀(b:Bool),(b=ay->i=[])->cnd b (∃(o:Unit),i=[]/\True) ((0+i.length)*(1:Nat)<=(140737488355328:Nat)/\∃(o:Unit),i=[]++i/\True)
def z8y (i:List (List D)):zYo i=walk Tryz.prog ([]) 0 ([]) ([]) [] Tryz.f116 (Tryz.f116.body.getD .skip) (cloneBR.pat i) (cloneBR.pre i) (cloneBR.alts i):=by kernel_rfl
def z7l (hG:GOk Tryz.prog ([])) (h:∀(i:List (List D)),cloneBR.cnd i->zYo i):cloneBR.ok Tryz.prog 116:=uU mixed ([]) hG 0 (λ(i:List (List D))=>[]) (λ(i:List (List D))=>[]) [] Tryz.func116 (by kernel_rfl) (by kernel_rfl) (by kernel_rfl) (λ_=>by kernel_rfl) (λ(i:List (List D)) hc=>Eq.mp (z8y i) (h i hc))
def yWa (i:Unit):Prop:=
 ∃(o:Unit),bE []=[]/\True
def yXs (i:List UInt8):Prop:=
 ∃(i_1:List (List D)),i_1=bE i/\i_1.length*(1:Nat)<=(140737488355328:Nat)/\∀(o:Unit),True->∃(o:Unit),bE i=i_1/\bE i=i_1/\True
def qW (a:Nat) (b:Nat) (c:Nat->Prop) (d:Nat->Nat):Prop:=(↑a:Int)=ar.wrap ((↑b:Int)+1)/\c a/\d a<d b/\True
def yYe (i:List UInt8):Prop:=
 ∃(a:Nat),zGy (ak a i)=4294967295/\(↑a:Int)=0/\∃(b:Nat->Prop),∃(c:Nat->Nat),b a/\∀(d:Nat),b d->cnd (decide ((↑d:Int)<(↑(bE i).length:Int))) ((0<=(↑d:Int)/\(↑d:Int)<(↑(bE i).length:Int))/\∃(e:Int),zE (bE i) (↑d:Int).toNat 0 1=ba [D.v (.int .u8 e)]/\∃(f:Int×Nat),wM f.snd f.fst=zAb av (zGy (ak d i)) (av.wrap e)/\(↑f.snd:Int)=0/\∃(g:Int×Nat->Prop),∃(h:Int×Nat->Nat),g f/\∀(j:Int×Nat),g j->cnd (decide ((↑j.snd:Int)<8)) ((0:Int)<=(1:Int)/\cnd (decide (zBw av (wM j.snd j.fst) (1:Int)>(0:Int))) (∃(k:Int×Nat),wM k.snd k.fst=zAb av (cE av (wM j.snd j.fst) 1) 3988292384/\(↑k.snd:Int)=ar.wrap ((↑j.snd:Int)+1)/\g k/\h k<h j/\True) (∃(k:Int×Nat),wM k.snd k.fst=cE av (wM j.snd j.fst) 1/\(↑k.snd:Int)=ar.wrap ((↑j.snd:Int)+1)/\g k/\h k<h j/\True)) (∃(k:Nat),zGy (ak k i)=wM j.snd j.fst/\qW k d b c)) (∃(e:Unit),bP i=av.wrap (↑(bw av.bits (if av.signed=ay then(-1:Int)else av.max) ^^^ bw av.bits (zGy (ak d i))).toNat:Int)/\True)
def yWr (i:List UInt8):Prop:=
 ∃(i_1:List (List D)),i_1=bE i/\i_1.length*(1:Nat)<=(140737488355328:Nat)/\∀(o:Unit),True->∃(o:Unit),bE i=i_1/\ax=ax/\True
def yVk (i:RN):Prop:=
 cnd i.b (∃(o:Unit),bE i.got=[]/\bE i.left=bE i.l/\i.bad=ay/\True) (cnd (decide ((↑i.n:Int)>(↑(bE i.l).length:Int))) (∃(o:Unit),bE i.got=[]/\bE i.left=bE i.l/\i.bad=decide ((↑i.n:Int)>(↑(bE i.l).length:Int))/\True) ((0<=(↑i.n:Int)/\(↑i.n:Int)<=(↑(bE i.l).length:Int))/\(0<=(↑i.n:Int)/\(↑i.n:Int)<=(↑(bE i.l).length:Int))/\∃(o:Unit),bE i.got=ak (↑i.n:Int).toNat (bE i.l)/\bE i.left=ap (↑i.n:Int).toNat (bE i.l)/\i.bad=decide ((↑i.n:Int)>(↑(bE i.l).length:Int))/\True))
def yVe (i:RN):Prop:=
 ∃(a:RN),(↑a.n:Int)=(↑i.n:Int)/\aa (List UInt8×Bool) 1 RdU (a.l,a.b)=Rd i.l i.b/\(a.n<=255/\a.l.length<=1099511627776)/\∀(b:Unit),True->∃(c:Nat),qE (ak c i.got)=0/\(↑c:Int)=0/\∃(d:Nat->Prop),∃(e:Nat->Nat),d c/\∀(f:Nat),d f->cnd (decide ((↑f:Int)<(↑(bE a.got).length:Int))) ((0<=(↑f:Int)/\(↑f:Int)<(↑(bE a.got).length:Int))/\∃(g:Int),zE (bE a.got) (↑f:Int).toNat 0 1=ba [D.v (.int .u8 g)]/\0<=ar.wrap (8*(↑f:Int))/\∃(h:Nat),qE (ak h i.got)=iOr au (qE (ak f i.got)) (zXa au (au.wrap g) (ar.wrap (8*(↑f:Int))))/\(↑h:Int)=ar.wrap ((↑f:Int)+1)/\d h/\e h<e f/\da (aa (List UInt8×Bool) 1 RdU (a.left,a.bad))) (∃(g:Unit),qE i.got=qE (ak f i.got)/\aa (List UInt8×Bool) 1 RdU (i.left,i.bad)=aa (List UInt8×Bool) 1 RdU (a.left,a.bad)/\True)
def yRl (i:RB):Prop:=
 ∃(i_1:RN),(↑i_1.n:Int)=1/\aa (List UInt8×Bool) 1 RdU (i_1.l,i_1.b)=Rd i.l i.b/\(i_1.n<=8/\i_1.l.length<=1099511627776)/\∀(o:Unit),True->∃(o:Unit),qE (i.n 1).got=ar.wrap (qE i_1.got)/\aa (List UInt8×Bool) 1 RdU ((i.n 1).left,(i.n 1).bad)=aa (List UInt8×Bool) 1 RdU (i_1.left,i_1.bad)/\True
def ySg (i:RB):Prop:=
 ∃(i_1:RN),(↑i_1.n:Int)=8/\aa (List UInt8×Bool) 1 RdU (i_1.l,i_1.b)=Rd i.l i.b/\(i_1.n<=8/\i_1.l.length<=1099511627776)/\∀(o:Unit),True->∃(o:Unit),ar.wrap (qE (i.n 8).got)=ar.wrap (qE i_1.got)/\aa (List UInt8×Bool) 1 RdU ((i.n 8).left,(i.n 8).bad)=aa (List UInt8×Bool) 1 RdU (i_1.left,i_1.bad)/\True
def yVn (i:RB):Prop:=
 cnd i.b (∃(o:Unit),(if i.b=ay then(10:Int)else if 0<i.l.length then(15:Int)else(0:Int))=10/\da (bE i.l)/\i.b=i.b/\True) (cnd (decide ((↑(bE i.l).length:Int)>0)) (∃(o:Unit),(if i.b=ay then(10:Int)else if 0<i.l.length then(15:Int)else(0:Int))=15/\da (bE i.l)/\i.b=i.b/\True) (∃(o:Unit),(if i.b=ay then(10:Int)else if 0<i.l.length then(15:Int)else(0:Int))=0/\da (bE i.l)/\i.b=i.b/\True))
def yQa (k:Nat):∀n:Int,le (n % 256 ^ k) k=le n k:=by
 induction k with
 |zero=>intro n;rfl
 |succ k ih=>
  intro n;have hp:(0:Int)<256 ^ k:=Int.pow_pos oM;have h1:lob (n % 256 ^ (k+1))=lob n:=by
   unfold lob;rw[bo,bp,Int.emod_emod_of_dvd n ⟨256 ^ k,rfl⟩]
  have h2:n % 256 ^ (k+1) / 256=n / 256 % 256 ^ k:=by
   have e:n=256*(n / 256)+n % 256:=(Int.mul_ediv_add_emod n 256).symm;have e2:n / 256=256 ^ k*(n / 256 / 256 ^ k)+n / 256 % 256 ^ k:=(Int.mul_ediv_add_emod _ _).symm;have hr:=Int.emod_nonneg (n / 256) (show(256:Int) ^ k≠0 by omega);have hr2:=Int.emod_lt_of_pos (n / 256) hp;have e3:n % 256 ^ (k+1)=256*(n / 256 % 256 ^ k)+n % 256:=by
    have:n=256 ^ (k+1)*(n / 256 / 256 ^ k)+(256*(n / 256 % 256 ^ k)+n % 256):=by
     rw[bo,bp (256 ^ k) 256,Int.mul_assoc,<- Int.add_assoc,<- Int.mul_add,<- e2];exact e
    conv=>lhs;rw[this]
    rw[Int.add_comm,Int.add_mul_emod_self_left,Int.emod_eq_of_lt]
    ·omega
    ·rw[bo];omega
   rw[e3];omega
  rw[le,le,h1,h2,ih]
def zPs (n:Int):le (au.wrap n) 8=le n 8:=yQa 8 n
def z0l (n:Int):lob (au.wrap n)=lob n:=by
 have:au.wrap n=n % 18446744073709551616:=rfl;unfold lob;rw[this,Int.emod_emod_of_dvd n ⟨72057594037927936,by decide⟩]
def fK (n:Int):0<=au.wrap n/\au.wrap n<18446744073709551616:=by
 have:au.wrap n=n % 18446744073709551616:=rfl;rw[this];omega
def yWi (i:WN) (h:byteC.cnd i):yNw i:=by
 unfold yNw cZ;have h:i.l.length+8<=1099511627776:=h;exact⟨⟨i.l,au.wrap i.n,1⟩,rfl,rfl,rfl,⟨(fK _).1,(fK _).2,Z9⟩,λ_ _=>⟨(),by simp only[le,z0l],trivial⟩⟩
def yVu (i:WN) (h:longC.cnd i):yNr i:=by
 unfold yNr cZ;have h:i.l.length+8<=1099511627776:=h;exact⟨⟨i.l,au.wrap i.n,8⟩,rfl,rfl,rfl,⟨(fK _).1,(fK _).2,Z9⟩,λ_ _=>⟨(),by simp only[zPs],trivial⟩⟩
def y0e (i:WN) (h:sumC.cnd i):yVy i:=by
 unfold yVy cZ;obtain⟨h1,h2,h3⟩:=h;have e:au.wrap i.n=i.n:=lX oM;exact⟨⟨i.l,au.wrap i.n,4⟩,rfl,rfl,rfl,⟨(fK _).1,(fK _).2,Z9⟩,λ_ _=>⟨(),by simp only[e],trivial⟩⟩
def z6a:byteC.ok Tryz.prog 59:=okw mixed (gokc z1j gok0) 0 (λ_=>[]) (λ_=>[]) [] Tryz.func59 yWi
def z4o:longC.ok Tryz.prog 60:=okw mixed (gokc z1j gok0) 0 (λ_=>[]) (λ_=>[]) [] Tryz.func60 yVu
def yGp:sumC.ok Tryz.prog 63:=okw mixed (gokc z1j gok0) 0 (λ_=>[]) (λ_=>[]) [] Tryz.func63 y0e
def zMq:cloneBO.ok Tryz.prog 116:=z7k gok0 λi h=>λb hb=>
 Cv.cnd.mk (λe=>⟨(),rfl,hb e,trivial⟩) (λ_=>⟨by rw[y1x];exact h,(),rfl,rfl,trivial⟩)
def zZz:cloneBR.ok Tryz.prog 116:=z7l gok0 λi h=>λb hb=>
 Cv.cnd.mk (λe=>⟨(),hb e,trivial⟩) (λ_=>⟨by rw[y1x];exact h,(),rfl,trivial⟩)
def z3h:newWC.ok Tryz.prog 58:=okw (V:=yWa) mixed gok0 0 (λ_=>[]) (λ_=>[]) [] Tryz.func58 λ(_:Unit) _=>⟨(),rfl,trivial⟩
def z4d:doneC.ok Tryz.prog 62:=okw (V:=yXs) mixed (gokc zMq gok0) 0 (λ_=>[]) (λ_=>[]) [0] Tryz.func62 λ(i:List UInt8) h=>by
 have h:i.length<=1099511627776:=h;exact⟨_,rfl,by rw[yL];omega,λ_ _=>⟨(),rfl,rfl,trivial⟩⟩
def z3p:newRC.ok Tryz.prog 65:=okw (V:=yWr) mixed (gokc zZz gok0) 0 (λ_=>[]) (λ_=>[]) [] Tryz.func65 λ(i:List UInt8) h=>by
 have h:i.length<=1099511627776:=h;exact⟨_,rfl,by rw[yL];omega,λ_ _=>⟨(),rfl,rfl,trivial⟩⟩
def fH {l:List UInt8} {i:Nat} {b:UInt8} (h:l[i]? =ba b):zE (bE l) i 0 1=ba [.v (.int .u8 b.toNat)]:=by
 unfold zE bE;rw[y2n,h];rfl
def z8w {l:List UInt8} {i:Nat} {b:UInt8} (h:l[i]? =ba b):zGy (l.take (i+1))=wM 8 (zAb .u32 (zGy (l.take i)) b.toNat):=by
 unfold zGy;rw[y2e,h];simp[y5q]
def yYo (b:UInt8):av.wrap (b.toNat:Int)=b.toNat:=yWm (by have:=b.toNat_lt;omega)
def yUg (b:UInt8):au.wrap (b.toNat:Int)=b.toNat:=lX (by have:=b.toNat_lt;omega)
def yZt (i:List UInt8) (h:crcC.cnd i):yYe i:=by
 unfold yYe qW;have h:i.length<=1099511627776:=h;refine⟨0,rfl,rfl,λj=>j<=i.length,λj=>i.length-j,Z9,λj hj=>zH (λhlt=> ?_) (λhlt=> ?_)⟩
 ·dsimp only at hj;rw[yL]at hlt;obtain⟨b,hb⟩:∃b,i[j]? =ba b:=⟨_,y2h oM⟩
  refine⟨⟨oM,by rw[yL];omega⟩,b.toNat,fH hb,(zAb .u32 (zGy (i.take j)) b.toNat,0),?_,rfl,λx=>x.1=zAb .u32 (zGy (i.take j)) b.toNat/\x.2<=8,λx=>8-x.2,⟨rfl,Z9⟩,?_⟩
  ·simp only[wM,yYo]
  rintro⟨c,n⟩ ⟨h1,h2⟩;dsimp only at h1 h2;subst h1;refine zH (λhn=>⟨oM,zH (λhc=> ?_) (λhc=> ?_)⟩) (λhn=> ?_)
  ·refine⟨(zAb .u32 (zGy (i.take j)) b.toNat,n+1),?_,?_,⟨rfl,by dsimp only at hn ⊢;omega⟩,by dsimp only at hn ⊢;omega,trivial⟩
   ·simp only[wM,z2d];rw[y1a hc]
   ·rw[w64 (by dsimp only;omega)];rfl
  ·refine⟨(zAb .u32 (zGy (i.take j)) b.toNat,n+1),?_,?_,⟨rfl,by dsimp only at hn ⊢;omega⟩,by dsimp only at hn ⊢;omega,trivial⟩
   ·simp only[wM,z2d];rw[y0y hc]
   ·rw[w64 (by dsimp only;omega)];rfl
  ·dsimp only at hn;obtain rfl:n=8:=by omega
   refine⟨j+1,z8w hb,?_,Z9,Z9,trivial⟩;rw[w64 (by omega)];rfl
 ·dsimp only at hj;rw[yL]at hlt;refine⟨(),?_,trivial⟩;rw[y1k (by omega)];rfl
def z0k:crcC.ok Tryz.prog 64:=okw mixed gok0 0 (λ_=>[]) (λi=>yZj i) [] Tryz.func64 yZt
def z6k:takeC.ok Tryz.prog 149:=okw (V:=yVk) mixed gok0 0 (λ_=>[]) (λ_=>[]) [0] Tryz.func149 λ(i:RN) h=>by
 obtain⟨h1,h2⟩:=h;refine Cv.cnd.mk (λe=> ?_) (λe=>zH (λhlt=> ?_) (λhlt=> ?_))
 ·have:i.bad=ay:=by simp[RN.bad,e]
  exact⟨(),by simp[RN.got,this],by simp[RN.left,this],this,trivial⟩
 ·rw[yL]at hlt;have:i.bad=ay:=by simp[RN.bad];right;omega
  exact⟨(),by simp[RN.got,this],by simp[RN.left,this],by rw[this,yL];simp;omega,trivial⟩
 ·rw[yL]at hlt;have:i.bad=ax:=by simp[RN.bad,e];omega
  rw[yL];exact⟨⟨oM,oM⟩,⟨oM,oM⟩,(),by simp[RN.got,this,tW],by simp[RN.left,this,zCf],by rw[this];simp;omega,trivial⟩
def bT:∀l:List UInt8,0<=qE l/\qE l<256 ^ l.length
 |[]=>by simp[qE]
 |b::l=>by
  obtain⟨h1,h2⟩:=bT l;have:=b.toNat_lt;simp only[qE,y1d,bo];omega
def zQh (b:UInt8):∀l:List UInt8,qE (l++[b])=qE l+b.toNat*256 ^ l.length
 |[]=>by simp[qE]
 |c::l=>by
  simp only[y2p,qE,zQh b l,y1d,bo,Int.mul_add];rw[bp (256 ^ l.length) 256,<- Int.mul_assoc,<- Int.mul_assoc,bp 256 (b.toNat:Int)];omega
def z9r {x b j:Nat} (hx:x<256 ^ j) (hb:b<256) (hj:j<8):iOr .u64 x (zXa .u64 b ((8*j:Nat):Int))=((x+b*256 ^ j:Nat):Int):=by
 have hp:256 ^ j=2 ^ (8*j):=by rw[Nat.pow_mul]
 have hle:256 ^ (j+1)<=256 ^ 8:=Nat.pow_le_pow_right oM oM;have hbig:x+b*256 ^ j<256 ^ (j+1):=by
  rw[Nat.pow_succ];have:b*256 ^ j<=255*256 ^ j:=y2k _ oM;omega
 have h8:(256:Nat) ^ 8=18446744073709551616:=by decide
 rw[<- yKu,<- yRm];have e1:yRw .u64 (b:Int) ((8*j:Nat):Int)=((b*256 ^ j:Nat):Int):=by
  show wr .u64 (Int.ofNat (b*2 ^ (Nat.min (8*j) 64)))=_;rw[show Nat.min (8*j) 64=8*j from y4u (by omega),<- hp,z4l];exact lX (by show(0:Int)<=((b*256 ^ j:Nat):Int)/\((b*256 ^ j:Nat):Int)<_;omega)
 rw[e1];show wr .u64 (Int.ofNat (Nat.lor (x % 18446744073709551616) ((b*256 ^ j) % 18446744073709551616)))=_;rw[Nat.mod_eq_of_lt (by omega),Nat.mod_eq_of_lt (by omega)];have e2:Nat.lor x (b*256 ^ j)=x+b*256 ^ j:=by
  show x|||(b*256 ^ j)=_
  rw[hp]at hx ⊢;rw[Nat.or_comm,<- Nat.shiftLeft_eq,<- Nat.shiftLeft_add_eq_or_of_lt hx,Nat.add_comm]
 rw[e2,z4l];exact lX (by show(0:Int)<=((x+b*256 ^ j:Nat):Int)/\((x+b*256 ^ j:Nat):Int)<_;omega)
def zIy (i:RN):i.got.length<=i.n:=by
 unfold RN.got;split
 ·simp
 ·rw[y1q];omega
def yUv (i:RN) (h:getC.cnd i):yVe i:=by
 unfold yVe;obtain⟨h1,h2⟩:=h;refine⟨i,rfl,rfl,⟨oM,h2⟩,λ_ _=>⟨0,rfl,rfl,λj=>j<=i.got.length,λj=>i.got.length-j,Z9,λj hj=>zH (λhlt=> ?_) (λhlt=> ?_)⟩⟩
 ·dsimp only at hj;have hl:=zIy i;rw[yL]at hlt ⊢;obtain⟨b,hb⟩:∃b,i.got[j]? =ba b:=⟨_,y2h oM⟩
  have e8:ar.wrap (8*(j:Int))=8*j:=w64 oM;refine⟨⟨oM,oM⟩,b.toNat,fH hb,by rw[e8];omega,j+1,?_,?_,Z9,Z9,rfl⟩
  ·rw[e8,yUg,y2e,hb];simp only[y3z];rw[zQh];obtain⟨r1,r2⟩:=bT (i.got.take j);rw[y1q,y4u (by omega)]at r2 ⊢;obtain⟨x,hx⟩:∃x:Nat,qE (i.got.take j)=x:=⟨(qE (i.got.take j)).toNat,oM⟩
   rw[hx]at r2 ⊢;have:=z9r (x:=x) (b:=b.toNat) (j:=j) (by exact_mod_cast r2) b.toNat_lt oM;rw[show(8*(j:Int))=((8*j:Nat):Int)by simp,this];simp
  ·rw[w64 (by omega)];rfl
 ·dsimp only at hj;rw[yL]at hlt;exact⟨(),by rw[y1k (by omega)],rfl,trivial⟩
def z1c:getC.ok Tryz.prog 117:=okw mixed (gokc z6k gok0) 0 (λ_=>[]) (λi=>yZd i) [] Tryz.func117 yUv
def zUp:rbyteC.ok Tryz.prog 67:=okw (V:=yRl) mixed (gokc z1c gok0) 0 (λ_=>[]) (λ_=>[]) [] Tryz.func67 λ(i:RB) h=>by
 have hl:=zIy (i.n 1);have hr:=bT (i.n 1).got;have h0:(256:Int) ^ (i.n 1).got.length<=256 ^ 1:=by
  have:(256:Nat) ^ (i.n 1).got.length<=256 ^ 1:=Nat.pow_le_pow_right oM hl
  exact_mod_cast this
 exact⟨i.n 1,rfl,rfl,⟨by show 1<=8;omega,h⟩,λ_ _=>⟨(),(w64 oM).symm,rfl,trivial⟩⟩
def yBl:rlongC.ok Tryz.prog 66:=okw (V:=ySg) mixed (gokc z1c gok0) 0 (λ_=>[]) (λ_=>[]) [] Tryz.func66 λ(i:RB) h=>by
 exact⟨i.n 8,rfl,rfl,⟨by show 8<=8;omega,h⟩,λ_ _=>⟨(),rfl,rfl,trivial⟩⟩
def yLj:rendC.ok Tryz.prog 69:=okw (V:=yVn) mixed gok0 0 (λ_=>[]) (λ_=>[]) [0] Tryz.func69 λ(i:RB) h=>by
 refine Cv.cnd.mk (λe=>⟨(),by rw[y1a e],rfl,rfl,trivial⟩) (λe=>zH (λhlt=>⟨(),?_,rfl,rfl,trivial⟩) (λhlt=>⟨(),?_,rfl,rfl,trivial⟩))
 ·rw[yL]at hlt;rw[y0y (by simp[e]),y1a (by omega)]
 ·rw[yL]at hlt;rw[y0y (by simp[e]),y0y (by omega)]
open Classical
structure Sd where
 levels:List Lv
 imp:Lv
 has:Bool
@[reducible] def Vw:=List (Sd×Sd)
def yF (b:Sd×Sd):List D:=[.ro 3 (b.1.levels.map lvE),.v (.int .i64 b.1.imp.price),.v (.int .i64 b.1.imp.qty),.v (.int .i64 b.1.imp.count),.v (.bool b.1.has),
 .ro 3 (b.2.levels.map lvE),.v (.int .i64 b.2.imp.price),.v (.int .i64 b.2.imp.qty),.v (.int .i64 b.2.imp.count),.v (.bool b.2.has)]
def sdV (s:Sd):V:= .agg [roV 3 (s.levels.map lvE),zA s.imp.price,zA s.imp.qty,zA s.imp.count,yT s.has]
def vwV (v:Vw):V:= .agg [roV 10 (v.map yF)]
def cL (side x y:Int):Bool:=if side=1 then decide (y<x)else decide (x<y)
structure I3 where
 side:Int
 x:Int
 y:Int
def betterC:Con:=zR I3 (λi=>[zA i.side,zA i.x,zA i.y]) (λ_=>[]) (λ_=>True) (λi=>yT (cL i.side i.x i.y)) (λ_=>[])
def LvAt (side:Int) (l:List Lv) (i:Nat):Prop:=∀a,l[i]?=ba a->1<=a.qty/\1<=a.count/\∀j b,i=j+1->l[j]?=ba b->cL side b.price a.price=ay
def SdRight (side:Int) (s:Sd):Prop:=(∀i,LvAt side s.levels i)/\s.levels.length<=255/\(s.has=ay->1<=s.imp.qty/\1<=s.imp.count)/\(s.has=ax->s.imp=⟨0,0,0⟩)
def cG (v:Vw):Prop:=(∀b∈v,SdRight 1 b.1/\SdRight 2 b.2)/\v.length<=255
noncomputable def kW (side:Int) (s:Sd):Bool:=decide (SdRight side s)
noncomputable def dY (v:Vw):Bool:=decide (cG v)
structure SdI where
 side:Int
 s:Sd
noncomputable def srightC:Con:=zR SdI (λi=>[zA i.side,sdV i.s]) (λ_=>[]) (λi=>i.s.levels.length<=1099511627776) (λi=>yT (kW i.side i.s)) (λ_=>[])
def yJh:List SAnn:=[{ι:=Nat,slots:=λj=>[(10,zA j)],rows:=λ_=>[]}]
@[reducible] def tU (v:Vw):Prop:=v.length<=1099511627776/\∀b∈v,b.1.levels.length<=1099511627776/\b.2.levels.length<=1099511627776
noncomputable def rightVC:Con:=zR Vw (λv=>[vwV v]) (λ_=>[]) tU (λv=>yT (dY v)) (λ_=>[])
def yHn:List SAnn:=[{ι:=Nat,slots:=λj=>[(8,zA j)],rows:=λ_=>[]}]
def kA (l:Lv):List UInt8:=le l.price 8++le l.qty 8++le l.count 8
structure z1x where
 l:List UInt8
 v:Lv
def putLC:Con:=zR z1x (λi=>[.nm 0 0,lvV i.v]) (λi=>[Wr i.l]) (λi=>i.l.length+24<=1099511627776) (λ_=>aU) (λi=>[Wr (i.l++kA i.v)])
def zDy (s:Sd):List UInt8:=[lob s.levels.length]++s.levels.flatMap kA++(if s.has then[lob 1]++kA s.imp else[lob 0])
def jY (b:Sd×Sd):List UInt8:=zDy b.1++zDy b.2
def cH (v:Vw) (seq:Int):List UInt8:=le seq 8++[lob v.length]++v.flatMap jY
noncomputable def v8 (v:Vw) (seq:Int):List UInt8:=if cG v then cH v seq++le (bP (cH v seq)) 4 else[]
noncomputable def zMl (v:Vw):Int:=if cG v then 0 else 12
structure zOa where
 v:Vw
 seq:Int
noncomputable def encC:Con:=zR zOa (λi=>[vwV i.v,zA i.seq]) (λ_=>[]) (λi=>tU i.v) (λi=> .tup [roV 1 (bE (v8 i.v i.seq)),zA (zMl i.v)]) (λ_=>[])
def yZk (i:zOa):List SAnn:=[
 {ι:=Nat,slots:=λj=>[(6,.nm 0 0),(28,zA j)],rows:=λj=>[Wr (le i.seq 8++[lob i.v.length]++(i.v.take j).flatMap jY)]},
 {ι:=Unit,slots:=λ_=>[],rows:=λ_=>[],un:=3},
 {ι:=List UInt8×List Lv×Nat,slots:=λx=>[(6,.nm 0 0),(44,zA x.2.2)],rows:=λx=>[Wr (x.1++(x.2.1.take x.2.2).flatMap kA)]}]
def yKp (i:I3):Prop:=
 cnd (i.side==1) (∃(o:Unit),cL i.side i.x i.y=decide (i.x>i.y)/\True) (∃(o:Unit),cL i.side i.x i.y=decide (i.x<i.y)/\True)
def sS (a:Nat) (b:Nat->Prop) (c:Nat->Nat) (d:SdI):Prop:=∃(e:Nat),(↑e:Int)=ar.wrap ((↑a:Int)+1)/\b e/\c e<c a/\da (ac [V.own 0,V.d (dI d.s.imp.price),V.d (dI d.s.imp.qty),V.d (dI d.s.imp.count),V.d (D.v (.bool d.s.has))] 129)/\da (ab 3 (aj lvE d.s.levels))
def u6 (a:SdI):=(↑(aj lvE a.s.levels).length:Int)
def z2y (i:SdI):Prop:=
 ∃(a:Nat),(↑a:Int)=0/\∃(b:Nat->Prop),∃(c:Nat->Nat),b a/\∀(d:Nat),b d->cnd (decide ((↑d:Int)<(u6 i))) ((0<=(↑d:Int)/\(↑d:Int)<(u6 i))/\∃(e:Int),∃(f:Int),∃(g:Int),zE (aj lvE i.s.levels) (↑d:Int).toNat 0 3=ba [dI e,dI f,dI g]/\cnd (decide (f<1)) (∃(h:Unit),kW i.side i.s=ax/\True) (cnd (decide (g<1)) (∃(h:Unit),kW i.side i.s=ax/\True) (cnd (decide ((↑d:Int)>0)) ((0<=ar.wrap ((↑d:Int)-1)/\ar.wrap ((↑d:Int)-1)<(u6 i))/\∃(h:Int),zE (aj lvE i.s.levels) (ar.wrap ((↑d:Int)-1)).toNat 0 1=ba [dI h]/\∃(j:I3),j.side=i.side/\j.x=h/\j.y=e/\True/\∀(k:Unit),True->cnd (!cL j.side j.x j.y) (∃(l:Unit),kW i.side i.s=ax/\True) (sS d b c i)) (sS d b c i)))) (cnd (!i.s.has) (cnd (decide ((u6 i)<=255)) (∃(e:Unit),kW i.side i.s=(i.s.imp.price==0 && (i.s.imp.qty==0 && (i.s.imp.count==0 && ay)))/\True) (∃(e:Unit),kW i.side i.s=ax/\True)) (cnd (decide ((u6 i)<=255)) (cnd (decide (i.s.imp.qty>=1)) (∃(e:Unit),kW i.side i.s=decide (i.s.imp.count>=1)/\True) (∃(e:Unit),kW i.side i.s=ax/\True)) (∃(e:Unit),kW i.side i.s=ax/\True)))
def z5o (i:Vw):Prop:=
 ∃(a:Nat),(↑a:Int)=0/\∃(b:Nat->Prop),∃(c:Nat->Nat),b a/\∀(d:Nat),b d->cnd (decide ((↑d:Int)<(↑(aj yF i).length:Int))) ((0<=(↑d:Int)/\(↑d:Int)<(↑(aj yF i).length:Int))/\∃(e:List (List D)),∃(f:Int),∃(g:Int),∃(h:Int),∃(j:Bool),∃(k:List (List D)),∃(l:Int),∃(m:Int),∃(n:Int),∃(p:Bool),zE (aj yF i) (↑d:Int).toNat 0 10=ba [D.ro 3 e,dI f,dI g,dI h,D.v (.bool j),D.ro 3 k,dI l,dI m,dI n,D.v (.bool p)]/\∃(q:SdI),q.side=1/\aj lvE q.s.levels=e/\q.s.imp.price=f/\q.s.imp.qty=g/\q.s.imp.count=h/\q.s.has=j/\q.s.levels.length<=1099511627776/\∀(r:Unit),True->cnd (!kW q.side q.s) (∃(s:Unit),dY i=ax/\True) (∃(s:SdI),s.side=2/\aj lvE s.s.levels=k/\s.s.imp.price=l/\s.s.imp.qty=m/\s.s.imp.count=n/\s.s.has=p/\s.s.levels.length<=1099511627776/\∀(t:Unit),True->cnd (!kW s.side s.s) (∃(u:Unit),dY i=ax/\True) (∃(u:Nat),(↑u:Int)=ar.wrap ((↑d:Int)+1)/\b u/\c u<c d/\da (ac [V.own 0] 71)/\da (ab 10 (aj yF i))))) (∃(e:Unit),dY i=decide ((↑(aj yF i).length:Int)<=255)/\True)
def yXv (i:z1x):Prop:=
 ∃(i_1:WN),i_1.n=i.v.price/\aa (List UInt8) 2 WrU i_1.l=Wr i.l/\i_1.ok/\∀(o:Unit),True->∃(i_2:WN),i_2.n=i.v.qty/\aa (List UInt8) 2 WrU i_2.l=aa (List UInt8) 2 WrU (i_1.l++le i_1.n 8)/\i_2.ok/\∀(o:Unit),True->∃(i_3:WN),i_3.n=i.v.count/\aa (List UInt8) 2 WrU i_3.l=aa (List UInt8) 2 WrU (i_2.l++le i_2.n 8)/\i_3.ok/\∀(o:Unit),True->∃(o:Unit),aa (List UInt8) 2 WrU (i.l++kA i.v)=aa (List UInt8) 2 WrU (i_3.l++le i_3.n 8)/\True
def zNj (a:zOa):Prop:=ac [V.own 0] 71=ac [V.own 0] 71/\da (ab 10 (aj yF a.v))
def zKa (a:Nat->Prop) (b:Nat) (c:Nat->Nat) (d:Nat) (e:zOa):Prop:=a b/\c b<c d/\zNj e
def mP (a:zOa) (b:Nat):=(le a.seq 8++[lob (↑(aq a.v):Int)]++List.flatMap jY (ak b a.v))
def vB (a:List UInt8×List Lv×Nat):=(a.fst++List.flatMap kA (ak a.snd.snd a.snd.fst))
def zTy (a:Int) (b:Int) (c:Int) (d:Bool) (e:List (List D)) (f:List (List D)) (g:Int) (h:Int) (j:Int) (k:Bool) (l:zOa):Prop:=ac [V.own 5,V.d (dI a),V.d (dI b),V.d (dI c),V.d (D.v (.bool d))] 129=ac [V.own 5,V.d (dI a),V.d (dI b),V.d (dI c),V.d (D.v (.bool d))] 129/\da (ab 3 e)/\da (ab 3 f)/\da (ac [V.own 5,V.d (dI a),V.d (dI b),V.d (dI c),V.d (D.v (.bool d)),V.own 6,V.d (dI g),V.d (dI h),V.d (dI j),V.d (D.v (.bool k))] 130)/\zNj l
def z1p (a:WN) (b:List (List D)) (c:Int) (d:Int) (e:Int) (f:Bool) (g:Int) (h:Int) (j:Int) (k:Bool) (l:List (List D)) (m:zOa) (n:Nat) (p:Nat->Prop) (q:Nat->Nat):Prop:=a.ok/\∀(r:Unit),True->∃(s:List UInt8×List Lv×Nat),(↑s.snd.snd:Int)=0/\aa (List UInt8) 2 WrU (vB s)=aa (List UInt8) 2 WrU (a.l++[lob a.n])/\∃(t:List UInt8×List Lv×Nat->Prop),∃(u:List UInt8×List Lv×Nat->Nat),t s/\∀(v:List UInt8×List Lv×Nat),t v->cnd (decide ((↑v.snd.snd:Int)<(↑b.length:Int))) ((0<=(↑v.snd.snd:Int)/\(↑v.snd.snd:Int)<(↑b.length:Int))/\∃(w:Int),∃(x:Int),∃(y:Int),zE b (↑v.snd.snd:Int).toNat 0 3=ba [dI w,dI x,dI y]/\∃(z:z1x),z.v.price=w/\z.v.qty=x/\z.v.count=y/\aa (List UInt8) 2 WrU z.l=aa (List UInt8) 2 WrU (vB v)/\z.l.length+(24:Nat)<=(1099511627776:Nat)/\∀(a_1:Unit),True->∃(a_2:List UInt8×List Lv×Nat),(↑a_2.snd.snd:Int)=ar.wrap ((↑v.snd.snd:Int)+1)/\aa (List UInt8) 2 WrU (vB a_2)=aa (List UInt8) 2 WrU (z.l++kA z.v)/\t a_2/\u a_2<u v/\da (ac [V.own 6,V.d (dI c),V.d (dI d),V.d (dI e),V.d (D.v (.bool f))] 129)/\zTy g h j k b l c d e f m) (cnd (!f) (∃(w:WN),w.n=0/\aa (List UInt8) 2 WrU w.l=aa (List UInt8) 2 WrU (vB v)/\w.ok/\∀(x:Unit),True->∃(y:Nat),(↑y:Int)=ar.wrap ((↑n:Int)+1)/\aa (List UInt8) 2 WrU (mP m y)=aa (List UInt8) 2 WrU (w.l++[lob w.n])/\zKa p y q n m) (∃(w:WN),w.n=1/\aa (List UInt8) 2 WrU w.l=aa (List UInt8) 2 WrU (vB v)/\w.ok/\∀(x:Unit),True->∃(y:z1x),y.v.price=c/\y.v.qty=d/\y.v.count=e/\aa (List UInt8) 2 WrU y.l=aa (List UInt8) 2 WrU (w.l++[lob w.n])/\y.l.length+(24:Nat)<=(1099511627776:Nat)/\∀(z:Unit),True->∃(a_1:Nat),(↑a_1:Int)=ar.wrap ((↑n:Int)+1)/\aa (List UInt8) 2 WrU (mP m a_1)=aa (List UInt8) 2 WrU (y.l++kA y.v)/\zKa p a_1 q n m))
def yUu (i:zOa):Prop:=
 ∃(a:Vw),aj yF a=aj yF i.v/\(aq a<=1099511627776/\∀(b:Sd×Sd),b∈a->b.fst.levels.length<=1099511627776/\b.snd.levels.length<=1099511627776)/\∀(b:Unit),True->cnd (!dY a) (∃(c:Unit),bE (v8 i.v i.seq)=[]/\zMl i.v=12/\True) (∃(c:Unit),True/\∀(d:Unit),True->∃(e:WN),e.n=i.seq/\aa (List UInt8) 2 WrU e.l=aa (List UInt8) 2 WrU []/\e.ok/\∀(f:Unit),True->∃(g:WN),g.n=(↑(aj yF i.v).length:Int)/\aa (List UInt8) 2 WrU g.l=aa (List UInt8) 2 WrU (e.l++le e.n 8)/\g.ok/\∀(h:Unit),True->∃(j:Nat),(↑j:Int)=0/\aa (List UInt8) 2 WrU (mP i j)=aa (List UInt8) 2 WrU (g.l++[lob g.n])/\∃(k:Nat->Prop),∃(l:Nat->Nat),k j/\∀(m:Nat),k m->cnd (decide ((↑m:Int)<(↑(aj yF i.v).length:Int))) ((0<=(↑m:Int)/\(↑m:Int)<(↑(aj yF i.v).length:Int))/\∃(n:List (List D)),∃(p:Int),∃(q:Int),∃(r:Int),∃(s:Bool),∃(t:List (List D)),∃(u:Int),∃(v:Int),∃(w:Int),∃(x:Bool),zE (aj yF i.v) (↑m:Int).toNat 0 10=ba [D.ro 3 n,dI p,dI q,dI r,D.v (.bool s),D.ro 3 t,dI u,dI v,dI w,D.v (.bool x)]/\∃(y:WN),y.n=(↑n.length:Int)/\aa (List UInt8) 2 WrU y.l=aa (List UInt8) 2 WrU (mP i m)/\y.ok/\∀(z:Unit),True->∃(a_1:List UInt8×List Lv×Nat),(↑a_1.snd.snd:Int)=0/\aa (List UInt8) 2 WrU (vB a_1)=aa (List UInt8) 2 WrU (y.l++[lob y.n])/\∃(a_2:List UInt8×List Lv×Nat->Prop),∃(a_3:List UInt8×List Lv×Nat->Nat),a_2 a_1/\∀(a_4:List UInt8×List Lv×Nat),a_2 a_4->cnd (decide ((↑a_4.snd.snd:Int)<(↑n.length:Int))) ((0<=(↑a_4.snd.snd:Int)/\(↑a_4.snd.snd:Int)<(↑n.length:Int))/\∃(a_5:Int),∃(a_6:Int),∃(a_7:Int),zE n (↑a_4.snd.snd:Int).toNat 0 3=ba [dI a_5,dI a_6,dI a_7]/\∃(a_8:z1x),a_8.v.price=a_5/\a_8.v.qty=a_6/\a_8.v.count=a_7/\aa (List UInt8) 2 WrU a_8.l=aa (List UInt8) 2 WrU (vB a_4)/\a_8.l.length+(24:Nat)<=(1099511627776:Nat)/\∀(a_9:Unit),True->∃(a_10:List UInt8×List Lv×Nat),(↑a_10.snd.snd:Int)=ar.wrap ((↑a_4.snd.snd:Int)+1)/\aa (List UInt8) 2 WrU (vB a_10)=aa (List UInt8) 2 WrU (a_8.l++kA a_8.v)/\a_2 a_10/\a_3 a_10<a_3 a_4/\zTy p q r s t n u v w x i) (cnd (!s) (∃(a_5:WN),a_5.n=0/\aa (List UInt8) 2 WrU a_5.l=aa (List UInt8) 2 WrU (vB a_4)/\a_5.ok/\∀(a_6:Unit),True->∃(a_7:WN),a_7.n=(↑t.length:Int)/\aa (List UInt8) 2 WrU a_7.l=aa (List UInt8) 2 WrU (a_5.l++[lob a_5.n])/\z1p a_7 t u v w x p q r s n i m k l) (∃(a_5:WN),a_5.n=1/\aa (List UInt8) 2 WrU a_5.l=aa (List UInt8) 2 WrU (vB a_4)/\a_5.ok/\∀(a_6:Unit),True->∃(a_7:z1x),a_7.v.price=p/\a_7.v.qty=q/\a_7.v.count=r/\aa (List UInt8) 2 WrU a_7.l=aa (List UInt8) 2 WrU (a_5.l++[lob a_5.n])/\a_7.l.length+(24:Nat)<=(1099511627776:Nat)/\∀(a_8:Unit),True->∃(a_9:WN),a_9.n=(↑t.length:Int)/\aa (List UInt8) 2 WrU a_9.l=aa (List UInt8) 2 WrU (a_7.l++kA a_7.v)/\z1p a_9 t u v w x p q r s n i m k l))) (∃(n:List UInt8),aa (List UInt8) 2 WrU n=aa (List UInt8) 2 WrU (mP i m)/\n.length<=1099511627776/\∀(p:Unit),True->∃(q:List UInt8),bE q=bE n/\q.length<=1099511627776/\∀(r:Unit),True->∃(s:WN),s.n=bP q/\aa (List UInt8) 2 WrU s.l=aa (List UInt8) 2 WrU n/\(s.l.length+(8:Nat)<=(1099511627776:Nat)/\0<=s.n/\s.n<4294967296)/\∀(t:Unit),True->∃(u:List UInt8),aa (List UInt8) 2 WrU u=aa (List UInt8) 2 WrU (s.l++le s.n 4)/\u.length<=1099511627776/\∀(v:Unit),True->∃(w:Unit),bE (v8 i.v i.seq)=bE u/\zMl i.v=0/\True))
def z7w {α:Type} {f:α->List D} {l:List α} {i n:Nat} {x:α} (h:l[i]? =ba x) (hn:(f x).length=n):zE (l.map f) i 0 n=ba (f x):=by
 unfold zE;rw[y2n,h];simp only[y3b,y1x,hn,Nat.ble_eq_true_of_le (y1u n),cond_true,y4r];rw[<- hn,y1k (y1u _)]
def yVb {α:Type} {f:α->List D} {l:List α} {i g n:Nat} {x:α} {r:List D} (h:l[i]? =ba x) (hn:g+n<=(f x).length) (hr:((f x).drop g).take n=r):zE (l.map f) i g n=ba r:=by
 unfold zE;rw[y2n,h];simp only[y3b,Nat.ble_eq_true_of_le hn,cond_true,hr]
def getD {α:Type} {l:List α} {i:Nat} (h:i<l.length):∃x,l[i]? =ba x:=⟨_,y2h h⟩
def zQv:betterC.ok Tryz.prog 150:=okw (V:=yKp) mixed gok0 0 (λ_=>[]) (λ_=>[]) [] Tryz.func150 λ(i:I3) _=>by
 refine Cv.cnd.mk (λe=>⟨(),?_,trivial⟩) (λe=>⟨(),?_,trivial⟩)
 ·have e:i.side=1:=by simpa using e
  simp[cL,e]
 ·have e:i.side≠1:=by simpa using e
  simp[cL,e]
def sdF {side:Int} {s:Sd} (h:¬SdRight side s):kW side s=ax:=y1s h
def LvAt.of {side:Int} {l:List Lv} {i:Nat} {x:Lv} (hx:l[i]? =ba x) (h1:1<=x.qty) (h2:1<=x.count) (h3:∀j b,i=j+1->l[j]? =ba b->cL side b.price x.price=ay):LvAt side l i:=by
 intro a ha;rw[hx]at ha;cases ha;exact⟨h1,h2,h3⟩
def yHo (i:SdI) (h:srightC.cnd i):z2y i:=by
 unfold z2y u6 sS dI;have h:i.s.levels.length<=1099511627776:=h;refine⟨0,rfl,λj=>j<=i.s.levels.length/\∀k,k<j->LvAt i.side i.s.levels k,λj=>i.s.levels.length-j,⟨oM,by intro k hk;omega⟩,λj hj=>zH (λhlt=> ?_) (λhlt=> ?_)⟩
 ·obtain⟨hj1,hj2⟩:=hj;rw[y0z]at hlt ⊢;obtain⟨x,hx⟩:=getD (l:=i.s.levels) (i:=j) oM;have w1:ar.wrap ((j:Int)+1)=((j+1:Nat):Int):=by rw[w64 (by omega)];rfl
  have next:LvAt i.side i.s.levels j->(λj=>j<=i.s.levels.length/\∀k,k<j->LvAt i.side i.s.levels k) (j+1):=λhl=>⟨oM,λk hk=>by
   rcases y3q k j with h'|h'
   ·exact hj2 k h'
   ·obtain rfl:k=j:=by omega
    exact hl⟩
  refine⟨⟨oM,oM⟩,x.price,x.qty,x.count,z7w hx rfl,zH (λhq=> ?_) (λhq=>zH (λhc=> ?_) (λhc=>zH (λhp=> ?_) (λhp=> ?_)))⟩
  ·exact⟨(),sdF λhr=>by have:=(hr.1 j x hx).1;omega,trivial⟩
  ·exact⟨(),sdF λhr=>by have:=(hr.1 j x hx).2.1;omega,trivial⟩
  ·have w0:ar.wrap ((j:Int)-1)=((j-1:Nat):Int):=by rw[w64 (by omega)];omega
   obtain⟨y,hy⟩:=getD (l:=i.s.levels) (i:=j-1) oM;refine⟨⟨by rw[w0];omega,by rw[w0];omega⟩,y.price,by rw[w0];exact yVb (n:=1) hy (by show 0+0+1<=3;omega) rfl,⟨i.side,y.price,x.price⟩,rfl,rfl,rfl,trivial,λ_ _=> ?_⟩;refine Cv.cnd.mk (λhb=>⟨(),sdF λhr=> ?_,trivial⟩) (λhb=>⟨j+1,w1.symm,next (LvAt.of hx oM oM ?_),Z9,k0q⟩)
   ·have:=(hr.1 j x hx).2.2 (j-1) y oM hy;simp only[y4k]at hb;rw[hb]at this;cases this
   ·intro k b hk hb';obtain rfl:k=j-1:=by omega
    rw[hy]at hb';cases hb';simpa using hb
  ·exact⟨j+1,w1.symm,next (LvAt.of hx oM oM λk b hk _=>by omega),Z9,k0q⟩
 ·obtain⟨hj1,hj2⟩:=hj;rw[y0z]at hlt ⊢;obtain rfl:j=i.s.levels.length:=by omega
  have hall:∀k,LvAt i.side i.s.levels k:=λk=>by
   rcases y3q k i.s.levels.length with h'|h'
   ·exact hj2 k h'
   ·intro a ha;rw[y2i h']at ha;cases ha
  refine Cv.cnd.mk (λhh=>zH (λhl=>⟨(),?_,trivial⟩) (λhl=>⟨(),sdF λhr=>by have:=hr.2.1;omega,trivial⟩))
   (λhh=>zH (λhl=>zH (λhq=>⟨(),?_,trivial⟩) (λhq=>⟨(),sdF λhr=> ?_,trivial⟩)) (λhl=>⟨(),sdF λhr=>by have:=hr.2.1;omega,trivial⟩))
  ·have hh:i.s.has=ax:=by simpa using hh
   rw[y6q];simp only[kW,y2v,y1l,beq_iff_eq,and_true];constructor
   ·intro hr;have:=hr.2.2.2 hh;rw[this];exact⟨rfl,rfl,rfl⟩
   ·rintro⟨e1,e2,e3⟩;refine⟨hall,oM,(λhc=>by rw[hh]at hc;cases hc),λ_=> ?_⟩;cases hi:i.s.imp;rw[hi]at e1 e2 e3;simp_all
  ·have hh:i.s.has=ay:=by simpa using hh
   rw[y6q];simp only[kW,y2v];exact⟨λhr=>(hr.2.2.1 hh).2,λhc=>⟨hall,oM,λ_=>⟨hq,hc⟩,λhc=>by rw[hh]at hc;cases hc⟩⟩
  ·have hh:i.s.has=ay:=by simpa using hh
   have:=(hr.2.2.1 hh).1;omega
def z8m:srightC.ok Tryz.prog 119:=okw mixed (gokc zQv gok0) 0 (λ_=>[]) (λ_=>yJh) [] Tryz.func119 yHo
def vwF {v:Vw} (h:¬cG v):dY v=ax:=y1s h
def yJf (v:Vw) (h:rightVC.cnd v):z5o v:=by
 unfold z5o dI;obtain⟨h1,h2⟩:tU v:=h;refine⟨0,rfl,λj=>j<=v.length/\∀k b,k<j->v[k]? =ba b->SdRight 1 b.1/\SdRight 2 b.2,λj=>v.length-j,⟨oM,by intro k b hk;omega⟩,λj hj=>zH (λhlt=> ?_) (λhlt=> ?_)⟩
 ·obtain⟨hj1,hj2⟩:=hj;rw[y0z]at hlt ⊢;obtain⟨x,hx⟩:=getD (l:=v) (i:=j) oM;have hm:=y1j hx;have w1:ar.wrap ((j:Int)+1)=((j+1:Nat):Int):=by rw[w64 (by omega)];rfl
  refine⟨⟨oM,oM⟩,_,_,_,_,_,_,_,_,_,_,z7w hx rfl,⟨1,x.1⟩,rfl,rfl,rfl,rfl,rfl,rfl,(h2 x hm).1,λ_ _=>Cv.cnd.mk (λhb=> ?_) (λhb=>⟨⟨2,x.2⟩,rF5 ⟨rfl,(h2 x hm).2,λ_ _=>Cv.cnd.mk (λhb2=> ?_) (λhb2=> ?_)⟩⟩)⟩
  ·refine⟨(),vwF λhr=> ?_,trivial⟩;simp only[y4k,kW,decide_eq_false_iff_not]at hb;exact hb (hr.1 x hm).1
  ·refine⟨(),vwF λhr=> ?_,trivial⟩;simp only[y4k,kW,decide_eq_false_iff_not]at hb2;exact hb2 (hr.1 x hm).2
  ·simp only[Bool.not_eq_false',kW,y2v]at hb hb2;refine⟨j+1,w1.symm,⟨oM,λk b hk hb'=> ?_⟩,Z9,k0q⟩;rcases y3q k j with h'|h'
   ·exact hj2 k b h' hb'
   ·obtain rfl:k=j:=by omega
    rw[hx]at hb';cases hb';exact⟨hb,hb2⟩
 ·obtain⟨hj1,hj2⟩:=hj;rw[y0z]at hlt ⊢;obtain rfl:j=v.length:=by omega
  refine⟨(),?_,trivial⟩;rw[y6q];simp only[dY,y2v];constructor
  ·intro hr;have:=hr.2;omega
  ·intro hr;refine⟨λb hb=> ?_,oM⟩;obtain⟨k,hk⟩:=List.getElem?_of_mem hb;exact hj2 k b (y1c.1 hk).1 hk
def z8z:rightVC.ok Tryz.prog 70:=okw mixed (gokc z8m gok0) 0 (λ_=>[]) (λ_=>yHn) [] Tryz.func70 yJf
def yJm:putLC.ok Tryz.prog 71:=okw (V:=yXv) mixed (gokc z4o gok0) 0 (λ_=>[]) (λ_=>[]) [] Tryz.func71 λ(i:z1x) h=>by
 have h:i.l.length+24<=1099511627776:=h;refine⟨⟨i.l,i.v.price⟩,rfl,rfl,(show i.l.length+8<=1099511627776 by omega),λ_ _=>⟨⟨i.l++le i.v.price 8,i.v.qty⟩,rfl,rfl,?_,λ_ _=>⟨⟨i.l++le i.v.price 8++le i.v.qty 8,i.v.count⟩,rfl,rfl,?_,λ_ _=>⟨(),?_,trivial⟩⟩⟩⟩
 ·show _+8<=_;rw[y0x,kD];omega
 ·show _+8<=_;rw[y0x,y0x,kD,kD];omega
 ·simp only[kA,y1e]
def zNe {α:Type} {f:α->List UInt8} {c:Nat}:∀{l:List α},(∀x∈l,(f x).length<=c)->(l.flatMap f).length<=c*l.length
 |[],_=>by simp
 |a::l,h=>by
  have h1:=h a (by simp);have h2:=zNe (l:=l) λx hx=>h x (by simp[hx])
  simp only[y2q,y0x,y1d,Nat.mul_add,Nat.mul_one];omega
def m4 {α β:Type} {f:α->List β} {l:List α} {k:Nat} {x:α} (h:l[k]? =ba x):(l.take (k+1)).flatMap f=(l.take k).flatMap f++f x:=by
 rw[y2e,h];simp
def zOl (l:Lv):(kA l).length=24:=by simp[kA,kD]
def n7 (l:List Lv):(l.flatMap kA).length<=24*l.length:=zNe λx _=>by rw[zOl];omega
def zGx {s:Sd} (h:s.levels.length<=255):(zDy s).length<=6146:=by
 have:=n7 s.levels;unfold zDy;rw[y0x,y0x,y2z];split
 ·rw[y0x,zOl,y2z];omega
 ·rw[y2z];omega
def SdRight.len {n:Int} {s:Sd} (h:SdRight n s):s.levels.length<=255:=h.2.1
def zVd {v:Vw} (h:cG v) (j:Nat):((v.take j).flatMap jY).length<=3134460:=by
 have h1:∀x∈v.take j,(jY x).length<=12292:=λx hx=>by
  have:=h.1 x (y5p hx);have a:=zGx this.1.len;have b:=zGx this.2.len;unfold jY;rw[y0x];omega
 have h2:=zNe h1;have h3:=h.2;rw[y1q]at h2;omega
def z7p (n:Int):0<=av.wrap n/\av.wrap n<4294967296:=by
 have:av.wrap n=n % 4294967296:=rfl;rw[this];omega
def tH (l:List UInt8):0<=bP l/\bP l<4294967296:=z7p _
def yZf (i:zOa) (h:encC.cnd i):yUu i:=by
 unfold yUu z1p zTy zKa zNj vB mP dI;refine⟨i.v,rfl,h,λ_ _=>Cv.cnd.mk (λe=> ?_) (λe=> ?_)⟩
 ·have hn:¬cG i.v:=by simpa[dY]using e
  exact⟨(),by rw[v8,y0y hn];rfl,by rw[zMl,y0y hn],trivial⟩
 have hr:cG i.v:=by simpa[dY]using e
 have hB:∀j,(le i.seq 8++[lob i.v.length]++(i.v.take j).flatMap jY).length<=3134470:=λj=>by
  have:=zVd hr j;simp only[y0x,kD,y1d,y2r];omega
 refine⟨(),trivial,λ_ _=>⟨⟨[],i.seq⟩,rfl,rfl,(show 0+8<=1099511627776 by omega),λ_ _=>⟨⟨le i.seq 8,i.v.length⟩,by rw[y0z],rfl,(show(le i.seq 8).length+8<=1099511627776 by rw[kD];omega),λ_ _=>⟨0,rfl,by simp,λj=>j<=i.v.length,λj=>i.v.length-j,Z9,λj hj=>zH (λhlt=> ?_) (λhlt=> ?_)⟩⟩⟩⟩
 ·dsimp only at hj;rw[y0z]at hlt ⊢;obtain⟨x,hx⟩:=getD (l:=i.v) (i:=j) oM;have hm:=hr.1 x (y1j hx);have l1:=hm.1.len;have l2:=hm.2.len;have hl:=hr.2;have w1:ar.wrap ((j:Int)+1)=((j+1:Nat):Int):=by rw[w64 (by omega)];rfl
  have hBj:=hB j;have hBs:le i.seq 8++[lob i.v.length]++(i.v.take (j+1)).flatMap jY=le i.seq 8++[lob i.v.length]++(i.v.take j).flatMap jY++jY x:=by
   rw[m4 hx];simp only[y1e]
  generalize hb:le i.seq 8++[lob i.v.length]++(i.v.take j).flatMap jY=B at hBj hBs;have lv:∀(C:List UInt8) (l:List Lv) (k:Nat),C.length<=5000000->l.length<=255->((C++(l.take k).flatMap kA).length+24<=1099511627776):=λC l k hC hl=>by
   have:=n7 (l.take k);rw[y0x];rw[y1q]at this;omega
  have lw:∀(k:Nat),k<255->ar.wrap ((k:Int)+1)=((k+1:Nat):Int):=λk hk=>by rw[w64 (by omega)];rfl
  have le1:=n7 x.1.levels;have le2:=n7 x.2.levels;refine⟨⟨oM,oM⟩,_,_,_,_,_,_,_,_,_,_,z7w hx rfl,⟨B,x.1.levels.length⟩,by rw[y0z],rfl,by show B.length+8<=_;omega,λ_ _=>⟨(B++[lob x.1.levels.length],x.1.levels,0),rfl,by simp,λy=>∃k,k<=x.1.levels.length/\y=(B++[lob x.1.levels.length],x.1.levels,k),λy=>x.1.levels.length-y.2.2,⟨0,oM,k0q⟩,?_⟩⟩;rintro _ ⟨k,hk,rfl⟩;dsimp only;refine zH (λhlt1=> ?_) (λhlt1=> ?_)
  ·rw[y0z]at hlt1 ⊢;obtain⟨y,hy⟩:=getD (l:=x.1.levels) (i:=k) oM;refine⟨⟨oM,oM⟩,_,_,_,z7w hy rfl,⟨_,y⟩,rfl,rfl,rfl,rfl,lv _ _ _ (by rw[y0x];simp;omega) l1,λ_ _=>⟨(_,_,k+1),(lw k oM).symm,?_,⟨k+1,oM,k0q⟩,Z9,k0q⟩⟩;dsimp only;rw[m4 hy];simp only[y1e]
  ·rw[y0z]at hlt1;obtain rfl:k=x.1.levels.length:=by omega
   rw[y1k (y1u _)];have e1:zDy x.1=[lob x.1.levels.length]++x.1.levels.flatMap kA++(if x.1.has then[lob 1]++kA x.1.imp else[lob 0]):=rfl;have e2:zDy x.2=[lob x.2.levels.length]++x.2.levels.flatMap kA++(if x.2.has then[lob 1]++kA x.2.imp else[lob 0]):=rfl;have bl:∀C:List UInt8,C=B++zDy x.1->C.length<=4000000:=λC e=>by
    subst e;have:=zGx l1;rw[y0x];omega
   refine Cv.cnd.mk (λhh=> ?_) (λhh=> ?_)
   ·have hh:x.1.has=ax:=by simpa using hh
    rw[hh,y0y (by simp)]at e1;refine⟨⟨B++[lob x.1.levels.length]++x.1.levels.flatMap kA,0⟩,rfl,rfl,(by dsimp only[WN.ok];simp only[y0x,y1d,y2r];omega),λ_ _=> ?_⟩;have eC:B++[lob x.1.levels.length]++x.1.levels.flatMap kA++[lob 0]=B++zDy x.1:=by rw[e1];simp only[y1e]
    generalize B++[lob x.1.levels.length]++x.1.levels.flatMap kA++[lob 0]=C at eC
    (
    have hC:=bl C eC;refine⟨⟨C,x.2.levels.length⟩,by rw[y0z],rfl,(show C.length+8<=1099511627776 by omega),λ_ _=>⟨(C++[lob x.2.levels.length],x.2.levels,0),rfl,by simp,λy=>∃k,k<=x.2.levels.length/\y=(C++[lob x.2.levels.length],x.2.levels,k),λy=>x.2.levels.length-y.2.2,⟨0,oM,k0q⟩,?_⟩⟩;rintro _ ⟨k,hk,rfl⟩;dsimp only;refine zH (λhlt2=> ?_) (λhlt2=> ?_)
    ·rw[y0z]at hlt2 ⊢;obtain⟨y,hy⟩:=getD (l:=x.2.levels) (i:=k) oM;refine⟨⟨oM,oM⟩,_,_,_,z7w hy rfl,⟨_,y⟩,rfl,rfl,rfl,rfl,lv _ _ _ (by rw[y0x];simp;omega) l2,λ_ _=>⟨(_,_,k+1),(lw k oM).symm,?_,⟨k+1,oM,k0q⟩,Z9,k0q⟩⟩;dsimp only;rw[m4 hy];simp only[y1e]
    ·rw[y0z]at hlt2;obtain rfl:k=x.2.levels.length:=by omega
     rw[y1k (y1u _)];refine Cv.cnd.mk (λhh2=> ?_) (λhh2=> ?_)
     ·have hh2:x.2.has=ax:=by simpa using hh2
      rw[hh2,y0y (by simp)]at e2;refine⟨⟨C++[lob x.2.levels.length]++x.2.levels.flatMap kA,0⟩,rfl,rfl,(by dsimp only[WN.ok];simp only[y0x,y1d,y2r];omega),λ_ _=>⟨j+1,w1.symm,?_,oM,oM,k0q⟩⟩;rw[hBs,jY,<- y1e,<- eC,e2];simp only[y1e]
     ·have hh2:x.2.has=ay:=by simpa using hh2
      rw[hh2,y1a rfl]at e2;refine⟨⟨C++[lob x.2.levels.length]++x.2.levels.flatMap kA,1⟩,rfl,rfl,(by dsimp only[WN.ok];simp only[y0x,y1d,y2r];omega),λ_ _=>⟨⟨_,x.2.imp⟩,rfl,rfl,rfl,rfl,(by simp only[y0x,y1d,y2r];omega),λ_ _=>⟨j+1,w1.symm,?_,oM,oM,k0q⟩⟩⟩;rw[hBs,jY,<- y1e,<- eC,e2];simp only[y1e])
   ·have hh:x.1.has=ay:=by simpa using hh
    rw[hh,y1a rfl]at e1;refine⟨⟨B++[lob x.1.levels.length]++x.1.levels.flatMap kA,1⟩,rfl,rfl,(by dsimp only[WN.ok];simp only[y0x,y1d,y2r];omega),λ_ _=>⟨⟨_,x.1.imp⟩,rfl,rfl,rfl,rfl,(by simp only[y0x,y1d,y2r];omega),λ_ _=> ?_⟩⟩;have eC:B++[lob x.1.levels.length]++x.1.levels.flatMap kA++[lob 1]++kA x.1.imp=B++zDy x.1:=by rw[e1];simp only[y1e]
    generalize B++[lob x.1.levels.length]++x.1.levels.flatMap kA++[lob 1]++kA x.1.imp=C at eC
    (
    have hC:=bl C eC;refine⟨⟨C,x.2.levels.length⟩,by rw[y0z],rfl,(show C.length+8<=1099511627776 by omega),λ_ _=>⟨(C++[lob x.2.levels.length],x.2.levels,0),rfl,by simp,λy=>∃k,k<=x.2.levels.length/\y=(C++[lob x.2.levels.length],x.2.levels,k),λy=>x.2.levels.length-y.2.2,⟨0,oM,k0q⟩,?_⟩⟩;rintro _ ⟨k,hk,rfl⟩;dsimp only;refine zH (λhlt2=> ?_) (λhlt2=> ?_)
    ·rw[y0z]at hlt2 ⊢;obtain⟨y,hy⟩:=getD (l:=x.2.levels) (i:=k) oM;refine⟨⟨oM,oM⟩,_,_,_,z7w hy rfl,⟨_,y⟩,rfl,rfl,rfl,rfl,lv _ _ _ (by rw[y0x];simp;omega) l2,λ_ _=>⟨(_,_,k+1),(lw k oM).symm,?_,⟨k+1,oM,k0q⟩,Z9,k0q⟩⟩;dsimp only;rw[m4 hy];simp only[y1e]
    ·rw[y0z]at hlt2;obtain rfl:k=x.2.levels.length:=by omega
     rw[y1k (y1u _)];refine Cv.cnd.mk (λhh2=> ?_) (λhh2=> ?_)
     ·have hh2:x.2.has=ax:=by simpa using hh2
      rw[hh2,y0y (by simp)]at e2;refine⟨⟨C++[lob x.2.levels.length]++x.2.levels.flatMap kA,0⟩,rfl,rfl,(by dsimp only[WN.ok];simp only[y0x,y1d,y2r];omega),λ_ _=>⟨j+1,w1.symm,?_,oM,oM,k0q⟩⟩;rw[hBs,jY,<- y1e,<- eC,e2];simp only[y1e]
     ·have hh2:x.2.has=ay:=by simpa using hh2
      rw[hh2,y1a rfl]at e2;refine⟨⟨C++[lob x.2.levels.length]++x.2.levels.flatMap kA,1⟩,rfl,rfl,(by dsimp only[WN.ok];simp only[y0x,y1d,y2r];omega),λ_ _=>⟨⟨_,x.2.imp⟩,rfl,rfl,rfl,rfl,(by simp only[y0x,y1d,y2r];omega),λ_ _=>⟨j+1,w1.symm,?_,oM,oM,k0q⟩⟩⟩;rw[hBs,jY,<- y1e,<- eC,e2];simp only[y1e])
 ·dsimp only at hj;rw[y0z]at hlt;obtain rfl:j=i.v.length:=by omega
  have hBj:=hB i.v.length;rw[y1k (y1u _)]at hBj ⊢;have hc:=tH (cH i.v i.seq);have hl:(cH i.v i.seq).length<=3134470:=hBj;have hl2:(cH i.v i.seq++le (bP (cH i.v i.seq)) 4).length<=1099511627776:=by rw[y0x,kD];omega
  exact⟨cH i.v i.seq,rfl,oM,λ_ _=>⟨cH i.v i.seq,rfl,oM,λ_ _=>⟨⟨cH i.v i.seq,_⟩,rfl,rfl,⟨Z9,hc.1,hc.2⟩,λ_ _=>⟨_,rfl,hl2,λ_ _=>⟨(),by rw[v8,y1a hr];rfl,by rw[zMl,y1a hr],trivial⟩⟩⟩⟩⟩
def yRh:encC.ok Tryz.prog 26:=okw mixed (gokc z8z (gokc z3h (gokc z4o (gokc z6a (gokc yJm (gokc z4d (gokc z0k (gokc yGp gok0)))))))) 0 (λ_=>[]) (λi=>yZk i) [] Tryz.func26 yZf
@[reducible] def tBy:Nat:=32
def rcE (l:List UInt8):List D:=[.ro 1 (bE l)]
def growC:Con:=zR Nat (λn=>[.d (.v (.slice bc 0 0)),zA n]) (λ_=>[]) (λn=>1<=n/\n<=1099511627776) (λ_=> .own 0) (λ_=>[.own tU8 1 []])
def flatC:Con:=zR (List (List UInt8)) (λls=>[roV 1 (ls.map rcE)]) (λ_=>[]) (λls=>1<=ls.flatten.length/\ls.flatten.length<=1099511627776/\ls.length<=1000) (λ_=> .own 0) (λls=>[.own tU8 1 (bE ls.flatten)])
def yMt (ls:List (List UInt8)):List SAnn:=[
 {ι:=Nat,slots:=λk=>[(3,zA (ls.take k).flatten.length),(11,zA k)],rows:=λ_=>[]},
 {ι:=Nat,slots:=λk=>[(6,.own 0),(27,zA k)],rows:=λk=>[.own tU8 1 (bE (ls.take k).flatten)]}]
structure Dk where
 b:List UInt8
 safe:Nat
def DkU (d:Dk):Nat->AObj
 |0=> .cells [.own 1,zA d.safe] 101
 |1=> .own tU8 1 (bE d.b)
 |_=> .gone
def DkR (d:Dk):AObj:= .adt Dk 2 DkU d
@[reducible] def Dk.ok (d:Dk):Prop:=d.safe<=d.b.length/\d.b.length<=1048576
structure DbI where
 d:Dk
 l:List UInt8
structure DnI where
 d:Dk
 n:Int
def dnewC:Con:=zR Unit (λ_=>[]) (λ_=>[]) (λ_=>True) (λ_=> .nm 0 0) (λ_=>[DkR ⟨[],0⟩])
def dappC:Con:=zR DbI (λi=>[.nm 0 0,roV 1 (bE i.l)]) (λi=>[DkR i.d]) (λi=>i.d.b.length+i.l.length<=1048576) (λ_=>zA 0) (λi=>[DkR ⟨i.d.b++i.l,i.d.safe⟩])
def dsynC:Con:=zR Dk (λ_=>[.nm 0 0]) (λd=>[DkR d]) (λd=>d.ok) (λ_=>aU) (λd=>[DkR ⟨d.b,d.b.length⟩])
def dbytC:Con:=zR Dk (λ_=>[.nm 0 0]) (λd=>[DkR d]) (λd=>d.ok) (λ_=> .own 1) (λd=>[DkR d,.own tU8 1 (bE d.b)])
def cloneBN:Con:=zR (List (List D)) (λl=>[roV 1 l]) (λ_=>[]) (λl=>l.length<=140737488355328) (λ_=> .own 0) (λl=>[.own tU8 1 l])
def dswpC:Con:=zR DbI (λi=>[.nm 0 0,roV 1 (bE i.l)]) (λi=>[DkR i.d]) (λi=>i.l.length<=1048576) (λ_=>zA 0) (λi=>[DkR ⟨i.l,i.l.length⟩])
def Dk.keep (d:Dk) (n:Int):Nat:=d.safe+(min (max n 0) ((d.b.length:Int)-d.safe)).toNat
def dcraC:Con:=zR DnI (λi=>[.nm 0 0,zA i.n]) (λi=>[DkR i.d]) (λi=>i.d.ok) (λ_=>aU) (λi=>[DkR ⟨i.d.b.take (i.d.keep i.n),i.d.keep i.n⟩])
def yW (l:List UInt8):List UInt8:=lob l.length::UInt8.ofNat (255-l.length)::(l++le (bP l) 4)
def frameC:Con:=zR (List UInt8) (λl=>[roV 1 (bE l)]) (λ_=>[]) (λl=>l.length<=255) (λ_=> .tup [.own 0,zA 0]) (λl=>[.own tU8 1 (bE (yW l))])
def yRk:List (Nat×SAnn):=[(20,{ι:=Unit,slots:=λ_=>[],rows:=λ_=>[],opn:=[4]})]
def fF (l:List UInt8):List UInt8×Nat×Int:=
 if l.length<2 then([],0,10)else if(l.getD 1 0).toNat≠255-(l.getD 0 0).toNat then([],0,14)else
 if l.length<6+(l.getD 0 0).toNat then([],0,10)else
 if qE ((l.drop (2+(l.getD 0 0).toNat)).take 4)≠bP ((l.drop 2).take (l.getD 0 0).toNat)then([],0,14)else
 ((l.drop 2).take (l.getD 0 0).toNat,6+(l.getD 0 0).toNat,0)
structure OpI where
 b:List UInt8
 k:Nat
def OpI.x (i:OpI):List UInt8×Nat×Int:=fF (i.b.drop i.k)
def zIh:V:= .d (.v (.slice bc 0 0))
def wopC:Con where
 ι:=OpI
 pat:=λi=>[roV 1 (bE i.b),zA i.k]
 pre:=λ_=>[]
 cnd:=λi=>i.k<=i.b.length/\i.b.length<=1099511627776
 alts:=λi=>[{o:=Unit,res:=λ_=> .tup [.own 0,zA (i.k+i.x.2.1),zA 0],post:=λ_=>[.own tU8 1 (bE i.x.1)],rel:=λ_=>i.x.2.2=0},
  {o:=Unit,res:=λ_=> .tup [zIh,zA 0,zA i.x.2.2],post:=λ_=>[],rel:=λ_=>i.x.2.2≠0}]
def fsB (L:List (List UInt8)):List UInt8:=L.flatMap yW
structure ScI where
 L:List (List UInt8)
 t:List UInt8
@[reducible] def ScI.ok (i:ScI):Prop:=(∀l∈i.L,l.length<=255)/\(fF i.t).2.2=10/\(fsB i.L).length+i.t.length<=1048576
@[reducible] def rcR (L:List (List UInt8)):AObj:= .own tBy 1 (L.map rcE)
def scanC:Con:=zR ScI (λi=>[roV 1 (bE (fsB i.L++i.t))]) (λ_=>[]) (λi=>i.ok) (λi=> .tup [.own 0,zA (fsB i.L).length,zA 0]) (λi=>[rcR i.L])
def yWu (i:ScI):List SAnn:=[{ι:=Nat,slots:=λk=>[(5,.own 0),(6,zA (fsB (i.L.take k)).length)],rows:=λk=>[rcR (i.L.take k)]}]
def jnR (d:Nat) (n:Int):AObj:= .cells [.nm d 0,zA n] 183
structure JoI where
 s:Nat
 L:List (List UInt8)
 t:List UInt8
def JoI.d (i:JoI):Dk:=⟨fsB i.L++i.t,i.s⟩
def JoI.d' (i:JoI):Dk:=if i.t=[]then i.d else⟨fsB i.L,(fsB i.L).length⟩
def jopC:Con:=zR JoI (λ_=>[.nm 0 0]) (λi=>[DkR i.d]) (λi=>(ScI.mk i.L i.t).ok/\i.d.ok) (λ_=> .tup [.nm 1 0,.own 2,zA 0]) (λi=>[DkR i.d',jnR 0 i.L.length,rcR i.L])
structure JaI where
 d:Dk
 n:Int
 l:List UInt8
def jappC:Con:=zR JaI (λi=>[.nm 0 0,roV 1 (bE i.l)]) (λi=>[jnR 1 i.n,DkR i.d]) (λi=>i.l.length<=255/\i.d.b.length+i.l.length+6<=1048576/\0<=i.n/\i.n<=1048576) (λ_=>zA 0) (λi=>[jnR 1 (i.n+1),DkR ⟨i.d.b++yW i.l,i.d.safe⟩])
def jsynC:Con:=zR JaI (λi=>[.nm 0 0]) (λi=>[jnR 1 i.n,DkR i.d]) (λi=>i.d.ok) (λ_=>aU) (λi=>[jnR 1 i.n,DkR ⟨i.d.b,i.d.b.length⟩])
def cQ (a:Nat) (b:List (List UInt8)):=(↑(ak a b).flatten.length:Int)
def z3c (ls:List (List UInt8)):Prop:=
 ∃(a:Nat),(cQ a ls)=0/\(↑a:Int)=0/\∃(b:Nat->Prop),∃(c:Nat->Nat),b a/\∀(d:Nat),b d->cnd (decide ((↑d:Int)<(↑(aj rcE ls).length:Int))) ((0<=(↑d:Int)/\(↑d:Int)<(↑(aj rcE ls).length:Int))/\∃(e:List (List D)),zE (aj rcE ls) (↑d:Int).toNat 0 1=ba [D.ro 1 e]/\cnd (decide (ar.wrap ((cQ d ls)+(↑e.length:Int))<0)) False (∃(f:Nat),(cQ f ls)=ar.wrap ((cQ d ls)+(↑e.length:Int))/\qW f d b c)) (∃(e:Nat),True/\(↑e:Int)=(cQ d ls)/\(1<=e/\e<=1099511627776)/\∀(f:Unit),True->∃(g:Nat),(↑g:Int)=0/\bE (ak g ls).flatten=[]/\∃(h:Nat->Prop),∃(j:Nat->Nat),h g/\∀(k:Nat),h k->cnd (decide ((↑k:Int)<(↑(aj rcE ls).length:Int))) ((0<=(↑k:Int)/\(↑k:Int)<(↑(aj rcE ls).length:Int))/\∃(l:List (List D)),zE (aj rcE ls) (↑k:Int).toNat 0 1=ba [D.ro 1 l]/\((bE (ak k ls).flatten).length+l.length)*(1:Nat)<=(140737488355328:Nat)/\∃(m:Nat),(↑m:Int)=ar.wrap ((↑k:Int)+1)/\bE (ak m ls).flatten=bE (ak k ls).flatten++l/\h m/\j m<j k/\True) (∃(l:Unit),bE ls.flatten=bE (ak k ls).flatten/\True))
def yRc (ls:List (List UInt8)):z3c ls=walk Tryz.prog ([(100,growC)]) 0 ([]) (yMt ls) [] Tryz.f43 (Tryz.f43.body.getD .skip) (flatC.pat ls) (flatC.pre ls) (flatC.alts ls):=by kernel_rfl
def yPf (hG:GOk Tryz.prog ([(100,growC)])) (h:∀(ls:List (List UInt8)),flatC.cnd ls->z3c ls):flatC.ok Tryz.prog 43:=uU mixed ([(100,growC)]) hG 0 (λ(ls:List (List UInt8))=>[]) (λ(ls:List (List UInt8))=>yMt ls) [] Tryz.func43 (by kernel_rfl) (by kernel_rfl) (by kernel_rfl) (λ_=>by kernel_rfl) (λ(ls:List (List UInt8)) hc=>Eq.mp (yRc ls) (h ls hc))
def yUm (u:Unit):Prop:=
 ∃(o:Unit),(↑(0:Nat):Int)=0/\bE []=[]/\True
def eW (a:DbI):=(decide ((↑(bE a.l).length:Int)>ar.wrap (1048576-(↑(bE a.d.b).length:Int))))
def yNu (i:DbI):Prop:=
 cnd (eW i) (∃(a:Unit),(0:Int)=(13:Int)/\da ((↑i.d.safe:Int))/\bE (i.d.b++i.l)=bE i.d.b/\True) (((bE i.d.b).length+(bE i.l).length)*(1:Nat)<=(140737488355328:Nat)/\∃(a:Unit),da ((0:Int))/\da ((↑i.d.safe:Int))/\bE (i.d.b++i.l)=bE i.d.b++bE i.l/\True)
def yVg (d:Dk):Prop:=
 ∃(o:Unit),(↑d.b.length:Int)=(↑(bE d.b).length:Int)/\da (bE d.b)/\True
def yUd (d:Dk):Prop:=
 ∃(i:List (List D)),i=bE d.b/\i.length*(1:Nat)<=(140737488355328:Nat)/\∀(o:Unit),True->∃(o:Unit),da ((↑d.safe:Int))/\bE d.b=i/\bE d.b=i/\True
def zWa (i:List (List D)):Prop:=
 ∀(b:Bool),(b=ay->i=[])->cnd b (∃(o:Unit),i=[]/\True) ((0+i.length)*(1:Nat)<=(140737488355328:Nat)/\∃(o:Unit),i=[]++i/\True)
def z8h (i:List (List D)):zWa i=walk Tryz.prog ([]) 0 ([]) ([]) [] Tryz.f116 (Tryz.f116.body.getD .skip) (cloneBN.pat i) (cloneBN.pre i) (cloneBN.alts i):=by kernel_rfl
def z9g (hG:GOk Tryz.prog ([])) (h:∀(i:List (List D)),cloneBN.cnd i->zWa i):cloneBN.ok Tryz.prog 116:=uU mixed ([]) hG 0 (λ(i:List (List D))=>[]) (λ(i:List (List D))=>[]) [] Tryz.func116 (by kernel_rfl) (by kernel_rfl) (by kernel_rfl) (λ_=>by kernel_rfl) (λ(i:List (List D)) hc=>Eq.mp (z8h i) (h i hc))
def yMb (i:DbI):Prop:=
 cnd (decide ((↑(bE i.l).length:Int)>1048576)) (∃(a:Unit),(0:Int)=(13:Int)/\(↑i.l.length:Int)=(↑i.d.safe:Int)/\bE i.l=bE i.d.b/\True) (∃(a:List (List D)),a=bE i.l/\a.length<=140737488355328/\∀(b:Unit),True->∃(c:Unit),da ((0:Int))/\(↑i.l.length:Int)=(↑a.length:Int)/\bE i.l=a/\True)
def mW (a:DnI):=(ar.wrap ((↑(bE a.d.b).length:Int)-(↑a.d.safe:Int)))
def yMx (i:DnI):Prop:=
 (0<=ar.wrap ((↑i.d.safe:Int)+min (if 0>i.n then(0:Int)else i.n) (mW i))/\ar.wrap ((↑i.d.safe:Int)+min (if 0>i.n then(0:Int)else i.n) (mW i))<=(↑(bE i.d.b).length:Int))/\∃(a:Unit),(↑(i.d.keep i.n):Int)=(↑(ak (ar.wrap ((↑i.d.safe:Int)+min (if 0>i.n then(0:Int)else i.n) (mW i))).toNat (bE i.d.b)).length:Int)/\bE (ak (i.d.keep i.n) i.d.b)=ak (ar.wrap ((↑i.d.safe:Int)+min (if 0>i.n then(0:Int)else i.n) (mW i))).toNat (bE i.d.b)/\True
def yDm (l:List UInt8):Prop:=
 cnd (decide ((↑(bE l).length:Int)>255)) (∃(a:Unit),(0:Int)=(3:Int)/\bE (yW l)=[]/\True) (∃(a:Unit),True/\∀(b:Unit),True->∃(c:WN),c.n=(↑(bE l).length:Int)/\aa (List UInt8) 2 WrU c.l=aa (List UInt8) 2 WrU []/\c.ok/\∀(d:Unit),True->∃(e:WN),e.n=ar.wrap (↑(bw ar.bits (if ar.signed=ay then(-1:Int)else ar.max) ^^^ bw ar.bits (↑(bE l).length:Int)).toNat:Int)/\aa (List UInt8) 2 WrU e.l=aa (List UInt8) 2 WrU (c.l++[lob c.n])/\e.ok/\∀(f:Unit),True->((bE (e.l++[lob e.n])).length+(bE l).length)*(1:Nat)<=(140737488355328:Nat)/\∃(g:List UInt8),bE g=bE l/\g.length<=1099511627776/\∀(h:Unit),True->∃(j:WN),j.n=bP g/\bE j.l=bE (e.l++[lob e.n])++bE l/\(j.l.length+(8:Nat)<=(1099511627776:Nat)/\0<=j.n/\j.n<4294967296)/\∀(k:Unit),True->∃(m:List UInt8),aa (List UInt8) 2 WrU m=aa (List UInt8) 2 WrU (j.l++le j.n 4)/\m.length<=1099511627776/\∀(n:Unit),True->∃(p:Unit),da ((0:Int))/\bE (yW l)=bE m/\True)
def zKd (a:OpI):Prop:=(∃(b:Unit),(↑a.k:Int)+(↑a.x.snd.fst:Int)=(0:Int)/\(0:Int)=10/\bE a.x.fst=[]/\a.x.snd.snd=0)\/∃(o:Unit),True/\da ((0:Int))/\a.x.snd.snd=10/\(a.x.snd.snd=0->False)
def bS (a:OpI):=(ap (↑a.k:Int).toNat (bE a.b))
def dR (a:OpI):=(↑(bS a).length:Int)
def gG (a:Int):=(2+ar.wrap a)
def zJt (a:Int) (b:OpI):Prop:=(0:Int)<=(2:Int)/\2<=ar.wrap (gG a)/\ar.wrap (gG a)<=(dR b)
def zCb (a:Int) (b:OpI):=(ak (ar.wrap (gG a)).toNat (bS b))
def sZ (a:Int):=(ar.wrap (gG a)+4)
def yWc (i:OpI):Prop:=
 cnd (decide ((↑i.k:Int)>(↑(bE i.b).length:Int))) ((∃(a:Unit),(↑i.k:Int)+(↑i.x.snd.fst:Int)=(0:Int)/\(0:Int)=1/\bE i.x.fst=[]/\i.x.snd.snd=0)\/∃(o:Unit),True/\da ((0:Int))/\i.x.snd.snd=1/\(i.x.snd.snd=0->False)) ((0<=(↑i.k:Int)/\(↑i.k:Int)<=(↑(bE i.b).length:Int))/\cnd (decide ((dR i)<2)) (zKd i) (((0:Int)<=(1:Int)/\1<(dR i))/\∃(a:Int),zE (bS i) (bg 1) 0 1=ba [D.v (.int .u8 a)]/\((0:Int)<=(0:Int)/\0<(dR i))/\∃(b:Int),zE (bS i) (bg 0) 0 1=ba [D.v (.int .u8 b)]/\cnd (a !=aw.wrap (↑(bw aw.bits (if aw.signed=ay then(-1:Int)else aw.max) ^^^ bw aw.bits b).toNat:Int)) ((∃(c:Unit),(↑i.k:Int)+(↑i.x.snd.fst:Int)=(0:Int)/\(0:Int)=14/\bE i.x.fst=[]/\i.x.snd.snd=0)\/∃(o:Unit),True/\da ((0:Int))/\i.x.snd.snd=14/\(i.x.snd.snd=0->False)) (((0:Int)<=(0:Int)/\0<(dR i))/\∃(c:Int),zE (bS i) (bg 0) 0 1=ba [D.v (.int .u8 c)]/\cnd (decide ((dR i)<ar.wrap (sZ c))) (zKd i) ((0<=ar.wrap (gG c)/\ar.wrap (gG c)<=ar.wrap (sZ c)/\ar.wrap (sZ c)<=(dR i))/\∃(d:List UInt8),bE d=ap (ar.wrap (gG c)).toNat (ak (ar.wrap (sZ c)).toNat (bS i))/\d.length<=1099511627776/\∀(e:Unit),True->(zJt c i)/\∃(f:RN),(↑f.n:Int)=4/\aa (List UInt8×Bool) 1 RdU (f.l,f.b)=aa (List UInt8×Bool) 1 RdU (d,ax)/\(f.n<=8/\f.l.length<=1099511627776)/\∀(g:Unit),True->∃(h:List UInt8),bE h=ap (bg 2) (zCb c i)/\h.length<=1099511627776/\∀(j:Unit),True->cnd (av.wrap (qE f.got) !=bP h) ((∃(k:Unit),(↑i.k:Int)+(↑i.x.snd.fst:Int)=(0:Int)/\(0:Int)=14/\bE i.x.fst=[]/\i.x.snd.snd=0)\/∃(j:Unit),True/\da ((0:Int))/\i.x.snd.snd=14/\(i.x.snd.snd=0->False)) ((zJt c i)/\(0+(ap (bg 2) (zCb c i)).length)*(1:Nat)<=(140737488355328:Nat)/\((∃(k:Unit),(↑i.k:Int)+(↑i.x.snd.fst:Int)=ar.wrap (ar.wrap ((↑i.k:Int)+ar.wrap (gG c))+4)/\da ((0:Int))/\bE i.x.fst=[]++ap (bg 2) (zCb c i)/\i.x.snd.snd=0)\/∃(j:Unit),False))))))
def hU (a:Nat) (b:ScI):=(↑(fsB (ak a b.L)).length:Int)
def zFj (a:ScI) (b:Nat):Prop:=∃(c:Unit),(↑(fsB a.L).length:Int)=(hU b a)/\da ((0:Int))/\aj rcE a.L=aj rcE (ak b a.L)/\True
def yMc (i:ScI):Prop:=
 ∃(a:Nat),(hU a i)=0/\aj rcE (ak a i.L)=[]/\∃(b:Nat->Prop),∃(c:Nat->Nat),b a/\∀(d:Nat),b d->cnd (decide ((hU d i)<(↑(bE (fsB i.L++i.t)).length:Int))) (∃(e:OpI),bE e.b=bE (fsB i.L++i.t)/\(↑e.k:Int)=(hU d i)/\(e.k<=e.b.length/\e.b.length<=1099511627776)/\(∀(f:Unit),e.x.snd.snd=0->((aj rcE (ak d i.L)).length+1)*(24:Nat)<=(140737488355328:Nat)/\∃(g:Nat),(hU g i)=(↑e.k:Int)+(↑e.x.snd.fst:Int)/\aj rcE (ak g i.L)=aj rcE (ak d i.L)++[[D.ro 1 (bE e.x.fst)]]/\b g/\c g<c d/\True)/\∀(f:Unit),e.x.snd.snd≠0->cnd (e.x.snd.snd==0) (((aj rcE (ak d i.L)).length+1)*(24:Nat)<=(140737488355328:Nat)/\∃(g:Nat),(hU g i)=0/\aj rcE (ak g i.L)=aj rcE (ak d i.L)++[[D.ro 1 []]]/\b g/\c g<c d/\True) (cnd (e.x.snd.snd==10) (zFj i d) (∃(g:Unit),(↑(fsB i.L).length:Int)=(hU d i)/\(0:Int)=(14:Int)/\aj rcE i.L=aj rcE (ak d i.L)/\True))) (zFj i d)
def yUo (i:JoI):Prop:=
 ∃(a:Dk),DkR a=DkR i.d/\(a.safe<=a.b.length/\a.b.length<=1048576)/\∀(b:Unit),True->∃(c:ScI),bE (fsB c.L++c.t)=bE a.b/\((∀(d:List UInt8),d∈c.L->d.length<=255)/\(fF c.t).snd.snd=10/\(fsB c.L).length+c.t.length<=1048576)/\∀(d:Unit),True->cnd (decide ((↑(fsB c.L).length:Int)<(↑(bE a.b).length:Int))) ((0<=(↑(fsB c.L).length:Int)/\(↑(fsB c.L).length:Int)<=(↑(bE a.b).length:Int))/\∃(e:DbI),bE e.l=ak (↑(fsB c.L).length:Int).toNat (bE a.b)/\DkR e.d=DkR a/\e.l.length<=1048576/\∀(f:Unit),True->∃(g:Unit),da ((0:Int))/\DkR i.d'=DkR (Dk.mk e.l e.l.length)/\(↑i.L.length:Int)=(↑(aj rcE c.L).length:Int)/\aj rcE i.L=aj rcE c.L/\True) (∃(e:Unit),da ((0:Int))/\DkR i.d'=DkR a/\(↑i.L.length:Int)=(↑(aj rcE c.L).length:Int)/\aj rcE i.L=aj rcE c.L/\True)
def yVw (i:JaI):Prop:=
 ∃(i_1:List UInt8),bE i_1=bE i.l/\i_1.length<=255/\∀(o:Unit),True->∃(i_2:DbI),bE i_2.l=bE (yW i_1)/\aa Dk 2 DkU i_2.d=DkR i.d/\i_2.d.b.length+i_2.l.length<=1048576/\∀(o:Unit),True->∃(o:Unit),da ((0:Int))/\i.n+1=ar.wrap (i.n+1)/\aa Dk 2 DkU (Dk.mk (i.d.b++yW i.l) i.d.safe)=aa Dk 2 DkU (Dk.mk (i_2.d.b++i_2.l) i_2.d.safe)/\True
def yVc (i:JaI):Prop:=
 ∃(i_1:Dk),aa Dk 2 DkU i_1=DkR i.d/\(i_1.safe<=i_1.b.length/\i_1.b.length<=1048576)/\∀(o:Unit),True->∃(o:Unit),i.n=i.n/\aa Dk 2 DkU (Dk.mk i.d.b i.d.b.length)=aa Dk 2 DkU (Dk.mk i_1.b i_1.b.length)/\True
def sb (l:List UInt8):ByteArray:=⟨l.toArray⟩
@[reducible] def sV (l:List UInt8):V:= .d (.v (.string (sb l)))
def zKw (l:List UInt8):Nat×Nat:=br (sb l) 0
def lA:Nat->Nat->List UInt8->List (Nat×Nat)
 |0,_,_=>[]
 |k+1,p,l=>match l with
  |[]=>[]
  |_=>(p,(zKw l).1)::lA k (p+(zKw l).2) (l.drop (zKw l).2)
def gK (s:List UInt8) (p:Nat):List (Nat×Nat):=lA (s.length-p) p (s.drop p)
def wU (s:List UInt8):List Nat:=(gK s 0).map (·.2)
def countC:Con:=zR (List UInt8) (λs=>[sV s]) (λ_=>[]) (λs=>s.length<=1099511627776) (λs=>zA (wU s).length) (λ_=>[])
def yRd (s:List UInt8):List SAnn:=[{ι:=Nat×Nat,slots:=λx=>[(3,zA x.2),(5,.nm 0 0)],rows:=λx=>[.iter (sb s) x.1]}]
def l9 (r:Nat):Bool:=(decide (65<=r) && decide (r<=90))||(decide (913<=r) && decide (r<=937) && decide (r≠930))
def dV (s:List UInt8):Bool:=(wU s).all l9 && decide (s≠[]) && decide ((wU s).length<=4)
def symC:Con:=zR (List UInt8) (λs=>[sV s]) (λ_=>[]) (λs=>s.length<=1099511627776) (λs=>yT (dV s)) (λ_=>[])
def y0l (s:List UInt8):List SAnn:=[{ι:=Nat,slots:=λx=>[(7,.nm 0 0)],rows:=λx=>[.iter (sb s) x]}]
def iE (l:List Int):List (List D):=l.map λn=>[.v (.int .i64 n)]
@[reducible] def iV (l:List Int):V:=roV 1 (iE l)
structure Prd where
 code:List UInt8
 months:List Int
 tick:Int
 low:Int
 high:Int
 wide:Int
 rule:Int
 top:Int
 least:Int
 part:Int
 settle:List Int
 deriving DecidableEq
@[reducible] def Prd.cells (p:Prd):List V:=[sV p.code,iV p.months,zA p.tick,zA p.low,zA p.high,zA p.wide,zA p.rule,zA p.top,zA p.least,zA p.part,iV p.settle]
@[reducible] def mD (p:Prd):V:= .agg p.cells
@[reducible] def Prd.small (p:Prd):Prop:=p.code.length<=1099511627776/\p.months.length<=1099511627776/\p.settle.length<=1099511627776
def gM (l:List Int) (k:Nat):Bool:=decide (0<=l.getD k 0) && decide (l.getD k 0<=1199) && (decide (k=0)||decide (l.getD (k-1) 0<l.getD k 0))
def qJ (l:List Int):Bool:=(ao l.length).all (gM l) && decide (2<=l.length) && decide (l.length<=6)
def monthsC:Con:=zR (List Int) (λl=>[iV l]) (λ_=>[]) (λl=>l.length<=1099511627776) (λl=>yT (qJ l)) (λ_=>[])
def yLb:List SAnn:=[{ι:=Nat,slots:=λj=>[(7,zA j)],rows:=λ_=>[]}]
def s7 (l:List Int):Int:=l.tail.foldl min (l.headD 0)
def lW (l:List Int):Int:=l.tail.foldl max (l.headD 0)
def minC:Con:=zR (List Int) (λl=>[iV l]) (λ_=>[]) (λl=>0<l.length/\l.length<=1099511627776) (λl=>zA (s7 l)) (λ_=>[])
def maxC:Con:=zR (List Int) (λl=>[iV l]) (λ_=>[]) (λl=>0<l.length/\l.length<=1099511627776) (λl=>zA (lW l)) (λ_=>[])
def yYt (l:List Int):List SAnn:=[{ι:=Nat,slots:=λj=>[(3,zA (s7 (l.take j))),(4,zA j)],rows:=λ_=>[]}]
def yYv (l:List Int):List SAnn:=[{ι:=Nat,slots:=λj=>[(3,zA (lW (l.take j))),(4,zA j)],rows:=λ_=>[]}]
def rM (a:Nat×Nat) (b:List UInt8) (c:Nat×Nat->Prop) (d:Nat×Nat->Nat):Prop:=∃(e:Nat×Nat),(↑e.snd:Int)=ar.wrap ((↑a.snd:Int)+1)/\sb b=sb b/\e.fst=a.fst+(br (sb b) a.fst).snd/\c e/\d e<d a/\True
def yBa (s:List UInt8):Prop:=
 ∃(a:Nat×Nat),(↑a.snd:Int)=0/\sb s=sb s/\a.fst=0/\∃(b:Nat×Nat->Prop),∃(c:Nat×Nat->Nat),b a/\∀(d:Nat×Nat),b d->cnd (d.fst.blt (sb s).size) (rM d s b c) (∃(e:Unit),(↑(wU s).length:Int)=(↑d.snd:Int)/\True)
def zDf (a:List UInt8) (b:Nat) (c:Nat->Prop) (d:Nat->Nat):Prop:=∃(e:Nat),sb a=sb a/\e=b+(br (sb a) b).snd/\c e/\d e<d b/\True
def gS (a:List UInt8) (b:Nat):=(↑(br (sb a) b).fst:Int)
def yVs (s:List UInt8):Prop:=
 ∃(a:Nat),sb s=sb s/\a=0/\∃(b:Nat->Prop),∃(c:Nat->Nat),b a/\∀(d:Nat),b d->cnd (d.blt (sb s).size) (cnd (decide ((gS s d)>=65)) (cnd (decide ((gS s d)<=90)) (zDf s d b c) (cnd (decide ((gS s d)>=913)) (cnd (decide ((gS s d)<=937)) (cnd (!(gS s d) !=930) (∃(e:Unit),dV s=ax/\True) (zDf s d b c)) (∃(e:Unit),dV s=ax/\True)) (∃(e:Unit),dV s=ax/\True))) (cnd (decide ((gS s d)>=913)) (cnd (decide ((gS s d)<=937)) (cnd (!(gS s d) !=930) (∃(e:Unit),dV s=ax/\True) (zDf s d b c)) (∃(e:Unit),dV s=ax/\True)) (∃(e:Unit),dV s=ax/\True))) (cnd (!(sb s).toList==(ByteArray.mk #[]).toList) (∃(e:List UInt8),sb e=sb s/\e.length<=1099511627776/\∀(f:Unit),True->∃(g:Unit),dV s=decide ((↑(wU e).length:Int)<=4)/\True) (∃(e:Unit),dV s=ax/\True))
def dK (a:Nat) (b:Nat->Prop) (c:Nat->Nat):Prop:=∃(d:Nat),qW d a b c
def z4j (l:List Int):Prop:=
 ∃(a:Nat),(↑a:Int)=0/\∃(b:Nat->Prop),∃(c:Nat->Nat),b a/\∀(d:Nat),b d->cnd (decide ((↑d:Int)<(↑(iE l).length:Int))) ((0<=(↑d:Int)/\(↑d:Int)<(↑(iE l).length:Int))/\∃(e:Int),zE (iE l) (↑d:Int).toNat 0 1=ba [dI e]/\cnd (decide (e<0)) (∃(f:Unit),qJ l=ax/\True) (cnd (decide (e>1199)) (∃(f:Unit),qJ l=ax/\True) (cnd (decide ((↑d:Int)>0)) ((0<=ar.wrap ((↑d:Int)-1)/\ar.wrap ((↑d:Int)-1)<(↑(iE l).length:Int))/\∃(f:Int),zE (iE l) (ar.wrap ((↑d:Int)-1)).toNat 0 1=ba [dI f]/\cnd (decide (f>=e)) (∃(g:Unit),qJ l=ax/\True) (dK d b c)) (dK d b c)))) (cnd (decide ((↑(iE l).length:Int)>=2)) (∃(e:Unit),qJ l=decide ((↑(iE l).length:Int)<=6)/\True) (∃(e:Unit),qJ l=ax/\True))
def yXc (l:List Int):Prop:=
 cnd (decide ((↑(iE l).length:Int)<1)) False (((0:Int)<=(0:Int)/\0<(↑(iE l).length:Int))/\∃(a:Int),zE (iE l) (bg 0) 0 1=ba [dI a]/\∃(b:Nat),s7 (ak b l)=a/\(↑b:Int)=1/\∃(c:Nat->Prop),∃(d:Nat->Nat),c b/\∀(e:Nat),c e->cnd (decide ((↑e:Int)<(↑(iE l).length:Int))) ((0<=(↑e:Int)/\(↑e:Int)<(↑(iE l).length:Int))/\∃(f:Int),zE (iE l) (↑e:Int).toNat 0 1=ba [dI f]/\∃(g:Nat),s7 (ak g l)=min (s7 (ak e l)) f/\qW g e c d) (∃(f:Unit),s7 l=s7 (ak e l)/\True))
def yWe (l:List Int):Prop:=
 cnd (decide ((↑(iE l).length:Int)<1)) False (((0:Int)<=(0:Int)/\0<(↑(iE l).length:Int))/\∃(a:Int),zE (iE l) (bg 0) 0 1=ba [dI a]/\∃(b:Nat),lW (ak b l)=a/\(↑b:Int)=1/\∃(c:Nat->Prop),∃(d:Nat->Nat),c b/\∀(e:Nat),c e->cnd (decide ((↑e:Int)<(↑(iE l).length:Int))) ((0<=(↑e:Int)/\(↑e:Int)<(↑(iE l).length:Int))/\∃(f:Int),zE (iE l) (↑e:Int).toNat 0 1=ba [dI f]/\∃(g:Nat),(lW (ak g l)=if f>lW (ak e l)then f else lW (ak e l))/\qW g e c d) (∃(f:Unit),lW l=lW (ak e l)/\True))
@[simp] theorem zIz (s:List UInt8):(sb s).size=s.length:=by simp[sb,ByteArray.size]
def mZ (s:List UInt8):(sb s).toList=s:=by rw[ByteArray.toList_eq];rfl
def yTz (s:List UInt8) (p k:Nat):(sb s).get! (p+k)=(sb (s.drop p)).get! (0+k):=by
 simp only[sb,ByteArray.get!,y1x];simp only[List.getElem!_toArray,List.getElem!_eq_getElem?_getD,y3p]
def zHc (s:List UInt8) (p:Nat):br (sb s) p=zKw (s.drop p):=by
 have h (k:Nat):(decide (p+k<(sb s).size))=decide (0+k<(sb (s.drop p)).size):=by
  simp only[zIz,y1w];by_cases h:p+k<s.length
  ·rw[y1v h,y1v (by omega)]
  ·rw[y1s h,y1s (by omega)]
 unfold zKw br;simp only[yTz s p,h]
def bG (s:List UInt8) {p:Nat} (h:p<s.length):1<=(br (sb s) p).2/\p+(br (sb s) p).2<=s.length:=by
 unfold br;simp only[zIz,y1l,y2v];split
 ·exact⟨by simp,by simp;omega⟩
 split
 ·rename_i h1;split
  ·exact⟨by simp,by simp;omega⟩
  ·exact⟨by simp,by simp;omega⟩
 split
 ·rename_i h1;split
  ·exact⟨by simp,by simp;omega⟩
  ·exact⟨by simp,by simp;omega⟩
 split
 ·rename_i h1;split
  ·exact⟨by simp,by simp;omega⟩
  ·exact⟨by simp,by simp;omega⟩
 ·exact⟨by simp,by simp;omega⟩
def yOq {l:List UInt8} (h:l≠[]):1<=(zKw l).2/\(zKw l).2<=l.length:=by
 have:=bG l (p:=0) (by cases l<;>simp_all);rw[zKw];omega
def pB:∀(k:Nat) (p:Nat) (l:List UInt8),l.length<=k->lA k p l=lA l.length p l
 |0,p,l,h=>by
  have:l=[]:=y1z oM;subst this;rfl
 |k+1,p,[],h=>rfl
 |k+1,p,b::l,h=>by
  have hw:=yOq (l:=b::l) (by simp);have hl:((b::l).drop (zKw (b::l)).2).length<=l.length:=by rw[y1w,y1d];omega
  rw[y1d];simp only[lA];rw[pB k _ _ (by rw[y1d]at h;omega),pB l.length _ _ hl]
def uV {s:List UInt8} {p:Nat} (h:s.length<=p):gK s p=[]:=by
 rw[gK,show s.length-p=0 by omega];rfl
def h9 {s:List UInt8} {p:Nat} (h:p<s.length):gK s p=(p,(br (sb s) p).1)::gK s (p+(br (sb s) p).2):=by
 obtain⟨k,hk⟩:∃k,s.length-p=k+1:=⟨s.length-p-1,oM⟩
 have hw:=bG s h;obtain⟨b,l,hb⟩:∃b l,s.drop p=b::l:=by
  cases hd:s.drop p with
  |nil=>rw[List.drop_eq_nil_iff]at hd;omega
  |cons b l=>exact⟨b,l,rfl⟩
 have hlen:(b::l).length=s.length-p:=by rw[<- hb,y1w]
 rw[gK,hk,hb,zHc,hb,gK];rw[zHc,hb]at hw;simp only[lA];have e:(b::l).drop (zKw (b::l)).2=s.drop (p+(zKw (b::l)).2):=by rw[<- hb,y5a]
 rw[e,pB k _ _ (by rw[y1w];omega),y1w]
def zLz (s:List UInt8):∀(k p:Nat),s.length-p<=k->(gK s p).length<=s.length-p
 |0,p,h=>by rw[uV (by omega)];simp
 |k+1,p,h=>by
  by_cases hp:p<s.length
  ·have hw:=bG s hp;rw[h9 hp,y1d];have:=zLz s k (p+(br (sb s) p).2) oM;omega
  ·rw[uV (by omega)];simp
def zOu (s:List UInt8):(wU s).length<=s.length:=by
 rw[wU,y0z];have:=zLz s s.length 0 oM;omega
def yBh {a b:Nat} (h:Nat.blt a b=ax):b<=a:=by
 rcases y3q a b with h1|h1
 ·rw[show Nat.blt a b=ay by rw[y4a];exact h1]at h;cases h
 ·exact h1
def yEh:(ByteArray.mk #[]).toList=[]:=mZ []
def yPp (s:List UInt8) (h:countC.cnd s):yBa s:=by
 have h:s.length<=1099511627776:=h;have hr:=zOu s;unfold yBa rM;refine⟨(0,0),rfl,rfl,rfl,λx=>x.1<=s.length/\x.2+(gK s x.1).length=(wU s).length,λx=>s.length-x.1,⟨oM,by rw[wU,y0z];simp⟩,?_⟩;rintro⟨p,n⟩ ⟨h1,h2⟩;dsimp only at h1 h2 ⊢;refine Cv.cnd.mk (λhp=> ?_) (λhp=> ?_)
 ·have hp:p<s.length:=by simpa[y4a]using hp
  have hw:=bG s hp;rw[h9 hp,y1d]at h2;refine⟨(p+(br (sb s) p).2,n+1),?_,rfl,rfl,⟨hw.2,by(first|omega|(dsimp only;omega))⟩,by(first|omega|(dsimp only;omega)),trivial⟩;rw[w64 (by omega)];rfl
 ·have hp:s.length<=p:=by have:=yBh hp;simpa using this
  rw[uV hp]at h2;exact⟨(),by rw[<- h2];rfl,trivial⟩
def yGe:countC.ok Tryz.prog 151:=okw mixed gok0 0 (λ_=>[]) (λs=>yRd s) [] Tryz.func151 yPp
def yZe (s:List UInt8) (h:symC.cnd s):yVs s:=by
 have h:s.length<=1099511627776:=h;unfold yVs gS zDf;refine⟨0,rfl,rfl,λp=>p<=s.length/\(wU s).all l9=(gK s p).all λx=>l9 x.2,λp=>s.length-p,⟨oM,by rw[wU,List.all_map];rfl⟩,?_⟩;rintro p ⟨h1,h2⟩;refine Cv.cnd.mk (λhp=> ?_) (λhp=> ?_)
 ·have hp:p<s.length:=by simpa[y4a]using hp
  have hw:=bG s hp;rw[h9 hp,List.all_cons]at h2;generalize hc:(br (sb s) p).1=c at h2 ⊢;generalize hww:(br (sb s) p).2=w at h2 hw ⊢;dsimp only at h2;have bad:l9 c=ax->∃(o:Unit),dV s=ax/\True:=λe=>⟨(),by rw[dV,h2,e];rfl,trivial⟩
  have good:l9 c=ay->∃i':Nat,sb s=sb s/\i'=p+w/\(i'<=s.length/\(wU s).all l9=(gK s i').all λx=>l9 x.2)/\s.length-i'<s.length-p/\True:=λe=>⟨p+w,rfl,rfl,⟨hw.2,by rw[h2,e];rfl⟩,oM,trivial⟩
  refine zH (λc1=>zH (λc2=> ?_) (λc2=>zH (λc3=>zH (λc4=>Cv.cnd.mk (λc5=> ?_) (λc5=> ?_)) (λc4=> ?_)) (λc3=> ?_))) (λc1=>zH (λc3=>zH (λc4=>Cv.cnd.mk (λc5=> ?_) (λc5=> ?_)) (λc4=> ?_)) (λc3=> ?_))
  all_goals first|(refine good ?_;simp[l9]at*;omega)|(refine bad ?_;simp[l9]at*;omega)
 ·have hp:s.length<=p:=by have:=yBh hp;simpa using this
  rw[uV hp]at h2;have h2:(wU s).all l9=ay:=h2;refine Cv.cnd.mk (λe=>⟨s,rfl,h,λ_ _=>⟨(),?_,trivial⟩⟩) (λe=>⟨(),?_,trivial⟩)
  ·rw[mZ,yEh]at e;have:s≠[]:=by simpa using e
   rw[dV,h2,y1v this];simp only[y4b];congr 1;simp only[eq_iff_iff];omega
  ·have:s=[]:=by
    rw[mZ,yEh]at e;simpa using e
   rw[dV,this];rfl
def ySb:symC.ok Tryz.prog 121:=okw mixed (gokc yGe gok0) 0 (λ_=>[]) (λs=>y0l s) [] Tryz.func121 yZe
@[simp] theorem y3 (l:List Int):(iE l).length=l.length:=by simp[iE]
def elI {l:List Int} {k:Nat} {n:Int} (h:l[k]? =ba n):zE (iE l) k 0 1=ba [D.v (.int .i64 n)]:=by
 simp[zE,iE,h];rfl
def yE {α:Type} {l:List α} {i:Nat} (h:i<l.length):∃x,l[i]? =ba x:=⟨l[i],y2h h⟩
def z6z {n k:Nat} {f:Nat->Bool} (hk:k<n) (h:f k=ax):(ao n).all f=ax:=by
 cases hh:(ao n).all f
 ·rfl
 ·rw[y4h]at hh;rw[hh k (by simpa using hk)]at h;cases h
def yFd {n:Nat} {f:Nat->Bool} (h:∀k<n,f k=ay):(ao n).all f=ay:=by
 rw[y4h];intro k hk;exact h k (by simpa using hk)
def yKq (l:List Int) (h:monthsC.cnd l):z4j l:=by
 have h:l.length<=1099511627776:=h;unfold z4j dK qW dI;simp only[y3];refine⟨0,rfl,λj=>j<=l.length/\∀k<j,gM l k=ay,λj=>l.length-j,⟨oM,λk hk=>by omega⟩,?_⟩;rintro j ⟨h1,h2⟩;have bad:j<l.length->gM l j=ax->∃(o:Unit),qJ l=ax/\True:=λhj e=>⟨(),by rw[qJ,z6z hj e];rfl,trivial⟩
 have good:j<l.length->gM l j=ay->∃i':Nat,(i':Int)=ar.wrap ((j:Int)+1)/\(i'<=l.length/\∀k<i',gM l k=ay)/\l.length-i'<l.length-j/\True:=λhj e=>⟨j+1,by rw[w64 (by omega)];rfl,⟨oM,λk hk=>by
  rcases y3q k j with hk'|hk'
  ·exact h2 k hk'
  ·obtain rfl:k=j:=by omega
   exact e⟩,oM,trivial⟩
 refine zH (λhj=> ?_) (λhj=> ?_)
 ·have hj:j<l.length:=by omega
  obtain⟨n,hn⟩:=yE hj;have hg:l.getD j 0=n:=by simp[hn]
  refine⟨⟨oM,oM⟩,n,elI hn,zH (λc1=>bad hj (by simp[gM,hn];omega)) (λc1=>zH (λc2=>bad hj (by simp[gM,hn];omega)) (λc2=>zH (λc3=> ?_) (λc3=>good hj ?_)))⟩
  ·have e:ar.wrap ((j:Int)-1)=((j-1:Nat):Int):=by rw[w64 (by omega)];omega
   obtain⟨m,hm⟩:=yE (l:=l) (i:=j-1) oM;rw[e];refine⟨⟨oM,oM⟩,m,elI hm,zH (λc4=>bad hj ?_) (λc4=>good hj ?_)⟩
   ·simp[gM,hn,hm];omega
   ·simp[gM,hn,hm];omega
  ·simp[gM,hn];omega
 ·have e:(ao l.length).all (gM l)=ay:=yFd λk hk=>h2 k oM
  refine zH (λc=>⟨(),?_,trivial⟩) (λc=>⟨(),?_,trivial⟩)
  ·rw[qJ,e,y1v (show 2<=l.length by omega)];simp;omega
  ·rw[qJ,y1s (show ¬2<=l.length by omega)];simp
def z7m:monthsC.ok Tryz.prog 122:=okw mixed gok0 0 (λ_=>[]) (λ_=>yLb) [] Tryz.func122 yKq
def zFy {f:Int->Int->Int} {l:List Int} {j:Nat} {n:Int} (h:l[j+1]? =ba n):(l.take (j+2)).tail.foldl f ((l.take (j+2)).headD 0)=f ((l.take (j+1)).tail.foldl f ((l.take (j+1)).headD 0)) n:=by
 cases l with
 |nil=>simp at h
 |cons a l=>
  simp only[y2w]at h;simp only[y2j,List.tail_cons,List.headD_cons];rw[y2e,h,y5q];rfl
def zUv {l:List Int} {n:Int} (h:l[0]? =ba n) (f:Int->Int->Int):(l.take 1).tail.foldl f ((l.take 1).headD 0)=n:=by
 cases l with
 |nil=>simp at h
 |cons a l=>simpa using h
def yYu (l:List Int) (h:minC.cnd l):yXc l:=by
 obtain⟨h0,h⟩:0<l.length/\l.length<=1099511627776:=h;unfold yXc qW dI;simp only[y3];obtain⟨n,hn⟩:=yE h0;refine zH (λc=>by omega) (λc=>⟨⟨oM,oM⟩,n,elI hn,1,zUv hn min,rfl,λj=>1<=j/\j<=l.length,λj=>l.length-j,⟨oM,oM⟩,?_⟩);rintro j ⟨h1,h2⟩;refine zH (λhj=> ?_) (λhj=>⟨(),?_,trivial⟩)
 ·obtain⟨m,hm⟩:=yE (l:=l) (i:=j) oM;refine⟨⟨oM,oM⟩,m,elI hm,j+1,?_,?_,⟨oM,oM⟩,by(first|omega|(dsimp only;omega)),trivial⟩
  ·obtain⟨k,rfl⟩:∃k,j=k+1:=⟨j-1,oM⟩
   first
    |(rw[s7,zFy hm,<- s7];done)
    |(rw[s7,zFy hm,<- s7];generalize s7 (l.take (k+1))=x;split<;>omega)
  ·rw[w64 (by omega)];rfl
 ·rw[y1k (by omega)]
def yQo:minC.ok Tryz.prog 124:=okw mixed gok0 0 (λ_=>[]) (λl=>yYt l) [] Tryz.func124 yYu
def yZv (l:List Int) (h:maxC.cnd l):yWe l:=by
 obtain⟨h0,h⟩:0<l.length/\l.length<=1099511627776:=h;unfold yWe qW dI;simp only[y3];obtain⟨n,hn⟩:=yE h0;refine zH (λc=>by omega) (λc=>⟨⟨oM,oM⟩,n,elI hn,1,zUv hn max,rfl,λj=>1<=j/\j<=l.length,λj=>l.length-j,⟨oM,oM⟩,?_⟩);rintro j ⟨h1,h2⟩;refine zH (λhj=> ?_) (λhj=>⟨(),?_,trivial⟩)
 ·obtain⟨m,hm⟩:=yE (l:=l) (i:=j) oM;refine⟨⟨oM,oM⟩,m,elI hm,j+1,?_,?_,⟨oM,oM⟩,by(first|omega|(dsimp only;omega)),trivial⟩
  ·obtain⟨k,rfl⟩:∃k,j=k+1:=⟨j-1,oM⟩
   rw[lW,zFy hm,<- lW];generalize lW (l.take (k+1))=x;split<;>omega
  ·rw[w64 (by omega)];rfl
 ·rw[y1k (by omega)]
def yTe:maxC.ok Tryz.prog 125:=okw mixed gok0 0 (λ_=>[]) (λl=>yYv l) [] Tryz.func125 yZv
@[reducible] def Prd.row (p:Prd):AObj:= .cells p.cells 25
structure z1w where
 p:Prd
 n:Int
structure zRk where
 p:Prd
 l:List Int
def dM (t n:Int):Bool:=n.tmod t !=0
def offC:Con:=zR z1w (λi=>[zA i.n,.nm 0 0]) (λi=>[i.p.row]) (λi=>1<=i.p.tick) (λi=>yT (dM i.p.tick i.n)) (λi=>[i.p.row])
@[reducible] def yVo:V:= .fn 152 [] [.nm 0 0]
def zHi (k:Option Nat):Int:=match k with
 |some k=>k
 |none=> -1
def idxC:Con:=zR zRk (λi=>[iV i.l,yVo]) (λi=>[i.p.row]) (λi=>1<=i.p.tick/\i.l.length<=1099511627776) (λi=>zA (zHi (i.l.findIdx? (dM i.p.tick)))) (λi=>[i.p.row])
def yYs (i:zRk):List SAnn:=[{ι:=Nat,slots:=λj=>[(8,zA j)],rows:=λ_=>[]}]
def containsC:Con:=zR zRk (λi=>[iV i.l,yVo]) (λi=>[i.p.row]) (λi=>1<=i.p.tick/\i.l.length<=1099511627776) (λi=>yT (i.l.any (dM i.p.tick))) (λi=>[i.p.row])
def jW (p:Prd):Bool:=decide (1<=p.tick) && decide (p.tick<=1000) && !dM p.tick p.low && !dM p.tick p.high && !dM p.tick p.wide && !p.settle.any (dM p.tick)
def ticksC:Con:=zR Prd (λp=>[mD p]) (λ_=>[]) Prd.small (λp=>yT (jW p)) (λ_=>[])
def fY (p:Prd):Bool:=decide (p.low< -1000000)||decide (p.low>=p.high)||decide (p.high>1000000)||decide (p.wide<0)||decide (p.wide>p.high-p.low)
def vM (p:Prd):Bool:=decide (p.settle.length≠p.months.length)||decide (s7 p.settle<p.low)||decide (lW p.settle>p.high)
def dZ (p:Prd):Bool:=decide (p.rule<1)||decide (p.rule>3)
def gU (p:Prd):Bool:=decide (p.top<0)||decide (p.top>1000000)||decide (p.least<1)||decide (p.least>1000)||decide (p.part<0)||decide (p.part>100)
def Prd.check (p:Prd):Int:=
 if !dV p.code then 12 else if !qJ p.months then 1 else if !jW p then 22 else if fY p then 23 else if vM p then 1 else if dZ p then 31 else if gU p then 24 else 0
def checkC:Con:=zR Prd (λp=>[mD p]) (λ_=>[]) Prd.small (λp=>zA p.check) (λ_=>[])
def Prd.count (p:Prd):Nat:=if p.check=0 then p.months.length+p.months.length*(p.months.length-1) / 2 else 0
def pcountC:Con:=zR Prd (λp=>[mD p]) (λ_=>[]) Prd.small (λp=>zA p.count) (λ_=>[])
structure zAo where
 p:Prd
 n:Int
def y8 (n:Nat):Nat->Nat
 |0=>n
 |k+1=>y8 n k+(n-1-k)
def kU (n inst:Nat):Nat->Nat->Int×Int×Bool
 |0,_=>(0,0,ax)
 |k+1,m=>if inst<y8 n m+(n-1-m)then(m,m+1+(inst-y8 n m:Nat),ay)else kU n inst k (m+1)
def Prd.legs (p:Prd) (i:Int):Int×Int×Bool:=
 if i<0\/(p.count:Int)<=i then(0,0,ax)else if i<p.months.length then(i,i,ax)else kU p.months.length i.toNat p.months.length 0
def legsC:Con:=zR zAo (λi=>[mD i.p,zA i.n]) (λ_=>[]) (λi=>i.p.small) (λi=> .tup [zA (i.p.legs i.n).1,zA (i.p.legs i.n).2.1,yT (i.p.legs i.n).2.2]) (λ_=>[])
structure rZ where
 p:Prd
 a:Int
 b:Int
def Prd.spread (p:Prd) (a b:Int):Int×Bool:=
 if p.check≠0\/a<0\/b<=a\/(p.months.length:Int)<=b then(0,ax)else((y8 p.months.length a.toNat:Int)+b-a-1,ay)
def spreadC:Con:=zR rZ (λi=>[mD i.p,zA i.a,zA i.b]) (λ_=>[]) (λi=>i.p.small) (λi=> .tup [zA (i.p.spread i.a i.b).1,yT (i.p.spread i.a i.b).2]) (λ_=>[])
def Prd.price (p:Prd) (i n:Int):Int:=
 if p.count=0 then 1 else if i<0\/(p.count:Int)<=i then 20 else if dM p.tick n then 22 else
 if n<(if(p.months.length:Int)<=i then-p.wide else p.low)\/(if(p.months.length:Int)<=i then p.wide else p.high)<n then 23 else 0
def priceC:Con:=zR rZ (λi=>[mD i.p,zA i.a,zA i.b]) (λ_=>[]) (λi=>i.p.small) (λi=>zA (i.p.price i.a i.b)) (λ_=>[])
structure I2 where
 x:Int
 y:Int
@[reducible] def y9 (n:Int):Prop:= -9223372036854775808<=n/\n<=9223372036854775807
def uB (x y:Int):Int×Bool:=if y9 (x+y)then(x+y,ay)else(0,ax)
def uH (x y:Int):Int×Bool:=if y9 (x-y)then(x-y,ay)else(0,ax)
def addC:Con:=zR I2 (λi=>[zA i.x,zA i.y]) (λ_=>[]) (λi=>y9 i.x/\y9 i.y) (λi=> .tup [zA (uB i.x i.y).1,yT (uB i.x i.y).2]) (λ_=>[])
def subC:Con:=zR I2 (λi=>[zA i.x,zA i.y]) (λ_=>[]) (λi=>y9 i.x/\y9 i.y) (λi=> .tup [zA (uH i.x i.y).1,yT (uH i.x i.y).2]) (λ_=>[])
def yXx (i:zAo):List SAnn:=[{ι:=Nat,slots:=λm=>[(8,zA (y8 i.p.months.length m)),(33,zA m)],rows:=λ_=>[]}]
def yJu (i:rZ):List SAnn:=[{ι:=Nat,slots:=λm=>[(9,zA (y8 i.p.months.length m)),(33,zA m)],rows:=λ_=>[]}]
def yVd (i:z1w):Prop:=
 ar=ar/\i.p.tick≠0/\∃(a:Unit),dM i.p.tick i.n=(i.n.tmod i.p.tick !=0)/\da (sb i.p.code)/\da (iE i.p.months)/\da i.p.tick/\da i.p.low/\da i.p.high/\da i.p.wide/\da i.p.rule/\da i.p.top/\da i.p.least/\da i.p.part/\da (iE i.p.settle)/\True
def yYq (i:zRk):Prop:=
 ∃(a:Nat),(↑a:Int)=0/\∃(b:Nat->Prop),∃(c:Nat->Nat),b a/\∀(d:Nat),b d->cnd (decide ((↑d:Int)<(↑(iE i.l).length:Int))) ((0<=(↑d:Int)/\(↑d:Int)<(↑(iE i.l).length:Int))/\∃(e:Int),zE (iE i.l) (↑d:Int).toNat 0 1=ba [dI e]/\∃(f:z1w),f.n=e/\sb f.p.code=sb i.p.code/\iE f.p.months=iE i.p.months/\f.p.tick=i.p.tick/\f.p.low=i.p.low/\f.p.high=i.p.high/\f.p.wide=i.p.wide/\f.p.rule=i.p.rule/\f.p.top=i.p.top/\f.p.least=i.p.least/\f.p.part=i.p.part/\iE f.p.settle=iE i.p.settle/\1<=f.p.tick/\∀(g:Unit),True->cnd (dM f.p.tick f.n) (∃(h:Unit),zHi (List.findIdx? (dM i.p.tick) i.l)=(↑d:Int)/\sb i.p.code=sb f.p.code/\iE i.p.months=iE f.p.months/\i.p.tick=f.p.tick/\i.p.low=f.p.low/\i.p.high=f.p.high/\i.p.wide=f.p.wide/\i.p.rule=f.p.rule/\i.p.top=f.p.top/\i.p.least=f.p.least/\i.p.part=f.p.part/\iE i.p.settle=iE f.p.settle/\True) (∃(h:Nat),(↑h:Int)=ar.wrap ((↑d:Int)+1)/\b h/\c h<c d/\ac [V.d (D.v (bt (sb f.p.code))),V.d (D.ro 1 (iE f.p.months)),V.d (dI f.p.tick),V.d (dI f.p.low),V.d (dI f.p.high),V.d (dI f.p.wide),V.d (dI f.p.rule),V.d (dI f.p.top),V.d (dI f.p.least),V.d (dI f.p.part),V.d (D.ro 1 (iE f.p.settle))] (25:bv)=i.p.row)) (∃(e:Unit),zHi (List.findIdx? (dM i.p.tick) i.l)=(-1)/\da (sb i.p.code)/\da (iE i.p.months)/\da i.p.tick/\da i.p.low/\da i.p.high/\da i.p.wide/\da i.p.rule/\da i.p.top/\da i.p.least/\da i.p.part/\da (iE i.p.settle)/\True)
def zPh (i:zRk):Prop:=
 ∃(a:zRk),iE a.l=iE i.l/\sb a.p.code=sb i.p.code/\iE a.p.months=iE i.p.months/\a.p.tick=i.p.tick/\a.p.low=i.p.low/\a.p.high=i.p.high/\a.p.wide=i.p.wide/\a.p.rule=i.p.rule/\a.p.top=i.p.top/\a.p.least=i.p.least/\a.p.part=i.p.part/\iE a.p.settle=iE i.p.settle/\(1<=a.p.tick/\a.l.length<=1099511627776)/\∀(b:Unit),True->∃(c:Unit),i.l.any (dM i.p.tick)=decide (zHi (List.findIdx? (dM a.p.tick) a.l)>=0)/\sb i.p.code=sb a.p.code/\iE i.p.months=iE a.p.months/\i.p.tick=a.p.tick/\i.p.low=a.p.low/\i.p.high=a.p.high/\i.p.wide=a.p.wide/\i.p.rule=a.p.rule/\i.p.top=a.p.top/\i.p.least=a.p.least/\i.p.part=a.p.part/\iE i.p.settle=iE a.p.settle/\True
def yFp (p:Prd):Prop:=
 cnd (decide (p.tick<1)) (∃(a:Unit),jW p=ax/\True) (cnd (decide (p.tick>1000)) (∃(a:Unit),jW p=ax/\True) (∃(a:z1w),a.n=p.low/\sb a.p.code=sb p.code/\iE a.p.months=iE p.months/\a.p.tick=p.tick/\a.p.low=p.low/\a.p.high=p.high/\a.p.wide=p.wide/\a.p.rule=p.rule/\a.p.top=p.top/\a.p.least=p.least/\a.p.part=p.part/\iE a.p.settle=iE p.settle/\1<=a.p.tick/\∀(b:Unit),True->cnd (!dM a.p.tick a.n) (∃(c:z1w),c.n=a.p.high/\sb c.p.code=sb a.p.code/\iE c.p.months=iE a.p.months/\c.p.tick=a.p.tick/\c.p.low=a.p.low/\c.p.high=a.p.high/\c.p.wide=a.p.wide/\c.p.rule=a.p.rule/\c.p.top=a.p.top/\c.p.least=a.p.least/\c.p.part=a.p.part/\iE c.p.settle=iE a.p.settle/\1<=c.p.tick/\∀(d:Unit),True->cnd (!dM c.p.tick c.n) (∃(e:z1w),e.n=c.p.wide/\sb e.p.code=sb c.p.code/\iE e.p.months=iE c.p.months/\e.p.tick=c.p.tick/\e.p.low=c.p.low/\e.p.high=c.p.high/\e.p.wide=c.p.wide/\e.p.rule=c.p.rule/\e.p.top=c.p.top/\e.p.least=c.p.least/\e.p.part=c.p.part/\iE e.p.settle=iE c.p.settle/\1<=e.p.tick/\∀(f:Unit),True->cnd (!dM e.p.tick e.n) (∃(g:zRk),iE g.l=iE e.p.settle/\sb g.p.code=sb e.p.code/\iE g.p.months=iE e.p.months/\g.p.tick=e.p.tick/\g.p.low=e.p.low/\g.p.high=e.p.high/\g.p.wide=e.p.wide/\g.p.rule=e.p.rule/\g.p.top=e.p.top/\g.p.least=e.p.least/\g.p.part=e.p.part/\iE g.p.settle=iE e.p.settle/\(1<=g.p.tick/\g.l.length<=1099511627776)/\∀(h:Unit),True->∃(j:Unit),jW p=!g.l.any (dM g.p.tick)/\True) (∃(g:Unit),jW p=ax/\True)) (∃(e:Unit),jW p=ax/\True)) (∃(c:Unit),jW p=ax/\True)))
def yC (a:Prd):Prop:=a.code.length<=1099511627776/\a.months.length<=1099511627776/\a.settle.length<=1099511627776
def yGl (p:Prd):Prop:=
 ∃(a:List UInt8),sb a=sb p.code/\a.length<=1099511627776/\∀(b:Unit),True->cnd (!dV a) (∃(c:Unit),p.check=12/\True) (∃(c:List Int),iE c=iE p.months/\c.length<=1099511627776/\∀(d:Unit),True->cnd (!qJ c) (∃(e:Unit),p.check=1/\True) (∃(e:Prd),sb e.code=sb p.code/\iE e.months=iE p.months/\e.tick=p.tick/\e.low=p.low/\e.high=p.high/\e.wide=p.wide/\e.rule=p.rule/\e.top=p.top/\e.least=p.least/\e.part=p.part/\iE e.settle=iE p.settle/\(yC e)/\∀(f:Unit),True->cnd (!jW e) (∃(g:Unit),p.check=22/\True) (cnd (decide (p.low<(-1000000))) (∃(g:Unit),p.check=23/\True) (cnd (decide (p.low>=p.high)) (∃(g:Unit),p.check=23/\True) (cnd (decide (p.high>1000000)) (∃(g:Unit),p.check=23/\True) (cnd (decide (p.wide<0)) (∃(g:Unit),p.check=23/\True) (cnd (decide (p.wide>ar.wrap (p.high-p.low))) (∃(g:Unit),p.check=23/\True) (cnd ((↑(iE p.settle).length:Int) !=(↑(iE p.months).length:Int)) (∃(g:Unit),p.check=1/\True) (∃(g:List Int),iE g=iE p.settle/\(0<g.length/\g.length<=1099511627776)/\∀(h:Unit),True->da p.low/\cnd (decide (s7 g<p.low)) (∃(j:Unit),p.check=1/\True) (∃(j:List Int),iE j=iE p.settle/\(0<j.length/\j.length<=1099511627776)/\∀(k:Unit),True->da p.high/\cnd (decide (lW j>p.high)) (∃(l:Unit),p.check=1/\True) (cnd (decide (p.rule<1)) (∃(l:Unit),p.check=31/\True) (cnd (decide (p.rule>3)) (∃(l:Unit),p.check=31/\True) (cnd (decide (p.top<0)) (∃(l:Unit),p.check=24/\True) (cnd (decide (p.top>1000000)) (∃(l:Unit),p.check=24/\True) (cnd (decide (p.least<1)) (∃(l:Unit),p.check=24/\True) (cnd (decide (p.least>1000)) (∃(l:Unit),p.check=24/\True) (cnd (decide (p.part<0)) (∃(l:Unit),p.check=24/\True) (cnd (decide (p.part>100)) (∃(l:Unit),p.check=24/\True) (∃(l:Unit),p.check=0/\True)))))))))))))))))))
def z3t (p:Prd):Prop:=
 ∃(a:Prd),sb a.code=sb p.code/\iE a.months=iE p.months/\a.tick=p.tick/\a.low=p.low/\a.high=p.high/\a.wide=p.wide/\a.rule=p.rule/\a.top=p.top/\a.least=p.least/\a.part=p.part/\iE a.settle=iE p.settle/\(yC a)/\∀(b:Unit),True->cnd (a.check !=0) (∃(c:Unit),(↑p.count:Int)=0/\True) (ar=ar/\(2:Int)≠(0:Int)/\∃(c:Unit),(↑p.count:Int)=ar.wrap ((↑(iE p.months).length:Int)+ar.wrap ((ar.wrap ((↑(iE p.months).length:Int)*ar.wrap ((↑(iE p.months).length:Int)-1))).tdiv 2))/\True)
def zFg (a:zAo) (b:Nat):=((↑(y8 a.p.months.length b):Int)+ar.wrap (ar.wrap ((↑(iE a.p.months).length:Int)-1)-(↑b:Int)))
def eJ (a:zAo):Prop:=∃(b:Unit),(a.p.legs a.n).fst=0/\(a.p.legs a.n).snd.fst=0/\(a.p.legs a.n).snd.snd=ax/\True
def yNa (i:zAo):Prop:=
 ∃(a:Prd),sb a.code=sb i.p.code/\iE a.months=iE i.p.months/\a.tick=i.p.tick/\a.low=i.p.low/\a.high=i.p.high/\a.wide=i.p.wide/\a.rule=i.p.rule/\a.top=i.p.top/\a.least=i.p.least/\a.part=i.p.part/\iE a.settle=iE i.p.settle/\(yC a)/\∀(b:Unit),True->cnd (decide (i.n<0)) (eJ i) (cnd (decide (i.n>=(↑a.count:Int))) (eJ i) (cnd (decide (i.n<(↑(iE i.p.months).length:Int))) (∃(c:Unit),(i.p.legs i.n).fst=i.n/\(i.p.legs i.n).snd.fst=i.n/\(i.p.legs i.n).snd.snd=ax/\True) (∃(c:Nat),(↑(y8 i.p.months.length c):Int)=(↑(iE i.p.months).length:Int)/\(↑c:Int)=0/\∃(d:Nat->Prop),∃(e:Nat->Nat),d c/\∀(f:Nat),d f->cnd (decide ((↑f:Int)<(↑(iE i.p.months).length:Int))) (cnd (decide (i.n<ar.wrap (zFg i f))) (∃(g:Unit),(i.p.legs i.n).fst=(↑f:Int)/\(i.p.legs i.n).snd.fst=ar.wrap (ar.wrap (ar.wrap ((↑f:Int)+1)+i.n)-(↑(y8 i.p.months.length f):Int))/\(i.p.legs i.n).snd.snd=ay/\True) (∃(g:Nat),(↑(y8 i.p.months.length g):Int)=ar.wrap (zFg i f)/\(↑g:Int)=ar.wrap ((↑f:Int)+1)/\d g/\e g<e f/\da (ac [V.d (D.v (bt (sb i.p.code))),V.own 0,V.d (dI i.p.tick),V.d (dI i.p.low),V.d (dI i.p.high),V.d (dI i.p.wide),V.d (dI i.p.rule),V.d (dI i.p.top),V.d (dI i.p.least),V.d (dI i.p.part),V.own 1] 25)/\da (ab 1 (iE i.p.settle))/\da (ab 1 (iE i.p.months)))) (eJ i))))
def dJ (a:rZ):Prop:=∃(b:Unit),(a.p.spread a.a a.b).fst=0/\(a.p.spread a.a a.b).snd=ax/\True
def z4q (i:rZ):Prop:=
 ∃(a:Prd),sb a.code=sb i.p.code/\iE a.months=iE i.p.months/\a.tick=i.p.tick/\a.low=i.p.low/\a.high=i.p.high/\a.wide=i.p.wide/\a.rule=i.p.rule/\a.top=i.p.top/\a.least=i.p.least/\a.part=i.p.part/\iE a.settle=iE i.p.settle/\(yC a)/\∀(b:Unit),True->cnd (a.check !=0) (dJ i) (cnd (decide (i.a<0)) (dJ i) (cnd (decide (i.a>=i.b)) (dJ i) (cnd (decide (i.b>=(↑(iE i.p.months).length:Int))) (dJ i) (∃(c:Nat),(↑(y8 i.p.months.length c):Int)=(↑(iE i.p.months).length:Int)/\(↑c:Int)=0/\∃(d:Nat->Prop),∃(e:Nat->Nat),d c/\∀(f:Nat),d f->cnd (decide ((↑f:Int)<i.a)) (∃(g:Nat),(↑(y8 i.p.months.length g):Int)=ar.wrap ((↑(y8 i.p.months.length f):Int)+ar.wrap (ar.wrap ((↑(iE i.p.months).length:Int)-1)-(↑f:Int)))/\(↑g:Int)=ar.wrap ((↑f:Int)+1)/\d g/\e g<e f/\da (ac [V.d (D.v (bt (sb i.p.code))),V.own 0,V.d (dI i.p.tick),V.d (dI i.p.low),V.d (dI i.p.high),V.d (dI i.p.wide),V.d (dI i.p.rule),V.d (dI i.p.top),V.d (dI i.p.least),V.d (dI i.p.part),V.own 1] 25)/\da (ab 1 (iE i.p.settle))/\da (ab 1 (iE i.p.months))) (∃(g:Unit),(i.p.spread i.a i.b).fst=ar.wrap (ar.wrap (ar.wrap ((↑(y8 i.p.months.length f):Int)+i.b)-i.a)-1)/\(i.p.spread i.a i.b).snd=ay/\True)))))
def yEf (i:rZ):Prop:=
 ∃(a:Prd),sb a.code=sb i.p.code/\iE a.months=iE i.p.months/\a.tick=i.p.tick/\a.low=i.p.low/\a.high=i.p.high/\a.wide=i.p.wide/\a.rule=i.p.rule/\a.top=i.p.top/\a.least=i.p.least/\a.part=i.p.part/\iE a.settle=iE i.p.settle/\(yC a)/\∀(b:Unit),True->cnd ((↑a.count:Int)==0) (∃(c:Unit),i.p.price i.a i.b=1/\True) (cnd (decide (i.a<0)) (∃(c:Unit),i.p.price i.a i.b=20/\True) (cnd (decide (i.a>=(↑a.count:Int))) (∃(c:Unit),i.p.price i.a i.b=20/\True) (ar=ar/\i.p.tick≠0/\cnd (i.b.tmod i.p.tick !=0) (∃(c:Unit),i.p.price i.a i.b=22/\True) (cnd (decide (i.a>=(↑(iE i.p.months).length:Int))) (cnd (decide (i.b<ar.wrap (0-i.p.wide))) (∃(c:Unit),i.p.price i.a i.b=23/\True) (cnd (decide (i.b>i.p.wide)) (∃(c:Unit),i.p.price i.a i.b=23/\True) (∃(c:Unit),i.p.price i.a i.b=0/\True))) (cnd (decide (i.b<i.p.low)) (∃(c:Unit),i.p.price i.a i.b=23/\True) (cnd (decide (i.b>i.p.high)) (∃(c:Unit),i.p.price i.a i.b=23/\True) (∃(c:Unit),i.p.price i.a i.b=0/\True)))))))
def zMg (a:I2):Prop:=∃(b:Unit),(uB a.x a.y).fst=ar.wrap (a.x+a.y)/\(uB a.x a.y).snd=ay/\True
def yWw (i:I2):Prop:=
 cnd (decide (i.x<0)==decide (i.y<0)) (cnd (!decide (ar.wrap (i.x+i.y)<0)==decide (i.x<0)) (∃(a:Unit),(uB i.x i.y).fst=0/\(uB i.x i.y).snd=ax/\True) (zMg i)) (zMg i)
def zMx (a:I2):Prop:=∃(b:Unit),(uH a.x a.y).fst=ar.wrap (a.x-a.y)/\(uH a.x a.y).snd=ay/\True
def yXf (i:I2):Prop:=
 cnd (!decide (i.x<0)==decide (i.y<0)) (cnd (!decide (ar.wrap (i.x-i.y)<0)==decide (i.x<0)) (∃(a:Unit),(uH i.x i.y).fst=0/\(uH i.x i.y).snd=ax/\True) (zMx i)) (zMx i)
def y0b (i:z1w) (h:offC.cnd i):yVd i:=by
 have h:1<=i.p.tick:=h;unfold yVd;exact kp
def yBf:offC.ok Tryz.prog 152:=okw mixed gok0 0 (λ_=>[]) (λ_=>[]) [] Tryz.func152 y0b
def zFw {α:Type} {f:α->Bool} {l:List α} (h:∀(k:Nat) (x:α),l[k]? =ba x->f x=ax):l.findIdx? f=bc:=by
 rw[y5l];intro x hx;obtain⟨k,hk⟩:=List.getElem?_of_mem hx;exact h k x hk
def zFe {α:Type} {f:α->Bool} {l:List α} {j:Nat} {x:α} (h1:l[j]? =ba x) (h2:f x=ay) (h:∀k<j,∀x:α,l[k]? =ba x->f x=ax):l.findIdx? f=ba j:=by
 rw[y4e];obtain⟨hj,rfl⟩:=y1c.1 h1;exact⟨hj,h2,λk hk=>by rw[h k hk _ (y2h (by omega))];simp⟩
def yYr (i:zRk) (h:idxC.cnd i):yYq i:=by
 obtain⟨h1,h2⟩:1<=i.p.tick/\i.l.length<=1099511627776:=h;unfold yYq dI;simp only[y3];refine⟨0,rfl,λj=>j<=i.l.length/\∀k<j,∀x,i.l[k]? =ba x->dM i.p.tick x=ax,λj=>i.l.length-j,⟨oM,λk hk=>by omega⟩,?_⟩;rintro j ⟨h3,h4⟩;refine zH (λhj=> ?_) (λhj=> ?_)
 ·obtain⟨n,hn⟩:=yE (l:=i.l) (i:=j) oM;refine⟨⟨oM,oM⟩,n,elI hn,⟨i.p,n⟩,?_⟩
  (repeat'(first|exact rfl|exact trivial|assumption|apply be|refineλ(_:Unit) (_:True)=>?_|refine az () ?_|omega|(dsimp only;omega)))
  refine Cv.cnd.mk (λe=> ?_) (λe=> ?_)
  ·rw[zFe hn e h4];exact kp
  ·refine⟨j+1,by rw[w64 (by omega)];rfl,⟨oM,λk hk x hx=> ?_⟩,by(first|omega|(dsimp only;omega)),rfl⟩;rcases y3q k j with hk'|hk'
   ·exact h4 k hk' x hx
   ·obtain rfl:k=j:=by omega
    rw[hn]at hx;cases hx;exact e
 ·rw[zFw λk x hx=>h4 k (by have:=(y1c.1 hx).1;omega) x hx];exact kp
def yTu:idxC.ok Tryz.prog 174:=okw mixed (gokc yBf gok0) 0 (λ_=>[]) (λi=>yYs i) [] Tryz.func174 yYr
def z9e {l:List Int} {f:Int->Bool}:l.any f=decide (zHi (l.findIdx? f)>=0):=by
 cases hf:l.findIdx? f with
 |none=>
  rw[y5l]at hf;have:l.any f=ax:=by rw[List.any_eq_false];intro x hx;simp[hf x hx]
  rw[this];rfl
 |some k=>
  rw[y4e]at hf;obtain⟨hk,h1,_⟩:=hf;have:l.any f=ay:=by rw[List.any_eq_true];exact⟨_,List.getElem_mem hk,h1⟩
  rw[this,zHi,y1v (by omega)]
def z7q (i:zRk) (h:containsC.cnd i):zPh i:=by
 unfold zPh;have h':1<=i.p.tick/\i.l.length<=1099511627776:=h;refine⟨i,?_⟩
 (repeat'(first|exact rfl|exact trivial|assumption|apply be|refineλ(_:Unit) (_:True)=>?_|refine az () ?_|omega|(dsimp only;omega)))
 exact z9e
def zVj:containsC.ok Tryz.prog 153:=okw mixed (gokc yTu gok0) 0 (λ_=>[]) (λ_=>[]) [] Tryz.func153 z7q
def yPu (p:Prd) (h:ticksC.cnd p):yFp p:=by
 obtain⟨h1,h2,h3⟩:p.small:=h;unfold yFp;refine zH (λc1=>⟨(),by rw[jW,y1s (by omega)];rfl,trivial⟩) (λc1=>zH (λc2=>⟨(),by rw[jW,y1s (show ¬p.tick<=1000 by omega)];simp,trivial⟩) (λc2=>⟨⟨p,p.low⟩,?_⟩));have e1:jW p=(!dM p.tick p.low && !dM p.tick p.high && !dM p.tick p.wide && !p.settle.any (dM p.tick)):=by
  rw[jW,y1v (by omega),y1v (by omega)];rfl
 rw[e1]
 (repeat'(first|exact rfl|exact trivial|assumption|apply be|refineλ(_:Unit) (_:True)=>?_|refine az () ?_|omega|(dsimp only;omega)))
 refine Cv.cnd.mk (λc3=>⟨⟨p,p.high⟩,?_⟩) (λc3=>⟨(),?_,trivial⟩)
 ·dsimp only at c3
  (repeat'(first|exact rfl|exact trivial|assumption|apply be|refineλ(_:Unit) (_:True)=>?_|refine az () ?_|omega|(dsimp only;omega)))
  refine Cv.cnd.mk (λc4=>⟨⟨p,p.wide⟩,?_⟩) (λc4=>⟨(),?_,trivial⟩)
  ·dsimp only at c4
   (repeat'(first|exact rfl|exact trivial|assumption|apply be|refineλ(_:Unit) (_:True)=>?_|refine az () ?_|omega|(dsimp only;omega)))
   refine Cv.cnd.mk (λc5=>⟨⟨p,p.settle⟩,?_⟩) (λc5=>⟨(),?_,trivial⟩)
   ·dsimp only at c5
    (repeat'(first|exact rfl|exact trivial|assumption|apply be|refineλ(_:Unit) (_:True)=>?_|refine az () ?_|omega|(dsimp only;omega)))
    rw[c3,c4,c5];simp
   ·dsimp only at c5;rw[c5];simp
  ·dsimp only at c4;rw[c4];simp
 ·dsimp only at c3;rw[c3];simp
def yCl:ticksC.ok Tryz.prog 123:=okw mixed (gokc yBf (gokc zVj gok0)) 0 (λ_=>[]) (λ_=>[]) [] Tryz.func123 yPu
def yQc (p:Prd) (h:checkC.cnd p):yGl p:=by
 obtain⟨h1,h2,h3⟩:p.small:=h;unfold yGl yC;simp only[y3];refine⟨p.code,rfl,h1,λ_ _=>Cv.cnd.mk (λc1=>⟨(),by rw[Prd.check,y1a c1],trivial⟩) (λc1=>⟨p.months,rfl,h2,λ_ _=>Cv.cnd.mk (λc2=>⟨(),by rw[Prd.check,y0y (by simp[c1]),y1a c2],trivial⟩) (λc2=>⟨p,?_⟩)⟩)⟩
 (repeat'(first|exact rfl|exact trivial|assumption|apply be|refineλ(_:Unit) (_:True)=>?_|refine az () ?_|omega|(dsimp only;omega)))
 refine Cv.cnd.mk (λc3=>⟨(),by rw[Prd.check,y0y (by simp[c1]),y0y (by simp[c2]),y1a c3],trivial⟩) (λc3=> ?_);have e0:p.check=if fY p then 23 else if vM p then 1 else if dZ p then 31 else if gU p then 24 else 0:=by
  rw[Prd.check,y0y (by simp[c1]),y0y (by simp[c2]),y0y (by simp[c3])]
 have b (hb:fY p=ay):∃(o:Unit),p.check=23/\True:=⟨(),by rw[e0,y1a hb],trivial⟩
 refine zH (λd1=>b (by simp[fY,d1])) λd1=>zH (λd2=>b (by simp[fY];omega)) λd2=>zH (λd3=>b (by simp[fY];omega)) λd3=>zH (λd4=>b (by simp[fY];omega)) λd4=> ?_
 rw[w64 (by omega)];refine zH (λd5=>b (by simp[fY];omega)) λd5=> ?_
 have e1:p.check=if vM p then 1 else if dZ p then 31 else if gU p then 24 else 0:=by
  rw[e0,y0y (by simp[fY];omega)]
 have s (hb:vM p=ay):∃(o:Unit),p.check=1/\True:=⟨(),by rw[e1,y1a hb],trivial⟩
 have hm:2<=p.months.length:=by
  have c2:qJ p.months=ay:=by simpa using c2
  simp[qJ]at c2;omega
 refine Cv.cnd.mk (λd6=>s (by have d6:¬(p.settle.length:Int)=p.months.length:=(by simpa using d6);simp[vM];omega)) λd6=> ?_
 have d6:p.settle.length=p.months.length:=by
  have:(p.settle.length:Int)=p.months.length:=by simpa using d6
  omega
 refine⟨p.settle,rfl,⟨oM,oM⟩,λ_ _=>⟨kp,zH (λd7=>s (by simp[vM];left;right;omega)) λd7=>⟨p.settle,rfl,⟨oM,oM⟩,λ_ _=>⟨kp,zH (λd8=>s (by simp[vM];right;omega)) λd8=> ?_⟩⟩⟩⟩;have e2:p.check=if dZ p then 31 else if gU p then 24 else 0:=by
  rw[e1,y0y (by simp[vM];omega)]
 have r (hb:dZ p=ay):∃(o:Unit),p.check=31/\True:=⟨(),by rw[e2,y1a hb],trivial⟩
 refine zH (λd9=>r (by simp[dZ];omega)) λd9=>zH (λd10=>r (by simp[dZ];omega)) λd10=> ?_
 have e3:p.check=if gU p then 24 else 0:=by
  rw[e2,y0y (by simp[dZ];omega)]
 have q (hb:gU p=ay):∃(o:Unit),p.check=24/\True:=⟨(),by rw[e3,y1a hb],trivial⟩
 refine zH (λf1=>q (by simp[gU];omega)) λf1=>zH (λf2=>q (by simp[gU];omega)) λf2=>zH (λf3=>q (by simp[gU];omega)) λf3=>zH (λf4=>q (by simp[gU];omega)) λf4=>zH (λf5=>q (by simp[gU];omega)) λf5=>zH (λf6=>q (by simp[gU];omega)) λf6=> ?_
 exact⟨(),by rw[e3,y0y (by simp[gU];omega)],trivial⟩
def s9:checkC.ok Tryz.prog 75:=okw mixed (gokc ySb (gokc z7m (gokc yCl (gokc yQo (gokc yTe gok0))))) 0 (λ_=>[]) (λ_=>[]) [] Tryz.func75 yQc
structure Prd.Ok (p:Prd):Prop where
 sym:dV p.code=ay
 months:qJ p.months=ay
 ticks:jW p=ay
 m2:2<=p.months.length
 m6:p.months.length<=6
 t1:1<=p.tick
 t2:p.tick<=1000
 b1: -1000000<=p.low
 b2:p.low<p.high
 b3:p.high<=1000000
 b4:0<=p.wide
 b5:p.wide<=p.high-p.low
 s1:p.settle.length=p.months.length
 s2:p.low<=s7 p.settle
 s3:lW p.settle<=p.high
 r1:1<=p.rule
 r2:p.rule<=3
 q1:0<=p.top
 q2:p.top<=1000000
 q3:1<=p.least
 q4:p.least<=1000
 q5:0<=p.part
 q6:p.part<=100
def jJ {p:Prd} (h:p.check=0):p.Ok:=by
 unfold Prd.check at h;split at h<;>first|(exfalso;revert h;decide)|skip
 rename_i c1;split at h<;>first|(exfalso;revert h;decide)|skip
 rename_i c2;split at h<;>first|(exfalso;revert h;decide)|skip
 rename_i c3;split at h<;>first|(exfalso;revert h;decide)|skip
 rename_i c4;split at h<;>first|(exfalso;revert h;decide)|skip
 rename_i c5;split at h<;>first|(exfalso;revert h;decide)|skip
 rename_i c6;split at h<;>first|(exfalso;revert h;decide)|skip
 rename_i c7;simp only[y4k,Bool.not_eq_false,Bool.not_eq_true]at c1 c2 c3;have m:=c2;have t:=c3;simp[qJ]at m;simp[jW]at t;simp[fY]at c4;simp[vM]at c5;simp[dZ]at c6;simp[gU]at c7;exact⟨c1,c2,c3,oM,oM,oM,oM,oM,oM,oM,oM,oM,oM,oM,oM,oM,oM,oM,oM,oM,oM,oM,oM⟩
def yFc {n:Nat} (h:n<=6):n+n*(n-1) / 2<=21:=by
 have:∀n≤6,n+n*(n-1) / 2<=21:=by decide
 exact this n h
def yHh (p:Prd) (h:pcountC.cnd p):z3t p:=by
 unfold z3t yC;obtain⟨h1,h2,h3⟩:p.small:=h;refine⟨p,?_⟩;simp only[y3]
 (repeat'(first|exact rfl|exact trivial|assumption|apply be|refineλ(_:Unit) (_:True)=>?_|refine az () ?_|omega|(dsimp only;omega)))
 refine Cv.cnd.mk (λc=>⟨(),by rw[Prd.count,y0y (by simpa using c)];rfl,trivial⟩) (λc=> ?_);have c:p.check=0:=by simpa using c
 have ok:=jJ c;refine⟨kp,Z8,(),?_,trivial⟩;rw[Prd.count,y1a c];obtain⟨n,hn⟩:∃n,p.months.length=n:=⟨_,rfl⟩
 have m2:=ok.m2;have m6:=ok.m6;rw[hn]at m2 m6 ⊢;have:n=2\/n=3\/n=4\/n=5\/n=6:=by omega
 rcases this with rfl|rfl|rfl|rfl|rfl<;>rfl
def cR:pcountC.ok Tryz.prog 77:=okw mixed (gokc s9 gok0) 0 (λ_=>[]) (λ_=>[]) [] Tryz.func77 yHh
def sP {p:Prd} (h:p.count≠0):p.check=0:=by
 unfold Prd.count at h;split at h
 ·assumption
 ·exact absurd rfl h
def xN (p:Prd):p.count<=21:=by
 unfold Prd.count;split
 ·rename_i h;exact yFc (jJ h).m6
 ·omega
def zYi {n m:Nat} (h:n<=6) (hm:m<=n):y8 n m<=21:=by
 have:∀n≤6,∀m≤n,y8 n m<=21:=by decide
 exact this n h m hm
def yUr (i:zAo) (h:legsC.cnd i):yNa i:=by
 unfold yNa eJ zFg yC dI;obtain⟨h1,h2,h3⟩:i.p.small:=h;refine⟨i.p,?_⟩;simp only[y3]
 (repeat'(first|exact rfl|exact trivial|assumption|apply be|refineλ(_:Unit) (_:True)=>?_|refine az () ?_|omega|(dsimp only;omega)))
 refine zH (λc1=> ?_) (λc1=>zH (λc2=> ?_) (λc2=> ?_))
 ·rw[Prd.legs,y1a (by omega)];exact kp
 ·rw[Prd.legs,y1a (by omega)];exact kp
 have c2:¬i.n>=(i.p.count:Int):=c2;have hc:=xN i.p;have ok:=jJ (sP (p:=i.p) oM);have m6:=ok.m6;refine zH (λc3=> ?_) (λc3=> ?_)
 ·rw[Prd.legs,y0y (by omega),y1a c3];exact kp
 have e0:i.p.legs i.n=kU i.p.months.length i.n.toNat i.p.months.length 0:=by
  rw[Prd.legs,y0y (by omega),y0y c3]
 rw[e0];generalize hn:i.p.months.length=n at c3 m6 ⊢;obtain⟨k,hk⟩:∃k:Nat,i.n=k:=⟨i.n.toNat,oM⟩
 rw[hk]at c2 c3 ⊢;refine⟨0,rfl,rfl,λm=>m<=n/\y8 n m<=k/\kU n k n 0=kU n k (n-m) m,λm=>n-m,⟨oM,by show n<=k;omega,rfl⟩,?_⟩;rintro m ⟨g1,g2,g3⟩;have hf:=zYi m6 g1;refine zH (λc4=> ?_) (λc4=> ?_)
 ·obtain⟨r,hr⟩:∃r,n-m=r+1:=⟨n-m-1,oM⟩
  have e1:(k:Int).toNat=k:=by omega
  rw[e1,g3,hr,w64 (x:=(n:Int)-1) (by omega),w64 (x:=(n:Int)-1-m) (by omega),w64 (x:=(y8 n m:Int)+((n:Int)-1-m)) (by omega),w64 (x:=(m:Int)+1) (by omega)];rw[hr]at g3;refine zH (λc5=> ?_) (λc5=> ?_)
  ·rw[w64 (x:=(m:Int)+1+k) (by omega),w64 (x:=(m:Int)+1+k-(y8 n m:Int)) (by omega),kU,y1a (by omega)];refine⟨(),rfl,?_,rfl,trivial⟩;dsimp only;omega
  ·refine⟨m+1,?_,rfl,⟨oM,?_,?_⟩,by(first|omega|(dsimp only;omega)),kp⟩
   ·rw[y8];omega
   ·rw[y8];omega
   ·rw[kU,y0y (by omega),show n-(m+1)=r by omega]
 ·have e1:(k:Int).toNat=k:=by omega
  rw[e1,g3,show n-m=0 by omega];exact⟨(),rF3 trivial⟩
def tY:legsC.ok Tryz.prog 133:=okw mixed (gokc cR gok0) 0 (λ_=>[]) (λi=>yXx i) [] Tryz.func133 yUr
def yIg (i:rZ) (h:spreadC.cnd i):z4q i:=by
 unfold z4q dJ yC dI;obtain⟨h1,h2,h3⟩:i.p.small:=h;refine⟨i.p,?_⟩;simp only[y3]
 (repeat'(first|exact rfl|exact trivial|assumption|apply be|refineλ(_:Unit) (_:True)=>?_|refine az () ?_|omega|(dsimp only;omega)))
 have bad (hb:i.p.check≠0\/i.a<0\/i.b<=i.a\/(i.p.months.length:Int)<=i.b):∃(o:Unit),(i.p.spread i.a i.b).fst=0/\(i.p.spread i.a i.b).snd=ax/\True:=⟨(),by rw[Prd.spread,y1a hb],by rw[Prd.spread,y1a hb],trivial⟩
 refine Cv.cnd.mk (λc1=>bad (.inl (by simpa using c1))) λc1=>zH (λc2=>bad oM) λc2=>zH (λc3=>bad oM) λc3=>zH (λc4=>bad oM) λc4=> ?_
 have c1:i.p.check=0:=by simpa using c1
 have m6:=(jJ c1).m6;rw[Prd.spread,y0y (by omega)];generalize hn:i.p.months.length=n at c4 m6 ⊢;obtain⟨a,ha⟩:∃k:Nat,i.a=k:=⟨i.a.toNat,oM⟩
 rw[ha]at c3 ⊢;refine⟨0,rfl,rfl,λm=>m<=a,λm=>a-m,oM,?_⟩;intro m hm;have hm:m<=a:=hm;have hf:=zYi (m:=m) m6 oM;refine zH (λc5=> ?_) (λc5=> ?_)
 ·rw[w64 (x:=(n:Int)-1) (by omega),w64 (x:=(n:Int)-1-m) (by omega),w64 (x:=(y8 n m:Int)+((n:Int)-1-m)) (by omega),w64 (x:=(m:Int)+1) (by omega)];refine⟨m+1,?_,rfl,oM,by(first|omega|(dsimp only;omega)),kp⟩;rw[y8];omega
 ·obtain rfl:m=a:=by omega
  rw[w64 (x:=(y8 n m:Int)+i.b) (by omega),w64 (x:=(y8 n m:Int)+i.b-m) (by omega),w64 (x:=(y8 n m:Int)+i.b-m-1) (by omega)];exact⟨(),rfl,rfl,trivial⟩
def zPr:spreadC.ok Tryz.prog 158:=okw mixed (gokc s9 gok0) 0 (λ_=>[]) (λi=>yJu i) [] Tryz.func158 yIg
def yOn (i:rZ) (h:priceC.cnd i):yEf i:=by
 unfold yEf yC;obtain⟨h1,h2,h3⟩:i.p.small:=h;refine⟨i.p,?_⟩;simp only[y3]
 (repeat'(first|exact rfl|exact trivial|assumption|apply be|refineλ(_:Unit) (_:True)=>?_|refine az () ?_|omega|(dsimp only;omega)))
 refine Cv.cnd.mk (λc1=>⟨(),by rw[Prd.price,y1a (by have:(i.p.count:Int)=0:=(by simpa using c1);omega)],trivial⟩) λc1=> ?_
 have c1:i.p.count≠0:=by
  have:¬(i.p.count:Int)=0:=by simpa using c1
  omega
 have e0:i.p.price i.a i.b=if i.a<0\/(i.p.count:Int)<=i.a then 20 else if dM i.p.tick i.b then 22 else
  if i.b<(if(i.p.months.length:Int)<=i.a then-i.p.wide else i.p.low)\/(if(i.p.months.length:Int)<=i.a then i.p.wide else i.p.high)<i.b then 23 else 0:=by rw[Prd.price,y0y c1]
 rw[e0];have ok:=jJ (sP c1);obtain⟨t1,b3,b1,b2,b4,b5⟩:=(⟨ok.t1,ok.b3,ok.b1,ok.b2,ok.b4,ok.b5⟩:_/\_/\_/\_/\_/\_)
 refine zH (λc2=>⟨(),by rw[y1a (.inl c2)],trivial⟩) λc2=>zH (λc3=>⟨(),by rw[y1a (.inr c3)],trivial⟩) λc3=>⟨kp,oM,?_⟩
 have c3:¬i.a>=(i.p.count:Int):=c3;rw[y0y (by omega)];refine Cv.cnd.mk (λc4=>⟨(),y1a c4,trivial⟩) λc4=> ?_
 rw[y0y (by rw[dM,c4];simp),w64 (x:=0-i.p.wide) (by omega)];refine zH (λc5=> ?_) (λc5=> ?_)
 ·have c5:(i.p.months.length:Int)<=i.a:=c5;simp only[y1a c5];refine zH (λc6=>⟨(),y1a (.inl oM),trivial⟩) λc6=>zH (λc7=>⟨(),y1a (.inr oM),trivial⟩) λc7=>⟨(),y0y oM,trivial⟩
 ·have c5:¬(i.p.months.length:Int)<=i.a:=c5;simp only[y0y c5];refine zH (λc6=>⟨(),y1a (.inl oM),trivial⟩) λc6=>zH (λc7=>⟨(),y1a (.inr oM),trivial⟩) λc7=>⟨(),y0y oM,trivial⟩
def tA:priceC.ok Tryz.prog 130:=okw mixed (gokc cR gok0) 0 (λ_=>[]) (λ_=>[]) [] Tryz.func130 yOn
def yNp (x:Int) (h: -18446744073709551616<=x/\x<18446744073709551616):(y9 x/\ar.wrap x=x)\/(9223372036854775807<x/\ar.wrap x=x-18446744073709551616)\/(x< -9223372036854775808/\ar.wrap x=x+18446744073709551616):=by
 have e:ar.wrap x=if(decide (x % 18446744073709551616>=9223372036854775808))=ay then x % 18446744073709551616-18446744073709551616 else x % 18446744073709551616:=by
  have:ar.wrap x=if(ay && decide (x % 18446744073709551616>=9223372036854775808))=ay then x % 18446744073709551616-18446744073709551616 else x % 18446744073709551616:=rfl
  rw[this,y4b]
 have e:ar.wrap x=(x+9223372036854775808) % 18446744073709551616-9223372036854775808:=by
  rw[e];by_cases h2:x % 18446744073709551616>=9223372036854775808
  ·rw[y1a (y1v h2)];omega
  ·rw[y0y (by simpa using h2)];omega
 rw[e];by_cases h1:y9 x
 ·exact .inl ⟨h1,by unfold y9 at h1;omega⟩
 ·unfold y9 at h1;omega
def yYy (i:I2) (h:addC.cnd i):yWw i:=by
 obtain⟨⟨x1,x2⟩,y1,y2⟩:y9 i.x/\y9 i.y:=h;have hw:=yNp (i.x+i.y) oM;unfold yWw zMg uB;generalize ar.wrap (i.x+i.y)=w at hw ⊢;unfold y9 at hw ⊢;refine Cv.cnd.mk (λc1=>Cv.cnd.mk (λc2=> ?_) (λc2=> ?_)) (λc1=> ?_)
 all_goals(simp at*)
 ·rw[y0y (by omega)];exact kp
 ·rw[y1a (by omega)];refine⟨?_,rfl⟩;dsimp only;omega
 ·rw[y1a (by omega)];refine⟨?_,rfl⟩;dsimp only;omega
def zRm:addC.ok Tryz.prog 177:=okw mixed gok0 0 (λ_=>[]) (λ_=>[]) [] Tryz.func177 yYy
def y0c (i:I2) (h:subC.cnd i):yXf i:=by
 obtain⟨⟨x1,x2⟩,y1,y2⟩:y9 i.x/\y9 i.y:=h;have hw:=yNp (i.x-i.y) oM;unfold yXf zMx uH;generalize ar.wrap (i.x-i.y)=w at hw ⊢;unfold y9 at hw ⊢;refine Cv.cnd.mk (λc1=>Cv.cnd.mk (λc2=> ?_) (λc2=> ?_)) (λc1=> ?_)
 all_goals(simp at*)
 ·rw[y0y (by omega)];exact kp
 ·rw[y1a (by omega)];refine⟨?_,rfl⟩;dsimp only;omega
 ·rw[y1a (by omega)];refine⟨?_,rfl⟩;dsimp only;omega
def zTx:subC.ok Tryz.prog 178:=okw mixed gok0 0 (λ_=>[]) (λ_=>[]) [] Tryz.func178 y0c
structure Slot where
 used:Bool
 n:Int
 id:Int
 qty:Int
 top:Bool
 queue:Int
 ahead:Int
 back:Int
 deriving DecidableEq
structure dO where
 first:Int
 last:Int
 total:Int
 count:Int
 deriving DecidableEq
structure Arena where
 slots:List Slot
 queues:List dO
 free:Int
 deriving DecidableEq
def zQ (s:Slot):List D:=[.v (.bool s.used),.v (.int .i64 s.n),.v (.int .i64 s.id),.v (.int .i64 s.qty),.v (.bool s.top),.v (.int .i64 s.queue),.v (.int .i64 s.ahead),.v (.int .i64 s.back)]
def zN (q:dO):List D:=[.v (.int .i64 q.first),.v (.int .i64 q.last),.v (.int .i64 q.total),.v (.int .i64 q.count)]
def slot0:Slot:=⟨ax,0,0,0,ax,0,0,0⟩
def zF (a:Arena):Nat->AObj
 |0=> .cells [.own 1,.own 2,zA a.free] 280
 |1=> .own 273 8 (a.slots.map zQ)
 |2=> .own 283 4 (a.queues.map zN)
 |_=> .gone
def kY (a:Arena):AObj:= .adt Arena 3 zF a
structure xC where
 price:Int
 queue:Int
 deriving DecidableEq
structure Place where
 side:Int
 price:Int
 slot:Int
 deriving DecidableEq
structure Book where
 a:Arena
 buys:List xC
 sells:List xC
 at_:List (Int×Place)
 top1:Int
 top2:Int
 spare:List Int
 has1:Bool
 has2:Bool
 deriving DecidableEq
def zB (r:xC):List D:=[.v (.int .i64 r.price),.v (.int .i64 r.queue)]
def z0z (p:Place):List D:=[.v (.int .i64 p.side),.v (.int .i64 p.price),.v (.int .i64 p.slot)]
def atE (l:List (Int×Place)):List (bu×List D):=l.map λx=>(.int .i64 x.1,z0z x.2)
def zO (b:Book):Nat->AObj
 |0=> .cells [.nm 1 0,.own 2,.own 3,.mp 4,zA b.top1,zA b.top2,.own 5,yT b.has1,yT b.has2] 245
 |1=>kY b.a
 |2=> .own 255 2 (b.buys.map zB)
 |3=> .own 255 2 (b.sells.map zB)
 |4=> .map (atE b.at_)
 |5=> .own 3 1 (iE b.spare)
 |_=> .gone
def z6 (b:Book):AObj:= .adt Book 6 zO b
structure MSt where
 p:Prd
 books:List Book
 wh:List (Int×Int)
def yM (l:List (Int×Int)):List (bu×List D):=l.map λx=>(.int .i64 x.1,[.v (.int .i64 x.2)])
def xH (s:MSt):Nat->AObj
 |0=> .cells [sV s.p.code,.own 3,zA s.p.tick,zA s.p.low,zA s.p.high,zA s.p.wide,zA s.p.rule,zA s.p.top,zA s.p.least,zA s.p.part,.own 4,.own 1,.mp 2] 195
 |1=> .objs 197 Book 6 zO s.books bc
 |2=> .map (yM s.wh)
 |3=> .fro 1 (iE s.p.months)
 |4=> .fro 1 (iE s.p.settle)
 |_=> .gone
def zD (s:MSt):AObj:= .adt MSt 5 xH s
def zMr (n:Nat):Arena:=⟨am n slot0,[],n⟩
def book0:Book:=⟨zMr 250,[],[],[],0,0,[],ax,ax⟩
def newAC:Con:=zR Nat (λn=>[zA n]) (λ_=>[]) (λn=>1<=n/\n<=4096) (λ_=> .tup [.nm 0 0,zA 0]) (λn=>[kY (zMr n)])
def newBC:Con:=zR Unit (λ_=>[]) (λ_=>[]) (λ_=>True) (λ_=> .nm 0 0) (λ_=>[z6 book0])
def dS (p:Prd):MSt:=⟨p,am p.count book0,[]⟩
def newSC:Con where
 ι:=Prd
 pat:=λp=>[mD p]
 pre:=λ_=>[]
 cnd:=λp=>p.small
 alts:=λp=>[{o:=Unit,res:=λ_=> .tup [.nm 0 0,zA 0],post:=λ_=>[zD (dS p)],rel:=λ_=>p.check=0},{o:=Unit,res:=λ_=> .tup [.d (.v (.pointer bc)),zA p.check],post:=λ_=>[],rel:=λ_=>p.check≠0}]
def yXl (p:Prd):List SAnn:=[{ι:=Nat,slots:=λj=>[(5,.nm 0 0),(27,zA j)],rows:=λj=>(ao 5).map (xH ⟨p,am j book0,[]⟩)}]
def clSlotC:Con:=zR (List Slot) (λ_=>[.own 0]) (λl=>[.own 273 8 (l.map zQ)]) (λl=>l.length<=1000000) (λ_=> .own 1) (λl=>[.own 273 8 (l.map zQ),.own 273 8 (l.map zQ)])
def clQueueC:Con:=zR (List dO) (λ_=>[.own 0]) (λl=>[.own 283 4 (l.map zN)]) (λl=>l.length<=1000000) (λ_=> .own 1) (λl=>[.own 283 4 (l.map zN),.own 283 4 (l.map zN)])
def clRungC:Con:=zR (List xC) (λ_=>[.own 0]) (λl=>[.own 255 2 (l.map zB)]) (λl=>l.length<=1000000) (λ_=> .own 1) (λl=>[.own 255 2 (l.map zB),.own 255 2 (l.map zB)])
def clIntC:Con:=zR (List Int) (λ_=>[.own 0]) (λl=>[.own 3 1 (iE l)]) (λl=>l.length<=1000000) (λ_=> .own 1) (λl=>[.own 3 1 (iE l),.own 3 1 (iE l)])
def yHd (f:Nat):Con:=zR (List (bu×List D)) (λ_=>[.mp 0]) (λes=>[.map es]) (λ_=>True) (λ_=> .mp 1) (λes=>[.map es,.map es])
def clAtC:Con:=yHd 0
def clWhC:Con:=yHd 1
@[reducible] def Arena.small (a:Arena):Prop:=a.slots.length<=1000000/\a.queues.length<=1000000
@[reducible] def Book.small (b:Book):Prop:=b.a.small/\b.buys.length<=1000000/\b.sells.length<=1000000/\b.spare.length<=1000000
@[reducible] def MSt.small (s:MSt):Prop:=s.books.length<=1000000/\∀b∈s.books,b.small
def copyAC:Con:=zR Arena (λ_=>[.nm 0 0]) (λa=>[kY a]) Arena.small (λ_=> .nm 1 0) (λa=>[kY a,kY a])
def copyBC:Con:=zR Book (λ_=>[.nm 0 0]) (λb=>[z6 b]) Book.small (λ_=> .nm 1 0) (λb=>[z6 b,z6 b])
def yRf:List SAnn:=[{ι:=Unit,slots:=λ_=>[],rows:=λ_=>[],un:=3}]
def copySC:Con:=zR MSt (λ_=>[.nm 0 0]) (λs=>[zD s]) MSt.small (λ_=> .nm 1 0) (λs=>[zD s,zD s])
def yNt (n:Nat):Prop:=
 cnd (decide ((↑n:Int)<1)) (∃(a:Unit),False) (cnd (decide ((↑n:Int)>4096)) (∃(a:Unit),False) ((0<=(↑n:Int)/\(↑n:Int)<=(↑n:Int)/\(↑n:Int)<=9223372036854775807/\(↑(64:Nat):Int)*(↑n:Int)<=2 ^ (48:Nat))/\∃(a:Unit),da ((0:Int))/\da ((↑n:Int))/\aj zQ (am n slot0)=am (↑n:Int).toNat [D.v (.bool ax),dI 0,dI 0,dI 0,D.v (.bool ax),dI 0,dI 0,dI 0]/\([]:List (List D))=[]/\True))
def yYa (u:Unit):Prop:=
 ∃(i:Nat),(↑i:Int)=250/\(1<=i/\i<=4096)/\∀(o:Unit),True->∃(o:Unit),da ((0:Int))/\da ((0:Int))/\ax=ax/\ax=ax/\aa Arena 3 zF (zMr 250)=aa Arena 3 zF (zMr i)/\([]:List (List D))=[]/\([]:List (List D))=[]/\atE []=[]/\iE []=[]/\True
def zEh (a:Prd):Prop:=ab 1 (iE a.settle)=ab 1 (iE a.settle)/\da (ab 1 (iE a.months))
def uZ (a:Prd):=(D.v (bt (sb a.code)))
def zMs (a:Prd) (b:Nat) (c:Unit):Prop:=(∃(d:Unit),da ((0:Int))/\da (sb a.code)/\da a.tick/\da a.low/\da a.high/\da a.wide/\da a.rule/\da a.top/\da a.least/\da a.part/\ae 197 Book 6 zO (am a.count book0) bc=ae 197 Book 6 zO (am b book0) bc/\da (yM [])/\da (ab 1 (iE a.months))/\da (ab 1 (iE a.settle))/\a.check=0)\/∃(c:Unit),False
def zTb (a:Prd):Prop:=True/\True/\(0+(iE a.months).length)*(8:Nat)<=(140737488355328:Nat)/\True/\(0+(iE a.settle).length)*(8:Nat)<=(140737488355328:Nat)/\∃(b:Prd),sb b.code=sb a.code/\iE b.months=[]++iE a.months/\b.tick=a.tick/\b.low=a.low/\b.high=a.high/\b.wide=a.wide/\b.rule=a.rule/\b.top=a.top/\b.least=a.least/\b.part=a.part/\iE b.settle=[]++iE a.settle/\(yC b)/\∀(c:Unit),True->∃(d:Nat),(↑d:Int)=0/\da (sb a.code)/\da a.tick/\da a.low/\da a.high/\da a.wide/\da a.rule/\da a.top/\da a.least/\da a.part/\am d book0=[]/\(bc:Option Nat)=bc/\yM []=[]/\ab 1 (iE a.months)=ab 1 ([]++iE a.months)/\ab 1 (iE a.settle)=ab 1 ([]++iE a.settle)/\∃(e:Nat->Prop),∃(f:Nat->Nat),e d/\∀(g:Nat),e g->cnd (decide ((↑g:Int)<(↑b.count:Int))) (∃(h:Unit),True/\∀(j:Unit),True->True/\True/\∃(k:List Book),ae 197 Book 6 zO (am g book0) bc=ae 197 Book 6 zO k bc/\(k.length+1)*(8:Nat)<=(140737488355328:Nat)/\∃(l:Nat),(↑l:Int)=ar.wrap ((↑g:Int)+1)/\da (sb a.code)/\da a.tick/\da a.low/\da a.high/\da a.wide/\da a.rule/\da a.top/\da a.least/\da a.part/\ae 197 Book 6 zO (am l book0) bc=ae 197 Book 6 zO (k++[book0]) bc/\da (yM [])/\da (ab 1 (iE a.months))/\da (ab 1 (iE a.settle))/\e l/\f l<f g/\da (ab 1 ([]++iE a.settle))/\da (ab 1 ([]++iE a.months))/\da (ac [V.d (uZ a),V.own 5,V.d (dI a.tick),V.d (dI a.low),V.d (dI a.high),V.d (dI a.wide),V.d (dI a.rule),V.d (dI a.top),V.d (dI a.least),V.d (dI a.part),V.own 6] 25)/\zEh a) (zMs a g c)
def yNv (p:Prd):Prop:=
 ∃(a:Prd),sb a.code=sb p.code/\iE a.months=iE p.months/\a.tick=p.tick/\a.low=p.low/\a.high=p.high/\a.wide=p.wide/\a.rule=p.rule/\a.top=p.top/\a.least=p.least/\a.part=p.part/\iE a.settle=iE p.settle/\(yC a)/\∀(b:Unit),True->cnd (a.check !=0) ((∃(c:Unit),False)\/∃(b:Unit),True/\p.check=a.check/\(p.check=0->False)) ((True/\True/\((0+(iE p.months).length)*(8:Nat)<=(140737488355328:Nat)/\True/\True/\(0+(iE p.settle).length)*(8:Nat)<=(140737488355328:Nat)/\∃(c:Prd),sb c.code=sb p.code/\iE c.months=[]++iE p.months/\c.tick=p.tick/\c.low=p.low/\c.high=p.high/\c.wide=p.wide/\c.rule=p.rule/\c.top=p.top/\c.least=p.least/\c.part=p.part/\iE c.settle=[]++iE p.settle/\(yC c)/\∀(d:Unit),True->∃(e:Nat),(↑e:Int)=0/\da (sb p.code)/\da p.tick/\da p.low/\da p.high/\da p.wide/\da p.rule/\da p.top/\da p.least/\da p.part/\am e book0=[]/\(bc:Option Nat)=bc/\yM []=[]/\ab 1 (iE p.months)=ab 1 ([]++iE p.months)/\ab 1 (iE p.settle)=ab 1 ([]++iE p.settle)/\∃(f:Nat->Prop),∃(g:Nat->Nat),f e/\∀(h:Nat),f h->cnd (decide ((↑h:Int)<(↑c.count:Int))) (∃(j:Unit),True/\∀(k:Unit),True->True/\True/\∃(l:List Book),ae 197 Book 6 zO (am h book0) bc=ae 197 Book 6 zO l bc/\(l.length+1)*(8:Nat)<=(140737488355328:Nat)/\∃(m:Nat),(↑m:Int)=ar.wrap ((↑h:Int)+1)/\da (sb p.code)/\da p.tick/\da p.low/\da p.high/\da p.wide/\da p.rule/\da p.top/\da p.least/\da p.part/\ae 197 Book 6 zO (am m book0) bc=ae 197 Book 6 zO (l++[book0]) bc/\da (yM [])/\da (ab 1 (iE p.months))/\da (ab 1 (iE p.settle))/\f m/\g m<g h/\da (ab 1 ([]++iE p.settle))/\da (ab 1 ([]++iE p.months))/\da (ac [V.d (uZ p),V.own 4,V.d (dI p.tick),V.d (dI p.low),V.d (dI p.high),V.d (dI p.wide),V.d (dI p.rule),V.d (dI p.top),V.d (dI p.least),V.d (dI p.part),V.own 6] 25)/\zEh p) (zMs p h d))/\zTb p)/\True/\True/\zTb p)
def yIz (l:List Slot):Prop:=
 ∀(b:Bool),(b=ay->aj zQ l=[])->cnd b (∃(o:Unit),da (aj zQ l)/\aj zQ l=[]/\True) ((0+(aj zQ l).length)*(64:Nat)<=(140737488355328:Nat)/\∃(o:Unit),da (aj zQ l)/\aj zQ l=[]++aj zQ l/\True)
def yBx (l:List dO):Prop:=
 ∀(b:Bool),(b=ay->aj zN l=[])->cnd b (∃(o:Unit),da (aj zN l)/\aj zN l=[]/\True) ((0+(aj zN l).length)*(32:Nat)<=(140737488355328:Nat)/\∃(o:Unit),da (aj zN l)/\aj zN l=[]++aj zN l/\True)
def yKw (l:List xC):Prop:=
 ∀(b:Bool),(b=ay->aj zB l=[])->cnd b (∃(o:Unit),da (aj zB l)/\aj zB l=[]/\True) ((0+(aj zB l).length)*(16:Nat)<=(140737488355328:Nat)/\∃(o:Unit),da (aj zB l)/\aj zB l=[]++aj zB l/\True)
def yOt (l:List Int):Prop:=
 ∀(b:Bool),(b=ay->iE l=[])->cnd b (∃(o:Unit),iE l=iE l/\iE l=[]/\True) ((0+(iE l).length)*(8:Nat)<=(140737488355328:Nat)/\∃(o:Unit),iE l=iE l/\iE l=[]++iE l/\True)
def yFi (es:List (bu×List D)):Prop:=
 ∃(a:List (bu×List D)),a=es/\True/\∀(b:Unit),True->∃(c:Unit),es=a/\es=a/\True
def yOv (es:List (bu×List D)):yFi es=walk Tryz.prog ([(146,cM 243)]) 0 ([]) ([]) [] Tryz.f160 (Tryz.f160.body.getD .skip) (clAtC.pat es) (clAtC.pre es) (clAtC.alts es):=by kernel_rfl
def yOo (hG:GOk Tryz.prog ([(146,cM 243)])) (h:∀(es:List (bu×List D)),clAtC.cnd es->yFi es):clAtC.ok Tryz.prog 160:=uU mixed ([(146,cM 243)]) hG 0 (λ(es:List (bu×List D))=>[]) (λ(es:List (bu×List D))=>[]) [] Tryz.func160 (by kernel_rfl) (by kernel_rfl) (by kernel_rfl) (λ_=>by kernel_rfl) (λ(es:List (bu×List D)) hc=>Eq.mp (yOv es) (h es hc))
def yCc (es:List (bu×List D)):Prop:=
 ∃(a:List (bu×List D)),a=es/\True/\∀(b:Unit),True->∃(c:Unit),es=a/\es=a/\True
def ySa (es:List (bu×List D)):yCc es=walk Tryz.prog ([(146,cM 109)]) 0 ([]) ([]) [] Tryz.f109 (Tryz.f109.body.getD .skip) (clWhC.pat es) (clWhC.pre es) (clWhC.alts es):=by kernel_rfl
def yPk (hG:GOk Tryz.prog ([(146,cM 109)])) (h:∀(es:List (bu×List D)),clWhC.cnd es->yCc es):clWhC.ok Tryz.prog 109:=uU mixed ([(146,cM 109)]) hG 0 (λ(es:List (bu×List D))=>[]) (λ(es:List (bu×List D))=>[]) [] Tryz.func109 (by kernel_rfl) (by kernel_rfl) (by kernel_rfl) (λ_=>by kernel_rfl) (λ(es:List (bu×List D)) hc=>Eq.mp (ySa es) (h es hc))
def yTq (a:Arena):Prop:=
 ∃(i:List Slot),aj zQ i=aj zQ a.slots/\i.length<=1000000/\∀(o:Unit),True->da a.free/\True/\∃(i_1:List dO),aj zN i_1=aj zN a.queues/\i_1.length<=1000000/\∀(o:Unit),True->da a.free/\∃(o:Unit),da a.free/\aj zQ a.slots=aj zQ i/\aj zN a.queues=aj zN i_1/\da a.free/\aj zQ a.slots=aj zQ i/\aj zN a.queues=aj zN i_1/\True
def yPz (b:Book):Prop:=
 ∃(i:Arena),aa Arena 3 zF i=aa Arena 3 zF b.a/\(i.slots.length<=1000000/\i.queues.length<=1000000)/\∀(o:Unit),True->True/\True/\∃(i_1:List (bu×List D)),i_1=atE b.at_/\True/\∀(o:Unit),True->True/\∃(i_2:List Int),iE i_2=iE b.spare/\i_2.length<=1000000/\∀(o:Unit),True->∃(i_3:List xC),aj zB i_3=aj zB b.buys/\i_3.length<=1000000/\∀(o:Unit),True->∃(i_4:List xC),aj zB i_4=aj zB b.sells/\i_4.length<=1000000/\∀(o:Unit),True->∃(o:Unit),da b.top1/\da b.top2/\da b.has1/\da b.has2/\aa Arena 3 zF b.a=aa Arena 3 zF i/\aj zB b.buys=aj zB i_3/\aj zB b.sells=aj zB i_4/\atE b.at_=i_1/\iE b.spare=iE i_2/\da b.top1/\da b.top2/\da b.has1/\da b.has2/\aa Arena 3 zF b.a=aa Arena 3 zF i/\aj zB b.buys=aj zB i_3/\aj zB b.sells=aj zB i_4/\atE b.at_=i_1/\iE b.spare=iE i_2/\True
def yXj (n:Nat) (h:newAC.cnd n):yNt n:=by
 obtain⟨h1,h2⟩:1<=n/\n<=4096:=h;unfold yNt dI;refine zH (λc=>by omega) λc=>zH (λc=>by omega) λc=> ?_
 refine⟨⟨oM,oM,oM,?_⟩,?_⟩
 ·have:(2:Int) ^ (48:Nat)=281474976710656:=by decide
  rw[this];omega
 ·refine⟨(),rfl,rfl,?_,rfl,trivial⟩;rw[List.map_replicate];rfl
def yJw:newAC.ok Tryz.prog 188:=okw mixed gok0 0 (λ_=>[]) (λ_=>[]) [] Tryz.func188 yXj
def yJd:newBC.ok Tryz.prog 172:=okw (V:=yYa) mixed (gokc yJw gok0) 0 (λ_=>[]) (λ_=>[]) [] Tryz.func172 λ(u:Unit) _=>by
 refine⟨250,rfl,⟨oM,oM⟩,?_⟩;exact kp
def yUn (p:Prd) (h:newSC.cnd p):yNv p:=by
 unfold yNv zTb zMs uZ zEh yC dI;have hs:p.small:=h;obtain⟨h1,h2,h3⟩:p.small:=h;refine⟨p,?_⟩;simp only[y3]
 (repeat'(first|exact rfl|exact trivial|assumption|apply be|refineλ(_:Unit) (_:True)=>?_|refine az () ?_|omega|(dsimp only;omega)))
 refine Cv.cnd.mk (λc=> .inr ⟨(),trivial,kp,by simpa using c⟩) λc=> ?_
 have c:p.check=0:=by simpa using c
 have hc:=xN p
 (repeat'(first|exact rfl|exact trivial|assumption|apply be|refineλ(_:Unit) (_:True)=>?_|refine az () ?_|omega|(dsimp only;omega)))
 all_goals(refine⟨p,?_⟩;(repeat'(first|exact rfl|exact trivial|assumption|apply be|refineλ(_:Unit) (_:True)=>?_|refine az () ?_|omega|(dsimp only;omega))))
 all_goals(refine⟨0,?_⟩;(repeat'(first|exact rfl|exact trivial|assumption|apply be|refineλ(_:Unit) (_:True)=>?_|refine az () ?_|omega|(dsimp only;omega))))
 all_goals(refine⟨λj=>j<=p.count,λj=>p.count-j,oM,λj hj=>zH (λhlt=> ?_) (λhlt=> ?_)⟩;all_goals dsimp only at hj hlt)
 all_goals first
  |(refine .inl ⟨(),?_⟩
    obtain rfl:j=p.count:=by omega
    (repeat'(first|exact rfl|exact trivial|assumption|apply be|refineλ(_:Unit) (_:True)=>?_|refine az () ?_|omega|(dsimp only;omega))))
  |(refine⟨(),trivial,λ_ _=>⟨trivial,trivial,am j book0,rfl,?_,j+1,?_⟩⟩
    ·rw[y3v];omega
    ·rw[w64 (by omega),<- List.replicate_succ']
     (repeat'(first|exact rfl|exact trivial|assumption|apply be|refineλ(_:Unit) (_:True)=>?_|refine az () ?_|omega|(dsimp only;omega))))
def yKb:newSC.ok Tryz.prog 144:=okw mixed (gokc s9 (gokc cR (gokc yJd gok0))) 0 (λ_=>[]) (λp=>yXl p) [] Tryz.func144 yUn
def z8k:clSlotC.ok Tryz.prog 179:=okw (V:=yIz) mixed gok0 0 (λ_=>[]) (λ_=>[]) [] Tryz.func179 λ(l:List Slot) h=>by
 have h:l.length<=1000000:=h;exactλb hb=>Cv.cnd.mk (λe=>⟨(),rfl,hb e,trivial⟩) (λ_=>⟨by rw[y1x,y0z];omega,(),rfl,rfl,trivial⟩)
def z0g:clQueueC.ok Tryz.prog 180:=okw (V:=yBx) mixed gok0 0 (λ_=>[]) (λ_=>[]) [] Tryz.func180 λ(l:List dO) h=>by
 have h:l.length<=1000000:=h;exactλb hb=>Cv.cnd.mk (λe=>⟨(),rfl,hb e,trivial⟩) (λ_=>⟨by rw[y1x,y0z];omega,(),rfl,rfl,trivial⟩)
def z6r:clRungC.ok Tryz.prog 161:=okw (V:=yKw) mixed gok0 0 (λ_=>[]) (λ_=>[]) [] Tryz.func161 λ(l:List xC) h=>by
 have h:l.length<=1000000:=h;exactλb hb=>Cv.cnd.mk (λe=>⟨(),rfl,hb e,trivial⟩) (λ_=>⟨by rw[y1x,y0z];omega,(),rfl,rfl,trivial⟩)
def yGi:clIntC.ok Tryz.prog 49:=okw (V:=yOt) mixed gok0 0 (λ_=>[]) (λ_=>[]) [] Tryz.func49 λ(l:List Int) h=>by
 have h:l.length<=1000000:=h;exactλb hb=>Cv.cnd.mk (λe=>⟨(),rfl,hb e,trivial⟩) (λ_=>⟨by rw[y1x,y3];omega,(),rfl,rfl,trivial⟩)
def zOn (t:Nat):(cM t).ok Tryz.prog 146:=zZh Tryz.func146 (by kernel_rfl) (by kernel_rfl) (by kernel_rfl) (by kernel_rfl) t
def yKi:clAtC.ok Tryz.prog 160:=yOo (gokc (zOn _) gok0) λes _=>by
 unfold yFi;refine⟨es,?_⟩;exact kp
def yKr:clWhC.ok Tryz.prog 109:=yPk (gokc (zOn _) gok0) λes _=>by
 unfold yCc;refine⟨es,?_⟩;exact kp
def yFa:copyAC.ok Tryz.prog 159:=okw (V:=yTq) mixed (gokc z8k (gokc z0g gok0)) 0 (λ_=>[]) (λ_=>[]) [0] Tryz.func159 λ(a:Arena) h=>by
 obtain⟨h1,h2⟩:a.small:=h;refine⟨a.slots,?_⟩;(repeat'(first|exact rfl|exact trivial|assumption|apply be|refineλ(_:Unit) (_:True)=>?_|refine az () ?_|omega|(dsimp only;omega)));refine⟨a.queues,?_⟩;exact kp
def yAc:copyBC.ok Tryz.prog 131:=okw (V:=yPz) mixed (gokc yFa (gokc yKi (gokc yGi (gokc z6r gok0)))) 0 (λ_=>[]) (λ_=>yRf) [0] Tryz.func131 λ(b:Book) h=>by
 obtain⟨⟨h1,h1'⟩,h2,h3,h4⟩:b.small:=h;refine⟨b.a,?_⟩;(repeat'(first|exact rfl|exact trivial|assumption|apply be|refineλ(_:Unit) (_:True)=>?_|refine az () ?_|omega|(dsimp only;omega)));refine⟨atE b.at_,?_⟩;(repeat'(first|exact rfl|exact trivial|assumption|apply be|refineλ(_:Unit) (_:True)=>?_|refine az () ?_|omega|(dsimp only;omega)));refine⟨b.spare,?_⟩;(repeat'(first|exact rfl|exact trivial|assumption|apply be|refineλ(_:Unit) (_:True)=>?_|refine az () ?_|omega|(dsimp only;omega)));refine⟨b.buys,?_⟩;(repeat'(first|exact rfl|exact trivial|assumption|apply be|refineλ(_:Unit) (_:True)=>?_|refine az () ?_|omega|(dsimp only;omega)));refine⟨b.sells,?_⟩;exact kp
structure ArN where
 a:Arena
 n:Int
def Arena.qAt (a:Arena) (n:Int):dO:=if 0<=n/\n<a.queues.length then a.queues.getD n.toNat ⟨0,0,0,0⟩else⟨0,0,0,0⟩
def atotalC:Con:=zR ArN (λi=>[.nm 0 0,zA i.n]) (λi=>[kY i.a]) (λi=>True) (λi=>zA (i.a.qAt i.n).total) (λi=>[kY i.a])
def acountC:Con:=zR ArN (λi=>[.nm 0 0,zA i.n]) (λi=>[kY i.a]) (λi=>True) (λi=>zA (i.a.qAt i.n).count) (λi=>[kY i.a])
def bisC:Con:=zR Int (λn=>[zA n]) (λ_=>[]) (λ_=>True) (λn=>yT (decide (n=1)||decide (n=2))) (λ_=>[])
structure BkR where
 b:Book
 r:xC
def Book.told (b:Book) (r:xC):Lv:=⟨r.price,(b.a.qAt r.queue).total,(b.a.qAt r.queue).count⟩
@[reducible] def Book.cntOk (b:Book):Prop:=∀q∈b.a.queues,y9 q.count
def toldC:Con:=zR BkR (λi=>[.nm 0 0,.agg [zA i.r.price,zA i.r.queue]]) (λi=>[z6 i.b]) (λi=>i.b.cntOk) (λi=>lvV (i.b.told i.r)) (λi=>[z6 i.b])
def Book.best (b:Book) (l:List xC):Lv×Bool:=match l with
 |[]=>(⟨0,0,0⟩,ax)
 |r::_=>(b.told r,ay)
structure BkS where
 side:Bool
 b:Book
def Book.side (b:Book) (s:Bool):List xC:=if s then b.sells else b.buys
@[reducible] def zYz (b:Book) (l:List xC):V:= .tup [lvV (b.best l).1,yT (b.best l).2]
def best1C:Con:=zR Book (λ_=>[.nm 0 0,zA 1]) (λb=>[z6 b]) Book.cntOk (λb=>zYz b b.buys) (λb=>[z6 b])
def best2C:Con:=zR Book (λ_=>[.nm 0 0,zA 2]) (λb=>[z6 b]) Book.cntOk (λb=>zYz b b.sells) (λb=>[z6 b])
def zC (s:Bool):Int:=if s then 2 else 1
def bestC:Con:=zR BkS (λi=>[.nm 0 0,zA (zC i.side)]) (λi=>[z6 i.b]) (λi=>i.b.cntOk) (λi=>zYz i.b (i.b.side i.side)) (λi=>[z6 i.b])
structure Top where
 has1:Bool
 has2:Bool
 p1:Int
 p2:Int
 q1:Int
 q2:Int
 deriving DecidableEq
def zZ (t:Top):List D:=[.v (.bool t.has1),.v (.bool t.has2),.v (.int .i64 t.p1),.v (.int .i64 t.p2),.v (.int .i64 t.q1),.v (.int .i64 t.q2)]
def top0:Top:=⟨ax,ax,0,0,0,0⟩
def Top.buy (t:Top) (x:Lv×Bool):Top:=if x.2 then{t with has1:=ay,p1:=x.1.price,q1:=x.1.qty}else t
def Top.sell (t:Top) (x:Lv×Bool):Top:=if x.2 then{t with has2:=ay,p2:=x.1.price,q2:=x.1.qty}else t
def Book.top (b:Book):Top:=(top0.buy (b.best b.buys)).sell (b.best b.sells)
def MSt.tops (s:MSt):List Top:=s.books.map Book.top
@[reducible] def MSt.cntOk (s:MSt):Prop:=s.books.length<=1000000/\∀b∈s.books,b.cntOk
def topsC:Con:=zR MSt (λ_=>[.nm 0 0]) (λs=>[zD s]) MSt.cntOk (λs=> .own 1) (λs=>[zD s,.own 166 6 (s.tops.map zZ)])
def xK (s:MSt) (j:Nat) (x:Top):List Top:=(s.tops.take j)++x::am (s.books.length-j-1) top0
def xQ (s:MSt) (j:Nat):List Top:=(s.tops.take j)++am (s.books.length-j) top0
def yNf (s:MSt):List SAnn:=[
 {ι:=Nat,slots:=λj=>[(3,.own 0),(21,zA j)],rows:=λj=>[.own 166 6 ((xQ s j).map zZ)]},
 {ι:=Unit,slots:=λ_=>[],rows:=λ_=>[],un:=3}]
def yMr (s:MSt):List (Nat×SAnn):=[(15,{ι:=Nat×Top,slots:=λx=>[(3,.own 0)],slots0:=λx=>[(3,.own 0)],rows0:=λx=>[.own 166 6 ((xK s x.1 x.2).map zZ)],rows:=λx=>[.own 166 6 ((xK s x.1 x.2).map zZ)]})]
def yQh (s:MSt):List SAnn:=[{ι:=Nat,slots:=λj=>[(3,.nm 0 0),(22,zA j)],rows:=λj=>(ao 5).map (xH ⟨s.p,s.books.take j,s.wh⟩)}]
def kM (a:ArN):Prop:=a.a.free=a.a.free/\da (aj zQ a.a.slots)/\da (aj zN a.a.queues)/\True
def tJ (a:ArN):Prop:=∃(b:Unit),(a.a.qAt a.n).total=0/\kM a
def uY (a:ArN):=(↑(aj zN a.a.queues).length:Int)
def z4g (i:ArN):Prop:=
 cnd (decide (i.n>=0)) (cnd (!decide (i.n<(uY i))) (tJ i) ((0<=i.n/\i.n<(uY i))/\∃(a:Int),zE (aj zN i.a.queues) i.n.toNat 2 1=ba [dI a]/\∃(b:Unit),(i.a.qAt i.n).total=a/\kM i)) (tJ i)
def sK (a:ArN):Prop:=∃(b:Unit),(a.a.qAt a.n).count=0/\kM a
def z5y (i:ArN):Prop:=
 cnd (decide (i.n>=0)) (cnd (!decide (i.n<(uY i))) (sK i) ((0<=i.n/\i.n<(uY i))/\∃(a:Int),zE (aj zN i.a.queues) i.n.toNat 3 1=ba [dI a]/\∃(b:Unit),(i.a.qAt i.n).count=a/\kM i)) (sK i)
def yVp (n:Int):Prop:=
 cnd (n==1) (∃(a:Unit),(decide (n=1)||decide (n=2))=ay/\True) (∃(a:Unit),(decide (n=1)||decide (n=2))=(n==2)/\True)
def yWo (i:BkR):Prop:=
 ∃(i_1:ArN),i_1.n=i.r.queue/\aa Arena 3 zF i_1.a=aa Arena 3 zF i.b.a/\True/\∀(o:Unit),True->da i.r.queue/\True/\da i.r.price/\∃(i_2:ArN),i_2.n=i.r.queue/\aa Arena 3 zF i_2.a=aa Arena 3 zF i_1.a/\True/\∀(o:Unit),True->da i.r.price/\∃(o:Unit),da i.r.price/\(i.b.a.qAt i.r.queue).total=(i_1.a.qAt i_1.n).total/\(i.b.a.qAt i.r.queue).count=(i_2.a.qAt i_2.n).count/\da i.b.top1/\da i.b.top2/\da i.b.has1/\da i.b.has2/\aa Arena 3 zF i.b.a=aa Arena 3 zF i_2.a/\da (aj zB i.b.buys)/\da (aj zB i.b.sells)/\da (atE i.b.at_)/\da (iE i.b.spare)/\True
def yTj (b:Book):Prop:=
 ∃(i:Int),i=1/\True/\∀(o:Unit),True->cnd (!(decide (i=1)||decide (i=2))) (∃(o:Unit),(b.best b.buys).fst.price=0/\(b.best b.buys).fst.qty=0/\(b.best b.buys).fst.count=0/\(b.best b.buys).snd=ax/\da b.top1/\da b.top2/\da b.has1/\da b.has2/\da (aa Arena 3 zF b.a)/\da (aj zB b.buys)/\da (aj zB b.sells)/\da (atE b.at_)/\da (iE b.spare)/\True) (cnd ((↑(aj zB b.buys).length:Int)==0) (∃(o:Unit),(b.best b.buys).fst.price=0/\(b.best b.buys).fst.qty=0/\(b.best b.buys).fst.count=0/\(b.best b.buys).snd=ax/\da b.top1/\da b.top2/\da b.has1/\da b.has2/\da (aa Arena 3 zF b.a)/\da (aj zB b.buys)/\da (aj zB b.sells)/\da (atE b.at_)/\da (iE b.spare)/\True) (((0:Int)<=(0:Int)/\0<(↑(aj zB b.buys).length:Int))/\∃(n:Int),∃(n_1:Int),zE (aj zB b.buys) (bg 0) 0 2=ba [D.v (.int .i64 n),D.v (.int .i64 n_1)]/\∃(i:BkR),i.r.price=n/\i.r.queue=n_1/\i.b.top1=b.top1/\i.b.top2=b.top2/\i.b.has1=b.has1/\i.b.has2=b.has2/\aa Arena 3 zF i.b.a=aa Arena 3 zF b.a/\aj zB i.b.buys=aj zB b.buys/\aj zB i.b.sells=aj zB b.sells/\atE i.b.at_=atE b.at_/\iE i.b.spare=iE b.spare/\(∀(q:dO),q∈i.b.a.queues->(-9223372036854775808)<=q.count/\q.count<=9223372036854775807)/\∀(o:Unit),True->∃(o:Unit),(b.best b.buys).fst.price=i.r.price/\(b.best b.buys).fst.qty=(i.b.a.qAt i.r.queue).total/\(b.best b.buys).fst.count=(i.b.a.qAt i.r.queue).count/\(b.best b.buys).snd=ay/\z6 b=z6 i.b/\True))
def yQu (b:Book):Prop:=
 ∃(i:Int),i=2/\True/\∀(o:Unit),True->cnd (!(decide (i=1)||decide (i=2))) (∃(o:Unit),(b.best b.sells).fst.price=0/\(b.best b.sells).fst.qty=0/\(b.best b.sells).fst.count=0/\(b.best b.sells).snd=ax/\da b.top1/\da b.top2/\da b.has1/\da b.has2/\da (aa Arena 3 zF b.a)/\da (aj zB b.buys)/\da (aj zB b.sells)/\da (atE b.at_)/\da (iE b.spare)/\True) (cnd ((↑(aj zB b.sells).length:Int)==0) (∃(o:Unit),(b.best b.sells).fst.price=0/\(b.best b.sells).fst.qty=0/\(b.best b.sells).fst.count=0/\(b.best b.sells).snd=ax/\da b.top1/\da b.top2/\da b.has1/\da b.has2/\da (aa Arena 3 zF b.a)/\da (aj zB b.buys)/\da (aj zB b.sells)/\da (atE b.at_)/\da (iE b.spare)/\True) (((0:Int)<=(0:Int)/\0<(↑(aj zB b.sells).length:Int))/\∃(n:Int),∃(n_1:Int),zE (aj zB b.sells) (bg 0) 0 2=ba [D.v (.int .i64 n),D.v (.int .i64 n_1)]/\∃(i:BkR),i.r.price=n/\i.r.queue=n_1/\i.b.top1=b.top1/\i.b.top2=b.top2/\i.b.has1=b.has1/\i.b.has2=b.has2/\aa Arena 3 zF i.b.a=aa Arena 3 zF b.a/\aj zB i.b.buys=aj zB b.buys/\aj zB i.b.sells=aj zB b.sells/\atE i.b.at_=atE b.at_/\iE i.b.spare=iE b.spare/\(∀(q:dO),q∈i.b.a.queues->(-9223372036854775808)<=q.count/\q.count<=9223372036854775807)/\∀(o:Unit),True->∃(o:Unit),(b.best b.sells).fst.price=i.r.price/\(b.best b.sells).fst.qty=(i.b.a.qAt i.r.queue).total/\(b.best b.sells).fst.count=(i.b.a.qAt i.r.queue).count/\(b.best b.sells).snd=ay/\z6 b=z6 i.b/\True))
def zEy (a:MSt):Prop:=af (yM a.wh)=af (yM a.wh)/\da (ab 1 (iE a.p.months))/\da (ab 1 (iE a.p.settle))
def hJ (a:MSt):=(D.v (bt (sb a.p.code)))
def zDl (a:Nat×Top->Prop) (b:Nat×Top) (c:MSt) (d:Nat) (e:Book):Prop:=a b/\da (ag 3 1 [[dI 1],[dI 2]])/\da (ac [V.d (hJ c),V.own 3,V.d (dI c.p.tick),V.d (dI c.p.low),V.d (dI c.p.high),V.d (dI c.p.wide),V.d (dI c.p.rule),V.d (dI c.p.top),V.d (dI c.p.least),V.d (dI c.p.part),V.own 4,V.own 1,V.mp 2] (195:bv))/\ae 197 Book 6 zO (c.books.set (↑d:Int).toNat e) bc=ae 197 Book 6 zO c.books bc/\zEy c
def zJx (a:MSt) (b:Nat×Top) (c:Nat×Top->Prop) (d:Nat) (e:Book):Prop:=∃(f:Nat×Top),aj zZ (xK a f.fst f.snd)=aj zZ (xK a b.fst b.snd)/\zDl c f a d e
def vT (a:MSt) (b:Nat×Top):=(aj zZ (xK a b.fst b.snd))
def cP (a:MSt) (b:Nat×Top) (c:Nat):=(zW (vT a b) (↑c:Int).toNat 1 [D.v (.bool ay)])
def zX (a:BkS):=(a.b.best (a.b.side a.side))
def fG (a:BkS):=((zX a).fst.price)
def fN (a:MSt) (b:Nat×Top) (c:Nat) (d:BkS):=(zW (cP a b c) (↑c:Int).toNat 3 [dI (fG d)])
def lQ (a:Nat) (b:MSt) (c:Nat×Top) (d:BkS):Prop:=(0<=(↑a:Int)/\(↑a:Int)<(↑(fN b c a d).length:Int))/\da ((↑a:Int).toNat)
def c8 (a:MSt) (b:Nat×Top) (c:Nat):=(zW (vT a b) (↑c:Int).toNat 0 [D.v (.bool ay)])
def fC (a:MSt) (b:Nat×Top) (c:Nat) (d:BkS):=(zW (c8 a b c) (↑c:Int).toNat 2 [dI (fG d)])
def eB (a:Nat) (b:MSt) (c:Nat×Top) (d:BkS):Prop:=(0<=(↑a:Int)/\(↑a:Int)<(↑(fC b c a d).length:Int))/\da ((↑a:Int).toNat)
def lO (a:MSt):Prop:=0<=(↑a.books.length:Int)/\(↑a.books.length:Int)<=(↑a.books.length:Int)/\(↑a.books.length:Int)<=9223372036854775807/\(↑(40:Nat):Int)*(↑a.books.length:Int)<=2 ^ (48:Nat)
def cX (a:Nat) (b:MSt) (c:Nat×Top):Prop:=(0<=(↑a:Int)/\(↑a:Int)<(↑(cP b c a).length:Int))/\da ((↑a:Int).toNat)
def cS (a:Nat) (b:MSt) (c:Nat×Top):Prop:=(0<=(↑a:Int)/\(↑a:Int)<(↑(c8 b c a).length:Int))/\da ((↑a:Int).toNat)
def gA:Prop:=0<=ar.wrap ((0:Int)+(1:Int))/\ar.wrap ((0:Int)+(1:Int))<(↑(2:Nat):Int)
def wG (a:BkS):Prop:=∀(b:dO),b∈a.b.a.queues->(-9223372036854775808)<=b.count/\b.count<=9223372036854775807
def qA (a:Nat) (b:MSt) (c:Nat×Top):Prop:=0<=(↑a:Int)/\(↑a:Int)<(↑(vT b c).length:Int)
def Vtopst340:=(ar.wrap ((0:Int)+(1:Int)))
def vJ (a:BkS):=((zX a).fst.qty)
def yNs (s:MSt):Prop:=
 (lO s)/\∃(a:Nat),(↑a:Int)=0/\aj zZ (xQ s a)=am (↑s.books.length:Int).toNat [D.v (.bool ax),D.v (.bool ax),dI 0,dI 0,dI 0,dI 0]/\∃(b:Nat->Prop),∃(c:Nat->Nat),b a/\∀(d:Nat),b d->cnd (decide ((↑d:Int)<(↑s.books.length:Int))) ((0<=(↑d:Int)/\(↑d:Int)<(↑s.books.length:Int))/\(↑d:Int).toNat<s.books.length/\∃(e:Nat×Top),aj zZ (xK s e.fst e.snd)=aj zZ (xQ s d)/\∃(f:Nat×Top->Prop),(((0:Int)<=(0:Int)/\0<(↑(2:Nat):Int))/\∃(g:Int),zE [[dI 1],[dI 2]] (bg 0) 0 1=ba [dI g]/\∃(h:Book),s.books[(↑d:Int).toNat]?=ba h/\∃(j:BkS),zC j.side=g/\z6 j.b=z6 h/\(wG j)/\∀(k:Unit),True->∃(l:Book),z6 j.b=z6 l/\da ((↑d:Int).toNat)/\(↑d:Int).toNat<s.books.length/\cnd (zX j).snd ((qA d s e)/\(qA d s e)/\(qA d s e)/\(↑d:Int).toNat<(vT s e).length/\(cS d s e)/\(cS d s e)/\da ((zX j).fst.qty)/\da ((zX j).fst.price)/\(↑d:Int).toNat<(c8 s e d).length/\(eB d s e j)/\da ((zX j).fst.qty)/\(↑d:Int).toNat<(fC s e d j).length/\∃(m:Nat×Top),aj zZ (xK s m.fst m.snd)=zW (fC s e d j) (↑d:Int).toNat 4 [dI (vJ j)]/\zDl f m s d l) (zJx s e f d l))/\∀(g:Nat×Top),f g->∃(h:Nat×Top),aj zZ (xK s h.fst h.snd)=aj zZ (xK s g.fst g.snd)/\∃(j:Nat×Top->Prop),((gA)/\∃(k:Int),zE [[dI 1],[dI 2]] Vtopst340.toNat 0 1=ba [dI k]/\∃(l:Book),s.books[(↑d:Int).toNat]?=ba l/\∃(m:BkS),zC m.side=k/\z6 m.b=z6 l/\(wG m)/\∀(n:Unit),True->∃(p:Book),z6 m.b=z6 p/\da ((↑d:Int).toNat)/\(↑d:Int).toNat<s.books.length/\cnd (zX m).snd ((qA d s h)/\(qA d s h)/\(qA d s h)/\(↑d:Int).toNat<(vT s h).length/\(cX d s h)/\(cX d s h)/\da ((zX m).fst.qty)/\da ((zX m).fst.price)/\(↑d:Int).toNat<(cP s h d).length/\(lQ d s h m)/\da ((zX m).fst.qty)/\(↑d:Int).toNat<(fN s h d m).length/\∃(q:Nat×Top),aj zZ (xK s q.fst q.snd)=zW (fN s h d m) (↑d:Int).toNat 5 [dI (vJ m)]/\zDl j q s d p) (zJx s h j d p))/\∀(k:Nat×Top),j k->∃(l:Nat),(↑l:Int)=ar.wrap ((↑d:Int)+1)/\aj zZ (xQ s l)=aj zZ (xK s k.fst k.snd)/\b l/\c l<c d/\da (ac [V.d (hJ s),V.own 3,V.d (dI s.p.tick),V.d (dI s.p.low),V.d (dI s.p.high),V.d (dI s.p.wide),V.d (dI s.p.rule),V.d (dI s.p.top),V.d (dI s.p.least),V.d (dI s.p.part),V.own 4,V.own 1,V.mp 2] (195:bv))/\da (ae 197 Book 6 zO s.books bc)/\zEy s) (∃(e:Unit),da (sb s.p.code)/\da s.p.tick/\da s.p.low/\da s.p.high/\da s.p.wide/\da s.p.rule/\da s.p.top/\da s.p.least/\da s.p.part/\da (ae 197 Book 6 zO s.books bc)/\da (yM s.wh)/\da (ab 1 (iE s.p.months))/\da (ab 1 (iE s.p.settle))/\aj zZ s.tops=aj zZ (xQ s d)/\True)
def ySd (s:MSt):Prop:=
 ∃(i:List (bu×List D)),i=yM s.wh/\True/\∀(o:Unit),True->(da (sb s.p.code)/\True/\da s.p.tick/\da s.p.low/\da s.p.high/\da s.p.wide/\da s.p.rule/\da s.p.top/\da s.p.least/\da s.p.part/\True/\True)/\∃(i0:Nat),(↑i0:Int)=0/\da (sb s.p.code)/\da s.p.tick/\da s.p.low/\da s.p.high/\da s.p.wide/\da s.p.rule/\da s.p.top/\da s.p.least/\da s.p.part/\ak i0 s.books=[]/\(bc:Option Nat)=bc/\yM s.wh=i/\da (ab 1 (iE s.p.months))/\da (ab 1 (iE s.p.settle))/\∃(I:Nat->Prop),∃(μ:Nat->Nat),I i0/\∀(i_1:Nat),I i_1->cnd (decide ((↑i_1:Int)<(↑s.books.length:Int))) ((0<=(↑i_1:Int)/\(↑i_1:Int)<(↑s.books.length:Int))/\(↑i_1:Int).toNat<s.books.length/\∃(x:Book),s.books[(↑i_1:Int).toNat]?=ba x/\∃(i_2:Book),z6 i_2=z6 x/\((i_2.a.slots.length<=1000000/\i_2.a.queues.length<=1000000)/\i_2.buys.length<=1000000/\i_2.sells.length<=1000000/\i_2.spare.length<=1000000)/\∀(o:Unit),True->∃(x:Book),z6 i_2=z6 x/\da ((↑i_1:Int).toNat)/\(↑i_1:Int).toNat<s.books.length/\True/\True/\∃(l1':List Book),ae 197 Book 6 zO (ak i_1 s.books) bc=ae 197 Book 6 zO l1' bc/\(l1'.length+1)*(8:Nat)<=(140737488355328:Nat)/\∃(i':Nat),(↑i':Int)=ar.wrap ((↑i_1:Int)+1)/\da (sb s.p.code)/\da s.p.tick/\da s.p.low/\da s.p.high/\da s.p.wide/\da s.p.rule/\da s.p.top/\da s.p.least/\da s.p.part/\ae 197 Book 6 zO (ak i' s.books) bc=ae 197 Book 6 zO (l1'++[i_2]) bc/\da (yM s.wh)/\da (ab 1 (iE s.p.months))/\da (ab 1 (iE s.p.settle))/\I i'/\μ i'<μ i_1/\af i=af i/\da (ac [V.d (D.v (bt (sb s.p.code))),V.own 3,V.d (D.v (.int .i64 s.p.tick)),V.d (D.v (.int .i64 s.p.low)),V.d (D.v (.int .i64 s.p.high)),V.d (D.v (.int .i64 s.p.wide)),V.d (D.v (.int .i64 s.p.rule)),V.d (D.v (.int .i64 s.p.top)),V.d (D.v (.int .i64 s.p.least)),V.d (D.v (.int .i64 s.p.part)),V.own 4,V.own 1,V.mp 2] (195:bv))/\ae 197 Book 6 zO (s.books.set (↑i_1:Int).toNat x) bc=ae 197 Book 6 zO s.books bc/\da (ab 1 (iE s.p.months))/\da (ab 1 (iE s.p.settle))) (∃(o:Unit),da (sb s.p.code)/\da s.p.tick/\da s.p.low/\da s.p.high/\da s.p.wide/\da s.p.rule/\da s.p.top/\da s.p.least/\da s.p.part/\da (ae 197 Book 6 zO s.books bc)/\yM s.wh=i/\da (ab 1 (iE s.p.months))/\da (ab 1 (iE s.p.settle))/\da (sb s.p.code)/\da s.p.tick/\da s.p.low/\da s.p.high/\da s.p.wide/\da s.p.rule/\da s.p.top/\da s.p.least/\da s.p.part/\ae 197 Book 6 zO s.books bc=ae 197 Book 6 zO (ak i_1 s.books) bc/\da (yM s.wh)/\da (ab 1 (iE s.p.months))/\da (ab 1 (iE s.p.settle))/\True)
end Sx
