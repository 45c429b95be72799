/- Texts of ours. No condition. -/
import Derived.Test.YthkofaanekmpmaaGreatRows
import Derived.Test.YthkofaanekmpmaaGreatW3
set_option linter.all false
open Sx.AObj renaming adt->aa,fro->ab,cells->ac,objs->ae,map->af,own->ag
open List renaming map->aj,take->ak,replicate->am,range->ao,drop->ap,length->aq
open Go.IntKind renaming i64->ar,u64->au,u32->av,u8->aw
open Bool renaming false->ax,true->ay
open Exists renaming intro->az
open Option renaming some->ba,none->bc
open And renaming intro->be
open Go.Utf8 renaming decode->bg
open Int renaming toNat->bo,pow_succ->bu,mul_add->bv
open Go.Value renaming string->bz
open Go renaming Value->cd,TypeId->ce
open BitVec renaming ofInt->cf
namespace Sx
open Go Cv Go.Proofs
def kp {P:Prop} (h:P:=by(repeat'(first|exact rfl|exact trivial|assumption|apply And.intro|refineλ(_:Unit) (_:True)=>?_|refine Exists.intro () ?_|omega|(dsimp only;omega)))):P:=h
def oM {P:Prop} (h:P:=by omega):P:=h
def Z9 {P:Prop} (h:P:=by (dsimp only;omega)):P:=h
def Z8 {P:Prop} (h:P:=by decide):P:=h
def rF3 {α0:Sort _} {a0:α0} {α1:Sort _} {a1:α1} {α2:Sort _} {a2:α2} {P:Prop} (h:P):a0=a0/\a1=a1/\a2=a2/\P:=⟨rfl,rfl,rfl,h⟩
def rF4 {α0:Sort _} {a0:α0} {α1:Sort _} {a1:α1} {α2:Sort _} {a2:α2} {α3:Sort _} {a3:α3} {P:Prop} (h:P):a0=a0/\a1=a1/\a2=a2/\a3=a3/\P:=⟨rfl,rfl,rfl,rfl,h⟩
def rF5 {α0:Sort _} {a0:α0} {α1:Sort _} {a1:α1} {α2:Sort _} {a2:α2} {α3:Sort _} {a3:α3} {α4:Sort _} {a4:α4} {P:Prop} (h:P):a0=a0/\a1=a1/\a2=a2/\a3=a3/\a4=a4/\P:=⟨rfl,rfl,rfl,rfl,rfl,h⟩
def rF6 {α0:Sort _} {a0:α0} {α1:Sort _} {a1:α1} {α2:Sort _} {a2:α2} {α3:Sort _} {a3:α3} {α4:Sort _} {a4:α4} {α5:Sort _} {a5:α5} {P:Prop} (h:P):a0=a0/\a1=a1/\a2=a2/\a3=a3/\a4=a4/\a5=a5/\P:=⟨rfl,rfl,rfl,rfl,rfl,rfl,h⟩
def rF7 {α0:Sort _} {a0:α0} {α1:Sort _} {a1:α1} {α2:Sort _} {a2:α2} {α3:Sort _} {a3:α3} {α4:Sort _} {a4:α4} {α5:Sort _} {a5:α5} {α6:Sort _} {a6:α6} {P:Prop} (h:P):a0=a0/\a1=a1/\a2=a2/\a3=a3/\a4=a4/\a5=a5/\a6=a6/\P:=⟨rfl,rfl,rfl,rfl,rfl,rfl,rfl,h⟩
def rF8 {α0:Sort _} {a0:α0} {α1:Sort _} {a1:α1} {α2:Sort _} {a2:α2} {α3:Sort _} {a3:α3} {α4:Sort _} {a4:α4} {α5:Sort _} {a5:α5} {α6:Sort _} {a6:α6} {α7:Sort _} {a7:α7} {P:Prop} (h:P):a0=a0/\a1=a1/\a2=a2/\a3=a3/\a4=a4/\a5=a5/\a6=a6/\a7=a7/\P:=⟨rfl,rfl,rfl,rfl,rfl,rfl,rfl,rfl,h⟩
def k0q {P:Prop} (h:P:=by(repeat'(first|exact trivial|exact rfl|apply And.intro))):P:=h
def mixed:Tryz.prog.follows .mixedOrders=ay:=by kernel_rfl
def okw {P:Program} {f:FuncId} {fn:Func} {C:Con} {G:List (Nat×Con)} {V:C.ι->Prop} (hm:P.follows .mixedOrders=ay) (hG:GOk P G) (d:Nat) (J:C.ι->List (Nat×SAnn)) (an:C.ι->List SAnn) (op:List Nat) (hf:P.funcs[f]? =ba fn) (h:∀i,C.cnd i->V i) (hb:fn.body=ba (fn.body.getD .skip):=by kernel_rfl) (hbd:uQ P f=ay:=by kernel_rfl) (hok:okC fn.ntmps (fn.body.getD .skip)=ay:=by kernel_rfl) (hsz:∀i,Nat.ble (C.pat i).length fn.ntmps=ay:=by intro _;kernel_rfl) (e:∀i,V i=walk P G d (J i) (an i) op fn (fn.body.getD .skip) (C.pat i) (C.pre i) (C.alts i):=by intro _;kernel_rfl):C.ok P f:=wX hm G hG d J an op hf hb hbd hok hsz λi hc=>Eq.mp (e i) (h i hc)
structure Lv where
 price:Int
 qty:Int
 count:Int
def lvE (l:Lv):List D:=[.v (.int .i64 l.price),.v (.int .i64 l.qty),.v (.int .i64 l.count)]
def lvV (l:Lv):V:= .agg [zA l.price,zA l.qty,zA l.count]
def WrU (l:List UInt8):Nat->AObj
 |0=> .cells [.own 1] 205
 |1=> .own 5 1 (bE l)
 |_=> .gone
def Wr (l:List UInt8):AObj:= .adt (List UInt8) 2 WrU l
structure zZw where
 l:List UInt8
 n:Int
 k:Nat
def putC:Con where
 ι:=zZw
 pat:=λi=>[.nm 0 0,.d (.v (.int .u64 i.n)),.d (.v (.int .i64 i.k))]
 pre:=λi=>[Wr i.l]
 cnd:=λi=>0<=i.n/\i.n<18446744073709551616/\i.l.length+i.k<=1099511627776
 alts:=λi=>[{o:=Unit,res:=λ_=> .tup [],post:=λ_=>[Wr (i.l++le i.n i.k)],rel:=λ_=>True}]
def y4r (i:zZw):List SAnn:=[{
 ι:=Nat,
 slots:=λj=>[(0,.nm 0 0),(1,.d (.v (.int .u64 (i.n / 256 ^ j)))),(7,.d (.v (.int .i64 j)))],
 rows:=λj=>[WrU (i.l++le i.n j) 0,WrU (i.l++le i.n j) 1]}]
set_option maxRecDepth 100000
@[reducible] def dI (n:Int):D:= .v (.int .i64 n)
def y2m (i:zZw):Prop:=
 ∃(a:Nat),i.n / (256:Int) ^ a=i.n/\(↑a:Int)=0/\bE (i.l++le i.n a)=bE i.l/\∃(b:Nat->Prop),∃(c:Nat->Nat),b a/\∀(d:Nat),b d->cnd (decide ((↑d:Int)<(↑i.k:Int))) (((bE (i.l++le i.n d)).length+1)*(1:Nat)<=(140737488355328:Nat)/\(0:Int)<=(8:Int)/\∃(e:Nat),i.n / (256:Int) ^ e=bV au (i.n / (256:Int) ^ d) 8/\(↑e:Int)=ar.wrap ((↑d:Int)+1)/\bE (i.l++le i.n e)=bE (i.l++le i.n d)++[[D.v (.int .u8 (aw.wrap (i.n / (256:Int) ^ d)))]]/\b e/\c e<c d/\True) (∃(e:Unit),bE (i.l++le i.n i.k)=bE (i.l++le i.n d)/\True)
def y5e (i:zZw) (h:putC.cnd i):y2m i:=by
 unfold y2m;obtain⟨h1,h2,h3⟩:=h;refine⟨0,by simp,rfl,by simp[le],λj=>j<=i.k,λj=>i.k-j,oM,λj hj=>zH (λhlt=> ?_) (λhlt=> ?_)⟩
 ·refine⟨?_,oM,j+1,?_,?_,?_,oM,Z9,trivial⟩
  ·rw[yQ,y5s,qM];omega
  ·have:=l9 .u64 (i.n / 256 ^ j) 8 Z8;rw[show((8:Nat):Int)=8 by rfl]at this;rw[this,Int.ediv_ediv_of_nonneg (Int.pow_nonneg (by omega)),bu];rfl
  ·rw[w64 (by omega)];rfl
  ·rw[z8h,zBg];simp[bE]
 ·obtain rfl:j=i.k:=by omega
  exact⟨(),rfl,trivial⟩
def z1s:putC.ok Tryz.prog 126:=okw mixed gok0 0 (λ_=>[]) (λi=>y4r i) [0] Tryz.func126 y5e
@[reducible] def tU8:Nat:=5
structure WN where
 l:List UInt8
 n:Int
@[reducible] def WN.ok (i:WN):Prop:=i.l.length+8<=1099511627776
def byteC:Con:=con1 WN (λi=>[.nm 0 0,zA i.n]) (λi=>[Wr i.l]) WN.ok (λ_=>nK) (λi=>[Wr (i.l++[lob i.n])])
def longC:Con:=con1 WN (λi=>[.nm 0 0,zA i.n]) (λi=>[Wr i.l]) WN.ok (λ_=>nK) (λi=>[Wr (i.l++le i.n 8)])
def sumC:Con:=con1 WN (λi=>[.nm 0 0,yQf i.n]) (λi=>[Wr i.l]) (λi=>i.l.length+8<=1099511627776/\0<=i.n/\i.n<4294967296) (λ_=>nK) (λi=>[Wr (i.l++le i.n 4)])
@[reducible] def yXu (t sz by_:Nat):Con:=con1 (List (List D)) (λ_=>[.own 0]) (λl=>[.own t sz l]) (λl=>l.length*by_<=140737488355328) (λ_=> .own 1) (λl=>[.own t sz l,.own t sz l])
@[reducible] def yXr (sz by_:Nat):Con:=con1 (List (List D)) (λl=>[roV sz l]) (λ_=>[]) (λl=>l.length*by_<=140737488355328) (λl=>roV sz l) (λ_=>[])
def cloneBO:Con:=yXu tU8 1 1
def cloneBR:Con:=yXr 1 1
def newWC:Con:=con1 Unit (λ_=>[]) (λ_=>[]) (λ_=>True) (λ_=> .nm 0 0) (λ_=>[Wr []])
def doneC:Con:=con1 (List UInt8) (λ_=>[.nm 0 0]) (λl=>[Wr l]) (λl=>l.length<=1099511627776) (λ_=> .own 1) (λl=>[Wr l,.own tU8 1 (bE l)])
def z1t (c:Int):Int:=if 0<zDb .u32 c 1 then zDw .u32 (bV .u32 c 1) 3988292384 else bV .u32 c 1
def vU:Nat->Int->Int
 |0,c=>c
 |k+1,c=>z1t (vU k c)
def zIl (l:List UInt8):Int:=l.foldl (λc b=>vU 8 (zDw .u32 c b.toNat)) 4294967295
def mA (l:List UInt8):Int:=zDw .u32 4294967295 (zIl l)
def crcC:Con:=con1 (List UInt8) (λl=>[roV 1 (bE l)]) (λ_=>[]) (λl=>l.length<=1099511627776) (λl=>yQf (mA l)) (λ_=>[])
def y4k (l:List UInt8):List SAnn:=[
 {ι:=Nat,slots:=λi=>[(3,yQf (zIl (l.take i))),(9,zA i)],rows:=λ_=>[]},
 {ι:=Int×Nat,slots:=λi=>[(3,yQf (vU i.2 i.1)),(17,zA i.2)],rows:=λ_=>[]}]
def RdU (x:List UInt8×Bool):Nat->AObj
 |0=> .cells [roV 1 (bE x.1),yR x.2] 210
 |_=> .gone
def Rd (l:List UInt8) (b:Bool):AObj:= .adt (List UInt8×Bool) 1 RdU (l,b)
def newRC:Con:=con1 (List UInt8) (λl=>[roV 1 (bE l)]) (λ_=>[]) (λl=>l.length<=1099511627776) (λ_=> .nm 0 0) (λl=>[Rd l ax])
structure RN where
 l:List UInt8
 b:Bool
 n:Nat
def RN.bad (i:RN):Bool:=i.b||decide (i.l.length<i.n)
def RN.got (i:RN):List UInt8:=if i.bad then[]else i.l.take i.n
def RN.left (i:RN):List UInt8:=if i.bad then i.l else i.l.drop i.n
@[reducible] def RN.ok (i:RN):Prop:=i.n<=255/\i.l.length<=1099511627776
def takeC:Con:=con1 RN (λi=>[.nm 0 0,zA i.n]) (λi=>[Rd i.l i.b]) RN.ok (λi=>roV 1 (bE i.got)) (λi=>[Rd i.left i.bad])
def kB:List UInt8->Int
 |[]=>0
 |b::l=>b.toNat+256*kB l
def getC:Con:=con1 RN (λi=>[.nm 0 0,zA i.n]) (λi=>[Rd i.l i.b]) (λi=>i.n<=8/\i.l.length<=1099511627776) (λi=>eE (kB i.got)) (λi=>[Rd i.left i.bad])
def y4j (i:RN):List SAnn:=[{ι:=Nat,slots:=λj=>[(5,eE (kB (i.got.take j))),(12,zA j)],rows:=λ_=>[]}]
structure RB where
 l:List UInt8
 b:Bool
def RB.n (i:RB) (k:Nat):RN:=⟨i.l,i.b,k⟩
def rbyteC:Con:=con1 RB (λi=>[.nm 0 0]) (λi=>[Rd i.l i.b]) (λi=>i.l.length<=1099511627776) (λi=>zA (kB (i.n 1).got)) (λi=>[Rd (i.n 1).left (i.n 1).bad])
def rlongC:Con:=con1 RB (λi=>[.nm 0 0]) (λi=>[Rd i.l i.b]) (λi=>i.l.length<=1099511627776) (λi=>zA (ar.wrap (kB (i.n 8).got))) (λi=>[Rd (i.n 8).left (i.n 8).bad])
def rendC:Con:=con1 RB (λi=>[.nm 0 0]) (λi=>[Rd i.l i.b]) (λi=>i.l.length<=1099511627776) (λi=>zA (if i.b then 10 else if 0<i.l.length then 15 else 0)) (λi=>[Rd i.l i.b])
def b7 (a:zZw):Prop:=0<=a.n/\a.n<18446744073709551616/\a.l.length+a.k<=1099511627776
def ySk (i:WN):Prop:=
 ∃(a:zZw),a.n=au.wrap i.n/\(↑a.k:Int)=1/\aa (List UInt8) 2 WrU a.l=Wr i.l/\(b7 a)/\∀(b:Unit),True->∃(c:Unit),aa (List UInt8) 2 WrU (i.l++[lob i.n])=aa (List UInt8) 2 WrU (a.l++le a.n a.k)/\True
def yQz (i:WN):Prop:=
 ∃(a:zZw),a.n=au.wrap i.n/\(↑a.k:Int)=8/\aa (List UInt8) 2 WrU a.l=Wr i.l/\(b7 a)/\∀(b:Unit),True->∃(c:Unit),aa (List UInt8) 2 WrU (i.l++le i.n 8)=aa (List UInt8) 2 WrU (a.l++le a.n a.k)/\True
def y3a (i:WN):Prop:=
 ∃(a:zZw),a.n=au.wrap i.n/\(↑a.k:Int)=4/\aa (List UInt8) 2 WrU a.l=Wr i.l/\(b7 a)/\∀(b:Unit),True->∃(c:Unit),aa (List UInt8) 2 WrU (i.l++le i.n 4)=aa (List UInt8) 2 WrU (a.l++le a.n a.k)/\True
def zXv (i:List (List D)):Prop:=
 ∀(b:Bool),(b=ay->i=[])->cnd b (∃(o:Unit),i=i/\i=[]/\True) ((0+i.length)*(1:Nat)<=(140737488355328:Nat)/\∃(o:Unit),i=i/\i=[]++i/\True)
def yAe (i:List (List D)):zXv i=walk Tryz.prog ([]) 0 ([]) ([]) [] Tryz.f99 (Tryz.f99.body.getD .skip) (cloneBO.pat i) (cloneBO.pre i) (cloneBO.alts i):=by kernel_rfl
def yCk (hG:GOk Tryz.prog ([])) (h:∀(i:List (List D)),cloneBO.cnd i->zXv i):cloneBO.ok Tryz.prog 99:=wX mixed ([]) hG 0 (λ(i:List (List D))=>[]) (λ(i:List (List D))=>[]) [] Tryz.func99 (by kernel_rfl) (by kernel_rfl) (by kernel_rfl) (λ_=>by kernel_rfl) (λ(i:List (List D)) hc=>Eq.mp (yAe i) (h i hc))
def zZj (i:List (List D)):Prop:=
 ∀(b:Bool),(b=ay->i=[])->cnd b (∃(o:Unit),i=[]/\True) ((0+i.length)*(1:Nat)<=(140737488355328:Nat)/\∃(o:Unit),i=[]++i/\True)
def z9x (i:List (List D)):zZj i=walk Tryz.prog ([]) 0 ([]) ([]) [] Tryz.f99 (Tryz.f99.body.getD .skip) (cloneBR.pat i) (cloneBR.pre i) (cloneBR.alts i):=by kernel_rfl
def yBz (hG:GOk Tryz.prog ([])) (h:∀(i:List (List D)),cloneBR.cnd i->zZj i):cloneBR.ok Tryz.prog 99:=wX mixed ([]) hG 0 (λ(i:List (List D))=>[]) (λ(i:List (List D))=>[]) [] Tryz.func99 (by kernel_rfl) (by kernel_rfl) (by kernel_rfl) (λ_=>by kernel_rfl) (λ(i:List (List D)) hc=>Eq.mp (z9x i) (h i hc))
def y1l (i:Unit):Prop:=
 ∃(o:Unit),bE []=[]/\True
def yZe (i:List UInt8):Prop:=
 ∃(i_1:List (List D)),i_1=bE i/\i_1.length*(1:Nat)<=(140737488355328:Nat)/\∀(o:Unit),True->∃(o:Unit),bE i=i_1/\bE i=i_1/\True
def kE (a:Nat) (b:Nat) (c:Nat->Prop) (d:Nat->Nat):Prop:=(↑a:Int)=ar.wrap ((↑b:Int)+1)/\c a/\d a<d b/\True
def y1h (i:List UInt8):Prop:=
 ∃(a:Nat),zIl (ak a i)=4294967295/\(↑a:Int)=0/\∃(b:Nat->Prop),∃(c:Nat->Nat),b a/\∀(d:Nat),b d->cnd (decide ((↑d:Int)<(↑(bE i).length:Int))) ((0<=(↑d:Int)/\(↑d:Int)<(↑(bE i).length:Int))/\∃(e:Int),zE (bE i) (↑d:Int).toNat 0 1=ba [D.v (.int .u8 e)]/\∃(f:Int×Nat),vU f.snd f.fst=zDw av (zIl (ak d i)) (av.wrap e)/\(↑f.snd:Int)=0/\∃(g:Int×Nat->Prop),∃(h:Int×Nat->Nat),g f/\∀(j:Int×Nat),g j->cnd (decide ((↑j.snd:Int)<8)) ((0:Int)<=(1:Int)/\cnd (decide (zDb av (vU j.snd j.fst) (1:Int)>(0:Int))) (∃(k:Int×Nat),vU k.snd k.fst=zDw av (bV av (vU j.snd j.fst) 1) 3988292384/\(↑k.snd:Int)=ar.wrap ((↑j.snd:Int)+1)/\g k/\h k<h j/\True) (∃(k:Int×Nat),vU k.snd k.fst=bV av (vU j.snd j.fst) 1/\(↑k.snd:Int)=ar.wrap ((↑j.snd:Int)+1)/\g k/\h k<h j/\True)) (∃(k:Nat),zIl (ak k i)=vU j.snd j.fst/\kE k d b c)) (∃(e:Unit),mA i=av.wrap (↑(cf av.bits (if av.signed=ay then(-1:Int)else av.max) ^^^ cf av.bits (zIl (ak d i))).toNat:Int)/\True)
def y2x (i:List UInt8):Prop:=
 ∃(i_1:List (List D)),i_1=bE i/\i_1.length*(1:Nat)<=(140737488355328:Nat)/\∀(o:Unit),True->∃(o:Unit),bE i=i_1/\ax=ax/\True
def y0c (i:RN):Prop:=
 cnd i.b (∃(o:Unit),bE i.got=[]/\bE i.left=bE i.l/\i.bad=ay/\True) (cnd (decide ((↑i.n:Int)>(↑(bE i.l).length:Int))) (∃(o:Unit),bE i.got=[]/\bE i.left=bE i.l/\i.bad=decide ((↑i.n:Int)>(↑(bE i.l).length:Int))/\True) ((0<=(↑i.n:Int)/\(↑i.n:Int)<=(↑(bE i.l).length:Int))/\(0<=(↑i.n:Int)/\(↑i.n:Int)<=(↑(bE i.l).length:Int))/\∃(o:Unit),bE i.got=ak (↑i.n:Int).toNat (bE i.l)/\bE i.left=ap (↑i.n:Int).toNat (bE i.l)/\i.bad=decide ((↑i.n:Int)>(↑(bE i.l).length:Int))/\True))
def y2a (i:RN):Prop:=
 ∃(a:RN),(↑a.n:Int)=(↑i.n:Int)/\aa (List UInt8×Bool) 1 RdU (a.l,a.b)=Rd i.l i.b/\(a.n<=255/\a.l.length<=1099511627776)/\∀(b:Unit),True->∃(c:Nat),kB (ak c i.got)=0/\(↑c:Int)=0/\∃(d:Nat->Prop),∃(e:Nat->Nat),d c/\∀(f:Nat),d f->cnd (decide ((↑f:Int)<(↑(bE a.got).length:Int))) ((0<=(↑f:Int)/\(↑f:Int)<(↑(bE a.got).length:Int))/\∃(g:Int),zE (bE a.got) (↑f:Int).toNat 0 1=ba [D.v (.int .u8 g)]/\0<=ar.wrap (8*(↑f:Int))/\∃(h:Nat),kB (ak h i.got)=iOr au (kB (ak f i.got)) (z1j au (au.wrap g) (ar.wrap (8*(↑f:Int))))/\(↑h:Int)=ar.wrap ((↑f:Int)+1)/\d h/\e h<e f/\dh (aa (List UInt8×Bool) 1 RdU (a.left,a.bad))) (∃(g:Unit),kB i.got=kB (ak f i.got)/\aa (List UInt8×Bool) 1 RdU (i.left,i.bad)=aa (List UInt8×Bool) 1 RdU (a.left,a.bad)/\True)
def yWu (i:RB):Prop:=
 ∃(i_1:RN),(↑i_1.n:Int)=1/\aa (List UInt8×Bool) 1 RdU (i_1.l,i_1.b)=Rd i.l i.b/\(i_1.n<=8/\i_1.l.length<=1099511627776)/\∀(o:Unit),True->∃(o:Unit),kB (i.n 1).got=ar.wrap (kB i_1.got)/\aa (List UInt8×Bool) 1 RdU ((i.n 1).left,(i.n 1).bad)=aa (List UInt8×Bool) 1 RdU (i_1.left,i_1.bad)/\True
def yUj (i:RB):Prop:=
 ∃(i_1:RN),(↑i_1.n:Int)=8/\aa (List UInt8×Bool) 1 RdU (i_1.l,i_1.b)=Rd i.l i.b/\(i_1.n<=8/\i_1.l.length<=1099511627776)/\∀(o:Unit),True->∃(o:Unit),ar.wrap (kB (i.n 8).got)=ar.wrap (kB i_1.got)/\aa (List UInt8×Bool) 1 RdU ((i.n 8).left,(i.n 8).bad)=aa (List UInt8×Bool) 1 RdU (i_1.left,i_1.bad)/\True
def yZz (i:RB):Prop:=
 cnd i.b (∃(o:Unit),(if i.b=ay then(10:Int)else if 0<i.l.length then(15:Int)else(0:Int))=10/\dh (bE i.l)/\i.b=i.b/\True) (cnd (decide ((↑(bE i.l).length:Int)>0)) (∃(o:Unit),(if i.b=ay then(10:Int)else if 0<i.l.length then(15:Int)else(0:Int))=15/\dh (bE i.l)/\i.b=i.b/\True) (∃(o:Unit),(if i.b=ay then(10:Int)else if 0<i.l.length then(15:Int)else(0:Int))=0/\dh (bE i.l)/\i.b=i.b/\True))
def yVa (k:Nat):∀n:Int,le (n % 256 ^ k) k=le n k:=by
 induction k with
 |zero=>intro n;rfl
 |succ k ih=>
  intro n;have hp:(0:Int)<256 ^ k:=Int.pow_pos oM;have h1:lob (n % 256 ^ (k+1))=lob n:=by
   unfold lob;rw[bu,xAd,Int.emod_emod_of_dvd n ⟨256 ^ k,rfl⟩]
  have h2:n % 256 ^ (k+1) / 256=n / 256 % 256 ^ k:=by
   have e:n=256*(n / 256)+n % 256:=(Int.mul_ediv_add_emod n 256).symm;have e2:n / 256=256 ^ k*(n / 256 / 256 ^ k)+n / 256 % 256 ^ k:=(Int.mul_ediv_add_emod _ _).symm;have hr:=xBt (n / 256) (show(256:Int) ^ k≠0 by omega);have hr2:=xBu (n / 256) hp;have e3:n % 256 ^ (k+1)=256*(n / 256 % 256 ^ k)+n % 256:=by
    have:n=256 ^ (k+1)*(n / 256 / 256 ^ k)+(256*(n / 256 % 256 ^ k)+n % 256):=by
     rw[bu,xAd (256 ^ k) 256,Int.mul_assoc,<- Int.add_assoc,<- bv,<- e2];exact e
    conv=>lhs;rw[this]
    rw[Int.add_comm,Int.add_mul_emod_self_left,Int.emod_eq_of_lt]
    ·omega
    ·rw[bu];omega
   rw[e3];omega
  rw[le,le,h1,h2,ih]
def zSw (n:Int):le (au.wrap n) 8=le n 8:=yVa 8 n
def z5b (n:Int):lob (au.wrap n)=lob n:=by
 have:au.wrap n=n % 18446744073709551616:=rfl;unfold lob;rw[this,Int.emod_emod_of_dvd n ⟨72057594037927936,by decide⟩]
def cN (n:Int):0<=au.wrap n/\au.wrap n<18446744073709551616:=by
 have:au.wrap n=n % 18446744073709551616:=rfl;rw[this];omega
def y2i (i:WN) (h:byteC.cnd i):ySk i:=by
 unfold ySk b7;have h:i.l.length+8<=1099511627776:=h;exact⟨⟨i.l,au.wrap i.n,1⟩,rfl,rfl,rfl,⟨(cN _).1,(cN _).2,Z9⟩,λ_ _=>⟨(),by simp only[le,z5b],trivial⟩⟩
def y2z (i:WN) (h:longC.cnd i):yQz i:=by
 unfold yQz b7;have h:i.l.length+8<=1099511627776:=h;exact⟨⟨i.l,au.wrap i.n,8⟩,rfl,rfl,rfl,⟨(cN _).1,(cN _).2,Z9⟩,λ_ _=>⟨(),by simp only[zSw],trivial⟩⟩
def y3y (i:WN) (h:sumC.cnd i):y3a i:=by
 unfold y3a b7;obtain⟨h1,h2,h3⟩:=h;have e:au.wrap i.n=i.n:=zBs oM;exact⟨⟨i.l,au.wrap i.n,4⟩,rfl,rfl,rfl,⟨(cN _).1,(cN _).2,Z9⟩,λ_ _=>⟨(),by simp only[e],trivial⟩⟩
def z8s:byteC.ok Tryz.prog 68:=okw mixed (gokc z1s gok0) 0 (λ_=>[]) (λ_=>[]) [] Tryz.func68 y2i
def z8y:longC.ok Tryz.prog 67:=okw mixed (gokc z1s gok0) 0 (λ_=>[]) (λ_=>[]) [] Tryz.func67 y2z
def yEh:sumC.ok Tryz.prog 70:=okw mixed (gokc z1s gok0) 0 (λ_=>[]) (λ_=>[]) [] Tryz.func70 y3y
def zPo:cloneBO.ok Tryz.prog 99:=yCk gok0 λi h=>λb hb=>
 Cv.cnd.mk (λe=>⟨(),rfl,hb e,trivial⟩) (λ_=>⟨by rw[y6t];exact h,(),rfl,rfl,trivial⟩)
def zMg:cloneBR.ok Tryz.prog 99:=yBz gok0 λi h=>λb hb=>
 Cv.cnd.mk (λe=>⟨(),hb e,trivial⟩) (λ_=>⟨by rw[y6t];exact h,(),rfl,trivial⟩)
def z6k:newWC.ok Tryz.prog 66:=okw (V:=y1l) mixed gok0 0 (λ_=>[]) (λ_=>[]) [] Tryz.func66 λ(_:Unit) _=>⟨(),rfl,trivial⟩
def z6g:doneC.ok Tryz.prog 72:=okw (V:=yZe) mixed (gokc zPo gok0) 0 (λ_=>[]) (λ_=>[]) [0] Tryz.func72 λ(i:List UInt8) h=>by
 have h:i.length<=1099511627776:=h;exact⟨_,rfl,by rw[yQ];omega,λ_ _=>⟨(),rfl,rfl,trivial⟩⟩
def z6e:newRC.ok Tryz.prog 73:=okw (V:=y2x) mixed (gokc zMg gok0) 0 (λ_=>[]) (λ_=>[]) [] Tryz.func73 λ(i:List UInt8) h=>by
 have h:i.length<=1099511627776:=h;exact⟨_,rfl,by rw[yQ];omega,λ_ _=>⟨(),rfl,rfl,trivial⟩⟩
def cD {l:List UInt8} {i:Nat} {b:UInt8} (h:l[i]? =ba b):zE (bE l) i 0 1=ba [.v (.int .u8 b.toNat)]:=by
 unfold zE bE;rw[y7k,h];rfl
def z9w {l:List UInt8} {i:Nat} {b:UInt8} (h:l[i]? =ba b):zIl (l.take (i+1))=vU 8 (zDw .u32 (zIl (l.take i)) b.toNat):=by
 unfold zIl;rw[y7c,h];simp[xAp]
def y1a (b:UInt8):av.wrap (b.toNat:Int)=b.toNat:=y0b (by have:=b.toNat_lt;omega)
def y0s (b:UInt8):au.wrap (b.toNat:Int)=b.toNat:=zBs (by have:=b.toNat_lt;omega)
def y3x (i:List UInt8) (h:crcC.cnd i):y1h i:=by
 unfold y1h kE;have h:i.length<=1099511627776:=h;refine⟨0,rfl,rfl,λj=>j<=i.length,λj=>i.length-j,Z9,λj hj=>zH (λhlt=> ?_) (λhlt=> ?_)⟩
 ·dsimp only at hj;rw[yQ]at hlt;obtain⟨b,hb⟩:∃b,i[j]? =ba b:=⟨_,y6v oM⟩
  refine⟨⟨oM,by rw[yQ];omega⟩,b.toNat,cD hb,(zDw .u32 (zIl (i.take j)) b.toNat,0),?_,rfl,λx=>x.1=zDw .u32 (zIl (i.take j)) b.toNat/\x.2<=8,λx=>8-x.2,⟨rfl,Z9⟩,?_⟩
  ·simp only[vU,y1a]
  rintro⟨c,n⟩ ⟨h1,h2⟩;dsimp only at h1 h2;subst h1;refine zH (λhn=>⟨oM,zH (λhc=> ?_) (λhc=> ?_)⟩) (λhn=> ?_)
  ·refine⟨(zDw .u32 (zIl (i.take j)) b.toNat,n+1),?_,?_,⟨rfl,by dsimp only at hn ⊢;omega⟩,by dsimp only at hn ⊢;omega,trivial⟩
   ·simp only[vU,z1t];rw[y5v hc]
   ·rw[w64 (by dsimp only;omega)];rfl
  ·refine⟨(zDw .u32 (zIl (i.take j)) b.toNat,n+1),?_,?_,⟨rfl,by dsimp only at hn ⊢;omega⟩,by dsimp only at hn ⊢;omega,trivial⟩
   ·simp only[vU,z1t];rw[y5t hc]
   ·rw[w64 (by dsimp only;omega)];rfl
  ·dsimp only at hn;obtain rfl:n=8:=by omega
   refine⟨j+1,z9w hb,?_,Z9,Z9,trivial⟩;rw[w64 (by omega)];rfl
 ·dsimp only at hj;rw[yQ]at hlt;refine⟨(),?_,trivial⟩;rw[y6f (by omega)];rfl
def z2f:crcC.ok Tryz.prog 71:=okw mixed gok0 0 (λ_=>[]) (λi=>y4k i) [] Tryz.func71 y3x
def z8t:takeC.ok Tryz.prog 174:=okw (V:=y0c) mixed gok0 0 (λ_=>[]) (λ_=>[]) [0] Tryz.func174 λ(i:RN) h=>by
 obtain⟨h1,h2⟩:=h;refine Cv.cnd.mk (λe=> ?_) (λe=>zH (λhlt=> ?_) (λhlt=> ?_))
 ·have:i.bad=ay:=by simp[RN.bad,e]
  exact⟨(),by simp[RN.got,this],by simp[RN.left,this],this,trivial⟩
 ·rw[yQ]at hlt;have:i.bad=ay:=by simp[RN.bad];right;omega
  exact⟨(),by simp[RN.got,this],by simp[RN.left,this],by rw[this,yQ];simp;omega,trivial⟩
 ·rw[yQ]at hlt;have:i.bad=ax:=by simp[RN.bad,e];omega
  rw[yQ];exact⟨⟨oM,oM⟩,⟨oM,oM⟩,(),by simp[RN.got,this,sI],by simp[RN.left,this,zEh],by rw[this];simp;omega,trivial⟩
def mX:∀l:List UInt8,0<=kB l/\kB l<256 ^ l.length
 |[]=>by simp[kB]
 |b::l=>by
  obtain⟨h1,h2⟩:=mX l;have:=b.toNat_lt;simp only[kB,y5y,bu];omega
def zTw (b:UInt8):∀l:List UInt8,kB (l++[b])=kB l+b.toNat*256 ^ l.length
 |[]=>by simp[kB]
 |c::l=>by
  simp only[y7l,kB,zTw b l,y5y,bu,bv];rw[xAd (256 ^ l.length) 256,<- Int.mul_assoc,<- Int.mul_assoc,xAd 256 (b.toNat:Int)];omega
def yJf {x b j:Nat} (hx:x<256 ^ j) (hb:b<256) (hj:j<8):iOr .u64 x (z1j .u64 b ((8*j:Nat):Int))=((x+b*256 ^ j:Nat):Int):=by
 have hp:256 ^ j=2 ^ (8*j):=by rw[Nat.pow_mul]
 have hle:256 ^ (j+1)<=256 ^ 8:=Nat.pow_le_pow_right oM oM;have hbig:x+b*256 ^ j<256 ^ (j+1):=by
  rw[Nat.pow_succ];have:b*256 ^ j<=255*256 ^ j:=y7h _ oM;omega
 have h8:(256:Nat) ^ 8=18446744073709551616:=by decide
 rw[<- yPx,<- yUh];have e1:yWa .u64 (b:Int) ((8*j:Nat):Int)=((b*256 ^ j:Nat):Int):=by
  show wr .u64 (Int.ofNat (b*2 ^ (Nat.min (8*j) 64)))=_;rw[show Nat.min (8*j) 64=8*j from y9s (by omega),<- hp,z5r];exact zBs (by show(0:Int)<=((b*256 ^ j:Nat):Int)/\((b*256 ^ j:Nat):Int)<_;omega)
 rw[e1];show wr .u64 (Int.ofNat (Nat.lor (x % 18446744073709551616) ((b*256 ^ j) % 18446744073709551616)))=_;rw[Nat.mod_eq_of_lt (by omega),Nat.mod_eq_of_lt (by omega)];have e2:Nat.lor x (b*256 ^ j)=x+b*256 ^ j:=by
  show x|||(b*256 ^ j)=_
  rw[hp]at hx ⊢;rw[Nat.or_comm,<- Nat.shiftLeft_eq,<- Nat.shiftLeft_add_eq_or_of_lt hx,xBb]
 rw[e2,z5r];exact zBs (by show(0:Int)<=((x+b*256 ^ j:Nat):Int)/\((x+b*256 ^ j:Nat):Int)<_;omega)
def zLr (i:RN):i.got.length<=i.n:=by
 unfold RN.got;split
 ·simp
 ·rw[y6l];omega
def y1p (i:RN) (h:getC.cnd i):y2a i:=by
 unfold y2a;obtain⟨h1,h2⟩:=h;refine⟨i,rfl,rfl,⟨oM,h2⟩,λ_ _=>⟨0,rfl,rfl,λj=>j<=i.got.length,λj=>i.got.length-j,Z9,λj hj=>zH (λhlt=> ?_) (λhlt=> ?_)⟩⟩
 ·dsimp only at hj;have hl:=zLr i;rw[yQ]at hlt ⊢;obtain⟨b,hb⟩:∃b,i.got[j]? =ba b:=⟨_,y6v oM⟩
  have e8:ar.wrap (8*(j:Int))=8*j:=w64 oM;refine⟨⟨oM,oM⟩,b.toNat,cD hb,by rw[e8];omega,j+1,?_,?_,Z9,Z9,rfl⟩
  ·rw[e8,y0s,y7c,hb];simp only[y8w];rw[zTw];obtain⟨r1,r2⟩:=mX (i.got.take j);rw[y6l,y9s (by omega)]at r2 ⊢;obtain⟨x,hx⟩:∃x:Nat,kB (i.got.take j)=x:=⟨(kB (i.got.take j)).toNat,oM⟩
   rw[hx]at r2 ⊢;have:=yJf (x:=x) (b:=b.toNat) (j:=j) (by exact_mod_cast r2) b.toNat_lt oM;rw[show(8*(j:Int))=((8*j:Nat):Int)by simp,this];simp
  ·rw[w64 (by omega)];rfl
 ·dsimp only at hj;rw[yQ]at hlt;exact⟨(),by rw[y6f (by omega)],rfl,trivial⟩
def z4w:getC.ok Tryz.prog 127:=okw mixed (gokc z8t gok0) 0 (λ_=>[]) (λi=>y4j i) [] Tryz.func127 y1p
def z1c:rbyteC.ok Tryz.prog 75:=okw (V:=yWu) mixed (gokc z4w gok0) 0 (λ_=>[]) (λ_=>[]) [] Tryz.func75 λ(i:RB) h=>by
 have hl:=zLr (i.n 1);have hr:=mX (i.n 1).got;have h0:(256:Int) ^ (i.n 1).got.length<=256 ^ 1:=by
  have:(256:Nat) ^ (i.n 1).got.length<=256 ^ 1:=Nat.pow_le_pow_right oM hl
  exact_mod_cast this
 exact⟨i.n 1,rfl,rfl,⟨by show 1<=8;omega,h⟩,λ_ _=>⟨(),(w64 oM).symm,rfl,trivial⟩⟩
def yFn:rlongC.ok Tryz.prog 74:=okw (V:=yUj) mixed (gokc z4w gok0) 0 (λ_=>[]) (λ_=>[]) [] Tryz.func74 λ(i:RB) h=>by
 exact⟨i.n 8,rfl,rfl,⟨by show 8<=8;omega,h⟩,λ_ _=>⟨(),rfl,rfl,trivial⟩⟩
def yPq:rendC.ok Tryz.prog 77:=okw (V:=yZz) mixed gok0 0 (λ_=>[]) (λ_=>[]) [0] Tryz.func77 λ(i:RB) h=>by
 refine Cv.cnd.mk (λe=>⟨(),by rw[y5v e],rfl,rfl,trivial⟩) (λe=>zH (λhlt=>⟨(),?_,rfl,rfl,trivial⟩) (λhlt=>⟨(),?_,rfl,rfl,trivial⟩))
 ·rw[yQ]at hlt;rw[y5t (by simp[e]),y5v (by omega)]
 ·rw[yQ]at hlt;rw[y5t (by simp[e]),y5t (by omega)]
open Classical
structure Sd where
 levels:List Lv
 imp:Lv
 has:Bool
@[reducible] def Vw:=List (Sd×Sd)
def yG (b:Sd×Sd):List D:=[.ro 3 (b.1.levels.map lvE),.v (.int .i64 b.1.imp.price),.v (.int .i64 b.1.imp.qty),.v (.int .i64 b.1.imp.count),.v (.bool b.1.has),
 .ro 3 (b.2.levels.map lvE),.v (.int .i64 b.2.imp.price),.v (.int .i64 b.2.imp.qty),.v (.int .i64 b.2.imp.count),.v (.bool b.2.has)]
def sdV (s:Sd):V:= .agg [roV 3 (s.levels.map lvE),zA s.imp.price,zA s.imp.qty,zA s.imp.count,yR s.has]
def vwV (v:Vw):V:= .agg [roV 10 (v.map yG)]
def bN (side x y:Int):Bool:=if side=1 then decide (y<x)else decide (x<y)
structure I3 where
 side:Int
 x:Int
 y:Int
def betterC:Con:=con1 I3 (λi=>[zA i.side,zA i.x,zA i.y]) (λ_=>[]) (λ_=>True) (λi=>yR (bN i.side i.x i.y)) (λ_=>[])
def LvAt (side:Int) (l:List Lv) (i:Nat):Prop:=∀a,l[i]?=ba a->1<=a.qty/\1<=a.count/\∀j b,i=j+1->l[j]?=ba b->bN side b.price a.price=ay
def SdRight (side:Int) (s:Sd):Prop:=(∀i,LvAt side s.levels i)/\s.levels.length<=255/\(s.has=ay->1<=s.imp.qty/\1<=s.imp.count)/\(s.has=ax->s.imp=⟨0,0,0⟩)
def bL (v:Vw):Prop:=(∀b∈v,SdRight 1 b.1/\SdRight 2 b.2)/\v.length<=255
noncomputable def jN (side:Int) (s:Sd):Bool:=decide (SdRight side s)
noncomputable def bR (v:Vw):Bool:=decide (bL v)
structure SdI where
 side:Int
 s:Sd
noncomputable def srightC:Con:=con1 SdI (λi=>[zA i.side,sdV i.s]) (λ_=>[]) (λi=>i.s.levels.length<=1099511627776) (λi=>yR (jN i.side i.s)) (λ_=>[])
def yNa:List SAnn:=[{ι:=Nat,slots:=λj=>[(10,zA j)],rows:=λ_=>[]}]
@[reducible] def zBk (v:Vw):Prop:=v.length<=1099511627776/\∀b∈v,b.1.levels.length<=1099511627776/\b.2.levels.length<=1099511627776
noncomputable def rightVC:Con:=con1 Vw (λv=>[vwV v]) (λ_=>[]) zBk (λv=>yR (bR v)) (λ_=>[])
def yLv:List SAnn:=[{ι:=Nat,slots:=λj=>[(8,zA j)],rows:=λ_=>[]}]
def kR (l:Lv):List UInt8:=le l.price 8++le l.qty 8++le l.count 8
structure z2y where
 l:List UInt8
 v:Lv
def putLC:Con:=con1 z2y (λi=>[.nm 0 0,lvV i.v]) (λi=>[Wr i.l]) (λi=>i.l.length+24<=1099511627776) (λ_=>nK) (λi=>[Wr (i.l++kR i.v)])
def zEw (s:Sd):List UInt8:=[lob s.levels.length]++s.levels.flatMap kR++(if s.has then[lob 1]++kR s.imp else[lob 0])
def vC (b:Sd×Sd):List UInt8:=zEw b.1++zEw b.2
def bQ (v:Vw) (seq:Int):List UInt8:=le seq 8++[lob v.length]++v.flatMap vC
noncomputable def uD (v:Vw) (seq:Int):List UInt8:=if bL v then bQ v seq++le (mA (bQ v seq)) 4 else[]
noncomputable def zOj (v:Vw):Int:=if bL v then 0 else 12
structure zQk where
 v:Vw
 seq:Int
noncomputable def encC:Con:=con1 zQk (λi=>[vwV i.v,zA i.seq]) (λ_=>[]) (λi=>zBk i.v) (λi=> .tup [roV 1 (bE (uD i.v i.seq)),zA (zOj i.v)]) (λ_=>[])
def y5o (i:zQk):List SAnn:=[
 {ι:=Nat,slots:=λj=>[(6,.nm 0 0),(28,zA j)],rows:=λj=>[Wr (le i.seq 8++[lob i.v.length]++(i.v.take j).flatMap vC)]},
 {ι:=Unit,slots:=λ_=>[],rows:=λ_=>[],un:=3},
 {ι:=List UInt8×List Lv×Nat,slots:=λx=>[(6,.nm 0 0),(44,zA x.2.2)],rows:=λx=>[Wr (x.1++(x.2.1.take x.2.2).flatMap kR)]}]
def yMb (i:I3):Prop:=
 cnd (i.side==1) (∃(o:Unit),bN i.side i.x i.y=decide (i.x>i.y)/\True) (∃(o:Unit),bN i.side i.x i.y=decide (i.x<i.y)/\True)
def lY (a:Nat) (b:Nat->Prop) (c:Nat->Nat) (d:SdI):Prop:=∃(e:Nat),(↑e:Int)=ar.wrap ((↑a:Int)+1)/\b e/\c e<c a/\dh (ac [V.own 0,V.d (dI d.s.imp.price),V.d (dI d.s.imp.qty),V.d (dI d.s.imp.count),V.d (D.v (.bool d.s.has))] 43)/\dh (ab 3 (aj lvE d.s.levels))
def fM (a:SdI):=(↑(aj lvE a.s.levels).length:Int)
def z6t (i:SdI):Prop:=
 ∃(a:Nat),(↑a:Int)=0/\∃(b:Nat->Prop),∃(c:Nat->Nat),b a/\∀(d:Nat),b d->cnd (decide ((↑d:Int)<(fM i))) ((0<=(↑d:Int)/\(↑d:Int)<(fM i))/\∃(e:Int),∃(f:Int),∃(g:Int),zE (aj lvE i.s.levels) (↑d:Int).toNat 0 3=ba [dI e,dI f,dI g]/\cnd (decide (f<1)) (∃(h:Unit),jN i.side i.s=ax/\True) (cnd (decide (g<1)) (∃(h:Unit),jN i.side i.s=ax/\True) (cnd (decide ((↑d:Int)>0)) ((0<=ar.wrap ((↑d:Int)-1)/\ar.wrap ((↑d:Int)-1)<(fM i))/\∃(h:Int),zE (aj lvE i.s.levels) (ar.wrap ((↑d:Int)-1)).toNat 0 1=ba [dI h]/\∃(j:I3),j.side=i.side/\j.x=h/\j.y=e/\True/\∀(k:Unit),True->cnd (!bN j.side j.x j.y) (∃(l:Unit),jN i.side i.s=ax/\True) (lY d b c i)) (lY d b c i)))) (cnd (!i.s.has) (cnd (decide ((fM i)<=255)) (∃(e:Unit),jN i.side i.s=(i.s.imp.price==0 && (i.s.imp.qty==0 && (i.s.imp.count==0 && ay)))/\True) (∃(e:Unit),jN i.side i.s=ax/\True)) (cnd (decide ((fM i)<=255)) (cnd (decide (i.s.imp.qty>=1)) (∃(e:Unit),jN i.side i.s=decide (i.s.imp.count>=1)/\True) (∃(e:Unit),jN i.side i.s=ax/\True)) (∃(e:Unit),jN i.side i.s=ax/\True)))
def z6s (i:Vw):Prop:=
 ∃(a:Nat),(↑a:Int)=0/\∃(b:Nat->Prop),∃(c:Nat->Nat),b a/\∀(d:Nat),b d->cnd (decide ((↑d:Int)<(↑(aj yG i).length:Int))) ((0<=(↑d:Int)/\(↑d:Int)<(↑(aj yG i).length:Int))/\∃(e:List (List D)),∃(f:Int),∃(g:Int),∃(h:Int),∃(j:Bool),∃(k:List (List D)),∃(l:Int),∃(m:Int),∃(n:Int),∃(p:Bool),zE (aj yG i) (↑d:Int).toNat 0 10=ba [D.ro 3 e,dI f,dI g,dI h,D.v (.bool j),D.ro 3 k,dI l,dI m,dI n,D.v (.bool p)]/\∃(q:SdI),q.side=1/\aj lvE q.s.levels=e/\q.s.imp.price=f/\q.s.imp.qty=g/\q.s.imp.count=h/\q.s.has=j/\q.s.levels.length<=1099511627776/\∀(r:Unit),True->cnd (!jN q.side q.s) (∃(s:Unit),bR i=ax/\True) (∃(s:SdI),s.side=2/\aj lvE s.s.levels=k/\s.s.imp.price=l/\s.s.imp.qty=m/\s.s.imp.count=n/\s.s.has=p/\s.s.levels.length<=1099511627776/\∀(t:Unit),True->cnd (!jN s.side s.s) (∃(u:Unit),bR i=ax/\True) (∃(u:Nat),(↑u:Int)=ar.wrap ((↑d:Int)+1)/\b u/\c u<c d/\dh (ac [V.own 0] 34)/\dh (ab 10 (aj yG i))))) (∃(e:Unit),bR i=decide ((↑(aj yG i).length:Int)<=255)/\True)
def y1s (i:z2y):Prop:=
 ∃(i_1:WN),i_1.n=i.v.price/\aa (List UInt8) 2 WrU i_1.l=Wr i.l/\i_1.ok/\∀(o:Unit),True->∃(i_2:WN),i_2.n=i.v.qty/\aa (List UInt8) 2 WrU i_2.l=aa (List UInt8) 2 WrU (i_1.l++le i_1.n 8)/\i_2.ok/\∀(o:Unit),True->∃(i_3:WN),i_3.n=i.v.count/\aa (List UInt8) 2 WrU i_3.l=aa (List UInt8) 2 WrU (i_2.l++le i_2.n 8)/\i_3.ok/\∀(o:Unit),True->∃(o:Unit),aa (List UInt8) 2 WrU (i.l++kR i.v)=aa (List UInt8) 2 WrU (i_3.l++le i_3.n 8)/\True
def zNx (a:zQk):Prop:=ac [V.own 0] 34=ac [V.own 0] 34/\dh (ab 10 (aj yG a.v))
def zNh (a:Nat->Prop) (b:Nat) (c:Nat->Nat) (d:Nat) (e:zQk):Prop:=a b/\c b<c d/\zNx e
def pG (a:zQk) (b:Nat):=(le a.seq 8++[lob (↑(aq a.v):Int)]++List.flatMap vC (ak b a.v))
def uB (a:List UInt8×List Lv×Nat):=(a.fst++List.flatMap kR (ak a.snd.snd a.snd.fst))
def zWf (a:Int) (b:Int) (c:Int) (d:Bool) (e:List (List D)) (f:List (List D)) (g:Int) (h:Int) (j:Int) (k:Bool) (l:zQk):Prop:=ac [V.own 5,V.d (dI a),V.d (dI b),V.d (dI c),V.d (D.v (.bool d))] 43=ac [V.own 5,V.d (dI a),V.d (dI b),V.d (dI c),V.d (D.v (.bool d))] 43/\dh (ab 3 e)/\dh (ab 3 f)/\dh (ac [V.own 5,V.d (dI a),V.d (dI b),V.d (dI c),V.d (D.v (.bool d)),V.own 6,V.d (dI g),V.d (dI h),V.d (dI j),V.d (D.v (.bool k))] 44)/\zNx l
def zUl (a:WN) (b:List (List D)) (c:Int) (d:Int) (e:Int) (f:Bool) (g:Int) (h:Int) (j:Int) (k:Bool) (l:List (List D)) (m:zQk) (n:Nat) (p:Nat->Prop) (q:Nat->Nat):Prop:=a.ok/\∀(r:Unit),True->∃(s:List UInt8×List Lv×Nat),(↑s.snd.snd:Int)=0/\aa (List UInt8) 2 WrU (uB s)=aa (List UInt8) 2 WrU (a.l++[lob a.n])/\∃(t:List UInt8×List Lv×Nat->Prop),∃(u:List UInt8×List Lv×Nat->Nat),t s/\∀(v:List UInt8×List Lv×Nat),t v->cnd (decide ((↑v.snd.snd:Int)<(↑b.length:Int))) ((0<=(↑v.snd.snd:Int)/\(↑v.snd.snd:Int)<(↑b.length:Int))/\∃(w:Int),∃(x:Int),∃(y:Int),zE b (↑v.snd.snd:Int).toNat 0 3=ba [dI w,dI x,dI y]/\∃(z:z2y),z.v.price=w/\z.v.qty=x/\z.v.count=y/\aa (List UInt8) 2 WrU z.l=aa (List UInt8) 2 WrU (uB v)/\z.l.length+(24:Nat)<=(1099511627776:Nat)/\∀(a_1:Unit),True->∃(a_2:List UInt8×List Lv×Nat),(↑a_2.snd.snd:Int)=ar.wrap ((↑v.snd.snd:Int)+1)/\aa (List UInt8) 2 WrU (uB a_2)=aa (List UInt8) 2 WrU (z.l++kR z.v)/\t a_2/\u a_2<u v/\dh (ac [V.own 6,V.d (dI c),V.d (dI d),V.d (dI e),V.d (D.v (.bool f))] 43)/\zWf g h j k b l c d e f m) (cnd (!f) (∃(w:WN),w.n=0/\aa (List UInt8) 2 WrU w.l=aa (List UInt8) 2 WrU (uB v)/\w.ok/\∀(x:Unit),True->∃(y:Nat),(↑y:Int)=ar.wrap ((↑n:Int)+1)/\aa (List UInt8) 2 WrU (pG m y)=aa (List UInt8) 2 WrU (w.l++[lob w.n])/\zNh p y q n m) (∃(w:WN),w.n=1/\aa (List UInt8) 2 WrU w.l=aa (List UInt8) 2 WrU (uB v)/\w.ok/\∀(x:Unit),True->∃(y:z2y),y.v.price=c/\y.v.qty=d/\y.v.count=e/\aa (List UInt8) 2 WrU y.l=aa (List UInt8) 2 WrU (w.l++[lob w.n])/\y.l.length+(24:Nat)<=(1099511627776:Nat)/\∀(z:Unit),True->∃(a_1:Nat),(↑a_1:Int)=ar.wrap ((↑n:Int)+1)/\aa (List UInt8) 2 WrU (pG m a_1)=aa (List UInt8) 2 WrU (y.l++kR y.v)/\zNh p a_1 q n m))
def yZn (i:zQk):Prop:=
 ∃(a:Vw),aj yG a=aj yG i.v/\(aq a<=1099511627776/\∀(b:Sd×Sd),b∈a->b.fst.levels.length<=1099511627776/\b.snd.levels.length<=1099511627776)/\∀(b:Unit),True->cnd (!bR a) (∃(c:Unit),bE (uD i.v i.seq)=[]/\zOj i.v=12/\True) (∃(c:Unit),True/\∀(d:Unit),True->∃(e:WN),e.n=i.seq/\aa (List UInt8) 2 WrU e.l=aa (List UInt8) 2 WrU []/\e.ok/\∀(f:Unit),True->∃(g:WN),g.n=(↑(aj yG i.v).length:Int)/\aa (List UInt8) 2 WrU g.l=aa (List UInt8) 2 WrU (e.l++le e.n 8)/\g.ok/\∀(h:Unit),True->∃(j:Nat),(↑j:Int)=0/\aa (List UInt8) 2 WrU (pG i j)=aa (List UInt8) 2 WrU (g.l++[lob g.n])/\∃(k:Nat->Prop),∃(l:Nat->Nat),k j/\∀(m:Nat),k m->cnd (decide ((↑m:Int)<(↑(aj yG i.v).length:Int))) ((0<=(↑m:Int)/\(↑m:Int)<(↑(aj yG i.v).length:Int))/\∃(n:List (List D)),∃(p:Int),∃(q:Int),∃(r:Int),∃(s:Bool),∃(t:List (List D)),∃(u:Int),∃(v:Int),∃(w:Int),∃(x:Bool),zE (aj yG i.v) (↑m:Int).toNat 0 10=ba [D.ro 3 n,dI p,dI q,dI r,D.v (.bool s),D.ro 3 t,dI u,dI v,dI w,D.v (.bool x)]/\∃(y:WN),y.n=(↑n.length:Int)/\aa (List UInt8) 2 WrU y.l=aa (List UInt8) 2 WrU (pG i m)/\y.ok/\∀(z:Unit),True->∃(a_1:List UInt8×List Lv×Nat),(↑a_1.snd.snd:Int)=0/\aa (List UInt8) 2 WrU (uB a_1)=aa (List UInt8) 2 WrU (y.l++[lob y.n])/\∃(a_2:List UInt8×List Lv×Nat->Prop),∃(a_3:List UInt8×List Lv×Nat->Nat),a_2 a_1/\∀(a_4:List UInt8×List Lv×Nat),a_2 a_4->cnd (decide ((↑a_4.snd.snd:Int)<(↑n.length:Int))) ((0<=(↑a_4.snd.snd:Int)/\(↑a_4.snd.snd:Int)<(↑n.length:Int))/\∃(a_5:Int),∃(a_6:Int),∃(a_7:Int),zE n (↑a_4.snd.snd:Int).toNat 0 3=ba [dI a_5,dI a_6,dI a_7]/\∃(a_8:z2y),a_8.v.price=a_5/\a_8.v.qty=a_6/\a_8.v.count=a_7/\aa (List UInt8) 2 WrU a_8.l=aa (List UInt8) 2 WrU (uB a_4)/\a_8.l.length+(24:Nat)<=(1099511627776:Nat)/\∀(a_9:Unit),True->∃(a_10:List UInt8×List Lv×Nat),(↑a_10.snd.snd:Int)=ar.wrap ((↑a_4.snd.snd:Int)+1)/\aa (List UInt8) 2 WrU (uB a_10)=aa (List UInt8) 2 WrU (a_8.l++kR a_8.v)/\a_2 a_10/\a_3 a_10<a_3 a_4/\zWf p q r s t n u v w x i) (cnd (!s) (∃(a_5:WN),a_5.n=0/\aa (List UInt8) 2 WrU a_5.l=aa (List UInt8) 2 WrU (uB a_4)/\a_5.ok/\∀(a_6:Unit),True->∃(a_7:WN),a_7.n=(↑t.length:Int)/\aa (List UInt8) 2 WrU a_7.l=aa (List UInt8) 2 WrU (a_5.l++[lob a_5.n])/\zUl a_7 t u v w x p q r s n i m k l) (∃(a_5:WN),a_5.n=1/\aa (List UInt8) 2 WrU a_5.l=aa (List UInt8) 2 WrU (uB a_4)/\a_5.ok/\∀(a_6:Unit),True->∃(a_7:z2y),a_7.v.price=p/\a_7.v.qty=q/\a_7.v.count=r/\aa (List UInt8) 2 WrU a_7.l=aa (List UInt8) 2 WrU (a_5.l++[lob a_5.n])/\a_7.l.length+(24:Nat)<=(1099511627776:Nat)/\∀(a_8:Unit),True->∃(a_9:WN),a_9.n=(↑t.length:Int)/\aa (List UInt8) 2 WrU a_9.l=aa (List UInt8) 2 WrU (a_7.l++kR a_7.v)/\zUl a_9 t u v w x p q r s n i m k l))) (∃(n:List UInt8),aa (List UInt8) 2 WrU n=aa (List UInt8) 2 WrU (pG i m)/\n.length<=1099511627776/\∀(p:Unit),True->∃(q:List UInt8),bE q=bE n/\q.length<=1099511627776/\∀(r:Unit),True->∃(s:WN),s.n=mA q/\aa (List UInt8) 2 WrU s.l=aa (List UInt8) 2 WrU n/\(s.l.length+(8:Nat)<=(1099511627776:Nat)/\0<=s.n/\s.n<4294967296)/\∀(t:Unit),True->∃(u:List UInt8),aa (List UInt8) 2 WrU u=aa (List UInt8) 2 WrU (s.l++le s.n 4)/\u.length<=1099511627776/\∀(v:Unit),True->∃(w:Unit),bE (uD i.v i.seq)=bE u/\zOj i.v=0/\True))
def yBy {α:Type} {f:α->List D} {l:List α} {i n:Nat} {x:α} (h:l[i]? =ba x) (hn:(f x).length=n):zE (l.map f) i 0 n=ba (f x):=by
 unfold zE;rw[y7k,h];simp only[y7w,y6t,hn,Nat.ble_eq_true_of_le (y6p n),cond_true,y9i];rw[<- hn,y6f (y6p _)]
def yZw {α:Type} {f:α->List D} {l:List α} {i g n:Nat} {x:α} {r:List D} (h:l[i]? =ba x) (hn:g+n<=(f x).length) (hr:((f x).drop g).take n=r):zE (l.map f) i g n=ba r:=by
 unfold zE;rw[y7k,h];simp only[y7w,Nat.ble_eq_true_of_le hn,cond_true,hr]
def getD {α:Type} {l:List α} {i:Nat} (h:i<l.length):∃x,l[i]? =ba x:=⟨_,y6v h⟩
def zSu:betterC.ok Tryz.prog 58:=okw (V:=yMb) mixed gok0 0 (λ_=>[]) (λ_=>[]) [] Tryz.func58 λ(i:I3) _=>by
 refine Cv.cnd.mk (λe=>⟨(),?_,trivial⟩) (λe=>⟨(),?_,trivial⟩)
 ·have e:i.side=1:=by simpa using e
  simp[bN,e]
 ·have e:i.side≠1:=by simpa using e
  simp[bN,e]
def sdF {side:Int} {s:Sd} (h:¬SdRight side s):jN side s=ax:=y6g h
def LvAt.of {side:Int} {l:List Lv} {i:Nat} {x:Lv} (hx:l[i]? =ba x) (h1:1<=x.qty) (h2:1<=x.count) (h3:∀j b,i=j+1->l[j]? =ba b->bN side b.price x.price=ay):LvAt side l i:=by
 intro a ha;rw[hx]at ha;cases ha;exact⟨h1,h2,h3⟩
def yLo (i:SdI) (h:srightC.cnd i):z6t i:=by
 unfold z6t fM lY dI;have h:i.s.levels.length<=1099511627776:=h;refine⟨0,rfl,λj=>j<=i.s.levels.length/\∀k,k<j->LvAt i.side i.s.levels k,λj=>i.s.levels.length-j,⟨oM,by intro k hk;omega⟩,λj hj=>zH (λhlt=> ?_) (λhlt=> ?_)⟩
 ·obtain⟨hj1,hj2⟩:=hj;rw[y5u]at hlt ⊢;obtain⟨x,hx⟩:=getD (l:=i.s.levels) (i:=j) oM;have w1:ar.wrap ((j:Int)+1)=((j+1:Nat):Int):=by rw[w64 (by omega)];rfl
  have next:LvAt i.side i.s.levels j->(λj=>j<=i.s.levels.length/\∀k,k<j->LvAt i.side i.s.levels k) (j+1):=λhl=>⟨oM,λk hk=>by
   rcases y8c k j with h'|h'
   ·exact hj2 k h'
   ·obtain rfl:k=j:=by omega
    exact hl⟩
  refine⟨⟨oM,oM⟩,x.price,x.qty,x.count,yBy hx rfl,zH (λhq=> ?_) (λhq=>zH (λhc=> ?_) (λhc=>zH (λhp=> ?_) (λhp=> ?_)))⟩
  ·exact⟨(),sdF λhr=>by have:=(hr.1 j x hx).1;omega,trivial⟩
  ·exact⟨(),sdF λhr=>by have:=(hr.1 j x hx).2.1;omega,trivial⟩
  ·have w0:ar.wrap ((j:Int)-1)=((j-1:Nat):Int):=by rw[w64 (by omega)];omega
   obtain⟨y,hy⟩:=getD (l:=i.s.levels) (i:=j-1) oM;refine⟨⟨by rw[w0];omega,by rw[w0];omega⟩,y.price,by rw[w0];exact yZw (n:=1) hy (by show 0+0+1<=3;omega) rfl,⟨i.side,y.price,x.price⟩,rfl,rfl,rfl,trivial,λ_ _=> ?_⟩;refine Cv.cnd.mk (λhb=>⟨(),sdF λhr=> ?_,trivial⟩) (λhb=>⟨j+1,w1.symm,next (LvAt.of hx oM oM ?_),Z9,k0q⟩)
   ·have:=(hr.1 j x hx).2.2 (j-1) y oM hy;simp only[y9g]at hb;rw[hb]at this;cases this
   ·intro k b hk hb';obtain rfl:k=j-1:=by omega
    rw[hy]at hb';cases hb';simpa using hb
  ·exact⟨j+1,w1.symm,next (LvAt.of hx oM oM λk b hk _=>by omega),Z9,k0q⟩
 ·obtain⟨hj1,hj2⟩:=hj;rw[y5u]at hlt ⊢;obtain rfl:j=i.s.levels.length:=by omega
  have hall:∀k,LvAt i.side i.s.levels k:=λk=>by
   rcases y8c k i.s.levels.length with h'|h'
   ·exact hj2 k h'
   ·intro a ha;rw[y7a h']at ha;cases ha
  refine Cv.cnd.mk (λhh=>zH (λhl=>⟨(),?_,trivial⟩) (λhl=>⟨(),sdF λhr=>by have:=hr.2.1;omega,trivial⟩))
   (λhh=>zH (λhl=>zH (λhq=>⟨(),?_,trivial⟩) (λhq=>⟨(),sdF λhr=> ?_,trivial⟩)) (λhl=>⟨(),sdF λhr=>by have:=hr.2.1;omega,trivial⟩))
  ·have hh:i.s.has=ax:=by simpa using hh
   rw[xBv];simp only[jN,y7i,y6h,beq_iff_eq,and_true];constructor
   ·intro hr;have:=hr.2.2.2 hh;rw[this];exact⟨rfl,rfl,rfl⟩
   ·rintro⟨e1,e2,e3⟩;refine⟨hall,oM,(λhc=>by rw[hh]at hc;cases hc),λ_=> ?_⟩;cases hi:i.s.imp;rw[hi]at e1 e2 e3;simp_all
  ·have hh:i.s.has=ay:=by simpa using hh
   rw[xBv];simp only[jN,y7i];exact⟨λhr=>(hr.2.2.1 hh).2,λhc=>⟨hall,oM,λ_=>⟨hq,hc⟩,λhc=>by rw[hh]at hc;cases hc⟩⟩
  ·have hh:i.s.has=ay:=by simpa using hh
   have:=(hr.2.2.1 hh).1;omega
def yCy:srightC.ok Tryz.prog 78:=okw mixed (gokc zSu gok0) 0 (λ_=>[]) (λ_=>yNa) [] Tryz.func78 yLo
def vwF {v:Vw} (h:¬bL v):bR v=ax:=y6g h
def yPo (v:Vw) (h:rightVC.cnd v):z6s v:=by
 unfold z6s dI;obtain⟨h1,h2⟩:zBk v:=h;refine⟨0,rfl,λj=>j<=v.length/\∀k b,k<j->v[k]? =ba b->SdRight 1 b.1/\SdRight 2 b.2,λj=>v.length-j,⟨oM,by intro k b hk;omega⟩,λj hj=>zH (λhlt=> ?_) (λhlt=> ?_)⟩
 ·obtain⟨hj1,hj2⟩:=hj;rw[y5u]at hlt ⊢;obtain⟨x,hx⟩:=getD (l:=v) (i:=j) oM;have hm:=y6e hx;have w1:ar.wrap ((j:Int)+1)=((j+1:Nat):Int):=by rw[w64 (by omega)];rfl
  refine⟨⟨oM,oM⟩,_,_,_,_,_,_,_,_,_,_,yBy hx rfl,⟨1,x.1⟩,rfl,rfl,rfl,rfl,rfl,rfl,(h2 x hm).1,λ_ _=>Cv.cnd.mk (λhb=> ?_) (λhb=>⟨⟨2,x.2⟩,rF5 ⟨rfl,(h2 x hm).2,λ_ _=>Cv.cnd.mk (λhb2=> ?_) (λhb2=> ?_)⟩⟩)⟩
  ·refine⟨(),vwF λhr=> ?_,trivial⟩;simp only[y9g,jN,decide_eq_false_iff_not]at hb;exact hb (hr.1 x hm).1
  ·refine⟨(),vwF λhr=> ?_,trivial⟩;simp only[y9g,jN,decide_eq_false_iff_not]at hb2;exact hb2 (hr.1 x hm).2
  ·simp only[Bool.not_eq_false',jN,y7i]at hb hb2;refine⟨j+1,w1.symm,⟨oM,λk b hk hb'=> ?_⟩,Z9,k0q⟩;rcases y8c k j with h'|h'
   ·exact hj2 k b h' hb'
   ·obtain rfl:k=j:=by omega
    rw[hx]at hb';cases hb';exact⟨hb,hb2⟩
 ·obtain⟨hj1,hj2⟩:=hj;rw[y5u]at hlt ⊢;obtain rfl:j=v.length:=by omega
  refine⟨(),?_,trivial⟩;rw[xBv];simp only[bR,y7i];constructor
  ·intro hr;have:=hr.2;omega
  ·intro hr;refine⟨λb hb=> ?_,oM⟩;obtain⟨k,hk⟩:=xBg hb;exact hj2 k b (y5x.1 hk).1 hk
def yBn:rightVC.ok Tryz.prog 23:=okw mixed (gokc yCy gok0) 0 (λ_=>[]) (λ_=>yLv) [] Tryz.func23 yPo
def yPv:putLC.ok Tryz.prog 69:=okw (V:=y1s) mixed (gokc z8y gok0) 0 (λ_=>[]) (λ_=>[]) [] Tryz.func69 λ(i:z2y) h=>by
 have h:i.l.length+24<=1099511627776:=h;refine⟨⟨i.l,i.v.price⟩,rfl,rfl,(show i.l.length+8<=1099511627776 by omega),λ_ _=>⟨⟨i.l++le i.v.price 8,i.v.qty⟩,rfl,rfl,?_,λ_ _=>⟨⟨i.l++le i.v.price 8++le i.v.qty 8,i.v.count⟩,rfl,rfl,?_,λ_ _=>⟨(),?_,trivial⟩⟩⟩⟩
 ·show _+8<=_;rw[y5s,qM];omega
 ·show _+8<=_;rw[y5s,y5s,qM,qM];omega
 ·simp only[kR,y6a]
def zNs {α:Type} {f:α->List UInt8} {c:Nat}:∀{l:List α},(∀x∈l,(f x).length<=c)->(l.flatMap f).length<=c*l.length
 |[],_=>by simp
 |a::l,h=>by
  have h1:=h a (by simp);have h2:=zNs (l:=l) λx hx=>h x (by simp[hx])
  simp only[y7o,y5s,y5y,Nat.mul_add,Nat.mul_one];omega
def pR {α β:Type} {f:α->List β} {l:List α} {k:Nat} {x:α} (h:l[k]? =ba x):(l.take (k+1)).flatMap f=(l.take k).flatMap f++f x:=by
 rw[y7c,h];simp
def zSq (l:Lv):(kR l).length=24:=by simp[kR,qM]
def rO (l:List Lv):(l.flatMap kR).length<=24*l.length:=zNs λx _=>by rw[zSq];omega
def zHc {s:Sd} (h:s.levels.length<=255):(zEw s).length<=6146:=by
 have:=rO s.levels;unfold zEw;rw[y5s,y5s,y7v];split
 ·rw[y5s,zSq,y7v];omega
 ·rw[y7v];omega
def SdRight.len {n:Int} {s:Sd} (h:SdRight n s):s.levels.length<=255:=h.2.1
def z1b {v:Vw} (h:bL v) (j:Nat):((v.take j).flatMap vC).length<=3134460:=by
 have h1:∀x∈v.take j,(vC x).length<=12292:=λx hx=>by
  have:=h.1 x (xAn hx);have a:=zHc this.1.len;have b:=zHc this.2.len;unfold vC;rw[y5s];omega
 have h2:=zNs h1;have h3:=h.2;rw[y6l]at h2;omega
def yCl (n:Int):0<=av.wrap n/\av.wrap n<4294967296:=by
 have:av.wrap n=n % 4294967296:=rfl;rw[this];omega
def eV (l:List UInt8):0<=mA l/\mA l<4294967296:=yCl _
def y3l (i:zQk) (h:encC.cnd i):yZn i:=by
 unfold yZn zUl zWf uB pG zNh zNx dI;refine⟨i.v,rfl,h,λ_ _=>Cv.cnd.mk (λe=> ?_) (λe=> ?_)⟩
 ·have hn:¬bL i.v:=by simpa[bR]using e
  exact⟨(),by rw[uD,y5t hn];rfl,by rw[zOj,y5t hn],trivial⟩
 have hr:bL i.v:=by simpa[bR]using e
 have hB:∀j,(le i.seq 8++[lob i.v.length]++(i.v.take j).flatMap vC).length<=3134470:=λj=>by
  have:=z1b hr j;simp only[y5s,qM,y5y,y7n];omega
 refine⟨(),trivial,λ_ _=>⟨⟨[],i.seq⟩,rfl,rfl,(show 0+8<=1099511627776 by omega),λ_ _=>⟨⟨le i.seq 8,i.v.length⟩,by rw[y5u],rfl,(show(le i.seq 8).length+8<=1099511627776 by rw[qM];omega),λ_ _=>⟨0,rfl,by simp,λj=>j<=i.v.length,λj=>i.v.length-j,Z9,λj hj=>zH (λhlt=> ?_) (λhlt=> ?_)⟩⟩⟩⟩
 ·dsimp only at hj;rw[y5u]at hlt ⊢;obtain⟨x,hx⟩:=getD (l:=i.v) (i:=j) oM;have hm:=hr.1 x (y6e hx);have l1:=hm.1.len;have l2:=hm.2.len;have hl:=hr.2;have w1:ar.wrap ((j:Int)+1)=((j+1:Nat):Int):=by rw[w64 (by omega)];rfl
  have hBj:=hB j;have hBs:le i.seq 8++[lob i.v.length]++(i.v.take (j+1)).flatMap vC=le i.seq 8++[lob i.v.length]++(i.v.take j).flatMap vC++vC x:=by
   rw[pR hx];simp only[y6a]
  generalize hb:le i.seq 8++[lob i.v.length]++(i.v.take j).flatMap vC=B at hBj hBs;have lv:∀(C:List UInt8) (l:List Lv) (k:Nat),C.length<=5000000->l.length<=255->((C++(l.take k).flatMap kR).length+24<=1099511627776):=λC l k hC hl=>by
   have:=rO (l.take k);rw[y5s];rw[y6l]at this;omega
  have lw:∀(k:Nat),k<255->ar.wrap ((k:Int)+1)=((k+1:Nat):Int):=λk hk=>by rw[w64 (by omega)];rfl
  have le1:=rO x.1.levels;have le2:=rO x.2.levels;refine⟨⟨oM,oM⟩,_,_,_,_,_,_,_,_,_,_,yBy hx rfl,⟨B,x.1.levels.length⟩,by rw[y5u],rfl,by show B.length+8<=_;omega,λ_ _=>⟨(B++[lob x.1.levels.length],x.1.levels,0),rfl,by simp,λy=>∃k,k<=x.1.levels.length/\y=(B++[lob x.1.levels.length],x.1.levels,k),λy=>x.1.levels.length-y.2.2,⟨0,oM,k0q⟩,?_⟩⟩;rintro _ ⟨k,hk,rfl⟩;dsimp only;refine zH (λhlt1=> ?_) (λhlt1=> ?_)
  ·rw[y5u]at hlt1 ⊢;obtain⟨y,hy⟩:=getD (l:=x.1.levels) (i:=k) oM;refine⟨⟨oM,oM⟩,_,_,_,yBy hy rfl,⟨_,y⟩,rfl,rfl,rfl,rfl,lv _ _ _ (by rw[y5s];simp;omega) l1,λ_ _=>⟨(_,_,k+1),(lw k oM).symm,?_,⟨k+1,oM,k0q⟩,Z9,k0q⟩⟩;dsimp only;rw[pR hy];simp only[y6a]
  ·rw[y5u]at hlt1;obtain rfl:k=x.1.levels.length:=by omega
   rw[y6f (y6p _)];have e1:zEw x.1=[lob x.1.levels.length]++x.1.levels.flatMap kR++(if x.1.has then[lob 1]++kR x.1.imp else[lob 0]):=rfl;have e2:zEw x.2=[lob x.2.levels.length]++x.2.levels.flatMap kR++(if x.2.has then[lob 1]++kR x.2.imp else[lob 0]):=rfl;have bl:∀C:List UInt8,C=B++zEw x.1->C.length<=4000000:=λC e=>by
    subst e;have:=zHc l1;rw[y5s];omega
   refine Cv.cnd.mk (λhh=> ?_) (λhh=> ?_)
   ·have hh:x.1.has=ax:=by simpa using hh
    rw[hh,y5t (by simp)]at e1;refine⟨⟨B++[lob x.1.levels.length]++x.1.levels.flatMap kR,0⟩,rfl,rfl,(by dsimp only[WN.ok];simp only[y5s,y5y,y7n];omega),λ_ _=> ?_⟩;have eC:B++[lob x.1.levels.length]++x.1.levels.flatMap kR++[lob 0]=B++zEw x.1:=by rw[e1];simp only[y6a]
    generalize B++[lob x.1.levels.length]++x.1.levels.flatMap kR++[lob 0]=C at eC
    (
    have hC:=bl C eC;refine⟨⟨C,x.2.levels.length⟩,by rw[y5u],rfl,(show C.length+8<=1099511627776 by omega),λ_ _=>⟨(C++[lob x.2.levels.length],x.2.levels,0),rfl,by simp,λy=>∃k,k<=x.2.levels.length/\y=(C++[lob x.2.levels.length],x.2.levels,k),λy=>x.2.levels.length-y.2.2,⟨0,oM,k0q⟩,?_⟩⟩;rintro _ ⟨k,hk,rfl⟩;dsimp only;refine zH (λhlt2=> ?_) (λhlt2=> ?_)
    ·rw[y5u]at hlt2 ⊢;obtain⟨y,hy⟩:=getD (l:=x.2.levels) (i:=k) oM;refine⟨⟨oM,oM⟩,_,_,_,yBy hy rfl,⟨_,y⟩,rfl,rfl,rfl,rfl,lv _ _ _ (by rw[y5s];simp;omega) l2,λ_ _=>⟨(_,_,k+1),(lw k oM).symm,?_,⟨k+1,oM,k0q⟩,Z9,k0q⟩⟩;dsimp only;rw[pR hy];simp only[y6a]
    ·rw[y5u]at hlt2;obtain rfl:k=x.2.levels.length:=by omega
     rw[y6f (y6p _)];refine Cv.cnd.mk (λhh2=> ?_) (λhh2=> ?_)
     ·have hh2:x.2.has=ax:=by simpa using hh2
      rw[hh2,y5t (by simp)]at e2;refine⟨⟨C++[lob x.2.levels.length]++x.2.levels.flatMap kR,0⟩,rfl,rfl,(by dsimp only[WN.ok];simp only[y5s,y5y,y7n];omega),λ_ _=>⟨j+1,w1.symm,?_,oM,oM,k0q⟩⟩;rw[hBs,vC,<- y6a,<- eC,e2];simp only[y6a]
     ·have hh2:x.2.has=ay:=by simpa using hh2
      rw[hh2,y5v rfl]at e2;refine⟨⟨C++[lob x.2.levels.length]++x.2.levels.flatMap kR,1⟩,rfl,rfl,(by dsimp only[WN.ok];simp only[y5s,y5y,y7n];omega),λ_ _=>⟨⟨_,x.2.imp⟩,rfl,rfl,rfl,rfl,(by simp only[y5s,y5y,y7n];omega),λ_ _=>⟨j+1,w1.symm,?_,oM,oM,k0q⟩⟩⟩;rw[hBs,vC,<- y6a,<- eC,e2];simp only[y6a])
   ·have hh:x.1.has=ay:=by simpa using hh
    rw[hh,y5v rfl]at e1;refine⟨⟨B++[lob x.1.levels.length]++x.1.levels.flatMap kR,1⟩,rfl,rfl,(by dsimp only[WN.ok];simp only[y5s,y5y,y7n];omega),λ_ _=>⟨⟨_,x.1.imp⟩,rfl,rfl,rfl,rfl,(by simp only[y5s,y5y,y7n];omega),λ_ _=> ?_⟩⟩;have eC:B++[lob x.1.levels.length]++x.1.levels.flatMap kR++[lob 1]++kR x.1.imp=B++zEw x.1:=by rw[e1];simp only[y6a]
    generalize B++[lob x.1.levels.length]++x.1.levels.flatMap kR++[lob 1]++kR x.1.imp=C at eC
    (
    have hC:=bl C eC;refine⟨⟨C,x.2.levels.length⟩,by rw[y5u],rfl,(show C.length+8<=1099511627776 by omega),λ_ _=>⟨(C++[lob x.2.levels.length],x.2.levels,0),rfl,by simp,λy=>∃k,k<=x.2.levels.length/\y=(C++[lob x.2.levels.length],x.2.levels,k),λy=>x.2.levels.length-y.2.2,⟨0,oM,k0q⟩,?_⟩⟩;rintro _ ⟨k,hk,rfl⟩;dsimp only;refine zH (λhlt2=> ?_) (λhlt2=> ?_)
    ·rw[y5u]at hlt2 ⊢;obtain⟨y,hy⟩:=getD (l:=x.2.levels) (i:=k) oM;refine⟨⟨oM,oM⟩,_,_,_,yBy hy rfl,⟨_,y⟩,rfl,rfl,rfl,rfl,lv _ _ _ (by rw[y5s];simp;omega) l2,λ_ _=>⟨(_,_,k+1),(lw k oM).symm,?_,⟨k+1,oM,k0q⟩,Z9,k0q⟩⟩;dsimp only;rw[pR hy];simp only[y6a]
    ·rw[y5u]at hlt2;obtain rfl:k=x.2.levels.length:=by omega
     rw[y6f (y6p _)];refine Cv.cnd.mk (λhh2=> ?_) (λhh2=> ?_)
     ·have hh2:x.2.has=ax:=by simpa using hh2
      rw[hh2,y5t (by simp)]at e2;refine⟨⟨C++[lob x.2.levels.length]++x.2.levels.flatMap kR,0⟩,rfl,rfl,(by dsimp only[WN.ok];simp only[y5s,y5y,y7n];omega),λ_ _=>⟨j+1,w1.symm,?_,oM,oM,k0q⟩⟩;rw[hBs,vC,<- y6a,<- eC,e2];simp only[y6a]
     ·have hh2:x.2.has=ay:=by simpa using hh2
      rw[hh2,y5v rfl]at e2;refine⟨⟨C++[lob x.2.levels.length]++x.2.levels.flatMap kR,1⟩,rfl,rfl,(by dsimp only[WN.ok];simp only[y5s,y5y,y7n];omega),λ_ _=>⟨⟨_,x.2.imp⟩,rfl,rfl,rfl,rfl,(by simp only[y5s,y5y,y7n];omega),λ_ _=>⟨j+1,w1.symm,?_,oM,oM,k0q⟩⟩⟩;rw[hBs,vC,<- y6a,<- eC,e2];simp only[y6a])
 ·dsimp only at hj;rw[y5u]at hlt;obtain rfl:j=i.v.length:=by omega
  have hBj:=hB i.v.length;rw[y6f (y6p _)]at hBj ⊢;have hc:=eV (bQ i.v i.seq);have hl:(bQ i.v i.seq).length<=3134470:=hBj;have hl2:(bQ i.v i.seq++le (mA (bQ i.v i.seq)) 4).length<=1099511627776:=by rw[y5s,qM];omega
  exact⟨bQ i.v i.seq,rfl,oM,λ_ _=>⟨bQ i.v i.seq,rfl,oM,λ_ _=>⟨⟨bQ i.v i.seq,_⟩,rfl,rfl,⟨Z9,hc.1,hc.2⟩,λ_ _=>⟨_,rfl,hl2,λ_ _=>⟨(),by rw[uD,y5v hr];rfl,by rw[zOj,y5v hr],trivial⟩⟩⟩⟩⟩
def yWm:encC.ok Tryz.prog 21:=okw mixed (gokc yBn (gokc z6k (gokc z8y (gokc z8s (gokc yPv (gokc z6g (gokc z2f (gokc yEh gok0)))))))) 0 (λ_=>[]) (λi=>y5o i) [] Tryz.func21 y3l
@[reducible] def tBy:Nat:=53
def rcE (l:List UInt8):List D:=[.ro 1 (bE l)]
def growC:Con:=con1 Nat (λn=>[.d (.v (.slice bc 0 0)),zA n]) (λ_=>[]) (λn=>1<=n/\n<=1099511627776) (λ_=> .own 0) (λ_=>[.own tU8 1 []])
def flatC:Con:=con1 (List (List UInt8)) (λls=>[roV 1 (ls.map rcE)]) (λ_=>[]) (λls=>1<=ls.flatten.length/\ls.flatten.length<=1099511627776/\ls.length<=1000) (λ_=> .own 0) (λls=>[.own tU8 1 (bE ls.flatten)])
def ySa (ls:List (List UInt8)):List SAnn:=[
 {ι:=Nat,slots:=λk=>[(3,zA (ls.take k).flatten.length),(11,zA k)],rows:=λ_=>[]},
 {ι:=Nat,slots:=λk=>[(6,.own 0),(27,zA k)],rows:=λk=>[.own tU8 1 (bE (ls.take k).flatten)]}]
structure Dk where
 b:List UInt8
 safe:Nat
def DkU (d:Dk):Nat->AObj
 |0=> .cells [.own 1,zA d.safe] 163
 |1=> .own tU8 1 (bE d.b)
 |_=> .gone
def DkR (d:Dk):AObj:= .adt Dk 2 DkU d
@[reducible] def Dk.ok (d:Dk):Prop:=d.safe<=d.b.length/\d.b.length<=1048576
structure DbI where
 d:Dk
 l:List UInt8
structure DnI where
 d:Dk
 n:Int
def dnewC:Con:=con1 Unit (λ_=>[]) (λ_=>[]) (λ_=>True) (λ_=> .nm 0 0) (λ_=>[DkR ⟨[],0⟩])
def dappC:Con:=con1 DbI (λi=>[.nm 0 0,roV 1 (bE i.l)]) (λi=>[DkR i.d]) (λi=>i.d.b.length+i.l.length<=1048576) (λ_=>zA 0) (λi=>[DkR ⟨i.d.b++i.l,i.d.safe⟩])
def dsynC:Con:=con1 Dk (λ_=>[.nm 0 0]) (λd=>[DkR d]) (λd=>d.ok) (λ_=>nK) (λd=>[DkR ⟨d.b,d.b.length⟩])
def dbytC:Con:=con1 Dk (λ_=>[.nm 0 0]) (λd=>[DkR d]) (λd=>d.ok) (λ_=> .own 1) (λd=>[DkR d,.own tU8 1 (bE d.b)])
def cloneBN:Con:=con1 (List (List D)) (λl=>[roV 1 l]) (λ_=>[]) (λl=>l.length<=140737488355328) (λ_=> .own 0) (λl=>[.own tU8 1 l])
def dswpC:Con:=con1 DbI (λi=>[.nm 0 0,roV 1 (bE i.l)]) (λi=>[DkR i.d]) (λi=>i.l.length<=1048576) (λ_=>zA 0) (λi=>[DkR ⟨i.l,i.l.length⟩])
def Dk.keep (d:Dk) (n:Int):Nat:=d.safe+(min (max n 0) ((d.b.length:Int)-d.safe)).toNat
def dcraC:Con:=con1 DnI (λi=>[.nm 0 0,zA i.n]) (λi=>[DkR i.d]) (λi=>i.d.ok) (λ_=>nK) (λi=>[DkR ⟨i.d.b.take (i.d.keep i.n),i.d.keep i.n⟩])
def xI (l:List UInt8):List UInt8:=lob l.length::UInt8.ofNat (255-l.length)::(l++le (mA l) 4)
def frameC:Con:=con1 (List UInt8) (λl=>[roV 1 (bE l)]) (λ_=>[]) (λl=>l.length<=255) (λ_=> .tup [.own 0,zA 0]) (λl=>[.own tU8 1 (bE (xI l))])
def yTh:List (Nat×SAnn):=[(20,{ι:=Unit,slots:=λ_=>[],rows:=λ_=>[],opn:=[4]})]
def zCx (l:List UInt8):List UInt8×Nat×Int:=
 if l.length<2 then([],0,10)else if(l.getD 1 0).toNat≠255-(l.getD 0 0).toNat then([],0,14)else
 if l.length<6+(l.getD 0 0).toNat then([],0,10)else
 if kB ((l.drop (2+(l.getD 0 0).toNat)).take 4)≠mA ((l.drop 2).take (l.getD 0 0).toNat)then([],0,14)else
 ((l.drop 2).take (l.getD 0 0).toNat,6+(l.getD 0 0).toNat,0)
structure OpI where
 b:List UInt8
 k:Nat
def OpI.x (i:OpI):List UInt8×Nat×Int:=zCx (i.b.drop i.k)
def zZt:V:= .d (.v (.slice bc 0 0))
def wopC:Con where
 ι:=OpI
 pat:=λi=>[roV 1 (bE i.b),zA i.k]
 pre:=λ_=>[]
 cnd:=λi=>i.k<=i.b.length/\i.b.length<=1099511627776
 alts:=λi=>[{o:=Unit,res:=λ_=> .tup [.own 0,zA (i.k+i.x.2.1),zA 0],post:=λ_=>[.own tU8 1 (bE i.x.1)],rel:=λ_=>i.x.2.2=0},
  {o:=Unit,res:=λ_=> .tup [zZt,zA 0,zA i.x.2.2],post:=λ_=>[],rel:=λ_=>i.x.2.2≠0}]
def fsB (L:List (List UInt8)):List UInt8:=L.flatMap xI
structure ScI where
 L:List (List UInt8)
 t:List UInt8
@[reducible] def ScI.ok (i:ScI):Prop:=(∀l∈i.L,l.length<=255)/\(zCx i.t).2.2=10/\(fsB i.L).length+i.t.length<=1048576
@[reducible] def rcR (L:List (List UInt8)):AObj:= .own tBy 1 (L.map rcE)
def scanC:Con:=con1 ScI (λi=>[roV 1 (bE (fsB i.L++i.t))]) (λ_=>[]) (λi=>i.ok) (λi=> .tup [.own 0,zA (fsB i.L).length,zA 0]) (λi=>[rcR i.L])
def y1q (i:ScI):List SAnn:=[{ι:=Nat,slots:=λk=>[(5,.own 0),(6,zA (fsB (i.L.take k)).length)],rows:=λk=>[rcR (i.L.take k)]}]
def jnR (d:Nat) (n:Int):AObj:= .cells [.nm d 0,zA n] 232
structure JoI where
 s:Nat
 L:List (List UInt8)
 t:List UInt8
def JoI.d (i:JoI):Dk:=⟨fsB i.L++i.t,i.s⟩
def JoI.d' (i:JoI):Dk:=if i.t=[]then i.d else⟨fsB i.L,(fsB i.L).length⟩
def jopC:Con:=con1 JoI (λ_=>[.nm 0 0]) (λi=>[DkR i.d]) (λi=>(ScI.mk i.L i.t).ok/\i.d.ok) (λ_=> .tup [.nm 1 0,.own 2,zA 0]) (λi=>[DkR i.d',jnR 0 i.L.length,rcR i.L])
structure JaI where
 d:Dk
 n:Int
 l:List UInt8
def jappC:Con:=con1 JaI (λi=>[.nm 0 0,roV 1 (bE i.l)]) (λi=>[jnR 1 i.n,DkR i.d]) (λi=>i.l.length<=255/\i.d.b.length+i.l.length+6<=1048576/\0<=i.n/\i.n<=1048576) (λ_=>zA 0) (λi=>[jnR 1 (i.n+1),DkR ⟨i.d.b++xI i.l,i.d.safe⟩])
def jsynC:Con:=con1 JaI (λi=>[.nm 0 0]) (λi=>[jnR 1 i.n,DkR i.d]) (λi=>i.d.ok) (λ_=>nK) (λi=>[jnR 1 i.n,DkR ⟨i.d.b,i.d.b.length⟩])
def aH (a:Nat) (b:List (List UInt8)):=(↑(ak a b).flatten.length:Int)
def z8o (ls:List (List UInt8)):Prop:=
 ∃(a:Nat),(aH a ls)=0/\(↑a:Int)=0/\∃(b:Nat->Prop),∃(c:Nat->Nat),b a/\∀(d:Nat),b d->cnd (decide ((↑d:Int)<(↑(aj rcE ls).length:Int))) ((0<=(↑d:Int)/\(↑d:Int)<(↑(aj rcE ls).length:Int))/\∃(e:List (List D)),zE (aj rcE ls) (↑d:Int).toNat 0 1=ba [D.ro 1 e]/\cnd (decide (ar.wrap ((aH d ls)+(↑e.length:Int))<0)) False (∃(f:Nat),(aH f ls)=ar.wrap ((aH d ls)+(↑e.length:Int))/\kE f d b c)) (∃(e:Nat),True/\(↑e:Int)=(aH d ls)/\(1<=e/\e<=1099511627776)/\∀(f:Unit),True->∃(g:Nat),(↑g:Int)=0/\bE (ak g ls).flatten=[]/\∃(h:Nat->Prop),∃(j:Nat->Nat),h g/\∀(k:Nat),h k->cnd (decide ((↑k:Int)<(↑(aj rcE ls).length:Int))) ((0<=(↑k:Int)/\(↑k:Int)<(↑(aj rcE ls).length:Int))/\∃(l:List (List D)),zE (aj rcE ls) (↑k:Int).toNat 0 1=ba [D.ro 1 l]/\((bE (ak k ls).flatten).length+l.length)*(1:Nat)<=(140737488355328:Nat)/\∃(m:Nat),(↑m:Int)=ar.wrap ((↑k:Int)+1)/\bE (ak m ls).flatten=bE (ak k ls).flatten++l/\h m/\j m<j k/\True) (∃(l:Unit),bE ls.flatten=bE (ak k ls).flatten/\True))
def yWd (ls:List (List UInt8)):z8o ls=walk Tryz.prog ([(141,growC)]) 0 ([]) (ySa ls) [] Tryz.f94 (Tryz.f94.body.getD .skip) (flatC.pat ls) (flatC.pre ls) (flatC.alts ls):=by kernel_rfl
def yTp (hG:GOk Tryz.prog ([(141,growC)])) (h:∀(ls:List (List UInt8)),flatC.cnd ls->z8o ls):flatC.ok Tryz.prog 94:=wX mixed ([(141,growC)]) hG 0 (λ(ls:List (List UInt8))=>[]) (λ(ls:List (List UInt8))=>ySa ls) [] Tryz.func94 (by kernel_rfl) (by kernel_rfl) (by kernel_rfl) (λ_=>by kernel_rfl) (λ(ls:List (List UInt8)) hc=>Eq.mp (yWd ls) (h ls hc))
def y0t (u:Unit):Prop:=
 ∃(o:Unit),(↑(0:Nat):Int)=0/\bE []=[]/\True
def yQi (i:DbI):Prop:=
 cnd (decide ((↑(bE i.l).length:Int)>ar.wrap (1048576-(↑(bE i.d.b).length:Int)))) (∃(a:Unit),(0:Int)=(13:Int)/\dh ((↑i.d.safe:Int))/\bE (i.d.b++i.l)=bE i.d.b/\True) (((bE i.d.b).length+(bE i.l).length)*(1:Nat)<=(140737488355328:Nat)/\∃(a:Unit),dh ((0:Int))/\dh ((↑i.d.safe:Int))/\bE (i.d.b++i.l)=bE i.d.b++bE i.l/\True)
def y0m (d:Dk):Prop:=
 ∃(o:Unit),(↑d.b.length:Int)=(↑(bE d.b).length:Int)/\dh (bE d.b)/\True
def yYs (d:Dk):Prop:=
 ∃(i:List (List D)),i=bE d.b/\i.length*(1:Nat)<=(140737488355328:Nat)/\∀(o:Unit),True->∃(o:Unit),dh ((↑d.safe:Int))/\bE d.b=i/\bE d.b=i/\True
def zZc (i:List (List D)):Prop:=
 ∀(b:Bool),(b=ay->i=[])->cnd b (∃(o:Unit),i=[]/\True) ((0+i.length)*(1:Nat)<=(140737488355328:Nat)/\∃(o:Unit),i=[]++i/\True)
def yCm (i:List (List D)):zZc i=walk Tryz.prog ([]) 0 ([]) ([]) [] Tryz.f99 (Tryz.f99.body.getD .skip) (cloneBN.pat i) (cloneBN.pre i) (cloneBN.alts i):=by kernel_rfl
def yAn (hG:GOk Tryz.prog ([])) (h:∀(i:List (List D)),cloneBN.cnd i->zZc i):cloneBN.ok Tryz.prog 99:=wX mixed ([]) hG 0 (λ(i:List (List D))=>[]) (λ(i:List (List D))=>[]) [] Tryz.func99 (by kernel_rfl) (by kernel_rfl) (by kernel_rfl) (λ_=>by kernel_rfl) (λ(i:List (List D)) hc=>Eq.mp (yCm i) (h i hc))
def yRo (i:DbI):Prop:=
 cnd (decide ((↑(bE i.l).length:Int)>1048576)) (∃(a:Unit),(0:Int)=(13:Int)/\(↑i.l.length:Int)=(↑i.d.safe:Int)/\bE i.l=bE i.d.b/\True) (∃(a:List (List D)),a=bE i.l/\a.length<=140737488355328/\∀(b:Unit),True->∃(c:Unit),dh ((0:Int))/\(↑i.l.length:Int)=(↑a.length:Int)/\bE i.l=a/\True)
def rH (a:DnI):=(ar.wrap ((↑(bE a.d.b).length:Int)-(↑a.d.safe:Int)))
def ySf (i:DnI):Prop:=
 (0<=ar.wrap ((↑i.d.safe:Int)+min (if 0>i.n then(0:Int)else i.n) (rH i))/\ar.wrap ((↑i.d.safe:Int)+min (if 0>i.n then(0:Int)else i.n) (rH i))<=(↑(bE i.d.b).length:Int))/\∃(a:Unit),(↑(i.d.keep i.n):Int)=(↑(ak (ar.wrap ((↑i.d.safe:Int)+min (if 0>i.n then(0:Int)else i.n) (rH i))).toNat (bE i.d.b)).length:Int)/\bE (ak (i.d.keep i.n) i.d.b)=ak (ar.wrap ((↑i.d.safe:Int)+min (if 0>i.n then(0:Int)else i.n) (rH i))).toNat (bE i.d.b)/\True
def yKb (l:List UInt8):Prop:=
 cnd (decide ((↑(bE l).length:Int)>255)) (∃(a:Unit),(0:Int)=(3:Int)/\bE (xI l)=[]/\True) (∃(a:Unit),True/\∀(b:Unit),True->∃(c:WN),c.n=(↑(bE l).length:Int)/\aa (List UInt8) 2 WrU c.l=aa (List UInt8) 2 WrU []/\c.ok/\∀(d:Unit),True->∃(e:WN),e.n=ar.wrap (↑(cf ar.bits (if ar.signed=ay then(-1:Int)else ar.max) ^^^ cf ar.bits (↑(bE l).length:Int)).toNat:Int)/\aa (List UInt8) 2 WrU e.l=aa (List UInt8) 2 WrU (c.l++[lob c.n])/\e.ok/\∀(f:Unit),True->((bE (e.l++[lob e.n])).length+(bE l).length)*(1:Nat)<=(140737488355328:Nat)/\∃(g:List UInt8),bE g=bE l/\g.length<=1099511627776/\∀(h:Unit),True->∃(j:WN),j.n=mA g/\bE j.l=bE (e.l++[lob e.n])++bE l/\(j.l.length+(8:Nat)<=(1099511627776:Nat)/\0<=j.n/\j.n<4294967296)/\∀(k:Unit),True->∃(m:List UInt8),aa (List UInt8) 2 WrU m=aa (List UInt8) 2 WrU (j.l++le j.n 4)/\m.length<=1099511627776/\∀(n:Unit),True->∃(p:Unit),dh ((0:Int))/\bE (xI l)=bE m/\True)
def zNl (a:OpI):Prop:=(∃(b:Unit),(↑a.k:Int)+(↑a.x.snd.fst:Int)=(0:Int)/\(0:Int)=10/\bE a.x.fst=[]/\a.x.snd.snd=0)\/∃(o:Unit),True/\dh ((0:Int))/\a.x.snd.snd=10/\(a.x.snd.snd=0->False)
def mE (a:OpI):=(ap (↑a.k:Int).toNat (bE a.b))
def cY (a:OpI):=(↑(mE a).length:Int)
def dA (a:Int):=(2+ar.wrap a)
def zMt (a:Int) (b:OpI):Prop:=(0:Int)<=(2:Int)/\2<=ar.wrap (dA a)/\ar.wrap (dA a)<=(cY b)
def zFg (a:Int) (b:OpI):=(ak (ar.wrap (dA a)).toNat (mE b))
def eY (a:Int):=(ar.wrap (dA a)+4)
def y0v (i:OpI):Prop:=
 cnd (decide ((↑i.k:Int)>(↑(bE i.b).length:Int))) ((∃(a:Unit),(↑i.k:Int)+(↑i.x.snd.fst:Int)=(0:Int)/\(0:Int)=1/\bE i.x.fst=[]/\i.x.snd.snd=0)\/∃(o:Unit),True/\dh ((0:Int))/\i.x.snd.snd=1/\(i.x.snd.snd=0->False)) ((0<=(↑i.k:Int)/\(↑i.k:Int)<=(↑(bE i.b).length:Int))/\cnd (decide ((cY i)<2)) (zNl i) (((0:Int)<=(1:Int)/\1<(cY i))/\∃(a:Int),zE (mE i) (bo 1) 0 1=ba [D.v (.int .u8 a)]/\((0:Int)<=(0:Int)/\0<(cY i))/\∃(b:Int),zE (mE i) (bo 0) 0 1=ba [D.v (.int .u8 b)]/\cnd (a !=aw.wrap (↑(cf aw.bits (if aw.signed=ay then(-1:Int)else aw.max) ^^^ cf aw.bits b).toNat:Int)) ((∃(c:Unit),(↑i.k:Int)+(↑i.x.snd.fst:Int)=(0:Int)/\(0:Int)=14/\bE i.x.fst=[]/\i.x.snd.snd=0)\/∃(o:Unit),True/\dh ((0:Int))/\i.x.snd.snd=14/\(i.x.snd.snd=0->False)) (((0:Int)<=(0:Int)/\0<(cY i))/\∃(c:Int),zE (mE i) (bo 0) 0 1=ba [D.v (.int .u8 c)]/\cnd (decide ((cY i)<ar.wrap (eY c))) (zNl i) ((0<=ar.wrap (dA c)/\ar.wrap (dA c)<=ar.wrap (eY c)/\ar.wrap (eY c)<=(cY i))/\∃(d:List UInt8),bE d=ap (ar.wrap (dA c)).toNat (ak (ar.wrap (eY c)).toNat (mE i))/\d.length<=1099511627776/\∀(e:Unit),True->(zMt c i)/\∃(f:RN),(↑f.n:Int)=4/\aa (List UInt8×Bool) 1 RdU (f.l,f.b)=aa (List UInt8×Bool) 1 RdU (d,ax)/\(f.n<=8/\f.l.length<=1099511627776)/\∀(g:Unit),True->∃(h:List UInt8),bE h=ap (bo 2) (zFg c i)/\h.length<=1099511627776/\∀(j:Unit),True->cnd (av.wrap (kB f.got) !=mA h) ((∃(k:Unit),(↑i.k:Int)+(↑i.x.snd.fst:Int)=(0:Int)/\(0:Int)=14/\bE i.x.fst=[]/\i.x.snd.snd=0)\/∃(j:Unit),True/\dh ((0:Int))/\i.x.snd.snd=14/\(i.x.snd.snd=0->False)) ((zMt c i)/\(0+(ap (bo 2) (zFg c i)).length)*(1:Nat)<=(140737488355328:Nat)/\((∃(k:Unit),(↑i.k:Int)+(↑i.x.snd.fst:Int)=ar.wrap (ar.wrap ((↑i.k:Int)+ar.wrap (dA c))+4)/\dh ((0:Int))/\bE i.x.fst=[]++ap (bo 2) (zFg c i)/\i.x.snd.snd=0)\/∃(j:Unit),False))))))
def fE (a:Nat) (b:ScI):=(↑(fsB (ak a b.L)).length:Int)
def zHu (a:ScI) (b:Nat):Prop:=∃(c:Unit),(↑(fsB a.L).length:Int)=(fE b a)/\dh ((0:Int))/\aj rcE a.L=aj rcE (ak b a.L)/\True
def yQu (i:ScI):Prop:=
 ∃(a:Nat),(fE a i)=0/\aj rcE (ak a i.L)=[]/\∃(b:Nat->Prop),∃(c:Nat->Nat),b a/\∀(d:Nat),b d->cnd (decide ((fE d i)<(↑(bE (fsB i.L++i.t)).length:Int))) (∃(e:OpI),bE e.b=bE (fsB i.L++i.t)/\(↑e.k:Int)=(fE d i)/\(e.k<=e.b.length/\e.b.length<=1099511627776)/\(∀(f:Unit),e.x.snd.snd=0->((aj rcE (ak d i.L)).length+1)*(24:Nat)<=(140737488355328:Nat)/\∃(g:Nat),(fE g i)=(↑e.k:Int)+(↑e.x.snd.fst:Int)/\aj rcE (ak g i.L)=aj rcE (ak d i.L)++[[D.ro 1 (bE e.x.fst)]]/\b g/\c g<c d/\True)/\∀(f:Unit),e.x.snd.snd≠0->cnd (e.x.snd.snd==0) (((aj rcE (ak d i.L)).length+1)*(24:Nat)<=(140737488355328:Nat)/\∃(g:Nat),(fE g i)=0/\aj rcE (ak g i.L)=aj rcE (ak d i.L)++[[D.ro 1 []]]/\b g/\c g<c d/\True) (cnd (e.x.snd.snd==10) (zHu i d) (∃(g:Unit),(↑(fsB i.L).length:Int)=(fE d i)/\(0:Int)=(14:Int)/\aj rcE i.L=aj rcE (ak d i.L)/\True))) (zHu i d)
def yZf (i:JoI):Prop:=
 ∃(a:Dk),DkR a=DkR i.d/\(a.safe<=a.b.length/\a.b.length<=1048576)/\∀(b:Unit),True->∃(c:ScI),bE (fsB c.L++c.t)=bE a.b/\((∀(d:List UInt8),d∈c.L->d.length<=255)/\(zCx c.t).snd.snd=10/\(fsB c.L).length+c.t.length<=1048576)/\∀(d:Unit),True->cnd (decide ((↑(fsB c.L).length:Int)<(↑(bE a.b).length:Int))) ((0<=(↑(fsB c.L).length:Int)/\(↑(fsB c.L).length:Int)<=(↑(bE a.b).length:Int))/\∃(e:DbI),bE e.l=ak (↑(fsB c.L).length:Int).toNat (bE a.b)/\DkR e.d=DkR a/\e.l.length<=1048576/\∀(f:Unit),True->∃(g:Unit),dh ((0:Int))/\DkR i.d'=DkR (Dk.mk e.l e.l.length)/\(↑i.L.length:Int)=(↑(aj rcE c.L).length:Int)/\aj rcE i.L=aj rcE c.L/\True) (∃(e:Unit),dh ((0:Int))/\DkR i.d'=DkR a/\(↑i.L.length:Int)=(↑(aj rcE c.L).length:Int)/\aj rcE i.L=aj rcE c.L/\True)
def yZi (i:JaI):Prop:=
 ∃(i_1:List UInt8),bE i_1=bE i.l/\i_1.length<=255/\∀(o:Unit),True->∃(i_2:DbI),bE i_2.l=bE (xI i_1)/\aa Dk 2 DkU i_2.d=DkR i.d/\i_2.d.b.length+i_2.l.length<=1048576/\∀(o:Unit),True->∃(o:Unit),dh ((0:Int))/\i.n+1=ar.wrap (i.n+1)/\aa Dk 2 DkU (Dk.mk (i.d.b++xI i.l) i.d.safe)=aa Dk 2 DkU (Dk.mk (i_2.d.b++i_2.l) i_2.d.safe)/\True
def yZr (i:JaI):Prop:=
 ∃(i_1:Dk),aa Dk 2 DkU i_1=DkR i.d/\(i_1.safe<=i_1.b.length/\i_1.b.length<=1048576)/\∀(o:Unit),True->∃(o:Unit),i.n=i.n/\aa Dk 2 DkU (Dk.mk i.d.b i.d.b.length)=aa Dk 2 DkU (Dk.mk i_1.b i_1.b.length)/\True
def sb (l:List UInt8):ByteArray:=⟨l.toArray⟩
@[reducible] def sV (l:List UInt8):V:= .d (.v (.string (sb l)))
def zPn (l:List UInt8):Nat×Nat:=bg (sb l) 0
def zAm:Nat->Nat->List UInt8->List (Nat×Nat)
 |0,_,_=>[]
 |k+1,p,l=>match l with
  |[]=>[]
  |_=>(p,(zPn l).1)::zAm k (p+(zPn l).2) (l.drop (zPn l).2)
def gC (s:List UInt8) (p:Nat):List (Nat×Nat):=zAm (s.length-p) p (s.drop p)
def kW (s:List UInt8):List Nat:=(gC s 0).map (·.2)
def countC:Con:=con1 (List UInt8) (λs=>[sV s]) (λ_=>[]) (λs=>s.length<=1099511627776) (λs=>zA (kW s).length) (λ_=>[])
def yUs (s:List UInt8):List SAnn:=[{ι:=Nat×Nat,slots:=λx=>[(3,zA x.2),(5,.nm 0 0)],rows:=λx=>[.iter (sb s) x.1]}]
def gI (r:Nat):Bool:=(decide (65<=r) && decide (r<=90))||(decide (913<=r) && decide (r<=937) && decide (r≠930))
def wF (s:List UInt8):Bool:=(kW s).all gI && decide (s≠[]) && decide ((kW s).length<=4)
def symC:Con:=con1 (List UInt8) (λs=>[sV s]) (λ_=>[]) (λs=>s.length<=1099511627776) (λs=>yR (wF s)) (λ_=>[])
def y3t (s:List UInt8):List SAnn:=[{ι:=Nat,slots:=λx=>[(7,.nm 0 0)],rows:=λx=>[.iter (sb s) x]}]
def iE (l:List Int):List (List D):=l.map λn=>[.v (.int .i64 n)]
@[reducible] def iV (l:List Int):V:=roV 1 (iE l)
structure Prd where
 code:List UInt8
 months:List Int
 tick:Int
 low:Int
 high:Int
 wide:Int
 rule:Int
 top:Int
 least:Int
 part:Int
 settle:List Int
 deriving DecidableEq
@[reducible] def Prd.cells (p:Prd):List V:=[sV p.code,iV p.months,zA p.tick,zA p.low,zA p.high,zA p.wide,zA p.rule,zA p.top,zA p.least,zA p.part,iV p.settle]
@[reducible] def prdV (p:Prd):V:= .agg p.cells
@[reducible] def Prd.small (p:Prd):Prop:=p.code.length<=1099511627776/\p.months.length<=1099511627776/\p.settle.length<=1099511627776
def qZ (l:List Int) (k:Nat):Bool:=decide (0<=l.getD k 0) && decide (l.getD k 0<=1199) && (decide (k=0)||decide (l.getD (k-1) 0<l.getD k 0))
def xG (l:List Int):Bool:=(ao l.length).all (qZ l) && decide (2<=l.length) && decide (l.length<=6)
def monthsC:Con:=con1 (List Int) (λl=>[iV l]) (λ_=>[]) (λl=>l.length<=1099511627776) (λl=>yR (xG l)) (λ_=>[])
def yMh:List SAnn:=[{ι:=Nat,slots:=λj=>[(7,zA j)],rows:=λ_=>[]}]
def sW (l:List Int):Int:=l.tail.foldl min (l.headD 0)
def tX (l:List Int):Int:=l.tail.foldl max (l.headD 0)
def minC:Con:=con1 (List Int) (λl=>[iV l]) (λ_=>[]) (λl=>0<l.length/\l.length<=1099511627776) (λl=>zA (sW l)) (λ_=>[])
def maxC:Con:=con1 (List Int) (λl=>[iV l]) (λ_=>[]) (λl=>0<l.length/\l.length<=1099511627776) (λl=>zA (tX l)) (λ_=>[])
def y3s (l:List Int):List SAnn:=[{ι:=Nat,slots:=λj=>[(3,zA (sW (l.take j))),(4,zA j)],rows:=λ_=>[]}]
def y4l (l:List Int):List SAnn:=[{ι:=Nat,slots:=λj=>[(3,zA (tX (l.take j))),(4,zA j)],rows:=λ_=>[]}]
def cF (a:Nat×Nat) (b:List UInt8) (c:Nat×Nat->Prop) (d:Nat×Nat->Nat):Prop:=∃(e:Nat×Nat),(↑e.snd:Int)=ar.wrap ((↑a.snd:Int)+1)/\sb b=sb b/\e.fst=a.fst+(bg (sb b) a.fst).snd/\c e/\d e<d a/\True
def yDx (s:List UInt8):Prop:=
 ∃(a:Nat×Nat),(↑a.snd:Int)=0/\sb s=sb s/\a.fst=0/\∃(b:Nat×Nat->Prop),∃(c:Nat×Nat->Nat),b a/\∀(d:Nat×Nat),b d->cnd (d.fst.blt (sb s).size) (cF d s b c) (∃(e:Unit),(↑(kW s).length:Int)=(↑d.snd:Int)/\True)
def zFj (a:List UInt8) (b:Nat) (c:Nat->Prop) (d:Nat->Nat):Prop:=∃(e:Nat),sb a=sb a/\e=b+(bg (sb a) b).snd/\c e/\d e<d b/\True
def dF (a:List UInt8) (b:Nat):=(↑(bg (sb a) b).fst:Int)
def y1o (s:List UInt8):Prop:=
 ∃(a:Nat),sb s=sb s/\a=0/\∃(b:Nat->Prop),∃(c:Nat->Nat),b a/\∀(d:Nat),b d->cnd (d.blt (sb s).size) (cnd (decide ((dF s d)>=65)) (cnd (decide ((dF s d)<=90)) (zFj s d b c) (cnd (decide ((dF s d)>=913)) (cnd (decide ((dF s d)<=937)) (cnd (!(dF s d) !=930) (∃(e:Unit),wF s=ax/\True) (zFj s d b c)) (∃(e:Unit),wF s=ax/\True)) (∃(e:Unit),wF s=ax/\True))) (cnd (decide ((dF s d)>=913)) (cnd (decide ((dF s d)<=937)) (cnd (!(dF s d) !=930) (∃(e:Unit),wF s=ax/\True) (zFj s d b c)) (∃(e:Unit),wF s=ax/\True)) (∃(e:Unit),wF s=ax/\True))) (cnd (!(sb s).toList==(ByteArray.mk #[]).toList) (∃(e:List UInt8),sb e=sb s/\e.length<=1099511627776/\∀(f:Unit),True->∃(g:Unit),wF s=decide ((↑(kW e).length:Int)<=4)/\True) (∃(e:Unit),wF s=ax/\True))
def uF (a:Nat) (b:Nat->Prop) (c:Nat->Nat):Prop:=∃(d:Nat),kE d a b c
def z9c (l:List Int):Prop:=
 ∃(a:Nat),(↑a:Int)=0/\∃(b:Nat->Prop),∃(c:Nat->Nat),b a/\∀(d:Nat),b d->cnd (decide ((↑d:Int)<(↑(iE l).length:Int))) ((0<=(↑d:Int)/\(↑d:Int)<(↑(iE l).length:Int))/\∃(e:Int),zE (iE l) (↑d:Int).toNat 0 1=ba [dI e]/\cnd (decide (e<0)) (∃(f:Unit),xG l=ax/\True) (cnd (decide (e>1199)) (∃(f:Unit),xG l=ax/\True) (cnd (decide ((↑d:Int)>0)) ((0<=ar.wrap ((↑d:Int)-1)/\ar.wrap ((↑d:Int)-1)<(↑(iE l).length:Int))/\∃(f:Int),zE (iE l) (ar.wrap ((↑d:Int)-1)).toNat 0 1=ba [dI f]/\cnd (decide (f>=e)) (∃(g:Unit),xG l=ax/\True) (uF d b c)) (uF d b c)))) (cnd (decide ((↑(iE l).length:Int)>=2)) (∃(e:Unit),xG l=decide ((↑(iE l).length:Int)<=6)/\True) (∃(e:Unit),xG l=ax/\True))
def y2r (l:List Int):Prop:=
 cnd (decide ((↑(iE l).length:Int)<1)) False (((0:Int)<=(0:Int)/\0<(↑(iE l).length:Int))/\∃(a:Int),zE (iE l) (bo 0) 0 1=ba [dI a]/\∃(b:Nat),sW (ak b l)=a/\(↑b:Int)=1/\∃(c:Nat->Prop),∃(d:Nat->Nat),c b/\∀(e:Nat),c e->cnd (decide ((↑e:Int)<(↑(iE l).length:Int))) ((0<=(↑e:Int)/\(↑e:Int)<(↑(iE l).length:Int))/\∃(f:Int),zE (iE l) (↑e:Int).toNat 0 1=ba [dI f]/\∃(g:Nat),sW (ak g l)=min (sW (ak e l)) f/\kE g e c d) (∃(f:Unit),sW l=sW (ak e l)/\True))
def yZo (l:List Int):Prop:=
 cnd (decide ((↑(iE l).length:Int)<1)) False (((0:Int)<=(0:Int)/\0<(↑(iE l).length:Int))/\∃(a:Int),zE (iE l) (bo 0) 0 1=ba [dI a]/\∃(b:Nat),tX (ak b l)=a/\(↑b:Int)=1/\∃(c:Nat->Prop),∃(d:Nat->Nat),c b/\∀(e:Nat),c e->cnd (decide ((↑e:Int)<(↑(iE l).length:Int))) ((0<=(↑e:Int)/\(↑e:Int)<(↑(iE l).length:Int))/\∃(f:Int),zE (iE l) (↑e:Int).toNat 0 1=ba [dI f]/\∃(g:Nat),(tX (ak g l)=if f>tX (ak e l)then f else tX (ak e l))/\kE g e c d) (∃(f:Unit),tX l=tX (ak e l)/\True))
@[simp] theorem zLm (s:List UInt8):(sb s).size=s.length:=by simp[sb,ByteArray.size]
def nU (s:List UInt8):(sb s).toList=s:=by rw[ByteArray.toList_eq];rfl
def yTn (s:List UInt8) (p k:Nat):(sb s).get! (p+k)=(sb (s.drop p)).get! (0+k):=by
 simp only[sb,ByteArray.get!,y6t];simp only[List.getElem!_toArray,List.getElem!_eq_getElem?_getD,y8h]
def zJs (s:List UInt8) (p:Nat):bg (sb s) p=zPn (s.drop p):=by
 have h (k:Nat):(decide (p+k<(sb s).size))=decide (0+k<(sb (s.drop p)).size):=by
  simp only[zLm,y6s];by_cases h:p+k<s.length
  ·rw[y6k h,y6k (by omega)]
  ·rw[y6g h,y6g (by omega)]
 unfold zPn bg;simp only[yTn s p,h]
def bC (s:List UInt8) {p:Nat} (h:p<s.length):1<=(bg (sb s) p).2/\p+(bg (sb s) p).2<=s.length:=by
 unfold bg;simp only[zLm,y6h,y7i];split
 ·exact⟨by simp,by simp;omega⟩
 split
 ·rename_i h1;split
  ·exact⟨by simp,by simp;omega⟩
  ·exact⟨by simp,by simp;omega⟩
 split
 ·rename_i h1;split
  ·exact⟨by simp,by simp;omega⟩
  ·exact⟨by simp,by simp;omega⟩
 split
 ·rename_i h1;split
  ·exact⟨by simp,by simp;omega⟩
  ·exact⟨by simp,by simp;omega⟩
 ·exact⟨by simp,by simp;omega⟩
def ySx {l:List UInt8} (h:l≠[]):1<=(zPn l).2/\(zPn l).2<=l.length:=by
 have:=bC l (p:=0) (by cases l<;>simp_all);rw[zPn];omega
def sE:∀(k:Nat) (p:Nat) (l:List UInt8),l.length<=k->zAm k p l=zAm l.length p l
 |0,p,l,h=>by
  have:l=[]:=y6u oM;subst this;rfl
 |k+1,p,[],h=>rfl
 |k+1,p,b::l,h=>by
  have hw:=ySx (l:=b::l) (by simp);have hl:((b::l).drop (zPn (b::l)).2).length<=l.length:=by rw[y6s,y5y];omega
  rw[y5y];simp only[zAm];rw[sE k _ _ (by rw[y5y]at h;omega),sE l.length _ _ hl]
def uN {s:List UInt8} {p:Nat} (h:s.length<=p):gC s p=[]:=by
 rw[gC,show s.length-p=0 by omega];rfl
def jX {s:List UInt8} {p:Nat} (h:p<s.length):gC s p=(p,(bg (sb s) p).1)::gC s (p+(bg (sb s) p).2):=by
 obtain⟨k,hk⟩:∃k,s.length-p=k+1:=⟨s.length-p-1,oM⟩
 have hw:=bC s h;obtain⟨b,l,hb⟩:∃b l,s.drop p=b::l:=by
  cases hd:s.drop p with
  |nil=>rw[List.drop_eq_nil_iff]at hd;omega
  |cons b l=>exact⟨b,l,rfl⟩
 have hlen:(b::l).length=s.length-p:=by rw[<- hb,y6s]
 rw[gC,hk,hb,zJs,hb,gC];rw[zJs,hb]at hw;simp only[zAm];have e:(b::l).drop (zPn (b::l)).2=s.drop (p+(zPn (b::l)).2):=by rw[<- hb,y9d]
 rw[e,sE k _ _ (by rw[y6s];omega),y6s]
def zMz (s:List UInt8):∀(k p:Nat),s.length-p<=k->(gC s p).length<=s.length-p
 |0,p,h=>by rw[uN (by omega)];simp
 |k+1,p,h=>by
  by_cases hp:p<s.length
  ·have hw:=bC s hp;rw[jX hp,y5y];have:=zMz s k (p+(bg (sb s) p).2) oM;omega
  ·rw[uN (by omega)];simp
def zHd (s:List UInt8):(kW s).length<=s.length:=by
 rw[kW,y5u];have:=zMz s s.length 0 oM;omega
def z6h {a b:Nat} (h:Nat.blt a b=ax):b<=a:=by
 rcases y8c a b with h1|h1
 ·rw[show Nat.blt a b=ay by rw[y8u];exact h1]at h;cases h
 ·exact h1
def yHl:(ByteArray.mk #[]).toList=[]:=nU []
def yVp (s:List UInt8) (h:countC.cnd s):yDx s:=by
 have h:s.length<=1099511627776:=h;have hr:=zHd s;unfold yDx cF;refine⟨(0,0),rfl,rfl,rfl,λx=>x.1<=s.length/\x.2+(gC s x.1).length=(kW s).length,λx=>s.length-x.1,⟨oM,by rw[kW,y5u];simp⟩,?_⟩;rintro⟨p,n⟩ ⟨h1,h2⟩;dsimp only at h1 h2 ⊢;refine Cv.cnd.mk (λhp=> ?_) (λhp=> ?_)
 ·have hp:p<s.length:=by simpa[y8u]using hp
  have hw:=bC s hp;rw[jX hp,y5y]at h2;refine⟨(p+(bg (sb s) p).2,n+1),?_,rfl,rfl,⟨hw.2,by(first|omega|(dsimp only;omega))⟩,by(first|omega|(dsimp only;omega)),trivial⟩;rw[w64 (by omega)];rfl
 ·have hp:s.length<=p:=by have:=z6h hp;simpa using this
  rw[uN hp]at h2;exact⟨(),by rw[<- h2];rfl,trivial⟩
def yFr:countC.ok Tryz.prog 190:=okw mixed gok0 0 (λ_=>[]) (λs=>yUs s) [] Tryz.func190 yVp
def y3j (s:List UInt8) (h:symC.cnd s):y1o s:=by
 have h:s.length<=1099511627776:=h;unfold y1o dF zFj;refine⟨0,rfl,rfl,λp=>p<=s.length/\(kW s).all gI=(gC s p).all λx=>gI x.2,λp=>s.length-p,⟨oM,by rw[kW,List.all_map];rfl⟩,?_⟩;rintro p ⟨h1,h2⟩;refine Cv.cnd.mk (λhp=> ?_) (λhp=> ?_)
 ·have hp:p<s.length:=by simpa[y8u]using hp
  have hw:=bC s hp;rw[jX hp,List.all_cons]at h2;generalize hc:(bg (sb s) p).1=c at h2 ⊢;generalize hww:(bg (sb s) p).2=w at h2 hw ⊢;dsimp only at h2;have bad:gI c=ax->∃(o:Unit),wF s=ax/\True:=λe=>⟨(),by rw[wF,h2,e];rfl,trivial⟩
  have good:gI c=ay->∃i':Nat,sb s=sb s/\i'=p+w/\(i'<=s.length/\(kW s).all gI=(gC s i').all λx=>gI x.2)/\s.length-i'<s.length-p/\True:=λe=>⟨p+w,rfl,rfl,⟨hw.2,by rw[h2,e];rfl⟩,oM,trivial⟩
  refine zH (λc1=>zH (λc2=> ?_) (λc2=>zH (λc3=>zH (λc4=>Cv.cnd.mk (λc5=> ?_) (λc5=> ?_)) (λc4=> ?_)) (λc3=> ?_))) (λc1=>zH (λc3=>zH (λc4=>Cv.cnd.mk (λc5=> ?_) (λc5=> ?_)) (λc4=> ?_)) (λc3=> ?_))
  all_goals first|(refine good ?_;simp[gI]at*;omega)|(refine bad ?_;simp[gI]at*;omega)
 ·have hp:s.length<=p:=by have:=z6h hp;simpa using this
  rw[uN hp]at h2;have h2:(kW s).all gI=ay:=h2;refine Cv.cnd.mk (λe=>⟨s,rfl,h,λ_ _=>⟨(),?_,trivial⟩⟩) (λe=>⟨(),?_,trivial⟩)
  ·rw[nU,yHl]at e;have:s≠[]:=by simpa using e
   rw[wF,h2,y6k this];simp only[y8q];congr 1;simp only[eq_iff_iff];omega
  ·have:s=[]:=by
    rw[nU,yHl]at e;simpa using e
   rw[wF,this];rfl
def yXv:symC.ok Tryz.prog 151:=okw mixed (gokc yFr gok0) 0 (λ_=>[]) (λs=>y3t s) [] Tryz.func151 y3j
@[simp] theorem y4 (l:List Int):(iE l).length=l.length:=by simp[iE]
def elI {l:List Int} {k:Nat} {n:Int} (h:l[k]? =ba n):zE (iE l) k 0 1=ba [D.v (.int .i64 n)]:=by
 simp[zE,iE,h];rfl
def yA {α:Type} {l:List α} {i:Nat} (h:i<l.length):∃x,l[i]? =ba x:=⟨l[i],y6v h⟩
def zRf {n k:Nat} {f:Nat->Bool} (hk:k<n) (h:f k=ax):(ao n).all f=ax:=by
 cases hh:(ao n).all f
 ·rfl
 ·rw[y8z]at hh;rw[hh k (by simpa using hk)]at h;cases h
def z1i {n:Nat} {f:Nat->Bool} (h:∀k<n,f k=ay):(ao n).all f=ay:=by
 rw[y8z];intro k hk;exact h k (by simpa using hk)
def yPb (l:List Int) (h:monthsC.cnd l):z9c l:=by
 have h:l.length<=1099511627776:=h;unfold z9c uF kE dI;simp only[y4];refine⟨0,rfl,λj=>j<=l.length/\∀k<j,qZ l k=ay,λj=>l.length-j,⟨oM,λk hk=>by omega⟩,?_⟩;rintro j ⟨h1,h2⟩;have bad:j<l.length->qZ l j=ax->∃(o:Unit),xG l=ax/\True:=λhj e=>⟨(),by rw[xG,zRf hj e];rfl,trivial⟩
 have good:j<l.length->qZ l j=ay->∃i':Nat,(i':Int)=ar.wrap ((j:Int)+1)/\(i'<=l.length/\∀k<i',qZ l k=ay)/\l.length-i'<l.length-j/\True:=λhj e=>⟨j+1,by rw[w64 (by omega)];rfl,⟨oM,λk hk=>by
  rcases y8c k j with hk'|hk'
  ·exact h2 k hk'
  ·obtain rfl:k=j:=by omega
   exact e⟩,oM,trivial⟩
 refine zH (λhj=> ?_) (λhj=> ?_)
 ·have hj:j<l.length:=by omega
  obtain⟨n,hn⟩:=yA hj;have hg:l.getD j 0=n:=by simp[hn]
  refine⟨⟨oM,oM⟩,n,elI hn,zH (λc1=>bad hj (by simp[qZ,hn];omega)) (λc1=>zH (λc2=>bad hj (by simp[qZ,hn];omega)) (λc2=>zH (λc3=> ?_) (λc3=>good hj ?_)))⟩
  ·have e:ar.wrap ((j:Int)-1)=((j-1:Nat):Int):=by rw[w64 (by omega)];omega
   obtain⟨m,hm⟩:=yA (l:=l) (i:=j-1) oM;rw[e];refine⟨⟨oM,oM⟩,m,elI hm,zH (λc4=>bad hj ?_) (λc4=>good hj ?_)⟩
   ·simp[qZ,hn,hm];omega
   ·simp[qZ,hn,hm];omega
  ·simp[qZ,hn];omega
 ·have e:(ao l.length).all (qZ l)=ay:=z1i λk hk=>h2 k oM
  refine zH (λc=>⟨(),?_,trivial⟩) (λc=>⟨(),?_,trivial⟩)
  ·rw[xG,e,y6k (show 2<=l.length by omega)];simp;omega
  ·rw[xG,y6g (show ¬2<=l.length by omega)];simp
def z9z:monthsC.ok Tryz.prog 152:=okw mixed gok0 0 (λ_=>[]) (λ_=>yMh) [] Tryz.func152 yPb
def zJm {f:Int->Int->Int} {l:List Int} {j:Nat} {n:Int} (h:l[j+1]? =ba n):(l.take (j+2)).tail.foldl f ((l.take (j+2)).headD 0)=f ((l.take (j+1)).tail.foldl f ((l.take (j+1)).headD 0)) n:=by
 cases l with
 |nil=>simp at h
 |cons a l=>
  simp only[y7s]at h;simp only[y7e,List.tail_cons,List.headD_cons];rw[y7c,h,xAp];rfl
def zXk {l:List Int} {n:Int} (h:l[0]? =ba n) (f:Int->Int->Int):(l.take 1).tail.foldl f ((l.take 1).headD 0)=n:=by
 cases l with
 |nil=>simp at h
 |cons a l=>simpa using h
def y3v (l:List Int) (h:minC.cnd l):y2r l:=by
 obtain⟨h0,h⟩:0<l.length/\l.length<=1099511627776:=h;unfold y2r kE dI;simp only[y4];obtain⟨n,hn⟩:=yA h0;refine zH (λc=>by omega) (λc=>⟨⟨oM,oM⟩,n,elI hn,1,zXk hn min,rfl,λj=>1<=j/\j<=l.length,λj=>l.length-j,⟨oM,oM⟩,?_⟩);rintro j ⟨h1,h2⟩;refine zH (λhj=> ?_) (λhj=>⟨(),?_,trivial⟩)
 ·obtain⟨m,hm⟩:=yA (l:=l) (i:=j) oM;refine⟨⟨oM,oM⟩,m,elI hm,j+1,?_,?_,⟨oM,oM⟩,by(first|omega|(dsimp only;omega)),trivial⟩
  ·obtain⟨k,rfl⟩:∃k,j=k+1:=⟨j-1,oM⟩
   first
    |(rw[sW,zJm hm,<- sW];done)
    |(rw[sW,zJm hm,<- sW];generalize sW (l.take (k+1))=x;split<;>omega)
  ·rw[w64 (by omega)];rfl
 ·rw[y6f (by omega)]
def yTq:minC.ok Tryz.prog 154:=okw mixed gok0 0 (λ_=>[]) (λl=>y3s l) [] Tryz.func154 y3v
def y4g (l:List Int) (h:maxC.cnd l):yZo l:=by
 obtain⟨h0,h⟩:0<l.length/\l.length<=1099511627776:=h;unfold yZo kE dI;simp only[y4];obtain⟨n,hn⟩:=yA h0;refine zH (λc=>by omega) (λc=>⟨⟨oM,oM⟩,n,elI hn,1,zXk hn max,rfl,λj=>1<=j/\j<=l.length,λj=>l.length-j,⟨oM,oM⟩,?_⟩);rintro j ⟨h1,h2⟩;refine zH (λhj=> ?_) (λhj=>⟨(),?_,trivial⟩)
 ·obtain⟨m,hm⟩:=yA (l:=l) (i:=j) oM;refine⟨⟨oM,oM⟩,m,elI hm,j+1,?_,?_,⟨oM,oM⟩,by(first|omega|(dsimp only;omega)),trivial⟩
  ·obtain⟨k,rfl⟩:∃k,j=k+1:=⟨j-1,oM⟩
   rw[tX,zJm hm,<- tX];generalize tX (l.take (k+1))=x;split<;>omega
  ·rw[w64 (by omega)];rfl
 ·rw[y6f (by omega)]
def yWs:maxC.ok Tryz.prog 155:=okw mixed gok0 0 (λ_=>[]) (λl=>y4l l) [] Tryz.func155 y4g
@[reducible] def Prd.row (p:Prd):AObj:= .cells p.cells 25
structure z3l where
 p:Prd
 n:Int
structure zVr where
 p:Prd
 l:List Int
def qU (t n:Int):Bool:=n.tmod t !=0
def offC:Con:=con1 z3l (λi=>[zA i.n,.nm 0 0]) (λi=>[i.p.row]) (λi=>1<=i.p.tick) (λi=>yR (qU i.p.tick i.n)) (λi=>[i.p.row])
@[reducible] def y0a:V:= .fn 191 [] [.nm 0 0]
def zKk (k:Option Nat):Int:=match k with
 |some k=>k
 |none=> -1
def idxC:Con:=con1 zVr (λi=>[iV i.l,y0a]) (λi=>[i.p.row]) (λi=>1<=i.p.tick/\i.l.length<=1099511627776) (λi=>zA (zKk (i.l.findIdx? (qU i.p.tick)))) (λi=>[i.p.row])
def y4c (i:zVr):List SAnn:=[{ι:=Nat,slots:=λj=>[(8,zA j)],rows:=λ_=>[]}]
def containsC:Con:=con1 zVr (λi=>[iV i.l,y0a]) (λi=>[i.p.row]) (λi=>1<=i.p.tick/\i.l.length<=1099511627776) (λi=>yR (i.l.any (qU i.p.tick))) (λi=>[i.p.row])
def qP (p:Prd):Bool:=decide (1<=p.tick) && decide (p.tick<=1000) && !qU p.tick p.low && !qU p.tick p.high && !qU p.tick p.wide && !p.settle.any (qU p.tick)
def ticksC:Con:=con1 Prd (λp=>[prdV p]) (λ_=>[]) Prd.small (λp=>yR (qP p)) (λ_=>[])
def qQ (p:Prd):Bool:=decide (p.low< -1000000)||decide (p.low>=p.high)||decide (p.high>1000000)||decide (p.wide<0)||decide (p.wide>p.high-p.low)
def xM (p:Prd):Bool:=decide (p.settle.length≠p.months.length)||decide (sW p.settle<p.low)||decide (tX p.settle>p.high)
def kJ (p:Prd):Bool:=decide (p.rule<1)||decide (p.rule>3)
def x9 (p:Prd):Bool:=decide (p.top<0)||decide (p.top>1000000)||decide (p.least<1)||decide (p.least>1000)||decide (p.part<0)||decide (p.part>100)
def Prd.check (p:Prd):Int:=
 if !wF p.code then 12 else if !xG p.months then 1 else if !qP p then 22 else if qQ p then 23 else if xM p then 1 else if kJ p then 31 else if x9 p then 24 else 0
def checkC:Con:=con1 Prd (λp=>[prdV p]) (λ_=>[]) Prd.small (λp=>zA p.check) (λ_=>[])
def Prd.count (p:Prd):Nat:=if p.check=0 then p.months.length+p.months.length*(p.months.length-1) / 2 else 0
def pcountC:Con:=con1 Prd (λp=>[prdV p]) (λ_=>[]) Prd.small (λp=>zA p.count) (λ_=>[])
structure c8 where
 p:Prd
 n:Int
def yJ (n:Nat):Nat->Nat
 |0=>n
 |k+1=>yJ n k+(n-1-k)
def kT (n inst:Nat):Nat->Nat->Int×Int×Bool
 |0,_=>(0,0,ax)
 |k+1,m=>if inst<yJ n m+(n-1-m)then(m,m+1+(inst-yJ n m:Nat),ay)else kT n inst k (m+1)
def Prd.legs (p:Prd) (i:Int):Int×Int×Bool:=
 if i<0\/(p.count:Int)<=i then(0,0,ax)else if i<p.months.length then(i,i,ax)else kT p.months.length i.toNat p.months.length 0
def legsC:Con:=con1 c8 (λi=>[prdV i.p,zA i.n]) (λ_=>[]) (λi=>i.p.small) (λi=> .tup [zA (i.p.legs i.n).1,zA (i.p.legs i.n).2.1,yR (i.p.legs i.n).2.2]) (λ_=>[])
structure eD where
 p:Prd
 a:Int
 b:Int
def Prd.spread (p:Prd) (a b:Int):Int×Bool:=
 if p.check≠0\/a<0\/b<=a\/(p.months.length:Int)<=b then(0,ax)else((yJ p.months.length a.toNat:Int)+b-a-1,ay)
def spreadC:Con:=con1 eD (λi=>[prdV i.p,zA i.a,zA i.b]) (λ_=>[]) (λi=>i.p.small) (λi=> .tup [zA (i.p.spread i.a i.b).1,yR (i.p.spread i.a i.b).2]) (λ_=>[])
def Prd.price (p:Prd) (i n:Int):Int:=
 if p.count=0 then 1 else if i<0\/(p.count:Int)<=i then 20 else if qU p.tick n then 22 else
 if n<(if(p.months.length:Int)<=i then-p.wide else p.low)\/(if(p.months.length:Int)<=i then p.wide else p.high)<n then 23 else 0
def priceC:Con:=con1 eD (λi=>[prdV i.p,zA i.a,zA i.b]) (λ_=>[]) (λi=>i.p.small) (λi=>zA (i.p.price i.a i.b)) (λ_=>[])
structure I2 where
 x:Int
 y:Int
@[reducible] def yY (n:Int):Prop:= -9223372036854775808<=n/\n<=9223372036854775807
def gK (x y:Int):Int×Bool:=if yY (x+y)then(x+y,ay)else(0,ax)
def gG (x y:Int):Int×Bool:=if yY (x-y)then(x-y,ay)else(0,ax)
def addC:Con:=con1 I2 (λi=>[zA i.x,zA i.y]) (λ_=>[]) (λi=>yY i.x/\yY i.y) (λi=> .tup [zA (gK i.x i.y).1,yR (gK i.x i.y).2]) (λ_=>[])
def subC:Con:=con1 I2 (λi=>[zA i.x,zA i.y]) (λ_=>[]) (λi=>yY i.x/\yY i.y) (λi=> .tup [zA (gG i.x i.y).1,yR (gG i.x i.y).2]) (λ_=>[])
def yZa (i:c8):List SAnn:=[{ι:=Nat,slots:=λm=>[(8,zA (yJ i.p.months.length m)),(33,zA m)],rows:=λ_=>[]}]
def yMq (i:eD):List SAnn:=[{ι:=Nat,slots:=λm=>[(9,zA (yJ i.p.months.length m)),(33,zA m)],rows:=λ_=>[]}]
def y0y (i:z3l):Prop:=
 ar=ar/\i.p.tick≠0/\∃(a:Unit),qU i.p.tick i.n=(i.n.tmod i.p.tick !=0)/\dh (sb i.p.code)/\dh (iE i.p.months)/\dh i.p.tick/\dh i.p.low/\dh i.p.high/\dh i.p.wide/\dh i.p.rule/\dh i.p.top/\dh i.p.least/\dh i.p.part/\dh (iE i.p.settle)/\True
def y2u (i:zVr):Prop:=
 ∃(a:Nat),(↑a:Int)=0/\∃(b:Nat->Prop),∃(c:Nat->Nat),b a/\∀(d:Nat),b d->cnd (decide ((↑d:Int)<(↑(iE i.l).length:Int))) ((0<=(↑d:Int)/\(↑d:Int)<(↑(iE i.l).length:Int))/\∃(e:Int),zE (iE i.l) (↑d:Int).toNat 0 1=ba [dI e]/\∃(f:z3l),f.n=e/\sb f.p.code=sb i.p.code/\iE f.p.months=iE i.p.months/\f.p.tick=i.p.tick/\f.p.low=i.p.low/\f.p.high=i.p.high/\f.p.wide=i.p.wide/\f.p.rule=i.p.rule/\f.p.top=i.p.top/\f.p.least=i.p.least/\f.p.part=i.p.part/\iE f.p.settle=iE i.p.settle/\1<=f.p.tick/\∀(g:Unit),True->cnd (qU f.p.tick f.n) (∃(h:Unit),zKk (List.findIdx? (qU i.p.tick) i.l)=(↑d:Int)/\sb i.p.code=sb f.p.code/\iE i.p.months=iE f.p.months/\i.p.tick=f.p.tick/\i.p.low=f.p.low/\i.p.high=f.p.high/\i.p.wide=f.p.wide/\i.p.rule=f.p.rule/\i.p.top=f.p.top/\i.p.least=f.p.least/\i.p.part=f.p.part/\iE i.p.settle=iE f.p.settle/\True) (∃(h:Nat),(↑h:Int)=ar.wrap ((↑d:Int)+1)/\b h/\c h<c d/\ac [V.d (D.v (bz (sb f.p.code))),V.d (D.ro 1 (iE f.p.months)),V.d (dI f.p.tick),V.d (dI f.p.low),V.d (dI f.p.high),V.d (dI f.p.wide),V.d (dI f.p.rule),V.d (dI f.p.top),V.d (dI f.p.least),V.d (dI f.p.part),V.d (D.ro 1 (iE f.p.settle))] (25:ce)=i.p.row)) (∃(e:Unit),zKk (List.findIdx? (qU i.p.tick) i.l)=(-1)/\dh (sb i.p.code)/\dh (iE i.p.months)/\dh i.p.tick/\dh i.p.low/\dh i.p.high/\dh i.p.wide/\dh i.p.rule/\dh i.p.top/\dh i.p.least/\dh i.p.part/\dh (iE i.p.settle)/\True)
def zTe (i:zVr):Prop:=
 ∃(a:zVr),iE a.l=iE i.l/\sb a.p.code=sb i.p.code/\iE a.p.months=iE i.p.months/\a.p.tick=i.p.tick/\a.p.low=i.p.low/\a.p.high=i.p.high/\a.p.wide=i.p.wide/\a.p.rule=i.p.rule/\a.p.top=i.p.top/\a.p.least=i.p.least/\a.p.part=i.p.part/\iE a.p.settle=iE i.p.settle/\(1<=a.p.tick/\a.l.length<=1099511627776)/\∀(b:Unit),True->∃(c:Unit),i.l.any (qU i.p.tick)=decide (zKk (List.findIdx? (qU a.p.tick) a.l)>=0)/\sb i.p.code=sb a.p.code/\iE i.p.months=iE a.p.months/\i.p.tick=a.p.tick/\i.p.low=a.p.low/\i.p.high=a.p.high/\i.p.wide=a.p.wide/\i.p.rule=a.p.rule/\i.p.top=a.p.top/\i.p.least=a.p.least/\i.p.part=a.p.part/\iE i.p.settle=iE a.p.settle/\True
def yFd (p:Prd):Prop:=
 cnd (decide (p.tick<1)) (∃(a:Unit),qP p=ax/\True) (cnd (decide (p.tick>1000)) (∃(a:Unit),qP p=ax/\True) (∃(a:z3l),a.n=p.low/\sb a.p.code=sb p.code/\iE a.p.months=iE p.months/\a.p.tick=p.tick/\a.p.low=p.low/\a.p.high=p.high/\a.p.wide=p.wide/\a.p.rule=p.rule/\a.p.top=p.top/\a.p.least=p.least/\a.p.part=p.part/\iE a.p.settle=iE p.settle/\1<=a.p.tick/\∀(b:Unit),True->cnd (!qU a.p.tick a.n) (∃(c:z3l),c.n=a.p.high/\sb c.p.code=sb a.p.code/\iE c.p.months=iE a.p.months/\c.p.tick=a.p.tick/\c.p.low=a.p.low/\c.p.high=a.p.high/\c.p.wide=a.p.wide/\c.p.rule=a.p.rule/\c.p.top=a.p.top/\c.p.least=a.p.least/\c.p.part=a.p.part/\iE c.p.settle=iE a.p.settle/\1<=c.p.tick/\∀(d:Unit),True->cnd (!qU c.p.tick c.n) (∃(e:z3l),e.n=c.p.wide/\sb e.p.code=sb c.p.code/\iE e.p.months=iE c.p.months/\e.p.tick=c.p.tick/\e.p.low=c.p.low/\e.p.high=c.p.high/\e.p.wide=c.p.wide/\e.p.rule=c.p.rule/\e.p.top=c.p.top/\e.p.least=c.p.least/\e.p.part=c.p.part/\iE e.p.settle=iE c.p.settle/\1<=e.p.tick/\∀(f:Unit),True->cnd (!qU e.p.tick e.n) (∃(g:zVr),iE g.l=iE e.p.settle/\sb g.p.code=sb e.p.code/\iE g.p.months=iE e.p.months/\g.p.tick=e.p.tick/\g.p.low=e.p.low/\g.p.high=e.p.high/\g.p.wide=e.p.wide/\g.p.rule=e.p.rule/\g.p.top=e.p.top/\g.p.least=e.p.least/\g.p.part=e.p.part/\iE g.p.settle=iE e.p.settle/\(1<=g.p.tick/\g.l.length<=1099511627776)/\∀(h:Unit),True->∃(j:Unit),qP p=!g.l.any (qU g.p.tick)/\True) (∃(g:Unit),qP p=ax/\True)) (∃(e:Unit),qP p=ax/\True)) (∃(c:Unit),qP p=ax/\True)))
def yD (a:Prd):Prop:=a.code.length<=1099511627776/\a.months.length<=1099511627776/\a.settle.length<=1099511627776
def vD (a:Prd):=(↑(iE a.settle).length:Int)
def xF (a:Prd):=(↑(iE a.months).length:Int)
def yHz (p:Prd):Prop:=
 ∃(a:List UInt8),sb a=sb p.code/\a.length<=1099511627776/\∀(b:Unit),True->cnd (!wF a) (∃(c:Unit),p.check=12/\True) (∃(c:List Int),iE c=iE p.months/\c.length<=1099511627776/\∀(d:Unit),True->cnd (!xG c) (∃(e:Unit),p.check=1/\True) (∃(e:Prd),sb e.code=sb p.code/\iE e.months=iE p.months/\e.tick=p.tick/\e.low=p.low/\e.high=p.high/\e.wide=p.wide/\e.rule=p.rule/\e.top=p.top/\e.least=p.least/\e.part=p.part/\iE e.settle=iE p.settle/\(yD e)/\∀(f:Unit),True->cnd (!qP e) (∃(g:Unit),p.check=22/\True) (cnd (decide (p.low<(-1000000))) (∃(g:Unit),p.check=23/\True) (cnd (decide (p.low>=p.high)) (∃(g:Unit),p.check=23/\True) (cnd (decide (p.high>1000000)) (∃(g:Unit),p.check=23/\True) (cnd (decide (p.wide<0)) (∃(g:Unit),p.check=23/\True) (cnd (decide (p.wide>ar.wrap (p.high-p.low))) (∃(g:Unit),p.check=23/\True) (cnd ((vD p) !=(xF p)) (∃(g:Unit),p.check=1/\True) (∃(g:List Int),iE g=iE p.settle/\(0<g.length/\g.length<=1099511627776)/\∀(h:Unit),True->dh p.low/\cnd (decide (sW g<p.low)) (∃(j:Unit),p.check=1/\True) (∃(j:List Int),iE j=iE p.settle/\(0<j.length/\j.length<=1099511627776)/\∀(k:Unit),True->dh p.high/\cnd (decide (tX j>p.high)) (∃(l:Unit),p.check=1/\True) (cnd (decide (p.rule<1)) (∃(l:Unit),p.check=31/\True) (cnd (decide (p.rule>3)) (∃(l:Unit),p.check=31/\True) (cnd (decide (p.top<0)) (∃(l:Unit),p.check=24/\True) (cnd (decide (p.top>1000000)) (∃(l:Unit),p.check=24/\True) (cnd (decide (p.least<1)) (∃(l:Unit),p.check=24/\True) (cnd (decide (p.least>1000)) (∃(l:Unit),p.check=24/\True) (cnd (decide (p.part<0)) (∃(l:Unit),p.check=24/\True) (cnd (decide (p.part>100)) (∃(l:Unit),p.check=24/\True) (∃(l:Unit),p.check=0/\True)))))))))))))))))))
def tN (a:Prd) (b:Prd):Prop:=sb a.code=sb b.code/\iE a.months=iE b.months/\a.tick=b.tick/\a.low=b.low/\a.high=b.high/\a.wide=b.wide/\a.rule=b.rule/\a.top=b.top/\a.least=b.least/\a.part=b.part/\iE a.settle=iE b.settle/\(yD a)/\∀(c:Unit),True->cnd (a.check !=0) (∃(d:Unit),(↑b.count:Int)=0/\True) (ar=ar/\(2:Int)≠(0:Int)/\∃(d:Unit),(↑b.count:Int)=ar.wrap ((xF b)+ar.wrap ((ar.wrap ((xF b)*ar.wrap ((xF b)-1))).tdiv 2))/\True)
def z6x (p:Prd):Prop:=
 ∃(a:Prd),tN a p
def tH (a:c8):Prop:=ac [V.d (D.v (bz (sb a.p.code))),V.own 0,V.d (dI a.p.tick),V.d (dI a.p.low),V.d (dI a.p.high),V.d (dI a.p.wide),V.d (dI a.p.rule),V.d (dI a.p.top),V.d (dI a.p.least),V.d (dI a.p.part),V.own 1] 25=ac [V.d (D.v (bz (sb a.p.code))),V.own 0,V.d (dI a.p.tick),V.d (dI a.p.low),V.d (dI a.p.high),V.d (dI a.p.wide),V.d (dI a.p.rule),V.d (dI a.p.top),V.d (dI a.p.least),V.d (dI a.p.part),V.own 1] 25/\dh (ab 1 (iE a.p.settle))/\dh (ab 1 (iE a.p.months))
def zGj (a:Nat->Prop) (b:Nat) (c:Nat->Nat) (d:Nat) (e:c8):Prop:=a b/\c b<c d/\tH e
def uT (a:c8) (b:Nat):=(↑(yJ a.p.months.length b):Int)
def vQ (a:c8):=(↑(iE a.p.months).length:Int)
def zIe (a:c8) (b:Nat):=((uT a b)+ar.wrap (ar.wrap ((vQ a)-1)-(↑b:Int)))
def fG (a:c8):Prop:=∃(b:Unit),(a.p.legs a.n).fst=0/\(a.p.legs a.n).snd.fst=0/\(a.p.legs a.n).snd.snd=ax/\True
def zAs (a:c8):Prop:=∃(b:Unit),(a.p.legs a.n).fst=a.n/\(a.p.legs a.n).snd.fst=a.n/\(a.p.legs a.n).snd.snd=ax/\True
def yQn (i:c8):Prop:=
 ∃(a:Prd),sb a.code=sb i.p.code/\iE a.months=iE i.p.months/\a.tick=i.p.tick/\a.low=i.p.low/\a.high=i.p.high/\a.wide=i.p.wide/\a.rule=i.p.rule/\a.top=i.p.top/\a.least=i.p.least/\a.part=i.p.part/\iE a.settle=iE i.p.settle/\(yD a)/\∀(b:Unit),True->cnd (decide (i.n<0)) (fG i) (cnd (decide (i.n>=(↑a.count:Int))) (fG i) (cnd (decide (i.n<(vQ i))) (zAs i) (∃(c:Nat),(uT i c)=(vQ i)/\(↑c:Int)=0/\∃(d:Nat->Prop),∃(e:Nat->Nat),d c/\∀(f:Nat),d f->cnd (decide ((↑f:Int)<(vQ i))) (cnd (decide (i.n<ar.wrap (zIe i f))) (∃(g:Unit),(i.p.legs i.n).fst=(↑f:Int)/\(i.p.legs i.n).snd.fst=ar.wrap (ar.wrap (ar.wrap ((↑f:Int)+1)+i.n)-(uT i f))/\(i.p.legs i.n).snd.snd=ay/\True) (∃(g:Nat),(uT i g)=ar.wrap (zIe i f)/\(↑g:Int)=ar.wrap ((↑f:Int)+1)/\zGj d g e f i)) (fG i))))
def cX (a:eD):Prop:=∃(b:Unit),(a.p.spread a.a a.b).fst=0/\(a.p.spread a.a a.b).snd=ax/\True
def z9h (i:eD):Prop:=
 ∃(a:Prd),sb a.code=sb i.p.code/\iE a.months=iE i.p.months/\a.tick=i.p.tick/\a.low=i.p.low/\a.high=i.p.high/\a.wide=i.p.wide/\a.rule=i.p.rule/\a.top=i.p.top/\a.least=i.p.least/\a.part=i.p.part/\iE a.settle=iE i.p.settle/\(yD a)/\∀(b:Unit),True->cnd (a.check !=0) (cX i) (cnd (decide (i.a<0)) (cX i) (cnd (decide (i.a>=i.b)) (cX i) (cnd (decide (i.b>=(↑(iE i.p.months).length:Int))) (cX i) (∃(c:Nat),(↑(yJ i.p.months.length c):Int)=(↑(iE i.p.months).length:Int)/\(↑c:Int)=0/\∃(d:Nat->Prop),∃(e:Nat->Nat),d c/\∀(f:Nat),d f->cnd (decide ((↑f:Int)<i.a)) (∃(g:Nat),(↑(yJ i.p.months.length g):Int)=ar.wrap ((↑(yJ i.p.months.length f):Int)+ar.wrap (ar.wrap ((↑(iE i.p.months).length:Int)-1)-(↑f:Int)))/\(↑g:Int)=ar.wrap ((↑f:Int)+1)/\d g/\e g<e f/\dh (ac [V.d (D.v (bz (sb i.p.code))),V.own 0,V.d (dI i.p.tick),V.d (dI i.p.low),V.d (dI i.p.high),V.d (dI i.p.wide),V.d (dI i.p.rule),V.d (dI i.p.top),V.d (dI i.p.least),V.d (dI i.p.part),V.own 1] 25)/\dh (ab 1 (iE i.p.settle))/\dh (ab 1 (iE i.p.months))) (∃(g:Unit),(i.p.spread i.a i.b).fst=ar.wrap (ar.wrap (ar.wrap ((↑(yJ i.p.months.length f):Int)+i.b)-i.a)-1)/\(i.p.spread i.a i.b).snd=ay/\True)))))
def yGa (i:eD):Prop:=
 ∃(a:Prd),sb a.code=sb i.p.code/\iE a.months=iE i.p.months/\a.tick=i.p.tick/\a.low=i.p.low/\a.high=i.p.high/\a.wide=i.p.wide/\a.rule=i.p.rule/\a.top=i.p.top/\a.least=i.p.least/\a.part=i.p.part/\iE a.settle=iE i.p.settle/\(yD a)/\∀(b:Unit),True->cnd ((↑a.count:Int)==0) (∃(c:Unit),i.p.price i.a i.b=1/\True) (cnd (decide (i.a<0)) (∃(c:Unit),i.p.price i.a i.b=20/\True) (cnd (decide (i.a>=(↑a.count:Int))) (∃(c:Unit),i.p.price i.a i.b=20/\True) (ar=ar/\i.p.tick≠0/\cnd (i.b.tmod i.p.tick !=0) (∃(c:Unit),i.p.price i.a i.b=22/\True) (cnd (decide (i.a>=(↑(iE i.p.months).length:Int))) (cnd (decide (i.b<ar.wrap (0-i.p.wide))) (∃(c:Unit),i.p.price i.a i.b=23/\True) (cnd (decide (i.b>i.p.wide)) (∃(c:Unit),i.p.price i.a i.b=23/\True) (∃(c:Unit),i.p.price i.a i.b=0/\True))) (cnd (decide (i.b<i.p.low)) (∃(c:Unit),i.p.price i.a i.b=23/\True) (cnd (decide (i.b>i.p.high)) (∃(c:Unit),i.p.price i.a i.b=23/\True) (∃(c:Unit),i.p.price i.a i.b=0/\True)))))))
def zOh (a:I2):Prop:=∃(b:Unit),(gK a.x a.y).fst=ar.wrap (a.x+a.y)/\(gK a.x a.y).snd=ay/\True
def y2y (i:I2):Prop:=
 cnd (decide (i.x<0)==decide (i.y<0)) (cnd (!decide (ar.wrap (i.x+i.y)<0)==decide (i.x<0)) (∃(a:Unit),(gK i.x i.y).fst=0/\(gK i.x i.y).snd=ax/\True) (zOh i)) (zOh i)
def zPa (a:I2):Prop:=∃(b:Unit),(gG a.x a.y).fst=ar.wrap (a.x-a.y)/\(gG a.x a.y).snd=ay/\True
def y2o (i:I2):Prop:=
 cnd (!decide (i.x<0)==decide (i.y<0)) (cnd (!decide (ar.wrap (i.x-i.y)<0)==decide (i.x<0)) (∃(a:Unit),(gG i.x i.y).fst=0/\(gG i.x i.y).snd=ax/\True) (zPa i)) (zPa i)
def y5k (i:z3l) (h:offC.cnd i):y0y i:=by
 have h:1<=i.p.tick:=h;unfold y0y;exact kp
def yEb:offC.ok Tryz.prog 191:=okw mixed gok0 0 (λ_=>[]) (λ_=>[]) [] Tryz.func191 y5k
def zHe {α:Type} {f:α->Bool} {l:List α} (h:∀(k:Nat) (x:α),l[k]? =ba x->f x=ax):l.findIdx? f=bc:=by
 rw[xAk];intro x hx;obtain⟨k,hk⟩:=xBg hx;exact h k x hk
def zHt {α:Type} {f:α->Bool} {l:List α} {j:Nat} {x:α} (h1:l[j]? =ba x) (h2:f x=ay) (h:∀k<j,∀x:α,l[k]? =ba x->f x=ax):l.findIdx? f=ba j:=by
 rw[y9c];obtain⟨hj,rfl⟩:=y5x.1 h1;exact⟨hj,h2,λk hk=>by rw[h k hk _ (y6v (by omega))];simp⟩
def y5f (i:zVr) (h:idxC.cnd i):y2u i:=by
 obtain⟨h1,h2⟩:1<=i.p.tick/\i.l.length<=1099511627776:=h;unfold y2u dI;simp only[y4];refine⟨0,rfl,λj=>j<=i.l.length/\∀k<j,∀x,i.l[k]? =ba x->qU i.p.tick x=ax,λj=>i.l.length-j,⟨oM,λk hk=>by omega⟩,?_⟩;rintro j ⟨h3,h4⟩;refine zH (λhj=> ?_) (λhj=> ?_)
 ·obtain⟨n,hn⟩:=yA (l:=i.l) (i:=j) oM;refine⟨⟨oM,oM⟩,n,elI hn,⟨i.p,n⟩,?_⟩
  (repeat'(first|exact rfl|exact trivial|assumption|apply be|refineλ(_:Unit) (_:True)=>?_|refine az () ?_|omega|(dsimp only;omega)))
  refine Cv.cnd.mk (λe=> ?_) (λe=> ?_)
  ·rw[zHt hn e h4];exact kp
  ·refine⟨j+1,by rw[w64 (by omega)];rfl,⟨oM,λk hk x hx=> ?_⟩,by(first|omega|(dsimp only;omega)),rfl⟩;rcases y8c k j with hk'|hk'
   ·exact h4 k hk' x hx
   ·obtain rfl:k=j:=by omega
    rw[hn]at hx;cases hx;exact e
 ·rw[zHe λk x hx=>h4 k (by have:=(y5x.1 hx).1;omega) x hx];exact kp
def yYh:idxC.ok Tryz.prog 227:=okw mixed (gokc yEb gok0) 0 (λ_=>[]) (λi=>y4c i) [] Tryz.func227 y5f
def z9v {l:List Int} {f:Int->Bool}:l.any f=decide (zKk (l.findIdx? f)>=0):=by
 cases hf:l.findIdx? f with
 |none=>
  rw[xAk]at hf;have:l.any f=ax:=by rw[xBy];intro x hx;simp[hf x hx]
  rw[this];rfl
 |some k=>
  rw[y9c]at hf;obtain⟨hk,h1,_⟩:=hf;have:l.any f=ay:=by rw[List.any_eq_true];exact⟨_,List.getElem_mem hk,h1⟩
  rw[this,zKk,y6k (by omega)]
def yCu (i:zVr) (h:containsC.cnd i):zTe i:=by
 unfold zTe;have h':1<=i.p.tick/\i.l.length<=1099511627776:=h;refine⟨i,?_⟩
 (repeat'(first|exact rfl|exact trivial|assumption|apply be|refineλ(_:Unit) (_:True)=>?_|refine az () ?_|omega|(dsimp only;omega)))
 exact z9v
def zXe:containsC.ok Tryz.prog 192:=okw mixed (gokc yYh gok0) 0 (λ_=>[]) (λ_=>[]) [] Tryz.func192 yCu
def yXw (p:Prd) (h:ticksC.cnd p):yFd p:=by
 obtain⟨h1,h2,h3⟩:p.small:=h;unfold yFd;refine zH (λc1=>⟨(),by rw[qP,y6g (by omega)];rfl,trivial⟩) (λc1=>zH (λc2=>⟨(),by rw[qP,y6g (show ¬p.tick<=1000 by omega)];simp,trivial⟩) (λc2=>⟨⟨p,p.low⟩,?_⟩));have e1:qP p=(!qU p.tick p.low && !qU p.tick p.high && !qU p.tick p.wide && !p.settle.any (qU p.tick)):=by
  rw[qP,y6k (by omega),y6k (by omega)];rfl
 rw[e1]
 (repeat'(first|exact rfl|exact trivial|assumption|apply be|refineλ(_:Unit) (_:True)=>?_|refine az () ?_|omega|(dsimp only;omega)))
 refine Cv.cnd.mk (λc3=>⟨⟨p,p.high⟩,?_⟩) (λc3=>⟨(),?_,trivial⟩)
 ·dsimp only at c3
  (repeat'(first|exact rfl|exact trivial|assumption|apply be|refineλ(_:Unit) (_:True)=>?_|refine az () ?_|omega|(dsimp only;omega)))
  refine Cv.cnd.mk (λc4=>⟨⟨p,p.wide⟩,?_⟩) (λc4=>⟨(),?_,trivial⟩)
  ·dsimp only at c4
   (repeat'(first|exact rfl|exact trivial|assumption|apply be|refineλ(_:Unit) (_:True)=>?_|refine az () ?_|omega|(dsimp only;omega)))
   refine Cv.cnd.mk (λc5=>⟨⟨p,p.settle⟩,?_⟩) (λc5=>⟨(),?_,trivial⟩)
   ·dsimp only at c5
    (repeat'(first|exact rfl|exact trivial|assumption|apply be|refineλ(_:Unit) (_:True)=>?_|refine az () ?_|omega|(dsimp only;omega)))
    rw[c3,c4,c5];simp
   ·dsimp only at c5;rw[c5];simp
  ·dsimp only at c4;rw[c4];simp
 ·dsimp only at c3;rw[c3];simp
def yIz:ticksC.ok Tryz.prog 153:=okw mixed (gokc yEb (gokc zXe gok0)) 0 (λ_=>[]) (λ_=>[]) [] Tryz.func153 yXw
def yXo (p:Prd) (h:checkC.cnd p):yHz p:=by
 obtain⟨h1,h2,h3⟩:p.small:=h;unfold yHz xF vD yD;simp only[y4];refine⟨p.code,rfl,h1,λ_ _=>Cv.cnd.mk (λc1=>⟨(),by rw[Prd.check,y5v c1],trivial⟩) (λc1=>⟨p.months,rfl,h2,λ_ _=>Cv.cnd.mk (λc2=>⟨(),by rw[Prd.check,y5t (by simp[c1]),y5v c2],trivial⟩) (λc2=>⟨p,?_⟩)⟩)⟩
 (repeat'(first|exact rfl|exact trivial|assumption|apply be|refineλ(_:Unit) (_:True)=>?_|refine az () ?_|omega|(dsimp only;omega)))
 refine Cv.cnd.mk (λc3=>⟨(),by rw[Prd.check,y5t (by simp[c1]),y5t (by simp[c2]),y5v c3],trivial⟩) (λc3=> ?_);have e0:p.check=if qQ p then 23 else if xM p then 1 else if kJ p then 31 else if x9 p then 24 else 0:=by
  rw[Prd.check,y5t (by simp[c1]),y5t (by simp[c2]),y5t (by simp[c3])]
 have b (hb:qQ p=ay):∃(o:Unit),p.check=23/\True:=⟨(),by rw[e0,y5v hb],trivial⟩
 refine zH (λd1=>b (by simp[qQ,d1])) λd1=>zH (λd2=>b (by simp[qQ];omega)) λd2=>zH (λd3=>b (by simp[qQ];omega)) λd3=>zH (λd4=>b (by simp[qQ];omega)) λd4=> ?_
 rw[w64 (by omega)];refine zH (λd5=>b (by simp[qQ];omega)) λd5=> ?_
 have e1:p.check=if xM p then 1 else if kJ p then 31 else if x9 p then 24 else 0:=by
  rw[e0,y5t (by simp[qQ];omega)]
 have s (hb:xM p=ay):∃(o:Unit),p.check=1/\True:=⟨(),by rw[e1,y5v hb],trivial⟩
 have hm:2<=p.months.length:=by
  have c2:xG p.months=ay:=by simpa using c2
  simp[xG]at c2;omega
 refine Cv.cnd.mk (λd6=>s (by have d6:¬(p.settle.length:Int)=p.months.length:=(by simpa using d6);simp[xM];omega)) λd6=> ?_
 have d6:p.settle.length=p.months.length:=by
  have:(p.settle.length:Int)=p.months.length:=by simpa using d6
  omega
 refine⟨p.settle,rfl,⟨oM,oM⟩,λ_ _=>⟨kp,zH (λd7=>s (by simp[xM];left;right;omega)) λd7=>⟨p.settle,rfl,⟨oM,oM⟩,λ_ _=>⟨kp,zH (λd8=>s (by simp[xM];right;omega)) λd8=> ?_⟩⟩⟩⟩;have e2:p.check=if kJ p then 31 else if x9 p then 24 else 0:=by
  rw[e1,y5t (by simp[xM];omega)]
 have r (hb:kJ p=ay):∃(o:Unit),p.check=31/\True:=⟨(),by rw[e2,y5v hb],trivial⟩
 refine zH (λd9=>r (by simp[kJ];omega)) λd9=>zH (λd10=>r (by simp[kJ];omega)) λd10=> ?_
 have e3:p.check=if x9 p then 24 else 0:=by
  rw[e2,y5t (by simp[kJ];omega)]
 have q (hb:x9 p=ay):∃(o:Unit),p.check=24/\True:=⟨(),by rw[e3,y5v hb],trivial⟩
 refine zH (λf1=>q (by simp[x9];omega)) λf1=>zH (λf2=>q (by simp[x9];omega)) λf2=>zH (λf3=>q (by simp[x9];omega)) λf3=>zH (λf4=>q (by simp[x9];omega)) λf4=>zH (λf5=>q (by simp[x9];omega)) λf5=>zH (λf6=>q (by simp[x9];omega)) λf6=> ?_
 exact⟨(),by rw[e3,y5t (by simp[x9];omega)],trivial⟩
def eK:checkC.ok Tryz.prog 104:=okw mixed (gokc yXv (gokc z9z (gokc yIz (gokc yTq (gokc yWs gok0))))) 0 (λ_=>[]) (λ_=>[]) [] Tryz.func104 yXo
structure Prd.Ok (p:Prd):Prop where
 sym:wF p.code=ay
 months:xG p.months=ay
 ticks:qP p=ay
 m2:2<=p.months.length
 m6:p.months.length<=6
 t1:1<=p.tick
 t2:p.tick<=1000
 b1: -1000000<=p.low
 b2:p.low<p.high
 b3:p.high<=1000000
 b4:0<=p.wide
 b5:p.wide<=p.high-p.low
 s1:p.settle.length=p.months.length
 s2:p.low<=sW p.settle
 s3:tX p.settle<=p.high
 r1:1<=p.rule
 r2:p.rule<=3
 q1:0<=p.top
 q2:p.top<=1000000
 q3:1<=p.least
 q4:p.least<=1000
 q5:0<=p.part
 q6:p.part<=100
def kH {p:Prd} (h:p.check=0):p.Ok:=by
 unfold Prd.check at h;split at h<;>first|(exfalso;revert h;decide)|skip
 rename_i c1;split at h<;>first|(exfalso;revert h;decide)|skip
 rename_i c2;split at h<;>first|(exfalso;revert h;decide)|skip
 rename_i c3;split at h<;>first|(exfalso;revert h;decide)|skip
 rename_i c4;split at h<;>first|(exfalso;revert h;decide)|skip
 rename_i c5;split at h<;>first|(exfalso;revert h;decide)|skip
 rename_i c6;split at h<;>first|(exfalso;revert h;decide)|skip
 rename_i c7;simp only[y9g,Bool.not_eq_false,Bool.not_eq_true]at c1 c2 c3;have m:=c2;have t:=c3;simp[xG]at m;simp[qP]at t;simp[qQ]at c4;simp[xM]at c5;simp[kJ]at c6;simp[x9]at c7;exact⟨c1,c2,c3,oM,oM,oM,oM,oM,oM,oM,oM,oM,oM,oM,oM,oM,oM,oM,oM,oM,oM,oM,oM⟩
def yEf {n:Nat} (h:n<=6):n+n*(n-1) / 2<=21:=by
 have:∀n≤6,n+n*(n-1) / 2<=21:=by decide
 exact this n h
def yOo (p:Prd) (h:pcountC.cnd p):z6x p:=by
 unfold z6x tN xF yD;obtain⟨h1,h2,h3⟩:p.small:=h;refine⟨p,?_⟩;simp only[y4]
 (repeat'(first|exact rfl|exact trivial|assumption|apply be|refineλ(_:Unit) (_:True)=>?_|refine az () ?_|omega|(dsimp only;omega)))
 refine Cv.cnd.mk (λc=>⟨(),by rw[Prd.count,y5t (by simpa using c)];rfl,trivial⟩) (λc=> ?_);have c:p.check=0:=by simpa using c
 have ok:=kH c;refine⟨kp,Z8,(),?_,trivial⟩;rw[Prd.count,y5v c];obtain⟨n,hn⟩:∃n,p.months.length=n:=⟨_,rfl⟩
 have m2:=ok.m2;have m6:=ok.m6;rw[hn]at m2 m6 ⊢;have:n=2\/n=3\/n=4\/n=5\/n=6:=by omega
 rcases this with rfl|rfl|rfl|rfl|rfl<;>rfl
def aF:pcountC.ok Tryz.prog 106:=okw mixed (gokc eK gok0) 0 (λ_=>[]) (λ_=>[]) [] Tryz.func106 yOo
def eU {p:Prd} (h:p.count≠0):p.check=0:=by
 unfold Prd.count at h;split at h
 ·assumption
 ·exact absurd rfl h
def xU (p:Prd):p.count<=21:=by
 unfold Prd.count;split
 ·rename_i h;exact yEf (kH h).m6
 ·omega
def zMk {n m:Nat} (h:n<=6) (hm:m<=n):yJ n m<=21:=by
 have:∀n≤6,∀m≤n,yJ n m<=21:=by decide
 exact this n h m hm
def y2v (i:c8) (h:legsC.cnd i):yQn i:=by
 unfold yQn zGj tH zAs fG zIe vQ uT yD dI;obtain⟨h1,h2,h3⟩:i.p.small:=h;refine⟨i.p,?_⟩;simp only[y4]
 (repeat'(first|exact rfl|exact trivial|assumption|apply be|refineλ(_:Unit) (_:True)=>?_|refine az () ?_|omega|(dsimp only;omega)))
 refine zH (λc1=> ?_) (λc1=>zH (λc2=> ?_) (λc2=> ?_))
 ·rw[Prd.legs,y5v (by omega)];exact kp
 ·rw[Prd.legs,y5v (by omega)];exact kp
 have c2:¬i.n>=(i.p.count:Int):=c2;have hc:=xU i.p;have ok:=kH (eU (p:=i.p) oM);have m6:=ok.m6;refine zH (λc3=> ?_) (λc3=> ?_)
 ·rw[Prd.legs,y5t (by omega),y5v c3];exact kp
 have e0:i.p.legs i.n=kT i.p.months.length i.n.toNat i.p.months.length 0:=by
  rw[Prd.legs,y5t (by omega),y5t c3]
 rw[e0];generalize hn:i.p.months.length=n at c3 m6 ⊢;obtain⟨k,hk⟩:∃k:Nat,i.n=k:=⟨i.n.toNat,oM⟩
 rw[hk]at c2 c3 ⊢;refine⟨0,rfl,rfl,λm=>m<=n/\yJ n m<=k/\kT n k n 0=kT n k (n-m) m,λm=>n-m,⟨oM,by show n<=k;omega,rfl⟩,?_⟩;rintro m ⟨g1,g2,g3⟩;have hf:=zMk m6 g1;refine zH (λc4=> ?_) (λc4=> ?_)
 ·obtain⟨r,hr⟩:∃r,n-m=r+1:=⟨n-m-1,oM⟩
  have e1:(k:Int).toNat=k:=by omega
  rw[e1,g3,hr,w64 (x:=(n:Int)-1) (by omega),w64 (x:=(n:Int)-1-m) (by omega),w64 (x:=(yJ n m:Int)+((n:Int)-1-m)) (by omega),w64 (x:=(m:Int)+1) (by omega)];rw[hr]at g3;refine zH (λc5=> ?_) (λc5=> ?_)
  ·rw[w64 (x:=(m:Int)+1+k) (by omega),w64 (x:=(m:Int)+1+k-(yJ n m:Int)) (by omega),kT,y5v (by omega)];refine⟨(),rfl,?_,rfl,trivial⟩;dsimp only;omega
  ·refine⟨m+1,?_,rfl,⟨oM,?_,?_⟩,by(first|omega|(dsimp only;omega)),kp⟩
   ·rw[yJ];omega
   ·rw[yJ];omega
   ·rw[kT,y5t (by omega),show n-(m+1)=r by omega]
 ·have e1:(k:Int).toNat=k:=by omega
  rw[e1,g3,show n-m=0 by omega];exact⟨(),rF3 trivial⟩
def zAf:legsC.ok Tryz.prog 196:=okw mixed (gokc aF gok0) 0 (λ_=>[]) (λi=>yZa i) [] Tryz.func196 y2v
def yLp (i:eD) (h:spreadC.cnd i):z9h i:=by
 unfold z9h cX yD dI;obtain⟨h1,h2,h3⟩:i.p.small:=h;refine⟨i.p,?_⟩;simp only[y4]
 (repeat'(first|exact rfl|exact trivial|assumption|apply be|refineλ(_:Unit) (_:True)=>?_|refine az () ?_|omega|(dsimp only;omega)))
 have bad (hb:i.p.check≠0\/i.a<0\/i.b<=i.a\/(i.p.months.length:Int)<=i.b):∃(o:Unit),(i.p.spread i.a i.b).fst=0/\(i.p.spread i.a i.b).snd=ax/\True:=⟨(),by rw[Prd.spread,y5v hb],by rw[Prd.spread,y5v hb],trivial⟩
 refine Cv.cnd.mk (λc1=>bad (.inl (by simpa using c1))) λc1=>zH (λc2=>bad oM) λc2=>zH (λc3=>bad oM) λc3=>zH (λc4=>bad oM) λc4=> ?_
 have c1:i.p.check=0:=by simpa using c1
 have m6:=(kH c1).m6;rw[Prd.spread,y5t (by omega)];generalize hn:i.p.months.length=n at c4 m6 ⊢;obtain⟨a,ha⟩:∃k:Nat,i.a=k:=⟨i.a.toNat,oM⟩
 rw[ha]at c3 ⊢;refine⟨0,rfl,rfl,λm=>m<=a,λm=>a-m,oM,?_⟩;intro m hm;have hm:m<=a:=hm;have hf:=zMk (m:=m) m6 oM;refine zH (λc5=> ?_) (λc5=> ?_)
 ·rw[w64 (x:=(n:Int)-1) (by omega),w64 (x:=(n:Int)-1-m) (by omega),w64 (x:=(yJ n m:Int)+((n:Int)-1-m)) (by omega),w64 (x:=(m:Int)+1) (by omega)];refine⟨m+1,?_,rfl,oM,by(first|omega|(dsimp only;omega)),kp⟩;rw[yJ];omega
 ·obtain rfl:m=a:=by omega
  rw[w64 (x:=(yJ n m:Int)+i.b) (by omega),w64 (x:=(yJ n m:Int)+i.b-m) (by omega),w64 (x:=(yJ n m:Int)+i.b-m-1) (by omega)];exact⟨(),rfl,rfl,trivial⟩
def zTp:spreadC.ok Tryz.prog 199:=okw mixed (gokc eK gok0) 0 (λ_=>[]) (λi=>yMq i) [] Tryz.func199 yLp
def yXx (i:eD) (h:priceC.cnd i):yGa i:=by
 unfold yGa yD;obtain⟨h1,h2,h3⟩:i.p.small:=h;refine⟨i.p,?_⟩;simp only[y4]
 (repeat'(first|exact rfl|exact trivial|assumption|apply be|refineλ(_:Unit) (_:True)=>?_|refine az () ?_|omega|(dsimp only;omega)))
 refine Cv.cnd.mk (λc1=>⟨(),by rw[Prd.price,y5v (by have:(i.p.count:Int)=0:=(by simpa using c1);omega)],trivial⟩) λc1=> ?_
 have c1:i.p.count≠0:=by
  have:¬(i.p.count:Int)=0:=by simpa using c1
  omega
 have e0:i.p.price i.a i.b=if i.a<0\/(i.p.count:Int)<=i.a then 20 else if qU i.p.tick i.b then 22 else
  if i.b<(if(i.p.months.length:Int)<=i.a then-i.p.wide else i.p.low)\/(if(i.p.months.length:Int)<=i.a then i.p.wide else i.p.high)<i.b then 23 else 0:=by rw[Prd.price,y5t c1]
 rw[e0];have ok:=kH (eU c1);obtain⟨t1,b3,b1,b2,b4,b5⟩:=(⟨ok.t1,ok.b3,ok.b1,ok.b2,ok.b4,ok.b5⟩:_/\_/\_/\_/\_/\_)
 refine zH (λc2=>⟨(),by rw[y5v (.inl c2)],trivial⟩) λc2=>zH (λc3=>⟨(),by rw[y5v (.inr c3)],trivial⟩) λc3=>⟨kp,oM,?_⟩
 have c3:¬i.a>=(i.p.count:Int):=c3;rw[y5t (by omega)];refine Cv.cnd.mk (λc4=>⟨(),y5v c4,trivial⟩) λc4=> ?_
 rw[y5t (by rw[qU,c4];simp),w64 (x:=0-i.p.wide) (by omega)];refine zH (λc5=> ?_) (λc5=> ?_)
 ·have c5:(i.p.months.length:Int)<=i.a:=c5;simp only[y5v c5];refine zH (λc6=>⟨(),y5v (.inl oM),trivial⟩) λc6=>zH (λc7=>⟨(),y5v (.inr oM),trivial⟩) λc7=>⟨(),y5t oM,trivial⟩
 ·have c5:¬(i.p.months.length:Int)<=i.a:=c5;simp only[y5t c5];refine zH (λc6=>⟨(),y5v (.inl oM),trivial⟩) λc6=>zH (λc7=>⟨(),y5v (.inr oM),trivial⟩) λc7=>⟨(),y5t oM,trivial⟩
def eN:priceC.ok Tryz.prog 161:=okw mixed (gokc aF gok0) 0 (λ_=>[]) (λ_=>[]) [] Tryz.func161 yXx
def yQw (x:Int) (h: -18446744073709551616<=x/\x<18446744073709551616):(yY x/\ar.wrap x=x)\/(9223372036854775807<x/\ar.wrap x=x-18446744073709551616)\/(x< -9223372036854775808/\ar.wrap x=x+18446744073709551616):=by
 have e:ar.wrap x=if(decide (x % 18446744073709551616>=9223372036854775808))=ay then x % 18446744073709551616-18446744073709551616 else x % 18446744073709551616:=by
  have:ar.wrap x=if(ay && decide (x % 18446744073709551616>=9223372036854775808))=ay then x % 18446744073709551616-18446744073709551616 else x % 18446744073709551616:=rfl
  rw[this,y8q]
 have e:ar.wrap x=(x+9223372036854775808) % 18446744073709551616-9223372036854775808:=by
  rw[e];by_cases h2:x % 18446744073709551616>=9223372036854775808
  ·rw[y5v (y6k h2)];omega
  ·rw[y5t (by simpa using h2)];omega
 rw[e];by_cases h1:yY x
 ·exact .inl ⟨h1,by unfold yY at h1;omega⟩
 ·unfold yY at h1;omega
def y4e (i:I2) (h:addC.cnd i):y2y i:=by
 obtain⟨⟨x1,x2⟩,y1,y2⟩:yY i.x/\yY i.y:=h;have hw:=yQw (i.x+i.y) oM;unfold y2y zOh gK;generalize ar.wrap (i.x+i.y)=w at hw ⊢;unfold yY at hw ⊢;refine Cv.cnd.mk (λc1=>Cv.cnd.mk (λc2=> ?_) (λc2=> ?_)) (λc1=> ?_)
 all_goals(simp at*)
 ·rw[y5t (by omega)];exact kp
 ·rw[y5v (by omega)];refine⟨?_,rfl⟩;dsimp only;omega
 ·rw[y5v (by omega)];refine⟨?_,rfl⟩;dsimp only;omega
def zUo:addC.ok Tryz.prog 230:=okw mixed gok0 0 (λ_=>[]) (λ_=>[]) [] Tryz.func230 y4e
def y5l (i:I2) (h:subC.cnd i):y2o i:=by
 obtain⟨⟨x1,x2⟩,y1,y2⟩:yY i.x/\yY i.y:=h;have hw:=yQw (i.x-i.y) oM;unfold y2o zPa gG;generalize ar.wrap (i.x-i.y)=w at hw ⊢;unfold yY at hw ⊢;refine Cv.cnd.mk (λc1=>Cv.cnd.mk (λc2=> ?_) (λc2=> ?_)) (λc1=> ?_)
 all_goals(simp at*)
 ·rw[y5t (by omega)];exact kp
 ·rw[y5v (by omega)];refine⟨?_,rfl⟩;dsimp only;omega
 ·rw[y5v (by omega)];refine⟨?_,rfl⟩;dsimp only;omega
def zUg:subC.ok Tryz.prog 231:=okw mixed gok0 0 (λ_=>[]) (λ_=>[]) [] Tryz.func231 y5l
structure Slot where
 used:Bool
 n:Int
 id:Int
 qty:Int
 top:Bool
 queue:Int
 ahead:Int
 back:Int
 deriving DecidableEq
structure cV where
 first:Int
 last:Int
 total:Int
 count:Int
 deriving DecidableEq
structure Arena where
 slots:List Slot
 queues:List cV
 free:Int
 deriving DecidableEq
def zQ (s:Slot):List D:=[.v (.bool s.used),.v (.int .i64 s.n),.v (.int .i64 s.id),.v (.int .i64 s.qty),.v (.bool s.top),.v (.int .i64 s.queue),.v (.int .i64 s.ahead),.v (.int .i64 s.back)]
def zO (q:cV):List D:=[.v (.int .i64 q.first),.v (.int .i64 q.last),.v (.int .i64 q.total),.v (.int .i64 q.count)]
def slot0:Slot:=⟨ax,0,0,0,ax,0,0,0⟩
def zG (a:Arena):Nat->AObj
 |0=> .cells [.own 1,.own 2,zA a.free] 355
 |1=> .own 362 8 (a.slots.map zQ)
 |2=> .own 365 4 (a.queues.map zO)
 |_=> .gone
def jY (a:Arena):AObj:= .adt Arena 3 zG a
structure xN where
 price:Int
 queue:Int
 deriving DecidableEq
structure Place where
 side:Int
 price:Int
 slot:Int
 deriving DecidableEq
structure Book where
 a:Arena
 buys:List xN
 sells:List xN
 at_:List (Int×Place)
 top1:Int
 top2:Int
 spare:List Int
 has1:Bool
 has2:Bool
 deriving DecidableEq
def zB (r:xN):List D:=[.v (.int .i64 r.price),.v (.int .i64 r.queue)]
def z5i (p:Place):List D:=[.v (.int .i64 p.side),.v (.int .i64 p.price),.v (.int .i64 p.slot)]
def atE (l:List (Int×Place)):List (cd×List D):=l.map λx=>(.int .i64 x.1,z5i x.2)
def zP (b:Book):Nat->AObj
 |0=> .cells [.nm 1 0,.own 2,.own 3,.mp 4,zA b.top1,zA b.top2,.own 5,yR b.has1,yR b.has2] 299
 |1=>jY b.a
 |2=> .own 304 2 (b.buys.map zB)
 |3=> .own 304 2 (b.sells.map zB)
 |4=> .map (atE b.at_)
 |5=> .own 3 1 (iE b.spare)
 |_=> .gone
def z7 (b:Book):AObj:= .adt Book 6 zP b
structure MSt where
 p:Prd
 books:List Book
 wh:List (Int×Int)
def yS (l:List (Int×Int)):List (cd×List D):=l.map λx=>(.int .i64 x.1,[.v (.int .i64 x.2)])
def xR (s:MSt):Nat->AObj
 |0=> .cells [sV s.p.code,.own 3,zA s.p.tick,zA s.p.low,zA s.p.high,zA s.p.wide,zA s.p.rule,zA s.p.top,zA s.p.least,zA s.p.part,.own 4,.own 1,.mp 2] 240
 |1=> .objs 241 Book 6 zP s.books bc
 |2=> .map (yS s.wh)
 |3=> .fro 1 (iE s.p.months)
 |4=> .fro 1 (iE s.p.settle)
 |_=> .gone
def zD (s:MSt):AObj:= .adt MSt 5 xR s
def zOu (n:Nat):Arena:=⟨am n slot0,[],n⟩
def book0:Book:=⟨zOu 250,[],[],[],0,0,[],ax,ax⟩
def newAC:Con:=con1 Nat (λn=>[zA n]) (λ_=>[]) (λn=>1<=n/\n<=4096) (λ_=> .tup [.nm 0 0,zA 0]) (λn=>[jY (zOu n)])
def newBC:Con:=con1 Unit (λ_=>[]) (λ_=>[]) (λ_=>True) (λ_=> .nm 0 0) (λ_=>[z7 book0])
def mS (p:Prd):MSt:=⟨p,am p.count book0,[]⟩
def newSC:Con where
 ι:=Prd
 pat:=λp=>[prdV p]
 pre:=λ_=>[]
 cnd:=λp=>p.small
 alts:=λp=>[{o:=Unit,res:=λ_=> .tup [.nm 0 0,zA 0],post:=λ_=>[zD (mS p)],rel:=λ_=>p.check=0},{o:=Unit,res:=λ_=> .tup [.d (.v (.pointer bc)),zA p.check],post:=λ_=>[],rel:=λ_=>p.check≠0}]
def y1w (p:Prd):List SAnn:=[{ι:=Nat,slots:=λj=>[(5,.nm 0 0),(27,zA j)],rows:=λj=>(ao 5).map (xR ⟨p,am j book0,[]⟩)}]
def clSlotC:Con:=con1 (List Slot) (λ_=>[.own 0]) (λl=>[.own 362 8 (l.map zQ)]) (λl=>l.length<=1000000) (λ_=> .own 1) (λl=>[.own 362 8 (l.map zQ),.own 362 8 (l.map zQ)])
def clQueueC:Con:=con1 (List cV) (λ_=>[.own 0]) (λl=>[.own 365 4 (l.map zO)]) (λl=>l.length<=1000000) (λ_=> .own 1) (λl=>[.own 365 4 (l.map zO),.own 365 4 (l.map zO)])
def clRungC:Con:=con1 (List xN) (λ_=>[.own 0]) (λl=>[.own 304 2 (l.map zB)]) (λl=>l.length<=1000000) (λ_=> .own 1) (λl=>[.own 304 2 (l.map zB),.own 304 2 (l.map zB)])
def clIntC:Con:=con1 (List Int) (λ_=>[.own 0]) (λl=>[.own 3 1 (iE l)]) (λl=>l.length<=1000000) (λ_=> .own 1) (λl=>[.own 3 1 (iE l),.own 3 1 (iE l)])
def zWk (f:Nat):Con:=con1 (List (cd×List D)) (λ_=>[.mp 0]) (λes=>[.map es]) (λ_=>True) (λ_=> .mp 1) (λes=>[.map es,.map es])
def clAtC:Con:=zWk 0
def clWhC:Con:=zWk 1
@[reducible] def Arena.small (a:Arena):Prop:=a.slots.length<=1000000/\a.queues.length<=1000000
@[reducible] def Book.small (b:Book):Prop:=b.a.small/\b.buys.length<=1000000/\b.sells.length<=1000000/\b.spare.length<=1000000
@[reducible] def MSt.small (s:MSt):Prop:=s.books.length<=1000000/\∀b∈s.books,b.small
def copyAC:Con:=con1 Arena (λ_=>[.nm 0 0]) (λa=>[jY a]) Arena.small (λ_=> .nm 1 0) (λa=>[jY a,jY a])
def copyBC:Con:=con1 Book (λ_=>[.nm 0 0]) (λb=>[z7 b]) Book.small (λ_=> .nm 1 0) (λb=>[z7 b,z7 b])
def yXy:List SAnn:=[{ι:=Unit,slots:=λ_=>[],rows:=λ_=>[],un:=3}]
def copySC:Con:=con1 MSt (λ_=>[.nm 0 0]) (λs=>[zD s]) MSt.small (λ_=> .nm 1 0) (λs=>[zD s,zD s])
def yRr (n:Nat):Prop:=
 cnd (decide ((↑n:Int)<1)) (∃(a:Unit),False) (cnd (decide ((↑n:Int)>4096)) (∃(a:Unit),False) ((0<=(↑n:Int)/\(↑n:Int)<=(↑n:Int)/\(↑n:Int)<=9223372036854775807/\(↑(64:Nat):Int)*(↑n:Int)<=2 ^ (48:Nat))/\∃(a:Unit),dh ((0:Int))/\dh ((↑n:Int))/\aj zQ (am n slot0)=am (↑n:Int).toNat [D.v (.bool ax),dI 0,dI 0,dI 0,D.v (.bool ax),dI 0,dI 0,dI 0]/\([]:List (List D))=[]/\True))
def yYt (u:Unit):Prop:=
 ∃(i:Nat),(↑i:Int)=250/\(1<=i/\i<=4096)/\∀(o:Unit),True->∃(o:Unit),dh ((0:Int))/\dh ((0:Int))/\ax=ax/\ax=ax/\aa Arena 3 zG (zOu 250)=aa Arena 3 zG (zOu i)/\([]:List (List D))=[]/\([]:List (List D))=[]/\atE []=[]/\iE []=[]/\True
def zIy (a:Prd) (b:Nat) (c:Unit):Prop:=(∃(d:Unit),dh ((0:Int))/\dh (sb a.code)/\dh a.tick/\dh a.low/\dh a.high/\dh a.wide/\dh a.rule/\dh a.top/\dh a.least/\dh a.part/\ae 241 Book 6 zP (am a.count book0) bc=ae 241 Book 6 zP (am b book0) bc/\dh (yS [])/\dh (ab 1 (iE a.months))/\dh (ab 1 (iE a.settle))/\a.check=0)\/∃(c:Unit),False
def aC (a:Prd):Prop:=ab 1 (iE a.settle)=ab 1 (iE a.settle)/\dh (ab 1 (iE a.months))
def uO (a:Prd):=(D.v (bz (sb a.code)))
def zNa (a:Prd):Prop:=True/\True/\(0+(iE a.months).length)*(8:Nat)<=(140737488355328:Nat)/\True/\(0+(iE a.settle).length)*(8:Nat)<=(140737488355328:Nat)/\∃(b:Prd),sb b.code=sb a.code/\iE b.months=[]++iE a.months/\b.tick=a.tick/\b.low=a.low/\b.high=a.high/\b.wide=a.wide/\b.rule=a.rule/\b.top=a.top/\b.least=a.least/\b.part=a.part/\iE b.settle=[]++iE a.settle/\(yD b)/\∀(c:Unit),True->∃(d:Nat),(↑d:Int)=0/\dh (sb a.code)/\dh a.tick/\dh a.low/\dh a.high/\dh a.wide/\dh a.rule/\dh a.top/\dh a.least/\dh a.part/\am d book0=[]/\(bc:Option Nat)=bc/\yS []=[]/\ab 1 (iE a.months)=ab 1 ([]++iE a.months)/\ab 1 (iE a.settle)=ab 1 ([]++iE a.settle)/\∃(e:Nat->Prop),∃(f:Nat->Nat),e d/\∀(g:Nat),e g->cnd (decide ((↑g:Int)<(↑b.count:Int))) (∃(h:Unit),True/\∀(j:Unit),True->True/\True/\∃(k:List Book),ae 241 Book 6 zP (am g book0) bc=ae 241 Book 6 zP k bc/\(k.length+1)*(8:Nat)<=(140737488355328:Nat)/\∃(l:Nat),(↑l:Int)=ar.wrap ((↑g:Int)+1)/\dh (sb a.code)/\dh a.tick/\dh a.low/\dh a.high/\dh a.wide/\dh a.rule/\dh a.top/\dh a.least/\dh a.part/\ae 241 Book 6 zP (am l book0) bc=ae 241 Book 6 zP (k++[book0]) bc/\dh (yS [])/\dh (ab 1 (iE a.months))/\dh (ab 1 (iE a.settle))/\e l/\f l<f g/\dh (ab 1 ([]++iE a.settle))/\dh (ab 1 ([]++iE a.months))/\dh (ac [V.d (uO a),V.own 5,V.d (dI a.tick),V.d (dI a.low),V.d (dI a.high),V.d (dI a.wide),V.d (dI a.rule),V.d (dI a.top),V.d (dI a.least),V.d (dI a.part),V.own 6] 25)/\aC a) (zIy a g c)
def yQo (p:Prd):Prop:=
 ∃(a:Prd),sb a.code=sb p.code/\iE a.months=iE p.months/\a.tick=p.tick/\a.low=p.low/\a.high=p.high/\a.wide=p.wide/\a.rule=p.rule/\a.top=p.top/\a.least=p.least/\a.part=p.part/\iE a.settle=iE p.settle/\(yD a)/\∀(b:Unit),True->cnd (a.check !=0) ((∃(c:Unit),False)\/∃(b:Unit),True/\p.check=a.check/\(p.check=0->False)) ((True/\True/\((0+(iE p.months).length)*(8:Nat)<=(140737488355328:Nat)/\True/\True/\(0+(iE p.settle).length)*(8:Nat)<=(140737488355328:Nat)/\∃(c:Prd),sb c.code=sb p.code/\iE c.months=[]++iE p.months/\c.tick=p.tick/\c.low=p.low/\c.high=p.high/\c.wide=p.wide/\c.rule=p.rule/\c.top=p.top/\c.least=p.least/\c.part=p.part/\iE c.settle=[]++iE p.settle/\(yD c)/\∀(d:Unit),True->∃(e:Nat),(↑e:Int)=0/\dh (sb p.code)/\dh p.tick/\dh p.low/\dh p.high/\dh p.wide/\dh p.rule/\dh p.top/\dh p.least/\dh p.part/\am e book0=[]/\(bc:Option Nat)=bc/\yS []=[]/\ab 1 (iE p.months)=ab 1 ([]++iE p.months)/\ab 1 (iE p.settle)=ab 1 ([]++iE p.settle)/\∃(f:Nat->Prop),∃(g:Nat->Nat),f e/\∀(h:Nat),f h->cnd (decide ((↑h:Int)<(↑c.count:Int))) (∃(j:Unit),True/\∀(k:Unit),True->True/\True/\∃(l:List Book),ae 241 Book 6 zP (am h book0) bc=ae 241 Book 6 zP l bc/\(l.length+1)*(8:Nat)<=(140737488355328:Nat)/\∃(m:Nat),(↑m:Int)=ar.wrap ((↑h:Int)+1)/\dh (sb p.code)/\dh p.tick/\dh p.low/\dh p.high/\dh p.wide/\dh p.rule/\dh p.top/\dh p.least/\dh p.part/\ae 241 Book 6 zP (am m book0) bc=ae 241 Book 6 zP (l++[book0]) bc/\dh (yS [])/\dh (ab 1 (iE p.months))/\dh (ab 1 (iE p.settle))/\f m/\g m<g h/\dh (ab 1 ([]++iE p.settle))/\dh (ab 1 ([]++iE p.months))/\dh (ac [V.d (uO p),V.own 4,V.d (dI p.tick),V.d (dI p.low),V.d (dI p.high),V.d (dI p.wide),V.d (dI p.rule),V.d (dI p.top),V.d (dI p.least),V.d (dI p.part),V.own 6] 25)/\aC p) (zIy p h d))/\zNa p)/\True/\True/\zNa p)
def yMx (l:List Slot):Prop:=
 ∀(b:Bool),(b=ay->aj zQ l=[])->cnd b (∃(o:Unit),dh (aj zQ l)/\aj zQ l=[]/\True) ((0+(aj zQ l).length)*(64:Nat)<=(140737488355328:Nat)/\∃(o:Unit),dh (aj zQ l)/\aj zQ l=[]++aj zQ l/\True)
def yJe (l:List cV):Prop:=
 ∀(b:Bool),(b=ay->aj zO l=[])->cnd b (∃(o:Unit),dh (aj zO l)/\aj zO l=[]/\True) ((0+(aj zO l).length)*(32:Nat)<=(140737488355328:Nat)/\∃(o:Unit),dh (aj zO l)/\aj zO l=[]++aj zO l/\True)
def yOl (l:List xN):Prop:=
 ∀(b:Bool),(b=ay->aj zB l=[])->cnd b (∃(o:Unit),dh (aj zB l)/\aj zB l=[]/\True) ((0+(aj zB l).length)*(16:Nat)<=(140737488355328:Nat)/\∃(o:Unit),dh (aj zB l)/\aj zB l=[]++aj zB l/\True)
def yYe (l:List Int):Prop:=
 ∀(b:Bool),(b=ay->iE l=[])->cnd b (∃(o:Unit),iE l=iE l/\iE l=[]/\True) ((0+(iE l).length)*(8:Nat)<=(140737488355328:Nat)/\∃(o:Unit),iE l=iE l/\iE l=[]++iE l/\True)
def yGw (es:List (cd×List D)):Prop:=
 ∃(a:List (cd×List D)),a=es/\True/\∀(b:Unit),True->∃(c:Unit),es=a/\es=a/\True
def yUb (es:List (cd×List D)):yGw es=walk Tryz.prog ([(186,wY 295)]) 0 ([]) ([]) [] Tryz.f201 (Tryz.f201.body.getD .skip) (clAtC.pat es) (clAtC.pre es) (clAtC.alts es):=by kernel_rfl
def yTw (hG:GOk Tryz.prog ([(186,wY 295)])) (h:∀(es:List (cd×List D)),clAtC.cnd es->yGw es):clAtC.ok Tryz.prog 201:=wX mixed ([(186,wY 295)]) hG 0 (λ(es:List (cd×List D))=>[]) (λ(es:List (cd×List D))=>[]) [] Tryz.func201 (by kernel_rfl) (by kernel_rfl) (by kernel_rfl) (λ_=>by kernel_rfl) (λ(es:List (cd×List D)) hc=>Eq.mp (yUb es) (h es hc))
def yGb (es:List (cd×List D)):Prop:=
 ∃(a:List (cd×List D)),a=es/\True/\∀(b:Unit),True->∃(c:Unit),es=a/\es=a/\True
def yWb (es:List (cd×List D)):yGb es=walk Tryz.prog ([(186,wY 168)]) 0 ([]) ([]) [] Tryz.f146 (Tryz.f146.body.getD .skip) (clWhC.pat es) (clWhC.pre es) (clWhC.alts es):=by kernel_rfl
def yTo (hG:GOk Tryz.prog ([(186,wY 168)])) (h:∀(es:List (cd×List D)),clWhC.cnd es->yGb es):clWhC.ok Tryz.prog 146:=wX mixed ([(186,wY 168)]) hG 0 (λ(es:List (cd×List D))=>[]) (λ(es:List (cd×List D))=>[]) [] Tryz.func146 (by kernel_rfl) (by kernel_rfl) (by kernel_rfl) (λ_=>by kernel_rfl) (λ(es:List (cd×List D)) hc=>Eq.mp (yWb es) (h es hc))
def yUo (a:Arena):Prop:=
 ∃(i:List Slot),aj zQ i=aj zQ a.slots/\i.length<=1000000/\∀(o:Unit),True->dh a.free/\True/\∃(i_1:List cV),aj zO i_1=aj zO a.queues/\i_1.length<=1000000/\∀(o:Unit),True->dh a.free/\∃(o:Unit),dh a.free/\aj zQ a.slots=aj zQ i/\aj zO a.queues=aj zO i_1/\dh a.free/\aj zQ a.slots=aj zQ i/\aj zO a.queues=aj zO i_1/\True
def yUu (b:Book):Prop:=
 ∃(i:Arena),aa Arena 3 zG i=aa Arena 3 zG b.a/\(i.slots.length<=1000000/\i.queues.length<=1000000)/\∀(o:Unit),True->True/\True/\∃(i_1:List (cd×List D)),i_1=atE b.at_/\True/\∀(o:Unit),True->True/\∃(i_2:List Int),iE i_2=iE b.spare/\i_2.length<=1000000/\∀(o:Unit),True->∃(i_3:List xN),aj zB i_3=aj zB b.buys/\i_3.length<=1000000/\∀(o:Unit),True->∃(i_4:List xN),aj zB i_4=aj zB b.sells/\i_4.length<=1000000/\∀(o:Unit),True->∃(o:Unit),dh b.top1/\dh b.top2/\dh b.has1/\dh b.has2/\aa Arena 3 zG b.a=aa Arena 3 zG i/\aj zB b.buys=aj zB i_3/\aj zB b.sells=aj zB i_4/\atE b.at_=i_1/\iE b.spare=iE i_2/\dh b.top1/\dh b.top2/\dh b.has1/\dh b.has2/\aa Arena 3 zG b.a=aa Arena 3 zG i/\aj zB b.buys=aj zB i_3/\aj zB b.sells=aj zB i_4/\atE b.at_=i_1/\iE b.spare=iE i_2/\True
def y0h (n:Nat) (h:newAC.cnd n):yRr n:=by
 obtain⟨h1,h2⟩:1<=n/\n<=4096:=h;unfold yRr dI;refine zH (λc=>by omega) λc=>zH (λc=>by omega) λc=> ?_
 refine⟨⟨oM,oM,oM,?_⟩,?_⟩
 ·have:(2:Int) ^ (48:Nat)=281474976710656:=by decide
  rw[this];omega
 ·refine⟨(),rfl,rfl,?_,rfl,trivial⟩;rw[List.map_replicate];rfl
def yMn:newAC.ok Tryz.prog 189:=okw mixed gok0 0 (λ_=>[]) (λ_=>[]) [] Tryz.func189 y0h
def yNl:newBC.ok Tryz.prog 150:=okw (V:=yYt) mixed (gokc yMn gok0) 0 (λ_=>[]) (λ_=>[]) [] Tryz.func150 λ(u:Unit) _=>by
 refine⟨250,rfl,⟨oM,oM⟩,?_⟩;exact kp
def y3c (p:Prd) (h:newSC.cnd p):yQo p:=by
 unfold yQo zNa uO aC zIy yD dI;have hs:p.small:=h;obtain⟨h1,h2,h3⟩:p.small:=h;refine⟨p,?_⟩;simp only[y4]
 (repeat'(first|exact rfl|exact trivial|assumption|apply be|refineλ(_:Unit) (_:True)=>?_|refine az () ?_|omega|(dsimp only;omega)))
 refine Cv.cnd.mk (λc=> .inr ⟨(),trivial,kp,by simpa using c⟩) λc=> ?_
 have c:p.check=0:=by simpa using c
 have hc:=xU p
 (repeat'(first|exact rfl|exact trivial|assumption|apply be|refineλ(_:Unit) (_:True)=>?_|refine az () ?_|omega|(dsimp only;omega)))
 all_goals(refine⟨p,?_⟩;(repeat'(first|exact rfl|exact trivial|assumption|apply be|refineλ(_:Unit) (_:True)=>?_|refine az () ?_|omega|(dsimp only;omega))))
 all_goals(refine⟨0,?_⟩;(repeat'(first|exact rfl|exact trivial|assumption|apply be|refineλ(_:Unit) (_:True)=>?_|refine az () ?_|omega|(dsimp only;omega))))
 all_goals(refine⟨λj=>j<=p.count,λj=>p.count-j,oM,λj hj=>zH (λhlt=> ?_) (λhlt=> ?_)⟩;all_goals dsimp only at hj hlt)
 all_goals first
  |(refine .inl ⟨(),?_⟩
    obtain rfl:j=p.count:=by omega
    (repeat'(first|exact rfl|exact trivial|assumption|apply be|refineλ(_:Unit) (_:True)=>?_|refine az () ?_|omega|(dsimp only;omega))))
  |(refine⟨(),trivial,λ_ _=>⟨trivial,trivial,am j book0,rfl,?_,j+1,?_⟩⟩
    ·rw[y8y];omega
    ·rw[w64 (by omega),<- List.replicate_succ']
     (repeat'(first|exact rfl|exact trivial|assumption|apply be|refineλ(_:Unit) (_:True)=>?_|refine az () ?_|omega|(dsimp only;omega))))
def yQd:newSC.ok Tryz.prog 103:=okw mixed (gokc eK (gokc aF (gokc yNl gok0))) 0 (λ_=>[]) (λp=>y1w p) [] Tryz.func103 y3c
def yAm:clSlotC.ok Tryz.prog 232:=okw (V:=yMx) mixed gok0 0 (λ_=>[]) (λ_=>[]) [] Tryz.func232 λ(l:List Slot) h=>by
 have h:l.length<=1000000:=h;exactλb hb=>Cv.cnd.mk (λe=>⟨(),rfl,hb e,trivial⟩) (λ_=>⟨by rw[y6t,y5u];omega,(),rfl,rfl,trivial⟩)
def z4r:clQueueC.ok Tryz.prog 233:=okw (V:=yJe) mixed gok0 0 (λ_=>[]) (λ_=>[]) [] Tryz.func233 λ(l:List cV) h=>by
 have h:l.length<=1000000:=h;exactλb hb=>Cv.cnd.mk (λe=>⟨(),rfl,hb e,trivial⟩) (λ_=>⟨by rw[y6t,y5u];omega,(),rfl,rfl,trivial⟩)
def yBb:clRungC.ok Tryz.prog 202:=okw (V:=yOl) mixed gok0 0 (λ_=>[]) (λ_=>[]) [] Tryz.func202 λ(l:List xN) h=>by
 have h:l.length<=1000000:=h;exactλb hb=>Cv.cnd.mk (λe=>⟨(),rfl,hb e,trivial⟩) (λ_=>⟨by rw[y6t,y5u];omega,(),rfl,rfl,trivial⟩)
def yEg:clIntC.ok Tryz.prog 88:=okw (V:=yYe) mixed gok0 0 (λ_=>[]) (λ_=>[]) [] Tryz.func88 λ(l:List Int) h=>by
 have h:l.length<=1000000:=h;exactλb hb=>Cv.cnd.mk (λe=>⟨(),rfl,hb e,trivial⟩) (λ_=>⟨by rw[y6t,y4];omega,(),rfl,rfl,trivial⟩)
def zAr (t:Nat):(wY t).ok Tryz.prog 186:=z2d Tryz.func186 (by kernel_rfl) (by kernel_rfl) (by kernel_rfl) (by kernel_rfl) t
def yLc:clAtC.ok Tryz.prog 201:=yTw (gokc (zAr _) gok0) λes _=>by
 unfold yGw;refine⟨es,?_⟩;exact kp
def yPp:clWhC.ok Tryz.prog 146:=yTo (gokc (zAr _) gok0) λes _=>by
 unfold yGb;refine⟨es,?_⟩;exact kp
def yId:copyAC.ok Tryz.prog 200:=okw (V:=yUo) mixed (gokc yAm (gokc z4r gok0)) 0 (λ_=>[]) (λ_=>[]) [0] Tryz.func200 λ(a:Arena) h=>by
 obtain⟨h1,h2⟩:a.small:=h;refine⟨a.slots,?_⟩;(repeat'(first|exact rfl|exact trivial|assumption|apply be|refineλ(_:Unit) (_:True)=>?_|refine az () ?_|omega|(dsimp only;omega)));refine⟨a.queues,?_⟩;exact kp
def yGh:copyBC.ok Tryz.prog 162:=okw (V:=yUu) mixed (gokc yId (gokc yLc (gokc yEg (gokc yBb gok0)))) 0 (λ_=>[]) (λ_=>yXy) [0] Tryz.func162 λ(b:Book) h=>by
 obtain⟨⟨h1,h1'⟩,h2,h3,h4⟩:b.small:=h;refine⟨b.a,?_⟩;(repeat'(first|exact rfl|exact trivial|assumption|apply be|refineλ(_:Unit) (_:True)=>?_|refine az () ?_|omega|(dsimp only;omega)));refine⟨atE b.at_,?_⟩;(repeat'(first|exact rfl|exact trivial|assumption|apply be|refineλ(_:Unit) (_:True)=>?_|refine az () ?_|omega|(dsimp only;omega)));refine⟨b.spare,?_⟩;(repeat'(first|exact rfl|exact trivial|assumption|apply be|refineλ(_:Unit) (_:True)=>?_|refine az () ?_|omega|(dsimp only;omega)));refine⟨b.buys,?_⟩;(repeat'(first|exact rfl|exact trivial|assumption|apply be|refineλ(_:Unit) (_:True)=>?_|refine az () ?_|omega|(dsimp only;omega)));refine⟨b.sells,?_⟩;exact kp
structure ArN where
 a:Arena
 n:Int
def Arena.qAt (a:Arena) (n:Int):cV:=if 0<=n/\n<a.queues.length then a.queues.getD n.toNat ⟨0,0,0,0⟩else⟨0,0,0,0⟩
def atotalC:Con:=con1 ArN (λi=>[.nm 0 0,zA i.n]) (λi=>[jY i.a]) (λi=>True) (λi=>zA (i.a.qAt i.n).total) (λi=>[jY i.a])
def acountC:Con:=con1 ArN (λi=>[.nm 0 0,zA i.n]) (λi=>[jY i.a]) (λi=>True) (λi=>zA (i.a.qAt i.n).count) (λi=>[jY i.a])
def bisC:Con:=con1 Int (λn=>[zA n]) (λ_=>[]) (λ_=>True) (λn=>yR (decide (n=1)||decide (n=2))) (λ_=>[])
structure BkR where
 b:Book
 r:xN
def Book.told (b:Book) (r:xN):Lv:=⟨r.price,(b.a.qAt r.queue).total,(b.a.qAt r.queue).count⟩
@[reducible] def Book.cntOk (b:Book):Prop:=∀q∈b.a.queues,yY q.count
def toldC:Con:=con1 BkR (λi=>[.nm 0 0,.agg [zA i.r.price,zA i.r.queue]]) (λi=>[z7 i.b]) (λi=>i.b.cntOk) (λi=>lvV (i.b.told i.r)) (λi=>[z7 i.b])
def Book.best (b:Book) (l:List xN):Lv×Bool:=match l with
 |[]=>(⟨0,0,0⟩,ax)
 |r::_=>(b.told r,ay)
structure BkS where
 side:Bool
 b:Book
def Book.side (b:Book) (s:Bool):List xN:=if s then b.sells else b.buys
@[reducible] def z2b (b:Book) (l:List xN):V:= .tup [lvV (b.best l).1,yR (b.best l).2]
def best1C:Con:=con1 Book (λ_=>[.nm 0 0,zA 1]) (λb=>[z7 b]) Book.cntOk (λb=>z2b b b.buys) (λb=>[z7 b])
def best2C:Con:=con1 Book (λ_=>[.nm 0 0,zA 2]) (λb=>[z7 b]) Book.cntOk (λb=>z2b b b.sells) (λb=>[z7 b])
def zC (s:Bool):Int:=if s then 2 else 1
def bestC:Con:=con1 BkS (λi=>[.nm 0 0,zA (zC i.side)]) (λi=>[z7 i.b]) (λi=>i.b.cntOk) (λi=>z2b i.b (i.b.side i.side)) (λi=>[z7 i.b])
structure Top where
 has1:Bool
 has2:Bool
 p1:Int
 p2:Int
 q1:Int
 q2:Int
 deriving DecidableEq
def z5 (t:Top):List D:=[.v (.bool t.has1),.v (.bool t.has2),.v (.int .i64 t.p1),.v (.int .i64 t.p2),.v (.int .i64 t.q1),.v (.int .i64 t.q2)]
def top0:Top:=⟨ax,ax,0,0,0,0⟩
def Top.buy (t:Top) (x:Lv×Bool):Top:=if x.2 then{t with has1:=ay,p1:=x.1.price,q1:=x.1.qty}else t
def Top.sell (t:Top) (x:Lv×Bool):Top:=if x.2 then{t with has2:=ay,p2:=x.1.price,q2:=x.1.qty}else t
def Book.top (b:Book):Top:=(top0.buy (b.best b.buys)).sell (b.best b.sells)
def MSt.tops (s:MSt):List Top:=s.books.map Book.top
@[reducible] def MSt.cntOk (s:MSt):Prop:=s.books.length<=1000000/\∀b∈s.books,b.cntOk
def topsC:Con:=con1 MSt (λ_=>[.nm 0 0]) (λs=>[zD s]) MSt.cntOk (λs=> .own 1) (λs=>[zD s,.own 252 6 (s.tops.map z5)])
def xY (s:MSt) (j:Nat) (x:Top):List Top:=(s.tops.take j)++x::am (s.books.length-j-1) top0
def qC (s:MSt) (j:Nat):List Top:=(s.tops.take j)++am (s.books.length-j) top0
def yRg (s:MSt):List SAnn:=[
 {ι:=Nat,slots:=λj=>[(3,.own 0),(21,zA j)],rows:=λj=>[.own 252 6 ((qC s j).map z5)]},
 {ι:=Unit,slots:=λ_=>[],rows:=λ_=>[],un:=3}]
def yRj (s:MSt):List (Nat×SAnn):=[(15,{ι:=Nat×Top,slots:=λx=>[(3,.own 0)],slots0:=λx=>[(3,.own 0)],rows0:=λx=>[.own 252 6 ((xY s x.1 x.2).map z5)],rows:=λx=>[.own 252 6 ((xY s x.1 x.2).map z5)]})]
def yXb (s:MSt):List SAnn:=[{ι:=Nat,slots:=λj=>[(3,.nm 0 0),(22,zA j)],rows:=λj=>(ao 5).map (xR ⟨s.p,s.books.take j,s.wh⟩)}]
def jQ (a:ArN):Prop:=a.a.free=a.a.free/\dh (aj zQ a.a.slots)/\dh (aj zO a.a.queues)/\True
def lM (a:ArN):Prop:=∃(b:Unit),(a.a.qAt a.n).total=0/\jQ a
def fL (a:ArN):=(↑(aj zO a.a.queues).length:Int)
def z6m (i:ArN):Prop:=
 cnd (decide (i.n>=0)) (cnd (!decide (i.n<(fL i))) (lM i) ((0<=i.n/\i.n<(fL i))/\∃(a:Int),zE (aj zO i.a.queues) i.n.toNat 2 1=ba [dI a]/\∃(b:Unit),(i.a.qAt i.n).total=a/\jQ i)) (lM i)
def eT (a:ArN):Prop:=∃(b:Unit),(a.a.qAt a.n).count=0/\jQ a
def z6u (i:ArN):Prop:=
 cnd (decide (i.n>=0)) (cnd (!decide (i.n<(fL i))) (eT i) ((0<=i.n/\i.n<(fL i))/\∃(a:Int),zE (aj zO i.a.queues) i.n.toNat 3 1=ba [dI a]/\∃(b:Unit),(i.a.qAt i.n).count=a/\jQ i)) (eT i)
def yZs (n:Int):Prop:=
 cnd (n==1) (∃(a:Unit),(decide (n=1)||decide (n=2))=ay/\True) (∃(a:Unit),(decide (n=1)||decide (n=2))=(n==2)/\True)
def y0u (i:BkR):Prop:=
 ∃(i_1:ArN),i_1.n=i.r.queue/\aa Arena 3 zG i_1.a=aa Arena 3 zG i.b.a/\True/\∀(o:Unit),True->dh i.r.queue/\True/\dh i.r.price/\∃(i_2:ArN),i_2.n=i.r.queue/\aa Arena 3 zG i_2.a=aa Arena 3 zG i_1.a/\True/\∀(o:Unit),True->dh i.r.price/\∃(o:Unit),dh i.r.price/\(i.b.a.qAt i.r.queue).total=(i_1.a.qAt i_1.n).total/\(i.b.a.qAt i.r.queue).count=(i_2.a.qAt i_2.n).count/\dh i.b.top1/\dh i.b.top2/\dh i.b.has1/\dh i.b.has2/\aa Arena 3 zG i.b.a=aa Arena 3 zG i_2.a/\dh (aj zB i.b.buys)/\dh (aj zB i.b.sells)/\dh (atE i.b.at_)/\dh (iE i.b.spare)/\True
def yXc (b:Book):Prop:=
 ∃(i:Int),i=1/\True/\∀(o:Unit),True->cnd (!(decide (i=1)||decide (i=2))) (∃(o:Unit),(b.best b.buys).fst.price=0/\(b.best b.buys).fst.qty=0/\(b.best b.buys).fst.count=0/\(b.best b.buys).snd=ax/\dh b.top1/\dh b.top2/\dh b.has1/\dh b.has2/\dh (aa Arena 3 zG b.a)/\dh (aj zB b.buys)/\dh (aj zB b.sells)/\dh (atE b.at_)/\dh (iE b.spare)/\True) (cnd ((↑(aj zB b.buys).length:Int)==0) (∃(o:Unit),(b.best b.buys).fst.price=0/\(b.best b.buys).fst.qty=0/\(b.best b.buys).fst.count=0/\(b.best b.buys).snd=ax/\dh b.top1/\dh b.top2/\dh b.has1/\dh b.has2/\dh (aa Arena 3 zG b.a)/\dh (aj zB b.buys)/\dh (aj zB b.sells)/\dh (atE b.at_)/\dh (iE b.spare)/\True) (((0:Int)<=(0:Int)/\0<(↑(aj zB b.buys).length:Int))/\∃(n:Int),∃(n_1:Int),zE (aj zB b.buys) (bo 0) 0 2=ba [D.v (.int .i64 n),D.v (.int .i64 n_1)]/\∃(i:BkR),i.r.price=n/\i.r.queue=n_1/\i.b.top1=b.top1/\i.b.top2=b.top2/\i.b.has1=b.has1/\i.b.has2=b.has2/\aa Arena 3 zG i.b.a=aa Arena 3 zG b.a/\aj zB i.b.buys=aj zB b.buys/\aj zB i.b.sells=aj zB b.sells/\atE i.b.at_=atE b.at_/\iE i.b.spare=iE b.spare/\(∀(q:cV),q∈i.b.a.queues->(-9223372036854775808)<=q.count/\q.count<=9223372036854775807)/\∀(o:Unit),True->∃(o:Unit),(b.best b.buys).fst.price=i.r.price/\(b.best b.buys).fst.qty=(i.b.a.qAt i.r.queue).total/\(b.best b.buys).fst.count=(i.b.a.qAt i.r.queue).count/\(b.best b.buys).snd=ay/\z7 b=z7 i.b/\True))
def yYb (b:Book):Prop:=
 ∃(i:Int),i=2/\True/\∀(o:Unit),True->cnd (!(decide (i=1)||decide (i=2))) (∃(o:Unit),(b.best b.sells).fst.price=0/\(b.best b.sells).fst.qty=0/\(b.best b.sells).fst.count=0/\(b.best b.sells).snd=ax/\dh b.top1/\dh b.top2/\dh b.has1/\dh b.has2/\dh (aa Arena 3 zG b.a)/\dh (aj zB b.buys)/\dh (aj zB b.sells)/\dh (atE b.at_)/\dh (iE b.spare)/\True) (cnd ((↑(aj zB b.sells).length:Int)==0) (∃(o:Unit),(b.best b.sells).fst.price=0/\(b.best b.sells).fst.qty=0/\(b.best b.sells).fst.count=0/\(b.best b.sells).snd=ax/\dh b.top1/\dh b.top2/\dh b.has1/\dh b.has2/\dh (aa Arena 3 zG b.a)/\dh (aj zB b.buys)/\dh (aj zB b.sells)/\dh (atE b.at_)/\dh (iE b.spare)/\True) (((0:Int)<=(0:Int)/\0<(↑(aj zB b.sells).length:Int))/\∃(n:Int),∃(n_1:Int),zE (aj zB b.sells) (bo 0) 0 2=ba [D.v (.int .i64 n),D.v (.int .i64 n_1)]/\∃(i:BkR),i.r.price=n/\i.r.queue=n_1/\i.b.top1=b.top1/\i.b.top2=b.top2/\i.b.has1=b.has1/\i.b.has2=b.has2/\aa Arena 3 zG i.b.a=aa Arena 3 zG b.a/\aj zB i.b.buys=aj zB b.buys/\aj zB i.b.sells=aj zB b.sells/\atE i.b.at_=atE b.at_/\iE i.b.spare=iE b.spare/\(∀(q:cV),q∈i.b.a.queues->(-9223372036854775808)<=q.count/\q.count<=9223372036854775807)/\∀(o:Unit),True->∃(o:Unit),(b.best b.sells).fst.price=i.r.price/\(b.best b.sells).fst.qty=(i.b.a.qAt i.r.queue).total/\(b.best b.sells).fst.count=(i.b.a.qAt i.r.queue).count/\(b.best b.sells).snd=ay/\z7 b=z7 i.b/\True))
def zHg (a:MSt):Prop:=af (yS a.wh)=af (yS a.wh)/\dh (ab 1 (iE a.p.months))/\dh (ab 1 (iE a.p.settle))
def fW (a:MSt):=(D.v (bz (sb a.p.code)))
def zFf (a:Nat×Top->Prop) (b:Nat×Top) (c:MSt) (d:Nat) (e:Book):Prop:=a b/\dh (ag 3 1 [[dI 1],[dI 2]])/\dh (ac [V.d (fW c),V.own 3,V.d (dI c.p.tick),V.d (dI c.p.low),V.d (dI c.p.high),V.d (dI c.p.wide),V.d (dI c.p.rule),V.d (dI c.p.top),V.d (dI c.p.least),V.d (dI c.p.part),V.own 4,V.own 1,V.mp 2] (240:ce))/\ae 241 Book 6 zP (c.books.set (↑d:Int).toNat e) bc=ae 241 Book 6 zP c.books bc/\zHg c
def zPm (a:MSt) (b:Nat×Top) (c:Nat×Top->Prop) (d:Nat) (e:Book):Prop:=∃(f:Nat×Top),aj z5 (xY a f.fst f.snd)=aj z5 (xY a b.fst b.snd)/\zFf c f a d e
def uY (a:MSt) (b:Nat×Top):=(aj z5 (xY a b.fst b.snd))
def aJ (a:MSt) (b:Nat×Top) (c:Nat):=(zW (uY a b) (↑c:Int).toNat 1 [D.v (.bool ay)])
def zX (a:BkS):=(a.b.best (a.b.side a.side))
def dU (a:BkS):=((zX a).fst.price)
def cM (a:MSt) (b:Nat×Top) (c:Nat) (d:BkS):=(zW (aJ a b c) (↑c:Int).toNat 3 [dI (dU d)])
def zAj (a:Nat) (b:MSt) (c:Nat×Top) (d:BkS):Prop:=(0<=(↑a:Int)/\(↑a:Int)<(↑(cM b c a d).length:Int))/\dh ((↑a:Int).toNat)
def aI (a:MSt) (b:Nat×Top) (c:Nat):=(zW (uY a b) (↑c:Int).toNat 0 [D.v (.bool ay)])
def cA (a:MSt) (b:Nat×Top) (c:Nat) (d:BkS):=(zW (aI a b c) (↑c:Int).toNat 2 [dI (dU d)])
def l6 (a:Nat) (b:MSt) (c:Nat×Top) (d:BkS):Prop:=(0<=(↑a:Int)/\(↑a:Int)<(↑(cA b c a d).length:Int))/\dh ((↑a:Int).toNat)
def zAk (a:MSt):Prop:=0<=(↑a.books.length:Int)/\(↑a.books.length:Int)<=(↑a.books.length:Int)/\(↑a.books.length:Int)<=9223372036854775807/\(↑(40:Nat):Int)*(↑a.books.length:Int)<=2 ^ (48:Nat)
def aD (a:Nat) (b:MSt) (c:Nat×Top):Prop:=(0<=(↑a:Int)/\(↑a:Int)<(↑(aJ b c a).length:Int))/\dh ((↑a:Int).toNat)
def b8 (a:Nat) (b:MSt) (c:Nat×Top):Prop:=(0<=(↑a:Int)/\(↑a:Int)<(↑(aI b c a).length:Int))/\dh ((↑a:Int).toNat)
def fH:Prop:=0<=ar.wrap ((0:Int)+(1:Int))/\ar.wrap ((0:Int)+(1:Int))<(↑(2:Nat):Int)
def vN (a:BkS):Prop:=∀(b:cV),b∈a.b.a.queues->(-9223372036854775808)<=b.count/\b.count<=9223372036854775807
def qW (a:Nat) (b:MSt) (c:Nat×Top):Prop:=0<=(↑a:Int)/\(↑a:Int)<(↑(uY b c).length:Int)
def hZ (a:BkS):=((zX a).fst.qty)
def yRs (s:MSt):Prop:=
 (zAk s)/\∃(a:Nat),(↑a:Int)=0/\aj z5 (qC s a)=am (↑s.books.length:Int).toNat [D.v (.bool ax),D.v (.bool ax),dI 0,dI 0,dI 0,dI 0]/\∃(b:Nat->Prop),∃(c:Nat->Nat),b a/\∀(d:Nat),b d->cnd (decide ((↑d:Int)<(↑s.books.length:Int))) ((0<=(↑d:Int)/\(↑d:Int)<(↑s.books.length:Int))/\(↑d:Int).toNat<s.books.length/\∃(e:Nat×Top),aj z5 (xY s e.fst e.snd)=aj z5 (qC s d)/\∃(f:Nat×Top->Prop),(((0:Int)<=(0:Int)/\0<(↑(2:Nat):Int))/\∃(g:Int),zE [[dI 1],[dI 2]] (bo 0) 0 1=ba [dI g]/\∃(h:Book),s.books[(↑d:Int).toNat]?=ba h/\∃(j:BkS),zC j.side=g/\z7 j.b=z7 h/\(vN j)/\∀(k:Unit),True->∃(l:Book),z7 j.b=z7 l/\dh ((↑d:Int).toNat)/\(↑d:Int).toNat<s.books.length/\cnd (zX j).snd ((qW d s e)/\(qW d s e)/\(qW d s e)/\(↑d:Int).toNat<(uY s e).length/\(b8 d s e)/\(b8 d s e)/\dh ((zX j).fst.qty)/\dh ((zX j).fst.price)/\(↑d:Int).toNat<(aI s e d).length/\(l6 d s e j)/\dh ((zX j).fst.qty)/\(↑d:Int).toNat<(cA s e d j).length/\∃(m:Nat×Top),aj z5 (xY s m.fst m.snd)=zW (cA s e d j) (↑d:Int).toNat 4 [dI (hZ j)]/\zFf f m s d l) (zPm s e f d l))/\∀(g:Nat×Top),f g->∃(h:Nat×Top),aj z5 (xY s h.fst h.snd)=aj z5 (xY s g.fst g.snd)/\∃(j:Nat×Top->Prop),((fH)/\∃(k:Int),zE [[dI 1],[dI 2]] (ar.wrap ((0:Int)+(1:Int))).toNat 0 1=ba [dI k]/\∃(l:Book),s.books[(↑d:Int).toNat]?=ba l/\∃(m:BkS),zC m.side=k/\z7 m.b=z7 l/\(vN m)/\∀(n:Unit),True->∃(p:Book),z7 m.b=z7 p/\dh ((↑d:Int).toNat)/\(↑d:Int).toNat<s.books.length/\cnd (zX m).snd ((qW d s h)/\(qW d s h)/\(qW d s h)/\(↑d:Int).toNat<(uY s h).length/\(aD d s h)/\(aD d s h)/\dh ((zX m).fst.qty)/\dh ((zX m).fst.price)/\(↑d:Int).toNat<(aJ s h d).length/\(zAj d s h m)/\dh ((zX m).fst.qty)/\(↑d:Int).toNat<(cM s h d m).length/\∃(q:Nat×Top),aj z5 (xY s q.fst q.snd)=zW (cM s h d m) (↑d:Int).toNat 5 [dI (hZ m)]/\zFf j q s d p) (zPm s h j d p))/\∀(k:Nat×Top),j k->∃(l:Nat),(↑l:Int)=ar.wrap ((↑d:Int)+1)/\aj z5 (qC s l)=aj z5 (xY s k.fst k.snd)/\b l/\c l<c d/\dh (ac [V.d (fW s),V.own 3,V.d (dI s.p.tick),V.d (dI s.p.low),V.d (dI s.p.high),V.d (dI s.p.wide),V.d (dI s.p.rule),V.d (dI s.p.top),V.d (dI s.p.least),V.d (dI s.p.part),V.own 4,V.own 1,V.mp 2] (240:ce))/\dh (ae 241 Book 6 zP s.books bc)/\zHg s) (∃(e:Unit),dh (sb s.p.code)/\dh s.p.tick/\dh s.p.low/\dh s.p.high/\dh s.p.wide/\dh s.p.rule/\dh s.p.top/\dh s.p.least/\dh s.p.part/\dh (ae 241 Book 6 zP s.books bc)/\dh (yS s.wh)/\dh (ab 1 (iE s.p.months))/\dh (ab 1 (iE s.p.settle))/\aj z5 s.tops=aj z5 (qC s d)/\True)
def yTx (s:MSt):Prop:=
 ∃(i:List (cd×List D)),i=yS s.wh/\True/\∀(o:Unit),True->(dh (sb s.p.code)/\True/\dh s.p.tick/\dh s.p.low/\dh s.p.high/\dh s.p.wide/\dh s.p.rule/\dh s.p.top/\dh s.p.least/\dh s.p.part/\True/\True)/\∃(i0:Nat),(↑i0:Int)=0/\dh (sb s.p.code)/\dh s.p.tick/\dh s.p.low/\dh s.p.high/\dh s.p.wide/\dh s.p.rule/\dh s.p.top/\dh s.p.least/\dh s.p.part/\ak i0 s.books=[]/\(bc:Option Nat)=bc/\yS s.wh=i/\dh (ab 1 (iE s.p.months))/\dh (ab 1 (iE s.p.settle))/\∃(I:Nat->Prop),∃(μ:Nat->Nat),I i0/\∀(i_1:Nat),I i_1->cnd (decide ((↑i_1:Int)<(↑s.books.length:Int))) ((0<=(↑i_1:Int)/\(↑i_1:Int)<(↑s.books.length:Int))/\(↑i_1:Int).toNat<s.books.length/\∃(x:Book),s.books[(↑i_1:Int).toNat]?=ba x/\∃(i_2:Book),z7 i_2=z7 x/\((i_2.a.slots.length<=1000000/\i_2.a.queues.length<=1000000)/\i_2.buys.length<=1000000/\i_2.sells.length<=1000000/\i_2.spare.length<=1000000)/\∀(o:Unit),True->∃(x:Book),z7 i_2=z7 x/\dh ((↑i_1:Int).toNat)/\(↑i_1:Int).toNat<s.books.length/\True/\True/\∃(l1':List Book),ae 241 Book 6 zP (ak i_1 s.books) bc=ae 241 Book 6 zP l1' bc/\(l1'.length+1)*(8:Nat)<=(140737488355328:Nat)/\∃(i':Nat),(↑i':Int)=ar.wrap ((↑i_1:Int)+1)/\dh (sb s.p.code)/\dh s.p.tick/\dh s.p.low/\dh s.p.high/\dh s.p.wide/\dh s.p.rule/\dh s.p.top/\dh s.p.least/\dh s.p.part/\ae 241 Book 6 zP (ak i' s.books) bc=ae 241 Book 6 zP (l1'++[i_2]) bc/\dh (yS s.wh)/\dh (ab 1 (iE s.p.months))/\dh (ab 1 (iE s.p.settle))/\I i'/\μ i'<μ i_1/\af i=af i/\dh (ac [V.d (D.v (bz (sb s.p.code))),V.own 3,V.d (D.v (.int .i64 s.p.tick)),V.d (D.v (.int .i64 s.p.low)),V.d (D.v (.int .i64 s.p.high)),V.d (D.v (.int .i64 s.p.wide)),V.d (D.v (.int .i64 s.p.rule)),V.d (D.v (.int .i64 s.p.top)),V.d (D.v (.int .i64 s.p.least)),V.d (D.v (.int .i64 s.p.part)),V.own 4,V.own 1,V.mp 2] (240:ce))/\ae 241 Book 6 zP (s.books.set (↑i_1:Int).toNat x) bc=ae 241 Book 6 zP s.books bc/\dh (ab 1 (iE s.p.months))/\dh (ab 1 (iE s.p.settle))) (∃(o:Unit),dh (sb s.p.code)/\dh s.p.tick/\dh s.p.low/\dh s.p.high/\dh s.p.wide/\dh s.p.rule/\dh s.p.top/\dh s.p.least/\dh s.p.part/\dh (ae 241 Book 6 zP s.books bc)/\yS s.wh=i/\dh (ab 1 (iE s.p.months))/\dh (ab 1 (iE s.p.settle))/\dh (sb s.p.code)/\dh s.p.tick/\dh s.p.low/\dh s.p.high/\dh s.p.wide/\dh s.p.rule/\dh s.p.top/\dh s.p.least/\dh s.p.part/\ae 241 Book 6 zP s.books bc=ae 241 Book 6 zP (ak i_1 s.books) bc/\dh (yS s.wh)/\dh (ab 1 (iE s.p.months))/\dh (ab 1 (iE s.p.settle))/\True)
end Sx
