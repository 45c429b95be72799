/- Texts of ours. No condition. -/
import Derived.Test.YtaafldgiafcgfaaGreatRows
import Derived.Test.YtaafldgiafcgfaaGreatE3
set_option linter.all false
open Sx.AObj renaming adt->aa,fro->ab,cells->ac,objs->ae,map->af,own->ag
open List renaming map->aj,take->ak,replicate->am,range->ao,drop->ap,length->aq
open Go.IntKind renaming i64->ar,u64->au,u32->av,u8->aw
open Bool renaming false->ax,true->ay
open Exists renaming intro->az
open Option renaming some->ba,none->bc
open And renaming intro->be
open Go.Utf8 renaming decode->bg
open Int renaming toNat->bo,pow_succ->bu,mul_add->bv
open Go.Value renaming string->bz
open Go renaming Value->cd,TypeId->ce
open BitVec renaming ofInt->cf
namespace Sx
open Go Cv Go.Proofs
def kp {P:Prop} (h:P:=by(repeat'(first|exact rfl|exact trivial|assumption|apply And.intro|refineλ(_:Unit) (_:True)=>?_|refine Exists.intro () ?_|omega|(dsimp only;omega)))):P:=h
def oM {P:Prop} (h:P:=by omega):P:=h
def Z9 {P:Prop} (h:P:=by (dsimp only;omega)):P:=h
def Z8 {P:Prop} (h:P:=by decide):P:=h
def rF3 {α0:Sort _} {a0:α0} {α1:Sort _} {a1:α1} {α2:Sort _} {a2:α2} {P:Prop} (h:P):a0=a0/\a1=a1/\a2=a2/\P:=⟨rfl,rfl,rfl,h⟩
def rF4 {α0:Sort _} {a0:α0} {α1:Sort _} {a1:α1} {α2:Sort _} {a2:α2} {α3:Sort _} {a3:α3} {P:Prop} (h:P):a0=a0/\a1=a1/\a2=a2/\a3=a3/\P:=⟨rfl,rfl,rfl,rfl,h⟩
def rF5 {α0:Sort _} {a0:α0} {α1:Sort _} {a1:α1} {α2:Sort _} {a2:α2} {α3:Sort _} {a3:α3} {α4:Sort _} {a4:α4} {P:Prop} (h:P):a0=a0/\a1=a1/\a2=a2/\a3=a3/\a4=a4/\P:=⟨rfl,rfl,rfl,rfl,rfl,h⟩
def rF6 {α0:Sort _} {a0:α0} {α1:Sort _} {a1:α1} {α2:Sort _} {a2:α2} {α3:Sort _} {a3:α3} {α4:Sort _} {a4:α4} {α5:Sort _} {a5:α5} {P:Prop} (h:P):a0=a0/\a1=a1/\a2=a2/\a3=a3/\a4=a4/\a5=a5/\P:=⟨rfl,rfl,rfl,rfl,rfl,rfl,h⟩
def rF7 {α0:Sort _} {a0:α0} {α1:Sort _} {a1:α1} {α2:Sort _} {a2:α2} {α3:Sort _} {a3:α3} {α4:Sort _} {a4:α4} {α5:Sort _} {a5:α5} {α6:Sort _} {a6:α6} {P:Prop} (h:P):a0=a0/\a1=a1/\a2=a2/\a3=a3/\a4=a4/\a5=a5/\a6=a6/\P:=⟨rfl,rfl,rfl,rfl,rfl,rfl,rfl,h⟩
def rF8 {α0:Sort _} {a0:α0} {α1:Sort _} {a1:α1} {α2:Sort _} {a2:α2} {α3:Sort _} {a3:α3} {α4:Sort _} {a4:α4} {α5:Sort _} {a5:α5} {α6:Sort _} {a6:α6} {α7:Sort _} {a7:α7} {P:Prop} (h:P):a0=a0/\a1=a1/\a2=a2/\a3=a3/\a4=a4/\a5=a5/\a6=a6/\a7=a7/\P:=⟨rfl,rfl,rfl,rfl,rfl,rfl,rfl,rfl,h⟩
def k0q {P:Prop} (h:P:=by(repeat'(first|exact trivial|exact rfl|apply And.intro))):P:=h
def mixed:Tryz.prog.follows .mixedOrders=ay:=by kernel_rfl
def okw {P:Program} {f:FuncId} {fn:Func} {C:Con} {G:List (Nat×Con)} {V:C.ι->Prop} (hm:P.follows .mixedOrders=ay) (hG:GOk P G) (d:Nat) (J:C.ι->List (Nat×SAnn)) (an:C.ι->List SAnn) (op:List Nat) (hf:P.funcs[f]? =ba fn) (h:∀i,C.cnd i->V i) (hb:fn.body=ba (fn.body.getD .skip):=by kernel_rfl) (hbd:uG P f=ay:=by kernel_rfl) (hok:okC fn.ntmps (fn.body.getD .skip)=ay:=by kernel_rfl) (hsz:∀i,Nat.ble (C.pat i).length fn.ntmps=ay:=by intro _;kernel_rfl) (e:∀i,V i=walk P G d (J i) (an i) op fn (fn.body.getD .skip) (C.pat i) (C.pre i) (C.alts i):=by intro _;kernel_rfl):C.ok P f:=wT hm G hG d J an op hf hb hbd hok hsz λi hc=>Eq.mp (e i) (h i hc)
structure Lv where
 price:Int
 qty:Int
 count:Int
def lvE (l:Lv):List D:=[.v (.int .i64 l.price),.v (.int .i64 l.qty),.v (.int .i64 l.count)]
def lvV (l:Lv):V:= .agg [zA l.price,zA l.qty,zA l.count]
def WrU (l:List UInt8):Nat->AObj
 |0=> .cells [.own 1] 201
 |1=> .own 5 1 (bE l)
 |_=> .gone
def Wr (l:List UInt8):AObj:= .adt (List UInt8) 2 WrU l
structure z1j where
 l:List UInt8
 n:Int
 k:Nat
def putC:Con where
 ι:=z1j
 pat:=λi=>[.nm 0 0,.d (.v (.int .u64 i.n)),.d (.v (.int .i64 i.k))]
 pre:=λi=>[Wr i.l]
 cnd:=λi=>0<=i.n/\i.n<18446744073709551616/\i.l.length+i.k<=1099511627776
 alts:=λi=>[{o:=Unit,res:=λ_=> .tup [],post:=λ_=>[Wr (i.l++le i.n i.k)],rel:=λ_=>True}]
def y4q (i:z1j):List SAnn:=[{
 ι:=Nat,
 slots:=λj=>[(0,.nm 0 0),(1,.d (.v (.int .u64 (i.n / 256 ^ j)))),(7,.d (.v (.int .i64 j)))],
 rows:=λj=>[WrU (i.l++le i.n j) 0,WrU (i.l++le i.n j) 1]}]
set_option maxRecDepth 100000
@[reducible] def dI (n:Int):D:= .v (.int .i64 n)
def y2t (i:z1j):Prop:=
 ∃(a:Nat),i.n / (256:Int) ^ a=i.n/\(↑a:Int)=0/\bE (i.l++le i.n a)=bE i.l/\∃(b:Nat->Prop),∃(c:Nat->Nat),b a/\∀(d:Nat),b d->cnd (decide ((↑d:Int)<(↑i.k:Int))) (((bE (i.l++le i.n d)).length+1)*(1:Nat)<=(140737488355328:Nat)/\(0:Int)<=(8:Int)/\∃(e:Nat),i.n / (256:Int) ^ e=mJ au (i.n / (256:Int) ^ d) 8/\(↑e:Int)=ar.wrap ((↑d:Int)+1)/\bE (i.l++le i.n e)=bE (i.l++le i.n d)++[[D.v (.int .u8 (aw.wrap (i.n / (256:Int) ^ d)))]]/\b e/\c e<c d/\True) (∃(e:Unit),bE (i.l++le i.n i.k)=bE (i.l++le i.n d)/\True)
def y3s (i:z1j) (h:putC.cnd i):y2t i:=by
 unfold y2t;obtain⟨h1,h2,h3⟩:=h;refine⟨0,by simp,rfl,by simp[le],λj=>j<=i.k,λj=>i.k-j,oM,λj hj=>zI (λhlt=> ?_) (λhlt=> ?_)⟩
 ·refine⟨?_,oM,j+1,?_,?_,?_,oM,Z9,trivial⟩
  ·rw[xC,y5y,xV];omega
  ·have:=zGf .u64 (i.n / 256 ^ j) 8 Z8;rw[show((8:Nat):Int)=8 by rfl]at this;rw[this,Int.ediv_ediv_of_nonneg (Int.pow_nonneg (by omega)),bu];rfl
  ·rw[w64 (by omega)];rfl
  ·rw[yMw,zLh];simp[bE]
 ·obtain rfl:j=i.k:=by omega
  exact⟨(),rfl,trivial⟩
def z4n:putC.ok Tryz.prog 115:=okw mixed gok0 0 (λ_=>[]) (λi=>y4q i) [0] Tryz.func115 y3s
@[reducible] def tU8:Nat:=5
structure WN where
 l:List UInt8
 n:Int
@[reducible] def WN.ok (i:WN):Prop:=i.l.length+8<=1099511627776
def byteC:Con:=con1 WN (λi=>[.nm 0 0,zA i.n]) (λi=>[Wr i.l]) WN.ok (λ_=>tH) (λi=>[Wr (i.l++[lob i.n])])
def longC:Con:=con1 WN (λi=>[.nm 0 0,zA i.n]) (λi=>[Wr i.l]) WN.ok (λ_=>tH) (λi=>[Wr (i.l++le i.n 8)])
def sumC:Con:=con1 WN (λi=>[.nm 0 0,yOz i.n]) (λi=>[Wr i.l]) (λi=>i.l.length+8<=1099511627776/\0<=i.n/\i.n<4294967296) (λ_=>tH) (λi=>[Wr (i.l++le i.n 4)])
@[reducible] def ySx (t sz by_:Nat):Con:=con1 (List (List D)) (λ_=>[.own 0]) (λl=>[.own t sz l]) (λl=>l.length*by_<=140737488355328) (λ_=> .own 1) (λl=>[.own t sz l,.own t sz l])
@[reducible] def yXt (sz by_:Nat):Con:=con1 (List (List D)) (λl=>[roV sz l]) (λ_=>[]) (λl=>l.length*by_<=140737488355328) (λl=>roV sz l) (λ_=>[])
def cloneBO:Con:=ySx tU8 1 1
def cloneBR:Con:=yXt 1 1
def newWC:Con:=con1 Unit (λ_=>[]) (λ_=>[]) (λ_=>True) (λ_=> .nm 0 0) (λ_=>[Wr []])
def doneC:Con:=con1 (List UInt8) (λ_=>[.nm 0 0]) (λl=>[Wr l]) (λl=>l.length<=1099511627776) (λ_=> .own 1) (λl=>[Wr l,.own tU8 1 (bE l)])
def z5x (c:Int):Int:=if 0<zCj .u32 c 1 then zDl .u32 (mJ .u32 c 1) 3988292384 else mJ .u32 c 1
def vS:Nat->Int->Int
 |0,c=>c
 |k+1,c=>z5x (vS k c)
def zHf (l:List UInt8):Int:=l.foldl (λc b=>vS 8 (zDl .u32 c b.toNat)) 4294967295
def mB (l:List UInt8):Int:=zDl .u32 4294967295 (zHf l)
def crcC:Con:=con1 (List UInt8) (λl=>[roV 1 (bE l)]) (λ_=>[]) (λl=>l.length<=1099511627776) (λl=>yOz (mB l)) (λ_=>[])
def y4w (l:List UInt8):List SAnn:=[
 {ι:=Nat,slots:=λi=>[(3,yOz (zHf (l.take i))),(9,zA i)],rows:=λ_=>[]},
 {ι:=Int×Nat,slots:=λi=>[(3,yOz (vS i.2 i.1)),(17,zA i.2)],rows:=λ_=>[]}]
def RdU (x:List UInt8×Bool):Nat->AObj
 |0=> .cells [roV 1 (bE x.1),yP x.2] 207
 |_=> .gone
def Rd (l:List UInt8) (b:Bool):AObj:= .adt (List UInt8×Bool) 1 RdU (l,b)
def newRC:Con:=con1 (List UInt8) (λl=>[roV 1 (bE l)]) (λ_=>[]) (λl=>l.length<=1099511627776) (λ_=> .nm 0 0) (λl=>[Rd l ax])
structure RN where
 l:List UInt8
 b:Bool
 n:Nat
def RN.bad (i:RN):Bool:=i.b||decide (i.l.length<i.n)
def RN.got (i:RN):List UInt8:=if i.bad then[]else i.l.take i.n
def RN.left (i:RN):List UInt8:=if i.bad then i.l else i.l.drop i.n
@[reducible] def RN.ok (i:RN):Prop:=i.n<=255/\i.l.length<=1099511627776
def takeC:Con:=con1 RN (λi=>[.nm 0 0,zA i.n]) (λi=>[Rd i.l i.b]) RN.ok (λi=>roV 1 (bE i.got)) (λi=>[Rd i.left i.bad])
def qL:List UInt8->Int
 |[]=>0
 |b::l=>b.toNat+256*qL l
def getC:Con:=con1 RN (λi=>[.nm 0 0,zA i.n]) (λi=>[Rd i.l i.b]) (λi=>i.n<=8/\i.l.length<=1099511627776) (λi=>lK (qL i.got)) (λi=>[Rd i.left i.bad])
def y5h (i:RN):List SAnn:=[{ι:=Nat,slots:=λj=>[(5,lK (qL (i.got.take j))),(12,zA j)],rows:=λ_=>[]}]
structure RB where
 l:List UInt8
 b:Bool
def RB.n (i:RB) (k:Nat):RN:=⟨i.l,i.b,k⟩
def rbyteC:Con:=con1 RB (λi=>[.nm 0 0]) (λi=>[Rd i.l i.b]) (λi=>i.l.length<=1099511627776) (λi=>zA (qL (i.n 1).got)) (λi=>[Rd (i.n 1).left (i.n 1).bad])
def rlongC:Con:=con1 RB (λi=>[.nm 0 0]) (λi=>[Rd i.l i.b]) (λi=>i.l.length<=1099511627776) (λi=>zA (ar.wrap (qL (i.n 8).got))) (λi=>[Rd (i.n 8).left (i.n 8).bad])
def rendC:Con:=con1 RB (λi=>[.nm 0 0]) (λi=>[Rd i.l i.b]) (λi=>i.l.length<=1099511627776) (λi=>zA (if i.b then 10 else if 0<i.l.length then 15 else 0)) (λi=>[Rd i.l i.b])
def bR (a:z1j):Prop:=0<=a.n/\a.n<18446744073709551616/\a.l.length+a.k<=1099511627776
def yRi (i:WN):Prop:=
 ∃(a:z1j),a.n=au.wrap i.n/\(↑a.k:Int)=1/\aa (List UInt8) 2 WrU a.l=Wr i.l/\(bR a)/\∀(b:Unit),True->∃(c:Unit),aa (List UInt8) 2 WrU (i.l++[lob i.n])=aa (List UInt8) 2 WrU (a.l++le a.n a.k)/\True
def yRc (i:WN):Prop:=
 ∃(a:z1j),a.n=au.wrap i.n/\(↑a.k:Int)=8/\aa (List UInt8) 2 WrU a.l=Wr i.l/\(bR a)/\∀(b:Unit),True->∃(c:Unit),aa (List UInt8) 2 WrU (i.l++le i.n 8)=aa (List UInt8) 2 WrU (a.l++le a.n a.k)/\True
def y1g (i:WN):Prop:=
 ∃(a:z1j),a.n=au.wrap i.n/\(↑a.k:Int)=4/\aa (List UInt8) 2 WrU a.l=Wr i.l/\(bR a)/\∀(b:Unit),True->∃(c:Unit),aa (List UInt8) 2 WrU (i.l++le i.n 4)=aa (List UInt8) 2 WrU (a.l++le a.n a.k)/\True
def zYv (i:List (List D)):Prop:=
 ∀(b:Bool),(b=ay->i=[])->cnd b (∃(o:Unit),i=i/\i=[]/\True) ((0+i.length)*(1:Nat)<=(140737488355328:Nat)/\∃(o:Unit),i=i/\i=[]++i/\True)
def yAk (i:List (List D)):zYv i=walk Tryz.prog ([]) 0 ([]) ([]) [] Tryz.f116 (Tryz.f116.body.getD .skip) (cloneBO.pat i) (cloneBO.pre i) (cloneBO.alts i):=by kernel_rfl
def yBo (hG:GOk Tryz.prog ([])) (h:∀(i:List (List D)),cloneBO.cnd i->zYv i):cloneBO.ok Tryz.prog 116:=wT mixed ([]) hG 0 (λ(i:List (List D))=>[]) (λ(i:List (List D))=>[]) [] Tryz.func116 (by kernel_rfl) (by kernel_rfl) (by kernel_rfl) (λ_=>by kernel_rfl) (λ(i:List (List D)) hc=>Eq.mp (yAk i) (h i hc))
def zXi (i:List (List D)):Prop:=
 ∀(b:Bool),(b=ay->i=[])->cnd b (∃(o:Unit),i=[]/\True) ((0+i.length)*(1:Nat)<=(140737488355328:Nat)/\∃(o:Unit),i=[]++i/\True)
def yBg (i:List (List D)):zXi i=walk Tryz.prog ([]) 0 ([]) ([]) [] Tryz.f116 (Tryz.f116.body.getD .skip) (cloneBR.pat i) (cloneBR.pre i) (cloneBR.alts i):=by kernel_rfl
def yDf (hG:GOk Tryz.prog ([])) (h:∀(i:List (List D)),cloneBR.cnd i->zXi i):cloneBR.ok Tryz.prog 116:=wT mixed ([]) hG 0 (λ(i:List (List D))=>[]) (λ(i:List (List D))=>[]) [] Tryz.func116 (by kernel_rfl) (by kernel_rfl) (by kernel_rfl) (λ_=>by kernel_rfl) (λ(i:List (List D)) hc=>Eq.mp (yBg i) (h i hc))
def y1k (i:Unit):Prop:=
 ∃(o:Unit),bE []=[]/\True
def y0e (i:List UInt8):Prop:=
 ∃(i_1:List (List D)),i_1=bE i/\i_1.length*(1:Nat)<=(140737488355328:Nat)/\∀(o:Unit),True->∃(o:Unit),bE i=i_1/\bE i=i_1/\True
def kT (a:Nat) (b:Nat) (c:Nat->Prop) (d:Nat->Nat):Prop:=(↑a:Int)=ar.wrap ((↑b:Int)+1)/\c a/\d a<d b/\True
def y1e (i:List UInt8):Prop:=
 ∃(a:Nat),zHf (ak a i)=4294967295/\(↑a:Int)=0/\∃(b:Nat->Prop),∃(c:Nat->Nat),b a/\∀(d:Nat),b d->cnd (decide ((↑d:Int)<(↑(bE i).length:Int))) ((0<=(↑d:Int)/\(↑d:Int)<(↑(bE i).length:Int))/\∃(e:Int),zE (bE i) (↑d:Int).toNat 0 1=ba [D.v (.int .u8 e)]/\∃(f:Int×Nat),vS f.snd f.fst=zDl av (zHf (ak d i)) (av.wrap e)/\(↑f.snd:Int)=0/\∃(g:Int×Nat->Prop),∃(h:Int×Nat->Nat),g f/\∀(j:Int×Nat),g j->cnd (decide ((↑j.snd:Int)<8)) ((0:Int)<=(1:Int)/\cnd (decide (zCj av (vS j.snd j.fst) (1:Int)>(0:Int))) (∃(k:Int×Nat),vS k.snd k.fst=zDl av (mJ av (vS j.snd j.fst) 1) 3988292384/\(↑k.snd:Int)=ar.wrap ((↑j.snd:Int)+1)/\g k/\h k<h j/\True) (∃(k:Int×Nat),vS k.snd k.fst=mJ av (vS j.snd j.fst) 1/\(↑k.snd:Int)=ar.wrap ((↑j.snd:Int)+1)/\g k/\h k<h j/\True)) (∃(k:Nat),zHf (ak k i)=vS j.snd j.fst/\kT k d b c)) (∃(e:Unit),mB i=av.wrap (↑(cf av.bits (if av.signed=ay then(-1:Int)else av.max) ^^^ cf av.bits (zHf (ak d i))).toNat:Int)/\True)
def yZn (i:List UInt8):Prop:=
 ∃(i_1:List (List D)),i_1=bE i/\i_1.length*(1:Nat)<=(140737488355328:Nat)/\∀(o:Unit),True->∃(o:Unit),bE i=i_1/\ax=ax/\True
def yYx (i:RN):Prop:=
 cnd i.b (∃(o:Unit),bE i.got=[]/\bE i.left=bE i.l/\i.bad=ay/\True) (cnd (decide ((↑i.n:Int)>(↑(bE i.l).length:Int))) (∃(o:Unit),bE i.got=[]/\bE i.left=bE i.l/\i.bad=decide ((↑i.n:Int)>(↑(bE i.l).length:Int))/\True) ((0<=(↑i.n:Int)/\(↑i.n:Int)<=(↑(bE i.l).length:Int))/\(0<=(↑i.n:Int)/\(↑i.n:Int)<=(↑(bE i.l).length:Int))/\∃(o:Unit),bE i.got=ak (↑i.n:Int).toNat (bE i.l)/\bE i.left=ap (↑i.n:Int).toNat (bE i.l)/\i.bad=decide ((↑i.n:Int)>(↑(bE i.l).length:Int))/\True))
def y1u (i:RN):Prop:=
 ∃(a:RN),(↑a.n:Int)=(↑i.n:Int)/\aa (List UInt8×Bool) 1 RdU (a.l,a.b)=Rd i.l i.b/\(a.n<=255/\a.l.length<=1099511627776)/\∀(b:Unit),True->∃(c:Nat),qL (ak c i.got)=0/\(↑c:Int)=0/\∃(d:Nat->Prop),∃(e:Nat->Nat),d c/\∀(f:Nat),d f->cnd (decide ((↑f:Int)<(↑(bE a.got).length:Int))) ((0<=(↑f:Int)/\(↑f:Int)<(↑(bE a.got).length:Int))/\∃(g:Int),zE (bE a.got) (↑f:Int).toNat 0 1=ba [D.v (.int .u8 g)]/\0<=ar.wrap (8*(↑f:Int))/\∃(h:Nat),qL (ak h i.got)=iOr au (qL (ak f i.got)) (zYj au (au.wrap g) (ar.wrap (8*(↑f:Int))))/\(↑h:Int)=ar.wrap ((↑f:Int)+1)/\d h/\e h<e f/\dh (aa (List UInt8×Bool) 1 RdU (a.left,a.bad))) (∃(g:Unit),qL i.got=qL (ak f i.got)/\aa (List UInt8×Bool) 1 RdU (i.left,i.bad)=aa (List UInt8×Bool) 1 RdU (a.left,a.bad)/\True)
def yXx (i:RB):Prop:=
 ∃(i_1:RN),(↑i_1.n:Int)=1/\aa (List UInt8×Bool) 1 RdU (i_1.l,i_1.b)=Rd i.l i.b/\(i_1.n<=8/\i_1.l.length<=1099511627776)/\∀(o:Unit),True->∃(o:Unit),qL (i.n 1).got=ar.wrap (qL i_1.got)/\aa (List UInt8×Bool) 1 RdU ((i.n 1).left,(i.n 1).bad)=aa (List UInt8×Bool) 1 RdU (i_1.left,i_1.bad)/\True
def yVr (i:RB):Prop:=
 ∃(i_1:RN),(↑i_1.n:Int)=8/\aa (List UInt8×Bool) 1 RdU (i_1.l,i_1.b)=Rd i.l i.b/\(i_1.n<=8/\i_1.l.length<=1099511627776)/\∀(o:Unit),True->∃(o:Unit),ar.wrap (qL (i.n 8).got)=ar.wrap (qL i_1.got)/\aa (List UInt8×Bool) 1 RdU ((i.n 8).left,(i.n 8).bad)=aa (List UInt8×Bool) 1 RdU (i_1.left,i_1.bad)/\True
def y1x (i:RB):Prop:=
 cnd i.b (∃(o:Unit),(if i.b=ay then(10:Int)else if 0<i.l.length then(15:Int)else(0:Int))=10/\dh (bE i.l)/\i.b=i.b/\True) (cnd (decide ((↑(bE i.l).length:Int)>0)) (∃(o:Unit),(if i.b=ay then(10:Int)else if 0<i.l.length then(15:Int)else(0:Int))=15/\dh (bE i.l)/\i.b=i.b/\True) (∃(o:Unit),(if i.b=ay then(10:Int)else if 0<i.l.length then(15:Int)else(0:Int))=0/\dh (bE i.l)/\i.b=i.b/\True))
def yYr (k:Nat):∀n:Int,le (n % 256 ^ k) k=le n k:=by
 induction k with
 |zero=>intro n;rfl
 |succ k ih=>
  intro n;have hp:(0:Int)<256 ^ k:=Int.pow_pos oM;have h1:lob (n % 256 ^ (k+1))=lob n:=by
   unfold lob;rw[bu,xAi,Int.emod_emod_of_dvd n ⟨256 ^ k,rfl⟩]
  have h2:n % 256 ^ (k+1) / 256=n / 256 % 256 ^ k:=by
   have e:n=256*(n / 256)+n % 256:=(Int.mul_ediv_add_emod n 256).symm;have e2:n / 256=256 ^ k*(n / 256 / 256 ^ k)+n / 256 % 256 ^ k:=(Int.mul_ediv_add_emod _ _).symm;have hr:=xCa (n / 256) (show(256:Int) ^ k≠0 by omega);have hr2:=xCb (n / 256) hp;have e3:n % 256 ^ (k+1)=256*(n / 256 % 256 ^ k)+n % 256:=by
    have:n=256 ^ (k+1)*(n / 256 / 256 ^ k)+(256*(n / 256 % 256 ^ k)+n % 256):=by
     rw[bu,xAi (256 ^ k) 256,Int.mul_assoc,<- Int.add_assoc,<- bv,<- e2];exact e
    conv=>lhs;rw[this]
    rw[Int.add_comm,Int.add_mul_emod_self_left,Int.emod_eq_of_lt]
    ·omega
    ·rw[bu];omega
   rw[e3];omega
  rw[le,le,h1,h2,ih]
def yCj (n:Int):le (au.wrap n) 8=le n 8:=yYr 8 n
def z2c (n:Int):lob (au.wrap n)=lob n:=by
 have:au.wrap n=n % 18446744073709551616:=rfl;unfold lob;rw[this,Int.emod_emod_of_dvd n ⟨72057594037927936,by decide⟩]
def bS (n:Int):0<=au.wrap n/\au.wrap n<18446744073709551616:=by
 have:au.wrap n=n % 18446744073709551616:=rfl;rw[this];omega
def y3d (i:WN) (h:byteC.cnd i):yRi i:=by
 unfold yRi bR;have h:i.l.length+8<=1099511627776:=h;exact⟨⟨i.l,au.wrap i.n,1⟩,rfl,rfl,rfl,⟨(bS _).1,(bS _).2,Z9⟩,λ_ _=>⟨(),by simp only[le,z2c],trivial⟩⟩
def y2z (i:WN) (h:longC.cnd i):yRc i:=by
 unfold yRc bR;have h:i.l.length+8<=1099511627776:=h;exact⟨⟨i.l,au.wrap i.n,8⟩,rfl,rfl,rfl,⟨(bS _).1,(bS _).2,Z9⟩,λ_ _=>⟨(),by simp only[yCj],trivial⟩⟩
def y4y (i:WN) (h:sumC.cnd i):y1g i:=by
 unfold y1g bR;obtain⟨h1,h2,h3⟩:=h;have e:au.wrap i.n=i.n:=zCx oM;exact⟨⟨i.l,au.wrap i.n,4⟩,rfl,rfl,rfl,⟨(bS _).1,(bS _).2,Z9⟩,λ_ _=>⟨(),by simp only[e],trivial⟩⟩
def zLm:byteC.ok Tryz.prog 59:=okw mixed (gokc z4n gok0) 0 (λ_=>[]) (λ_=>[]) [] Tryz.func59 y3d
def zUl:longC.ok Tryz.prog 60:=okw mixed (gokc z4n gok0) 0 (λ_=>[]) (λ_=>[]) [] Tryz.func60 y2z
def yFx:sumC.ok Tryz.prog 63:=okw mixed (gokc z4n gok0) 0 (λ_=>[]) (λ_=>[]) [] Tryz.func63 y4y
def zNr:cloneBO.ok Tryz.prog 116:=yBo gok0 λi h=>λb hb=>
 Cv.cnd.mk (λe=>⟨(),rfl,hb e,trivial⟩) (λ_=>⟨by rw[y6x];exact h,(),rfl,rfl,trivial⟩)
def z5f:cloneBR.ok Tryz.prog 116:=yDf gok0 λi h=>λb hb=>
 Cv.cnd.mk (λe=>⟨(),hb e,trivial⟩) (λ_=>⟨by rw[y6x];exact h,(),rfl,trivial⟩)
def zUn:newWC.ok Tryz.prog 58:=okw (V:=y1k) mixed gok0 0 (λ_=>[]) (λ_=>[]) [] Tryz.func58 λ(_:Unit) _=>⟨(),rfl,trivial⟩
def zVd:doneC.ok Tryz.prog 62:=okw (V:=y0e) mixed (gokc zNr gok0) 0 (λ_=>[]) (λ_=>[]) [0] Tryz.func62 λ(i:List UInt8) h=>by
 have h:i.length<=1099511627776:=h;exact⟨_,rfl,by rw[xC];omega,λ_ _=>⟨(),rfl,rfl,trivial⟩⟩
def z6b:newRC.ok Tryz.prog 65:=okw (V:=yZn) mixed (gokc z5f gok0) 0 (λ_=>[]) (λ_=>[]) [] Tryz.func65 λ(i:List UInt8) h=>by
 have h:i.length<=1099511627776:=h;exact⟨_,rfl,by rw[xC];omega,λ_ _=>⟨(),rfl,rfl,trivial⟩⟩
def dN {l:List UInt8} {i:Nat} {b:UInt8} (h:l[i]? =ba b):zE (bE l) i 0 1=ba [.v (.int .u8 b.toNat)]:=by
 unfold zE bE;rw[y7p,h];rfl
def yBy {l:List UInt8} {i:Nat} {b:UInt8} (h:l[i]? =ba b):zHf (l.take (i+1))=vS 8 (zDl .u32 (zHf (l.take i)) b.toNat):=by
 unfold zHf;rw[y7h,h];simp[xAu]
def yZr (b:UInt8):av.wrap (b.toNat:Int)=b.toNat:=y1i (by have:=b.toNat_lt;omega)
def y0f (b:UInt8):au.wrap (b.toNat:Int)=b.toNat:=zCx (by have:=b.toNat_lt;omega)
def y3v (i:List UInt8) (h:crcC.cnd i):y1e i:=by
 unfold y1e kT;have h:i.length<=1099511627776:=h;refine⟨0,rfl,rfl,λj=>j<=i.length,λj=>i.length-j,Z9,λj hj=>zI (λhlt=> ?_) (λhlt=> ?_)⟩
 ·dsimp only at hj;rw[xC]at hlt;obtain⟨b,hb⟩:∃b,i[j]? =ba b:=⟨_,y6z oM⟩
  refine⟨⟨oM,by rw[xC];omega⟩,b.toNat,dN hb,(zDl .u32 (zHf (i.take j)) b.toNat,0),?_,rfl,λx=>x.1=zDl .u32 (zHf (i.take j)) b.toNat/\x.2<=8,λx=>8-x.2,⟨rfl,Z9⟩,?_⟩
  ·simp only[vS,yZr]
  rintro⟨c,n⟩ ⟨h1,h2⟩;dsimp only at h1 h2;subst h1;refine zI (λhn=>⟨oM,zI (λhc=> ?_) (λhc=> ?_)⟩) (λhn=> ?_)
  ·refine⟨(zDl .u32 (zHf (i.take j)) b.toNat,n+1),?_,?_,⟨rfl,by dsimp only at hn ⊢;omega⟩,by dsimp only at hn ⊢;omega,trivial⟩
   ·simp only[vS,z5x];rw[y6a hc]
   ·rw[w64 (by dsimp only;omega)];rfl
  ·refine⟨(zDl .u32 (zHf (i.take j)) b.toNat,n+1),?_,?_,⟨rfl,by dsimp only at hn ⊢;omega⟩,by dsimp only at hn ⊢;omega,trivial⟩
   ·simp only[vS,z5x];rw[y5x hc]
   ·rw[w64 (by dsimp only;omega)];rfl
  ·dsimp only at hn;obtain rfl:n=8:=by omega
   refine⟨j+1,yBy hb,?_,Z9,Z9,trivial⟩;rw[w64 (by omega)];rfl
 ·dsimp only at hj;rw[xC]at hlt;refine⟨(),?_,trivial⟩;rw[y6k (by omega)];rfl
def z5w:crcC.ok Tryz.prog 64:=okw mixed gok0 0 (λ_=>[]) (λi=>y4w i) [] Tryz.func64 y3v
def z8i:takeC.ok Tryz.prog 149:=okw (V:=yYx) mixed gok0 0 (λ_=>[]) (λ_=>[]) [0] Tryz.func149 λ(i:RN) h=>by
 obtain⟨h1,h2⟩:=h;refine Cv.cnd.mk (λe=> ?_) (λe=>zI (λhlt=> ?_) (λhlt=> ?_))
 ·have:i.bad=ay:=by simp[RN.bad,e]
  exact⟨(),by simp[RN.got,this],by simp[RN.left,this],this,trivial⟩
 ·rw[xC]at hlt;have:i.bad=ay:=by simp[RN.bad];right;omega
  exact⟨(),by simp[RN.got,this],by simp[RN.left,this],by rw[this,xC];simp;omega,trivial⟩
 ·rw[xC]at hlt;have:i.bad=ax:=by simp[RN.bad,e];omega
  rw[xC];exact⟨⟨oM,oM⟩,⟨oM,oM⟩,(),by simp[RN.got,this,zEc],by simp[RN.left,this,zFh],by rw[this];simp;omega,trivial⟩
def mF:∀l:List UInt8,0<=qL l/\qL l<256 ^ l.length
 |[]=>by simp[qL]
 |b::l=>by
  obtain⟨h1,h2⟩:=mF l;have:=b.toNat_lt;simp only[qL,y6d,bu];omega
def zRw (b:UInt8):∀l:List UInt8,qL (l++[b])=qL l+b.toNat*256 ^ l.length
 |[]=>by simp[qL]
 |c::l=>by
  simp only[y7o,qL,zRw b l,y6d,bu,bv];rw[xAi (256 ^ l.length) 256,<- Int.mul_assoc,<- Int.mul_assoc,xAi 256 (b.toNat:Int)];omega
def yGb {x b j:Nat} (hx:x<256 ^ j) (hb:b<256) (hj:j<8):iOr .u64 x (zYj .u64 b ((8*j:Nat):Int))=((x+b*256 ^ j:Nat):Int):=by
 have hp:256 ^ j=2 ^ (8*j):=by rw[Nat.pow_mul]
 have hle:256 ^ (j+1)<=256 ^ 8:=Nat.pow_le_pow_right oM oM;have hbig:x+b*256 ^ j<256 ^ (j+1):=by
  rw[Nat.pow_succ];have:b*256 ^ j<=255*256 ^ j:=y7l _ oM;omega
 have h8:(256:Nat) ^ 8=18446744073709551616:=by decide
 rw[<- yPv,<- yUf];have e1:yVn .u64 (b:Int) ((8*j:Nat):Int)=((b*256 ^ j:Nat):Int):=by
  show wr .u64 (Int.ofNat (b*2 ^ (Nat.min (8*j) 64)))=_;rw[show Nat.min (8*j) 64=8*j from y9x (by omega),<- hp,z6t];exact zCx (by show(0:Int)<=((b*256 ^ j:Nat):Int)/\((b*256 ^ j:Nat):Int)<_;omega)
 rw[e1];show wr .u64 (Int.ofNat (Nat.lor (x % 18446744073709551616) ((b*256 ^ j) % 18446744073709551616)))=_;rw[Nat.mod_eq_of_lt (by omega),Nat.mod_eq_of_lt (by omega)];have e2:Nat.lor x (b*256 ^ j)=x+b*256 ^ j:=by
  show x|||(b*256 ^ j)=_
  rw[hp]at hx ⊢;rw[Nat.or_comm,<- Nat.shiftLeft_eq,<- Nat.shiftLeft_add_eq_or_of_lt hx,xBg]
 rw[e2,z6t];exact zCx (by show(0:Int)<=((x+b*256 ^ j:Nat):Int)/\((x+b*256 ^ j:Nat):Int)<_;omega)
def zLw (i:RN):i.got.length<=i.n:=by
 unfold RN.got;split
 ·simp
 ·rw[y6t];omega
def yZa (i:RN) (h:getC.cnd i):y1u i:=by
 unfold y1u;obtain⟨h1,h2⟩:=h;refine⟨i,rfl,rfl,⟨oM,h2⟩,λ_ _=>⟨0,rfl,rfl,λj=>j<=i.got.length,λj=>i.got.length-j,Z9,λj hj=>zI (λhlt=> ?_) (λhlt=> ?_)⟩⟩
 ·dsimp only at hj;have hl:=zLw i;rw[xC]at hlt ⊢;obtain⟨b,hb⟩:∃b,i.got[j]? =ba b:=⟨_,y6z oM⟩
  have e8:ar.wrap (8*(j:Int))=8*j:=w64 oM;refine⟨⟨oM,oM⟩,b.toNat,dN hb,by rw[e8];omega,j+1,?_,?_,Z9,Z9,rfl⟩
  ·rw[e8,y0f,y7h,hb];simp only[y9b];rw[zRw];obtain⟨r1,r2⟩:=mF (i.got.take j);rw[y6t,y9x (by omega)]at r2 ⊢;obtain⟨x,hx⟩:∃x:Nat,qL (i.got.take j)=x:=⟨(qL (i.got.take j)).toNat,oM⟩
   rw[hx]at r2 ⊢;have:=yGb (x:=x) (b:=b.toNat) (j:=j) (by exact_mod_cast r2) b.toNat_lt oM;rw[show(8*(j:Int))=((8*j:Nat):Int)by simp,this];simp
  ·rw[w64 (by omega)];rfl
 ·dsimp only at hj;rw[xC]at hlt;exact⟨(),by rw[y6k (by omega)],rfl,trivial⟩
def z3v:getC.ok Tryz.prog 117:=okw mixed (gokc z8i gok0) 0 (λ_=>[]) (λi=>y5h i) [] Tryz.func117 yZa
def zXo:rbyteC.ok Tryz.prog 67:=okw (V:=yXx) mixed (gokc z3v gok0) 0 (λ_=>[]) (λ_=>[]) [] Tryz.func67 λ(i:RB) h=>by
 have hl:=zLw (i.n 1);have hr:=mF (i.n 1).got;have h0:(256:Int) ^ (i.n 1).got.length<=256 ^ 1:=by
  have:(256:Nat) ^ (i.n 1).got.length<=256 ^ 1:=Nat.pow_le_pow_right oM hl
  exact_mod_cast this
 exact⟨i.n 1,rfl,rfl,⟨by show 1<=8;omega,h⟩,λ_ _=>⟨(),(w64 oM).symm,rfl,trivial⟩⟩
def yJi:rlongC.ok Tryz.prog 66:=okw (V:=yVr) mixed (gokc z3v gok0) 0 (λ_=>[]) (λ_=>[]) [] Tryz.func66 λ(i:RB) h=>by
 exact⟨i.n 8,rfl,rfl,⟨by show 8<=8;omega,h⟩,λ_ _=>⟨(),rfl,rfl,trivial⟩⟩
def yMt:rendC.ok Tryz.prog 69:=okw (V:=y1x) mixed gok0 0 (λ_=>[]) (λ_=>[]) [0] Tryz.func69 λ(i:RB) h=>by
 refine Cv.cnd.mk (λe=>⟨(),by rw[y6a e],rfl,rfl,trivial⟩) (λe=>zI (λhlt=>⟨(),?_,rfl,rfl,trivial⟩) (λhlt=>⟨(),?_,rfl,rfl,trivial⟩))
 ·rw[xC]at hlt;rw[y5x (by simp[e]),y6a (by omega)]
 ·rw[xC]at hlt;rw[y5x (by simp[e]),y5x (by omega)]
open Classical
structure Sd where
 levels:List Lv
 imp:Lv
 has:Bool
@[reducible] def Vw:=List (Sd×Sd)
def yG (b:Sd×Sd):List D:=[.ro 3 (b.1.levels.map lvE),.v (.int .i64 b.1.imp.price),.v (.int .i64 b.1.imp.qty),.v (.int .i64 b.1.imp.count),.v (.bool b.1.has),
 .ro 3 (b.2.levels.map lvE),.v (.int .i64 b.2.imp.price),.v (.int .i64 b.2.imp.qty),.v (.int .i64 b.2.imp.count),.v (.bool b.2.has)]
def sdV (s:Sd):V:= .agg [roV 3 (s.levels.map lvE),zA s.imp.price,zA s.imp.qty,zA s.imp.count,yP s.has]
def vwV (v:Vw):V:= .agg [roV 10 (v.map yG)]
def bD (side x y:Int):Bool:=if side=1 then decide (y<x)else decide (x<y)
structure I3 where
 side:Int
 x:Int
 y:Int
def betterC:Con:=con1 I3 (λi=>[zA i.side,zA i.x,zA i.y]) (λ_=>[]) (λ_=>True) (λi=>yP (bD i.side i.x i.y)) (λ_=>[])
def LvAt (side:Int) (l:List Lv) (i:Nat):Prop:=∀a,l[i]?=ba a->1<=a.qty/\1<=a.count/\∀j b,i=j+1->l[j]?=ba b->bD side b.price a.price=ay
def SdRight (side:Int) (s:Sd):Prop:=(∀i,LvAt side s.levels i)/\s.levels.length<=255/\(s.has=ay->1<=s.imp.qty/\1<=s.imp.count)/\(s.has=ax->s.imp=⟨0,0,0⟩)
def bH (v:Vw):Prop:=(∀b∈v,SdRight 1 b.1/\SdRight 2 b.2)/\v.length<=255
noncomputable def jN (side:Int) (s:Sd):Bool:=decide (SdRight side s)
noncomputable def bG (v:Vw):Bool:=decide (bH v)
structure SdI where
 side:Int
 s:Sd
noncomputable def srightC:Con:=con1 SdI (λi=>[zA i.side,sdV i.s]) (λ_=>[]) (λi=>i.s.levels.length<=1099511627776) (λi=>yP (jN i.side i.s)) (λ_=>[])
def yLu:List SAnn:=[{ι:=Nat,slots:=λj=>[(10,zA j)],rows:=λ_=>[]}]
@[reducible] def l5 (v:Vw):Prop:=v.length<=1099511627776/\∀b∈v,b.1.levels.length<=1099511627776/\b.2.levels.length<=1099511627776
noncomputable def rightVC:Con:=con1 Vw (λv=>[vwV v]) (λ_=>[]) l5 (λv=>yP (bG v)) (λ_=>[])
def yNd:List SAnn:=[{ι:=Nat,slots:=λj=>[(8,zA j)],rows:=λ_=>[]}]
def kZ (l:Lv):List UInt8:=le l.price 8++le l.qty 8++le l.count 8
structure z4b where
 l:List UInt8
 v:Lv
def putLC:Con:=con1 z4b (λi=>[.nm 0 0,lvV i.v]) (λi=>[Wr i.l]) (λi=>i.l.length+24<=1099511627776) (λ_=>tH) (λi=>[Wr (i.l++kZ i.v)])
def zEh (s:Sd):List UInt8:=[lob s.levels.length]++s.levels.flatMap kZ++(if s.has then[lob 1]++kZ s.imp else[lob 0])
def wW (b:Sd×Sd):List UInt8:=zEh b.1++zEh b.2
def cY (v:Vw) (seq:Int):List UInt8:=le seq 8++[lob v.length]++v.flatMap wW
noncomputable def cT (v:Vw) (seq:Int):List UInt8:=if bH v then cY v seq++le (mB (cY v seq)) 4 else[]
noncomputable def zOb (v:Vw):Int:=if bH v then 0 else 12
structure zQx where
 v:Vw
 seq:Int
noncomputable def encC:Con:=con1 zQx (λi=>[vwV i.v,zA i.seq]) (λ_=>[]) (λi=>l5 i.v) (λi=> .tup [roV 1 (bE (cT i.v i.seq)),zA (zOb i.v)]) (λ_=>[])
def y3i (i:zQx):List SAnn:=[
 {ι:=Nat,slots:=λj=>[(6,.nm 0 0),(28,zA j)],rows:=λj=>[Wr (le i.seq 8++[lob i.v.length]++(i.v.take j).flatMap wW)]},
 {ι:=Unit,slots:=λ_=>[],rows:=λ_=>[],un:=3},
 {ι:=List UInt8×List Lv×Nat,slots:=λx=>[(6,.nm 0 0),(44,zA x.2.2)],rows:=λx=>[Wr (x.1++(x.2.1.take x.2.2).flatMap kZ)]}]
def yQf (i:I3):Prop:=
 cnd (i.side==1) (∃(o:Unit),bD i.side i.x i.y=decide (i.x>i.y)/\True) (∃(o:Unit),bD i.side i.x i.y=decide (i.x<i.y)/\True)
def lL (a:Nat) (b:Nat->Prop) (c:Nat->Nat) (d:SdI):Prop:=∃(e:Nat),(↑e:Int)=ar.wrap ((↑a:Int)+1)/\b e/\c e<c a/\dh (ac [V.own 0,V.d (dI d.s.imp.price),V.d (dI d.s.imp.qty),V.d (dI d.s.imp.count),V.d (D.v (.bool d.s.has))] 129)/\dh (ab 3 (aj lvE d.s.levels))
def fA (a:SdI):=(↑(aj lvE a.s.levels).length:Int)
def z6h (i:SdI):Prop:=
 ∃(a:Nat),(↑a:Int)=0/\∃(b:Nat->Prop),∃(c:Nat->Nat),b a/\∀(d:Nat),b d->cnd (decide ((↑d:Int)<(fA i))) ((0<=(↑d:Int)/\(↑d:Int)<(fA i))/\∃(e:Int),∃(f:Int),∃(g:Int),zE (aj lvE i.s.levels) (↑d:Int).toNat 0 3=ba [dI e,dI f,dI g]/\cnd (decide (f<1)) (∃(h:Unit),jN i.side i.s=ax/\True) (cnd (decide (g<1)) (∃(h:Unit),jN i.side i.s=ax/\True) (cnd (decide ((↑d:Int)>0)) ((0<=ar.wrap ((↑d:Int)-1)/\ar.wrap ((↑d:Int)-1)<(fA i))/\∃(h:Int),zE (aj lvE i.s.levels) (ar.wrap ((↑d:Int)-1)).toNat 0 1=ba [dI h]/\∃(j:I3),j.side=i.side/\j.x=h/\j.y=e/\True/\∀(k:Unit),True->cnd (!bD j.side j.x j.y) (∃(l:Unit),jN i.side i.s=ax/\True) (lL d b c i)) (lL d b c i)))) (cnd (!i.s.has) (cnd (decide ((fA i)<=255)) (∃(e:Unit),jN i.side i.s=(i.s.imp.price==0 && (i.s.imp.qty==0 && (i.s.imp.count==0 && ay)))/\True) (∃(e:Unit),jN i.side i.s=ax/\True)) (cnd (decide ((fA i)<=255)) (cnd (decide (i.s.imp.qty>=1)) (∃(e:Unit),jN i.side i.s=decide (i.s.imp.count>=1)/\True) (∃(e:Unit),jN i.side i.s=ax/\True)) (∃(e:Unit),jN i.side i.s=ax/\True)))
def z6e (i:Vw):Prop:=
 ∃(a:Nat),(↑a:Int)=0/\∃(b:Nat->Prop),∃(c:Nat->Nat),b a/\∀(d:Nat),b d->cnd (decide ((↑d:Int)<(↑(aj yG i).length:Int))) ((0<=(↑d:Int)/\(↑d:Int)<(↑(aj yG i).length:Int))/\∃(e:List (List D)),∃(f:Int),∃(g:Int),∃(h:Int),∃(j:Bool),∃(k:List (List D)),∃(l:Int),∃(m:Int),∃(n:Int),∃(p:Bool),zE (aj yG i) (↑d:Int).toNat 0 10=ba [D.ro 3 e,dI f,dI g,dI h,D.v (.bool j),D.ro 3 k,dI l,dI m,dI n,D.v (.bool p)]/\∃(q:SdI),q.side=1/\aj lvE q.s.levels=e/\q.s.imp.price=f/\q.s.imp.qty=g/\q.s.imp.count=h/\q.s.has=j/\q.s.levels.length<=1099511627776/\∀(r:Unit),True->cnd (!jN q.side q.s) (∃(s:Unit),bG i=ax/\True) (∃(s:SdI),s.side=2/\aj lvE s.s.levels=k/\s.s.imp.price=l/\s.s.imp.qty=m/\s.s.imp.count=n/\s.s.has=p/\s.s.levels.length<=1099511627776/\∀(t:Unit),True->cnd (!jN s.side s.s) (∃(u:Unit),bG i=ax/\True) (∃(u:Nat),(↑u:Int)=ar.wrap ((↑d:Int)+1)/\b u/\c u<c d/\dh (ac [V.own 0] 71)/\dh (ab 10 (aj yG i))))) (∃(e:Unit),bG i=decide ((↑(aj yG i).length:Int)<=255)/\True)
def y0p (i:z4b):Prop:=
 ∃(i_1:WN),i_1.n=i.v.price/\aa (List UInt8) 2 WrU i_1.l=Wr i.l/\i_1.ok/\∀(o:Unit),True->∃(i_2:WN),i_2.n=i.v.qty/\aa (List UInt8) 2 WrU i_2.l=aa (List UInt8) 2 WrU (i_1.l++le i_1.n 8)/\i_2.ok/\∀(o:Unit),True->∃(i_3:WN),i_3.n=i.v.count/\aa (List UInt8) 2 WrU i_3.l=aa (List UInt8) 2 WrU (i_2.l++le i_2.n 8)/\i_3.ok/\∀(o:Unit),True->∃(o:Unit),aa (List UInt8) 2 WrU (i.l++kZ i.v)=aa (List UInt8) 2 WrU (i_3.l++le i_3.n 8)/\True
def zMr (a:zQx):Prop:=ac [V.own 0] 71=ac [V.own 0] 71/\dh (ab 10 (aj yG a.v))
def zPu (a:Nat->Prop) (b:Nat) (c:Nat->Nat) (d:Nat) (e:zQx):Prop:=a b/\c b<c d/\zMr e
def pG (a:zQx) (b:Nat):=(le a.seq 8++[lob (↑(aq a.v):Int)]++List.flatMap wW (ak b a.v))
def uB (a:List UInt8×List Lv×Nat):=(a.fst++List.flatMap kZ (ak a.snd.snd a.snd.fst))
def zWw (a:Int) (b:Int) (c:Int) (d:Bool) (e:List (List D)) (f:List (List D)) (g:Int) (h:Int) (j:Int) (k:Bool) (l:zQx):Prop:=ac [V.own 5,V.d (dI a),V.d (dI b),V.d (dI c),V.d (D.v (.bool d))] 129=ac [V.own 5,V.d (dI a),V.d (dI b),V.d (dI c),V.d (D.v (.bool d))] 129/\dh (ab 3 e)/\dh (ab 3 f)/\dh (ac [V.own 5,V.d (dI a),V.d (dI b),V.d (dI c),V.d (D.v (.bool d)),V.own 6,V.d (dI g),V.d (dI h),V.d (dI j),V.d (D.v (.bool k))] 130)/\zMr l
def z5c (a:WN) (b:List (List D)) (c:Int) (d:Int) (e:Int) (f:Bool) (g:Int) (h:Int) (j:Int) (k:Bool) (l:List (List D)) (m:zQx) (n:Nat) (p:Nat->Prop) (q:Nat->Nat):Prop:=a.ok/\∀(r:Unit),True->∃(s:List UInt8×List Lv×Nat),(↑s.snd.snd:Int)=0/\aa (List UInt8) 2 WrU (uB s)=aa (List UInt8) 2 WrU (a.l++[lob a.n])/\∃(t:List UInt8×List Lv×Nat->Prop),∃(u:List UInt8×List Lv×Nat->Nat),t s/\∀(v:List UInt8×List Lv×Nat),t v->cnd (decide ((↑v.snd.snd:Int)<(↑b.length:Int))) ((0<=(↑v.snd.snd:Int)/\(↑v.snd.snd:Int)<(↑b.length:Int))/\∃(w:Int),∃(x:Int),∃(y:Int),zE b (↑v.snd.snd:Int).toNat 0 3=ba [dI w,dI x,dI y]/\∃(z:z4b),z.v.price=w/\z.v.qty=x/\z.v.count=y/\aa (List UInt8) 2 WrU z.l=aa (List UInt8) 2 WrU (uB v)/\z.l.length+(24:Nat)<=(1099511627776:Nat)/\∀(a_1:Unit),True->∃(a_2:List UInt8×List Lv×Nat),(↑a_2.snd.snd:Int)=ar.wrap ((↑v.snd.snd:Int)+1)/\aa (List UInt8) 2 WrU (uB a_2)=aa (List UInt8) 2 WrU (z.l++kZ z.v)/\t a_2/\u a_2<u v/\dh (ac [V.own 6,V.d (dI c),V.d (dI d),V.d (dI e),V.d (D.v (.bool f))] 129)/\zWw g h j k b l c d e f m) (cnd (!f) (∃(w:WN),w.n=0/\aa (List UInt8) 2 WrU w.l=aa (List UInt8) 2 WrU (uB v)/\w.ok/\∀(x:Unit),True->∃(y:Nat),(↑y:Int)=ar.wrap ((↑n:Int)+1)/\aa (List UInt8) 2 WrU (pG m y)=aa (List UInt8) 2 WrU (w.l++[lob w.n])/\zPu p y q n m) (∃(w:WN),w.n=1/\aa (List UInt8) 2 WrU w.l=aa (List UInt8) 2 WrU (uB v)/\w.ok/\∀(x:Unit),True->∃(y:z4b),y.v.price=c/\y.v.qty=d/\y.v.count=e/\aa (List UInt8) 2 WrU y.l=aa (List UInt8) 2 WrU (w.l++[lob w.n])/\y.l.length+(24:Nat)<=(1099511627776:Nat)/\∀(z:Unit),True->∃(a_1:Nat),(↑a_1:Int)=ar.wrap ((↑n:Int)+1)/\aa (List UInt8) 2 WrU (pG m a_1)=aa (List UInt8) 2 WrU (y.l++kZ y.v)/\zPu p a_1 q n m))
def y3e (i:zQx):Prop:=
 ∃(a:Vw),aj yG a=aj yG i.v/\(aq a<=1099511627776/\∀(b:Sd×Sd),b∈a->b.fst.levels.length<=1099511627776/\b.snd.levels.length<=1099511627776)/\∀(b:Unit),True->cnd (!bG a) (∃(c:Unit),bE (cT i.v i.seq)=[]/\zOb i.v=12/\True) (∃(c:Unit),True/\∀(d:Unit),True->∃(e:WN),e.n=i.seq/\aa (List UInt8) 2 WrU e.l=aa (List UInt8) 2 WrU []/\e.ok/\∀(f:Unit),True->∃(g:WN),g.n=(↑(aj yG i.v).length:Int)/\aa (List UInt8) 2 WrU g.l=aa (List UInt8) 2 WrU (e.l++le e.n 8)/\g.ok/\∀(h:Unit),True->∃(j:Nat),(↑j:Int)=0/\aa (List UInt8) 2 WrU (pG i j)=aa (List UInt8) 2 WrU (g.l++[lob g.n])/\∃(k:Nat->Prop),∃(l:Nat->Nat),k j/\∀(m:Nat),k m->cnd (decide ((↑m:Int)<(↑(aj yG i.v).length:Int))) ((0<=(↑m:Int)/\(↑m:Int)<(↑(aj yG i.v).length:Int))/\∃(n:List (List D)),∃(p:Int),∃(q:Int),∃(r:Int),∃(s:Bool),∃(t:List (List D)),∃(u:Int),∃(v:Int),∃(w:Int),∃(x:Bool),zE (aj yG i.v) (↑m:Int).toNat 0 10=ba [D.ro 3 n,dI p,dI q,dI r,D.v (.bool s),D.ro 3 t,dI u,dI v,dI w,D.v (.bool x)]/\∃(y:WN),y.n=(↑n.length:Int)/\aa (List UInt8) 2 WrU y.l=aa (List UInt8) 2 WrU (pG i m)/\y.ok/\∀(z:Unit),True->∃(a_1:List UInt8×List Lv×Nat),(↑a_1.snd.snd:Int)=0/\aa (List UInt8) 2 WrU (uB a_1)=aa (List UInt8) 2 WrU (y.l++[lob y.n])/\∃(a_2:List UInt8×List Lv×Nat->Prop),∃(a_3:List UInt8×List Lv×Nat->Nat),a_2 a_1/\∀(a_4:List UInt8×List Lv×Nat),a_2 a_4->cnd (decide ((↑a_4.snd.snd:Int)<(↑n.length:Int))) ((0<=(↑a_4.snd.snd:Int)/\(↑a_4.snd.snd:Int)<(↑n.length:Int))/\∃(a_5:Int),∃(a_6:Int),∃(a_7:Int),zE n (↑a_4.snd.snd:Int).toNat 0 3=ba [dI a_5,dI a_6,dI a_7]/\∃(a_8:z4b),a_8.v.price=a_5/\a_8.v.qty=a_6/\a_8.v.count=a_7/\aa (List UInt8) 2 WrU a_8.l=aa (List UInt8) 2 WrU (uB a_4)/\a_8.l.length+(24:Nat)<=(1099511627776:Nat)/\∀(a_9:Unit),True->∃(a_10:List UInt8×List Lv×Nat),(↑a_10.snd.snd:Int)=ar.wrap ((↑a_4.snd.snd:Int)+1)/\aa (List UInt8) 2 WrU (uB a_10)=aa (List UInt8) 2 WrU (a_8.l++kZ a_8.v)/\a_2 a_10/\a_3 a_10<a_3 a_4/\zWw p q r s t n u v w x i) (cnd (!s) (∃(a_5:WN),a_5.n=0/\aa (List UInt8) 2 WrU a_5.l=aa (List UInt8) 2 WrU (uB a_4)/\a_5.ok/\∀(a_6:Unit),True->∃(a_7:WN),a_7.n=(↑t.length:Int)/\aa (List UInt8) 2 WrU a_7.l=aa (List UInt8) 2 WrU (a_5.l++[lob a_5.n])/\z5c a_7 t u v w x p q r s n i m k l) (∃(a_5:WN),a_5.n=1/\aa (List UInt8) 2 WrU a_5.l=aa (List UInt8) 2 WrU (uB a_4)/\a_5.ok/\∀(a_6:Unit),True->∃(a_7:z4b),a_7.v.price=p/\a_7.v.qty=q/\a_7.v.count=r/\aa (List UInt8) 2 WrU a_7.l=aa (List UInt8) 2 WrU (a_5.l++[lob a_5.n])/\a_7.l.length+(24:Nat)<=(1099511627776:Nat)/\∀(a_8:Unit),True->∃(a_9:WN),a_9.n=(↑t.length:Int)/\aa (List UInt8) 2 WrU a_9.l=aa (List UInt8) 2 WrU (a_7.l++kZ a_7.v)/\z5c a_9 t u v w x p q r s n i m k l))) (∃(n:List UInt8),aa (List UInt8) 2 WrU n=aa (List UInt8) 2 WrU (pG i m)/\n.length<=1099511627776/\∀(p:Unit),True->∃(q:List UInt8),bE q=bE n/\q.length<=1099511627776/\∀(r:Unit),True->∃(s:WN),s.n=mB q/\aa (List UInt8) 2 WrU s.l=aa (List UInt8) 2 WrU n/\(s.l.length+(8:Nat)<=(1099511627776:Nat)/\0<=s.n/\s.n<4294967296)/\∀(t:Unit),True->∃(u:List UInt8),aa (List UInt8) 2 WrU u=aa (List UInt8) 2 WrU (s.l++le s.n 4)/\u.length<=1099511627776/\∀(v:Unit),True->∃(w:Unit),bE (cT i.v i.seq)=bE u/\zOb i.v=0/\True))
def yAs {α:Type} {f:α->List D} {l:List α} {i n:Nat} {x:α} (h:l[i]? =ba x) (hn:(f x).length=n):zE (l.map f) i 0 n=ba (f x):=by
 unfold zE;rw[y7p,h];simp only[y8b,y6x,hn,Nat.ble_eq_true_of_le (y6v n),cond_true,y9n];rw[<- hn,y6k (y6v _)]
def y2b {α:Type} {f:α->List D} {l:List α} {i g n:Nat} {x:α} {r:List D} (h:l[i]? =ba x) (hn:g+n<=(f x).length) (hr:((f x).drop g).take n=r):zE (l.map f) i g n=ba r:=by
 unfold zE;rw[y7p,h];simp only[y8b,Nat.ble_eq_true_of_le hn,cond_true,hr]
def getD {α:Type} {l:List α} {i:Nat} (h:i<l.length):∃x,l[i]? =ba x:=⟨_,y6z h⟩
def zRz:betterC.ok Tryz.prog 150:=okw (V:=yQf) mixed gok0 0 (λ_=>[]) (λ_=>[]) [] Tryz.func150 λ(i:I3) _=>by
 refine Cv.cnd.mk (λe=>⟨(),?_,trivial⟩) (λe=>⟨(),?_,trivial⟩)
 ·have e:i.side=1:=by simpa using e
  simp[bD,e]
 ·have e:i.side≠1:=by simpa using e
  simp[bD,e]
def sdF {side:Int} {s:Sd} (h:¬SdRight side s):jN side s=ax:=y6n h
def LvAt.of {side:Int} {l:List Lv} {i:Nat} {x:Lv} (hx:l[i]? =ba x) (h1:1<=x.qty) (h2:1<=x.count) (h3:∀j b,i=j+1->l[j]? =ba b->bD side b.price x.price=ay):LvAt side l i:=by
 intro a ha;rw[hx]at ha;cases ha;exact⟨h1,h2,h3⟩
def yQh (i:SdI) (h:srightC.cnd i):z6h i:=by
 unfold z6h fA lL dI;have h:i.s.levels.length<=1099511627776:=h;refine⟨0,rfl,λj=>j<=i.s.levels.length/\∀k,k<j->LvAt i.side i.s.levels k,λj=>i.s.levels.length-j,⟨oM,by intro k hk;omega⟩,λj hj=>zI (λhlt=> ?_) (λhlt=> ?_)⟩
 ·obtain⟨hj1,hj2⟩:=hj;rw[y5z]at hlt ⊢;obtain⟨x,hx⟩:=getD (l:=i.s.levels) (i:=j) oM;have w1:ar.wrap ((j:Int)+1)=((j+1:Nat):Int):=by rw[w64 (by omega)];rfl
  have next:LvAt i.side i.s.levels j->(λj=>j<=i.s.levels.length/\∀k,k<j->LvAt i.side i.s.levels k) (j+1):=λhl=>⟨oM,λk hk=>by
   rcases y8h k j with h'|h'
   ·exact hj2 k h'
   ·obtain rfl:k=j:=by omega
    exact hl⟩
  refine⟨⟨oM,oM⟩,x.price,x.qty,x.count,yAs hx rfl,zI (λhq=> ?_) (λhq=>zI (λhc=> ?_) (λhc=>zI (λhp=> ?_) (λhp=> ?_)))⟩
  ·exact⟨(),sdF λhr=>by have:=(hr.1 j x hx).1;omega,trivial⟩
  ·exact⟨(),sdF λhr=>by have:=(hr.1 j x hx).2.1;omega,trivial⟩
  ·have w0:ar.wrap ((j:Int)-1)=((j-1:Nat):Int):=by rw[w64 (by omega)];omega
   obtain⟨y,hy⟩:=getD (l:=i.s.levels) (i:=j-1) oM;refine⟨⟨by rw[w0];omega,by rw[w0];omega⟩,y.price,by rw[w0];exact y2b (n:=1) hy (by show 0+0+1<=3;omega) rfl,⟨i.side,y.price,x.price⟩,rfl,rfl,rfl,trivial,λ_ _=> ?_⟩;refine Cv.cnd.mk (λhb=>⟨(),sdF λhr=> ?_,trivial⟩) (λhb=>⟨j+1,w1.symm,next (LvAt.of hx oM oM ?_),Z9,k0q⟩)
   ·have:=(hr.1 j x hx).2.2 (j-1) y oM hy;simp only[y9m]at hb;rw[hb]at this;cases this
   ·intro k b hk hb';obtain rfl:k=j-1:=by omega
    rw[hy]at hb';cases hb';simpa using hb
  ·exact⟨j+1,w1.symm,next (LvAt.of hx oM oM λk b hk _=>by omega),Z9,k0q⟩
 ·obtain⟨hj1,hj2⟩:=hj;rw[y5z]at hlt ⊢;obtain rfl:j=i.s.levels.length:=by omega
  have hall:∀k,LvAt i.side i.s.levels k:=λk=>by
   rcases y8h k i.s.levels.length with h'|h'
   ·exact hj2 k h'
   ·intro a ha;rw[y7c h']at ha;cases ha
  refine Cv.cnd.mk (λhh=>zI (λhl=>⟨(),?_,trivial⟩) (λhl=>⟨(),sdF λhr=>by have:=hr.2.1;omega,trivial⟩))
   (λhh=>zI (λhl=>zI (λhq=>⟨(),?_,trivial⟩) (λhq=>⟨(),sdF λhr=> ?_,trivial⟩)) (λhl=>⟨(),sdF λhr=>by have:=hr.2.1;omega,trivial⟩))
  ·have hh:i.s.has=ax:=by simpa using hh
   rw[xCc];simp only[jN,y7m,y6l,beq_iff_eq,and_true];constructor
   ·intro hr;have:=hr.2.2.2 hh;rw[this];exact⟨rfl,rfl,rfl⟩
   ·rintro⟨e1,e2,e3⟩;refine⟨hall,oM,(λhc=>by rw[hh]at hc;cases hc),λ_=> ?_⟩;cases hi:i.s.imp;rw[hi]at e1 e2 e3;simp_all
  ·have hh:i.s.has=ay:=by simpa using hh
   rw[xCc];simp only[jN,y7m];exact⟨λhr=>(hr.2.2.1 hh).2,λhc=>⟨hall,oM,λ_=>⟨hq,hc⟩,λhc=>by rw[hh]at hc;cases hc⟩⟩
  ·have hh:i.s.has=ay:=by simpa using hh
   have:=(hr.2.2.1 hh).1;omega
def yBq:srightC.ok Tryz.prog 119:=okw mixed (gokc zRz gok0) 0 (λ_=>[]) (λ_=>yLu) [] Tryz.func119 yQh
def vwF {v:Vw} (h:¬bH v):bG v=ax:=y6n h
def yQa (v:Vw) (h:rightVC.cnd v):z6e v:=by
 unfold z6e dI;obtain⟨h1,h2⟩:l5 v:=h;refine⟨0,rfl,λj=>j<=v.length/\∀k b,k<j->v[k]? =ba b->SdRight 1 b.1/\SdRight 2 b.2,λj=>v.length-j,⟨oM,by intro k b hk;omega⟩,λj hj=>zI (λhlt=> ?_) (λhlt=> ?_)⟩
 ·obtain⟨hj1,hj2⟩:=hj;rw[y5z]at hlt ⊢;obtain⟨x,hx⟩:=getD (l:=v) (i:=j) oM;have hm:=y6j hx;have w1:ar.wrap ((j:Int)+1)=((j+1:Nat):Int):=by rw[w64 (by omega)];rfl
  refine⟨⟨oM,oM⟩,_,_,_,_,_,_,_,_,_,_,yAs hx rfl,⟨1,x.1⟩,rfl,rfl,rfl,rfl,rfl,rfl,(h2 x hm).1,λ_ _=>Cv.cnd.mk (λhb=> ?_) (λhb=>⟨⟨2,x.2⟩,rF5 ⟨rfl,(h2 x hm).2,λ_ _=>Cv.cnd.mk (λhb2=> ?_) (λhb2=> ?_)⟩⟩)⟩
  ·refine⟨(),vwF λhr=> ?_,trivial⟩;simp only[y9m,jN,decide_eq_false_iff_not]at hb;exact hb (hr.1 x hm).1
  ·refine⟨(),vwF λhr=> ?_,trivial⟩;simp only[y9m,jN,decide_eq_false_iff_not]at hb2;exact hb2 (hr.1 x hm).2
  ·simp only[Bool.not_eq_false',jN,y7m]at hb hb2;refine⟨j+1,w1.symm,⟨oM,λk b hk hb'=> ?_⟩,Z9,k0q⟩;rcases y8h k j with h'|h'
   ·exact hj2 k b h' hb'
   ·obtain rfl:k=j:=by omega
    rw[hx]at hb';cases hb';exact⟨hb,hb2⟩
 ·obtain⟨hj1,hj2⟩:=hj;rw[y5z]at hlt ⊢;obtain rfl:j=v.length:=by omega
  refine⟨(),?_,trivial⟩;rw[xCc];simp only[bG,y7m];constructor
  ·intro hr;have:=hr.2;omega
  ·intro hr;refine⟨λb hb=> ?_,oM⟩;obtain⟨k,hk⟩:=xBn hb;exact hj2 k b (y6c.1 hk).1 hk
def yAr:rightVC.ok Tryz.prog 70:=okw mixed (gokc yBq gok0) 0 (λ_=>[]) (λ_=>yNd) [] Tryz.func70 yQa
def yOx:putLC.ok Tryz.prog 71:=okw (V:=y0p) mixed (gokc zUl gok0) 0 (λ_=>[]) (λ_=>[]) [] Tryz.func71 λ(i:z4b) h=>by
 have h:i.l.length+24<=1099511627776:=h;refine⟨⟨i.l,i.v.price⟩,rfl,rfl,(show i.l.length+8<=1099511627776 by omega),λ_ _=>⟨⟨i.l++le i.v.price 8,i.v.qty⟩,rfl,rfl,?_,λ_ _=>⟨⟨i.l++le i.v.price 8++le i.v.qty 8,i.v.count⟩,rfl,rfl,?_,λ_ _=>⟨(),?_,trivial⟩⟩⟩⟩
 ·show _+8<=_;rw[y5y,xV];omega
 ·show _+8<=_;rw[y5y,y5y,xV,xV];omega
 ·simp only[kZ,y6f]
def zNf {α:Type} {f:α->List UInt8} {c:Nat}:∀{l:List α},(∀x∈l,(f x).length<=c)->(l.flatMap f).length<=c*l.length
 |[],_=>by simp
 |a::l,h=>by
  have h1:=h a (by simp);have h2:=zNf (l:=l) λx hx=>h x (by simp[hx])
  simp only[y7t,y5y,y6d,Nat.mul_add,Nat.mul_one];omega
def nS {α β:Type} {f:α->List β} {l:List α} {k:Nat} {x:α} (h:l[k]? =ba x):(l.take (k+1)).flatMap f=(l.take k).flatMap f++f x:=by
 rw[y7h,h];simp
def zRq (l:Lv):(kZ l).length=24:=by simp[kZ,xV]
def rR (l:List Lv):(l.flatMap kZ).length<=24*l.length:=zNf λx _=>by rw[zRq];omega
def zJn {s:Sd} (h:s.levels.length<=255):(zEh s).length<=6146:=by
 have:=rR s.levels;unfold zEh;rw[y5y,y5y,y8a];split
 ·rw[y5y,zRq,y8a];omega
 ·rw[y8a];omega
def SdRight.len {n:Int} {s:Sd} (h:SdRight n s):s.levels.length<=255:=h.2.1
def z1k {v:Vw} (h:bH v) (j:Nat):((v.take j).flatMap wW).length<=3134460:=by
 have h1:∀x∈v.take j,(wW x).length<=12292:=λx hx=>by
  have:=h.1 x (xAs hx);have a:=zJn this.1.len;have b:=zJn this.2.len;unfold wW;rw[y5y];omega
 have h2:=zNf h1;have h3:=h.2;rw[y6t]at h2;omega
def yCz (n:Int):0<=av.wrap n/\av.wrap n<4294967296:=by
 have:av.wrap n=n % 4294967296:=rfl;rw[this];omega
def tT (l:List UInt8):0<=mB l/\mB l<4294967296:=yCz _
def y5c (i:zQx) (h:encC.cnd i):y3e i:=by
 unfold y3e z5c zPu zWw zMr uB pG dI;refine⟨i.v,rfl,h,λ_ _=>Cv.cnd.mk (λe=> ?_) (λe=> ?_)⟩
 ·have hn:¬bH i.v:=by simpa[bG]using e
  exact⟨(),by rw[cT,y5x hn];rfl,by rw[zOb,y5x hn],trivial⟩
 have hr:bH i.v:=by simpa[bG]using e
 have hB:∀j,(le i.seq 8++[lob i.v.length]++(i.v.take j).flatMap wW).length<=3134470:=λj=>by
  have:=z1k hr j;simp only[y5y,xV,y6d,y7s];omega
 refine⟨(),trivial,λ_ _=>⟨⟨[],i.seq⟩,rfl,rfl,(show 0+8<=1099511627776 by omega),λ_ _=>⟨⟨le i.seq 8,i.v.length⟩,by rw[y5z],rfl,(show(le i.seq 8).length+8<=1099511627776 by rw[xV];omega),λ_ _=>⟨0,rfl,by simp,λj=>j<=i.v.length,λj=>i.v.length-j,Z9,λj hj=>zI (λhlt=> ?_) (λhlt=> ?_)⟩⟩⟩⟩
 ·dsimp only at hj;rw[y5z]at hlt ⊢;obtain⟨x,hx⟩:=getD (l:=i.v) (i:=j) oM;have hm:=hr.1 x (y6j hx);have l1:=hm.1.len;have l2:=hm.2.len;have hl:=hr.2;have w1:ar.wrap ((j:Int)+1)=((j+1:Nat):Int):=by rw[w64 (by omega)];rfl
  have hBj:=hB j;have hBs:le i.seq 8++[lob i.v.length]++(i.v.take (j+1)).flatMap wW=le i.seq 8++[lob i.v.length]++(i.v.take j).flatMap wW++wW x:=by
   rw[nS hx];simp only[y6f]
  generalize hb:le i.seq 8++[lob i.v.length]++(i.v.take j).flatMap wW=B at hBj hBs;have lv:∀(C:List UInt8) (l:List Lv) (k:Nat),C.length<=5000000->l.length<=255->((C++(l.take k).flatMap kZ).length+24<=1099511627776):=λC l k hC hl=>by
   have:=rR (l.take k);rw[y5y];rw[y6t]at this;omega
  have lw:∀(k:Nat),k<255->ar.wrap ((k:Int)+1)=((k+1:Nat):Int):=λk hk=>by rw[w64 (by omega)];rfl
  have le1:=rR x.1.levels;have le2:=rR x.2.levels;refine⟨⟨oM,oM⟩,_,_,_,_,_,_,_,_,_,_,yAs hx rfl,⟨B,x.1.levels.length⟩,by rw[y5z],rfl,by show B.length+8<=_;omega,λ_ _=>⟨(B++[lob x.1.levels.length],x.1.levels,0),rfl,by simp,λy=>∃k,k<=x.1.levels.length/\y=(B++[lob x.1.levels.length],x.1.levels,k),λy=>x.1.levels.length-y.2.2,⟨0,oM,k0q⟩,?_⟩⟩;rintro _ ⟨k,hk,rfl⟩;dsimp only;refine zI (λhlt1=> ?_) (λhlt1=> ?_)
  ·rw[y5z]at hlt1 ⊢;obtain⟨y,hy⟩:=getD (l:=x.1.levels) (i:=k) oM;refine⟨⟨oM,oM⟩,_,_,_,yAs hy rfl,⟨_,y⟩,rfl,rfl,rfl,rfl,lv _ _ _ (by rw[y5y];simp;omega) l1,λ_ _=>⟨(_,_,k+1),(lw k oM).symm,?_,⟨k+1,oM,k0q⟩,Z9,k0q⟩⟩;dsimp only;rw[nS hy];simp only[y6f]
  ·rw[y5z]at hlt1;obtain rfl:k=x.1.levels.length:=by omega
   rw[y6k (y6v _)];have e1:zEh x.1=[lob x.1.levels.length]++x.1.levels.flatMap kZ++(if x.1.has then[lob 1]++kZ x.1.imp else[lob 0]):=rfl;have e2:zEh x.2=[lob x.2.levels.length]++x.2.levels.flatMap kZ++(if x.2.has then[lob 1]++kZ x.2.imp else[lob 0]):=rfl;have bl:∀C:List UInt8,C=B++zEh x.1->C.length<=4000000:=λC e=>by
    subst e;have:=zJn l1;rw[y5y];omega
   refine Cv.cnd.mk (λhh=> ?_) (λhh=> ?_)
   ·have hh:x.1.has=ax:=by simpa using hh
    rw[hh,y5x (by simp)]at e1;refine⟨⟨B++[lob x.1.levels.length]++x.1.levels.flatMap kZ,0⟩,rfl,rfl,(by dsimp only[WN.ok];simp only[y5y,y6d,y7s];omega),λ_ _=> ?_⟩;have eC:B++[lob x.1.levels.length]++x.1.levels.flatMap kZ++[lob 0]=B++zEh x.1:=by rw[e1];simp only[y6f]
    generalize B++[lob x.1.levels.length]++x.1.levels.flatMap kZ++[lob 0]=C at eC
    (
    have hC:=bl C eC;refine⟨⟨C,x.2.levels.length⟩,by rw[y5z],rfl,(show C.length+8<=1099511627776 by omega),λ_ _=>⟨(C++[lob x.2.levels.length],x.2.levels,0),rfl,by simp,λy=>∃k,k<=x.2.levels.length/\y=(C++[lob x.2.levels.length],x.2.levels,k),λy=>x.2.levels.length-y.2.2,⟨0,oM,k0q⟩,?_⟩⟩;rintro _ ⟨k,hk,rfl⟩;dsimp only;refine zI (λhlt2=> ?_) (λhlt2=> ?_)
    ·rw[y5z]at hlt2 ⊢;obtain⟨y,hy⟩:=getD (l:=x.2.levels) (i:=k) oM;refine⟨⟨oM,oM⟩,_,_,_,yAs hy rfl,⟨_,y⟩,rfl,rfl,rfl,rfl,lv _ _ _ (by rw[y5y];simp;omega) l2,λ_ _=>⟨(_,_,k+1),(lw k oM).symm,?_,⟨k+1,oM,k0q⟩,Z9,k0q⟩⟩;dsimp only;rw[nS hy];simp only[y6f]
    ·rw[y5z]at hlt2;obtain rfl:k=x.2.levels.length:=by omega
     rw[y6k (y6v _)];refine Cv.cnd.mk (λhh2=> ?_) (λhh2=> ?_)
     ·have hh2:x.2.has=ax:=by simpa using hh2
      rw[hh2,y5x (by simp)]at e2;refine⟨⟨C++[lob x.2.levels.length]++x.2.levels.flatMap kZ,0⟩,rfl,rfl,(by dsimp only[WN.ok];simp only[y5y,y6d,y7s];omega),λ_ _=>⟨j+1,w1.symm,?_,oM,oM,k0q⟩⟩;rw[hBs,wW,<- y6f,<- eC,e2];simp only[y6f]
     ·have hh2:x.2.has=ay:=by simpa using hh2
      rw[hh2,y6a rfl]at e2;refine⟨⟨C++[lob x.2.levels.length]++x.2.levels.flatMap kZ,1⟩,rfl,rfl,(by dsimp only[WN.ok];simp only[y5y,y6d,y7s];omega),λ_ _=>⟨⟨_,x.2.imp⟩,rfl,rfl,rfl,rfl,(by simp only[y5y,y6d,y7s];omega),λ_ _=>⟨j+1,w1.symm,?_,oM,oM,k0q⟩⟩⟩;rw[hBs,wW,<- y6f,<- eC,e2];simp only[y6f])
   ·have hh:x.1.has=ay:=by simpa using hh
    rw[hh,y6a rfl]at e1;refine⟨⟨B++[lob x.1.levels.length]++x.1.levels.flatMap kZ,1⟩,rfl,rfl,(by dsimp only[WN.ok];simp only[y5y,y6d,y7s];omega),λ_ _=>⟨⟨_,x.1.imp⟩,rfl,rfl,rfl,rfl,(by simp only[y5y,y6d,y7s];omega),λ_ _=> ?_⟩⟩;have eC:B++[lob x.1.levels.length]++x.1.levels.flatMap kZ++[lob 1]++kZ x.1.imp=B++zEh x.1:=by rw[e1];simp only[y6f]
    generalize B++[lob x.1.levels.length]++x.1.levels.flatMap kZ++[lob 1]++kZ x.1.imp=C at eC
    (
    have hC:=bl C eC;refine⟨⟨C,x.2.levels.length⟩,by rw[y5z],rfl,(show C.length+8<=1099511627776 by omega),λ_ _=>⟨(C++[lob x.2.levels.length],x.2.levels,0),rfl,by simp,λy=>∃k,k<=x.2.levels.length/\y=(C++[lob x.2.levels.length],x.2.levels,k),λy=>x.2.levels.length-y.2.2,⟨0,oM,k0q⟩,?_⟩⟩;rintro _ ⟨k,hk,rfl⟩;dsimp only;refine zI (λhlt2=> ?_) (λhlt2=> ?_)
    ·rw[y5z]at hlt2 ⊢;obtain⟨y,hy⟩:=getD (l:=x.2.levels) (i:=k) oM;refine⟨⟨oM,oM⟩,_,_,_,yAs hy rfl,⟨_,y⟩,rfl,rfl,rfl,rfl,lv _ _ _ (by rw[y5y];simp;omega) l2,λ_ _=>⟨(_,_,k+1),(lw k oM).symm,?_,⟨k+1,oM,k0q⟩,Z9,k0q⟩⟩;dsimp only;rw[nS hy];simp only[y6f]
    ·rw[y5z]at hlt2;obtain rfl:k=x.2.levels.length:=by omega
     rw[y6k (y6v _)];refine Cv.cnd.mk (λhh2=> ?_) (λhh2=> ?_)
     ·have hh2:x.2.has=ax:=by simpa using hh2
      rw[hh2,y5x (by simp)]at e2;refine⟨⟨C++[lob x.2.levels.length]++x.2.levels.flatMap kZ,0⟩,rfl,rfl,(by dsimp only[WN.ok];simp only[y5y,y6d,y7s];omega),λ_ _=>⟨j+1,w1.symm,?_,oM,oM,k0q⟩⟩;rw[hBs,wW,<- y6f,<- eC,e2];simp only[y6f]
     ·have hh2:x.2.has=ay:=by simpa using hh2
      rw[hh2,y6a rfl]at e2;refine⟨⟨C++[lob x.2.levels.length]++x.2.levels.flatMap kZ,1⟩,rfl,rfl,(by dsimp only[WN.ok];simp only[y5y,y6d,y7s];omega),λ_ _=>⟨⟨_,x.2.imp⟩,rfl,rfl,rfl,rfl,(by simp only[y5y,y6d,y7s];omega),λ_ _=>⟨j+1,w1.symm,?_,oM,oM,k0q⟩⟩⟩;rw[hBs,wW,<- y6f,<- eC,e2];simp only[y6f])
 ·dsimp only at hj;rw[y5z]at hlt;obtain rfl:j=i.v.length:=by omega
  have hBj:=hB i.v.length;rw[y6k (y6v _)]at hBj ⊢;have hc:=tT (cY i.v i.seq);have hl:(cY i.v i.seq).length<=3134470:=hBj;have hl2:(cY i.v i.seq++le (mB (cY i.v i.seq)) 4).length<=1099511627776:=by rw[y5y,xV];omega
  exact⟨cY i.v i.seq,rfl,oM,λ_ _=>⟨cY i.v i.seq,rfl,oM,λ_ _=>⟨⟨cY i.v i.seq,_⟩,rfl,rfl,⟨Z9,hc.1,hc.2⟩,λ_ _=>⟨_,rfl,hl2,λ_ _=>⟨(),by rw[cT,y6a hr];rfl,by rw[zOb,y6a hr],trivial⟩⟩⟩⟩⟩
def yYb:encC.ok Tryz.prog 26:=okw mixed (gokc yAr (gokc zUn (gokc zUl (gokc zLm (gokc yOx (gokc zVd (gokc z5w (gokc yFx gok0)))))))) 0 (λ_=>[]) (λi=>y3i i) [] Tryz.func26 y5c
@[reducible] def tBy:Nat:=32
def rcE (l:List UInt8):List D:=[.ro 1 (bE l)]
def growC:Con:=con1 Nat (λn=>[.d (.v (.slice bc 0 0)),zA n]) (λ_=>[]) (λn=>1<=n/\n<=1099511627776) (λ_=> .own 0) (λ_=>[.own tU8 1 []])
def flatC:Con:=con1 (List (List UInt8)) (λls=>[roV 1 (ls.map rcE)]) (λ_=>[]) (λls=>1<=ls.flatten.length/\ls.flatten.length<=1099511627776/\ls.length<=1000) (λ_=> .own 0) (λls=>[.own tU8 1 (bE ls.flatten)])
def yQq (ls:List (List UInt8)):List SAnn:=[
 {ι:=Nat,slots:=λk=>[(3,zA (ls.take k).flatten.length),(11,zA k)],rows:=λ_=>[]},
 {ι:=Nat,slots:=λk=>[(6,.own 0),(27,zA k)],rows:=λk=>[.own tU8 1 (bE (ls.take k).flatten)]}]
structure Dk where
 b:List UInt8
 safe:Nat
def DkU (d:Dk):Nat->AObj
 |0=> .cells [.own 1,zA d.safe] 101
 |1=> .own tU8 1 (bE d.b)
 |_=> .gone
def DkR (d:Dk):AObj:= .adt Dk 2 DkU d
@[reducible] def Dk.ok (d:Dk):Prop:=d.safe<=d.b.length/\d.b.length<=1048576
structure DbI where
 d:Dk
 l:List UInt8
def dnewC:Con:=con1 Unit (λ_=>[]) (λ_=>[]) (λ_=>True) (λ_=> .nm 0 0) (λ_=>[DkR ⟨[],0⟩])
def dappC:Con:=con1 DbI (λi=>[.nm 0 0,roV 1 (bE i.l)]) (λi=>[DkR i.d]) (λi=>i.d.b.length+i.l.length<=1048576) (λ_=>zA 0) (λi=>[DkR ⟨i.d.b++i.l,i.d.safe⟩])
def dbytC:Con:=con1 Dk (λ_=>[.nm 0 0]) (λd=>[DkR d]) (λd=>d.ok) (λ_=> .own 1) (λd=>[DkR d,.own tU8 1 (bE d.b)])
def cloneBN:Con:=con1 (List (List D)) (λl=>[roV 1 l]) (λ_=>[]) (λl=>l.length<=140737488355328) (λ_=> .own 0) (λl=>[.own tU8 1 l])
def dswpC:Con:=con1 DbI (λi=>[.nm 0 0,roV 1 (bE i.l)]) (λi=>[DkR i.d]) (λi=>i.l.length<=1048576) (λ_=>zA 0) (λi=>[DkR ⟨i.l,i.l.length⟩])
def kF (l:List UInt8):List UInt8:=lob l.length::UInt8.ofNat (255-l.length)::(l++le (mB l) 4)
def frameC:Con:=con1 (List UInt8) (λl=>[roV 1 (bE l)]) (λ_=>[]) (λl=>l.length<=255) (λ_=> .tup [.own 0,zA 0]) (λl=>[.own tU8 1 (bE (kF l))])
def yUg:List (Nat×SAnn):=[(20,{ι:=Unit,slots:=λ_=>[],rows:=λ_=>[],opn:=[4]})]
def zCd (l:List UInt8):List UInt8×Nat×Int:=
 if l.length<2 then([],0,10)else if(l.getD 1 0).toNat≠255-(l.getD 0 0).toNat then([],0,14)else
 if l.length<6+(l.getD 0 0).toNat then([],0,10)else
 if qL ((l.drop (2+(l.getD 0 0).toNat)).take 4)≠mB ((l.drop 2).take (l.getD 0 0).toNat)then([],0,14)else
 ((l.drop 2).take (l.getD 0 0).toNat,6+(l.getD 0 0).toNat,0)
structure OpI where
 b:List UInt8
 k:Nat
def OpI.x (i:OpI):List UInt8×Nat×Int:=zCd (i.b.drop i.k)
def z5u:V:= .d (.v (.slice bc 0 0))
def wopC:Con where
 ι:=OpI
 pat:=λi=>[roV 1 (bE i.b),zA i.k]
 pre:=λ_=>[]
 cnd:=λi=>i.k<=i.b.length/\i.b.length<=1099511627776
 alts:=λi=>[{o:=Unit,res:=λ_=> .tup [.own 0,zA (i.k+i.x.2.1),zA 0],post:=λ_=>[.own tU8 1 (bE i.x.1)],rel:=λ_=>i.x.2.2=0},
  {o:=Unit,res:=λ_=> .tup [z5u,zA 0,zA i.x.2.2],post:=λ_=>[],rel:=λ_=>i.x.2.2≠0}]
def fsB (L:List (List UInt8)):List UInt8:=L.flatMap kF
structure ScI where
 L:List (List UInt8)
 t:List UInt8
@[reducible] def ScI.ok (i:ScI):Prop:=(∀l∈i.L,l.length<=255)/\(zCd i.t).2.2=10/\(fsB i.L).length+i.t.length<=1048576
@[reducible] def rcR (L:List (List UInt8)):AObj:= .own tBy 1 (L.map rcE)
def scanC:Con:=con1 ScI (λi=>[roV 1 (bE (fsB i.L++i.t))]) (λ_=>[]) (λi=>i.ok) (λi=> .tup [.own 0,zA (fsB i.L).length,zA 0]) (λi=>[rcR i.L])
def y2j (i:ScI):List SAnn:=[{ι:=Nat,slots:=λk=>[(5,.own 0),(6,zA (fsB (i.L.take k)).length)],rows:=λk=>[rcR (i.L.take k)]}]
def jnR (d:Nat) (n:Int):AObj:= .cells [.nm d 0,zA n] 183
structure JoI where
 s:Nat
 L:List (List UInt8)
 t:List UInt8
def JoI.d (i:JoI):Dk:=⟨fsB i.L++i.t,i.s⟩
def JoI.d' (i:JoI):Dk:=if i.t=[]then i.d else⟨fsB i.L,(fsB i.L).length⟩
def jopC:Con:=con1 JoI (λ_=>[.nm 0 0]) (λi=>[DkR i.d]) (λi=>(ScI.mk i.L i.t).ok/\i.d.ok) (λ_=> .tup [.nm 1 0,.own 2,zA 0]) (λi=>[DkR i.d',jnR 0 i.L.length,rcR i.L])
structure JaI where
 d:Dk
 n:Int
 l:List UInt8
def jappC:Con:=con1 JaI (λi=>[.nm 0 0,roV 1 (bE i.l)]) (λi=>[jnR 1 i.n,DkR i.d]) (λi=>i.l.length<=255/\i.d.b.length+i.l.length+6<=1048576/\0<=i.n/\i.n<=1048576) (λ_=>zA 0) (λi=>[jnR 1 (i.n+1),DkR ⟨i.d.b++kF i.l,i.d.safe⟩])
def bQ (a:Nat) (b:List (List UInt8)):=(↑(ak a b).flatten.length:Int)
def z8h (ls:List (List UInt8)):Prop:=
 ∃(a:Nat),(bQ a ls)=0/\(↑a:Int)=0/\∃(b:Nat->Prop),∃(c:Nat->Nat),b a/\∀(d:Nat),b d->cnd (decide ((↑d:Int)<(↑(aj rcE ls).length:Int))) ((0<=(↑d:Int)/\(↑d:Int)<(↑(aj rcE ls).length:Int))/\∃(e:List (List D)),zE (aj rcE ls) (↑d:Int).toNat 0 1=ba [D.ro 1 e]/\cnd (decide (ar.wrap ((bQ d ls)+(↑e.length:Int))<0)) False (∃(f:Nat),(bQ f ls)=ar.wrap ((bQ d ls)+(↑e.length:Int))/\kT f d b c)) (∃(e:Nat),True/\(↑e:Int)=(bQ d ls)/\(1<=e/\e<=1099511627776)/\∀(f:Unit),True->∃(g:Nat),(↑g:Int)=0/\bE (ak g ls).flatten=[]/\∃(h:Nat->Prop),∃(j:Nat->Nat),h g/\∀(k:Nat),h k->cnd (decide ((↑k:Int)<(↑(aj rcE ls).length:Int))) ((0<=(↑k:Int)/\(↑k:Int)<(↑(aj rcE ls).length:Int))/\∃(l:List (List D)),zE (aj rcE ls) (↑k:Int).toNat 0 1=ba [D.ro 1 l]/\((bE (ak k ls).flatten).length+l.length)*(1:Nat)<=(140737488355328:Nat)/\∃(m:Nat),(↑m:Int)=ar.wrap ((↑k:Int)+1)/\bE (ak m ls).flatten=bE (ak k ls).flatten++l/\h m/\j m<j k/\True) (∃(l:Unit),bE ls.flatten=bE (ak k ls).flatten/\True))
def yTh (ls:List (List UInt8)):z8h ls=walk Tryz.prog ([(100,growC)]) 0 ([]) (yQq ls) [] Tryz.f43 (Tryz.f43.body.getD .skip) (flatC.pat ls) (flatC.pre ls) (flatC.alts ls):=by kernel_rfl
def yWi (hG:GOk Tryz.prog ([(100,growC)])) (h:∀(ls:List (List UInt8)),flatC.cnd ls->z8h ls):flatC.ok Tryz.prog 43:=wT mixed ([(100,growC)]) hG 0 (λ(ls:List (List UInt8))=>[]) (λ(ls:List (List UInt8))=>yQq ls) [] Tryz.func43 (by kernel_rfl) (by kernel_rfl) (by kernel_rfl) (λ_=>by kernel_rfl) (λ(ls:List (List UInt8)) hc=>Eq.mp (yTh ls) (h ls hc))
def y2g (u:Unit):Prop:=
 ∃(o:Unit),(↑(0:Nat):Int)=0/\bE []=[]/\True
def ySs (i:DbI):Prop:=
 cnd (decide ((↑(bE i.l).length:Int)>ar.wrap (1048576-(↑(bE i.d.b).length:Int)))) (∃(a:Unit),(0:Int)=(13:Int)/\dh ((↑i.d.safe:Int))/\bE (i.d.b++i.l)=bE i.d.b/\True) (((bE i.d.b).length+(bE i.l).length)*(1:Nat)<=(140737488355328:Nat)/\∃(a:Unit),dh ((0:Int))/\dh ((↑i.d.safe:Int))/\bE (i.d.b++i.l)=bE i.d.b++bE i.l/\True)
def y2n (d:Dk):Prop:=
 ∃(i:List (List D)),i=bE d.b/\i.length*(1:Nat)<=(140737488355328:Nat)/\∀(o:Unit),True->∃(o:Unit),dh ((↑d.safe:Int))/\bE d.b=i/\bE d.b=i/\True
def zZu (i:List (List D)):Prop:=
 ∀(b:Bool),(b=ay->i=[])->cnd b (∃(o:Unit),i=[]/\True) ((0+i.length)*(1:Nat)<=(140737488355328:Nat)/\∃(o:Unit),i=[]++i/\True)
def yDa (i:List (List D)):zZu i=walk Tryz.prog ([]) 0 ([]) ([]) [] Tryz.f116 (Tryz.f116.body.getD .skip) (cloneBN.pat i) (cloneBN.pre i) (cloneBN.alts i):=by kernel_rfl
def yAu (hG:GOk Tryz.prog ([])) (h:∀(i:List (List D)),cloneBN.cnd i->zZu i):cloneBN.ok Tryz.prog 116:=wT mixed ([]) hG 0 (λ(i:List (List D))=>[]) (λ(i:List (List D))=>[]) [] Tryz.func116 (by kernel_rfl) (by kernel_rfl) (by kernel_rfl) (λ_=>by kernel_rfl) (λ(i:List (List D)) hc=>Eq.mp (yDa i) (h i hc))
def ySl (i:DbI):Prop:=
 cnd (decide ((↑(bE i.l).length:Int)>1048576)) (∃(a:Unit),(0:Int)=(13:Int)/\(↑i.l.length:Int)=(↑i.d.safe:Int)/\bE i.l=bE i.d.b/\True) (∃(a:List (List D)),a=bE i.l/\a.length<=140737488355328/\∀(b:Unit),True->∃(c:Unit),dh ((0:Int))/\(↑i.l.length:Int)=(↑a.length:Int)/\bE i.l=a/\True)
def yGr (l:List UInt8):Prop:=
 cnd (decide ((↑(bE l).length:Int)>255)) (∃(a:Unit),(0:Int)=(3:Int)/\bE (kF l)=[]/\True) (∃(a:Unit),True/\∀(b:Unit),True->∃(c:WN),c.n=(↑(bE l).length:Int)/\aa (List UInt8) 2 WrU c.l=aa (List UInt8) 2 WrU []/\c.ok/\∀(d:Unit),True->∃(e:WN),e.n=ar.wrap (↑(cf ar.bits (if ar.signed=ay then(-1:Int)else ar.max) ^^^ cf ar.bits (↑(bE l).length:Int)).toNat:Int)/\aa (List UInt8) 2 WrU e.l=aa (List UInt8) 2 WrU (c.l++[lob c.n])/\e.ok/\∀(f:Unit),True->((bE (e.l++[lob e.n])).length+(bE l).length)*(1:Nat)<=(140737488355328:Nat)/\∃(g:List UInt8),bE g=bE l/\g.length<=1099511627776/\∀(h:Unit),True->∃(j:WN),j.n=mB g/\bE j.l=bE (e.l++[lob e.n])++bE l/\(j.l.length+(8:Nat)<=(1099511627776:Nat)/\0<=j.n/\j.n<4294967296)/\∀(k:Unit),True->∃(m:List UInt8),aa (List UInt8) 2 WrU m=aa (List UInt8) 2 WrU (j.l++le j.n 4)/\m.length<=1099511627776/\∀(n:Unit),True->∃(p:Unit),dh ((0:Int))/\bE (kF l)=bE m/\True)
def zMs (a:OpI):Prop:=(∃(b:Unit),(↑a.k:Int)+(↑a.x.snd.fst:Int)=(0:Int)/\(0:Int)=10/\bE a.x.fst=[]/\a.x.snd.snd=0)\/∃(o:Unit),True/\dh ((0:Int))/\a.x.snd.snd=10/\(a.x.snd.snd=0->False)
def aJ (a:OpI):=(ap (↑a.k:Int).toNat (bE a.b))
def cN (a:OpI):=(↑(aJ a).length:Int)
def fP (a:Int):=(2+ar.wrap a)
def zMb (a:Int) (b:OpI):Prop:=(0:Int)<=(2:Int)/\2<=ar.wrap (fP a)/\ar.wrap (fP a)<=(cN b)
def zEk (a:Int) (b:OpI):=(ak (ar.wrap (fP a)).toNat (aJ b))
def eJ (a:Int):=(ar.wrap (fP a)+4)
def y2m (i:OpI):Prop:=
 cnd (decide ((↑i.k:Int)>(↑(bE i.b).length:Int))) ((∃(a:Unit),(↑i.k:Int)+(↑i.x.snd.fst:Int)=(0:Int)/\(0:Int)=1/\bE i.x.fst=[]/\i.x.snd.snd=0)\/∃(o:Unit),True/\dh ((0:Int))/\i.x.snd.snd=1/\(i.x.snd.snd=0->False)) ((0<=(↑i.k:Int)/\(↑i.k:Int)<=(↑(bE i.b).length:Int))/\cnd (decide ((cN i)<2)) (zMs i) (((0:Int)<=(1:Int)/\1<(cN i))/\∃(a:Int),zE (aJ i) (bo 1) 0 1=ba [D.v (.int .u8 a)]/\((0:Int)<=(0:Int)/\0<(cN i))/\∃(b:Int),zE (aJ i) (bo 0) 0 1=ba [D.v (.int .u8 b)]/\cnd (a !=aw.wrap (↑(cf aw.bits (if aw.signed=ay then(-1:Int)else aw.max) ^^^ cf aw.bits b).toNat:Int)) ((∃(c:Unit),(↑i.k:Int)+(↑i.x.snd.fst:Int)=(0:Int)/\(0:Int)=14/\bE i.x.fst=[]/\i.x.snd.snd=0)\/∃(o:Unit),True/\dh ((0:Int))/\i.x.snd.snd=14/\(i.x.snd.snd=0->False)) (((0:Int)<=(0:Int)/\0<(cN i))/\∃(c:Int),zE (aJ i) (bo 0) 0 1=ba [D.v (.int .u8 c)]/\cnd (decide ((cN i)<ar.wrap (eJ c))) (zMs i) ((0<=ar.wrap (fP c)/\ar.wrap (fP c)<=ar.wrap (eJ c)/\ar.wrap (eJ c)<=(cN i))/\∃(d:List UInt8),bE d=ap (ar.wrap (fP c)).toNat (ak (ar.wrap (eJ c)).toNat (aJ i))/\d.length<=1099511627776/\∀(e:Unit),True->(zMb c i)/\∃(f:RN),(↑f.n:Int)=4/\aa (List UInt8×Bool) 1 RdU (f.l,f.b)=aa (List UInt8×Bool) 1 RdU (d,ax)/\(f.n<=8/\f.l.length<=1099511627776)/\∀(g:Unit),True->∃(h:List UInt8),bE h=ap (bo 2) (zEk c i)/\h.length<=1099511627776/\∀(j:Unit),True->cnd (av.wrap (qL f.got) !=mB h) ((∃(k:Unit),(↑i.k:Int)+(↑i.x.snd.fst:Int)=(0:Int)/\(0:Int)=14/\bE i.x.fst=[]/\i.x.snd.snd=0)\/∃(j:Unit),True/\dh ((0:Int))/\i.x.snd.snd=14/\(i.x.snd.snd=0->False)) ((zMb c i)/\(0+(ap (bo 2) (zEk c i)).length)*(1:Nat)<=(140737488355328:Nat)/\((∃(k:Unit),(↑i.k:Int)+(↑i.x.snd.fst:Int)=ar.wrap (ar.wrap ((↑i.k:Int)+ar.wrap (fP c))+4)/\dh ((0:Int))/\bE i.x.fst=[]++ap (bo 2) (zEk c i)/\i.x.snd.snd=0)\/∃(j:Unit),False))))))
def fJ (a:Nat) (b:ScI):=(↑(fsB (ak a b.L)).length:Int)
def zIb (a:ScI) (b:Nat):Prop:=∃(c:Unit),(↑(fsB a.L).length:Int)=(fJ b a)/\dh ((0:Int))/\aj rcE a.L=aj rcE (ak b a.L)/\True
def yQx (i:ScI):Prop:=
 ∃(a:Nat),(fJ a i)=0/\aj rcE (ak a i.L)=[]/\∃(b:Nat->Prop),∃(c:Nat->Nat),b a/\∀(d:Nat),b d->cnd (decide ((fJ d i)<(↑(bE (fsB i.L++i.t)).length:Int))) (∃(e:OpI),bE e.b=bE (fsB i.L++i.t)/\(↑e.k:Int)=(fJ d i)/\(e.k<=e.b.length/\e.b.length<=1099511627776)/\(∀(f:Unit),e.x.snd.snd=0->((aj rcE (ak d i.L)).length+1)*(24:Nat)<=(140737488355328:Nat)/\∃(g:Nat),(fJ g i)=(↑e.k:Int)+(↑e.x.snd.fst:Int)/\aj rcE (ak g i.L)=aj rcE (ak d i.L)++[[D.ro 1 (bE e.x.fst)]]/\b g/\c g<c d/\True)/\∀(f:Unit),e.x.snd.snd≠0->cnd (e.x.snd.snd==0) (((aj rcE (ak d i.L)).length+1)*(24:Nat)<=(140737488355328:Nat)/\∃(g:Nat),(fJ g i)=0/\aj rcE (ak g i.L)=aj rcE (ak d i.L)++[[D.ro 1 []]]/\b g/\c g<c d/\True) (cnd (e.x.snd.snd==10) (zIb i d) (∃(g:Unit),(↑(fsB i.L).length:Int)=(fJ d i)/\(0:Int)=(14:Int)/\aj rcE i.L=aj rcE (ak d i.L)/\True))) (zIb i d)
def y0g (i:JoI):Prop:=
 ∃(a:Dk),DkR a=DkR i.d/\(a.safe<=a.b.length/\a.b.length<=1048576)/\∀(b:Unit),True->∃(c:ScI),bE (fsB c.L++c.t)=bE a.b/\((∀(d:List UInt8),d∈c.L->d.length<=255)/\(zCd c.t).snd.snd=10/\(fsB c.L).length+c.t.length<=1048576)/\∀(d:Unit),True->cnd (decide ((↑(fsB c.L).length:Int)<(↑(bE a.b).length:Int))) ((0<=(↑(fsB c.L).length:Int)/\(↑(fsB c.L).length:Int)<=(↑(bE a.b).length:Int))/\∃(e:DbI),bE e.l=ak (↑(fsB c.L).length:Int).toNat (bE a.b)/\DkR e.d=DkR a/\e.l.length<=1048576/\∀(f:Unit),True->∃(g:Unit),dh ((0:Int))/\DkR i.d'=DkR (Dk.mk e.l e.l.length)/\(↑i.L.length:Int)=(↑(aj rcE c.L).length:Int)/\aj rcE i.L=aj rcE c.L/\True) (∃(e:Unit),dh ((0:Int))/\DkR i.d'=DkR a/\(↑i.L.length:Int)=(↑(aj rcE c.L).length:Int)/\aj rcE i.L=aj rcE c.L/\True)
def yZz (i:JaI):Prop:=
 ∃(i_1:List UInt8),bE i_1=bE i.l/\i_1.length<=255/\∀(o:Unit),True->∃(i_2:DbI),bE i_2.l=bE (kF i_1)/\aa Dk 2 DkU i_2.d=DkR i.d/\i_2.d.b.length+i_2.l.length<=1048576/\∀(o:Unit),True->∃(o:Unit),dh ((0:Int))/\i.n+1=ar.wrap (i.n+1)/\aa Dk 2 DkU (Dk.mk (i.d.b++kF i.l) i.d.safe)=aa Dk 2 DkU (Dk.mk (i_2.d.b++i_2.l) i_2.d.safe)/\True
def sb (l:List UInt8):ByteArray:=⟨l.toArray⟩
@[reducible] def sV (l:List UInt8):V:= .d (.v (.string (sb l)))
def zNt (l:List UInt8):Nat×Nat:=bg (sb l) 0
def zAm:Nat->Nat->List UInt8->List (Nat×Nat)
 |0,_,_=>[]
 |k+1,p,l=>match l with
  |[]=>[]
  |_=>(p,(zNt l).1)::zAm k (p+(zNt l).2) (l.drop (zNt l).2)
def uZ (s:List UInt8) (p:Nat):List (Nat×Nat):=zAm (s.length-p) p (s.drop p)
def kR (s:List UInt8):List Nat:=(uZ s 0).map (·.2)
def countC:Con:=con1 (List UInt8) (λs=>[sV s]) (λ_=>[]) (λs=>s.length<=1099511627776) (λs=>zA (kR s).length) (λ_=>[])
def yVi (s:List UInt8):List SAnn:=[{ι:=Nat×Nat,slots:=λx=>[(3,zA x.2),(5,.nm 0 0)],rows:=λx=>[.iter (sb s) x.1]}]
def hY (r:Nat):Bool:=(decide (65<=r) && decide (r<=90))||(decide (913<=r) && decide (r<=937) && decide (r≠930))
def wJ (s:List UInt8):Bool:=(kR s).all hY && decide (s≠[]) && decide ((kR s).length<=4)
def symC:Con:=con1 (List UInt8) (λs=>[sV s]) (λ_=>[]) (λs=>s.length<=1099511627776) (λs=>yP (wJ s)) (λ_=>[])
def y5b (s:List UInt8):List SAnn:=[{ι:=Nat,slots:=λx=>[(7,.nm 0 0)],rows:=λx=>[.iter (sb s) x]}]
def iE (l:List Int):List (List D):=l.map λn=>[.v (.int .i64 n)]
@[reducible] def iV (l:List Int):V:=roV 1 (iE l)
structure Prd where
 code:List UInt8
 months:List Int
 tick:Int
 low:Int
 high:Int
 wide:Int
 rule:Int
 top:Int
 least:Int
 part:Int
 settle:List Int
 deriving DecidableEq
@[reducible] def Prd.cells (p:Prd):List V:=[sV p.code,iV p.months,zA p.tick,zA p.low,zA p.high,zA p.wide,zA p.rule,zA p.top,zA p.least,zA p.part,iV p.settle]
@[reducible] def prdV (p:Prd):V:= .agg p.cells
@[reducible] def Prd.small (p:Prd):Prop:=p.code.length<=1099511627776/\p.months.length<=1099511627776/\p.settle.length<=1099511627776
def qT (l:List Int) (k:Nat):Bool:=decide (0<=l.getD k 0) && decide (l.getD k 0<=1199) && (decide (k=0)||decide (l.getD (k-1) 0<l.getD k 0))
def xH (l:List Int):Bool:=(ao l.length).all (qT l) && decide (2<=l.length) && decide (l.length<=6)
def monthsC:Con:=con1 (List Int) (λl=>[iV l]) (λ_=>[]) (λl=>l.length<=1099511627776) (λl=>yP (xH l)) (λ_=>[])
def yOr:List SAnn:=[{ι:=Nat,slots:=λj=>[(7,zA j)],rows:=λ_=>[]}]
def rU (l:List Int):Int:=l.tail.foldl min (l.headD 0)
def tO (l:List Int):Int:=l.tail.foldl max (l.headD 0)
def minC:Con:=con1 (List Int) (λl=>[iV l]) (λ_=>[]) (λl=>0<l.length/\l.length<=1099511627776) (λl=>zA (rU l)) (λ_=>[])
def maxC:Con:=con1 (List Int) (λl=>[iV l]) (λ_=>[]) (λl=>0<l.length/\l.length<=1099511627776) (λl=>zA (tO l)) (λ_=>[])
def y5t (l:List Int):List SAnn:=[{ι:=Nat,slots:=λj=>[(3,zA (rU (l.take j))),(4,zA j)],rows:=λ_=>[]}]
def y5d (l:List Int):List SAnn:=[{ι:=Nat,slots:=λj=>[(3,zA (tO (l.take j))),(4,zA j)],rows:=λ_=>[]}]
def dJ (a:Nat×Nat) (b:List UInt8) (c:Nat×Nat->Prop) (d:Nat×Nat->Nat):Prop:=∃(e:Nat×Nat),(↑e.snd:Int)=ar.wrap ((↑a.snd:Int)+1)/\sb b=sb b/\e.fst=a.fst+(bg (sb b) a.fst).snd/\c e/\d e<d a/\True
def yLc (s:List UInt8):Prop:=
 ∃(a:Nat×Nat),(↑a.snd:Int)=0/\sb s=sb s/\a.fst=0/\∃(b:Nat×Nat->Prop),∃(c:Nat×Nat->Nat),b a/\∀(d:Nat×Nat),b d->cnd (d.fst.blt (sb s).size) (dJ d s b c) (∃(e:Unit),(↑(kR s).length:Int)=(↑d.snd:Int)/\True)
def zEv (a:List UInt8) (b:Nat) (c:Nat->Prop) (d:Nat->Nat):Prop:=∃(e:Nat),sb a=sb a/\e=b+(bg (sb a) b).snd/\c e/\d e<d b/\True
def fX (a:List UInt8) (b:Nat):=(↑(bg (sb a) b).fst:Int)
def y0s (s:List UInt8):Prop:=
 ∃(a:Nat),sb s=sb s/\a=0/\∃(b:Nat->Prop),∃(c:Nat->Nat),b a/\∀(d:Nat),b d->cnd (d.blt (sb s).size) (cnd (decide ((fX s d)>=65)) (cnd (decide ((fX s d)<=90)) (zEv s d b c) (cnd (decide ((fX s d)>=913)) (cnd (decide ((fX s d)<=937)) (cnd (!(fX s d) !=930) (∃(e:Unit),wJ s=ax/\True) (zEv s d b c)) (∃(e:Unit),wJ s=ax/\True)) (∃(e:Unit),wJ s=ax/\True))) (cnd (decide ((fX s d)>=913)) (cnd (decide ((fX s d)<=937)) (cnd (!(fX s d) !=930) (∃(e:Unit),wJ s=ax/\True) (zEv s d b c)) (∃(e:Unit),wJ s=ax/\True)) (∃(e:Unit),wJ s=ax/\True))) (cnd (!(sb s).toList==(ByteArray.mk #[]).toList) (∃(e:List UInt8),sb e=sb s/\e.length<=1099511627776/\∀(f:Unit),True->∃(g:Unit),wJ s=decide ((↑(kR e).length:Int)<=4)/\True) (∃(e:Unit),wJ s=ax/\True))
def cJ (a:Nat) (b:Nat->Prop) (c:Nat->Nat):Prop:=∃(d:Nat),kT d a b c
def z9i (l:List Int):Prop:=
 ∃(a:Nat),(↑a:Int)=0/\∃(b:Nat->Prop),∃(c:Nat->Nat),b a/\∀(d:Nat),b d->cnd (decide ((↑d:Int)<(↑(iE l).length:Int))) ((0<=(↑d:Int)/\(↑d:Int)<(↑(iE l).length:Int))/\∃(e:Int),zE (iE l) (↑d:Int).toNat 0 1=ba [dI e]/\cnd (decide (e<0)) (∃(f:Unit),xH l=ax/\True) (cnd (decide (e>1199)) (∃(f:Unit),xH l=ax/\True) (cnd (decide ((↑d:Int)>0)) ((0<=ar.wrap ((↑d:Int)-1)/\ar.wrap ((↑d:Int)-1)<(↑(iE l).length:Int))/\∃(f:Int),zE (iE l) (ar.wrap ((↑d:Int)-1)).toNat 0 1=ba [dI f]/\cnd (decide (f>=e)) (∃(g:Unit),xH l=ax/\True) (cJ d b c)) (cJ d b c)))) (cnd (decide ((↑(iE l).length:Int)>=2)) (∃(e:Unit),xH l=decide ((↑(iE l).length:Int)<=6)/\True) (∃(e:Unit),xH l=ax/\True))
def y2l (l:List Int):Prop:=
 cnd (decide ((↑(iE l).length:Int)<1)) False (((0:Int)<=(0:Int)/\0<(↑(iE l).length:Int))/\∃(a:Int),zE (iE l) (bo 0) 0 1=ba [dI a]/\∃(b:Nat),rU (ak b l)=a/\(↑b:Int)=1/\∃(c:Nat->Prop),∃(d:Nat->Nat),c b/\∀(e:Nat),c e->cnd (decide ((↑e:Int)<(↑(iE l).length:Int))) ((0<=(↑e:Int)/\(↑e:Int)<(↑(iE l).length:Int))/\∃(f:Int),zE (iE l) (↑e:Int).toNat 0 1=ba [dI f]/\∃(g:Nat),rU (ak g l)=min (rU (ak e l)) f/\kT g e c d) (∃(f:Unit),rU l=rU (ak e l)/\True))
def yZx (l:List Int):Prop:=
 cnd (decide ((↑(iE l).length:Int)<1)) False (((0:Int)<=(0:Int)/\0<(↑(iE l).length:Int))/\∃(a:Int),zE (iE l) (bo 0) 0 1=ba [dI a]/\∃(b:Nat),tO (ak b l)=a/\(↑b:Int)=1/\∃(c:Nat->Prop),∃(d:Nat->Nat),c b/\∀(e:Nat),c e->cnd (decide ((↑e:Int)<(↑(iE l).length:Int))) ((0<=(↑e:Int)/\(↑e:Int)<(↑(iE l).length:Int))/\∃(f:Int),zE (iE l) (↑e:Int).toNat 0 1=ba [dI f]/\∃(g:Nat),(tO (ak g l)=if f>tO (ak e l)then f else tO (ak e l))/\kT g e c d) (∃(f:Unit),tO l=tO (ak e l)/\True))
@[simp] theorem zLd (s:List UInt8):(sb s).size=s.length:=by simp[sb,ByteArray.size]
def pO (s:List UInt8):(sb s).toList=s:=by rw[ByteArray.toList_eq];rfl
def yXd (s:List UInt8) (p k:Nat):(sb s).get! (p+k)=(sb (s.drop p)).get! (0+k):=by
 simp only[sb,ByteArray.get!,y6x];simp only[List.getElem!_toArray,List.getElem!_eq_getElem?_getD,y8m]
def zJs (s:List UInt8) (p:Nat):bg (sb s) p=zNt (s.drop p):=by
 have h (k:Nat):(decide (p+k<(sb s).size))=decide (0+k<(sb (s.drop p)).size):=by
  simp only[zLd,y6u];by_cases h:p+k<s.length
  ·rw[y6p h,y6p (by omega)]
  ·rw[y6n h,y6n (by omega)]
 unfold zNt bg;simp only[yXd s p,h]
def cR (s:List UInt8) {p:Nat} (h:p<s.length):1<=(bg (sb s) p).2/\p+(bg (sb s) p).2<=s.length:=by
 unfold bg;simp only[zLd,y6l,y7m];split
 ·exact⟨by simp,by simp;omega⟩
 split
 ·rename_i h1;split
  ·exact⟨by simp,by simp;omega⟩
  ·exact⟨by simp,by simp;omega⟩
 split
 ·rename_i h1;split
  ·exact⟨by simp,by simp;omega⟩
  ·exact⟨by simp,by simp;omega⟩
 split
 ·rename_i h1;split
  ·exact⟨by simp,by simp;omega⟩
  ·exact⟨by simp,by simp;omega⟩
 ·exact⟨by simp,by simp;omega⟩
def yUn {l:List UInt8} (h:l≠[]):1<=(zNt l).2/\(zNt l).2<=l.length:=by
 have:=cR l (p:=0) (by cases l<;>simp_all);rw[zNt];omega
def tC:∀(k:Nat) (p:Nat) (l:List UInt8),l.length<=k->zAm k p l=zAm l.length p l
 |0,p,l,h=>by
  have:l=[]:=y6y oM;subst this;rfl
 |k+1,p,[],h=>rfl
 |k+1,p,b::l,h=>by
  have hw:=yUn (l:=b::l) (by simp);have hl:((b::l).drop (zNt (b::l)).2).length<=l.length:=by rw[y6u,y6d];omega
  rw[y6d];simp only[zAm];rw[tC k _ _ (by rw[y6d]at h;omega),tC l.length _ _ hl]
def vV {s:List UInt8} {p:Nat} (h:s.length<=p):uZ s p=[]:=by
 rw[uZ,show s.length-p=0 by omega];rfl
def jL {s:List UInt8} {p:Nat} (h:p<s.length):uZ s p=(p,(bg (sb s) p).1)::uZ s (p+(bg (sb s) p).2):=by
 obtain⟨k,hk⟩:∃k,s.length-p=k+1:=⟨s.length-p-1,oM⟩
 have hw:=cR s h;obtain⟨b,l,hb⟩:∃b l,s.drop p=b::l:=by
  cases hd:s.drop p with
  |nil=>rw[List.drop_eq_nil_iff]at hd;omega
  |cons b l=>exact⟨b,l,rfl⟩
 have hlen:(b::l).length=s.length-p:=by rw[<- hb,y6u]
 rw[uZ,hk,hb,zJs,hb,uZ];rw[zJs,hb]at hw;simp only[zAm];have e:(b::l).drop (zNt (b::l)).2=s.drop (p+(zNt (b::l)).2):=by rw[<- hb,y9j]
 rw[e,tC k _ _ (by rw[y6u];omega),y6u]
def zMp (s:List UInt8):∀(k p:Nat),s.length-p<=k->(uZ s p).length<=s.length-p
 |0,p,h=>by rw[vV (by omega)];simp
 |k+1,p,h=>by
  by_cases hp:p<s.length
  ·have hw:=cR s hp;rw[jL hp,y6d];have:=zMp s k (p+(bg (sb s) p).2) oM;omega
  ·rw[vV (by omega)];simp
def zIv (s:List UInt8):(kR s).length<=s.length:=by
 rw[kR,y5z];have:=zMp s s.length 0 oM;omega
def yAc {a b:Nat} (h:Nat.blt a b=ax):b<=a:=by
 rcases y8h a b with h1|h1
 ·rw[show Nat.blt a b=ay by rw[y8z];exact h1]at h;cases h
 ·exact h1
def yHx:(ByteArray.mk #[]).toList=[]:=pO []
def yTa (s:List UInt8) (h:countC.cnd s):yLc s:=by
 have h:s.length<=1099511627776:=h;have hr:=zIv s;unfold yLc dJ;refine⟨(0,0),rfl,rfl,rfl,λx=>x.1<=s.length/\x.2+(uZ s x.1).length=(kR s).length,λx=>s.length-x.1,⟨oM,by rw[kR,y5z];simp⟩,?_⟩;rintro⟨p,n⟩ ⟨h1,h2⟩;dsimp only at h1 h2 ⊢;refine Cv.cnd.mk (λhp=> ?_) (λhp=> ?_)
 ·have hp:p<s.length:=by simpa[y8z]using hp
  have hw:=cR s hp;rw[jL hp,y6d]at h2;refine⟨(p+(bg (sb s) p).2,n+1),?_,rfl,rfl,⟨hw.2,by(first|omega|(dsimp only;omega))⟩,by(first|omega|(dsimp only;omega)),trivial⟩;rw[w64 (by omega)];rfl
 ·have hp:s.length<=p:=by have:=yAc hp;simpa using this
  rw[vV hp]at h2;exact⟨(),by rw[<- h2];rfl,trivial⟩
def yEr:countC.ok Tryz.prog 151:=okw mixed gok0 0 (λ_=>[]) (λs=>yVi s) [] Tryz.func151 yTa
def y5f (s:List UInt8) (h:symC.cnd s):y0s s:=by
 have h:s.length<=1099511627776:=h;unfold y0s fX zEv;refine⟨0,rfl,rfl,λp=>p<=s.length/\(kR s).all hY=(uZ s p).all λx=>hY x.2,λp=>s.length-p,⟨oM,by rw[kR,List.all_map];rfl⟩,?_⟩;rintro p ⟨h1,h2⟩;refine Cv.cnd.mk (λhp=> ?_) (λhp=> ?_)
 ·have hp:p<s.length:=by simpa[y8z]using hp
  have hw:=cR s hp;rw[jL hp,List.all_cons]at h2;generalize hc:(bg (sb s) p).1=c at h2 ⊢;generalize hww:(bg (sb s) p).2=w at h2 hw ⊢;dsimp only at h2;have bad:hY c=ax->∃(o:Unit),wJ s=ax/\True:=λe=>⟨(),by rw[wJ,h2,e];rfl,trivial⟩
  have good:hY c=ay->∃i':Nat,sb s=sb s/\i'=p+w/\(i'<=s.length/\(kR s).all hY=(uZ s i').all λx=>hY x.2)/\s.length-i'<s.length-p/\True:=λe=>⟨p+w,rfl,rfl,⟨hw.2,by rw[h2,e];rfl⟩,oM,trivial⟩
  refine zI (λc1=>zI (λc2=> ?_) (λc2=>zI (λc3=>zI (λc4=>Cv.cnd.mk (λc5=> ?_) (λc5=> ?_)) (λc4=> ?_)) (λc3=> ?_))) (λc1=>zI (λc3=>zI (λc4=>Cv.cnd.mk (λc5=> ?_) (λc5=> ?_)) (λc4=> ?_)) (λc3=> ?_))
  all_goals first|(refine good ?_;simp[hY]at*;omega)|(refine bad ?_;simp[hY]at*;omega)
 ·have hp:s.length<=p:=by have:=yAc hp;simpa using this
  rw[vV hp]at h2;have h2:(kR s).all hY=ay:=h2;refine Cv.cnd.mk (λe=>⟨s,rfl,h,λ_ _=>⟨(),?_,trivial⟩⟩) (λe=>⟨(),?_,trivial⟩)
  ·rw[pO,yHx]at e;have:s≠[]:=by simpa using e
   rw[wJ,h2,y6p this];simp only[y8v];congr 1;simp only[eq_iff_iff];omega
  ·have:s=[]:=by
    rw[pO,yHx]at e;simpa using e
   rw[wJ,this];rfl
def yVh:symC.ok Tryz.prog 121:=okw mixed (gokc yEr gok0) 0 (λ_=>[]) (λs=>y5b s) [] Tryz.func121 y5f
@[simp] theorem yY (l:List Int):(iE l).length=l.length:=by simp[iE]
def elI {l:List Int} {k:Nat} {n:Int} (h:l[k]? =ba n):zE (iE l) k 0 1=ba [D.v (.int .i64 n)]:=by
 simp[zE,iE,h];rfl
def yC {α:Type} {l:List α} {i:Nat} (h:i<l.length):∃x,l[i]? =ba x:=⟨l[i],y6z h⟩
def zTc {n k:Nat} {f:Nat->Bool} (hk:k<n) (h:f k=ax):(ao n).all f=ax:=by
 cases hh:(ao n).all f
 ·rfl
 ·rw[y9e]at hh;rw[hh k (by simpa using hk)]at h;cases h
def zZg {n:Nat} {f:Nat->Bool} (h:∀k<n,f k=ay):(ao n).all f=ay:=by
 rw[y9e];intro k hk;exact h k (by simpa using hk)
def yNy (l:List Int) (h:monthsC.cnd l):z9i l:=by
 have h:l.length<=1099511627776:=h;unfold z9i cJ kT dI;simp only[yY];refine⟨0,rfl,λj=>j<=l.length/\∀k<j,qT l k=ay,λj=>l.length-j,⟨oM,λk hk=>by omega⟩,?_⟩;rintro j ⟨h1,h2⟩;have bad:j<l.length->qT l j=ax->∃(o:Unit),xH l=ax/\True:=λhj e=>⟨(),by rw[xH,zTc hj e];rfl,trivial⟩
 have good:j<l.length->qT l j=ay->∃i':Nat,(i':Int)=ar.wrap ((j:Int)+1)/\(i'<=l.length/\∀k<i',qT l k=ay)/\l.length-i'<l.length-j/\True:=λhj e=>⟨j+1,by rw[w64 (by omega)];rfl,⟨oM,λk hk=>by
  rcases y8h k j with hk'|hk'
  ·exact h2 k hk'
  ·obtain rfl:k=j:=by omega
   exact e⟩,oM,trivial⟩
 refine zI (λhj=> ?_) (λhj=> ?_)
 ·have hj:j<l.length:=by omega
  obtain⟨n,hn⟩:=yC hj;have hg:l.getD j 0=n:=by simp[hn]
  refine⟨⟨oM,oM⟩,n,elI hn,zI (λc1=>bad hj (by simp[qT,hn];omega)) (λc1=>zI (λc2=>bad hj (by simp[qT,hn];omega)) (λc2=>zI (λc3=> ?_) (λc3=>good hj ?_)))⟩
  ·have e:ar.wrap ((j:Int)-1)=((j-1:Nat):Int):=by rw[w64 (by omega)];omega
   obtain⟨m,hm⟩:=yC (l:=l) (i:=j-1) oM;rw[e];refine⟨⟨oM,oM⟩,m,elI hm,zI (λc4=>bad hj ?_) (λc4=>good hj ?_)⟩
   ·simp[qT,hn,hm];omega
   ·simp[qT,hn,hm];omega
  ·simp[qT,hn];omega
 ·have e:(ao l.length).all (qT l)=ay:=zZg λk hk=>h2 k oM
  refine zI (λc=>⟨(),?_,trivial⟩) (λc=>⟨(),?_,trivial⟩)
  ·rw[xH,e,y6p (show 2<=l.length by omega)];simp;omega
  ·rw[xH,y6n (show ¬2<=l.length by omega)];simp
def yDk:monthsC.ok Tryz.prog 122:=okw mixed gok0 0 (λ_=>[]) (λ_=>yOr) [] Tryz.func122 yNy
def zIm {f:Int->Int->Int} {l:List Int} {j:Nat} {n:Int} (h:l[j+1]? =ba n):(l.take (j+2)).tail.foldl f ((l.take (j+2)).headD 0)=f ((l.take (j+1)).tail.foldl f ((l.take (j+1)).headD 0)) n:=by
 cases l with
 |nil=>simp at h
 |cons a l=>
  simp only[y7x]at h;simp only[y7k,List.tail_cons,List.headD_cons];rw[y7h,h,xAu];rfl
def zZl {l:List Int} {n:Int} (h:l[0]? =ba n) (f:Int->Int->Int):(l.take 1).tail.foldl f ((l.take 1).headD 0)=n:=by
 cases l with
 |nil=>simp at h
 |cons a l=>simpa using h
def y3o (l:List Int) (h:minC.cnd l):y2l l:=by
 obtain⟨h0,h⟩:0<l.length/\l.length<=1099511627776:=h;unfold y2l kT dI;simp only[yY];obtain⟨n,hn⟩:=yC h0;refine zI (λc=>by omega) (λc=>⟨⟨oM,oM⟩,n,elI hn,1,zZl hn min,rfl,λj=>1<=j/\j<=l.length,λj=>l.length-j,⟨oM,oM⟩,?_⟩);rintro j ⟨h1,h2⟩;refine zI (λhj=> ?_) (λhj=>⟨(),?_,trivial⟩)
 ·obtain⟨m,hm⟩:=yC (l:=l) (i:=j) oM;refine⟨⟨oM,oM⟩,m,elI hm,j+1,?_,?_,⟨oM,oM⟩,by(first|omega|(dsimp only;omega)),trivial⟩
  ·obtain⟨k,rfl⟩:∃k,j=k+1:=⟨j-1,oM⟩
   first
    |(rw[rU,zIm hm,<- rU];done)
    |(rw[rU,zIm hm,<- rU];generalize rU (l.take (k+1))=x;split<;>omega)
  ·rw[w64 (by omega)];rfl
 ·rw[y6k (by omega)]
def yWv:minC.ok Tryz.prog 124:=okw mixed gok0 0 (λ_=>[]) (λl=>y5t l) [] Tryz.func124 y3o
def y5o (l:List Int) (h:maxC.cnd l):yZx l:=by
 obtain⟨h0,h⟩:0<l.length/\l.length<=1099511627776:=h;unfold yZx kT dI;simp only[yY];obtain⟨n,hn⟩:=yC h0;refine zI (λc=>by omega) (λc=>⟨⟨oM,oM⟩,n,elI hn,1,zZl hn max,rfl,λj=>1<=j/\j<=l.length,λj=>l.length-j,⟨oM,oM⟩,?_⟩);rintro j ⟨h1,h2⟩;refine zI (λhj=> ?_) (λhj=>⟨(),?_,trivial⟩)
 ·obtain⟨m,hm⟩:=yC (l:=l) (i:=j) oM;refine⟨⟨oM,oM⟩,m,elI hm,j+1,?_,?_,⟨oM,oM⟩,by(first|omega|(dsimp only;omega)),trivial⟩
  ·obtain⟨k,rfl⟩:∃k,j=k+1:=⟨j-1,oM⟩
   rw[tO,zIm hm,<- tO];generalize tO (l.take (k+1))=x;split<;>omega
  ·rw[w64 (by omega)];rfl
 ·rw[y6k (by omega)]
def yVt:maxC.ok Tryz.prog 125:=okw mixed gok0 0 (λ_=>[]) (λl=>y5d l) [] Tryz.func125 y5o
@[reducible] def Prd.row (p:Prd):AObj:= .cells p.cells 25
structure z3w where
 p:Prd
 n:Int
structure zVz where
 p:Prd
 l:List Int
def qO (t n:Int):Bool:=n.tmod t !=0
def offC:Con:=con1 z3w (λi=>[zA i.n,.nm 0 0]) (λi=>[i.p.row]) (λi=>1<=i.p.tick) (λi=>yP (qO i.p.tick i.n)) (λi=>[i.p.row])
@[reducible] def y0y:V:= .fn 152 [] [.nm 0 0]
def zJu (k:Option Nat):Int:=match k with
 |some k=>k
 |none=> -1
def idxC:Con:=con1 zVz (λi=>[iV i.l,y0y]) (λi=>[i.p.row]) (λi=>1<=i.p.tick/\i.l.length<=1099511627776) (λi=>zA (zJu (i.l.findIdx? (qO i.p.tick)))) (λi=>[i.p.row])
def y4z (i:zVz):List SAnn:=[{ι:=Nat,slots:=λj=>[(8,zA j)],rows:=λ_=>[]}]
def containsC:Con:=con1 zVz (λi=>[iV i.l,y0y]) (λi=>[i.p.row]) (λi=>1<=i.p.tick/\i.l.length<=1099511627776) (λi=>yP (i.l.any (qO i.p.tick))) (λi=>[i.p.row])
def qI (p:Prd):Bool:=decide (1<=p.tick) && decide (p.tick<=1000) && !qO p.tick p.low && !qO p.tick p.high && !qO p.tick p.wide && !p.settle.any (qO p.tick)
def ticksC:Con:=con1 Prd (λp=>[prdV p]) (λ_=>[]) Prd.small (λp=>yP (qI p)) (λ_=>[])
def qK (p:Prd):Bool:=decide (p.low< -1000000)||decide (p.low>=p.high)||decide (p.high>1000000)||decide (p.wide<0)||decide (p.wide>p.high-p.low)
def xJ (p:Prd):Bool:=decide (p.settle.length≠p.months.length)||decide (rU p.settle<p.low)||decide (tO p.settle>p.high)
def kK (p:Prd):Bool:=decide (p.rule<1)||decide (p.rule>3)
def x7 (p:Prd):Bool:=decide (p.top<0)||decide (p.top>1000000)||decide (p.least<1)||decide (p.least>1000)||decide (p.part<0)||decide (p.part>100)
def Prd.check (p:Prd):Int:=
 if !wJ p.code then 12 else if !xH p.months then 1 else if !qI p then 22 else if qK p then 23 else if xJ p then 1 else if kK p then 31 else if x7 p then 24 else 0
def checkC:Con:=con1 Prd (λp=>[prdV p]) (λ_=>[]) Prd.small (λp=>zA p.check) (λ_=>[])
def Prd.count (p:Prd):Nat:=if p.check=0 then p.months.length+p.months.length*(p.months.length-1) / 2 else 0
def pcountC:Con:=con1 Prd (λp=>[prdV p]) (λ_=>[]) Prd.small (λp=>zA p.count) (λ_=>[])
structure cG where
 p:Prd
 n:Int
def yK (n:Nat):Nat->Nat
 |0=>n
 |k+1=>yK n k+(n-1-k)
def kU (n inst:Nat):Nat->Nat->Int×Int×Bool
 |0,_=>(0,0,ax)
 |k+1,m=>if inst<yK n m+(n-1-m)then(m,m+1+(inst-yK n m:Nat),ay)else kU n inst k (m+1)
def Prd.legs (p:Prd) (i:Int):Int×Int×Bool:=
 if i<0\/(p.count:Int)<=i then(0,0,ax)else if i<p.months.length then(i,i,ax)else kU p.months.length i.toNat p.months.length 0
def legsC:Con:=con1 cG (λi=>[prdV i.p,zA i.n]) (λ_=>[]) (λi=>i.p.small) (λi=> .tup [zA (i.p.legs i.n).1,zA (i.p.legs i.n).2.1,yP (i.p.legs i.n).2.2]) (λ_=>[])
structure tP where
 p:Prd
 a:Int
 b:Int
def Prd.spread (p:Prd) (a b:Int):Int×Bool:=
 if p.check≠0\/a<0\/b<=a\/(p.months.length:Int)<=b then(0,ax)else((yK p.months.length a.toNat:Int)+b-a-1,ay)
def spreadC:Con:=con1 tP (λi=>[prdV i.p,zA i.a,zA i.b]) (λ_=>[]) (λi=>i.p.small) (λi=> .tup [zA (i.p.spread i.a i.b).1,yP (i.p.spread i.a i.b).2]) (λ_=>[])
def Prd.price (p:Prd) (i n:Int):Int:=
 if p.count=0 then 1 else if i<0\/(p.count:Int)<=i then 20 else if qO p.tick n then 22 else
 if n<(if(p.months.length:Int)<=i then-p.wide else p.low)\/(if(p.months.length:Int)<=i then p.wide else p.high)<n then 23 else 0
def priceC:Con:=con1 tP (λi=>[prdV i.p,zA i.a,zA i.b]) (λ_=>[]) (λi=>i.p.small) (λi=>zA (i.p.price i.a i.b)) (λ_=>[])
structure I2 where
 x:Int
 y:Int
@[reducible] def i64r (n:Int):Prop:= -9223372036854775808<=n/\n<=9223372036854775807
def gF (x y:Int):Int×Bool:=if i64r (x+y)then(x+y,ay)else(0,ax)
def h9 (x y:Int):Int×Bool:=if i64r (x-y)then(x-y,ay)else(0,ax)
def addC:Con:=con1 I2 (λi=>[zA i.x,zA i.y]) (λ_=>[]) (λi=>i64r i.x/\i64r i.y) (λi=> .tup [zA (gF i.x i.y).1,yP (gF i.x i.y).2]) (λ_=>[])
def subC:Con:=con1 I2 (λi=>[zA i.x,zA i.y]) (λ_=>[]) (λi=>i64r i.x/\i64r i.y) (λi=> .tup [zA (h9 i.x i.y).1,yP (h9 i.x i.y).2]) (λ_=>[])
def y1a (i:cG):List SAnn:=[{ι:=Nat,slots:=λm=>[(8,zA (yK i.p.months.length m)),(33,zA m)],rows:=λ_=>[]}]
def yLk (i:tP):List SAnn:=[{ι:=Nat,slots:=λm=>[(9,zA (yK i.p.months.length m)),(33,zA m)],rows:=λ_=>[]}]
def y1m (i:z3w):Prop:=
 ar=ar/\i.p.tick≠0/\∃(a:Unit),qO i.p.tick i.n=(i.n.tmod i.p.tick !=0)/\dh (sb i.p.code)/\dh (iE i.p.months)/\dh i.p.tick/\dh i.p.low/\dh i.p.high/\dh i.p.wide/\dh i.p.rule/\dh i.p.top/\dh i.p.least/\dh i.p.part/\dh (iE i.p.settle)/\True
def yYv (i:zVz):Prop:=
 ∃(a:Nat),(↑a:Int)=0/\∃(b:Nat->Prop),∃(c:Nat->Nat),b a/\∀(d:Nat),b d->cnd (decide ((↑d:Int)<(↑(iE i.l).length:Int))) ((0<=(↑d:Int)/\(↑d:Int)<(↑(iE i.l).length:Int))/\∃(e:Int),zE (iE i.l) (↑d:Int).toNat 0 1=ba [dI e]/\∃(f:z3w),f.n=e/\sb f.p.code=sb i.p.code/\iE f.p.months=iE i.p.months/\f.p.tick=i.p.tick/\f.p.low=i.p.low/\f.p.high=i.p.high/\f.p.wide=i.p.wide/\f.p.rule=i.p.rule/\f.p.top=i.p.top/\f.p.least=i.p.least/\f.p.part=i.p.part/\iE f.p.settle=iE i.p.settle/\1<=f.p.tick/\∀(g:Unit),True->cnd (qO f.p.tick f.n) (∃(h:Unit),zJu (List.findIdx? (qO i.p.tick) i.l)=(↑d:Int)/\sb i.p.code=sb f.p.code/\iE i.p.months=iE f.p.months/\i.p.tick=f.p.tick/\i.p.low=f.p.low/\i.p.high=f.p.high/\i.p.wide=f.p.wide/\i.p.rule=f.p.rule/\i.p.top=f.p.top/\i.p.least=f.p.least/\i.p.part=f.p.part/\iE i.p.settle=iE f.p.settle/\True) (∃(h:Nat),(↑h:Int)=ar.wrap ((↑d:Int)+1)/\b h/\c h<c d/\ac [V.d (D.v (bz (sb f.p.code))),V.d (D.ro 1 (iE f.p.months)),V.d (dI f.p.tick),V.d (dI f.p.low),V.d (dI f.p.high),V.d (dI f.p.wide),V.d (dI f.p.rule),V.d (dI f.p.top),V.d (dI f.p.least),V.d (dI f.p.part),V.d (D.ro 1 (iE f.p.settle))] (25:ce)=i.p.row)) (∃(e:Unit),zJu (List.findIdx? (qO i.p.tick) i.l)=(-1)/\dh (sb i.p.code)/\dh (iE i.p.months)/\dh i.p.tick/\dh i.p.low/\dh i.p.high/\dh i.p.wide/\dh i.p.rule/\dh i.p.top/\dh i.p.least/\dh i.p.part/\dh (iE i.p.settle)/\True)
def zSx (i:zVz):Prop:=
 ∃(a:zVz),iE a.l=iE i.l/\sb a.p.code=sb i.p.code/\iE a.p.months=iE i.p.months/\a.p.tick=i.p.tick/\a.p.low=i.p.low/\a.p.high=i.p.high/\a.p.wide=i.p.wide/\a.p.rule=i.p.rule/\a.p.top=i.p.top/\a.p.least=i.p.least/\a.p.part=i.p.part/\iE a.p.settle=iE i.p.settle/\(1<=a.p.tick/\a.l.length<=1099511627776)/\∀(b:Unit),True->∃(c:Unit),i.l.any (qO i.p.tick)=decide (zJu (List.findIdx? (qO a.p.tick) a.l)>=0)/\sb i.p.code=sb a.p.code/\iE i.p.months=iE a.p.months/\i.p.tick=a.p.tick/\i.p.low=a.p.low/\i.p.high=a.p.high/\i.p.wide=a.p.wide/\i.p.rule=a.p.rule/\i.p.top=a.p.top/\i.p.least=a.p.least/\i.p.part=a.p.part/\iE i.p.settle=iE a.p.settle/\True
def yGy (p:Prd):Prop:=
 cnd (decide (p.tick<1)) (∃(a:Unit),qI p=ax/\True) (cnd (decide (p.tick>1000)) (∃(a:Unit),qI p=ax/\True) (∃(a:z3w),a.n=p.low/\sb a.p.code=sb p.code/\iE a.p.months=iE p.months/\a.p.tick=p.tick/\a.p.low=p.low/\a.p.high=p.high/\a.p.wide=p.wide/\a.p.rule=p.rule/\a.p.top=p.top/\a.p.least=p.least/\a.p.part=p.part/\iE a.p.settle=iE p.settle/\1<=a.p.tick/\∀(b:Unit),True->cnd (!qO a.p.tick a.n) (∃(c:z3w),c.n=a.p.high/\sb c.p.code=sb a.p.code/\iE c.p.months=iE a.p.months/\c.p.tick=a.p.tick/\c.p.low=a.p.low/\c.p.high=a.p.high/\c.p.wide=a.p.wide/\c.p.rule=a.p.rule/\c.p.top=a.p.top/\c.p.least=a.p.least/\c.p.part=a.p.part/\iE c.p.settle=iE a.p.settle/\1<=c.p.tick/\∀(d:Unit),True->cnd (!qO c.p.tick c.n) (∃(e:z3w),e.n=c.p.wide/\sb e.p.code=sb c.p.code/\iE e.p.months=iE c.p.months/\e.p.tick=c.p.tick/\e.p.low=c.p.low/\e.p.high=c.p.high/\e.p.wide=c.p.wide/\e.p.rule=c.p.rule/\e.p.top=c.p.top/\e.p.least=c.p.least/\e.p.part=c.p.part/\iE e.p.settle=iE c.p.settle/\1<=e.p.tick/\∀(f:Unit),True->cnd (!qO e.p.tick e.n) (∃(g:zVz),iE g.l=iE e.p.settle/\sb g.p.code=sb e.p.code/\iE g.p.months=iE e.p.months/\g.p.tick=e.p.tick/\g.p.low=e.p.low/\g.p.high=e.p.high/\g.p.wide=e.p.wide/\g.p.rule=e.p.rule/\g.p.top=e.p.top/\g.p.least=e.p.least/\g.p.part=e.p.part/\iE g.p.settle=iE e.p.settle/\(1<=g.p.tick/\g.l.length<=1099511627776)/\∀(h:Unit),True->∃(j:Unit),qI p=!g.l.any (qO g.p.tick)/\True) (∃(g:Unit),qI p=ax/\True)) (∃(e:Unit),qI p=ax/\True)) (∃(c:Unit),qI p=ax/\True)))
def z5 (a:Prd):Prop:=a.code.length<=1099511627776/\a.months.length<=1099511627776/\a.settle.length<=1099511627776
def vA (a:Prd):=(↑(iE a.settle).length:Int)
def xF (a:Prd):=(↑(iE a.months).length:Int)
def yFs (p:Prd):Prop:=
 ∃(a:List UInt8),sb a=sb p.code/\a.length<=1099511627776/\∀(b:Unit),True->cnd (!wJ a) (∃(c:Unit),p.check=12/\True) (∃(c:List Int),iE c=iE p.months/\c.length<=1099511627776/\∀(d:Unit),True->cnd (!xH c) (∃(e:Unit),p.check=1/\True) (∃(e:Prd),sb e.code=sb p.code/\iE e.months=iE p.months/\e.tick=p.tick/\e.low=p.low/\e.high=p.high/\e.wide=p.wide/\e.rule=p.rule/\e.top=p.top/\e.least=p.least/\e.part=p.part/\iE e.settle=iE p.settle/\(z5 e)/\∀(f:Unit),True->cnd (!qI e) (∃(g:Unit),p.check=22/\True) (cnd (decide (p.low<(-1000000))) (∃(g:Unit),p.check=23/\True) (cnd (decide (p.low>=p.high)) (∃(g:Unit),p.check=23/\True) (cnd (decide (p.high>1000000)) (∃(g:Unit),p.check=23/\True) (cnd (decide (p.wide<0)) (∃(g:Unit),p.check=23/\True) (cnd (decide (p.wide>ar.wrap (p.high-p.low))) (∃(g:Unit),p.check=23/\True) (cnd ((vA p) !=(xF p)) (∃(g:Unit),p.check=1/\True) (∃(g:List Int),iE g=iE p.settle/\(0<g.length/\g.length<=1099511627776)/\∀(h:Unit),True->dh p.low/\cnd (decide (rU g<p.low)) (∃(j:Unit),p.check=1/\True) (∃(j:List Int),iE j=iE p.settle/\(0<j.length/\j.length<=1099511627776)/\∀(k:Unit),True->dh p.high/\cnd (decide (tO j>p.high)) (∃(l:Unit),p.check=1/\True) (cnd (decide (p.rule<1)) (∃(l:Unit),p.check=31/\True) (cnd (decide (p.rule>3)) (∃(l:Unit),p.check=31/\True) (cnd (decide (p.top<0)) (∃(l:Unit),p.check=24/\True) (cnd (decide (p.top>1000000)) (∃(l:Unit),p.check=24/\True) (cnd (decide (p.least<1)) (∃(l:Unit),p.check=24/\True) (cnd (decide (p.least>1000)) (∃(l:Unit),p.check=24/\True) (cnd (decide (p.part<0)) (∃(l:Unit),p.check=24/\True) (cnd (decide (p.part>100)) (∃(l:Unit),p.check=24/\True) (∃(l:Unit),p.check=0/\True)))))))))))))))))))
def rJ (a:Prd) (b:Prd):Prop:=sb a.code=sb b.code/\iE a.months=iE b.months/\a.tick=b.tick/\a.low=b.low/\a.high=b.high/\a.wide=b.wide/\a.rule=b.rule/\a.top=b.top/\a.least=b.least/\a.part=b.part/\iE a.settle=iE b.settle/\(z5 a)/\∀(c:Unit),True->cnd (a.check !=0) (∃(d:Unit),(↑b.count:Int)=0/\True) (ar=ar/\(2:Int)≠(0:Int)/\∃(d:Unit),(↑b.count:Int)=ar.wrap ((xF b)+ar.wrap ((ar.wrap ((xF b)*ar.wrap ((xF b)-1))).tdiv 2))/\True)
def z6p (p:Prd):Prop:=
 ∃(a:Prd),rJ a p
def sK (a:cG):Prop:=ac [V.d (D.v (bz (sb a.p.code))),V.own 0,V.d (dI a.p.tick),V.d (dI a.p.low),V.d (dI a.p.high),V.d (dI a.p.wide),V.d (dI a.p.rule),V.d (dI a.p.top),V.d (dI a.p.least),V.d (dI a.p.part),V.own 1] 25=ac [V.d (D.v (bz (sb a.p.code))),V.own 0,V.d (dI a.p.tick),V.d (dI a.p.low),V.d (dI a.p.high),V.d (dI a.p.wide),V.d (dI a.p.rule),V.d (dI a.p.top),V.d (dI a.p.least),V.d (dI a.p.part),V.own 1] 25/\dh (ab 1 (iE a.p.settle))/\dh (ab 1 (iE a.p.months))
def zFp (a:Nat->Prop) (b:Nat) (c:Nat->Nat) (d:Nat) (e:cG):Prop:=a b/\c b<c d/\sK e
def uI (a:cG) (b:Nat):=(↑(yK a.p.months.length b):Int)
def vH (a:cG):=(↑(iE a.p.months).length:Int)
def zHm (a:cG) (b:Nat):=((uI a b)+ar.wrap (ar.wrap ((vH a)-1)-(↑b:Int)))
def fD (a:cG):Prop:=∃(b:Unit),(a.p.legs a.n).fst=0/\(a.p.legs a.n).snd.fst=0/\(a.p.legs a.n).snd.snd=ax/\True
def zAt (a:cG):Prop:=∃(b:Unit),(a.p.legs a.n).fst=a.n/\(a.p.legs a.n).snd.fst=a.n/\(a.p.legs a.n).snd.snd=ax/\True
def yRv (i:cG):Prop:=
 ∃(a:Prd),sb a.code=sb i.p.code/\iE a.months=iE i.p.months/\a.tick=i.p.tick/\a.low=i.p.low/\a.high=i.p.high/\a.wide=i.p.wide/\a.rule=i.p.rule/\a.top=i.p.top/\a.least=i.p.least/\a.part=i.p.part/\iE a.settle=iE i.p.settle/\(z5 a)/\∀(b:Unit),True->cnd (decide (i.n<0)) (fD i) (cnd (decide (i.n>=(↑a.count:Int))) (fD i) (cnd (decide (i.n<(vH i))) (zAt i) (∃(c:Nat),(uI i c)=(vH i)/\(↑c:Int)=0/\∃(d:Nat->Prop),∃(e:Nat->Nat),d c/\∀(f:Nat),d f->cnd (decide ((↑f:Int)<(vH i))) (cnd (decide (i.n<ar.wrap (zHm i f))) (∃(g:Unit),(i.p.legs i.n).fst=(↑f:Int)/\(i.p.legs i.n).snd.fst=ar.wrap (ar.wrap (ar.wrap ((↑f:Int)+1)+i.n)-(uI i f))/\(i.p.legs i.n).snd.snd=ay/\True) (∃(g:Nat),(uI i g)=ar.wrap (zHm i f)/\(↑g:Int)=ar.wrap ((↑f:Int)+1)/\zFp d g e f i)) (fD i))))
def cS (a:tP):Prop:=∃(b:Unit),(a.p.spread a.a a.b).fst=0/\(a.p.spread a.a a.b).snd=ax/\True
def z9n (i:tP):Prop:=
 ∃(a:Prd),sb a.code=sb i.p.code/\iE a.months=iE i.p.months/\a.tick=i.p.tick/\a.low=i.p.low/\a.high=i.p.high/\a.wide=i.p.wide/\a.rule=i.p.rule/\a.top=i.p.top/\a.least=i.p.least/\a.part=i.p.part/\iE a.settle=iE i.p.settle/\(z5 a)/\∀(b:Unit),True->cnd (a.check !=0) (cS i) (cnd (decide (i.a<0)) (cS i) (cnd (decide (i.a>=i.b)) (cS i) (cnd (decide (i.b>=(↑(iE i.p.months).length:Int))) (cS i) (∃(c:Nat),(↑(yK i.p.months.length c):Int)=(↑(iE i.p.months).length:Int)/\(↑c:Int)=0/\∃(d:Nat->Prop),∃(e:Nat->Nat),d c/\∀(f:Nat),d f->cnd (decide ((↑f:Int)<i.a)) (∃(g:Nat),(↑(yK i.p.months.length g):Int)=ar.wrap ((↑(yK i.p.months.length f):Int)+ar.wrap (ar.wrap ((↑(iE i.p.months).length:Int)-1)-(↑f:Int)))/\(↑g:Int)=ar.wrap ((↑f:Int)+1)/\d g/\e g<e f/\dh (ac [V.d (D.v (bz (sb i.p.code))),V.own 0,V.d (dI i.p.tick),V.d (dI i.p.low),V.d (dI i.p.high),V.d (dI i.p.wide),V.d (dI i.p.rule),V.d (dI i.p.top),V.d (dI i.p.least),V.d (dI i.p.part),V.own 1] 25)/\dh (ab 1 (iE i.p.settle))/\dh (ab 1 (iE i.p.months))) (∃(g:Unit),(i.p.spread i.a i.b).fst=ar.wrap (ar.wrap (ar.wrap ((↑(yK i.p.months.length f):Int)+i.b)-i.a)-1)/\(i.p.spread i.a i.b).snd=ay/\True)))))
def yFh (i:tP):Prop:=
 ∃(a:Prd),sb a.code=sb i.p.code/\iE a.months=iE i.p.months/\a.tick=i.p.tick/\a.low=i.p.low/\a.high=i.p.high/\a.wide=i.p.wide/\a.rule=i.p.rule/\a.top=i.p.top/\a.least=i.p.least/\a.part=i.p.part/\iE a.settle=iE i.p.settle/\(z5 a)/\∀(b:Unit),True->cnd ((↑a.count:Int)==0) (∃(c:Unit),i.p.price i.a i.b=1/\True) (cnd (decide (i.a<0)) (∃(c:Unit),i.p.price i.a i.b=20/\True) (cnd (decide (i.a>=(↑a.count:Int))) (∃(c:Unit),i.p.price i.a i.b=20/\True) (ar=ar/\i.p.tick≠0/\cnd (i.b.tmod i.p.tick !=0) (∃(c:Unit),i.p.price i.a i.b=22/\True) (cnd (decide (i.a>=(↑(iE i.p.months).length:Int))) (cnd (decide (i.b<ar.wrap (0-i.p.wide))) (∃(c:Unit),i.p.price i.a i.b=23/\True) (cnd (decide (i.b>i.p.wide)) (∃(c:Unit),i.p.price i.a i.b=23/\True) (∃(c:Unit),i.p.price i.a i.b=0/\True))) (cnd (decide (i.b<i.p.low)) (∃(c:Unit),i.p.price i.a i.b=23/\True) (cnd (decide (i.b>i.p.high)) (∃(c:Unit),i.p.price i.a i.b=23/\True) (∃(c:Unit),i.p.price i.a i.b=0/\True)))))))
def zOl (a:I2):Prop:=∃(b:Unit),(gF a.x a.y).fst=ar.wrap (a.x+a.y)/\(gF a.x a.y).snd=ay/\True
def y3a (i:I2):Prop:=
 cnd (decide (i.x<0)==decide (i.y<0)) (cnd (!decide (ar.wrap (i.x+i.y)<0)==decide (i.x<0)) (∃(a:Unit),(gF i.x i.y).fst=0/\(gF i.x i.y).snd=ax/\True) (zOl i)) (zOl i)
def zOv (a:I2):Prop:=∃(b:Unit),(h9 a.x a.y).fst=ar.wrap (a.x-a.y)/\(h9 a.x a.y).snd=ay/\True
def yZu (i:I2):Prop:=
 cnd (!decide (i.x<0)==decide (i.y<0)) (cnd (!decide (ar.wrap (i.x-i.y)<0)==decide (i.x<0)) (∃(a:Unit),(h9 i.x i.y).fst=0/\(h9 i.x i.y).snd=ax/\True) (zOv i)) (zOv i)
def y4m (i:z3w) (h:offC.cnd i):y1m i:=by
 have h:1<=i.p.tick:=h;unfold y1m;exact kp
def yGe:offC.ok Tryz.prog 152:=okw mixed gok0 0 (λ_=>[]) (λ_=>[]) [] Tryz.func152 y4m
def zIp {α:Type} {f:α->Bool} {l:List α} (h:∀(k:Nat) (x:α),l[k]? =ba x->f x=ax):l.findIdx? f=bc:=by
 rw[xAp];intro x hx;obtain⟨k,hk⟩:=xBn hx;exact h k x hk
def zHs {α:Type} {f:α->Bool} {l:List α} {j:Nat} {x:α} (h1:l[j]? =ba x) (h2:f x=ay) (h:∀k<j,∀x:α,l[k]? =ba x->f x=ax):l.findIdx? f=ba j:=by
 rw[y9h];obtain⟨hj,rfl⟩:=y6c.1 h1;exact⟨hj,h2,λk hk=>by rw[h k hk _ (y6z (by omega))];simp⟩
def y4p (i:zVz) (h:idxC.cnd i):yYv i:=by
 obtain⟨h1,h2⟩:1<=i.p.tick/\i.l.length<=1099511627776:=h;unfold yYv dI;simp only[yY];refine⟨0,rfl,λj=>j<=i.l.length/\∀k<j,∀x,i.l[k]? =ba x->qO i.p.tick x=ax,λj=>i.l.length-j,⟨oM,λk hk=>by omega⟩,?_⟩;rintro j ⟨h3,h4⟩;refine zI (λhj=> ?_) (λhj=> ?_)
 ·obtain⟨n,hn⟩:=yC (l:=i.l) (i:=j) oM;refine⟨⟨oM,oM⟩,n,elI hn,⟨i.p,n⟩,?_⟩
  (repeat'(first|exact rfl|exact trivial|assumption|apply be|refineλ(_:Unit) (_:True)=>?_|refine az () ?_|omega|(dsimp only;omega)))
  refine Cv.cnd.mk (λe=> ?_) (λe=> ?_)
  ·rw[zHs hn e h4];exact kp
  ·refine⟨j+1,by rw[w64 (by omega)];rfl,⟨oM,λk hk x hx=> ?_⟩,by(first|omega|(dsimp only;omega)),rfl⟩;rcases y8h k j with hk'|hk'
   ·exact h4 k hk' x hx
   ·obtain rfl:k=j:=by omega
    rw[hn]at hx;cases hx;exact e
 ·rw[zIp λk x hx=>h4 k (by have:=(y6c.1 hx).1;omega) x hx];exact kp
def yXp:idxC.ok Tryz.prog 174:=okw mixed (gokc yGe gok0) 0 (λ_=>[]) (λi=>y4z i) [] Tryz.func174 y4p
def yCb {l:List Int} {f:Int->Bool}:l.any f=decide (zJu (l.findIdx? f)>=0):=by
 cases hf:l.findIdx? f with
 |none=>
  rw[xAp]at hf;have:l.any f=ax:=by rw[xCf];intro x hx;simp[hf x hx]
  rw[this];rfl
 |some k=>
  rw[y9h]at hf;obtain⟨hk,h1,_⟩:=hf;have:l.any f=ay:=by rw[List.any_eq_true];exact⟨_,List.getElem_mem hk,h1⟩
  rw[this,zJu,y6p (by omega)]
def yAw (i:zVz) (h:containsC.cnd i):zSx i:=by
 unfold zSx;have h':1<=i.p.tick/\i.l.length<=1099511627776:=h;refine⟨i,?_⟩
 (repeat'(first|exact rfl|exact trivial|assumption|apply be|refineλ(_:Unit) (_:True)=>?_|refine az () ?_|omega|(dsimp only;omega)))
 exact yCb
def z0k:containsC.ok Tryz.prog 153:=okw mixed (gokc yXp gok0) 0 (λ_=>[]) (λ_=>[]) [] Tryz.func153 yAw
def yXq (p:Prd) (h:ticksC.cnd p):yGy p:=by
 obtain⟨h1,h2,h3⟩:p.small:=h;unfold yGy;refine zI (λc1=>⟨(),by rw[qI,y6n (by omega)];rfl,trivial⟩) (λc1=>zI (λc2=>⟨(),by rw[qI,y6n (show ¬p.tick<=1000 by omega)];simp,trivial⟩) (λc2=>⟨⟨p,p.low⟩,?_⟩));have e1:qI p=(!qO p.tick p.low && !qO p.tick p.high && !qO p.tick p.wide && !p.settle.any (qO p.tick)):=by
  rw[qI,y6p (by omega),y6p (by omega)];rfl
 rw[e1]
 (repeat'(first|exact rfl|exact trivial|assumption|apply be|refineλ(_:Unit) (_:True)=>?_|refine az () ?_|omega|(dsimp only;omega)))
 refine Cv.cnd.mk (λc3=>⟨⟨p,p.high⟩,?_⟩) (λc3=>⟨(),?_,trivial⟩)
 ·dsimp only at c3
  (repeat'(first|exact rfl|exact trivial|assumption|apply be|refineλ(_:Unit) (_:True)=>?_|refine az () ?_|omega|(dsimp only;omega)))
  refine Cv.cnd.mk (λc4=>⟨⟨p,p.wide⟩,?_⟩) (λc4=>⟨(),?_,trivial⟩)
  ·dsimp only at c4
   (repeat'(first|exact rfl|exact trivial|assumption|apply be|refineλ(_:Unit) (_:True)=>?_|refine az () ?_|omega|(dsimp only;omega)))
   refine Cv.cnd.mk (λc5=>⟨⟨p,p.settle⟩,?_⟩) (λc5=>⟨(),?_,trivial⟩)
   ·dsimp only at c5
    (repeat'(first|exact rfl|exact trivial|assumption|apply be|refineλ(_:Unit) (_:True)=>?_|refine az () ?_|omega|(dsimp only;omega)))
    rw[c3,c4,c5];simp
   ·dsimp only at c5;rw[c5];simp
  ·dsimp only at c4;rw[c4];simp
 ·dsimp only at c3;rw[c3];simp
def yEg:ticksC.ok Tryz.prog 123:=okw mixed (gokc yGe (gokc z0k gok0)) 0 (λ_=>[]) (λ_=>[]) [] Tryz.func123 yXq
def yTg (p:Prd) (h:checkC.cnd p):yFs p:=by
 obtain⟨h1,h2,h3⟩:p.small:=h;unfold yFs xF vA z5;simp only[yY];refine⟨p.code,rfl,h1,λ_ _=>Cv.cnd.mk (λc1=>⟨(),by rw[Prd.check,y6a c1],trivial⟩) (λc1=>⟨p.months,rfl,h2,λ_ _=>Cv.cnd.mk (λc2=>⟨(),by rw[Prd.check,y5x (by simp[c1]),y6a c2],trivial⟩) (λc2=>⟨p,?_⟩)⟩)⟩
 (repeat'(first|exact rfl|exact trivial|assumption|apply be|refineλ(_:Unit) (_:True)=>?_|refine az () ?_|omega|(dsimp only;omega)))
 refine Cv.cnd.mk (λc3=>⟨(),by rw[Prd.check,y5x (by simp[c1]),y5x (by simp[c2]),y6a c3],trivial⟩) (λc3=> ?_);have e0:p.check=if qK p then 23 else if xJ p then 1 else if kK p then 31 else if x7 p then 24 else 0:=by
  rw[Prd.check,y5x (by simp[c1]),y5x (by simp[c2]),y5x (by simp[c3])]
 have b (hb:qK p=ay):∃(o:Unit),p.check=23/\True:=⟨(),by rw[e0,y6a hb],trivial⟩
 refine zI (λd1=>b (by simp[qK,d1])) λd1=>zI (λd2=>b (by simp[qK];omega)) λd2=>zI (λd3=>b (by simp[qK];omega)) λd3=>zI (λd4=>b (by simp[qK];omega)) λd4=> ?_
 rw[w64 (by omega)];refine zI (λd5=>b (by simp[qK];omega)) λd5=> ?_
 have e1:p.check=if xJ p then 1 else if kK p then 31 else if x7 p then 24 else 0:=by
  rw[e0,y5x (by simp[qK];omega)]
 have s (hb:xJ p=ay):∃(o:Unit),p.check=1/\True:=⟨(),by rw[e1,y6a hb],trivial⟩
 have hm:2<=p.months.length:=by
  have c2:xH p.months=ay:=by simpa using c2
  simp[xH]at c2;omega
 refine Cv.cnd.mk (λd6=>s (by have d6:¬(p.settle.length:Int)=p.months.length:=(by simpa using d6);simp[xJ];omega)) λd6=> ?_
 have d6:p.settle.length=p.months.length:=by
  have:(p.settle.length:Int)=p.months.length:=by simpa using d6
  omega
 refine⟨p.settle,rfl,⟨oM,oM⟩,λ_ _=>⟨kp,zI (λd7=>s (by simp[xJ];left;right;omega)) λd7=>⟨p.settle,rfl,⟨oM,oM⟩,λ_ _=>⟨kp,zI (λd8=>s (by simp[xJ];right;omega)) λd8=> ?_⟩⟩⟩⟩;have e2:p.check=if kK p then 31 else if x7 p then 24 else 0:=by
  rw[e1,y5x (by simp[xJ];omega)]
 have r (hb:kK p=ay):∃(o:Unit),p.check=31/\True:=⟨(),by rw[e2,y6a hb],trivial⟩
 refine zI (λd9=>r (by simp[kK];omega)) λd9=>zI (λd10=>r (by simp[kK];omega)) λd10=> ?_
 have e3:p.check=if x7 p then 24 else 0:=by
  rw[e2,y5x (by simp[kK];omega)]
 have q (hb:x7 p=ay):∃(o:Unit),p.check=24/\True:=⟨(),by rw[e3,y6a hb],trivial⟩
 refine zI (λf1=>q (by simp[x7];omega)) λf1=>zI (λf2=>q (by simp[x7];omega)) λf2=>zI (λf3=>q (by simp[x7];omega)) λf3=>zI (λf4=>q (by simp[x7];omega)) λf4=>zI (λf5=>q (by simp[x7];omega)) λf5=>zI (λf6=>q (by simp[x7];omega)) λf6=> ?_
 exact⟨(),by rw[e3,y5x (by simp[x7];omega)],trivial⟩
def eE:checkC.ok Tryz.prog 75:=okw mixed (gokc yVh (gokc yDk (gokc yEg (gokc yWv (gokc yVt gok0))))) 0 (λ_=>[]) (λ_=>[]) [] Tryz.func75 yTg
structure Prd.Ok (p:Prd):Prop where
 sym:wJ p.code=ay
 months:xH p.months=ay
 ticks:qI p=ay
 m2:2<=p.months.length
 m6:p.months.length<=6
 t1:1<=p.tick
 t2:p.tick<=1000
 b1: -1000000<=p.low
 b2:p.low<p.high
 b3:p.high<=1000000
 b4:0<=p.wide
 b5:p.wide<=p.high-p.low
 s1:p.settle.length=p.months.length
 s2:p.low<=rU p.settle
 s3:tO p.settle<=p.high
 r1:1<=p.rule
 r2:p.rule<=3
 q1:0<=p.top
 q2:p.top<=1000000
 q3:1<=p.least
 q4:p.least<=1000
 q5:0<=p.part
 q6:p.part<=100
def kI {p:Prd} (h:p.check=0):p.Ok:=by
 unfold Prd.check at h;split at h<;>first|(exfalso;revert h;decide)|skip
 rename_i c1;split at h<;>first|(exfalso;revert h;decide)|skip
 rename_i c2;split at h<;>first|(exfalso;revert h;decide)|skip
 rename_i c3;split at h<;>first|(exfalso;revert h;decide)|skip
 rename_i c4;split at h<;>first|(exfalso;revert h;decide)|skip
 rename_i c5;split at h<;>first|(exfalso;revert h;decide)|skip
 rename_i c6;split at h<;>first|(exfalso;revert h;decide)|skip
 rename_i c7;simp only[y9m,Bool.not_eq_false,Bool.not_eq_true]at c1 c2 c3;have m:=c2;have t:=c3;simp[xH]at m;simp[qI]at t;simp[qK]at c4;simp[xJ]at c5;simp[kK]at c6;simp[x7]at c7;exact⟨c1,c2,c3,oM,oM,oM,oM,oM,oM,oM,oM,oM,oM,oM,oM,oM,oM,oM,oM,oM,oM,oM,oM⟩
def yEu {n:Nat} (h:n<=6):n+n*(n-1) / 2<=21:=by
 have:∀n≤6,n+n*(n-1) / 2<=21:=by decide
 exact this n h
def yOg (p:Prd) (h:pcountC.cnd p):z6p p:=by
 unfold z6p rJ xF z5;obtain⟨h1,h2,h3⟩:p.small:=h;refine⟨p,?_⟩;simp only[yY]
 (repeat'(first|exact rfl|exact trivial|assumption|apply be|refineλ(_:Unit) (_:True)=>?_|refine az () ?_|omega|(dsimp only;omega)))
 refine Cv.cnd.mk (λc=>⟨(),by rw[Prd.count,y5x (by simpa using c)];rfl,trivial⟩) (λc=> ?_);have c:p.check=0:=by simpa using c
 have ok:=kI c;refine⟨kp,Z8,(),?_,trivial⟩;rw[Prd.count,y6a c];obtain⟨n,hn⟩:∃n,p.months.length=n:=⟨_,rfl⟩
 have m2:=ok.m2;have m6:=ok.m6;rw[hn]at m2 m6 ⊢;have:n=2\/n=3\/n=4\/n=5\/n=6:=by omega
 rcases this with rfl|rfl|rfl|rfl|rfl<;>rfl
def bZ:pcountC.ok Tryz.prog 77:=okw mixed (gokc eE gok0) 0 (λ_=>[]) (λ_=>[]) [] Tryz.func77 yOg
def eW {p:Prd} (h:p.count≠0):p.check=0:=by
 unfold Prd.count at h;split at h
 ·assumption
 ·exact absurd rfl h
def xL (p:Prd):p.count<=21:=by
 unfold Prd.count;split
 ·rename_i h;exact yEu (kI h).m6
 ·omega
def zNe {n m:Nat} (h:n<=6) (hm:m<=n):yK n m<=21:=by
 have:∀n≤6,∀m≤n,yK n m<=21:=by decide
 exact this n h m hm
def yZh (i:cG) (h:legsC.cnd i):yRv i:=by
 unfold yRv zFp sK zAt fD zHm vH uI z5 dI;obtain⟨h1,h2,h3⟩:i.p.small:=h;refine⟨i.p,?_⟩;simp only[yY]
 (repeat'(first|exact rfl|exact trivial|assumption|apply be|refineλ(_:Unit) (_:True)=>?_|refine az () ?_|omega|(dsimp only;omega)))
 refine zI (λc1=> ?_) (λc1=>zI (λc2=> ?_) (λc2=> ?_))
 ·rw[Prd.legs,y6a (by omega)];exact kp
 ·rw[Prd.legs,y6a (by omega)];exact kp
 have c2:¬i.n>=(i.p.count:Int):=c2;have hc:=xL i.p;have ok:=kI (eW (p:=i.p) oM);have m6:=ok.m6;refine zI (λc3=> ?_) (λc3=> ?_)
 ·rw[Prd.legs,y5x (by omega),y6a c3];exact kp
 have e0:i.p.legs i.n=kU i.p.months.length i.n.toNat i.p.months.length 0:=by
  rw[Prd.legs,y5x (by omega),y5x c3]
 rw[e0];generalize hn:i.p.months.length=n at c3 m6 ⊢;obtain⟨k,hk⟩:∃k:Nat,i.n=k:=⟨i.n.toNat,oM⟩
 rw[hk]at c2 c3 ⊢;refine⟨0,rfl,rfl,λm=>m<=n/\yK n m<=k/\kU n k n 0=kU n k (n-m) m,λm=>n-m,⟨oM,by show n<=k;omega,rfl⟩,?_⟩;rintro m ⟨g1,g2,g3⟩;have hf:=zNe m6 g1;refine zI (λc4=> ?_) (λc4=> ?_)
 ·obtain⟨r,hr⟩:∃r,n-m=r+1:=⟨n-m-1,oM⟩
  have e1:(k:Int).toNat=k:=by omega
  rw[e1,g3,hr,w64 (x:=(n:Int)-1) (by omega),w64 (x:=(n:Int)-1-m) (by omega),w64 (x:=(yK n m:Int)+((n:Int)-1-m)) (by omega),w64 (x:=(m:Int)+1) (by omega)];rw[hr]at g3;refine zI (λc5=> ?_) (λc5=> ?_)
  ·rw[w64 (x:=(m:Int)+1+k) (by omega),w64 (x:=(m:Int)+1+k-(yK n m:Int)) (by omega),kU,y6a (by omega)];refine⟨(),rfl,?_,rfl,trivial⟩;dsimp only;omega
  ·refine⟨m+1,?_,rfl,⟨oM,?_,?_⟩,by(first|omega|(dsimp only;omega)),kp⟩
   ·rw[yK];omega
   ·rw[yK];omega
   ·rw[kU,y5x (by omega),show n-(m+1)=r by omega]
 ·have e1:(k:Int).toNat=k:=by omega
  rw[e1,g3,show n-m=0 by omega];exact⟨(),rF3 trivial⟩
def zAb:legsC.ok Tryz.prog 133:=okw mixed (gokc bZ gok0) 0 (λ_=>[]) (λi=>y1a i) [] Tryz.func133 yZh
def yOu (i:tP) (h:spreadC.cnd i):z9n i:=by
 unfold z9n cS z5 dI;obtain⟨h1,h2,h3⟩:i.p.small:=h;refine⟨i.p,?_⟩;simp only[yY]
 (repeat'(first|exact rfl|exact trivial|assumption|apply be|refineλ(_:Unit) (_:True)=>?_|refine az () ?_|omega|(dsimp only;omega)))
 have bad (hb:i.p.check≠0\/i.a<0\/i.b<=i.a\/(i.p.months.length:Int)<=i.b):∃(o:Unit),(i.p.spread i.a i.b).fst=0/\(i.p.spread i.a i.b).snd=ax/\True:=⟨(),by rw[Prd.spread,y6a hb],by rw[Prd.spread,y6a hb],trivial⟩
 refine Cv.cnd.mk (λc1=>bad (.inl (by simpa using c1))) λc1=>zI (λc2=>bad oM) λc2=>zI (λc3=>bad oM) λc3=>zI (λc4=>bad oM) λc4=> ?_
 have c1:i.p.check=0:=by simpa using c1
 have m6:=(kI c1).m6;rw[Prd.spread,y5x (by omega)];generalize hn:i.p.months.length=n at c4 m6 ⊢;obtain⟨a,ha⟩:∃k:Nat,i.a=k:=⟨i.a.toNat,oM⟩
 rw[ha]at c3 ⊢;refine⟨0,rfl,rfl,λm=>m<=a,λm=>a-m,oM,?_⟩;intro m hm;have hm:m<=a:=hm;have hf:=zNe (m:=m) m6 oM;refine zI (λc5=> ?_) (λc5=> ?_)
 ·rw[w64 (x:=(n:Int)-1) (by omega),w64 (x:=(n:Int)-1-m) (by omega),w64 (x:=(yK n m:Int)+((n:Int)-1-m)) (by omega),w64 (x:=(m:Int)+1) (by omega)];refine⟨m+1,?_,rfl,oM,by(first|omega|(dsimp only;omega)),kp⟩;rw[yK];omega
 ·obtain rfl:m=a:=by omega
  rw[w64 (x:=(yK n m:Int)+i.b) (by omega),w64 (x:=(yK n m:Int)+i.b-m) (by omega),w64 (x:=(yK n m:Int)+i.b-m-1) (by omega)];exact⟨(),rfl,rfl,trivial⟩
def zRm:spreadC.ok Tryz.prog 158:=okw mixed (gokc eE gok0) 0 (λ_=>[]) (λi=>yLk i) [] Tryz.func158 yOu
def yVl (i:tP) (h:priceC.cnd i):yFh i:=by
 unfold yFh z5;obtain⟨h1,h2,h3⟩:i.p.small:=h;refine⟨i.p,?_⟩;simp only[yY]
 (repeat'(first|exact rfl|exact trivial|assumption|apply be|refineλ(_:Unit) (_:True)=>?_|refine az () ?_|omega|(dsimp only;omega)))
 refine Cv.cnd.mk (λc1=>⟨(),by rw[Prd.price,y6a (by have:(i.p.count:Int)=0:=(by simpa using c1);omega)],trivial⟩) λc1=> ?_
 have c1:i.p.count≠0:=by
  have:¬(i.p.count:Int)=0:=by simpa using c1
  omega
 have e0:i.p.price i.a i.b=if i.a<0\/(i.p.count:Int)<=i.a then 20 else if qO i.p.tick i.b then 22 else
  if i.b<(if(i.p.months.length:Int)<=i.a then-i.p.wide else i.p.low)\/(if(i.p.months.length:Int)<=i.a then i.p.wide else i.p.high)<i.b then 23 else 0:=by rw[Prd.price,y5x c1]
 rw[e0];have ok:=kI (eW c1);obtain⟨t1,b3,b1,b2,b4,b5⟩:=(⟨ok.t1,ok.b3,ok.b1,ok.b2,ok.b4,ok.b5⟩:_/\_/\_/\_/\_/\_)
 refine zI (λc2=>⟨(),by rw[y6a (.inl c2)],trivial⟩) λc2=>zI (λc3=>⟨(),by rw[y6a (.inr c3)],trivial⟩) λc3=>⟨kp,oM,?_⟩
 have c3:¬i.a>=(i.p.count:Int):=c3;rw[y5x (by omega)];refine Cv.cnd.mk (λc4=>⟨(),y6a c4,trivial⟩) λc4=> ?_
 rw[y5x (by rw[qO,c4];simp),w64 (x:=0-i.p.wide) (by omega)];refine zI (λc5=> ?_) (λc5=> ?_)
 ·have c5:(i.p.months.length:Int)<=i.a:=c5;simp only[y6a c5];refine zI (λc6=>⟨(),y6a (.inl oM),trivial⟩) λc6=>zI (λc7=>⟨(),y6a (.inr oM),trivial⟩) λc7=>⟨(),y5x oM,trivial⟩
 ·have c5:¬(i.p.months.length:Int)<=i.a:=c5;simp only[y5x c5];refine zI (λc6=>⟨(),y6a (.inl oM),trivial⟩) λc6=>zI (λc7=>⟨(),y6a (.inr oM),trivial⟩) λc7=>⟨(),y5x oM,trivial⟩
def eZ:priceC.ok Tryz.prog 130:=okw mixed (gokc bZ gok0) 0 (λ_=>[]) (λ_=>[]) [] Tryz.func130 yVl
def yQy (x:Int) (h: -18446744073709551616<=x/\x<18446744073709551616):(i64r x/\ar.wrap x=x)\/(9223372036854775807<x/\ar.wrap x=x-18446744073709551616)\/(x< -9223372036854775808/\ar.wrap x=x+18446744073709551616):=by
 have e:ar.wrap x=if(decide (x % 18446744073709551616>=9223372036854775808))=ay then x % 18446744073709551616-18446744073709551616 else x % 18446744073709551616:=by
  have:ar.wrap x=if(ay && decide (x % 18446744073709551616>=9223372036854775808))=ay then x % 18446744073709551616-18446744073709551616 else x % 18446744073709551616:=rfl
  rw[this,y8v]
 have e:ar.wrap x=(x+9223372036854775808) % 18446744073709551616-9223372036854775808:=by
  rw[e];by_cases h2:x % 18446744073709551616>=9223372036854775808
  ·rw[y6a (y6p h2)];omega
  ·rw[y5x (by simpa using h2)];omega
 rw[e];by_cases h1:i64r x
 ·exact .inl ⟨h1,by unfold i64r at h1;omega⟩
 ·unfold i64r at h1;omega
def y4n (i:I2) (h:addC.cnd i):y3a i:=by
 obtain⟨⟨x1,x2⟩,y1,y2⟩:i64r i.x/\i64r i.y:=h;have hw:=yQy (i.x+i.y) oM;unfold y3a zOl gF;generalize ar.wrap (i.x+i.y)=w at hw ⊢;unfold i64r at hw ⊢;refine Cv.cnd.mk (λc1=>Cv.cnd.mk (λc2=> ?_) (λc2=> ?_)) (λc1=> ?_)
 all_goals(simp at*)
 ·rw[y5x (by omega)];exact kp
 ·rw[y6a (by omega)];refine⟨?_,rfl⟩;dsimp only;omega
 ·rw[y6a (by omega)];refine⟨?_,rfl⟩;dsimp only;omega
def zWk:addC.ok Tryz.prog 177:=okw mixed gok0 0 (λ_=>[]) (λ_=>[]) [] Tryz.func177 y4n
def y4g (i:I2) (h:subC.cnd i):yZu i:=by
 obtain⟨⟨x1,x2⟩,y1,y2⟩:i64r i.x/\i64r i.y:=h;have hw:=yQy (i.x-i.y) oM;unfold yZu zOv h9;generalize ar.wrap (i.x-i.y)=w at hw ⊢;unfold i64r at hw ⊢;refine Cv.cnd.mk (λc1=>Cv.cnd.mk (λc2=> ?_) (λc2=> ?_)) (λc1=> ?_)
 all_goals(simp at*)
 ·rw[y5x (by omega)];exact kp
 ·rw[y6a (by omega)];refine⟨?_,rfl⟩;dsimp only;omega
 ·rw[y6a (by omega)];refine⟨?_,rfl⟩;dsimp only;omega
def zWb:subC.ok Tryz.prog 178:=okw mixed gok0 0 (λ_=>[]) (λ_=>[]) [] Tryz.func178 y4g
structure Slot where
 used:Bool
 n:Int
 id:Int
 qty:Int
 top:Bool
 queue:Int
 ahead:Int
 back:Int
 deriving DecidableEq
structure cQ where
 first:Int
 last:Int
 total:Int
 count:Int
 deriving DecidableEq
structure Arena where
 slots:List Slot
 queues:List cQ
 free:Int
 deriving DecidableEq
def zS (s:Slot):List D:=[.v (.bool s.used),.v (.int .i64 s.n),.v (.int .i64 s.id),.v (.int .i64 s.qty),.v (.bool s.top),.v (.int .i64 s.queue),.v (.int .i64 s.ahead),.v (.int .i64 s.back)]
def zP (q:cQ):List D:=[.v (.int .i64 q.first),.v (.int .i64 q.last),.v (.int .i64 q.total),.v (.int .i64 q.count)]
def slot0:Slot:=⟨ax,0,0,0,ax,0,0,0⟩
def zG (a:Arena):Nat->AObj
 |0=> .cells [.own 1,.own 2,zA a.free] 280
 |1=> .own 273 8 (a.slots.map zS)
 |2=> .own 283 4 (a.queues.map zP)
 |_=> .gone
def jV (a:Arena):AObj:= .adt Arena 3 zG a
structure xK where
 price:Int
 queue:Int
 deriving DecidableEq
structure Place where
 side:Int
 price:Int
 slot:Int
 deriving DecidableEq
structure Book where
 a:Arena
 buys:List xK
 sells:List xK
 at_:List (Int×Place)
 top1:Int
 top2:Int
 spare:List Int
 has1:Bool
 has2:Bool
 deriving DecidableEq
def zB (r:xK):List D:=[.v (.int .i64 r.price),.v (.int .i64 r.queue)]
def z3l (p:Place):List D:=[.v (.int .i64 p.side),.v (.int .i64 p.price),.v (.int .i64 p.slot)]
def atE (l:List (Int×Place)):List (cd×List D):=l.map λx=>(.int .i64 x.1,z3l x.2)
def zR (b:Book):Nat->AObj
 |0=> .cells [.nm 1 0,.own 2,.own 3,.mp 4,zA b.top1,zA b.top2,.own 5,yP b.has1,yP b.has2] 245
 |1=>jV b.a
 |2=> .own 255 2 (b.buys.map zB)
 |3=> .own 255 2 (b.sells.map zB)
 |4=> .map (atE b.at_)
 |5=> .own 3 1 (iE b.spare)
 |_=> .gone
def yA (b:Book):AObj:= .adt Book 6 zR b
structure MSt where
 p:Prd
 books:List Book
 wh:List (Int×Int)
def yR (l:List (Int×Int)):List (cd×List D):=l.map λx=>(.int .i64 x.1,[.v (.int .i64 x.2)])
def xO (s:MSt):Nat->AObj
 |0=> .cells [sV s.p.code,.own 3,zA s.p.tick,zA s.p.low,zA s.p.high,zA s.p.wide,zA s.p.rule,zA s.p.top,zA s.p.least,zA s.p.part,.own 4,.own 1,.mp 2] 195
 |1=> .objs 197 Book 6 zR s.books bc
 |2=> .map (yR s.wh)
 |3=> .fro 1 (iE s.p.months)
 |4=> .fro 1 (iE s.p.settle)
 |_=> .gone
def zD (s:MSt):AObj:= .adt MSt 5 xO s
def zPm (n:Nat):Arena:=⟨am n slot0,[],n⟩
def book0:Book:=⟨zPm 250,[],[],[],0,0,[],ax,ax⟩
def newAC:Con:=con1 Nat (λn=>[zA n]) (λ_=>[]) (λn=>1<=n/\n<=4096) (λ_=> .tup [.nm 0 0,zA 0]) (λn=>[jV (zPm n)])
def newBC:Con:=con1 Unit (λ_=>[]) (λ_=>[]) (λ_=>True) (λ_=> .nm 0 0) (λ_=>[yA book0])
def mI (p:Prd):MSt:=⟨p,am p.count book0,[]⟩
def newSC:Con where
 ι:=Prd
 pat:=λp=>[prdV p]
 pre:=λ_=>[]
 cnd:=λp=>p.small
 alts:=λp=>[{o:=Unit,res:=λ_=> .tup [.nm 0 0,zA 0],post:=λ_=>[zD (mI p)],rel:=λ_=>p.check=0},{o:=Unit,res:=λ_=> .tup [.d (.v (.pointer bc)),zA p.check],post:=λ_=>[],rel:=λ_=>p.check≠0}]
def y0d (p:Prd):List SAnn:=[{ι:=Nat,slots:=λj=>[(5,.nm 0 0),(27,zA j)],rows:=λj=>(ao 5).map (xO ⟨p,am j book0,[]⟩)}]
def clSlotC:Con:=con1 (List Slot) (λ_=>[.own 0]) (λl=>[.own 273 8 (l.map zS)]) (λl=>l.length<=1000000) (λ_=> .own 1) (λl=>[.own 273 8 (l.map zS),.own 273 8 (l.map zS)])
def clQueueC:Con:=con1 (List cQ) (λ_=>[.own 0]) (λl=>[.own 283 4 (l.map zP)]) (λl=>l.length<=1000000) (λ_=> .own 1) (λl=>[.own 283 4 (l.map zP),.own 283 4 (l.map zP)])
def clRungC:Con:=con1 (List xK) (λ_=>[.own 0]) (λl=>[.own 255 2 (l.map zB)]) (λl=>l.length<=1000000) (λ_=> .own 1) (λl=>[.own 255 2 (l.map zB),.own 255 2 (l.map zB)])
def clIntC:Con:=con1 (List Int) (λ_=>[.own 0]) (λl=>[.own 3 1 (iE l)]) (λl=>l.length<=1000000) (λ_=> .own 1) (λl=>[.own 3 1 (iE l),.own 3 1 (iE l)])
def zUg (f:Nat):Con:=con1 (List (cd×List D)) (λ_=>[.mp 0]) (λes=>[.map es]) (λ_=>True) (λ_=> .mp 1) (λes=>[.map es,.map es])
def clAtC:Con:=zUg 0
def clWhC:Con:=zUg 1
@[reducible] def Arena.small (a:Arena):Prop:=a.slots.length<=1000000/\a.queues.length<=1000000
@[reducible] def Book.small (b:Book):Prop:=b.a.small/\b.buys.length<=1000000/\b.sells.length<=1000000/\b.spare.length<=1000000
@[reducible] def MSt.small (s:MSt):Prop:=s.books.length<=1000000/\∀b∈s.books,b.small
def copyAC:Con:=con1 Arena (λ_=>[.nm 0 0]) (λa=>[jV a]) Arena.small (λ_=> .nm 1 0) (λa=>[jV a,jV a])
def copyBC:Con:=con1 Book (λ_=>[.nm 0 0]) (λb=>[yA b]) Book.small (λ_=> .nm 1 0) (λb=>[yA b,yA b])
def yVw:List SAnn:=[{ι:=Unit,slots:=λ_=>[],rows:=λ_=>[],un:=3}]
def copySC:Con:=con1 MSt (λ_=>[.nm 0 0]) (λs=>[zD s]) MSt.small (λ_=> .nm 1 0) (λs=>[zD s,zD s])
def ySp (n:Nat):Prop:=
 cnd (decide ((↑n:Int)<1)) (∃(a:Unit),False) (cnd (decide ((↑n:Int)>4096)) (∃(a:Unit),False) ((0<=(↑n:Int)/\(↑n:Int)<=(↑n:Int)/\(↑n:Int)<=9223372036854775807/\(↑(64:Nat):Int)*(↑n:Int)<=2 ^ (48:Nat))/\∃(a:Unit),dh ((0:Int))/\dh ((↑n:Int))/\aj zS (am n slot0)=am (↑n:Int).toNat [D.v (.bool ax),dI 0,dI 0,dI 0,D.v (.bool ax),dI 0,dI 0,dI 0]/\([]:List (List D))=[]/\True))
def y2i (u:Unit):Prop:=
 ∃(i:Nat),(↑i:Int)=250/\(1<=i/\i<=4096)/\∀(o:Unit),True->∃(o:Unit),dh ((0:Int))/\dh ((0:Int))/\ax=ax/\ax=ax/\aa Arena 3 zG (zPm 250)=aa Arena 3 zG (zPm i)/\([]:List (List D))=[]/\([]:List (List D))=[]/\atE []=[]/\iE []=[]/\True
def zIy (a:Prd) (b:Nat) (c:Unit):Prop:=(∃(d:Unit),dh ((0:Int))/\dh (sb a.code)/\dh a.tick/\dh a.low/\dh a.high/\dh a.wide/\dh a.rule/\dh a.top/\dh a.least/\dh a.part/\ae 197 Book 6 zR (am a.count book0) bc=ae 197 Book 6 zR (am b book0) bc/\dh (yR [])/\dh (ab 1 (iE a.months))/\dh (ab 1 (iE a.settle))/\a.check=0)\/∃(c:Unit),False
def bM (a:Prd):Prop:=ab 1 (iE a.settle)=ab 1 (iE a.settle)/\dh (ab 1 (iE a.months))
def uN (a:Prd):=(D.v (bz (sb a.code)))
def zOw (a:Prd):Prop:=True/\True/\(0+(iE a.months).length)*(8:Nat)<=(140737488355328:Nat)/\True/\(0+(iE a.settle).length)*(8:Nat)<=(140737488355328:Nat)/\∃(b:Prd),sb b.code=sb a.code/\iE b.months=[]++iE a.months/\b.tick=a.tick/\b.low=a.low/\b.high=a.high/\b.wide=a.wide/\b.rule=a.rule/\b.top=a.top/\b.least=a.least/\b.part=a.part/\iE b.settle=[]++iE a.settle/\(z5 b)/\∀(c:Unit),True->∃(d:Nat),(↑d:Int)=0/\dh (sb a.code)/\dh a.tick/\dh a.low/\dh a.high/\dh a.wide/\dh a.rule/\dh a.top/\dh a.least/\dh a.part/\am d book0=[]/\(bc:Option Nat)=bc/\yR []=[]/\ab 1 (iE a.months)=ab 1 ([]++iE a.months)/\ab 1 (iE a.settle)=ab 1 ([]++iE a.settle)/\∃(e:Nat->Prop),∃(f:Nat->Nat),e d/\∀(g:Nat),e g->cnd (decide ((↑g:Int)<(↑b.count:Int))) (∃(h:Unit),True/\∀(j:Unit),True->True/\True/\∃(k:List Book),ae 197 Book 6 zR (am g book0) bc=ae 197 Book 6 zR k bc/\(k.length+1)*(8:Nat)<=(140737488355328:Nat)/\∃(l:Nat),(↑l:Int)=ar.wrap ((↑g:Int)+1)/\dh (sb a.code)/\dh a.tick/\dh a.low/\dh a.high/\dh a.wide/\dh a.rule/\dh a.top/\dh a.least/\dh a.part/\ae 197 Book 6 zR (am l book0) bc=ae 197 Book 6 zR (k++[book0]) bc/\dh (yR [])/\dh (ab 1 (iE a.months))/\dh (ab 1 (iE a.settle))/\e l/\f l<f g/\dh (ab 1 ([]++iE a.settle))/\dh (ab 1 ([]++iE a.months))/\dh (ac [V.d (uN a),V.own 5,V.d (dI a.tick),V.d (dI a.low),V.d (dI a.high),V.d (dI a.wide),V.d (dI a.rule),V.d (dI a.top),V.d (dI a.least),V.d (dI a.part),V.own 6] 25)/\bM a) (zIy a g c)
def ySn (p:Prd):Prop:=
 ∃(a:Prd),sb a.code=sb p.code/\iE a.months=iE p.months/\a.tick=p.tick/\a.low=p.low/\a.high=p.high/\a.wide=p.wide/\a.rule=p.rule/\a.top=p.top/\a.least=p.least/\a.part=p.part/\iE a.settle=iE p.settle/\(z5 a)/\∀(b:Unit),True->cnd (a.check !=0) ((∃(c:Unit),False)\/∃(b:Unit),True/\p.check=a.check/\(p.check=0->False)) ((True/\True/\((0+(iE p.months).length)*(8:Nat)<=(140737488355328:Nat)/\True/\True/\(0+(iE p.settle).length)*(8:Nat)<=(140737488355328:Nat)/\∃(c:Prd),sb c.code=sb p.code/\iE c.months=[]++iE p.months/\c.tick=p.tick/\c.low=p.low/\c.high=p.high/\c.wide=p.wide/\c.rule=p.rule/\c.top=p.top/\c.least=p.least/\c.part=p.part/\iE c.settle=[]++iE p.settle/\(z5 c)/\∀(d:Unit),True->∃(e:Nat),(↑e:Int)=0/\dh (sb p.code)/\dh p.tick/\dh p.low/\dh p.high/\dh p.wide/\dh p.rule/\dh p.top/\dh p.least/\dh p.part/\am e book0=[]/\(bc:Option Nat)=bc/\yR []=[]/\ab 1 (iE p.months)=ab 1 ([]++iE p.months)/\ab 1 (iE p.settle)=ab 1 ([]++iE p.settle)/\∃(f:Nat->Prop),∃(g:Nat->Nat),f e/\∀(h:Nat),f h->cnd (decide ((↑h:Int)<(↑c.count:Int))) (∃(j:Unit),True/\∀(k:Unit),True->True/\True/\∃(l:List Book),ae 197 Book 6 zR (am h book0) bc=ae 197 Book 6 zR l bc/\(l.length+1)*(8:Nat)<=(140737488355328:Nat)/\∃(m:Nat),(↑m:Int)=ar.wrap ((↑h:Int)+1)/\dh (sb p.code)/\dh p.tick/\dh p.low/\dh p.high/\dh p.wide/\dh p.rule/\dh p.top/\dh p.least/\dh p.part/\ae 197 Book 6 zR (am m book0) bc=ae 197 Book 6 zR (l++[book0]) bc/\dh (yR [])/\dh (ab 1 (iE p.months))/\dh (ab 1 (iE p.settle))/\f m/\g m<g h/\dh (ab 1 ([]++iE p.settle))/\dh (ab 1 ([]++iE p.months))/\dh (ac [V.d (uN p),V.own 4,V.d (dI p.tick),V.d (dI p.low),V.d (dI p.high),V.d (dI p.wide),V.d (dI p.rule),V.d (dI p.top),V.d (dI p.least),V.d (dI p.part),V.own 6] 25)/\bM p) (zIy p h d))/\zOw p)/\True/\True/\zOw p)
def yPs (l:List Slot):Prop:=
 ∀(b:Bool),(b=ay->aj zS l=[])->cnd b (∃(o:Unit),dh (aj zS l)/\aj zS l=[]/\True) ((0+(aj zS l).length)*(64:Nat)<=(140737488355328:Nat)/\∃(o:Unit),dh (aj zS l)/\aj zS l=[]++aj zS l/\True)
def yEh (l:List cQ):Prop:=
 ∀(b:Bool),(b=ay->aj zP l=[])->cnd b (∃(o:Unit),dh (aj zP l)/\aj zP l=[]/\True) ((0+(aj zP l).length)*(32:Nat)<=(140737488355328:Nat)/\∃(o:Unit),dh (aj zP l)/\aj zP l=[]++aj zP l/\True)
def yLl (l:List xK):Prop:=
 ∀(b:Bool),(b=ay->aj zB l=[])->cnd b (∃(o:Unit),dh (aj zB l)/\aj zB l=[]/\True) ((0+(aj zB l).length)*(16:Nat)<=(140737488355328:Nat)/\∃(o:Unit),dh (aj zB l)/\aj zB l=[]++aj zB l/\True)
def yWh (l:List Int):Prop:=
 ∀(b:Bool),(b=ay->iE l=[])->cnd b (∃(o:Unit),iE l=iE l/\iE l=[]/\True) ((0+(iE l).length)*(8:Nat)<=(140737488355328:Nat)/\∃(o:Unit),iE l=iE l/\iE l=[]++iE l/\True)
def yFk (es:List (cd×List D)):Prop:=
 ∃(a:List (cd×List D)),a=es/\True/\∀(b:Unit),True->∃(c:Unit),es=a/\es=a/\True
def yYm (es:List (cd×List D)):yFk es=walk Tryz.prog ([(146,vB 243)]) 0 ([]) ([]) [] Tryz.f160 (Tryz.f160.body.getD .skip) (clAtC.pat es) (clAtC.pre es) (clAtC.alts es):=by kernel_rfl
def yXu (hG:GOk Tryz.prog ([(146,vB 243)])) (h:∀(es:List (cd×List D)),clAtC.cnd es->yFk es):clAtC.ok Tryz.prog 160:=wT mixed ([(146,vB 243)]) hG 0 (λ(es:List (cd×List D))=>[]) (λ(es:List (cd×List D))=>[]) [] Tryz.func160 (by kernel_rfl) (by kernel_rfl) (by kernel_rfl) (λ_=>by kernel_rfl) (λ(es:List (cd×List D)) hc=>Eq.mp (yYm es) (h es hc))
def yFo (es:List (cd×List D)):Prop:=
 ∃(a:List (cd×List D)),a=es/\True/\∀(b:Unit),True->∃(c:Unit),es=a/\es=a/\True
def yXe (es:List (cd×List D)):yFo es=walk Tryz.prog ([(146,vB 109)]) 0 ([]) ([]) [] Tryz.f109 (Tryz.f109.body.getD .skip) (clWhC.pat es) (clWhC.pre es) (clWhC.alts es):=by kernel_rfl
def yUj (hG:GOk Tryz.prog ([(146,vB 109)])) (h:∀(es:List (cd×List D)),clWhC.cnd es->yFo es):clWhC.ok Tryz.prog 109:=wT mixed ([(146,vB 109)]) hG 0 (λ(es:List (cd×List D))=>[]) (λ(es:List (cd×List D))=>[]) [] Tryz.func109 (by kernel_rfl) (by kernel_rfl) (by kernel_rfl) (λ_=>by kernel_rfl) (λ(es:List (cd×List D)) hc=>Eq.mp (yXe es) (h es hc))
def yXk (a:Arena):Prop:=
 ∃(i:List Slot),aj zS i=aj zS a.slots/\i.length<=1000000/\∀(o:Unit),True->dh a.free/\True/\∃(i_1:List cQ),aj zP i_1=aj zP a.queues/\i_1.length<=1000000/\∀(o:Unit),True->dh a.free/\∃(o:Unit),dh a.free/\aj zS a.slots=aj zS i/\aj zP a.queues=aj zP i_1/\dh a.free/\aj zS a.slots=aj zS i/\aj zP a.queues=aj zP i_1/\True
def yUs (b:Book):Prop:=
 ∃(i:Arena),aa Arena 3 zG i=aa Arena 3 zG b.a/\(i.slots.length<=1000000/\i.queues.length<=1000000)/\∀(o:Unit),True->True/\True/\∃(i_1:List (cd×List D)),i_1=atE b.at_/\True/\∀(o:Unit),True->True/\∃(i_2:List Int),iE i_2=iE b.spare/\i_2.length<=1000000/\∀(o:Unit),True->∃(i_3:List xK),aj zB i_3=aj zB b.buys/\i_3.length<=1000000/\∀(o:Unit),True->∃(i_4:List xK),aj zB i_4=aj zB b.sells/\i_4.length<=1000000/\∀(o:Unit),True->∃(o:Unit),dh b.top1/\dh b.top2/\dh b.has1/\dh b.has2/\aa Arena 3 zG b.a=aa Arena 3 zG i/\aj zB b.buys=aj zB i_3/\aj zB b.sells=aj zB i_4/\atE b.at_=i_1/\iE b.spare=iE i_2/\dh b.top1/\dh b.top2/\dh b.has1/\dh b.has2/\aa Arena 3 zG b.a=aa Arena 3 zG i/\aj zB b.buys=aj zB i_3/\aj zB b.sells=aj zB i_4/\atE b.at_=i_1/\iE b.spare=iE i_2/\True
def y1d (n:Nat) (h:newAC.cnd n):ySp n:=by
 obtain⟨h1,h2⟩:1<=n/\n<=4096:=h;unfold ySp dI;refine zI (λc=>by omega) λc=>zI (λc=>by omega) λc=> ?_
 refine⟨⟨oM,oM,oM,?_⟩,?_⟩
 ·have:(2:Int) ^ (48:Nat)=281474976710656:=by decide
  rw[this];omega
 ·refine⟨(),rfl,rfl,?_,rfl,trivial⟩;rw[List.map_replicate];rfl
def yLm:newAC.ok Tryz.prog 188:=okw mixed gok0 0 (λ_=>[]) (λ_=>[]) [] Tryz.func188 y1d
def yPh:newBC.ok Tryz.prog 172:=okw (V:=y2i) mixed (gokc yLm gok0) 0 (λ_=>[]) (λ_=>[]) [] Tryz.func172 λ(u:Unit) _=>by
 refine⟨250,rfl,⟨oM,oM⟩,?_⟩;exact kp
def y2r (p:Prd) (h:newSC.cnd p):ySn p:=by
 unfold ySn zOw uN bM zIy z5 dI;have hs:p.small:=h;obtain⟨h1,h2,h3⟩:p.small:=h;refine⟨p,?_⟩;simp only[yY]
 (repeat'(first|exact rfl|exact trivial|assumption|apply be|refineλ(_:Unit) (_:True)=>?_|refine az () ?_|omega|(dsimp only;omega)))
 refine Cv.cnd.mk (λc=> .inr ⟨(),trivial,kp,by simpa using c⟩) λc=> ?_
 have c:p.check=0:=by simpa using c
 have hc:=xL p
 (repeat'(first|exact rfl|exact trivial|assumption|apply be|refineλ(_:Unit) (_:True)=>?_|refine az () ?_|omega|(dsimp only;omega)))
 all_goals(refine⟨p,?_⟩;(repeat'(first|exact rfl|exact trivial|assumption|apply be|refineλ(_:Unit) (_:True)=>?_|refine az () ?_|omega|(dsimp only;omega))))
 all_goals(refine⟨0,?_⟩;(repeat'(first|exact rfl|exact trivial|assumption|apply be|refineλ(_:Unit) (_:True)=>?_|refine az () ?_|omega|(dsimp only;omega))))
 all_goals(refine⟨λj=>j<=p.count,λj=>p.count-j,oM,λj hj=>zI (λhlt=> ?_) (λhlt=> ?_)⟩;all_goals dsimp only at hj hlt)
 all_goals first
  |(refine .inl ⟨(),?_⟩
    obtain rfl:j=p.count:=by omega
    (repeat'(first|exact rfl|exact trivial|assumption|apply be|refineλ(_:Unit) (_:True)=>?_|refine az () ?_|omega|(dsimp only;omega))))
  |(refine⟨(),trivial,λ_ _=>⟨trivial,trivial,am j book0,rfl,?_,j+1,?_⟩⟩
    ·rw[y9d];omega
    ·rw[w64 (by omega),<- List.replicate_succ']
     (repeat'(first|exact rfl|exact trivial|assumption|apply be|refineλ(_:Unit) (_:True)=>?_|refine az () ?_|omega|(dsimp only;omega))))
def yPu:newSC.ok Tryz.prog 144:=okw mixed (gokc eE (gokc bZ (gokc yPh gok0))) 0 (λ_=>[]) (λp=>y0d p) [] Tryz.func144 y2r
def yBv:clSlotC.ok Tryz.prog 179:=okw (V:=yPs) mixed gok0 0 (λ_=>[]) (λ_=>[]) [] Tryz.func179 λ(l:List Slot) h=>by
 have h:l.length<=1000000:=h;exactλb hb=>Cv.cnd.mk (λe=>⟨(),rfl,hb e,trivial⟩) (λ_=>⟨by rw[y6x,y5z];omega,(),rfl,rfl,trivial⟩)
def z2x:clQueueC.ok Tryz.prog 180:=okw (V:=yEh) mixed gok0 0 (λ_=>[]) (λ_=>[]) [] Tryz.func180 λ(l:List cQ) h=>by
 have h:l.length<=1000000:=h;exactλb hb=>Cv.cnd.mk (λe=>⟨(),rfl,hb e,trivial⟩) (λ_=>⟨by rw[y6x,y5z];omega,(),rfl,rfl,trivial⟩)
def yDo:clRungC.ok Tryz.prog 161:=okw (V:=yLl) mixed gok0 0 (λ_=>[]) (λ_=>[]) [] Tryz.func161 λ(l:List xK) h=>by
 have h:l.length<=1000000:=h;exactλb hb=>Cv.cnd.mk (λe=>⟨(),rfl,hb e,trivial⟩) (λ_=>⟨by rw[y6x,y5z];omega,(),rfl,rfl,trivial⟩)
def yHv:clIntC.ok Tryz.prog 49:=okw (V:=yWh) mixed gok0 0 (λ_=>[]) (λ_=>[]) [] Tryz.func49 λ(l:List Int) h=>by
 have h:l.length<=1000000:=h;exactλb hb=>Cv.cnd.mk (λe=>⟨(),rfl,hb e,trivial⟩) (λ_=>⟨by rw[y6x,yY];omega,(),rfl,rfl,trivial⟩)
def zAi (t:Nat):(vB t).ok Tryz.prog 146:=z4i Tryz.func146 (by kernel_rfl) (by kernel_rfl) (by kernel_rfl) (by kernel_rfl) t
def yMe:clAtC.ok Tryz.prog 160:=yXu (gokc (zAi _) gok0) λes _=>by
 unfold yFk;refine⟨es,?_⟩;exact kp
def yNh:clWhC.ok Tryz.prog 109:=yUj (gokc (zAi _) gok0) λes _=>by
 unfold yFo;refine⟨es,?_⟩;exact kp
def yIl:copyAC.ok Tryz.prog 159:=okw (V:=yXk) mixed (gokc yBv (gokc z2x gok0)) 0 (λ_=>[]) (λ_=>[]) [0] Tryz.func159 λ(a:Arena) h=>by
 obtain⟨h1,h2⟩:a.small:=h;refine⟨a.slots,?_⟩;(repeat'(first|exact rfl|exact trivial|assumption|apply be|refineλ(_:Unit) (_:True)=>?_|refine az () ?_|omega|(dsimp only;omega)));refine⟨a.queues,?_⟩;exact kp
def yFz:copyBC.ok Tryz.prog 131:=okw (V:=yUs) mixed (gokc yIl (gokc yMe (gokc yHv (gokc yDo gok0)))) 0 (λ_=>[]) (λ_=>yVw) [0] Tryz.func131 λ(b:Book) h=>by
 obtain⟨⟨h1,h1'⟩,h2,h3,h4⟩:b.small:=h;refine⟨b.a,?_⟩;(repeat'(first|exact rfl|exact trivial|assumption|apply be|refineλ(_:Unit) (_:True)=>?_|refine az () ?_|omega|(dsimp only;omega)));refine⟨atE b.at_,?_⟩;(repeat'(first|exact rfl|exact trivial|assumption|apply be|refineλ(_:Unit) (_:True)=>?_|refine az () ?_|omega|(dsimp only;omega)));refine⟨b.spare,?_⟩;(repeat'(first|exact rfl|exact trivial|assumption|apply be|refineλ(_:Unit) (_:True)=>?_|refine az () ?_|omega|(dsimp only;omega)));refine⟨b.buys,?_⟩;(repeat'(first|exact rfl|exact trivial|assumption|apply be|refineλ(_:Unit) (_:True)=>?_|refine az () ?_|omega|(dsimp only;omega)));refine⟨b.sells,?_⟩;exact kp
structure ArN where
 a:Arena
 n:Int
def Arena.qAt (a:Arena) (n:Int):cQ:=if 0<=n/\n<a.queues.length then a.queues.getD n.toNat ⟨0,0,0,0⟩else⟨0,0,0,0⟩
def atotalC:Con:=con1 ArN (λi=>[.nm 0 0,zA i.n]) (λi=>[jV i.a]) (λi=>True) (λi=>zA (i.a.qAt i.n).total) (λi=>[jV i.a])
def acountC:Con:=con1 ArN (λi=>[.nm 0 0,zA i.n]) (λi=>[jV i.a]) (λi=>True) (λi=>zA (i.a.qAt i.n).count) (λi=>[jV i.a])
def bisC:Con:=con1 Int (λn=>[zA n]) (λ_=>[]) (λ_=>True) (λn=>yP (decide (n=1)||decide (n=2))) (λ_=>[])
structure BkR where
 b:Book
 r:xK
def Book.told (b:Book) (r:xK):Lv:=⟨r.price,(b.a.qAt r.queue).total,(b.a.qAt r.queue).count⟩
@[reducible] def Book.cntOk (b:Book):Prop:=∀q∈b.a.queues,i64r q.count
def toldC:Con:=con1 BkR (λi=>[.nm 0 0,.agg [zA i.r.price,zA i.r.queue]]) (λi=>[yA i.b]) (λi=>i.b.cntOk) (λi=>lvV (i.b.told i.r)) (λi=>[yA i.b])
def Book.best (b:Book) (l:List xK):Lv×Bool:=match l with
 |[]=>(⟨0,0,0⟩,ax)
 |r::_=>(b.told r,ay)
structure BkS where
 side:Bool
 b:Book
def Book.side (b:Book) (s:Bool):List xK:=if s then b.sells else b.buys
@[reducible] def z2r (b:Book) (l:List xK):V:= .tup [lvV (b.best l).1,yP (b.best l).2]
def best1C:Con:=con1 Book (λ_=>[.nm 0 0,zA 1]) (λb=>[yA b]) Book.cntOk (λb=>z2r b b.buys) (λb=>[yA b])
def best2C:Con:=con1 Book (λ_=>[.nm 0 0,zA 2]) (λb=>[yA b]) Book.cntOk (λb=>z2r b b.sells) (λb=>[yA b])
def zC (s:Bool):Int:=if s then 2 else 1
def bestC:Con:=con1 BkS (λi=>[.nm 0 0,zA (zC i.side)]) (λi=>[yA i.b]) (λi=>i.b.cntOk) (λi=>z2r i.b (i.b.side i.side)) (λi=>[yA i.b])
structure Top where
 has1:Bool
 has2:Bool
 p1:Int
 p2:Int
 q1:Int
 q2:Int
 deriving DecidableEq
def z6 (t:Top):List D:=[.v (.bool t.has1),.v (.bool t.has2),.v (.int .i64 t.p1),.v (.int .i64 t.p2),.v (.int .i64 t.q1),.v (.int .i64 t.q2)]
def top0:Top:=⟨ax,ax,0,0,0,0⟩
def Top.buy (t:Top) (x:Lv×Bool):Top:=if x.2 then{t with has1:=ay,p1:=x.1.price,q1:=x.1.qty}else t
def Top.sell (t:Top) (x:Lv×Bool):Top:=if x.2 then{t with has2:=ay,p2:=x.1.price,q2:=x.1.qty}else t
def Book.top (b:Book):Top:=(top0.buy (b.best b.buys)).sell (b.best b.sells)
def MSt.tops (s:MSt):List Top:=s.books.map Book.top
@[reducible] def MSt.cntOk (s:MSt):Prop:=s.books.length<=1000000/\∀b∈s.books,b.cntOk
def topsC:Con:=con1 MSt (λ_=>[.nm 0 0]) (λs=>[zD s]) MSt.cntOk (λs=> .own 1) (λs=>[zD s,.own 166 6 (s.tops.map z6)])
def xR (s:MSt) (j:Nat) (x:Top):List Top:=(s.tops.take j)++x::am (s.books.length-j-1) top0
def x5 (s:MSt) (j:Nat):List Top:=(s.tops.take j)++am (s.books.length-j) top0
def ySu (s:MSt):List SAnn:=[
 {ι:=Nat,slots:=λj=>[(3,.own 0),(21,zA j)],rows:=λj=>[.own 166 6 ((x5 s j).map z6)]},
 {ι:=Unit,slots:=λ_=>[],rows:=λ_=>[],un:=3}]
def yQt (s:MSt):List (Nat×SAnn):=[(15,{ι:=Nat×Top,slots:=λx=>[(3,.own 0)],slots0:=λx=>[(3,.own 0)],rows0:=λx=>[.own 166 6 ((xR s x.1 x.2).map z6)],rows:=λx=>[.own 166 6 ((xR s x.1 x.2).map z6)]})]
def yVd (s:MSt):List SAnn:=[{ι:=Nat,slots:=λj=>[(3,.nm 0 0),(22,zA j)],rows:=λj=>(ao 5).map (xO ⟨s.p,s.books.take j,s.wh⟩)}]
def jR (a:ArN):Prop:=a.a.free=a.a.free/\dh (aj zS a.a.slots)/\dh (aj zP a.a.queues)/\True
def lI (a:ArN):Prop:=∃(b:Unit),(a.a.qAt a.n).total=0/\jR a
def gT (a:ArN):=(↑(aj zP a.a.queues).length:Int)
def z6q (i:ArN):Prop:=
 cnd (decide (i.n>=0)) (cnd (!decide (i.n<(gT i))) (lI i) ((0<=i.n/\i.n<(gT i))/\∃(a:Int),zE (aj zP i.a.queues) i.n.toNat 2 1=ba [dI a]/\∃(b:Unit),(i.a.qAt i.n).total=a/\jR i)) (lI i)
def lG (a:ArN):Prop:=∃(b:Unit),(a.a.qAt a.n).count=0/\jR a
def z8v (i:ArN):Prop:=
 cnd (decide (i.n>=0)) (cnd (!decide (i.n<(gT i))) (lG i) ((0<=i.n/\i.n<(gT i))/\∃(a:Int),zE (aj zP i.a.queues) i.n.toNat 3 1=ba [dI a]/\∃(b:Unit),(i.a.qAt i.n).count=a/\jR i)) (lG i)
def y1p (n:Int):Prop:=
 cnd (n==1) (∃(a:Unit),(decide (n=1)||decide (n=2))=ay/\True) (∃(a:Unit),(decide (n=1)||decide (n=2))=(n==2)/\True)
def y1y (i:BkR):Prop:=
 ∃(i_1:ArN),i_1.n=i.r.queue/\aa Arena 3 zG i_1.a=aa Arena 3 zG i.b.a/\True/\∀(o:Unit),True->dh i.r.queue/\True/\dh i.r.price/\∃(i_2:ArN),i_2.n=i.r.queue/\aa Arena 3 zG i_2.a=aa Arena 3 zG i_1.a/\True/\∀(o:Unit),True->dh i.r.price/\∃(o:Unit),dh i.r.price/\(i.b.a.qAt i.r.queue).total=(i_1.a.qAt i_1.n).total/\(i.b.a.qAt i.r.queue).count=(i_2.a.qAt i_2.n).count/\dh i.b.top1/\dh i.b.top2/\dh i.b.has1/\dh i.b.has2/\aa Arena 3 zG i.b.a=aa Arena 3 zG i_2.a/\dh (aj zB i.b.buys)/\dh (aj zB i.b.sells)/\dh (atE i.b.at_)/\dh (iE i.b.spare)/\True
def yUb (b:Book):Prop:=
 ∃(i:Int),i=1/\True/\∀(o:Unit),True->cnd (!(decide (i=1)||decide (i=2))) (∃(o:Unit),(b.best b.buys).fst.price=0/\(b.best b.buys).fst.qty=0/\(b.best b.buys).fst.count=0/\(b.best b.buys).snd=ax/\dh b.top1/\dh b.top2/\dh b.has1/\dh b.has2/\dh (aa Arena 3 zG b.a)/\dh (aj zB b.buys)/\dh (aj zB b.sells)/\dh (atE b.at_)/\dh (iE b.spare)/\True) (cnd ((↑(aj zB b.buys).length:Int)==0) (∃(o:Unit),(b.best b.buys).fst.price=0/\(b.best b.buys).fst.qty=0/\(b.best b.buys).fst.count=0/\(b.best b.buys).snd=ax/\dh b.top1/\dh b.top2/\dh b.has1/\dh b.has2/\dh (aa Arena 3 zG b.a)/\dh (aj zB b.buys)/\dh (aj zB b.sells)/\dh (atE b.at_)/\dh (iE b.spare)/\True) (((0:Int)<=(0:Int)/\0<(↑(aj zB b.buys).length:Int))/\∃(n:Int),∃(n_1:Int),zE (aj zB b.buys) (bo 0) 0 2=ba [D.v (.int .i64 n),D.v (.int .i64 n_1)]/\∃(i:BkR),i.r.price=n/\i.r.queue=n_1/\i.b.top1=b.top1/\i.b.top2=b.top2/\i.b.has1=b.has1/\i.b.has2=b.has2/\aa Arena 3 zG i.b.a=aa Arena 3 zG b.a/\aj zB i.b.buys=aj zB b.buys/\aj zB i.b.sells=aj zB b.sells/\atE i.b.at_=atE b.at_/\iE i.b.spare=iE b.spare/\(∀(q:cQ),q∈i.b.a.queues->(-9223372036854775808)<=q.count/\q.count<=9223372036854775807)/\∀(o:Unit),True->∃(o:Unit),(b.best b.buys).fst.price=i.r.price/\(b.best b.buys).fst.qty=(i.b.a.qAt i.r.queue).total/\(b.best b.buys).fst.count=(i.b.a.qAt i.r.queue).count/\(b.best b.buys).snd=ay/\yA b=yA i.b/\True))
def yXb (b:Book):Prop:=
 ∃(i:Int),i=2/\True/\∀(o:Unit),True->cnd (!(decide (i=1)||decide (i=2))) (∃(o:Unit),(b.best b.sells).fst.price=0/\(b.best b.sells).fst.qty=0/\(b.best b.sells).fst.count=0/\(b.best b.sells).snd=ax/\dh b.top1/\dh b.top2/\dh b.has1/\dh b.has2/\dh (aa Arena 3 zG b.a)/\dh (aj zB b.buys)/\dh (aj zB b.sells)/\dh (atE b.at_)/\dh (iE b.spare)/\True) (cnd ((↑(aj zB b.sells).length:Int)==0) (∃(o:Unit),(b.best b.sells).fst.price=0/\(b.best b.sells).fst.qty=0/\(b.best b.sells).fst.count=0/\(b.best b.sells).snd=ax/\dh b.top1/\dh b.top2/\dh b.has1/\dh b.has2/\dh (aa Arena 3 zG b.a)/\dh (aj zB b.buys)/\dh (aj zB b.sells)/\dh (atE b.at_)/\dh (iE b.spare)/\True) (((0:Int)<=(0:Int)/\0<(↑(aj zB b.sells).length:Int))/\∃(n:Int),∃(n_1:Int),zE (aj zB b.sells) (bo 0) 0 2=ba [D.v (.int .i64 n),D.v (.int .i64 n_1)]/\∃(i:BkR),i.r.price=n/\i.r.queue=n_1/\i.b.top1=b.top1/\i.b.top2=b.top2/\i.b.has1=b.has1/\i.b.has2=b.has2/\aa Arena 3 zG i.b.a=aa Arena 3 zG b.a/\aj zB i.b.buys=aj zB b.buys/\aj zB i.b.sells=aj zB b.sells/\atE i.b.at_=atE b.at_/\iE i.b.spare=iE b.spare/\(∀(q:cQ),q∈i.b.a.queues->(-9223372036854775808)<=q.count/\q.count<=9223372036854775807)/\∀(o:Unit),True->∃(o:Unit),(b.best b.sells).fst.price=i.r.price/\(b.best b.sells).fst.qty=(i.b.a.qAt i.r.queue).total/\(b.best b.sells).fst.count=(i.b.a.qAt i.r.queue).count/\(b.best b.sells).snd=ay/\yA b=yA i.b/\True))
def zHh (a:MSt):Prop:=af (yR a.wh)=af (yR a.wh)/\dh (ab 1 (iE a.p.months))/\dh (ab 1 (iE a.p.settle))
def g8 (a:MSt):=(D.v (bz (sb a.p.code)))
def zFt (a:Nat×Top->Prop) (b:Nat×Top) (c:MSt) (d:Nat) (e:Book):Prop:=a b/\dh (ag 3 1 [[dI 1],[dI 2]])/\dh (ac [V.d (g8 c),V.own 3,V.d (dI c.p.tick),V.d (dI c.p.low),V.d (dI c.p.high),V.d (dI c.p.wide),V.d (dI c.p.rule),V.d (dI c.p.top),V.d (dI c.p.least),V.d (dI c.p.part),V.own 4,V.own 1,V.mp 2] (195:ce))/\ae 197 Book 6 zR (c.books.set (↑d:Int).toNat e) bc=ae 197 Book 6 zR c.books bc/\zHh c
def zPq (a:MSt) (b:Nat×Top) (c:Nat×Top->Prop) (d:Nat) (e:Book):Prop:=∃(f:Nat×Top),aj z6 (xR a f.fst f.snd)=aj z6 (xR a b.fst b.snd)/\zFt c f a d e
def uT (a:MSt) (b:Nat×Top):=(aj z6 (xR a b.fst b.snd))
def bX (a:MSt) (b:Nat×Top) (c:Nat):=(zX (uT a b) (↑c:Int).toNat 1 [D.v (.bool ay)])
def zY (a:BkS):=(a.b.best (a.b.side a.side))
def dX (a:BkS):=((zY a).fst.price)
def dA (a:MSt) (b:Nat×Top) (c:Nat) (d:BkS):=(zX (bX a b c) (↑c:Int).toNat 3 [dI (dX d)])
def l6 (a:Nat) (b:MSt) (c:Nat×Top) (d:BkS):Prop:=(0<=(↑a:Int)/\(↑a:Int)<(↑(dA b c a d).length:Int))/\dh ((↑a:Int).toNat)
def bV (a:MSt) (b:Nat×Top) (c:Nat):=(zX (uT a b) (↑c:Int).toNat 0 [D.v (.bool ay)])
def dO (a:MSt) (b:Nat×Top) (c:Nat) (d:BkS):=(zX (bV a b c) (↑c:Int).toNat 2 [dI (dX d)])
def l8 (a:Nat) (b:MSt) (c:Nat×Top) (d:BkS):Prop:=(0<=(↑a:Int)/\(↑a:Int)<(↑(dO b c a d).length:Int))/\dh ((↑a:Int).toNat)
def zAz (a:MSt):Prop:=0<=(↑a.books.length:Int)/\(↑a.books.length:Int)<=(↑a.books.length:Int)/\(↑a.books.length:Int)<=9223372036854775807/\(↑(40:Nat):Int)*(↑a.books.length:Int)<=2 ^ (48:Nat)
def bP (a:Nat) (b:MSt) (c:Nat×Top):Prop:=(0<=(↑a:Int)/\(↑a:Int)<(↑(bX b c a).length:Int))/\dh ((↑a:Int).toNat)
def bY (a:Nat) (b:MSt) (c:Nat×Top):Prop:=(0<=(↑a:Int)/\(↑a:Int)<(↑(bV b c a).length:Int))/\dh ((↑a:Int).toNat)
def fH:Prop:=0<=ar.wrap ((0:Int)+(1:Int))/\ar.wrap ((0:Int)+(1:Int))<(↑(2:Nat):Int)
def vK (a:BkS):Prop:=∀(b:cQ),b∈a.b.a.queues->(-9223372036854775808)<=b.count/\b.count<=9223372036854775807
def qV (a:Nat) (b:MSt) (c:Nat×Top):Prop:=0<=(↑a:Int)/\(↑a:Int)<(↑(uT b c).length:Int)
def uO (a:BkS):=((zY a).fst.qty)
def yQu (s:MSt):Prop:=
 (zAz s)/\∃(a:Nat),(↑a:Int)=0/\aj z6 (x5 s a)=am (↑s.books.length:Int).toNat [D.v (.bool ax),D.v (.bool ax),dI 0,dI 0,dI 0,dI 0]/\∃(b:Nat->Prop),∃(c:Nat->Nat),b a/\∀(d:Nat),b d->cnd (decide ((↑d:Int)<(↑s.books.length:Int))) ((0<=(↑d:Int)/\(↑d:Int)<(↑s.books.length:Int))/\(↑d:Int).toNat<s.books.length/\∃(e:Nat×Top),aj z6 (xR s e.fst e.snd)=aj z6 (x5 s d)/\∃(f:Nat×Top->Prop),(((0:Int)<=(0:Int)/\0<(↑(2:Nat):Int))/\∃(g:Int),zE [[dI 1],[dI 2]] (bo 0) 0 1=ba [dI g]/\∃(h:Book),s.books[(↑d:Int).toNat]?=ba h/\∃(j:BkS),zC j.side=g/\yA j.b=yA h/\(vK j)/\∀(k:Unit),True->∃(l:Book),yA j.b=yA l/\dh ((↑d:Int).toNat)/\(↑d:Int).toNat<s.books.length/\cnd (zY j).snd ((qV d s e)/\(qV d s e)/\(qV d s e)/\(↑d:Int).toNat<(uT s e).length/\(bY d s e)/\(bY d s e)/\dh ((zY j).fst.qty)/\dh ((zY j).fst.price)/\(↑d:Int).toNat<(bV s e d).length/\(l8 d s e j)/\dh ((zY j).fst.qty)/\(↑d:Int).toNat<(dO s e d j).length/\∃(m:Nat×Top),aj z6 (xR s m.fst m.snd)=zX (dO s e d j) (↑d:Int).toNat 4 [dI (uO j)]/\zFt f m s d l) (zPq s e f d l))/\∀(g:Nat×Top),f g->∃(h:Nat×Top),aj z6 (xR s h.fst h.snd)=aj z6 (xR s g.fst g.snd)/\∃(j:Nat×Top->Prop),((fH)/\∃(k:Int),zE [[dI 1],[dI 2]] (ar.wrap ((0:Int)+(1:Int))).toNat 0 1=ba [dI k]/\∃(l:Book),s.books[(↑d:Int).toNat]?=ba l/\∃(m:BkS),zC m.side=k/\yA m.b=yA l/\(vK m)/\∀(n:Unit),True->∃(p:Book),yA m.b=yA p/\dh ((↑d:Int).toNat)/\(↑d:Int).toNat<s.books.length/\cnd (zY m).snd ((qV d s h)/\(qV d s h)/\(qV d s h)/\(↑d:Int).toNat<(uT s h).length/\(bP d s h)/\(bP d s h)/\dh ((zY m).fst.qty)/\dh ((zY m).fst.price)/\(↑d:Int).toNat<(bX s h d).length/\(l6 d s h m)/\dh ((zY m).fst.qty)/\(↑d:Int).toNat<(dA s h d m).length/\∃(q:Nat×Top),aj z6 (xR s q.fst q.snd)=zX (dA s h d m) (↑d:Int).toNat 5 [dI (uO m)]/\zFt j q s d p) (zPq s h j d p))/\∀(k:Nat×Top),j k->∃(l:Nat),(↑l:Int)=ar.wrap ((↑d:Int)+1)/\aj z6 (x5 s l)=aj z6 (xR s k.fst k.snd)/\b l/\c l<c d/\dh (ac [V.d (g8 s),V.own 3,V.d (dI s.p.tick),V.d (dI s.p.low),V.d (dI s.p.high),V.d (dI s.p.wide),V.d (dI s.p.rule),V.d (dI s.p.top),V.d (dI s.p.least),V.d (dI s.p.part),V.own 4,V.own 1,V.mp 2] (195:ce))/\dh (ae 197 Book 6 zR s.books bc)/\zHh s) (∃(e:Unit),dh (sb s.p.code)/\dh s.p.tick/\dh s.p.low/\dh s.p.high/\dh s.p.wide/\dh s.p.rule/\dh s.p.top/\dh s.p.least/\dh s.p.part/\dh (ae 197 Book 6 zR s.books bc)/\dh (yR s.wh)/\dh (ab 1 (iE s.p.months))/\dh (ab 1 (iE s.p.settle))/\aj z6 s.tops=aj z6 (x5 s d)/\True)
def yWw (s:MSt):Prop:=
 ∃(i:List (cd×List D)),i=yR s.wh/\True/\∀(o:Unit),True->(dh (sb s.p.code)/\True/\dh s.p.tick/\dh s.p.low/\dh s.p.high/\dh s.p.wide/\dh s.p.rule/\dh s.p.top/\dh s.p.least/\dh s.p.part/\True/\True)/\∃(i0:Nat),(↑i0:Int)=0/\dh (sb s.p.code)/\dh s.p.tick/\dh s.p.low/\dh s.p.high/\dh s.p.wide/\dh s.p.rule/\dh s.p.top/\dh s.p.least/\dh s.p.part/\ak i0 s.books=[]/\(bc:Option Nat)=bc/\yR s.wh=i/\dh (ab 1 (iE s.p.months))/\dh (ab 1 (iE s.p.settle))/\∃(I:Nat->Prop),∃(μ:Nat->Nat),I i0/\∀(i_1:Nat),I i_1->cnd (decide ((↑i_1:Int)<(↑s.books.length:Int))) ((0<=(↑i_1:Int)/\(↑i_1:Int)<(↑s.books.length:Int))/\(↑i_1:Int).toNat<s.books.length/\∃(x:Book),s.books[(↑i_1:Int).toNat]?=ba x/\∃(i_2:Book),yA i_2=yA x/\((i_2.a.slots.length<=1000000/\i_2.a.queues.length<=1000000)/\i_2.buys.length<=1000000/\i_2.sells.length<=1000000/\i_2.spare.length<=1000000)/\∀(o:Unit),True->∃(x:Book),yA i_2=yA x/\dh ((↑i_1:Int).toNat)/\(↑i_1:Int).toNat<s.books.length/\True/\True/\∃(l1':List Book),ae 197 Book 6 zR (ak i_1 s.books) bc=ae 197 Book 6 zR l1' bc/\(l1'.length+1)*(8:Nat)<=(140737488355328:Nat)/\∃(i':Nat),(↑i':Int)=ar.wrap ((↑i_1:Int)+1)/\dh (sb s.p.code)/\dh s.p.tick/\dh s.p.low/\dh s.p.high/\dh s.p.wide/\dh s.p.rule/\dh s.p.top/\dh s.p.least/\dh s.p.part/\ae 197 Book 6 zR (ak i' s.books) bc=ae 197 Book 6 zR (l1'++[i_2]) bc/\dh (yR s.wh)/\dh (ab 1 (iE s.p.months))/\dh (ab 1 (iE s.p.settle))/\I i'/\μ i'<μ i_1/\af i=af i/\dh (ac [V.d (D.v (bz (sb s.p.code))),V.own 3,V.d (D.v (.int .i64 s.p.tick)),V.d (D.v (.int .i64 s.p.low)),V.d (D.v (.int .i64 s.p.high)),V.d (D.v (.int .i64 s.p.wide)),V.d (D.v (.int .i64 s.p.rule)),V.d (D.v (.int .i64 s.p.top)),V.d (D.v (.int .i64 s.p.least)),V.d (D.v (.int .i64 s.p.part)),V.own 4,V.own 1,V.mp 2] (195:ce))/\ae 197 Book 6 zR (s.books.set (↑i_1:Int).toNat x) bc=ae 197 Book 6 zR s.books bc/\dh (ab 1 (iE s.p.months))/\dh (ab 1 (iE s.p.settle))) (∃(o:Unit),dh (sb s.p.code)/\dh s.p.tick/\dh s.p.low/\dh s.p.high/\dh s.p.wide/\dh s.p.rule/\dh s.p.top/\dh s.p.least/\dh s.p.part/\dh (ae 197 Book 6 zR s.books bc)/\yR s.wh=i/\dh (ab 1 (iE s.p.months))/\dh (ab 1 (iE s.p.settle))/\dh (sb s.p.code)/\dh s.p.tick/\dh s.p.low/\dh s.p.high/\dh s.p.wide/\dh s.p.rule/\dh s.p.top/\dh s.p.least/\dh s.p.part/\ae 197 Book 6 zR s.books bc=ae 197 Book 6 zR (ak i_1 s.books) bc/\dh (yR s.wh)/\dh (ab 1 (iE s.p.months))/\dh (ab 1 (iE s.p.settle))/\True)
end Sx
