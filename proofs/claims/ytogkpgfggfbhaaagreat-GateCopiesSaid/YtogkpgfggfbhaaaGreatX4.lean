/- Texts of ours, one behind the other: a walk that the kernel reckons, and contracts of functions. No condition. -/
import Derived.Test.YtogkpgfggfbhaaaGreatRows
import Derived.Test.YtogkpgfggfbhaaaGreatX3
namespace Sx
set_option linter.unusedVariables false
open Go Cv Go.Proofs
theorem kp {P:Prop} (h:P:=by(repeat'(first|exact rfl|exact trivial|assumption|apply And.intro|refine fun(_:Unit) (_:True)=>?_|refine Exists.intro () ?_|omega|(dsimp only;omega)))):P:=h
theorem mixed:Tryz.prog.follows .mixedOrders=true:=by kernel_rfl
theorem okw {P:Program} {f:FuncId} {fn:Func} {C:Con} {G:List (Nat×Con)} {V:C.ι→Prop} (hm:P.follows .mixedOrders=true) (hG:GOk P G) (d:Nat) (J:C.ι→List (Nat×SAnn)) (an:C.ι→List SAnn) (op:List Nat) (hf:P.funcs[f]? =some fn) (h:∀i,C.cnd i→V i) (hb:fn.body=some (fn.body.getD .skip):=by kernel_rfl) (hbd:vO P f=true:=by kernel_rfl) (hok:okC fn.ntmps (fn.body.getD .skip)=true:=by kernel_rfl) (hsz:∀i,Nat.ble (C.pat i).length fn.ntmps=true:=by intro _;kernel_rfl) (e:∀i,V i=walk P G d (J i) (an i) op fn (fn.body.getD .skip) (C.pat i) (C.pre i) (C.alts i):=by intro _;kernel_rfl):C.ok P f:=gZ hm G hG d J an op hf hb hbd hok hsz fun i hc=>Eq.mp (e i) (h i hc)
structure Lv where
 price:Int
 qty:Int
 count:Int
def lvV (l:Lv):V:= .agg [zA l.price,zA l.qty,zA l.count]
open Go Cv Go.Proofs
def WrU (l:List UInt8):Nat→AObj
 |0=> .cells [.own 1] 204
 |1=> .own 5 1 (bE l)
 |_=> .gone
def Wr (l:List UInt8):AObj:= .adt (List UInt8) 2 WrU l
set_option maxRecDepth 100000
open Go Cv Go.Proofs
open Go Cv Go.Proofs
open Go Cv Go.Proofs
@[reducible] def tU8:Nat:=5
structure WN where
 l:List UInt8
 n:Int
@[reducible] def WN.ok (i:WN):Prop:=i.l.length+8≤1099511627776
@[reducible] def yLe (t sz by_:Nat):Con:=con1 (List (List D)) (fun _=>[.own 0]) (fun l=>[.own t sz l]) (fun l=>l.length*by_≤70368744177664) (fun _=> .own 1) (fun l=>[.own t sz l,.own t sz l])
@[reducible] def yKx (sz by_:Nat):Con:=con1 (List (List D)) (fun l=>[roV sz l]) (fun _=>[]) (fun l=>l.length*by_≤70368744177664) (fun l=>roV sz l) (fun _=>[])
def cloneBO:Con:=yLe tU8 1 1
def cloneBR:Con:=yKx 1 1
def doneC:Con:=con1 (List UInt8) (fun _=>[.nm 0 0]) (fun l=>[Wr l]) (fun l=>l.length≤1099511627776) (fun _=> .own 1) (fun l=>[Wr l,.own tU8 1 (bE l)])
def RdU (x:List UInt8×Bool):Nat→AObj
 |0=> .cells [roV 1 (bE x.1),yM x.2] 208
 |_=> .gone
def Rd (l:List UInt8) (b:Bool):AObj:= .adt (List UInt8×Bool) 1 RdU (l,b)
def newRC:Con:=con1 (List UInt8) (fun l=>[roV 1 (bE l)]) (fun _=>[]) (fun l=>l.length≤1099511627776) (fun _=> .nm 0 0) (fun l=>[Rd l false])
structure RN where
 l:List UInt8
 b:Bool
 n:Nat
def RN.bad (i:RN):Bool:=i.b||decide (i.l.length<i.n)
def RN.got (i:RN):List UInt8:=if i.bad then[]else i.l.take i.n
def RN.left (i:RN):List UInt8:=if i.bad then i.l else i.l.drop i.n
@[reducible] def RN.ok (i:RN):Prop:=i.n≤255∧i.l.length≤1099511627776
def takeC:Con:=con1 RN (fun i=>[.nm 0 0,zA i.n]) (fun i=>[Rd i.l i.b]) RN.ok (fun i=>roV 1 (bE i.got)) (fun i=>[Rd i.left i.bad])
def kA:List UInt8→Int
 |[]=>0
 |b::l=>b.toNat+256*kA l
def getC:Con:=con1 RN (fun i=>[.nm 0 0,zA i.n]) (fun i=>[Rd i.l i.b]) (fun i=>i.n≤8∧i.l.length≤1099511627776) (fun i=>pH (kA i.got)) (fun i=>[Rd i.left i.bad])
def yPn (i:RN):List SAnn:=[{ι:=Nat,slots:=fun j=>[(5,pH (kA (i.got.take j))),(12,zA j)],rows:=fun _=>[]}]
structure RB where
 l:List UInt8
 b:Bool
def RB.n (i:RB) (k:Nat):RN:=⟨i.l,i.b,k⟩
def rbyteC:Con:=con1 RB (fun i=>[.nm 0 0]) (fun i=>[Rd i.l i.b]) (fun i=>i.l.length≤1099511627776) (fun i=>zA (kA (i.n 1).got)) (fun i=>[Rd (i.n 1).left (i.n 1).bad])
def rlongC:Con:=con1 RB (fun i=>[.nm 0 0]) (fun i=>[Rd i.l i.b]) (fun i=>i.l.length≤1099511627776) (fun i=>zA (IntKind.i64.wrap (kA (i.n 8).got))) (fun i=>[Rd (i.n 8).left (i.n 8).bad])
def rendC:Con:=con1 RB (fun i=>[.nm 0 0]) (fun i=>[Rd i.l i.b]) (fun i=>i.l.length≤1099511627776) (fun i=>zA (if i.b then 10 else if 0<i.l.length then 15 else 0)) (fun i=>[Rd i.l i.b])
open Go Cv Go.Proofs
def zRs (i:List (List D)):Prop:=
 ∀(b:Bool),(b=true→i=[])→cnd b (∃(o:Unit),i=i∧i=[]∧True) ((0+i.length)*(1:Nat)≤(70368744177664:Nat)∧∃(o:Unit),i=i∧i=[]++i∧True)
theorem z4g (i:List (List D)):zRs i=walk Tryz.prog ([]) 0 ([]) ([]) [] Tryz.f127 (Tryz.f127.body.getD .skip) (cloneBO.pat i) (cloneBO.pre i) (cloneBO.alts i):=by kernel_rfl
theorem z4r (hG:GOk Tryz.prog ([])) (h:∀(i:List (List D)),cloneBO.cnd i→zRs i):cloneBO.ok Tryz.prog 127:=gZ mixed ([]) hG 0 (fun(i:List (List D))=>[]) (fun(i:List (List D))=>[]) [] Tryz.func127 (by kernel_rfl) (by kernel_rfl) (by kernel_rfl) (fun _=>by kernel_rfl) (fun(i:List (List D)) hc=>Eq.mp (z4g i) (h i hc))
def zRi (i:List (List D)):Prop:=
 ∀(b:Bool),(b=true→i=[])→cnd b (∃(o:Unit),i=[]∧True) ((0+i.length)*(1:Nat)≤(70368744177664:Nat)∧∃(o:Unit),i=[]++i∧True)
theorem z1y (i:List (List D)):zRi i=walk Tryz.prog ([]) 0 ([]) ([]) [] Tryz.f127 (Tryz.f127.body.getD .skip) (cloneBR.pat i) (cloneBR.pre i) (cloneBR.alts i):=by kernel_rfl
theorem z2w (hG:GOk Tryz.prog ([])) (h:∀(i:List (List D)),cloneBR.cnd i→zRi i):cloneBR.ok Tryz.prog 127:=gZ mixed ([]) hG 0 (fun(i:List (List D))=>[]) (fun(i:List (List D))=>[]) [] Tryz.func127 (by kernel_rfl) (by kernel_rfl) (by kernel_rfl) (fun _=>by kernel_rfl) (fun(i:List (List D)) hc=>Eq.mp (z1y i) (h i hc))
def yMp (i:List UInt8):Prop:=
 ∃(i_1:List (List D)),i_1=bE i∧i_1.length*(1:Nat)≤(70368744177664:Nat)∧∀(o:Unit),True→∃(o:Unit),bE i=i_1∧bE i=i_1∧True
def yNt (i:List UInt8):Prop:=
 ∃(i_1:List (List D)),i_1=bE i∧i_1.length*(1:Nat)≤(70368744177664:Nat)∧∀(o:Unit),True→∃(o:Unit),bE i=i_1∧false=false∧True
def yOe (i:RN):Prop:=
 cnd i.b (∃(o:Unit),bE i.got=[]∧bE i.left=bE i.l∧i.bad=true∧True) (cnd (decide ((↑i.n:Int)>(↑(bE i.l).length:Int))) (∃(o:Unit),bE i.got=[]∧bE i.left=bE i.l∧i.bad=decide ((↑i.n:Int)>(↑(bE i.l).length:Int))∧True) ((0≤(↑i.n:Int)∧(↑i.n:Int)≤(↑(bE i.l).length:Int))∧(0≤(↑i.n:Int)∧(↑i.n:Int)≤(↑(bE i.l).length:Int))∧∃(o:Unit),bE i.got=List.take (↑i.n:Int).toNat (bE i.l)∧bE i.left=List.drop (↑i.n:Int).toNat (bE i.l)∧i.bad=decide ((↑i.n:Int)>(↑(bE i.l).length:Int))∧True))
@[reducible] def dI (n:Int):D:= .v (.int .i64 n)
def yNi (i:RN):Prop:=
 ∃(a:RN),(↑a.n:Int)=(↑i.n:Int)∧AObj.adt (List UInt8×Bool) 1 RdU (a.l,a.b)=Rd i.l i.b∧(a.n≤255∧a.l.length≤1099511627776)∧∀(b:Unit),True→∃(c:Nat),kA (List.take c i.got)=0∧(↑c:Int)=0∧∃(d:Nat→Prop),∃(e:Nat→Nat),d c∧∀(f:Nat),d f→cnd (decide ((↑f:Int)<(↑(bE a.got).length:Int))) ((0≤(↑f:Int)∧(↑f:Int)<(↑(bE a.got).length:Int))∧∃(g:Int),zE (bE a.got) (↑f:Int).toNat 0 1=some [D.v (.int .u8 g)]∧0≤IntKind.i64.wrap (8*(↑f:Int))∧∃(h:Nat),kA (List.take h i.got)=iOr IntKind.u64 (kA (List.take f i.got)) (zUn IntKind.u64 (IntKind.u64.wrap g) (IntKind.i64.wrap (8*(↑f:Int))))∧(↑h:Int)=IntKind.i64.wrap ((↑f:Int)+1)∧d h∧e h<e f∧AObj.adt (List UInt8×Bool) 1 RdU (a.left,a.bad)=AObj.adt (List UInt8×Bool) 1 RdU (a.left,a.bad)) (∃(g:Unit),kA i.got=kA (List.take f i.got)∧AObj.adt (List UInt8×Bool) 1 RdU (i.left,i.bad)=AObj.adt (List UInt8×Bool) 1 RdU (a.left,a.bad)∧True)
def yKk (i:RB):Prop:=
 ∃(i_1:RN),(↑i_1.n:Int)=1∧AObj.adt (List UInt8×Bool) 1 RdU (i_1.l,i_1.b)=Rd i.l i.b∧(i_1.n≤8∧i_1.l.length≤1099511627776)∧∀(o:Unit),True→∃(o:Unit),kA (i.n 1).got=IntKind.i64.wrap (kA i_1.got)∧AObj.adt (List UInt8×Bool) 1 RdU ((i.n 1).left,(i.n 1).bad)=AObj.adt (List UInt8×Bool) 1 RdU (i_1.left,i_1.bad)∧True
def yKz (i:RB):Prop:=
 ∃(i_1:RN),(↑i_1.n:Int)=8∧AObj.adt (List UInt8×Bool) 1 RdU (i_1.l,i_1.b)=Rd i.l i.b∧(i_1.n≤8∧i_1.l.length≤1099511627776)∧∀(o:Unit),True→∃(o:Unit),IntKind.i64.wrap (kA (i.n 8).got)=IntKind.i64.wrap (kA i_1.got)∧AObj.adt (List UInt8×Bool) 1 RdU ((i.n 8).left,(i.n 8).bad)=AObj.adt (List UInt8×Bool) 1 RdU (i_1.left,i_1.bad)∧True
def yOp (i:RB):Prop:=
 cnd i.b (∃(o:Unit),(if i.b=true then(10:Int)else if 0<i.l.length then(15:Int)else(0:Int))=10∧bE i.l=bE i.l∧i.b=i.b∧True) (cnd (decide ((↑(bE i.l).length:Int)>0)) (∃(o:Unit),(if i.b=true then(10:Int)else if 0<i.l.length then(15:Int)else(0:Int))=15∧bE i.l=bE i.l∧i.b=i.b∧True) (∃(o:Unit),(if i.b=true then(10:Int)else if 0<i.l.length then(15:Int)else(0:Int))=0∧bE i.l=bE i.l∧i.b=i.b∧True))
set_option linter.unusedSimpArgs false
open Go Cv Go.Proofs
theorem yJy (k:Nat):∀n:Int,le (n % 256 ^ k) k=le n k:=by
 induction k with
 |zero=>intro n;rfl
 |succ k ih=>
  intro n
  have hp:(0:Int)<256 ^ k:=Int.pow_pos (by omega)
  have h1:lob (n % 256 ^ (k+1))=lob n:=by
   unfold lob
   rw[Int.pow_succ,yVc,Int.emod_emod_of_dvd n ⟨256 ^ k,rfl⟩]
  have h2:n % 256 ^ (k+1) / 256=n / 256 % 256 ^ k:=by
   have e:n=256*(n / 256)+n % 256:=(Int.mul_ediv_add_emod n 256).symm
   have e2:n / 256=256 ^ k*(n / 256 / 256 ^ k)+n / 256 % 256 ^ k:=(Int.mul_ediv_add_emod _ _).symm
   have hr:=Int.emod_nonneg (n / 256) (show(256:Int) ^ k≠0 by omega)
   have hr2:=Int.emod_lt_of_pos (n / 256) hp
   have e3:n % 256 ^ (k+1)=256*(n / 256 % 256 ^ k)+n % 256:=by
    have:n=256 ^ (k+1)*(n / 256 / 256 ^ k)+(256*(n / 256 % 256 ^ k)+n % 256):=by
     rw[Int.pow_succ,yVc (256 ^ k) 256,Int.mul_assoc,← Int.add_assoc,← Int.mul_add,← e2]
     exact e
    conv=>lhs;rw[this]
    rw[Int.add_comm,Int.add_mul_emod_self_left,Int.emod_eq_of_lt]
    ·omega
    ·rw[Int.pow_succ];omega
   rw[e3]
   omega
  rw[le,le,h1,h2,ih]
theorem z3a (n:Int):le (IntKind.u64.wrap n) 8=le n 8:=yJy 8 n
theorem z2k (n:Int):0≤IntKind.u64.wrap n∧IntKind.u64.wrap n<18446744073709551616:=by
 have:IntKind.u64.wrap n=n % 18446744073709551616:=rfl
 rw[this];omega
theorem zXd:cloneBO.ok Tryz.prog 127:=z4r gok0 fun i h=>fun b hb=>
 Cv.cnd.mk (fun e=>⟨(),rfl,hb e,trivial⟩) (fun _=>⟨by rw[ySd];exact h,(),rfl,rfl,trivial⟩)
theorem zXq:cloneBR.ok Tryz.prog 127:=z2w gok0 fun i h=>fun b hb=>
 Cv.cnd.mk (fun e=>⟨(),hb e,trivial⟩) (fun _=>⟨by rw[ySd];exact h,(),rfl,trivial⟩)
theorem yPd:doneC.ok Tryz.prog 81:=okw (V:=yMp) mixed (gokc zXd gok0) 0 (fun _=>[]) (fun _=>[]) [0] Tryz.func81 fun(i:List UInt8) h=>by
 have h:i.length≤1099511627776:=h
 exact⟨_,rfl,by rw[vY];omega,fun _ _=>⟨(),rfl,rfl,trivial⟩⟩
theorem yFn:newRC.ok Tryz.prog 82:=okw (V:=yNt) mixed (gokc zXq gok0) 0 (fun _=>[]) (fun _=>[]) [] Tryz.func82 fun(i:List UInt8) h=>by
 have h:i.length≤1099511627776:=h
 exact⟨_,rfl,by rw[vY];omega,fun _ _=>⟨(),rfl,rfl,trivial⟩⟩
theorem z3h {l:List UInt8} {i:Nat} {b:UInt8} (h:l[i]? =some b):zE (bE l) i 0 1=some [.v (.int .u8 b.toNat)]:=by
 unfold zE bE
 rw[yTb,h];rfl
theorem yNn (b:UInt8):IntKind.u64.wrap (b.toNat:Int)=b.toNat:=tZ (by have:=b.toNat_lt;omega)
theorem z0j:takeC.ok Tryz.prog 168:=okw (V:=yOe) mixed gok0 0 (fun _=>[]) (fun _=>[]) [0] Tryz.func168 fun(i:RN) h=>by
 obtain⟨h1,h2⟩:=h
 refine Cv.cnd.mk (fun e=> ?_) (fun e=>zI (fun hlt=> ?_) (fun hlt=> ?_))
 ·have:i.bad=true:=by simp[RN.bad,e]
  exact⟨(),by simp[RN.got,this],by simp[RN.left,this],this,trivial⟩
 ·rw[vY]at hlt
  have:i.bad=true:=by simp[RN.bad];right;omega
  exact⟨(),by simp[RN.got,this],by simp[RN.left,this],by rw[this,vY];simp;omega,trivial⟩
 ·rw[vY]at hlt
  have:i.bad=false:=by simp[RN.bad,e];omega
  rw[vY]
  exact⟨⟨by omega,by omega⟩,⟨by omega,by omega⟩,(),by simp[RN.got,this,yCk],by simp[RN.left,this,yDq],by rw[this];simp;omega,trivial⟩
theorem mY:∀l:List UInt8,0≤kA l∧kA l<256 ^ l.length
 |[]=>by simp[kA]
 |b::l=>by
  obtain⟨h1,h2⟩:=mY l
  have:=b.toNat_lt
  simp only[kA,yRt,Int.pow_succ]
  omega
theorem zLm (b:UInt8):∀l:List UInt8,kA (l++[b])=kA l+b.toNat*256 ^ l.length
 |[]=>by simp[kA]
 |c::l=>by
  simp only[ySv,kA,zLm b l,yRt,Int.pow_succ,Int.mul_add]
  rw[yVc (256 ^ l.length) 256,← Int.mul_assoc,← Int.mul_assoc,yVc 256 (b.toNat:Int)]
  omega
theorem z6x {x b j:Nat} (hx:x<256 ^ j) (hb:b<256) (hj:j<8):iOr .u64 x (zUn .u64 b ((8*j:Nat):Int))=((x+b*256 ^ j:Nat):Int):=by
 have hp:256 ^ j=2 ^ (8*j):=by rw[Nat.pow_mul]
 have hle:256 ^ (j+1)≤256 ^ 8:=Nat.pow_le_pow_right (by omega) (by omega)
 have hbig:x+b*256 ^ j<256 ^ (j+1):=by
  rw[Nat.pow_succ]
  have:b*256 ^ j≤255*256 ^ j:=yTe _ (by omega)
  omega
 have h8:(256:Nat) ^ 8=18446744073709551616:=by decide
 rw[← yCc,← yMd]
 have e1:yIj .u64 (b:Int) ((8*j:Nat):Int)=((b*256 ^ j:Nat):Int):=by
  show wr .u64 (Int.ofNat (b*2 ^ (Nat.min (8*j) 64)))=_
  rw[show Nat.min (8*j) 64=8*j from yVm (by omega),← hp,zYs]
  exact tZ (by show(0:Int)≤((b*256 ^ j:Nat):Int)∧((b*256 ^ j:Nat):Int)<_;omega)
 rw[e1]
 show wr .u64 (Int.ofNat (Nat.lor (x % 18446744073709551616) ((b*256 ^ j) % 18446744073709551616)))=_
 rw[Nat.mod_eq_of_lt (by omega),Nat.mod_eq_of_lt (by omega)]
 have e2:Nat.lor x (b*256 ^ j)=x+b*256 ^ j:=by
  show x|||(b*256 ^ j)=_
  rw[hp]at hx ⊢
  rw[Nat.or_comm,← Nat.shiftLeft_eq,← Nat.shiftLeft_add_eq_or_of_lt hx,yWk]
 rw[e2,zYs]
 exact tZ (by show(0:Int)≤((x+b*256 ^ j:Nat):Int)∧((x+b*256 ^ j:Nat):Int)<_;omega)
theorem zGa (i:RN):i.got.length≤i.n:=by
 unfold RN.got;split
 ·simp
 ·rw[yRz];omega
theorem yMk (i:RN) (h:getC.cnd i):yNi i:=by
 unfold yNi
 obtain⟨h1,h2⟩:=h
 refine⟨i,rfl,rfl,⟨by omega,h2⟩,fun _ _=>⟨0,rfl,rfl,fun j=>j≤i.got.length,fun j=>i.got.length-j,by dsimp only;omega,fun j hj=>zI (fun hlt=> ?_) (fun hlt=> ?_)⟩⟩
 ·dsimp only at hj
  have hl:=zGa i
  rw[vY]at hlt ⊢
  obtain⟨b,hb⟩:∃b,i.got[j]? =some b:=⟨_,ySl (by omega)⟩
  have e8:IntKind.i64.wrap (8*(j:Int))=8*j:=w64 (by omega)
  refine⟨⟨by omega,by omega⟩,b.toNat,z3h hb,by rw[e8];omega,j+1,?_,?_,by dsimp only;omega,by dsimp only;omega,rfl⟩
  ·rw[e8,yNn,ySz,hb]
   simp only[yVh]
   rw[zLm]
   obtain⟨r1,r2⟩:=mY (i.got.take j)
   rw[yRz,yVm (by omega)]at r2 ⊢
   obtain⟨x,hx⟩:∃x:Nat,kA (i.got.take j)=x:=⟨(kA (i.got.take j)).toNat,by omega⟩
   rw[hx]at r2 ⊢
   have:=z6x (x:=x) (b:=b.toNat) (j:=j) (by exact_mod_cast r2) b.toNat_lt (by omega)
   rw[show(8*(j:Int))=((8*j:Nat):Int)by simp,this]
   simp
  ·rw[w64 (by omega)];rfl
 ·dsimp only at hj
  rw[vY]at hlt
  exact⟨(),by rw[yRw (by omega)],rfl,trivial⟩
theorem z6r:getC.ok Tryz.prog 128:=okw mixed (gokc z0j gok0) 0 (fun _=>[]) (fun i=>yPn i) [] Tryz.func128 yMk
theorem zTg:rbyteC.ok Tryz.prog 84:=okw (V:=yKk) mixed (gokc z6r gok0) 0 (fun _=>[]) (fun _=>[]) [] Tryz.func84 fun(i:RB) h=>by
 have hl:=zGa (i.n 1)
 have hr:=mY (i.n 1).got
 have h0:(256:Int) ^ (i.n 1).got.length≤256 ^ 1:=by
  have:(256:Nat) ^ (i.n 1).got.length≤256 ^ 1:=Nat.pow_le_pow_right (by omega) hl
  exact_mod_cast this
 exact⟨i.n 1,rfl,rfl,⟨by show 1≤8;omega,h⟩,fun _ _=>⟨(),(w64 (by omega)).symm,rfl,trivial⟩⟩
theorem z7v:rlongC.ok Tryz.prog 83:=okw (V:=yKz) mixed (gokc z6r gok0) 0 (fun _=>[]) (fun _=>[]) [] Tryz.func83 fun(i:RB) h=>by
 exact⟨i.n 8,rfl,rfl,⟨by show 8≤8;omega,h⟩,fun _ _=>⟨(),rfl,rfl,trivial⟩⟩
theorem yCp:rendC.ok Tryz.prog 85:=okw (V:=yOp) mixed gok0 0 (fun _=>[]) (fun _=>[]) [0] Tryz.func85 fun(i:RB) h=>by
 refine Cv.cnd.mk (fun e=>⟨(),by rw[yRe e],rfl,rfl,trivial⟩) (fun e=>zI (fun hlt=>⟨(),?_,rfl,rfl,trivial⟩) (fun hlt=>⟨(),?_,rfl,rfl,trivial⟩))
 ·rw[vY]at hlt;rw[yRd (by simp[e]),yRe (by omega)]
 ·rw[vY]at hlt;rw[yRd (by simp[e]),yRd (by omega)]
open Go Cv Go.Proofs
open Classical
open Go Cv Go.Proofs
open Go Cv Go.Proofs
open Classical
theorem getD {α:Type} {l:List α} {i:Nat} (h:i<l.length):∃x,l[i]? =some x:=⟨_,ySl h⟩
open Go Cv Go.Proofs
open Classical
open Go Cv Go.Proofs
open Classical
def RB.byte (r:RB):Int×RB:=(kA (r.n 1).got,⟨(r.n 1).left,(r.n 1).bad⟩)
def RB.long (r:RB):Int×RB:=(IntKind.i64.wrap (kA (r.n 8).got),⟨(r.n 8).left,(r.n 8).bad⟩)
def RB.endOf (r:RB):Int:=if r.b then 10 else if 0<r.l.length then 15 else 0
@[reducible] def RdB (r:RB):AObj:=Rd r.l r.b
@[reducible] def RB.ok (i:RB):Prop:=i.l.length≤1099511627776
open Go Cv Go.Proofs
open Go Cv Go.Proofs
open Classical
theorem pJ (i:RN):i.left.length≤i.l.length:=by
 unfold RN.left;split
 ·omega
 ·rw[ySb];omega
theorem bP {r:RB} (h:r.ok):r.byte.2.ok:=yTv (pJ _) h
theorem uL {r:RB} (h:r.ok):r.long.2.ok:=yTv (pJ _) h
theorem z4n (l:List UInt8):bE l=k0 ⟨l.toArray⟩:=rfl
open Go Cv Go.Proofs
open Classical
def fbyteC:Con:=con1 WN (fun i=>[roV 1 (bE i.l),zA i.n]) (fun _=>[]) WN.ok (fun _=> .own 0) (fun i=>[.own tU8 1 (bE (i.l++[lob i.n]))])
def flongC:Con:=con1 WN (fun i=>[roV 1 (bE i.l),zA i.n]) (fun _=>[]) WN.ok (fun _=> .own 0) (fun i=>[.own tU8 1 (bE (i.l++le i.n 8))])
def yJz (i:WN):List SAnn:=[{ι:=Nat,slots:=fun j=>[(5,.own 0),(6,pH ((8*j:Nat):Int))],rows:=fun j=>[.own tU8 1 (bE (i.l++le i.n j))]}]
open Go Cv Go.Proofs
def yLk (i:WN):Prop:=
 (0+(bE i.l).length)*(1:Nat)≤(70368744177664:Nat)∧(([]++bE i.l).length+1)*(1:Nat)≤(70368744177664:Nat)∧∃(o:Unit),bE (i.l++[lob i.n])=[]++bE i.l++[[D.v (.int .u8 (IntKind.u8.wrap i.n))]]∧True
def yIh (i:WN):Prop:=
 (0+(bE i.l).length)*(1:Nat)≤(70368744177664:Nat)∧∃(i0:Nat),(↑(8*i0):Int)=0∧bE (i.l++le i.n i0)=[]++bE i.l∧∃(I:Nat→Prop),∃(μ:Nat→Nat),I i0∧∀(i_1:Nat),I i_1→cnd (decide ((↑(8*i_1):Int)<64)) (0≤(↑(8*i_1):Int)∧((bE (i.l++le i.n i_1)).length+1)*(1:Nat)≤(70368744177664:Nat)∧∃(i':Nat),(↑(8*i'):Int)=IntKind.u64.wrap ((↑(8*i_1):Int)+8)∧bE (i.l++le i.n i')=bE (i.l++le i.n i_1)++[[D.v (.int .u8 (IntKind.u8.wrap (nR IntKind.u64 (IntKind.u64.wrap i.n) (↑(8*i_1):Int))))]]∧I i'∧μ i'<μ i_1∧True) (∃(o:Unit),bE (i.l++le i.n 8)=bE (i.l++le i.n i_1)∧True)
open Go Cv Go.Proofs
open Classical
theorem zQh:∀(k m:Nat) (n:Int),k≤m→(le n m).take k=le n k
 |0,m,n,h=>by simp[le]
 |k+1,m+1,n,h=>by simp only[le,ySp];rw[zQh k m _ (by omega)]
theorem zZc {k:Nat} (h:k≤8) (n:Int):le (IntKind.u64.wrap n) k=le n k:=by
 rw[← zQh k 8 _ h,z3a,zQh k 8 _ h]
theorem zTd:fbyteC.ok Tryz.prog 47:=okw (V:=yLk) mixed gok0 0 (fun _=>[]) (fun _=>[]) [] Tryz.func47 fun(i:WN) h=>by
 have h:i.l.length+8≤1099511627776:=h
 refine⟨by rw[vY];omega,by rw[yTs,vY];omega,(),?_,trivial⟩
 rw[zWw,zZn];rfl
theorem z9g:flongC.ok Tryz.prog 46:=okw (V:=yIh) mixed gok0 0 (fun _=>[]) (fun i=>yJz i) [] Tryz.func46 fun(i:WN) h=>by
 have h:i.l.length+8≤1099511627776:=h
 refine⟨by rw[vY];omega,0,rfl,by simp[le],fun j=>j≤8,fun j=>8-j,by decide,fun j hj=>zI (fun hlt=> ?_) (fun hlt=> ?_)⟩
 ·dsimp only at hj
  have hu:=z2k i.n
  refine⟨by omega,?_,j+1,?_,?_,by(first|omega|(dsimp only;omega)),by(first|omega|(dsimp only;omega)),trivial⟩
  ·rw[vY,yRi,vZ];omega
  ·rw[tZ (by omega)];omega
  ·rw[zZn,lT .u64 _ (8*j) (by show 8*j≤64;omega),show(2:Int) ^ (8*j)=256 ^ j by rw[show(256:Int)=2 ^ 8 from rfl,← Int.pow_mul],← zZc (k:=j+1) (by omega) i.n,yEq,zZc (by omega),← yRn,zWw]
   rfl
 ·dsimp only at hj
  obtain rfl:j=8:=by omega
  exact⟨(),rfl,trivial⟩
open Go Cv Go.Proofs
def sb (l:List UInt8):ByteArray:=⟨l.toArray⟩
@[reducible] def sV (l:List UInt8):V:= .d (.v (.string (sb l)))
def zHo (l:List UInt8):Nat×Nat:=Utf8.decode (sb l) 0
def tC:Nat→Nat→List UInt8→List (Nat×Nat)
 |0,_,_=>[]
 |k+1,p,l=>match l with
  |[]=>[]
  |_=>(p,(zHo l).1)::tC k (p+(zHo l).2) (l.drop (zHo l).2)
def v7 (s:List UInt8) (p:Nat):List (Nat×Nat):=tC (s.length-p) p (s.drop p)
def qY (s:List UInt8):List Nat:=(v7 s 0).map (·.2)
def countC:Con:=con1 (List UInt8) (fun s=>[sV s]) (fun _=>[]) (fun s=>s.length≤1099511627776) (fun s=>zA (qY s).length) (fun _=>[])
def yLf (s:List UInt8):List SAnn:=[{ι:=Nat×Nat,slots:=fun x=>[(3,zA x.2),(5,.nm 0 0)],rows:=fun x=>[.iter (sb s) x.1]}]
def uI (r:Nat):Bool:=(decide (65≤r) && decide (r≤90))||(decide (913≤r) && decide (r≤937) && decide (r≠930))
def jJ (s:List UInt8):Bool:=(qY s).all uI && decide (s≠[]) && decide ((qY s).length≤4)
def symC:Con:=con1 (List UInt8) (fun s=>[sV s]) (fun _=>[]) (fun s=>s.length≤1099511627776) (fun s=>yM (jJ s)) (fun _=>[])
def yQo (s:List UInt8):List SAnn:=[{ι:=Nat,slots:=fun x=>[(7,.nm 0 0)],rows:=fun x=>[.iter (sb s) x]}]
def iE (l:List Int):List (List D):=l.map fun n=>[.v (.int .i64 n)]
@[reducible] def iV (l:List Int):V:=roV 1 (iE l)
structure Prd where
 code:List UInt8
 months:List Int
 tick:Int
 low:Int
 high:Int
 wide:Int
 rule:Int
 top:Int
 least:Int
 part:Int
 settle:List Int
 deriving DecidableEq
@[reducible] def Prd.cells (p:Prd):List V:=[sV p.code,iV p.months,zA p.tick,zA p.low,zA p.high,zA p.wide,zA p.rule,zA p.top,zA p.least,zA p.part,iV p.settle]
@[reducible] def prdV (p:Prd):V:= .agg p.cells
@[reducible] def Prd.small (p:Prd):Prop:=p.code.length≤1099511627776∧p.months.length≤1099511627776∧p.settle.length≤1099511627776
def qH (l:List Int) (k:Nat):Bool:=decide (0≤l.getD k 0) && decide (l.getD k 0≤1199) && (decide (k=0)||decide (l.getD (k-1) 0<l.getD k 0))
def xD (l:List Int):Bool:=(List.range l.length).all (qH l) && decide (2≤l.length) && decide (l.length≤6)
def monthsC:Con:=con1 (List Int) (fun l=>[iV l]) (fun _=>[]) (fun l=>l.length≤1099511627776) (fun l=>yM (xD l)) (fun _=>[])
def yEl:List SAnn:=[{ι:=Nat,slots:=fun j=>[(7,zA j)],rows:=fun _=>[]}]
def nM (l:List Int):Int:=l.tail.foldl min (l.headD 0)
def pD (l:List Int):Int:=l.tail.foldl max (l.headD 0)
def minC:Con:=con1 (List Int) (fun l=>[iV l]) (fun _=>[]) (fun l=>0<l.length∧l.length≤1099511627776) (fun l=>zA (nM l)) (fun _=>[])
def maxC:Con:=con1 (List Int) (fun l=>[iV l]) (fun _=>[]) (fun l=>0<l.length∧l.length≤1099511627776) (fun l=>zA (pD l)) (fun _=>[])
def yQh (l:List Int):List SAnn:=[{ι:=Nat,slots:=fun j=>[(3,zA (nM (l.take j))),(4,zA j)],rows:=fun _=>[]}]
def yPh (l:List Int):List SAnn:=[{ι:=Nat,slots:=fun j=>[(3,zA (pD (l.take j))),(4,zA j)],rows:=fun _=>[]}]
open Go Cv Go.Proofs
def gS (a:Nat×Nat) (b:List UInt8) (c:Nat×Nat→Prop) (d:Nat×Nat→Nat):Prop:=∃(e:Nat×Nat),(↑e.snd:Int)=IntKind.i64.wrap ((↑a.snd:Int)+1)∧sb b=sb b∧e.fst=a.fst+(Utf8.decode (sb b) a.fst).snd∧c e∧d e<d a∧True
def yBr (s:List UInt8):Prop:=
 ∃(a:Nat×Nat),(↑a.snd:Int)=0∧sb s=sb s∧a.fst=0∧∃(b:Nat×Nat→Prop),∃(c:Nat×Nat→Nat),b a∧∀(d:Nat×Nat),b d→cnd (d.fst.blt (sb s).size) (gS d s b c) (∃(e:Unit),(↑(qY s).length:Int)=(↑d.snd:Int)∧True)
def zAt (a:List UInt8) (b:Nat) (c:Nat→Prop) (d:Nat→Nat):Prop:=∃(e:Nat),sb a=sb a∧e=b+(Utf8.decode (sb a) b).snd∧c e∧d e<d b∧True
def gK (a:List UInt8) (b:Nat):=(↑(Utf8.decode (sb a) b).fst:Int)
def yMv (s:List UInt8):Prop:=
 ∃(a:Nat),sb s=sb s∧a=0∧∃(b:Nat→Prop),∃(c:Nat→Nat),b a∧∀(d:Nat),b d→cnd (d.blt (sb s).size) (cnd (decide ((gK s d)≥65)) (cnd (decide ((gK s d)≤90)) (zAt s d b c) (cnd (decide ((gK s d)≥913)) (cnd (decide ((gK s d)≤937)) (cnd (!(gK s d) !=930) (∃(e:Unit),jJ s=false∧True) (zAt s d b c)) (∃(e:Unit),jJ s=false∧True)) (∃(e:Unit),jJ s=false∧True))) (cnd (decide ((gK s d)≥913)) (cnd (decide ((gK s d)≤937)) (cnd (!(gK s d) !=930) (∃(e:Unit),jJ s=false∧True) (zAt s d b c)) (∃(e:Unit),jJ s=false∧True)) (∃(e:Unit),jJ s=false∧True))) (cnd (!(sb s).toList==(ByteArray.mk #[]).toList) (∃(e:List UInt8),sb e=sb s∧e.length≤1099511627776∧∀(f:Unit),True→∃(g:Unit),jJ s=decide ((↑(qY e).length:Int)≤4)∧True) (∃(e:Unit),jJ s=false∧True))
def vC (a:Nat) (b:Nat) (c:Nat→Prop) (d:Nat→Nat):Prop:=(↑a:Int)=IntKind.i64.wrap ((↑b:Int)+1)∧c a∧d a<d b∧True
def fV (a:Nat) (b:Nat→Prop) (c:Nat→Nat):Prop:=∃(d:Nat),vC d a b c
def z1g (l:List Int):Prop:=
 ∃(a:Nat),(↑a:Int)=0∧∃(b:Nat→Prop),∃(c:Nat→Nat),b a∧∀(d:Nat),b d→cnd (decide ((↑d:Int)<(↑(iE l).length:Int))) ((0≤(↑d:Int)∧(↑d:Int)<(↑(iE l).length:Int))∧∃(e:Int),zE (iE l) (↑d:Int).toNat 0 1=some [dI e]∧cnd (decide (e<0)) (∃(f:Unit),xD l=false∧True) (cnd (decide (e>1199)) (∃(f:Unit),xD l=false∧True) (cnd (decide ((↑d:Int)>0)) ((0≤IntKind.i64.wrap ((↑d:Int)-1)∧IntKind.i64.wrap ((↑d:Int)-1)<(↑(iE l).length:Int))∧∃(f:Int),zE (iE l) (IntKind.i64.wrap ((↑d:Int)-1)).toNat 0 1=some [dI f]∧cnd (decide (f≥e)) (∃(g:Unit),xD l=false∧True) (fV d b c)) (fV d b c)))) (cnd (decide ((↑(iE l).length:Int)≥2)) (∃(e:Unit),xD l=decide ((↑(iE l).length:Int)≤6)∧True) (∃(e:Unit),xD l=false∧True))
def yMl (l:List Int):Prop:=
 cnd (decide ((↑(iE l).length:Int)<1)) False (((0:Int)≤(0:Int)∧0<(↑(iE l).length:Int))∧∃(a:Int),zE (iE l) (Int.toNat 0) 0 1=some [dI a]∧∃(b:Nat),nM (List.take b l)=a∧(↑b:Int)=1∧∃(c:Nat→Prop),∃(d:Nat→Nat),c b∧∀(e:Nat),c e→cnd (decide ((↑e:Int)<(↑(iE l).length:Int))) ((0≤(↑e:Int)∧(↑e:Int)<(↑(iE l).length:Int))∧∃(f:Int),zE (iE l) (↑e:Int).toNat 0 1=some [dI f]∧∃(g:Nat),nM (List.take g l)=min (nM (List.take e l)) f∧vC g e c d) (∃(f:Unit),nM l=nM (List.take e l)∧True))
def yOv (l:List Int):Prop:=
 cnd (decide ((↑(iE l).length:Int)<1)) False (((0:Int)≤(0:Int)∧0<(↑(iE l).length:Int))∧∃(a:Int),zE (iE l) (Int.toNat 0) 0 1=some [dI a]∧∃(b:Nat),pD (List.take b l)=a∧(↑b:Int)=1∧∃(c:Nat→Prop),∃(d:Nat→Nat),c b∧∀(e:Nat),c e→cnd (decide ((↑e:Int)<(↑(iE l).length:Int))) ((0≤(↑e:Int)∧(↑e:Int)<(↑(iE l).length:Int))∧∃(f:Int),zE (iE l) (↑e:Int).toNat 0 1=some [dI f]∧∃(g:Nat),(pD (List.take g l)=if f>pD (List.take e l)then f else pD (List.take e l))∧vC g e c d) (∃(f:Unit),pD l=pD (List.take e l)∧True))
open Go Cv Go.Proofs
@[simp] theorem zGc (s:List UInt8):(sb s).size=s.length:=by simp[sb,ByteArray.size]
theorem aH (s:List UInt8):(sb s).toList=s:=by rw[ByteArray.toList_eq];rfl
theorem yHi (s:List UInt8) (p k:Nat):(sb s).get! (p+k)=(sb (s.drop p)).get! (0+k):=by
 simp only[sb,ByteArray.get!,ySd]
 simp only[List.getElem!_toArray,List.getElem!_eq_getElem?_getD,yUa]
theorem zEr (s:List UInt8) (p:Nat):Utf8.decode (sb s) p=zHo (s.drop p):=by
 have h (k:Nat):(decide (p+k<(sb s).size))=decide (0+k<(sb (s.drop p)).size):=by
  simp only[zGc,ySb]
  by_cases h:p+k<s.length
  ·rw[yRu h,yRu (by omega)]
  ·rw[yRo h,yRo (by omega)]
 unfold zHo Utf8.decode
 simp only[yHi s p,h]
theorem fZ (s:List UInt8) {p:Nat} (h:p<s.length):1≤(Utf8.decode (sb s) p).2∧p+(Utf8.decode (sb s) p).2≤s.length:=by
 unfold Utf8.decode
 simp only[zGc,yRq,ySs]
 split
 ·exact⟨by simp,by simp;omega⟩
 split
 ·rename_i h1
  split
  ·exact⟨by simp,by simp;omega⟩
  ·exact⟨by simp,by simp;omega⟩
 split
 ·rename_i h1
  split
  ·exact⟨by simp,by simp;omega⟩
  ·exact⟨by simp,by simp;omega⟩
 split
 ·rename_i h1
  split
  ·exact⟨by simp,by simp;omega⟩
  ·exact⟨by simp,by simp;omega⟩
 ·exact⟨by simp,by simp;omega⟩
theorem yJq {l:List UInt8} (h:l≠[]):1≤(zHo l).2∧(zHo l).2≤l.length:=by
 have:=fZ l (p:=0) (by cases l<;>simp_all)
 rw[zHo];omega
theorem nY:∀(k:Nat) (p:Nat) (l:List UInt8),l.length≤k→tC k p l=tC l.length p l
 |0,p,l,h=>by
  have:l=[]:=ySe (by omega)
  subst this;rfl
 |k+1,p,[],h=>rfl
 |k+1,p,b::l,h=>by
  have hw:=yJq (l:=b::l) (by simp)
  have hl:((b::l).drop (zHo (b::l)).2).length≤l.length:=by rw[ySb,yRt];omega
  rw[yRt]
  simp only[tC]
  rw[nY k _ _ (by rw[yRt]at h;omega),nY l.length _ _ hl]
theorem wZ {s:List UInt8} {p:Nat} (h:s.length≤p):v7 s p=[]:=by
 rw[v7,show s.length-p=0 by omega];rfl
theorem kQ {s:List UInt8} {p:Nat} (h:p<s.length):v7 s p=(p,(Utf8.decode (sb s) p).1)::v7 s (p+(Utf8.decode (sb s) p).2):=by
 obtain⟨k,hk⟩:∃k,s.length-p=k+1:=⟨s.length-p-1,by omega⟩
 have hw:=fZ s h
 obtain⟨b,l,hb⟩:∃b l,s.drop p=b::l:=by
  cases hd:s.drop p with
  |nil=>rw[List.drop_eq_nil_iff]at hd;omega
  |cons b l=>exact⟨b,l,rfl⟩
 have hlen:(b::l).length=s.length-p:=by rw[← hb,ySb]
 rw[v7,hk,hb,zEr,hb,v7]
 rw[zEr,hb]at hw
 simp only[tC]
 have e:(b::l).drop (zHo (b::l)).2=s.drop (p+(zHo (b::l)).2):=by rw[← hb,yUl]
 rw[e,nY k _ _ (by rw[ySb];omega),ySb]
theorem zIb (s:List UInt8):∀(k p:Nat),s.length-p≤k→(v7 s p).length≤s.length-p
 |0,p,h=>by rw[wZ (by omega)];simp
 |k+1,p,h=>by
  by_cases hp:p<s.length
  ·have hw:=fZ s hp
   rw[kQ hp,yRt]
   have:=zIb s k (p+(Utf8.decode (sb s) p).2) (by omega)
   omega
  ·rw[wZ (by omega)];simp
theorem zCz (s:List UInt8):(qY s).length≤s.length:=by
 rw[qY,yRg]
 have:=zIb s s.length 0 (by omega)
 omega
theorem z0d {a b:Nat} (h:Nat.blt a b=false):b≤a:=by
 rcases yTt a b with h1|h1
 ·rw[show Nat.blt a b=true by rw[yUb];exact h1]at h;cases h
 ·exact h1
theorem z6m:(ByteArray.mk #[]).toList=[]:=aH []
theorem yKj (s:List UInt8) (h:countC.cnd s):yBr s:=by
 have h:s.length≤1099511627776:=h
 have hr:=zCz s
 unfold yBr gS
 refine⟨(0,0),rfl,rfl,rfl,fun x=>x.1≤s.length∧x.2+(v7 s x.1).length=(qY s).length,fun x=>s.length-x.1,⟨by omega,by rw[qY,yRg];simp⟩,?_⟩
 rintro⟨p,n⟩ ⟨h1,h2⟩
 dsimp only at h1 h2 ⊢
 refine Cv.cnd.mk (fun hp=> ?_) (fun hp=> ?_)
 ·have hp:p<s.length:=by simpa[yUb]using hp
  have hw:=fZ s hp
  rw[kQ hp,yRt]at h2
  refine⟨(p+(Utf8.decode (sb s) p).2,n+1),?_,rfl,rfl,⟨hw.2,by(first|omega|(dsimp only;omega))⟩,by(first|omega|(dsimp only;omega)),trivial⟩
  rw[w64 (by omega)];rfl
 ·have hp:s.length≤p:=by have:=z0d hp;simpa using this
  rw[wZ hp]at h2
  exact⟨(),by rw[← h2];rfl,trivial⟩
theorem yBc:countC.ok Tryz.prog 197:=okw mixed gok0 0 (fun _=>[]) (fun s=>yLf s) [] Tryz.func197 yKj
theorem yQg (s:List UInt8) (h:symC.cnd s):yMv s:=by
 have h:s.length≤1099511627776:=h
 unfold yMv gK zAt
 refine⟨0,rfl,rfl,fun p=>p≤s.length∧(qY s).all uI=(v7 s p).all fun x=>uI x.2,fun p=>s.length-p,⟨by omega,by rw[qY,List.all_map];rfl⟩,?_⟩
 rintro p ⟨h1,h2⟩
 refine Cv.cnd.mk (fun hp=> ?_) (fun hp=> ?_)
 ·have hp:p<s.length:=by simpa[yUb]using hp
  have hw:=fZ s hp
  rw[kQ hp,List.all_cons]at h2
  generalize hc:(Utf8.decode (sb s) p).1=c at h2 ⊢
  generalize hww:(Utf8.decode (sb s) p).2=w at h2 hw ⊢
  dsimp only at h2
  have bad:uI c=false→∃(o:Unit),jJ s=false∧True:=fun e=>⟨(),by rw[jJ,h2,e];rfl,trivial⟩
  have good:uI c=true→∃i':Nat,sb s=sb s∧i'=p+w∧(i'≤s.length∧(qY s).all uI=(v7 s i').all fun x=>uI x.2)∧s.length-i'<s.length-p∧True:=fun e=>⟨p+w,rfl,rfl,⟨hw.2,by rw[h2,e];rfl⟩,by omega,trivial⟩
  refine zI (fun c1=>zI (fun c2=> ?_) (fun c2=>zI (fun c3=>zI (fun c4=>Cv.cnd.mk (fun c5=> ?_) (fun c5=> ?_)) (fun c4=> ?_)) (fun c3=> ?_))) (fun c1=>zI (fun c3=>zI (fun c4=>Cv.cnd.mk (fun c5=> ?_) (fun c5=> ?_)) (fun c4=> ?_)) (fun c3=> ?_))
  all_goals first|(refine good ?_;simp[uI]at*;omega)|(refine bad ?_;simp[uI]at*;omega)
 ·have hp:s.length≤p:=by have:=z0d hp;simpa using this
  rw[wZ hp]at h2
  have h2:(qY s).all uI=true:=h2
  refine Cv.cnd.mk (fun e=>⟨s,rfl,h,fun _ _=>⟨(),?_,trivial⟩⟩) (fun e=>⟨(),?_,trivial⟩)
  ·rw[aH,z6m]at e
   have:s≠[]:=by simpa using e
   rw[jJ,h2,yRu this]
   simp only[yTu]
   congr 1
   simp only[eq_iff_iff];omega
  ·have:s=[]:=by
    rw[aH,z6m]at e
    simpa using e
   rw[jJ,this];rfl
theorem yIp:symC.ok Tryz.prog 158:=okw mixed (gokc yBc gok0) 0 (fun _=>[]) (fun s=>yQo s) [] Tryz.func158 yQg
@[simp] theorem yY (l:List Int):(iE l).length=l.length:=by simp[iE]
theorem elI {l:List Int} {k:Nat} {n:Int} (h:l[k]? =some n):zE (iE l) k 0 1=some [D.v (.int .i64 n)]:=by
 simp[zE,iE,h];rfl
theorem yD {α:Type} {l:List α} {i:Nat} (h:i<l.length):∃x,l[i]? =some x:=⟨l[i],ySl h⟩
theorem zNb {n k:Nat} {f:Nat→Bool} (hk:k<n) (h:f k=false):(List.range n).all f=false:=by
 cases hh:(List.range n).all f
 ·rfl
 ·rw[yUd]at hh
  rw[hh k (by simpa using hk)]at h;cases h
theorem zRf {n:Nat} {f:Nat→Bool} (h:∀k<n,f k=true):(List.range n).all f=true:=by
 rw[yUd];intro k hk;exact h k (by simpa using hk)
theorem yCx (l:List Int) (h:monthsC.cnd l):z1g l:=by
 have h:l.length≤1099511627776:=h
 unfold z1g fV vC dI
 simp only[yY]
 refine⟨0,rfl,fun j=>j≤l.length∧∀k<j,qH l k=true,fun j=>l.length-j,⟨by omega,fun k hk=>by omega⟩,?_⟩
 rintro j ⟨h1,h2⟩
 have bad:j<l.length→qH l j=false→∃(o:Unit),xD l=false∧True:=fun hj e=>⟨(),by rw[xD,zNb hj e];rfl,trivial⟩
 have good:j<l.length→qH l j=true→∃i':Nat,(i':Int)=IntKind.i64.wrap ((j:Int)+1)∧(i'≤l.length∧∀k<i',qH l k=true)∧l.length-i'<l.length-j∧True:=fun hj e=>⟨j+1,by rw[w64 (by omega)];rfl,⟨by omega,fun k hk=>by
  rcases yTt k j with hk'|hk'
  ·exact h2 k hk'
  ·obtain rfl:k=j:=by omega
   exact e⟩,by omega,trivial⟩
 refine zI (fun hj=> ?_) (fun hj=> ?_)
 ·have hj:j<l.length:=by omega
  obtain⟨n,hn⟩:=yD hj
  have hg:l.getD j 0=n:=by simp[hn]
  refine⟨⟨by omega,by omega⟩,n,elI hn,zI (fun c1=>bad hj (by simp[qH,hn];omega)) (fun c1=>zI (fun c2=>bad hj (by simp[qH,hn];omega)) (fun c2=>zI (fun c3=> ?_) (fun c3=>good hj ?_)))⟩
  ·have e:IntKind.i64.wrap ((j:Int)-1)=((j-1:Nat):Int):=by rw[w64 (by omega)];omega
   obtain⟨m,hm⟩:=yD (l:=l) (i:=j-1) (by omega)
   rw[e]
   refine⟨⟨by omega,by omega⟩,m,elI hm,zI (fun c4=>bad hj ?_) (fun c4=>good hj ?_)⟩
   ·simp[qH,hn,hm];omega
   ·simp[qH,hn,hm];omega
  ·simp[qH,hn];omega
 ·have e:(List.range l.length).all (qH l)=true:=zRf fun k hk=>h2 k (by omega)
  refine zI (fun c=>⟨(),?_,trivial⟩) (fun c=>⟨(),?_,trivial⟩)
  ·rw[xD,e,yRu (show 2≤l.length by omega)]
   simp;omega
  ·rw[xD,yRo (show ¬2≤l.length by omega)];simp
theorem z2z:monthsC.ok Tryz.prog 159:=okw mixed gok0 0 (fun _=>[]) (fun _=>yEl) [] Tryz.func159 yCx
theorem zCy {f:Int→Int→Int} {l:List Int} {j:Nat} {n:Int} (h:l[j+1]? =some n):(l.take (j+2)).tail.foldl f ((l.take (j+2)).headD 0)=f ((l.take (j+1)).tail.foldl f ((l.take (j+1)).headD 0)) n:=by
 cases l with
 |nil=>simp at h
 |cons a l=>
  simp only[ySw]at h
  simp only[ySp,List.tail_cons,List.headD_cons]
  rw[ySz,h,List.foldl_append];rfl
theorem zRo {l:List Int} {n:Int} (h:l[0]? =some n) (f:Int→Int→Int):(l.take 1).tail.foldl f ((l.take 1).headD 0)=n:=by
 cases l with
 |nil=>simp at h
 |cons a l=>simpa using h
theorem yPt (l:List Int) (h:minC.cnd l):yMl l:=by
 obtain⟨h0,h⟩:0<l.length∧l.length≤1099511627776:=h
 unfold yMl vC dI
 simp only[yY]
 obtain⟨n,hn⟩:=yD h0
 refine zI (fun c=>by omega) (fun c=>⟨⟨by omega,by omega⟩,n,elI hn,1,zRo hn min,rfl,fun j=>1≤j∧j≤l.length,fun j=>l.length-j,⟨by omega,by omega⟩,?_⟩)
 rintro j ⟨h1,h2⟩
 refine zI (fun hj=> ?_) (fun hj=>⟨(),?_,trivial⟩)
 ·obtain⟨m,hm⟩:=yD (l:=l) (i:=j) (by omega)
  refine⟨⟨by omega,by omega⟩,m,elI hm,j+1,?_,?_,⟨by omega,by omega⟩,by(first|omega|(dsimp only;omega)),trivial⟩
  ·obtain⟨k,rfl⟩:∃k,j=k+1:=⟨j-1,by omega⟩
   first
    |(rw[nM,zCy hm,← nM];done)
    |(rw[nM,zCy hm,← nM];generalize nM (l.take (k+1))=x;split<;>omega)
  ·rw[w64 (by omega)];rfl
 ·rw[yRw (by omega)]
theorem yIm:minC.ok Tryz.prog 161:=okw mixed gok0 0 (fun _=>[]) (fun l=>yQh l) [] Tryz.func161 yPt
theorem yPu (l:List Int) (h:maxC.cnd l):yOv l:=by
 obtain⟨h0,h⟩:0<l.length∧l.length≤1099511627776:=h
 unfold yOv vC dI
 simp only[yY]
 obtain⟨n,hn⟩:=yD h0
 refine zI (fun c=>by omega) (fun c=>⟨⟨by omega,by omega⟩,n,elI hn,1,zRo hn max,rfl,fun j=>1≤j∧j≤l.length,fun j=>l.length-j,⟨by omega,by omega⟩,?_⟩)
 rintro j ⟨h1,h2⟩
 refine zI (fun hj=> ?_) (fun hj=>⟨(),?_,trivial⟩)
 ·obtain⟨m,hm⟩:=yD (l:=l) (i:=j) (by omega)
  refine⟨⟨by omega,by omega⟩,m,elI hm,j+1,?_,?_,⟨by omega,by omega⟩,by(first|omega|(dsimp only;omega)),trivial⟩
  ·obtain⟨k,rfl⟩:∃k,j=k+1:=⟨j-1,by omega⟩
   rw[pD,zCy hm,← pD]
   generalize pD (l.take (k+1))=x
   split<;>omega
  ·rw[w64 (by omega)];rfl
 ·rw[yRw (by omega)]
theorem yKp:maxC.ok Tryz.prog 162:=okw mixed gok0 0 (fun _=>[]) (fun l=>yPh l) [] Tryz.func162 yPu
open Go Cv Go.Proofs
@[reducible] def Prd.row (p:Prd):AObj:= .cells p.cells 26
structure zVe where
 p:Prd
 n:Int
structure zPe where
 p:Prd
 l:List Int
def qD (t n:Int):Bool:=n.tmod t !=0
def offC:Con:=con1 zVe (fun i=>[zA i.n,.nm 0 0]) (fun i=>[i.p.row]) (fun i=>1≤i.p.tick) (fun i=>yM (qD i.p.tick i.n)) (fun i=>[i.p.row])
@[reducible] def yOs:V:= .fn 198 [] [.nm 0 0]
def zEk (k:Option Nat):Int:=match k with
 |some k=>k
 |none=> -1
def idxC:Con:=con1 zPe (fun i=>[iV i.l,yOs]) (fun i=>[i.p.row]) (fun i=>1≤i.p.tick∧i.l.length≤1099511627776) (fun i=>zA (zEk (i.l.findIdx? (qD i.p.tick)))) (fun i=>[i.p.row])
def yPv (i:zPe):List SAnn:=[{ι:=Nat,slots:=fun j=>[(8,zA j)],rows:=fun _=>[]}]
def containsC:Con:=con1 zPe (fun i=>[iV i.l,yOs]) (fun i=>[i.p.row]) (fun i=>1≤i.p.tick∧i.l.length≤1099511627776) (fun i=>yM (i.l.any (qD i.p.tick))) (fun i=>[i.p.row])
def x9 (p:Prd):Bool:=decide (1≤p.tick) && decide (p.tick≤1000) && !qD p.tick p.low && !qD p.tick p.high && !qD p.tick p.wide && !p.settle.any (qD p.tick)
def ticksC:Con:=con1 Prd (fun p=>[prdV p]) (fun _=>[]) Prd.small (fun p=>yM (x9 p)) (fun _=>[])
def qA (p:Prd):Bool:=decide (p.low< -1000000)||decide (p.low≥p.high)||decide (p.high>1000000)||decide (p.wide<0)||decide (p.wide>p.high-p.low)
def xE (p:Prd):Bool:=decide (p.settle.length≠p.months.length)||decide (nM p.settle<p.low)||decide (pD p.settle>p.high)
def qP (p:Prd):Bool:=decide (p.rule<1)||decide (p.rule>3)
def xW (p:Prd):Bool:=decide (p.top<0)||decide (p.top>1000000)||decide (p.least<1)||decide (p.least>1000)||decide (p.part<0)||decide (p.part>100)
def Prd.check (p:Prd):Int:=
 if !jJ p.code then 12 else if !xD p.months then 1 else if !x9 p then 22 else if qA p then 23 else if xE p then 1 else if qP p then 31 else if xW p then 24 else 0
def checkC:Con:=con1 Prd (fun p=>[prdV p]) (fun _=>[]) Prd.small (fun p=>zA p.check) (fun _=>[])
def Prd.count (p:Prd):Nat:=if p.check=0 then p.months.length+p.months.length*(p.months.length-1) / 2 else 0
def pcountC:Con:=con1 Prd (fun p=>[prdV p]) (fun _=>[]) Prd.small (fun p=>zA p.count) (fun _=>[])
structure fX where
 p:Prd
 n:Int
def yH (n:Nat):Nat→Nat
 |0=>n
 |k+1=>yH n k+(n-1-k)
def kC (n inst:Nat):Nat→Nat→Int×Int×Bool
 |0,_=>(0,0,false)
 |k+1,m=>if inst<yH n m+(n-1-m)then(m,m+1+(inst-yH n m:Nat),true)else kC n inst k (m+1)
def Prd.legs (p:Prd) (i:Int):Int×Int×Bool:=
 if i<0∨(p.count:Int)≤i then(0,0,false)else if i<p.months.length then(i,i,false)else kC p.months.length i.toNat p.months.length 0
def legsC:Con:=con1 fX (fun i=>[prdV i.p,zA i.n]) (fun _=>[]) (fun i=>i.p.small) (fun i=> .tup [zA (i.p.legs i.n).1,zA (i.p.legs i.n).2.1,yM (i.p.legs i.n).2.2]) (fun _=>[])
structure pE where
 p:Prd
 a:Int
 b:Int
def Prd.spread (p:Prd) (a b:Int):Int×Bool:=
 if p.check≠0∨a<0∨b≤a∨(p.months.length:Int)≤b then(0,false)else((yH p.months.length a.toNat:Int)+b-a-1,true)
def spreadC:Con:=con1 pE (fun i=>[prdV i.p,zA i.a,zA i.b]) (fun _=>[]) (fun i=>i.p.small) (fun i=> .tup [zA (i.p.spread i.a i.b).1,yM (i.p.spread i.a i.b).2]) (fun _=>[])
def Prd.price (p:Prd) (i n:Int):Int:=
 if p.count=0 then 1 else if i<0∨(p.count:Int)≤i then 20 else if qD p.tick n then 22 else
 if n<(if(p.months.length:Int)≤i then-p.wide else p.low)∨(if(p.months.length:Int)≤i then p.wide else p.high)<n then 23 else 0
def priceC:Con:=con1 pE (fun i=>[prdV i.p,zA i.a,zA i.b]) (fun _=>[]) (fun i=>i.p.small) (fun i=>zA (i.p.price i.a i.b)) (fun _=>[])
structure I2 where
 x:Int
 y:Int
@[reducible] def yU (n:Int):Prop:= -9223372036854775808≤n∧n≤9223372036854775807
def uE (x y:Int):Int×Bool:=if yU (x+y)then(x+y,true)else(0,false)
def uD (x y:Int):Int×Bool:=if yU (x-y)then(x-y,true)else(0,false)
def addC:Con:=con1 I2 (fun i=>[zA i.x,zA i.y]) (fun _=>[]) (fun i=>yU i.x∧yU i.y) (fun i=> .tup [zA (uE i.x i.y).1,yM (uE i.x i.y).2]) (fun _=>[])
def subC:Con:=con1 I2 (fun i=>[zA i.x,zA i.y]) (fun _=>[]) (fun i=>yU i.x∧yU i.y) (fun i=> .tup [zA (uD i.x i.y).1,yM (uD i.x i.y).2]) (fun _=>[])
def yOk (i:fX):List SAnn:=[{ι:=Nat,slots:=fun m=>[(8,zA (yH i.p.months.length m)),(33,zA m)],rows:=fun _=>[]}]
def yBu (i:pE):List SAnn:=[{ι:=Nat,slots:=fun m=>[(9,zA (yH i.p.months.length m)),(33,zA m)],rows:=fun _=>[]}]
open Go Cv Go.Proofs
def yOz (i:zVe):Prop:=
 IntKind.i64=IntKind.i64∧i.p.tick≠0∧∃(a:Unit),qD i.p.tick i.n=(i.n.tmod i.p.tick !=0)∧sb i.p.code=sb i.p.code∧iE i.p.months=iE i.p.months∧i.p.tick=i.p.tick∧i.p.low=i.p.low∧i.p.high=i.p.high∧i.p.wide=i.p.wide∧i.p.rule=i.p.rule∧i.p.top=i.p.top∧i.p.least=i.p.least∧i.p.part=i.p.part∧iE i.p.settle=iE i.p.settle∧True
def yOm (i:zPe):Prop:=
 ∃(a:Nat),(↑a:Int)=0∧∃(b:Nat→Prop),∃(c:Nat→Nat),b a∧∀(d:Nat),b d→cnd (decide ((↑d:Int)<(↑(iE i.l).length:Int))) ((0≤(↑d:Int)∧(↑d:Int)<(↑(iE i.l).length:Int))∧∃(e:Int),zE (iE i.l) (↑d:Int).toNat 0 1=some [dI e]∧∃(f:zVe),f.n=e∧sb f.p.code=sb i.p.code∧iE f.p.months=iE i.p.months∧f.p.tick=i.p.tick∧f.p.low=i.p.low∧f.p.high=i.p.high∧f.p.wide=i.p.wide∧f.p.rule=i.p.rule∧f.p.top=i.p.top∧f.p.least=i.p.least∧f.p.part=i.p.part∧iE f.p.settle=iE i.p.settle∧1≤f.p.tick∧∀(g:Unit),True→cnd (qD f.p.tick f.n) (∃(h:Unit),zEk (List.findIdx? (qD i.p.tick) i.l)=(↑d:Int)∧sb i.p.code=sb f.p.code∧iE i.p.months=iE f.p.months∧i.p.tick=f.p.tick∧i.p.low=f.p.low∧i.p.high=f.p.high∧i.p.wide=f.p.wide∧i.p.rule=f.p.rule∧i.p.top=f.p.top∧i.p.least=f.p.least∧i.p.part=f.p.part∧iE i.p.settle=iE f.p.settle∧True) (∃(h:Nat),(↑h:Int)=IntKind.i64.wrap ((↑d:Int)+1)∧b h∧c h<c d∧Sx.AObj.cells (jX (dA 1 ((1:Nat)+(0:Nat)) ((1:Nat)-(1:Nat)) [((0:Nat),(0:Nat))]) f.p.cells) (26:TypeId)=i.p.row)) (∃(e:Unit),zEk (List.findIdx? (qD i.p.tick) i.l)=(-1)∧sb i.p.code=sb i.p.code∧iE i.p.months=iE i.p.months∧i.p.tick=i.p.tick∧i.p.low=i.p.low∧i.p.high=i.p.high∧i.p.wide=i.p.wide∧i.p.rule=i.p.rule∧i.p.top=i.p.top∧i.p.least=i.p.least∧i.p.part=i.p.part∧iE i.p.settle=iE i.p.settle∧True)
def zLo (i:zPe):Prop:=
 ∃(a:zPe),iE a.l=iE i.l∧sb a.p.code=sb i.p.code∧iE a.p.months=iE i.p.months∧a.p.tick=i.p.tick∧a.p.low=i.p.low∧a.p.high=i.p.high∧a.p.wide=i.p.wide∧a.p.rule=i.p.rule∧a.p.top=i.p.top∧a.p.least=i.p.least∧a.p.part=i.p.part∧iE a.p.settle=iE i.p.settle∧(1≤a.p.tick∧a.l.length≤1099511627776)∧∀(b:Unit),True→∃(c:Unit),i.l.any (qD i.p.tick)=decide (zEk (List.findIdx? (qD a.p.tick) a.l)≥0)∧sb i.p.code=sb a.p.code∧iE i.p.months=iE a.p.months∧i.p.tick=a.p.tick∧i.p.low=a.p.low∧i.p.high=a.p.high∧i.p.wide=a.p.wide∧i.p.rule=a.p.rule∧i.p.top=a.p.top∧i.p.least=a.p.least∧i.p.part=a.p.part∧iE i.p.settle=iE a.p.settle∧True
def z8k (p:Prd):Prop:=
 cnd (decide (p.tick<1)) (∃(a:Unit),x9 p=false∧True) (cnd (decide (p.tick>1000)) (∃(a:Unit),x9 p=false∧True) (∃(a:zVe),a.n=p.low∧sb a.p.code=sb p.code∧iE a.p.months=iE p.months∧a.p.tick=p.tick∧a.p.low=p.low∧a.p.high=p.high∧a.p.wide=p.wide∧a.p.rule=p.rule∧a.p.top=p.top∧a.p.least=p.least∧a.p.part=p.part∧iE a.p.settle=iE p.settle∧1≤a.p.tick∧∀(b:Unit),True→cnd (!qD a.p.tick a.n) (∃(c:zVe),c.n=a.p.high∧sb c.p.code=sb a.p.code∧iE c.p.months=iE a.p.months∧c.p.tick=a.p.tick∧c.p.low=a.p.low∧c.p.high=a.p.high∧c.p.wide=a.p.wide∧c.p.rule=a.p.rule∧c.p.top=a.p.top∧c.p.least=a.p.least∧c.p.part=a.p.part∧iE c.p.settle=iE a.p.settle∧1≤c.p.tick∧∀(d:Unit),True→cnd (!qD c.p.tick c.n) (∃(e:zVe),e.n=c.p.wide∧sb e.p.code=sb c.p.code∧iE e.p.months=iE c.p.months∧e.p.tick=c.p.tick∧e.p.low=c.p.low∧e.p.high=c.p.high∧e.p.wide=c.p.wide∧e.p.rule=c.p.rule∧e.p.top=c.p.top∧e.p.least=c.p.least∧e.p.part=c.p.part∧iE e.p.settle=iE c.p.settle∧1≤e.p.tick∧∀(f:Unit),True→cnd (!qD e.p.tick e.n) (∃(g:zPe),iE g.l=iE e.p.settle∧sb g.p.code=sb e.p.code∧iE g.p.months=iE e.p.months∧g.p.tick=e.p.tick∧g.p.low=e.p.low∧g.p.high=e.p.high∧g.p.wide=e.p.wide∧g.p.rule=e.p.rule∧g.p.top=e.p.top∧g.p.least=e.p.least∧g.p.part=e.p.part∧iE g.p.settle=iE e.p.settle∧(1≤g.p.tick∧g.l.length≤1099511627776)∧∀(h:Unit),True→∃(j:Unit),x9 p=!g.l.any (qD g.p.tick)∧True) (∃(g:Unit),x9 p=false∧True)) (∃(e:Unit),x9 p=false∧True)) (∃(c:Unit),x9 p=false∧True)))
def zY (a:Prd):Prop:=a.code.length≤1099511627776∧a.months.length≤1099511627776∧a.settle.length≤1099511627776
def j6 (a:Prd):=(↑(iE a.settle).length:Int)
def xC (a:Prd):=(↑(iE a.months).length:Int)
def z9s (p:Prd):Prop:=
 ∃(a:List UInt8),sb a=sb p.code∧a.length≤1099511627776∧∀(b:Unit),True→cnd (!jJ a) (∃(c:Unit),p.check=12∧True) (∃(c:List Int),iE c=iE p.months∧c.length≤1099511627776∧∀(d:Unit),True→cnd (!xD c) (∃(e:Unit),p.check=1∧True) (∃(e:Prd),sb e.code=sb p.code∧iE e.months=iE p.months∧e.tick=p.tick∧e.low=p.low∧e.high=p.high∧e.wide=p.wide∧e.rule=p.rule∧e.top=p.top∧e.least=p.least∧e.part=p.part∧iE e.settle=iE p.settle∧(zY e)∧∀(f:Unit),True→cnd (!x9 e) (∃(g:Unit),p.check=22∧True) (cnd (decide (p.low<(-1000000))) (∃(g:Unit),p.check=23∧True) (cnd (decide (p.low≥p.high)) (∃(g:Unit),p.check=23∧True) (cnd (decide (p.high>1000000)) (∃(g:Unit),p.check=23∧True) (cnd (decide (p.wide<0)) (∃(g:Unit),p.check=23∧True) (cnd (decide (p.wide>IntKind.i64.wrap (p.high-p.low))) (∃(g:Unit),p.check=23∧True) (cnd ((j6 p) !=(xC p)) (∃(g:Unit),p.check=1∧True) (∃(g:List Int),iE g=iE p.settle∧(0<g.length∧g.length≤1099511627776)∧∀(h:Unit),True→p.low=p.low∧cnd (decide (nM g<p.low)) (∃(j:Unit),p.check=1∧True) (∃(j:List Int),iE j=iE p.settle∧(0<j.length∧j.length≤1099511627776)∧∀(k:Unit),True→p.high=p.high∧cnd (decide (pD j>p.high)) (∃(l:Unit),p.check=1∧True) (cnd (decide (p.rule<1)) (∃(l:Unit),p.check=31∧True) (cnd (decide (p.rule>3)) (∃(l:Unit),p.check=31∧True) (cnd (decide (p.top<0)) (∃(l:Unit),p.check=24∧True) (cnd (decide (p.top>1000000)) (∃(l:Unit),p.check=24∧True) (cnd (decide (p.least<1)) (∃(l:Unit),p.check=24∧True) (cnd (decide (p.least>1000)) (∃(l:Unit),p.check=24∧True) (cnd (decide (p.part<0)) (∃(l:Unit),p.check=24∧True) (cnd (decide (p.part>100)) (∃(l:Unit),p.check=24∧True) (∃(l:Unit),p.check=0∧True)))))))))))))))))))
def mC (a:Prd) (b:Prd):Prop:=sb a.code=sb b.code∧iE a.months=iE b.months∧a.tick=b.tick∧a.low=b.low∧a.high=b.high∧a.wide=b.wide∧a.rule=b.rule∧a.top=b.top∧a.least=b.least∧a.part=b.part∧iE a.settle=iE b.settle∧(zY a)∧∀(c:Unit),True→cnd (a.check !=0) (∃(d:Unit),(↑b.count:Int)=0∧True) (IntKind.i64=IntKind.i64∧(2:Int)≠(0:Int)∧∃(d:Unit),(↑b.count:Int)=IntKind.i64.wrap ((xC b)+IntKind.i64.wrap ((IntKind.i64.wrap ((xC b)*IntKind.i64.wrap ((xC b)-1))).tdiv 2))∧True)
def z1l (p:Prd):Prop:=
 ∃(a:Prd),mC a p
def nP (a:fX):Prop:=Sx.AObj.cells [V.d (D.v (Value.string (sb a.p.code))),V.own 0,V.d (dI a.p.tick),V.d (dI a.p.low),V.d (dI a.p.high),V.d (dI a.p.wide),V.d (dI a.p.rule),V.d (dI a.p.top),V.d (dI a.p.least),V.d (dI a.p.part),V.own ((0:Nat)+(1:Nat))] 26=Sx.AObj.cells [V.d (D.v (Value.string (sb a.p.code))),V.own 0,V.d (dI a.p.tick),V.d (dI a.p.low),V.d (dI a.p.high),V.d (dI a.p.wide),V.d (dI a.p.rule),V.d (dI a.p.top),V.d (dI a.p.least),V.d (dI a.p.part),V.own ((0:Nat)+(1:Nat))] 26∧AObj.fro 1 (iE a.p.settle)=AObj.fro 1 (iE a.p.settle)∧AObj.fro 1 (iE a.p.months)=AObj.fro 1 (iE a.p.months)
def zBq (a:Nat→Prop) (b:Nat) (c:Nat→Nat) (d:Nat) (e:fX):Prop:=a b∧c b<c d∧nP e
def vG (a:fX) (b:Nat):=(↑(yH a.p.months.length b):Int)
def wC (a:fX):=(↑(iE a.p.months).length:Int)
def zDg (a:fX) (b:Nat):=((vG a b)+IntKind.i64.wrap (IntKind.i64.wrap ((wC a)-1)-(↑b:Int)))
def hU (a:fX):Prop:=∃(b:Unit),(a.p.legs a.n).fst=0∧(a.p.legs a.n).snd.fst=0∧(a.p.legs a.n).snd.snd=false∧True
def rU (a:fX):Prop:=∃(b:Unit),(a.p.legs a.n).fst=a.n∧(a.p.legs a.n).snd.fst=a.n∧(a.p.legs a.n).snd.snd=false∧True
def yHa (i:fX):Prop:=
 ∃(a:Prd),sb a.code=sb i.p.code∧iE a.months=iE i.p.months∧a.tick=i.p.tick∧a.low=i.p.low∧a.high=i.p.high∧a.wide=i.p.wide∧a.rule=i.p.rule∧a.top=i.p.top∧a.least=i.p.least∧a.part=i.p.part∧iE a.settle=iE i.p.settle∧(zY a)∧∀(b:Unit),True→cnd (decide (i.n<0)) (hU i) (cnd (decide (i.n≥(↑a.count:Int))) (hU i) (cnd (decide (i.n<(wC i))) (rU i) (∃(c:Nat),(vG i c)=(wC i)∧(↑c:Int)=0∧∃(d:Nat→Prop),∃(e:Nat→Nat),d c∧∀(f:Nat),d f→cnd (decide ((↑f:Int)<(wC i))) (cnd (decide (i.n<IntKind.i64.wrap (zDg i f))) (∃(g:Unit),(i.p.legs i.n).fst=(↑f:Int)∧(i.p.legs i.n).snd.fst=IntKind.i64.wrap (IntKind.i64.wrap (IntKind.i64.wrap ((↑f:Int)+1)+i.n)-(vG i f))∧(i.p.legs i.n).snd.snd=true∧True) (∃(g:Nat),(vG i g)=IntKind.i64.wrap (zDg i f)∧(↑g:Int)=IntKind.i64.wrap ((↑f:Int)+1)∧zBq d g e f i)) (hU i))))
def fS (a:pE):Prop:=∃(b:Unit),(a.p.spread a.a a.b).fst=0∧(a.p.spread a.a a.b).snd=false∧True
def z0z (i:pE):Prop:=
 ∃(a:Prd),sb a.code=sb i.p.code∧iE a.months=iE i.p.months∧a.tick=i.p.tick∧a.low=i.p.low∧a.high=i.p.high∧a.wide=i.p.wide∧a.rule=i.p.rule∧a.top=i.p.top∧a.least=i.p.least∧a.part=i.p.part∧iE a.settle=iE i.p.settle∧(zY a)∧∀(b:Unit),True→cnd (a.check !=0) (fS i) (cnd (decide (i.a<0)) (fS i) (cnd (decide (i.a≥i.b)) (fS i) (cnd (decide (i.b≥(↑(iE i.p.months).length:Int))) (fS i) (∃(c:Nat),(↑(yH i.p.months.length c):Int)=(↑(iE i.p.months).length:Int)∧(↑c:Int)=0∧∃(d:Nat→Prop),∃(e:Nat→Nat),d c∧∀(f:Nat),d f→cnd (decide ((↑f:Int)<i.a)) (∃(g:Nat),(↑(yH i.p.months.length g):Int)=IntKind.i64.wrap ((↑(yH i.p.months.length f):Int)+IntKind.i64.wrap (IntKind.i64.wrap ((↑(iE i.p.months).length:Int)-1)-(↑f:Int)))∧(↑g:Int)=IntKind.i64.wrap ((↑f:Int)+1)∧d g∧e g<e f∧Sx.AObj.cells [V.d (D.v (Value.string (sb i.p.code))),V.own 0,V.d (dI i.p.tick),V.d (dI i.p.low),V.d (dI i.p.high),V.d (dI i.p.wide),V.d (dI i.p.rule),V.d (dI i.p.top),V.d (dI i.p.least),V.d (dI i.p.part),V.own ((0:Nat)+(1:Nat))] 26=Sx.AObj.cells [V.d (D.v (Value.string (sb i.p.code))),V.own 0,V.d (dI i.p.tick),V.d (dI i.p.low),V.d (dI i.p.high),V.d (dI i.p.wide),V.d (dI i.p.rule),V.d (dI i.p.top),V.d (dI i.p.least),V.d (dI i.p.part),V.own ((0:Nat)+(1:Nat))] 26∧AObj.fro 1 (iE i.p.settle)=AObj.fro 1 (iE i.p.settle)∧AObj.fro 1 (iE i.p.months)=AObj.fro 1 (iE i.p.months)) (∃(g:Unit),(i.p.spread i.a i.b).fst=IntKind.i64.wrap (IntKind.i64.wrap (IntKind.i64.wrap ((↑(yH i.p.months.length f):Int)+i.b)-i.a)-1)∧(i.p.spread i.a i.b).snd=true∧True)))))
def z5n (i:pE):Prop:=
 ∃(a:Prd),sb a.code=sb i.p.code∧iE a.months=iE i.p.months∧a.tick=i.p.tick∧a.low=i.p.low∧a.high=i.p.high∧a.wide=i.p.wide∧a.rule=i.p.rule∧a.top=i.p.top∧a.least=i.p.least∧a.part=i.p.part∧iE a.settle=iE i.p.settle∧(zY a)∧∀(b:Unit),True→cnd ((↑a.count:Int)==0) (∃(c:Unit),i.p.price i.a i.b=1∧True) (cnd (decide (i.a<0)) (∃(c:Unit),i.p.price i.a i.b=20∧True) (cnd (decide (i.a≥(↑a.count:Int))) (∃(c:Unit),i.p.price i.a i.b=20∧True) (IntKind.i64=IntKind.i64∧i.p.tick≠0∧cnd (i.b.tmod i.p.tick !=0) (∃(c:Unit),i.p.price i.a i.b=22∧True) (cnd (decide (i.a≥(↑(iE i.p.months).length:Int))) (cnd (decide (i.b<IntKind.i64.wrap (0-i.p.wide))) (∃(c:Unit),i.p.price i.a i.b=23∧True) (cnd (decide (i.b>i.p.wide)) (∃(c:Unit),i.p.price i.a i.b=23∧True) (∃(c:Unit),i.p.price i.a i.b=0∧True))) (cnd (decide (i.b<i.p.low)) (∃(c:Unit),i.p.price i.a i.b=23∧True) (cnd (decide (i.b>i.p.high)) (∃(c:Unit),i.p.price i.a i.b=23∧True) (∃(c:Unit),i.p.price i.a i.b=0∧True)))))))
def zJn (a:I2):Prop:=∃(b:Unit),(uE a.x a.y).fst=IntKind.i64.wrap (a.x+a.y)∧(uE a.x a.y).snd=true∧True
def yOh (i:I2):Prop:=
 cnd (decide (i.x<0)==decide (i.y<0)) (cnd (!decide (IntKind.i64.wrap (i.x+i.y)<0)==decide (i.x<0)) (∃(a:Unit),(uE i.x i.y).fst=0∧(uE i.x i.y).snd=false∧True) (zJn i)) (zJn i)
def zGt (a:I2):Prop:=∃(b:Unit),(uD a.x a.y).fst=IntKind.i64.wrap (a.x-a.y)∧(uD a.x a.y).snd=true∧True
def yMj (i:I2):Prop:=
 cnd (!decide (i.x<0)==decide (i.y<0)) (cnd (!decide (IntKind.i64.wrap (i.x-i.y)<0)==decide (i.x<0)) (∃(a:Unit),(uD i.x i.y).fst=0∧(uD i.x i.y).snd=false∧True) (zGt i)) (zGt i)
open Go Cv Go.Proofs
theorem yPr (i:zVe) (h:offC.cnd i):yOz i:=by
 have h:1≤i.p.tick:=h
 unfold yOz;exact kp
theorem yBn:offC.ok Tryz.prog 198:=okw mixed gok0 0 (fun _=>[]) (fun _=>[]) [] Tryz.func198 yPr
theorem zDk {α:Type} {f:α→Bool} {l:List α} (h:∀(k:Nat) (x:α),l[k]? =some x→f x=false):l.findIdx? f=none:=by
 rw[yVj]
 intro x hx
 obtain⟨k,hk⟩:=List.getElem?_of_mem hx
 exact h k x hk
theorem zDa {α:Type} {f:α→Bool} {l:List α} {j:Nat} {x:α} (h1:l[j]? =some x) (h2:f x=true) (h:∀k<j,∀x:α,l[k]? =some x→f x=false):l.findIdx? f=some j:=by
 rw[yUf]
 obtain⟨hj,rfl⟩:=yRf.1 h1
 exact⟨hj,h2,fun k hk=>by rw[h k hk _ (ySl (by omega))];simp⟩
theorem yQp (i:zPe) (h:idxC.cnd i):yOm i:=by
 obtain⟨h1,h2⟩:1≤i.p.tick∧i.l.length≤1099511627776:=h
 unfold yOm dI
 simp only[yY]
 refine⟨0,rfl,fun j=>j≤i.l.length∧∀k<j,∀x,i.l[k]? =some x→qD i.p.tick x=false,fun j=>i.l.length-j,⟨by omega,fun k hk=>by omega⟩,?_⟩
 rintro j ⟨h3,h4⟩
 refine zI (fun hj=> ?_) (fun hj=> ?_)
 ·obtain⟨n,hn⟩:=yD (l:=i.l) (i:=j) (by omega)
  refine⟨⟨by omega,by omega⟩,n,elI hn,⟨i.p,n⟩,?_⟩
  (repeat'(first|exact rfl|exact trivial|assumption|apply And.intro|refine fun(_:Unit) (_:True)=>?_|refine Exists.intro () ?_|omega|(dsimp only;omega)))
  refine Cv.cnd.mk (fun e=> ?_) (fun e=> ?_)
  ·rw[zDa hn e h4];exact kp
  ·refine⟨j+1,by rw[w64 (by omega)];rfl,⟨by omega,fun k hk x hx=> ?_⟩,by(first|omega|(dsimp only;omega)),rfl⟩
   rcases yTt k j with hk'|hk'
   ·exact h4 k hk' x hx
   ·obtain rfl:k=j:=by omega
    rw[hn]at hx;cases hx;exact e
 ·rw[zDk fun k x hx=>h4 k (by have:=(yRf.1 hx).1;omega) x hx];exact kp
theorem yLq:idxC.ok Tryz.prog 231:=okw mixed (gokc yBn gok0) 0 (fun _=>[]) (fun i=>yPv i) [] Tryz.func231 yQp
theorem z3r {l:List Int} {f:Int→Bool}:l.any f=decide (zEk (l.findIdx? f)≥0):=by
 cases hf:l.findIdx? f with
 |none=>
  rw[yVj]at hf
  have:l.any f=false:=by rw[yWz];intro x hx;simp[hf x hx]
  rw[this];rfl
 |some k=>
  rw[yUf]at hf
  obtain⟨hk,h1,_⟩:=hf
  have:l.any f=true:=by rw[List.any_eq_true];exact⟨_,List.getElem_mem hk,h1⟩
  rw[this,zEk,yRu (by omega)]
theorem z2c (i:zPe) (h:containsC.cnd i):zLo i:=by
 unfold zLo
 have h':1≤i.p.tick∧i.l.length≤1099511627776:=h
 refine⟨i,?_⟩
 (repeat'(first|exact rfl|exact trivial|assumption|apply And.intro|refine fun(_:Unit) (_:True)=>?_|refine Exists.intro () ?_|omega|(dsimp only;omega)))
 exact z3r
theorem zTo:containsC.ok Tryz.prog 199:=okw mixed (gokc yLq gok0) 0 (fun _=>[]) (fun _=>[]) [] Tryz.func199 z2c
theorem yKs (p:Prd) (h:ticksC.cnd p):z8k p:=by
 obtain⟨h1,h2,h3⟩:p.small:=h
 unfold z8k
 refine zI (fun c1=>⟨(),by rw[x9,yRo (by omega)];rfl,trivial⟩) (fun c1=>zI (fun c2=>⟨(),by rw[x9,yRo (show ¬p.tick≤1000 by omega)];simp,trivial⟩) (fun c2=>⟨⟨p,p.low⟩,?_⟩))
 have e1:x9 p=(!qD p.tick p.low && !qD p.tick p.high && !qD p.tick p.wide && !p.settle.any (qD p.tick)):=by
  rw[x9,yRu (by omega),yRu (by omega)];rfl
 rw[e1]
 (repeat'(first|exact rfl|exact trivial|assumption|apply And.intro|refine fun(_:Unit) (_:True)=>?_|refine Exists.intro () ?_|omega|(dsimp only;omega)))
 refine Cv.cnd.mk (fun c3=>⟨⟨p,p.high⟩,?_⟩) (fun c3=>⟨(),?_,trivial⟩)
 ·dsimp only at c3
  (repeat'(first|exact rfl|exact trivial|assumption|apply And.intro|refine fun(_:Unit) (_:True)=>?_|refine Exists.intro () ?_|omega|(dsimp only;omega)))
  refine Cv.cnd.mk (fun c4=>⟨⟨p,p.wide⟩,?_⟩) (fun c4=>⟨(),?_,trivial⟩)
  ·dsimp only at c4
   (repeat'(first|exact rfl|exact trivial|assumption|apply And.intro|refine fun(_:Unit) (_:True)=>?_|refine Exists.intro () ?_|omega|(dsimp only;omega)))
   refine Cv.cnd.mk (fun c5=>⟨⟨p,p.settle⟩,?_⟩) (fun c5=>⟨(),?_,trivial⟩)
   ·dsimp only at c5
    (repeat'(first|exact rfl|exact trivial|assumption|apply And.intro|refine fun(_:Unit) (_:True)=>?_|refine Exists.intro () ?_|omega|(dsimp only;omega)))
    rw[c3,c4,c5];simp
   ·dsimp only at c5
    rw[c5];simp
  ·dsimp only at c4
   rw[c4];simp
 ·dsimp only at c3
  rw[c3];simp
theorem z8a:ticksC.ok Tryz.prog 160:=okw mixed (gokc yBn (gokc zTo gok0)) 0 (fun _=>[]) (fun _=>[]) [] Tryz.func160 yKs
theorem yHq (p:Prd) (h:checkC.cnd p):z9s p:=by
 obtain⟨h1,h2,h3⟩:p.small:=h
 unfold z9s xC j6 zY
 simp only[yY]
 refine⟨p.code,rfl,h1,fun _ _=>Cv.cnd.mk (fun c1=>⟨(),by rw[Prd.check,yRe c1],trivial⟩) (fun c1=>⟨p.months,rfl,h2,fun _ _=>Cv.cnd.mk (fun c2=>⟨(),by rw[Prd.check,yRd (by simp[c1]),yRe c2],trivial⟩) (fun c2=>⟨p,?_⟩)⟩)⟩
 (repeat'(first|exact rfl|exact trivial|assumption|apply And.intro|refine fun(_:Unit) (_:True)=>?_|refine Exists.intro () ?_|omega|(dsimp only;omega)))
 refine Cv.cnd.mk (fun c3=>⟨(),by rw[Prd.check,yRd (by simp[c1]),yRd (by simp[c2]),yRe c3],trivial⟩) (fun c3=> ?_)
 have e0:p.check=if qA p then 23 else if xE p then 1 else if qP p then 31 else if xW p then 24 else 0:=by
  rw[Prd.check,yRd (by simp[c1]),yRd (by simp[c2]),yRd (by simp[c3])]
 have b (hb:qA p=true):∃(o:Unit),p.check=23∧True:=⟨(),by rw[e0,yRe hb],trivial⟩
 refine zI (fun d1=>b (by simp[qA,d1])) fun d1=>zI (fun d2=>b (by simp[qA];omega)) fun d2=>zI (fun d3=>b (by simp[qA];omega)) fun d3=>zI (fun d4=>b (by simp[qA];omega)) fun d4=> ?_
 rw[w64 (by omega)]
 refine zI (fun d5=>b (by simp[qA];omega)) fun d5=> ?_
 have e1:p.check=if xE p then 1 else if qP p then 31 else if xW p then 24 else 0:=by
  rw[e0,yRd (by simp[qA];omega)]
 have s (hb:xE p=true):∃(o:Unit),p.check=1∧True:=⟨(),by rw[e1,yRe hb],trivial⟩
 have hm:2≤p.months.length:=by
  have c2:xD p.months=true:=by simpa using c2
  simp[xD]at c2;omega
 refine Cv.cnd.mk (fun d6=>s (by have d6:¬(p.settle.length:Int)=p.months.length:=(by simpa using d6);simp[xE];omega)) fun d6=> ?_
 have d6:p.settle.length=p.months.length:=by
  have:(p.settle.length:Int)=p.months.length:=by simpa using d6
  omega
 refine⟨p.settle,rfl,⟨by omega,by omega⟩,fun _ _=>⟨kp,zI (fun d7=>s (by simp[xE];left;right;omega)) fun d7=>⟨p.settle,rfl,⟨by omega,by omega⟩,fun _ _=>⟨kp,zI (fun d8=>s (by simp[xE];right;omega)) fun d8=> ?_⟩⟩⟩⟩
 have e2:p.check=if qP p then 31 else if xW p then 24 else 0:=by
  rw[e1,yRd (by simp[xE];omega)]
 have r (hb:qP p=true):∃(o:Unit),p.check=31∧True:=⟨(),by rw[e2,yRe hb],trivial⟩
 refine zI (fun d9=>r (by simp[qP];omega)) fun d9=>zI (fun d10=>r (by simp[qP];omega)) fun d10=> ?_
 have e3:p.check=if xW p then 24 else 0:=by
  rw[e2,yRd (by simp[qP];omega)]
 have q (hb:xW p=true):∃(o:Unit),p.check=24∧True:=⟨(),by rw[e3,yRe hb],trivial⟩
 refine zI (fun f1=>q (by simp[xW];omega)) fun f1=>zI (fun f2=>q (by simp[xW];omega)) fun f2=>zI (fun f3=>q (by simp[xW];omega)) fun f3=>zI (fun f4=>q (by simp[xW];omega)) fun f4=>zI (fun f5=>q (by simp[xW];omega)) fun f5=>zI (fun f6=>q (by simp[xW];omega)) fun f6=> ?_
 exact⟨(),by rw[e3,yRd (by simp[xW];omega)],trivial⟩
theorem lU:checkC.ok Tryz.prog 114:=okw mixed (gokc yIp (gokc z2z (gokc z8a (gokc yIm (gokc yKp gok0))))) 0 (fun _=>[]) (fun _=>[]) [] Tryz.func114 yHq
structure Prd.Ok (p:Prd):Prop where
 sym:jJ p.code=true
 months:xD p.months=true
 ticks:x9 p=true
 m2:2≤p.months.length
 m6:p.months.length≤6
 t1:1≤p.tick
 t2:p.tick≤1000
 b1: -1000000≤p.low
 b2:p.low<p.high
 b3:p.high≤1000000
 b4:0≤p.wide
 b5:p.wide≤p.high-p.low
 s1:p.settle.length=p.months.length
 s2:p.low≤nM p.settle
 s3:pD p.settle≤p.high
 r1:1≤p.rule
 r2:p.rule≤3
 q1:0≤p.top
 q2:p.top≤1000000
 q3:1≤p.least
 q4:p.least≤1000
 q5:0≤p.part
 q6:p.part≤100
theorem kI {p:Prd} (h:p.check=0):p.Ok:=by
 unfold Prd.check at h
 split at h<;>first|(exfalso;revert h;decide)|skip
 rename_i c1
 split at h<;>first|(exfalso;revert h;decide)|skip
 rename_i c2
 split at h<;>first|(exfalso;revert h;decide)|skip
 rename_i c3
 split at h<;>first|(exfalso;revert h;decide)|skip
 rename_i c4
 split at h<;>first|(exfalso;revert h;decide)|skip
 rename_i c5
 split at h<;>first|(exfalso;revert h;decide)|skip
 rename_i c6
 split at h<;>first|(exfalso;revert h;decide)|skip
 rename_i c7
 simp only[yVo,Bool.not_eq_false,Bool.not_eq_true]at c1 c2 c3
 have m:=c2
 have t:=c3
 simp[xD]at m
 simp[x9]at t
 simp[qA]at c4
 simp[xE]at c5
 simp[qP]at c6
 simp[xW]at c7
 exact⟨c1,c2,c3,by omega,by omega,by omega,by omega,by omega,by omega,by omega,by omega,by omega,by omega,by omega,by omega,by omega,by omega,by omega,by omega,by omega,by omega,by omega,by omega⟩
theorem z4y {n:Nat} (h:n≤6):n+n*(n-1) / 2≤21:=by
 have:∀n≤6,n+n*(n-1) / 2≤21:=by decide
 exact this n h
theorem yBv (p:Prd) (h:pcountC.cnd p):z1l p:=by
 unfold z1l mC xC zY
 obtain⟨h1,h2,h3⟩:p.small:=h
 refine⟨p,?_⟩
 simp only[yY]
 (repeat'(first|exact rfl|exact trivial|assumption|apply And.intro|refine fun(_:Unit) (_:True)=>?_|refine Exists.intro () ?_|omega|(dsimp only;omega)))
 refine Cv.cnd.mk (fun c=>⟨(),by rw[Prd.count,yRd (by simpa using c)];rfl,trivial⟩) (fun c=> ?_)
 have c:p.check=0:=by simpa using c
 have ok:=kI c
 refine⟨kp,by decide,(),?_,trivial⟩
 rw[Prd.count,yRe c]
 obtain⟨n,hn⟩:∃n,p.months.length=n:=⟨_,rfl⟩
 have m2:=ok.m2
 have m6:=ok.m6
 rw[hn]at m2 m6 ⊢
 have:n=2∨n=3∨n=4∨n=5∨n=6:=by omega
 rcases this with rfl|rfl|rfl|rfl|rfl<;>rfl
theorem aC:pcountC.ok Tryz.prog 116:=okw mixed (gokc lU gok0) 0 (fun _=>[]) (fun _=>[]) [] Tryz.func116 yBv
theorem pS {p:Prd} (h:p.count≠0):p.check=0:=by
 unfold Prd.count at h
 split at h
 ·assumption
 ·exact absurd rfl h
theorem xQ (p:Prd):p.count≤21:=by
 unfold Prd.count
 split
 ·rename_i h;exact z4y (kI h).m6
 ·omega
theorem zJf {n m:Nat} (h:n≤6) (hm:m≤n):yH n m≤21:=by
 have:∀n≤6,∀m≤n,yH n m≤21:=by decide
 exact this n h m hm
theorem yOi (i:fX) (h:legsC.cnd i):yHa i:=by
 unfold yHa zBq nP rU hU zDg wC vG zY dI
 obtain⟨h1,h2,h3⟩:i.p.small:=h
 refine⟨i.p,?_⟩
 simp only[yY]
 (repeat'(first|exact rfl|exact trivial|assumption|apply And.intro|refine fun(_:Unit) (_:True)=>?_|refine Exists.intro () ?_|omega|(dsimp only;omega)))
 refine zI (fun c1=> ?_) (fun c1=>zI (fun c2=> ?_) (fun c2=> ?_))
 ·rw[Prd.legs,yRe (by omega)];exact kp
 ·rw[Prd.legs,yRe (by omega)];exact kp
 have c2:¬i.n≥(i.p.count:Int):=c2
 have hc:=xQ i.p
 have ok:=kI (pS (p:=i.p) (by omega))
 have m6:=ok.m6
 refine zI (fun c3=> ?_) (fun c3=> ?_)
 ·rw[Prd.legs,yRd (by omega),yRe c3];exact kp
 have e0:i.p.legs i.n=kC i.p.months.length i.n.toNat i.p.months.length 0:=by
  rw[Prd.legs,yRd (by omega),yRd c3]
 rw[e0]
 generalize hn:i.p.months.length=n at c3 m6 ⊢
 obtain⟨k,hk⟩:∃k:Nat,i.n=k:=⟨i.n.toNat,by omega⟩
 rw[hk]at c2 c3 ⊢
 refine⟨0,rfl,rfl,fun m=>m≤n∧yH n m≤k∧kC n k n 0=kC n k (n-m) m,fun m=>n-m,⟨by omega,by show n≤k;omega,rfl⟩,?_⟩
 rintro m ⟨g1,g2,g3⟩
 have hf:=zJf m6 g1
 refine zI (fun c4=> ?_) (fun c4=> ?_)
 ·obtain⟨r,hr⟩:∃r,n-m=r+1:=⟨n-m-1,by omega⟩
  have e1:(k:Int).toNat=k:=by omega
  rw[e1,g3,hr,w64 (x:=(n:Int)-1) (by omega),w64 (x:=(n:Int)-1-m) (by omega),w64 (x:=(yH n m:Int)+((n:Int)-1-m)) (by omega),w64 (x:=(m:Int)+1) (by omega)]
  rw[hr]at g3
  refine zI (fun c5=> ?_) (fun c5=> ?_)
  ·rw[w64 (x:=(m:Int)+1+k) (by omega),w64 (x:=(m:Int)+1+k-(yH n m:Int)) (by omega),kC,yRe (by omega)]
   refine⟨(),rfl,?_,rfl,trivial⟩
   dsimp only;omega
  ·refine⟨m+1,?_,rfl,⟨by omega,?_,?_⟩,by(first|omega|(dsimp only;omega)),kp⟩
   ·rw[yH];omega
   ·rw[yH];omega
   ·rw[kC,yRd (by omega),show n-(m+1)=r by omega]
 ·have e1:(k:Int).toNat=k:=by omega
  rw[e1,g3,show n-m=0 by omega]
  exact⟨(),rfl,rfl,rfl,trivial⟩
theorem sD:legsC.ok Tryz.prog 186:=okw mixed (gokc aC gok0) 0 (fun _=>[]) (fun i=>yOk i) [] Tryz.func186 yOi
theorem yFj (i:pE) (h:spreadC.cnd i):z0z i:=by
 unfold z0z fS zY dI
 obtain⟨h1,h2,h3⟩:i.p.small:=h
 refine⟨i.p,?_⟩
 simp only[yY]
 (repeat'(first|exact rfl|exact trivial|assumption|apply And.intro|refine fun(_:Unit) (_:True)=>?_|refine Exists.intro () ?_|omega|(dsimp only;omega)))
 have bad (hb:i.p.check≠0∨i.a<0∨i.b≤i.a∨(i.p.months.length:Int)≤i.b):∃(o:Unit),(i.p.spread i.a i.b).fst=0∧(i.p.spread i.a i.b).snd=false∧True:=⟨(),by rw[Prd.spread,yRe hb],by rw[Prd.spread,yRe hb],trivial⟩
 refine Cv.cnd.mk (fun c1=>bad (.inl (by simpa using c1))) fun c1=>zI (fun c2=>bad (by omega)) fun c2=>zI (fun c3=>bad (by omega)) fun c3=>zI (fun c4=>bad (by omega)) fun c4=> ?_
 have c1:i.p.check=0:=by simpa using c1
 have m6:=(kI c1).m6
 rw[Prd.spread,yRd (by omega)]
 generalize hn:i.p.months.length=n at c4 m6 ⊢
 obtain⟨a,ha⟩:∃k:Nat,i.a=k:=⟨i.a.toNat,by omega⟩
 rw[ha]at c3 ⊢
 refine⟨0,rfl,rfl,fun m=>m≤a,fun m=>a-m,by omega,?_⟩
 intro m hm
 have hm:m≤a:=hm
 have hf:=zJf (m:=m) m6 (by omega)
 refine zI (fun c5=> ?_) (fun c5=> ?_)
 ·rw[w64 (x:=(n:Int)-1) (by omega),w64 (x:=(n:Int)-1-m) (by omega),w64 (x:=(yH n m:Int)+((n:Int)-1-m)) (by omega),w64 (x:=(m:Int)+1) (by omega)]
  refine⟨m+1,?_,rfl,by omega,by(first|omega|(dsimp only;omega)),kp⟩
  rw[yH];omega
 ·obtain rfl:m=a:=by omega
  rw[w64 (x:=(yH n m:Int)+i.b) (by omega),w64 (x:=(yH n m:Int)+i.b-m) (by omega),w64 (x:=(yH n m:Int)+i.b-m-1) (by omega)]
  exact⟨(),rfl,rfl,trivial⟩
theorem zMe:spreadC.ok Tryz.prog 189:=okw mixed (gokc lU gok0) 0 (fun _=>[]) (fun i=>yBu i) [] Tryz.func189 yFj
theorem yHf (i:pE) (h:priceC.cnd i):z5n i:=by
 unfold z5n zY
 obtain⟨h1,h2,h3⟩:i.p.small:=h
 refine⟨i.p,?_⟩
 simp only[yY]
 (repeat'(first|exact rfl|exact trivial|assumption|apply And.intro|refine fun(_:Unit) (_:True)=>?_|refine Exists.intro () ?_|omega|(dsimp only;omega)))
 refine Cv.cnd.mk (fun c1=>⟨(),by rw[Prd.price,yRe (by have:(i.p.count:Int)=0:=(by simpa using c1);omega)],trivial⟩) fun c1=> ?_
 have c1:i.p.count≠0:=by
  have:¬(i.p.count:Int)=0:=by simpa using c1
  omega
 have e0:i.p.price i.a i.b=if i.a<0∨(i.p.count:Int)≤i.a then 20 else if qD i.p.tick i.b then 22 else
  if i.b<(if(i.p.months.length:Int)≤i.a then-i.p.wide else i.p.low)∨(if(i.p.months.length:Int)≤i.a then i.p.wide else i.p.high)<i.b then 23 else 0:=by rw[Prd.price,yRd c1]
 rw[e0]
 have ok:=kI (pS c1)
 obtain⟨t1,b3,b1,b2,b4,b5⟩:=(⟨ok.t1,ok.b3,ok.b1,ok.b2,ok.b4,ok.b5⟩:_∧_∧_∧_∧_∧_)
 refine zI (fun c2=>⟨(),by rw[yRe (.inl c2)],trivial⟩) fun c2=>zI (fun c3=>⟨(),by rw[yRe (.inr c3)],trivial⟩) fun c3=>⟨kp,by omega,?_⟩
 have c3:¬i.a≥(i.p.count:Int):=c3
 rw[yRd (by omega)]
 refine Cv.cnd.mk (fun c4=>⟨(),yRe c4,trivial⟩) fun c4=> ?_
 rw[yRd (by rw[qD,c4];simp),w64 (x:=0-i.p.wide) (by omega)]
 refine zI (fun c5=> ?_) (fun c5=> ?_)
 ·have c5:(i.p.months.length:Int)≤i.a:=c5
  simp only[yRe c5]
  refine zI (fun c6=>⟨(),yRe (.inl (by omega)),trivial⟩) fun c6=>zI (fun c7=>⟨(),yRe (.inr (by omega)),trivial⟩) fun c7=>⟨(),yRd (by omega),trivial⟩
 ·have c5:¬(i.p.months.length:Int)≤i.a:=c5
  simp only[yRd c5]
  refine zI (fun c6=>⟨(),yRe (.inl (by omega)),trivial⟩) fun c6=>zI (fun c7=>⟨(),yRe (.inr (by omega)),trivial⟩) fun c7=>⟨(),yRd (by omega),trivial⟩
theorem p7:priceC.ok Tryz.prog 109:=okw mixed (gokc aC gok0) 0 (fun _=>[]) (fun _=>[]) [] Tryz.func109 yHf
theorem yGr (x:Int) (h: -18446744073709551616≤x∧x<18446744073709551616):(yU x∧IntKind.i64.wrap x=x)∨(9223372036854775807<x∧IntKind.i64.wrap x=x-18446744073709551616)∨(x< -9223372036854775808∧IntKind.i64.wrap x=x+18446744073709551616):=by
 have e:IntKind.i64.wrap x=if(decide (x % 18446744073709551616≥9223372036854775808))=true then x % 18446744073709551616-18446744073709551616 else x % 18446744073709551616:=by
  have:IntKind.i64.wrap x=if(true && decide (x % 18446744073709551616≥9223372036854775808))=true then x % 18446744073709551616-18446744073709551616 else x % 18446744073709551616:=rfl
  rw[this,yTu]
 have e:IntKind.i64.wrap x=(x+9223372036854775808) % 18446744073709551616-9223372036854775808:=by
  rw[e]
  by_cases h2:x % 18446744073709551616≥9223372036854775808
  ·rw[yRe (yRu h2)];omega
  ·rw[yRd (by simpa using h2)];omega
 rw[e]
 by_cases h1:yU x
 ·exact .inl ⟨h1,by unfold yU at h1;omega⟩
 ·unfold yU at h1
  omega
theorem yQn (i:I2) (h:addC.cnd i):yOh i:=by
 obtain⟨⟨x1,x2⟩,y1,y2⟩:yU i.x∧yU i.y:=h
 have hw:=yGr (i.x+i.y) (by omega)
 unfold yOh zJn uE
 generalize IntKind.i64.wrap (i.x+i.y)=w at hw ⊢
 unfold yU at hw ⊢
 refine Cv.cnd.mk (fun c1=>Cv.cnd.mk (fun c2=> ?_) (fun c2=> ?_)) (fun c1=> ?_)
 all_goals(simp at*)
 ·rw[yRd (by omega)];exact kp
 ·rw[yRe (by omega)];refine⟨?_,rfl⟩;dsimp only;omega
 ·rw[yRe (by omega)];refine⟨?_,rfl⟩;dsimp only;omega
theorem zNq:addC.ok Tryz.prog 220:=okw mixed gok0 0 (fun _=>[]) (fun _=>[]) [] Tryz.func220 yQn
theorem yQj (i:I2) (h:subC.cnd i):yMj i:=by
 obtain⟨⟨x1,x2⟩,y1,y2⟩:yU i.x∧yU i.y:=h
 have hw:=yGr (i.x-i.y) (by omega)
 unfold yMj zGt uD
 generalize IntKind.i64.wrap (i.x-i.y)=w at hw ⊢
 unfold yU at hw ⊢
 refine Cv.cnd.mk (fun c1=>Cv.cnd.mk (fun c2=> ?_) (fun c2=> ?_)) (fun c1=> ?_)
 all_goals(simp at*)
 ·rw[yRd (by omega)];exact kp
 ·rw[yRe (by omega)];refine⟨?_,rfl⟩;dsimp only;omega
 ·rw[yRe (by omega)];refine⟨?_,rfl⟩;dsimp only;omega
theorem zOv:subC.ok Tryz.prog 221:=okw mixed gok0 0 (fun _=>[]) (fun _=>[]) [] Tryz.func221 yQj
open Go Cv Go.Proofs
structure Slot where
 used:Bool
 n:Int
 id:Int
 qty:Int
 top:Bool
 queue:Int
 ahead:Int
 back:Int
 deriving DecidableEq
structure fY where
 first:Int
 last:Int
 total:Int
 count:Int
 deriving DecidableEq
structure Arena where
 slots:List Slot
 queues:List fY
 free:Int
 deriving DecidableEq
def zP (s:Slot):List D:=[.v (.bool s.used),.v (.int .i64 s.n),.v (.int .i64 s.id),.v (.int .i64 s.qty),.v (.bool s.top),.v (.int .i64 s.queue),.v (.int .i64 s.ahead),.v (.int .i64 s.back)]
def zN (q:fY):List D:=[.v (.int .i64 q.first),.v (.int .i64 q.last),.v (.int .i64 q.total),.v (.int .i64 q.count)]
def slot0:Slot:=⟨false,0,0,0,false,0,0,0⟩
def zG (a:Arena):Nat→AObj
 |0=> .cells [.own 1,.own 2,zA a.free] 350
 |1=> .own 305 8 (a.slots.map zP)
 |2=> .own 354 4 (a.queues.map zN)
 |_=> .gone
def jD (a:Arena):AObj:= .adt Arena 3 zG a
structure xF where
 price:Int
 queue:Int
 deriving DecidableEq
structure Place where
 side:Int
 price:Int
 slot:Int
 deriving DecidableEq
structure Book where
 a:Arena
 buys:List xF
 sells:List xF
 at_:List (Int×Place)
 top1:Int
 top2:Int
 spare:List Int
 has1:Bool
 has2:Bool
 deriving DecidableEq
def zB (r:xF):List D:=[.v (.int .i64 r.price),.v (.int .i64 r.queue)]
def zXl (p:Place):List D:=[.v (.int .i64 p.side),.v (.int .i64 p.price),.v (.int .i64 p.slot)]
def atE (l:List (Int×Place)):List (Value×List D):=l.map fun x=>(.int .i64 x.1,zXl x.2)
def zQ (b:Book):Nat→AObj
 |0=> .cells [.nm 1 0,.own 2,.own 3,.mp 4,zA b.top1,zA b.top2,.own 5,yM b.has1,yM b.has2] 244
 |1=>jD b.a
 |2=> .own 301 2 (b.buys.map zB)
 |3=> .own 301 2 (b.sells.map zB)
 |4=> .map (atE b.at_)
 |5=> .own 3 1 (iE b.spare)
 |_=> .gone
def yA (b:Book):AObj:= .adt Book 6 zQ b
structure MSt where
 p:Prd
 books:List Book
 wh:List (Int×Int)
def yS (l:List (Int×Int)):List (Value×List D):=l.map fun x=>(.int .i64 x.1,[.v (.int .i64 x.2)])
def xL (s:MSt):Nat→AObj
 |0=> .cells [sV s.p.code,.own 3,zA s.p.tick,zA s.p.low,zA s.p.high,zA s.p.wide,zA s.p.rule,zA s.p.top,zA s.p.least,zA s.p.part,.own 4,.own 1,.mp 2] 182
 |1=> .objs 184 Book 6 zQ s.books none
 |2=> .map (yS s.wh)
 |3=> .fro 1 (iE s.p.months)
 |4=> .fro 1 (iE s.p.settle)
 |_=> .gone
def zD (s:MSt):AObj:= .adt MSt 5 xL s
def zJm (n:Nat):Arena:=⟨List.replicate n slot0,[],n⟩
def book0:Book:=⟨zJm 250,[],[],[],0,0,[],false,false⟩
def newAC:Con:=con1 Nat (fun n=>[zA n]) (fun _=>[]) (fun n=>1≤n∧n≤4096) (fun _=> .tup [.nm 0 0,zA 0]) (fun n=>[jD (zJm n)])
def newBC:Con:=con1 Unit (fun _=>[]) (fun _=>[]) (fun _=>True) (fun _=> .nm 0 0) (fun _=>[yA book0])
def cT (p:Prd):MSt:=⟨p,List.replicate p.count book0,[]⟩
def newSC:Con where
 ι:=Prd
 pat:=fun p=>[prdV p]
 pre:=fun _=>[]
 cnd:=fun p=>p.small
 alts:=fun p=>[{o:=Unit,res:=fun _=> .tup [.nm 0 0,zA 0],post:=fun _=>[zD (cT p)],rel:=fun _=>p.check=0},{o:=Unit,res:=fun _=> .tup [.d (.v (.pointer none)),zA p.check],post:=fun _=>[],rel:=fun _=>p.check≠0}]
def yMu (p:Prd):List SAnn:=[{ι:=Nat,slots:=fun j=>[(5,.nm 0 0),(27,zA j)],rows:=fun j=>(List.range 5).map (xL ⟨p,List.replicate j book0,[]⟩)}]
def clSlotC:Con:=con1 (List Slot) (fun _=>[.own 0]) (fun l=>[.own 305 8 (l.map zP)]) (fun l=>l.length≤1000000) (fun _=> .own 1) (fun l=>[.own 305 8 (l.map zP),.own 305 8 (l.map zP)])
def clQueueC:Con:=con1 (List fY) (fun _=>[.own 0]) (fun l=>[.own 354 4 (l.map zN)]) (fun l=>l.length≤1000000) (fun _=> .own 1) (fun l=>[.own 354 4 (l.map zN),.own 354 4 (l.map zN)])
def clRungC:Con:=con1 (List xF) (fun _=>[.own 0]) (fun l=>[.own 301 2 (l.map zB)]) (fun l=>l.length≤1000000) (fun _=> .own 1) (fun l=>[.own 301 2 (l.map zB),.own 301 2 (l.map zB)])
def clIntC:Con:=con1 (List Int) (fun _=>[.own 0]) (fun l=>[.own 3 1 (iE l)]) (fun l=>l.length≤1000000) (fun _=> .own 1) (fun l=>[.own 3 1 (iE l),.own 3 1 (iE l)])
def zWv (f:Nat):Con:=con1 (List (Value×List D)) (fun _=>[.mp 0]) (fun es=>[.map es]) (fun _=>True) (fun _=> .mp 1) (fun es=>[.map es,.map es])
def clAtC:Con:=zWv 0
def clWhC:Con:=zWv 1
@[reducible] def Arena.small (a:Arena):Prop:=a.slots.length≤1000000∧a.queues.length≤1000000
@[reducible] def Book.small (b:Book):Prop:=b.a.small∧b.buys.length≤1000000∧b.sells.length≤1000000∧b.spare.length≤1000000
@[reducible] def MSt.small (s:MSt):Prop:=s.books.length≤1000000∧∀b∈s.books,b.small
def copyAC:Con:=con1 Arena (fun _=>[.nm 0 0]) (fun a=>[jD a]) Arena.small (fun _=> .nm 1 0) (fun a=>[jD a,jD a])
def copyBC:Con:=con1 Book (fun _=>[.nm 0 0]) (fun b=>[yA b]) Book.small (fun _=> .nm 1 0) (fun b=>[yA b,yA b])
def yJg:List SAnn:=[{ι:=Unit,slots:=fun _=>[],rows:=fun _=>[],un:=3}]
def copySC:Con:=con1 MSt (fun _=>[.nm 0 0]) (fun s=>[zD s]) MSt.small (fun _=> .nm 1 0) (fun s=>[zD s,zD s])
open Go Cv Go.Proofs
def yFs (n:Nat):Prop:=
 cnd (decide ((↑n:Int)<1)) (∃(a:Unit),False) (cnd (decide ((↑n:Int)>4096)) (∃(a:Unit),False) ((0≤(↑n:Int)∧(↑n:Int)≤(↑n:Int)∧(↑n:Int)≤9223372036854775807∧(↑(64:Nat):Int)*(↑n:Int)≤2 ^ (48:Nat))∧∃(a:Unit),(0:Int)=(0:Int)∧(↑n:Int)=(↑n:Int)∧List.map zP (List.replicate n slot0)=List.replicate (↑n:Int).toNat [D.v (.bool false),dI 0,dI 0,dI 0,D.v (.bool false),dI 0,dI 0,dI 0]∧([]:List (List D))=[]∧True))
def yMy (u:Unit):Prop:=
 ∃(i:Nat),(↑i:Int)=250∧(1≤i∧i≤4096)∧∀(o:Unit),True→∃(o:Unit),(0:Int)=(0:Int)∧(0:Int)=(0:Int)∧false=false∧false=false∧AObj.adt Arena 3 zG (zJm 250)=AObj.adt Arena 3 zG (zJm i)∧([]:List (List D))=[]∧([]:List (List D))=[]∧atE []=[]∧iE []=[]∧True
def dN (a:Prd):Prop:=AObj.fro 1 (iE a.settle)=AObj.fro 1 (iE a.settle)∧AObj.fro 1 (iE a.months)=AObj.fro 1 (iE a.months)
def vN (a:Prd):=(D.v (Value.string (sb a.code)))
def zHb (a:Prd) (b:Nat) (c:Unit):Prop:=(∃(d:Unit),(0:Int)=(0:Int)∧sb a.code=sb a.code∧a.tick=a.tick∧a.low=a.low∧a.high=a.high∧a.wide=a.wide∧a.rule=a.rule∧a.top=a.top∧a.least=a.least∧a.part=a.part∧AObj.objs 184 Book 6 zQ (List.replicate a.count book0) none=AObj.objs 184 Book 6 zQ (List.replicate b book0) none∧yS []=yS []∧AObj.fro 1 (iE a.months)=AObj.fro 1 (iE a.months)∧AObj.fro 1 (iE a.settle)=AObj.fro 1 (iE a.settle)∧a.check=0)∨∃(c:Unit),False
def zOq (a:Prd):Prop:=True∧True∧(0+(iE a.months).length)*(8:Nat)≤(70368744177664:Nat)∧True∧(0+(iE a.settle).length)*(8:Nat)≤(70368744177664:Nat)∧∃(b:Prd),sb b.code=sb a.code∧iE b.months=[]++iE a.months∧b.tick=a.tick∧b.low=a.low∧b.high=a.high∧b.wide=a.wide∧b.rule=a.rule∧b.top=a.top∧b.least=a.least∧b.part=a.part∧iE b.settle=[]++iE a.settle∧(zY b)∧∀(c:Unit),True→∃(d:Nat),(↑d:Int)=0∧sb a.code=sb a.code∧a.tick=a.tick∧a.low=a.low∧a.high=a.high∧a.wide=a.wide∧a.rule=a.rule∧a.top=a.top∧a.least=a.least∧a.part=a.part∧List.replicate d book0=[]∧(none:Option Nat)=none∧yS []=[]∧AObj.fro 1 (iE a.months)=AObj.fro 1 ([]++iE a.months)∧AObj.fro 1 (iE a.settle)=AObj.fro 1 ([]++iE a.settle)∧∃(e:Nat→Prop),∃(f:Nat→Nat),e d∧∀(g:Nat),e g→cnd (decide ((↑g:Int)<(↑b.count:Int))) (∃(h:Unit),True∧∀(j:Unit),True→True∧True∧∃(k:List Book),AObj.objs 184 Book 6 zQ (List.replicate g book0) none=AObj.objs 184 Book 6 zQ k none∧(k.length+1)*(8:Nat)≤(70368744177664:Nat)∧∃(l:Nat),(↑l:Int)=IntKind.i64.wrap ((↑g:Int)+1)∧sb a.code=sb a.code∧a.tick=a.tick∧a.low=a.low∧a.high=a.high∧a.wide=a.wide∧a.rule=a.rule∧a.top=a.top∧a.least=a.least∧a.part=a.part∧AObj.objs 184 Book 6 zQ (List.replicate l book0) none=AObj.objs 184 Book 6 zQ (k++[book0]) none∧yS []=yS []∧AObj.fro 1 (iE a.months)=AObj.fro 1 (iE a.months)∧AObj.fro 1 (iE a.settle)=AObj.fro 1 (iE a.settle)∧e l∧f l<f g∧AObj.fro 1 ([]++iE a.settle)=AObj.fro 1 ([]++iE a.settle)∧AObj.fro 1 ([]++iE a.months)=AObj.fro 1 ([]++iE a.months)∧Sx.AObj.cells [V.d (vN a),V.own ((0:Nat)+(1:Nat)+(1:Nat)+(1:Nat)+((0:Nat)-(0:Nat))+(1:Nat)+(1:Nat)),V.d (dI a.tick),V.d (dI a.low),V.d (dI a.high),V.d (dI a.wide),V.d (dI a.rule),V.d (dI a.top),V.d (dI a.least),V.d (dI a.part),V.own ((0:Nat)+(1:Nat)+(1:Nat)+(1:Nat)+((0:Nat)-(0:Nat))+(1:Nat)+(1:Nat)+1)] 26=Sx.AObj.cells [V.d (vN a),V.own ((0:Nat)+(1:Nat)+(1:Nat)+(1:Nat)+((0:Nat)-(0:Nat))+(1:Nat)+(1:Nat)),V.d (dI a.tick),V.d (dI a.low),V.d (dI a.high),V.d (dI a.wide),V.d (dI a.rule),V.d (dI a.top),V.d (dI a.least),V.d (dI a.part),V.own ((0:Nat)+(1:Nat)+(1:Nat)+(1:Nat)+((0:Nat)-(0:Nat))+(1:Nat)+(1:Nat)+1)] 26∧dN a) (zHb a g c)
def yGy (p:Prd):Prop:=
 ∃(a:Prd),sb a.code=sb p.code∧iE a.months=iE p.months∧a.tick=p.tick∧a.low=p.low∧a.high=p.high∧a.wide=p.wide∧a.rule=p.rule∧a.top=p.top∧a.least=p.least∧a.part=p.part∧iE a.settle=iE p.settle∧(zY a)∧∀(b:Unit),True→cnd (a.check !=0) ((∃(c:Unit),False)∨∃(b:Unit),True∧p.check=a.check∧(p.check=0→False)) ((True∧True∧((0+(iE p.months).length)*(8:Nat)≤(70368744177664:Nat)∧True∧True∧(0+(iE p.settle).length)*(8:Nat)≤(70368744177664:Nat)∧∃(c:Prd),sb c.code=sb p.code∧iE c.months=[]++iE p.months∧c.tick=p.tick∧c.low=p.low∧c.high=p.high∧c.wide=p.wide∧c.rule=p.rule∧c.top=p.top∧c.least=p.least∧c.part=p.part∧iE c.settle=[]++iE p.settle∧(zY c)∧∀(d:Unit),True→∃(e:Nat),(↑e:Int)=0∧sb p.code=sb p.code∧p.tick=p.tick∧p.low=p.low∧p.high=p.high∧p.wide=p.wide∧p.rule=p.rule∧p.top=p.top∧p.least=p.least∧p.part=p.part∧List.replicate e book0=[]∧(none:Option Nat)=none∧yS []=[]∧AObj.fro 1 (iE p.months)=AObj.fro 1 ([]++iE p.months)∧AObj.fro 1 (iE p.settle)=AObj.fro 1 ([]++iE p.settle)∧∃(f:Nat→Prop),∃(g:Nat→Nat),f e∧∀(h:Nat),f h→cnd (decide ((↑h:Int)<(↑c.count:Int))) (∃(j:Unit),True∧∀(k:Unit),True→True∧True∧∃(l:List Book),AObj.objs 184 Book 6 zQ (List.replicate h book0) none=AObj.objs 184 Book 6 zQ l none∧(l.length+1)*(8:Nat)≤(70368744177664:Nat)∧∃(m:Nat),(↑m:Int)=IntKind.i64.wrap ((↑h:Int)+1)∧sb p.code=sb p.code∧p.tick=p.tick∧p.low=p.low∧p.high=p.high∧p.wide=p.wide∧p.rule=p.rule∧p.top=p.top∧p.least=p.least∧p.part=p.part∧AObj.objs 184 Book 6 zQ (List.replicate m book0) none=AObj.objs 184 Book 6 zQ (l++[book0]) none∧yS []=yS []∧AObj.fro 1 (iE p.months)=AObj.fro 1 (iE p.months)∧AObj.fro 1 (iE p.settle)=AObj.fro 1 (iE p.settle)∧f m∧g m<g h∧AObj.fro 1 ([]++iE p.settle)=AObj.fro 1 ([]++iE p.settle)∧AObj.fro 1 ([]++iE p.months)=AObj.fro 1 ([]++iE p.months)∧Sx.AObj.cells [V.d (vN p),V.own ((0:Nat)+(1:Nat)+(1:Nat)+(1:Nat)+((0:Nat)-(0:Nat))+1),V.d (dI p.tick),V.d (dI p.low),V.d (dI p.high),V.d (dI p.wide),V.d (dI p.rule),V.d (dI p.top),V.d (dI p.least),V.d (dI p.part),V.own ((0:Nat)+(1:Nat)+(1:Nat)+(1:Nat)+((0:Nat)-(0:Nat))+(1:Nat)+(1:Nat)+1)] 26=Sx.AObj.cells [V.d (vN p),V.own ((0:Nat)+(1:Nat)+(1:Nat)+(1:Nat)+((0:Nat)-(0:Nat))+1),V.d (dI p.tick),V.d (dI p.low),V.d (dI p.high),V.d (dI p.wide),V.d (dI p.rule),V.d (dI p.top),V.d (dI p.least),V.d (dI p.part),V.own ((0:Nat)+(1:Nat)+(1:Nat)+(1:Nat)+((0:Nat)-(0:Nat))+(1:Nat)+(1:Nat)+1)] 26∧dN p) (zHb p h d))∧zOq p)∧True∧True∧zOq p)
def yDw (l:List Slot):Prop:=
 ∀(b:Bool),(b=true→List.map zP l=[])→cnd b (∃(o:Unit),List.map zP l=List.map zP l∧List.map zP l=[]∧True) ((0+(List.map zP l).length)*(64:Nat)≤(70368744177664:Nat)∧∃(o:Unit),List.map zP l=List.map zP l∧List.map zP l=[]++List.map zP l∧True)
def z5u (l:List fY):Prop:=
 ∀(b:Bool),(b=true→List.map zN l=[])→cnd b (∃(o:Unit),List.map zN l=List.map zN l∧List.map zN l=[]∧True) ((0+(List.map zN l).length)*(32:Nat)≤(70368744177664:Nat)∧∃(o:Unit),List.map zN l=List.map zN l∧List.map zN l=[]++List.map zN l∧True)
def yDy (l:List xF):Prop:=
 ∀(b:Bool),(b=true→List.map zB l=[])→cnd b (∃(o:Unit),List.map zB l=List.map zB l∧List.map zB l=[]∧True) ((0+(List.map zB l).length)*(16:Nat)≤(70368744177664:Nat)∧∃(o:Unit),List.map zB l=List.map zB l∧List.map zB l=[]++List.map zB l∧True)
def yKy (l:List Int):Prop:=
 ∀(b:Bool),(b=true→iE l=[])→cnd b (∃(o:Unit),iE l=iE l∧iE l=[]∧True) ((0+(iE l).length)*(8:Nat)≤(70368744177664:Nat)∧∃(o:Unit),iE l=iE l∧iE l=[]++iE l∧True)
def z5s (es:List (Value×List D)):Prop:=
 ∃(a:List (Value×List D)),a=es∧True∧∀(b:Unit),True→∃(c:Unit),es=a∧es=a∧True
theorem yIr (es:List (Value×List D)):z5s es=walk Tryz.prog ([(147,uJ 240)]) 0 ([]) ([]) [] Tryz.f181 (Tryz.f181.body.getD .skip) (clAtC.pat es) (clAtC.pre es) (clAtC.alts es):=by kernel_rfl
theorem yJk (hG:GOk Tryz.prog ([(147,uJ 240)])) (h:∀(es:List (Value×List D)),clAtC.cnd es→z5s es):clAtC.ok Tryz.prog 181:=gZ mixed ([(147,uJ 240)]) hG 0 (fun(es:List (Value×List D))=>[]) (fun(es:List (Value×List D))=>[]) [] Tryz.func181 (by kernel_rfl) (by kernel_rfl) (by kernel_rfl) (fun _=>by kernel_rfl) (fun(es:List (Value×List D)) hc=>Eq.mp (yIr es) (h es hc))
def z7u (es:List (Value×List D)):Prop:=
 ∃(a:List (Value×List D)),a=es∧True∧∀(b:Unit),True→∃(c:Unit),es=a∧es=a∧True
theorem yLx (es:List (Value×List D)):z7u es=walk Tryz.prog ([(147,uJ 105)]) 0 ([]) ([]) [] Tryz.f145 (Tryz.f145.body.getD .skip) (clWhC.pat es) (clWhC.pre es) (clWhC.alts es):=by kernel_rfl
theorem yJn (hG:GOk Tryz.prog ([(147,uJ 105)])) (h:∀(es:List (Value×List D)),clWhC.cnd es→z7u es):clWhC.ok Tryz.prog 145:=gZ mixed ([(147,uJ 105)]) hG 0 (fun(es:List (Value×List D))=>[]) (fun(es:List (Value×List D))=>[]) [] Tryz.func145 (by kernel_rfl) (by kernel_rfl) (by kernel_rfl) (fun _=>by kernel_rfl) (fun(es:List (Value×List D)) hc=>Eq.mp (yLx es) (h es hc))
def yIk (a:Arena):Prop:=
 ∃(i:List Slot),List.map zP i=List.map zP a.slots∧i.length≤1000000∧∀(o:Unit),True→a.free=a.free∧True∧∃(i_1:List fY),List.map zN i_1=List.map zN a.queues∧i_1.length≤1000000∧∀(o:Unit),True→a.free=a.free∧∃(o:Unit),a.free=a.free∧List.map zP a.slots=List.map zP i∧List.map zN a.queues=List.map zN i_1∧a.free=a.free∧List.map zP a.slots=List.map zP i∧List.map zN a.queues=List.map zN i_1∧True
def yLd (b:Book):Prop:=
 ∃(i:Arena),AObj.adt Arena 3 zG i=AObj.adt Arena 3 zG b.a∧(i.slots.length≤1000000∧i.queues.length≤1000000)∧∀(o:Unit),True→True∧True∧∃(i_1:List (Value×List D)),i_1=atE b.at_∧True∧∀(o:Unit),True→True∧∃(i_2:List Int),iE i_2=iE b.spare∧i_2.length≤1000000∧∀(o:Unit),True→∃(i_3:List xF),List.map zB i_3=List.map zB b.buys∧i_3.length≤1000000∧∀(o:Unit),True→∃(i_4:List xF),List.map zB i_4=List.map zB b.sells∧i_4.length≤1000000∧∀(o:Unit),True→∃(o:Unit),b.top1=b.top1∧b.top2=b.top2∧b.has1=b.has1∧b.has2=b.has2∧AObj.adt Arena 3 zG b.a=AObj.adt Arena 3 zG i∧List.map zB b.buys=List.map zB i_3∧List.map zB b.sells=List.map zB i_4∧atE b.at_=i_1∧iE b.spare=iE i_2∧b.top1=b.top1∧b.top2=b.top2∧b.has1=b.has1∧b.has2=b.has2∧AObj.adt Arena 3 zG b.a=AObj.adt Arena 3 zG i∧List.map zB b.buys=List.map zB i_3∧List.map zB b.sells=List.map zB i_4∧atE b.at_=i_1∧iE b.spare=iE i_2∧True
end Sx
