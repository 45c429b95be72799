/- Texts of ours, one behind the other: a walk that the kernel reckons, and contracts of functions. No condition. -/
import Derived.Test.YtogkpgfggfbhaaaGreatRows
import Derived.Test.YtogkpgfggfbhaaaGreatX3
namespace Sx
set_option linter.unusedVariables false
open Go Cv Go.Proofs
theorem kp {P:Prop} (h:P:=by(repeat'(first|exact rfl|exact trivial|assumption|apply And.intro|refine fun(_:Unit) (_:True)=>?_|refine Exists.intro () ?_|omega|(dsimp only;omega)))):P:=h
theorem mixed:Tryz.prog.follows .mixedOrders=true:=by kernel_rfl
theorem okw {P:Program} {f:FuncId} {fn:Func} {C:Con} {G:List (Nat×Con)} {V:C.ι→Prop} (hm:P.follows .mixedOrders=true) (hG:GOk P G) (d:Nat) (J:C.ι→List (Nat×SAnn)) (an:C.ι→List SAnn) (op:List Nat) (hf:P.funcs[f]? =some fn) (h:∀i,C.cnd i→V i) (hb:fn.body=some (fn.body.getD .skip):=by kernel_rfl) (hbd:wU P f=true:=by kernel_rfl) (hok:okC fn.ntmps (fn.body.getD .skip)=true:=by kernel_rfl) (hsz:∀i,Nat.ble (C.pat i).length fn.ntmps=true:=by intro _;kernel_rfl) (e:∀i,V i=walk P G d (J i) (an i) op fn (fn.body.getD .skip) (C.pat i) (C.pre i) (C.alts i):=by intro _;kernel_rfl):C.ok P f:=dD hm G hG d J an op hf hb hbd hok hsz fun i hc=>Eq.mp (e i) (h i hc)
structure Lv where
 price:Int
 qty:Int
 count:Int
def lvV (l:Lv):V:= .agg [zA l.price,zA l.qty,zA l.count]
open Go Cv Go.Proofs
def WrU (l:List UInt8):Nat→AObj
 |0=> .cells [.own 1] 204
 |1=> .own 5 1 (bE l)
 |_=> .gone
def Wr (l:List UInt8):AObj:= .adt (List UInt8) 2 WrU l
set_option maxRecDepth 100000
open Go Cv Go.Proofs
open Go Cv Go.Proofs
open Go Cv Go.Proofs
@[reducible] def tU8:Nat:=5
structure WN where
 l:List UInt8
 n:Int
@[reducible] def WN.ok (i:WN):Prop:=i.l.length+8≤1099511627776
@[reducible] def yFd (t sz by_:Nat):Con:=con1 (List (List D)) (fun _=>[.own 0]) (fun l=>[.own t sz l]) (fun l=>l.length*by_≤70368744177664) (fun _=> .own 1) (fun l=>[.own t sz l,.own t sz l])
@[reducible] def yHj (sz by_:Nat):Con:=con1 (List (List D)) (fun l=>[roV sz l]) (fun _=>[]) (fun l=>l.length*by_≤70368744177664) (fun l=>roV sz l) (fun _=>[])
def cloneBO:Con:=yFd tU8 1 1
def cloneBR:Con:=yHj 1 1
def doneC:Con:=con1 (List UInt8) (fun _=>[.nm 0 0]) (fun l=>[Wr l]) (fun l=>l.length≤1099511627776) (fun _=> .own 1) (fun l=>[Wr l,.own tU8 1 (bE l)])
def RdU (x:List UInt8×Bool):Nat→AObj
 |0=> .cells [roV 1 (bE x.1),yJ x.2] 208
 |_=> .gone
def Rd (l:List UInt8) (b:Bool):AObj:= .adt (List UInt8×Bool) 1 RdU (l,b)
def newRC:Con:=con1 (List UInt8) (fun l=>[roV 1 (bE l)]) (fun _=>[]) (fun l=>l.length≤1099511627776) (fun _=> .nm 0 0) (fun l=>[Rd l false])
structure RN where
 l:List UInt8
 b:Bool
 n:Nat
def RN.bad (i:RN):Bool:=i.b||decide (i.l.length<i.n)
def RN.got (i:RN):List UInt8:=if i.bad then[]else i.l.take i.n
def RN.left (i:RN):List UInt8:=if i.bad then i.l else i.l.drop i.n
@[reducible] def RN.ok (i:RN):Prop:=i.n≤255∧i.l.length≤1099511627776
def takeC:Con:=con1 RN (fun i=>[.nm 0 0,zA i.n]) (fun i=>[Rd i.l i.b]) RN.ok (fun i=>roV 1 (bE i.got)) (fun i=>[Rd i.left i.bad])
def x9:List UInt8→Int
 |[]=>0
 |b::l=>b.toNat+256*x9 l
def getC:Con:=con1 RN (fun i=>[.nm 0 0,zA i.n]) (fun i=>[Rd i.l i.b]) (fun i=>i.n≤8∧i.l.length≤1099511627776) (fun i=>nD (x9 i.got)) (fun i=>[Rd i.left i.bad])
def yMv (i:RN):List SAnn:=[{ι:=Nat,slots:=fun j=>[(5,nD (x9 (i.got.take j))),(12,zA j)],rows:=fun _=>[]}]
structure RB where
 l:List UInt8
 b:Bool
def RB.n (i:RB) (k:Nat):RN:=⟨i.l,i.b,k⟩
def rbyteC:Con:=con1 RB (fun i=>[.nm 0 0]) (fun i=>[Rd i.l i.b]) (fun i=>i.l.length≤1099511627776) (fun i=>zA (x9 (i.n 1).got)) (fun i=>[Rd (i.n 1).left (i.n 1).bad])
def rlongC:Con:=con1 RB (fun i=>[.nm 0 0]) (fun i=>[Rd i.l i.b]) (fun i=>i.l.length≤1099511627776) (fun i=>zA (IntKind.i64.wrap (x9 (i.n 8).got))) (fun i=>[Rd (i.n 8).left (i.n 8).bad])
def rendC:Con:=con1 RB (fun i=>[.nm 0 0]) (fun i=>[Rd i.l i.b]) (fun i=>i.l.length≤1099511627776) (fun i=>zA (if i.b then 10 else if 0<i.l.length then 15 else 0)) (fun i=>[Rd i.l i.b])
open Go Cv Go.Proofs
def zPq (i:List (List D)):Prop:=
 ∀(b:Bool),(b=true→i=[])→cnd b (∃(o:Unit),i=i∧i=[]∧True) ((0+i.length)*(1:Nat)≤(70368744177664:Nat)∧∃(o:Unit),i=i∧i=[]++i∧True)
theorem zZw (i:List (List D)):zPq i=walk Tryz.prog ([]) 0 ([]) ([]) [] Tryz.f127 (Tryz.f127.body.getD .skip) (cloneBO.pat i) (cloneBO.pre i) (cloneBO.alts i):=by kernel_rfl
theorem zZe (hG:GOk Tryz.prog ([])) (h:∀(i:List (List D)),cloneBO.cnd i→zPq i):cloneBO.ok Tryz.prog 127:=dD mixed ([]) hG 0 (fun(i:List (List D))=>[]) (fun(i:List (List D))=>[]) [] Tryz.func127 (by kernel_rfl) (by kernel_rfl) (by kernel_rfl) (fun _=>by kernel_rfl) (fun(i:List (List D)) hc=>Eq.mp (zZw i) (h i hc))
def zRd (i:List (List D)):Prop:=
 ∀(b:Bool),(b=true→i=[])→cnd b (∃(o:Unit),i=[]∧True) ((0+i.length)*(1:Nat)≤(70368744177664:Nat)∧∃(o:Unit),i=[]++i∧True)
theorem z2h (i:List (List D)):zRd i=walk Tryz.prog ([]) 0 ([]) ([]) [] Tryz.f127 (Tryz.f127.body.getD .skip) (cloneBR.pat i) (cloneBR.pre i) (cloneBR.alts i):=by kernel_rfl
theorem z0l (hG:GOk Tryz.prog ([])) (h:∀(i:List (List D)),cloneBR.cnd i→zRd i):cloneBR.ok Tryz.prog 127:=dD mixed ([]) hG 0 (fun(i:List (List D))=>[]) (fun(i:List (List D))=>[]) [] Tryz.func127 (by kernel_rfl) (by kernel_rfl) (by kernel_rfl) (fun _=>by kernel_rfl) (fun(i:List (List D)) hc=>Eq.mp (z2h i) (h i hc))
def yJy (i:List UInt8):Prop:=
 ∃(i_1:List (List D)),i_1=bE i∧i_1.length*(1:Nat)≤(70368744177664:Nat)∧∀(o:Unit),True→∃(o:Unit),bE i=i_1∧bE i=i_1∧True
def yKt (i:List UInt8):Prop:=
 ∃(i_1:List (List D)),i_1=bE i∧i_1.length*(1:Nat)≤(70368744177664:Nat)∧∀(o:Unit),True→∃(o:Unit),bE i=i_1∧false=false∧True
def yJu (i:RN):Prop:=
 cnd i.b (∃(o:Unit),bE i.got=[]∧bE i.left=bE i.l∧i.bad=true∧True) (cnd (decide ((↑i.n:Int)>(↑(bE i.l).length:Int))) (∃(o:Unit),bE i.got=[]∧bE i.left=bE i.l∧i.bad=decide ((↑i.n:Int)>(↑(bE i.l).length:Int))∧True) ((0≤(↑i.n:Int)∧(↑i.n:Int)≤(↑(bE i.l).length:Int))∧(0≤(↑i.n:Int)∧(↑i.n:Int)≤(↑(bE i.l).length:Int))∧∃(o:Unit),bE i.got=List.take (↑i.n:Int).toNat (bE i.l)∧bE i.left=List.drop (↑i.n:Int).toNat (bE i.l)∧i.bad=decide ((↑i.n:Int)>(↑(bE i.l).length:Int))∧True))
@[reducible] def dI (n:Int):D:= .v (.int .i64 n)
def yKi (i:RN):Prop:=
 ∃(a:RN),(↑a.n:Int)=(↑i.n:Int)∧AObj.adt (List UInt8×Bool) 1 RdU (a.l,a.b)=Rd i.l i.b∧(a.n≤255∧a.l.length≤1099511627776)∧∀(b:Unit),True→∃(c:Nat),x9 (List.take c i.got)=0∧(↑c:Int)=0∧∃(d:Nat→Prop),∃(e:Nat→Nat),d c∧∀(f:Nat),d f→cnd (decide ((↑f:Int)<(↑(bE a.got).length:Int))) ((0≤(↑f:Int)∧(↑f:Int)<(↑(bE a.got).length:Int))∧∃(g:Int),zE (bE a.got) (↑f:Int).toNat 0 1=some [D.v (.int .u8 g)]∧0≤IntKind.i64.wrap (8*(↑f:Int))∧∃(h:Nat),x9 (List.take h i.got)=iOr IntKind.u64 (x9 (List.take f i.got)) (zRy IntKind.u64 (IntKind.u64.wrap g) (IntKind.i64.wrap (8*(↑f:Int))))∧(↑h:Int)=IntKind.i64.wrap ((↑f:Int)+1)∧d h∧e h<e f∧AObj.adt (List UInt8×Bool) 1 RdU (a.left,a.bad)=AObj.adt (List UInt8×Bool) 1 RdU (a.left,a.bad)) (∃(g:Unit),x9 i.got=x9 (List.take f i.got)∧AObj.adt (List UInt8×Bool) 1 RdU (i.left,i.bad)=AObj.adt (List UInt8×Bool) 1 RdU (a.left,a.bad)∧True)
def yJb (i:RB):Prop:=
 ∃(i_1:RN),(↑i_1.n:Int)=1∧AObj.adt (List UInt8×Bool) 1 RdU (i_1.l,i_1.b)=Rd i.l i.b∧(i_1.n≤8∧i_1.l.length≤1099511627776)∧∀(o:Unit),True→∃(o:Unit),x9 (i.n 1).got=IntKind.i64.wrap (x9 i_1.got)∧AObj.adt (List UInt8×Bool) 1 RdU ((i.n 1).left,(i.n 1).bad)=AObj.adt (List UInt8×Bool) 1 RdU (i_1.left,i_1.bad)∧True
def yEz (i:RB):Prop:=
 ∃(i_1:RN),(↑i_1.n:Int)=8∧AObj.adt (List UInt8×Bool) 1 RdU (i_1.l,i_1.b)=Rd i.l i.b∧(i_1.n≤8∧i_1.l.length≤1099511627776)∧∀(o:Unit),True→∃(o:Unit),IntKind.i64.wrap (x9 (i.n 8).got)=IntKind.i64.wrap (x9 i_1.got)∧AObj.adt (List UInt8×Bool) 1 RdU ((i.n 8).left,(i.n 8).bad)=AObj.adt (List UInt8×Bool) 1 RdU (i_1.left,i_1.bad)∧True
def yLo (i:RB):Prop:=
 cnd i.b (∃(o:Unit),(if i.b=true then(10:Int)else if 0<i.l.length then(15:Int)else(0:Int))=10∧bE i.l=bE i.l∧i.b=i.b∧True) (cnd (decide ((↑(bE i.l).length:Int)>0)) (∃(o:Unit),(if i.b=true then(10:Int)else if 0<i.l.length then(15:Int)else(0:Int))=15∧bE i.l=bE i.l∧i.b=i.b∧True) (∃(o:Unit),(if i.b=true then(10:Int)else if 0<i.l.length then(15:Int)else(0:Int))=0∧bE i.l=bE i.l∧i.b=i.b∧True))
set_option linter.unusedSimpArgs false
open Go Cv Go.Proofs
theorem yHv (k:Nat):∀n:Int,le (n % 256 ^ k) k=le n k:=by
 induction k with
 |zero=>intro n;rfl
 |succ k ih=>
  intro n
  have hp:(0:Int)<256 ^ k:=Int.pow_pos (by omega)
  have h1:lob (n % 256 ^ (k+1))=lob n:=by
   unfold lob
   rw[Int.pow_succ,Int.mul_comm,Int.emod_emod_of_dvd n ⟨256 ^ k,rfl⟩]
  have h2:n % 256 ^ (k+1) / 256=n / 256 % 256 ^ k:=by
   have e:n=256*(n / 256)+n % 256:=(Int.mul_ediv_add_emod n 256).symm
   have e2:n / 256=256 ^ k*(n / 256 / 256 ^ k)+n / 256 % 256 ^ k:=(Int.mul_ediv_add_emod _ _).symm
   have hr:=Int.emod_nonneg (n / 256) (show(256:Int) ^ k≠0 by omega)
   have hr2:=Int.emod_lt_of_pos (n / 256) hp
   have e3:n % 256 ^ (k+1)=256*(n / 256 % 256 ^ k)+n % 256:=by
    have:n=256 ^ (k+1)*(n / 256 / 256 ^ k)+(256*(n / 256 % 256 ^ k)+n % 256):=by
     rw[Int.pow_succ,Int.mul_comm (256 ^ k) 256,Int.mul_assoc,← Int.add_assoc,← Int.mul_add,← e2]
     exact e
    conv=>lhs;rw[this]
    rw[Int.add_comm,Int.add_mul_emod_self_left,Int.emod_eq_of_lt]
    ·omega
    ·rw[Int.pow_succ];omega
   rw[e3]
   omega
  rw[le,le,h1,h2,ih]
theorem zZr (n:Int):le (IntKind.u64.wrap n) 8=le n 8:=yHv 8 n
theorem zZf (n:Int):0≤IntKind.u64.wrap n∧IntKind.u64.wrap n<18446744073709551616:=by
 have:IntKind.u64.wrap n=n % 18446744073709551616:=rfl
 rw[this];omega
theorem zTu:cloneBO.ok Tryz.prog 127:=zZe gok0 fun i h=>fun b hb=>
 Cv.cnd.mk (fun e=>⟨(),rfl,hb e,trivial⟩) (fun _=>⟨by rw[yPh];exact h,(),rfl,rfl,trivial⟩)
theorem zSv:cloneBR.ok Tryz.prog 127:=z0l gok0 fun i h=>fun b hb=>
 Cv.cnd.mk (fun e=>⟨(),hb e,trivial⟩) (fun _=>⟨by rw[yPh];exact h,(),rfl,trivial⟩)
theorem yMk:doneC.ok Tryz.prog 81:=okw (V:=yJy) mixed (gokc zTu gok0) 0 (fun _=>[]) (fun _=>[]) [0] Tryz.func81 fun(i:List UInt8) h=>by
 have h:i.length≤1099511627776:=h
 exact⟨_,rfl,by rw[vD];omega,fun _ _=>⟨(),rfl,rfl,trivial⟩⟩
theorem yBh:newRC.ok Tryz.prog 82:=okw (V:=yKt) mixed (gokc zSv gok0) 0 (fun _=>[]) (fun _=>[]) [] Tryz.func82 fun(i:List UInt8) h=>by
 have h:i.length≤1099511627776:=h
 exact⟨_,rfl,by rw[vD];omega,fun _ _=>⟨(),rfl,rfl,trivial⟩⟩
theorem z0z {l:List UInt8} {i:Nat} {b:UInt8} (h:l[i]? =some b):zE (bE l) i 0 1=some [.v (.int .u8 b.toNat)]:=by
 unfold zE bE
 rw[yQf,h];rfl
theorem yKv (b:UInt8):IntKind.u64.wrap (b.toNat:Int)=b.toNat:=sN (by have:=b.toNat_lt;omega)
theorem zXh:takeC.ok Tryz.prog 168:=okw (V:=yJu) mixed gok0 0 (fun _=>[]) (fun _=>[]) [0] Tryz.func168 fun(i:RN) h=>by
 obtain⟨h1,h2⟩:=h
 refine Cv.cnd.mk (fun e=> ?_) (fun e=>zI (fun hlt=> ?_) (fun hlt=> ?_))
 ·have:i.bad=true:=by simp[RN.bad,e]
  exact⟨(),by simp[RN.got,this],by simp[RN.left,this],this,trivial⟩
 ·rw[vD]at hlt
  have:i.bad=true:=by simp[RN.bad];right;omega
  exact⟨(),by simp[RN.got,this],by simp[RN.left,this],by rw[this,vD];simp;omega,trivial⟩
 ·rw[vD]at hlt
  have:i.bad=false:=by simp[RN.bad,e];omega
  rw[vD]
  exact⟨⟨by omega,by omega⟩,⟨by omega,by omega⟩,(),by simp[RN.got,this,z9q],by simp[RN.left,this,yAm],by rw[this];simp;omega,trivial⟩
theorem mG:∀l:List UInt8,0≤x9 l∧x9 l<256 ^ l.length
 |[]=>by simp[x9]
 |b::l=>by
  obtain⟨h1,h2⟩:=mG l
  have:=b.toNat_lt
  simp only[x9,yOw,Int.pow_succ]
  omega
theorem zJl (b:UInt8):∀l:List UInt8,x9 (l++[b])=x9 l+b.toNat*256 ^ l.length
 |[]=>by simp[x9]
 |c::l=>by
  simp only[yPx,x9,zJl b l,yOw,Int.pow_succ,Int.mul_add]
  rw[Int.mul_comm (256 ^ l.length) 256,← Int.mul_assoc,← Int.mul_assoc,Int.mul_comm 256 (b.toNat:Int)]
  omega
theorem z5w {x b j:Nat} (hx:x<256 ^ j) (hb:b<256) (hj:j<8):iOr .u64 x (zRy .u64 b ((8*j:Nat):Int))=((x+b*256 ^ j:Nat):Int):=by
 have hp:256 ^ j=2 ^ (8*j):=by rw[Nat.pow_mul]
 have hle:256 ^ (j+1)≤256 ^ 8:=Nat.pow_le_pow_right (by omega) (by omega)
 have hbig:x+b*256 ^ j<256 ^ (j+1):=by
  rw[Nat.pow_succ]
  have:b*256 ^ j≤255*256 ^ j:=yQj _ (by omega)
  omega
 have h8:(256:Nat) ^ 8=18446744073709551616:=by decide
 rw[← z9n,← yFs]
 have e1:yGe .u64 (b:Int) ((8*j:Nat):Int)=((b*256 ^ j:Nat):Int):=by
  show wr .u64 (Int.ofNat (b*2 ^ (Nat.min (8*j) 64)))=_
  rw[show Nat.min (8*j) 64=8*j from ySn (by omega),← hp,zWs]
  exact sN (by show(0:Int)≤((b*256 ^ j:Nat):Int)∧((b*256 ^ j:Nat):Int)<_;omega)
 rw[e1]
 show wr .u64 (Int.ofNat (Nat.lor (x % 18446744073709551616) ((b*256 ^ j) % 18446744073709551616)))=_
 rw[Nat.mod_eq_of_lt (by omega),Nat.mod_eq_of_lt (by omega)]
 have e2:Nat.lor x (b*256 ^ j)=x+b*256 ^ j:=by
  show x|||(b*256 ^ j)=_
  rw[hp]at hx ⊢
  rw[Nat.or_comm,← Nat.shiftLeft_eq,← Nat.shiftLeft_add_eq_or_of_lt hx,yTn]
 rw[e2,zWs]
 exact sN (by show(0:Int)≤((x+b*256 ^ j:Nat):Int)∧((x+b*256 ^ j:Nat):Int)<_;omega)
theorem zEc (i:RN):i.got.length≤i.n:=by
 unfold RN.got;split
 ·simp
 ·rw[yPc];omega
theorem yLp (i:RN) (h:getC.cnd i):yKi i:=by
 unfold yKi
 obtain⟨h1,h2⟩:=h
 refine⟨i,rfl,rfl,⟨by omega,h2⟩,fun _ _=>⟨0,rfl,rfl,fun j=>j≤i.got.length,fun j=>i.got.length-j,by dsimp only;omega,fun j hj=>zI (fun hlt=> ?_) (fun hlt=> ?_)⟩⟩
 ·dsimp only at hj
  have hl:=zEc i
  rw[vD]at hlt ⊢
  obtain⟨b,hb⟩:∃b,i.got[j]? =some b:=⟨_,yPq (by omega)⟩
  have e8:IntKind.i64.wrap (8*(j:Int))=8*j:=w64 (by omega)
  refine⟨⟨by omega,by omega⟩,b.toNat,z0z hb,by rw[e8];omega,j+1,?_,?_,by dsimp only;omega,by dsimp only;omega,rfl⟩
  ·rw[e8,yKv,yQd,hb]
   simp only[ySi]
   rw[zJl]
   obtain⟨r1,r2⟩:=mG (i.got.take j)
   rw[yPc,ySn (by omega)]at r2 ⊢
   obtain⟨x,hx⟩:∃x:Nat,x9 (i.got.take j)=x:=⟨(x9 (i.got.take j)).toNat,by omega⟩
   rw[hx]at r2 ⊢
   have:=z5w (x:=x) (b:=b.toNat) (j:=j) (by exact_mod_cast r2) b.toNat_lt (by omega)
   rw[show(8*(j:Int))=((8*j:Nat):Int)by simp,this]
   simp
  ·rw[w64 (by omega)];rfl
 ·dsimp only at hj
  rw[vD]at hlt
  exact⟨(),by rw[yOx (by omega)],rfl,trivial⟩
theorem z4o:getC.ok Tryz.prog 128:=okw mixed (gokc zXh gok0) 0 (fun _=>[]) (fun i=>yMv i) [] Tryz.func128 yLp
theorem zQf:rbyteC.ok Tryz.prog 84:=okw (V:=yJb) mixed (gokc z4o gok0) 0 (fun _=>[]) (fun _=>[]) [] Tryz.func84 fun(i:RB) h=>by
 have hl:=zEc (i.n 1)
 have hr:=mG (i.n 1).got
 have h0:(256:Int) ^ (i.n 1).got.length≤256 ^ 1:=by
  have:(256:Nat) ^ (i.n 1).got.length≤256 ^ 1:=Nat.pow_le_pow_right (by omega) hl
  exact_mod_cast this
 exact⟨i.n 1,rfl,rfl,⟨by show 1≤8;omega,h⟩,fun _ _=>⟨(),(w64 (by omega)).symm,rfl,trivial⟩⟩
theorem z7j:rlongC.ok Tryz.prog 83:=okw (V:=yEz) mixed (gokc z4o gok0) 0 (fun _=>[]) (fun _=>[]) [] Tryz.func83 fun(i:RB) h=>by
 exact⟨i.n 8,rfl,rfl,⟨by show 8≤8;omega,h⟩,fun _ _=>⟨(),rfl,rfl,trivial⟩⟩
theorem yAo:rendC.ok Tryz.prog 85:=okw (V:=yLo) mixed gok0 0 (fun _=>[]) (fun _=>[]) [0] Tryz.func85 fun(i:RB) h=>by
 refine Cv.cnd.mk (fun e=>⟨(),by rw[yOi e],rfl,rfl,trivial⟩) (fun e=>zI (fun hlt=>⟨(),?_,rfl,rfl,trivial⟩) (fun hlt=>⟨(),?_,rfl,rfl,trivial⟩))
 ·rw[vD]at hlt;rw[yOh (by simp[e]),yOi (by omega)]
 ·rw[vD]at hlt;rw[yOh (by simp[e]),yOh (by omega)]
open Go Cv Go.Proofs
open Classical
open Go Cv Go.Proofs
open Go Cv Go.Proofs
open Classical
theorem getD {α:Type} {l:List α} {i:Nat} (h:i<l.length):∃x,l[i]? =some x:=⟨_,yPq h⟩
open Go Cv Go.Proofs
open Classical
open Go Cv Go.Proofs
open Classical
def RB.byte (r:RB):Int×RB:=(x9 (r.n 1).got,⟨(r.n 1).left,(r.n 1).bad⟩)
def RB.long (r:RB):Int×RB:=(IntKind.i64.wrap (x9 (r.n 8).got),⟨(r.n 8).left,(r.n 8).bad⟩)
def RB.endOf (r:RB):Int:=if r.b then 10 else if 0<r.l.length then 15 else 0
@[reducible] def RdB (r:RB):AObj:=Rd r.l r.b
@[reducible] def RB.ok (i:RB):Prop:=i.l.length≤1099511627776
open Go Cv Go.Proofs
open Go Cv Go.Proofs
open Classical
theorem nJ (i:RN):i.left.length≤i.l.length:=by
 unfold RN.left;split
 ·omega
 ·rw[yPg];omega
theorem cI {r:RB} (h:r.ok):r.byte.2.ok:=yQx (nJ _) h
theorem vO {r:RB} (h:r.ok):r.long.2.ok:=yQx (nJ _) h
theorem z0v (l:List UInt8):bE l=kE ⟨l.toArray⟩:=rfl
open Go Cv Go.Proofs
open Classical
def fbyteC:Con:=con1 WN (fun i=>[roV 1 (bE i.l),zA i.n]) (fun _=>[]) WN.ok (fun _=> .own 0) (fun i=>[.own tU8 1 (bE (i.l++[lob i.n]))])
def flongC:Con:=con1 WN (fun i=>[roV 1 (bE i.l),zA i.n]) (fun _=>[]) WN.ok (fun _=> .own 0) (fun i=>[.own tU8 1 (bE (i.l++le i.n 8))])
def yJd (i:WN):List SAnn:=[{ι:=Nat,slots:=fun j=>[(5,.own 0),(6,nD ((8*j:Nat):Int))],rows:=fun j=>[.own tU8 1 (bE (i.l++le i.n j))]}]
open Go Cv Go.Proofs
def yIi (i:WN):Prop:=
 (0+(bE i.l).length)*(1:Nat)≤(70368744177664:Nat)∧(([]++bE i.l).length+1)*(1:Nat)≤(70368744177664:Nat)∧∃(o:Unit),bE (i.l++[lob i.n])=[]++bE i.l++[[D.v (.int .u8 (IntKind.u8.wrap i.n))]]∧True
def yHx (i:WN):Prop:=
 (0+(bE i.l).length)*(1:Nat)≤(70368744177664:Nat)∧∃(i0:Nat),(↑(8*i0):Int)=0∧bE (i.l++le i.n i0)=[]++bE i.l∧∃(I:Nat→Prop),∃(μ:Nat→Nat),I i0∧∀(i_1:Nat),I i_1→cnd (decide ((↑(8*i_1):Int)<64)) (0≤(↑(8*i_1):Int)∧((bE (i.l++le i.n i_1)).length+1)*(1:Nat)≤(70368744177664:Nat)∧∃(i':Nat),(↑(8*i'):Int)=IntKind.u64.wrap ((↑(8*i_1):Int)+8)∧bE (i.l++le i.n i')=bE (i.l++le i.n i_1)++[[D.v (.int .u8 (IntKind.u8.wrap (mB IntKind.u64 (IntKind.u64.wrap i.n) (↑(8*i_1):Int))))]]∧I i'∧μ i'<μ i_1∧True) (∃(o:Unit),bE (i.l++le i.n 8)=bE (i.l++le i.n i_1)∧True)
open Go Cv Go.Proofs
open Classical
theorem zMz:∀(k m:Nat) (n:Int),k≤m→(le n m).take k=le n k
 |0,m,n,h=>by simp[le]
 |k+1,m+1,n,h=>by simp only[le,yPt];rw[zMz k m _ (by omega)]
theorem zZb {k:Nat} (h:k≤8) (n:Int):le (IntKind.u64.wrap n) k=le n k:=by
 rw[← zMz k 8 _ h,zZr,zMz k 8 _ h]
theorem zQq:fbyteC.ok Tryz.prog 47:=okw (V:=yIi) mixed gok0 0 (fun _=>[]) (fun _=>[]) [] Tryz.func47 fun(i:WN) h=>by
 have h:i.l.length+8≤1099511627776:=h
 refine⟨by rw[vD];omega,by rw[yQw,vD];omega,(),?_,trivial⟩
 rw[zVa,zOo];rfl
theorem z8n:flongC.ok Tryz.prog 46:=okw (V:=yHx) mixed gok0 0 (fun _=>[]) (fun i=>yJd i) [] Tryz.func46 fun(i:WN) h=>by
 have h:i.l.length+8≤1099511627776:=h
 refine⟨by rw[vD];omega,0,rfl,by simp[le],fun j=>j≤8,fun j=>8-j,by decide,fun j hj=>zI (fun hlt=> ?_) (fun hlt=> ?_)⟩
 ·dsimp only at hj
  have hu:=zZf i.n
  refine⟨by omega,?_,j+1,?_,?_,by(first|omega|(dsimp only;omega)),by(first|omega|(dsimp only;omega)),trivial⟩
  ·rw[vD,yOl,wB];omega
  ·rw[sN (by omega)];omega
  ·rw[zOo,eT .u64 _ (8*j) (by show 8*j≤64;omega),show(2:Int) ^ (8*j)=256 ^ j by rw[show(256:Int)=2 ^ 8 from rfl,← Int.pow_mul],← zZb (k:=j+1) (by omega) i.n,yBp,zZb (by omega),← yOq,zVa]
   rfl
 ·dsimp only at hj
  obtain rfl:j=8:=by omega
  exact⟨(),rfl,trivial⟩
open Go Cv Go.Proofs
def sb (l:List UInt8):ByteArray:=⟨l.toArray⟩
@[reducible] def sV (l:List UInt8):V:= .d (.v (.string (sb l)))
def zGk (l:List UInt8):Nat×Nat:=Utf8.decode (sb l) 0
def rY:Nat→Nat→List UInt8→List (Nat×Nat)
 |0,_,_=>[]
 |k+1,p,l=>match l with
  |[]=>[]
  |_=>(p,(zGk l).1)::rY k (p+(zGk l).2) (l.drop (zGk l).2)
def uV (s:List UInt8) (p:Nat):List (Nat×Nat):=rY (s.length-p) p (s.drop p)
def wF (s:List UInt8):List Nat:=(uV s 0).map (·.2)
def countC:Con:=con1 (List UInt8) (fun s=>[sV s]) (fun _=>[]) (fun s=>s.length≤1099511627776) (fun s=>zA (wF s).length) (fun _=>[])
def yHz (s:List UInt8):List SAnn:=[{ι:=Nat×Nat,slots:=fun x=>[(3,zA x.2),(5,.nm 0 0)],rows:=fun x=>[.iter (sb s) x.1]}]
def sB (r:Nat):Bool:=(decide (65≤r) && decide (r≤90))||(decide (913≤r) && decide (r≤937) && decide (r≠930))
def g8 (s:List UInt8):Bool:=(wF s).all sB && decide (s≠[]) && decide ((wF s).length≤4)
def symC:Con:=con1 (List UInt8) (fun s=>[sV s]) (fun _=>[]) (fun s=>s.length≤1099511627776) (fun s=>yJ (g8 s)) (fun _=>[])
def yNz (s:List UInt8):List SAnn:=[{ι:=Nat,slots:=fun x=>[(7,.nm 0 0)],rows:=fun x=>[.iter (sb s) x]}]
def iE (l:List Int):List (List D):=l.map fun n=>[.v (.int .i64 n)]
@[reducible] def iV (l:List Int):V:=roV 1 (iE l)
structure Prd where
 code:List UInt8
 months:List Int
 tick:Int
 low:Int
 high:Int
 wide:Int
 rule:Int
 top:Int
 least:Int
 part:Int
 settle:List Int
 deriving DecidableEq
@[reducible] def Prd.cells (p:Prd):List V:=[sV p.code,iV p.months,zA p.tick,zA p.low,zA p.high,zA p.wide,zA p.rule,zA p.top,zA p.least,zA p.part,iV p.settle]
@[reducible] def sO (p:Prd):V:= .agg p.cells
@[reducible] def Prd.small (p:Prd):Prop:=p.code.length≤1099511627776∧p.months.length≤1099511627776∧p.settle.length≤1099511627776
def uP (l:List Int) (k:Nat):Bool:=decide (0≤l.getD k 0) && decide (l.getD k 0≤1199) && (decide (k=0)||decide (l.getD (k-1) 0<l.getD k 0))
def x7 (l:List Int):Bool:=(List.range l.length).all (uP l) && decide (2≤l.length) && decide (l.length≤6)
def monthsC:Con:=con1 (List Int) (fun l=>[iV l]) (fun _=>[]) (fun l=>l.length≤1099511627776) (fun l=>yJ (x7 l)) (fun _=>[])
def yBu:List SAnn:=[{ι:=Nat,slots:=fun j=>[(7,zA j)],rows:=fun _=>[]}]
def nS (l:List Int):Int:=l.tail.foldl min (l.headD 0)
def r9 (l:List Int):Int:=l.tail.foldl max (l.headD 0)
def minC:Con:=con1 (List Int) (fun l=>[iV l]) (fun _=>[]) (fun l=>0<l.length∧l.length≤1099511627776) (fun l=>zA (nS l)) (fun _=>[])
def maxC:Con:=con1 (List Int) (fun l=>[iV l]) (fun _=>[]) (fun l=>0<l.length∧l.length≤1099511627776) (fun l=>zA (r9 l)) (fun _=>[])
def yNq (l:List Int):List SAnn:=[{ι:=Nat,slots:=fun j=>[(3,zA (nS (l.take j))),(4,zA j)],rows:=fun _=>[]}]
def yNc (l:List Int):List SAnn:=[{ι:=Nat,slots:=fun j=>[(3,zA (r9 (l.take j))),(4,zA j)],rows:=fun _=>[]}]
open Go Cv Go.Proofs
def aI (a:Nat×Nat) (b:List UInt8) (c:Nat×Nat→Prop) (d:Nat×Nat→Nat):Prop:=∃(e:Nat×Nat),(↑e.snd:Int)=IntKind.i64.wrap ((↑a.snd:Int)+1)∧sb b=sb b∧e.fst=a.fst+(Utf8.decode (sb b) a.fst).snd∧c e∧d e<d a∧True
def z4w (s:List UInt8):Prop:=
 ∃(a:Nat×Nat),(↑a.snd:Int)=0∧sb s=sb s∧a.fst=0∧∃(b:Nat×Nat→Prop),∃(c:Nat×Nat→Nat),b a∧∀(d:Nat×Nat),b d→cnd (d.fst.blt (sb s).size) (aI d s b c) (∃(e:Unit),(↑(wF s).length:Int)=(↑d.snd:Int)∧True)
def eJ (a:List UInt8) (b:Nat) (c:Nat→Prop) (d:Nat→Nat):Prop:=∃(e:Nat),sb a=sb a∧e=b+(Utf8.decode (sb a) b).snd∧c e∧d e<d b∧True
def uN (a:List UInt8) (b:Nat):=(↑(Utf8.decode (sb a) b).fst:Int)
def yKo (s:List UInt8):Prop:=
 ∃(a:Nat),sb s=sb s∧a=0∧∃(b:Nat→Prop),∃(c:Nat→Nat),b a∧∀(d:Nat),b d→cnd (d.blt (sb s).size) (cnd (decide ((uN s d)≥65)) (cnd (decide ((uN s d)≤90)) (eJ s d b c) (cnd (decide ((uN s d)≥913)) (cnd (decide ((uN s d)≤937)) (cnd (!(uN s d) !=930) (∃(e:Unit),g8 s=false∧True) (eJ s d b c)) (∃(e:Unit),g8 s=false∧True)) (∃(e:Unit),g8 s=false∧True))) (cnd (decide ((uN s d)≥913)) (cnd (decide ((uN s d)≤937)) (cnd (!(uN s d) !=930) (∃(e:Unit),g8 s=false∧True) (eJ s d b c)) (∃(e:Unit),g8 s=false∧True)) (∃(e:Unit),g8 s=false∧True))) (cnd (!(sb s).toList==(ByteArray.mk #[]).toList) (∃(e:List UInt8),sb e=sb s∧e.length≤1099511627776∧∀(f:Unit),True→∃(g:Unit),g8 s=decide ((↑(wF e).length:Int)≤4)∧True) (∃(e:Unit),g8 s=false∧True))
def jZ (a:Nat) (b:Nat) (c:Nat→Prop) (d:Nat→Nat):Prop:=(↑a:Int)=IntKind.i64.wrap ((↑b:Int)+1)∧c a∧d a<d b∧True
def gN (a:Nat) (b:Nat→Prop) (c:Nat→Nat):Prop:=∃(d:Nat),jZ d a b c
def zVt (l:List Int):Prop:=
 ∃(a:Nat),(↑a:Int)=0∧∃(b:Nat→Prop),∃(c:Nat→Nat),b a∧∀(d:Nat),b d→cnd (decide ((↑d:Int)<(↑(iE l).length:Int))) ((0≤(↑d:Int)∧(↑d:Int)<(↑(iE l).length:Int))∧∃(e:Int),zE (iE l) (↑d:Int).toNat 0 1=some [dI e]∧cnd (decide (e<0)) (∃(f:Unit),x7 l=false∧True) (cnd (decide (e>1199)) (∃(f:Unit),x7 l=false∧True) (cnd (decide ((↑d:Int)>0)) ((0≤IntKind.i64.wrap ((↑d:Int)-1)∧IntKind.i64.wrap ((↑d:Int)-1)<(↑(iE l).length:Int))∧∃(f:Int),zE (iE l) (IntKind.i64.wrap ((↑d:Int)-1)).toNat 0 1=some [dI f]∧cnd (decide (f≥e)) (∃(g:Unit),x7 l=false∧True) (gN d b c)) (gN d b c)))) (cnd (decide ((↑(iE l).length:Int)≥2)) (∃(e:Unit),x7 l=decide ((↑(iE l).length:Int)≤6)∧True) (∃(e:Unit),x7 l=false∧True))
def yLy (l:List Int):Prop:=
 cnd (decide ((↑(iE l).length:Int)<1)) False (((0:Int)≤(0:Int)∧0<(↑(iE l).length:Int))∧∃(a:Int),zE (iE l) (Int.toNat 0) 0 1=some [dI a]∧∃(b:Nat),nS (List.take b l)=a∧(↑b:Int)=1∧∃(c:Nat→Prop),∃(d:Nat→Nat),c b∧∀(e:Nat),c e→cnd (decide ((↑e:Int)<(↑(iE l).length:Int))) ((0≤(↑e:Int)∧(↑e:Int)<(↑(iE l).length:Int))∧∃(f:Int),zE (iE l) (↑e:Int).toNat 0 1=some [dI f]∧∃(g:Nat),nS (List.take g l)=min (nS (List.take e l)) f∧jZ g e c d) (∃(f:Unit),nS l=nS (List.take e l)∧True))
def yMd (l:List Int):Prop:=
 cnd (decide ((↑(iE l).length:Int)<1)) False (((0:Int)≤(0:Int)∧0<(↑(iE l).length:Int))∧∃(a:Int),zE (iE l) (Int.toNat 0) 0 1=some [dI a]∧∃(b:Nat),r9 (List.take b l)=a∧(↑b:Int)=1∧∃(c:Nat→Prop),∃(d:Nat→Nat),c b∧∀(e:Nat),c e→cnd (decide ((↑e:Int)<(↑(iE l).length:Int))) ((0≤(↑e:Int)∧(↑e:Int)<(↑(iE l).length:Int))∧∃(f:Int),zE (iE l) (↑e:Int).toNat 0 1=some [dI f]∧∃(g:Nat),(r9 (List.take g l)=if f>r9 (List.take e l)then f else r9 (List.take e l))∧jZ g e c d) (∃(f:Unit),r9 l=r9 (List.take e l)∧True))
open Go Cv Go.Proofs
@[simp] theorem zDo (s:List UInt8):(sb s).size=s.length:=by simp[sb,ByteArray.size]
theorem cY (s:List UInt8):(sb s).toList=s:=by rw[ByteArray.toList_eq];rfl
theorem yIf (s:List UInt8) (p k:Nat):(sb s).get! (p+k)=(sb (s.drop p)).get! (0+k):=by
 simp only[sb,ByteArray.get!,yPh]
 simp only[List.getElem!_toArray,List.getElem!_eq_getElem?_getD,yRd]
theorem zCf (s:List UInt8) (p:Nat):Utf8.decode (sb s) p=zGk (s.drop p):=by
 have h (k:Nat):(decide (p+k<(sb s).size))=decide (0+k<(sb (s.drop p)).size):=by
  simp only[zDo,yPg]
  by_cases h:p+k<s.length
  ·rw[yPd h,yPd (by omega)]
  ·rw[yPa h,yPa (by omega)]
 unfold zGk Utf8.decode
 simp only[yIf s p,h]
theorem dH (s:List UInt8) {p:Nat} (h:p<s.length):1≤(Utf8.decode (sb s) p).2∧p+(Utf8.decode (sb s) p).2≤s.length:=by
 unfold Utf8.decode
 simp only[zDo,yOt,yQi]
 split
 ·exact⟨by simp,by simp;omega⟩
 split
 ·rename_i h1
  split
  ·exact⟨by simp,by simp;omega⟩
  ·exact⟨by simp,by simp;omega⟩
 split
 ·rename_i h1
  split
  ·exact⟨by simp,by simp;omega⟩
  ·exact⟨by simp,by simp;omega⟩
 split
 ·rename_i h1
  split
  ·exact⟨by simp,by simp;omega⟩
  ·exact⟨by simp,by simp;omega⟩
 ·exact⟨by simp,by simp;omega⟩
theorem yJj {l:List UInt8} (h:l≠[]):1≤(zGk l).2∧(zGk l).2≤l.length:=by
 have:=dH l (p:=0) (by cases l<;>simp_all)
 rw[zGk];omega
theorem mP:∀(k:Nat) (p:Nat) (l:List UInt8),l.length≤k→rY k p l=rY l.length p l
 |0,p,l,h=>by
  have:l=[]:=yPj (by omega)
  subst this;rfl
 |k+1,p,[],h=>rfl
 |k+1,p,b::l,h=>by
  have hw:=yJj (l:=b::l) (by simp)
  have hl:((b::l).drop (zGk (b::l)).2).length≤l.length:=by rw[yPg,yOw];omega
  rw[yOw]
  simp only[rY]
  rw[mP k _ _ (by rw[yOw]at h;omega),mP l.length _ _ hl]
theorem vW {s:List UInt8} {p:Nat} (h:s.length≤p):uV s p=[]:=by
 rw[uV,show s.length-p=0 by omega];rfl
theorem uC {s:List UInt8} {p:Nat} (h:p<s.length):uV s p=(p,(Utf8.decode (sb s) p).1)::uV s (p+(Utf8.decode (sb s) p).2):=by
 obtain⟨k,hk⟩:∃k,s.length-p=k+1:=⟨s.length-p-1,by omega⟩
 have hw:=dH s h
 obtain⟨b,l,hb⟩:∃b l,s.drop p=b::l:=by
  cases hd:s.drop p with
  |nil=>rw[List.drop_eq_nil_iff]at hd;omega
  |cons b l=>exact⟨b,l,rfl⟩
 have hlen:(b::l).length=s.length-p:=by rw[← hb,yPg]
 rw[uV,hk,hb,zCf,hb,uV]
 rw[zCf,hb]at hw
 simp only[rY]
 have e:(b::l).drop (zGk (b::l)).2=s.drop (p+(zGk (b::l)).2):=by rw[← hb,yRp]
 rw[e,mP k _ _ (by rw[yPg];omega),yPg]
theorem zIi (s:List UInt8):∀(k p:Nat),s.length-p≤k→(uV s p).length≤s.length-p
 |0,p,h=>by rw[vW (by omega)];simp
 |k+1,p,h=>by
  by_cases hp:p<s.length
  ·have hw:=dH s hp
   rw[uC hp,yOw]
   have:=zIi s k (p+(Utf8.decode (sb s) p).2) (by omega)
   omega
  ·rw[vW (by omega)];simp
theorem zJo (s:List UInt8):(wF s).length≤s.length:=by
 rw[wF,yOm]
 have:=zIi s s.length 0 (by omega)
 omega
theorem z2m {a b:Nat} (h:Nat.blt a b=false):b≤a:=by
 rcases yRc a b with h1|h1
 ·rw[show Nat.blt a b=true by rw[yRi];exact h1]at h;cases h
 ·exact h1
theorem z3i:(ByteArray.mk #[]).toList=[]:=cY []
theorem yHl (s:List UInt8) (h:countC.cnd s):z4w s:=by
 have h:s.length≤1099511627776:=h
 have hr:=zJo s
 unfold z4w aI
 refine⟨(0,0),rfl,rfl,rfl,fun x=>x.1≤s.length∧x.2+(uV s x.1).length=(wF s).length,fun x=>s.length-x.1,⟨by omega,by rw[wF,yOm];simp⟩,?_⟩
 rintro⟨p,n⟩ ⟨h1,h2⟩
 dsimp only at h1 h2 ⊢
 refine Cv.cnd.mk (fun hp=> ?_) (fun hp=> ?_)
 ·have hp:p<s.length:=by simpa[yRi]using hp
  have hw:=dH s hp
  rw[uC hp,yOw]at h2
  refine⟨(p+(Utf8.decode (sb s) p).2,n+1),?_,rfl,rfl,⟨hw.2,by(first|omega|(dsimp only;omega))⟩,by(first|omega|(dsimp only;omega)),trivial⟩
  rw[w64 (by omega)];rfl
 ·have hp:s.length≤p:=by have:=z2m hp;simpa using this
  rw[vW hp]at h2
  exact⟨(),by rw[← h2];rfl,trivial⟩
theorem z8l:countC.ok Tryz.prog 197:=okw mixed gok0 0 (fun _=>[]) (fun s=>yHz s) [] Tryz.func197 yHl
theorem yMx (s:List UInt8) (h:symC.cnd s):yKo s:=by
 have h:s.length≤1099511627776:=h
 unfold yKo uN eJ
 refine⟨0,rfl,rfl,fun p=>p≤s.length∧(wF s).all sB=(uV s p).all fun x=>sB x.2,fun p=>s.length-p,⟨by omega,by rw[wF,List.all_map];rfl⟩,?_⟩
 rintro p ⟨h1,h2⟩
 refine Cv.cnd.mk (fun hp=> ?_) (fun hp=> ?_)
 ·have hp:p<s.length:=by simpa[yRi]using hp
  have hw:=dH s hp
  rw[uC hp,List.all_cons]at h2
  generalize hc:(Utf8.decode (sb s) p).1=c at h2 ⊢
  generalize hww:(Utf8.decode (sb s) p).2=w at h2 hw ⊢
  dsimp only at h2
  have bad:sB c=false→∃(o:Unit),g8 s=false∧True:=fun e=>⟨(),by rw[g8,h2,e];rfl,trivial⟩
  have good:sB c=true→∃i':Nat,sb s=sb s∧i'=p+w∧(i'≤s.length∧(wF s).all sB=(uV s i').all fun x=>sB x.2)∧s.length-i'<s.length-p∧True:=fun e=>⟨p+w,rfl,rfl,⟨hw.2,by rw[h2,e];rfl⟩,by omega,trivial⟩
  refine zI (fun c1=>zI (fun c2=> ?_) (fun c2=>zI (fun c3=>zI (fun c4=>Cv.cnd.mk (fun c5=> ?_) (fun c5=> ?_)) (fun c4=> ?_)) (fun c3=> ?_))) (fun c1=>zI (fun c3=>zI (fun c4=>Cv.cnd.mk (fun c5=> ?_) (fun c5=> ?_)) (fun c4=> ?_)) (fun c3=> ?_))
  all_goals first|(refine good ?_;simp[sB]at*;omega)|(refine bad ?_;simp[sB]at*;omega)
 ·have hp:s.length≤p:=by have:=z2m hp;simpa using this
  rw[vW hp]at h2
  have h2:(wF s).all sB=true:=h2
  refine Cv.cnd.mk (fun e=>⟨s,rfl,h,fun _ _=>⟨(),?_,trivial⟩⟩) (fun e=>⟨(),?_,trivial⟩)
  ·rw[cY,z3i]at e
   have:s≠[]:=by simpa using e
   rw[g8,h2,yPd this]
   simp only[yRg]
   congr 1
   simp only[eq_iff_iff];omega
  ·have:s=[]:=by
    rw[cY,z3i]at e
    simpa using e
   rw[g8,this];rfl
theorem yJl:symC.ok Tryz.prog 158:=okw mixed (gokc z8l gok0) 0 (fun _=>[]) (fun s=>yNz s) [] Tryz.func158 yMx
@[simp] theorem y3 (l:List Int):(iE l).length=l.length:=by simp[iE]
theorem elI {l:List Int} {k:Nat} {n:Int} (h:l[k]? =some n):zE (iE l) k 0 1=some [D.v (.int .i64 n)]:=by
 simp[zE,iE,h];rfl
theorem z9 {α:Type} {l:List α} {i:Nat} (h:i<l.length):∃x,l[i]? =some x:=⟨l[i],yPq h⟩
theorem z2d {n k:Nat} {f:Nat→Bool} (hk:k<n) (h:f k=false):(List.range n).all f=false:=by
 cases hh:(List.range n).all f
 ·rfl
 ·rw[yRf]at hh
  rw[hh k (by simpa using hk)]at h;cases h
theorem z4q {n:Nat} {f:Nat→Bool} (h:∀k<n,f k=true):(List.range n).all f=true:=by
 rw[yRf];intro k hk;exact h k (by simpa using hk)
theorem z9s (l:List Int) (h:monthsC.cnd l):zVt l:=by
 have h:l.length≤1099511627776:=h
 unfold zVt gN jZ dI
 simp only[y3]
 refine⟨0,rfl,fun j=>j≤l.length∧∀k<j,uP l k=true,fun j=>l.length-j,⟨by omega,fun k hk=>by omega⟩,?_⟩
 rintro j ⟨h1,h2⟩
 have bad:j<l.length→uP l j=false→∃(o:Unit),x7 l=false∧True:=fun hj e=>⟨(),by rw[x7,z2d hj e];rfl,trivial⟩
 have good:j<l.length→uP l j=true→∃i':Nat,(i':Int)=IntKind.i64.wrap ((j:Int)+1)∧(i'≤l.length∧∀k<i',uP l k=true)∧l.length-i'<l.length-j∧True:=fun hj e=>⟨j+1,by rw[w64 (by omega)];rfl,⟨by omega,fun k hk=>by
  rcases yRc k j with hk'|hk'
  ·exact h2 k hk'
  ·obtain rfl:k=j:=by omega
   exact e⟩,by omega,trivial⟩
 refine zI (fun hj=> ?_) (fun hj=> ?_)
 ·have hj:j<l.length:=by omega
  obtain⟨n,hn⟩:=z9 hj
  have hg:l.getD j 0=n:=by simp[hn]
  refine⟨⟨by omega,by omega⟩,n,elI hn,zI (fun c1=>bad hj (by simp[uP,hn];omega)) (fun c1=>zI (fun c2=>bad hj (by simp[uP,hn];omega)) (fun c2=>zI (fun c3=> ?_) (fun c3=>good hj ?_)))⟩
  ·have e:IntKind.i64.wrap ((j:Int)-1)=((j-1:Nat):Int):=by rw[w64 (by omega)];omega
   obtain⟨m,hm⟩:=z9 (l:=l) (i:=j-1) (by omega)
   rw[e]
   refine⟨⟨by omega,by omega⟩,m,elI hm,zI (fun c4=>bad hj ?_) (fun c4=>good hj ?_)⟩
   ·simp[uP,hn,hm];omega
   ·simp[uP,hn,hm];omega
  ·simp[uP,hn];omega
 ·have e:(List.range l.length).all (uP l)=true:=z4q fun k hk=>h2 k (by omega)
  refine zI (fun c=>⟨(),?_,trivial⟩) (fun c=>⟨(),?_,trivial⟩)
  ·rw[x7,e,yPd (show 2≤l.length by omega)]
   simp;omega
  ·rw[x7,yPa (show ¬2≤l.length by omega)];simp
theorem z0x:monthsC.ok Tryz.prog 159:=okw mixed gok0 0 (fun _=>[]) (fun _=>yBu) [] Tryz.func159 z9s
theorem zAc {f:Int→Int→Int} {l:List Int} {j:Nat} {n:Int} (h:l[j+1]? =some n):(l.take (j+2)).tail.foldl f ((l.take (j+2)).headD 0)=f ((l.take (j+1)).tail.foldl f ((l.take (j+1)).headD 0)) n:=by
 cases l with
 |nil=>simp at h
 |cons a l=>
  simp only[yQa]at h
  simp only[yPt,List.tail_cons,List.headD_cons]
  rw[yQd,h,List.foldl_append];rfl
theorem zOz {l:List Int} {n:Int} (h:l[0]? =some n) (f:Int→Int→Int):(l.take 1).tail.foldl f ((l.take 1).headD 0)=n:=by
 cases l with
 |nil=>simp at h
 |cons a l=>simpa using h
theorem yNl (l:List Int) (h:minC.cnd l):yLy l:=by
 obtain⟨h0,h⟩:0<l.length∧l.length≤1099511627776:=h
 unfold yLy jZ dI
 simp only[y3]
 obtain⟨n,hn⟩:=z9 h0
 refine zI (fun c=>by omega) (fun c=>⟨⟨by omega,by omega⟩,n,elI hn,1,zOz hn min,rfl,fun j=>1≤j∧j≤l.length,fun j=>l.length-j,⟨by omega,by omega⟩,?_⟩)
 rintro j ⟨h1,h2⟩
 refine zI (fun hj=> ?_) (fun hj=>⟨(),?_,trivial⟩)
 ·obtain⟨m,hm⟩:=z9 (l:=l) (i:=j) (by omega)
  refine⟨⟨by omega,by omega⟩,m,elI hm,j+1,?_,?_,⟨by omega,by omega⟩,by(first|omega|(dsimp only;omega)),trivial⟩
  ·obtain⟨k,rfl⟩:∃k,j=k+1:=⟨j-1,by omega⟩
   first
    |(rw[nS,zAc hm,← nS];done)
    |(rw[nS,zAc hm,← nS];generalize nS (l.take (k+1))=x;split<;>omega)
  ·rw[w64 (by omega)];rfl
 ·rw[yOx (by omega)]
theorem yGr:minC.ok Tryz.prog 161:=okw mixed gok0 0 (fun _=>[]) (fun l=>yNq l) [] Tryz.func161 yNl
theorem yMl (l:List Int) (h:maxC.cnd l):yMd l:=by
 obtain⟨h0,h⟩:0<l.length∧l.length≤1099511627776:=h
 unfold yMd jZ dI
 simp only[y3]
 obtain⟨n,hn⟩:=z9 h0
 refine zI (fun c=>by omega) (fun c=>⟨⟨by omega,by omega⟩,n,elI hn,1,zOz hn max,rfl,fun j=>1≤j∧j≤l.length,fun j=>l.length-j,⟨by omega,by omega⟩,?_⟩)
 rintro j ⟨h1,h2⟩
 refine zI (fun hj=> ?_) (fun hj=>⟨(),?_,trivial⟩)
 ·obtain⟨m,hm⟩:=z9 (l:=l) (i:=j) (by omega)
  refine⟨⟨by omega,by omega⟩,m,elI hm,j+1,?_,?_,⟨by omega,by omega⟩,by(first|omega|(dsimp only;omega)),trivial⟩
  ·obtain⟨k,rfl⟩:∃k,j=k+1:=⟨j-1,by omega⟩
   rw[r9,zAc hm,← r9]
   generalize r9 (l.take (k+1))=x
   split<;>omega
  ·rw[w64 (by omega)];rfl
 ·rw[yOx (by omega)]
theorem yHn:maxC.ok Tryz.prog 162:=okw mixed gok0 0 (fun _=>[]) (fun l=>yNc l) [] Tryz.func162 yMl
open Go Cv Go.Proofs
@[reducible] def Prd.row (p:Prd):AObj:= .cells p.cells 26
structure zTe where
 p:Prd
 n:Int
structure zMq where
 p:Prd
 l:List Int
def gM (t n:Int):Bool:=n.tmod t !=0
def offC:Con:=con1 zTe (fun i=>[zA i.n,.nm 0 0]) (fun i=>[i.p.row]) (fun i=>1≤i.p.tick) (fun i=>yJ (gM i.p.tick i.n)) (fun i=>[i.p.row])
@[reducible] def yJw:V:= .fn 198 [] [.nm 0 0]
def zCj (k:Option Nat):Int:=match k with
 |some k=>k
 |none=> -1
def idxC:Con:=con1 zMq (fun i=>[iV i.l,yJw]) (fun i=>[i.p.row]) (fun i=>1≤i.p.tick∧i.l.length≤1099511627776) (fun i=>zA (zCj (i.l.findIdx? (gM i.p.tick)))) (fun i=>[i.p.row])
def yOa (i:zMq):List SAnn:=[{ι:=Nat,slots:=fun j=>[(8,zA j)],rows:=fun _=>[]}]
def containsC:Con:=con1 zMq (fun i=>[iV i.l,yJw]) (fun i=>[i.p.row]) (fun i=>1≤i.p.tick∧i.l.length≤1099511627776) (fun i=>yJ (i.l.any (gM i.p.tick))) (fun i=>[i.p.row])
def jA (p:Prd):Bool:=decide (1≤p.tick) && decide (p.tick≤1000) && !gM p.tick p.low && !gM p.tick p.high && !gM p.tick p.wide && !p.settle.any (gM p.tick)
def ticksC:Con:=con1 Prd (fun p=>[sO p]) (fun _=>[]) Prd.small (fun p=>yJ (jA p)) (fun _=>[])
def gJ (p:Prd):Bool:=decide (p.low< -1000000)||decide (p.low≥p.high)||decide (p.high>1000000)||decide (p.wide<0)||decide (p.wide>p.high-p.low)
def wV (p:Prd):Bool:=decide (p.settle.length≠p.months.length)||decide (nS p.settle<p.low)||decide (r9 p.settle>p.high)
def fE (p:Prd):Bool:=decide (p.rule<1)||decide (p.rule>3)
def uJ (p:Prd):Bool:=decide (p.top<0)||decide (p.top>1000000)||decide (p.least<1)||decide (p.least>1000)||decide (p.part<0)||decide (p.part>100)
def Prd.check (p:Prd):Int:=
 if !g8 p.code then 12 else if !x7 p.months then 1 else if !jA p then 22 else if gJ p then 23 else if wV p then 1 else if fE p then 31 else if uJ p then 24 else 0
def checkC:Con:=con1 Prd (fun p=>[sO p]) (fun _=>[]) Prd.small (fun p=>zA p.check) (fun _=>[])
def Prd.count (p:Prd):Nat:=if p.check=0 then p.months.length+p.months.length*(p.months.length-1) / 2 else 0
def pcountC:Con:=con1 Prd (fun p=>[sO p]) (fun _=>[]) Prd.small (fun p=>zA p.count) (fun _=>[])
structure sR where
 p:Prd
 n:Int
def y4 (n:Nat):Nat→Nat
 |0=>n
 |k+1=>y4 n k+(n-1-k)
def qW (n inst:Nat):Nat→Nat→Int×Int×Bool
 |0,_=>(0,0,false)
 |k+1,m=>if inst<y4 n m+(n-1-m)then(m,m+1+(inst-y4 n m:Nat),true)else qW n inst k (m+1)
def Prd.legs (p:Prd) (i:Int):Int×Int×Bool:=
 if i<0∨(p.count:Int)≤i then(0,0,false)else if i<p.months.length then(i,i,false)else qW p.months.length i.toNat p.months.length 0
def legsC:Con:=con1 sR (fun i=>[sO i.p,zA i.n]) (fun _=>[]) (fun i=>i.p.small) (fun i=> .tup [zA (i.p.legs i.n).1,zA (i.p.legs i.n).2.1,yJ (i.p.legs i.n).2.2]) (fun _=>[])
structure nA where
 p:Prd
 a:Int
 b:Int
def Prd.spread (p:Prd) (a b:Int):Int×Bool:=
 if p.check≠0∨a<0∨b≤a∨(p.months.length:Int)≤b then(0,false)else((y4 p.months.length a.toNat:Int)+b-a-1,true)
def spreadC:Con:=con1 nA (fun i=>[sO i.p,zA i.a,zA i.b]) (fun _=>[]) (fun i=>i.p.small) (fun i=> .tup [zA (i.p.spread i.a i.b).1,yJ (i.p.spread i.a i.b).2]) (fun _=>[])
def Prd.price (p:Prd) (i n:Int):Int:=
 if p.count=0 then 1 else if i<0∨(p.count:Int)≤i then 20 else if gM p.tick n then 22 else
 if n<(if(p.months.length:Int)≤i then-p.wide else p.low)∨(if(p.months.length:Int)≤i then p.wide else p.high)<n then 23 else 0
def priceC:Con:=con1 nA (fun i=>[sO i.p,zA i.a,zA i.b]) (fun _=>[]) (fun i=>i.p.small) (fun i=>zA (i.p.price i.a i.b)) (fun _=>[])
structure I2 where
 x:Int
 y:Int
@[reducible] def yQ (n:Int):Prop:= -9223372036854775808≤n∧n≤9223372036854775807
def vL (x y:Int):Int×Bool:=if yQ (x+y)then(x+y,true)else(0,false)
def vH (x y:Int):Int×Bool:=if yQ (x-y)then(x-y,true)else(0,false)
def addC:Con:=con1 I2 (fun i=>[zA i.x,zA i.y]) (fun _=>[]) (fun i=>yQ i.x∧yQ i.y) (fun i=> .tup [zA (vL i.x i.y).1,yJ (vL i.x i.y).2]) (fun _=>[])
def subC:Con:=con1 I2 (fun i=>[zA i.x,zA i.y]) (fun _=>[]) (fun i=>yQ i.x∧yQ i.y) (fun i=> .tup [zA (vH i.x i.y).1,yJ (vH i.x i.y).2]) (fun _=>[])
def yJs (i:sR):List SAnn:=[{ι:=Nat,slots:=fun m=>[(8,zA (y4 i.p.months.length m)),(33,zA m)],rows:=fun _=>[]}]
def yBg (i:nA):List SAnn:=[{ι:=Nat,slots:=fun m=>[(9,zA (y4 i.p.months.length m)),(33,zA m)],rows:=fun _=>[]}]
open Go Cv Go.Proofs
def yKp (i:zTe):Prop:=
 IntKind.i64=IntKind.i64∧i.p.tick≠0∧∃(a:Unit),gM i.p.tick i.n=(i.n.tmod i.p.tick !=0)∧sb i.p.code=sb i.p.code∧iE i.p.months=iE i.p.months∧i.p.tick=i.p.tick∧i.p.low=i.p.low∧i.p.high=i.p.high∧i.p.wide=i.p.wide∧i.p.rule=i.p.rule∧i.p.top=i.p.top∧i.p.least=i.p.least∧i.p.part=i.p.part∧iE i.p.settle=iE i.p.settle∧True
def yKe (i:zMq):Prop:=
 ∃(a:Nat),(↑a:Int)=0∧∃(b:Nat→Prop),∃(c:Nat→Nat),b a∧∀(d:Nat),b d→cnd (decide ((↑d:Int)<(↑(iE i.l).length:Int))) ((0≤(↑d:Int)∧(↑d:Int)<(↑(iE i.l).length:Int))∧∃(e:Int),zE (iE i.l) (↑d:Int).toNat 0 1=some [dI e]∧∃(f:zTe),f.n=e∧sb f.p.code=sb i.p.code∧iE f.p.months=iE i.p.months∧f.p.tick=i.p.tick∧f.p.low=i.p.low∧f.p.high=i.p.high∧f.p.wide=i.p.wide∧f.p.rule=i.p.rule∧f.p.top=i.p.top∧f.p.least=i.p.least∧f.p.part=i.p.part∧iE f.p.settle=iE i.p.settle∧1≤f.p.tick∧∀(g:Unit),True→cnd (gM f.p.tick f.n) (∃(h:Unit),zCj (List.findIdx? (gM i.p.tick) i.l)=(↑d:Int)∧sb i.p.code=sb f.p.code∧iE i.p.months=iE f.p.months∧i.p.tick=f.p.tick∧i.p.low=f.p.low∧i.p.high=f.p.high∧i.p.wide=f.p.wide∧i.p.rule=f.p.rule∧i.p.top=f.p.top∧i.p.least=f.p.least∧i.p.part=f.p.part∧iE i.p.settle=iE f.p.settle∧True) (∃(h:Nat),(↑h:Int)=IntKind.i64.wrap ((↑d:Int)+1)∧b h∧c h<c d∧Sx.AObj.cells (jD (g7 1 ((1:Nat)+(0:Nat)) ((1:Nat)-(1:Nat)) [((0:Nat),(0:Nat))]) f.p.cells) (26:TypeId)=i.p.row)) (∃(e:Unit),zCj (List.findIdx? (gM i.p.tick) i.l)=(-1)∧sb i.p.code=sb i.p.code∧iE i.p.months=iE i.p.months∧i.p.tick=i.p.tick∧i.p.low=i.p.low∧i.p.high=i.p.high∧i.p.wide=i.p.wide∧i.p.rule=i.p.rule∧i.p.top=i.p.top∧i.p.least=i.p.least∧i.p.part=i.p.part∧iE i.p.settle=iE i.p.settle∧True)
def zJb (i:zMq):Prop:=
 ∃(a:zMq),iE a.l=iE i.l∧sb a.p.code=sb i.p.code∧iE a.p.months=iE i.p.months∧a.p.tick=i.p.tick∧a.p.low=i.p.low∧a.p.high=i.p.high∧a.p.wide=i.p.wide∧a.p.rule=i.p.rule∧a.p.top=i.p.top∧a.p.least=i.p.least∧a.p.part=i.p.part∧iE a.p.settle=iE i.p.settle∧(1≤a.p.tick∧a.l.length≤1099511627776)∧∀(b:Unit),True→∃(c:Unit),i.l.any (gM i.p.tick)=decide (zCj (List.findIdx? (gM a.p.tick) a.l)≥0)∧sb i.p.code=sb a.p.code∧iE i.p.months=iE a.p.months∧i.p.tick=a.p.tick∧i.p.low=a.p.low∧i.p.high=a.p.high∧i.p.wide=a.p.wide∧i.p.rule=a.p.rule∧i.p.top=a.p.top∧i.p.least=a.p.least∧i.p.part=a.p.part∧iE i.p.settle=iE a.p.settle∧True
def z8e (p:Prd):Prop:=
 cnd (decide (p.tick<1)) (∃(a:Unit),jA p=false∧True) (cnd (decide (p.tick>1000)) (∃(a:Unit),jA p=false∧True) (∃(a:zTe),a.n=p.low∧sb a.p.code=sb p.code∧iE a.p.months=iE p.months∧a.p.tick=p.tick∧a.p.low=p.low∧a.p.high=p.high∧a.p.wide=p.wide∧a.p.rule=p.rule∧a.p.top=p.top∧a.p.least=p.least∧a.p.part=p.part∧iE a.p.settle=iE p.settle∧1≤a.p.tick∧∀(b:Unit),True→cnd (!gM a.p.tick a.n) (∃(c:zTe),c.n=a.p.high∧sb c.p.code=sb a.p.code∧iE c.p.months=iE a.p.months∧c.p.tick=a.p.tick∧c.p.low=a.p.low∧c.p.high=a.p.high∧c.p.wide=a.p.wide∧c.p.rule=a.p.rule∧c.p.top=a.p.top∧c.p.least=a.p.least∧c.p.part=a.p.part∧iE c.p.settle=iE a.p.settle∧1≤c.p.tick∧∀(d:Unit),True→cnd (!gM c.p.tick c.n) (∃(e:zTe),e.n=c.p.wide∧sb e.p.code=sb c.p.code∧iE e.p.months=iE c.p.months∧e.p.tick=c.p.tick∧e.p.low=c.p.low∧e.p.high=c.p.high∧e.p.wide=c.p.wide∧e.p.rule=c.p.rule∧e.p.top=c.p.top∧e.p.least=c.p.least∧e.p.part=c.p.part∧iE e.p.settle=iE c.p.settle∧1≤e.p.tick∧∀(f:Unit),True→cnd (!gM e.p.tick e.n) (∃(g:zMq),iE g.l=iE e.p.settle∧sb g.p.code=sb e.p.code∧iE g.p.months=iE e.p.months∧g.p.tick=e.p.tick∧g.p.low=e.p.low∧g.p.high=e.p.high∧g.p.wide=e.p.wide∧g.p.rule=e.p.rule∧g.p.top=e.p.top∧g.p.least=e.p.least∧g.p.part=e.p.part∧iE g.p.settle=iE e.p.settle∧(1≤g.p.tick∧g.l.length≤1099511627776)∧∀(h:Unit),True→∃(j:Unit),jA p=!g.l.any (gM g.p.tick)∧True) (∃(g:Unit),jA p=false∧True)) (∃(e:Unit),jA p=false∧True)) (∃(c:Unit),jA p=false∧True)))
def yC (a:Prd):Prop:=a.code.length≤1099511627776∧a.months.length≤1099511627776∧a.settle.length≤1099511627776
def z3u (p:Prd):Prop:=
 ∃(a:List UInt8),sb a=sb p.code∧a.length≤1099511627776∧∀(b:Unit),True→cnd (!g8 a) (∃(c:Unit),p.check=12∧True) (∃(c:List Int),iE c=iE p.months∧c.length≤1099511627776∧∀(d:Unit),True→cnd (!x7 c) (∃(e:Unit),p.check=1∧True) (∃(e:Prd),sb e.code=sb p.code∧iE e.months=iE p.months∧e.tick=p.tick∧e.low=p.low∧e.high=p.high∧e.wide=p.wide∧e.rule=p.rule∧e.top=p.top∧e.least=p.least∧e.part=p.part∧iE e.settle=iE p.settle∧(yC e)∧∀(f:Unit),True→cnd (!jA e) (∃(g:Unit),p.check=22∧True) (cnd (decide (p.low<(-1000000))) (∃(g:Unit),p.check=23∧True) (cnd (decide (p.low≥p.high)) (∃(g:Unit),p.check=23∧True) (cnd (decide (p.high>1000000)) (∃(g:Unit),p.check=23∧True) (cnd (decide (p.wide<0)) (∃(g:Unit),p.check=23∧True) (cnd (decide (p.wide>IntKind.i64.wrap (p.high-p.low))) (∃(g:Unit),p.check=23∧True) (cnd ((↑(iE p.settle).length:Int) !=(↑(iE p.months).length:Int)) (∃(g:Unit),p.check=1∧True) (∃(g:List Int),iE g=iE p.settle∧(0<g.length∧g.length≤1099511627776)∧∀(h:Unit),True→p.low=p.low∧cnd (decide (nS g<p.low)) (∃(j:Unit),p.check=1∧True) (∃(j:List Int),iE j=iE p.settle∧(0<j.length∧j.length≤1099511627776)∧∀(k:Unit),True→p.high=p.high∧cnd (decide (r9 j>p.high)) (∃(l:Unit),p.check=1∧True) (cnd (decide (p.rule<1)) (∃(l:Unit),p.check=31∧True) (cnd (decide (p.rule>3)) (∃(l:Unit),p.check=31∧True) (cnd (decide (p.top<0)) (∃(l:Unit),p.check=24∧True) (cnd (decide (p.top>1000000)) (∃(l:Unit),p.check=24∧True) (cnd (decide (p.least<1)) (∃(l:Unit),p.check=24∧True) (cnd (decide (p.least>1000)) (∃(l:Unit),p.check=24∧True) (cnd (decide (p.part<0)) (∃(l:Unit),p.check=24∧True) (cnd (decide (p.part>100)) (∃(l:Unit),p.check=24∧True) (∃(l:Unit),p.check=0∧True)))))))))))))))))))
def zXs (p:Prd):Prop:=
 ∃(a:Prd),sb a.code=sb p.code∧iE a.months=iE p.months∧a.tick=p.tick∧a.low=p.low∧a.high=p.high∧a.wide=p.wide∧a.rule=p.rule∧a.top=p.top∧a.least=p.least∧a.part=p.part∧iE a.settle=iE p.settle∧(yC a)∧∀(b:Unit),True→cnd (a.check !=0) (∃(c:Unit),(↑p.count:Int)=0∧True) (IntKind.i64=IntKind.i64∧(2:Int)≠(0:Int)∧∃(c:Unit),(↑p.count:Int)=IntKind.i64.wrap ((↑(iE p.months).length:Int)+IntKind.i64.wrap ((IntKind.i64.wrap ((↑(iE p.months).length:Int)*IntKind.i64.wrap ((↑(iE p.months).length:Int)-1))).tdiv 2))∧True)
def zBv (a:sR) (b:Nat):=((↑(y4 a.p.months.length b):Int)+IntKind.i64.wrap (IntKind.i64.wrap ((↑(iE a.p.months).length:Int)-1)-(↑b:Int)))
def rW (a:sR):Prop:=∃(b:Unit),(a.p.legs a.n).fst=0∧(a.p.legs a.n).snd.fst=0∧(a.p.legs a.n).snd.snd=false∧True
def yEb (i:sR):Prop:=
 ∃(a:Prd),sb a.code=sb i.p.code∧iE a.months=iE i.p.months∧a.tick=i.p.tick∧a.low=i.p.low∧a.high=i.p.high∧a.wide=i.p.wide∧a.rule=i.p.rule∧a.top=i.p.top∧a.least=i.p.least∧a.part=i.p.part∧iE a.settle=iE i.p.settle∧(yC a)∧∀(b:Unit),True→cnd (decide (i.n<0)) (rW i) (cnd (decide (i.n≥(↑a.count:Int))) (rW i) (cnd (decide (i.n<(↑(iE i.p.months).length:Int))) (∃(c:Unit),(i.p.legs i.n).fst=i.n∧(i.p.legs i.n).snd.fst=i.n∧(i.p.legs i.n).snd.snd=false∧True) (∃(c:Nat),(↑(y4 i.p.months.length c):Int)=(↑(iE i.p.months).length:Int)∧(↑c:Int)=0∧∃(d:Nat→Prop),∃(e:Nat→Nat),d c∧∀(f:Nat),d f→cnd (decide ((↑f:Int)<(↑(iE i.p.months).length:Int))) (cnd (decide (i.n<IntKind.i64.wrap (zBv i f))) (∃(g:Unit),(i.p.legs i.n).fst=(↑f:Int)∧(i.p.legs i.n).snd.fst=IntKind.i64.wrap (IntKind.i64.wrap (IntKind.i64.wrap ((↑f:Int)+1)+i.n)-(↑(y4 i.p.months.length f):Int))∧(i.p.legs i.n).snd.snd=true∧True) (∃(g:Nat),(↑(y4 i.p.months.length g):Int)=IntKind.i64.wrap (zBv i f)∧(↑g:Int)=IntKind.i64.wrap ((↑f:Int)+1)∧d g∧e g<e f∧Sx.AObj.cells [V.d (D.v (Value.string (sb i.p.code))),V.own 0,V.d (dI i.p.tick),V.d (dI i.p.low),V.d (dI i.p.high),V.d (dI i.p.wide),V.d (dI i.p.rule),V.d (dI i.p.top),V.d (dI i.p.least),V.d (dI i.p.part),V.own ((0:Nat)+(1:Nat))] 26=Sx.AObj.cells [V.d (D.v (Value.string (sb i.p.code))),V.own 0,V.d (dI i.p.tick),V.d (dI i.p.low),V.d (dI i.p.high),V.d (dI i.p.wide),V.d (dI i.p.rule),V.d (dI i.p.top),V.d (dI i.p.least),V.d (dI i.p.part),V.own ((0:Nat)+(1:Nat))] 26∧AObj.fro 1 (iE i.p.settle)=AObj.fro 1 (iE i.p.settle)∧AObj.fro 1 (iE i.p.months)=AObj.fro 1 (iE i.p.months))) (rW i))))
def gR (a:nA):Prop:=∃(b:Unit),(a.p.spread a.a a.b).fst=0∧(a.p.spread a.a a.b).snd=false∧True
def zYd (i:nA):Prop:=
 ∃(a:Prd),sb a.code=sb i.p.code∧iE a.months=iE i.p.months∧a.tick=i.p.tick∧a.low=i.p.low∧a.high=i.p.high∧a.wide=i.p.wide∧a.rule=i.p.rule∧a.top=i.p.top∧a.least=i.p.least∧a.part=i.p.part∧iE a.settle=iE i.p.settle∧(yC a)∧∀(b:Unit),True→cnd (a.check !=0) (gR i) (cnd (decide (i.a<0)) (gR i) (cnd (decide (i.a≥i.b)) (gR i) (cnd (decide (i.b≥(↑(iE i.p.months).length:Int))) (gR i) (∃(c:Nat),(↑(y4 i.p.months.length c):Int)=(↑(iE i.p.months).length:Int)∧(↑c:Int)=0∧∃(d:Nat→Prop),∃(e:Nat→Nat),d c∧∀(f:Nat),d f→cnd (decide ((↑f:Int)<i.a)) (∃(g:Nat),(↑(y4 i.p.months.length g):Int)=IntKind.i64.wrap ((↑(y4 i.p.months.length f):Int)+IntKind.i64.wrap (IntKind.i64.wrap ((↑(iE i.p.months).length:Int)-1)-(↑f:Int)))∧(↑g:Int)=IntKind.i64.wrap ((↑f:Int)+1)∧d g∧e g<e f∧Sx.AObj.cells [V.d (D.v (Value.string (sb i.p.code))),V.own 0,V.d (dI i.p.tick),V.d (dI i.p.low),V.d (dI i.p.high),V.d (dI i.p.wide),V.d (dI i.p.rule),V.d (dI i.p.top),V.d (dI i.p.least),V.d (dI i.p.part),V.own ((0:Nat)+(1:Nat))] 26=Sx.AObj.cells [V.d (D.v (Value.string (sb i.p.code))),V.own 0,V.d (dI i.p.tick),V.d (dI i.p.low),V.d (dI i.p.high),V.d (dI i.p.wide),V.d (dI i.p.rule),V.d (dI i.p.top),V.d (dI i.p.least),V.d (dI i.p.part),V.own ((0:Nat)+(1:Nat))] 26∧AObj.fro 1 (iE i.p.settle)=AObj.fro 1 (iE i.p.settle)∧AObj.fro 1 (iE i.p.months)=AObj.fro 1 (iE i.p.months)) (∃(g:Unit),(i.p.spread i.a i.b).fst=IntKind.i64.wrap (IntKind.i64.wrap (IntKind.i64.wrap ((↑(y4 i.p.months.length f):Int)+i.b)-i.a)-1)∧(i.p.spread i.a i.b).snd=true∧True)))))
def z5a (i:nA):Prop:=
 ∃(a:Prd),sb a.code=sb i.p.code∧iE a.months=iE i.p.months∧a.tick=i.p.tick∧a.low=i.p.low∧a.high=i.p.high∧a.wide=i.p.wide∧a.rule=i.p.rule∧a.top=i.p.top∧a.least=i.p.least∧a.part=i.p.part∧iE a.settle=iE i.p.settle∧(yC a)∧∀(b:Unit),True→cnd ((↑a.count:Int)==0) (∃(c:Unit),i.p.price i.a i.b=1∧True) (cnd (decide (i.a<0)) (∃(c:Unit),i.p.price i.a i.b=20∧True) (cnd (decide (i.a≥(↑a.count:Int))) (∃(c:Unit),i.p.price i.a i.b=20∧True) (IntKind.i64=IntKind.i64∧i.p.tick≠0∧cnd (i.b.tmod i.p.tick !=0) (∃(c:Unit),i.p.price i.a i.b=22∧True) (cnd (decide (i.a≥(↑(iE i.p.months).length:Int))) (cnd (decide (i.b<IntKind.i64.wrap (0-i.p.wide))) (∃(c:Unit),i.p.price i.a i.b=23∧True) (cnd (decide (i.b>i.p.wide)) (∃(c:Unit),i.p.price i.a i.b=23∧True) (∃(c:Unit),i.p.price i.a i.b=0∧True))) (cnd (decide (i.b<i.p.low)) (∃(c:Unit),i.p.price i.a i.b=23∧True) (cnd (decide (i.b>i.p.high)) (∃(c:Unit),i.p.price i.a i.b=23∧True) (∃(c:Unit),i.p.price i.a i.b=0∧True)))))))
def zEm (a:I2):Prop:=∃(b:Unit),(vL a.x a.y).fst=IntKind.i64.wrap (a.x+a.y)∧(vL a.x a.y).snd=true∧True
def yJx (i:I2):Prop:=
 cnd (decide (i.x<0)==decide (i.y<0)) (cnd (!decide (IntKind.i64.wrap (i.x+i.y)<0)==decide (i.x<0)) (∃(a:Unit),(vL i.x i.y).fst=0∧(vL i.x i.y).snd=false∧True) (zEm i)) (zEm i)
def zGp (a:I2):Prop:=∃(b:Unit),(vH a.x a.y).fst=IntKind.i64.wrap (a.x-a.y)∧(vH a.x a.y).snd=true∧True
def yKg (i:I2):Prop:=
 cnd (!decide (i.x<0)==decide (i.y<0)) (cnd (!decide (IntKind.i64.wrap (i.x-i.y)<0)==decide (i.x<0)) (∃(a:Unit),(vH i.x i.y).fst=0∧(vH i.x i.y).snd=false∧True) (zGp i)) (zGp i)
open Go Cv Go.Proofs
theorem yMo (i:zTe) (h:offC.cnd i):yKp i:=by
 have h:1≤i.p.tick:=h
 unfold yKp;exact kp
theorem z4k:offC.ok Tryz.prog 198:=okw mixed gok0 0 (fun _=>[]) (fun _=>[]) [] Tryz.func198 yMo
theorem zAs {α:Type} {f:α→Bool} {l:List α} (h:∀(k:Nat) (x:α),l[k]? =some x→f x=false):l.findIdx? f=none:=by
 rw[ySk]
 intro x hx
 obtain⟨k,hk⟩:=List.getElem?_of_mem hx
 exact h k x hk
theorem zBe {α:Type} {f:α→Bool} {l:List α} {j:Nat} {x:α} (h1:l[j]? =some x) (h2:f x=true) (h:∀k<j,∀x:α,l[k]? =some x→f x=false):l.findIdx? f=some j:=by
 rw[yRj]
 obtain⟨hj,rfl⟩:=yOj.1 h1
 exact⟨hj,h2,fun k hk=>by rw[h k hk _ (yPq (by omega))];simp⟩
theorem yNh (i:zMq) (h:idxC.cnd i):yKe i:=by
 obtain⟨h1,h2⟩:1≤i.p.tick∧i.l.length≤1099511627776:=h
 unfold yKe dI
 simp only[y3]
 refine⟨0,rfl,fun j=>j≤i.l.length∧∀k<j,∀x,i.l[k]? =some x→gM i.p.tick x=false,fun j=>i.l.length-j,⟨by omega,fun k hk=>by omega⟩,?_⟩
 rintro j ⟨h3,h4⟩
 refine zI (fun hj=> ?_) (fun hj=> ?_)
 ·obtain⟨n,hn⟩:=z9 (l:=i.l) (i:=j) (by omega)
  refine⟨⟨by omega,by omega⟩,n,elI hn,⟨i.p,n⟩,?_⟩
  (repeat'(first|exact rfl|exact trivial|assumption|apply And.intro|refine fun(_:Unit) (_:True)=>?_|refine Exists.intro () ?_|omega|(dsimp only;omega)))
  refine Cv.cnd.mk (fun e=> ?_) (fun e=> ?_)
  ·rw[zBe hn e h4];exact kp
  ·refine⟨j+1,by rw[w64 (by omega)];rfl,⟨by omega,fun k hk x hx=> ?_⟩,by(first|omega|(dsimp only;omega)),rfl⟩
   rcases yRc k j with hk'|hk'
   ·exact h4 k hk' x hx
   ·obtain rfl:k=j:=by omega
    rw[hn]at hx;cases hx;exact e
 ·rw[zAs fun k x hx=>h4 k (by have:=(yOj.1 hx).1;omega) x hx];exact kp
theorem yHr:idxC.ok Tryz.prog 231:=okw mixed (gokc z4k gok0) 0 (fun _=>[]) (fun i=>yOa i) [] Tryz.func231 yNh
theorem z0b {l:List Int} {f:Int→Bool}:l.any f=decide (zCj (l.findIdx? f)≥0):=by
 cases hf:l.findIdx? f with
 |none=>
  rw[ySk]at hf
  have:l.any f=false:=by rw[List.any_eq_false];intro x hx;simp[hf x hx]
  rw[this];rfl
 |some k=>
  rw[yRj]at hf
  obtain⟨hk,h1,_⟩:=hf
  have:l.any f=true:=by rw[List.any_eq_true];exact⟨_,List.getElem_mem hk,h1⟩
  rw[this,zCj,yPd (by omega)]
theorem z0q (i:zMq) (h:containsC.cnd i):zJb i:=by
 unfold zJb
 have h':1≤i.p.tick∧i.l.length≤1099511627776:=h
 refine⟨i,?_⟩
 (repeat'(first|exact rfl|exact trivial|assumption|apply And.intro|refine fun(_:Unit) (_:True)=>?_|refine Exists.intro () ?_|omega|(dsimp only;omega)))
 exact z0b
theorem zRk:containsC.ok Tryz.prog 199:=okw mixed (gokc yHr gok0) 0 (fun _=>[]) (fun _=>[]) [] Tryz.func199 z0q
theorem yGo (p:Prd) (h:ticksC.cnd p):z8e p:=by
 obtain⟨h1,h2,h3⟩:p.small:=h
 unfold z8e
 refine zI (fun c1=>⟨(),by rw[jA,yPa (by omega)];rfl,trivial⟩) (fun c1=>zI (fun c2=>⟨(),by rw[jA,yPa (show ¬p.tick≤1000 by omega)];simp,trivial⟩) (fun c2=>⟨⟨p,p.low⟩,?_⟩))
 have e1:jA p=(!gM p.tick p.low && !gM p.tick p.high && !gM p.tick p.wide && !p.settle.any (gM p.tick)):=by
  rw[jA,yPd (by omega),yPd (by omega)];rfl
 rw[e1]
 (repeat'(first|exact rfl|exact trivial|assumption|apply And.intro|refine fun(_:Unit) (_:True)=>?_|refine Exists.intro () ?_|omega|(dsimp only;omega)))
 refine Cv.cnd.mk (fun c3=>⟨⟨p,p.high⟩,?_⟩) (fun c3=>⟨(),?_,trivial⟩)
 ·dsimp only at c3
  (repeat'(first|exact rfl|exact trivial|assumption|apply And.intro|refine fun(_:Unit) (_:True)=>?_|refine Exists.intro () ?_|omega|(dsimp only;omega)))
  refine Cv.cnd.mk (fun c4=>⟨⟨p,p.wide⟩,?_⟩) (fun c4=>⟨(),?_,trivial⟩)
  ·dsimp only at c4
   (repeat'(first|exact rfl|exact trivial|assumption|apply And.intro|refine fun(_:Unit) (_:True)=>?_|refine Exists.intro () ?_|omega|(dsimp only;omega)))
   refine Cv.cnd.mk (fun c5=>⟨⟨p,p.settle⟩,?_⟩) (fun c5=>⟨(),?_,trivial⟩)
   ·dsimp only at c5
    (repeat'(first|exact rfl|exact trivial|assumption|apply And.intro|refine fun(_:Unit) (_:True)=>?_|refine Exists.intro () ?_|omega|(dsimp only;omega)))
    rw[c3,c4,c5];simp
   ·dsimp only at c5
    rw[c5];simp
  ·dsimp only at c4
   rw[c4];simp
 ·dsimp only at c3
  rw[c3];simp
theorem z8a:ticksC.ok Tryz.prog 160:=okw mixed (gokc z4k (gokc zRk gok0)) 0 (fun _=>[]) (fun _=>[]) [] Tryz.func160 yGo
theorem yJm (p:Prd) (h:checkC.cnd p):z3u p:=by
 obtain⟨h1,h2,h3⟩:p.small:=h
 unfold z3u yC
 simp only[y3]
 refine⟨p.code,rfl,h1,fun _ _=>Cv.cnd.mk (fun c1=>⟨(),by rw[Prd.check,yOi c1],trivial⟩) (fun c1=>⟨p.months,rfl,h2,fun _ _=>Cv.cnd.mk (fun c2=>⟨(),by rw[Prd.check,yOh (by simp[c1]),yOi c2],trivial⟩) (fun c2=>⟨p,?_⟩)⟩)⟩
 (repeat'(first|exact rfl|exact trivial|assumption|apply And.intro|refine fun(_:Unit) (_:True)=>?_|refine Exists.intro () ?_|omega|(dsimp only;omega)))
 refine Cv.cnd.mk (fun c3=>⟨(),by rw[Prd.check,yOh (by simp[c1]),yOh (by simp[c2]),yOi c3],trivial⟩) (fun c3=> ?_)
 have e0:p.check=if gJ p then 23 else if wV p then 1 else if fE p then 31 else if uJ p then 24 else 0:=by
  rw[Prd.check,yOh (by simp[c1]),yOh (by simp[c2]),yOh (by simp[c3])]
 have b (hb:gJ p=true):∃(o:Unit),p.check=23∧True:=⟨(),by rw[e0,yOi hb],trivial⟩
 refine zI (fun d1=>b (by simp[gJ,d1])) fun d1=>zI (fun d2=>b (by simp[gJ];omega)) fun d2=>zI (fun d3=>b (by simp[gJ];omega)) fun d3=>zI (fun d4=>b (by simp[gJ];omega)) fun d4=> ?_
 rw[w64 (by omega)]
 refine zI (fun d5=>b (by simp[gJ];omega)) fun d5=> ?_
 have e1:p.check=if wV p then 1 else if fE p then 31 else if uJ p then 24 else 0:=by
  rw[e0,yOh (by simp[gJ];omega)]
 have s (hb:wV p=true):∃(o:Unit),p.check=1∧True:=⟨(),by rw[e1,yOi hb],trivial⟩
 have hm:2≤p.months.length:=by
  have c2:x7 p.months=true:=by simpa using c2
  simp[x7]at c2;omega
 refine Cv.cnd.mk (fun d6=>s (by have d6:¬(p.settle.length:Int)=p.months.length:=(by simpa using d6);simp[wV];omega)) fun d6=> ?_
 have d6:p.settle.length=p.months.length:=by
  have:(p.settle.length:Int)=p.months.length:=by simpa using d6
  omega
 refine⟨p.settle,rfl,⟨by omega,by omega⟩,fun _ _=>⟨kp,zI (fun d7=>s (by simp[wV];left;right;omega)) fun d7=>⟨p.settle,rfl,⟨by omega,by omega⟩,fun _ _=>⟨kp,zI (fun d8=>s (by simp[wV];right;omega)) fun d8=> ?_⟩⟩⟩⟩
 have e2:p.check=if fE p then 31 else if uJ p then 24 else 0:=by
  rw[e1,yOh (by simp[wV];omega)]
 have r (hb:fE p=true):∃(o:Unit),p.check=31∧True:=⟨(),by rw[e2,yOi hb],trivial⟩
 refine zI (fun d9=>r (by simp[fE];omega)) fun d9=>zI (fun d10=>r (by simp[fE];omega)) fun d10=> ?_
 have e3:p.check=if uJ p then 24 else 0:=by
  rw[e2,yOh (by simp[fE];omega)]
 have q (hb:uJ p=true):∃(o:Unit),p.check=24∧True:=⟨(),by rw[e3,yOi hb],trivial⟩
 refine zI (fun f1=>q (by simp[uJ];omega)) fun f1=>zI (fun f2=>q (by simp[uJ];omega)) fun f2=>zI (fun f3=>q (by simp[uJ];omega)) fun f3=>zI (fun f4=>q (by simp[uJ];omega)) fun f4=>zI (fun f5=>q (by simp[uJ];omega)) fun f5=>zI (fun f6=>q (by simp[uJ];omega)) fun f6=> ?_
 exact⟨(),by rw[e3,yOh (by simp[uJ];omega)],trivial⟩
theorem eY:checkC.ok Tryz.prog 114:=okw mixed (gokc yJl (gokc z0x (gokc z8a (gokc yGr (gokc yHn gok0))))) 0 (fun _=>[]) (fun _=>[]) [] Tryz.func114 yJm
structure Prd.Ok (p:Prd):Prop where
 sym:g8 p.code=true
 months:x7 p.months=true
 ticks:jA p=true
 m2:2≤p.months.length
 m6:p.months.length≤6
 t1:1≤p.tick
 t2:p.tick≤1000
 b1: -1000000≤p.low
 b2:p.low<p.high
 b3:p.high≤1000000
 b4:0≤p.wide
 b5:p.wide≤p.high-p.low
 s1:p.settle.length=p.months.length
 s2:p.low≤nS p.settle
 s3:r9 p.settle≤p.high
 r1:1≤p.rule
 r2:p.rule≤3
 q1:0≤p.top
 q2:p.top≤1000000
 q3:1≤p.least
 q4:p.least≤1000
 q5:0≤p.part
 q6:p.part≤100
theorem wX {p:Prd} (h:p.check=0):p.Ok:=by
 unfold Prd.check at h
 split at h<;>first|(exfalso;revert h;decide)|skip
 rename_i c1
 split at h<;>first|(exfalso;revert h;decide)|skip
 rename_i c2
 split at h<;>first|(exfalso;revert h;decide)|skip
 rename_i c3
 split at h<;>first|(exfalso;revert h;decide)|skip
 rename_i c4
 split at h<;>first|(exfalso;revert h;decide)|skip
 rename_i c5
 split at h<;>first|(exfalso;revert h;decide)|skip
 rename_i c6
 split at h<;>first|(exfalso;revert h;decide)|skip
 rename_i c7
 simp only[yTf,Bool.not_eq_false,Bool.not_eq_true]at c1 c2 c3
 have m:=c2
 have t:=c3
 simp[x7]at m
 simp[jA]at t
 simp[gJ]at c4
 simp[wV]at c5
 simp[fE]at c6
 simp[uJ]at c7
 exact⟨c1,c2,c3,by omega,by omega,by omega,by omega,by omega,by omega,by omega,by omega,by omega,by omega,by omega,by omega,by omega,by omega,by omega,by omega,by omega,by omega,by omega,by omega⟩
theorem z5x {n:Nat} (h:n≤6):n+n*(n-1) / 2≤21:=by
 have:∀n≤6,n+n*(n-1) / 2≤21:=by decide
 exact this n h
theorem yCw (p:Prd) (h:pcountC.cnd p):zXs p:=by
 unfold zXs yC
 obtain⟨h1,h2,h3⟩:p.small:=h
 refine⟨p,?_⟩
 simp only[y3]
 (repeat'(first|exact rfl|exact trivial|assumption|apply And.intro|refine fun(_:Unit) (_:True)=>?_|refine Exists.intro () ?_|omega|(dsimp only;omega)))
 refine Cv.cnd.mk (fun c=>⟨(),by rw[Prd.count,yOh (by simpa using c)];rfl,trivial⟩) (fun c=> ?_)
 have c:p.check=0:=by simpa using c
 have ok:=wX c
 refine⟨kp,by decide,(),?_,trivial⟩
 rw[Prd.count,yOi c]
 obtain⟨n,hn⟩:∃n,p.months.length=n:=⟨_,rfl⟩
 have m2:=ok.m2
 have m6:=ok.m6
 rw[hn]at m2 m6 ⊢
 have:n=2∨n=3∨n=4∨n=5∨n=6:=by omega
 rcases this with rfl|rfl|rfl|rfl|rfl<;>rfl
theorem bS:pcountC.ok Tryz.prog 116:=okw mixed (gokc eY gok0) 0 (fun _=>[]) (fun _=>[]) [] Tryz.func116 yCw
theorem nI {p:Prd} (h:p.count≠0):p.check=0:=by
 unfold Prd.count at h
 split at h
 ·assumption
 ·exact absurd rfl h
theorem xP (p:Prd):p.count≤21:=by
 unfold Prd.count
 split
 ·rename_i h;exact z5x (wX h).m6
 ·omega
theorem zQk {n m:Nat} (h:n≤6) (hm:m≤n):y4 n m≤21:=by
 have:∀n≤6,∀m≤n,y4 n m≤21:=by decide
 exact this n h m hm
theorem yMf (i:sR) (h:legsC.cnd i):yEb i:=by
 unfold yEb rW zBv yC dI
 obtain⟨h1,h2,h3⟩:i.p.small:=h
 refine⟨i.p,?_⟩
 simp only[y3]
 (repeat'(first|exact rfl|exact trivial|assumption|apply And.intro|refine fun(_:Unit) (_:True)=>?_|refine Exists.intro () ?_|omega|(dsimp only;omega)))
 refine zI (fun c1=> ?_) (fun c1=>zI (fun c2=> ?_) (fun c2=> ?_))
 ·rw[Prd.legs,yOi (by omega)];exact kp
 ·rw[Prd.legs,yOi (by omega)];exact kp
 have c2:¬i.n≥(i.p.count:Int):=c2
 have hc:=xP i.p
 have ok:=wX (nI (p:=i.p) (by omega))
 have m6:=ok.m6
 refine zI (fun c3=> ?_) (fun c3=> ?_)
 ·rw[Prd.legs,yOh (by omega),yOi c3];exact kp
 have e0:i.p.legs i.n=qW i.p.months.length i.n.toNat i.p.months.length 0:=by
  rw[Prd.legs,yOh (by omega),yOh c3]
 rw[e0]
 generalize hn:i.p.months.length=n at c3 m6 ⊢
 obtain⟨k,hk⟩:∃k:Nat,i.n=k:=⟨i.n.toNat,by omega⟩
 rw[hk]at c2 c3 ⊢
 refine⟨0,rfl,rfl,fun m=>m≤n∧y4 n m≤k∧qW n k n 0=qW n k (n-m) m,fun m=>n-m,⟨by omega,by show n≤k;omega,rfl⟩,?_⟩
 rintro m ⟨g1,g2,g3⟩
 have hf:=zQk m6 g1
 refine zI (fun c4=> ?_) (fun c4=> ?_)
 ·obtain⟨r,hr⟩:∃r,n-m=r+1:=⟨n-m-1,by omega⟩
  have e1:(k:Int).toNat=k:=by omega
  rw[e1,g3,hr,w64 (x:=(n:Int)-1) (by omega),w64 (x:=(n:Int)-1-m) (by omega),w64 (x:=(y4 n m:Int)+((n:Int)-1-m)) (by omega),w64 (x:=(m:Int)+1) (by omega)]
  rw[hr]at g3
  refine zI (fun c5=> ?_) (fun c5=> ?_)
  ·rw[w64 (x:=(m:Int)+1+k) (by omega),w64 (x:=(m:Int)+1+k-(y4 n m:Int)) (by omega),qW,yOi (by omega)]
   refine⟨(),rfl,?_,rfl,trivial⟩
   dsimp only;omega
  ·refine⟨m+1,?_,rfl,⟨by omega,?_,?_⟩,by(first|omega|(dsimp only;omega)),kp⟩
   ·rw[y4];omega
   ·rw[y4];omega
   ·rw[qW,yOh (by omega),show n-(m+1)=r by omega]
 ·have e1:(k:Int).toNat=k:=by omega
  rw[e1,g3,show n-m=0 by omega]
  exact⟨(),rfl,rfl,rfl,trivial⟩
theorem rA:legsC.ok Tryz.prog 186:=okw mixed (gokc bS gok0) 0 (fun _=>[]) (fun i=>yJs i) [] Tryz.func186 yMf
theorem z9u (i:nA) (h:spreadC.cnd i):zYd i:=by
 unfold zYd gR yC dI
 obtain⟨h1,h2,h3⟩:i.p.small:=h
 refine⟨i.p,?_⟩
 simp only[y3]
 (repeat'(first|exact rfl|exact trivial|assumption|apply And.intro|refine fun(_:Unit) (_:True)=>?_|refine Exists.intro () ?_|omega|(dsimp only;omega)))
 have bad (hb:i.p.check≠0∨i.a<0∨i.b≤i.a∨(i.p.months.length:Int)≤i.b):∃(o:Unit),(i.p.spread i.a i.b).fst=0∧(i.p.spread i.a i.b).snd=false∧True:=⟨(),by rw[Prd.spread,yOi hb],by rw[Prd.spread,yOi hb],trivial⟩
 refine Cv.cnd.mk (fun c1=>bad (.inl (by simpa using c1))) fun c1=>zI (fun c2=>bad (by omega)) fun c2=>zI (fun c3=>bad (by omega)) fun c3=>zI (fun c4=>bad (by omega)) fun c4=> ?_
 have c1:i.p.check=0:=by simpa using c1
 have m6:=(wX c1).m6
 rw[Prd.spread,yOh (by omega)]
 generalize hn:i.p.months.length=n at c4 m6 ⊢
 obtain⟨a,ha⟩:∃k:Nat,i.a=k:=⟨i.a.toNat,by omega⟩
 rw[ha]at c3 ⊢
 refine⟨0,rfl,rfl,fun m=>m≤a,fun m=>a-m,by omega,?_⟩
 intro m hm
 have hm:m≤a:=hm
 have hf:=zQk (m:=m) m6 (by omega)
 refine zI (fun c5=> ?_) (fun c5=> ?_)
 ·rw[w64 (x:=(n:Int)-1) (by omega),w64 (x:=(n:Int)-1-m) (by omega),w64 (x:=(y4 n m:Int)+((n:Int)-1-m)) (by omega),w64 (x:=(m:Int)+1) (by omega)]
  refine⟨m+1,?_,rfl,by omega,by(first|omega|(dsimp only;omega)),kp⟩
  rw[y4];omega
 ·obtain rfl:m=a:=by omega
  rw[w64 (x:=(y4 n m:Int)+i.b) (by omega),w64 (x:=(y4 n m:Int)+i.b-m) (by omega),w64 (x:=(y4 n m:Int)+i.b-m-1) (by omega)]
  exact⟨(),rfl,rfl,trivial⟩
theorem zJk:spreadC.ok Tryz.prog 189:=okw mixed (gokc eY gok0) 0 (fun _=>[]) (fun i=>yBg i) [] Tryz.func189 z9u
theorem yJo (i:nA) (h:priceC.cnd i):z5a i:=by
 unfold z5a yC
 obtain⟨h1,h2,h3⟩:i.p.small:=h
 refine⟨i.p,?_⟩
 simp only[y3]
 (repeat'(first|exact rfl|exact trivial|assumption|apply And.intro|refine fun(_:Unit) (_:True)=>?_|refine Exists.intro () ?_|omega|(dsimp only;omega)))
 refine Cv.cnd.mk (fun c1=>⟨(),by rw[Prd.price,yOi (by have:(i.p.count:Int)=0:=(by simpa using c1);omega)],trivial⟩) fun c1=> ?_
 have c1:i.p.count≠0:=by
  have:¬(i.p.count:Int)=0:=by simpa using c1
  omega
 have e0:i.p.price i.a i.b=if i.a<0∨(i.p.count:Int)≤i.a then 20 else if gM i.p.tick i.b then 22 else
  if i.b<(if(i.p.months.length:Int)≤i.a then-i.p.wide else i.p.low)∨(if(i.p.months.length:Int)≤i.a then i.p.wide else i.p.high)<i.b then 23 else 0:=by rw[Prd.price,yOh c1]
 rw[e0]
 have ok:=wX (nI c1)
 obtain⟨t1,b3,b1,b2,b4,b5⟩:=(⟨ok.t1,ok.b3,ok.b1,ok.b2,ok.b4,ok.b5⟩:_∧_∧_∧_∧_∧_)
 refine zI (fun c2=>⟨(),by rw[yOi (.inl c2)],trivial⟩) fun c2=>zI (fun c3=>⟨(),by rw[yOi (.inr c3)],trivial⟩) fun c3=>⟨kp,by omega,?_⟩
 have c3:¬i.a≥(i.p.count:Int):=c3
 rw[yOh (by omega)]
 refine Cv.cnd.mk (fun c4=>⟨(),yOi c4,trivial⟩) fun c4=> ?_
 rw[yOh (by rw[gM,c4];simp),w64 (x:=0-i.p.wide) (by omega)]
 refine zI (fun c5=> ?_) (fun c5=> ?_)
 ·have c5:(i.p.months.length:Int)≤i.a:=c5
  simp only[yOi c5]
  refine zI (fun c6=>⟨(),yOi (.inl (by omega)),trivial⟩) fun c6=>zI (fun c7=>⟨(),yOi (.inr (by omega)),trivial⟩) fun c7=>⟨(),yOh (by omega),trivial⟩
 ·have c5:¬(i.p.months.length:Int)≤i.a:=c5
  simp only[yOh c5]
  refine zI (fun c6=>⟨(),yOi (.inl (by omega)),trivial⟩) fun c6=>zI (fun c7=>⟨(),yOi (.inr (by omega)),trivial⟩) fun c7=>⟨(),yOh (by omega),trivial⟩
theorem nQ:priceC.ok Tryz.prog 109:=okw mixed (gokc bS gok0) 0 (fun _=>[]) (fun _=>[]) [] Tryz.func109 yJo
theorem yEo (x:Int) (h: -18446744073709551616≤x∧x<18446744073709551616):(yQ x∧IntKind.i64.wrap x=x)∨(9223372036854775807<x∧IntKind.i64.wrap x=x-18446744073709551616)∨(x< -9223372036854775808∧IntKind.i64.wrap x=x+18446744073709551616):=by
 have e:IntKind.i64.wrap x=if(decide (x % 18446744073709551616≥9223372036854775808))=true then x % 18446744073709551616-18446744073709551616 else x % 18446744073709551616:=by
  have:IntKind.i64.wrap x=if(true && decide (x % 18446744073709551616≥9223372036854775808))=true then x % 18446744073709551616-18446744073709551616 else x % 18446744073709551616:=rfl
  rw[this,yRg]
 have e:IntKind.i64.wrap x=(x+9223372036854775808) % 18446744073709551616-9223372036854775808:=by
  rw[e]
  by_cases h2:x % 18446744073709551616≥9223372036854775808
  ·rw[yOi (yPd h2)];omega
  ·rw[yOh (by simpa using h2)];omega
 rw[e]
 by_cases h1:yQ x
 ·exact .inl ⟨h1,by unfold yQ at h1;omega⟩
 ·unfold yQ at h1
  omega
theorem yNi (i:I2) (h:addC.cnd i):yJx i:=by
 obtain⟨⟨x1,x2⟩,y1,y2⟩:yQ i.x∧yQ i.y:=h
 have hw:=yEo (i.x+i.y) (by omega)
 unfold yJx zEm vL
 generalize IntKind.i64.wrap (i.x+i.y)=w at hw ⊢
 unfold yQ at hw ⊢
 refine Cv.cnd.mk (fun c1=>Cv.cnd.mk (fun c2=> ?_) (fun c2=> ?_)) (fun c1=> ?_)
 all_goals(simp at*)
 ·rw[yOh (by omega)];exact kp
 ·rw[yOi (by omega)];refine⟨?_,rfl⟩;dsimp only;omega
 ·rw[yOi (by omega)];refine⟨?_,rfl⟩;dsimp only;omega
theorem zMe:addC.ok Tryz.prog 220:=okw mixed gok0 0 (fun _=>[]) (fun _=>[]) [] Tryz.func220 yNi
theorem yMn (i:I2) (h:subC.cnd i):yKg i:=by
 obtain⟨⟨x1,x2⟩,y1,y2⟩:yQ i.x∧yQ i.y:=h
 have hw:=yEo (i.x-i.y) (by omega)
 unfold yKg zGp vH
 generalize IntKind.i64.wrap (i.x-i.y)=w at hw ⊢
 unfold yQ at hw ⊢
 refine Cv.cnd.mk (fun c1=>Cv.cnd.mk (fun c2=> ?_) (fun c2=> ?_)) (fun c1=> ?_)
 all_goals(simp at*)
 ·rw[yOh (by omega)];exact kp
 ·rw[yOi (by omega)];refine⟨?_,rfl⟩;dsimp only;omega
 ·rw[yOi (by omega)];refine⟨?_,rfl⟩;dsimp only;omega
theorem zOj:subC.ok Tryz.prog 221:=okw mixed gok0 0 (fun _=>[]) (fun _=>[]) [] Tryz.func221 yMn
open Go Cv Go.Proofs
structure Slot where
 used:Bool
 n:Int
 id:Int
 qty:Int
 top:Bool
 queue:Int
 ahead:Int
 back:Int
 deriving DecidableEq
structure gL where
 first:Int
 last:Int
 total:Int
 count:Int
 deriving DecidableEq
structure Arena where
 slots:List Slot
 queues:List gL
 free:Int
 deriving DecidableEq
def zO (s:Slot):List D:=[.v (.bool s.used),.v (.int .i64 s.n),.v (.int .i64 s.id),.v (.int .i64 s.qty),.v (.bool s.top),.v (.int .i64 s.queue),.v (.int .i64 s.ahead),.v (.int .i64 s.back)]
def zM (q:gL):List D:=[.v (.int .i64 q.first),.v (.int .i64 q.last),.v (.int .i64 q.total),.v (.int .i64 q.count)]
def slot0:Slot:=⟨false,0,0,0,false,0,0,0⟩
def zF (a:Arena):Nat→AObj
 |0=> .cells [.own 1,.own 2,zA a.free] 350
 |1=> .own 305 8 (a.slots.map zO)
 |2=> .own 354 4 (a.queues.map zM)
 |_=> .gone
def kC (a:Arena):AObj:= .adt Arena 3 zF a
structure y5 where
 price:Int
 queue:Int
 deriving DecidableEq
structure Place where
 side:Int
 price:Int
 slot:Int
 deriving DecidableEq
structure Book where
 a:Arena
 buys:List y5
 sells:List y5
 at_:List (Int×Place)
 top1:Int
 top2:Int
 spare:List Int
 has1:Bool
 has2:Bool
 deriving DecidableEq
def zB (r:y5):List D:=[.v (.int .i64 r.price),.v (.int .i64 r.queue)]
def zVs (p:Place):List D:=[.v (.int .i64 p.side),.v (.int .i64 p.price),.v (.int .i64 p.slot)]
def atE (l:List (Int×Place)):List (Value×List D):=l.map fun x=>(.int .i64 x.1,zVs x.2)
def zP (b:Book):Nat→AObj
 |0=> .cells [.nm 1 0,.own 2,.own 3,.mp 4,zA b.top1,zA b.top2,.own 5,yJ b.has1,yJ b.has2] 244
 |1=>kC b.a
 |2=> .own 301 2 (b.buys.map zB)
 |3=> .own 301 2 (b.sells.map zB)
 |4=> .map (atE b.at_)
 |5=> .own 3 1 (iE b.spare)
 |_=> .gone
def z6 (b:Book):AObj:= .adt Book 6 zP b
structure MSt where
 p:Prd
 books:List Book
 wh:List (Int×Int)
def yN (l:List (Int×Int)):List (Value×List D):=l.map fun x=>(.int .i64 x.1,[.v (.int .i64 x.2)])
def xA (s:MSt):Nat→AObj
 |0=> .cells [sV s.p.code,.own 3,zA s.p.tick,zA s.p.low,zA s.p.high,zA s.p.wide,zA s.p.rule,zA s.p.top,zA s.p.least,zA s.p.part,.own 4,.own 1,.mp 2] 182
 |1=> .objs 184 Book 6 zP s.books none
 |2=> .map (yN s.wh)
 |3=> .fro 1 (iE s.p.months)
 |4=> .fro 1 (iE s.p.settle)
 |_=> .gone
def zD (s:MSt):AObj:= .adt MSt 5 xA s
def zHh (n:Nat):Arena:=⟨List.replicate n slot0,[],n⟩
def book0:Book:=⟨zHh 250,[],[],[],0,0,[],false,false⟩
def newAC:Con:=con1 Nat (fun n=>[zA n]) (fun _=>[]) (fun n=>1≤n∧n≤4096) (fun _=> .tup [.nm 0 0,zA 0]) (fun n=>[kC (zHh n)])
def newBC:Con:=con1 Unit (fun _=>[]) (fun _=>[]) (fun _=>True) (fun _=> .nm 0 0) (fun _=>[z6 book0])
def gY (p:Prd):MSt:=⟨p,List.replicate p.count book0,[]⟩
def newSC:Con where
 ι:=Prd
 pat:=fun p=>[sO p]
 pre:=fun _=>[]
 cnd:=fun p=>p.small
 alts:=fun p=>[{o:=Unit,res:=fun _=> .tup [.nm 0 0,zA 0],post:=fun _=>[zD (gY p)],rel:=fun _=>p.check=0},{o:=Unit,res:=fun _=> .tup [.d (.v (.pointer none)),zA p.check],post:=fun _=>[],rel:=fun _=>p.check≠0}]
def yLi (p:Prd):List SAnn:=[{ι:=Nat,slots:=fun j=>[(5,.nm 0 0),(27,zA j)],rows:=fun j=>(List.range 5).map (xA ⟨p,List.replicate j book0,[]⟩)}]
def clSlotC:Con:=con1 (List Slot) (fun _=>[.own 0]) (fun l=>[.own 305 8 (l.map zO)]) (fun l=>l.length≤1000000) (fun _=> .own 1) (fun l=>[.own 305 8 (l.map zO),.own 305 8 (l.map zO)])
def clQueueC:Con:=con1 (List gL) (fun _=>[.own 0]) (fun l=>[.own 354 4 (l.map zM)]) (fun l=>l.length≤1000000) (fun _=> .own 1) (fun l=>[.own 354 4 (l.map zM),.own 354 4 (l.map zM)])
def clRungC:Con:=con1 (List y5) (fun _=>[.own 0]) (fun l=>[.own 301 2 (l.map zB)]) (fun l=>l.length≤1000000) (fun _=> .own 1) (fun l=>[.own 301 2 (l.map zB),.own 301 2 (l.map zB)])
def clIntC:Con:=con1 (List Int) (fun _=>[.own 0]) (fun l=>[.own 3 1 (iE l)]) (fun l=>l.length≤1000000) (fun _=> .own 1) (fun l=>[.own 3 1 (iE l),.own 3 1 (iE l)])
def z2q (f:Nat):Con:=con1 (List (Value×List D)) (fun _=>[.mp 0]) (fun es=>[.map es]) (fun _=>True) (fun _=> .mp 1) (fun es=>[.map es,.map es])
def clAtC:Con:=z2q 0
def clWhC:Con:=z2q 1
@[reducible] def Arena.small (a:Arena):Prop:=a.slots.length≤1000000∧a.queues.length≤1000000
@[reducible] def Book.small (b:Book):Prop:=b.a.small∧b.buys.length≤1000000∧b.sells.length≤1000000∧b.spare.length≤1000000
@[reducible] def MSt.small (s:MSt):Prop:=s.books.length≤1000000∧∀b∈s.books,b.small
def copyAC:Con:=con1 Arena (fun _=>[.nm 0 0]) (fun a=>[kC a]) Arena.small (fun _=> .nm 1 0) (fun a=>[kC a,kC a])
def copyBC:Con:=con1 Book (fun _=>[.nm 0 0]) (fun b=>[z6 b]) Book.small (fun _=> .nm 1 0) (fun b=>[z6 b,z6 b])
def yGs:List SAnn:=[{ι:=Unit,slots:=fun _=>[],rows:=fun _=>[],un:=3}]
def copySC:Con:=con1 MSt (fun _=>[.nm 0 0]) (fun s=>[zD s]) MSt.small (fun _=> .nm 1 0) (fun s=>[zD s,zD s])
open Go Cv Go.Proofs
def yEh (n:Nat):Prop:=
 cnd (decide ((↑n:Int)<1)) (∃(a:Unit),False) (cnd (decide ((↑n:Int)>4096)) (∃(a:Unit),False) ((0≤(↑n:Int)∧(↑n:Int)≤(↑n:Int)∧(↑n:Int)≤9223372036854775807∧(↑(64:Nat):Int)*(↑n:Int)≤2 ^ (48:Nat))∧∃(a:Unit),(0:Int)=(0:Int)∧(↑n:Int)=(↑n:Int)∧List.map zO (List.replicate n slot0)=List.replicate (↑n:Int).toNat [D.v (.bool false),dI 0,dI 0,dI 0,D.v (.bool false),dI 0,dI 0,dI 0]∧([]:List (List D))=[]∧True))
def yMh (u:Unit):Prop:=
 ∃(i:Nat),(↑i:Int)=250∧(1≤i∧i≤4096)∧∀(o:Unit),True→∃(o:Unit),(0:Int)=(0:Int)∧(0:Int)=(0:Int)∧false=false∧false=false∧AObj.adt Arena 3 zF (zHh 250)=AObj.adt Arena 3 zF (zHh i)∧([]:List (List D))=[]∧([]:List (List D))=[]∧atE []=[]∧iE []=[]∧True
def zAe (a:Prd):Prop:=AObj.fro 1 (iE a.settle)=AObj.fro 1 (iE a.settle)∧AObj.fro 1 (iE a.months)=AObj.fro 1 (iE a.months)
def zIe (a:Prd) (b:Nat) (c:Unit):Prop:=(∃(d:Unit),(0:Int)=(0:Int)∧sb a.code=sb a.code∧a.tick=a.tick∧a.low=a.low∧a.high=a.high∧a.wide=a.wide∧a.rule=a.rule∧a.top=a.top∧a.least=a.least∧a.part=a.part∧AObj.objs 184 Book 6 zP (List.replicate a.count book0) none=AObj.objs 184 Book 6 zP (List.replicate b book0) none∧yN []=yN []∧AObj.fro 1 (iE a.months)=AObj.fro 1 (iE a.months)∧AObj.fro 1 (iE a.settle)=AObj.fro 1 (iE a.settle)∧a.check=0)∨∃(c:Unit),False
def zOf (a:Prd):Prop:=True∧True∧(0+(iE a.months).length)*(8:Nat)≤(70368744177664:Nat)∧True∧(0+(iE a.settle).length)*(8:Nat)≤(70368744177664:Nat)∧∃(b:Prd),sb b.code=sb a.code∧iE b.months=[]++iE a.months∧b.tick=a.tick∧b.low=a.low∧b.high=a.high∧b.wide=a.wide∧b.rule=a.rule∧b.top=a.top∧b.least=a.least∧b.part=a.part∧iE b.settle=[]++iE a.settle∧(yC b)∧∀(c:Unit),True→∃(d:Nat),(↑d:Int)=0∧sb a.code=sb a.code∧a.tick=a.tick∧a.low=a.low∧a.high=a.high∧a.wide=a.wide∧a.rule=a.rule∧a.top=a.top∧a.least=a.least∧a.part=a.part∧List.replicate d book0=[]∧(none:Option Nat)=none∧yN []=[]∧AObj.fro 1 (iE a.months)=AObj.fro 1 ([]++iE a.months)∧AObj.fro 1 (iE a.settle)=AObj.fro 1 ([]++iE a.settle)∧∃(e:Nat→Prop),∃(f:Nat→Nat),e d∧∀(g:Nat),e g→cnd (decide ((↑g:Int)<(↑b.count:Int))) (∃(h:Unit),True∧∀(j:Unit),True→True∧True∧∃(k:List Book),AObj.objs 184 Book 6 zP (List.replicate g book0) none=AObj.objs 184 Book 6 zP k none∧(k.length+1)*(8:Nat)≤(70368744177664:Nat)∧∃(l:Nat),(↑l:Int)=IntKind.i64.wrap ((↑g:Int)+1)∧sb a.code=sb a.code∧a.tick=a.tick∧a.low=a.low∧a.high=a.high∧a.wide=a.wide∧a.rule=a.rule∧a.top=a.top∧a.least=a.least∧a.part=a.part∧AObj.objs 184 Book 6 zP (List.replicate l book0) none=AObj.objs 184 Book 6 zP (k++[book0]) none∧yN []=yN []∧AObj.fro 1 (iE a.months)=AObj.fro 1 (iE a.months)∧AObj.fro 1 (iE a.settle)=AObj.fro 1 (iE a.settle)∧e l∧f l<f g∧AObj.fro 1 ([]++iE a.settle)=AObj.fro 1 ([]++iE a.settle)∧AObj.fro 1 ([]++iE a.months)=AObj.fro 1 ([]++iE a.months)∧Sx.AObj.cells [V.d (D.v (Value.string (sb a.code))),V.own ((0:Nat)+(1:Nat)+(1:Nat)+(1:Nat)+((0:Nat)-(0:Nat))+(1:Nat)+(1:Nat)),V.d (dI a.tick),V.d (dI a.low),V.d (dI a.high),V.d (dI a.wide),V.d (dI a.rule),V.d (dI a.top),V.d (dI a.least),V.d (dI a.part),V.own ((0:Nat)+(1:Nat)+(1:Nat)+(1:Nat)+((0:Nat)-(0:Nat))+(1:Nat)+(1:Nat)+1)] 26=Sx.AObj.cells [V.d (D.v (Value.string (sb a.code))),V.own ((0:Nat)+(1:Nat)+(1:Nat)+(1:Nat)+((0:Nat)-(0:Nat))+(1:Nat)+(1:Nat)),V.d (dI a.tick),V.d (dI a.low),V.d (dI a.high),V.d (dI a.wide),V.d (dI a.rule),V.d (dI a.top),V.d (dI a.least),V.d (dI a.part),V.own ((0:Nat)+(1:Nat)+(1:Nat)+(1:Nat)+((0:Nat)-(0:Nat))+(1:Nat)+(1:Nat)+1)] 26∧zAe a) (zIe a g c)
def yEp (p:Prd):Prop:=
 ∃(a:Prd),sb a.code=sb p.code∧iE a.months=iE p.months∧a.tick=p.tick∧a.low=p.low∧a.high=p.high∧a.wide=p.wide∧a.rule=p.rule∧a.top=p.top∧a.least=p.least∧a.part=p.part∧iE a.settle=iE p.settle∧(yC a)∧∀(b:Unit),True→cnd (a.check !=0) ((∃(c:Unit),False)∨∃(b:Unit),True∧p.check=a.check∧(p.check=0→False)) ((True∧True∧((0+(iE p.months).length)*(8:Nat)≤(70368744177664:Nat)∧True∧True∧(0+(iE p.settle).length)*(8:Nat)≤(70368744177664:Nat)∧∃(c:Prd),sb c.code=sb p.code∧iE c.months=[]++iE p.months∧c.tick=p.tick∧c.low=p.low∧c.high=p.high∧c.wide=p.wide∧c.rule=p.rule∧c.top=p.top∧c.least=p.least∧c.part=p.part∧iE c.settle=[]++iE p.settle∧(yC c)∧∀(d:Unit),True→∃(e:Nat),(↑e:Int)=0∧sb p.code=sb p.code∧p.tick=p.tick∧p.low=p.low∧p.high=p.high∧p.wide=p.wide∧p.rule=p.rule∧p.top=p.top∧p.least=p.least∧p.part=p.part∧List.replicate e book0=[]∧(none:Option Nat)=none∧yN []=[]∧AObj.fro 1 (iE p.months)=AObj.fro 1 ([]++iE p.months)∧AObj.fro 1 (iE p.settle)=AObj.fro 1 ([]++iE p.settle)∧∃(f:Nat→Prop),∃(g:Nat→Nat),f e∧∀(h:Nat),f h→cnd (decide ((↑h:Int)<(↑c.count:Int))) (∃(j:Unit),True∧∀(k:Unit),True→True∧True∧∃(l:List Book),AObj.objs 184 Book 6 zP (List.replicate h book0) none=AObj.objs 184 Book 6 zP l none∧(l.length+1)*(8:Nat)≤(70368744177664:Nat)∧∃(m:Nat),(↑m:Int)=IntKind.i64.wrap ((↑h:Int)+1)∧sb p.code=sb p.code∧p.tick=p.tick∧p.low=p.low∧p.high=p.high∧p.wide=p.wide∧p.rule=p.rule∧p.top=p.top∧p.least=p.least∧p.part=p.part∧AObj.objs 184 Book 6 zP (List.replicate m book0) none=AObj.objs 184 Book 6 zP (l++[book0]) none∧yN []=yN []∧AObj.fro 1 (iE p.months)=AObj.fro 1 (iE p.months)∧AObj.fro 1 (iE p.settle)=AObj.fro 1 (iE p.settle)∧f m∧g m<g h∧AObj.fro 1 ([]++iE p.settle)=AObj.fro 1 ([]++iE p.settle)∧AObj.fro 1 ([]++iE p.months)=AObj.fro 1 ([]++iE p.months)∧Sx.AObj.cells [V.d (D.v (Value.string (sb p.code))),V.own ((0:Nat)+(1:Nat)+(1:Nat)+(1:Nat)+((0:Nat)-(0:Nat))+1),V.d (dI p.tick),V.d (dI p.low),V.d (dI p.high),V.d (dI p.wide),V.d (dI p.rule),V.d (dI p.top),V.d (dI p.least),V.d (dI p.part),V.own ((0:Nat)+(1:Nat)+(1:Nat)+(1:Nat)+((0:Nat)-(0:Nat))+(1:Nat)+(1:Nat)+1)] 26=Sx.AObj.cells [V.d (D.v (Value.string (sb p.code))),V.own ((0:Nat)+(1:Nat)+(1:Nat)+(1:Nat)+((0:Nat)-(0:Nat))+1),V.d (dI p.tick),V.d (dI p.low),V.d (dI p.high),V.d (dI p.wide),V.d (dI p.rule),V.d (dI p.top),V.d (dI p.least),V.d (dI p.part),V.own ((0:Nat)+(1:Nat)+(1:Nat)+(1:Nat)+((0:Nat)-(0:Nat))+(1:Nat)+(1:Nat)+1)] 26∧zAe p) (zIe p h d))∧zOf p)∧True∧True∧zOf p)
def yBv (l:List Slot):Prop:=
 ∀(b:Bool),(b=true→List.map zO l=[])→cnd b (∃(o:Unit),List.map zO l=List.map zO l∧List.map zO l=[]∧True) ((0+(List.map zO l).length)*(64:Nat)≤(70368744177664:Nat)∧∃(o:Unit),List.map zO l=List.map zO l∧List.map zO l=[]++List.map zO l∧True)
def z3f (l:List gL):Prop:=
 ∀(b:Bool),(b=true→List.map zM l=[])→cnd b (∃(o:Unit),List.map zM l=List.map zM l∧List.map zM l=[]∧True) ((0+(List.map zM l).length)*(32:Nat)≤(70368744177664:Nat)∧∃(o:Unit),List.map zM l=List.map zM l∧List.map zM l=[]++List.map zM l∧True)
def yCy (l:List y5):Prop:=
 ∀(b:Bool),(b=true→List.map zB l=[])→cnd b (∃(o:Unit),List.map zB l=List.map zB l∧List.map zB l=[]∧True) ((0+(List.map zB l).length)*(16:Nat)≤(70368744177664:Nat)∧∃(o:Unit),List.map zB l=List.map zB l∧List.map zB l=[]++List.map zB l∧True)
def yFg (l:List Int):Prop:=
 ∀(b:Bool),(b=true→iE l=[])→cnd b (∃(o:Unit),iE l=iE l∧iE l=[]∧True) ((0+(iE l).length)*(8:Nat)≤(70368744177664:Nat)∧∃(o:Unit),iE l=iE l∧iE l=[]++iE l∧True)
def z8j (es:List (Value×List D)):Prop:=
 ∃(a:List (Value×List D)),a=es∧True∧∀(b:Unit),True→∃(c:Unit),es=a∧es=a∧True
theorem yIn (es:List (Value×List D)):z8j es=walk Tryz.prog ([(147,fM 240)]) 0 ([]) ([]) [] Tryz.f181 (Tryz.f181.body.getD .skip) (clAtC.pat es) (clAtC.pre es) (clAtC.alts es):=by kernel_rfl
theorem yGc (hG:GOk Tryz.prog ([(147,fM 240)])) (h:∀(es:List (Value×List D)),clAtC.cnd es→z8j es):clAtC.ok Tryz.prog 181:=dD mixed ([(147,fM 240)]) hG 0 (fun(es:List (Value×List D))=>[]) (fun(es:List (Value×List D))=>[]) [] Tryz.func181 (by kernel_rfl) (by kernel_rfl) (by kernel_rfl) (fun _=>by kernel_rfl) (fun(es:List (Value×List D)) hc=>Eq.mp (yIn es) (h es hc))
def z6w (es:List (Value×List D)):Prop:=
 ∃(a:List (Value×List D)),a=es∧True∧∀(b:Unit),True→∃(c:Unit),es=a∧es=a∧True
theorem yIz (es:List (Value×List D)):z6w es=walk Tryz.prog ([(147,fM 105)]) 0 ([]) ([]) [] Tryz.f145 (Tryz.f145.body.getD .skip) (clWhC.pat es) (clWhC.pre es) (clWhC.alts es):=by kernel_rfl
theorem yFe (hG:GOk Tryz.prog ([(147,fM 105)])) (h:∀(es:List (Value×List D)),clWhC.cnd es→z6w es):clWhC.ok Tryz.prog 145:=dD mixed ([(147,fM 105)]) hG 0 (fun(es:List (Value×List D))=>[]) (fun(es:List (Value×List D))=>[]) [] Tryz.func145 (by kernel_rfl) (by kernel_rfl) (by kernel_rfl) (fun _=>by kernel_rfl) (fun(es:List (Value×List D)) hc=>Eq.mp (yIz es) (h es hc))
def yGm (a:Arena):Prop:=
 ∃(i:List Slot),List.map zO i=List.map zO a.slots∧i.length≤1000000∧∀(o:Unit),True→a.free=a.free∧True∧∃(i_1:List gL),List.map zM i_1=List.map zM a.queues∧i_1.length≤1000000∧∀(o:Unit),True→a.free=a.free∧∃(o:Unit),a.free=a.free∧List.map zO a.slots=List.map zO i∧List.map zM a.queues=List.map zM i_1∧a.free=a.free∧List.map zO a.slots=List.map zO i∧List.map zM a.queues=List.map zM i_1∧True
def yHw (b:Book):Prop:=
 ∃(i:Arena),AObj.adt Arena 3 zF i=AObj.adt Arena 3 zF b.a∧(i.slots.length≤1000000∧i.queues.length≤1000000)∧∀(o:Unit),True→True∧True∧∃(i_1:List (Value×List D)),i_1=atE b.at_∧True∧∀(o:Unit),True→True∧∃(i_2:List Int),iE i_2=iE b.spare∧i_2.length≤1000000∧∀(o:Unit),True→∃(i_3:List y5),List.map zB i_3=List.map zB b.buys∧i_3.length≤1000000∧∀(o:Unit),True→∃(i_4:List y5),List.map zB i_4=List.map zB b.sells∧i_4.length≤1000000∧∀(o:Unit),True→∃(o:Unit),b.top1=b.top1∧b.top2=b.top2∧b.has1=b.has1∧b.has2=b.has2∧AObj.adt Arena 3 zF b.a=AObj.adt Arena 3 zF i∧List.map zB b.buys=List.map zB i_3∧List.map zB b.sells=List.map zB i_4∧atE b.at_=i_1∧iE b.spare=iE i_2∧b.top1=b.top1∧b.top2=b.top2∧b.has1=b.has1∧b.has2=b.has2∧AObj.adt Arena 3 zF b.a=AObj.adt Arena 3 zF i∧List.map zB b.buys=List.map zB i_3∧List.map zB b.sells=List.map zB i_4∧atE b.at_=i_1∧iE b.spare=iE i_2∧True
end Sx
