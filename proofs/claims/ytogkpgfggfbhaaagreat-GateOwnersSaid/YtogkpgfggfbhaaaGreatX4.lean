/- Texts of ours, one behind the other: a walk that the kernel reckons, and contracts of functions. No condition. -/
import Derived.Test.YtogkpgfggfbhaaaGreatRows
import Derived.Test.YtogkpgfggfbhaaaGreatX3
namespace Sx
set_option linter.unusedVariables false
open Go Cv Go.Proofs
theorem kp {P:Prop} (h:P:=by(repeat'(first|exact rfl|exact trivial|assumption|apply And.intro|refine fun(_:Unit) (_:True)=>?_|refine Exists.intro () ?_|omega|(dsimp only;omega)))):P:=h
theorem mixed:Tryz.prog.follows .mixedOrders=true:=by kernel_rfl
theorem okw {P:Program} {f:FuncId} {fn:Func} {C:Con} {G:List (Nat×Con)} {V:C.ι→Prop} (hm:P.follows .mixedOrders=true) (hG:GOk P G) (d:Nat) (J:C.ι→List (Nat×SAnn)) (an:C.ι→List SAnn) (op:List Nat) (hf:P.funcs[f]? =some fn) (h:∀i,C.cnd i→V i) (hb:fn.body=some (fn.body.getD .skip):=by kernel_rfl) (hbd:uM P f=true:=by kernel_rfl) (hok:okC fn.ntmps (fn.body.getD .skip)=true:=by kernel_rfl) (hsz:∀i,Nat.ble (C.pat i).length fn.ntmps=true:=by intro _;kernel_rfl) (e:∀i,V i=walk P G d (J i) (an i) op fn (fn.body.getD .skip) (C.pat i) (C.pre i) (C.alts i):=by intro _;kernel_rfl):C.ok P f:=dA hm G hG d J an op hf hb hbd hok hsz fun i hc=>Eq.mp (e i) (h i hc)
structure Lv where
 price:Int
 qty:Int
 count:Int
def lvV (l:Lv):V:= .agg [zA l.price,zA l.qty,zA l.count]
open Go Cv Go.Proofs
def WrU (l:List UInt8):Nat→AObj
 |0=> .cells [.own 1] 204
 |1=> .own 5 1 (bE l)
 |_=> .gone
def Wr (l:List UInt8):AObj:= .adt (List UInt8) 2 WrU l
set_option maxRecDepth 100000
open Go Cv Go.Proofs
open Go Cv Go.Proofs
open Go Cv Go.Proofs
@[reducible] def tU8:Nat:=5
structure WN where
 l:List UInt8
 n:Int
@[reducible] def WN.ok (i:WN):Prop:=i.l.length+8≤1099511627776
@[reducible] def yQy (t sz by_:Nat):Con:=con1 (List (List D)) (fun _=>[.own 0]) (fun l=>[.own t sz l]) (fun l=>l.length*by_≤70368744177664) (fun _=> .own 1) (fun l=>[.own t sz l,.own t sz l])
@[reducible] def yQi (sz by_:Nat):Con:=con1 (List (List D)) (fun l=>[roV sz l]) (fun _=>[]) (fun l=>l.length*by_≤70368744177664) (fun l=>roV sz l) (fun _=>[])
def cloneBO:Con:=yQy tU8 1 1
def cloneBR:Con:=yQi 1 1
def doneC:Con:=con1 (List UInt8) (fun _=>[.nm 0 0]) (fun l=>[Wr l]) (fun l=>l.length≤1099511627776) (fun _=> .own 1) (fun l=>[Wr l,.own tU8 1 (bE l)])
def RdU (x:List UInt8×Bool):Nat→AObj
 |0=> .cells [roV 1 (bE x.1),yL x.2] 208
 |_=> .gone
def Rd (l:List UInt8) (b:Bool):AObj:= .adt (List UInt8×Bool) 1 RdU (l,b)
def newRC:Con:=con1 (List UInt8) (fun l=>[roV 1 (bE l)]) (fun _=>[]) (fun l=>l.length≤1099511627776) (fun _=> .nm 0 0) (fun l=>[Rd l false])
structure RN where
 l:List UInt8
 b:Bool
 n:Nat
def RN.bad (i:RN):Bool:=i.b||decide (i.l.length<i.n)
def RN.got (i:RN):List UInt8:=if i.bad then[]else i.l.take i.n
def RN.left (i:RN):List UInt8:=if i.bad then i.l else i.l.drop i.n
@[reducible] def RN.ok (i:RN):Prop:=i.n≤255∧i.l.length≤1099511627776
def takeC:Con:=con1 RN (fun i=>[.nm 0 0,zA i.n]) (fun i=>[Rd i.l i.b]) RN.ok (fun i=>roV 1 (bE i.got)) (fun i=>[Rd i.left i.bad])
def qV:List UInt8→Int
 |[]=>0
 |b::l=>b.toNat+256*qV l
def getC:Con:=con1 RN (fun i=>[.nm 0 0,zA i.n]) (fun i=>[Rd i.l i.b]) (fun i=>i.n≤8∧i.l.length≤1099511627776) (fun i=>rF (qV i.got)) (fun i=>[Rd i.left i.bad])
def yWc (i:RN):List SAnn:=[{ι:=Nat,slots:=fun j=>[(5,rF (qV (i.got.take j))),(12,zA j)],rows:=fun _=>[]}]
structure RB where
 l:List UInt8
 b:Bool
def RB.n (i:RB) (k:Nat):RN:=⟨i.l,i.b,k⟩
def rbyteC:Con:=con1 RB (fun i=>[.nm 0 0]) (fun i=>[Rd i.l i.b]) (fun i=>i.l.length≤1099511627776) (fun i=>zA (qV (i.n 1).got)) (fun i=>[Rd (i.n 1).left (i.n 1).bad])
def rlongC:Con:=con1 RB (fun i=>[.nm 0 0]) (fun i=>[Rd i.l i.b]) (fun i=>i.l.length≤1099511627776) (fun i=>zA (IntKind.i64.wrap (qV (i.n 8).got))) (fun i=>[Rd (i.n 8).left (i.n 8).bad])
def rendC:Con:=con1 RB (fun i=>[.nm 0 0]) (fun i=>[Rd i.l i.b]) (fun i=>i.l.length≤1099511627776) (fun i=>zA (if i.b then 10 else if 0<i.l.length then 15 else 0)) (fun i=>[Rd i.l i.b])
open Go Cv Go.Proofs
def zWs (i:List (List D)):Prop:=
 ∀(b:Bool),(b=true→i=[])→cnd b (∃(o:Unit),i=i∧i=[]∧True) ((0+i.length)*(1:Nat)≤(70368744177664:Nat)∧∃(o:Unit),i=i∧i=[]++i∧True)
theorem z6d (i:List (List D)):zWs i=walk Tryz.prog ([]) 0 ([]) ([]) [] Tryz.f127 (Tryz.f127.body.getD .skip) (cloneBO.pat i) (cloneBO.pre i) (cloneBO.alts i):=by kernel_rfl
theorem z6c (hG:GOk Tryz.prog ([])) (h:∀(i:List (List D)),cloneBO.cnd i→zWs i):cloneBO.ok Tryz.prog 127:=dA mixed ([]) hG 0 (fun(i:List (List D))=>[]) (fun(i:List (List D))=>[]) [] Tryz.func127 (by kernel_rfl) (by kernel_rfl) (by kernel_rfl) (fun _=>by kernel_rfl) (fun(i:List (List D)) hc=>Eq.mp (z6d i) (h i hc))
def zTk (i:List (List D)):Prop:=
 ∀(b:Bool),(b=true→i=[])→cnd b (∃(o:Unit),i=[]∧True) ((0+i.length)*(1:Nat)≤(70368744177664:Nat)∧∃(o:Unit),i=[]++i∧True)
theorem z8c (i:List (List D)):zTk i=walk Tryz.prog ([]) 0 ([]) ([]) [] Tryz.f127 (Tryz.f127.body.getD .skip) (cloneBR.pat i) (cloneBR.pre i) (cloneBR.alts i):=by kernel_rfl
theorem z6p (hG:GOk Tryz.prog ([])) (h:∀(i:List (List D)),cloneBR.cnd i→zTk i):cloneBR.ok Tryz.prog 127:=dA mixed ([]) hG 0 (fun(i:List (List D))=>[]) (fun(i:List (List D))=>[]) [] Tryz.func127 (by kernel_rfl) (by kernel_rfl) (by kernel_rfl) (fun _=>by kernel_rfl) (fun(i:List (List D)) hc=>Eq.mp (z8c i) (h i hc))
def yTz (i:List UInt8):Prop:=
 ∃(i_1:List (List D)),i_1=bE i∧i_1.length*(1:Nat)≤(70368744177664:Nat)∧∀(o:Unit),True→∃(o:Unit),bE i=i_1∧bE i=i_1∧True
def ySd (i:List UInt8):Prop:=
 ∃(i_1:List (List D)),i_1=bE i∧i_1.length*(1:Nat)≤(70368744177664:Nat)∧∀(o:Unit),True→∃(o:Unit),bE i=i_1∧false=false∧True
def yTv (i:RN):Prop:=
 cnd i.b (∃(o:Unit),bE i.got=[]∧bE i.left=bE i.l∧i.bad=true∧True) (cnd (decide ((↑i.n:Int)>(↑(bE i.l).length:Int))) (∃(o:Unit),bE i.got=[]∧bE i.left=bE i.l∧i.bad=decide ((↑i.n:Int)>(↑(bE i.l).length:Int))∧True) ((0≤(↑i.n:Int)∧(↑i.n:Int)≤(↑(bE i.l).length:Int))∧(0≤(↑i.n:Int)∧(↑i.n:Int)≤(↑(bE i.l).length:Int))∧∃(o:Unit),bE i.got=List.take (↑i.n:Int).toNat (bE i.l)∧bE i.left=List.drop (↑i.n:Int).toNat (bE i.l)∧i.bad=decide ((↑i.n:Int)>(↑(bE i.l).length:Int))∧True))
@[reducible] def dI (n:Int):D:= .v (.int .i64 n)
def ySa (i:RN):Prop:=
 ∃(a:RN),(↑a.n:Int)=(↑i.n:Int)∧AObj.adt (List UInt8×Bool) 1 RdU (a.l,a.b)=Rd i.l i.b∧(a.n≤255∧a.l.length≤1099511627776)∧∀(b:Unit),True→∃(c:Nat),qV (List.take c i.got)=0∧(↑c:Int)=0∧∃(d:Nat→Prop),∃(e:Nat→Nat),d c∧∀(f:Nat),d f→cnd (decide ((↑f:Int)<(↑(bE a.got).length:Int))) ((0≤(↑f:Int)∧(↑f:Int)<(↑(bE a.got).length:Int))∧∃(g:Int),zF (bE a.got) (↑f:Int).toNat 0 1=some [D.v (.int .u8 g)]∧0≤IntKind.i64.wrap (8*(↑f:Int))∧∃(h:Nat),qV (List.take h i.got)=iOr IntKind.u64 (qV (List.take f i.got)) (zUs IntKind.u64 (IntKind.u64.wrap g) (IntKind.i64.wrap (8*(↑f:Int))))∧(↑h:Int)=IntKind.i64.wrap ((↑f:Int)+1)∧d h∧e h<e f∧AObj.adt (List UInt8×Bool) 1 RdU (a.left,a.bad)=AObj.adt (List UInt8×Bool) 1 RdU (a.left,a.bad)) (∃(g:Unit),qV i.got=qV (List.take f i.got)∧AObj.adt (List UInt8×Bool) 1 RdU (i.left,i.bad)=AObj.adt (List UInt8×Bool) 1 RdU (a.left,a.bad)∧True)
def yMx (i:RB):Prop:=
 ∃(i_1:RN),(↑i_1.n:Int)=1∧AObj.adt (List UInt8×Bool) 1 RdU (i_1.l,i_1.b)=Rd i.l i.b∧(i_1.n≤8∧i_1.l.length≤1099511627776)∧∀(o:Unit),True→∃(o:Unit),qV (i.n 1).got=IntKind.i64.wrap (qV i_1.got)∧AObj.adt (List UInt8×Bool) 1 RdU ((i.n 1).left,(i.n 1).bad)=AObj.adt (List UInt8×Bool) 1 RdU (i_1.left,i_1.bad)∧True
def yPq (i:RB):Prop:=
 ∃(i_1:RN),(↑i_1.n:Int)=8∧AObj.adt (List UInt8×Bool) 1 RdU (i_1.l,i_1.b)=Rd i.l i.b∧(i_1.n≤8∧i_1.l.length≤1099511627776)∧∀(o:Unit),True→∃(o:Unit),IntKind.i64.wrap (qV (i.n 8).got)=IntKind.i64.wrap (qV i_1.got)∧AObj.adt (List UInt8×Bool) 1 RdU ((i.n 8).left,(i.n 8).bad)=AObj.adt (List UInt8×Bool) 1 RdU (i_1.left,i_1.bad)∧True
def yTp (i:RB):Prop:=
 cnd i.b (∃(o:Unit),(if i.b=true then(10:Int)else if 0<i.l.length then(15:Int)else(0:Int))=10∧bE i.l=bE i.l∧i.b=i.b∧True) (cnd (decide ((↑(bE i.l).length:Int)>0)) (∃(o:Unit),(if i.b=true then(10:Int)else if 0<i.l.length then(15:Int)else(0:Int))=15∧bE i.l=bE i.l∧i.b=i.b∧True) (∃(o:Unit),(if i.b=true then(10:Int)else if 0<i.l.length then(15:Int)else(0:Int))=0∧bE i.l=bE i.l∧i.b=i.b∧True))
set_option linter.unusedSimpArgs false
open Go Cv Go.Proofs
theorem yLy (k:Nat):∀n:Int,le (n % 256 ^ k) k=le n k:=by
 induction k with
 |zero=>intro n;rfl
 |succ k ih=>
  intro n
  have hp:(0:Int)<256 ^ k:=Int.pow_pos (by omega)
  have h1:lob (n % 256 ^ (k+1))=lob n:=by
   unfold lob
   rw[Int.pow_succ,y0s,Int.emod_emod_of_dvd n ⟨256 ^ k,rfl⟩]
  have h2:n % 256 ^ (k+1) / 256=n / 256 % 256 ^ k:=by
   have e:n=256*(n / 256)+n % 256:=(Int.mul_ediv_add_emod n 256).symm
   have e2:n / 256=256 ^ k*(n / 256 / 256 ^ k)+n / 256 % 256 ^ k:=(Int.mul_ediv_add_emod _ _).symm
   have hr:=Int.emod_nonneg (n / 256) (show(256:Int) ^ k≠0 by omega)
   have hr2:=Int.emod_lt_of_pos (n / 256) hp
   have e3:n % 256 ^ (k+1)=256*(n / 256 % 256 ^ k)+n % 256:=by
    have:n=256 ^ (k+1)*(n / 256 / 256 ^ k)+(256*(n / 256 % 256 ^ k)+n % 256):=by
     rw[Int.pow_succ,y0s (256 ^ k) 256,Int.mul_assoc,← Int.add_assoc,← Int.mul_add,← e2]
     exact e
    conv=>lhs;rw[this]
    rw[Int.add_comm,Int.add_mul_emod_self_left,Int.emod_eq_of_lt]
    ·omega
    ·rw[Int.pow_succ];omega
   rw[e3]
   omega
  rw[le,le,h1,h2,ih]
theorem z8a (n:Int):le (IntKind.u64.wrap n) 8=le n 8:=yLy 8 n
theorem z7r (n:Int):0≤IntKind.u64.wrap n∧IntKind.u64.wrap n<18446744073709551616:=by
 have:IntKind.u64.wrap n=n % 18446744073709551616:=rfl
 rw[this];omega
theorem z0f:cloneBO.ok Tryz.prog 127:=z6c gok0 fun i h=>fun b hb=>
 Cv.cnd.mk (fun e=>⟨(),rfl,hb e,trivial⟩) (fun _=>⟨by rw[yXq];exact h,(),rfl,rfl,trivial⟩)
theorem zYz:cloneBR.ok Tryz.prog 127:=z6p gok0 fun i h=>fun b hb=>
 Cv.cnd.mk (fun e=>⟨(),hb e,trivial⟩) (fun _=>⟨by rw[yXq];exact h,(),rfl,trivial⟩)
theorem yUk:doneC.ok Tryz.prog 81:=okw (V:=yTz) mixed (gokc z0f gok0) 0 (fun _=>[]) (fun _=>[]) [0] Tryz.func81 fun(i:List UInt8) h=>by
 have h:i.length≤1099511627776:=h
 exact⟨_,rfl,by rw[u0];omega,fun _ _=>⟨(),rfl,rfl,trivial⟩⟩
theorem yIv:newRC.ok Tryz.prog 82:=okw (V:=ySd) mixed (gokc zYz gok0) 0 (fun _=>[]) (fun _=>[]) [] Tryz.func82 fun(i:List UInt8) h=>by
 have h:i.length≤1099511627776:=h
 exact⟨_,rfl,by rw[u0];omega,fun _ _=>⟨(),rfl,rfl,trivial⟩⟩
theorem z6u {l:List UInt8} {i:Nat} {b:UInt8} (h:l[i]? =some b):zF (bE l) i 0 1=some [.v (.int .u8 b.toNat)]:=by
 unfold zF bE
 rw[yYj,h];rfl
theorem yRl (b:UInt8):IntKind.u64.wrap (b.toNat:Int)=b.toNat:=zAc (by have:=b.toNat_lt;omega)
theorem z4t:takeC.ok Tryz.prog 168:=okw (V:=yTv) mixed gok0 0 (fun _=>[]) (fun _=>[]) [0] Tryz.func168 fun(i:RN) h=>by
 obtain⟨h1,h2⟩:=h
 refine Cv.cnd.mk (fun e=> ?_) (fun e=>zJ (fun hlt=> ?_) (fun hlt=> ?_))
 ·have:i.bad=true:=by simp[RN.bad,e]
  exact⟨(),by simp[RN.got,this],by simp[RN.left,this],this,trivial⟩
 ·rw[u0]at hlt
  have:i.bad=true:=by simp[RN.bad];right;omega
  exact⟨(),by simp[RN.got,this],by simp[RN.left,this],by rw[this,u0];simp;omega,trivial⟩
 ·rw[u0]at hlt
  have:i.bad=false:=by simp[RN.bad,e];omega
  rw[u0]
  exact⟨⟨by omega,by omega⟩,⟨by omega,by omega⟩,(),by simp[RN.got,this,yJk],by simp[RN.left,this,yHe],by rw[this];simp;omega,trivial⟩
theorem pF:∀l:List UInt8,0≤qV l∧qV l<256 ^ l.length
 |[]=>by simp[qV]
 |b::l=>by
  obtain⟨h1,h2⟩:=pF l
  have:=b.toNat_lt
  simp only[qV,yXa,Int.pow_succ]
  omega
theorem zPj (b:UInt8):∀l:List UInt8,qV (l++[b])=qV l+b.toNat*256 ^ l.length
 |[]=>by simp[qV]
 |c::l=>by
  simp only[yXx,qV,zPj b l,yXa,Int.pow_succ,Int.mul_add]
  rw[y0s (256 ^ l.length) 256,← Int.mul_assoc,← Int.mul_assoc,y0s 256 (b.toNat:Int)]
  omega
theorem yAv {x b j:Nat} (hx:x<256 ^ j) (hb:b<256) (hj:j<8):iOr .u64 x (zUs .u64 b ((8*j:Nat):Int))=((x+b*256 ^ j:Nat):Int):=by
 have hp:256 ^ j=2 ^ (8*j):=by rw[Nat.pow_mul]
 have hle:256 ^ (j+1)≤256 ^ 8:=Nat.pow_le_pow_right (by omega) (by omega)
 have hbig:x+b*256 ^ j<256 ^ (j+1):=by
  rw[Nat.pow_succ]
  have:b*256 ^ j≤255*256 ^ j:=yYp _ (by omega)
  omega
 have h8:(256:Nat) ^ 8=18446744073709551616:=by decide
 rw[← yKh,← yOs]
 have e1:yQw .u64 (b:Int) ((8*j:Nat):Int)=((b*256 ^ j:Nat):Int):=by
  show wr .u64 (Int.ofNat (b*2 ^ (Nat.min (8*j) 64)))=_
  rw[show Nat.min (8*j) 64=8*j from y1h (by omega),← hp,z1y]
  exact zAc (by show(0:Int)≤((b*256 ^ j:Nat):Int)∧((b*256 ^ j:Nat):Int)<_;omega)
 rw[e1]
 show wr .u64 (Int.ofNat (Nat.lor (x % 18446744073709551616) ((b*256 ^ j) % 18446744073709551616)))=_
 rw[Nat.mod_eq_of_lt (by omega),Nat.mod_eq_of_lt (by omega)]
 have e2:Nat.lor x (b*256 ^ j)=x+b*256 ^ j:=by
  show x|||(b*256 ^ j)=_
  rw[hp]at hx ⊢
  rw[Nat.or_comm,← Nat.shiftLeft_eq,← Nat.shiftLeft_add_eq_or_of_lt hx,y2e]
 rw[e2,z1y]
 exact zAc (by show(0:Int)≤((x+b*256 ^ j:Nat):Int)∧((x+b*256 ^ j:Nat):Int)<_;omega)
theorem zHu (i:RN):i.got.length≤i.n:=by
 unfold RN.got;split
 ·simp
 ·rw[yXi];omega
theorem ySr (i:RN) (h:getC.cnd i):ySa i:=by
 unfold ySa
 obtain⟨h1,h2⟩:=h
 refine⟨i,rfl,rfl,⟨by omega,h2⟩,fun _ _=>⟨0,rfl,rfl,fun j=>j≤i.got.length,fun j=>i.got.length-j,by dsimp only;omega,fun j hj=>zJ (fun hlt=> ?_) (fun hlt=> ?_)⟩⟩
 ·dsimp only at hj
  have hl:=zHu i
  rw[u0]at hlt ⊢
  obtain⟨b,hb⟩:∃b,i.got[j]? =some b:=⟨_,yXw (by omega)⟩
  have e8:IntKind.i64.wrap (8*(j:Int))=8*j:=w64 (by omega)
  refine⟨⟨by omega,by omega⟩,b.toNat,z6u hb,by rw[e8];omega,j+1,?_,?_,by dsimp only;omega,by dsimp only;omega,rfl⟩
  ·rw[e8,yRl,yYm,hb]
   simp only[y0z]
   rw[zPj]
   obtain⟨r1,r2⟩:=pF (i.got.take j)
   rw[yXi,y1h (by omega)]at r2 ⊢
   obtain⟨x,hx⟩:∃x:Nat,qV (i.got.take j)=x:=⟨(qV (i.got.take j)).toNat,by omega⟩
   rw[hx]at r2 ⊢
   have:=yAv (x:=x) (b:=b.toNat) (j:=j) (by exact_mod_cast r2) b.toNat_lt (by omega)
   rw[show(8*(j:Int))=((8*j:Nat):Int)by simp,this]
   simp
  ·rw[w64 (by omega)];rfl
 ·dsimp only at hj
  rw[u0]at hlt
  exact⟨(),by rw[yXg (by omega)],rfl,trivial⟩
theorem z9d:getC.ok Tryz.prog 128:=okw mixed (gokc z4t gok0) 0 (fun _=>[]) (fun i=>yWc i) [] Tryz.func128 ySr
theorem zWc:rbyteC.ok Tryz.prog 84:=okw (V:=yMx) mixed (gokc z9d gok0) 0 (fun _=>[]) (fun _=>[]) [] Tryz.func84 fun(i:RB) h=>by
 have hl:=zHu (i.n 1)
 have hr:=pF (i.n 1).got
 have h0:(256:Int) ^ (i.n 1).got.length≤256 ^ 1:=by
  have:(256:Nat) ^ (i.n 1).got.length≤256 ^ 1:=Nat.pow_le_pow_right (by omega) hl
  exact_mod_cast this
 exact⟨i.n 1,rfl,rfl,⟨by show 1≤8;omega,h⟩,fun _ _=>⟨(),(w64 (by omega)).symm,rfl,trivial⟩⟩
theorem yEn:rlongC.ok Tryz.prog 83:=okw (V:=yPq) mixed (gokc z9d gok0) 0 (fun _=>[]) (fun _=>[]) [] Tryz.func83 fun(i:RB) h=>by
 exact⟨i.n 8,rfl,rfl,⟨by show 8≤8;omega,h⟩,fun _ _=>⟨(),rfl,rfl,trivial⟩⟩
theorem yGd:rendC.ok Tryz.prog 85:=okw (V:=yTp) mixed gok0 0 (fun _=>[]) (fun _=>[]) [0] Tryz.func85 fun(i:RB) h=>by
 refine Cv.cnd.mk (fun e=>⟨(),by rw[yWm e],rfl,rfl,trivial⟩) (fun e=>zJ (fun hlt=>⟨(),?_,rfl,rfl,trivial⟩) (fun hlt=>⟨(),?_,rfl,rfl,trivial⟩))
 ·rw[u0]at hlt;rw[yWl (by simp[e]),yWm (by omega)]
 ·rw[u0]at hlt;rw[yWl (by simp[e]),yWl (by omega)]
open Go Cv Go.Proofs
open Classical
open Go Cv Go.Proofs
open Go Cv Go.Proofs
open Classical
theorem getD {α:Type} {l:List α} {i:Nat} (h:i<l.length):∃x,l[i]? =some x:=⟨_,yXw h⟩
open Go Cv Go.Proofs
open Classical
open Go Cv Go.Proofs
open Classical
def RB.byte (r:RB):Int×RB:=(qV (r.n 1).got,⟨(r.n 1).left,(r.n 1).bad⟩)
def RB.long (r:RB):Int×RB:=(IntKind.i64.wrap (qV (r.n 8).got),⟨(r.n 8).left,(r.n 8).bad⟩)
def RB.endOf (r:RB):Int:=if r.b then 10 else if 0<r.l.length then 15 else 0
@[reducible] def RdB (r:RB):AObj:=Rd r.l r.b
@[reducible] def RB.ok (i:RB):Prop:=i.l.length≤1099511627776
open Go Cv Go.Proofs
open Go Cv Go.Proofs
open Classical
theorem rV (i:RN):i.left.length≤i.l.length:=by
 unfold RN.left;split
 ·omega
 ·rw[yXp];omega
theorem aI {r:RB} (h:r.ok):r.byte.2.ok:=yYw (rV _) h
theorem gF {r:RB} (h:r.ok):r.long.2.ok:=yYw (rV _) h
theorem z5x (l:List UInt8):bE l=jR ⟨l.toArray⟩:=rfl
open Go Cv Go.Proofs
open Classical
def fbyteC:Con:=con1 WN (fun i=>[roV 1 (bE i.l),zA i.n]) (fun _=>[]) WN.ok (fun _=> .own 0) (fun i=>[.own tU8 1 (bE (i.l++[lob i.n]))])
def flongC:Con:=con1 WN (fun i=>[roV 1 (bE i.l),zA i.n]) (fun _=>[]) WN.ok (fun _=> .own 0) (fun i=>[.own tU8 1 (bE (i.l++le i.n 8))])
def yNn (i:WN):List SAnn:=[{ι:=Nat,slots:=fun j=>[(5,.own 0),(6,rF ((8*j:Nat):Int))],rows:=fun j=>[.own tU8 1 (bE (i.l++le i.n j))]}]
open Go Cv Go.Proofs
def yMf (i:WN):Prop:=
 (0+(bE i.l).length)*(1:Nat)≤(70368744177664:Nat)∧(([]++bE i.l).length+1)*(1:Nat)≤(70368744177664:Nat)∧∃(o:Unit),bE (i.l++[lob i.n])=[]++bE i.l++[[D.v (.int .u8 (IntKind.u8.wrap i.n))]]∧True
def yOq (i:WN):Prop:=
 (0+(bE i.l).length)*(1:Nat)≤(70368744177664:Nat)∧∃(i0:Nat),(↑(8*i0):Int)=0∧bE (i.l++le i.n i0)=[]++bE i.l∧∃(I:Nat→Prop),∃(μ:Nat→Nat),I i0∧∀(i_1:Nat),I i_1→cnd (decide ((↑(8*i_1):Int)<64)) (0≤(↑(8*i_1):Int)∧((bE (i.l++le i.n i_1)).length+1)*(1:Nat)≤(70368744177664:Nat)∧∃(i':Nat),(↑(8*i'):Int)=IntKind.u64.wrap ((↑(8*i_1):Int)+8)∧bE (i.l++le i.n i')=bE (i.l++le i.n i_1)++[[D.v (.int .u8 (IntKind.u8.wrap (pQ IntKind.u64 (IntKind.u64.wrap i.n) (↑(8*i_1):Int))))]]∧I i'∧μ i'<μ i_1∧True) (∃(o:Unit),bE (i.l++le i.n 8)=bE (i.l++le i.n i_1)∧True)
open Go Cv Go.Proofs
open Classical
theorem zSi:∀(k m:Nat) (n:Int),k≤m→(le n m).take k=le n k
 |0,m,n,h=>by simp[le]
 |k+1,m+1,n,h=>by simp only[le,yYb];rw[zSi k m _ (by omega)]
theorem z3k {k:Nat} (h:k≤8) (n:Int):le (IntKind.u64.wrap n) k=le n k:=by
 rw[← zSi k 8 _ h,z8a,zSi k 8 _ h]
theorem zTj:fbyteC.ok Tryz.prog 47:=okw (V:=yMf) mixed gok0 0 (fun _=>[]) (fun _=>[]) [] Tryz.func47 fun(i:WN) h=>by
 have h:i.l.length+8≤1099511627776:=h
 refine⟨by rw[u0];omega,by rw[yYu,u0];omega,(),?_,trivial⟩
 rw[zYj,zSk];rfl
theorem yCg:flongC.ok Tryz.prog 46:=okw (V:=yOq) mixed gok0 0 (fun _=>[]) (fun i=>yNn i) [] Tryz.func46 fun(i:WN) h=>by
 have h:i.l.length+8≤1099511627776:=h
 refine⟨by rw[u0];omega,0,rfl,by simp[le],fun j=>j≤8,fun j=>8-j,by decide,fun j hj=>zJ (fun hlt=> ?_) (fun hlt=> ?_)⟩
 ·dsimp only at hj
  have hu:=z7r i.n
  refine⟨by omega,?_,j+1,?_,?_,by(first|omega|(dsimp only;omega)),by(first|omega|(dsimp only;omega)),trivial⟩
  ·rw[u0,yWs,vZ];omega
  ·rw[zAc (by omega)];omega
  ·rw[zSk,zBv .u64 _ (8*j) (by show 8*j≤64;omega),show(2:Int) ^ (8*j)=256 ^ j by rw[show(256:Int)=2 ^ 8 from rfl,← Int.pow_mul],← z3k (k:=j+1) (by omega) i.n,le_succ,z3k (by omega),← yWx,zYj]
   rfl
 ·dsimp only at hj
  obtain rfl:j=8:=by omega
  exact⟨(),rfl,trivial⟩
open Go Cv Go.Proofs
def sb (l:List UInt8):ByteArray:=⟨l.toArray⟩
@[reducible] def sV (l:List UInt8):V:= .d (.v (.string (sb l)))
def zIn (l:List UInt8):Nat×Nat:=Utf8.decode (sb l) 0
def tP:Nat→Nat→List UInt8→List (Nat×Nat)
 |0,_,_=>[]
 |k+1,p,l=>match l with
  |[]=>[]
  |_=>(p,(zIn l).1)::tP k (p+(zIn l).2) (l.drop (zIn l).2)
def uV (s:List UInt8) (p:Nat):List (Nat×Nat):=tP (s.length-p) p (s.drop p)
def kL (s:List UInt8):List Nat:=(uV s 0).map (·.2)
def countC:Con:=con1 (List UInt8) (fun s=>[sV s]) (fun _=>[]) (fun s=>s.length≤1099511627776) (fun s=>zA (kL s).length) (fun _=>[])
def yMu (s:List UInt8):List SAnn:=[{ι:=Nat×Nat,slots:=fun x=>[(3,zA x.2),(5,.nm 0 0)],rows:=fun x=>[.iter (sb s) x.1]}]
def hY (r:Nat):Bool:=(decide (65≤r) && decide (r≤90))||(decide (913≤r) && decide (r≤937) && decide (r≠930))
def wB (s:List UInt8):Bool:=(kL s).all hY && decide (s≠[]) && decide ((kL s).length≤4)
def symC:Con:=con1 (List UInt8) (fun s=>[sV s]) (fun _=>[]) (fun s=>s.length≤1099511627776) (fun s=>yL (wB s)) (fun _=>[])
def yWg (s:List UInt8):List SAnn:=[{ι:=Nat,slots:=fun x=>[(7,.nm 0 0)],rows:=fun x=>[.iter (sb s) x]}]
def iE (l:List Int):List (List D):=l.map fun n=>[.v (.int .i64 n)]
@[reducible] def iV (l:List Int):V:=roV 1 (iE l)
structure Prd where
 code:List UInt8
 months:List Int
 tick:Int
 low:Int
 high:Int
 wide:Int
 rule:Int
 top:Int
 least:Int
 part:Int
 settle:List Int
 deriving DecidableEq
@[reducible] def Prd.cells (p:Prd):List V:=[sV p.code,iV p.months,zA p.tick,zA p.low,zA p.high,zA p.wide,zA p.rule,zA p.top,zA p.least,zA p.part,iV p.settle]
@[reducible] def prdV (p:Prd):V:= .agg p.cells
@[reducible] def Prd.small (p:Prd):Prop:=p.code.length≤1099511627776∧p.months.length≤1099511627776∧p.settle.length≤1099511627776
def qR (l:List Int) (k:Nat):Bool:=decide (0≤l.getD k 0) && decide (l.getD k 0≤1199) && (decide (k=0)||decide (l.getD (k-1) 0<l.getD k 0))
def xI (l:List Int):Bool:=(List.range l.length).all (qR l) && decide (2≤l.length) && decide (l.length≤6)
def monthsC:Con:=con1 (List Int) (fun l=>[iV l]) (fun _=>[]) (fun l=>l.length≤1099511627776) (fun l=>yL (xI l)) (fun _=>[])
def yKd:List SAnn:=[{ι:=Nat,slots:=fun j=>[(7,zA j)],rows:=fun _=>[]}]
def p8 (l:List Int):Int:=l.tail.foldl min (l.headD 0)
def rH (l:List Int):Int:=l.tail.foldl max (l.headD 0)
def minC:Con:=con1 (List Int) (fun l=>[iV l]) (fun _=>[]) (fun l=>0<l.length∧l.length≤1099511627776) (fun l=>zA (p8 l)) (fun _=>[])
def maxC:Con:=con1 (List Int) (fun l=>[iV l]) (fun _=>[]) (fun l=>0<l.length∧l.length≤1099511627776) (fun l=>zA (rH l)) (fun _=>[])
def yVo (l:List Int):List SAnn:=[{ι:=Nat,slots:=fun j=>[(3,zA (p8 (l.take j))),(4,zA j)],rows:=fun _=>[]}]
def yUm (l:List Int):List SAnn:=[{ι:=Nat,slots:=fun j=>[(3,zA (rH (l.take j))),(4,zA j)],rows:=fun _=>[]}]
open Go Cv Go.Proofs
def dH (a:Nat×Nat) (b:List UInt8) (c:Nat×Nat→Prop) (d:Nat×Nat→Nat):Prop:=∃(e:Nat×Nat),(↑e.snd:Int)=IntKind.i64.wrap ((↑a.snd:Int)+1)∧sb b=sb b∧e.fst=a.fst+(Utf8.decode (sb b) a.fst).snd∧c e∧d e<d a∧True
def yDr (s:List UInt8):Prop:=
 ∃(a:Nat×Nat),(↑a.snd:Int)=0∧sb s=sb s∧a.fst=0∧∃(b:Nat×Nat→Prop),∃(c:Nat×Nat→Nat),b a∧∀(d:Nat×Nat),b d→cnd (d.fst.blt (sb s).size) (dH d s b c) (∃(e:Unit),(↑(kL s).length:Int)=(↑d.snd:Int)∧True)
def zBc (a:List UInt8) (b:Nat) (c:Nat→Prop) (d:Nat→Nat):Prop:=∃(e:Nat),sb a=sb a∧e=b+(Utf8.decode (sb a) b).snd∧c e∧d e<d b∧True
def fM (a:List UInt8) (b:Nat):=(↑(Utf8.decode (sb a) b).fst:Int)
def yTq (s:List UInt8):Prop:=
 ∃(a:Nat),sb s=sb s∧a=0∧∃(b:Nat→Prop),∃(c:Nat→Nat),b a∧∀(d:Nat),b d→cnd (d.blt (sb s).size) (cnd (decide ((fM s d)≥65)) (cnd (decide ((fM s d)≤90)) (zBc s d b c) (cnd (decide ((fM s d)≥913)) (cnd (decide ((fM s d)≤937)) (cnd (!(fM s d) !=930) (∃(e:Unit),wB s=false∧True) (zBc s d b c)) (∃(e:Unit),wB s=false∧True)) (∃(e:Unit),wB s=false∧True))) (cnd (decide ((fM s d)≥913)) (cnd (decide ((fM s d)≤937)) (cnd (!(fM s d) !=930) (∃(e:Unit),wB s=false∧True) (zBc s d b c)) (∃(e:Unit),wB s=false∧True)) (∃(e:Unit),wB s=false∧True))) (cnd (!(sb s).toList==(ByteArray.mk #[]).toList) (∃(e:List UInt8),sb e=sb s∧e.length≤1099511627776∧∀(f:Unit),True→∃(g:Unit),wB s=decide ((↑(kL e).length:Int)≤4)∧True) (∃(e:Unit),wB s=false∧True))
def vQ (a:Nat) (b:Nat) (c:Nat→Prop) (d:Nat→Nat):Prop:=(↑a:Int)=IntKind.i64.wrap ((↑b:Int)+1)∧c a∧d a<d b∧True
def cB (a:Nat) (b:Nat→Prop) (c:Nat→Nat):Prop:=∃(d:Nat),vQ d a b c
def z3x (l:List Int):Prop:=
 ∃(a:Nat),(↑a:Int)=0∧∃(b:Nat→Prop),∃(c:Nat→Nat),b a∧∀(d:Nat),b d→cnd (decide ((↑d:Int)<(↑(iE l).length:Int))) ((0≤(↑d:Int)∧(↑d:Int)<(↑(iE l).length:Int))∧∃(e:Int),zF (iE l) (↑d:Int).toNat 0 1=some [dI e]∧cnd (decide (e<0)) (∃(f:Unit),xI l=false∧True) (cnd (decide (e>1199)) (∃(f:Unit),xI l=false∧True) (cnd (decide ((↑d:Int)>0)) ((0≤IntKind.i64.wrap ((↑d:Int)-1)∧IntKind.i64.wrap ((↑d:Int)-1)<(↑(iE l).length:Int))∧∃(f:Int),zF (iE l) (IntKind.i64.wrap ((↑d:Int)-1)).toNat 0 1=some [dI f]∧cnd (decide (f≥e)) (∃(g:Unit),xI l=false∧True) (cB d b c)) (cB d b c)))) (cnd (decide ((↑(iE l).length:Int)≥2)) (∃(e:Unit),xI l=decide ((↑(iE l).length:Int)≤6)∧True) (∃(e:Unit),xI l=false∧True))
def yUf (l:List Int):Prop:=
 cnd (decide ((↑(iE l).length:Int)<1)) False (((0:Int)≤(0:Int)∧0<(↑(iE l).length:Int))∧∃(a:Int),zF (iE l) (Int.toNat 0) 0 1=some [dI a]∧∃(b:Nat),p8 (List.take b l)=a∧(↑b:Int)=1∧∃(c:Nat→Prop),∃(d:Nat→Nat),c b∧∀(e:Nat),c e→cnd (decide ((↑e:Int)<(↑(iE l).length:Int))) ((0≤(↑e:Int)∧(↑e:Int)<(↑(iE l).length:Int))∧∃(f:Int),zF (iE l) (↑e:Int).toNat 0 1=some [dI f]∧∃(g:Nat),p8 (List.take g l)=min (p8 (List.take e l)) f∧vQ g e c d) (∃(f:Unit),p8 l=p8 (List.take e l)∧True))
def ySi (l:List Int):Prop:=
 cnd (decide ((↑(iE l).length:Int)<1)) False (((0:Int)≤(0:Int)∧0<(↑(iE l).length:Int))∧∃(a:Int),zF (iE l) (Int.toNat 0) 0 1=some [dI a]∧∃(b:Nat),rH (List.take b l)=a∧(↑b:Int)=1∧∃(c:Nat→Prop),∃(d:Nat→Nat),c b∧∀(e:Nat),c e→cnd (decide ((↑e:Int)<(↑(iE l).length:Int))) ((0≤(↑e:Int)∧(↑e:Int)<(↑(iE l).length:Int))∧∃(f:Int),zF (iE l) (↑e:Int).toNat 0 1=some [dI f]∧∃(g:Nat),(rH (List.take g l)=if f>rH (List.take e l)then f else rH (List.take e l))∧vQ g e c d) (∃(f:Unit),rH l=rH (List.take e l)∧True))
open Go Cv Go.Proofs
@[simp] theorem zHy (s:List UInt8):(sb s).size=s.length:=by simp[sb,ByteArray.size]
theorem mQ (s:List UInt8):(sb s).toList=s:=by rw[ByteArray.toList_eq];rfl
theorem yOk (s:List UInt8) (p k:Nat):(sb s).get! (p+k)=(sb (s.drop p)).get! (0+k):=by
 simp only[sb,ByteArray.get!,yXq]
 simp only[List.getElem!_toArray,List.getElem!_eq_getElem?_getD,yZk]
theorem zHa (s:List UInt8) (p:Nat):Utf8.decode (sb s) p=zIn (s.drop p):=by
 have h (k:Nat):(decide (p+k<(sb s).size))=decide (0+k<(sb (s.drop p)).size):=by
  simp only[zHy,yXp]
  by_cases h:p+k<s.length
  ·rw[yXf h,yXf (by omega)]
  ·rw[yWy h,yWy (by omega)]
 unfold zIn Utf8.decode
 simp only[yOk s p,h]
theorem cC (s:List UInt8) {p:Nat} (h:p<s.length):1≤(Utf8.decode (sb s) p).2∧p+(Utf8.decode (sb s) p).2≤s.length:=by
 unfold Utf8.decode
 simp only[zHy,yWz,yXy]
 split
 ·exact⟨by simp,by simp;omega⟩
 split
 ·rename_i h1
  split
  ·exact⟨by simp,by simp;omega⟩
  ·exact⟨by simp,by simp;omega⟩
 split
 ·rename_i h1
  split
  ·exact⟨by simp,by simp;omega⟩
  ·exact⟨by simp,by simp;omega⟩
 split
 ·rename_i h1
  split
  ·exact⟨by simp,by simp;omega⟩
  ·exact⟨by simp,by simp;omega⟩
 ·exact⟨by simp,by simp;omega⟩
theorem yQz {l:List UInt8} (h:l≠[]):1≤(zIn l).2∧(zIn l).2≤l.length:=by
 have:=cC l (p:=0) (by cases l<;>simp_all)
 rw[zIn];omega
theorem m9:∀(k:Nat) (p:Nat) (l:List UInt8),l.length≤k→tP k p l=tP l.length p l
 |0,p,l,h=>by
  have:l=[]:=yXr (by omega)
  subst this;rfl
 |k+1,p,[],h=>rfl
 |k+1,p,b::l,h=>by
  have hw:=yQz (l:=b::l) (by simp)
  have hl:((b::l).drop (zIn (b::l)).2).length≤l.length:=by rw[yXp,yXa];omega
  rw[yXa]
  simp only[tP]
  rw[m9 k _ _ (by rw[yXa]at h;omega),m9 l.length _ _ hl]
theorem vO {s:List UInt8} {p:Nat} (h:s.length≤p):uV s p=[]:=by
 rw[uV,show s.length-p=0 by omega];rfl
theorem jD {s:List UInt8} {p:Nat} (h:p<s.length):uV s p=(p,(Utf8.decode (sb s) p).1)::uV s (p+(Utf8.decode (sb s) p).2):=by
 obtain⟨k,hk⟩:∃k,s.length-p=k+1:=⟨s.length-p-1,by omega⟩
 have hw:=cC s h
 obtain⟨b,l,hb⟩:∃b l,s.drop p=b::l:=by
  cases hd:s.drop p with
  |nil=>rw[List.drop_eq_nil_iff]at hd;omega
  |cons b l=>exact⟨b,l,rfl⟩
 have hlen:(b::l).length=s.length-p:=by rw[← hb,yXp]
 rw[uV,hk,hb,zHa,hb,uV]
 rw[zHa,hb]at hw
 simp only[tP]
 have e:(b::l).drop (zIn (b::l)).2=s.drop (p+(zIn (b::l)).2):=by rw[← hb,yZx]
 rw[e,m9 k _ _ (by rw[yXp];omega),yXp]
theorem zKx (s:List UInt8):∀(k p:Nat),s.length-p≤k→(uV s p).length≤s.length-p
 |0,p,h=>by rw[vO (by omega)];simp
 |k+1,p,h=>by
  by_cases hp:p<s.length
  ·have hw:=cC s hp
   rw[jD hp,yXa]
   have:=zKx s k (p+(Utf8.decode (sb s) p).2) (by omega)
   omega
  ·rw[vO (by omega)];simp
theorem zEc (s:List UInt8):(kL s).length≤s.length:=by
 rw[kL,yWo]
 have:=zKx s s.length 0 (by omega)
 omega
theorem z1i {a b:Nat} (h:Nat.blt a b=false):b≤a:=by
 rcases yZa a b with h1|h1
 ·rw[show Nat.blt a b=true by rw[yZl];exact h1]at h;cases h
 ·exact h1
theorem yBn:(ByteArray.mk #[]).toList=[]:=mQ []
theorem yNq (s:List UInt8) (h:countC.cnd s):yDr s:=by
 have h:s.length≤1099511627776:=h
 have hr:=zEc s
 unfold yDr dH
 refine⟨(0,0),rfl,rfl,rfl,fun x=>x.1≤s.length∧x.2+(uV s x.1).length=(kL s).length,fun x=>s.length-x.1,⟨by omega,by rw[kL,yWo];simp⟩,?_⟩
 rintro⟨p,n⟩ ⟨h1,h2⟩
 dsimp only at h1 h2 ⊢
 refine Cv.cnd.mk (fun hp=> ?_) (fun hp=> ?_)
 ·have hp:p<s.length:=by simpa[yZl]using hp
  have hw:=cC s hp
  rw[jD hp,yXa]at h2
  refine⟨(p+(Utf8.decode (sb s) p).2,n+1),?_,rfl,rfl,⟨hw.2,by(first|omega|(dsimp only;omega))⟩,by(first|omega|(dsimp only;omega)),trivial⟩
  rw[w64 (by omega)];rfl
 ·have hp:s.length≤p:=by have:=z1i hp;simpa using this
  rw[vO hp]at h2
  exact⟨(),by rw[← h2];rfl,trivial⟩
theorem z8n:countC.ok Tryz.prog 197:=okw mixed gok0 0 (fun _=>[]) (fun s=>yMu s) [] Tryz.func197 yNq
theorem yVf (s:List UInt8) (h:symC.cnd s):yTq s:=by
 have h:s.length≤1099511627776:=h
 unfold yTq fM zBc
 refine⟨0,rfl,rfl,fun p=>p≤s.length∧(kL s).all hY=(uV s p).all fun x=>hY x.2,fun p=>s.length-p,⟨by omega,by rw[kL,List.all_map];rfl⟩,?_⟩
 rintro p ⟨h1,h2⟩
 refine Cv.cnd.mk (fun hp=> ?_) (fun hp=> ?_)
 ·have hp:p<s.length:=by simpa[yZl]using hp
  have hw:=cC s hp
  rw[jD hp,List.all_cons]at h2
  generalize hc:(Utf8.decode (sb s) p).1=c at h2 ⊢
  generalize hww:(Utf8.decode (sb s) p).2=w at h2 hw ⊢
  dsimp only at h2
  have bad:hY c=false→∃(o:Unit),wB s=false∧True:=fun e=>⟨(),by rw[wB,h2,e];rfl,trivial⟩
  have good:hY c=true→∃i':Nat,sb s=sb s∧i'=p+w∧(i'≤s.length∧(kL s).all hY=(uV s i').all fun x=>hY x.2)∧s.length-i'<s.length-p∧True:=fun e=>⟨p+w,rfl,rfl,⟨hw.2,by rw[h2,e];rfl⟩,by omega,trivial⟩
  refine zJ (fun c1=>zJ (fun c2=> ?_) (fun c2=>zJ (fun c3=>zJ (fun c4=>Cv.cnd.mk (fun c5=> ?_) (fun c5=> ?_)) (fun c4=> ?_)) (fun c3=> ?_))) (fun c1=>zJ (fun c3=>zJ (fun c4=>Cv.cnd.mk (fun c5=> ?_) (fun c5=> ?_)) (fun c4=> ?_)) (fun c3=> ?_))
  all_goals first|(refine good ?_;simp[hY]at*;omega)|(refine bad ?_;simp[hY]at*;omega)
 ·have hp:s.length≤p:=by have:=z1i hp;simpa using this
  rw[vO hp]at h2
  have h2:(kL s).all hY=true:=h2
  refine Cv.cnd.mk (fun e=>⟨s,rfl,h,fun _ _=>⟨(),?_,trivial⟩⟩) (fun e=>⟨(),?_,trivial⟩)
  ·rw[mQ,yBn]at e
   have:s≠[]:=by simpa using e
   rw[wB,h2,yXf this]
   simp only[yZd]
   congr 1
   simp only[eq_iff_iff];omega
  ·have:s=[]:=by
    rw[mQ,yBn]at e
    simpa using e
   rw[wB,this];rfl
theorem yQn:symC.ok Tryz.prog 158:=okw mixed (gokc z8n gok0) 0 (fun _=>[]) (fun s=>yWg s) [] Tryz.func158 yVf
@[simp] theorem y5 (l:List Int):(iE l).length=l.length:=by simp[iE]
theorem elI {l:List Int} {k:Nat} {n:Int} (h:l[k]? =some n):zF (iE l) k 0 1=some [D.v (.int .i64 n)]:=by
 simp[zF,iE,h];rfl
theorem yA {α:Type} {l:List α} {i:Nat} (h:i<l.length):∃x,l[i]? =some x:=⟨l[i],yXw h⟩
theorem zOn {n k:Nat} {f:Nat→Bool} (hk:k<n) (h:f k=false):(List.range n).all f=false:=by
 cases hh:(List.range n).all f
 ·rfl
 ·rw[yZn]at hh
  rw[hh k (by simpa using hk)]at h;cases h
theorem zWh {n:Nat} {f:Nat→Bool} (h:∀k<n,f k=true):(List.range n).all f=true:=by
 rw[yZn];intro k hk;exact h k (by simpa using hk)
theorem yHy (l:List Int) (h:monthsC.cnd l):z3x l:=by
 have h:l.length≤1099511627776:=h
 unfold z3x cB vQ dI
 simp only[y5]
 refine⟨0,rfl,fun j=>j≤l.length∧∀k<j,qR l k=true,fun j=>l.length-j,⟨by omega,fun k hk=>by omega⟩,?_⟩
 rintro j ⟨h1,h2⟩
 have bad:j<l.length→qR l j=false→∃(o:Unit),xI l=false∧True:=fun hj e=>⟨(),by rw[xI,zOn hj e];rfl,trivial⟩
 have good:j<l.length→qR l j=true→∃i':Nat,(i':Int)=IntKind.i64.wrap ((j:Int)+1)∧(i'≤l.length∧∀k<i',qR l k=true)∧l.length-i'<l.length-j∧True:=fun hj e=>⟨j+1,by rw[w64 (by omega)];rfl,⟨by omega,fun k hk=>by
  rcases yZa k j with hk'|hk'
  ·exact h2 k hk'
  ·obtain rfl:k=j:=by omega
   exact e⟩,by omega,trivial⟩
 refine zJ (fun hj=> ?_) (fun hj=> ?_)
 ·have hj:j<l.length:=by omega
  obtain⟨n,hn⟩:=yA hj
  have hg:l.getD j 0=n:=by simp[hn]
  refine⟨⟨by omega,by omega⟩,n,elI hn,zJ (fun c1=>bad hj (by simp[qR,hn];omega)) (fun c1=>zJ (fun c2=>bad hj (by simp[qR,hn];omega)) (fun c2=>zJ (fun c3=> ?_) (fun c3=>good hj ?_)))⟩
  ·have e:IntKind.i64.wrap ((j:Int)-1)=((j-1:Nat):Int):=by rw[w64 (by omega)];omega
   obtain⟨m,hm⟩:=yA (l:=l) (i:=j-1) (by omega)
   rw[e]
   refine⟨⟨by omega,by omega⟩,m,elI hm,zJ (fun c4=>bad hj ?_) (fun c4=>good hj ?_)⟩
   ·simp[qR,hn,hm];omega
   ·simp[qR,hn,hm];omega
  ·simp[qR,hn];omega
 ·have e:(List.range l.length).all (qR l)=true:=zWh fun k hk=>h2 k (by omega)
  refine zJ (fun c=>⟨(),?_,trivial⟩) (fun c=>⟨(),?_,trivial⟩)
  ·rw[xI,e,yXf (show 2≤l.length by omega)]
   simp;omega
  ·rw[xI,yWy (show ¬2≤l.length by omega)];simp
theorem z6s:monthsC.ok Tryz.prog 159:=okw mixed gok0 0 (fun _=>[]) (fun _=>yKd) [] Tryz.func159 yHy
theorem zEi {f:Int→Int→Int} {l:List Int} {j:Nat} {n:Int} (h:l[j+1]? =some n):(l.take (j+2)).tail.foldl f ((l.take (j+2)).headD 0)=f ((l.take (j+1)).tail.foldl f ((l.take (j+1)).headD 0)) n:=by
 cases l with
 |nil=>simp at h
 |cons a l=>
  simp only[yYf]at h
  simp only[yYb,List.tail_cons,List.headD_cons]
  rw[yYm,h,y2m];rfl
theorem zTq {l:List Int} {n:Int} (h:l[0]? =some n) (f:Int→Int→Int):(l.take 1).tail.foldl f ((l.take 1).headD 0)=n:=by
 cases l with
 |nil=>simp at h
 |cons a l=>simpa using h
theorem yUl (l:List Int) (h:minC.cnd l):yUf l:=by
 obtain⟨h0,h⟩:0<l.length∧l.length≤1099511627776:=h
 unfold yUf vQ dI
 simp only[y5]
 obtain⟨n,hn⟩:=yA h0
 refine zJ (fun c=>by omega) (fun c=>⟨⟨by omega,by omega⟩,n,elI hn,1,zTq hn min,rfl,fun j=>1≤j∧j≤l.length,fun j=>l.length-j,⟨by omega,by omega⟩,?_⟩)
 rintro j ⟨h1,h2⟩
 refine zJ (fun hj=> ?_) (fun hj=>⟨(),?_,trivial⟩)
 ·obtain⟨m,hm⟩:=yA (l:=l) (i:=j) (by omega)
  refine⟨⟨by omega,by omega⟩,m,elI hm,j+1,?_,?_,⟨by omega,by omega⟩,by(first|omega|(dsimp only;omega)),trivial⟩
  ·obtain⟨k,rfl⟩:∃k,j=k+1:=⟨j-1,by omega⟩
   first
    |(rw[p8,zEi hm,← p8];done)
    |(rw[p8,zEi hm,← p8];generalize p8 (l.take (k+1))=x;split<;>omega)
  ·rw[w64 (by omega)];rfl
 ·rw[yXg (by omega)]
theorem yQg:minC.ok Tryz.prog 161:=okw mixed gok0 0 (fun _=>[]) (fun l=>yVo l) [] Tryz.func161 yUl
theorem yVj (l:List Int) (h:maxC.cnd l):ySi l:=by
 obtain⟨h0,h⟩:0<l.length∧l.length≤1099511627776:=h
 unfold ySi vQ dI
 simp only[y5]
 obtain⟨n,hn⟩:=yA h0
 refine zJ (fun c=>by omega) (fun c=>⟨⟨by omega,by omega⟩,n,elI hn,1,zTq hn max,rfl,fun j=>1≤j∧j≤l.length,fun j=>l.length-j,⟨by omega,by omega⟩,?_⟩)
 rintro j ⟨h1,h2⟩
 refine zJ (fun hj=> ?_) (fun hj=>⟨(),?_,trivial⟩)
 ·obtain⟨m,hm⟩:=yA (l:=l) (i:=j) (by omega)
  refine⟨⟨by omega,by omega⟩,m,elI hm,j+1,?_,?_,⟨by omega,by omega⟩,by(first|omega|(dsimp only;omega)),trivial⟩
  ·obtain⟨k,rfl⟩:∃k,j=k+1:=⟨j-1,by omega⟩
   rw[rH,zEi hm,← rH]
   generalize rH (l.take (k+1))=x
   split<;>omega
  ·rw[w64 (by omega)];rfl
 ·rw[yXg (by omega)]
theorem yPv:maxC.ok Tryz.prog 162:=okw mixed gok0 0 (fun _=>[]) (fun l=>yUm l) [] Tryz.func162 yVj
open Go Cv Go.Proofs
@[reducible] def Prd.row (p:Prd):AObj:= .cells p.cells 26
structure z0j where
 p:Prd
 n:Int
structure zSf where
 p:Prd
 l:List Int
def qP (t n:Int):Bool:=n.tmod t !=0
def offC:Con:=con1 z0j (fun i=>[zA i.n,.nm 0 0]) (fun i=>[i.p.row]) (fun i=>1≤i.p.tick) (fun i=>yL (qP i.p.tick i.n)) (fun i=>[i.p.row])
@[reducible] def ySx:V:= .fn 198 [] [.nm 0 0]
def zGs (k:Option Nat):Int:=match k with
 |some k=>k
 |none=> -1
def idxC:Con:=con1 zSf (fun i=>[iV i.l,ySx]) (fun i=>[i.p.row]) (fun i=>1≤i.p.tick∧i.l.length≤1099511627776) (fun i=>zA (zGs (i.l.findIdx? (qP i.p.tick)))) (fun i=>[i.p.row])
def yUp (i:zSf):List SAnn:=[{ι:=Nat,slots:=fun j=>[(8,zA j)],rows:=fun _=>[]}]
def containsC:Con:=con1 zSf (fun i=>[iV i.l,ySx]) (fun i=>[i.p.row]) (fun i=>1≤i.p.tick∧i.l.length≤1099511627776) (fun i=>yL (i.l.any (qP i.p.tick))) (fun i=>[i.p.row])
def qJ (p:Prd):Bool:=decide (1≤p.tick) && decide (p.tick≤1000) && !qP p.tick p.low && !qP p.tick p.high && !qP p.tick p.wide && !p.settle.any (qP p.tick)
def ticksC:Con:=con1 Prd (fun p=>[prdV p]) (fun _=>[]) Prd.small (fun p=>yL (qJ p)) (fun _=>[])
def qK (p:Prd):Bool:=decide (p.low< -1000000)||decide (p.low≥p.high)||decide (p.high>1000000)||decide (p.wide<0)||decide (p.wide>p.high-p.low)
def xJ (p:Prd):Bool:=decide (p.settle.length≠p.months.length)||decide (p8 p.settle<p.low)||decide (rH p.settle>p.high)
def kF (p:Prd):Bool:=decide (p.rule<1)||decide (p.rule>3)
def x3 (p:Prd):Bool:=decide (p.top<0)||decide (p.top>1000000)||decide (p.least<1)||decide (p.least>1000)||decide (p.part<0)||decide (p.part>100)
def Prd.check (p:Prd):Int:=
 if !wB p.code then 12 else if !xI p.months then 1 else if !qJ p then 22 else if qK p then 23 else if xJ p then 1 else if kF p then 31 else if x3 p then 24 else 0
def checkC:Con:=con1 Prd (fun p=>[prdV p]) (fun _=>[]) Prd.small (fun p=>zA p.check) (fun _=>[])
def Prd.count (p:Prd):Nat:=if p.check=0 then p.months.length+p.months.length*(p.months.length-1) / 2 else 0
def pcountC:Con:=con1 Prd (fun p=>[prdV p]) (fun _=>[]) Prd.small (fun p=>zA p.count) (fun _=>[])
structure dZ where
 p:Prd
 n:Int
def yH (n:Nat):Nat→Nat
 |0=>n
 |k+1=>yH n k+(n-1-k)
def kI (n inst:Nat):Nat→Nat→Int×Int×Bool
 |0,_=>(0,0,false)
 |k+1,m=>if inst<yH n m+(n-1-m)then(m,m+1+(inst-yH n m:Nat),true)else kI n inst k (m+1)
def Prd.legs (p:Prd) (i:Int):Int×Int×Bool:=
 if i<0∨(p.count:Int)≤i then(0,0,false)else if i<p.months.length then(i,i,false)else kI p.months.length i.toNat p.months.length 0
def legsC:Con:=con1 dZ (fun i=>[prdV i.p,zA i.n]) (fun _=>[]) (fun i=>i.p.small) (fun i=> .tup [zA (i.p.legs i.n).1,zA (i.p.legs i.n).2.1,yL (i.p.legs i.n).2.2]) (fun _=>[])
structure rJ where
 p:Prd
 a:Int
 b:Int
def Prd.spread (p:Prd) (a b:Int):Int×Bool:=
 if p.check≠0∨a<0∨b≤a∨(p.months.length:Int)≤b then(0,false)else((yH p.months.length a.toNat:Int)+b-a-1,true)
def spreadC:Con:=con1 rJ (fun i=>[prdV i.p,zA i.a,zA i.b]) (fun _=>[]) (fun i=>i.p.small) (fun i=> .tup [zA (i.p.spread i.a i.b).1,yL (i.p.spread i.a i.b).2]) (fun _=>[])
def Prd.price (p:Prd) (i n:Int):Int:=
 if p.count=0 then 1 else if i<0∨(p.count:Int)≤i then 20 else if qP p.tick n then 22 else
 if n<(if(p.months.length:Int)≤i then-p.wide else p.low)∨(if(p.months.length:Int)≤i then p.wide else p.high)<n then 23 else 0
def priceC:Con:=con1 rJ (fun i=>[prdV i.p,zA i.a,zA i.b]) (fun _=>[]) (fun i=>i.p.small) (fun i=>zA (i.p.price i.a i.b)) (fun _=>[])
structure I2 where
 x:Int
 y:Int
@[reducible] def yV (n:Int):Prop:= -9223372036854775808≤n∧n≤9223372036854775807
def hZ (x y:Int):Int×Bool:=if yV (x+y)then(x+y,true)else(0,false)
def h9 (x y:Int):Int×Bool:=if yV (x-y)then(x-y,true)else(0,false)
def addC:Con:=con1 I2 (fun i=>[zA i.x,zA i.y]) (fun _=>[]) (fun i=>yV i.x∧yV i.y) (fun i=> .tup [zA (hZ i.x i.y).1,yL (hZ i.x i.y).2]) (fun _=>[])
def subC:Con:=con1 I2 (fun i=>[zA i.x,zA i.y]) (fun _=>[]) (fun i=>yV i.x∧yV i.y) (fun i=> .tup [zA (h9 i.x i.y).1,yL (h9 i.x i.y).2]) (fun _=>[])
def yRy (i:dZ):List SAnn:=[{ι:=Nat,slots:=fun m=>[(8,zA (yH i.p.months.length m)),(33,zA m)],rows:=fun _=>[]}]
def yJc (i:rJ):List SAnn:=[{ι:=Nat,slots:=fun m=>[(9,zA (yH i.p.months.length m)),(33,zA m)],rows:=fun _=>[]}]
open Go Cv Go.Proofs
def yTg (i:z0j):Prop:=
 IntKind.i64=IntKind.i64∧i.p.tick≠0∧∃(a:Unit),qP i.p.tick i.n=(i.n.tmod i.p.tick !=0)∧sb i.p.code=sb i.p.code∧iE i.p.months=iE i.p.months∧i.p.tick=i.p.tick∧i.p.low=i.p.low∧i.p.high=i.p.high∧i.p.wide=i.p.wide∧i.p.rule=i.p.rule∧i.p.top=i.p.top∧i.p.least=i.p.least∧i.p.part=i.p.part∧iE i.p.settle=iE i.p.settle∧True
def ySo (i:zSf):Prop:=
 ∃(a:Nat),(↑a:Int)=0∧∃(b:Nat→Prop),∃(c:Nat→Nat),b a∧∀(d:Nat),b d→cnd (decide ((↑d:Int)<(↑(iE i.l).length:Int))) ((0≤(↑d:Int)∧(↑d:Int)<(↑(iE i.l).length:Int))∧∃(e:Int),zF (iE i.l) (↑d:Int).toNat 0 1=some [dI e]∧∃(f:z0j),f.n=e∧sb f.p.code=sb i.p.code∧iE f.p.months=iE i.p.months∧f.p.tick=i.p.tick∧f.p.low=i.p.low∧f.p.high=i.p.high∧f.p.wide=i.p.wide∧f.p.rule=i.p.rule∧f.p.top=i.p.top∧f.p.least=i.p.least∧f.p.part=i.p.part∧iE f.p.settle=iE i.p.settle∧1≤f.p.tick∧∀(g:Unit),True→cnd (qP f.p.tick f.n) (∃(h:Unit),zGs (List.findIdx? (qP i.p.tick) i.l)=(↑d:Int)∧sb i.p.code=sb f.p.code∧iE i.p.months=iE f.p.months∧i.p.tick=f.p.tick∧i.p.low=f.p.low∧i.p.high=f.p.high∧i.p.wide=f.p.wide∧i.p.rule=f.p.rule∧i.p.top=f.p.top∧i.p.least=f.p.least∧i.p.part=f.p.part∧iE i.p.settle=iE f.p.settle∧True) (∃(h:Nat),(↑h:Int)=IntKind.i64.wrap ((↑d:Int)+1)∧b h∧c h<c d∧Sx.AObj.cells (jT (cJ 1 ((1:Nat)+(0:Nat)) ((1:Nat)-(1:Nat)) [((0:Nat),(0:Nat))]) f.p.cells) (26:TypeId)=i.p.row)) (∃(e:Unit),zGs (List.findIdx? (qP i.p.tick) i.l)=(-1)∧sb i.p.code=sb i.p.code∧iE i.p.months=iE i.p.months∧i.p.tick=i.p.tick∧i.p.low=i.p.low∧i.p.high=i.p.high∧i.p.wide=i.p.wide∧i.p.rule=i.p.rule∧i.p.top=i.p.top∧i.p.least=i.p.least∧i.p.part=i.p.part∧iE i.p.settle=iE i.p.settle∧True)
def zNz (i:zSf):Prop:=
 ∃(a:zSf),iE a.l=iE i.l∧sb a.p.code=sb i.p.code∧iE a.p.months=iE i.p.months∧a.p.tick=i.p.tick∧a.p.low=i.p.low∧a.p.high=i.p.high∧a.p.wide=i.p.wide∧a.p.rule=i.p.rule∧a.p.top=i.p.top∧a.p.least=i.p.least∧a.p.part=i.p.part∧iE a.p.settle=iE i.p.settle∧(1≤a.p.tick∧a.l.length≤1099511627776)∧∀(b:Unit),True→∃(c:Unit),i.l.any (qP i.p.tick)=decide (zGs (List.findIdx? (qP a.p.tick) a.l)≥0)∧sb i.p.code=sb a.p.code∧iE i.p.months=iE a.p.months∧i.p.tick=a.p.tick∧i.p.low=a.p.low∧i.p.high=a.p.high∧i.p.wide=a.p.wide∧i.p.rule=a.p.rule∧i.p.top=a.p.top∧i.p.least=a.p.least∧i.p.part=a.p.part∧iE i.p.settle=iE a.p.settle∧True
def yFe (p:Prd):Prop:=
 cnd (decide (p.tick<1)) (∃(a:Unit),qJ p=false∧True) (cnd (decide (p.tick>1000)) (∃(a:Unit),qJ p=false∧True) (∃(a:z0j),a.n=p.low∧sb a.p.code=sb p.code∧iE a.p.months=iE p.months∧a.p.tick=p.tick∧a.p.low=p.low∧a.p.high=p.high∧a.p.wide=p.wide∧a.p.rule=p.rule∧a.p.top=p.top∧a.p.least=p.least∧a.p.part=p.part∧iE a.p.settle=iE p.settle∧1≤a.p.tick∧∀(b:Unit),True→cnd (!qP a.p.tick a.n) (∃(c:z0j),c.n=a.p.high∧sb c.p.code=sb a.p.code∧iE c.p.months=iE a.p.months∧c.p.tick=a.p.tick∧c.p.low=a.p.low∧c.p.high=a.p.high∧c.p.wide=a.p.wide∧c.p.rule=a.p.rule∧c.p.top=a.p.top∧c.p.least=a.p.least∧c.p.part=a.p.part∧iE c.p.settle=iE a.p.settle∧1≤c.p.tick∧∀(d:Unit),True→cnd (!qP c.p.tick c.n) (∃(e:z0j),e.n=c.p.wide∧sb e.p.code=sb c.p.code∧iE e.p.months=iE c.p.months∧e.p.tick=c.p.tick∧e.p.low=c.p.low∧e.p.high=c.p.high∧e.p.wide=c.p.wide∧e.p.rule=c.p.rule∧e.p.top=c.p.top∧e.p.least=c.p.least∧e.p.part=c.p.part∧iE e.p.settle=iE c.p.settle∧1≤e.p.tick∧∀(f:Unit),True→cnd (!qP e.p.tick e.n) (∃(g:zSf),iE g.l=iE e.p.settle∧sb g.p.code=sb e.p.code∧iE g.p.months=iE e.p.months∧g.p.tick=e.p.tick∧g.p.low=e.p.low∧g.p.high=e.p.high∧g.p.wide=e.p.wide∧g.p.rule=e.p.rule∧g.p.top=e.p.top∧g.p.least=e.p.least∧g.p.part=e.p.part∧iE g.p.settle=iE e.p.settle∧(1≤g.p.tick∧g.l.length≤1099511627776)∧∀(h:Unit),True→∃(j:Unit),qJ p=!g.l.any (qP g.p.tick)∧True) (∃(g:Unit),qJ p=false∧True)) (∃(e:Unit),qJ p=false∧True)) (∃(c:Unit),qJ p=false∧True)))
def z8 (a:Prd):Prop:=a.code.length≤1099511627776∧a.months.length≤1099511627776∧a.settle.length≤1099511627776
def wL (a:Prd):=(↑(iE a.settle).length:Int)
def xH (a:Prd):=(↑(iE a.months).length:Int)
def z9o (p:Prd):Prop:=
 ∃(a:List UInt8),sb a=sb p.code∧a.length≤1099511627776∧∀(b:Unit),True→cnd (!wB a) (∃(c:Unit),p.check=12∧True) (∃(c:List Int),iE c=iE p.months∧c.length≤1099511627776∧∀(d:Unit),True→cnd (!xI c) (∃(e:Unit),p.check=1∧True) (∃(e:Prd),sb e.code=sb p.code∧iE e.months=iE p.months∧e.tick=p.tick∧e.low=p.low∧e.high=p.high∧e.wide=p.wide∧e.rule=p.rule∧e.top=p.top∧e.least=p.least∧e.part=p.part∧iE e.settle=iE p.settle∧(z8 e)∧∀(f:Unit),True→cnd (!qJ e) (∃(g:Unit),p.check=22∧True) (cnd (decide (p.low<(-1000000))) (∃(g:Unit),p.check=23∧True) (cnd (decide (p.low≥p.high)) (∃(g:Unit),p.check=23∧True) (cnd (decide (p.high>1000000)) (∃(g:Unit),p.check=23∧True) (cnd (decide (p.wide<0)) (∃(g:Unit),p.check=23∧True) (cnd (decide (p.wide>IntKind.i64.wrap (p.high-p.low))) (∃(g:Unit),p.check=23∧True) (cnd ((wL p) !=(xH p)) (∃(g:Unit),p.check=1∧True) (∃(g:List Int),iE g=iE p.settle∧(0<g.length∧g.length≤1099511627776)∧∀(h:Unit),True→p.low=p.low∧cnd (decide (p8 g<p.low)) (∃(j:Unit),p.check=1∧True) (∃(j:List Int),iE j=iE p.settle∧(0<j.length∧j.length≤1099511627776)∧∀(k:Unit),True→p.high=p.high∧cnd (decide (rH j>p.high)) (∃(l:Unit),p.check=1∧True) (cnd (decide (p.rule<1)) (∃(l:Unit),p.check=31∧True) (cnd (decide (p.rule>3)) (∃(l:Unit),p.check=31∧True) (cnd (decide (p.top<0)) (∃(l:Unit),p.check=24∧True) (cnd (decide (p.top>1000000)) (∃(l:Unit),p.check=24∧True) (cnd (decide (p.least<1)) (∃(l:Unit),p.check=24∧True) (cnd (decide (p.least>1000)) (∃(l:Unit),p.check=24∧True) (cnd (decide (p.part<0)) (∃(l:Unit),p.check=24∧True) (cnd (decide (p.part>100)) (∃(l:Unit),p.check=24∧True) (∃(l:Unit),p.check=0∧True)))))))))))))))))))
def nX (a:Prd) (b:Prd):Prop:=sb a.code=sb b.code∧iE a.months=iE b.months∧a.tick=b.tick∧a.low=b.low∧a.high=b.high∧a.wide=b.wide∧a.rule=b.rule∧a.top=b.top∧a.least=b.least∧a.part=b.part∧iE a.settle=iE b.settle∧(z8 a)∧∀(c:Unit),True→cnd (a.check !=0) (∃(d:Unit),(↑b.count:Int)=0∧True) (IntKind.i64=IntKind.i64∧(2:Int)≠(0:Int)∧∃(d:Unit),(↑b.count:Int)=IntKind.i64.wrap ((xH b)+IntKind.i64.wrap ((IntKind.i64.wrap ((xH b)*IntKind.i64.wrap ((xH b)-1))).tdiv 2))∧True)
def z5b (p:Prd):Prop:=
 ∃(a:Prd),nX a p
def pZ (a:dZ):Prop:=Sx.AObj.cells [V.d (D.v (Value.string (sb a.p.code))),V.own 0,V.d (dI a.p.tick),V.d (dI a.p.low),V.d (dI a.p.high),V.d (dI a.p.wide),V.d (dI a.p.rule),V.d (dI a.p.top),V.d (dI a.p.least),V.d (dI a.p.part),V.own ((0:Nat)+(1:Nat))] 26=Sx.AObj.cells [V.d (D.v (Value.string (sb a.p.code))),V.own 0,V.d (dI a.p.tick),V.d (dI a.p.low),V.d (dI a.p.high),V.d (dI a.p.wide),V.d (dI a.p.rule),V.d (dI a.p.top),V.d (dI a.p.least),V.d (dI a.p.part),V.own ((0:Nat)+(1:Nat))] 26∧AObj.fro 1 (iE a.p.settle)=AObj.fro 1 (iE a.p.settle)∧AObj.fro 1 (iE a.p.months)=AObj.fro 1 (iE a.p.months)
def zBg (a:Nat→Prop) (b:Nat) (c:Nat→Nat) (d:Nat) (e:dZ):Prop:=a b∧c b<c d∧pZ e
def uD (a:dZ) (b:Nat):=(↑(yH a.p.months.length b):Int)
def wU (a:dZ):=(↑(iE a.p.months).length:Int)
def zEr (a:dZ) (b:Nat):=((uD a b)+IntKind.i64.wrap (IntKind.i64.wrap ((wU a)-1)-(↑b:Int)))
def g7 (a:dZ):Prop:=∃(b:Unit),(a.p.legs a.n).fst=0∧(a.p.legs a.n).snd.fst=0∧(a.p.legs a.n).snd.snd=false∧True
def tQ (a:dZ):Prop:=∃(b:Unit),(a.p.legs a.n).fst=a.n∧(a.p.legs a.n).snd.fst=a.n∧(a.p.legs a.n).snd.snd=false∧True
def yLo (i:dZ):Prop:=
 ∃(a:Prd),sb a.code=sb i.p.code∧iE a.months=iE i.p.months∧a.tick=i.p.tick∧a.low=i.p.low∧a.high=i.p.high∧a.wide=i.p.wide∧a.rule=i.p.rule∧a.top=i.p.top∧a.least=i.p.least∧a.part=i.p.part∧iE a.settle=iE i.p.settle∧(z8 a)∧∀(b:Unit),True→cnd (decide (i.n<0)) (g7 i) (cnd (decide (i.n≥(↑a.count:Int))) (g7 i) (cnd (decide (i.n<(wU i))) (tQ i) (∃(c:Nat),(uD i c)=(wU i)∧(↑c:Int)=0∧∃(d:Nat→Prop),∃(e:Nat→Nat),d c∧∀(f:Nat),d f→cnd (decide ((↑f:Int)<(wU i))) (cnd (decide (i.n<IntKind.i64.wrap (zEr i f))) (∃(g:Unit),(i.p.legs i.n).fst=(↑f:Int)∧(i.p.legs i.n).snd.fst=IntKind.i64.wrap (IntKind.i64.wrap (IntKind.i64.wrap ((↑f:Int)+1)+i.n)-(uD i f))∧(i.p.legs i.n).snd.snd=true∧True) (∃(g:Nat),(uD i g)=IntKind.i64.wrap (zEr i f)∧(↑g:Int)=IntKind.i64.wrap ((↑f:Int)+1)∧zBg d g e f i)) (g7 i))))
def dR (a:rJ):Prop:=∃(b:Unit),(a.p.spread a.a a.b).fst=0∧(a.p.spread a.a a.b).snd=false∧True
def z4z (i:rJ):Prop:=
 ∃(a:Prd),sb a.code=sb i.p.code∧iE a.months=iE i.p.months∧a.tick=i.p.tick∧a.low=i.p.low∧a.high=i.p.high∧a.wide=i.p.wide∧a.rule=i.p.rule∧a.top=i.p.top∧a.least=i.p.least∧a.part=i.p.part∧iE a.settle=iE i.p.settle∧(z8 a)∧∀(b:Unit),True→cnd (a.check !=0) (dR i) (cnd (decide (i.a<0)) (dR i) (cnd (decide (i.a≥i.b)) (dR i) (cnd (decide (i.b≥(↑(iE i.p.months).length:Int))) (dR i) (∃(c:Nat),(↑(yH i.p.months.length c):Int)=(↑(iE i.p.months).length:Int)∧(↑c:Int)=0∧∃(d:Nat→Prop),∃(e:Nat→Nat),d c∧∀(f:Nat),d f→cnd (decide ((↑f:Int)<i.a)) (∃(g:Nat),(↑(yH i.p.months.length g):Int)=IntKind.i64.wrap ((↑(yH i.p.months.length f):Int)+IntKind.i64.wrap (IntKind.i64.wrap ((↑(iE i.p.months).length:Int)-1)-(↑f:Int)))∧(↑g:Int)=IntKind.i64.wrap ((↑f:Int)+1)∧d g∧e g<e f∧Sx.AObj.cells [V.d (D.v (Value.string (sb i.p.code))),V.own 0,V.d (dI i.p.tick),V.d (dI i.p.low),V.d (dI i.p.high),V.d (dI i.p.wide),V.d (dI i.p.rule),V.d (dI i.p.top),V.d (dI i.p.least),V.d (dI i.p.part),V.own ((0:Nat)+(1:Nat))] 26=Sx.AObj.cells [V.d (D.v (Value.string (sb i.p.code))),V.own 0,V.d (dI i.p.tick),V.d (dI i.p.low),V.d (dI i.p.high),V.d (dI i.p.wide),V.d (dI i.p.rule),V.d (dI i.p.top),V.d (dI i.p.least),V.d (dI i.p.part),V.own ((0:Nat)+(1:Nat))] 26∧AObj.fro 1 (iE i.p.settle)=AObj.fro 1 (iE i.p.settle)∧AObj.fro 1 (iE i.p.months)=AObj.fro 1 (iE i.p.months)) (∃(g:Unit),(i.p.spread i.a i.b).fst=IntKind.i64.wrap (IntKind.i64.wrap (IntKind.i64.wrap ((↑(yH i.p.months.length f):Int)+i.b)-i.a)-1)∧(i.p.spread i.a i.b).snd=true∧True)))))
def yDg (i:rJ):Prop:=
 ∃(a:Prd),sb a.code=sb i.p.code∧iE a.months=iE i.p.months∧a.tick=i.p.tick∧a.low=i.p.low∧a.high=i.p.high∧a.wide=i.p.wide∧a.rule=i.p.rule∧a.top=i.p.top∧a.least=i.p.least∧a.part=i.p.part∧iE a.settle=iE i.p.settle∧(z8 a)∧∀(b:Unit),True→cnd ((↑a.count:Int)==0) (∃(c:Unit),i.p.price i.a i.b=1∧True) (cnd (decide (i.a<0)) (∃(c:Unit),i.p.price i.a i.b=20∧True) (cnd (decide (i.a≥(↑a.count:Int))) (∃(c:Unit),i.p.price i.a i.b=20∧True) (IntKind.i64=IntKind.i64∧i.p.tick≠0∧cnd (i.b.tmod i.p.tick !=0) (∃(c:Unit),i.p.price i.a i.b=22∧True) (cnd (decide (i.a≥(↑(iE i.p.months).length:Int))) (cnd (decide (i.b<IntKind.i64.wrap (0-i.p.wide))) (∃(c:Unit),i.p.price i.a i.b=23∧True) (cnd (decide (i.b>i.p.wide)) (∃(c:Unit),i.p.price i.a i.b=23∧True) (∃(c:Unit),i.p.price i.a i.b=0∧True))) (cnd (decide (i.b<i.p.low)) (∃(c:Unit),i.p.price i.a i.b=23∧True) (cnd (decide (i.b>i.p.high)) (∃(c:Unit),i.p.price i.a i.b=23∧True) (∃(c:Unit),i.p.price i.a i.b=0∧True)))))))
def zJt (a:I2):Prop:=∃(b:Unit),(hZ a.x a.y).fst=IntKind.i64.wrap (a.x+a.y)∧(hZ a.x a.y).snd=true∧True
def yUd (i:I2):Prop:=
 cnd (decide (i.x<0)==decide (i.y<0)) (cnd (!decide (IntKind.i64.wrap (i.x+i.y)<0)==decide (i.x<0)) (∃(a:Unit),(hZ i.x i.y).fst=0∧(hZ i.x i.y).snd=false∧True) (zJt i)) (zJt i)
def zMk (a:I2):Prop:=∃(b:Unit),(h9 a.x a.y).fst=IntKind.i64.wrap (a.x-a.y)∧(h9 a.x a.y).snd=true∧True
def yTk (i:I2):Prop:=
 cnd (!decide (i.x<0)==decide (i.y<0)) (cnd (!decide (IntKind.i64.wrap (i.x-i.y)<0)==decide (i.x<0)) (∃(a:Unit),(h9 i.x i.y).fst=0∧(h9 i.x i.y).snd=false∧True) (zMk i)) (zMk i)
open Go Cv Go.Proofs
theorem yUo (i:z0j) (h:offC.cnd i):yTg i:=by
 have h:1≤i.p.tick:=h
 unfold yTg;exact kp
theorem yAd:offC.ok Tryz.prog 198:=okw mixed gok0 0 (fun _=>[]) (fun _=>[]) [] Tryz.func198 yUo
theorem zDu {α:Type} {f:α→Bool} {l:List α} (h:∀(k:Nat) (x:α),l[k]? =some x→f x=false):l.findIdx? f=none:=by
 rw[y1d]
 intro x hx
 obtain⟨k,hk⟩:=y1i hx
 exact h k x hk
theorem zFa {α:Type} {f:α→Bool} {l:List α} {j:Nat} {x:α} (h1:l[j]? =some x) (h2:f x=true) (h:∀k<j,∀x:α,l[k]? =some x→f x=false):l.findIdx? f=some j:=by
 rw[yZp]
 obtain⟨hj,rfl⟩:=yWn.1 h1
 exact⟨hj,h2,fun k hk=>by rw[h k hk _ (yXw (by omega))];simp⟩
theorem yVl (i:zSf) (h:idxC.cnd i):ySo i:=by
 obtain⟨h1,h2⟩:1≤i.p.tick∧i.l.length≤1099511627776:=h
 unfold ySo dI
 simp only[y5]
 refine⟨0,rfl,fun j=>j≤i.l.length∧∀k<j,∀x,i.l[k]? =some x→qP i.p.tick x=false,fun j=>i.l.length-j,⟨by omega,fun k hk=>by omega⟩,?_⟩
 rintro j ⟨h3,h4⟩
 refine zJ (fun hj=> ?_) (fun hj=> ?_)
 ·obtain⟨n,hn⟩:=yA (l:=i.l) (i:=j) (by omega)
  refine⟨⟨by omega,by omega⟩,n,elI hn,⟨i.p,n⟩,?_⟩
  (repeat'(first|exact rfl|exact trivial|assumption|apply And.intro|refine fun(_:Unit) (_:True)=>?_|refine Exists.intro () ?_|omega|(dsimp only;omega)))
  refine Cv.cnd.mk (fun e=> ?_) (fun e=> ?_)
  ·rw[zFa hn e h4];exact kp
  ·refine⟨j+1,by rw[w64 (by omega)];rfl,⟨by omega,fun k hk x hx=> ?_⟩,by(first|omega|(dsimp only;omega)),rfl⟩
   rcases yZa k j with hk'|hk'
   ·exact h4 k hk' x hx
   ·obtain rfl:k=j:=by omega
    rw[hn]at hx;cases hx;exact e
 ·rw[zDu fun k x hx=>h4 k (by have:=(yWn.1 hx).1;omega) x hx];exact kp
theorem yQd:idxC.ok Tryz.prog 231:=okw mixed (gokc yAd gok0) 0 (fun _=>[]) (fun i=>yUp i) [] Tryz.func231 yVl
theorem z5k {l:List Int} {f:Int→Bool}:l.any f=decide (zGs (l.findIdx? f)≥0):=by
 cases hf:l.findIdx? f with
 |none=>
  rw[y1d]at hf
  have:l.any f=false:=by rw[y2n];intro x hx;simp[hf x hx]
  rw[this];rfl
 |some k=>
  rw[yZp]at hf
  obtain⟨hk,h1,_⟩:=hf
  have:l.any f=true:=by rw[List.any_eq_true];exact⟨_,List.getElem_mem hk,h1⟩
  rw[this,zGs,yXf (by omega)]
theorem z5l (i:zSf) (h:containsC.cnd i):zNz i:=by
 unfold zNz
 have h':1≤i.p.tick∧i.l.length≤1099511627776:=h
 refine⟨i,?_⟩
 (repeat'(first|exact rfl|exact trivial|assumption|apply And.intro|refine fun(_:Unit) (_:True)=>?_|refine Exists.intro () ?_|omega|(dsimp only;omega)))
 exact z5k
theorem zUd:containsC.ok Tryz.prog 199:=okw mixed (gokc yQd gok0) 0 (fun _=>[]) (fun _=>[]) [] Tryz.func199 z5l
theorem yNh (p:Prd) (h:ticksC.cnd p):yFe p:=by
 obtain⟨h1,h2,h3⟩:p.small:=h
 unfold yFe
 refine zJ (fun c1=>⟨(),by rw[qJ,yWy (by omega)];rfl,trivial⟩) (fun c1=>zJ (fun c2=>⟨(),by rw[qJ,yWy (show ¬p.tick≤1000 by omega)];simp,trivial⟩) (fun c2=>⟨⟨p,p.low⟩,?_⟩))
 have e1:qJ p=(!qP p.tick p.low && !qP p.tick p.high && !qP p.tick p.wide && !p.settle.any (qP p.tick)):=by
  rw[qJ,yXf (by omega),yXf (by omega)];rfl
 rw[e1]
 (repeat'(first|exact rfl|exact trivial|assumption|apply And.intro|refine fun(_:Unit) (_:True)=>?_|refine Exists.intro () ?_|omega|(dsimp only;omega)))
 refine Cv.cnd.mk (fun c3=>⟨⟨p,p.high⟩,?_⟩) (fun c3=>⟨(),?_,trivial⟩)
 ·dsimp only at c3
  (repeat'(first|exact rfl|exact trivial|assumption|apply And.intro|refine fun(_:Unit) (_:True)=>?_|refine Exists.intro () ?_|omega|(dsimp only;omega)))
  refine Cv.cnd.mk (fun c4=>⟨⟨p,p.wide⟩,?_⟩) (fun c4=>⟨(),?_,trivial⟩)
  ·dsimp only at c4
   (repeat'(first|exact rfl|exact trivial|assumption|apply And.intro|refine fun(_:Unit) (_:True)=>?_|refine Exists.intro () ?_|omega|(dsimp only;omega)))
   refine Cv.cnd.mk (fun c5=>⟨⟨p,p.settle⟩,?_⟩) (fun c5=>⟨(),?_,trivial⟩)
   ·dsimp only at c5
    (repeat'(first|exact rfl|exact trivial|assumption|apply And.intro|refine fun(_:Unit) (_:True)=>?_|refine Exists.intro () ?_|omega|(dsimp only;omega)))
    rw[c3,c4,c5];simp
   ·dsimp only at c5
    rw[c5];simp
  ·dsimp only at c4
   rw[c4];simp
 ·dsimp only at c3
  rw[c3];simp
theorem yAy:ticksC.ok Tryz.prog 160:=okw mixed (gokc yAd (gokc zUd gok0)) 0 (fun _=>[]) (fun _=>[]) [] Tryz.func160 yNh
theorem yPe (p:Prd) (h:checkC.cnd p):z9o p:=by
 obtain⟨h1,h2,h3⟩:p.small:=h
 unfold z9o xH wL z8
 simp only[y5]
 refine⟨p.code,rfl,h1,fun _ _=>Cv.cnd.mk (fun c1=>⟨(),by rw[Prd.check,yWm c1],trivial⟩) (fun c1=>⟨p.months,rfl,h2,fun _ _=>Cv.cnd.mk (fun c2=>⟨(),by rw[Prd.check,yWl (by simp[c1]),yWm c2],trivial⟩) (fun c2=>⟨p,?_⟩)⟩)⟩
 (repeat'(first|exact rfl|exact trivial|assumption|apply And.intro|refine fun(_:Unit) (_:True)=>?_|refine Exists.intro () ?_|omega|(dsimp only;omega)))
 refine Cv.cnd.mk (fun c3=>⟨(),by rw[Prd.check,yWl (by simp[c1]),yWl (by simp[c2]),yWm c3],trivial⟩) (fun c3=> ?_)
 have e0:p.check=if qK p then 23 else if xJ p then 1 else if kF p then 31 else if x3 p then 24 else 0:=by
  rw[Prd.check,yWl (by simp[c1]),yWl (by simp[c2]),yWl (by simp[c3])]
 have b (hb:qK p=true):∃(o:Unit),p.check=23∧True:=⟨(),by rw[e0,yWm hb],trivial⟩
 refine zJ (fun d1=>b (by simp[qK,d1])) fun d1=>zJ (fun d2=>b (by simp[qK];omega)) fun d2=>zJ (fun d3=>b (by simp[qK];omega)) fun d3=>zJ (fun d4=>b (by simp[qK];omega)) fun d4=> ?_
 rw[w64 (by omega)]
 refine zJ (fun d5=>b (by simp[qK];omega)) fun d5=> ?_
 have e1:p.check=if xJ p then 1 else if kF p then 31 else if x3 p then 24 else 0:=by
  rw[e0,yWl (by simp[qK];omega)]
 have s (hb:xJ p=true):∃(o:Unit),p.check=1∧True:=⟨(),by rw[e1,yWm hb],trivial⟩
 have hm:2≤p.months.length:=by
  have c2:xI p.months=true:=by simpa using c2
  simp[xI]at c2;omega
 refine Cv.cnd.mk (fun d6=>s (by have d6:¬(p.settle.length:Int)=p.months.length:=(by simpa using d6);simp[xJ];omega)) fun d6=> ?_
 have d6:p.settle.length=p.months.length:=by
  have:(p.settle.length:Int)=p.months.length:=by simpa using d6
  omega
 refine⟨p.settle,rfl,⟨by omega,by omega⟩,fun _ _=>⟨kp,zJ (fun d7=>s (by simp[xJ];left;right;omega)) fun d7=>⟨p.settle,rfl,⟨by omega,by omega⟩,fun _ _=>⟨kp,zJ (fun d8=>s (by simp[xJ];right;omega)) fun d8=> ?_⟩⟩⟩⟩
 have e2:p.check=if kF p then 31 else if x3 p then 24 else 0:=by
  rw[e1,yWl (by simp[xJ];omega)]
 have r (hb:kF p=true):∃(o:Unit),p.check=31∧True:=⟨(),by rw[e2,yWm hb],trivial⟩
 refine zJ (fun d9=>r (by simp[kF];omega)) fun d9=>zJ (fun d10=>r (by simp[kF];omega)) fun d10=> ?_
 have e3:p.check=if x3 p then 24 else 0:=by
  rw[e2,yWl (by simp[kF];omega)]
 have q (hb:x3 p=true):∃(o:Unit),p.check=24∧True:=⟨(),by rw[e3,yWm hb],trivial⟩
 refine zJ (fun f1=>q (by simp[x3];omega)) fun f1=>zJ (fun f2=>q (by simp[x3];omega)) fun f2=>zJ (fun f3=>q (by simp[x3];omega)) fun f3=>zJ (fun f4=>q (by simp[x3];omega)) fun f4=>zJ (fun f5=>q (by simp[x3];omega)) fun f5=>zJ (fun f6=>q (by simp[x3];omega)) fun f6=> ?_
 exact⟨(),by rw[e3,yWl (by simp[x3];omega)],trivial⟩
theorem zBj:checkC.ok Tryz.prog 114:=okw mixed (gokc yQn (gokc z6s (gokc yAy (gokc yQg (gokc yPv gok0))))) 0 (fun _=>[]) (fun _=>[]) [] Tryz.func114 yPe
structure Prd.Ok (p:Prd):Prop where
 sym:wB p.code=true
 months:xI p.months=true
 ticks:qJ p=true
 m2:2≤p.months.length
 m6:p.months.length≤6
 t1:1≤p.tick
 t2:p.tick≤1000
 b1: -1000000≤p.low
 b2:p.low<p.high
 b3:p.high≤1000000
 b4:0≤p.wide
 b5:p.wide≤p.high-p.low
 s1:p.settle.length=p.months.length
 s2:p.low≤p8 p.settle
 s3:rH p.settle≤p.high
 r1:1≤p.rule
 r2:p.rule≤3
 q1:0≤p.top
 q2:p.top≤1000000
 q3:1≤p.least
 q4:p.least≤1000
 q5:0≤p.part
 q6:p.part≤100
theorem kP {p:Prd} (h:p.check=0):p.Ok:=by
 unfold Prd.check at h
 split at h<;>first|(exfalso;revert h;decide)|skip
 rename_i c1
 split at h<;>first|(exfalso;revert h;decide)|skip
 rename_i c2
 split at h<;>first|(exfalso;revert h;decide)|skip
 rename_i c3
 split at h<;>first|(exfalso;revert h;decide)|skip
 rename_i c4
 split at h<;>first|(exfalso;revert h;decide)|skip
 rename_i c5
 split at h<;>first|(exfalso;revert h;decide)|skip
 rename_i c6
 split at h<;>first|(exfalso;revert h;decide)|skip
 rename_i c7
 simp only[y1k,Bool.not_eq_false,Bool.not_eq_true]at c1 c2 c3
 have m:=c2
 have t:=c3
 simp[xI]at m
 simp[qJ]at t
 simp[qK]at c4
 simp[xJ]at c5
 simp[kF]at c6
 simp[x3]at c7
 exact⟨c1,c2,c3,by omega,by omega,by omega,by omega,by omega,by omega,by omega,by omega,by omega,by omega,by omega,by omega,by omega,by omega,by omega,by omega,by omega,by omega,by omega,by omega⟩
theorem yDw {n:Nat} (h:n≤6):n+n*(n-1) / 2≤21:=by
 have:∀n≤6,n+n*(n-1) / 2≤21:=by decide
 exact this n h
theorem yIy (p:Prd) (h:pcountC.cnd p):z5b p:=by
 unfold z5b nX xH z8
 obtain⟨h1,h2,h3⟩:p.small:=h
 refine⟨p,?_⟩
 simp only[y5]
 (repeat'(first|exact rfl|exact trivial|assumption|apply And.intro|refine fun(_:Unit) (_:True)=>?_|refine Exists.intro () ?_|omega|(dsimp only;omega)))
 refine Cv.cnd.mk (fun c=>⟨(),by rw[Prd.count,yWl (by simpa using c)];rfl,trivial⟩) (fun c=> ?_)
 have c:p.check=0:=by simpa using c
 have ok:=kP c
 refine⟨kp,by decide,(),?_,trivial⟩
 rw[Prd.count,yWm c]
 obtain⟨n,hn⟩:∃n,p.months.length=n:=⟨_,rfl⟩
 have m2:=ok.m2
 have m6:=ok.m6
 rw[hn]at m2 m6 ⊢
 have:n=2∨n=3∨n=4∨n=5∨n=6:=by omega
 rcases this with rfl|rfl|rfl|rfl|rfl<;>rfl
theorem aZ:pcountC.ok Tryz.prog 116:=okw mixed (gokc zBj gok0) 0 (fun _=>[]) (fun _=>[]) [] Tryz.func116 yIy
theorem sI {p:Prd} (h:p.count≠0):p.check=0:=by
 unfold Prd.count at h
 split at h
 ·assumption
 ·exact absurd rfl h
theorem xV (p:Prd):p.count≤21:=by
 unfold Prd.count
 split
 ·rename_i h;exact yDw (kP h).m6
 ·omega
theorem zMc {n m:Nat} (h:n≤6) (hm:m≤n):yH n m≤21:=by
 have:∀n≤6,∀m≤n,yH n m≤21:=by decide
 exact this n h m hm
theorem yRu (i:dZ) (h:legsC.cnd i):yLo i:=by
 unfold yLo zBg pZ tQ g7 zEr wU uD z8 dI
 obtain⟨h1,h2,h3⟩:i.p.small:=h
 refine⟨i.p,?_⟩
 simp only[y5]
 (repeat'(first|exact rfl|exact trivial|assumption|apply And.intro|refine fun(_:Unit) (_:True)=>?_|refine Exists.intro () ?_|omega|(dsimp only;omega)))
 refine zJ (fun c1=> ?_) (fun c1=>zJ (fun c2=> ?_) (fun c2=> ?_))
 ·rw[Prd.legs,yWm (by omega)];exact kp
 ·rw[Prd.legs,yWm (by omega)];exact kp
 have c2:¬i.n≥(i.p.count:Int):=c2
 have hc:=xV i.p
 have ok:=kP (sI (p:=i.p) (by omega))
 have m6:=ok.m6
 refine zJ (fun c3=> ?_) (fun c3=> ?_)
 ·rw[Prd.legs,yWl (by omega),yWm c3];exact kp
 have e0:i.p.legs i.n=kI i.p.months.length i.n.toNat i.p.months.length 0:=by
  rw[Prd.legs,yWl (by omega),yWl c3]
 rw[e0]
 generalize hn:i.p.months.length=n at c3 m6 ⊢
 obtain⟨k,hk⟩:∃k:Nat,i.n=k:=⟨i.n.toNat,by omega⟩
 rw[hk]at c2 c3 ⊢
 refine⟨0,rfl,rfl,fun m=>m≤n∧yH n m≤k∧kI n k n 0=kI n k (n-m) m,fun m=>n-m,⟨by omega,by show n≤k;omega,rfl⟩,?_⟩
 rintro m ⟨g1,g2,g3⟩
 have hf:=zMc m6 g1
 refine zJ (fun c4=> ?_) (fun c4=> ?_)
 ·obtain⟨r,hr⟩:∃r,n-m=r+1:=⟨n-m-1,by omega⟩
  have e1:(k:Int).toNat=k:=by omega
  rw[e1,g3,hr,w64 (x:=(n:Int)-1) (by omega),w64 (x:=(n:Int)-1-m) (by omega),w64 (x:=(yH n m:Int)+((n:Int)-1-m)) (by omega),w64 (x:=(m:Int)+1) (by omega)]
  rw[hr]at g3
  refine zJ (fun c5=> ?_) (fun c5=> ?_)
  ·rw[w64 (x:=(m:Int)+1+k) (by omega),w64 (x:=(m:Int)+1+k-(yH n m:Int)) (by omega),kI,yWm (by omega)]
   refine⟨(),rfl,?_,rfl,trivial⟩
   dsimp only;omega
  ·refine⟨m+1,?_,rfl,⟨by omega,?_,?_⟩,by(first|omega|(dsimp only;omega)),kp⟩
   ·rw[yH];omega
   ·rw[yH];omega
   ·rw[kI,yWl (by omega),show n-(m+1)=r by omega]
 ·have e1:(k:Int).toNat=k:=by omega
  rw[e1,g3,show n-m=0 by omega]
  exact⟨(),rfl,rfl,rfl,trivial⟩
theorem tU:legsC.ok Tryz.prog 186:=okw mixed (gokc aZ gok0) 0 (fun _=>[]) (fun i=>yRy i) [] Tryz.func186 yRu
theorem yHf (i:rJ) (h:spreadC.cnd i):z4z i:=by
 unfold z4z dR z8 dI
 obtain⟨h1,h2,h3⟩:i.p.small:=h
 refine⟨i.p,?_⟩
 simp only[y5]
 (repeat'(first|exact rfl|exact trivial|assumption|apply And.intro|refine fun(_:Unit) (_:True)=>?_|refine Exists.intro () ?_|omega|(dsimp only;omega)))
 have bad (hb:i.p.check≠0∨i.a<0∨i.b≤i.a∨(i.p.months.length:Int)≤i.b):∃(o:Unit),(i.p.spread i.a i.b).fst=0∧(i.p.spread i.a i.b).snd=false∧True:=⟨(),by rw[Prd.spread,yWm hb],by rw[Prd.spread,yWm hb],trivial⟩
 refine Cv.cnd.mk (fun c1=>bad (.inl (by simpa using c1))) fun c1=>zJ (fun c2=>bad (by omega)) fun c2=>zJ (fun c3=>bad (by omega)) fun c3=>zJ (fun c4=>bad (by omega)) fun c4=> ?_
 have c1:i.p.check=0:=by simpa using c1
 have m6:=(kP c1).m6
 rw[Prd.spread,yWl (by omega)]
 generalize hn:i.p.months.length=n at c4 m6 ⊢
 obtain⟨a,ha⟩:∃k:Nat,i.a=k:=⟨i.a.toNat,by omega⟩
 rw[ha]at c3 ⊢
 refine⟨0,rfl,rfl,fun m=>m≤a,fun m=>a-m,by omega,?_⟩
 intro m hm
 have hm:m≤a:=hm
 have hf:=zMc (m:=m) m6 (by omega)
 refine zJ (fun c5=> ?_) (fun c5=> ?_)
 ·rw[w64 (x:=(n:Int)-1) (by omega),w64 (x:=(n:Int)-1-m) (by omega),w64 (x:=(yH n m:Int)+((n:Int)-1-m)) (by omega),w64 (x:=(m:Int)+1) (by omega)]
  refine⟨m+1,?_,rfl,by omega,by(first|omega|(dsimp only;omega)),kp⟩
  rw[yH];omega
 ·obtain rfl:m=a:=by omega
  rw[w64 (x:=(yH n m:Int)+i.b) (by omega),w64 (x:=(yH n m:Int)+i.b-m) (by omega),w64 (x:=(yH n m:Int)+i.b-m-1) (by omega)]
  exact⟨(),rfl,rfl,trivial⟩
theorem zOp:spreadC.ok Tryz.prog 189:=okw mixed (gokc zBj gok0) 0 (fun _=>[]) (fun i=>yJc i) [] Tryz.func189 yHf
theorem yMb (i:rJ) (h:priceC.cnd i):yDg i:=by
 unfold yDg z8
 obtain⟨h1,h2,h3⟩:i.p.small:=h
 refine⟨i.p,?_⟩
 simp only[y5]
 (repeat'(first|exact rfl|exact trivial|assumption|apply And.intro|refine fun(_:Unit) (_:True)=>?_|refine Exists.intro () ?_|omega|(dsimp only;omega)))
 refine Cv.cnd.mk (fun c1=>⟨(),by rw[Prd.price,yWm (by have:(i.p.count:Int)=0:=(by simpa using c1);omega)],trivial⟩) fun c1=> ?_
 have c1:i.p.count≠0:=by
  have:¬(i.p.count:Int)=0:=by simpa using c1
  omega
 have e0:i.p.price i.a i.b=if i.a<0∨(i.p.count:Int)≤i.a then 20 else if qP i.p.tick i.b then 22 else
  if i.b<(if(i.p.months.length:Int)≤i.a then-i.p.wide else i.p.low)∨(if(i.p.months.length:Int)≤i.a then i.p.wide else i.p.high)<i.b then 23 else 0:=by rw[Prd.price,yWl c1]
 rw[e0]
 have ok:=kP (sI c1)
 obtain⟨t1,b3,b1,b2,b4,b5⟩:=(⟨ok.t1,ok.b3,ok.b1,ok.b2,ok.b4,ok.b5⟩:_∧_∧_∧_∧_∧_)
 refine zJ (fun c2=>⟨(),by rw[yWm (.inl c2)],trivial⟩) fun c2=>zJ (fun c3=>⟨(),by rw[yWm (.inr c3)],trivial⟩) fun c3=>⟨kp,by omega,?_⟩
 have c3:¬i.a≥(i.p.count:Int):=c3
 rw[yWl (by omega)]
 refine Cv.cnd.mk (fun c4=>⟨(),yWm c4,trivial⟩) fun c4=> ?_
 rw[yWl (by rw[qP,c4];simp),w64 (x:=0-i.p.wide) (by omega)]
 refine zJ (fun c5=> ?_) (fun c5=> ?_)
 ·have c5:(i.p.months.length:Int)≤i.a:=c5
  simp only[yWm c5]
  refine zJ (fun c6=>⟨(),yWm (.inl (by omega)),trivial⟩) fun c6=>zJ (fun c7=>⟨(),yWm (.inr (by omega)),trivial⟩) fun c7=>⟨(),yWl (by omega),trivial⟩
 ·have c5:¬(i.p.months.length:Int)≤i.a:=c5
  simp only[yWl c5]
  refine zJ (fun c6=>⟨(),yWm (.inl (by omega)),trivial⟩) fun c6=>zJ (fun c7=>⟨(),yWm (.inr (by omega)),trivial⟩) fun c7=>⟨(),yWl (by omega),trivial⟩
theorem sR:priceC.ok Tryz.prog 109:=okw mixed (gokc aZ gok0) 0 (fun _=>[]) (fun _=>[]) [] Tryz.func109 yMb
theorem yLr (x:Int) (h: -18446744073709551616≤x∧x<18446744073709551616):(yV x∧IntKind.i64.wrap x=x)∨(9223372036854775807<x∧IntKind.i64.wrap x=x-18446744073709551616)∨(x< -9223372036854775808∧IntKind.i64.wrap x=x+18446744073709551616):=by
 have e:IntKind.i64.wrap x=if(decide (x % 18446744073709551616≥9223372036854775808))=true then x % 18446744073709551616-18446744073709551616 else x % 18446744073709551616:=by
  have:IntKind.i64.wrap x=if(true && decide (x % 18446744073709551616≥9223372036854775808))=true then x % 18446744073709551616-18446744073709551616 else x % 18446744073709551616:=rfl
  rw[this,yZd]
 have e:IntKind.i64.wrap x=(x+9223372036854775808) % 18446744073709551616-9223372036854775808:=by
  rw[e]
  by_cases h2:x % 18446744073709551616≥9223372036854775808
  ·rw[yWm (yXf h2)];omega
  ·rw[yWl (by simpa using h2)];omega
 rw[e]
 by_cases h1:yV x
 ·exact .inl ⟨h1,by unfold yV at h1;omega⟩
 ·unfold yV at h1
  omega
theorem yVb (i:I2) (h:addC.cnd i):yUd i:=by
 obtain⟨⟨x1,x2⟩,y1,y2⟩:yV i.x∧yV i.y:=h
 have hw:=yLr (i.x+i.y) (by omega)
 unfold yUd zJt hZ
 generalize IntKind.i64.wrap (i.x+i.y)=w at hw ⊢
 unfold yV at hw ⊢
 refine Cv.cnd.mk (fun c1=>Cv.cnd.mk (fun c2=> ?_) (fun c2=> ?_)) (fun c1=> ?_)
 all_goals(simp at*)
 ·rw[yWl (by omega)];exact kp
 ·rw[yWm (by omega)];refine⟨?_,rfl⟩;dsimp only;omega
 ·rw[yWm (by omega)];refine⟨?_,rfl⟩;dsimp only;omega
theorem zRi:addC.ok Tryz.prog 220:=okw mixed gok0 0 (fun _=>[]) (fun _=>[]) [] Tryz.func220 yVb
theorem yUx (i:I2) (h:subC.cnd i):yTk i:=by
 obtain⟨⟨x1,x2⟩,y1,y2⟩:yV i.x∧yV i.y:=h
 have hw:=yLr (i.x-i.y) (by omega)
 unfold yTk zMk h9
 generalize IntKind.i64.wrap (i.x-i.y)=w at hw ⊢
 unfold yV at hw ⊢
 refine Cv.cnd.mk (fun c1=>Cv.cnd.mk (fun c2=> ?_) (fun c2=> ?_)) (fun c1=> ?_)
 all_goals(simp at*)
 ·rw[yWl (by omega)];exact kp
 ·rw[yWm (by omega)];refine⟨?_,rfl⟩;dsimp only;omega
 ·rw[yWm (by omega)];refine⟨?_,rfl⟩;dsimp only;omega
theorem zRc:subC.ok Tryz.prog 221:=okw mixed gok0 0 (fun _=>[]) (fun _=>[]) [] Tryz.func221 yUx
open Go Cv Go.Proofs
structure Slot where
 used:Bool
 n:Int
 id:Int
 qty:Int
 top:Bool
 queue:Int
 ahead:Int
 back:Int
 deriving DecidableEq
structure dW where
 first:Int
 last:Int
 total:Int
 count:Int
 deriving DecidableEq
structure Arena where
 slots:List Slot
 queues:List dW
 free:Int
 deriving DecidableEq
def zR (s:Slot):List D:=[.v (.bool s.used),.v (.int .i64 s.n),.v (.int .i64 s.id),.v (.int .i64 s.qty),.v (.bool s.top),.v (.int .i64 s.queue),.v (.int .i64 s.ahead),.v (.int .i64 s.back)]
def zP (q:dW):List D:=[.v (.int .i64 q.first),.v (.int .i64 q.last),.v (.int .i64 q.total),.v (.int .i64 q.count)]
def slot0:Slot:=⟨false,0,0,0,false,0,0,0⟩
def zH (a:Arena):Nat→AObj
 |0=> .cells [.own 1,.own 2,zA a.free] 350
 |1=> .own 305 8 (a.slots.map zR)
 |2=> .own 354 4 (a.queues.map zP)
 |_=> .gone
def jO (a:Arena):AObj:= .adt Arena 3 zH a
structure xM where
 price:Int
 queue:Int
 deriving DecidableEq
structure Place where
 side:Int
 price:Int
 slot:Int
 deriving DecidableEq
structure Book where
 a:Arena
 buys:List xM
 sells:List xM
 at_:List (Int×Place)
 top1:Int
 top2:Int
 spare:List Int
 has1:Bool
 has2:Bool
 deriving DecidableEq
def zC (r:xM):List D:=[.v (.int .i64 r.price),.v (.int .i64 r.queue)]
def zYi (p:Place):List D:=[.v (.int .i64 p.side),.v (.int .i64 p.price),.v (.int .i64 p.slot)]
def atE (l:List (Int×Place)):List (Value×List D):=l.map fun x=>(.int .i64 x.1,zYi x.2)
def zS (b:Book):Nat→AObj
 |0=> .cells [.nm 1 0,.own 2,.own 3,.mp 4,zA b.top1,zA b.top2,.own 5,yL b.has1,yL b.has2] 244
 |1=>jO b.a
 |2=> .own 301 2 (b.buys.map zC)
 |3=> .own 301 2 (b.sells.map zC)
 |4=> .map (atE b.at_)
 |5=> .own 3 1 (iE b.spare)
 |_=> .gone
def yB (b:Book):AObj:= .adt Book 6 zS b
structure MSt where
 p:Prd
 books:List Book
 wh:List (Int×Int)
def yU (l:List (Int×Int)):List (Value×List D):=l.map fun x=>(.int .i64 x.1,[.v (.int .i64 x.2)])
def xR (s:MSt):Nat→AObj
 |0=> .cells [sV s.p.code,.own 3,zA s.p.tick,zA s.p.low,zA s.p.high,zA s.p.wide,zA s.p.rule,zA s.p.top,zA s.p.least,zA s.p.part,.own 4,.own 1,.mp 2] 182
 |1=> .objs 184 Book 6 zS s.books none
 |2=> .map (yU s.wh)
 |3=> .fro 1 (iE s.p.months)
 |4=> .fro 1 (iE s.p.settle)
 |_=> .gone
def zE (s:MSt):AObj:= .adt MSt 5 xR s
def zJc (n:Nat):Arena:=⟨List.replicate n slot0,[],n⟩
def book0:Book:=⟨zJc 250,[],[],[],0,0,[],false,false⟩
def newAC:Con:=con1 Nat (fun n=>[zA n]) (fun _=>[]) (fun n=>1≤n∧n≤4096) (fun _=> .tup [.nm 0 0,zA 0]) (fun n=>[jO (zJc n)])
def newBC:Con:=con1 Unit (fun _=>[]) (fun _=>[]) (fun _=>True) (fun _=> .nm 0 0) (fun _=>[yB book0])
def cD (p:Prd):MSt:=⟨p,List.replicate p.count book0,[]⟩
def newSC:Con where
 ι:=Prd
 pat:=fun p=>[prdV p]
 pre:=fun _=>[]
 cnd:=fun p=>p.small
 alts:=fun p=>[{o:=Unit,res:=fun _=> .tup [.nm 0 0,zA 0],post:=fun _=>[zE (cD p)],rel:=fun _=>p.check=0},{o:=Unit,res:=fun _=> .tup [.d (.v (.pointer none)),zA p.check],post:=fun _=>[],rel:=fun _=>p.check≠0}]
def yTy (p:Prd):List SAnn:=[{ι:=Nat,slots:=fun j=>[(5,.nm 0 0),(27,zA j)],rows:=fun j=>(List.range 5).map (xR ⟨p,List.replicate j book0,[]⟩)}]
def clSlotC:Con:=con1 (List Slot) (fun _=>[.own 0]) (fun l=>[.own 305 8 (l.map zR)]) (fun l=>l.length≤1000000) (fun _=> .own 1) (fun l=>[.own 305 8 (l.map zR),.own 305 8 (l.map zR)])
def clQueueC:Con:=con1 (List dW) (fun _=>[.own 0]) (fun l=>[.own 354 4 (l.map zP)]) (fun l=>l.length≤1000000) (fun _=> .own 1) (fun l=>[.own 354 4 (l.map zP),.own 354 4 (l.map zP)])
def clRungC:Con:=con1 (List xM) (fun _=>[.own 0]) (fun l=>[.own 301 2 (l.map zC)]) (fun l=>l.length≤1000000) (fun _=> .own 1) (fun l=>[.own 301 2 (l.map zC),.own 301 2 (l.map zC)])
def clIntC:Con:=con1 (List Int) (fun _=>[.own 0]) (fun l=>[.own 3 1 (iE l)]) (fun l=>l.length≤1000000) (fun _=> .own 1) (fun l=>[.own 3 1 (iE l),.own 3 1 (iE l)])
def zXr (f:Nat):Con:=con1 (List (Value×List D)) (fun _=>[.mp 0]) (fun es=>[.map es]) (fun _=>True) (fun _=> .mp 1) (fun es=>[.map es,.map es])
def clAtC:Con:=zXr 0
def clWhC:Con:=zXr 1
@[reducible] def Arena.small (a:Arena):Prop:=a.slots.length≤1000000∧a.queues.length≤1000000
@[reducible] def Book.small (b:Book):Prop:=b.a.small∧b.buys.length≤1000000∧b.sells.length≤1000000∧b.spare.length≤1000000
@[reducible] def MSt.small (s:MSt):Prop:=s.books.length≤1000000∧∀b∈s.books,b.small
def copyAC:Con:=con1 Arena (fun _=>[.nm 0 0]) (fun a=>[jO a]) Arena.small (fun _=> .nm 1 0) (fun a=>[jO a,jO a])
def copyBC:Con:=con1 Book (fun _=>[.nm 0 0]) (fun b=>[yB b]) Book.small (fun _=> .nm 1 0) (fun b=>[yB b,yB b])
def yOy:List SAnn:=[{ι:=Unit,slots:=fun _=>[],rows:=fun _=>[],un:=3}]
def copySC:Con:=con1 MSt (fun _=>[.nm 0 0]) (fun s=>[zE s]) MSt.small (fun _=> .nm 1 0) (fun s=>[zE s,zE s])
open Go Cv Go.Proofs
def yLj (n:Nat):Prop:=
 cnd (decide ((↑n:Int)<1)) (∃(a:Unit),False) (cnd (decide ((↑n:Int)>4096)) (∃(a:Unit),False) ((0≤(↑n:Int)∧(↑n:Int)≤(↑n:Int)∧(↑n:Int)≤9223372036854775807∧(↑(64:Nat):Int)*(↑n:Int)≤2 ^ (48:Nat))∧∃(a:Unit),(0:Int)=(0:Int)∧(↑n:Int)=(↑n:Int)∧List.map zR (List.replicate n slot0)=List.replicate (↑n:Int).toNat [D.v (.bool false),dI 0,dI 0,dI 0,D.v (.bool false),dI 0,dI 0,dI 0]∧([]:List (List D))=[]∧True))
def yUi (u:Unit):Prop:=
 ∃(i:Nat),(↑i:Int)=250∧(1≤i∧i≤4096)∧∀(o:Unit),True→∃(o:Unit),(0:Int)=(0:Int)∧(0:Int)=(0:Int)∧false=false∧false=false∧AObj.adt Arena 3 zH (zJc 250)=AObj.adt Arena 3 zH (zJc i)∧([]:List (List D))=[]∧([]:List (List D))=[]∧atE []=[]∧iE []=[]∧True
def cY (a:Prd):Prop:=AObj.fro 1 (iE a.settle)=AObj.fro 1 (iE a.settle)∧AObj.fro 1 (iE a.months)=AObj.fro 1 (iE a.months)
def uP (a:Prd):=(D.v (Value.string (sb a.code)))
def zIi (a:Prd) (b:Nat) (c:Unit):Prop:=(∃(d:Unit),(0:Int)=(0:Int)∧sb a.code=sb a.code∧a.tick=a.tick∧a.low=a.low∧a.high=a.high∧a.wide=a.wide∧a.rule=a.rule∧a.top=a.top∧a.least=a.least∧a.part=a.part∧AObj.objs 184 Book 6 zS (List.replicate a.count book0) none=AObj.objs 184 Book 6 zS (List.replicate b book0) none∧yU []=yU []∧AObj.fro 1 (iE a.months)=AObj.fro 1 (iE a.months)∧AObj.fro 1 (iE a.settle)=AObj.fro 1 (iE a.settle)∧a.check=0)∨∃(c:Unit),False
def zQn (a:Prd):Prop:=True∧True∧(0+(iE a.months).length)*(8:Nat)≤(70368744177664:Nat)∧True∧(0+(iE a.settle).length)*(8:Nat)≤(70368744177664:Nat)∧∃(b:Prd),sb b.code=sb a.code∧iE b.months=[]++iE a.months∧b.tick=a.tick∧b.low=a.low∧b.high=a.high∧b.wide=a.wide∧b.rule=a.rule∧b.top=a.top∧b.least=a.least∧b.part=a.part∧iE b.settle=[]++iE a.settle∧(z8 b)∧∀(c:Unit),True→∃(d:Nat),(↑d:Int)=0∧sb a.code=sb a.code∧a.tick=a.tick∧a.low=a.low∧a.high=a.high∧a.wide=a.wide∧a.rule=a.rule∧a.top=a.top∧a.least=a.least∧a.part=a.part∧List.replicate d book0=[]∧(none:Option Nat)=none∧yU []=[]∧AObj.fro 1 (iE a.months)=AObj.fro 1 ([]++iE a.months)∧AObj.fro 1 (iE a.settle)=AObj.fro 1 ([]++iE a.settle)∧∃(e:Nat→Prop),∃(f:Nat→Nat),e d∧∀(g:Nat),e g→cnd (decide ((↑g:Int)<(↑b.count:Int))) (∃(h:Unit),True∧∀(j:Unit),True→True∧True∧∃(k:List Book),AObj.objs 184 Book 6 zS (List.replicate g book0) none=AObj.objs 184 Book 6 zS k none∧(k.length+1)*(8:Nat)≤(70368744177664:Nat)∧∃(l:Nat),(↑l:Int)=IntKind.i64.wrap ((↑g:Int)+1)∧sb a.code=sb a.code∧a.tick=a.tick∧a.low=a.low∧a.high=a.high∧a.wide=a.wide∧a.rule=a.rule∧a.top=a.top∧a.least=a.least∧a.part=a.part∧AObj.objs 184 Book 6 zS (List.replicate l book0) none=AObj.objs 184 Book 6 zS (k++[book0]) none∧yU []=yU []∧AObj.fro 1 (iE a.months)=AObj.fro 1 (iE a.months)∧AObj.fro 1 (iE a.settle)=AObj.fro 1 (iE a.settle)∧e l∧f l<f g∧AObj.fro 1 ([]++iE a.settle)=AObj.fro 1 ([]++iE a.settle)∧AObj.fro 1 ([]++iE a.months)=AObj.fro 1 ([]++iE a.months)∧Sx.AObj.cells [V.d (uP a),V.own ((0:Nat)+(1:Nat)+(1:Nat)+(1:Nat)+((0:Nat)-(0:Nat))+(1:Nat)+(1:Nat)),V.d (dI a.tick),V.d (dI a.low),V.d (dI a.high),V.d (dI a.wide),V.d (dI a.rule),V.d (dI a.top),V.d (dI a.least),V.d (dI a.part),V.own ((0:Nat)+(1:Nat)+(1:Nat)+(1:Nat)+((0:Nat)-(0:Nat))+(1:Nat)+(1:Nat)+1)] 26=Sx.AObj.cells [V.d (uP a),V.own ((0:Nat)+(1:Nat)+(1:Nat)+(1:Nat)+((0:Nat)-(0:Nat))+(1:Nat)+(1:Nat)),V.d (dI a.tick),V.d (dI a.low),V.d (dI a.high),V.d (dI a.wide),V.d (dI a.rule),V.d (dI a.top),V.d (dI a.least),V.d (dI a.part),V.own ((0:Nat)+(1:Nat)+(1:Nat)+(1:Nat)+((0:Nat)-(0:Nat))+(1:Nat)+(1:Nat)+1)] 26∧cY a) (zIi a g c)
def yKy (p:Prd):Prop:=
 ∃(a:Prd),sb a.code=sb p.code∧iE a.months=iE p.months∧a.tick=p.tick∧a.low=p.low∧a.high=p.high∧a.wide=p.wide∧a.rule=p.rule∧a.top=p.top∧a.least=p.least∧a.part=p.part∧iE a.settle=iE p.settle∧(z8 a)∧∀(b:Unit),True→cnd (a.check !=0) ((∃(c:Unit),False)∨∃(b:Unit),True∧p.check=a.check∧(p.check=0→False)) ((True∧True∧((0+(iE p.months).length)*(8:Nat)≤(70368744177664:Nat)∧True∧True∧(0+(iE p.settle).length)*(8:Nat)≤(70368744177664:Nat)∧∃(c:Prd),sb c.code=sb p.code∧iE c.months=[]++iE p.months∧c.tick=p.tick∧c.low=p.low∧c.high=p.high∧c.wide=p.wide∧c.rule=p.rule∧c.top=p.top∧c.least=p.least∧c.part=p.part∧iE c.settle=[]++iE p.settle∧(z8 c)∧∀(d:Unit),True→∃(e:Nat),(↑e:Int)=0∧sb p.code=sb p.code∧p.tick=p.tick∧p.low=p.low∧p.high=p.high∧p.wide=p.wide∧p.rule=p.rule∧p.top=p.top∧p.least=p.least∧p.part=p.part∧List.replicate e book0=[]∧(none:Option Nat)=none∧yU []=[]∧AObj.fro 1 (iE p.months)=AObj.fro 1 ([]++iE p.months)∧AObj.fro 1 (iE p.settle)=AObj.fro 1 ([]++iE p.settle)∧∃(f:Nat→Prop),∃(g:Nat→Nat),f e∧∀(h:Nat),f h→cnd (decide ((↑h:Int)<(↑c.count:Int))) (∃(j:Unit),True∧∀(k:Unit),True→True∧True∧∃(l:List Book),AObj.objs 184 Book 6 zS (List.replicate h book0) none=AObj.objs 184 Book 6 zS l none∧(l.length+1)*(8:Nat)≤(70368744177664:Nat)∧∃(m:Nat),(↑m:Int)=IntKind.i64.wrap ((↑h:Int)+1)∧sb p.code=sb p.code∧p.tick=p.tick∧p.low=p.low∧p.high=p.high∧p.wide=p.wide∧p.rule=p.rule∧p.top=p.top∧p.least=p.least∧p.part=p.part∧AObj.objs 184 Book 6 zS (List.replicate m book0) none=AObj.objs 184 Book 6 zS (l++[book0]) none∧yU []=yU []∧AObj.fro 1 (iE p.months)=AObj.fro 1 (iE p.months)∧AObj.fro 1 (iE p.settle)=AObj.fro 1 (iE p.settle)∧f m∧g m<g h∧AObj.fro 1 ([]++iE p.settle)=AObj.fro 1 ([]++iE p.settle)∧AObj.fro 1 ([]++iE p.months)=AObj.fro 1 ([]++iE p.months)∧Sx.AObj.cells [V.d (uP p),V.own ((0:Nat)+(1:Nat)+(1:Nat)+(1:Nat)+((0:Nat)-(0:Nat))+1),V.d (dI p.tick),V.d (dI p.low),V.d (dI p.high),V.d (dI p.wide),V.d (dI p.rule),V.d (dI p.top),V.d (dI p.least),V.d (dI p.part),V.own ((0:Nat)+(1:Nat)+(1:Nat)+(1:Nat)+((0:Nat)-(0:Nat))+(1:Nat)+(1:Nat)+1)] 26=Sx.AObj.cells [V.d (uP p),V.own ((0:Nat)+(1:Nat)+(1:Nat)+(1:Nat)+((0:Nat)-(0:Nat))+1),V.d (dI p.tick),V.d (dI p.low),V.d (dI p.high),V.d (dI p.wide),V.d (dI p.rule),V.d (dI p.top),V.d (dI p.least),V.d (dI p.part),V.own ((0:Nat)+(1:Nat)+(1:Nat)+(1:Nat)+((0:Nat)-(0:Nat))+(1:Nat)+(1:Nat)+1)] 26∧cY p) (zIi p h d))∧zQn p)∧True∧True∧zQn p)
def yKa (l:List Slot):Prop:=
 ∀(b:Bool),(b=true→List.map zR l=[])→cnd b (∃(o:Unit),List.map zR l=List.map zR l∧List.map zR l=[]∧True) ((0+(List.map zR l).length)*(64:Nat)≤(70368744177664:Nat)∧∃(o:Unit),List.map zR l=List.map zR l∧List.map zR l=[]++List.map zR l∧True)
def yFm (l:List dW):Prop:=
 ∀(b:Bool),(b=true→List.map zP l=[])→cnd b (∃(o:Unit),List.map zP l=List.map zP l∧List.map zP l=[]∧True) ((0+(List.map zP l).length)*(32:Nat)≤(70368744177664:Nat)∧∃(o:Unit),List.map zP l=List.map zP l∧List.map zP l=[]++List.map zP l∧True)
def yJd (l:List xM):Prop:=
 ∀(b:Bool),(b=true→List.map zC l=[])→cnd b (∃(o:Unit),List.map zC l=List.map zC l∧List.map zC l=[]∧True) ((0+(List.map zC l).length)*(16:Nat)≤(70368744177664:Nat)∧∃(o:Unit),List.map zC l=List.map zC l∧List.map zC l=[]++List.map zC l∧True)
def yOe (l:List Int):Prop:=
 ∀(b:Bool),(b=true→iE l=[])→cnd b (∃(o:Unit),iE l=iE l∧iE l=[]∧True) ((0+(iE l).length)*(8:Nat)≤(70368744177664:Nat)∧∃(o:Unit),iE l=iE l∧iE l=[]++iE l∧True)
def yAw (es:List (Value×List D)):Prop:=
 ∃(a:List (Value×List D)),a=es∧True∧∀(b:Unit),True→∃(c:Unit),es=a∧es=a∧True
theorem yMa (es:List (Value×List D)):yAw es=walk Tryz.prog ([(147,gE 240)]) 0 ([]) ([]) [] Tryz.f181 (Tryz.f181.body.getD .skip) (clAtC.pat es) (clAtC.pre es) (clAtC.alts es):=by kernel_rfl
theorem yPo (hG:GOk Tryz.prog ([(147,gE 240)])) (h:∀(es:List (Value×List D)),clAtC.cnd es→yAw es):clAtC.ok Tryz.prog 181:=dA mixed ([(147,gE 240)]) hG 0 (fun(es:List (Value×List D))=>[]) (fun(es:List (Value×List D))=>[]) [] Tryz.func181 (by kernel_rfl) (by kernel_rfl) (by kernel_rfl) (fun _=>by kernel_rfl) (fun(es:List (Value×List D)) hc=>Eq.mp (yMa es) (h es hc))
def z9k (es:List (Value×List D)):Prop:=
 ∃(a:List (Value×List D)),a=es∧True∧∀(b:Unit),True→∃(c:Unit),es=a∧es=a∧True
theorem yOz (es:List (Value×List D)):z9k es=walk Tryz.prog ([(147,gE 105)]) 0 ([]) ([]) [] Tryz.f145 (Tryz.f145.body.getD .skip) (clWhC.pat es) (clWhC.pre es) (clWhC.alts es):=by kernel_rfl
theorem yNr (hG:GOk Tryz.prog ([(147,gE 105)])) (h:∀(es:List (Value×List D)),clWhC.cnd es→z9k es):clWhC.ok Tryz.prog 145:=dA mixed ([(147,gE 105)]) hG 0 (fun(es:List (Value×List D))=>[]) (fun(es:List (Value×List D))=>[]) [] Tryz.func145 (by kernel_rfl) (by kernel_rfl) (by kernel_rfl) (fun _=>by kernel_rfl) (fun(es:List (Value×List D)) hc=>Eq.mp (yOz es) (h es hc))
def yOu (a:Arena):Prop:=
 ∃(i:List Slot),List.map zR i=List.map zR a.slots∧i.length≤1000000∧∀(o:Unit),True→a.free=a.free∧True∧∃(i_1:List dW),List.map zP i_1=List.map zP a.queues∧i_1.length≤1000000∧∀(o:Unit),True→a.free=a.free∧∃(o:Unit),a.free=a.free∧List.map zR a.slots=List.map zR i∧List.map zP a.queues=List.map zP i_1∧a.free=a.free∧List.map zR a.slots=List.map zR i∧List.map zP a.queues=List.map zP i_1∧True
def yQh (b:Book):Prop:=
 ∃(i:Arena),AObj.adt Arena 3 zH i=AObj.adt Arena 3 zH b.a∧(i.slots.length≤1000000∧i.queues.length≤1000000)∧∀(o:Unit),True→True∧True∧∃(i_1:List (Value×List D)),i_1=atE b.at_∧True∧∀(o:Unit),True→True∧∃(i_2:List Int),iE i_2=iE b.spare∧i_2.length≤1000000∧∀(o:Unit),True→∃(i_3:List xM),List.map zC i_3=List.map zC b.buys∧i_3.length≤1000000∧∀(o:Unit),True→∃(i_4:List xM),List.map zC i_4=List.map zC b.sells∧i_4.length≤1000000∧∀(o:Unit),True→∃(o:Unit),b.top1=b.top1∧b.top2=b.top2∧b.has1=b.has1∧b.has2=b.has2∧AObj.adt Arena 3 zH b.a=AObj.adt Arena 3 zH i∧List.map zC b.buys=List.map zC i_3∧List.map zC b.sells=List.map zC i_4∧atE b.at_=i_1∧iE b.spare=iE i_2∧b.top1=b.top1∧b.top2=b.top2∧b.has1=b.has1∧b.has2=b.has2∧AObj.adt Arena 3 zH b.a=AObj.adt Arena 3 zH i∧List.map zC b.buys=List.map zC i_3∧List.map zC b.sells=List.map zC i_4∧atE b.at_=i_1∧iE b.spare=iE i_2∧True
end Sx
