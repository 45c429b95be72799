/- Texts of ours, one behind the other: a walk that the kernel reckons, and contracts of functions. No condition. -/
import Derived.Test.YthkofaanekmpmaaGreatU9
namespace Sx
set_option linter.unusedVariables false
set_option linter.unusedSimpArgs false
set_option maxRecDepth 100000
open Go Cv Go.Proofs
theorem yPe (k:Nat):∀n:Int,le (n % 256 ^ k) k=le n k:=by
 induction k with
 |zero=>intro n;rfl
 |succ k ih=>
  intro n
  have hp:(0:Int)<256 ^ k:=Int.pow_pos (by omega)
  have h1:lob (n % 256 ^ (k+1))=lob n:=by
   unfold lob
   rw[Int.pow_succ,y1w,Int.emod_emod_of_dvd n ⟨256 ^ k,rfl⟩]
  have h2:n % 256 ^ (k+1) / 256=n / 256 % 256 ^ k:=by
   have e:n=256*(n / 256)+n % 256:=(Int.mul_ediv_add_emod n 256).symm
   have e2:n / 256=256 ^ k*(n / 256 / 256 ^ k)+n / 256 % 256 ^ k:=(Int.mul_ediv_add_emod _ _).symm
   have hr:=y1j (n / 256) (show(256:Int) ^ k≠0 by omega)
   have hr2:=y1a (n / 256) hp
   have e3:n % 256 ^ (k+1)=256*(n / 256 % 256 ^ k)+n % 256:=by
    have:n=256 ^ (k+1)*(n / 256 / 256 ^ k)+(256*(n / 256 % 256 ^ k)+n % 256):=by
     rw[Int.pow_succ,y1w (256 ^ k) 256,Int.mul_assoc,← Int.add_assoc,← Int.mul_add,← e2]
     exact e
    conv=>lhs;rw[this]
    rw[Int.add_comm,y0w,y2s]
    ·omega
    ·rw[Int.pow_succ];omega
   rw[e3]
   omega
  rw[le,le,h1,h2,ih]
theorem z6w (n:Int):le (IntKind.u64.wrap n) 8=le n 8:=yPe 8 n
theorem zYc (n:Int):lob (IntKind.u64.wrap n)=lob n:=by
 have:IntKind.u64.wrap n=n % 18446744073709551616:=rfl
 unfold lob
 rw[this,Int.emod_emod_of_dvd n ⟨72057594037927936,by decide⟩]
theorem cJ (n:Int):0≤IntKind.u64.wrap n∧IntKind.u64.wrap n<18446744073709551616:=by
 have:IntKind.u64.wrap n=n % 18446744073709551616:=rfl
 rw[this];omega
theorem yRu (i:WN) (h:byteC.cnd i):yKf i:=by
 unfold yKf cP
 have h:i.l.length+8≤1099511627776:=h
 exact⟨⟨i.l,IntKind.u64.wrap i.n,1⟩,rfl,rfl,rfl,⟨(cJ _).1,(cJ _).2,by dsimp only;omega⟩,fun _ _=>⟨(),by simp only[le,zYc],trivial⟩⟩
theorem ySj (i:WN) (h:longC.cnd i):yJq i:=by
 unfold yJq cP
 have h:i.l.length+8≤1099511627776:=h
 exact⟨⟨i.l,IntKind.u64.wrap i.n,8⟩,rfl,rfl,rfl,⟨(cJ _).1,(cJ _).2,by dsimp only;omega⟩,fun _ _=>⟨(),by simp only[z6w],trivial⟩⟩
theorem yVn (i:WN) (h:sumC.cnd i):yRf i:=by
 unfold yRf cP
 obtain⟨h1,h2,h3⟩:=h
 have e:IntKind.u64.wrap i.n=i.n:=zAu (by omega)
 exact⟨⟨i.l,IntKind.u64.wrap i.n,4⟩,rfl,rfl,rfl,⟨(cJ _).1,(cJ _).2,by dsimp only;omega⟩,fun _ _=>⟨(),by simp only[e],trivial⟩⟩
theorem z2k:byteC.ok Tryz.prog 68:=okw mixed (gokc zYo gok0) 0 (fun _=>[]) (fun _=>[]) [] Tryz.func68 yRu
theorem zSh:longC.ok Tryz.prog 67:=okw mixed (gokc zYo gok0) 0 (fun _=>[]) (fun _=>[]) [] Tryz.func67 ySj
theorem zYs:sumC.ok Tryz.prog 70:=okw mixed (gokc zYo gok0) 0 (fun _=>[]) (fun _=>[]) [] Tryz.func70 yVn
theorem zXe:cloneBO.ok Tryz.prog 99:=z6v gok0 fun i h=>fun b hb=>
 Cv.cnd.mk (fun e=>⟨(),rfl,hb e,trivial⟩) (fun _=>⟨by rw[yXk];exact h,(),rfl,rfl,trivial⟩)
theorem zXd:cloneBR.ok Tryz.prog 99:=z6y gok0 fun i h=>fun b hb=>
 Cv.cnd.mk (fun e=>⟨(),hb e,trivial⟩) (fun _=>⟨by rw[yXk];exact h,(),rfl,trivial⟩)
theorem zSl:newWC.ok Tryz.prog 66:=okw (V:=ySd) mixed gok0 0 (fun _=>[]) (fun _=>[]) [] Tryz.func66 fun(_:Unit) _=>⟨(),rfl,trivial⟩
theorem zQq:doneC.ok Tryz.prog 72:=okw (V:=yRq) mixed (gokc zXe gok0) 0 (fun _=>[]) (fun _=>[]) [0] Tryz.func72 fun(i:List UInt8) h=>by
 have h:i.length≤1099511627776:=h
 exact⟨_,rfl,by rw[vK];omega,fun _ _=>⟨(),rfl,rfl,trivial⟩⟩
theorem yGi:newRC.ok Tryz.prog 73:=okw (V:=ySk) mixed (gokc zXd gok0) 0 (fun _=>[]) (fun _=>[]) [] Tryz.func73 fun(i:List UInt8) h=>by
 have h:i.length≤1099511627776:=h
 exact⟨_,rfl,by rw[vK];omega,fun _ _=>⟨(),rfl,rfl,trivial⟩⟩
theorem zNh {l:List UInt8} {i:Nat} {b:UInt8} (h:l[i]? =some b):zE (bE l) i 0 1=some [.v (.int .u8 b.toNat)]:=by
 unfold zE bE
 rw[yXr,h];rfl
theorem z6h {l:List UInt8} {i:Nat} {b:UInt8} (h:l[i]? =some b):zCo (l.take (i+1))=k0 8 (aI .u32 (zCo (l.take i)) b.toNat):=by
 unfold zCo
 rw[yXt,h]
 simp[y0r]
theorem ySv (b:UInt8):IntKind.u32.wrap (b.toNat:Int)=b.toNat:=yUi (by have:=b.toNat_lt;omega)
theorem yRt (b:UInt8):IntKind.u64.wrap (b.toNat:Int)=b.toNat:=zAu (by have:=b.toNat_lt;omega)
theorem yVz (i:List UInt8) (h:crcC.cnd i):yUc i:=by
 unfold yUc kI
 have h:i.length≤1099511627776:=h
 refine⟨0,rfl,rfl,fun j=>j≤i.length,fun j=>i.length-j,by dsimp only;omega,fun j hj=>zI (fun hlt=> ?_) (fun hlt=> ?_)⟩
 ·dsimp only at hj
  rw[vK]at hlt
  obtain⟨b,hb⟩:∃b,i[j]? =some b:=⟨_,yXj (by omega)⟩
  refine⟨⟨by omega,by rw[vK];omega⟩,b.toNat,zNh hb,(aI .u32 (zCo (i.take j)) b.toNat,0),?_,rfl,fun x=>x.1=aI .u32 (zCo (i.take j)) b.toNat∧x.2≤8,fun x=>8-x.2,⟨rfl,by dsimp only;omega⟩,?_⟩
  ·simp only[k0,ySv]
  rintro⟨c,n⟩ ⟨h1,h2⟩
  dsimp only at h1 h2
  subst h1
  refine zI (fun hn=>⟨by omega,zI (fun hc=> ?_) (fun hc=> ?_)⟩) (fun hn=> ?_)
  ·refine⟨(aI .u32 (zCo (i.take j)) b.toNat,n+1),?_,?_,⟨rfl,by dsimp only at hn ⊢;omega⟩,by dsimp only at hn ⊢;omega,trivial⟩
   ·simp only[k0,zIl];rw[yWl hc]
   ·rw[w64 (by dsimp only;omega)];rfl
  ·refine⟨(aI .u32 (zCo (i.take j)) b.toNat,n+1),?_,?_,⟨rfl,by dsimp only at hn ⊢;omega⟩,by dsimp only at hn ⊢;omega,trivial⟩
   ·simp only[k0,zIl];rw[yWj hc]
   ·rw[w64 (by dsimp only;omega)];rfl
  ·dsimp only at hn
   obtain rfl:n=8:=by omega
   refine⟨j+1,z6h hb,?_,by dsimp only;omega,by dsimp only;omega,trivial⟩
   rw[w64 (by omega)];rfl
 ·dsimp only at hj
  rw[vK]at hlt
  refine⟨(),?_,trivial⟩
  rw[yWu (by omega)]
  rfl
theorem zYi:crcC.ok Tryz.prog 71:=okw mixed gok0 0 (fun _=>[]) (fun i=>yUg i) [] Tryz.func71 yVz
theorem yIj:takeC.ok Tryz.prog 174:=okw (V:=yTs) mixed gok0 0 (fun _=>[]) (fun _=>[]) [0] Tryz.func174 fun(i:RN) h=>by
 obtain⟨h1,h2⟩:=h
 refine Cv.cnd.mk (fun e=> ?_) (fun e=>zI (fun hlt=> ?_) (fun hlt=> ?_))
 ·have:i.bad=true:=by simp[RN.bad,e]
  exact⟨(),by simp[RN.got,this],by simp[RN.left,this],this,trivial⟩
 ·rw[vK]at hlt
  have:i.bad=true:=by simp[RN.bad];right;omega
  exact⟨(),by simp[RN.got,this],by simp[RN.left,this],by rw[this,vK];simp;omega,trivial⟩
 ·rw[vK]at hlt
  have:i.bad=false:=by simp[RN.bad,e];omega
  rw[vK]
  exact⟨⟨by omega,by omega⟩,⟨by omega,by omega⟩,(),by simp[RN.got,this,z0k],by simp[RN.left,this,z3w],by rw[this];simp;omega,trivial⟩
theorem pO:∀l:List UInt8,0≤kF l∧kF l<256 ^ l.length
 |[]=>by simp[kF]
 |b::l=>by
  obtain⟨h1,h2⟩:=pO l
  have:=b.toNat_lt
  simp only[kF,yWr,Int.pow_succ]
  omega
theorem zOv (b:UInt8):∀l:List UInt8,kF (l++[b])=kF l+b.toNat*256 ^ l.length
 |[]=>by simp[kF]
 |c::l=>by
  simp only[yYd,kF,zOv b l,yWr,Int.pow_succ,Int.mul_add]
  rw[y1w (256 ^ l.length) 256,← Int.mul_assoc,← Int.mul_assoc,y1w 256 (b.toNat:Int)]
  omega
theorem yBn {x b j:Nat} (hx:x<256 ^ j) (hb:b<256) (hj:j<8):iOr .u64 x (zSs .u64 b ((8*j:Nat):Int))=((x+b*256 ^ j:Nat):Int):=by
 have hp:256 ^ j=2 ^ (8*j):=by rw[Nat.pow_mul]
 have hle:256 ^ (j+1)≤256 ^ 8:=Nat.pow_le_pow_right (by omega) (by omega)
 have hbig:x+b*256 ^ j<256 ^ (j+1):=by
  rw[Nat.pow_succ]
  have:b*256 ^ j≤255*256 ^ j:=yXu _ (by omega)
  omega
 have h8:(256:Nat) ^ 8=18446744073709551616:=by decide
 rw[← yGq,← yMa]
 have e1:yPl .u64 (b:Int) ((8*j:Nat):Int)=((b*256 ^ j:Nat):Int):=by
  show wr .u64 (Int.ofNat (b*2 ^ (Nat.min (8*j) 64)))=_
  rw[show Nat.min (8*j) 64=8*j from y0i (by omega),← hp,z0z]
  exact zAu (by show(0:Int)≤((b*256 ^ j:Nat):Int)∧((b*256 ^ j:Nat):Int)<_;omega)
 rw[e1]
 show wr .u64 (Int.ofNat (Nat.lor (x % 18446744073709551616) ((b*256 ^ j) % 18446744073709551616)))=_
 rw[y0l (by omega),y0l (by omega)]
 have e2:Nat.lor x (b*256 ^ j)=x+b*256 ^ j:=by
  show x|||(b*256 ^ j)=_
  rw[hp]at hx ⊢
  rw[Nat.or_comm,← Nat.shiftLeft_eq,← Nat.shiftLeft_add_eq_or_of_lt hx,y2g]
 rw[e2,z0z]
 exact zAu (by show(0:Int)≤((x+b*256 ^ j:Nat):Int)∧((x+b*256 ^ j:Nat):Int)<_;omega)
theorem zQd (i:RN):i.got.length≤i.n:=by
 unfold RN.got;split
 ·simp
 ·rw[yXd];omega
theorem ySt (i:RN) (h:getC.cnd i):yRg i:=by
 unfold yRg
 obtain⟨h1,h2⟩:=h
 refine⟨i,rfl,rfl,⟨by omega,h2⟩,fun _ _=>⟨0,rfl,rfl,fun j=>j≤i.got.length,fun j=>i.got.length-j,by dsimp only;omega,fun j hj=>zI (fun hlt=> ?_) (fun hlt=> ?_)⟩⟩
 ·dsimp only at hj
  have hl:=zQd i
  rw[vK]at hlt ⊢
  obtain⟨b,hb⟩:∃b,i.got[j]? =some b:=⟨_,yXj (by omega)⟩
  have e8:IntKind.i64.wrap (8*(j:Int))=8*j:=w64 (by omega)
  refine⟨⟨by omega,by omega⟩,b.toNat,zNh hb,by rw[e8];omega,j+1,?_,?_,by dsimp only;omega,by dsimp only;omega,rfl⟩
  ·rw[e8,yRt,yXt,hb]
   simp only[y0c]
   rw[zOv]
   obtain⟨r1,r2⟩:=pO (i.got.take j)
   rw[yXd,y0i (by omega)]at r2 ⊢
   obtain⟨x,hx⟩:∃x:Nat,kF (i.got.take j)=x:=⟨(kF (i.got.take j)).toNat,by omega⟩
   rw[hx]at r2 ⊢
   have:=yBn (x:=x) (b:=b.toNat) (j:=j) (by exact_mod_cast r2) b.toNat_lt (by omega)
   rw[show(8*(j:Int))=((8*j:Nat):Int)by simp,this]
   simp
  ·rw[w64 (by omega)];rfl
 ·dsimp only at hj
  rw[vK]at hlt
  exact⟨(),by rw[yWu (by omega)],rfl,trivial⟩
theorem z7h:getC.ok Tryz.prog 127:=okw mixed (gokc yIj gok0) 0 (fun _=>[]) (fun i=>yUf i) [] Tryz.func127 ySt
theorem zTt:rbyteC.ok Tryz.prog 75:=okw (V:=yMt) mixed (gokc z7h gok0) 0 (fun _=>[]) (fun _=>[]) [] Tryz.func75 fun(i:RB) h=>by
 have hl:=zQd (i.n 1)
 have hr:=pO (i.n 1).got
 have h0:(256:Int) ^ (i.n 1).got.length≤256 ^ 1:=by
  have:(256:Nat) ^ (i.n 1).got.length≤256 ^ 1:=Nat.pow_le_pow_right (by omega) hl
  exact_mod_cast this
 exact⟨i.n 1,rfl,rfl,⟨by show 1≤8;omega,h⟩,fun _ _=>⟨(),(w64 (by omega)).symm,rfl,trivial⟩⟩
theorem zVm:rlongC.ok Tryz.prog 74:=okw (V:=yMg) mixed (gokc z7h gok0) 0 (fun _=>[]) (fun _=>[]) [] Tryz.func74 fun(i:RB) h=>by
 exact⟨i.n 8,rfl,rfl,⟨by show 8≤8;omega,h⟩,fun _ _=>⟨(),rfl,rfl,trivial⟩⟩
theorem yFi:rendC.ok Tryz.prog 77:=okw (V:=yTy) mixed gok0 0 (fun _=>[]) (fun _=>[]) [0] Tryz.func77 fun(i:RB) h=>by
 refine Cv.cnd.mk (fun e=>⟨(),by rw[yWl e],rfl,rfl,trivial⟩) (fun e=>zI (fun hlt=>⟨(),?_,rfl,rfl,trivial⟩) (fun hlt=>⟨(),?_,rfl,rfl,trivial⟩))
 ·rw[vK]at hlt;rw[yWj (by simp[e]),yWl (by omega)]
 ·rw[vK]at hlt;rw[yWj (by simp[e]),yWj (by omega)]
open Go Cv Go.Proofs
open Classical
structure Sd where
 levels:List Lv
 imp:Lv
 has:Bool
@[reducible] def Vw:=List (Sd×Sd)
def yI (b:Sd×Sd):List D:=[.ro 3 (b.1.levels.map lvE),.v (.int .i64 b.1.imp.price),.v (.int .i64 b.1.imp.qty),.v (.int .i64 b.1.imp.count),.v (.bool b.1.has),
 .ro 3 (b.2.levels.map lvE),.v (.int .i64 b.2.imp.price),.v (.int .i64 b.2.imp.qty),.v (.int .i64 b.2.imp.count),.v (.bool b.2.has)]
def sdV (s:Sd):V:= .agg [roV 3 (s.levels.map lvE),zA s.imp.price,zA s.imp.qty,zA s.imp.count,yF s.has]
def vwV (v:Vw):V:= .agg [roV 10 (v.map yI)]
def bZ (side x y:Int):Bool:=if side=1 then decide (y<x)else decide (x<y)
structure I3 where
 side:Int
 x:Int
 y:Int
def betterC:Con:=con1 I3 (fun i=>[zA i.side,zA i.x,zA i.y]) (fun _=>[]) (fun _=>True) (fun i=>yF (bZ i.side i.x i.y)) (fun _=>[])
def LvAt (side:Int) (l:List Lv) (i:Nat):Prop:=∀a,l[i]?=some a→1≤a.qty∧1≤a.count∧∀j b,i=j+1→l[j]?=some b→bZ side b.price a.price=true
def SdRight (side:Int) (s:Sd):Prop:=(∀i,LvAt side s.levels i)∧s.levels.length≤255∧(s.has=true→1≤s.imp.qty∧1≤s.imp.count)∧(s.has=false→s.imp=⟨0,0,0⟩)
def qM (v:Vw):Prop:=(∀b∈v,SdRight 1 b.1∧SdRight 2 b.2)∧v.length≤255
noncomputable def jE (side:Int) (s:Sd):Bool:=decide (SdRight side s)
noncomputable def kO (v:Vw):Bool:=decide (qM v)
structure SdI where
 side:Int
 s:Sd
noncomputable def srightC:Con:=con1 SdI (fun i=>[zA i.side,sdV i.s]) (fun _=>[]) (fun i=>i.s.levels.length≤1099511627776) (fun i=>yF (jE i.side i.s)) (fun _=>[])
def yHu:List SAnn:=[{ι:=Nat,slots:=fun j=>[(10,zA j)],rows:=fun _=>[]}]
@[reducible] def uR (v:Vw):Prop:=v.length≤1099511627776∧∀b∈v,b.1.levels.length≤1099511627776∧b.2.levels.length≤1099511627776
noncomputable def rightVC:Con:=con1 Vw (fun v=>[vwV v]) (fun _=>[]) uR (fun v=>yF (kO v)) (fun _=>[])
def yGe:List SAnn:=[{ι:=Nat,slots:=fun j=>[(8,zA j)],rows:=fun _=>[]}]
def yX (l:Lv):List UInt8:=le l.price 8++le l.qty 8++le l.count 8
structure zXi where
 l:List UInt8
 v:Lv
def putLC:Con:=con1 zXi (fun i=>[.nm 0 0,lvV i.v]) (fun i=>[Wr i.l]) (fun i=>i.l.length+24≤1099511627776) (fun _=>zBo) (fun i=>[Wr (i.l++yX i.v)])
def gZ (s:Sd):List UInt8:=[lob s.levels.length]++s.levels.flatMap yX++(if s.has then[lob 1]++yX s.imp else[lob 0])
def y4 (b:Sd×Sd):List UInt8:=gZ b.1++gZ b.2
def xE (v:Vw) (seq:Int):List UInt8:=le seq 8++[lob v.length]++v.flatMap y4
noncomputable def yE (v:Vw) (seq:Int):List UInt8:=if qM v then xE v seq++le (kC (xE v seq)) 4 else[]
noncomputable def wG (v:Vw):Int:=if qM v then 0 else 12
structure rG where
 v:Vw
 seq:Int
noncomputable def encC:Con:=con1 rG (fun i=>[vwV i.v,zA i.seq]) (fun _=>[]) (fun i=>uR i.v) (fun i=> .tup [roV 1 (bE (yE i.v i.seq)),zA (wG i.v)]) (fun _=>[])
def yTp (i:rG):List SAnn:=[
 {ι:=Nat,slots:=fun j=>[(6,.nm 0 0),(28,zA j)],rows:=fun j=>[Wr (le i.seq 8++[lob i.v.length]++(i.v.take j).flatMap y4)]},
 {ι:=Unit,slots:=fun _=>[],rows:=fun _=>[],un:=3},
 {ι:=List UInt8×List Lv×Nat,slots:=fun x=>[(6,.nm 0 0),(44,zA x.2.2)],rows:=fun x=>[Wr (x.1++(x.2.1.take x.2.2).flatMap yX)]}]
open Go Cv Go.Proofs
def yGb (i:I3):Prop:=
 cnd (i.side==1) (∃(o:Unit),bZ i.side i.x i.y=decide (i.x>i.y)∧True) (∃(o:Unit),bZ i.side i.x i.y=decide (i.x<i.y)∧True)
def zAy (a:Nat) (b:Nat→Prop) (c:Nat→Nat) (d:SdI):Prop:=∃(e:Nat),(↑e:Int)=IntKind.i64.wrap ((↑a:Int)+1)∧b e∧c e<c a∧Sx.AObj.cells [V.own 0,V.d (dI d.s.imp.price),V.d (dI d.s.imp.qty),V.d (dI d.s.imp.count),V.d (D.v (.bool d.s.has))] 43=Sx.AObj.cells [V.own 0,V.d (dI d.s.imp.price),V.d (dI d.s.imp.qty),V.d (dI d.s.imp.count),V.d (D.v (.bool d.s.has))] 43∧AObj.fro 3 (List.map lvE d.s.levels)=AObj.fro 3 (List.map lvE d.s.levels)
def gA (a:SdI):=(↑(List.map lvE a.s.levels).length:Int)
def z0m (i:SdI):Prop:=
 ∃(a:Nat),(↑a:Int)=0∧∃(b:Nat→Prop),∃(c:Nat→Nat),b a∧∀(d:Nat),b d→cnd (decide ((↑d:Int)<(gA i))) ((0≤(↑d:Int)∧(↑d:Int)<(gA i))∧∃(e:Int),∃(f:Int),∃(g:Int),zE (List.map lvE i.s.levels) (↑d:Int).toNat 0 3=some [dI e,dI f,dI g]∧cnd (decide (f<1)) (∃(h:Unit),jE i.side i.s=false∧True) (cnd (decide (g<1)) (∃(h:Unit),jE i.side i.s=false∧True) (cnd (decide ((↑d:Int)>0)) ((0≤IntKind.i64.wrap ((↑d:Int)-1)∧IntKind.i64.wrap ((↑d:Int)-1)<(gA i))∧∃(h:Int),zE (List.map lvE i.s.levels) (IntKind.i64.wrap ((↑d:Int)-1)).toNat ((0:Nat)+(0:Nat)) 1=some [dI h]∧∃(j:I3),j.side=i.side∧j.x=h∧j.y=e∧True∧∀(k:Unit),True→cnd (!bZ j.side j.x j.y) (∃(l:Unit),jE i.side i.s=false∧True) (zAy d b c i)) (zAy d b c i)))) (cnd (!i.s.has) (cnd (decide ((gA i)≤255)) (∃(e:Unit),jE i.side i.s=(i.s.imp.price==0 && (i.s.imp.qty==0 && (i.s.imp.count==0 && true)))∧True) (∃(e:Unit),jE i.side i.s=false∧True)) (cnd (decide ((gA i)≤255)) (cnd (decide (i.s.imp.qty≥1)) (∃(e:Unit),jE i.side i.s=decide (i.s.imp.count≥1)∧True) (∃(e:Unit),jE i.side i.s=false∧True)) (∃(e:Unit),jE i.side i.s=false∧True)))
def z1f (i:Vw):Prop:=
 ∃(a:Nat),(↑a:Int)=0∧∃(b:Nat→Prop),∃(c:Nat→Nat),b a∧∀(d:Nat),b d→cnd (decide ((↑d:Int)<(↑(List.map yI i).length:Int))) ((0≤(↑d:Int)∧(↑d:Int)<(↑(List.map yI i).length:Int))∧∃(e:List (List D)),∃(f:Int),∃(g:Int),∃(h:Int),∃(j:Bool),∃(k:List (List D)),∃(l:Int),∃(m:Int),∃(n:Int),∃(p:Bool),zE (List.map yI i) (↑d:Int).toNat 0 10=some [D.ro 3 e,dI f,dI g,dI h,D.v (.bool j),D.ro 3 k,dI l,dI m,dI n,D.v (.bool p)]∧∃(q:SdI),q.side=1∧List.map lvE q.s.levels=e∧q.s.imp.price=f∧q.s.imp.qty=g∧q.s.imp.count=h∧q.s.has=j∧q.s.levels.length≤1099511627776∧∀(r:Unit),True→cnd (!jE q.side q.s) (∃(s:Unit),kO i=false∧True) (∃(s:SdI),s.side=2∧List.map lvE s.s.levels=k∧s.s.imp.price=l∧s.s.imp.qty=m∧s.s.imp.count=n∧s.s.has=p∧s.s.levels.length≤1099511627776∧∀(t:Unit),True→cnd (!jE s.side s.s) (∃(u:Unit),kO i=false∧True) (∃(u:Nat),(↑u:Int)=IntKind.i64.wrap ((↑d:Int)+1)∧b u∧c u<c d∧Sx.AObj.cells [V.own 0] 34=Sx.AObj.cells [V.own 0] 34∧AObj.fro 10 (List.map yI i)=AObj.fro 10 (List.map yI i)))) (∃(e:Unit),kO i=decide ((↑(List.map yI i).length:Int)≤255)∧True)
def yTm (i:zXi):Prop:=
 ∃(i_1:WN),i_1.n=i.v.price∧AObj.adt (List UInt8) 2 WrU i_1.l=Wr i.l∧i_1.ok∧∀(o:Unit),True→∃(i_2:WN),i_2.n=i.v.qty∧AObj.adt (List UInt8) 2 WrU i_2.l=AObj.adt (List UInt8) 2 WrU (i_1.l++le i_1.n 8)∧i_2.ok∧∀(o:Unit),True→∃(i_3:WN),i_3.n=i.v.count∧AObj.adt (List UInt8) 2 WrU i_3.l=AObj.adt (List UInt8) 2 WrU (i_2.l++le i_2.n 8)∧i_3.ok∧∀(o:Unit),True→∃(o:Unit),AObj.adt (List UInt8) 2 WrU (i.l++yX i.v)=AObj.adt (List UInt8) 2 WrU (i_3.l++le i_3.n 8)∧True
def gR (a:rG) (b:Nat):=(le a.seq 8++[lob (↑(List.length a.v):Int)]++List.flatMap y4 (List.take b a.v))
def wN (a:List UInt8×List Lv×Nat):=(a.fst++List.flatMap yX (List.take a.snd.snd a.snd.fst))
def zCq (a:rG):Prop:=Sx.AObj.cells [V.own 0] 34=Sx.AObj.cells [V.own 0] 34∧AObj.fro 10 (List.map yI a.v)=AObj.fro 10 (List.map yI a.v)
def mA:=((0:Nat)+(1:Nat)+1+((0:Nat)-(0:Nat))+((1:Nat)-(0:Nat))+((1:Nat)-(1:Nat))+((1:Nat)-(1:Nat))+(1:Nat)+(1:Nat)+1)
def mH:=((0:Nat)+(1:Nat)+1+((0:Nat)-(0:Nat))+((1:Nat)-(0:Nat))+((1:Nat)-(1:Nat))+((1:Nat)-(1:Nat))+(1:Nat)+(1:Nat))
def zHf (a:Int) (b:Int) (c:Int) (d:Bool) (e:List (List D)) (f:List (List D)) (g:Int) (h:Int) (j:Int) (k:Bool) (l:rG):Prop:=Sx.AObj.cells [V.own mH,V.d (dI a),V.d (dI b),V.d (dI c),V.d (D.v (.bool d))] 43=Sx.AObj.cells [V.own mH,V.d (dI a),V.d (dI b),V.d (dI c),V.d (D.v (.bool d))] 43∧AObj.fro 3 e=AObj.fro 3 e∧AObj.fro 3 f=AObj.fro 3 f∧Sx.AObj.cells [V.own mH,V.d (dI a),V.d (dI b),V.d (dI c),V.d (D.v (.bool d)),V.own mA,V.d (dI g),V.d (dI h),V.d (dI j),V.d (D.v (.bool k))] 44=Sx.AObj.cells [V.own mH,V.d (dI a),V.d (dI b),V.d (dI c),V.d (D.v (.bool d)),V.own mA,V.d (dI g),V.d (dI h),V.d (dI j),V.d (D.v (.bool k))] 44∧zCq l
def bM (a:rG):=(↑(List.map yI a.v).length:Int)
def zDg (a:Nat→Prop) (b:Nat) (c:Nat→Nat) (d:Nat) (e:rG):Prop:=a b∧c b<c d∧zCq e
def zRm (a:WN) (b:List (List D)) (c:Int) (d:Int) (e:Int) (f:Bool) (g:Int) (h:Int) (j:Int) (k:Bool) (l:List (List D)) (m:rG) (n:Nat) (p:Nat→Prop) (q:Nat→Nat):Prop:=a.ok∧∀(r:Unit),True→∃(s:List UInt8×List Lv×Nat),(↑s.snd.snd:Int)=0∧AObj.adt (List UInt8) 2 WrU (wN s)=AObj.adt (List UInt8) 2 WrU (a.l++[lob a.n])∧∃(t:List UInt8×List Lv×Nat→Prop),∃(u:List UInt8×List Lv×Nat→Nat),t s∧∀(v:List UInt8×List Lv×Nat),t v→cnd (decide ((↑v.snd.snd:Int)<(↑b.length:Int))) ((0≤(↑v.snd.snd:Int)∧(↑v.snd.snd:Int)<(↑b.length:Int))∧∃(w:Int),∃(x:Int),∃(y:Int),zE b (↑v.snd.snd:Int).toNat 0 3=some [dI w,dI x,dI y]∧∃(z:zXi),z.v.price=w∧z.v.qty=x∧z.v.count=y∧AObj.adt (List UInt8) 2 WrU z.l=AObj.adt (List UInt8) 2 WrU (wN v)∧z.l.length+(24:Nat)≤(1099511627776:Nat)∧∀(a_1:Unit),True→∃(a_2:List UInt8×List Lv×Nat),(↑a_2.snd.snd:Int)=IntKind.i64.wrap ((↑v.snd.snd:Int)+1)∧AObj.adt (List UInt8) 2 WrU (wN a_2)=AObj.adt (List UInt8) 2 WrU (z.l++yX z.v)∧t a_2∧u a_2<u v∧Sx.AObj.cells [V.own mA,V.d (dI c),V.d (dI d),V.d (dI e),V.d (D.v (.bool f))] 43=Sx.AObj.cells [V.own mA,V.d (dI c),V.d (dI d),V.d (dI e),V.d (D.v (.bool f))] 43∧zHf g h j k b l c d e f m) (cnd (!f) (∃(w:WN),w.n=0∧AObj.adt (List UInt8) 2 WrU w.l=AObj.adt (List UInt8) 2 WrU (wN v)∧w.ok∧∀(x:Unit),True→∃(y:Nat),(↑y:Int)=IntKind.i64.wrap ((↑n:Int)+1)∧AObj.adt (List UInt8) 2 WrU (gR m y)=AObj.adt (List UInt8) 2 WrU (w.l++[lob w.n])∧zDg p y q n m) (∃(w:WN),w.n=1∧AObj.adt (List UInt8) 2 WrU w.l=AObj.adt (List UInt8) 2 WrU (wN v)∧w.ok∧∀(x:Unit),True→∃(y:zXi),y.v.price=c∧y.v.qty=d∧y.v.count=e∧AObj.adt (List UInt8) 2 WrU y.l=AObj.adt (List UInt8) 2 WrU (w.l++[lob w.n])∧y.l.length+(24:Nat)≤(1099511627776:Nat)∧∀(z:Unit),True→∃(a_1:Nat),(↑a_1:Int)=IntKind.i64.wrap ((↑n:Int)+1)∧AObj.adt (List UInt8) 2 WrU (gR m a_1)=AObj.adt (List UInt8) 2 WrU (y.l++yX y.v)∧zDg p a_1 q n m))
def zQl (a:Nat) (b:rG) (c:Nat→Prop) (d:Nat→Nat):Prop:=(0≤(↑a:Int)∧(↑a:Int)<(bM b))∧∃(e:List (List D)),∃(f:Int),∃(g:Int),∃(h:Int),∃(j:Bool),∃(k:List (List D)),∃(l:Int),∃(m:Int),∃(n:Int),∃(p:Bool),zE (List.map yI b.v) (↑a:Int).toNat 0 10=some [D.ro 3 e,dI f,dI g,dI h,D.v (.bool j),D.ro 3 k,dI l,dI m,dI n,D.v (.bool p)]∧∃(q:WN),q.n=(↑e.length:Int)∧AObj.adt (List UInt8) 2 WrU q.l=AObj.adt (List UInt8) 2 WrU (gR b a)∧q.ok∧∀(r:Unit),True→∃(s:List UInt8×List Lv×Nat),(↑s.snd.snd:Int)=0∧AObj.adt (List UInt8) 2 WrU (wN s)=AObj.adt (List UInt8) 2 WrU (q.l++[lob q.n])∧∃(t:List UInt8×List Lv×Nat→Prop),∃(u:List UInt8×List Lv×Nat→Nat),t s∧∀(v:List UInt8×List Lv×Nat),t v→cnd (decide ((↑v.snd.snd:Int)<(↑e.length:Int))) ((0≤(↑v.snd.snd:Int)∧(↑v.snd.snd:Int)<(↑e.length:Int))∧∃(w:Int),∃(x:Int),∃(y:Int),zE e (↑v.snd.snd:Int).toNat 0 3=some [dI w,dI x,dI y]∧∃(z:zXi),z.v.price=w∧z.v.qty=x∧z.v.count=y∧AObj.adt (List UInt8) 2 WrU z.l=AObj.adt (List UInt8) 2 WrU (wN v)∧z.l.length+(24:Nat)≤(1099511627776:Nat)∧∀(a_1:Unit),True→∃(a_2:List UInt8×List Lv×Nat),(↑a_2.snd.snd:Int)=IntKind.i64.wrap ((↑v.snd.snd:Int)+1)∧AObj.adt (List UInt8) 2 WrU (wN a_2)=AObj.adt (List UInt8) 2 WrU (z.l++yX z.v)∧t a_2∧u a_2<u v∧zHf f g h j k e l m n p b) (cnd (!j) (∃(w:WN),w.n=0∧AObj.adt (List UInt8) 2 WrU w.l=AObj.adt (List UInt8) 2 WrU (wN v)∧w.ok∧∀(x:Unit),True→∃(y:WN),y.n=(↑k.length:Int)∧AObj.adt (List UInt8) 2 WrU y.l=AObj.adt (List UInt8) 2 WrU (w.l++[lob w.n])∧zRm y k l m n p f g h j e b a c d) (∃(w:WN),w.n=1∧AObj.adt (List UInt8) 2 WrU w.l=AObj.adt (List UInt8) 2 WrU (wN v)∧w.ok∧∀(x:Unit),True→∃(y:zXi),y.v.price=f∧y.v.qty=g∧y.v.count=h∧AObj.adt (List UInt8) 2 WrU y.l=AObj.adt (List UInt8) 2 WrU (w.l++[lob w.n])∧y.l.length+(24:Nat)≤(1099511627776:Nat)∧∀(z:Unit),True→∃(a_1:WN),a_1.n=(↑k.length:Int)∧AObj.adt (List UInt8) 2 WrU a_1.l=AObj.adt (List UInt8) 2 WrU (y.l++yX y.v)∧zRm a_1 k l m n p f g h j e b a c d))
def wJ (a:Sd×Sd):Prop:=a.fst.levels.length≤1099511627776∧a.snd.levels.length≤1099511627776
def dD (a:Vw):Prop:=List.length a≤1099511627776∧∀(b:Sd×Sd),b∈a→wJ b
def yRl (i:rG):Prop:=
 ∃(a:Vw),List.map yI a=List.map yI i.v∧(dD a)∧∀(b:Unit),True→cnd (!kO a) (∃(c:Unit),bE (yE i.v i.seq)=[]∧wG i.v=12∧True) (∃(c:Unit),True∧∀(d:Unit),True→∃(e:WN),e.n=i.seq∧AObj.adt (List UInt8) 2 WrU e.l=AObj.adt (List UInt8) 2 WrU []∧e.ok∧∀(f:Unit),True→∃(g:WN),g.n=(bM i)∧AObj.adt (List UInt8) 2 WrU g.l=AObj.adt (List UInt8) 2 WrU (e.l++le e.n 8)∧g.ok∧∀(h:Unit),True→∃(j:Nat),(↑j:Int)=0∧AObj.adt (List UInt8) 2 WrU (gR i j)=AObj.adt (List UInt8) 2 WrU (g.l++[lob g.n])∧∃(k:Nat→Prop),∃(l:Nat→Nat),k j∧∀(m:Nat),k m→cnd (decide ((↑m:Int)<(bM i))) (zQl m i k l) (∃(n:List UInt8),AObj.adt (List UInt8) 2 WrU n=AObj.adt (List UInt8) 2 WrU (gR i m)∧n.length≤1099511627776∧∀(p:Unit),True→∃(q:List UInt8),bE q=bE n∧q.length≤1099511627776∧∀(r:Unit),True→∃(s:WN),s.n=kC q∧AObj.adt (List UInt8) 2 WrU s.l=AObj.adt (List UInt8) 2 WrU n∧(s.l.length+(8:Nat)≤(1099511627776:Nat)∧0≤s.n∧s.n<4294967296)∧∀(t:Unit),True→∃(u:List UInt8),AObj.adt (List UInt8) 2 WrU u=AObj.adt (List UInt8) 2 WrU (s.l++le s.n 4)∧u.length≤1099511627776∧∀(v:Unit),True→∃(w:Unit),bE (yE i.v i.seq)=bE u∧wG i.v=0∧True))
open Go Cv Go.Proofs
open Classical
theorem zMv {α:Type} {f:α→List D} {l:List α} {i n:Nat} {x:α} (h:l[i]? =some x) (hn:(f x).length=n):zE (l.map f) i 0 n=some (f x):=by
 unfold zE
 rw[yXr,h]
 simp only[yYk,yXk,hn,Nat.ble_eq_true_of_le (yXl n),cond_true,yZu]
 rw[← hn,yWu (yXl _)]
theorem yQx {α:Type} {f:α→List D} {l:List α} {i g n:Nat} {x:α} {r:List D} (h:l[i]? =some x) (hn:g+n≤(f x).length) (hr:((f x).drop g).take n=r):zE (l.map f) i g n=some r:=by
 unfold zE
 rw[yXr,h]
 simp only[yYk,Nat.ble_eq_true_of_le hn,cond_true,hr]
theorem getD {α:Type} {l:List α} {i:Nat} (h:i<l.length):∃x,l[i]? =some x:=⟨_,yXj h⟩
theorem z4g:betterC.ok Tryz.prog 58:=okw (V:=yGb) mixed gok0 0 (fun _=>[]) (fun _=>[]) [] Tryz.func58 fun(i:I3) _=>by
 refine Cv.cnd.mk (fun e=>⟨(),?_,trivial⟩) (fun e=>⟨(),?_,trivial⟩)
 ·have e:i.side=1:=by simpa using e
  simp[bZ,e]
 ·have e:i.side≠1:=by simpa using e
  simp[bZ,e]
theorem sdF {side:Int} {s:Sd} (h:¬SdRight side s):jE side s=false:=yWx h
theorem LvAt.of {side:Int} {l:List Lv} {i:Nat} {x:Lv} (hx:l[i]? =some x) (h1:1≤x.qty) (h2:1≤x.count) (h3:∀j b,i=j+1→l[j]? =some b→bZ side b.price x.price=true):LvAt side l i:=by
 intro a ha
 rw[hx]at ha;cases ha
 exact⟨h1,h2,h3⟩
theorem yEr (i:SdI) (h:srightC.cnd i):z0m i:=by
 unfold z0m zAy gA dI
 have h:i.s.levels.length≤1099511627776:=h
 refine⟨0,rfl,fun j=>j≤i.s.levels.length∧∀k,k<j→LvAt i.side i.s.levels k,fun j=>i.s.levels.length-j,⟨by omega,by intro k hk;omega⟩,fun j hj=>zI (fun hlt=> ?_) (fun hlt=> ?_)⟩
 ·obtain⟨hj1,hj2⟩:=hj
  rw[yWk]at hlt ⊢
  obtain⟨x,hx⟩:=getD (l:=i.s.levels) (i:=j) (by omega)
  have w1:IntKind.i64.wrap ((j:Int)+1)=((j+1:Nat):Int):=by rw[w64 (by omega)];rfl
  have next:LvAt i.side i.s.levels j→(fun j=>j≤i.s.levels.length∧∀k,k<j→LvAt i.side i.s.levels k) (j+1):=fun hl=>⟨by omega,fun k hk=>by
   rcases yYy k j with h'|h'
   ·exact hj2 k h'
   ·obtain rfl:k=j:=by omega
    exact hl⟩
  refine⟨⟨by omega,by omega⟩,x.price,x.qty,x.count,zMv hx rfl,zI (fun hq=> ?_) (fun hq=>zI (fun hc=> ?_) (fun hc=>zI (fun hp=> ?_) (fun hp=> ?_)))⟩
  ·exact⟨(),sdF fun hr=>by have:=(hr.1 j x hx).1;omega,trivial⟩
  ·exact⟨(),sdF fun hr=>by have:=(hr.1 j x hx).2.1;omega,trivial⟩
  ·have w0:IntKind.i64.wrap ((j:Int)-1)=((j-1:Nat):Int):=by rw[w64 (by omega)];omega
   obtain⟨y,hy⟩:=getD (l:=i.s.levels) (i:=j-1) (by omega)
   refine⟨⟨by rw[w0];omega,by rw[w0];omega⟩,y.price,by rw[w0];exact yQx (n:=1) hy (by show 0+0+1≤3;omega) rfl,⟨i.side,y.price,x.price⟩,rfl,rfl,rfl,trivial,fun _ _=> ?_⟩
   refine Cv.cnd.mk (fun hb=>⟨(),sdF fun hr=> ?_,trivial⟩) (fun hb=>⟨j+1,w1.symm,next (LvAt.of hx (by omega) (by omega) ?_),by dsimp only;omega,k0q⟩)
   ·have:=(hr.1 j x hx).2.2 (j-1) y (by omega) hy
    simp only[yZh]at hb
    rw[hb]at this;cases this
   ·intro k b hk hb'
    obtain rfl:k=j-1:=by omega
    rw[hy]at hb';cases hb'
    simpa using hb
  ·exact⟨j+1,w1.symm,next (LvAt.of hx (by omega) (by omega) fun k b hk _=>by omega),by dsimp only;omega,k0q⟩
 ·obtain⟨hj1,hj2⟩:=hj
  rw[yWk]at hlt ⊢
  obtain rfl:j=i.s.levels.length:=by omega
  have hall:∀k,LvAt i.side i.s.levels k:=fun k=>by
   rcases yYy k i.s.levels.length with h'|h'
   ·exact hj2 k h'
   ·intro a ha;rw[yXm h']at ha;cases ha
  refine Cv.cnd.mk (fun hh=>zI (fun hl=>⟨(),?_,trivial⟩) (fun hl=>⟨(),sdF fun hr=>by have:=hr.2.1;omega,trivial⟩))
   (fun hh=>zI (fun hl=>zI (fun hq=>⟨(),?_,trivial⟩) (fun hq=>⟨(),sdF fun hr=> ?_,trivial⟩)) (fun hl=>⟨(),sdF fun hr=>by have:=hr.2.1;omega,trivial⟩))
  ·have hh:i.s.has=false:=by simpa using hh
   rw[y1z]
   simp only[jE,yYe,yWw,beq_iff_eq,and_true]
   constructor
   ·intro hr
    have:=hr.2.2.2 hh
    rw[this];exact⟨rfl,rfl,rfl⟩
   ·rintro⟨e1,e2,e3⟩
    refine⟨hall,by omega,(fun hc=>by rw[hh]at hc;cases hc),fun _=> ?_⟩
    cases hi:i.s.imp
    rw[hi]at e1 e2 e3
    simp_all
  ·have hh:i.s.has=true:=by simpa using hh
   rw[y1z]
   simp only[jE,yYe]
   exact⟨fun hr=>(hr.2.2.1 hh).2,fun hc=>⟨hall,by omega,fun _=>⟨hq,hc⟩,fun hc=>by rw[hh]at hc;cases hc⟩⟩
  ·have hh:i.s.has=true:=by simpa using hh
   have:=(hr.2.2.1 hh).1
   omega
theorem z4y:srightC.ok Tryz.prog 78:=okw mixed (gokc z4g gok0) 0 (fun _=>[]) (fun _=>yHu) [] Tryz.func78 yEr
theorem vwF {v:Vw} (h:¬qM v):kO v=false:=yWx h
theorem yHl (v:Vw) (h:rightVC.cnd v):z1f v:=by
 unfold z1f dI
 obtain⟨h1,h2⟩:uR v:=h
 refine⟨0,rfl,fun j=>j≤v.length∧∀k b,k<j→v[k]? =some b→SdRight 1 b.1∧SdRight 2 b.2,fun j=>v.length-j,⟨by omega,by intro k b hk;omega⟩,fun j hj=>zI (fun hlt=> ?_) (fun hlt=> ?_)⟩
 ·obtain⟨hj1,hj2⟩:=hj
  rw[yWk]at hlt ⊢
  obtain⟨x,hx⟩:=getD (l:=v) (i:=j) (by omega)
  have hm:=yWt hx
  have w1:IntKind.i64.wrap ((j:Int)+1)=((j+1:Nat):Int):=by rw[w64 (by omega)];rfl
  refine⟨⟨by omega,by omega⟩,_,_,_,_,_,_,_,_,_,_,zMv hx rfl,⟨1,x.1⟩,rfl,rfl,rfl,rfl,rfl,rfl,(h2 x hm).1,fun _ _=>Cv.cnd.mk (fun hb=> ?_) (fun hb=>⟨⟨2,x.2⟩,rfl,rfl,rfl,rfl,rfl,rfl,(h2 x hm).2,fun _ _=>Cv.cnd.mk (fun hb2=> ?_) (fun hb2=> ?_)⟩)⟩
  ·refine⟨(),vwF fun hr=> ?_,trivial⟩
   simp only[yZh,jE,decide_eq_false_iff_not]at hb
   exact hb (hr.1 x hm).1
  ·refine⟨(),vwF fun hr=> ?_,trivial⟩
   simp only[yZh,jE,decide_eq_false_iff_not]at hb2
   exact hb2 (hr.1 x hm).2
  ·simp only[Bool.not_eq_false',jE,yYe]at hb hb2
   refine⟨j+1,w1.symm,⟨by omega,fun k b hk hb'=> ?_⟩,by dsimp only;omega,k0q⟩
   rcases yYy k j with h'|h'
   ·exact hj2 k b h' hb'
   ·obtain rfl:k=j:=by omega
    rw[hx]at hb';cases hb'
    exact⟨hb,hb2⟩
 ·obtain⟨hj1,hj2⟩:=hj
  rw[yWk]at hlt ⊢
  obtain rfl:j=v.length:=by omega
  refine⟨(),?_,trivial⟩
  rw[y1z]
  simp only[kO,yYe]
  constructor
  ·intro hr;have:=hr.2;omega
  ·intro hr
   refine⟨fun b hb=> ?_,by omega⟩
   obtain⟨k,hk⟩:=y2d hb
   exact hj2 k b (yWn.1 hk).1 hk
theorem rightV_ok:rightVC.ok Tryz.prog 23:=okw mixed (gokc z4y gok0) 0 (fun _=>[]) (fun _=>yGe) [] Tryz.func23 yHl
theorem z0n:putLC.ok Tryz.prog 69:=okw (V:=yTm) mixed (gokc zSh gok0) 0 (fun _=>[]) (fun _=>[]) [] Tryz.func69 fun(i:zXi) h=>by
 have h:i.l.length+24≤1099511627776:=h
 refine⟨⟨i.l,i.v.price⟩,rfl,rfl,(show i.l.length+8≤1099511627776 by omega),fun _ _=>⟨⟨i.l++le i.v.price 8,i.v.qty⟩,rfl,rfl,?_,fun _ _=>⟨⟨i.l++le i.v.price 8++le i.v.qty 8,i.v.count⟩,rfl,rfl,?_,fun _ _=>⟨(),?_,trivial⟩⟩⟩⟩
 ·show _+8≤_
  rw[yWi,jX];omega
 ·show _+8≤_
  rw[yWi,yWi,jX,jX];omega
 ·simp only[yX,yWo]
open Go Cv Go.Proofs
open Classical
theorem zLc {α:Type} {f:α→List UInt8} {c:Nat}:∀{l:List α},(∀x∈l,(f x).length≤c)→(l.flatMap f).length≤c*l.length
 |[],_=>by simp
 |a::l,h=>by
  have h1:=h a (by simp)
  have h2:=zLc (l:=l) fun x hx=>h x (by simp[hx])
  simp only[yXv,yWi,yWr,Nat.mul_add,Nat.mul_one]
  omega
theorem gF {α β:Type} {f:α→List β} {l:List α} {k:Nat} {x:α} (h:l[k]? =some x):(l.take (k+1)).flatMap f=(l.take k).flatMap f++f x:=by
 rw[yXt,h];simp
theorem zNe (l:Lv):(yX l).length=24:=by simp[yX,jX]
theorem u9 (l:List Lv):(l.flatMap yX).length≤24*l.length:=zLc fun x _=>by rw[zNe];omega
theorem eR {s:Sd} (h:s.levels.length≤255):(gZ s).length≤6146:=by
 have:=u9 s.levels
 unfold gZ
 rw[yWi,yWi,yZs]
 split
 ·rw[yWi,zNe,yZs];omega
 ·rw[yZs];omega
theorem SdRight.len {n:Int} {s:Sd} (h:SdRight n s):s.levels.length≤255:=h.2.1
theorem rJ {v:Vw} (h:qM v) (j:Nat):((v.take j).flatMap y4).length≤3134460:=by
 have h1:∀x∈v.take j,(y4 x).length≤12292:=fun x hx=>by
  have:=h.1 x (y1h hx)
  have a:=eR this.1.len
  have b:=eR this.2.len
  unfold y4
  rw[yWi];omega
 have h2:=zLc h1
 have h3:=h.2
 rw[yXd]at h2
 omega
theorem z5a (n:Int):0≤IntKind.u32.wrap n∧IntKind.u32.wrap n<4294967296:=by
 have:IntKind.u32.wrap n=n % 4294967296:=rfl
 rw[this];omega
theorem sZ (l:List UInt8):0≤kC l∧kC l<4294967296:=z5a _
theorem yUh (i:rG) (h:encC.cnd i):yRl i:=by
 unfold yRl dD wJ zQl zRm zDg bM zHf mH mA zCq wN gR dI
 refine⟨i.v,rfl,h,fun _ _=>Cv.cnd.mk (fun e=> ?_) (fun e=> ?_)⟩
 ·have hn:¬qM i.v:=by simpa[kO]using e
  exact⟨(),by rw[yE,yWj hn];rfl,by rw[wG,yWj hn],trivial⟩
 have hr:qM i.v:=by simpa[kO]using e
 have hB:∀j,(le i.seq 8++[lob i.v.length]++(i.v.take j).flatMap y4).length≤3134470:=fun j=>by
  have:=rJ hr j
  simp only[yWi,jX,yWr,yXp];omega
 refine⟨(),trivial,fun _ _=>⟨⟨[],i.seq⟩,rfl,rfl,(show 0+8≤1099511627776 by omega),fun _ _=>⟨⟨le i.seq 8,i.v.length⟩,by rw[yWk],rfl,(show(le i.seq 8).length+8≤1099511627776 by rw[jX];omega),fun _ _=>⟨0,rfl,by simp,fun j=>j≤i.v.length,fun j=>i.v.length-j,by dsimp only;omega,fun j hj=>zI (fun hlt=> ?_) (fun hlt=> ?_)⟩⟩⟩⟩
 ·dsimp only at hj
  rw[yWk]at hlt ⊢
  obtain⟨x,hx⟩:=getD (l:=i.v) (i:=j) (by omega)
  have hm:=hr.1 x (yWt hx)
  have l1:=hm.1.len
  have l2:=hm.2.len
  have hl:=hr.2
  have w1:IntKind.i64.wrap ((j:Int)+1)=((j+1:Nat):Int):=by rw[w64 (by omega)];rfl
  have hBj:=hB j
  have hBs:le i.seq 8++[lob i.v.length]++(i.v.take (j+1)).flatMap y4=le i.seq 8++[lob i.v.length]++(i.v.take j).flatMap y4++y4 x:=by
   rw[gF hx];simp only[yWo]
  generalize hb:le i.seq 8++[lob i.v.length]++(i.v.take j).flatMap y4=B at hBj hBs
  have lv:∀(C:List UInt8) (l:List Lv) (k:Nat),C.length≤5000000→l.length≤255→((C++(l.take k).flatMap yX).length+24≤1099511627776):=fun C l k hC hl=>by
   have:=u9 (l.take k)
   rw[yWi]
   rw[yXd]at this
   omega
  have lw:∀(k:Nat),k<255→IntKind.i64.wrap ((k:Int)+1)=((k+1:Nat):Int):=fun k hk=>by rw[w64 (by omega)];rfl
  have le1:=u9 x.1.levels
  have le2:=u9 x.2.levels
  refine⟨⟨by omega,by omega⟩,_,_,_,_,_,_,_,_,_,_,zMv hx rfl,⟨B,x.1.levels.length⟩,by rw[yWk],rfl,by show B.length+8≤_;omega,fun _ _=>⟨(B++[lob x.1.levels.length],x.1.levels,0),rfl,by simp,fun y=>∃k,k≤x.1.levels.length∧y=(B++[lob x.1.levels.length],x.1.levels,k),fun y=>x.1.levels.length-y.2.2,⟨0,by omega,k0q⟩,?_⟩⟩
  rintro _ ⟨k,hk,rfl⟩
  dsimp only
  refine zI (fun hlt1=> ?_) (fun hlt1=> ?_)
  ·rw[yWk]at hlt1 ⊢
   obtain⟨y,hy⟩:=getD (l:=x.1.levels) (i:=k) (by omega)
   refine⟨⟨by omega,by omega⟩,_,_,_,zMv hy rfl,⟨_,y⟩,rfl,rfl,rfl,rfl,lv _ _ _ (by rw[yWi];simp;omega) l1,fun _ _=>⟨(_,_,k+1),(lw k (by omega)).symm,?_,⟨k+1,by omega,k0q⟩,by dsimp only;omega,k0q⟩⟩
   dsimp only
   rw[gF hy];simp only[yWo]
  ·rw[yWk]at hlt1
   obtain rfl:k=x.1.levels.length:=by omega
   rw[yWu (yXl _)]
   have e1:gZ x.1=[lob x.1.levels.length]++x.1.levels.flatMap yX++(if x.1.has then[lob 1]++yX x.1.imp else[lob 0]):=rfl
   have e2:gZ x.2=[lob x.2.levels.length]++x.2.levels.flatMap yX++(if x.2.has then[lob 1]++yX x.2.imp else[lob 0]):=rfl
   have bl:∀C:List UInt8,C=B++gZ x.1→C.length≤4000000:=fun C e=>by
    subst e
    have:=eR l1
    rw[yWi];omega
   refine Cv.cnd.mk (fun hh=> ?_) (fun hh=> ?_)
   ·have hh:x.1.has=false:=by simpa using hh
    rw[hh,yWj (by simp)]at e1
    refine⟨⟨B++[lob x.1.levels.length]++x.1.levels.flatMap yX,0⟩,rfl,rfl,(by dsimp only[WN.ok];simp only[yWi,yWr,yXp];omega),fun _ _=> ?_⟩
    have eC:B++[lob x.1.levels.length]++x.1.levels.flatMap yX++[lob 0]=B++gZ x.1:=by rw[e1];simp only[yWo]
    generalize B++[lob x.1.levels.length]++x.1.levels.flatMap yX++[lob 0]=C at eC
    (
    have hC:=bl C eC
    refine⟨⟨C,x.2.levels.length⟩,by rw[yWk],rfl,(show C.length+8≤1099511627776 by omega),fun _ _=>⟨(C++[lob x.2.levels.length],x.2.levels,0),rfl,by simp,fun y=>∃k,k≤x.2.levels.length∧y=(C++[lob x.2.levels.length],x.2.levels,k),fun y=>x.2.levels.length-y.2.2,⟨0,by omega,k0q⟩,?_⟩⟩
    rintro _ ⟨k,hk,rfl⟩
    dsimp only
    refine zI (fun hlt2=> ?_) (fun hlt2=> ?_)
    ·rw[yWk]at hlt2 ⊢
     obtain⟨y,hy⟩:=getD (l:=x.2.levels) (i:=k) (by omega)
     refine⟨⟨by omega,by omega⟩,_,_,_,zMv hy rfl,⟨_,y⟩,rfl,rfl,rfl,rfl,lv _ _ _ (by rw[yWi];simp;omega) l2,fun _ _=>⟨(_,_,k+1),(lw k (by omega)).symm,?_,⟨k+1,by omega,k0q⟩,by dsimp only;omega,k0q⟩⟩
     dsimp only
     rw[gF hy];simp only[yWo]
    ·rw[yWk]at hlt2
     obtain rfl:k=x.2.levels.length:=by omega
     rw[yWu (yXl _)]
     refine Cv.cnd.mk (fun hh2=> ?_) (fun hh2=> ?_)
     ·have hh2:x.2.has=false:=by simpa using hh2
      rw[hh2,yWj (by simp)]at e2
      refine⟨⟨C++[lob x.2.levels.length]++x.2.levels.flatMap yX,0⟩,rfl,rfl,(by dsimp only[WN.ok];simp only[yWi,yWr,yXp];omega),fun _ _=>⟨j+1,w1.symm,?_,(by omega),(by omega),k0q⟩⟩
      rw[hBs,y4,← yWo,← eC,e2]
      simp only[yWo]
     ·have hh2:x.2.has=true:=by simpa using hh2
      rw[hh2,yWl rfl]at e2
      refine⟨⟨C++[lob x.2.levels.length]++x.2.levels.flatMap yX,1⟩,rfl,rfl,(by dsimp only[WN.ok];simp only[yWi,yWr,yXp];omega),fun _ _=>⟨⟨_,x.2.imp⟩,rfl,rfl,rfl,rfl,(by simp only[yWi,yWr,yXp];omega),fun _ _=>⟨j+1,w1.symm,?_,(by omega),(by omega),k0q⟩⟩⟩
      rw[hBs,y4,← yWo,← eC,e2]
      simp only[yWo])
   ·have hh:x.1.has=true:=by simpa using hh
    rw[hh,yWl rfl]at e1
    refine⟨⟨B++[lob x.1.levels.length]++x.1.levels.flatMap yX,1⟩,rfl,rfl,(by dsimp only[WN.ok];simp only[yWi,yWr,yXp];omega),fun _ _=>⟨⟨_,x.1.imp⟩,rfl,rfl,rfl,rfl,(by simp only[yWi,yWr,yXp];omega),fun _ _=> ?_⟩⟩
    have eC:B++[lob x.1.levels.length]++x.1.levels.flatMap yX++[lob 1]++yX x.1.imp=B++gZ x.1:=by rw[e1];simp only[yWo]
    generalize B++[lob x.1.levels.length]++x.1.levels.flatMap yX++[lob 1]++yX x.1.imp=C at eC
    (
    have hC:=bl C eC
    refine⟨⟨C,x.2.levels.length⟩,by rw[yWk],rfl,(show C.length+8≤1099511627776 by omega),fun _ _=>⟨(C++[lob x.2.levels.length],x.2.levels,0),rfl,by simp,fun y=>∃k,k≤x.2.levels.length∧y=(C++[lob x.2.levels.length],x.2.levels,k),fun y=>x.2.levels.length-y.2.2,⟨0,by omega,k0q⟩,?_⟩⟩
    rintro _ ⟨k,hk,rfl⟩
    dsimp only
    refine zI (fun hlt2=> ?_) (fun hlt2=> ?_)
    ·rw[yWk]at hlt2 ⊢
     obtain⟨y,hy⟩:=getD (l:=x.2.levels) (i:=k) (by omega)
     refine⟨⟨by omega,by omega⟩,_,_,_,zMv hy rfl,⟨_,y⟩,rfl,rfl,rfl,rfl,lv _ _ _ (by rw[yWi];simp;omega) l2,fun _ _=>⟨(_,_,k+1),(lw k (by omega)).symm,?_,⟨k+1,by omega,k0q⟩,by dsimp only;omega,k0q⟩⟩
     dsimp only
     rw[gF hy];simp only[yWo]
    ·rw[yWk]at hlt2
     obtain rfl:k=x.2.levels.length:=by omega
     rw[yWu (yXl _)]
     refine Cv.cnd.mk (fun hh2=> ?_) (fun hh2=> ?_)
     ·have hh2:x.2.has=false:=by simpa using hh2
      rw[hh2,yWj (by simp)]at e2
      refine⟨⟨C++[lob x.2.levels.length]++x.2.levels.flatMap yX,0⟩,rfl,rfl,(by dsimp only[WN.ok];simp only[yWi,yWr,yXp];omega),fun _ _=>⟨j+1,w1.symm,?_,(by omega),(by omega),k0q⟩⟩
      rw[hBs,y4,← yWo,← eC,e2]
      simp only[yWo]
     ·have hh2:x.2.has=true:=by simpa using hh2
      rw[hh2,yWl rfl]at e2
      refine⟨⟨C++[lob x.2.levels.length]++x.2.levels.flatMap yX,1⟩,rfl,rfl,(by dsimp only[WN.ok];simp only[yWi,yWr,yXp];omega),fun _ _=>⟨⟨_,x.2.imp⟩,rfl,rfl,rfl,rfl,(by simp only[yWi,yWr,yXp];omega),fun _ _=>⟨j+1,w1.symm,?_,(by omega),(by omega),k0q⟩⟩⟩
      rw[hBs,y4,← yWo,← eC,e2]
      simp only[yWo])
 ·dsimp only at hj
  rw[yWk]at hlt
  obtain rfl:j=i.v.length:=by omega
  have hBj:=hB i.v.length
  rw[yWu (yXl _)]at hBj ⊢
  have hc:=sZ (xE i.v i.seq)
  have hl:(xE i.v i.seq).length≤3134470:=hBj
  have hl2:(xE i.v i.seq++le (kC (xE i.v i.seq)) 4).length≤1099511627776:=by rw[yWi,jX];omega
  exact⟨xE i.v i.seq,rfl,(by omega),fun _ _=>⟨xE i.v i.seq,rfl,(by omega),fun _ _=>⟨⟨xE i.v i.seq,_⟩,rfl,rfl,⟨(by dsimp only;omega),hc.1,hc.2⟩,fun _ _=>⟨_,rfl,hl2,fun _ _=>⟨(),by rw[yE,yWl hr];rfl,by rw[wG,yWl hr],trivial⟩⟩⟩⟩⟩
theorem yLn:encC.ok Tryz.prog 21:=okw mixed (gokc rightV_ok (gokc zSl (gokc zSh (gokc z2k (gokc z0n (gokc zQq (gokc zYi (gokc zYs gok0)))))))) 0 (fun _=>[]) (fun i=>yTp i) [] Tryz.func21 yUh
open Go Cv Go.Proofs
open Classical
def RB.byte (r:RB):Int×RB:=(kF (r.n 1).got,⟨(r.n 1).left,(r.n 1).bad⟩)
def RB.long (r:RB):Int×RB:=(IntKind.i64.wrap (kF (r.n 8).got),⟨(r.n 8).left,(r.n 8).bad⟩)
def RB.lv (r:RB):Lv×RB:=(⟨r.long.1,r.long.2.long.1,r.long.2.long.2.long.1⟩,r.long.2.long.2.long.2)
def RB.lvs (r:RB):Nat→List Lv×RB
 |0=>([],r)
 |k+1=>((r.lvs k).1++[(r.lvs k).2.lv.1],(r.lvs k).2.lv.2)
def RB.part (r:RB):List Lv×RB:=r.byte.2.lvs r.byte.1.toNat
def RB.side (r:RB):(Sd×Bool)×RB:=
 if r.part.2.byte.1=1 then((⟨r.part.1,r.part.2.byte.2.lv.1,true⟩,true),r.part.2.byte.2.lv.2)
 else((⟨r.part.1,⟨0,0,0⟩,false⟩,decide (r.part.2.byte.1≤1)),r.part.2.byte.2)
def RB.views (r:RB):Nat→(Vw×Bool)×RB
 |0=>(([],true),r)
 |k+1=>(((r.views k).1.1++[((r.views k).2.side.1.1,(r.views k).2.side.2.side.1.1)],(r.views k).1.2 && (r.views k).2.side.1.2 && (r.views k).2.side.2.side.1.2),(r.views k).2.side.2.side.2)
def RB.head (r:RB):Int×RB:=r.long.2.byte
def RB.all (r:RB):(Vw×Bool)×RB:=r.head.2.views r.head.1.toNat
def RB.endOf (r:RB):Int:=if r.b then 10 else if 0<r.l.length then 15 else 0
@[reducible] def RdB (r:RB):AObj:=Rd r.l r.b
@[reducible] def RB.ok (i:RB):Prop:=i.l.length≤1099511627776
def lgetC:Con:=con1 RB (fun i=>[.nm 0 0]) (fun i=>[RdB i]) RB.ok (fun i=>lvV i.lv.1) (fun i=>[RdB i.lv.2])
def sideC:Con:=con1 RB (fun i=>[.nm 0 0]) (fun i=>[RdB i]) RB.ok (fun i=> .tup [sdV i.side.1.1,yF i.side.1.2]) (fun i=>[RdB i.side.2])
def ySe (i:RB):List SAnn:=[{ι:=Nat,slots:=fun j=>[(0,.nm 0 0),(4,.nm 1 0),(8,zA j)],rows:=fun j=>[RdB (i.byte.2.lvs j).2,.cells [.own 2,zA 0,zA 0,zA 0,yF false] 43,.own 41 3 ((i.byte.2.lvs j).1.map lvE)]}]
def dR (b:List UInt8):Prop:=4≤b.length∧le (kC (b.take (b.length-4))) 4=b.drop (b.length-4)
def yA (b:List UInt8):RB:=⟨b.take (b.length-4),false⟩
def dH (b:List UInt8):Prop:=(yA b).all.1.2=true∧(yA b).all.2.endOf=0∧qM (yA b).all.1.1
noncomputable def p7 (b:List UInt8):Vw:=if dR b∧dH b then(yA b).all.1.1 else[]
noncomputable def rB (b:List UInt8):Int:=if dR b∧dH b then(yA b).long.1 else 0
noncomputable def nB (b:List UInt8):Int:=if dR b then if dH b then 0 else 12 else 14
noncomputable def decC:Con:=con1 (List UInt8) (fun b=>[roV 1 (bE b)]) (fun _=>[]) (fun b=>b.length≤1099511627776) (fun b=> .tup [vwV (p7 b),zA (rB b),zA (nB b)]) (fun _=>[])
def yVy (b:List UInt8):List SAnn:=[
 {ι:=Nat,slots:=fun j=>[(7,.nm 0 0),(9,.nm 1 0),(10,yF ((yA b).head.2.views j).1.2),(44,zA j)],rows:=fun j=>[RdB ((yA b).head.2.views j).2,.cells [.own 2] 34,.own 44 10 (((yA b).head.2.views j).1.1.map yI)]},
 {ι:=Unit,slots:=fun _=>[],rows:=fun _=>[],un:=3}]
open Go Cv Go.Proofs
def yQo (i:RB):Prop:=
 ∃(i_1:RB),AObj.adt (List UInt8×Bool) 1 RdU (i_1.l,i_1.b)=RdB i∧i_1.l.length≤1099511627776∧∀(o:Unit),True→∃(i_2:RB),AObj.adt (List UInt8×Bool) 1 RdU (i_2.l,i_2.b)=AObj.adt (List UInt8×Bool) 1 RdU ((i_1.n 8).left,(i_1.n 8).bad)∧i_2.l.length≤1099511627776∧∀(o:Unit),True→∃(i_3:RB),AObj.adt (List UInt8×Bool) 1 RdU (i_3.l,i_3.b)=AObj.adt (List UInt8×Bool) 1 RdU ((i_2.n 8).left,(i_2.n 8).bad)∧i_3.l.length≤1099511627776∧∀(o:Unit),True→∃(o:Unit),IntKind.i64.wrap (kF (i.n 8).got)=IntKind.i64.wrap (kF (i_1.n 8).got)∧IntKind.i64.wrap (kF ((RB.mk (i.n 8).left (i.n 8).bad).n 8).got)=IntKind.i64.wrap (kF (i_2.n 8).got)∧IntKind.i64.wrap (kF ((RB.mk ((RB.mk (i.n 8).left (i.n 8).bad).n 8).left ((RB.mk (i.n 8).left (i.n 8).bad).n 8).bad).n 8).got)=IntKind.i64.wrap (kF (i_3.n 8).got)∧AObj.adt (List UInt8×Bool) 1 RdU (((RB.mk ((RB.mk (i.n 8).left (i.n 8).bad).n 8).left ((RB.mk (i.n 8).left (i.n 8).bad).n 8).bad).n 8).left,((RB.mk ((RB.mk (i.n 8).left (i.n 8).bad).n 8).left ((RB.mk (i.n 8).left (i.n 8).bad).n 8).bad).n 8).bad)=AObj.adt (List UInt8×Bool) 1 RdU ((i_3.n 8).left,(i_3.n 8).bad)∧True
def mE (a:RB):=((RB.mk (a.n 8).left (a.n 8).bad).n 8)
def cA (a:RB):=((RB.mk (mE a).left (mE a).bad).n 8)
def zFm (a:RB):=(kF (cA a).got)
def x9 (a:RB) (b:Nat):=((RB.mk (a.n 1).left (a.n 1).bad).lvs b)
def yJv (i:RB):Prop:=
 ∃(a:RB),AObj.adt (List UInt8×Bool) 1 RdU (a.l,a.b)=RdB i∧a.l.length≤1099511627776∧∀(b:Unit),True→∃(c:Nat),(↑c:Int)=0∧AObj.adt (List UInt8×Bool) 1 RdU ((x9 i c).snd.l,(x9 i c).snd.b)=AObj.adt (List UInt8×Bool) 1 RdU ((a.n 1).left,(a.n 1).bad)∧(0:Int)=(0:Int)∧(0:Int)=(0:Int)∧(0:Int)=(0:Int)∧false=false∧List.map lvE (x9 i c).fst=[]∧∃(d:Nat→Prop),∃(e:Nat→Nat),d c∧∀(f:Nat),d f→cnd (decide ((↑f:Int)<kF (a.n 1).got)) (∃(g:RB),AObj.adt (List UInt8×Bool) 1 RdU (g.l,g.b)=AObj.adt (List UInt8×Bool) 1 RdU ((x9 i f).snd.l,(x9 i f).snd.b)∧g.ok∧∀(h:Unit),True→True∧True∧((List.map lvE (x9 i f).fst).length+1)*(24:Nat)≤(140737488355328:Nat)∧∃(j:Nat),(↑j:Int)=IntKind.i64.wrap ((↑f:Int)+1)∧AObj.adt (List UInt8×Bool) 1 RdU ((x9 i j).snd.l,(x9 i j).snd.b)=AObj.adt (List UInt8×Bool) 1 RdU ((cA g).left,(cA g).bad)∧(0:Int)=(0:Int)∧(0:Int)=(0:Int)∧(0:Int)=(0:Int)∧false=false∧List.map lvE (x9 i j).fst=List.map lvE (x9 i f).fst++[[dI (IntKind.i64.wrap (kF (g.n 8).got)),dI (IntKind.i64.wrap (kF (mE g).got)),dI (IntKind.i64.wrap (zFm g))]]∧d j∧e j<e f∧Sx.AObj.cells (Sx.V.agg [V.d qS,V.d (dI 0),V.d (dI 0),V.d (dI 0),V.d (D.v (.bool false))]).cl 43=Sx.AObj.cells (Sx.V.agg [V.d qS,V.d (dI 0),V.d (dI 0),V.d (dI 0),V.d (D.v (.bool false))]).cl 43) (∃(g:RB),AObj.adt (List UInt8×Bool) 1 RdU (g.l,g.b)=AObj.adt (List UInt8×Bool) 1 RdU ((x9 i f).snd.l,(x9 i f).snd.b)∧g.l.length≤1099511627776∧∀(h:Unit),True→cnd (kF (g.n 1).got==1) (∃(j:RB),AObj.adt (List UInt8×Bool) 1 RdU (j.l,j.b)=AObj.adt (List UInt8×Bool) 1 RdU ((g.n 1).left,(g.n 1).bad)∧j.ok∧∀(k:Unit),True→∃(l:Unit),List.map lvE i.side.fst.fst.levels=List.map lvE (x9 i f).fst∧i.side.fst.fst.imp.price=IntKind.i64.wrap (kF (j.n 8).got)∧i.side.fst.fst.imp.qty=IntKind.i64.wrap (kF (mE j).got)∧i.side.fst.fst.imp.count=IntKind.i64.wrap (zFm j)∧i.side.fst.fst.has=true∧i.side.fst.snd=decide (kF (g.n 1).got≤1)∧AObj.adt (List UInt8×Bool) 1 RdU (i.side.snd.l,i.side.snd.b)=AObj.adt (List UInt8×Bool) 1 RdU ((cA j).left,(cA j).bad)∧True) (∃(j:Unit),List.map lvE i.side.fst.fst.levels=List.map lvE (x9 i f).fst∧i.side.fst.fst.imp.price=0∧i.side.fst.fst.imp.qty=0∧i.side.fst.fst.imp.count=0∧i.side.fst.fst.has=false∧i.side.fst.snd=decide (kF (g.n 1).got≤1)∧AObj.adt (List UInt8×Bool) 1 RdU (i.side.snd.l,i.side.snd.b)=AObj.adt (List UInt8×Bool) 1 RdU ((g.n 1).left,(g.n 1).bad)∧True))
def xQ (a:List UInt8) (b:Nat):=((RB.mk ((RB.mk ((yA a).n 8).left ((yA a).n 8).bad).n 1).left ((RB.mk ((yA a).n 8).left ((yA a).n 8).bad).n 1).bad).views b)
def zJc (a:List UInt8) (b:Nat):=((List.map yI (xQ a b).fst.fst).length+1)
def Vdect262:=(Sx.V.agg [V.d qS])
def zSo (a:Nat) (b:Nat) (c:List UInt8) (d:RB) (e:RB) (f:Nat→Prop) (g:Nat→Nat) (h:List UInt8):Prop:=(↑a:Int)=IntKind.i64.wrap ((↑b:Int)+1)∧AObj.adt (List UInt8×Bool) 1 RdU ((xQ c a).snd.l,(xQ c a).snd.b)=AObj.adt (List UInt8×Bool) 1 RdU (d.side.snd.l,d.side.snd.b)∧List.map yI (xQ c a).fst.fst=List.map yI (xQ c b).fst.fst++[[D.ro 3 (List.map lvE e.side.fst.fst.levels),dI e.side.fst.fst.imp.price,dI e.side.fst.fst.imp.qty,dI e.side.fst.fst.imp.count,D.v (.bool e.side.fst.fst.has),D.ro 3 (List.map lvE d.side.fst.fst.levels),dI d.side.fst.fst.imp.price,dI d.side.fst.fst.imp.qty,dI d.side.fst.fst.imp.count,D.v (.bool d.side.fst.fst.has)]]∧f a∧g a<g b∧AObj.adt (List UInt8) 2 WrU h=AObj.adt (List UInt8) 2 WrU h∧AObj.own tU8 1 (bE h)=AObj.own tU8 1 (bE h)∧Sx.AObj.cells Vdect262.cl 34=Sx.AObj.cells Vdect262.cl 34
def zQo (a:List UInt8) (b:Nat) (c:RB) (d:RB) (e:Nat→Prop) (f:Nat→Nat) (g:List UInt8):Prop:=(zJc a b)*(112:Nat)≤(140737488355328:Nat)∧∃(h:Nat),(xQ a h).fst.snd=false∧zSo h b a c d e f g
def zBj (a:List UInt8):Prop:=0≤IntKind.i64.wrap ((↑(bE a).length:Int)-4)∧IntKind.i64.wrap ((↑(bE a).length:Int)-4)≤(↑(bE a).length:Int)
def zCe (a:List UInt8):Prop:=∃(b:Unit),List.map yI (p7 a)=[]∧rB a=0∧nB a=12∧True
def sR (a:List UInt8):=(IntKind.i64.wrap ((↑(bE a).length:Int)-4))
def yRm (b:List UInt8):Prop:=
 cnd (decide (IntKind.i64.wrap ((↑(bE b).length:Int)-4)<0)) (∃(a:Unit),List.map yI (p7 b)=[]∧rB b=0∧nB b=14∧True) (∃(a:Unit),True∧∀(c:Unit),True→(zBj b)∧∃(d:List UInt8),bE d=List.take (sR b).toNat (bE b)∧d.length≤1099511627776∧∀(e:Unit),True→∃(f:WN),f.n=kC d∧AObj.adt (List UInt8) 2 WrU f.l=AObj.adt (List UInt8) 2 WrU []∧(f.l.length+(8:Nat)≤(1099511627776:Nat)∧0≤f.n∧f.n<4294967296)∧∀(g:Unit),True→(zBj b)∧∃(h:ByteArray),(1:Nat)=(1:Nat)∧List.drop (sR b).toNat (bE b)=wX h∧∃(j:List UInt8),AObj.adt (List UInt8) 2 WrU j=AObj.adt (List UInt8) 2 WrU (f.l++le f.n 4)∧j.length≤1099511627776∧∀(k:Unit),True→(∃(l:ByteArray),(1:Nat)=(1:Nat)∧List.drop (sR b).toNat (bE b)=wX l∧l=h)∧∃(l:ByteArray),(1:Nat)=(1:Nat)∧bE j=wX l∧cnd (!l.toList==h.toList) (∃(m:Unit),List.map yI (p7 b)=[]∧rB b=0∧nB b=14∧True) ((zBj b)∧∃(m:List UInt8),bE m=List.take (sR b).toNat (bE b)∧m.length≤1099511627776∧∀(n:Unit),True→∃(p:RB),AObj.adt (List UInt8×Bool) 1 RdU (p.l,p.b)=AObj.adt (List UInt8×Bool) 1 RdU (m,false)∧p.l.length≤1099511627776∧∀(q:Unit),True→∃(r:RB),AObj.adt (List UInt8×Bool) 1 RdU (r.l,r.b)=AObj.adt (List UInt8×Bool) 1 RdU ((p.n 8).left,(p.n 8).bad)∧r.l.length≤1099511627776∧∀(s:Unit),True→∃(t:Nat),(xQ b t).fst.snd=true∧(↑t:Int)=0∧AObj.adt (List UInt8×Bool) 1 RdU ((xQ b t).snd.l,(xQ b t).snd.b)=AObj.adt (List UInt8×Bool) 1 RdU ((r.n 1).left,(r.n 1).bad)∧List.map yI (xQ b t).fst.fst=[]∧∃(u:Nat→Prop),∃(v:Nat→Nat),u t∧∀(w:Nat),u w→cnd (decide ((↑w:Int)<kF (r.n 1).got)) (∃(x:RB),AObj.adt (List UInt8×Bool) 1 RdU (x.l,x.b)=AObj.adt (List UInt8×Bool) 1 RdU ((xQ b w).snd.l,(xQ b w).snd.b)∧x.ok∧∀(y:Unit),True→cnd (xQ b w).fst.snd (∃(z:RB),AObj.adt (List UInt8×Bool) 1 RdU (z.l,z.b)=AObj.adt (List UInt8×Bool) 1 RdU (x.side.snd.l,x.side.snd.b)∧z.ok∧∀(a_1:Unit),True→cnd x.side.fst.snd ((zJc b w)*(112:Nat)≤(140737488355328:Nat)∧∃(a_2:Nat),(xQ b a_2).fst.snd=z.side.fst.snd∧zSo a_2 w b z x u v j) (zQo b w z x u v j)) (∃(z:RB),AObj.adt (List UInt8×Bool) 1 RdU (z.l,z.b)=AObj.adt (List UInt8×Bool) 1 RdU (x.side.snd.l,x.side.snd.b)∧z.ok∧∀(a_1:Unit),True→zQo b w z x u v j)) (cnd (!(xQ b w).fst.snd) (zCe b) (∃(x:RB),AObj.adt (List UInt8×Bool) 1 RdU (x.l,x.b)=AObj.adt (List UInt8×Bool) 1 RdU ((xQ b w).snd.l,(xQ b w).snd.b)∧x.l.length≤1099511627776∧∀(y:Unit),True→cnd ((if x.b=true then(10:Int)else if 0<x.l.length then(15:Int)else(0:Int)) !=0) (zCe b) (∃(z:Vw),List.map yI z=List.map yI (xQ b w).fst.fst∧(dD z)∧∀(a_1:Unit),True→cnd (!kO z) (zCe b) (∃(a_2:Unit),List.map yI (p7 b)=List.map yI (xQ b w).fst.fst∧rB b=IntKind.i64.wrap (kF (p.n 8).got)∧nB b=0∧True))))))
open Go Cv Go.Proofs
open Classical
theorem zUt (i:RN):i.left.length≤i.l.length:=by
 unfold RN.left;split
 ·omega
 ·rw[yXg];omega
theorem zAj (r:RB):0≤r.byte.1∧r.byte.1≤255:=by
 have hr:=pO (r.n 1).got
 have hl:=zQd (r.n 1)
 have h0:(256:Int) ^ (r.n 1).got.length≤256 ^ 1:=by
  have:(256:Nat) ^ (r.n 1).got.length≤256 ^ 1:=Nat.pow_le_pow_right (by omega) hl
  exact_mod_cast this
 exact⟨hr.1,by show kF _≤255;omega⟩
theorem tM {r:RB} (h:r.ok):r.byte.2.ok:=yZq (zUt _) h
theorem aE {r:RB} (h:r.ok):r.long.2.ok:=yZq (zUt _) h
theorem yKt {r:RB} (h:r.ok):r.lv.2.ok:=aE (aE (aE h))
theorem zXo {r:RB} (h:r.ok):∀k,(r.lvs k).2.ok
 |0=>h
 |k+1=>yKt (zXo h k)
theorem zHs {r:RB} (h:r.ok):r.part.2.ok:=zXo (tM h) _
theorem zGy {r:RB} (h:r.ok):r.side.2.ok:=by
 unfold RB.side;split
 ·exact yKt (tM (zHs h))
 ·exact tM (zHs h)
theorem zHw {r:RB} (h:r.ok):∀k,(r.views k).2.ok
 |0=>h
 |k+1=>zGy (zGy (zHw h k))
theorem zPw {r:RB}:∀k,(r.lvs k).1.length=k
 |0=>rfl
 |k+1=>by show((r.lvs k).1++[_]).length=_;rw[yWi,zPw k];rfl
theorem zUa {r:RB}:r.side.1.1.levels.length≤255:=by
 have:r.part.1.length≤255:=by
  show(r.byte.2.lvs r.byte.1.toNat).1.length≤255
  rw[zPw];have:=zAj r;omega
 unfold RB.side;split<;>exact this
theorem zEg {r:RB}:∀k,(r.views k).1.1.length=k
 |0=>rfl
 |k+1=>by show((r.views k).1.1++[_]).length=_;rw[yWi,zEg k];rfl
theorem zIy {r:RB}:∀k,∀b∈(r.views k).1.1,b.1.levels.length≤255∧b.2.levels.length≤255
 |0,b,h=>nomatch h
 |k+1,b,h=>by
  have h:b∈(r.views k).1.1++[_]:=h
  rw[yXo,yYc]at h
  rcases h with h|rfl
  ·exact zIy k b h
  ·exact⟨zUa,zUa⟩
theorem yIg:lgetC.ok Tryz.prog 128:=okw (V:=yQo) mixed (gokc zVm gok0) 0 (fun _=>[]) (fun _=>[]) [] Tryz.func128 fun(i:RB) h=>
 ⟨i,rfl,h,fun _ _=>⟨i.long.2,rfl,aE h,fun _ _=>⟨i.long.2.long.2,rfl,aE (aE h),fun _ _=>⟨(),rfl,rfl,rfl,rfl,trivial⟩⟩⟩⟩
theorem wj {j:Nat} (h:j≤100000):((j+1:Nat):Int)=IntKind.i64.wrap ((j:Int)+1):=by rw[w64 (by omega)];rfl
theorem yTo (i:RB) (h:sideC.cnd i):yJv i:=by
 unfold yJv x9 zFm cA mE qS dI
 have hb:=zAj i
 have hp:i.part=i.byte.2.lvs i.byte.1.toNat:=rfl
 refine⟨i,rfl,h,fun _ _=>⟨0,rfl,rfl,rfl,rfl,rfl,rfl,rfl,fun j=>j≤i.byte.1.toNat,fun j=>i.byte.1.toNat-j,yYh _,fun j hj=>zI (fun hlt=> ?_) (fun hlt=> ?_)⟩⟩
 ·dsimp only at hj
  have hlt:(j:Int)<i.byte.1:=hlt
  refine⟨(i.byte.2.lvs j).2,rfl,zXo (tM h) j,fun _ _=>⟨trivial,trivial,?_,j+1,wj (by omega),rfl,rfl,rfl,rfl,rfl,?_,by(first|omega|(dsimp only;omega)),by(first|omega|(dsimp only;omega)),k0q⟩⟩
  ·rw[yWk]
   show((i.byte.2.lvs j).1.length+1)*24≤_
   rw[zPw];omega
  ·show List.map lvE (i.byte.2.lvs (j+1)).1=_
   show List.map lvE ((i.byte.2.lvs j).1++[(i.byte.2.lvs j).2.lv.1])=_
   rw[yWv];rfl
 ·dsimp only at hj
  have hlt:¬(j:Int)<i.byte.1:=hlt
  obtain rfl:j=i.byte.1.toNat:=by omega
  refine⟨i.part.2,rfl,zHs h,fun _ _=>Cv.cnd.mk (fun e=> ?_) (fun e=> ?_)⟩
  ·have e:i.part.2.byte.1=1:=by
    have e:(i.part.2.byte.1==1)=true:=e
    simpa using e
   have hs:i.side=((⟨i.part.1,i.part.2.byte.2.lv.1,true⟩,true),i.part.2.byte.2.lv.2):=yWl e
   refine⟨i.part.2.byte.2,rfl,tM (zHs h),fun _ _=>⟨(),?_⟩⟩
   rw[hs]
   refine⟨rfl,rfl,rfl,rfl,rfl,?_,rfl,trivial⟩
   show true=decide (i.part.2.byte.1≤1)
   rw[e];rfl
  ·have e:¬i.part.2.byte.1=1:=by
    have e:(i.part.2.byte.1==1)=false:=e
    simpa using e
   have hs:i.side=((⟨i.part.1,⟨0,0,0⟩,false⟩,decide (i.part.2.byte.1≤1)),i.part.2.byte.2):=yWj e
   refine⟨(),?_⟩
   rw[hs]
   exact⟨rfl,rfl,rfl,rfl,rfl,rfl,rfl,trivial⟩
theorem yIt:sideC.ok Tryz.prog 76:=okw mixed (gokc zTt (gokc yIg gok0)) 0 (fun _=>[]) (fun i=>ySe i) [] Tryz.func76 yTo
theorem zFb (l:List UInt8):bE l=wX ⟨l.toArray⟩:=rfl
theorem z1i {b:List UInt8} (h:¬dR b):p7 b=[]∧rB b=0∧nB b=14:=by
 refine⟨?_,?_,?_⟩
 ·rw[p7,yWj fun x=>h x.1]
 ·rw[rB,yWj fun x=>h x.1]
 ·rw[nB,yWj h]
theorem z8z {b:List UInt8} (h:dR b) (h2:¬dH b):p7 b=[]∧rB b=0∧nB b=12:=by
 refine⟨?_,?_,?_⟩
 ·rw[p7,yWj fun x=>h2 x.2]
 ·rw[rB,yWj fun x=>h2 x.2]
 ·rw[nB,yWl h,yWj h2]
theorem yBz {b:List UInt8} (h:dR b) (h2:dH b):p7 b=(yA b).all.1.1∧rB b=(yA b).long.1∧nB b=0:=by
 refine⟨?_,?_,?_⟩
 ·rw[p7,yWl ⟨h,h2⟩]
 ·rw[rB,yWl ⟨h,h2⟩]
 ·rw[nB,yWl h,yWl h2]
theorem yWc (b:List UInt8) (h:decC.cnd b):yRm b:=by
 have h:b.length≤1099511627776:=h
 have e0:((bE b).length:Int)=b.length:=by rw[vK]
 have e1:IntKind.i64.wrap (((bE b).length:Int)-4)=(b.length:Int)-4:=by rw[w64 (by omega),e0]
 unfold yRm dD wJ sR zQo zSo Vdect262 qS zCe zBj zJc xQ dI
 rw[e1,e0]
 refine zI (fun hlt=> ?_) (fun hlt=> ?_)
 ·obtain⟨a1,a2,a3⟩:=z1i (b:=b) fun x=>by have:=x.1;omega
  exact⟨(),by rw[a1];rfl,a2,a3,trivial⟩
 have en:((b.length:Int)-4).toNat=b.length-4:=by omega
 rw[en,← z0k,← z3w]
 have hc:=sZ (b.take (b.length-4))
 have hx:(b.take (b.length-4)).length≤1099511627776:=by rw[yXd];omega
 have hr:(yA b).ok:=hx
 have hall:(yA b).head.2.ok:=tM (aE hr)
 have hn:=zAj (yA b).long.2
 refine⟨(),trivial,fun _ _=>⟨⟨by omega,by omega⟩,b.take (b.length-4),rfl,hx,fun _ _=>⟨⟨[],kC (b.take (b.length-4))⟩,rfl,rfl,⟨(show 0+8≤1099511627776 by omega),hc.1,hc.2⟩,fun _ _=>⟨⟨by omega,by omega⟩,_,rfl,zFb _,le (kC (b.take (b.length-4))) 4,rfl,(by rw[jX];omega),fun _ _=>⟨⟨_,rfl,zFb _,rfl⟩,_,rfl,zFb _,Cv.cnd.mk (fun e=> ?_) (fun e=> ?_)⟩⟩⟩⟩⟩
 ·rw[ByteArray.toList_eq,ByteArray.toList_eq]at e
  obtain⟨a1,a2,a3⟩:=z1i (b:=b) fun x=>by
   simp at e
   exact e x.2
  exact⟨(),by rw[a1];rfl,a2,a3,trivial⟩
 rw[ByteArray.toList_eq,ByteArray.toList_eq]at e
 have hs:dR b:=⟨by omega,by simpa using e⟩
 refine⟨⟨by omega,by omega⟩,b.take (b.length-4),rfl,hx,fun _ _=>⟨yA b,rfl,hr,fun _ _=>⟨(yA b).long.2,rfl,aE hr,fun _ _=>⟨0,rfl,rfl,rfl,rfl,fun j=>j≤(yA b).head.1.toNat,fun j=>(yA b).head.1.toNat-j,yYh _,fun j hj=>zI (fun hlt=> ?_) (fun hlt=> ?_)⟩⟩⟩⟩
 ·dsimp only at hj
  have hlt:(j:Int)<(yA b).head.1:=hlt
  have hn:0≤(yA b).head.1∧(yA b).head.1≤255:=hn
  have o1:((yA b).head.2.views j).2.ok:=zHw hall j
  have hl:((List.map yI ((yA b).head.2.views j).1.1).length+1)*112≤140737488355328:=by rw[yWk,zEg];omega
  have nb:((yA b).head.2.views (j+1)).1.2=(((yA b).head.2.views j).1.2 && ((yA b).head.2.views j).2.side.1.2 && ((yA b).head.2.views j).2.side.2.side.1.2):=rfl
  have nl:List.map yI ((yA b).head.2.views (j+1)).1.1=List.map yI ((yA b).head.2.views j).1.1++[yI (((yA b).head.2.views j).2.side.1.1,((yA b).head.2.views j).2.side.2.side.1.1)]:=by
   show List.map yI (((yA b).head.2.views j).1.1++[_])=_
   rw[yWv];rfl
  refine⟨((yA b).head.2.views j).2,rfl,o1,fun _ _=>Cv.cnd.mk (fun f1=> ?_) (fun f1=> ?_)⟩
  ·have f1:((yA b).head.2.views j).1.2=true:=f1
   refine⟨((yA b).head.2.views j).2.side.2,rfl,zGy o1,fun _ _=>Cv.cnd.mk (fun f2=>⟨hl,j+1,?_,wj (by omega),rfl,nl,by(first|omega|(dsimp only;omega)),by(first|omega|(dsimp only;omega)),k0q⟩) (fun f2=>⟨hl,j+1,?_,wj (by omega),rfl,nl,by(first|omega|(dsimp only;omega)),by(first|omega|(dsimp only;omega)),k0q⟩)⟩
   ·refine nb.trans ?_
    rw[f1,f2];rfl
   ·refine nb.trans ?_
    rw[f1,f2];rfl
  ·have f1:((yA b).head.2.views j).1.2=false:=f1
   refine⟨((yA b).head.2.views j).2.side.2,rfl,zGy o1,fun _ _=>⟨hl,j+1,?_,wj (by omega),rfl,nl,by(first|omega|(dsimp only;omega)),by(first|omega|(dsimp only;omega)),k0q⟩⟩
   refine nb.trans ?_
   rw[f1];rfl
 ·dsimp only at hj
  have hlt:¬(j:Int)<(yA b).head.1:=hlt
  have hn:0≤(yA b).head.1∧(yA b).head.1≤255:=hn
  obtain rfl:j=(yA b).head.1.toNat:=by omega
  have no:∀h2:¬dH b,(∃(o:Unit),List.map yI (p7 b)=[]∧rB b=0∧nB b=12∧True):=fun h2=>by
   obtain⟨a1,a2,a3⟩:=z8z hs h2
   exact⟨(),by rw[a1];rfl,a2,a3,trivial⟩
  refine Cv.cnd.mk (fun f=>no fun x=> ?_) (fun f=> ?_)
  ·have x1:((yA b).head.2.views (yA b).head.1.toNat).1.2=true:=x.1
   have f:(!((yA b).head.2.views (yA b).head.1.toNat).1.2)=true:=f
   rw[x1]at f;cases f
  have f:((yA b).head.2.views (yA b).head.1.toNat).1.2=true:=by
   have f:(!((yA b).head.2.views (yA b).head.1.toNat).1.2)=false:=f
   simpa using f
  refine⟨(yA b).all.2,rfl,zHw hall _,fun _ _=>Cv.cnd.mk (fun g=>no fun x=> ?_) (fun g=> ?_)⟩
  ·have x2:(yA b).all.2.endOf=0:=x.2.1
   have g:((yA b).all.2.endOf !=0)=true:=g
   rw[x2]at g;cases g
  have g:(yA b).all.2.endOf=0:=by
   have g:((yA b).all.2.endOf !=0)=false:=g
   simpa using g
  refine⟨(yA b).all.1.1,rfl,⟨?_,?_⟩,fun _ _=>Cv.cnd.mk (fun q=>no fun x=> ?_) (fun q=> ?_)⟩
  ·show((yA b).head.2.views (yA b).head.1.toNat).1.1.length≤_
   rw[zEg];omega
  ·intro y hy
   have:=zIy (r:=(yA b).head.2) _ y hy
   omega
  ·have:=x.2.2
   simp only[kO,yZh,decide_eq_false_iff_not]at q
   exact q this
  ·have q:qM (yA b).all.1.1:=by simpa[kO]using q
   obtain⟨a1,a2,a3⟩:=yBz hs ⟨f,g,q⟩
   refine⟨(),?_,a2,a3,trivial⟩
   rw[a1];rfl
theorem dec_ok:decC.ok Tryz.prog 22:=okw mixed (gokc zSl (gokc zYi (gokc zYs (gokc zQq (gokc yGi (gokc zVm (gokc zTt (gokc yIt (gokc yFi (gokc rightV_ok gok0)))))))))) 0 (fun _=>[]) (fun b=>yVy b) [] Tryz.func22 yWc
open Go Cv Go.Proofs
open Classical
open Go Cv Go.Proofs
open Go Cv Go.Proofs
open Classical
open Go Cv Go.Proofs
theorem ySl (n:Int):((lob n).toNat:Int)=n % 256:=(zSm n).symm
theorem eK (x:UInt8) (l:List UInt8):RB.byte ⟨x::l,false⟩=((x.toNat:Int),⟨l,false⟩):=by
 simp[RB.byte,RB.n,RN.got,RN.left,RN.bad,kF]
theorem yGu (a l:List UInt8):(RN.mk (a++l) false a.length).got=a∧(RN.mk (a++l) false a.length).left=l∧(RN.mk (a++l) false a.length).bad=false:=by
 have h:(RN.mk (a++l) false a.length).bad=false:=by simp[RN.bad]
 simp[RN.got,RN.left,h]
theorem yDv (n:Int):kF (le n 8)=n % 18446744073709551616:=by
 simp only[le,kF,ySl];omega
theorem zHe {n:Int} (h:yU n) (l:List UInt8):RB.long ⟨le n 8++l,false⟩=(n,⟨l,false⟩):=by
 have e:(RB.mk (le n 8++l) false).n 8=RN.mk (le n 8++l) false (le n 8).length:=by rw[jX];rfl
 obtain⟨h1,h2,h3⟩:=yGu (le n 8) l
 rw[RB.long,e,h1,h2,h3,yDv]
 obtain⟨ha,hb⟩:=h
 have:IntKind.i64.wrap (n % 18446744073709551616)=n:=by
  have e:=Cv.wrap_i64 ha hb
  by_cases hn:0≤n
  ·rw[show n % 18446744073709551616=n by omega];exact e
  ·have:n % 18446744073709551616=n+18446744073709551616:=by omega
   rw[this]
   rw[IntKind.wrap]at e ⊢
   simp only[IntKind.wrap,IntKind.bits,IntKind.signed]at e ⊢
   simp at e ⊢
   omega
 rw[this]
theorem z1h {n:Int} (h:0≤n∧n≤255):((lob n).toNat:Int)=n:=by rw[ySl];omega
open Go Cv Go.Proofs
open Go Cv Go.Proofs
open Go Cv Go.Proofs
open Go Cv Go.Proofs
open Go Cv Go.Proofs
deriving instance DecidableEq for Lv
def yGn (s:Int) (L:List Lv):Prop:=L.Pairwise fun a b=>btr s a.price b.price=true
theorem yLz {s x y z:Int} (h:btr s x y=true) (h2:btr s y z=true):btr s x z=true:=by
 rw[btr]at h h2 ⊢
 split
 ·rename_i e;rw[yWl e]at h h2;have:=yYx h;have:=yYx h2;exact yXc (by omega)
 ·rename_i e;rw[yWj e]at h h2;have:=yYx h;have:=yYx h2;exact yXc (by omega)
theorem yFa {s x y:Int} (h:btr s x y=false) (hne:x≠y):btr s y x=true:=by
 rw[btr]at h ⊢
 split
 ·rename_i e;rw[yWl e]at h;have:=y0z h;exact yXc (by omega)
 ·rename_i e;rw[yWj e]at h;have:=y0z h;exact yXc (by omega)
open Go Cv Go.Proofs
def yUy (L:List Lv):Prop:=∀l∈L,1≤l.qty
open Go Cv Go.Proofs
open Go Cv Go.Proofs
theorem zHb (a:Nat):BitVec.ofInt 32 (a:Int)=BitVec.ofNat 32 a:=by
 apply BitVec.eq_of_toNat_eq
 simp
theorem zPx {a b:Nat} (ha:a<4294967296) (hb:b<4294967296):aI .u32 (a:Int) (b:Int)=((a ^^^ b:Nat):Int):=by
 have h:a ^^^ b<2 ^ 32:=yZx (by omega) (by omega)
 have e:aI .u32 (a:Int) (b:Int)=(((BitVec.ofInt 32 (a:Int) ^^^ BitVec.ofInt 32 (b:Int)).toNat:Int)) % 4294967296:=rfl
 rw[e,zHb,zHb,BitVec.toNat_xor,BitVec.toNat_ofNat,BitVec.toNat_ofNat,y0l (by omega),y0l (by omega)]
 omega
theorem yHn {a:Nat} (ha:a<4294967296):sW .u32 (a:Int) 1=((a % 2:Nat):Int):=by
 have e:sW .u32 (a:Int) 1=(((BitVec.ofInt 32 (a:Int) &&& BitVec.ofInt 32 ((1:Nat):Int)).toNat:Int)) % 4294967296:=rfl
 rw[e,zHb,zHb,BitVec.toNat_and,BitVec.toNat_ofNat,BitVec.toNat_ofNat,y0l (by omega),y0l (by omega),Nat.and_one_is_mod]
 omega
theorem yIm (a:Nat):dN .u32 (a:Int) 1=((a / 2:Nat):Int):=by
 have e:dN .u32 (a:Int) 1=(a:Int).fdiv 2:=rfl
 rw[e,Int.fdiv_eq_ediv_of_nonneg _ (by omega)];omega
def zRn (a:Nat):Nat:=if a % 2=1 then(a / 2) ^^^ 3988292384 else a / 2
theorem yFf {a:Nat} (ha:a<4294967296):zIl (a:Int)=(zRn a:Int):=by
 rw[zIl,yHn ha,yIm,zRn]
 by_cases h:a % 2=1
 ·rw[yWl (by omega),yWl h]
  exact zPx (b:=3988292384) (by omega) (by omega)
 ·rw[yWj (by omega),yWj h]
theorem yOu {a:Nat} (ha:a<4294967296):zRn a<4294967296:=by
 rw[zRn]
 split
 ·exact yZx (n:=32) (by omega) (by omega)
 ·omega
theorem z9z {a:Nat} (ha:a<4294967296):(a / 2).testBit 31=false:=Nat.testBit_lt_two_pow (by omega)
theorem yEn {a b:Nat} (ha:a<4294967296) (hb:b<4294967296) (h:zRn a=zRn b):a=b:=by
 have hp:(3988292384:Nat).testBit 31=true:=by decide
 have t1:=z9z ha
 have t2:=z9z hb
 rw[zRn,zRn]at h
 have ht:=congrArg (fun n=>n.testBit 31) h
 split at h<;>split at h
 ·have:a / 2=b / 2:=by
   have:=congrArg (·^^^ 3988292384) h
   simpa[Nat.xor_assoc]using this
  omega
 ·rename_i h1 h2
  rw[yWl h1,yWj h2,Nat.testBit_xor,t1,t2,hp]at ht
  cases ht
 ·rename_i h1 h2
  rw[yWj h1,yWl h2,Nat.testBit_xor,t1,t2,hp]at ht
  cases ht
 ·omega
def pX:Nat→Nat→Nat
 |0,a=>a
 |k+1,a=>zRn (pX k a)
theorem f7:∀(k:Nat) {a:Nat},a<4294967296→pX k a<4294967296
 |0,_,h=>h
 |k+1,_,h=>yOu (f7 k h)
theorem zSu:∀(k:Nat) {a:Nat},a<4294967296→k0 k (a:Int)=(pX k a:Int)
 |0,_,_=>rfl
 |k+1,_,h=>by rw[k0,zSu k h,yFf (f7 k h)];rfl
theorem zMc:∀(k:Nat) {a b:Nat},a<4294967296→b<4294967296→pX k a=pX k b→a=b
 |0,_,_,_,_,h=>h
 |k+1,_,_,ha,hb,h=>zMc k ha hb (yEn (f7 k ha) (f7 k hb) h)
theorem yJj {a b c:Nat} (h:a ^^^ c=b ^^^ c):a=b:=by
 have:=congrArg (·^^^ c) h
 simpa[Nat.xor_assoc]using this
theorem yAr {a b c:Nat} (h:c ^^^ a=c ^^^ b):a=b:=yJj (c:=c) (by rw[Nat.xor_comm a,Nat.xor_comm b];exact h)
def aW (c:Nat) (l:List UInt8):Nat:=l.foldl (fun c b=>pX 8 (c ^^^ b.toNat)) c
theorem zRi:∀(l:List UInt8) {c:Nat},c<4294967296→aW c l<4294967296
 |[],_,h=>h
 |b::l,c,h=>zRi l (f7 8 (yZx (n:=32) (by omega) (by have:=b.toNat_lt;omega)))
theorem z3i:∀(l:List UInt8) {c:Nat},c<4294967296→l.foldl (fun c b=>k0 8 (aI .u32 c b.toNat)) (c:Int)=(aW c l:Int)
 |[],_,_=>rfl
 |b::l,c,h=>by
  have hb:=b.toNat_lt
  have hx:c ^^^ b.toNat<4294967296:=yZx (n:=32) (by omega) (by omega)
  rw[yZw,zPx h (by omega),zSu 8 hx,z3i l (f7 8 hx)]
  rfl
theorem z3g:∀(l:List UInt8) {c d:Nat},c<4294967296→d<4294967296→aW c l=aW d l→c=d
 |[],_,_,_,_,h=>h
 |b::l,c,d,hc,hd,h=>by
  have hb:=b.toNat_lt
  have hx:c ^^^ b.toNat<4294967296:=yZx (n:=32) (by omega) (by omega)
  have hy:d ^^^ b.toNat<4294967296:=yZx (n:=32) (by omega) (by omega)
  have h:aW (pX 8 (c ^^^ b.toNat)) l=aW (pX 8 (d ^^^ b.toNat)) l:=h
  exact yJj (zMc 8 hx hy (z3g l (f7 8 hx) (f7 8 hy) h))
theorem yCn (l:List UInt8):zCo l=(aW 4294967295 l:Int):=z3i l (c:=4294967295) (by decide)
theorem zFj (l:List UInt8):kC l=((4294967295 ^^^ aW 4294967295 l:Nat):Int):=by
 rw[kC,yCn]
 exact zPx (a:=4294967295) (by omega) (zRi l (by omega))
theorem yAn {a b:List UInt8} {x y:UInt8} (h:kC (a++x::b)=kC (a++y::b)):x=y:=by
 rw[zFj,zFj]at h
 have h:=yAr (Int.ofNat.inj h)
 rw[aW,aW,y0r,y0r]at h
 have hc:a.foldl (fun c b=>pX 8 (c ^^^ b.toNat)) 4294967295<4294967296:=zRi a (c:=4294967295) (by omega)
 generalize a.foldl (fun c b=>pX 8 (c ^^^ b.toNat)) 4294967295=c at h hc
 have hxl:=x.toNat_lt
 have hyl:=y.toNat_lt
 have hx:c ^^^ x.toNat<4294967296:=yZx (n:=32) (by omega) (by omega)
 have hy:c ^^^ y.toNat<4294967296:=yZx (n:=32) (by omega) (by omega)
 have h:aW (pX 8 (c ^^^ x.toNat)) b=aW (pX 8 (c ^^^ y.toNat)) b:=h
 exact UInt8.toNat.inj (yAr (zMc 8 hx hy (z3g b (f7 8 hx) (f7 8 hy) h)))
theorem yAg (l:List UInt8):0≤kC l∧kC l<4294967296:=by
 rw[zFj]
 have:4294967295 ^^^ aW 4294967295 l<2 ^ 32:=yZx (by omega) (zRi l (by omega))
 omega
theorem yFb {c d:Int} (hc:0≤c∧c<4294967296) (hd:0≤d∧d<4294967296) (h:le c 4=le d 4):c=d:=by
 have lobn:∀n:Int,((lob n).toNat:Int)=n % 256:=fun n=>(zSm n).symm
 simp only[le,List.cons.injEq,and_true]at h
 obtain⟨h0,h1,h2,h3⟩:=h
 have e0:=lobn c;rw[h0,lobn]at e0
 have e1:=lobn (c / 256);rw[h1,lobn]at e1
 have e2:=lobn (c / 256 / 256);rw[h2,lobn]at e2
 have e3:=lobn (c / 256 / 256 / 256);rw[h3,lobn]at e3
 omega
theorem z9d {m:List UInt8} {k:Nat} {x:UInt8} (hk:k<(m++le (kC m) 4).length) (hx:(m++le (kC m) 4)[k]?≠some x):
 let b:=(m++le (kC m) 4).set k x
 le (kC (b.take (b.length-4))) 4≠b.drop (b.length-4):=by
 intro b
 have hl4:(le (kC m) 4).length=4:=jX 4 _
 have hbl:b.length-4=m.length:=by show(List.set _ _ _).length-4=_;rw[yXf,yWi,hl4];omega
 rw[hbl]
 rw[yWi,hl4]at hk
 intro h
 by_cases c:k<m.length
 ·have e:b=m.set k x++le (kC m) 4:=List.set_append_left _ _ c
  rw[e,yXh (by rw[yXf];omega),yYr (by rw[yXf];omega),yWu (by rw[yXf];omega),List.drop_of_length_le (by rw[yXf];omega),yZa]at h
  have h:=yFb (yAg _) (yAg _) h
  have em:m=m.take k++m[k]::m.drop (k+1):=by rw[← yYo c,yYw]
  have es:m.set k x=m.take k++x::m.drop (k+1):=yZg.trans (yWl c)
  rw[es]at h
  have h:kC (m.take k++x::m.drop (k+1))=kC (m.take k++m[k]::m.drop (k+1)):=h.trans (congrArg kC em)
  have:=yAn h
  rw[yYv c,yXj c]at hx
  exact hx (by rw[this])
 ·have e:b=m++(le (kC m) 4).set (k-m.length) x:=List.set_append_right _ _ (by omega)
  rw[e,y2t,List.drop_left]at h
  rw[yYg (by omega),h,y2q (by rw[hl4];omega)]at hx
  exact hx rfl
open Go Cv Go.Proofs
open Classical
def Lv.fit (x:Lv):Prop:=yU x.price∧yU x.qty∧yU x.count
def Sd.fit (s:Sd):Prop:=(∀x∈s.levels,x.fit)∧s.imp.fit
def z8e (v:Vw):Prop:=∀b∈v,b.1.fit∧b.2.fit
theorem zZv {α:Type}:∀(l:List α) {k:Nat} (h:k<l.length),l.take k++[l[k]]=l.take (k+1)
 |[],_,h=>absurd h (by simp)
 |a::l,0,_=>rfl
 |a::l,k+1,h=>by
  have:=zZv l (k:=k) (by simpa using h)
  rw[yXw,yXw,← this];rfl
theorem yCg {x:Lv} (h:x.fit) (l:List UInt8):RB.lv ⟨yX x++l,false⟩=(x,⟨l,false⟩):=by
 obtain⟨h1,h2,h3⟩:=h
 rw[RB.lv,yX,yWo,yWo,zHe h1]
 dsimp only
 rw[zHe h2]
 dsimp only
 rw[zHe h3]
theorem z3o {L:List Lv} (h:∀x∈L,x.fit) (l:List UInt8):∀k,k≤L.length→RB.lvs ⟨L.flatMap yX++l,false⟩ k=(L.take k,⟨(L.drop k).flatMap yX++l,false⟩)
 |0,_=>by simp[RB.lvs]
 |k+1,hk=>by
  have hk':k<L.length:=hk
  rw[RB.lvs,z3o h l k (by omega),yYo hk',yXv,yWo]
  dsimp only
  rw[yCg (h _ (List.getElem_mem hk'))]
  dsimp only
  rw[zZv L hk']
theorem zSz {s:Sd} (h:s.fit) (hl:s.levels.length≤255) (h0:s.has=false→s.imp=⟨0,0,0⟩) (l:List UInt8):RB.side ⟨gZ s++l,false⟩=((s,true),⟨l,false⟩):=by
 have hp:RB.part ⟨gZ s++l,false⟩=(s.levels,⟨(if s.has then[lob 1]++yX s.imp else[lob 0])++l,false⟩):=by
  have e:gZ s++l=lob s.levels.length::(s.levels.flatMap yX++((if s.has then[lob 1]++yX s.imp else[lob 0])++l)):=by simp[gZ,yWo]
  rw[e,RB.part,eK]
  dsimp only
  rw[z1h (by omega),yXa,z3o h.1 _ _ (yXl _),y0a,List.drop_length]
  rfl
 rw[RB.side,hp]
 dsimp only
 cases hh:s.has with
 |true=>
  rw[yWl rfl,yWo]
  have e:[lob 1]++(yX s.imp++l)=lob 1::(yX s.imp++l):=rfl
  rw[e,eK]
  dsimp only
  rw[z1h (by omega),yWl rfl,yCg h.2]
  cases s;cases hh;rfl
 |false=>
  have e:(if false=true then[lob 1]++yX s.imp else[lob 0])++l=lob 0::l:=rfl
  rw[e,eK]
  dsimp only
  rw[z1h (by omega),yWj (by decide)]
  have:=h0 hh
  cases s;cases hh;cases this;rfl
theorem zNs {v:Vw} (h:z8e v) (hr:qM v) (l:List UInt8):∀k,k≤v.length→RB.views ⟨v.flatMap y4++l,false⟩ k=((v.take k,true),⟨(v.drop k).flatMap y4++l,false⟩)
 |0,_=>by simp[RB.views]
 |k+1,hk=>by
  have hk':k<v.length:=hk
  have hm:=List.getElem_mem hk'
  obtain⟨f1,f2⟩:=h _ hm
  obtain⟨⟨_,a1,_,a2⟩,⟨_,b1,_,b2⟩⟩:=hr.1 _ hm
  rw[RB.views,zNs h hr l k (by omega),yYo hk',yXv,y4,yWo,yWo]
  dsimp only
  rw[zSz f1 a1 a2]
  dsimp only
  rw[zSz f2 b1 b2]
  dsimp only
  rw[← zZv v hk']
  rfl
theorem yEj {v:Vw} (h:z8e v) (hr:qM v) {seq:Int} (hs:yU seq):RB.all ⟨xE v seq,false⟩=((v,true),⟨[],false⟩)∧(RB.mk (xE v seq) false).long.1=seq:=by
 have hl:=hr.2
 have e:xE v seq=le seq 8++(lob v.length::v.flatMap y4):=by simp[xE,yWo]
 have e2:RB.long ⟨xE v seq,false⟩=(seq,⟨lob v.length::v.flatMap y4,false⟩):=by rw[e,zHe hs]
 have e3:RB.head ⟨xE v seq,false⟩=((v.length:Int),⟨v.flatMap y4,false⟩):=by
  rw[RB.head,e2];dsimp only;rw[eK,z1h (by omega)]
 refine⟨?_,by rw[e2]⟩
 have:=zNs h hr [] v.length (yXl _)
 rw[yXi,yXi,y0a,List.drop_length]at this
 rw[RB.all,e3]
 dsimp only
 rw[yXa,this]
 rfl
theorem yDg {v:Vw} (hr:qM v) (seq:Int):yA (yE v seq)=⟨xE v seq,false⟩∧dR (yE v seq):=by
 have hl:(yE v seq).length-4=(xE v seq).length:=by rw[yE,yWl hr,yWi,jX];omega
 have h4:4≤(yE v seq).length:=by rw[yE,yWl hr,yWi,jX];omega
 have ht:(yE v seq).take ((yE v seq).length-4)=xE v seq:=by rw[hl,yE,yWl hr,y2t]
 have hd:(yE v seq).drop ((yE v seq).length-4)=le (kC (xE v seq)) 4:=by rw[hl,yE,yWl hr,List.drop_left]
 exact⟨by rw[yA,ht],h4,by rw[ht,hd]⟩
theorem z6u {v:Vw} (h:z8e v) (hr:qM v) {seq:Int} (hs:yU seq):p7 (yE v seq)=v∧rB (yE v seq)=seq∧nB (yE v seq)=0:=by
 obtain⟨b1,b2⟩:=yDg hr seq
 obtain⟨a1,a2⟩:=yEj h hr hs
 have hf:dH (yE v seq):=by rw[dH,b1,a1];exact⟨rfl,rfl,hr⟩
 refine⟨?_,?_,?_⟩
 ·rw[p7,yWl ⟨b2,hf⟩,b1,a1]
 ·rw[rB,yWl ⟨b2,hf⟩,b1,a2]
 ·rw[nB,yWl b2,yWl hf]
theorem z6m {v:Vw} (hr:qM v) {seq:Int} {k:Nat} {x:UInt8} (hk:k<(yE v seq).length) (hx:(yE v seq)[k]?≠some x):
 p7 ((yE v seq).set k x)=[]∧rB ((yE v seq).set k x)=0∧nB ((yE v seq).set k x)=14:=by
 have hn:¬dR ((yE v seq).set k x):=by
  rw[yE,yWl hr]at hk hx ⊢
  exact fun h=>z9d hk hx h.2
 exact⟨by rw[p7,yWj fun h=>hn h.1],by rw[rB,yWj fun h=>hn h.1],by rw[nB,yWj hn]⟩
open Go Cv Go.Proofs
open Go Cv Go.Proofs
open Go Cv Go.Proofs
end Sx
