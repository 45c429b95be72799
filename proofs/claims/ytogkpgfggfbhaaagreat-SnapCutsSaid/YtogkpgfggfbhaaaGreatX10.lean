/- Texts of ours, one behind the other: a walk that the kernel reckons, and contracts of functions. No condition. -/
import Derived.Test.YtogkpgfggfbhaaaGreatX9
namespace Sx
set_option linter.unusedVariables false
set_option linter.unusedSimpArgs false
set_option maxRecDepth 100000
open Go Cv Go.Proofs
theorem yNo (k:Nat):∀n:Int,le (n % 256 ^ k) k=le n k:=by
 induction k with
 |zero=>intro n;rfl
 |succ k ih=>
  intro n
  have hp:(0:Int)<256 ^ k:=Int.pow_pos (by omega)
  have h1:lob (n % 256 ^ (k+1))=lob n:=by
   unfold lob
   rw[Int.pow_succ,y0o,Int.emod_emod_of_dvd n ⟨256 ^ k,rfl⟩]
  have h2:n % 256 ^ (k+1) / 256=n / 256 % 256 ^ k:=by
   have e:n=256*(n / 256)+n % 256:=(Int.mul_ediv_add_emod n 256).symm
   have e2:n / 256=256 ^ k*(n / 256 / 256 ^ k)+n / 256 % 256 ^ k:=(Int.mul_ediv_add_emod _ _).symm
   have hr:=Int.emod_nonneg (n / 256) (show(256:Int) ^ k≠0 by omega)
   have hr2:=Int.emod_lt_of_pos (n / 256) hp
   have e3:n % 256 ^ (k+1)=256*(n / 256 % 256 ^ k)+n % 256:=by
    have:n=256 ^ (k+1)*(n / 256 / 256 ^ k)+(256*(n / 256 % 256 ^ k)+n % 256):=by
     rw[Int.pow_succ,y0o (256 ^ k) 256,Int.mul_assoc,← Int.add_assoc,← Int.mul_add,← e2]
     exact e
    conv=>lhs;rw[this]
    rw[Int.add_comm,Int.add_mul_emod_self_left,Int.emod_eq_of_lt]
    ·omega
    ·rw[Int.pow_succ];omega
   rw[e3]
   omega
  rw[le,le,h1,h2,ih]
theorem z4m (n:Int):le (IntKind.u64.wrap n) 8=le n 8:=yNo 8 n
theorem z0b (n:Int):lob (IntKind.u64.wrap n)=lob n:=by
 have:IntKind.u64.wrap n=n % 18446744073709551616:=rfl
 unfold lob
 rw[this,Int.emod_emod_of_dvd n ⟨72057594037927936,by decide⟩]
theorem cT (n:Int):0≤IntKind.u64.wrap n∧IntKind.u64.wrap n<18446744073709551616:=by
 have:IntKind.u64.wrap n=n % 18446744073709551616:=rfl
 rw[this];omega
theorem yRx (i:WN) (h:byteC.cnd i):yIl i:=by
 unfold yIl cD
 have h:i.l.length+8≤1099511627776:=h
 exact⟨⟨i.l,IntKind.u64.wrap i.n,1⟩,rfl,rfl,rfl,⟨(cT _).1,(cT _).2,by dsimp only;omega⟩,fun _ _=>⟨(),by simp only[le,z0b],trivial⟩⟩
theorem yRr (i:WN) (h:longC.cnd i):yJu i:=by
 unfold yJu cD
 have h:i.l.length+8≤1099511627776:=h
 exact⟨⟨i.l,IntKind.u64.wrap i.n,8⟩,rfl,rfl,rfl,⟨(cT _).1,(cT _).2,by dsimp only;omega⟩,fun _ _=>⟨(),by simp only[z4m],trivial⟩⟩
theorem yUq (i:WN) (h:sumC.cnd i):yRu i:=by
 unfold yRu cD
 obtain⟨h1,h2,h3⟩:=h
 have e:IntKind.u64.wrap i.n=i.n:=zAm (by omega)
 exact⟨⟨i.l,IntKind.u64.wrap i.n,4⟩,rfl,rfl,rfl,⟨(cT _).1,(cT _).2,by dsimp only;omega⟩,fun _ _=>⟨(),by simp only[e],trivial⟩⟩
theorem yIf:byteC.ok Tryz.prog 80:=okw mixed (gokc zYg gok0) 0 (fun _=>[]) (fun _=>[]) [] Tryz.func80 yRx
theorem z2z:longC.ok Tryz.prog 79:=okw mixed (gokc zYg gok0) 0 (fun _=>[]) (fun _=>[]) [] Tryz.func79 yRr
theorem yBz:sumC.ok Tryz.prog 87:=okw mixed (gokc zYg gok0) 0 (fun _=>[]) (fun _=>[]) [] Tryz.func87 yUq
theorem zYf:cloneBO.ok Tryz.prog 127:=z4y gok0 fun i h=>fun b hb=>
 Cv.cnd.mk (fun e=>⟨(),rfl,hb e,trivial⟩) (fun _=>⟨by rw[yWi];exact h,(),rfl,rfl,trivial⟩)
theorem zXw:cloneBR.ok Tryz.prog 127:=z4e gok0 fun i h=>fun b hb=>
 Cv.cnd.mk (fun e=>⟨(),hb e,trivial⟩) (fun _=>⟨by rw[yWi];exact h,(),rfl,trivial⟩)
theorem z2k:newWC.ok Tryz.prog 78:=okw (V:=yQc) mixed gok0 0 (fun _=>[]) (fun _=>[]) [] Tryz.func78 fun(_:Unit) _=>⟨(),rfl,trivial⟩
theorem z1u:doneC.ok Tryz.prog 81:=okw (V:=ySr) mixed (gokc zYf gok0) 0 (fun _=>[]) (fun _=>[]) [0] Tryz.func81 fun(i:List UInt8) h=>by
 have h:i.length≤1099511627776:=h
 exact⟨_,rfl,by rw[vM];omega,fun _ _=>⟨(),rfl,rfl,trivial⟩⟩
theorem yEv:newRC.ok Tryz.prog 82:=okw (V:=ySi) mixed (gokc zXw gok0) 0 (fun _=>[]) (fun _=>[]) [] Tryz.func82 fun(i:List UInt8) h=>by
 have h:i.length≤1099511627776:=h
 exact⟨_,rfl,by rw[vM];omega,fun _ _=>⟨(),rfl,rfl,trivial⟩⟩
theorem zNg {l:List UInt8} {i:Nat} {b:UInt8} (h:l[i]? =some b):zE (bE l) i 0 1=some [.v (.int .u8 b.toNat)]:=by
 unfold zE bE
 rw[yWt,h];rfl
theorem z6u {l:List UInt8} {i:Nat} {b:UInt8} (h:l[i]? =some b):zDt (l.take (i+1))=wZ 8 (zAh .u32 (zDt (l.take i)) b.toNat):=by
 unfold zDt
 rw[yWs,h]
 simp[y0t]
theorem ySo (b:UInt8):IntKind.u32.wrap (b.toNat:Int)=b.toNat:=yUy (by have:=b.toNat_lt;omega)
theorem yQg (b:UInt8):IntKind.u64.wrap (b.toNat:Int)=b.toNat:=zAm (by have:=b.toNat_lt;omega)
theorem yUj (i:List UInt8) (h:crcC.cnd i):yQb i:=by
 unfold yQb kI
 have h:i.length≤1099511627776:=h
 refine⟨0,rfl,rfl,fun j=>j≤i.length,fun j=>i.length-j,by dsimp only;omega,fun j hj=>zJ (fun hlt=> ?_) (fun hlt=> ?_)⟩
 ·dsimp only at hj
  rw[vM]at hlt
  obtain⟨b,hb⟩:∃b,i[j]? =some b:=⟨_,yWp (by omega)⟩
  refine⟨⟨by omega,by rw[vM];omega⟩,b.toNat,zNg hb,(zAh .u32 (zDt (i.take j)) b.toNat,0),?_,rfl,fun x=>x.1=zAh .u32 (zDt (i.take j)) b.toNat∧x.2≤8,fun x=>8-x.2,⟨rfl,by dsimp only;omega⟩,?_⟩
  ·simp only[wZ,ySo]
  rintro⟨c,n⟩ ⟨h1,h2⟩
  dsimp only at h1 h2
  subst h1
  refine zJ (fun hn=>⟨by omega,zJ (fun hc=> ?_) (fun hc=> ?_)⟩) (fun hn=> ?_)
  ·refine⟨(zAh .u32 (zDt (i.take j)) b.toNat,n+1),?_,?_,⟨rfl,by dsimp only at hn ⊢;omega⟩,by dsimp only at hn ⊢;omega,trivial⟩
   ·simp only[wZ,zYi];rw[yVl hc]
   ·rw[w64 (by dsimp only;omega)];rfl
  ·refine⟨(zAh .u32 (zDt (i.take j)) b.toNat,n+1),?_,?_,⟨rfl,by dsimp only at hn ⊢;omega⟩,by dsimp only at hn ⊢;omega,trivial⟩
   ·simp only[wZ,zYi];rw[yVj hc]
   ·rw[w64 (by dsimp only;omega)];rfl
  ·dsimp only at hn
   obtain rfl:n=8:=by omega
   refine⟨j+1,z6u hb,?_,by dsimp only;omega,by dsimp only;omega,trivial⟩
   rw[w64 (by omega)];rfl
 ·dsimp only at hj
  rw[vM]at hlt
  refine⟨(),?_,trivial⟩
  rw[yVx (by omega)]
  rfl
theorem z7x:crcC.ok Tryz.prog 88:=okw mixed gok0 0 (fun _=>[]) (fun i=>yTq i) [] Tryz.func88 yUj
theorem yEy:takeC.ok Tryz.prog 168:=okw (V:=ySv) mixed gok0 0 (fun _=>[]) (fun _=>[]) [0] Tryz.func168 fun(i:RN) h=>by
 obtain⟨h1,h2⟩:=h
 refine Cv.cnd.mk (fun e=> ?_) (fun e=>zJ (fun hlt=> ?_) (fun hlt=> ?_))
 ·have:i.bad=true:=by simp[RN.bad,e]
  exact⟨(),by simp[RN.got,this],by simp[RN.left,this],this,trivial⟩
 ·rw[vM]at hlt
  have:i.bad=true:=by simp[RN.bad];right;omega
  exact⟨(),by simp[RN.got,this],by simp[RN.left,this],by rw[this,vM];simp;omega,trivial⟩
 ·rw[vM]at hlt
  have:i.bad=false:=by simp[RN.bad,e];omega
  rw[vM]
  exact⟨⟨by omega,by omega⟩,⟨by omega,by omega⟩,(),by simp[RN.got,this,zQz],by simp[RN.left,this,z0l],by rw[this];simp;omega,trivial⟩
theorem m8:∀l:List UInt8,0≤kQ l∧kQ l<256 ^ l.length
 |[]=>by simp[kQ]
 |b::l=>by
  obtain⟨h1,h2⟩:=m8 l
  have:=b.toNat_lt
  simp only[kQ,yVt,Int.pow_succ]
  omega
theorem zMu (b:UInt8):∀l:List UInt8,kQ (l++[b])=kQ l+b.toNat*256 ^ l.length
 |[]=>by simp[kQ]
 |c::l=>by
  simp only[yXb,kQ,zMu b l,yVt,Int.pow_succ,Int.mul_add]
  rw[y0o (256 ^ l.length) 256,← Int.mul_assoc,← Int.mul_assoc,y0o 256 (b.toNat:Int)]
  omega
theorem z7b {x b j:Nat} (hx:x<256 ^ j) (hb:b<256) (hj:j<8):iOr .u64 x (zSw .u64 b ((8*j:Nat):Int))=((x+b*256 ^ j:Nat):Int):=by
 have hp:256 ^ j=2 ^ (8*j):=by rw[Nat.pow_mul]
 have hle:256 ^ (j+1)≤256 ^ 8:=Nat.pow_le_pow_right (by omega) (by omega)
 have hbig:x+b*256 ^ j<256 ^ (j+1):=by
  rw[Nat.pow_succ]
  have:b*256 ^ j≤255*256 ^ j:=yXm _ (by omega)
  omega
 have h8:(256:Nat) ^ 8=18446744073709551616:=by decide
 rw[← yFv,← yNq]
 have e1:yLj .u64 (b:Int) ((8*j:Nat):Int)=((b*256 ^ j:Nat):Int):=by
  show wr .u64 (Int.ofNat (b*2 ^ (Nat.min (8*j) 64)))=_
  rw[show Nat.min (8*j) 64=8*j from yZx (by omega),← hp,z2h]
  exact zAm (by show(0:Int)≤((b*256 ^ j:Nat):Int)∧((b*256 ^ j:Nat):Int)<_;omega)
 rw[e1]
 show wr .u64 (Int.ofNat (Nat.lor (x % 18446744073709551616) ((b*256 ^ j) % 18446744073709551616)))=_
 rw[Nat.mod_eq_of_lt (by omega),Nat.mod_eq_of_lt (by omega)]
 have e2:Nat.lor x (b*256 ^ j)=x+b*256 ^ j:=by
  show x|||(b*256 ^ j)=_
  rw[hp]at hx ⊢
  rw[Nat.or_comm,← Nat.shiftLeft_eq,← Nat.shiftLeft_add_eq_or_of_lt hx,y0y]
 rw[e2,z2h]
 exact zAm (by show(0:Int)≤((x+b*256 ^ j:Nat):Int)∧((x+b*256 ^ j:Nat):Int)<_;omega)
theorem zQh (i:RN):i.got.length≤i.n:=by
 unfold RN.got;split
 ·simp
 ·rw[yWe];omega
theorem yRa (i:RN) (h:getC.cnd i):yRj i:=by
 unfold yRj
 obtain⟨h1,h2⟩:=h
 refine⟨i,rfl,rfl,⟨by omega,h2⟩,fun _ _=>⟨0,rfl,rfl,fun j=>j≤i.got.length,fun j=>i.got.length-j,by dsimp only;omega,fun j hj=>zJ (fun hlt=> ?_) (fun hlt=> ?_)⟩⟩
 ·dsimp only at hj
  have hl:=zQh i
  rw[vM]at hlt ⊢
  obtain⟨b,hb⟩:∃b,i.got[j]? =some b:=⟨_,yWp (by omega)⟩
  have e8:IntKind.i64.wrap (8*(j:Int))=8*j:=w64 (by omega)
  refine⟨⟨by omega,by omega⟩,b.toNat,zNg hb,by rw[e8];omega,j+1,?_,?_,by dsimp only;omega,by dsimp only;omega,rfl⟩
  ·rw[e8,yQg,yWs,hb]
   simp only[yYw]
   rw[zMu]
   obtain⟨r1,r2⟩:=m8 (i.got.take j)
   rw[yWe,yZx (by omega)]at r2 ⊢
   obtain⟨x,hx⟩:∃x:Nat,kQ (i.got.take j)=x:=⟨(kQ (i.got.take j)).toNat,by omega⟩
   rw[hx]at r2 ⊢
   have:=z7b (x:=x) (b:=b.toNat) (j:=j) (by exact_mod_cast r2) b.toNat_lt (by omega)
   rw[show(8*(j:Int))=((8*j:Nat):Int)by simp,this]
   simp
  ·rw[w64 (by omega)];rfl
 ·dsimp only at hj
  rw[vM]at hlt
  exact⟨(),by rw[yVx (by omega)],rfl,trivial⟩
theorem z9y:getC.ok Tryz.prog 128:=okw mixed (gokc yEy gok0) 0 (fun _=>[]) (fun i=>yVc i) [] Tryz.func128 yRa
theorem zUm:rbyteC.ok Tryz.prog 84:=okw (V:=yKo) mixed (gokc z9y gok0) 0 (fun _=>[]) (fun _=>[]) [] Tryz.func84 fun(i:RB) h=>by
 have hl:=zQh (i.n 1)
 have hr:=m8 (i.n 1).got
 have h0:(256:Int) ^ (i.n 1).got.length≤256 ^ 1:=by
  have:(256:Nat) ^ (i.n 1).got.length≤256 ^ 1:=Nat.pow_le_pow_right (by omega) hl
  exact_mod_cast this
 exact⟨i.n 1,rfl,rfl,⟨by show 1≤8;omega,h⟩,fun _ _=>⟨(),(w64 (by omega)).symm,rfl,trivial⟩⟩
theorem zUj:rlongC.ok Tryz.prog 83:=okw (V:=yLr) mixed (gokc z9y gok0) 0 (fun _=>[]) (fun _=>[]) [] Tryz.func83 fun(i:RB) h=>by
 exact⟨i.n 8,rfl,rfl,⟨by show 8≤8;omega,h⟩,fun _ _=>⟨(),rfl,rfl,trivial⟩⟩
theorem yHy:rendC.ok Tryz.prog 85:=okw (V:=ySq) mixed gok0 0 (fun _=>[]) (fun _=>[]) [0] Tryz.func85 fun(i:RB) h=>by
 refine Cv.cnd.mk (fun e=>⟨(),by rw[yVl e],rfl,rfl,trivial⟩) (fun e=>zJ (fun hlt=>⟨(),?_,rfl,rfl,trivial⟩) (fun hlt=>⟨(),?_,rfl,rfl,trivial⟩))
 ·rw[vM]at hlt;rw[yVj (by simp[e]),yVl (by omega)]
 ·rw[vM]at hlt;rw[yVj (by simp[e]),yVj (by omega)]
open Go Cv Go.Proofs
open Classical
structure Sd where
 levels:List Lv
 imp:Lv
 has:Bool
@[reducible] def Vw:=List (Sd×Sd)
def zF (b:Sd×Sd):List D:=[.ro 3 (b.1.levels.map lvE),.v (.int .i64 b.1.imp.price),.v (.int .i64 b.1.imp.qty),.v (.int .i64 b.1.imp.count),.v (.bool b.1.has),
 .ro 3 (b.2.levels.map lvE),.v (.int .i64 b.2.imp.price),.v (.int .i64 b.2.imp.qty),.v (.int .i64 b.2.imp.count),.v (.bool b.2.has)]
def sdV (s:Sd):V:= .agg [roV 3 (s.levels.map lvE),zA s.imp.price,zA s.imp.qty,zA s.imp.count,yF s.has]
def vwV (v:Vw):V:= .agg [roV 10 (v.map zF)]
def aC (side x y:Int):Bool:=if side=1 then decide (y<x)else decide (x<y)
structure I3 where
 side:Int
 x:Int
 y:Int
def betterC:Con:=con1 I3 (fun i=>[zA i.side,zA i.x,zA i.y]) (fun _=>[]) (fun _=>True) (fun i=>yF (aC i.side i.x i.y)) (fun _=>[])
def LvAt (side:Int) (l:List Lv) (i:Nat):Prop:=∀a,l[i]?=some a→1≤a.qty∧1≤a.count∧∀j b,i=j+1→l[j]?=some b→aC side b.price a.price=true
def SdRight (side:Int) (s:Sd):Prop:=(∀i,LvAt side s.levels i)∧s.levels.length≤255∧(s.has=true→1≤s.imp.qty∧1≤s.imp.count)∧(s.has=false→s.imp=⟨0,0,0⟩)
def kC (v:Vw):Prop:=(∀b∈v,SdRight 1 b.1∧SdRight 2 b.2)∧v.length≤255
noncomputable def jG (side:Int) (s:Sd):Bool:=decide (SdRight side s)
noncomputable def uU (v:Vw):Bool:=decide (kC v)
structure SdI where
 side:Int
 s:Sd
noncomputable def srightC:Con:=con1 SdI (fun i=>[zA i.side,sdV i.s]) (fun _=>[]) (fun i=>i.s.levels.length≤1099511627776) (fun i=>yF (jG i.side i.s)) (fun _=>[])
def yHo:List SAnn:=[{ι:=Nat,slots:=fun j=>[(10,zA j)],rows:=fun _=>[]}]
@[reducible] def gX (v:Vw):Prop:=v.length≤1099511627776∧∀b∈v,b.1.levels.length≤1099511627776∧b.2.levels.length≤1099511627776
noncomputable def rightVC:Con:=con1 Vw (fun v=>[vwV v]) (fun _=>[]) gX (fun v=>yF (uU v)) (fun _=>[])
def yGr:List SAnn:=[{ι:=Nat,slots:=fun j=>[(8,zA j)],rows:=fun _=>[]}]
def xS (l:Lv):List UInt8:=le l.price 8++le l.qty 8++le l.count 8
structure zXt where
 l:List UInt8
 v:Lv
def putLC:Con:=con1 zXt (fun i=>[.nm 0 0,lvV i.v]) (fun i=>[Wr i.l]) (fun i=>i.l.length+24≤1099511627776) (fun _=>zCk) (fun i=>[Wr (i.l++xS i.v)])
def aV (s:Sd):List UInt8:=[lob s.levels.length]++s.levels.flatMap xS++(if s.has then[lob 1]++xS s.imp else[lob 0])
def qL (b:Sd×Sd):List UInt8:=aV b.1++aV b.2
def qK (v:Vw) (seq:Int):List UInt8:=le seq 8++[lob v.length]++v.flatMap qL
noncomputable def zS (v:Vw) (seq:Int):List UInt8:=if kC v then qK v seq++le (aR (qK v seq)) 4 else[]
noncomputable def g7 (v:Vw):Int:=if kC v then 0 else 12
structure wG where
 v:Vw
 seq:Int
noncomputable def encC:Con:=con1 wG (fun i=>[vwV i.v,zA i.seq]) (fun _=>[]) (fun i=>gX i.v) (fun i=> .tup [roV 1 (bE (zS i.v i.seq)),zA (g7 i.v)]) (fun _=>[])
def yUz (i:wG):List SAnn:=[
 {ι:=Nat,slots:=fun j=>[(6,.nm 0 0),(28,zA j)],rows:=fun j=>[Wr (le i.seq 8++[lob i.v.length]++(i.v.take j).flatMap qL)]},
 {ι:=Unit,slots:=fun _=>[],rows:=fun _=>[],un:=3},
 {ι:=List UInt8×List Lv×Nat,slots:=fun x=>[(6,.nm 0 0),(44,zA x.2.2)],rows:=fun x=>[Wr (x.1++(x.2.1.take x.2.2).flatMap xS)]}]
open Go Cv Go.Proofs
def yFq (i:I3):Prop:=
 cnd (i.side==1) (∃(o:Unit),aC i.side i.x i.y=decide (i.x>i.y)∧True) (∃(o:Unit),aC i.side i.x i.y=decide (i.x<i.y)∧True)
def rS (a:Nat) (b:Nat→Prop) (c:Nat→Nat) (d:SdI):Prop:=∃(e:Nat),(↑e:Int)=IntKind.i64.wrap ((↑a:Int)+1)∧b e∧c e<c a∧Sx.AObj.cells [V.own 0,V.d (dI d.s.imp.price),V.d (dI d.s.imp.qty),V.d (dI d.s.imp.count),V.d (D.v (.bool d.s.has))] 78=Sx.AObj.cells [V.own 0,V.d (dI d.s.imp.price),V.d (dI d.s.imp.qty),V.d (dI d.s.imp.count),V.d (D.v (.bool d.s.has))] 78∧AObj.fro 3 (List.map lvE d.s.levels)=AObj.fro 3 (List.map lvE d.s.levels)
def gD (a:SdI):=(↑(List.map lvE a.s.levels).length:Int)
def z2j (i:SdI):Prop:=
 ∃(a:Nat),(↑a:Int)=0∧∃(b:Nat→Prop),∃(c:Nat→Nat),b a∧∀(d:Nat),b d→cnd (decide ((↑d:Int)<(gD i))) ((0≤(↑d:Int)∧(↑d:Int)<(gD i))∧∃(e:Int),∃(f:Int),∃(g:Int),zE (List.map lvE i.s.levels) (↑d:Int).toNat 0 3=some [dI e,dI f,dI g]∧cnd (decide (f<1)) (∃(h:Unit),jG i.side i.s=false∧True) (cnd (decide (g<1)) (∃(h:Unit),jG i.side i.s=false∧True) (cnd (decide ((↑d:Int)>0)) ((0≤IntKind.i64.wrap ((↑d:Int)-1)∧IntKind.i64.wrap ((↑d:Int)-1)<(gD i))∧∃(h:Int),zE (List.map lvE i.s.levels) (IntKind.i64.wrap ((↑d:Int)-1)).toNat ((0:Nat)+(0:Nat)) 1=some [dI h]∧∃(j:I3),j.side=i.side∧j.x=h∧j.y=e∧True∧∀(k:Unit),True→cnd (!aC j.side j.x j.y) (∃(l:Unit),jG i.side i.s=false∧True) (rS d b c i)) (rS d b c i)))) (cnd (!i.s.has) (cnd (decide ((gD i)≤255)) (∃(e:Unit),jG i.side i.s=(i.s.imp.price==0 && (i.s.imp.qty==0 && (i.s.imp.count==0 && true)))∧True) (∃(e:Unit),jG i.side i.s=false∧True)) (cnd (decide ((gD i)≤255)) (cnd (decide (i.s.imp.qty≥1)) (∃(e:Unit),jG i.side i.s=decide (i.s.imp.count≥1)∧True) (∃(e:Unit),jG i.side i.s=false∧True)) (∃(e:Unit),jG i.side i.s=false∧True)))
def z2e (i:Vw):Prop:=
 ∃(a:Nat),(↑a:Int)=0∧∃(b:Nat→Prop),∃(c:Nat→Nat),b a∧∀(d:Nat),b d→cnd (decide ((↑d:Int)<(↑(List.map zF i).length:Int))) ((0≤(↑d:Int)∧(↑d:Int)<(↑(List.map zF i).length:Int))∧∃(e:List (List D)),∃(f:Int),∃(g:Int),∃(h:Int),∃(j:Bool),∃(k:List (List D)),∃(l:Int),∃(m:Int),∃(n:Int),∃(p:Bool),zE (List.map zF i) (↑d:Int).toNat 0 10=some [D.ro 3 e,dI f,dI g,dI h,D.v (.bool j),D.ro 3 k,dI l,dI m,dI n,D.v (.bool p)]∧∃(q:SdI),q.side=1∧List.map lvE q.s.levels=e∧q.s.imp.price=f∧q.s.imp.qty=g∧q.s.imp.count=h∧q.s.has=j∧q.s.levels.length≤1099511627776∧∀(r:Unit),True→cnd (!jG q.side q.s) (∃(s:Unit),uU i=false∧True) (∃(s:SdI),s.side=2∧List.map lvE s.s.levels=k∧s.s.imp.price=l∧s.s.imp.qty=m∧s.s.imp.count=n∧s.s.has=p∧s.s.levels.length≤1099511627776∧∀(t:Unit),True→cnd (!jG s.side s.s) (∃(u:Unit),uU i=false∧True) (∃(u:Nat),(↑u:Int)=IntKind.i64.wrap ((↑d:Int)+1)∧b u∧c u<c d∧Sx.AObj.cells [V.own 0] 71=Sx.AObj.cells [V.own 0] 71∧AObj.fro 10 (List.map zF i)=AObj.fro 10 (List.map zF i)))) (∃(e:Unit),uU i=decide ((↑(List.map zF i).length:Int)≤255)∧True)
def yPx (i:zXt):Prop:=
 ∃(i_1:WN),i_1.n=i.v.price∧AObj.adt (List UInt8) 2 WrU i_1.l=Wr i.l∧i_1.ok∧∀(o:Unit),True→∃(i_2:WN),i_2.n=i.v.qty∧AObj.adt (List UInt8) 2 WrU i_2.l=AObj.adt (List UInt8) 2 WrU (i_1.l++le i_1.n 8)∧i_2.ok∧∀(o:Unit),True→∃(i_3:WN),i_3.n=i.v.count∧AObj.adt (List UInt8) 2 WrU i_3.l=AObj.adt (List UInt8) 2 WrU (i_2.l++le i_2.n 8)∧i_3.ok∧∀(o:Unit),True→∃(o:Unit),AObj.adt (List UInt8) 2 WrU (i.l++xS i.v)=AObj.adt (List UInt8) 2 WrU (i_3.l++le i_3.n 8)∧True
def zHw (a:wG):Prop:=Sx.AObj.cells [V.own 0] 71=Sx.AObj.cells [V.own 0] 71∧AObj.fro 10 (List.map zF a.v)=AObj.fro 10 (List.map zF a.v)
def zIu (a:Nat→Prop) (b:Nat) (c:Nat→Nat) (d:Nat) (e:wG):Prop:=a b∧c b<c d∧zHw e
def sJ:=((0:Nat)+(1:Nat)+1+((0:Nat)-(0:Nat))+((1:Nat)-(0:Nat))+((1:Nat)-(1:Nat))+((1:Nat)-(1:Nat))+(1:Nat)+(1:Nat)+1)
def a8 (a:wG) (b:Nat):=(le a.seq 8++[lob (↑(List.length a.v):Int)]++List.flatMap qL (List.take b a.v))
def sN:=((0:Nat)+(1:Nat)+1+((0:Nat)-(0:Nat))+((1:Nat)-(0:Nat))+((1:Nat)-(1:Nat))+((1:Nat)-(1:Nat))+(1:Nat)+(1:Nat))
def zQx (a:Int) (b:Int) (c:Int) (d:Bool) (e:List (List D)) (f:List (List D)) (g:Int) (h:Int) (j:Int) (k:Bool) (l:wG):Prop:=Sx.AObj.cells [V.own sN,V.d (dI a),V.d (dI b),V.d (dI c),V.d (D.v (.bool d))] 78=Sx.AObj.cells [V.own sN,V.d (dI a),V.d (dI b),V.d (dI c),V.d (D.v (.bool d))] 78∧AObj.fro 3 e=AObj.fro 3 e∧AObj.fro 3 f=AObj.fro 3 f∧Sx.AObj.cells [V.own sN,V.d (dI a),V.d (dI b),V.d (dI c),V.d (D.v (.bool d)),V.own sJ,V.d (dI g),V.d (dI h),V.d (dI j),V.d (D.v (.bool k))] 79=Sx.AObj.cells [V.own sN,V.d (dI a),V.d (dI b),V.d (dI c),V.d (D.v (.bool d)),V.own sJ,V.d (dI g),V.d (dI h),V.d (dI j),V.d (D.v (.bool k))] 79∧zHw l
def vO (a:List UInt8×List Lv×Nat):=(a.fst++List.flatMap xS (List.take a.snd.snd a.snd.fst))
def zZb (a:WN) (b:List (List D)) (c:Int) (d:Int) (e:Int) (f:Bool) (g:Int) (h:Int) (j:Int) (k:Bool) (l:List (List D)) (m:wG) (n:Nat) (p:Nat→Prop) (q:Nat→Nat):Prop:=a.ok∧∀(r:Unit),True→∃(s:List UInt8×List Lv×Nat),(↑s.snd.snd:Int)=0∧AObj.adt (List UInt8) 2 WrU (vO s)=AObj.adt (List UInt8) 2 WrU (a.l++[lob a.n])∧∃(t:List UInt8×List Lv×Nat→Prop),∃(u:List UInt8×List Lv×Nat→Nat),t s∧∀(v:List UInt8×List Lv×Nat),t v→cnd (decide ((↑v.snd.snd:Int)<(↑b.length:Int))) ((0≤(↑v.snd.snd:Int)∧(↑v.snd.snd:Int)<(↑b.length:Int))∧∃(w:Int),∃(x:Int),∃(y:Int),zE b (↑v.snd.snd:Int).toNat 0 3=some [dI w,dI x,dI y]∧∃(z:zXt),z.v.price=w∧z.v.qty=x∧z.v.count=y∧AObj.adt (List UInt8) 2 WrU z.l=AObj.adt (List UInt8) 2 WrU (vO v)∧z.l.length+(24:Nat)≤(1099511627776:Nat)∧∀(a_1:Unit),True→∃(a_2:List UInt8×List Lv×Nat),(↑a_2.snd.snd:Int)=IntKind.i64.wrap ((↑v.snd.snd:Int)+1)∧AObj.adt (List UInt8) 2 WrU (vO a_2)=AObj.adt (List UInt8) 2 WrU (z.l++xS z.v)∧t a_2∧u a_2<u v∧Sx.AObj.cells [V.own sJ,V.d (dI c),V.d (dI d),V.d (dI e),V.d (D.v (.bool f))] 78=Sx.AObj.cells [V.own sJ,V.d (dI c),V.d (dI d),V.d (dI e),V.d (D.v (.bool f))] 78∧zQx g h j k b l c d e f m) (cnd (!f) (∃(w:WN),w.n=0∧AObj.adt (List UInt8) 2 WrU w.l=AObj.adt (List UInt8) 2 WrU (vO v)∧w.ok∧∀(x:Unit),True→∃(y:Nat),(↑y:Int)=IntKind.i64.wrap ((↑n:Int)+1)∧AObj.adt (List UInt8) 2 WrU (a8 m y)=AObj.adt (List UInt8) 2 WrU (w.l++[lob w.n])∧zIu p y q n m) (∃(w:WN),w.n=1∧AObj.adt (List UInt8) 2 WrU w.l=AObj.adt (List UInt8) 2 WrU (vO v)∧w.ok∧∀(x:Unit),True→∃(y:zXt),y.v.price=c∧y.v.qty=d∧y.v.count=e∧AObj.adt (List UInt8) 2 WrU y.l=AObj.adt (List UInt8) 2 WrU (w.l++[lob w.n])∧y.l.length+(24:Nat)≤(1099511627776:Nat)∧∀(z:Unit),True→∃(a_1:Nat),(↑a_1:Int)=IntKind.i64.wrap ((↑n:Int)+1)∧AObj.adt (List UInt8) 2 WrU (a8 m a_1)=AObj.adt (List UInt8) 2 WrU (y.l++xS y.v)∧zIu p a_1 q n m))
def vD (a:Sd×Sd):Prop:=a.fst.levels.length≤1099511627776∧a.snd.levels.length≤1099511627776
def zCq (a:Vw):Prop:=List.length a≤1099511627776∧∀(b:Sd×Sd),b∈a→vD b
def ySl (i:wG):Prop:=
 ∃(a:Vw),List.map zF a=List.map zF i.v∧(zCq a)∧∀(b:Unit),True→cnd (!uU a) (∃(c:Unit),bE (zS i.v i.seq)=[]∧g7 i.v=12∧True) (∃(c:Unit),True∧∀(d:Unit),True→∃(e:WN),e.n=i.seq∧AObj.adt (List UInt8) 2 WrU e.l=AObj.adt (List UInt8) 2 WrU []∧e.ok∧∀(f:Unit),True→∃(g:WN),g.n=(↑(List.map zF i.v).length:Int)∧AObj.adt (List UInt8) 2 WrU g.l=AObj.adt (List UInt8) 2 WrU (e.l++le e.n 8)∧g.ok∧∀(h:Unit),True→∃(j:Nat),(↑j:Int)=0∧AObj.adt (List UInt8) 2 WrU (a8 i j)=AObj.adt (List UInt8) 2 WrU (g.l++[lob g.n])∧∃(k:Nat→Prop),∃(l:Nat→Nat),k j∧∀(m:Nat),k m→cnd (decide ((↑m:Int)<(↑(List.map zF i.v).length:Int))) ((0≤(↑m:Int)∧(↑m:Int)<(↑(List.map zF i.v).length:Int))∧∃(n:List (List D)),∃(p:Int),∃(q:Int),∃(r:Int),∃(s:Bool),∃(t:List (List D)),∃(u:Int),∃(v:Int),∃(w:Int),∃(x:Bool),zE (List.map zF i.v) (↑m:Int).toNat 0 10=some [D.ro 3 n,dI p,dI q,dI r,D.v (.bool s),D.ro 3 t,dI u,dI v,dI w,D.v (.bool x)]∧∃(y:WN),y.n=(↑n.length:Int)∧AObj.adt (List UInt8) 2 WrU y.l=AObj.adt (List UInt8) 2 WrU (a8 i m)∧y.ok∧∀(z:Unit),True→∃(a_1:List UInt8×List Lv×Nat),(↑a_1.snd.snd:Int)=0∧AObj.adt (List UInt8) 2 WrU (vO a_1)=AObj.adt (List UInt8) 2 WrU (y.l++[lob y.n])∧∃(a_2:List UInt8×List Lv×Nat→Prop),∃(a_3:List UInt8×List Lv×Nat→Nat),a_2 a_1∧∀(a_4:List UInt8×List Lv×Nat),a_2 a_4→cnd (decide ((↑a_4.snd.snd:Int)<(↑n.length:Int))) ((0≤(↑a_4.snd.snd:Int)∧(↑a_4.snd.snd:Int)<(↑n.length:Int))∧∃(a_5:Int),∃(a_6:Int),∃(a_7:Int),zE n (↑a_4.snd.snd:Int).toNat 0 3=some [dI a_5,dI a_6,dI a_7]∧∃(a_8:zXt),a_8.v.price=a_5∧a_8.v.qty=a_6∧a_8.v.count=a_7∧AObj.adt (List UInt8) 2 WrU a_8.l=AObj.adt (List UInt8) 2 WrU (vO a_4)∧a_8.l.length+(24:Nat)≤(1099511627776:Nat)∧∀(a_9:Unit),True→∃(a_10:List UInt8×List Lv×Nat),(↑a_10.snd.snd:Int)=IntKind.i64.wrap ((↑a_4.snd.snd:Int)+1)∧AObj.adt (List UInt8) 2 WrU (vO a_10)=AObj.adt (List UInt8) 2 WrU (a_8.l++xS a_8.v)∧a_2 a_10∧a_3 a_10<a_3 a_4∧zQx p q r s t n u v w x i) (cnd (!s) (∃(a_5:WN),a_5.n=0∧AObj.adt (List UInt8) 2 WrU a_5.l=AObj.adt (List UInt8) 2 WrU (vO a_4)∧a_5.ok∧∀(a_6:Unit),True→∃(a_7:WN),a_7.n=(↑t.length:Int)∧AObj.adt (List UInt8) 2 WrU a_7.l=AObj.adt (List UInt8) 2 WrU (a_5.l++[lob a_5.n])∧zZb a_7 t u v w x p q r s n i m k l) (∃(a_5:WN),a_5.n=1∧AObj.adt (List UInt8) 2 WrU a_5.l=AObj.adt (List UInt8) 2 WrU (vO a_4)∧a_5.ok∧∀(a_6:Unit),True→∃(a_7:zXt),a_7.v.price=p∧a_7.v.qty=q∧a_7.v.count=r∧AObj.adt (List UInt8) 2 WrU a_7.l=AObj.adt (List UInt8) 2 WrU (a_5.l++[lob a_5.n])∧a_7.l.length+(24:Nat)≤(1099511627776:Nat)∧∀(a_8:Unit),True→∃(a_9:WN),a_9.n=(↑t.length:Int)∧AObj.adt (List UInt8) 2 WrU a_9.l=AObj.adt (List UInt8) 2 WrU (a_7.l++xS a_7.v)∧zZb a_9 t u v w x p q r s n i m k l))) (∃(n:List UInt8),AObj.adt (List UInt8) 2 WrU n=AObj.adt (List UInt8) 2 WrU (a8 i m)∧n.length≤1099511627776∧∀(p:Unit),True→∃(q:List UInt8),bE q=bE n∧q.length≤1099511627776∧∀(r:Unit),True→∃(s:WN),s.n=aR q∧AObj.adt (List UInt8) 2 WrU s.l=AObj.adt (List UInt8) 2 WrU n∧(s.l.length+(8:Nat)≤(1099511627776:Nat)∧0≤s.n∧s.n<4294967296)∧∀(t:Unit),True→∃(u:List UInt8),AObj.adt (List UInt8) 2 WrU u=AObj.adt (List UInt8) 2 WrU (s.l++le s.n 4)∧u.length≤1099511627776∧∀(v:Unit),True→∃(w:Unit),bE (zS i.v i.seq)=bE u∧g7 i.v=0∧True))
open Go Cv Go.Proofs
open Classical
theorem z5e {α:Type} {f:α→List D} {l:List α} {i n:Nat} {x:α} (h:l[i]? =some x) (hn:(f x).length=n):zE (l.map f) i 0 n=some (f x):=by
 unfold zE
 rw[yWt,h]
 simp only[yXi,yWi,hn,Nat.ble_eq_true_of_le (yWj n),cond_true,yYs]
 rw[← hn,yVx (yWj _)]
theorem yRh {α:Type} {f:α→List D} {l:List α} {i g n:Nat} {x:α} {r:List D} (h:l[i]? =some x) (hn:g+n≤(f x).length) (hr:((f x).drop g).take n=r):zE (l.map f) i g n=some r:=by
 unfold zE
 rw[yWt,h]
 simp only[yXi,Nat.ble_eq_true_of_le hn,cond_true,hr]
theorem getD {α:Type} {l:List α} {i:Nat} (h:i<l.length):∃x,l[i]? =some x:=⟨_,yWp h⟩
theorem z4z:betterC.ok Tryz.prog 71:=okw (V:=yFq) mixed gok0 0 (fun _=>[]) (fun _=>[]) [] Tryz.func71 fun(i:I3) _=>by
 refine Cv.cnd.mk (fun e=>⟨(),?_,trivial⟩) (fun e=>⟨(),?_,trivial⟩)
 ·have e:i.side=1:=by simpa using e
  simp[aC,e]
 ·have e:i.side≠1:=by simpa using e
  simp[aC,e]
theorem sdF {side:Int} {s:Sd} (h:¬SdRight side s):jG side s=false:=yVw h
theorem LvAt.of {side:Int} {l:List Lv} {i:Nat} {x:Lv} (hx:l[i]? =some x) (h1:1≤x.qty) (h2:1≤x.count) (h3:∀j b,i=j+1→l[j]? =some b→aC side b.price x.price=true):LvAt side l i:=by
 intro a ha
 rw[hx]at ha;cases ha
 exact⟨h1,h2,h3⟩
theorem yHk (i:SdI) (h:srightC.cnd i):z2j i:=by
 unfold z2j gD rS dI
 have h:i.s.levels.length≤1099511627776:=h
 refine⟨0,rfl,fun j=>j≤i.s.levels.length∧∀k,k<j→LvAt i.side i.s.levels k,fun j=>i.s.levels.length-j,⟨by omega,by intro k hk;omega⟩,fun j hj=>zJ (fun hlt=> ?_) (fun hlt=> ?_)⟩
 ·obtain⟨hj1,hj2⟩:=hj
  rw[yVk]at hlt ⊢
  obtain⟨x,hx⟩:=getD (l:=i.s.levels) (i:=j) (by omega)
  have w1:IntKind.i64.wrap ((j:Int)+1)=((j+1:Nat):Int):=by rw[w64 (by omega)];rfl
  have next:LvAt i.side i.s.levels j→(fun j=>j≤i.s.levels.length∧∀k,k<j→LvAt i.side i.s.levels k) (j+1):=fun hl=>⟨by omega,fun k hk=>by
   rcases yXv k j with h'|h'
   ·exact hj2 k h'
   ·obtain rfl:k=j:=by omega
    exact hl⟩
  refine⟨⟨by omega,by omega⟩,x.price,x.qty,x.count,z5e hx rfl,zJ (fun hq=> ?_) (fun hq=>zJ (fun hc=> ?_) (fun hc=>zJ (fun hp=> ?_) (fun hp=> ?_)))⟩
  ·exact⟨(),sdF fun hr=>by have:=(hr.1 j x hx).1;omega,trivial⟩
  ·exact⟨(),sdF fun hr=>by have:=(hr.1 j x hx).2.1;omega,trivial⟩
  ·have w0:IntKind.i64.wrap ((j:Int)-1)=((j-1:Nat):Int):=by rw[w64 (by omega)];omega
   obtain⟨y,hy⟩:=getD (l:=i.s.levels) (i:=j-1) (by omega)
   refine⟨⟨by rw[w0];omega,by rw[w0];omega⟩,y.price,by rw[w0];exact yRh (n:=1) hy (by show 0+0+1≤3;omega) rfl,⟨i.side,y.price,x.price⟩,rfl,rfl,rfl,trivial,fun _ _=> ?_⟩
   refine Cv.cnd.mk (fun hb=>⟨(),sdF fun hr=> ?_,trivial⟩) (fun hb=>⟨j+1,w1.symm,next (LvAt.of hx (by omega) (by omega) ?_),by dsimp only;omega,by(repeat'(first|exact trivial|exact rfl|apply And.intro))⟩)
   ·have:=(hr.1 j x hx).2.2 (j-1) y (by omega) hy
    simp only[yYl]at hb
    rw[hb]at this;cases this
   ·intro k b hk hb'
    obtain rfl:k=j-1:=by omega
    rw[hy]at hb';cases hb'
    simpa using hb
  ·exact⟨j+1,w1.symm,next (LvAt.of hx (by omega) (by omega) fun k b hk _=>by omega),by dsimp only;omega,by(repeat'(first|exact trivial|exact rfl|apply And.intro))⟩
 ·obtain⟨hj1,hj2⟩:=hj
  rw[yVk]at hlt ⊢
  obtain rfl:j=i.s.levels.length:=by omega
  have hall:∀k,LvAt i.side i.s.levels k:=fun k=>by
   rcases yXv k i.s.levels.length with h'|h'
   ·exact hj2 k h'
   ·intro a ha;rw[yWk h']at ha;cases ha
  refine Cv.cnd.mk (fun hh=>zJ (fun hl=>⟨(),?_,trivial⟩) (fun hl=>⟨(),sdF fun hr=>by have:=hr.2.1;omega,trivial⟩))
   (fun hh=>zJ (fun hl=>zJ (fun hq=>⟨(),?_,trivial⟩) (fun hq=>⟨(),sdF fun hr=> ?_,trivial⟩)) (fun hl=>⟨(),sdF fun hr=>by have:=hr.2.1;omega,trivial⟩))
  ·have hh:i.s.has=false:=by simpa using hh
   rw[y0a]
   simp only[jG,yXd,yVy,beq_iff_eq,and_true]
   constructor
   ·intro hr
    have:=hr.2.2.2 hh
    rw[this];exact⟨rfl,rfl,rfl⟩
   ·rintro⟨e1,e2,e3⟩
    refine⟨hall,by omega,(fun hc=>by rw[hh]at hc;cases hc),fun _=> ?_⟩
    cases hi:i.s.imp
    rw[hi]at e1 e2 e3
    simp_all
  ·have hh:i.s.has=true:=by simpa using hh
   rw[y0a]
   simp only[jG,yXd]
   exact⟨fun hr=>(hr.2.2.1 hh).2,fun hc=>⟨hall,by omega,fun _=>⟨hq,hc⟩,fun hc=>by rw[hh]at hc;cases hc⟩⟩
  ·have hh:i.s.has=true:=by simpa using hh
   have:=(hr.2.2.1 hh).1
   omega
theorem z4t:srightC.ok Tryz.prog 90:=okw mixed (gokc z4z gok0) 0 (fun _=>[]) (fun _=>yHo) [] Tryz.func90 yHk
theorem vwF {v:Vw} (h:¬kC v):uU v=false:=yVw h
theorem yGe (v:Vw) (h:rightVC.cnd v):z2e v:=by
 unfold z2e dI
 obtain⟨h1,h2⟩:gX v:=h
 refine⟨0,rfl,fun j=>j≤v.length∧∀k b,k<j→v[k]? =some b→SdRight 1 b.1∧SdRight 2 b.2,fun j=>v.length-j,⟨by omega,by intro k b hk;omega⟩,fun j hj=>zJ (fun hlt=> ?_) (fun hlt=> ?_)⟩
 ·obtain⟨hj1,hj2⟩:=hj
  rw[yVk]at hlt ⊢
  obtain⟨x,hx⟩:=getD (l:=v) (i:=j) (by omega)
  have hm:=yVv hx
  have w1:IntKind.i64.wrap ((j:Int)+1)=((j+1:Nat):Int):=by rw[w64 (by omega)];rfl
  refine⟨⟨by omega,by omega⟩,_,_,_,_,_,_,_,_,_,_,z5e hx rfl,⟨1,x.1⟩,rfl,rfl,rfl,rfl,rfl,rfl,(h2 x hm).1,fun _ _=>Cv.cnd.mk (fun hb=> ?_) (fun hb=>⟨⟨2,x.2⟩,rfl,rfl,rfl,rfl,rfl,rfl,(h2 x hm).2,fun _ _=>Cv.cnd.mk (fun hb2=> ?_) (fun hb2=> ?_)⟩)⟩
  ·refine⟨(),vwF fun hr=> ?_,trivial⟩
   simp only[yYl,jG,decide_eq_false_iff_not]at hb
   exact hb (hr.1 x hm).1
  ·refine⟨(),vwF fun hr=> ?_,trivial⟩
   simp only[yYl,jG,decide_eq_false_iff_not]at hb2
   exact hb2 (hr.1 x hm).2
  ·simp only[Bool.not_eq_false',jG,yXd]at hb hb2
   refine⟨j+1,w1.symm,⟨by omega,fun k b hk hb'=> ?_⟩,by dsimp only;omega,by(repeat'(first|exact trivial|exact rfl|apply And.intro))⟩
   rcases yXv k j with h'|h'
   ·exact hj2 k b h' hb'
   ·obtain rfl:k=j:=by omega
    rw[hx]at hb';cases hb'
    exact⟨hb,hb2⟩
 ·obtain⟨hj1,hj2⟩:=hj
  rw[yVk]at hlt ⊢
  obtain rfl:j=v.length:=by omega
  refine⟨(),?_,trivial⟩
  rw[y0a]
  simp only[uU,yXd]
  constructor
  ·intro hr;have:=hr.2;omega
  ·intro hr
   refine⟨fun b hb=> ?_,by omega⟩
   obtain⟨k,hk⟩:=y0v hb
   exact hj2 k b (yVn.1 hk).1 hk
theorem zOm:rightVC.ok Tryz.prog 38:=okw mixed (gokc z4t gok0) 0 (fun _=>[]) (fun _=>yGr) [] Tryz.func38 yGe
theorem yEk:putLC.ok Tryz.prog 86:=okw (V:=yPx) mixed (gokc z2z gok0) 0 (fun _=>[]) (fun _=>[]) [] Tryz.func86 fun(i:zXt) h=>by
 have h:i.l.length+24≤1099511627776:=h
 refine⟨⟨i.l,i.v.price⟩,rfl,rfl,(show i.l.length+8≤1099511627776 by omega),fun _ _=>⟨⟨i.l++le i.v.price 8,i.v.qty⟩,rfl,rfl,?_,fun _ _=>⟨⟨i.l++le i.v.price 8++le i.v.qty 8,i.v.count⟩,rfl,rfl,?_,fun _ _=>⟨(),?_,trivial⟩⟩⟩⟩
 ·show _+8≤_
  rw[yVm,gW];omega
 ·show _+8≤_
  rw[yVm,yVm,gW,gW];omega
 ·simp only[xS,yVq]
open Go Cv Go.Proofs
open Classical
theorem zHp {α:Type} {f:α→List UInt8} {c:Nat}:∀{l:List α},(∀x∈l,(f x).length≤c)→(l.flatMap f).length≤c*l.length
 |[],_=>by simp
 |a::l,h=>by
  have h1:=h a (by simp)
  have h2:=zHp (l:=l) fun x hx=>h x (by simp[hx])
  simp only[yWu,yVm,yVt,Nat.mul_add,Nat.mul_one]
  omega
theorem tM {α β:Type} {f:α→List β} {l:List α} {k:Nat} {x:α} (h:l[k]? =some x):(l.take (k+1)).flatMap f=(l.take k).flatMap f++f x:=by
 rw[yWs,h];simp
theorem zMm (l:Lv):(xS l).length=24:=by simp[xS,gW]
theorem mZ (l:List Lv):(l.flatMap xS).length≤24*l.length:=zHp fun x _=>by rw[zMm];omega
theorem zDq {s:Sd} (h:s.levels.length≤255):(aV s).length≤6146:=by
 have:=mZ s.levels
 unfold aV
 rw[yVm,yVm,yYr]
 split
 ·rw[yVm,zMm,yYr];omega
 ·rw[yYr];omega
theorem SdRight.len {n:Int} {s:Sd} (h:SdRight n s):s.levels.length≤255:=h.2.1
theorem zUn {v:Vw} (h:kC v) (j:Nat):((v.take j).flatMap qL).length≤3134460:=by
 have h1:∀x∈v.take j,(qL x).length≤12292:=fun x hx=>by
  have:=h.1 x (yZy hx)
  have a:=zDq this.1.len
  have b:=zDq this.2.len
  unfold qL
  rw[yVm];omega
 have h2:=zHp h1
 have h3:=h.2
 rw[yWe]at h2
 omega
theorem z4w (n:Int):0≤IntKind.u32.wrap n∧IntKind.u32.wrap n<4294967296:=by
 have:IntKind.u32.wrap n=n % 4294967296:=rfl
 rw[this];omega
theorem zFs (l:List UInt8):0≤aR l∧aR l<4294967296:=z4w _
theorem yTd (i:wG) (h:encC.cnd i):ySl i:=by
 unfold ySl zZb zIu vO zQx sN sJ zHw a8 zCq vD dI
 refine⟨i.v,rfl,h,fun _ _=>Cv.cnd.mk (fun e=> ?_) (fun e=> ?_)⟩
 ·have hn:¬kC i.v:=by simpa[uU]using e
  exact⟨(),by rw[zS,yVj hn];rfl,by rw[g7,yVj hn],trivial⟩
 have hr:kC i.v:=by simpa[uU]using e
 have hB:∀j,(le i.seq 8++[lob i.v.length]++(i.v.take j).flatMap qL).length≤3134470:=fun j=>by
  have:=zUn hr j
  simp only[yVm,gW,yVt,yXk];omega
 refine⟨(),trivial,fun _ _=>⟨⟨[],i.seq⟩,rfl,rfl,(show 0+8≤1099511627776 by omega),fun _ _=>⟨⟨le i.seq 8,i.v.length⟩,by rw[yVk],rfl,(show(le i.seq 8).length+8≤1099511627776 by rw[gW];omega),fun _ _=>⟨0,rfl,by simp,fun j=>j≤i.v.length,fun j=>i.v.length-j,by dsimp only;omega,fun j hj=>zJ (fun hlt=> ?_) (fun hlt=> ?_)⟩⟩⟩⟩
 ·dsimp only at hj
  rw[yVk]at hlt ⊢
  obtain⟨x,hx⟩:=getD (l:=i.v) (i:=j) (by omega)
  have hm:=hr.1 x (yVv hx)
  have l1:=hm.1.len
  have l2:=hm.2.len
  have hl:=hr.2
  have w1:IntKind.i64.wrap ((j:Int)+1)=((j+1:Nat):Int):=by rw[w64 (by omega)];rfl
  have hBj:=hB j
  have hBs:le i.seq 8++[lob i.v.length]++(i.v.take (j+1)).flatMap qL=le i.seq 8++[lob i.v.length]++(i.v.take j).flatMap qL++qL x:=by
   rw[tM hx];simp only[yVq]
  generalize hb:le i.seq 8++[lob i.v.length]++(i.v.take j).flatMap qL=B at hBj hBs
  have lv:∀(C:List UInt8) (l:List Lv) (k:Nat),C.length≤5000000→l.length≤255→((C++(l.take k).flatMap xS).length+24≤1099511627776):=fun C l k hC hl=>by
   have:=mZ (l.take k)
   rw[yVm]
   rw[yWe]at this
   omega
  have lw:∀(k:Nat),k<255→IntKind.i64.wrap ((k:Int)+1)=((k+1:Nat):Int):=fun k hk=>by rw[w64 (by omega)];rfl
  have le1:=mZ x.1.levels
  have le2:=mZ x.2.levels
  refine⟨⟨by omega,by omega⟩,_,_,_,_,_,_,_,_,_,_,z5e hx rfl,⟨B,x.1.levels.length⟩,by rw[yVk],rfl,by show B.length+8≤_;omega,fun _ _=>⟨(B++[lob x.1.levels.length],x.1.levels,0),rfl,by simp,fun y=>∃k,k≤x.1.levels.length∧y=(B++[lob x.1.levels.length],x.1.levels,k),fun y=>x.1.levels.length-y.2.2,⟨0,by omega,by(repeat'(first|exact trivial|exact rfl|apply And.intro))⟩,?_⟩⟩
  rintro _ ⟨k,hk,rfl⟩
  dsimp only
  refine zJ (fun hlt1=> ?_) (fun hlt1=> ?_)
  ·rw[yVk]at hlt1 ⊢
   obtain⟨y,hy⟩:=getD (l:=x.1.levels) (i:=k) (by omega)
   refine⟨⟨by omega,by omega⟩,_,_,_,z5e hy rfl,⟨_,y⟩,rfl,rfl,rfl,rfl,lv _ _ _ (by rw[yVm];simp;omega) l1,fun _ _=>⟨(_,_,k+1),(lw k (by omega)).symm,?_,⟨k+1,by omega,by(repeat'(first|exact trivial|exact rfl|apply And.intro))⟩,by dsimp only;omega,by(repeat'(first|exact trivial|exact rfl|apply And.intro))⟩⟩
   dsimp only
   rw[tM hy];simp only[yVq]
  ·rw[yVk]at hlt1
   obtain rfl:k=x.1.levels.length:=by omega
   rw[yVx (yWj _)]
   have e1:aV x.1=[lob x.1.levels.length]++x.1.levels.flatMap xS++(if x.1.has then[lob 1]++xS x.1.imp else[lob 0]):=rfl
   have e2:aV x.2=[lob x.2.levels.length]++x.2.levels.flatMap xS++(if x.2.has then[lob 1]++xS x.2.imp else[lob 0]):=rfl
   have bl:∀C:List UInt8,C=B++aV x.1→C.length≤4000000:=fun C e=>by
    subst e
    have:=zDq l1
    rw[yVm];omega
   refine Cv.cnd.mk (fun hh=> ?_) (fun hh=> ?_)
   ·have hh:x.1.has=false:=by simpa using hh
    rw[hh,yVj (by simp)]at e1
    refine⟨⟨B++[lob x.1.levels.length]++x.1.levels.flatMap xS,0⟩,rfl,rfl,(by dsimp only[WN.ok];simp only[yVm,yVt,yXk];omega),fun _ _=> ?_⟩
    have eC:B++[lob x.1.levels.length]++x.1.levels.flatMap xS++[lob 0]=B++aV x.1:=by rw[e1];simp only[yVq]
    generalize B++[lob x.1.levels.length]++x.1.levels.flatMap xS++[lob 0]=C at eC
    (
    have hC:=bl C eC
    refine⟨⟨C,x.2.levels.length⟩,by rw[yVk],rfl,(show C.length+8≤1099511627776 by omega),fun _ _=>⟨(C++[lob x.2.levels.length],x.2.levels,0),rfl,by simp,fun y=>∃k,k≤x.2.levels.length∧y=(C++[lob x.2.levels.length],x.2.levels,k),fun y=>x.2.levels.length-y.2.2,⟨0,by omega,by(repeat'(first|exact trivial|exact rfl|apply And.intro))⟩,?_⟩⟩
    rintro _ ⟨k,hk,rfl⟩
    dsimp only
    refine zJ (fun hlt2=> ?_) (fun hlt2=> ?_)
    ·rw[yVk]at hlt2 ⊢
     obtain⟨y,hy⟩:=getD (l:=x.2.levels) (i:=k) (by omega)
     refine⟨⟨by omega,by omega⟩,_,_,_,z5e hy rfl,⟨_,y⟩,rfl,rfl,rfl,rfl,lv _ _ _ (by rw[yVm];simp;omega) l2,fun _ _=>⟨(_,_,k+1),(lw k (by omega)).symm,?_,⟨k+1,by omega,by(repeat'(first|exact trivial|exact rfl|apply And.intro))⟩,by dsimp only;omega,by(repeat'(first|exact trivial|exact rfl|apply And.intro))⟩⟩
     dsimp only
     rw[tM hy];simp only[yVq]
    ·rw[yVk]at hlt2
     obtain rfl:k=x.2.levels.length:=by omega
     rw[yVx (yWj _)]
     refine Cv.cnd.mk (fun hh2=> ?_) (fun hh2=> ?_)
     ·have hh2:x.2.has=false:=by simpa using hh2
      rw[hh2,yVj (by simp)]at e2
      refine⟨⟨C++[lob x.2.levels.length]++x.2.levels.flatMap xS,0⟩,rfl,rfl,(by dsimp only[WN.ok];simp only[yVm,yVt,yXk];omega),fun _ _=>⟨j+1,w1.symm,?_,(by omega),(by omega),by(repeat'(first|exact trivial|exact rfl|apply And.intro))⟩⟩
      rw[hBs,qL,← yVq,← eC,e2]
      simp only[yVq]
     ·have hh2:x.2.has=true:=by simpa using hh2
      rw[hh2,yVl rfl]at e2
      refine⟨⟨C++[lob x.2.levels.length]++x.2.levels.flatMap xS,1⟩,rfl,rfl,(by dsimp only[WN.ok];simp only[yVm,yVt,yXk];omega),fun _ _=>⟨⟨_,x.2.imp⟩,rfl,rfl,rfl,rfl,(by simp only[yVm,yVt,yXk];omega),fun _ _=>⟨j+1,w1.symm,?_,(by omega),(by omega),by(repeat'(first|exact trivial|exact rfl|apply And.intro))⟩⟩⟩
      rw[hBs,qL,← yVq,← eC,e2]
      simp only[yVq])
   ·have hh:x.1.has=true:=by simpa using hh
    rw[hh,yVl rfl]at e1
    refine⟨⟨B++[lob x.1.levels.length]++x.1.levels.flatMap xS,1⟩,rfl,rfl,(by dsimp only[WN.ok];simp only[yVm,yVt,yXk];omega),fun _ _=>⟨⟨_,x.1.imp⟩,rfl,rfl,rfl,rfl,(by simp only[yVm,yVt,yXk];omega),fun _ _=> ?_⟩⟩
    have eC:B++[lob x.1.levels.length]++x.1.levels.flatMap xS++[lob 1]++xS x.1.imp=B++aV x.1:=by rw[e1];simp only[yVq]
    generalize B++[lob x.1.levels.length]++x.1.levels.flatMap xS++[lob 1]++xS x.1.imp=C at eC
    (
    have hC:=bl C eC
    refine⟨⟨C,x.2.levels.length⟩,by rw[yVk],rfl,(show C.length+8≤1099511627776 by omega),fun _ _=>⟨(C++[lob x.2.levels.length],x.2.levels,0),rfl,by simp,fun y=>∃k,k≤x.2.levels.length∧y=(C++[lob x.2.levels.length],x.2.levels,k),fun y=>x.2.levels.length-y.2.2,⟨0,by omega,by(repeat'(first|exact trivial|exact rfl|apply And.intro))⟩,?_⟩⟩
    rintro _ ⟨k,hk,rfl⟩
    dsimp only
    refine zJ (fun hlt2=> ?_) (fun hlt2=> ?_)
    ·rw[yVk]at hlt2 ⊢
     obtain⟨y,hy⟩:=getD (l:=x.2.levels) (i:=k) (by omega)
     refine⟨⟨by omega,by omega⟩,_,_,_,z5e hy rfl,⟨_,y⟩,rfl,rfl,rfl,rfl,lv _ _ _ (by rw[yVm];simp;omega) l2,fun _ _=>⟨(_,_,k+1),(lw k (by omega)).symm,?_,⟨k+1,by omega,by(repeat'(first|exact trivial|exact rfl|apply And.intro))⟩,by dsimp only;omega,by(repeat'(first|exact trivial|exact rfl|apply And.intro))⟩⟩
     dsimp only
     rw[tM hy];simp only[yVq]
    ·rw[yVk]at hlt2
     obtain rfl:k=x.2.levels.length:=by omega
     rw[yVx (yWj _)]
     refine Cv.cnd.mk (fun hh2=> ?_) (fun hh2=> ?_)
     ·have hh2:x.2.has=false:=by simpa using hh2
      rw[hh2,yVj (by simp)]at e2
      refine⟨⟨C++[lob x.2.levels.length]++x.2.levels.flatMap xS,0⟩,rfl,rfl,(by dsimp only[WN.ok];simp only[yVm,yVt,yXk];omega),fun _ _=>⟨j+1,w1.symm,?_,(by omega),(by omega),by(repeat'(first|exact trivial|exact rfl|apply And.intro))⟩⟩
      rw[hBs,qL,← yVq,← eC,e2]
      simp only[yVq]
     ·have hh2:x.2.has=true:=by simpa using hh2
      rw[hh2,yVl rfl]at e2
      refine⟨⟨C++[lob x.2.levels.length]++x.2.levels.flatMap xS,1⟩,rfl,rfl,(by dsimp only[WN.ok];simp only[yVm,yVt,yXk];omega),fun _ _=>⟨⟨_,x.2.imp⟩,rfl,rfl,rfl,rfl,(by simp only[yVm,yVt,yXk];omega),fun _ _=>⟨j+1,w1.symm,?_,(by omega),(by omega),by(repeat'(first|exact trivial|exact rfl|apply And.intro))⟩⟩⟩
      rw[hBs,qL,← yVq,← eC,e2]
      simp only[yVq])
 ·dsimp only at hj
  rw[yVk]at hlt
  obtain rfl:j=i.v.length:=by omega
  have hBj:=hB i.v.length
  rw[yVx (yWj _)]at hBj ⊢
  have hc:=zFs (qK i.v i.seq)
  have hl:(qK i.v i.seq).length≤3134470:=hBj
  have hl2:(qK i.v i.seq++le (aR (qK i.v i.seq)) 4).length≤1099511627776:=by rw[yVm,gW];omega
  exact⟨qK i.v i.seq,rfl,(by omega),fun _ _=>⟨qK i.v i.seq,rfl,(by omega),fun _ _=>⟨⟨qK i.v i.seq,_⟩,rfl,rfl,⟨(by dsimp only;omega),hc.1,hc.2⟩,fun _ _=>⟨_,rfl,hl2,fun _ _=>⟨(),by rw[zS,yVl hr];rfl,by rw[g7,yVl hr],trivial⟩⟩⟩⟩⟩
theorem enc_ok:encC.ok Tryz.prog 36:=okw mixed (gokc zOm (gokc z2k (gokc z2z (gokc yIf (gokc yEk (gokc z1u (gokc z7x (gokc yBz gok0)))))))) 0 (fun _=>[]) (fun i=>yUz i) [] Tryz.func36 yTd
open Go Cv Go.Proofs
open Classical
def RB.byte (r:RB):Int×RB:=(kQ (r.n 1).got,⟨(r.n 1).left,(r.n 1).bad⟩)
def RB.long (r:RB):Int×RB:=(IntKind.i64.wrap (kQ (r.n 8).got),⟨(r.n 8).left,(r.n 8).bad⟩)
def RB.lv (r:RB):Lv×RB:=(⟨r.long.1,r.long.2.long.1,r.long.2.long.2.long.1⟩,r.long.2.long.2.long.2)
def RB.lvs (r:RB):Nat→List Lv×RB
 |0=>([],r)
 |k+1=>((r.lvs k).1++[(r.lvs k).2.lv.1],(r.lvs k).2.lv.2)
def RB.part (r:RB):List Lv×RB:=r.byte.2.lvs r.byte.1.toNat
def RB.side (r:RB):(Sd×Bool)×RB:=
 if r.part.2.byte.1=1 then((⟨r.part.1,r.part.2.byte.2.lv.1,true⟩,true),r.part.2.byte.2.lv.2)
 else((⟨r.part.1,⟨0,0,0⟩,false⟩,decide (r.part.2.byte.1≤1)),r.part.2.byte.2)
def RB.views (r:RB):Nat→(Vw×Bool)×RB
 |0=>(([],true),r)
 |k+1=>(((r.views k).1.1++[((r.views k).2.side.1.1,(r.views k).2.side.2.side.1.1)],(r.views k).1.2 && (r.views k).2.side.1.2 && (r.views k).2.side.2.side.1.2),(r.views k).2.side.2.side.2)
def RB.head (r:RB):Int×RB:=r.long.2.byte
def RB.all (r:RB):(Vw×Bool)×RB:=r.head.2.views r.head.1.toNat
def RB.endOf (r:RB):Int:=if r.b then 10 else if 0<r.l.length then 15 else 0
@[reducible] def RdB (r:RB):AObj:=Rd r.l r.b
@[reducible] def RB.ok (i:RB):Prop:=i.l.length≤1099511627776
def lgetC:Con:=con1 RB (fun i=>[.nm 0 0]) (fun i=>[RdB i]) RB.ok (fun i=>lvV i.lv.1) (fun i=>[RdB i.lv.2])
def sideC:Con:=con1 RB (fun i=>[.nm 0 0]) (fun i=>[RdB i]) RB.ok (fun i=> .tup [sdV i.side.1.1,yF i.side.1.2]) (fun i=>[RdB i.side.2])
def yQp (i:RB):List SAnn:=[{ι:=Nat,slots:=fun j=>[(0,.nm 0 0),(4,.nm 1 0),(8,zA j)],rows:=fun j=>[RdB (i.byte.2.lvs j).2,.cells [.own 2,zA 0,zA 0,zA 0,yF false] 78,.own 76 3 ((i.byte.2.lvs j).1.map lvE)]}]
def cB (b:List UInt8):Prop:=4≤b.length∧le (aR (b.take (b.length-4))) 4=b.drop (b.length-4)
def yB (b:List UInt8):RB:=⟨b.take (b.length-4),false⟩
def dM (b:List UInt8):Prop:=(yB b).all.1.2=true∧(yB b).all.2.endOf=0∧kC (yB b).all.1.1
noncomputable def rW (b:List UInt8):Vw:=if cB b∧dM b then(yB b).all.1.1 else[]
noncomputable def fB (b:List UInt8):Int:=if cB b∧dM b then(yB b).long.1 else 0
noncomputable def fA (b:List UInt8):Int:=if cB b then if dM b then 0 else 12 else 14
noncomputable def decC:Con:=con1 (List UInt8) (fun b=>[roV 1 (bE b)]) (fun _=>[]) (fun b=>b.length≤1099511627776) (fun b=> .tup [vwV (rW b),zA (fB b),zA (fA b)]) (fun _=>[])
def yUw (b:List UInt8):List SAnn:=[
 {ι:=Nat,slots:=fun j=>[(7,.nm 0 0),(9,.nm 1 0),(10,yF ((yB b).head.2.views j).1.2),(44,zA j)],rows:=fun j=>[RdB ((yB b).head.2.views j).2,.cells [.own 2] 71,.own 79 10 (((yB b).head.2.views j).1.1.map zF)]},
 {ι:=Unit,slots:=fun _=>[],rows:=fun _=>[],un:=3}]
open Go Cv Go.Proofs
def yPy (i:RB):Prop:=
 ∃(i_1:RB),AObj.adt (List UInt8×Bool) 1 RdU (i_1.l,i_1.b)=RdB i∧i_1.l.length≤1099511627776∧∀(o:Unit),True→∃(i_2:RB),AObj.adt (List UInt8×Bool) 1 RdU (i_2.l,i_2.b)=AObj.adt (List UInt8×Bool) 1 RdU ((i_1.n 8).left,(i_1.n 8).bad)∧i_2.l.length≤1099511627776∧∀(o:Unit),True→∃(i_3:RB),AObj.adt (List UInt8×Bool) 1 RdU (i_3.l,i_3.b)=AObj.adt (List UInt8×Bool) 1 RdU ((i_2.n 8).left,(i_2.n 8).bad)∧i_3.l.length≤1099511627776∧∀(o:Unit),True→∃(o:Unit),IntKind.i64.wrap (kQ (i.n 8).got)=IntKind.i64.wrap (kQ (i_1.n 8).got)∧IntKind.i64.wrap (kQ ((RB.mk (i.n 8).left (i.n 8).bad).n 8).got)=IntKind.i64.wrap (kQ (i_2.n 8).got)∧IntKind.i64.wrap (kQ ((RB.mk ((RB.mk (i.n 8).left (i.n 8).bad).n 8).left ((RB.mk (i.n 8).left (i.n 8).bad).n 8).bad).n 8).got)=IntKind.i64.wrap (kQ (i_3.n 8).got)∧AObj.adt (List UInt8×Bool) 1 RdU (((RB.mk ((RB.mk (i.n 8).left (i.n 8).bad).n 8).left ((RB.mk (i.n 8).left (i.n 8).bad).n 8).bad).n 8).left,((RB.mk ((RB.mk (i.n 8).left (i.n 8).bad).n 8).left ((RB.mk (i.n 8).left (i.n 8).bad).n 8).bad).n 8).bad)=AObj.adt (List UInt8×Bool) 1 RdU ((i_3.n 8).left,(i_3.n 8).bad)∧True
def aY (a:RB):=((RB.mk (a.n 8).left (a.n 8).bad).n 8)
def cG (a:RB):=((RB.mk (aY a).left (aY a).bad).n 8)
def zEb (a:RB):=(kQ (cG a).got)
def qD (a:RB) (b:Nat):=((RB.mk (a.n 1).left (a.n 1).bad).lvs b)
def yJc (i:RB):Prop:=
 ∃(a:RB),AObj.adt (List UInt8×Bool) 1 RdU (a.l,a.b)=RdB i∧a.l.length≤1099511627776∧∀(b:Unit),True→∃(c:Nat),(↑c:Int)=0∧AObj.adt (List UInt8×Bool) 1 RdU ((qD i c).snd.l,(qD i c).snd.b)=AObj.adt (List UInt8×Bool) 1 RdU ((a.n 1).left,(a.n 1).bad)∧(0:Int)=(0:Int)∧(0:Int)=(0:Int)∧(0:Int)=(0:Int)∧false=false∧List.map lvE (qD i c).fst=[]∧∃(d:Nat→Prop),∃(e:Nat→Nat),d c∧∀(f:Nat),d f→cnd (decide ((↑f:Int)<kQ (a.n 1).got)) (∃(g:RB),AObj.adt (List UInt8×Bool) 1 RdU (g.l,g.b)=AObj.adt (List UInt8×Bool) 1 RdU ((qD i f).snd.l,(qD i f).snd.b)∧g.ok∧∀(h:Unit),True→True∧True∧((List.map lvE (qD i f).fst).length+1)*(24:Nat)≤(140737488355328:Nat)∧∃(j:Nat),(↑j:Int)=IntKind.i64.wrap ((↑f:Int)+1)∧AObj.adt (List UInt8×Bool) 1 RdU ((qD i j).snd.l,(qD i j).snd.b)=AObj.adt (List UInt8×Bool) 1 RdU ((cG g).left,(cG g).bad)∧(0:Int)=(0:Int)∧(0:Int)=(0:Int)∧(0:Int)=(0:Int)∧false=false∧List.map lvE (qD i j).fst=List.map lvE (qD i f).fst++[[dI (IntKind.i64.wrap (kQ (g.n 8).got)),dI (IntKind.i64.wrap (kQ (aY g).got)),dI (IntKind.i64.wrap (zEb g))]]∧d j∧e j<e f∧Sx.AObj.cells (Sx.V.agg [V.d qU,V.d (dI 0),V.d (dI 0),V.d (dI 0),V.d (D.v (.bool false))]).cl 78=Sx.AObj.cells (Sx.V.agg [V.d qU,V.d (dI 0),V.d (dI 0),V.d (dI 0),V.d (D.v (.bool false))]).cl 78) (∃(g:RB),AObj.adt (List UInt8×Bool) 1 RdU (g.l,g.b)=AObj.adt (List UInt8×Bool) 1 RdU ((qD i f).snd.l,(qD i f).snd.b)∧g.l.length≤1099511627776∧∀(h:Unit),True→cnd (kQ (g.n 1).got==1) (∃(j:RB),AObj.adt (List UInt8×Bool) 1 RdU (j.l,j.b)=AObj.adt (List UInt8×Bool) 1 RdU ((g.n 1).left,(g.n 1).bad)∧j.ok∧∀(k:Unit),True→∃(l:Unit),List.map lvE i.side.fst.fst.levels=List.map lvE (qD i f).fst∧i.side.fst.fst.imp.price=IntKind.i64.wrap (kQ (j.n 8).got)∧i.side.fst.fst.imp.qty=IntKind.i64.wrap (kQ (aY j).got)∧i.side.fst.fst.imp.count=IntKind.i64.wrap (zEb j)∧i.side.fst.fst.has=true∧i.side.fst.snd=decide (kQ (g.n 1).got≤1)∧AObj.adt (List UInt8×Bool) 1 RdU (i.side.snd.l,i.side.snd.b)=AObj.adt (List UInt8×Bool) 1 RdU ((cG j).left,(cG j).bad)∧True) (∃(j:Unit),List.map lvE i.side.fst.fst.levels=List.map lvE (qD i f).fst∧i.side.fst.fst.imp.price=0∧i.side.fst.fst.imp.qty=0∧i.side.fst.fst.imp.count=0∧i.side.fst.fst.has=false∧i.side.fst.snd=decide (kQ (g.n 1).got≤1)∧AObj.adt (List UInt8×Bool) 1 RdU (i.side.snd.l,i.side.snd.b)=AObj.adt (List UInt8×Bool) 1 RdU ((g.n 1).left,(g.n 1).bad)∧True))
def xU (a:List UInt8) (b:Nat):=((RB.mk ((RB.mk ((yB a).n 8).left ((yB a).n 8).bad).n 1).left ((RB.mk ((yB a).n 8).left ((yB a).n 8).bad).n 1).bad).views b)
def zIt (a:List UInt8) (b:Nat):=((List.map zF (xU a b).fst.fst).length+1)
def Vdect296:=(Sx.V.agg [V.d qU])
def zRl (a:Nat) (b:Nat) (c:List UInt8) (d:RB) (e:RB) (f:Nat→Prop) (g:Nat→Nat) (h:List UInt8):Prop:=(↑a:Int)=IntKind.i64.wrap ((↑b:Int)+1)∧AObj.adt (List UInt8×Bool) 1 RdU ((xU c a).snd.l,(xU c a).snd.b)=AObj.adt (List UInt8×Bool) 1 RdU (d.side.snd.l,d.side.snd.b)∧List.map zF (xU c a).fst.fst=List.map zF (xU c b).fst.fst++[[D.ro 3 (List.map lvE e.side.fst.fst.levels),dI e.side.fst.fst.imp.price,dI e.side.fst.fst.imp.qty,dI e.side.fst.fst.imp.count,D.v (.bool e.side.fst.fst.has),D.ro 3 (List.map lvE d.side.fst.fst.levels),dI d.side.fst.fst.imp.price,dI d.side.fst.fst.imp.qty,dI d.side.fst.fst.imp.count,D.v (.bool d.side.fst.fst.has)]]∧f a∧g a<g b∧AObj.adt (List UInt8) 2 WrU h=AObj.adt (List UInt8) 2 WrU h∧AObj.own tU8 1 (bE h)=AObj.own tU8 1 (bE h)∧Sx.AObj.cells Vdect296.cl 71=Sx.AObj.cells Vdect296.cl 71
def zQm (a:List UInt8) (b:Nat) (c:RB) (d:RB) (e:Nat→Prop) (f:Nat→Nat) (g:List UInt8):Prop:=(zIt a b)*(112:Nat)≤(140737488355328:Nat)∧∃(h:Nat),(xU a h).fst.snd=false∧zRl h b a c d e f g
def zBf (a:List UInt8):Prop:=0≤IntKind.i64.wrap ((↑(bE a).length:Int)-4)∧IntKind.i64.wrap ((↑(bE a).length:Int)-4)≤(↑(bE a).length:Int)
def zCm (a:List UInt8):Prop:=∃(b:Unit),List.map zF (rW a)=[]∧fB a=0∧fA a=12∧True
def rM (a:List UInt8):=(IntKind.i64.wrap ((↑(bE a).length:Int)-4))
def yQm (b:List UInt8):Prop:=
 cnd (decide (IntKind.i64.wrap ((↑(bE b).length:Int)-4)<0)) (∃(a:Unit),List.map zF (rW b)=[]∧fB b=0∧fA b=14∧True) (∃(a:Unit),True∧∀(c:Unit),True→(zBf b)∧∃(d:List UInt8),bE d=List.take (rM b).toNat (bE b)∧d.length≤1099511627776∧∀(e:Unit),True→∃(f:WN),f.n=aR d∧AObj.adt (List UInt8) 2 WrU f.l=AObj.adt (List UInt8) 2 WrU []∧(f.l.length+(8:Nat)≤(1099511627776:Nat)∧0≤f.n∧f.n<4294967296)∧∀(g:Unit),True→(zBf b)∧∃(h:ByteArray),(1:Nat)=(1:Nat)∧List.drop (rM b).toNat (bE b)=yV h∧∃(j:List UInt8),AObj.adt (List UInt8) 2 WrU j=AObj.adt (List UInt8) 2 WrU (f.l++le f.n 4)∧j.length≤1099511627776∧∀(k:Unit),True→(∃(l:ByteArray),(1:Nat)=(1:Nat)∧List.drop (rM b).toNat (bE b)=yV l∧l=h)∧∃(l:ByteArray),(1:Nat)=(1:Nat)∧bE j=yV l∧cnd (!l.toList==h.toList) (∃(m:Unit),List.map zF (rW b)=[]∧fB b=0∧fA b=14∧True) ((zBf b)∧∃(m:List UInt8),bE m=List.take (rM b).toNat (bE b)∧m.length≤1099511627776∧∀(n:Unit),True→∃(p:RB),AObj.adt (List UInt8×Bool) 1 RdU (p.l,p.b)=AObj.adt (List UInt8×Bool) 1 RdU (m,false)∧p.l.length≤1099511627776∧∀(q:Unit),True→∃(r:RB),AObj.adt (List UInt8×Bool) 1 RdU (r.l,r.b)=AObj.adt (List UInt8×Bool) 1 RdU ((p.n 8).left,(p.n 8).bad)∧r.l.length≤1099511627776∧∀(s:Unit),True→∃(t:Nat),(xU b t).fst.snd=true∧(↑t:Int)=0∧AObj.adt (List UInt8×Bool) 1 RdU ((xU b t).snd.l,(xU b t).snd.b)=AObj.adt (List UInt8×Bool) 1 RdU ((r.n 1).left,(r.n 1).bad)∧List.map zF (xU b t).fst.fst=[]∧∃(u:Nat→Prop),∃(v:Nat→Nat),u t∧∀(w:Nat),u w→cnd (decide ((↑w:Int)<kQ (r.n 1).got)) (∃(x:RB),AObj.adt (List UInt8×Bool) 1 RdU (x.l,x.b)=AObj.adt (List UInt8×Bool) 1 RdU ((xU b w).snd.l,(xU b w).snd.b)∧x.ok∧∀(y:Unit),True→cnd (xU b w).fst.snd (∃(z:RB),AObj.adt (List UInt8×Bool) 1 RdU (z.l,z.b)=AObj.adt (List UInt8×Bool) 1 RdU (x.side.snd.l,x.side.snd.b)∧z.ok∧∀(a_1:Unit),True→cnd x.side.fst.snd ((zIt b w)*(112:Nat)≤(140737488355328:Nat)∧∃(a_2:Nat),(xU b a_2).fst.snd=z.side.fst.snd∧zRl a_2 w b z x u v j) (zQm b w z x u v j)) (∃(z:RB),AObj.adt (List UInt8×Bool) 1 RdU (z.l,z.b)=AObj.adt (List UInt8×Bool) 1 RdU (x.side.snd.l,x.side.snd.b)∧z.ok∧∀(a_1:Unit),True→zQm b w z x u v j)) (cnd (!(xU b w).fst.snd) (zCm b) (∃(x:RB),AObj.adt (List UInt8×Bool) 1 RdU (x.l,x.b)=AObj.adt (List UInt8×Bool) 1 RdU ((xU b w).snd.l,(xU b w).snd.b)∧x.l.length≤1099511627776∧∀(y:Unit),True→cnd ((if x.b=true then(10:Int)else if 0<x.l.length then(15:Int)else(0:Int)) !=0) (zCm b) (∃(z:Vw),List.map zF z=List.map zF (xU b w).fst.fst∧(zCq z)∧∀(a_1:Unit),True→cnd (!uU z) (zCm b) (∃(a_2:Unit),List.map zF (rW b)=List.map zF (xU b w).fst.fst∧fB b=IntKind.i64.wrap (kQ (p.n 8).got)∧fA b=0∧True))))))
open Go Cv Go.Proofs
open Classical
theorem zVz (i:RN):i.left.length≤i.l.length:=by
 unfold RN.left;split
 ·omega
 ·rw[yWh];omega
theorem zAc (r:RB):0≤r.byte.1∧r.byte.1≤255:=by
 have hr:=m8 (r.n 1).got
 have hl:=zQh (r.n 1)
 have h0:(256:Int) ^ (r.n 1).got.length≤256 ^ 1:=by
  have:(256:Nat) ^ (r.n 1).got.length≤256 ^ 1:=Nat.pow_le_pow_right (by omega) hl
  exact_mod_cast this
 exact⟨hr.1,by show kQ _≤255;omega⟩
theorem tE {r:RB} (h:r.ok):r.byte.2.ok:=yYp (zVz _) h
theorem aD {r:RB} (h:r.ok):r.long.2.ok:=yYp (zVz _) h
theorem yJn {r:RB} (h:r.ok):r.lv.2.ok:=aD (aD (aD h))
theorem zYp {r:RB} (h:r.ok):∀k,(r.lvs k).2.ok
 |0=>h
 |k+1=>yJn (zYp h k)
theorem zGv {r:RB} (h:r.ok):r.part.2.ok:=zYp (tE h) _
theorem zHc {r:RB} (h:r.ok):r.side.2.ok:=by
 unfold RB.side;split
 ·exact yJn (tE (zGv h))
 ·exact tE (zGv h)
theorem zKw {r:RB} (h:r.ok):∀k,(r.views k).2.ok
 |0=>h
 |k+1=>zHc (zHc (zKw h k))
theorem zRo {r:RB}:∀k,(r.lvs k).1.length=k
 |0=>rfl
 |k+1=>by show((r.lvs k).1++[_]).length=_;rw[yVm,zRo k];rfl
theorem zWg {r:RB}:r.side.1.1.levels.length≤255:=by
 have:r.part.1.length≤255:=by
  show(r.byte.2.lvs r.byte.1.toNat).1.length≤255
  rw[zRo];have:=zAc r;omega
 unfold RB.side;split<;>exact this
theorem zEr {r:RB}:∀k,(r.views k).1.1.length=k
 |0=>rfl
 |k+1=>by show((r.views k).1.1++[_]).length=_;rw[yVm,zEr k];rfl
theorem zLd {r:RB}:∀k,∀b∈(r.views k).1.1,b.1.levels.length≤255∧b.2.levels.length≤255
 |0,b,h=>nomatch h
 |k+1,b,h=>by
  have h:b∈(r.views k).1.1++[_]:=h
  rw[yWn,yXc]at h
  rcases h with h|rfl
  ·exact zLd k b h
  ·exact⟨zWg,zWg⟩
theorem yFo:lgetC.ok Tryz.prog 129:=okw (V:=yPy) mixed (gokc zUj gok0) 0 (fun _=>[]) (fun _=>[]) [] Tryz.func129 fun(i:RB) h=>
 ⟨i,rfl,h,fun _ _=>⟨i.long.2,rfl,aD h,fun _ _=>⟨i.long.2.long.2,rfl,aD (aD h),fun _ _=>⟨(),rfl,rfl,rfl,rfl,trivial⟩⟩⟩⟩
theorem wj {j:Nat} (h:j≤100000):((j+1:Nat):Int)=IntKind.i64.wrap ((j:Int)+1):=by rw[w64 (by omega)];rfl
theorem yQl (i:RB) (h:sideC.cnd i):yJc i:=by
 unfold yJc qD zEb cG aY qU dI
 have hb:=zAc i
 have hp:i.part=i.byte.2.lvs i.byte.1.toNat:=rfl
 refine⟨i,rfl,h,fun _ _=>⟨0,rfl,rfl,rfl,rfl,rfl,rfl,rfl,fun j=>j≤i.byte.1.toNat,fun j=>i.byte.1.toNat-j,yXf _,fun j hj=>zJ (fun hlt=> ?_) (fun hlt=> ?_)⟩⟩
 ·dsimp only at hj
  have hlt:(j:Int)<i.byte.1:=hlt
  refine⟨(i.byte.2.lvs j).2,rfl,zYp (tE h) j,fun _ _=>⟨trivial,trivial,?_,j+1,wj (by omega),rfl,rfl,rfl,rfl,rfl,?_,by(first|omega|(dsimp only;omega)),by(first|omega|(dsimp only;omega)),by(repeat'(first|exact trivial|exact rfl|apply And.intro))⟩⟩
  ·rw[yVk]
   show((i.byte.2.lvs j).1.length+1)*24≤_
   rw[zRo];omega
  ·show List.map lvE (i.byte.2.lvs (j+1)).1=_
   show List.map lvE ((i.byte.2.lvs j).1++[(i.byte.2.lvs j).2.lv.1])=_
   rw[yVu];rfl
 ·dsimp only at hj
  have hlt:¬(j:Int)<i.byte.1:=hlt
  obtain rfl:j=i.byte.1.toNat:=by omega
  refine⟨i.part.2,rfl,zGv h,fun _ _=>Cv.cnd.mk (fun e=> ?_) (fun e=> ?_)⟩
  ·have e:i.part.2.byte.1=1:=by
    have e:(i.part.2.byte.1==1)=true:=e
    simpa using e
   have hs:i.side=((⟨i.part.1,i.part.2.byte.2.lv.1,true⟩,true),i.part.2.byte.2.lv.2):=yVl e
   refine⟨i.part.2.byte.2,rfl,tE (zGv h),fun _ _=>⟨(),?_⟩⟩
   rw[hs]
   refine⟨rfl,rfl,rfl,rfl,rfl,?_,rfl,trivial⟩
   show true=decide (i.part.2.byte.1≤1)
   rw[e];rfl
  ·have e:¬i.part.2.byte.1=1:=by
    have e:(i.part.2.byte.1==1)=false:=e
    simpa using e
   have hs:i.side=((⟨i.part.1,⟨0,0,0⟩,false⟩,decide (i.part.2.byte.1≤1)),i.part.2.byte.2):=yVj e
   refine⟨(),?_⟩
   rw[hs]
   exact⟨rfl,rfl,rfl,rfl,rfl,rfl,rfl,trivial⟩
theorem yIb:sideC.ok Tryz.prog 89:=okw mixed (gokc zUm (gokc yFo gok0)) 0 (fun _=>[]) (fun i=>yQp i) [] Tryz.func89 yQl
theorem zFl (l:List UInt8):bE l=yV ⟨l.toArray⟩:=rfl
theorem z2y {b:List UInt8} (h:¬cB b):rW b=[]∧fB b=0∧fA b=14:=by
 refine⟨?_,?_,?_⟩
 ·rw[rW,yVj fun x=>h x.1]
 ·rw[fB,yVj fun x=>h x.1]
 ·rw[fA,yVj h]
theorem z9j {b:List UInt8} (h:cB b) (h2:¬dM b):rW b=[]∧fB b=0∧fA b=12:=by
 refine⟨?_,?_,?_⟩
 ·rw[rW,yVj fun x=>h2 x.2]
 ·rw[fB,yVj fun x=>h2 x.2]
 ·rw[fA,yVl h,yVj h2]
theorem z8p {b:List UInt8} (h:cB b) (h2:dM b):rW b=(yB b).all.1.1∧fB b=(yB b).long.1∧fA b=0:=by
 refine⟨?_,?_,?_⟩
 ·rw[rW,yVl ⟨h,h2⟩]
 ·rw[fB,yVl ⟨h,h2⟩]
 ·rw[fA,yVl h,yVl h2]
theorem yTr (b:List UInt8) (h:decC.cnd b):yQm b:=by
 have h:b.length≤1099511627776:=h
 have e0:((bE b).length:Int)=b.length:=by rw[vM]
 have e1:IntKind.i64.wrap (((bE b).length:Int)-4)=(b.length:Int)-4:=by rw[w64 (by omega),e0]
 unfold yQm zCq vD rM zCm zQm zRl Vdect296 qU zBf zIt xU dI
 rw[e1,e0]
 refine zJ (fun hlt=> ?_) (fun hlt=> ?_)
 ·obtain⟨a1,a2,a3⟩:=z2y (b:=b) fun x=>by have:=x.1;omega
  exact⟨(),by rw[a1];rfl,a2,a3,trivial⟩
 have en:((b.length:Int)-4).toNat=b.length-4:=by omega
 rw[en,← zQz,← z0l]
 have hc:=zFs (b.take (b.length-4))
 have hx:(b.take (b.length-4)).length≤1099511627776:=by rw[yWe];omega
 have hr:(yB b).ok:=hx
 have hall:(yB b).head.2.ok:=tE (aD hr)
 have hn:=zAc (yB b).long.2
 refine⟨(),trivial,fun _ _=>⟨⟨by omega,by omega⟩,b.take (b.length-4),rfl,hx,fun _ _=>⟨⟨[],aR (b.take (b.length-4))⟩,rfl,rfl,⟨(show 0+8≤1099511627776 by omega),hc.1,hc.2⟩,fun _ _=>⟨⟨by omega,by omega⟩,_,rfl,zFl _,le (aR (b.take (b.length-4))) 4,rfl,(by rw[gW];omega),fun _ _=>⟨⟨_,rfl,zFl _,rfl⟩,_,rfl,zFl _,Cv.cnd.mk (fun e=> ?_) (fun e=> ?_)⟩⟩⟩⟩⟩
 ·rw[ByteArray.toList_eq,ByteArray.toList_eq]at e
  obtain⟨a1,a2,a3⟩:=z2y (b:=b) fun x=>by
   simp at e
   exact e x.2
  exact⟨(),by rw[a1];rfl,a2,a3,trivial⟩
 rw[ByteArray.toList_eq,ByteArray.toList_eq]at e
 have hs:cB b:=⟨by omega,by simpa using e⟩
 refine⟨⟨by omega,by omega⟩,b.take (b.length-4),rfl,hx,fun _ _=>⟨yB b,rfl,hr,fun _ _=>⟨(yB b).long.2,rfl,aD hr,fun _ _=>⟨0,rfl,rfl,rfl,rfl,fun j=>j≤(yB b).head.1.toNat,fun j=>(yB b).head.1.toNat-j,yXf _,fun j hj=>zJ (fun hlt=> ?_) (fun hlt=> ?_)⟩⟩⟩⟩
 ·dsimp only at hj
  have hlt:(j:Int)<(yB b).head.1:=hlt
  have hn:0≤(yB b).head.1∧(yB b).head.1≤255:=hn
  have o1:((yB b).head.2.views j).2.ok:=zKw hall j
  have hl:((List.map zF ((yB b).head.2.views j).1.1).length+1)*112≤140737488355328:=by rw[yVk,zEr];omega
  have nb:((yB b).head.2.views (j+1)).1.2=(((yB b).head.2.views j).1.2 && ((yB b).head.2.views j).2.side.1.2 && ((yB b).head.2.views j).2.side.2.side.1.2):=rfl
  have nl:List.map zF ((yB b).head.2.views (j+1)).1.1=List.map zF ((yB b).head.2.views j).1.1++[zF (((yB b).head.2.views j).2.side.1.1,((yB b).head.2.views j).2.side.2.side.1.1)]:=by
   show List.map zF (((yB b).head.2.views j).1.1++[_])=_
   rw[yVu];rfl
  refine⟨((yB b).head.2.views j).2,rfl,o1,fun _ _=>Cv.cnd.mk (fun f1=> ?_) (fun f1=> ?_)⟩
  ·have f1:((yB b).head.2.views j).1.2=true:=f1
   refine⟨((yB b).head.2.views j).2.side.2,rfl,zHc o1,fun _ _=>Cv.cnd.mk (fun f2=>⟨hl,j+1,?_,wj (by omega),rfl,nl,by(first|omega|(dsimp only;omega)),by(first|omega|(dsimp only;omega)),by(repeat'(first|exact trivial|exact rfl|apply And.intro))⟩) (fun f2=>⟨hl,j+1,?_,wj (by omega),rfl,nl,by(first|omega|(dsimp only;omega)),by(first|omega|(dsimp only;omega)),by(repeat'(first|exact trivial|exact rfl|apply And.intro))⟩)⟩
   ·refine nb.trans ?_
    rw[f1,f2];rfl
   ·refine nb.trans ?_
    rw[f1,f2];rfl
  ·have f1:((yB b).head.2.views j).1.2=false:=f1
   refine⟨((yB b).head.2.views j).2.side.2,rfl,zHc o1,fun _ _=>⟨hl,j+1,?_,wj (by omega),rfl,nl,by(first|omega|(dsimp only;omega)),by(first|omega|(dsimp only;omega)),by(repeat'(first|exact trivial|exact rfl|apply And.intro))⟩⟩
   refine nb.trans ?_
   rw[f1];rfl
 ·dsimp only at hj
  have hlt:¬(j:Int)<(yB b).head.1:=hlt
  have hn:0≤(yB b).head.1∧(yB b).head.1≤255:=hn
  obtain rfl:j=(yB b).head.1.toNat:=by omega
  have no:∀h2:¬dM b,(∃(o:Unit),List.map zF (rW b)=[]∧fB b=0∧fA b=12∧True):=fun h2=>by
   obtain⟨a1,a2,a3⟩:=z9j hs h2
   exact⟨(),by rw[a1];rfl,a2,a3,trivial⟩
  refine Cv.cnd.mk (fun f=>no fun x=> ?_) (fun f=> ?_)
  ·have x1:((yB b).head.2.views (yB b).head.1.toNat).1.2=true:=x.1
   have f:(!((yB b).head.2.views (yB b).head.1.toNat).1.2)=true:=f
   rw[x1]at f;cases f
  have f:((yB b).head.2.views (yB b).head.1.toNat).1.2=true:=by
   have f:(!((yB b).head.2.views (yB b).head.1.toNat).1.2)=false:=f
   simpa using f
  refine⟨(yB b).all.2,rfl,zKw hall _,fun _ _=>Cv.cnd.mk (fun g=>no fun x=> ?_) (fun g=> ?_)⟩
  ·have x2:(yB b).all.2.endOf=0:=x.2.1
   have g:((yB b).all.2.endOf !=0)=true:=g
   rw[x2]at g;cases g
  have g:(yB b).all.2.endOf=0:=by
   have g:((yB b).all.2.endOf !=0)=false:=g
   simpa using g
  refine⟨(yB b).all.1.1,rfl,⟨?_,?_⟩,fun _ _=>Cv.cnd.mk (fun q=>no fun x=> ?_) (fun q=> ?_)⟩
  ·show((yB b).head.2.views (yB b).head.1.toNat).1.1.length≤_
   rw[zEr];omega
  ·intro y hy
   have:=zLd (r:=(yB b).head.2) _ y hy
   omega
  ·have:=x.2.2
   simp only[uU,yYl,decide_eq_false_iff_not]at q
   exact q this
  ·have q:kC (yB b).all.1.1:=by simpa[uU]using q
   obtain⟨a1,a2,a3⟩:=z8p hs ⟨f,g,q⟩
   refine⟨(),?_,a2,a3,trivial⟩
   rw[a1];rfl
theorem dec_ok:decC.ok Tryz.prog 37:=okw mixed (gokc z2k (gokc z7x (gokc yBz (gokc z1u (gokc yEv (gokc zUj (gokc zUm (gokc yIb (gokc yHy (gokc zOm gok0)))))))))) 0 (fun _=>[]) (fun b=>yUw b) [] Tryz.func37 yTr
open Go Cv Go.Proofs
open Classical
open Go Cv Go.Proofs
open Go Cv Go.Proofs
open Classical
open Go Cv Go.Proofs
theorem yPu (n:Int):((lob n).toNat:Int)=n % 256:=(z0m n).symm
theorem eE (x:UInt8) (l:List UInt8):RB.byte ⟨x::l,false⟩=((x.toNat:Int),⟨l,false⟩):=by
 simp[RB.byte,RB.n,RN.got,RN.left,RN.bad,kQ]
theorem yFl (a l:List UInt8):(RN.mk (a++l) false a.length).got=a∧(RN.mk (a++l) false a.length).left=l∧(RN.mk (a++l) false a.length).bad=false:=by
 have h:(RN.mk (a++l) false a.length).bad=false:=by simp[RN.bad]
 simp[RN.got,RN.left,h]
theorem yDe (n:Int):kQ (le n 8)=n % 18446744073709551616:=by
 simp only[le,kQ,yPu];omega
theorem zGu {n:Int} (h:yO n) (l:List UInt8):RB.long ⟨le n 8++l,false⟩=(n,⟨l,false⟩):=by
 have e:(RB.mk (le n 8++l) false).n 8=RN.mk (le n 8++l) false (le n 8).length:=by rw[gW];rfl
 obtain⟨h1,h2,h3⟩:=yFl (le n 8) l
 rw[RB.long,e,h1,h2,h3,yDe]
 obtain⟨ha,hb⟩:=h
 have:IntKind.i64.wrap (n % 18446744073709551616)=n:=by
  have e:=Cv.wrap_i64 ha hb
  by_cases hn:0≤n
  ·rw[show n % 18446744073709551616=n by omega];exact e
  ·have:n % 18446744073709551616=n+18446744073709551616:=by omega
   rw[this]
   rw[IntKind.wrap]at e ⊢
   simp only[IntKind.wrap,IntKind.bits,IntKind.signed]at e ⊢
   simp at e ⊢
   omega
 rw[this]
theorem z3x {n:Int} (h:0≤n∧n≤255):((lob n).toNat:Int)=n:=by rw[yPu];omega
open Go Cv Go.Proofs
open Go Cv Go.Proofs
open Go Cv Go.Proofs
open Go Cv Go.Proofs
open Go Cv Go.Proofs
deriving instance DecidableEq for Lv
def yEw (s:Int) (L:List Lv):Prop:=L.Pairwise fun a b=>btr s a.price b.price=true
theorem yPb {s x y z:Int} (h:btr s x y=true) (h2:btr s y z=true):btr s x z=true:=by
 rw[btr]at h h2 ⊢
 split
 ·rename_i e;rw[yVl e]at h h2;have:=yXu h;have:=yXu h2;exact yWd (by omega)
 ·rename_i e;rw[yVj e]at h h2;have:=yXu h;have:=yXu h2;exact yWd (by omega)
theorem yHb {s x y:Int} (h:btr s x y=false) (hne:x≠y):btr s y x=true:=by
 rw[btr]at h ⊢
 split
 ·rename_i e;rw[yVl e]at h;have:=yZr h;exact yWd (by omega)
 ·rename_i e;rw[yVj e]at h;have:=yZr h;exact yWd (by omega)
open Go Cv Go.Proofs
def yUn (L:List Lv):Prop:=∀l∈L,1≤l.qty
open Go Cv Go.Proofs
open Go Cv Go.Proofs
open Go Cv Go.Proofs
open Classical
def Lv.fit (x:Lv):Prop:=yO x.price∧yO x.qty∧yO x.count
def Sd.fit (s:Sd):Prop:=(∀x∈s.levels,x.fit)∧s.imp.fit
def zYt (v:Vw):Prop:=∀b∈v,b.1.fit∧b.2.fit
theorem zZy {α:Type}:∀(l:List α) {k:Nat} (h:k<l.length),l.take k++[l[k]]=l.take (k+1)
 |[],_,h=>absurd h (by simp)
 |a::l,0,_=>rfl
 |a::l,k+1,h=>by
  have:=zZy l (k:=k) (by simpa using h)
  rw[yWv,yWv,← this];rfl
theorem z7l {x:Lv} (h:x.fit) (l:List UInt8):RB.lv ⟨xS x++l,false⟩=(x,⟨l,false⟩):=by
 obtain⟨h1,h2,h3⟩:=h
 rw[RB.lv,xS,yVq,yVq,zGu h1]
 dsimp only
 rw[zGu h2]
 dsimp only
 rw[zGu h3]
theorem z0v {L:List Lv} (h:∀x∈L,x.fit) (l:List UInt8):∀k,k≤L.length→RB.lvs ⟨L.flatMap xS++l,false⟩ k=(L.take k,⟨(L.drop k).flatMap xS++l,false⟩)
 |0,_=>by simp[RB.lvs]
 |k+1,hk=>by
  have hk':k<L.length:=hk
  rw[RB.lvs,z0v h l k (by omega),yXs hk',yWu,yVq]
  dsimp only
  rw[z7l (h _ (List.getElem_mem hk'))]
  dsimp only
  rw[zZy L hk']
theorem zUg {s:Sd} (h:s.fit) (hl:s.levels.length≤255) (h0:s.has=false→s.imp=⟨0,0,0⟩) (l:List UInt8):RB.side ⟨aV s++l,false⟩=((s,true),⟨l,false⟩):=by
 have hp:RB.part ⟨aV s++l,false⟩=(s.levels,⟨(if s.has then[lob 1]++xS s.imp else[lob 0])++l,false⟩):=by
  have e:aV s++l=lob s.levels.length::(s.levels.flatMap xS++((if s.has then[lob 1]++xS s.imp else[lob 0])++l)):=by simp[aV,yVq]
  rw[e,RB.part,eE]
  dsimp only
  rw[z3x (by omega),yWb,z0v h.1 _ _ (yWj _),yYz,List.drop_length]
  rfl
 rw[RB.side,hp]
 dsimp only
 cases hh:s.has with
 |true=>
  rw[yVl rfl,yVq]
  have e:[lob 1]++(xS s.imp++l)=lob 1::(xS s.imp++l):=rfl
  rw[e,eE]
  dsimp only
  rw[z3x (by omega),yVl rfl,z7l h.2]
  cases s;cases hh;rfl
 |false=>
  have e:(if false=true then[lob 1]++xS s.imp else[lob 0])++l=lob 0::l:=rfl
  rw[e,eE]
  dsimp only
  rw[z3x (by omega),yVj (by decide)]
  have:=h0 hh
  cases s;cases hh;cases this;rfl
theorem zOh {v:Vw} (h:zYt v) (hr:kC v) (l:List UInt8):∀k,k≤v.length→RB.views ⟨v.flatMap qL++l,false⟩ k=((v.take k,true),⟨(v.drop k).flatMap qL++l,false⟩)
 |0,_=>by simp[RB.views]
 |k+1,hk=>by
  have hk':k<v.length:=hk
  have hm:=List.getElem_mem hk'
  obtain⟨f1,f2⟩:=h _ hm
  obtain⟨⟨_,a1,_,a2⟩,⟨_,b1,_,b2⟩⟩:=hr.1 _ hm
  rw[RB.views,zOh h hr l k (by omega),yXs hk',yWu,qL,yVq,yVq]
  dsimp only
  rw[zUg f1 a1 a2]
  dsimp only
  rw[zUg f2 b1 b2]
  dsimp only
  rw[← zZy v hk']
  rfl
theorem yFk {v:Vw} (h:zYt v) (hr:kC v) {seq:Int} (hs:yO seq):RB.all ⟨qK v seq,false⟩=((v,true),⟨[],false⟩)∧(RB.mk (qK v seq) false).long.1=seq:=by
 have hl:=hr.2
 have e:qK v seq=le seq 8++(lob v.length::v.flatMap qL):=by simp[qK,yVq]
 have e2:RB.long ⟨qK v seq,false⟩=(seq,⟨lob v.length::v.flatMap qL,false⟩):=by rw[e,zGu hs]
 have e3:RB.head ⟨qK v seq,false⟩=((v.length:Int),⟨v.flatMap qL,false⟩):=by
  rw[RB.head,e2];dsimp only;rw[eE,z3x (by omega)]
 refine⟨?_,by rw[e2]⟩
 have:=zOh h hr [] v.length (yWj _)
 rw[yWg,yWg,yYz,List.drop_length]at this
 rw[RB.all,e3]
 dsimp only
 rw[yWb,this]
 rfl
theorem yAh {v:Vw} (hr:kC v) (seq:Int):yB (zS v seq)=⟨qK v seq,false⟩∧cB (zS v seq):=by
 have hl:(zS v seq).length-4=(qK v seq).length:=by rw[zS,yVl hr,yVm,gW];omega
 have h4:4≤(zS v seq).length:=by rw[zS,yVl hr,yVm,gW];omega
 have ht:(zS v seq).take ((zS v seq).length-4)=qK v seq:=by rw[hl,zS,yVl hr,List.take_left]
 have hd:(zS v seq).drop ((zS v seq).length-4)=le (aR (qK v seq)) 4:=by rw[hl,zS,yVl hr,List.drop_left]
 exact⟨by rw[yB,ht],h4,by rw[ht,hd]⟩
theorem zNz {v:Vw} (h:zYt v) (hr:kC v) {seq:Int} (hs:yO seq):rW (zS v seq)=v∧fB (zS v seq)=seq∧fA (zS v seq)=0:=by
 obtain⟨b1,b2⟩:=yAh hr seq
 obtain⟨a1,a2⟩:=yFk h hr hs
 have hf:dM (zS v seq):=by rw[dM,b1,a1];exact⟨rfl,rfl,hr⟩
 refine⟨?_,?_,?_⟩
 ·rw[rW,yVl ⟨b2,hf⟩,b1,a1]
 ·rw[fB,yVl ⟨b2,hf⟩,b1,a2]
 ·rw[fA,yVl b2,yVl hf]
theorem zSo {v w:Vw} (h:zYt v) (hr:kC v) (h':zYt w) (hr':kC w) {a b:Int} (ha:yO a) (hb:yO b):zS v a=zS w b↔a=b∧v=w:=by
 constructor
 ·intro e
  obtain⟨x1,x2,_⟩:=zNz h hr ha
  obtain⟨y1,y2,_⟩:=zNz h' hr' hb
  rw[e]at x1 x2
  exact⟨x2.symm.trans y2,x1.symm.trans y1⟩
 ·rintro⟨rfl,rfl⟩;rfl
theorem yCf {b:List UInt8} (h:b.length<4):rW b=[]∧fB b=0∧fA b=14:=by
 have hn:¬cB b:=fun e=>by have:=e.1;omega
 exact⟨by rw[rW,yVj fun h=>hn h.1],by rw[fB,yVj fun h=>hn h.1],by rw[fA,yVj hn]⟩
open Go Cv Go.Proofs
open Go Cv Go.Proofs
open Go Cv Go.Proofs
end Sx
