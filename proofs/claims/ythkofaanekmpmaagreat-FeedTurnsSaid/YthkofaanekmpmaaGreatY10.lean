/- Texts of ours, one behind the other: a walk that the kernel reckons, and contracts of functions. No condition. -/
import Derived.Test.YthkofaanekmpmaaGreatY9
open Bool renaming false→aa,true→ab
open Go.IntKind renaming u64→ac,i64→ae
open Int renaming pow_succ→af
open List renaming filter_map→ag,nodup_nil→aj
namespace Sx
set_option linter.unusedVariables false
set_option linter.unusedSimpArgs false
set_option maxRecDepth 100000
open Go Cv Go.Proofs
theorem yRh (k:Nat):∀n:Int,le (n % 256 ^ k) k=le n k:=by
 induction k with
 |zero=>intro n;rfl
 |succ k ih=>
  intro n
  have hp:(0:Int)<256 ^ k:=Int.pow_pos (by omega)
  have h1:lob (n % 256 ^ (k+1))=lob n:=by
   unfold lob
   rw[af,y5l,Int.emod_emod_of_dvd n ⟨256 ^ k,rfl⟩]
  have h2:n % 256 ^ (k+1) / 256=n / 256 % 256 ^ k:=by
   have e:n=256*(n / 256)+n % 256:=(Int.mul_ediv_add_emod n 256).symm
   have e2:n / 256=256 ^ k*(n / 256 / 256 ^ k)+n / 256 % 256 ^ k:=(Int.mul_ediv_add_emod _ _).symm
   have hr:=y6d (n / 256) (show(256:Int) ^ k≠0 by omega)
   have hr2:=y6e (n / 256) hp
   have e3:n % 256 ^ (k+1)=256*(n / 256 % 256 ^ k)+n % 256:=by
    have:n=256 ^ (k+1)*(n / 256 / 256 ^ k)+(256*(n / 256 % 256 ^ k)+n % 256):=by
     rw[af,y5l (256 ^ k) 256,Int.mul_assoc,← Int.add_assoc,← Int.mul_add,← e2]
     exact e
    conv=>lhs;rw[this]
    rw[Int.add_comm,Int.add_mul_emod_self_left,Int.emod_eq_of_lt]
    ·omega
    ·rw[af];omega
   rw[e3]
   omega
  rw[le,le,h1,h2,ih]
theorem z7d (n:Int):le (ac.wrap n) 8=le n 8:=yRh 8 n
theorem z1y (n:Int):lob (ac.wrap n)=lob n:=by
 have:ac.wrap n=n % 18446744073709551616:=rfl
 unfold lob
 rw[this,Int.emod_emod_of_dvd n ⟨72057594037927936,by decide⟩]
theorem eW (n:Int):0≤ac.wrap n∧ac.wrap n<18446744073709551616:=by
 have:ac.wrap n=n % 18446744073709551616:=rfl
 rw[this];omega
theorem yUe (i:WN) (h:byteC.cnd i):yNk i:=by
 unfold yNk
 have h:i.l.length+8≤1099511627776:=h
 exact⟨⟨i.l,ac.wrap i.n,1⟩,rfl,rfl,rfl,⟨(eW _).1,(eW _).2,by dsimp only;omega⟩,fun _ _=>⟨(),by simp only[le,z1y],trivial⟩⟩
theorem yUx (i:WN) (h:longC.cnd i):yMn i:=by
 unfold yMn
 have h:i.l.length+8≤1099511627776:=h
 exact⟨⟨i.l,ac.wrap i.n,8⟩,rfl,rfl,rfl,⟨(eW _).1,(eW _).2,by dsimp only;omega⟩,fun _ _=>⟨(),by simp only[z7d],trivial⟩⟩
theorem yJh:byteC.ok Tryz.prog 68:=okw mixed (gokc yFv gok0) 0 (fun _=>[]) (fun _=>[]) [] Tryz.func68 yUe
theorem yKw:longC.ok Tryz.prog 67:=okw mixed (gokc yFv gok0) 0 (fun _=>[]) (fun _=>[]) [] Tryz.func67 yUx
theorem z1h:cloneBO.ok Tryz.prog 99:=z8u gok0 fun i h=>fun b hb=>
 Cv.cnd.mk (fun e=>⟨(),rfl,hb e,trivial⟩) (fun _=>⟨by rw[y0w];exact h,(),rfl,rfl,trivial⟩)
theorem zZu:cloneBR.ok Tryz.prog 99:=z6y gok0 fun i h=>fun b hb=>
 Cv.cnd.mk (fun e=>⟨(),hb e,trivial⟩) (fun _=>⟨by rw[y0w];exact h,(),rfl,trivial⟩)
theorem yIh:newWC.ok Tryz.prog 66:=okw (V:=yVi) mixed gok0 0 (fun _=>[]) (fun _=>[]) [] Tryz.func66 fun(_:Unit) _=>⟨(),rfl,trivial⟩
theorem yLf:doneC.ok Tryz.prog 72:=okw (V:=yVe) mixed (gokc z1h gok0) 0 (fun _=>[]) (fun _=>[]) [0] Tryz.func72 fun(i:List UInt8) h=>by
 have h:i.length≤1099511627776:=h
 exact⟨_,rfl,by rw[b7];omega,fun _ _=>⟨(),rfl,rfl,trivial⟩⟩
theorem yKd:newRC.ok Tryz.prog 73:=okw (V:=yVz) mixed (gokc zZu gok0) 0 (fun _=>[]) (fun _=>[]) [] Tryz.func73 fun(i:List UInt8) h=>by
 have h:i.length≤1099511627776:=h
 exact⟨_,rfl,by rw[b7];omega,fun _ _=>⟨(),rfl,rfl,trivial⟩⟩
theorem z8w {l:List UInt8} {i:Nat} {b:UInt8} (h:l[i]? =some b):zE (bE l) i 0 1=some [.v (.int .u8 b.toNat)]:=by
 unfold zE bE
 rw[y0z,h];rfl
theorem yWu (b:UInt8):ac.wrap (b.toNat:Int)=b.toNat:=zDd (by have:=b.toNat_lt;omega)
theorem yLh:takeC.ok Tryz.prog 174:=okw (V:=yUj) mixed gok0 0 (fun _=>[]) (fun _=>[]) [0] Tryz.func174 fun(i:RN) h=>by
 obtain⟨h1,h2⟩:=h
 refine Cv.cnd.mk (fun e=> ?_) (fun e=>zJ (fun hlt=> ?_) (fun hlt=> ?_))
 ·have:i.bad=ab:=by simp[RN.bad,e]
  exact⟨(),by simp[RN.got,this],by simp[RN.left,this],this,trivial⟩
 ·rw[b7]at hlt
  have:i.bad=ab:=by simp[RN.bad];right;omega
  exact⟨(),by simp[RN.got,this],by simp[RN.left,this],by rw[this,b7];simp;omega,trivial⟩
 ·rw[b7]at hlt
  have:i.bad=aa:=by simp[RN.bad,e];omega
  rw[b7]
  exact⟨⟨by omega,by omega⟩,⟨by omega,by omega⟩,(),by simp[RN.got,this,yJc],by simp[RN.left,this,yLv],by rw[this];simp;omega,trivial⟩
theorem zBb:∀l:List UInt8,0≤kO l∧kO l<256 ^ l.length
 |[]=>by simp[kO]
 |b::l=>by
  obtain⟨h1,h2⟩:=zBb l
  have:=b.toNat_lt
  simp only[kO,y0f,af]
  omega
theorem zRj (b:UInt8):∀l:List UInt8,kO (l++[b])=kO l+b.toNat*256 ^ l.length
 |[]=>by simp[kO]
 |c::l=>by
  simp only[y1p,kO,zRj b l,y0f,af,Int.mul_add]
  rw[y5l (256 ^ l.length) 256,← Int.mul_assoc,← Int.mul_assoc,y5l 256 (b.toNat:Int)]
  omega
theorem yBb {x b j:Nat} (hx:x<256 ^ j) (hb:b<256) (hj:j<8):iOr .u64 x (zYd .u64 b ((8*j:Nat):Int))=((x+b*256 ^ j:Nat):Int):=by
 have hp:256 ^ j=2 ^ (8*j):=by rw[Nat.pow_mul]
 have hle:256 ^ (j+1)≤256 ^ 8:=Nat.pow_le_pow_right (by omega) (by omega)
 have hbig:x+b*256 ^ j<256 ^ (j+1):=by
  rw[Nat.pow_succ]
  have:b*256 ^ j≤255*256 ^ j:=y1m _ (by omega)
  omega
 have h8:(256:Nat) ^ 8=18446744073709551616:=by decide
 rw[← yKl,← ySv]
 have e1:ySc .u64 (b:Int) ((8*j:Nat):Int)=((b*256 ^ j:Nat):Int):=by
  show wr .u64 (Int.ofNat (b*2 ^ (Nat.min (8*j) 64)))=_
  rw[show Nat.min (8*j) 64=8*j from y4f (by omega),← hp,z3b]
  exact zDd (by show(0:Int)≤((b*256 ^ j:Nat):Int)∧((b*256 ^ j:Nat):Int)<_;omega)
 rw[e1]
 show wr .u64 (Int.ofNat (Nat.lor (x % 18446744073709551616) ((b*256 ^ j) % 18446744073709551616)))=_
 rw[Nat.mod_eq_of_lt (by omega),Nat.mod_eq_of_lt (by omega)]
 have e2:Nat.lor x (b*256 ^ j)=x+b*256 ^ j:=by
  show x|||(b*256 ^ j)=_
  rw[hp]at hx ⊢
  rw[Nat.or_comm,← Nat.shiftLeft_eq,← Nat.shiftLeft_add_eq_or_of_lt hx,y5k]
 rw[e2,z3b]
 exact zDd (by show(0:Int)≤((x+b*256 ^ j:Nat):Int)∧((x+b*256 ^ j:Nat):Int)<_;omega)
theorem z2s (i:RN):i.got.length≤i.n:=by
 unfold RN.got;split
 ·simp
 ·rw[y0t];omega
theorem yVo (i:RN) (h:getC.cnd i):yTz i:=by
 unfold yTz
 obtain⟨h1,h2⟩:=h
 refine⟨i,rfl,rfl,⟨by omega,h2⟩,fun _ _=>⟨0,rfl,rfl,fun j=>j≤i.got.length,fun j=>i.got.length-j,by dsimp only;omega,fun j hj=>zJ (fun hlt=> ?_) (fun hlt=> ?_)⟩⟩
 ·dsimp only at hj
  have hl:=z2s i
  rw[b7]at hlt ⊢
  obtain⟨b,hb⟩:∃b,i.got[j]? =some b:=⟨_,y1g (by omega)⟩
  have e8:ae.wrap (8*(j:Int))=8*j:=w64 (by omega)
  refine⟨⟨by omega,by omega⟩,b.toNat,z8w hb,by rw[e8];omega,j+1,?_,?_,by dsimp only;omega,by dsimp only;omega,rfl⟩
  ·rw[e8,yWu,y1i,hb]
   simp only[y3f]
   rw[zRj]
   obtain⟨r1,r2⟩:=zBb (i.got.take j)
   rw[y0t,y4f (by omega)]at r2 ⊢
   obtain⟨x,hx⟩:∃x:Nat,kO (i.got.take j)=x:=⟨(kO (i.got.take j)).toNat,by omega⟩
   rw[hx]at r2 ⊢
   have:=yBb (x:=x) (b:=b.toNat) (j:=j) (by exact_mod_cast r2) b.toNat_lt (by omega)
   rw[show(8*(j:Int))=((8*j:Nat):Int)by simp,this]
   simp
  ·rw[w64 (by omega)];rfl
 ·dsimp only at hj
  rw[b7]at hlt
  exact⟨(),by rw[y0p (by omega)],rfl,trivial⟩
theorem yEq:getC.ok Tryz.prog 127:=okw mixed (gokc yLh gok0) 0 (fun _=>[]) (fun i=>yZq i) [] Tryz.func127 yVo
theorem z9x:rbyteC.ok Tryz.prog 75:=okw (V:=ySx) mixed (gokc yEq gok0) 0 (fun _=>[]) (fun _=>[]) [] Tryz.func75 fun(i:RB) h=>by
 have hl:=z2s (i.n 1)
 have hr:=zBb (i.n 1).got
 have h0:(256:Int) ^ (i.n 1).got.length≤256 ^ 1:=by
  have:(256:Nat) ^ (i.n 1).got.length≤256 ^ 1:=Nat.pow_le_pow_right (by omega) hl
  exact_mod_cast this
 exact⟨i.n 1,rfl,rfl,⟨by show 1≤8;omega,h⟩,fun _ _=>⟨(),(w64 (by omega)).symm,rfl,trivial⟩⟩
theorem yFj:rlongC.ok Tryz.prog 74:=okw (V:=yTe) mixed (gokc yEq gok0) 0 (fun _=>[]) (fun _=>[]) [] Tryz.func74 fun(i:RB) h=>by
 exact⟨i.n 8,rfl,rfl,⟨by show 8≤8;omega,h⟩,fun _ _=>⟨(),rfl,rfl,trivial⟩⟩
theorem yLn:rendC.ok Tryz.prog 77:=okw (V:=yWq) mixed gok0 0 (fun _=>[]) (fun _=>[]) [0] Tryz.func77 fun(i:RB) h=>by
 refine Cv.cnd.mk (fun e=>⟨(),by rw[yZy e],rfl,rfl,trivial⟩) (fun e=>zJ (fun hlt=>⟨(),?_,rfl,rfl,trivial⟩) (fun hlt=>⟨(),?_,rfl,rfl,trivial⟩))
 ·rw[b7]at hlt;rw[yZx (by simp[e]),yZy (by omega)]
 ·rw[b7]at hlt;rw[yZx (by simp[e]),yZx (by omega)]
open Go Cv Go.Proofs
open Classical
structure Sd where
 levels:List Lv
 imp:Lv
 has:Bool
@[reducible] def Vw:=List (Sd×Sd)
def zB (b:Sd×Sd):List D:=[.ro 3 (b.1.levels.map lvE),.v (.int .i64 b.1.imp.price),.v (.int .i64 b.1.imp.qty),.v (.int .i64 b.1.imp.count),.v (.bool b.1.has),
 .ro 3 (b.2.levels.map lvE),.v (.int .i64 b.2.imp.price),.v (.int .i64 b.2.imp.qty),.v (.int .i64 b.2.imp.count),.v (.bool b.2.has)]
def sdV (s:Sd):V:= .agg [roV 3 (s.levels.map lvE),zA s.imp.price,zA s.imp.qty,zA s.imp.count,yF s.has]
def vwV (v:Vw):V:= .agg [roV 10 (v.map zB)]
def xB (side x y:Int):Bool:=if side=1 then decide (y<x)else decide (x<y)
structure I3 where
 side:Int
 x:Int
 y:Int
def betterC:Con:=con1 I3 (fun i=>[zA i.side,zA i.x,zA i.y]) (fun _=>[]) (fun _=>True) (fun i=>yF (xB i.side i.x i.y)) (fun _=>[])
def yFk (side:Int) (l:List Lv) (i:Nat):Prop:=∀a,l[i]?=some a→1≤a.qty∧1≤a.count∧∀j b,i=j+1→l[j]?=some b→xB side b.price a.price=ab
def zCn (side:Int) (s:Sd):Prop:=(∀i,yFk side s.levels i)∧s.levels.length≤255∧(s.has=ab→1≤s.imp.qty∧1≤s.imp.count)∧(s.has=aa→s.imp=⟨0,0,0⟩)
def zSi (v:Vw):Prop:=(∀b∈v,zCn 1 b.1∧zCn 2 b.2)∧v.length≤255
@[reducible] def qC (v:Vw):Prop:=v.length≤1099511627776∧∀b∈v,b.1.levels.length≤1099511627776∧b.2.levels.length≤1099511627776
open Go Cv Go.Proofs
def yIq (i:I3):Prop:=
 cnd (i.side==1) (∃(o:Unit),xB i.side i.x i.y=decide (i.x>i.y)∧True) (∃(o:Unit),xB i.side i.x i.y=decide (i.x<i.y)∧True)
open Go Cv Go.Proofs
open Classical
theorem getD {α:Type} {l:List α} {i:Nat} (h:i<l.length):∃x,l[i]? =some x:=⟨_,y1g h⟩
theorem zQo:betterC.ok Tryz.prog 58:=okw (V:=yIq) mixed gok0 0 (fun _=>[]) (fun _=>[]) [] Tryz.func58 fun(i:I3) _=>by
 refine Cv.cnd.mk (fun e=>⟨(),?_,trivial⟩) (fun e=>⟨(),?_,trivial⟩)
 ·have e:i.side=1:=by simpa using e
  simp[xB,e]
 ·have e:i.side≠1:=by simpa using e
  simp[xB,e]
open Go Cv Go.Proofs
open Classical
open Go Cv Go.Proofs
open Classical
def RB.byte (r:RB):Int×RB:=(kO (r.n 1).got,⟨(r.n 1).left,(r.n 1).bad⟩)
def RB.long (r:RB):Int×RB:=(ae.wrap (kO (r.n 8).got),⟨(r.n 8).left,(r.n 8).bad⟩)
def RB.endOf (r:RB):Int:=if r.b then 10 else if 0<r.l.length then 15 else 0
@[reducible] def RB.ok (i:RB):Prop:=i.l.length≤1099511627776
open Go Cv Go.Proofs
open Go Cv Go.Proofs
open Classical
theorem zWf (i:RN):i.left.length≤i.l.length:=by
 unfold RN.left;split
 ·omega
 ·rw[y0x];omega
theorem zTz {r:RB} (h:r.ok):r.byte.2.ok:=y3m (zWf _) h
theorem zIy {r:RB} (h:r.ok):r.long.2.ok:=y3m (zWf _) h
open Go Cv Go.Proofs
open Classical
open Go Cv Go.Proofs
open Go Cv Go.Proofs
open Classical
open Go Cv Go.Proofs
theorem yXr (n:Int):((lob n).toNat:Int)=n % 256:=(z4g n).symm
theorem zGf (x:UInt8) (l:List UInt8):RB.byte ⟨x::l,aa⟩=((x.toNat:Int),⟨l,aa⟩):=by
 simp[RB.byte,RB.n,RN.got,RN.left,RN.bad,kO]
theorem yKn (a l:List UInt8):(RN.mk (a++l) aa a.length).got=a∧(RN.mk (a++l) aa a.length).left=l∧(RN.mk (a++l) aa a.length).bad=aa:=by
 have h:(RN.mk (a++l) aa a.length).bad=aa:=by simp[RN.bad]
 simp[RN.got,RN.left,h]
theorem yAi (n:Int):kO (le n 8)=n % 18446744073709551616:=by
 simp only[le,kO,yXr];omega
theorem zJp {n:Int} (h:yO n) (l:List UInt8):RB.long ⟨le n 8++l,aa⟩=(n,⟨l,aa⟩):=by
 have e:(RB.mk (le n 8++l) aa).n 8=RN.mk (le n 8++l) aa (le n 8).length:=by rw[mE];rfl
 obtain⟨h1,h2,h3⟩:=yKn (le n 8) l
 rw[RB.long,e,h1,h2,h3,yAi]
 obtain⟨ha,hb⟩:=h
 have:ae.wrap (n % 18446744073709551616)=n:=by
  have e:=Cv.wrap_i64 ha hb
  by_cases hn:0≤n
  ·rw[show n % 18446744073709551616=n by omega];exact e
  ·have:n % 18446744073709551616=n+18446744073709551616:=by omega
   rw[this]
   rw[IntKind.wrap]at e ⊢
   simp only[IntKind.wrap,IntKind.bits,IntKind.signed]at e ⊢
   simp at e ⊢
   omega
 rw[this]
theorem yDk {n:Int} (h:0≤n∧n≤255):((lob n).toNat:Int)=n:=by rw[yXr];omega
open Go Cv Go.Proofs
open Go Cv Go.Proofs
open Go Cv Go.Proofs
open Go Cv Go.Proofs
structure MsgM where
 seq:Int
 inst:Int
 side:Int
 price:Int
 qty:Int
 count:Int
 implied:Bool
 deriving DecidableEq
def yXl:MsgM:=⟨0,0,0,0,0,0,aa⟩
def MsgM.raw (m:MsgM):Prop:=yO m.seq∧yO m.price∧yO m.qty∧yO m.count
def MsgM.form (m:MsgM):Int:=if m.inst<0∨255<m.inst∨(m.side≠1∧m.side≠2)then 12 else 0
def MsgM.body (m:MsgM):List UInt8:=le m.seq 8++(lob m.inst::lob m.side::(le m.price 8++(le m.qty 8++(le m.count 8++[lob (if m.implied then 1 else 0)]))))
def MsgM.enc (m:MsgM):List UInt8:=if m.form≠0 then[]else m.body
def zMs (b:List UInt8):MsgM×Int×RB:=
 let s:=(RB.mk b aa).long;let i:=s.2.byte;let d:=i.2.byte;let p:=d.2.long;let q:=p.2.long;let c:=q.2.long;let n:=c.2.byte
 (⟨s.1,i.1,d.1,p.1,q.1,c.1,decide (n.1=1)⟩,n.1,n.2)
def qQ (b:List UInt8):MsgM×Int:=if(zMs b).2.2.endOf≠0∨1<(zMs b).2.1∨((zMs b).1.side≠1∧(zMs b).1.side≠2)then(yXl,12)else((zMs b).1,0)
theorem yEu (m:MsgM):m.body.length=35:=by simp[MsgM.body,mE]
theorem z4e {m:MsgM} (h:m.form=0):(0≤m.inst∧m.inst≤255)∧(m.side=1∨m.side=2):=by
 rw[MsgM.form]at h
 split at h
 ·cases h
 ·omega
theorem z9e {m:MsgM} (h:m.form=0) (hr:m.raw):zMs m.body=(m,if m.implied then 1 else 0,⟨[],aa⟩):=by
 obtain⟨h1,h2,h3,h4⟩:=hr
 obtain⟨f1,f2⟩:=z4e h
 have hn:(0:Int)≤(if m.implied then 1 else 0)∧(if m.implied then 1 else 0)≤(255:Int):=by split<;>omega
 rw[zMs,MsgM.body,zJp h1];dsimp only
 rw[zGf];dsimp only
 rw[zGf];dsimp only
 rw[zJp h2];dsimp only
 rw[zJp h3];dsimp only
 rw[zJp h4];dsimp only
 rw[zGf];dsimp only
 rw[yDk (by omega),yDk (by omega),yDk hn]
 cases m with
 |mk a b c d e f g=>cases g<;>rfl
theorem yHd {m:MsgM} (h:m.form=0) (hr:m.raw):qQ m.enc=(m,0):=by
 have e:m.enc=m.body:=by rw[MsgM.enc,yZx (by simp[h])]
 obtain⟨f1,f2⟩:=z4e h
 rw[qQ,e,z9e h hr,yZx]
 dsimp only
 rintro(g|g|g)
 ·exact g rfl
 ·split at g<;>omega
 ·omega
open Go Cv Go.Proofs
deriving instance DecidableEq for Lv
def fT (s:Int) (L:List Lv):Prop:=L.Pairwise fun a b=>btr s a.price b.price=ab
def lkL (L:List Lv) (p:Int):Option Lv:=L.find? fun l=>decide (l.price=p)
def c8 (s:Int):List Lv→Lv→List Lv
 |[],m=>if 0<m.qty then[m]else[]
 |x::L,m=>if x.price=m.price then(if m.qty=0 then L else m::L)else if btr s m.price x.price=ab then(if 0<m.qty then m::x::L else x::L)else x::c8 s L m
def xK (s:Int):Nat→List Lv→List Lv→List Lv
 |0,_,_=>[]
 |k+1,[],[]=>[]
 |k+1,x::X,[]=>⟨x.price,0,0⟩::xK s k X []
 |k+1,[],y::Y=>y::xK s k [] Y
 |k+1,x::X,y::Y=>if btr s x.price y.price=ab then⟨x.price,0,0⟩::xK s k X (y::Y)else if btr s y.price x.price=ab then y::xK s k (x::X) Y else(if x=y then[]else[y])++xK s k X Y
theorem pL {s x y z:Int} (h:btr s x y=ab) (h2:btr s y z=ab):btr s x z=ab:=by
 rw[btr]at h h2 ⊢
 split
 ·rename_i e;rw[yZy e]at h h2;have:=y2j h;have:=y2j h2;exact y0n (by omega)
 ·rename_i e;rw[yZx e]at h h2;have:=y2j h;have:=y2j h2;exact y0n (by omega)
theorem dW {s x y:Int} (h:btr s x y=ab):x≠y:=by
 rintro rfl
 rw[btr]at h
 split at h<;>simp at h
theorem zJi {s x y:Int} (h:btr s x y=aa) (hne:x≠y):btr s y x=ab:=by
 rw[btr]at h ⊢
 split
 ·rename_i e;rw[yZy e]at h;have:=y4u h;exact y0n (by omega)
 ·rename_i e;rw[yZx e]at h;have:=y4u h;exact y0n (by omega)
theorem pX {s p:Int} {L:List Lv} (h:∀l∈L,btr s p l.price=ab):lkL L p=none:=by
 rw[lkL,List.find?_eq_none]
 intro l hl
 have:=dW (h l hl)
 simp;omega
theorem qE (x:Lv) (L:List Lv) (p:Int):lkL (x::L) p=if x.price=p then some x else lkL L p:=by
 rw[lkL,y6f,lkL]
 by_cases h:x.price=p<;>simp[h]
theorem z2c {s:Int} {m:Lv}:∀{L:List Lv} {l:Lv},l∈c8 s L m→l=m∨l∈L
 |[],l,h=>by
  rw[c8]at h
  split at h
  ·exact .inl (y1k.1 h)
  ·cases h
 |x::L,l,h=>by
  rw[c8]at h
  split at h
  ·split at h
   ·exact .inr (y0c _ h)
   ·rcases y0m.1 h with h|h
    ·exact .inl h
    ·exact .inr (y0c _ h)
  split at h
  ·split at h
   ·rcases y0m.1 h with h|h
    ·exact .inl h
    ·exact .inr h
   ·exact .inr h
  ·rcases y0m.1 h with h|h
   ·exact .inr (h▸y0d)
   ·rcases z2c h with h|h
    ·exact .inl h
    ·exact .inr (y0c _ h)
theorem zJm {s:Int} {m:Lv}:∀{L:List Lv},fT s L→fT s (c8 s L m)
 |[],_=>by
  rw[c8];split
  ·exact List.pairwise_singleton _ _
  ·exact List.Pairwise.nil
 |x::L,h=>by
  have h':=h
  rw[fT,y1w]at h
  rw[c8]
  split
  ·rename_i e
   split
   ·exact h.2
   ·exact y1w.2 ⟨fun l hl=>by rw[← e];exact h.1 l hl,h.2⟩
  rename_i hne
  split
  ·rename_i hb
   split
   ·refine y1w.2 ⟨fun l hl=> ?_,h'⟩
    rcases y0m.1 hl with rfl|hl
    ·exact hb
    ·exact pL hb (h.1 l hl)
   ·exact h'
  ·rename_i hb
   refine y1w.2 ⟨fun l hl=> ?_,zJm h.2⟩
   rcases z2c hl with rfl|hl
   ·exact zJi (by simpa using hb) (fun e=>hne e.symm)
   ·exact h.1 l hl
theorem z0o {s:Int} {m:Lv} (hm:0≤m.qty):∀{L:List Lv},fT s L→∀p,lkL (c8 s L m) p=if p=m.price then(if m.qty=0 then none else some m)else lkL L p
 |[],_,p=>by
  rw[c8]
  by_cases h0:m.qty=0
  ·rw[yZx (by omega),yZy h0];split<;>rfl
  ·rw[yZy (by omega),yZx h0,qE]
   by_cases e:m.price=p
   ·rw[yZy e,yZy e.symm]
   ·rw[yZx e,yZx (fun h=>e h.symm)]
 |x::L,h,p=>by
  have h':=h
  rw[fT,y1w]at h
  rw[c8]
  by_cases hx:x.price=m.price
  ·rw[yZy hx]
   have hn:lkL L m.price=none:=pX (s:=s) fun l hl=>by rw[← hx];exact h.1 l hl
   by_cases h0:m.qty=0
   ·rw[yZy h0,yZy h0,qE]
    by_cases e:p=m.price
    ·rw[yZy e,e,hn]
    ·rw[yZx e,yZx (by omega)]
   ·rw[yZx h0,yZx h0,qE,qE]
    by_cases e:p=m.price
    ·rw[yZy e,yZy e.symm]
    ·rw[yZx e,yZx (fun h=>e h.symm),yZx (by omega)]
  rw[yZx hx]
  by_cases hb:btr s m.price x.price=ab
  ·rw[yZy hb]
   have hn:lkL (x::L) m.price=none:=pX (s:=s) fun l hl=>by
    rcases y0m.1 hl with rfl|hl
    ·exact hb
    ·exact pL hb (h.1 l hl)
   by_cases h0:m.qty=0
   ·rw[yZx (by omega),yZy h0]
    by_cases e:p=m.price
    ·rw[yZy e,e,hn]
    ·rw[yZx e]
   ·rw[yZy (by omega),yZx h0,qE]
    by_cases e:p=m.price
    ·rw[yZy e,yZy e.symm]
    ·rw[yZx e,yZx (fun h=>e h.symm)]
  ·rw[yZx hb,qE,qE,z0o hm h.2 p]
   by_cases e:x.price=p
   ·rw[yZy e,yZy e,yZx (by omega)]
   ·rw[yZx e,yZx e]
theorem yBe {s:Int}:∀{A B:List Lv},fT s A→fT s B→(∀p,lkL A p=lkL B p)→A=B
 |[],[],_,_,_=>rfl
 |[],b::B,_,_,h=>by have:=h b.price;rw[qE,yZy rfl]at this;cases this
 |a::A,[],_,_,h=>by have:=h a.price;rw[qE,yZy rfl]at this;cases this
 |a::A,b::B,hA,hB,h=>by
  rw[fT,y1w]at hA hB
  have key:a.price=b.price:=by
   by_cases e:a.price=b.price
   ·exact e
   ·exfalso
    by_cases hb:btr s a.price b.price=ab
    ·have:=h a.price
     rw[qE,yZy rfl,pX (s:=s) fun l hl=>by
      rcases y0m.1 hl with rfl|hl
      ·exact hb
      ·exact pL hb (hB.1 l hl)]at this
     cases this
    ·have hb:=zJi (by simpa using hb) e
     have:=h b.price
     rw[qE (x:=b),yZy rfl,pX (s:=s) fun l hl=>by
      rcases y0m.1 hl with rfl|hl
      ·exact hb
      ·exact pL hb (hA.1 l hl)]at this
     cases this
  have hab:a=b:=by
   have:=h a.price
   rw[qE,yZy rfl,qE,yZy key.symm]at this
   exact Option.some.inj this
  subst hab
  rw[yBe hA.2 hB.2 fun p=> ?_]
  have:=h p
  rw[qE,qE]at this
  by_cases e:a.price=p
  ·rw[← e,pX (s:=s) hA.1,pX (s:=s) hB.1]
  ·rwa [yZx e,yZx e]at this
open Go Cv Go.Proofs
theorem dY {s:Int}:∀(k:Nat) (X Y:List Lv),∀m∈xK s k X Y,m.price∈X.map (·.price)∨m.price∈Y.map (·.price)
 |0,_,_,m,h=>by cases h
 |k+1,[],[],m,h=>by cases h
 |k+1,x::X,[],m,h=>by
  rw[xK]at h
  rcases y0m.1 h with rfl|h
  ·exact .inl y0d
  ·rcases dY k X [] m h with h|h
   ·exact .inl (y0c _ h)
   ·exact .inr h
 |k+1,[],y::Y,m,h=>by
  rw[xK]at h
  rcases y0m.1 h with rfl|h
  ·exact .inr y0d
  ·rcases dY k [] Y m h with h|h
   ·exact .inl h
   ·exact .inr (y0c _ h)
 |k+1,x::X,y::Y,m,h=>by
  rw[xK]at h
  split at h
  ·rcases y0m.1 h with rfl|h
   ·exact .inl y0d
   ·rcases dY k X (y::Y) m h with h|h
    ·exact .inl (y0c _ h)
    ·exact .inr h
  split at h
  ·rcases y0m.1 h with rfl|h
   ·exact .inr y0d
   ·rcases dY k (x::X) Y m h with h|h
    ·exact .inl h
    ·exact .inr (y0c _ h)
  ·rcases y0u.1 h with h|h
   ·split at h
    ·cases h
    ·rw[y1k]at h;subst h;exact .inr y0d
   ·rcases dY k X Y m h with h|h
    ·exact .inl (y0c _ h)
    ·exact .inr (y0c _ h)
def tgt (m:Lv):Option Lv:=if m.qty=0 then none else some m
structure DifOk (M A B:List Lv):Prop where
 q:∀m∈M,0≤m.qty
 t:∀m∈M,tgt m=lkL B m.price
 n:(M.map (·.price)).Nodup
 e:∀p,p∉M.map (·.price)→lkL A p=lkL B p
def yCz (L:List Lv):Prop:=∀l∈L,1≤l.qty
theorem zTg {m:Lv} (h:1≤m.qty):tgt m=some m:=by rw[tgt,yZx (by omega)]
theorem DifOk.cons {M A B:List Lv} {m:Lv} {A' B':List Lv} (h:DifOk M A B) (hq:0≤m.qty) (ht:tgt m=lkL B' m.price) (hn:m.price∉M.map (·.price))
 (hA:∀p,p≠m.price→lkL A' p=lkL A p) (hB:∀p,p≠m.price→lkL B' p=lkL B p):DifOk (m::M) A' B':=by
 refine⟨fun x hx=> ?_,fun x hx=> ?_,?_,fun p hp=> ?_⟩
 ·rcases y0m.1 hx with rfl|hx
  ·exact hq
  ·exact h.q x hx
 ·rcases y0m.1 hx with rfl|hx
  ·exact ht
  ·rw[hB _ fun e=>hn (e▸y1d hx)];exact h.t x hx
 ·rw[y0l,y2l];exact⟨hn,h.n⟩
 ·rw[y0l,y0m,not_or]at hp
  rw[hA p hp.1,hB p hp.1];exact h.e p hp.2
theorem cR {x:Lv} {L:List Lv} {p:Int} (h:p≠x.price):lkL (x::L) p=lkL L p:=by rw[qE,yZx fun e=>h e.symm]
theorem eR {s:Int}:∀(k:Nat) (X Y:List Lv),X.length+Y.length≤k→fT s X→fT s Y→yCz Y→DifOk (xK s k X Y) X Y
 |0,x::X,_,h,_,_,_=>absurd h (by simp)
 |0,[],y::Y,h,_,_,_=>absurd h (by simp)
 |0,[],[],_,_,_,_=>⟨fun _ h=>(y3z h).elim,fun _ h=>(y3z h).elim,aj,fun _ _=>rfl⟩
 |k+1,[],[],_,_,_,_=>⟨fun _ h=>(y3z h).elim,fun _ h=>(y3z h).elim,aj,fun _ _=>rfl⟩
 |k+1,x::X,[],hk,hX,hY,hp=>by
  have hX':=hX
  rw[fT,y1w]at hX
  have ih:=eR (s:=s) k X [] (by simp at hk ⊢;omega) hX.2 hY hp
  rw[xK]
  refine ih.cons (y3p _) rfl (fun h=> ?_) (fun p h=>cR h) fun _ _=>rfl
  obtain⟨m,hm,e⟩:=y1a.1 h
  rcases dY k X [] m hm with h|h
  ·obtain⟨l,hl,e2⟩:=y1a.1 h
   exact dW (hX.1 l hl) (by rw[e2,e])
  ·cases h
 |k+1,[],y::Y,hk,hX,hY,hp=>by
  rw[fT,y1w]at hY
  have ih:=eR (s:=s) k [] Y (by simp at hk ⊢;omega) hX hY.2 fun l hl=>hp l (y0c _ hl)
  have hy:=hp y y0d
  rw[xK]
  refine ih.cons (by omega) (by rw[zTg hy,qE,yZy rfl]) (fun h=> ?_) (fun _ _=>rfl) fun p h=>cR h
  obtain⟨m,hm,e⟩:=y1a.1 h
  rcases dY k [] Y m hm with h|h
  ·cases h
  ·obtain⟨l,hl,e2⟩:=y1a.1 h
   exact dW (hY.1 l hl) (by rw[e2,e])
 |k+1,x::X,y::Y,hk,hX,hY,hp=>by
  have hX':=hX
  have hY':=hY
  rw[fT,y1w]at hX hY
  have hpY:yCz Y:=fun l hl=>hp l (y0c _ hl)
  have hy:=hp y y0d
  simp only[y0f]at hk
  rw[xK]
  by_cases h1:btr s x.price y.price=ab
  ·rw[yZy h1]
   have hb:∀l∈y::Y,btr s x.price l.price=ab:=fun l hl=>by
    rcases y0m.1 hl with rfl|hl
    ·exact h1
    ·exact pL h1 (hY.1 l hl)
   have ih:=eR (s:=s) k X (y::Y) (by rw[y0f];omega) hX.2 hY' hp
   refine ih.cons (y3p _) ?_ (fun h=> ?_) (fun p h=>cR h) fun _ _=>rfl
   ·exact(pX hb).symm
   ·obtain⟨m,hm,e⟩:=y1a.1 h
    rcases dY k X (y::Y) m hm with h|h
    ·obtain⟨l,hl,e2⟩:=y1a.1 h
     exact dW (hX.1 l hl) (by rw[e2,e])
    ·obtain⟨l,hl,e2⟩:=y1a.1 h
     exact dW (hb l hl) (by rw[e2,e])
  rw[yZx h1]
  by_cases h2:btr s y.price x.price=ab
  ·rw[yZy h2]
   have hb:∀l∈x::X,btr s y.price l.price=ab:=fun l hl=>by
    rcases y0m.1 hl with rfl|hl
    ·exact h2
    ·exact pL h2 (hX.1 l hl)
   have ih:=eR (s:=s) k (x::X) Y (by rw[y0f];omega) hX' hY.2 hpY
   refine ih.cons (by omega) (by rw[zTg hy,qE,yZy rfl]) (fun h=> ?_) (fun _ _=>rfl) fun p h=>cR h
   obtain⟨m,hm,e⟩:=y1a.1 h
   rcases dY k (x::X) Y m hm with h|h
   ·obtain⟨l,hl,e2⟩:=y1a.1 h
    exact dW (hb l hl) (by rw[e2,e])
   ·obtain⟨l,hl,e2⟩:=y1a.1 h
    exact dW (hY.1 l hl) (by rw[e2,e])
  rw[yZx h2]
  have he:x.price=y.price:=by
   by_cases e:x.price=y.price
   ·exact e
   ·exact absurd (zJi (by simpa using h1) e) h2
  have ih:=eR (s:=s) k X Y (by omega) hX.2 hY.2 hpY
  have hno:y.price∉(xK s k X Y).map (·.price):=fun h=>by
   obtain⟨m,hm,e⟩:=y1a.1 h
   rcases dY k X Y m hm with h|h
   ·obtain⟨l,hl,e2⟩:=y1a.1 h
    exact dW (hX.1 l hl) (by rw[e2,e,he])
   ·obtain⟨l,hl,e2⟩:=y1a.1 h
    exact dW (hY.1 l hl) (by rw[e2,e])
  by_cases e:x=y
  ·rw[yZy e,y2e]
   subst e
   refine⟨ih.q,fun m hm=> ?_,ih.n,fun p hpn=> ?_⟩
   ·rw[cR fun e=>hno (e▸y1d hm)];exact ih.t m hm
   ·by_cases ep:p=x.price
    ·rw[ep,qE,yZy rfl,qE,yZy rfl]
    ·rw[cR ep,cR ep];exact ih.e p hpn
  ·rw[yZx e,List.singleton_append]
   exact ih.cons (by omega) (by rw[zTg hy,qE,yZy rfl]) hno (fun p h=>cR (by rw[he];exact h)) fun p h=>cR h
theorem z2x {s:Int}:∀(M:List Lv) {L:List Lv},fT s L→(∀m∈M,0≤m.qty)→(M.map (·.price)).Nodup→
 fT s (M.foldl (c8 s) L)∧(∀m∈M,lkL (M.foldl (c8 s) L) m.price=tgt m)∧∀p,p∉M.map (·.price)→lkL (M.foldl (c8 s) L) p=lkL L p
 |[],L,h,_,_=>⟨h,fun _ hm=>(y3z hm).elim,fun _ _=>rfl⟩
 |m::M,L,h,hq,hn=>by
  rw[y0l,y2l]at hn
  have h0:=hq m y0d
  obtain⟨a,b,c⟩:=z2x M (L:=c8 s L m) (zJm h) (fun x hx=>hq x (y0c _ hx)) hn.2
  rw[y2u]
  refine⟨a,fun x hx=> ?_,fun p hp=> ?_⟩
  ·rcases y0m.1 hx with rfl|hx
   ·rw[c _ hn.1,z0o h0 h,yZy rfl];rfl
   ·exact b x hx
  ·rw[y0l,y0m,not_or]at hp
   rw[c p hp.2,z0o h0 h,yZx hp.1]
theorem zZh {s:Int} {A B M:List Lv} (hA:fT s A) (hB:fT s B) (hp:yCz B) {k:Nat} (hk:A.length+B.length≤k) (hM:M.Perm (xK s k A B)):M.foldl (c8 s) A=B:=by
 have d:=eR (s:=s) k A B hk hA hB hp
 have hpm:=hM.map (·.price)
 obtain⟨a,b,c⟩:=z2x (s:=s) M hA (fun m hm=>d.q m (hM.mem_iff.1 hm)) (hpm.nodup_iff.2 d.n)
 refine yBe a hB fun p=> ?_
 by_cases h:p∈M.map (·.price)
 ·obtain⟨m,hm,rfl⟩:=y1a.1 h
  rw[b m hm];exact d.t m (hM.mem_iff.1 hm)
 ·rw[c p h];exact d.e p fun h2=>h (hpm.mem_iff.2 h2)
theorem zQc {s:Int}:∀(k:Nat) (A:List Lv),xK s k A A=[]
 |0,_=>rfl
 |k+1,[]=>rfl
 |k+1,x::A=>by
  rw[xK]
  have:btr s x.price x.price=aa:=by rw[btr];split<;>simp
  rw[yZx (by rw[this];decide),yZx (by rw[this];decide),yZy rfl,zQc k A];rfl
open Go Cv Go.Proofs
def jS (s:Int) (L:List Lv) (m:Lv):List Lv:=match L.findIdx? fun y=>decide (y.price=m.price)with
 |some n=>if m.qty=0 then L.eraseIdx n else L.set n m
 |none=>if 0<m.qty then L.take ((L.findIdx? fun y=>btr s m.price y.price).getD L.length)++m::L.drop ((L.findIdx? fun y=>btr s m.price y.price).getD L.length)else L
theorem zQl {s:Int} {m:Lv} (hq:0≤m.qty):∀{L:List Lv},fT s L→jS s L m=c8 s L m
 |[],_=>by
  rw[jS,c8,List.findIdx?_nil]
  dsimp only
  split<;>rfl
 |x::L,h=>by
  rw[fT,y1w]at h
  have ih:=zQl hq h.2
  rw[c8]
  by_cases hx:x.price=m.price
  ·rw[yZy hx,jS,y4j,yZy (by simp[hx])]
   dsimp only
   split<;>rfl
  rw[yZx hx]
  by_cases hb:btr s m.price x.price=ab
  ·have hn:(x::L).findIdx? (fun y=>decide (y.price=m.price))=none:=by
    rw[y4g]
    intro l hl
    rcases y0m.1 hl with rfl|hl
    ·exact y0k hx
    ·have:=dW (pL hb (h.1 l hl))
     exact y0k fun e=>this e.symm
   rw[yZy hb,jS,hn]
   dsimp only
   rw[y4j,yZy hb]
   rfl
  ·have e1:(x::L).findIdx? (fun y=>decide (y.price=m.price))=(L.findIdx? fun y=>decide (y.price=m.price)).map (·+1):=by
    rw[y4j,yZx (by simp[hx])]
   have e2:(x::L).findIdx? (fun y=>btr s m.price y.price)=(L.findIdx? fun y=>btr s m.price y.price).map (·+1):=by
    rw[y4j,yZx hb]
   rw[yZx hb,← ih,jS,jS,e1,e2]
   cases L.findIdx? (fun y=>decide (y.price=m.price))with
   |some n=>
    dsimp only[Option.map]
    split<;>rfl
   |none=>
    dsimp only[Option.map]
    split
    ·cases L.findIdx? (fun y=>btr s m.price y.price)<;>rfl
    ·rfl
open Go Cv Go.Proofs
open Go Cv Go.Proofs
open Classical
def Lv.fit (x:Lv):Prop:=yO x.price∧yO x.qty∧yO x.count
def Sd.fit (s:Sd):Prop:=(∀x∈s.levels,x.fit)∧s.imp.fit
def yUh (v:Vw):Prop:=∀b∈v,b.1.fit∧b.2.fit
open Go Cv Go.Proofs
structure VM where
 inst:Nat
 side:Int
 l:Lv
 imp:Bool
def lv0:Lv:=⟨0,0,0⟩
def jX (s:Int) (x:Sd) (m:VM):Sd:=if m.imp=ab then(if 0<m.l.qty then⟨x.levels,m.l,ab⟩else⟨x.levels,lv0,aa⟩)else⟨c8 s x.levels m.l,x.imp,x.has⟩
def zSb (a b:Sd):Bool:=decide (a.imp≠b.imp)||decide (a.has≠b.has)
def zBa (b:Sd):Lv:=if b.has=ab then b.imp else lv0
def xE (n:Nat) (s:Int) (a b:Sd):List VM:=(xK s (a.levels.length+b.levels.length) a.levels b.levels).map (fun l=>⟨n,s,l,aa⟩)++if zSb a b=ab then[⟨n,s,zBa b,ab⟩]else[]
def yMb (s:Int) (x:Sd):Prop:=fT s x.levels∧yCz x.levels∧(x.has=ab→1≤x.imp.qty)∧(x.has=aa→x.imp=lv0)
theorem z5v {s:Int}:∀(M:List VM) (x:Sd),(M.foldl (jX s) x).levels=((M.filter fun m=> !m.imp).map (·.l)).foldl (c8 s) x.levels
 |[],_=>rfl
 |m::M,x=>by
  rw[y2u,z5v M,y3y]
  cases h:m.imp with
  |true=>
   rw[yZx (by simp),jX,yZy h]
   split<;>rfl
  |false=>
   rw[yZy (show(!false)=ab from rfl),jX,yZx (by simp[h])]
   rfl
theorem z2j {s:Int} {l:Lv} {n:Nat}:∀(M:List VM) (x:Sd),(M.filter (·.imp))=[⟨n,s,l,ab⟩]→(M.foldl (jX s) x).imp=(if 0<l.qty then l else lv0)∧(M.foldl (jX s) x).has=decide (0<l.qty)
 |[],_,h=>by cases h
 |m::M,x,h=>by
  rw[y2u]
  rw[y3y]at h
  cases hm:m.imp with
  |true=>
   rw[yZy hm]at h
   have h1:=(List.cons.inj h).1
   have h2:=(List.cons.inj h).2
   have keep:∀(M:List VM) (x:Sd),M.filter (·.imp)=[]→(M.foldl (jX s) x).imp=x.imp∧(M.foldl (jX s) x).has=x.has:=by
    intro M
    induction M with
    |nil=>intro x _;exact⟨rfl,rfl⟩
    |cons y M ih=>
     intro x hy
     rw[y3y]at hy
     cases hi:y.imp with
     |true=>rw[yZy hi]at hy;cases hy
     |false=>
      rw[yZx (by simp[hi])]at hy
      rw[y2u,(ih _ hy).1,(ih _ hy).2,jX,yZx (by simp[hi])]
      exact⟨rfl,rfl⟩
   rw[(keep M _ h2).1,(keep M _ h2).2,h1,jX,yZy rfl]
   by_cases c:0<l.qty
   ·rw[yZy c,yZy c,y0n c];exact⟨rfl,rfl⟩
   ·rw[yZx c,yZx c,y0k c];exact⟨rfl,rfl⟩
  |false=>
   rw[yZx (by simp[hm])]at h
   exact z2j M _ h
theorem zKx {s:Int}:∀(M:List VM) (x:Sd),M.filter (·.imp)=[]→(M.foldl (jX s) x).imp=x.imp∧(M.foldl (jX s) x).has=x.has
 |[],_,_=>⟨rfl,rfl⟩
 |y::M,x,hy=>by
  rw[y3y]at hy
  cases hi:y.imp with
  |true=>rw[yZy hi]at hy;cases hy
  |false=>
   rw[yZx (by simp[hi])]at hy
   rw[y2u,(zKx M _ hy).1,(zKx M _ hy).2,jX,yZx (by simp[hi])]
   exact⟨rfl,rfl⟩
theorem zXx {n:Nat} {s:Int} {a b:Sd} (ha:yMb s a) (hb:yMb s b) {M:List VM} (hM:M.Perm (xE n s a b)):M.foldl (jX s) a=b:=by
 have hl:(M.foldl (jX s) a).levels=b.levels:=by
  rw[z5v]
  refine zZh ha.1 hb.1 hb.2.1 (y1f _) ?_
  have:=(hM.filter fun m=> !m.imp).map (·.l)
  refine this.trans (List.Perm.of_eq ?_)
  rw[xE,y2w,ag]
  have e:(if zSb a b=ab then[(⟨n,s,zBa b,ab⟩:VM)]else[]).filter (fun m=> !m.imp)=[]:=by split<;>rfl
  rw[e,y0v,y2o]
  have e2:(xK s (a.levels.length+b.levels.length) a.levels b.levels).filter ((fun m:VM=> !m.imp)∘fun l=>⟨n,s,l,aa⟩)=xK s (a.levels.length+b.levels.length) a.levels b.levels:=y3u.2 fun _ _=>rfl
  rw[e2]
  exact List.map_id _
 have hi:(M.foldl (jX s) a).imp=b.imp∧(M.foldl (jX s) a).has=b.has:=by
  have hf:=hM.filter (·.imp)
  have e0:(xE n s a b).filter (·.imp)=if zSb a b=ab then[⟨n,s,zBa b,ab⟩]else[]:=by
   rw[xE,y2w,ag]
   have e2:(xK s (a.levels.length+b.levels.length) a.levels b.levels).filter ((fun m:VM=>m.imp)∘fun l=>⟨n,s,l,aa⟩)=[]:=y3t.2 fun _ _=>by simp
   rw[e2,y3r,y2e]
   split<;>rfl
  rw[e0]at hf
  by_cases c:zSb a b=ab
  ·rw[yZy c]at hf
   have hf:=List.perm_singleton.1 hf
   obtain⟨x1,x2⟩:=z2j M a hf
   rw[x1,x2,zBa]
   cases hh:b.has with
   |true=>
    have:=hb.2.2.1 hh
    rw[yZy rfl,yZy (by omega),y0n (by omega)];exact⟨rfl,rfl⟩
   |false=>
    rw[hb.2.2.2 hh];exact⟨rfl,rfl⟩
  ·rw[yZx c]at hf
   obtain⟨x1,x2⟩:=zKx M a (List.perm_nil.1 hf)
   rw[zSb,y5z,y1z,y1z,not_or]at c
   rw[x1,x2]
   exact⟨Decidable.not_not.1 c.1,Decidable.not_not.1 c.2⟩
 generalize M.foldl (jX s) a=x at hl hi
 cases x;cases b
 simp only at hl hi
 rw[hl,hi.1,hi.2]
theorem z5m (n:Nat) (s:Int) (a:Sd):xE n s a a=[]:=by
 rw[xE,zQc];simp[zSb]
open Go Cv Go.Proofs
def cB (p:Sd×Sd) (m:VM):Sd×Sd:=if m.side=1 then(jX 1 p.1 m,p.2)else(p.1,jX 2 p.2 m)
def dA (v:Vw) (m:VM):Vw:=v.modify m.inst fun p=>cB p m
def yN (n:Nat):Vw→Vw→List VM
 |a::A,b::B=>xE n 1 a.1 b.1++xE n 2 a.2 b.2++yN (n+1) A B
 |_,_=>[]
def z8e (v:Vw):Prop:=∀p∈v,yMb 1 p.1∧yMb 2 p.2
theorem yHt (v:Vw) (m:VM):(dA v m).length=v.length:=List.length_modify _ _ _
theorem zVx:∀(M:List VM) (v:Vw) (i:Nat),(M.foldl dA v)[i]? =v[i]?.map fun p=>(M.filter fun m=>decide (m.inst=i)).foldl cB p
 |[],v,i=>by simp
 |m::M,v,i=>by
  rw[y2u,zVx M,dA,y3j,y3y]
  by_cases h:m.inst=i
  ·cases v[i]? <;>simp[h]
  ·cases v[i]? <;>simp[h]
theorem zPd:∀(M:List VM) (p:Sd×Sd),M.foldl cB p=((M.filter fun m=>decide (m.side=1)).foldl (jX 1) p.1,(M.filter fun m=> !decide (m.side=1)).foldl (jX 2) p.2)
 |[],_=>rfl
 |m::M,p=>by
  rw[y2u,zPd M,cB,y3y,y3y]
  by_cases h:m.side=1
  ·rw[yZy h,yZy (by simp[h]),yZx (by simp[h])];rfl
  ·rw[yZx h,yZx (by simp[h]),yZy (by simp[h])];rfl
theorem mA {n:Nat} {s:Int} {a b:Sd}:∀m∈xE n s a b,m.inst=n∧m.side=s:=by
 intro m hm
 rw[xE,y0u]at hm
 rcases hm with hm|hm
 ·obtain⟨l,_,rfl⟩:=y1a.1 hm;exact⟨rfl,rfl⟩
 ·split at hm
  ·rw[y1k]at hm;subst hm;exact⟨rfl,rfl⟩
  ·cases hm
theorem yMz:∀{n:Nat} {A B:Vw},∀m∈yN n A B,n≤m.inst
 |n,[],_,m,h=>by rw[yN]at h<;>first|cases h|simp
 |n,a::A,[],m,h=>by rw[yN]at h<;>first|cases h|simp
 |n,a::A,b::B,m,h=>by
  rw[yN,y0u,y0u]at h
  rcases h with(h|h)|h
  ·exact Nat.le_of_eq (mA m h).1.symm
  ·exact Nat.le_of_eq (mA m h).1.symm
  ·have:=yMz m h;omega
theorem z9y:∀{n:Nat} {A B:Vw} {i:Nat} {a b:Sd×Sd},A[i]? =some a→B[i]? =some b→(yN n A B).filter (fun m=>decide (m.inst=n+i))=xE (n+i) 1 a.1 b.1++xE (n+i) 2 a.2 b.2
 |n,[],_,i,a,b,h,_=>by cases h
 |n,x::A,[],i,a,b,_,h=>by cases h
 |n,x::A,y::B,0,a,b,h,h2=>by
  cases h;cases h2
  rw[yN,y2w]
  have e1:(yN (n+1) A B).filter (fun m=>decide (m.inst=n+0))=[]:=y3t.2 fun m hm=>by
   have:=yMz m hm
   simp;omega
  rw[e1,y0v]
  refine y3u.2 fun m hm=> ?_
  rcases y0u.1 hm with hm|hm
  ·exact y0n (mA m hm).1
  ·exact y0n (mA m hm).1
 |n,x::A,y::B,i+1,a,b,h,h2=>by
  have ih:=z9y (n:=n+1) (A:=A) (B:=B) (i:=i) (a:=a) (b:=b) h h2
  rw[yN,y2w]
  have e1:(xE n 1 x.1 y.1++xE n 2 x.2 y.2).filter (fun m=>decide (m.inst=n+(i+1)))=[]:=y3t.2 fun m hm=>by
   rcases y0u.1 hm with hm|hm
   ·have:=(mA m hm).1;simp;omega
   ·have:=(mA m hm).1;simp;omega
  rw[e1,y2e,show n+(i+1)=n+1+i by omega]
  exact ih
theorem zKg {A B:Vw} (hl:A.length=B.length) (hA:z8e A) (hB:z8e B) {M:List VM} (hM:M.Perm (yN 0 A B)):M.foldl dA A=B:=by
 refine y3a fun i=> ?_
 rw[zVx]
 cases hi:A[i]? with
 |none=>
  have:=y5p.1 hi
  rw[y1e (by omega)];rfl
 |some a=>
  have hlt:=(yZz.1 hi).1
  obtain⟨b,hb⟩:∃b,B[i]? =some b:=⟨_,y1g (by omega)⟩
  obtain⟨a1,a2⟩:=hA a (y0g hi)
  obtain⟨b1,b2⟩:=hB b (y0g hb)
  have hf:=hM.filter fun m=>decide (m.inst=i)
  have hv:=z9y (n:=0) hi hb
  rw[y0w]at hv
  rw[hv]at hf
  have h1:((M.filter fun m=>decide (m.inst=i)).filter fun m=>decide (m.side=1)).Perm (xE i 1 a.1 b.1):=by
   refine(hf.filter _).trans (List.Perm.of_eq ?_)
   rw[y2w,y3u.2 fun m hm=>y0n (mA m hm).2,y3t.2 fun m hm=>by rw[(mA m hm).2];decide,y0v]
  have h2:((M.filter fun m=>decide (m.inst=i)).filter fun m=> !decide (m.side=1)).Perm (xE i 2 a.2 b.2):=by
   refine(hf.filter _).trans (List.Perm.of_eq ?_)
   rw[y2w,y3t.2 fun m hm=>by rw[(mA m hm).2];decide,y3u.2 fun m hm=>by rw[(mA m hm).2];decide,y2e]
  rw[hb,y1y,zPd,zXx a1 b1 h1,zXx a2 b2 h2]
theorem zJl:∀(n:Nat) (A:Vw),yN n A A=[]
 |_,[]=>rfl
 |n,a::A=>by rw[yN,z5m,z5m,zJl];rfl
theorem yLw {A B:Vw} (hl:A.length=B.length) (hA:z8e A) (hB:z8e B):yN 0 A B=[]↔A=B:=
 ⟨fun h=>zKg (M:=[]) hl hA hB (by rw[h]),fun h=>by rw[h];exact zJl 0 B⟩
open Go Cv Go.Proofs
end Sx
