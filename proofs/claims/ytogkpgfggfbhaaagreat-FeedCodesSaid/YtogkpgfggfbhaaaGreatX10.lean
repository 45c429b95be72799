/- Texts of ours, one behind the other: a walk that the kernel reckons, and contracts of functions. No condition. -/
import Derived.Test.YtogkpgfggfbhaaaGreatX9
namespace Sx
set_option linter.unusedVariables false
set_option linter.unusedSimpArgs false
set_option maxRecDepth 100000
open Go Cv Go.Proofs
theorem yHp (k:Nat):∀n:Int,le (n % 256 ^ k) k=le n k:=by
 induction k with
 |zero=>intro n;rfl
 |succ k ih=>
  intro n
  have hp:(0:Int)<256 ^ k:=Int.pow_pos (by omega)
  have h1:lob (n % 256 ^ (k+1))=lob n:=by
   unfold lob
   rw[yTo,yTp,Int.emod_emod_of_dvd n ⟨256 ^ k,rfl⟩]
  have h2:n % 256 ^ (k+1) / 256=n / 256 % 256 ^ k:=by
   have e:n=256*(n / 256)+n % 256:=(Int.mul_ediv_add_emod n 256).symm
   have e2:n / 256=256 ^ k*(n / 256 / 256 ^ k)+n / 256 % 256 ^ k:=(Int.mul_ediv_add_emod _ _).symm
   have hr:=Int.emod_nonneg (n / 256) (show(256:Int) ^ k≠0 by omega)
   have hr2:=Int.emod_lt_of_pos (n / 256) hp
   have e3:n % 256 ^ (k+1)=256*(n / 256 % 256 ^ k)+n % 256:=by
    have:n=256 ^ (k+1)*(n / 256 / 256 ^ k)+(256*(n / 256 % 256 ^ k)+n % 256):=by
     rw[yTo,yTp (256 ^ k) 256,Int.mul_assoc,← Int.add_assoc,← Int.mul_add,← e2]
     exact e
    conv=>lhs;rw[this]
    rw[Int.add_comm,yTt,Int.emod_eq_of_lt]
    ·omega
    ·rw[yTo];omega
   rw[e3]
   omega
  rw[le,le,h1,h2,ih]
theorem zZx (n:Int):le (IntKind.u64.wrap n) 8=le n 8:=yHp 8 n
theorem zUm (n:Int):lob (IntKind.u64.wrap n)=lob n:=by
 have:IntKind.u64.wrap n=n % 18446744073709551616:=rfl
 unfold lob
 rw[this,Int.emod_emod_of_dvd n ⟨72057594037927936,by decide⟩]
theorem rN (n:Int):0≤IntKind.u64.wrap n∧IntKind.u64.wrap n<18446744073709551616:=by
 have:IntKind.u64.wrap n=n % 18446744073709551616:=rfl
 rw[this];omega
theorem yLr (i:WN) (h:byteC.cnd i):yDu i:=by
 unfold yDu
 have h:i.l.length+8≤1099511627776:=h
 exact⟨⟨i.l,IntKind.u64.wrap i.n,1⟩,rfl,rfl,rfl,⟨(rN _).1,(rN _).2,by dsimp only;omega⟩,fun _ _=>⟨(),by simp only[le,zUm],trivial⟩⟩
theorem yKb (i:WN) (h:longC.cnd i):yCx i:=by
 unfold yCx
 have h:i.l.length+8≤1099511627776:=h
 exact⟨⟨i.l,IntKind.u64.wrap i.n,8⟩,rfl,rfl,rfl,⟨(rN _).1,(rN _).2,by dsimp only;omega⟩,fun _ _=>⟨(),by simp only[zZx],trivial⟩⟩
theorem yBk:byteC.ok Tryz.prog 80:=okw mixed (gokc z7v gok0) 0 (fun _=>[]) (fun _=>[]) [] Tryz.func80 yLr
theorem yBi:longC.ok Tryz.prog 79:=okw mixed (gokc z7v gok0) 0 (fun _=>[]) (fun _=>[]) [] Tryz.func79 yKb
theorem zUx:cloneBO.ok Tryz.prog 127:=z0c gok0 fun i h=>fun b hb=>
 Cv.cnd.mk (fun e=>⟨(),rfl,hb e,trivial⟩) (fun _=>⟨by rw[yPr];exact h,(),rfl,rfl,trivial⟩)
theorem z9l:newWC.ok Tryz.prog 78:=okw (V:=yKw) mixed gok0 0 (fun _=>[]) (fun _=>[]) [] Tryz.func78 fun(_:Unit) _=>⟨(),rfl,trivial⟩
theorem yBg:doneC.ok Tryz.prog 81:=okw (V:=yKx) mixed (gokc zUx gok0) 0 (fun _=>[]) (fun _=>[]) [0] Tryz.func81 fun(i:List UInt8) h=>by
 have h:i.length≤1099511627776:=h
 exact⟨_,rfl,by rw[bE_len];omega,fun _ _=>⟨(),rfl,rfl,trivial⟩⟩
theorem zZc {l:List UInt8} {i:Nat} {b:UInt8} (h:l[i]? =some b):zF (bE l) i 0 1=some [.v (.int .u8 b.toNat)]:=by
 unfold zF bE
 rw[yQg,h];rfl
theorem yKs (b:UInt8):IntKind.u64.wrap (b.toNat:Int)=b.toNat:=lF (by have:=b.toNat_lt;omega)
theorem s7:∀l:List UInt8,0≤xI l∧xI l<256 ^ l.length
 |[]=>by simp[xI]
 |b::l=>by
  obtain⟨h1,h2⟩:=s7 l
  have:=b.toNat_lt
  simp only[xI,yOy,yTo]
  omega
theorem zJh (b:UInt8):∀l:List UInt8,xI (l++[b])=xI l+b.toNat*256 ^ l.length
 |[]=>by simp[xI]
 |c::l=>by
  simp only[yQe,xI,zJh b l,yOy,yTo,Int.mul_add]
  rw[yTp (256 ^ l.length) 256,← Int.mul_assoc,← Int.mul_assoc,yTp 256 (b.toNat:Int)]
  omega
theorem z3o {x b j:Nat} (hx:x<256 ^ j) (hb:b<256) (hj:j<8):iOr .u64 x (zQh .u64 b ((8*j:Nat):Int))=((x+b*256 ^ j:Nat):Int):=by
 have hp:256 ^ j=2 ^ (8*j):=by rw[Nat.pow_mul]
 have hle:256 ^ (j+1)≤256 ^ 8:=Nat.pow_le_pow_right (by omega) (by omega)
 have hbig:x+b*256 ^ j<256 ^ (j+1):=by
  rw[Nat.pow_succ]
  have:b*256 ^ j≤255*256 ^ j:=yQq _ (by omega)
  omega
 have h8:(256:Nat) ^ 8=18446744073709551616:=by decide
 rw[← yCj,← yFb]
 have e1:yEw .u64 (b:Int) ((8*j:Nat):Int)=((b*256 ^ j:Nat):Int):=by
  show wr .u64 (Int.ofNat (b*2 ^ (Nat.min (8*j) 64)))=_
  rw[show Nat.min (8*j) 64=8*j from yTa (by omega),← hp,zWy]
  exact lF (by show(0:Int)≤((b*256 ^ j:Nat):Int)∧((b*256 ^ j:Nat):Int)<_;omega)
 rw[e1]
 show wr .u64 (Int.ofNat (Nat.lor (x % 18446744073709551616) ((b*256 ^ j) % 18446744073709551616)))=_
 rw[Nat.mod_eq_of_lt (by omega),Nat.mod_eq_of_lt (by omega)]
 have e2:Nat.lor x (b*256 ^ j)=x+b*256 ^ j:=by
  show x|||(b*256 ^ j)=_
  rw[hp]at hx ⊢
  rw[Nat.or_comm,← Nat.shiftLeft_eq,← Nat.shiftLeft_add_eq_or_of_lt hx,yTn]
 rw[e2,zWy]
 exact lF (by show(0:Int)≤((x+b*256 ^ j:Nat):Int)∧((x+b*256 ^ j:Nat):Int)<_;omega)
theorem zVm (i:RN):i.got.length≤i.n:=by
 unfold RN.got;split
 ·simp
 ·rw[yPl];omega
open Go Cv Go.Proofs
open Classical
structure Sd where
 levels:List Lv
 imp:Lv
 has:Bool
@[reducible] def Vw:=List (Sd×Sd)
def yN (b:Sd×Sd):List D:=[.ro 3 (b.1.levels.map lvE),.v (.int .i64 b.1.imp.price),.v (.int .i64 b.1.imp.qty),.v (.int .i64 b.1.imp.count),.v (.bool b.1.has),
 .ro 3 (b.2.levels.map lvE),.v (.int .i64 b.2.imp.price),.v (.int .i64 b.2.imp.qty),.v (.int .i64 b.2.imp.count),.v (.bool b.2.has)]
def sdV (s:Sd):V:= .agg [roV 3 (s.levels.map lvE),zA s.imp.price,zA s.imp.qty,zA s.imp.count,yB s.has]
def vwV (v:Vw):V:= .agg [roV 10 (v.map yN)]
def rK (side x y:Int):Bool:=if side=1 then decide (y<x)else decide (x<y)
structure I3 where
 side:Int
 x:Int
 y:Int
def betterC:Con:=con1 I3 (fun i=>[zA i.side,zA i.x,zA i.y]) (fun _=>[]) (fun _=>True) (fun i=>yB (rK i.side i.x i.y)) (fun _=>[])
@[reducible] def fD (v:Vw):Prop:=v.length≤1099511627776∧∀b∈v,b.1.levels.length≤1099511627776∧b.2.levels.length≤1099511627776
open Go Cv Go.Proofs
def z9o (i:I3):Prop:=
 cnd (i.side==1) (∃(o:Unit),rK i.side i.x i.y=decide (i.x>i.y)∧True) (∃(o:Unit),rK i.side i.x i.y=decide (i.x<i.y)∧True)
open Go Cv Go.Proofs
open Classical
theorem getD {α:Type} {l:List α} {i:Nat} (h:i<l.length):∃x,l[i]? =some x:=⟨_,yPz h⟩
theorem zZg:betterC.ok Tryz.prog 71:=okw (V:=z9o) mixed gok0 0 (fun _=>[]) (fun _=>[]) [] Tryz.func71 fun(i:I3) _=>by
 refine Cv.cnd.mk (fun e=>⟨(),?_,trivial⟩) (fun e=>⟨(),?_,trivial⟩)
 ·have e:i.side=1:=by simpa using e
  simp[rK,e]
 ·have e:i.side≠1:=by simpa using e
  simp[rK,e]
open Go Cv Go.Proofs
open Classical
open Go Cv Go.Proofs
open Classical
def RB.byte (r:RB):Int×RB:=(xI (r.n 1).got,⟨(r.n 1).left,(r.n 1).bad⟩)
def RB.long (r:RB):Int×RB:=(IntKind.i64.wrap (xI (r.n 8).got),⟨(r.n 8).left,(r.n 8).bad⟩)
def RB.endOf (r:RB):Int:=if r.b then 10 else if 0<r.l.length then 15 else 0
open Go Cv Go.Proofs
open Go Cv Go.Proofs
open Classical
theorem zRv (i:RN):i.left.length≤i.l.length:=by
 unfold RN.left;split
 ·omega
 ·rw[yPq];omega
open Go Cv Go.Proofs
open Classical
open Go Cv Go.Proofs
open Go Cv Go.Proofs
open Classical
open Go Cv Go.Proofs
theorem yIu (n:Int):((lob n).toNat:Int)=n % 256:=(zWu n).symm
theorem rU (x:UInt8) (l:List UInt8):RB.byte ⟨x::l,false⟩=((x.toNat:Int),⟨l,false⟩):=by
 simp[RB.byte,RB.n,RN.got,RN.left,RN.bad,xI]
theorem z9h (a l:List UInt8):(RN.mk (a++l) false a.length).got=a∧(RN.mk (a++l) false a.length).left=l∧(RN.mk (a++l) false a.length).bad=false:=by
 have h:(RN.mk (a++l) false a.length).bad=false:=by simp[RN.bad]
 simp[RN.got,RN.left,h]
theorem z8d (n:Int):xI (le n 8)=n % 18446744073709551616:=by
 simp only[le,xI,yIu];omega
theorem zEk {n:Int} (h:i64r n) (l:List UInt8):RB.long ⟨le n 8++l,false⟩=(n,⟨l,false⟩):=by
 have e:(RB.mk (le n 8++l) false).n 8=RN.mk (le n 8++l) false (le n 8).length:=by rw[cK];rfl
 obtain⟨h1,h2,h3⟩:=z9h (le n 8) l
 rw[RB.long,e,h1,h2,h3,z8d]
 obtain⟨ha,hb⟩:=h
 have:IntKind.i64.wrap (n % 18446744073709551616)=n:=by
  have e:=Cv.wrap_i64 ha hb
  by_cases hn:0≤n
  ·rw[show n % 18446744073709551616=n by omega];exact e
  ·have:n % 18446744073709551616=n+18446744073709551616:=by omega
   rw[this]
   rw[IntKind.wrap]at e ⊢
   simp only[IntKind.wrap,IntKind.bits,IntKind.signed]at e ⊢
   simp at e ⊢
   omega
 rw[this]
theorem z3v {n:Int} (h:0≤n∧n≤255):((lob n).toNat:Int)=n:=by rw[yIu];omega
open Go Cv Go.Proofs
open Go Cv Go.Proofs
open Go Cv Go.Proofs
open Go Cv Go.Proofs
structure MsgM where
 seq:Int
 inst:Int
 side:Int
 price:Int
 qty:Int
 count:Int
 implied:Bool
 deriving DecidableEq
def yIj:MsgM:=⟨0,0,0,0,0,0,false⟩
def MsgM.raw (m:MsgM):Prop:=i64r m.seq∧i64r m.price∧i64r m.qty∧i64r m.count
def MsgM.form (m:MsgM):Int:=if m.inst<0∨255<m.inst∨(m.side≠1∧m.side≠2)then 12 else 0
def MsgM.body (m:MsgM):List UInt8:=le m.seq 8++(lob m.inst::lob m.side::(le m.price 8++(le m.qty 8++(le m.count 8++[lob (if m.implied then 1 else 0)]))))
def MsgM.enc (m:MsgM):List UInt8:=if m.form≠0 then[]else m.body
def uQ (b:List UInt8):MsgM×Int×RB:=
 let s:=(RB.mk b false).long;let i:=s.2.byte;let d:=i.2.byte;let p:=d.2.long;let q:=p.2.long;let c:=q.2.long;let n:=c.2.byte
 (⟨s.1,i.1,d.1,p.1,q.1,c.1,decide (n.1=1)⟩,n.1,n.2)
def yZ (b:List UInt8):MsgM×Int:=if(uQ b).2.2.endOf≠0∨1<(uQ b).2.1∨((uQ b).1.side≠1∧(uQ b).1.side≠2)then(yIj,12)else((uQ b).1,0)
theorem z5r (m:MsgM):m.body.length=35:=by simp[MsgM.body,cK]
theorem zXg {m:MsgM} (h:m.form=0):(0≤m.inst∧m.inst≤255)∧(m.side=1∨m.side=2):=by
 rw[MsgM.form]at h
 split at h
 ·cases h
 ·omega
theorem z0w {m:MsgM} (h:m.form=0) (hr:m.raw):uQ m.body=(m,if m.implied then 1 else 0,⟨[],false⟩):=by
 obtain⟨h1,h2,h3,h4⟩:=hr
 obtain⟨f1,f2⟩:=zXg h
 have hn:(0:Int)≤(if m.implied then 1 else 0)∧(if m.implied then 1 else 0)≤(255:Int):=by split<;>omega
 rw[uQ,MsgM.body,zEk h1];dsimp only
 rw[rU];dsimp only
 rw[rU];dsimp only
 rw[zEk h2];dsimp only
 rw[zEk h3];dsimp only
 rw[zEk h4];dsimp only
 rw[rU];dsimp only
 rw[z3v (by omega),z3v (by omega),z3v hn]
 cases m with
 |mk a b c d e f g=>cases g<;>rfl
theorem zFx {m:MsgM} (h:m.form=0) (hr:m.raw):yZ m.enc=(m,0):=by
 have e:m.enc=m.body:=by rw[MsgM.enc,yOr (by simp[h])]
 obtain⟨f1,f2⟩:=zXg h
 rw[yZ,e,z0w h hr,yOr]
 dsimp only
 rintro(g|g|g)
 ·exact g rfl
 ·split at g<;>omega
 ·omega
theorem yAe {a b:MsgM} (ha:a.form=0) (hra:a.raw) (hb:b.form=0) (hrb:b.raw):a.enc=b.enc↔a=b:=by
 constructor
 ·intro e
  have x:=zFx ha hra
  have y:=zFx hb hrb
  rw[e,y]at x
  exact(congrArg Prod.fst x).symm
 ·rintro rfl;rfl
theorem z9a:∀l:List UInt8,0≤xI l∧xI l<256 ^ l.length
 |[]=>by simp[xI]
 |b::l=>by
  have h:=z9a l
  have hb:=b.toNat_lt
  rw[xI,yOy,yTo]
  omega
theorem z3u (b:UInt8) (n:Int):lob (b.toNat+256*n)=b:=by
 apply UInt8.toNat.inj
 have h1:=yIu (b.toNat+256*n)
 have:=b.toNat_lt
 omega
theorem zWl:∀l:List UInt8,le (xI l) l.length=l
 |[]=>rfl
 |b::l=>by
  have h:=b.toNat_lt
  simp only[xI,yOy,le,z3u]
  rw[show((b.toNat:Int)+256*xI l) / 256=xI l by omega,zWl l]
theorem z8p {a b:Int} (h:a % 256=b % 256):lob a=lob b:=by rw[lob,lob,h]
theorem zWw:∀(k:Nat) {a b:Int},a % 256 ^ k=b % 256 ^ k→le a k=le b k
 |0,_,_,_=>rfl
 |k+1,a,b,h=>by
  have hp:(0:Int)<256 ^ k:=Int.pow_pos (by omega)
  rw[yTo]at h
  have hd:((256:Int) ^ k*256)∣(a-b):=Int.dvd_of_emod_eq_zero (by rw[Int.sub_emod,h,Int.sub_self];rfl)
  obtain⟨t,ht⟩:=hd
  have h1:a % 256=b % 256:=by
   have:a-b=256*(256 ^ k*t):=by rw[ht,yTp (256 ^ k) 256,Int.mul_assoc]
   generalize (256:Int) ^ k*t=u at this
   omega
  have h2:a / 256=b / 256+256 ^ k*t:=by
   have:a-b=256*(256 ^ k*t):=by rw[ht,yTp (256 ^ k) 256,Int.mul_assoc]
   generalize (256:Int) ^ k*t=u at this ⊢
   omega
  rw[le,le,z8p h1,zWw k (a:=a / 256) (b:=b / 256) (by rw[h2,yTt])]
theorem z4n (n:Int):IntKind.i64.wrap n % 18446744073709551616=n % 18446744073709551616:=by
 rw[IntKind.wrap]
 simp only[IntKind.bits,IntKind.signed]
 simp
 omega
theorem pS {r:RB} (h:r.long.2.b=false):r.b=false∧r.l=le r.long.1 8++r.long.2.l:=by
 have hb:(r.n 8).bad=false:=h
 have hr:r.b=false:=by
  rw[RN.bad,Bool.or_eq_false_iff]at hb;exact hb.1
 have hl:8≤r.l.length:=by
  rw[RN.bad,Bool.or_eq_false_iff,decide_eq_false_iff_not]at hb
  have:=hb.2
  have:¬r.l.length<8:=this
  omega
 refine⟨hr,?_⟩
 have e1:r.long.1=IntKind.i64.wrap (xI (r.l.take 8)):=by
  rw[RB.long];dsimp only;rw[RN.got,hb];rfl
 have e2:r.long.2.l=r.l.drop 8:=by
  rw[RB.long];dsimp only;rw[RN.left,hb];rfl
 have hlen:(r.l.take 8).length=8:=by rw[yPl];omega
 have e3:le (IntKind.i64.wrap (xI (r.l.take 8))) 8=r.l.take 8:=by
  rw[zWw 8 (b:=xI (r.l.take 8)) (z4n _)]
  have:=zWl (r.l.take 8)
  rwa [hlen]at this
 rw[e1,e2,e3,yQu]
theorem zCm {r:RB} (h:r.byte.2.b=false):r.b=false∧r.l=lob r.byte.1::r.byte.2.l∧0≤r.byte.1∧r.byte.1≤255:=by
 have hb:(r.n 1).bad=false:=h
 have hr:r.b=false:=by
  rw[RN.bad,Bool.or_eq_false_iff]at hb;exact hb.1
 obtain⟨l,b⟩:=r
 cases hr
 cases l with
 |nil=>cases hb
 |cons x l=>
  rw[rU]
  have:=x.toNat_lt
  have e:=z3u x 0
  rw[Int.mul_zero,Int.add_zero]at e
  dsimp only
  exact⟨rfl,by rw[e],by omega,by omega⟩
theorem lX (r:RB):i64r r.long.1:=by
 have:i64r (IntKind.i64.wrap (xI (r.n 8).got)):=by
  rw[i64r,IntKind.wrap]
  simp only[IntKind.bits,IntKind.signed]
  simp
  omega
 exact this
theorem z4w {x:List UInt8} (h:(yZ x).2=0):(yZ x).1.form=0∧(yZ x).1.raw∧(yZ x).1.enc=x:=by
 rw[yZ]at h ⊢
 split at h
 ·cases h
 rename_i hc
 rw[yOr hc]
 dsimp only
 have h1:(uQ x).2.2.endOf=0:=by
  by_cases e:(uQ x).2.2.endOf=0
  ·exact e
  ·exact absurd (.inl e) hc
 have hb:(uQ x).2.2.b=false:=by
  rw[RB.endOf]at h1
  split at h1
  ·cases h1
  ·rename_i e;simpa using e
 have hl:(uQ x).2.2.l=[]:=by
  rw[RB.endOf,hb]at h1
  split at h1
  ·rename_i e;cases e
  ·split at h1
   ·cases h1
   ·rename_i e;exact yPo (by omega)
 have h2:(uQ x).2.1≤1:=by
  by_cases e:1<(uQ x).2.1
  ·exact absurd (.inr (.inl e)) hc
  ·omega
 have h3:(uQ x).1.side=1∨(uQ x).1.side=2:=by
  by_cases e:(uQ x).1.side=1∨(uQ x).1.side=2
  ·exact e
  ·exact absurd (.inr (.inr (by omega))) hc
 rw[uQ]at hb hl h2 h3 ⊢
 dsimp only at hb hl h2 h3 ⊢
 generalize hs:(RB.mk x false).long=s at*
 generalize hi:s.2.byte=i at*
 generalize hd:i.2.byte=d at*
 generalize hp:d.2.long=p at*
 generalize hq:p.2.long=q at*
 generalize hcn:q.2.long=c at*
 generalize hn:c.2.byte=n at*
 obtain⟨b7,l7,n0,n1⟩:=zCm (r:=c.2) (by rw[hn];exact hb)
 obtain⟨b6,l6⟩:=pS (r:=q.2) (by rw[hcn];exact b7)
 obtain⟨b5,l5⟩:=pS (r:=p.2) (by rw[hq];exact b6)
 obtain⟨b4,l4⟩:=pS (r:=d.2) (by rw[hp];exact b5)
 obtain⟨b3,l3,d0,d1⟩:=zCm (r:=i.2) (by rw[hd];exact b4)
 obtain⟨b2,l2,i0,i1⟩:=zCm (r:=s.2) (by rw[hi];exact b3)
 obtain⟨b1,l1⟩:=pS (r:=RB.mk x false) (by rw[hs];exact b2)
 have r1:=lX (RB.mk x false)
 have r2:=lX d.2
 have r3:=lX p.2
 have r4:=lX q.2
 rw[hn]at l7 n0 n1
 rw[hcn]at l6 r4
 rw[hq]at l5 r3
 rw[hp]at l4 r2
 rw[hd]at l3 d0 d1
 rw[hi]at l2 i0 i1
 rw[hs]at l1 r1
 have hf:(⟨s.1,i.1,d.1,p.1,q.1,c.1,decide (n.1=1)⟩:MsgM).form=0:=by
  rw[MsgM.form,yOr];dsimp only;omega
 refine⟨hf,⟨r1,r2,r3,r4⟩,?_⟩
 have hnn:(if decide (n.1=1)=true then 1 else 0)=n.1:=by
  by_cases e:n.1=1
  ·rw[e];rfl
  ·have:n.1=0:=by omega
   rw[this];rfl
 rw[MsgM.enc,yOr (by rw[hf];simp),MsgM.body]
 dsimp only
 have l1:x=le s.1 8++s.2.l:=l1
 rw[hnn,l1,l2,l3,l4,l5,l6,l7,hl]
open Go Cv Go.Proofs
deriving instance DecidableEq for Lv
def jS (s:Int):Nat→List Lv→List Lv→List Lv
 |0,_,_=>[]
 |k+1,[],[]=>[]
 |k+1,x::X,[]=>⟨x.price,0,0⟩::jS s k X []
 |k+1,[],y::Y=>y::jS s k [] Y
 |k+1,x::X,y::Y=>if btr s x.price y.price=true then⟨x.price,0,0⟩::jS s k X (y::Y)else if btr s y.price x.price=true then y::jS s k (x::X) Y else(if x=y then[]else[y])++jS s k X Y
open Go Cv Go.Proofs
theorem zJd {s:Int}:∀(k:Nat) (A:List Lv),jS s k A A=[]
 |0,_=>rfl
 |k+1,[]=>rfl
 |k+1,x::A=>by
  rw[jS]
  have:btr s x.price x.price=false:=by rw[btr];split<;>simp
  rw[yOr (by rw[this];decide),yOr (by rw[this];decide),yOu rfl,zJd k A];rfl
open Go Cv Go.Proofs
open Go Cv Go.Proofs
open Go Cv Go.Proofs
open Classical
open Go Cv Go.Proofs
structure VM where
 inst:Nat
 side:Int
 l:Lv
 imp:Bool
def lv0:Lv:=⟨0,0,0⟩
def z4s (a b:Sd):Bool:=decide (a.imp≠b.imp)||decide (a.has≠b.has)
def zZf (b:Sd):Lv:=if b.has=true then b.imp else lv0
def kF (n:Nat) (s:Int) (a b:Sd):List VM:=(jS s (a.levels.length+b.levels.length) a.levels b.levels).map (fun l=>⟨n,s,l,false⟩)++if z4s a b=true then[⟨n,s,zZf b,true⟩]else[]
theorem zVq (n:Nat) (s:Int) (a:Sd):kF n s a a=[]:=by
 rw[kF,zJd];simp[z4s]
open Go Cv Go.Proofs
def kI (n:Nat):Vw→Vw→List VM
 |a::A,b::B=>kF n 1 a.1 b.1++kF n 2 a.2 b.2++kI (n+1) A B
 |_,_=>[]
theorem zNg:∀(n:Nat) (A:Vw),kI n A A=[]
 |_,[]=>rfl
 |n,a::A=>by rw[kI,zVq,zVq,zNg];rfl
open Go Cv Go.Proofs
end Sx
