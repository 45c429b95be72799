/- Texts of ours. No condition. -/
import Derived.Test.YtgmmlhddihaocaaGreatH4
set_option linter.all false
open List renaming map->aa,take->ab,replicate->ac,range->ae,filter->af,drop->ag
open Sx.fw renaming kh->aj,cells->ak,own->am
open Exists renaming intro->ao
open Bool renaming false->ap,true->aq
open And renaming intro->ar
open Go.IntKind renaming i64->au
open Int renaming tmod_eq_emod_of_nonneg->av,add_mul_emod_self_left->aw
open Option renaming some->ax
namespace Sx
set_option maxRecDepth 100000
open Go Cv Go.Proofs
def kf {α:Type} {f:α->List D} {l:List α} {i g n:Nat} {x:α} {r:List D} (h:l[i]? =ax x) (hn:g+n<=(f x).length) (hr:((f x).drop g).take n=r):zF (l.map f) i g n=ax r:=by
 unfold zF;rw[uz,h];simp only[ym,Nat.ble_eq_true_of_le hn,cond_true,hr]
def Ty {a:dw} {n:Int} {q:cI} (h0:0<=n) (h:a.dy[n.toNat]? =ax q):a.qx n=q:=by
 have:=(ju.1 h).1;rw[dw.qx,fk ⟨h0,by omega⟩,mi,h];rfl
def TT {a:dw} {n:Int} (h:¬(0<=n/\n<a.dy.length)):a.qx n=⟨0,0,0,0⟩:=by rw[dw.qx,dx h]
def YJ:IL.ok Tryz.prog 203:=ix (V:=yBr) mixed fx 1 (λ_=>[]) (λ_=>[]) [0] Tryz.func203 λ(i:vm) _=>by
 unfold yBr ez dM zAb ez wF QP dI;simp only[iz];refine zI (λc=>Cv.du.mk (λd=> ?_) (λd=> ?_)) (λc=> ?_)
 ·have d:¬i.n<(i.a.dy.length:Int):=by simpa using d
  rw[TT (by omega)];exact kp
 ·have d:i.n<(i.a.dy.length:Int):=by simpa using d
  obtain⟨q,hq⟩:=z6 (l:=i.a.dy) (i:=i.n.toNat) oM;rw[Ty (by omega) hq];refine⟨⟨oM,oM⟩,q.total,kf hq (by simp[zQ]) rfl,?_⟩;exact kp
 ·rw[TT (by omega)];exact kp
def rO:IM.ok Tryz.prog 204:=ix (V:=yCc) mixed fx 1 (λ_=>[]) (λ_=>[]) [0] Tryz.func204 λ(i:vm) _=>by
 unfold yCc ez dM zAr ez wF QP dI;simp only[iz];refine zI (λc=>Cv.du.mk (λd=> ?_) (λd=> ?_)) (λc=> ?_)
 ·have d:¬i.n<(i.a.dy.length:Int):=by simpa using d
  rw[TT (by omega)];exact kp
 ·have d:i.n<(i.a.dy.length:Int):=by simpa using d
  obtain⟨q,hq⟩:=z6 (l:=i.a.dy) (i:=i.n.toNat) oM;rw[Ty (by omega) hq];refine⟨⟨oM,oM⟩,q.count,kf hq (by simp[zQ]) rfl,?_⟩;exact kp
 ·rw[TT (by omega)];exact kp
def I0:aa1.ok Tryz.prog 169:=ix (V:=y6i) mixed fx 0 (λ_=>[]) (λ_=>[]) [] Tryz.func169 λ(n:Int) _=>by
 unfold y6i ez;refine Cv.du.mk (λc=>⟨(),?_,trivial⟩) (λc=>⟨(),?_,trivial⟩)
 all_goals simp at c
 ·simp[c]
 ·by_cases h:n=2<;>simp[c,h]
def yDt:SG.ok Tryz.prog 170:=ix (V:=y7h) mixed (dz YJ (dz rO fx)) 0 (λ_=>[]) (λ_=>[]) [0] Tryz.func170 λ(i:RD) h=>by
 refine⟨⟨i.b.a,i.r.queue⟩,?_⟩;(repeat'(first|exact rfl|exact trivial|assumption|apply ar|refineλ(_:Unit) (_:True)=>?_|refine ao () ?_|omega|(dsimp only;omega)));refine⟨⟨i.b.a,i.r.queue⟩,?_⟩;exact kp
def yPg:Mu.ok Tryz.prog 120:=ix (V:=y2u) mixed (dz I0 (dz yDt fx)) 0 (λ_=>[]) (λ_=>[]) [0] Tryz.func120 λ(b:dt) h=>by
 have h:b.nw:=h;refine⟨1,rfl,trivial,λ_ _=>Cv.du.mk (λc=>absurd c Z8) λ_=> ?_⟩;simp only[iz];refine Cv.du.mk (λc=> ?_) (λc=> ?_)
 ·have hl:b.fv=[]:=zm (by have:(b.fv.length:Int)=0:=(by simpa using c);omega);have e:b.iA b.fv=(⟨0,0,0⟩,ap):=by rw[hl];rfl
  rw[e];exact kp
 ·obtain⟨r,l,hl⟩:∃r l,b.fv=r::l:=by
   cases hb:b.fv with
   |nil=>rw[hb]at c;exact absurd c Z8
   |cons r l=>exact⟨r,l,rfl⟩
  have e:b.iA b.fv=(b.told r,aq):=by rw[hl];rfl
  rw[e];refine⟨⟨oM,by rw[hl,iY];omega⟩,r.dp,r.queue,kf (x:=r) (by rw[hl];rfl) (by simp[zC]) rfl,⟨b,r⟩,?_⟩;exact kp
def yMw:Mt.ok Tryz.prog 120:=ix (V:=y4x) mixed (dz I0 (dz yDt fx)) 0 (λ_=>[]) (λ_=>[]) [0] Tryz.func120 λ(b:dt) h=>by
 have h:b.nw:=h;refine⟨2,rfl,trivial,λ_ _=>Cv.du.mk (λc=>absurd c Z8) λ_=> ?_⟩;simp only[iz];refine Cv.du.mk (λc=> ?_) (λc=> ?_)
 ·have hl:b.ff=[]:=zm (by have:(b.ff.length:Int)=0:=(by simpa using c);omega);have e:b.iA b.ff=(⟨0,0,0⟩,ap):=by rw[hl];rfl
  rw[e];exact kp
 ·obtain⟨r,l,hl⟩:∃r l,b.ff=r::l:=by
   cases hb:b.ff with
   |nil=>rw[hb]at c;exact absurd c Z8
   |cons r l=>exact⟨r,l,rfl⟩
  have e:b.iA b.ff=(b.told r,aq):=by rw[hl];rfl
  rw[e];refine⟨⟨oM,by rw[hl,iY];omega⟩,r.dp,r.queue,kf (x:=r) (by rw[hl];rfl) (by simp[zC]) rfl,⟨b,r⟩,?_⟩;exact kp
def TL:Tk.ok Tryz.prog 120:=λi=>match i with
 |⟨ap,b⟩=>yPg b
 |⟨aq,b⟩=>yMw b
def zSn {α:Type} (f:α->α) (x:α) (b:List α):∀a:List α,(a++x::b).modify a.length f=a++f x::b
 |[]=>rfl
 |y::a=>by
  show y::(a++x::b).modify a.length f=_;rw[zSn f x b a];rfl
def zXc {fh:List (List D)} {a b:List (List D)} {x y ds:List D} {j f:Nat} (h:fh=a++x::b) (hl:a.length=j) (hy:x.take f++(ds++x.drop (f+ds.length))=y):zX fh j f ds=a++y::b:=by
 rw[zX,h,<- hl,zSn,hy]
def kR {s:ia} {j:Nat} {x y:iS} {f:Nat} {ds:List D} (hj:j<s.fc.length) (hy:(zY x).take f++(ds++(zY x).drop (f+ds.length))=zY y):
 zX (aa zY (x6 s j x)) j f ds=aa zY (x6 s j y):=by
 rw[zXc (a:=(s.fm.take j).map zY) (b:=(ac (s.fc.length-j-1) fq).map zY) (by rw[x6,jz,iT]) (by
  rw[iz,oK,ia.fm,iz];omega) hy,x6,jz,iT]
def zRp {s:ia} {j:Nat} {x:iS} (hj:j<s.fc.length):(x6 s j x).length=s.fc.length:=by
 rw[x6,iQ,iY,oK,ia.fm,iz,CW];omega
def zNx {s:ia} {j:Nat} (hj:j<s.fc.length):x6 s j fq=qI s j:=by
 rw[x6,qI];obtain⟨m,hm⟩:∃m,s.fc.length-j=m+1:=⟨s.fc.length-j-1,oM⟩
 rw[hm,K0];rfl
def zNo {s:ia} {j:Nat} {b:dt} (hb:s.fc[j]? =ax b):x6 s j b.top=qI s (j+1):=by
 have hj:=(ju.1 hb).1;rw[x6,qI,tv,show s.fm[j]? =ax b.top by rw[ia.fm,uz,hb];rfl];simp only[DP,km,tu,zi];rw[show s.fc.length-j-1=s.fc.length-(j+1)by omega]
def cJ {α:Type} {l:List α} {j:Nat} {x:α} (h:l[j]? =ax x):l.set j x=l:=by
 obtain⟨hj,rfl⟩:=ju.1 h;exact List.set_getElem_self hj
def y8o (s:ia) (h:JN.du s):yXq s:=by
 obtain⟨h1,h2⟩:s.nw:=h;unfold yXq QB QU QV QW fp ez Qc XT Uo dE gR kO uD cK dB mL mS Zj US zBu bU mO zCs bL c9 z8 mH g8 dI;have PA:(2:Int) ^ (48:Nat)=281474976710656:=by decide
 refine⟨⟨oM,oM,oM,by rw[PA];omega⟩,0,rfl,?_,λj=>j<=s.fc.length,λj=>s.fc.length-j,oM,λj hj=>zI (λiq=> ?_) (λiq=> ?_)⟩
 ·rw[qI,jz,Nl];rfl
 ·have oF:j<s.fc.length:=by omega
  obtain⟨b,hb⟩:=z6 oF;have hc:=h2 b (mc hb);simp only[ml];have ha:∀x,(aa zY (x6 s j x)).length=s.fc.length:=λx=>by rw[iz,zRp oF]
  have w1:au.wrap (0+1)=1:=by decide
  have w2:(0+1) % ((2:Int) ^ au.bits).natAbs=1:=by decide
  refine⟨⟨oM,oM⟩,oM,(j,fq),by rw[zNx oF],λx=>x=(j,fq.Dc (b.iA b.fv)),⟨⟨Z8,Z8⟩,1,rfl,b,hb,⟨ap,b⟩,rfl,rfl,hc,λ_ _=>⟨b,rfl,kp,oM,?_⟩⟩,?_⟩
  ·refine Cv.du.mk (λc=> ?_) (λc=> ?_)
   ·have c:(b.iA b.fv).2=aq:=c;have e1:=kR (s:=s) oF (x:=fq) (y:={fq with gp:=aq}) (f:=0+0+0*1) (ds:=[D.v (.bool aq)]) rfl;have e2:=kR (s:=s) oF (x:={fq with gp:=aq}) (y:={fq with gp:=aq,p1:=(b.iA b.fv).1.dp}) (f:=0+2+0*1) (ds:=[D.v (.int .i64 (b.iA b.fv).1.dp)]) rfl;have e3:=kR (s:=s) oF (x:={fq with gp:=aq,p1:=(b.iA b.fv).1.dp}) (y:={fq with gp:=aq,p1:=(b.iA b.fv).1.dp,q1:=(b.iA b.fv).1.dq}) (f:=0+4+0*1) (ds:=[D.v (.int .i64 (b.iA b.fv).1.dq)]) rfl;dsimp only;simp only[show b.side ap=b.fv from rfl,e1,e2,e3,ha]
    (repeat'(first|exact rfl|exact trivial|assumption|apply ar|refineλ(_:Unit) (_:True)=>?_|refine ao () ?_|omega|(dsimp only;omega)))
    refine⟨(j,{fq with gp:=aq,p1:=(b.iA b.fv).1.dp,q1:=(b.iA b.fv).1.dq}),rfl,?_,?_⟩
    ·rw[iS.Dc,fk c]
    ·(repeat'(first|exact rfl|exact trivial|assumption|apply ar|refineλ(_:Unit) (_:True)=>?_|refine ao () ?_|omega|(dsimp only;omega)))
     rw[cJ hb]
   ·have c:(b.iA b.fv).2=ap:=c;refine⟨(j,fq),rfl,?_,?_⟩
    ·rw[iS.Dc,dx (by rw[c];simp)]
    ·(repeat'(first|exact rfl|exact trivial|assumption|apply ar|refineλ(_:Unit) (_:True)=>?_|refine ao () ?_|omega|(dsimp only;omega)))
     rw[cJ hb]
  ·rintro _ rfl;rw[w1];generalize hx:fq.Dc (b.iA b.fv)=x;have PG:b.top=x.xz (b.iA b.ff):=by rw[dt.top,hx]
   refine⟨(j,x),rfl,λy=>y=(j,b.top),⟨⟨Z8,Z8⟩,2,rfl,b,hb,⟨aq,b⟩,rfl,rfl,hc,λ_ _=>⟨b,rfl,kp,oM,?_⟩⟩,?_⟩
   ·refine Cv.du.mk (λc=> ?_) (λc=> ?_)
    ·have c:(b.iA b.ff).2=aq:=c;have e1:=kR (s:=s) oF (x:=x) (y:={x with gj:=aq}) (f:=0+0+1*1) (ds:=[D.v (.bool aq)]) rfl;have e2:=kR (s:=s) oF (x:={x with gj:=aq}) (y:={x with gj:=aq,p2:=(b.iA b.ff).1.dp}) (f:=0+2+1*1) (ds:=[D.v (.int .i64 (b.iA b.ff).1.dp)]) rfl;have e3:=kR (s:=s) oF (x:={x with gj:=aq,p2:=(b.iA b.ff).1.dp}) (y:={x with gj:=aq,p2:=(b.iA b.ff).1.dp,q2:=(b.iA b.ff).1.dq}) (f:=0+4+1*1) (ds:=[D.v (.int .i64 (b.iA b.ff).1.dq)]) rfl;dsimp only;simp only[w2,show b.side aq=b.ff from rfl,e1,e2,e3,ha]
     (repeat'(first|exact rfl|exact trivial|assumption|apply ar|refineλ(_:Unit) (_:True)=>?_|refine ao () ?_|omega|(dsimp only;omega)))
     refine⟨(j,{x with gj:=aq,p2:=(b.iA b.ff).1.dp,q2:=(b.iA b.ff).1.dq}),rfl,?_,?_⟩
     ·rw[PG,iS.xz,fk c]
     ·(repeat'(first|exact rfl|exact trivial|assumption|apply ar|refineλ(_:Unit) (_:True)=>?_|refine ao () ?_|omega|(dsimp only;omega)))
      rw[cJ hb]
    ·have c:(b.iA b.ff).2=ap:=c;refine⟨(j,x),rfl,?_,?_⟩
     ·rw[PG,iS.xz,dx (by rw[c];simp)]
     ·(repeat'(first|exact rfl|exact trivial|assumption|apply ar|refineλ(_:Unit) (_:True)=>?_|refine ao () ?_|omega|(dsimp only;omega)))
      rw[cJ hb]
   ·rintro _ rfl;refine⟨j+1,by rw[iD (by omega)];rfl,?_⟩;refine⟨by dsimp only;rw[zNo hb],?_⟩;exact kp
 ·have hj:j<=s.fc.length:=hj;obtain rfl:j=s.fc.length:=by omega
  have e:qI s s.fc.length=s.fm:=by
   rw[qI,Hx,List.replicate_zero,pd,oV (by rw[ia.fm,iz];omega)]
  rw[e];exact kp
def yAq:JN.ok Tryz.prog 59:=ix mixed (dz TL fx) 0 (λs=>yYh s) (λs=>yXl s) [0] Tryz.func59 y8o
def OV:Mp.ok Tryz.prog 65:=ix (V:=yZs) mixed (dz yRr (dz yJd fx)) 0 (λ_=>[]) (λs=>y2a s) [0] Tryz.func65 λ(s:ia) h=>by
 obtain⟨h1,h2⟩:s.small:=h;refine⟨z5 s.wh,?_⟩;(repeat'(first|exact rfl|exact trivial|assumption|apply ar|refineλ(_:Unit) (_:True)=>?_|refine ao () ?_|omega|(dsimp only;omega)));refine⟨0,?_⟩;(repeat'(first|exact rfl|exact trivial|assumption|apply ar|refineλ(_:Unit) (_:True)=>?_|refine ao () ?_|omega|(dsimp only;omega)));refine⟨λj=>j<=s.fc.length,λj=>s.fc.length-j,oM,λj hj=>zI (λiq=> ?_) (λiq=> ?_)⟩
 ·obtain⟨b,hb⟩:=z6 (l:=s.fc) (i:=j) oM;have hs:=h2 b (mc hb);simp only[ml];refine⟨⟨oM,oM⟩,oM,b,hb,b,rfl,hs,λ_ _=>⟨b,rfl,kp,oM,trivial,trivial,s.fc.take j,rfl,?_,j+1,?_⟩⟩
  ·rw[oK];omega
  ·rw[iD (by omega),tv,hb]
   (repeat'(first|exact rfl|exact trivial|assumption|apply ar|refineλ(_:Unit) (_:True)=>?_|refine ao () ?_|omega|(dsimp only;omega)))
   rw[cJ hb]
 ·have hj:j<=s.fc.length:=hj;obtain rfl:j=s.fc.length:=by omega
  rw[oV (mg _)];exact kp
structure AK where
 inst:Int
 side:Int
 deriving DecidableEq
structure Quote where
 dp:Int
 dq:Int
 a:AK
 b:AK
 deriving DecidableEq
def zK (q:Quote):List D:=[.v (.int .i64 q.dp),.v (.int .i64 q.dq),.v (.int .i64 q.a.inst),.v (.int .i64 q.a.side),.v (.int .i64 q.b.inst),.v (.int .i64 q.b.side)]
@[reducible] def Tp (q:Quote):V:= .agg [zB q.dp,zB q.dq,zB q.a.inst,zB q.a.side,zB q.b.inst,zB q.b.side]
def y3a:Quote:=⟨0,0,⟨0,0⟩,⟨0,0⟩⟩
structure D4 where
 side:Int
 x:Int
 y:Int
def jj (side x y:Int):Bool:=if side=1 then decide (y<x)else decide (x<y)
def IC:gx:=gh Int (λn=>[zB n]) (λ_=>[]) (λn=>n=1\/n=2) (λn=>zB (3-n)) (λ_=>[])
def GB:gx:=gh D4 (λi=>[zB i.side,zB i.x,zB i.y]) (λ_=>[]) (λ_=>True) (λi=>y4 (jj i.side i.x i.y)) (λ_=>[])
structure EN where
 x:Int
 y:Int
 b:Bool
def Mo:gx:=gh EN (λi=>[zB i.x,zB i.y,y4 i.b]) (λ_=>[]) (λ_=>True) (λi=>y4 (i.b && decide (i.y<=i.x))) (λ_=>[])
def iS.has (t:iS) (s:Int):Bool:=if s=1 then t.gp else t.gj
def iS.dp (t:iS) (s:Int):Int:=if s=1 then t.p1 else t.p2
def iS.dq (t:iS) (s:Int):Int:=if s=1 then t.q1 else t.q2
def wb (fm:List iS) (a b:AK) (less:Bool):List Quote:=
 let x:=fm.getD a.inst.toNat fq
 let y:=fm.getD b.inst.toNat fq
 let r:=if less then g7 (y.dp b.side) (x.dp a.side)else gX (x.dp a.side) (y.dp b.side)
 if x.has a.side && y.has b.side && r.2 then[⟨r.1,min (x.dq a.side) (y.dq b.side),a,b⟩]else[]
structure vl where
 fm:List iS
 out:List Quote
 a:Int
 b:Int
 less:Bool
@[reducible] def vF (l:List iS):Prop:=l.length<=1000000/\∀t∈l,ie t.p1/\ie t.p2
def A' (x:List iS×List Quote):Nat->fw
 |0=> .cells [.own 1,.own 2] 279
 |1=> .kh 6 (x.1.map zY)
 |2=> .own 128 6 (x.2.map zK)
 |_=> .gone
@[reducible] def W7 (fm:List iS) (out:List Quote):List fw:=[A' (fm,out) 0,A' (fm,out) 1,A' (fm,out) 2]
@[reducible] def MkP (fm:List iS) (out:List Quote):List fw:=[.cells [.own 1,.own 3] 279,A' (fm,out) 1,.gone,A' (fm,out) 2]
def Wl (sa sb:Int):gx:=gh vl (λi=>[.nm 0 0,.agg [zB i.a,zB sa],.agg [zB i.b,zB sb],y4 i.less]) (λi=>W7 i.fm i.out)
 (λi=>0<=i.a/\i.a<i.fm.length/\0<=i.b/\i.b<i.fm.length/\vF i.fm/\i.out.length<=1000) (λ_=>EX) (λi=>MkP i.fm (i.out++wb i.fm ⟨i.a,sa⟩ ⟨i.b,sb⟩ i.less))
def RZ:gx:=Wl 1 1
def RY:gx:=Wl 1 2
def RX:gx:=Wl 2 1
def RW:gx:=Wl 2 2
def yTi (n:Int):Prop:=
 ∃(o:Unit),3-n=au.wrap (3-n)/\True
def yPw (i:D4):Prop:=
 du (i.side==1) (∃(o:Unit),jj i.side i.x i.y=decide (i.x>i.y)/\True) (∃(o:Unit),jj i.side i.x i.y=decide (i.x<i.y)/\True)
def y5o (i:EN):Prop:=
 du i.b (∃(o:Unit),(i.b && decide (i.y<=i.x))=decide (i.x>=i.y)/\True) (∃(o:Unit),(i.b && decide (i.y<=i.x))=ap/\True)
def UO (a:vl):=(a.out++wb a.fm (AK.mk a.a 1) (AK.mk a.b 1) a.less)
def sA (a:vl):Prop:=ez (aj 6 (aa zY a.fm)=A' (a.fm,a.out) 1/\aa zK (UO a)=aa zK a.out/\True)
def j0 (a:I2):Prop:=((-9223372036854775808)<=a.x/\a.x<=9223372036854775807)/\(-9223372036854775808)<=a.y/\a.y<=9223372036854775807
def kK (a:vl):=(↑(aa zY a.fm).length:Int)
def qJ (a:vl):Prop:=(0<=a.b/\a.b<(kK a))/\dm a.b.toNat
def j8 (a:vl):Prop:=(0<=a.a/\a.a<(kK a))/\dm a.a.toNat
def j6 (a:vl):=((aa zK a.out).length+1)
@[reducible] def Qq (a:vl)(R:Prop):Prop:=True/\(qJ a)/\a.b=a.b/\True/\True/\(j8 a)/\a.a=a.a/\True/\R
@[reducible] def EL (a:vl)(R:Prop):Prop:=True/\(j6 a)*(48:Nat)<=(140737488355328:Nat)/\R
def XD (a:vl) (b:Bool) (c:Bool) (d:Int) (e:Int) (f:Int) (g:Int):Prop:=Qq a (Qq a (True/\(qJ a)/\a.b=a.b/\True/\du (!b) (sA a) (du (!c) (sA a) (∃(h:I2),h.x=d/\h.y=e/\(j0 h)/\fp (du a.less (∃(k:I2),k.x=e/\k.y=d/\(j0 k)/\fp (du (g7 k.x k.y).snd (EL a (ez (aj 6 (aa zY a.fm)=A' (a.fm,a.out) 1/\aa zK (UO a)=aa zK a.out++[[dI ((g7 k.x k.y).fst),dI (min f g),dI a.a,dI 1,dI a.b,dI 1]]/\True))) (sA a))) (du (gX h.x h.y).snd (EL a (ez (aj 6 (aa zY a.fm)=A' (a.fm,a.out) 1/\aa zK (UO a)=aa zK a.out++[[dI ((gX h.x h.y).fst),dI (min f g),dI a.a,dI 1,dI a.b,dI 1]]/\True))) (sA a)))))))
def yYl (i:vl):Prop:=
 (0<=i.a/\i.a<(kK i))/\∃(a:Bool),∃(b:Bool),∃(c:Int),∃(d:Int),∃(e:Int),∃(f:Int),zF (aa zY i.fm) i.a.toNat 0 6=ax [D.v (.bool a),D.v (.bool b),dI c,dI d,dI e,dI f]/\(0<=i.b/\i.b<(kK i))/\∃(g:Bool),∃(h:Bool),∃(j:Int),∃(k:Int),∃(l:Int),∃(m:Int),zF (aa zY i.fm) i.b.toNat 0 6=ax [D.v (.bool g),D.v (.bool h),dI j,dI k,dI l,dI m]/\(XD i a g c j e l)/\XD i a g c j e l
def U3 (a:vl):=(a.out++wb a.fm (AK.mk a.a 1) (AK.mk a.b 2) a.less)
def sC (a:vl):Prop:=ez (aj 6 (aa zY a.fm)=A' (a.fm,a.out) 1/\aa zK (U3 a)=aa zK a.out/\True)
def Ye (a:vl) (b:Bool) (c:Bool) (d:Int) (e:Int) (f:Int) (g:Int):Prop:=Qq a (Qq a (True/\(qJ a)/\a.b=a.b/\True/\du (!b) (sC a) (du (!c) (sC a) (∃(h:I2),h.x=d/\h.y=e/\(j0 h)/\fp (du a.less (∃(k:I2),k.x=e/\k.y=d/\(j0 k)/\fp (du (g7 k.x k.y).snd (EL a (ez (aj 6 (aa zY a.fm)=A' (a.fm,a.out) 1/\aa zK (U3 a)=aa zK a.out++[[dI ((g7 k.x k.y).fst),dI (min f g),dI a.a,dI 1,dI a.b,dI 2]]/\True))) (sC a))) (du (gX h.x h.y).snd (EL a (ez (aj 6 (aa zY a.fm)=A' (a.fm,a.out) 1/\aa zK (U3 a)=aa zK a.out++[[dI ((gX h.x h.y).fst),dI (min f g),dI a.a,dI 1,dI a.b,dI 2]]/\True))) (sC a)))))))
def yXh (i:vl):Prop:=
 (0<=i.a/\i.a<(kK i))/\∃(a:Bool),∃(b:Bool),∃(c:Int),∃(d:Int),∃(e:Int),∃(f:Int),zF (aa zY i.fm) i.a.toNat 0 6=ax [D.v (.bool a),D.v (.bool b),dI c,dI d,dI e,dI f]/\(0<=i.b/\i.b<(kK i))/\∃(g:Bool),∃(h:Bool),∃(j:Int),∃(k:Int),∃(l:Int),∃(m:Int),zF (aa zY i.fm) i.b.toNat 0 6=ax [D.v (.bool g),D.v (.bool h),dI j,dI k,dI l,dI m]/\(Ye i a h c k e m)/\Ye i a h c k e m
def U0 (a:vl):=(a.out++wb a.fm (AK.mk a.a 2) (AK.mk a.b 1) a.less)
def sB (a:vl):Prop:=ez (aj 6 (aa zY a.fm)=A' (a.fm,a.out) 1/\aa zK (U0 a)=aa zK a.out/\True)
def XX (a:vl) (b:Bool) (c:Bool) (d:Int) (e:Int) (f:Int) (g:Int):Prop:=Qq a (Qq a (True/\(qJ a)/\a.b=a.b/\True/\du (!b) (sB a) (du (!c) (sB a) (∃(h:I2),h.x=d/\h.y=e/\(j0 h)/\fp (du a.less (∃(k:I2),k.x=e/\k.y=d/\(j0 k)/\fp (du (g7 k.x k.y).snd (EL a (ez (aj 6 (aa zY a.fm)=A' (a.fm,a.out) 1/\aa zK (U0 a)=aa zK a.out++[[dI ((g7 k.x k.y).fst),dI (min f g),dI a.a,dI 2,dI a.b,dI 1]]/\True))) (sB a))) (du (gX h.x h.y).snd (EL a (ez (aj 6 (aa zY a.fm)=A' (a.fm,a.out) 1/\aa zK (U0 a)=aa zK a.out++[[dI ((gX h.x h.y).fst),dI (min f g),dI a.a,dI 2,dI a.b,dI 1]]/\True))) (sB a)))))))
def yYo (i:vl):Prop:=
 (0<=i.a/\i.a<(kK i))/\∃(a:Bool),∃(b:Bool),∃(c:Int),∃(d:Int),∃(e:Int),∃(f:Int),zF (aa zY i.fm) i.a.toNat 0 6=ax [D.v (.bool a),D.v (.bool b),dI c,dI d,dI e,dI f]/\(0<=i.b/\i.b<(kK i))/\∃(g:Bool),∃(h:Bool),∃(j:Int),∃(k:Int),∃(l:Int),∃(m:Int),zF (aa zY i.fm) i.b.toNat 0 6=ax [D.v (.bool g),D.v (.bool h),dI j,dI k,dI l,dI m]/\(XX i b g d j f l)/\XX i b g d j f l
def Vb (a:vl):=(a.out++wb a.fm (AK.mk a.a 2) (AK.mk a.b 2) a.less)
def rS (a:vl):Prop:=ez (aj 6 (aa zY a.fm)=A' (a.fm,a.out) 1/\aa zK (Vb a)=aa zK a.out/\True)
def Yy (a:vl) (b:Bool) (c:Bool) (d:Int) (e:Int) (f:Int) (g:Int):Prop:=Qq a (Qq a (True/\(qJ a)/\a.b=a.b/\True/\du (!b) (rS a) (du (!c) (rS a) (∃(h:I2),h.x=d/\h.y=e/\(j0 h)/\fp (du a.less (∃(k:I2),k.x=e/\k.y=d/\(j0 k)/\fp (du (g7 k.x k.y).snd (EL a (ez (aj 6 (aa zY a.fm)=A' (a.fm,a.out) 1/\aa zK (Vb a)=aa zK a.out++[[dI ((g7 k.x k.y).fst),dI (min f g),dI a.a,dI 2,dI a.b,dI 2]]/\True))) (rS a))) (du (gX h.x h.y).snd (EL a (ez (aj 6 (aa zY a.fm)=A' (a.fm,a.out) 1/\aa zK (Vb a)=aa zK a.out++[[dI ((gX h.x h.y).fst),dI (min f g),dI a.a,dI 2,dI a.b,dI 2]]/\True))) (rS a)))))))
def yXj (i:vl):Prop:=
 (0<=i.a/\i.a<(kK i))/\∃(a:Bool),∃(b:Bool),∃(c:Int),∃(d:Int),∃(e:Int),∃(f:Int),zF (aa zY i.fm) i.a.toNat 0 6=ax [D.v (.bool a),D.v (.bool b),dI c,dI d,dI e,dI f]/\(0<=i.b/\i.b<(kK i))/\∃(g:Bool),∃(h:Bool),∃(j:Int),∃(k:Int),∃(l:Int),∃(m:Int),zF (aa zY i.fm) i.b.toNat 0 6=ax [D.v (.bool g),D.v (.bool h),dI j,dI k,dI l,dI m]/\(Yy i b h d k f m)/\Yy i b h d k f m
def zWo:IC.ok Tryz.prog 171:=ix (V:=yTi) mixed fx 0 (λ_=>[]) (λ_=>[]) [] Tryz.func171 λ(n:Int) h=>by
 have h:n=1\/n=2:=h;refine⟨(),?_,trivial⟩;rw[iD (by omega)]
def z6y:GB.ok Tryz.prog 121:=ix (V:=yPw) mixed fx 0 (λ_=>[]) (λ_=>[]) [] Tryz.func121 λ(i:D4) _=>by
 refine Cv.du.mk (λe=>⟨(),?_,trivial⟩) (λe=>⟨(),?_,trivial⟩)
 ·have e:i.side=1:=by simpa using e
  simp[jj,e]
 ·have e:i.side≠1:=by simpa using e
  simp[jj,e]
def yNq:Mo.ok Tryz.prog 60:=ix (V:=y5o) mixed fx 0 (λ_=>[]) (λ_=>[]) [] Tryz.func60 λ(i:EN) _=>by
 refine Cv.du.mk (λe=>⟨(),?_,trivial⟩) (λe=>⟨(),?_,trivial⟩)
 ·have e:i.b=aq:=e;rw[e,qj]
 ·have e:i.b=ap:=e;rw[e,vd]
def VA (a b:Int):(if b<a then b else a)=min a b:=by split<;>omega
def xAa (i:vl) (h:RZ.du i):yYl i:=by
 obtain⟨a0,a1,b0,b1,⟨ht,hp⟩,ho⟩:0<=i.a/\i.a<i.fm.length/\0<=i.b/\i.b<i.fm.length/\vF i.fm/\i.out.length<=1000:=h;obtain⟨x,hx⟩:=z6 (l:=i.fm) (i:=i.a.toNat) oM;obtain⟨y,hy⟩:=z6 (l:=i.fm) (i:=i.b.toNat) oM;obtain⟨⟨px1,px2⟩,px3,px4⟩:=hp x (mc hx);obtain⟨⟨py1,py2⟩,py3,py4⟩:=hp y (mc hy);have e0:wb i.fm ⟨i.a,1⟩ ⟨i.b,1⟩ i.less=if x.gp && y.gp && (if i.less then g7 y.p1 x.p1 else gX x.p1 y.p1).2 then[⟨(if i.less then g7 y.p1 x.p1 else gX x.p1 y.p1).1,min x.q1 y.q1,⟨i.a,1⟩,⟨i.b,1⟩⟩]else[]:=by
  simp only[wb,mi,hx,hy,zj];rfl
 unfold yYl XD EL fp ez Qq j6 j8 qJ kK j0 sA ez UO dI;simp only[iz];refine⟨⟨oM,oM⟩,x.gp,x.gj,x.p1,x.p2,x.q1,x.q2,kf hx (by simp[zY]) rfl,⟨oM,oM⟩,y.gp,y.gj,y.p1,y.p2,y.q1,y.q2,kf hy (by simp[zY]) rfl,?_⟩;rw[e0]
 (repeat'(first|exact rfl|exact trivial|assumption|apply ar|refineλ(_:Unit) (_:True)=>?_|refine ao () ?_|omega|(dsimp only;omega)))
 all_goals
  refine Cv.du.mk (λc1=> ?_) (λc1=>Cv.du.mk (λc2=> ?_) (λc2=> ?_))
  ·have c1:x.gp=ap:=by simpa using c1
   simp only[c1,vd,nr,if_false,pd];exact kp
  ·have c2:y.gp=ap:=by simpa using c2
   simp only[c2,Hy,vd,nr,if_false,pd];exact kp
  ·have c1:x.gp=aq:=by simpa using c1
   have c2:y.gp=aq:=by simpa using c2
   simp only[c1,c2,qj,VA];refine⟨⟨x.p1,y.p1⟩,?_⟩
   (repeat'(first|exact rfl|exact trivial|assumption|apply ar|refineλ(_:Unit) (_:True)=>?_|refine ao () ?_|omega|(dsimp only;omega)))
   refine Cv.du.mk (λc3=> ?_) (λc3=> ?_)
   ·have c3:i.less=aq:=c3;simp only[c3,if_true];refine⟨⟨y.p1,x.p1⟩,?_⟩
    (repeat'(first|exact rfl|exact trivial|assumption|apply ar|refineλ(_:Unit) (_:True)=>?_|refine ao () ?_|omega|(dsimp only;omega)))
    refine Cv.du.mk (λc4=> ?_) (λc4=> ?_)
    ·have c4:(g7 y.p1 x.p1).2=aq:=c4;simp only[c4,if_true,jz];exact kp
    ·have c4:(g7 y.p1 x.p1).2=ap:=c4;simp only[c4,nr,if_false,pd];exact kp
   ·have c3:i.less=ap:=c3;simp only[c3,nr,if_false];refine Cv.du.mk (λc4=> ?_) (λc4=> ?_)
    ·have c4:(gX x.p1 y.p1).2=aq:=c4;simp only[c4,if_true,jz];exact kp
    ·have c4:(gX x.p1 y.p1).2=ap:=c4;simp only[c4,nr,if_false,pd];exact kp
def ySh:RZ.ok Tryz.prog 172:=ix mixed (dz Vs (dz Tq fx)) 0 (λ_=>[]) (λ_=>[]) [] Tryz.func172 xAa
def y6u (i:vl) (h:RY.du i):yXh i:=by
 obtain⟨a0,a1,b0,b1,⟨ht,hp⟩,ho⟩:0<=i.a/\i.a<i.fm.length/\0<=i.b/\i.b<i.fm.length/\vF i.fm/\i.out.length<=1000:=h;obtain⟨x,hx⟩:=z6 (l:=i.fm) (i:=i.a.toNat) oM;obtain⟨y,hy⟩:=z6 (l:=i.fm) (i:=i.b.toNat) oM;obtain⟨⟨px1,px2⟩,px3,px4⟩:=hp x (mc hx);obtain⟨⟨py1,py2⟩,py3,py4⟩:=hp y (mc hy);have e0:wb i.fm ⟨i.a,1⟩ ⟨i.b,2⟩ i.less=if x.gp && y.gj && (if i.less then g7 y.p2 x.p1 else gX x.p1 y.p2).2 then[⟨(if i.less then g7 y.p2 x.p1 else gX x.p1 y.p2).1,min x.q1 y.q2,⟨i.a,1⟩,⟨i.b,2⟩⟩]else[]:=by
  simp only[wb,mi,hx,hy,zj];rfl
 unfold yXh Ye EL fp ez Qq sC ez U3 j6 j8 qJ j0 kK dI;simp only[iz];refine⟨⟨oM,oM⟩,x.gp,x.gj,x.p1,x.p2,x.q1,x.q2,kf hx (by simp[zY]) rfl,⟨oM,oM⟩,y.gp,y.gj,y.p1,y.p2,y.q1,y.q2,kf hy (by simp[zY]) rfl,?_⟩;rw[e0]
 (repeat'(first|exact rfl|exact trivial|assumption|apply ar|refineλ(_:Unit) (_:True)=>?_|refine ao () ?_|omega|(dsimp only;omega)))
 all_goals
  refine Cv.du.mk (λc1=> ?_) (λc1=>Cv.du.mk (λc2=> ?_) (λc2=> ?_))
  ·have c1:x.gp=ap:=by simpa using c1
   simp only[c1,vd,nr,if_false,pd];exact kp
  ·have c2:y.gj=ap:=by simpa using c2
   simp only[c2,Hy,vd,nr,if_false,pd];exact kp
  ·have c1:x.gp=aq:=by simpa using c1
   have c2:y.gj=aq:=by simpa using c2
   simp only[c1,c2,qj,VA];refine⟨⟨x.p1,y.p2⟩,?_⟩
   (repeat'(first|exact rfl|exact trivial|assumption|apply ar|refineλ(_:Unit) (_:True)=>?_|refine ao () ?_|omega|(dsimp only;omega)))
   refine Cv.du.mk (λc3=> ?_) (λc3=> ?_)
   ·have c3:i.less=aq:=c3;simp only[c3,if_true];refine⟨⟨y.p2,x.p1⟩,?_⟩
    (repeat'(first|exact rfl|exact trivial|assumption|apply ar|refineλ(_:Unit) (_:True)=>?_|refine ao () ?_|omega|(dsimp only;omega)))
    refine Cv.du.mk (λc4=> ?_) (λc4=> ?_)
    ·have c4:(g7 y.p2 x.p1).2=aq:=c4;simp only[c4,if_true,jz];exact kp
    ·have c4:(g7 y.p2 x.p1).2=ap:=c4;simp only[c4,nr,if_false,pd];exact kp
   ·have c3:i.less=ap:=c3;simp only[c3,nr,if_false];refine Cv.du.mk (λc4=> ?_) (λc4=> ?_)
    ·have c4:(gX x.p1 y.p2).2=aq:=c4;simp only[c4,if_true,jz];exact kp
    ·have c4:(gX x.p1 y.p2).2=ap:=c4;simp only[c4,nr,if_false,pd];exact kp
def yWp:RY.ok Tryz.prog 172:=ix mixed (dz Vs (dz Tq fx)) 0 (λ_=>[]) (λ_=>[]) [] Tryz.func172 y6u
def y9d (i:vl) (h:RX.du i):yYo i:=by
 obtain⟨a0,a1,b0,b1,⟨ht,hp⟩,ho⟩:0<=i.a/\i.a<i.fm.length/\0<=i.b/\i.b<i.fm.length/\vF i.fm/\i.out.length<=1000:=h;obtain⟨x,hx⟩:=z6 (l:=i.fm) (i:=i.a.toNat) oM;obtain⟨y,hy⟩:=z6 (l:=i.fm) (i:=i.b.toNat) oM;obtain⟨⟨px1,px2⟩,px3,px4⟩:=hp x (mc hx);obtain⟨⟨py1,py2⟩,py3,py4⟩:=hp y (mc hy);have e0:wb i.fm ⟨i.a,2⟩ ⟨i.b,1⟩ i.less=if x.gj && y.gp && (if i.less then g7 y.p1 x.p2 else gX x.p2 y.p1).2 then[⟨(if i.less then g7 y.p1 x.p2 else gX x.p2 y.p1).1,min x.q2 y.q1,⟨i.a,2⟩,⟨i.b,1⟩⟩]else[]:=by
  simp only[wb,mi,hx,hy,zj];rfl
 unfold yYo XX EL fp ez Qq sB ez U0 j6 j8 qJ j0 kK dI;simp only[iz];refine⟨⟨oM,oM⟩,x.gp,x.gj,x.p1,x.p2,x.q1,x.q2,kf hx (by simp[zY]) rfl,⟨oM,oM⟩,y.gp,y.gj,y.p1,y.p2,y.q1,y.q2,kf hy (by simp[zY]) rfl,?_⟩;rw[e0]
 (repeat'(first|exact rfl|exact trivial|assumption|apply ar|refineλ(_:Unit) (_:True)=>?_|refine ao () ?_|omega|(dsimp only;omega)))
 all_goals
  refine Cv.du.mk (λc1=> ?_) (λc1=>Cv.du.mk (λc2=> ?_) (λc2=> ?_))
  ·have c1:x.gj=ap:=by simpa using c1
   simp only[c1,vd,nr,if_false,pd];exact kp
  ·have c2:y.gp=ap:=by simpa using c2
   simp only[c2,Hy,vd,nr,if_false,pd];exact kp
  ·have c1:x.gj=aq:=by simpa using c1
   have c2:y.gp=aq:=by simpa using c2
   simp only[c1,c2,qj,VA];refine⟨⟨x.p2,y.p1⟩,?_⟩
   (repeat'(first|exact rfl|exact trivial|assumption|apply ar|refineλ(_:Unit) (_:True)=>?_|refine ao () ?_|omega|(dsimp only;omega)))
   refine Cv.du.mk (λc3=> ?_) (λc3=> ?_)
   ·have c3:i.less=aq:=c3;simp only[c3,if_true];refine⟨⟨y.p1,x.p2⟩,?_⟩
    (repeat'(first|exact rfl|exact trivial|assumption|apply ar|refineλ(_:Unit) (_:True)=>?_|refine ao () ?_|omega|(dsimp only;omega)))
    refine Cv.du.mk (λc4=> ?_) (λc4=> ?_)
    ·have c4:(g7 y.p1 x.p2).2=aq:=c4;simp only[c4,if_true,jz];exact kp
    ·have c4:(g7 y.p1 x.p2).2=ap:=c4;simp only[c4,nr,if_false,pd];exact kp
   ·have c3:i.less=ap:=c3;simp only[c3,nr,if_false];refine Cv.du.mk (λc4=> ?_) (λc4=> ?_)
    ·have c4:(gX x.p2 y.p1).2=aq:=c4;simp only[c4,if_true,jz];exact kp
    ·have c4:(gX x.p2 y.p1).2=ap:=c4;simp only[c4,nr,if_false,pd];exact kp
def ySl:RX.ok Tryz.prog 172:=ix mixed (dz Vs (dz Tq fx)) 0 (λ_=>[]) (λ_=>[]) [] Tryz.func172 y9d
def y9p (i:vl) (h:RW.du i):yXj i:=by
 obtain⟨a0,a1,b0,b1,⟨ht,hp⟩,ho⟩:0<=i.a/\i.a<i.fm.length/\0<=i.b/\i.b<i.fm.length/\vF i.fm/\i.out.length<=1000:=h;obtain⟨x,hx⟩:=z6 (l:=i.fm) (i:=i.a.toNat) oM;obtain⟨y,hy⟩:=z6 (l:=i.fm) (i:=i.b.toNat) oM;obtain⟨⟨px1,px2⟩,px3,px4⟩:=hp x (mc hx);obtain⟨⟨py1,py2⟩,py3,py4⟩:=hp y (mc hy);have e0:wb i.fm ⟨i.a,2⟩ ⟨i.b,2⟩ i.less=if x.gj && y.gj && (if i.less then g7 y.p2 x.p2 else gX x.p2 y.p2).2 then[⟨(if i.less then g7 y.p2 x.p2 else gX x.p2 y.p2).1,min x.q2 y.q2,⟨i.a,2⟩,⟨i.b,2⟩⟩]else[]:=by
  simp only[wb,mi,hx,hy,zj];rfl
 unfold yXj Yy EL fp ez Qq rS ez Vb j6 j8 qJ j0 kK dI;simp only[iz];refine⟨⟨oM,oM⟩,x.gp,x.gj,x.p1,x.p2,x.q1,x.q2,kf hx (by simp[zY]) rfl,⟨oM,oM⟩,y.gp,y.gj,y.p1,y.p2,y.q1,y.q2,kf hy (by simp[zY]) rfl,?_⟩;rw[e0]
 (repeat'(first|exact rfl|exact trivial|assumption|apply ar|refineλ(_:Unit) (_:True)=>?_|refine ao () ?_|omega|(dsimp only;omega)))
 all_goals
  refine Cv.du.mk (λc1=> ?_) (λc1=>Cv.du.mk (λc2=> ?_) (λc2=> ?_))
  ·have c1:x.gj=ap:=by simpa using c1
   simp only[c1,vd,nr,if_false,pd];exact kp
  ·have c2:y.gj=ap:=by simpa using c2
   simp only[c2,Hy,vd,nr,if_false,pd];exact kp
  ·have c1:x.gj=aq:=by simpa using c1
   have c2:y.gj=aq:=by simpa using c2
   simp only[c1,c2,qj,VA];refine⟨⟨x.p2,y.p2⟩,?_⟩
   (repeat'(first|exact rfl|exact trivial|assumption|apply ar|refineλ(_:Unit) (_:True)=>?_|refine ao () ?_|omega|(dsimp only;omega)))
   refine Cv.du.mk (λc3=> ?_) (λc3=> ?_)
   ·have c3:i.less=aq:=c3;simp only[c3,if_true];refine⟨⟨y.p2,x.p2⟩,?_⟩
    (repeat'(first|exact rfl|exact trivial|assumption|apply ar|refineλ(_:Unit) (_:True)=>?_|refine ao () ?_|omega|(dsimp only;omega)))
    refine Cv.du.mk (λc4=> ?_) (λc4=> ?_)
    ·have c4:(g7 y.p2 x.p2).2=aq:=c4;simp only[c4,if_true,jz];exact kp
    ·have c4:(g7 y.p2 x.p2).2=ap:=c4;simp only[c4,nr,if_false,pd];exact kp
   ·have c3:i.less=ap:=c3;simp only[c3,nr,if_false];refine Cv.du.mk (λc4=> ?_) (λc4=> ?_)
    ·have c4:(gX x.p2 y.p2).2=aq:=c4;simp only[c4,if_true,jz];exact kp
    ·have c4:(gX x.p2 y.p2).2=ap:=c4;simp only[c4,nr,if_false,pd];exact kp
def yWg:RW.ok Tryz.prog 172:=ix mixed (dz Vs (dz Tq fx)) 0 (λ_=>[]) (λ_=>[]) [] Tryz.func172 y9p
structure Fx where
 i:vl
 sa:Bool
 sb:Bool
def Md:gx:=gh Fx (λj=>[.nm 0 0,.agg [zB j.i.a,zB (zA j.sa)],.agg [zB j.i.b,zB (zA j.sb)],y4 j.i.less]) (λj=>W7 j.i.fm j.i.out)
 (λj=>0<=j.i.a/\j.i.a<j.i.fm.length/\0<=j.i.b/\j.i.b<j.i.fm.length/\vF j.i.fm/\j.i.out.length<=1000) (λ_=>EX) (λj=>MkP j.i.fm (j.i.out++wb j.i.fm ⟨j.i.a,zA j.sa⟩ ⟨j.i.b,zA j.sb⟩ j.i.less))
def z3l:Md.ok Tryz.prog 172:=λj=>match j with
 |⟨i,ap,ap⟩=>ySh i
 |⟨i,ap,aq⟩=>yWp i
 |⟨i,aq,ap⟩=>ySl i
 |⟨i,aq,aq⟩=>yWg i
structure bM where
 p:fj
 fm:List iS
 inst:Int
def kP (i:bM) (s:Int) (k:Nat):List Quote:=(ae k).flatMap λ(k:Nat)=>wb i.fm ⟨(i.p.spread i.inst (i.inst+1+k)).1,s⟩ ⟨i.inst+1+k,s⟩ ap
def kY (i:bM) (s:Int) (k:Nat):List Quote:=(ae k).flatMap λ(k:Nat)=>wb i.fm ⟨(i.p.spread k i.inst).1,3-s⟩ ⟨k,s⟩ aq
def yO (i:bM) (s:Int):List Quote:=wb i.fm ⟨(i.p.gf i.inst).2.1,3-s⟩ ⟨(i.p.gf i.inst).1,s⟩ aq
def cX (i:bM) (s:Int) (q:Quote):Quote:={q with a:=⟨(i.p.gf i.inst).1,s⟩,b:=⟨(i.p.gf i.inst).2.1,3-s⟩}
def qM (i:bM) (s:Int):List Quote:=
 if i.p.count=0\/(i.fm.length:Int)≠i.p.count\/i.inst<0\/(i.p.count:Int)<=i.inst then[]
 else if(i.p.gf i.inst).2.2 then(yO i s).map (cX i s)
 else kP i s (i.p.dr.length-(i.inst.toNat+1))++kY i s i.inst.toNat
def yXt (s:Int):gx:=gh bM (λi=>[oa i.p,ru 6 (i.fm.map zY),zB i.inst,zB s]) (λ_=>[]) (λi=>i.p.small/\vF i.fm) (λ_=> .own 0) (λi=>[.own 128 6 ((qM i s).map zK)])
def Kp:gx:=yXt 1
def Kn:gx:=yXt 2
def y7o (i:bM) (s:Int):List ib:=[
 {ι:=Nat,dv:=λk=>[(10,.nm 0 0),(77,zB k)],rows:=λk=>(ae 3).map (A' (i.fm,((yO i s).take k).map (cX i s)++(yO i s).drop k))},
 {ι:=Nat,dv:=λk=>[(10,.nm 0 0),(17,zB (i.inst+1+k))],rows:=λk=>W7 i.fm (kP i s k)},
 {ι:=Nat,dv:=λk=>[(10,.nm 0 0),(120,zB k)],rows:=λk=>W7 i.fm (kP i s (i.p.dr.length-(i.inst.toNat+1))++kY i s k)}]
structure tW where
 i:bM
 s:Bool
def aa2:gx:=gh tW (λj=>[oa j.i.p,ru 6 (j.i.fm.map zY),zB j.i.inst,zB (zA j.s)]) (λ_=>[]) (λj=>j.i.p.small/\vF j.i.fm) (λ_=> .own 0) (λj=>[.own 128 6 ((qM j.i (zA j.s)).map zK)])
def yC (i:bM) (s:Int):List Quote:=(qM i s).filter λq=>decide (i.p.dp i.inst q.dp=0)
def Dt:gx:=gh tW (λj=>[oa j.i.p,ru 6 (j.i.fm.map zY),zB j.i.inst,zB (zA j.s)]) (λ_=>[]) (λj=>j.i.p.small/\vF j.i.fm) (λ_=> .own 0) (λj=>[.own 128 6 ((yC j.i (zA j.s)).map zK)])
def yUg (j:tW):List ib:=[{ι:=Nat,dv:=λk=>[(9,.own 0),(18,zB k)],rows:=λk=>[.own 128 6 ((((qM j.i (zA j.s)).take k).filter λq=>decide (j.i.p.dp j.i.inst q.dp=0)).map zK)]}]
structure yy where
 l:List Quote
 s:Int
def zN (l:List Quote) (s:Int):Quote×Bool:=match l with
 |[]=>(y3a,ap)
 |q::r=>(r.foldl (λb q=>if jj s q.dp b.dp then q else b) q,aq)
def Gp:gx:=gh yy (λi=>[ru 6 (i.l.map zK),zB i.s]) (λ_=>[]) (λi=>(i.s=1\/i.s=2)/\i.l.length<=1000000) (λi=> .jm [Tp (zN i.l i.s).1,y4 (zN i.l i.s).2]) (λ_=>[])
def y1h (i:yy):List ib:=[{ι:=Nat,dv:=λk=>[(6,.nm 0 0),(26,zB k)],rows:=λk=>[.cells (Tp (zN (i.l.take (max k 1)) i.s).1).cl 128]}]
def rT (a:bM):Prop:=aj 6 (aa zY a.fm)=aj 6 (aa zY a.fm)/\Q2 a.p (dm (aj 1 (iE a.p.dr)))
def Uc (a:Nat->Prop) (b:Nat) (c:Nat->Nat) (d:Nat) (e:bM):Prop:=a b/\c b<c d/\dm (aj 6 (aa zY e.fm))/\rT e
def UD (a:Nat->Prop) (b:Nat) (c:Nat->Nat) (d:Nat) (e:bM):Prop:=a b/\c b<c d/\rT e
def vE (a:iS):Prop:=((-9223372036854775808)<=a.p1/\a.p1<=9223372036854775807)/\(-9223372036854775808)<=a.p2/\a.p2<=9223372036854775807
def dG (a:Fx):Prop:=0<=a.i.a/\a.i.a<(↑a.i.fm.length:Int)/\0<=a.i.b/\a.i.b<(↑a.i.fm.length:Int)/\(a.i.fm.length<=1000000/\∀(b:iS),b∈a.i.fm->vE b)/\a.i.out.length<=1000
def gK (a:Fx):=(a.i.out++wb a.i.fm (AK.mk a.i.a (zA a.sa)) (AK.mk a.i.b (zA a.sb)) a.i.less)
def U6 (a:Nat) (b:Fx):=(decide ((↑a:Int)<(↑(aa zK (gK b)).length:Int)))
def qK (a:lW):Prop:=Q8 a.p (a.p.settle.length<=1099511627776)
def kM (a:b6):Prop:=Q8 a.p (a.p.settle.length<=1099511627776)
def r9 (a:bM) (b:Nat):=(aa (cX a 1) (ab b (yO a 1))++ag b (yO a 1))
def UR (a:bM) (b:Nat):=(aa zK (r9 a b))
def sI (a:bM) (b:Nat):=(kP a 1 (a.p.dr.length-(a.inst.toNat+1))++kY a 1 b)
def uI (a:b6):=((a.p.gf a.n).snd.fst)
@[reducible] def NW (a:Fx)(b:bM)(R:Prop):Prop:=a.i.less=aq/\aj 6 (aa zY a.i.fm)=aj 6 (aa zY b.fm)/\R
@[reducible] def W5 (a:vl)(b:b6)(c:Int)(R:Prop):Prop:=aj 6 (aa zY a.fm)=aj 6 (aa zY a.fm)/\ak [V.d (dI (uI b)),V.d (dI (3-c))] 125=ak [V.d (dI (uI b)),V.d (dI (3-c))] 125/\R
def yYy (i:bM):Prop:=
 ∃(a:fj),Qa a i.p ((zU a)/\fp (du ((↑a.count:Int)==0) (ez (aa zK (qM i 1)=[]/\True)) (du ((↑(aa zY i.fm).length:Int) !=(↑a.count:Int)) (ez (aa zK (qM i 1)=[]/\True)) (du (decide (i.inst<0)) (ez (aa zK (qM i 1)=[]/\True)) (du (decide (i.inst>=(↑a.count:Int))) (ez (aa zK (qM i 1)=[]/\True)) (∃(c:b6),Qa c.p i.p (c.n=i.inst/\(kM c)/\fp (du (c.p.gf c.n).snd.snd (∃(e:Int),e=1/\(e=1\/e=2)/\fp (∃(g:Fx),g.i.a=(c.p.gf c.n).snd.fst/\zA g.sa=3-e/\g.i.b=(c.p.gf c.n).fst/\zA g.sb=1/\NW g i (aa zK g.i.out=[]/\(dG g)/\fp (∃(j:Nat),(↑j:Int)=0/\aj 6 (aa zY i.fm)=aj 6 (aa zY g.i.fm)/\aa zK (r9 i j)=aa zK (gK g)/\∃(k:Nat->Prop),∃(l:Nat->Nat),k j/\∀(m:Nat),k m->du (U6 m g) ((0<=(↑m:Int)/\(↑m:Int)<(↑(UR i m).length:Int))/\(↑m:Int).toNat<(UR i m).length/\∃(n:Nat),(↑n:Int)=au.wrap ((↑m:Int)+1)/\dm (aj 6 (aa zY i.fm))/\aa zK (r9 i n)=zX (UR i m) (↑m:Int).toNat 2 [dI ((c.p.gf c.n).fst),dI 1,dI (uI c),dI (3-e)]/\k n/\l n<l m/\W5 g.i c e (dm (ak [V.d (dI ((c.p.gf c.n).fst)),V.d (dI 1)] 125)/\rT i)) (ez (aa zK (qM i 1)=aa zK (r9 i m)/\True)))))) (∃(e:Nat),i.inst+1+(↑e:Int)=au.wrap (i.inst+1)/\dm (aj 6 (aa zY i.fm))/\aa zK (kP i 1 e)=[]/\∃(f:Nat->Prop),∃(g:Nat->Nat),f e/\∀(h:Nat),f h->du (decide (i.inst+1+(↑h:Int)<(↑(iE i.p.dr).length:Int))) (∃(j:lW),Qa j.p i.p (j.a=i.inst/\j.b=i.inst+1+(↑h:Int)/\(qK j)/\fp (∃(l:Fx),l.i.a=(j.p.spread j.a j.b).fst/\zA l.sa=1/\l.i.b=i.inst+1+(↑h:Int)/\zA l.sb=1/\l.i.less=ap/\aj 6 (aa zY l.i.fm)=aj 6 (aa zY i.fm)/\aa zK l.i.out=aa zK (kP i 1 h)/\(dG l)/\fp (∃(n:Nat),i.inst+1+(↑n:Int)=au.wrap (i.inst+1+(↑h:Int)+1)/\aj 6 (aa zY i.fm)=aj 6 (aa zY l.i.fm)/\aa zK (kP i 1 n)=aa zK (gK l)/\UD f n g h i)))) (∃(j:Nat),(↑j:Int)=0/\dm (aj 6 (aa zY i.fm))/\aa zK (sI i j)=aa zK (kP i 1 h)/\∃(k:Nat->Prop),∃(l:Nat->Nat),k j/\∀(m:Nat),k m->du (decide ((↑m:Int)<i.inst)) (∃(n:lW),Qa n.p i.p (n.a=(↑m:Int)/\n.b=i.inst/\(qK n)/\fp (∃(q:Int),q=1/\(q=1\/q=2)/\fp (∃(s:Fx),s.i.a=(n.p.spread n.a n.b).fst/\zA s.sa=3-q/\s.i.b=(↑m:Int)/\zA s.sb=1/\NW s i (aa zK s.i.out=aa zK (sI i m)/\(dG s)/\fp (∃(u:Nat),(↑u:Int)=au.wrap ((↑m:Int)+1)/\aj 6 (aa zY i.fm)=aj 6 (aa zY s.i.fm)/\aa zK (sI i u)=aa zK (gK s)/\Uc k u l m i)))))) (ez (aa zK (qM i 1)=aa zK (sI i m)/\True))))))))))))
def rW (a:bM) (b:Nat):=(aa (cX a 2) (ab b (yO a 2))++ag b (yO a 2))
def U2 (a:bM) (b:Nat):=(aa zK (rW a b))
def rZ (a:bM) (b:Nat):=(kP a 2 (a.p.dr.length-(a.inst.toNat+1))++kY a 2 b)
def yZd (i:bM):Prop:=
 ∃(a:fj),Qa a i.p ((zU a)/\fp (du ((↑a.count:Int)==0) (ez (aa zK (qM i 2)=[]/\True)) (du ((↑(aa zY i.fm).length:Int) !=(↑a.count:Int)) (ez (aa zK (qM i 2)=[]/\True)) (du (decide (i.inst<0)) (ez (aa zK (qM i 2)=[]/\True)) (du (decide (i.inst>=(↑a.count:Int))) (ez (aa zK (qM i 2)=[]/\True)) (∃(c:b6),Qa c.p i.p (c.n=i.inst/\(kM c)/\fp (du (c.p.gf c.n).snd.snd (∃(e:Int),e=2/\(e=1\/e=2)/\fp (∃(g:Fx),g.i.a=(c.p.gf c.n).snd.fst/\zA g.sa=3-e/\g.i.b=(c.p.gf c.n).fst/\zA g.sb=2/\NW g i (aa zK g.i.out=[]/\(dG g)/\fp (∃(j:Nat),(↑j:Int)=0/\aj 6 (aa zY i.fm)=aj 6 (aa zY g.i.fm)/\aa zK (rW i j)=aa zK (gK g)/\∃(k:Nat->Prop),∃(l:Nat->Nat),k j/\∀(m:Nat),k m->du (U6 m g) ((0<=(↑m:Int)/\(↑m:Int)<(↑(U2 i m).length:Int))/\(↑m:Int).toNat<(U2 i m).length/\∃(n:Nat),(↑n:Int)=au.wrap ((↑m:Int)+1)/\dm (aj 6 (aa zY i.fm))/\aa zK (rW i n)=zX (U2 i m) (↑m:Int).toNat 2 [dI ((c.p.gf c.n).fst),dI 2,dI (uI c),dI (3-e)]/\k n/\l n<l m/\W5 g.i c e (dm (ak [V.d (dI ((c.p.gf c.n).fst)),V.d (dI 2)] 125)/\rT i)) (ez (aa zK (qM i 2)=aa zK (rW i m)/\True)))))) (∃(e:Nat),i.inst+1+(↑e:Int)=au.wrap (i.inst+1)/\dm (aj 6 (aa zY i.fm))/\aa zK (kP i 2 e)=[]/\∃(f:Nat->Prop),∃(g:Nat->Nat),f e/\∀(h:Nat),f h->du (decide (i.inst+1+(↑h:Int)<(↑(iE i.p.dr).length:Int))) (∃(j:lW),Qa j.p i.p (j.a=i.inst/\j.b=i.inst+1+(↑h:Int)/\(qK j)/\fp (∃(l:Fx),l.i.a=(j.p.spread j.a j.b).fst/\zA l.sa=2/\l.i.b=i.inst+1+(↑h:Int)/\zA l.sb=2/\l.i.less=ap/\aj 6 (aa zY l.i.fm)=aj 6 (aa zY i.fm)/\aa zK l.i.out=aa zK (kP i 2 h)/\(dG l)/\fp (∃(n:Nat),i.inst+1+(↑n:Int)=au.wrap (i.inst+1+(↑h:Int)+1)/\aj 6 (aa zY i.fm)=aj 6 (aa zY l.i.fm)/\aa zK (kP i 2 n)=aa zK (gK l)/\UD f n g h i)))) (∃(j:Nat),(↑j:Int)=0/\dm (aj 6 (aa zY i.fm))/\aa zK (rZ i j)=aa zK (kP i 2 h)/\∃(k:Nat->Prop),∃(l:Nat->Nat),k j/\∀(m:Nat),k m->du (decide ((↑m:Int)<i.inst)) (∃(n:lW),Qa n.p i.p (n.a=(↑m:Int)/\n.b=i.inst/\(qK n)/\fp (∃(q:Int),q=2/\(q=1\/q=2)/\fp (∃(s:Fx),s.i.a=(n.p.spread n.a n.b).fst/\zA s.sa=3-q/\s.i.b=(↑m:Int)/\zA s.sb=2/\NW s i (aa zK s.i.out=aa zK (rZ i m)/\(dG s)/\fp (∃(u:Nat),(↑u:Int)=au.wrap ((↑m:Int)+1)/\aj 6 (aa zY i.fm)=aj 6 (aa zY s.i.fm)/\aa zK (rZ i u)=aa zK (gK s)/\Uc k u l m i)))))) (ez (aa zK (qM i 2)=aa zK (rZ i m)/\True))))))))))))
def wI (a:tW):=(aa zK (qM a.i (zA a.s)))
def zEu (a:Nat->Prop) (b:Nat) (c:Nat->Nat) (d:Nat) (e:tW) (f:tW):Prop:=a b/\c b<c d/\dm (am 128 6 (wI e))/\Q2 f.i.p (dm (aj 1 (iE f.i.p.dr)))
def qD (a:tW):Prop:=(Q8 a.i.p (a.i.p.settle.length<=1099511627776))/\a.i.fm.length<=1000000/\∀(b:iS),b∈a.i.fm->vE b
def dJ (a:tW):=(↑(wI a).length:Int)
def yAu (j:tW):Prop:=
 ∃(a:tW),Qa a.i.p j.i.p (aa zY a.i.fm=aa zY j.i.fm/\a.i.inst=j.i.inst/\zA a.s=zA j.s/\(qD a)/\fp (∃(c:Nat),(↑c:Int)=0/\aa zK (af (λ(q:Sx.Quote) ↦ decide (j.i.p.dp j.i.inst q.dp=0)) (ab c (qM j.i (zA j.s))))=[]/\∃(d:Nat->Prop),∃(e:Nat->Nat),d c/\∀(f:Nat),d f->du (decide ((↑f:Int)<(dJ a))) ((0<=(↑f:Int)/\(↑f:Int)<(dJ a))/\∃(g:Int),∃(h:Int),∃(k:Int),∃(l:Int),∃(m:Int),∃(n:Int),zF (wI a) (↑f:Int).toNat 0 6=ax [dI g,dI h,dI k,dI l,dI m,dI n]/\∃(p:lW),Qa p.p j.i.p (p.a=j.i.inst/\p.b=g/\(qK p)/\∀(q:Unit),True->du (p.p.dp p.a p.b==0) (((aa zK (af (λ(q:Sx.Quote) ↦ decide (j.i.p.dp j.i.inst q.dp=0)) (ab f (qM j.i (zA j.s))))).length+1)*(48:Nat)<=(140737488355328:Nat)/\∃(r:Nat),(↑r:Int)=au.wrap ((↑f:Int)+1)/\aa zK (af (λ(q:Sx.Quote) ↦ decide (j.i.p.dp j.i.inst q.dp=0)) (ab r (qM j.i (zA j.s))))=aa zK (af (λ(q:Sx.Quote) ↦ decide (j.i.p.dp j.i.inst q.dp=0)) (ab f (qM j.i (zA j.s))))++[[dI g,dI h,dI k,dI l,dI m,dI n]]/\zEu d r e f a j) (∃(r:Nat),(↑r:Int)=au.wrap ((↑f:Int)+1)/\aa zK (af (λ(q:Sx.Quote) ↦ decide (j.i.p.dp j.i.inst q.dp=0)) (ab r (qM j.i (zA j.s))))=aa zK (af (λ(q:Sx.Quote) ↦ decide (j.i.p.dp j.i.inst q.dp=0)) (ab f (qM j.i (zA j.s))))/\zEu d r e f a j))) (ez (aa zK (yC j.i (zA j.s))=aa zK (af (λ(q:Sx.Quote) ↦ decide (j.i.p.dp j.i.inst q.dp=0)) (ab f (qM j.i (zA j.s))))/\True))))
def zFl (a:Nat->Prop) (b:Nat) (c:Nat->Nat) (d:Nat):Prop:=a b/\c b<c d/\dm (ak (Sx.V.agg [V.d (dI 0),V.d (dI 0),V.d (dI 0),V.d (dI 0),V.d (dI 0),V.d (dI 0)]).cl 128)
def yG (a:Nat) (b:yy):=(zN (ab (max a 1) b.l) b.s)
def gB (a:yy):=(↑(aa zK a.l).length:Int)
def XK (a:yy):Prop:=((0:Int)<=(0:Int)/\0<(gB a))/\∃(b:Int),∃(c:Int),∃(d:Int),∃(e:Int),∃(f:Int),∃(g:Int),zF (aa zK a.l) (Int.toNat 0) 0 6=ax [dI b,dI c,dI d,dI e,dI f,dI g]/\∃(h:Nat),(↑h:Int)=0/\(yG h a).fst.dp=b/\(yG h a).fst.dq=c/\(yG h a).fst.a.inst=d/\(yG h a).fst.a.side=e/\(yG h a).fst.b.inst=f/\(yG h a).fst.b.side=g/\∃(j:Nat->Prop),∃(k:Nat->Nat),j h/\∀(l:Nat),j l->du (decide ((↑l:Int)<(gB a))) ((0<=(↑l:Int)/\(↑l:Int)<(gB a))/\∃(m:Int),∃(n:Int),∃(p:Int),∃(q:Int),∃(r:Int),∃(s:Int),zF (aa zK a.l) (↑l:Int).toNat 0 6=ax [dI m,dI n,dI p,dI q,dI r,dI s]/\∃(t:D4),t.side=a.s/\t.x=m/\t.y=(yG l a).fst.dp/\True/\fp (du (jj t.side t.x t.y) (∃(v:Nat),(↑v:Int)=au.wrap ((↑l:Int)+1)/\(yG v a).fst.dp=m/\(yG v a).fst.dq=n/\(yG v a).fst.a.inst=p/\(yG v a).fst.a.side=q/\(yG v a).fst.b.inst=r/\(yG v a).fst.b.side=s/\zFl j v k l) (∃(v:Nat),(↑v:Int)=au.wrap ((↑l:Int)+1)/\(yG v a).fst.dp=(yG l a).fst.dp/\(yG v a).fst.dq=(yG l a).fst.dq/\(yG v a).fst.a.inst=(yG l a).fst.a.inst/\(yG v a).fst.a.side=(yG l a).fst.a.side/\(yG v a).fst.b.inst=(yG l a).fst.b.inst/\(yG v a).fst.b.side=(yG l a).fst.b.side/\zFl j v k l))) (ez ((zN a.l a.s).fst.dp=(yG l a).fst.dp/\(zN a.l a.s).fst.dq=(yG l a).fst.dq/\(zN a.l a.s).fst.a.inst=(yG l a).fst.a.inst/\(zN a.l a.s).fst.a.side=(yG l a).fst.a.side/\(zN a.l a.s).fst.b.inst=(yG l a).fst.b.inst/\(zN a.l a.s).fst.b.side=(yG l a).fst.b.side/\(zN a.l a.s).snd=aq/\True))
def zGb (a:yy):Prop:=ez ((zN a.l a.s).fst.dp=0/\(zN a.l a.s).fst.dq=0/\(zN a.l a.s).fst.a.inst=0/\(zN a.l a.s).fst.a.side=0/\(zN a.l a.s).fst.b.inst=0/\(zN a.l a.s).fst.b.side=0/\(zN a.l a.s).snd=ap/\True)
def yOr (i:yy):Prop:=
 du ((gB i)==0) (zGb i) (du (i.s !=1) (du (i.s !=2) (zGb i) (XK i)) (XK i))
def z8z {l:List Quote} {q:Quote} (s:Int) (h:l[0]? =ax q):(zN (l.take (max 0 1)) s).1=q:=by
 cases l with
 |nil=>simp at h
 |cons a l=>simp at h;subst h;rfl
def z7a {l:List Quote} {j:Nat} {q:Quote} (s:Int) (h:l[j]? =ax q):
 (zN (l.take (max (j+1) 1)) s).1=if jj s q.dp (zN (l.take (max j 1)) s).1.dp then q else(zN (l.take (max j 1)) s).1:=by
 cases l with
 |nil=>simp at h
 |cons a l=>
  cases j with
  |zero=>simp at h;subst h;simp[zN]
  |succ m=>
   simp only[A5]at h;rw[show max (m+1+1) 1=(m+1)+1 by omega,show max (m+1) 1=m+1 by omega,xk,xk,tv,h];simp only[zN,DP,Jh];rfl
def yIl {l:List Quote} (s:Int) (h:l≠[]):(zN l s).2=aq:=by
 cases l with
 |nil=>exact absurd rfl h
 |cons a l=>rfl
def y1x (i:yy) (h:Gp.du i):yOr i:=by
 obtain⟨hs,hl⟩:(i.s=1\/i.s=2)/\i.l.length<=1000000:=h;unfold yOr XK fp ez yG zFl gB zGb ez dI;simp only[iz];refine Cv.du.mk (λc=> ?_) (λc=> ?_)
 ·have e:i.l=[]:=zm (by have:(i.l.length:Int)=0:=(by simpa using c);omega);rw[e];exact kp
 have h0:0<i.l.length:=by
  rcases Nat.eq_zero_or_pos i.l.length with h|h
  ·rw[h]at c;exact absurd c Z8
  ·exact h
 have jf:i.l≠[]:=by intro e;rw[e]at h0;simp at h0
 have two:=yIl i.s jf;obtain⟨q,hq⟩:=z6 h0;have b0:=z8z i.s hq;have fin:(zN (i.l.take (max i.l.length 1)) i.s).1=(zN i.l i.s).1:=by
  rw[oV (by omega)]
 have step:∀j:Nat,j<i.l.length->∀x:Quote,i.l[j]? =ax x->(jj i.s x.dp (zN (i.l.take (max j 1)) i.s).1.dp=aq->(zN (i.l.take (max (j+1) 1)) i.s).1=x)/\(jj i.s x.dp (zN (i.l.take (max j 1)) i.s).1.dp=ap->(zN (i.l.take (max (j+1) 1)) i.s).1=(zN (i.l.take (max j 1)) i.s).1):=λj hj x hx=>by
  have:=z7a i.s hx;constructor
  ·intro e;rw[this,fk e]
  ·intro e;rw[this,dx (by rw[e];simp)]
 refine Cv.du.mk (λc1=>Cv.du.mk (λc2=> ?_) (λc2=> ?_)) (λc1=> ?_)
 ·exfalso;have c1:i.s≠1:=by simpa using c1
  have c2:i.s≠2:=by simpa using c2
  omega
 all_goals
  refine⟨⟨oM,oM⟩,q.dp,q.dq,q.a.inst,q.a.side,q.b.inst,q.b.side,kf hq (by simp[zK]) rfl,0,?_⟩;rw[b0]
  (repeat'(first|exact rfl|exact trivial|assumption|apply ar|refineλ(_:Unit) (_:True)=>?_|refine ao () ?_|omega|(dsimp only;omega)))
  refine⟨λj=>j<=i.l.length,λj=>i.l.length-j,oM,λj hj=>zI (λiq=> ?_) (λiq=> ?_)⟩
  ·have oF:j<i.l.length:=by omega
   obtain⟨x,hx⟩:=z6 oF;obtain⟨st,sf⟩:=step j oF x hx;refine⟨⟨oM,oM⟩,x.dp,x.dq,x.a.inst,x.a.side,x.b.inst,x.b.side,kf hx (by simp[zK]) rfl,⟨i.s,x.dp,_⟩,rfl,rfl,rfl,trivial,λ_ _=>Cv.du.mk (λe=>⟨j+1,by rw[iD (by omega)];rfl,?_⟩) (λe=>⟨j+1,by rw[iD (by omega)];rfl,?_⟩)⟩
   ·rw[st e];exact kp
   ·rw[sf e];exact kp
  ·have hj:j<=i.l.length:=hj;obtain rfl:j=i.l.length:=by omega
   rw[fin,two];exact kp
def Yt:Gp.ok Tryz.prog 61:=ix mixed (dz z6y fx) 0 (λ_=>[]) (λi=>y1h i) [] Tryz.func61 y1x
def OB (fm:List iS) (a b:AK) (less:Bool):(wb fm a b less).length<=1:=by
 unfold wb;dsimp only;split<;>split<;>simp
def z0t {α:Type} {f:Nat->List α} (h:∀k,(f k).length<=1):∀n,((ae n).flatMap f).length<=n
 |0=>by simp
 |n+1=>by
  rw[Jf,zk,iQ];have:=z0t h n;have:=h n;simp only[xu,KU,pd];omega
def zFx (i:bM) (s:Int) (k:Nat):(kP i s k).length<=k:=z0t (λ_=>OB _ _ _ _) k
def lJ (i:bM) (s:Int) (k:Nat):(kY i s k).length<=k:=z0t (λ_=>OB _ _ _ _) k
def UC (i:bM) (s:Int):(qM i s).length<=100:=by
 unfold qM;split
 ·simp
 ·rename_i h;have hc:=xQ i.p;have m6:=(qF (OU (p:=i.p) oM)).m6;split
  ·rw[iz];have:=OB i.fm ⟨(i.p.gf i.inst).2.1,3-s⟩ ⟨(i.p.gf i.inst).1,s⟩ aq;have e:(yO i s).length<=1:=this;omega
  ·rw[iQ];have h1:=zFx i s (i.p.dr.length-(i.inst.toNat+1));have h2:=lJ i s i.inst.toNat;omega
def yWn (j:tW) (h:Dt.du j):yAu j:=by
 unfold yAu Qa fp ez zEu Q2 dJ wI qD Q8 vE qK Q8 dI;obtain⟨hp,ht,hr⟩:j.i.p.small/\vF j.i.fm:=h;obtain⟨h1,h2,h3⟩:=hp;have hl:=UC j.i (zA j.s);refine⟨j,?_⟩;simp only[iz]
 (repeat'(first|exact rfl|exact trivial|assumption|apply ar|refineλ(_:Unit) (_:True)=>?_|refine ao () ?_|omega|(dsimp only;omega)))
 refine⟨0,rfl,rfl,λk=>k<=(qM j.i (zA j.s)).length,λk=>(qM j.i (zA j.s)).length-k,oM,λk hk=>zI (λiq=> ?_) (λiq=> ?_)⟩
 ·have tb:k<(qM j.i (zA j.s)).length:=by omega
  obtain⟨q,hq⟩:=z6 tb;have hf:(af (λq=>decide (j.i.p.dp j.i.inst q.dp=0)) (ab k (qM j.i (zA j.s)))).length<=100:=by
   have:=GX (λq:Quote=>decide (j.i.p.dp j.i.inst q.dp=0)) (ab k (qM j.i (zA j.s)));rw[oK]at this;omega
  refine⟨⟨oM,oM⟩,q.dp,q.dq,q.a.inst,q.a.side,q.b.inst,q.b.side,kf hq (by simp[zK]) rfl,⟨j.i.p,j.i.inst,q.dp⟩,?_⟩
  (repeat'(first|exact rfl|exact trivial|assumption|apply ar|refineλ(_:Unit) (_:True)=>?_|refine ao () ?_|omega|(dsimp only;omega)))
  refine Cv.du.mk (λc=>⟨oM,k+1,by rw[iD (by omega)];rfl,?_⟩) (λc=>⟨k+1,by rw[iD (by omega)];rfl,?_⟩)
  ·have c:j.i.p.dp j.i.inst q.dp=0:=by simpa using c
   rw[tv,hq,DP,Jj,Jr (by simpa using c),jz];exact kp
  ·have c:¬j.i.p.dp j.i.inst q.dp=0:=by simpa using c
   rw[tv,hq,DP,Jj,Jq (by simpa using c),List.filter_nil,pd];exact kp
 ·have hk:k<=(qM j.i (zA j.s)).length:=hk;obtain rfl:k=(qM j.i (zA j.s)).length:=by omega
  rw[oV (mg _)];exact kp
def yGo:∀n≤6,∀a<n,∀b<n,a<b->0<=(yJ n a:Int)+b-a-1/\(yJ n a:Int)+b-a-1<((n+n*(n-1) / 2:Nat):Int):=by decide
def dD {p:fj} (hc:p.check=0) {a b:Nat} (vc:a<b) (hb:b<p.dr.length):0<=(p.spread a b).1/\(p.spread a b).1<p.count:=by
 have m6:=(qF hc).m6;have:=yGo p.dr.length m6 a oM b hb vc;rw[fj.spread,dx (by omega),fj.count,fk hc];simpa using this
def yVk:∀n≤6,∀k<n+n*(n-1) / 2,n<=k->(kU n k n 0).2.2=aq/\0<=(kU n k n 0).1/\(kU n k n 0).1<n/\0<=(kU n k n 0).2.1/\(kU n k n 0).2.1<n:=by decide
def vO {p:fj} (hc:p.check=0) {k:Nat} (hk:k<p.count):((p.gf k).2.2=aq/\0<=(p.gf k).1/\(p.gf k).1<p.dr.length/\0<=(p.gf k).2.1/\(p.gf k).2.1<p.dr.length)\/((p.gf k).2.2=ap/\k<p.dr.length):=by
 have m6:=(qF hc).m6;have tb:=hk;rw[fj.count,fk hc]at tb;by_cases h:k<p.dr.length
 ·right;rw[fj.gf,dx (by omega),fk (by omega)];exact⟨rfl,h⟩
 ·left;rw[fj.gf,dx (by omega),dx (by omega)];exact yVk p.dr.length m6 k tb oM
def aH {p:fj} (hc:p.check=0):p.dr.length<=p.count:=by
 rw[fj.count,fk hc];omega
def z3s {i:bM} {s:Int} {k:Nat} (hk:k<(yO i s).length):aa zK (aa (cX i s) (ab (k+1) (yO i s))++ag (k+1) (yO i s))=
 zX (aa zK (aa (cX i s) (ab k (yO i s))++ag k (yO i s))) k (0+2) [D.v (.int .i64 (i.p.gf i.inst).1),D.v (.int .i64 s),D.v (.int .i64 (i.p.gf i.inst).2.1),D.v (.int .i64 (3-s))]:=by
 obtain⟨q,hq⟩:=z6 hk;rw[zXc (a:=aa zK (aa (cX i s) (ab k (yO i s)))) (b:=aa zK (ag (k+1) (yO i s))) (x:=zK q) (y:=zK (cX i s q)) (by
  rw[jz,DQ hk,(ju.1 hq).2,iT]) (by simp;omega) rfl]
 rw[tv,hq,DP,jz,jz,jz,iT,CS,iT,CS,km];rfl
def y7r (i:bM) (h:Kp.du i):yYy i:=by
 unfold yYy Qa NW W5 fp ez zU Q8 UD Uc rT Q2 uI sI UR r9 kM Q8 qK Q8 U6 gK dG vE dI;obtain⟨⟨h1,h2,h3⟩,ht,hr⟩:i.p.small/\vF i.fm:=h;have ur:vF i.fm:=⟨ht,hr⟩
 refine⟨i.p,?_⟩;simp only[iz,yW]
 (repeat'(first|exact rfl|exact trivial|assumption|apply ar|refineλ(_:Unit) (_:True)=>?_|refine ao () ?_|omega|(dsimp only;omega)))
 have bad (hb:i.p.count=0\/(i.fm.length:Int)≠i.p.count\/i.inst<0\/(i.p.count:Int)<=i.inst):∃(o:Unit),aa zK (qM i 1)=[]/\True:=⟨(),by rw[qM,fk hb];rfl,trivial⟩
 refine Cv.du.mk (λc1=>bad (.inl (by have c1:(i.p.count:Int)=0:=(by simpa using c1);omega))) λc1=>Cv.du.mk (λc2=>bad (.inr (.inl (by simpa using c2)))) λc2=>zI (λc3=>bad oM) λc3=>zI (λc4=>bad oM) λc4=>⟨⟨i.p,i.inst⟩,?_⟩
 have c1:i.p.count≠0:=by
  have c1:¬(i.p.count:Int)=0:=(by simpa using c1)
  omega
 have c2:(i.fm.length:Int)=i.p.count:=by simpa using c2
 have c4:i.inst<(i.p.count:Int):=by
  have c4:¬i.inst>=(i.p.count:Int):=c4;omega
 have hc:=OU c1;have hm:=aH hc;have e0:qM i 1=if(i.p.gf i.inst).2.2 then(yO i 1).map (cX i 1)else kP i 1 (i.p.dr.length-(i.inst.toNat+1))++kY i 1 i.inst.toNat:=by
  rw[qM,dx (by omega)]
 obtain⟨k,hk⟩:∃k:Nat,i.inst=k:=⟨i.inst.toNat,oM⟩
 have hl:=vO hc (k:=k) oM;rw[<- hk]at hl
 (repeat'(first|exact rfl|exact trivial|assumption|apply ar|refineλ(_:Unit) (_:True)=>?_|refine ao () ?_|omega|(dsimp only;omega)))
 refine Cv.du.mk (λc5=> ?_) (λc5=> ?_)
 ·have c5:(i.p.gf i.inst).2.2=aq:=c5;rw[e0,fk c5];rcases hl with⟨_,l1,l2,l3,l4⟩|⟨l1,_⟩
  ·have yq:(yO i 1).length<=1:=OB _ _ _ _;refine⟨1,rfl,oM,λ_ _=>⟨⟨⟨i.fm,[],(i.p.gf i.inst).2.1,(i.p.gf i.inst).1,aq⟩,aq,ap⟩,oE ⟨rfl,⟨l3,Z9,l1,Z9,ur,by simp⟩,λ_ _=>⟨0,rfl,rfl,rfl,λj=>j<=(yO i 1).length,λj=>(yO i 1).length-j,oM,?_⟩⟩⟩⟩;intro j hj;have hj:j<=(yO i 1).length:=hj;have hL:(aa (cX i 1) (ab j (yO i 1))++ag j (yO i 1)).length=(yO i 1).length:=by simp;omega
   refine zI (λiq=> ?_) (λiq=> ?_)
   ·have iq:(j:Int)<((yO i 1).length:Int):=iq;refine⟨⟨oM,by rw[hL];omega⟩,by rw[hL];omega,j+1,by rw[iD (by omega)];rfl,kp,?_,?_⟩
    ·exact z3s (i:=i) (s:=1) oM
    ·exact kp
   ·have iq:¬(j:Int)<((yO i 1).length:Int):=iq;obtain rfl:j=(yO i 1).length:=by omega
    rw[oV (mg _),List.drop_length,pd];exact kp
  ·rw[c5]at l1;cases l1
 ·have c5:(i.p.gf i.inst).2.2=ap:=c5;rw[e0,dx (by rw[c5];simp)];rcases hl with⟨l1,_⟩|⟨_,l2⟩
  ·rw[c5]at l1;cases l1
  have m6:=(qF hc).m6;have e1:i.inst.toNat=k:=by omega
  rw[e1];refine⟨0,by rw[iD (by omega)];omega,kp,rfl,λj=>j<=i.p.dr.length-(k+1),λj=>i.p.dr.length-(k+1)-j,oM,?_⟩;intro j hj;have hj:j<=i.p.dr.length-(k+1):=hj;have hq:=zFx i 1 j;refine zI (λiq=> ?_) (λiq=> ?_)
  ·obtain⟨b1,b2⟩:=dD hc (a:=k) (b:=k+1+j) oM oM;have eb:((k+1+j:Nat):Int)=i.inst+1+j:=by omega
   rw[eb,<- hk]at b1 b2;refine⟨⟨i.p,i.inst,i.inst+1+j⟩,?_⟩
   (repeat'(first|exact rfl|exact trivial|assumption|apply ar|refineλ(_:Unit) (_:True)=>?_|refine ao () ?_|omega|(dsimp only;omega)))
   refine⟨⟨⟨i.fm,kP i 1 j,(i.p.spread i.inst (i.inst+1+j)).1,i.inst+1+j,ap⟩,ap,ap⟩,oT ⟨rfl,kp,rfl,⟨b1,Z9,Z9,Z9,ur,Z9⟩,λ_ _=>⟨j+1,by rw[iD (by omega)];omega,kp,?_,?_⟩⟩⟩
   ·rw[kP,Jf,zk];simp only[xu,KU,pd];rfl
   ·exact kp
  ·obtain rfl:j=i.p.dr.length-(k+1):=by omega
   refine⟨0,rfl,kp,by rw[kY];simp,λj=>j<=k,λj=>k-j,oM,?_⟩;intro j hj;have hj:j<=k:=hj;have tw:=lJ i 1 j;refine zI (λBA=> ?_) (λBA=> ?_)
   ·obtain⟨b1,b2⟩:=dD hc (a:=j) (b:=k) oM oM;rw[<- hk]at b1 b2;refine⟨⟨i.p,j,i.inst⟩,?_⟩
    (repeat'(first|exact rfl|exact trivial|assumption|apply ar|refineλ(_:Unit) (_:True)=>?_|refine ao () ?_|omega|(dsimp only;omega)))
    refine⟨1,rfl,oM,λ_ _=>⟨⟨⟨i.fm,kP i 1 (i.p.dr.length-(k+1))++kY i 1 j,(i.p.spread j i.inst).1,j,aq⟩,aq,ap⟩,oT ⟨rfl,kp,rfl,⟨b1,Z9,Z9,Z9,ur,by dsimp only;rw[iQ];omega⟩,λ_ _=>⟨j+1,by rw[iD (by omega)];omega,kp,?_,?_⟩⟩⟩⟩
    ·rw[kY,Jf,zk];simp only[xu,KU,pd,km];rfl
    ·exact kp
   ·obtain rfl:j=k:=by omega
    exact kp
def yRn:Kp.ok Tryz.prog 122:=ix mixed (dz bN (dz tG (dz zVx (dz zWo (dz z3l fx))))) 0 (λ_=>[]) (λi=>y7o i 1) [] Tryz.func122 y7r
def xAc (i:bM) (h:Kn.du i):yZd i:=by
 unfold yZd Qa NW W5 fp ez zU Q8 rZ U2 rW UD Uc rT Q2 uI kM Q8 qK Q8 U6 gK dG vE dI;obtain⟨⟨h1,h2,h3⟩,ht,hr⟩:i.p.small/\vF i.fm:=h;have ur:vF i.fm:=⟨ht,hr⟩
 refine⟨i.p,?_⟩;simp only[iz,yW]
 (repeat'(first|exact rfl|exact trivial|assumption|apply ar|refineλ(_:Unit) (_:True)=>?_|refine ao () ?_|omega|(dsimp only;omega)))
 have bad (hb:i.p.count=0\/(i.fm.length:Int)≠i.p.count\/i.inst<0\/(i.p.count:Int)<=i.inst):∃(o:Unit),aa zK (qM i 2)=[]/\True:=⟨(),by rw[qM,fk hb];rfl,trivial⟩
 refine Cv.du.mk (λc1=>bad (.inl (by have c1:(i.p.count:Int)=0:=(by simpa using c1);omega))) λc1=>Cv.du.mk (λc2=>bad (.inr (.inl (by simpa using c2)))) λc2=>zI (λc3=>bad oM) λc3=>zI (λc4=>bad oM) λc4=>⟨⟨i.p,i.inst⟩,?_⟩
 have c1:i.p.count≠0:=by
  have c1:¬(i.p.count:Int)=0:=(by simpa using c1)
  omega
 have c2:(i.fm.length:Int)=i.p.count:=by simpa using c2
 have c4:i.inst<(i.p.count:Int):=by
  have c4:¬i.inst>=(i.p.count:Int):=c4;omega
 have hc:=OU c1;have hm:=aH hc;have e0:qM i 2=if(i.p.gf i.inst).2.2 then(yO i 2).map (cX i 2)else kP i 2 (i.p.dr.length-(i.inst.toNat+1))++kY i 2 i.inst.toNat:=by
  rw[qM,dx (by omega)]
 obtain⟨k,hk⟩:∃k:Nat,i.inst=k:=⟨i.inst.toNat,oM⟩
 have hl:=vO hc (k:=k) oM;rw[<- hk]at hl
 (repeat'(first|exact rfl|exact trivial|assumption|apply ar|refineλ(_:Unit) (_:True)=>?_|refine ao () ?_|omega|(dsimp only;omega)))
 refine Cv.du.mk (λc5=> ?_) (λc5=> ?_)
 ·have c5:(i.p.gf i.inst).2.2=aq:=c5;rw[e0,fk c5];rcases hl with⟨_,l1,l2,l3,l4⟩|⟨l1,_⟩
  ·have yq:(yO i 2).length<=1:=OB _ _ _ _;refine⟨2,rfl,oM,λ_ _=>⟨⟨⟨i.fm,[],(i.p.gf i.inst).2.1,(i.p.gf i.inst).1,aq⟩,ap,aq⟩,oE ⟨rfl,⟨l3,Z9,l1,Z9,ur,by simp⟩,λ_ _=>⟨0,rfl,rfl,rfl,λj=>j<=(yO i 2).length,λj=>(yO i 2).length-j,oM,?_⟩⟩⟩⟩;intro j hj;have hj:j<=(yO i 2).length:=hj;have hL:(aa (cX i 2) (ab j (yO i 2))++ag j (yO i 2)).length=(yO i 2).length:=by simp;omega
   refine zI (λiq=> ?_) (λiq=> ?_)
   ·have iq:(j:Int)<((yO i 2).length:Int):=iq;refine⟨⟨oM,by rw[hL];omega⟩,by rw[hL];omega,j+1,by rw[iD (by omega)];rfl,kp,?_,?_⟩
    ·exact z3s (i:=i) (s:=2) oM
    ·exact kp
   ·have iq:¬(j:Int)<((yO i 2).length:Int):=iq;obtain rfl:j=(yO i 2).length:=by omega
    rw[oV (mg _),List.drop_length,pd];exact kp
  ·rw[c5]at l1;cases l1
 ·have c5:(i.p.gf i.inst).2.2=ap:=c5;rw[e0,dx (by rw[c5];simp)];rcases hl with⟨l1,_⟩|⟨_,l2⟩
  ·rw[c5]at l1;cases l1
  have m6:=(qF hc).m6;have e1:i.inst.toNat=k:=by omega
  rw[e1];refine⟨0,by rw[iD (by omega)];omega,kp,rfl,λj=>j<=i.p.dr.length-(k+1),λj=>i.p.dr.length-(k+1)-j,oM,?_⟩;intro j hj;have hj:j<=i.p.dr.length-(k+1):=hj;have hq:=zFx i 2 j;refine zI (λiq=> ?_) (λiq=> ?_)
  ·obtain⟨b1,b2⟩:=dD hc (a:=k) (b:=k+1+j) oM oM;have eb:((k+1+j:Nat):Int)=i.inst+1+j:=by omega
   rw[eb,<- hk]at b1 b2;refine⟨⟨i.p,i.inst,i.inst+1+j⟩,?_⟩
   (repeat'(first|exact rfl|exact trivial|assumption|apply ar|refineλ(_:Unit) (_:True)=>?_|refine ao () ?_|omega|(dsimp only;omega)))
   refine⟨⟨⟨i.fm,kP i 2 j,(i.p.spread i.inst (i.inst+1+j)).1,i.inst+1+j,ap⟩,aq,aq⟩,oT ⟨rfl,kp,rfl,⟨b1,Z9,Z9,Z9,ur,Z9⟩,λ_ _=>⟨j+1,by rw[iD (by omega)];omega,kp,?_,?_⟩⟩⟩
   ·rw[kP,Jf,zk];simp only[xu,KU,pd];rfl
   ·exact kp
  ·obtain rfl:j=i.p.dr.length-(k+1):=by omega
   refine⟨0,rfl,kp,by rw[kY];simp,λj=>j<=k,λj=>k-j,oM,?_⟩;intro j hj;have hj:j<=k:=hj;have tw:=lJ i 2 j;refine zI (λBA=> ?_) (λBA=> ?_)
   ·obtain⟨b1,b2⟩:=dD hc (a:=j) (b:=k) oM oM;rw[<- hk]at b1 b2;refine⟨⟨i.p,j,i.inst⟩,?_⟩
    (repeat'(first|exact rfl|exact trivial|assumption|apply ar|refineλ(_:Unit) (_:True)=>?_|refine ao () ?_|omega|(dsimp only;omega)))
    refine⟨2,rfl,oM,λ_ _=>⟨⟨⟨i.fm,kP i 2 (i.p.dr.length-(k+1))++kY i 2 j,(i.p.spread j i.inst).1,j,aq⟩,ap,aq⟩,oT ⟨rfl,kp,rfl,⟨b1,Z9,Z9,Z9,ur,by dsimp only;rw[iQ];omega⟩,λ_ _=>⟨j+1,by rw[iD (by omega)];omega,kp,?_,?_⟩⟩⟩⟩
    ·rw[kY,Jf,zk];simp only[xu,KU,pd,km];rfl
    ·exact kp
   ·obtain rfl:j=k:=by omega
    exact kp
def yVw:Kn.ok Tryz.prog 122:=ix mixed (dz bN (dz tG (dz zVx (dz zWo (dz z3l fx))))) 0 (λ_=>[]) (λi=>y7o i 2) [] Tryz.func122 xAc
def yPd:aa2.ok Tryz.prog 122:=λj=>match j with
 |⟨i,ap⟩=>yRn i
 |⟨i,aq⟩=>yVw i
def Zw:Dt.ok Tryz.prog 62:=ix mixed (dz yPd (dz l9 fx)) 0 (λ_=>[]) (λj=>yUg j) [] Tryz.func62 yWn
structure Ie where
 p:fj
 s:ia
def oX (x y:Int) (b:Bool):Bool:=b && decide (y<=x)
def aT (t:iS):Bool:=oX t.p1 t.p2 (t.gp && t.gj)
def uN (p:fj) (fm:List iS) (n:Nat):Bool:=
 let x:=fm.getD n fq
 let Dc:=zN (yC ⟨p,fm,n⟩ 1) 1
 let xz:=zN (yC ⟨p,fm,n⟩ 2) 2
 oX x.p1 xz.1.dp (x.gp && xz.2)||oX Dc.1.dp x.p2 (x.gj && Dc.2)
def kE (p:fj) (fm:List iS):Int:=
 if p.check≠0 then 1 else if(ae fm.length).any (λn=>aT (fm.getD n fq))then 23 else if(ae fm.length).any (uN p fm)then 21 else 0
def CJ:gx:=gh Ie (λi=>[oa i.p,.nm 0 0]) (λi=>[zD i.s]) (λi=>i.p.small/\i.s.nw/\vF i.s.fm) (λi=>zB (kE i.p i.s.fm)) (λi=>[zD i.s])
def y3l (i:Ie):List ib:=[
 {ι:=Nat,dv:=λj=>[(25,zB j)],rows:=λ_=>[]},
 {ι:=Nat,dv:=λj=>[(5,.own 0),(45,.own 0),(47,zB j)],rows:=λ_=>[.kh 6 (i.s.fm.map zY)]}]
@[reducible] def Q5 (a:fj)(R:Prop):Prop:=ak [V.d (D.v (Value.string (sb a.code))),V.own 1,V.d (dI a.tick),V.d (dI a.low),V.d (dI a.high),V.d (dI a.wide),V.d (dI a.gw),V.d (dI a.top),V.d (dI a.least),V.d (dI a.part),V.own 2] 25=ak [V.d (D.v (Value.string (sb a.code))),V.own 1,V.d (dI a.tick),V.d (dI a.low),V.d (dI a.high),V.d (dI a.wide),V.d (dI a.gw),V.d (dI a.top),V.d (dI a.least),V.d (dI a.part),V.own 2] 25/\aj 1 (iE a.settle)=aj 1 (iE a.settle)/\R
def zFh (a:Ie):Prop:=Q5 a.p (dm (aj 1 (iE a.p.dr)))
def Zb (a:EN) (b:Ie) (c:ia) (d:Nat) (e:Nat->Prop) (f:Nat->Nat):Prop:=True/\fp (du (a.b && decide (a.y<=a.x)) (ez (kE b.p b.s.fm=21/\zD b.s=zD c/\True)) (∃(h:Nat),(↑h:Int)=au.wrap ((↑d:Int)+1)/\dm (aj 6 (aa zY b.s.fm))/\e h/\f h<f d/\zD c=zD c/\zFh b))
def YR (a:EN) (b:Ie) (c:ia) (d:Bool) (e:yy) (f:Int) (g:Nat) (h:Nat->Prop) (j:Nat->Nat):Prop:=True/\fp (du (a.b && decide (a.y<=a.x)) (ez (kE b.p b.s.fm=21/\zD b.s=zD c/\True)) (du d (∃(l:EN),l.x=(zN e.l e.s).fst.dp/\l.y=f/\l.b=(zN e.l e.s).snd/\Zb l b c g h j) (∃(l:EN),l.x=(zN e.l e.s).fst.dp/\l.y=f/\l.b=ap/\Zb l b c g h j)))
def Za (a:EN) (b:Ie) (c:ia) (d:Nat) (e:Nat->Prop) (f:Nat->Nat):Prop:=True/\fp (du (a.b && decide (a.y<=a.x)) (ez (kE b.p b.s.fm=23/\zD b.s=zD c/\True)) (∃(h:Nat),Q0 h d e f (zD c=zD c/\dm (am 122 6 (aa zY c.fm))/\zFh b)))
def vS (a:ia):Prop:=a.fc.length<=1000000/\∀(b:dt),b∈a.fc->∀(c:cI),c∈b.a.dy->cK c
def wP (a:yy):Prop:=(a.s=1\/a.s=2)/\a.l.length<=1000000
def yKb (i:Ie):Prop:=
 ∃(a:fj),Qa a i.p ((zU a)/\fp (du (a.check !=0) (ez (kE i.p i.s.fm=1/\dm (zD i.s)/\True)) (∃(c:ia),zD c=zD i.s/\(vS c)/\fp (∃(e:Nat),(↑e:Int)=0/\∃(f:Nat->Prop),∃(g:Nat->Nat),f e/\∀(h:Nat),f h->du (decide ((↑h:Int)<(↑(aa zY c.fm).length:Int))) ((0<=(↑h:Int)/\(↑h:Int)<(↑(aa zY c.fm).length:Int))/\∃(j:Bool),∃(k:Bool),∃(l:Int),∃(m:Int),∃(n:Int),∃(p:Int),zF (aa zY c.fm) (↑h:Int).toNat 0 6=ax [D.v (.bool j),D.v (.bool k),dI l,dI m,dI n,dI p]/\du j (∃(q:EN),q.x=l/\q.y=m/\q.b=k/\Za q i c h f g) (∃(q:EN),q.x=l/\q.y=m/\q.b=ap/\Za q i c h f g)) (∃(j:Nat),(↑j:Int)=0/\aa zY i.s.fm=aa zY c.fm/\∃(k:Nat->Prop),∃(l:Nat->Nat),k j/\∀(m:Nat),k m->du (decide ((↑m:Int)<(↑(aa zY c.fm).length:Int))) ((0<=(↑m:Int)/\(↑m:Int)<(↑(aa zY i.s.fm).length:Int))/\∃(n:Bool),∃(p:Bool),∃(q:Int),∃(r:Int),∃(s:Int),∃(t:Int),zF (aa zY i.s.fm) (↑m:Int).toNat 0 6=ax [D.v (.bool n),D.v (.bool p),dI q,dI r,dI s,dI t]/\∃(u:tW),Qa u.i.p i.p (aa zY u.i.fm=aa zY i.s.fm/\u.i.inst=(↑m:Int)/\zA u.s=1/\(qD u)/\fp (∃(w:yy),aa zK w.l=aa zK (yC u.i (zA u.s))/\w.s=1/\(wP w)/\fp (∃(y:tW),Qa y.i.p i.p (aa zY y.i.fm=aa zY i.s.fm/\y.i.inst=(↑m:Int)/\zA y.s=2/\(qD y)/\fp (∃(ma:yy),aa zK ma.l=aa zK (yC y.i (zA y.s))/\ma.s=2/\(wP ma)/\fp (du n (∃(lh:EN),lh.x=q/\lh.y=(zN ma.l ma.s).fst.dp/\lh.b=(zN ma.l ma.s).snd/\YR lh i c p w r m k l) (∃(lh:EN),lh.x=q/\lh.y=(zN ma.l ma.s).fst.dp/\lh.b=ap/\YR lh i c p w r m k l)))))))) (ez (kE i.p i.s.fm=0/\zD i.s=zD c/\True)))))))
def Yc {n k:Nat} {f:Nat->Bool} (hk:k<n) (h:f k=aq):(ae n).any f=aq:=by
 rw[Nj];exact⟨k,by simpa using hk,h⟩
def UU {n:Nat} {f:Nat->Bool} (h:∀k<n,f k=ap):(ae n).any f=ap:=by
 rw[KW];intro k hk;simp[h k (by simpa using hk)]
def pP (i:bM) (s:Int):(yC i s).length<=100:=wu (GX _ _) (UC i s)
def y2y (i:Ie) (h:CJ.du i):yKb i:=by
 unfold yKb Qa fp ez qD Q8 vE zU Q8 Za Q0 fp ez wP YR fp ez Zb fp ez zFh Q5 vS cK dI;obtain⟨⟨h1,h2,h3⟩,⟨qu,oG⟩,⟨WB,ht2⟩⟩:i.p.small/\i.s.nw/\vF i.s.fm:=h;refine⟨i.p,?_⟩;simp only[iz]
 (repeat'(first|exact rfl|exact trivial|assumption|apply ar|refineλ(_:Unit) (_:True)=>?_|refine ao () ?_|omega|(dsimp only;omega)))
 refine Cv.du.mk (λc=>⟨(),by rw[kE,fk (by simpa using c)],kp,trivial⟩) λc=>⟨i.s,?_⟩
 (repeat'(first|exact rfl|exact trivial|assumption|apply ar|refineλ(_:Unit) (_:True)=>?_|refine ao () ?_|omega|(dsimp only;omega)))
 have c:i.p.check=0:=by simpa using c
 generalize hT:i.s.fm=T at*;have e0:kE i.p T=if(ae T.length).any (λn=>aT (T.getD n fq))then 23 else if(ae T.length).any (uN i.p T)then 21 else 0:=by
  rw[kE,dx (by simp[c])]
 refine⟨0,rfl,λj=>j<=T.length/\∀k<j,aT (T.getD k fq)=ap,λj=>T.length-j,⟨oM,λk hk=>by omega⟩,?_⟩;rintro j ⟨g1,g2⟩;refine zI (λiq=> ?_) (λiq=> ?_)
 ·have hj:j<T.length:=by omega
  obtain⟨t,ht⟩:=z6 hj;have hg:T.getD j fq=t:=by rw[mi,ht];rfl
  have bad (e:aT t=aq):kE i.p T=23:=by
   rw[e0,fk (Yc hj (by rw[hg];exact e))]
  have qn (e:aT t=ap):∀k<j+1,aT (T.getD k fq)=ap:=λk hk=>by
   rcases vx k j with h|h
   ·exact g2 k h
   ·obtain rfl:k=j:=by omega
    rw[hg];exact e
  refine⟨⟨oM,oM⟩,t.gp,t.gj,t.p1,t.p2,t.q1,t.q2,kf ht (by simp[zY]) rfl,Cv.du.mk (λb1=>⟨⟨t.p1,t.p2,t.gj⟩,rfl,rfl,rfl,trivial,λ_ _=> ?_⟩) (λb1=>⟨⟨t.p1,t.p2,ap⟩,rfl,rfl,rfl,trivial,λ_ _=> ?_⟩)⟩
  ·have ec:aT t=(t.gj && decide (t.p2<=t.p1)):=by
    have b1:t.gp=aq:=b1;rw[aT,oX,b1,qj]
   refine Cv.du.mk (λe=>⟨(),bad (by rw[ec];exact e),kp,trivial⟩) (λe=>⟨j+1,by rw[iD (by omega)];rfl,⟨oM,qn (by rw[ec];exact e)⟩,by(first|omega|(dsimp only;omega)),kp⟩)
  ·have ec:aT t=ap:=by
    have b1:t.gp=ap:=b1;rw[aT,oX,b1,vd,vd]
   refine Cv.du.mk (λe=>absurd e (by simp)) (λe=>⟨j+1,by rw[iD (by omega)];rfl,⟨oM,qn ec⟩,by(first|omega|(dsimp only;omega)),kp⟩)
 ·obtain rfl:j=T.length:=by omega
  have e1:kE i.p T=if(ae T.length).any (uN i.p T)then 21 else 0:=by
   rw[e0,dx (by rw[UU g2];simp)]
  refine⟨0,rfl,kp,λj=>j<=T.length/\∀k<j,uN i.p T k=ap,λj=>T.length-j,⟨oM,λk hk=>by omega⟩,?_⟩;rintro j ⟨f1,f2⟩;refine zI (λBA=> ?_) (λBA=> ?_)
  ·have hj:j<T.length:=by omega
   obtain⟨t,ht⟩:=z6 hj;have hg:T.getD j fq=t:=by rw[mi,ht];rfl
   have em:uN i.p T j=(oX t.p1 (zN (yC ⟨i.p,T,j⟩ 2) 2).1.dp (t.gp && (zN (yC ⟨i.p,T,j⟩ 2) 2).2)||oX (zN (yC ⟨i.p,T,j⟩ 1) 1).1.dp t.p2 (t.gj && (zN (yC ⟨i.p,T,j⟩ 1) 1).2)):=by
    simp only[uN,hg]
   have q1:=pP ⟨i.p,T,j⟩ 1;have q2:=pP ⟨i.p,T,j⟩ 2;have bad (e:uN i.p T j=aq):kE i.p T=21:=by
    rw[e1,fk (Yc hj e)]
   have qn (e:uN i.p T j=ap):∀k<j+1,uN i.p T k=ap:=λk hk=>by
    rcases vx k j with h|h
    ·exact f2 k h
    ·obtain rfl:k=j:=by omega
     exact e
   refine⟨⟨oM,oM⟩,t.gp,t.gj,t.p1,t.p2,t.q1,t.q2,kf ht (by simp[zY]) rfl,⟨⟨i.p,T,j⟩,ap⟩,?_⟩
   (repeat'(first|exact rfl|exact trivial|assumption|apply ar|refineλ(_:Unit) (_:True)=>?_|refine ao () ?_|omega|(dsimp only;omega)))
   refine⟨⟨yC ⟨i.p,T,j⟩ 1,1⟩,?_⟩
   (repeat'(first|exact rfl|exact trivial|assumption|apply ar|refineλ(_:Unit) (_:True)=>?_|refine ao () ?_|omega|(dsimp only;omega)))
   refine⟨⟨⟨i.p,T,j⟩,aq⟩,?_⟩
   (repeat'(first|exact rfl|exact trivial|assumption|apply ar|refineλ(_:Unit) (_:True)=>?_|refine ao () ?_|omega|(dsimp only;omega)))
   refine⟨⟨yC ⟨i.p,T,j⟩ 2,2⟩,?_⟩
   (repeat'(first|exact rfl|exact trivial|assumption|apply ar|refineλ(_:Unit) (_:True)=>?_|refine ao () ?_|omega|(dsimp only;omega)))
   have inner:oX t.p1 (zN (yC ⟨i.p,T,j⟩ 2) 2).1.dp (t.gp && (zN (yC ⟨i.p,T,j⟩ 2) 2).2)=ap->uN i.p T j=oX (zN (yC ⟨i.p,T,j⟩ 1) 1).1.dp t.p2 (t.gj && (zN (yC ⟨i.p,T,j⟩ 1) 1).2):=λe=>by rw[em,e,CT]
   refine Cv.du.mk (λb1=>⟨⟨t.p1,(zN (yC ⟨i.p,T,j⟩ 2) 2).1.dp,(zN (yC ⟨i.p,T,j⟩ 2) 2).2⟩,rfl,rfl,rfl,trivial,λ_ _=>Cv.du.mk (λe=> ?_) (λe=> ?_)⟩) (λb1=>⟨⟨t.p1,(zN (yC ⟨i.p,T,j⟩ 2) 2).1.dp,ap⟩,rfl,rfl,rfl,trivial,λ_ _=>Cv.du.mk (λe=> ?_) (λe=> ?_)⟩)
   ·have b1:t.gp=aq:=b1;refine⟨(),bad ?_,kp,trivial⟩;rw[em,b1,qj,show oX t.p1 (zN (yC ⟨i.p,T,j⟩ 2) 2).1.dp (zN (yC ⟨i.p,T,j⟩ 2) 2).2=aq from e,Bool.true_or]
   ·have b1:t.gp=aq:=b1;have eI:=inner (by rw[b1,qj];exact e);refine Cv.du.mk (λb2=>⟨⟨(zN (yC ⟨i.p,T,j⟩ 1) 1).1.dp,t.p2,(zN (yC ⟨i.p,T,j⟩ 1) 1).2⟩,rfl,rfl,rfl,trivial,λ_ _=> ?_⟩) (λb2=>⟨⟨(zN (yC ⟨i.p,T,j⟩ 1) 1).1.dp,t.p2,ap⟩,rfl,rfl,rfl,trivial,λ_ _=> ?_⟩)
    ·have b2:t.gj=aq:=b2;rw[b2,qj]at eI;refine Cv.du.mk (λe2=>⟨(),bad (by rw[eI];exact e2),kp,trivial⟩) (λe2=>⟨j+1,by rw[iD (by omega)];rfl,kp,⟨oM,qn (by rw[eI];exact e2)⟩,by(first|omega|(dsimp only;omega)),kp⟩)
    ·have b2:t.gj=ap:=b2;rw[b2,vd]at eI;refine Cv.du.mk (λe2=>absurd e2 (by simp)) (λe2=>⟨j+1,by rw[iD (by omega)];rfl,kp,⟨oM,qn (by rw[eI];rfl)⟩,by(first|omega|(dsimp only;omega)),kp⟩)
   ·exact absurd e (by simp)
   ·have b1:t.gp=ap:=b1;have eI:=inner (by rw[b1,vd];rfl);refine Cv.du.mk (λb2=>⟨⟨(zN (yC ⟨i.p,T,j⟩ 1) 1).1.dp,t.p2,(zN (yC ⟨i.p,T,j⟩ 1) 1).2⟩,rfl,rfl,rfl,trivial,λ_ _=> ?_⟩) (λb2=>⟨⟨(zN (yC ⟨i.p,T,j⟩ 1) 1).1.dp,t.p2,ap⟩,rfl,rfl,rfl,trivial,λ_ _=> ?_⟩)
    ·have b2:t.gj=aq:=b2;rw[b2,qj]at eI;refine Cv.du.mk (λe2=>⟨(),bad (by rw[eI];exact e2),kp,trivial⟩) (λe2=>⟨j+1,by rw[iD (by omega)];rfl,kp,⟨oM,qn (by rw[eI];exact e2)⟩,by(first|omega|(dsimp only;omega)),kp⟩)
    ·have b2:t.gj=ap:=b2;rw[b2,vd]at eI;refine Cv.du.mk (λe2=>absurd e2 (by simp)) (λe2=>⟨j+1,by rw[iD (by omega)];rfl,kp,⟨oM,qn (by rw[eI];rfl)⟩,by(first|omega|(dsimp only;omega)),kp⟩)
  ·obtain rfl:j=T.length:=by omega
   rw[e1,dx (by rw[UU f2];simp)];exact kp
def GG:CJ.ok Tryz.prog 14:=ix mixed (dz mU (dz yAq (dz yNq (dz Zw (dz Yt fx))))) 0 (λ_=>[]) (λi=>y3l i) [] Tryz.func14 y2y
structure iO where
 p:fj
 s:ia
 used:List Int
def zZ (l:List Int):List (Value×List D):=l.map λx=>(.int .i64 x,[.v (.bool aq)])
def yN (m:iO):Nat->fw
 |0=> .cells [sV m.p.code,.own 3,zB m.p.tick,zB m.p.low,zB m.p.high,zB m.p.wide,zB m.p.gw,zB m.p.top,zB m.p.least,zB m.p.part,.own 4,.nm 1 0,.mp 2] 137
 |1=>zD m.s
 |2=> .map (zZ m.used)
 |3=> .kh 1 (iE m.p.dr)
 |4=> .kh 1 (iE m.p.settle)
 |_=> .gone
def kF (m:iO):fw:= .sv iO 5 yN m
def JY:gx where
 ι:=fj
 pat:=λp=>[oa p]
 pre:=λ_=>[]
 du:=λp=>p.small
 alts:=λp=>[{o:=Unit,res:=λ_=> .jm [.nm 0 0,zB 0],post:=λ_=>[kF ⟨p,nD p,[]⟩],rel:=λ_=>p.check=0},{o:=Unit,res:=λ_=> .jm [.d (.v (.pointer none)),zB p.check],post:=λ_=>[],rel:=λ_=>p.check≠0}]
def FU:gx:=gh iO (λ_=>[.nm 0 0]) (λm=>[kF m]) (λm=>m.s.small) (λ_=> .nm 1 0) (λm=>[kF m,zD m.s])
def Zx (a:fj) (b:fj):Prop:=True/\(0+(iE a.settle).length)*(8:Nat)<=(140737488355328:Nat)/\((ez (dm ((0:Int))/\Qc a (zD (nD a)=zD (nD b)/\zZ []=[]/\iE a.dr=[]++iE a.dr/\iE a.settle=[]++iE a.settle/\a.check=0)))\/(ez (False)))
def YF (a:fj) (b:fj):Prop:=True/\True/\(0+(iE a.dr).length)*(8:Nat)<=(140737488355328:Nat)/\Zx a b
def YN (a:fj):Prop:=True/\(0+(iE a.settle).length)*(8:Nat)<=(140737488355328:Nat)/\((ez (dm ((0:Int))/\Qc a (False)))\/(ez (False)))
def ZD (a:fj):Prop:=True/\True/\(0+(iE a.dr).length)*(8:Nat)<=(140737488355328:Nat)/\YN a
def yYt (p:fj):Prop:=
 ∃(a:fj),Qa a p ((zU a)/\(∀(b:Unit),a.check=0->(True/\True/\(Lu p (Zx p a))/\YF p a)/\True/\True/\YF p a)/\∀(b:Unit),a.check≠0->du (a.check !=0) ((ez (False))\/(ez (True/\p.check=a.check/\(p.check=0->False)))) ((True/\True/\(Lu p (YN p))/\ZD p)/\True/\True/\ZD p))
def y4y (m:iO):Prop:=
 ∃(i:ia),zD i=zD m.s/\(i.fc.length<=1000000/\∀(b:dt),b∈i.fc->(b.a.dv.length<=1000000/\b.a.dy.length<=1000000)/\b.fv.length<=1000000/\b.ff.length<=1000000/\b.spare.length<=1000000)/\∀(o:Unit),True->∃(o:Unit),dm (sb m.p.code)/\dm m.p.tick/\dm m.p.low/\dm m.p.high/\dm m.p.wide/\dm m.p.gw/\dm m.p.top/\dm m.p.least/\dm m.p.part/\zD m.s=zD i/\dm (zZ m.used)/\dm (aj 1 (iE m.p.dr))/\dm (aj 1 (iE m.p.settle))/\zD m.s=zD i/\True
def Gy:FU.ok Tryz.prog 17:=ix (V:=y4y) mixed (dz OV fx) 0 (λ_=>[]) (λ_=>[]) [0] Tryz.func17 λ(m:iO) h=>by
 obtain⟨h1,h2⟩:m.s.small:=h;refine⟨m.s,rfl,⟨h1,h2⟩,λ_ _=>⟨(),?_⟩⟩;exact kp
def y9m (p:fj) (h:JY.du p):yYt p:=by
 unfold yYt Qa Lu ez ZD YN ez Qc YF Zx ez Qc zU Q8;obtain⟨h1,h2,h3⟩:p.small:=h;refine⟨p,?_⟩;simp only[yW]
 (repeat'(first|exact rfl|exact trivial|assumption|apply ar|refineλ(_:Unit) (_:True)=>?_|refine ao () ?_|omega|(dsimp only;omega)))
 ·intro _ c
  (repeat'(first|exact rfl|exact trivial|assumption|apply ar|refineλ(_:Unit) (_:True)=>?_|refine ao () ?_|omega|(dsimp only;omega)))
  all_goals(refine .inl ⟨(),?_⟩;(repeat'(first|exact rfl|exact trivial|assumption|apply ar|refineλ(_:Unit) (_:True)=>?_|refine ao () ?_|omega|(dsimp only;omega))))
 ·intro _ c;refine Cv.du.mk (λe=> .inr ⟨(),trivial,kp,c⟩) (λe=>absurd (by simpa using e) c)
def yVo:JY.ok Tryz.prog 127:=ix mixed (dz yTr fx) 0 (λ_=>[]) (λ_=>[]) [] Tryz.func127 y9m
structure fa where
 p:fj
 left:List (Int×Int)
 inst:List (Int×Int)
 jc:List Int
 qd:List Int
def ySf (l:fa):Nat->fw
 |0=> .cells [sV l.p.code,.own 5,zB l.p.tick,zB l.p.low,zB l.p.high,zB l.p.wide,zB l.p.gw,zB l.p.top,zB l.p.least,zB l.p.part,.own 6,.mp 1,.mp 2,.own 3,.own 4] 102
 |1=> .map (z5 l.left)
 |2=> .map (z5 l.inst)
 |3=> .own 2 1 (iE l.jc)
 |4=> .own 2 1 (iE l.qd)
 |5=> .kh 1 (iE l.p.dr)
 |6=> .kh 1 (iE l.p.settle)
 |_=> .gone
def y7 (l:fa):fw:= .sv fa 7 ySf l
def jU (p:fj):fa:=⟨p,[],[],ac p.count 0,ac p.count 0⟩
def DG:gx:=gh (List Int) (λl=>[iV l]) (λ_=>[]) (λl=>l.length<=1000000) (λl=>iV l) (λ_=>[])
def FE:gx where
 ι:=fj
 pat:=λp=>[oa p]
 pre:=λ_=>[]
 du:=λp=>p.small
 alts:=λp=>[{o:=Unit,res:=λ_=> .jm [.nm 0 0,zB 0],post:=λ_=>[y7 (jU p)],rel:=λ_=>p.check=0},{o:=Unit,res:=λ_=> .jm [.d (.v (.pointer none)),zB p.check],post:=λ_=>[],rel:=λ_=>p.check≠0}]
structure si where
 n:Int
 lo:Int
 hi:Int
def zH (n lo hi:Int):Int:=lo+n % (hi-lo+1)
def Dn:gx:=gh si (λi=>[zB i.n,zB i.lo,zB i.hi]) (λ_=>[]) (λi=>ie i.n/\-1000000<=i.lo/\i.lo<=i.hi/\i.hi<=1000000) (λi=>zB (zH i.n i.lo i.hi)) (λ_=>[])
def cY (gw:Int):fj:=⟨[67,76],[320,321,323],5,0,1000,200,gw,4,2,40,[500,505,490]⟩
def LY:gx:=gh Int (λn=>[zB n]) (λ_=>[]) (λ_=>True) (λn=>oa (cY n)) (λ_=>[])
def yUo (l:List Int):Prop:=
 ∀(b:Bool),(b=aq->iE l=[])->du b (∃(o:Unit),iE l=[]/\True) ((0+(iE l).length)*(8:Nat)<=(140737488355328:Nat)/\∃(o:Unit),iE l=[]++iE l/\True)
def yHx (l:List Int):Prop:=
 ∀(b:Bool),(b=aq->iE l=[])->du b (∃(o:Unit),iE l=[]/\True) ((0+(iE l).length)*(8:Nat)<=(140737488355328:Nat)/\∃(o:Unit),iE l=[]++iE l/\True)
def bX (a:fj):Prop:=0<=(↑a.count:Int)/\(↑a.count:Int)<=(↑a.count:Int)/\(↑a.count:Int)<=9223372036854775807/\(↑(8:Nat):Int)*(↑a.count:Int)<=2 ^ (48:Nat)
@[reducible] def Qi (a:fj)(R:Prop):Prop:=sb a.code=sb a.code/\True/\a.tick=a.tick/\a.low=a.low/\a.high=a.high/\a.wide=a.wide/\a.gw=a.gw/\a.top=a.top/\a.least=a.least/\a.part=a.part/\True/\R
def g9 (a:fj):Prop:=Qi a (True)
def Yg (a:fj) (b:fj) (c:List Int) (d:List Int):Prop:=(g9 a)/\((ez (dm ((0:Int))/\Qc a (z5 []=[]/\z5 []=[]/\iE (ac a.count 0)=ac (↑b.count:Int).toNat [dI 0]/\iE (ac a.count 0)=ac (↑b.count:Int).toNat [dI 0]/\aj 1 (iE a.dr)=aj 1 (iE c)/\aj 1 (iE a.settle)=aj 1 (iE d)/\a.check=0)))\/(ez (False)))
def Yb (a:fj) (b:fj) (c:List Int) (d:List Int):Prop:=(g9 a)/\(bX b)/\Yg a b c d
def Uq (a:fj) (b:fj) (c:List Int) (d:List Int):Prop:=(g9 a)/\Yg a b c d
def UB (a:fj) (b:fj) (c:List Int) (d:List Int):Prop:=(g9 a)/\(Yb a b c d)/\(bX b)/\Uq a b c d
def YA (a:fj) (b:fj) (c:List Int) (d:List Int):Prop:=(bX a)/\UB b a c d
def Yq (a:fj) (b:fj) (c:List Int) (d:List Int):Prop:=(bX a)/\Yb b a c d
def z1n (a:fj) (b:fj) (c:List Int) (d:List Int):Prop:=(g9 a)/\((g9 a)/\(Yq b a c d)/\Yq b a c d)/\(YA b a c d)/\YA b a c d
def Xq (a:fj) (b:fj) (c:List Int) (d:List Int):Prop:=(bX a)/\(g9 b)/\(UB b a c d)/\(UB b a c d)/\(bX a)/\(g9 b)/\(Uq b a c d)/\Uq b a c d
def yXi (p:fj):Prop:=
 ∃(a:fj),Qa a p ((zU a)/\fp (du (a.check !=0) ((ez (False))\/(ez (True/\p.check=a.check/\(p.check=0->False)))) (∃(c:fj),Qa c p ((zU c)/\fp (∃(e:List Int),iE e=iE p.dr/\e.length<=1000000/\fp (True/\∃(g:List Int),iE g=iE p.settle/\g.length<=1000000/\fp ((z1n p c e g)/\(z1n p c e g)/\(Xq c p e g)/\Xq c p e g)))))))
def pU (a:si):=(au.wrap (au.wrap (a.hi-a.lo)+1))
def yEd (i:si):Prop:=
 au=au/\au.wrap (au.wrap (i.hi-i.lo)+1)≠0/\du (decide (i.n.tmod (pU i)<0)) (ez (zH i.n i.lo i.hi=au.wrap (i.lo+au.wrap (au.wrap (au.wrap (i.n.tmod (pU i)+i.hi)-i.lo)+1))/\True)) (ez (zH i.n i.lo i.hi=au.wrap (i.lo+i.n.tmod (pU i))/\True))
@[reducible] def W4 (a:Int)(R:Prop):Prop:=(5:Int)=(5:Int)/\(0:Int)=(0:Int)/\(1000:Int)=(1000:Int)/\(200:Int)=(200:Int)/\a=a/\(4:Int)=(4:Int)/\(2:Int)=(2:Int)/\(40:Int)=(40:Int)/\R
def yOd (n:Int):Prop:=
 ez (sb [(67:UInt8),(76:UInt8)]=ByteArray.mk #[(67:UInt8),(76:UInt8)]/\iE [(320:Int),(321:Int),(323:Int)]=[[dI 320],[dI 321],[dI 323]]/\W4 n (iE [(500:Int),(505:Int),(490:Int)]=[[dI 500],[dI 505],[dI 490]]/\True))
def zVu:DG.ok Tryz.prog 45:=ix (V:=yUo) mixed fx 0 (λ_=>[]) (λ_=>[]) [] Tryz.func45 λ(l:List Int) h=>by
 have h:l.length<=1000000:=h;exactλb hb=>Cv.du.mk (λe=>⟨(),hb e,trivial⟩) (λ_=>⟨by rw[oC,yW];omega,(),rfl,trivial⟩)
def zNm:DG.ok Tryz.prog 46:=ix (V:=yHx) mixed fx 0 (λ_=>[]) (λ_=>[]) [] Tryz.func46 λ(l:List Int) h=>by
 have h:l.length<=1000000:=h;exactλb hb=>Cv.du.mk (λe=>⟨(),hb e,trivial⟩) (λ_=>⟨by rw[oC,yW];omega,(),rfl,trivial⟩)
def yNn:LY.ok Tryz.prog 67:=ix (V:=yOd) mixed fx 0 (λ_=>[]) (λ_=>[]) [] Tryz.func67 λ(n:Int) _=>by
 unfold yOd W4 ez dI;exact kp
def yVr (i:si) (h:Dn.du i):yEd i:=by
 obtain⟨⟨a1,a2⟩,a3,a4,a5⟩:ie i.n/\-1000000<=i.lo/\i.lo<=i.hi/\i.hi<=1000000:=h;unfold yEd ez pU;rw[iD (x:=i.hi-i.lo) (by omega),iD (x:=i.hi-i.lo+1) (by omega)];obtain⟨d,hd⟩:∃d:Int,i.hi-i.lo+1=d:=⟨_,rfl⟩
 rw[hd];have h1:i.n.tmod d=if 0<=i.n then i.n % d else-((-i.n) % d):=by
  split
  ·rename_i h;rw[av h]
  ·rename_i h;have:i.n= -(-i.n):=by omega
   conv=>lhs;rw[this]
   rw[Int.neg_tmod,av (by omega)]
 have qu:=Ni i.n (show d≠0 by omega);have oG:=Pl i.n (show 0<d by omega);have C5:=Ni (-i.n) (show d≠0 by omega);have WS:=Pl (-i.n) (show 0<d by omega);have key:i.n.tmod d<0->i.n % d=i.n.tmod d+d:=λLH=>by
  have:=Int.emod_eq_of_lt (a:=i.n.tmod d+d) (b:=d) (by rw[h1]at LH ⊢;split at LH<;>split<;>omega) oM;rw[<- this,Int.add_emod_right];have e:=Int.tmod_add_mul_tdiv i.n d
  conv=>lhs;rw[<- e]
  rw[aw]
 have aan:¬i.n.tmod d<0->i.n % d=i.n.tmod d:=λLH=>by
  have iq:i.n.tmod d<d:=by rw[h1];split<;>omega
  have:=Int.emod_eq_of_lt (a:=i.n.tmod d) (b:=d) oM iq;rw[<- this];have e:=Int.tmod_add_mul_tdiv i.n d
  conv=>lhs;rw[<- e]
  rw[aw]
 refine⟨rfl,oM,zI (λc=>⟨(),?_,trivial⟩) (λc=>⟨(),?_,trivial⟩)⟩
 ·have k:=key c;rw[zH,hd,k];rw[iD (x:=i.n.tmod d+i.hi) (by omega),iD (x:=i.n.tmod d+i.hi-i.lo) (by omega),iD (x:=i.n.tmod d+i.hi-i.lo+1) (by omega),iD (by omega)];omega
 ·have k:=aan c;rw[zH,hd,k,iD (by omega)]
def Y5:Dn.ok Tryz.prog 33:=ix mixed fx 0 (λ_=>[]) (λ_=>[]) [] Tryz.func33 yVr
def y8f (p:fj) (h:FE.du p):yXi p:=by
 unfold yXi Qa fp ez Xq z1n Yq YA UB Uq Yb Yg ez Qc g9 Qi bX zU Q8 dI;obtain⟨h1,h2,h3⟩:p.small:=h;have PA:(2:Int) ^ (48:Nat)=281474976710656:=by decide
 refine⟨p,?_⟩;simp only[yW,PA]
 (repeat'(first|exact rfl|exact trivial|assumption|apply ar|refineλ(_:Unit) (_:True)=>?_|refine ao () ?_|omega|(dsimp only;omega)))
 refine Cv.du.mk (λc=> .inr ⟨(),trivial,kp,by simpa using c⟩) λc=> ?_
 have c:p.check=0:=by simpa using c
 have m6:=(qF c).m6;have s1:=(qF c).s1;have hc:=xQ p;have er:iE (ac p.count 0)=ac p.count [D.v (.int .i64 0)]:=by rw[iE,Nl]
 refine⟨p,?_⟩
 (repeat'(first|exact rfl|exact trivial|assumption|apply ar|refineλ(_:Unit) (_:True)=>?_|refine ao () ?_|omega|(dsimp only;omega)))
 refine⟨p.dr,?_⟩
 (repeat'(first|exact rfl|exact trivial|assumption|apply ar|refineλ(_:Unit) (_:True)=>?_|refine ao () ?_|omega|(dsimp only;omega)))
 refine⟨p.settle,?_⟩
 (repeat'(first|exact rfl|exact trivial|assumption|apply ar|refineλ(_:Unit) (_:True)=>?_|refine ao () ?_|omega|(dsimp only;omega)))
 all_goals(refine .inl ⟨(),?_⟩;(repeat'(first|exact rfl|exact trivial|assumption|apply ar|refineλ(_:Unit) (_:True)=>?_|refine ao () ?_|omega|(dsimp only;omega))))
 all_goals(simp only[jU,er,ml])
def Dz:FE.ok Tryz.prog 9:=ix mixed (dz mU (dz bN (dz zVu (dz zNm fx)))) 0 (λ_=>[]) (λ_=>[]) [] Tryz.func9 y8f
structure N5 where
 l:fa
 n:Int
def jW (l:List (Int×Int)) (k:Int):Option Int:=(l.find? λx=>decide (x.1=k)).map (·.2)
def fa.Bk (l:fa) (n:Int):Bool:=decide (0<=n) && decide (n<l.jc.length)
def fa.at (l:fa) (v:List Int) (n:Int):Int:=if l.Bk n then v.getD n.toNat 0 else 0
@[reducible] def fa.ok (l:fa):Prop:=l.jc.length<=1000000/\l.qd.length=l.jc.length
def J1:gx:=gh N5 (λi=>[.nm 0 0,zB i.n]) (λi=>[y7 i.l]) (λi=>i.l.ok) (λi=>zB (i.l.at i.l.qd i.n)) (λi=>[y7 i.l])
def ZQ (a:N5):Prop:=Qc a.l.p (dm (z5 a.l.left)/\dm (z5 a.l.inst)/\dm (iE a.l.jc)/\dm (iE a.l.qd)/\Q4 a.l.p (True))
def YQ (a:N5):Prop:=ez (a.l.at a.l.qd a.n=0/\ZQ a)
def yYa (i:N5):Prop:=
 du (decide (i.n>=0)) (du (!decide (i.n<(↑(iE i.l.jc).length:Int))) (YQ i) ((0<=i.n/\i.n<(↑(iE i.l.qd).length:Int))/\∃(a:Int),zF (iE i.l.qd) i.n.toNat 0 1=ax [dI a]/\ez (i.l.at i.l.qd i.n=a/\ZQ i))) (YQ i)
def yMi (l:List (Int×Int)) (k:Int):∀p∈z5 l,kr (Value.int au k) p.1=aq:=by
 intro p hp;obtain⟨x,_,rfl⟩:=oe.1 hp;rfl
def rL (k:Int):∀l:List (Int×Int),kH (Value.int au k) (z5 l)=(jW l k).map λv=>[D.v (.int .i64 v)]
 |[]=>rfl
 |(a,v)::l=>by
  have ih:=rL k l;show(bif (xw .i64 .i64 && decide (k=a))then _ else kH _ (z5 l))=_;by_cases h:k=a
  ·subst h;simp[jW,xw]
  ·have h':¬a=k:=λe=>h e.symm
   rw[show(xw .i64 .i64 && decide (k=a))=ap by simp[h],cond_false,ih];simp[jW,KR,h']
def y6p (i:N5) (h:J1.du i):yYa i:=by
 obtain⟨h1,h2⟩:i.l.ok:=h;unfold yYa ez YQ ez ZQ Q4 Qc dI;simp only[yW];refine zI (λc=>Cv.du.mk (λd=> ?_) (λd=> ?_)) (λc=> ?_)
 ·have d:¬i.n<(i.l.jc.length:Int):=by simpa using d
  rw[fa.at,fa.Bk,jq d];simp only[Hy,nr,if_false];exact kp
 ·have d:i.n<(i.l.jc.length:Int):=by simpa using d
  obtain⟨v,hv⟩:=z6 (l:=i.l.qd) (i:=i.n.toNat) oM;refine⟨⟨oM,oM⟩,v,rz hv,?_⟩;rw[fa.at,fa.Bk,kx d,kx (show 0<=i.n by omega),qj,fk rfl,mi,hv];exact kp
 ·rw[fa.at,fa.Bk,jq (show ¬0<=i.n by omega)];simp only[vd,nr,if_false];exact kp
def yWh:J1.ok Tryz.prog 66:=ix mixed fx 1 (λ_=>[]) (λ_=>[]) [0] Tryz.func66 y6p
structure fy where
 kind:Int
 id:Int
 inst:Int
 side:Int
 dp:Int
 dq:Int
 left:Int
 oD:Int
 deriving DecidableEq
@[reducible] def y9k (r:fy):V:= .agg [zB r.kind,zB r.id,zB r.inst,zB r.side,zB r.dp,zB r.dq,zB r.left,zB r.oD]
def yX (r:fy):List D:=[.v (.int .i64 r.kind),.v (.int .i64 r.id),.v (.int .i64 r.inst),.v (.int .i64 r.side),.v (.int .i64 r.dp),.v (.int .i64 r.dq),.v (.int .i64 r.left),.v (.int .i64 r.oD)]
def dV (k v:Int):List (Int×Int)->List (Int×Int)
 |[]=>[(k,v)]
 |(a,b)::l=>if k=a then(a,v)::l else(a,b)::dV k v l
def DK (k:Int):List (Int×Int)->List (Int×Int)
 |[]=>[]
 |(a,b)::l=>if k=a then l else(a,b)::DK k l
def fa.acc (l:fa) (r:fy):fa×Int:=
 if(jW l.left r.id).isSome=aq then(l,25)else if r.dq<1\/r.dq≠r.left then(l,24)else({l with left:=dV r.id r.left l.left,inst:=dV r.id r.inst l.inst},0)
def fa.own (l:fa) (id:Int):Int:=(jW l.inst id).getD 0
def fa.Cu (l:fa) (id inst:Int):Bool:=(jW l.inst id).isSome && ((l.p.gf (l.own id)).2.2 && (decide (inst=(l.p.gf (l.own id)).1)||decide (inst=(l.p.gf (l.own id)).2.1)))
def GP (l:List Int) (n:Nat) (x:Int):List Int:=l.set n (au.wrap (l.getD n 0+x))
def My (l:List Int) (n:Nat) (x:Int):List Int:=l.set n (au.wrap (l.getD n 0-x))
def fa.om (l:fa) (r:fy):fa:={l with jc:=GP l.jc r.inst.toNat r.dq,qd:=if r.side=1 then GP l.qd r.inst.toNat r.dq else if r.side=2 then My l.qd r.inst.toNat r.dq else l.qd}
def fa.close (l:fa) (id n:Int):fa:={l with left:=if n=0 then DK id (dV id n l.left)else dV id n l.left}
def fy.CE (r:fy):Bool:=decide (r.kind<1)||decide (r.kind>5)
def fa.ri (l:fa) (r:fy):Bool:=decide (r.kind=3) && l.Cu r.id r.inst
def fa.e1 (l:fa) (r:fy):Bool:=decide (r.kind=3) && decide (r.inst≠l.own r.id)
def fy.e2 (r:fy) (left:Int):Bool:=decide (r.kind=3) && (decide (r.dq<1)||(decide (r.dq>left)||decide (r.left≠au.wrap (left-r.dq))))
def fy.e3 (r:fy) (left:Int):Bool:=decide (r.kind=4) && decide (r.dq≠left)
def fy.e4 (r:fy) (left:Int):Bool:=decide (r.kind=5) && (decide (r.dq<0)||(decide (r.dq>=left)||decide (r.left≠au.wrap (left-r.dq))))
def fa.done (l:fa) (r:fy):fa:=
 if r.kind=3 then(l.om r).close r.id r.left else if r.kind=4 then l.close r.id 0 else l.close r.id r.left
def fa.add (l:fa) (r:fy):fa×Int:=
 if r.CE=aq then(l,31)else if r.kind=2 then(l,0)else if l.Bk r.inst=ap then(l,20)else if r.kind=1 then l.acc r
 else if l.ri r=aq then(if r.dq<1 then(l,24)else(l.om r,0))
 else match jW l.left r.id with
  |none=>(l,26)
  |some left=>if l.e1 r=aq then(l,20)else if r.e2 left=aq then(l,24)else if r.e3 left=aq then(l,24)else if r.e4 left=aq then(l,24)else(l.done r,0)
structure uv where
 l:fa
 r:fy
@[reducible] def fa.fit (l:fa):Prop:=l.ok/\l.p.small
def FF:gx:=gh uv (λi=>[.nm 0 0,y9k i.r]) (λi=>[y7 i.l]) (λi=>i.l.fit) (λi=>zB (i.l.add i.r).2) (λi=>[y7 (i.l.add i.r).1])
def fa.gy:fa->List fy->fa×Int
 |l,[]=>(l,0)
 |l,r::t=>if(l.add r).2≠0 then l.add r else fa.gy (l.add r).1 t
def vZ (p:fj) (l:List fy):Int:=
 if p.check≠0 then p.check else if((jU p).gy l).2≠0 then((jU p).gy l).2 else if(ae p.dr.length).any (λn=>decide (((jU p).gy l).1.at ((jU p).gy l).1.qd n≠0))then 21 else 0
structure Lt where
 p:fj
 l:List fy
def yLh (i:Lt):List ib:=[
 {ι:=Nat,dv:=λj=>[(5,.nm 0 0),(21,zB j)],rows:=λj=>[y7 ((jU i.p).gy (i.l.take j)).1]},
 {ι:=Nat,dv:=λj=>[(35,zB j)],rows:=λ_=>[]}]
def bj (t:Nat):ib:={ι:=Bool,dv:=λb=>[(t,y4 b)],rows:=λ_=>[]}
def ij (t:Nat):ib:={ι:=Int,dv:=λn=>[(t,zB n)],rows:=λ_=>[]}
def y7y:List (Nat×ib):=[(4,bj 7),(20,bj 20),(36,bj 43),(68,bj 63),(76,bj 79),(84,bj 103),(92,bj 113)]
end Sx
