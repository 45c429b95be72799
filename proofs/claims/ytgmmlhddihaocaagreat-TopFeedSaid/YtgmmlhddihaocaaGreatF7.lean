/- Texts of ours. No condition. -/
import Derived.Laws.Externs
import Derived.Test.YtgmmlhddihaocaaGreatF6
set_option linter.all false
open List renaming map->ab,take->ac,replicate->ae,drop->af,range->ag,length_erase_of_mem->aj,pairwise_append->ak,map_singleton->am,length_range->ao
open Go.IntKind renaming i64->ap,u64->aq
open Bool renaming true->ar,false->au
open Option renaming some->av,none->aw
open Sx.fj renaming own->ax,cells->ay,ra->az,kg->ba
open Go.Builtin renaming zeroCells->bc,firstCells->be,append_->bg
open Exists renaming intro->bo
open And renaming intro->bu
open Go renaming World->bv,TypeId->bz,Program->cd,Value->ce,size_zeroCells->cf,Addr->cg
open Classical renaming byContradiction->cm
namespace Sx
set_option maxRecDepth 100000
open Go Cv Go.Proofs
def xEw (t:zc) (h:Kh.dp t):y0z t:=by
 obtain⟨hc,hs,⟨r1,r2,r3,r4,r5,r6,r7,r8⟩,i0,i1⟩:t.p.check=0/\t.p.small/\t.c.raw/\0<=t.i/\t.i<=1000000:=h;have ok:=jE hc;have t1:=ok.t1;have t2:=ok.t2;have m2:=ok.m2;have wm:=xF t.p;have hcd:=rS hc;have bk:=y3 (n:=t.c.kind) (lo:=0) (hi:=8) oM;have bi:=y3 (n:=t.c.id) (lo:=0) (hi:=30) oM;have bs:=y3 (n:=t.c.side) (lo:=0) (hi:=1) oM;have bq:=y3 (n:=t.c.dr) (lo:=0) (hi:=11) oM;have bp:=y3 (n:=t.c.dm) (lo:=0) (hi:=9) oM;have mb:=Jp (a:=t.p.tick) (b:=zG t.c.dm 0 9) (m:=1000) (n:=9) oM oM;have wp:ap.wrap (t.p.tick*zG t.c.dm 0 9)=t.p.tick*zG t.c.dm 0 9:=iq oM;unfold y0z OO Qb Qd fa dx PD ZC OO Y3 U4 Bi jR zMc zLy qL yX zW o7 j8 o7 dI;refine⟨⟨t.c.kind,0,8⟩,rfl,rfl,rfl,⟨r1,Z9,Z9,Z9⟩,λ_ _=>⟨⟨t.c.id,0,30⟩,rfl,rfl,rfl,⟨r2,Z9,Z9,Z9⟩,λ_ _=> ?_⟩⟩;dsimp only;rw[iq (x:=1+zG t.c.kind 0 8) (by omega),iq (x:=1+zG t.c.id 0 30) (by omega)];refine⟨⟨1+zG t.c.kind 0 8,1+zG t.c.id 0 30,0,0,0,0,0,0,[]⟩,iw ⟨rfl,λc=>c=⟨uS t.c,1+zG t.c.id 0 30,0,0,0,0,0,0,[]⟩,zH (λe=>⟨⟨uS t.c,1+zG t.c.id 0 30,0,0,0,0,0,0,[]⟩,?_,rfl,rfl,rfl,rfl,rfl,rfl,rfl,rfl,rfl,gg⟩) (λe=>⟨⟨uS t.c,1+zG t.c.id 0 30,0,0,0,0,0,0,[]⟩,?_,rfl,rfl,rfl,rfl,rfl,rfl,rfl,rfl,rfl,gg⟩),λc LZ=> ?_⟩⟩
 ·dsimp only at e ⊢;rw[uS,fc (by omega)]
 ·dsimp only at e ⊢;rw[uS,eg (by omega)]
 subst LZ;refine⟨t.p,oF (iJ ⟨rfl,hs,λ_ _=> ?_⟩)⟩;rw[iq (x:=(t.p.count:Int)-1) (by omega)];refine⟨⟨t.c.inst,0,(t.p.count:Int)-1⟩,rfl,rfl,rfl,⟨r3,Z9,Z9,Z9⟩,λ_ _=>⟨⟨t.c.side,0,1⟩,rfl,rfl,rfl,⟨r4,Z9,Z9,Z9⟩,λ_ _=>⟨⟨t.c.dr,0,11⟩,rfl,rfl,rfl,⟨r6,Z9,Z9,Z9⟩,λ_ _=>⟨⟨t.c.dm,0,9⟩,rfl,rfl,rfl,⟨r5,Z9,Z9,Z9⟩,λ_ _=>⟨rfl,?_⟩⟩⟩⟩⟩;dsimp only;rw[wp,iq (x:=1+zG t.c.side 0 1) (by omega),iq (x:=1+zG t.c.dr 0 11) (by omega),iq (x:=t.i+1) (by omega)];refine Cv.dp.mk (λk=> ?_) (λk=> ?_)
 ·have k:uS t.c=1:=by simpa using k
  refine⟨{y9 t with id:=t.i+1,time:=1},iw ⟨rfl,λc=>c={y9 t with id:=t.i+1,time:=if t.c.time.tmod 5=2 then 2 else 1},⟨rfl,Z8,Cv.dp.mk (λe=>⟨{y9 t with id:=t.i+1,time:=2},iw ⟨rfl,?_,gg⟩⟩) (λe=>⟨{y9 t with id:=t.i+1,time:=1},iw ⟨rfl,?_,gg⟩⟩)⟩,λc LZ=> ?_⟩⟩
  ·have e:t.c.time.tmod 5=2:=by simpa using e
   rw[fc e]
  ·have e:¬t.c.time.tmod 5=2:=by simpa using e
   rw[eg e]
  subst LZ;refine⟨{y9 t with id:=t.i+1,time:=if t.c.time.tmod 5=2 then 2 else 1},iw ⟨rfl,λc=>c={y9 t with id:=t.i+1,time:=cM t.c},⟨rfl,Z8,Cv.dp.mk (λe=>⟨{y9 t with id:=t.i+1,time:=3},iw ⟨rfl,?_,gg⟩⟩) (λe=>⟨{y9 t with id:=t.i+1,time:=if t.c.time.tmod 5=2 then 2 else 1},iw ⟨rfl,?_,gg⟩⟩)⟩,λc LZ=> ?_⟩⟩
  ·have e:t.c.time.tmod 5=3:=by simpa using e
   rw[cM,fc e]
  ·have e:¬t.c.time.tmod 5=3:=by simpa using e
   rw[cM,eg e]
  subst LZ;have hq:(y9 t).dr=1+zG t.c.dr 0 11:=rfl;refine⟨{y9 t with id:=t.i+1,time:=cM t.c},iw ⟨rfl,λc=>c={y9 t with id:=t.i+1,time:=cM t.c,least:=bZ t.c (y9 t).dr},⟨rfl,Z8,Cv.dp.mk (λe=>⟨⟨t.c.least,0,(y9 t).dr⟩,rfl,rfl,rfl,⟨r7,Z9,Z9,Z9⟩,λ_ _=>⟨{y9 t with id:=t.i+1,time:=cM t.c,least:=zG t.c.least 0 (y9 t).dr},iw ⟨rfl,?_,gg⟩⟩⟩) (λe=>⟨{y9 t with id:=t.i+1,time:=cM t.c},iw ⟨rfl,?_,gg⟩⟩)⟩,λc LZ=> ?_⟩⟩
  ·have e:t.c.least.tmod 4=1:=by simpa using e
   rw[bZ,fc e]
  ·have e:¬t.c.least.tmod 4=1:=by simpa using e
   rw[bZ,eg e];rfl
  subst LZ;refine⟨⟨t.p,(y9 t).inst⟩,iw (iJ ⟨rfl,hs,λ_ _=> ?_⟩)⟩;dsimp only;have hp:(y9 t).dm=t.p.tick*zG t.c.dm 0 9:=rfl;have Au:(y9 t).kind=1:=k;rw[iq (x:=8*t.p.tick) (by omega),iq (x:=4*t.p.tick) (by omega),iq (x:=(y9 t).dm+8*t.p.tick) (by omega),iq (x:=(y9 t).dm-4*t.p.tick) (by omega)];refine Cv.dp.mk (λe=>⟨(),?_⟩) (λe=>⟨(),?_⟩)
  ·have e:(t.p.gj (y9 t).inst).2.2=au:=by simpa using e
   have:xE t={y9 t with id:=t.i+1,time:=cM t.c,least:=bZ t.c (y9 t).dr,dm:=(y9 t).dm+8*t.p.tick}:=by
    simp only[xE,Au,if_true,e,oL,if_false]
   rw[this];(repeat'(first|exact trivial|exact rfl|apply bu))
  ·have e:(t.p.gj (y9 t).inst).2.2=ar:=by simpa using e
   have:xE t={y9 t with id:=t.i+1,time:=cM t.c,least:=bZ t.c (y9 t).dr,dm:=(y9 t).dm-4*t.p.tick}:=by
    simp only[xE,Au,if_true,e]
   rw[this];(repeat'(first|exact trivial|exact rfl|apply bu))
 ·have k:¬uS t.c=1:=by simpa using k
  have k:¬(y9 t).kind=1:=k;rw[iq (x:=5*t.p.tick) (by omega),iq (x:=t.p.tick*zG t.c.dm 0 9+5*t.p.tick) (by omega)];have et:xE t={y9 t with dm:=if(y9 t).kind=4 then(y9 t).dm+5*t.p.tick else(y9 t).dm,side:=0,inst:=0}:=by
   simp only[xE,k,if_false]
  rw[et];refine Cv.dp.mk (λe=>⟨(),?_⟩) (λe=>⟨(),?_⟩)
  ·have e:uS t.c=4:=by simpa using e
   have e:(y9 t).kind=4:=e;simp only[fc e];(repeat'(first|exact trivial|exact rfl|apply bu))
  ·have e:¬uS t.c=4:=by simpa using e
   have e:¬(y9 t).kind=4:=e;simp only[eg e];(repeat'(first|exact trivial|exact rfl|apply bu))
def yXk:Kh.ok Tryz.prog 53:=gu mixed (dw sy (dw z7x (dw yJi fg))) 0 (λ_=>xBu) (λ_=>[]) [] Tryz.func53 xEw
structure Ma where
 a:Int
 b:Int
 c:Int
def AR:fy:=fi Ma (λi=>[A0 i.a,A0 i.b,A0 i.c]) (λ_=>[]) (λi=>0<=i.a/\0<=i.b/\0<=i.c/\i.c<=1) (λi=> .iZ [A0 ((i.a+i.b+i.c) % 18446744073709551616),A0 ((i.a+i.b+i.c) / 18446744073709551616)]) (λ_=>[])
def yKb {P : Program} {f : FuncId} {fn : Func} (hf : P.funcs[f]? = some fn) (BT : (fn.name == "runtime.NumGoroutine") = false) (hb : fn.body.isNone = true) (hn : Extern.findNext fn = none) (he : Extern.find fn = some add64Entry) : AR.ok P f := by
 intro i hc k L E w ys R hv;obtain⟨h1,h2,h3,h4⟩:0<=i.a/\0<=i.b/\0<=i.c/\i.c<=1:=hc;simp only[AR,fi,gw,VR,DR]at hv;obtain⟨_,_,rfl,⟨rfl,_⟩,_,_,rfl,⟨rfl,_⟩,_,_,rfl,⟨rfl,_⟩,rfl⟩:=hv;unfold nf;rw[run_callFunc_extern hf BT hb hn he,run_add64 i.a i.b i.c h1 h2 h3 h4];simp only[Result.andThen];refine⟨_,uc.2 rfl,(),trivial,E,Ev.le.refl _,?_,R⟩;simp only[AR,fi,VR,gw,DR];exact⟨_,rfl,_,_,rfl,⟨rfl,rfl⟩,_,_,rfl,⟨rfl,rfl⟩,rfl⟩
def yLc:AR.ok Tryz.prog 271:=by
 refine yKb (P:=Tryz.prog) (f:=271) (fn:=Tryz.f271) Tryz.func271 ?_ ?_ ?_ ?_
 ·kernel_rfl
 ·kernel_rfl
 ·kernel_rfl
 ·kernel_rfl
structure M2 where
 a:Int
 b:Int
def Gw:fy:=fi M2 (λi=>[A0 i.a,A0 i.b]) (λ_=>[]) (λi=>0<=i.a/\i.a<=2000000000/\0<=i.b/\i.b<=2000000000) (λi=> .iZ [A0 0,A0 (i.a*i.b)]) (λ_=>[])
def GP:fy:=fi M2 (λi=>[A0 0,A0 i.a,A0 i.b]) (λ_=>[]) (λi=>0<=i.a/\i.a<=4000000000000000000/\1<=i.b/\i.b<=2000000000) (λi=> .iZ [A0 (i.a / i.b),A0 (i.a % i.b)]) (λ_=>[])
def DW:fy:=fi Ma (λi=>[zB i.a,zB i.b,zB i.c]) (λ_=>[]) (λi=>0<=i.a/\i.a<=2000000000/\0<=i.b/\i.b<=2000000000/\1<=i.c/\i.c<=2000000000) (λi=> .iZ [zB (i.a*i.b / i.c),yL ar]) (λ_=>[])
def Kz:fy:=fi (List Int) (λl=>[iV l]) (λ_=>[]) (λl=>l.length<=1000/\∀x∈l,0<=x/\x<=1000000) (λl=> .iZ [zB l.sum,yL ar]) (λ_=>[])
def xDh (l:List Int):List gm:=[{ι:=Nat,du:=λj=>[(4,A0 (l.take j).sum),(5,zB 0),(11,zB j)],rows:=λ_=>[]}]
structure Cn where
 l:List Int
 q:Int
def y6 (l:List Int) (q:Int):Bool:=decide (l.length<=250) && decide (0<=q) && l.all (λn=>decide (1<=n) && decide (n<=1000000)) && decide (q<=l.sum)
def Gq:fy:=fi Cn (λi=>[iV i.l,zB i.q]) (λ_=>[]) (λi=>i.l.length<=1000000/\gr i.q) (λi=>yL (y6 i.l i.q)) (λ_=>[])
def y7y (i:Cn):List gm:=[{ι:=Nat,du:=λj=>[(5,zB (i.l.take j).sum),(17,zB j)],rows:=λ_=>[]}]
def gT:List Int->Int->List Int
 |[],_=>[]
 |n::l,q=>min n q::gT l (q-min n q)
def g9 (l:List Int) (q:Int):List Int:=if y6 l q=ar then gT l q else[]
def KP:fy:=fi Cn (λi=>[iV i.l,zB i.q]) (λ_=>[]) (λi=>i.l.length<=1000000/\gr i.q) (λ_=> .own 0) (λi=>[.own 2 1 (iE (g9 i.l i.q))])
def xCf (i:Cn):List gm:=[{ι:=Nat,du:=λj=>[(5,.own 0),(1,zB (i.q-((gT i.l i.q).take j).sum)),(15,zB j)],rows:=λj=>[.own 2 1 (iE ((gT i.l i.q).take j))]}]
def zGm (a:M2):=(aq.wrap (aq.wrap (aM aq a.a 32*Cs aq a.b 4294967295)+aM aq (aq.wrap (Cs aq a.a 4294967295*Cs aq a.b 4294967295)) 32))
def yRm (i:M2):Prop:=
 (0:Int)<=(32:Int)/\(0:Int)<=(32:Int)/\(0:Int)<=(32:Int)/\(0:Int)<=(32:Int)/\(0:Int)<=(32:Int)/\dx (0=aq.wrap (aq.wrap (aq.wrap (aM aq i.a 32*aM aq i.b 32)+aM aq (zGm i) 32)+aM aq (aq.wrap (Cs aq (zGm i) 4294967295+aq.wrap (Cs aq i.a 4294967295*aM aq i.b 32))) 32)/\i.a*i.b=aq.wrap (i.a*i.b)/\True)
def yPe (i:M2):Prop:=
 dp (i.b==0) False (dp (decide (i.b<=0)) False (aq=aq/\i.b≠0/\aq=aq/\i.b≠0/\dx (i.a / i.b=aq.wrap (i.a.tdiv i.b)/\i.a % i.b=i.a.tmod i.b/\True)))
def yFz (i:Ma):Prop:=
 dp (decide (i.a<0)) (dx (i.a*i.b / i.c=0/\ar=au/\True)) (dp (decide (i.b<0)) (dx (i.a*i.b / i.c=0/\ar=au/\True)) (dp (decide (i.c<1)) (dx (i.a*i.b / i.c=0/\ar=au/\True)) (∃(a:M2),a.a=aq.wrap i.a/\a.b=aq.wrap i.b/\(0<=a.a/\a.a<=(2000000000:Int)/\(0:Int)<=a.b/\a.b<=2000000000)/\fa (dp (decide (0>=aq.wrap i.c)) (dx (i.a*i.b / i.c=0/\ar=au/\True)) (∃(c:M2),dl ((0:Int))/\c.a=a.a*a.b/\c.b=aq.wrap i.c/\(0<=c.a/\c.a<=(4000000000000000000:Int)/\(1:Int)<=c.b/\c.b<=2000000000)/\fa (dp (decide (c.a / c.b>9223372036854775807)) (dx (i.a*i.b / i.c=0/\ar=au/\True)) (dx (i.a*i.b / i.c=ap.wrap (c.a / c.b)/\ar=ar/\True))))))))
def y3h (l:List Int):Prop:=
 ∃(a:Nat),(ac a l).sum=(0:Int)/\(0:Int)=0/\(↑a:Int)=0/\∃(b:Nat->Prop),∃(c:Nat->Nat),b a/\∀(d:Nat),b d->dp (decide ((↑d:Int)<(↑(iE l).length:Int))) ((0<=(↑d:Int)/\(↑d:Int)<(↑(iE l).length:Int))/\∃(e:Int),zD (iE l) (↑d:Int).toNat 0 1=av [dI e]/\∃(f:Ma),f.a=(ac d l).sum/\f.b=aq.wrap e/\f.c=0/\(0<=f.a/\0<=f.b/\0<=f.c/\f.c<=1)/\fa ((0:Int)<=(63:Int)/\∃(h:Nat),(ac h l).sum=(f.a+f.b+f.c) % (18446744073709551616:Int)/\(0:Int)=ap.wrap (0+ap.wrap (aM ap e 63+ap.wrap ((f.a+f.b+f.c) / (18446744073709551616:Int))))/\kI h d b c)) ((0:Int)<=(63:Int)/\dp (0 !=aM ap (ap.wrap (ac d l).sum) 63) (dx (l.sum=0/\ar=au/\True)) (dx (l.sum=ap.wrap (ac d l).sum/\ar=ar/\True)))
def yQg (i:Cn):Prop:=
 dp (decide ((↑(iE i.l).length:Int)>250)) (dx (y6 i.l i.q=au/\True)) (dp (decide (i.q<0)) (dx (y6 i.l i.q=au/\True)) (∃(a:Nat),(ac a i.l).sum=0/\(↑a:Int)=0/\∃(b:Nat->Prop),∃(c:Nat->Nat),b a/\∀(d:Nat),b d->dp (decide ((↑d:Int)<(↑(iE i.l).length:Int))) ((0<=(↑d:Int)/\(↑d:Int)<(↑(iE i.l).length:Int))/\∃(e:Int),zD (iE i.l) (↑d:Int).toNat 0 1=av [dI e]/\dp (decide (e<1)) (dx (y6 i.l i.q=au/\True)) (dp (decide (e>1000000)) (dx (y6 i.l i.q=au/\True)) (∃(f:Nat),(ac f i.l).sum=ap.wrap ((ac d i.l).sum+e)/\kI f d b c))) (dx (y6 i.l i.q=decide (i.q<=(ac d i.l).sum)/\True))))
def wW (a:Cn):Prop:=a.l.length<=(1000000:Nat)/\(-9223372036854775808:Int)<=a.q/\a.q<=9223372036854775807
def wZ (a:Nat) (b:Cn):=(ac a (gT b.l b.q))
def y1v (i:Cn):Prop:=
 ∃(a:Cn),iE a.l=iE i.l/\a.q=i.q/\(wW a)/\fa (dp (!y6 a.l a.q) (dx (iE (g9 i.l i.q)=[]/\True)) (∃(c:Nat),i.q-(wZ c i).sum=i.q/\(↑c:Int)=0/\iE (wZ c i)=[]/\∃(d:Nat->Prop),∃(e:Nat->Nat),d c/\∀(f:Nat),d f->dp (decide ((↑f:Int)<(↑(iE i.l).length:Int))) ((0<=(↑f:Int)/\(↑f:Int)<(↑(iE i.l).length:Int))/\∃(g:Int),zD (iE i.l) (↑f:Int).toNat 0 1=av [dI g]/\((iE (wZ f i)).length+1)*(8:Nat)<=(140737488355328:Nat)/\∃(h:Nat),i.q-(wZ h i).sum=ap.wrap (i.q-(wZ f i).sum-min g (i.q-(wZ f i).sum))/\(↑h:Int)=ap.wrap ((↑f:Int)+1)/\iE (wZ h i)=iE (wZ f i)++[[dI (min g (i.q-(wZ f i).sum))]]/\d h/\e h<e f/\True) (dx (iE (g9 i.l i.q)=iE (wZ f i)/\True))))
def z0i {x:Int} (h0:0<=x) (h1:x<4294967296):Cs .u64 x 4294967295=x:=by
 have e:Cs .u64 x 4294967295=aq.wrap ((BitVec.ofInt 64 x &&& BitVec.ofInt 64 4294967295).toNat:Int):=rfl;obtain⟨n,rfl⟩:=Int.eq_ofNat_of_zero_le h0;have hn:n<4294967296:=by omega
 rw[e,BitVec.toNat_and,BitVec.ofInt_natCast,BitVec.toNat_ofNat,show(BitVec.ofInt 64 4294967295).toNat=2 ^ 32-1 by decide,Nat.and_two_pow_sub_one_eq_mod];rw[show n % 2 ^ 64 % 2 ^ 32=n by omega,B7 (by omega)]
def UC {x:Int} (h0:0<=x) (h1:x<4294967296):aM .u64 x 32=0:=by
 have:=Pj .u64 x 32 Z8;rw[show((32:Nat):Int)=32 by rfl]at this;rw[this];omega
def yDq {a b m n:Int} (ha:0<=a/\a<=m) (hb:0<=b/\b<=n):0<=a*b/\a*b<=m*n:=
 ⟨NW ha.1 hb.1,Int.mul_le_mul ha.2 hb.2 hb.1 oM⟩
def y9k (i:M2) (h:Gw.dp i):yRm i:=by
 obtain⟨h1,h2,h3,h4⟩:0<=i.a/\i.a<=2000000000/\0<=i.b/\i.b<=2000000000:=h;have hm:=yDq ⟨h1,h2⟩ ⟨h3,h4⟩;have hs:aM aq (i.a*i.b) 32=(i.a*i.b) / 4294967296:=by
  have:=Pj .u64 (i.a*i.b) 32 Z8;rw[show((32:Nat):Int)=32 by rfl]at this;exact this
 unfold yRm dx zGm;refine⟨Z8,Z8,Z8,Z8,Z8,(),?_,?_,trivial⟩
 ·rw[z0i h1 (by omega),z0i h3 (by omega),UC h1 (by omega),UC h3 (by omega),B7 (x:=i.a*i.b) (by omega),hs];simp only[Int.zero_mul,Int.mul_zero,Int.zero_add,Int.add_zero];rw[B7 (x:=0) (by omega)];simp only[Int.zero_add,Int.add_zero];rw[B7 (x:=i.a*i.b / 4294967296) (by omega),UC (x:=i.a*i.b / 4294967296) (by omega) (by omega),z0i (x:=i.a*i.b / 4294967296) (by omega) (by omega),B7 (x:=i.a*i.b / 4294967296) (by omega),UC (x:=i.a*i.b / 4294967296) (by omega) (by omega)];rfl
 ·rw[B7 (by omega)]
def yRc:Gw.ok Tryz.prog 265:=gu mixed fg 0 (λ_=>[]) (λ_=>[]) [] Tryz.func265 y9k
def y8x (i:M2) (h:GP.dp i):yPe i:=by
 obtain⟨h1,h2,h3,h4⟩:0<=i.a/\i.a<=4000000000000000000/\1<=i.b/\i.b<=2000000000:=h;unfold yPe dx;have hd:0<=i.a / i.b/\i.a / i.b<=i.a:=⟨Int.ediv_nonneg h1 oM,Int.ediv_le_self _ h1⟩
 refine Cv.dp.mk (λc=>absurd (eq_of_beq c) oM) (λ_=>zH (λc=>by omega) (λ_=>⟨rfl,oM,rfl,oM,(),?_,?_,trivial⟩))
 ·rw[Int.tdiv_eq_ediv_of_nonneg h1,B7 (by omega)]
 ·rw[Int.tmod_eq_emod_of_nonneg h1]
def yOb:GP.ok Tryz.prog 266:=gu mixed fg 0 (λ_=>[]) (λ_=>[]) [] Tryz.func266 y8x
def yXj (i:Ma) (h:DW.dp i):yFz i:=by
 obtain⟨h1,h2,h3,h4,h5,h6⟩:0<=i.a/\i.a<=2000000000/\0<=i.b/\i.b<=2000000000/\1<=i.c/\i.c<=2000000000:=h;have hm:=yDq ⟨h1,h2⟩ ⟨h3,h4⟩;have hd:0<=i.a*i.b / i.c/\i.a*i.b / i.c<=i.a*i.b:=⟨Int.ediv_nonneg hm.1 oM,Int.ediv_le_self _ hm.1⟩
 unfold yFz fa dx;rw[B7 (x:=i.a) (by omega),B7 (x:=i.b) (by omega),B7 (x:=i.c) (by omega)];refine zH (λc=>by omega) (λ_=>zH (λc=>by omega) (λ_=>zH (λc=>by omega) (λ_=>⟨⟨i.a,i.b⟩,rfl,rfl,⟨h1,h2,h3,h4⟩,λ_ _=>zH (λc=>by omega) (λ_=>⟨⟨i.a*i.b,i.c⟩,rfl,rfl,rfl,⟨hm.1,Z9,h5,h6⟩,λ_ _=>zH (λc=>by dsimp only at c;omega) (λ_=>⟨(),?_,rfl,trivial⟩)⟩)⟩)));rw[iq (by dsimp only;omega)]
def zWy:DW.ok Tryz.prog 261:=gu mixed (dw yRc (dw yOb fg)) 0 (λ_=>[]) (λ_=>[]) [] Tryz.func261 yXj
def qy {j:Nat} (h:j<=1000000):((j+1:Nat):Int)=ap.wrap ((j:Int)+1):=by rw[iq (by omega)];rfl
def wP {l:List Int} {j:Nat} {x:Int} (h:l[j]? =av x):(l.take (j+1)).sum=(l.take j).sum+x:=by
 rw[qx,h];simp
def wN {l:List Int} (h:∀x∈l,0<=x/\x<=1000000):∀j:Nat,0<=(l.take j).sum/\(l.take j).sum<=1000000*j
 |0=>by simp
 |j+1=>by
  have ih:=wN h j;cases hx:l[j]? with
  |none=>
   have:l.take (j+1)=l.take j:=by
    rw[qx,hx];simp
   rw[this];omega
  |some x=>
   have:=h x (ku hx);rw[wP hx];omega
def xBk (l:List Int) (h:Kz.dp l):y3h l:=by
 obtain⟨hl,hb⟩:l.length<=1000/\∀x∈l,0<=x/\x<=1000000:=h;unfold y3h fa dx kI QP dI;simp only[y8];refine⟨0,by(first|exact rfl|exact trivial),by(first|exact rfl|exact trivial),by(first|exact rfl|exact trivial),λj=>j<=l.length,λj=>l.length-j,mi _,λj hj=>zH (λc=> ?_) (λc=> ?_)⟩
 ·have ov:j<l.length:=by omega
  obtain⟨x,hx⟩:=z6 (l:=l) (i:=j) ov;have bx:=hb x (ku hx);have bs:=wN hb j;refine⟨⟨oM,oM⟩,x,rm hx,⟨(l.take j).sum,x,0⟩,rfl,by rw[B7 (by omega)],rfl,⟨bs.1,bx.1,Z9,Z9⟩,λ_ _=>⟨Z8,j+1,?_,?_,qy oM,ov,Z9,trivial⟩⟩
  ·rw[wP hx];dsimp only;omega
  ·have e:aM ap x 63=x / 9223372036854775808:=by
    have:=Pj .i64 x 63 Z8;rw[show((63:Nat):Int)=63 by rfl]at this;exact this
   dsimp only;rw[e,show x / 9223372036854775808=0 by omega,show((l.take j).sum+x+0) / 18446744073709551616=0 by omega];rfl
 ·have ov:j=l.length:=by omega
  subst ov;have bs:=wN hb l.length;rw[zr]at bs;have e:aM ap l.sum 63=l.sum / 9223372036854775808:=by
   have:=Pj .i64 l.sum 63 Z8;rw[show((63:Nat):Int)=63 by rfl]at this;exact this
  rw[zr,iq (x:=l.sum) (by omega),e,show l.sum / 9223372036854775808=0 by omega];exact⟨Z8,Cv.dp.mk (λc=>absurd c Z8) (λ_=>⟨(),by(first|exact rfl|exact trivial),by(first|exact rfl|exact trivial),trivial⟩)⟩
def yWa:Kz.ok Tryz.prog 268:=gu mixed (dw yLc fg) 0 (λ_=>[]) (λl=>xDh l) [] Tryz.func268 xBk
def y4r (i:Cn) (h:Gq.dp i):yQg i:=by
 obtain⟨hl,hq⟩:i.l.length<=1000000/\gr i.q:=h;unfold yQg dx kI QP dI;simp only[y8];refine zH (λc=>⟨(),?_,trivial⟩) (λc1=>zH (λc=>⟨(),?_,trivial⟩) (λc2=> ?_))
 ·rw[y6,jt (by omega:¬i.l.length<=250)];rfl
 ·rw[y6,jt (by omega:¬0<=i.q)];simp
 refine⟨0,by(first|exact rfl|exact trivial),by(first|exact rfl|exact trivial),λj=>j<=i.l.length/\∀k<j,∀x,i.l[k]? =av x->1<=x/\x<=1000000,λj=>i.l.length-j,⟨mi _,λk hk=>absurd hk (Nat.not_lt_zero k)⟩,λj hj=>zH (λc=> ?_) (λc=> ?_)⟩
 ·obtain⟨hj0,XV⟩:=hj;have ov:j<i.l.length:=by omega
  obtain⟨x,hx⟩:=z6 (l:=i.l) (i:=j) ov;have bad (hn:¬(1<=x/\x<=1000000)):y6 i.l i.q=au:=by
   have:(i.l.all λn=>decide (1<=n) && decide (n<=1000000))=au:=by
    rw[List.all_eq_false];exact⟨x,ku hx,by simpa using hn⟩
   rw[y6,this];simp
  have bs:0<=(i.l.take j).sum/\(i.l.take j).sum<=1000000*j:=by
   have:=wN (l:=i.l.take j) (λy hy=>by
    obtain⟨k,hk⟩:=Bt.1 hy;have XU:k<j:=by
     have:=(jf.1 hk).1;rw[ng]at this;omega
    rw[List.getElem?_take_of_lt XU]at hk;have:=XV k XU y hk;omega) j
   rwa [List.take_take,Nat.min_self]at this
  refine⟨⟨oM,oM⟩,x,rm hx,zH (λd=>⟨(),bad oM,trivial⟩) (λd=>zH (λe=>⟨(),bad oM,trivial⟩) (λe=>⟨j+1,?_,qy oM,⟨ov,λk hk y hy=> ?_⟩,Z9,trivial⟩))⟩
  ·rw[wP hx,iq (by omega)]
  ·by_cases XU:k=j
   ·rw[XU,hx]at hy;cases hy;omega
   ·exact XV k oM y hy
 ·obtain⟨hj0,XV⟩:=hj;have ov:j=i.l.length:=by omega
  subst ov;have:(i.l.all λn=>decide (1<=n) && decide (n<=1000000))=ar:=by
   rw[Eb];intro y hy;obtain⟨k,hk⟩:=Bt.1 hy;have:=XV k ((jf.1 hk).1) y hk;simpa using this
  refine⟨(),?_,trivial⟩;rw[y6,this,jk (by omega:i.l.length<=250),jk (by omega:0<=i.q),zr];rfl
def Ve:Gq.ok Tryz.prog 259:=gu mixed fg 0 (λ_=>[]) (λi=>y7y i) [] Tryz.func259 y4r
def j9 {l:List Int} {q:Int} (h:y6 l q=ar):l.length<=250/\0<=q/\(∀x∈l,1<=x/\x<=1000000)/\q<=l.sum:=by
 simp only[y6,lj,tq,Eb]at h;exact⟨h.1.1.1,h.1.1.2,h.1.2,h.2⟩
def UF {l:List Int} {q:Int} (h:y6 l q=ar):q<=250000000:=by
 obtain⟨h1,h2,h3,h4⟩:=j9 h;have:=wN (l:=l) (λx hx=>by have:=h3 x hx;omega) l.length;rw[zr]at this;omega
def Px:∀(l:List Int) (q:Int),(gT l q).length=l.length
 |[],_=>rfl
 |n::l,q=>by rw[gT,iC,iC,Px l]
def Y4:∀(l:List Int) (q:Int) (j:Nat) (n:Int),l[j]? =av n->(gT l q)[j]? =av (min n (q-((gT l q).take j).sum))
 |[],_,_,_,h=>by simp at h
 |m::l,q,0,n,h=>by simp at h;subst h;simp[gT]
 |m::l,q,j+1,n,h=>by
  rw[Bd]at h;rw[gT,Bd,Y4 l _ j n h,ux,rk];congr 2;omega
def ZT:∀(l:List Int) (q:Int) (j:Nat),0<=q->(∀x∈l,0<=x)->0<=q-((gT l q).take j).sum/\q-((gT l q).take j).sum<=q
 |[],q,j,h,_=>by simp[gT,h]
 |m::l,q,0,h,_=>by simp[h]
 |m::l,q,j+1,h,hb=>by
  have hm:=hb m iS;have:=ZT l (q-min m q) j oM (λx hx=>hb x (jc _ hx));rw[gT,ux,rk];omega
def xFr (i:Cn) (h:KP.dp i):y1v i:=by
 obtain⟨hl,hq⟩:i.l.length<=1000000/\gr i.q:=h;unfold y1v fa dx wZ wW dI;refine⟨i,rfl,rfl,⟨hl,hq⟩,λ_ _=>Cv.dp.mk (λc=> ?_) (λc=> ?_)⟩
 ·have c:y6 i.l i.q=au:=by simpa using c
  refine⟨(),?_,trivial⟩;rw[g9,eg (by rw[c];decide)];rfl
 have c:y6 i.l i.q=ar:=by simpa using c
 obtain⟨h1,h2,h3,h4⟩:=j9 c;have uf:=UF c;have h3':∀x∈i.l,0<=x:=λx hx=>by have:=h3 x hx;omega
 simp only[y8];refine⟨0,by simp,rfl,rfl,λj=>j<=i.l.length,λj=>i.l.length-j,mi _,λj hj=>zH (λd=> ?_) (λd=> ?_)⟩
 ·have ov:j<i.l.length:=by omega
  obtain⟨x,hx⟩:=z6 (l:=i.l) (i:=j) ov;have bx:=h3 x (ku hx);have g:=Y4 i.l i.q j x hx;have r:=ZT i.l i.q j h2 h3';refine⟨⟨oM,oM⟩,x,rm hx,by rw[ng];omega,j+1,?_,qy oM,?_,ov,Z9,trivial⟩
  ·rw[wP g,iq (by omega)];omega
  ·rw[qx,g];simp[iE]
 ·have ov:j=i.l.length:=by omega
  subst ov;refine⟨(),?_,trivial⟩;rw[g9,fc c,mo (by rw[Px];omega)]
def yFf:KP.ok Tryz.prog 248:=gu mixed (dw Ve fg) 0 (λ_=>[]) (λi=>xCf i) [] Tryz.func248 xFr
structure Ek where
 slot:Int
 id:Int
 dr:Int
 top:Bool
 deriving DecidableEq
def xCi:Ek:=⟨0,0,0,au⟩
def EF (e:Ek):List D:=[.v (.int .i64 e.slot),.v (.int .i64 e.id),.v (.int .i64 e.dr),.v (.bool e.top)]
@[reducible] def xIp (e:Ek):V:= .agg [zB e.slot,zB e.id,zB e.dr,yL e.top]
def Slot.pk (s:Slot):Ek:=⟨s.n,s.id,s.dr,s.top⟩
def dv.fb (a:dv) (k:Nat):Slot:=a.du.getD k iB
def dv.nn (a:dv) (n:Int):Ek×Bool:=if a.iu n=ar then((a.fb n.toNat).pk,ar)else(xCi,au)
def KY:fy:=fi uq (λi=>[.nm 0 0,zB i.n]) (λi=>[wR i.a]) (λi=>i.a.du.length<=1000000) (λi=> .iZ [xIp (i.a.nn i.n).1,yL (i.a.nn i.n).2]) (λi=>[wR i.a])
def PK (sl:List Slot):Int->List Nat->Prop
 |at_,[]=>at_= -1
 |at_,k::l=>at_=k/\k<sl.length/\PK sl (sl.getD k iB).back l
structure Mg where
 a:dv
 n:Int
 l:List Nat
def AZ (l:List Nat) (j:Nat):Int:=match l[j]? with
 |some k=>k
 |none=> -1
def dv.fu (a:dv) (l:List Nat):List Ek:=l.map λk=>(a.fb k).pk
structure dv.pz (a:dv) (n:Int) (l:List Nat):Prop where
 len:l.length<=1000000
 ch:if 0<=n/\n<a.dy.length then PK a.du (a.dy.getD n.toNat nX).first l else l=[]
def G2:fy:=fi Mg (λi=>[.nm 0 0,zB i.n]) (λi=>[wR i.a]) (λi=>i.a.pz i.n i.l) (λ_=> .own 1) (λi=>[wR i.a,.own 312 4 ((i.a.fu i.l).map EF)])
def y3u (i:Mg):List gm:=[{ι:=Nat,du:=λj=>[(5,.own 0),(6,zB (AZ i.l j))],rows:=λj=>[.own 312 4 ((i.a.fu (i.l.take j)).map EF)]}]
structure Ck where
 a:dv
 n:Int
 dr:Int
def dv.iI (a:dv) (k:Nat):dv:=
 let s:=a.fb k
 let q:=a.dy.getD s.queue.toNat nX
 let As:=if s.ahead= -1 then a.du else a.du.modify s.ahead.toNat λx=>{x with back:=s.back}
 let Di:=if s.back= -1 then As else As.modify s.back.toNat λx=>{x with ahead:=s.ahead}
 ⟨Di.set k iB,a.dy.set s.queue.toNat ⟨if s.ahead= -1 then s.back else q.first,if s.back= -1 then s.ahead else q.last,q.total,ap.wrap (q.count-1)⟩,ap.wrap (a.free+1)⟩
def dv.less (a:dv) (k:Nat) (dr:Int):dv:=
 {a with du:=a.du.modify k λs=>{s with dr:=s.dr-dr},dy:=a.dy.modify (a.fb k).queue.toNat λq=>{q with total:=ap.wrap (q.total-dr)}}
def dv.gq (a:dv) (n dr:Int):dv×Int:=
 if a.iu n=au then(a,26)else if dr<1\/(a.fb n.toNat).dr<dr then(a,24)
 else if(a.fb n.toNat).dr=dr then((a.less n.toNat dr).iI n.toNat,0)else(a.less n.toNat dr,0)
def dv.Eo (a:dv):Prop:=a.du.length<=1000000/\∀(k:Nat) (s:Slot),a.du[k]? =av s->s.used=ar->(0<=s.queue/\s.queue<a.dy.length)/\s.dr<=1000000/\(s.ahead= -1\/(0<=s.ahead/\s.ahead<a.du.length/\s.ahead≠k))/\(s.back= -1\/(0<=s.back/\s.back<a.du.length/\s.back≠k))
def GY:fy:=fi Ck (λi=>[.nm 0 0,zB i.n,zB i.dr]) (λi=>[wR i.a]) (λi=>i.a.Eo) (λi=>zB (i.a.gq i.n i.dr).2) (λi=>[wR (i.a.gq i.n i.dr).1])
def VT (a:uq):Prop:=dx ((a.a.nn a.n).fst.slot=0/\(a.a.nn a.n).fst.id=0/\(a.a.nn a.n).fst.dr=0/\(a.a.nn a.n).fst.top=au/\(a.a.nn a.n).snd=au/\wI a)
def y2u (i:uq):Prop:=
 dp (decide (i.n<0)) (VT i) (dp (decide (i.n>=(↑(ab zT i.a.du).length:Int))) (VT i) ((0<=i.n/\i.n<(↑(ab zT i.a.du).length:Int))/\∃(a:Bool),zD (ab zT i.a.du) i.n.toNat 0 1=av [D.v (.bool a)]/\dp (!a) (VT i) ((0<=i.n/\i.n<(↑(ab zT i.a.du).length:Int))/\∃(b:Int),∃(c:Int),∃(d:Int),∃(e:Bool),zD (ab zT i.a.du) i.n.toNat 1 4=av [dI b,dI c,dI d,D.v (.bool e)]/\dx ((i.a.nn i.n).fst.slot=b/\(i.a.nn i.n).fst.id=c/\(i.a.nn i.n).fst.dr=d/\(i.a.nn i.n).fst.top=e/\(i.a.nn i.n).snd=ar/\wI i))))
def zFc (a:Mg):Prop:=dx (Q9 a.a (ab EF (a.a.fu a.l)=[]/\True))
def yPj (i:Mg):Prop:=
 dp (decide (i.n>=0)) (dp (!decide (i.n<(↑(ab zR i.a.dy).length:Int))) (zFc i) ((0<=i.n/\i.n<(↑(ab zR i.a.dy).length:Int))/\∃(a:Int),zD (ab zR i.a.dy) i.n.toNat 0 1=av [dI a]/\∃(b:Nat),AZ i.l b=a/\ab EF (i.a.fu (ac b i.l))=[]/\∃(c:Nat->Prop),∃(d:Nat->Nat),c b/\∀(e:Nat),c e->dp (AZ i.l e !=(-1)) ((0<=AZ i.l e/\AZ i.l e<(↑(ab zT i.a.du).length:Int))/\∃(f:Int),∃(g:Int),∃(h:Int),∃(j:Bool),zD (ab zT i.a.du) (AZ i.l e).toNat 1 4=av [dI f,dI g,dI h,D.v (.bool j)]/\((ab EF (i.a.fu (ac e i.l))).length+1)*(32:Nat)<=(140737488355328:Nat)/\(0<=AZ i.l e/\AZ i.l e<(↑(ab zT i.a.du).length:Int))/\∃(k:Int),zD (ab zT i.a.du) (AZ i.l e).toNat 7 1=av [dI k]/\∃(l:Nat),AZ i.l l=k/\ab EF (i.a.fu (ac l i.l))=ab EF (i.a.fu (ac e i.l))++[[dI f,dI g,dI h,D.v (.bool j)]]/\c l/\d l<d e/\dl (ay [V.own 1,V.own 2,V.d (dI i.a.free)] (317:bz))/\dl (ax 314 8 (ab zT i.a.du))/\dl (ax 320 4 (ab zR i.a.dy))) (dx (Q9 i.a (ab EF (i.a.fu i.l)=ab EF (i.a.fu (ac e i.l))/\True))))) (zFc i)
def zGj (a:Ck):Prop:=(a.a.gq a.n a.dr).fst.free=a.a.free/\ab zT (a.a.gq a.n a.dr).fst.du=ab zT a.a.du/\ab zR (a.a.gq a.n a.dr).fst.dy=ab zR a.a.dy/\True
def eL (a:Ck):Prop:=dx ((a.a.gq a.n a.dr).snd=26/\zGj a)
def zFd (a:Ck):Prop:=dx ((a.a.gq a.n a.dr).snd=24/\zGj a)
def vV (a:Ck) (b:Int) (c:Int):=(zJ (ab zR a.a.dy) b.toNat 2 [dI (ap.wrap (c-a.dr))])
def cU (a:Ck) (b:Int) (c:Int) (d:Int) (e:Int):=(zJ (vV a b c) d.toNat 0 [dI e])
def eJ (a:Ck) (b:Int) (c:Int) (d:Int) (e:Int) (f:Int):=(zJ (cU a b c d e) d.toNat 1 [dI f])
def xB (a:Ck) (b:Int):=(zJ (ab zT a.a.du) a.n.toNat 3 [dI (ap.wrap (b-a.dr))])
def zFf (a:Int) (b:Ck) (c:Int):Prop:=0<=a/\a<(↑(xB b c).length:Int)
def jJ (a:Ck) (b:Int) (c:Int) (d:Int):=(zJ (xB a b) c.toNat 7 [dI d])
def lK (a:Ck) (b:Int) (c:Int) (d:Int) (e:Int):=(zJ (vV a b c) d.toNat 1 [dI e])
@[reducible] def Sy (a:Ck)(R:Prop):Prop:=(a.a.gq a.n a.dr).snd=0/\(a.a.gq a.n a.dr).fst.free=ap.wrap (a.a.free+1)/\R
def yMk (i:Ck):Prop:=
 dp (decide (i.n<0)) (eL i) (dp (decide (i.n>=(↑(ab zT i.a.du).length:Int))) (eL i) ((0<=i.n/\i.n<(↑(ab zT i.a.du).length:Int))/\∃(a:Bool),zD (ab zT i.a.du) i.n.toNat 0 1=av [D.v (.bool a)]/\dp (!a) (eL i) ((0<=i.n/\i.n<(↑(ab zT i.a.du).length:Int))/\dp (decide (i.dr<1)) (zFd i) (∃(b:Int),zD (ab zT i.a.du) i.n.toNat 3 1=av [dI b]/\dp (decide (i.dr>b)) (zFd i) (∃(c:Int),zD (ab zT i.a.du) i.n.toNat 3 1=av [dI c]/\i.n.toNat<(ab zT i.a.du).length/\∃(d:Int),zD (xB i c) i.n.toNat 5 1=av [dI d]/\(0<=d/\d<(↑(ab zR i.a.dy).length:Int))/\∃(e:Int),zD (ab zR i.a.dy) d.toNat 2 1=av [dI e]/\(0<=d/\d<(↑(ab zR i.a.dy).length:Int))/\d.toNat<(ab zR i.a.dy).length/\∃(f:Int),zD (xB i c) i.n.toNat 3 1=av [dI f]/\dp (f==0) (∃(g:Int),zD (xB i c) i.n.toNat 5 1=av [dI g]/\(0<=g/\g<(↑(vV i d e).length:Int))/\∃(h:Int),zD (xB i c) i.n.toNat 6 1=av [dI h]/\dp (h==(-1)) (∃(j:Int),zD (xB i c) i.n.toNat 7 1=av [dI j]/\g.toNat<(vV i d e).length/\∃(k:Int),zD (xB i c) i.n.toNat 7 1=av [dI k]/\dp (k==(-1)) (∃(l:Int),zD (xB i c) i.n.toNat 6 1=av [dI l]/\g.toNat<(cU i d e g j).length/\∃(m:Int),zD (eJ i d e g j l) g.toNat 3 1=av [dI m]/\g.toNat<(eJ i d e g j l).length/\i.n.toNat<(xB i c).length/\dx (Sy i (ab zT (i.a.gq i.n i.dr).fst.du=zJ (xB i c) i.n.toNat 0 [D.v (.bool au),dI 0,dI 0,dI 0,D.v (.bool au),dI 0,dI 0,dI 0]/\ab zR (i.a.gq i.n i.dr).fst.dy=zJ (eJ i d e g j l) g.toNat 3 [dI (ap.wrap (m-1))]/\True))) (∃(l:Int),zD (xB i c) i.n.toNat 7 1=av [dI l]/\∃(m:Int),zD (xB i c) i.n.toNat 6 1=av [dI m]/\(zFf l i c)/\l.toNat<(xB i c).length/\∃(n:Int),zD (cU i d e g j) g.toNat 3 1=av [dI n]/\g.toNat<(cU i d e g j).length/\i.n.toNat<(zJ (xB i c) l.toNat 6 [dI m]).length/\dx (Sy i (ab zT (i.a.gq i.n i.dr).fst.du=zJ (zJ (xB i c) l.toNat 6 [dI m]) i.n.toNat 0 [D.v (.bool au),dI 0,dI 0,dI 0,D.v (.bool au),dI 0,dI 0,dI 0]/\ab zR (i.a.gq i.n i.dr).fst.dy=zJ (cU i d e g j) g.toNat 3 [dI (ap.wrap (n-1))]/\True)))) (∃(j:Int),zD (xB i c) i.n.toNat 6 1=av [dI j]/\∃(k:Int),zD (xB i c) i.n.toNat 7 1=av [dI k]/\(zFf j i c)/\j.toNat<(xB i c).length/\∃(l:Int),zD (jJ i c j k) i.n.toNat 7 1=av [dI l]/\dp (l==(-1)) (∃(m:Int),zD (jJ i c j k) i.n.toNat 6 1=av [dI m]/\g.toNat<(vV i d e).length/\∃(n:Int),zD (lK i d e g m) g.toNat 3 1=av [dI n]/\g.toNat<(lK i d e g m).length/\i.n.toNat<(jJ i c j k).length/\dx (Sy i (ab zT (i.a.gq i.n i.dr).fst.du=zJ (jJ i c j k) i.n.toNat 0 [D.v (.bool au),dI 0,dI 0,dI 0,D.v (.bool au),dI 0,dI 0,dI 0]/\ab zR (i.a.gq i.n i.dr).fst.dy=zJ (lK i d e g m) g.toNat 3 [dI (ap.wrap (n-1))]/\True))) (∃(m:Int),zD (jJ i c j k) i.n.toNat 7 1=av [dI m]/\∃(n:Int),zD (jJ i c j k) i.n.toNat 6 1=av [dI n]/\(0<=m/\m<(↑(jJ i c j k).length:Int))/\m.toNat<(jJ i c j k).length/\∃(p:Int),zD (vV i d e) g.toNat 3 1=av [dI p]/\g.toNat<(vV i d e).length/\i.n.toNat<(zJ (jJ i c j k) m.toNat 6 [dI n]).length/\dx (Sy i (ab zT (i.a.gq i.n i.dr).fst.du=zJ (zJ (jJ i c j k) m.toNat 6 [dI n]) i.n.toNat 0 [D.v (.bool au),dI 0,dI 0,dI 0,D.v (.bool au),dI 0,dI 0,dI 0]/\ab zR (i.a.gq i.n i.dr).fst.dy=zJ (vV i d e) g.toNat 3 [dI (ap.wrap (p-1))]/\True))))) (dx ((i.a.gq i.n i.dr).snd=0/\(i.a.gq i.n i.dr).fst.free=i.a.free/\ab zT (i.a.gq i.n i.dr).fst.du=zJ (ab zT i.a.du) i.n.toNat 3 [dI (ap.wrap (c-i.dr))]/\ab zR (i.a.gq i.n i.dr).fst.dy=zJ (ab zR i.a.dy) d.toNat 2 [dI (ap.wrap (e-i.dr))]/\True)))))))
def UU {a:dv} {n:Int} (h:n<0\/(a.du.length:Int)<=n):a.iu n=au:=by
 rcases h with h|h
 ·rw[dv.iu,jt (by omega),Da]
 ·rw[dv.iu,jt (show ¬n<(a.du.length:Int)by omega),Da,JG]
def yCk {a:dv} {n:Int} {s:Slot} (h0:0<=n) (hs:a.du[n.toNat]? =av s):a.iu n=s.used:=by
 have hl:=(jf.1 hs).1;rw[dv.iu,jk h0,jk (show n<(a.du.length:Int)by omega),zY hs];simp
def xZ {a:dv} {k:Nat} {s:Slot} (hs:a.du[k]? =av s):a.fb k=s:=zY hs
def xEy (i:uq) (h:KY.dp i):y2u i:=by
 have h:i.a.du.length<=1000000:=h;unfold y2u dx VT dx wI Q9 dI;simp only[gy];have no (e:i.a.iu i.n=au):i.a.nn i.n=(xCi,au):=by rw[dv.nn,eg (by rw[e];decide)]
 refine zH (λc=> ?_) (λc=>zH (λd=> ?_) (λd=> ?_))
 ·rw[no (UU (.inl c))];exact kp
 ·rw[no (UU (.inr (by omega)))];exact kp
 ·obtain⟨s,hs⟩:=z6 (l:=i.a.du) (i:=i.n.toNat) oM;have eu:=yCk (a:=i.a) (n:=i.n) oM hs;refine⟨⟨oM,oM⟩,s.used,ju hs (by simp[zT]) rfl,Cv.dp.mk (λu=> ?_) (λu=> ?_)⟩
  ·rw[no (by rw[eu];simpa using u)];exact kp
  ·have e:i.a.iu i.n=ar:=by rw[eu];simpa using u
   have et:i.a.nn i.n=(s.pk,ar):=by rw[dv.nn,fc e,xZ hs]
   rw[et];refine⟨⟨oM,oM⟩,s.n,s.id,s.dr,s.top,ju hs (by simp[zT]) rfl,?_⟩
   exact kp
def yFc:KY.ok Tryz.prog 221:=gu mixed fg 1 (λ_=>[]) (λ_=>[]) [0] Tryz.func221 xEy
def zWu:∀{sl:List Slot} {at_:Int} {l:List Nat},PK sl at_ l->AZ l 0=at_/\∀j k,l[j]? =av k->k<sl.length/\AZ l (j+1)=(sl.getD k iB).back
 |sl,at_,[],h=>⟨h.symm,λj k hk=>by simp at hk⟩
 |sl,at_,x::l,h=>by
  obtain⟨h1,h2,h3⟩:=h;have ih:=zWu h3;refine⟨h1.symm,λj k hk=> ?_⟩;cases j with
  |zero=>
   simp at hk;subst hk;exact⟨h2,by rw[<- ih.1];rfl⟩
  |succ j=>
   rw[Bd]at hk;obtain⟨a,b⟩:=ih.2 j k hk;exact⟨a,by rw[<- b];rfl⟩
def y6q (i:Mg) (h:G2.dp i):yPj i:=by
 obtain⟨hl,h⟩:i.l.length<=1000000/\(if 0<=i.n/\i.n<i.a.dy.length then PK i.a.du (i.a.dy.getD i.n.toNat nX).first i.l else i.l=[]):=⟨h.len,h.ch⟩
 unfold yPj Q9 dx zFc Q9 dx dI;simp only[gy];have out (e:¬(0<=i.n/\i.n<(i.a.dy.length:Int))):i.l=[]:=by rw[eg e]at h;exact h
 refine zH (λc=>Cv.dp.mk (λd=> ?_) (λd=> ?_)) (λc=> ?_)
 ·have d:¬i.n<(i.a.dy.length:Int):=by simpa using d
  rw[out (by omega)];exact kp
 ·have d:i.n<(i.a.dy.length:Int):=by simpa using d
  rw[fc ⟨by omega,d⟩]at h;obtain⟨q,hq⟩:=z6 (l:=i.a.dy) (i:=i.n.toNat) oM;rw[zY hq]at h;obtain⟨n0,nx⟩:=zWu h;refine⟨⟨oM,oM⟩,q.first,ju hq (by simp[zR]) rfl,0,n0,rfl,λj=>j<=i.l.length,λj=>i.l.length-j,mi _,λj hj=>Cv.dp.mk (λe=> ?_) (λe=> ?_)⟩
  ·have e:AZ i.l j≠-1:=by simpa using e
   obtain⟨k,hk⟩:∃k,i.l[j]? =av k:=by
    cases hk:i.l[j]? with
    |none=>rw[AZ,hk]at e;exact absurd rfl e
    |some k=>exact⟨k,rfl⟩
   have EX:=(jf.1 hk).1;obtain⟨o6,EW⟩:=nx j k hk;have en:AZ i.l j=k:=by rw[AZ,hk]
   obtain⟨s,hs⟩:=z6 (l:=i.a.du) (i:=k) o6;rw[en,om];refine⟨⟨oM,oM⟩,s.n,s.id,s.dr,s.top,ju hs (by simp[zT]) rfl,?_,⟨oM,oM⟩,s.back,ju hs (by simp[zT]) rfl,j+1,by rw[EW,zY hs],?_,EX,Z9,gg⟩
   ·simp only[dv.fu,gy,ng];omega
   ·rw[qx,hk];simp only[dv.fu,Option.toList,jl,jj,B9,xZ hs];rfl
  ·have e:AZ i.l j= -1:=by simpa using e
   have ov:i.l.length<=j:=by
    apply cm;intro hn;obtain⟨k,hk⟩:=z6 (l:=i.l) (i:=j) oM;rw[AZ,hk]at e;simp only at e;omega
   rw[mo ov]
   exact kp
 ·rw[out (by omega)];exact kp
def yNt:G2.ok Tryz.prog 258:=gu mixed fg 1 (λ_=>[]) (λi=>y3u i) [0] Tryz.func258 y6q
def z9c {α:Type} {l:List α} {i k:Nat} {x y:α} (h:i≠k) (hk:l[k]? =av x):(l.set i y)[k]? =av x:=by
 rw[List.getElem?_set_ne h];exact hk
def y8d (i:Ck) (h:GY.dp i):yMk i:=by
 obtain⟨hl,oT⟩:i.a.Eo:=h;unfold yMk Sy dx lK jJ zFf xB eJ cU vV zFd dx eL dx zGj dI;simp only[gy];have no (e:i.a.iu i.n=au):i.a.gq i.n i.dr=(i.a,26):=by rw[dv.gq,fc e]
 refine zH (λc=> ?_) (λc=>zH (λd=> ?_) (λd=> ?_))
 ·rw[no (UU (.inl c))];exact kp
 ·rw[no (UU (.inr (by omega)))];exact kp
 obtain⟨k,hk⟩:∃k,k=i.n.toNat:=⟨_,rfl⟩
 rw[<- hk];obtain⟨s,hs⟩:=z6 (l:=i.a.du) (i:=k) oM;have iK:i.a.du[i.n.toNat]? =av s:=by rw[<- hk];exact hs
 have eu:=yCk (a:=i.a) (n:=i.n) oM iK;refine⟨⟨oM,oM⟩,s.used,ju hs (by simp[zT]) rfl,Cv.dp.mk (λu=> ?_) (λu=> ?_)⟩
 ·rw[no (by rw[eu];simpa using u)];exact kp
 have u:s.used=ar:=by simpa using u
 have e:¬i.a.iu i.n=au:=by rw[eu,u];decide
 obtain⟨⟨q0,q1⟩,sq,sa,sb⟩:=oT k s hs u;have esl:i.a.fb i.n.toNat=s:=xZ iK;have bad (hq:i.dr<1\/s.dr<i.dr):i.a.gq i.n i.dr=(i.a,24):=by rw[dv.gq,eg e,esl,fc hq]
 refine⟨⟨oM,oM⟩,zH (λc1=>by rw[bad (.inl c1)];(repeat'(first|exact rfl|exact trivial|assumption|apply bu|refineλ(_:Unit) (_:True)=>?_|refine bo () ?_|omega|(dsimp only;omega)))) (λc1=>⟨s.dr,ju hs (by simp[zT]) rfl,zH (λc2=>by rw[bad (.inr (by omega))];(repeat'(first|exact rfl|exact trivial|assumption|apply bu|refineλ(_:Unit) (_:True)=>?_|refine bo () ?_|omega|(dsimp only;omega)))) (λc2=>⟨s.dr,ju hs (by simp[zT]) rfl,oM,?_⟩)⟩)⟩;obtain⟨q,hq⟩:=z6 (l:=i.a.dy) (i:=s.queue.toNat) oM;have ue:(i.a.du.set k {s with dr:=s.dr-i.dr})[k]? =av {s with dr:=s.dr-i.dr}:=gL hs;have vl:(i.a.dy.set s.queue.toNat {q with total:=ap.wrap (q.total-i.dr)})[s.queue.toNat]? =av {q with total:=ap.wrap (q.total-i.dr)}:=gL hq;have hle:i.a.less i.n.toNat i.dr=⟨i.a.du.set k {s with dr:=s.dr-i.dr},i.a.dy.set s.queue.toNat {q with total:=ap.wrap (q.total-i.dr)},i.a.free⟩:=by
  rw[dv.less,esl,bS iK,bS hq,hk]
 have hL:(i.a.du.set k {s with dr:=s.dr-i.dr}).length=i.a.du.length:=qm;have hQ:(i.a.dy.set s.queue.toNat {q with total:=ap.wrap (q.total-i.dr)}).length=i.a.dy.length:=qm;have tk:i.a.gq i.n i.dr=if s.dr=i.dr then((i.a.less i.n.toNat i.dr).iI i.n.toNat,0)else(i.a.less i.n.toNat i.dr,0):=by rw[dv.gq,eg e,esl,eg (by omega)]
 rw[hle,<- hk]at tk;rw[iq (x:=s.dr-i.dr) (by omega),yM hs (y:={s with dr:=s.dr-i.dr}) rfl];refine⟨s.queue,ju ue (by simp[zT]) rfl,⟨q0,q1⟩,q.total,ju hq (by simp[zR]) rfl,⟨q0,q1⟩,oM,s.dr-i.dr,ju ue (by simp[zT]) rfl,?_⟩;rw[yM hq (y:={q with total:=ap.wrap (q.total-i.dr)}) rfl];simp only[gy];generalize hL1:i.a.du.set k {s with dr:=s.dr-i.dr}=L1 at*;generalize hQ1:i.a.dy.set s.queue.toNat {q with total:=ap.wrap (q.total-i.dr)}=Q1 at*;refine Cv.dp.mk (λz=> ?_) (λz=> ?_)
 ·have z:s.dr=i.dr:=by have:s.dr-i.dr=0:=by simpa using z
                       omega
  rw[fc z]at tk;have aaV:(⟨L1,Q1,i.a.free⟩:dv).fb k={s with dr:=s.dr-i.dr}:=xZ ue;have eq1:Q1.getD s.queue.toNat nX={q with total:=ap.wrap (q.total-i.dr)}:=zY vl;rw[dv.iI,aaV]at tk;dsimp only at tk;rw[eq1]at tk;dsimp only at tk;rw[tk];refine⟨s.queue,ju ue (by simp[zT]) rfl,⟨q0,oM⟩,s.ahead,ju ue (by simp[zT]) rfl,Cv.dp.mk (λea=> ?_) (λea=> ?_)⟩
  ·have ea:s.ahead= -1:=by simpa using ea
   refine⟨s.back,ju ue (by simp[zT]) rfl,oM,s.back,ju ue (by simp[zT]) rfl,?_⟩;rw[yM vl (y:=⟨s.back,q.last,ap.wrap (q.total-i.dr),q.count⟩) rfl];have uf:(Q1.set s.queue.toNat ⟨s.back,q.last,ap.wrap (q.total-i.dr),q.count⟩)[s.queue.toNat]? =av ⟨s.back,q.last,ap.wrap (q.total-i.dr),q.count⟩:=gL vl;simp only[gy,qm];refine Cv.dp.mk (λeb=> ?_) (λeb=> ?_)
   ·have eb:s.back= -1:=by simpa using eb
    refine⟨s.ahead,ju ue (by simp[zT]) rfl,oM,q.count,?_,?_⟩
    ·rw[yM uf (y:=⟨s.back,s.ahead,ap.wrap (q.total-i.dr),q.count⟩) rfl];exact ju (gL uf) (by simp[zR]) rfl
    rw[yM uf (y:=⟨s.back,s.ahead,ap.wrap (q.total-i.dr),q.count⟩) rfl,yM (gL uf) (y:=⟨s.back,s.ahead,ap.wrap (q.total-i.dr),ap.wrap (q.count-1)⟩) rfl,yM ue (y:=iB) rfl];simp only[gy,qm,D8,fc ea,fc eb];refine⟨oM,oM,(),by(first|exact rfl|exact trivial),by(first|exact rfl|exact trivial),by(first|exact rfl|exact trivial),by(first|exact rfl|exact trivial),trivial⟩
   ·have eb:s.back≠-1:=by simpa using eb
    obtain⟨b0,b1,b2⟩:0<=s.back/\s.back<i.a.du.length/\s.back≠k:=by omega
    obtain⟨x,hx⟩:=z6 (l:=L1) (i:=s.back.toNat) oM;refine⟨s.back,ju ue (by simp[zT]) rfl,s.ahead,ju ue (by simp[zT]) rfl,⟨b0,oM⟩,oM,q.count,ju uf (by simp[zR]) rfl,?_⟩;rw[yM hx (y:={x with ahead:=s.ahead}) rfl,yM uf (y:=⟨s.back,q.last,ap.wrap (q.total-i.dr),ap.wrap (q.count-1)⟩) rfl,yM (z9c (by omega) ue) (y:=iB) rfl];simp only[gy,qm,D8,fc ea,eg eb,bS hx];refine⟨oM,oM,(),by(first|exact rfl|exact trivial),by(first|exact rfl|exact trivial),by(first|exact rfl|exact trivial),by(first|exact rfl|exact trivial),trivial⟩
  ·have ea:s.ahead≠-1:=by simpa using ea
   obtain⟨a0,a1,a2⟩:0<=s.ahead/\s.ahead<i.a.du.length/\s.ahead≠k:=by omega
   obtain⟨x,hx⟩:=z6 (l:=L1) (i:=s.ahead.toNat) oM;have yp:(L1.set s.ahead.toNat {x with back:=s.back})[k]? =av {s with dr:=s.dr-i.dr}:=z9c oM ue;refine⟨s.ahead,ju ue (by simp[zT]) rfl,s.back,ju ue (by simp[zT]) rfl,⟨a0,oM⟩,oM,s.back,?_,?_⟩
   ·rw[yM hx (y:={x with back:=s.back}) rfl];exact ju yp (by simp[zT]) rfl
   rw[yM hx (y:={x with back:=s.back}) rfl];simp only[gy,qm];refine Cv.dp.mk (λeb=> ?_) (λeb=> ?_)
   ·have eb:s.back= -1:=by simpa using eb
    refine⟨s.ahead,ju yp (by simp[zT]) rfl,oM,q.count,?_,?_⟩
    ·rw[yM vl (y:=⟨q.first,s.ahead,ap.wrap (q.total-i.dr),q.count⟩) rfl];exact ju (gL vl) (by simp[zR]) rfl
    rw[yM vl (y:=⟨q.first,s.ahead,ap.wrap (q.total-i.dr),q.count⟩) rfl,yM (gL vl) (y:=⟨q.first,s.ahead,ap.wrap (q.total-i.dr),ap.wrap (q.count-1)⟩) rfl,yM yp (y:=iB) rfl];simp only[gy,qm,D8,eg ea,fc eb,bS hx];refine⟨oM,oM,(),by(first|exact rfl|exact trivial),by(first|exact rfl|exact trivial),by(first|exact rfl|exact trivial),by(first|exact rfl|exact trivial),trivial⟩
   ·have eb:s.back≠-1:=by simpa using eb
    obtain⟨b0,b1,b2⟩:0<=s.back/\s.back<i.a.du.length/\s.back≠k:=by omega
    obtain⟨y,hy⟩:=z6 (l:=L1.set s.ahead.toNat {x with back:=s.back}) (i:=s.back.toNat) (by rw[qm];omega);refine⟨s.back,ju yp (by simp[zT]) rfl,s.ahead,ju yp (by simp[zT]) rfl,⟨b0,oM⟩,oM,q.count,ju vl (by simp[zR]) rfl,?_⟩;rw[yM hy (y:={y with ahead:=s.ahead}) rfl,yM vl (y:=⟨q.first,q.last,ap.wrap (q.total-i.dr),ap.wrap (q.count-1)⟩) rfl,yM (z9c (by omega) yp) (y:=iB) rfl];simp only[gy,qm,D8,eg ea,eg eb,bS hx,bS hy];refine⟨oM,oM,(),by(first|exact rfl|exact trivial),by(first|exact rfl|exact trivial),by(first|exact rfl|exact trivial),by(first|exact rfl|exact trivial),trivial⟩
 ·have z:¬s.dr=i.dr:=by have:¬s.dr-i.dr=0:=by simpa using z
                        omega
  rw[eg z]at tk;rw[tk];exact⟨(),mn trivial⟩
def yPl:GY.ok Tryz.prog 234:=gu mixed fg 1 (λ_=>[]) (λ_=>[]) [0] Tryz.func234 y8d
structure vo where
 l:List Int
 least:Int
 q:Int
def z8o (l:List Int) (least q:Int):List Int:=l.map λk=>if least<=k*q / l.sum then k*q / l.sum else 0
def vE:List (Int×Int)->Int->List Int
 |[],_=>[]
 |(n,x)::r,q=>(x+min (n-x) q)::vE r (q-min (n-x) q)
def vo.p0 (i:vo):List Int:=z8o i.l i.least i.q
def vo.p1 (i:vo):List Int:=vE (i.l.zip i.p0) (i.q-i.p0.sum)
def j0 (i:vo):List Int:=if y6 i.l i.q=ar/\1<=i.least then i.p1 else[]
def Gs:fy:=fi vo (λi=>[iV i.l,zB i.least,zB i.q]) (λ_=>[]) (λi=>i.l.length<=1000000/\gr i.q/\gr i.least) (λ_=> .own 0) (λi=>[.own 2 1 (iE (j0 i))])
def y7i (i:vo):List gm:=[
 {ι:=Nat,du:=λj=>[(9,.own 0),(36,zB j)],rows:=λj=>[.own 2 1 (iE (i.p0.take j++ae (i.l.length-j) 0))]},
 {ι:=Nat,du:=λj=>[(2,zB (i.q-(i.p0.take j).sum)),(58,zB j)],rows:=λ_=>[]},
 {ι:=Nat,du:=λj=>[(9,.own 0),(2,zB (i.q-i.p0.sum+(i.p0.take j).sum-(i.p1.take j).sum)),(68,zB j)],rows:=λj=>[.own 2 1 (iE (i.p1.take j++i.p0.drop j))]}]
def bK (a:Nat) (b:vo):=(iE (ac a b.p1++af a b.p0))
def l9 (a:Nat) (b:vo):Prop:=0<=(↑a:Int)/\(↑a:Int)<(↑(bK a b).length:Int)
def fP (a:Nat) (b:vo):=(ac a b.p0++ae (b.l.length-a) 0)
def fN (a:Nat) (b:vo):=(iE (fP a b))
def nW (a:Nat) (b:vo):=(↑(fN a b).length:Int)
def yQs (i:vo):Prop:=
 ∃(a:Cn),iE a.l=iE i.l/\a.q=i.q/\(wW a)/\fa (dp (!y6 a.l a.q) (dx (iE (j0 i)=[]/\True)) (dp (decide (i.least<1)) (dx (iE (j0 i)=[]/\True)) (∃(c:List Int),iE c=iE i.l/\(c.length<=1000/\∀(d:Int),d∈c->0<=d/\d<=1000000)/\fa ((0<=(↑(iE i.l).length:Int)/\(↑(iE i.l).length:Int)<=(↑(iE i.l).length:Int)/\(↑(iE i.l).length:Int)<=9223372036854775807/\(↑(8:Nat):Int)*(↑(iE i.l).length:Int)<=2 ^ (48:Nat))/\∃(e:Nat),(↑e:Int)=0/\iE (fP e i)=ae (↑(iE i.l).length:Int).toNat [dI 0]/\∃(f:Nat->Prop),∃(g:Nat->Nat),f e/\∀(h:Nat),f h->dp (decide ((↑h:Int)<(↑(iE i.l).length:Int))) ((0<=(↑h:Int)/\(↑h:Int)<(↑(iE i.l).length:Int))/\∃(j:Int),zD (iE i.l) (↑h:Int).toNat 0 1=av [dI j]/\∃(k:Ma),k.a=j/\k.b=i.q/\k.c=c.sum/\(0<=k.a/\k.a<=(2000000000:Int)/\(0:Int)<=k.b/\k.b<=(2000000000:Int)/\(1:Int)<=k.c/\k.c<=2000000000)/\fa (dp (decide (k.a*k.b / k.c>=i.least)) ((0<=(↑h:Int)/\(↑h:Int)<(nW h i))/\(↑h:Int).toNat<(fN h i).length/\∃(m:Nat),(↑m:Int)=ap.wrap ((↑h:Int)+1)/\iE (fP m i)=zJ (fN h i) (↑h:Int).toNat 0 [dI (k.a*k.b / k.c)]/\f m/\g m<g h/\True) (∃(m:Nat),(↑m:Int)=ap.wrap ((↑h:Int)+1)/\iE (fP m i)=iE (fP h i)/\f m/\g m<g h/\True))) (∃(j:Nat),i.q-(ac j i.p0).sum=i.q/\(↑j:Int)=0/\∃(k:Nat->Prop),∃(l:Nat->Nat),k j/\∀(m:Nat),k m->dp (decide ((↑m:Int)<(nW h i))) ((0<=(↑m:Int)/\(↑m:Int)<(nW h i))/\∃(n:Int),zD (fN h i) (↑m:Int).toNat 0 1=av [dI n]/\∃(p:Nat),i.q-(ac p i.p0).sum=ap.wrap (i.q-(ac m i.p0).sum-n)/\QP p m k l (dl (ax 2 1 (fN h i)))) (∃(n:Nat),i.q-i.p0.sum+(ac n i.p0).sum-(ac n i.p1).sum=i.q-(ac m i.p0).sum/\(↑n:Int)=0/\iE (ac n i.p1++af n i.p0)=iE (fP h i)/\∃(p:Nat->Prop),∃(q:Nat->Nat),p n/\∀(r:Nat),p r->dp (decide ((↑r:Int)<(nW h i))) ((0<=(↑r:Int)/\(↑r:Int)<(↑(iE i.l).length:Int))/\∃(s:Int),zD (iE i.l) (↑r:Int).toNat 0 1=av [dI s]/\(l9 r i)/\∃(t:Int),zD (bK r i) (↑r:Int).toNat 0 1=av [dI t]/\(l9 r i)/\∃(u:Int),zD (bK r i) (↑r:Int).toNat 0 1=av [dI u]/\(l9 r i)/\(↑r:Int).toNat<(bK r i).length/\∃(v:Nat),i.q-i.p0.sum+(ac v i.p0).sum-(ac v i.p1).sum=ap.wrap (i.q-i.p0.sum+(ac r i.p0).sum-(ac r i.p1).sum-min (ap.wrap (s-t)) (i.q-i.p0.sum+(ac r i.p0).sum-(ac r i.p1).sum))/\(↑v:Int)=ap.wrap ((↑r:Int)+1)/\iE (ac v i.p1++af v i.p0)=zJ (bK r i) (↑r:Int).toNat 0 [dI (ap.wrap (u+min (ap.wrap (s-t)) (i.q-i.p0.sum+(ac r i.p0).sum-(ac r i.p1).sum)))]/\p v/\q v<q r/\True) (dx (iE (j0 i)=iE (ac r i.p1++af r i.p0)/\True))))))))
def zFa:∀(z:List (Int×Int)) (q:Int),(vE z q).length=z.length
 |[],_=>rfl
 |(n,x)::z,q=>by rw[vE,iC,iC,zFa z]
def zRo:∀(z:List (Int×Int)) (q:Int) (j:Nat) (n x:Int),z[j]? =av (n,x)->(vE z q)[j]? =av (x+min (n-x) (q+((z.map (·.2)).take j).sum-((vE z q).take j).sum))
 |[],_,_,_,_,h=>by simp at h
 |(m,y)::z,q,0,n,x,h=>by simp at h;obtain⟨rfl,rfl⟩:=h;simp[vE]
 |(m,y)::z,q,j+1,n,x,h=>by
  rw[Bd]at h;rw[vE,Bd,zRo z _ j n x h,ux,rk,jj,ux,rk];congr 3;dsimp only;omega
def zOi:∀(z:List (Int×Int)) (q:Int) (j:Nat),0<=q->(∀y∈z,y.2<=y.1)->0<=q+((z.map (·.2)).take j).sum-((vE z q).take j).sum/\q+((z.map (·.2)).take j).sum-((vE z q).take j).sum<=q
 |[],q,j,h,_=>by simp[vE,h]
 |(m,y)::z,q,0,h,_=>by simp[h]
 |(m,y)::z,q,j+1,h,hb=>by
  have hm:=hb (m,y) iS;have:=zOi z (q-min (m-y) q) j (by dsimp only at hm;omega) (λx hx=>hb x (jc _ hx));rw[vE,ux,rk,jj,ux,rk];dsimp only at hm ⊢;omega
def yTz {k q S:Int} (hk:0<=k) (hq:0<=q) (hS:1<=S) (hqS:q<=S):0<=k*q / S/\k*q / S<=k:=by
 refine⟨Int.ediv_nonneg (NW hk hq) oM,?_⟩;have:k*q<=k*S:=Xq hqS hk;exact Int.ediv_le_of_le_mul oM this
def zYq {q S least:Int} (hq:0<=q) (hS:1<=S):∀(l:List Int),(∀x∈l,0<=x)->S*(l.map λk=>if least<=k*q / S then k*q / S else 0).sum<=q*l.sum
 |[],_=>by simp
 |k::l,h=>by
  have ih:=zYq (least:=least) hq hS l (λx hx=>h x (jc _ hx));have hk:=h k iS;rw[jj,rk,rk,Int.mul_add,Int.mul_add];have h1:S*(k*q / S)<=k*q:=by
   have:=Int.mul_ediv_add_emod (k*q) S;have:=NY (k*q) (show S≠0 by omega);omega
  have h2:0<=k*q:=NW hk hq;have h3:S*(if least<=k*q / S then k*q / S else 0)<=q*k:=by
   rw[D7 q k];split
   ·exact h1
   ·simpa using h2
  omega
def yTl {i:vo} {j:Nat} {n:Int} (h:i.l[j]? =av n):i.p0[j]? =av (if i.least<=n*i.q / i.l.sum then n*i.q / i.l.sum else 0):=by
 rw[vo.p0,z8o,rf,h];rfl
def z9y (i:vo):i.p0.length=i.l.length:=by simp[vo.p0,z8o]
def yEl {l:List Int} {j m:Nat} {n:Int} (hl:l.length=m) (h:l[j]? =av n):(l.take j++ae (m-j) 0).set j n=l.take (j+1)++ae (m-(j+1)) 0:=by
 have hj:=(jf.1 h).1;rw[List.set_append_right _ _ (by rw[ng];omega),ng,show j-min j l.length=0 by omega,show m-j=(m-(j+1))+1 by omega,LI,Rh,qx,h];simp
def yPo {l:List Int} {j m:Nat} (hl:l.length=m) (hj:j<m):(l.take j++ae (m-j) 0)[j]? =av 0:=by
 rw[Dg (by rw[ng];omega),ng,show j-min j l.length=0 by omega,show m-j=(m-(j+1))+1 by omega,LI];rfl
def yMy {α:Type} {l:List α} {j:Nat} {x:α} (h:l[j]? =av x):l.set j x=l:=by
 obtain⟨h1,h2⟩:=jf.1 h;rw[<- h2];exact List.set_getElem_self h1
def y8y {a b:List Int} {j:Nat} {x:Int} (ha:a.length=b.length) (h:b[j]? =av x):(a.take j++b.drop j)[j]? =av x:=by
 have hj:=(jf.1 h).1;rw[Dg (by rw[ng];omega),ng,show j-min j a.length=0 by omega,Bs];exact h
def y0h {a b:List Int} {j:Nat} {y:Int} (ha:a.length=b.length) (h:a[j]? =av y):(a.take j++b.drop j).set j y=a.take (j+1)++b.drop (j+1):=by
 have hj:=(jf.1 h).1;rw[List.set_append_right _ _ (by rw[ng];omega),ng,show j-min j a.length=0 by omega,CD (by omega),Rh,qx,h];simp
def WA {l:List Int} {j:Nat} {x y:Int} (h:l[j]? =av x):zJ (iE l) j 0 [D.v (.int .i64 y)]=iE (l.set j y):=yM (f:=λn:Int=>[D.v (.int .i64 n)]) h rfl
def Vx {i:vo} (h:y6 i.l i.q=ar) (jr:0<i.l.length):1<=i.l.sum/\i.l.sum<=250000000/\(∀(j:Nat) (n x:Int),i.l[j]? =av n->i.p0[j]? =av x->0<=x/\x<=n)/\i.p0.sum<=i.q:=by
 obtain⟨h1,h2,h3,h4⟩:=j9 h;have hb:=wN (l:=i.l) (λx hx=>by have:=h3 x hx;omega) i.l.length;rw[zr]at hb;have hS:1<=i.l.sum:=by
  obtain⟨x,hx⟩:=z6 (l:=i.l) (i:=0) jr;have:=h3 x (ku hx);cases hl:i.l with
  |nil=>rw[hl]at jr;exact absurd jr (Nat.lt_irrefl 0)
  |cons a r=>
   rw[hl]at hx;simp at hx;subst hx;have hr:=wN (l:=r) (λy hy=>by have:=h3 y (by rw[hl];exact jc _ hy);omega) r.length;rw[zr]at hr;rw[rk];omega
 refine⟨hS,oM,λj n x hn hx=> ?_,?_⟩
 ·have J0:=h3 n (ku hn);have:=yTz (k:=n) oM h2 hS h4;rw[yTl hn]at hx;cases hx;split<;>omega
 ·have:=zYq (least:=i.least) h2 hS i.l (λx hx=>by have:=h3 x hx;omega);have e:i.l.sum*i.p0.sum<=i.l.sum*i.q:=by rw[D7 i.l.sum i.q];exact this
  exact Int.le_of_mul_le_mul_left e oM
def xAa (i:vo) (h:Gs.dp i):yQs i:=by
 obtain⟨hl,hq,hle⟩:i.l.length<=1000000/\gr i.q/\gr i.least:=h;unfold yQs QP fa dx nW fN fP l9 bK wW dI;refine⟨⟨i.l,i.q⟩,rfl,rfl,⟨hl,hq⟩,λ_ _=>Cv.dp.mk (λc=> ?_) (λc=>zH (λd=> ?_) (λd=> ?_))⟩
 ·have c:y6 i.l i.q=au:=by simpa using c
  refine⟨(),?_,trivial⟩;rw[j0,eg (by rw[c];simp)];rfl
 ·refine⟨(),?_,trivial⟩;rw[j0,eg (by omega)];rfl
 have c:y6 i.l i.q=ar:=by simpa using c
 have eS:j0 i=i.p1:=by rw[j0,fc ⟨c,by omega⟩]
 obtain⟨h1,h2,h3,h4⟩:=j9 c;have uf:=UF c;have Oy:=z9y i;have Dm:(i.l.zip i.p0).length=i.l.length:=by rw[List.length_zip,Oy];simp
 have XP:i.p1.length=i.l.length:=by rw[vo.p1,zFa,Dm]
 have hz2:(i.l.zip i.p0).map (·.2)=i.p0:=by rw[List.map_snd_zip];omega
 have h64:i.l.length<=250:=h1;have RM:∀j,j<=i.l.length->(ac j i.p0++ae (i.l.length-j) 0).length=i.l.length:=by
  intro j hj;rw[iv,ng,FB];omega
 simp only[y8];refine⟨i.l,rfl,⟨oM,λx hx=>by have:=h3 x hx;omega⟩,λ_ _=>⟨⟨oM,oM,oM,oM⟩,0,by(first|exact rfl|exact trivial),?_,λj=>j<=i.l.length,λj=>i.l.length-j,mi _,λj hj=>zH (λe=> ?_) (λe=> ?_)⟩⟩
 ·simp[iE]
 ·have ov:j<i.l.length:=by omega
  obtain⟨n,hn⟩:=z6 (l:=i.l) (i:=j) ov;have bn:=h3 n (ku hn);obtain⟨f1,f2,f3,f4⟩:=Vx c oM;have g:=yTl hn;refine⟨⟨oM,oM⟩,n,rm hn,⟨n,i.q,i.l.sum⟩,rfl,rfl,rfl,⟨Z9,Z9,Z9,Z9,Z9,Z9⟩,λ_ _=>zH (λa=> ?_) (λa=> ?_)⟩
  ·have a:n*i.q / i.l.sum>=i.least:=a;rw[fc (by omega)]at g;refine⟨⟨oM,by rw[RM j (by omega)];omega⟩,by rw[RM j (by omega)];omega,j+1,qy oM,?_,ov,Z9,trivial⟩;rw[om,WA (yPo Oy ov),yEl Oy g]
  ·have a:¬n*i.q / i.l.sum>=i.least:=a;rw[eg (by omega)]at g;refine⟨j+1,qy oM,?_,ov,Z9,trivial⟩;rw[<- yEl Oy g,yMy (yPo Oy ov)]
 have FP:j=i.l.length:=by omega
 subst FP;have eP:ac i.l.length i.p0++ae (i.l.length-i.l.length) 0=i.p0:=by rw[mo (by omega)];simp
 rw[eP,Oy];have px:∀(k:Nat) (n x:Int),i.l[k]? =av n->i.p0[k]? =av x->0<=x/\x<=n:=λk n x hn hx=>(Vx c (by have:=(jf.1 hn).1;omega)).2.2.1 k n x hn hx
 have pb:∀x∈i.p0,0<=x/\x<=1000000:=by
  intro x hx;obtain⟨k,hk⟩:=Bt.1 hx;obtain⟨n,hn⟩:=z6 (l:=i.l) (i:=k) (by have:=(jf.1 hk).1;omega);have:=px k n x hn hk;have:=h3 n (ku hn);omega
 have pq:i.p0.sum<=i.q:=by
  by_cases hz:0<i.l.length
  ·exact(Vx c hz).2.2.2
  ·have:i.p0=[]:=xu oM;rw[this];simpa using h2
 refine⟨0,by simp,by(first|exact rfl|exact trivial),λk=>k<=i.l.length,λk=>i.l.length-k,mi _,λk hk=>zH (λe=> ?_) (λe=> ?_)⟩
 ·have pj:k<i.l.length:=by omega
  obtain⟨x,hx⟩:=z6 (l:=i.p0) (i:=k) oM;have bx:=pb x (ku hx);have bs:=wN pb k;refine⟨⟨oM,oM⟩,x,rm hx,k+1,?_,qy oM,pj,Z9,gg⟩;rw[wP hx,iq (by omega)];omega
 have Cg:k=i.l.length:=by omega
 subst Cg;rw[mo (l:=i.p0) (by omega)];refine⟨0,by simp,by(first|exact rfl|exact trivial),by simp,λj=>j<=i.l.length,λj=>i.l.length-j,mi _,λj hj=>zH (λe=> ?_) (λe=> ?_)⟩
 ·have ov:j<i.l.length:=by omega
  obtain⟨n,hn⟩:=z6 (l:=i.l) (i:=j) ov;obtain⟨x,hx⟩:=z6 (l:=i.p0) (i:=j) oM;have bn:=h3 n (ku hn);have bx:=px j n x hn hx;have hz:(i.l.zip i.p0)[j]? =av (n,x):=by rw[Rq];exact⟨hn,hx⟩
  have g:=zRo (i.l.zip i.p0) (i.q-i.p0.sum) j n x hz;have r:=zOi (i.l.zip i.p0) (i.q-i.p0.sum) j oM (λy hy=>by
   obtain⟨k,hk⟩:=Bt.1 hy;rw[Rq]at hk;exact(px k y.1 y.2 hk.1 hk.2).2)
  rw[hz2]at g r;have b0:=wN pb i.p0.length;rw[zr]at b0;have uk:(ac j i.p1++af j i.p0).length=i.l.length:=by rw[iv,ng,o8];omega
  have hma:=y8y (a:=i.p1) (b:=i.p0) oM hx;change i.p1[j]? =_ at g;change 0<=_-(ac j i.p1).sum/\_-(ac j i.p1).sum<=_ at r;change i.p1[j]? =av (x+min (n-x) (_-(ac j i.p1).sum))at g;rw[uk];refine⟨⟨oM,oM⟩,n,rm hn,⟨oM,oM⟩,x,rm hma,⟨oM,oM⟩,x,rm hma,⟨oM,oM⟩,oM,?_⟩;rw[iq (x:=n-x) (by omega),iq (x:=x+min (n-x) (i.q-i.p0.sum+(ac j i.p0).sum-(ac j i.p1).sum)) (by omega)];refine⟨j+1,?_,qy oM,?_,ov,Z9,trivial⟩
  ·rw[wP hx,wP g,iq (by omega)];omega
  ·rw[om,WA hma,y0h (by omega) g]
 ·have FP:j=i.l.length:=by omega
  subst FP;refine⟨(),?_,trivial⟩;rw[eS,mo (by omega),Ik (by omega),oJ]
def ySd:Gs.ok Tryz.prog 264:=gu mixed (dw Ve (dw yWa (dw zWy fg))) 0 (λ_=>[]) (λi=>y7i i) [] Tryz.func264 xAa
structure qd where
 l:List Int
 out:List Int
 least:Int
 q:Int
def qd.idx (i:qd) (k:Nat):List Nat:=(ag k).filter λn=>decide (i.out.getD n 0<i.l.getD n 0)
def qd.left (i:qd) (k:Nat):List Int:=(i.idx k).map λn=>i.l.getD n 0-i.out.getD n 0
def qd.pl (i:qd):List Int:=j0 ⟨i.left i.l.length,i.least,i.q⟩
def qd.add (i:qd) (k:Nat):List Int:=(((i.idx i.l.length).zip i.pl).take k).foldl (λo y=>o.set y.1 (ap.wrap (o.getD y.1 0+y.2))) i.out
def rZ (i:qd):List Int:=i.add i.pl.length
@[reducible] def qd.ok (i:qd):Prop:=i.l.length<=250/\i.out.length=i.l.length/\gr i.q/\gr i.least/\∀n,0<=i.out.getD n 0/\i.out.getD n 0<=i.l.getD n 0/\i.l.getD n 0<=1000000
def Kp:fy:=fi qd (λi=>[iV i.l,.own 0,zB i.least,zB i.q]) (λi=>[.own 2 1 (iE i.out)]) qd.ok (λ_=> .own 1) (λi=>[.gone,.own 2 1 (iE (rZ i))])
def xCy (i:qd):List gm:=[
 {ι:=Nat,du:=λj=>[(9,.own 0),(10,.own 1),(16,zB j)],rows:=λj=>[.own 2 1 (iE (i.left j)),.own 3 1 (iE ((i.idx j).map λ(n:Nat)=>(n:Int)))]},
 {ι:=Nat,du:=λk=>[(1,.own 0),(50,zB k)],rows:=λk=>[.own 2 1 (iE (i.add k))]}]
structure zK where
 id:Int
 side:Int
 dm:Int
 dr:Int
 top:Bool
 deriving DecidableEq
def uA (o:zK):List D:=[.v (.int .i64 o.id),.v (.int .i64 o.side),.v (.int .i64 o.dm),.v (.int .i64 o.dr),.v (.bool o.top)]
@[reducible] def NI (o:zK):V:= .agg [zB o.id,zB o.side,zB o.dm,zB o.dr,yL o.top]
def Tz:fy:=fi zK (λo=>[NI o]) (λ_=>[]) (λ_=>True) (λo=>yL o.top) (λ_=>[])
def iX (l:List zK):Int:=Jn (l.findIdx? λo=>o.top)
def DX:fy:=fi (List zK) (λl=>[ot 5 (l.map uA),.fn 250 [] []]) (λ_=>[]) (λl=>l.length<=1000000) (λl=>zB (iX l)) (λ_=>[])
def yVk (l:List zK):List gm:=[{ι:=Nat,du:=λj=>[(8,zB j)],rows:=λ_=>[]}]
def y0k (i:qd):Prop:=
 ∃(a:Nat),(↑a:Int)=0/\iE (i.left a)=[]/\iE (ab (λ(n:Nat) ↦ (↑n:Int)) (i.idx a))=[]/\∃(b:Nat->Prop),∃(c:Nat->Nat),b a/\∀(d:Nat),b d->dp (decide ((↑d:Int)<(↑(iE i.l).length:Int))) ((0<=(↑d:Int)/\(↑d:Int)<(↑(iE i.l).length:Int))/\∃(e:Int),zD (iE i.l) (↑d:Int).toNat 0 1=av [dI e]/\(0<=(↑d:Int)/\(↑d:Int)<(↑(iE i.out).length:Int))/\∃(f:Int),zD (iE i.out) (↑d:Int).toNat 0 1=av [dI f]/\dp (decide (e>f)) ((0<=(↑d:Int)/\(↑d:Int)<(↑(iE i.l).length:Int))/\∃(g:Int),zD (iE i.l) (↑d:Int).toNat 0 1=av [dI g]/\(0<=(↑d:Int)/\(↑d:Int)<(↑(iE i.out).length:Int))/\∃(h:Int),zD (iE i.out) (↑d:Int).toNat 0 1=av [dI h]/\((iE (i.left d)).length+1)*(8:Nat)<=(140737488355328:Nat)/\((iE (ab (λ(g:Nat) ↦ (↑g:Int)) (i.idx d))).length+1)*(8:Nat)<=(140737488355328:Nat)/\∃(j:Nat),(↑j:Int)=ap.wrap ((↑d:Int)+1)/\iE (i.left j)=iE (i.left d)++[[dI (ap.wrap (g-h))]]/\iE (ab (λ(g:Nat) ↦ (↑g:Int)) (i.idx j))=iE (ab (λ(g:Nat) ↦ (↑g:Int)) (i.idx d))++[[dI (↑d:Int)]]/\b j/\c j<c d/\dl (ax 2 1 (iE i.out))) (∃(g:Nat),(↑g:Int)=ap.wrap ((↑d:Int)+1)/\iE (i.left g)=iE (i.left d)/\iE (ab (λ(e:Nat) ↦ (↑e:Int)) (i.idx g))=iE (ab (λ(e:Nat) ↦ (↑e:Int)) (i.idx d))/\b g/\c g<c d/\dl (ax 2 1 (iE i.out)))) (∃(e:vo),iE e.l=iE (i.left d)/\e.least=i.least/\e.q=i.q/\(e.l.length<=1000000/\((-9223372036854775808)<=e.q/\e.q<=9223372036854775807)/\(-9223372036854775808)<=e.least/\e.least<=9223372036854775807)/\fa (∃(g:Nat),(↑g:Int)=0/\iE (i.add g)=iE i.out/\∃(h:Nat->Prop),∃(j:Nat->Nat),h g/\∀(k:Nat),h k->dp (decide ((↑k:Int)<(↑(iE (j0 e)).length:Int))) ((0<=(↑k:Int)/\(↑k:Int)<(↑(iE (j0 e)).length:Int))/\∃(l:Int),zD (iE (j0 e)) (↑k:Int).toNat 0 1=av [dI l]/\(0<=(↑k:Int)/\(↑k:Int)<(↑(iE (ab (λ(l:Nat) ↦ (↑l:Int)) (i.idx d))).length:Int))/\∃(m:Int),zD (iE (ab (λ(l:Nat) ↦ (↑l:Int)) (i.idx d))) (↑k:Int).toNat 0 1=av [dI m]/\(0<=m/\m<(↑(iE (i.add k)).length:Int))/\∃(n:Int),zD (iE (i.add k)) m.toNat 0 1=av [dI n]/\(0<=m/\m<(↑(iE (i.add k)).length:Int))/\m.toNat<(iE (i.add k)).length/\∃(p:Nat),(↑p:Int)=ap.wrap ((↑k:Int)+1)/\iE (i.add p)=zJ (iE (i.add k)) m.toNat 0 [dI (ap.wrap (n+l))]/\h p/\j p<j k/\dl (ax 2 1 (iE (j0 e)))/\dl (ba 1 (iE (i.left d)))/\dl (ax 3 1 (iE (ab (λ(l:Nat) ↦ (↑l:Int)) (i.idx d))))) (dx (iE (rZ i)=iE (i.add k)/\True))))
def y3b (o:zK):Prop:=
 dx (dl o.top/\True)
def yGx (l:List zK):Prop:=
 ∃(a:Nat),(↑a:Int)=0/\∃(b:Nat->Prop),∃(c:Nat->Nat),b a/\∀(d:Nat),b d->dp (decide ((↑d:Int)<(↑(ab uA l).length:Int))) ((0<=(↑d:Int)/\(↑d:Int)<(↑(ab uA l).length:Int))/\∃(e:Int),∃(f:Int),∃(g:Int),∃(h:Int),∃(j:Bool),zD (ab uA l) (↑d:Int).toNat 0 5=av [dI e,dI f,dI g,dI h,D.v (.bool j)]/\∃(k:zK),k.id=e/\k.side=f/\k.dm=g/\k.dr=h/\k.top=j/\True/\fa (dp k.top (dx (iX l=(↑d:Int)/\True)) (wC d b c))) (dx (iX l=(-1)/\True))
def yUm:Tz.ok Tryz.prog 250:=gu (V:=y3b) mixed fg 0 (λ_=>[]) (λ_=>[]) [] Tryz.func250 λ(o:zK) _=>by
 unfold y3b dx;exact⟨(),rfl,trivial⟩
def z9f (i:vo):(j0 i).length=i.l.length\/j0 i=[]:=by
 rw[j0];split
 ·left;rw[vo.p1,zFa,List.length_zip,z9y];simp
 ·exact .inr rfl
def y5m {l:List zK} {k:Nat} {o:zK} (h:l[k]? =av o):zD (l.map uA) k 0 5=av [D.v (.int .i64 o.id),.v (.int .i64 o.side),.v (.int .i64 o.dm),.v (.int .i64 o.dr),.v (.bool o.top)]:=ju h (by simp[uA]) rfl
def yWq (l:List zK) (h:DX.dp l):yGx l:=by
 have h:l.length<=1000000:=h;unfold yGx fa dx wC kI QP dI;simp only[gy];refine⟨0,rfl,λj=>j<=l.length/\∀k<j,∀x,l[k]? =av x->x.top=au,λj=>l.length-j,⟨oM,λk hk=>by omega⟩,?_⟩;rintro j ⟨h3,h4⟩;refine zH (λhj=> ?_) (λhj=> ?_)
 ·obtain⟨s,hs⟩:=z6 (l:=l) (i:=j) oM;refine⟨⟨oM,oM⟩,s.id,s.side,s.dm,s.dr,s.top,y5m hs,s,mn ⟨rfl,trivial,λ_ _=>Cv.dp.mk (λe=> ?_) (λe=> ?_)⟩⟩
  ·rw[iX,ZS hs e h4];exact kp
  ·refine⟨j+1,by rw[iq (by omega)];rfl,⟨oM,λk hk x hx=> ?_⟩,by(first|omega|(dsimp only;omega)),gg⟩;rcases vh k j with pj|pj
   ·exact h4 k pj x hx
   ·obtain rfl:k=j:=by omega
    rw[hs]at hx;cases hx;exact e
 ·rw[iX,zLw λk x hx=>h4 k (by have:=(jf.1 hx).1;omega) x hx];exact kp
def yJh:DX.ok Tryz.prog 249:=gu mixed (dw yUm fg) 0 (λ_=>[]) (λl=>yVk l) [] Tryz.func249 yWq
def yQp (i:qd) (j:Nat):i.idx (j+1)=i.idx j++if i.out.getD j 0<i.l.getD j 0 then[j]else[]:=by
 rw[qd.idx,JI,Df];by_cases h:i.out.getD j 0<i.l.getD j 0
 ·rw[fc h,Ro (by simpa using h)];rfl
 ·rw[eg h,Rn (by simpa using h)];rfl
def y6h (i:qd) {k n:Nat} (h:n∈i.idx k):n<k:=by
 have:=(wb.1 h).1;exact CB.1 this
def yFl (i:qd) (k:Nat):(i.idx k).length<=k:=by
 have:=Ij (λn=>decide (i.out.getD n 0<i.l.getD n 0)) (ag k);rw[ao]at this;exact this
def z2n:∀(z:List (Nat×Int)) (o:List Int),(z.foldl (λo y=>o.set y.1 (ap.wrap (o.getD y.1 0+y.2))) o).length=o.length
 |[],_=>rfl
 |y::z,o=>by rw[A7,z2n z,qm]
def xBx (i:qd) (h:Kp.dp i):y0k i:=by
 obtain⟨hl,ho,hq,hle,hb⟩:i.ok:=h;unfold y0k fa dx dI;simp only[y8,gy];have hil:∀j,(i.left j).length=(i.idx j).length:=λj=>gy _
 refine⟨0,by(first|exact rfl|exact trivial),by(first|exact rfl|exact trivial),by(first|exact rfl|exact trivial),λj=>j<=i.l.length,λj=>i.l.length-j,mi _,λj hj=>zH (λc=> ?_) (λc=> ?_)⟩
 ·have ov:j<i.l.length:=by omega
  obtain⟨n,hn⟩:=z6 (l:=i.l) (i:=j) ov;obtain⟨o,HG⟩:=z6 (l:=i.out) (i:=j) oM;have bj:=hb j;rw[zY hn,zY HG]at bj;have is:=yQp i j;rw[zY hn,zY HG]at is;have il:=yFl i j;refine⟨⟨oM,oM⟩,n,rm hn,⟨oM,oM⟩,o,rm HG,zH (λa=> ?_) (λa=> ?_)⟩
  ·rw[fc (by omega)]at is;refine⟨⟨oM,oM⟩,n,rm hn,⟨oM,oM⟩,o,rm HG,by rw[hil];omega,oM,j+1,qy oM,?_,?_,ov,Z9,gg⟩
   ·rw[iq (by omega),qd.left,is,jl];simp[iE,qd.left,hn,HG]
   ·rw[is];simp[iE]
  ·rw[eg (by omega),oJ]at is;exact⟨j+1,qy oM,by rw[qd.left,is];rfl,by rw[is],ov,Z9,gg⟩
 have FP:j=i.l.length:=by omega
 subst FP;have il:=yFl i i.l.length;refine⟨⟨i.left i.l.length,i.least,i.q⟩,rfl,rfl,rfl,⟨by dsimp only;rw[hil];omega,hq,hle⟩,λ_ _=> ?_⟩;have epl:j0 ⟨i.left i.l.length,i.least,i.q⟩=i.pl:=rfl;rw[epl];have yz:i.pl.length<=(i.idx i.l.length).length:=by
  rcases z9f ⟨i.left i.l.length,i.least,i.q⟩with e|e
  ·rw[epl]at e;rw[e];dsimp only;rw[hil];exact lh _
  ·rw[epl]at e;rw[e];exact mi _
 have Cj:∀k,(i.add k).length=i.out.length:=λk=>z2n _ _
 refine⟨0,by(first|exact rfl|exact trivial),by(first|exact rfl|exact trivial),λk=>k<=i.pl.length,λk=>i.pl.length-k,mi _,λk hk=>zH (λc=> ?_) (λc=> ?_)⟩
 ·have pj:k<i.pl.length:=by omega
  obtain⟨x,hx⟩:=z6 (l:=i.pl) (i:=k) pj;obtain⟨n,hn⟩:=z6 (l:=i.idx i.l.length) (i:=k) oM;have RS:=y6h i (ku hn);obtain⟨y,hy⟩:=z6 (l:=i.add k) (i:=n) (by rw[Cj];omega);have ea:i.add (k+1)=(i.add k).set n (ap.wrap (y+x)):=by
   have hz:((i.idx i.l.length).zip i.pl)[k]? =av (n,x):=by rw[Rq];exact⟨hn,hx⟩
   have ey:(i.add k).getD n 0=y:=zY hy;rw[qd.add,qx,hz,JK];show(i.add k).set n (ap.wrap ((i.add k).getD n 0+x))=_;rw[ey]
  have hnm:((i.idx i.l.length).map λ(n:Nat)=>(n:Int))[k]? =av (n:Int):=by rw[rf,hn];rfl
  rw[Cj];refine⟨⟨oM,oM⟩,x,rm hx,⟨oM,oM⟩,n,rm hnm,⟨oM,oM⟩,y,rm hy,⟨oM,oM⟩,oM,k+1,qy oM,?_,pj,Z9,gg⟩;rw[ea,om,WA hy]
 ·have Cg:k=i.pl.length:=by omega
  subst Cg;exact⟨(),rfl,trivial⟩
def yGu:Kp.ok Tryz.prog 260:=gu mixed (dw ySd fg) 0 (λ_=>[]) (λi=>xCy i) [] Tryz.func260 xBx
structure vg where
 l:List Int
 top:Int
 most:Int
 least:Int
 q:Int
def vg.first (i:vg):Int:=min (min (i.l.getD i.top.toNat 0) i.most) i.q
def vg.rs (i:vg):qd:=if 0<=i.top/\i.top<i.l.length then⟨i.l,(ae i.l.length 0).set i.top.toNat i.first,i.least,i.q-i.first⟩else⟨i.l,ae i.l.length 0,i.least,i.q⟩
def C9 (i:vg):List Int:=if y6 i.l i.q=ar/\1<=i.least/\0<=i.most then rZ i.rs else[]
def SO:fy:=fi vg (λi=>[iV i.l,zB i.top,zB i.most,zB i.least,zB i.q]) (λ_=>[]) (λi=>i.l.length<=1000000/\gr i.q/\gr i.least/\gr i.most) (λ_=> .own 0) (λi=>[.own 2 1 (iE (C9 i))])
structure J8 where
 l:List Int
 part:Int
 least:Int
 q:Int
def J8.rs (i:J8):qd:=⟨i.l,g9 i.l (i.q*i.part / 100),i.least,i.q-i.q*i.part / 100⟩
def Cz (i:J8):List Int:=if y6 i.l i.q=ar/\0<=i.part/\i.part<=100/\1<=i.least then rZ i.rs else[]
def SK:fy:=fi J8 (λi=>[iV i.l,zB i.part,zB i.least,zB i.q]) (λ_=>[]) (λi=>i.l.length<=1000000/\gr i.q/\gr i.least/\gr i.part) (λ_=> .own 0) (λi=>[.own 2 1 (iE (Cz i))])
def Va (a:qd):Prop:=a.l.length<=250/\a.out.length=a.l.length/\((-9223372036854775808)<=a.q/\a.q<=9223372036854775807)/\((-9223372036854775808)<=a.least/\a.least<=9223372036854775807)/\∀(b:Nat),0<=a.out.getD b 0/\a.out.getD b 0<=a.l.getD b 0/\a.l.getD b (0:Int)<=(1000000:Int)
def Zb (a:qd) (b:vg):Prop:=(Va a)/\fa (dx (iE (C9 b)=iE (rZ a)/\True))
def Y7 (a:vg):Prop:=∃(b:qd),iE b.l=iE a.l/\b.least=a.least/\b.q=a.q/\iE b.out=ae (↑(iE a.l).length:Int).toNat [dI 0]/\Zb b a
def PG (a:vg):=(ae (↑(iE a.l).length:Int).toNat [dI 0])
def Y6 (a:vg) (b:Int):=(zJ (PG a) a.top.toNat 0 [dI (min (min b a.most) a.q)])
def xCw (i:vg):Prop:=
 ∃(a:Cn),iE a.l=iE i.l/\a.q=i.q/\(wW a)/\fa (dp (!y6 a.l a.q) (dx (iE (C9 i)=[]/\True)) (dp (decide (i.least<1)) (dx (iE (C9 i)=[]/\True)) (dp (decide (i.most<0)) (dx (iE (C9 i)=[]/\True)) ((0<=(↑(iE i.l).length:Int)/\(↑(iE i.l).length:Int)<=(↑(iE i.l).length:Int)/\(↑(iE i.l).length:Int)<=9223372036854775807/\(↑(8:Nat):Int)*(↑(iE i.l).length:Int)<=2 ^ (48:Nat))/\dp (decide (i.top>=0)) (dp (decide (i.top<(↑(iE i.l).length:Int))) ((0<=i.top/\i.top<(↑(iE i.l).length:Int))/\∃(c:Int),zD (iE i.l) i.top.toNat 0 1=av [dI c]/\(0<=i.top/\i.top<(↑(PG i).length:Int))/\i.top.toNat<(PG i).length/\(0<=i.top/\i.top<(↑(Y6 i c).length:Int))/\∃(d:Int),zD (Y6 i c) i.top.toNat 0 1=av [dI d]/\∃(e:qd),iE e.l=iE i.l/\e.least=i.least/\e.q=ap.wrap (i.q-d)/\iE e.out=zJ (PG i) i.top.toNat 0 [dI (min (min c i.most) i.q)]/\Zb e i) (Y7 i)) (Y7 i)))))
def xAk (i:J8):Prop:=
 ∃(a:Cn),iE a.l=iE i.l/\a.q=i.q/\(wW a)/\fa (dp (!y6 a.l a.q) (dx (iE (Cz i)=[]/\True)) (dp (decide (i.part<0)) (dx (iE (Cz i)=[]/\True)) (dp (decide (i.part>100)) (dx (iE (Cz i)=[]/\True)) (dp (decide (i.least<1)) (dx (iE (Cz i)=[]/\True)) (∃(c:Ma),c.a=i.q/\c.b=i.part/\c.c=100/\(0<=c.a/\c.a<=(2000000000:Int)/\(0:Int)<=c.b/\c.b<=(2000000000:Int)/\(1:Int)<=c.c/\c.c<=2000000000)/\fa (∃(e:Cn),iE e.l=iE i.l/\e.q=c.a*c.b / c.c/\(wW e)/\fa (∃(g:qd),iE g.l=iE i.l/\g.least=i.least/\g.q=ap.wrap (i.q-c.a*c.b / c.c)/\iE g.out=iE (g9 e.l e.q)/\(Va g)/\fa (dx (iE (Cz i)=iE (rZ g)/\True)))))))))
def yMj {l:List Int} {q r:Int} (h:y6 l q=ar) (h0:0<=r) (h1:r<=q):y6 l r=ar:=by
 obtain⟨a,b,c,d⟩:=j9 h;have e:(l.all λn=>decide (1<=n) && decide (n<=1000000))=ar:=by
  rw[Eb];intro x hx;simpa using c x hx
 rw[y6,e,jk a,jk h0,jk (show r<=l.sum by omega)];rfl
def getD_none {l:List Int} {n:Nat} (h:l[n]? =aw):l.getD n 0=0:=by rw[oc,h];rfl
def zHi {l:List Int} {q:Int} (h:y6 l q=ar) (n:Nat):0<=l.getD n 0/\l.getD n 0<=1000000:=by
 cases hn:l[n]? with
 |none=>rw[getD_none hn];decide
 |some x=>rw[zY hn];have:=(j9 h).2.2.1 x (ku hn);omega
def yJq {l:List Int} {q:Int} (h:y6 l q=ar) (n:Nat):0<=(g9 l q).getD n 0/\(g9 l q).getD n 0<=l.getD n 0:=by
 rw[g9,fc h];obtain⟨a,b,c,d⟩:=j9 h;cases hn:l[n]? with
 |none=>
  have:(gT l q)[n]? =aw:=by rw[Xo,Px];exact Xo.1 hn
  rw[getD_none hn,getD_none this];decide
 |some x=>
  rw[zY hn,zY (Y4 l q n x hn)];have:=ZT l q n b (λy hy=>by have:=c y hy;omega);have:=c x (ku hn);omega
def xGc (i:J8) (h:SK.dp i):xAk i:=by
 obtain⟨hl,hq,hle,XO⟩:i.l.length<=1000000/\gr i.q/\gr i.least/\gr i.part:=h;unfold xAk fa dx Va wW;have no (e:¬(y6 i.l i.q=ar/\0<=i.part/\i.part<=100/\1<=i.least)):Cz i=[]:=by rw[Cz,eg e]
 refine⟨⟨i.l,i.q⟩,rfl,rfl,⟨hl,hq⟩,λ_ _=>Cv.dp.mk (λc=> ?_) (λc=>zH (λd=> ?_) (λd=>zH (λe=> ?_) (λe=>zH (λf=> ?_) (λf=> ?_))))⟩
 ·have c:y6 i.l i.q=au:=by simpa using c
  exact⟨(),by rw[no (by rw[c];simp)];rfl,trivial⟩
 ·exact⟨(),by rw[no (by omega)];rfl,trivial⟩
 ·exact⟨(),by rw[no (by omega)];rfl,trivial⟩
 ·exact⟨(),by rw[no (by omega)];rfl,trivial⟩
 have c:y6 i.l i.q=ar:=by simpa using c
 obtain⟨h1,h2,h3,h4⟩:=j9 c;have uf:=UF c;have m0:0<=i.q*i.part:=NW h2 oM;have m1:i.q*i.part<=i.q*100:=Xq oM h2;have hr:=yMj (r:=i.q*i.part / 100) c oM oM;have es:Cz i=rZ i.rs:=by rw[Cz,fc ⟨c,by omega,by omega,by omega⟩]
 refine⟨⟨i.q,i.part,100⟩,rfl,rfl,rfl,⟨Z9,Z9,Z9,Z9,Z9,Z9⟩,λ_ _=>⟨⟨i.l,i.q*i.part / 100⟩,rfl,rfl,⟨hl,Z9,Z9⟩,λ_ _=>⟨i.rs,rfl,rfl,?_,rfl,⟨h1,?_,?_,hle,?_⟩,λ_ _=>⟨(),by rw[es],trivial⟩⟩⟩⟩
 ·rw[iq (by dsimp only;omega)];rfl
 ·show(g9 i.l (i.q*i.part / 100)).length=i.l.length;rw[g9,fc hr,Px]
 ·show gr (i.q-i.q*i.part / 100);exact⟨oM,oM⟩
 ·intro n;have a:=yJq hr n;have b:=zHi c n;exact⟨a.1,a.2,b.2⟩
def y8n:SK.ok Tryz.prog 252:=gu mixed (dw Ve (dw zWy (dw yFf (dw yGu fg)))) 0 (λ_=>[]) (λ_=>[]) [] Tryz.func252 xGc
def y8f (n:Nat):ae n [D.v (.int .i64 0)]=iE (ae n 0):=by simp[iE]
def z6m (n k:Nat):(ae n (0:Int)).getD k 0=0:=by
 rw[oc,Rm];split<;>rfl
def ySk (n t k:Nat) (x:Int):((ae n (0:Int)).set t x).getD k 0=x/\k=t\/((ae n (0:Int)).set t x).getD k 0=0:=by
 rw[oc,Ca];split
 ·rename_i e;split
  ·exact .inl ⟨rfl,e.symm⟩
  ·exact .inr rfl
 ·right;rw[<- oc];exact z6m n k
def xGg (i:vg) (h:SO.dp i):xCw i:=by
 obtain⟨hl,hq,hle,hmo⟩:i.l.length<=1000000/\gr i.q/\gr i.least/\gr i.most:=h;unfold xCw fa dx Y6 PG Y7 Zb fa dx Va wW dI;have no (e:¬(y6 i.l i.q=ar/\1<=i.least/\0<=i.most)):C9 i=[]:=by rw[C9,eg e]
 refine⟨⟨i.l,i.q⟩,rfl,rfl,⟨hl,hq⟩,λ_ _=>Cv.dp.mk (λc=> ?_) (λc=>zH (λd=> ?_) (λd=>zH (λe=> ?_) (λe=> ?_)))⟩
 ·have c:y6 i.l i.q=au:=by simpa using c
  exact⟨(),by rw[no (by rw[c];simp)];rfl,trivial⟩
 ·exact⟨(),by rw[no (by omega)];rfl,trivial⟩
 ·exact⟨(),by rw[no (by omega)];rfl,trivial⟩
 have c:y6 i.l i.q=ar:=by simpa using c
 obtain⟨h1,h2,h3,h4⟩:=j9 c;have uf:=UF c;have es:C9 i=rZ i.rs:=by rw[C9,fc ⟨c,by omega,by omega⟩]
 simp only[y8,om,y8f];have out (hn:¬(0<=i.top/\i.top<(i.l.length:Int))):i.rs=⟨i.l,ae i.l.length 0,i.least,i.q⟩:=by rw[vg.rs,eg hn]
 have ok0:qd.ok ⟨i.l,ae i.l.length 0,i.least,i.q⟩:=⟨h1,by simp,hq,hle,λn=>by
  have:=zHi c n;dsimp only;rw[z6m];omega⟩
 refine⟨⟨oM,oM,oM,oM⟩,zH (λa=>zH (λb=> ?_) (λb=> ?_)) (λa=> ?_)⟩
 ·obtain⟨n,hn⟩:=z6 (l:=i.l) (i:=i.top.toNat) oM;have hf:i.first=min (min n i.most) i.q:=by rw[vg.first,zY hn]
  have bn:=h3 n (ku hn);have HF:(ae i.l.length (0:Int))[i.top.toNat]? =av 0:=by rw[Rm,fc (by omega)]
  have ers:i.rs=⟨i.l,(ae i.l.length 0).set i.top.toNat i.first,i.least,i.q-i.first⟩:=by rw[vg.rs,fc ⟨by omega,by omega⟩]
  refine⟨⟨oM,oM⟩,n,rm hn,?_⟩;rw[WA HF,<- hf];simp only[y8,qm,FB];refine⟨⟨oM,oM⟩,oM,⟨oM,oM⟩,i.first,rm (gL HF),?_⟩;rw[iq (x:=i.q-i.first) (by omega)];refine⟨⟨i.l,(ae i.l.length 0).set i.top.toNat i.first,i.least,i.q-i.first⟩,iJ ⟨rfl,⟨h1,by simp,⟨Z9,Z9⟩,hle,λk=> ?_⟩,λ_ _=>⟨(),by rw[es,ers],trivial⟩⟩⟩;have bk:=zHi c k;dsimp only;rcases ySk i.l.length i.top.toNat k i.first with⟨g,gk⟩|g
  ·rw[g,gk,zY hn];omega
  ·rw[g];omega
 ·refine⟨⟨i.l,ae i.l.length 0,i.least,i.q⟩,iJ ⟨rfl,ok0,λ_ _=>⟨(),by rw[es,out (by omega)],trivial⟩⟩⟩
 ·refine⟨⟨i.l,ae i.l.length 0,i.least,i.q⟩,iJ ⟨rfl,ok0,λ_ _=>⟨(),by rw[es,out (by omega)],trivial⟩⟩⟩
def y8v:SO.ok Tryz.prog 251:=gu mixed (dw Ve (dw yGu fg)) 0 (λ_=>[]) (λ_=>[]) [] Tryz.func251 xGg
structure CM where
 p:ff
 l:List zK
 q:Int
def CM.qs (i:CM):List Int:=i.l.map (·.dr)
def jB (i:CM):List Int:=if i.p.gi=1 then g9 i.qs i.q else if i.p.gi=2 then C9 ⟨i.qs,iX i.l,i.p.top,i.p.least,i.q⟩else if i.p.gi=3 then Cz ⟨i.qs,i.p.part,i.p.least,i.q⟩else[]
def G1:fy:=fi CM (λi=>[nk i.p,ot 5 (i.l.map uA),zB i.q]) (λ_=>[]) (λi=>i.l.length<=1000/\gr i.q/\gr i.p.least/\gr i.p.top/\gr i.p.part) (λ_=> .own 0) (λi=>[.own 2 1 (iE (jB i))])
def y7j (i:CM):List gm:=[{ι:=Nat,du:=λj=>[(7,.own 0),(13,zB j)],rows:=λj=>[.own 2 1 (iE (i.qs.take j))]}]
def yRo (i:CM):Prop:=
 ∃(a:Nat),(↑a:Int)=0/\iE (ac a i.qs)=[]/\∃(b:Nat->Prop),∃(c:Nat->Nat),b a/\∀(d:Nat),b d->dp (decide ((↑d:Int)<(↑(ab uA i.l).length:Int))) ((0<=(↑d:Int)/\(↑d:Int)<(↑(ab uA i.l).length:Int))/\∃(e:Int),∃(f:Int),∃(g:Int),∃(h:Int),∃(j:Bool),zD (ab uA i.l) (↑d:Int).toNat 0 5=av [dI e,dI f,dI g,dI h,D.v (.bool j)]/\((iE (ac d i.qs)).length+1)*(8:Nat)<=(140737488355328:Nat)/\∃(k:Nat),(↑k:Int)=ap.wrap ((↑d:Int)+1)/\iE (ac k i.qs)=iE (ac d i.qs)++[[dI h]]/\b k/\c k<c d/\Bi i.p (dl (ba 1 (iE i.p.dt)))) (dp (i.p.gi==1) (∃(e:Cn),iE e.l=iE (ac d i.qs)/\e.q=i.q/\(wW e)/\fa (dx (iE (jB i)=iE (g9 e.l e.q)/\True))) (dp (i.p.gi==2) (∃(e:List zK),ab uA e=ab uA i.l/\e.length<=1000000/\fa (∃(g:vg),iE g.l=iE (ac d i.qs)/\g.top=iX e/\g.most=i.p.top/\g.least=i.p.least/\g.q=i.q/\(g.l.length<=1000000/\((-9223372036854775808)<=g.q/\g.q<=9223372036854775807)/\((-9223372036854775808)<=g.least/\g.least<=9223372036854775807)/\(-9223372036854775808)<=g.most/\g.most<=9223372036854775807)/\fa (dx (iE (jB i)=iE (C9 g)/\True)))) (dp (i.p.gi==3) (∃(e:J8),iE e.l=iE (ac d i.qs)/\e.part=i.p.part/\e.least=i.p.least/\e.q=i.q/\(e.l.length<=1000000/\((-9223372036854775808)<=e.q/\e.q<=9223372036854775807)/\((-9223372036854775808)<=e.least/\e.least<=9223372036854775807)/\(-9223372036854775808)<=e.part/\e.part<=9223372036854775807)/\fa (dx (iE (jB i)=iE (Cz e)/\True))) (dx (iE (jB i)=[]/\True)))))
def y6z (i:CM) (h:G1.dp i):yRo i:=by
 obtain⟨hl,hq,hle,si,XO⟩:i.l.length<=1000/\gr i.q/\gr i.p.least/\gr i.p.top/\gr i.p.part:=h;have Iv:i.qs.length=i.l.length:=by simp[CM.qs]
 unfold yRo Bi fa dx wW dI;simp only[y8,gy];refine⟨0,by(first|exact rfl|exact trivial),by(first|exact rfl|exact trivial),λj=>j<=i.l.length,λj=>i.l.length-j,mi _,λj hj=>zH (λc=> ?_) (λc=> ?_)⟩
 ·have ov:j<i.l.length:=by omega
  obtain⟨o,ho⟩:=z6 (l:=i.l) (i:=j) ov;have hqo:i.qs[j]? =av o.dr:=by rw[CM.qs,rf,ho];rfl
  refine⟨⟨oM,oM⟩,o.id,o.side,o.dm,o.dr,o.top,y5m ho,by rw[ng];omega,j+1,qy oM,?_,ov,Z9,gg⟩;rw[qx,hqo];simp[iE]
 have FP:j=i.l.length:=by omega
 subst FP;rw[mo (l:=i.qs) (by omega)];refine Cv.dp.mk (λa=> ?_) (λa=>Cv.dp.mk (λb=> ?_) (λb=>Cv.dp.mk (λd=> ?_) (λd=> ?_)))
 ·have a:i.p.gi=1:=by simpa using a
  exact⟨⟨i.qs,i.q⟩,rfl,rfl,⟨Z9,hq⟩,λ_ _=>⟨(),by rw[jB,fc a],trivial⟩⟩
 ·have a:¬i.p.gi=1:=by simpa using a
  have b:i.p.gi=2:=by simpa using b
  exact⟨i.l,rfl,oM,λ_ _=>⟨⟨i.qs,iX i.l,i.p.top,i.p.least,i.q⟩,mn ⟨rfl,⟨Z9,hq,hle,si⟩,λ_ _=>⟨(),by rw[jB,eg a,fc b],trivial⟩⟩⟩⟩
 ·have a:¬i.p.gi=1:=by simpa using a
  have b:¬i.p.gi=2:=by simpa using b
  have d:i.p.gi=3:=by simpa using d
  exact⟨⟨i.qs,i.p.part,i.p.least,i.q⟩,iJ ⟨rfl,⟨Z9,hq,hle,XO⟩,λ_ _=>⟨(),by rw[jB,eg a,eg b,fc d],trivial⟩⟩⟩
 ·have a:¬i.p.gi=1:=by simpa using a
  have b:¬i.p.gi=2:=by simpa using b
  have d:¬i.p.gi=3:=by simpa using d
  exact⟨(),by rw[jB,eg a,eg b,eg d];rfl,trivial⟩
def yQd:G1.ok Tryz.prog 238:=gu mixed (dw yFf (dw yJh (dw y8v (dw y8n fg)))) 0 (λ_=>[]) (λi=>y7j i) [] Tryz.func238 y6z
def uO (l:List Nat) (t:Int):Int:=match l with
 |[]=>t
 |k::_=>k
def jN:List Nat->Int->Int
 |[],p=>p
 |k::l,_=>jN l k
structure Wq (s:Slot) (n k:Nat) (p t:Int):Prop where
 used:s.used=ar
 no:s.n=k
 queue:s.queue=n
 ahead:s.ahead=p
 back:s.back=t
 q1:0<=s.dr
 q2:s.dr<=1000000
def ym (sl:List Slot) (n:Nat):Int->List Nat->Int->Prop
 |_,[],_=>True
 |p,k::l,t=>(∃s,sl[k]? =av s/\Wq s n k p (uO l t))/\ym sl n k l t
def zLr (l1 l2:List Nat) (t:Int):uO (l1++l2) t=uO l1 (uO l2 t):=by cases l1<;>rfl
def mO:∀(l1 l2:List Nat) (p:Int),jN (l1++l2) p=jN l2 (jN l1 p)
 |[],l2,p=>rfl
 |k::l1,l2,p=>mO l1 l2 k
def NG {sl:List Slot} {n:Nat}:∀{l1 l2:List Nat} {p t:Int},ym sl n p (l1++l2) t↔ym sl n p l1 (uO l2 t)/\ym sl n (jN l1 p) l2 t
 |[],l2,p,t=>by simp[ym,jN]
 |k::l1,l2,p,t=>by
  rw[ui,ym,ym,zLr,NG,jN,and_assoc]
def yEd {sl:List Slot} {n k:Nat}:∀{l:List Nat} {p t:Int},ym sl n p l t->k∈l->∃s p' t',sl[k]? =av s/\Wq s n k p' t'
 |j::l,p,t,h,hk=>by
  rcases jq.1 hk with rfl|hk
  ·obtain⟨⟨s,h1,h2⟩,_⟩:=h;exact⟨s,_,_,h1,h2⟩
  ·exact yEd h.2 hk
def uF {sl Rx:List Slot} {n:Nat}:∀{l:List Nat} {p t:Int},(∀k∈l,Rx[k]? =sl[k]?)->ym sl n p l t->ym Rx n p l t
 |[],p,t,_,h=>h
 |k::l,p,t,e,⟨⟨s,h1,h2⟩,h3⟩=>⟨⟨s,by rw[e k iS];exact h1,h2⟩,uF (λj hj=>e j (jc _ hj)) h3⟩
def bJ {α:Type} {l:List α} {f:α->α} {i j:Nat} (h:i≠j):(l.modify i f)[j]? =l[j]? :=by rw[FA];cases l[j]? <;>simp[h]
def Jt {α:Type} {l:List α} {f:α->α} {i:Nat} {x:α} (h:l[i]? =av x):(l.modify i f)[i]? =av (f x):=by rw[FA,h];simp
def uV {α:Type} {l:List α} {x:α} {i j:Nat} (h:i≠j):(l.set i x)[j]? =l[j]? :=by rw[Ca,eg h]
def dZ {α:Type} {l:List α} {x:α} {i:Nat} (h:i<l.length):(l.set i x)[i]? =av x:=by rw[Ca,fc rfl,fc h]
def a8 {α:Type} {Q:List α} {n m:Nat} {x y:α} (h:(Q.set n x)[m]? =av y):(m=n/\y=x)\/(m≠n/\Q[m]? =av y):=by
 by_cases e:n=m
 ·subst e;have hn:n<Q.length:=by
   have:=(jf.1 h).1;simpa using this
  rw[dZ hn]at h;cases h;exact .inl ⟨rfl,rfl⟩
 ·rw[uV e]at h;exact .inr ⟨λc=>e c.symm,h⟩
def z6i {sl:List Slot} {n k:Nat} {l:List Nat} {p t:Int} (t':Int) (hk:k∉l) (h:ym sl n p (l++[k]) t):ym (sl.modify k λs=>{s with back:=t'}) n p (l++[k]) t':=by
 rw[NG]at h ⊢;obtain⟨h1,⟨s,h2,h3⟩,_⟩:=h;refine⟨uF (λj hj=>bJ (λe=>hk (e▸hj))) h1,⟨_,Jt h2,?_⟩,trivial⟩;exact⟨h3.used,h3.no,h3.queue,h3.ahead,rfl,h3.q1,h3.q2⟩
def yHu {sl:List Slot} {n k:Nat} {l:List Nat} {p t:Int} (p':Int) (hk:k∉l) (h:ym sl n p (k::l) t):ym (sl.modify k λs=>{s with ahead:=p'}) n p' (k::l) t:=by
 obtain⟨⟨s,h1,h2⟩,h3⟩:=h;refine⟨⟨_,Jt h1,?_⟩,uF (λj hj=>bJ (λe=>hk (e▸hj))) h3⟩;exact⟨h2.used,h2.no,h2.queue,rfl,h2.back,h2.q1,h2.q2⟩
def vN (l:List Nat):l=[]\/∃(x:List Nat) (j:Nat),l=x++[j]/\∀p:Int,jN l p=(j:Int):=by
 rcases List.eq_nil_or_concat l with rfl|⟨x,j,rfl⟩
 ·exact .inl rfl
 ·exact .inr ⟨x,j,by simp,λp=>by rw[List.concat_eq_append,mO];rfl⟩
def sE (l:List Nat):jN l (-1)= -1↔l=[]:=by
 rcases vN l with rfl|⟨x,j,rfl,e⟩
 ·simp[jN]
 ·rw[e];simp
def zYp (l:List Nat):uO l (-1)= -1↔l=[]:=by
 cases l with
 |nil=>simp[uO]
 |cons k l=>simp only[uO];constructor
            ·intro h;omega
            ·intro h;cases h
def Ny {α β:Type} {g:α->β} {f:α->α} (h:∀x,g (f x)=g x):∀(l:List α) (i:Nat),(l.modify i f).map g=l.map g
 |[],i=>by simp
 |a::l,0=>by simp[h]
 |a::l,i+1=>by rw[Rl,jj,jj,Ny h l i]
def YH:∀(m:Nat) {l:List Nat},l.Nodup->(∀k∈l,k<m)->l.length<=m
 |0,[],_,_=>lh 0
 |0,k::l,_,h=>absurd (h k iS) oM
 |m+1,l,hn,h=>by
  have:=YH m (hn.erase m) λk hk=>by
   have:=(hn.mem_erase_iff).1 hk;have:=h k this.2;omega
  by_cases hm:m∈l
  ·rw[aj hm]at this;omega
  ·rw[List.erase_of_not_mem hm]at this;omega
def yDg {f g:Nat->Int} {k:Nat}:∀{l:List Nat},l.Nodup->k∈l->(∀j∈l,j≠k->g j=f j)->(l.map g).sum=(l.map f).sum+(g k-f k)
 |j::l,hn,hk,h=>by
  have hn:=yk.1 hn;rw[jj,jj,rk,rk];rcases jq.1 hk with rfl|hk
  ·have:l.map g=l.map f:=uz λi hi=>h i (jc _ hi) (λe=>hn.1 (e▸hi))
   rw[this];omega
  ·have e:=h j iS (λe=>hn.1 (e▸hk));rw[yDg hn.2 hk (λi hi=>h i (jc _ hi)),e];omega
def ySr {f:Nat->Int} {m:Int}:∀{l:List Nat},(∀j∈l,0<=f j/\f j<=m)->0<=(l.map f).sum/\(l.map f).sum<=m*l.length
 |[],_=>by simp
 |j::l,h=>by
  have:=h j iS;have:=ySr (l:=l) λi hi=>h i (jc _ hi)
  rw[jj,rk,iC,Int.natCast_add,Int.mul_add];simp only[Int.natCast_one,Int.mul_one];omega
def dv.oQ (a:dv) (l:List Nat):Int:=(l.map λk=>(a.fb k).dr).sum
structure dv.yq (a:dv) (Q:List (List Nat)):Prop where
 len:a.du.length=250
 ql:a.dy.length=Q.length
 q:∀(n:Nat) (l:List Nat),Q[n]? =av l->a.dy[n]? =av ⟨uO l (-1),jN l (-1),a.oQ l,l.length⟩
 sg:∀(n:Nat) (l:List Nat),Q[n]? =av l->ym a.du n (-1) l (-1)
 nd:∀(n:Nat) (l:List Nat),Q[n]? =av l->l.Nodup
 us:∀(k:Nat) (s:Slot),a.du[k]? =av s->s.used=ar->∃(n:Nat) (l:List Nat),Q[n]? =av l/\k∈l
 free:a.free=((a.du.map (·.used)).countP (!·):Nat)
structure dv.Wf (a:dv) (Q:List (List Nat)):Prop extends a.yq Q where
 pos:∀(n:Nat) (l:List Nat),Q[n]? =av l->∀k∈l,1<=(a.fb k).dr
def dv.yq.mem {a:dv} {Q:List (List Nat)} (h:a.yq Q) {n k:Nat} {l:List Nat} (hl:Q[n]? =av l) (hk:k∈l):k<250/\(∃p t,Wq (a.fb k) n k p t)/\a.du[k]? =av (a.fb k):=by
 obtain⟨s,p,t,h1,h2⟩:=yEd (h.sg n l hl) hk;have e:a.fb k=s:=zY h1;have gn:=(jf.1 h1).1;rw[h.len]at gn;exact⟨gn,⟨p,t,by rw[e];exact h2⟩,by rw[e];exact h1⟩
def dv.yq.one {a:dv} {Q:List (List Nat)} (h:a.yq Q) {n m k:Nat} {l l':List Nat} (hl:Q[n]? =av l) (hl':Q[m]? =av l') (hk:k∈l) (pj:k∈l'):n=m:=by
 obtain⟨_,⟨_,_,h1⟩,_⟩:=h.mem hl hk;obtain⟨_,⟨_,_,h2⟩,_⟩:=h.mem hl' pj;have:=h1.queue;have:=h2.queue;omega
def dv.yq.short {a:dv} {Q:List (List Nat)} (h:a.yq Q) {n:Nat} {l:List Nat} (hl:Q[n]? =av l):l.length<=250:=YH 250 (h.nd n l hl) λk hk=>(h.mem hl hk).1
def nH {a a':dv} {l:List Nat} (h:∀k∈l,(a'.fb k).dr=(a.fb k).dr):a'.oQ l=a.oQ l:=by rw[dv.oQ,dv.oQ,uz h]
def dv.yq.sum {a:dv} {Q:List (List Nat)} (h:a.yq Q) {n:Nat} {l:List Nat} (hl:Q[n]? =av l):0<=a.oQ l/\a.oQ l<=250000000:=by
 have:=ySr (f:=λk=>(a.fb k).dr) (m:=1000000) (l:=l) λj hj=>by
  obtain⟨_,⟨_,_,h1⟩,_⟩:=h.mem hl hj;exact⟨h1.q1,h1.q2⟩
 have:=h.short hl;rw[dv.oQ];omega
def zWx {sl:List Slot} {n:Nat}:∀{l:List Nat} {p:Int},ym sl n p l (-1)->PK sl (uO l (-1)) l
 |[],p,_=>rfl
 |k::l,p,⟨⟨s,h1,h2⟩,h3⟩=>by
  refine⟨rfl,(jf.1 h1).1,?_⟩;rw[zY h1,h2.back];exact zWx h3
def dv.yq.ok {a:dv} {Q:List (List Nat)} (h:a.yq Q):a.Eo:=by
 refine⟨by rw[h.len];decide,λk s hk hu=> ?_⟩;obtain⟨n,l,hl,o6⟩:=h.us k s hk hu;have hQ:=(jf.1 hl).1;have Iv:=h.ql;obtain⟨l1,l2,rfl⟩:=List.append_of_mem o6;have JW:=h.sg n _ hl;have qz:=h.nd n _ hl;rw[NG]at JW;obtain⟨_,⟨s',h1,h2⟩,_⟩:=JW;rw[hk]at h1;cases h1;have hq:=h2.queue;have hd:=Ap.1 qz;have Aw:=yk.1 hd.2.1;refine⟨⟨oM,oM⟩,h2.q2,?_,?_⟩
 ·rw[h2.ahead];rcases vN l1 with rfl|⟨x,j,rfl,e⟩
  ·exact .inl rfl
  ·have hj:j∈x++[j]:=by simp
   have EX:=(h.mem hl (yl _ hj)).1;rw[e,h.len];refine .inr ⟨oM,oM,λe2=> ?_⟩;have:j=k:=by omega
   exact hd.2.2 j hj k iS this
 ·rw[h2.back];cases l2 with
  |nil=>exact .inl rfl
  |cons j x=>
   have EX:=(h.mem hl (zu _ (jc _ iS))).1;rw[uO,h.len];refine .inr ⟨oM,oM,λe2=> ?_⟩;have:j=k:=by omega
   exact Aw.1 (this▸iS)
def dv.yq.open {a:dv} {Q:List (List Nat)} (h:a.yq Q):a.rq.yq (Q++[[]]):=by
 have g:∀{n:Nat} {l:List Nat},(Q++[[]])[n]? =av l->Q[n]? =av l\/(n=Q.length/\l=[]):=by
  intro n l hl;rw[List.getElem?_append]at hl;split at hl
  ·exact .inl hl
  ·rename_i hn;have:=(jf.1 hl).1;simp only[Ba]at this;have e:n-Q.length=0:=by omega
   rw[e]at hl;cases hl;exact .inr ⟨oM,rfl⟩
 refine⟨h.len,by simp[dv.rq,h.ql],λn l hl=> ?_,λn l hl=> ?_,λn l hl=> ?_,λk s hk hu=> ?_,h.free⟩
 ·rcases g hl with hl|⟨rfl,rfl⟩
  ·show(a.dy++[nX])[n]? =_;rw[FC (by have:=(jf.1 hl).1;have:=h.ql;omega)];exact h.q n l hl
  ·show(a.dy++[nX])[_]? =_;rw[<- h.ql,Dg (lh _),JF];rfl
 ·rcases g hl with hl|⟨rfl,rfl⟩
  ·exact h.sg n l hl
  ·trivial
 ·rcases g hl with hl|⟨rfl,rfl⟩
  ·exact h.nd n l hl
  ·exact NV
 ·obtain⟨n,l,hl,o6⟩:=h.us k s hk hu;exact⟨n,l,by rw[FC (jf.1 hl).1];exact hl,o6⟩
def dv.Wf.open {a:dv} {Q:List (List Nat)} (h:a.Wf Q):a.rq.Wf (Q++[[]]):=by
 refine⟨h.toyq.open,λn l hl k hk=> ?_⟩;rw[List.getElem?_append]at hl;split at hl
 ·exact h.pos n l hl k hk
 ·have:=(jf.1 hl).1;simp only[Ba]at this;have e:n-Q.length=0:=by omega
  rw[e]at hl;cases hl;cases hk
def YG {sl Rx:List Slot} {n:Nat}:∀{l:List Nat} {p t:Int},(∀k∈l,∀s,sl[k]? =av s->∃s',Rx[k]? =av s'/\s'.used=s.used/\s'.n=s.n/\s'.queue=s.queue/\s'.ahead=s.ahead/\s'.back=s.back/\0<=s'.dr/\s'.dr<=1000000)->ym sl n p l t->ym Rx n p l t
 |[],p,t,_,h=>h
 |k::l,p,t,e,⟨⟨s,h1,h2⟩,h3⟩=>by
  obtain⟨s',q0,q1,q2,q3,q4,q5,q6,q7⟩:=e k iS s h1;exact⟨⟨s',q0,⟨q1.trans h2.used,q2.trans h2.no,q3.trans h2.queue,q4.trans h2.ahead,q5.trans h2.back,q6,q7⟩⟩,YG (λj hj=>e j (jc _ hj)) h3⟩
def z1d (a:dv) (n:Int) (t:Bool) (j:Nat):(a.mf n t).fb j=if a.iu n=ar/\j=n.toNat then{a.fb j with top:=t}else a.fb j:=by
 rw[dv.mf];by_cases hu:a.iu n=ar
 ·rw[fc hu];by_cases e:j=n.toNat
  ·subst e;rw[fc ⟨hu,rfl⟩];have gn:n.toNat<a.du.length:=by
    simp only[dv.iu,lj,tq]at hu;omega
   show(a.du.modify n.toNat _).getD n.toNat iB=_;obtain⟨s,hs⟩:=z6 gn;rw[zY (Jt hs),xZ hs]
  ·rw[eg (λh=>e h.2)];show(a.du.modify n.toNat _).getD j iB=a.du.getD j iB;rw[oc,bJ (λh=>e h.symm),oc]
 ·rw[eg hu,eg (λh=>hu h.1)]
def dv.Wf.top {a:dv} {Q:List (List Nat)} (h:a.Wf Q) (n:Int) (t:Bool):(a.mf n t).Wf Q:=by
 have hq:∀j,((a.mf n t).fb j).dr=(a.fb j).dr:=by
  intro j;rw[z1d];split<;>rfl
 by_cases hu:a.iu n=ar
 ·have e:a.mf n t={a with du:=a.du.modify n.toNat λs=>{s with top:=t}}:=by rw[dv.mf,fc hu]
  have hm:∀(k:Nat) (s:Slot),a.du[k]? =av s->∃s',(a.mf n t).du[k]? =av s'/\s'.used=s.used/\s'.n=s.n/\s'.queue=s.queue/\s'.ahead=s.ahead/\s'.back=s.back/\s'.dr=s.dr:=by
   intro k s hk;rw[e];by_cases ek:n.toNat=k
   ·subst ek;exact⟨_,Jt hk,rfl,rfl,rfl,rfl,rfl,rfl⟩
   ·exact⟨s,by rw[bJ ek];exact hk,tg rfl⟩
  have hl:(a.mf n t).du.length=250:=by rw[e];simpa using h.len
  have LV:(a.mf n t).du.map (·.used)=a.du.map (·.used):=by rw[e];exact Ny (g:=λs:Slot=>s.used) (f:=λs:Slot=>{s with top:=t}) (λ_=>rfl) _ _
  refine⟨⟨hl,by rw[e];exact h.ql,λm l At=> ?_,λm l At=> ?_,h.nd,λk s hk hs=> ?_,by rw[LV];rw[e];exact h.free⟩,λm l At k hk=>by rw[hq];exact h.pos m l At k hk⟩
  ·rw[nH λk _=>hq k];rw[e];exact h.q m l At
  ·refine YG (λk hk s hs=> ?_) (h.sg m l At);obtain⟨s',q0,q1,q2,q3,q4,q5,q6⟩:=hm k s hs;obtain⟨_,⟨_,_,h2⟩,h3⟩:=h.mem At hk;rw[hs]at h3;cases h3;exact⟨s',q0,q1,q2,q3,q4,q5,by rw[q6];exact h2.q1,by rw[q6];exact h2.q2⟩
  ·have gn:=(jf.1 hk).1;rw[hl,<- h.len]at gn;obtain⟨s0,h0⟩:=z6 gn;obtain⟨s',q0,q1,_⟩:=hm k s0 h0;rw[hk]at q0;cases q0;exact h.us k s0 h0 (by rw[<- q1];exact hs)
 ·have e:a.mf n t=a:=by rw[dv.mf,eg hu]
  rw[e];exact h
def zSo {sl:List Slot} {k:Nat} {s x:Slot} (hk:sl[k]? =av s):((sl.set k x).map (·.used)).countP (!·)+(if s.used=ar then 0 else 1)=(sl.map (·.used)).countP (!·)+(if x.used=ar then 0 else 1):=by
 have gn:=(jf.1 hk).1;have e:(sl.map (·.used))[k]'(by simpa using gn)=s.used:=by
  rw[List.getElem_map,(jf.1 hk).2]
 rw[List.map_set,List.countP_set (by simpa using gn),e];have hp:s.used=au->1<=(sl.map (·.used)).countP (!·):=by
  intro h;apply List.countP_pos_iff.2;exact⟨s.used,rz (ku hk),by rw[h];rfl⟩
 generalize (sl.map (·.used)).countP (!·)=c at hp ⊢
 cases h1:s.used<;>cases h2:x.used
 all_goals
  simp only[h1,JH,Bool.not_true,oL,↓reduceIte,if_true,if_false]at hp ⊢
  try have hp:=hp trivial
  omega
def yGc {sl:List Slot}:(sl.map (·.used)).countP (!·)<=sl.length:=by
 have:=List.countP_le_length (p:=λb:Bool=> !b) (l:=sl.map (·.used))
 simpa using this
def dv.yq.unused {a:dv} {Q:List (List Nat)} (h:a.yq Q) (hf:a.free≠0):∃k:Nat,jL a.du=k/\k<250/\a.du[k]? =av (a.fb k)/\(a.fb k).used=au/\∀(n:Nat) (l:List Nat),Q[n]? =av l->k∉l:=by
 have hx:∃s∈a.du,s.used=au:=by
  have hp:0<(a.du.map (·.used)).countP (!·):=by have:=h.free;omega
  obtain⟨b,hb,my⟩:=List.countP_pos_iff.1 hp;obtain⟨s,hs,rfl⟩:=oe.1 hb;exact⟨s,hs,by simpa using my⟩
 obtain⟨s,hs,hu⟩:=hx;cases hi:a.du.findIdx? λs=> !s.used with
 |none=>
  rw[N9]at hi;have:=hi s hs;rw[hu]at this;cases this
 |some k=>
  have OB:=hi;rw[LJ]at hi;obtain⟨hk,HH,_⟩:=hi;have Au:a.du[k]? =av a.du[k]:=u' hk;have e:=xZ Au;rw[<- e]at HH;have HH:(a.fb k).used=au:=by simpa using HH
  refine⟨k,by rw[jL,OB];rfl,by rw[<- h.len];exact hk,by rw[e];exact Au,HH,λn l hl o6=> ?_⟩;obtain⟨_,⟨_,_,h2⟩,_⟩:=h.mem hl o6;have:=h2.used;rw[HH]at this;cases this
def dv.Wf.put {a:dv} {Q:List (List Nat)} (h:a.Wf Q) {n:Nat} {l:List Nat} (hl:Q[n]? =av l) (hf:a.free≠0) {id dr:Int} (top:Bool) (hq:1<=dr/\dr<=1000000):
 ∃k:Nat,jL a.du=k/\k<250/\(a.fb k).used=au/\(∀(m:Nat) (l:List Nat),Q[m]? =av l->k∉l)/\(a.put n id dr top).Wf (Q.set n (l++[k]))/\
  (∀j,((a.put n id dr top).fb j).pk=if j=k then⟨k,id,dr,top⟩else(a.fb j).pk)/\(a.put n id dr top).free=a.free-1:=by
 obtain⟨k,hk,oU,Au,HH,R6⟩:=h.toyq.unused hf;have o6:=R6 n l hl;have FO:=(jf.1 hl).1;have hqn:=h.q n l hl;have FM:a.dy.getD n nX=⟨uO l (-1),jN l (-1),a.oQ l,l.length⟩:=zY hqn;have CO:=h.toyq.sum hl;have Ot:=h.toyq.short hl;have hlen:=h.len;have wm:=yGc (sl:=a.du);have uu:=h.free;obtain⟨x,hx⟩:∃x:Slot,x=⟨ar,k,id,dr,top,n,jN l (-1),-1⟩:=⟨_,rfl⟩
 have hS:(a.put n id dr top).du=if jN l (-1)= -1 then a.du.set k x else(a.du.set k x).modify (jN l (-1)).toNat λs=>{s with back:=k}:=by
  simp only[dv.put,om,FM,hk,hx]
 have L0:(a.put n id dr top).dy=a.dy.set n ⟨uO (l++[k]) (-1),k,a.oQ l+dr,(l.length:Int)+1⟩:=by
  simp only[dv.put,om,FM,hk];rw[iq (by omega),iq (by omega)];congr 2;by_cases e:l=[]
  ·subst e;rfl
  ·rw[eg (λc=>e ((sE l).1 c)),zLr];cases l with
   |nil=>exact absurd rfl e
   |cons y ys=>rfl
 have hF:(a.put n id dr top).free=a.free-1:=by
  simp only[dv.put];rw[iq (by omega)]
 have qj:(a.du.set k x)[k]? =av x:=dZ oM;have hlo:jN l (-1)= -1\/∃(y:List Nat) (j:Nat),l=y++[j]/\jN l (-1)=(j:Int):=by
  rcases vN l with e|⟨y,j,e,e2⟩
  ·exact .inl ((sE l).2 e)
  ·exact .inr ⟨y,j,e,e2 _⟩
 have IP:∀j,j≠k->(jN l (-1)≠(j:Int))->(a.put n id dr top).du[j]? =a.du[j]? :=by
  intro j hj HI;rw[hS];split
  ·exact uV (λe=>hj e.symm)
  ·rcases hlo with e|⟨y,i,_,e⟩
   ·contradiction
   ·rw[bJ (by omega),uV (λe=>hj e.symm)]
 have BR:(a.put n id dr top).du[k]? =av x:=by
  rw[hS];split
  ·exact qj
  ·rcases hlo with e|⟨y,i,e1,e⟩
   ·contradiction
   ·have:i≠k:=by rintro rfl;exact o6 (by rw[e1];simp)
    rw[bJ (by omega)];exact qj
 have rr:∀j,j≠k->((a.put n id dr top).fb j).pk=(a.fb j).pk/\((a.put n id dr top).fb j).used=(a.fb j).used/\((a.put n id dr top).fb j).dr=(a.fb j).dr:=by
  intro j hj;by_cases c:jN l (-1)=(j:Int)
  ·have e:(a.put n id dr top).du=(a.du.set k x).modify j λs=>{s with back:=k}:=by
    rw[hS,eg (by omega),c];rfl
   by_cases EX:j<a.du.length
   ·obtain⟨s,hs⟩:=z6 EX;have h1:(a.put n id dr top).du[j]? =av {s with back:=k}:=by rw[e];exact Jt (by rw[uV (λe=>hj e.symm)];exact hs)
    rw[xZ h1,xZ hs];exact⟨rfl,rfl,rfl⟩
   ·have h1:(a.put n id dr top).du[j]? =aw:=ud (by rw[e];simpa using EX);have h2:a.du[j]? =aw:=ud oM;rw[dv.fb,dv.fb,oc,oc,h1,h2];exact⟨rfl,rfl,rfl⟩
  ·have:=IP j hj c;rw[dv.fb,dv.fb,oc,oc,this];exact⟨rfl,rfl,rfl⟩
 have C1:(a.put n id dr top).fb k=x:=xZ BR;have Ez:∀j,((a.put n id dr top).fb j).pk=if j=k then⟨k,id,dr,top⟩else(a.fb j).pk:=by
  intro j;split
  ·rename_i e;rw[e,C1,hx];rfl
  ·rename_i e;exact(rr j e).1
 have gQ:∀{m:Nat} {l':List Nat},(Q.set n (l++[k]))[m]? =av l'->(m=n/\l'=l++[k])\/(m≠n/\Q[m]? =av l'):=by
  intro m l' hm;exact a8 hm
 have Mj:ym (a.put n id dr top).du n (-1) (l++[k]) (-1):=by
  rw[NG];refine⟨?_,⟨x,BR,?_⟩,trivial⟩
  ·rcases vN l with e|⟨y,j,e,e2⟩
   ·subst e;trivial
   ·have h0:=h.sg n l hl;have qz:=h.nd n l hl;rw[hS,eg (by rw[e2];omega),e2,om];rw[e]at h0 qz o6 ⊢;have hd:=Ap.1 qz;refine z6i (k:Int) (λhj=>hd.2.2 j hj j iS rfl) (t:= -1) ?_;exact uF (λi hi=>uV (λe=>o6 (e▸hi))) h0
  ·rw[hx];exact⟨rfl,rfl,rfl,rfl,rfl,Z9,hq.2⟩
 refine⟨k,hk,oU,HH,R6,⟨⟨?_,?_,?_,?_,?_,?_,?_⟩,?_⟩,Ez,hF⟩
 ·rw[hS];split<;>simp[hlen]
 ·rw[L0];simp[h.ql]
 ·intro m l' hm;rcases gQ hm with⟨rfl,rfl⟩|⟨e,hm⟩
  ·rw[L0,dZ (by rw[h.ql];exact FO),mO];have:(a.put m id dr top).oQ (l++[k])=a.oQ l+dr:=by
    rw[dv.oQ,jl,NX];have e1:l.map (λk=>((a.put m id dr top).fb k).dr)=l.map λk=>(a.fb k).dr:=uz λj hj=>(rr j (λe=>o6 (e▸hj))).2.2
    rw[e1];simp only[jj,B9,rk,List.sum_nil,C1];rw[hx,dv.oQ];dsimp only;omega
   rw[this];simp[jN]
  ·rw[L0,uV (λc=>e c.symm),h.q m l' hm,nH];intro j hj;exact(rr j (λe=>R6 m l' hm (e▸hj))).2.2.symm
 ·intro m l' hm;rcases gQ hm with⟨rfl,rfl⟩|⟨e,hm⟩
  ·exact Mj
  ·refine uF (λj hj=>IP j (λe=>R6 m l' hm (e▸hj)) λc=> ?_) (h.sg m l' hm);rcases hlo with e2|⟨y,i,e1,e2⟩
   ·omega
   ·have:i=j:=by omega
    exact e (h.toyq.one hm hl hj (by rw[e1];simp[this]))
 ·intro m l' hm;rcases gQ hm with⟨rfl,rfl⟩|⟨e,hm⟩
  ·refine Ap.2 ⟨h.nd m l hl,by simp,?_⟩;rintro i hi j hj rfl;rw[uc.1 hj]at hi;exact o6 hi
  ·exact h.nd m l' hm
 ·intro j s hj hs;by_cases e:j=k
  ·exact⟨n,l++[k],dZ FO,by rw[e];simp⟩
  ·have hu:(a.fb j).used=ar:=by rw[<- (rr j e).2.1,xZ hj];exact hs
   have EX:j<a.du.length:=by
    have:=(jf.1 hj).1;rw[hS]at this;split at this<;>simpa using this
   obtain⟨s',iK⟩:=z6 EX;rw[xZ iK]at hu;obtain⟨m,l',hm,R7⟩:=h.us j s' iK hu;by_cases em:m=n
   ·subst em;rw[hl]at hm;cases hm;exact⟨m,l++[k],dZ FO,yl _ R7⟩
   ·exact⟨m,l',by rw[uV (λc=>em c.symm)];exact hm,R7⟩
 ·have LV:(a.put n id dr top).du.map (·.used)=(a.du.set k x).map (·.used):=by
   rw[hS];split
   ·rfl
   ·exact Ny (g:=λs:Slot=>s.used) (f:=λs:Slot=>{s with back:=k}) (λ_=>rfl) _ _
  have:=zSo (x:=x) Au;rw[HH,eg (by decide),show x.used=ar by rw[hx],fc rfl]at this;rw[LV,hF,uu];omega
 ·intro m l' hm j hj;rcases gQ hm with⟨rfl,rfl⟩|⟨e,hm⟩
  ·rcases oK.1 hj with hj|hj
   ·rw[(rr j (λe=>o6 (e▸hj))).2.2];exact h.pos m l hl j hj
   ·rw[uc.1 hj,C1,hx];exact hq.1
  ·rw[(rr j (λe=>R6 m l' hm (e▸hj))).2.2];exact h.pos m l' hm j hj
def Pb (a:dv) (k:Nat) (q:Int) (j:Nat) (hk:k<a.du.length):(a.less k q).fb j=if j=k then{a.fb j with dr:=(a.fb j).dr-q}else a.fb j:=by
 split
 ·rename_i e;subst e;obtain⟨s,hs⟩:=z6 hk;rw[xZ hs,xZ (a:=a.less j q) (Jt hs)]
 ·rename_i e;show(a.du.modify k _).getD j iB=a.du.getD j iB;rw[oc,bJ (λc=>e c.symm),oc]
def dv.yq.less {a:dv} {Q:List (List Nat)} (h:a.yq Q) {n k:Nat} {l:List Nat} (hl:Q[n]? =av l) (hk:k∈l) {q:Int} (hq:0<=q/\q<=(a.fb k).dr):(a.less k q).yq Q:=by
 obtain⟨oU,⟨p,t,hs⟩,Au⟩:=h.mem hl hk;have o6:k<a.du.length:=by rw[h.len];exact oU
 have hqt:(a.fb k).queue.toNat=n:=by rw[hs.queue];exact om n
 have hm:∀(j:Nat) (s:Slot),a.du[j]? =av s->∃s',(a.less k q).du[j]? =av s'/\s'.used=s.used/\s'.n=s.n/\s'.queue=s.queue/\s'.ahead=s.ahead/\s'.back=s.back:=by
  intro j s hj;by_cases e:k=j
  ·subst e;exact⟨_,Jt hj,rfl,rfl,rfl,rfl,rfl⟩
  ·exact⟨s,by rw[show(a.less k q).du=a.du.modify k _ from rfl,bJ e];exact hj,rfl,rfl,rfl,rfl,rfl⟩
 have yo:(a.less k q).du.length=250:=by simpa[dv.less]using h.len
 have FK:(a.less k q).dy=a.dy.modify n λx=>{x with total:=ap.wrap (x.total-q)}:=by rw[dv.less,hqt]
 have LV:(a.less k q).du.map (·.used)=a.du.map (·.used):=Ny (g:=λs:Slot=>s.used) (f:=λs:Slot=>{s with dr:=s.dr-q}) (λ_=>rfl) _ _
 refine⟨yo,by rw[FK];simpa using h.ql,λm l' At=> ?_,λm l' At=> ?_,h.nd,λj s hj hu=> ?_,by rw[LV];exact h.free⟩
 ·by_cases e:n=m
  ·subst e;rw[hl]at At;cases At;rw[FK,Jt (h.q n l hl)];have CO:=h.sum hl;have e2:(a.less k q).oQ l=a.oQ l-q:=by
    rw[dv.oQ,dv.oQ,yDg (k:=k) (f:=λk=>(a.fb k).dr) (h.nd n l hl) hk]
    ·rw[Pb a k q k o6,fc rfl];dsimp only;omega
    ·intro j _ hj;rw[Pb a k q j o6,eg hj]
   have h1:=hs.q2;rw[e2];dsimp only;rw[iq (by omega)]
  ·rw[FK,bJ e,h.q m l' At,nH];intro j hj;have:j≠k:=λc=>e (h.one hl At hk (c▸hj))
   rw[Pb a k q j o6,eg this]
 ·refine YG (λj hj s iK=> ?_) (h.sg m l' At);obtain⟨s',q0,q1,q2,q3,q4,q5⟩:=hm j s iK;refine⟨s',q0,q1,q2,q3,q4,q5,?_⟩;have e:=xZ q0;rw[<- e,Pb a k q j o6];obtain⟨_,⟨_,_,h2⟩,h3⟩:=h.mem At hj;have:=h2.q1;have:=h2.q2;split
  ·rename_i c;subst c;dsimp only;omega
  ·omega
 ·have gn:=(jf.1 hj).1;rw[yo,<- h.len]at gn;obtain⟨s0,h0⟩:=z6 gn;obtain⟨s',q0,q1,_⟩:=hm j s0 h0;rw[hj]at q0;cases q0;exact h.us j s0 h0 (by rw[<- q1];exact hu)
def dv.yq.drop {a:dv} {Q:List (List Nat)} (h:a.yq Q) {n k:Nat} {l1 l2:List Nat} (hl:Q[n]? =av (l1++k::l2)) (h0:(a.fb k).dr=0):
 (a.iI k).yq (Q.set n (l1++l2))/\(∀j,j≠k->((a.iI k).fb j).pk=(a.fb j).pk/\((a.iI k).fb j).used=(a.fb j).used/\((a.iI k).fb j).dr=(a.fb j).dr)/\(a.iI k).fb k=iB/\(a.iI k).free=a.free+1:=by
 have hkm:k∈l1++k::l2:=by simp
 have FO:=(jf.1 hl).1;obtain⟨oU,_,Au⟩:=h.mem hl hkm;have hlen:=h.len;have o6:k<a.du.length:=by omega
 have JW:=h.sg n _ hl;have qz:=h.nd n _ hl;have hd:=Ap.1 qz;have Aw:=yk.1 hd.2.1;have k1:k∉l1:=λhk=>hd.2.2 k hk k iS rfl
 have k2:k∉l2:=Aw.1;rw[NG]at JW;obtain⟨g1,⟨s,ue,hs⟩,g2⟩:=JW;have es:=xZ ue;have eqn:(a.dy.getD s.queue.toNat nX)=⟨uO (l1++k::l2) (-1),jN (l1++k::l2) (-1),a.oQ (l1++k::l2),(l1++k::l2).length⟩:=by
  rw[hs.queue,om];exact zY (h.q n _ hl)
 have uu:=h.free;have wm:=yGc (sl:=a.du);have Ot:=h.short hl;obtain⟨As,zg⟩:∃As,As=if jN l1 (-1)= -1 then a.du else a.du.modify (jN l1 (-1)).toNat λx=>{x with back:=uO l2 (-1)}:=⟨_,rfl⟩
 obtain⟨Di,zf⟩:∃Di,Di=if uO l2 (-1)= -1 then As else As.modify (uO l2 (-1)).toNat λx=>{x with ahead:=jN l1 (-1)}:=⟨_,rfl⟩
 have hS:(a.iI k).du=Di.set k iB:=by
  simp only[dv.iI,es,hs.ahead,hs.back];rw[zf,zg]
 have L0:(a.iI k).dy=a.dy.set n ⟨uO (l1++l2) (-1),jN (l1++l2) (-1),a.oQ (l1++l2),(l1++l2).length⟩:=by
  simp only[dv.iI,es,eqn,hs.ahead,hs.back];rw[hs.queue,om];have el:(l1++k::l2).length=(l1++l2).length+1:=by simp;omega
  have eq:a.oQ (l1++k::l2)=a.oQ (l1++l2):=by
   rw[dv.oQ,dv.oQ,jl,NX,jl,NX,jj,rk,h0];omega
  rw[el]at Ot ⊢;rw[iq (by omega),eq];congr 2
  ·cases l1 with
   |nil=>simp[jN,zLr,uO]
   |cons y ys=>
    rw[eg (by rw[sE];simp)];rfl
  ·rcases vN l2 with e|⟨x,j,e,e2⟩
   ·subst e;simp[uO,mO,jN]
   ·have:l2≠[]:=by rw[e];simp
    rw[eg (λc=>this ((zYp l2).1 c)),mO,mO,jN,e2,e2]
  ·simp
 have hF:(a.iI k).free=a.free+1:=by
  simp only[dv.iI];rw[iq (by omega)]
 have CI:jN l1 (-1)= -1\/∃(y:List Nat) (j:Nat),l1=y++[j]/\jN l1 (-1)=(j:Int):=by
  rcases vN l1 with e|⟨y,j,e,e2⟩
  ·exact .inl ((sE l1).2 e)
  ·exact .inr ⟨y,j,e,e2 _⟩
 have Ch:uO l2 (-1)= -1\/∃(y:List Nat) (j:Nat),l2=j::y/\uO l2 (-1)=(j:Int):=by
  cases l2 with
  |nil=>exact .inl rfl
  |cons j y=>exact .inr ⟨y,j,rfl,rfl⟩
 have IP:∀j,j∉l1->j∉l2->j≠k->(a.iI k).du[j]? =a.du[j]? :=by
  intro j h1 h2 h3;rw[hS,uV (λe=>h3 e.symm),zf];have e1:As[j]? =a.du[j]? :=by
   rw[zg];split
   ·rfl
   ·rcases CI with e|⟨y,i,e,e2⟩
    ·contradiction
    ·rw[bJ];rw[e2,om];rintro rfl;exact h1 (by rw[e];simp)
  split
  ·exact e1
  ·rcases Ch with e|⟨y,i,e,e2⟩
   ·contradiction
   ·rw[bJ,e1];rw[e2,om];rintro rfl;exact h2 (by rw[e];simp)
 have rr:∀j,j≠k->((a.iI k).fb j).pk=(a.fb j).pk/\((a.iI k).fb j).used=(a.fb j).used/\((a.iI k).fb j).dr=(a.fb j).dr:=by
  intro j hj;have m1:∀(sl:List Slot) (i:Nat) (b:Int),((sl.modify i λx=>{x with back:=b}).getD j iB).pk=(sl.getD j iB).pk/\((sl.modify i λx=>{x with back:=b}).getD j iB).used=(sl.getD j iB).used/\((sl.modify i λx=>{x with back:=b}).getD j iB).dr=(sl.getD j iB).dr:=by
   intro sl i b;rw[oc,oc,FA];cases sl[j]? with
   |none=>exact⟨rfl,rfl,rfl⟩
   |some s=>by_cases e:i=j<;>simp[e,Slot.pk]
  have m2:∀(sl:List Slot) (i:Nat) (b:Int),((sl.modify i λx=>{x with ahead:=b}).getD j iB).pk=(sl.getD j iB).pk/\((sl.modify i λx=>{x with ahead:=b}).getD j iB).used=(sl.getD j iB).used/\((sl.modify i λx=>{x with ahead:=b}).getD j iB).dr=(sl.getD j iB).dr:=by
   intro sl i b;rw[oc,oc,FA];cases sl[j]? with
   |none=>exact⟨rfl,rfl,rfl⟩
   |some s=>by_cases e:i=j<;>simp[e,Slot.pk]
  have e0:(a.iI k).fb j=Di.getD j iB:=by
   rw[dv.fb,hS,oc,uV (λe=>hj e.symm),oc]
  have e1:(As.getD j iB).pk=(a.fb j).pk/\(As.getD j iB).used=(a.fb j).used/\(As.getD j iB).dr=(a.fb j).dr:=by
   rw[zg];split
   ·exact⟨rfl,rfl,rfl⟩
   ·exact m1 _ _ _
  have e2:(Di.getD j iB).pk=(As.getD j iB).pk/\(Di.getD j iB).used=(As.getD j iB).used/\(Di.getD j iB).dr=(As.getD j iB).dr:=by
   rw[zf];split
   ·exact⟨rfl,rfl,rfl⟩
   ·exact m2 _ _ _
  rw[e0];exact⟨e2.1.trans e1.1,e2.2.1.trans e1.2.1,e2.2.2.trans e1.2.2⟩
 have hl1:As.length=250:=by rw[zg];split<;>simp[hlen]
 have Dq:Di.length=250:=by rw[zf];split<;>simp[hl1]
 have BR:(a.iI k).du[k]? =av iB:=by rw[hS];exact dZ oM
 have Mj:ym (a.iI k).du n (-1) (l1++l2) (-1):=by
  rw[hS,NG];constructor
  ·--the part ahead
   refine uF (sl:=Di) (λj hj=>uV (λe=>k1 (e▸hj))) ?_;have f1:ym As n (-1) l1 (uO l2 (-1)):=by
    rcases vN l1 with e|⟨y,j,e,e2⟩
    ·subst e;trivial
    ·rw[zg,eg (by rw[e2];omega),e2,om];subst e;have hd3:=Ap.1 hd.1;exact z6i _ (λhj=>hd3.2.2 j hj j iS rfl) g1
   refine uF (λj hj=> ?_) f1;rw[zf];split
   ·rfl
   ·rcases Ch with e|⟨y,i,e,e2⟩
    ·contradiction
    ·refine bJ ?_;rw[e2,om];rintro rfl;exact hd.2.2 i hj i (jc _ (by rw[e];simp)) rfl
  ·--the part behind
   refine uF (sl:=Di) (λj hj=>uV (λe=>k2 (e▸hj))) ?_;have f1:ym As n k l2 (-1):=by
    refine uF (λj hj=> ?_) g2;rw[zg];split
    ·rfl
    ·rcases CI with e|⟨y,i,e,e2⟩
     ·contradiction
     ·refine bJ ?_;rw[e2,om];rintro rfl;exact hd.2.2 i (by rw[e];simp) i (jc _ hj) rfl
   rcases Ch with e|⟨y,j,e,e2⟩
   ·rw[(zYp l2).1 e];trivial
   ·rw[zf,eg (by rw[e2];omega),e2,om];rw[e]at f1 Aw ⊢;exact yHu _ (yk.1 Aw.2).1 f1
 refine⟨⟨?_,?_,?_,?_,?_,?_,?_⟩,rr,xZ BR,hF⟩
 ·rw[hS,qm];exact Dq
 ·rw[L0];simp[h.ql]
 ·intro m l' hm;rcases a8 hm with⟨rfl,rfl⟩|⟨e,hm⟩
  ·rw[L0,dZ (by rw[h.ql];exact FO)];congr 2;refine(nH λj hj=>(rr j λe=> ?_).2.2).symm;subst e;rcases oK.1 hj with hj|hj
   ·exact k1 hj
   ·exact k2 hj
  ·rw[L0,uV (λc=>e c.symm),h.q m l' hm];congr 2;refine(nH λj hj=>(rr j λe2=> ?_).2.2).symm;subst e2;exact e (h.one hm hl hj hkm)
 ·intro m l' hm;rcases a8 hm with⟨rfl,rfl⟩|⟨e,hm⟩
  ·exact Mj
  ·refine uF (λj hj=>IP j ?_ ?_ ?_) (h.sg m l' hm)
   ·exactλc=>e (h.one hm hl hj (yl _ c))
   ·exactλc=>e (h.one hm hl hj (zu _ (jc _ c)))
   ·rintro rfl;exact e (h.one hm hl hj hkm)
 ·intro m l' hm;rcases a8 hm with⟨rfl,rfl⟩|⟨e,hm⟩
  ·refine Ap.2 ⟨hd.1,Aw.2,λi hi j hj=>hd.2.2 i hi j (jc _ hj)⟩
  ·exact h.nd m l' hm
 ·intro j s' hj hu;have R8:j≠k:=by
   rintro rfl;rw[BR]at hj;cases hj;cases hu
  have hu2:(a.fb j).used=ar:=by rw[<- (rr j R8).2.1,xZ hj];exact hu
  have EX:j<a.du.length:=by
   have:=(jf.1 hj).1;rw[hS,qm]at this;omega
  obtain⟨s0,XK⟩:=z6 EX;rw[xZ XK]at hu2;obtain⟨m,l',hm,R7⟩:=h.us j s0 XK hu2;by_cases em:m=n
  ·subst em;rw[hl]at hm;cases hm;refine⟨m,_,dZ FO,?_⟩;rcases oK.1 R7 with hj|hj
   ·exact yl _ hj
   ·rcases jq.1 hj with e|hj
    ·exact absurd e R8
    ·exact zu _ hj
  ·exact⟨m,l',by rw[uV (λc=>em c.symm)];exact hm,R7⟩
 ·have LV:(a.iI k).du.map (·.used)=(a.du.set k iB).map (·.used):=by
   have e1:Di.map (·.used)=a.du.map (·.used):=by
    have f2:Di.map (·.used)=As.map (·.used):=by
     rw[zf];split
     ·rfl
     ·exact Ny (g:=λs:Slot=>s.used) (f:=λs:Slot=>{s with ahead:=jN l1 (-1)}) (λ_=>rfl) _ _
    have f1:As.map (·.used)=a.du.map (·.used):=by
     rw[zg];split
     ·rfl
     ·exact Ny (g:=λs:Slot=>s.used) (f:=λs:Slot=>{s with back:=uO l2 (-1)}) (λ_=>rfl) _ _
    rw[f2,f1]
   rw[hS,List.map_set,e1,List.map_set]
  have:=zSo (x:=iB) ue;rw[hs.used,fc rfl,show iB.used=au from rfl,eg (by decide)]at this;rw[LV,hF,uu];omega
def dv.Wf.take {a:dv} {Q:List (List Nat)} (h:a.Wf Q) {n k:Nat} {l:List Nat} (hl:Q[n]? =av l) (hk:k∈l) {q:Int} (hq:1<=q/\q<=(a.fb k).dr):
 (a.gq k q).2=0/\(∀j,j≠k->((a.gq k q).1.fb j).pk=(a.fb j).pk/\((a.gq k q).1.fb j).used=(a.fb j).used)/\
   (if(a.fb k).dr=q then(a.gq k q).1.Wf (Q.set n (l.erase k))/\(a.gq k q).1.fb k=iB/\(a.gq k q).1.free=a.free+1
    else(a.gq k q).1.Wf Q/\(a.gq k q).1.fb k={a.fb k with dr:=(a.fb k).dr-q}/\(a.gq k q).1.free=a.free):=by
 obtain⟨oU,⟨p,t,hs⟩,Au⟩:=h.toyq.mem hl hk;have o6:k<a.du.length:=by rw[h.len];exact oU
 have hu:a.iu k=ar:=by
  simp only[dv.iu,lj,tq];refine⟨oM,oM,?_⟩;rw[om];exact hs.used
 have KH:=h.toyq.less hl hk (q:=q) oM;have ta:=Pb a k q;rw[dv.gq,eg (by rw[hu];decide),om,eg (by omega)];by_cases e:(a.fb k).dr=q
 ·rw[fc e,fc e];obtain⟨l1,l2,rfl⟩:=List.append_of_mem hk;have qz:=h.nd n _ hl;have hd:=Ap.1 qz;have k1:k∉l1:=λhk=>hd.2.2 k hk k iS rfl
  obtain⟨d1,d2,d3,d4⟩:=KH.drop hl (by rw[ta k o6,fc rfl];dsimp only;omega);have ee:(l1++k::l2).erase k=l1++l2:=by rw[List.erase_append_right _ k1,List.erase_cons_head]
  refine⟨rfl,λj hj=> ?_,?_,d3,d4⟩
  ·have:=d2 j hj;rw[ta j o6,eg hj]at this;exact⟨this.1,this.2.1⟩
  ·rw[ee];refine⟨d1,λm l' hm j hj=> ?_⟩;have HI:j≠k/\∃XB,Q[m]? =av XB/\j∈XB:=by
    have Aw:=yk.1 hd.2.1;rcases a8 hm with⟨rfl,rfl⟩|⟨e3,hm⟩
    ·refine⟨?_,_,hl,?_⟩
     ·rintro rfl;rcases oK.1 hj with hj|hj
      ·exact k1 hj
      ·exact Aw.1 hj
     ·rcases oK.1 hj with hj|hj
      ·exact yl _ hj
      ·exact zu _ (jc _ hj)
    ·refine⟨?_,_,hm,hj⟩;rintro rfl;exact e3 (h.toyq.one hm hl hj hk)
   obtain⟨hj3,XB,hm2,hj4⟩:=HI;have:=(d2 j hj3).2.2;rw[ta j o6,eg hj3]at this;dsimp only;rw[this];exact h.pos m XB hm2 j hj4
 ·rw[eg e,eg e];refine⟨rfl,λj hj=> ?_,⟨KH,λm l' hm j hj=> ?_⟩,?_,rfl⟩
  ·dsimp only;rw[ta j o6,eg hj];exact⟨rfl,rfl⟩
  ·dsimp only;rw[ta j o6];split
   ·rename_i c;subst c;dsimp only;omega
   ·exact h.pos m l' hm j hj
  ·dsimp only;rw[ta k o6,fc rfl]
def xK {α β:Type} {f g:α->List β}:∀{l:List α},(∀x∈l,f x=g x)->l.flatMap f=l.flatMap g
 |[],_=>rfl
 |x::l,h=>by rw[vi,vi,h x iS,xK λy hy=>h y (jc _ hy)]
def Jo {α β γ:Type} {f:α->List β} {g:β->γ}:∀(l:List α),(l.flatMap f).map g=l.flatMap λx=>(f x).map g
 |[]=>rfl
 |x::l=>by rw[vi,vi,jl,Jo l]
def z8v {α β:Type} {f:α->List β}:∀{l:List α},(∀x∈l,f x≠[])->l.length<=(l.flatMap f).length
 |[],_=>lh 0
 |x::l,h=>by
  have:=z8v (l:=l) λy hy=>h y (jc _ hy)
  have:=List.length_pos_iff.2 (h x iS);rw[vi,iv,iC];omega
def Z1 {α:Type} [DecidableEq α]:∀{l m:List α},l.Nodup->(∀x∈l,x∈m)->l.length<=m.length
 |[],_,_,_=>mi _
 |x::l,m,h,hs=>by
  have hd:=yk.1 h;have hx:=hs x iS;have:=Z1 (l:=l) (m:=m.erase x) hd.2 λy hy=>by
   have jr:y≠x:=by rintro rfl;exact hd.1 hy
   exact(List.mem_erase_of_ne jr).2 (hs y (jc _ hy))
  rw[aj hx]at this;have:=List.length_pos_of_mem hx;rw[iC];omega
def yIj {l:List Int} (h:l.Nodup) (hr:∀x∈l,0<=x/\x<l.length) {n:Nat} (hn:n<l.length):(n:Int)∈l:=by
 apply cm;intro hx;have qz:((n:Int)::l).Nodup:=yk.2 ⟨hx,h⟩;have:=Z1 (m:=(ag l.length).map λk:Nat=>(k:Int)) qz λy hy=>by
  rw[oe];rcases jq.1 hy with rfl|hy
  ·exact⟨n,CB.2 hn,rfl⟩
  ·have:=hr y hy;exact⟨y.toNat,CB.2 oM,oM⟩
 simp at this;omega
def UH {α β:Type} {l:List (α×β)} (h:(l.map (·.1)).Nodup) {k:α} {x y:β} (hx:(k,x)∈l) (hy:(k,y)∈l):x=y:=by
 induction l with
 |nil=>cases hx
 |cons p l ih=>
  rw[jj,yk]at h;rcases jq.1 hx with ex|hx<;>rcases jq.1 hy with ey|hy
  ·rw[<- ex]at ey;exact(Prod.mk.inj ey).2.symm
  ·exact absurd (rz (f:=(·.1)) hy) (by rw[<- ex]at h;exact h.1)
  ·exact absurd (rz (f:=(·.1)) hx) (by rw[<- ey]at h;exact h.1)
  ·exact ih h.2 hx hy
def Pu:∀{l:List (Int×Place)} {k:Int} {x:Place},km l k=av x->(k,x)∈l
 |[],k,x,h=>by cases h
 |p::l,k,x,h=>by
  rw[km,LA]at h;by_cases e:p.1=k
  ·rw[jk e]at h;simp only[we,Option.some.injEq]at h;subst h;subst e;exact iS
  ·rw[jt e]at h;exact jc _ (Pu h)
def zLt {l:List (Int×Place)} {k:Int} (h:km l k=aw):k∉l.map (·.1):=by
 intro hk;obtain⟨⟨k',x⟩,hx,rfl⟩:=oe.1 hk;rw[km,Option.map_eq_none_iff,List.find?_eq_none]at h;have:=h _ hx;simp at this
def z3c:∀{l:List (Int×Place)} {k:Int} {x:Place},k∉l.map (·.1)->tF k x l=l++[(k,x)]
 |[],k,x,_=>rfl
 |p::l,k,x,h=>by
  rw[jj,jq,not_or]at h;rw[tF,eg h.1,z3c h.2];rfl
def xJ (Q:List (List Nat)) (r:xV):List Nat:=Q.getD r.queue.toNat []
def yNd (s p:Int) (e:Ek):zK:=⟨e.id,s,p,e.dr,e.top⟩
def vZ (a:dv) (s p:Int) (k:Nat):zK:=yNd s p (a.fb k).pk
def dq.ia (b:dq) (Q:List (List Nat)) (s:Int) (r:xV):List zK:=(xJ Q r).map (vZ b.a s r.dm)
def dq.im (b:dq) (Q:List (List Nat)) (s:Int):List zK:=(b.dz s).flatMap (b.ia Q s)
def dq.flat (b:dq) (Q:List (List Nat)):List zK:=b.im Q 1++b.im Q 2
def uM (a:dv) (s p:Int) (k:Nat):Int×Place:=((a.fb k).id,⟨s,p,k⟩)
def dq.mg (b:dq) (Q:List (List Nat)) (s:Int):List (Int×Place):=(b.dz s).flatMap λr=>(xJ Q r).map (uM b.a s r.dm)
def dq.qs (b:dq):List Int:=b.fm.map (·.queue)++b.ej.map (·.queue)++b.spare
structure dq.Core (b:dq) (Q:List (List Nat)) (hole:Int):Prop where
 wf:b.a.Wf Q
 xk:∀s,s=1\/s=2->(b.dz s).Pairwise λr r'=>je s r.dm r'.dm=ar
 uj:∀q∈b.qs,0<=q/\q<Q.length
 nd:b.qs.Nodup
 ql:b.qs.length=Q.length
 ne:∀s,s=1\/s=2->∀r∈b.dz s,r.queue≠hole->xJ Q r≠[]
 sp:∀q∈b.spare,Q.getD q.toNat []=[]
 at_:b.at_.Perm (b.mg Q 1++b.mg Q 2)
 ids:((b.flat Q).map (·.id)).Nodup
 qb:Q.length<=250
structure dq.BO (b:dq) (L:List zK):Prop where
 fl:∀o∈L,o.top=(b.ml o.side && decide (o.id=b.iX o.side))
 th:∀s,s=1\/s=2->b.ml s=ar->∃o∈L,o.side=s/\o.id=b.iX s
structure dq.fv (b:dq) (L:List zK):Prop where
 ex:∃Q,b.Core Q (-1)/\b.BO L/\L=b.flat Q
def m9 (b:dq) (Q:List (List Nat)) (s:Int):(b.mg Q s).map (·.1)=(b.im Q s).map (·.id):=by
 rw[dq.mg,dq.im,Jo,Jo];refine xK λr _=> ?_
 rw[dq.ia,vy,vy];rfl
def dq.Core.Ab {b:dq} {Q:List (List Nat)} {h:Int} (c:b.Core Q h):(b.at_.map (·.1)).Perm ((b.flat Q).map (·.id)):=by
 have:=c.at_.map (·.1)
 rw[jl,m9,m9,<- jl]at this;exact this
def dq.Core.keys {b:dq} {Q:List (List Nat)} {h:Int} (c:b.Core Q h):(b.at_.map (·.1)).Nodup:=c.Ab.nodup_iff.2 c.ids
def dq.Core.len {b:dq} {Q:List (List Nat)} {h:Int} (c:b.Core Q h):b.at_.length=(b.flat Q).length:=by
 have:=c.Ab.length_eq;simpa using this
def dq.Core.FF {b:dq} {Q:List (List Nat)} {h:Int} (c:b.Core Q h) {s:Int} (hs:s=1\/s=2) {r:xV} (hr:r∈b.dz s) {k:Nat} (hk:k∈xJ Q r):((b.a.fb k).id,(⟨s,r.dm,k⟩:Place))∈b.at_:=by
 refine c.at_.mem_iff.2 ?_;have hp:uM b.a s r.dm k∈b.mg Q s:=A8.2 ⟨r,hr,rz hk⟩;rcases hs with rfl|rfl
 ·exact yl _ hp
 ·exact zu _ hp
def dq.Core.SR {b:dq} {Q:List (List Nat)} {h:Int} (c:b.Core Q h) {id:Int} {x:Place} (hx:(id,x)∈b.at_):∃(k:Nat) (r:xV),(x.side=1\/x.side=2)/\r∈b.dz x.side/\k∈xJ Q r/\x=⟨x.side,r.dm,k⟩/\(b.a.fb k).id=id:=by
 have:=c.at_.mem_iff.1 hx;rcases oK.1 this with hp|hp
 all_goals
  obtain⟨r,hr,hp⟩:=A8.1 hp;obtain⟨k,hk,e⟩:=oe.1 hp;simp only[uM,Prod.mk.injEq]at e;obtain⟨e1,rfl⟩:=e;exact⟨k,r,by simp,hr,hk,rfl,e1⟩
def z5w {Q:List (List Nat)} {r:xV} (h:0<=r.queue/\r.queue<Q.length):Q[r.queue.toNat]? =av (xJ Q r):=by
 obtain⟨l,hl⟩:=z6 (l:=Q) (i:=r.queue.toNat) oM;rw[xJ,zY hl,hl]
def gX {b:dq} {s:Int} (hs:s=1\/s=2) {r:xV} (hr:r∈b.dz s):r.queue∈b.qs:=by
 rcases hs with rfl|rfl
 ·exact yl _ (yl _ (rz (f:=(·.queue)) hr))
 ·exact yl _ (zu _ (rz (f:=(·.queue)) hr))
def dq.Core.get {b:dq} {Q:List (List Nat)} {h:Int} (c:b.Core Q h) {s:Int} (hs:s=1\/s=2) {r:xV} (hr:r∈b.dz s):Q[r.queue.toNat]? =av (xJ Q r):=z5w (c.uj _ (gX hs hr))
def Dy (L:List zK) (s:Int):List zK:=L.map λo=>if o.side=s then{o with top:=au}else o
def NC (s x:Int):je s x x=au:=by
 rw[je];split<;>exact jt oM
def dq.Core.flag {b:dq} {Q:List (List Nat)} {h:Int} (c:b.Core Q h) {a':dv} (hw:a'.Wf Q) (hi:∀k,(a'.fb k).id=(b.a.fb k).id):({b with a:=a'}:dq).Core Q h:=by
 have e1:∀s,({b with a:=a'}:dq).mg Q s=b.mg Q s:=by
  intro s;refine xK λr _=>uz λk _=> ?_
  simp only[uM,hi]
 have e2:((({b with a:=a'}:dq).flat Q).map (·.id))=(b.flat Q).map (·.id):=by
  rw[dq.flat,dq.flat,jl,jl,<- m9,<- m9,<- m9,<- m9,e1,e1]
 exact⟨hw,c.xk,c.uj,c.nd,c.ql,c.ne,c.sp,by rw[e1,e1];exact c.at_,by rw[e2];exact c.ids,c.qb⟩
def yVy (a:dv) (n:Int) (t:Bool) (k:Nat):((a.mf n t).fb k).id=(a.fb k).id:=by
 rw[z1d];split<;>rfl
def dq.Core.iQ {b:dq} {Q:List (List Nat)} {h:Int} (c:b.Core Q h) (s:Int):(b.iQ s).Wf Q/\∀k,((b.iQ s).fb k).id=(b.a.fb k).id:=by
 rw[dq.iQ]
 repeat' split
 all_goals first|exact⟨c.wf,λ_=>rfl⟩|exact⟨c.wf.top _ _,λk=>yVy _ _ _ k⟩
def dq.Core.C4 {b:dq} {Q:List (List Nat)} {h:Int} (c:b.Core Q h) (ht:b.BO (b.flat Q)) {s:Int} (hs:s=1\/s=2):({b with a:=b.iQ s}:dq).flat Q=Dy (b.flat Q) s:=by
 have Bz:∀{s':Int} (iK:s'=1\/s'=2) {r:xV} (hr:r∈b.dz s') {k:Nat} (hk:k∈xJ Q r),(b.a.fb k).top=(b.ml s' && decide ((b.a.fb k).id=b.iX s')):=by
  intro s' iK r hr k hk;have hm:vZ b.a s' r.dm k∈b.flat Q:=by
   have:vZ b.a s' r.dm k∈b.im Q s':=A8.2 ⟨r,hr,rz hk⟩;rcases iK with rfl|rfl
   ·exact yl _ this
   ·exact zu _ this
  exact ht.fl _ hm
 have key:∀{s':Int} (iK:s'=1\/s'=2) {r:xV} (hr:r∈b.dz s') {k:Nat} (hk:k∈xJ Q r),((b.iQ s).fb k).pk=if s'=s then{(b.a.fb k).pk with top:=au}else(b.a.fb k).pk:=by
  intro s' iK r hr k hk;have zj:=c.FF iK hr hk;have IL:=Bz iK hr hk;have FN:(b.a.fb k).top=au->(b.a.fb k).pk=if s'=s then{(b.a.fb k).pk with top:=au}else(b.a.fb k).pk:=by
   intro e;split
   ·rw[Slot.pk,e]
   ·rfl
  rw[dq.iQ];by_cases hh:b.ml s=ar
  ·rw[fc hh];cases hg:km b.at_ (b.iX s)with
   |none=>
    dsimp only;by_cases e:s'=s
    ·subst e;refine FN ?_;rw[IL,hh,Ao];refine jt λe2=> ?_
     rw[<- e2]at hg;exact zLt hg (rz (f:=(·.1)) zj)
    ·rw[eg e]
   |some o=>
    dsimp only;obtain⟨k',r',yp,xo,oU,ho,Bf⟩:=c.SR (Pu hg);by_cases es:o.side=s
    ·rw[fc es,z1d];have CH:o.slot=(k':Int):=by rw[ho]
     by_cases ek:k=k'
     ·subst ek;have hu:b.a.iu o.slot=ar:=by
       obtain⟨_,⟨_,_,h2⟩,h3⟩:=c.wf.toyq.mem (c.get iK hr) hk;have gn:=(jf.1 h3).1;simp only[dv.iu,lj,tq,CH,om];exact⟨oM,oM,h2.used⟩
      rw[fc ⟨hu,by rw[CH];rfl⟩];have:=c.FF yp xo oU;have e3:=UH c.keys zj this;have e4:s'=s:=by
       have:=congrArg Place.side e3;dsimp only at this;rw[this,es]
      rw[fc e4];rfl
     ·rw[eg (λe=>ek (by have:=e.2;rw[CH]at this;simpa using this))];by_cases e:s'=s
      ·subst e;refine FN ?_;rw[IL,hh,Ao];refine jt λe2=>ek ?_
       have JY:=c.FF yp xo oU;rw[Bf,<- e2]at JY;have e3:=UH c.keys zj JY;have:=congrArg Place.slot e3;dsimp only at this;omega
      ·rw[eg e]
    ·rw[eg es];by_cases e:s'=s
     ·subst e;refine FN ?_;rw[IL,hh,Ao];refine jt λe2=>es ?_
      have JY:=Pu hg;rw[<- e2]at JY;have e3:=UH c.keys zj JY;rw[<- e3]
     ·rw[eg e]
  ·rw[eg hh];by_cases e:s'=s
   ·subst e;refine FN ?_;have:b.ml s'=au:=by simpa using hh
    rw[IL,this,Da]
   ·rw[eg e]
 have side:∀s',s'=1\/s'=2->({b with a:=b.iQ s}:dq).im Q s'=Dy (b.im Q s') s:=by
  intro s' iK;rw[Dy,dq.im,dq.im,Jo];refine xK λr hr=> ?_
  rw[dq.ia,dq.ia,vy];refine uz λk hk=> ?_
  simp only[vZ,Function.comp,key iK hr hk,yNd];by_cases e:s'=s
  ·rw[fc e];exact(fc e).symm
  ·rw[eg e];exact(eg e).symm
 rw[dq.flat,side 1 (.inl rfl),side 2 (.inr rfl),dq.flat,Dy,Dy,Dy,jl]
def before (s p:Int) (o:zK):Bool:=decide (o.side<s)||(decide (o.side=s) && !je s p o.dm)
def fS (L:List zK) (s p:Int):Bool:=L.all λo=> !decide (o.side=s)||je s p o.dm
def HU (L:List zK) (s id p q:Int):List zK:=
 let L1:=if fS L s p=ar then Dy L s else L
 L1.takeWhile (before s p)++⟨id,s,p,q,fS L s p⟩::L1.dropWhile (before s p)
def yLe {α:Type} {f:α->Bool}:∀{A B:List α},(∀x∈A,f x=ar)->(∀x∈B,f x=au)->(A++B).takeWhile f=A/\(A++B).dropWhile f=B
 |[],[],_,_=>⟨rfl,rfl⟩
 |[],b::B,_,h=>by
  have:=h b iS;simp[this]
 |a::A,B,h,h2=>by
  obtain⟨i1,i2⟩:=yLe (A:=A) (B:=B) (λx hx=>h x (jc _ hx)) h2;have:=h a iS;rw[ui,List.takeWhile_cons,List.dropWhile_cons,this];simp[i1,i2]
def qW {b:dq} {Q:List (List Nat)} {s:Int} {r:xV} {o:zK} (h:o∈b.ia Q s r):o.side=s/\o.dm=r.dm:=by
 obtain⟨k,_,rfl⟩:=oe.1 h;exact⟨rfl,rfl⟩
def nS {b:dq} {Q:List (List Nat)} {s:Int} {o:zK} (h:o∈b.im Q s):o.side=s/\∃r∈b.dz s,o∈b.ia Q s r/\o.dm=r.dm:=by
 obtain⟨r,hr,ho⟩:=A8.1 h;exact⟨(qW ho).1,r,hr,ho,(qW ho).2⟩
structure Spl (s p:Int) (R1 R2:List xV):Prop where
 a:∀r∈R1,je s r.dm p=ar
 b:∀r∈R2,je s p r.dm=ar
def z5z {s x y:Int} (h:je s x y=ar):je s y x=au:=by
 rw[je]at h ⊢;split at h
 ·rename_i e;rw[fc e];have:=qp h;exact jt oM
 ·rename_i e;rw[eg e];have:=qp h;exact jt oM
def zXh {s x y z:Int} (h:je s x y=ar) (h2:je s y z=ar):je s x z=ar:=by
 rw[je]at h h2 ⊢;split at h
 ·rename_i e;rw[fc e]at h2 ⊢;have:=qp h;have:=qp h2;exact jk oM
 ·rename_i e;rw[eg e]at h2 ⊢;have:=qp h;have:=qp h2;exact jk oM
def yKw {s x y:Int} (h:je s x y=au) (jr:x≠y):je s y x=ar:=by
 rw[je]at h ⊢;split at h
 ·rename_i e;rw[fc e];have:=LG h;exact jk oM
 ·rename_i e;rw[eg e];have:=LG h;exact jk oM
def zFl {s p:Int} {l:List xV} (hs:l.Pairwise λr r'=>je s r.dm r'.dm=ar):
 (∀r∈l.take (z8 s l p),je s r.dm p=ar)/\
 (if jV s l p=ar then ∃r,l[z8 s l p]? =av r/\r.dm=p/\∀r'∈l.drop (z8 s l p+1),je s p r'.dm=ar
  else ∀r'∈l.drop (z8 s l p),je s p r'.dm=ar):=by
 have e1:l.take (z8 s l p)=l.takeWhile λr=>je s r.dm p:=by
  rw[z8];have h:=Lz (l₁:=l.takeWhile λr=>je s r.dm p) (l₂:=l.dropWhile λr=>je s r.dm p);rwa [xPd]at h
 have e2:l.drop (z8 s l p)=l.dropWhile λr=>je s r.dm p:=by
  have h:=Bb (z8 s l p) l;have h2:=xPd (p:=λr:xV=>je s r.dm p) (l:=l);rw[e1]at h;exact List.append_cancel_left (h.trans h2.symm)
 refine⟨λr hr=> ?_,?_⟩
 ·rw[e1]at hr;exact Eb.1 List.all_takeWhile r hr
 have hd:∀r,l[z8 s l p]? =av r->je s r.dm p=au:=by
  intro r hr;have h0:(l.drop (z8 s l p))[0]? =av r:=by rw[Bs];exact hr
  rw[e2]at h0;cases hdw:l.dropWhile λr=>je s r.dm p with
  |nil=>rw[hdw]at h0;cases h0
  |cons x y=>
   rw[hdw]at h0;cases h0;have:=List.head?_dropWhile_not (λr:xV=>je s r.dm p) l;rw[hdw]at this;simpa using this
 have hpw:∀r r',l[z8 s l p]? =av r->r'∈l.drop (z8 s l p+1)->je s r.dm r'.dm=ar:=by
  intro r r' hr ou;have gn:=(jf.1 hr).1;have:=List.Pairwise.sublist (List.drop_sublist (z8 s l p) l) hs;rw[CD gn,yt,(jf.1 hr).2]at this;exact this.1 r' ou
 split
 ·rename_i hb;rw[jV]at hb;cases hr:l[z8 s l p]? with
  |none=>rw[hr]at hb;cases hb
  |some r=>
   rw[hr]at hb;have hp:r.dm=p:=qp hb;exact⟨r,rfl,hp,λr' ou=>by rw[<- hp];exact hpw r r' hr ou⟩
 ·rename_i hb;intro r' ou;by_cases gn:z8 s l p<l.length
  ·obtain⟨r,hr⟩:=z6 gn;rw[jV,hr]at hb;have hp:¬r.dm=p:=λe=>hb (jk e)
   have h1:=yKw (hd r hr) hp;rw[CD gn,(jf.1 hr).2]at ou;rcases jq.1 ou with rfl|ou
   ·exact h1
   ·exact zXh h1 (hpw r r' hr ou)
  ·rw[Ik (by omega)]at ou;cases ou
def dq.rh (b:dq) (s:Int) (l:List xV):dq:=if s=1 then{b with fm:=l}else{b with ej:=l}
def yEx {b:dq} {s:Int} (hs:s=1\/s=2):∃rest,b.qs.Perm ((b.dz s).map (·.queue)++rest)/\∀l,(b.rh s l).qs.Perm (l.map (·.queue)++rest):=by
 rcases hs with rfl|rfl
 ·refine⟨b.ej.map (·.queue)++b.spare,?_,λl=> ?_⟩
  ·rw[dq.qs,iY];exact .refl _
  ·show(l.map (·.queue)++b.ej.map (·.queue)++b.spare).Perm _
   rw[iY]
 ·refine⟨b.fm.map (·.queue)++b.spare,?_,λl=> ?_⟩
  ·rw[dq.qs];show(b.fm.map (·.queue)++b.ej.map (·.queue)++b.spare).Perm (b.ej.map (·.queue)++(b.fm.map (·.queue)++b.spare))
   rw[<- iY];exact Bu.append_right _
  ·show(b.fm.map (·.queue)++l.map (·.queue)++b.spare).Perm (l.map (·.queue)++(b.fm.map (·.queue)++b.spare))
   rw[<- iY];exact Bu.append_right _
structure AS (b:dq) (Q:List (List Nat)) (s p:Int) (b':dq) (n:Int) (Q':List (List Nat)) (R1 R2:List xV):Prop where
 core:b'.Core Q' n
 dz:b'.dz s=R1++⟨p,n⟩::R2
 kj:Spl s p R1 R2
 flat:b'.flat Q'=b.flat Q
 at_:b'.at_=b.at_
 free:b'.a.free=b.a.free
 fh:∀L,b.BO L->b'.BO L
 dr:∀x,b'.ml x=b.ml x/\b'.iX x=b.iX x
def yOk {α:Type} {l:List α} {x d:α} {n:Nat}:(l++[x]).getD n d=if n=l.length then x else l.getD n d:=by
 rw[oc,oc,List.getElem?_append];split
 ·rw[eg (by omega)]
 ·rename_i h;by_cases e:n=l.length
  ·rw[fc e,e,JF];rfl
  ·rw[eg e,ud (show([x]:List α).length<=n-l.length by simp;omega),ud (by omega)]
def dq.Core.add {b:dq} {Q:List (List Nat)} (c:b.Core Q (-1)) {s p n:Int} (hs:s=1\/s=2) {R1 R2:List xV} (hr:b.dz s=R1++R2) (kj:Spl s p R1 R2) {b':dq} {Q':List (List Nat)}
 (XL:b'.dz s=R1++⟨p,n⟩::R2) (FJ:∀s',s'≠s->s'=1\/s'=2->b'.dz s'=b.dz s') (ta:b'.at_=b.at_) (hw:b'.a.Wf Q') (yo:b'.a.du=b.a.du)
 (hQ:∀k,Q'.getD k []=Q.getD k []) (hn:Q.getD n.toNat []=[]) (aaD:∀q∈b'.qs,0<=q/\q<Q'.length) (qz:b'.qs.Nodup) (Iv:b'.qs.length=Q'.length) (tv:∀q∈b'.spare,Q.getD q.toNat []=[]) (RO:Q'.length<=250):
 b'.Core Q' n/\b'.flat Q'=b.flat Q:=by
 have Mi:∀r,xJ Q' r=xJ Q r:=λr=>hQ _
 have hsa:∀k,b'.a.fb k=b.a.fb k:=λk=>by rw[dv.fb,dv.fb,yo]
 have XS:xJ Q ⟨p,n⟩=[]:=hn;have IN:∀s' r,b'.ia Q' s' r=b.ia Q s' r:=by
  intro s' r;rw[dq.ia,dq.ia,Mi];exact uz λk _=>by rw[vZ,vZ,hsa]
 have XN:∀s' (r:xV),(xJ Q' r).map (uM b'.a s' r.dm)=(xJ Q r).map (uM b.a s' r.dm):=by
  intro s' r;rw[Mi];exact uz λk _=>by rw[uM,uM,hsa]
 have oY:∀s',s'=1\/s'=2->b'.im Q' s'=b.im Q s':=by
  intro s' iK;rw[dq.im,dq.im];by_cases e:s'=s
  ·subst e;rw[XL,hr,yu,yu,vi,xK (λr _=>IN s' r),xK (l:=R2) (λr _=>IN s' r),IN,dq.ia,XS,B9,xi]
  ·rw[FJ s' e iK];exact xK λr _=>IN s' r
 have zj:∀s',s'=1\/s'=2->b'.mg Q' s'=b.mg Q s':=by
  intro s' iK;rw[dq.mg,dq.mg];by_cases e:s'=s
  ·subst e;rw[XL,hr,yu,yu,vi,xK (λr _=>XN s' r),xK (l:=R2) (λr _=>XN s' r),XN,XS,B9,xi]
  ·rw[FJ s' e iK];exact xK λr _=>XN s' r
 have ru:b'.flat Q'=b.flat Q:=by rw[dq.flat,dq.flat,oY 1 (.inl rfl),oY 2 (.inr rfl)]
 refine⟨⟨hw,λs' iK=> ?_,aaD,qz,Iv,λs' iK r ou jr=> ?_,λq hq=>by rw[hQ];exact tv q hq,by rw[ta,zj 1 (.inl rfl),zj 2 (.inr rfl)];exact c.at_,by rw[ru];exact c.ids,RO⟩,ru⟩
 ·by_cases e:s'=s
  ·subst e;have h0:=c.xk s' iK;rw[hr,ak]at h0;rw[XL,ak,yt];refine⟨h0.1,⟨kj.b,h0.2.1⟩,λx hx y hy=> ?_⟩;rcases jq.1 hy with rfl|hy
   ·exact kj.a x hx
   ·exact h0.2.2 x hx y hy
  ·rw[FJ s' e iK];exact c.xk s' iK
 ·rw[Mi];have hold:∀r∈b.dz s',xJ Q r≠[]:=λr hr=>c.ne s' iK r hr λe=>by
   have:=c.uj _ (gX iK hr);omega
  by_cases e:s'=s
  ·subst e;rw[XL]at ou;rcases oK.1 ou with h|h
   ·exact hold r (by rw[hr];exact yl _ h)
   ·rcases jq.1 h with rfl|h
    ·exact absurd rfl jr
    ·exact hold r (by rw[hr];exact zu _ h)
  ·rw[FJ s' e iK]at ou;exact hold r ou
def zRs (b:dq) {s:Int} (hs:s=1\/s=2) (l:List xV):(b.rh s l).dz s=l/\∀s',s'≠s->s'=1\/s'=2->(b.rh s l).dz s'=b.dz s':=by
 rcases hs with rfl|rfl
 ·exact⟨rfl,λs' h h2=>by rcases h2 with rfl|rfl;exact absurd rfl h;rfl⟩
 ·exact⟨rfl,λs' h h2=>by rcases h2 with rfl|rfl;rfl;exact absurd rfl h⟩
def yKp (b:dq) {s p:Int} (hs:s=1\/s=2):b.fw s p=if jV s (b.dz s) p=ar then(b,((b.dz s).getD (z8 s (b.dz s) p) ⟨0,0⟩).queue)else(({b with a:=b.iO.2.2,spare:=b.iO.2.1}:dq).rh s (b.ins s p),b.iO.1):=by
 rcases hs with rfl|rfl<;>rfl
def dq.Core.queue {b:dq} {Q:List (List Nat)} (c:b.Core Q (-1)) (hl:(b.flat Q).length<250) {s:Int} (hs:s=1\/s=2) (p:Int):∃Q' R1 R2,AS b Q s p (b.fw s p).1 (b.fw s p).2 Q' R1 R2:=by
 have tv:=zFl (p:=p) (c.xk s hs);rw[yKp b hs];by_cases hb:jV s (b.dz s) p=ar
 ·rw[fc hb]at tv ⊢;obtain⟨h1,r,hr,hp,h2⟩:=tv;have gn:=(jf.1 hr).1;have er:(⟨p,r.queue⟩:xV)=r:=by rw[<- hp]
  have o5:b.dz s=(b.dz s).take (z8 s (b.dz s) p)++r::(b.dz s).drop (z8 s (b.dz s) p+1):=by
   conv=>lhs;rw[<- Bb (z8 s (b.dz s) p) (b.dz s)]
   rw[CD gn,(jf.1 hr).2]
  refine⟨Q,_,_,⟨⟨c.wf,c.xk,c.uj,c.nd,c.ql,λs' iK r' ou _=>c.ne s' iK r' ou λe=> ?_,c.sp,c.at_,c.ids,c.qb⟩,?_,⟨h1,h2⟩,rfl,rfl,rfl,λ_ h=>h,λ_=>⟨rfl,rfl⟩⟩⟩
  ·have:=c.uj _ (gX iK ou);omega
  ·dsimp only;rw[zY hr,er];exact o5
 ·rw[eg hb]at tv ⊢;obtain⟨h1,h2⟩:=tv;have hr:b.dz s=(b.dz s).take (z8 s (b.dz s) p)++(b.dz s).drop (z8 s (b.dz s) p):=(Bb _ _).symm;obtain⟨g1,g2⟩:=zRs ({b with a:=b.iO.2.2,spare:=b.iO.2.1}:dq) hs (b.ins s p);have fh:∀x,((({b with a:=b.iO.2.2,spare:=b.iO.2.1}:dq).rh s (b.ins s p)).ml x=b.ml x/\(({b with a:=b.iO.2.2,spare:=b.iO.2.1}:dq).rh s (b.ins s p)).iX x=b.iX x):=by
   intro x;rcases hs with rfl|rfl<;>exact⟨rfl,rfl⟩
  have ta:(({b with a:=b.iO.2.2,spare:=b.iO.2.1}:dq).rh s (b.ins s p)).at_=b.at_:=by rcases hs with rfl|rfl<;>rfl
  have ha:(({b with a:=b.iO.2.2,spare:=b.iO.2.1}:dq).rh s (b.ins s p)).a=b.iO.2.2:=by rcases hs with rfl|rfl<;>rfl
  have S7:(({b with a:=b.iO.2.2,spare:=b.iO.2.1}:dq).rh s (b.ins s p)).spare=b.iO.2.1:=by rcases hs with rfl|rfl<;>rfl
  obtain⟨rest,q1,q2⟩:=yEx (b:=({b with a:=b.iO.2.2,spare:=b.iO.2.1}:dq)) hs;have q2:=q2 (b.ins s p);have FK:(({b with a:=b.iO.2.2,spare:=b.iO.2.1}:dq).rh s (b.ins s p)).qs.Perm (b.iO.1::({b with a:=b.iO.2.2,spare:=b.iO.2.1}:dq).qs):=by
   refine q2.trans (.trans ?_ (q1.symm.cons _));rw[<- ui];refine List.Perm.append_right _ ?_;show((b.ins s p).map (·.queue)).Perm (b.iO.1::(b.dz s).map (·.queue))
   conv=>rhs;rw[hr]
   rw[dq.ins,jl,jl,jj];exact mh
  generalize hB:(({b with a:=b.iO.2.2,spare:=b.iO.2.1}:dq).rh s (b.ins s p))=B at*;have fin:∀Q',B.a.Wf Q'->B.a.du=b.a.du->B.a.free=b.a.free->(∀k,Q'.getD k []=Q.getD k [])->Q.getD b.iO.1.toNat []=[]->(∀q∈B.qs,0<=q/\q<Q'.length)->B.qs.Nodup->B.qs.length=Q'.length->(∀q∈B.spare,Q.getD q.toNat []=[])->Q'.length<=250->∃Q' R1 R2,AS b Q s p B b.iO.1 Q' R1 R2:=by
   intro Q' w1 w2 w3 w4 w5 w6 w7 w8 w9 w10;obtain⟨u1,u2⟩:=c.add hs hr ⟨h1,h2⟩ (b':=B) (Q':=Q') (n:=b.iO.1) (by rw[g1];rfl) g2 ta w1 w2 w4 w5 w6 w7 w8 w9 w10;refine⟨Q',_,_,⟨u1,g1.trans rfl,⟨h1,h2⟩,u2,ta,w3,λL h=>⟨λo ho=> ?_,λs' iK hh=> ?_⟩,fh⟩⟩
   ·rw[(fh o.side).1,(fh o.side).2];exact h.fl o ho
   ·rw[(fh s').1]at hh;rw[(fh s').2];exact h.th s' iK hh
  by_cases he:b.spare.length=0
  ·have FM:b.iO=((b.a.dy.length:Int),b.spare,b.a.rq):=by rw[dq.iO,fc he]
   have Iv:=c.wf.ql;have aaB:b.spare=[]:=xu he;have CQ:B.qs.Perm ((Q.length:Int)::b.qs):=by
    rw[FM]at FK;rw[<- Iv];exact FK
   refine fin (Q++[[]]) (by rw[ha,FM];exact c.wf.open) (by rw[ha,FM];rfl) (by rw[ha,FM];rfl) (λk=> ?_) ?_ (λq hq=> ?_) ?_ ?_ (λq hq=> ?_) ?_
   ·rw[yOk];split
    ·rename_i e;rw[e,oc,ud (lh _)];rfl
    ·rfl
   ·rw[FM,oc,ud (by dsimp only;omega)];rfl
   ·rw[iv];rcases jq.1 (CQ.mem_iff.1 hq)with rfl|hq
    ·simp only[Ba];omega
    ·have:=c.uj q hq;simp only[Ba];omega
   ·refine CQ.nodup_iff.2 (yk.2 ⟨λhm=> ?_,c.nd⟩);have:=c.uj _ hm;omega
   ·rw[CQ.length_eq,iC,iv,c.ql];rfl
   ·rw[S7,FM]at hq;rw[aaB]at hq;cases hq
   ·have h1:=z8v (l:=b.dz 1) (f:=b.ia Q 1) λr hr e=>c.ne 1 (.inl rfl) r hr (λe2=>by have:=c.uj _ (gX (.inl rfl) hr);omega) (List.map_eq_nil_iff.1 e)
    have h2:=z8v (l:=b.dz 2) (f:=b.ia Q 2) λr hr e=>c.ne 2 (.inr rfl) r hr (λe2=>by have:=c.uj _ (gX (.inr rfl) hr);omega) (List.map_eq_nil_iff.1 e)
    have h3:=c.ql;rw[dq.flat,iv,dq.im,dq.im]at hl;rw[dq.qs,iv,iv,gy,gy,he]at h3;rw[eQ]at h1 hl;rw[l8]at h2 hl;rw[iv,Ba];omega
  ·have FM:b.iO=(b.spare.getD (b.spare.length-1) 0,b.spare.take (b.spare.length-1),b.a):=by rw[dq.iO,eg he]
   obtain⟨sp,q,IM⟩:∃sp q,b.spare=sp++[q]:=⟨_,_,(List.dropLast_concat_getLast (l:=b.spare) (by intro e;rw[e]at he;exact he rfl)).symm⟩
   have e1:b.iO=(q,sp,b.a):=by
    rw[FM,IM];simp
   have CQ:B.qs.Perm b.qs:=by
    refine FK.trans ?_;rw[e1];show(q::(b.fm.map (·.queue)++b.ej.map (·.queue)++sp)).Perm (b.fm.map (·.queue)++b.ej.map (·.queue)++b.spare)
    rw[IM,<- iY];exact Rs q _|>.symm
   have hq0:q∈b.spare:=by rw[IM];simp
   refine fin Q (by rw[ha,e1];exact c.wf) (by rw[ha,e1]) (by rw[ha,e1]) (λ_=>rfl) (by rw[e1];exact c.sp q hq0) (λq hq=>c.uj q (CQ.mem_iff.1 hq)) (CQ.nodup_iff.2 c.nd) (by rw[CQ.length_eq];exact c.ql) (λq' XM=> ?_) c.qb;rw[S7,e1]at XM;exact c.sp q' (by rw[IM];exact yl _ XM)
def dq.Core.used {b:dq} {Q:List (List Nat)} (c:b.Core Q (-1)) (hl:(b.flat Q).length<250):b.a.free≠0:=by
 intro hf;have BA:=c.wf.free;rw[hf]at BA;have hz:(b.a.du.map (·.used)).countP (!·)=0:=by omega
 rw[List.countP_eq_zero]at hz;have wk:∀k∈ag 250,k∈((b.dz 1).flatMap (xJ Q)++(b.dz 2).flatMap (xJ Q)):=by
  intro k hk;have hk:=CB.1 hk;obtain⟨s,hs⟩:=z6 (l:=b.a.du) (i:=k) (by rw[c.wf.len];exact hk);have hu:s.used=ar:=by
   have:=hz s.used (rz (ku hs));simpa using this
  obtain⟨n,l,hn,o6⟩:=c.wf.us k s hs hu;have FO:=(jf.1 hn).1;have hm:(n:Int)∈b.qs:=yIj c.nd (λx hx=>by rw[c.ql];exact c.uj x hx) (by rw[c.ql];exact FO);have e:∀r:xV,r.queue=(n:Int)->k∈xJ Q r:=by
   intro r hr;rw[xJ,hr,om,zY hn];exact o6
  rw[dq.qs]at hm;rcases oK.1 hm with hm|hm
  ·rcases oK.1 hm with hm|hm
   ·obtain⟨r,hr,er⟩:=oe.1 hm;exact yl _ (A8.2 ⟨r,hr,e r er⟩)
   ·obtain⟨r,hr,er⟩:=oe.1 hm;exact zu _ (A8.2 ⟨r,hr,e r er⟩)
  ·have:=c.sp _ hm;rw[om,zY hn]at this;rw[this]at o6;cases o6
 have h1:=Z1 List.nodup_range wk;have e:∀s,(b.im Q s).length=((b.dz s).flatMap (xJ Q)).length:=by
  intro s;rw[dq.im,N5,N5];congr 1;exact uz λr _=>by rw[dq.ia,gy]
 rw[iv,<- e,<- e,ao]at h1;rw[dq.flat,iv]at hl;omega
def z0f {s p:Int} {o:zK} (h:o.side≠s) (gn:o.side=1\/o.side=2) (hs:s=1\/s=2):before s p o=decide (s=2):=by
 rw[before,jt h,Da,Bool.or_false];rcases hs with rfl|rfl
 ·rw[jt (by omega),jt (by omega)]
 ·rw[jk (by omega),jk rfl]
def AS.put {b:dq} {Q:List (List Nat)} {s p:Int} {b':dq} {n:Int} {Q':List (List Nat)} {R1 R2:List xV} (h:AS b Q s p b' n Q' R1 R2) (hs:s=1\/s=2) {id dr:Int} (top:Bool) (Bf:id∉(b.flat Q).map (·.id)) (hf:b.a.free≠0) (hq:1<=dr/\dr<=1000000):
 ∃Q3 A B,({b' with a:=(b'.a.push n id dr top).1,at_:=tF id ⟨s,p,(b'.a.push n id dr top).2.1⟩ b'.at_}:dq).Core Q3 (-1)/\b'.flat Q'=A++B/\
  ({b' with a:=(b'.a.push n id dr top).1,at_:=tF id ⟨s,p,(b'.a.push n id dr top).2.1⟩ b'.at_}:dq).flat Q3=A++⟨id,s,p,dr,top⟩::B/\(∀o∈A,before s p o=ar)/\∀o∈B,before s p o=au:=by
 have c:=h.core;have It:(⟨p,n⟩:xV)∈b'.dz s:=by rw[h.dz];simp
 have hnr:0<=n/\n<Q'.length:=c.uj n (gX hs It);obtain⟨m,rfl⟩:∃m:Nat,n=m:=⟨n.toNat,oM⟩
 have hl:Q'[m]? =av (xJ Q' ⟨p,m⟩):=z5w (r:=⟨p,m⟩) hnr;obtain⟨k,k1,k2,k3,k4,kw,S1,aa1⟩:=c.wf.put (id:=id) hl (by rw[h.free];exact hf) top hq;have TV:b'.a.push m id dr top=(b'.a.put m id dr top,(k:Int),0):=by
  have:=c.wf.ql;rw[dv.push,eg (by omega),eg (by omega),eg (by rw[h.free];exact hf),k1]
 rw[TV];dsimp only;have hmQ:=(jf.1 hl).1;have FL:∀s' (r:xV),(s'=1\/s'=2)->r∈b'.dz s'->(r.queue=m->s'=s/\r=⟨p,m⟩):=by
  intro s' r iK hr e;obtain⟨rest,q1,_⟩:=yEx (b:=b') hs;have qz:=q1.nodup_iff.1 c.nd;rw[h.dz,jl,jj]at qz;by_cases es:s'=s
  ·subst es;refine⟨rfl,?_⟩;rw[h.dz]at hr;have S':=(Ap.1 qz).1;rcases oK.1 hr with hr|hr
   ·exact absurd e ((Ap.1 S').2.2 r.queue (rz (f:=(·.queue)) hr) m iS)
   ·rcases jq.1 hr with rfl|hr
    ·rfl
    ·have:=(yk.1 (Ap.1 S').2.1).1;exact absurd (e▸rz (f:=(·.queue)) hr) this
  ·exfalso;have BA:=c.nd;rw[dq.qs]at BA;have Ta:=(Ap.1 (Ap.1 BA).1).2.2;have ha:(m:Int)∈(b'.dz s).map (·.queue):=oe.2 ⟨_,It,rfl⟩
   have hb:(m:Int)∈(b'.dz s').map (·.queue):=oe.2 ⟨r,hr,e⟩
   rcases hs with rfl|rfl<;>rcases iK with rfl|rfl
   ·exact es rfl
   ·exact Ta _ ha _ hb rfl
   ·exact Ta _ hb _ ha rfl
   ·exact es rfl
 have zg:xJ (Q'.set m (xJ Q' ⟨p,m⟩++[k])) ⟨p,m⟩=xJ Q' ⟨p,m⟩++[k]:=by
  show(Q'.set m _).getD (Int.toNat (m:Int)) []=_;rw[om];exact zY (dZ hmQ)
 have zf:∀q:Int,0<=q->q≠m->(Q'.set m (xJ Q' ⟨p,m⟩++[k])).getD q.toNat []=Q'.getD q.toNat []:=by
  intro q h0 jr;rw[oc,uV (by omega),oc]
 generalize hQ3:Q'.set m (xJ Q' ⟨p,m⟩++[k])=Q3 at*;have J5:Q3.length=Q'.length:=by rw[<- hQ3,qm]
 have aa8:=m9;have AJ:∀s' (r:xV),(s'=1\/s'=2)->r∈b'.dz s'->∀j∈xJ Q' r,j≠k/\(vZ (b'.a.put m id dr top) s' r.dm j=vZ b'.a s' r.dm j/\uM (b'.a.put m id dr top) s' r.dm j=uM b'.a s' r.dm j):=by
  intro s' r iK hr j hj;have R8:j≠k:=by rintro rfl;exact k4 _ _ (c.get iK hr) hj
  have:=S1 j;rw[eg R8]at this;refine⟨R8,by rw[vZ,vZ,this],?_⟩;have:=congrArg Ek.id this;rw[uM,uM];exact congrArg (λi=>(i,(⟨s',r.dm,j⟩:Place))) this
 have HF:∀s' (r:xV),(s'=1\/s'=2)->r∈b'.dz s'->r.queue≠m->xJ Q3 r=xJ Q' r:=by
  intro s' r iK hr jr;exact zf _ (c.uj _ (gX iK hr)).1 jr
 generalize hB:({b' with a:=b'.a.put m id dr top,at_:=tF id ⟨s,p,k⟩ b'.at_}:dq)=B3;have So:∀s',B3.dz s'=b'.dz s':=by intro s';rw[<- hB];rfl
 have Sp:B3.a=b'.a.put m id dr top:=by rw[<- hB]
 have aaU:B3.at_=tF id ⟨s,p,k⟩ b'.at_:=by rw[<- hB]
 have Mv:B3.qs=b'.qs:=by rw[<- hB];rfl
 have aaT:B3.spare=b'.spare:=by rw[<- hB]
 have FJ:∀s' (r:xV),(s'=1\/s'=2)->r∈b'.dz s'->r.queue≠m->B3.ia Q3 s' r=b'.ia Q' s' r/\(xJ Q3 r).map (uM B3.a s' r.dm)=(xJ Q' r).map (uM b'.a s' r.dm):=by
  intro s' r iK hr jr;rw[dq.ia,dq.ia,HF s' r iK hr jr,Sp];exact⟨uz λj hj=>(AJ s' r iK hr j hj).2.1,uz λj hj=>(AJ s' r iK hr j hj).2.2⟩
 have IQ:vZ B3.a s p k=⟨id,s,p,dr,top⟩/\uM B3.a s p k=(id,⟨s,p,k⟩):=by
  have:=S1 k;rw[fc rfl]at this;rw[vZ,Sp,this];refine⟨rfl,?_⟩;have:=congrArg Ek.id this;rw[uM];exact congrArg (λi=>(i,(⟨s,p,k⟩:Place))) this
 have S8:B3.ia Q3 s ⟨p,m⟩=b'.ia Q' s ⟨p,m⟩++[⟨id,s,p,dr,top⟩]/\(xJ Q3 ⟨p,m⟩).map (uM B3.a s p)=(xJ Q' ⟨p,m⟩).map (uM b'.a s p)++[(id,⟨s,p,k⟩)]:=by
  rw[dq.ia,dq.ia,zg,jl,jl,am,am];refine⟨?_,?_⟩
  ·rw[IQ.1,uz (g:=vZ b'.a s p) λj hj=>by rw[Sp];exact(AJ s ⟨p,m⟩ hs It j hj).2.1]
  ·rw[IQ.2,uz (g:=uM b'.a s p) λj hj=>by rw[Sp];exact(AJ s ⟨p,m⟩ hs It j hj).2.2]
 have XY:∀r∈R1,r∈b'.dz s/\r.queue≠m:=by
  intro r hr;have hm:r∈b'.dz s:=by rw[h.dz];exact yl _ hr
  refine⟨hm,λe=> ?_⟩;have e2:=(FL s r hs hm e).2;have:=h.kj.a r hr;rw[e2,NC]at this;cases this
 have OE:∀r∈R2,r∈b'.dz s/\r.queue≠m:=by
  intro r hr;have hm:r∈b'.dz s:=by rw[h.dz];exact zu _ (jc _ hr)
  refine⟨hm,λe=> ?_⟩;have e2:=(FL s r hs hm e).2;have:=h.kj.b r hr;rw[e2,NC]at this;cases this
 have zE:B3.im Q3 s=(R1.flatMap (b'.ia Q' s)++b'.ia Q' s ⟨p,m⟩)++⟨id,s,p,dr,top⟩::R2.flatMap (b'.ia Q' s):=by
  rw[dq.im,So,h.dz,yu,vi,S8.1,xK (l:=R1) (λr hr=>(FJ s r hs (XY r hr).1 (XY r hr).2).1),xK (l:=R2) (λr hr=>(FJ s r hs (OE r hr).1 (OE r hr).2).1)];simp
 have Kj:b'.im Q' s=(R1.flatMap (b'.ia Q' s)++b'.ia Q' s ⟨p,m⟩)++R2.flatMap (b'.ia Q' s):=by
  rw[dq.im,h.dz,yu,vi,iY]
 have SQ:(B3.mg Q3 s).Perm ((id,⟨s,p,k⟩)::b'.mg Q' s):=by
  rw[dq.mg,So,h.dz,yu,vi,S8.2,xK (l:=R1) (λr hr=>(FJ s r hs (XY r hr).1 (XY r hr).2).2),xK (l:=R2) (λr hr=>(FJ s r hs (OE r hr).1 (OE r hr).2).2),dq.mg,h.dz,yu,vi];rw[iY,List.singleton_append,<- iY];refine mh.trans ?_;rw[iY]
 have other:∀s',s'≠s->s'=1\/s'=2->B3.im Q3 s'=b'.im Q' s'/\B3.mg Q3 s'=b'.mg Q' s':=by
  intro s' jr iK;have IS:∀r∈b'.dz s',r.queue≠m:=λr hr e=>jr (FL s' r iK hr e).1
  rw[dq.im,dq.im,dq.mg,dq.mg,So];exact⟨xK λr hr=>(FJ s' r iK hr (IS r hr)).1,xK λr hr=>(FJ s' r iK hr (IS r hr)).2⟩
 have bA:∀o∈R1.flatMap (b'.ia Q' s)++b'.ia Q' s ⟨p,m⟩,before s p o=ar:=by
  intro o ho;rcases oK.1 ho with ho|ho
  ·obtain⟨r,hr,ho⟩:=A8.1 ho;obtain⟨e1,e2⟩:=qW ho;rw[before,e1,e2,z5z (h.kj.a r hr)];simp
  ·obtain⟨e1,e2⟩:=qW ho;rw[before,e1,e2,NC];simp
 have bB:∀o∈R2.flatMap (b'.ia Q' s),before s p o=au:=by
  intro o ho;obtain⟨r,hr,ho⟩:=A8.1 ho;obtain⟨e1,e2⟩:=qW ho;rw[before,e1,e2,h.kj.b r hr];simp
 have bO:∀s',s'≠s->s'=1\/s'=2->∀o∈b'.im Q' s',before s p o=decide (s=2):=by
  intro s' jr iK o ho;have:=(nS ho).1;exact z0f oM oM hs
 have Uc:∃A B,b'.flat Q'=A++B/\B3.flat Q3=A++⟨id,s,p,dr,top⟩::B/\(∀o∈A,before s p o=ar)/\∀o∈B,before s p o=au:=by
  rcases hs with rfl|rfl
  ·refine⟨_,R2.flatMap (b'.ia Q' 1)++b'.im Q' 2,?_,?_,bA,λo ho=> ?_⟩
   ·rw[dq.flat,Kj];simp only[iY]
   ·rw[dq.flat,zE,(other 2 (by decide) (.inr rfl)).1];simp only[iY,ui]
   ·rcases oK.1 ho with ho|ho
    ·exact bB o ho
    ·exact bO 2 Z8 (.inr rfl) o ho
  ·refine⟨b'.im Q' 1++(R1.flatMap (b'.ia Q' 2)++b'.ia Q' 2 ⟨p,m⟩),R2.flatMap (b'.ia Q' 2),?_,?_,λo ho=> ?_,bB⟩
   ·rw[dq.flat,Kj];simp only[iY]
   ·rw[dq.flat,zE,(other 1 (by decide) (.inl rfl)).1];simp only[iY]
   ·rcases oK.1 ho with ho|ho
    ·exact bO 1 Z8 (.inl rfl) o ho
    ·exact bA o ho
 obtain⟨A,B,f1,f2,f3,f4⟩:=Uc;refine⟨Q3,A,B,⟨by rw[Sp];exact kw,λs' iK=>by rw[So];exact c.xk s' iK,by rw[Mv,J5];exact c.uj,by rw[Mv];exact c.nd,by rw[Mv,J5];exact c.ql,λs' iK r hr _=> ?_,λq hq=> ?_,?_,?_,by rw[J5];exact c.qb⟩,f1,f2,f3,f4⟩
 ·rw[So]at hr;by_cases e:r.queue=m
  ·obtain⟨rfl,rfl⟩:=FL s' r iK hr e;rw[zg];simp
  ·rw[HF s' r iK hr e];exact c.ne s' iK r hr e
 ·rw[aaT]at hq;have Ow:q∈b'.qs:=zu _ hq;rw[zf q (c.uj q Ow).1 λe=> ?_]
  ·exact c.sp q hq
  ·have BA:=c.nd;rw[dq.qs]at BA;refine(Ap.1 BA).2.2 m ?_ q hq e.symm;rcases hs with rfl|rfl
   ·exact yl _ (oe.2 ⟨_,It,rfl⟩)
   ·exact zu _ (oe.2 ⟨_,It,rfl⟩)
 ·have Iw:id∉b'.at_.map (·.1):=by
   rw[c.Ab.mem_iff,h.flat];exact Bf
  rw[aaU,z3c Iw];refine(Rs _ _).trans ?_;rcases hs with rfl|rfl
  ·rw[(other 2 (by decide) (.inr rfl)).2];exact(c.at_.cons _).trans (SQ.symm.append_right _)
  ·rw[(other 1 (by decide) (.inl rfl)).2];refine(c.at_.cons _).trans ?_;refine(mh.symm).trans (SQ.symm.append_left _)
 ·rw[f2,jl,jj];have h1:=c.ids;rw[f1,jl]at h1;have h2:id∉(A++B).map (·.id):=by rw[<- f1,h.flat];exact Bf
  refine mh.nodup_iff.2 (yk.2 ⟨by rw[jl]at h2;exact h2,h1⟩)
def vK (L:List zK) (id:Int):Bool:=L.any λo=>decide (o.id=id)
def ED (L:List zK) (s id p q:Int):List zK×Int:=if q<1\/1000000<q then(L,24)else if vK L id=ar then(L,25)else if 250<=L.length then(L,13)else(HU L s id p q,0)
def kh {L:List zK} {id:Int}:vK L id=ar↔id∈L.map (·.id):=by
 rw[vK,List.any_eq_true,oe];constructor
 ·rintro⟨o,ho,e⟩;exact⟨o,ho,qp e⟩
 ·rintro⟨o,ho,e⟩;exact⟨o,ho,jk e⟩
def sO {b:dq} {Q:List (List Nat)} {o:zK} (h:o∈b.flat Q):(o.side=1\/o.side=2)/\∃r∈b.dz o.side,o∈b.ia Q o.side r/\o.dm=r.dm:=by
 rcases oK.1 h with h|h
 all_goals
  obtain⟨e,r,hr,ho,hp⟩:=nS h;rw[e];exact⟨by simp,r,hr,ho,hp⟩
def B5 {b:dq} {Q:List (List Nat)} {s:Int} (hs:s=1\/s=2) {o:zK} (h:o∈b.im Q s):o∈b.flat Q:=by
 rcases hs with rfl|rfl
 ·exact yl _ h
 ·exact zu _ h
def dq.Core.leads {b:dq} {Q:List (List Nat)} (c:b.Core Q (-1)) {s:Int} (hs:s=1\/s=2) (p:Int):b.leads s p=fS (b.flat Q) s p:=by
 have S6:=c.xk s hs;have jr:=c.ne s hs;rw[dq.leads];cases hr:b.dz s with
 |nil=>
  symm;dsimp only;rw[fS,Eb];intro o ho;obtain⟨_,r,xo,_⟩:=sO ho;by_cases e:o.side=s
  ·rw[e,hr]at xo;cases xo
  ·rw[jt e];rfl
 |cons r0 l=>
  dsimp only;rw[hr,yt]at S6;have hm:r0∈b.dz s:=by rw[hr];exact iS
  cases hb:je s p r0.dm with
  |true=>
   symm;rw[fS,Eb];intro o ho;obtain⟨_,r,xo,_,hp⟩:=sO ho;by_cases e:o.side=s
   ·rw[e,hr]at xo;rw[hp];rcases jq.1 xo with rfl|xo
    ·rw[hb];simp
    ·rw[zXh hb (S6.1 r xo)];simp
   ·rw[jt e];rfl
  |false=>
   symm;rw[fS,List.all_eq_false];have h0:=jr r0 hm λe=>by have:=c.uj _ (gX hs hm);omega
   cases hk:xJ Q r0 with
   |nil=>exact absurd hk h0
   |cons k ks=>
    refine⟨vZ b.a s r0.dm k,B5 hs (A8.2 ⟨r0,hm,by rw[dq.ia,hk];exact iS⟩),?_⟩;show ¬((!decide (s=s))||je s p r0.dm)=ar;rw[hb];simp
def yCy {L:List zK} {s:Int} {o:zK} (h:o∈Dy L s):∃o'∈L,o.id=o'.id/\o.side=o'.side/\o.dm=o'.dm/\o.dr=o'.dr/\o.top=(if o.side=s then au else o'.top):=by
 obtain⟨o',ho,e⟩:=oe.1 h;refine⟨o',ho,?_⟩;by_cases c:o'.side=s
 ·rw[fc c]at e;subst e;exact(mn ((fc c).symm))
 ·rw[eg c]at e;subst e;exact(mn ((eg c).symm))
def yXp {L:List zK} {s:Int} {o:zK} (h:o∈L) (hs:o.side≠s):o∈Dy L s:=oe.2 ⟨o,h,eg hs⟩
def yDr (L:List zK) (s:Int):(Dy L s).map (·.id)=L.map (·.id):=by
 rw[Dy,vy];refine uz λo _=> ?_
 simp only[Function.comp];split<;>rfl
def z2u (b:dq) (id:Int) {s:Int} (hs:s=1\/s=2):(b.jd id s).a=b.iQ s/\(b.jd id s).fm=b.fm/\(b.jd id s).ej=b.ej/\(b.jd id s).at_=b.at_/\(b.jd id s).spare=b.spare/\∀s',s'=1\/s'=2->(b.jd id s).ml s'=(if s'=s then ar else b.ml s')/\(b.jd id s).iX s'=(if s'=s then id else b.iX s'):=by
 rcases hs with rfl|rfl
 ·exact(tg (λs' h=>by rcases h with rfl|rfl<;>exact⟨rfl,rfl⟩))
 ·exact(tg (λs' h=>by rcases h with rfl|rfl<;>exact⟨rfl,rfl⟩))
def dq.Core.lr {b b':dq} {Q:List (List Nat)} {h:Int} (c:b.Core Q h) (e1:b'.a=b.a) (e2:b'.fm=b.fm) (e3:b'.ej=b.ej) (e4:b'.at_=b.at_) (e5:b'.spare=b.spare):b'.Core Q h/\b'.flat Q=b.flat Q:=by
 have er:∀s,b'.dz s=b.dz s:=λs=>by rw[dq.dz,dq.dz,e2,e3]
 have eo:∀s r,b'.ia Q s r=b.ia Q s r:=λs r=>by rw[dq.ia,dq.ia,e1]
 have es:∀s,b'.im Q s=b.im Q s:=λs=>by rw[dq.im,dq.im,er];exact xK λr _=>eo s r
 have ep:∀s,b'.mg Q s=b.mg Q s:=λs=>by rw[dq.mg,dq.mg,er,e1]
 have ef:b'.flat Q=b.flat Q:=by rw[dq.flat,dq.flat,es,es]
 have eq:b'.qs=b.qs:=by rw[dq.qs,dq.qs,e2,e3,e5]
 exact⟨⟨by rw[e1];exact c.wf,λs hs=>by rw[er];exact c.xk s hs,by rw[eq];exact c.uj,by rw[eq];exact c.nd,by rw[eq];exact c.ql,λs hs=>by rw[er];exact c.ne s hs,by rw[e5];exact c.sp,by rw[e4,ep,ep];exact c.at_,by rw[ef];exact c.ids,c.qb⟩,ef⟩
def dq.fv.pn {b:dq} {L:List zK} (h:b.fv L) {s:Int} (hs:s=1\/s=2) {id p q:Int} (Bf:id∉L.map (·.id)) (hl:L.length<250) (hq:1<=q/\q<=1000000):(b.pn s id p q).fv (HU L s id p q):=by
 obtain⟨Q,c,ht,rfl⟩:=h;have RY:=c.leads hs p;have h1:(b.qq id s p).Core Q (-1)/\(b.qq id s p).flat Q=(if fS (b.flat Q) s p=ar then Dy (b.flat Q) s else b.flat Q):=by
  rw[dq.qq,RY];split
  ·obtain⟨e1,e2,e3,e4,e5,_⟩:=z2u b id hs;obtain⟨u1,u2⟩:=c.iQ s;obtain⟨v1,v2⟩:=dq.Core.lr (b':=b.jd id s) (c.flag u1 u2) e1 e2 e3 e4 e5;exact⟨v1,v2.trans (c.C4 ht hs)⟩
  ·exact⟨c,rfl⟩
 obtain⟨c1,f1⟩:=h1;have KI:((b.qq id s p).flat Q).length<250:=by
  rw[f1];split
  ·rw[Dy,gy];exact hl
  ·exact hl
 have aaN:id∉((b.qq id s p).flat Q).map (·.id):=by
  rw[f1];split
  ·rw[yDr];exact Bf
  ·exact Bf
 obtain⟨Q',R1,R2,FL⟩:=c1.queue KI hs p;obtain⟨Q3,A,B,k1,k2,k3,k4,k5⟩:=FL.put hs (b.leads s p) aaN (c1.used KI) hq;have L5:A++B=(if fS (b.flat Q) s p=ar then Dy (b.flat Q) s else b.flat Q):=by rw[<- k2,FL.flat,f1]
 have BM:HU (b.flat Q) s id p q=A++⟨id,s,p,q,b.leads s p⟩::B:=by
  rw[HU];obtain⟨t1,t2⟩:=yLe k4 k5;rw[<- L5,t1,t2,RY]
 refine⟨Q3,k1,?_,?_⟩
 ·rw[BM,RY];show dq.BO {((b.qq id s p).fw s p).1 with a:=_,at_:=_} _;have si:∀x,({((b.qq id s p).fw s p).1 with a:=(((b.qq id s p).fw s p).1.a.push ((b.qq id s p).fw s p).2 id q (b.leads s p)).1,at_:=tF id ⟨s,p,(((b.qq id s p).fw s p).1.a.push ((b.qq id s p).fw s p).2 id q (b.leads s p)).2.1⟩ ((b.qq id s p).fw s p).1.at_}:dq).ml x=(b.qq id s p).ml x/\({((b.qq id s p).fw s p).1 with a:=(((b.qq id s p).fw s p).1.a.push ((b.qq id s p).fw s p).2 id q (b.leads s p)).1,at_:=tF id ⟨s,p,(((b.qq id s p).fw s p).1.a.push ((b.qq id s p).fw s p).2 id q (b.leads s p)).2.1⟩ ((b.qq id s p).fw s p).1.at_}:dq).iX x=(b.qq id s p).iX x:=FL.dr;generalize ({((b.qq id s p).fw s p).1 with a:=(((b.qq id s p).fw s p).1.a.push ((b.qq id s p).fw s p).2 id q (b.leads s p)).1,at_:=tF id ⟨s,p,(((b.qq id s p).fw s p).1.a.push ((b.qq id s p).fw s p).2 id q (b.leads s p)).2.1⟩ ((b.qq id s p).fw s p).1.at_}:dq)=B3 at*;have RA:∀o,o∈A++⟨id,s,p,q,fS (b.flat Q) s p⟩::B↔o=⟨id,s,p,q,fS (b.flat Q) s p⟩\/o∈A++B:=by
   intro o;rw[oK,jq,oK];constructor
   ·rintro(h|h|h)
    ·exact .inr (.inl h)
    ·exact .inl h
    ·exact .inr (.inr h)
   ·rintro(h|h|h)
    ·exact .inr (.inl h)
    ·exact .inl h
    ·exact .inr (.inr h)
  have EU:∀o∈b.flat Q,o.side=1\/o.side=2:=λo ho=>(sO ho).1
  by_cases Ac:fS (b.flat Q) s p=ar
  ·rw[fc Ac]at L5;have qc:b.qq id s p=b.jd id s:=by rw[dq.qq,fc (RY.trans Ac)]
   obtain⟨_,_,_,_,_,e6⟩:=z2u b id hs;rw[qc]at si;refine⟨λo ho=> ?_,λs' iK hh=> ?_⟩
   ·rcases(RA o).1 ho with rfl|ho
    ·rw[(si s).1,(si s).2,(e6 s hs).1,(e6 s hs).2,fc rfl,fc rfl,Ac];simp
    ·rw[L5]at ho;obtain⟨o',oG,i1,i2,_,_,i5⟩:=yCy ho;rw[(si _).1,(si _).2,i5,(e6 o.side (by rw[i2];exact EU o' oG)).1,(e6 o.side (by rw[i2];exact EU o' oG)).2];by_cases e:o.side=s
     ·rw[fc e,fc e,fc e,Ao];symm;refine jt λe2=>Bf ?_
      rw[<- e2,i1];exact rz oG
     ·rw[eg e,eg e,eg e,ht.fl o' oG,i1,i2]
   ·rw[(si s').2,(e6 s' iK).2];by_cases e:s'=s
    ·rw[fc e];exact⟨_,(RA _).2 (.inl rfl),e.symm,rfl⟩
    ·rw[(si s').1,(e6 s' iK).1,eg e]at hh;rw[eg e];obtain⟨o,ho,o1,o2⟩:=ht.th s' iK hh;exact⟨o,(RA _).2 (.inr (by rw[L5];exact yXp ho (by rw[o1];exact e))),o1,o2⟩
  ·rw[eg Ac]at L5;have hlf:fS (b.flat Q) s p=au:=by simpa using Ac
   have qc:b.qq id s p=b:=by rw[dq.qq,eg (by rw[RY];exact Ac)]
   rw[qc]at si;refine⟨λo ho=> ?_,λs' iK hh=> ?_⟩
   ·rw[(si _).1,(si _).2];rcases(RA o).1 ho with rfl|ho
    ·show fS (b.flat Q) s p=(b.ml s && decide (id=b.iX s));rw[hlf];cases hh:b.ml s with
     |false=>rfl
     |true=>
      rw[Ao];symm;refine jt λe2=>Bf ?_
      obtain⟨o,ho,_,o2⟩:=ht.th s hs hh;rw[e2,<- o2];exact rz ho
    ·rw[L5]at ho;exact ht.fl o ho
   ·rw[(si s').1]at hh;rw[(si s').2];obtain⟨o,ho,o1,o2⟩:=ht.th s' iK hh;exact⟨o,(RA _).2 (.inr (by rw[L5];exact ho)),o1,o2⟩
 ·rw[BM];exact k3.symm
def dq.fv.km {b:dq} {L:List zK} (h:b.fv L) (id:Int):(km b.at_ id).isSome=vK L id:=by
 obtain⟨Q,c,ht,rfl⟩:=h;cases hg:Sx.km b.at_ id with
 |none=>
  have:=zLt hg;rw[c.Ab.mem_iff,<- kh]at this;symm;simpa using this
 |some x=>
  have:=rz (f:=(·.1)) (Pu hg)
  rw[c.Ab.mem_iff,<- kh]at this;symm;exact this
def dq.fv.len {b:dq} {L:List zK} (h:b.fv L):b.at_.length=L.length:=by
 obtain⟨Q,c,ht,rfl⟩:=h;exact c.len
def dq.fv.add {b:dq} {L:List zK} (h:b.fv L) {s:Int} (hs:s=1\/s=2) (id p q:Int):(b.iz s id p q).1.fv (ED L s id p q).1/\(b.iz s id p q).2=(ED L s id p q).2:=by
 rw[dq.iz,ED,h.km,h.len]
 repeat' split
 all_goals first|exact⟨h,rfl⟩|skip
 rename_i c1 c2 c3;exact⟨h.pn hs (λe=>c2 (kh.2 e)) oM oM,rfl⟩
def yIa:nu.fv []:=by
 refine⟨[],⟨⟨⟨by simp[nu,O8],rfl,λn l h=>by simp at h,λn l h=>by simp at h,λn l h=>by simp at h,λk s hk hu=> ?_,?_⟩,λn l h=>by simp at h⟩,λs hs=> ?_,λq hq=>by simp[nu,dq.qs]at hq,by simp[nu,dq.qs],rfl,λs hs r hr=> ?_,λq hq=>by simp[nu]at hq,?_,?_,Z8⟩,⟨λo ho=>(by cases ho),λs hs hh=> ?_⟩,?_⟩
 ·have:=ku hk;rw[Rp this]at hu;cases hu
 ·decide
 ·rcases hs with rfl|rfl<;>exact List.Pairwise.nil
 ·rcases hs with rfl|rfl<;>cases hr
 ·exact List.Perm.refl _
 ·exact NV
 ·rcases hs with rfl|rfl<;>cases hh
 ·rfl
structure Ff where
 b:dq
 s:Int
 r:xV
 l:List Nat
def Ff.ox (i:Ff):List zK:=(i.b.a.fu i.l).map λe=>⟨e.id,i.s,i.r.dm,e.dr,e.top⟩
def DU:fy:=fi Ff (λi=>[.nm 0 0,zB i.s,.agg [zB i.r.dm,zB i.r.queue]]) (λi=>[yE i.b]) (λi=>i.b.a.pz i.r.queue i.l) (λ_=> .own 1) (λi=>[yE i.b,.own 258 5 (i.ox.map uA)])
def yWr (i:Ff):List gm:=[{ι:=Nat,du:=λj=>[(7,.own 0),(18,zB j)],rows:=λj=>[.own 258 5 ((i.ox.take j).map uA)]}]
def dE (a:Mg):=(ab EF (a.a.fu a.l))
def yDa (i:Ff):Prop:=
 ∃(a:Mg),a.n=i.r.queue/\az dv 3 zI a.a=az dv 3 zI i.b.a/\a.a.pz a.n a.l/\fa (∃(c:Nat),(↑c:Int)=0/\ab uA (ac c i.ox)=[]/\∃(d:Nat->Prop),∃(e:Nat->Nat),d c/\∀(f:Nat),d f->dp (decide ((↑f:Int)<(↑(dE a).length:Int))) ((0<=(↑f:Int)/\(↑f:Int)<(↑(dE a).length:Int))/\∃(g:Int),∃(h:Int),∃(j:Int),∃(k:Bool),zD (dE a) (↑f:Int).toNat 0 4=av [dI g,dI h,dI j,D.v (.bool k)]/\((ab uA (ac f i.ox)).length+1)*(40:Nat)<=(140737488355328:Nat)/\∃(l:Nat),(↑l:Int)=ap.wrap ((↑f:Int)+1)/\ab uA (ac l i.ox)=ab uA (ac f i.ox)++[[dI h,dI i.s,dI i.r.dm,dI j,D.v (.bool k)]]/\d l/\e l<e f/\dl (az dv 3 zI a.a)/\dl (ax 312 4 (dE a))/\dl (ay [V.d (dI i.r.dm),V.d (dI i.r.queue)] 276)/\dl (ay [V.nm 1 0,V.own 2,V.own 3,V.mp 4,V.d (dI i.b.iH),V.d (dI i.b.iG),V.own 5,V.d (D.v (.bool i.b.gp)),V.d (D.v (.bool i.b.gl))] (273:bz))/\QQ i.b (dl (ax 3 1 (iE i.b.spare)))) (dx (IC i.b (az dv 3 zI i.b.a=az dv 3 zI a.a/\QR i.b (ab uA i.ox=ab uA (ac f i.ox)/\True)))))
def xIk {l:List Ek} {k:Nat} {e:Ek} (h:l[k]? =av e):zD (l.map EF) k 0 4=av [D.v (.int .i64 e.slot),.v (.int .i64 e.id),.v (.int .i64 e.dr),.v (.bool e.top)]:=ju h (by simp[EF]) rfl
def yZz (i:Ff) (h:DU.dp i):yDa i:=by
 have h:i.b.a.pz i.r.queue i.l:=h;have hl:=h.len;have hen:(i.b.a.fu i.l).length=i.l.length:=by simp[dv.fu]
 have ug:i.ox.length=i.l.length:=by simp[Ff.ox,dv.fu]
 unfold yDa QQ QR IC fa dx dE dI;refine⟨⟨i.b.a,i.r.queue,i.l⟩,rfl,rfl,h,λ_ _=> ?_⟩;simp only[gy];refine⟨0,rfl,rfl,λj=>j<=i.l.length,λj=>i.l.length-j,mi _,λj hj=>zH (λc=> ?_) (λc=> ?_)⟩
 ·obtain⟨e,he⟩:=z6 (l:=i.b.a.fu i.l) (i:=j) oM;have ho:i.ox[j]? =av ⟨e.id,i.s,i.r.dm,e.dr,e.top⟩:=by rw[Ff.ox,rf,he];rfl
  refine⟨⟨oM,oM⟩,e.slot,e.id,e.dr,e.top,xIk he,by rw[ng];omega,j+1,qy oM,?_,oM,Z9,gg⟩;rw[qx,ho];simp[uA]
 ·have FP:j=i.l.length:=by omega
  subst FP;rw[mo (l:=i.ox) (by omega)]
  exact kp
def zXz:DU.ok Tryz.prog 247:=gu mixed (dw yNt fg) 0 (λ_=>[]) (λi=>yWr i) [0] Tryz.func247 yZz
open Go Go.RowKit Cv
def z2x {P:cd} {tS rt e sz oC:Nat} {z:Array ce} (hi:vS P tS=av (e,sz,oC,z)) {w:bv} {g i c n k:Nat} {A:Option cg} {cur src:List ce} {T:bz}
 (hg:w.heap[g]? =av (.cells cur.toArray T (0,0))) (hs:(be sz n (.slice A n k)).run P w= .ok src.toArray w) (hl:src.length=n*sz) (te:i+n<=c) (F7:i*sz+n*sz<=cur.length) (Eu:∀v∈src,v.oh=ar):
 g7 P (bg #[tS,tS] rt #[.slice (av ⟨g,0,aw⟩) i c,.slice A n k]) w (.slice (av ⟨g,0,aw⟩) (i+n) c) (World.iT w g (.cells (kj cur (i*sz) src).toArray T (0,0))):=by
 obtain⟨inf,zv,q1,q2,rfl,rfl,q5,rfl⟩:=jF hi;have kr:=vA (P:=P) src 0 (i*inf.size) cur w hg oM Eu;simp only[Fw]at kr;have hln:∀w,(Builtin.lenOf (.slice A n k)).run P w= .ok n w:=λw=>rfl
 unfold g7 bg;simp only[Bc,CC,Bd,bind,pure,run_bind,Sem.bind,Sem.run,Cv.run_underlying q1,Cv.run_sizeOf q2,oL,if_false,hs,hln,te,if_true,uR,nh,kr,JH]
def yAz {P:cd} {tS ty e sz oC:Nat} {z:Array ce} (hi:vS P tS=av (e,sz,oC,z)) (hz:z.size=sz) (h1:∀v∈z.toList,v.oh=ar) {w:bv} {g o n c:Nat} {cur:List ce} {T:bz} (hn:0<n)
 (hg:w.heap[g]? =av (.cells cur.toArray T (0,0))) (F7:o+n*sz<=cur.length):
 g7 P (Builtin.clear_ #[tS] ty #[.slice (av ⟨g,o,aw⟩) n c]) w (.tuple #[]) (World.iT w g (.cells (kj cur o (bc z n).toList).toArray T (0,0))):=by
 obtain⟨inf,zv,q1,q2,rfl,rfl,q5,rfl⟩:=jF hi;have hlz:(bc zv.cells n).toList.length=n*inf.size:=by rw[JP,cf,hz]
 have kr:=vA (P:=P) (bc zv.cells n).toList 0 o cur w hg oM (by
  intro v hv;obtain⟨i,hi,rfl⟩:=List.getElem_of_mem hv;simp only[bc,Array.getElem_toList,Array.getElem_map,Array.getElem_range];have zi:0<zv.cells.size:=by
   rcases Nat.eq_zero_or_pos zv.cells.size with h0|h0
   ·rw[hlz,<- hz,h0]at hi;omega
   ·exact h0
  have gn:i % zv.cells.size<zv.cells.size:=Nat.mod_lt _ zi;rw[getElem!_pos zv.cells (i % zv.cells.size) gn];exact h1 _ (by simp))
 simp only[Fw]at kr;have ET:∀w,(zeroValue e).run P w= .ok zv w:=λw=>lz (by unfold zero?;rw[q2];exact q5) w
 obtain⟨m,rfl⟩:∃m,n=m+1:=⟨n-1,oM⟩
 unfold g7 Builtin.clear_;simp only[Bc,CC,Bd,bind,pure,run_bind,Sem.bind,Sem.run,Cv.run_underlying q1,ET,kr]
def y6t (P:cd) (tS sz:Nat) (s:Option cg) (sn sk:Nat) (i j:Int) (w:bv) (R:Ending->bv->Prop):Prop:=
y6l s sk i j (sn:Int) sz λa1 na1 ka1=>
dp ((i:Int)==j) (
R (.returned (.slice s sn sk)) w) (
Xb w λw2=>
tr s sn sk aw (av i) sz λa3 na3 ka3=>
tr s sn sk (av j) aw sz λa4 na4 ka4=>
∃(a5:Option cg) (Im JS:Nat),∃w6:bv,g7 P (bg #[tS,tS] tS #[.slice a3 na3 ka3,.slice a4 na4 ka4]) w2 (.slice a5 Im JS) w6/\
tr a5 Im JS (av (Im:Int)) (av (sn:Int)) sz λa7 na7 ka7=>
∃w8:bv,g7 P (Builtin.clear_ #[tS] 0 #[.slice a7 na7 ka7]) w6 (.tuple #[]) w8/\
R (.returned (.slice a5 Im JS)) w8)
def xGw {P:cd} {tS e sz oC:Nat} {z:Array ce} (hi:vS P tS=av (e,sz,oC,z)) (hz:z.size=sz) (LP:∀v∈z.toList,v.oh=ar)
 {k:Ko} {w:bv} {L:List HP} {s:Option cg} {sn sk i j:Nat} {xs:List ce} (H:Hp k w (oq e sz s sn sk xs::L)) (h1:∀u∈xs,u.oh=ar) (J2:i<j) (hj:j<=sn):
 y6t P tS sz s sn sk i j w λen w'=>∃a kk,en= .returned (.slice a (sn-(j-i)) kk)/\Hp k w' (oq e sz a (sn-(j-i)) kk (xs.take (i*sz)++xs.drop (j*sz))::L):=by
 obtain⟨CG,Iw⟩:=H.len;rcases H.oD with⟨_,e0,_⟩|⟨b,r,rfl,g1,g2,g3,H0⟩
 ·omega
 have hle:i*sz<=xs.length:=by rw[CG];exact xj _ oM
 have aaK:j*sz<=xs.length:=by rw[CG];exact xj _ hj
 have LY:(xs.drop (j*sz)).length=(sn-j)*sz:=by rw[o8,CG,Nat.sub_mul]
 have CO:i*sz+(sn-j)*sz=(sn-(j-i))*sz:=by rw[<- zp];congr 1;omega
 have KC:i*sz+(sn-j)*sz+(j-i)*sz=sn*sz:=by rw[<- zp,<- zp];congr 1;omega
 have aa2:j*sz+(sn-j)*sz=sn*sz:=by rw[<- zp];congr 1;omega
 have hlen:(xs++r).length=xs.length+r.length:=iv;unfold y6t;simp only[y6l,tr,om];refine⟨⟨oM,oM,oM,oM⟩,Cv.dp.mk (λc=>absurd c (by simp;omega)) λ_=> ?_⟩;rintro _ rfl;have H1:=H0.drew;have Et:(be sz (sn-j) (.slice (if sk=j then av ⟨b,0,aw⟩else(av ⟨b,0,aw⟩:Option cg).map (·.add (j*sz))) (sn-j) (sk-j))).run P w.drew= .ok (xs.drop (j*sz)).toArray w.drew:=by
  by_cases h0:(sn-j)*sz=0
  ·have:xs.drop (j*sz)=[]:=xu oM;rw[this];by_cases hk:sk=j
   ·rw[fc hk];unfold be;rw[h0];rfl
   ·rw[eg hk,we,uR];unfold be;rw[h0];rfl
  ·have hk:sk≠j:=by rintro rfl;have:sn-sk=0:=by omega
                    rw[this]at h0;simp at h0
   rw[eg hk,we,uR];unfold be;rw[fE H1.get (by rw[hlen];omega)];rw[nh,Hw aaK,yw (by omega),mo (by omega)]
 refine⟨⟨oM,oM⟩,⟨oM,oM,Iw⟩,_,_,_,_,z2x (i:=i) (c:=sk) hi H1.get Et LY oM (by rw[hlen];omega) (λv hv=>h1 v (JQ hv)),⟨oM,oM,oM⟩,?_⟩;have H2:=H1.yx (.cells (kj (xs++r) (i*sz) (xs.drop (j*sz))).toArray e);have e1:i+(sn-j)=sn-(j-i):=by omega
 rw[eg (show sk≠i+(sn-j)by omega),we,uR,nh,e1];have Tk:kj (xs++r) (i*sz) (xs.drop (j*sz))=(xs.take (i*sz)++xs.drop (j*sz))++(xs++r).drop ((sn-(j-i))*sz):=by
  simp only[kj];rw[yw hle,LY,CO]
 rw[Tk]at H2;have hA:(xs.take (i*sz)++xs.drop (j*sz)).length=(sn-(j-i))*sz:=by
  rw[iv,ng,LY];omega
 have hB:((xs++r).drop ((sn-(j-i))*sz)).length=(j-i)*sz+r.length:=by
  rw[o8,hlen];omega
 rw[Tk];have hn:sn-(sn-(j-i))=j-i:=by omega
 rw[hn];refine⟨_,yAz hi hz LP oM H2.get (by rw[iv,hA,hB];omega),_,_,rfl,?_⟩;have H3:=H2.yx (.cells (kj (xs.take (i*sz)++xs.drop (j*sz)++(xs++r).drop ((sn-(j-i))*sz)) ((sn-(j-i))*sz) (bc z (j-i)).toList).toArray e);have es:=Ys (xs.take (i*sz)++xs.drop (j*sz)) ((xs++r).drop ((sn-(j-i))*sz)) (bc z (j-i)).toList;rw[hA]at es;rw[es]at H3;rw[es];rw[iY (xs.take (i*sz)++xs.drop (j*sz))]at H3 ⊢;have Dm:(bc z (j-i)).toList.length=(j-i)*sz:=by rw[JP,cf,hz]
 refine H3.AE hA ?_ oM;rw[iv,hA,iv,Dm,o8,hB,<- g2,hlen,CG];omega
structure Li where
 ez:List (List D)
 i:Nat
 j:Nat
def WV (e sz:Nat):fy where
 ι:=Li
 pat:=λi=>[.own 0,.d (.v (.int .i64 i.i)),.d (.v (.int .i64 i.j))]
 pre:=λi=>[.own e sz i.ez]
 dp:=λi=>i.i<i.j/\i.j<=i.ez.length
 alts:=λi=>[{o:=Unit,res:=λ_=> .own 1,post:=λ_=>[.gone,.own e sz (i.ez.take i.i++i.ez.drop i.j)],rel:=λ_=>True}]
def DZ {P:cd} (hm:P.follows .mixedOrders=ar) {tS e sz oC fI:Nat} {z:Array ce} {fn:Func} {c:Code} (hf:P.funcs[fI]? =av fn) (hb:fn.body=av c) (Ci:gD P fI=ar) (oT:xl fn.ntmps c=ar) (LX:okF [] c=ar) (Mh:Nat.ble 3 fn.ntmps=ar)
 (hi:vS P tS=av (e,sz,oC,z)) (hz:z.size=sz) (LP:∀v∈z.toList,v.oh=ar)
 (heq:∀(s:Option cg) (sn sk:Nat) (i j:Int) (w:bv) (R:Ending->bv->Prop),y6t P tS sz s sn sk i j w R=E8 P [] c (Wn P fn R) (gP [.slice s sn sk,.int .i64 i,.int .i64 j]) w):
 (WV e sz).ok P fI:=by
 intro i hc k L E w ys R hv;obtain⟨c1,c2⟩:i.i<i.j/\i.j<=i.ez.length:=hc;simp only[WV,gw,VR,DR]at hv;obtain⟨y0,_,rfl,⟨l0,e0,_⟩,y1,_,rfl,⟨rfl,_⟩,y2,_,rfl,⟨rfl,_⟩,rfl⟩:=hv;obtain⟨s,sk,xs,aab,g1,wg,hu,H⟩:=R.su (n:=0) (t:=e) (sz:=sz) (ez:=i.ez) rfl;rw[e0]at g1;cases g1;have H2:Hp k w (oq e sz s i.ez.length sk xs::fz E.F::L):=H;have hv:=xGw hi hz LP H2 wg.one c1 c2;have wy:=zNz (args:=[.slice s i.ez.length sk,.int .i64 i.i,.int .i64 i.j]) hm hf hb [] oT LX Mh (heq s i.ez.length sk i.i i.j w _) hv;refine nT Ci (wy.mono ?_);rintro en w' ⟨a,kk,rfl,H3⟩;have hl:(i.ez.take i.i++i.ez.drop i.j).length=i.ez.length-(i.j-i.i):=by
  rw[iv,ng,o8];omega
 have H4:Hp k w' (oq e sz a (i.ez.take i.i++i.ez.drop i.j).length kk (xs.take (i.i*sz)++xs.drop (i.j*sz))::(([]:List (Nat×fj)).map (gz E)++fz E.F::L)):=by
  rw[hl];exact H3
 obtain⟨E',r1,r2,r3⟩:=aH (nx:=1) R.nx (by
  rw[N6,<- sM i.i hu,<- rX i.j hu];exact(wg.take _).append (wg.drop _)) (λx hx=>by
   rcases oK.1 hx with hx|hx
   ·exact hu x (N8 hx)
   ·exact hu x (JQ hx)) H4
 rw[hl]at r3;refine⟨_,rfl,_,uc.2 rfl,(),trivial,E',r1,r3,⟨r2.nx,?_⟩⟩;exact((@h9 k w' True _).2 ⟨trivial,r2.hp⟩).imp (B:=gz E' (0,.gone)) λx hx=> .inl ⟨rfl,hx.2⟩
def rH (k:Int):List (Int×Place)->List (Int×Place)
 |[]=>[]
 |(a,b)::l=>if k=a then l else(a,b)::rH k l
structure BF where
 b:dq
 id:Int
 dm:Int
 slot:Int
def dq.jy (b:dq) (s id:Int):dq:=if b.ml s=ar/\b.iX s=id then(if s=1 then{b with gp:=au}else{b with gl:=au})else b
def dq.iI (b:dq) (s id dm:Int):dq:=
 if(b.a.qe ((b.dz s).getD (z8 s (b.dz s) dm) ⟨0,0⟩).queue).count=0 then
  ({b.jy s id with at_:=rH id b.at_,spare:=b.spare++[((b.dz s).getD (z8 s (b.dz s) dm) ⟨0,0⟩).queue]}:dq).rh s ((b.dz s).take (z8 s (b.dz s) dm)++(b.dz s).drop (z8 s (b.dz s) dm+1))
 else{b.jy s id with at_:=rH id b.at_}
def yXw (b:dq):fj:= .cells [.nm 1 0,.own 6,.own 7,.mp 4,zB b.iH,zB b.iG,.own 8,yL b.gp,yL b.gl] 273
@[reducible] def y0w (b:dq):List fj:=[yXw b,zS b 1,.gone,.gone,zS b 4,.gone,zS b 2,zS b 3,zS b 5]
@[reducible] def BF.ok (i:BF) (s:Int):Prop:=i.b.small/\z8 s (i.b.dz s) i.dm<(i.b.dz s).length
def yPs (s:Int):fy:=fi BF (λi=>[.nm 0 0,zB i.id,.agg [zB s,zB i.dm,zB i.slot]]) (λi=>Jl i.b) (λi=>i.ok s) (λ_=>pL) (λi=>y0w (i.b.iI s i.id i.dm))
def GO:fy:=yPs 1
def GN:fy:=yPs 2
structure DrJ where
 i:BF
 s:Bool
def Ue:fy:=fi DrJ (λj=>[.nm 0 0,zB j.i.id,.agg [zB (zE j.s),zB j.i.dm,zB j.i.slot]]) (λj=>Jl j.i.b) (λj=>j.i.ok (zE j.s)) (λ_=>pL) (λj=>y0w (j.i.b.iI (zE j.s) j.i.id j.i.dm))
def Uh:fy:=WV 276 2
def xAf:zK:=⟨0,0,0,0,au⟩
def bN (L:List zK) (id:Int):zK:=(L.find? λo=>decide (o.id=id)).getD xAf
def gS (L:List zK) (id q:Int):List zK:=L.filterMap λo=>if o.id=id then(if o.dr=q then aw else av {o with dr:=o.dr-q})else av o
def qM (L:List zK) (id q:Int):List zK×Int:=if vK L id=au then(L,26)else if q<1\/(bN L id).dr<q then(L,24)else(gS L id q,0)
def vm (L:List zK) (s p:Int):List zK:=L.filter λo=>decide (o.side=s) && decide (o.dm=p)
def xx:List zK->List Lv
 |[]=>[]
 |o::l=>match xx l with
  |[]=>[⟨o.dm,o.dr,1⟩]
  |v::vs=>if v.dm=o.dm then⟨v.dm,o.dr+v.dr,v.count+1⟩::vs else⟨o.dm,o.dr,1⟩::v::vs
def gY (L:List zK) (s:Int):List Lv:=xx (L.filter λo=>decide (o.side=s))
def iA (L:List zK) (s:Int):Lv×Bool:=match gY L s with
 |[]=>(⟨0,0,0⟩,au)
 |v::_=>(v,ar)
structure IH where
 b:dq
 L:List zK
structure CL where
 b:dq
 L:List zK
 id:Int
 dr:Int
structure II where
 b:dq
 L:List zK
 s:Bool
 dm:Int
def KO:fy where
 ι:=CL
 pat:=λi=>[.nm 0 0,zB i.id,zB i.dr]
 pre:=λi=>[yE i.b]
 dp:=λi=>i.b.fv i.L
 alts:=λi=>[{o:=dq,res:=λ_=>zB (qM i.L i.id i.dr).2,post:=λb=>[yE b],rel:=λb=>b.fv (qM i.L i.id i.dr).1}]
def GU:fy:=fi CL (λi=>[.nm 0 0,zB i.id]) (λi=>[yE i.b]) (λi=>i.b.fv i.L) (λi=> .iZ [NI (bN i.L i.id),yL (vK i.L i.id)]) (λi=>[yE i.b])
def xDp (s:Bool):fy:=fi II (λi=>[.nm 0 0,zB (zE s),zB i.dm]) (λi=>[yE i.b]) (λi=>i.b.fv i.L) (λ_=> .own 1) (λi=>[yE i.b,.own 258 5 ((vm i.L (zE s) i.dm).map uA)])
def Tv:fy:=xDp au
def Tu:fy:=xDp ar
def atC:fy:=fi II (λi=>[.nm 0 0,zB (zE i.s),zB i.dm]) (λi=>[yE i.b]) (λi=>i.b.fv i.L) (λ_=> .own 1) (λi=>[yE i.b,.own 258 5 ((vm i.L (zE i.s) i.dm).map uA)])
end Sx
