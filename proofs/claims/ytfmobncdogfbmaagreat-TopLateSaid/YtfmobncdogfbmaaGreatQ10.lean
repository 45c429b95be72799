/- Texts of ours. No condition. -/
import Derived.Test.YtfmobncdogfbmaaGreatQ9
set_option linter.all false
open Sx.fq renaming rh->ab,cells->ac,kq->ae,own->af
open Go.IntKind renaming i64->ag,u64->aj,u32->ak,wrap->am,signed->ao,u8->ap
open Bool renaming false->aq,true->ar
open List renaming map->au,take->av,drop_length->aw,drop->ax,filter_map->ay,length->az
open Option renaming some->ba,none->bc
open Go.ByteArray renaming toList_eq->be
open Nat renaming pow_le_pow_right->bg
open ByteArray renaming mk->bo
namespace Sx
set_option maxRecDepth 100000
open Go Cv Go.Proofs
def xJo {l:List iq} {k:Nat} {c:iq} (h:l[k]? =ba c):zD (l.map zm) k 0 9=ba [D.v (.int .i64 c.kind),.v (.int .i64 c.id),.v (.int .i64 c.inst),.v (.int .i64 c.side),.v (.int .i64 c.dm),.v (.int .i64 c.dr),.v (.int .i64 c.least),.v (.int .i64 c.time),.v (.string (sb c.label))]:=jz h (by simp[zm]) rfl
def RR (p:fj):iI:=⟨p,pH p,[]⟩
def yZm (p:fj):(RR p).ga p (List.replicate p.count []) []:=⟨rfl,yAv _,rfl⟩
def ku (l:i4):Nat->fq
 |0=> .cells [.own 1] 240
 |1=> .own 5 1 (bE l)
 |_=> .gone
def Wr (l:i4):fq:= .rh i4 2 ku l
structure JT where
 l:i4
 n:Int
 k:Nat
def S0:gh where
 ι:=JT
 pat:=λi=>[.nm 0 0,.d (.v (.int .u64 i.n)),.d (.v (.int .i64 i.k))]
 pre:=λi=>[Wr i.l]
 dp:=λi=>0<=i.n/\i.n<18446744073709551616/\i.l.length+i.k<=1099511627776
 alts:=λi=>[{o:=Unit,res:=λ_=> .je [],post:=λ_=>[Wr (i.l++le i.n i.k)],rel:=λ_=>True}]
def xHk (i:JT):List gr:=[{
 ι:=Nat,
 du:=λj=>[(0,.nm 0 0),(1,.d (.v (.int .u64 (i.n / 256 ^ j)))),(7,.d (.v (.int .i64 j)))],
 rows:=λj=>[ku (i.l++le i.n j) 0,ku (i.l++le i.n j) 1]}]
def xCt (i:JT):Prop:=
 ∃(a:Nat),i.n / (256:Int) ^ a=i.n/\(a:Int)=0/\bE (i.l++le i.n a)=bE i.l/\∃(b:Nat->Prop),∃(c:Nat->Nat),b a/\∀(d:Nat),b d->dp (decide ((d:Int)<(i.k:Int))) (((bE (i.l++le i.n d)).length+1)*(1:Nat)<=(140737488355328:Nat)/\(0:Int)<=(8:Int)/\∃(e:Nat),i.n / (256:Int) ^ e=aJ aj (i.n / (256:Int) ^ d) 8/\(e:Int)=ag.wrap ((d:Int)+1)/\bE (i.l++le i.n e)=bE (i.l++le i.n d)++[[D.v (.int .u8 (ap.wrap (i.n / (256:Int) ^ d)))]]/\b e/\c e<c d/\True) (dx (bE (i.l++le i.n i.k)=bE (i.l++le i.n d)/\True))
def xHo (i:JT) (h:S0.dp i):xCt i:=by
 unfold xCt dx;obtain⟨h1,h2,h3⟩:=h;refine⟨0,by simp,rfl,by simp[le],λj=>j<=i.k,λj=>i.k-j,oM,λj hj=>zG (λgu=> ?_) (λgu=> ?_)⟩
 ·refine⟨?_,oM,j+1,?_,?_,?_,oM,Z9,trivial⟩
  ·rw[yW,iv,y8];omega
  ·have:=Pz .u64 (i.n / 256 ^ j) 8 Z8;rw[show((8:Nat):Int)=8 by rfl]at this;rw[this,Int.ediv_ediv_of_nonneg (Int.pow_nonneg (by omega)),Iy];rfl
  ·rw[iw (by omega)];rfl
  ·rw[le_succ,Ve];simp[bE]
 ·obtain rfl:j=i.k:=by omega
  exact⟨(),rfl,trivial⟩
def yAj:S0.ok Tryz.prog 137:=gx mixed fk 0 i6 (λi=>xHk i) [0] Tryz.func137 xHo
@[reducible] def FJ:Nat:=5
structure WN where
 l:i4
 n:Int
@[reducible] def WN.ok (i:WN):Prop:=i.l.length+8<=1099511627776
def Ld:gh:=fp WN (λi=>[.nm 0 0,zB i.n]) (λi=>[Wr i.l]) WN.ok (λ_=>rE) (λi=>[Wr (i.l++[iY i.n])])
def KO:gh:=fp WN (λi=>[.nm 0 0,zB i.n]) (λi=>[Wr i.l]) WN.ok (λ_=>rE) (λi=>[Wr (i.l++le i.n 8)])
def SW:gh:=fp WN (λi=>[.nm 0 0,XE i.n]) (λi=>[Wr i.l]) (λi=>i.l.length+8<=1099511627776/\0<=i.n/\i.n<4294967296) (λ_=>rE) (λi=>[Wr (i.l++le i.n 4)])
@[reducible] def xAo (t sz oD:Nat):gh:=fp (Q_ D) (λ_=>[.own 0]) (λl=>[.own t sz l]) (λl=>l.length*oD<=140737488355328) (λ_=> .own 1) (λl=>[.own t sz l,.own t sz l])
@[reducible] def y5p (sz oD:Nat):gh:=fp (Q_ D) (λl=>[ow sz l]) i6 (λl=>l.length*oD<=140737488355328) (λl=>ow sz l) i6
def sw:gh:=xAo FJ 1 1
def sv:gh:=y5p 1 1
def TV:gh:=fp Unit i6 i6 (λ_=>True) (λ_=> .nm 0 0) (λ_=>[Wr []])
def Uu:gh:=fp i4 (λ_=>[.nm 0 0]) (λl=>[Wr l]) (λl=>l.length<=1099511627776) (λ_=> .own 1) (λl=>[Wr l,.own FJ 1 (bE l)])
def yCl (c:Int):Int:=if 0<Cw .u32 c 1 then CA .u32 (aJ .u32 c 1) 3988292384 else aJ .u32 c 1
def uQ:Nat->Int->Int
 |0,c=>c
 |k+1,c=>yCl (uQ k c)
def D' (l:i4):Int:=l.foldl (λc b=>uQ 8 (CA .u32 c b.toNat)) 4294967295
def dP (l:i4):Int:=CA .u32 4294967295 (D' l)
def TI:gh:=fp i4 (λl=>[ow 1 (bE l)]) i6 (λl=>l.length<=1099511627776) (λl=>XE (dP l)) i6
def xIv (l:i4):List gr:=[
 {ι:=Nat,du:=λi=>[(3,XE (D' (l.take i))),(9,zB i)],rows:=λ_=>[]},
 {ι:=Int×Nat,du:=λi=>[(3,XE (uQ i.2 i.1)),(17,zB i.2)],rows:=λ_=>[]}]
def iU (x:i4×Bool):Nat->fq
 |0=> .cells [ow 1 (bE x.1),yL x.2] 329
 |_=> .gone
def Rd (l:i4) (b:Bool):fq:= .rh (i4×Bool) 1 iU (l,b)
def TW:gh:=fp i4 (λl=>[ow 1 (bE l)]) i6 (λl=>l.length<=1099511627776) (λ_=> .nm 0 0) (λl=>[Rd l aq])
structure RN where
 l:i4
 b:Bool
 n:Nat
def RN.bad (i:RN):Bool:=i.b||decide (i.l.length<i.n)
def RN.iS (i:RN):i4:=if i.bad then[]else i.l.take i.n
def RN.left (i:RN):i4:=if i.bad then i.l else i.l.drop i.n
@[reducible] def RN.ok (i:RN):Prop:=i.n<=255/\i.l.length<=1099511627776
def TQ:gh:=fp RN (λi=>[.nm 0 0,zB i.n]) (λi=>[Rd i.l i.b]) RN.ok (λi=>ow 1 (bE i.iS)) (λi=>[Rd i.left i.bad])
def yX:i4->Int
 |[]=>0
 |b::l=>b.toNat+256*yX l
def Tv:gh:=fp RN (λi=>[.nm 0 0,zB i.n]) (λi=>[Rd i.l i.b]) (λi=>i.n<=8/\i.l.length<=1099511627776) (λi=>A4 (yX i.iS)) (λi=>[Rd i.left i.bad])
def xGv (i:RN):List gr:=[{ι:=Nat,du:=λj=>[(5,A4 (yX (i.iS.take j))),(12,zB j)],rows:=λ_=>[]}]
structure RB where
 l:i4
 b:Bool
def RB.n (i:RB) (k:Nat):RN:=⟨i.l,i.b,k⟩
def M4:gh:=fp RB (λi=>[.nm 0 0]) (λi=>[Rd i.l i.b]) (λi=>i.l.length<=1099511627776) (λi=>zB (yX (i.n 1).iS)) (λi=>[Rd (i.n 1).left (i.n 1).bad])
def M1:gh:=fp RB (λi=>[.nm 0 0]) (λi=>[Rd i.l i.b]) (λi=>i.l.length<=1099511627776) (λi=>zB (ag.wrap (yX (i.n 8).iS))) (λi=>[Rd (i.n 8).left (i.n 8).bad])
def TS:gh:=fp RB (λi=>[.nm 0 0]) (λi=>[Rd i.l i.b]) (λi=>i.l.length<=1099511627776) (λi=>zB (if i.b then 10 else if 0<i.l.length then 15 else 0)) (λi=>[Rd i.l i.b])
def mJ (a:JT):Prop:=0<=a.n/\a.n<18446744073709551616/\a.l.length+a.k<=1099511627776
def y2a (i:WN):Prop:=
 ∃(a:JT),a.n=aj.wrap i.n/\(a.k:Int)=1/\ab i4 2 ku a.l=Wr i.l/\(mJ a)/\ff (dx (ab i4 2 ku (i.l++[iY i.n])=ab i4 2 ku (a.l++le a.n a.k)/\True))
def y4d (i:WN):Prop:=
 ∃(a:JT),a.n=aj.wrap i.n/\(a.k:Int)=8/\ab i4 2 ku a.l=Wr i.l/\(mJ a)/\ff (dx (ab i4 2 ku (i.l++le i.n 8)=ab i4 2 ku (a.l++le a.n a.k)/\True))
def xFy (i:WN):Prop:=
 ∃(a:JT),a.n=aj.wrap i.n/\(a.k:Int)=4/\ab i4 2 ku a.l=Wr i.l/\(mJ a)/\ff (dx (ab i4 2 ku (i.l++le i.n 4)=ab i4 2 ku (a.l++le a.n a.k)/\True))
def z6j (i:Q_ D):Prop:=
 ∀(b:Bool),(b=ar->i=[])->dp b (∃(o:Unit),i=i/\i=[]/\True) ((0+i.length)*(1:Nat)<=(140737488355328:Nat)/\∃(o:Unit),i=i/\i=[]++i/\True)
def yLn (i:Q_ D):z6j i=walk Tryz.prog ([]) 0 ([]) ([]) [] Tryz.f138 (Tryz.f138.body.getD .skip) (sw.pat i) (sw.pre i) (sw.alts i):=by kernel_rfl
def yKj (hG:zf Tryz.prog ([])) (h:∀(i:Q_ D),sw.dp i->z6j i):sw.ok Tryz.prog 138:=qY mixed ([]) hG 0 (λ(i:Q_ D)=>[]) (λ(i:Q_ D)=>[]) [] Tryz.func138 (by kernel_rfl) (by kernel_rfl) (by kernel_rfl) (λ_=>by kernel_rfl) (λ(i:Q_ D) hc=>Eq.mp (yLn i) (h i hc))
def z6q (i:Q_ D):Prop:=
 ∀(b:Bool),(b=ar->i=[])->dp b (∃(o:Unit),i=[]/\True) ((0+i.length)*(1:Nat)<=(140737488355328:Nat)/\∃(o:Unit),i=[]++i/\True)
def yJy (i:Q_ D):z6q i=walk Tryz.prog ([]) 0 ([]) ([]) [] Tryz.f138 (Tryz.f138.body.getD .skip) (sv.pat i) (sv.pre i) (sv.alts i):=by kernel_rfl
def yLw (hG:zf Tryz.prog ([])) (h:∀(i:Q_ D),sv.dp i->z6q i):sv.ok Tryz.prog 138:=qY mixed ([]) hG 0 (λ(i:Q_ D)=>[]) (λ(i:Q_ D)=>[]) [] Tryz.func138 (by kernel_rfl) (by kernel_rfl) (by kernel_rfl) (λ_=>by kernel_rfl) (λ(i:Q_ D) hc=>Eq.mp (yJy i) (h i hc))
def xFr (i:Unit):Prop:=
 ∃(o:Unit),bE []=[]/\True
def xFf (i:i4):Prop:=
 ∃(gz:Q_ D),gz=bE i/\gz.length*(1:Nat)<=(140737488355328:Nat)/\∀(o:Unit),True->∃(o:Unit),bE i=gz/\bE i=gz/\True
def xFt (i:i4):Prop:=
 ∃(a:Nat),D' (av a i)=4294967295/\(a:Int)=0/\∃(b:Nat->Prop),∃(c:Nat->Nat),b a/\∀(d:Nat),b d->dp (decide ((d:Int)<((bE i).length:Int))) ((0<=(d:Int)/\(d:Int)<((bE i).length:Int))/\∃(e:Int),zD (bE i) (d:Int).toNat 0 1=ba [D.v (.int .u8 e)]/\∃(f:Int×Nat),uQ f.snd f.fst=CA ak (D' (av d i)) (ak.wrap e)/\(f.snd:Int)=0/\∃(g:Int×Nat->Prop),∃(h:Int×Nat->Nat),g f/\∀(j:Int×Nat),g j->dp (decide ((j.snd:Int)<8)) ((0:Int)<=(1:Int)/\dp (decide (Cw ak (uQ j.snd j.fst) (1:Int)>(0:Int))) (∃(k:Int×Nat),uQ k.snd k.fst=CA ak (aJ ak (uQ j.snd j.fst) 1) 3988292384/\(k.snd:Int)=ag.wrap ((j.snd:Int)+1)/\g k/\h k<h j/\True) (∃(k:Int×Nat),uQ k.snd k.fst=aJ ak (uQ j.snd j.fst) 1/\(k.snd:Int)=ag.wrap ((j.snd:Int)+1)/\g k/\h k<h j/\True)) (∃(k:Nat),D' (av k i)=uQ j.snd j.fst/\kL k d b c)) (dx (dP i=ak.wrap ((BitVec.ofInt ak.bits (if ak.signed=ar then(-1:Int)else ak.max) ^^^ BitVec.ofInt ak.bits (D' (av d i))).toNat:Int)/\True))
def xEt (i:i4):Prop:=
 ∃(gz:Q_ D),gz=bE i/\gz.length*(1:Nat)<=(140737488355328:Nat)/\∀(o:Unit),True->∃(o:Unit),bE i=gz/\aq=aq/\True
def xFj (i:RN):Prop:=
 dp i.b (∃(o:Unit),bE i.iS=[]/\bE i.left=bE i.l/\i.bad=ar/\True) (dp (decide ((i.n:Int)>((bE i.l).length:Int))) (∃(o:Unit),bE i.iS=[]/\bE i.left=bE i.l/\i.bad=decide ((i.n:Int)>((bE i.l).length:Int))/\True) ((0<=(i.n:Int)/\(i.n:Int)<=((bE i.l).length:Int))/\(0<=(i.n:Int)/\(i.n:Int)<=((bE i.l).length:Int))/\∃(o:Unit),bE i.iS=av (i.n:Int).toNat (bE i.l)/\bE i.left=ax (i.n:Int).toNat (bE i.l)/\i.bad=decide ((i.n:Int)>((bE i.l).length:Int))/\True))
def UO (a:RN) (b:RN):Prop:=ff (∃(d:Nat),yX (av d a.iS)=0/\(d:Int)=0/\∃(e:Nat->Prop),∃(f:Nat->Nat),e d/\∀(g:Nat),e g->dp (decide ((g:Int)<((bE b.iS).length:Int))) ((0<=(g:Int)/\(g:Int)<((bE b.iS).length:Int))/\∃(h:Int),zD (bE b.iS) (g:Int).toNat 0 1=ba [D.v (.int .u8 h)]/\0<=ag.wrap (8*(g:Int))/\∃(j:Nat),yX (av j a.iS)=HN aj (yX (av g a.iS)) (JU aj (aj.wrap h) (ag.wrap (8*(g:Int))))/\QO j g e f (dl (ab (i4×Bool) 1 iU (b.left,b.bad)))) (dx (yX a.iS=yX (av g a.iS)/\ab (i4×Bool) 1 iU (a.left,a.bad)=ab (i4×Bool) 1 iU (b.left,b.bad)/\True)))
def xDp (i:RN):Prop:=
 ∃(a:RN),(a.n:Int)=(i.n:Int)/\ab (i4×Bool) 1 iU (a.l,a.b)=Rd i.l i.b/\(a.n<=255/\a.l.length<=1099511627776)/\UO i a
def y7n (i:RB):Prop:=
 ∃(gz:RN),(gz.n:Int)=1/\ab (i4×Bool) 1 iU (gz.l,gz.b)=Rd i.l i.b/\(gz.n<=8/\gz.l.length<=1099511627776)/\∀(o:Unit),True->∃(o:Unit),yX (i.n 1).iS=ag.wrap (yX gz.iS)/\ab (i4×Bool) 1 iU ((i.n 1).left,(i.n 1).bad)=ab (i4×Bool) 1 iU (gz.left,gz.bad)/\True
def y6g (i:RB):Prop:=
 ∃(gz:RN),(gz.n:Int)=8/\ab (i4×Bool) 1 iU (gz.l,gz.b)=Rd i.l i.b/\(gz.n<=8/\gz.l.length<=1099511627776)/\∀(o:Unit),True->∃(o:Unit),ag.wrap (yX (i.n 8).iS)=ag.wrap (yX gz.iS)/\ab (i4×Bool) 1 iU ((i.n 8).left,(i.n 8).bad)=ab (i4×Bool) 1 iU (gz.left,gz.bad)/\True
def xGw (i:RB):Prop:=
 dp i.b (∃(o:Unit),(if i.b=ar then(10:Int)else if 0<i.l.length then(15:Int)else(0:Int))=10/\dl (bE i.l)/\i.b=i.b/\True) (dp (decide (((bE i.l).length:Int)>0)) (∃(o:Unit),(if i.b=ar then(10:Int)else if 0<i.l.length then(15:Int)else(0:Int))=15/\dl (bE i.l)/\i.b=i.b/\True) (∃(o:Unit),(if i.b=ar then(10:Int)else if 0<i.l.length then(15:Int)else(0:Int))=0/\dl (bE i.l)/\i.b=i.b/\True))
def y7q (k:Nat):∀n:Int,le (n % 256 ^ k) k=le n k:=by
 induction k with
 |zero=>intro n;rfl
 |succ k ih=>
  intro n;have hp:(0:Int)<256 ^ k:=Int.pow_pos oM;have h1:iY (n % 256 ^ (k+1))=iY n:=by
   unfold iY;rw[Iy,Eb,Int.emod_emod_of_dvd n ⟨256 ^ k,rfl⟩]
  have h2:n % 256 ^ (k+1) / 256=n / 256 % 256 ^ k:=by
   have e:n=256*(n / 256)+n % 256:=(Int.mul_ediv_add_emod n 256).symm;have e2:n / 256=256 ^ k*(n / 256 / 256 ^ k)+n / 256 % 256 ^ k:=(Int.mul_ediv_add_emod _ _).symm;have hr:=Of (n / 256) (show(256:Int) ^ k≠0 by omega);have xo:=Rw (n / 256) hp;have e3:n % 256 ^ (k+1)=256*(n / 256 % 256 ^ k)+n % 256:=by
    have:n=256 ^ (k+1)*(n / 256 / 256 ^ k)+(256*(n / 256 % 256 ^ k)+n % 256):=by
     rw[Iy,Eb (256 ^ k) 256,Int.mul_assoc,<- Int.add_assoc,<- Int.mul_add,<- e2];exact e
    conv=>lhs;rw[this]
    rw[Int.add_comm,XJ,Int.emod_eq_of_lt]
    ·omega
    ·rw[Iy];omega
   rw[e3];omega
  rw[le,le,h1,h2,ih]
def yKw (n:Int):le (aj.wrap n) 8=le n 8:=y7q 8 n
def yBi (n:Int):iY (aj.wrap n)=iY n:=by
 have:aj.wrap n=n % 18446744073709551616:=rfl;unfold iY;rw[this,Int.emod_emod_of_dvd n ⟨72057594037927936,by decide⟩]
def mK (n:Int):0<=aj.wrap n/\aj.wrap n<18446744073709551616:=by
 have:aj.wrap n=n % 18446744073709551616:=rfl;rw[this];omega
def xFp (i:WN) (h:Ld.dp i):y2a i:=by
 unfold y2a ff dx mJ;have h:i.l.length+8<=1099511627776:=h;exact⟨⟨i.l,aj.wrap i.n,1⟩,rfl,rfl,rfl,⟨(mK _).1,(mK _).2,Z9⟩,λ_ _=>⟨(),by simp only[le,yBi],trivial⟩⟩
def xCi (i:WN) (h:KO.dp i):y4d i:=by
 unfold y4d ff dx mJ;have h:i.l.length+8<=1099511627776:=h;exact⟨⟨i.l,aj.wrap i.n,8⟩,rfl,rfl,rfl,⟨(mK _).1,(mK _).2,Z9⟩,λ_ _=>⟨(),by simp only[yKw],trivial⟩⟩
def xJj (i:WN) (h:SW.dp i):xFy i:=by
 unfold xFy ff dx mJ;obtain⟨h1,h2,h3⟩:=h;have e:aj.wrap i.n=i.n:=Cc oM;exact⟨⟨i.l,aj.wrap i.n,4⟩,rfl,rfl,rfl,⟨(mK _).1,(mK _).2,Z9⟩,λ_ _=>⟨(),by simp only[e],trivial⟩⟩
def Pt:Ld.ok Tryz.prog 63:=gx mixed (dw yAj fk) 0 i6 i6 [] Tryz.func63 xFp
def UZ:KO.ok Tryz.prog 62:=gx mixed (dw yAj fk) 0 i6 i6 [] Tryz.func62 xCi
def yBc:SW.ok Tryz.prog 147:=gx mixed (dw yAj fk) 0 i6 i6 [] Tryz.func147 xJj
def zUx:sw.ok Tryz.prog 138:=yKj fk λi h=>λb hb=>
 Cv.dp.mk (λe=>⟨(),rfl,hb e,trivial⟩) (λ_=>⟨by rw[nq];exact h,(),rfl,rfl,trivial⟩)
def z9t:sv.ok Tryz.prog 138:=yLw fk λi h=>λb hb=>
 Cv.dp.mk (λe=>⟨(),hb e,trivial⟩) (λ_=>⟨by rw[nq];exact h,(),rfl,trivial⟩)
def PC:TV.ok Tryz.prog 61:=gx (V:=xFr) mixed fk 0 i6 i6 [] Tryz.func61 λ(_:Unit) _=>⟨(),rfl,trivial⟩
def Pw:Uu.ok Tryz.prog 64:=gx (V:=xFf) mixed (dw zUx fk) 0 i6 i6 [0] Tryz.func64 λ(i:i4) h=>by
 have h:i.length<=1099511627776:=h;exact⟨_,rfl,by rw[yW];omega,λ_ _=>⟨(),rfl,rfl,trivial⟩⟩
def z2m:TW.ok Tryz.prog 139:=gx (V:=xEt) mixed (dw z9t fk) 0 i6 i6 [] Tryz.func139 λ(i:i4) h=>by
 have h:i.length<=1099511627776:=h;exact⟨_,rfl,by rw[yW];omega,λ_ _=>⟨(),rfl,rfl,trivial⟩⟩
def dC {l:i4} {i:Nat} {b:UInt8} (h:l[i]? =ba b):zD (bE l) i 0 1=ba [.v (.int .u8 b.toNat)]:=by
 unfold zD bE;rw[qt,h];rfl
def yLa {l:i4} {i:Nat} {b:UInt8} (h:l[i]? =ba b):D' (l.take (i+1))=uQ 8 (CA .u32 (D' (l.take i)) b.toNat):=by
 unfold D';rw[qq,h];simp[Iz]
def xGk (b:UInt8):ak.wrap (b.toNat:Int)=b.toNat:=xEs (by have:=b.toNat_lt;omega)
def y4g (b:UInt8):aj.wrap (b.toNat:Int)=b.toNat:=Cc (by have:=b.toNat_lt;omega)
def xJv (i:i4) (h:TI.dp i):xFt i:=by
 unfold xFt dx kL QO;have h:i.length<=1099511627776:=h;refine⟨0,rfl,rfl,λj=>j<=i.length,λj=>i.length-j,Z9,λj hj=>zG (λgu=> ?_) (λgu=> ?_)⟩
 ·dsimp only at hj;rw[yW]at gu;obtain⟨b,hb⟩:∃b,i[j]? =ba b:=⟨_,vd oM⟩
  refine⟨⟨oM,by rw[yW];omega⟩,b.toNat,dC hb,(CA .u32 (D' (i.take j)) b.toNat,0),?_,rfl,λx=>x.1=CA .u32 (D' (i.take j)) b.toNat/\x.2<=8,λx=>8-x.2,⟨rfl,Z9⟩,?_⟩
  ·simp only[uQ,xGk]
  rintro⟨c,n⟩ ⟨h1,h2⟩;dsimp only at h1 h2;subst h1;refine zG (λhn=>⟨oM,zG (λhc=> ?_) (λhc=> ?_)⟩) (λhn=> ?_)
  ·refine⟨(CA .u32 (D' (i.take j)) b.toNat,n+1),?_,?_,⟨rfl,by dsimp only at hn ⊢;omega⟩,by dsimp only at hn ⊢;omega,trivial⟩
   ·simp only[uQ,yCl];rw[fh hc]
   ·rw[iw (by dsimp only;omega)];rfl
  ·refine⟨(CA .u32 (D' (i.take j)) b.toNat,n+1),?_,?_,⟨rfl,by dsimp only at hn ⊢;omega⟩,by dsimp only at hn ⊢;omega,trivial⟩
   ·simp only[uQ,yCl];rw[ez hc]
   ·rw[iw (by dsimp only;omega)];rfl
  ·dsimp only at hn;obtain rfl:n=8:=by omega
   refine⟨j+1,yLa hb,?_,Z9,Z9,trivial⟩;rw[iw (by omega)];rfl
 ·dsimp only at hj;rw[yW]at gu;refine⟨(),?_,trivial⟩;rw[mz (by omega)];rfl
def UE:TI.ok Tryz.prog 148:=gx mixed fk 0 i6 (λi=>xIv i) [] Tryz.func148 xJv
def yIj:TQ.ok Tryz.prog 251:=gx (V:=xFj) mixed fk 0 i6 i6 [0] Tryz.func251 λ(i:RN) h=>by
 obtain⟨h1,h2⟩:=h;refine Cv.dp.mk (λe=> ?_) (λe=>zG (λgu=> ?_) (λgu=> ?_))
 ·have:i.bad=ar:=by simp[RN.bad,e]
  exact⟨(),by simp[RN.iS,this],by simp[RN.left,this],this,trivial⟩
 ·rw[yW]at gu;have:i.bad=ar:=by simp[RN.bad];right;omega
  exact⟨(),by simp[RN.iS,this],by simp[RN.left,this],by rw[this,yW];simp;omega,trivial⟩
 ·rw[yW]at gu;have:i.bad=aq:=by simp[RN.bad,e];omega
  rw[yW];exact⟨⟨oM,oM⟩,⟨oM,oM⟩,(),by simp[RN.iS,this,Lw],by simp[RN.left,this,lS],by rw[this];simp;omega,trivial⟩
def uV:∀l:i4,0<=yX l/\yX l<256 ^ l.length
 |[]=>by simp[yX]
 |b::l=>by
  obtain⟨h1,h2⟩:=uV l;have:=b.toNat_lt;simp only[yX,iF,Iy];omega
def zMf (b:UInt8):∀l:i4,yX (l++[b])=yX l+b.toNat*256 ^ l.length
 |[]=>by simp[yX]
 |c::l=>by
  simp only[uh,yX,zMf b l,iF,Iy,Int.mul_add];rw[Eb (256 ^ l.length) 256,<- Int.mul_assoc,<- Int.mul_assoc,Eb 256 (b.toNat:Int)];omega
def z7s {x b j:Nat} (hx:x<256 ^ j) (hb:b<256) (hj:j<8):HN .u64 x (JU .u64 b ((8*j:Nat):Int))=((x+b*256 ^ j:Nat):Int):=by
 have hp:256 ^ j=2 ^ (8*j):=by rw[Nat.pow_mul]
 have hle:256 ^ (j+1)<=256 ^ 8:=bg oM oM;have abe:x+b*256 ^ j<256 ^ (j+1):=by
  rw[Nat.pow_succ];have:b*256 ^ j<=255*256 ^ j:=xj _ oM;omega
 have h8:(256:Nat) ^ 8=18446744073709551616:=by decide
 rw[<- yVr,<- y8u];have e1:y6n .u64 (b:Int) ((8*j:Nat):Int)=((b*256 ^ j:Nat):Int):=by
  show wr .u64 (Int.ofNat (b*2 ^ (Nat.min (8*j) 64)))=_;rw[show Nat.min (8*j) 64=8*j from FG (by omega),<- hp,Xh];exact Cc (by show(0:Int)<=((b*256 ^ j:Nat):Int)/\((b*256 ^ j:Nat):Int)<_;omega)
 rw[e1];show wr .u64 (Int.ofNat (Nat.lor (x % 18446744073709551616) ((b*256 ^ j) % 18446744073709551616)))=_;rw[Nat.mod_eq_of_lt (by omega),Nat.mod_eq_of_lt (by omega)];have e2:Nat.lor x (b*256 ^ j)=x+b*256 ^ j:=by
  show x|||(b*256 ^ j)=_
  rw[hp]at hx ⊢;rw[Nat.or_comm,<- Nat.shiftLeft_eq,<- Nat.shiftLeft_add_eq_or_of_lt hx,HA]
 rw[e2,Xh];exact Cc (by show(0:Int)<=((x+b*256 ^ j:Nat):Int)/\((x+b*256 ^ j:Nat):Int)<_;omega)
def l9 (i:RN):i.iS.length<=i.n:=by
 unfold RN.iS;split
 ·simp
 ·rw[nn];omega
def xCf (i:RN) (h:Tv.dp i):xDp i:=by
 unfold xDp UO QO ff dx;obtain⟨h1,h2⟩:=h;refine⟨i,rfl,rfl,⟨oM,h2⟩,λ_ _=>⟨0,rfl,rfl,λj=>j<=i.iS.length,λj=>i.iS.length-j,Z9,λj hj=>zG (λgu=> ?_) (λgu=> ?_)⟩⟩
 ·dsimp only at hj;have hl:=l9 i;rw[yW]at gu ⊢;obtain⟨b,hb⟩:∃b,i.iS[j]? =ba b:=⟨_,vd oM⟩
  have e8:ag.wrap (8*(j:Int))=8*j:=iw oM;refine⟨⟨oM,oM⟩,b.toNat,dC hb,by rw[e8];omega,j+1,?_,?_,Z9,Z9,rfl⟩
  ·rw[e8,y4g,qq,hb];simp only[Bt];rw[zMf];obtain⟨r1,r2⟩:=uV (i.iS.take j);rw[nn,FG (by omega)]at r2 ⊢;obtain⟨x,hx⟩:∃x:Nat,yX (i.iS.take j)=x:=⟨(yX (i.iS.take j)).toNat,oM⟩
   rw[hx]at r2 ⊢;have:=z7s (x:=x) (b:=b.toNat) (j:=j) (by exact_mod_cast r2) b.toNat_lt oM;rw[show(8*(j:Int))=((8*j:Nat):Int)by simp,this];simp
  ·rw[iw (by omega)];rfl
 ·dsimp only at hj;rw[yW]at gu;exact⟨(),by rw[mz (by omega)],rfl,trivial⟩
def z9a:Tv.ok Tryz.prog 206:=gx mixed (dw yIj fk) 0 i6 (λi=>xGv i) [] Tryz.func206 xCf
def Vg:M4.ok Tryz.prog 141:=gx (V:=y7n) mixed (dw z9a fk) 0 i6 i6 [] Tryz.func141 λ(i:RB) h=>by
 have hl:=l9 (i.n 1);have hr:=uV (i.n 1).iS;have h0:(256:Int) ^ (i.n 1).iS.length<=256 ^ 1:=by
  have:(256:Nat) ^ (i.n 1).iS.length<=256 ^ 1:=bg oM hl
  exact_mod_cast this
 exact⟨i.n 1,rfl,rfl,⟨by show 1<=8;omega,h⟩,λ_ _=>⟨(),(iw oM).symm,rfl,trivial⟩⟩
def Zj:M1.ok Tryz.prog 140:=gx (V:=y6g) mixed (dw z9a fk) 0 i6 i6 [] Tryz.func140 λ(i:RB) h=>by
 exact⟨i.n 8,rfl,rfl,⟨by show 8<=8;omega,h⟩,λ_ _=>⟨(),rfl,rfl,trivial⟩⟩
def yHo:TS.ok Tryz.prog 142:=gx (V:=xGw) mixed fk 0 i6 i6 [0] Tryz.func142 λ(i:RB) h=>by
 refine Cv.dp.mk (λe=>⟨(),by rw[fh e],rfl,rfl,trivial⟩) (λe=>zG (λgu=>⟨(),?_,rfl,rfl,trivial⟩) (λgu=>⟨(),?_,rfl,rfl,trivial⟩))
 ·rw[yW]at gu;rw[ez (by simp[e]),fh (by omega)]
 ·rw[yW]at gu;rw[ez (by simp[e]),ez (by omega)]
open Classical
structure Sd where
 levels:List Lv
 imp:Lv
 has:Bool
@[reducible] def Vw:=List (Sd×Sd)
def zA (b:Sd×Sd):List D:=[.ro 3 (b.1.levels.map im),.v (.int .i64 b.1.imp.dm),.v (.int .i64 b.1.imp.dr),.v (.int .i64 b.1.imp.count),.v (.bool b.1.has),
 .ro 3 (b.2.levels.map im),.v (.int .i64 b.2.imp.dm),.v (.int .i64 b.2.imp.dr),.v (.int .i64 b.2.imp.count),.v (.bool b.2.has)]
def OA (s:Sd):V:= .agg [ow 3 (s.levels.map im),zB s.imp.dm,zB s.imp.dr,zB s.imp.count,yL s.has]
def zw (v:Vw):V:= .agg [ow 10 (v.map zA)]
def xK (side x y:Int):Bool:=if side=1 then decide (y<x)else decide (x<y)
structure I3 where
 side:Int
 x:Int
 y:Int
def Jv:gh:=fp I3 (λi=>[zB i.side,zB i.x,zB i.y]) i6 (λ_=>True) (λi=>yL (xK i.side i.x i.y)) i6
def vy (side:Int) (l:List Lv) (i:Nat):Prop:=∀a,l[i]?=ba a->1<=a.dr/\1<=a.count/\∀j b,i=j+1->l[j]?=ba b->xK side b.dm a.dm=ar
def oh (side:Int) (s:Sd):Prop:=(∀i,vy side s.levels i)/\s.levels.length<=255/\(s.has=ar->1<=s.imp.dr/\1<=s.imp.count)/\(s.has=aq->s.imp=⟨0,0,0⟩)
def wO (v:Vw):Prop:=(∀b∈v,oh 1 b.1/\oh 2 b.2)/\v.length<=255
noncomputable def wK (side:Int) (s:Sd):Bool:=decide (oh side s)
noncomputable def fN (v:Vw):Bool:=decide (wO v)
structure Ms where
 side:Int
 s:Sd
noncomputable def DP:gh:=fp Ms (λi=>[zB i.side,OA i.s]) i6 (λi=>i.s.levels.length<=1099511627776) (λi=>yL (wK i.side i.s)) i6
def yWj:List gr:=[{ι:=Nat,du:=λj=>[(10,zB j)],rows:=λ_=>[]}]
@[reducible] def xZ (v:Vw):Prop:=v.length<=1099511627776/\∀b∈v,b.1.levels.length<=1099511627776/\b.2.levels.length<=1099511627776
noncomputable def DT:gh:=fp Vw (λv=>[zw v]) i6 xZ (λv=>yL (fN v)) i6
def yWo:List gr:=[{ι:=Nat,du:=λj=>[(8,zB j)],rows:=λ_=>[]}]
def qH (l:Lv):i4:=le l.dm 8++le l.dr 8++le l.count 8
structure LG where
 l:i4
 v:Lv
def TT:gh:=fp LG (λi=>[.nm 0 0,RT i.v]) (λi=>[Wr i.l]) (λi=>i.l.length+24<=1099511627776) (λ_=>rE) (λi=>[Wr (i.l++qH i.v)])
def tL (s:Sd):i4:=[iY s.levels.length]++s.levels.flatMap qH++(if s.has then[iY 1]++qH s.imp else[iY 0])
def kD (b:Sd×Sd):i4:=tL b.1++tL b.2
def kR (v:Vw) (seq:Int):i4:=le seq 8++[iY v.length]++v.flatMap kD
noncomputable def xU (v:Vw) (seq:Int):i4:=if wO v then kR v seq++le (dP (kR v seq)) 4 else[]
noncomputable def Pg (v:Vw):Int:=if wO v then 0 else 12
structure Hu where
 v:Vw
 seq:Int
noncomputable def TF:gh:=fp Hu (λi=>[zw i.v,zB i.seq]) i6 (λi=>xZ i.v) (λi=> .je [ow 1 (bE (xU i.v i.seq)),zB (Pg i.v)]) i6
def xJa (i:Hu):List gr:=[
 {ι:=Nat,du:=λj=>[(6,.nm 0 0),(28,zB j)],rows:=λj=>[Wr (le i.seq 8++[iY i.v.length]++(i.v.take j).flatMap kD)]},
 {ι:=Unit,du:=λ_=>[],rows:=λ_=>[],un:=3},
 {ι:=i4×List Lv×Nat,du:=λx=>[(6,.nm 0 0),(44,zB x.2.2)],rows:=λx=>[Wr (x.1++(x.2.1.take x.2.2).flatMap qH)]}]
def y0t (i:I3):Prop:=
 dp (i.side==1) (∃(o:Unit),xK i.side i.x i.y=decide (i.x>i.y)/\True) (∃(o:Unit),xK i.side i.x i.y=decide (i.x<i.y)/\True)
def zCp (a:Nat) (b:Nat->Prop) (c:Nat->Nat) (d:Ms):Prop:=∃(e:Nat),QO e a b c (dl (ac [V.own 0,V.d (dI d.s.imp.dm),V.d (dI d.s.imp.dr),V.d (dI d.s.imp.count),V.d (D.v (.bool d.s.has))] 137)/\dl (ae 3 (au im d.s.levels)))
def dH (a:Ms):=((au im a.s.levels).length:Int)
def yGn (i:Ms):Prop:=
 ∃(a:Nat),(a:Int)=0/\∃(b:Nat->Prop),∃(c:Nat->Nat),b a/\∀(d:Nat),b d->dp (decide ((d:Int)<(dH i))) ((0<=(d:Int)/\(d:Int)<(dH i))/\∃(e:Int),∃(f:Int),∃(g:Int),zD (au im i.s.levels) (d:Int).toNat 0 3=ba [dI e,dI f,dI g]/\dp (decide (f<1)) (dx (wK i.side i.s=aq/\True)) (dp (decide (g<1)) (dx (wK i.side i.s=aq/\True)) (dp (decide ((d:Int)>0)) ((0<=ag.wrap ((d:Int)-1)/\ag.wrap ((d:Int)-1)<(dH i))/\∃(h:Int),zD (au im i.s.levels) (ag.wrap ((d:Int)-1)).toNat 0 1=ba [dI h]/\∃(j:I3),j.side=i.side/\j.x=h/\j.y=e/\True/\ff (dp (!xK j.side j.x j.y) (dx (wK i.side i.s=aq/\True)) (zCp d b c i))) (zCp d b c i)))) (dp (!i.s.has) (dp (decide ((dH i)<=255)) (dx (wK i.side i.s=(i.s.imp.dm==0 && (i.s.imp.dr==0 && (i.s.imp.count==0 && ar)))/\True)) (dx (wK i.side i.s=aq/\True))) (dp (decide ((dH i)<=255)) (dp (decide (i.s.imp.dr>=1)) (dx (wK i.side i.s=decide (i.s.imp.count>=1)/\True)) (dx (wK i.side i.s=aq/\True))) (dx (wK i.side i.s=aq/\True))))
def dA (a:Nat) (b:Vw):Prop:=0<=(a:Int)/\(a:Int)<((au zA b).length:Int)
@[reducible] def QN (a:Sd)(b:Q_ D)(c d e:Int)(f:Bool)(R:Prop):Prop:=au im a.levels=b/\a.imp.dm=c/\a.imp.dr=d/\a.imp.count=e/\a.has=f/\R
def yEo (i:Vw):Prop:=
 ∃(a:Nat),(a:Int)=0/\∃(b:Nat->Prop),∃(c:Nat->Nat),b a/\∀(d:Nat),b d->dp (decide ((d:Int)<((au zA i).length:Int))) ((dA d i)/\∃(e:Q_ D),∃(f:Int),∃(g:Int),∃(h:Int),∃(j:Bool),∃(k:Q_ D),∃(l:Int),∃(m:Int),∃(n:Int),∃(p:Bool),zD (au zA i) (d:Int).toNat 0 10=ba [D.ro 3 e,dI f,dI g,dI h,D.v (.bool j),D.ro 3 k,dI l,dI m,dI n,D.v (.bool p)]/\∃(q:Ms),q.side=1/\QN q.s e f g h j (q.s.levels.length<=1099511627776/\ff (dp (!wK q.side q.s) (dx (fN i=aq/\True)) (∃(s:Ms),s.side=2/\QN s.s k l m n p (s.s.levels.length<=1099511627776/\ff (dp (!wK s.side s.s) (dx (fN i=aq/\True)) (∃(u:Nat),QO u d b c (dl (ac [V.own 0] 59)/\dl (ae 10 (au zA i)))))))))) (dx (fN i=decide (((au zA i).length:Int)<=255)/\True))
def xFs (i:LG):Prop:=
 ∃(gz:WN),gz.n=i.v.dm/\ab i4 2 ku gz.l=Wr i.l/\gz.ok/\∀(o:Unit),True->∃(mf:WN),mf.n=i.v.dr/\ab i4 2 ku mf.l=ab i4 2 ku (gz.l++le gz.n 8)/\mf.ok/\∀(o:Unit),True->∃(mh:WN),mh.n=i.v.count/\ab i4 2 ku mh.l=ab i4 2 ku (mf.l++le mf.n 8)/\mh.ok/\∀(o:Unit),True->∃(o:Unit),ab i4 2 ku (i.l++qH i.v)=ab i4 2 ku (mh.l++le mh.n 8)/\True
def ZE (a:Hu):Prop:=ac [V.own 0] 59=ac [V.own 0] 59/\dl (ae 10 (au zA a.v))
def Y' (a:Nat->Prop) (b:Nat) (c:Nat->Nat) (d:Nat) (e:Hu):Prop:=a b/\c b<c d/\ZE e
def tE (a:Hu) (b:Nat):=(le a.seq 8++[iY ((az a.v):Int)]++List.flatMap kD (av b a.v))
def uU (a:i4×List Lv×Nat):=(a.fst++List.flatMap qH (av a.snd.snd a.snd.fst))
def z3c (a:Int) (b:Int) (c:Int) (d:Bool) (e:Q_ D) (f:Q_ D) (g:Int) (h:Int) (j:Int) (k:Bool) (l:Hu):Prop:=ac [V.own 5,V.d (dI a),V.d (dI b),V.d (dI c),V.d (D.v (.bool d))] 137=ac [V.own 5,V.d (dI a),V.d (dI b),V.d (dI c),V.d (D.v (.bool d))] 137/\dl (ae 3 e)/\dl (ae 3 f)/\dl (ac [V.own 5,V.d (dI a),V.d (dI b),V.d (dI c),V.d (D.v (.bool d)),V.own 6,V.d (dI g),V.d (dI h),V.d (dI j),V.d (D.v (.bool k))] 138)/\ZE l
@[reducible] def O0 (a:WN)(b:i4×List Lv×Nat)(R:Prop):Prop:=ab i4 2 ku a.l=ab i4 2 ku (uU b)/\a.ok/\R
def z3a (a:WN) (b:Q_ D) (c:Int) (d:Int) (e:Int) (f:Bool) (g:Int) (h:Int) (j:Int) (k:Bool) (l:Q_ D) (m:Hu) (n:Nat) (p:Nat->Prop) (q:Nat->Nat):Prop:=a.ok/\ff (∃(s:i4×List Lv×Nat),(s.snd.snd:Int)=0/\ab i4 2 ku (uU s)=ab i4 2 ku (a.l++[iY a.n])/\∃(t:i4×List Lv×Nat->Prop),∃(u:i4×List Lv×Nat->Nat),t s/\∀(v:i4×List Lv×Nat),t v->dp (decide ((v.snd.snd:Int)<(b.length:Int))) ((0<=(v.snd.snd:Int)/\(v.snd.snd:Int)<(b.length:Int))/\∃(w:Int),∃(x:Int),∃(y:Int),zD b (v.snd.snd:Int).toNat 0 3=ba [dI w,dI x,dI y]/\∃(z:LG),z.v.dm=w/\z.v.dr=x/\z.v.count=y/\ab i4 2 ku z.l=ab i4 2 ku (uU v)/\z.l.length+(24:Nat)<=(1099511627776:Nat)/\ff (∃(lu:i4×List Lv×Nat),(lu.snd.snd:Int)=ag.wrap ((v.snd.snd:Int)+1)/\ab i4 2 ku (uU lu)=ab i4 2 ku (z.l++qH z.v)/\t lu/\u lu<u v/\dl (ac [V.own 6,V.d (dI c),V.d (dI d),V.d (dI e),V.d (D.v (.bool f))] 137)/\z3c g h j k b l c d e f m)) (dp (!f) (∃(w:WN),w.n=0/\O0 w v (ff (∃(y:Nat),(y:Int)=ag.wrap ((n:Int)+1)/\ab i4 2 ku (tE m y)=ab i4 2 ku (w.l++[iY w.n])/\Y' p y q n m))) (∃(w:WN),w.n=1/\O0 w v (ff (∃(y:LG),y.v.dm=c/\y.v.dr=d/\y.v.count=e/\ab i4 2 ku y.l=ab i4 2 ku (w.l++[iY w.n])/\y.l.length+(24:Nat)<=(1099511627776:Nat)/\ff (∃(lk:Nat),(lk:Int)=ag.wrap ((n:Int)+1)/\ab i4 2 ku (tE m lk)=ab i4 2 ku (y.l++qH y.v)/\Y' p lk q n m))))))
def qL (a:Sd×Sd):Prop:=a.fst.levels.length<=1099511627776/\a.snd.levels.length<=1099511627776
def sI (a:Vw):Prop:=az a<=1099511627776/\∀(b:Sd×Sd),b∈a->qL b
@[reducible] def DG (a b:WN)(R:Prop):Prop:=ab i4 2 ku a.l=ab i4 2 ku (b.l++le b.n 8)/\a.ok/\R
@[reducible] def OZ (a:WN)(R:Prop):Prop:=ab i4 2 ku a.l=ab i4 2 ku []/\a.ok/\R
def xEz (i:Hu):Prop:=
 ∃(a:Vw),au zA a=au zA i.v/\(sI a)/\ff (dp (!fN a) (dx (bE (xU i.v i.seq)=[]/\Pg i.v=12/\True)) (dx (True/\ff (∃(e:WN),e.n=i.seq/\OZ e (ff (∃(g:WN),g.n=((au zA i.v).length:Int)/\DG g e (ff (∃(j:Nat),(j:Int)=0/\ab i4 2 ku (tE i j)=ab i4 2 ku (g.l++[iY g.n])/\∃(k:Nat->Prop),∃(l:Nat->Nat),k j/\∀(m:Nat),k m->dp (decide ((m:Int)<((au zA i.v).length:Int))) ((0<=(m:Int)/\(m:Int)<((au zA i.v).length:Int))/\∃(n:Q_ D),∃(p:Int),∃(q:Int),∃(r:Int),∃(s:Bool),∃(t:Q_ D),∃(u:Int),∃(v:Int),∃(w:Int),∃(x:Bool),zD (au zA i.v) (m:Int).toNat 0 10=ba [D.ro 3 n,dI p,dI q,dI r,D.v (.bool s),D.ro 3 t,dI u,dI v,dI w,D.v (.bool x)]/\∃(y:WN),y.n=(n.length:Int)/\ab i4 2 ku y.l=ab i4 2 ku (tE i m)/\y.ok/\ff (∃(lk:i4×List Lv×Nat),(lk.snd.snd:Int)=0/\ab i4 2 ku (uU lk)=ab i4 2 ku (y.l++[iY y.n])/\∃(lu:i4×List Lv×Nat->Prop),∃(jq:i4×List Lv×Nat->Nat),lu lk/\∀(oQ:i4×List Lv×Nat),lu oQ->dp (decide ((oQ.snd.snd:Int)<(n.length:Int))) ((0<=(oQ.snd.snd:Int)/\(oQ.snd.snd:Int)<(n.length:Int))/\∃(iR:Int),∃(qo:Int),∃(qe:Int),zD n (oQ.snd.snd:Int).toNat 0 3=ba [dI iR,dI qo,dI qe]/\∃(Cp:LG),Cp.v.dm=iR/\Cp.v.dr=qo/\Cp.v.count=qe/\ab i4 2 ku Cp.l=ab i4 2 ku (uU oQ)/\Cp.l.length+(24:Nat)<=(1099511627776:Nat)/\ff (∃(BR:i4×List Lv×Nat),(BR.snd.snd:Int)=ag.wrap ((oQ.snd.snd:Int)+1)/\ab i4 2 ku (uU BR)=ab i4 2 ku (Cp.l++qH Cp.v)/\lu BR/\jq BR<jq oQ/\z3c p q r s t n u v w x i)) (dp (!s) (∃(iR:WN),iR.n=0/\O0 iR oQ (ff (∃(qe:WN),qe.n=(t.length:Int)/\ab i4 2 ku qe.l=ab i4 2 ku (iR.l++[iY iR.n])/\z3a qe t u v w x p q r s n i m k l))) (∃(iR:WN),iR.n=1/\O0 iR oQ (ff (∃(qe:LG),qe.v.dm=p/\qe.v.dr=q/\qe.v.count=r/\ab i4 2 ku qe.l=ab i4 2 ku (iR.l++[iY iR.n])/\qe.l.length+(24:Nat)<=(1099511627776:Nat)/\ff (∃(Mq:WN),Mq.n=(t.length:Int)/\ab i4 2 ku Mq.l=ab i4 2 ku (qe.l++qH qe.v)/\z3a Mq t u v w x p q r s n i m k l))))))) (∃(n:i4),ab i4 2 ku n=ab i4 2 ku (tE i m)/\n.length<=1099511627776/\ff (∃(q:i4),bE q=bE n/\q.length<=1099511627776/\ff (∃(s:WN),s.n=dP q/\ab i4 2 ku s.l=ab i4 2 ku n/\(s.l.length+(8:Nat)<=(1099511627776:Nat)/\0<=s.n/\s.n<4294967296)/\ff (∃(u:i4),ab i4 2 ku u=ab i4 2 ku (s.l++le s.n 4)/\u.length<=1099511627776/\ff (dx (bE (xU i.v i.seq)=bE u/\Pg i.v=0/\True))))))))))))))
def N9 {α:Type} {f:α->List D} {l:List α} {i n:Nat} {x:α} (h:l[i]? =ba x) (hn:(f x).length=n):zD (l.map f) i 0 n=ba (f x):=by
 unfold zD;rw[qt,h];simp only[wg,nq,hn,Nat.ble_eq_true_of_le (ju n),cond_true,Ee];rw[<- hn,mz (ju _)]
def xEf {α:Type} {f:α->List D} {l:List α} {i g n:Nat} {x:α} {r:List D} (h:l[i]? =ba x) (hn:g+n<=(f x).length) (hr:((f x).drop g).take n=r):zD (l.map f) i g n=ba r:=by
 unfold zD;rw[qt,h];simp only[wg,Nat.ble_eq_true_of_le hn,cond_true,hr]
def getD {α:Type} {l:List α} {i:Nat} (h:i<l.length):∃x,l[i]? =ba x:=⟨_,vd h⟩
def Z2:Jv.ok Tryz.prog 211:=gx (V:=y0t) mixed fk 0 i6 i6 [] Tryz.func211 λ(i:I3) _=>by
 refine Cv.dp.mk (λe=>⟨(),?_,trivial⟩) (λe=>⟨(),?_,trivial⟩)
 ·have e:i.side=1:=i9 e
  simp[xK,e]
 ·have e:i.side≠1:=i9 e
  simp[xK,e]
def OB {side:Int} {s:Sd} (h:¬oh side s):wK side s=aq:=jv h
def vy.of {side:Int} {l:List Lv} {i:Nat} {x:Lv} (hx:l[i]? =ba x) (h1:1<=x.dr) (h2:1<=x.count) (h3:∀j b,i=j+1->l[j]? =ba b->xK side b.dm x.dm=ar):vy side l i:=by
 intro a ha;rw[hx]at ha;cases ha;exact⟨h1,h2,h3⟩
def yVz (i:Ms) (h:DP.dp i):yGn i:=by
 unfold yGn ff dx dH zCp QO dI;have h:i.s.levels.length<=1099511627776:=h;refine⟨0,rfl,λj=>j<=i.s.levels.length/\∀k,k<j->vy i.side i.s.levels k,λj=>i.s.levels.length-j,⟨oM,by intro k hk;omega⟩,λj hj=>zG (λgu=> ?_) (λgu=> ?_)⟩
 ·obtain⟨hj1,HU⟩:=hj;rw[ia]at gu ⊢;obtain⟨x,hx⟩:=getD (l:=i.s.levels) (i:=j) oM;have w1:ag.wrap ((j:Int)+1)=((j+1:Nat):Int):=by rw[iw (by omega)];rfl
  have next:vy i.side i.s.levels j->(λj=>j<=i.s.levels.length/\∀k,k<j->vy i.side i.s.levels k) (j+1):=λhl=>⟨oM,λk hk=>by
   rcases uz k j with h'|h'
   ·exact HU k h'
   ·obtain rfl:k=j:=by omega
    exact hl⟩
  refine⟨⟨oM,oM⟩,x.dm,x.dr,x.count,N9 hx rfl,zG (λhq=> ?_) (λhq=>zG (λhc=> ?_) (λhc=>zG (λhp=> ?_) (λhp=> ?_)))⟩
  ·exact⟨(),OB λhr=>by have:=(hr.1 j x hx).1;omega,trivial⟩
  ·exact⟨(),OB λhr=>by have:=(hr.1 j x hx).2.1;omega,trivial⟩
  ·have w0:ag.wrap ((j:Int)-1)=((j-1:Nat):Int):=by rw[iw (by omega)];omega
   obtain⟨y,hy⟩:=getD (l:=i.s.levels) (i:=j-1) oM;refine⟨⟨by rw[w0];omega,by rw[w0];omega⟩,y.dm,by rw[w0];exact xEf (n:=1) hy (by show 0+0+1<=3;omega) rfl,⟨i.side,y.dm,x.dm⟩,rfl,rfl,rfl,trivial,λ_ _=> ?_⟩;refine Cv.dp.mk (λhb=>⟨(),OB λhr=> ?_,trivial⟩) (λhb=>⟨j+1,w1.symm,next (vy.of hx oM oM ?_),Z9,gn⟩)
   ·have:=(hr.1 j x hx).2.2 (j-1) y oM hy;simp only[Dp]at hb;rw[hb]at this;cases this
   ·intro k b hk AD;obtain rfl:k=j-1:=by omega
    rw[hy]at AD;cases AD;simpa using hb
  ·exact⟨j+1,w1.symm,next (vy.of hx oM oM λk b hk _=>by omega),Z9,gn⟩
 ·obtain⟨hj1,HU⟩:=hj;rw[ia]at gu ⊢;obtain rfl:j=i.s.levels.length:=by omega
  have te:∀k,vy i.side i.s.levels k:=λk=>by
   rcases uz k i.s.levels.length with h'|h'
   ·exact HU k h'
   ·intro a ha;rw[ui h']at ha;cases ha
  refine Cv.dp.mk (λhh=>zG (λhl=>⟨(),?_,trivial⟩) (λhl=>⟨(),OB λhr=>by have:=hr.2.1;omega,trivial⟩))
   (λhh=>zG (λhl=>zG (λhq=>⟨(),?_,trivial⟩) (λhq=>⟨(),OB λhr=> ?_,trivial⟩)) (λhl=>⟨(),OB λhr=>by have:=hr.2.1;omega,trivial⟩))
  ·have hh:i.s.has=aq:=i9 hh
   rw[CF];simp only[wK,tn,lr,Ix,and_true];constructor
   ·intro hr;have:=hr.2.2.2 hh;rw[this];exact⟨rfl,rfl,rfl⟩
   ·rintro⟨e1,e2,e3⟩;refine⟨te,oM,(λhc=>by rw[hh]at hc;cases hc),λ_=> ?_⟩;cases hi:i.s.imp;rw[hi]at e1 e2 e3;simp_all
  ·have hh:i.s.has=ar:=i9 hh
   rw[CF];simp only[wK,tn];exact⟨λhr=>(hr.2.2.1 hh).2,λhc=>⟨te,oM,λ_=>⟨hq,hc⟩,λhc=>by rw[hh]at hc;cases hc⟩⟩
  ·have hh:i.s.has=ar:=i9 hh
   have:=(hr.2.2.1 hh).1;omega
def yKm:DP.ok Tryz.prog 215:=gx mixed (dw Z2 fk) 0 i6 (λ_=>yWj) [] Tryz.func215 yVz
def vwF {v:Vw} (h:¬wO v):fN v=aq:=jv h
def yZe (v:Vw) (h:DT.dp v):yEo v:=by
 unfold yEo QN QO ff dx dA dI;obtain⟨h1,h2⟩:xZ v:=h;refine⟨0,rfl,λj=>j<=v.length/\∀k b,k<j->v[k]? =ba b->oh 1 b.1/\oh 2 b.2,λj=>v.length-j,⟨oM,by intro k b hk;omega⟩,λj hj=>zG (λgu=> ?_) (λgu=> ?_)⟩
 ·obtain⟨hj1,HU⟩:=hj;rw[ia]at gu ⊢;obtain⟨x,hx⟩:=getD (l:=v) (i:=j) oM;have hm:=lh hx;have w1:ag.wrap ((j:Int)+1)=((j+1:Nat):Int):=by rw[iw (by omega)];rfl
  refine⟨⟨oM,oM⟩,_,_,_,_,_,_,_,_,_,_,N9 hx rfl,⟨1,x.1⟩,rfl,rfl,rfl,rfl,rfl,rfl,(h2 x hm).1,λ_ _=>Cv.dp.mk (λhb=> ?_) (λhb=>⟨⟨2,x.2⟩,sy ⟨rfl,(h2 x hm).2,λ_ _=>Cv.dp.mk (λni=> ?_) (λni=> ?_)⟩⟩)⟩
  ·refine⟨(),vwF λhr=> ?_,trivial⟩;simp only[Dp,wK,decide_eq_false_iff_not]at hb;exact hb (hr.1 x hm).1
  ·refine⟨(),vwF λhr=> ?_,trivial⟩;simp only[Dp,wK,decide_eq_false_iff_not]at ni;exact ni (hr.1 x hm).2
  ·simp only[Bool.not_eq_false',wK,tn]at hb ni;refine⟨j+1,w1.symm,⟨oM,λk b hk AD=> ?_⟩,Z9,gn⟩;rcases uz k j with h'|h'
   ·exact HU k b h' AD
   ·obtain rfl:k=j:=by omega
    rw[hx]at AD;cases AD;exact⟨hb,ni⟩
 ·obtain⟨hj1,HU⟩:=hj;rw[ia]at gu ⊢;obtain rfl:j=v.length:=by omega
  refine⟨(),?_,trivial⟩;rw[CF];simp only[fN,tn];constructor
  ·intro hr;have:=hr.2;omega
  ·intro hr;refine⟨λb hb=> ?_,oM⟩;obtain⟨k,hk⟩:=Oq hb;exact HU k b (jm.1 hk).1 hk
def zXu:DT.ok Tryz.prog 150:=gx mixed (dw yKm fk) 0 i6 (λ_=>yWo) [] Tryz.func150 yZe
def yYs:TT.ok Tryz.prog 151:=gx (V:=xFs) mixed (dw UZ fk) 0 i6 i6 [] Tryz.func151 λ(i:LG) h=>by
 have h:i.l.length+24<=1099511627776:=h;refine⟨⟨i.l,i.v.dm⟩,rfl,rfl,(show i.l.length+8<=1099511627776 by omega),λ_ _=>⟨⟨i.l++le i.v.dm 8,i.v.dr⟩,rfl,rfl,?_,λ_ _=>⟨⟨i.l++le i.v.dm 8++le i.v.dr 8,i.v.count⟩,rfl,rfl,?_,λ_ _=>⟨(),?_,trivial⟩⟩⟩⟩
 ·show _+8<=_;rw[iv,y8];omega
 ·show _+8<=_;rw[iv,iv,y8,y8];omega
 ·simp only[qH,jd]
def YT {α:Type} {f:α->i4} {c:Nat}:∀{l:List α},(∀x∈l,(f x).length<=c)->(l.flatMap f).length<=c*l.length
 |[],_=>by simp
 |a::l,h=>by
  have h1:=h a (by simp);have h2:=YT (l:=l) λx hx=>h x (by simp[hx])
  simp only[vi,iv,iF,Nat.mul_add,Nat.mul_one];omega
def tO {α β:Type} {f:α->List β} {l:List α} {k:Nat} {x:α} (h:l[k]? =ba x):(l.take (k+1)).flatMap f=(l.take k).flatMap f++f x:=by
 rw[qq,h];simp
def zZi (l:Lv):(qH l).length=24:=by simp[qH,y8]
def lP (l:List Lv):(l.flatMap qH).length<=24*l.length:=YT λx _=>by rw[zZi];omega
def Z3 {s:Sd} (h:s.levels.length<=255):(tL s).length<=6146:=by
 have:=lP s.levels;unfold tL;rw[iv,iv,Ba];split
 ·rw[iv,zZi,Ba];omega
 ·rw[Ba];omega
def oh.len {n:Int} {s:Sd} (h:oh n s):s.levels.length<=255:=h.2.1
def zOw {v:Vw} (h:wO v) (j:Nat):((v.take j).flatMap kD).length<=3134460:=by
 have h1:∀x∈v.take j,(kD x).length<=12292:=λx hx=>by
  have:=h.1 x (Ot hx);have a:=Z3 this.1.len;have b:=Z3 this.2.len;unfold kD;rw[iv];omega
 have h2:=YT h1;have h3:=h.2;rw[nn]at h2;omega
def yKz (n:Int):0<=ak.wrap n/\ak.wrap n<4294967296:=by
 have:ak.wrap n=n % 4294967296:=rfl;rw[this];omega
def rB (l:i4):0<=dP l/\dP l<4294967296:=yKz _
def xGx (i:Hu) (h:TF.dp i):xEz i:=by
 unfold xEz DG O0 OZ ff dx sI qL z3a O0 ff z3c uU tE Y' ZE dI;refine⟨i.v,rfl,h,λ_ _=>Cv.dp.mk (λe=> ?_) (λe=> ?_)⟩
 ·have hn:¬wO i.v:=by simpa[fN]using e
  exact⟨(),by rw[xU,ez hn];rfl,by rw[Pg,ez hn],trivial⟩
 have hr:wO i.v:=by simpa[fN]using e
 have hB:∀j,(le i.seq 8++[iY i.v.length]++(i.v.take j).flatMap kD).length<=3134470:=λj=>by
  have:=zOw hr j;simp only[iv,y8,iF,tz];omega
 refine⟨(),trivial,λ_ _=>⟨⟨[],i.seq⟩,rfl,rfl,(show 0+8<=1099511627776 by omega),λ_ _=>⟨⟨le i.seq 8,i.v.length⟩,by rw[ia],rfl,(show(le i.seq 8).length+8<=1099511627776 by rw[y8];omega),λ_ _=>⟨0,rfl,by simp,λj=>j<=i.v.length,λj=>i.v.length-j,Z9,λj hj=>zG (λgu=> ?_) (λgu=> ?_)⟩⟩⟩⟩
 ·dsimp only at hj;rw[ia]at gu ⊢;obtain⟨x,hx⟩:=getD (l:=i.v) (i:=j) oM;have hm:=hr.1 x (lh hx);have l1:=hm.1.len;have l2:=hm.2.len;have hl:=hr.2;have w1:ag.wrap ((j:Int)+1)=((j+1:Nat):Int):=by rw[iw (by omega)];rfl
  have Yh:=hB j;have SD:le i.seq 8++[iY i.v.length]++(i.v.take (j+1)).flatMap kD=le i.seq 8++[iY i.v.length]++(i.v.take j).flatMap kD++kD x:=by
   rw[tO hx];simp only[jd]
  generalize hb:le i.seq 8++[iY i.v.length]++(i.v.take j).flatMap kD=B at Yh SD;have lv:∀(C:i4) (l:List Lv) (k:Nat),C.length<=5000000->l.length<=255->((C++(l.take k).flatMap qH).length+24<=1099511627776):=λC l k hC hl=>by
   have:=lP (l.take k);rw[iv];rw[nn]at this;omega
  have lw:∀(k:Nat),k<255->ag.wrap ((k:Int)+1)=((k+1:Nat):Int):=λk hk=>by rw[iw (by omega)];rfl
  have le1:=lP x.1.levels;have le2:=lP x.2.levels;refine⟨⟨oM,oM⟩,_,_,_,_,_,_,_,_,_,_,N9 hx rfl,⟨B,x.1.levels.length⟩,by rw[ia],rfl,by show B.length+8<=_;omega,λ_ _=>⟨(B++[iY x.1.levels.length],x.1.levels,0),rfl,by simp,λy=>∃k,k<=x.1.levels.length/\y=(B++[iY x.1.levels.length],x.1.levels,k),λy=>x.1.levels.length-y.2.2,⟨0,oM,gn⟩,?_⟩⟩;rintro _ ⟨k,hk,rfl⟩;dsimp only;refine zG (λMH=> ?_) (λMH=> ?_)
  ·rw[ia]at MH ⊢;obtain⟨y,hy⟩:=getD (l:=x.1.levels) (i:=k) oM;refine⟨⟨oM,oM⟩,_,_,_,N9 hy rfl,⟨_,y⟩,rfl,rfl,rfl,rfl,lv _ _ _ (by rw[iv];simp;omega) l1,λ_ _=>⟨(_,_,k+1),(lw k oM).symm,?_,⟨k+1,oM,gn⟩,Z9,gn⟩⟩;dsimp only;rw[tO hy];simp only[jd]
  ·rw[ia]at MH;obtain rfl:k=x.1.levels.length:=by omega
   rw[mz (ju _)];have e1:tL x.1=[iY x.1.levels.length]++x.1.levels.flatMap qH++(if x.1.has then[iY 1]++qH x.1.imp else[iY 0]):=rfl;have e2:tL x.2=[iY x.2.levels.length]++x.2.levels.flatMap qH++(if x.2.has then[iY 1]++qH x.2.imp else[iY 0]):=rfl;have bl:∀C:i4,C=B++tL x.1->C.length<=4000000:=λC e=>by
    subst e;have:=Z3 l1;rw[iv];omega
   refine Cv.dp.mk (λhh=> ?_) (λhh=> ?_)
   ·have hh:x.1.has=aq:=i9 hh
    rw[hh,ez (by simp)]at e1;refine⟨⟨B++[iY x.1.levels.length]++x.1.levels.flatMap qH,0⟩,rfl,rfl,(by dsimp only[WN.ok];simp only[iv,iF,tz];omega),λ_ _=> ?_⟩;have eC:B++[iY x.1.levels.length]++x.1.levels.flatMap qH++[iY 0]=B++tL x.1:=by rw[e1];simp only[jd]
    generalize B++[iY x.1.levels.length]++x.1.levels.flatMap qH++[iY 0]=C at eC
    (
    have hC:=bl C eC;refine⟨⟨C,x.2.levels.length⟩,by rw[ia],rfl,(show C.length+8<=1099511627776 by omega),λ_ _=>⟨(C++[iY x.2.levels.length],x.2.levels,0),rfl,by simp,λy=>∃k,k<=x.2.levels.length/\y=(C++[iY x.2.levels.length],x.2.levels,k),λy=>x.2.levels.length-y.2.2,⟨0,oM,gn⟩,?_⟩⟩;rintro _ ⟨k,hk,rfl⟩;dsimp only;refine zG (λxz=> ?_) (λxz=> ?_)
    ·rw[ia]at xz ⊢;obtain⟨y,hy⟩:=getD (l:=x.2.levels) (i:=k) oM;refine⟨⟨oM,oM⟩,_,_,_,N9 hy rfl,⟨_,y⟩,rfl,rfl,rfl,rfl,lv _ _ _ (by rw[iv];simp;omega) l2,λ_ _=>⟨(_,_,k+1),(lw k oM).symm,?_,⟨k+1,oM,gn⟩,Z9,gn⟩⟩;dsimp only;rw[tO hy];simp only[jd]
    ·rw[ia]at xz;obtain rfl:k=x.2.levels.length:=by omega
     rw[mz (ju _)];refine Cv.dp.mk (λxu=> ?_) (λxu=> ?_)
     ·have xu:x.2.has=aq:=i9 xu
      rw[xu,ez (by simp)]at e2;refine⟨⟨C++[iY x.2.levels.length]++x.2.levels.flatMap qH,0⟩,rfl,rfl,(by dsimp only[WN.ok];simp only[iv,iF,tz];omega),λ_ _=>⟨j+1,w1.symm,?_,oM,oM,gn⟩⟩;rw[SD,kD,<- jd,<- eC,e2];simp only[jd]
     ·have xu:x.2.has=ar:=i9 xu
      rw[xu,fh rfl]at e2;refine⟨⟨C++[iY x.2.levels.length]++x.2.levels.flatMap qH,1⟩,rfl,rfl,(by dsimp only[WN.ok];simp only[iv,iF,tz];omega),λ_ _=>⟨⟨_,x.2.imp⟩,rfl,rfl,rfl,rfl,(by simp only[iv,iF,tz];omega),λ_ _=>⟨j+1,w1.symm,?_,oM,oM,gn⟩⟩⟩;rw[SD,kD,<- jd,<- eC,e2];simp only[jd])
   ·have hh:x.1.has=ar:=i9 hh
    rw[hh,fh rfl]at e1;refine⟨⟨B++[iY x.1.levels.length]++x.1.levels.flatMap qH,1⟩,rfl,rfl,(by dsimp only[WN.ok];simp only[iv,iF,tz];omega),λ_ _=>⟨⟨_,x.1.imp⟩,rfl,rfl,rfl,rfl,(by simp only[iv,iF,tz];omega),λ_ _=> ?_⟩⟩;have eC:B++[iY x.1.levels.length]++x.1.levels.flatMap qH++[iY 1]++qH x.1.imp=B++tL x.1:=by rw[e1];simp only[jd]
    generalize B++[iY x.1.levels.length]++x.1.levels.flatMap qH++[iY 1]++qH x.1.imp=C at eC
    (
    have hC:=bl C eC;refine⟨⟨C,x.2.levels.length⟩,by rw[ia],rfl,(show C.length+8<=1099511627776 by omega),λ_ _=>⟨(C++[iY x.2.levels.length],x.2.levels,0),rfl,by simp,λy=>∃k,k<=x.2.levels.length/\y=(C++[iY x.2.levels.length],x.2.levels,k),λy=>x.2.levels.length-y.2.2,⟨0,oM,gn⟩,?_⟩⟩;rintro _ ⟨k,hk,rfl⟩;dsimp only;refine zG (λxz=> ?_) (λxz=> ?_)
    ·rw[ia]at xz ⊢;obtain⟨y,hy⟩:=getD (l:=x.2.levels) (i:=k) oM;refine⟨⟨oM,oM⟩,_,_,_,N9 hy rfl,⟨_,y⟩,rfl,rfl,rfl,rfl,lv _ _ _ (by rw[iv];simp;omega) l2,λ_ _=>⟨(_,_,k+1),(lw k oM).symm,?_,⟨k+1,oM,gn⟩,Z9,gn⟩⟩;dsimp only;rw[tO hy];simp only[jd]
    ·rw[ia]at xz;obtain rfl:k=x.2.levels.length:=by omega
     rw[mz (ju _)];refine Cv.dp.mk (λxu=> ?_) (λxu=> ?_)
     ·have xu:x.2.has=aq:=i9 xu
      rw[xu,ez (by simp)]at e2;refine⟨⟨C++[iY x.2.levels.length]++x.2.levels.flatMap qH,0⟩,rfl,rfl,(by dsimp only[WN.ok];simp only[iv,iF,tz];omega),λ_ _=>⟨j+1,w1.symm,?_,oM,oM,gn⟩⟩;rw[SD,kD,<- jd,<- eC,e2];simp only[jd]
     ·have xu:x.2.has=ar:=i9 xu
      rw[xu,fh rfl]at e2;refine⟨⟨C++[iY x.2.levels.length]++x.2.levels.flatMap qH,1⟩,rfl,rfl,(by dsimp only[WN.ok];simp only[iv,iF,tz];omega),λ_ _=>⟨⟨_,x.2.imp⟩,rfl,rfl,rfl,rfl,(by simp only[iv,iF,tz];omega),λ_ _=>⟨j+1,w1.symm,?_,oM,oM,gn⟩⟩⟩;rw[SD,kD,<- jd,<- eC,e2];simp only[jd])
 ·dsimp only at hj;rw[ia]at gu;obtain rfl:j=i.v.length:=by omega
  have Yh:=hB i.v.length;rw[mz (ju _)]at Yh ⊢;have hc:=rB (kR i.v i.seq);have hl:(kR i.v i.seq).length<=3134470:=Yh;have Ff:(kR i.v i.seq++le (dP (kR i.v i.seq)) 4).length<=1099511627776:=by rw[iv,y8];omega
  exact⟨kR i.v i.seq,rfl,oM,λ_ _=>⟨kR i.v i.seq,rfl,oM,λ_ _=>⟨⟨kR i.v i.seq,_⟩,rfl,rfl,⟨Z9,hc.1,hc.2⟩,λ_ _=>⟨_,rfl,Ff,λ_ _=>⟨(),by rw[xU,fh hr];rfl,by rw[Pg,fh hr],trivial⟩⟩⟩⟩⟩
def y9f:TF.ok Tryz.prog 73:=gx mixed (dw zXu (dw PC (dw UZ (dw Pt (dw yYs (dw Pw (dw UE (dw yBc fk)))))))) 0 i6 (λi=>xJa i) [] Tryz.func73 xGx
def RB.byte (r:RB):Int×RB:=(yX (r.n 1).iS,⟨(r.n 1).left,(r.n 1).bad⟩)
def RB.fx (r:RB):Int×RB:=(ag.wrap (yX (r.n 8).iS),⟨(r.n 8).left,(r.n 8).bad⟩)
def RB.lv (r:RB):Lv×RB:=(⟨r.fx.1,r.fx.2.fx.1,r.fx.2.fx.2.fx.1⟩,r.fx.2.fx.2.fx.2)
def RB.zx (r:RB):Nat->List Lv×RB
 |0=>([],r)
 |k+1=>((r.zx k).1++[(r.zx k).2.lv.1],(r.zx k).2.lv.2)
def RB.part (r:RB):List Lv×RB:=r.byte.2.zx r.byte.1.toNat
def RB.side (r:RB):(Sd×Bool)×RB:=
 if r.part.2.byte.1=1 then((⟨r.part.1,r.part.2.byte.2.lv.1,ar⟩,ar),r.part.2.byte.2.lv.2)
 else((⟨r.part.1,⟨0,0,0⟩,aq⟩,decide (r.part.2.byte.1<=1)),r.part.2.byte.2)
def RB.views (r:RB):Nat->(Vw×Bool)×RB
 |0=>(([],ar),r)
 |k+1=>(((r.views k).1.1++[((r.views k).2.side.1.1,(r.views k).2.side.2.side.1.1)],(r.views k).1.2 && (r.views k).2.side.1.2 && (r.views k).2.side.2.side.1.2),(r.views k).2.side.2.side.2)
def RB.head (r:RB):Int×RB:=r.fx.2.byte
def RB.all (r:RB):(Vw×Bool)×RB:=r.head.2.views r.head.1.toNat
def RB.lg (r:RB):Int:=if r.b then 10 else if 0<r.l.length then 15 else 0
@[reducible] def Ep (r:RB):fq:=Rd r.l r.b
@[reducible] def RB.ok (i:RB):Prop:=i.l.length<=1099511627776
def T0:gh:=fp RB (λi=>[.nm 0 0]) (λi=>[Ep i]) RB.ok (λi=>RT i.lv.1) (λi=>[Ep i.lv.2])
def KE:gh:=fp RB (λi=>[.nm 0 0]) (λi=>[Ep i]) RB.ok (λi=> .je [OA i.side.1.1,yL i.side.1.2]) (λi=>[Ep i.side.2])
def xDl (i:RB):List gr:=[{ι:=Nat,du:=λj=>[(0,.nm 0 0),(4,.nm 1 0),(8,zB j)],rows:=λj=>[Ep (i.byte.2.zx j).2,.cells [.own 2,zB 0,zB 0,zB 0,yL aq] 137,.own 135 3 ((i.byte.2.zx j).1.map im)]}]
def rF (b:i4):Prop:=4<=b.length/\le (dP (b.take (b.length-4))) 4=b.drop (b.length-4)
def yI (b:i4):RB:=⟨b.take (b.length-4),aq⟩
def aT (b:i4):Prop:=(yI b).all.1.2=ar/\(yI b).all.2.lg=0/\wO (yI b).all.1.1
noncomputable def bX (b:i4):Vw:=if rF b/\aT b then(yI b).all.1.1 else[]
noncomputable def pK (b:i4):Int:=if rF b/\aT b then(yI b).fx.1 else 0
noncomputable def Ar (b:i4):Int:=if rF b then if aT b then 0 else 12 else 14
noncomputable def TH:gh:=fp i4 (λb=>[ow 1 (bE b)]) i6 (λb=>b.length<=1099511627776) (λb=> .je [zw (bX b),zB (pK b),zB (Ar b)]) i6
def xHx (b:i4):List gr:=[
 {ι:=Nat,du:=λj=>[(7,.nm 0 0),(9,.nm 1 0),(10,yL ((yI b).head.2.views j).1.2),(44,zB j)],rows:=λj=>[Ep ((yI b).head.2.views j).2,.cells [.own 2] 59,.own 138 10 (((yI b).head.2.views j).1.1.map zA)]},
 {ι:=Unit,du:=λ_=>[],rows:=λ_=>[],un:=3}]
def xGs (i:RB):Prop:=
 ∃(gz:RB),ab (i4×Bool) 1 iU (gz.l,gz.b)=Ep i/\gz.l.length<=1099511627776/\∀(o:Unit),True->∃(mf:RB),ab (i4×Bool) 1 iU (mf.l,mf.b)=ab (i4×Bool) 1 iU ((gz.n 8).left,(gz.n 8).bad)/\mf.l.length<=1099511627776/\∀(o:Unit),True->∃(mh:RB),ab (i4×Bool) 1 iU (mh.l,mh.b)=ab (i4×Bool) 1 iU ((mf.n 8).left,(mf.n 8).bad)/\mh.l.length<=1099511627776/\∀(o:Unit),True->∃(o:Unit),ag.wrap (yX (i.n 8).iS)=ag.wrap (yX (gz.n 8).iS)/\ag.wrap (yX ((RB.mk (i.n 8).left (i.n 8).bad).n 8).iS)=ag.wrap (yX (mf.n 8).iS)/\ag.wrap (yX ((RB.mk ((RB.mk (i.n 8).left (i.n 8).bad).n 8).left ((RB.mk (i.n 8).left (i.n 8).bad).n 8).bad).n 8).iS)=ag.wrap (yX (mh.n 8).iS)/\ab (i4×Bool) 1 iU (((RB.mk ((RB.mk (i.n 8).left (i.n 8).bad).n 8).left ((RB.mk (i.n 8).left (i.n 8).bad).n 8).bad).n 8).left,((RB.mk ((RB.mk (i.n 8).left (i.n 8).bad).n 8).left ((RB.mk (i.n 8).left (i.n 8).bad).n 8).bad).n 8).bad)=ab (i4×Bool) 1 iU ((mh.n 8).left,(mh.n 8).bad)/\True
def rQ (a:RB):=((RB.mk (a.n 8).left (a.n 8).bad).n 8)
def mO (a:RB):=((RB.mk (rQ a).left (rQ a).bad).n 8)
def ZX (a:RB):=(yX (mO a).iS)
def qZ (a:RB) (b:Nat):=((RB.mk (a.n 1).left (a.n 1).bad).zx b)
def x5 (a:RB):=(yX (a.n 8).iS)
def y3n (i:RB):Prop:=
 ∃(a:RB),ab (i4×Bool) 1 iU (a.l,a.b)=Ep i/\a.l.length<=1099511627776/\ff (∃(c:Nat),(c:Int)=0/\ab (i4×Bool) 1 iU ((qZ i c).snd.l,(qZ i c).snd.b)=ab (i4×Bool) 1 iU ((a.n 1).left,(a.n 1).bad)/\dl ((0:Int))/\dl ((0:Int))/\dl ((0:Int))/\aq=aq/\au im (qZ i c).fst=[]/\∃(d:Nat->Prop),∃(e:Nat->Nat),d c/\∀(f:Nat),d f->dp (decide ((f:Int)<yX (a.n 1).iS)) (∃(g:RB),ab (i4×Bool) 1 iU (g.l,g.b)=ab (i4×Bool) 1 iU ((qZ i f).snd.l,(qZ i f).snd.b)/\g.ok/\ff (True/\True/\((au im (qZ i f).fst).length+1)*(24:Nat)<=(140737488355328:Nat)/\∃(j:Nat),(j:Int)=ag.wrap ((f:Int)+1)/\ab (i4×Bool) 1 iU ((qZ i j).snd.l,(qZ i j).snd.b)=ab (i4×Bool) 1 iU ((mO g).left,(mO g).bad)/\dl ((0:Int))/\dl ((0:Int))/\dl ((0:Int))/\aq=aq/\au im (qZ i j).fst=au im (qZ i f).fst++[[dI (ag.wrap (x5 g)),dI (ag.wrap (yX (rQ g).iS)),dI (ag.wrap (ZX g))]]/\d j/\e j<e f/\dl (ac (Sx.V.agg [V.d qN,V.d (dI 0),V.d (dI 0),V.d (dI 0),V.d (D.v (.bool aq))]).cl 137))) (∃(g:RB),ab (i4×Bool) 1 iU (g.l,g.b)=ab (i4×Bool) 1 iU ((qZ i f).snd.l,(qZ i f).snd.b)/\g.l.length<=1099511627776/\ff (dp (yX (g.n 1).iS==1) (∃(j:RB),ab (i4×Bool) 1 iU (j.l,j.b)=ab (i4×Bool) 1 iU ((g.n 1).left,(g.n 1).bad)/\j.ok/\ff (dx (au im i.side.fst.fst.levels=au im (qZ i f).fst/\i.side.fst.fst.imp.dm=ag.wrap (x5 j)/\i.side.fst.fst.imp.dr=ag.wrap (yX (rQ j).iS)/\i.side.fst.fst.imp.count=ag.wrap (ZX j)/\i.side.fst.fst.has=ar/\i.side.fst.snd=decide (yX (g.n 1).iS<=1)/\ab (i4×Bool) 1 iU (i.side.snd.l,i.side.snd.b)=ab (i4×Bool) 1 iU ((mO j).left,(mO j).bad)/\True))) (dx (au im i.side.fst.fst.levels=au im (qZ i f).fst/\i.side.fst.fst.imp.dm=0/\i.side.fst.fst.imp.dr=0/\i.side.fst.fst.imp.count=0/\i.side.fst.fst.has=aq/\i.side.fst.snd=decide (yX (g.n 1).iS<=1)/\ab (i4×Bool) 1 iU (i.side.snd.l,i.side.snd.b)=ab (i4×Bool) 1 iU ((g.n 1).left,(g.n 1).bad)/\True)))))
def qG (a:i4) (b:Nat):=((RB.mk ((RB.mk ((yI a).n 8).left ((yI a).n 8).bad).n 1).left ((RB.mk ((yI a).n 8).left ((yI a).n 8).bad).n 1).bad).views b)
def YV (a:i4) (b:Nat):=((au zA (qG a b).fst.fst).length+1)
def om:=(Sx.V.agg [V.d qN])
def z2x (a:Nat) (b:Nat) (c:i4) (d:RB) (e:RB) (f:Nat->Prop) (g:Nat->Nat) (h:i4):Prop:=(a:Int)=ag.wrap ((b:Int)+1)/\ab (i4×Bool) 1 iU ((qG c a).snd.l,(qG c a).snd.b)=ab (i4×Bool) 1 iU (d.side.snd.l,d.side.snd.b)/\au zA (qG c a).fst.fst=au zA (qG c b).fst.fst++[[D.ro 3 (au im e.side.fst.fst.levels),dI e.side.fst.fst.imp.dm,dI e.side.fst.fst.imp.dr,dI e.side.fst.fst.imp.count,D.v (.bool e.side.fst.fst.has),D.ro 3 (au im d.side.fst.fst.levels),dI d.side.fst.fst.imp.dm,dI d.side.fst.fst.imp.dr,dI d.side.fst.fst.imp.count,D.v (.bool d.side.fst.fst.has)]]/\f a/\g a<g b/\dl (ab i4 2 ku h)/\dl (af FJ 1 (bE h))/\dl (ac om.cl 59)
def YF (a:i4) (b:Nat) (c:RB) (d:RB) (e:Nat->Prop) (f:Nat->Nat) (g:i4):Prop:=(YV a b)*(112:Nat)<=(140737488355328:Nat)/\∃(h:Nat),(qG a h).fst.snd=aq/\z2x h b a c d e f g
def VI (a:i4):Prop:=0<=ag.wrap (((bE a).length:Int)-4)/\ag.wrap (((bE a).length:Int)-4)<=((bE a).length:Int)
def Vq (a:i4):Prop:=dx (au zA (bX a)=[]/\pK a=0/\Ar a=12/\True)
def PT (a:i4):=(ag.wrap (((bE a).length:Int)-4))
def xEx (b:i4):Prop:=
 dp (decide (ag.wrap (((bE b).length:Int)-4)<0)) (dx (au zA (bX b)=[]/\pK b=0/\Ar b=14/\True)) (dx (True/\ff ((VI b)/\∃(d:i4),bE d=av (PT b).toNat (bE b)/\d.length<=1099511627776/\ff (∃(f:WN),f.n=dP d/\ab i4 2 ku f.l=ab i4 2 ku []/\(f.l.length+(8:Nat)<=(1099511627776:Nat)/\0<=f.n/\f.n<4294967296)/\ff ((VI b)/\∃(h:ByteArray),dl ((1:Nat))/\ax (PT b).toNat (bE b)=j6 h/\∃(j:i4),ab i4 2 ku j=ab i4 2 ku (f.l++le f.n 4)/\j.length<=1099511627776/\ff ((∃(l:ByteArray),dl ((1:Nat))/\ax (PT b).toNat (bE b)=j6 l/\l=h)/\∃(l:ByteArray),dl ((1:Nat))/\bE j=j6 l/\dp (!l.toList==h.toList) (dx (au zA (bX b)=[]/\pK b=0/\Ar b=14/\True)) ((VI b)/\∃(m:i4),bE m=av (PT b).toNat (bE b)/\m.length<=1099511627776/\ff (∃(p:RB),ab (i4×Bool) 1 iU (p.l,p.b)=ab (i4×Bool) 1 iU (m,aq)/\p.l.length<=1099511627776/\ff (∃(r:RB),ab (i4×Bool) 1 iU (r.l,r.b)=ab (i4×Bool) 1 iU ((p.n 8).left,(p.n 8).bad)/\r.l.length<=1099511627776/\ff (∃(t:Nat),(qG b t).fst.snd=ar/\(t:Int)=0/\ab (i4×Bool) 1 iU ((qG b t).snd.l,(qG b t).snd.b)=ab (i4×Bool) 1 iU ((r.n 1).left,(r.n 1).bad)/\au zA (qG b t).fst.fst=[]/\∃(u:Nat->Prop),∃(v:Nat->Nat),u t/\∀(w:Nat),u w->dp (decide ((w:Int)<yX (r.n 1).iS)) (∃(x:RB),ab (i4×Bool) 1 iU (x.l,x.b)=ab (i4×Bool) 1 iU ((qG b w).snd.l,(qG b w).snd.b)/\x.ok/\ff (dp (qG b w).fst.snd (∃(z:RB),ab (i4×Bool) 1 iU (z.l,z.b)=ab (i4×Bool) 1 iU (x.side.snd.l,x.side.snd.b)/\z.ok/\ff (dp x.side.fst.snd ((YV b w)*(112:Nat)<=(140737488355328:Nat)/\∃(lu:Nat),(qG b lu).fst.snd=z.side.fst.snd/\z2x lu w b z x u v j) (YF b w z x u v j))) (∃(z:RB),ab (i4×Bool) 1 iU (z.l,z.b)=ab (i4×Bool) 1 iU (x.side.snd.l,x.side.snd.b)/\z.ok/\ff (YF b w z x u v j)))) (dp (!(qG b w).fst.snd) (Vq b) (∃(x:RB),ab (i4×Bool) 1 iU (x.l,x.b)=ab (i4×Bool) 1 iU ((qG b w).snd.l,(qG b w).snd.b)/\x.l.length<=1099511627776/\ff (dp ((if x.b=ar then(10:Int)else if 0<x.l.length then(15:Int)else(0:Int)) !=0) (Vq b) (∃(z:Vw),au zA z=au zA (qG b w).fst.fst/\(sI z)/\ff (dp (!fN z) (Vq b) (dx (au zA (bX b)=au zA (qG b w).fst.fst/\pK b=ag.wrap (x5 p)/\Ar b=0/\True)))))))))))))))))
def nR (i:RN):i.left.length<=i.l.length:=by
 unfold RN.left;split
 ·omega
 ·rw[pd];omega
def zFw (r:RB):0<=r.byte.1/\r.byte.1<=255:=by
 have hr:=uV (r.n 1).iS;have hl:=l9 (r.n 1);have h0:(256:Int) ^ (r.n 1).iS.length<=256 ^ 1:=by
  have:(256:Nat) ^ (r.n 1).iS.length<=256 ^ 1:=bg oM hl
  exact_mod_cast this
 exact⟨hr.1,by show yX _<=255;omega⟩
def uT {r:RB} (h:r.ok):r.byte.2.ok:=tm (nR _) h
def kO {r:RB} (h:r.ok):r.fx.2.ok:=tm (nR _) h
def y1l {r:RB} (h:r.ok):r.lv.2.ok:=kO (kO (kO h))
def yBx {r:RB} (h:r.ok):∀k,(r.zx k).2.ok
 |0=>h
 |k+1=>y1l (yBx h k)
def UJ {r:RB} (h:r.ok):r.part.2.ok:=yBx (uT h) _
def Vc {r:RB} (h:r.ok):r.side.2.ok:=by
 unfold RB.side;split
 ·exact y1l (uT (UJ h))
 ·exact uT (UJ h)
def Zi {r:RB} (h:r.ok):∀k,(r.views k).2.ok
 |0=>h
 |k+1=>Vc (Vc (Zi h k))
def z0q {r:RB}:∀k,(r.zx k).1.length=k
 |0=>rfl
 |k+1=>by show((r.zx k).1++[_]).length=_;rw[iv,z0q k];rfl
def z7j {r:RB}:r.side.1.1.levels.length<=255:=by
 have:r.part.1.length<=255:=by
  show(r.byte.2.zx r.byte.1.toNat).1.length<=255;rw[z0q];have:=zFw r;omega
 unfold RB.side;split<;>exact this
def zLs {r:RB}:∀k,(r.views k).1.1.length=k
 |0=>rfl
 |k+1=>by show((r.views k).1.1++[_]).length=_;rw[iv,zLs k];rfl
def zRd {r:RB}:∀k,∀b∈(r.views k).1.1,b.1.levels.length<=255/\b.2.levels.length<=255
 |0,b,h=>nomatch h
 |k+1,b,h=>by
  have h:b∈(r.views k).1.1++[_]:=h;rw[oK,ua]at h;rcases h with h|rfl
  ·exact zRd k b h
  ·exact⟨z7j,z7j⟩
def yYo:T0.ok Tryz.prog 214:=gx (V:=xGs) mixed (dw Zj fk) 0 i6 i6 [] Tryz.func214 λ(i:RB) h=>
 ⟨i,rfl,h,λ_ _=>⟨i.fx.2,rfl,kO h,λ_ _=>⟨i.fx.2.fx.2,rfl,kO (kO h),λ_ _=>⟨(),nf trivial⟩⟩⟩⟩
def wj {j:Nat} (h:j<=100000):((j+1:Nat):Int)=ag.wrap ((j:Int)+1):=by rw[iw (by omega)];rfl
def xEk (i:RB) (h:KE.dp i):y3n i:=by
 unfold y3n ff dx x5 qZ ZX mO rQ qN dI;have hb:=zFw i;have hp:i.part=i.byte.2.zx i.byte.1.toNat:=rfl;refine⟨i,rfl,h,λ_ _=>⟨0,nr ⟨rfl,λj=>j<=i.byte.1.toNat,λj=>i.byte.1.toNat-j,mn _,λj hj=>zG (λgu=> ?_) (λgu=> ?_)⟩⟩⟩
 ·dsimp only at hj;have gu:(j:Int)<i.byte.1:=gu;refine⟨(i.byte.2.zx j).2,rfl,yBx (uT h) j,λ_ _=>⟨trivial,trivial,?_,j+1,wj oM,rfl,rfl,rfl,rfl,rfl,?_,by(first|omega|(dsimp only;omega)),by(first|omega|(dsimp only;omega)),gn⟩⟩
  ·rw[ia];show((i.byte.2.zx j).1.length+1)*24<=_;rw[z0q];omega
  ·show au im (i.byte.2.zx (j+1)).1=_;show au im ((i.byte.2.zx j).1++[(i.byte.2.zx j).2.lv.1])=_;rw[jk];rfl
 ·dsimp only at hj;have gu:¬(j:Int)<i.byte.1:=gu;obtain rfl:j=i.byte.1.toNat:=by omega
  refine⟨i.part.2,rfl,UJ h,λ_ _=>Cv.dp.mk (λe=> ?_) (λe=> ?_)⟩
  ·have e:i.part.2.byte.1=1:=by
    have e:(i.part.2.byte.1==1)=ar:=e;simpa using e
   have hs:i.side=((⟨i.part.1,i.part.2.byte.2.lv.1,ar⟩,ar),i.part.2.byte.2.lv.2):=fh e;refine⟨i.part.2.byte.2,rfl,uT (UJ h),λ_ _=>⟨(),?_⟩⟩;rw[hs];refine(nf ⟨rfl,?_,rfl,trivial⟩);show ar=decide (i.part.2.byte.1<=1);rw[e];rfl
  ·have e:¬i.part.2.byte.1=1:=by
    have e:(i.part.2.byte.1==1)=aq:=e;simpa using e
   have hs:i.side=((⟨i.part.1,⟨0,0,0⟩,aq⟩,decide (i.part.2.byte.1<=1)),i.part.2.byte.2):=ez e;refine⟨(),?_⟩;rw[hs];exact(oL trivial)
def y1f:KE.ok Tryz.prog 149:=gx mixed (dw Vg (dw yYo fk)) 0 i6 (λi=>xDl i) [] Tryz.func149 xEk
def Wa (l:i4):bE l=j6 ⟨l.toArray⟩:=rfl
def yEe {b:i4} (h:¬rF b):bX b=[]/\pK b=0/\Ar b=14:=by
 refine⟨?_,?_,?_⟩
 ·rw[bX,ez λx=>h x.1]
 ·rw[pK,ez λx=>h x.1]
 ·rw[Ar,ez h]
def yVb {b:i4} (h:rF b) (h2:¬aT b):bX b=[]/\pK b=0/\Ar b=12:=by
 refine⟨?_,?_,?_⟩
 ·rw[bX,ez λx=>h2 x.2]
 ·rw[pK,ez λx=>h2 x.2]
 ·rw[Ar,fh h,ez h2]
def yPp {b:i4} (h:rF b) (h2:aT b):bX b=(yI b).all.1.1/\pK b=(yI b).fx.1/\Ar b=0:=by
 refine⟨?_,?_,?_⟩
 ·rw[bX,fh ⟨h,h2⟩]
 ·rw[pK,fh ⟨h,h2⟩]
 ·rw[Ar,fh h,fh h2]
def xJf (b:i4) (h:TH.dp b):xEx b:=by
 have h:b.length<=1099511627776:=h;have e0:((bE b).length:Int)=b.length:=by rw[yW]
 have e1:ag.wrap (((bE b).length:Int)-4)=(b.length:Int)-4:=by rw[iw (by omega),e0]
 unfold xEx ff dx x5 sI qL PT YF z2x om qN Vq dx VI YV qG dI;rw[e1,e0];refine zG (λgu=> ?_) (λgu=> ?_)
 ·obtain⟨a1,a2,a3⟩:=yEe (b:=b) λx=>by have:=x.1;omega
  exact⟨(),by rw[a1];rfl,a2,a3,trivial⟩
 have en:((b.length:Int)-4).toNat=b.length-4:=by omega
 rw[en,<- Lw,<- lS];have hc:=rB (b.take (b.length-4));have hx:(b.take (b.length-4)).length<=1099511627776:=by rw[nn];omega
 have hr:(yI b).ok:=hx;have te:(yI b).head.2.ok:=uT (kO hr);have hn:=zFw (yI b).fx.2;refine⟨(),trivial,λ_ _=>⟨⟨oM,oM⟩,b.take (b.length-4),rfl,hx,λ_ _=>⟨⟨[],dP (b.take (b.length-4))⟩,rfl,rfl,⟨(show 0+8<=1099511627776 by omega),hc.1,hc.2⟩,λ_ _=>⟨⟨oM,oM⟩,_,rfl,Wa _,le (dP (b.take (b.length-4))) 4,rfl,(by rw[y8];omega),λ_ _=>⟨⟨_,rfl,Wa _,rfl⟩,_,rfl,Wa _,Cv.dp.mk (λe=> ?_) (λe=> ?_)⟩⟩⟩⟩⟩
 ·rw[be,be]at e;obtain⟨a1,a2,a3⟩:=yEe (b:=b) λx=>by
   simp at e;exact e x.2
  exact⟨(),by rw[a1];rfl,a2,a3,trivial⟩
 rw[be,be]at e;have hs:rF b:=⟨oM,i9 e⟩
 refine⟨⟨oM,oM⟩,b.take (b.length-4),rfl,hx,λ_ _=>⟨yI b,rfl,hr,λ_ _=>⟨(yI b).fx.2,rfl,kO hr,λ_ _=>⟨0,iM ⟨rfl,λj=>j<=(yI b).head.1.toNat,λj=>(yI b).head.1.toNat-j,mn _,λj hj=>zG (λgu=> ?_) (λgu=> ?_)⟩⟩⟩⟩⟩
 ·dsimp only at hj;have gu:(j:Int)<(yI b).head.1:=gu;have hn:0<=(yI b).head.1/\(yI b).head.1<=255:=hn;have o1:((yI b).head.2.views j).2.ok:=Zi te j;have hl:((au zA ((yI b).head.2.views j).1.1).length+1)*112<=140737488355328:=by rw[ia,zLs];omega
  have nb:((yI b).head.2.views (j+1)).1.2=(((yI b).head.2.views j).1.2 && ((yI b).head.2.views j).2.side.1.2 && ((yI b).head.2.views j).2.side.2.side.1.2):=rfl;have nl:au zA ((yI b).head.2.views (j+1)).1.1=au zA ((yI b).head.2.views j).1.1++[zA (((yI b).head.2.views j).2.side.1.1,((yI b).head.2.views j).2.side.2.side.1.1)]:=by
   show au zA (((yI b).head.2.views j).1.1++[_])=_;rw[jk];rfl
  refine⟨((yI b).head.2.views j).2,rfl,o1,λ_ _=>Cv.dp.mk (λf1=> ?_) (λf1=> ?_)⟩
  ·have f1:((yI b).head.2.views j).1.2=ar:=f1;refine⟨((yI b).head.2.views j).2.side.2,rfl,Vc o1,λ_ _=>Cv.dp.mk (λf2=>⟨hl,j+1,?_,wj oM,rfl,nl,by(first|omega|(dsimp only;omega)),by(first|omega|(dsimp only;omega)),gn⟩) (λf2=>⟨hl,j+1,?_,wj oM,rfl,nl,by(first|omega|(dsimp only;omega)),by(first|omega|(dsimp only;omega)),gn⟩)⟩
   ·refine nb.trans ?_;rw[f1,f2];rfl
   ·refine nb.trans ?_;rw[f1,f2];rfl
  ·have f1:((yI b).head.2.views j).1.2=aq:=f1;refine⟨((yI b).head.2.views j).2.side.2,rfl,Vc o1,λ_ _=>⟨hl,j+1,?_,wj oM,rfl,nl,by(first|omega|(dsimp only;omega)),by(first|omega|(dsimp only;omega)),gn⟩⟩;refine nb.trans ?_;rw[f1];rfl
 ·dsimp only at hj;have gu:¬(j:Int)<(yI b).head.1:=gu;have hn:0<=(yI b).head.1/\(yI b).head.1<=255:=hn;obtain rfl:j=(yI b).head.1.toNat:=by omega
  have no:∀h2:¬aT b,(∃(o:Unit),au zA (bX b)=[]/\pK b=0/\Ar b=12/\True):=λh2=>by
   obtain⟨a1,a2,a3⟩:=yVb hs h2;exact⟨(),by rw[a1];rfl,a2,a3,trivial⟩
  refine Cv.dp.mk (λf=>no λx=> ?_) (λf=> ?_)
  ·have x1:((yI b).head.2.views (yI b).head.1.toNat).1.2=ar:=x.1;have f:(!((yI b).head.2.views (yI b).head.1.toNat).1.2)=ar:=f;rw[x1]at f;cases f
  have f:((yI b).head.2.views (yI b).head.1.toNat).1.2=ar:=by
   have f:(!((yI b).head.2.views (yI b).head.1.toNat).1.2)=aq:=f;simpa using f
  refine⟨(yI b).all.2,rfl,Zi te _,λ_ _=>Cv.dp.mk (λg=>no λx=> ?_) (λg=> ?_)⟩
  ·have x2:(yI b).all.2.lg=0:=x.2.1;have g:((yI b).all.2.lg !=0)=ar:=g;rw[x2]at g;cases g
  have g:(yI b).all.2.lg=0:=by
   have g:((yI b).all.2.lg !=0)=aq:=g;simpa using g
  refine⟨(yI b).all.1.1,rfl,⟨?_,?_⟩,λ_ _=>Cv.dp.mk (λq=>no λx=> ?_) (λq=> ?_)⟩
  ·show((yI b).head.2.views (yI b).head.1.toNat).1.1.length<=_;rw[zLs];omega
  ·intro y hy;have:=zRd (r:=(yI b).head.2) _ y hy;omega
  ·have:=x.2.2;simp only[fN,Dp,decide_eq_false_iff_not]at q;exact q this
  ·have q:wO (yI b).all.1.1:=by simpa[fN]using q
   obtain⟨a1,a2,a3⟩:=yPp hs ⟨f,g,q⟩;refine⟨(),?_,a2,a3,trivial⟩;rw[a1];rfl
def xAk:TH.ok Tryz.prog 72:=gx mixed (dw PC (dw UE (dw yBc (dw Pw (dw z2m (dw Zj (dw Vg (dw y1f (dw yHo (dw zXu fk)))))))))) 0 i6 (λb=>xHx b) [] Tryz.func72 xJf
def RB.text (r:RB):i4×RB:=((r.byte.2.n r.byte.1.toNat).iS,⟨(r.byte.2.n r.byte.1.toNat).left,(r.byte.2.n r.byte.1.toNat).bad⟩)
def FB (s:i4):i4:=iY (s.take 255).length::s.take 255
def iq.tail (c:iq):i4:=
 if c.kind=1 then iY c.inst::iY c.side::iY c.time::(le c.dm 8++(le c.dr 8++(le c.least 8++FB c.label)))
 else if c.kind=3 then le c.dr 8 else if c.kind=4 then le c.dm 8++le c.dr 8 else[]
def iq.enc (c:iq):i4:=if c.right≠0 then[]else iY c.kind::(le c.id 8++c.tail)
def qJ (k id:Int) (r:RB):iq×RB:=
 if k=1 then
  let a:=r.byte;let b:=a.2.byte;let t:=b.2.byte;let x:=t.2.fx;let y:=x.2.fx;let z:=y.2.fx;let w:=z.2.text
  (⟨k,id,a.1,b.1,x.1,y.1,z.1,t.1,w.1⟩,w.2)
 else if k=3 then(⟨k,id,0,0,0,r.fx.1,0,0,[]⟩,r.fx.2)
 else if k=4 then(⟨k,id,0,0,r.fx.1,r.fx.2.fx.1,0,0,[]⟩,r.fx.2.fx.2)
 else(⟨k,id,0,0,0,0,0,0,[]⟩,r)
def xX (b:i4):iq×Int:=
 let k:=(RB.mk b aq).byte
 if k.1<1\/4<k.1 then(Im,31)else
 let x:=qJ k.1 k.2.fx.1 k.2.fx.2
 if x.2.lg≠0 then(Im,12)else if x.1.right≠0 then(Im,x.1.right)else(x.1,0)
def iq.asks (c:iq):iq:=if c.kind=1 then c else if c.kind=2 then⟨2,c.id,0,0,0,0,0,0,[]⟩else if c.kind=3 then⟨3,c.id,0,0,0,c.dr,0,0,[]⟩else if c.kind=4 then⟨4,c.id,0,0,c.dm,c.dr,0,0,[]⟩else Im
def Ro (n:Int):((iY n).toNat:Int)=n % 256:=(Ve n).symm
def jJ (x:UInt8) (l:i4):RB.byte ⟨x::l,aq⟩=((x.toNat:Int),⟨l,aq⟩):=by
 simp[RB.byte,RB.n,RN.iS,RN.left,RN.bad,yX]
def yFy (a l:i4):(RN.mk (a++l) aq a.length).iS=a/\(RN.mk (a++l) aq a.length).left=l/\(RN.mk (a++l) aq a.length).bad=aq:=by
 have h:(RN.mk (a++l) aq a.length).bad=aq:=by simp[RN.bad]
 simp[RN.iS,RN.left,h]
def yPi (n:Int):yX (le n 8)=n % 18446744073709551616:=by
 simp only[le,yX,Ro];omega
def uP {n:Int} (h:yP n) (l:i4):RB.fx ⟨le n 8++l,aq⟩=(n,⟨l,aq⟩):=by
 have e:(RB.mk (le n 8++l) aq).n 8=RN.mk (le n 8++l) aq (le n 8).length:=by rw[y8];rfl
 obtain⟨h1,h2,h3⟩:=yFy (le n 8) l;rw[RB.fx,e,h1,h2,h3,yPi];obtain⟨ha,hb⟩:=h;have:ag.wrap (n % 18446744073709551616)=n:=by
  have e:=Cv.wrap_i64 ha hb;by_cases hn:0<=n
  ·rw[show n % 18446744073709551616=n by omega];exact e
  ·have:n % 18446744073709551616=n+18446744073709551616:=by omega
   rw[this];rw[am]at e ⊢;simp only[am,IntKind.bits,ao]at e ⊢;simp at e ⊢;omega
 rw[this]
def yRg {s:i4} (h:s.length<=255) (l:i4):RB.text ⟨FB s++l,aq⟩=(s,⟨l,aq⟩):=by
 have ht:s.take 255=s:=mz h;have e:((iY (s.length:Int)).toNat:Int)=s.length:=by rw[Ro];omega
 rw[FB,ht,uh,RB.text,jJ];dsimp only;rw[e];have e:(RB.mk (s++l) aq).n ((s.length:Int)).toNat=RN.mk (s++l) aq s.length:=rfl;obtain⟨h1,h2,h3⟩:=yFy s l;rw[e,h1,h2,h3]
def ET {n:Int} (h:0<=n/\n<=255):((iY n).toNat:Int)=n:=by rw[Ro];omega
def yEv (s:i4):∀(k p:Nat),s.length-p<=k->s.length-p<=4*(g7 s p).length
 |0,p,h=>by rw[hU (by omega)];simp;omega
 |k+1,p,h=>by
  by_cases hp:p<s.length
  ·have hw:=aU s hp;have h4:(Utf8.decode (sb s) p).2<=4:=by
    unfold Utf8.decode;simp only[U7,lr,tn]
    repeat' split
    all_goals simp
   rw[wM hp,iF];have:=yEv s k (p+(Utf8.decode (sb s) p).2) oM;omega
  ·rw[hU (by omega)];simp;omega
def yMd {s:i4} (h:s=[]\/cK s=ar):s.length<=48:=by
 obtain rfl|h:=h
 ·simp
 ·simp only[cK,lr,tn]at h;have:=yEv s s.length 0 oM;rw[jM,ia]at h;omega
def zAl {c:iq} (h:c.right=0):(1<=c.kind/\c.kind<=4)/\(1<=c.id/\c.id<=1099511627776)/\
 (c.kind≠2->1<=c.dr/\c.dr<=1000000)/\(c.kind=1\/c.kind=4->-2000000<=c.dm/\c.dm<=2000000)/\
 (c.kind=1->(c.side=1\/c.side=2)/\(1<=c.time/\c.time<=3)/\(0<=c.least/\c.least<=c.dr)/\(0<=c.inst/\c.inst<=255)/\c.label.length<=48):=by
 rw[iq.right]at h;split at h;·cases h
 split at h;·cases h
 rename_i h1 h2;refine⟨oM,oM,?_⟩;split at h
 ·rename_i hk;rw[iq.gl]at h
  iterate 7 (split at h;·cases h)
  rename_i a1 a2 a3 a4 a5 a6 a7;simp only[jE,Bool.not_eq_false,lr,tn]at a3;simp only[uN,Bool.not_eq_false,lr,tn]at a6;refine⟨λ_=>a3,λ_=>a6,λ_=>⟨oM,oM,oM,oM,yMd ?_⟩⟩;by_cases hl:c.label=[]
  ·exact .inl hl
  ·exact .inr (by simpa[hl]using a5)
 ·rename_i hk;split at h;·cases h
  split at h;·cases h
  rename_i a1 a2;refine⟨λh2=> ?_,λh2=> ?_,λh2=>absurd h2 hk⟩
  ·simpa[h2,jE]using a1
  ·simpa[show c.kind=4 by omega,uN]using a2
def ySh {n:Int} (h:yP n):RB.fx ⟨le n 8,aq⟩=(n,⟨[],aq⟩):=by
 have:=uP h [];rwa [oJ]at this
def yOz {s:i4} (h:s.length<=255):RB.text ⟨FB s,aq⟩=(s,⟨[],aq⟩):=by
 have:=yRg h [];rwa [oJ]at this
def yZq {c:iq} (h:c.right=0):qJ c.kind c.id ⟨c.tail,aq⟩=(c.asks,⟨[],aq⟩):=by
 obtain⟨hk,hi,hq,hp,ho⟩:=zAl h;rw[qJ,iq.tail,iq.asks];by_cases h1:c.kind=1
 ·obtain⟨hs,ht,hl,hn,hb⟩:=ho h1;have hq:=hq oM;have hp:=hp (.inl h1);simp only[fh h1];rw[jJ];dsimp only;rw[jJ];dsimp only;rw[jJ];dsimp only;rw[uP ⟨by omega,by omega⟩];dsimp only;rw[uP ⟨by omega,by omega⟩];dsimp only;rw[uP ⟨by omega,by omega⟩];dsimp only;rw[yOz (by omega),ET (by omega),ET (by omega),ET (by omega)]
 ·by_cases h3:c.kind=3
  ·have hq:=hq oM;simp only[h3,fh,ez,show ¬((3:Int)=1)by decide,show ¬((3:Int)=2)by decide,if_false,if_true];rw[ySh ⟨by omega,by omega⟩]
  ·by_cases h4:c.kind=4
   ·have hq:=hq oM;have hp:=hp (.inr h4);simp only[h4,show ¬((4:Int)=1)by decide,show ¬((4:Int)=2)by decide,show ¬((4:Int)=3)by decide,if_false,if_true];rw[uP ⟨by omega,by omega⟩];dsimp only;rw[ySh ⟨by omega,by omega⟩]
   ·have h2:c.kind=2:=by omega
    simp only[h2,show ¬((2:Int)=1)by decide,show ¬((2:Int)=4)by decide,show ¬((2:Int)=3)by decide,if_false,if_true]
def yBe {c:iq} (h:c.right=0):c.asks.right=0:=by
 obtain⟨hk,hi,hq,hp,ho⟩:=zAl h;rw[iq.asks];split
 ·exact h
 split
 ·rw[iq.right];simp only[];repeat (first|rw[ez (by omega)]|rw[ez (by decide)]|rw[ez (by simp)])
 split
 ·have:=hq oM;rw[iq.right];simp only[];rw[ez (by decide),ez (by omega),ez (by decide),ez (by simp[jE];omega),ez (by simp)]
 split
 ·have:=hq oM;have:=hp (.inr oM);rw[iq.right];simp only[];rw[ez (by decide),ez (by omega),ez (by decide),ez (by simp[jE];omega),ez (by simp[uN];omega)]
 ·omega
def y0l {c:iq} (h:c.right=0):xX c.enc=(c.asks,0):=by
 obtain⟨hk,hi,_⟩:=zAl h;have e:c.enc=iY c.kind::(le c.id 8++c.tail):=by rw[iq.enc,ez (by simp[h])]
 rw[xX,e,jJ];dsimp only;rw[ET (by omega),ez (by omega),uP ⟨by omega,by omega⟩];dsimp only;rw[yZq h];dsimp only;rw[ez (by simp[RB.lg]),ez (by rw[yBe h];simp)]
def M0:gh:=fp RB (λi=>[.nm 0 0]) (λi=>[Ep i]) RB.ok (λi=>sV i.text.1) (λi=>[Ep i.text.2])
structure SL where
 l:i4
 s:i4
def Lc:gh:=fp i4 (λb=>[ow 1 (bE b)]) i6 (λb=>b.length<=1099511627776) (λb=> .je [De (xX b).1,zB (xX b).2]) i6
def xBu:List (Nat×gr):=[(12,bj 19),(26,{ι:=iq×RB,du:=λ_=>[(4,.nm 0 0),(5,.nm 1 0)],rows:=λx=>[Ep x.2,.cells x.1.cells 47],oP:=λ_=>[(4,.nm 0 0),(5,.nm 1 0)],lq:=λx=>[Ep x.2,.cells x.1.cells 47]})]
def y7h (i:RB):Prop:=
 ∃(gz:RB),ab (i4×Bool) 1 iU (gz.l,gz.b)=Ep i/\gz.l.length<=1099511627776/\∀(o:Unit),True->∃(mf:RN),(mf.n:Int)=yX (gz.n 1).iS/\ab (i4×Bool) 1 iU (mf.l,mf.b)=ab (i4×Bool) 1 iU ((gz.n 1).left,(gz.n 1).bad)/\(mf.n<=255/\mf.l.length<=1099511627776)/\∀(o:Unit),True->∃(b:ByteArray),dl ((1:Nat))/\bE mf.iS=j6 b/\∃(o:Unit),sb ((RB.mk (i.n 1).left (i.n 1).bad).n (yX (i.n 1).iS).toNat).iS=b/\ab (i4×Bool) 1 iU (((RB.mk (i.n 1).left (i.n 1).bad).n (yX (i.n 1).iS).toNat).left,((RB.mk (i.n 1).left (i.n 1).bad).n (yX (i.n 1).iS).toNat).bad)=ab (i4×Bool) 1 iU (mf.left,mf.bad)/\True
def zMu:Prop:=ac (Sx.V.agg [V.d (dI 0),V.d (dI 0),V.d (dI 0),V.d (dI 0),V.d (dI 0),V.d (dI 0),V.d (dI 0),V.d (dI 0),V.d jV]).cl 47=ac (Sx.V.agg [V.d (dI 0),V.d (dI 0),V.d (dI 0),V.d (dI 0),V.d (dI 0),V.d (dI 0),V.d (dI 0),V.d (dI 0),V.d jV]).cl 47
def Zt (a:Bool->Prop) (b:Bool) (c:RB):Prop:=a b/\dl (ac [V.d (dI (yX (c.n 1).iS)),V.d (dI 0),V.d (dI 0),V.d (dI 0),V.d (dI 0),V.d (dI 0),V.d (dI 0),V.d (dI 0),V.d jV] 47)/\dl (ab (i4×Bool) 1 iU ((c.n 1).left,(c.n 1).bad))/\zMu
def Z1 (a:iq×RB->Prop) (b:iq×RB):Prop:=a b/\zMu
def zLh (a:iq×RB) (b:iq×RB) (c:iq×RB->Prop):Prop:=a.fst.least=b.fst.least/\a.fst.time=b.fst.time/\sb a.fst.label=sb b.fst.label/\Z1 c a
def zLj (a:iq×RB) (b:RB) (c:iq×RB) (d:iq×RB->Prop):Prop:=a.fst.dr=ag.wrap (x5 b)/\zLh a c d
def V7 (a:RB):=((RB.mk (a.n 1).left (a.n 1).bad).n (yX (a.n 1).iS).toNat)
def y2u (b:i4):Prop:=
 ∃(a:i4),bE a=bE b/\a.length<=1099511627776/\ff (∃(d:RB),ab (i4×Bool) 1 iU (d.l,d.b)=ab (i4×Bool) 1 iU (a,aq)/\d.l.length<=1099511627776/\ff (∃(f:Bool),∃(g:Bool->Prop),dp (decide (yX (d.n 1).iS<1)) (∃(h:Bool),h=ar/\Zt g h d) (∃(h:Bool),h=decide (yX (d.n 1).iS>4)/\Zt g h d)/\∀(h:Bool),g h->dp h (dx ((xX b).fst.kind=0/\(xX b).fst.id=0/\(xX b).fst.inst=0/\(xX b).fst.side=0/\(xX b).fst.dm=0/\(xX b).fst.dr=0/\(xX b).fst.least=0/\(xX b).fst.time=0/\sb (xX b).fst.label=bo #[]/\(xX b).snd=31/\True)) (∃(j:RB),ab (i4×Bool) 1 iU (j.l,j.b)=ab (i4×Bool) 1 iU ((d.n 1).left,(d.n 1).bad)/\j.l.length<=1099511627776/\ff (∃(l:iq×RB),ab (i4×Bool) 1 iU (l.snd.l,l.snd.b)=ab (i4×Bool) 1 iU ((j.n 8).left,(j.n 8).bad)/\l.fst.kind=yX (d.n 1).iS/\l.fst.id=ag.wrap (x5 j)/\l.fst.inst=0/\l.fst.side=0/\l.fst.dm=0/\l.fst.dr=0/\l.fst.least=0/\l.fst.time=0/\sb l.fst.label=bo #[]/\∃(m:iq×RB->Prop),dp (l.fst.kind==1) (∃(n:RB),ab (i4×Bool) 1 iU (n.l,n.b)=ab (i4×Bool) 1 iU (l.snd.l,l.snd.b)/\n.l.length<=1099511627776/\ff (∃(q:RB),ab (i4×Bool) 1 iU (q.l,q.b)=ab (i4×Bool) 1 iU ((n.n 1).left,(n.n 1).bad)/\q.l.length<=1099511627776/\ff (∃(s:RB),ab (i4×Bool) 1 iU (s.l,s.b)=ab (i4×Bool) 1 iU ((q.n 1).left,(q.n 1).bad)/\s.l.length<=1099511627776/\ff (∃(u:RB),ab (i4×Bool) 1 iU (u.l,u.b)=ab (i4×Bool) 1 iU ((s.n 1).left,(s.n 1).bad)/\u.l.length<=1099511627776/\ff (∃(w:RB),ab (i4×Bool) 1 iU (w.l,w.b)=ab (i4×Bool) 1 iU ((u.n 8).left,(u.n 8).bad)/\w.l.length<=1099511627776/\ff (∃(y:RB),ab (i4×Bool) 1 iU (y.l,y.b)=ab (i4×Bool) 1 iU ((w.n 8).left,(w.n 8).bad)/\y.l.length<=1099511627776/\ff (∃(lk:RB),ab (i4×Bool) 1 iU (lk.l,lk.b)=ab (i4×Bool) 1 iU ((y.n 8).left,(y.n 8).bad)/\lk.ok/\ff (∃(jq:iq×RB),ab (i4×Bool) 1 iU (jq.snd.l,jq.snd.b)=ab (i4×Bool) 1 iU ((V7 lk).left,(V7 lk).bad)/\jq.fst.kind=l.fst.kind/\jq.fst.id=l.fst.id/\jq.fst.inst=yX (n.n 1).iS/\jq.fst.side=yX (q.n 1).iS/\jq.fst.dm=ag.wrap (x5 u)/\jq.fst.dr=ag.wrap (x5 w)/\jq.fst.least=ag.wrap (x5 y)/\jq.fst.time=yX (s.n 1).iS/\sb jq.fst.label=sb (V7 lk).iS/\Z1 m jq)))))))) (dp (l.fst.kind==3) (∃(n:RB),ab (i4×Bool) 1 iU (n.l,n.b)=ab (i4×Bool) 1 iU (l.snd.l,l.snd.b)/\n.l.length<=1099511627776/\ff (∃(q:iq×RB),ab (i4×Bool) 1 iU (q.snd.l,q.snd.b)=ab (i4×Bool) 1 iU ((n.n 8).left,(n.n 8).bad)/\q.fst.kind=l.fst.kind/\q.fst.id=l.fst.id/\q.fst.inst=l.fst.inst/\q.fst.side=l.fst.side/\q.fst.dm=l.fst.dm/\zLj q n l m)) (dp (l.fst.kind==4) (∃(n:RB),ab (i4×Bool) 1 iU (n.l,n.b)=ab (i4×Bool) 1 iU (l.snd.l,l.snd.b)/\n.l.length<=1099511627776/\ff (∃(q:RB),ab (i4×Bool) 1 iU (q.l,q.b)=ab (i4×Bool) 1 iU ((n.n 8).left,(n.n 8).bad)/\q.l.length<=1099511627776/\ff (∃(s:iq×RB),ab (i4×Bool) 1 iU (s.snd.l,s.snd.b)=ab (i4×Bool) 1 iU ((q.n 8).left,(q.n 8).bad)/\s.fst.kind=l.fst.kind/\s.fst.id=l.fst.id/\s.fst.inst=l.fst.inst/\s.fst.side=l.fst.side/\s.fst.dm=ag.wrap (x5 n)/\zLj s q l m))) (∃(n:iq×RB),ab (i4×Bool) 1 iU (n.snd.l,n.snd.b)=ab (i4×Bool) 1 iU (l.snd.l,l.snd.b)/\n.fst.kind=l.fst.kind/\n.fst.id=l.fst.id/\n.fst.inst=l.fst.inst/\n.fst.side=l.fst.side/\n.fst.dm=l.fst.dm/\n.fst.dr=l.fst.dr/\zLh n l m)))/\∀(n:iq×RB),m n->∃(p:RB),ab (i4×Bool) 1 iU (p.l,p.b)=ab (i4×Bool) 1 iU (n.snd.l,n.snd.b)/\p.l.length<=1099511627776/\ff (dp ((if p.b=ar then(10:Int)else if 0<p.l.length then(15:Int)else(0:Int)) !=0) (dx ((xX b).fst.kind=0/\(xX b).fst.id=0/\(xX b).fst.inst=0/\(xX b).fst.side=0/\(xX b).fst.dm=0/\(xX b).fst.dr=0/\(xX b).fst.least=0/\(xX b).fst.time=0/\sb (xX b).fst.label=bo #[]/\(xX b).snd=12/\True)) (∃(r:iq),r.kind=n.fst.kind/\r.id=n.fst.id/\r.inst=n.fst.inst/\r.side=n.fst.side/\r.dm=n.fst.dm/\r.dr=n.fst.dr/\r.least=n.fst.least/\r.time=n.fst.time/\sb r.label=sb n.fst.label/\r.label.length<=140737488355328/\ff (dp (r.right !=0) (dx ((xX b).fst.kind=0/\(xX b).fst.id=0/\(xX b).fst.inst=0/\(xX b).fst.side=0/\(xX b).fst.dm=0/\(xX b).fst.dr=0/\(xX b).fst.least=0/\(xX b).fst.time=0/\sb (xX b).fst.label=bo #[]/\(xX b).snd=r.right/\True)) (dx ((xX b).fst.kind=n.fst.kind/\(xX b).fst.id=n.fst.id/\(xX b).fst.inst=n.fst.inst/\(xX b).fst.side=n.fst.side/\(xX b).fst.dm=n.fst.dm/\(xX b).fst.dr=n.fst.dr/\(xX b).fst.least=n.fst.least/\(xX b).fst.time=n.fst.time/\sb (xX b).fst.label=sb n.fst.label/\(xX b).snd=0/\True)))))))))
def z8g (r:RB):0<=r.byte.1/\r.byte.1<=255:=by
 have h:=uV (r.n 1).iS;have hl:(r.n 1).iS.length<=1:=l9 (r.n 1);show 0<=yX (r.n 1).iS/\yX (r.n 1).iS<=255;obtain e|e:(r.n 1).iS.length=0\/(r.n 1).iS.length=1:=by omega
 ·rw[e]at h;omega
 ·rw[e]at h;omega
def yYn {r:RB} (h:r.ok):r.text.2.ok:=tm (nR _) (tm (nR _) h)
def yNp:M0.ok Tryz.prog 248:=gx (V:=y7h) mixed (dw Vg (dw yIj fk)) 0 i6 i6 [] Tryz.func248 λ(i:RB) h=>by
 have h:i.l.length<=1099511627776:=h;have hb:=z8g i;exact⟨i,rfl,h,λ_ _=>⟨⟨(i.n 1).left,(i.n 1).bad,i.byte.1.toNat⟩,by dsimp only;exact Int.toNat_of_nonneg hb.1,rfl,⟨Z9,tm (nR _) h⟩,λ_ _=>⟨_,rfl,Wa _,(),rfl,rfl,trivial⟩⟩⟩
def y4c {k id:Int} {r:RB} (h:r.ok):(qJ k id r).2.ok/\(qJ k id r).1.label.length<=255:=by
 rw[qJ];split
 ·have h6:=kO (kO (kO (uT (uT (uT h)))));refine⟨yYn h6,?_⟩;show(RB.text (r.byte.2.byte.2.byte.2.fx.2.fx.2.fx.2)).1.length<=255;generalize r.byte.2.byte.2.byte.2.fx.2.fx.2.fx.2=q;have:=z8g q;have:(q.text.1).length<=q.byte.1.toNat:=l9 _;omega
 split
 ·exact⟨kO h,mn _⟩
 split
 ·exact⟨kO (kO h),mn _⟩
 ·exact⟨h,mn _⟩
def xEi (b:i4) (h:Lc.dp b):y2u b:=by
 have h:b.length<=1099511627776:=h;obtain⟨r0,hr⟩:∃r0,r0=RB.mk b aq:=⟨_,rfl⟩
 have HR:r0.ok:=by rw[hr];exact h
 have oY:=uT HR;have IM:=kO oY;have uu:xX b=if r0.byte.1<1\/4<r0.byte.1 then(Im,31)else if(qJ r0.byte.1 r0.byte.2.fx.1 r0.byte.2.fx.2).2.lg≠0 then(Im,12)else if(qJ r0.byte.1 r0.byte.2.fx.1 r0.byte.2.fx.2).1.right≠0 then(Im,(qJ r0.byte.1 r0.byte.2.fx.1 r0.byte.2.fx.2).1.right)else((qJ r0.byte.1 r0.byte.2.fx.1 r0.byte.2.fx.2).1,0):=by
  rw[hr];rfl
 unfold y2u ff dx Zt V7 zLj x5 zLh Z1 zMu jV dI;generalize xX b=X at uu ⊢;refine⟨b,rfl,h,λ_ _=>⟨r0,by rw[hr],HR,λ_ _=>⟨ar,λx=>x=decide (r0.byte.1<1\/4<r0.byte.1),zG (λe=>⟨ar,rfl,(jo (.inl e)).symm,gn⟩) (λe=>⟨_,rfl,decide_eq_decide.2 ⟨.inr,λx=>x.resolve_left e⟩,gn⟩),?_⟩⟩⟩;rintro _ rfl;refine zG (λe=> ?_) (λe=> ?_)
 ·rw[uu,fh e];exact⟨(),oL (iM trivial)⟩
 rw[ez e]at uu;generalize hk:r0.byte.1=k at uu;refine⟨r0.byte.2,rfl,oY,λ_ _=>⟨(⟨r0.byte.1,r0.byte.2.fx.1,0,0,0,0,0,0,[]⟩,r0.byte.2.fx.2),nr (iM ⟨rfl,λx=>x=qJ r0.byte.1 r0.byte.2.fx.1 r0.byte.2.fx.2,?_,?_⟩)⟩⟩
 ·generalize r0.byte.2.fx.2=r2 at*;generalize r0.byte.2.fx.1=id at*;rw[hk];refine Cv.dp.mk (λe=> ?_) (λe1=>Cv.dp.mk (λe=> ?_) (λe3=>Cv.dp.mk (λe=> ?_) (λe4=> ?_)))
  ·have e:k=1:=i9 e
   have h1:=uT IM;have h2:=uT h1;have h3:=uT h2;have h4:=kO h3;have h5:=kO h4;have h6:=kO h5;exact⟨r2,rfl,IM,λ_ _=>⟨_,rfl,h1,λ_ _=>⟨_,rfl,h2,λ_ _=>⟨_,rfl,h3,λ_ _=>⟨_,rfl,h4,λ_ _=>⟨_,rfl,h5,λ_ _=>⟨_,rfl,h6,λ_ _=>⟨qJ k id r2,by rw[qJ,fh e];rfl,by rw[qJ,fh e],by rw[qJ,fh e],by rw[qJ,fh e];rfl,by rw[qJ,fh e];rfl,by rw[qJ,fh e];rfl,by rw[qJ,fh e];rfl,by rw[qJ,fh e];rfl,by rw[qJ,fh e];rfl,by rw[qJ,fh e];rfl,rfl,gn⟩⟩⟩⟩⟩⟩⟩⟩
  ·have e1:¬k=1:=i9 e1
   have e:k=3:=i9 e
   have hd:qJ k id r2=(⟨k,id,0,0,0,r2.fx.1,0,0,[]⟩,r2.fx.2):=by rw[qJ,ez e1,fh e]
   exact⟨r2,rfl,IM,λ_ _=>⟨(⟨k,id,0,0,0,r2.fx.1,0,0,[]⟩,r2.fx.2),nr (iM ⟨rfl,hd.symm,gn⟩)⟩⟩
  ·have e1:¬k=1:=i9 e1
   have e3:¬k=3:=i9 e3
   have e:k=4:=i9 e
   have hd:qJ k id r2=(⟨k,id,0,0,r2.fx.1,r2.fx.2.fx.1,0,0,[]⟩,r2.fx.2.fx.2):=by rw[qJ,ez e1,ez e3,fh e]
   exact⟨r2,rfl,IM,λ_ _=>⟨_,rfl,kO IM,λ_ _=>⟨(⟨k,id,0,0,r2.fx.1,r2.fx.2.fx.1,0,0,[]⟩,r2.fx.2.fx.2),nr (iM ⟨rfl,hd.symm,gn⟩)⟩⟩⟩
  ·have e1:¬k=1:=i9 e1
   have e3:¬k=3:=i9 e3
   have e4:¬k=4:=i9 e4
   have hd:qJ k id r2=(⟨k,id,0,0,0,0,0,0,[]⟩,r2):=by rw[qJ,ez e1,ez e3,ez e4]
   exact⟨(⟨k,id,0,0,0,0,0,0,[]⟩,r2),nr (iM ⟨rfl,hd.symm,gn⟩)⟩
 ·rintro x hx;obtain⟨o1,o2⟩:=y4c (k:=r0.byte.1) (id:=r0.byte.2.fx.1) IM;rw[<- hx]at o1 o2;rw[<- hk,<- hx]at uu;obtain⟨c,q⟩:=x;refine⟨q,rfl,o1,λ_ _=>Cv.dp.mk (λe=> ?_) (λe=>⟨c,iA ⟨rfl,tm o2 Z8,λ_ _=>Cv.dp.mk (λe2=> ?_) (λe2=> ?_)⟩⟩)⟩
  ·have e:q.lg≠0:=by simpa[RB.lg]using e
   rw[uu,fh e];exact⟨(),oL (iM trivial)⟩
  ·have e:¬q.lg≠0:=by simpa[RB.lg]using e
   have e2:c.right≠0:=i9 e2
   rw[uu,ez e,fh e2];exact⟨(),oL (iM trivial)⟩
  ·have e:¬q.lg≠0:=by simpa[RB.lg]using e
   have e2:¬c.right≠0:=i9 e2
   rw[uu,ez e,ez e2];exact⟨(),oL (iM trivial)⟩
def yYx:Lc.ok Tryz.prog 203:=gx mixed (dw z2m (dw Vg (dw Zj (dw yNp (dw yHo (dw Ze fk)))))) 0 (λ_=>xBu) i6 [] Tryz.func203 xEi
structure gi where
 seq:Int
 inst:Int
 side:Int
 dm:Int
 dr:Int
 count:Int
 gg:Bool
 deriving DecidableEq
def EP:gi:=⟨0,0,0,0,0,0,aq⟩
def gi.raw (m:gi):Prop:=yP m.seq/\yP m.dm/\yP m.dr/\yP m.count
def gi.form (m:gi):Int:=if m.inst<0\/255<m.inst\/(m.side≠1/\m.side≠2)then 12 else 0
def gi.body (m:gi):i4:=le m.seq 8++(iY m.inst::iY m.side::(le m.dm 8++(le m.dr 8++(le m.count 8++[iY (if m.gg then 1 else 0)]))))
def gi.enc (m:gi):i4:=if m.form≠0 then[]else m.body
def cU (b:i4):gi×Int×RB:=
 let s:=(RB.mk b aq).fx;let i:=s.2.byte;let d:=i.2.byte;let p:=d.2.fx;let q:=p.2.fx;let c:=q.2.fx;let n:=c.2.byte
 (⟨s.1,i.1,d.1,p.1,q.1,c.1,decide (n.1=1)⟩,n.1,n.2)
def xO (b:i4):gi×Int:=if(cU b).2.2.lg≠0\/1<(cU b).2.1\/((cU b).1.side≠1/\(cU b).1.side≠2)then(EP,12)else((cU b).1,0)
def yRp (m:gi):m.body.length=35:=by simp[gi.body,y8]
def yGq {m:gi} (h:m.form=0):(0<=m.inst/\m.inst<=255)/\(m.side=1\/m.side=2):=by
 rw[gi.form]at h;split at h
 ·cases h
 ·omega
def yKa {m:gi} (h:m.form=0) (hr:m.raw):cU m.body=(m,if m.gg then 1 else 0,⟨[],aq⟩):=by
 obtain⟨h1,h2,h3,h4⟩:=hr;obtain⟨f1,f2⟩:=yGq h;have hn:(0:Int)<=(if m.gg then 1 else 0)/\(if m.gg then 1 else 0)<=(255:Int):=by split<;>omega
 rw[cU,gi.body,uP h1];dsimp only;rw[jJ];dsimp only;rw[jJ];dsimp only;rw[uP h2];dsimp only;rw[uP h3];dsimp only;rw[uP h4];dsimp only;rw[jJ];dsimp only;rw[ET (by omega),ET (by omega),ET hn];cases m with
 |mk a b c d e f g=>cases g<;>rfl
def yQp {m:gi} (h:m.form=0) (hr:m.raw):xO m.enc=(m,0):=by
 have e:m.enc=m.body:=by rw[gi.enc,ez (by simp[h])]
 obtain⟨f1,f2⟩:=yGq h;rw[xO,e,yKa h hr,ez];dsimp only;rintro(g|g|g)
 ·exact g rfl
 ·split at g<;>omega
 ·omega
def yWa:∀l:i4,0<=yX l/\yX l<256 ^ l.length
 |[]=>by simp[yX]
 |b::l=>by
  have h:=yWa l;have hb:=b.toNat_lt;rw[yX,iF,Iy];omega
def yNi (b:UInt8) (n:Int):iY (b.toNat+256*n)=b:=by
 apply UInt8.toNat.inj;have h1:=Ro (b.toNat+256*n);have:=b.toNat_lt;omega
def yDw:∀l:i4,le (yX l) l.length=l
 |[]=>rfl
 |b::l=>by
  have h:=b.toNat_lt;simp only[yX,iF,le,yNi];rw[show((b.toNat:Int)+256*yX l) / 256=yX l by omega,yDw l]
def yXg {a b:Int} (h:a % 256=b % 256):iY a=iY b:=by rw[iY,iY,h]
def yDf:∀(k:Nat) {a b:Int},a % 256 ^ k=b % 256 ^ k->le a k=le b k
 |0,_,_,_=>rfl
 |k+1,a,b,h=>by
  have hp:(0:Int)<256 ^ k:=Int.pow_pos oM;rw[Iy]at h;have hd:((256:Int) ^ k*256)∣(a-b):=Int.dvd_of_emod_eq_zero (by rw[Int.sub_emod,h,Int.sub_self];rfl);obtain⟨t,ht⟩:=hd;have h1:a % 256=b % 256:=by
   have:a-b=256*(256 ^ k*t):=by rw[ht,Eb (256 ^ k) 256,Int.mul_assoc]
   generalize (256:Int) ^ k*t=u at this;omega
  have h2:a / 256=b / 256+256 ^ k*t:=by
   have:a-b=256*(256 ^ k*t):=by rw[ht,Eb (256 ^ k) 256,Int.mul_assoc]
   generalize (256:Int) ^ k*t=u at this ⊢;omega
  rw[le,le,yXg h1,yDf k (a:=a / 256) (b:=b / 256) (by rw[h2,XJ])]
def ySe (n:Int):ag.wrap n % 18446744073709551616=n % 18446744073709551616:=by
 rw[am];simp only[IntKind.bits,ao];simp;omega
def Wo {r:RB} (h:r.fx.2.b=aq):r.b=aq/\r.l=le r.fx.1 8++r.fx.2.l:=by
 have hb:(r.n 8).bad=aq:=h;have hr:r.b=aq:=by
  rw[RN.bad,HD]at hb;exact hb.1
 have hl:8<=r.l.length:=by
  rw[RN.bad,HD,decide_eq_false_iff_not]at hb;have:=hb.2;have:¬r.l.length<8:=this;omega
 refine⟨hr,?_⟩;have e1:r.fx.1=ag.wrap (yX (r.l.take 8)):=by
  rw[RB.fx];dsimp only;rw[RN.iS,hb];rfl
 have e2:r.fx.2.l=r.l.drop 8:=by
  rw[RB.fx];dsimp only;rw[RN.left,hb];rfl
 have hlen:(r.l.take 8).length=8:=by rw[nn];omega
 have e3:le (ag.wrap (yX (r.l.take 8))) 8=r.l.take 8:=by
  rw[yDf 8 (b:=yX (r.l.take 8)) (ySe _)];have:=yDw (r.l.take 8);rwa [hlen]at this
 rw[e1,e2,e3,Bb]
def ZQ {r:RB} (h:r.byte.2.b=aq):r.b=aq/\r.l=iY r.byte.1::r.byte.2.l/\0<=r.byte.1/\r.byte.1<=255:=by
 have hb:(r.n 1).bad=aq:=h;have hr:r.b=aq:=by
  rw[RN.bad,HD]at hb;exact hb.1
 obtain⟨l,b⟩:=r;cases hr;cases l with
 |nil=>cases hb
 |cons x l=>
  rw[jJ];have:=x.toNat_lt;have e:=yNi x 0;rw[Int.mul_zero,Int.add_zero]at e;dsimp only;exact⟨rfl,by rw[e],oM,oM⟩
def Vz (r:RB):yP r.fx.1:=by
 have:yP (ag.wrap (yX (r.n 8).iS)):=by
  rw[yP,am];simp only[IntKind.bits,ao];simp;omega
 exact this
def yRz {x:i4} (h:(xO x).2=0):(xO x).1.form=0/\(xO x).1.raw/\(xO x).1.enc=x:=by
 rw[xO]at h ⊢;split at h
 ·cases h
 rename_i hc;rw[ez hc];dsimp only;have h1:(cU x).2.2.lg=0:=by
  by_cases e:(cU x).2.2.lg=0
  ·exact e
  ·exact absurd (.inl e) hc
 have hb:(cU x).2.2.b=aq:=by
  rw[RB.lg]at h1;split at h1
  ·cases h1
  ·rename_i e;simpa using e
 have hl:(cU x).2.2.l=[]:=by
  rw[RB.lg,hb]at h1;split at h1
  ·rename_i e;cases e
  ·split at h1
   ·cases h1
   ·rename_i e;exact xq oM
 have h2:(cU x).2.1<=1:=by
  by_cases e:1<(cU x).2.1
  ·exact absurd (.inr (.inl e)) hc
  ·omega
 have h3:(cU x).1.side=1\/(cU x).1.side=2:=by
  by_cases e:(cU x).1.side=1\/(cU x).1.side=2
  ·exact e
  ·exact absurd (.inr (.inr oM)) hc
 rw[cU]at hb hl h2 h3 ⊢;dsimp only at hb hl h2 h3 ⊢;generalize hs:(RB.mk x aq).fx=s at*;generalize hi:s.2.byte=i at*;generalize hd:i.2.byte=d at*;generalize hp:d.2.fx=p at*;generalize hq:p.2.fx=q at*;generalize AB:q.2.fx=c at*;generalize hn:c.2.byte=n at*;obtain⟨b7,l7,n0,n1⟩:=ZQ (r:=c.2) (by rw[hn];exact hb);obtain⟨b6,l6⟩:=Wo (r:=q.2) (by rw[AB];exact b7);obtain⟨b5,l5⟩:=Wo (r:=p.2) (by rw[hq];exact b6);obtain⟨b4,l4⟩:=Wo (r:=d.2) (by rw[hp];exact b5);obtain⟨b3,l3,d0,d1⟩:=ZQ (r:=i.2) (by rw[hd];exact b4);obtain⟨b2,l2,i0,i1⟩:=ZQ (r:=s.2) (by rw[hi];exact b3);obtain⟨b1,l1⟩:=Wo (r:=RB.mk x aq) (by rw[hs];exact b2);have r1:=Vz (RB.mk x aq);have r2:=Vz d.2;have r3:=Vz p.2;have r4:=Vz q.2;rw[hn]at l7 n0 n1;rw[AB]at l6 r4;rw[hq]at l5 r3;rw[hp]at l4 r2;rw[hd]at l3 d0 d1;rw[hi]at l2 i0 i1;rw[hs]at l1 r1;have hf:(⟨s.1,i.1,d.1,p.1,q.1,c.1,decide (n.1=1)⟩:gi).form=0:=by
  rw[gi.form,ez];dsimp only;omega
 refine⟨hf,⟨r1,r2,r3,r4⟩,?_⟩;have hnn:(if decide (n.1=1)=ar then 1 else 0)=n.1:=by
  by_cases e:n.1=1
  ·rw[e];rfl
  ·have:n.1=0:=by omega
   rw[this];rfl
 rw[gi.enc,ez (by rw[hf];simp),gi.body];dsimp only;have l1:x=le s.1 8++s.2.l:=l1;rw[hnn,l1,l2,l3,l4,l5,l6,l7,hl]
deriving instance DecidableEq for Lv
def cR (s:Int) (L:List Lv):Prop:=L.Pairwise λa b=>jl s a.dm b.dm=ar
def xb (L:List Lv) (p:Int):Option Lv:=L.find? λl=>decide (l.dm=p)
def mC (s:Int):List Lv->Lv->List Lv
 |[],m=>if 0<m.dr then[m]else[]
 |x::L,m=>if x.dm=m.dm then(if m.dr=0 then L else m::L)else if jl s m.dm x.dm=ar then(if 0<m.dr then m::x::L else x::L)else x::mC s L m
def qA (s:Int):Nat->List Lv->List Lv->List Lv
 |0,_,_=>[]
 |k+1,[],[]=>[]
 |k+1,x::X,[]=>⟨x.dm,0,0⟩::qA s k X []
 |k+1,[],y::Y=>y::qA s k [] Y
 |k+1,x::X,y::Y=>if jl s x.dm y.dm=ar then⟨x.dm,0,0⟩::qA s k X (y::Y)else if jl s y.dm x.dm=ar then y::qA s k (x::X) Y else(if x=y then[]else[y])++qA s k X Y
def lO {s x y z:Int} (h:jl s x y=ar) (h2:jl s y z=ar):jl s x z=ar:=by
 rw[jl]at h h2 ⊢;split
 ·rename_i e;rw[fh e]at h h2;have:=rf h;have:=rf h2;exact jo oM
 ·rename_i e;rw[ez e]at h h2;have:=rf h;have:=rf h2;exact jo oM
def aB {s x y:Int} (h:jl s x y=ar):x≠y:=by
 rintro rfl;rw[jl]at h;split at h<;>simp at h
def UM {s x y:Int} (h:jl s x y=aq) (jy:x≠y):jl s y x=ar:=by
 rw[jl]at h ⊢;split
 ·rename_i e;rw[fh e]at h;have:=L3 h;exact jo oM
 ·rename_i e;rw[ez e]at h;have:=L3 h;exact jo oM
def eX {s p:Int} {L:List Lv} (h:∀l∈L,jl s p l.dm=ar):xb L p=bc:=by
 rw[xb,List.find?_eq_none];intro l hl;have:=aB (h l hl);simp;omega
def kE (x:Lv) (L:List Lv) (p:Int):xb (x::L) p=if x.dm=p then ba x else xb L p:=by
 rw[xb,LV,xb];by_cases h:x.dm=p<;>simp[h]
def yFo {s:Int} {m:Lv}:∀{L:List Lv} {l:Lv},l∈mC s L m->l=m\/l∈L
 |[],l,h=>by
  rw[mC]at h;split at h
  ·exact .inl (ua.1 h)
  ·cases h
 |x::L,l,h=>by
  rw[mC]at h;split at h
  ·split at h
   ·exact .inr (ji _ h)
   ·rcases jx.1 h with h|h
    ·exact .inl h
    ·exact .inr (ji _ h)
  split at h
  ·split at h
   ·rcases jx.1 h with h|h
    ·exact .inl h
    ·exact .inr h
   ·exact .inr h
  ·rcases jx.1 h with h|h
   ·exact .inr (h▸iX)
   ·rcases yFo h with h|h
    ·exact .inl h
    ·exact .inr (ji _ h)
def U3 {s:Int} {m:Lv}:∀{L:List Lv},cR s L->cR s (mC s L m)
 |[],_=>by
  rw[mC];split
  ·exact List.pairwise_singleton _ _
  ·exact List.Pairwise.nil
 |x::L,h=>by
  have h':=h;rw[cR,yx]at h;rw[mC];split
  ·rename_i e;split
   ·exact h.2
   ·exact yx.2 ⟨λl hl=>by rw[<- e];exact h.1 l hl,h.2⟩
  rename_i jy;split
  ·rename_i hb;split
   ·refine yx.2 ⟨λl hl=> ?_,h'⟩;rcases jx.1 hl with rfl|hl
    ·exact hb
    ·exact lO hb (h.1 l hl)
   ·exact h'
  ·rename_i hb;refine yx.2 ⟨λl hl=> ?_,U3 h.2⟩;rcases yFo hl with rfl|hl
   ·exact UM (i9 hb) (λe=>jy e.symm)
   ·exact h.1 l hl
def yAh {s:Int} {m:Lv} (hm:0<=m.dr):∀{L:List Lv},cR s L->∀p,xb (mC s L m) p=if p=m.dm then(if m.dr=0 then bc else ba m)else xb L p
 |[],_,p=>by
  rw[mC];by_cases h0:m.dr=0
  ·rw[ez (by omega),fh h0];split<;>rfl
  ·rw[fh (by omega),ez h0,kE];by_cases e:m.dm=p
   ·rw[fh e,fh e.symm]
   ·rw[ez e,ez (λh=>e h.symm)]
 |x::L,h,p=>by
  have h':=h;rw[cR,yx]at h;rw[mC];by_cases hx:x.dm=m.dm
  ·rw[fh hx];have hn:xb L m.dm=bc:=eX (s:=s) λl hl=>by rw[<- hx];exact h.1 l hl
   by_cases h0:m.dr=0
   ·rw[fh h0,fh h0,kE];by_cases e:p=m.dm
    ·rw[fh e,e,hn]
    ·rw[ez e,ez (by omega)]
   ·rw[ez h0,ez h0,kE,kE];by_cases e:p=m.dm
    ·rw[fh e,fh e.symm]
    ·rw[ez e,ez (λh=>e h.symm),ez (by omega)]
  rw[ez hx];by_cases hb:jl s m.dm x.dm=ar
  ·rw[fh hb];have hn:xb (x::L) m.dm=bc:=eX (s:=s) λl hl=>by
    rcases jx.1 hl with rfl|hl
    ·exact hb
    ·exact lO hb (h.1 l hl)
   by_cases h0:m.dr=0
   ·rw[ez (by omega),fh h0];by_cases e:p=m.dm
    ·rw[fh e,e,hn]
    ·rw[ez e]
   ·rw[fh (by omega),ez h0,kE];by_cases e:p=m.dm
    ·rw[fh e,fh e.symm]
    ·rw[ez e,ez (λh=>e h.symm)]
  ·rw[ez hb,kE,kE,yAh hm h.2 p];by_cases e:x.dm=p
   ·rw[fh e,fh e,ez (by omega)]
   ·rw[ez e,ez e]
def ySc {s:Int}:∀{A B:List Lv},cR s A->cR s B->(∀p,xb A p=xb B p)->A=B
 |[],[],_,_,_=>rfl
 |[],b::B,_,_,h=>by have:=h b.dm;rw[kE,fh rfl]at this;cases this
 |a::A,[],_,_,h=>by have:=h a.dm;rw[kE,fh rfl]at this;cases this
 |a::A,b::B,hA,hB,h=>by
  rw[cR,yx]at hA hB;have key:a.dm=b.dm:=by
   by_cases e:a.dm=b.dm
   ·exact e
   ·exfalso;by_cases hb:jl s a.dm b.dm=ar
    ·have:=h a.dm;rw[kE,fh rfl,eX (s:=s) λl hl=>by
      rcases jx.1 hl with rfl|hl
      ·exact hb
      ·exact lO hb (hB.1 l hl)]at this
     cases this
    ·have hb:=UM (i9 hb) e;have:=h b.dm;rw[kE (x:=b),fh rfl,eX (s:=s) λl hl=>by
      rcases jx.1 hl with rfl|hl
      ·exact hb
      ·exact lO hb (hA.1 l hl)]at this
     cases this
  have Dx:a=b:=by
   have:=h a.dm;rw[kE,fh rfl,kE,fh key.symm]at this;exact Option.some.inj this
  subst Dx;rw[ySc hA.2 hB.2 λp=> ?_];have:=h p;rw[kE,kE]at this;by_cases e:a.dm=p
  ·rw[<- e,eX (s:=s) hA.1,eX (s:=s) hB.1]
  ·rwa [ez e,ez e]at this
def bZ {s:Int}:∀(k:Nat) (X Y:List Lv),∀m∈qA s k X Y,m.dm∈X.map (·.dm)\/m.dm∈Y.map (·.dm)
 |0,_,_,m,h=>by cases h
 |k+1,[],[],m,h=>by cases h
 |k+1,x::X,[],m,h=>by
  rw[qA]at h;rcases jx.1 h with rfl|h
  ·exact .inl iX
  ·rcases bZ k X [] m h with h|h
   ·exact .inl (ji _ h)
   ·exact .inr h
 |k+1,[],y::Y,m,h=>by
  rw[qA]at h;rcases jx.1 h with rfl|h
  ·exact .inr iX
  ·rcases bZ k [] Y m h with h|h
   ·exact .inl h
   ·exact .inr (ji _ h)
 |k+1,x::X,y::Y,m,h=>by
  rw[qA]at h;split at h
  ·rcases jx.1 h with rfl|h
   ·exact .inl iX
   ·rcases bZ k X (y::Y) m h with h|h
    ·exact .inl (ji _ h)
    ·exact .inr h
  split at h
  ·rcases jx.1 h with rfl|h
   ·exact .inr iX
   ·rcases bZ k (x::X) Y m h with h|h
    ·exact .inl h
    ·exact .inr (ji _ h)
  ·rcases oK.1 h with h|h
   ·split at h
    ·cases h
    ·rw[ua]at h;subst h;exact .inr iX
   ·rcases bZ k X Y m h with h|h
    ·exact .inl (ji _ h)
    ·exact .inr (ji _ h)
def RL (m:Lv):Option Lv:=if m.dr=0 then bc else ba m
structure DO (M A B:List Lv):Prop where
 q:∀m∈M,0<=m.dr
 t:∀m∈M,RL m=xb B m.dm
 n:(M.map (·.dm)).Nodup
 e:∀p,p∉M.map (·.dm)->xb A p=xb B p
def Rn (L:List Lv):Prop:=∀l∈L,1<=l.dr
def z2t {m:Lv} (h:1<=m.dr):RL m=ba m:=by rw[RL,ez (by omega)]
def DO.cons {M A B:List Lv} {m:Lv} {A' B':List Lv} (h:DO M A B) (hq:0<=m.dr) (ht:RL m=xb B' m.dm) (hn:m.dm∉M.map (·.dm))
 (hA:∀p,p≠m.dm->xb A' p=xb A p) (hB:∀p,p≠m.dm->xb B' p=xb B p):DO (m::M) A' B':=by
 refine⟨λx hx=> ?_,λx hx=> ?_,?_,λp hp=> ?_⟩
 ·rcases jx.1 hx with rfl|hx
  ·exact hq
  ·exact h.q x hx
 ·rcases jx.1 hx with rfl|hx
  ·exact ht
  ·rw[hB _ λe=>hn (e▸si hx)];exact h.t x hx
 ·rw[jf,ym];exact⟨hn,h.n⟩
 ·rw[jf,jx,not_or]at hp;rw[hA p hp.1,hB p hp.1];exact h.e p hp.2
def mH {x:Lv} {L:List Lv} {p:Int} (h:p≠x.dm):xb (x::L) p=xb L p:=by rw[kE,ez λe=>h e.symm]
def NQ {s:Int}:∀(k:Nat) (X Y:List Lv),X.length+Y.length<=k->cR s X->cR s Y->Rn Y->DO (qA s k X Y) X Y
 |0,x::X,_,h,_,_,_=>absurd h (by simp)
 |0,[],y::Y,h,_,_,_=>absurd h (by simp)
 |0,[],[],_,_,_,_=>⟨λ_ h=>(FH h).elim,λ_ h=>(FH h).elim,Oc,λ_ _=>rfl⟩
 |k+1,[],[],_,_,_,_=>⟨λ_ h=>(FH h).elim,λ_ h=>(FH h).elim,Oc,λ_ _=>rfl⟩
 |k+1,x::X,[],hk,hX,hY,hp=>by
  have hX':=hX;rw[cR,yx]at hX;have ih:=NQ (s:=s) k X [] (by simp at hk ⊢;omega) hX.2 hY hp;rw[qA];refine ih.cons (yl _) rfl (λh=> ?_) (λp h=>mH h) λ_ _=>rfl
  obtain⟨m,hm,e⟩:=np.1 h;rcases bZ k X [] m hm with h|h
  ·obtain⟨l,hl,e2⟩:=np.1 h;exact aB (hX.1 l hl) (by rw[e2,e])
  ·cases h
 |k+1,[],y::Y,hk,hX,hY,hp=>by
  rw[cR,yx]at hY;have ih:=NQ (s:=s) k [] Y (by simp at hk ⊢;omega) hX hY.2 λl hl=>hp l (ji _ hl)
  have hy:=hp y iX;rw[qA];refine ih.cons oM (by rw[z2t hy,kE,fh rfl]) (λh=> ?_) (λ_ _=>rfl) λp h=>mH h
  obtain⟨m,hm,e⟩:=np.1 h;rcases bZ k [] Y m hm with h|h
  ·cases h
  ·obtain⟨l,hl,e2⟩:=np.1 h;exact aB (hY.1 l hl) (by rw[e2,e])
 |k+1,x::X,y::Y,hk,hX,hY,hp=>by
  have hX':=hX;have hY':=hY;rw[cR,yx]at hX hY;have hpY:Rn Y:=λl hl=>hp l (ji _ hl)
  have hy:=hp y iX;simp only[iF]at hk;rw[qA];by_cases h1:jl s x.dm y.dm=ar
  ·rw[fh h1];have hb:∀l∈y::Y,jl s x.dm l.dm=ar:=λl hl=>by
    rcases jx.1 hl with rfl|hl
    ·exact h1
    ·exact lO h1 (hY.1 l hl)
   have ih:=NQ (s:=s) k X (y::Y) (by rw[iF];omega) hX.2 hY' hp;refine ih.cons (yl _) ?_ (λh=> ?_) (λp h=>mH h) λ_ _=>rfl
   ·exact(eX hb).symm
   ·obtain⟨m,hm,e⟩:=np.1 h;rcases bZ k X (y::Y) m hm with h|h
    ·obtain⟨l,hl,e2⟩:=np.1 h;exact aB (hX.1 l hl) (by rw[e2,e])
    ·obtain⟨l,hl,e2⟩:=np.1 h;exact aB (hb l hl) (by rw[e2,e])
  rw[ez h1];by_cases h2:jl s y.dm x.dm=ar
  ·rw[fh h2];have hb:∀l∈x::X,jl s y.dm l.dm=ar:=λl hl=>by
    rcases jx.1 hl with rfl|hl
    ·exact h2
    ·exact lO h2 (hX.1 l hl)
   have ih:=NQ (s:=s) k (x::X) Y (by rw[iF];omega) hX' hY.2 hpY;refine ih.cons oM (by rw[z2t hy,kE,fh rfl]) (λh=> ?_) (λ_ _=>rfl) λp h=>mH h
   obtain⟨m,hm,e⟩:=np.1 h;rcases bZ k (x::X) Y m hm with h|h
   ·obtain⟨l,hl,e2⟩:=np.1 h;exact aB (hb l hl) (by rw[e2,e])
   ·obtain⟨l,hl,e2⟩:=np.1 h;exact aB (hY.1 l hl) (by rw[e2,e])
  rw[ez h2];have he:x.dm=y.dm:=by
   by_cases e:x.dm=y.dm
   ·exact e
   ·exact absurd (UM (i9 h1) e) h2
  have ih:=NQ (s:=s) k X Y oM hX.2 hY.2 hpY;have Ek:y.dm∉(qA s k X Y).map (·.dm):=λh=>by
   obtain⟨m,hm,e⟩:=np.1 h;rcases bZ k X Y m hm with h|h
   ·obtain⟨l,hl,e2⟩:=np.1 h;exact aB (hX.1 l hl) (by rw[e2,e,he])
   ·obtain⟨l,hl,e2⟩:=np.1 h;exact aB (hY.1 l hl) (by rw[e2,e])
  by_cases e:x=y
  ·rw[fh e,we];subst e;refine⟨ih.q,λm hm=> ?_,ih.n,λp hpn=> ?_⟩
   ·rw[mH λe=>Ek (e▸si hm)];exact ih.t m hm
   ·by_cases ep:p=x.dm
    ·rw[ep,kE,fh rfl,kE,fh rfl]
    ·rw[mH ep,mH ep];exact ih.e p hpn
  ·rw[ez e,RC];exact ih.cons oM (by rw[z2t hy,kE,fh rfl]) Ek (λp h=>mH (by rw[he];exact h)) λp h=>mH h
def yDm {s:Int}:∀(M:List Lv) {L:List Lv},cR s L->(∀m∈M,0<=m.dr)->(M.map (·.dm)).Nodup->
 cR s (M.foldl (mC s) L)/\(∀m∈M,xb (M.foldl (mC s) L) m.dm=RL m)/\∀p,p∉M.map (·.dm)->xb (M.foldl (mC s) L) p=xb L p
 |[],L,h,_,_=>⟨h,λ_ hm=>(FH hm).elim,λ_ _=>rfl⟩
 |m::M,L,h,hq,hn=>by
  rw[jf,ym]at hn;have h0:=hq m iX;obtain⟨a,b,c⟩:=yDm M (L:=mC s L m) (U3 h) (λx hx=>hq x (ji _ hx)) hn.2;rw[A7];refine⟨a,λx hx=> ?_,λp hp=> ?_⟩
  ·rcases jx.1 hx with rfl|hx
   ·rw[c _ hn.1,yAh h0 h,fh rfl];rfl
   ·exact b x hx
  ·rw[jf,jx,not_or]at hp;rw[c p hp.2,yAh h0 h,ez hp.1]
def z9e {s:Int} {A B M:List Lv} (hA:cR s A) (hB:cR s B) (hp:Rn B) {k:Nat} (hk:A.length+B.length<=k) (hM:M.Perm (qA s k A B)):M.foldl (mC s) A=B:=by
 have d:=NQ (s:=s) k A B hk hA hB hp;have hpm:=hM.map (·.dm)
 obtain⟨a,b,c⟩:=yDm (s:=s) M hA (λm hm=>d.q m (hM.mem_iff.1 hm)) (hpm.nodup_iff.2 d.n);refine ySc a hB λp=> ?_
 by_cases h:p∈M.map (·.dm)
 ·obtain⟨m,hm,rfl⟩:=np.1 h;rw[b m hm];exact d.t m (hM.mem_iff.1 hm)
 ·rw[c p h];exact d.e p λh2=>h (hpm.mem_iff.2 h2)
def zWk {s:Int}:∀(k:Nat) (A:List Lv),qA s k A A=[]
 |0,_=>rfl
 |k+1,[]=>rfl
 |k+1,x::A=>by
  rw[qA];have:jl s x.dm x.dm=aq:=by rw[jl];split<;>simp
  rw[ez (by rw[this];decide),ez (by rw[this];decide),fh rfl,zWk k A];rfl
def jS (s:Int) (L:List Lv) (m:Lv):List Lv:=match L.findIdx? λy=>decide (y.dm=m.dm)with
 |some n=>if m.dr=0 then L.eraseIdx n else L.set n m
 |none=>if 0<m.dr then L.take ((L.findIdx? λy=>jl s m.dm y.dm).getD L.length)++m::L.drop ((L.findIdx? λy=>jl s m.dm y.dm).getD L.length)else L
def zYb {s:Int} {m:Lv} (hq:0<=m.dr):∀{L:List Lv},cR s L->jS s L m=mC s L m
 |[],_=>by
  rw[jS,mC,List.findIdx?_nil];dsimp only;split<;>rfl
 |x::L,h=>by
  rw[cR,yx]at h;have ih:=zYb hq h.2;rw[mC];by_cases hx:x.dm=m.dm
  ·rw[fh hx,jS,J3,fh (by simp[hx])];dsimp only;split<;>rfl
  rw[ez hx];by_cases hb:jl s m.dm x.dm=ar
  ·have hn:(x::L).findIdx? (λy=>decide (y.dm=m.dm))=bc:=by
    rw[Ou];intro l hl;rcases jx.1 hl with rfl|hl
    ·exact jv hx
    ·have:=aB (lO hb (h.1 l hl));exact jv λe=>this e.symm
   rw[fh hb,jS,hn];dsimp only;rw[J3,fh hb];rfl
  ·have e1:(x::L).findIdx? (λy=>decide (y.dm=m.dm))=(L.findIdx? λy=>decide (y.dm=m.dm)).map (·+1):=by
    rw[J3,ez (by simp[hx])]
   have e2:(x::L).findIdx? (λy=>jl s m.dm y.dm)=(L.findIdx? λy=>jl s m.dm y.dm).map (·+1):=by
    rw[J3,ez hb]
   rw[ez hb,<- ih,jS,jS,e1,e2];cases L.findIdx? (λy=>decide (y.dm=m.dm))with
   |some n=>
    dsimp only[Option.map];split<;>rfl
   |none=>
    dsimp only[Option.map];split
    ·cases L.findIdx? (λy=>jl s m.dm y.dm)<;>rfl
    ·rfl
def Lv.fit (x:Lv):Prop:=yP x.dm/\yP x.dr/\yP x.count
def Sd.fit (s:Sd):Prop:=(∀x∈s.levels,x.fit)/\s.imp.fit
def Rp (v:Vw):Prop:=∀b∈v,b.1.fit/\b.2.fit
def z9g {α:Type}:∀(l:List α) {k:Nat} (h:k<l.length),l.take k++[l[k]]=l.take (k+1)
 |[],_,h=>absurd h (by simp)
 |a::l,0,_=>rfl
 |a::l,k+1,h=>by
  have:=z9g l (k:=k) (i9 h);rw[u',u',<- this];rfl
def yPq {x:Lv} (h:x.fit) (l:i4):RB.lv ⟨qH x++l,aq⟩=(x,⟨l,aq⟩):=by
 obtain⟨h1,h2,h3⟩:=h;rw[RB.lv,qH,jd,jd,uP h1];dsimp only;rw[uP h2];dsimp only;rw[uP h3]
def yIp {L:List Lv} (h:∀x∈L,x.fit) (l:i4):∀k,k<=L.length->RB.zx ⟨L.flatMap qH++l,aq⟩ k=(L.take k,⟨(L.drop k).flatMap qH++l,aq⟩)
 |0,_=>by simp[RB.zx]
 |k+1,hk=>by
  have pk:k<L.length:=hk;rw[RB.zx,yIp h l k (by omega),CH pk,vi,jd];dsimp only;rw[yPq (h _ (List.getElem_mem pk))];dsimp only;rw[z9g L pk]
def z6s {s:Sd} (h:s.fit) (hl:s.levels.length<=255) (h0:s.has=aq->s.imp=⟨0,0,0⟩) (l:i4):RB.side ⟨tL s++l,aq⟩=((s,ar),⟨l,aq⟩):=by
 have hp:RB.part ⟨tL s++l,aq⟩=(s.levels,⟨(if s.has then[iY 1]++qH s.imp else[iY 0])++l,aq⟩):=by
  have e:tL s++l=iY s.levels.length::(s.levels.flatMap qH++((if s.has then[iY 1]++qH s.imp else[iY 0])++l)):=by simp[tL,jd]
  rw[e,RB.part,jJ];dsimp only;rw[ET (by omega),ot,yIp h.1 _ _ (ju _),At,aw];rfl
 rw[RB.side,hp];dsimp only;cases hh:s.has with
 |true=>
  rw[fh rfl,jd];have e:[iY 1]++(qH s.imp++l)=iY 1::(qH s.imp++l):=rfl;rw[e,jJ];dsimp only;rw[ET (by omega),fh rfl,yPq h.2];cases s;cases hh;rfl
 |false=>
  have e:(if aq=ar then[iY 1]++qH s.imp else[iY 0])++l=iY 0::l:=rfl;rw[e,jJ];dsimp only;rw[ET (by omega),ez (by decide)];have:=h0 hh;cases s;cases hh;cases this;rfl
def zWs {v:Vw} (h:Rp v) (hr:wO v) (l:i4):∀k,k<=v.length->RB.views ⟨v.flatMap kD++l,aq⟩ k=((v.take k,ar),⟨(v.drop k).flatMap kD++l,aq⟩)
 |0,_=>by simp[RB.views]
 |k+1,hk=>by
  have pk:k<v.length:=hk;have hm:=List.getElem_mem pk;obtain⟨f1,f2⟩:=h _ hm;obtain⟨⟨_,a1,_,a2⟩,⟨_,b1,_,b2⟩⟩:=hr.1 _ hm;rw[RB.views,zWs h hr l k (by omega),CH pk,vi,kD,jd,jd];dsimp only;rw[z6s f1 a1 a2];dsimp only;rw[z6s f2 b1 b2];dsimp only;rw[<- z9g v pk];rfl
def yZu {v:Vw} (h:Rp v) (hr:wO v) {seq:Int} (hs:yP seq):RB.all ⟨kR v seq,aq⟩=((v,ar),⟨[],aq⟩)/\(RB.mk (kR v seq) aq).fx.1=seq:=by
 have hl:=hr.2;have e:kR v seq=le seq 8++(iY v.length::v.flatMap kD):=by simp[kR,jd]
 have e2:RB.fx ⟨kR v seq,aq⟩=(seq,⟨iY v.length::v.flatMap kD,aq⟩):=by rw[e,uP hs]
 have e3:RB.head ⟨kR v seq,aq⟩=((v.length:Int),⟨v.flatMap kD,aq⟩):=by
  rw[RB.head,e2];dsimp only;rw[jJ,ET (by omega)]
 refine⟨?_,by rw[e2]⟩;have:=zWs h hr [] v.length (ju _);rw[oJ,oJ,At,aw]at this;rw[RB.all,e3];dsimp only;rw[ot,this];rfl
def ySr {v:Vw} (hr:wO v) (seq:Int):yI (xU v seq)=⟨kR v seq,aq⟩/\rF (xU v seq):=by
 have hl:(xU v seq).length-4=(kR v seq).length:=by rw[xU,fh hr,iv,y8];omega
 have h4:4<=(xU v seq).length:=by rw[xU,fh hr,iv,y8];omega
 have ht:(xU v seq).take ((xU v seq).length-4)=kR v seq:=by rw[hl,xU,fh hr,JY]
 have hd:(xU v seq).drop ((xU v seq).length-4)=le (dP (kR v seq)) 4:=by rw[hl,xU,fh hr,Oe]
 exact⟨by rw[yI,ht],h4,by rw[ht,hd]⟩
def yJm {v:Vw} (h:Rp v) (hr:wO v) {seq:Int} (hs:yP seq):bX (xU v seq)=v/\pK (xU v seq)=seq/\Ar (xU v seq)=0:=by
 obtain⟨b1,b2⟩:=ySr hr seq;obtain⟨a1,a2⟩:=yZu h hr hs;have hf:aT (xU v seq):=by rw[aT,b1,a1];exact⟨rfl,rfl,hr⟩
 refine⟨?_,?_,?_⟩
 ·rw[bX,fh ⟨b2,hf⟩,b1,a1]
 ·rw[pK,fh ⟨b2,hf⟩,b1,a2]
 ·rw[Ar,fh b2,fh hf]
structure VM where
 inst:Nat
 side:Int
 l:Lv
 imp:Bool
def BA:Lv:=⟨0,0,0⟩
def vJ (s:Int) (x:Sd) (m:VM):Sd:=if m.imp=ar then(if 0<m.l.dr then⟨x.levels,m.l,ar⟩else⟨x.levels,BA,aq⟩)else⟨mC s x.levels m.l,x.imp,x.has⟩
def Iq (a b:Sd):Bool:=decide (a.imp≠b.imp)||decide (a.has≠b.has)
def Cy (b:Sd):Lv:=if b.has=ar then b.imp else BA
def xV (n:Nat) (s:Int) (a b:Sd):List VM:=(qA s (a.levels.length+b.levels.length) a.levels b.levels).map (λl=>⟨n,s,l,aq⟩)++if Iq a b=ar then[⟨n,s,Cy b,ar⟩]else[]
def XD (s:Int) (x:Sd):Prop:=cR s x.levels/\Rn x.levels/\(x.has=ar->1<=x.imp.dr)/\(x.has=aq->x.imp=BA)
def yFx {s:Int}:∀(M:List VM) (x:Sd),(M.foldl (vJ s) x).levels=((M.filter λm=> !m.imp).map (·.l)).foldl (mC s) x.levels
 |[],_=>rfl
 |m::M,x=>by
  rw[A7,yFx M,Dm];cases h:m.imp with
  |true=>
   rw[ez (by simp),vJ,fh h];split<;>rfl
  |false=>
   rw[fh (show(!false)=ar from rfl),vJ,ez (by simp[h])];rfl
def yCz {s:Int} {l:Lv} {n:Nat}:∀(M:List VM) (x:Sd),(M.filter (·.imp))=[⟨n,s,l,ar⟩]->(M.foldl (vJ s) x).imp=(if 0<l.dr then l else BA)/\(M.foldl (vJ s) x).has=decide (0<l.dr)
 |[],_,h=>by cases h
 |m::M,x,h=>by
  rw[A7];rw[Dm]at h;cases hm:m.imp with
  |true=>
   rw[fh hm]at h;have h1:=(List.cons.inj h).1;have h2:=(List.cons.inj h).2;have oz:∀(M:List VM) (x:Sd),M.filter (·.imp)=[]->(M.foldl (vJ s) x).imp=x.imp/\(M.foldl (vJ s) x).has=x.has:=by
    intro M
    induction M with
    |nil=>intro x _;exact⟨rfl,rfl⟩
    |cons y M ih=>
     intro x hy;rw[Dm]at hy;cases hi:y.imp with
     |true=>rw[fh hi]at hy;cases hy
     |false=>
      rw[ez (by simp[hi])]at hy;rw[A7,(ih _ hy).1,(ih _ hy).2,vJ,ez (by simp[hi])];exact⟨rfl,rfl⟩
   rw[(oz M _ h2).1,(oz M _ h2).2,h1,vJ,fh rfl];by_cases c:0<l.dr
   ·rw[fh c,fh c,jo c];exact⟨rfl,rfl⟩
   ·rw[ez c,ez c,jv c];exact⟨rfl,rfl⟩
  |false=>
   rw[ez (by simp[hm])]at h;exact yCz M _ h
def Y4 {s:Int}:∀(M:List VM) (x:Sd),M.filter (·.imp)=[]->(M.foldl (vJ s) x).imp=x.imp/\(M.foldl (vJ s) x).has=x.has
 |[],_,_=>⟨rfl,rfl⟩
 |y::M,x,hy=>by
  rw[Dm]at hy;cases hi:y.imp with
  |true=>rw[fh hi]at hy;cases hy
  |false=>
   rw[ez (by simp[hi])]at hy;rw[A7,(Y4 M _ hy).1,(Y4 M _ hy).2,vJ,ez (by simp[hi])];exact⟨rfl,rfl⟩
def z7g {n:Nat} {s:Int} {a b:Sd} (ha:XD s a) (hb:XD s b) {M:List VM} (hM:M.Perm (xV n s a b)):M.foldl (vJ s) a=b:=by
 have hl:(M.foldl (vJ s) a).levels=b.levels:=by
  rw[yFx];refine z9e ha.1 hb.1 hb.2.1 (ju _) ?_;have:=(hM.filter λm=> !m.imp).map (·.l)
  refine this.trans (List.Perm.of_eq ?_);rw[xV,Cf,ay];have e:(if Iq a b=ar then[(⟨n,s,Cy b,ar⟩:VM)]else[]).filter (λm=> !m.imp)=[]:=by split<;>rfl
  rw[e,oJ,wb];have e2:(qA s (a.levels.length+b.levels.length) a.levels b.levels).filter ((λm:VM=> !m.imp)∘λl=>⟨n,s,l,aq⟩)=qA s (a.levels.length+b.levels.length) a.levels b.levels:=IA.2 λ_ _=>rfl
  rw[e2];exact List.map_id _
 have hi:(M.foldl (vJ s) a).imp=b.imp/\(M.foldl (vJ s) a).has=b.has:=by
  have hf:=hM.filter (·.imp)
  have e0:(xV n s a b).filter (·.imp)=if Iq a b=ar then[⟨n,s,Cy b,ar⟩]else[]:=by
   rw[xV,Cf,ay];have e2:(qA s (a.levels.length+b.levels.length) a.levels b.levels).filter ((λm:VM=>m.imp)∘λl=>⟨n,s,l,aq⟩)=[]:=HG.2 λ_ _=>by simp
   rw[e2,Bs,we];split<;>rfl
  rw[e0]at hf;by_cases c:Iq a b=ar
  ·rw[fh c]at hf;have hf:=List.perm_singleton.1 hf;obtain⟨x1,x2⟩:=yCz M a hf;rw[x1,x2,Cy];cases hh:b.has with
   |true=>
    have:=hb.2.2.1 hh;rw[fh rfl,fh (by omega),jo (by omega)];exact⟨rfl,rfl⟩
   |false=>
    rw[hb.2.2.2 hh];exact⟨rfl,rfl⟩
  ·rw[ez c]at hf;obtain⟨x1,x2⟩:=Y4 M a (List.perm_nil.1 hf);rw[Iq,Og,tn,tn,not_or]at c;rw[x1,x2];exact⟨Decidable.not_not.1 c.1,Decidable.not_not.1 c.2⟩
 generalize M.foldl (vJ s) a=x at hl hi;cases x;cases b;simp only at hl hi;rw[hl,hi.1,hi.2]
def yHm (n:Nat) (s:Int) (a:Sd):xV n s a a=[]:=by
 rw[xV,zWk];simp[Iq]
def b9 (p:Sd×Sd) (m:VM):Sd×Sd:=if m.side=1 then(vJ 1 p.1 m,p.2)else(p.1,vJ 2 p.2 m)
def bC (v:Vw) (m:VM):Vw:=v.modify m.inst λp=>b9 p m
def xN (n:Nat):Vw->Vw->List VM
 |a::A,b::B=>xV n 1 a.1 b.1++xV n 2 a.2 b.2++xN (n+1) A B
 |_,_=>[]
def XB (v:Vw):Prop:=∀p∈v,XD 1 p.1/\XD 2 p.2
def y0e (v:Vw) (m:VM):(bC v m).length=v.length:=List.length_modify _ _ _
def z5j:∀(M:List VM) (v:Vw) (i:Nat),(M.foldl bC v)[i]? =v[i]?.map λp=>(M.filter λm=>decide (m.inst=i)).foldl b9 p
 |[],v,i=>by simp
 |m::M,v,i=>by
  rw[A7,z5j M,bC,FI,Dm];by_cases h:m.inst=i
  ·cases v[i]? <;>simp[h]
  ·cases v[i]? <;>simp[h]
def zZd:∀(M:List VM) (p:Sd×Sd),M.foldl b9 p=((M.filter λm=>decide (m.side=1)).foldl (vJ 1) p.1,(M.filter λm=> !decide (m.side=1)).foldl (vJ 2) p.2)
 |[],_=>rfl
 |m::M,p=>by
  rw[A7,zZd M,b9,Dm,Dm];by_cases h:m.side=1
  ·rw[fh h,fh (by simp[h]),ez (by simp[h])];rfl
  ·rw[ez h,ez (by simp[h]),fh (by simp[h])];rfl
def rI {n:Nat} {s:Int} {a b:Sd}:∀m∈xV n s a b,m.inst=n/\m.side=s:=by
 intro m hm;rw[xV,oK]at hm;rcases hm with hm|hm
 ·obtain⟨l,_,rfl⟩:=np.1 hm;exact⟨rfl,rfl⟩
 ·split at hm
  ·rw[ua]at hm;subst hm;exact⟨rfl,rfl⟩
  ·cases hm
def y2k:∀{n:Nat} {A B:Vw},∀m∈xN n A B,n<=m.inst
 |n,[],_,m,h=>by rw[xN]at h<;>first|cases h|simp
 |n,a::A,[],m,h=>by rw[xN]at h<;>first|cases h|simp
 |n,a::A,b::B,m,h=>by
  rw[xN,oK,oK]at h;rcases h with(h|h)|h
  ·exact Nat.le_of_eq (rI m h).1.symm
  ·exact Nat.le_of_eq (rI m h).1.symm
  ·have:=y2k m h;omega
def ySu:∀{n:Nat} {A B:Vw} {i:Nat} {a b:Sd×Sd},A[i]? =ba a->B[i]? =ba b->(xN n A B).filter (λm=>decide (m.inst=n+i))=xV (n+i) 1 a.1 b.1++xV (n+i) 2 a.2 b.2
 |n,[],_,i,a,b,h,_=>by cases h
 |n,x::A,[],i,a,b,_,h=>by cases h
 |n,x::A,y::B,0,a,b,h,h2=>by
  cases h;cases h2;rw[xN,Cf];have e1:(xN (n+1) A B).filter (λm=>decide (m.inst=n+0))=[]:=HG.2 λm hm=>by
   have:=y2k m hm;simp;omega
  rw[e1,oJ];refine IA.2 λm hm=> ?_
  rcases oK.1 hm with hm|hm
  ·exact jo (rI m hm).1
  ·exact jo (rI m hm).1
 |n,x::A,y::B,i+1,a,b,h,h2=>by
  have ih:=ySu (n:=n+1) (A:=A) (B:=B) (i:=i) (a:=a) (b:=b) h h2;rw[xN,Cf];have e1:(xV n 1 x.1 y.1++xV n 2 x.2 y.2).filter (λm=>decide (m.inst=n+(i+1)))=[]:=HG.2 λm hm=>by
   rcases oK.1 hm with hm|hm
   ·have:=(rI m hm).1;simp;omega
   ·have:=(rI m hm).1;simp;omega
  rw[e1,we,show n+(i+1)=n+1+i by omega];exact ih
def yCm {A B:Vw} (hl:A.length=B.length) (hA:XB A) (hB:XB B) {M:List VM} (hM:M.Perm (xN 0 A B)):M.foldl bC A=B:=by
 refine Dn λi=> ?_
 rw[z5j];cases hi:A[i]? with
 |none=>
  have:=XI.1 hi;rw[ui (by omega)];rfl
 |some a=>
  have gu:=(jm.1 hi).1;obtain⟨b,hb⟩:∃b,B[i]? =ba b:=⟨_,vd oM⟩
  obtain⟨a1,a2⟩:=hA a (lh hi);obtain⟨b1,b2⟩:=hB b (lh hb);have hf:=hM.filter λm=>decide (m.inst=i)
  have hv:=ySu (n:=0) hi hb;rw[nq]at hv;rw[hv]at hf;have h1:((M.filter λm=>decide (m.inst=i)).filter λm=>decide (m.side=1)).Perm (xV i 1 a.1 b.1):=by
   refine(hf.filter _).trans (List.Perm.of_eq ?_);rw[Cf,IA.2 λm hm=>jo (rI m hm).2,HG.2 λm hm=>by rw[(rI m hm).2];decide,oJ]
  have h2:((M.filter λm=>decide (m.inst=i)).filter λm=> !decide (m.side=1)).Perm (xV i 2 a.2 b.2):=by
   refine(hf.filter _).trans (List.Perm.of_eq ?_);rw[Cf,HG.2 λm hm=>by rw[(rI m hm).2];decide,IA.2 λm hm=>by rw[(rI m hm).2];decide,we]
  rw[hb,wg,zZd,z7g a1 b1 h1,z7g a2 b2 h2]
def yGr:∀(n:Nat) (A:Vw),xN n A A=[]
 |_,[]=>rfl
 |n,a::A=>by rw[xN,yHm,yHm,yGr];rfl
end Sx
