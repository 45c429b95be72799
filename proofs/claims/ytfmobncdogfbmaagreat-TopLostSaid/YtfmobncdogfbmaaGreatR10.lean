/- Texts of ours. No condition. -/
import Derived.Test.YtfmobncdogfbmaaGreatR9
set_option linter.all false
open Sx.fq renaming rk->aa,cells->ab,kr->ac,own->ae
open Go.IntKind renaming i64->af,u64->ag,u32->aj,wrap->ak,signed->am,u8->ao
open Bool renaming false->ap,true->aq
open List renaming map->ar,take->au,drop_length->av,drop->aw,filter_map->ax,length->ay
open Option renaming some->az,none->ba
open Go.ByteArray renaming toList_eq->bc
open Nat renaming pow_le_pow_right->be
open ByteArray renaming mk->bg
open True renaming intro->Y_
open Cv.dp renaming mk->W_
namespace Sx
set_option maxRecDepth 100000
open Go Cv Go.Proofs
open Tryz renaming prog->Z_
open Tryz hiding prog
def xJl {l:List ir} {k:Nat} {c:ir} (h:l[k]? =az c):zC (l.map zy) k 0 9=az [D.v (.int .i64 c.kind),.v (.int .i64 c.id),.v (.int .i64 c.inst),.v (.int .i64 c.side),.v (.int .i64 c.dm),.v (.int .i64 c.dr),.v (.int .i64 c.least),.v (.int .i64 c.time),.v (.string (sb c.label))]:=jz h (by simp[zy]) rfl
def R9 (p:fj):iJ:=⟨p,nN p,[]⟩
def yZz (p:fj):(R9 p).ga p (List.replicate p.count []) []:=⟨rfl,yCp _,rfl⟩
def ld (l:i4):Nat->fq
 |0=> .cells [.own 1] 240
 |1=> .own 5 1 (bE l)
 |_=> .gone
def Wr (l:i4):fq:= .rk i4 2 ld l
structure J1 where
 l:i4
 n:Int
 k:Nat
def Td:gh where
 ι:=J1
 pat:=λi=>[.nm 0 0,.d (.v (.int .u64 i.n)),.d (.v (.int .i64 i.k))]
 pre:=λi=>[Wr i.l]
 dp:=λi=>0<=i.n/\i.n<18446744073709551616/\i.l.length+i.k<=1099511627776
 alts:=λi=>[{o:=Unit,res:=λ_=> .je [],post:=λ_=>[Wr (i.l++le i.n i.k)],rel:=λ_=>True}]
def xKo (i:J1):List gu:=[{
 ι:=Nat,
 du:=λj=>[(0,.nm 0 0),(1,.d (.v (.int .u64 (i.n / 256 ^ j)))),(7,.d (.v (.int .i64 j)))],
 rows:=λj=>[ld (i.l++le i.n j) 0,ld (i.l++le i.n j) 1]}]
def xCx (i:J1):Prop:=
 ∃(a:Nat),i.n / (256:Int) ^ a=i.n/\(a:Int)=0/\bE (i.l++le i.n a)=bE i.l/\∃(b:Nat->Prop),∃(c:Nat->Nat),b a/\∀(d:Nat),b d->dp (decide ((d:Int)<(i.k:Int))) (((bE (i.l++le i.n d)).length+1)*(1:Nat)<=(140737488355328:Nat)/\(0:Int)<=(8:Int)/\∃(e:Nat),i.n / (256:Int) ^ e=aO ag (i.n / (256:Int) ^ d) 8/\(e:Int)=af.wrap ((d:Int)+1)/\bE (i.l++le i.n e)=bE (i.l++le i.n d)++[[D.v (.int .u8 (ao.wrap (i.n / (256:Int) ^ d)))]]/\b e/\c e<c d/\True) (dx (bE (i.l++le i.n i.k)=bE (i.l++le i.n d)/\True))
def xJc (i:J1) (h:Td.dp i):xCx i:=by
 unfold xCx dx;obtain⟨h1,h2,h3⟩:=h;refine⟨0,by simp,rfl,by simp[le],λj=>j<=i.k,λj=>i.k-j,oM,λj hj=>zH (λgr=> ?_) (λgr=> ?_)⟩
 ·refine⟨?_,oM,j+1,?_,?_,?_,oM,Z9,Y_⟩
  ·rw[yV,ix,xA];omega
  ·have:=PI .u64 (i.n / 256 ^ j) 8 Z8;rw[show((8:Nat):Int)=8 by rfl]at this;rw[this,Int.ediv_ediv_of_nonneg (Int.pow_nonneg X_),IE];rfl
  ·rw[iw X_];rfl
  ·rw[le_succ,U'];simp[bE]
 ·obtain rfl:j=i.k:=X_
  exact⟨(),rfl,Y_⟩
def yCl:Td.ok Z_ 137:=gy mixed fk 0 i6 (λi=>xKo i) [0] func137 xJc
@[reducible] def FO:Nat:=5
structure WN where
 l:i4
 n:Int
@[reducible] def WN.ok (i:WN):Prop:=i.l.length+8<=1099511627776
def Ll:gh:=fp WN (λi=>[.nm 0 0,zB i.n]) (λi=>[Wr i.l]) WN.ok (λ_=>pW) (λi=>[Wr (i.l++[iZ i.n])])
def KW:gh:=fp WN (λi=>[.nm 0 0,zB i.n]) (λi=>[Wr i.l]) WN.ok (λ_=>pW) (λi=>[Wr (i.l++le i.n 8)])
def S9:gh:=fp WN (λi=>[.nm 0 0,XQ i.n]) (λi=>[Wr i.l]) (λi=>i.l.length+8<=1099511627776/\0<=i.n/\i.n<4294967296) (λ_=>pW) (λi=>[Wr (i.l++le i.n 4)])
@[reducible] def y7k (t sz oF:Nat):gh:=fp (Q_ D) (λ_=>[.own 0]) (λl=>[.own t sz l]) (λl=>l.length*oF<=140737488355328) (λ_=> .own 1) (λl=>[.own t sz l,.own t sz l])
@[reducible] def xAr (sz oF:Nat):gh:=fp (Q_ D) (λl=>[ox sz l]) i6 (λl=>l.length*oF<=140737488355328) (λl=>ox sz l) i6
def td:gh:=y7k FO 1 1
def tc:gh:=xAr 1 1
def T9:gh:=fp Unit i6 i6 (λ_=>True) (λ_=> .nm 0 0) (λ_=>[Wr []])
def UG:gh:=fp i4 (λ_=>[.nm 0 0]) (λl=>[Wr l]) (λl=>l.length<=1099511627776) (λ_=> .own 1) (λl=>[Wr l,.own FO 1 (bE l)])
def yCz (c:Int):Int:=if 0<CH .u32 c 1 then CB .u32 (aO .u32 c 1) 3988292384 else aO .u32 c 1
def uT:Nat->Int->Int
 |0,c=>c
 |k+1,c=>yCz (uT k c)
def Ec (l:i4):Int:=l.foldl (λc b=>uT 8 (CB .u32 c b.toNat)) 4294967295
def dH (l:i4):Int:=CB .u32 4294967295 (Ec l)
def TU:gh:=fp i4 (λl=>[ox 1 (bE l)]) i6 (λl=>l.length<=1099511627776) (λl=>XQ (dH l)) i6
def xKp (l:i4):List gu:=[
 {ι:=Nat,du:=λi=>[(3,XQ (Ec (l.take i))),(9,zB i)],rows:=λ_=>[]},
 {ι:=Int×Nat,du:=λi=>[(3,XQ (uT i.2 i.1)),(17,zB i.2)],rows:=λ_=>[]}]
def iW (x:i4×Bool):Nat->fq
 |0=> .cells [ox 1 (bE x.1),yM x.2] 329
 |_=> .gone
def Rd (l:i4) (b:Bool):fq:= .rk (i4×Bool) 1 iW (l,b)
def Ua:gh:=fp i4 (λl=>[ox 1 (bE l)]) i6 (λl=>l.length<=1099511627776) (λ_=> .nm 0 0) (λl=>[Rd l ap])
structure RN where
 l:i4
 b:Bool
 n:Nat
def RN.bad (i:RN):Bool:=i.b||decide (i.l.length<i.n)
def RN.iT (i:RN):i4:=if i.bad then[]else i.l.take i.n
def RN.left (i:RN):i4:=if i.bad then i.l else i.l.drop i.n
@[reducible] def RN.ok (i:RN):Prop:=i.n<=255/\i.l.length<=1099511627776
def T4:gh:=fp RN (λi=>[.nm 0 0,zB i.n]) (λi=>[Rd i.l i.b]) RN.ok (λi=>ox 1 (bE i.iT)) (λi=>[Rd i.left i.bad])
def yW:i4->Int
 |[]=>0
 |b::l=>b.toNat+256*yW l
def TH:gh:=fp RN (λi=>[.nm 0 0,zB i.n]) (λi=>[Rd i.l i.b]) (λi=>i.n<=8/\i.l.length<=1099511627776) (λi=>A8 (yW i.iT)) (λi=>[Rd i.left i.bad])
def xFt (i:RN):List gu:=[{ι:=Nat,du:=λj=>[(5,A8 (yW (i.iT.take j))),(12,zB j)],rows:=λ_=>[]}]
structure RB where
 l:i4
 b:Bool
def RB.n (i:RB) (k:Nat):RN:=⟨i.l,i.b,k⟩
def Nh:gh:=fp RB (λi=>[.nm 0 0]) (λi=>[Rd i.l i.b]) (λi=>i.l.length<=1099511627776) (λi=>zB (yW (i.n 1).iT)) (λi=>[Rd (i.n 1).left (i.n 1).bad])
def Nf:gh:=fp RB (λi=>[.nm 0 0]) (λi=>[Rd i.l i.b]) (λi=>i.l.length<=1099511627776) (λi=>zB (af.wrap (yW (i.n 8).iT))) (λi=>[Rd (i.n 8).left (i.n 8).bad])
def T6:gh:=fp RB (λi=>[.nm 0 0]) (λi=>[Rd i.l i.b]) (λi=>i.l.length<=1099511627776) (λi=>zB (if i.b then 10 else if 0<i.l.length then 15 else 0)) (λi=>[Rd i.l i.b])
def mK (a:J1):Prop:=0<=a.n/\a.n<18446744073709551616/\a.l.length+a.k<=1099511627776
def y3t (i:WN):Prop:=
 ∃(a:J1),a.n=ag.wrap i.n/\(a.k:Int)=1/\aa i4 2 ld a.l=Wr i.l/\(mK a)/\ff (dx (aa i4 2 ld (i.l++[iZ i.n])=aa i4 2 ld (a.l++le a.n a.k)/\True))
def y3a (i:WN):Prop:=
 ∃(a:J1),a.n=ag.wrap i.n/\(a.k:Int)=8/\aa i4 2 ld a.l=Wr i.l/\(mK a)/\ff (dx (aa i4 2 ld (i.l++le i.n 8)=aa i4 2 ld (a.l++le a.n a.k)/\True))
def xDp (i:WN):Prop:=
 ∃(a:J1),a.n=ag.wrap i.n/\(a.k:Int)=4/\aa i4 2 ld a.l=Wr i.l/\(mK a)/\ff (dx (aa i4 2 ld (i.l++le i.n 4)=aa i4 2 ld (a.l++le a.n a.k)/\True))
def z8a (i:Q_ D):Prop:=
 ∀(b:Bool),(b=aq->i=[])->dp b (∃(o:Unit),i=i/\i=[]/\True) ((0+i.length)*(1:Nat)<=(140737488355328:Nat)/\∃(o:Unit),i=i/\i=[]++i/\True)
def yJv (i:Q_ D):z8a i=walk Z_ ([]) 0 ([]) ([]) [] Tryz.f138 (Tryz.f138.body.getD .skip) (td.pat i) (td.pre i) (td.alts i):=by kernel_rfl
def yJr (hG:zq Z_ ([])) (h:∀(i:Q_ D),td.dp i->z8a i):td.ok Z_ 138:=qY mixed ([]) hG 0 (λ(i:Q_ D)=>[]) (λ(i:Q_ D)=>[]) [] func138 (by kernel_rfl) (by kernel_rfl) (by kernel_rfl) (λ_=>by kernel_rfl) (λ(i:Q_ D) hc=>Eq.mp (yJv i) (h i hc))
def z5x (i:Q_ D):Prop:=
 ∀(b:Bool),(b=aq->i=[])->dp b (∃(o:Unit),i=[]/\True) ((0+i.length)*(1:Nat)<=(140737488355328:Nat)/\∃(o:Unit),i=[]++i/\True)
def yJs (i:Q_ D):z5x i=walk Z_ ([]) 0 ([]) ([]) [] Tryz.f138 (Tryz.f138.body.getD .skip) (tc.pat i) (tc.pre i) (tc.alts i):=by kernel_rfl
def yLj (hG:zq Z_ ([])) (h:∀(i:Q_ D),tc.dp i->z5x i):tc.ok Z_ 138:=qY mixed ([]) hG 0 (λ(i:Q_ D)=>[]) (λ(i:Q_ D)=>[]) [] func138 (by kernel_rfl) (by kernel_rfl) (by kernel_rfl) (λ_=>by kernel_rfl) (λ(i:Q_ D) hc=>Eq.mp (yJs i) (h i hc))
def xGw (i:Unit):Prop:=
 ∃(o:Unit),bE []=[]/\True
def xDy (i:i4):Prop:=
 ∃(ia:Q_ D),ia=bE i/\ia.length*(1:Nat)<=(140737488355328:Nat)/\∀(o:Unit),True->∃(o:Unit),bE i=ia/\bE i=ia/\True
def xFp (i:i4):Prop:=
 ∃(a:Nat),Ec (au a i)=4294967295/\(a:Int)=0/\∃(b:Nat->Prop),∃(c:Nat->Nat),b a/\∀(d:Nat),b d->dp (decide ((d:Int)<((bE i).length:Int))) ((0<=(d:Int)/\(d:Int)<((bE i).length:Int))/\∃(e:Int),zC (bE i) (d:Int).toNat 0 1=az [D.v (.int .u8 e)]/\∃(f:Int×Nat),uT f.snd f.fst=CB aj (Ec (au d i)) (aj.wrap e)/\(f.snd:Int)=0/\∃(g:Int×Nat->Prop),∃(h:Int×Nat->Nat),g f/\∀(j:Int×Nat),g j->dp (decide ((j.snd:Int)<8)) ((0:Int)<=(1:Int)/\dp (decide (CH aj (uT j.snd j.fst) (1:Int)>(0:Int))) (∃(k:Int×Nat),uT k.snd k.fst=CB aj (aO aj (uT j.snd j.fst) 1) 3988292384/\(k.snd:Int)=af.wrap ((j.snd:Int)+1)/\g k/\h k<h j/\True) (∃(k:Int×Nat),uT k.snd k.fst=aO aj (uT j.snd j.fst) 1/\(k.snd:Int)=af.wrap ((j.snd:Int)+1)/\g k/\h k<h j/\True)) (∃(k:Nat),Ec (au k i)=uT j.snd j.fst/\kL k d b c)) (dx (dH i=aj.wrap ((BitVec.ofInt aj.bits (if aj.signed=aq then(-1:Int)else aj.max) ^^^ BitVec.ofInt aj.bits (Ec (au d i))).toNat:Int)/\True))
def xCy (i:i4):Prop:=
 ∃(ia:Q_ D),ia=bE i/\ia.length*(1:Nat)<=(140737488355328:Nat)/\∀(o:Unit),True->∃(o:Unit),bE i=ia/\ap=ap/\True
def xGn (i:RN):Prop:=
 dp i.b (∃(o:Unit),bE i.iT=[]/\bE i.left=bE i.l/\i.bad=aq/\True) (dp (decide ((i.n:Int)>((bE i.l).length:Int))) (∃(o:Unit),bE i.iT=[]/\bE i.left=bE i.l/\i.bad=decide ((i.n:Int)>((bE i.l).length:Int))/\True) ((0<=(i.n:Int)/\(i.n:Int)<=((bE i.l).length:Int))/\(0<=(i.n:Int)/\(i.n:Int)<=((bE i.l).length:Int))/\∃(o:Unit),bE i.iT=au (i.n:Int).toNat (bE i.l)/\bE i.left=aw (i.n:Int).toNat (bE i.l)/\i.bad=decide ((i.n:Int)>((bE i.l).length:Int))/\True))
def UU (a:RN) (b:RN):Prop:=ff (∃(d:Nat),yW (au d a.iT)=0/\(d:Int)=0/\∃(e:Nat->Prop),∃(f:Nat->Nat),e d/\∀(g:Nat),e g->dp (decide ((g:Int)<((bE b.iT).length:Int))) ((0<=(g:Int)/\(g:Int)<((bE b.iT).length:Int))/\∃(h:Int),zC (bE b.iT) (g:Int).toNat 0 1=az [D.v (.int .u8 h)]/\0<=af.wrap (8*(g:Int))/\∃(j:Nat),yW (au j a.iT)=HU ag (yW (au g a.iT)) (JU ag (ag.wrap h) (af.wrap (8*(g:Int))))/\QM j g e f (dk (aa (i4×Bool) 1 iW (b.left,b.bad)))) (dx (yW a.iT=yW (au g a.iT)/\aa (i4×Bool) 1 iW (a.left,a.bad)=aa (i4×Bool) 1 iW (b.left,b.bad)/\True)))
def xHf (i:RN):Prop:=
 ∃(a:RN),(a.n:Int)=(i.n:Int)/\aa (i4×Bool) 1 iW (a.l,a.b)=Rd i.l i.b/\(a.n<=255/\a.l.length<=1099511627776)/\UU i a
def y8i (i:RB):Prop:=
 ∃(ia:RN),(ia.n:Int)=1/\aa (i4×Bool) 1 iW (ia.l,ia.b)=Rd i.l i.b/\(ia.n<=8/\ia.l.length<=1099511627776)/\∀(o:Unit),True->∃(o:Unit),yW (i.n 1).iT=af.wrap (yW ia.iT)/\aa (i4×Bool) 1 iW ((i.n 1).left,(i.n 1).bad)=aa (i4×Bool) 1 iW (ia.left,ia.bad)/\True
def y9n (i:RB):Prop:=
 ∃(ia:RN),(ia.n:Int)=8/\aa (i4×Bool) 1 iW (ia.l,ia.b)=Rd i.l i.b/\(ia.n<=8/\ia.l.length<=1099511627776)/\∀(o:Unit),True->∃(o:Unit),af.wrap (yW (i.n 8).iT)=af.wrap (yW ia.iT)/\aa (i4×Bool) 1 iW ((i.n 8).left,(i.n 8).bad)=aa (i4×Bool) 1 iW (ia.left,ia.bad)/\True
def xEx (i:RB):Prop:=
 dp i.b (∃(o:Unit),(if i.b=aq then(10:Int)else if 0<i.l.length then(15:Int)else(0:Int))=10/\dk (bE i.l)/\i.b=i.b/\True) (dp (decide (((bE i.l).length:Int)>0)) (∃(o:Unit),(if i.b=aq then(10:Int)else if 0<i.l.length then(15:Int)else(0:Int))=15/\dk (bE i.l)/\i.b=i.b/\True) (∃(o:Unit),(if i.b=aq then(10:Int)else if 0<i.l.length then(15:Int)else(0:Int))=0/\dk (bE i.l)/\i.b=i.b/\True))
def y5i (k:Nat):∀n:Int,le (n % 256 ^ k) k=le n k:=by
 induction k with
 |zero=>intro n;rfl
 |succ k ih=>
  intro n;have hp:(0:Int)<256 ^ k:=Int.pow_pos oM;have h1:iZ (n % 256 ^ (k+1))=iZ n:=by
   unfold iZ;rw[IE,Ef,Int.emod_emod_of_dvd n ⟨256 ^ k,rfl⟩]
  have h2:n % 256 ^ (k+1) / 256=n / 256 % 256 ^ k:=by
   have e:n=256*(n / 256)+n % 256:=(Int.mul_ediv_add_emod n 256).symm;have e2:n / 256=256 ^ k*(n / 256 / 256 ^ k)+n / 256 % 256 ^ k:=(Int.mul_ediv_add_emod _ _).symm;have hr:=Ox (n / 256) (show(256:Int) ^ k≠0 by omega);have xz:=RJ (n / 256) hp;have e3:n % 256 ^ (k+1)=256*(n / 256 % 256 ^ k)+n % 256:=by
    have:n=256 ^ (k+1)*(n / 256 / 256 ^ k)+(256*(n / 256 % 256 ^ k)+n % 256):=by
     rw[IE,Ef (256 ^ k) 256,Int.mul_assoc,<- Int.add_assoc,<- Int.mul_add,<- e2];exact e
    conv=>lhs;rw[this]
    rw[Int.add_comm,XW,Int.emod_eq_of_lt]
    ·omega
    ·rw[IE];omega
   rw[e3];omega
  rw[le,le,h1,h2,ih]
def yJn (n:Int):le (ag.wrap n) 8=le n 8:=y5i 8 n
def yBg (n:Int):iZ (ag.wrap n)=iZ n:=by
 have:ag.wrap n=n % 18446744073709551616:=rfl;unfold iZ;rw[this,Int.emod_emod_of_dvd n ⟨72057594037927936,by decide⟩]
def mL (n:Int):0<=ag.wrap n/\ag.wrap n<18446744073709551616:=by
 have:ag.wrap n=n % 18446744073709551616:=rfl;rw[this];omega
def xCo (i:WN) (h:Ll.dp i):y3t i:=by
 unfold y3t ff dx mK;have h:i.l.length+8<=1099511627776:=h;exact⟨⟨i.l,ag.wrap i.n,1⟩,rfl,rfl,rfl,⟨(mL _).1,(mL _).2,Z9⟩,λ_ _=>⟨(),by simp only[le,yBg],Y_⟩⟩
def xFg (i:WN) (h:KW.dp i):y3a i:=by
 unfold y3a ff dx mK;have h:i.l.length+8<=1099511627776:=h;exact⟨⟨i.l,ag.wrap i.n,8⟩,rfl,rfl,rfl,⟨(mL _).1,(mL _).2,Z9⟩,λ_ _=>⟨(),by simp only[yJn],Y_⟩⟩
def xKc (i:WN) (h:S9.dp i):xDp i:=by
 unfold xDp ff dx mK;obtain⟨h1,h2,h3⟩:=h;have e:ag.wrap i.n=i.n:=Ch oM;exact⟨⟨i.l,ag.wrap i.n,4⟩,rfl,rfl,rfl,⟨(mL _).1,(mL _).2,Z9⟩,λ_ _=>⟨(),by simp only[e],Y_⟩⟩
def PR:Ll.ok Z_ 63:=gy mixed (dw yCl fk) 0 i6 i6 [] func63 xCo
def U8:KW.ok Z_ 62:=gy mixed (dw yCl fk) 0 i6 i6 [] func62 xFg
def yBa:S9.ok Z_ 147:=gy mixed (dw yCl fk) 0 i6 i6 [] func147 xKc
def zRo:td.ok Z_ 138:=yJr fk λi h=>λb hb=>
 W_ (λe=>⟨(),rfl,hb e,Y_⟩) (λ_=>⟨by rw[nt];exact h,(),rfl,rfl,Y_⟩)
def yAd:tc.ok Z_ 138:=yLj fk λi h=>λb hb=>
 W_ (λe=>⟨(),hb e,Y_⟩) (λ_=>⟨by rw[nt];exact h,(),rfl,Y_⟩)
def PZ:T9.ok Z_ 61:=gy (V:=xGw) mixed fk 0 i6 i6 [] func61 λ(_:Unit) _=>⟨(),rfl,Y_⟩
def PS:UG.ok Z_ 64:=gy (V:=xDy) mixed (dw zRo fk) 0 i6 i6 [0] func64 λ(i:i4) h=>by
 have h:i.length<=1099511627776:=h;exact⟨_,rfl,by rw[yV];omega,λ_ _=>⟨(),rfl,rfl,Y_⟩⟩
def z0b:Ua.ok Z_ 139:=gy (V:=xCy) mixed (dw yAd fk) 0 i6 i6 [] func139 λ(i:i4) h=>by
 have h:i.length<=1099511627776:=h;exact⟨_,rfl,by rw[yV];omega,λ_ _=>⟨(),rfl,rfl,Y_⟩⟩
def dD {l:i4} {i:Nat} {b:UInt8} (h:l[i]? =az b):zC (bE l) i 0 1=az [.v (.int .u8 b.toNat)]:=by
 unfold zC bE;rw[ra,h];rfl
def yJk {l:i4} {i:Nat} {b:UInt8} (h:l[i]? =az b):Ec (l.take (i+1))=uT 8 (CB .u32 (Ec (l.take i)) b.toNat):=by
 unfold Ec;rw[qf,h];simp[IG]
def xDg (b:UInt8):aj.wrap (b.toNat:Int)=b.toNat:=xGh (by have:=b.toNat_lt;omega)
def y2r (b:UInt8):ag.wrap (b.toNat:Int)=b.toNat:=Ch (by have:=b.toNat_lt;omega)
def xJg (i:i4) (h:TU.dp i):xFp i:=by
 unfold xFp dx kL QM;have h:i.length<=1099511627776:=h;refine⟨0,rfl,rfl,λj=>j<=i.length,λj=>i.length-j,Z9,λj hj=>zH (λgr=> ?_) (λgr=> ?_)⟩
 ·dsimp only at hj;rw[yV]at gr;obtain⟨b,hb⟩:∃b,i[j]? =az b:=⟨_,vl oM⟩
  refine⟨⟨oM,by rw[yV];omega⟩,b.toNat,dD hb,(CB .u32 (Ec (i.take j)) b.toNat,0),?_,rfl,λx=>x.1=CB .u32 (Ec (i.take j)) b.toNat/\x.2<=8,λx=>8-x.2,⟨rfl,Z9⟩,?_⟩
  ·simp only[uT,xDg]
  rintro⟨c,n⟩ ⟨h1,h2⟩;dsimp only at h1 h2;subst h1;refine zH (λhn=>⟨oM,zH (λhc=> ?_) (λhc=> ?_)⟩) (λhn=> ?_)
  ·refine⟨(CB .u32 (Ec (i.take j)) b.toNat,n+1),?_,?_,⟨rfl,by dsimp only at hn ⊢;omega⟩,by dsimp only at hn ⊢;omega,Y_⟩
   ·simp only[uT,yCz];rw[fh hc]
   ·rw[iw V_];rfl
  ·refine⟨(CB .u32 (Ec (i.take j)) b.toNat,n+1),?_,?_,⟨rfl,by dsimp only at hn ⊢;omega⟩,by dsimp only at hn ⊢;omega,Y_⟩
   ·simp only[uT,yCz];rw[eg hc]
   ·rw[iw V_];rfl
  ·dsimp only at hn;obtain rfl:n=8:=X_
   refine⟨j+1,yJk hb,?_,Z9,Z9,Y_⟩;rw[iw X_];rfl
 ·dsimp only at hj;rw[yV]at gr;refine⟨(),?_,Y_⟩;rw[ng X_];rfl
def W0:TU.ok Z_ 148:=gy mixed fk 0 i6 (λi=>xKp i) [] func148 xJg
def yEx:T4.ok Z_ 251:=gy (V:=xGn) mixed fk 0 i6 i6 [0] func251 λ(i:RN) h=>by
 obtain⟨h1,h2⟩:=h;refine W_ (λe=> ?_) (λe=>zH (λgr=> ?_) (λgr=> ?_))
 ·have:i.bad=aq:=by simp[RN.bad,e]
  exact⟨(),by simp[RN.iT,this],by simp[RN.left,this],this,Y_⟩
 ·rw[yV]at gr;have:i.bad=aq:=by simp[RN.bad];right;omega
  exact⟨(),by simp[RN.iT,this],by simp[RN.left,this],by rw[this,yV];simp;omega,Y_⟩
 ·rw[yV]at gr;have:i.bad=ap:=by simp[RN.bad,e];omega
  rw[yV];exact⟨⟨oM,oM⟩,⟨oM,oM⟩,(),by simp[RN.iT,this,eV],by simp[RN.left,this,lK],by rw[this];simp;omega,Y_⟩
def hJ:∀l:i4,0<=yW l/\yW l<256 ^ l.length
 |[]=>by simp[yW]
 |b::l=>by
  obtain⟨h1,h2⟩:=hJ l;have:=b.toNat_lt;simp only[yW,iG,IE];omega
def zMx (b:UInt8):∀l:i4,yW (l++[b])=yW l+b.toNat*256 ^ l.length
 |[]=>by simp[yW]
 |c::l=>by
  simp only[uu,yW,zMx b l,iG,IE,Int.mul_add];rw[Ef (256 ^ l.length) 256,<- Int.mul_assoc,<- Int.mul_assoc,Ef 256 (b.toNat:Int)];omega
def z7v {x b j:Nat} (hx:x<256 ^ j) (hb:b<256) (hj:j<8):HU .u64 x (JU .u64 b ((8*j:Nat):Int))=((x+b*256 ^ j:Nat):Int):=by
 have hp:256 ^ j=2 ^ (8*j):=by rw[Nat.pow_mul]
 have hle:256 ^ (j+1)<=256 ^ 8:=be oM oM;have abj:x+b*256 ^ j<256 ^ (j+1):=by
  rw[Nat.pow_succ];have:b*256 ^ j<=255*256 ^ j:=xv _ oM;omega
 have h8:(256:Nat) ^ 8=18446744073709551616:=by decide
 rw[<- y0h,<- xBk];have e1:y9s .u64 (b:Int) ((8*j:Nat):Int)=((b*256 ^ j:Nat):Int):=by
  show wr .u64 (Int.ofNat (b*2 ^ (Nat.min (8*j) 64)))=_;rw[show Nat.min (8*j) 64=8*j from FL X_,<- hp,Xx];exact Ch (by show(0:Int)<=((b*256 ^ j:Nat):Int)/\((b*256 ^ j:Nat):Int)<_;omega)
 rw[e1];show wr .u64 (Int.ofNat (Nat.lor (x % 18446744073709551616) ((b*256 ^ j) % 18446744073709551616)))=_;rw[Nat.mod_eq_of_lt X_,Nat.mod_eq_of_lt X_];have e2:Nat.lor x (b*256 ^ j)=x+b*256 ^ j:=by
  show x|||(b*256 ^ j)=_
  rw[hp]at hx ⊢;rw[Nat.or_comm,<- Nat.shiftLeft_eq,<- Nat.shiftLeft_add_eq_or_of_lt hx,FI]
 rw[e2,Xx];exact Ch (by show(0:Int)<=((x+b*256 ^ j:Nat):Int)/\((x+b*256 ^ j:Nat):Int)<_;omega)
def eW (i:RN):i.iT.length<=i.n:=by
 unfold RN.iT;split
 ·simp
 ·rw[nr];omega
def xGf (i:RN) (h:TH.dp i):xHf i:=by
 unfold xHf UU QM ff dx;obtain⟨h1,h2⟩:=h;refine⟨i,rfl,rfl,⟨oM,h2⟩,λ_ _=>⟨0,rfl,rfl,λj=>j<=i.iT.length,λj=>i.iT.length-j,Z9,λj hj=>zH (λgr=> ?_) (λgr=> ?_)⟩⟩
 ·dsimp only at hj;have hl:=eW i;rw[yV]at gr ⊢;obtain⟨b,hb⟩:∃b,i.iT[j]? =az b:=⟨_,vl oM⟩
  have e8:af.wrap (8*(j:Int))=8*j:=iw oM;refine⟨⟨oM,oM⟩,b.toNat,dD hb,by rw[e8];omega,j+1,?_,?_,Z9,Z9,rfl⟩
  ·rw[e8,y2r,qf,hb];simp only[AD];rw[zMx];obtain⟨r1,r2⟩:=hJ (i.iT.take j);rw[nr,FL X_]at r2 ⊢;obtain⟨x,hx⟩:∃x:Nat,yW (i.iT.take j)=x:=⟨(yW (i.iT.take j)).toNat,oM⟩
   rw[hx]at r2 ⊢;have:=z7v (x:=x) (b:=b.toNat) (j:=j) (by exact_mod_cast r2) b.toNat_lt oM;rw[show(8*(j:Int))=((8*j:Nat):Int)by simp,this];simp
  ·rw[iw X_];rfl
 ·dsimp only at hj;rw[yV]at gr;exact⟨(),by rw[ng X_],rfl,Y_⟩
def yBq:TH.ok Z_ 206:=gy mixed (dw yEx fk) 0 i6 (λi=>xFt i) [] func206 xGf
def VY:Nh.ok Z_ 141:=gy (V:=y8i) mixed (dw yBq fk) 0 i6 i6 [] func141 λ(i:RB) h=>by
 have hl:=eW (i.n 1);have hr:=hJ (i.n 1).iT;have h0:(256:Int) ^ (i.n 1).iT.length<=256 ^ 1:=by
  have:(256:Nat) ^ (i.n 1).iT.length<=256 ^ 1:=be oM hl
  exact_mod_cast this
 exact⟨i.n 1,rfl,rfl,⟨by show 1<=8;omega,h⟩,λ_ _=>⟨(),(iw oM).symm,rfl,Y_⟩⟩
def ZJ:Nf.ok Z_ 140:=gy (V:=y9n) mixed (dw yBq fk) 0 i6 i6 [] func140 λ(i:RB) h=>by
 exact⟨i.n 8,rfl,rfl,⟨by show 8<=8;omega,h⟩,λ_ _=>⟨(),rfl,rfl,Y_⟩⟩
def yIz:T6.ok Z_ 142:=gy (V:=xEx) mixed fk 0 i6 i6 [0] func142 λ(i:RB) h=>by
 refine W_ (λe=>⟨(),by rw[fh e],rfl,rfl,Y_⟩) (λe=>zH (λgr=>⟨(),?_,rfl,rfl,Y_⟩) (λgr=>⟨(),?_,rfl,rfl,Y_⟩))
 ·rw[yV]at gr;rw[eg (by simp[e]),fh X_]
 ·rw[yV]at gr;rw[eg (by simp[e]),eg X_]
open Classical
structure Sd where
 levels:List Lv
 imp:Lv
 has:Bool
@[reducible] def Vw:=List (Sd×Sd)
def zA (b:Sd×Sd):List D:=[.ro 3 (b.1.levels.map iq),.v (.int .i64 b.1.imp.dm),.v (.int .i64 b.1.imp.dr),.v (.int .i64 b.1.imp.count),.v (.bool b.1.has),
 .ro 3 (b.2.levels.map iq),.v (.int .i64 b.2.imp.dm),.v (.int .i64 b.2.imp.dr),.v (.int .i64 b.2.imp.count),.v (.bool b.2.has)]
def ON (s:Sd):V:= .agg [ox 3 (s.levels.map iq),zB s.imp.dm,zB s.imp.dr,zB s.imp.count,yM s.has]
def Ag (v:Vw):V:= .agg [ox 10 (v.map zA)]
def xJ (side x y:Int):Bool:=if side=1 then decide (y<x)else decide (x<y)
structure I3 where
 side:Int
 x:Int
 y:Int
def JE:gh:=fp I3 (λi=>[zB i.side,zB i.x,zB i.y]) i6 (λ_=>True) (λi=>yM (xJ i.side i.x i.y)) i6
def wo (side:Int) (l:List Lv) (i:Nat):Prop:=∀a,l[i]?=az a->1<=a.dr/\1<=a.count/\∀j b,i=j+1->l[j]?=az b->xJ side b.dm a.dm=aq
def oq (side:Int) (s:Sd):Prop:=(∀i,wo side s.levels i)/\s.levels.length<=255/\(s.has=aq->1<=s.imp.dr/\1<=s.imp.count)/\(s.has=ap->s.imp=⟨0,0,0⟩)
def wE (v:Vw):Prop:=(∀b∈v,oq 1 b.1/\oq 2 b.2)/\v.length<=255
noncomputable def wH (side:Int) (s:Sd):Bool:=decide (oq side s)
noncomputable def fN (v:Vw):Bool:=decide (wE v)
structure MG where
 side:Int
 s:Sd
noncomputable def DU:gh:=fp MG (λi=>[zB i.side,ON i.s]) i6 (λi=>i.s.levels.length<=1099511627776) (λi=>yM (wH i.side i.s)) i6
def y1s:List gu:=[{ι:=Nat,du:=λj=>[(10,zB j)],rows:=λ_=>[]}]
@[reducible] def xZ (v:Vw):Prop:=v.length<=1099511627776/\∀b∈v,b.1.levels.length<=1099511627776/\b.2.levels.length<=1099511627776
noncomputable def DX:gh:=fp Vw (λv=>[Ag v]) i6 xZ (λv=>yM (fN v)) i6
def yYh:List gu:=[{ι:=Nat,du:=λj=>[(8,zB j)],rows:=λ_=>[]}]
def qH (l:Lv):i4:=le l.dm 8++le l.dr 8++le l.count 8
structure L6 where
 l:i4
 v:Lv
def T7:gh:=fp L6 (λi=>[.nm 0 0,Sb i.v]) (λi=>[Wr i.l]) (λi=>i.l.length+24<=1099511627776) (λ_=>pW) (λi=>[Wr (i.l++qH i.v)])
def sA (s:Sd):i4:=[iZ s.levels.length]++s.levels.flatMap qH++(if s.has then[iZ 1]++qH s.imp else[iZ 0])
def kG (b:Sd×Sd):i4:=sA b.1++sA b.2
def kP (v:Vw) (seq:Int):i4:=le seq 8++[iZ v.length]++v.flatMap kG
noncomputable def xY (v:Vw) (seq:Int):i4:=if wE v then kP v seq++le (dH (kP v seq)) 4 else[]
noncomputable def Py (v:Vw):Int:=if wE v then 0 else 12
structure Hy where
 v:Vw
 seq:Int
noncomputable def TR:gh:=fp Hy (λi=>[Ag i.v,zB i.seq]) i6 (λi=>xZ i.v) (λi=> .je [ox 1 (bE (xY i.v i.seq)),zB (Py i.v)]) i6
def xJx (i:Hy):List gu:=[
 {ι:=Nat,du:=λj=>[(6,.nm 0 0),(28,zB j)],rows:=λj=>[Wr (le i.seq 8++[iZ i.v.length]++(i.v.take j).flatMap kG)]},
 {ι:=Unit,du:=λ_=>[],rows:=λ_=>[],un:=3},
 {ι:=i4×List Lv×Nat,du:=λx=>[(6,.nm 0 0),(44,zB x.2.2)],rows:=λx=>[Wr (x.1++(x.2.1.take x.2.2).flatMap qH)]}]
def yZo (i:I3):Prop:=
 dp (i.side==1) (∃(o:Unit),xJ i.side i.x i.y=decide (i.x>i.y)/\True) (∃(o:Unit),xJ i.side i.x i.y=decide (i.x<i.y)/\True)
def zCd (a:Nat) (b:Nat->Prop) (c:Nat->Nat) (d:MG):Prop:=∃(e:Nat),QM e a b c (dk (ab [V.own 0,V.d (dI d.s.imp.dm),V.d (dI d.s.imp.dr),V.d (dI d.s.imp.count),V.d (D.v (.bool d.s.has))] 137)/\dk (ac 3 (ar iq d.s.levels)))
def dJ (a:MG):=((ar iq a.s.levels).length:Int)
def yIb (i:MG):Prop:=
 ∃(a:Nat),(a:Int)=0/\∃(b:Nat->Prop),∃(c:Nat->Nat),b a/\∀(d:Nat),b d->dp (decide ((d:Int)<(dJ i))) ((0<=(d:Int)/\(d:Int)<(dJ i))/\∃(e:Int),∃(f:Int),∃(g:Int),zC (ar iq i.s.levels) (d:Int).toNat 0 3=az [dI e,dI f,dI g]/\dp (decide (f<1)) (dx (wH i.side i.s=ap/\True)) (dp (decide (g<1)) (dx (wH i.side i.s=ap/\True)) (dp (decide ((d:Int)>0)) ((0<=af.wrap ((d:Int)-1)/\af.wrap ((d:Int)-1)<(dJ i))/\∃(h:Int),zC (ar iq i.s.levels) (af.wrap ((d:Int)-1)).toNat 0 1=az [dI h]/\∃(j:I3),j.side=i.side/\j.x=h/\j.y=e/\True/\ff (dp (!xJ j.side j.x j.y) (dx (wH i.side i.s=ap/\True)) (zCd d b c i))) (zCd d b c i)))) (dp (!i.s.has) (dp (decide ((dJ i)<=255)) (dx (wH i.side i.s=(i.s.imp.dm==0 && (i.s.imp.dr==0 && (i.s.imp.count==0 && aq)))/\True)) (dx (wH i.side i.s=ap/\True))) (dp (decide ((dJ i)<=255)) (dp (decide (i.s.imp.dr>=1)) (dx (wH i.side i.s=decide (i.s.imp.count>=1)/\True)) (dx (wH i.side i.s=ap/\True))) (dx (wH i.side i.s=ap/\True))))
def dS (a:Nat) (b:Vw):Prop:=0<=(a:Int)/\(a:Int)<((ar zA b).length:Int)
@[reducible] def QL (a:Sd)(b:Q_ D)(c d e:Int)(f:Bool)(R:Prop):Prop:=ar iq a.levels=b/\a.imp.dm=c/\a.imp.dr=d/\a.imp.count=e/\a.has=f/\R
def yIs (i:Vw):Prop:=
 ∃(a:Nat),(a:Int)=0/\∃(b:Nat->Prop),∃(c:Nat->Nat),b a/\∀(d:Nat),b d->dp (decide ((d:Int)<((ar zA i).length:Int))) ((dS d i)/\∃(e:Q_ D),∃(f:Int),∃(g:Int),∃(h:Int),∃(j:Bool),∃(k:Q_ D),∃(l:Int),∃(m:Int),∃(n:Int),∃(p:Bool),zC (ar zA i) (d:Int).toNat 0 10=az [D.ro 3 e,dI f,dI g,dI h,D.v (.bool j),D.ro 3 k,dI l,dI m,dI n,D.v (.bool p)]/\∃(q:MG),q.side=1/\QL q.s e f g h j (q.s.levels.length<=1099511627776/\ff (dp (!wH q.side q.s) (dx (fN i=ap/\True)) (∃(s:MG),s.side=2/\QL s.s k l m n p (s.s.levels.length<=1099511627776/\ff (dp (!wH s.side s.s) (dx (fN i=ap/\True)) (∃(u:Nat),QM u d b c (dk (ab [V.own 0] 59)/\dk (ac 10 (ar zA i)))))))))) (dx (fN i=decide (((ar zA i).length:Int)<=255)/\True))
def xHb (i:L6):Prop:=
 ∃(ia:WN),ia.n=i.v.dm/\aa i4 2 ld ia.l=Wr i.l/\ia.ok/\∀(o:Unit),True->∃(mh:WN),mh.n=i.v.dr/\aa i4 2 ld mh.l=aa i4 2 ld (ia.l++le ia.n 8)/\mh.ok/\∀(o:Unit),True->∃(mn:WN),mn.n=i.v.count/\aa i4 2 ld mn.l=aa i4 2 ld (mh.l++le mh.n 8)/\mn.ok/\∀(o:Unit),True->∃(o:Unit),aa i4 2 ld (i.l++qH i.v)=aa i4 2 ld (mn.l++le mn.n 8)/\True
def ZC (a:Hy):Prop:=ab [V.own 0] 59=ab [V.own 0] 59/\dk (ac 10 (ar zA a.v))
def Ze (a:Nat->Prop) (b:Nat) (c:Nat->Nat) (d:Nat) (e:Hy):Prop:=a b/\c b<c d/\ZC e
def rX (a:Hy) (b:Nat):=(le a.seq 8++[iZ ((ay a.v):Int)]++List.flatMap kG (au b a.v))
def u6 (a:i4×List Lv×Nat):=(a.fst++List.flatMap qH (au a.snd.snd a.snd.fst))
def z2d (a:Int) (b:Int) (c:Int) (d:Bool) (e:Q_ D) (f:Q_ D) (g:Int) (h:Int) (j:Int) (k:Bool) (l:Hy):Prop:=ab [V.own 5,V.d (dI a),V.d (dI b),V.d (dI c),V.d (D.v (.bool d))] 137=ab [V.own 5,V.d (dI a),V.d (dI b),V.d (dI c),V.d (D.v (.bool d))] 137/\dk (ac 3 e)/\dk (ac 3 f)/\dk (ab [V.own 5,V.d (dI a),V.d (dI b),V.d (dI c),V.d (D.v (.bool d)),V.own 6,V.d (dI g),V.d (dI h),V.d (dI j),V.d (D.v (.bool k))] 138)/\ZC l
@[reducible] def Ph (a:WN)(b:i4×List Lv×Nat)(R:Prop):Prop:=aa i4 2 ld a.l=aa i4 2 ld (u6 b)/\a.ok/\R
def YP (a:WN) (b:Q_ D) (c:Int) (d:Int) (e:Int) (f:Bool) (g:Int) (h:Int) (j:Int) (k:Bool) (l:Q_ D) (m:Hy) (n:Nat) (p:Nat->Prop) (q:Nat->Nat):Prop:=a.ok/\ff (∃(s:i4×List Lv×Nat),(s.snd.snd:Int)=0/\aa i4 2 ld (u6 s)=aa i4 2 ld (a.l++[iZ a.n])/\∃(t:i4×List Lv×Nat->Prop),∃(u:i4×List Lv×Nat->Nat),t s/\∀(v:i4×List Lv×Nat),t v->dp (decide ((v.snd.snd:Int)<(b.length:Int))) ((0<=(v.snd.snd:Int)/\(v.snd.snd:Int)<(b.length:Int))/\∃(w:Int),∃(x:Int),∃(y:Int),zC b (v.snd.snd:Int).toNat 0 3=az [dI w,dI x,dI y]/\∃(z:L6),z.v.dm=w/\z.v.dr=x/\z.v.count=y/\aa i4 2 ld z.l=aa i4 2 ld (u6 v)/\z.l.length+(24:Nat)<=(1099511627776:Nat)/\ff (∃(my:i4×List Lv×Nat),(my.snd.snd:Int)=af.wrap ((v.snd.snd:Int)+1)/\aa i4 2 ld (u6 my)=aa i4 2 ld (z.l++qH z.v)/\t my/\u my<u v/\dk (ab [V.own 6,V.d (dI c),V.d (dI d),V.d (dI e),V.d (D.v (.bool f))] 137)/\z2d g h j k b l c d e f m)) (dp (!f) (∃(w:WN),w.n=0/\Ph w v (ff (∃(y:Nat),(y:Int)=af.wrap ((n:Int)+1)/\aa i4 2 ld (rX m y)=aa i4 2 ld (w.l++[iZ w.n])/\Ze p y q n m))) (∃(w:WN),w.n=1/\Ph w v (ff (∃(y:L6),y.v.dm=c/\y.v.dr=d/\y.v.count=e/\aa i4 2 ld y.l=aa i4 2 ld (w.l++[iZ w.n])/\y.l.length+(24:Nat)<=(1099511627776:Nat)/\ff (∃(lk:Nat),(lk:Int)=af.wrap ((n:Int)+1)/\aa i4 2 ld (rX m lk)=aa i4 2 ld (y.l++qH y.v)/\Ze p lk q n m))))))
def qN (a:Sd×Sd):Prop:=a.fst.levels.length<=1099511627776/\a.snd.levels.length<=1099511627776
def rV (a:Vw):Prop:=ay a<=1099511627776/\∀(b:Sd×Sd),b∈a->qN b
@[reducible] def DL (a b:WN)(R:Prop):Prop:=aa i4 2 ld a.l=aa i4 2 ld (b.l++le b.n 8)/\a.ok/\R
@[reducible] def Pf (a:WN)(R:Prop):Prop:=aa i4 2 ld a.l=aa i4 2 ld []/\a.ok/\R
def xFc (i:Hy):Prop:=
 ∃(a:Vw),ar zA a=ar zA i.v/\(rV a)/\ff (dp (!fN a) (dx (bE (xY i.v i.seq)=[]/\Py i.v=12/\True)) (dx (True/\ff (∃(e:WN),e.n=i.seq/\Pf e (ff (∃(g:WN),g.n=((ar zA i.v).length:Int)/\DL g e (ff (∃(j:Nat),(j:Int)=0/\aa i4 2 ld (rX i j)=aa i4 2 ld (g.l++[iZ g.n])/\∃(k:Nat->Prop),∃(l:Nat->Nat),k j/\∀(m:Nat),k m->dp (decide ((m:Int)<((ar zA i.v).length:Int))) ((0<=(m:Int)/\(m:Int)<((ar zA i.v).length:Int))/\∃(n:Q_ D),∃(p:Int),∃(q:Int),∃(r:Int),∃(s:Bool),∃(t:Q_ D),∃(u:Int),∃(v:Int),∃(w:Int),∃(x:Bool),zC (ar zA i.v) (m:Int).toNat 0 10=az [D.ro 3 n,dI p,dI q,dI r,D.v (.bool s),D.ro 3 t,dI u,dI v,dI w,D.v (.bool x)]/\∃(y:WN),y.n=(n.length:Int)/\aa i4 2 ld y.l=aa i4 2 ld (rX i m)/\y.ok/\ff (∃(lk:i4×List Lv×Nat),(lk.snd.snd:Int)=0/\aa i4 2 ld (u6 lk)=aa i4 2 ld (y.l++[iZ y.n])/\∃(my:i4×List Lv×Nat->Prop),∃(iH:i4×List Lv×Nat->Nat),my lk/\∀(oR:i4×List Lv×Nat),my oR->dp (decide ((oR.snd.snd:Int)<(n.length:Int))) ((0<=(oR.snd.snd:Int)/\(oR.snd.snd:Int)<(n.length:Int))/\∃(jl:Int),∃(sy:Int),∃(qp:Int),zC n (oR.snd.snd:Int).toNat 0 3=az [dI jl,dI sy,dI qp]/\∃(xo:L6),xo.v.dm=jl/\xo.v.dr=sy/\xo.v.count=qp/\aa i4 2 ld xo.l=aa i4 2 ld (u6 oR)/\xo.l.length+(24:Nat)<=(1099511627776:Nat)/\ff (∃(ym:i4×List Lv×Nat),(ym.snd.snd:Int)=af.wrap ((oR.snd.snd:Int)+1)/\aa i4 2 ld (u6 ym)=aa i4 2 ld (xo.l++qH xo.v)/\my ym/\iH ym<iH oR/\z2d p q r s t n u v w x i)) (dp (!s) (∃(jl:WN),jl.n=0/\Ph jl oR (ff (∃(qp:WN),qp.n=(t.length:Int)/\aa i4 2 ld qp.l=aa i4 2 ld (jl.l++[iZ jl.n])/\YP qp t u v w x p q r s n i m k l))) (∃(jl:WN),jl.n=1/\Ph jl oR (ff (∃(qp:L6),qp.v.dm=p/\qp.v.dr=q/\qp.v.count=r/\aa i4 2 ld qp.l=aa i4 2 ld (jl.l++[iZ jl.n])/\qp.l.length+(24:Nat)<=(1099511627776:Nat)/\ff (∃(ur:WN),ur.n=(t.length:Int)/\aa i4 2 ld ur.l=aa i4 2 ld (qp.l++qH qp.v)/\YP ur t u v w x p q r s n i m k l))))))) (∃(n:i4),aa i4 2 ld n=aa i4 2 ld (rX i m)/\n.length<=1099511627776/\ff (∃(q:i4),bE q=bE n/\q.length<=1099511627776/\ff (∃(s:WN),s.n=dH q/\aa i4 2 ld s.l=aa i4 2 ld n/\(s.l.length+(8:Nat)<=(1099511627776:Nat)/\0<=s.n/\s.n<4294967296)/\ff (∃(u:i4),aa i4 2 ld u=aa i4 2 ld (s.l++le s.n 4)/\u.length<=1099511627776/\ff (dx (bE (xY i.v i.seq)=bE u/\Py i.v=0/\True))))))))))))))
def Om {α:Type} {f:α->List D} {l:List α} {i n:Nat} {x:α} (h:l[i]? =az x) (hn:(f x).length=n):zC (l.map f) i 0 n=az (f x):=by
 unfold zC;rw[ra,h];simp only[wz,nt,hn,Nat.ble_eq_true_of_le (jx n),cond_true,Ei];rw[<- hn,ng (jx _)]
def xEq {α:Type} {f:α->List D} {l:List α} {i g n:Nat} {x:α} {r:List D} (h:l[i]? =az x) (hn:g+n<=(f x).length) (hr:((f x).drop g).take n=r):zC (l.map f) i g n=az r:=by
 unfold zC;rw[ra,h];simp only[wz,Nat.ble_eq_true_of_le hn,cond_true,hr]
def getD {α:Type} {l:List α} {i:Nat} (h:i<l.length):∃x,l[i]? =az x:=⟨_,vl h⟩
def zMq:JE.ok Z_ 211:=gy (V:=yZo) mixed fk 0 i6 i6 [] func211 λ(i:I3) _=>by
 refine W_ (λe=>⟨(),?_,Y_⟩) (λe=>⟨(),?_,Y_⟩)
 ·have e:i.side=1:=i9 e
  simp[xJ,e]
 ·have e:i.side≠1:=i9 e
  simp[xJ,e]
def OO {side:Int} {s:Sd} (h:¬oq side s):wH side s=ap:=ju h
def wo.of {side:Int} {l:List Lv} {i:Nat} {x:Lv} (hx:l[i]? =az x) (h1:1<=x.dr) (h2:1<=x.count) (h3:∀j b,i=j+1->l[j]? =az b->xJ side b.dm x.dm=aq):wo side l i:=by
 intro a ha;rw[hx]at ha;cases ha;exact⟨h1,h2,h3⟩
def y0u (i:MG) (h:DU.dp i):yIb i:=by
 unfold yIb ff dx dJ zCd QM dI;have h:i.s.levels.length<=1099511627776:=h;refine⟨0,rfl,λj=>j<=i.s.levels.length/\∀k,k<j->wo i.side i.s.levels k,λj=>i.s.levels.length-j,⟨oM,by intro k hk;omega⟩,λj hj=>zH (λgr=> ?_) (λgr=> ?_)⟩
 ·obtain⟨hj1,Ia⟩:=hj;rw[ib]at gr ⊢;obtain⟨x,hx⟩:=getD (l:=i.s.levels) (i:=j) oM;have w1:af.wrap ((j:Int)+1)=((j+1:Nat):Int):=by rw[iw X_];rfl
  have next:wo i.side i.s.levels j->(λj=>j<=i.s.levels.length/\∀k,k<j->wo i.side i.s.levels k) (j+1):=λhl=>⟨oM,λk hk=>by
   rcases vh k j with h'|h'
   ·exact Ia k h'
   ·obtain rfl:k=j:=X_
    exact hl⟩
  refine⟨⟨oM,oM⟩,x.dm,x.dr,x.count,Om hx rfl,zH (λhq=> ?_) (λhq=>zH (λhc=> ?_) (λhc=>zH (λhp=> ?_) (λhp=> ?_)))⟩
  ·exact⟨(),OO λhr=>by have:=(hr.1 j x hx).1;omega,Y_⟩
  ·exact⟨(),OO λhr=>by have:=(hr.1 j x hx).2.1;omega,Y_⟩
  ·have w0:af.wrap ((j:Int)-1)=((j-1:Nat):Int):=by rw[iw X_];omega
   obtain⟨y,hy⟩:=getD (l:=i.s.levels) (i:=j-1) oM;refine⟨⟨by rw[w0];omega,by rw[w0];omega⟩,y.dm,by rw[w0];exact xEq (n:=1) hy (by show 0+0+1<=3;omega) rfl,⟨i.side,y.dm,x.dm⟩,rfl,rfl,rfl,Y_,λ_ _=> ?_⟩;refine W_ (λhb=>⟨(),OO λhr=> ?_,Y_⟩) (λhb=>⟨j+1,w1.symm,next (wo.of hx oM oM ?_),Z9,gj⟩)
   ·have:=(hr.1 j x hx).2.2 (j-1) y oM hy;simp only[Dv]at hb;rw[hb]at this;cases this
   ·intro k b hk AL;obtain rfl:k=j-1:=X_
    rw[hy]at AL;cases AL;simpa using hb
  ·exact⟨j+1,w1.symm,next (wo.of hx oM oM λk b hk _=>X_),Z9,gj⟩
 ·obtain⟨hj1,Ia⟩:=hj;rw[ib]at gr ⊢;obtain rfl:j=i.s.levels.length:=X_
  have tp:∀k,wo i.side i.s.levels k:=λk=>by
   rcases vh k i.s.levels.length with h'|h'
   ·exact Ia k h'
   ·intro a ha;rw[uv h']at ha;cases ha
  refine W_ (λhh=>zH (λhl=>⟨(),?_,Y_⟩) (λhl=>⟨(),OO λhr=>by have:=hr.2.1;omega,Y_⟩))
   (λhh=>zH (λhl=>zH (λhq=>⟨(),?_,Y_⟩) (λhq=>⟨(),OO λhr=> ?_,Y_⟩)) (λhl=>⟨(),OO λhr=>by have:=hr.2.1;omega,Y_⟩))
  ·have hh:i.s.has=ap:=i9 hh
   rw[CK];simp only[wH,ua,lu,ID,and_true];constructor
   ·intro hr;have:=hr.2.2.2 hh;rw[this];exact⟨rfl,rfl,rfl⟩
   ·rintro⟨e1,e2,e3⟩;refine⟨tp,oM,(λhc=>by rw[hh]at hc;cases hc),λ_=> ?_⟩;cases hi:i.s.imp;rw[hi]at e1 e2 e3;simp_all
  ·have hh:i.s.has=aq:=i9 hh
   rw[CK];simp only[wH,ua];exact⟨λhr=>(hr.2.2.1 hh).2,λhc=>⟨tp,oM,λ_=>⟨hq,hc⟩,λhc=>by rw[hh]at hc;cases hc⟩⟩
  ·have hh:i.s.has=aq:=i9 hh
   have:=(hr.2.2.1 hh).1;omega
def yJt:DU.ok Z_ 215:=gy mixed (dw zMq fk) 0 i6 (λ_=>y1s) [] func215 y0u
def vwF {v:Vw} (h:¬wE v):fN v=ap:=ju h
def y0g (v:Vw) (h:DX.dp v):yIs v:=by
 unfold yIs QL QM ff dx dS dI;obtain⟨h1,h2⟩:xZ v:=h;refine⟨0,rfl,λj=>j<=v.length/\∀k b,k<j->v[k]? =az b->oq 1 b.1/\oq 2 b.2,λj=>v.length-j,⟨oM,by intro k b hk;omega⟩,λj hj=>zH (λgr=> ?_) (λgr=> ?_)⟩
 ·obtain⟨hj1,Ia⟩:=hj;rw[ib]at gr ⊢;obtain⟨x,hx⟩:=getD (l:=v) (i:=j) oM;have hm:=kx hx;have w1:af.wrap ((j:Int)+1)=((j+1:Nat):Int):=by rw[iw X_];rfl
  refine⟨⟨oM,oM⟩,_,_,_,_,_,_,_,_,_,_,Om hx rfl,⟨1,x.1⟩,rfl,rfl,rfl,rfl,rfl,rfl,(h2 x hm).1,λ_ _=>W_ (λhb=> ?_) (λhb=>⟨⟨2,x.2⟩,tr ⟨rfl,(h2 x hm).2,λ_ _=>W_ (λnp=> ?_) (λnp=> ?_)⟩⟩)⟩
  ·refine⟨(),vwF λhr=> ?_,Y_⟩;simp only[Dv,wH,decide_eq_false_iff_not]at hb;exact hb (hr.1 x hm).1
  ·refine⟨(),vwF λhr=> ?_,Y_⟩;simp only[Dv,wH,decide_eq_false_iff_not]at np;exact np (hr.1 x hm).2
  ·simp only[Bool.not_eq_false',wH,ua]at hb np;refine⟨j+1,w1.symm,⟨oM,λk b hk AL=> ?_⟩,Z9,gj⟩;rcases vh k j with h'|h'
   ·exact Ia k b h' AL
   ·obtain rfl:k=j:=X_
    rw[hx]at AL;cases AL;exact⟨hb,np⟩
 ·obtain⟨hj1,Ia⟩:=hj;rw[ib]at gr ⊢;obtain rfl:j=v.length:=X_
  refine⟨(),?_,Y_⟩;rw[CK];simp only[fN,ua];constructor
  ·intro hr;have:=hr.2;omega
  ·intro hr;refine⟨λb hb=> ?_,oM⟩;obtain⟨k,hk⟩:=Mi hb;exact Ia k b (jk.1 hk).1 hk
def zWt:DX.ok Z_ 150:=gy mixed (dw yJt fk) 0 i6 (λ_=>yYh) [] func150 y0g
def y1e:T7.ok Z_ 151:=gy (V:=xHb) mixed (dw U8 fk) 0 i6 i6 [] func151 λ(i:L6) h=>by
 have h:i.l.length+24<=1099511627776:=h;refine⟨⟨i.l,i.v.dm⟩,rfl,rfl,(show i.l.length+8<=1099511627776 by omega),λ_ _=>⟨⟨i.l++le i.v.dm 8,i.v.dr⟩,rfl,rfl,?_,λ_ _=>⟨⟨i.l++le i.v.dm 8++le i.v.dr 8,i.v.count⟩,rfl,rfl,?_,λ_ _=>⟨(),?_,Y_⟩⟩⟩⟩
 ·show _+8<=_;rw[ix,xA];omega
 ·show _+8<=_;rw[ix,ix,xA,xA];omega
 ·simp only[qH,jd]
def ZN {α:Type} {f:α->i4} {c:Nat}:∀{l:List α},(∀x∈l,(f x).length<=c)->(l.flatMap f).length<=c*l.length
 |[],_=>by simp
 |a::l,h=>by
  have h1:=h a (by simp);have h2:=ZN (l:=l) λx hx=>h x (by simp[hx])
  simp only[vw,ix,iG,Nat.mul_add,Nat.mul_one];omega
def tL {α β:Type} {f:α->List β} {l:List α} {k:Nat} {x:α} (h:l[k]? =az x):(l.take (k+1)).flatMap f=(l.take k).flatMap f++f x:=by
 rw[qf,h];simp
def zYw (l:Lv):(qH l).length=24:=by simp[qH,xA]
def lQ (l:List Lv):(l.flatMap qH).length<=24*l.length:=ZN λx _=>by rw[zYw];omega
def Z0 {s:Sd} (h:s.levels.length<=255):(sA s).length<=6146:=by
 have:=lQ s.levels;unfold sA;rw[ix,ix,Bh];split
 ·rw[ix,zYw,Bh];omega
 ·rw[Bh];omega
def oq.len {n:Int} {s:Sd} (h:oq n s):s.levels.length<=255:=h.2.1
def zOn {v:Vw} (h:wE v) (j:Nat):((v.take j).flatMap kG).length<=3134460:=by
 have h1:∀x∈v.take j,(kG x).length<=12292:=λx hx=>by
  have:=h.1 x (OG hx);have a:=Z0 this.1.len;have b:=Z0 this.2.len;unfold kG;rw[ix];omega
 have h2:=ZN h1;have h3:=h.2;rw[nr]at h2;omega
def yMf (n:Int):0<=aj.wrap n/\aj.wrap n<4294967296:=by
 have:aj.wrap n=n % 4294967296:=rfl;rw[this];omega
def rD (l:i4):0<=dH l/\dH l<4294967296:=yMf _
def xJp (i:Hy) (h:TR.dp i):xFc i:=by
 unfold xFc DL Ph Pf ff dx rV qN YP Ph ff z2d u6 rX Ze ZC dI;refine⟨i.v,rfl,h,λ_ _=>W_ (λe=> ?_) (λe=> ?_)⟩
 ·have hn:¬wE i.v:=by simpa[fN]using e
  exact⟨(),by rw[xY,eg hn];rfl,by rw[Py,eg hn],Y_⟩
 have hr:wE i.v:=by simpa[fN]using e
 have hB:∀j,(le i.seq 8++[iZ i.v.length]++(i.v.take j).flatMap kG).length<=3134470:=λj=>by
  have:=zOn hr j;simp only[ix,xA,iG,uj];omega
 refine⟨(),Y_,λ_ _=>⟨⟨[],i.seq⟩,rfl,rfl,(show 0+8<=1099511627776 by omega),λ_ _=>⟨⟨le i.seq 8,i.v.length⟩,by rw[ib],rfl,(show(le i.seq 8).length+8<=1099511627776 by rw[xA];omega),λ_ _=>⟨0,rfl,by simp,λj=>j<=i.v.length,λj=>i.v.length-j,Z9,λj hj=>zH (λgr=> ?_) (λgr=> ?_)⟩⟩⟩⟩
 ·dsimp only at hj;rw[ib]at gr ⊢;obtain⟨x,hx⟩:=getD (l:=i.v) (i:=j) oM;have hm:=hr.1 x (kx hx);have l1:=hm.1.len;have l2:=hm.2.len;have hl:=hr.2;have w1:af.wrap ((j:Int)+1)=((j+1:Nat):Int):=by rw[iw X_];rfl
  have Yw:=hB j;have SO:le i.seq 8++[iZ i.v.length]++(i.v.take (j+1)).flatMap kG=le i.seq 8++[iZ i.v.length]++(i.v.take j).flatMap kG++kG x:=by
   rw[tL hx];simp only[jd]
  generalize hb:le i.seq 8++[iZ i.v.length]++(i.v.take j).flatMap kG=B at Yw SO;have lv:∀(C:i4) (l:List Lv) (k:Nat),C.length<=5000000->l.length<=255->((C++(l.take k).flatMap qH).length+24<=1099511627776):=λC l k hC hl=>by
   have:=lQ (l.take k);rw[ix];rw[nr]at this;omega
  have lw:∀(k:Nat),k<255->af.wrap ((k:Int)+1)=((k+1:Nat):Int):=λk hk=>by rw[iw X_];rfl
  have le1:=lQ x.1.levels;have le2:=lQ x.2.levels;refine⟨⟨oM,oM⟩,_,_,_,_,_,_,_,_,_,_,Om hx rfl,⟨B,x.1.levels.length⟩,by rw[ib],rfl,by show B.length+8<=_;omega,λ_ _=>⟨(B++[iZ x.1.levels.length],x.1.levels,0),rfl,by simp,λy=>∃k,k<=x.1.levels.length/\y=(B++[iZ x.1.levels.length],x.1.levels,k),λy=>x.1.levels.length-y.2.2,⟨0,oM,gj⟩,?_⟩⟩;rintro _ ⟨k,hk,rfl⟩;dsimp only;refine zH (λMW=> ?_) (λMW=> ?_)
  ·rw[ib]at MW ⊢;obtain⟨y,hy⟩:=getD (l:=x.1.levels) (i:=k) oM;refine⟨⟨oM,oM⟩,_,_,_,Om hy rfl,⟨_,y⟩,rfl,rfl,rfl,rfl,lv _ _ _ (by rw[ix];simp;omega) l1,λ_ _=>⟨(_,_,k+1),(lw k oM).symm,?_,⟨k+1,oM,gj⟩,Z9,gj⟩⟩;dsimp only;rw[tL hy];simp only[jd]
  ·rw[ib]at MW;obtain rfl:k=x.1.levels.length:=X_
   rw[ng (jx _)];have e1:sA x.1=[iZ x.1.levels.length]++x.1.levels.flatMap qH++(if x.1.has then[iZ 1]++qH x.1.imp else[iZ 0]):=rfl;have e2:sA x.2=[iZ x.2.levels.length]++x.2.levels.flatMap qH++(if x.2.has then[iZ 1]++qH x.2.imp else[iZ 0]):=rfl;have bl:∀C:i4,C=B++sA x.1->C.length<=4000000:=λC e=>by
    subst e;have:=Z0 l1;rw[ix];omega
   refine W_ (λhh=> ?_) (λhh=> ?_)
   ·have hh:x.1.has=ap:=i9 hh
    rw[hh,eg (by simp)]at e1;refine⟨⟨B++[iZ x.1.levels.length]++x.1.levels.flatMap qH,0⟩,rfl,rfl,(by dsimp only[WN.ok];simp only[ix,iG,uj];omega),λ_ _=> ?_⟩;have eC:B++[iZ x.1.levels.length]++x.1.levels.flatMap qH++[iZ 0]=B++sA x.1:=by rw[e1];simp only[jd]
    generalize B++[iZ x.1.levels.length]++x.1.levels.flatMap qH++[iZ 0]=C at eC
    (
    have hC:=bl C eC;refine⟨⟨C,x.2.levels.length⟩,by rw[ib],rfl,(show C.length+8<=1099511627776 by omega),λ_ _=>⟨(C++[iZ x.2.levels.length],x.2.levels,0),rfl,by simp,λy=>∃k,k<=x.2.levels.length/\y=(C++[iZ x.2.levels.length],x.2.levels,k),λy=>x.2.levels.length-y.2.2,⟨0,oM,gj⟩,?_⟩⟩;rintro _ ⟨k,hk,rfl⟩;dsimp only;refine zH (λyk=> ?_) (λyk=> ?_)
    ·rw[ib]at yk ⊢;obtain⟨y,hy⟩:=getD (l:=x.2.levels) (i:=k) oM;refine⟨⟨oM,oM⟩,_,_,_,Om hy rfl,⟨_,y⟩,rfl,rfl,rfl,rfl,lv _ _ _ (by rw[ix];simp;omega) l2,λ_ _=>⟨(_,_,k+1),(lw k oM).symm,?_,⟨k+1,oM,gj⟩,Z9,gj⟩⟩;dsimp only;rw[tL hy];simp only[jd]
    ·rw[ib]at yk;obtain rfl:k=x.2.levels.length:=X_
     rw[ng (jx _)];refine W_ (λyf=> ?_) (λyf=> ?_)
     ·have yf:x.2.has=ap:=i9 yf
      rw[yf,eg (by simp)]at e2;refine⟨⟨C++[iZ x.2.levels.length]++x.2.levels.flatMap qH,0⟩,rfl,rfl,(by dsimp only[WN.ok];simp only[ix,iG,uj];omega),λ_ _=>⟨j+1,w1.symm,?_,oM,oM,gj⟩⟩;rw[SO,kG,<- jd,<- eC,e2];simp only[jd]
     ·have yf:x.2.has=aq:=i9 yf
      rw[yf,fh rfl]at e2;refine⟨⟨C++[iZ x.2.levels.length]++x.2.levels.flatMap qH,1⟩,rfl,rfl,(by dsimp only[WN.ok];simp only[ix,iG,uj];omega),λ_ _=>⟨⟨_,x.2.imp⟩,rfl,rfl,rfl,rfl,(by simp only[ix,iG,uj];omega),λ_ _=>⟨j+1,w1.symm,?_,oM,oM,gj⟩⟩⟩;rw[SO,kG,<- jd,<- eC,e2];simp only[jd])
   ·have hh:x.1.has=aq:=i9 hh
    rw[hh,fh rfl]at e1;refine⟨⟨B++[iZ x.1.levels.length]++x.1.levels.flatMap qH,1⟩,rfl,rfl,(by dsimp only[WN.ok];simp only[ix,iG,uj];omega),λ_ _=>⟨⟨_,x.1.imp⟩,rfl,rfl,rfl,rfl,(by simp only[ix,iG,uj];omega),λ_ _=> ?_⟩⟩;have eC:B++[iZ x.1.levels.length]++x.1.levels.flatMap qH++[iZ 1]++qH x.1.imp=B++sA x.1:=by rw[e1];simp only[jd]
    generalize B++[iZ x.1.levels.length]++x.1.levels.flatMap qH++[iZ 1]++qH x.1.imp=C at eC
    (
    have hC:=bl C eC;refine⟨⟨C,x.2.levels.length⟩,by rw[ib],rfl,(show C.length+8<=1099511627776 by omega),λ_ _=>⟨(C++[iZ x.2.levels.length],x.2.levels,0),rfl,by simp,λy=>∃k,k<=x.2.levels.length/\y=(C++[iZ x.2.levels.length],x.2.levels,k),λy=>x.2.levels.length-y.2.2,⟨0,oM,gj⟩,?_⟩⟩;rintro _ ⟨k,hk,rfl⟩;dsimp only;refine zH (λyk=> ?_) (λyk=> ?_)
    ·rw[ib]at yk ⊢;obtain⟨y,hy⟩:=getD (l:=x.2.levels) (i:=k) oM;refine⟨⟨oM,oM⟩,_,_,_,Om hy rfl,⟨_,y⟩,rfl,rfl,rfl,rfl,lv _ _ _ (by rw[ix];simp;omega) l2,λ_ _=>⟨(_,_,k+1),(lw k oM).symm,?_,⟨k+1,oM,gj⟩,Z9,gj⟩⟩;dsimp only;rw[tL hy];simp only[jd]
    ·rw[ib]at yk;obtain rfl:k=x.2.levels.length:=X_
     rw[ng (jx _)];refine W_ (λyf=> ?_) (λyf=> ?_)
     ·have yf:x.2.has=ap:=i9 yf
      rw[yf,eg (by simp)]at e2;refine⟨⟨C++[iZ x.2.levels.length]++x.2.levels.flatMap qH,0⟩,rfl,rfl,(by dsimp only[WN.ok];simp only[ix,iG,uj];omega),λ_ _=>⟨j+1,w1.symm,?_,oM,oM,gj⟩⟩;rw[SO,kG,<- jd,<- eC,e2];simp only[jd]
     ·have yf:x.2.has=aq:=i9 yf
      rw[yf,fh rfl]at e2;refine⟨⟨C++[iZ x.2.levels.length]++x.2.levels.flatMap qH,1⟩,rfl,rfl,(by dsimp only[WN.ok];simp only[ix,iG,uj];omega),λ_ _=>⟨⟨_,x.2.imp⟩,rfl,rfl,rfl,rfl,(by simp only[ix,iG,uj];omega),λ_ _=>⟨j+1,w1.symm,?_,oM,oM,gj⟩⟩⟩;rw[SO,kG,<- jd,<- eC,e2];simp only[jd])
 ·dsimp only at hj;rw[ib]at gr;obtain rfl:j=i.v.length:=X_
  have Yw:=hB i.v.length;rw[ng (jx _)]at Yw ⊢;have hc:=rD (kP i.v i.seq);have hl:(kP i.v i.seq).length<=3134470:=Yw;have Fg:(kP i.v i.seq++le (dH (kP i.v i.seq)) 4).length<=1099511627776:=by rw[ix,xA];omega
  exact⟨kP i.v i.seq,rfl,oM,λ_ _=>⟨kP i.v i.seq,rfl,oM,λ_ _=>⟨⟨kP i.v i.seq,_⟩,rfl,rfl,⟨Z9,hc.1,hc.2⟩,λ_ _=>⟨_,rfl,Fg,λ_ _=>⟨(),by rw[xY,fh hr];rfl,by rw[Py,fh hr],Y_⟩⟩⟩⟩⟩
def y7v:TR.ok Z_ 73:=gy mixed (dw zWt (dw PZ (dw U8 (dw PR (dw y1e (dw PS (dw W0 (dw yBa fk)))))))) 0 i6 (λi=>xJx i) [] func73 xJp
def RB.byte (r:RB):Int×RB:=(yW (r.n 1).iT,⟨(r.n 1).left,(r.n 1).bad⟩)
def RB.fx (r:RB):Int×RB:=(af.wrap (yW (r.n 8).iT),⟨(r.n 8).left,(r.n 8).bad⟩)
def RB.lv (r:RB):Lv×RB:=(⟨r.fx.1,r.fx.2.fx.1,r.fx.2.fx.2.fx.1⟩,r.fx.2.fx.2.fx.2)
def RB.Ah (r:RB):Nat->List Lv×RB
 |0=>([],r)
 |k+1=>((r.Ah k).1++[(r.Ah k).2.lv.1],(r.Ah k).2.lv.2)
def RB.part (r:RB):List Lv×RB:=r.byte.2.Ah r.byte.1.toNat
def RB.side (r:RB):(Sd×Bool)×RB:=
 if r.part.2.byte.1=1 then((⟨r.part.1,r.part.2.byte.2.lv.1,aq⟩,aq),r.part.2.byte.2.lv.2)
 else((⟨r.part.1,⟨0,0,0⟩,ap⟩,decide (r.part.2.byte.1<=1)),r.part.2.byte.2)
def RB.views (r:RB):Nat->(Vw×Bool)×RB
 |0=>(([],aq),r)
 |k+1=>(((r.views k).1.1++[((r.views k).2.side.1.1,(r.views k).2.side.2.side.1.1)],(r.views k).1.2 && (r.views k).2.side.1.2 && (r.views k).2.side.2.side.1.2),(r.views k).2.side.2.side.2)
def RB.head (r:RB):Int×RB:=r.fx.2.byte
def RB.all (r:RB):(Vw×Bool)×RB:=r.head.2.views r.head.1.toNat
def RB.lj (r:RB):Int:=if r.b then 10 else if 0<r.l.length then 15 else 0
@[reducible] def Et (r:RB):fq:=Rd r.l r.b
@[reducible] def RB.ok (i:RB):Prop:=i.l.length<=1099511627776
def Ue:gh:=fp RB (λi=>[.nm 0 0]) (λi=>[Et i]) RB.ok (λi=>Sb i.lv.1) (λi=>[Et i.lv.2])
def KM:gh:=fp RB (λi=>[.nm 0 0]) (λi=>[Et i]) RB.ok (λi=> .je [ON i.side.1.1,yM i.side.1.2]) (λi=>[Et i.side.2])
def xGc (i:RB):List gu:=[{ι:=Nat,du:=λj=>[(0,.nm 0 0),(4,.nm 1 0),(8,zB j)],rows:=λj=>[Et (i.byte.2.Ah j).2,.cells [.own 2,zB 0,zB 0,zB 0,yM ap] 137,.own 135 3 ((i.byte.2.Ah j).1.map iq)]}]
def rF (b:i4):Prop:=4<=b.length/\le (dH (b.take (b.length-4))) 4=b.drop (b.length-4)
def yJ (b:i4):RB:=⟨b.take (b.length-4),ap⟩
def aR (b:i4):Prop:=(yJ b).all.1.2=aq/\(yJ b).all.2.lj=0/\wE (yJ b).all.1.1
noncomputable def bZ (b:i4):Vw:=if rF b/\aR b then(yJ b).all.1.1 else[]
noncomputable def pR (b:i4):Int:=if rF b/\aR b then(yJ b).fx.1 else 0
noncomputable def tY (b:i4):Int:=if rF b then if aR b then 0 else 12 else 14
noncomputable def TT:gh:=fp i4 (λb=>[ox 1 (bE b)]) i6 (λb=>b.length<=1099511627776) (λb=> .je [Ag (bZ b),zB (pR b),zB (tY b)]) i6
def xJf (b:i4):List gu:=[
 {ι:=Nat,du:=λj=>[(7,.nm 0 0),(9,.nm 1 0),(10,yM ((yJ b).head.2.views j).1.2),(44,zB j)],rows:=λj=>[Et ((yJ b).head.2.views j).2,.cells [.own 2] 59,.own 138 10 (((yJ b).head.2.views j).1.1.map zA)]},
 {ι:=Unit,du:=λ_=>[],rows:=λ_=>[],un:=3}]
def xEm (i:RB):Prop:=
 ∃(ia:RB),aa (i4×Bool) 1 iW (ia.l,ia.b)=Et i/\ia.l.length<=1099511627776/\∀(o:Unit),True->∃(mh:RB),aa (i4×Bool) 1 iW (mh.l,mh.b)=aa (i4×Bool) 1 iW ((ia.n 8).left,(ia.n 8).bad)/\mh.l.length<=1099511627776/\∀(o:Unit),True->∃(mn:RB),aa (i4×Bool) 1 iW (mn.l,mn.b)=aa (i4×Bool) 1 iW ((mh.n 8).left,(mh.n 8).bad)/\mn.l.length<=1099511627776/\∀(o:Unit),True->∃(o:Unit),af.wrap (yW (i.n 8).iT)=af.wrap (yW (ia.n 8).iT)/\af.wrap (yW ((RB.mk (i.n 8).left (i.n 8).bad).n 8).iT)=af.wrap (yW (mh.n 8).iT)/\af.wrap (yW ((RB.mk ((RB.mk (i.n 8).left (i.n 8).bad).n 8).left ((RB.mk (i.n 8).left (i.n 8).bad).n 8).bad).n 8).iT)=af.wrap (yW (mn.n 8).iT)/\aa (i4×Bool) 1 iW (((RB.mk ((RB.mk (i.n 8).left (i.n 8).bad).n 8).left ((RB.mk (i.n 8).left (i.n 8).bad).n 8).bad).n 8).left,((RB.mk ((RB.mk (i.n 8).left (i.n 8).bad).n 8).left ((RB.mk (i.n 8).left (i.n 8).bad).n 8).bad).n 8).bad)=aa (i4×Bool) 1 iW ((mn.n 8).left,(mn.n 8).bad)/\True
def sW (a:RB):=((RB.mk (a.n 8).left (a.n 8).bad).n 8)
def mM (a:RB):=((RB.mk (sW a).left (sW a).bad).n 8)
def zMd (a:RB):=(yW (mM a).iT)
def kB (a:RB) (b:Nat):=((RB.mk (a.n 1).left (a.n 1).bad).Ah b)
def x4 (a:RB):=(yW (a.n 8).iT)
def y4l (i:RB):Prop:=
 ∃(a:RB),aa (i4×Bool) 1 iW (a.l,a.b)=Et i/\a.l.length<=1099511627776/\ff (∃(c:Nat),(c:Int)=0/\aa (i4×Bool) 1 iW ((kB i c).snd.l,(kB i c).snd.b)=aa (i4×Bool) 1 iW ((a.n 1).left,(a.n 1).bad)/\dk ((0:Int))/\dk ((0:Int))/\dk ((0:Int))/\ap=ap/\ar iq (kB i c).fst=[]/\∃(d:Nat->Prop),∃(e:Nat->Nat),d c/\∀(f:Nat),d f->dp (decide ((f:Int)<yW (a.n 1).iT)) (∃(g:RB),aa (i4×Bool) 1 iW (g.l,g.b)=aa (i4×Bool) 1 iW ((kB i f).snd.l,(kB i f).snd.b)/\g.ok/\ff (True/\True/\((ar iq (kB i f).fst).length+1)*(24:Nat)<=(140737488355328:Nat)/\∃(j:Nat),(j:Int)=af.wrap ((f:Int)+1)/\aa (i4×Bool) 1 iW ((kB i j).snd.l,(kB i j).snd.b)=aa (i4×Bool) 1 iW ((mM g).left,(mM g).bad)/\dk ((0:Int))/\dk ((0:Int))/\dk ((0:Int))/\ap=ap/\ar iq (kB i j).fst=ar iq (kB i f).fst++[[dI (af.wrap (x4 g)),dI (af.wrap (yW (sW g).iT)),dI (af.wrap (zMd g))]]/\d j/\e j<e f/\dk (ab (Sx.V.agg [V.d qL,V.d (dI 0),V.d (dI 0),V.d (dI 0),V.d (D.v (.bool ap))]).cl 137))) (∃(g:RB),aa (i4×Bool) 1 iW (g.l,g.b)=aa (i4×Bool) 1 iW ((kB i f).snd.l,(kB i f).snd.b)/\g.l.length<=1099511627776/\ff (dp (yW (g.n 1).iT==1) (∃(j:RB),aa (i4×Bool) 1 iW (j.l,j.b)=aa (i4×Bool) 1 iW ((g.n 1).left,(g.n 1).bad)/\j.ok/\ff (dx (ar iq i.side.fst.fst.levels=ar iq (kB i f).fst/\i.side.fst.fst.imp.dm=af.wrap (x4 j)/\i.side.fst.fst.imp.dr=af.wrap (yW (sW j).iT)/\i.side.fst.fst.imp.count=af.wrap (zMd j)/\i.side.fst.fst.has=aq/\i.side.fst.snd=decide (yW (g.n 1).iT<=1)/\aa (i4×Bool) 1 iW (i.side.snd.l,i.side.snd.b)=aa (i4×Bool) 1 iW ((mM j).left,(mM j).bad)/\True))) (dx (ar iq i.side.fst.fst.levels=ar iq (kB i f).fst/\i.side.fst.fst.imp.dm=0/\i.side.fst.fst.imp.dr=0/\i.side.fst.fst.imp.count=0/\i.side.fst.fst.has=ap/\i.side.fst.snd=decide (yW (g.n 1).iT<=1)/\aa (i4×Bool) 1 iW (i.side.snd.l,i.side.snd.b)=aa (i4×Bool) 1 iW ((g.n 1).left,(g.n 1).bad)/\True)))))
def qG (a:i4) (b:Nat):=((RB.mk ((RB.mk ((yJ a).n 8).left ((yJ a).n 8).bad).n 1).left ((RB.mk ((yJ a).n 8).left ((yJ a).n 8).bad).n 1).bad).views b)
def Zr (a:i4) (b:Nat):=((ar zA (qG a b).fst.fst).length+1)
def ot:=(Sx.V.agg [V.d qL])
def z0d (a:Nat) (b:Nat) (c:i4) (d:RB) (e:RB) (f:Nat->Prop) (g:Nat->Nat) (h:i4):Prop:=(a:Int)=af.wrap ((b:Int)+1)/\aa (i4×Bool) 1 iW ((qG c a).snd.l,(qG c a).snd.b)=aa (i4×Bool) 1 iW (d.side.snd.l,d.side.snd.b)/\ar zA (qG c a).fst.fst=ar zA (qG c b).fst.fst++[[D.ro 3 (ar iq e.side.fst.fst.levels),dI e.side.fst.fst.imp.dm,dI e.side.fst.fst.imp.dr,dI e.side.fst.fst.imp.count,D.v (.bool e.side.fst.fst.has),D.ro 3 (ar iq d.side.fst.fst.levels),dI d.side.fst.fst.imp.dm,dI d.side.fst.fst.imp.dr,dI d.side.fst.fst.imp.count,D.v (.bool d.side.fst.fst.has)]]/\f a/\g a<g b/\dk (aa i4 2 ld h)/\dk (ae FO 1 (bE h))/\dk (ab ot.cl 59)
def z0l (a:i4) (b:Nat) (c:RB) (d:RB) (e:Nat->Prop) (f:Nat->Nat) (g:i4):Prop:=(Zr a b)*(112:Nat)<=(140737488355328:Nat)/\∃(h:Nat),(qG a h).fst.snd=ap/\z0d h b a c d e f g
def VI (a:i4):Prop:=0<=af.wrap (((bE a).length:Int)-4)/\af.wrap (((bE a).length:Int)-4)<=((bE a).length:Int)
def VZ (a:i4):Prop:=dx (ar zA (bZ a)=[]/\pR a=0/\tY a=12/\True)
def Rb (a:i4):=(af.wrap (((bE a).length:Int)-4))
def xDz (b:i4):Prop:=
 dp (decide (af.wrap (((bE b).length:Int)-4)<0)) (dx (ar zA (bZ b)=[]/\pR b=0/\tY b=14/\True)) (dx (True/\ff ((VI b)/\∃(d:i4),bE d=au (Rb b).toNat (bE b)/\d.length<=1099511627776/\ff (∃(f:WN),f.n=dH d/\aa i4 2 ld f.l=aa i4 2 ld []/\(f.l.length+(8:Nat)<=(1099511627776:Nat)/\0<=f.n/\f.n<4294967296)/\ff ((VI b)/\∃(h:ByteArray),dk ((1:Nat))/\aw (Rb b).toNat (bE b)=j6 h/\∃(j:i4),aa i4 2 ld j=aa i4 2 ld (f.l++le f.n 4)/\j.length<=1099511627776/\ff ((∃(l:ByteArray),dk ((1:Nat))/\aw (Rb b).toNat (bE b)=j6 l/\l=h)/\∃(l:ByteArray),dk ((1:Nat))/\bE j=j6 l/\dp (!l.toList==h.toList) (dx (ar zA (bZ b)=[]/\pR b=0/\tY b=14/\True)) ((VI b)/\∃(m:i4),bE m=au (Rb b).toNat (bE b)/\m.length<=1099511627776/\ff (∃(p:RB),aa (i4×Bool) 1 iW (p.l,p.b)=aa (i4×Bool) 1 iW (m,ap)/\p.l.length<=1099511627776/\ff (∃(r:RB),aa (i4×Bool) 1 iW (r.l,r.b)=aa (i4×Bool) 1 iW ((p.n 8).left,(p.n 8).bad)/\r.l.length<=1099511627776/\ff (∃(t:Nat),(qG b t).fst.snd=aq/\(t:Int)=0/\aa (i4×Bool) 1 iW ((qG b t).snd.l,(qG b t).snd.b)=aa (i4×Bool) 1 iW ((r.n 1).left,(r.n 1).bad)/\ar zA (qG b t).fst.fst=[]/\∃(u:Nat->Prop),∃(v:Nat->Nat),u t/\∀(w:Nat),u w->dp (decide ((w:Int)<yW (r.n 1).iT)) (∃(x:RB),aa (i4×Bool) 1 iW (x.l,x.b)=aa (i4×Bool) 1 iW ((qG b w).snd.l,(qG b w).snd.b)/\x.ok/\ff (dp (qG b w).fst.snd (∃(z:RB),aa (i4×Bool) 1 iW (z.l,z.b)=aa (i4×Bool) 1 iW (x.side.snd.l,x.side.snd.b)/\z.ok/\ff (dp x.side.fst.snd ((Zr b w)*(112:Nat)<=(140737488355328:Nat)/\∃(my:Nat),(qG b my).fst.snd=z.side.fst.snd/\z0d my w b z x u v j) (z0l b w z x u v j))) (∃(z:RB),aa (i4×Bool) 1 iW (z.l,z.b)=aa (i4×Bool) 1 iW (x.side.snd.l,x.side.snd.b)/\z.ok/\ff (z0l b w z x u v j)))) (dp (!(qG b w).fst.snd) (VZ b) (∃(x:RB),aa (i4×Bool) 1 iW (x.l,x.b)=aa (i4×Bool) 1 iW ((qG b w).snd.l,(qG b w).snd.b)/\x.l.length<=1099511627776/\ff (dp ((if x.b=aq then(10:Int)else if 0<x.l.length then(15:Int)else(0:Int)) !=0) (VZ b) (∃(z:Vw),ar zA z=ar zA (qG b w).fst.fst/\(rV z)/\ff (dp (!fN z) (VZ b) (dx (ar zA (bZ b)=ar zA (qG b w).fst.fst/\pR b=af.wrap (x4 p)/\tY b=0/\True)))))))))))))))))
def pD (i:RN):i.left.length<=i.l.length:=by
 unfold RN.left;split
 ·omega
 ·rw[pj];omega
def zHx (r:RB):0<=r.byte.1/\r.byte.1<=255:=by
 have hr:=hJ (r.n 1).iT;have hl:=eW (r.n 1);have h0:(256:Int) ^ (r.n 1).iT.length<=256 ^ 1:=by
  have:(256:Nat) ^ (r.n 1).iT.length<=256 ^ 1:=be oM hl
  exact_mod_cast this
 exact⟨hr.1,by show yW _<=255;omega⟩
def uR {r:RB} (h:r.ok):r.byte.2.ok:=tz (pD _) h
def kT {r:RB} (h:r.ok):r.fx.2.ok:=tz (pD _) h
def y3k {r:RB} (h:r.ok):r.lv.2.ok:=kT (kT (kT h))
def z8s {r:RB} (h:r.ok):∀k,(r.Ah k).2.ok
 |0=>h
 |k+1=>y3k (z8s h k)
def Vo {r:RB} (h:r.ok):r.part.2.ok:=z8s (uR h) _
def Vb {r:RB} (h:r.ok):r.side.2.ok:=by
 unfold RB.side;split
 ·exact y3k (uR (Vo h))
 ·exact uR (Vo h)
def Zh {r:RB} (h:r.ok):∀k,(r.views k).2.ok
 |0=>h
 |k+1=>Vb (Vb (Zh h k))
def z1t {r:RB}:∀k,(r.Ah k).1.length=k
 |0=>rfl
 |k+1=>by show((r.Ah k).1++[_]).length=_;rw[ix,z1t k];rfl
def z6t {r:RB}:r.side.1.1.levels.length<=255:=by
 have:r.part.1.length<=255:=by
  show(r.byte.2.Ah r.byte.1.toNat).1.length<=255;rw[z1t];have:=zHx r;omega
 unfold RB.side;split<;>exact this
def zNp {r:RB}:∀k,(r.views k).1.1.length=k
 |0=>rfl
 |k+1=>by show((r.views k).1.1++[_]).length=_;rw[ix,zNp k];rfl
def zSw {r:RB}:∀k,∀b∈(r.views k).1.1,b.1.levels.length<=255/\b.2.levels.length<=255
 |0,b,h=>nomatch h
 |k+1,b,h=>by
  have h:b∈(r.views k).1.1++[_]:=h;rw[oH,tq]at h;rcases h with h|rfl
  ·exact zSw k b h
  ·exact⟨z6t,z6t⟩
def yWw:Ue.ok Z_ 214:=gy (V:=xEm) mixed (dw ZJ fk) 0 i6 i6 [] func214 λ(i:RB) h=>
 ⟨i,rfl,h,λ_ _=>⟨i.fx.2,rfl,kT h,λ_ _=>⟨i.fx.2.fx.2,rfl,kT (kT h),λ_ _=>⟨(),nh Y_⟩⟩⟩⟩
def wj {j:Nat} (h:j<=100000):((j+1:Nat):Int)=af.wrap ((j:Int)+1):=by rw[iw X_];rfl
def xHg (i:RB) (h:KM.dp i):y4l i:=by
 unfold y4l ff dx x4 kB zMd mM sW qL y7 dI;have hb:=zHx i;have hp:i.part=i.byte.2.Ah i.byte.1.toNat:=rfl;refine⟨i,rfl,h,λ_ _=>⟨0,nu ⟨rfl,λj=>j<=i.byte.1.toNat,λj=>i.byte.1.toNat-j,ml _,λj hj=>zH (λgr=> ?_) (λgr=> ?_)⟩⟩⟩
 ·dsimp only at hj;have gr:(j:Int)<i.byte.1:=gr;refine⟨(i.byte.2.Ah j).2,rfl,z8s (uR h) j,λ_ _=>⟨Y_,Y_,?_,j+1,wj oM,rfl,rfl,rfl,rfl,rfl,?_,by(first|omega|(dsimp only;omega)),by(first|omega|(dsimp only;omega)),gj⟩⟩
  ·rw[ib];show((i.byte.2.Ah j).1.length+1)*24<=_;rw[z1t];omega
  ·show ar iq (i.byte.2.Ah (j+1)).1=_;show ar iq ((i.byte.2.Ah j).1++[(i.byte.2.Ah j).2.lv.1])=_;rw[jh];rfl
 ·dsimp only at hj;have gr:¬(j:Int)<i.byte.1:=gr;obtain rfl:j=i.byte.1.toNat:=X_
  refine⟨i.part.2,rfl,Vo h,λ_ _=>W_ (λe=> ?_) (λe=> ?_)⟩
  ·have e:i.part.2.byte.1=1:=by
    have e:(i.part.2.byte.1==1)=aq:=e;simpa using e
   have hs:i.side=((⟨i.part.1,i.part.2.byte.2.lv.1,aq⟩,aq),i.part.2.byte.2.lv.2):=fh e;refine⟨i.part.2.byte.2,rfl,uR (Vo h),λ_ _=>⟨(),?_⟩⟩;rw[hs];refine(nh ⟨rfl,?_,rfl,Y_⟩);show aq=decide (i.part.2.byte.1<=1);rw[e];rfl
  ·have e:¬i.part.2.byte.1=1:=by
    have e:(i.part.2.byte.1==1)=ap:=e;simpa using e
   have hs:i.side=((⟨i.part.1,⟨0,0,0⟩,ap⟩,decide (i.part.2.byte.1<=1)),i.part.2.byte.2):=eg e;refine⟨(),?_⟩;rw[hs];exact(oO Y_)
def y0f:KM.ok Z_ 149:=gy mixed (dw VY (dw yWw fk)) 0 i6 (λi=>xGc i) [] func149 xHg
def Wj (l:i4):bE l=j6 ⟨l.toArray⟩:=rfl
def yFa {b:i4} (h:¬rF b):bZ b=[]/\pR b=0/\tY b=14:=by
 refine⟨?_,?_,?_⟩
 ·rw[bZ,eg λx=>h x.1]
 ·rw[pR,eg λx=>h x.1]
 ·rw[tY,eg h]
def yTt {b:i4} (h:rF b) (h2:¬aR b):bZ b=[]/\pR b=0/\tY b=12:=by
 refine⟨?_,?_,?_⟩
 ·rw[bZ,eg λx=>h2 x.2]
 ·rw[pR,eg λx=>h2 x.2]
 ·rw[tY,fh h,eg h2]
def ySb {b:i4} (h:rF b) (h2:aR b):bZ b=(yJ b).all.1.1/\pR b=(yJ b).fx.1/\tY b=0:=by
 refine⟨?_,?_,?_⟩
 ·rw[bZ,fh ⟨h,h2⟩]
 ·rw[pR,fh ⟨h,h2⟩]
 ·rw[tY,fh h,fh h2]
def xIk (b:i4) (h:TT.dp b):xDz b:=by
 have h:b.length<=1099511627776:=h;have e0:((bE b).length:Int)=b.length:=by rw[yV]
 have e1:af.wrap (((bE b).length:Int)-4)=(b.length:Int)-4:=by rw[iw X_,e0]
 unfold xDz ff dx x4 rV qN z0l z0d ot qL y7 Rb VZ dx VI Zr qG dI;rw[e1,e0];refine zH (λgr=> ?_) (λgr=> ?_)
 ·obtain⟨a1,a2,a3⟩:=yFa (b:=b) λx=>by have:=x.1;omega
  exact⟨(),by rw[a1];rfl,a2,a3,Y_⟩
 have en:((b.length:Int)-4).toNat=b.length-4:=X_
 rw[en,<- eV,<- lK];have hc:=rD (b.take (b.length-4));have hx:(b.take (b.length-4)).length<=1099511627776:=by rw[nr];omega
 have hr:(yJ b).ok:=hx;have tp:(yJ b).head.2.ok:=uR (kT hr);have hn:=zHx (yJ b).fx.2;refine⟨(),Y_,λ_ _=>⟨⟨oM,oM⟩,b.take (b.length-4),rfl,hx,λ_ _=>⟨⟨[],dH (b.take (b.length-4))⟩,rfl,rfl,⟨(show 0+8<=1099511627776 by omega),hc.1,hc.2⟩,λ_ _=>⟨⟨oM,oM⟩,_,rfl,Wj _,le (dH (b.take (b.length-4))) 4,rfl,(by rw[xA];omega),λ_ _=>⟨⟨_,rfl,Wj _,rfl⟩,_,rfl,Wj _,W_ (λe=> ?_) (λe=> ?_)⟩⟩⟩⟩⟩
 ·rw[bc,bc]at e;obtain⟨a1,a2,a3⟩:=yFa (b:=b) λx=>by
   simp at e;exact e x.2
  exact⟨(),by rw[a1];rfl,a2,a3,Y_⟩
 rw[bc,bc]at e;have hs:rF b:=⟨oM,i9 e⟩
 refine⟨⟨oM,oM⟩,b.take (b.length-4),rfl,hx,λ_ _=>⟨yJ b,rfl,hr,λ_ _=>⟨(yJ b).fx.2,rfl,kT hr,λ_ _=>⟨0,iP ⟨rfl,λj=>j<=(yJ b).head.1.toNat,λj=>(yJ b).head.1.toNat-j,ml _,λj hj=>zH (λgr=> ?_) (λgr=> ?_)⟩⟩⟩⟩⟩
 ·dsimp only at hj;have gr:(j:Int)<(yJ b).head.1:=gr;have hn:0<=(yJ b).head.1/\(yJ b).head.1<=255:=hn;have o1:((yJ b).head.2.views j).2.ok:=Zh tp j;have hl:((ar zA ((yJ b).head.2.views j).1.1).length+1)*112<=140737488355328:=by rw[ib,zNp];omega
  have nb:((yJ b).head.2.views (j+1)).1.2=(((yJ b).head.2.views j).1.2 && ((yJ b).head.2.views j).2.side.1.2 && ((yJ b).head.2.views j).2.side.2.side.1.2):=rfl;have nl:ar zA ((yJ b).head.2.views (j+1)).1.1=ar zA ((yJ b).head.2.views j).1.1++[zA (((yJ b).head.2.views j).2.side.1.1,((yJ b).head.2.views j).2.side.2.side.1.1)]:=by
   show ar zA (((yJ b).head.2.views j).1.1++[_])=_;rw[jh];rfl
  refine⟨((yJ b).head.2.views j).2,rfl,o1,λ_ _=>W_ (λf1=> ?_) (λf1=> ?_)⟩
  ·have f1:((yJ b).head.2.views j).1.2=aq:=f1;refine⟨((yJ b).head.2.views j).2.side.2,rfl,Vb o1,λ_ _=>W_ (λf2=>⟨hl,j+1,?_,wj oM,rfl,nl,by(first|omega|(dsimp only;omega)),by(first|omega|(dsimp only;omega)),gj⟩) (λf2=>⟨hl,j+1,?_,wj oM,rfl,nl,by(first|omega|(dsimp only;omega)),by(first|omega|(dsimp only;omega)),gj⟩)⟩
   ·refine nb.trans ?_;rw[f1,f2];rfl
   ·refine nb.trans ?_;rw[f1,f2];rfl
  ·have f1:((yJ b).head.2.views j).1.2=ap:=f1;refine⟨((yJ b).head.2.views j).2.side.2,rfl,Vb o1,λ_ _=>⟨hl,j+1,?_,wj oM,rfl,nl,by(first|omega|(dsimp only;omega)),by(first|omega|(dsimp only;omega)),gj⟩⟩;refine nb.trans ?_;rw[f1];rfl
 ·dsimp only at hj;have gr:¬(j:Int)<(yJ b).head.1:=gr;have hn:0<=(yJ b).head.1/\(yJ b).head.1<=255:=hn;obtain rfl:j=(yJ b).head.1.toNat:=X_
  have no:∀h2:¬aR b,(∃(o:Unit),ar zA (bZ b)=[]/\pR b=0/\tY b=12/\True):=λh2=>by
   obtain⟨a1,a2,a3⟩:=yTt hs h2;exact⟨(),by rw[a1];rfl,a2,a3,Y_⟩
  refine W_ (λf=>no λx=> ?_) (λf=> ?_)
  ·have x1:((yJ b).head.2.views (yJ b).head.1.toNat).1.2=aq:=x.1;have f:(!((yJ b).head.2.views (yJ b).head.1.toNat).1.2)=aq:=f;rw[x1]at f;cases f
  have f:((yJ b).head.2.views (yJ b).head.1.toNat).1.2=aq:=by
   have f:(!((yJ b).head.2.views (yJ b).head.1.toNat).1.2)=ap:=f;simpa using f
  refine⟨(yJ b).all.2,rfl,Zh tp _,λ_ _=>W_ (λg=>no λx=> ?_) (λg=> ?_)⟩
  ·have x2:(yJ b).all.2.lj=0:=x.2.1;have g:((yJ b).all.2.lj !=0)=aq:=g;rw[x2]at g;cases g
  have g:(yJ b).all.2.lj=0:=by
   have g:((yJ b).all.2.lj !=0)=ap:=g;simpa using g
  refine⟨(yJ b).all.1.1,rfl,⟨?_,?_⟩,λ_ _=>W_ (λq=>no λx=> ?_) (λq=> ?_)⟩
  ·show((yJ b).head.2.views (yJ b).head.1.toNat).1.1.length<=_;rw[zNp];omega
  ·intro y hy;have:=zSw (r:=(yJ b).head.2) _ y hy;omega
  ·have:=x.2.2;simp only[fN,Dv,decide_eq_false_iff_not]at q;exact q this
  ·have q:wE (yJ b).all.1.1:=by simpa[fN]using q
   obtain⟨a1,a2,a3⟩:=ySb hs ⟨f,g,q⟩;refine⟨(),?_,a2,a3,Y_⟩;rw[a1];rfl
def y8e:TT.ok Z_ 72:=gy mixed (dw PZ (dw W0 (dw yBa (dw PS (dw z0b (dw ZJ (dw VY (dw y0f (dw yIz (dw zWt fk)))))))))) 0 i6 (λb=>xJf b) [] func72 xIk
def RB.text (r:RB):i4×RB:=((r.byte.2.n r.byte.1.toNat).iT,⟨(r.byte.2.n r.byte.1.toNat).left,(r.byte.2.n r.byte.1.toNat).bad⟩)
def FE (s:i4):i4:=iZ (s.take 255).length::s.take 255
def ir.tail (c:ir):i4:=
 if c.kind=1 then iZ c.inst::iZ c.side::iZ c.time::(le c.dm 8++(le c.dr 8++(le c.least 8++FE c.label)))
 else if c.kind=3 then le c.dr 8 else if c.kind=4 then le c.dm 8++le c.dr 8 else[]
def ir.enc (c:ir):i4:=if c.right≠0 then[]else iZ c.kind::(le c.id 8++c.tail)
def qJ (k id:Int) (r:RB):ir×RB:=
 if k=1 then
  let a:=r.byte;let b:=a.2.byte;let t:=b.2.byte;let x:=t.2.fx;let y:=x.2.fx;let z:=y.2.fx;let w:=z.2.text
  (⟨k,id,a.1,b.1,x.1,y.1,z.1,t.1,w.1⟩,w.2)
 else if k=3 then(⟨k,id,0,0,0,r.fx.1,0,0,[]⟩,r.fx.2)
 else if k=4 then(⟨k,id,0,0,r.fx.1,r.fx.2.fx.1,0,0,[]⟩,r.fx.2.fx.2)
 else(⟨k,id,0,0,0,0,0,0,[]⟩,r)
def xU (b:i4):ir×Int:=
 let k:=(RB.mk b ap).byte
 if k.1<1\/4<k.1 then(Iu,31)else
 let x:=qJ k.1 k.2.fx.1 k.2.fx.2
 if x.2.lj≠0 then(Iu,12)else if x.1.right≠0 then(Iu,x.1.right)else(x.1,0)
def ir.asks (c:ir):ir:=if c.kind=1 then c else if c.kind=2 then⟨2,c.id,0,0,0,0,0,0,[]⟩else if c.kind=3 then⟨3,c.id,0,0,0,c.dr,0,0,[]⟩else if c.kind=4 then⟨4,c.id,0,0,c.dm,c.dr,0,0,[]⟩else Iu
def RF (n:Int):((iZ n).toNat:Int)=n % 256:=(U' n).symm
def jJ (x:UInt8) (l:i4):RB.byte ⟨x::l,ap⟩=((x.toNat:Int),⟨l,ap⟩):=by
 simp[RB.byte,RB.n,RN.iT,RN.left,RN.bad,yW]
def yEe (a l:i4):(RN.mk (a++l) ap a.length).iT=a/\(RN.mk (a++l) ap a.length).left=l/\(RN.mk (a++l) ap a.length).bad=ap:=by
 have h:(RN.mk (a++l) ap a.length).bad=ap:=by simp[RN.bad]
 simp[RN.iT,RN.left,h]
def yNd (n:Int):yW (le n 8)=n % 18446744073709551616:=by
 simp only[le,yW,RF];omega
def uU {n:Int} (h:gx n) (l:i4):RB.fx ⟨le n 8++l,ap⟩=(n,⟨l,ap⟩):=by
 have e:(RB.mk (le n 8++l) ap).n 8=RN.mk (le n 8++l) ap (le n 8).length:=by rw[xA];rfl
 obtain⟨h1,h2,h3⟩:=yEe (le n 8) l;rw[RB.fx,e,h1,h2,h3,yNd];obtain⟨ha,hb⟩:=h;have:af.wrap (n % 18446744073709551616)=n:=by
  have e:=Cv.wrap_i64 ha hb;by_cases hn:0<=n
  ·rw[show n % 18446744073709551616=n by omega];exact e
  ·have:n % 18446744073709551616=n+18446744073709551616:=X_
   rw[this];rw[ak]at e ⊢;simp only[ak,IntKind.bits,am]at e ⊢;simp at e ⊢;omega
 rw[this]
def yNj {s:i4} (h:s.length<=255) (l:i4):RB.text ⟨FE s++l,ap⟩=(s,⟨l,ap⟩):=by
 have ht:s.take 255=s:=ng h;have e:((iZ (s.length:Int)).toNat:Int)=s.length:=by rw[RF];omega
 rw[FE,ht,uu,RB.text,jJ];dsimp only;rw[e];have e:(RB.mk (s++l) ap).n ((s.length:Int)).toNat=RN.mk (s++l) ap s.length:=rfl;obtain⟨h1,h2,h3⟩:=yEe s l;rw[e,h1,h2,h3]
def EV {n:Int} (h:0<=n/\n<=255):((iZ n).toNat:Int)=n:=by rw[RF];omega
def yHj (s:i4):∀(k p:Nat),s.length-p<=k->s.length-p<=4*(fA s p).length
 |0,p,h=>by rw[uY (by omega)];simp;omega
 |k+1,p,h=>by
  by_cases hp:p<s.length
  ·have hw:=aT s hp;have h4:(Utf8.decode (sb s) p).2<=4:=by
    unfold Utf8.decode;simp only[U0,lu,ua]
    repeat' split
    all_goals simp
   rw[wM hp,iG];have:=yHj s k (p+(Utf8.decode (sb s) p).2) oM;omega
  ·rw[uY X_];simp;omega
def yLl {s:i4} (h:s=[]\/cG s=aq):s.length<=48:=by
 obtain rfl|h:=h
 ·simp
 ·simp only[cG,lu,ua]at h;have:=yHj s s.length 0 oM;rw[jW,ib]at h;omega
def lD {c:ir} (h:c.right=0):(1<=c.kind/\c.kind<=4)/\(1<=c.id/\c.id<=1099511627776)/\
 (c.kind≠2->1<=c.dr/\c.dr<=1000000)/\(c.kind=1\/c.kind=4->-2000000<=c.dm/\c.dm<=2000000)/\
 (c.kind=1->(c.side=1\/c.side=2)/\(1<=c.time/\c.time<=3)/\(0<=c.least/\c.least<=c.dr)/\(0<=c.inst/\c.inst<=255)/\c.label.length<=48):=by
 rw[ir.right]at h;split at h;·cases h
 split at h;·cases h
 rename_i h1 h2;refine⟨oM,oM,?_⟩;split at h
 ·rename_i hk;rw[ir.gm]at h
  iterate 7 (split at h;·cases h)
  rename_i a1 a2 a3 a4 a5 a6 a7;simp only[jF,Bool.not_eq_false,lu,ua]at a3;simp only[uP,Bool.not_eq_false,lu,ua]at a6;refine⟨λ_=>a3,λ_=>a6,λ_=>⟨oM,oM,oM,oM,yLl ?_⟩⟩;by_cases hl:c.label=[]
  ·exact .inl hl
  ·exact .inr (by simpa[hl]using a5)
 ·rename_i hk;split at h;·cases h
  split at h;·cases h
  rename_i a1 a2;refine⟨λh2=> ?_,λh2=> ?_,λh2=>absurd h2 hk⟩
  ·simpa[h2,jF]using a1
  ·simpa[show c.kind=4 by omega,uP]using a2
def yVt {n:Int} (h:gx n):RB.fx ⟨le n 8,ap⟩=(n,⟨[],ap⟩):=by
 have:=uU h [];rwa [oQ]at this
def ySx {s:i4} (h:s.length<=255):RB.text ⟨FE s,ap⟩=(s,⟨[],ap⟩):=by
 have:=yNj h [];rwa [oQ]at this
def yYw {c:ir} (h:c.right=0):qJ c.kind c.id ⟨c.tail,ap⟩=(c.asks,⟨[],ap⟩):=by
 obtain⟨hk,hi,hq,hp,ho⟩:=lD h;rw[qJ,ir.tail,ir.asks];by_cases h1:c.kind=1
 ·obtain⟨hs,ht,hl,hn,hb⟩:=ho h1;have hq:=hq oM;have hp:=hp (.inl h1);simp only[fh h1];rw[jJ];dsimp only;rw[jJ];dsimp only;rw[jJ];dsimp only;rw[uU ⟨X_,X_⟩];dsimp only;rw[uU ⟨X_,X_⟩];dsimp only;rw[uU ⟨X_,X_⟩];dsimp only;rw[ySx X_,EV X_,EV X_,EV X_]
 ·by_cases h3:c.kind=3
  ·have hq:=hq oM;simp only[h3,fh,eg,show ¬((3:Int)=1)by decide,show ¬((3:Int)=2)by decide,if_false,if_true];rw[yVt ⟨X_,X_⟩]
  ·by_cases h4:c.kind=4
   ·have hq:=hq oM;have hp:=hp (.inr h4);simp only[h4,show ¬((4:Int)=1)by decide,show ¬((4:Int)=2)by decide,show ¬((4:Int)=3)by decide,if_false,if_true];rw[uU ⟨X_,X_⟩];dsimp only;rw[yVt ⟨X_,X_⟩]
   ·have h2:c.kind=2:=X_
    simp only[h2,show ¬((2:Int)=1)by decide,show ¬((2:Int)=4)by decide,show ¬((2:Int)=3)by decide,if_false,if_true]
def yBz {c:ir} (h:c.right=0):c.asks.right=0:=by
 obtain⟨hk,hi,hq,hp,ho⟩:=lD h;rw[ir.asks];split
 ·exact h
 split
 ·rw[ir.right];simp only[];repeat (first|rw[eg X_]|rw[eg (by decide)]|rw[eg (by simp)])
 split
 ·have:=hq oM;rw[ir.right];simp only[];rw[eg (by decide),eg X_,eg (by decide),eg (by simp[jF];omega),eg (by simp)]
 split
 ·have:=hq oM;have:=hp (.inr oM);rw[ir.right];simp only[];rw[eg (by decide),eg X_,eg (by decide),eg (by simp[jF];omega),eg (by simp[uP];omega)]
 ·omega
def y0k {c:ir} (h:c.right=0):xU c.enc=(c.asks,0):=by
 obtain⟨hk,hi,_⟩:=lD h;have e:c.enc=iZ c.kind::(le c.id 8++c.tail):=by rw[ir.enc,eg (by simp[h])]
 rw[xU,e,jJ];dsimp only;rw[EV X_,eg X_,uU ⟨X_,X_⟩];dsimp only;rw[yYw h];dsimp only;rw[eg (by simp[RB.lj]),eg (by rw[yBz h];simp)]
def Nd:gh:=fp RB (λi=>[.nm 0 0]) (λi=>[Et i]) RB.ok (λi=>sV i.text.1) (λi=>[Et i.text.2])
structure SX where
 l:i4
 s:i4
def Lk:gh:=fp i4 (λb=>[ox 1 (bE b)]) i6 (λb=>b.length<=1099511627776) (λb=> .je [Dp (xU b).1,zB (xU b).2]) i6
def xHn:List (Nat×gu):=[(12,bj 19),(26,{ι:=ir×RB,du:=λ_=>[(4,.nm 0 0),(5,.nm 1 0)],rows:=λx=>[Et x.2,.cells x.1.cells 47],o8:=λ_=>[(4,.nm 0 0),(5,.nm 1 0)],mf:=λx=>[Et x.2,.cells x.1.cells 47]})]
def xAb (i:RB):Prop:=
 ∃(ia:RB),aa (i4×Bool) 1 iW (ia.l,ia.b)=Et i/\ia.l.length<=1099511627776/\∀(o:Unit),True->∃(mh:RN),(mh.n:Int)=yW (ia.n 1).iT/\aa (i4×Bool) 1 iW (mh.l,mh.b)=aa (i4×Bool) 1 iW ((ia.n 1).left,(ia.n 1).bad)/\(mh.n<=255/\mh.l.length<=1099511627776)/\∀(o:Unit),True->∃(b:ByteArray),dk ((1:Nat))/\bE mh.iT=j6 b/\∃(o:Unit),sb ((RB.mk (i.n 1).left (i.n 1).bad).n (yW (i.n 1).iT).toNat).iT=b/\aa (i4×Bool) 1 iW (((RB.mk (i.n 1).left (i.n 1).bad).n (yW (i.n 1).iT).toNat).left,((RB.mk (i.n 1).left (i.n 1).bad).n (yW (i.n 1).iT).toNat).bad)=aa (i4×Bool) 1 iW (mh.left,mh.bad)/\True
def zMe:Prop:=ab (Sx.V.agg [V.d (dI 0),V.d (dI 0),V.d (dI 0),V.d (dI 0),V.d (dI 0),V.d (dI 0),V.d (dI 0),V.d (dI 0),V.d jN]).cl 47=ab (Sx.V.agg [V.d (dI 0),V.d (dI 0),V.d (dI 0),V.d (dI 0),V.d (dI 0),V.d (dI 0),V.d (dI 0),V.d (dI 0),V.d jN]).cl 47
def Zl (a:Bool->Prop) (b:Bool) (c:RB):Prop:=a b/\dk (ab [V.d (dI (yW (c.n 1).iT)),V.d (dI 0),V.d (dI 0),V.d (dI 0),V.d (dI 0),V.d (dI 0),V.d (dI 0),V.d (dI 0),V.d jN] 47)/\dk (aa (i4×Bool) 1 iW ((c.n 1).left,(c.n 1).bad))/\zMe
def zMs (a:ir×RB->Prop) (b:ir×RB):Prop:=a b/\zMe
def Z7 (a:ir×RB) (b:ir×RB) (c:ir×RB->Prop):Prop:=a.fst.least=b.fst.least/\a.fst.time=b.fst.time/\sb a.fst.label=sb b.fst.label/\zMs c a
def zMy (a:ir×RB) (b:RB) (c:ir×RB) (d:ir×RB->Prop):Prop:=a.fst.dr=af.wrap (x4 b)/\Z7 a c d
def Wi (a:RB):=((RB.mk (a.n 1).left (a.n 1).bad).n (yW (a.n 1).iT).toNat)
def y3d (b:i4):Prop:=
 ∃(a:i4),bE a=bE b/\a.length<=1099511627776/\ff (∃(d:RB),aa (i4×Bool) 1 iW (d.l,d.b)=aa (i4×Bool) 1 iW (a,ap)/\d.l.length<=1099511627776/\ff (∃(f:Bool),∃(g:Bool->Prop),dp (decide (yW (d.n 1).iT<1)) (∃(h:Bool),h=aq/\Zl g h d) (∃(h:Bool),h=decide (yW (d.n 1).iT>4)/\Zl g h d)/\∀(h:Bool),g h->dp h (dx ((xU b).fst.kind=0/\(xU b).fst.id=0/\(xU b).fst.inst=0/\(xU b).fst.side=0/\(xU b).fst.dm=0/\(xU b).fst.dr=0/\(xU b).fst.least=0/\(xU b).fst.time=0/\sb (xU b).fst.label=bg #[]/\(xU b).snd=31/\True)) (∃(j:RB),aa (i4×Bool) 1 iW (j.l,j.b)=aa (i4×Bool) 1 iW ((d.n 1).left,(d.n 1).bad)/\j.l.length<=1099511627776/\ff (∃(l:ir×RB),aa (i4×Bool) 1 iW (l.snd.l,l.snd.b)=aa (i4×Bool) 1 iW ((j.n 8).left,(j.n 8).bad)/\l.fst.kind=yW (d.n 1).iT/\l.fst.id=af.wrap (x4 j)/\l.fst.inst=0/\l.fst.side=0/\l.fst.dm=0/\l.fst.dr=0/\l.fst.least=0/\l.fst.time=0/\sb l.fst.label=bg #[]/\∃(m:ir×RB->Prop),dp (l.fst.kind==1) (∃(n:RB),aa (i4×Bool) 1 iW (n.l,n.b)=aa (i4×Bool) 1 iW (l.snd.l,l.snd.b)/\n.l.length<=1099511627776/\ff (∃(q:RB),aa (i4×Bool) 1 iW (q.l,q.b)=aa (i4×Bool) 1 iW ((n.n 1).left,(n.n 1).bad)/\q.l.length<=1099511627776/\ff (∃(s:RB),aa (i4×Bool) 1 iW (s.l,s.b)=aa (i4×Bool) 1 iW ((q.n 1).left,(q.n 1).bad)/\s.l.length<=1099511627776/\ff (∃(u:RB),aa (i4×Bool) 1 iW (u.l,u.b)=aa (i4×Bool) 1 iW ((s.n 1).left,(s.n 1).bad)/\u.l.length<=1099511627776/\ff (∃(w:RB),aa (i4×Bool) 1 iW (w.l,w.b)=aa (i4×Bool) 1 iW ((u.n 8).left,(u.n 8).bad)/\w.l.length<=1099511627776/\ff (∃(y:RB),aa (i4×Bool) 1 iW (y.l,y.b)=aa (i4×Bool) 1 iW ((w.n 8).left,(w.n 8).bad)/\y.l.length<=1099511627776/\ff (∃(lk:RB),aa (i4×Bool) 1 iW (lk.l,lk.b)=aa (i4×Bool) 1 iW ((y.n 8).left,(y.n 8).bad)/\lk.ok/\ff (∃(iH:ir×RB),aa (i4×Bool) 1 iW (iH.snd.l,iH.snd.b)=aa (i4×Bool) 1 iW ((Wi lk).left,(Wi lk).bad)/\iH.fst.kind=l.fst.kind/\iH.fst.id=l.fst.id/\iH.fst.inst=yW (n.n 1).iT/\iH.fst.side=yW (q.n 1).iT/\iH.fst.dm=af.wrap (x4 u)/\iH.fst.dr=af.wrap (x4 w)/\iH.fst.least=af.wrap (x4 y)/\iH.fst.time=yW (s.n 1).iT/\sb iH.fst.label=sb (Wi lk).iT/\zMs m iH)))))))) (dp (l.fst.kind==3) (∃(n:RB),aa (i4×Bool) 1 iW (n.l,n.b)=aa (i4×Bool) 1 iW (l.snd.l,l.snd.b)/\n.l.length<=1099511627776/\ff (∃(q:ir×RB),aa (i4×Bool) 1 iW (q.snd.l,q.snd.b)=aa (i4×Bool) 1 iW ((n.n 8).left,(n.n 8).bad)/\q.fst.kind=l.fst.kind/\q.fst.id=l.fst.id/\q.fst.inst=l.fst.inst/\q.fst.side=l.fst.side/\q.fst.dm=l.fst.dm/\zMy q n l m)) (dp (l.fst.kind==4) (∃(n:RB),aa (i4×Bool) 1 iW (n.l,n.b)=aa (i4×Bool) 1 iW (l.snd.l,l.snd.b)/\n.l.length<=1099511627776/\ff (∃(q:RB),aa (i4×Bool) 1 iW (q.l,q.b)=aa (i4×Bool) 1 iW ((n.n 8).left,(n.n 8).bad)/\q.l.length<=1099511627776/\ff (∃(s:ir×RB),aa (i4×Bool) 1 iW (s.snd.l,s.snd.b)=aa (i4×Bool) 1 iW ((q.n 8).left,(q.n 8).bad)/\s.fst.kind=l.fst.kind/\s.fst.id=l.fst.id/\s.fst.inst=l.fst.inst/\s.fst.side=l.fst.side/\s.fst.dm=af.wrap (x4 n)/\zMy s q l m))) (∃(n:ir×RB),aa (i4×Bool) 1 iW (n.snd.l,n.snd.b)=aa (i4×Bool) 1 iW (l.snd.l,l.snd.b)/\n.fst.kind=l.fst.kind/\n.fst.id=l.fst.id/\n.fst.inst=l.fst.inst/\n.fst.side=l.fst.side/\n.fst.dm=l.fst.dm/\n.fst.dr=l.fst.dr/\Z7 n l m)))/\∀(n:ir×RB),m n->∃(p:RB),aa (i4×Bool) 1 iW (p.l,p.b)=aa (i4×Bool) 1 iW (n.snd.l,n.snd.b)/\p.l.length<=1099511627776/\ff (dp ((if p.b=aq then(10:Int)else if 0<p.l.length then(15:Int)else(0:Int)) !=0) (dx ((xU b).fst.kind=0/\(xU b).fst.id=0/\(xU b).fst.inst=0/\(xU b).fst.side=0/\(xU b).fst.dm=0/\(xU b).fst.dr=0/\(xU b).fst.least=0/\(xU b).fst.time=0/\sb (xU b).fst.label=bg #[]/\(xU b).snd=12/\True)) (∃(r:ir),r.kind=n.fst.kind/\r.id=n.fst.id/\r.inst=n.fst.inst/\r.side=n.fst.side/\r.dm=n.fst.dm/\r.dr=n.fst.dr/\r.least=n.fst.least/\r.time=n.fst.time/\sb r.label=sb n.fst.label/\r.label.length<=140737488355328/\ff (dp (r.right !=0) (dx ((xU b).fst.kind=0/\(xU b).fst.id=0/\(xU b).fst.inst=0/\(xU b).fst.side=0/\(xU b).fst.dm=0/\(xU b).fst.dr=0/\(xU b).fst.least=0/\(xU b).fst.time=0/\sb (xU b).fst.label=bg #[]/\(xU b).snd=r.right/\True)) (dx ((xU b).fst.kind=n.fst.kind/\(xU b).fst.id=n.fst.id/\(xU b).fst.inst=n.fst.inst/\(xU b).fst.side=n.fst.side/\(xU b).fst.dm=n.fst.dm/\(xU b).fst.dr=n.fst.dr/\(xU b).fst.least=n.fst.least/\(xU b).fst.time=n.fst.time/\sb (xU b).fst.label=sb n.fst.label/\(xU b).snd=0/\True)))))))))
def z5h (r:RB):0<=r.byte.1/\r.byte.1<=255:=by
 have h:=hJ (r.n 1).iT;have hl:(r.n 1).iT.length<=1:=eW (r.n 1);show 0<=yW (r.n 1).iT/\yW (r.n 1).iT<=255;obtain e|e:(r.n 1).iT.length=0\/(r.n 1).iT.length=1:=X_
 ·rw[e]at h;omega
 ·rw[e]at h;omega
def yZr {r:RB} (h:r.ok):r.text.2.ok:=tz (pD _) (tz (pD _) h)
def ySa:Nd.ok Z_ 248:=gy (V:=xAb) mixed (dw VY (dw yEx fk)) 0 i6 i6 [] func248 λ(i:RB) h=>by
 have h:i.l.length<=1099511627776:=h;have hb:=z5h i;exact⟨i,rfl,h,λ_ _=>⟨⟨(i.n 1).left,(i.n 1).bad,i.byte.1.toNat⟩,by dsimp only;exact Int.toNat_of_nonneg hb.1,rfl,⟨Z9,tz (pD _) h⟩,λ_ _=>⟨_,rfl,Wj _,(),rfl,rfl,Y_⟩⟩⟩
def y4d {k id:Int} {r:RB} (h:r.ok):(qJ k id r).2.ok/\(qJ k id r).1.label.length<=255:=by
 rw[qJ];split
 ·have h6:=kT (kT (kT (uR (uR (uR h)))));refine⟨yZr h6,?_⟩;show(RB.text (r.byte.2.byte.2.byte.2.fx.2.fx.2.fx.2)).1.length<=255;generalize r.byte.2.byte.2.byte.2.fx.2.fx.2.fx.2=q;have:=z5h q;have:(q.text.1).length<=q.byte.1.toNat:=eW _;omega
 split
 ·exact⟨kT h,ml _⟩
 split
 ·exact⟨kT (kT h),ml _⟩
 ·exact⟨h,ml _⟩
def xCl (b:i4) (h:Lk.dp b):y3d b:=by
 have h:b.length<=1099511627776:=h;obtain⟨r0,hr⟩:∃r0,r0=RB.mk b ap:=⟨_,rfl⟩
 have HY:r0.ok:=by rw[hr];exact h
 have o5:=uR HY;have IY:=kT o5;have vd:xU b=if r0.byte.1<1\/4<r0.byte.1 then(Iu,31)else if(qJ r0.byte.1 r0.byte.2.fx.1 r0.byte.2.fx.2).2.lj≠0 then(Iu,12)else if(qJ r0.byte.1 r0.byte.2.fx.1 r0.byte.2.fx.2).1.right≠0 then(Iu,(qJ r0.byte.1 r0.byte.2.fx.1 r0.byte.2.fx.2).1.right)else((qJ r0.byte.1 r0.byte.2.fx.1 r0.byte.2.fx.2).1,0):=by
  rw[hr];rfl
 unfold y3d ff dx Zl Wi zMy x4 Z7 zMs zMe jN dI;generalize xU b=X at vd ⊢;refine⟨b,rfl,h,λ_ _=>⟨r0,by rw[hr],HY,λ_ _=>⟨aq,λx=>x=decide (r0.byte.1<1\/4<r0.byte.1),zH (λe=>⟨aq,rfl,(jt (.inl e)).symm,gj⟩) (λe=>⟨_,rfl,decide_eq_decide.2 ⟨.inr,λx=>x.resolve_left e⟩,gj⟩),?_⟩⟩⟩;rintro _ rfl;refine zH (λe=> ?_) (λe=> ?_)
 ·rw[vd,fh e];exact⟨(),oO (iP Y_)⟩
 rw[eg e]at vd;generalize hk:r0.byte.1=k at vd;refine⟨r0.byte.2,rfl,o5,λ_ _=>⟨(⟨r0.byte.1,r0.byte.2.fx.1,0,0,0,0,0,0,[]⟩,r0.byte.2.fx.2),nu (iP ⟨rfl,λx=>x=qJ r0.byte.1 r0.byte.2.fx.1 r0.byte.2.fx.2,?_,?_⟩)⟩⟩
 ·generalize r0.byte.2.fx.2=r2 at*;generalize r0.byte.2.fx.1=id at*;rw[hk];refine W_ (λe=> ?_) (λe1=>W_ (λe=> ?_) (λe3=>W_ (λe=> ?_) (λe4=> ?_)))
  ·have e:k=1:=i9 e
   have h1:=uR IY;have h2:=uR h1;have h3:=uR h2;have h4:=kT h3;have h5:=kT h4;have h6:=kT h5;exact⟨r2,rfl,IY,λ_ _=>⟨_,rfl,h1,λ_ _=>⟨_,rfl,h2,λ_ _=>⟨_,rfl,h3,λ_ _=>⟨_,rfl,h4,λ_ _=>⟨_,rfl,h5,λ_ _=>⟨_,rfl,h6,λ_ _=>⟨qJ k id r2,by rw[qJ,fh e];rfl,by rw[qJ,fh e],by rw[qJ,fh e],by rw[qJ,fh e];rfl,by rw[qJ,fh e];rfl,by rw[qJ,fh e];rfl,by rw[qJ,fh e];rfl,by rw[qJ,fh e];rfl,by rw[qJ,fh e];rfl,by rw[qJ,fh e];rfl,rfl,gj⟩⟩⟩⟩⟩⟩⟩⟩
  ·have e1:¬k=1:=i9 e1
   have e:k=3:=i9 e
   have hd:qJ k id r2=(⟨k,id,0,0,0,r2.fx.1,0,0,[]⟩,r2.fx.2):=by rw[qJ,eg e1,fh e]
   exact⟨r2,rfl,IY,λ_ _=>⟨(⟨k,id,0,0,0,r2.fx.1,0,0,[]⟩,r2.fx.2),nu (iP ⟨rfl,hd.symm,gj⟩)⟩⟩
  ·have e1:¬k=1:=i9 e1
   have e3:¬k=3:=i9 e3
   have e:k=4:=i9 e
   have hd:qJ k id r2=(⟨k,id,0,0,r2.fx.1,r2.fx.2.fx.1,0,0,[]⟩,r2.fx.2.fx.2):=by rw[qJ,eg e1,eg e3,fh e]
   exact⟨r2,rfl,IY,λ_ _=>⟨_,rfl,kT IY,λ_ _=>⟨(⟨k,id,0,0,r2.fx.1,r2.fx.2.fx.1,0,0,[]⟩,r2.fx.2.fx.2),nu (iP ⟨rfl,hd.symm,gj⟩)⟩⟩⟩
  ·have e1:¬k=1:=i9 e1
   have e3:¬k=3:=i9 e3
   have e4:¬k=4:=i9 e4
   have hd:qJ k id r2=(⟨k,id,0,0,0,0,0,0,[]⟩,r2):=by rw[qJ,eg e1,eg e3,eg e4]
   exact⟨(⟨k,id,0,0,0,0,0,0,[]⟩,r2),nu (iP ⟨rfl,hd.symm,gj⟩)⟩
 ·rintro x hx;obtain⟨o1,o2⟩:=y4d (k:=r0.byte.1) (id:=r0.byte.2.fx.1) IY;rw[<- hx]at o1 o2;rw[<- hk,<- hx]at vd;obtain⟨c,q⟩:=x;refine⟨q,rfl,o1,λ_ _=>W_ (λe=> ?_) (λe=>⟨c,iB ⟨rfl,tz o2 Z8,λ_ _=>W_ (λe2=> ?_) (λe2=> ?_)⟩⟩)⟩
  ·have e:q.lj≠0:=by simpa[RB.lj]using e
   rw[vd,fh e];exact⟨(),oO (iP Y_)⟩
  ·have e:¬q.lj≠0:=by simpa[RB.lj]using e
   have e2:c.right≠0:=i9 e2
   rw[vd,eg e,fh e2];exact⟨(),oO (iP Y_)⟩
  ·have e:¬q.lj≠0:=by simpa[RB.lj]using e
   have e2:¬c.right≠0:=i9 e2
   rw[vd,eg e,eg e2];exact⟨(),oO (iP Y_)⟩
def yYu:Lk.ok Z_ 203:=gy mixed (dw z0b (dw VY (dw ZJ (dw ySa (dw yIz (dw Y8 fk)))))) 0 (λ_=>xHn) i6 [] func203 xCl
structure gi where
 seq:Int
 inst:Int
 side:Int
 dm:Int
 dr:Int
 count:Int
 gg:Bool
 deriving DecidableEq
def EN:gi:=⟨0,0,0,0,0,0,ap⟩
def gi.raw (m:gi):Prop:=gx m.seq/\gx m.dm/\gx m.dr/\gx m.count
def gi.form (m:gi):Int:=if m.inst<0\/255<m.inst\/(m.side≠1/\m.side≠2)then 12 else 0
def gi.body (m:gi):i4:=le m.seq 8++(iZ m.inst::iZ m.side::(le m.dm 8++(le m.dr 8++(le m.count 8++[iZ (if m.gg then 1 else 0)]))))
def gi.enc (m:gi):i4:=if m.form≠0 then[]else m.body
def cV (b:i4):gi×Int×RB:=
 let s:=(RB.mk b ap).fx;let i:=s.2.byte;let d:=i.2.byte;let p:=d.2.fx;let q:=p.2.fx;let c:=q.2.fx;let n:=c.2.byte
 (⟨s.1,i.1,d.1,p.1,q.1,c.1,decide (n.1=1)⟩,n.1,n.2)
def xP (b:i4):gi×Int:=if(cV b).2.2.lj≠0\/1<(cV b).2.1\/((cV b).1.side≠1/\(cV b).1.side≠2)then(EN,12)else((cV b).1,0)
def z4a (m:gi):m.body.length=35:=by simp[gi.body,xA]
def yHh {m:gi} (h:m.form=0):(0<=m.inst/\m.inst<=255)/\(m.side=1\/m.side=2):=by
 rw[gi.form]at h;split at h
 ·cases h
 ·omega
def yKo {m:gi} (h:m.form=0) (hr:m.raw):cV m.body=(m,if m.gg then 1 else 0,⟨[],ap⟩):=by
 obtain⟨h1,h2,h3,h4⟩:=hr;obtain⟨f1,f2⟩:=yHh h;have hn:(0:Int)<=(if m.gg then 1 else 0)/\(if m.gg then 1 else 0)<=(255:Int):=by split<;>omega
 rw[cV,gi.body,uU h1];dsimp only;rw[jJ];dsimp only;rw[jJ];dsimp only;rw[uU h2];dsimp only;rw[uU h3];dsimp only;rw[uU h4];dsimp only;rw[jJ];dsimp only;rw[EV X_,EV X_,EV hn];cases m with
 |mk a b c d e f g=>cases g<;>rfl
def yPw {m:gi} (h:m.form=0) (hr:m.raw):xP m.enc=(m,0):=by
 have e:m.enc=m.body:=by rw[gi.enc,eg (by simp[h])]
 obtain⟨f1,f2⟩:=yHh h;rw[xP,e,yKo h hr,eg];dsimp only;rintro(g|g|g)
 ·exact g rfl
 ·split at g<;>omega
 ·omega
def y1l:∀l:i4,0<=yW l/\yW l<256 ^ l.length
 |[]=>by simp[yW]
 |b::l=>by
  have h:=y1l l;have hb:=b.toNat_lt;rw[yW,iG,IE];omega
def yVz (b:UInt8) (n:Int):iZ (b.toNat+256*n)=b:=by
 apply UInt8.toNat.inj;have h1:=RF (b.toNat+256*n);have:=b.toNat_lt;omega
def yGj:∀l:i4,le (yW l) l.length=l
 |[]=>rfl
 |b::l=>by
  have h:=b.toNat_lt;simp only[yW,iG,le,yVz];rw[show((b.toNat:Int)+256*yW l) / 256=yW l by omega,yGj l]
def yXd {a b:Int} (h:a % 256=b % 256):iZ a=iZ b:=by rw[iZ,iZ,h]
def yIe:∀(k:Nat) {a b:Int},a % 256 ^ k=b % 256 ^ k->le a k=le b k
 |0,_,_,_=>rfl
 |k+1,a,b,h=>by
  have hp:(0:Int)<256 ^ k:=Int.pow_pos oM;rw[IE]at h;have hd:((256:Int) ^ k*256)∣(a-b):=Int.dvd_of_emod_eq_zero (by rw[Int.sub_emod,h,Int.sub_self];rfl);obtain⟨t,ht⟩:=hd;have h1:a % 256=b % 256:=by
   have:a-b=256*(256 ^ k*t):=by rw[ht,Ef (256 ^ k) 256,Int.mul_assoc]
   generalize (256:Int) ^ k*t=u at this;omega
  have h2:a / 256=b / 256+256 ^ k*t:=by
   have:a-b=256*(256 ^ k*t):=by rw[ht,Ef (256 ^ k) 256,Int.mul_assoc]
   generalize (256:Int) ^ k*t=u at this ⊢;omega
  rw[le,le,yXd h1,yIe k (a:=a / 256) (b:=b / 256) (by rw[h2,XW])]
def yUd (n:Int):af.wrap n % 18446744073709551616=n % 18446744073709551616:=by
 rw[ak];simp only[IntKind.bits,am];simp;omega
def We {r:RB} (h:r.fx.2.b=ap):r.b=ap/\r.l=le r.fx.1 8++r.fx.2.l:=by
 have hb:(r.n 8).bad=ap:=h;have hr:r.b=ap:=by
  rw[RN.bad,HJ]at hb;exact hb.1
 have hl:8<=r.l.length:=by
  rw[RN.bad,HJ,decide_eq_false_iff_not]at hb;have:=hb.2;have:¬r.l.length<8:=this;omega
 refine⟨hr,?_⟩;have e1:r.fx.1=af.wrap (yW (r.l.take 8)):=by
  rw[RB.fx];dsimp only;rw[RN.iT,hb];rfl
 have e2:r.fx.2.l=r.l.drop 8:=by
  rw[RB.fx];dsimp only;rw[RN.left,hb];rfl
 have hlen:(r.l.take 8).length=8:=by rw[nr];omega
 have e3:le (af.wrap (yW (r.l.take 8))) 8=r.l.take 8:=by
  rw[yIe 8 (b:=yW (r.l.take 8)) (yUd _)];have:=yGj (r.l.take 8);rwa [hlen]at this
 rw[e1,e2,e3,Bi]
def zMt {r:RB} (h:r.byte.2.b=ap):r.b=ap/\r.l=iZ r.byte.1::r.byte.2.l/\0<=r.byte.1/\r.byte.1<=255:=by
 have hb:(r.n 1).bad=ap:=h;have hr:r.b=ap:=by
  rw[RN.bad,HJ]at hb;exact hb.1
 obtain⟨l,b⟩:=r;cases hr;cases l with
 |nil=>cases hb
 |cons x l=>
  rw[jJ];have:=x.toNat_lt;have e:=yVz x 0;rw[Int.mul_zero,Int.add_zero]at e;dsimp only;exact⟨rfl,by rw[e],oM,oM⟩
def Vx (r:RB):gx r.fx.1:=by
 have:gx (af.wrap (yW (r.n 8).iT)):=by
  rw[gx,ak];simp only[IntKind.bits,am];simp;omega
 exact this
def yUm {x:i4} (h:(xP x).2=0):(xP x).1.form=0/\(xP x).1.raw/\(xP x).1.enc=x:=by
 rw[xP]at h ⊢;split at h
 ·cases h
 rename_i hc;rw[eg hc];dsimp only;have h1:(cV x).2.2.lj=0:=by
  by_cases e:(cV x).2.2.lj=0
  ·exact e
  ·exact absurd (.inl e) hc
 have hb:(cV x).2.2.b=ap:=by
  rw[RB.lj]at h1;split at h1
  ·cases h1
  ·rename_i e;simpa using e
 have hl:(cV x).2.2.l=[]:=by
  rw[RB.lj,hb]at h1;split at h1
  ·rename_i e;cases e
  ·split at h1
   ·cases h1
   ·rename_i e;exact ye oM
 have h2:(cV x).2.1<=1:=by
  by_cases e:1<(cV x).2.1
  ·exact absurd (.inr (.inl e)) hc
  ·omega
 have h3:(cV x).1.side=1\/(cV x).1.side=2:=by
  by_cases e:(cV x).1.side=1\/(cV x).1.side=2
  ·exact e
  ·exact absurd (.inr (.inr oM)) hc
 rw[cV]at hb hl h2 h3 ⊢;dsimp only at hb hl h2 h3 ⊢;generalize hs:(RB.mk x ap).fx=s at*;generalize hi:s.2.byte=i at*;generalize hd:i.2.byte=d at*;generalize hp:d.2.fx=p at*;generalize hq:p.2.fx=q at*;generalize AK:q.2.fx=c at*;generalize hn:c.2.byte=n at*;obtain⟨b7,l7,n0,n1⟩:=zMt (r:=c.2) (by rw[hn];exact hb);obtain⟨b6,l6⟩:=We (r:=q.2) (by rw[AK];exact b7);obtain⟨b5,l5⟩:=We (r:=p.2) (by rw[hq];exact b6);obtain⟨b4,l4⟩:=We (r:=d.2) (by rw[hp];exact b5);obtain⟨b3,l3,d0,d1⟩:=zMt (r:=i.2) (by rw[hd];exact b4);obtain⟨b2,l2,i0,i1⟩:=zMt (r:=s.2) (by rw[hi];exact b3);obtain⟨b1,l1⟩:=We (r:=RB.mk x ap) (by rw[hs];exact b2);have r1:=Vx (RB.mk x ap);have r2:=Vx d.2;have r3:=Vx p.2;have r4:=Vx q.2;rw[hn]at l7 n0 n1;rw[AK]at l6 r4;rw[hq]at l5 r3;rw[hp]at l4 r2;rw[hd]at l3 d0 d1;rw[hi]at l2 i0 i1;rw[hs]at l1 r1;have hf:(⟨s.1,i.1,d.1,p.1,q.1,c.1,decide (n.1=1)⟩:gi).form=0:=by
  rw[gi.form,eg];dsimp only;omega
 refine⟨hf,⟨r1,r2,r3,r4⟩,?_⟩;have hnn:(if decide (n.1=1)=aq then 1 else 0)=n.1:=by
  by_cases e:n.1=1
  ·rw[e];rfl
  ·have:n.1=0:=X_
   rw[this];rfl
 rw[gi.enc,eg (by rw[hf];simp),gi.body];dsimp only;have l1:x=le s.1 8++s.2.l:=l1;rw[hnn,l1,l2,l3,l4,l5,l6,l7,hl]
deriving instance DecidableEq for Lv
def cT (s:Int) (L:List Lv):Prop:=L.Pairwise λa b=>jo s a.dm b.dm=aq
def xl (L:List Lv) (p:Int):Option Lv:=L.find? λl=>decide (l.dm=p)
def mC (s:Int):List Lv->Lv->List Lv
 |[],m=>if 0<m.dr then[m]else[]
 |x::L,m=>if x.dm=m.dm then(if m.dr=0 then L else m::L)else if jo s m.dm x.dm=aq then(if 0<m.dr then m::x::L else x::L)else x::mC s L m
def x7 (s:Int):Nat->List Lv->List Lv->List Lv
 |0,_,_=>[]
 |k+1,[],[]=>[]
 |k+1,x::X,[]=>⟨x.dm,0,0⟩::x7 s k X []
 |k+1,[],y::Y=>y::x7 s k [] Y
 |k+1,x::X,y::Y=>if jo s x.dm y.dm=aq then⟨x.dm,0,0⟩::x7 s k X (y::Y)else if jo s y.dm x.dm=aq then y::x7 s k (x::X) Y else(if x=y then[]else[y])++x7 s k X Y
def Is {s x y z:Int} (h:jo s x y=aq) (h2:jo s y z=aq):jo s x z=aq:=by
 rw[jo]at h h2 ⊢;split
 ·rename_i e;rw[fh e]at h h2;have:=su h;have:=su h2;exact jt oM
 ·rename_i e;rw[eg e]at h h2;have:=su h;have:=su h2;exact jt oM
def aF {s x y:Int} (h:jo s x y=aq):x≠y:=by
 rintro rfl;rw[jo]at h;split at h<;>simp at h
def Vd {s x y:Int} (h:jo s x y=ap) (jy:x≠y):jo s y x=aq:=by
 rw[jo]at h ⊢;split
 ·rename_i e;rw[fh e]at h;have:=Mg h;exact jt oM
 ·rename_i e;rw[eg e]at h;have:=Mg h;exact jt oM
def LI {s p:Int} {L:List Lv} (h:∀l∈L,jo s p l.dm=aq):xl L p=ba:=by
 rw[xl,List.find?_eq_none];intro l hl;have:=aF (h l hl);simp;omega
def kI (x:Lv) (L:List Lv) (p:Int):xl (x::L) p=if x.dm=p then az x else xl L p:=by
 rw[xl,L9,xl];by_cases h:x.dm=p<;>simp[h]
def yHv {s:Int} {m:Lv}:∀{L:List Lv} {l:Lv},l∈mC s L m->l=m\/l∈L
 |[],l,h=>by
  rw[mC]at h;split at h
  ·exact .inl (tq.1 h)
  ·cases h
 |x::L,l,h=>by
  rw[mC]at h;split at h
  ·split at h
   ·exact .inr (jj _ h)
   ·rcases j'.1 h with h|h
    ·exact .inl h
    ·exact .inr (jj _ h)
  split at h
  ·split at h
   ·rcases j'.1 h with h|h
    ·exact .inl h
    ·exact .inr h
   ·exact .inr h
  ·rcases j'.1 h with h|h
   ·exact .inr (h▸iY)
   ·rcases yHv h with h|h
    ·exact .inl h
    ·exact .inr (jj _ h)
def Vl {s:Int} {m:Lv}:∀{L:List Lv},cT s L->cT s (mC s L m)
 |[],_=>by
  rw[mC];split
  ·exact List.pairwise_singleton _ _
  ·exact List.Pairwise.nil
 |x::L,h=>by
  have h':=h;rw[cT,zg]at h;rw[mC];split
  ·rename_i e;split
   ·exact h.2
   ·exact zg.2 ⟨λl hl=>by rw[<- e];exact h.1 l hl,h.2⟩
  rename_i jy;split
  ·rename_i hb;split
   ·refine zg.2 ⟨λl hl=> ?_,h'⟩;rcases j'.1 hl with rfl|hl
    ·exact hb
    ·exact Is hb (h.1 l hl)
   ·exact h'
  ·rename_i hb;refine zg.2 ⟨λl hl=> ?_,Vl h.2⟩;rcases yHv hl with rfl|hl
   ·exact Vd (i9 hb) (λe=>jy e.symm)
   ·exact h.1 l hl
def yAb {s:Int} {m:Lv} (hm:0<=m.dr):∀{L:List Lv},cT s L->∀p,xl (mC s L m) p=if p=m.dm then(if m.dr=0 then ba else az m)else xl L p
 |[],_,p=>by
  rw[mC];by_cases h0:m.dr=0
  ·rw[eg X_,fh h0];split<;>rfl
  ·rw[fh X_,eg h0,kI];by_cases e:m.dm=p
   ·rw[fh e,fh e.symm]
   ·rw[eg e,eg (λh=>e h.symm)]
 |x::L,h,p=>by
  have h':=h;rw[cT,zg]at h;rw[mC];by_cases hx:x.dm=m.dm
  ·rw[fh hx];have hn:xl L m.dm=ba:=LI (s:=s) λl hl=>by rw[<- hx];exact h.1 l hl
   by_cases h0:m.dr=0
   ·rw[fh h0,fh h0,kI];by_cases e:p=m.dm
    ·rw[fh e,e,hn]
    ·rw[eg e,eg X_]
   ·rw[eg h0,eg h0,kI,kI];by_cases e:p=m.dm
    ·rw[fh e,fh e.symm]
    ·rw[eg e,eg (λh=>e h.symm),eg X_]
  rw[eg hx];by_cases hb:jo s m.dm x.dm=aq
  ·rw[fh hb];have hn:xl (x::L) m.dm=ba:=LI (s:=s) λl hl=>by
    rcases j'.1 hl with rfl|hl
    ·exact hb
    ·exact Is hb (h.1 l hl)
   by_cases h0:m.dr=0
   ·rw[eg X_,fh h0];by_cases e:p=m.dm
    ·rw[fh e,e,hn]
    ·rw[eg e]
   ·rw[fh X_,eg h0,kI];by_cases e:p=m.dm
    ·rw[fh e,fh e.symm]
    ·rw[eg e,eg (λh=>e h.symm)]
  ·rw[eg hb,kI,kI,yAb hm h.2 p];by_cases e:x.dm=p
   ·rw[fh e,fh e,eg X_]
   ·rw[eg e,eg e]
def yTg {s:Int}:∀{A B:List Lv},cT s A->cT s B->(∀p,xl A p=xl B p)->A=B
 |[],[],_,_,_=>rfl
 |[],b::B,_,_,h=>by have:=h b.dm;rw[kI,fh rfl]at this;cases this
 |a::A,[],_,_,h=>by have:=h a.dm;rw[kI,fh rfl]at this;cases this
 |a::A,b::B,hA,hB,h=>by
  rw[cT,zg]at hA hB;have key:a.dm=b.dm:=by
   by_cases e:a.dm=b.dm
   ·exact e
   ·exfalso;by_cases hb:jo s a.dm b.dm=aq
    ·have:=h a.dm;rw[kI,fh rfl,LI (s:=s) λl hl=>by
      rcases j'.1 hl with rfl|hl
      ·exact hb
      ·exact Is hb (hB.1 l hl)]at this
     cases this
    ·have hb:=Vd (i9 hb) e;have:=h b.dm;rw[kI (x:=b),fh rfl,LI (s:=s) λl hl=>by
      rcases j'.1 hl with rfl|hl
      ·exact hb
      ·exact Is hb (hA.1 l hl)]at this
     cases this
  have CU:a=b:=by
   have:=h a.dm;rw[kI,fh rfl,kI,fh key.symm]at this;exact Option.some.inj this
  subst CU;rw[yTg hA.2 hB.2 λp=> ?_];have:=h p;rw[kI,kI]at this;by_cases e:a.dm=p
  ·rw[<- e,LI (s:=s) hA.1,LI (s:=s) hB.1]
  ·rwa [eg e,eg e]at this
def aG {s:Int}:∀(k:Nat) (X Y:List Lv),∀m∈x7 s k X Y,m.dm∈X.map (·.dm)\/m.dm∈Y.map (·.dm)
 |0,_,_,m,h=>by cases h
 |k+1,[],[],m,h=>by cases h
 |k+1,x::X,[],m,h=>by
  rw[x7]at h;rcases j'.1 h with rfl|h
  ·exact .inl iY
  ·rcases aG k X [] m h with h|h
   ·exact .inl (jj _ h)
   ·exact .inr h
 |k+1,[],y::Y,m,h=>by
  rw[x7]at h;rcases j'.1 h with rfl|h
  ·exact .inr iY
  ·rcases aG k [] Y m h with h|h
   ·exact .inl h
   ·exact .inr (jj _ h)
 |k+1,x::X,y::Y,m,h=>by
  rw[x7]at h;split at h
  ·rcases j'.1 h with rfl|h
   ·exact .inl iY
   ·rcases aG k X (y::Y) m h with h|h
    ·exact .inl (jj _ h)
    ·exact .inr h
  split at h
  ·rcases j'.1 h with rfl|h
   ·exact .inr iY
   ·rcases aG k (x::X) Y m h with h|h
    ·exact .inl h
    ·exact .inr (jj _ h)
  ·rcases oH.1 h with h|h
   ·split at h
    ·cases h
    ·rw[tq]at h;subst h;exact .inr iY
   ·rcases aG k X Y m h with h|h
    ·exact .inl (jj _ h)
    ·exact .inr (jj _ h)
def RY (m:Lv):Option Lv:=if m.dr=0 then ba else az m
structure DT (M A B:List Lv):Prop where
 q:∀m∈M,0<=m.dr
 t:∀m∈M,RY m=xl B m.dm
 n:(M.map (·.dm)).Nodup
 e:∀p,p∉M.map (·.dm)->xl A p=xl B p
def Ru (L:List Lv):Prop:=∀l∈L,1<=l.dr
def z0g {m:Lv} (h:1<=m.dr):RY m=az m:=by rw[RY,eg X_]
def DT.cons {M A B:List Lv} {m:Lv} {A' B':List Lv} (h:DT M A B) (hq:0<=m.dr) (ht:RY m=xl B' m.dm) (hn:m.dm∉M.map (·.dm))
 (hA:∀p,p≠m.dm->xl A' p=xl A p) (hB:∀p,p≠m.dm->xl B' p=xl B p):DT (m::M) A' B':=by
 refine⟨λx hx=> ?_,λx hx=> ?_,?_,λp hp=> ?_⟩
 ·rcases j'.1 hx with rfl|hx
  ·exact hq
  ·exact h.q x hx
 ·rcases j'.1 hx with rfl|hx
  ·exact ht
  ·rw[hB _ λe=>hn (e▸sv hx)];exact h.t x hx
 ·rw[jg,yz];exact⟨hn,h.n⟩
 ·rw[jg,j',not_or]at hp;rw[hA p hp.1,hB p hp.1];exact h.e p hp.2
def mG {x:Lv} {L:List Lv} {p:Int} (h:p≠x.dm):xl (x::L) p=xl L p:=by rw[kI,eg λe=>h e.symm]
def N4 {s:Int}:∀(k:Nat) (X Y:List Lv),X.length+Y.length<=k->cT s X->cT s Y->Ru Y->DT (x7 s k X Y) X Y
 |0,x::X,_,h,_,_,_=>absurd h (by simp)
 |0,[],y::Y,h,_,_,_=>absurd h (by simp)
 |0,[],[],_,_,_,_=>⟨λ_ h=>(FM h).elim,λ_ h=>(FM h).elim,Ou,λ_ _=>rfl⟩
 |k+1,[],[],_,_,_,_=>⟨λ_ h=>(FM h).elim,λ_ h=>(FM h).elim,Ou,λ_ _=>rfl⟩
 |k+1,x::X,[],hk,hX,hY,hp=>by
  have hX':=hX;rw[cT,zg]at hX;have ih:=N4 (s:=s) k X [] (by simp at hk ⊢;omega) hX.2 hY hp;rw[x7];refine ih.cons (yy _) rfl (λh=> ?_) (λp h=>mG h) λ_ _=>rfl
  obtain⟨m,hm,e⟩:=nn.1 h;rcases aG k X [] m hm with h|h
  ·obtain⟨l,hl,e2⟩:=nn.1 h;exact aF (hX.1 l hl) (by rw[e2,e])
  ·cases h
 |k+1,[],y::Y,hk,hX,hY,hp=>by
  rw[cT,zg]at hY;have ih:=N4 (s:=s) k [] Y (by simp at hk ⊢;omega) hX hY.2 λl hl=>hp l (jj _ hl)
  have hy:=hp y iY;rw[x7];refine ih.cons oM (by rw[z0g hy,kI,fh rfl]) (λh=> ?_) (λ_ _=>rfl) λp h=>mG h
  obtain⟨m,hm,e⟩:=nn.1 h;rcases aG k [] Y m hm with h|h
  ·cases h
  ·obtain⟨l,hl,e2⟩:=nn.1 h;exact aF (hY.1 l hl) (by rw[e2,e])
 |k+1,x::X,y::Y,hk,hX,hY,hp=>by
  have hX':=hX;have hY':=hY;rw[cT,zg]at hX hY;have hpY:Ru Y:=λl hl=>hp l (jj _ hl)
  have hy:=hp y iY;simp only[iG]at hk;rw[x7];by_cases h1:jo s x.dm y.dm=aq
  ·rw[fh h1];have hb:∀l∈y::Y,jo s x.dm l.dm=aq:=λl hl=>by
    rcases j'.1 hl with rfl|hl
    ·exact h1
    ·exact Is h1 (hY.1 l hl)
   have ih:=N4 (s:=s) k X (y::Y) (by rw[iG];omega) hX.2 hY' hp;refine ih.cons (yy _) ?_ (λh=> ?_) (λp h=>mG h) λ_ _=>rfl
   ·exact(LI hb).symm
   ·obtain⟨m,hm,e⟩:=nn.1 h;rcases aG k X (y::Y) m hm with h|h
    ·obtain⟨l,hl,e2⟩:=nn.1 h;exact aF (hX.1 l hl) (by rw[e2,e])
    ·obtain⟨l,hl,e2⟩:=nn.1 h;exact aF (hb l hl) (by rw[e2,e])
  rw[eg h1];by_cases h2:jo s y.dm x.dm=aq
  ·rw[fh h2];have hb:∀l∈x::X,jo s y.dm l.dm=aq:=λl hl=>by
    rcases j'.1 hl with rfl|hl
    ·exact h2
    ·exact Is h2 (hX.1 l hl)
   have ih:=N4 (s:=s) k (x::X) Y (by rw[iG];omega) hX' hY.2 hpY;refine ih.cons oM (by rw[z0g hy,kI,fh rfl]) (λh=> ?_) (λ_ _=>rfl) λp h=>mG h
   obtain⟨m,hm,e⟩:=nn.1 h;rcases aG k (x::X) Y m hm with h|h
   ·obtain⟨l,hl,e2⟩:=nn.1 h;exact aF (hb l hl) (by rw[e2,e])
   ·obtain⟨l,hl,e2⟩:=nn.1 h;exact aF (hY.1 l hl) (by rw[e2,e])
  rw[eg h2];have he:x.dm=y.dm:=by
   by_cases e:x.dm=y.dm
   ·exact e
   ·exact absurd (Vd (i9 h1) e) h2
  have ih:=N4 (s:=s) k X Y oM hX.2 hY.2 hpY;have Bl:y.dm∉(x7 s k X Y).map (·.dm):=λh=>by
   obtain⟨m,hm,e⟩:=nn.1 h;rcases aG k X Y m hm with h|h
   ·obtain⟨l,hl,e2⟩:=nn.1 h;exact aF (hX.1 l hl) (by rw[e2,e,he])
   ·obtain⟨l,hl,e2⟩:=nn.1 h;exact aF (hY.1 l hl) (by rw[e2,e])
  by_cases e:x=y
  ·rw[fh e,wy];subst e;refine⟨ih.q,λm hm=> ?_,ih.n,λp hpn=> ?_⟩
   ·rw[mG λe=>Bl (e▸sv hm)];exact ih.t m hm
   ·by_cases ep:p=x.dm
    ·rw[ep,kI,fh rfl,kI,fh rfl]
    ·rw[mG ep,mG ep];exact ih.e p hpn
  ·rw[eg e,RP];exact ih.cons oM (by rw[z0g hy,kI,fh rfl]) Bl (λp h=>mG (by rw[he];exact h)) λp h=>mG h
def yGf {s:Int}:∀(M:List Lv) {L:List Lv},cT s L->(∀m∈M,0<=m.dr)->(M.map (·.dm)).Nodup->
 cT s (M.foldl (mC s) L)/\(∀m∈M,xl (M.foldl (mC s) L) m.dm=RY m)/\∀p,p∉M.map (·.dm)->xl (M.foldl (mC s) L) p=xl L p
 |[],L,h,_,_=>⟨h,λ_ hm=>(FM hm).elim,λ_ _=>rfl⟩
 |m::M,L,h,hq,hn=>by
  rw[jg,yz]at hn;have h0:=hq m iY;obtain⟨a,b,c⟩:=yGf M (L:=mC s L m) (Vl h) (λx hx=>hq x (jj _ hx)) hn.2;rw[Be];refine⟨a,λx hx=> ?_,λp hp=> ?_⟩
  ·rcases j'.1 hx with rfl|hx
   ·rw[c _ hn.1,yAb h0 h,fh rfl];rfl
   ·exact b x hx
  ·rw[jg,j',not_or]at hp;rw[c p hp.2,yAb h0 h,eg hp.1]
def yBe {s:Int} {A B M:List Lv} (hA:cT s A) (hB:cT s B) (hp:Ru B) {k:Nat} (hk:A.length+B.length<=k) (hM:M.Perm (x7 s k A B)):M.foldl (mC s) A=B:=by
 have d:=N4 (s:=s) k A B hk hA hB hp;have hpm:=hM.map (·.dm)
 obtain⟨a,b,c⟩:=yGf (s:=s) M hA (λm hm=>d.q m (hM.mem_iff.1 hm)) (hpm.nodup_iff.2 d.n);refine yTg a hB λp=> ?_
 by_cases h:p∈M.map (·.dm)
 ·obtain⟨m,hm,rfl⟩:=nn.1 h;rw[b m hm];exact d.t m (hM.mem_iff.1 hm)
 ·rw[c p h];exact d.e p λh2=>h (hpm.mem_iff.2 h2)
def zXa {s:Int}:∀(k:Nat) (A:List Lv),x7 s k A A=[]
 |0,_=>rfl
 |k+1,[]=>rfl
 |k+1,x::A=>by
  rw[x7];have:jo s x.dm x.dm=ap:=by rw[jo];split<;>simp
  rw[eg (by rw[this];decide),eg (by rw[this];decide),fh rfl,zXa k A];rfl
def jR (s:Int) (L:List Lv) (m:Lv):List Lv:=match L.findIdx? λy=>decide (y.dm=m.dm)with
 |some n=>if m.dr=0 then L.eraseIdx n else L.set n m
 |none=>if 0<m.dr then L.take ((L.findIdx? λy=>jo s m.dm y.dm).getD L.length)++m::L.drop ((L.findIdx? λy=>jo s m.dm y.dm).getD L.length)else L
def zYn {s:Int} {m:Lv} (hq:0<=m.dr):∀{L:List Lv},cT s L->jR s L m=mC s L m
 |[],_=>by
  rw[jR,mC,List.findIdx?_nil];dsimp only;split<;>rfl
 |x::L,h=>by
  rw[cT,zg]at h;have ih:=zYn hq h.2;rw[mC];by_cases hx:x.dm=m.dm
  ·rw[fh hx,jR,Kc,fh (by simp[hx])];dsimp only;split<;>rfl
  rw[eg hx];by_cases hb:jo s m.dm x.dm=aq
  ·have hn:(x::L).findIdx? (λy=>decide (y.dm=m.dm))=ba:=by
    rw[OH];intro l hl;rcases j'.1 hl with rfl|hl
    ·exact ju hx
    ·have:=aF (Is hb (h.1 l hl));exact ju λe=>this e.symm
   rw[fh hb,jR,hn];dsimp only;rw[Kc,fh hb];rfl
  ·have e1:(x::L).findIdx? (λy=>decide (y.dm=m.dm))=(L.findIdx? λy=>decide (y.dm=m.dm)).map (·+1):=by
    rw[Kc,eg (by simp[hx])]
   have e2:(x::L).findIdx? (λy=>jo s m.dm y.dm)=(L.findIdx? λy=>jo s m.dm y.dm).map (·+1):=by
    rw[Kc,eg hb]
   rw[eg hb,<- ih,jR,jR,e1,e2];cases L.findIdx? (λy=>decide (y.dm=m.dm))with
   |some n=>
    dsimp only[Option.map];split<;>rfl
   |none=>
    dsimp only[Option.map];split
    ·cases L.findIdx? (λy=>jo s m.dm y.dm)<;>rfl
    ·rfl
def Lv.fit (x:Lv):Prop:=gx x.dm/\gx x.dr/\gx x.count
def Sd.fit (s:Sd):Prop:=(∀x∈s.levels,x.fit)/\s.imp.fit
def Ry (v:Vw):Prop:=∀b∈v,b.1.fit/\b.2.fit
def z9c {α:Type}:∀(l:List α) {k:Nat} (h:k<l.length),l.take k++[l[k]]=l.take (k+1)
 |[],_,h=>absurd h (by simp)
 |a::l,0,_=>rfl
 |a::l,k+1,h=>by
  have:=z9c l (k:=k) (i9 h);rw[vj,vj,<- this];rfl
def yTf {x:Lv} (h:x.fit) (l:i4):RB.lv ⟨qH x++l,ap⟩=(x,⟨l,ap⟩):=by
 obtain⟨h1,h2,h3⟩:=h;rw[RB.lv,qH,jd,jd,uU h1];dsimp only;rw[uU h2];dsimp only;rw[uU h3]
def yIh {L:List Lv} (h:∀x∈L,x.fit) (l:i4):∀k,k<=L.length->RB.Ah ⟨L.flatMap qH++l,ap⟩ k=(L.take k,⟨(L.drop k).flatMap qH++l,ap⟩)
 |0,_=>by simp[RB.Ah]
 |k+1,hk=>by
  have qc:k<L.length:=hk;rw[RB.Ah,yIh h l k X_,CN qc,vw,jd];dsimp only;rw[yTf (h _ (List.getElem_mem qc))];dsimp only;rw[z9c L qc]
def z7r {s:Sd} (h:s.fit) (hl:s.levels.length<=255) (h0:s.has=ap->s.imp=⟨0,0,0⟩) (l:i4):RB.side ⟨sA s++l,ap⟩=((s,aq),⟨l,ap⟩):=by
 have hp:RB.part ⟨sA s++l,ap⟩=(s.levels,⟨(if s.has then[iZ 1]++qH s.imp else[iZ 0])++l,ap⟩):=by
  have e:sA s++l=iZ s.levels.length::(s.levels.flatMap qH++((if s.has then[iZ 1]++qH s.imp else[iZ 0])++l)):=by simp[sA,jd]
  rw[e,RB.part,jJ];dsimp only;rw[EV X_,ov,yIh h.1 _ _ (jx _),zf,av];rfl
 rw[RB.side,hp];dsimp only;cases hh:s.has with
 |true=>
  rw[fh rfl,jd];have e:[iZ 1]++(qH s.imp++l)=iZ 1::(qH s.imp++l):=rfl;rw[e,jJ];dsimp only;rw[EV X_,fh rfl,yTf h.2];cases s;cases hh;rfl
 |false=>
  have e:(if ap=aq then[iZ 1]++qH s.imp else[iZ 0])++l=iZ 0::l:=rfl;rw[e,jJ];dsimp only;rw[EV X_,eg (by decide)];have:=h0 hh;cases s;cases hh;cases this;rfl
def zYf {v:Vw} (h:Ry v) (hr:wE v) (l:i4):∀k,k<=v.length->RB.views ⟨v.flatMap kG++l,ap⟩ k=((v.take k,aq),⟨(v.drop k).flatMap kG++l,ap⟩)
 |0,_=>by simp[RB.views]
 |k+1,hk=>by
  have qc:k<v.length:=hk;have hm:=List.getElem_mem qc;obtain⟨f1,f2⟩:=h _ hm;obtain⟨⟨_,a1,_,a2⟩,⟨_,b1,_,b2⟩⟩:=hr.1 _ hm;rw[RB.views,zYf h hr l k X_,CN qc,vw,kG,jd,jd];dsimp only;rw[z7r f1 a1 a2];dsimp only;rw[z7r f2 b1 b2];dsimp only;rw[<- z9c v qc];rfl
def yXn {v:Vw} (h:Ry v) (hr:wE v) {seq:Int} (hs:gx seq):RB.all ⟨kP v seq,ap⟩=((v,aq),⟨[],ap⟩)/\(RB.mk (kP v seq) ap).fx.1=seq:=by
 have hl:=hr.2;have e:kP v seq=le seq 8++(iZ v.length::v.flatMap kG):=by simp[kP,jd]
 have e2:RB.fx ⟨kP v seq,ap⟩=(seq,⟨iZ v.length::v.flatMap kG,ap⟩):=by rw[e,uU hs]
 have e3:RB.head ⟨kP v seq,ap⟩=((v.length:Int),⟨v.flatMap kG,ap⟩):=by
  rw[RB.head,e2];dsimp only;rw[jJ,EV X_]
 refine⟨?_,by rw[e2]⟩;have:=zYf h hr [] v.length (jx _);rw[oQ,oQ,zf,av]at this;rw[RB.all,e3];dsimp only;rw[ov,this];rfl
def yTb {v:Vw} (hr:wE v) (seq:Int):yJ (xY v seq)=⟨kP v seq,ap⟩/\rF (xY v seq):=by
 have hl:(xY v seq).length-4=(kP v seq).length:=by rw[xY,fh hr,ix,xA];omega
 have h4:4<=(xY v seq).length:=by rw[xY,fh hr,ix,xA];omega
 have ht:(xY v seq).take ((xY v seq).length-4)=kP v seq:=by rw[hl,xY,fh hr,J8]
 have hd:(xY v seq).drop ((xY v seq).length-4)=le (dH (kP v seq)) 4:=by rw[hl,xY,fh hr,Ow]
 exact⟨by rw[yJ,ht],h4,by rw[ht,hd]⟩
def yKx {v:Vw} (h:Ry v) (hr:wE v) {seq:Int} (hs:gx seq):bZ (xY v seq)=v/\pR (xY v seq)=seq/\tY (xY v seq)=0:=by
 obtain⟨b1,b2⟩:=yTb hr seq;obtain⟨a1,a2⟩:=yXn h hr hs;have hf:aR (xY v seq):=by rw[aR,b1,a1];exact⟨rfl,rfl,hr⟩
 refine⟨?_,?_,?_⟩
 ·rw[bZ,fh ⟨b2,hf⟩,b1,a1]
 ·rw[pR,fh ⟨b2,hf⟩,b1,a2]
 ·rw[tY,fh b2,fh hf]
structure VM where
 inst:Nat
 side:Int
 l:Lv
 imp:Bool
def BG:Lv:=⟨0,0,0⟩
def vH (s:Int) (x:Sd) (m:VM):Sd:=if m.imp=aq then(if 0<m.l.dr then⟨x.levels,m.l,aq⟩else⟨x.levels,BG,ap⟩)else⟨mC s x.levels m.l,x.imp,x.has⟩
def Io (a b:Sd):Bool:=decide (a.imp≠b.imp)||decide (a.has≠b.has)
def CF (b:Sd):Lv:=if b.has=aq then b.imp else BG
def xW (n:Nat) (s:Int) (a b:Sd):List VM:=(x7 s (a.levels.length+b.levels.length) a.levels b.levels).map (λl=>⟨n,s,l,ap⟩)++if Io a b=aq then[⟨n,s,CF b,aq⟩]else[]
def Xl (s:Int) (x:Sd):Prop:=cT s x.levels/\Ru x.levels/\(x.has=aq->1<=x.imp.dr)/\(x.has=ap->x.imp=BG)
def yEb {s:Int}:∀(M:List VM) (x:Sd),(M.foldl (vH s) x).levels=((M.filter λm=> !m.imp).map (·.l)).foldl (mC s) x.levels
 |[],_=>rfl
 |m::M,x=>by
  rw[Be,yEb M,Dt];cases h:m.imp with
  |true=>
   rw[eg (by simp),vH,fh h];split<;>rfl
  |false=>
   rw[fh (show(!false)=aq from rfl),vH,eg (by simp[h])];rfl
def yEo {s:Int} {l:Lv} {n:Nat}:∀(M:List VM) (x:Sd),(M.filter (·.imp))=[⟨n,s,l,aq⟩]->(M.foldl (vH s) x).imp=(if 0<l.dr then l else BG)/\(M.foldl (vH s) x).has=decide (0<l.dr)
 |[],_,h=>by cases h
 |m::M,x,h=>by
  rw[Be];rw[Dt]at h;cases hm:m.imp with
  |true=>
   rw[fh hm]at h;have h1:=(List.cons.inj h).1;have h2:=(List.cons.inj h).2;have oB:∀(M:List VM) (x:Sd),M.filter (·.imp)=[]->(M.foldl (vH s) x).imp=x.imp/\(M.foldl (vH s) x).has=x.has:=by
    intro M
    induction M with
    |nil=>intro x _;exact⟨rfl,rfl⟩
    |cons y M ih=>
     intro x hy;rw[Dt]at hy;cases hi:y.imp with
     |true=>rw[fh hi]at hy;cases hy
     |false=>
      rw[eg (by simp[hi])]at hy;rw[Be,(ih _ hy).1,(ih _ hy).2,vH,eg (by simp[hi])];exact⟨rfl,rfl⟩
   rw[(oB M _ h2).1,(oB M _ h2).2,h1,vH,fh rfl];by_cases c:0<l.dr
   ·rw[fh c,fh c,jt c];exact⟨rfl,rfl⟩
   ·rw[eg c,eg c,ju c];exact⟨rfl,rfl⟩
  |false=>
   rw[eg (by simp[hm])]at h;exact yEo M _ h
def ZL {s:Int}:∀(M:List VM) (x:Sd),M.filter (·.imp)=[]->(M.foldl (vH s) x).imp=x.imp/\(M.foldl (vH s) x).has=x.has
 |[],_,_=>⟨rfl,rfl⟩
 |y::M,x,hy=>by
  rw[Dt]at hy;cases hi:y.imp with
  |true=>rw[fh hi]at hy;cases hy
  |false=>
   rw[eg (by simp[hi])]at hy;rw[Be,(ZL M _ hy).1,(ZL M _ hy).2,vH,eg (by simp[hi])];exact⟨rfl,rfl⟩
def z6b {n:Nat} {s:Int} {a b:Sd} (ha:Xl s a) (hb:Xl s b) {M:List VM} (hM:M.Perm (xW n s a b)):M.foldl (vH s) a=b:=by
 have hl:(M.foldl (vH s) a).levels=b.levels:=by
  rw[yEb];refine yBe ha.1 hb.1 hb.2.1 (jx _) ?_;have:=(hM.filter λm=> !m.imp).map (·.l)
  refine this.trans (List.Perm.of_eq ?_);rw[xW,CL,ax];have e:(if Io a b=aq then[(⟨n,s,CF b,aq⟩:VM)]else[]).filter (λm=> !m.imp)=[]:=by split<;>rfl
  rw[e,oQ,wx];have e2:(x7 s (a.levels.length+b.levels.length) a.levels b.levels).filter ((λm:VM=> !m.imp)∘λl=>⟨n,s,l,ap⟩)=x7 s (a.levels.length+b.levels.length) a.levels b.levels:=II.2 λ_ _=>rfl
  rw[e2];exact List.map_id _
 have hi:(M.foldl (vH s) a).imp=b.imp/\(M.foldl (vH s) a).has=b.has:=by
  have hf:=hM.filter (·.imp)
  have e0:(xW n s a b).filter (·.imp)=if Io a b=aq then[⟨n,s,CF b,aq⟩]else[]:=by
   rw[xW,CL,ax];have e2:(x7 s (a.levels.length+b.levels.length) a.levels b.levels).filter ((λm:VM=>m.imp)∘λl=>⟨n,s,l,ap⟩)=[]:=IJ.2 λ_ _=>by simp
   rw[e2,Bz,wy];split<;>rfl
  rw[e0]at hf;by_cases c:Io a b=aq
  ·rw[fh c]at hf;have hf:=List.perm_singleton.1 hf;obtain⟨x1,x2⟩:=yEo M a hf;rw[x1,x2,CF];cases hh:b.has with
   |true=>
    have:=hb.2.2.1 hh;rw[fh rfl,fh X_,jt X_];exact⟨rfl,rfl⟩
   |false=>
    rw[hb.2.2.2 hh];exact⟨rfl,rfl⟩
  ·rw[eg c]at hf;obtain⟨x1,x2⟩:=ZL M a (List.perm_nil.1 hf);rw[Io,Ma,ua,ua,not_or]at c;rw[x1,x2];exact⟨Decidable.not_not.1 c.1,Decidable.not_not.1 c.2⟩
 generalize M.foldl (vH s) a=x at hl hi;cases x;cases b;simp only at hl hi;rw[hl,hi.1,hi.2]
def yDw (n:Nat) (s:Int) (a:Sd):xW n s a a=[]:=by
 rw[xW,zXa];simp[Io]
def aD (p:Sd×Sd) (m:VM):Sd×Sd:=if m.side=1 then(vH 1 p.1 m,p.2)else(p.1,vH 2 p.2 m)
def bW (v:Vw) (m:VM):Vw:=v.modify m.inst λp=>aD p m
def xN (n:Nat):Vw->Vw->List VM
 |a::A,b::B=>xW n 1 a.1 b.1++xW n 2 a.2 b.2++xN (n+1) A B
 |_,_=>[]
def Xt (v:Vw):Prop:=∀p∈v,Xl 1 p.1/\Xl 2 p.2
def yWm (v:Vw) (m:VM):(bW v m).length=v.length:=List.length_modify _ _ _
def z6i:∀(M:List VM) (v:Vw) (i:Nat),(M.foldl bW v)[i]? =v[i]?.map λp=>(M.filter λm=>decide (m.inst=i)).foldl aD p
 |[],v,i=>by simp
 |m::M,v,i=>by
  rw[Be,z6i M,bW,FN,Dt];by_cases h:m.inst=i
  ·cases v[i]? <;>simp[h]
  ·cases v[i]? <;>simp[h]
def zYg:∀(M:List VM) (p:Sd×Sd),M.foldl aD p=((M.filter λm=>decide (m.side=1)).foldl (vH 1) p.1,(M.filter λm=> !decide (m.side=1)).foldl (vH 2) p.2)
 |[],_=>rfl
 |m::M,p=>by
  rw[Be,zYg M,aD,Dt,Dt];by_cases h:m.side=1
  ·rw[fh h,fh (by simp[h]),eg (by simp[h])];rfl
  ·rw[eg h,eg (by simp[h]),fh (by simp[h])];rfl
def rP {n:Nat} {s:Int} {a b:Sd}:∀m∈xW n s a b,m.inst=n/\m.side=s:=by
 intro m hm;rw[xW,oH]at hm;rcases hm with hm|hm
 ·obtain⟨l,_,rfl⟩:=nn.1 hm;exact⟨rfl,rfl⟩
 ·split at hm
  ·rw[tq]at hm;subst hm;exact⟨rfl,rfl⟩
  ·cases hm
def y4g:∀{n:Nat} {A B:Vw},∀m∈xN n A B,n<=m.inst
 |n,[],_,m,h=>by rw[xN]at h<;>first|cases h|simp
 |n,a::A,[],m,h=>by rw[xN]at h<;>first|cases h|simp
 |n,a::A,b::B,m,h=>by
  rw[xN,oH,oH]at h;rcases h with(h|h)|h
  ·exact Nat.le_of_eq (rP m h).1.symm
  ·exact Nat.le_of_eq (rP m h).1.symm
  ·have:=y4g m h;omega
def yPn:∀{n:Nat} {A B:Vw} {i:Nat} {a b:Sd×Sd},A[i]? =az a->B[i]? =az b->(xN n A B).filter (λm=>decide (m.inst=n+i))=xW (n+i) 1 a.1 b.1++xW (n+i) 2 a.2 b.2
 |n,[],_,i,a,b,h,_=>by cases h
 |n,x::A,[],i,a,b,_,h=>by cases h
 |n,x::A,y::B,0,a,b,h,h2=>by
  cases h;cases h2;rw[xN,CL];have e1:(xN (n+1) A B).filter (λm=>decide (m.inst=n+0))=[]:=IJ.2 λm hm=>by
   have:=y4g m hm;simp;omega
  rw[e1,oQ];refine II.2 λm hm=> ?_
  rcases oH.1 hm with hm|hm
  ·exact jt (rP m hm).1
  ·exact jt (rP m hm).1
 |n,x::A,y::B,i+1,a,b,h,h2=>by
  have ih:=yPn (n:=n+1) (A:=A) (B:=B) (i:=i) (a:=a) (b:=b) h h2;rw[xN,CL];have e1:(xW n 1 x.1 y.1++xW n 2 x.2 y.2).filter (λm=>decide (m.inst=n+(i+1)))=[]:=IJ.2 λm hm=>by
   rcases oH.1 hm with hm|hm
   ·have:=(rP m hm).1;simp;omega
   ·have:=(rP m hm).1;simp;omega
  rw[e1,wy,show n+(i+1)=n+1+i by omega];exact ih
def yAg {A B:Vw} (hl:A.length=B.length) (hA:Xt A) (hB:Xt B) {M:List VM} (hM:M.Perm (xN 0 A B)):M.foldl bW A=B:=by
 refine Du λi=> ?_
 rw[z6i];cases hi:A[i]? with
 |none=>
  have:=XV.1 hi;rw[uv X_];rfl
 |some a=>
  have gr:=(jk.1 hi).1;obtain⟨b,hb⟩:∃b,B[i]? =az b:=⟨_,vl oM⟩
  obtain⟨a1,a2⟩:=hA a (kx hi);obtain⟨b1,b2⟩:=hB b (kx hb);have hf:=hM.filter λm=>decide (m.inst=i)
  have hv:=yPn (n:=0) hi hb;rw[nt]at hv;rw[hv]at hf;have h1:((M.filter λm=>decide (m.inst=i)).filter λm=>decide (m.side=1)).Perm (xW i 1 a.1 b.1):=by
   refine(hf.filter _).trans (List.Perm.of_eq ?_);rw[CL,II.2 λm hm=>jt (rP m hm).2,IJ.2 λm hm=>by rw[(rP m hm).2];decide,oQ]
  have h2:((M.filter λm=>decide (m.inst=i)).filter λm=> !decide (m.side=1)).Perm (xW i 2 a.2 b.2):=by
   refine(hf.filter _).trans (List.Perm.of_eq ?_);rw[CL,IJ.2 λm hm=>by rw[(rP m hm).2];decide,II.2 λm hm=>by rw[(rP m hm).2];decide,wy]
  rw[hb,wz,zYg,z6b a1 b1 h1,z6b a2 b2 h2]
def yGt:∀(n:Nat) (A:Vw),xN n A A=[]
 |_,[]=>rfl
 |n,a::A=>by rw[xN,yDw,yDw,yGt];rfl
end Sx
