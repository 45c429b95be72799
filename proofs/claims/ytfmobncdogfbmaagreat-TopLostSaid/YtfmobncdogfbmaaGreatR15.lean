/- Texts of ours. No condition. -/
import Derived.Test.YtfmobncdogfbmaaGreatR14
set_option linter.all false
open List renaming replicate->aa,range'->ab
open Bool renaming false->ac,true->ae
open Option renaming some->af,none->ag
open Go.IntKind renaming i64->aj,u64->ak
open Option.some renaming inj->am
open True renaming intro->Y_
open Cv.dp renaming mk->W_
namespace Sx
set_option maxRecDepth 100000
open Go Cv Go.Proofs
open Tryz renaming prog->Z_
open Tryz hiding prog
def xAw {v:Vw} {k:Nat} {b:Sd×Sd} (h:v[k]? =af b):zC (v.map zA) k 0 1=af [D.ro 3 (b.1.levels.map iq)]:=jz h (by simp[zA]) rfl
def y7s {v:Vw} {k:Nat} {b:Sd×Sd} (h:v[k]? =af b):zC (v.map zA) k 5 1=af [D.ro 3 (b.2.levels.map iq)]:=jz h (by simp[zA]) rfl
def zUe {α:Type} {f:α->List D} {l:List α} {i g:Nat} {x:α} {ds:List D} (hi:l[i]? =af x) (hh:(f x).take g++(ds++(f x).drop (g+ds.length))=f x):zJ (l.map f) i g ds=l.map f:=by
 rw[yL hi hh];obtain⟨h,rfl⟩:=jk.1 hi;rw[List.set_getElem_self h]
def xJu (v:Vw) (h:TM.dp v):xGg v:=by
 obtain⟨hl,hs⟩:v.length<=1000000/\xZ v:=h;have ux:(v.map zA).length=v.length:=ib _;unfold xGg ff dx dS Vr Rc ot qL y7;refine⟨v.map zA,rfl,by rw[ux];omega,λ_ _=>⟨0,rfl,rfl,λk=>k<=v.length,λk=>v.length-k,ml _,λk hk=>zH (λc=> ?_) (λ_=>⟨(),rfl,Y_⟩)⟩⟩;obtain⟨b,hb⟩:=zZ (l:=v) (i:=k) oM;obtain⟨qk,np⟩:=hs.2 b (kx hb);have AH:(b.1.levels.map iq).length=b.1.levels.length:=ib _;have o5:(b.2.levels.map iq).length=b.2.levels.length:=ib _;have e1:zJ (v.map zA) (k:Int).toNat 0 [D.ro 3 (b.1.levels.map iq)]=v.map zA:=zUe hb rfl;have e2:zJ (v.map zA) (k:Int).toNat 5 [D.ro 3 (b.2.levels.map iq)]=v.map zA:=zUe hb rfl;refine⟨⟨oM,oM⟩,_,xAw hb,⟨oM,oM⟩,_,rfl,by rw[AH];omega,λ_ _=>⟨⟨⟨oM,oM⟩,rfl⟩,Y_,oM,?_⟩⟩;rw[e1];refine⟨⟨oM,oM⟩,_,y7s hb,⟨oM,oM⟩,_,rfl,by rw[o5];omega,λ_ _=>⟨⟨⟨oM,oM⟩,rfl⟩,Y_,oM,?_⟩⟩;rw[e2];exact⟨k+1,pf oM,rfl,oM,Z9,rfl,rfl⟩
def xBj:TM.ok Z_ 77:=gy mixed (dw yJg (dw yGa fk)) 0 i6 (λv=>xJd v) [] func77 xJu
def Jl:KG.ok Z_ 13:=gy (V:=y4r) mixed (dw pC (dw dL fk)) 0 i6 i6 [] func13 λ(p:fj) h=>by
 obtain⟨hc,hs⟩:p.check=0/\p.small:=h;have hcb:=y8 p;unfold y4r Qb ff dx zV ph dI;exact⟨p,oO (iP ⟨rfl,hs,λ_ _=>W_ (λe=>absurd e (by rw[hc];simp)) (λ_=>⟨p,oO (iP ⟨rfl,hs,λ_ _=>⟨⟨oM,oM,oM,oM⟩,(),rfl,rfl,rfl,by rw[HO,OA];rfl,rfl,Y_⟩⟩)⟩)⟩)⟩
def yRz {i:mo} (h:i.ok):i.s.v.length<=1000000/\xZ i.s.v:=⟨by have:=h.1.1;omega,z9t h.1.2.1 (by have:=h.1.2.2;omega) h.1.1.1 h.1.1.2⟩
def yTq:aaa.ok Z_ 69:=gy (V:=xEn) mixed (dw yWg fk) 0 i6 i6 [] func69 λ(i:mo) h=>by
 obtain⟨h,hf⟩:i.ok/\i.m.iO i.n=0:=h;have hs:=yRz h;have hn:=h.1.1.1;unfold xEn Q2 ff dx qN;exact⟨⟨i.s.v,i.m⟩,oO ⟨rfl,⟨by dsimp only;rw[hn];exact hf,hs⟩,λ_ _=>⟨(),nh Y_⟩⟩⟩
def yXm:Au.ok Z_ 144:=y6d fk λl h=>λb hb=>by
 have h:l.length<=1000000:=h;cases b with
 |true=>exact⟨(),hb rfl,trivial⟩
 |false=>exact⟨oM,(),(wy _).symm,trivial⟩
def xEw {M:List gi} {k:Nat} {m:gi} (h:M[k]? =af m):zC (M.map zU) k 0 1=af [D.v (.int .i64 m.seq)]:=jz h (by simp[zU]) rfl
def yMg (v:Vw) (q:Int) (m:gi) (H:List gi):pQ v q (m::H)=if aj.wrap (m.seq-1)<=q then(if aj.wrap (m.seq-1)=q then pQ (ru v m) m.seq H else pQ v q H)else⟨v,q,m::H⟩:=by rw[pQ]
def xEs (i:mo) (h:KH.dp i):y2l i:=by
 obtain⟨n,⟨v,q,H⟩,m0,b0,e⟩:=i;obtain⟨⟨⟨hv,hn⟩,hL,he⟩,hf⟩:((v.length=n/\n<=1000)/\lR e v/\e+H.length<=1000000)/\∀m∈H,m.iO n=0:=h;unfold y2l QO ff zNf dx Wx cA dI;dsimp only;refine⟨⟨v,q,H⟩,iP ⟨rfl,λj=>pQ j.v j.q j.H=pQ v q H/\j.v.length=n/\(∃a,lR a j.v/\a+j.H.length<=1000000)/\(∀m∈j.H,m.iO n=0),λj=>j.H.length,⟨rfl,hv,⟨e,hL,he⟩,hf⟩,?_⟩⟩;rintro⟨w,p,K⟩ ⟨h1,h2,⟨a,h3,h4⟩,h5⟩;dsimp only at h1 h2 h3 h4 h5 ⊢;have ux:(K.map zU).length=K.length:=ib _;have out:∀s:Vs,pQ v q H=s->(mo.mk n ⟨v,q,H⟩ m0 b0 e).F=s:=λs e=>e
 refine zH (λc=> ?_) (λc=> ?_)
 ·cases K with
  |nil=>exact absurd c (by simp)
  |cons m K=>
   rw[yMg]at h1;rw[iG]at h4 ux;have hmf:=h5 m iY;have h5':∀y∈K,y.iO n=0:=λy hy=>h5 y (jj _ hy)
   have hk:(K.map zU).length=K.length:=ib _;refine⟨⟨Z8,oM⟩,m.seq,xEw rfl,zH (λc1=> ?_) (λc1=> ?_)⟩
   ·rw[fh c1]at h1;refine⟨⟨Z8,oM⟩,_,_,_,_,_,_,_,XG rfl,W_ (λc2=> ?_) (λc2=> ?_)⟩
    ·rw[fh (ID.1 c2)]at h1;exact⟨⟨n,⟨w,p,m::K⟩,m,[],a⟩,oO (iP ⟨rfl,⟨⟨⟨⟨h2,hn⟩,h3,by dsimp only;rw[iG];omega⟩,h5⟩,hmf⟩,λ_ _=>⟨⟨Z8,Z9⟩,K.map zU,rfl,oM,λ_ _=>⟨⟨ru w m,m.seq,K⟩,iP ⟨rfl,⟨h1,by dsimp only;rw[yEq];exact h2,⟨a+1,yEv m h3,Z9⟩,h5'⟩,by dsimp only;rw[iG];omega,rfl⟩⟩⟩⟩)⟩
    ·rw[eg (i9 c2)]at h1;exact⟨⟨Z8,oM⟩,K.map zU,rfl,oM,λ_ _=>⟨⟨w,p,K⟩,iP ⟨rfl,⟨h1,h2,⟨a,h3,Z9⟩,h5'⟩,by dsimp only;rw[iG];omega,rfl⟩⟩⟩
   ·rw[eg c1]at h1;rw[out _ h1.symm];exact⟨(),nh Y_⟩
 ·obtain rfl:K=[]:=List.length_eq_zero_iff.1 oM;have h1:(⟨w,p,[]⟩:Vs)=pQ v q H:=h1;rw[out _ h1.symm];exact⟨(),nh Y_⟩
def yHs:KH.ok Z_ 70:=gy mixed (dw yTq (dw yXm fk)) 0 i6 (λi=>xGr i) [] func70 xEs
def y9x {a b:Nat} (h:a+b<=4000000):aj.wrap (aO ak (ak.wrap (aj.wrap ((a:Int)+(b:Int)))) 1)=(((a+b) / 2:Nat):Int):=by
 have w1:aj.wrap ((a:Int)+(b:Int))=(a:Int)+(b:Int):=iw oM;have e:aO .u64 ((a:Int)+(b:Int)) 1=((a:Int)+(b:Int)).fdiv 2:=rfl;rw[w1,Ch X_,e,Int.fdiv_eq_ediv_of_nonneg _ (by decide),iw X_];omega
def xKg (i:KF) (h:TV.dp i):xDw i:=by
 obtain⟨H,n⟩:=i;obtain⟨hs,hl⟩:HD H/\H.length<=1000000:=h;have ux:(H.map zU).length=H.length:=ib _;unfold xDw dx nY Zb sJ dI;dsimp only;refine⟨⟨0,H.length⟩,rfl,by rw[ux],λj=>(j.a<=j.b/\j.b<=H.length)/\(∀k l,H[k]? =af l->k<j.a->l.seq<n)/\(∀k l,H[k]? =af l->j.b<=k->n<=l.seq),λj=>j.b-j.a,⟨⟨ml _,jx _⟩,λk l _ hk=>absurd hk (Nat.not_lt_zero _),λk l hk hle=>by rw[uv hle]at hk;cases hk⟩,?_⟩;rintro⟨a,b⟩ ⟨⟨CU,hb⟩,h1,h2⟩;dsimp only at CU hb h1 h2 ⊢;rw[y9x X_];refine zH (λc=> ?_) (λc=> ?_)
 ·obtain⟨l,hk⟩:=zZ (l:=H) (i:=(a+b) / 2) oM;have up:¬l.seq<n->∀k y,H[k]? =af y->(a+b) / 2<=k->n<=y.seq:=λc1 k y hy hle=>by
   by_cases ck:k=(a+b) / 2
   ·subst ck;rw[hk]at hy;cases hy;omega
   ·have:=z8v hs hk hy oM;omega
  refine⟨Z8,⟨oM,oM⟩,_,_,_,_,_,_,_,XG hk,zH (λc1=>⟨⟨(a+b) / 2+1,b⟩,pf oM,rfl,⟨⟨Z9,hb⟩,λk y hy gr=> ?_,h2⟩,Z9,rfl⟩) (λc1=>zH (λc2=>⟨⟨a,(a+b) / 2⟩,rfl,rfl,⟨⟨Z9,Z9⟩,h1,up c1⟩,Z9,rfl⟩) (λc2=>⟨⟨a,(a+b) / 2⟩,rfl,rfl,⟨⟨Z9,Z9⟩,h1,up c1⟩,Z9,rfl⟩))⟩;dsimp only at gr;by_cases ck:k=(a+b) / 2
  ·subst ck;rw[hk]at hy;cases hy;omega
  ·have:=z8v hs hy hk oM;omega
 ·obtain rfl:a=b:=X_
  have hp:cK H n=a:=ZK hb h1 h2;refine zH (λc1=> ?_) (λc1=>⟨(),by rw[hp],yPc λl hl=> ?_,rfl,Y_⟩)
  ·obtain⟨l,hk⟩:=zZ (l:=H) (i:=a) oM;have hh:=yVb hs hk h1 h2;exact⟨⟨oM,oM⟩,_,_,_,_,_,_,_,XG hk,zH (λc2=>⟨(),by rw[hp],by rw[hh,ju X_];rfl,rfl,Y_⟩) (λc2=>zH (λc3=>⟨(),by rw[hp],by rw[hh,ju X_];rfl,rfl,Y_⟩) (λc3=>⟨(),by rw[hp],by rw[hh,jt X_];rfl,rfl,Y_⟩))⟩
  ·obtain⟨k,hk⟩:=BB.1 hl;have:=(jk.1 hk).1;exact h1 k l hk oM
def y5w:TV.ok Z_ 67:=gy mixed fk 1 i6 (λ_=>xKt) [] func67 xKg
def zZb:vY Z_ 40=af (nA,7,56,#[.int .i64 0,.int .i64 0,.int .i64 0,.int .i64 0,.int .i64 0,.int .i64 0,.bool ac]):=by kernel_rfl
def y1r:Uh.ok Z_ 71:=
 A4 (tS:=40) (tI:=3) (fO:=145) (fR:=146) (z:= #[.int .i64 0,.int .i64 0,.int .i64 0,.int .i64 0,.int .i64 0,.int .i64 0,.bool ac]) mixed func71 rfl (by kernel_rfl) (by kernel_rfl) (by kernel_rfl) (by kernel_rfl) zZb rfl Z8 Z8 (by kernel_rfl) (by kernel_rfl)
  (z1l (tS:=40) (tB:=4) func145 (by kernel_rfl) (by kernel_rfl) (by kernel_rfl) (by kernel_rfl) zZb) (λs sn sk i v vn vk w R=>by kernel_rfl)
def y8j (i:mo) (h:Da.dp i):yRl i:=by
 obtain⟨n,⟨v,q,H⟩,m0,b,e⟩:=i;obtain⟨h0,hs,Aj,O9⟩:mo.ok ⟨n,⟨v,q,H⟩,m0,b,e⟩/\HD H/\b.length<=1000000/\e+H.length<=900000:=h;obtain⟨⟨⟨hv,hn⟩,hL,he⟩,hf⟩:((v.length=n/\n<=1000)/\lR e v/\e+H.length<=1000000)/\∀m∈H,m.iO n=0:=id h0;have ux:(H.map zU).length=H.length:=ib _;have SL:= @yUm b;unfold yRl Qa6 Pk ff dx zHr Pk zGb dx zGw Pk zHi Wx cA nY dI;dsimp only;refine⟨b,rfl,by show b.length<=_;omega,λ_ _=> ?_⟩;have eB:Cl n ⟨v,q,H⟩ b=if(xP b).2≠0 then(⟨v,q,H⟩,(xP b).2)else BD n ⟨v,q,H⟩ (xP b).1:=rfl;generalize xP b=X at SL eB ⊢;obtain⟨m,y⟩:=X;dsimp only at SL eB ⊢;have out:∀(s:Vs) (w:Int),Cl n ⟨v,q,H⟩ b=(s,w)->(mo.mk n ⟨v,q,H⟩ m0 b e).T=s/\(mo.mk n ⟨v,q,H⟩ m0 b e).W=w:=λs w z=>by rw[mo.T,mo.W];dsimp only;rw[z];exact⟨rfl,rfl⟩
 refine W_ (λc=> ?_) (λc=> ?_)
 ·obtain⟨z1,z2⟩:=out ⟨v,q,H⟩ y (by rw[eB,fh (i9 c)]);rw[z1,z2];exact⟨(),tr Y_⟩
 have c:y=0:=i9 c
 rw[eg X_]at eB;obtain⟨_,MQ,_⟩:=SL c;obtain⟨⟨r1,r2⟩,_⟩:=MQ;refine⟨ae,λb=>b=decide (m.seq<1\/m.iO n≠0),zH (λc1=>⟨ae,rfl,(jt (.inl c1)).symm,gj⟩) (λc1=>⟨⟨n,m⟩,oO ⟨rfl,Y_,λ_ _=>⟨_,rfl,?_,gj⟩⟩⟩),?_⟩
 ·dsimp only;rw[CK,ua,bne_iff_ne];exact⟨.inr,λz=>z.resolve_left c1⟩
 rintro _ rfl;refine zH (λc1=> ?_) (λc1=> ?_)
 ·obtain⟨z1,z2⟩:=out ⟨v,q,H⟩ 12 (by rw[eB,BD,fh c1]);rw[z1,z2];exact⟨(),tr Y_⟩
 rw[BD,eg c1]at eB;have c2:1<=m.seq/\m.iO n=0:=by
  by_cases a:m.seq<1
  ·exact absurd (.inl a) c1
  ·by_cases b:m.iO n=0
   ·exact⟨oM,b⟩
   ·exact absurd (.inr b) c1
 refine⟨⟨H,m.seq⟩,rfl,rfl,⟨hs,Z9⟩,λ_ _=>zH (λc3=> ?_) (λc3=>W_ (λc4=> ?_) (λc4=> ?_))⟩
 ·obtain⟨z1,z2⟩:=out ⟨v,q,H⟩ 33 (by rw[eB,fh (.inl c3)]);rw[z1,z2];exact⟨(),tr Y_⟩
 ·obtain⟨z1,z2⟩:=out ⟨v,q,H⟩ 33 (by rw[eB,fh (.inr c4)]);rw[z1,z2];exact⟨(),tr Y_⟩
 rw[eg (by rintro(z|z);exact c3 z;rw[c4]at z;cases z)]at eB;have hwr:aj.wrap (m.seq-1)=m.seq-1:=iw oM;rw[hwr];dsimp only;refine W_ (λc5=> ?_) (λc5=>zH (λc6=> ?_) (λc6=> ?_))
 ·have c5:m.seq-1=q:=ID.1 c5;rw[fh c5]at eB;obtain⟨z1,z2⟩:=out _ _ eB;rw[z1,z2];exact⟨⟨n,⟨v,q,H⟩,m,b,e⟩,oO (iP ⟨rfl,⟨h0,c2.2⟩,λ_ _=>⟨⟨n,⟨ru v m,m.seq,H⟩,m,b,e+1⟩,iP ⟨rfl,⟨⟨⟨by dsimp only;rw[yEq];exact hv,hn⟩,yEv m hL,Z9⟩,hf⟩,λ_ _=>⟨(),tr Y_⟩⟩⟩⟩)⟩
 ·have c5:¬m.seq-1=q:=λz=>by rw[z]at c5;simp at c5
  rw[eg c5,fh V_]at eB;obtain⟨z1,z2⟩:=out _ _ eB;rw[z1,z2];exact⟨(),tr Y_⟩
 ·have c5:¬m.seq-1=q:=λz=>by rw[z]at c5;simp at c5
  rw[eg c5,eg V_]at eB;obtain⟨z1,z2⟩:=out _ _ eB;have xp:=xCz H m.seq;rw[z1,z2];exact⟨Y_,⟨H.map zU,zU m,cK H m.seq⟩,rfl,rfl,rfl,⟨Z9,Z9⟩,λ_ _=>⟨(),iP ⟨rfl,by rw[jh,jg,Eh,FK],Y_⟩⟩⟩
def Hh:Da.ok Z_ 18:=gy mixed (dw yTp (dw Y0 (dw y5w (dw yTq (dw yHs (dw y1r fk)))))) 0 (λ_=>[(16,bj 28)]) i6 [] func18 y8j
def Hi:Gv.ok Z_ 19:=gy (V:=yOd) mixed (dw y8e (dw yHs fk)) 0 i6 i6 [] func19 λ(i:mo) h=>by
 obtain⟨n,⟨v,q,H⟩,m0,b,e⟩:=i;obtain⟨h0,Yv,Aj⟩:mo.ok ⟨n,⟨v,q,H⟩,m0,b,e⟩/\lR e (bZ b)/\b.length<=1099511627776:=h;obtain⟨⟨⟨hv,hn⟩,hL,he⟩,hf⟩:((v.length=n/\n<=1000)/\lR e v/\e+H.length<=1000000)/\∀m∈H,m.iO n=0:=h0;have ux:((bZ b).map zA).length=(bZ b).length:=ib _;unfold yOd ff dx zHo dx eX cA;dsimp only;have out:∀(s:Vs) (w:Int),HQ n ⟨v,q,H⟩ b=(s,w)->(mo.mk n ⟨v,q,H⟩ m0 b e).S=s/\(mo.mk n ⟨v,q,H⟩ m0 b e).Z=w:=λs w z=>by rw[mo.S,mo.Z];dsimp only;rw[z];exact⟨rfl,rfl⟩
 refine⟨b,rfl,Aj,λ_ _=> ?_⟩;rw[ux];refine W_ (λc=> ?_) (λc=>W_ (λc2=> ?_) (λc2=>zH (λc3=> ?_) (λc3=>zH (λc4=> ?_) (λc4=> ?_))))
 ·obtain⟨z1,z2⟩:=out ⟨v,q,H⟩ _ (by rw[HQ,fh (i9 c)]);rw[z1,z2];exact⟨(),tr Y_⟩
 all_goals have c:¬tY b≠0:=i9 c
 ·obtain⟨z1,z2⟩:=out ⟨v,q,H⟩ _ (by rw[HQ,eg c,fh (.inl (i9 c2))]);rw[z1,z2];exact⟨(),tr Y_⟩
 ·obtain⟨z1,z2⟩:=out ⟨v,q,H⟩ _ (by rw[HQ,eg c,fh (.inr c3)]);rw[z1,z2];exact⟨(),tr Y_⟩
 all_goals have c2:((bZ b).length:Int)=(n:Int):=i9 c2
 all_goals have c5:¬(((bZ b).length:Int)≠(n:Int)\/pR b<0):=λz=>z.elim (λz=>z c2) c3
 ·obtain⟨z1,z2⟩:=out ⟨v,q,H⟩ _ (by rw[HQ,eg c,eg c5,fh c4]);rw[z1,z2];exact⟨(),tr Y_⟩
 ·obtain⟨z1,z2⟩:=out _ _ (by rw[HQ,eg c,eg c5,eg c4]);rw[z1,z2];exact⟨⟨n,⟨bZ b,pR b,H⟩,m0,b,e⟩,iP ⟨rfl,⟨⟨⟨Z9,hn⟩,Yv,he⟩,hf⟩,λ_ _=>⟨(),tr Y_⟩⟩⟩
def Hg:Gu.ok Z_ 25:=gy (V:=yQe) mixed (dw xBj fk) 0 i6 i6 [] func25 λ(i:mo) h=>by
 have hs:=yRz h;unfold yQe ff dx rV qN;exact⟨i.s.v,rfl,hs,λ_ _=>⟨(),tr Y_⟩⟩
def yXg (p:fj) (n:Nat) (s:Int):(((aa p.count ([]:List zK)).map qC).getD n kg).has s=ac:=by
 have e:((aa p.count ([]:List zK)).map qC).getD n kg=kg\/((aa p.count ([]:List zK)).map qC).getD n kg=qC []:=by
  rw[OA,mz,RQ];split
  ·exact .inr rfl
  ·exact .inl rfl
 rcases e with h|h<;>rw[h,kf.has]<;>split<;>rfl
def z1g (p:fj) (a b:Cw) (less:Bool):xy ((aa p.count ([]:List zK)).map qC) a b less=[]:=by
 rw[xy];rw[yXg];rfl
def yCr (p:fj) (n s:Int):xR ⟨p,(aa p.count ([]:List zK)).map qC,n⟩ s=[]:=by
 have h:kY ⟨p,(aa p.count ([]:List zK)).map qC,n⟩ s=[]:=by
  rw[kY];split
  ·rfl
  ·split
   ·rw[yX,z1g];rfl
   ·rw[jV,wL,List.flatMap_eq_nil_iff.2 λk _=>z1g p _ _ _,List.flatMap_eq_nil_iff.2 λk _=>z1g p _ _ _];rfl
 rw[xR,h];rfl
def z6y (p:fj):yH p (aa p.count [])=HO p.count:=by
 have h:∀(n:Nat) (s:Int),cY p (aa p.count []) n s=⟨[],BG,ac⟩:=λn s=>by
  have e:(aa p.count ([]:List zK)).getD n []=[]:=by
   rw[mz,RQ];split<;>rfl
  rw[cY,e,yCr];rfl
 rw[yH,HO];have:(λn:Nat=>(cY p (aa p.count []) n 1,cY p (aa p.count []) n 2))=λ_=>(⟨[],BG,ac⟩,⟨[],BG,ac⟩):=by
  funext n;rw[h,h]
 rw[this,List.map_const',List.length_range]
def yTa {n:Nat} {m:VM} (h:CG n m) (hn:n<=256) (q:Int):(EY q m).form=0:=by
 have h1:=h.inst;have h2:=h.side;rw[gi.form];refine eg ?_;show ¬((m.inst:Int)<0\/255<(m.inst:Int)\/(m.side≠1/\m.side≠2));omega
def xBh {p:fj} {A B:Vw} (hA:xg p A) (hB:xg p B):tg A (xN 0 A B) (xN 0 A B).length=B:=by
 rw[U3];exact yAg (hA.len.trans hB.len.symm) (lZ hA.r) (lZ hB.r) (List.Perm.refl _)
def y1f {p:fj} {A B:Vw} (hA:xg p A) (hB:xg p B):∀m∈xN 0 A B,CG p.count m:=λm hm=>by
 have:=yIr 0 A B (y3s hA) (y3s hB) m hm;rwa [nt,hA.len]at this
def yXb (v:Vw) (n:Int):(xY v n).length<=4000000:=by
 by_cases h:wE v
 ·have h1:=zOn h v.length;rw[ng (jx _)]at h1;rw[xY,fh h,kP];simp only[ix,xA,iG,uj];omega
 ·rw[xY,eg h];simp
def yFv (m:gi):m.enc.length<=35:=by
 rw[gi.enc];split
 ·exact ml _
 ·rw[z4a];decide
def y8o {p:fj} {c:Vw} (h:xg p c) {L:List VM} {k:Nat} (hk:k<=L.length):lR (255+k) (tg c L k)/\(tg c L k).length=p.count:=by
 obtain⟨_,h2,h3⟩:=z9o (yQk (lZ h.r)) (yBm h) L k hk;exact⟨h2,h3.trans h.len⟩
def vm0:VM:=⟨0,0,BG,ac⟩
def y6 (L:List VM) (j:Nat):gi:=EY j (L.getD (j-1) vm0)
def yb (L:List VM) (S:Nat->Bool) (k m:Nat):List gi:=((ab k m).filter S).map λ(j:Nat)=>y6 L j
def Lz {L:List VM} {S:Nat->Bool} {k m:Nat} {l:gi} (h:l∈yb L S k m):∃j:Nat,S j=ae/\(k<=j/\j<k+m)/\l=y6 L j:=by
 obtain⟨j,hj,rfl⟩:=nn.1 h;obtain⟨h1,h2⟩:=vi.1 hj;exact⟨j,h2,Oz.1 h1,rfl⟩
def xAd (L:List VM) (S:Nat->Bool) (k m:Nat):HD (yb L S k m):=by
 refine List.pairwise_map.2 ?_;refine((List.pairwise_lt_range' (s:=k) (n:=m)).filter S).imp ?_;intro a b h;show(a:Int)<(b:Int);omega
def yOa (L:List VM) (S:Nat->Bool) (k m:Nat):(yb L S k m).length<=m:=by
 rw[yb,ib];have:=HK S (ab k m);rwa [List.length_range']at this
def y1m (L:List VM) (S:Nat->Bool) (k m:Nat):yb L S k (m+1)=(if S k=ae then[y6 L k]else[])++yb L S (k+1) m:=by
 rw[yb,List.range'_succ,Dt];split<;>rfl
def z3n (L:List VM) (S:Nat->Bool) (k a b:Nat):yb L S k (a+1+b)=yb L S k a++((if S (k+a)=ae then[y6 L (k+a)]else[])++yb L S (k+a+1) b):=by
 have e:ab k (a+1+b)=ab k a++((k+a)::ab (k+a+1) b):=by
  rw[Dq,<- List.range'_append_1,FI 1 b,List.range'_succ]
 rw[yb,e,CL,jh,Dt];split<;>rfl
def XJ {L:List VM} {S T:Nat->Bool} {k m:Nat} (h:∀j,k<=j->j<k+m->S j=T j):yb L S k m=yb L T k m:=by
 rw[yb,yb];congr 1;refine List.filter_congr λj hj=> ?_
 have:=Oz.1 hj;exact h j this.1 this.2
structure xi (c:Vw) (L:List VM) (s:Vs) (S:Nat->Bool) (n:Nat):Prop where
 len:n<=L.length
 v:s.v=tg c L n
 q:s.q=n
 hi:S (n+1)=ac
 out:∀j,L.length<j->S j=ac
 H:s.H=yb L S (n+2) (L.length-(n+1))
def zRa (v:Vw) (q:Int) (m:gi) (H:List gi):pQ v q (m::H)=if aj.wrap (m.seq-1)<=q then(if aj.wrap (m.seq-1)=q then pQ (ru v m) m.seq H else pQ v q H)else⟨v,q,m::H⟩:=by rw[pQ]
def z4c {v:Vw} {n:Nat} {H:List gi} (h:∀m∈H,(n:Int)+2<=m.seq/\m.seq<=1000000):pQ v n H=⟨v,n,H⟩:=by
 cases H with
 |nil=>rfl
 |cons m H=>
  have:=h m iY;rw[zRa,eg];rw[iw X_];omega
def PE {p:fj} {c:Vw} (h:xg p c) {L:List VM} (hL:L.length<=600000) (hm:∀m∈L,CG p.count m) {S:Nat->Bool} (hS:∀j,L.length<j->S j=ac):∀m k n:Nat,1<=k->k+m=L.length+1->k<=n+1->n<=L.length->
 ∃a,(n<=a/\a<=L.length)/\(∀j,n<j->j<=a->S j=ae)/\S (a+1)=ac/\pQ (tg c L n) n (yb L S k m)=⟨tg c L a,a,yb L S (a+2) (L.length-(a+1))⟩
 |0,k,n,h1,h2,h3,h4=>by
  have e:n=L.length:=X_
  have e0:L.length-(n+1)=0:=X_
  refine⟨n,⟨jx _,h4⟩,λj j1 j2=>X_,hS _ oM,?_⟩;rw[e0];rfl
 |m+1,k,n,h1,h2,h3,h4=>by
  rw[y1m];by_cases ck:S k=ae
  ·rw[fh ck,RP,zRa];have hs:(y6 L k).seq=k:=rfl;rw[hs,iw X_,fh X_];by_cases cn:(k:Int)-1=n
   ·rw[fh cn];have Mr:k=n+1:=X_
    subst Mr;obtain⟨x,hx⟩:=zZ (l:=L) (i:=n) oM;have Ff:y6 L (n+1)=EY ((n+1:Nat):Int) x:=by rw[y6,Nat.add_sub_cancel,mz,hx];rfl
    obtain⟨_,_,_,n4⟩:=yFc h hL hm hx ((n+1:Nat):Int);rw[Ff,n4];obtain⟨a,⟨a1,a2⟩,a3,a4,a5⟩:=PE h hL hm hS m (n+1+1) (n+1) oM oM oM oM;refine⟨a,⟨oM,a2⟩,λj j1 j2=> ?_,a4,a5⟩;by_cases cj:j=n+1
    ·rw[cj];exact ck
    ·exact a3 j oM j2
   ·rw[eg cn];exact PE h hL hm hS m (k+1) n oM oM oM h4
  ·rw[eg ck,wy];by_cases ckn:k=n+1
   ·subst ckn;have e1:L.length-(n+1)=m:=X_
    refine⟨n,⟨jx _,h4⟩,λj j1 j2=>X_,i9 ck,?_⟩;rw[e1];refine z4c λy hy=> ?_
    obtain⟨j,_,⟨j1,j2⟩,rfl⟩:=Lz hy;show(n:Int)+2<=(j:Int)/\(j:Int)<=1000000;omega
   ·exact PE h hL hm hS m (k+1) n oM oM oM h4
def xi.new (c:Vw) (L:List VM):xi c L ⟨c,0,[]⟩ (λ_=>ac) 0:=⟨ml _,(y3w c L).symm,rfl,rfl,λ_ _=>rfl,by
 rw[yb,IJ.2 λa _=>by simp];rfl⟩
def xi.had {c:Vw} {L:List VM} {s:Vs} {S:Nat->Bool} {n:Nat} (h:xi c L s S n) {j:Nat} (h1:n+1<j) (h2:j<=L.length):pP s.H j=S j:=by
 rw[h.H,pP,CK,Oy];constructor
 ·rintro⟨l,hl,e⟩;obtain⟨i,i1,_,rfl⟩:=Lz hl;have e:(i:Int)=(j:Int):=su e;have:i=j:=X_
  rw[<- this];exact i1
 ·intro e;refine⟨y6 L j,nn.2 ⟨j,vi.2 ⟨Oz.2 ⟨oM,oM⟩,e⟩,rfl⟩,jt rfl⟩
def xi.take {p:fj} {c:Vw} (hg:xg p c) {L:List VM} (hL:L.length<=4096) (hm:∀m∈L,CG p.count m) {s:Vs} {S:Nat->Bool} {n:Nat} (h:xi c L s S n) {j:Nat} (h1:1<=j) (h2:j<=L.length):
 ∃a,(n<=a/\∀i,n<i->i<=a->(S i||decide (i=j))=ae)/\xi c L (BD p.count s (y6 L j)).1 (λi=>S i||decide (i=j)) a/\((BD p.count s (y6 L j)).2=0\/(BD p.count s (y6 L j)).2=32\/((BD p.count s (y6 L j)).2=33/\(j<=n\/S j=ae))):=by
 obtain⟨x,hx⟩:=zZ (l:=L) (i:=j-1) oM;have Ff:y6 L j=EY (j:Int) x:=by rw[y6,mz,hx];rfl
 have F3:(y6 L j).iO p.count=0:=by rw[Ff];exact z1p (hm x (kx hx)) _
 have hs:(y6 L j).seq=j:=rfl;have yj:∀i,L.length<i->(S i||decide (i=j))=ac:=λi hi=>by rw[h.out i hi,ju X_];rfl
 have h0:¬((y6 L j).seq<1\/(y6 L j).iO p.count≠0):=by rw[hs,F3];rintro(z|z);omega;exact z rfl
 have hT:∀i,i≠j->(S i||decide (i=j))=S i:=λi hi=>by rw[ju hi,Bool.or_false]
 have same:S j=ae->(λi=>S i||decide (i=j))=S:=λc=>by
  funext i;by_cases ci:i=j
  ·rw[ci,c];rfl
  ·exact hT i ci
 by_cases c1:j<=n
 ·have e:BD p.count s (y6 L j)=(s,33):=by rw[BD,eg h0,fh (.inl (by rw[hs,h.q];omega))]
  rw[e];refine⟨n,⟨jx _,λi i1 i2=>X_⟩,⟨h.len,h.v,h.q,?_,yj,?_⟩,.inr (.inr ⟨rfl,.inl c1⟩)⟩
  ·rw[hT _ X_];exact h.hi
  ·rw[h.H];exact XJ λi i1 i2=>(hT i oM).symm
 by_cases c2:j=n+1
 ·have Bl:pP s.H j=ac:=by
   rw[h.H,pP,Mf];intro l hl;obtain⟨i,_,i2,rfl⟩:=Lz hl;have:(y6 L i).seq=i:=rfl;rw[this];simp;omega
  have e:BD p.count s (y6 L j)=(pQ (ru s.v (y6 L j)) j s.H,0):=by
   rw[BD,eg h0,eg (by rw[hs,Bl,h.q];rintro(z|z);omega;cases z),fh (by rw[hs,h.q];omega),hs]
  have HW:L[n]? =af x:=by rw[<- hx];congr 1;omega
  obtain⟨_,_,_,n4⟩:=yFc hg oM hm HW (j:Int);rw[e,h.v,Ff,n4,h.H];have ej:(j:Int)=((n+1:Nat):Int):=X_
  obtain⟨a,⟨a1,a2⟩,a3,a4,a5⟩:=PE hg oM hm h.out (L.length-(n+1)) (n+2) (n+1) oM oM oM oM;rw[ej];dsimp only;rw[a5];refine⟨a,⟨oM,λi i1 i2=> ?_⟩,⟨a2,rfl,rfl,?_,λi hi=>by rw[<- ej]at*;exact yj i hi,?_⟩,.inl rfl⟩
  ·by_cases ci:i=j
   ·rw[jt ci,Bool.or_true]
   ·rw[a3 i X_ i2,Bool.true_or]
  ·rw[ju X_,Bool.or_false];exact a4
  ·exact XJ λi i1 i2=>by rw[ju X_,Bool.or_false]
 have gr:n+1<j:=X_
 have hh:=h.had gr h2;by_cases c3:S j=ae
 ·have e:BD p.count s (y6 L j)=(s,33):=by rw[BD,eg h0,fh (.inr (by rw[hs,hh,c3]))]
  rw[e,same c3];exact⟨n,⟨jx _,λi i1 i2=>X_⟩,h,.inr (.inr ⟨rfl,.inr c3⟩)⟩
 ·have c3:S j=ac:=i9 c3
  have hlen:s.H.length<4096:=by rw[h.H];have:=yOa L S (n+2) (L.length-(n+1));omega
  have e:BD p.count s (y6 L j)=(⟨s.v,s.q,s.H.take (cK s.H j)++y6 L j::s.H.drop (cK s.H j)⟩,32):=by
   rw[BD,eg h0,eg (by rw[hs,hh,c3,h.q];rintro(z|z);omega;cases z),eg (by rw[hs,h.q];omega),eg X_,hs]
  rw[e];refine⟨n,⟨jx _,λi i1 i2=>X_⟩,⟨h.len,h.v,h.q,by rw[hT _ X_];exact h.hi,yj,?_⟩,.inr (.inl rfl)⟩;have em:L.length-(n+1)=(j-(n+2))+1+(L.length-j):=X_
  have ei:n+2+(j-(n+2))=j:=X_
  have e1:=z3n L S (n+2) (j-(n+2)) (L.length-j);have e2:=z3n L (λi=>S i||decide (i=j)) (n+2) (j-(n+2)) (L.length-j);rw[ei]at e1 e2;rw[eg (by rw[c3];exact Bool.false_ne_true),wy]at e1;rw[fh (by rw[jt rfl,Bool.or_true])]at e2;have hA:yb L (λi=>S i||decide (i=j)) (n+2) (j-(n+2))=yb L S (n+2) (j-(n+2)):=XJ λi _ i2=>hT i oM
  have hB:yb L (λi=>S i||decide (i=j)) (j+1) (L.length-j)=yb L S (j+1) (L.length-j):=XJ λi i1 _=>hT i oM
  rw[hA,hB]at e2;have xp:cK s.H j=(yb L S (n+2) (j-(n+2))).length:=by
   rw[h.H,em,e1];refine ZK (by rw[ix];omega) (λk l hk gr=> ?_) (λk l hk hle=> ?_)
   ·rw[Ek gr]at hk;obtain⟨i,_,i2,rfl⟩:=Lz (kx hk);show(i:Int)<(j:Int);omega
   ·rw[Ck hle]at hk;obtain⟨i,_,i2,rfl⟩:=Lz (kx hk);show(j:Int)<=(i:Int);omega
  dsimp only;rw[xp,em,e2,h.H,em,e1,J8,Ow];rfl
def xi.snap {p:fj} {c:Vw} (hg:xg p c) {L:List VM} (hL:L.length<=4096) (hm:∀m∈L,CG p.count m) {s:Vs} {S:Nat->Bool} {n:Nat} (h:xi c L s S n) {k:Nat} (h1:n<=k) (h2:k<=L.length):
 ∃a,k<=a/\xi c L (pQ (tg c L k) k s.H) S a:=by
 by_cases ck:k=n
 ·subst ck;have e:pQ (tg c L k) k s.H=s:=by
   rw[z4c]
   ·obtain⟨v,q,H⟩:=s;have:=h.v;have:=h.q;dsimp only at*
    subst_vars;rfl
   ·intro y hy;rw[h.H]at hy;obtain⟨j,_,⟨j1,j2⟩,rfl⟩:=Lz hy;show(k:Int)+2<=(j:Int)/\(j:Int)<=1000000;omega
  rw[e];exact⟨k,jx _,h⟩
 ·rw[h.H];obtain⟨a,⟨a1,a2⟩,a3,a4,a5⟩:=PE hg oM hm h.out (L.length-(n+1)) (n+2) k oM oM oM h2;rw[a5];exact⟨a,a1,a2,rfl,rfl,a4,h.out,rfl⟩
def xi.all {c:Vw} {L:List VM} {s:Vs} {S:Nat->Bool} {n:Nat} (h:xi c L s S n) (ha:∀j,n<j->j<=L.length->S j=ae):s=⟨tg c L L.length,L.length,[]⟩:=by
 have hn:n=L.length:=by
  have h1:=h.len;rcases vh n L.length with z|z
  ·have:=ha (n+1) oM oM;rw[h.hi]at this;cases this
  ·omega
 obtain⟨v,q,H⟩:=s;have e1:=h.v;have e2:=h.q;have e3:=h.H;dsimp only at e1 e2 e3;have e:L.length-(n+1)=0:=X_
 rw[e]at e3;rw[e1,e2,e3,hn];rfl
def zXk:∀L:List zK,(L.filter λo=>decide (o.side=1)).length+(L.filter λo=>decide (o.side=2)).length<=L.length
 |[]=>jx _
 |o::L=>by
  have ih:=zXk L;rw[Dt,Dt,iG];by_cases a:o.side=1
  ·rw[fh (i9 a),eg (by simp;omega),iG];omega
  ·rw[eg (i9 a)];split
   ·rw[iG];omega
   ·omega
def y0m (L:List zK):(uF L 1).length+(uF L 2).length<=L.length:=by
 have h1:=UY (L.filter λo=>decide (o.side=1));have h2:=UY (L.filter λo=>decide (o.side=2));have h3:=zXk L;rw[uF,uF];omega
def z8j (p:fj) {B:Q_ zK} (h:B.length=p.count):Vw.oP (yH p B)<=vN B:=by
 have h1:∀k,k<=B.length->Vw.oP ((List.range k).map λn=>(cY p B n 1,cY p B n 2))<=vN (B.take k):=by
  intro k
  induction k with
  |zero=>intro _;exact ml _
  |succ k ih=>
   intro hk;have ih:=ih oM;obtain⟨L,hL⟩:=zZ (l:=B) (i:=k) oM;have hd:B.getD k []=L:=by rw[mz,hL];rfl
   have hl:=y0m L;rw[vN]at ih ⊢;rw[IF,jh,Vw.oP,jh,J',qf,hL,AD,jh,J'];rw[Vw.oP]at ih;have e:((([k].map λn=>(cY p B n 1,cY p B n 2)).map λb=>b.1.levels.length+b.2.levels.length).sum)=(uF (B.getD k []) 1).length+(uF (B.getD k []) 2).length:=by simp[cY]
   rw[e,hd];simp only[jg,Bz,qi,List.sum_nil];omega
 have:=h1 p.count oM;rw[ng X_]at this;exact this
def yUy {p:fj} {A B:Q_ zK} (hA:A.length=p.count) (hB:B.length=p.count):(xN 0 (yH p A) (yH p B)).length<=vN A+vN B+42:=by
 have h:=XK (yH p A) (yH p B) p.count (by rw[dO];exact jx _) (by rw[dO];exact jx _);rw[ng (by rw[dO];exact jx _),ng (by rw[dO];exact jx _)]at h;have:=z8j p hA;have:=z8j p hB;have:=y8 p;omega
def VS:∀(fs:List cX) (B:Q_ zK),vN (jE B fs)<=vN B
 |[],B=>jx _
 |f::fs,B=>tz (VS fs (iR B f.id f.dr).1) (yIf B f.id f.dr).1
def yEp (p:fj) (inst:Int) (sd:Bool) (dm:Int):∀(m:Nat) (B:Q_ zK) (q:Int),vN (Dm p inst sd dm m B q).B<=vN B
 |0,B,q=>jx _
 |m+1,B,q=>by
  rw[Dm];split
  ·exact jx _
  cases hs:aI p B inst sd dm q with
  |none=>exact jx _
  |some r=>
   obtain⟨t,B'⟩:=r;refine tz (yEp p inst sd dm m B' (q-t.dr)) ?_;rw[aI]at hs;split at hs
   ·split at hs
    ·cases hs;exact tz (VS _ _) (VS _ _)
    ·cases hs;exact VS _ _
   ·cases hs
def z4w (p:fj) (B:Q_ zK) (U:List Int) (c:ir):vN (b8 p B U c).B<=vN B+1:=by
 have AK:=yEp p c.inst (decide (c.side=2)) c.dm c.dr.toNat B c.dr;rw[tR];dsimp only;split
 ·exact tz (yZb ..) (Nat.succ_le_succ AK)
 ·exact HI AK
def y6t {p:fj} {B:Q_ zK} (h:rz p B) (U:List Int) (c:ir):vN (Ak p B U c).B<=vN B+1:=by
 have ht:∀id q,vN (iR B id q).1<=vN B:=λid q=>(yIf B id q).1
 rw[Ak];split
 ·exact By _
 split
 ·rename_i hk;rw[nC];split
  ·exact By _
  split
  ·exact By _
  split
  ·exact By _
  split
  ·exact By _
  split
  ·exact By _
  exact z4w p B U c
 rename_i hk;split
 ·exact By _
 rename_i hf;generalize z8 B c.id=F at*;obtain⟨fi,o,fb⟩:=F;dsimp only;split
 ·rw[fJ];split
  ·exact By _
  split
  ·exact HI (ht _ _)
  split
  ·exact By _
  have AK:=z4w p (iR B c.id o.dr).1 U ⟨1,c.id,fi,o.side,c.dm,c.dr,0,1,[]⟩;have:=ht c.id o.dr;dsimp only;exact tz AK oM
 split
 ·exact HI (ht _ _)
 ·exact HI (ht _ _)
def yUf {p:fj} {B:Q_ zK} (h:rz p B) (U:List Int) (W:List (Int×Int)) (s:Int) (c:ir):vN (Ls p B U W s c).B<=vN B+1:=by
 rw[Ls];split
 ·exact By _
 ·split
  ·exact By _
  ·exact y6t h U c
def yNz {p:fj} {B:Q_ zK} (h:rz p B) (U:List Int) (W:List (Int×Int)) (s:Int) (b:i4):vN (tQ p B U W s b).B<=vN B+1:=by
 rw[tQ];split
 ·exact By _
 ·split
  ·exact By _
  ·exact yUf h U W s _
def yLk {L M:List VM} {j:Nat} (h1:1<=j) (h:j<=L.length):y6 (L++M) j=y6 L j:=by
 rw[y6,y6,mz,mz,Ek X_]
def y0q (c:Vw) (L M:List VM):tg c (L++M) (L++M).length=tg (tg c L L.length) M M.length:=by
 rw[U3,U3,U3,IG]
def z2p {p:fj} {L:List VM} (hL:L.length<=600000) (hm:∀m∈L,CG p.count m) {j:Nat} (h1:1<=j) (h2:j<=L.length) (s:Vs):Cl p.count s (y6 L j).enc=BD p.count s (y6 L j)/\(y6 L j).form=0/\(y6 L j).iO p.count=0:=by
 obtain⟨x,hx⟩:=zZ (l:=L) (i:=j-1) oM;have Ff:y6 L j=EY (j:Int) x:=by rw[y6,mz,hx];rfl
 have hv:=hm x (kx hx);have hc:=y8 p;have hf:=yTa hv oM (j:Int);obtain⟨f1,f2,f3⟩:=hv.f;have hr:(EY (j:Int) x).raw:=⟨⟨by show(_:Int)<=(j:Int);omega,by show(j:Int)<=(_:Int);omega⟩,f1,f2,f3⟩
 rw[Ff];refine⟨?_,hf,z1p hv _⟩;rw[Cl,yPw hf hr,eg (λz=>z rfl)]
def y2d {a b:Nat} (h:a<=b) {v:Vw} (hv:lR a v):lR b v:=λq hq=>by have:=hv q hq;omega
def xi.dp {p:fj} {c:Vw} (hg:xg p c) {L:List VM} (hL:L.length<=4096) (hm:∀m∈L,CG p.count m) {s:Vs} {S:Nat->Bool} {n:Nat} (h:xi c L s S n) (m:gi) (b:i4):(mo.mk p.count s m b 5000).ok/\HD s.H/\5000+s.H.length<=900000:=by
 obtain⟨h1,h2⟩:=y8o hg (L:=L) (k:=n) h.len;have hc:=y8 p;have hl:=h.len;have hH:s.H.length<=L.length-(n+1):=by rw[h.H];exact yOa _ _ _ _
 refine⟨⟨⟨⟨by rw[h.v];exact h2,Z9⟩,λq hq=> ?_,Z9⟩,λy hy=> ?_⟩,by rw[h.H];exact xAd _ _ _ _,oM⟩
 ·have:=h1 q (by rw[<- h.v];exact hq);dsimp only at*;omega
 ·dsimp only at hy ⊢;rw[h.H]at hy;obtain⟨j,_,⟨j1,j2⟩,rfl⟩:=Lz hy;exact(z2p (p:=p) oM hm oM oM s).2.2
def xi.iR {p:fj} {c:Vw} (hg:xg p c) {L:List VM} (hL:L.length<=4096) (hm:∀m∈L,CG p.count m) {s:Vs} {S:Nat->Bool} {n:Nat} (h:xi c L s S n) {j:Nat} (h1:1<=j) (h2:j<=L.length):
 ∃a,(n<=a/\∀i,n<i->i<=a->(S i||decide (i=j))=ae)/\xi c L (Cl p.count s (y6 L j).enc).1 (λi=>S i||decide (i=j)) a/\((Cl p.count s (y6 L j).enc).2=0\/(Cl p.count s (y6 L j).enc).2=32\/((Cl p.count s (y6 L j).enc).2=33/\(j<=n\/S j=ae))):=by
 rw[(z2p X_ hm h1 h2 s).1];exact h.take hg hL hm h1 h2
def xi.T5 {p:fj} {c:Vw} (hg:xg p c) {L:List VM} (hL:L.length<=4096) (hm:∀m∈L,CG p.count m) {s:Vs} {S:Nat->Bool} {n:Nat} (h:xi c L s S n) {w:Vw} (hw:xg p w) (e:tg c L L.length=w):
 ∃s',HQ p.count s (xY w L.length)=(s',0)/\bZ (xY w L.length)=w/\xi c L s' S L.length:=by
 obtain⟨h1,h2,h3⟩:=yKx hw.f hw.r (seq:=(L.length:Int)) ⟨oM,oM⟩;have hl:=h.len;obtain⟨a,a1,a2⟩:=h.snap hg hL hm (k:=L.length) hl (jx _);have a3:=a2.len;have ea:a=L.length:=X_
 subst ea;refine⟨_,?_,h1,a2⟩;rw[HQ,h1,h2,h3,eg (λz=>z rfl),eg (by rw[hw.len];rintro(z|z);exact z rfl;omega),eg (by rw[h.q];omega),e]
def y5j {L M:List VM} {i:Nat} (h:i<M.length):(jX (L.length:Int) M)[i]? =af (y6 (L++M) (L.length+i+1)):=by
 obtain⟨v,hv⟩:=zZ h;rw[yFz hv,y6,mz,Nat.add_sub_cancel,Ck (Nat.le_add_right _ _),Nat.add_sub_cancel_left,hv];exact congrArg af (congrArg (λn:Int=>EY n v) oM)
def xJq (p:fj):vN (uf p).B=0:=by
 rw[show(uf p).B=aa p.count []from rfl,vN,OA];generalize p.count=n
 induction n with
 |zero=>rfl
 |succ n ih=>rw[Ke,qi,ih];rfl
def I6.len {p:fj} {x x2:Es} {s:Int} {b:i4} {k:Nat} (hB:rz p x.B) (Cr:rz p x2.B) (e:x2=x.ed p s b) (hc:vN x.B<=k) (hk:k<30):vN x2.B<=k+1/\(xN 0 (yH p x.B) (yH p x2.B)).length<=102:=by
 have h1:vN x2.B<=vN x.B+1:=by rw[e];exact yNz hB x.U x.W s b
 have h2:=yUy (p:=p) hB.ok.bl Cr.ok.bl;omega
structure I6 (p:fj) (x:Es) (L:List VM):Prop where
 q:x.q=L.length
 v:tg (HO p.count) L L.length=yH p x.B
 m:∀m∈L,CG p.count m
def I6.new (p:fj):I6 p (uf p) []:=⟨rfl,by rw[show(uf p).B=aa p.count []from rfl,z6y];rfl,λ_ h=>by cases h⟩
def I6.next {p:fj} {x x2:Es} {L:List VM} (h:I6 p x L) (gA:xg p (yH p x.B)) (gB:xg p (yH p x2.B)) (hq:x2.q=x.q+((xN 0 (yH p x.B) (yH p x2.B)).length:Int)):I6 p x2 (L++xN 0 (yH p x.B) (yH p x2.B)):=by
 refine⟨by rw[hq,h.q,ix];omega,?_,λm hm=> ?_⟩
 ·rw[y0q,h.v];exact xBh gA gB
 ·rcases oH.1 hm with z|z
  ·exact h.m m z
  ·exact y1f gA gB m z
def oY (L:List VM) (A:List (Option Nat)):List (Option i4):=A.map (Option.map λj=>(y6 L j).enc)
def JM (T:Nat->Bool) (n:Nat):List (Option Nat):=(ab 1 n).map λj=>if T j=ae then af j else ag
structure tv (n:Nat) (A:List (Option Nat)):Prop where
 len:A.length=n
 p:∃T:Nat->Bool,A.Perm (JM T n)
def yBr (T:Nat->Bool) (n:Nat):JM T (n+1)=JM T n++[if T (n+1)=ae then af (n+1)else ag]:=by
 rw[JM,JM,List.range'_1_concat,jh,FI 1 n];rfl
def yUk {T S:Nat->Bool} {n:Nat} (h:∀j,j<=n->T j=S j):JM T n=JM S n:=by
 refine uk λj hj=> ?_
 have:=Oz.1 hj;rw[h j X_]
def tv.new:tv 0 []:=⟨rfl,λ_=>ac,List.Perm.refl _⟩
def tv.add {n:Nat} {A:List (Option Nat)} (h:tv n A) (b:Bool):tv (n+1) (A++[if b=ae then af (n+1)else ag]):=by
 obtain⟨T,hT⟩:=h.p;refine⟨by rw[ix,h.len];rfl,λj=>if j=n+1 then b else T j,?_⟩;rw[yBr,fh rfl,yUk (S:=T) λj hj=>eg X_];exact hT.append_right _
def tv.aa1 {n:Nat} {A:List (Option Nat)} (h:tv n A):tv (n+1) (A++[af (n+1)]):=h.add ae
def tv.aa2 {n:Nat} {A:List (Option Nat)} (h:tv n A):tv (n+1) (A++[ag]):=h.add ac
def tv.perm {n:Nat} {A B:List (Option Nat)} (h:tv n A) (hp:B.Perm A):tv n B:=by
 obtain⟨T,hT⟩:=h.p;exact⟨hp.length_eq.trans h.len,T,hp.trans hT⟩
def tv.mem {n:Nat} {A:List (Option Nat)} (h:tv n A) {j:Nat} (hj:af j∈A):1<=j/\j<=n:=by
 obtain⟨T,hT⟩:=h.p;obtain⟨i,hi,e⟩:=nn.1 (hT.mem_iff.1 hj);have:=Oz.1 hi;split at e
 ·have:=am e;omega
 ·cases e
def tv.pw {n:Nat} {A:List (Option Nat)} (h:tv n A):A.Pairwise λx y=>∀j,x=af j->y≠af j:=by
 obtain⟨T,hT⟩:=h.p;refine(hT.pairwise_iff ?_).2 ?_
 ·intro x y h j hy hx;exact h j hx hy
 ·refine List.pairwise_map.2 ((List.pairwise_lt_range' (s:=1) (n:=n)).imp ?_);intro a b CU j ha hb;split at ha<;>split at hb<;>first|(cases ha;done)|(cases hb;done)|skip
  have:=am ha;have:=am hb;omega
def tv.one {n:Nat} {A:List (Option Nat)} (h:tv n A) {k j:Nat} (hk:A[k]? =af (af j)):af j∉A.take k:=by
 intro hm;obtain⟨i,hi⟩:=Mi hm;rw[IH]at hi;split at hi
 ·rename_i hik;obtain⟨a1,a2⟩:=jk.1 hi;obtain⟨b1,b2⟩:=jk.1 hk;exact List.pairwise_iff_getElem.1 h.pw i k a1 b1 hik j a2 b2
 ·cases hi
def tv.all {n:Nat} {A:List (Option Nat)} (h:tv n A) (hn:ag∉A) {j:Nat} (h1:1<=j) (h2:j<=n):af j∈A:=by
 obtain⟨T,hT⟩:=h.p;have hj:j∈ab 1 n:=Oz.2 ⟨h1,oM⟩;have hm:(if T j=ae then af j else ag)∈JM T n:=nn.2 ⟨j,hj,rfl⟩;have hm:=hT.mem_iff.2 hm;split at hm
 ·exact hm
 ·exact absurd hm hn
def LG (L:List VM) (A:List (Option Nat)):(oY L A).length=A.length:=ib _
def y1z {L M:List VM} {A:List (Option Nat)} (h:tv L.length A):oY (L++M) A=oY L A:=by
 refine uk λa ha=> ?_
 cases a with
 |none=>rfl
 |some j=>
  obtain⟨h1,h2⟩:=h.mem ha;exact congrArg af (show(y6 (L++M) j).enc=(y6 L j).enc by rw[yLk h1 h2])
def y1x {L:List VM} {A:List (Option Nat)} {k:Nat} {a:Option Nat} (h:A[k]? =af a):(oY L A)[k]? =af (a.map λj=>(y6 L j).enc):=by
 rw[oY,ra,h];rfl
def tv.swap {L:List VM} {A:List (Option Nat)} (h:tv L.length A) {i k:Nat} {a b:Option i4} (ha:(oY L A)[i]? =af a) (hb:(oY L A)[k]? =af b):∃B,tv L.length B/\((oY L A).set i b).set k a=oY L B:=by
 obtain⟨i1,i2⟩:=jk.1 ha;obtain⟨k1,k2⟩:=jk.1 hb;have hi:i<A.length:=by rwa [LG]at i1
 have hk:k<A.length:=by rwa [LG]at k1
 refine⟨(A.set i A[k]).set k A[i],h.perm (List.set_set_perm hi hk),?_⟩;rw[<- i2,<- k2];simp only[oY,List.map_set,List.getElem_map]
def yLp {p:fj} {c:Vw} (hg:xg p c) {L:List VM} (hL:L.length<=4096) (hm:∀m∈L,CG p.count m) {A:List (Option Nat)} (hA:tv L.length A) {k j:Nat} (hj:A[k]? =af (af j))
 {v:Vs} {S:Nat->Bool} {n:Nat} (h:xi c L v S n) (hS:∀i,S i=ae↔af i∈A.take k) (hn:∀i,1<=i->i<=n->S i=ae):
 ∃(S':Nat->Bool) (n':Nat),xi c L (Cl p.count v (y6 L j).enc).1 S' n'/\(∀i,S' i=ae↔af i∈A.take (k+1))/\(∀i,1<=i->i<=n'->S' i=ae)/\((Cl p.count v (y6 L j).enc).2=0\/(Cl p.count v (y6 L j).enc).2=32):=by
 obtain⟨h1,h2⟩:=hA.mem (kx hj);obtain⟨a,⟨a1,a2⟩,a3,a4⟩:=h.iR hg hL hm h1 h2;have Bl:S j≠ae:=λz=>hA.one hj ((hS j).1 z)
 refine⟨_,a,a3,λi=> ?_,λi i1 i2=> ?_,?_⟩
 ·rw[qf,hj,AD,oH,tq,Ma,hS i,decide_eq_true_iff];exact or_congr Iff.rfl ⟨λz=>by rw[z],λz=>am z⟩
 ·by_cases c:i<=n
  ·rw[hn i i1 c,Bool.true_or]
  ·exact a2 i oM i2
 ·rcases a4 with z|z|⟨_,z|z⟩
  ·exact .inl z
  ·exact .inr z
  ·exact absurd (hn j h1 z) Bl
  ·exact absurd z Bl
def yMh {A:List (Option Nat)} {k:Nat} (hj:A[k]? =af ag) (i:Nat):af i∈A.take (k+1)↔af i∈A.take k:=by
 rw[qf,hj,AD,oH,tq];exact⟨λz=>z.elim id (λz=>by cases z),λz=>Or.inl z⟩
def xi.end {c:Vw} {L:List VM} {s:Vs} {S:Nat->Bool} (h:xi c L s S L.length):s=⟨tg c L L.length,L.length,[]⟩:=
 h.all λj h1 h2=>X_
def xHt {lo:List Bool} {k:Nat} {b:Bool} (h:lo[k]? =af b):zC (lo.map Fo) k 0 1=af [D.v (.bool b)]:=jz h (by simp[Fo]) rfl
def Rz {A:List (Option i4)} {k:Nat} {b:i4} (h:A[k]? =af (af b)):zC (A.map ln) k 0 1=af [D.ro 1 (bE b)]:=jz h (by simp[ln]) rfl
def Xc {A:List (Option i4)} {k:Nat} (h:A[k]? =af ag):zC (A.map ln) k 0 1=af [D.v (.slice ag 0 0)]:=jz h (by simp[ln]) rfl
set_option maxHeartbeats 1600000 in
def vto (i:qq) (h:toC.dp i):Vto i:=by
 obtain⟨x0,p,l,lo,rr⟩:=i;obtain⟨⟨hp,MQ,oZ,hlen,aa7⟩,IT,OY⟩:(p=im x0/\x0.raw/\(∀c∈l,c.raw)/\l.length<=9223372036854775807/\lo.length<=9223372036854775807)/\(∀n∈rr,gx n)/\rr.length<=9223372036854775807:=h;have ux:(l.map zy).length=l.length:=ib _;have hc:p.check=0:=by rw[hp];exact rI _
 have hs:p.small:=by rw[hp];exact zPa _
 obtain⟨p1,p2,p3,p4,p5,p6,p7,p8,p9,R8,R7⟩:sb p.code=sb [206,169]/\iE p.dt=iE (qU (kN x0).toNat)/\p.tick=zW x0/\p.low= -20*zW x0/\p.high=100*zW x0/\p.wide=zW x0*(5+zG x0.wide 0 60)/\p.gn=1+zG x0.gn 0 2/\p.top=zG x0.top 0 9/\p.least=1+zG x0.least 0 4/\p.part=zG x0.part 0 100/\iE p.settle=iE (jB (zW x0) (kN x0).toNat):=by
  rw[hp];exact(oO (iP rfl))
 have hpx:∃x,p=im x:=⟨x0,hp⟩
 have Sm:∀(c:ir) (k:Nat),k<=1000000->(xI ⟨p,c,k⟩).right=0:=by rw[hp];exactλc k hk=>yNg hk
 clear hp;have SR:jf p (uf p).B:=jf.new hc hs;unfold Vto QO QS Qa Qb vt BM Qc SZ SY Yz ff dx Qv LJ yQv ff yVi ff yNi ySm QY Qb ff yCo eG YQ zV ph z1v NX z1r N8 Pw yCi QO rC Ql z2m N' Q0 z9g yAi QF Pg yBt QF Pg yAl Qq z9r yCy yDo QY Yz yDj yAu yDl vt rO z8w Qq W4 yUw QO ff dx z9x yAn yCs QF mH yBi Pg Qq z9b Bp vt V4 wO cL cA V0 u7 y7 wW xB pF qN sD cS uD dX cE fK cQ V8 dI;dsimp only;have AK:p.count<=1000:=by have:=y8 p;omega
 have abf:(lo.map Fo).length=lo.length:=ib _;have HX:(iE rr).length=rr.length:=ib _;refine⟨x0,oO (iP ⟨rfl,MQ,λ_ _=>⟨p,p1,p2,p3,p4,p5,p6,p7,p8,p9,R8,R7,⟨hc,hs⟩,λo ho=>⟨p,p1,p2,p3,p4,p5,p6,p7,p8,p9,R8,R7,⟨hc,hs⟩,λ_ _=> ?_⟩⟩⟩)⟩;have g0:xg p (HO p.count):=by
  have:=JQ (ho.s.wf SR);rwa [z6y]at this
 refine⟨⟨uf p,o,⟨[],0⟩,[],0⟩,iB (nu (iP ⟨rfl,p1,p3,p4,p5,p6,p7,p8,p9,R8,by rw[p2],by rw[R7],rfl,λj=>(j.k<=l.length/\j.k<=30)/\(j.o.ga p j.x.B j.x.U/\jf p j.x.B)/\(0<=j.x.q/\j.x.q<=202000000*(j.k:Int))/\(j.x.R.length<=j.k/\j.d.b.length<=107*j.k)/\vN j.x.B<=j.k/\∃(L:List VM) (A:List (Option Nat)),I6 p j.x L/\L.length<=102*j.k/\tv L.length A/\j.h=oY L A,λj=>30-j.k,⟨⟨ml _,ml _⟩,⟨ho,SR⟩,⟨yy _,yy _⟩,⟨jx _,jx _⟩,Nat.le_of_eq (xJq p),[],[],I6.new p,jx _,tv.new,rfl⟩,?_⟩))⟩;clear ho;rintro⟨x,o,d,hh,k⟩ ⟨⟨hk,aaJ⟩,⟨hM,hB⟩,⟨xb,uo⟩,⟨hR,hd⟩,hct,L,A,hL,hLl,hA,Kt⟩;dsimp only at hk aaJ hM hB xb uo hR hd hct hL hLl hA Kt ⊢;subst Kt;have Gf:L.length<=4096:=X_
 refine⟨ae,λb=>b=decide (k<l.length/\k<30),zH (λc=>⟨_,rfl,decide_eq_decide.2 ⟨λx=>⟨oM,oM⟩,λx=>X_⟩,gj⟩) (λc=>⟨_,rfl,(ju oM).symm,gj⟩),?_⟩;rintro _ rfl;refine zH (λc=> ?_) (λc=> ?_)
 ·obtain⟨c1,c2⟩:=c;obtain⟨c,hcm⟩:=zZ c1;have hcr:=oZ c (kx hcm);have hr:=Sm c k oM;have Aj:(xI ⟨p,c,k⟩).enc.length<=100:=yEj hr (zIb _);have h0:=yAq (s:=0) (c:=xI ⟨p,c,k⟩) oM hr;refine⟨⟨x,o,d,[]⟩,iB (iB ⟨rfl,λj=>BQ p x d 0 (xI ⟨p,c,k⟩).enc ⟨j.x,j.o,j.d,(x.X p 0 (xI ⟨p,c,k⟩).enc).O,j.N⟩,⟨⟨oM,oM⟩,_,_,_,_,_,_,_,_,_,xJl hcm,⟨p,c,k⟩,rfl,rfl,rfl,rfl,rfl,rfl,rfl,rfl,rfl,rfl,rfl,rfl,rfl,rfl,rfl,rfl,rfl,rfl,rfl,rfl,rfl,⟨hpx,hcr,Z9,Z9⟩,λ_ _=>⟨⟨o,x,p,d,0,(xI ⟨p,c,k⟩).enc⟩,iB (oO (iP ⟨rfl,⟨⟨hM,hB⟩,Z9,⟨Z9,Z9⟩,⟨xb,Z9⟩,Z9,Z9⟩,λo9 hb=>absurd h0 hb.1,λo9 hg=>⟨⟨_,o9,_,_⟩,rfl,rfl,rfl,rfl,rfl,rfl,rfl,rfl,rfl,rfl,rfl,rfl,rfl,rfl,rfl,rfl,rfl,rfl,BQ.wm hM hB Aj h0 hg.2,gj⟩⟩))⟩⟩,?_⟩)⟩;rintro⟨x2,o2,d2,N⟩ Ig;obtain⟨⟨Mz,Cr,hq3,hq4,Pc,AJ,_,_⟩,_⟩:=id Ig;obtain⟨ex,_,_,eN⟩:=Ig.Ja h0;dsimp only at Mz Cr hq3 hq4 Pc AJ ex eN ⊢;clear Ig;have wA:=hM.s.wf hB;have wB:=Mz.s.wf Cr;have gA:=JQ wA;have gB:=JQ wB;obtain⟨abh,hMl⟩:=I6.len wA wB ex hct c2;have eM:x.M p 0 (xI ⟨p,c,k⟩).enc=xN 0 (yH p x.B) (yH p x2.B):=by rw[ex];rfl
  have Yv:=hL.next gA gB (by rw[<- eM,ex];rfl);rw[eM,hL.q]at eN;generalize xN 0 (yH p x.B) (yH p x2.B)=M at eN Yv hMl;have hNl:N.length=M.length:=by rw[eN,yHd]
  have abe:(N.map zU).length=N.length:=ib _;clear eM ex;have aaT:(L++M).length=L.length+M.length:=ix;have Yu:(L++M).length<=4096:=X_
  refine⟨⟨oY L A,N,0⟩,rfl,rfl,rfl,λj=>j.N=N/\j.k<=N.length/\∃A,tv (L.length+j.k) A/\j.h=oY (L++M) A,λj=>N.length-j.k,⟨rfl,ml _,A,hA,(y1z hA).symm⟩,?_⟩;clear hA A;rintro⟨hh,N2,i⟩ ⟨hN2,hi,A,hA,Kt⟩;dsimp only at hN2 hi hA Kt ⊢;subst N2 hh;have oT:((oY (L++M) A).map ln).length=L.length+i:=by rw[ib,LG,hA.len]
  refine zH (λci=> ?_) (λci=> ?_)
  ·have hy:N[i]? =af (y6 (L++M) (L.length+i+1)):=by rw[eN];exact y5j oM
   have TC:=yFv (y6 (L++M) (L.length+i+1));refine⟨⟨oM,oM⟩,_,_,_,_,_,_,_,XG hy,y6 (L++M) (L.length+i+1),rfl,rfl,rfl,rfl,rfl,rfl,rfl,Y_,λ_ _=> ?_⟩;refine⟨ae,λ_=>True,?_,?_⟩
   ·refine zH (λca=>⟨_,rfl,Y_,gj⟩) (λca=> ?_);have abg:0<lo.length:=X_
    have ht:((((oY (L++M) A).map ln).length:Nat):Int).tmod (((lo.map Fo).length:Nat):Int)=(((((oY (L++M) A).map ln).length % (lo.map Fo).length:Nat)):Int):=rfl;have gr:=Nat.mod_lt ((oY (L++M) A).map ln).length (y:=(lo.map Fo).length) oM;rw[ht];obtain⟨b,hb⟩:=zZ (l:=lo) (i:=((oY (L++M) A).map ln).length % (lo.map Fo).length) oM;exact⟨rfl,oM,⟨oM,oM⟩,b,xHt hb,_,rfl,Y_,gj⟩
   rintro b _;refine W_ (λ_=>⟨oM,?_⟩) (λ_=>⟨oM,?_⟩)
   ·exact⟨⟨oY (L++M) (A++[af (L.length+i+1)]),N,i+1⟩,pf oM,by rw[oY,jh,jh];rfl,rfl,⟨rfl,Z9,_,hA.aa1,rfl⟩,Z9,gj⟩
   ·exact⟨⟨oY (L++M) (A++[ag]),N,i+1⟩,pf oM,by rw[oY,jh,jh];rfl,rfl,⟨rfl,Z9,_,hA.aa2,rfl⟩,Z9,gj⟩
  obtain rfl:i=N.length:=X_
  rw[hNl,<- aaT]at hA;exact⟨⟨x2,o2,d2,oY (L++M) A,k+1⟩,pf oM,iB (iB (iB (nh ⟨rfl,⟨⟨Z9,Z9⟩,⟨Mz,Cr⟩,⟨Z9,Z9⟩,⟨Z9,Z9⟩,Z9,L++M,A,Yv,Z9,hA,rfl⟩,Z9,gj⟩)))⟩
 have gB:=JQ (hM.s.wf hB);have hlA:∀{A:List (Option Nat)},tv L.length A->((oY L A).map ln).length=L.length:=λh=>by rw[ib,LG,h.len]
 refine⟨⟨oY L A,0⟩,rfl,rfl,λj=>j.k<=L.length/\∃A,tv L.length A/\j.h=oY L A,λj=>L.length-j.k,⟨ml _,A,hA,rfl⟩,?_⟩;clear hA A;rintro⟨hh,i⟩ ⟨hi,A,hA,Kt⟩;dsimp only at hi hA Kt ⊢;subst hh;have oT:=hlA hA;refine⟨ae,λb=>b=decide (i<rr.length/\i<L.length),zH (λc=>⟨_,rfl,decide_eq_decide.2 ⟨λx=>⟨oM,oM⟩,λx=>X_⟩,gj⟩) (λc=>⟨_,rfl,(ju oM).symm,gj⟩),?_⟩;rintro _ rfl;refine zH (λc=> ?_) (λc=> ?_)
 ·obtain⟨c1,c2⟩:=c;obtain⟨n,hn⟩:=zZ c1;have hn9:=IT n (kx hn);have Yb:aj.wrap ((((oY L A).map ln).length:Int)-1)=(L.length:Int)-1:=by rw[oT,iw X_]
  refine⟨⟨oM,oM⟩,n,rq hn,⟨n,0,(L.length:Int)-1⟩,rfl,rfl,Yb.symm,⟨hn9,Z9,Z9,Z9⟩,λ_ _=> ?_⟩;have hw:=y2c (n:=n) (lo:=0) (hi:=(L.length:Int)-1) oM;dsimp only at hw ⊢;generalize zG n 0 ((L.length:Int)-1)=w at hw ⊢;obtain⟨a,ha⟩:=zZ (l:=oY L A) (i:=i) (by rw[LG,hA.len];exact c2);obtain⟨b,hb⟩:=zZ (l:=oY L A) (i:=w.toNat) (by rw[LG,hA.len];omega);obtain⟨B,I0,hB4⟩:=hA.swap ha hb;have aaG:(oY L A).length=L.length:=by rw[LG,hA.len]
  have e1:zJ ((oY L A).map ln) (i:Int).toNat 0 (ln b)=((oY L A).set i b).map ln:=yL (x:=a) ha (by cases a<;>cases b<;>rfl);have e2:zJ (zJ ((oY L A).map ln) (i:Int).toNat 0 (ln b)) w.toNat 0 (ln a)=(oY L B).map ln:=by
   obtain⟨x,hx⟩:=zZ (l:=(oY L A).set i b) (i:=w.toNat) (by rw[qj];omega);rw[e1,<- hB4];exact yL hx (by cases x<;>cases a<;>rfl)
  have l0:(i:Int).toNat<((oY L A).map ln).length:=X_
  have l3:(zJ ((oY L A).map ln) (i:Int).toNat 0 (ln b)).length=L.length:=by rw[e1,ib,qj,aaG]
  have l1:w<((zJ ((oY L A).map ln) (i:Int).toNat 0 (ln b)).length:Int):=by rw[l3];omega
  have l2:w.toNat<(zJ ((oY L A).map ln) (i:Int).toNat 0 (ln b)).length:=by rw[l3];omega
  clear l3;refine⟨⟨hw.1,oM⟩,?_⟩;cases b with
  |none=>
   refine .inl ⟨Xc hb,⟨oM,oM⟩,?_⟩;cases a with
   |none=>exact .inl ⟨Xc ha,⟨⟨oM,oM⟩,l0,⟨hw.1,l1⟩,l2,⟨oY L B,i+1⟩,pf oM,e2.symm,⟨Z9,B,I0,rfl⟩,Z9,gj⟩⟩
   |some a=>exact .inr ⟨bE a,Rz ha,⟨⟨oM,oM⟩,l0,⟨hw.1,l1⟩,l2,⟨oY L B,i+1⟩,pf oM,e2.symm,⟨Z9,B,I0,rfl⟩,Z9,gj⟩⟩
  |some b=>
   refine .inr ⟨bE b,Rz hb,⟨oM,oM⟩,?_⟩;cases a with
   |none=>exact .inl ⟨Xc ha,⟨⟨oM,oM⟩,l0,⟨hw.1,l1⟩,l2,⟨oY L B,i+1⟩,pf oM,e2.symm,⟨Z9,B,I0,rfl⟩,Z9,gj⟩⟩
   |some a=>exact .inr ⟨bE a,Rz ha,⟨⟨oM,oM⟩,l0,⟨hw.1,l1⟩,l2,⟨oY L B,i+1⟩,pf oM,e2.symm,⟨Z9,B,I0,rfl⟩,Z9,gj⟩⟩
 clear c hi i;refine⟨⟨⟨HO p.count,0,[]⟩,oY L A,ac,0⟩,nu ⟨rfl,λj=>j.h=oY L A/\j.k<=L.length/\(j.g=ae↔ag∈A.take j.k)/\∃(S:Nat->Bool) (n:Nat),xi (HO p.count) L j.v S n/\(∀i,S i=ae↔af i∈A.take j.k)/\∀i,1<=i->i<=n->S i=ae,λj=>L.length-j.k,⟨rfl,ml _,by simp,_,0,xi.new _ _,λi=>by simp,λi i1 i2=>X_⟩,?_⟩⟩;rintro⟨vb,hh,g,i⟩ ⟨Kt,hi,hg,S,n,hT,hS,hn⟩;dsimp only at Kt hi hg hT hS hn ⊢;subst hh;refine zH (λci=> ?_) (λci=> ?_)
 ·obtain⟨a,ha⟩:=zZ (l:=A) (i:=i) (by rw[hA.len];omega);have Mw:=y1x (L:=L) ha;cases a with
  |none=>
   refine⟨⟨oM,oM⟩,.inl ⟨Xc Mw,⟨⟨vb,oY L A,ae,i+1⟩,rfl,pf oM,nh ⟨rfl,⟨rfl,Z9,iff_of_true rfl (by rw[qf,ha];simp),S,n,hT,λj=>(hS j).trans (yMh ha j).symm,hn⟩,Z9,gj⟩⟩⟩⟩
  |some j=>
   obtain⟨j1,j2⟩:=hA.mem (kx ha);obtain⟨S2,n2,t1,t2,t3,t4⟩:=yLp g0 Gf hL.m hA ha hT hS hn;obtain⟨CR,IP,hv3⟩:=hT.dp g0 Gf hL.m EN (y6 L j).enc;have TC:=yFv (y6 L j);have hgj:g=ae↔ag∈A.take (i+1):=by
    rw[qf,ha];simpa using hg
   obtain⟨BJ,hfo,_⟩:=z2p (p:=p) (L:=L) oM hL.m (j:=j) oM oM vb;have jy:bE (y6 L j).enc≠[]:=by
    rw[gi.enc,eg (λz=>z hfo),bE];exactλz=>absurd (congrArg List.length z) (by rw[ib,z4a];decide)
   refine⟨⟨oM,oM⟩,.inr ⟨bE (y6 L j).enc,Rz Mw,λb hb=> ?_⟩⟩;refine W_ (λc=>absurd (hb c) jy) (λ_=> ?_);refine⟨⟨oM,oM⟩,.inr ⟨bE (y6 L j).enc,Rz Mw,?_⟩⟩;refine⟨⟨p.count,vb,EN,(y6 L j).enc,5000⟩,nh ⟨rfl,⟨CR,IP,Z9,hv3⟩,λ_ _=> ?_⟩⟩;have hW:(mo.mk p.count vb EN (y6 L j).enc 5000).W=(Cl p.count vb (y6 L j).enc).2:=rfl;rw[hW];refine W_ (λc=>W_ (λc2=> ?_) (λ_=>⟨⟨(Cl p.count vb (y6 L j).enc).1,oY L A,g,i+1⟩,rfl,pf oM,nh ⟨rfl,⟨rfl,Z9,hgj,S2,n2,t1,t2,t3⟩,Z9,gj⟩⟩)) (λ_=>⟨⟨(Cl p.count vb (y6 L j).enc).1,oY L A,g,i+1⟩,rfl,pf oM,nh ⟨rfl,⟨rfl,Z9,hgj,S2,n2,t1,t2,t3⟩,Z9,gj⟩⟩);rcases t4 with t|t
   ·rw[t]at c;exact absurd c Z8
   ·rw[t]at c2;exact absurd c2 Z8
 obtain rfl:i=L.length:=X_
 obtain⟨CR,-,-⟩:=hT.dp g0 Gf hL.m EN [];have qw:=gB.s;refine⟨yH p x.B,λv=>v=yH p x.B,?_,?_⟩
 ·refine⟨⟨⟨⟨o,x.W⟩,p,x.B,x.U⟩,rfl,⟨hM,hB⟩,λ_ _=>⟨gj,⟨⟨⟨o,x.W⟩,p,x.B,x.U,0⟩,rfl,⟨hM,hB⟩,λ_ _=>⟨gj,⟨o,rfl,hM.s.small hB,λ_ _=>⟨gj,?_,gj,?_⟩⟩,gj,?_⟩⟩,gj,?_⟩⟩,gj,?_⟩
  all_goals repeat' first
   |refine⟨⟨⟨o,x.W⟩,p,x.B,x.U⟩,rfl,⟨hM,hB⟩,λ_ _=> ?_⟩
   |refine⟨⟨⟨o,x.W⟩,p,x.B,x.U,0⟩,rfl,⟨hM,hB⟩,λ_ _=> ?_⟩
   |refine⟨o,rfl,hM.s.small hB,λ_ _=> ?_⟩
   |refine⟨⟨o.s,p,x.B⟩,iB (iP ⟨rfl,⟨hM.s,hB⟩,λ_ _=> ?_⟩)⟩
   |exact⟨yH p x.B,rfl,rfl,gj⟩
   |refine⟨gj,?_⟩
   |constructor
 rintro _ rfl;refine⟨ac,λb=>b=ac,?_,?_⟩
 ·cases g with
  |true=>exact W_ (λc=>absurd c Z8) (λ_=>⟨ac,rfl,rfl,gj⟩)
  |false=>
   have Bl:ag∉A:=λz=>absurd (hg.2 (by rw[<- hA.len,zf];exact z)) Z8
   obtain rfl:vb=⟨yH p x.B,x.q,[]⟩:=by
    rw[hT.all λj j1 j2=>(hS j).2 (by rw[<- hA.len,zf];exact hA.all Bl X_ j2),hL.v,hL.q]
   exact W_ (λ_=>W_ (λc=>absurd c (by simp)) (λ_=>W_ (λc=>absurd c (by simp)) (λ_=>⟨⟨p.count,⟨yH p x.B,x.q,[]⟩,EN,[],5000⟩,iP ⟨rfl,CR,λ_ _=>⟨gj,⟨yH p x.B,yH p x.B⟩,rfl,rfl,⟨qw,qw⟩,λ_ _=>⟨ac,by simp[Fw],rfl,gj⟩⟩⟩⟩))) (λc=>absurd c Z8)
 rintro _ rfl;refine W_ (λc=>absurd c Z8) (λ_=> ?_);have hq5:=hL.q;obtain⟨s',s1,s2,s3⟩:=hT.T5 g0 Gf hL.m gB hL.v;have TC:=yXb (yH p x.B) x.q;rw[<- hq5]at s1 s2;have out:∀e:Nat,(mo.mk p.count vb EN (xY (yH p x.B) x.q) e).S=s'/\(mo.mk p.count vb EN (xY (yH p x.B) x.q) e).Z=0:=λe=>by
  rw[mo.S,mo.Z];dsimp only;rw[s1];exact⟨rfl,rfl⟩
 obtain⟨e1,e2⟩:=out 5000;obtain rfl:s'=⟨yH p x.B,x.q,[]⟩:=by rw[s3.end,hL.v,hL.q]
 refine⟨⟨p,yH p x.B,x.q,[]⟩,oO (iP ⟨rfl,gB.s,λ_ _=>⟨⟨p.count,vb,EN,xY (yH p x.B) x.q,5000⟩,nh ⟨rfl,⟨CR,by dsimp only;rw[s2];exact y2d Z8 (yBm gB),Z9⟩,λ_ _=> ?_⟩⟩⟩)⟩;rw[e1,e2];exact W_ (λ_=>W_ (λ_=>W_ (λ_=>⟨⟨p.count,⟨yH p x.B,x.q,[]⟩,EN,[],5000⟩,iP ⟨rfl,(s3.dp g0 Gf hL.m EN []).1,λ_ _=>⟨gj,⟨yH p x.B,yH p x.B⟩,rfl,rfl,⟨qw,qw⟩,λ_ _=>W_ (λ_=>⟨cU 2,rfl,λ_ _=>⟨(),rfl,Y_⟩⟩) (λc=>absurd c (by simp[Fw]))⟩⟩⟩) (λc=>absurd c (by simp))) (λc=>absurd c (by simp))) (λc=>absurd c Z8)
end Sx
