/- Texts of ours. No condition. -/
import Derived.Laws.AppendOwn
import Derived.Lib.AppendZerosOnto
import Derived.Lib.Overlaps
import Derived.Test.YtfmobncdogfbmaaGreatR4
set_option linter.all false
open List renaming map->aa,take->ab,drop->ac,range->ae,drop_length->af
open Go.IntKind renaming i64->ag
open Sx.fq renaming rk->aj,own->ak,kr->am,cells->ao,km->ap,map->aq
open Bool renaming true->ar,false->au
open Option renaming some->av,none->aw
open Go.Value renaming int->ax
open Go.Builtin renaming zeroCells->ay,copy_->az,firstCells->ba,append_->bc
open And renaming intro->be
open Exists renaming intro->bg
open Go renaming Value->bo,World->bu,Program->bv,Addr->bz,size_zeroCells->cd,TypeId->ce
open Int renaming tmod_eq_emod_of_nonneg->cf,toNat->cg
open True renaming intro->Y_
open Cv.dp renaming mk->W_
namespace Sx
set_option maxRecDepth 100000
open Go Cv Go.Proofs
open Tryz renaming prog->Z_
open Tryz hiding prog
def yCj {l:List Quote} {q:Quote} (s:Int) (h:l[0]? =av q):(z6 (l.take (max 0 1)) s).1=q:=by
 cases l with
 |nil=>simp at h
 |cons a l=>simp at h;subst h;rfl
def yBk {l:List Quote} {j:Nat} {q:Quote} (s:Int) (h:l[j]? =av q):
 (z6 (l.take (max (j+1) 1)) s).1=if jo s q.dm (z6 (l.take (max j 1)) s).1.dm then q else(z6 (l.take (max j 1)) s).1:=by
 cases l with
 |nil=>simp at h
 |cons a l=>
  cases j with
  |zero=>simp at h;subst h;simp[z6]
  |succ m=>
   simp only[Bk]at h;rw[show max (m+1+1) 1=(m+1)+1 by omega,show max (m+1) 1=m+1 by omega,vj,vj,qf,h];simp only[z6,AD,IG];rfl
def yJz {l:List Quote} (s:Int) (h:l≠[]):(z6 l s).2=ar:=by
 cases l with
 |nil=>exact absurd rfl h
 |cons a l=>rfl
def y6w (i:Am) (h:G8.dp i):ySc i:=by
 obtain⟨hs,hl⟩:(i.s=1\/i.s=2)/\i.l.length<=1000000:=h;unfold ySc zMw ff dx uZ yG zGc zHb dx dI;simp only[ib];refine W_ (λc=> ?_) (λc=> ?_)
 ·have e:i.l=[]:=ye (by have:(i.l.length:Int)=0:=(i9 c);omega);rw[e];exact kp
 have h0:0<i.l.length:=by
  rcases Nat.eq_zero_or_pos i.l.length with h|h
  ·rw[h]at c;exact absurd c Z8
  ·exact h
 have jy:i.l≠[]:=by intro e;rw[e]at h0;simp at h0
 have two:=yJz i.s jy;obtain⟨q,hq⟩:=zZ h0;have b0:=yCj i.s hq;have fin:(z6 (i.l.take (max i.l.length 1)) i.s).1=(z6 i.l i.s).1:=by
  rw[ng X_]
 have step:∀j:Nat,j<i.l.length->∀x:Quote,i.l[j]? =av x->(jo i.s x.dm (z6 (i.l.take (max j 1)) i.s).1.dm=ar->(z6 (i.l.take (max (j+1) 1)) i.s).1=x)/\(jo i.s x.dm (z6 (i.l.take (max j 1)) i.s).1.dm=au->(z6 (i.l.take (max (j+1) 1)) i.s).1=(z6 (i.l.take (max j 1)) i.s).1):=λj hj x hx=>by
  have:=yBk i.s hx;constructor
  ·intro e;rw[this,fh e]
  ·intro e;rw[this,eg (by rw[e];simp)]
 refine W_ (λc1=>W_ (λc2=> ?_) (λc2=> ?_)) (λc1=> ?_)
 ·exfalso;have c1:i.s≠1:=i9 c1
  have c2:i.s≠2:=i9 c2
  omega
 all_goals
  refine⟨⟨oM,oM⟩,q.dm,q.dr,q.a.inst,q.a.side,q.b.inst,q.b.side,jz hq (by simp[zL]) rfl,0,?_⟩;rw[b0]
  (repeat'(first|exact rfl|exact Y_|assumption|apply be|refineλ(_:Unit) (_:True)=>?_|refine bg () ?_|omega|(dsimp only;omega)))
  refine⟨λj=>j<=i.l.length,λj=>i.l.length-j,oM,λj hj=>zH (λgr=> ?_) (λgr=> ?_)⟩
  ·have oz:j<i.l.length:=X_
   obtain⟨x,hx⟩:=zZ oz;obtain⟨st,sf⟩:=step j oz x hx;refine⟨⟨oM,oM⟩,x.dm,x.dr,x.a.inst,x.a.side,x.b.inst,x.b.side,jz hx (by simp[zL]) rfl,⟨i.s,x.dm,_⟩,rfl,rfl,rfl,Y_,λ_ _=>W_ (λe=>⟨j+1,by rw[iw X_];rfl,?_⟩) (λe=>⟨j+1,by rw[iw X_];rfl,?_⟩)⟩
   ·rw[st e];exact kp
   ·rw[sf e];exact kp
  ·have hj:j<=i.l.length:=hj;obtain rfl:j=i.l.length:=X_
   rw[fin,two];exact kp
def z7p:G8.ok Z_ 158:=gy mixed (dw z9h fk) 0 i6 (λi=>y6k i) [] func158 y6w
def PY (fm:List kf) (a b:Cw) (less:Bool):(xy fm a b less).length<=1:=by
 unfold xy;dsimp only;split<;>split<;>simp
def z2r {α:Type} {f:Nat->List α} (h:∀k,(f k).length<=1):∀n,((ae n).flatMap f).length<=n
 |0=>by simp
 |n+1=>by
  rw[IF,zh,ix];have:=z2r h n;have:=h n;simp only[vw,Md,oQ];omega
def zHp (i:bU) (s:Int) (k:Nat):(jV i s k).length<=k:=z2r (λ_=>PY _ _ _ _) k
def lC (i:bU) (s:Int) (k:Nat):(wL i s k).length<=k:=z2r (λ_=>PY _ _ _ _) k
def V2 (i:bU) (s:Int):(kY i s).length<=100:=by
 unfold kY;split
 ·simp
 ·rename_i h;have hc:=y8 i.p;have m6:=(jH (Rg (p:=i.p) oM)).m6;split
  ·rw[ib];have:=PY i.fm ⟨(i.p.gp i.inst).2.1,3-s⟩ ⟨(i.p.gp i.inst).1,s⟩ ar;have e:(yX i s).length<=1:=this;omega
  ·rw[ix];have h1:=zHp i s (i.p.dt.length-(i.inst.toNat+1));have h2:=lC i s i.inst.toNat;omega
def y1w (j:Bw) (h:D0.dp j):yDv j:=by
 unfold yDv Qb ff dx zGp Bp dR wN kJ ph gK qQ ph dI;obtain⟨hp,ht,hr⟩:j.i.p.small/\vW j.i.fm:=h;obtain⟨h1,h2,h3⟩:=hp;have hl:=V2 j.i (zF j.s);refine⟨j,?_⟩;simp only[ib]
 (repeat'(first|exact rfl|exact Y_|assumption|apply be|refineλ(_:Unit) (_:True)=>?_|refine bg () ?_|omega|(dsimp only;omega)))
 refine⟨0,rfl,rfl,λk=>k<=(kY j.i (zF j.s)).length,λk=>(kY j.i (zF j.s)).length-k,oM,λk hk=>zH (λgr=> ?_) (λgr=> ?_)⟩
 ·have qc:k<(kY j.i (zF j.s)).length:=X_
  obtain⟨q,hq⟩:=zZ qc;have hf:(List.filter (λq=>decide (j.i.p.dm j.i.inst q.dm=0)) (ab k (kY j.i (zF j.s)))).length<=100:=by
   have:=HK (λq:Quote=>decide (j.i.p.dm j.i.inst q.dm=0)) (ab k (kY j.i (zF j.s)));rw[nr]at this;omega
  refine⟨⟨oM,oM⟩,q.dm,q.dr,q.a.inst,q.a.side,q.b.inst,q.b.side,jz hq (by simp[zL]) rfl,⟨j.i.p,j.i.inst,q.dm⟩,?_⟩
  (repeat'(first|exact rfl|exact Y_|assumption|apply be|refineλ(_:Unit) (_:True)=>?_|refine bg () ?_|omega|(dsimp only;omega)))
  refine W_ (λc=>⟨oM,k+1,by rw[iw X_];rfl,?_⟩) (λc=>⟨k+1,by rw[iw X_];rfl,?_⟩)
  ·have c:j.i.p.dm j.i.inst q.dm=0:=i9 c
   rw[qf,hq,AD,CL,RS (i9 c),jh];exact kp
  ·have c:¬j.i.p.dm j.i.inst q.dm=0:=i9 c
   rw[qf,hq,AD,CL,RR (i9 c),List.filter_nil,oQ];exact kp
 ·have hk:k<=(kY j.i (zF j.s)).length:=hk;obtain rfl:k=(kY j.i (zF j.s)).length:=X_
  rw[ng (jx _)];exact kp
def yJo:∀n≤6,∀a<n,∀b<n,a<b->0<=(yP n a:Int)+b-a-1/\(yP n a:Int)+b-a-1<((n+n*(n-1) / 2:Nat):Int):=by decide
def mS {p:fj} (hc:p.check=0) {a b:Nat} (CU:a<b) (hb:b<p.dt.length):0<=(p.spread a b).1/\(p.spread a b).1<p.count:=by
 have m6:=(jH hc).m6;have:=yJo p.dt.length m6 a oM b hb CU;rw[fj.spread,eg X_,fj.count,fh hc];simpa using this
def yYm:∀n≤6,∀k<n+n*(n-1) / 2,n<=k->(jO n k n 0).2.2=ar/\0<=(jO n k n 0).1/\(jO n k n 0).1<n/\0<=(jO n k n 0).2.1/\(jO n k n 0).2.1<n:=by decide
def dC {p:fj} (hc:p.check=0) {k:Nat} (hk:k<p.count):((p.gp k).2.2=ar/\0<=(p.gp k).1/\(p.gp k).1<p.dt.length/\0<=(p.gp k).2.1/\(p.gp k).2.1<p.dt.length)\/((p.gp k).2.2=au/\k<p.dt.length):=by
 have m6:=(jH hc).m6;have qc:=hk;rw[fj.count,fh hc]at qc;by_cases h:k<p.dt.length
 ·right;rw[fj.gp,eg X_,fh X_];exact⟨rfl,h⟩
 ·left;rw[fj.gp,eg X_,eg X_];exact yYm p.dt.length m6 k qc oM
def V3 {p:fj} (hc:p.check=0):p.dt.length<=p.count:=by
 rw[fj.count,fh hc];omega
def z8p {i:bU} {s:Int} {k:Nat} (hk:k<(yX i s).length):aa zL (aa (aX i s) (ab (k+1) (yX i s))++ac (k+1) (yX i s))=
 zJ (aa zL (aa (aX i s) (ab k (yX i s))++ac k (yX i s))) k (0+2) [D.v (.int .i64 (i.p.gp i.inst).1),D.v (.int .i64 s),D.v (.int .i64 (i.p.gp i.inst).2.1),D.v (.int .i64 (3-s))]:=by
 obtain⟨q,hq⟩:=zZ hk;rw[zYb (a:=aa zL (aa (aX i s) (ab k (yX i s)))) (b:=aa zL (ac (k+1) (yX i s))) (x:=zL q) (y:=zL (aX i s q)) (by
  rw[jh,CN hk,(jk.1 hq).2,jg]) (by simp;omega) rfl]
 rw[qf,hq,AD,jh,jh,jh,jg,Bz,jg,Bz,jd];rfl
def xCv (i:bU) (h:Lp.dp i):y3r i:=by
 unfold y3r Qb Pj YD ff dx zV ph VL uL sB Wo tH j8 ph qQ ph Wh gW dN gK WG mT Bp dI;obtain⟨⟨h1,h2,h3⟩,ht,hr⟩:i.p.small/\vW i.fm:=h;have sx:vW i.fm:=⟨ht,hr⟩
 refine⟨i.p,?_⟩;simp only[ib,y9]
 (repeat'(first|exact rfl|exact Y_|assumption|apply be|refineλ(_:Unit) (_:True)=>?_|refine bg () ?_|omega|(dsimp only;omega)))
 have bad (hb:i.p.count=0\/(i.fm.length:Int)≠i.p.count\/i.inst<0\/(i.p.count:Int)<=i.inst):∃(o:Unit),aa zL (kY i 1)=[]/\True:=⟨(),by rw[kY,fh hb];rfl,Y_⟩
 refine W_ (λc1=>bad (.inl (by have c1:(i.p.count:Int)=0:=(i9 c1);omega))) λc1=>W_ (λc2=>bad (.inr (.inl (i9 c2)))) λc2=>zH (λc3=>bad oM) λc3=>zH (λc4=>bad oM) λc4=>⟨⟨i.p,i.inst⟩,?_⟩
 have c1:i.p.count≠0:=by
  have c1:¬(i.p.count:Int)=0:=(i9 c1)
  omega
 have c2:(i.fm.length:Int)=i.p.count:=i9 c2
 have c4:i.inst<(i.p.count:Int):=by
  have c4:¬i.inst>=(i.p.count:Int):=c4;omega
 have hc:=Rg c1;have hm:=V3 hc;have e0:kY i 1=if(i.p.gp i.inst).2.2 then(yX i 1).map (aX i 1)else jV i 1 (i.p.dt.length-(i.inst.toNat+1))++wL i 1 i.inst.toNat:=by
  rw[kY,eg X_]
 obtain⟨k,hk⟩:∃k:Nat,i.inst=k:=⟨i.inst.toNat,oM⟩
 have hl:=dC hc (k:=k) oM;rw[<- hk]at hl
 (repeat'(first|exact rfl|exact Y_|assumption|apply be|refineλ(_:Unit) (_:True)=>?_|refine bg () ?_|omega|(dsimp only;omega)))
 refine W_ (λc5=> ?_) (λc5=> ?_)
 ·have c5:(i.p.gp i.inst).2.2=ar:=c5;rw[e0,fh c5];rcases hl with⟨_,l1,l2,l3,l4⟩|⟨l1,_⟩
  ·have zc:(yX i 1).length<=1:=PY _ _ _ _;refine⟨1,rfl,oM,λ_ _=>⟨⟨⟨i.fm,[],(i.p.gp i.inst).2.1,(i.p.gp i.inst).1,ar⟩,ar,au⟩,nu ⟨rfl,⟨l3,Z9,l1,Z9,sx,by simp⟩,λ_ _=>⟨0,rfl,rfl,rfl,λj=>j<=(yX i 1).length,λj=>(yX i 1).length-j,oM,?_⟩⟩⟩⟩;intro j hj;have hj:j<=(yX i 1).length:=hj;have hL:(aa (aX i 1) (ab j (yX i 1))++ac j (yX i 1)).length=(yX i 1).length:=by simp;omega
   refine zH (λgr=> ?_) (λgr=> ?_)
   ·have gr:(j:Int)<((yX i 1).length:Int):=gr;refine⟨⟨oM,by rw[hL];omega⟩,by rw[hL];omega,j+1,by rw[iw X_];rfl,kp,?_,?_⟩
    ·exact z8p (i:=i) (s:=1) oM
    ·exact kp
   ·have gr:¬(j:Int)<((yX i 1).length:Int):=gr;obtain rfl:j=(yX i 1).length:=X_
    rw[ng (jx _),af,oQ];exact kp
  ·rw[c5]at l1;cases l1
 ·have c5:(i.p.gp i.inst).2.2=au:=c5;rw[e0,eg (by rw[c5];simp)];rcases hl with⟨l1,_⟩|⟨_,l2⟩
  ·rw[c5]at l1;cases l1
  have m6:=(jH hc).m6;have e1:i.inst.toNat=k:=X_
  rw[e1];refine⟨0,by rw[iw X_];omega,kp,rfl,λj=>j<=i.p.dt.length-(k+1),λj=>i.p.dt.length-(k+1)-j,oM,?_⟩;intro j hj;have hj:j<=i.p.dt.length-(k+1):=hj;have hq:=zHp i 1 j;refine zH (λgr=> ?_) (λgr=> ?_)
  ·obtain⟨b1,b2⟩:=mS hc (a:=k) (b:=k+1+j) oM oM;have eb:((k+1+j:Nat):Int)=i.inst+1+j:=X_
   rw[eb,<- hk]at b1 b2;refine⟨⟨i.p,i.inst,i.inst+1+j⟩,?_⟩
   (repeat'(first|exact rfl|exact Y_|assumption|apply be|refineλ(_:Unit) (_:True)=>?_|refine bg () ?_|omega|(dsimp only;omega)))
   refine⟨⟨⟨i.fm,jV i 1 j,(i.p.spread i.inst (i.inst+1+j)).1,i.inst+1+j,au⟩,au,au⟩,nh ⟨rfl,kp,rfl,⟨b1,Z9,Z9,Z9,sx,Z9⟩,λ_ _=>⟨j+1,by rw[iw X_];omega,kp,?_,?_⟩⟩⟩
   ·rw[jV,IF,zh];simp only[vw,Md,oQ];rfl
   ·exact kp
  ·obtain rfl:j=i.p.dt.length-(k+1):=X_
   refine⟨0,rfl,kp,by rw[wL];simp,λj=>j<=k,λj=>k-j,oM,?_⟩;intro j hj;have hj:j<=k:=hj;have uo:=lC i 1 j;refine zH (λyk=> ?_) (λyk=> ?_)
   ·obtain⟨b1,b2⟩:=mS hc (a:=j) (b:=k) oM oM;rw[<- hk]at b1 b2;refine⟨⟨i.p,j,i.inst⟩,?_⟩
    (repeat'(first|exact rfl|exact Y_|assumption|apply be|refineλ(_:Unit) (_:True)=>?_|refine bg () ?_|omega|(dsimp only;omega)))
    refine⟨1,rfl,oM,λ_ _=>⟨⟨⟨i.fm,jV i 1 (i.p.dt.length-(k+1))++wL i 1 j,(i.p.spread j i.inst).1,j,ar⟩,ar,au⟩,nh ⟨rfl,kp,rfl,⟨b1,Z9,Z9,Z9,sx,by dsimp only;rw[ix];omega⟩,λ_ _=>⟨j+1,by rw[iw X_];omega,kp,?_,?_⟩⟩⟩⟩
    ·rw[wL,IF,zh];simp only[vw,Md,oQ,jd];rfl
    ·exact kp
   ·obtain rfl:j=k:=X_
    exact kp
def yYp:Lp.ok Z_ 159:=gy mixed (dw dL (dw NY (dw zXc (dw zZh (dw z4g fk))))) 0 i6 (λi=>xCr i 1) [] func159 xCv
def xGp (i:bU) (h:Lo.dp i):y4w i:=by
 unfold y4w Qb Pj YD ff dx zV ph r9 V5 sQ VL uL j8 ph qQ ph Wh gW dN gK WG mT Bp dI;obtain⟨⟨h1,h2,h3⟩,ht,hr⟩:i.p.small/\vW i.fm:=h;have sx:vW i.fm:=⟨ht,hr⟩
 refine⟨i.p,?_⟩;simp only[ib,y9]
 (repeat'(first|exact rfl|exact Y_|assumption|apply be|refineλ(_:Unit) (_:True)=>?_|refine bg () ?_|omega|(dsimp only;omega)))
 have bad (hb:i.p.count=0\/(i.fm.length:Int)≠i.p.count\/i.inst<0\/(i.p.count:Int)<=i.inst):∃(o:Unit),aa zL (kY i 2)=[]/\True:=⟨(),by rw[kY,fh hb];rfl,Y_⟩
 refine W_ (λc1=>bad (.inl (by have c1:(i.p.count:Int)=0:=(i9 c1);omega))) λc1=>W_ (λc2=>bad (.inr (.inl (i9 c2)))) λc2=>zH (λc3=>bad oM) λc3=>zH (λc4=>bad oM) λc4=>⟨⟨i.p,i.inst⟩,?_⟩
 have c1:i.p.count≠0:=by
  have c1:¬(i.p.count:Int)=0:=(i9 c1)
  omega
 have c2:(i.fm.length:Int)=i.p.count:=i9 c2
 have c4:i.inst<(i.p.count:Int):=by
  have c4:¬i.inst>=(i.p.count:Int):=c4;omega
 have hc:=Rg c1;have hm:=V3 hc;have e0:kY i 2=if(i.p.gp i.inst).2.2 then(yX i 2).map (aX i 2)else jV i 2 (i.p.dt.length-(i.inst.toNat+1))++wL i 2 i.inst.toNat:=by
  rw[kY,eg X_]
 obtain⟨k,hk⟩:∃k:Nat,i.inst=k:=⟨i.inst.toNat,oM⟩
 have hl:=dC hc (k:=k) oM;rw[<- hk]at hl
 (repeat'(first|exact rfl|exact Y_|assumption|apply be|refineλ(_:Unit) (_:True)=>?_|refine bg () ?_|omega|(dsimp only;omega)))
 refine W_ (λc5=> ?_) (λc5=> ?_)
 ·have c5:(i.p.gp i.inst).2.2=ar:=c5;rw[e0,fh c5];rcases hl with⟨_,l1,l2,l3,l4⟩|⟨l1,_⟩
  ·have zc:(yX i 2).length<=1:=PY _ _ _ _;refine⟨2,rfl,oM,λ_ _=>⟨⟨⟨i.fm,[],(i.p.gp i.inst).2.1,(i.p.gp i.inst).1,ar⟩,au,ar⟩,nu ⟨rfl,⟨l3,Z9,l1,Z9,sx,by simp⟩,λ_ _=>⟨0,rfl,rfl,rfl,λj=>j<=(yX i 2).length,λj=>(yX i 2).length-j,oM,?_⟩⟩⟩⟩;intro j hj;have hj:j<=(yX i 2).length:=hj;have hL:(aa (aX i 2) (ab j (yX i 2))++ac j (yX i 2)).length=(yX i 2).length:=by simp;omega
   refine zH (λgr=> ?_) (λgr=> ?_)
   ·have gr:(j:Int)<((yX i 2).length:Int):=gr;refine⟨⟨oM,by rw[hL];omega⟩,by rw[hL];omega,j+1,by rw[iw X_];rfl,kp,?_,?_⟩
    ·exact z8p (i:=i) (s:=2) oM
    ·exact kp
   ·have gr:¬(j:Int)<((yX i 2).length:Int):=gr;obtain rfl:j=(yX i 2).length:=X_
    rw[ng (jx _),af,oQ];exact kp
  ·rw[c5]at l1;cases l1
 ·have c5:(i.p.gp i.inst).2.2=au:=c5;rw[e0,eg (by rw[c5];simp)];rcases hl with⟨l1,_⟩|⟨_,l2⟩
  ·rw[c5]at l1;cases l1
  have m6:=(jH hc).m6;have e1:i.inst.toNat=k:=X_
  rw[e1];refine⟨0,by rw[iw X_];omega,kp,rfl,λj=>j<=i.p.dt.length-(k+1),λj=>i.p.dt.length-(k+1)-j,oM,?_⟩;intro j hj;have hj:j<=i.p.dt.length-(k+1):=hj;have hq:=zHp i 2 j;refine zH (λgr=> ?_) (λgr=> ?_)
  ·obtain⟨b1,b2⟩:=mS hc (a:=k) (b:=k+1+j) oM oM;have eb:((k+1+j:Nat):Int)=i.inst+1+j:=X_
   rw[eb,<- hk]at b1 b2;refine⟨⟨i.p,i.inst,i.inst+1+j⟩,?_⟩
   (repeat'(first|exact rfl|exact Y_|assumption|apply be|refineλ(_:Unit) (_:True)=>?_|refine bg () ?_|omega|(dsimp only;omega)))
   refine⟨⟨⟨i.fm,jV i 2 j,(i.p.spread i.inst (i.inst+1+j)).1,i.inst+1+j,au⟩,ar,ar⟩,nh ⟨rfl,kp,rfl,⟨b1,Z9,Z9,Z9,sx,Z9⟩,λ_ _=>⟨j+1,by rw[iw X_];omega,kp,?_,?_⟩⟩⟩
   ·rw[jV,IF,zh];simp only[vw,Md,oQ];rfl
   ·exact kp
  ·obtain rfl:j=i.p.dt.length-(k+1):=X_
   refine⟨0,rfl,kp,by rw[wL];simp,λj=>j<=k,λj=>k-j,oM,?_⟩;intro j hj;have hj:j<=k:=hj;have uo:=lC i 2 j;refine zH (λyk=> ?_) (λyk=> ?_)
   ·obtain⟨b1,b2⟩:=mS hc (a:=j) (b:=k) oM oM;rw[<- hk]at b1 b2;refine⟨⟨i.p,j,i.inst⟩,?_⟩
    (repeat'(first|exact rfl|exact Y_|assumption|apply be|refineλ(_:Unit) (_:True)=>?_|refine bg () ?_|omega|(dsimp only;omega)))
    refine⟨2,rfl,oM,λ_ _=>⟨⟨⟨i.fm,jV i 2 (i.p.dt.length-(k+1))++wL i 2 j,(i.p.spread j i.inst).1,j,ar⟩,au,ar⟩,nh ⟨rfl,kp,rfl,⟨b1,Z9,Z9,Z9,sx,by dsimp only;rw[ix];omega⟩,λ_ _=>⟨j+1,by rw[iw X_];omega,kp,?_,?_⟩⟩⟩⟩
    ·rw[wL,IF,zh];simp only[vw,Md,oQ,jd];rfl
    ·exact kp
   ·obtain rfl:j=k:=X_
    exact kp
def yZk:Lo.ok Z_ 159:=gy mixed (dw dL (dw NY (dw zXc (dw zZh (dw z4g fk))))) 0 i6 (λi=>xCr i 2) [] func159 xGp
def yWe:aa0.ok Z_ 159:=λj=>match j with
 |⟨i,au⟩=>yYp i
 |⟨i,ar⟩=>yZk i
def zMo:D0.ok Z_ 82:=gy mixed (dw yWe (dw Rf fk)) 0 i6 (λj=>yZt j) [] func82 y1w
def zBs (i:bU) (s:Int):(xR i s).length<=100:=tz (HK _ _) (V2 i s)
structure iJ where
 p:fj
 s:gz
 used:List Int
def zY (l:List Int):List (bo×List D):=l.map λx=>(.int .i64 x,[.v (.bool ar)])
def yO (m:iJ):Nat->fq
 |0=> .cells [sV m.p.code,.own 3,zB m.p.tick,zB m.p.low,zB m.p.high,zB m.p.wide,zB m.p.gn,zB m.p.top,zB m.p.least,zB m.p.part,.own 4,.nm 1 0,.mp 2] 155
 |1=>zE m.s
 |2=> .map (zY m.used)
 |3=> .kr 1 (iE m.p.dt)
 |4=> .kr 1 (iE m.p.settle)
 |_=> .gone
def qX (m:iJ):fq:= .rk iJ 5 yO m
def KU:gh where
 ι:=fj
 pat:=λp=>[nv p]
 pre:=λ_=>[]
 dp:=λp=>p.small
 alts:=λp=>[{o:=Unit,res:=λ_=> .je [.nm 0 0,zB 0],post:=λ_=>[qX ⟨p,nN p,[]⟩],rel:=λ_=>p.check=0},{o:=Unit,res:=λ_=> .je [.d (.v (.pointer aw)),zB p.check],post:=λ_=>[],rel:=λ_=>p.check≠0}]
def GA:gh:=fp iJ (λ_=>[.nm 0 0]) (λm=>[qX m]) (λm=>m.s.small) (λ_=> .nm 1 0) (λm=>[qX m,zE m.s])
def zNc (a:fj) (b:fj):Prop:=True/\(0+(iE a.settle).length)*(8:Nat)<=(140737488355328:Nat)/\((dx (dk ((0:Int))/\Qc a (zE (nN a)=zE (nN b)/\zY []=[]/\iE a.dt=[]++iE a.dt/\iE a.settle=[]++iE a.settle/\a.check=0)))\/(dx (False)))
def zMm (a:fj) (b:fj):Prop:=True/\True/\(0+(iE a.dt).length)*(8:Nat)<=(140737488355328:Nat)/\zNc a b
def zMv (a:fj):Prop:=True/\(0+(iE a.settle).length)*(8:Nat)<=(140737488355328:Nat)/\((dx (dk ((0:Int))/\Qc a (False)))\/(dx (False)))
def zLh (a:fj):Prop:=True/\True/\(0+(iE a.dt).length)*(8:Nat)<=(140737488355328:Nat)/\zMv a
def y5e (p:fj):Prop:=
 ∃(a:fj),Qb a p ((zV a)/\(∀(b:Unit),a.check=0->(True/\True/\(MH p (zNc p a))/\zMm p a)/\True/\True/\zMm p a)/\∀(b:Unit),a.check≠0->dp (a.check !=0) ((dx (False))\/(dx (True/\p.check=a.check/\(p.check=0->False)))) ((True/\True/\(MH p (zMv p))/\zLh p)/\True/\True/\zLh p))
def xAe (m:iJ):Prop:=
 ∃(i:gz),zE i=zE m.s/\(i.ez.length<=1000000/\∀(b:dq),b∈i.ez->(b.a.du.length<=1000000/\b.a.dy.length<=1000000)/\b.fv.length<=1000000/\b.fc.length<=1000000/\b.spare.length<=1000000)/\∀(o:Unit),True->∃(o:Unit),dk (sb m.p.code)/\dk m.p.tick/\dk m.p.low/\dk m.p.high/\dk m.p.wide/\dk m.p.gn/\dk m.p.top/\dk m.p.least/\dk m.p.part/\zE m.s=zE i/\dk (zY m.used)/\dk (am 1 (iE m.p.dt))/\dk (am 1 (iE m.p.settle))/\zE m.s=zE i/\True
def Hj:GA.ok Z_ 29:=gy (V:=xAe) mixed (dw P5 fk) 0 i6 i6 [0] func29 λ(m:iJ) h=>by
 obtain⟨h1,h2⟩:m.s.small:=h;refine⟨m.s,rfl,⟨h1,h2⟩,λ_ _=>⟨(),?_⟩⟩;exact kp
def xCt (p:fj) (h:KU.dp p):y5e p:=by
 unfold y5e Qb MH dx zLh zMv Qc dx zMm zNc Qc dx zV ph;obtain⟨h1,h2,h3⟩:p.small:=h;refine⟨p,?_⟩;simp only[y9]
 (repeat'(first|exact rfl|exact Y_|assumption|apply be|refineλ(_:Unit) (_:True)=>?_|refine bg () ?_|omega|(dsimp only;omega)))
 ·intro _ c
  (repeat'(first|exact rfl|exact Y_|assumption|apply be|refineλ(_:Unit) (_:True)=>?_|refine bg () ?_|omega|(dsimp only;omega)))
  all_goals(refine .inl ⟨(),?_⟩;(repeat'(first|exact rfl|exact Y_|assumption|apply be|refineλ(_:Unit) (_:True)=>?_|refine bg () ?_|omega|(dsimp only;omega))))
 ·intro _ c;refine W_ (λe=> .inr ⟨(),Y_,kp,c⟩) (λe=>absurd (i9 e) c)
def yZp:KU.ok Z_ 38:=gy mixed (dw y0r fk) 0 i6 i6 [] func38 xCt
def Eb:gh:=fp (List Int) (λl=>[iV l]) i6 (λl=>l.length<=1000000) (λl=>iV l) i6
structure qy where
 n:Int
 lo:Int
 hi:Int
def zG (n lo hi:Int):Int:=lo+n % (hi-lo+1)
def A2:gh:=fp qy (λi=>[zB i.n,zB i.lo,zB i.hi]) i6 (λi=>gx i.n/\-1000000<=i.lo/\i.lo<=i.hi/\i.hi<=1000000) (λi=>zB (zG i.n i.lo i.hi)) i6
def cU (gn:Int):fj:=⟨[67,76],[320,321,323],5,0,1000,200,gn,4,2,40,[500,505,490]⟩
def M6:gh:=fp Int (λn=>[zB n]) i6 (λ_=>True) (λn=>nv (cU n)) i6
def yWu (l:List Int):Prop:=
 ∀(b:Bool),(b=ar->iE l=[])->dp b (∃(o:Unit),iE l=[]/\True) ((0+(iE l).length)*(8:Nat)<=(140737488355328:Nat)/\∃(o:Unit),iE l=[]++iE l/\True)
def yLi (l:List Int):Prop:=
 ∀(b:Bool),(b=ar->iE l=[])->dp b (∃(o:Unit),iE l=[]/\True) ((0+(iE l).length)*(8:Nat)<=(140737488355328:Nat)/\∃(o:Unit),iE l=[]++iE l/\True)
def rK (a:qy):=(ag.wrap (ag.wrap (a.hi-a.lo)+1))
def yGd (i:qy):Prop:=
 ag=ag/\ag.wrap (ag.wrap (i.hi-i.lo)+1)≠0/\dp (decide (i.n.tmod (rK i)<0)) (dx (zG i.n i.lo i.hi=ag.wrap (i.lo+ag.wrap (ag.wrap (ag.wrap (i.n.tmod (rK i)+i.hi)-i.lo)+1))/\True)) (dx (zG i.n i.lo i.hi=ag.wrap (i.lo+i.n.tmod (rK i))/\True))
@[reducible] def YC (a:Int)(R:Prop):Prop:=(5:Int)=(5:Int)/\(0:Int)=(0:Int)/\(1000:Int)=(1000:Int)/\(200:Int)=(200:Int)/\a=a/\(4:Int)=(4:Int)/\(2:Int)=(2:Int)/\(40:Int)=(40:Int)/\R
def ySe (n:Int):Prop:=
 dx (sb [(67:UInt8),(76:UInt8)]=ByteArray.mk #[(67:UInt8),(76:UInt8)]/\iE [(320:Int),(321:Int),(323:Int)]=[[dI 320],[dI 321],[dI 323]]/\YC n (iE [(500:Int),(505:Int),(490:Int)]=[[dI 500],[dI 505],[dI 490]]/\True))
def yKr:Eb.ok Z_ 120:=gy (V:=yWu) mixed fk 0 i6 i6 [] func120 λ(l:List Int) h=>by
 have h:l.length<=1000000:=h;exactλb hb=>W_ (λe=>⟨(),hb e,Y_⟩) (λ_=>⟨by rw[nt,y9];omega,(),rfl,Y_⟩)
def z3z:Eb.ok Z_ 121:=gy (V:=yLi) mixed fk 0 i6 i6 [] func121 λ(l:List Int) h=>by
 have h:l.length<=1000000:=h;exactλb hb=>W_ (λe=>⟨(),hb e,Y_⟩) (λ_=>⟨by rw[nt,y9];omega,(),rfl,Y_⟩)
def yUh:M6.ok Z_ 37:=gy (V:=ySe) mixed fk 0 i6 i6 [] func37 λ(n:Int) _=>by
 unfold ySe YC dx dI;exact kp
def yXx (i:qy) (h:A2.dp i):yGd i:=by
 obtain⟨⟨a1,a2⟩,a3,a4,a5⟩:gx i.n/\-1000000<=i.lo/\i.lo<=i.hi/\i.hi<=1000000:=h;unfold yGd dx rK;rw[iw (x:=i.hi-i.lo) X_,iw (x:=i.hi-i.lo+1) X_];obtain⟨d,hd⟩:∃d:Int,i.hi-i.lo+1=d:=⟨_,rfl⟩
 rw[hd];have h1:i.n.tmod d=if 0<=i.n then i.n % d else-((-i.n) % d):=by
  split
  ·rename_i h;rw[cf h]
  ·rename_i h;have:i.n= -(-i.n):=X_
   conv=>lhs;rw[this]
   rw[Int.neg_tmod,cf X_]
 have qk:=Ox i.n (show d≠0 by omega);have np:=RJ i.n (show 0<d by omega);have DC:=Ox (-i.n) (show d≠0 by omega);have Yq:=RJ (-i.n) (show 0<d by omega);have key:i.n.tmod d<0->i.n % d=i.n.tmod d+d:=λMT=>by
  have:=Int.emod_eq_of_lt (a:=i.n.tmod d+d) (b:=d) (by rw[h1]at MT ⊢;split at MT<;>split<;>omega) oM;rw[<- this,Int.add_emod_right];have e:=Int.tmod_add_mul_tdiv i.n d
  conv=>lhs;rw[<- e]
  rw[XW]
 have aao:¬i.n.tmod d<0->i.n % d=i.n.tmod d:=λMT=>by
  have gr:i.n.tmod d<d:=by rw[h1];split<;>omega
  have:=Int.emod_eq_of_lt (a:=i.n.tmod d) (b:=d) oM gr;rw[<- this];have e:=Int.tmod_add_mul_tdiv i.n d
  conv=>lhs;rw[<- e]
  rw[XW]
 refine⟨rfl,oM,zH (λc=>⟨(),?_,Y_⟩) (λc=>⟨(),?_,Y_⟩)⟩
 ·have k:=key c;rw[zG,hd,k];rw[iw (x:=i.n.tmod d+i.hi) X_,iw (x:=i.n.tmod d+i.hi-i.lo) X_,iw (x:=i.n.tmod d+i.hi-i.lo+1) X_,iw X_];omega
 ·have k:=aao c;rw[zG,hd,k,iw X_]
def wu:A2.ok Z_ 14:=gy mixed fk 0 i6 i6 [] func14 yXx
def CD (l:List (Int×Int)) (k:Int):Option Int:=(l.find? λx=>decide (x.1=k)).map (·.2)
def yWd (l:List (Int×Int)) (k:Int):∀p∈yT l,me (ax ag k) p.1=ar:=by
 intro p hp;obtain⟨x,_,rfl⟩:=nn.1 hp;rfl
def tN (k:Int):∀l:List (Int×Int),jL (ax ag k) (yT l)=(CD l k).map λv=>[D.v (.int .i64 v)]
 |[]=>rfl
 |(a,v)::l=>by
  have ih:=tN k l;show(bif (xm .i64 .i64 && decide (k=a))then _ else jL _ (yT l))=_;by_cases h:k=a
  ·subst h;simp[CD,xm]
  ·have h':¬a=k:=λe=>h e.symm
   rw[show(xm .i64 .i64 && decide (k=a))=au by simp[h],cond_false,ih];simp[CD,L9,h']
structure ga where
 kind:Int
 id:Int
 inst:Int
 side:Int
 dm:Int
 dr:Int
 left:Int
 pk:Int
 deriving DecidableEq
@[reducible] def xIi (r:ga):V:= .agg [zB r.kind,zB r.id,zB r.inst,zB r.side,zB r.dm,zB r.dr,zB r.left,zB r.pk]
def x9 (r:ga):List D:=[.v (.int .i64 r.kind),.v (.int .i64 r.id),.v (.int .i64 r.inst),.v (.int .i64 r.side),.v (.int .i64 r.dm),.v (.int .i64 r.dr),.v (.int .i64 r.left),.v (.int .i64 r.pk)]
def J3 (k v:Int):List (Int×Int)->List (Int×Int)
 |[]=>[(k,v)]
 |(a,b)::l=>if k=a then(a,v)::l else(a,b)::J3 k v l
def L5 (k:Int):List (Int×Int)->List (Int×Int)
 |[]=>[]
 |(a,b)::l=>if k=a then l else(a,b)::L5 k l
def bj (t:Nat):gu:={ι:=Bool,du:=λb=>[(t,yM b)],rows:=λ_=>[]}
def ij (t:Nat):gu:={ι:=Int,du:=λn=>[(t,zB n)],rows:=λ_=>[]}
def bQ (l:List (Int×Int)) (k:Int):∀(p:bo×List D),p∈yT l->me (ax ag k) p.1=ar:=λp hp=>yWd l k p hp
def z5y (k v:Int):∀l,gU (ax ag k) [D.v (.int .i64 v)] (yT l)=yT (J3 k v l)
 |[]=>rfl
 |(a,b)::l=>by
  have ih:=z5y k v l;show(bif (xm .i64 .i64 && decide (k=a))then _ else _::gU _ _ (yT l))=_;rw[ih,J3];by_cases h:k=a
  ·subst h;simp[xm,yT]
  ·simp[h,yT]
def z5s (k:Int):∀l,CI (ax ag k) (yT l)=yT (L5 k l)
 |[]=>rfl
 |(a,b)::l=>by
  have ih:=z5s k l;show(bif (xm .i64 .i64 && decide (k=a))then yT l else _::CI _ (yT l))=_;rw[ih,L5];by_cases h:k=a
  ·subst h;simp[xm]
  ·simp[h,yT]
def y6g (l:List (Int×Int)) (k:Int):jL (ax ag k) (yT l)=av [D.v (.int .i64 ((CD l k).getD 0))]/\(CD l k).isSome=ar\/jL (ax ag k) (yT l)=aw/\[D.v (.int .i64 ((CD l k).getD 0))]=[D.v (.int .i64 0)]/\(CD l k).isSome=au:=by
 rw[tN];cases CD l k with
 |none=>exact .inr ⟨rfl,rfl,rfl⟩
 |some v=>exact .inl ⟨rfl,rfl⟩
def z7f (a b:Int):(a==b)=decide (a=b):=by
 by_cases h:a=b
 ·subst h;simp
 ·simp[h]
def z6s (n:Int):(cU n).small:=⟨by simp[cU],by simp[cU],by simp[cU]⟩
def y3 {n lo hi:Int} (h:lo<=hi):lo<=zG n lo hi/\zG n lo hi<=hi:=by
 rw[zG];have h1:=Ox n (show hi-lo+1≠0 by omega);have h2:=RJ n (show 0<hi-lo+1 by omega);omega
open Go Go.RowKit Cv
def Wb {P:bv} {dT sT ty e sz oF:Nat} {z:Array bo} (hi:vY P dT=av (e,sz,oF,z)) {w:bu} {g o dLen dCap b so sLen sCap n:Nat} {cur src:List bo} {T T':ce} {fr:Nat×Nat}
 (hg:w.heap[g]? =av (.cells cur.toArray T (0,0))) (hs:w.heap[b]? =av (.cells src.toArray T' fr)) (hn:Nat.min sLen dLen=n) (h1:so+n*sz<=src.length) (h2:o+n*sz<=cur.length)
 (ED:∀v∈(src.drop so).take (n*sz),v.ou=ar):
 fH P (az #[dT,sT] ty #[.slice (av ⟨g,o,aw⟩) dLen dCap,.slice (av ⟨b,so,aw⟩) sLen sCap]) w (.int .i64 n) (World.ja w g (.cells (lg cur o ((src.drop so).take (n*sz))).toArray T (0,0))):=by
 obtain⟨i,zv,q1,q2,rfl,rfl,q5,rfl⟩:=jI hi;have hl:((src.drop so).take (n*i.size)).length=n*i.size:=by rw[nr,pj];omega
 have lr:=vM (P:=P) ((src.drop so).take (n*i.size)) 0 o cur w hg (by rw[hl];omega) ED;simp only[FJ]at lr;unfold fH az;simp only[Bj,CM,Bk,bind,pure,run_bind,Sem.bind,Sem.run,Cv.run_underlying q1,Cv.run_sizeOf q2,Builtin.lenOf,hn,ba,fE hs h1,lr];rfl
def Hp.apart {k:Ko} {w:bu} {b c:Nat} {o o':Obj} {L:List HP} (H:Hp k w (pt b o::pt c o'::L)):b≠c:=by
 obtain⟨hk,hs,hh⟩:=H;cases hh with
 |cons ha jb hd hr=>
  cases hr with
  |cons hb K4 AJ xz=>
   intro e;subst e;have:=hd _ iY b;rw[show _=one b o from ha,show _=one b o' from hb]at this;simp[one]at this
def y8t (P:bv) (tS tI sz fO fR:Nat) (s:Option bz) (sn sk:Nat) (i:Int) (v:Option bz) (vn vk:Nat) (w:bu) (R:Ending->bu->Prop):Prop:=
uc s sn sk (av i) aw sz λa1 na1 ka1=>
dp (((vn:Int):Int)==0) (
R (.returned (.slice s sn sk)) w) (
dp ((i:Int)==(sn:Int)) (
∃(a2:Option bz) (na2 ka2:Nat),∃w3:bu,fH P (bc #[tS,tS] tS #[.slice s sn sk,.slice v vn vk]) w (.slice a2 na2 ka2) w3/\
R (.returned (.slice a2 na2 ka2)) w3) (
dp (decide ((ag.wrap ((sn:Int)+(vn:Int)):Int)>(sk:Int))) (
uc s sn sk aw (av i) sz λa4 na4 ka4=>
∃(a5:Option bz) (IL Ki:Nat),∃w6:bu,fH P (bc #[tS,tI] tS #[.slice a4 na4 ka4,.int .i64 (ag.wrap (ag.wrap ((sn:Int)+(vn:Int))-i))]) w (.slice a5 IL Ki) w6/\
uc a5 IL Ki (av i) aw sz λa7 na7 ka7=>
∃x8:Int,∃w9:bu,fH P (az #[tS,tS] tI #[.slice a7 na7 ka7,.slice v vn vk]) w6 (.int .i64 x8) w9/\
XN w9 λw10=>
uc a5 IL Ki (av (ag.wrap (i+(vn:Int)))) aw sz λa11 aak aaw=>
uc s sn sk (av i) aw sz λa12 aaj aav=>
∃x13:Int,∃w14:bu,fH P (az #[tS,tS] tI #[.slice a11 aak aaw,.slice a12 aaj aav]) w10 (.int .i64 x13) w14/\
R (.returned (.slice a5 IL Ki)) w14) (
uc s sn sk aw (av (ag.wrap ((sn:Int)+(vn:Int)))) sz λKy BT BU=>
uc Ky BT BU (av (ag.wrap (i+(vn:Int)))) aw sz λa16 aai aau=>
∃c17:Bool,∃w18:bu,Cv.Ext P fO #[.slice v vn vk,.slice a16 aai aau] w (.bool c17) w18/\
dp (!c17) (
XN w18 λw19=>
uc Ky BT BU (av (ag.wrap (i+(vn:Int)))) aw sz λa20 aah aat=>
uc Ky BT BU (av i) aw sz λa21 aag aas=>
∃x22:Int,∃w23:bu,fH P (az #[tS,tS] tI #[.slice a20 aah aat,.slice a21 aag aas]) w19 (.int .i64 x22) w23/\
uc Ky BT BU (av i) aw sz λa24 aaf aar=>
∃x25:Int,∃w26:bu,fH P (az #[tS,tS] tI #[.slice a24 aaf aar,.slice v vn vk]) w23 (.int .i64 x25) w26/\
R (.returned (.slice Ky BT BU)) w26) (
uc Ky BT BU (av (sn:Int)) aw sz λa27 aae aaq=>
∃x28:Int,∃w29:bu,fH P (az #[tS,tS] tI #[.slice a27 aae aaq,.slice v vn vk]) w18 (.int .i64 x28) w29/\
uc Ky BT BU (av i) aw sz λa30 aad aap=>
Calls P fR #[.slice a30 aad aap,.int .i64 (vn:Int)] w29 λe32 w31=>e32= .returned (.tuple #[])/\
R (.returned (.slice Ky BT BU)) w31))))
def yLr {α:Type} {l m:Nat} {xs r ys:List α} (hl:l<=xs.length) (hy:ys.length=m) (hr:m<=r.length):
 ((xs++r).take (l+m)++xs.drop l++(xs++r).drop (l+m+(xs.drop l).length)).take l++ys++((xs++r).take (l+m)++xs.drop l++(xs++r).drop (l+m+(xs.drop l).length)).drop (l+ys.length)=(xs.take l++ys++xs.drop l)++r.drop m:=by
 have e1:(xs++r).drop (l+m+(xs.drop l).length)=r.drop m:=by
  rw[pj,show l+m+(xs.length-l)=xs.length+m by omega,Me];simp
 have e2:((xs++r).take (l+m)++xs.drop l++r.drop m).take l=xs.take l:=by
  rw[jd,zi (by rw[nr,ix];omega),List.take_take,FL X_,zi hl]
 have e3:((xs++r).take (l+m)++xs.drop l++r.drop m).drop (l+ys.length)=xs.drop l++r.drop m:=by
  have:((xs++r).take (l+m)).length=l+m:=by rw[nr,ix];omega
  rw[jd,hy,Me,this,J6,Ei,IK X_,wy]
 rw[e1,e2,e3];simp
def z0j (A Z Y:List bo):lg (A++Z) A.length Y=A++Y++Z.drop Y.length:=by
 simp only[lg];rw[J8,Me];simp
def NU {b o n c i:Nat} (h:c≠i):(if c=i then(av ⟨b,o,aw⟩:Option bz)else(av ⟨b,o,aw⟩:Option bz).map (·.add n))=av ⟨b,o+n,aw⟩:=by
 rw[eg h,wz,uV]
def z3a (P:bv) (fO:Nat):Prop:=∀(w:bu) (va sb so la ca lb cb:Nat) (c c':Array bo) (T T':ce),va≠sb->w.heap[va]?=av (.cells c T (0,0))->w.heap[sb]?=av (.cells c' T' (0,0))->c'.size≠0->
 Cv.Ext P fO #[.slice (av ⟨va,0,aw⟩) la ca,.slice (av ⟨sb,so,aw⟩) lb cb] w (.bool au) w
def z1l {P : Program} {fO tS tB e sz oF : Nat} {z : Array Value} {fn : Func} (hf : P.funcs[fO]? = some fn) (B2 : (fn.name == "runtime.NumGoroutine") = false) (hb : fn.body.isNone = true) (hn : Extern.findNext fn = none) (he : Extern.find fn = some (Extern.SlicesOverlaps.overlaps #[tS, tS] #[tB]))
 (hi:vY P tS=av (e,sz,oF,z)):z3a P fO:=by
 obtain⟨i,zv,q1,q2,rfl,rfl,q5,rfl⟩:=jI hi;intro w va sb so la ca lb cb c c' T T' jy h1 h2 h3;unfold Cv.Ext;rw[run_callFunc_extern hf B2 hb hn he,Lib.run_overlaps_apart w tS tB e q1 i.size (λw=>Cv.run_sizeOf q2 w) ⟨va,0,aw⟩ ⟨sb,so,aw⟩ la ca lb cb jy T T' c.size c'.size (by simp[World.shape?,h1]) (by simp[World.shape?,h2]) h3 (by simp[World.frozen?,h1]) (by simp[World.frozen?,h1])];rfl
def xJb {P:bv} {tS tI e sz oF fO fR:Nat} {z:Array bo} (hi:vY P tS=av (e,sz,oF,z)) (hz:z.size=sz) (Fi:0<oF) (pn:0<sz) (h2:LY P tS=ar) (IS:P.underlying tI=av (.int .i64)) (hov:z3a P fO)
 {k:Ko} {w:bu} {L:List HP} {s v:Option bz} {sn sk vn vk i:Nat} {xs ys:List bo} (H:Hp k w (ow e sz s sn sk xs::ow e sz v vn vk ys::L)) (h1:∀u∈xs,u.ou=ar) (hy:∀u∈ys,u.ou=ar) (xd:i<=sn) (hv:0<vn)
 (hb:(sn+vn)*oF<=140737488355328):
 y8t P tS tI sz fO fR s sn sk i v vn vk w λen w'=>∃a kk,en= .returned (.slice a (sn+vn) kk)/\Hp k w' (ow e sz a (sn+vn) kk (xs.take (i*sz)++ys++xs.drop (i*sz))::ow e sz v vn vk ys::L):=by
 obtain⟨CQ,IW⟩:=H.len;obtain⟨DB,hvk⟩:=H.swap.len;have hnm:sn+vn<=140737488355328:=tz (Nat.le_mul_of_pos_right _ Fi) hb;have w1:ag.wrap ((sn:Int)+(vn:Int))=((sn+vn:Nat):Int):=by rw[Cv.wrap_i64 X_ X_];simp
 have w2:ag.wrap ((i:Int)+(vn:Int))=((i+vn:Nat):Int):=by rw[Cv.wrap_i64 X_ X_];simp
 have w3:ag.wrap (((sn+vn:Nat):Int)-(i:Int))=((sn+vn-i:Nat):Int):=by rw[Cv.wrap_i64 X_ X_];omega
 have hle:i*sz<=xs.length:=by rw[CQ];exact xv _ xd
 have IQ:(xs.take (i*sz)).length=i*sz:=by rw[nr];omega
 have Mu:(xs.drop (i*sz)).length=(sn-i)*sz:=by rw[pj,CQ,Nat.sub_mul]
 have C1:(i+vn)*sz=i*sz+vn*sz:=Ac _ _ _;have K3:(sn+vn)*sz=i*sz+vn*sz+(sn-i)*sz:=by rw[<- Ac,<- Ac];congr 1;omega
 have Ji:(xs.take (i*sz)++ys++xs.drop (i*sz)).length=(sn+vn)*sz:=by
  rw[ix,ix,IQ,DB,Mu,K3]
 unfold y8t;simp only[uc,w1,w2,w3,ov];refine⟨⟨oM,oM,IW⟩,W_ (λc=>absurd c (by simp;omega)) λ_=>W_ (λc=> ?_) λc=>W_ (λhc=> ?_) λhc=> ?_⟩
 ·have c:i=sn:=by have:(i:Int)=(sn:Int):=i9 c
                  omega
  subst c;obtain⟨a',c',w',r1,r2⟩:=H.append (rt:=tS) hi h2 (x:= .slice v vn vk) (m:=vn) (ys:=ys) (.inl ⟨v,vk,rfl,H.swap.Jb⟩) hy hz Fi hb;refine⟨a',_,c',w',r1,a',c',rfl,?_⟩;rw[ng X_,IK X_,oQ];exact r2
 ·have c:i<sn:=by have:¬(i:Int)=(sn:Int):=i9 c
                  omega
  have hc:sk<sn+vn:=by have:=su hc;omega
  obtain⟨inf,zv,q1,q2,q3,q4,q5,q6⟩:=jI hi;subst q3 q4 q6;rcases H.oG with⟨_,e0,_⟩|⟨b,r,rfl,g1,g2,g3,H0⟩
  ·omega
  rcases H0.swap.oG with⟨_,e0,_⟩|⟨vb,rv,rfl,g4,g5,g6,H1⟩
  ·omega
  have hold:(ba inf.size i (.slice (av ⟨b,0,aw⟩) i sk)).run P w.drew= .ok (xs.take (i*inf.size)).toArray w.drew:=by
   have SL:=(H1.drew).swap.get;have:=fE (P:=P) (o:=0) (n:=i*inf.size) SL (by rw[ix];omega);unfold ba;rw[this,Ei,zi hle]
  have Uw:=zTm (need:=sn+vn) (cap:=sk) oM;have aa8:=xv inf.bytes Uw;have e2:2*(sn+vn)*inf.bytes=2*((sn+vn)*inf.bytes):=by rw[Nat.mul_assoc]
  have hkb:(sn+vn-i)*inf.bytes<=(sn+vn)*inf.bytes:=xv _ oM;have SD:=Lib.run_append_grow_zeros (P:=P) w tS tI tS e inf zv .i64 .i64 q1 IS q2 q5 (av ⟨b,0,aw⟩) i sk (xs.take (i*inf.size)) hold (sn+vn-i) oM pn oM oM oM (by rw[show i+(sn+vn-i)=sn+vn by omega];omega);rw[show i+(sn+vn-i)=sn+vn by omega]at SD;have hG:sn+vn<=grownCap w (sn+vn) sk e:=grownCap_ge w (sn+vn) sk e;generalize grownCap w (sn+vn) sk e=G at SD hG;have Ge:(xs.take (i*inf.size)).toArray++ay zv.cells (sn+vn-i)++ay zv.cells (G-(sn+vn))=(xs.take (i*inf.size)++((ay zv.cells (sn+vn-i)).toList++(ay zv.cells (G-(sn+vn))).toList)).toArray:=by
   apply Array.ext';simp
  rw[Ge]at SD;have Yr:((ay zv.cells (sn+vn-i)).toList++(ay zv.cells (G-(sn+vn))).toList).length=(sn+vn-i)*inf.size+(G-(sn+vn))*inf.size:=by
   rw[ix,Kf,Kf,cd,cd,hz]
  generalize (ay zv.cells (sn+vn-i)).toList++(ay zv.cells (G-(sn+vn))).toList=Z at SD Yr;have hZ2:(sn+vn-i)*inf.size=vn*inf.size+(sn-i)*inf.size:=by rw[<- Ac];congr 1;omega
  have H2:=(H1.drew).new (.cells (xs.take (i*inf.size)++Z).toArray e);have hB:w.drew.heap.size=w.heap.size:=rfl;rw[hB]at H2;have CT:=Wb (P:=P) (sT:=tS) (ty:=tI) hi (g:=w.heap.size) (o:=0+i*inf.size) (dLen:=sn+vn-i) (dCap:=G-i) (b:=vb) (so:=0) (sLen:=vn) (sCap:=vk) (n:=vn) H2.get H2.swap.get (FL oM) (by rw[ix];omega) (by rw[ix,IQ,Yr];omega) (by
   rw[Ei,zi X_,ng X_];exact hy)
  rw[Ei,zi X_,ng (show ys.length<=vn*inf.size by omega),nt]at CT;have es1:lg (xs.take (i*inf.size)++Z) (i*inf.size) ys=xs.take (i*inf.size)++ys++Z.drop ys.length:=by
   have:=z0j (xs.take (i*inf.size)) Z ys;rwa [IQ]at this
  rw[es1]at CT;have H3:=(H2.zj (.cells (xs.take (i*inf.size)++ys++Z.drop ys.length).toArray e)).drew;have SF:(xs++r).drop (i*inf.size)=xs.drop (i*inf.size)++r:=HN hle;have Cp:=Wb (P:=P) (sT:=tS) (ty:=tI) hi (g:=w.heap.size) (o:=0+(i+vn)*inf.size) (dLen:=sn+vn-(i+vn)) (dCap:=G-(i+vn)) (b:=b) (so:=0+i*inf.size) (sLen:=sn-i) (sCap:=sk-i) (n:=sn-i) H3.get H3.swap.drop.swap.get (FL oM) (by rw[ix,CQ,nt,<- Ac];exact tz (xv _ oM) (Nat.le_add_right _ _)) (by
   rw[ix,ix,IQ,DB,pj,Yr];omega) (by
   rw[nt,SF,zi X_,ng X_];exactλu hu=>h1 u (Kg hu))
  rw[nt,nt,SF,zi X_,ng (show(xs.drop (i*inf.size)).length<=(sn-i)*inf.size by omega)]at Cp;have es2:lg (xs.take (i*inf.size)++ys++Z.drop ys.length) ((i+vn)*inf.size) (xs.drop (i*inf.size))=xs.take (i*inf.size)++ys++xs.drop (i*inf.size)++(Z.drop ys.length).drop (xs.drop (i*inf.size)).length:=by
   have:=z0j (xs.take (i*inf.size)++ys) (Z.drop ys.length) (xs.drop (i*inf.size));rwa [show(xs.take (i*inf.size)++ys).length=(i+vn)*inf.size by rw[ix,IQ,DB,C1]]at this
  rw[es2]at Cp;refine⟨⟨oM,oM⟩,_,_,_,_,SD,?_⟩;rw[NU (show G≠i by omega),nt];refine⟨⟨oM,oM,hG⟩,_,_,CT,?_⟩;rintro _ rfl;rw[NU (show G≠i+vn by omega),NU (show sk≠i by omega),nt,nt];refine⟨⟨oM,oM,hG⟩,⟨oM,oM,IW⟩,_,_,Cp,_,_,rfl,?_⟩;have H4:=H3.zj (.cells (xs.take (i*inf.size)++ys++xs.drop (i*inf.size)++(Z.drop ys.length).drop (xs.drop (i*inf.size)).length).toArray e);have H5:=H4.AP (n:=sn+vn) (c:=G) (sz:=inf.size) Ji (by
   rw[ix,Ji,pj,pj,Yr,DB,Mu];have:G*inf.size=(sn+vn)*inf.size+(G-(sn+vn))*inf.size:=by rw[<- Ac];congr 1;omega
   omega) hG
  have H6:=H5.swap.AP (n:=vn) (c:=vk) (sz:=inf.size) g4 g5 g6;exact(H6.swap.perm (List.Perm.trans ((List.Perm.swap _ _ _).cons _) (List.Perm.swap _ _ _))).drop
 ·have c:i<sn:=by have:¬(i:Int)=(sn:Int):=i9 c
                  omega
  have hc:sn+vn<=sk:=by have:=Mg hc;omega
  rcases H.oG with⟨_,e0,_⟩|⟨b,r,rfl,g1,g2,g3,H0⟩
  ·omega
  rcases H0.swap.oG with⟨_,e0,_⟩|⟨vb,rv,rfl,g4,g5,g6,H1⟩
  ·omega
  have OY:vn*sz<=r.length:=by
   have e1:(sn+vn)*sz<=sk*sz:=xv _ hc;rw[ix,g1]at g2;rw[Ac]at e1;omega
  have H2:=H1.swap;have jy:vb≠b:=Hp.apart H1;have SF:(xs++r).drop (i*sz)=xs.drop (i*sz)++r:=HN hle;have hex:=hov w vb b (0+(i+vn)*sz) vn vk (sn+vn-(i+vn)) (sk-(i+vn)) (ys++rv).toArray (xs++r).toArray e e jy H1.get H2.get (by
   rw[Kb,ix,g1];have:=Nat.mul_pos (show 0<sn by omega) pn;omega)
  have H3:=H2.drew;have CT:=Wb (P:=P) (sT:=tS) (ty:=tI) hi (g:=b) (o:=0+(i+vn)*sz) (dLen:=sn+vn-(i+vn)) (dCap:=sk-(i+vn)) (b:=b) (so:=0+i*sz) (sLen:=sn+vn-i) (sCap:=sk-i) (n:=sn-i) H3.get H3.get (by rw[show sn+vn-(i+vn)=sn-i by omega];exact Nat.min_eq_right oM) (by
   rw[ix,g1,nt,<- Ac];exact tz (xv _ oM) (Nat.le_add_right _ _)) (by
   rw[ix,g1,nt,<- Ac,show i+vn+(sn-i)=sn+vn by omega,Ac];omega) (by
   rw[nt,SF,zi X_,ng X_];exactλu hu=>h1 u (Kg hu))
  rw[nt,nt,SF,zi X_,ng (show(xs.drop (i*sz)).length<=(sn-i)*sz by omega)]at CT;have H4:=H3.zj (.cells (lg (xs++r) ((i+vn)*sz) (xs.drop (i*sz))).toArray e);have xe:(lg (xs++r) ((i+vn)*sz) (xs.drop (i*sz))).length=(xs++r).length:=by
   simp only[lg,ix,nr,Mu];rw[pj,ix,g1,C1];have:sn*sz=i*sz+(sn-i)*sz:=by rw[<- Ac];congr 1;omega
   omega
  have Cp:=Wb (P:=P) (sT:=tS) (ty:=tI) hi (g:=b) (o:=0+i*sz) (dLen:=sn+vn-i) (dCap:=sk-i) (b:=vb) (so:=0) (sLen:=vn) (sCap:=vk) (n:=vn) H4.get H4.swap.get (FL oM) (by rw[ix];omega) (by
   rw[xe,ix,nt];omega) (by
   rw[Ei,zi X_,ng X_];exact hy)
  rw[Ei,zi X_,ng (show ys.length<=vn*sz by omega),nt]at Cp;have es:lg (lg (xs++r) ((i+vn)*sz) (xs.drop (i*sz))) (i*sz) ys=(xs.take (i*sz)++ys++xs.drop (i*sz))++r.drop (vn*sz):=by
   have:=yLr (l:=i*sz) (m:=vn*sz) (xs:=xs) (r:=r) (ys:=ys) hle DB OY;simp only[lg,C1];exact this
  rw[es]at Cp;refine⟨⟨oM,oM⟩,⟨oM,oM,oM⟩,au,w,?_,W_ (λ_=> ?_) (λc=>absurd c Z8)⟩
  ·rw[NU (show sk≠i+vn by omega)];exact hex
  rintro _ rfl;rw[NU (show sk≠i+vn by omega),NU (show sk≠i by omega),nt,nt];refine⟨⟨oM,oM,oM⟩,⟨oM,oM,oM⟩,_,_,CT,⟨oM,oM,oM⟩,_,_,Cp,_,_,rfl,?_⟩;have H5:=H4.zj (.cells (xs.take (i*sz)++ys++xs.drop (i*sz)++r.drop (vn*sz)).toArray e);have H6:=H5.AP (n:=sn+vn) (c:=sk) (sz:=sz) Ji (by
   rw[ix,Ji,pj,<- g2,ix,g1,Ac];omega) hc
  exact(H6.swap.AP (n:=vn) (c:=vk) (sz:=sz) g4 g5 g6).swap
structure Bv where
 fa:Q_ D
 el:List D
 i:Nat
def Ot (e sz oF:Nat):gh where
 ι:=Bv
 pat:=λi=>[.own 0,.d (.v (.int .i64 i.i)),.own 1]
 pre:=λi=>[.own e sz i.fa,.own e sz [i.el]]
 dp:=λi=>i.i<=i.fa.length/\(i.fa.length+1)*oF<=140737488355328
 alts:=λi=>[{o:=Unit,res:=λ_=> .own 2,post:=λ_=>[.gone,.gone,.own e sz (i.fa.take i.i++i.el::i.fa.drop i.i)],rel:=λ_=>True}]
def A4 {P:bv} (hm:P.follows .mixedOrders=ar) {tS tI e sz oF fI fO fR:Nat} {z:Array bo} {fn:Func} {c:Code} (hf:P.funcs[fI]? =av fn) (hb:fn.body=av c) (BJ:gJ P fI=ar) (oZ:xx fn.ntmps c=ar) (Mt:okF [] c=ar) (MM:Nat.ble 3 fn.ntmps=ar)
 (hi:vY P tS=av (e,sz,oF,z)) (hz:z.size=sz) (Fi:0<oF) (pn:0<sz) (h2:LY P tS=ar) (IS:P.underlying tI=av (.int .i64)) (hov:z3a P fO)
 (heq:∀(s:Option bz) (sn sk:Nat) (i:Int) (v:Option bz) (vn vk:Nat) (w:bu) (R:Ending->bu->Prop),y8t P tS tI sz fO fR s sn sk i v vn vk w R=Fl P [] c (Xb P fn R) (gF [.slice s sn sk,.int .i64 i,.slice v vn vk]) w):
 (Ot e sz oF).ok P fI:=by
 intro i hc k L E w ys R hv;obtain⟨c1,c2⟩:i.i<=i.fa.length/\(i.fa.length+1)*oF<=140737488355328:=hc;simp only[Ot,ic,VR,DR]at hv;obtain⟨y0,_,rfl,⟨l0,e0,_⟩,y1,_,rfl,⟨rfl,_⟩,y2,_,rfl,⟨l2,e2,_⟩,rfl⟩:=hv;obtain⟨s,sk,xs,aab,g1,xa,hu,H⟩:=R.tb (n:=0) (t:=e) (sz:=sz) (fa:=i.fa) rfl;rw[e0]at g1;cases g1;have o5:∃v vk zs,y2= .slice v 1 vk/\iC E.F i.el zs/\i.el.length=sz/\Hp k w (ow e sz s i.fa.length sk xs::ow e sz v 1 vk zs::fz E.F::L):=by
  obtain⟨hk,hs,hh⟩:=H;cases hh with
  |cons ha jb hd hr=>
   simp only[Ot,g9,uG,jg,Bz,uu,wy]at hr;cases hr with
   |cons np K4 AJ xz=>
    rcases np with⟨q,_⟩|⟨⟨IP,tj⟩,q1,q2⟩
    ·cases q
    ·simp only at q1;rw[e2]at q1;cases q1;simp only[fw]at q2;obtain⟨a,kk,zs,rfl,q3,q4,q5⟩:=q2;simp only[Bg,List.flatten_nil,oQ]at q3;exact⟨a,kk,zs,rfl,q3,q4 _ iY,hk,_,.cons ha jb hd (.cons q5 K4 AJ xz)⟩
 obtain⟨v,vk,zs,rfl,OU,oT,H2⟩:=o5;have hv:=xJb (fR:=fR) (fO:=fO) hi hz Fi pn h2 IS hov (i:=i.i) H2 xa.one OU.one c1 oM c2;have xk:=zOr (args:=[.slice s i.fa.length sk,.int .i64 i.i,.slice v 1 vk]) hm hf hb [] oZ Mt MM (heq s i.fa.length sk i.i v 1 vk w _) hv;refine mZ BJ (xk.mono ?_);rintro en w' ⟨a,kk,rfl,H3⟩;have H4:Hp k w' (ow e sz a (i.fa.take i.i++i.el::i.fa.drop i.i).length kk (xs.take (i.i*sz)++zs++xs.drop (i.i*sz))::(([]:List (Nat×fq)).map (ie E)++fz E.F::L)):=by
  have:(i.fa.take i.i++i.el::i.fa.drop i.i).length=i.fa.length+1:=by
   rw[ix,iG,nr,pj];omega
  rw[this];exact H3.swap.drop
 obtain⟨E',r1,r2,r3⟩:=aJ (nx:=2) R.nx (by
  rw[OF,Bg,<- tG i.i hu,<- rZ i.i hu,<- jd];exact((xa.take _).append OU).append (xa.drop _)) (λx hx=>by
   rcases oH.1 hx with hx|hx
   ·exact hu x (OG hx)
   ·rcases j'.1 hx with rfl|hx
    ·exact oT
    ·exact hu x (Kg hx)) H4
 have hl:(i.fa.take i.i++i.el::i.fa.drop i.i).length=i.fa.length+1:=by
  rw[ix,iG,nr,pj];omega
 rw[hl]at r3;refine⟨_,rfl,_,tq.2 rfl,(),Y_,E',r1,r3,⟨r2.nx,?_⟩⟩;have q1:=((@gD k w' True _).2 ⟨Y_,r2.hp⟩).imp (B:=ie E' (1,.gone)) λx hx=> .inl ⟨rfl,hx.2⟩
 have q2:=((@gD k w' True _).2 ⟨Y_,q1⟩).imp (B:=ie E' (0,.gone)) λx hx=> .inl ⟨rfl,hx.2⟩
 exact q2
def Hv:gh:=fp Ew (λi=>[zB i.side,zB i.x,zB i.y]) i6 (λ_=>True) (λi=>yM (jo i.side i.x i.y)) i6
@[reducible] def xGe (s:Slot):V:= .agg [yM s.used,zB s.n,zB s.id,zB s.dr,yM s.top,zB s.queue,zB s.ahead,zB s.back]
def Ni:gh:=fp Slot (λs=>[xGe s]) i6 (λ_=>True) (λs=>yM (!s.used)) i6
def jS (l:List Slot):Int:=JH (l.findIdx? λs=> !s.used)
def Cd:gh:=fp (List Slot) (λ_=>[.own 0,.fn 264 [] []]) (λl=>[.own 389 8 (l.map zS)]) (λl=>l.length<=1000000) (λl=>zB (jS l)) (λl=>[.own 389 8 (l.map zS)])
def yQy (l:List Slot):List gu:=[{ι:=Nat,du:=λj=>[(8,zB j)],rows:=λ_=>[]}]
def pG:aV:=⟨-1,-1,0,0⟩
def dv.sc (a:dv):dv:={a with dy:=a.dy++[pG]}
def NG:gh:=fp dv (λ_=>[.nm 0 0]) (λa=>[wV a]) (λa=>a.dy.length<=1000000) (λa=>zB a.dy.length) (λa=>[wV a.sc])
structure Oj where
 a:dv
 n:Int
 t:Bool
def dv.iz (a:dv) (n:Int):Bool:=decide (0<=n) && (decide (n<a.du.length) && (a.du.getD n.toNat iK).used)
def dv.mq (a:dv) (n:Int) (t:Bool):dv:=if a.iz n=ar then{a with du:=a.du.modify n.toNat λs=>{s with top:=t}}else a
def Lm:gh:=fp Oj (λi=>[.nm 0 0,zB i.n,yM i.t]) (λi=>[wV i.a]) (λi=>i.a.du.length<=1000000) (λi=>zB (if i.a.iz i.n=ar then 0 else 26)) (λi=>[wV (i.a.mq i.n i.t)])
structure DM where
 a:dv
 n:Int
 id:Int
 dr:Int
 top:Bool
def dv.put (a:dv) (n id dr:Int) (top:Bool):dv:=
 let q:=a.dy.getD n.toNat pG
 let k:=jS a.du
 let sl:=a.du.set k.toNat ⟨ar,k,id,dr,top,n,q.last,-1⟩
 ⟨if q.last= -1 then sl else sl.modify q.last.toNat λs=>{s with back:=k},a.dy.set n.toNat ⟨if q.last= -1 then k else q.first,k,ag.wrap (q.total+dr),ag.wrap (q.count+1)⟩,ag.wrap (a.free-1)⟩
def dv.push (a:dv) (n id dr:Int) (top:Bool):dv×Int×Int:=
 if n<0\/a.dy.length<=n then(a,0,26)else if dr<1\/1000000<dr then(a,0,24)else if a.free=0 then(a,0,13)else(a.put n id dr top,jS a.du,0)
def dv.fit (a:dv):Prop:=a.du.length<=1000000/\(a.free≠0->∃s∈a.du,s.used=au)/\∀q∈a.dy,q.last= -1\/(0<=q.last/\q.last<a.du.length)
def Hc:gh:=fp DM (λi=>[.nm 0 0,zB i.n,zB i.id,zB i.dr,yM i.top]) (λi=>[wV i.a]) (λi=>i.a.fit) (λi=> .je [zB (i.a.push i.n i.id i.dr i.top).2.1,zB (i.a.push i.n i.id i.dr i.top).2.2]) (λi=>[wV (i.a.push i.n i.id i.dr i.top).1])
@[reducible] def JL (b:dq):List fq:=[zR b 0,zR b 1,zR b 2,zR b 3,zR b 4,zR b 5]
structure oL where
 b:dq
 dm:Int
def yB (s:Int) (l:List xX) (dm:Int):Nat:=(l.takeWhile λr=>jo s r.dm dm).length
def jT (s:Int) (l:List xX) (dm:Int):Bool:=match l[yB s l dm]? with
 |some r=>decide (r.dm=dm)
 |none=>au
def dq.dz (b:dq) (s:Int):List xX:=if s=1 then b.fv else b.fc
def yQt (s:Int):gh:=fp oL (λi=>[.nm 0 0,zB s,zB i.dm]) (λi=>JL i.b) (λi=>i.b.small) (λi=> .je [zB (yB s (i.b.dz s) i.dm),yM (jT s (i.b.dz s) i.dm)]) (λi=>JL i.b)
def GV:gh:=yQt 1
def GU:gh:=yQt 2
def y4p:List gu:=[{ι:=Nat,du:=λj=>[(9,zB j)],rows:=λ_=>[]}]
def lh (l:List (Int×Place)) (k:Int):Option Place:=(l.find? λx=>decide (x.1=k)).map (·.2)
def lV (k:Int) (v:Place):List (Int×Place)->List (Int×Place)
 |[]=>[(k,v)]
 |(a,b)::l=>if k=a then(a,v)::l else(a,b)::lV k v l
structure CX where
 b:dq
 id:Int
def dq.nf (b:dq) (s:Int):Bool:=if s=1 then b.gv else b.gq
def dq.jc (b:dq) (s:Int):Int:=if s=1 then b.iM else b.iL
def dq.iX (b:dq) (s:Int):dv:=if b.nf s=ar then(match lh b.at_ (b.jc s)with
 |some o=>if o.side=s then b.a.mq o.slot au else b.a
 |none=>b.a)else b.a
def dq.jm (b:dq) (id s:Int):dq:=if s=1 then{b with a:=b.iX s,iM:=id,gv:=ar}else{b with a:=b.iX s,iL:=id,gq:=ar}
def yPt (s:Int):gh:=fp CX (λi=>[.nm 0 0,zB i.id,zB s]) (λi=>JL i.b) (λi=>i.b.small) (λ_=>pW) (λi=>JL (i.b.jm i.id s))
def GQ:gh:=yPt 1
def GP:gh:=yPt 2
def dq.iU (b:dq):Int×List Int×dv:=if b.spare.length=0 then(b.a.dy.length,b.spare,b.a.sc)else(b.spare.getD (b.spare.length-1) 0,b.spare.take (b.spare.length-1),b.a)
def dq.ins (b:dq) (s dm:Int):List xX:=(b.dz s).take (yB s (b.dz s) dm)++⟨dm,b.iU.1⟩::(b.dz s).drop (yB s (b.dz s) dm)
def dq.gf (b:dq) (s dm:Int):dq×Int:=
 if jT s (b.dz s) dm=ar then(b,((b.dz s).getD (yB s (b.dz s) dm) ⟨0,0⟩).queue)
 else(if s=1 then{b with a:=b.iU.2.2,fv:=b.ins s dm,spare:=b.iU.2.1}else{b with a:=b.iU.2.2,fc:=b.ins s dm,spare:=b.iU.2.1},b.iU.1)
def y0o (b:dq):fq:= .cells [.nm 1 0,.own 6,.own 3,.mp 4,zB b.iM,zB b.iL,.own 7,yM b.gv,yM b.gq] 284
def yWo (b:dq):fq:= .cells [.nm 1 0,.own 2,.own 6,.mp 4,zB b.iM,zB b.iL,.own 7,yM b.gv,yM b.gq] 284
@[reducible] def xCi (b:dq):List fq:=[y0o b,zR b 1,.gone,zR b 3,zR b 4,.gone,zR b 2,zR b 5]
@[reducible] def y8v (b:dq):List fq:=[yWo b,zR b 1,zR b 2,.gone,zR b 4,.gone,zR b 3,zR b 5]
@[reducible] def dq.fit (b:dq):Prop:=b.a.fit/\b.a.dy.length<=100000/\b.fv.length<=100000/\b.fc.length<=100000/\b.spare.length<=100000
def D2:gh:=fp oL (λi=>[.nm 0 0,zB 1,zB i.dm]) (λi=>JL i.b) (λi=>i.b.fit) (λi=>zB (i.b.gf 1 i.dm).2) (λi=>xCi (i.b.gf 1 i.dm).1)
def D1:gh:=fp oL (λi=>[.nm 0 0,zB 2,zB i.dm]) (λi=>JL i.b) (λi=>i.b.fit) (λi=>zB (i.b.gf 2 i.dm).2) (λi=>y8v (i.b.gf 2 i.dm).1)
def Ug:gh:=Ot 340 2 16
def z6n (i:Ew):Prop:=
 dp (i.side==1) (dx (jo i.side i.x i.y=decide (i.x>i.y)/\True)) (dx (jo i.side i.x i.y=decide (i.x<i.y)/\True))
def yRj (s:Slot):Prop:=
 dx ((!s.used)=!s.used/\True)
def z5i (l:List Slot):Prop:=
 ∃(a:Nat),(a:Int)=0/\∃(b:Nat->Prop),∃(c:Nat->Nat),b a/\∀(d:Nat),b d->dp (decide ((d:Int)<((aa zS l).length:Int))) ((0<=(d:Int)/\(d:Int)<((aa zS l).length:Int))/\∃(e:Bool),∃(f:Int),∃(g:Int),∃(h:Int),∃(j:Bool),∃(k:Int),∃(m:Int),∃(n:Int),zC (aa zS l) (d:Int).toNat 0 8=av [D.v (.bool e),dI f,dI g,dI h,D.v (.bool j),dI k,dI m,dI n]/\∃(p:Slot),p.used=e/\p.n=f/\p.id=g/\p.dr=h/\p.top=j/\p.queue=k/\p.ahead=m/\p.back=n/\True/\ff (dp (!p.used) (dx (jS l=(d:Int)/\dk (aa zS l)/\True)) (∃(r:Nat),QM r d b c (dk (ak 389 8 (aa zS l)))))) (dx (jS l=(-1)/\dk (aa zS l)/\True))
def yVc (a:dv):Prop:=
 ((aa zQ a.dy).length+1)*(32:Nat)<=(140737488355328:Nat)/\dx ((a.dy.length:Int)=ag.wrap (((aa zQ a.dy++[[dI (-1),dI (-1),dI 0,dI 0]]).length:Int)-1)/\dk a.free/\dk (aa zS a.du)/\aa zQ (a.dy++[pG])=aa zQ a.dy++[[dI (-1),dI (-1),dI 0,dI 0]]/\True)
def WE (a:Oj):Prop:=dx ((if a.a.iz a.n=ar then(0:Int)else(26:Int))=26/\(a.a.mq a.n a.t).free=a.a.free/\aa zS (a.a.mq a.n a.t).du=aa zS a.a.du/\aa zQ (a.a.mq a.n a.t).dy=aa zQ a.a.dy/\True)
def y4e (i:Oj):Prop:=
 dp (decide (i.n<0)) (WE i) (dp (decide (i.n>=((aa zS i.a.du).length:Int))) (WE i) ((0<=i.n/\i.n<((aa zS i.a.du).length:Int))/\∃(a:Bool),zC (aa zS i.a.du) i.n.toNat 0 1=av [D.v (.bool a)]/\dp (!a) (WE i) ((0<=i.n/\i.n<((aa zS i.a.du).length:Int))/\i.n.toNat<(aa zS i.a.du).length/\dx ((if i.a.iz i.n=ar then(0:Int)else(26:Int))=0/\(i.a.mq i.n i.t).free=i.a.free/\aa zS (i.a.mq i.n i.t).du=zJ (aa zS i.a.du) i.n.toNat 4 [D.v (.bool i.t)]/\aa zQ (i.a.mq i.n i.t).dy=aa zQ i.a.dy/\True))))
def yN (a:DM):=(a.a.push a.n a.id a.dr a.top)
def eE (a:DM):Prop:=(yN a).fst.free=a.a.free/\aa zS (yN a).fst.du=aa zS a.a.du/\aa zQ (yN a).fst.dy=aa zQ a.a.dy/\True
def zGt (a:DM):Prop:=dx ((yN a).snd.fst=0/\(yN a).snd.snd=26/\eE a)
def zHd (a:DM):Prop:=dx ((yN a).snd.fst=0/\(yN a).snd.snd=24/\eE a)
def l9 (a:DM) (b:List Slot):=(zJ (zJ (aa zQ a.a.dy) a.n.toNat 0 [dI (jS b)]) a.n.toNat 1 [dI (jS b)])
def eZ (a:DM) (b:List Slot) (c:Int):=(zJ (l9 a b) a.n.toNat 2 [dI (ag.wrap (c+a.dr))])
def eR (a:DM) (b:List Slot):=(zJ (aa zQ a.a.dy) a.n.toNat 1 [dI (jS b)])
def lX (a:DM) (b:List Slot) (c:Int):=(zJ (eR a b) a.n.toNat 2 [dI (ag.wrap (c+a.dr))])
def yVn (i:DM):Prop:=
 dp (decide (i.n>=0)) (dp (!decide (i.n<((aa zQ i.a.dy).length:Int))) (zGt i) (dp (decide (i.dr<1)) (zHd i) (dp (decide (i.dr>1000000)) (zHd i) (dp (i.a.free==0) (dx ((yN i).snd.fst=0/\(yN i).snd.snd=13/\eE i)) (∃(a:List Slot),aa zS a=aa zS i.a.du/\a.length<=1000000/\ff ((0<=i.n/\i.n<((aa zQ i.a.dy).length:Int))/\∃(c:Int),zC (aa zQ i.a.dy) i.n.toNat 1 1=av [dI c]/\(0<=jS a/\jS a<((aa zS a).length:Int))/\(jS a).toNat<(aa zS a).length/\∃(d:Int),zC (aa zQ i.a.dy) i.n.toNat 1 1=av [dI d]/\dp (d==(-1)) (i.n.toNat<(aa zQ i.a.dy).length/\i.n.toNat<(zJ (aa zQ i.a.dy) i.n.toNat 0 [dI (jS a)]).length/\∃(e:Int),zC (l9 i a) i.n.toNat 2 1=av [dI e]/\i.n.toNat<(l9 i a).length/\∃(f:Int),zC (eZ i a e) i.n.toNat 3 1=av [dI f]/\i.n.toNat<(eZ i a e).length/\dx ((yN i).snd.fst=jS a/\(yN i).snd.snd=0/\(yN i).fst.free=ag.wrap (i.a.free-1)/\aa zS (yN i).fst.du=zJ (aa zS a) (jS a).toNat 0 [D.v (.bool ar),dI (jS a),dI i.id,dI i.dr,D.v (.bool i.top),dI i.n,dI c,dI (-1)]/\aa zQ (yN i).fst.dy=zJ (eZ i a e) i.n.toNat 3 [dI (ag.wrap (f+1))]/\True)) (∃(e:Int),zC (aa zQ i.a.dy) i.n.toNat 1 1=av [dI e]/\(0<=e/\e<((zJ (aa zS a) (jS a).toNat 0 [D.v (.bool ar),dI (jS a),dI i.id,dI i.dr,D.v (.bool i.top),dI i.n,dI c,dI (-1)]).length:Int))/\e.toNat<(zJ (aa zS a) (jS a).toNat 0 [D.v (.bool ar),dI (jS a),dI i.id,dI i.dr,D.v (.bool i.top),dI i.n,dI c,dI (-1)]).length/\i.n.toNat<(aa zQ i.a.dy).length/\∃(f:Int),zC (eR i a) i.n.toNat 2 1=av [dI f]/\i.n.toNat<(eR i a).length/\∃(g:Int),zC (lX i a f) i.n.toNat 3 1=av [dI g]/\i.n.toNat<(lX i a f).length/\dx ((yN i).snd.fst=jS a/\(yN i).snd.snd=0/\(yN i).fst.free=ag.wrap (i.a.free-1)/\aa zS (yN i).fst.du=zJ (zJ (aa zS a) (jS a).toNat 0 [D.v (.bool ar),dI (jS a),dI i.id,dI i.dr,D.v (.bool i.top),dI i.n,dI c,dI (-1)]) e.toNat 7 [dI (jS a)]/\aa zQ (yN i).fst.dy=zJ (lX i a f) i.n.toNat 3 [dI (ag.wrap (g+1))]/\True)))))))) (zGt i)
def qD (a:oL):=((yB 1 (a.b.dz 1) a.dm):Int)
def u9 (a:oL):=((aa zD a.b.fv).length:Int)
@[reducible] def QP (a:dq)(R:Prop):Prop:=aa zD a.fv=aa zD a.fv/\aa zD a.fc=aa zD a.fc/\jv a.at_=jv a.at_/\iE a.spare=iE a.spare/\R
@[reducible] def Q9 (a:dq)(R:Prop):Prop:=a.iM=a.iM/\a.iL=a.iL/\a.gv=a.gv/\a.gq=a.gq/\R
def bS (a:oL):Prop:=Q9 a.b (aj dv 3 zI a.b.a=zR a.b 1/\QP a.b (True))
def zFo (a:Nat) (b:oL):Prop:=(0<=(a:Int)/\(a:Int)<(u9 b))/\∃(c:Int),zC (aa zD b.b.fv) (a:Int).toNat 0 1=av [dI c]/\dx ((qD b)=(a:Int)/\jT 1 (b.b.dz 1) b.dm=(c==b.dm)/\bS b)
def zFm (a:oL) (b:Nat):Prop:=dx ((qD a)=(b:Int)/\jT 1 (a.b.dz 1) a.dm=au/\bS a)
def lP (a:Nat) (b:Nat->Prop) (c:Nat->Nat) (d:oL):Prop:=∃(e:Nat),QM e a b c (dk (zR d.b 0)/\dk (zR d.b 1)/\dk (zR d.b 2)/\dk (zR d.b 3)/\dk (zR d.b 4)/\dk (zR d.b 5))
def lY (a:Nat) (b:oL):=(decide ((a:Int)<(u9 b)))
def yRm (i:oL):Prop:=
 ∃(a:Nat),(a:Int)=0/\∃(b:Nat->Prop),∃(c:Nat->Nat),b a/\∀(d:Nat),b d->dp (lY d i) ((0<=(d:Int)/\(d:Int)<(u9 i))/\∃(e:Int),zC (aa zD i.b.fv) (d:Int).toNat 0 1=av [dI e]/\∃(f:Ew),f.side=1/\f.x=e/\f.y=i.dm/\True/\ff (dp (jo f.side f.x f.y) (lP d b c i) (dp (lY d i) (zFo d i) (zFm i d)))) (dp (lY d i) (zFo d i) (zFm i d))
def qE (a:oL):=((yB 2 (a.b.dz 2) a.dm):Int)
def u0 (a:oL):=((aa zD a.b.fc).length:Int)
def zHk (a:Nat) (b:oL):Prop:=(0<=(a:Int)/\(a:Int)<(u0 b))/\∃(c:Int),zC (aa zD b.b.fc) (a:Int).toNat 0 1=av [dI c]/\dx ((qE b)=(a:Int)/\jT 2 (b.b.dz 2) b.dm=(c==b.dm)/\bS b)
def zIe (a:oL) (b:Nat):Prop:=dx ((qE a)=(b:Int)/\jT 2 (a.b.dz 2) a.dm=au/\bS a)
def WL (a:Nat) (b:oL):=(decide ((a:Int)<(u0 b)))
def yPd (i:oL):Prop:=
 ∃(a:Nat),(a:Int)=0/\∃(b:Nat->Prop),∃(c:Nat->Nat),b a/\∀(d:Nat),b d->dp (WL d i) ((0<=(d:Int)/\(d:Int)<(u0 i))/\∃(e:Int),zC (aa zD i.b.fc) (d:Int).toNat 0 1=av [dI e]/\∃(f:Ew),f.side=2/\f.x=e/\f.y=i.dm/\True/\ff (dp (jo f.side f.x f.y) (lP d b c i) (dp (WL d i) (zHk d i) (zIe i d)))) (dp (WL d i) (zHk d i) (zIe i d))
def bP (a:CX):Prop:=QP a.b (True)
def tX (a:CX):Prop:=dx (dk a.id/\dk a.b.iL/\ar=ar/\dk a.b.gq/\aj dv 3 zI (a.b.iX 1)=zR a.b 1/\bP a)
def zIa (a:CX) (b:Int) (c:Int) (d:Int) (e:Bool):Prop:=jL (ax ag a.b.iM) (jv a.b.at_)=av [dI b,dI c,dI d]/\e=ar\/jL (ax ag a.b.iM) (jv a.b.at_)=aw/\[dI b,dI c,dI d]=[dI 0,dI 0,dI 0]/\e=au
def zFr (a:CX):Prop:=∀(b:bo×List D),b∈jv a.b.at_->me (ax ag a.b.iM) b.fst=ar
def yVk (i:CX):Prop:=
 dp i.b.gv ((zFr i)/\∃(a:Bool),∃(b:Int),∃(c:Int),∃(d:Int),(zIa i b c d a)/\((zFr i)/\∃(e:Bool),∃(f:Int),∃(g:Int),∃(h:Int),(zIa i f g h e)/\(f=b/\g=c/\h=d/\True)/\e=a/\True)/\dk i.b.iM/\True/\dp a (dp (b==1) (∃(e:Oj),e.n=d/\e.t=au/\aj dv 3 zI e.a=zR i.b 1/\e.a.du.length<=1000000/\ff (dx (dk i.id/\dk i.b.iL/\ar=ar/\dk i.b.gq/\aj dv 3 zI (i.b.iX 1)=aj dv 3 zI (e.a.mq e.n e.t)/\bP i))) (tX i)) (tX i)) (tX i)
def tV (a:CX):Prop:=dx (dk a.b.iM/\dk a.id/\dk a.b.gv/\ar=ar/\aj dv 3 zI (a.b.iX 2)=zR a.b 1/\bP a)
def zHq (a:CX) (b:Int) (c:Int) (d:Int) (e:Bool):Prop:=jL (ax ag a.b.iL) (jv a.b.at_)=av [dI b,dI c,dI d]/\e=ar\/jL (ax ag a.b.iL) (jv a.b.at_)=aw/\[dI b,dI c,dI d]=[dI 0,dI 0,dI 0]/\e=au
def zGx (a:CX):Prop:=∀(b:bo×List D),b∈jv a.b.at_->me (ax ag a.b.iL) b.fst=ar
def yUo (i:CX):Prop:=
 dp i.b.gq ((zGx i)/\∃(a:Bool),∃(b:Int),∃(c:Int),∃(d:Int),(zHq i b c d a)/\((zGx i)/\∃(e:Bool),∃(f:Int),∃(g:Int),∃(h:Int),(zHq i f g h e)/\(f=b/\g=c/\h=d/\True)/\e=a/\True)/\dk i.b.iL/\True/\dp a (dp (b==2) (∃(e:Oj),e.n=d/\e.t=au/\aj dv 3 zI e.a=zR i.b 1/\e.a.du.length<=1000000/\ff (dx (dk i.b.iM/\dk i.id/\dk i.b.gv/\ar=ar/\aj dv 3 zI (i.b.iX 2)=aj dv 3 zI (e.a.mq e.n e.t)/\bP i))) (tV i)) (tV i)) (tV i)
@[reducible] def Q0 (a:dv)(b:dq)(R:Prop):Prop:=(a.du.length<=1000000/\a.dy.length<=1000000)/\b.fv.length<=1000000/\b.fc.length<=1000000/\R
def qS (a:oL):Prop:=Q0 a.b.a a.b (a.b.spare.length<=1000000)
def dF (a:oL):Prop:=0<=(qD a)/\(qD a)<(u9 a)
def gC (a:oL):=(((iE a.b.spare).length:Int)-1)
def rE (a:oL):Prop:=0<=ag.wrap (gC a)/\ag.wrap (gC a)<=((iE a.b.spare).length:Int)
def rJ (a:oL):Prop:=0<=ag.wrap (gC a)/\ag.wrap (gC a)<((iE a.b.spare).length:Int)
def dK (a:Bv):Prop:=a.i<=a.fa.length/\(a.fa.length+1)*(16:Nat)<=(140737488355328:Nat)
def dB (a:oL):=(ag.wrap (gC a))
def zP (a:oL):=(a.b.gf 1 a.dm)
@[reducible] def Qy (a b:dq)(R:Prop):Prop:=a.iM=b.iM/\a.iL=b.iL/\a.gv=b.gv/\a.gq=b.gq/\aj dv 3 zI a.a=zR b 1/\aa zD a.fv=aa zD b.fv/\aa zD a.fc=aa zD b.fc/\jv a.at_=jv b.at_/\iE a.spare=iE b.spare/\R
@[reducible] def QA (a:oL)(b:dq)(R:Prop):Prop:=(zP a).fst.iM=b.iM/\(zP a).fst.iL=b.iL/\(zP a).fst.gv=b.gv/\(zP a).fst.gq=b.gq/\aj dv 3 zI (zP a).fst.a=aj dv 3 zI b.a/\aa zD (zP a).fst.fc=aa zD b.fc/\jv (zP a).fst.at_=jv b.at_/\R
def yHn (i:oL):Prop:=
 ∃(a:oL),dk ((1:Int))/\a.dm=i.dm/\Qy a.b i.b ((qS a)/\ff (dp (jT 1 (a.b.dz 1) a.dm) ((dF a)/\∃(c:Int),zC (aa zD a.b.fv) (qD a).toNat 1 1=av [dI c]/\dx ((zP i).snd=c/\QA i a.b (aa zD (zP i).fst.fv=aa zD a.b.fv/\iE (zP i).fst.spare=iE a.b.spare/\True))) (dp (decide (((iE a.b.spare).length:Int)>0)) ((rJ a)/\∃(c:Int),zC (iE a.b.spare) (dB a).toNat 0 1=av [dI c]/\(rE a)/\True/\∃(d:Bv),(d.i:Int)=(qD a)/\d.fa=aa zD a.b.fv/\[d.el]=[[dI i.dm,dI c]]/\(dK d)/\ff (dx ((zP i).snd=c/\QA i a.b (aa zD (zP i).fst.fv=ab d.i d.fa++d.el::ac d.i d.fa/\iE (zP i).fst.spare=ab (dB a).toNat (iE a.b.spare)/\True)))) (∃(c:dv),aj dv 3 zI c=aj dv 3 zI a.b.a/\c.dy.length<=1000000/\ff (True/\∃(e:Bv),(e.i:Int)=(qD a)/\e.fa=aa zD a.b.fv/\[e.el]=[[dI i.dm,dI (c.dy.length:Int)]]/\(dK e)/\ff (dx ((zP i).snd=(c.dy.length:Int)/\(zP i).fst.iM=a.b.iM/\(zP i).fst.iL=a.b.iL/\(zP i).fst.gv=a.b.gv/\(zP i).fst.gq=a.b.gq/\aj dv 3 zI (zP i).fst.a=aj dv 3 zI c.sc/\aa zD (zP i).fst.fc=aa zD a.b.fc/\jv (zP i).fst.at_=jv a.b.at_/\aa zD (zP i).fst.fv=ab e.i e.fa++e.el::ac e.i e.fa/\iE (zP i).fst.spare=iE a.b.spare/\True)))))))
def dM (a:oL):Prop:=0<=(qE a)/\(qE a)<(u0 a)
def zO (a:oL):=(a.b.gf 2 a.dm)
@[reducible] def QB (a:oL)(b:dq)(R:Prop):Prop:=(zO a).fst.iM=b.iM/\(zO a).fst.iL=b.iL/\(zO a).fst.gv=b.gv/\(zO a).fst.gq=b.gq/\aj dv 3 zI (zO a).fst.a=aj dv 3 zI b.a/\aa zD (zO a).fst.fv=aa zD b.fv/\jv (zO a).fst.at_=jv b.at_/\R
def yFe (i:oL):Prop:=
 ∃(a:oL),dk ((2:Int))/\a.dm=i.dm/\Qy a.b i.b ((qS a)/\ff (dp (jT 2 (a.b.dz 2) a.dm) ((dM a)/\∃(c:Int),zC (aa zD a.b.fc) (qE a).toNat 1 1=av [dI c]/\dx ((zO i).snd=c/\QB i a.b (aa zD (zO i).fst.fc=aa zD a.b.fc/\iE (zO i).fst.spare=iE a.b.spare/\True))) (dp (decide (((iE a.b.spare).length:Int)>0)) ((rJ a)/\∃(c:Int),zC (iE a.b.spare) (dB a).toNat 0 1=av [dI c]/\(rE a)/\True/\∃(d:Bv),(d.i:Int)=(qE a)/\d.fa=aa zD a.b.fc/\[d.el]=[[dI i.dm,dI c]]/\(dK d)/\ff (dx ((zO i).snd=c/\QB i a.b (aa zD (zO i).fst.fc=ab d.i d.fa++d.el::ac d.i d.fa/\iE (zO i).fst.spare=ab (dB a).toNat (iE a.b.spare)/\True)))) (∃(c:dv),aj dv 3 zI c=aj dv 3 zI a.b.a/\c.dy.length<=1000000/\ff (True/\∃(e:Bv),(e.i:Int)=(qE a)/\e.fa=aa zD a.b.fc/\[e.el]=[[dI i.dm,dI (c.dy.length:Int)]]/\(dK e)/\ff (dx ((zO i).snd=(c.dy.length:Int)/\(zO i).fst.iM=a.b.iM/\(zO i).fst.iL=a.b.iL/\(zO i).fst.gv=a.b.gv/\(zO i).fst.gq=a.b.gq/\aj dv 3 zI (zO i).fst.a=aj dv 3 zI c.sc/\aa zD (zO i).fst.fv=aa zD a.b.fv/\jv (zO i).fst.at_=jv a.b.at_/\aa zD (zO i).fst.fc=ab e.i e.fa++e.el::ac e.i e.fa/\iE (zO i).fst.spare=iE a.b.spare/\True)))))))
def pA:Hv.ok Z_ 211:=gy (V:=z6n) mixed fk 0 i6 i6 [] func211 λ(i:Ew) _=>by
 unfold z6n dx;refine W_ (λc=> ?_) (λc=> ?_)
 ·have c:i.side=1:=i9 c
  rw[jo,fh c];exact kp
 ·have c:¬i.side=1:=i9 c
  rw[jo,eg c];exact kp
def yNy:Ni.ok Z_ 264:=gy (V:=yRj) mixed fk 0 i6 i6 [] func264 λ(s:Slot) _=>by
 unfold yRj dx;exact kp
def xKm {l:List Slot} {k:Nat} {s:Slot} (h:l[k]? =av s):zC (l.map zS) k 0 8=av [D.v (.bool s.used),.v (.int .i64 s.n),.v (.int .i64 s.id),.v (.int .i64 s.dr),.v (.bool s.top),.v (.int .i64 s.queue),.v (.int .i64 s.ahead),.v (.int .i64 s.back)]:=jz h (by simp[zS]) rfl
def yTd (l:List Slot) (h:Cd.dp l):z5i l:=by
 have h:l.length<=1000000:=h;unfold z5i QM ff dx dI;simp only[ib];refine⟨0,rfl,λj=>j<=l.length/\∀k<j,∀x,l[k]? =av x->(!x.used)=au,λj=>l.length-j,⟨oM,λk hk=>X_⟩,?_⟩;rintro j ⟨h3,h4⟩;refine zH (λhj=> ?_) (λhj=> ?_)
 ·obtain⟨s,hs⟩:=zZ (l:=l) (i:=j) oM;refine⟨⟨oM,oM⟩,s.used,s.n,s.id,s.dr,s.top,s.queue,s.ahead,s.back,xKm hs,s,oO ⟨rfl,Y_,λ_ _=>W_ (λe=> ?_) (λe=> ?_)⟩⟩
  ·rw[jS,zLw hs e h4];exact kp
  ·refine⟨j+1,by rw[iw X_];rfl,⟨oM,λk hk x hx=> ?_⟩,by(first|omega|(dsimp only;omega)),gj⟩;rcases vh k j with qc|qc
   ·exact h4 k qc x hx
   ·obtain rfl:k=j:=X_
    rw[hs]at hx;cases hx;exact e
 ·rw[jS,zLj λk x hx=>h4 k (by have:=(jk.1 hx).1;omega) x hx];exact kp
def z9j:Cd.ok Z_ 263:=gy mixed (dw yNy fk) 0 i6 (λl=>yQy l) [] func263 yTd
def z7t:NG.ok Z_ 266:=gy (V:=yVc) mixed fk 0 i6 i6 [0] func266 λ(a:dv) h=>by
 have h:a.dy.length<=1000000:=h;unfold yVc dx dI;rw[ix,ib,iw (by simp only[iG,uj];omega)];refine⟨oM,(),?_,rfl,rfl,?_,Y_⟩
 ·simp
 ·rw[jh];rfl
def b9 {α:Type} {f:α->α}:∀{l:List α} {i:Nat} {x:α},l[i]? =av x->l.modify i f=l.set i (f x)
 |[],i,x,h=>by simp at h
 |a::l,0,x,h=>by simp at h;subst h;rfl
 |a::l,i+1,x,h=>by
  simp only[Bk]at h;simp only[RO,OB,b9 h]
def yL {α:Type} {f:α->List D} {l:List α} {i g:Nat} {x y:α} {ds:List D} (hi:l[i]? =av x) (hh:(f x).take g++(ds++(f x).drop (g+ds.length))=f y):zJ (l.map f) i g ds=(l.set i y).map f:=by
 have gr:=(jk.1 hi).1;rw[zJ,b9 (by rw[ra,hi];rfl),hh,List.map_set]
def gN {α:Type} {l:List α} {i:Nat} {x y:α} (hi:l[i]? =av x):(l.set i y)[i]? =av y:=List.getElem?_set_self (jk.1 hi).1
def zX {α:Type} {l:List α} {i:Nat} {x d:α} (h:l[i]? =av x):l.getD i d=x:=by rw[mz,h];rfl
def xEd (i:Oj) (h:Lm.dp i):y4e i:=by
 have h:i.a.du.length<=1000000:=h;unfold y4e dx WE dx;simp only[ib];have no (e:i.a.iz i.n=au):i.a.mq i.n i.t=i.a:=by rw[dv.mq,eg (by rw[e];decide)]
 refine zH (λc=> ?_) (λc=>zH (λd=> ?_) (λd=> ?_))
 ·have e:i.a.iz i.n=au:=by rw[dv.iz,ju X_,Dr]
  rw[no e,e];exact kp
 ·have e:i.a.iz i.n=au:=by rw[dv.iz,ju (show ¬i.n<(i.a.du.length:Int)by omega),Dr,J7]
  rw[no e,e];exact kp
 ·obtain⟨s,hs⟩:=zZ (l:=i.a.du) (i:=i.n.toNat) oM;have eu:i.a.iz i.n=s.used:=by rw[dv.iz,jt (show 0<=i.n by omega),jt (show i.n<(i.a.du.length:Int)by omega),zX hs];simp
  refine⟨⟨oM,oM⟩,s.used,jz hs (by simp[zS]) rfl,W_ (λu=> ?_) (λu=> ?_)⟩
  ·have e:i.a.iz i.n=au:=by rw[eu];simpa using u
   rw[no e,e];exact kp
  ·have e:i.a.iz i.n=ar:=by rw[eu];simpa using u
   have et:i.a.mq i.n i.t={i.a with du:=i.a.du.set i.n.toNat {s with top:=i.t}}:=by
    rw[dv.mq,fh e,b9 hs]
   rw[et,e,yL hs (y:={s with top:=i.t}) rfl];refine⟨⟨oM,oM⟩,oM,(),nh Y_⟩
def yGs:Lm.ok Z_ 261:=gy mixed fk 1 i6 i6 [0] func261 xEd
def yPr {l:List Slot} (h:∃s∈l,s.used=au):∃k:Nat,jS l=k/\k<l.length:=by
 obtain⟨s,hs,hu⟩:=h;cases hf:l.findIdx? λs=> !s.used with
 |none=>
  rw[OH]at hf;have:=hf s hs;rw[hu]at this;cases this
 |some k=>
  rw[Mj]at hf;exact⟨k,by rw[jS,show(l.findIdx? λs=> !s.used)=av k by rw[Mj];exact hf];rfl,hf.1⟩
def y6m (i:DM) (h:Hc.dp i):yVn i:=by
 obtain⟨h1,h2,h3⟩:i.a.fit:=h;unfold yVn ff dx lX eR eZ l9 zHd dx zGt dx eE yN dI;simp only[ib];have out (e:i.n<0\/i.a.dy.length<=i.n):i.a.push i.n i.id i.dr i.top=(i.a,0,26):=by rw[dv.push,fh e]
 refine zH (λc=>W_ (λd=> ?_) (λd=> ?_)) (λc=> ?_)
 ·have d:¬i.n<(i.a.dy.length:Int):=i9 d
  rw[out (.inr X_)];exact kp
 ·have d:i.n<(i.a.dy.length:Int):=i9 d
  have hn:¬(i.n<0\/(i.a.dy.length:Int)<=i.n):=X_
  refine zH (λq1=> ?_) (λq1=>zH (λq2=> ?_) (λq2=>W_ (λfr=> ?_) (λfr=> ?_)))
  ·rw[dv.push,eg hn,fh (.inl q1)];exact kp
  ·rw[dv.push,eg hn,fh (.inr q2)];exact kp
  ·rw[dv.push,eg hn,eg X_,fh (i9 fr)];exact kp
  ·have fr:i.a.free≠0:=i9 fr
   have ep:i.a.push i.n i.id i.dr i.top=(i.a.put i.n i.id i.dr i.top,jS i.a.du,0):=by rw[dv.push,eg hn,eg X_,eg fr]
   obtain⟨k,hk,pg⟩:=yPr (h2 fr);obtain⟨q,hq⟩:=zZ (l:=i.a.dy) (i:=i.n.toNat) oM;have hqm:=kx hq;have hl:=h3 q hqm;obtain⟨s,hs⟩:=zZ pg;refine⟨i.a.du,rfl,h1,λ_ _=>⟨⟨oM,oM⟩,q.last,jz hq (by simp[zQ]) rfl,⟨oM,oM⟩,by rw[hk];exact pg,q.last,jz hq (by simp[zQ]) rfl,?_⟩⟩;rw[ep];have aaY:i.a.put i.n i.id i.dr i.top=⟨if q.last= -1 then i.a.du.set k ⟨ar,k,i.id,i.dr,i.top,i.n,q.last,-1⟩else(i.a.du.set k ⟨ar,k,i.id,i.dr,i.top,i.n,q.last,-1⟩).modify q.last.toNat λs=>{s with back:=k},i.a.dy.set i.n.toNat ⟨if q.last= -1 then k else q.first,k,ag.wrap (q.total+i.dr),ag.wrap (q.count+1)⟩,ag.wrap (i.a.free-1)⟩:=by
    simp only[dv.put,zX hq,hk,ov]
   rw[aaY,hk];simp only[ov];have es:zJ (aa zS i.a.du) k 0 [D.v (.bool ar),D.v (.int .i64 k),D.v (.int .i64 i.id),D.v (.int .i64 i.dr),D.v (.bool i.top),D.v (.int .i64 i.n),D.v (.int .i64 q.last),D.v (.int .i64 (-1))]=aa zS (i.a.du.set k ⟨ar,k,i.id,i.dr,i.top,i.n,q.last,-1⟩):=yL hs rfl;rw[es];refine W_ (λe=> ?_) (λe=> ?_)
   ·have e:q.last= -1:=i9 e
    have e1:zJ (aa zQ i.a.dy) i.n.toNat (0+0) [D.v (.int .i64 k)]=aa zQ (i.a.dy.set i.n.toNat {q with first:=k}):=yL hq rfl;have g1:=gN (y:={q with first:=(k:Int)}) hq;have e2:zJ (aa zQ (i.a.dy.set i.n.toNat {q with first:=k})) i.n.toNat (0+1) [D.v (.int .i64 k)]=aa zQ (i.a.dy.set i.n.toNat {q with first:=k,last:=k}):=by
     rw[yL g1 (y:={q with first:=(k:Int),last:=(k:Int)}) rfl,Eg]
    have g2:=gN (y:={q with first:=(k:Int),last:=(k:Int)}) hq;have e3:zJ (aa zQ (i.a.dy.set i.n.toNat {q with first:=k,last:=k})) i.n.toNat (0+2) [D.v (.int .i64 (ag.wrap (q.total+i.dr)))]=aa zQ (i.a.dy.set i.n.toNat {q with first:=k,last:=k,total:=ag.wrap (q.total+i.dr)}):=by
     rw[yL g2 (y:={q with first:=(k:Int),last:=(k:Int),total:=ag.wrap (q.total+i.dr)}) rfl,Eg]
    have g3:=gN (y:={q with first:=(k:Int),last:=(k:Int),total:=ag.wrap (q.total+i.dr)}) hq;have e4:zJ (aa zQ (i.a.dy.set i.n.toNat {q with first:=k,last:=k,total:=ag.wrap (q.total+i.dr)})) i.n.toNat (0+3) [D.v (.int .i64 (ag.wrap (q.count+1)))]=aa zQ (i.a.dy.set i.n.toNat ⟨k,k,ag.wrap (q.total+i.dr),ag.wrap (q.count+1)⟩):=by
     rw[yL g3 (y:=⟨k,k,ag.wrap (q.total+i.dr),ag.wrap (q.count+1)⟩) rfl,Eg]
    rw[e1,e2];simp only[fh e];refine⟨oM,by simp only[ib,qj];omega,q.total,jz g2 (by simp[zQ]) rfl,by simp only[ib,qj];omega,q.count,?_,by rw[e3];simp only[ib,qj];omega,(),?_⟩
    ·rw[e3];exact jz g3 (by simp[zQ]) rfl
    ·rw[e3,e4];exact kp
   ·have e:¬q.last= -1:=i9 e
    have hl:0<=q.last/\q.last<i.a.du.length:=hl.resolve_left e;have e2:zJ (aa zQ i.a.dy) i.n.toNat (0+1) [D.v (.int .i64 k)]=aa zQ (i.a.dy.set i.n.toNat {q with last:=k}):=yL hq rfl;have g2:=gN (y:={q with last:=(k:Int)}) hq;have e3:zJ (aa zQ (i.a.dy.set i.n.toNat {q with last:=k})) i.n.toNat (0+2) [D.v (.int .i64 (ag.wrap (q.total+i.dr)))]=aa zQ (i.a.dy.set i.n.toNat {q with last:=k,total:=ag.wrap (q.total+i.dr)}):=by
     rw[yL g2 (y:={q with last:=(k:Int),total:=ag.wrap (q.total+i.dr)}) rfl,Eg]
    have g3:=gN (y:={q with last:=(k:Int),total:=ag.wrap (q.total+i.dr)}) hq;have e4:zJ (aa zQ (i.a.dy.set i.n.toNat {q with last:=k,total:=ag.wrap (q.total+i.dr)})) i.n.toNat (0+3) [D.v (.int .i64 (ag.wrap (q.count+1)))]=aa zQ (i.a.dy.set i.n.toNat ⟨q.first,k,ag.wrap (q.total+i.dr),ag.wrap (q.count+1)⟩):=by
     rw[yL g3 (y:=⟨q.first,k,ag.wrap (q.total+i.dr),ag.wrap (q.count+1)⟩) rfl,Eg]
    obtain⟨s2,zd⟩:=zZ (l:=i.a.du.set k ⟨ar,k,i.id,i.dr,i.top,i.n,q.last,-1⟩) (i:=q.last.toNat) (by rw[qj];omega);have e5:zJ (aa zS (i.a.du.set k ⟨ar,k,i.id,i.dr,i.top,i.n,q.last,-1⟩)) q.last.toNat (0+7) [D.v (.int .i64 k)]=aa zS ((i.a.du.set k ⟨ar,k,i.id,i.dr,i.top,i.n,q.last,-1⟩).modify q.last.toNat λs=>{s with back:=k}):=by
     rw[yL zd (y:={s2 with back:=(k:Int)}) rfl,b9 zd]
    rw[e2];simp only[eg e];refine⟨q.last,jz hq (by simp[zQ]) rfl,⟨oM,by simp only[ib,qj];omega⟩,by simp only[ib,qj];omega,oM,q.total,jz g2 (by simp[zQ]) rfl,by simp only[ib,qj];omega,q.count,?_,by rw[e3];simp only[ib,qj];omega,(),?_⟩
    ·rw[e3];exact jz g3 (by simp[zQ]) rfl
    ·rw[e3,e4,e5];exact kp
 ·rw[out (.inl X_)];exact kp
def z3o:Hc.ok Z_ 229:=gy mixed (dw z9j fk) 1 i6 i6 [0] func229 y6m
def rW {s dm:Int}:∀{l:List xX} {j:Nat},j<=l.length->(∀k<j,∀r,l[k]? =av r->jo s r.dm dm=ar)->(∀r,l[j]? =av r->jo s r.dm dm=au)->yB s l dm=j
 |[],j,hj,_,_=>by
  obtain rfl:j=0:=i9 hj
  rfl
 |r::l,0,_,_,he=>by
  have:=he r rfl;rw[yB,List.takeWhile_cons,this];rfl
 |r::l,j+1,hj,h,he=>by
  have h0:=h 0 oM r rfl;have ih:=rW (l:=l) (j:=j) (i9 hj) (λk hk x hx=>h (k+1) oM x (i9 hx)) (λx hx=>he x (i9 hx));rw[yB]at ih ⊢;rw[List.takeWhile_cons,h0,fh rfl,iG,ih]
def VH (s dm:Int) (l:List xX):yB s l dm<=l.length:=(List.takeWhile_sublist _).length_le
def eL (b:dq):b.dz 1=b.fv:=rfl
def It (b:dq):b.dz 2=b.fc:=rfl
def xCg (i:oL) (h:GV.dp i):yRm i:=by
 obtain⟨_,h1,h2,_⟩:i.b.small:=h;unfold yRm ff lY lP QM zFm dx zFo dx bS Q9 QP u9 qD dI;simp only[ib,eL];refine⟨0,rfl,λj=>j<=i.b.fv.length/\∀k<j,∀r,i.b.fv[k]? =av r->jo 1 r.dm i.dm=ar,λj=>i.b.fv.length-j,⟨oM,λk hk=>X_⟩,?_⟩;rintro j ⟨h3,h4⟩;refine zH (λhj=> ?_) (λhj=> ?_)
 ·obtain⟨r,hr⟩:=zZ (l:=i.b.fv) (i:=j) oM;refine⟨⟨oM,oM⟩,r.dm,jz hr (by simp[zD]) rfl,⟨1,r.dm,i.dm⟩,rfl,rfl,rfl,Y_,λ_ _=> ?_⟩;dsimp only;refine W_ (λe=>⟨j+1,by rw[iw X_];rfl,⟨oM,λk hk x hx=> ?_⟩,by(first|omega|(dsimp only;omega)),gj⟩) (λe=>zH (λ_=> ?_) (λc=>absurd hj c))
  ·rcases vh k j with qc|qc
   ·exact h4 k qc x hx
   ·obtain rfl:k=j:=X_
    rw[hr]at hx;cases hx;exact e
  ·have en:yB 1 i.b.fv i.dm=j:=rW h3 h4 λx hx=>by rw[hr]at hx;cases hx;exact e
   have eb:jT 1 i.b.fv i.dm=(r.dm==i.dm):=by rw[jT,en,hr];exact(z7f _ _).symm
   refine⟨⟨oM,oM⟩,r.dm,jz hr (by simp[zD]) rfl,(),by rw[en],eb,?_⟩
   (repeat'(first|exact Y_|exact rfl|apply be))
 ·have en:yB 1 i.b.fv i.dm=j:=rW h3 h4 λx hx=>by have:=(jk.1 hx).1;omega
  have eb:jT 1 i.b.fv i.dm=au:=by rw[jT,en,uv X_]
  refine zH (λc=>absurd c hj) (λ_=>⟨(),by rw[en],eb,?_⟩)
  (repeat'(first|exact Y_|exact rfl|apply be))
def ZO:GV.ok Z_ 265:=gy mixed (dw pA fk) 0 i6 (λ_=>y4p) [] func265 xCg
def vB (l:List (Int×Place)) (k:Int):∀(p:bo×List D),p∈jv l->me (ax ag k) p.1=ar:=by
 intro p hp;obtain⟨x,_,rfl⟩:=nn.1 hp;rfl
def N5 (k:Int):∀l:List (Int×Place),jL (ax ag k) (jv l)=(lh l k).map yAr
 |[]=>rfl
 |(a,v)::l=>by
  have ih:=N5 k l;show(bif (xm .i64 .i64 && decide (k=a))then _ else jL _ (jv l))=_;by_cases h:k=a
  ·subst h;simp[lh,xm]
  ·have h':¬a=k:=λe=>h e.symm
   rw[show(xm .i64 .i64 && decide (k=a))=au by simp[h],cond_false,ih];simp[lh,L9,h']
def NS:Place:=⟨0,0,0⟩
def NI (l:List (Int×Place)) (k:Int):jL (ax ag k) (jv l)=av [D.v (.int .i64 ((lh l k).getD NS).side),D.v (.int .i64 ((lh l k).getD NS).dm),D.v (.int .i64 ((lh l k).getD NS).slot)]/\(lh l k).isSome=ar\/jL (ax ag k) (jv l)=aw/\[D.v (.int .i64 ((lh l k).getD NS).side),D.v (.int .i64 ((lh l k).getD NS).dm),D.v (.int .i64 ((lh l k).getD NS).slot)]=[D.v (.int .i64 0),D.v (.int .i64 0),D.v (.int .i64 0)]/\(lh l k).isSome=au:=by
 rw[N5];cases lh l k with
 |none=>exact .inr ⟨rfl,rfl,rfl⟩
 |some v=>exact .inl ⟨rfl,rfl⟩
def z0k (k:Int) (v:Place):∀l,gU (ax ag k) (yAr v) (jv l)=jv (lV k v l)
 |[]=>rfl
 |(a,b)::l=>by
  have ih:=z0k k v l;show(bif (xm .i64 .i64 && decide (k=a))then _ else _::gU _ _ (jv l))=_;rw[ih,lV];by_cases h:k=a
  ·subst h;simp[xm,jv]
  ·simp[h,jv]
def xAf (i:CX) (h:GQ.dp i):yVk i:=by
 obtain⟨⟨ha,_⟩,h1,h2,_⟩:i.b.small:=h;unfold yVk ff dx zFr zIa tX dx bP QP dI;have no (e:i.b.iX 1=i.b.a):aj dv 3 zI (i.b.iX 1)=zR i.b 1:=by rw[e];rfl
 refine W_ (λc=> ?_) (λc=>⟨(),?_⟩)
 ·have c:i.b.nf 1=ar:=c;refine⟨vB _ _,(lh i.b.at_ i.b.iM).isSome,_,_,_,NI _ _,⟨vB _ _,(lh i.b.at_ i.b.iM).isSome,_,_,_,NI _ _,(iP Y_),rfl,Y_⟩,rfl,Y_,W_ (λd=>W_ (λe=> ?_) (λe=>⟨(),?_⟩)) (λd=>⟨(),?_⟩)⟩
  ·obtain⟨o,ho⟩:=XT.1 d;have e:o.side=1:=by rw[ho]at e;simpa using e
   have eu:i.b.iX 1=i.b.a.mq o.slot au:=by
    have ht:lh i.b.at_ (i.b.jc 1)=av o:=ho;rw[dq.iX,fh c,ht];dsimp only;rw[fh e]
   refine⟨⟨i.b.a,o.slot,au⟩,by rw[ho];rfl,rfl,rfl,ha,λ_ _=>⟨(),?_⟩⟩;rw[eu];(repeat'(first|exact Y_|exact rfl|apply be))
  ·obtain⟨o,ho⟩:=XT.1 d;have e:¬o.side=1:=by rw[ho]at e;simpa using e
   have ht:lh i.b.at_ (i.b.jc 1)=av o:=ho;rw[no (by rw[dq.iX,fh c,ht];dsimp only;rw[eg e])];(repeat'(first|exact Y_|exact rfl|apply be))
  ·have ht:lh i.b.at_ (i.b.jc 1)=aw:=by
    show lh i.b.at_ i.b.iM=aw;simpa using d
   rw[no (by rw[dq.iX,fh c,ht])];(repeat'(first|exact Y_|exact rfl|apply be))
 ·have c:¬i.b.nf 1=ar:=by rw[show i.b.nf 1=i.b.gv from rfl,c];decide
  rw[no (by rw[dq.iX,eg c])];(repeat'(first|exact Y_|exact rfl|apply be))
def yQr:GQ.ok Z_ 228:=gy mixed (dw yGs fk) 0 i6 i6 [] func228 xAf
def z8i {s dm:Int} {l:List xX} (h:jT s l dm=ar):∃r,l[yB s l dm]? =av r:=by
 rw[jT]at h;split at h
 ·rename_i r hr;exact⟨r,hr⟩
 ·cases h
def y1t (i:oL) (h:D2.dp i):yHn i:=by
 obtain⟨⟨ha,_⟩,ha',h1,h2,h3⟩:i.b.fit:=h;have hle:=VH 1 i.dm i.b.fv;unfold yHn QA ff dx Qy zP dB dK rJ rE gC dF u9 qS Q0 qD dI;refine⟨i,oO (iP ⟨rfl,⟨⟨ha,oM⟩,oM,oM,oM⟩,λ_ _=> ?_⟩)⟩;simp only[ib,y9,eL];refine W_ (λc=> ?_) (λc=> ?_)
 ·obtain⟨r,hr⟩:=z8i c;have gr:=(jk.1 hr).1;have e:i.b.gf 1 i.dm=(i.b,r.queue):=by rw[dq.gf,fh (by rw[eL];exact c),eL,zX hr]
  rw[e];refine⟨⟨oM,oM⟩,r.queue,jz (i9 hr) (by simp[zD]) rfl,(),?_⟩
  (repeat'(first|exact Y_|exact rfl|apply be))
 ·have e:i.b.gf 1 i.dm=({i.b with a:=i.b.iU.2.2,fv:=i.b.ins 1 i.dm,spare:=i.b.iU.2.1},i.b.iU.1):=by
   rw[dq.gf,eg (by rw[eL,c];decide),fh rfl]
  have BV:aa zD (i.b.ins 1 i.dm)=ab (yB 1 i.b.fv i.dm) (aa zD i.b.fv)++zD ⟨i.dm,i.b.iU.1⟩::ac (yB 1 i.b.fv i.dm) (aa zD i.b.fv):=by
   rw[dq.ins,eL,jh,jg,Eh,FK]
  rw[e];refine zH (λd=> ?_) (λd=> ?_)
  ·have w:ag.wrap ((i.b.spare.length:Int)-1)=((i.b.spare.length-1:Nat):Int):=by rw[iw X_];omega
   rw[w];simp only[ov];obtain⟨q,hq⟩:=zZ (l:=i.b.spare) (i:=i.b.spare.length-1) oM;have eq:i.b.iU=(q,i.b.spare.take (i.b.spare.length-1),i.b.a):=by rw[dq.iU,eg X_,zX hq]
   rw[eq]at BV ⊢;refine⟨⟨oM,oM⟩,q,rq hq,⟨oM,oM⟩,Y_,⟨i.b.fv.map zD,zD ⟨i.dm,q⟩,yB 1 i.b.fv i.dm⟩,rfl,rfl,rfl,⟨by rw[ib];exact hle,by rw[ib];omega⟩,λ_ _=>⟨(),?_⟩⟩;have hs:iE (i.b.spare.take (i.b.spare.length-1))=(iE i.b.spare).take (i.b.spare.length-1):=by simp only[iE,Eh]
   exact kp
  ·have eq:i.b.iU=((i.b.a.dy.length:Int),i.b.spare,i.b.a.sc):=by rw[dq.iU,fh X_]
   rw[eq]at BV ⊢;refine⟨i.b.a,rfl,oM,λ_ _=>⟨Y_,⟨i.b.fv.map zD,zD ⟨i.dm,i.b.a.dy.length⟩,yB 1 i.b.fv i.dm⟩,rfl,rfl,rfl,⟨by rw[ib];exact hle,by rw[ib];omega⟩,λ_ _=>⟨(),?_⟩⟩⟩;exact kp
def Z1:vY Z_ 281=av (340,2,16,#[.int .i64 0,.int .i64 0]):=by kernel_rfl
def yIk:Ug.ok Z_ 267:=
 A4 (tS:=281) (tI:=3) (fO:=290) (fR:=291) (z:= #[.int .i64 0,.int .i64 0]) mixed func267 rfl (by kernel_rfl) (by kernel_rfl) (by kernel_rfl) (by kernel_rfl) Z1 rfl Z8 Z8 (by kernel_rfl) Tryz.underlying3
  (z1l (tS:=281) (tB:=4) func290 (by kernel_rfl) (by kernel_rfl) (by kernel_rfl) (by kernel_rfl) Z1) (λs sn sk i v vn vk w R=>by kernel_rfl)
def yMo:D2.ok Z_ 230:=gy mixed (dw ZO (dw z7t (dw yIk fk))) 0 i6 i6 [] func230 y1t
def xBw (i:oL) (h:GU.dp i):yPd i:=by
 obtain⟨_,h1,h2,_⟩:i.b.small:=h;unfold yPd ff WL zIe dx zHk dx u0 qE bS Q9 QP lP QM dI;simp only[ib,It];refine⟨0,rfl,λj=>j<=i.b.fc.length/\∀k<j,∀r,i.b.fc[k]? =av r->jo 2 r.dm i.dm=ar,λj=>i.b.fc.length-j,⟨oM,λk hk=>X_⟩,?_⟩;rintro j ⟨h3,h4⟩;refine zH (λhj=> ?_) (λhj=> ?_)
 ·obtain⟨r,hr⟩:=zZ (l:=i.b.fc) (i:=j) oM;refine⟨⟨oM,oM⟩,r.dm,jz hr (by simp[zD]) rfl,⟨2,r.dm,i.dm⟩,rfl,rfl,rfl,Y_,λ_ _=> ?_⟩;dsimp only;refine W_ (λe=>⟨j+1,by rw[iw X_];rfl,⟨oM,λk hk x hx=> ?_⟩,by(first|omega|(dsimp only;omega)),gj⟩) (λe=>zH (λ_=> ?_) (λc=>absurd hj c))
  ·rcases vh k j with qc|qc
   ·exact h4 k qc x hx
   ·obtain rfl:k=j:=X_
    rw[hr]at hx;cases hx;exact e
  ·have en:yB 2 i.b.fc i.dm=j:=rW h3 h4 λx hx=>by rw[hr]at hx;cases hx;exact e
   have eb:jT 2 i.b.fc i.dm=(r.dm==i.dm):=by rw[jT,en,hr];exact(z7f _ _).symm
   refine⟨⟨oM,oM⟩,r.dm,jz hr (by simp[zD]) rfl,(),by rw[en],eb,?_⟩
   (repeat'(first|exact Y_|exact rfl|apply be))
 ·have en:yB 2 i.b.fc i.dm=j:=rW h3 h4 λx hx=>by have:=(jk.1 hx).1;omega
  have eb:jT 2 i.b.fc i.dm=au:=by rw[jT,en,uv X_]
  refine zH (λc=>absurd c hj) (λ_=>⟨(),by rw[en],eb,?_⟩)
  (repeat'(first|exact Y_|exact rfl|apply be))
def Zk:GU.ok Z_ 265:=gy mixed (dw pA fk) 0 i6 (λ_=>y4p) [] func265 xBw
def y7o (i:CX) (h:GP.dp i):yUo i:=by
 obtain⟨⟨ha,_⟩,h1,h2,_⟩:i.b.small:=h;unfold yUo ff dx zGx zHq tV dx bP QP dI;have no (e:i.b.iX 2=i.b.a):aj dv 3 zI (i.b.iX 2)=zR i.b 1:=by rw[e];rfl
 refine W_ (λc=> ?_) (λc=>⟨(),?_⟩)
 ·have c:i.b.nf 2=ar:=c;refine⟨vB _ _,(lh i.b.at_ i.b.iL).isSome,_,_,_,NI _ _,⟨vB _ _,(lh i.b.at_ i.b.iL).isSome,_,_,_,NI _ _,(iP Y_),rfl,Y_⟩,rfl,Y_,W_ (λd=>W_ (λe=> ?_) (λe=>⟨(),?_⟩)) (λd=>⟨(),?_⟩)⟩
  ·obtain⟨o,ho⟩:=XT.1 d;have e:o.side=2:=by rw[ho]at e;simpa using e
   have eu:i.b.iX 2=i.b.a.mq o.slot au:=by
    have ht:lh i.b.at_ (i.b.jc 2)=av o:=ho;rw[dq.iX,fh c,ht];dsimp only;rw[fh e]
   refine⟨⟨i.b.a,o.slot,au⟩,by rw[ho];rfl,rfl,rfl,ha,λ_ _=>⟨(),?_⟩⟩;rw[eu];(repeat'(first|exact Y_|exact rfl|apply be))
  ·obtain⟨o,ho⟩:=XT.1 d;have e:¬o.side=2:=by rw[ho]at e;simpa using e
   have ht:lh i.b.at_ (i.b.jc 2)=av o:=ho;rw[no (by rw[dq.iX,fh c,ht];dsimp only;rw[eg e])];(repeat'(first|exact Y_|exact rfl|apply be))
  ·have ht:lh i.b.at_ (i.b.jc 2)=aw:=by
    show lh i.b.at_ i.b.iL=aw;simpa using d
   rw[no (by rw[dq.iX,fh c,ht])];(repeat'(first|exact Y_|exact rfl|apply be))
 ·have c:¬i.b.nf 2=ar:=by rw[show i.b.nf 2=i.b.gq from rfl,c];decide
  rw[no (by rw[dq.iX,eg c])];(repeat'(first|exact Y_|exact rfl|apply be))
def yRy:GP.ok Z_ 228:=gy mixed (dw yGs fk) 0 i6 i6 [] func228 y7o
def yWn (i:oL) (h:D1.dp i):yFe i:=by
 obtain⟨⟨ha,_⟩,ha',h1,h2,h3⟩:i.b.fit:=h;have hle:=VH 2 i.dm i.b.fc;unfold yFe QB ff dx Qy zO dM u0 dB dK rJ rE gC qS Q0 qE dI;refine⟨i,oO (iP ⟨rfl,⟨⟨ha,oM⟩,oM,oM,oM⟩,λ_ _=> ?_⟩)⟩;simp only[ib,y9,It];refine W_ (λc=> ?_) (λc=> ?_)
 ·obtain⟨r,hr⟩:=z8i c;have gr:=(jk.1 hr).1;have e:i.b.gf 2 i.dm=(i.b,r.queue):=by rw[dq.gf,fh (by rw[It];exact c),It,zX hr]
  rw[e];refine⟨⟨oM,oM⟩,r.queue,jz (i9 hr) (by simp[zD]) rfl,(),?_⟩
  (repeat'(first|exact Y_|exact rfl|apply be))
 ·have e:i.b.gf 2 i.dm=({i.b with a:=i.b.iU.2.2,fc:=i.b.ins 2 i.dm,spare:=i.b.iU.2.1},i.b.iU.1):=by
   rw[dq.gf,eg (by rw[It,c];decide),eg (by decide)]
  have BV:aa zD (i.b.ins 2 i.dm)=ab (yB 2 i.b.fc i.dm) (aa zD i.b.fc)++zD ⟨i.dm,i.b.iU.1⟩::ac (yB 2 i.b.fc i.dm) (aa zD i.b.fc):=by
   rw[dq.ins,It,jh,jg,Eh,FK]
  rw[e];refine zH (λd=> ?_) (λd=> ?_)
  ·have w:ag.wrap ((i.b.spare.length:Int)-1)=((i.b.spare.length-1:Nat):Int):=by rw[iw X_];omega
   rw[w];simp only[ov];obtain⟨q,hq⟩:=zZ (l:=i.b.spare) (i:=i.b.spare.length-1) oM;have eq:i.b.iU=(q,i.b.spare.take (i.b.spare.length-1),i.b.a):=by rw[dq.iU,eg X_,zX hq]
   rw[eq]at BV ⊢;refine⟨⟨oM,oM⟩,q,rq hq,⟨oM,oM⟩,Y_,⟨i.b.fc.map zD,zD ⟨i.dm,q⟩,yB 2 i.b.fc i.dm⟩,rfl,rfl,rfl,⟨by rw[ib];exact hle,by rw[ib];omega⟩,λ_ _=>⟨(),?_⟩⟩;have hs:iE (i.b.spare.take (i.b.spare.length-1))=(iE i.b.spare).take (i.b.spare.length-1):=by simp only[iE,Eh]
   exact kp
  ·have eq:i.b.iU=((i.b.a.dy.length:Int),i.b.spare,i.b.a.sc):=by rw[dq.iU,fh X_]
   rw[eq]at BV ⊢;refine⟨i.b.a,rfl,oM,λ_ _=>⟨Y_,⟨i.b.fc.map zD,zD ⟨i.dm,i.b.a.dy.length⟩,yB 2 i.b.fc i.dm⟩,rfl,rfl,rfl,⟨by rw[ib];exact hle,by rw[ib];omega⟩,λ_ _=>⟨(),?_⟩⟩⟩;exact kp
def yLd:D1.ok Z_ 230:=gy mixed (dw Zk (dw z7t (dw yIk fk))) 0 i6 i6 [] func230 yWn
structure Bu where
 b:dq
 id:Int
 dm:Int
 dr:Int
def dq.leads (b:dq) (s dm:Int):Bool:=match b.dz s with
 |[]=>ar
 |r::_=>jo s dm r.dm
def dq.rf (b:dq) (id s dm:Int):dq:=if b.leads s dm=ar then b.jm id s else b
def dq.qe (b:dq) (s id dm dr:Int):dq:=
 let b2:=(b.rf id s dm).gf s dm
 let x:=b2.1.a.push b2.2 id dr (b.leads s dm)
 {b2.1 with a:=x.1,at_:=lV id ⟨s,dm,x.2.1⟩ b2.1.at_}
def dq.iD (b:dq) (s id dm dr:Int):dq×Int:=
 if dr<1\/1000000<dr then(b,24)else if(lh b.at_ id).isSome=ar then(b,25)else if 250<=b.at_.length then(b,13)else(b.qe s id dm dr,0)
def yRt (s:Int):gh:=fp Bu (λi=>[.nm 0 0,zB i.id,zB s,zB i.dm,zB i.dr]) (λi=>[yA i.b]) (λi=>i.b.fit) (λi=>zB (i.b.iD s i.id i.dm i.dr).2) (λi=>[yA (i.b.iD s i.id i.dm i.dr).1])
def y2n:List (Nat×gu):=[(44,bj 14)]
def G':gh:=yRt 1
def G9:gh:=yRt 2
structure BaJ where
 i:Bu
 s:Bool
def UN:gh:=fp BaJ (λj=>[.nm 0 0,zB j.i.id,zB (zF j.s),zB j.i.dm,zB j.i.dr]) (λj=>[yA j.i.b]) (λj=>j.i.b.fit) (λj=>zB (j.i.b.iD (zF j.s) j.i.id j.i.dm j.i.dr).2) (λj=>[yA (j.i.b.iD (zF j.s) j.i.id j.i.dm j.i.dr).1])
structure Ii where
 s:gz
 inst:Int
 id:Int
 sd:Bool
 dm:Int
 dr:Int
def gz.AZ (s:gz) (n:Int):dq:=s.ez.getD n.toNat og
def gz.iD (i:Ii):gz×Int:=
 if i.inst<0\/i.s.ez.length<=i.inst then(i.s,20)else if(CD i.s.wh i.id).isSome=ar then(i.s,25)else if 250<=i.s.wh.length then(i.s,13)else if i.s.p.dm i.inst i.dm≠0 then(i.s,i.s.p.dm i.inst i.dm)
 else
  let x:=(i.s.AZ i.inst).iD (zF i.sd) i.id i.dm i.dr
  ({i.s with ez:=i.s.ez.set i.inst.toNat x.1,wh:=if x.2=0 then J3 i.id i.inst i.s.wh else i.s.wh},x.2)
@[reducible] def gz.fit (s:gz):Prop:=s.p.small/\s.ez.length<=1000000/\∀b∈s.ez,b.fit
def KP:gh:=fp Ii (λi=>[.nm 0 0,zB i.inst,zB i.id,zB (zF i.sd),zB i.dm,zB i.dr]) (λi=>[zE i.s]) (λi=>i.s.fit) (λi=>zB (gz.iD i).2) (λi=>[zE (gz.iD i).1])
def eA (a:oL):Prop:=(a.b.a.du.length<=1000000/\(a.b.a.free≠0->∃(b:Slot),b∈a.b.a.du/\b.used=au)/\∀(b:aV),b∈a.b.a.dy->b.last=(-1)\/0<=b.last/\b.last<(a.b.a.du.length:Int))/\a.b.a.dy.length<=100000/\a.b.fv.length<=100000/\a.b.fc.length<=100000/\a.b.spare.length<=100000
def lJ (a:DM):Prop:=a.a.du.length<=1000000/\(a.a.free≠0->∃(b:Slot),b∈a.a.du/\b.used=au)/\∀(b:aV),b∈a.a.dy->b.last=(-1)\/0<=b.last/\b.last<(a.a.du.length:Int)
def yR (a:Bu):=(a.b.iD 1 a.id a.dm a.dr)
def zNn (a:oL) (b:Bu) (c:Bool):Prop:=(eA a)/\ff (True/\∃(e:DM),e.n=(zP a).snd/\e.id=b.id/\e.dr=b.dr/\e.top=c/\aj dv 3 zI e.a=aj dv 3 zI (zP a).fst.a/\(lJ e)/\ff ((∀(g:bo×List D),g∈jv (zP a).fst.at_->me (ax ag b.id) g.fst=ar)/\dx ((yR b).snd=0/\(yR b).fst.iM=(zP a).fst.iM/\(yR b).fst.iL=(zP a).fst.iL/\(yR b).fst.gv=(zP a).fst.gv/\(yR b).fst.gq=(zP a).fst.gq/\aj dv 3 zI (yR b).fst.a=aj dv 3 zI (yN e).fst/\aa zD (yR b).fst.fv=aa zD (zP a).fst.fv/\aa zD (yR b).fst.fc=aa zD (zP a).fst.fc/\jv (yR b).fst.at_=gU (ax ag b.id) [dI 1,dI b.dm,dI ((yN e).snd.fst)] (jv (zP a).fst.at_)/\iE (yR b).fst.spare=iE (zP a).fst.spare/\True)))
@[reducible] def QN (a:dq)(R:Prop):Prop:=ak 340 2 (aa zD a.fv)=ak 340 2 (aa zD a.fv)/\ak 340 2 (aa zD a.fc)=ak 340 2 (aa zD a.fc)/\aq (jv a.at_)=aq (jv a.at_)/\R
def Wg (a:Bool->Prop) (b:Bool) (c:Int) (d:Int) (e:Int) (f:Bu):Prop:=a b/\dk (ao [V.d (dI c),V.d (dI d),V.d (dI e)] 350)/\dk (ao [V.nm 1 0,V.own 2,V.own 3,V.mp 4,V.d (dI f.b.iM),V.d (dI f.b.iL),V.own 5,V.d (D.v (.bool f.b.gv)),V.d (D.v (.bool f.b.gq))] (284:ce))/\dk (aj dv 3 zI f.b.a)/\QN f.b (dk (ak 3 1 (iE f.b.spare)))
def WB (a:Ew) (b:Bu) (c:Int) (d:Bool->Prop) (e:Int) (f:Int) (g:Int):Prop:=a.x=b.dm/\a.y=c/\True/\ff (∃(j:Bool),j=jo a.side a.x a.y/\Wg d j e f g b)
def Wd (a:Bool->Prop) (b:Int) (c:Int) (d:Int) (e:Bu):Prop:=∃(f:Bool),f=ar/\Wg a f b c d e
def pJ (a:Bu):Prop:=(yR a).fst.iM=a.b.iM/\(yR a).fst.iL=a.b.iL/\(yR a).fst.gv=a.b.gv/\(yR a).fst.gq=a.b.gq/\aj dv 3 zI (yR a).fst.a=aj dv 3 zI a.b.a/\aa zD (yR a).fst.fv=aa zD a.b.fv/\aa zD (yR a).fst.fc=aa zD a.b.fc/\jv (yR a).fst.at_=jv a.b.at_/\iE (yR a).fst.spare=iE a.b.spare/\True
def zLy (a:Bu):Prop:=dx ((yR a).snd=24/\pJ a)
def eY (a:Bu) (b:Int) (c:Int) (d:Int) (e:Bool):Prop:=jL (ax ag a.id) (jv a.b.at_)=av [dI b,dI c,dI d]/\e=ar\/jL (ax ag a.id) (jv a.b.at_)=aw/\[dI b,dI c,dI d]=[dI 0,dI 0,dI 0]/\e=au
def lO (a:CX):Prop:=Q0 a.b.a a.b (a.b.spare.length<=1000000)
def kW (a:Int):=(!(decide (a=1)||decide (a=2)))
@[reducible] def Qe (a b:dq)(R:Prop):Prop:=a.iM=b.iM/\a.iL=b.iL/\a.gv=b.gv/\a.gq=b.gq/\aj dv 3 zI a.a=aj dv 3 zI b.a/\aa zD a.fv=aa zD b.fv/\aa zD a.fc=aa zD b.fc/\jv a.at_=jv b.at_/\iE a.spare=iE b.spare/\R
@[reducible] def QR (a b:dq)(R:Prop):Prop:=aa zD a.fv=aa zD b.fv/\aa zD a.fc=aa zD b.fc/\jv a.at_=jv b.at_/\iE a.spare=iE b.spare/\R
def ySq (i:Bu):Prop:=
 (∀(a:bo×List D),a∈jv i.b.at_->me (ax ag i.id) a.fst=ar)/\∃(a:Bool),∃(b:Int),∃(c:Int),∃(d:Int),(eY i b c d a)/\∃(e:Int),e=1/\True/\ff (dp (kW e) (dx ((yR i).snd=21/\pJ i)) (dp (decide (i.dr<1)) (zLy i) (dp (decide (i.dr>1000000)) (zLy i) (dp a (dx ((yR i).snd=25/\pJ i)) (dp (decide (((jv i.b.at_).length:Int)>=250)) (dx ((yR i).snd=13/\pJ i)) (∃(g:Bool),∃(h:Bool->Prop),dp (((aa zD i.b.fv).length:Int)==0) (Wd h b c d i) (((0:Int)<=(0:Int)/\0<((aa zD i.b.fv).length:Int))/\∃(j:Int),zC (aa zD i.b.fv) (cg 0) 0 1=av [dI j]/\∃(k:Ew),k.side=1/\WB k i j h b c d)/\∀(j:Bool),h j->dp j (∃(k:CX),k.id=i.id/\dk ((1:Int))/\Qe k.b i.b ((lO k)/\ff (∃(m:oL),dk ((1:Int))/\m.dm=i.dm/\m.b.iM=k.id/\m.b.iL=k.b.iL/\m.b.gv=ar/\m.b.gq=k.b.gq/\aj dv 3 zI m.b.a=aj dv 3 zI (k.b.iX 1)/\QR m.b k.b (zNn m i j)))) (∃(k:oL),dk ((1:Int))/\k.dm=i.dm/\Qe k.b i.b (zNn k i j))))))))
def yS (a:Bu):=(a.b.iD 2 a.id a.dm a.dr)
def Z2 (a:oL) (b:Bu) (c:Bool):Prop:=(eA a)/\ff (True/\∃(e:DM),e.n=(zO a).snd/\e.id=b.id/\e.dr=b.dr/\e.top=c/\aj dv 3 zI e.a=aj dv 3 zI (zO a).fst.a/\(lJ e)/\ff ((∀(g:bo×List D),g∈jv (zO a).fst.at_->me (ax ag b.id) g.fst=ar)/\dx ((yS b).snd=0/\(yS b).fst.iM=(zO a).fst.iM/\(yS b).fst.iL=(zO a).fst.iL/\(yS b).fst.gv=(zO a).fst.gv/\(yS b).fst.gq=(zO a).fst.gq/\aj dv 3 zI (yS b).fst.a=aj dv 3 zI (yN e).fst/\aa zD (yS b).fst.fv=aa zD (zO a).fst.fv/\aa zD (yS b).fst.fc=aa zD (zO a).fst.fc/\jv (yS b).fst.at_=gU (ax ag b.id) [dI 2,dI b.dm,dI ((yN e).snd.fst)] (jv (zO a).fst.at_)/\iE (yS b).fst.spare=iE (zO a).fst.spare/\True)))
def m7 (a:Bu):Prop:=(yS a).fst.iM=a.b.iM/\(yS a).fst.iL=a.b.iL/\(yS a).fst.gv=a.b.gv/\(yS a).fst.gq=a.b.gq/\aj dv 3 zI (yS a).fst.a=aj dv 3 zI a.b.a/\aa zD (yS a).fst.fv=aa zD a.b.fv/\aa zD (yS a).fst.fc=aa zD a.b.fc/\jv (yS a).fst.at_=jv a.b.at_/\iE (yS a).fst.spare=iE a.b.spare/\True
def zLi (a:Bu):Prop:=dx ((yS a).snd=24/\m7 a)
def yVx (i:Bu):Prop:=
 (∀(a:bo×List D),a∈jv i.b.at_->me (ax ag i.id) a.fst=ar)/\∃(a:Bool),∃(b:Int),∃(c:Int),∃(d:Int),(eY i b c d a)/\∃(e:Int),e=2/\True/\ff (dp (kW e) (dx ((yS i).snd=21/\m7 i)) (dp (decide (i.dr<1)) (zLi i) (dp (decide (i.dr>1000000)) (zLi i) (dp a (dx ((yS i).snd=25/\m7 i)) (dp (decide (((jv i.b.at_).length:Int)>=250)) (dx ((yS i).snd=13/\m7 i)) (∃(g:Bool),∃(h:Bool->Prop),dp (((aa zD i.b.fc).length:Int)==0) (Wd h b c d i) (((0:Int)<=(0:Int)/\0<((aa zD i.b.fc).length:Int))/\∃(j:Int),zC (aa zD i.b.fc) (cg 0) 0 1=av [dI j]/\∃(k:Ew),k.side=2/\WB k i j h b c d)/\∀(j:Bool),h j->dp j (∃(k:CX),k.id=i.id/\dk ((2:Int))/\Qe k.b i.b ((lO k)/\ff (∃(m:oL),dk ((2:Int))/\m.dm=i.dm/\m.b.iM=k.b.iM/\m.b.iL=k.id/\m.b.gv=k.b.gv/\m.b.gq=ar/\aj dv 3 zI m.b.a=aj dv 3 zI (k.b.iX 2)/\QR m.b k.b (Z2 m i j)))) (∃(k:oL),dk ((2:Int))/\k.dm=i.dm/\Qe k.b i.b (Z2 k i j))))))))
def zMg (a:Ii):Prop:=am 1 (iE (gz.iD a).fst.p.dt)=am 1 (iE a.s.p.dt)/\am 1 (iE (gz.iD a).fst.p.settle)=am 1 (iE a.s.p.settle)/\True
def zNm (a:Ii):Prop:=yT (gz.iD a).fst.wh=yT a.s.wh/\zMg a
@[reducible] def Qk (a:Ii)(R:Prop):Prop:=sb (gz.iD a).fst.p.code=sb a.s.p.code/\(gz.iD a).fst.p.tick=a.s.p.tick/\(gz.iD a).fst.p.low=a.s.p.low/\(gz.iD a).fst.p.high=a.s.p.high/\(gz.iD a).fst.p.wide=a.s.p.wide/\(gz.iD a).fst.p.gn=a.s.p.gn/\(gz.iD a).fst.p.top=a.s.p.top/\(gz.iD a).fst.p.least=a.s.p.least/\(gz.iD a).fst.p.part=a.s.p.part/\R
def sR (a:Ii):Prop:=Qk a (ap 160 dq 6 zR (gz.iD a).fst.ez aw=ap 160 dq 6 zR a.s.ez aw/\zNm a)
def zMu (a:Ii):Prop:=dx ((gz.iD a).snd=20/\sR a)
def sI (a:BaJ):=(a.i.b.iD (zF a.s) a.i.id a.i.dm a.i.dr)
@[reducible] def DK (a:Int)(b:List dq)(R:Prop):Prop:=a.toNat=a.toNat/\a.toNat<b.length/\R
def y2o (i:Ii):Prop:=
 (∀(a:bo×List D),a∈yT i.s.wh->me (ax ag i.id) a.fst=ar)/\∃(a:Bool),∃(b:Int),(jL (ax ag i.id) (yT i.s.wh)=av [dI b]/\a=ar\/jL (ax ag i.id) (yT i.s.wh)=aw/\[dI b]=[dI 0]/\a=au)/\dp (decide (i.inst>=0)) (dp (!decide (i.inst<(i.s.ez.length:Int))) (zMu i) (dp a (dx ((gz.iD i).snd=25/\sR i)) (dp (decide (((yT i.s.wh).length:Int)>=250)) (dx ((gz.iD i).snd=13/\sR i)) (∃(c:A9),Qb c.p i.s.p (c.a=i.inst/\c.b=i.dm/\(qQ c)/\ff (dp (c.p.dm c.a c.b !=0) (dx ((gz.iD i).snd=c.p.dm c.a c.b/\sR i)) ((0<=i.inst/\i.inst<(i.s.ez.length:Int))/\i.inst.toNat<i.s.ez.length/\∃(e:dq),i.s.ez[i.inst.toNat]?=av e/\∃(f:BaJ),f.i.id=i.id/\zF f.s=zF i.sd/\f.i.dm=i.dm/\f.i.dr=i.dr/\yA f.i.b=yA e/\((f.i.b.a.du.length<=1000000/\(f.i.b.a.free≠0->∃(g:Slot),g∈f.i.b.a.du/\g.used=au)/\∀(g:aV),g∈f.i.b.a.dy->g.last=(-1)\/0<=g.last/\g.last<(f.i.b.a.du.length:Int))/\f.i.b.a.dy.length<=100000/\f.i.b.fv.length<=100000/\f.i.b.fc.length<=100000/\f.i.b.spare.length<=100000)/\ff (∃(h:dq),yA (sI f).fst=yA h/\DK i.inst i.s.ez (dp ((sI f).snd==0) ((∀(j:bo×List D),j∈yT i.s.wh->me (ax ag i.id) j.fst=ar)/\dx ((gz.iD i).snd=(sI f).snd/\Qk i (ap 160 dq 6 zR (gz.iD i).fst.ez aw=ap 160 dq 6 zR (i.s.ez.set i.inst.toNat h) aw/\yT (gz.iD i).fst.wh=gU (ax ag i.id) [dI i.inst] (yT i.s.wh)/\zMg i))) (dx ((gz.iD i).snd=(sI f).snd/\Qk i (ap 160 dq 6 zR (gz.iD i).fst.ez aw=ap 160 dq 6 zR (i.s.ez.set i.inst.toNat h) aw/\zNm i)))))))))))) (zMu i)
def zRu {α:Type} {f:α->α} {Q:α->Prop} (hf:∀x,Q x->Q (f x)):∀{l:List α} (i:Nat),(∃x∈l,Q x)->∃x∈l.modify i f,Q x
 |[],i,⟨x,hx,_⟩=>by cases hx
 |a::l,0,⟨x,hx,q⟩=>by
  rcases j'.1 hx with rfl|hx
  ·exact⟨f x,iY,hf x q⟩
  ·exact⟨x,jj _ hx,q⟩
 |a::l,i+1,⟨x,hx,q⟩=>by
  rw[RO];rcases j'.1 hx with rfl|hx
  ·exact⟨x,iY,q⟩
  ·obtain⟨y,hy,hq⟩:=zRu hf (l:=l) i ⟨x,hx,q⟩;exact⟨y,jj _ hy,hq⟩
def yUe {a:dv} (h:a.fit) (n:Int) (t:Bool):(a.mq n t).fit:=by
 obtain⟨h1,h2,h3⟩:=h;rw[dv.mq];split
 ·refine⟨i9 h1,λhf=> ?_,i9 h3⟩;exact zRu (f:=λs:Slot=>{s with top:=t}) (Q:=λs=>s.used=au) (λx hx=>hx) _ (h2 hf)
 ·exact⟨h1,h2,h3⟩
def yMs {b:dq} (h:b.a.fit) (s:Int):(b.iX s).fit:=by
 rw[dq.iX]
 repeat' split
 all_goals first|exact h|exact yUe h _ _
def yKf {a:dv} (h:a.fit):a.sc.fit:=by
 obtain⟨h1,h2,h3⟩:=h;refine⟨h1,h2,λq hq=> ?_⟩;rcases oH.1 hq with hq|hq
 ·exact h3 q hq
 ·rw[tq.1 hq];exact .inl rfl
def z5g {b:dq} (h:b.a.fit):b.iU.2.2.fit:=by
 rw[dq.iU];split
 ·exact yKf h
 ·exact h
def WM {b:dq} (h:b.a.fit) (s p:Int):(b.gf s p).1.a.fit:=by
 rw[dq.gf]
 repeat' split
 ·exact h
 ·exact z5g h
 ·exact z5g h
def yKt (b:dq) (s:Int):(b.iX s).du.length=b.a.du.length/\(b.iX s).dy=b.a.dy:=by
 have ht:∀n t,(b.a.mq n t).du.length=b.a.du.length/\(b.a.mq n t).dy=b.a.dy:=by
  intro n t;rw[dv.mq];split
  ·exact⟨by simp,rfl⟩
  ·exact⟨rfl,rfl⟩
 rw[dq.iX]
 repeat' split
 all_goals first|exact⟨rfl,rfl⟩|exact ht _ _
def zXf {b:dq} (h:b.fit) (id s:Int):(b.jm id s).fit:=by
 obtain⟨h1,h2,h3,h4,h5⟩:=h;have hl:=yKt b s;rw[dq.jm];split
 all_goals exact⟨yMs h1 s,by rw[hl.2];exact h2,h3,h4,h5⟩
def zXd {b:dq} (h:b.fit):b.small:=by
 obtain⟨⟨h1,_⟩,h2,h3,h4,h5⟩:=h;exact⟨⟨h1,oM⟩,oM,oM,oM⟩
def xBt (i:Bu) (h:G'.dp i):ySq i:=by
 have tn:i.b.fit:=h;have qw:=zXd tn;unfold ySq QR ff dx Qe zLy dx Wd WB ff Wg QN zNn ff dx zP lJ eA yN kW lO Q0 eY pJ yR dI;have FT:∀(b:dq) (x:Int),gU (ax ag i.id) [D.v (.int .i64 1),D.v (.int .i64 i.dm),D.v (.int .i64 x)] (jv b.at_)=jv (lV i.id ⟨1,i.dm,x⟩ b.at_):=λb x=>z0k i.id ⟨1,i.dm,x⟩ b.at_
 refine⟨vB _ _,(lh i.b.at_ i.id).isSome,_,_,_,NI _ _,1,rfl,Y_,λ_ _=> ?_⟩;refine W_ (λc=>absurd c Z8) λ_=> ?_
 refine zH (λc=> ?_) (λc=>zH (λd=> ?_) (λd=> ?_))
 ·have ha:i.b.iD 1 i.id i.dm i.dr=(i.b,24):=by rw[dq.iD,fh (.inl c)]
  rw[ha];exact kp
 ·have ha:i.b.iD 1 i.id i.dm i.dr=(i.b,24):=by rw[dq.iD,fh (.inr d)]
  rw[ha];exact kp
 have hq:¬(i.dr<1\/1000000<i.dr):=X_
 refine W_ (λe=> ?_) (λe=> ?_)
 ·have ha:i.b.iD 1 i.id i.dm i.dr=(i.b,25):=by rw[dq.iD,eg hq,fh e]
  rw[ha];exact kp
 have hlen:(jv i.b.at_).length=i.b.at_.length:=by simp[jv]
 rw[hlen];refine zH (λf=> ?_) (λf=> ?_)
 ·have ha:i.b.iD 1 i.id i.dm i.dr=(i.b,13):=by rw[dq.iD,eg hq,eg (by rw[e];decide),fh X_]
  rw[ha];exact kp
 have ha:i.b.iD 1 i.id i.dm i.dr=(i.b.qe 1 i.id i.dm i.dr,0):=by rw[dq.iD,eg hq,eg (by rw[e];decide),eg X_]
 rw[ha];simp only[ib];refine⟨ar,λx=>x=i.b.leads 1 i.dm,W_ (λg=>⟨ar,rfl,?_,gj⟩) (λg=> ?_),λx hx=> ?_⟩
 ·have:i.b.fv=[]:=ye (by have:(i.b.fv.length:Int)=0:=(i9 g);omega);rw[dq.leads,eL,this]
 ·obtain⟨r,l,hl⟩:∃r l,i.b.fv=r::l:=by
   cases hb:i.b.fv with
   |nil=>rw[hb]at g;exact absurd g Z8
   |cons r l=>exact⟨r,l,rfl⟩
  refine⟨⟨oM,by rw[hl,iG];omega⟩,r.dm,jz (x:=r) (by rw[hl];rfl) (by simp[zD]) rfl,⟨1,i.dm,r.dm⟩,rfl,rfl,rfl,Y_,λ_ _=>⟨_,rfl,?_,gj⟩⟩;rw[dq.leads,eL,hl]
 subst hx;refine W_ (λg=> ?_) (λg=> ?_)
 ·have C6:i.b.rf i.id 1 i.dm=i.b.jm i.id 1:=by rw[dq.rf,fh g]
  have SH:=zXf tn i.id 1;have lr:i.b.qe 1 i.id i.dm i.dr={((i.b.jm i.id 1).gf 1 i.dm).1 with a:=(((i.b.jm i.id 1).gf 1 i.dm).1.a.push ((i.b.jm i.id 1).gf 1 i.dm).2 i.id i.dr (i.b.leads 1 i.dm)).1,at_:=lV i.id ⟨1,i.dm,(((i.b.jm i.id 1).gf 1 i.dm).1.a.push ((i.b.jm i.id 1).gf 1 i.dm).2 i.id i.dr (i.b.leads 1 i.dm)).2.1⟩ ((i.b.jm i.id 1).gf 1 i.dm).1.at_}:=by
   simp only[dq.qe,C6]
  refine⟨⟨i.b,i.id⟩,rfl,Y_,iB ⟨rfl,qw,λ_ _=>⟨⟨i.b.jm i.id 1,i.dm⟩,Y_,nu (iP ⟨rfl,SH,λ_ _=>⟨Y_,?_⟩⟩)⟩⟩⟩;refine⟨⟨((i.b.jm i.id 1).gf 1 i.dm).1.a,((i.b.jm i.id 1).gf 1 i.dm).2,i.id,i.dr,i.b.leads 1 i.dm⟩,nh ⟨rfl,WM SH.1 1 i.dm,λ_ _=>⟨vB _ _,(),?_⟩⟩⟩;dsimp only;rw[lr,FT];exact kp
 ·have C6:i.b.rf i.id 1 i.dm=i.b:=by rw[dq.rf,eg (by rw[g];decide)]
  have lr:i.b.qe 1 i.id i.dm i.dr={(i.b.gf 1 i.dm).1 with a:=((i.b.gf 1 i.dm).1.a.push (i.b.gf 1 i.dm).2 i.id i.dr (i.b.leads 1 i.dm)).1,at_:=lV i.id ⟨1,i.dm,((i.b.gf 1 i.dm).1.a.push (i.b.gf 1 i.dm).2 i.id i.dr (i.b.leads 1 i.dm)).2.1⟩ (i.b.gf 1 i.dm).1.at_}:=by
   simp only[dq.qe,C6]
  refine⟨⟨i.b,i.dm⟩,Y_,nu (iP ⟨rfl,tn,λ_ _=>⟨Y_,?_⟩⟩)⟩;refine⟨⟨(i.b.gf 1 i.dm).1.a,(i.b.gf 1 i.dm).2,i.id,i.dr,i.b.leads 1 i.dm⟩,nh ⟨rfl,WM tn.1 1 i.dm,λ_ _=>⟨vB _ _,(),?_⟩⟩⟩;dsimp only;rw[lr,FT];exact kp
def yQs:G'.ok Z_ 166:=gy mixed (dw JR (dw pA (dw yQr (dw yMo (dw z3o fk))))) 0 (λ_=>y2n) i6 [0] func166 xBt
def y7l (i:Bu) (h:G9.dp i):yVx i:=by
 have tn:i.b.fit:=h;have qw:=zXd tn;unfold yVx QR ff dx Qe zLi dx Z2 ff dx zO lJ eA yN m7 yS Wd WB ff Wg QN kW lO Q0 eY dI;have FT:∀(b:dq) (x:Int),gU (ax ag i.id) [D.v (.int .i64 2),D.v (.int .i64 i.dm),D.v (.int .i64 x)] (jv b.at_)=jv (lV i.id ⟨2,i.dm,x⟩ b.at_):=λb x=>z0k i.id ⟨2,i.dm,x⟩ b.at_
 refine⟨vB _ _,(lh i.b.at_ i.id).isSome,_,_,_,NI _ _,2,rfl,Y_,λ_ _=> ?_⟩;refine W_ (λc=>absurd c Z8) λ_=> ?_
 refine zH (λc=> ?_) (λc=>zH (λd=> ?_) (λd=> ?_))
 ·have ha:i.b.iD 2 i.id i.dm i.dr=(i.b,24):=by rw[dq.iD,fh (.inl c)]
  rw[ha];exact kp
 ·have ha:i.b.iD 2 i.id i.dm i.dr=(i.b,24):=by rw[dq.iD,fh (.inr d)]
  rw[ha];exact kp
 have hq:¬(i.dr<1\/1000000<i.dr):=X_
 refine W_ (λe=> ?_) (λe=> ?_)
 ·have ha:i.b.iD 2 i.id i.dm i.dr=(i.b,25):=by rw[dq.iD,eg hq,fh e]
  rw[ha];exact kp
 have hlen:(jv i.b.at_).length=i.b.at_.length:=by simp[jv]
 rw[hlen];refine zH (λf=> ?_) (λf=> ?_)
 ·have ha:i.b.iD 2 i.id i.dm i.dr=(i.b,13):=by rw[dq.iD,eg hq,eg (by rw[e];decide),fh X_]
  rw[ha];exact kp
 have ha:i.b.iD 2 i.id i.dm i.dr=(i.b.qe 2 i.id i.dm i.dr,0):=by rw[dq.iD,eg hq,eg (by rw[e];decide),eg X_]
 rw[ha];simp only[ib];refine⟨ar,λx=>x=i.b.leads 2 i.dm,W_ (λg=>⟨ar,rfl,?_,gj⟩) (λg=> ?_),λx hx=> ?_⟩
 ·have:i.b.fc=[]:=ye (by have:(i.b.fc.length:Int)=0:=(i9 g);omega);rw[dq.leads,It,this]
 ·obtain⟨r,l,hl⟩:∃r l,i.b.fc=r::l:=by
   cases hb:i.b.fc with
   |nil=>rw[hb]at g;exact absurd g Z8
   |cons r l=>exact⟨r,l,rfl⟩
  refine⟨⟨oM,by rw[hl,iG];omega⟩,r.dm,jz (x:=r) (by rw[hl];rfl) (by simp[zD]) rfl,⟨2,i.dm,r.dm⟩,rfl,rfl,rfl,Y_,λ_ _=>⟨_,rfl,?_,gj⟩⟩;rw[dq.leads,It,hl]
 subst hx;refine W_ (λg=> ?_) (λg=> ?_)
 ·have C6:i.b.rf i.id 2 i.dm=i.b.jm i.id 2:=by rw[dq.rf,fh g]
  have SH:=zXf tn i.id 2;have lr:i.b.qe 2 i.id i.dm i.dr={((i.b.jm i.id 2).gf 2 i.dm).1 with a:=(((i.b.jm i.id 2).gf 2 i.dm).1.a.push ((i.b.jm i.id 2).gf 2 i.dm).2 i.id i.dr (i.b.leads 2 i.dm)).1,at_:=lV i.id ⟨2,i.dm,(((i.b.jm i.id 2).gf 2 i.dm).1.a.push ((i.b.jm i.id 2).gf 2 i.dm).2 i.id i.dr (i.b.leads 2 i.dm)).2.1⟩ ((i.b.jm i.id 2).gf 2 i.dm).1.at_}:=by
   simp only[dq.qe,C6]
  refine⟨⟨i.b,i.id⟩,rfl,Y_,iB ⟨rfl,qw,λ_ _=>⟨⟨i.b.jm i.id 2,i.dm⟩,Y_,nu (iP ⟨rfl,SH,λ_ _=>⟨Y_,?_⟩⟩)⟩⟩⟩;refine⟨⟨((i.b.jm i.id 2).gf 2 i.dm).1.a,((i.b.jm i.id 2).gf 2 i.dm).2,i.id,i.dr,i.b.leads 2 i.dm⟩,nh ⟨rfl,WM SH.1 2 i.dm,λ_ _=>⟨vB _ _,(),?_⟩⟩⟩;dsimp only;rw[lr,FT];exact kp
 ·have C6:i.b.rf i.id 2 i.dm=i.b:=by rw[dq.rf,eg (by rw[g];decide)]
  have lr:i.b.qe 2 i.id i.dm i.dr={(i.b.gf 2 i.dm).1 with a:=((i.b.gf 2 i.dm).1.a.push (i.b.gf 2 i.dm).2 i.id i.dr (i.b.leads 2 i.dm)).1,at_:=lV i.id ⟨2,i.dm,((i.b.gf 2 i.dm).1.a.push (i.b.gf 2 i.dm).2 i.id i.dr (i.b.leads 2 i.dm)).2.1⟩ (i.b.gf 2 i.dm).1.at_}:=by
   simp only[dq.qe,C6]
  refine⟨⟨i.b,i.dm⟩,Y_,nu (iP ⟨rfl,tn,λ_ _=>⟨Y_,?_⟩⟩)⟩;refine⟨⟨(i.b.gf 2 i.dm).1.a,(i.b.gf 2 i.dm).2,i.id,i.dr,i.b.leads 2 i.dm⟩,nh ⟨rfl,WM tn.1 2 i.dm,λ_ _=>⟨vB _ _,(),?_⟩⟩⟩;dsimp only;rw[lr,FT];exact kp
def yWh:G9.ok Z_ 166:=gy mixed (dw JR (dw pA (dw yRy (dw yLd (dw z3o fk))))) 0 (λ_=>y2n) i6 [0] func166 y7l
def y0v:UN.ok Z_ 166:=λj=>match j with
 |⟨i,au⟩=>yQs i
 |⟨i,ar⟩=>yWh i
def xHu (i:Ii) (h:KP.dp i):y2o i:=by
 obtain⟨hp,Aj,hb⟩:i.s.fit:=h;unfold y2o Qb DK ff dx Qk sI zMu dx sR Qk zNm zMg qQ ph dI;simp only[z5y];have ux:(yT i.s.wh).length=i.s.wh.length:=by simp[yT]
 rw[ux];have out (e:i.inst<0\/i.s.ez.length<=i.inst):gz.iD i=(i.s,20):=by rw[gz.iD,fh e]
 refine⟨bQ _ _,(CD i.s.wh i.id).isSome,_,y6g _ _,zH (λc=>W_ (λd=> ?_) (λd=> ?_)) (λc=> ?_)⟩
 ·have d:¬i.inst<(i.s.ez.length:Int):=i9 d
  rw[out (.inr X_)];exact kp
 ·have d:i.inst<(i.s.ez.length:Int):=i9 d
  have hn:¬(i.inst<0\/(i.s.ez.length:Int)<=i.inst):=X_
  refine W_ (λe=> ?_) (λe=>zH (λf=> ?_) (λf=> ?_))
  ·rw[gz.iD,eg hn,fh e];exact kp
  ·rw[gz.iD,eg hn,eg (by rw[e];decide),fh X_];exact kp
  ·refine⟨⟨i.s.p,i.inst,i.dm⟩,iB (nh ⟨rfl,hp,λ_ _=>W_ (λg=> ?_) (λg=> ?_)⟩)⟩
   ·have g:i.s.p.dm i.inst i.dm≠0:=i9 g
    rw[gz.iD,eg hn,eg (by rw[e];decide),eg X_,fh g];exact kp
   ·have g:i.s.p.dm i.inst i.dm=0:=i9 g
    obtain⟨x,hx⟩:=zZ (l:=i.s.ez) (i:=i.inst.toNat) oM;have hba:i.s.AZ i.inst=x:=zX hx;have ha:gz.iD i=({i.s with ez:=i.s.ez.set i.inst.toNat (x.iD (zF i.sd) i.id i.dm i.dr).1,wh:=if(x.iD (zF i.sd) i.id i.dm i.dr).2=0 then J3 i.id i.inst i.s.wh else i.s.wh},(x.iD (zF i.sd) i.id i.dm i.dr).2):=by
     rw[gz.iD,eg hn,eg (by rw[e];decide),eg X_,eg (by simp[g])];simp only[hba]
    refine⟨⟨oM,oM⟩,oM,x,hx,⟨⟨x,i.id,i.dm,i.dr⟩,i.sd⟩,nh ⟨rfl,hb x (kx hx),λ_ _=>⟨(x.iD (zF i.sd) i.id i.dm i.dr).1,rfl,Y_,oM,W_ (λz=>⟨bQ _ _,?_⟩) (λz=> ?_)⟩⟩⟩
    ·have z:(x.iD (zF i.sd) i.id i.dm i.dr).2=0:=i9 z
     rw[ha,z];simp only[if_true];exact kp
    ·have z:¬(x.iD (zF i.sd) i.id i.dm i.dr).2=0:=i9 z
     rw[ha,eg z];exact kp
 ·rw[out (.inl X_)];exact kp
def yZm:KP.ok Z_ 90:=gy mixed (dw Rf (dw y0v fk)) 1 i6 i6 [0] func90 xHu
def DZ:gh:=fp i4 (λs=>[sV s]) i6 (λs=>s.length<=1099511627776) (λs=>yM (vC s)) i6
def yZd (s:i4):List gu:=[{ι:=Nat×Nat,du:=λx=>[(3,zB x.2),(7,.nm 0 0)],rows:=λx=>[.iter (sb s) x.1]}]
def y0a:List (Nat×gu):=[(20,bj 29)]
def B9:gh:=fp fj (λp=>[nv p]) i6 fj.small (λp=>zB p.check) i6
def yOc:List gu:=[{ι:=Nat,du:=λj=>[(3,zB j)],rows:=λ_=>[]},{ι:=Nat,du:=λj=>[(4,zB j)],rows:=λ_=>[]},{ι:=Nat,du:=λj=>[(5,zB j)],rows:=λ_=>[]}]
def yVu:List (Nat×gu):=[(12,bj 19),(32,bj 58),(40,bj 90),(68,bj 136),(96,bj 168),(104,bj 176),(112,bj 204)]
def B8:gh:=fp fj (λp=>[nv p]) i6 fj.small (λp=>zB p.count) i6
def DY:gh:=fp aK (λi=>[nv i.p,zB i.n]) i6 (λi=>i.p.small) (λi=> .je [zB (i.p.gp i.n).1,zB (i.p.gp i.n).2.1,yM (i.p.gp i.n).2.2]) i6
def yYs (i:aK):List gu:=[{ι:=Nat,du:=λm=>[(8,zB (yP i.p.dt.length m)),(9,zB m)],rows:=λ_=>[]},
 {ι:=Nat×Nat,du:=λm=>[(8,zB ((yP i.p.dt.length m.1+m.2:Nat):Int)),(9,zB m.1),(10,zB ((m.1+1+m.2:Nat):Int))],rows:=λ_=>[]}]
def kN (x:fj):Int:=2+zG x.dt.length 0 3
def zW (x:fj):Int:=1+zG x.tick 0 9
def qU (n:Nat):List Int:=(ae n).map λ(i:Nat)=>10*(i:Int)+3
def jB (t:Int) (n:Nat):List Int:=(ae n).map λ(i:Nat)=>t*(10+(i:Int))
def im (x:fj):fj:=⟨[206,169],qU (kN x).toNat,zW x,-20*zW x,100*zW x,zW x*(5+zG x.wide 0 60),1+zG x.gn 0 2,zG x.top 0 9,1+zG x.least 0 4,zG x.part 0 100,jB (zW x) (kN x).toNat⟩
@[reducible] def fj.raw (x:fj):Prop:=gx x.tick/\gx x.wide/\gx x.gn/\gx x.top/\gx x.least/\gx x.part/\x.dt.length<=9223372036854775807
def Db:gh:=fp fj (λx=>[nv x]) i6 fj.raw (λx=>nv (im x)) i6
def xJe (x:fj) (w:Int) (j:Nat):List fq:=[.cells [sV [206,169],.own 1,zB (zW x),zB (-20*zW x),zB (100*zW x),zB w,zB (1+zG x.gn 0 2),zB (zG x.top 0 9),zB (1+zG x.least 0 4),zB (zG x.part 0 100),.own 2] 25,.own 3 1 (iE (qU j)),.own 2 1 (iE (jB (zW x) j))]
def xDm (x:fj):List fq:=[.cells [sV [206,169],.d (.v (.slice aw 0 0)),zB (zW x),zB (-20*zW x),zB (100*zW x),zB 0,zB (1+zG x.gn 0 2),zB (zG x.top 0 9),zB (1+zG x.least 0 4),zB (zG x.part 0 100),.d (.v (.slice aw 0 0))] 25]
def y5x (x:fj):List gu:=[{ι:=Nat,du:=λj=>[(5,.nm 0 0),(6,zB j)],rows:=λj=>xJe x (zW x*(5+zG x.wide 0 60)) j}]
def y9q (x:fj):List (Nat×gu):=[(12,{ι:=Unit,du:=λ_=>[(5,.nm 0 0)],o8:=λ_=>[],mf:=λ_=>[],rows:=λ_=>xDm x})]
end Sx
