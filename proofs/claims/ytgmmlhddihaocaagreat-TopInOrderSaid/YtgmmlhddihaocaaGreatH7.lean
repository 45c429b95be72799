/- Texts of ours. No condition. -/
import Derived.Laws.Externs
import Derived.Test.YtgmmlhddihaocaaGreatH6
set_option linter.all false
open Go.IntKind renaming i64->aa,u64->ab
open List renaming map->ac,take->ae,replicate->af,headD_cons->ag,tail_cons->aj,range->ak,drop->am
open Exists renaming intro->ao
open Bool renaming true->ap,false->aq
open And renaming intro->ar
open Sx.fw renaming cells->au,own->av,kh->aw,iter->ax
open Option renaming some->ay
open Go.Utf8 renaming decode->ba
open Go.Value renaming string->bc,int->be
open Int renaming zero_add->bg,add_zero->bo,mul_add->bu
namespace Sx
set_option maxRecDepth 100000
open Go Cv Go.Proofs
def zQd {α:Type} {f:α->α} {Q:α->Prop} (hf:∀x,Q x->Q (f x)):∀{l:List α} (i:Nat),(∃x∈l,Q x)->∃x∈l.modify i f,Q x
 |[],i,⟨x,hx,_⟩=>by cases hx
 |a::l,0,⟨x,hx,q⟩=>by
  rcases ku.1 hx with rfl|hx
  ·exact⟨f x,jg,hf x q⟩
  ·exact⟨x,jx _ hx,q⟩
 |a::l,i+1,⟨x,hx,q⟩=>by
  rw[Nq];rcases ku.1 hx with rfl|hx
  ·exact⟨x,jg,q⟩
  ·obtain⟨y,hy,hq⟩:=zQd hf (l:=l) i ⟨x,hx,q⟩;exact⟨y,jx _ hy,hq⟩
def yQf {a:dw} (h:a.fit) (n:Int) (t:Bool):(a.ng n t).fit:=by
 obtain⟨h1,h2,h3⟩:=h;rw[dw.ng];split
 ·refine⟨by simpa using h1,λhf=> ?_,by simpa using h3⟩;exact zQd (f:=λs:Slot=>{s with top:=t}) (Q:=λs=>s.used=aq) (λx hx=>hx) _ (h2 hf)
 ·exact⟨h1,h2,h3⟩
def yFn {b:dt} (h:b.a.fit) (s:Int):(b.iZ s).fit:=by
 rw[dt.iZ]
 repeat' split
 all_goals first|exact h|exact yQf h _ _
def yHt {a:dw} (h:a.fit):a.tn.fit:=by
 obtain⟨h1,h2,h3⟩:=h;refine⟨h1,h2,λq hq=> ?_⟩;rcases qq.1 hq with hq|hq
 ·exact h3 q hq
 ·rw[xj.1 hq];exact .inl rfl
def z4k {b:dt} (h:b.a.fit):b.iW.2.2.fit:=by
 rw[dt.iW];split
 ·exact yHt h
 ·exact h
def tA {b:dt} (h:b.a.fit) (s p:Int):(b.gr s p).1.a.fit:=by
 rw[dt.gr]
 repeat' split
 ·exact h
 ·exact z4k h
 ·exact z4k h
def yGa (b:dt) (s:Int):(b.iZ s).dv.length=b.a.dv.length/\(b.iZ s).dy=b.a.dy:=by
 have ht:∀n t,(b.a.ng n t).dv.length=b.a.dv.length/\(b.a.ng n t).dy=b.a.dy:=by
  intro n t;rw[dw.ng];split
  ·exact⟨by simp,rfl⟩
  ·exact⟨rfl,rfl⟩
 rw[dt.iZ]
 repeat' split
 all_goals first|exact⟨rfl,rfl⟩|exact ht _ _
def zXj {b:dt} (h:b.fit) (id s:Int):(b.jl id s).fit:=by
 obtain⟨h1,h2,h3,h4,h5⟩:=h;have hl:=yGa b s;rw[dt.jl];split
 all_goals exact⟨yFn h1 s,by rw[hl.2];exact h2,h3,h4,h5⟩
def zYa {b:dt} (h:b.fit):b.small:=by
 obtain⟨⟨h1,_⟩,h2,h3,h4,h5⟩:=h;exact⟨⟨h1,oM⟩,oM,oM,oM⟩
def yZr (i:Bd) (h:Gr.du i):yNa i:=by
 have rh:i.b.fit:=h;have xx:=zYa rh;unfold yNa QG fp ez Qf Zf ez UT UJ fp Vi QE kQ Zz fp ez zP tD eB yL tC QL eV m8 yR dI;have Fe:∀(b:dt) (x:Int),jI (be aa i.id) [D.v (.int .i64 1),D.v (.int .i64 i.dp),D.v (.int .i64 x)] (jv b.at_)=jv (lG i.id ⟨1,i.dp,x⟩ b.at_):=λb x=>z0f i.id ⟨1,i.dp,x⟩ b.at_
 refine⟨wS _ _,(lp i.b.at_ i.id).isSome,_,_,_,Mz _ _,1,rfl,trivial,λ_ _=> ?_⟩;refine Cv.du.mk (λc=>absurd c Z8) λ_=> ?_
 refine zI (λc=> ?_) (λc=>zI (λd=> ?_) (λd=> ?_))
 ·have ha:i.b.iJ 1 i.id i.dp i.dq=(i.b,24):=by rw[dt.iJ,fk (.inl c)]
  rw[ha];exact kp
 ·have ha:i.b.iJ 1 i.id i.dp i.dq=(i.b,24):=by rw[dt.iJ,fk (.inr d)]
  rw[ha];exact kp
 have hq:¬(i.dq<1\/1000000<i.dq):=by omega
 refine Cv.du.mk (λe=> ?_) (λe=> ?_)
 ·have ha:i.b.iJ 1 i.id i.dp i.dq=(i.b,25):=by rw[dt.iJ,dx hq,fk e]
  rw[ha];exact kp
 have hlen:(jv i.b.at_).length=i.b.at_.length:=by simp[jv]
 rw[hlen];refine zI (λf=> ?_) (λf=> ?_)
 ·have ha:i.b.iJ 1 i.id i.dp i.dq=(i.b,13):=by rw[dt.iJ,dx hq,dx (by rw[e];decide),fk (by omega)]
  rw[ha];exact kp
 have ha:i.b.iJ 1 i.id i.dp i.dq=(i.b.qi 1 i.id i.dp i.dq,0):=by rw[dt.iJ,dx hq,dx (by rw[e];decide),dx (by omega)]
 rw[ha];simp only[iz];refine⟨ap,λx=>x=i.b.leads 1 i.dp,Cv.du.mk (λg=>⟨ap,rfl,?_,ic⟩) (λg=> ?_),λx hx=> ?_⟩
 ·have:i.b.fv=[]:=zm (by have:(i.b.fv.length:Int)=0:=(by simpa using g);omega);rw[dt.leads,tY,this]
 ·obtain⟨r,l,hl⟩:∃r l,i.b.fv=r::l:=by
   cases hb:i.b.fv with
   |nil=>rw[hb]at g;exact absurd g Z8
   |cons r l=>exact⟨r,l,rfl⟩
  refine⟨⟨oM,by rw[hl,iY];omega⟩,r.dp,kf (x:=r) (by rw[hl];rfl) (by simp[zC]) rfl,⟨1,i.dp,r.dp⟩,rfl,rfl,rfl,trivial,λ_ _=>⟨_,rfl,?_,ic⟩⟩;rw[dt.leads,tY,hl]
 subst hx;refine Cv.du.mk (λg=> ?_) (λg=> ?_)
 ·have CB:i.b.rp i.id 1 i.dp=i.b.jl i.id 1:=by rw[dt.rp,fk g]
  have Lj:=zXj rh i.id 1;have jy:i.b.qi 1 i.id i.dp i.dq={((i.b.jl i.id 1).gr 1 i.dp).1 with a:=(((i.b.jl i.id 1).gr 1 i.dp).1.a.push ((i.b.jl i.id 1).gr 1 i.dp).2 i.id i.dq (i.b.leads 1 i.dp)).1,at_:=lG i.id ⟨1,i.dp,(((i.b.jl i.id 1).gr 1 i.dp).1.a.push ((i.b.jl i.id 1).gr 1 i.dp).2 i.id i.dq (i.b.leads 1 i.dp)).2.1⟩ ((i.b.jl i.id 1).gr 1 i.dp).1.at_}:=by
   simp only[dt.qi,CB]
  refine⟨⟨i.b,i.id⟩,rfl,trivial,iH ⟨rfl,xx,λ_ _=>⟨⟨i.b.jl i.id 1,i.dp⟩,trivial,oE (jh ⟨rfl,Lj,λ_ _=>⟨trivial,?_⟩⟩)⟩⟩⟩;refine⟨⟨((i.b.jl i.id 1).gr 1 i.dp).1.a,((i.b.jl i.id 1).gr 1 i.dp).2,i.id,i.dq,i.b.leads 1 i.dp⟩,oT ⟨rfl,tA Lj.1 1 i.dp,λ_ _=>⟨wS _ _,(),?_⟩⟩⟩;dsimp only;rw[jy,Fe]
  exact kp
 ·have CB:i.b.rp i.id 1 i.dp=i.b:=by rw[dt.rp,dx (by rw[g];decide)]
  have jy:i.b.qi 1 i.id i.dp i.dq={(i.b.gr 1 i.dp).1 with a:=((i.b.gr 1 i.dp).1.a.push (i.b.gr 1 i.dp).2 i.id i.dq (i.b.leads 1 i.dp)).1,at_:=lG i.id ⟨1,i.dp,((i.b.gr 1 i.dp).1.a.push (i.b.gr 1 i.dp).2 i.id i.dq (i.b.leads 1 i.dp)).2.1⟩ (i.b.gr 1 i.dp).1.at_}:=by
   simp only[dt.qi,CB]
  refine⟨⟨i.b,i.dp⟩,trivial,oE (jh ⟨rfl,rh,λ_ _=>⟨trivial,?_⟩⟩)⟩;refine⟨⟨(i.b.gr 1 i.dp).1.a,(i.b.gr 1 i.dp).2,i.id,i.dq,i.b.leads 1 i.dp⟩,oT ⟨rfl,tA rh.1 1 i.dp,λ_ _=>⟨wS _ _,(),?_⟩⟩⟩;dsimp only;rw[jy,Fe]
  exact kp
def yJw:Gr.ok Tryz.prog 232:=ix mixed (dz I0 (dz mX (dz yRc (dz yFo (dz z3q fx))))) 0 (λ_=>yXs) (λ_=>[]) [0] Tryz.func232 yZr
def y3y (i:Bd) (h:Gq.du i):yNi i:=by
 have rh:i.b.fit:=h;have xx:=zYa rh;unfold yNi QG fp ez Qf Y' ez YY fp ez zO tD eB yL nG yT UT UJ fp Vi QE kQ tC QL eV dI;have Fe:∀(b:dt) (x:Int),jI (be aa i.id) [D.v (.int .i64 2),D.v (.int .i64 i.dp),D.v (.int .i64 x)] (jv b.at_)=jv (lG i.id ⟨2,i.dp,x⟩ b.at_):=λb x=>z0f i.id ⟨2,i.dp,x⟩ b.at_
 refine⟨wS _ _,(lp i.b.at_ i.id).isSome,_,_,_,Mz _ _,2,rfl,trivial,λ_ _=> ?_⟩;refine Cv.du.mk (λc=>absurd c Z8) λ_=> ?_
 refine zI (λc=> ?_) (λc=>zI (λd=> ?_) (λd=> ?_))
 ·have ha:i.b.iJ 2 i.id i.dp i.dq=(i.b,24):=by rw[dt.iJ,fk (.inl c)]
  rw[ha];exact kp
 ·have ha:i.b.iJ 2 i.id i.dp i.dq=(i.b,24):=by rw[dt.iJ,fk (.inr d)]
  rw[ha];exact kp
 have hq:¬(i.dq<1\/1000000<i.dq):=by omega
 refine Cv.du.mk (λe=> ?_) (λe=> ?_)
 ·have ha:i.b.iJ 2 i.id i.dp i.dq=(i.b,25):=by rw[dt.iJ,dx hq,fk e]
  rw[ha];exact kp
 have hlen:(jv i.b.at_).length=i.b.at_.length:=by simp[jv]
 rw[hlen];refine zI (λf=> ?_) (λf=> ?_)
 ·have ha:i.b.iJ 2 i.id i.dp i.dq=(i.b,13):=by rw[dt.iJ,dx hq,dx (by rw[e];decide),fk (by omega)]
  rw[ha];exact kp
 have ha:i.b.iJ 2 i.id i.dp i.dq=(i.b.qi 2 i.id i.dp i.dq,0):=by rw[dt.iJ,dx hq,dx (by rw[e];decide),dx (by omega)]
 rw[ha];simp only[iz];refine⟨ap,λx=>x=i.b.leads 2 i.dp,Cv.du.mk (λg=>⟨ap,rfl,?_,ic⟩) (λg=> ?_),λx hx=> ?_⟩
 ·have:i.b.ff=[]:=zm (by have:(i.b.ff.length:Int)=0:=(by simpa using g);omega);rw[dt.leads,eN,this]
 ·obtain⟨r,l,hl⟩:∃r l,i.b.ff=r::l:=by
   cases hb:i.b.ff with
   |nil=>rw[hb]at g;exact absurd g Z8
   |cons r l=>exact⟨r,l,rfl⟩
  refine⟨⟨oM,by rw[hl,iY];omega⟩,r.dp,kf (x:=r) (by rw[hl];rfl) (by simp[zC]) rfl,⟨2,i.dp,r.dp⟩,rfl,rfl,rfl,trivial,λ_ _=>⟨_,rfl,?_,ic⟩⟩;rw[dt.leads,eN,hl]
 subst hx;refine Cv.du.mk (λg=> ?_) (λg=> ?_)
 ·have CB:i.b.rp i.id 2 i.dp=i.b.jl i.id 2:=by rw[dt.rp,fk g]
  have Lj:=zXj rh i.id 2;have jy:i.b.qi 2 i.id i.dp i.dq={((i.b.jl i.id 2).gr 2 i.dp).1 with a:=(((i.b.jl i.id 2).gr 2 i.dp).1.a.push ((i.b.jl i.id 2).gr 2 i.dp).2 i.id i.dq (i.b.leads 2 i.dp)).1,at_:=lG i.id ⟨2,i.dp,(((i.b.jl i.id 2).gr 2 i.dp).1.a.push ((i.b.jl i.id 2).gr 2 i.dp).2 i.id i.dq (i.b.leads 2 i.dp)).2.1⟩ ((i.b.jl i.id 2).gr 2 i.dp).1.at_}:=by
   simp only[dt.qi,CB]
  refine⟨⟨i.b,i.id⟩,rfl,trivial,iH ⟨rfl,xx,λ_ _=>⟨⟨i.b.jl i.id 2,i.dp⟩,trivial,oE (jh ⟨rfl,Lj,λ_ _=>⟨trivial,?_⟩⟩)⟩⟩⟩;refine⟨⟨((i.b.jl i.id 2).gr 2 i.dp).1.a,((i.b.jl i.id 2).gr 2 i.dp).2,i.id,i.dq,i.b.leads 2 i.dp⟩,oT ⟨rfl,tA Lj.1 2 i.dp,λ_ _=>⟨wS _ _,(),?_⟩⟩⟩;dsimp only;rw[jy,Fe]
  exact kp
 ·have CB:i.b.rp i.id 2 i.dp=i.b:=by rw[dt.rp,dx (by rw[g];decide)]
  have jy:i.b.qi 2 i.id i.dp i.dq={(i.b.gr 2 i.dp).1 with a:=((i.b.gr 2 i.dp).1.a.push (i.b.gr 2 i.dp).2 i.id i.dq (i.b.leads 2 i.dp)).1,at_:=lG i.id ⟨2,i.dp,((i.b.gr 2 i.dp).1.a.push (i.b.gr 2 i.dp).2 i.id i.dq (i.b.leads 2 i.dp)).2.1⟩ (i.b.gr 2 i.dp).1.at_}:=by
   simp only[dt.qi,CB]
  refine⟨⟨i.b,i.dp⟩,trivial,oE (jh ⟨rfl,rh,λ_ _=>⟨trivial,?_⟩⟩)⟩;refine⟨⟨(i.b.gr 2 i.dp).1.a,(i.b.gr 2 i.dp).2,i.id,i.dq,i.b.leads 2 i.dp⟩,oT ⟨rfl,tA rh.1 2 i.dp,λ_ _=>⟨wS _ _,(),?_⟩⟩⟩;dsimp only;rw[jy,Fe]
  exact kp
def yJj:Gq.ok Tryz.prog 232:=ix mixed (dz I0 (dz mX (dz yOw (dz yHw (dz z3q fx))))) 0 (λ_=>yXs) (λ_=>[]) [0] Tryz.func232 y3y
def yWo:Tl.ok Tryz.prog 232:=λj=>match j with
 |⟨i,aq⟩=>yJw i
 |⟨i,ap⟩=>yJj i
def y5z (i:Hg) (h:JT.du i):yYi i:=by
 obtain⟨hp,wg,hb⟩:i.s.fit:=h;unfold yYi Qa EK fp ez Ql Yp ez sL sS Ql Zn ZL qK Q8 dI;simp only[XP];have DV:(z5 i.s.wh).length=i.s.wh.length:=by simp[z5]
 rw[DV];have out (e:i.inst<0\/i.s.fc.length<=i.inst):ia.iJ i=(i.s,20):=by rw[ia.iJ,fk e]
 refine⟨jG _ _,(jW i.s.wh i.id).isSome,_,Ky _ _,zI (λc=>Cv.du.mk (λd=> ?_) (λd=> ?_)) (λc=> ?_)⟩
 ·have d:¬i.inst<(i.s.fc.length:Int):=by simpa using d
  rw[out (.inr (by omega))];exact kp
 ·have d:i.inst<(i.s.fc.length:Int):=by simpa using d
  have hn:¬(i.inst<0\/(i.s.fc.length:Int)<=i.inst):=by omega
  refine Cv.du.mk (λe=> ?_) (λe=>zI (λf=> ?_) (λf=> ?_))
  ·rw[ia.iJ,dx hn,fk e];exact kp
  ·rw[ia.iJ,dx hn,dx (by rw[e];decide),fk (by omega)];exact kp
  ·refine⟨⟨i.s.p,i.inst,i.dp⟩,iH (oT ⟨rfl,hp,λ_ _=>Cv.du.mk (λg=> ?_) (λg=> ?_)⟩)⟩
   ·have g:i.s.p.dp i.inst i.dp≠0:=by simpa using g
    rw[ia.iJ,dx hn,dx (by rw[e];decide),dx (by omega),fk g];exact kp
   ·have g:i.s.p.dp i.inst i.dp=0:=by simpa using g
    obtain⟨x,hx⟩:=z6 (l:=i.s.fc) (i:=i.inst.toNat) oM;have hba:i.s.AY i.inst=x:=zJ hx;have ha:ia.iJ i=({i.s with fc:=i.s.fc.set i.inst.toNat (x.iJ (zA i.sd) i.id i.dp i.dq).1,wh:=if(x.iJ (zA i.sd) i.id i.dp i.dq).2=0 then dV i.id i.inst i.s.wh else i.s.wh},(x.iJ (zA i.sd) i.id i.dp i.dq).2):=by
     rw[ia.iJ,dx hn,dx (by rw[e];decide),dx (by omega),dx (by simp[g])];simp only[hba]
    refine⟨⟨oM,oM⟩,oM,x,hx,⟨⟨x,i.id,i.dp,i.dq⟩,i.sd⟩,oT ⟨rfl,hb x (mc hx),λ_ _=>⟨(x.iJ (zA i.sd) i.id i.dp i.dq).1,rfl,trivial,oM,Cv.du.mk (λz=>⟨jG _ _,?_⟩) (λz=> ?_)⟩⟩⟩
    ·have z:(x.iJ (zA i.sd) i.id i.dp i.dq).2=0:=by simpa using z
     rw[ha,z];simp only[if_true]
     exact kp
    ·have z:¬(x.iJ (zA i.sd) i.id i.dp i.dq).2=0:=by simpa using z
     rw[ha,dx z]
     exact kp
 ·rw[out (.inl (by omega))];exact kp
def ySk:JT.ok Tryz.prog 220:=ix mixed (dz l9 (dz yWo fx)) 1 (λ_=>[]) (λ_=>[]) [0] Tryz.func220 y5z
def Ds:gx:=gh (List UInt8) (λs=>[sV s]) (λ_=>[]) (λs=>s.length<=1099511627776) (λs=>y4 (vB s)) (λ_=>[])
def yWj (s:List UInt8):List ib:=[{ι:=Nat×Nat,dv:=λx=>[(3,zB x.2),(7,.nm 0 0)],rows:=λx=>[.iter (sb s) x.1]}]
def yWm:List (Nat×ib):=[(20,bj 29)]
def BQ:gx:=gh fj (λp=>[oa p]) (λ_=>[]) fj.small (λp=>zB p.check) (λ_=>[])
def yPr:List ib:=[{ι:=Nat,dv:=λj=>[(3,zB j)],rows:=λ_=>[]},{ι:=Nat,dv:=λj=>[(4,zB j)],rows:=λ_=>[]},{ι:=Nat,dv:=λj=>[(5,zB j)],rows:=λ_=>[]}]
def yPc:List (Nat×ib):=[(12,bj 19),(32,bj 58),(40,bj 90),(68,bj 136),(96,bj 168),(104,bj 176),(112,bj 204)]
def BP:gx:=gh fj (λp=>[oa p]) (λ_=>[]) fj.small (λp=>zB p.count) (λ_=>[])
def Dr:gx:=gh b6 (λi=>[oa i.p,zB i.n]) (λ_=>[]) (λi=>i.p.small) (λi=> .jm [zB (i.p.gf i.n).1,zB (i.p.gf i.n).2.1,y4 (i.p.gf i.n).2.2]) (λ_=>[])
def ySi (i:b6):List ib:=[{ι:=Nat,dv:=λm=>[(8,zB (yJ i.p.dr.length m)),(9,zB m)],rows:=λ_=>[]},
 {ι:=Nat×Nat,dv:=λm=>[(8,zB ((yJ i.p.dr.length m.1+m.2:Nat):Int)),(9,zB m.1),(10,zB ((m.1+1+m.2:Nat):Int))],rows:=λ_=>[]}]
def kN (x:fj):Int:=2+zH x.dr.length 0 3
def zV (x:fj):Int:=1+zH x.tick 0 9
def qP (n:Nat):List Int:=(ak n).map λ(i:Nat)=>10*(i:Int)+3
def kZ (t:Int) (n:Nat):List Int:=(ak n).map λ(i:Nat)=>t*(10+(i:Int))
def iw (x:fj):fj:=⟨[206,169],qP (kN x).toNat,zV x,-20*zV x,100*zV x,zV x*(5+zH x.wide 0 60),1+zH x.gw 0 2,zH x.top 0 9,1+zH x.least 0 4,zH x.part 0 100,kZ (zV x) (kN x).toNat⟩
@[reducible] def fj.raw (x:fj):Prop:=ie x.tick/\ie x.wide/\ie x.gw/\ie x.top/\ie x.least/\ie x.part/\x.dr.length<=9223372036854775807
def CH:gx:=gh fj (λx=>[oa x]) (λ_=>[]) fj.raw (λx=>oa (iw x)) (λ_=>[])
def xAs (x:fj) (w:Int) (j:Nat):List fw:=[.cells [sV [206,169],.own 1,zB (zV x),zB (-20*zV x),zB (100*zV x),zB w,zB (1+zH x.gw 0 2),zB (zH x.top 0 9),zB (1+zH x.least 0 4),zB (zH x.part 0 100),.own 2] 25,.own 3 1 (iE (qP j)),.own 2 1 (iE (kZ (zV x) j))]
def y8l (x:fj):List fw:=[.cells [sV [206,169],.d (.v (.slice none 0 0)),zB (zV x),zB (-20*zV x),zB (100*zV x),zB 0,zB (1+zH x.gw 0 2),zB (zH x.top 0 9),zB (1+zH x.least 0 4),zB (zH x.part 0 100),.d (.v (.slice none 0 0))] 25]
def yZv (x:fj):List ib:=[{ι:=Nat,dv:=λj=>[(5,.nm 0 0),(6,zB j)],rows:=λj=>xAs x (zV x*(5+zH x.wide 0 60)) j}]
def y3h (x:fj):List (Nat×ib):=[(12,{ι:=Unit,dv:=λ_=>[(5,.nm 0 0)],qo:=λ_=>[],nf:=λ_=>[],rows:=λ_=>y8l x})]
def rA (a:Bool->Prop) (b:Bool) (c:List UInt8) (d:Nat×Nat):Prop:=a b/\dm (ax (sb c) (d.fst+(ba (sb c) d.fst).snd))
def qO (a:List UInt8) (b:Nat×Nat):=(↑(ba (sb a) b.fst).fst:Int)
def zAz (a:List UInt8) (b:Nat×Nat) (c:Bool->Prop):Prop:=∃(d:Bool),d=!(qO a b) !=930/\rA c d a b
def aN (a:Bool->Prop) (b:List UInt8) (c:Nat×Nat):Prop:=∃(d:Bool),d=!false/\rA a d b c
def yBt (s:List UInt8):Prop:=
 ∃(a:Nat×Nat),(↑a.snd:Int)=0/\sb s=sb s/\a.fst=0/\∃(b:Nat×Nat->Prop),∃(c:Nat×Nat->Nat),b a/\∀(d:Nat×Nat),b d->du (d.fst.blt (sb s).size) (∃(e:Bool),∃(f:Bool->Prop),du (decide ((qO s d)>=65)) (du (decide ((qO s d)<=90)) (∃(g:Bool),g=!true/\rA f g s d) (du (decide ((qO s d)>=913)) (du (decide ((qO s d)<=937)) (zAz s d f) (aN f s d)) (aN f s d))) (du (decide ((qO s d)>=913)) (du (decide ((qO s d)<=937)) (zAz s d f) (aN f s d)) (aN f s d))/\∀(g:Bool),f g->du g (ez (vB s=aq/\True)) (bT d s b c)) (du (decide ((↑d.snd:Int)>=1)) (ez (vB s=decide ((↑d.snd:Int)<=4)/\True)) (ez (vB s=aq/\True)))
def m5 (a:fj):Prop:=au [V.d (gJ a),V.own 0,V.d (dI a.tick),V.d (dI a.low),V.d (dI a.high),V.d (dI a.wide),V.d (dI a.gw),V.d (dI a.top),V.d (dI a.least),V.d (dI a.part),V.own 1] 25=au [V.d (gJ a),V.own 0,V.d (dI a.tick),V.d (dI a.low),V.d (dI a.high),V.d (dI a.wide),V.d (dI a.gw),V.d (dI a.top),V.d (dI a.least),V.d (dI a.part),V.own 1] 25/\mI a
def eT (a:Nat) (b:Nat->Prop) (c:Nat->Nat) (d:fj):Prop:=∃(e:Nat),Q0 e a b c (m5 d)
def zAi (a:Bool->Prop) (b:fj) (c:Nat) (d:Nat->Prop) (e:Nat->Nat):Prop:=∀(f:Bool),a f->du f (ez (b.check=1/\True)) (eT c d e b)
def qZ (a:Bool->Prop) (b:Bool) (c:fj):Prop:=a b/\m5 c
def yQ (a:Bool->Prop) (b:fj):Prop:=∃(c:Bool),c=ap/\qZ a c b
def z5n (p:fj):Prop:=
 ∃(a:List UInt8),sb a=sb p.code/\a.length<=1099511627776/\fp (du (!vB a) (ez (p.check=12/\True)) (∃(c:Bool),∃(d:Bool->Prop),du (decide ((xN p)<2)) (yQ d p) (∃(e:Bool),e=decide ((xN p)>6)/\qZ d e p)/\∀(e:Bool),d e->du e (ez (p.check=1/\True)) (∃(f:Nat),(↑f:Int)=0/\∃(g:Nat->Prop),∃(h:Nat->Nat),g f/\∀(j:Nat),g j->du (decide ((↑j:Int)<(xN p))) (∃(k:Bool),∃(l:Bool->Prop),((0<=(↑j:Int)/\(↑j:Int)<(xN p))/\∃(m:Int),zF (iE p.dr) (↑j:Int).toNat 0 1=ay [dI m]/\du (decide (m<0)) (yQ l p) ((0<=(↑j:Int)/\(↑j:Int)<(xN p))/\∃(n:Int),zF (iE p.dr) (↑j:Int).toNat 0 1=ay [dI n]/\du (decide (n>1199)) (yQ l p) (du (decide ((↑j:Int)>0)) ((0<=aa.wrap ((↑j:Int)-1)/\aa.wrap ((↑j:Int)-1)<(xN p))/\∃(q:Int),zF (iE p.dr) (aa.wrap ((↑j:Int)-1)).toNat 0 1=ay [dI q]/\(0<=(↑j:Int)/\(↑j:Int)<(xN p))/\∃(r:Int),zF (iE p.dr) (↑j:Int).toNat 0 1=ay [dI r]/\∃(s:Bool),s=decide (q>=r)/\qZ l s p) (∃(q:Bool),q=aq/\qZ l q p))))/\zAi l p j g h) (∃(k:Bool),∃(l:Bool->Prop),du (decide (p.tick<1)) (yQ l p) (du (decide (p.tick>1000)) (yQ l p) (HZ p (du (p.low.tmod p.tick !=0) (yQ l p) (HZ p (du (p.high.tmod p.tick !=0) (yQ l p) (HZ p (∃(m:Bool),m=(p.wide.tmod p.tick !=0)/\qZ l m p)))))))/\∀(m:Bool),l m->du m (ez (p.check=22/\True)) (∃(n:Nat),(↑n:Int)=0/\∃(q:Nat->Prop),∃(r:Nat->Nat),q n/\∀(s:Nat),q s->du (decide ((↑s:Int)<(vX p))) ((0<=(↑s:Int)/\(↑s:Int)<(vX p))/\∃(t:Int),zF (iE p.settle) (↑s:Int).toNat 0 1=ay [dI t]/\HZ p (du (t.tmod p.tick !=0) (ez (p.check=22/\True)) (eT s q r p))) (∃(t:Bool),∃(u:Bool->Prop),du (decide (p.low<(-1000000))) (yQ u p) (du (decide (p.low>=p.high)) (yQ u p) (du (decide (p.high>1000000)) (yQ u p) (du (decide (p.wide<0)) (yQ u p) (∃(v:Bool),v=decide (p.wide>aa.wrap (p.high-p.low))/\qZ u v p))))/\∀(v:Bool),u v->du v (ez (p.check=23/\True)) (du ((vX p) !=(xN p)) (ez (p.check=1/\True)) (∃(w:Nat),(↑w:Int)=0/\∃(x:Nat->Prop),∃(y:Nat->Nat),x w/\∀(z:Nat),x z->du (decide ((↑z:Int)<(vX p))) (∃(ma:Bool),∃(sc:Bool->Prop),((0<=(↑z:Int)/\(↑z:Int)<(vX p))/\∃(lh:Int),zF (iE p.settle) (↑z:Int).toNat 0 1=ay [dI lh]/\du (decide (lh<p.low)) (yQ sc p) ((0<=(↑z:Int)/\(↑z:Int)<(vX p))/\∃(wk:Int),zF (iE p.settle) (↑z:Int).toNat 0 1=ay [dI wk]/\∃(iX:Bool),iX=decide (wk>p.high)/\qZ sc iX p))/\zAi sc p z x y) (∃(ma:Bool),∃(sc:Bool->Prop),du (decide (p.gw<1)) (yQ sc p) (∃(lh:Bool),lh=decide (p.gw>3)/\qZ sc lh p)/\∀(lh:Bool),sc lh->du lh (ez (p.check=31/\True)) (∃(wk:Bool),∃(iX:Bool->Prop),du (decide (p.top<0)) (yQ iX p) (du (decide (p.top>1000000)) (yQ iX p) (du (decide (p.least<1)) (yQ iX p) (du (decide (p.least>1000)) (yQ iX p) (du (decide (p.part<0)) (yQ iX p) (∃(xa:Bool),xa=decide (p.part>100)/\qZ iX xa p)))))/\∀(xa:Bool),iX xa->du xa (ez (p.check=24/\True)) (ez (p.check=0/\True))))))))))))
def z6g (p:fj):Prop:=
 ∃(a:fj),lH a p
def dC (a:b6) (b:Nat×Nat):=(↑(yJ a.p.dr.length b.fst+b.snd):Int)
def yAw (i:b6):Prop:=
 ∃(a:fj),Qa a i.p ((zU a)/\fp (du (a.check !=0) (dL i) (du (decide (i.n<0)) (dL i) (du (decide (i.n<(uC i))) (U5 i) (∃(c:Nat),(gM i c)=(uC i)/\(↑c:Int)=0/\∃(d:Nat->Prop),∃(e:Nat->Nat),d c/\∀(f:Nat),d f->du (decide ((↑f:Int)<(uC i))) (∃(g:Nat×Nat),(dC i g)=(gM i f)/\(↑g.fst:Int)=(↑f:Int)/\(↑(g.fst+1+g.snd):Int)=aa.wrap ((↑f:Int)+1)/\∃(h:Nat×Nat->Prop),∃(j:Nat×Nat->Nat),h g/\∀(k:Nat×Nat),h k->du (decide ((↑(k.fst+1+k.snd):Int)<(uC i))) (du ((dC i k)==i.n) (ez ((i.p.gf i.n).fst=(↑k.fst:Int)/\(i.p.gf i.n).snd.fst=(↑(k.fst+1+k.snd):Int)/\(i.p.gf i.n).snd.snd=ap/\True)) (∃(l:Nat×Nat),(dC i l)=aa.wrap ((dC i k)+1)/\(↑l.fst:Int)=(↑k.fst:Int)/\(↑(l.fst+1+l.snd):Int)=aa.wrap ((↑(k.fst+1+k.snd):Int)+1)/\h l/\j l<j k/\pR i)) (∃(l:Nat),(gM i l)=(dC i k)/\(↑l:Int)=aa.wrap ((↑k.fst:Int)+1)/\UQ d l e f i)) (dL i))))))
def y6 (a:si):Prop:=((-9223372036854775808)<=a.n/\a.n<=9223372036854775807)/\(-1000000)<=a.lo/\a.lo<=a.hi/\a.hi<=1000000
def qG (a:si):=(1+zH a.n a.lo a.hi)
def hY:=(D.v (Value.slice none 0 0))
def jL:=(D.v (bc (ByteArray.mk #[])))
def YG (a:fj):Prop:=au (Sx.V.agg [V.d jL,V.d hY,V.d (dI 0),V.d (dI 0),V.d (dI 0),V.d (dI 0),V.d (dI 0),V.d (dI 0),V.d (dI 0),V.d (dI 0),V.d hY]).cl 25=au (Sx.V.agg [V.d jL,V.d hY,V.d (dI 0),V.d (dI 0),V.d (dI 0),V.d (dI 0),V.d (dI 0),V.d (dI 0),V.d (dI 0),V.d (dI 0),V.d hY]).cl 25/\m5 a
def ZT (a:fj) (b:si) (c:si) (d:si) (e:si) (f:Unit->Prop):Prop:=∃(g:si),g.n=a.part/\g.lo=0/\g.hi=100/\(y6 g)/\fp (∃(j:Unit),sb [(206:UInt8),(169:UInt8)]=ByteArray.mk #[(206:UInt8),(169:UInt8)]/\True/\zV a=aa.wrap (qG b)/\(-20)*zV a=aa.wrap ((-20)*aa.wrap (qG b))/\100*zV a=aa.wrap (100*aa.wrap (qG b))/\dm ((0:Int))/\1+zH a.gw 0 2=aa.wrap (qG c)/\zH a.top 0 9=zH d.n d.lo d.hi/\1+zH a.least 0 4=aa.wrap (qG e)/\zH a.part 0 100=zH g.n g.lo g.hi/\True/\f j/\YG a)
def Zv (a:fj) (b:si) (c:si) (d:si) (e:si) (f:Unit->Prop):Prop:=a.part=a.part/\ZT a b c d e f
def ZP (a:fj) (b:si) (c:si) (d:si) (e:Unit->Prop):Prop:=a.part=a.part/\dm a.least/\∃(f:si),f.n=a.least/\f.lo=0/\f.hi=4/\(y6 f)/\fp (Zv a b c d f e)
def ZN (a:fj) (b:si) (c:si) (d:Unit->Prop):Prop:=a.part=a.part/\dm a.least/\dm a.top/\∃(e:si),e.n=a.top/\e.lo=0/\e.hi=9/\(y6 e)/\fp (ZP a b c e d)
def wN (a:fj):=(5+zH a.wide 0 60)
def gE (a:fj):=(kZ (zV a) (kN a).toNat)
@[reducible] def Qy (a:fj)(R:Prop):Prop:=zV a=zV a/\(-20)*zV a=(-20)*zV a/\100*zV a=100*zV a/\zV a*(wN a)=zV a*(wN a)/\1+zH a.gw 0 (2:Int)=(1:Int)+zH a.gw 0 2/\zH a.top 0 9=zH a.top 0 (9:Int)/\(1:Int)+zH a.least 0 (4:Int)=(1:Int)+zH a.least 0 4/\zH a.part 0 100=zH a.part 0 100/\R
def yOq (x:fj):Prop:=
 ∃(a:si),a.n=(xN x)/\a.lo=0/\a.hi=3/\(y6 a)/\fp (∃(c:si),c.n=x.tick/\c.lo=0/\c.hi=9/\(y6 c)/\fp (ez (∃(f:Unit->Prop),((∃(g:si),g.n=x.gw/\g.lo=0/\g.hi=2/\(y6 g)/\fp (dm x.part/\dm x.least/\dm x.top/\(∃(j:si),j.n=x.top/\j.lo=0/\j.hi=9/\(y6 j)/\fp (dm x.part/\dm x.least/\(∃(l:si),l.n=x.least/\l.lo=0/\l.hi=4/\(y6 l)/\fp (dm x.part/\(ZT x c g j l f)/\Zv x c g j l f))/\ZP x c g j f))/\ZN x c g f))/\dm x.part/\dm x.least/\dm x.top/\dm x.gw/\∃(g:si),g.n=x.gw/\g.lo=0/\g.hi=2/\(y6 g)/\fp (ZN x c g f))/\∀(g:Unit),f g->∃(h:si),h.n=x.wide/\h.lo=0/\h.hi=60/\(y6 h)/\fp (∃(k:Nat),(↑k:Int)=0/\dm (sb [(206:UInt8),(169:UInt8)])/\zV x=zV x/\dm ((-20)*zV x)/\dm (100*zV x)/\zV x*(wN x)=aa.wrap (aa.wrap (qG c)*aa.wrap (5+zH h.n h.lo h.hi))/\1+zH x.gw 0 (2:Int)=(1:Int)+zH x.gw 0 2/\zH x.top 0 9=zH x.top 0 (9:Int)/\(1:Int)+zH x.least 0 (4:Int)=(1:Int)+zH x.least 0 4/\dm (zH x.part 0 100)/\iE (qP k)=[]/\iE (kZ (zV x) k)=[]/\∃(l:Nat->Prop),∃(m:Nat->Nat),l k/\∀(n:Nat),l n->du (decide ((↑n:Int)<aa.wrap (2+zH a.n a.lo a.hi))) (((iE (qP n)).length+1)*(8:Nat)<=(140737488355328:Nat)/\((iE (kZ (zV x) n)).length+1)*(8:Nat)<=(140737488355328:Nat)/\∃(p:Nat),(↑p:Int)=aa.wrap ((↑n:Int)+1)/\dm (sb [(206:UInt8),(169:UInt8)])/\Qy x (iE (qP p)=iE (qP n)++[[dI (aa.wrap (aa.wrap (10*(↑n:Int))+3))]]/\iE (kZ (zV x) p)=iE (kZ (zV x) n)++[[dI (aa.wrap (aa.wrap (qG c)*aa.wrap (10+(↑n:Int))))]]/\l p/\m p<m n/\YG x)) (ez (dm (sb [(206:UInt8),(169:UInt8)])/\iE (qP (kN x).toNat)=iE (qP n)/\Qy x (iE (gE x)=iE (kZ (zV x) n)/\True)))))))
def yVh (s:List UInt8) (h:Ds.du s):yBt s:=by
 have h:s.length<=1099511627776:=h;have hr:=Y3 s;unfold yBt ez aN zAz qO rA bT;refine⟨(0,0),rfl,rfl,rfl,λx=>x.1<=s.length/\x.2+(fE s x.1).length=(jN s).length/\(jN s).all fN=((fE s x.1).all λy=>fN y.2),λx=>s.length-x.1,⟨oM,by rw[jN,iz];simp,by rw[jN,List.all_map];rfl⟩,?_⟩;rintro⟨p,n⟩ ⟨h1,h2,h3⟩;dsimp only at h1 h2 h3 ⊢;refine Cv.du.mk (λhp=> ?_) (λhp=> ?_)
 ·have hp:p<s.length:=by simpa[zg]using hp
  have hw:=aI s hp;rw[wC hp,iY]at h2;rw[wC hp,List.all_cons]at h3;generalize hc:(ba (sb s) p).1=c at h2 h3 ⊢;generalize hww:(ba (sb s) p).2=w at h2 h3 hw ⊢;dsimp only at h3;have g0:∀b:Bool,(b=ap->fN c=ap)->(b=aq->fN c=aq)->b=fN c:=λb e1 e2=>by cases b<;>simp_all
  refine⟨ap,λb=>b= !fN c,?_,λb hb=> ?_⟩
  ·refine zI (λc1=>zI (λc2=>⟨_,rfl,?_,ic⟩) (λc2=>zI (λc3=>zI (λc4=>⟨_,rfl,?_,ic⟩) (λc4=>⟨_,rfl,?_,ic⟩)) (λc3=>⟨_,rfl,?_,ic⟩))) (λc1=>zI (λc3=>zI (λc4=>⟨_,rfl,?_,ic⟩) (λc4=>⟨_,rfl,?_,ic⟩)) (λc3=>⟨_,rfl,?_,ic⟩))
   all_goals congr 1
   all_goals refine g0 _ (λe=> ?_) (λe=> ?_)
   all_goals first|(simp[fN]at*;done)|(simp[fN]at*;omega)
  ·subst hb;refine Cv.du.mk (λe=>⟨(),?_,trivial⟩) (λe=>⟨(p+w,n+1),?_,rfl,rfl,⟨hw.2,by(first|omega|(dsimp only;omega)),?_⟩,by(first|omega|(dsimp only;omega)),trivial⟩)
   ·have e:fN c=aq:=by simpa using e
    rw[vB,h3,e];rfl
   ·rw[iD (by omega)];rfl
   ·have e:fN c=ap:=by simpa using e
    rw[h3,e];rfl
 ·have hp:s.length<=p:=by have:=VV hp;simpa using this
  rw[hZ hp]at h2 h3;have h3:(jN s).all fN=ap:=h3;have hn:n=(jN s).length:=by simpa using h2
  have jf:(s=[])↔(jN s).length=0:=by
   constructor
   ·intro e;subst e;rfl
   ·intro e;cases s with
    |nil=>rfl
    |cons b l=>
     rw[jN,iz,wC (by simp)]at e;simp at e
  refine zI (λc=>⟨(),?_,trivial⟩) (λc=>⟨(),?_,trivial⟩)
  ·have:¬s=[]:=by rw[jf];omega
   rw[vB,h3,kx this,hn];simp only[qj];congr 1;simp only[eq_iff_iff];omega
  ·have:s=[]:=by rw[jf];omega
   rw[vB,this];rfl
def yGc:Ds.ok Tryz.prog 202:=ix mixed fx 0 (λ_=>yWm) (λs=>yWj s) [] Tryz.func202 yVh
def tO:∀(l:List Int) (a:Int),l.foldl min a<=a/\∀x∈l,l.foldl min a<=x
 |[],a=>⟨yl _,by simp⟩
 |b::l,a=>by
  obtain⟨h1,h2⟩:=tO l (min a b);rw[DN];refine⟨oM,λx hx=> ?_⟩;rcases ku.1 hx with rfl|hx
  ·omega
  ·exact h2 x hx
def lL:∀(l:List Int) (a:Int),a<=l.foldl max a/\∀x∈l,x<=l.foldl max a
 |[],a=>⟨yl _,by simp⟩
 |b::l,a=>by
  obtain⟨h1,h2⟩:=lL l (max a b);rw[DN];refine⟨oM,λx hx=> ?_⟩;rcases ku.1 hx with rfl|hx
  ·omega
  ·exact h2 x hx
def zDx:∀(l:List Int) (a:Int),l.foldl min a=a\/l.foldl min a∈l
 |[],a=> .inl rfl
 |b::l,a=>by
  rw[DN];rcases zDx l (min a b)with h|h
  ·rcases Int.le_total a b with e|e
   ·left;rw[h];omega
   ·right;rw[h,show min a b=b by omega];exact jg
  ·exact .inr (jx _ h)
def zEb:∀(l:List Int) (a:Int),l.foldl max a=a\/l.foldl max a∈l
 |[],a=> .inl rfl
 |b::l,a=>by
  rw[DN];rcases zEb l (max a b)with h|h
  ·rcases Int.le_total a b with e|e
   ·right;rw[h,show max a b=b by omega];exact jg
   ·left;rw[h];omega
  ·exact .inr (jx _ h)
def yBo {l:List Int} {x:Int} (h:x∈l):tE l<=x:=by
 cases l with
 |nil=>cases h
 |cons a l=>
  rw[tE,aj,ag];rcases ku.1 h with rfl|h
  ·exact(tO l x).1
  ·exact(tO l a).2 x h
def yFc {l:List Int} {x:Int} (h:x∈l):x<=l5 l:=by
 cases l with
 |nil=>cases h
 |cons a l=>
  rw[l5,aj,ag];rcases ku.1 h with rfl|h
  ·exact(lL l x).1
  ·exact(lL l a).2 x h
def z3n {l:List Int} (h:l≠[]):tE l∈l:=by
 cases l with
 |nil=>exact absurd rfl h
 |cons a l=>
  rw[tE,aj,ag];rcases zDx l a with h|h
  ·rw[h];exact jg
  ·exact jx _ h
def z4i {l:List Int} (h:l≠[]):l5 l∈l:=by
 cases l with
 |nil=>exact absurd rfl h
 |cons a l=>
  rw[l5,aj,ag];rcases zEb l a with h|h
  ·rw[h];exact jg
  ·exact jx _ h
def yMo (p:fj) (h:BQ.du p):z5n p:=by
 obtain⟨h1,h2,h3⟩:p.small:=h;unfold z5n HZ fp ez zAi ez yQ qZ eT Q0 m5 gJ mI xN vX dI;simp only[yW];refine⟨p.code,rfl,h1,λ_ _=>Cv.du.mk (λc1=>⟨(),by rw[fj.check,fk c1],trivial⟩) λc1=> ?_⟩;have c1:vB p.code=ap:=by simpa using c1
 have e1:p.check=if !xO p.dr then 1 else if !qX p then 22 else if kB p then 23 else if xU p then 1 else if jE p then 31 else if qH p then 24 else 0:=by
  rw[fj.check,dx (by simp[c1])]
 refine⟨ap,λb=>b=(decide (p.dr.length<2)||decide (p.dr.length>6)),zI (λc=>⟨ap,rfl,?_,ic⟩) (λc=>⟨_,rfl,?_,ic⟩),λb hb=> ?_⟩
 ·rw[kx (show p.dr.length<2 by omega)];rfl
 ·rw[jq (show ¬p.dr.length<2 by omega),CT];congr 1;simp only[eq_iff_iff];omega
 subst hb;refine Cv.du.mk (λc2=> ?_) (λc2=> ?_)
 ·have:xO p.dr=aq:=by
   simp only[E9,sm]at c2;rw[xO];rcases c2 with c2|c2
   ·rw[jq (show ¬2<=p.dr.length by omega)];simp
   ·rw[jq (show ¬p.dr.length<=6 by omega)];simp
  exact⟨(),by rw[e1,fk (by rw[this];rfl)],trivial⟩
 have c2:2<=p.dr.length/\p.dr.length<=6:=by
  simp only[K1,decide_eq_false_iff_not]at c2;omega
 have em:xO p.dr=(ak p.dr.length).all (kI p.dr):=by
  rw[xO,kx c2.1,kx c2.2];simp
 refine⟨0,rfl,λj=>j<=p.dr.length/\∀k<j,kI p.dr k=ap,λj=>p.dr.length-j,⟨oM,λk hk=>by omega⟩,?_⟩;rintro j ⟨g1,g2⟩;refine zI (λhj=> ?_) (λhj=> ?_)
 ·obtain⟨m,hm⟩:=z6 (l:=p.dr) (i:=j) oM;have WL:p.dr.getD j 0=m:=zJ hm;refine⟨ap,λb=>b= !kI p.dr j,⟨⟨oM,oM⟩,m,rz hm,zI (λc=>⟨ap,rfl,?_,ic⟩) (λc=>⟨⟨oM,oM⟩,m,rz hm,zI (λd=>⟨ap,rfl,?_,ic⟩) (λd=>zI (λe=> ?_) (λe=>⟨aq,rfl,?_,ic⟩))⟩)⟩,λb hb=> ?_⟩
  ·rw[kI,WL,jq (show ¬0<=m by omega)];rfl
  ·rw[kI,WL,jq (show ¬m<=1199 by omega)];simp
  ·obtain⟨m',AE⟩:=z6 (l:=p.dr) (i:=j-1) oM;rw[iD (by omega),show((j:Int)-1).toNat=j-1 by omega];refine⟨⟨oM,oM⟩,m',rz AE,⟨oM,oM⟩,m,rz hm,_,rfl,?_,ic⟩;rw[kI,WL,zJ AE,kx (show 0<=m by omega),kx (show m<=1199 by omega),jq (show ¬j=0 by omega)];simp only[qj,CT];by_cases iq:m'<m
   ·rw[kx iq,jq (by omega)];rfl
   ·rw[jq iq,kx (by omega)];rfl
  ·rw[kI,WL,kx (show 0<=m by omega),kx (show m<=1199 by omega),kx (show j=0 by omega)];rfl
  ·subst hb;refine Cv.du.mk (λc=>⟨(),?_,trivial⟩) (λc=>⟨j+1,by rw[iD (by omega)];rfl,⟨oM,λk hk=> ?_⟩,by(first|omega|(dsimp only;omega)),ic⟩)
   ·have c:kI p.dr j=aq:=by simpa using c
    rw[e1,fk (by rw[em,zXd (k:=j) (by omega) c];rfl)]
   ·have c:kI p.dr j=ap:=by simpa using c
    rcases vx k j with h|h
    ·exact g2 k h
    ·obtain rfl:k=j:=by omega
     exact c
 have em:xO p.dr=ap:=by rw[em];exact z6f λk hk=>g2 k oM
 have e2:p.check=if !qX p then 22 else if kB p then 23 else if xU p then 1 else if jE p then 31 else if qH p then 24 else 0:=by
  rw[e1,dx (by simp[em])]
 have et:qX p=((decide (1<=p.tick) && decide (p.tick<=1000) && !kC p.tick p.low && !kC p.tick p.high && !kC p.tick p.wide) && !p.settle.any (kC p.tick)):=rfl;refine⟨ap,λb=>b= !(decide (1<=p.tick) && decide (p.tick<=1000) && !kC p.tick p.low && !kC p.tick p.high && !kC p.tick p.wide),zI (λd1=>⟨ap,rfl,?_,ic⟩) (λd1=>zI (λd2=>⟨ap,rfl,?_,ic⟩) (λd2=>⟨trivial,oM,Cv.du.mk (λd3=>⟨ap,rfl,?_,ic⟩) (λd3=>⟨trivial,oM,Cv.du.mk (λd4=>⟨ap,rfl,?_,ic⟩) (λd4=>⟨trivial,oM,_,rfl,?_,ic⟩)⟩)⟩)),λb hb=> ?_⟩
 ·rw[jq (show ¬1<=p.tick by omega)];rfl
 ·rw[jq (show ¬p.tick<=1000 by omega)];simp
 ·have d3:kC p.tick p.low=ap:=d3;rw[d3];simp
 ·have d4:kC p.tick p.high=ap:=d4;rw[d4];simp
 ·have d3:kC p.tick p.low=aq:=d3;have d4:kC p.tick p.high=aq:=d4;rw[d3,d4,kx (show 1<=p.tick by omega),kx (show p.tick<=1000 by omega)];show kC p.tick p.wide=_;simp
 subst hb;refine Cv.du.mk (λc3=> ?_) (λc3=> ?_)
 ·have c3:(decide (1<=p.tick) && decide (p.tick<=1000) && !kC p.tick p.low && !kC p.tick p.high && !kC p.tick p.wide)=aq:=by
   rw[HA]at c3;exact c3
  exact⟨(),by rw[e2,fk (by rw[et,c3];rfl)],trivial⟩
 have c3:(decide (1<=p.tick) && decide (p.tick<=1000) && !kC p.tick p.low && !kC p.tick p.high && !kC p.tick p.wide)=ap:=by simpa using c3
 have WB:1<=p.tick:=by
  simp only[ld,sm]at c3;exact c3.1.1.1.1
 rw[c3,qj]at et;refine⟨0,rfl,λj=>j<=p.settle.length/\∀k<j,∀x,p.settle[k]? =ay x->kC p.tick x=aq,λj=>p.settle.length-j,⟨oM,λk hk=>by omega⟩,?_⟩;rintro j ⟨g1,g2⟩;refine zI (λhj=> ?_) (λhj=> ?_)
 ·obtain⟨m,hm⟩:=z6 (l:=p.settle) (i:=j) oM;refine⟨⟨oM,oM⟩,m,rz hm,trivial,oM,Cv.du.mk (λc=>⟨(),?_,trivial⟩) (λc=>⟨j+1,by rw[iD (by omega)];rfl,⟨oM,λk hk x hx=> ?_⟩,by(first|omega|(dsimp only;omega)),ic⟩)⟩
  ·have c:kC p.tick m=ap:=c;have:p.settle.any (kC p.tick)=ap:=by rw[Nj];exact⟨m,mc hm,c⟩
   rw[e2,fk (by rw[et,this];rfl)]
  ·rcases vx k j with h|h
   ·exact g2 k h x hx
   ·obtain rfl:k=j:=by omega
    rw[hm]at hx;cases hx;exact c
 have et:qX p=ap:=by
  rw[et];have:p.settle.any (kC p.tick)=aq:=by
   rw[KW];intro x hx;obtain⟨k,hk⟩:=Np hx;rw[g2 k (by have:=(ju.1 hk).1;omega) x hk];simp
  rw[this];rfl
 have e3:p.check=if kB p then 23 else if xU p then 1 else if jE p then 31 else if qH p then 24 else 0:=by
  rw[e2,dx (by simp[et])]
 refine⟨ap,λb=>b=kB p,zI (λd1=>⟨ap,rfl,?_,ic⟩) (λd1=>zI (λd2=>⟨ap,rfl,?_,ic⟩) (λd2=>zI (λd3=>⟨ap,rfl,?_,ic⟩) (λd3=>zI (λd4=>⟨ap,rfl,?_,ic⟩) (λd4=>⟨_,rfl,?_,ic⟩)))),λb hb=> ?_⟩
 ·simp[kB,d1]
 ·simp[kB,d2]
 ·simp[kB,d3]
 ·simp[kB,d4]
 ·rw[iD (by omega)];simp[kB,d1,d2,d3,d4]
 subst hb;refine Cv.du.mk (λc4=>⟨(),by rw[e3,fk c4],trivial⟩) (λc4=> ?_);have e4:p.check=if xU p then 1 else if jE p then 31 else if qH p then 24 else 0:=by
  rw[e3,dx (by simp[c4])]
 refine Cv.du.mk (λd6=>⟨(),?_,trivial⟩) (λd6=> ?_)
 ·have d6:¬(p.settle.length:Int)=p.dr.length:=by simpa using d6
  rw[e4,fk (by simp[xU];omega)]
 have d6:p.settle.length=p.dr.length:=by
  have:(p.settle.length:Int)=p.dr.length:=by simpa using d6
  omega
 have jf:p.settle≠[]:=by intro e;rw[e]at d6;simp at d6;omega
 refine⟨0,rfl,λj=>j<=p.settle.length/\∀k<j,∀x,p.settle[k]? =ay x->p.low<=x/\x<=p.high,λj=>p.settle.length-j,⟨oM,λk hk=>by omega⟩,?_⟩;rintro j ⟨g3,g4⟩;refine zI (λhj=> ?_) (λhj=> ?_)
 ·obtain⟨m,hm⟩:=z6 (l:=p.settle) (i:=j) oM;have P2:=mc hm;refine⟨ap,λb=>b=(decide (m<p.low)||decide (m>p.high)),⟨⟨oM,oM⟩,m,rz hm,zI (λc=>⟨ap,rfl,?_,ic⟩) (λc=>⟨⟨oM,oM⟩,m,rz hm,_,rfl,?_,ic⟩)⟩,λb hb=> ?_⟩
  ·rw[kx c];rfl
  ·rw[jq c,CT]
  ·subst hb;refine Cv.du.mk (λc=>⟨(),?_,trivial⟩) (λc=>⟨j+1,by rw[iD (by omega)];rfl,⟨oM,λk hk x hx=> ?_⟩,by(first|omega|(dsimp only;omega)),ic⟩)
   ·have l1:=yBo P2;have l2:=yFc P2;rw[e4,fk (by
     simp only[E9,sm]at c;simp only[xU,E9,sm];rcases c with c|c
     ·left;right;omega
     ·right;omega)]
   ·rcases vx k j with h|h
    ·exact g4 k h x hx
    ·obtain rfl:k=j:=by omega
     rw[hm]at hx;cases hx;simp only[K1,decide_eq_false_iff_not]at c;omega
 have ra:xU p=aq:=by
  have all:∀x∈p.settle,p.low<=x/\x<=p.high:=λx hx=>by
   obtain⟨k,hk⟩:=Np hx;exact g4 k (by have:=(ju.1 hk).1;omega) x hk
  have a1:=all _ (z3n jf);have a2:=all _ (z4i jf);simp only[xU,K1,decide_eq_false_iff_not];omega
 have e5:p.check=if jE p then 31 else if qH p then 24 else 0:=by
  rw[e4,dx (by simp[ra])]
 refine⟨ap,λb=>b=jE p,zI (λd1=>⟨ap,rfl,?_,ic⟩) (λd1=>⟨_,rfl,?_,ic⟩),λb hb=> ?_⟩
 ·simp[jE,d1]
 ·simp[jE,d1]
 subst hb;refine Cv.du.mk (λc6=>⟨(),by rw[e5,fk c6],trivial⟩) (λc6=> ?_);have e6:p.check=if qH p then 24 else 0:=by rw[e5,dx (by simp[c6])]
 refine⟨ap,λb=>b=qH p,zI (λd1=>⟨ap,rfl,?_,ic⟩) (λd1=>zI (λd2=>⟨ap,rfl,?_,ic⟩) (λd2=>zI (λd3=>⟨ap,rfl,?_,ic⟩) (λd3=>zI (λd4=>⟨ap,rfl,?_,ic⟩) (λd4=>zI (λd5=>⟨ap,rfl,?_,ic⟩) (λd5=>⟨_,rfl,?_,ic⟩))))),λb hb=> ?_⟩
 ·simp[qH,d1]
 ·simp[qH,d2]
 ·simp[qH,d3]
 ·simp[qH,d4]
 ·simp[qH,d5]
 ·simp[qH,d1,d2,d3,d4,d5]
 subst hb;exact Cv.du.mk (λc7=>⟨(),by rw[e6,fk c7],trivial⟩) (λc7=>⟨(),by rw[e6,dx (by simp[c7])],trivial⟩)
def zTg:BQ.ok Tryz.prog 168:=ix mixed (dz yGc fx) 0 (λ_=>yPc) (λ_=>yPr) [] Tryz.func168 yMo
def dA {p:fj} (h:p.check=0):p.count=p.dr.length+p.dr.length*(p.dr.length-1) / 2:=by rw[fj.count,fk h]
def zUj {p:fj} (h:p.check≠0):p.count=0:=by rw[fj.count,dx h]
def yOx (p:fj) (h:BP.du p):z6g p:=by
 have hs:p.small:=h;unfold z6g lH Qa fp ez xN zU Q8;simp only[yW];refine⟨p,rn (jh ⟨rfl,hs,λ_ _=>Cv.du.mk (λc=>⟨(),?_,trivial⟩) (λc=>⟨trivial,Z8,(),?_,trivial⟩)⟩)⟩
 ·rw[zUj (by simpa using c)];rfl
 ·have c:p.check=0:=by simpa using c
  have m6:=(qF c).m6;have m2:=(qF c).m2;rw[dA c];generalize p.dr.length=n at*;have:n=2\/n=3\/n=4\/n=5\/n=6:=by omega
  rcases this with rfl|rfl|rfl|rfl|rfl<;>decide
def z7f:BP.ok Tryz.prog 117:=ix mixed (dz zTg fx) 0 (λ_=>[]) (λ_=>[]) [] Tryz.func117 yOx
def z5r:∀n≤6,∀a<n,∀b<n-1-a,kU n (yJ n a+b) n 0=((a:Int),((a+1+b:Nat):Int),ap)/\yJ n a+b<n+n*(n-1) / 2/\n<=yJ n a+b:=by decide
def yFs:∀n≤6,yJ n n=n+n*(n-1) / 2:=by decide
def yDa {p:fj} (h:p.check=0) {a b:Nat} (ha:a<p.dr.length) (hb:b<p.dr.length-1-a):p.gf ((yJ p.dr.length a+b:Nat):Int)=((a:Int),((a+1+b:Nat):Int),ap):=by
 obtain⟨h1,h2,h3⟩:=z5r _ (qF h).m6 a ha b hb;rw[fj.gf,dx (by rw[dA h];omega),dx (by omega),ml];exact h1
def yUb (i:b6) (h:Dr.du i):yAw i:=by
 have hs:i.p.small:=h;unfold yAw Qa fp ez dC uC gM U5 ez dL ez UQ pR Q2 zU Q8 dI;simp only[yW];refine⟨i.p,rn (jh ⟨rfl,hs,λ_ _=>Cv.du.mk (λc=> ?_) (λc=>zI (λc1=> ?_) (λc1=>zI (λc2=> ?_) (λc2=> ?_)))⟩)⟩
 ·rw[fj.gf,fk (by rw[zUj (by simpa using c)];omega)];exact kp
 ·rw[fj.gf,fk (.inl c1)];exact kp
 ·have c:i.p.check=0:=by simpa using c
  rw[fj.gf,dx (by rw[dA c];omega),fk c2];exact kp
 ·have c:i.p.check=0:=by simpa using c
  have m6:=(qF c).m6;obtain⟨k,hk⟩:∃k:Nat,i.n=k:=⟨i.n.toNat,oM⟩
  have sp:=λ(a b:Nat) ha hb=>yDa (p:=i.p) c (a:=a) (b:=b) ha hb
  have fe:=yFs _ m6;have out:i.p.count<=k->i.p.gf (k:Int)=(0,0,aq):=λe=>by rw[fj.gf,fk (by omega)]
  rw[dA c,<- fe]at out;rw[hk]at c2 ⊢;generalize hn:i.p.dr.length=n at*;refine⟨0,rfl,rfl,λm=>m<=n/\yJ n m<=k,λm=>n-m,⟨oM,by show n<=k;omega⟩,?_⟩;rintro m ⟨g1,g2⟩;have hf:=Yo m6 g1;refine zI (λc4=> ?_) (λc4=> ?_)
  ·refine⟨(m,0),rfl,rfl,by rw[iD (by omega)];simp,λx=>x.1=m/\x.2<=n-1-m/\yJ n m+x.2<=k,λx=>n-1-m-x.2,⟨rfl,by(first|omega|(dsimp only;omega)),by(first|omega|(dsimp only;omega))⟩,?_⟩;rintro⟨a,b⟩ ⟨g3,g4,g5⟩;dsimp only at g3 g4 g5 ⊢;subst g3;refine zI (λc5=>Cv.du.mk (λe=> ?_) (λe=> ?_)) (λc5=> ?_)
   ·have e:((yJ n a+b:Nat):Int)=(k:Int):=by simpa using e
    have:=sp a b oM oM;rw[e]at this;rw[this];exact kp
   ·have e:¬((yJ n a+b:Nat):Int)=(k:Int):=by simpa using e
    refine⟨(a,b+1),?_,rfl,?_,⟨rfl,by(first|omega|(dsimp only;omega)),by(first|omega|(dsimp only;omega))⟩,by(first|omega|(dsimp only;omega)),ic⟩
    ·rw[iD (by omega)];dsimp only;omega
    ·rw[iD (by omega)];dsimp only;omega
   ·refine⟨a+1,?_,by rw[iD (by omega)];rfl,⟨oM,?_⟩,by(first|omega|(dsimp only;omega)),ic⟩
    ·rw[yJ];omega
    ·rw[yJ];omega
  ·obtain rfl:m=n:=by omega
   rw[out g2];exact kp
def yGh:Dr.ok Tryz.prog 118:=ix mixed (dz zTg fx) 0 (λ_=>[]) (λi=>ySi i) [] Tryz.func118 yUb
def zNy {p:fj} (h:p.check=0) {i:Int} (h0:0<=i) (h1:i<p.count):(p.gf i).2.2=decide ((p.dr.length:Int)<=i):=by
 by_cases hl:i<p.dr.length
 ·rw[fj.gf,dx (by omega),fk hl,jq (by omega)]
 ·have m6:=(qF h).m6;rw[kx (by omega),fj.gf,dx (by omega),dx hl];rw[dA h]at h1;obtain⟨k,rfl⟩:∃k:Nat,i=k:=⟨i.toNat,oM⟩
  have fin:∀n≤6,∀k<n+n*(n-1) / 2,n<=k->(kU n k n 0).2.2=ap:=by decide
  exact fin _ m6 k oM oM
def Um (x:fj):1<=zV x/\zV x<=10:=by
 have:=yY (n:=x.tick) (lo:=0) (hi:=9) oM;rw[zV];omega
def yQk (x:fj):2<=kN x/\kN x<=5:=by
 have:=yY (n:=(x.dr.length:Int)) (lo:=0) (hi:=3) oM;rw[kN];omega
def IZ {a b m n:Int} (ha:0<=a/\a<=m) (hb:0<=b/\b<=n):0<=a*b/\a*b<=m*n:=by
 refine⟨Nf ha.1 hb.1,?_⟩;exact Int.le_trans (Int.mul_le_mul_of_nonneg_right ha.2 hb.1) (Wd hb.2 oM)
def z0n (j:Nat):iE (qP (j+1))=iE (qP j)++[[D.v (.int .i64 (10*(j:Int)+3))]]:=by
 rw[qP,Jf,jz,iE,jz];rfl
def z0e (t:Int) (j:Nat):iE (kZ t (j+1))=iE (kZ t j)++[[D.v (.int .i64 (t*(10+(j:Int))))]]:=by
 rw[kZ,Jf,jz,iE,jz];rfl
def zAc (j:Nat):(qP j).length=j:=by simp[qP]
def pN (t:Int) (j:Nat):(kZ t j).length=j:=by simp[kZ]
def y3u (x:fj) (h:CH.du x):yOq x:=by
 obtain⟨h1,h2,h3,h4,h5,h6,h7⟩:x.raw:=h;have hw: -1000000<=(0:Int):=by decide
 have bt:=yY (n:=x.tick) (lo:=0) (hi:=9) oM;have bw:=yY (n:=x.wide) (lo:=0) (hi:=60) oM;have br:=yY (n:=x.gw) (lo:=0) (hi:=2) oM;have bl:=yY (n:=x.least) (lo:=0) (hi:=4) oM;have bn:=yY (n:=(x.dr.length:Int)) (lo:=0) (hi:=3) oM;have kt:=Um x;have kn:=yQk x;have w1:aa.wrap (1+zH x.tick 0 9)=zV x:=iD oM;have w2:aa.wrap (-20*aa.wrap (1+zH x.tick 0 9))= -20*zV x:=by rw[w1];exact iD oM
 have w3:aa.wrap (100*aa.wrap (1+zH x.tick 0 9))=100*zV x:=by rw[w1];exact iD oM
 have w4:aa.wrap (1+zH x.gw 0 2)=1+zH x.gw 0 2:=iD oM;have w5:aa.wrap (1+zH x.least 0 4)=1+zH x.least 0 4:=iD oM;have w6:aa.wrap (2+zH x.dr.length 0 3)=kN x:=iD oM;have mb:=IZ (a:=zV x) (b:=5+zH x.wide 0 60) (m:=10) (n:=65) oM oM;have w7:aa.wrap (aa.wrap (1+zH x.tick 0 9)*aa.wrap (5+zH x.wide 0 60))=zV x*(5+zH x.wide 0 60):=by
  rw[w1,iD (x:=5+zH x.wide 0 60) (by omega)];exact iD oM
 unfold yOq fp ez Qy gE wN ZN fp ZP fp Zv ZT fp YG jL hY m5 gJ mI qG y6 xN dI;simp only[yW];refine⟨⟨x.dr.length,0,3⟩,rfl,rfl,rfl,⟨⟨Z9,Z9⟩,Z9,Z9,Z9⟩,λ_ _=>⟨⟨x.tick,0,9⟩,rfl,rfl,rfl,⟨h1,Z9,Z9,Z9⟩,λ_ _=> ?_⟩⟩;dsimp only;refine⟨(),λ_=>True,?_,λ_ _=> ?_⟩
 ·repeat'(first|exact trivial|exact rfl|exact w1.symm|exact w2.symm|exact w3.symm|exact w4.symm|exact w5.symm|apply ar|refine⟨⟨x.gw,0,2⟩,rfl,rfl,rfl,⟨h3,Z9,Z9,Z9⟩,λ_ _=> ?_⟩|refine⟨⟨x.top,0,9⟩,rfl,rfl,rfl,⟨h4,Z9,Z9,Z9⟩,λ_ _=> ?_⟩|refine⟨⟨x.least,0,4⟩,rfl,rfl,rfl,⟨h5,Z9,Z9,Z9⟩,λ_ _=> ?_⟩|refine⟨⟨x.part,0,100⟩,rfl,rfl,rfl,⟨h6,Z9,Z9,Z9⟩,λ_ _=> ?_⟩|refine⟨(),?_⟩)
 ·refine⟨⟨x.wide,0,60⟩,rfl,rfl,rfl,⟨h2,Z9,Z9,Z9⟩,λ_ _=> ?_⟩;dsimp only;rw[w7,w6];refine⟨0,by(first|exact rfl|exact trivial),by(first|exact rfl|exact trivial),by(first|exact rfl|exact trivial),by(first|exact rfl|exact trivial),by(first|exact rfl|exact trivial),by(first|exact rfl|exact trivial),by(first|exact rfl|exact trivial),by(first|exact rfl|exact trivial),by(first|exact rfl|exact trivial),by(first|exact rfl|exact trivial),by(first|exact rfl|exact trivial),by(first|exact rfl|exact trivial),λj=>j<=(kN x).toNat,λj=>(kN x).toNat-j,oM,?_⟩;intro j hj;rw[zAc,pN];refine zI (λc=>⟨oM,oM,j+1,by rw[iD (by omega)];rfl,by(first|exact rfl|exact trivial),by(first|exact rfl|exact trivial),by(first|exact rfl|exact trivial),by(first|exact rfl|exact trivial),by(first|exact rfl|exact trivial),by(first|exact rfl|exact trivial),by(first|exact rfl|exact trivial),by(first|exact rfl|exact trivial),by(first|exact rfl|exact trivial),?_,?_,by(first|omega|(dsimp only;omega)),by(first|omega|(dsimp only;omega)),ic⟩) (λc=>⟨(),?_⟩)
  ·rw[z0n,iD (x:=10*(j:Int)) (by omega),iD (by omega)]
  ·have mj:=IZ (a:=zV x) (b:=10+(j:Int)) (m:=10) (n:=20) oM oM;rw[z0e,w1,iD (x:=10+(j:Int)) (by omega),iD (by omega)]
  ·have e:(kN x).toNat=j:=by omega
   rw[e];(repeat'(first|exact trivial|exact rfl|apply ar))
def GA:CH.ok Tryz.prog 7:=ix mixed (dz Y5 fx) 0 (λx=>y3h x) (λx=>yZv x) [] Tryz.func7 y3u
structure ir where
 kind:Int
 id:Int
 inst:Int
 side:Int
 dp:Int
 dq:Int
 least:Int
 time:Int
 label:List UInt8
 deriving DecidableEq
@[reducible] def ir.cells (c:ir):List V:=[zB c.kind,zB c.id,zB c.inst,zB c.side,zB c.dp,zB c.dq,zB c.least,zB c.time,sV c.label]
@[reducible] def CP (c:ir):V:= .agg c.cells
def Af (c:ir):List D:=[.v (.int .i64 c.kind),.v (.int .i64 c.id),.v (.int .i64 c.inst),.v (.int .i64 c.side),.v (.int .i64 c.dp),.v (.int .i64 c.dq),.v (.int .i64 c.least),.v (.int .i64 c.time),.v (.string (sb c.label))]
def Hl:ir:=⟨0,0,0,0,0,0,0,0,[]⟩
@[reducible] def ir.raw (c:ir):Prop:=ie c.kind/\ie c.id/\ie c.inst/\ie c.side/\ie c.dp/\ie c.dq/\ie c.least/\ie c.time
structure zz where
 p:fj
 c:ir
 i:Int
def u9 (c:ir):Int:=if 4<1+zH c.kind 0 8 then 1 else 1+zH c.kind 0 8
def y9 (t:zz):ir:=⟨u9 t.c,1+zH t.c.id 0 30,zH t.c.inst 0 (t.p.count-1),1+zH t.c.side 0 1,t.p.tick*zH t.c.dp 0 9,1+zH t.c.dq 0 11,0,0,[]⟩
def cC (c:ir):Int:=if c.time.tmod 5=3 then 3 else if c.time.tmod 5=2 then 2 else 1
def aD (c:ir) (q:Int):Int:=if c.least.tmod 4=1 then zH c.least 0 q else 0
def xF (t:zz):ir:=
 let h:=y9 t
 if h.kind=1 then{h with id:=t.i+1,time:=cC t.c,least:=aD t.c h.dq,dp:=if(t.p.gf h.inst).2.2=ap then h.dp-4*t.p.tick else h.dp+8*t.p.tick}
 else{h with dp:=if h.kind=4 then h.dp+5*t.p.tick else h.dp,side:=0,inst:=0}
def JO:gx:=gh zz (λt=>[oa t.p,CP t.c,zB t.i]) (λ_=>[]) (λt=>t.p.check=0/\t.p.small/\t.c.raw/\0<=t.i/\t.i<=1000000) (λt=>CP (xF t)) (λ_=>[])
def cj (k:Nat):Nat×ib:=(k,{ι:=ir,dv:=λ_=>[(7,.nm 0 0)],qo:=λ_=>[(7,.nm 0 0)],nf:=λc=>[.cells c.cells 46],rows:=λc=>[.cells c.cells 46]})
def y9i:List (Nat×ib):=[cj 14,cj 54,cj 62,cj 70]
def iS.pr (t:iS) (s:Nat):Int:=if s=0 then t.p1 else t.p2
def iS.hs (t:iS) (s:Nat):Bool:=if s=0 then t.gp else t.gj
def TW (T:List iS) (k:Nat):Bool:=(T.getD k fq).gp && ((T.getD k fq).gj && decide ((T.getD k fq).p1>=(T.getD k fq).p2))
def yAk (p:fj) (T:List iS) (k s:Nat):Bool:=
 let a:=T.getD (p.gf k).1.toNat fq
 let b:=T.getD (p.gf k).2.1.toNat fq
 let c:=T.getD k fq
 a.hs s && b.hs (1-s) && c.hs (1-s) && (if s=0 then decide (a.pr s-b.pr (1-s)>=c.pr (1-s))else decide (a.pr s-b.pr (1-s)<=c.pr (1-s))) &&
  (decide (p.dp k (a.pr s-b.pr (1-s))=0)||decide (p.dp (p.gf k).1 (c.pr (1-s)+b.pr (1-s))=0)||decide (p.dp (p.gf k).2.1 (a.pr s-c.pr (1-s))=0))
def KC (p:fj) (T:List iS) (k:Nat):Bool:=(p.gf k).2.2 && (yAk p T k 0||yAk p T k 1)
def Ux (a:ir) (b:ir) (c:ir->Prop) (d:zz):Prop:=sb a.label=sb b.label/\c a/\dm (au (Sx.V.agg [V.d (dI 0),V.d (dI 0),V.d (dI 0),V.d (dI 0),V.d (dI 0),V.d (dI 0),V.d (dI 0),V.d (dI 0),V.d jL]).cl 46)/\dm (au [V.d (dI d.c.kind),V.d (dI d.c.id),V.d (dI d.c.inst),V.d (dI d.c.side),V.d (dI d.c.dp),V.d (dI d.c.dq),V.d (dI d.c.least),V.d (dI d.c.time),V.d (D.v (bc (sb d.c.label)))] 46)/\Q2 d.p (dm (aw 1 (iE d.p.dr)))
def YD (a:ir) (b:ir) (c:ir->Prop) (d:zz):Prop:=a.time=b.time/\Ux a b c d
@[reducible] def QS (a b:ir)(R:Prop):Prop:=a.id=b.id/\a.inst=b.inst/\a.side=b.side/\a.dp=b.dp/\a.dq=b.dq/\R
def Yl (a:ir) (b:ir) (c:ir->Prop) (d:zz):Prop:=QS a b (a.least=b.least/\YD a b c d)
def OT (a:ir) (b:ir->Prop) (c:zz):Prop:=∃(d:ir),d.kind=a.kind/\Yl d a b c
def YM (a:zz) (b:si) (c:ir):Prop:=(xF a).dq=aa.wrap (qG b)/\(xF a).least=c.least/\(xF a).time=c.time/\sb (xF a).label=sb c.label/\True
def ZF (a:zz) (b:ir):Prop:=(xF a).dq=b.dq/\(xF a).least=b.least/\(xF a).time=b.time/\sb (xF a).label=sb b.label/\True
@[reducible] def Qe (a b:ir)(R:Prop):Prop:=a.kind=b.kind/\a.id=b.id/\a.inst=b.inst/\a.side=b.side/\a.dp=b.dp/\a.dq=b.dq/\a.least=b.least/\a.time=b.time/\sb a.label=sb b.label/\R
def yYz (t:zz):Prop:=
 ∃(a:si),a.n=t.c.kind/\a.lo=0/\a.hi=8/\(y6 a)/\fp (∃(c:si),c.n=t.c.id/\c.lo=0/\c.hi=30/\(y6 c)/\fp (∃(e:ir),e.kind=aa.wrap (qG a)/\e.id=aa.wrap (qG c)/\e.inst=0/\e.side=0/\e.dp=0/\e.dq=0/\e.least=0/\e.time=0/\sb e.label=ByteArray.mk #[]/\∃(f:ir->Prop),du (decide (e.kind>4)) (∃(g:ir),g.kind=1/\Yl g e f t) (OT e f t)/\∀(g:ir),f g->∃(h:fj),Qa h t.p ((zU h)/\fp (∃(k:si),k.n=t.c.inst/\k.lo=0/\k.hi=aa.wrap ((↑h.count:Int)-1)/\(y6 k)/\fp (∃(m:si),m.n=t.c.side/\m.lo=0/\m.hi=1/\(y6 m)/\fp (∃(p:si),p.n=t.c.dq/\p.lo=0/\p.hi=11/\(y6 p)/\fp (∃(r:si),r.n=t.c.dp/\r.lo=0/\r.hi=9/\(y6 r)/\fp (dm t.p.tick/\du (g.kind==1) (∃(u:ir),u.kind=g.kind/\u.id=aa.wrap (t.i+1)/\u.inst=zH k.n k.lo k.hi/\u.side=aa.wrap (qG m)/\u.dp=aa.wrap (t.p.tick*zH r.n r.lo r.hi)/\u.dq=aa.wrap (qG p)/\u.least=g.least/\u.time=1/\sb u.label=sb g.label/\∃(v:ir->Prop),(aa=aa/\(5:Int)≠(0:Int)/\du (t.c.time.tmod (5:Int)==(2:Int)) (∃(w:ir),w.kind=u.kind/\QS w u (w.least=u.least/\w.time=2/\Ux w u v t)) (OT u v t))/\∀(w:ir),v w->∃(x:ir),Qe x w (∃(y:ir->Prop),(aa=aa/\(5:Int)≠(0:Int)/\du (t.c.time.tmod (5:Int)==(3:Int)) (∃(z:ir),z.kind=x.kind/\QS z x (z.least=x.least/\z.time=3/\Ux z x y t)) (OT x y t))/\∀(z:ir),y z->∃(ma:ir),Qe ma z (∃(sc:ir->Prop),(aa=aa/\(4:Int)≠(0:Int)/\du (t.c.least.tmod (4:Int)==(1:Int)) (∃(lh:si),lh.n=t.c.least/\lh.lo=0/\lh.hi=ma.dq/\(y6 lh)/\fp (∃(iX:ir),iX.kind=ma.kind/\QS iX ma (iX.least=zH lh.n lh.lo lh.hi/\YD iX ma sc t))) (OT ma sc t))/\∀(lh:ir),sc lh->∃(wk:b6),Qa wk.p t.p (wk.n=lh.inst/\(kM wk)/\fp (du (!(wk.p.gf wk.n).snd.snd) (ez ((xF t).kind=lh.kind/\(xF t).id=lh.id/\(xF t).inst=lh.inst/\(xF t).side=lh.side/\(xF t).dp=aa.wrap (lh.dp+aa.wrap (8*t.p.tick))/\ZF t lh)) (ez ((xF t).kind=lh.kind/\(xF t).id=lh.id/\(xF t).inst=lh.inst/\(xF t).side=lh.side/\(xF t).dp=aa.wrap (lh.dp-aa.wrap (4*t.p.tick))/\ZF t lh))))))) (du (g.kind==4) (ez ((xF t).kind=g.kind/\(xF t).id=g.id/\(xF t).inst=0/\(xF t).side=0/\(xF t).dp=aa.wrap (aa.wrap (t.p.tick*zH r.n r.lo r.hi)+aa.wrap (5*t.p.tick))/\YM t p g)) (ez ((xF t).kind=g.kind/\(xF t).id=g.id/\(xF t).inst=0/\(xF t).side=0/\(xF t).dp=aa.wrap (t.p.tick*zH r.n r.lo r.hi)/\YM t p g)))))))))))
def y8g (t:zz) (h:JO.du t):yYz t:=by
 obtain⟨hc,hs,⟨r1,r2,r3,r4,r5,r6,r7,r8⟩,i0,i1⟩:t.p.check=0/\t.p.small/\t.c.raw/\0<=t.i/\t.i<=1000000:=h;have ok:=qF hc;have t1:=ok.t1;have t2:=ok.t2;have m2:=ok.m2;have xy:=xQ t.p;have hcd:=dA hc;have bk:=yY (n:=t.c.kind) (lo:=0) (hi:=8) oM;have bi:=yY (n:=t.c.id) (lo:=0) (hi:=30) oM;have bs:=yY (n:=t.c.side) (lo:=0) (hi:=1) oM;have bq:=yY (n:=t.c.dq) (lo:=0) (hi:=11) oM;have bp:=yY (n:=t.c.dp) (lo:=0) (hi:=9) oM;have mb:=IZ (a:=t.p.tick) (b:=zH t.c.dp 0 9) (m:=1000) (n:=9) oM oM;have wp:aa.wrap (t.p.tick*zH t.c.dp 0 9)=t.p.tick*zH t.c.dp 0 9:=iD oM;unfold yYz QS Qa fp ez Qe OT Yl QS YD Ux Q2 jL ZF YM qG y6 zU Q8 kM Q8 dI;refine⟨⟨t.c.kind,0,8⟩,rfl,rfl,rfl,⟨r1,Z9,Z9,Z9⟩,λ_ _=>⟨⟨t.c.id,0,30⟩,rfl,rfl,rfl,⟨r2,Z9,Z9,Z9⟩,λ_ _=> ?_⟩⟩;dsimp only;rw[iD (x:=1+zH t.c.kind 0 8) (by omega),iD (x:=1+zH t.c.id 0 30) (by omega)];refine⟨⟨1+zH t.c.kind 0 8,1+zH t.c.id 0 30,0,0,0,0,0,0,[]⟩,iH ⟨rfl,λc=>c=⟨u9 t.c,1+zH t.c.id 0 30,0,0,0,0,0,0,[]⟩,zI (λe=>⟨⟨u9 t.c,1+zH t.c.id 0 30,0,0,0,0,0,0,[]⟩,?_,rfl,rfl,rfl,rfl,rfl,rfl,rfl,rfl,rfl,ic⟩) (λe=>⟨⟨u9 t.c,1+zH t.c.id 0 30,0,0,0,0,0,0,[]⟩,?_,rfl,rfl,rfl,rfl,rfl,rfl,rfl,rfl,rfl,ic⟩),λc Ll=> ?_⟩⟩
 ·dsimp only at e ⊢;rw[u9,fk (by omega)]
 ·dsimp only at e ⊢;rw[u9,dx (by omega)]
 subst Ll;refine⟨t.p,rn (jh ⟨rfl,hs,λ_ _=> ?_⟩)⟩;rw[iD (x:=(t.p.count:Int)-1) (by omega)];refine⟨⟨t.c.inst,0,(t.p.count:Int)-1⟩,rfl,rfl,rfl,⟨r3,Z9,Z9,Z9⟩,λ_ _=>⟨⟨t.c.side,0,1⟩,rfl,rfl,rfl,⟨r4,Z9,Z9,Z9⟩,λ_ _=>⟨⟨t.c.dq,0,11⟩,rfl,rfl,rfl,⟨r6,Z9,Z9,Z9⟩,λ_ _=>⟨⟨t.c.dp,0,9⟩,rfl,rfl,rfl,⟨r5,Z9,Z9,Z9⟩,λ_ _=>⟨rfl,?_⟩⟩⟩⟩⟩;dsimp only;rw[wp,iD (x:=1+zH t.c.side 0 1) (by omega),iD (x:=1+zH t.c.dq 0 11) (by omega),iD (x:=t.i+1) (by omega)];refine Cv.du.mk (λk=> ?_) (λk=> ?_)
 ·have k:u9 t.c=1:=by simpa using k
  refine⟨{y9 t with id:=t.i+1,time:=1},iH ⟨rfl,λc=>c={y9 t with id:=t.i+1,time:=if t.c.time.tmod 5=2 then 2 else 1},⟨rfl,Z8,Cv.du.mk (λe=>⟨{y9 t with id:=t.i+1,time:=2},iH ⟨rfl,?_,ic⟩⟩) (λe=>⟨{y9 t with id:=t.i+1,time:=1},iH ⟨rfl,?_,ic⟩⟩)⟩,λc Ll=> ?_⟩⟩
  ·have e:t.c.time.tmod 5=2:=by simpa using e
   rw[fk e]
  ·have e:¬t.c.time.tmod 5=2:=by simpa using e
   rw[dx e]
  subst Ll;refine⟨{y9 t with id:=t.i+1,time:=if t.c.time.tmod 5=2 then 2 else 1},iH ⟨rfl,λc=>c={y9 t with id:=t.i+1,time:=cC t.c},⟨rfl,Z8,Cv.du.mk (λe=>⟨{y9 t with id:=t.i+1,time:=3},iH ⟨rfl,?_,ic⟩⟩) (λe=>⟨{y9 t with id:=t.i+1,time:=if t.c.time.tmod 5=2 then 2 else 1},iH ⟨rfl,?_,ic⟩⟩)⟩,λc Ll=> ?_⟩⟩
  ·have e:t.c.time.tmod 5=3:=by simpa using e
   rw[cC,fk e]
  ·have e:¬t.c.time.tmod 5=3:=by simpa using e
   rw[cC,dx e]
  subst Ll;have hq:(y9 t).dq=1+zH t.c.dq 0 11:=rfl;refine⟨{y9 t with id:=t.i+1,time:=cC t.c},iH ⟨rfl,λc=>c={y9 t with id:=t.i+1,time:=cC t.c,least:=aD t.c (y9 t).dq},⟨rfl,Z8,Cv.du.mk (λe=>⟨⟨t.c.least,0,(y9 t).dq⟩,rfl,rfl,rfl,⟨r7,Z9,Z9,Z9⟩,λ_ _=>⟨{y9 t with id:=t.i+1,time:=cC t.c,least:=zH t.c.least 0 (y9 t).dq},iH ⟨rfl,?_,ic⟩⟩⟩) (λe=>⟨{y9 t with id:=t.i+1,time:=cC t.c},iH ⟨rfl,?_,ic⟩⟩)⟩,λc Ll=> ?_⟩⟩
  ·have e:t.c.least.tmod 4=1:=by simpa using e
   rw[aD,fk e]
  ·have e:¬t.c.least.tmod 4=1:=by simpa using e
   rw[aD,dx e];rfl
  subst Ll;refine⟨⟨t.p,(y9 t).inst⟩,iH (jh ⟨rfl,hs,λ_ _=> ?_⟩)⟩;dsimp only;have hp:(y9 t).dp=t.p.tick*zH t.c.dp 0 9:=rfl;have DW:(y9 t).kind=1:=k;rw[iD (x:=8*t.p.tick) (by omega),iD (x:=4*t.p.tick) (by omega),iD (x:=(y9 t).dp+8*t.p.tick) (by omega),iD (x:=(y9 t).dp-4*t.p.tick) (by omega)];refine Cv.du.mk (λe=>⟨(),?_⟩) (λe=>⟨(),?_⟩)
  ·have e:(t.p.gf (y9 t).inst).2.2=aq:=by simpa using e
   have:xF t={y9 t with id:=t.i+1,time:=cC t.c,least:=aD t.c (y9 t).dq,dp:=(y9 t).dp+8*t.p.tick}:=by
    simp only[xF,DW,if_true,e,nr,if_false]
   rw[this];(repeat'(first|exact trivial|exact rfl|apply ar))
  ·have e:(t.p.gf (y9 t).inst).2.2=ap:=by simpa using e
   have:xF t={y9 t with id:=t.i+1,time:=cC t.c,least:=aD t.c (y9 t).dq,dp:=(y9 t).dp-4*t.p.tick}:=by
    simp only[xF,DW,if_true,e]
   rw[this];(repeat'(first|exact trivial|exact rfl|apply ar))
 ·have k:¬u9 t.c=1:=by simpa using k
  have k:¬(y9 t).kind=1:=k;rw[iD (x:=5*t.p.tick) (by omega),iD (x:=t.p.tick*zH t.c.dp 0 9+5*t.p.tick) (by omega)];have et:xF t={y9 t with dp:=if(y9 t).kind=4 then(y9 t).dp+5*t.p.tick else(y9 t).dp,side:=0,inst:=0}:=by
   simp only[xF,k,if_false]
  rw[et];refine Cv.du.mk (λe=>⟨(),?_⟩) (λe=>⟨(),?_⟩)
  ·have e:u9 t.c=4:=by simpa using e
   have e:(y9 t).kind=4:=e;simp only[fk e];(repeat'(first|exact trivial|exact rfl|apply ar))
  ·have e:¬u9 t.c=4:=by simpa using e
   have e:¬(y9 t).kind=4:=e;simp only[dx e];(repeat'(first|exact trivial|exact rfl|apply ar))
def yTt:JO.ok Tryz.prog 53:=ix mixed (dz Y5 (dz z7f (dz yGh fx))) 0 (λ_=>y9i) (λ_=>[]) [] Tryz.func53 y8g
structure Ls where
 a:Int
 b:Int
 c:Int
def AZ:gx:=gh Ls (λi=>[Be i.a,Be i.b,Be i.c]) (λ_=>[]) (λi=>0<=i.a/\0<=i.b/\0<=i.c/\i.c<=1) (λi=> .jm [Be ((i.a+i.b+i.c) % 18446744073709551616),Be ((i.a+i.b+i.c) / 18446744073709551616)]) (λ_=>[])
def yIc {P : Program} {f : FuncId} {fn : Func} (hf : P.funcs[f]? = some fn) (BK : (fn.name == "runtime.NumGoroutine") = false) (hb : fn.body.isNone = true) (hn : Extern.findNext fn = none) (he : Extern.find fn = some add64Entry) : AZ.ok P f := by
 intro i hc k L E w ys R hv;obtain⟨h1,h2,h3,h4⟩:0<=i.a/\0<=i.b/\0<=i.c/\i.c<=1:=hc;simp only[AZ,gh,im,VR,DR]at hv;obtain⟨_,_,rfl,⟨rfl,_⟩,_,_,rfl,⟨rfl,_⟩,_,_,rfl,⟨rfl,_⟩,rfl⟩:=hv;unfold ob;rw[run_callFunc_extern hf BK hb hn he,run_add64 i.a i.b i.c h1 h2 h3 h4];simp only[Result.andThen];refine⟨_,xj.2 rfl,(),trivial,E,Ev.le.refl _,?_,R⟩;simp only[AZ,gh,VR,im,DR];exact⟨_,rfl,_,_,rfl,⟨rfl,rfl⟩,_,_,rfl,⟨rfl,rfl⟩,rfl⟩
def yFr:AZ.ok Tryz.prog 271:=by
 refine yIc (P:=Tryz.prog) (f:=271) (fn:=Tryz.f271) Tryz.func271 ?_ ?_ ?_ ?_
 ·kernel_rfl
 ·kernel_rfl
 ·kernel_rfl
 ·kernel_rfl
structure M2 where
 a:Int
 b:Int
def F4:gx:=gh M2 (λi=>[Be i.a,Be i.b]) (λ_=>[]) (λi=>0<=i.a/\i.a<=2000000000/\0<=i.b/\i.b<=2000000000) (λi=> .jm [Be 0,Be (i.a*i.b)]) (λ_=>[])
def Gj:gx:=gh M2 (λi=>[Be 0,Be i.a,Be i.b]) (λ_=>[]) (λi=>0<=i.a/\i.a<=4000000000000000000/\1<=i.b/\i.b<=2000000000) (λi=> .jm [Be (i.a / i.b),Be (i.a % i.b)]) (λ_=>[])
def DC:gx:=gh Ls (λi=>[zB i.a,zB i.b,zB i.c]) (λ_=>[]) (λi=>0<=i.a/\i.a<=2000000000/\0<=i.b/\i.b<=2000000000/\1<=i.c/\i.c<=2000000000) (λi=> .jm [zB (i.a*i.b / i.c),y4 ap]) (λ_=>[])
def J5:gx:=gh (List Int) (λl=>[iV l]) (λ_=>[]) (λl=>l.length<=1000/\∀x∈l,0<=x/\x<=1000000) (λl=> .jm [zB l.sum,y4 ap]) (λ_=>[])
def y9x (l:List Int):List ib:=[{ι:=Nat,dv:=λj=>[(4,Be (l.take j).sum),(5,zB 0),(11,zB j)],rows:=λ_=>[]}]
structure Ca where
 l:List Int
 q:Int
def yV (l:List Int) (q:Int):Bool:=decide (l.length<=250) && decide (0<=q) && l.all (λn=>decide (1<=n) && decide (n<=1000000)) && decide (q<=l.sum)
def FZ:gx:=gh Ca (λi=>[iV i.l,zB i.q]) (λ_=>[]) (λi=>i.l.length<=1000000/\ie i.q) (λi=>y4 (yV i.l i.q)) (λ_=>[])
def y0v (i:Ca):List ib:=[{ι:=Nat,dv:=λj=>[(5,zB (i.l.take j).sum),(17,zB j)],rows:=λ_=>[]}]
def fC:List Int->Int->List Int
 |[],_=>[]
 |n::l,q=>min n q::fC l (q-min n q)
def fJ (l:List Int) (q:Int):List Int:=if yV l q=ap then fC l q else[]
def Kh:gx:=gh Ca (λi=>[iV i.l,zB i.q]) (λ_=>[]) (λi=>i.l.length<=1000000/\ie i.q) (λ_=> .own 0) (λi=>[.own 2 1 (iE (fJ i.l i.q))])
def y8r (i:Ca):List ib:=[{ι:=Nat,dv:=λj=>[(5,.own 0),(1,zB (i.q-((fC i.l i.q).take j).sum)),(15,zB j)],rows:=λj=>[.own 2 1 (iE ((fC i.l i.q).take j))]}]
def Z4 (a:M2):=(ab.wrap (ab.wrap (nA ab a.a 32*Cc ab a.b 4294967295)+nA ab (ab.wrap (Cc ab a.a 4294967295*Cc ab a.b 4294967295)) 32))
def yKn (i:M2):Prop:=
 (0:Int)<=(32:Int)/\(0:Int)<=(32:Int)/\(0:Int)<=(32:Int)/\(0:Int)<=(32:Int)/\(0:Int)<=(32:Int)/\ez (0=ab.wrap (ab.wrap (ab.wrap (nA ab i.a 32*nA ab i.b 32)+nA ab (Z4 i) 32)+nA ab (ab.wrap (Cc ab (Z4 i) 4294967295+ab.wrap (Cc ab i.a 4294967295*nA ab i.b 32))) 32)/\i.a*i.b=ab.wrap (i.a*i.b)/\True)
def yKk (i:M2):Prop:=
 du (i.b==0) False (du (decide (i.b<=0)) False (ab=ab/\i.b≠0/\ab=ab/\i.b≠0/\ez (i.a / i.b=ab.wrap (i.a.tdiv i.b)/\i.a % i.b=i.a.tmod i.b/\True)))
def yCa (i:Ls):Prop:=
 du (decide (i.a<0)) (ez (i.a*i.b / i.c=0/\ap=aq/\True)) (du (decide (i.b<0)) (ez (i.a*i.b / i.c=0/\ap=aq/\True)) (du (decide (i.c<1)) (ez (i.a*i.b / i.c=0/\ap=aq/\True)) (∃(a:M2),a.a=ab.wrap i.a/\a.b=ab.wrap i.b/\(0<=a.a/\a.a<=(2000000000:Int)/\(0:Int)<=a.b/\a.b<=2000000000)/\fp (du (decide (0>=ab.wrap i.c)) (ez (i.a*i.b / i.c=0/\ap=aq/\True)) (∃(c:M2),dm ((0:Int))/\c.a=a.a*a.b/\c.b=ab.wrap i.c/\(0<=c.a/\c.a<=(4000000000000000000:Int)/\(1:Int)<=c.b/\c.b<=2000000000)/\fp (du (decide (c.a / c.b>9223372036854775807)) (ez (i.a*i.b / i.c=0/\ap=aq/\True)) (ez (i.a*i.b / i.c=aa.wrap (c.a / c.b)/\ap=ap/\True))))))))
def yXd (l:List Int):Prop:=
 ∃(a:Nat),(ae a l).sum=(0:Int)/\(0:Int)=0/\(↑a:Int)=0/\∃(b:Nat->Prop),∃(c:Nat->Nat),b a/\∀(d:Nat),b d->du (decide ((↑d:Int)<(↑(iE l).length:Int))) ((0<=(↑d:Int)/\(↑d:Int)<(↑(iE l).length:Int))/\∃(e:Int),zF (iE l) (↑d:Int).toNat 0 1=ay [dI e]/\∃(f:Ls),f.a=(ae d l).sum/\f.b=ab.wrap e/\f.c=0/\(0<=f.a/\0<=f.b/\0<=f.c/\f.c<=1)/\fp ((0:Int)<=(63:Int)/\∃(h:Nat),(ae h l).sum=(f.a+f.b+f.c) % (18446744073709551616:Int)/\(0:Int)=aa.wrap (0+aa.wrap (nA aa e 63+aa.wrap ((f.a+f.b+f.c) / (18446744073709551616:Int))))/\jK h d b c)) ((0:Int)<=(63:Int)/\du (0 !=nA aa (aa.wrap (ae d l).sum) 63) (ez (l.sum=0/\ap=aq/\True)) (ez (l.sum=aa.wrap (ae d l).sum/\ap=ap/\True)))
def yPp (i:Ca):Prop:=
 du (decide ((↑(iE i.l).length:Int)>250)) (ez (yV i.l i.q=aq/\True)) (du (decide (i.q<0)) (ez (yV i.l i.q=aq/\True)) (∃(a:Nat),(ae a i.l).sum=0/\(↑a:Int)=0/\∃(b:Nat->Prop),∃(c:Nat->Nat),b a/\∀(d:Nat),b d->du (decide ((↑d:Int)<(↑(iE i.l).length:Int))) ((0<=(↑d:Int)/\(↑d:Int)<(↑(iE i.l).length:Int))/\∃(e:Int),zF (iE i.l) (↑d:Int).toNat 0 1=ay [dI e]/\du (decide (e<1)) (ez (yV i.l i.q=aq/\True)) (du (decide (e>1000000)) (ez (yV i.l i.q=aq/\True)) (∃(f:Nat),(ae f i.l).sum=aa.wrap ((ae d i.l).sum+e)/\jK f d b c))) (ez (yV i.l i.q=decide (i.q<=(ae d i.l).sum)/\True))))
def vG (a:Ca):Prop:=a.l.length<=(1000000:Nat)/\(-9223372036854775808:Int)<=a.q/\a.q<=9223372036854775807
def wY (a:Nat) (b:Ca):=(ae a (fC b.l b.q))
def yXx (i:Ca):Prop:=
 ∃(a:Ca),iE a.l=iE i.l/\a.q=i.q/\(vG a)/\fp (du (!yV a.l a.q) (ez (iE (fJ i.l i.q)=[]/\True)) (∃(c:Nat),i.q-(wY c i).sum=i.q/\(↑c:Int)=0/\iE (wY c i)=[]/\∃(d:Nat->Prop),∃(e:Nat->Nat),d c/\∀(f:Nat),d f->du (decide ((↑f:Int)<(↑(iE i.l).length:Int))) ((0<=(↑f:Int)/\(↑f:Int)<(↑(iE i.l).length:Int))/\∃(g:Int),zF (iE i.l) (↑f:Int).toNat 0 1=ay [dI g]/\((iE (wY f i)).length+1)*(8:Nat)<=(140737488355328:Nat)/\∃(h:Nat),i.q-(wY h i).sum=aa.wrap (i.q-(wY f i).sum-min g (i.q-(wY f i).sum))/\(↑h:Int)=aa.wrap ((↑f:Int)+1)/\iE (wY h i)=iE (wY f i)++[[dI (min g (i.q-(wY f i).sum))]]/\d h/\e h<e f/\True) (ez (iE (fJ i.l i.q)=iE (wY f i)/\True))))
def Xi {x:Int} (h0:0<=x) (h1:x<4294967296):Cc .u64 x 4294967295=x:=by
 have e:Cc .u64 x 4294967295=ab.wrap ((BitVec.ofInt 64 x &&& BitVec.ofInt 64 4294967295).toNat:Int):=rfl;obtain⟨n,rfl⟩:=Int.eq_ofNat_of_zero_le h0;have hn:n<4294967296:=by omega
 rw[e,BitVec.toNat_and,BitVec.ofInt_natCast,BitVec.toNat_ofNat,show(BitVec.ofInt 64 4294967295).toNat=2 ^ 32-1 by decide,Nat.and_two_pow_sub_one_eq_mod];rw[show n % 2 ^ 64 % 2 ^ 32=n by omega,Cg (by omega)]
def TP {x:Int} (h0:0<=x) (h1:x<4294967296):nA .u64 x 32=0:=by
 have:=OC .u64 x 32 Z8;rw[show((32:Nat):Int)=32 by rfl]at this;rw[this];omega
def yEk {a b m n:Int} (ha:0<=a/\a<=m) (hb:0<=b/\b<=n):0<=a*b/\a*b<=m*n:=
 ⟨Nf ha.1 hb.1,Int.mul_le_mul ha.2 hb.2 hb.1 oM⟩
def y2g (i:M2) (h:F4.du i):yKn i:=by
 obtain⟨h1,h2,h3,h4⟩:0<=i.a/\i.a<=2000000000/\0<=i.b/\i.b<=2000000000:=h;have hm:=yEk ⟨h1,h2⟩ ⟨h3,h4⟩;have hs:nA ab (i.a*i.b) 32=(i.a*i.b) / 4294967296:=by
  have:=OC .u64 (i.a*i.b) 32 Z8;rw[show((32:Nat):Int)=32 by rfl]at this;exact this
 unfold yKn ez Z4;refine⟨Z8,Z8,Z8,Z8,Z8,(),?_,?_,trivial⟩
 ·rw[Xi h1 (by omega),Xi h3 (by omega),TP h1 (by omega),TP h3 (by omega),Cg (x:=i.a*i.b) (by omega),hs];simp only[Int.zero_mul,Int.mul_zero,bg,bo];rw[Cg (x:=0) (by omega)];simp only[bg,bo];rw[Cg (x:=i.a*i.b / 4294967296) (by omega),TP (x:=i.a*i.b / 4294967296) (by omega) (by omega),Xi (x:=i.a*i.b / 4294967296) (by omega) (by omega),Cg (x:=i.a*i.b / 4294967296) (by omega),TP (x:=i.a*i.b / 4294967296) (by omega) (by omega)];rfl
 ·rw[Cg (by omega)]
def yKv:F4.ok Tryz.prog 265:=ix mixed fx 0 (λ_=>[]) (λ_=>[]) [] Tryz.func265 y2g
def y1j (i:M2) (h:Gj.du i):yKk i:=by
 obtain⟨h1,h2,h3,h4⟩:0<=i.a/\i.a<=4000000000000000000/\1<=i.b/\i.b<=2000000000:=h;unfold yKk ez;have hd:0<=i.a / i.b/\i.a / i.b<=i.a:=⟨Int.ediv_nonneg h1 oM,Int.ediv_le_self _ h1⟩
 refine Cv.du.mk (λc=>absurd (eq_of_beq c) oM) (λ_=>zI (λc=>by omega) (λ_=>⟨rfl,oM,rfl,oM,(),?_,?_,trivial⟩))
 ·rw[Int.tdiv_eq_ediv_of_nonneg h1,Cg (by omega)]
 ·rw[Int.tmod_eq_emod_of_nonneg h1]
def yLn:Gj.ok Tryz.prog 266:=ix mixed fx 0 (λ_=>[]) (λ_=>[]) [] Tryz.func266 y1j
def yWi (i:Ls) (h:DC.du i):yCa i:=by
 obtain⟨h1,h2,h3,h4,h5,h6⟩:0<=i.a/\i.a<=2000000000/\0<=i.b/\i.b<=2000000000/\1<=i.c/\i.c<=2000000000:=h;have hm:=yEk ⟨h1,h2⟩ ⟨h3,h4⟩;have hd:0<=i.a*i.b / i.c/\i.a*i.b / i.c<=i.a*i.b:=⟨Int.ediv_nonneg hm.1 oM,Int.ediv_le_self _ hm.1⟩
 unfold yCa fp ez;rw[Cg (x:=i.a) (by omega),Cg (x:=i.b) (by omega),Cg (x:=i.c) (by omega)];refine zI (λc=>by omega) (λ_=>zI (λc=>by omega) (λ_=>zI (λc=>by omega) (λ_=>⟨⟨i.a,i.b⟩,rfl,rfl,⟨h1,h2,h3,h4⟩,λ_ _=>zI (λc=>by omega) (λ_=>⟨⟨i.a*i.b,i.c⟩,rfl,rfl,rfl,⟨hm.1,Z9,h5,h6⟩,λ_ _=>zI (λc=>by dsimp only at c;omega) (λ_=>⟨(),?_,rfl,trivial⟩)⟩)⟩)));rw[iD (by dsimp only;omega)]
def zVm:DC.ok Tryz.prog 261:=ix mixed (dz yKv (dz yLn fx)) 0 (λ_=>[]) (λ_=>[]) [] Tryz.func261 yWi
def um {j:Nat} (h:j<=1000000):((j+1:Nat):Int)=aa.wrap ((j:Int)+1):=by rw[iD (by omega)];rfl
def wM {l:List Int} {j:Nat} {x:Int} (h:l[j]? =ay x):(l.take (j+1)).sum=(l.take j).sum+x:=by
 rw[tv,h];simp
def wK {l:List Int} (h:∀x∈l,0<=x/\x<=1000000):∀j:Nat,0<=(l.take j).sum/\(l.take j).sum<=1000000*j
 |0=>by simp
 |j+1=>by
  have ih:=wK h j;cases hx:l[j]? with
  |none=>
   have:l.take (j+1)=l.take j:=by
    rw[tv,hx];simp
   rw[this];omega
  |some x=>
   have:=h x (mc hx);rw[wM hx];omega
def y9q (l:List Int) (h:J5.du l):yXd l:=by
 obtain⟨hl,hb⟩:l.length<=1000/\∀x∈l,0<=x/\x<=1000000:=h;unfold yXd fp ez jK Q0 dI;simp only[yW];refine⟨0,by(first|exact rfl|exact trivial),by(first|exact rfl|exact trivial),by(first|exact rfl|exact trivial),λj=>j<=l.length,λj=>l.length-j,oQ _,λj hj=>zI (λc=> ?_) (λc=> ?_)⟩
 ·have oF:j<l.length:=by omega
  obtain⟨x,hx⟩:=z6 (l:=l) (i:=j) oF;have bx:=hb x (mc hx);have bs:=wK hb j;refine⟨⟨oM,oM⟩,x,rz hx,⟨(l.take j).sum,x,0⟩,rfl,by rw[Cg (by omega)],rfl,⟨bs.1,bx.1,Z9,Z9⟩,λ_ _=>⟨Z8,j+1,?_,?_,um oM,oF,Z9,trivial⟩⟩
  ·rw[wM hx];dsimp only;omega
  ·have e:nA aa x 63=x / 9223372036854775808:=by
    have:=OC .i64 x 63 Z8;rw[show((63:Nat):Int)=63 by rfl]at this;exact this
   dsimp only;rw[e,show x / 9223372036854775808=0 by omega,show((l.take j).sum+x+0) / 18446744073709551616=0 by omega];rfl
 ·have oF:j=l.length:=by omega
  subst oF;have bs:=wK hb l.length;rw[CV]at bs;have e:nA aa l.sum 63=l.sum / 9223372036854775808:=by
   have:=OC .i64 l.sum 63 Z8;rw[show((63:Nat):Int)=63 by rfl]at this;exact this
  rw[CV,iD (x:=l.sum) (by omega),e,show l.sum / 9223372036854775808=0 by omega];exact⟨Z8,Cv.du.mk (λc=>absurd c Z8) (λ_=>⟨(),by(first|exact rfl|exact trivial),by(first|exact rfl|exact trivial),trivial⟩)⟩
def yTm:J5.ok Tryz.prog 268:=ix mixed (dz yFr fx) 0 (λ_=>[]) (λl=>y9x l) [] Tryz.func268 y9q
def y3s (i:Ca) (h:FZ.du i):yPp i:=by
 obtain⟨hl,hq⟩:i.l.length<=1000000/\ie i.q:=h;unfold yPp ez jK Q0 dI;simp only[yW];refine zI (λc=>⟨(),?_,trivial⟩) (λc1=>zI (λc=>⟨(),?_,trivial⟩) (λc2=> ?_))
 ·rw[yV,jq (by omega:¬i.l.length<=250)];rfl
 ·rw[yV,jq (by omega:¬0<=i.q)];simp
 refine⟨0,by(first|exact rfl|exact trivial),by(first|exact rfl|exact trivial),λj=>j<=i.l.length/\∀k<j,∀x,i.l[k]? =ay x->1<=x/\x<=1000000,λj=>i.l.length-j,⟨oQ _,λk hk=>absurd hk (Nat.not_lt_zero k)⟩,λj hj=>zI (λc=> ?_) (λc=> ?_)⟩
 ·obtain⟨hj0,WQ⟩:=hj;have oF:j<i.l.length:=by omega
  obtain⟨x,hx⟩:=z6 (l:=i.l) (i:=j) oF;have bad (hn:¬(1<=x/\x<=1000000)):yV i.l i.q=aq:=by
   have:(i.l.all λn=>decide (1<=n) && decide (n<=1000000))=aq:=by
    rw[List.all_eq_false];exact⟨x,mc hx,by simpa using hn⟩
   rw[yV,this];simp
  have bs:0<=(i.l.take j).sum/\(i.l.take j).sum<=1000000*j:=by
   have:=wK (l:=i.l.take j) (λy hy=>by
    obtain⟨k,hk⟩:=AB.1 hy;have WO:k<j:=by
     have:=(ju.1 hk).1;rw[oK]at this;omega
    rw[List.getElem?_take_of_lt WO]at hk;have:=WQ k WO y hk;omega) j
   rwa [List.take_take,Nat.min_self]at this
  refine⟨⟨oM,oM⟩,x,rz hx,zI (λd=>⟨(),bad oM,trivial⟩) (λd=>zI (λe=>⟨(),bad oM,trivial⟩) (λe=>⟨j+1,?_,um oM,⟨oF,λk hk y hy=> ?_⟩,Z9,trivial⟩))⟩
  ·rw[wM hx,iD (by omega)]
  ·by_cases WO:k=j
   ·rw[WO,hx]at hy;cases hy;omega
   ·exact WQ k oM y hy
 ·obtain⟨hj0,WQ⟩:=hj;have oF:j=i.l.length:=by omega
  subst oF;have:(i.l.all λn=>decide (1<=n) && decide (n<=1000000))=ap:=by
   rw[DO];intro y hy;obtain⟨k,hk⟩:=AB.1 hy;have:=WQ k ((ju.1 hk).1) y hk;simpa using this
  refine⟨(),?_,trivial⟩;rw[yV,this,kx (by omega:i.l.length<=250),kx (by omega:0<=i.q),CV];rfl
def Ul:FZ.ok Tryz.prog 259:=ix mixed fx 0 (λ_=>[]) (λi=>y0v i) [] Tryz.func259 y3s
def j7 {l:List Int} {q:Int} (h:yV l q=ap):l.length<=250/\0<=q/\(∀x∈l,1<=x/\x<=1000000)/\q<=l.sum:=by
 simp only[yV,ld,sm,DO]at h;exact⟨h.1.1.1,h.1.1.2,h.1.2,h.2⟩
def TR {l:List Int} {q:Int} (h:yV l q=ap):q<=250000000:=by
 obtain⟨h1,h2,h3,h4⟩:=j7 h;have:=wK (l:=l) (λx hx=>by have:=h3 x hx;omega) l.length;rw[CV]at this;omega
def l8:∀(l:List Int) (q:Int),(fC l q).length=l.length
 |[],_=>rfl
 |n::l,q=>by rw[fC,iY,iY,l8 l]
def Yx:∀(l:List Int) (q:Int) (j:Nat) (n:Int),l[j]? =ay n->(fC l q)[j]? =ay (min n (q-((fC l q).take j).sum))
 |[],_,_,_,h=>by simp at h
 |m::l,q,0,n,h=>by simp at h;subst h;simp[fC]
 |m::l,q,j+1,n,h=>by
  rw[A5]at h;rw[fC,A5,Yx l _ j n h,xk,oR];congr 2;omega
def YI:∀(l:List Int) (q:Int) (j:Nat),0<=q->(∀x∈l,0<=x)->0<=q-((fC l q).take j).sum/\q-((fC l q).take j).sum<=q
 |[],q,j,h,_=>by simp[fC,h]
 |m::l,q,0,h,_=>by simp[h]
 |m::l,q,j+1,h,hb=>by
  have hm:=hb m jg;have:=YI l (q-min m q) j oM (λx hx=>hb x (jx _ hx));rw[fC,xk,oR];omega
def y8k (i:Ca) (h:Kh.du i):yXx i:=by
 obtain⟨hl,hq⟩:i.l.length<=1000000/\ie i.q:=h;unfold yXx fp ez wY vG dI;refine⟨i,rfl,rfl,⟨hl,hq⟩,λ_ _=>Cv.du.mk (λc=> ?_) (λc=> ?_)⟩
 ·have c:yV i.l i.q=aq:=by simpa using c
  refine⟨(),?_,trivial⟩;rw[fJ,dx (by rw[c];decide)];rfl
 have c:yV i.l i.q=ap:=by simpa using c
 obtain⟨h1,h2,h3,h4⟩:=j7 c;have tw:=TR c;have h3':∀x∈i.l,0<=x:=λx hx=>by have:=h3 x hx;omega
 simp only[yW];refine⟨0,by simp,rfl,rfl,λj=>j<=i.l.length,λj=>i.l.length-j,oQ _,λj hj=>zI (λd=> ?_) (λd=> ?_)⟩
 ·have oF:j<i.l.length:=by omega
  obtain⟨x,hx⟩:=z6 (l:=i.l) (i:=j) oF;have bx:=h3 x (mc hx);have g:=Yx i.l i.q j x hx;have r:=YI i.l i.q j h2 h3';refine⟨⟨oM,oM⟩,x,rz hx,by rw[oK];omega,j+1,?_,um oM,?_,oF,Z9,trivial⟩
  ·rw[wM g,iD (by omega)];omega
  ·rw[tv,g];simp[iE]
 ·have oF:j=i.l.length:=by omega
  subst oF;refine⟨(),?_,trivial⟩;rw[fJ,fk c,oV (by rw[l8];omega)]
def yEo:Kh.ok Tryz.prog 248:=ix mixed (dz Ul fx) 0 (λ_=>[]) (λi=>y8r i) [] Tryz.func248 y8k
structure D5 where
 slot:Int
 id:Int
 dq:Int
 top:Bool
 deriving DecidableEq
def y7s:D5:=⟨0,0,0,aq⟩
def Ej (e:D5):List D:=[.v (.int .i64 e.slot),.v (.int .i64 e.id),.v (.int .i64 e.dq),.v (.bool e.top)]
@[reducible] def xBf (e:D5):V:= .agg [zB e.slot,zB e.id,zB e.dq,y4 e.top]
def Slot.qh (s:Slot):D5:=⟨s.n,s.id,s.dq,s.top⟩
def dw.fg (a:dw) (k:Nat):Slot:=a.dv.getD k iK
def dw.og (a:dw) (n:Int):D5×Bool:=if a.iB n=ap then((a.fg n.toNat).qh,ap)else(y7s,aq)
def Kq:gx:=gh vm (λi=>[.nm 0 0,zB i.n]) (λi=>[wL i.a]) (λi=>i.a.dv.length<=1000000) (λi=> .jm [xBf (i.a.og i.n).1,y4 (i.a.og i.n).2]) (λi=>[wL i.a])
def O8 (sl:List Slot):Int->List Nat->Prop
 |at_,[]=>at_= -1
 |at_,k::l=>at_=k/\k<sl.length/\O8 sl (sl.getD k iK).back l
structure Lz where
 a:dw
 n:Int
 l:List Nat
def lY (l:List Nat) (j:Nat):Int:=match l[j]? with
 |some k=>k
 |none=> -1
def dw.gn (a:dw) (l:List Nat):List D5:=l.map λk=>(a.fg k).qh
structure dw.qp (a:dw) (n:Int) (l:List Nat):Prop where
 len:l.length<=1000000
 ch:if 0<=n/\n<a.dy.length then O8 a.dv (a.dy.getD n.toNat nJ).first l else l=[]
def Gx:gx:=gh Lz (λi=>[.nm 0 0,zB i.n]) (λi=>[wL i.a]) (λi=>i.a.qp i.n i.l) (λ_=> .own 1) (λi=>[wL i.a,.own 312 4 ((i.a.gn i.l).map Ej)])
def y0o (i:Lz):List ib:=[{ι:=Nat,dv:=λj=>[(5,.own 0),(6,zB (lY i.l j))],rows:=λj=>[.own 312 4 ((i.a.gn (i.l.take j)).map Ej)]}]
structure B7 where
 a:dw
 n:Int
 dq:Int
def dw.iP (a:dw) (k:Nat):dw:=
 let s:=a.fg k
 let q:=a.dy.getD s.queue.toNat nJ
 let AD:=if s.ahead= -1 then a.dv else a.dv.modify s.ahead.toNat λx=>{x with back:=s.back}
 let C0:=if s.back= -1 then AD else AD.modify s.back.toNat λx=>{x with ahead:=s.ahead}
 ⟨C0.set k iK,a.dy.set s.queue.toNat ⟨if s.ahead= -1 then s.back else q.first,if s.back= -1 then s.ahead else q.last,q.total,aa.wrap (q.count-1)⟩,aa.wrap (a.free+1)⟩
def dw.less (a:dw) (k:Nat) (dq:Int):dw:=
 {a with dv:=a.dv.modify k λs=>{s with dq:=s.dq-dq},dy:=a.dy.modify (a.fg k).queue.toNat λq=>{q with total:=aa.wrap (q.total-dq)}}
def dw.gz (a:dw) (n dq:Int):dw×Int:=
 if a.iB n=aq then(a,26)else if dq<1\/(a.fg n.toNat).dq<dq then(a,24)
 else if(a.fg n.toNat).dq=dq then((a.less n.toNat dq).iP n.toNat,0)else(a.less n.toNat dq,0)
def dw.D7 (a:dw):Prop:=a.dv.length<=1000000/\∀(k:Nat) (s:Slot),a.dv[k]? =ay s->s.used=ap->(0<=s.queue/\s.queue<a.dy.length)/\s.dq<=1000000/\(s.ahead= -1\/(0<=s.ahead/\s.ahead<a.dv.length/\s.ahead≠k))/\(s.back= -1\/(0<=s.back/\s.back<a.dv.length/\s.back≠k))
def Gs:gx:=gh B7 (λi=>[.nm 0 0,zB i.n,zB i.dq]) (λi=>[wL i.a]) (λi=>i.a.D7) (λi=>zB (i.a.gz i.n i.dq).2) (λi=>[wL (i.a.gz i.n i.dq).1])
def Vc (a:vm):Prop:=ez ((a.a.og a.n).fst.slot=0/\(a.a.og a.n).fst.id=0/\(a.a.og a.n).fst.dq=0/\(a.a.og a.n).fst.top=aq/\(a.a.og a.n).snd=aq/\wF a)
def yYx (i:vm):Prop:=
 du (decide (i.n<0)) (Vc i) (du (decide (i.n>=(↑(ac zT i.a.dv).length:Int))) (Vc i) ((0<=i.n/\i.n<(↑(ac zT i.a.dv).length:Int))/\∃(a:Bool),zF (ac zT i.a.dv) i.n.toNat 0 1=ay [D.v (.bool a)]/\du (!a) (Vc i) ((0<=i.n/\i.n<(↑(ac zT i.a.dv).length:Int))/\∃(b:Int),∃(c:Int),∃(d:Int),∃(e:Bool),zF (ac zT i.a.dv) i.n.toNat 1 4=ay [dI b,dI c,dI d,D.v (.bool e)]/\ez ((i.a.og i.n).fst.slot=b/\(i.a.og i.n).fst.id=c/\(i.a.og i.n).fst.dq=d/\(i.a.og i.n).fst.top=e/\(i.a.og i.n).snd=ap/\wF i))))
def zFq (a:Lz):Prop:=ez (QP a.a (ac Ej (a.a.gn a.l)=[]/\True))
def yPe (i:Lz):Prop:=
 du (decide (i.n>=0)) (du (!decide (i.n<(↑(ac zQ i.a.dy).length:Int))) (zFq i) ((0<=i.n/\i.n<(↑(ac zQ i.a.dy).length:Int))/\∃(a:Int),zF (ac zQ i.a.dy) i.n.toNat 0 1=ay [dI a]/\∃(b:Nat),lY i.l b=a/\ac Ej (i.a.gn (ae b i.l))=[]/\∃(c:Nat->Prop),∃(d:Nat->Nat),c b/\∀(e:Nat),c e->du (lY i.l e !=(-1)) ((0<=lY i.l e/\lY i.l e<(↑(ac zT i.a.dv).length:Int))/\∃(f:Int),∃(g:Int),∃(h:Int),∃(j:Bool),zF (ac zT i.a.dv) (lY i.l e).toNat 1 4=ay [dI f,dI g,dI h,D.v (.bool j)]/\((ac Ej (i.a.gn (ae e i.l))).length+1)*(32:Nat)<=(140737488355328:Nat)/\(0<=lY i.l e/\lY i.l e<(↑(ac zT i.a.dv).length:Int))/\∃(k:Int),zF (ac zT i.a.dv) (lY i.l e).toNat 7 1=ay [dI k]/\∃(l:Nat),lY i.l l=k/\ac Ej (i.a.gn (ae l i.l))=ac Ej (i.a.gn (ae e i.l))++[[dI f,dI g,dI h,D.v (.bool j)]]/\c l/\d l<d e/\dm (au [V.own 1,V.own 2,V.d (dI i.a.free)] (317:TypeId))/\dm (av 314 8 (ac zT i.a.dv))/\dm (av 320 4 (ac zQ i.a.dy))) (ez (QP i.a (ac Ej (i.a.gn i.l)=ac Ej (i.a.gn (ae e i.l))/\True))))) (zFq i)
def zEp (a:B7):Prop:=(a.a.gz a.n a.dq).fst.free=a.a.free/\ac zT (a.a.gz a.n a.dq).fst.dv=ac zT a.a.dv/\ac zQ (a.a.gz a.n a.dq).fst.dy=ac zQ a.a.dy/\True
def tT (a:B7):Prop:=ez ((a.a.gz a.n a.dq).snd=26/\zEp a)
def Z2 (a:B7):Prop:=ez ((a.a.gz a.n a.dq).snd=24/\zEp a)
def vR (a:B7) (b:Int) (c:Int):=(zX (ac zQ a.a.dy) b.toNat 2 [dI (aa.wrap (c-a.dq))])
def bD (a:B7) (b:Int) (c:Int) (d:Int) (e:Int):=(zX (vR a b c) d.toNat 0 [dI e])
def lK (a:B7) (b:Int) (c:Int) (d:Int) (e:Int) (f:Int):=(zX (bD a b c d e) d.toNat 1 [dI f])
def xC (a:B7) (b:Int):=(zX (ac zT a.a.dv) a.n.toNat 3 [dI (aa.wrap (b-a.dq))])
def zEm (a:Int) (b:B7) (c:Int):Prop:=0<=a/\a<(↑(xC b c).length:Int)
def jT (a:B7) (b:Int) (c:Int) (d:Int):=(zX (xC a b) c.toNat 7 [dI d])
def lE (a:B7) (b:Int) (c:Int) (d:Int) (e:Int):=(zX (vR a b c) d.toNat 1 [dI e])
@[reducible] def Ry (a:B7)(R:Prop):Prop:=(a.a.gz a.n a.dq).snd=0/\(a.a.gz a.n a.dq).fst.free=aa.wrap (a.a.free+1)/\R
def yPs (i:B7):Prop:=
 du (decide (i.n<0)) (tT i) (du (decide (i.n>=(↑(ac zT i.a.dv).length:Int))) (tT i) ((0<=i.n/\i.n<(↑(ac zT i.a.dv).length:Int))/\∃(a:Bool),zF (ac zT i.a.dv) i.n.toNat 0 1=ay [D.v (.bool a)]/\du (!a) (tT i) ((0<=i.n/\i.n<(↑(ac zT i.a.dv).length:Int))/\du (decide (i.dq<1)) (Z2 i) (∃(b:Int),zF (ac zT i.a.dv) i.n.toNat 3 1=ay [dI b]/\du (decide (i.dq>b)) (Z2 i) (∃(c:Int),zF (ac zT i.a.dv) i.n.toNat 3 1=ay [dI c]/\i.n.toNat<(ac zT i.a.dv).length/\∃(d:Int),zF (xC i c) i.n.toNat 5 1=ay [dI d]/\(0<=d/\d<(↑(ac zQ i.a.dy).length:Int))/\∃(e:Int),zF (ac zQ i.a.dy) d.toNat 2 1=ay [dI e]/\(0<=d/\d<(↑(ac zQ i.a.dy).length:Int))/\d.toNat<(ac zQ i.a.dy).length/\∃(f:Int),zF (xC i c) i.n.toNat 3 1=ay [dI f]/\du (f==0) (∃(g:Int),zF (xC i c) i.n.toNat 5 1=ay [dI g]/\(0<=g/\g<(↑(vR i d e).length:Int))/\∃(h:Int),zF (xC i c) i.n.toNat 6 1=ay [dI h]/\du (h==(-1)) (∃(j:Int),zF (xC i c) i.n.toNat 7 1=ay [dI j]/\g.toNat<(vR i d e).length/\∃(k:Int),zF (xC i c) i.n.toNat 7 1=ay [dI k]/\du (k==(-1)) (∃(l:Int),zF (xC i c) i.n.toNat 6 1=ay [dI l]/\g.toNat<(bD i d e g j).length/\∃(m:Int),zF (lK i d e g j l) g.toNat 3 1=ay [dI m]/\g.toNat<(lK i d e g j l).length/\i.n.toNat<(xC i c).length/\ez (Ry i (ac zT (i.a.gz i.n i.dq).fst.dv=zX (xC i c) i.n.toNat 0 [D.v (.bool aq),dI 0,dI 0,dI 0,D.v (.bool aq),dI 0,dI 0,dI 0]/\ac zQ (i.a.gz i.n i.dq).fst.dy=zX (lK i d e g j l) g.toNat 3 [dI (aa.wrap (m-1))]/\True))) (∃(l:Int),zF (xC i c) i.n.toNat 7 1=ay [dI l]/\∃(m:Int),zF (xC i c) i.n.toNat 6 1=ay [dI m]/\(zEm l i c)/\l.toNat<(xC i c).length/\∃(n:Int),zF (bD i d e g j) g.toNat 3 1=ay [dI n]/\g.toNat<(bD i d e g j).length/\i.n.toNat<(zX (xC i c) l.toNat 6 [dI m]).length/\ez (Ry i (ac zT (i.a.gz i.n i.dq).fst.dv=zX (zX (xC i c) l.toNat 6 [dI m]) i.n.toNat 0 [D.v (.bool aq),dI 0,dI 0,dI 0,D.v (.bool aq),dI 0,dI 0,dI 0]/\ac zQ (i.a.gz i.n i.dq).fst.dy=zX (bD i d e g j) g.toNat 3 [dI (aa.wrap (n-1))]/\True)))) (∃(j:Int),zF (xC i c) i.n.toNat 6 1=ay [dI j]/\∃(k:Int),zF (xC i c) i.n.toNat 7 1=ay [dI k]/\(zEm j i c)/\j.toNat<(xC i c).length/\∃(l:Int),zF (jT i c j k) i.n.toNat 7 1=ay [dI l]/\du (l==(-1)) (∃(m:Int),zF (jT i c j k) i.n.toNat 6 1=ay [dI m]/\g.toNat<(vR i d e).length/\∃(n:Int),zF (lE i d e g m) g.toNat 3 1=ay [dI n]/\g.toNat<(lE i d e g m).length/\i.n.toNat<(jT i c j k).length/\ez (Ry i (ac zT (i.a.gz i.n i.dq).fst.dv=zX (jT i c j k) i.n.toNat 0 [D.v (.bool aq),dI 0,dI 0,dI 0,D.v (.bool aq),dI 0,dI 0,dI 0]/\ac zQ (i.a.gz i.n i.dq).fst.dy=zX (lE i d e g m) g.toNat 3 [dI (aa.wrap (n-1))]/\True))) (∃(m:Int),zF (jT i c j k) i.n.toNat 7 1=ay [dI m]/\∃(n:Int),zF (jT i c j k) i.n.toNat 6 1=ay [dI n]/\(0<=m/\m<(↑(jT i c j k).length:Int))/\m.toNat<(jT i c j k).length/\∃(p:Int),zF (vR i d e) g.toNat 3 1=ay [dI p]/\g.toNat<(vR i d e).length/\i.n.toNat<(zX (jT i c j k) m.toNat 6 [dI n]).length/\ez (Ry i (ac zT (i.a.gz i.n i.dq).fst.dv=zX (zX (jT i c j k) m.toNat 6 [dI n]) i.n.toNat 0 [D.v (.bool aq),dI 0,dI 0,dI 0,D.v (.bool aq),dI 0,dI 0,dI 0]/\ac zQ (i.a.gz i.n i.dq).fst.dy=zX (vR i d e) g.toNat 3 [dI (aa.wrap (p-1))]/\True))))) (ez ((i.a.gz i.n i.dq).snd=0/\(i.a.gz i.n i.dq).fst.free=i.a.free/\ac zT (i.a.gz i.n i.dq).fst.dv=zX (ac zT i.a.dv) i.n.toNat 3 [dI (aa.wrap (c-i.dq))]/\ac zQ (i.a.gz i.n i.dq).fst.dy=zX (ac zQ i.a.dy) d.toNat 2 [dI (aa.wrap (e-i.dq))]/\True)))))))
def TO {a:dw} {n:Int} (h:n<0\/(a.dv.length:Int)<=n):a.iB n=aq:=by
 rcases h with h|h
 ·rw[dw.iB,jq (by omega),vd]
 ·rw[dw.iB,jq (show ¬n<(a.dv.length:Int)by omega),vd,Hy]
def yBz {a:dw} {n:Int} {s:Slot} (h0:0<=n) (hs:a.dv[n.toNat]? =ay s):a.iB n=s.used:=by
 have hl:=(ju.1 hs).1;rw[dw.iB,kx h0,kx (show n<(a.dv.length:Int)by omega),zJ hs];simp
def xY {a:dw} {k:Nat} {s:Slot} (hs:a.dv[k]? =ay s):a.fg k=s:=zJ hs
def y6o (i:vm) (h:Kq.du i):yYx i:=by
 have h:i.a.dv.length<=1000000:=h;unfold yYx ez Vc ez wF QP dI;simp only[iz];have no (e:i.a.iB i.n=aq):i.a.og i.n=(y7s,aq):=by rw[dw.og,dx (by rw[e];decide)]
 refine zI (λc=> ?_) (λc=>zI (λd=> ?_) (λd=> ?_))
 ·rw[no (TO (.inl c))];exact kp
 ·rw[no (TO (.inr (by omega)))];exact kp
 ·obtain⟨s,hs⟩:=z6 (l:=i.a.dv) (i:=i.n.toNat) oM;have eu:=yBz (a:=i.a) (n:=i.n) oM hs;refine⟨⟨oM,oM⟩,s.used,kf hs (by simp[zT]) rfl,Cv.du.mk (λu=> ?_) (λu=> ?_)⟩
  ·rw[no (by rw[eu];simpa using u)];exact kp
  ·have e:i.a.iB i.n=ap:=by rw[eu];simpa using u
   have et:i.a.og i.n=(s.qh,ap):=by rw[dw.og,fk e,xY hs]
   rw[et];refine⟨⟨oM,oM⟩,s.n,s.id,s.dq,s.top,kf hs (by simp[zT]) rfl,?_⟩
   exact kp
def yBw:Kq.ok Tryz.prog 221:=ix mixed fx 1 (λ_=>[]) (λ_=>[]) [0] Tryz.func221 y6o
def zWr:∀{sl:List Slot} {at_:Int} {l:List Nat},O8 sl at_ l->lY l 0=at_/\∀j k,l[j]? =ay k->k<sl.length/\lY l (j+1)=(sl.getD k iK).back
 |sl,at_,[],h=>⟨h.symm,λj k hk=>by simp at hk⟩
 |sl,at_,x::l,h=>by
  obtain⟨h1,h2,h3⟩:=h;have ih:=zWr h3;refine⟨h1.symm,λj k hk=> ?_⟩;cases j with
  |zero=>
   simp at hk;subst hk;exact⟨h2,by rw[<- ih.1];rfl⟩
  |succ j=>
   rw[A5]at hk;obtain⟨a,b⟩:=ih.2 j k hk;exact⟨a,by rw[<- b];rfl⟩
def y4p (i:Lz) (h:Gx.du i):yPe i:=by
 obtain⟨hl,h⟩:i.l.length<=1000000/\(if 0<=i.n/\i.n<i.a.dy.length then O8 i.a.dv (i.a.dy.getD i.n.toNat nJ).first i.l else i.l=[]):=⟨h.len,h.ch⟩
 unfold yPe QP ez zFq QP ez dI;simp only[iz];have out (e:¬(0<=i.n/\i.n<(i.a.dy.length:Int))):i.l=[]:=by rw[dx e]at h;exact h
 refine zI (λc=>Cv.du.mk (λd=> ?_) (λd=> ?_)) (λc=> ?_)
 ·have d:¬i.n<(i.a.dy.length:Int):=by simpa using d
  rw[out (by omega)];exact kp
 ·have d:i.n<(i.a.dy.length:Int):=by simpa using d
  rw[fk ⟨by omega,d⟩]at h;obtain⟨q,hq⟩:=z6 (l:=i.a.dy) (i:=i.n.toNat) oM;rw[zJ hq]at h;obtain⟨n0,nx⟩:=zWr h;refine⟨⟨oM,oM⟩,q.first,kf hq (by simp[zQ]) rfl,0,n0,rfl,λj=>j<=i.l.length,λj=>i.l.length-j,oQ _,λj hj=>Cv.du.mk (λe=> ?_) (λe=> ?_)⟩
  ·have e:lY i.l j≠-1:=by simpa using e
   obtain⟨k,hk⟩:∃k,i.l[j]? =ay k:=by
    cases hk:i.l[j]? with
    |none=>rw[lY,hk]at e;exact absurd rfl e
    |some k=>exact⟨k,rfl⟩
   have EE:=(ju.1 hk).1;obtain⟨rk,ED⟩:=nx j k hk;have en:lY i.l j=k:=by rw[lY,hk]
   obtain⟨s,hs⟩:=z6 (l:=i.a.dv) (i:=k) rk;rw[en,ml];refine⟨⟨oM,oM⟩,s.n,s.id,s.dq,s.top,kf hs (by simp[zT]) rfl,?_,⟨oM,oM⟩,s.back,kf hs (by simp[zT]) rfl,j+1,by rw[ED,zJ hs],?_,EE,Z9,ic⟩
   ·simp only[dw.gn,iz,oK];omega
   ·rw[tv,hk];simp only[dw.gn,Option.toList,jz,iT,CS,xY hs];rfl
  ·have e:lY i.l j= -1:=by simpa using e
   have oF:i.l.length<=j:=by
    apply Classical.byContradiction;intro hn;obtain⟨k,hk⟩:=z6 (l:=i.l) (i:=j) oM;rw[lY,hk]at e;simp only at e;omega
   rw[oV oF]
   exact kp
 ·rw[out (by omega)];exact kp
def yKs:Gx.ok Tryz.prog 258:=ix mixed fx 1 (λ_=>[]) (λi=>y0o i) [0] Tryz.func258 y4p
def z7t {α:Type} {l:List α} {i k:Nat} {x y:α} (h:i≠k) (hk:l[k]? =ay x):(l.set i y)[k]? =ay x:=by
 rw[List.getElem?_set_ne h];exact hk
def y0g (i:B7) (h:Gs.du i):yPs i:=by
 obtain⟨hl,pg⟩:i.a.D7:=h;unfold yPs Ry ez lE jT zEm xC lK bD vR Z2 ez tT ez zEp dI;simp only[iz];have no (e:i.a.iB i.n=aq):i.a.gz i.n i.dq=(i.a,26):=by rw[dw.gz,fk e]
 refine zI (λc=> ?_) (λc=>zI (λd=> ?_) (λd=> ?_))
 ·rw[no (TO (.inl c))];exact kp
 ·rw[no (TO (.inr (by omega)))];exact kp
 obtain⟨k,hk⟩:∃k,k=i.n.toNat:=⟨_,rfl⟩
 rw[<- hk];obtain⟨s,hs⟩:=z6 (l:=i.a.dv) (i:=k) oM;have iR:i.a.dv[i.n.toNat]? =ay s:=by rw[<- hk];exact hs
 have eu:=yBz (a:=i.a) (n:=i.n) oM iR;refine⟨⟨oM,oM⟩,s.used,kf hs (by simp[zT]) rfl,Cv.du.mk (λu=> ?_) (λu=> ?_)⟩
 ·rw[no (by rw[eu];simpa using u)];exact kp
 have u:s.used=ap:=by simpa using u
 have e:¬i.a.iB i.n=aq:=by rw[eu,u];decide
 obtain⟨⟨q0,q1⟩,sq,sa,sb⟩:=pg k s hs u;have esl:i.a.fg i.n.toNat=s:=xY iR;have bad (hq:i.dq<1\/s.dq<i.dq):i.a.gz i.n i.dq=(i.a,24):=by rw[dw.gz,dx e,esl,fk hq]
 refine⟨⟨oM,oM⟩,zI (λc1=>by rw[bad (.inl c1)];(repeat'(first|exact rfl|exact trivial|assumption|apply ar|refineλ(_:Unit) (_:True)=>?_|refine ao () ?_|omega|(dsimp only;omega)))) (λc1=>⟨s.dq,kf hs (by simp[zT]) rfl,zI (λc2=>by rw[bad (.inr (by omega))];(repeat'(first|exact rfl|exact trivial|assumption|apply ar|refineλ(_:Unit) (_:True)=>?_|refine ao () ?_|omega|(dsimp only;omega)))) (λc2=>⟨s.dq,kf hs (by simp[zT]) rfl,oM,?_⟩)⟩)⟩;obtain⟨q,hq⟩:=z6 (l:=i.a.dy) (i:=s.queue.toNat) oM;have vg:(i.a.dv.set k {s with dq:=s.dq-i.dq})[k]? =ay {s with dq:=s.dq-i.dq}:=gO hs;have u':(i.a.dy.set s.queue.toNat {q with total:=aa.wrap (q.total-i.dq)})[s.queue.toNat]? =ay {q with total:=aa.wrap (q.total-i.dq)}:=gO hq;have hle:i.a.less i.n.toNat i.dq=⟨i.a.dv.set k {s with dq:=s.dq-i.dq},i.a.dy.set s.queue.toNat {q with total:=aa.wrap (q.total-i.dq)},i.a.free⟩:=by
  rw[dw.less,esl,aA iR,aA hq,hk]
 have hL:(i.a.dv.set k {s with dq:=s.dq-i.dq}).length=i.a.dv.length:=rj;have hQ:(i.a.dy.set s.queue.toNat {q with total:=aa.wrap (q.total-i.dq)}).length=i.a.dy.length:=rj;have tk:i.a.gz i.n i.dq=if s.dq=i.dq then((i.a.less i.n.toNat i.dq).iP i.n.toNat,0)else(i.a.less i.n.toNat i.dq,0):=by rw[dw.gz,dx e,esl,dx (by omega)]
 rw[hle,<- hk]at tk;rw[iD (x:=s.dq-i.dq) (by omega),yK hs (y:={s with dq:=s.dq-i.dq}) rfl];refine⟨s.queue,kf vg (by simp[zT]) rfl,⟨q0,q1⟩,q.total,kf hq (by simp[zQ]) rfl,⟨q0,q1⟩,oM,s.dq-i.dq,kf vg (by simp[zT]) rfl,?_⟩;rw[yK hq (y:={q with total:=aa.wrap (q.total-i.dq)}) rfl];simp only[iz];generalize hL1:i.a.dv.set k {s with dq:=s.dq-i.dq}=L1 at*;generalize hQ1:i.a.dy.set s.queue.toNat {q with total:=aa.wrap (q.total-i.dq)}=Q1 at*;refine Cv.du.mk (λz=> ?_) (λz=> ?_)
 ·have z:s.dq=i.dq:=by have:s.dq-i.dq=0:=by simpa using z
                       omega
  rw[fk z]at tk;have aaY:(⟨L1,Q1,i.a.free⟩:dw).fg k={s with dq:=s.dq-i.dq}:=xY vg;have eq1:Q1.getD s.queue.toNat nJ={q with total:=aa.wrap (q.total-i.dq)}:=zJ u';rw[dw.iP,aaY]at tk;dsimp only at tk;rw[eq1]at tk;dsimp only at tk;rw[tk];refine⟨s.queue,kf vg (by simp[zT]) rfl,⟨q0,oM⟩,s.ahead,kf vg (by simp[zT]) rfl,Cv.du.mk (λea=> ?_) (λea=> ?_)⟩
  ·have ea:s.ahead= -1:=by simpa using ea
   refine⟨s.back,kf vg (by simp[zT]) rfl,oM,s.back,kf vg (by simp[zT]) rfl,?_⟩;rw[yK u' (y:=⟨s.back,q.last,aa.wrap (q.total-i.dq),q.count⟩) rfl];have tw:(Q1.set s.queue.toNat ⟨s.back,q.last,aa.wrap (q.total-i.dq),q.count⟩)[s.queue.toNat]? =ay ⟨s.back,q.last,aa.wrap (q.total-i.dq),q.count⟩:=gO u';simp only[iz,rj];refine Cv.du.mk (λeb=> ?_) (λeb=> ?_)
   ·have eb:s.back= -1:=by simpa using eb
    refine⟨s.ahead,kf vg (by simp[zT]) rfl,oM,q.count,?_,?_⟩
    ·rw[yK tw (y:=⟨s.back,s.ahead,aa.wrap (q.total-i.dq),q.count⟩) rfl];exact kf (gO tw) (by simp[zQ]) rfl
    rw[yK tw (y:=⟨s.back,s.ahead,aa.wrap (q.total-i.dq),q.count⟩) rfl,yK (gO tw) (y:=⟨s.back,s.ahead,aa.wrap (q.total-i.dq),aa.wrap (q.count-1)⟩) rfl,yK vg (y:=iK) rfl];simp only[iz,rj,Et,fk ea,fk eb];refine⟨oM,oM,(),by(first|exact rfl|exact trivial),by(first|exact rfl|exact trivial),by(first|exact rfl|exact trivial),by(first|exact rfl|exact trivial),trivial⟩
   ·have eb:s.back≠-1:=by simpa using eb
    obtain⟨b0,b1,b2⟩:0<=s.back/\s.back<i.a.dv.length/\s.back≠k:=by omega
    obtain⟨x,hx⟩:=z6 (l:=L1) (i:=s.back.toNat) oM;refine⟨s.back,kf vg (by simp[zT]) rfl,s.ahead,kf vg (by simp[zT]) rfl,⟨b0,oM⟩,oM,q.count,kf tw (by simp[zQ]) rfl,?_⟩;rw[yK hx (y:={x with ahead:=s.ahead}) rfl,yK tw (y:=⟨s.back,q.last,aa.wrap (q.total-i.dq),aa.wrap (q.count-1)⟩) rfl,yK (z7t (by omega) vg) (y:=iK) rfl];simp only[iz,rj,Et,fk ea,dx eb,aA hx];refine⟨oM,oM,(),by(first|exact rfl|exact trivial),by(first|exact rfl|exact trivial),by(first|exact rfl|exact trivial),by(first|exact rfl|exact trivial),trivial⟩
  ·have ea:s.ahead≠-1:=by simpa using ea
   obtain⟨a0,a1,a2⟩:0<=s.ahead/\s.ahead<i.a.dv.length/\s.ahead≠k:=by omega
   obtain⟨x,hx⟩:=z6 (l:=L1) (i:=s.ahead.toNat) oM;have yu:(L1.set s.ahead.toNat {x with back:=s.back})[k]? =ay {s with dq:=s.dq-i.dq}:=z7t oM vg;refine⟨s.ahead,kf vg (by simp[zT]) rfl,s.back,kf vg (by simp[zT]) rfl,⟨a0,oM⟩,oM,s.back,?_,?_⟩
   ·rw[yK hx (y:={x with back:=s.back}) rfl];exact kf yu (by simp[zT]) rfl
   rw[yK hx (y:={x with back:=s.back}) rfl];simp only[iz,rj];refine Cv.du.mk (λeb=> ?_) (λeb=> ?_)
   ·have eb:s.back= -1:=by simpa using eb
    refine⟨s.ahead,kf yu (by simp[zT]) rfl,oM,q.count,?_,?_⟩
    ·rw[yK u' (y:=⟨q.first,s.ahead,aa.wrap (q.total-i.dq),q.count⟩) rfl];exact kf (gO u') (by simp[zQ]) rfl
    rw[yK u' (y:=⟨q.first,s.ahead,aa.wrap (q.total-i.dq),q.count⟩) rfl,yK (gO u') (y:=⟨q.first,s.ahead,aa.wrap (q.total-i.dq),aa.wrap (q.count-1)⟩) rfl,yK yu (y:=iK) rfl];simp only[iz,rj,Et,dx ea,fk eb,aA hx];refine⟨oM,oM,(),by(first|exact rfl|exact trivial),by(first|exact rfl|exact trivial),by(first|exact rfl|exact trivial),by(first|exact rfl|exact trivial),trivial⟩
   ·have eb:s.back≠-1:=by simpa using eb
    obtain⟨b0,b1,b2⟩:0<=s.back/\s.back<i.a.dv.length/\s.back≠k:=by omega
    obtain⟨y,hy⟩:=z6 (l:=L1.set s.ahead.toNat {x with back:=s.back}) (i:=s.back.toNat) (by rw[rj];omega);refine⟨s.back,kf yu (by simp[zT]) rfl,s.ahead,kf yu (by simp[zT]) rfl,⟨b0,oM⟩,oM,q.count,kf u' (by simp[zQ]) rfl,?_⟩;rw[yK hy (y:={y with ahead:=s.ahead}) rfl,yK u' (y:=⟨q.first,q.last,aa.wrap (q.total-i.dq),aa.wrap (q.count-1)⟩) rfl,yK (z7t (by omega) yu) (y:=iK) rfl];simp only[iz,rj,Et,dx ea,dx eb,aA hx,aA hy];refine⟨oM,oM,(),by(first|exact rfl|exact trivial),by(first|exact rfl|exact trivial),by(first|exact rfl|exact trivial),by(first|exact rfl|exact trivial),trivial⟩
 ·have z:¬s.dq=i.dq:=by have:¬s.dq-i.dq=0:=by simpa using z
                        omega
  rw[dx z]at tk;rw[tk];exact⟨(),oT trivial⟩
def yPn:Gs.ok Tryz.prog 234:=ix mixed fx 1 (λ_=>[]) (λ_=>[]) [0] Tryz.func234 y0g
structure xb where
 l:List Int
 least:Int
 q:Int
def z8o (l:List Int) (least q:Int):List Int:=l.map λk=>if least<=k*q / l.sum then k*q / l.sum else 0
def wZ:List (Int×Int)->Int->List Int
 |[],_=>[]
 |(n,x)::r,q=>(x+min (n-x) q)::wZ r (q-min (n-x) q)
def xb.p0 (i:xb):List Int:=z8o i.l i.least i.q
def xb.p1 (i:xb):List Int:=wZ (i.l.zip i.p0) (i.q-i.p0.sum)
def jZ (i:xb):List Int:=if yV i.l i.q=ap/\1<=i.least then i.p1 else[]
def F1:gx:=gh xb (λi=>[iV i.l,zB i.least,zB i.q]) (λ_=>[]) (λi=>i.l.length<=1000000/\ie i.q/\ie i.least) (λ_=> .own 0) (λi=>[.own 2 1 (iE (jZ i))])
def y1i (i:xb):List ib:=[
 {ι:=Nat,dv:=λj=>[(9,.own 0),(36,zB j)],rows:=λj=>[.own 2 1 (iE (i.p0.take j++af (i.l.length-j) 0))]},
 {ι:=Nat,dv:=λj=>[(2,zB (i.q-(i.p0.take j).sum)),(58,zB j)],rows:=λ_=>[]},
 {ι:=Nat,dv:=λj=>[(9,.own 0),(2,zB (i.q-i.p0.sum+(i.p0.take j).sum-(i.p1.take j).sum)),(68,zB j)],rows:=λj=>[.own 2 1 (iE (i.p1.take j++i.p0.drop j))]}]
def bJ (a:Nat) (b:xb):=(iE (ae a b.p1++am a b.p0))
def eZ (a:Nat) (b:xb):Prop:=0<=(↑a:Int)/\(↑a:Int)<(↑(bJ a b).length:Int)
def f9 (a:Nat) (b:xb):=(ae a b.p0++af (b.l.length-a) 0)
def fZ (a:Nat) (b:xb):=(iE (f9 a b))
def nK (a:Nat) (b:xb):=(↑(fZ a b).length:Int)
def yNj (i:xb):Prop:=
 ∃(a:Ca),iE a.l=iE i.l/\a.q=i.q/\(vG a)/\fp (du (!yV a.l a.q) (ez (iE (jZ i)=[]/\True)) (du (decide (i.least<1)) (ez (iE (jZ i)=[]/\True)) (∃(c:List Int),iE c=iE i.l/\(c.length<=1000/\∀(d:Int),d∈c->0<=d/\d<=1000000)/\fp ((0<=(↑(iE i.l).length:Int)/\(↑(iE i.l).length:Int)<=(↑(iE i.l).length:Int)/\(↑(iE i.l).length:Int)<=9223372036854775807/\(↑(8:Nat):Int)*(↑(iE i.l).length:Int)<=2 ^ (48:Nat))/\∃(e:Nat),(↑e:Int)=0/\iE (f9 e i)=af (↑(iE i.l).length:Int).toNat [dI 0]/\∃(f:Nat->Prop),∃(g:Nat->Nat),f e/\∀(h:Nat),f h->du (decide ((↑h:Int)<(↑(iE i.l).length:Int))) ((0<=(↑h:Int)/\(↑h:Int)<(↑(iE i.l).length:Int))/\∃(j:Int),zF (iE i.l) (↑h:Int).toNat 0 1=ay [dI j]/\∃(k:Ls),k.a=j/\k.b=i.q/\k.c=c.sum/\(0<=k.a/\k.a<=(2000000000:Int)/\(0:Int)<=k.b/\k.b<=(2000000000:Int)/\(1:Int)<=k.c/\k.c<=2000000000)/\fp (du (decide (k.a*k.b / k.c>=i.least)) ((0<=(↑h:Int)/\(↑h:Int)<(nK h i))/\(↑h:Int).toNat<(fZ h i).length/\∃(m:Nat),(↑m:Int)=aa.wrap ((↑h:Int)+1)/\iE (f9 m i)=zX (fZ h i) (↑h:Int).toNat 0 [dI (k.a*k.b / k.c)]/\f m/\g m<g h/\True) (∃(m:Nat),(↑m:Int)=aa.wrap ((↑h:Int)+1)/\iE (f9 m i)=iE (f9 h i)/\f m/\g m<g h/\True))) (∃(j:Nat),i.q-(ae j i.p0).sum=i.q/\(↑j:Int)=0/\∃(k:Nat->Prop),∃(l:Nat->Nat),k j/\∀(m:Nat),k m->du (decide ((↑m:Int)<(nK h i))) ((0<=(↑m:Int)/\(↑m:Int)<(nK h i))/\∃(n:Int),zF (fZ h i) (↑m:Int).toNat 0 1=ay [dI n]/\∃(p:Nat),i.q-(ae p i.p0).sum=aa.wrap (i.q-(ae m i.p0).sum-n)/\Q0 p m k l (dm (av 2 1 (fZ h i)))) (∃(n:Nat),i.q-i.p0.sum+(ae n i.p0).sum-(ae n i.p1).sum=i.q-(ae m i.p0).sum/\(↑n:Int)=0/\iE (ae n i.p1++am n i.p0)=iE (f9 h i)/\∃(p:Nat->Prop),∃(q:Nat->Nat),p n/\∀(r:Nat),p r->du (decide ((↑r:Int)<(nK h i))) ((0<=(↑r:Int)/\(↑r:Int)<(↑(iE i.l).length:Int))/\∃(s:Int),zF (iE i.l) (↑r:Int).toNat 0 1=ay [dI s]/\(eZ r i)/\∃(t:Int),zF (bJ r i) (↑r:Int).toNat 0 1=ay [dI t]/\(eZ r i)/\∃(u:Int),zF (bJ r i) (↑r:Int).toNat 0 1=ay [dI u]/\(eZ r i)/\(↑r:Int).toNat<(bJ r i).length/\∃(v:Nat),i.q-i.p0.sum+(ae v i.p0).sum-(ae v i.p1).sum=aa.wrap (i.q-i.p0.sum+(ae r i.p0).sum-(ae r i.p1).sum-min (aa.wrap (s-t)) (i.q-i.p0.sum+(ae r i.p0).sum-(ae r i.p1).sum))/\(↑v:Int)=aa.wrap ((↑r:Int)+1)/\iE (ae v i.p1++am v i.p0)=zX (bJ r i) (↑r:Int).toNat 0 [dI (aa.wrap (u+min (aa.wrap (s-t)) (i.q-i.p0.sum+(ae r i.p0).sum-(ae r i.p1).sum)))]/\p v/\q v<q r/\True) (ez (iE (jZ i)=iE (ae r i.p1++am r i.p0)/\True))))))))
def zFe:∀(z:List (Int×Int)) (q:Int),(wZ z q).length=z.length
 |[],_=>rfl
 |(n,x)::z,q=>by rw[wZ,iY,iY,zFe z]
def zTm:∀(z:List (Int×Int)) (q:Int) (j:Nat) (n x:Int),z[j]? =ay (n,x)->(wZ z q)[j]? =ay (x+min (n-x) (q+((z.map (·.2)).take j).sum-((wZ z q).take j).sum))
 |[],_,_,_,_,h=>by simp at h
 |(m,y)::z,q,0,n,x,h=>by simp at h;obtain⟨rfl,rfl⟩:=h;simp[wZ]
 |(m,y)::z,q,j+1,n,x,h=>by
  rw[A5]at h;rw[wZ,A5,zTm z _ j n x h,xk,oR,iT,xk,oR];congr 3;dsimp only;omega
def zNn:∀(z:List (Int×Int)) (q:Int) (j:Nat),0<=q->(∀y∈z,y.2<=y.1)->0<=q+((z.map (·.2)).take j).sum-((wZ z q).take j).sum/\q+((z.map (·.2)).take j).sum-((wZ z q).take j).sum<=q
 |[],q,j,h,_=>by simp[wZ,h]
 |(m,y)::z,q,0,h,_=>by simp[h]
 |(m,y)::z,q,j+1,h,hb=>by
  have hm:=hb (m,y) jg;have:=zNn z (q-min (m-y) q) j (by dsimp only at hm;omega) (λx hx=>hb x (jx _ hx));rw[wZ,xk,oR,iT,xk,oR];dsimp only at hm ⊢;omega
def yMu {k q S:Int} (hk:0<=k) (hq:0<=q) (hS:1<=S) (hqS:q<=S):0<=k*q / S/\k*q / S<=k:=by
 refine⟨Int.ediv_nonneg (Nf hk hq) oM,?_⟩;have:k*q<=k*S:=Wd hqS hk;exact Int.ediv_le_of_le_mul oM this
def zXs {q S least:Int} (hq:0<=q) (hS:1<=S):∀(l:List Int),(∀x∈l,0<=x)->S*(l.map λk=>if least<=k*q / S then k*q / S else 0).sum<=q*l.sum
 |[],_=>by simp
 |k::l,h=>by
  have ih:=zXs (least:=least) hq hS l (λx hx=>h x (jx _ hx));have hk:=h k jg;rw[iT,oR,oR,bu,bu];have h1:S*(k*q / S)<=k*q:=by
   have:=Int.mul_ediv_add_emod (k*q) S;have:=Ni (k*q) (show S≠0 by omega);omega
  have h2:0<=k*q:=Nf hk hq;have h3:S*(if least<=k*q / S then k*q / S else 0)<=q*k:=by
   rw[E7 q k];split
   ·exact h1
   ·simpa using h2
  omega
def yRb {i:xb} {j:Nat} {n:Int} (h:i.l[j]? =ay n):i.p0[j]? =ay (if i.least<=n*i.q / i.l.sum then n*i.q / i.l.sum else 0):=by
 rw[xb.p0,z8o,uz,h];rfl
def z7l (i:xb):i.p0.length=i.l.length:=by simp[xb.p0,z8o]
def yDp {l:List Int} {j m:Nat} {n:Int} (hl:l.length=m) (h:l[j]? =ay n):(l.take j++af (m-j) 0).set j n=l.take (j+1)++af (m-(j+1)) 0:=by
 have hj:=(ju.1 h).1;rw[List.set_append_right _ _ (by rw[oK];omega),oK,show j-min j l.length=0 by omega,show m-j=(m-(j+1))+1 by omega,K0,KX,tv,h];simp
def yJx {l:List Int} {j m:Nat} (hl:l.length=m) (hj:j<m):(l.take j++af (m-j) 0)[j]? =ay 0:=by
 rw[CY (by rw[oK];omega),oK,show j-min j l.length=0 by omega,show m-j=(m-(j+1))+1 by omega,K0];rfl
def yNf {α:Type} {l:List α} {j:Nat} {x:α} (h:l[j]? =ay x):l.set j x=l:=by
 obtain⟨h1,h2⟩:=ju.1 h;rw[<- h2];exact List.set_getElem_self h1
def y1k {a b:List Int} {j:Nat} {x:Int} (ha:a.length=b.length) (h:b[j]? =ay x):(a.take j++b.drop j)[j]? =ay x:=by
 have hj:=(ju.1 h).1;rw[CY (by rw[oK];omega),oK,show j-min j a.length=0 by omega,Bg];exact h
def yTg {a b:List Int} {j:Nat} {y:Int} (ha:a.length=b.length) (h:a[j]? =ay y):(a.take j++b.drop j).set j y=a.take (j+1)++b.drop (j+1):=by
 have hj:=(ju.1 h).1;rw[List.set_append_right _ _ (by rw[oK];omega),oK,show j-min j a.length=0 by omega,DQ (by omega),KX,tv,h];simp
def Vu {l:List Int} {j:Nat} {x y:Int} (h:l[j]? =ay x):zX (iE l) j 0 [D.v (.int .i64 y)]=iE (l.set j y):=yK (f:=λn:Int=>[D.v (.int .i64 n)]) h rfl
def Ur {i:xb} (h:yV i.l i.q=ap) (jf:0<i.l.length):1<=i.l.sum/\i.l.sum<=250000000/\(∀(j:Nat) (n x:Int),i.l[j]? =ay n->i.p0[j]? =ay x->0<=x/\x<=n)/\i.p0.sum<=i.q:=by
 obtain⟨h1,h2,h3,h4⟩:=j7 h;have hb:=wK (l:=i.l) (λx hx=>by have:=h3 x hx;omega) i.l.length;rw[CV]at hb;have hS:1<=i.l.sum:=by
  obtain⟨x,hx⟩:=z6 (l:=i.l) (i:=0) jf;have:=h3 x (mc hx);cases hl:i.l with
  |nil=>rw[hl]at jf;exact absurd jf (Nat.lt_irrefl 0)
  |cons a r=>
   rw[hl]at hx;simp at hx;subst hx;have hr:=wK (l:=r) (λy hy=>by have:=h3 y (by rw[hl];exact jx _ hy);omega) r.length;rw[CV]at hr;rw[oR];omega
 refine⟨hS,oM,λj n x hn hx=> ?_,?_⟩
 ·have JA:=h3 n (mc hn);have:=yMu (k:=n) oM h2 hS h4;rw[yRb hn]at hx;cases hx;split<;>omega
 ·have:=zXs (least:=i.least) h2 hS i.l (λx hx=>by have:=h3 x hx;omega);have e:i.l.sum*i.p0.sum<=i.l.sum*i.q:=by rw[E7 i.l.sum i.q];exact this
  exact Int.le_of_mul_le_mul_left e oM
def y3z (i:xb) (h:F1.du i):yNj i:=by
 obtain⟨hl,hq,hle⟩:i.l.length<=1000000/\ie i.q/\ie i.least:=h;unfold yNj Q0 fp ez nK fZ f9 eZ bJ vG dI;refine⟨⟨i.l,i.q⟩,rfl,rfl,⟨hl,hq⟩,λ_ _=>Cv.du.mk (λc=> ?_) (λc=>zI (λd=> ?_) (λd=> ?_))⟩
 ·have c:yV i.l i.q=aq:=by simpa using c
  refine⟨(),?_,trivial⟩;rw[jZ,dx (by rw[c];simp)];rfl
 ·refine⟨(),?_,trivial⟩;rw[jZ,dx (by omega)];rfl
 have c:yV i.l i.q=ap:=by simpa using c
 have eS:jZ i=i.p1:=by rw[jZ,fk ⟨c,by omega⟩]
 obtain⟨h1,h2,h3,h4⟩:=j7 c;have tw:=TR c;have NJ:=z7l i;have C2:(i.l.zip i.p0).length=i.l.length:=by rw[List.length_zip,NJ];simp
 have WH:i.p1.length=i.l.length:=by rw[xb.p1,zFe,C2]
 have hz2:(i.l.zip i.p0).map (·.2)=i.p0:=by rw[List.map_snd_zip];omega
 have h64:i.l.length<=250:=h1;have PX:∀j,j<=i.l.length->(ae j i.p0++af (i.l.length-j) 0).length=i.l.length:=by
  intro j hj;rw[iQ,oK,CW];omega
 simp only[yW];refine⟨i.l,rfl,⟨oM,λx hx=>by have:=h3 x hx;omega⟩,λ_ _=>⟨⟨oM,oM,oM,oM⟩,0,by(first|exact rfl|exact trivial),?_,λj=>j<=i.l.length,λj=>i.l.length-j,oQ _,λj hj=>zI (λe=> ?_) (λe=> ?_)⟩⟩
 ·simp[iE]
 ·have oF:j<i.l.length:=by omega
  obtain⟨n,hn⟩:=z6 (l:=i.l) (i:=j) oF;have bn:=h3 n (mc hn);obtain⟨f1,f2,f3,f4⟩:=Ur c oM;have g:=yRb hn;refine⟨⟨oM,oM⟩,n,rz hn,⟨n,i.q,i.l.sum⟩,rfl,rfl,rfl,⟨Z9,Z9,Z9,Z9,Z9,Z9⟩,λ_ _=>zI (λa=> ?_) (λa=> ?_)⟩
  ·have a:n*i.q / i.l.sum>=i.least:=a;rw[fk (by omega)]at g;refine⟨⟨oM,by rw[PX j (by omega)];omega⟩,by rw[PX j (by omega)];omega,j+1,um oM,?_,oF,Z9,trivial⟩;rw[ml,Vu (yJx NJ oF),yDp NJ g]
  ·have a:¬n*i.q / i.l.sum>=i.least:=a;rw[dx (by omega)]at g;refine⟨j+1,um oM,?_,oF,Z9,trivial⟩;rw[<- yDp NJ g,yNf (yJx NJ oF)]
 have Fq:j=i.l.length:=by omega
 subst Fq;have eP:ae i.l.length i.p0++af (i.l.length-i.l.length) 0=i.p0:=by rw[oV (by omega)];simp
 rw[eP,NJ];have px:∀(k:Nat) (n x:Int),i.l[k]? =ay n->i.p0[k]? =ay x->0<=x/\x<=n:=λk n x hn hx=>(Ur c (by have:=(ju.1 hn).1;omega)).2.2.1 k n x hn hx
 have pb:∀x∈i.p0,0<=x/\x<=1000000:=by
  intro x hx;obtain⟨k,hk⟩:=AB.1 hx;obtain⟨n,hn⟩:=z6 (l:=i.l) (i:=k) (by have:=(ju.1 hk).1;omega);have:=px k n x hn hk;have:=h3 n (mc hn);omega
 have pq:i.p0.sum<=i.q:=by
  by_cases hz:0<i.l.length
  ·exact(Ur c hz).2.2.2
  ·have:i.p0=[]:=zm oM;rw[this];simpa using h2
 refine⟨0,by simp,by(first|exact rfl|exact trivial),λk=>k<=i.l.length,λk=>i.l.length-k,oQ _,λk hk=>zI (λe=> ?_) (λe=> ?_)⟩
 ·have tb:k<i.l.length:=by omega
  obtain⟨x,hx⟩:=z6 (l:=i.p0) (i:=k) oM;have bx:=pb x (mc hx);have bs:=wK pb k;refine⟨⟨oM,oM⟩,x,rz hx,k+1,?_,um oM,tb,Z9,ic⟩;rw[wM hx,iD (by omega)];omega
 have B4:k=i.l.length:=by omega
 subst B4;rw[oV (l:=i.p0) (by omega)];refine⟨0,by simp,by(first|exact rfl|exact trivial),by simp,λj=>j<=i.l.length,λj=>i.l.length-j,oQ _,λj hj=>zI (λe=> ?_) (λe=> ?_)⟩
 ·have oF:j<i.l.length:=by omega
  obtain⟨n,hn⟩:=z6 (l:=i.l) (i:=j) oF;obtain⟨x,hx⟩:=z6 (l:=i.p0) (i:=j) oM;have bn:=h3 n (mc hn);have bx:=px j n x hn hx;have hz:(i.l.zip i.p0)[j]? =ay (n,x):=by rw[Pr];exact⟨hn,hx⟩
  have g:=zTm (i.l.zip i.p0) (i.q-i.p0.sum) j n x hz;have r:=zNn (i.l.zip i.p0) (i.q-i.p0.sum) j oM (λy hy=>by
   obtain⟨k,hk⟩:=AB.1 hy;rw[Pr]at hk;exact(px k y.1 y.2 hk.1 hk.2).2)
  rw[hz2]at g r;have b0:=wK pb i.p0.length;rw[CV]at b0;have DV:(ae j i.p1++am j i.p0).length=i.l.length:=by rw[iQ,oK,qc];omega
  have hma:=y1k (a:=i.p1) (b:=i.p0) oM hx;change i.p1[j]? =_ at g;change 0<=_-(ae j i.p1).sum/\_-(ae j i.p1).sum<=_ at r;change i.p1[j]? =ay (x+min (n-x) (_-(ae j i.p1).sum))at g;rw[DV];refine⟨⟨oM,oM⟩,n,rz hn,⟨oM,oM⟩,x,rz hma,⟨oM,oM⟩,x,rz hma,⟨oM,oM⟩,oM,?_⟩;rw[iD (x:=n-x) (by omega),iD (x:=x+min (n-x) (i.q-i.p0.sum+(ae j i.p0).sum-(ae j i.p1).sum)) (by omega)];refine⟨j+1,?_,um oM,?_,oF,Z9,trivial⟩
  ·rw[wM hx,wM g,iD (by omega)];omega
  ·rw[ml,Vu hma,yTg (by omega) g]
 ·have Fq:j=i.l.length:=by omega
  subst Fq;refine⟨(),?_,trivial⟩;rw[eS,oV (by omega),HD (by omega),pd]
def yOl:F1.ok Tryz.prog 264:=ix mixed (dz Ul (dz yTm (dz zVm fx))) 0 (λ_=>[]) (λi=>y1i i) [] Tryz.func264 y3z
structure qw where
 l:List Int
 out:List Int
 least:Int
 q:Int
def qw.idx (i:qw) (k:Nat):List Nat:=(ak k).filter λn=>decide (i.out.getD n 0<i.l.getD n 0)
def qw.left (i:qw) (k:Nat):List Int:=(i.idx k).map λn=>i.l.getD n 0-i.out.getD n 0
def qw.pl (i:qw):List Int:=jZ ⟨i.left i.l.length,i.least,i.q⟩
def qw.add (i:qw) (k:Nat):List Int:=(((i.idx i.l.length).zip i.pl).take k).foldl (λo y=>o.set y.1 (aa.wrap (o.getD y.1 0+y.2))) i.out
def rM (i:qw):List Int:=i.add i.pl.length
@[reducible] def qw.ok (i:qw):Prop:=i.l.length<=250/\i.out.length=i.l.length/\ie i.q/\ie i.least/\∀n,0<=i.out.getD n 0/\i.out.getD n 0<=i.l.getD n 0/\i.l.getD n 0<=1000000
def JU:gx:=gh qw (λi=>[iV i.l,.own 0,zB i.least,zB i.q]) (λi=>[.own 2 1 (iE i.out)]) qw.ok (λ_=> .own 1) (λi=>[.gone,.own 2 1 (iE (rM i))])
def y8u (i:qw):List ib:=[
 {ι:=Nat,dv:=λj=>[(9,.own 0),(10,.own 1),(16,zB j)],rows:=λj=>[.own 2 1 (iE (i.left j)),.own 3 1 (iE ((i.idx j).map λ(n:Nat)=>(n:Int)))]},
 {ι:=Nat,dv:=λk=>[(1,.own 0),(50,zB k)],rows:=λk=>[.own 2 1 (iE (i.add k))]}]
structure zE where
 id:Int
 side:Int
 dp:Int
 dq:Int
 top:Bool
 deriving DecidableEq
def uA (o:zE):List D:=[.v (.int .i64 o.id),.v (.int .i64 o.side),.v (.int .i64 o.dp),.v (.int .i64 o.dq),.v (.bool o.top)]
@[reducible] def Nc (o:zE):V:= .agg [zB o.id,zB o.side,zB o.dp,zB o.dq,y4 o.top]
def SE:gx:=gh zE (λo=>[Nc o]) (λ_=>[]) (λ_=>True) (λo=>y4 o.top) (λ_=>[])
def jd (l:List zE):Int:=IQ (l.findIdx? λo=>o.top)
def DD:gx:=gh (List zE) (λl=>[ru 5 (l.map uA),.fn 250 [] []]) (λ_=>[]) (λl=>l.length<=1000000) (λl=>zB (jd l)) (λ_=>[])
def yVj (l:List zE):List ib:=[{ι:=Nat,dv:=λj=>[(8,zB j)],rows:=λ_=>[]}]
def yXn (i:qw):Prop:=
 ∃(a:Nat),(↑a:Int)=0/\iE (i.left a)=[]/\iE (ac (λ(n:Nat) ↦ (↑n:Int)) (i.idx a))=[]/\∃(b:Nat->Prop),∃(c:Nat->Nat),b a/\∀(d:Nat),b d->du (decide ((↑d:Int)<(↑(iE i.l).length:Int))) ((0<=(↑d:Int)/\(↑d:Int)<(↑(iE i.l).length:Int))/\∃(e:Int),zF (iE i.l) (↑d:Int).toNat 0 1=ay [dI e]/\(0<=(↑d:Int)/\(↑d:Int)<(↑(iE i.out).length:Int))/\∃(f:Int),zF (iE i.out) (↑d:Int).toNat 0 1=ay [dI f]/\du (decide (e>f)) ((0<=(↑d:Int)/\(↑d:Int)<(↑(iE i.l).length:Int))/\∃(g:Int),zF (iE i.l) (↑d:Int).toNat 0 1=ay [dI g]/\(0<=(↑d:Int)/\(↑d:Int)<(↑(iE i.out).length:Int))/\∃(h:Int),zF (iE i.out) (↑d:Int).toNat 0 1=ay [dI h]/\((iE (i.left d)).length+1)*(8:Nat)<=(140737488355328:Nat)/\((iE (ac (λ(g:Nat) ↦ (↑g:Int)) (i.idx d))).length+1)*(8:Nat)<=(140737488355328:Nat)/\∃(j:Nat),(↑j:Int)=aa.wrap ((↑d:Int)+1)/\iE (i.left j)=iE (i.left d)++[[dI (aa.wrap (g-h))]]/\iE (ac (λ(g:Nat) ↦ (↑g:Int)) (i.idx j))=iE (ac (λ(g:Nat) ↦ (↑g:Int)) (i.idx d))++[[dI (↑d:Int)]]/\b j/\c j<c d/\dm (av 2 1 (iE i.out))) (∃(g:Nat),(↑g:Int)=aa.wrap ((↑d:Int)+1)/\iE (i.left g)=iE (i.left d)/\iE (ac (λ(e:Nat) ↦ (↑e:Int)) (i.idx g))=iE (ac (λ(e:Nat) ↦ (↑e:Int)) (i.idx d))/\b g/\c g<c d/\dm (av 2 1 (iE i.out)))) (∃(e:xb),iE e.l=iE (i.left d)/\e.least=i.least/\e.q=i.q/\(e.l.length<=1000000/\((-9223372036854775808)<=e.q/\e.q<=9223372036854775807)/\(-9223372036854775808)<=e.least/\e.least<=9223372036854775807)/\fp (∃(g:Nat),(↑g:Int)=0/\iE (i.add g)=iE i.out/\∃(h:Nat->Prop),∃(j:Nat->Nat),h g/\∀(k:Nat),h k->du (decide ((↑k:Int)<(↑(iE (jZ e)).length:Int))) ((0<=(↑k:Int)/\(↑k:Int)<(↑(iE (jZ e)).length:Int))/\∃(l:Int),zF (iE (jZ e)) (↑k:Int).toNat 0 1=ay [dI l]/\(0<=(↑k:Int)/\(↑k:Int)<(↑(iE (ac (λ(l:Nat) ↦ (↑l:Int)) (i.idx d))).length:Int))/\∃(m:Int),zF (iE (ac (λ(l:Nat) ↦ (↑l:Int)) (i.idx d))) (↑k:Int).toNat 0 1=ay [dI m]/\(0<=m/\m<(↑(iE (i.add k)).length:Int))/\∃(n:Int),zF (iE (i.add k)) m.toNat 0 1=ay [dI n]/\(0<=m/\m<(↑(iE (i.add k)).length:Int))/\m.toNat<(iE (i.add k)).length/\∃(p:Nat),(↑p:Int)=aa.wrap ((↑k:Int)+1)/\iE (i.add p)=zX (iE (i.add k)) m.toNat 0 [dI (aa.wrap (n+l))]/\h p/\j p<j k/\dm (av 2 1 (iE (jZ e)))/\dm (aw 1 (iE (i.left d)))/\dm (av 3 1 (iE (ac (λ(l:Nat) ↦ (↑l:Int)) (i.idx d))))) (ez (iE (rM i)=iE (i.add k)/\True))))
def yZj (o:zE):Prop:=
 ez (dm o.top/\True)
def yDu (l:List zE):Prop:=
 ∃(a:Nat),(↑a:Int)=0/\∃(b:Nat->Prop),∃(c:Nat->Nat),b a/\∀(d:Nat),b d->du (decide ((↑d:Int)<(↑(ac uA l).length:Int))) ((0<=(↑d:Int)/\(↑d:Int)<(↑(ac uA l).length:Int))/\∃(e:Int),∃(f:Int),∃(g:Int),∃(h:Int),∃(j:Bool),zF (ac uA l) (↑d:Int).toNat 0 5=ay [dI e,dI f,dI g,dI h,D.v (.bool j)]/\∃(k:zE),k.id=e/\k.side=f/\k.dp=g/\k.dq=h/\k.top=j/\True/\fp (du k.top (ez (jd l=(↑d:Int)/\True)) (aQ d b c))) (ez (jd l=(-1)/\True))
def yVg:SE.ok Tryz.prog 250:=ix (V:=yZj) mixed fx 0 (λ_=>[]) (λ_=>[]) [] Tryz.func250 λ(o:zE) _=>by
 unfold yZj ez;exact⟨(),rfl,trivial⟩
def z9p (i:xb):(jZ i).length=i.l.length\/jZ i=[]:=by
 rw[jZ];split
 ·left;rw[xb.p1,zFe,List.length_zip,z7l];simp
 ·exact .inr rfl
def y4l {l:List zE} {k:Nat} {o:zE} (h:l[k]? =ay o):zF (l.map uA) k 0 5=ay [D.v (.int .i64 o.id),.v (.int .i64 o.side),.v (.int .i64 o.dp),.v (.int .i64 o.dq),.v (.bool o.top)]:=kf h (by simp[uA]) rfl
def yTb (l:List zE) (h:DD.du l):yDu l:=by
 have h:l.length<=1000000:=h;unfold yDu fp ez aQ jK Q0 dI;simp only[iz];refine⟨0,rfl,λj=>j<=l.length/\∀k<j,∀x,l[k]? =ay x->x.top=aq,λj=>l.length-j,⟨oM,λk hk=>by omega⟩,?_⟩;rintro j ⟨h3,h4⟩;refine zI (λhj=> ?_) (λhj=> ?_)
 ·obtain⟨s,hs⟩:=z6 (l:=l) (i:=j) oM;refine⟨⟨oM,oM⟩,s.id,s.side,s.dp,s.dq,s.top,y4l hs,s,oT ⟨rfl,trivial,λ_ _=>Cv.du.mk (λe=> ?_) (λe=> ?_)⟩⟩
  ·rw[jd,YT hs e h4];exact kp
  ·refine⟨j+1,by rw[iD (by omega)];rfl,⟨oM,λk hk x hx=> ?_⟩,by(first|omega|(dsimp only;omega)),ic⟩;rcases vx k j with tb|tb
   ·exact h4 k tb x hx
   ·obtain rfl:k=j:=by omega
    rw[hs]at hx;cases hx;exact e
 ·rw[jd,ZV λk x hx=>h4 k (by have:=(ju.1 hx).1;omega) x hx];exact kp
def yGd:DD.ok Tryz.prog 249:=ix mixed (dz yVg fx) 0 (λ_=>[]) (λl=>yVj l) [] Tryz.func249 yTb
def yOi (i:qw) (j:Nat):i.idx (j+1)=i.idx j++if i.out.getD j 0<i.l.getD j 0 then[j]else[]:=by
 rw[qw.idx,Jf,Jj];by_cases h:i.out.getD j 0<i.l.getD j 0
 ·rw[fk h,Jr (by simpa using h)];rfl
 ·rw[dx h,Jq (by simpa using h)];rfl
def y1o (i:qw) {k n:Nat} (h:n∈i.idx k):n<k:=by
 have:=(qk.1 h).1;exact zh.1 this
def yCm (i:qw) (k:Nat):(i.idx k).length<=k:=by
 have:=GX (λn=>decide (i.out.getD n 0<i.l.getD n 0)) (ak k);rw[List.length_range]at this;exact this
def z6d:∀(z:List (Nat×Int)) (o:List Int),(z.foldl (λo y=>o.set y.1 (aa.wrap (o.getD y.1 0+y.2))) o).length=o.length
 |[],_=>rfl
 |y::z,o=>by rw[DN,z6d z,rj]
def y8v (i:qw) (h:JU.du i):yXn i:=by
 obtain⟨hl,ho,hq,hle,hb⟩:i.ok:=h;unfold yXn fp ez dI;simp only[yW,iz];have hil:∀j,(i.left j).length=(i.idx j).length:=λj=>iz _
 refine⟨0,by(first|exact rfl|exact trivial),by(first|exact rfl|exact trivial),by(first|exact rfl|exact trivial),λj=>j<=i.l.length,λj=>i.l.length-j,oQ _,λj hj=>zI (λc=> ?_) (λc=> ?_)⟩
 ·have oF:j<i.l.length:=by omega
  obtain⟨n,hn⟩:=z6 (l:=i.l) (i:=j) oF;obtain⟨o,G9⟩:=z6 (l:=i.out) (i:=j) oM;have bj:=hb j;rw[zJ hn,zJ G9]at bj;have is:=yOi i j;rw[zJ hn,zJ G9]at is;have il:=yCm i j;refine⟨⟨oM,oM⟩,n,rz hn,⟨oM,oM⟩,o,rz G9,zI (λa=> ?_) (λa=> ?_)⟩
  ·rw[fk (by omega)]at is;refine⟨⟨oM,oM⟩,n,rz hn,⟨oM,oM⟩,o,rz G9,by rw[hil];omega,oM,j+1,um oM,?_,?_,oF,Z9,ic⟩
   ·rw[iD (by omega),qw.left,is,jz];simp[iE,qw.left,hn,G9]
   ·rw[is];simp[iE]
  ·rw[dx (by omega),pd]at is;exact⟨j+1,um oM,by rw[qw.left,is];rfl,by rw[is],oF,Z9,ic⟩
 have Fq:j=i.l.length:=by omega
 subst Fq;have il:=yCm i i.l.length;refine⟨⟨i.left i.l.length,i.least,i.q⟩,rfl,rfl,rfl,⟨by dsimp only;rw[hil];omega,hq,hle⟩,λ_ _=> ?_⟩;have epl:jZ ⟨i.left i.l.length,i.least,i.q⟩=i.pl:=rfl;rw[epl];have zu:i.pl.length<=(i.idx i.l.length).length:=by
  rcases z9p ⟨i.left i.l.length,i.least,i.q⟩with e|e
  ·rw[epl]at e;rw[e];dsimp only;rw[hil];exact mg _
  ·rw[epl]at e;rw[e];exact oQ _
 have Bm:∀k,(i.add k).length=i.out.length:=λk=>z6d _ _
 refine⟨0,by(first|exact rfl|exact trivial),by(first|exact rfl|exact trivial),λk=>k<=i.pl.length,λk=>i.pl.length-k,oQ _,λk hk=>zI (λc=> ?_) (λc=> ?_)⟩
 ·have tb:k<i.pl.length:=by omega
  obtain⟨x,hx⟩:=z6 (l:=i.pl) (i:=k) tb;obtain⟨n,hn⟩:=z6 (l:=i.idx i.l.length) (i:=k) oM;have P1:=y1o i (mc hn);obtain⟨y,hy⟩:=z6 (l:=i.add k) (i:=n) (by rw[Bm];omega);have ea:i.add (k+1)=(i.add k).set n (aa.wrap (y+x)):=by
   have hz:((i.idx i.l.length).zip i.pl)[k]? =ay (n,x):=by rw[Pr];exact⟨hn,hx⟩
   have ey:(i.add k).getD n 0=y:=zJ hy;rw[qw.add,tv,hz,Jh];show(i.add k).set n (aa.wrap ((i.add k).getD n 0+x))=_;rw[ey]
  have hnm:((i.idx i.l.length).map λ(n:Nat)=>(n:Int))[k]? =ay (n:Int):=by rw[uz,hn];rfl
  rw[Bm];refine⟨⟨oM,oM⟩,x,rz hx,⟨oM,oM⟩,n,rz hnm,⟨oM,oM⟩,y,rz hy,⟨oM,oM⟩,oM,k+1,um oM,?_,tb,Z9,ic⟩;rw[ea,ml,Vu hy]
 ·have B4:k=i.pl.length:=by omega
  subst B4;exact⟨(),rfl,trivial⟩
def yEr:JU.ok Tryz.prog 260:=ix mixed (dz yOl fx) 0 (λ_=>[]) (λi=>y8u i) [] Tryz.func260 y8v
structure wo where
 l:List Int
 top:Int
 most:Int
 least:Int
 q:Int
def wo.first (i:wo):Int:=min (min (i.l.getD i.top.toNat 0) i.most) i.q
def wo.rs (i:wo):qw:=if 0<=i.top/\i.top<i.l.length then⟨i.l,(af i.l.length 0).set i.top.toNat i.first,i.least,i.q-i.first⟩else⟨i.l,af i.l.length 0,i.least,i.q⟩
def CO (i:wo):List Int:=if yV i.l i.q=ap/\1<=i.least/\0<=i.most then rM i.rs else[]
def RR:gx:=gh wo (λi=>[iV i.l,zB i.top,zB i.most,zB i.least,zB i.q]) (λ_=>[]) (λi=>i.l.length<=1000000/\ie i.q/\ie i.least/\ie i.most) (λ_=> .own 0) (λi=>[.own 2 1 (iE (CO i))])
structure JJ where
 l:List Int
 part:Int
 least:Int
 q:Int
def JJ.rs (i:JJ):qw:=⟨i.l,fJ i.l (i.q*i.part / 100),i.least,i.q-i.q*i.part / 100⟩
def Ci (i:JJ):List Int:=if yV i.l i.q=ap/\0<=i.part/\i.part<=100/\1<=i.least then rM i.rs else[]
def RM:gx:=gh JJ (λi=>[iV i.l,zB i.part,zB i.least,zB i.q]) (λ_=>[]) (λi=>i.l.length<=1000000/\ie i.q/\ie i.least/\ie i.part) (λ_=> .own 0) (λi=>[.own 2 1 (iE (Ci i))])
def Uy (a:qw):Prop:=a.l.length<=250/\a.out.length=a.l.length/\((-9223372036854775808)<=a.q/\a.q<=9223372036854775807)/\((-9223372036854775808)<=a.least/\a.least<=9223372036854775807)/\∀(b:Nat),0<=a.out.getD b 0/\a.out.getD b 0<=a.l.getD b 0/\a.l.getD b (0:Int)<=(1000000:Int)
def XR (a:qw) (b:wo):Prop:=(Uy a)/\fp (ez (iE (CO b)=iE (rM a)/\True))
def Yw (a:wo):Prop:=∃(b:qw),iE b.l=iE a.l/\b.least=a.least/\b.q=a.q/\iE b.out=af (↑(iE a.l).length:Int).toNat [dI 0]/\XR b a
def OL (a:wo):=(af (↑(iE a.l).length:Int).toNat [dI 0])
def XG (a:wo) (b:Int):=(zX (OL a) a.top.toNat 0 [dI (min (min b a.most) a.q)])
def y6n (i:wo):Prop:=
 ∃(a:Ca),iE a.l=iE i.l/\a.q=i.q/\(vG a)/\fp (du (!yV a.l a.q) (ez (iE (CO i)=[]/\True)) (du (decide (i.least<1)) (ez (iE (CO i)=[]/\True)) (du (decide (i.most<0)) (ez (iE (CO i)=[]/\True)) ((0<=(↑(iE i.l).length:Int)/\(↑(iE i.l).length:Int)<=(↑(iE i.l).length:Int)/\(↑(iE i.l).length:Int)<=9223372036854775807/\(↑(8:Nat):Int)*(↑(iE i.l).length:Int)<=2 ^ (48:Nat))/\du (decide (i.top>=0)) (du (decide (i.top<(↑(iE i.l).length:Int))) ((0<=i.top/\i.top<(↑(iE i.l).length:Int))/\∃(c:Int),zF (iE i.l) i.top.toNat 0 1=ay [dI c]/\(0<=i.top/\i.top<(↑(OL i).length:Int))/\i.top.toNat<(OL i).length/\(0<=i.top/\i.top<(↑(XG i c).length:Int))/\∃(d:Int),zF (XG i c) i.top.toNat 0 1=ay [dI d]/\∃(e:qw),iE e.l=iE i.l/\e.least=i.least/\e.q=aa.wrap (i.q-d)/\iE e.out=zX (OL i) i.top.toNat 0 [dI (min (min c i.most) i.q)]/\XR e i) (Yw i)) (Yw i)))))
def y8q (i:JJ):Prop:=
 ∃(a:Ca),iE a.l=iE i.l/\a.q=i.q/\(vG a)/\fp (du (!yV a.l a.q) (ez (iE (Ci i)=[]/\True)) (du (decide (i.part<0)) (ez (iE (Ci i)=[]/\True)) (du (decide (i.part>100)) (ez (iE (Ci i)=[]/\True)) (du (decide (i.least<1)) (ez (iE (Ci i)=[]/\True)) (∃(c:Ls),c.a=i.q/\c.b=i.part/\c.c=100/\(0<=c.a/\c.a<=(2000000000:Int)/\(0:Int)<=c.b/\c.b<=(2000000000:Int)/\(1:Int)<=c.c/\c.c<=2000000000)/\fp (∃(e:Ca),iE e.l=iE i.l/\e.q=c.a*c.b / c.c/\(vG e)/\fp (∃(g:qw),iE g.l=iE i.l/\g.least=i.least/\g.q=aa.wrap (i.q-c.a*c.b / c.c)/\iE g.out=iE (fJ e.l e.q)/\(Uy g)/\fp (ez (iE (Ci i)=iE (rM g)/\True)))))))))
end Sx
