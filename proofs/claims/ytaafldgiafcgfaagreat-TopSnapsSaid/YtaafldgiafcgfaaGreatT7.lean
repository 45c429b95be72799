/- Texts of ours. No condition. -/
import Derived.Laws.Externs
import Derived.Test.YtaafldgiafcgfaaGreatT6
set_option linter.all false
open Go.IntKind renaming i64->aa,u64->ab
open List renaming map->ac,take->ae,replicate->af,headD_cons->ag,tail_cons->aj,range->ak,drop->am
open Exists renaming intro->ao
open Bool renaming true->ap,false->aq,or_eq_true->ar
open And renaming intro->au
open Sx.AObj renaming cells->av,own->aw,fro->ax,iter->ay
open Option renaming some->az
open Go.Value renaming string->ba,int->bc
open Go.Utf8 renaming decode->be
namespace Sx
set_option maxRecDepth 100000
open Go Cv Go.Proofs
def zPg {α:Type} {f:α->α} {Q:α->Prop} (hf:∀x,Q x->Q (f x)):∀{l:List α} (i:Nat),(∃x∈l,Q x)->∃x∈l.modify i f,Q x
 |[],i,⟨x,hx,_⟩=>by cases hx
 |a::l,0,⟨x,hx,q⟩=>by
  rcases y8v.1 hx with rfl|hx
  ·exact⟨f x,y8h,hf x q⟩
  ·exact⟨x,y8i _ hx,q⟩
 |a::l,i+1,⟨x,hx,q⟩=>by
  rw[xDl];rcases y8v.1 hx with rfl|hx
  ·exact⟨x,y8h,q⟩
  ·obtain⟨y,hy,hq⟩:=zPg hf (l:=l) i ⟨x,hx,q⟩;exact⟨y,y8i _ hy,hq⟩
def yJn {a:Arena} (h:a.fit) (n:Int) (t:Bool):(a.topF n t).fit:=by
 obtain⟨h1,h2,h3⟩:=h;rw[Arena.topF];split
 ·refine⟨by simpa using h1,λhf=> ?_,by simpa using h3⟩;exact zPg (f:=λs:Slot=>{s with top:=t}) (Q:=λs=>s.used=aq) (λx hx=>hx) _ (h2 hf)
 ·exact⟨h1,h2,h3⟩
def yCr {b:Book} (h:b.a.fit) (s:Int):(b.untop s).fit:=by
 rw[Book.untop]
 repeat' split
 all_goals first|exact h|exact yJn h _ _
def yBo {a:Arena} (h:a.fit):a.openQ.fit:=by
 obtain⟨h1,h2,h3⟩:=h;refine⟨h1,h2,λq hq=> ?_⟩;rcases y9f.1 hq with hq|hq
 ·exact h3 q hq
 ·rw[y9u.1 hq];exact .inl rfl
def zZk {b:Book} (h:b.a.fit):b.newQ.2.2.fit:=by
 rw[Book.newQ];split
 ·exact yBo h
 ·exact h
def sO {b:Book} (h:b.a.fit) (s p:Int):(b.queueF s p).1.a.fit:=by
 rw[Book.queueF]
 repeat' split
 ·exact h
 ·exact zZk h
 ·exact zZk h
def yDg (b:Book) (s:Int):(b.untop s).slots.length=b.a.slots.length/\(b.untop s).queues=b.a.queues:=by
 have ht:∀n t,(b.a.topF n t).slots.length=b.a.slots.length/\(b.a.topF n t).queues=b.a.queues:=by
  intro n t;rw[Arena.topF];split
  ·exact⟨by simp,rfl⟩
  ·exact⟨rfl,rfl⟩
 rw[Book.untop]
 repeat' split
 all_goals first|exact⟨rfl,rfl⟩|exact ht _ _
def zTd {b:Book} (h:b.fit) (id s:Int):(b.leadF id s).fit:=by
 obtain⟨h1,h2,h3,h4,h5⟩:=h;have hl:=yDg b s;rw[Book.leadF];split
 all_goals exact⟨yCr h1 s,by rw[hl.2];exact h2,h3,h4,h5⟩
def zUh {b:Book} (h:b.fit):b.small:=by
 obtain⟨⟨h1,_⟩,h2,h3,h4,h5⟩:=h;exact⟨⟨h1,oM⟩,oM,oM,oM⟩
def yXl (i:BaI) (h:badd1C.cnd i):yLe i:=by
 have hfit:i.b.fit:=h;have hsm:=zUh hfit;unfold yLe zJx pU zBe zAj zAv kH zJz zN yQ rS rO yJ tA sL dI;have plc:∀(b:Book) (x:Int),hP (bc aa i.id) [D.v (.int .i64 1),D.v (.int .i64 i.price),D.v (.int .i64 x)] (atE b.at_)=atE (sR i.id ⟨1,i.price,x⟩ b.at_):=λb x=>zVc i.id ⟨1,i.price,x⟩ b.at_
 refine⟨wB _ _,(pget i.b.at_ i.id).isSome,_,_,_,zSj _ _,1,rfl,trivial,λ_ _=> ?_⟩;refine Cv.cnd.mk (λc=>absurd c Z8) λ_=> ?_
 refine zI (λc=> ?_) (λc=>zI (λd=> ?_) (λd=> ?_))
 ·have ha:i.b.addF 1 i.id i.price i.qty=(i.b,24):=by rw[Book.addF,y8c (.inl c)]
  rw[ha];exact kp
 ·have ha:i.b.addF 1 i.id i.price i.qty=(i.b,24):=by rw[Book.addF,y8c (.inr d)]
  rw[ha];exact kp
 have hq:¬(i.qty<1\/1000000<i.qty):=by omega
 refine Cv.cnd.mk (λe=> ?_) (λe=> ?_)
 ·have ha:i.b.addF 1 i.id i.price i.qty=(i.b,25):=by rw[Book.addF,y7z hq,y8c e]
  rw[ha];exact kp
 have hlen:(atE i.b.at_).length=i.b.at_.length:=by simp[atE]
 rw[hlen];refine zI (λf=> ?_) (λf=> ?_)
 ·have ha:i.b.addF 1 i.id i.price i.qty=(i.b,13):=by rw[Book.addF,y7z hq,y7z (by rw[e];decide),y8c (by omega)]
  rw[ha];exact kp
 have ha:i.b.addF 1 i.id i.price i.qty=(i.b.stand 1 i.id i.price i.qty,0):=by rw[Book.addF,y7z hq,y7z (by rw[e];decide),y7z (by omega)]
 rw[ha];simp only[y8b];refine⟨ap,λx=>x=i.b.leads 1 i.price,Cv.cnd.mk (λg=>⟨ap,rfl,?_,k0q⟩) (λg=> ?_),λx hx=> ?_⟩
 ·have:i.b.buys=[]:=y9a (by have:(i.b.buys.length:Int)=0:=(by simpa using g);omega);rw[Book.leads,sP,this]
 ·obtain⟨r,l,hl⟩:∃r l,i.b.buys=r::l:=by
   cases hb:i.b.buys with
   |nil=>rw[hb]at g;exact absurd g Z8
   |cons r l=>exact⟨r,l,rfl⟩
  refine⟨⟨oM,by rw[hl,y8f];omega⟩,r.price,elA (x:=r) (by rw[hl];rfl) (by simp[zB]) rfl,⟨1,i.price,r.price⟩,rfl,rfl,rfl,trivial,λ_ _=>⟨_,rfl,?_,k0q⟩⟩;rw[Book.leads,sP,hl]
 subst hx;refine Cv.cnd.mk (λg=> ?_) (λg=> ?_)
 ·have hled:i.b.led i.id 1 i.price=i.b.leadF i.id 1:=by rw[Book.led,y8c g]
  have hf1:=zTd hfit i.id 1;have hst:i.b.stand 1 i.id i.price i.qty={((i.b.leadF i.id 1).queueF 1 i.price).1 with a:=(((i.b.leadF i.id 1).queueF 1 i.price).1.a.push ((i.b.leadF i.id 1).queueF 1 i.price).2 i.id i.qty (i.b.leads 1 i.price)).1,at_:=sR i.id ⟨1,i.price,(((i.b.leadF i.id 1).queueF 1 i.price).1.a.push ((i.b.leadF i.id 1).queueF 1 i.price).2 i.id i.qty (i.b.leads 1 i.price)).2.1⟩ ((i.b.leadF i.id 1).queueF 1 i.price).1.at_}:=by
   simp only[Book.stand,hled]
  refine⟨⟨i.b,i.id⟩,rfl,trivial,rF8 ⟨rfl,hsm,λ_ _=>⟨⟨i.b.leadF i.id 1,i.price⟩,trivial,rF6 (rF3 ⟨rfl,hf1,λ_ _=>⟨trivial,?_⟩⟩)⟩⟩⟩;refine⟨⟨((i.b.leadF i.id 1).queueF 1 i.price).1.a,((i.b.leadF i.id 1).queueF 1 i.price).2,i.id,i.qty,i.b.leads 1 i.price⟩,rF4 ⟨rfl,sO hf1.1 1 i.price,λ_ _=>⟨wB _ _,(),?_⟩⟩⟩;dsimp only;rw[hst,plc]
  exact kp
 ·have hled:i.b.led i.id 1 i.price=i.b:=by rw[Book.led,y7z (by rw[g];decide)]
  have hst:i.b.stand 1 i.id i.price i.qty={(i.b.queueF 1 i.price).1 with a:=((i.b.queueF 1 i.price).1.a.push (i.b.queueF 1 i.price).2 i.id i.qty (i.b.leads 1 i.price)).1,at_:=sR i.id ⟨1,i.price,((i.b.queueF 1 i.price).1.a.push (i.b.queueF 1 i.price).2 i.id i.qty (i.b.leads 1 i.price)).2.1⟩ (i.b.queueF 1 i.price).1.at_}:=by
   simp only[Book.stand,hled]
  refine⟨⟨i.b,i.price⟩,trivial,rF6 (rF3 ⟨rfl,hfit,λ_ _=>⟨trivial,?_⟩⟩)⟩;refine⟨⟨(i.b.queueF 1 i.price).1.a,(i.b.queueF 1 i.price).2,i.id,i.qty,i.b.leads 1 i.price⟩,rF4 ⟨rfl,sO hfit.1 1 i.price,λ_ _=>⟨wB _ _,(),?_⟩⟩⟩;dsimp only;rw[hst,plc]
  exact kp
def yHi:badd1C.ok Tryz.prog 196:=okw mixed (gokc lS (gokc mD (gokc yGh (gokc yBn (gokc z0e gok0))))) 0 (λ_=>ySj) (λ_=>[]) [0] Tryz.func196 yXl
def yUq (i:BaI) (h:badd2C.cnd i):yIb i:=by
 have hfit:i.b.fit:=h;have hsm:=zUh hfit;unfold yIb zHl nV zIy zM yO rS rO yJ zBe zAj zAv kH tA sL dI;have plc:∀(b:Book) (x:Int),hP (bc aa i.id) [D.v (.int .i64 2),D.v (.int .i64 i.price),D.v (.int .i64 x)] (atE b.at_)=atE (sR i.id ⟨2,i.price,x⟩ b.at_):=λb x=>zVc i.id ⟨2,i.price,x⟩ b.at_
 refine⟨wB _ _,(pget i.b.at_ i.id).isSome,_,_,_,zSj _ _,2,rfl,trivial,λ_ _=> ?_⟩;refine Cv.cnd.mk (λc=>absurd c Z8) λ_=> ?_
 refine zI (λc=> ?_) (λc=>zI (λd=> ?_) (λd=> ?_))
 ·have ha:i.b.addF 2 i.id i.price i.qty=(i.b,24):=by rw[Book.addF,y8c (.inl c)]
  rw[ha];exact kp
 ·have ha:i.b.addF 2 i.id i.price i.qty=(i.b,24):=by rw[Book.addF,y8c (.inr d)]
  rw[ha];exact kp
 have hq:¬(i.qty<1\/1000000<i.qty):=by omega
 refine Cv.cnd.mk (λe=> ?_) (λe=> ?_)
 ·have ha:i.b.addF 2 i.id i.price i.qty=(i.b,25):=by rw[Book.addF,y7z hq,y8c e]
  rw[ha];exact kp
 have hlen:(atE i.b.at_).length=i.b.at_.length:=by simp[atE]
 rw[hlen];refine zI (λf=> ?_) (λf=> ?_)
 ·have ha:i.b.addF 2 i.id i.price i.qty=(i.b,13):=by rw[Book.addF,y7z hq,y7z (by rw[e];decide),y8c (by omega)]
  rw[ha];exact kp
 have ha:i.b.addF 2 i.id i.price i.qty=(i.b.stand 2 i.id i.price i.qty,0):=by rw[Book.addF,y7z hq,y7z (by rw[e];decide),y7z (by omega)]
 rw[ha];simp only[y8b];refine⟨ap,λx=>x=i.b.leads 2 i.price,Cv.cnd.mk (λg=>⟨ap,rfl,?_,k0q⟩) (λg=> ?_),λx hx=> ?_⟩
 ·have:i.b.sells=[]:=y9a (by have:(i.b.sells.length:Int)=0:=(by simpa using g);omega);rw[Book.leads,tG,this]
 ·obtain⟨r,l,hl⟩:∃r l,i.b.sells=r::l:=by
   cases hb:i.b.sells with
   |nil=>rw[hb]at g;exact absurd g Z8
   |cons r l=>exact⟨r,l,rfl⟩
  refine⟨⟨oM,by rw[hl,y8f];omega⟩,r.price,elA (x:=r) (by rw[hl];rfl) (by simp[zB]) rfl,⟨2,i.price,r.price⟩,rfl,rfl,rfl,trivial,λ_ _=>⟨_,rfl,?_,k0q⟩⟩;rw[Book.leads,tG,hl]
 subst hx;refine Cv.cnd.mk (λg=> ?_) (λg=> ?_)
 ·have hled:i.b.led i.id 2 i.price=i.b.leadF i.id 2:=by rw[Book.led,y8c g]
  have hf1:=zTd hfit i.id 2;have hst:i.b.stand 2 i.id i.price i.qty={((i.b.leadF i.id 2).queueF 2 i.price).1 with a:=(((i.b.leadF i.id 2).queueF 2 i.price).1.a.push ((i.b.leadF i.id 2).queueF 2 i.price).2 i.id i.qty (i.b.leads 2 i.price)).1,at_:=sR i.id ⟨2,i.price,(((i.b.leadF i.id 2).queueF 2 i.price).1.a.push ((i.b.leadF i.id 2).queueF 2 i.price).2 i.id i.qty (i.b.leads 2 i.price)).2.1⟩ ((i.b.leadF i.id 2).queueF 2 i.price).1.at_}:=by
   simp only[Book.stand,hled]
  refine⟨⟨i.b,i.id⟩,rfl,trivial,rF8 ⟨rfl,hsm,λ_ _=>⟨⟨i.b.leadF i.id 2,i.price⟩,trivial,rF6 (rF3 ⟨rfl,hf1,λ_ _=>⟨trivial,?_⟩⟩)⟩⟩⟩;refine⟨⟨((i.b.leadF i.id 2).queueF 2 i.price).1.a,((i.b.leadF i.id 2).queueF 2 i.price).2,i.id,i.qty,i.b.leads 2 i.price⟩,rF4 ⟨rfl,sO hf1.1 2 i.price,λ_ _=>⟨wB _ _,(),?_⟩⟩⟩;dsimp only;rw[hst,plc]
  exact kp
 ·have hled:i.b.led i.id 2 i.price=i.b:=by rw[Book.led,y7z (by rw[g];decide)]
  have hst:i.b.stand 2 i.id i.price i.qty={(i.b.queueF 2 i.price).1 with a:=((i.b.queueF 2 i.price).1.a.push (i.b.queueF 2 i.price).2 i.id i.qty (i.b.leads 2 i.price)).1,at_:=sR i.id ⟨2,i.price,((i.b.queueF 2 i.price).1.a.push (i.b.queueF 2 i.price).2 i.id i.qty (i.b.leads 2 i.price)).2.1⟩ (i.b.queueF 2 i.price).1.at_}:=by
   simp only[Book.stand,hled]
  refine⟨⟨i.b,i.price⟩,trivial,rF6 (rF3 ⟨rfl,hfit,λ_ _=>⟨trivial,?_⟩⟩)⟩;refine⟨⟨(i.b.queueF 2 i.price).1.a,(i.b.queueF 2 i.price).2,i.id,i.qty,i.b.leads 2 i.price⟩,rF4 ⟨rfl,sO hfit.1 2 i.price,λ_ _=>⟨wB _ _,(),?_⟩⟩⟩;dsimp only;rw[hst,plc]
  exact kp
def yLq:badd2C.ok Tryz.prog 196:=okw mixed (gokc lS (gokc mD (gokc yLy (gokc yCq (gokc z0e gok0))))) 0 (λ_=>ySj) (λ_=>[]) [0] Tryz.func196 yUq
def yMv:baddC.ok Tryz.prog 196:=λj=>match j with
 |⟨i,aq⟩=>yHi i
 |⟨i,ap⟩=>yLq i
def y5c (i:SaI) (h:saddC.cnd i):yUe i:=by
 obtain⟨hp,hbl,hb⟩:i.s.fit:=h;unfold yUe zOy eF pQ zIe zJu qE dI;simp only[zZl];have hml:(yR i.s.wh).length=i.s.wh.length:=by simp[yR]
 rw[hml];have out (e:i.inst<0\/i.s.books.length<=i.inst):MSt.addF i=(i.s,20):=by rw[MSt.addF,y8c e]
 refine⟨cM _ _,(zDl i.s.wh i.id).isSome,_,yVs _ _,zI (λc=>Cv.cnd.mk (λd=> ?_) (λd=> ?_)) (λc=> ?_)⟩
 ·have d:¬i.inst<(i.s.books.length:Int):=by simpa using d
  rw[out (.inr (by omega))];exact kp
 ·have d:i.inst<(i.s.books.length:Int):=by simpa using d
  have hn:¬(i.inst<0\/(i.s.books.length:Int)<=i.inst):=by omega
  refine Cv.cnd.mk (λe=> ?_) (λe=>zI (λf=> ?_) (λf=> ?_))
  ·rw[MSt.addF,y7z hn,y8c e];exact kp
  ·rw[MSt.addF,y7z hn,y7z (by rw[e];decide),y8c (by omega)];exact kp
  ·refine⟨⟨i.s.p,i.inst,i.price⟩,rF8 (rF4 ⟨rfl,hp,λ_ _=>Cv.cnd.mk (λg=> ?_) (λg=> ?_)⟩)⟩
   ·have g:i.s.p.price i.inst i.price≠0:=by simpa using g
    rw[MSt.addF,y7z hn,y7z (by rw[e];decide),y7z (by omega),y8c g];exact kp
   ·have g:i.s.p.price i.inst i.price=0:=by simpa using g
    obtain⟨x,hx⟩:=yC (l:=i.s.books) (i:=i.inst.toNat) oM;have hba:i.s.bookAt i.inst=x:=zW hx;have ha:MSt.addF i=({i.s with books:=i.s.books.set i.inst.toNat (x.addF (zD i.sd) i.id i.price i.qty).1,wh:=if(x.addF (zD i.sd) i.id i.price i.qty).2=0 then zZr i.id i.inst i.s.wh else i.s.wh},(x.addF (zD i.sd) i.id i.price i.qty).2):=by
     rw[MSt.addF,y7z hn,y7z (by rw[e];decide),y7z (by omega),y7z (by simp[g])];simp only[hba]
    refine⟨⟨oM,oM⟩,oM,x,hx,⟨⟨x,i.id,i.price,i.qty⟩,i.sd⟩,rF4 ⟨rfl,hb x (y8m hx),λ_ _=>⟨(x.addF (zD i.sd) i.id i.price i.qty).1,rfl,trivial,oM,Cv.cnd.mk (λz=>⟨cM _ _,?_⟩) (λz=> ?_)⟩⟩⟩
    ·have z:(x.addF (zD i.sd) i.id i.price i.qty).2=0:=by simpa using z
     rw[ha,z];simp only[if_true]
     exact kp
    ·have z:¬(x.addF (zD i.sd) i.id i.price i.qty).2=0:=by simpa using z
     rw[ha,y7z z]
     exact kp
 ·rw[out (.inl (by omega))];exact kp
def yMx:saddC.ok Tryz.prog 186:=okw mixed (gokc lC (gokc yMv gok0)) 1 (λ_=>[]) (λ_=>[]) [0] Tryz.func186 y5c
def r3prodC:Con:=con1 (List UInt8) (λs=>[sV s]) (λ_=>[]) (λs=>s.length<=1099511627776) (λs=>yK (wO s)) (λ_=>[])
def yQh (s:List UInt8):List SAnn:=[{ι:=Nat×Nat,slots:=λx=>[(3,zA x.2),(7,.nm 0 0)],rows:=λx=>[.iter (sb s) x.1]}]
def yNv:List (Nat×SAnn):=[(20,bj 29)]
def r5checkC:Con:=con1 Prd (λp=>[prdV p]) (λ_=>[]) Prd.small (λp=>zA p.check) (λ_=>[])
def yEu:List SAnn:=[{ι:=Nat,slots:=λj=>[(3,zA j)],rows:=λ_=>[]},{ι:=Nat,slots:=λj=>[(4,zA j)],rows:=λ_=>[]},{ι:=Nat,slots:=λj=>[(5,zA j)],rows:=λ_=>[]}]
def yJj:List (Nat×SAnn):=[(12,bj 19),(32,bj 58),(40,bj 90),(68,bj 136),(96,bj 168),(104,bj 176),(112,bj 204)]
def r5countC:Con:=con1 Prd (λp=>[prdV p]) (λ_=>[]) Prd.small (λp=>zA p.count) (λ_=>[])
def r5legsC:Con:=con1 c8 (λi=>[prdV i.p,zA i.n]) (λ_=>[]) (λi=>i.p.small) (λi=> .tup [zA (i.p.legs i.n).1,zA (i.p.legs i.n).2.1,yK (i.p.legs i.n).2.2]) (λ_=>[])
def yNc (i:c8):List SAnn:=[{ι:=Nat,slots:=λm=>[(8,zA (yM i.p.months.length m)),(9,zA m)],rows:=λ_=>[]},
 {ι:=Nat×Nat,slots:=λm=>[(8,zA ((yM i.p.months.length m.1+m.2:Nat):Int)),(9,zA m.1),(10,zA ((m.1+1+m.2:Nat):Int))],rows:=λ_=>[]}]
def kN (x:Prd):Int:=2+zG x.months.length 0 3
def zV (x:Prd):Int:=1+zG x.tick 0 9
def qO (n:Nat):List Int:=(ak n).map λ(i:Nat)=>10*(i:Int)+3
def kR (t:Int) (n:Nat):List Int:=(ak n).map λ(i:Nat)=>t*(10+(i:Int))
def kprod (x:Prd):Prd:=⟨[206,169],qO (kN x).toNat,zV x,-20*zV x,100*zV x,zV x*(5+zG x.wide 0 60),1+zG x.rule 0 2,zG x.top 0 9,1+zG x.least 0 4,zG x.part 0 100,kR (zV x) (kN x).toNat⟩
@[reducible] def Prd.raw (x:Prd):Prop:=i64r x.tick/\i64r x.wide/\i64r x.rule/\i64r x.top/\i64r x.least/\i64r x.part/\x.months.length<=9223372036854775807
def kprodC:Con:=con1 Prd (λx=>[prdV x]) (λ_=>[]) Prd.raw (λx=>prdV (kprod x)) (λ_=>[])
def y5f (x:Prd) (w:Int) (j:Nat):List AObj:=[.cells [sV [206,169],.own 1,zA (zV x),zA (-20*zV x),zA (100*zV x),zA w,zA (1+zG x.rule 0 2),zA (zG x.top 0 9),zA (1+zG x.least 0 4),zA (zG x.part 0 100),.own 2] 25,.own 3 1 (iE (qO j)),.own 2 1 (iE (kR (zV x) j))]
def y2d (x:Prd):List AObj:=[.cells [sV [206,169],.d (.v (.slice none 0 0)),zA (zV x),zA (-20*zV x),zA (100*zV x),zA 0,zA (1+zG x.rule 0 2),zA (zG x.top 0 9),zA (1+zG x.least 0 4),zA (zG x.part 0 100),.d (.v (.slice none 0 0))] 25]
def yXz (x:Prd):List SAnn:=[{ι:=Nat,slots:=λj=>[(5,.nm 0 0),(6,zA j)],rows:=λj=>y5f x (zV x*(5+zG x.wide 0 60)) j}]
def yZb (x:Prd):List (Nat×SAnn):=[(12,{ι:=Unit,slots:=λ_=>[(5,.nm 0 0)],slots0:=λ_=>[],rows0:=λ_=>[],rows:=λ_=>y2d x})]
def nE (a:Bool->Prop) (b:Bool) (c:List UInt8) (d:Nat×Nat):Prop:=a b/\dh (ay (sb c) (d.fst+(be (sb c) d.fst).snd))
def qF (a:List UInt8) (b:Nat×Nat):=(↑(be (sb a) b.fst).fst:Int)
def lX (a:List UInt8) (b:Nat×Nat) (c:Bool->Prop):Prop:=∃(d:Bool),d=!(qF a b) !=930/\nE c d a b
def bI (a:Bool->Prop) (b:List UInt8) (c:Nat×Nat):Prop:=∃(d:Bool),d=!false/\nE a d b c
def z9i (s:List UInt8):Prop:=
 ∃(a:Nat×Nat),(↑a.snd:Int)=0/\sb s=sb s/\a.fst=0/\∃(b:Nat×Nat->Prop),∃(c:Nat×Nat->Nat),b a/\∀(d:Nat×Nat),b d->cnd (d.fst.blt (sb s).size) (∃(e:Bool),∃(f:Bool->Prop),cnd (decide ((qF s d)>=65)) (cnd (decide ((qF s d)<=90)) (∃(g:Bool),g=!true/\nE f g s d) (cnd (decide ((qF s d)>=913)) (cnd (decide ((qF s d)<=937)) (lX s d f) (bI f s d)) (bI f s d))) (cnd (decide ((qF s d)>=913)) (cnd (decide ((qF s d)<=937)) (lX s d f) (bI f s d)) (bI f s d))/\∀(g:Bool),f g->cnd g (∃(h:Unit),wO s=aq/\True) (cF d s b c)) (cnd (decide ((↑d.snd:Int)>=1)) (∃(e:Unit),wO s=decide ((↑d.snd:Int)<=4)/\True) (∃(e:Unit),wO s=aq/\True))
def aT (a:Prd):Prop:=av [V.d (uW a),V.own 0,V.d (dI a.tick),V.d (dI a.low),V.d (dI a.high),V.d (dI a.wide),V.d (dI a.rule),V.d (dI a.top),V.d (dI a.least),V.d (dI a.part),V.own 1] 25=av [V.d (uW a),V.own 0,V.d (dI a.tick),V.d (dI a.low),V.d (dI a.high),V.d (dI a.wide),V.d (dI a.rule),V.d (dI a.top),V.d (dI a.least),V.d (dI a.part),V.own 1] 25/\aE a
def lD (a:Nat) (b:Nat->Prop) (c:Nat->Nat) (d:Prd):Prop:=∃(e:Nat),(↑e:Int)=aa.wrap ((↑a:Int)+1)/\b e/\c e<c a/\aT d
def lG (a:Bool->Prop) (b:Prd) (c:Nat) (d:Nat->Prop) (e:Nat->Nat):Prop:=∀(f:Bool),a f->cnd f (∃(g:Unit),b.check=1/\True) (lD c d e b)
def qP (a:Bool->Prop) (b:Bool) (c:Prd):Prop:=a b/\aT c
def yP (a:Bool->Prop) (b:Prd):Prop:=∃(c:Bool),c=ap/\qP a c b
def zZo (p:Prd):Prop:=
 ∃(a:List UInt8),sb a=sb p.code/\a.length<=1099511627776/\∀(b:Unit),True->cnd (!wO a) (∃(c:Unit),p.check=12/\True) (∃(c:Bool),∃(d:Bool->Prop),cnd (decide ((xF p)<2)) (yP d p) (∃(e:Bool),e=decide ((xF p)>6)/\qP d e p)/\∀(e:Bool),d e->cnd e (∃(f:Unit),p.check=1/\True) (∃(f:Nat),(↑f:Int)=0/\∃(g:Nat->Prop),∃(h:Nat->Nat),g f/\∀(j:Nat),g j->cnd (decide ((↑j:Int)<(xF p))) (∃(k:Bool),∃(l:Bool->Prop),((0<=(↑j:Int)/\(↑j:Int)<(xF p))/\∃(m:Int),zE (iE p.months) (↑j:Int).toNat 0 1=az [dI m]/\cnd (decide (m<0)) (yP l p) ((0<=(↑j:Int)/\(↑j:Int)<(xF p))/\∃(n:Int),zE (iE p.months) (↑j:Int).toNat 0 1=az [dI n]/\cnd (decide (n>1199)) (yP l p) (cnd (decide ((↑j:Int)>0)) ((0<=aa.wrap ((↑j:Int)-1)/\aa.wrap ((↑j:Int)-1)<(xF p))/\∃(q:Int),zE (iE p.months) (aa.wrap ((↑j:Int)-1)).toNat 0 1=az [dI q]/\(0<=(↑j:Int)/\(↑j:Int)<(xF p))/\∃(r:Int),zE (iE p.months) (↑j:Int).toNat 0 1=az [dI r]/\∃(s:Bool),s=decide (q>=r)/\qP l s p) (∃(q:Bool),q=aq/\qP l q p))))/\lG l p j g h) (∃(k:Bool),∃(l:Bool->Prop),cnd (decide (p.tick<1)) (yP l p) (cnd (decide (p.tick>1000)) (yP l p) (aa=aa/\p.tick≠0/\cnd (p.low.tmod p.tick !=0) (yP l p) (aa=aa/\p.tick≠0/\cnd (p.high.tmod p.tick !=0) (yP l p) (aa=aa/\p.tick≠0/\∃(m:Bool),m=(p.wide.tmod p.tick !=0)/\qP l m p))))/\∀(m:Bool),l m->cnd m (∃(n:Unit),p.check=22/\True) (∃(n:Nat),(↑n:Int)=0/\∃(q:Nat->Prop),∃(r:Nat->Nat),q n/\∀(s:Nat),q s->cnd (decide ((↑s:Int)<(vF p))) ((0<=(↑s:Int)/\(↑s:Int)<(vF p))/\∃(t:Int),zE (iE p.settle) (↑s:Int).toNat 0 1=az [dI t]/\aa=aa/\p.tick≠0/\cnd (t.tmod p.tick !=0) (∃(u:Unit),p.check=22/\True) (lD s q r p)) (∃(t:Bool),∃(u:Bool->Prop),cnd (decide (p.low<(-1000000))) (yP u p) (cnd (decide (p.low>=p.high)) (yP u p) (cnd (decide (p.high>1000000)) (yP u p) (cnd (decide (p.wide<0)) (yP u p) (∃(v:Bool),v=decide (p.wide>aa.wrap (p.high-p.low))/\qP u v p))))/\∀(v:Bool),u v->cnd v (∃(w:Unit),p.check=23/\True) (cnd ((vF p) !=(xF p)) (∃(w:Unit),p.check=1/\True) (∃(w:Nat),(↑w:Int)=0/\∃(x:Nat->Prop),∃(y:Nat->Nat),x w/\∀(z:Nat),x z->cnd (decide ((↑z:Int)<(vF p))) (∃(a_1:Bool),∃(a_2:Bool->Prop),((0<=(↑z:Int)/\(↑z:Int)<(vF p))/\∃(a_3:Int),zE (iE p.settle) (↑z:Int).toNat 0 1=az [dI a_3]/\cnd (decide (a_3<p.low)) (yP a_2 p) ((0<=(↑z:Int)/\(↑z:Int)<(vF p))/\∃(a_4:Int),zE (iE p.settle) (↑z:Int).toNat 0 1=az [dI a_4]/\∃(a_5:Bool),a_5=decide (a_4>p.high)/\qP a_2 a_5 p))/\lG a_2 p z x y) (∃(a_1:Bool),∃(a_2:Bool->Prop),cnd (decide (p.rule<1)) (yP a_2 p) (∃(a_3:Bool),a_3=decide (p.rule>3)/\qP a_2 a_3 p)/\∀(a_3:Bool),a_2 a_3->cnd a_3 (∃(a_4:Unit),p.check=31/\True) (∃(a_4:Bool),∃(a_5:Bool->Prop),cnd (decide (p.top<0)) (yP a_5 p) (cnd (decide (p.top>1000000)) (yP a_5 p) (cnd (decide (p.least<1)) (yP a_5 p) (cnd (decide (p.least>1000)) (yP a_5 p) (cnd (decide (p.part<0)) (yP a_5 p) (∃(a_6:Bool),a_6=decide (p.part>100)/\qP a_5 a_6 p)))))/\∀(a_6:Bool),a_5 a_6->cnd a_6 (∃(a_7:Unit),p.check=24/\True) (∃(a_7:Unit),p.check=0/\True))))))))))
def zYu (p:Prd):Prop:=
 ∃(a:Prd),sX a p
def fF (a:c8) (b:Nat×Nat):=(↑(yM a.p.months.length b.fst+b.snd):Int)
def yBh (i:c8):Prop:=
 ∃(a:Prd),sb a.code=sb i.p.code/\iE a.months=iE i.p.months/\a.tick=i.p.tick/\a.low=i.p.low/\a.high=i.p.high/\a.wide=i.p.wide/\a.rule=i.p.rule/\a.top=i.p.top/\a.least=i.p.least/\a.part=i.p.part/\iE a.settle=iE i.p.settle/\(zX a)/\∀(b:Unit),True->cnd (a.check !=0) (fE i) (cnd (decide (i.n<0)) (fE i) (cnd (decide (i.n<(vM i))) (zBl i) (∃(c:Nat),(u0 i c)=(vM i)/\(↑c:Int)=0/\∃(d:Nat->Prop),∃(e:Nat->Nat),d c/\∀(f:Nat),d f->cnd (decide ((↑f:Int)<(vM i))) (∃(g:Nat×Nat),(fF i g)=(u0 i f)/\(↑g.fst:Int)=(↑f:Int)/\(↑(g.fst+1+g.snd):Int)=aa.wrap ((↑f:Int)+1)/\∃(h:Nat×Nat->Prop),∃(j:Nat×Nat->Nat),h g/\∀(k:Nat×Nat),h k->cnd (decide ((↑(k.fst+1+k.snd):Int)<(vM i))) (cnd ((fF i k)==i.n) (∃(l:Unit),(i.p.legs i.n).fst=(↑k.fst:Int)/\(i.p.legs i.n).snd.fst=(↑(k.fst+1+k.snd):Int)/\(i.p.legs i.n).snd.snd=ap/\True) (∃(l:Nat×Nat),(fF i l)=aa.wrap ((fF i k)+1)/\(↑l.fst:Int)=(↑k.fst:Int)/\(↑(l.fst+1+l.snd):Int)=aa.wrap ((↑(k.fst+1+k.snd):Int)+1)/\h l/\j l<j k/\sD i)) (∃(l:Nat),(u0 i l)=(fF i k)/\(↑l:Int)=aa.wrap ((↑k.fst:Int)+1)/\zGs d l e f i)) (fE i))))
def y3 (a:WiI):Prop:=((-9223372036854775808)<=a.n/\a.n<=9223372036854775807)/\(-1000000)<=a.lo/\a.lo<=a.hi/\a.hi<=1000000
def x9 (a:WiI):=(1+zG a.n a.lo a.hi)
def kF:=(D.v (Value.slice none 0 0))
def k0:=(D.v (ba (ByteArray.mk #[])))
def zIm (a:Prd):Prop:=av (Sx.V.agg [V.d k0,V.d kF,V.d (dI 0),V.d (dI 0),V.d (dI 0),V.d (dI 0),V.d (dI 0),V.d (dI 0),V.d (dI 0),V.d (dI 0),V.d kF]).cl 25=av (Sx.V.agg [V.d k0,V.d kF,V.d (dI 0),V.d (dI 0),V.d (dI 0),V.d (dI 0),V.d (dI 0),V.d (dI 0),V.d (dI 0),V.d (dI 0),V.d kF]).cl 25/\aT a
def zIf (a:Prd) (b:WiI) (c:WiI) (d:WiI) (e:WiI) (f:Unit->Prop):Prop:=∃(g:WiI),g.n=a.part/\g.lo=0/\g.hi=100/\(y3 g)/\∀(h:Unit),True->∃(j:Unit),sb [(206:UInt8),(169:UInt8)]=ByteArray.mk #[(206:UInt8),(169:UInt8)]/\True/\zV a=aa.wrap (x9 b)/\(-20)*zV a=aa.wrap ((-20)*aa.wrap (x9 b))/\100*zV a=aa.wrap (100*aa.wrap (x9 b))/\dh ((0:Int))/\1+zG a.rule 0 2=aa.wrap (x9 c)/\zG a.top 0 9=zG d.n d.lo d.hi/\1+zG a.least 0 4=aa.wrap (x9 e)/\zG a.part 0 100=zG g.n g.lo g.hi/\True/\f j/\zIm a
def zHx (a:Prd) (b:WiI) (c:WiI) (d:WiI) (e:WiI) (f:Unit->Prop):Prop:=a.part=a.part/\zIf a b c d e f
def zJt (a:Prd) (b:WiI) (c:WiI) (d:WiI) (e:Unit->Prop):Prop:=a.part=a.part/\dh a.least/\∃(f:WiI),f.n=a.least/\f.lo=0/\f.hi=4/\(y3 f)/\∀(g:Unit),True->zHx a b c d f e
def zHj (a:Prd) (b:WiI) (c:WiI) (d:Unit->Prop):Prop:=a.part=a.part/\dh a.least/\dh a.top/\∃(e:WiI),e.n=a.top/\e.lo=0/\e.hi=9/\(y3 e)/\∀(f:Unit),True->zJt a b c e d
def gU (a:Prd):=(kR (zV a) (kN a).toNat)
def yJz (x:Prd):Prop:=
 ∃(a:WiI),a.n=(xF x)/\a.lo=0/\a.hi=3/\(y3 a)/\∀(b:Unit),True->∃(c:WiI),c.n=x.tick/\c.lo=0/\c.hi=9/\(y3 c)/\∀(d:Unit),True->∃(e:Unit),∃(f:Unit->Prop),((∃(g:WiI),g.n=x.rule/\g.lo=0/\g.hi=2/\(y3 g)/\∀(h:Unit),True->dh x.part/\dh x.least/\dh x.top/\(∃(j:WiI),j.n=x.top/\j.lo=0/\j.hi=9/\(y3 j)/\∀(k:Unit),True->dh x.part/\dh x.least/\(∃(l:WiI),l.n=x.least/\l.lo=0/\l.hi=4/\(y3 l)/\∀(m:Unit),True->dh x.part/\(zIf x c g j l f)/\zHx x c g j l f)/\zJt x c g j f)/\zHj x c g f)/\dh x.part/\dh x.least/\dh x.top/\dh x.rule/\∃(g:WiI),g.n=x.rule/\g.lo=0/\g.hi=2/\(y3 g)/\∀(h:Unit),True->zHj x c g f)/\∀(g:Unit),f g->∃(h:WiI),h.n=x.wide/\h.lo=0/\h.hi=60/\(y3 h)/\∀(j:Unit),True->∃(k:Nat),(↑k:Int)=0/\dh (sb [(206:UInt8),(169:UInt8)])/\zV x=zV x/\dh ((-20)*zV x)/\dh (100*zV x)/\zV x*(5+zG x.wide 0 60)=aa.wrap (aa.wrap (x9 c)*aa.wrap (5+zG h.n h.lo h.hi))/\1+zG x.rule 0 (2:Int)=(1:Int)+zG x.rule 0 2/\zG x.top 0 9=zG x.top 0 (9:Int)/\(1:Int)+zG x.least 0 (4:Int)=(1:Int)+zG x.least 0 4/\dh (zG x.part 0 100)/\iE (qO k)=[]/\iE (kR (zV x) k)=[]/\∃(l:Nat->Prop),∃(m:Nat->Nat),l k/\∀(n:Nat),l n->cnd (decide ((↑n:Int)<aa.wrap (2+zG a.n a.lo a.hi))) (((iE (qO n)).length+1)*(8:Nat)<=(140737488355328:Nat)/\((iE (kR (zV x) n)).length+1)*(8:Nat)<=(140737488355328:Nat)/\∃(p:Nat),(↑p:Int)=aa.wrap ((↑n:Int)+1)/\dh (sb [(206:UInt8),(169:UInt8)])/\zV x=zV x/\dh ((-20)*zV x)/\dh (100*zV x)/\dh (zV x*(5+zG x.wide 0 60))/\1+zG x.rule 0 (2:Int)=(1:Int)+zG x.rule 0 2/\zG x.top 0 9=zG x.top 0 (9:Int)/\(1:Int)+zG x.least 0 (4:Int)=(1:Int)+zG x.least 0 4/\dh (zG x.part 0 100)/\iE (qO p)=iE (qO n)++[[dI (aa.wrap (aa.wrap (10*(↑n:Int))+3))]]/\iE (kR (zV x) p)=iE (kR (zV x) n)++[[dI (aa.wrap (aa.wrap (x9 c)*aa.wrap (10+(↑n:Int))))]]/\l p/\m p<m n/\zIm x) (∃(p:Unit),dh (sb [(206:UInt8),(169:UInt8)])/\iE (qO (kN x).toNat)=iE (qO n)/\zV x=zV x/\dh ((-20)*zV x)/\dh (100*zV x)/\dh (zV x*(5+zG x.wide 0 60))/\1+zG x.rule 0 (2:Int)=(1:Int)+zG x.rule 0 2/\zG x.top 0 9=zG x.top 0 (9:Int)/\(1:Int)+zG x.least 0 (4:Int)=(1:Int)+zG x.least 0 4/\dh (zG x.part 0 100)/\iE (gU x)=iE (kR (zV x) n)/\True)
def yOz (s:List UInt8) (h:r3prodC.cnd s):z9i s:=by
 have h:s.length<=1099511627776:=h;have hr:=zHz s;unfold z9i bI lX qF nE cF;refine⟨(0,0),rfl,rfl,rfl,λx=>x.1<=s.length/\x.2+(gB s x.1).length=(kZ s).length/\(kZ s).all gM=((gB s x.1).all λy=>gM y.2),λx=>s.length-x.1,⟨oM,by rw[kZ,y8b];simp,by rw[kZ,List.all_map];rfl⟩,?_⟩;rintro⟨p,n⟩ ⟨h1,h2,h3⟩;dsimp only at h1 h2 h3 ⊢;refine Cv.cnd.mk (λhp=> ?_) (λhp=> ?_)
 ·have hp:p<s.length:=by simpa[xBd]using hp
  have hw:=bC s hp;rw[jW hp,y8f]at h2;rw[jW hp,List.all_cons]at h3;generalize hc:(be (sb s) p).1=c at h2 h3 ⊢;generalize hww:(be (sb s) p).2=w at h2 h3 hw ⊢;dsimp only at h3;have g0:∀b:Bool,(b=ap->gM c=ap)->(b=aq->gM c=aq)->b=gM c:=λb e1 e2=>by cases b<;>simp_all
  refine⟨ap,λb=>b= !gM c,?_,λb hb=> ?_⟩
  ·refine zI (λc1=>zI (λc2=>⟨_,rfl,?_,k0q⟩) (λc2=>zI (λc3=>zI (λc4=>⟨_,rfl,?_,k0q⟩) (λc4=>⟨_,rfl,?_,k0q⟩)) (λc3=>⟨_,rfl,?_,k0q⟩))) (λc1=>zI (λc3=>zI (λc4=>⟨_,rfl,?_,k0q⟩) (λc4=>⟨_,rfl,?_,k0q⟩)) (λc3=>⟨_,rfl,?_,k0q⟩))
   all_goals congr 1
   all_goals refine g0 _ (λe=> ?_) (λe=> ?_)
   all_goals first|(simp[gM]at*;done)|(simp[gM]at*;omega)
  ·subst hb;refine Cv.cnd.mk (λe=>⟨(),?_,trivial⟩) (λe=>⟨(p+w,n+1),?_,rfl,rfl,⟨hw.2,by(first|omega|(dsimp only;omega)),?_⟩,by(first|omega|(dsimp only;omega)),trivial⟩)
   ·have e:gM c=aq:=by simpa using e
    rw[wO,h3,e];rfl
   ·rw[w64 (by omega)];rfl
   ·have e:gM c=ap:=by simpa using e
    rw[h3,e];rfl
 ·have hp:s.length<=p:=by have:=z9b hp;simpa using this
  rw[uB hp]at h2 h3;have h3:(kZ s).all gM=ap:=h3;have hn:n=(kZ s).length:=by simpa using h2
  have hne:(s=[])↔(kZ s).length=0:=by
   constructor
   ·intro e;subst e;rfl
   ·intro e;cases s with
    |nil=>rfl
    |cons b l=>
     rw[kZ,y8b,jW (by simp)]at e;simp at e
  refine zI (λc=>⟨(),?_,trivial⟩) (λc=>⟨(),?_,trivial⟩)
  ·have:¬s=[]:=by rw[hne];omega
   rw[wO,h3,y8r this,hn];simp only[xAy];congr 1;simp only[eq_iff_iff];omega
  ·have:s=[]:=by rw[hne];omega
   rw[wO,this];rfl
def yCy:r3prodC.ok Tryz.prog 171:=okw mixed gok0 0 (λ_=>yNv) (λs=>yQh s) [] Tryz.func171 yOz
def tQ:∀(l:List Int) (a:Int),l.foldl min a<=a/\∀x∈l,l.foldl min a<=x
 |[],a=>⟨xBo _,by simp⟩
 |b::l,a=>by
  obtain⟨h1,h2⟩:=tQ l (min a b);rw[xBt];refine⟨oM,λx hx=> ?_⟩;rcases y8v.1 hx with rfl|hx
  ·omega
  ·exact h2 x hx
def sG:∀(l:List Int) (a:Int),a<=l.foldl max a/\∀x∈l,x<=l.foldl max a
 |[],a=>⟨xBo _,by simp⟩
 |b::l,a=>by
  obtain⟨h1,h2⟩:=sG l (max a b);rw[xBt];refine⟨oM,λx hx=> ?_⟩;rcases y8v.1 hx with rfl|hx
  ·omega
  ·exact h2 x hx
def zCd:∀(l:List Int) (a:Int),l.foldl min a=a\/l.foldl min a∈l
 |[],a=> .inl rfl
 |b::l,a=>by
  rw[xBt];rcases zCd l (min a b)with h|h
  ·rcases Int.le_total a b with e|e
   ·left;rw[h];omega
   ·right;rw[h,show min a b=b by omega];exact y8h
  ·exact .inr (y8i _ h)
def zCa:∀(l:List Int) (a:Int),l.foldl max a=a\/l.foldl max a∈l
 |[],a=> .inl rfl
 |b::l,a=>by
  rw[xBt];rcases zCa l (max a b)with h|h
  ·rcases Int.le_total a b with e|e
   ·right;rw[h,show max a b=b by omega];exact y8h
   ·left;rw[h];omega
  ·exact .inr (y8i _ h)
def z9y {l:List Int} {x:Int} (h:x∈l):tN l<=x:=by
 cases l with
 |nil=>cases h
 |cons a l=>
  rw[tN,aj,ag];rcases y8v.1 h with rfl|h
  ·exact(tQ l x).1
  ·exact(tQ l a).2 x h
def z9w {l:List Int} {x:Int} (h:x∈l):x<=tZ l:=by
 cases l with
 |nil=>cases h
 |cons a l=>
  rw[tZ,aj,ag];rcases y8v.1 h with rfl|h
  ·exact(sG l x).1
  ·exact(sG l a).2 x h
def z0z {l:List Int} (h:l≠[]):tN l∈l:=by
 cases l with
 |nil=>exact absurd rfl h
 |cons a l=>
  rw[tN,aj,ag];rcases zCd l a with h|h
  ·rw[h];exact y8h
  ·exact y8i _ h
def z2t {l:List Int} (h:l≠[]):tZ l∈l:=by
 cases l with
 |nil=>exact absurd rfl h
 |cons a l=>
  rw[tZ,aj,ag];rcases zCa l a with h|h
  ·rw[h];exact y8h
  ·exact y8i _ h
def yJc (p:Prd) (h:r5checkC.cnd p):zZo p:=by
 obtain⟨h1,h2,h3⟩:p.small:=h;unfold zZo lG lD yP qP aT uW aE xF vF dI;simp only[yZ];refine⟨p.code,rfl,h1,λ_ _=>Cv.cnd.mk (λc1=>⟨(),by rw[Prd.check,y8c c1],trivial⟩) λc1=> ?_⟩;have c1:wO p.code=ap:=by simpa using c1
 have e1:p.check=if !xG p.months then 1 else if !qQ p then 22 else if qS p then 23 else if xM p then 1 else if kL p then 31 else if qA p then 24 else 0:=by
  rw[Prd.check,y7z (by simp[c1])]
 refine⟨ap,λb=>b=(decide (p.months.length<2)||decide (p.months.length>6)),zI (λc=>⟨ap,rfl,?_,k0q⟩) (λc=>⟨_,rfl,?_,k0q⟩),λb hb=> ?_⟩
 ·rw[y8r (show p.months.length<2 by omega)];rfl
 ·rw[y8n (show ¬p.months.length<2 by omega),xDy];congr 1;simp only[eq_iff_iff];omega
 subst hb;refine Cv.cnd.mk (λc2=> ?_) (λc2=> ?_)
 ·have:xG p.months=aq:=by
   simp only[ar,y9o]at c2;rw[xG];rcases c2 with c2|c2
   ·rw[y8n (show ¬2<=p.months.length by omega)];simp
   ·rw[y8n (show ¬p.months.length<=6 by omega)];simp
  exact⟨(),by rw[e1,y8c (by rw[this];rfl)],trivial⟩
 have c2:2<=p.months.length/\p.months.length<=6:=by
  simp only[xCf,decide_eq_false_iff_not]at c2;omega
 have em:xG p.months=(ak p.months.length).all (qZ p.months):=by
  rw[xG,y8r c2.1,y8r c2.2];simp
 refine⟨0,rfl,λj=>j<=p.months.length/\∀k<j,qZ p.months k=ap,λj=>p.months.length-j,⟨oM,λk hk=>by omega⟩,?_⟩;rintro j ⟨g1,g2⟩;refine zI (λhj=> ?_) (λhj=> ?_)
 ·obtain⟨m,hm⟩:=yC (l:=p.months) (i:=j) oM;have hmj:p.months.getD j 0=m:=zW hm;refine⟨ap,λb=>b= !qZ p.months j,⟨⟨oM,oM⟩,m,elI hm,zI (λc=>⟨ap,rfl,?_,k0q⟩) (λc=>⟨⟨oM,oM⟩,m,elI hm,zI (λd=>⟨ap,rfl,?_,k0q⟩) (λd=>zI (λe=> ?_) (λe=>⟨aq,rfl,?_,k0q⟩))⟩)⟩,λb hb=> ?_⟩
  ·rw[qZ,hmj,y8n (show ¬0<=m by omega)];rfl
  ·rw[qZ,hmj,y8n (show ¬m<=1199 by omega)];simp
  ·obtain⟨m',hm'⟩:=yC (l:=p.months) (i:=j-1) oM;rw[w64 (by omega),show((j:Int)-1).toNat=j-1 by omega];refine⟨⟨oM,oM⟩,m',elI hm',⟨oM,oM⟩,m,elI hm,_,rfl,?_,k0q⟩;rw[qZ,hmj,zW hm',y8r (show 0<=m by omega),y8r (show m<=1199 by omega),y8n (show ¬j=0 by omega)];simp only[xAy,xDy];by_cases hlt:m'<m
   ·rw[y8r hlt,y8n (by omega)];rfl
   ·rw[y8n hlt,y8r (by omega)];rfl
  ·rw[qZ,hmj,y8r (show 0<=m by omega),y8r (show m<=1199 by omega),y8r (show j=0 by omega)];rfl
  ·subst hb;refine Cv.cnd.mk (λc=>⟨(),?_,trivial⟩) (λc=>⟨j+1,by rw[w64 (by omega)];rfl,⟨oM,λk hk=> ?_⟩,by(first|omega|(dsimp only;omega)),k0q⟩)
   ·have c:qZ p.months j=aq:=by simpa using c
    rw[e1,y8c (by rw[em,zTu (k:=j) (by omega) c];rfl)]
   ·have c:qZ p.months j=ap:=by simpa using c
    rcases xAj k j with h|h
    ·exact g2 k h
    ·obtain rfl:k=j:=by omega
     exact c
 have em:xG p.months=ap:=by rw[em];exact z0j λk hk=>g2 k oM
 have e2:p.check=if !qQ p then 22 else if qS p then 23 else if xM p then 1 else if kL p then 31 else if qA p then 24 else 0:=by
  rw[e1,y7z (by simp[em])]
 have et:qQ p=((decide (1<=p.tick) && decide (p.tick<=1000) && !qU p.tick p.low && !qU p.tick p.high && !qU p.tick p.wide) && !p.settle.any (qU p.tick)):=rfl;refine⟨ap,λb=>b= !(decide (1<=p.tick) && decide (p.tick<=1000) && !qU p.tick p.low && !qU p.tick p.high && !qU p.tick p.wide),zI (λd1=>⟨ap,rfl,?_,k0q⟩) (λd1=>zI (λd2=>⟨ap,rfl,?_,k0q⟩) (λd2=>⟨trivial,oM,Cv.cnd.mk (λd3=>⟨ap,rfl,?_,k0q⟩) (λd3=>⟨trivial,oM,Cv.cnd.mk (λd4=>⟨ap,rfl,?_,k0q⟩) (λd4=>⟨trivial,oM,_,rfl,?_,k0q⟩)⟩)⟩)),λb hb=> ?_⟩
 ·rw[y8n (show ¬1<=p.tick by omega)];rfl
 ·rw[y8n (show ¬p.tick<=1000 by omega)];simp
 ·have d3:qU p.tick p.low=ap:=d3;rw[d3];simp
 ·have d4:qU p.tick p.high=ap:=d4;rw[d4];simp
 ·have d3:qU p.tick p.low=aq:=d3;have d4:qU p.tick p.high=aq:=d4;rw[d3,d4,y8r (show 1<=p.tick by omega),y8r (show p.tick<=1000 by omega)];show qU p.tick p.wide=_;simp
 subst hb;refine Cv.cnd.mk (λc3=> ?_) (λc3=> ?_)
 ·have c3:(decide (1<=p.tick) && decide (p.tick<=1000) && !qU p.tick p.low && !qU p.tick p.high && !qU p.tick p.wide)=aq:=by
   rw[xBa]at c3;exact c3
  exact⟨(),by rw[e2,y8c (by rw[et,c3];rfl)],trivial⟩
 have c3:(decide (1<=p.tick) && decide (p.tick<=1000) && !qU p.tick p.low && !qU p.tick p.high && !qU p.tick p.wide)=ap:=by simpa using c3
 have ht1:1<=p.tick:=by
  simp only[y8o,y9o]at c3;exact c3.1.1.1.1
 rw[c3,xAy]at et;refine⟨0,rfl,λj=>j<=p.settle.length/\∀k<j,∀x,p.settle[k]? =az x->qU p.tick x=aq,λj=>p.settle.length-j,⟨oM,λk hk=>by omega⟩,?_⟩;rintro j ⟨g1,g2⟩;refine zI (λhj=> ?_) (λhj=> ?_)
 ·obtain⟨m,hm⟩:=yC (l:=p.settle) (i:=j) oM;refine⟨⟨oM,oM⟩,m,elI hm,trivial,oM,Cv.cnd.mk (λc=>⟨(),?_,trivial⟩) (λc=>⟨j+1,by rw[w64 (by omega)];rfl,⟨oM,λk hk x hx=> ?_⟩,by(first|omega|(dsimp only;omega)),k0q⟩)⟩
  ·have c:qU p.tick m=ap:=c;have:p.settle.any (qU p.tick)=ap:=by rw[List.any_eq_true];exact⟨m,y8m hm,c⟩
   rw[e2,y8c (by rw[et,this];rfl)]
  ·rcases xAj k j with h|h
   ·exact g2 k h x hx
   ·obtain rfl:k=j:=by omega
    rw[hm]at hx;cases hx;exact c
 have et:qQ p=ap:=by
  rw[et];have:p.settle.any (qU p.tick)=aq:=by
   rw[xEg];intro x hx;obtain⟨k,hk⟩:=xDo hx;rw[g2 k (by have:=(y8e.1 hk).1;omega) x hk];simp
  rw[this];rfl
 have e3:p.check=if qS p then 23 else if xM p then 1 else if kL p then 31 else if qA p then 24 else 0:=by
  rw[e2,y7z (by simp[et])]
 refine⟨ap,λb=>b=qS p,zI (λd1=>⟨ap,rfl,?_,k0q⟩) (λd1=>zI (λd2=>⟨ap,rfl,?_,k0q⟩) (λd2=>zI (λd3=>⟨ap,rfl,?_,k0q⟩) (λd3=>zI (λd4=>⟨ap,rfl,?_,k0q⟩) (λd4=>⟨_,rfl,?_,k0q⟩)))),λb hb=> ?_⟩
 ·simp[qS,d1]
 ·simp[qS,d2]
 ·simp[qS,d3]
 ·simp[qS,d4]
 ·rw[w64 (by omega)];simp[qS,d1,d2,d3,d4]
 subst hb;refine Cv.cnd.mk (λc4=>⟨(),by rw[e3,y8c c4],trivial⟩) (λc4=> ?_);have e4:p.check=if xM p then 1 else if kL p then 31 else if qA p then 24 else 0:=by
  rw[e3,y7z (by simp[c4])]
 refine Cv.cnd.mk (λd6=>⟨(),?_,trivial⟩) (λd6=> ?_)
 ·have d6:¬(p.settle.length:Int)=p.months.length:=by simpa using d6
  rw[e4,y8c (by simp[xM];omega)]
 have d6:p.settle.length=p.months.length:=by
  have:(p.settle.length:Int)=p.months.length:=by simpa using d6
  omega
 have hne:p.settle≠[]:=by intro e;rw[e]at d6;simp at d6;omega
 refine⟨0,rfl,λj=>j<=p.settle.length/\∀k<j,∀x,p.settle[k]? =az x->p.low<=x/\x<=p.high,λj=>p.settle.length-j,⟨oM,λk hk=>by omega⟩,?_⟩;rintro j ⟨g3,g4⟩;refine zI (λhj=> ?_) (λhj=> ?_)
 ·obtain⟨m,hm⟩:=yC (l:=p.settle) (i:=j) oM;have hmm:=y8m hm;refine⟨ap,λb=>b=(decide (m<p.low)||decide (m>p.high)),⟨⟨oM,oM⟩,m,elI hm,zI (λc=>⟨ap,rfl,?_,k0q⟩) (λc=>⟨⟨oM,oM⟩,m,elI hm,_,rfl,?_,k0q⟩)⟩,λb hb=> ?_⟩
  ·rw[y8r c];rfl
  ·rw[y8n c,xDy]
  ·subst hb;refine Cv.cnd.mk (λc=>⟨(),?_,trivial⟩) (λc=>⟨j+1,by rw[w64 (by omega)];rfl,⟨oM,λk hk x hx=> ?_⟩,by(first|omega|(dsimp only;omega)),k0q⟩)
   ·have l1:=z9y hmm;have l2:=z9w hmm;rw[e4,y8c (by
     simp only[ar,y9o]at c;simp only[xM,ar,y9o];rcases c with c|c
     ·left;right;omega
     ·right;omega)]
   ·rcases xAj k j with h|h
    ·exact g4 k h x hx
    ·obtain rfl:k=j:=by omega
     rw[hm]at hx;cases hx;simp only[xCf,decide_eq_false_iff_not]at c;omega
 have hset:xM p=aq:=by
  have all:∀x∈p.settle,p.low<=x/\x<=p.high:=λx hx=>by
   obtain⟨k,hk⟩:=xDo hx;exact g4 k (by have:=(y8e.1 hk).1;omega) x hk
  have a1:=all _ (z0z hne);have a2:=all _ (z2t hne);simp only[xM,xCf,decide_eq_false_iff_not];omega
 have e5:p.check=if kL p then 31 else if qA p then 24 else 0:=by
  rw[e4,y7z (by simp[hset])]
 refine⟨ap,λb=>b=kL p,zI (λd1=>⟨ap,rfl,?_,k0q⟩) (λd1=>⟨_,rfl,?_,k0q⟩),λb hb=> ?_⟩
 ·simp[kL,d1]
 ·simp[kL,d1]
 subst hb;refine Cv.cnd.mk (λc6=>⟨(),by rw[e5,y8c c6],trivial⟩) (λc6=> ?_);have e6:p.check=if qA p then 24 else 0:=by rw[e5,y7z (by simp[c6])]
 refine⟨ap,λb=>b=qA p,zI (λd1=>⟨ap,rfl,?_,k0q⟩) (λd1=>zI (λd2=>⟨ap,rfl,?_,k0q⟩) (λd2=>zI (λd3=>⟨ap,rfl,?_,k0q⟩) (λd3=>zI (λd4=>⟨ap,rfl,?_,k0q⟩) (λd4=>zI (λd5=>⟨ap,rfl,?_,k0q⟩) (λd5=>⟨_,rfl,?_,k0q⟩))))),λb hb=> ?_⟩
 ·simp[qA,d1]
 ·simp[qA,d2]
 ·simp[qA,d3]
 ·simp[qA,d4]
 ·simp[qA,d5]
 ·simp[qA,d1,d2,d3,d4,d5]
 subst hb;exact Cv.cnd.mk (λc7=>⟨(),by rw[e6,y8c c7],trivial⟩) (λc7=>⟨(),by rw[e6,y7z (by simp[c7])],trivial⟩)
def zQl:r5checkC.ok Tryz.prog 143:=okw mixed (gokc yCy gok0) 0 (λ_=>yJj) (λ_=>yEu) [] Tryz.func143 yJc
def pX {p:Prd} (h:p.check=0):p.count=p.months.length+p.months.length*(p.months.length-1) / 2:=by rw[Prd.count,y8c h]
def zNq {p:Prd} (h:p.check≠0):p.count=0:=by rw[Prd.count,y7z h]
def yJx (p:Prd) (h:r5countC.cnd p):zYu p:=by
 have hs:p.small:=h;unfold zYu sX xF zX;simp only[yZ];refine⟨p,rF7 (rF3 ⟨rfl,hs,λ_ _=>Cv.cnd.mk (λc=>⟨(),?_,trivial⟩) (λc=>⟨trivial,Z8,(),?_,trivial⟩)⟩)⟩
 ·rw[zNq (by simpa using c)];rfl
 ·have c:p.check=0:=by simpa using c
  have m6:=(kK c).m6;have m2:=(kK c).m2;rw[pX c];generalize p.months.length=n at*;have:n=2\/n=3\/n=4\/n=5\/n=6:=by omega
  rcases this with rfl|rfl|rfl|rfl|rfl<;>decide
def z4l:r5countC.ok Tryz.prog 102:=okw mixed (gokc zQl gok0) 0 (λ_=>[]) (λ_=>[]) [] Tryz.func102 yJx
def yJr:∀n≤6,∀a<n,∀b<n-1-a,jC n (yM n a+b) n 0=((a:Int),((a+1+b:Nat):Int),ap)/\yM n a+b<n+n*(n-1) / 2/\n<=yM n a+b:=by decide
def yCh:∀n≤6,yM n n=n+n*(n-1) / 2:=by decide
def yPq {p:Prd} (h:p.check=0) {a b:Nat} (ha:a<p.months.length) (hb:b<p.months.length-1-a):p.legs ((yM p.months.length a+b:Nat):Int)=((a:Int),((a+1+b:Nat):Int),ap):=by
 obtain⟨h1,h2,h3⟩:=yJr _ (kK h).m6 a ha b hb;rw[Prd.legs,y7z (by rw[pX h];omega),y7z (by omega),y8s];exact h1
def yOc (i:c8) (h:r5legsC.cnd i):yBh i:=by
 have hs:i.p.small:=h;unfold yBh fF zGs sD vM u0 zBl fE zX dI;simp only[yZ];refine⟨i.p,rF7 (rF3 ⟨rfl,hs,λ_ _=>Cv.cnd.mk (λc=> ?_) (λc=>zI (λc1=> ?_) (λc1=>zI (λc2=> ?_) (λc2=> ?_)))⟩)⟩
 ·rw[Prd.legs,y8c (by rw[zNq (by simpa using c)];omega)];exact kp
 ·rw[Prd.legs,y8c (.inl c1)];exact kp
 ·have c:i.p.check=0:=by simpa using c
  rw[Prd.legs,y7z (by rw[pX c];omega),y8c c2];exact kp
 ·have c:i.p.check=0:=by simpa using c
  have m6:=(kK c).m6;obtain⟨k,hk⟩:∃k:Nat,i.n=k:=⟨i.n.toNat,oM⟩
  have sp:=λ(a b:Nat) ha hb=>yPq (p:=i.p) c (a:=a) (b:=b) ha hb
  have fe:=yCh _ m6;have out:i.p.count<=k->i.p.legs (k:Int)=(0,0,aq):=λe=>by rw[Prd.legs,y8c (by omega)]
  rw[pX c,<- fe]at out;rw[hk]at c2 ⊢;generalize hn:i.p.months.length=n at*;refine⟨0,rfl,rfl,λm=>m<=n/\yM n m<=k,λm=>n-m,⟨oM,by show n<=k;omega⟩,?_⟩;rintro m ⟨g1,g2⟩;have hf:=zNn m6 g1;refine zI (λc4=> ?_) (λc4=> ?_)
  ·refine⟨(m,0),rfl,rfl,by rw[w64 (by omega)];simp,λx=>x.1=m/\x.2<=n-1-m/\yM n m+x.2<=k,λx=>n-1-m-x.2,⟨rfl,by(first|omega|(dsimp only;omega)),by(first|omega|(dsimp only;omega))⟩,?_⟩;rintro⟨a,b⟩ ⟨g3,g4,g5⟩;dsimp only at g3 g4 g5 ⊢;subst g3;refine zI (λc5=>Cv.cnd.mk (λe=> ?_) (λe=> ?_)) (λc5=> ?_)
   ·have e:((yM n a+b:Nat):Int)=(k:Int):=by simpa using e
    have:=sp a b oM oM;rw[e]at this;rw[this];exact kp
   ·have e:¬((yM n a+b:Nat):Int)=(k:Int):=by simpa using e
    refine⟨(a,b+1),?_,rfl,?_,⟨rfl,by(first|omega|(dsimp only;omega)),by(first|omega|(dsimp only;omega))⟩,by(first|omega|(dsimp only;omega)),k0q⟩
    ·rw[w64 (by omega)];dsimp only;omega
    ·rw[w64 (by omega)];dsimp only;omega
   ·refine⟨a+1,?_,by rw[w64 (by omega)];rfl,⟨oM,?_⟩,by(first|omega|(dsimp only;omega)),k0q⟩
    ·rw[yM];omega
    ·rw[yM];omega
  ·obtain rfl:m=n:=by omega
   rw[out g2];exact kp
def yDn:r5legsC.ok Tryz.prog 103:=okw mixed (gokc zQl gok0) 0 (λ_=>[]) (λi=>yNc i) [] Tryz.func103 yOc
def zGe (x:Prd):1<=zV x/\zV x<=10:=by
 have:=yV (n:=x.tick) (lo:=0) (hi:=9) oM;rw[zV];omega
def yFs (x:Prd):2<=kN x/\kN x<=5:=by
 have:=yV (n:=(x.months.length:Int)) (lo:=0) (hi:=3) oM;rw[kN];omega
def lQ {a b m n:Int} (ha:0<=a/\a<=m) (hb:0<=b/\b<=n):0<=a*b/\a*b<=m*n:=by
 refine⟨xEh ha.1 hb.1,?_⟩;exact Int.le_trans (Int.mul_le_mul_of_nonneg_right ha.2 hb.1) (xCy hb.2 oM)
def zVu (j:Nat):iE (qO (j+1))=iE (qO j)++[[D.v (.int .i64 (10*(j:Int)+3))]]:=by
 rw[qO,xCw,y8k,iE,y8k];rfl
def zVz (t:Int) (j:Nat):iE (kR t (j+1))=iE (kR t j)++[[D.v (.int .i64 (t*(10+(j:Int))))]]:=by
 rw[kR,xCw,y8k,iE,y8k];rfl
def lE (j:Nat):(qO j).length=j:=by simp[qO]
def mZ (t:Int) (j:Nat):(kR t j).length=j:=by simp[kR]
def yXb (x:Prd) (h:kprodC.cnd x):yJz x:=by
 obtain⟨h1,h2,h3,h4,h5,h6,h7⟩:x.raw:=h;have hw: -1000000<=(0:Int):=by decide
 have bt:=yV (n:=x.tick) (lo:=0) (hi:=9) oM;have bw:=yV (n:=x.wide) (lo:=0) (hi:=60) oM;have br:=yV (n:=x.rule) (lo:=0) (hi:=2) oM;have bl:=yV (n:=x.least) (lo:=0) (hi:=4) oM;have bn:=yV (n:=(x.months.length:Int)) (lo:=0) (hi:=3) oM;have kt:=zGe x;have kn:=yFs x;have w1:aa.wrap (1+zG x.tick 0 9)=zV x:=w64 oM;have w2:aa.wrap (-20*aa.wrap (1+zG x.tick 0 9))= -20*zV x:=by rw[w1];exact w64 oM
 have w3:aa.wrap (100*aa.wrap (1+zG x.tick 0 9))=100*zV x:=by rw[w1];exact w64 oM
 have w4:aa.wrap (1+zG x.rule 0 2)=1+zG x.rule 0 2:=w64 oM;have w5:aa.wrap (1+zG x.least 0 4)=1+zG x.least 0 4:=w64 oM;have w6:aa.wrap (2+zG x.months.length 0 3)=kN x:=w64 oM;have mb:=lQ (a:=zV x) (b:=5+zG x.wide 0 60) (m:=10) (n:=65) oM oM;have w7:aa.wrap (aa.wrap (1+zG x.tick 0 9)*aa.wrap (5+zG x.wide 0 60))=zV x*(5+zG x.wide 0 60):=by
  rw[w1,w64 (x:=5+zG x.wide 0 60) (by omega)];exact w64 oM
 unfold yJz gU zHj zJt zHx zIf zIm k0 kF aT uW aE x9 y3 xF dI;simp only[yZ];refine⟨⟨x.months.length,0,3⟩,rfl,rfl,rfl,⟨⟨Z9,Z9⟩,Z9,Z9,Z9⟩,λ_ _=>⟨⟨x.tick,0,9⟩,rfl,rfl,rfl,⟨h1,Z9,Z9,Z9⟩,λ_ _=> ?_⟩⟩;dsimp only;refine⟨(),λ_=>True,?_,λ_ _=> ?_⟩
 ·repeat'(first|exact trivial|exact rfl|exact w1.symm|exact w2.symm|exact w3.symm|exact w4.symm|exact w5.symm|apply au|refine⟨⟨x.rule,0,2⟩,rfl,rfl,rfl,⟨h3,Z9,Z9,Z9⟩,λ_ _=> ?_⟩|refine⟨⟨x.top,0,9⟩,rfl,rfl,rfl,⟨h4,Z9,Z9,Z9⟩,λ_ _=> ?_⟩|refine⟨⟨x.least,0,4⟩,rfl,rfl,rfl,⟨h5,Z9,Z9,Z9⟩,λ_ _=> ?_⟩|refine⟨⟨x.part,0,100⟩,rfl,rfl,rfl,⟨h6,Z9,Z9,Z9⟩,λ_ _=> ?_⟩|refine⟨(),?_⟩)
 ·refine⟨⟨x.wide,0,60⟩,rfl,rfl,rfl,⟨h2,Z9,Z9,Z9⟩,λ_ _=> ?_⟩;dsimp only;rw[w7,w6];refine⟨0,by(first|exact rfl|exact trivial),by(first|exact rfl|exact trivial),by(first|exact rfl|exact trivial),by(first|exact rfl|exact trivial),by(first|exact rfl|exact trivial),by(first|exact rfl|exact trivial),by(first|exact rfl|exact trivial),by(first|exact rfl|exact trivial),by(first|exact rfl|exact trivial),by(first|exact rfl|exact trivial),by(first|exact rfl|exact trivial),by(first|exact rfl|exact trivial),λj=>j<=(kN x).toNat,λj=>(kN x).toNat-j,oM,?_⟩;intro j hj;rw[lE,mZ];refine zI (λc=>⟨oM,oM,j+1,by rw[w64 (by omega)];rfl,by(first|exact rfl|exact trivial),by(first|exact rfl|exact trivial),by(first|exact rfl|exact trivial),by(first|exact rfl|exact trivial),by(first|exact rfl|exact trivial),by(first|exact rfl|exact trivial),by(first|exact rfl|exact trivial),by(first|exact rfl|exact trivial),by(first|exact rfl|exact trivial),?_,?_,by(first|omega|(dsimp only;omega)),by(first|omega|(dsimp only;omega)),k0q⟩) (λc=>⟨(),?_⟩)
  ·rw[zVu,w64 (x:=10*(j:Int)) (by omega),w64 (by omega)]
  ·have mj:=lQ (a:=zV x) (b:=10+(j:Int)) (m:=10) (n:=20) oM oM;rw[zVz,w1,w64 (x:=10+(j:Int)) (by omega),w64 (by omega)]
  ·have e:(kN x).toNat=j:=by omega
   rw[e];(repeat'(first|exact trivial|exact rfl|apply au))
def kprod_ok:kprodC.ok Tryz.prog 8:=okw mixed (gokc zJe gok0) 0 (λx=>yZb x) (λx=>yXz x) [] Tryz.func8 yXb
structure Cmd where
 kind:Int
 id:Int
 inst:Int
 side:Int
 price:Int
 qty:Int
 least:Int
 time:Int
 label:List UInt8
 deriving DecidableEq
@[reducible] def Cmd.cells (c:Cmd):List V:=[zA c.kind,zA c.id,zA c.inst,zA c.side,zA c.price,zA c.qty,zA c.least,zA c.time,sV c.label]
@[reducible] def zGp (c:Cmd):V:= .agg c.cells
def cmdE (c:Cmd):List D:=[.v (.int .i64 c.kind),.v (.int .i64 c.id),.v (.int .i64 c.inst),.v (.int .i64 c.side),.v (.int .i64 c.price),.v (.int .i64 c.qty),.v (.int .i64 c.least),.v (.int .i64 c.time),.v (.string (sb c.label))]
def zVb:Cmd:=⟨0,0,0,0,0,0,0,0,[]⟩
@[reducible] def Cmd.raw (c:Cmd):Prop:=i64r c.kind/\i64r c.id/\i64r c.inst/\i64r c.side/\i64r c.price/\i64r c.qty/\i64r c.least/\i64r c.time
structure TmI where
 p:Prd
 c:Cmd
 i:Int
def uF (c:Cmd):Int:=if 4<1+zG c.kind 0 8 then 1 else 1+zG c.kind 0 8
def y4 (t:TmI):Cmd:=⟨uF t.c,1+zG t.c.id 0 30,zG t.c.inst 0 (t.p.count-1),1+zG t.c.side 0 1,t.p.tick*zG t.c.price 0 9,1+zG t.c.qty 0 11,0,0,[]⟩
def f8 (c:Cmd):Int:=if c.time.tmod 5=3 then 3 else if c.time.tmod 5=2 then 2 else 1
def cU (c:Cmd) (q:Int):Int:=if c.least.tmod 4=1 then zG c.least 0 q else 0
def xE (t:TmI):Cmd:=
 let h:=y4 t
 if h.kind=1 then{h with id:=t.i+1,time:=f8 t.c,least:=cU t.c h.qty,price:=if(t.p.legs h.inst).2.2=ap then h.price-4*t.p.tick else h.price+8*t.p.tick}
 else{h with price:=if h.kind=4 then h.price+5*t.p.tick else h.price,side:=0,inst:=0}
def tameC:Con:=con1 TmI (λt=>[prdV t.p,zGp t.c,zA t.i]) (λ_=>[]) (λt=>t.p.check=0/\t.p.small/\t.c.raw/\0<=t.i/\t.i<=1000000) (λt=>zGp (xE t)) (λ_=>[])
def cj (k:Nat):Nat×SAnn:=(k,{ι:=Cmd,slots:=λ_=>[(7,.nm 0 0)],slots0:=λ_=>[(7,.nm 0 0)],rows0:=λc=>[.cells c.cells 44],rows:=λc=>[.cells c.cells 44]})
def y2j:List (Nat×SAnn):=[cj 14,cj 54,cj 62,cj 70]
def zFy (a:Cmd) (b:Cmd) (c:Cmd->Prop) (d:TmI):Prop:=sb a.label=sb b.label/\c a/\dh (av (Sx.V.agg [V.d (dI 0),V.d (dI 0),V.d (dI 0),V.d (dI 0),V.d (dI 0),V.d (dI 0),V.d (dI 0),V.d (dI 0),V.d k0]).cl 44)/\dh (av [V.d (dI d.c.kind),V.d (dI d.c.id),V.d (dI d.c.inst),V.d (dI d.c.side),V.d (dI d.c.price),V.d (dI d.c.qty),V.d (dI d.c.least),V.d (dI d.c.time),V.d (D.v (ba (sb d.c.label)))] 44)/\dh (av [V.d (D.v (ba (sb d.p.code))),V.own 0,V.d (dI d.p.tick),V.d (dI d.p.low),V.d (dI d.p.high),V.d (dI d.p.wide),V.d (dI d.p.rule),V.d (dI d.p.top),V.d (dI d.p.least),V.d (dI d.p.part),V.own 1] 25)/\dh (ax 1 (iE d.p.settle))/\dh (ax 1 (iE d.p.months))
def zPm (a:Cmd) (b:Cmd) (c:Cmd->Prop) (d:TmI):Prop:=a.time=b.time/\zFy a b c d
def zPp (a:Cmd) (b:Cmd) (c:Cmd->Prop) (d:TmI):Prop:=a.id=b.id/\a.inst=b.inst/\a.side=b.side/\a.price=b.price/\a.qty=b.qty/\a.least=b.least/\zPm a b c d
def eQ (a:Cmd) (b:Cmd->Prop) (c:TmI):Prop:=∃(d:Cmd),d.kind=a.kind/\zPp d a b c
def zIc (a:TmI) (b:WiI) (c:Cmd):Prop:=(xE a).qty=aa.wrap (x9 b)/\(xE a).least=c.least/\(xE a).time=c.time/\sb (xE a).label=sb c.label/\True
def zJv (a:TmI) (b:Cmd):Prop:=(xE a).qty=b.qty/\(xE a).least=b.least/\(xE a).time=b.time/\sb (xE a).label=sb b.label/\True
def yRw (t:TmI):Prop:=
 ∃(a:WiI),a.n=t.c.kind/\a.lo=0/\a.hi=8/\(y3 a)/\∀(b:Unit),True->∃(c:WiI),c.n=t.c.id/\c.lo=0/\c.hi=30/\(y3 c)/\∀(d:Unit),True->∃(e:Cmd),e.kind=aa.wrap (x9 a)/\e.id=aa.wrap (x9 c)/\e.inst=0/\e.side=0/\e.price=0/\e.qty=0/\e.least=0/\e.time=0/\sb e.label=ByteArray.mk #[]/\∃(f:Cmd->Prop),cnd (decide (e.kind>4)) (∃(g:Cmd),g.kind=1/\zPp g e f t) (eQ e f t)/\∀(g:Cmd),f g->∃(h:Prd),sb h.code=sb t.p.code/\iE h.months=iE t.p.months/\h.tick=t.p.tick/\h.low=t.p.low/\h.high=t.p.high/\h.wide=t.p.wide/\h.rule=t.p.rule/\h.top=t.p.top/\h.least=t.p.least/\h.part=t.p.part/\iE h.settle=iE t.p.settle/\(zX h)/\∀(j:Unit),True->∃(k:WiI),k.n=t.c.inst/\k.lo=0/\k.hi=aa.wrap ((↑h.count:Int)-1)/\(y3 k)/\∀(l:Unit),True->∃(m:WiI),m.n=t.c.side/\m.lo=0/\m.hi=1/\(y3 m)/\∀(n:Unit),True->∃(p:WiI),p.n=t.c.qty/\p.lo=0/\p.hi=11/\(y3 p)/\∀(q:Unit),True->∃(r:WiI),r.n=t.c.price/\r.lo=0/\r.hi=9/\(y3 r)/\∀(s:Unit),True->dh t.p.tick/\cnd (g.kind==1) (∃(u:Cmd),u.kind=g.kind/\u.id=aa.wrap (t.i+1)/\u.inst=zG k.n k.lo k.hi/\u.side=aa.wrap (x9 m)/\u.price=aa.wrap (t.p.tick*zG r.n r.lo r.hi)/\u.qty=aa.wrap (x9 p)/\u.least=g.least/\u.time=1/\sb u.label=sb g.label/\∃(v:Cmd->Prop),(aa=aa/\(5:Int)≠(0:Int)/\cnd (t.c.time.tmod (5:Int)==(2:Int)) (∃(w:Cmd),w.kind=u.kind/\w.id=u.id/\w.inst=u.inst/\w.side=u.side/\w.price=u.price/\w.qty=u.qty/\w.least=u.least/\w.time=2/\zFy w u v t) (eQ u v t))/\∀(w:Cmd),v w->∃(x:Cmd),x.kind=w.kind/\x.id=w.id/\x.inst=w.inst/\x.side=w.side/\x.price=w.price/\x.qty=w.qty/\x.least=w.least/\x.time=w.time/\sb x.label=sb w.label/\∃(y:Cmd->Prop),(aa=aa/\(5:Int)≠(0:Int)/\cnd (t.c.time.tmod (5:Int)==(3:Int)) (∃(z:Cmd),z.kind=x.kind/\z.id=x.id/\z.inst=x.inst/\z.side=x.side/\z.price=x.price/\z.qty=x.qty/\z.least=x.least/\z.time=3/\zFy z x y t) (eQ x y t))/\∀(z:Cmd),y z->∃(a_1:Cmd),a_1.kind=z.kind/\a_1.id=z.id/\a_1.inst=z.inst/\a_1.side=z.side/\a_1.price=z.price/\a_1.qty=z.qty/\a_1.least=z.least/\a_1.time=z.time/\sb a_1.label=sb z.label/\∃(a_2:Cmd->Prop),(aa=aa/\(4:Int)≠(0:Int)/\cnd (t.c.least.tmod (4:Int)==(1:Int)) (∃(a_3:WiI),a_3.n=t.c.least/\a_3.lo=0/\a_3.hi=a_1.qty/\(y3 a_3)/\∀(a_4:Unit),True->∃(a_5:Cmd),a_5.kind=a_1.kind/\a_5.id=a_1.id/\a_5.inst=a_1.inst/\a_5.side=a_1.side/\a_5.price=a_1.price/\a_5.qty=a_1.qty/\a_5.least=zG a_3.n a_3.lo a_3.hi/\zPm a_5 a_1 a_2 t) (eQ a_1 a_2 t))/\∀(a_3:Cmd),a_2 a_3->∃(a_4:c8),sb a_4.p.code=sb t.p.code/\iE a_4.p.months=iE t.p.months/\a_4.p.tick=t.p.tick/\a_4.p.low=t.p.low/\a_4.p.high=t.p.high/\a_4.p.wide=t.p.wide/\a_4.p.rule=t.p.rule/\a_4.p.top=t.p.top/\a_4.p.least=t.p.least/\a_4.p.part=t.p.part/\iE a_4.p.settle=iE t.p.settle/\a_4.n=a_3.inst/\(jL a_4)/\∀(a_5:Unit),True->cnd (!(a_4.p.legs a_4.n).snd.snd) (∃(a_6:Unit),(xE t).kind=a_3.kind/\(xE t).id=a_3.id/\(xE t).inst=a_3.inst/\(xE t).side=a_3.side/\(xE t).price=aa.wrap (a_3.price+aa.wrap (8*t.p.tick))/\zJv t a_3) (∃(a_6:Unit),(xE t).kind=a_3.kind/\(xE t).id=a_3.id/\(xE t).inst=a_3.inst/\(xE t).side=a_3.side/\(xE t).price=aa.wrap (a_3.price-aa.wrap (4*t.p.tick))/\zJv t a_3)) (cnd (g.kind==4) (∃(u:Unit),(xE t).kind=g.kind/\(xE t).id=g.id/\(xE t).inst=0/\(xE t).side=0/\(xE t).price=aa.wrap (aa.wrap (t.p.tick*zG r.n r.lo r.hi)+aa.wrap (5*t.p.tick))/\zIc t p g) (∃(u:Unit),(xE t).kind=g.kind/\(xE t).id=g.id/\(xE t).inst=0/\(xE t).side=0/\(xE t).price=aa.wrap (t.p.tick*zG r.n r.lo r.hi)/\zIc t p g))
def y1s (t:TmI) (h:tameC.cnd t):yRw t:=by
 obtain⟨hc,hs,⟨r1,r2,r3,r4,r5,r6,r7,r8⟩,i0,i1⟩:t.p.check=0/\t.p.small/\t.c.raw/\0<=t.i/\t.i<=1000000:=h;have ok:=kK hc;have t1:=ok.t1;have t2:=ok.t2;have m2:=ok.m2;have hcl:=xJ t.p;have hcd:=pX hc;have bk:=yV (n:=t.c.kind) (lo:=0) (hi:=8) oM;have bi:=yV (n:=t.c.id) (lo:=0) (hi:=30) oM;have bs:=yV (n:=t.c.side) (lo:=0) (hi:=1) oM;have bq:=yV (n:=t.c.qty) (lo:=0) (hi:=11) oM;have bp:=yV (n:=t.c.price) (lo:=0) (hi:=9) oM;have mb:=lQ (a:=t.p.tick) (b:=zG t.c.price 0 9) (m:=1000) (n:=9) oM oM;have wp:aa.wrap (t.p.tick*zG t.c.price 0 9)=t.p.tick*zG t.c.price 0 9:=w64 oM;unfold yRw eQ zPp zPm zFy k0 zJv zIc x9 y3 zX jL dI;refine⟨⟨t.c.kind,0,8⟩,rfl,rfl,rfl,⟨r1,Z9,Z9,Z9⟩,λ_ _=>⟨⟨t.c.id,0,30⟩,rfl,rfl,rfl,⟨r2,Z9,Z9,Z9⟩,λ_ _=> ?_⟩⟩;dsimp only;rw[w64 (x:=1+zG t.c.kind 0 8) (by omega),w64 (x:=1+zG t.c.id 0 30) (by omega)];refine⟨⟨1+zG t.c.kind 0 8,1+zG t.c.id 0 30,0,0,0,0,0,0,[]⟩,rF8 ⟨rfl,λc=>c=⟨uF t.c,1+zG t.c.id 0 30,0,0,0,0,0,0,[]⟩,zI (λe=>⟨⟨uF t.c,1+zG t.c.id 0 30,0,0,0,0,0,0,[]⟩,?_,rfl,rfl,rfl,rfl,rfl,rfl,rfl,rfl,rfl,k0q⟩) (λe=>⟨⟨uF t.c,1+zG t.c.id 0 30,0,0,0,0,0,0,[]⟩,?_,rfl,rfl,rfl,rfl,rfl,rfl,rfl,rfl,rfl,k0q⟩),λc hcc=> ?_⟩⟩
 ·dsimp only at e ⊢;rw[uF,y8c (by omega)]
 ·dsimp only at e ⊢;rw[uF,y7z (by omega)]
 subst hcc;refine⟨t.p,rF7 (rF3 ⟨rfl,hs,λ_ _=> ?_⟩)⟩;rw[w64 (x:=(t.p.count:Int)-1) (by omega)];refine⟨⟨t.c.inst,0,(t.p.count:Int)-1⟩,rfl,rfl,rfl,⟨r3,Z9,Z9,Z9⟩,λ_ _=>⟨⟨t.c.side,0,1⟩,rfl,rfl,rfl,⟨r4,Z9,Z9,Z9⟩,λ_ _=>⟨⟨t.c.qty,0,11⟩,rfl,rfl,rfl,⟨r6,Z9,Z9,Z9⟩,λ_ _=>⟨⟨t.c.price,0,9⟩,rfl,rfl,rfl,⟨r5,Z9,Z9,Z9⟩,λ_ _=>⟨rfl,?_⟩⟩⟩⟩⟩;dsimp only;rw[wp,w64 (x:=1+zG t.c.side 0 1) (by omega),w64 (x:=1+zG t.c.qty 0 11) (by omega),w64 (x:=t.i+1) (by omega)];refine Cv.cnd.mk (λk=> ?_) (λk=> ?_)
 ·have k:uF t.c=1:=by simpa using k
  refine⟨{y4 t with id:=t.i+1,time:=1},rF8 ⟨rfl,λc=>c={y4 t with id:=t.i+1,time:=if t.c.time.tmod 5=2 then 2 else 1},⟨rfl,Z8,Cv.cnd.mk (λe=>⟨{y4 t with id:=t.i+1,time:=2},rF8 ⟨rfl,?_,k0q⟩⟩) (λe=>⟨{y4 t with id:=t.i+1,time:=1},rF8 ⟨rfl,?_,k0q⟩⟩)⟩,λc hcc=> ?_⟩⟩
  ·have e:t.c.time.tmod 5=2:=by simpa using e
   rw[y8c e]
  ·have e:¬t.c.time.tmod 5=2:=by simpa using e
   rw[y7z e]
  subst hcc;refine⟨{y4 t with id:=t.i+1,time:=if t.c.time.tmod 5=2 then 2 else 1},rF8 ⟨rfl,λc=>c={y4 t with id:=t.i+1,time:=f8 t.c},⟨rfl,Z8,Cv.cnd.mk (λe=>⟨{y4 t with id:=t.i+1,time:=3},rF8 ⟨rfl,?_,k0q⟩⟩) (λe=>⟨{y4 t with id:=t.i+1,time:=if t.c.time.tmod 5=2 then 2 else 1},rF8 ⟨rfl,?_,k0q⟩⟩)⟩,λc hcc=> ?_⟩⟩
  ·have e:t.c.time.tmod 5=3:=by simpa using e
   rw[f8,y8c e]
  ·have e:¬t.c.time.tmod 5=3:=by simpa using e
   rw[f8,y7z e]
  subst hcc;have hq:(y4 t).qty=1+zG t.c.qty 0 11:=rfl;refine⟨{y4 t with id:=t.i+1,time:=f8 t.c},rF8 ⟨rfl,λc=>c={y4 t with id:=t.i+1,time:=f8 t.c,least:=cU t.c (y4 t).qty},⟨rfl,Z8,Cv.cnd.mk (λe=>⟨⟨t.c.least,0,(y4 t).qty⟩,rfl,rfl,rfl,⟨r7,Z9,Z9,Z9⟩,λ_ _=>⟨{y4 t with id:=t.i+1,time:=f8 t.c,least:=zG t.c.least 0 (y4 t).qty},rF8 ⟨rfl,?_,k0q⟩⟩⟩) (λe=>⟨{y4 t with id:=t.i+1,time:=f8 t.c},rF8 ⟨rfl,?_,k0q⟩⟩)⟩,λc hcc=> ?_⟩⟩
  ·have e:t.c.least.tmod 4=1:=by simpa using e
   rw[cU,y8c e]
  ·have e:¬t.c.least.tmod 4=1:=by simpa using e
   rw[cU,y7z e];rfl
  subst hcc;refine⟨⟨t.p,(y4 t).inst⟩,rF8 (rF3 ⟨rfl,hs,λ_ _=> ?_⟩)⟩;dsimp only;have hp:(y4 t).price=t.p.tick*zG t.c.price 0 9:=rfl;have hk1:(y4 t).kind=1:=k;rw[w64 (x:=8*t.p.tick) (by omega),w64 (x:=4*t.p.tick) (by omega),w64 (x:=(y4 t).price+8*t.p.tick) (by omega),w64 (x:=(y4 t).price-4*t.p.tick) (by omega)];refine Cv.cnd.mk (λe=>⟨(),?_⟩) (λe=>⟨(),?_⟩)
  ·have e:(t.p.legs (y4 t).inst).2.2=aq:=by simpa using e
   have:xE t={y4 t with id:=t.i+1,time:=f8 t.c,least:=cU t.c (y4 t).qty,price:=(y4 t).price+8*t.p.tick}:=by
    simp only[xE,hk1,if_true,e,y8u,if_false]
   rw[this];(repeat'(first|exact trivial|exact rfl|apply au))
  ·have e:(t.p.legs (y4 t).inst).2.2=ap:=by simpa using e
   have:xE t={y4 t with id:=t.i+1,time:=f8 t.c,least:=cU t.c (y4 t).qty,price:=(y4 t).price-4*t.p.tick}:=by
    simp only[xE,hk1,if_true,e]
   rw[this];(repeat'(first|exact trivial|exact rfl|apply au))
 ·have k:¬uF t.c=1:=by simpa using k
  have k:¬(y4 t).kind=1:=k;rw[w64 (x:=5*t.p.tick) (by omega),w64 (x:=t.p.tick*zG t.c.price 0 9+5*t.p.tick) (by omega)];have et:xE t={y4 t with price:=if(y4 t).kind=4 then(y4 t).price+5*t.p.tick else(y4 t).price,side:=0,inst:=0}:=by
   simp only[xE,k,if_false]
  rw[et];refine Cv.cnd.mk (λe=>⟨(),?_⟩) (λe=>⟨(),?_⟩)
  ·have e:uF t.c=4:=by simpa using e
   have e:(y4 t).kind=4:=e;simp only[y8c e];(repeat'(first|exact trivial|exact rfl|apply au))
  ·have e:¬uF t.c=4:=by simpa using e
   have e:¬(y4 t).kind=4:=e;simp only[y7z e];(repeat'(first|exact trivial|exact rfl|apply au))
def yMt:tameC.ok Tryz.prog 45:=okw mixed (gokc zJe (gokc z4l (gokc yDn gok0))) 0 (λ_=>y2j) (λ_=>[]) [] Tryz.func45 y1s
structure ShI where
 a:Int
 b:Int
 c:Int
def add64C:Con:=con1 ShI (λi=>[lK i.a,lK i.b,lK i.c]) (λ_=>[]) (λi=>0<=i.a/\0<=i.b/\0<=i.c/\i.c<=1) (λi=> .tup [lK ((i.a+i.b+i.c) % 18446744073709551616),lK ((i.a+i.b+i.c) / 18446744073709551616)]) (λ_=>[])
def yDl {P : Program} {f : FuncId} {fn : Func} (hf : P.funcs[f]? = some fn) (hname : (fn.name == "runtime.NumGoroutine") = false) (hb : fn.body.isNone = true) (hn : Extern.findNext fn = none) (he : Extern.find fn = some add64Entry) : add64C.ok P f := by
 intro i hc k L E w ys R hv;obtain⟨h1,h2,h3,h4⟩:0<=i.a/\0<=i.b/\0<=i.c/\i.c<=1:=hc;simp only[add64C,con1,VRL,VR,DR]at hv;obtain⟨_,_,rfl,⟨rfl,_⟩,_,_,rfl,⟨rfl,_⟩,_,_,rfl,⟨rfl,_⟩,rfl⟩:=hv;unfold Does;rw[run_callFunc_extern hf hname hb hn he,run_add64 i.a i.b i.c h1 h2 h3 h4];simp only[Result.andThen];refine⟨_,y9u.2 rfl,(),trivial,E,Ev.le.refl _,?_,R⟩;simp only[add64C,con1,VR,VRL,DR];exact⟨_,rfl,_,_,rfl,⟨rfl,rfl⟩,_,_,rfl,⟨rfl,rfl⟩,rfl⟩
def yCt:add64C.ok Tryz.prog 233:=by
 refine yDl (P:=Tryz.prog) (f:=233) (fn:=Tryz.f233) Tryz.func233 ?_ ?_ ?_ ?_
 ·kernel_rfl
 ·kernel_rfl
 ·kernel_rfl
 ·kernel_rfl
structure M2 where
 a:Int
 b:Int
def mul64C:Con:=con1 M2 (λi=>[lK i.a,lK i.b]) (λ_=>[]) (λi=>0<=i.a/\i.a<=2000000000/\0<=i.b/\i.b<=2000000000) (λi=> .tup [lK 0,lK (i.a*i.b)]) (λ_=>[])
def div64C:Con:=con1 M2 (λi=>[lK 0,lK i.a,lK i.b]) (λ_=>[]) (λi=>0<=i.a/\i.a<=4000000000000000000/\1<=i.b/\i.b<=2000000000) (λi=> .tup [lK (i.a / i.b),lK (i.a % i.b)]) (λ_=>[])
def ishareC:Con:=con1 ShI (λi=>[zA i.a,zA i.b,zA i.c]) (λ_=>[]) (λi=>0<=i.a/\i.a<=2000000000/\0<=i.b/\i.b<=2000000000/\1<=i.c/\i.c<=2000000000) (λi=> .tup [zA (i.a*i.b / i.c),yK ap]) (λ_=>[])
def isumC:Con:=con1 (List Int) (λl=>[iV l]) (λ_=>[]) (λl=>l.length<=1000/\∀x∈l,0<=x/\x<=1000000) (λl=> .tup [zA l.sum,yK ap]) (λ_=>[])
def y5b (l:List Int):List SAnn:=[{ι:=Nat,slots:=λj=>[(4,lK (l.take j).sum),(5,zA 0),(11,zA j)],rows:=λ_=>[]}]
structure LqI where
 l:List Int
 q:Int
def yX (l:List Int) (q:Int):Bool:=decide (l.length<=250) && decide (0<=q) && l.all (λn=>decide (1<=n) && decide (n<=1000000)) && decide (q<=l.sum)
def rightC:Con:=con1 LqI (λi=>[iV i.l,zA i.q]) (λ_=>[]) (λi=>i.l.length<=1000000/\i64r i.q) (λi=>yK (yX i.l i.q)) (λ_=>[])
def yVv (i:LqI):List SAnn:=[{ι:=Nat,slots:=λj=>[(5,zA (i.l.take j).sum),(17,zA j)],rows:=λ_=>[]}]
def hY:List Int->Int->List Int
 |[],_=>[]
 |n::l,q=>min n q::hY l (q-min n q)
def gI (l:List Int) (q:Int):List Int:=if yX l q=ap then hY l q else[]
def fifoC:Con:=con1 LqI (λi=>[iV i.l,zA i.q]) (λ_=>[]) (λi=>i.l.length<=1000000/\i64r i.q) (λ_=> .own 0) (λi=>[.own 2 1 (iE (gI i.l i.q))])
def y1a (i:LqI):List SAnn:=[{ι:=Nat,slots:=λj=>[(5,.own 0),(1,zA (i.q-((hY i.l i.q).take j).sum)),(15,zA j)],rows:=λj=>[.own 2 1 (iE ((hY i.l i.q).take j))]}]
def zEe (a:M2):=(ab.wrap (ab.wrap (aO ab a.a 32*zDc ab a.b 4294967295)+aO ab (ab.wrap (zDc ab a.a 4294967295*zDc ab a.b 4294967295)) 32))
def yKp (i:M2):Prop:=
 (0:Int)<=(32:Int)/\(0:Int)<=(32:Int)/\(0:Int)<=(32:Int)/\(0:Int)<=(32:Int)/\(0:Int)<=(32:Int)/\∃(a:Unit),0=ab.wrap (ab.wrap (ab.wrap (aO ab i.a 32*aO ab i.b 32)+aO ab (zEe i) 32)+aO ab (ab.wrap (zDc ab (zEe i) 4294967295+ab.wrap (zDc ab i.a 4294967295*aO ab i.b 32))) 32)/\i.a*i.b=ab.wrap (i.a*i.b)/\True
def yFn (i:M2):Prop:=
 cnd (i.b==0) False (cnd (decide (i.b<=0)) False (ab=ab/\i.b≠0/\ab=ab/\i.b≠0/\∃(a:Unit),i.a / i.b=ab.wrap (i.a.tdiv i.b)/\i.a % i.b=i.a.tmod i.b/\True))
def z7i (i:ShI):Prop:=
 cnd (decide (i.a<0)) (∃(a:Unit),i.a*i.b / i.c=0/\ap=aq/\True) (cnd (decide (i.b<0)) (∃(a:Unit),i.a*i.b / i.c=0/\ap=aq/\True) (cnd (decide (i.c<1)) (∃(a:Unit),i.a*i.b / i.c=0/\ap=aq/\True) (∃(a:M2),a.a=ab.wrap i.a/\a.b=ab.wrap i.b/\(0<=a.a/\a.a<=(2000000000:Int)/\(0:Int)<=a.b/\a.b<=2000000000)/\∀(b:Unit),True->cnd (decide (0>=ab.wrap i.c)) (∃(c:Unit),i.a*i.b / i.c=0/\ap=aq/\True) (∃(c:M2),dh ((0:Int))/\c.a=a.a*a.b/\c.b=ab.wrap i.c/\(0<=c.a/\c.a<=(4000000000000000000:Int)/\(1:Int)<=c.b/\c.b<=2000000000)/\∀(d:Unit),True->cnd (decide (c.a / c.b>9223372036854775807)) (∃(e:Unit),i.a*i.b / i.c=0/\ap=aq/\True) (∃(e:Unit),i.a*i.b / i.c=aa.wrap (c.a / c.b)/\ap=ap/\True)))))
def yRz (l:List Int):Prop:=
 ∃(a:Nat),(ae a l).sum=(0:Int)/\(0:Int)=0/\(↑a:Int)=0/\∃(b:Nat->Prop),∃(c:Nat->Nat),b a/\∀(d:Nat),b d->cnd (decide ((↑d:Int)<(↑(iE l).length:Int))) ((0<=(↑d:Int)/\(↑d:Int)<(↑(iE l).length:Int))/\∃(e:Int),zE (iE l) (↑d:Int).toNat 0 1=az [dI e]/\∃(f:ShI),f.a=(ae d l).sum/\f.b=ab.wrap e/\f.c=0/\(0<=f.a/\0<=f.b/\0<=f.c/\f.c<=1)/\∀(g:Unit),True->(0:Int)<=(63:Int)/\∃(h:Nat),(ae h l).sum=(f.a+f.b+f.c) % (18446744073709551616:Int)/\(0:Int)=aa.wrap (0+aa.wrap (aO aa e 63+aa.wrap ((f.a+f.b+f.c) / (18446744073709551616:Int))))/\qW h d b c) ((0:Int)<=(63:Int)/\cnd (0 !=aO aa (aa.wrap (ae d l).sum) 63) (∃(e:Unit),l.sum=0/\ap=aq/\True) (∃(e:Unit),l.sum=aa.wrap (ae d l).sum/\ap=ap/\True))
def yHk (i:LqI):Prop:=
 cnd (decide ((↑(iE i.l).length:Int)>250)) (∃(a:Unit),yX i.l i.q=aq/\True) (cnd (decide (i.q<0)) (∃(a:Unit),yX i.l i.q=aq/\True) (∃(a:Nat),(ae a i.l).sum=0/\(↑a:Int)=0/\∃(b:Nat->Prop),∃(c:Nat->Nat),b a/\∀(d:Nat),b d->cnd (decide ((↑d:Int)<(↑(iE i.l).length:Int))) ((0<=(↑d:Int)/\(↑d:Int)<(↑(iE i.l).length:Int))/\∃(e:Int),zE (iE i.l) (↑d:Int).toNat 0 1=az [dI e]/\cnd (decide (e<1)) (∃(f:Unit),yX i.l i.q=aq/\True) (cnd (decide (e>1000000)) (∃(f:Unit),yX i.l i.q=aq/\True) (∃(f:Nat),(ae f i.l).sum=aa.wrap ((ae d i.l).sum+e)/\qW f d b c))) (∃(e:Unit),yX i.l i.q=decide (i.q<=(ae d i.l).sum)/\True)))
def wM (a:LqI):Prop:=a.l.length<=(1000000:Nat)/\(-9223372036854775808:Int)<=a.q/\a.q<=9223372036854775807
def wL (a:Nat) (b:LqI):=(ae a (hY b.l b.q))
def yTh (i:LqI):Prop:=
 ∃(a:LqI),iE a.l=iE i.l/\a.q=i.q/\(wM a)/\∀(b:Unit),True->cnd (!yX a.l a.q) (∃(c:Unit),iE (gI i.l i.q)=[]/\True) (∃(c:Nat),i.q-(wL c i).sum=i.q/\(↑c:Int)=0/\iE (wL c i)=[]/\∃(d:Nat->Prop),∃(e:Nat->Nat),d c/\∀(f:Nat),d f->cnd (decide ((↑f:Int)<(↑(iE i.l).length:Int))) ((0<=(↑f:Int)/\(↑f:Int)<(↑(iE i.l).length:Int))/\∃(g:Int),zE (iE i.l) (↑f:Int).toNat 0 1=az [dI g]/\((iE (wL f i)).length+1)*(8:Nat)<=(140737488355328:Nat)/\∃(h:Nat),i.q-(wL h i).sum=aa.wrap (i.q-(wL f i).sum-min g (i.q-(wL f i).sum))/\(↑h:Int)=aa.wrap ((↑f:Int)+1)/\iE (wL h i)=iE (wL f i)++[[dI (min g (i.q-(wL f i).sum))]]/\d h/\e h<e f/\True) (∃(g:Unit),iE (gI i.l i.q)=iE (wL f i)/\True))
def zWz {x:Int} (h0:0<=x) (h1:x<4294967296):zDc .u64 x 4294967295=x:=by
 have e:zDc .u64 x 4294967295=ab.wrap ((BitVec.ofInt 64 x &&& BitVec.ofInt 64 4294967295).toNat:Int):=rfl;obtain⟨n,rfl⟩:=Int.eq_ofNat_of_zero_le h0;have hn:n<4294967296:=by omega
 rw[e,BitVec.toNat_and,BitVec.ofInt_natCast,BitVec.toNat_ofNat,show(BitVec.ofInt 64 4294967295).toNat=2 ^ 32-1 by decide,Nat.and_two_pow_sub_one_eq_mod];rw[show n % 2 ^ 64 % 2 ^ 32=n by omega,zCx (by omega)]
def zMq {x:Int} (h0:0<=x) (h1:x<4294967296):aO .u64 x 32=0:=by
 have:=zFj .u64 x 32 Z8;rw[show((32:Nat):Int)=32 by rfl]at this;rw[this];omega
def z9x {a b m n:Int} (ha:0<=a/\a<=m) (hb:0<=b/\b<=n):0<=a*b/\a*b<=m*n:=
 ⟨xEh ha.1 hb.1,Int.mul_le_mul ha.2 hb.2 hb.1 oM⟩
def yYe (i:M2) (h:mul64C.cnd i):yKp i:=by
 obtain⟨h1,h2,h3,h4⟩:0<=i.a/\i.a<=2000000000/\0<=i.b/\i.b<=2000000000:=h;have hm:=z9x ⟨h1,h2⟩ ⟨h3,h4⟩;have hs:aO ab (i.a*i.b) 32=(i.a*i.b) / 4294967296:=by
  have:=zFj .u64 (i.a*i.b) 32 Z8;rw[show((32:Nat):Int)=32 by rfl]at this;exact this
 unfold yKp zEe;refine⟨Z8,Z8,Z8,Z8,Z8,(),?_,?_,trivial⟩
 ·rw[zWz h1 (by omega),zWz h3 (by omega),zMq h1 (by omega),zMq h3 (by omega),zCx (x:=i.a*i.b) (by omega),hs];simp only[Int.zero_mul,Int.mul_zero,Int.zero_add,Int.add_zero];rw[zCx (x:=0) (by omega)];simp only[Int.zero_add,Int.add_zero];rw[zCx (x:=i.a*i.b / 4294967296) (by omega),zMq (x:=i.a*i.b / 4294967296) (by omega) (by omega),zWz (x:=i.a*i.b / 4294967296) (by omega) (by omega),zCx (x:=i.a*i.b / 4294967296) (by omega),zMq (x:=i.a*i.b / 4294967296) (by omega) (by omega)];rfl
 ·rw[zCx (by omega)]
def yGp:mul64C.ok Tryz.prog 227:=okw mixed gok0 0 (λ_=>[]) (λ_=>[]) [] Tryz.func227 yYe
def yYq (i:M2) (h:div64C.cnd i):yFn i:=by
 obtain⟨h1,h2,h3,h4⟩:0<=i.a/\i.a<=4000000000000000000/\1<=i.b/\i.b<=2000000000:=h;unfold yFn;have hd:0<=i.a / i.b/\i.a / i.b<=i.a:=⟨Int.ediv_nonneg h1 oM,Int.ediv_le_self _ h1⟩
 refine Cv.cnd.mk (λc=>absurd (eq_of_beq c) oM) (λ_=>zI (λc=>by omega) (λ_=>⟨rfl,oM,rfl,oM,(),?_,?_,trivial⟩))
 ·rw[Int.tdiv_eq_ediv_of_nonneg h1,zCx (by omega)]
 ·rw[Int.tmod_eq_emod_of_nonneg h1]
def yIi:div64C.ok Tryz.prog 228:=okw mixed gok0 0 (λ_=>[]) (λ_=>[]) [] Tryz.func228 yYq
def yNw (i:ShI) (h:ishareC.cnd i):z7i i:=by
 obtain⟨h1,h2,h3,h4,h5,h6⟩:0<=i.a/\i.a<=2000000000/\0<=i.b/\i.b<=2000000000/\1<=i.c/\i.c<=2000000000:=h;have hm:=z9x ⟨h1,h2⟩ ⟨h3,h4⟩;have hd:0<=i.a*i.b / i.c/\i.a*i.b / i.c<=i.a*i.b:=⟨Int.ediv_nonneg hm.1 oM,Int.ediv_le_self _ hm.1⟩
 unfold z7i;rw[zCx (x:=i.a) (by omega),zCx (x:=i.b) (by omega),zCx (x:=i.c) (by omega)];refine zI (λc=>by omega) (λ_=>zI (λc=>by omega) (λ_=>zI (λc=>by omega) (λ_=>⟨⟨i.a,i.b⟩,rfl,rfl,⟨h1,h2,h3,h4⟩,λ_ _=>zI (λc=>by omega) (λ_=>⟨⟨i.a*i.b,i.c⟩,rfl,rfl,rfl,⟨hm.1,Z9,h5,h6⟩,λ_ _=>zI (λc=>by dsimp only at c;omega) (λ_=>⟨(),?_,rfl,trivial⟩)⟩)⟩)));rw[w64 (by dsimp only;omega)]
def zSz:ishareC.ok Tryz.prog 223:=okw mixed (gokc yGp (gokc yIi gok0)) 0 (λ_=>[]) (λ_=>[]) [] Tryz.func223 yNw
def wjn {j:Nat} (h:j<=1000000):((j+1:Nat):Int)=aa.wrap ((j:Int)+1):=by rw[w64 (by omega)];rfl
def j6 {l:List Int} {j:Nat} {x:Int} (h:l[j]? =az x):(l.take (j+1)).sum=(l.take j).sum+x:=by
 rw[y9g,h];simp
def j0 {l:List Int} (h:∀x∈l,0<=x/\x<=1000000):∀j:Nat,0<=(l.take j).sum/\(l.take j).sum<=1000000*j
 |0=>by simp
 |j+1=>by
  have ih:=j0 h j;cases hx:l[j]? with
  |none=>
   have:l.take (j+1)=l.take j:=by
    rw[y9g,hx];simp
   rw[this];omega
  |some x=>
   have:=h x (y8m hx);rw[j6 hx];omega
def y3e (l:List Int) (h:isumC.cnd l):yRz l:=by
 obtain⟨hl,hb⟩:l.length<=1000/\∀x∈l,0<=x/\x<=1000000:=h;unfold yRz qW dI;simp only[yZ];refine⟨0,by(first|exact rfl|exact trivial),by(first|exact rfl|exact trivial),by(first|exact rfl|exact trivial),λj=>j<=l.length,λj=>l.length-j,y9c _,λj hj=>zI (λc=> ?_) (λc=> ?_)⟩
 ·have hj':j<l.length:=by omega
  obtain⟨x,hx⟩:=yC (l:=l) (i:=j) hj';have bx:=hb x (y8m hx);have bs:=j0 hb j;refine⟨⟨oM,oM⟩,x,elI hx,⟨(l.take j).sum,x,0⟩,rfl,by rw[zCx (by omega)],rfl,⟨bs.1,bx.1,Z9,Z9⟩,λ_ _=>⟨Z8,j+1,?_,?_,wjn oM,hj',Z9,trivial⟩⟩
  ·rw[j6 hx];dsimp only;omega
  ·have e:aO aa x 63=x / 9223372036854775808:=by
    have:=zFj .i64 x 63 Z8;rw[show((63:Nat):Int)=63 by rfl]at this;exact this
   dsimp only;rw[e,show x / 9223372036854775808=0 by omega,show((l.take j).sum+x+0) / 18446744073709551616=0 by omega];rfl
 ·have hj':j=l.length:=by omega
  subst hj';have bs:=j0 hb l.length;rw[xAx]at bs;have e:aO aa l.sum 63=l.sum / 9223372036854775808:=by
   have:=zFj .i64 l.sum 63 Z8;rw[show((63:Nat):Int)=63 by rfl]at this;exact this
  rw[xAx,w64 (x:=l.sum) (by omega),e,show l.sum / 9223372036854775808=0 by omega];exact⟨Z8,Cv.cnd.mk (λc=>absurd c Z8) (λ_=>⟨(),by(first|exact rfl|exact trivial),by(first|exact rfl|exact trivial),trivial⟩)⟩
def yOe:isumC.ok Tryz.prog 230:=okw mixed (gokc yCt gok0) 0 (λ_=>[]) (λl=>y5b l) [] Tryz.func230 y3e
def yXi (i:LqI) (h:rightC.cnd i):yHk i:=by
 obtain⟨hl,hq⟩:i.l.length<=1000000/\i64r i.q:=h;unfold yHk qW dI;simp only[yZ];refine zI (λc=>⟨(),?_,trivial⟩) (λc1=>zI (λc=>⟨(),?_,trivial⟩) (λc2=> ?_))
 ·rw[yX,y8n (by omega:¬i.l.length<=250)];rfl
 ·rw[yX,y8n (by omega:¬0<=i.q)];simp
 refine⟨0,by(first|exact rfl|exact trivial),by(first|exact rfl|exact trivial),λj=>j<=i.l.length/\∀k<j,∀x,i.l[k]? =az x->1<=x/\x<=1000000,λj=>i.l.length-j,⟨y9c _,λk hk=>absurd hk (Nat.not_lt_zero k)⟩,λj hj=>zI (λc=> ?_) (λc=> ?_)⟩
 ·obtain⟨hj0,hjb⟩:=hj;have hj':j<i.l.length:=by omega
  obtain⟨x,hx⟩:=yC (l:=i.l) (i:=j) hj';have bad (hn:¬(1<=x/\x<=1000000)):yX i.l i.q=aq:=by
   have:(i.l.all λn=>decide (1<=n) && decide (n<=1000000))=aq:=by
    rw[List.all_eq_false];exact⟨x,y8m hx,by simpa using hn⟩
   rw[yX,this];simp
  have bs:0<=(i.l.take j).sum/\(i.l.take j).sum<=1000000*j:=by
   have:=j0 (l:=i.l.take j) (λy hy=>by
    obtain⟨k,hk⟩:=xAr.1 hy;have hkj:k<j:=by
     have:=(y8e.1 hk).1;rw[y8t]at this;omega
    rw[List.getElem?_take_of_lt hkj]at hk;have:=hjb k hkj y hk;omega) j
   rwa [List.take_take,Nat.min_self]at this
  refine⟨⟨oM,oM⟩,x,elI hx,zI (λd=>⟨(),bad oM,trivial⟩) (λd=>zI (λe=>⟨(),bad oM,trivial⟩) (λe=>⟨j+1,?_,wjn oM,⟨hj',λk hk y hy=> ?_⟩,Z9,trivial⟩))⟩
  ·rw[j6 hx,w64 (by omega)]
  ·by_cases hkj:k=j
   ·rw[hkj,hx]at hy;cases hy;omega
   ·exact hjb k oM y hy
 ·obtain⟨hj0,hjb⟩:=hj;have hj':j=i.l.length:=by omega
  subst hj';have:(i.l.all λn=>decide (1<=n) && decide (n<=1000000))=ap:=by
   rw[xBh];intro y hy;obtain⟨k,hk⟩:=xAr.1 hy;have:=hjb k ((y8e.1 hk).1) y hk;simpa using this
  refine⟨(),?_,trivial⟩;rw[yX,this,y8r (by omega:i.l.length<=250),y8r (by omega:0<=i.q),xAx];rfl
def zEn:rightC.ok Tryz.prog 221:=okw mixed gok0 0 (λ_=>[]) (λi=>yVv i) [] Tryz.func221 yXi
def jP {l:List Int} {q:Int} (h:yX l q=ap):l.length<=250/\0<=q/\(∀x∈l,1<=x/\x<=1000000)/\q<=l.sum:=by
 simp only[yX,y8o,y9o,xBh]at h;exact⟨h.1.1.1,h.1.1.2,h.1.2,h.2⟩
def zLt {l:List Int} {q:Int} (h:yX l q=ap):q<=250000000:=by
 obtain⟨h1,h2,h3,h4⟩:=jP h;have:=j0 (l:=l) (λx hx=>by have:=h3 x hx;omega) l.length;rw[xAx]at this;omega
def lZ:∀(l:List Int) (q:Int),(hY l q).length=l.length
 |[],_=>rfl
 |n::l,q=>by rw[hY,y8f,y8f,lZ l]
def zQr:∀(l:List Int) (q:Int) (j:Nat) (n:Int),l[j]? =az n->(hY l q)[j]? =az (min n (q-((hY l q).take j).sum))
 |[],_,_,_,h=>by simp at h
 |m::l,q,0,n,h=>by simp at h;subst h;simp[hY]
 |m::l,q,j+1,n,h=>by
  rw[y9z]at h;rw[hY,y9z,zQr l _ j n h,y9l,y9p];congr 2;omega
def zJo:∀(l:List Int) (q:Int) (j:Nat),0<=q->(∀x∈l,0<=x)->0<=q-((hY l q).take j).sum/\q-((hY l q).take j).sum<=q
 |[],q,j,h,_=>by simp[hY,h]
 |m::l,q,0,h,_=>by simp[h]
 |m::l,q,j+1,h,hb=>by
  have hm:=hb m y8h;have:=zJo l (q-min m q) j oM (λx hx=>hb x (y8i _ hx));rw[hY,y9l,y9p];omega
def y2i (i:LqI) (h:fifoC.cnd i):yTh i:=by
 obtain⟨hl,hq⟩:i.l.length<=1000000/\i64r i.q:=h;unfold yTh wL wM dI;refine⟨i,rfl,rfl,⟨hl,hq⟩,λ_ _=>Cv.cnd.mk (λc=> ?_) (λc=> ?_)⟩
 ·have c:yX i.l i.q=aq:=by simpa using c
  refine⟨(),?_,trivial⟩;rw[gI,y7z (by rw[c];decide)];rfl
 have c:yX i.l i.q=ap:=by simpa using c
 obtain⟨h1,h2,h3,h4⟩:=jP c;have hq2:=zLt c;have h3':∀x∈i.l,0<=x:=λx hx=>by have:=h3 x hx;omega
 simp only[yZ];refine⟨0,by simp,rfl,rfl,λj=>j<=i.l.length,λj=>i.l.length-j,y9c _,λj hj=>zI (λd=> ?_) (λd=> ?_)⟩
 ·have hj':j<i.l.length:=by omega
  obtain⟨x,hx⟩:=yC (l:=i.l) (i:=j) hj';have bx:=h3 x (y8m hx);have g:=zQr i.l i.q j x hx;have r:=zJo i.l i.q j h2 h3';refine⟨⟨oM,oM⟩,x,elI hx,by rw[y8t];omega,j+1,?_,wjn oM,?_,hj',Z9,trivial⟩
  ·rw[j6 g,w64 (by omega)];omega
  ·rw[y9g,g];simp[iE]
 ·have hj':j=i.l.length:=by omega
  subst hj';refine⟨(),?_,trivial⟩;rw[gI,y8c c,y8l (by rw[lZ];omega)]
def z9r:fifoC.ok Tryz.prog 210:=okw mixed (gokc zEn gok0) 0 (λ_=>[]) (λi=>y1a i) [] Tryz.func210 y2i
structure Ent where
 slot:Int
 id:Int
 qty:Int
 top:Bool
 deriving DecidableEq
def y2a:Ent:=⟨0,0,0,aq⟩
def zLg (e:Ent):List D:=[.v (.int .i64 e.slot),.v (.int .i64 e.id),.v (.int .i64 e.qty),.v (.bool e.top)]
@[reducible] def y6h (e:Ent):V:= .agg [zA e.slot,zA e.id,zA e.qty,yK e.top]
def Slot.ent (s:Slot):Ent:=⟨s.n,s.id,s.qty,s.top⟩
def Arena.slotAt (a:Arena) (k:Nat):Slot:=a.slots.getD k slot0
def Arena.getF (a:Arena) (n:Int):Ent×Bool:=if a.usedAt n=ap then((a.slotAt n.toNat).ent,ap)else(y2a,aq)
def agetC:Con:=con1 ArN (λi=>[.nm 0 0,zA i.n]) (λi=>[j7 i.a]) (λi=>i.a.slots.length<=1000000) (λi=> .tup [y6h (i.a.getF i.n).1,yK (i.a.getF i.n).2]) (λi=>[j7 i.a])
def z0s (sl:List Slot):Int->List Nat->Prop
 |at_,[]=>at_= -1
 |at_,k::l=>at_=k/\k<sl.length/\z0s sl (sl.getD k slot0).back l
structure ArL where
 a:Arena
 n:Int
 l:List Nat
def eB (l:List Nat) (j:Nat):Int:=match l[j]? with
 |some k=>k
 |none=> -1
def Arena.ents (a:Arena) (l:List Nat):List Ent:=l.map λk=>(a.slotAt k).ent
structure Arena.listOk (a:Arena) (n:Int) (l:List Nat):Prop where
 len:l.length<=1000000
 ch:if 0<=n/\n<a.queues.length then z0s a.slots (a.queues.getD n.toNat aU).first l else l=[]
def alistC:Con:=con1 ArL (λi=>[.nm 0 0,zA i.n]) (λi=>[j7 i.a]) (λi=>i.a.listOk i.n i.l) (λ_=> .own 1) (λi=>[j7 i.a,.own 247 4 ((i.a.ents i.l).map zLg)])
def yXg (i:ArL):List SAnn:=[{ι:=Nat,slots:=λj=>[(5,.own 0),(6,zA (eB i.l j))],rows:=λj=>[.own 247 4 ((i.a.ents (i.l.take j)).map zLg)]}]
structure TkI where
 a:Arena
 n:Int
 qty:Int
def Arena.dropF (a:Arena) (k:Nat):Arena:=
 let s:=a.slotAt k
 let q:=a.queues.getD s.queue.toNat aU
 let sl1:=if s.ahead= -1 then a.slots else a.slots.modify s.ahead.toNat λx=>{x with back:=s.back}
 let sl2:=if s.back= -1 then sl1 else sl1.modify s.back.toNat λx=>{x with ahead:=s.ahead}
 ⟨sl2.set k slot0,a.queues.set s.queue.toNat ⟨if s.ahead= -1 then s.back else q.first,if s.back= -1 then s.ahead else q.last,q.total,aa.wrap (q.count-1)⟩,aa.wrap (a.free+1)⟩
def Arena.less (a:Arena) (k:Nat) (qty:Int):Arena:=
 {a with slots:=a.slots.modify k λs=>{s with qty:=s.qty-qty},queues:=a.queues.modify (a.slotAt k).queue.toNat λq=>{q with total:=aa.wrap (q.total-qty)}}
def Arena.takeF (a:Arena) (n qty:Int):Arena×Int:=
 if a.usedAt n=aq then(a,26)else if qty<1\/(a.slotAt n.toNat).qty<qty then(a,24)
 else if(a.slotAt n.toNat).qty=qty then((a.less n.toNat qty).dropF n.toNat,0)else(a.less n.toNat qty,0)
def Arena.okAt (a:Arena):Prop:=a.slots.length<=1000000/\∀(k:Nat) (s:Slot),a.slots[k]? =az s->s.used=ap->(0<=s.queue/\s.queue<a.queues.length)/\s.qty<=1000000/\(s.ahead= -1\/(0<=s.ahead/\s.ahead<a.slots.length/\s.ahead≠k))/\(s.back= -1\/(0<=s.back/\s.back<a.slots.length/\s.back≠k))
def atakeC:Con:=con1 TkI (λi=>[.nm 0 0,zA i.n,zA i.qty]) (λi=>[j7 i.a]) (λi=>i.a.okAt) (λi=>zA (i.a.takeF i.n i.qty).2) (λi=>[j7 (i.a.takeF i.n i.qty).1])
def zBo (a:ArN):Prop:=∃(b:Unit),(a.a.getF a.n).fst.slot=0/\(a.a.getF a.n).fst.id=0/\(a.a.getF a.n).fst.qty=0/\(a.a.getF a.n).fst.top=aq/\(a.a.getF a.n).snd=aq/\jY a
def yUb (i:ArN):Prop:=
 cnd (decide (i.n<0)) (zBo i) (cnd (decide (i.n>=(↑(ac zS i.a.slots).length:Int))) (zBo i) ((0<=i.n/\i.n<(↑(ac zS i.a.slots).length:Int))/\∃(a:Bool),zE (ac zS i.a.slots) i.n.toNat 0 1=az [D.v (.bool a)]/\cnd (!a) (zBo i) ((0<=i.n/\i.n<(↑(ac zS i.a.slots).length:Int))/\∃(b:Int),∃(c:Int),∃(d:Int),∃(e:Bool),zE (ac zS i.a.slots) i.n.toNat 1 4=az [dI b,dI c,dI d,D.v (.bool e)]/\∃(f:Unit),(i.a.getF i.n).fst.slot=b/\(i.a.getF i.n).fst.id=c/\(i.a.getF i.n).fst.qty=d/\(i.a.getF i.n).fst.top=e/\(i.a.getF i.n).snd=ap/\jY i)))
def zDe (a:ArL):Prop:=∃(b:Unit),dh a.a.free/\dh (ac zS a.a.slots)/\dh (ac zO a.a.queues)/\ac zLg (a.a.ents a.l)=[]/\True
def yMe (i:ArL):Prop:=
 cnd (decide (i.n>=0)) (cnd (!decide (i.n<(↑(ac zO i.a.queues).length:Int))) (zDe i) ((0<=i.n/\i.n<(↑(ac zO i.a.queues).length:Int))/\∃(a:Int),zE (ac zO i.a.queues) i.n.toNat 0 1=az [dI a]/\∃(b:Nat),eB i.l b=a/\ac zLg (i.a.ents (ae b i.l))=[]/\∃(c:Nat->Prop),∃(d:Nat->Nat),c b/\∀(e:Nat),c e->cnd (eB i.l e !=(-1)) ((0<=eB i.l e/\eB i.l e<(↑(ac zS i.a.slots).length:Int))/\∃(f:Int),∃(g:Int),∃(h:Int),∃(j:Bool),zE (ac zS i.a.slots) (eB i.l e).toNat 1 4=az [dI f,dI g,dI h,D.v (.bool j)]/\((ac zLg (i.a.ents (ae e i.l))).length+1)*(32:Nat)<=(140737488355328:Nat)/\(0<=eB i.l e/\eB i.l e<(↑(ac zS i.a.slots).length:Int))/\∃(k:Int),zE (ac zS i.a.slots) (eB i.l e).toNat 7 1=az [dI k]/\∃(l:Nat),eB i.l l=k/\ac zLg (i.a.ents (ae l i.l))=ac zLg (i.a.ents (ae e i.l))++[[dI f,dI g,dI h,D.v (.bool j)]]/\c l/\d l<d e/\dh (av [V.own 1,V.own 2,V.d (dI i.a.free)] (280:TypeId))/\dh (aw 273 8 (ac zS i.a.slots))/\dh (aw 283 4 (ac zO i.a.queues))) (∃(f:Unit),dh i.a.free/\dh (ac zS i.a.slots)/\dh (ac zO i.a.queues)/\ac zLg (i.a.ents i.l)=ac zLg (i.a.ents (ae e i.l))/\True))) (zDe i)
def zCt (a:TkI):Prop:=(a.a.takeF a.n a.qty).fst.free=a.a.free/\ac zS (a.a.takeF a.n a.qty).fst.slots=ac zS a.a.slots/\ac zO (a.a.takeF a.n a.qty).fst.queues=ac zO a.a.queues/\True
def tE (a:TkI):Prop:=∃(b:Unit),(a.a.takeF a.n a.qty).snd=26/\zCt a
def zEa (a:TkI):Prop:=∃(b:Unit),(a.a.takeF a.n a.qty).snd=24/\zCt a
def vB (a:TkI) (b:Int) (c:Int):=(zZ (ac zO a.a.queues) b.toNat 2 [dI (aa.wrap (c-a.qty))])
def cK (a:TkI) (b:Int) (c:Int) (d:Int) (e:Int):=(zZ (vB a b c) d.toNat 0 [dI e])
def tH (a:TkI) (b:Int) (c:Int) (d:Int) (e:Int) (f:Int):=(zZ (cK a b c d e) d.toNat 1 [dI f])
def y6 (a:TkI) (b:Int):=(zZ (ac zS a.a.slots) a.n.toNat 3 [dI (aa.wrap (b-a.qty))])
def zDm (a:Int) (b:TkI) (c:Int):Prop:=0<=a/\a<(↑(y6 b c).length:Int)
def jA (a:TkI) (b:Int) (c:Int) (d:Int):=(zZ (y6 a b) c.toNat 7 [dI d])
def r9 (a:TkI) (b:Int) (c:Int) (d:Int) (e:Int):=(zZ (vB a b c) d.toNat 1 [dI e])
def yHs (i:TkI):Prop:=
 cnd (decide (i.n<0)) (tE i) (cnd (decide (i.n>=(↑(ac zS i.a.slots).length:Int))) (tE i) ((0<=i.n/\i.n<(↑(ac zS i.a.slots).length:Int))/\∃(a:Bool),zE (ac zS i.a.slots) i.n.toNat 0 1=az [D.v (.bool a)]/\cnd (!a) (tE i) ((0<=i.n/\i.n<(↑(ac zS i.a.slots).length:Int))/\cnd (decide (i.qty<1)) (zEa i) (∃(b:Int),zE (ac zS i.a.slots) i.n.toNat 3 1=az [dI b]/\cnd (decide (i.qty>b)) (zEa i) (∃(c:Int),zE (ac zS i.a.slots) i.n.toNat 3 1=az [dI c]/\i.n.toNat<(ac zS i.a.slots).length/\∃(d:Int),zE (y6 i c) i.n.toNat 5 1=az [dI d]/\(0<=d/\d<(↑(ac zO i.a.queues).length:Int))/\∃(e:Int),zE (ac zO i.a.queues) d.toNat 2 1=az [dI e]/\(0<=d/\d<(↑(ac zO i.a.queues).length:Int))/\d.toNat<(ac zO i.a.queues).length/\∃(f:Int),zE (y6 i c) i.n.toNat 3 1=az [dI f]/\cnd (f==0) (∃(g:Int),zE (y6 i c) i.n.toNat 5 1=az [dI g]/\(0<=g/\g<(↑(vB i d e).length:Int))/\∃(h:Int),zE (y6 i c) i.n.toNat 6 1=az [dI h]/\cnd (h==(-1)) (∃(j:Int),zE (y6 i c) i.n.toNat 7 1=az [dI j]/\g.toNat<(vB i d e).length/\∃(k:Int),zE (y6 i c) i.n.toNat 7 1=az [dI k]/\cnd (k==(-1)) (∃(l:Int),zE (y6 i c) i.n.toNat 6 1=az [dI l]/\g.toNat<(cK i d e g j).length/\∃(m:Int),zE (tH i d e g j l) g.toNat 3 1=az [dI m]/\g.toNat<(tH i d e g j l).length/\i.n.toNat<(y6 i c).length/\∃(n:Unit),(i.a.takeF i.n i.qty).snd=0/\(i.a.takeF i.n i.qty).fst.free=aa.wrap (i.a.free+1)/\ac zS (i.a.takeF i.n i.qty).fst.slots=zZ (y6 i c) i.n.toNat 0 [D.v (.bool aq),dI 0,dI 0,dI 0,D.v (.bool aq),dI 0,dI 0,dI 0]/\ac zO (i.a.takeF i.n i.qty).fst.queues=zZ (tH i d e g j l) g.toNat 3 [dI (aa.wrap (m-1))]/\True) (∃(l:Int),zE (y6 i c) i.n.toNat 7 1=az [dI l]/\∃(m:Int),zE (y6 i c) i.n.toNat 6 1=az [dI m]/\(zDm l i c)/\l.toNat<(y6 i c).length/\∃(n:Int),zE (cK i d e g j) g.toNat 3 1=az [dI n]/\g.toNat<(cK i d e g j).length/\i.n.toNat<(zZ (y6 i c) l.toNat 6 [dI m]).length/\∃(p:Unit),(i.a.takeF i.n i.qty).snd=0/\(i.a.takeF i.n i.qty).fst.free=aa.wrap (i.a.free+1)/\ac zS (i.a.takeF i.n i.qty).fst.slots=zZ (zZ (y6 i c) l.toNat 6 [dI m]) i.n.toNat 0 [D.v (.bool aq),dI 0,dI 0,dI 0,D.v (.bool aq),dI 0,dI 0,dI 0]/\ac zO (i.a.takeF i.n i.qty).fst.queues=zZ (cK i d e g j) g.toNat 3 [dI (aa.wrap (n-1))]/\True)) (∃(j:Int),zE (y6 i c) i.n.toNat 6 1=az [dI j]/\∃(k:Int),zE (y6 i c) i.n.toNat 7 1=az [dI k]/\(zDm j i c)/\j.toNat<(y6 i c).length/\∃(l:Int),zE (jA i c j k) i.n.toNat 7 1=az [dI l]/\cnd (l==(-1)) (∃(m:Int),zE (jA i c j k) i.n.toNat 6 1=az [dI m]/\g.toNat<(vB i d e).length/\∃(n:Int),zE (r9 i d e g m) g.toNat 3 1=az [dI n]/\g.toNat<(r9 i d e g m).length/\i.n.toNat<(jA i c j k).length/\∃(p:Unit),(i.a.takeF i.n i.qty).snd=0/\(i.a.takeF i.n i.qty).fst.free=aa.wrap (i.a.free+1)/\ac zS (i.a.takeF i.n i.qty).fst.slots=zZ (jA i c j k) i.n.toNat 0 [D.v (.bool aq),dI 0,dI 0,dI 0,D.v (.bool aq),dI 0,dI 0,dI 0]/\ac zO (i.a.takeF i.n i.qty).fst.queues=zZ (r9 i d e g m) g.toNat 3 [dI (aa.wrap (n-1))]/\True) (∃(m:Int),zE (jA i c j k) i.n.toNat 7 1=az [dI m]/\∃(n:Int),zE (jA i c j k) i.n.toNat 6 1=az [dI n]/\(0<=m/\m<(↑(jA i c j k).length:Int))/\m.toNat<(jA i c j k).length/\∃(p:Int),zE (vB i d e) g.toNat 3 1=az [dI p]/\g.toNat<(vB i d e).length/\i.n.toNat<(zZ (jA i c j k) m.toNat 6 [dI n]).length/\∃(q:Unit),(i.a.takeF i.n i.qty).snd=0/\(i.a.takeF i.n i.qty).fst.free=aa.wrap (i.a.free+1)/\ac zS (i.a.takeF i.n i.qty).fst.slots=zZ (zZ (jA i c j k) m.toNat 6 [dI n]) i.n.toNat 0 [D.v (.bool aq),dI 0,dI 0,dI 0,D.v (.bool aq),dI 0,dI 0,dI 0]/\ac zO (i.a.takeF i.n i.qty).fst.queues=zZ (vB i d e) g.toNat 3 [dI (aa.wrap (p-1))]/\True))) (∃(g:Unit),(i.a.takeF i.n i.qty).snd=0/\(i.a.takeF i.n i.qty).fst.free=i.a.free/\ac zS (i.a.takeF i.n i.qty).fst.slots=zZ (ac zS i.a.slots) i.n.toNat 3 [dI (aa.wrap (c-i.qty))]/\ac zO (i.a.takeF i.n i.qty).fst.queues=zZ (ac zO i.a.queues) d.toNat 2 [dI (aa.wrap (e-i.qty))]/\True))))))
def zMf {a:Arena} {n:Int} (h:n<0\/(a.slots.length:Int)<=n):a.usedAt n=aq:=by
 rcases h with h|h
 ·rw[Arena.usedAt,y8n (by omega),xBm]
 ·rw[Arena.usedAt,y8n (show ¬n<(a.slots.length:Int)by omega),xBm,xDf]
def yAt {a:Arena} {n:Int} {s:Slot} (h0:0<=n) (hs:a.slots[n.toNat]? =az s):a.usedAt n=s.used:=by
 have hl:=(y8e.1 hs).1;rw[Arena.usedAt,y8r h0,y8r (show n<(a.slots.length:Int)by omega),zW hs];simp
def xR {a:Arena} {k:Nat} {s:Slot} (hs:a.slots[k]? =az s):a.slotAt k=s:=zW hs
def y4u (i:ArN) (h:agetC.cnd i):yUb i:=by
 have h:i.a.slots.length<=1000000:=h;unfold yUb zBo jY dI;simp only[y8b];have no (e:i.a.usedAt i.n=aq):i.a.getF i.n=(y2a,aq):=by rw[Arena.getF,y7z (by rw[e];decide)]
 refine zI (λc=> ?_) (λc=>zI (λd=> ?_) (λd=> ?_))
 ·rw[no (zMf (.inl c))];exact kp
 ·rw[no (zMf (.inr (by omega)))];exact kp
 ·obtain⟨s,hs⟩:=yC (l:=i.a.slots) (i:=i.n.toNat) oM;have eu:=yAt (a:=i.a) (n:=i.n) oM hs;refine⟨⟨oM,oM⟩,s.used,elA hs (by simp[zS]) rfl,Cv.cnd.mk (λu=> ?_) (λu=> ?_)⟩
  ·rw[no (by rw[eu];simpa using u)];exact kp
  ·have e:i.a.usedAt i.n=ap:=by rw[eu];simpa using u
   have et:i.a.getF i.n=(s.ent,ap):=by rw[Arena.getF,y8c e,xR hs]
   rw[et];refine⟨⟨oM,oM⟩,s.n,s.id,s.qty,s.top,elA hs (by simp[zS]) rfl,?_⟩
   exact kp
def z7j:agetC.ok Tryz.prog 147:=okw mixed gok0 1 (λ_=>[]) (λ_=>[]) [0] Tryz.func147 y4u
def zSh:∀{sl:List Slot} {at_:Int} {l:List Nat},z0s sl at_ l->eB l 0=at_/\∀j k,l[j]? =az k->k<sl.length/\eB l (j+1)=(sl.getD k slot0).back
 |sl,at_,[],h=>⟨h.symm,λj k hk=>by simp at hk⟩
 |sl,at_,x::l,h=>by
  obtain⟨h1,h2,h3⟩:=h;have ih:=zSh h3;refine⟨h1.symm,λj k hk=> ?_⟩;cases j with
  |zero=>
   simp at hk;subst hk;exact⟨h2,by rw[<- ih.1];rfl⟩
  |succ j=>
   rw[y9z]at hk;obtain⟨a,b⟩:=ih.2 j k hk;exact⟨a,by rw[<- b];rfl⟩
def yVz (i:ArL) (h:alistC.cnd i):yMe i:=by
 obtain⟨hl,h⟩:i.l.length<=1000000/\(if 0<=i.n/\i.n<i.a.queues.length then z0s i.a.slots (i.a.queues.getD i.n.toNat aU).first i.l else i.l=[]):=⟨h.len,h.ch⟩
 unfold yMe zDe dI;simp only[y8b];have out (e:¬(0<=i.n/\i.n<(i.a.queues.length:Int))):i.l=[]:=by rw[y7z e]at h;exact h
 refine zI (λc=>Cv.cnd.mk (λd=> ?_) (λd=> ?_)) (λc=> ?_)
 ·have d:¬i.n<(i.a.queues.length:Int):=by simpa using d
  rw[out (by omega)];exact kp
 ·have d:i.n<(i.a.queues.length:Int):=by simpa using d
  rw[y8c ⟨by omega,d⟩]at h;obtain⟨q,hq⟩:=yC (l:=i.a.queues) (i:=i.n.toNat) oM;rw[zW hq]at h;obtain⟨n0,nx⟩:=zSh h;refine⟨⟨oM,oM⟩,q.first,elA hq (by simp[zO]) rfl,0,n0,rfl,λj=>j<=i.l.length,λj=>i.l.length-j,y9c _,λj hj=>Cv.cnd.mk (λe=> ?_) (λe=> ?_)⟩
  ·have e:eB i.l j≠-1:=by simpa using e
   obtain⟨k,hk⟩:∃k,i.l[j]? =az k:=by
    cases hk:i.l[j]? with
    |none=>rw[eB,hk]at e;exact absurd rfl e
    |some k=>exact⟨k,rfl⟩
   have hjl:=(y8e.1 hk).1;obtain⟨hkl,hnx⟩:=nx j k hk;have en:eB i.l j=k:=by rw[eB,hk]
   obtain⟨s,hs⟩:=yC (l:=i.a.slots) (i:=k) hkl;rw[en,y8s];refine⟨⟨oM,oM⟩,s.n,s.id,s.qty,s.top,elA hs (by simp[zS]) rfl,?_,⟨oM,oM⟩,s.back,elA hs (by simp[zS]) rfl,j+1,by rw[hnx,zW hs],?_,hjl,Z9,k0q⟩
   ·simp only[Arena.ents,y8b,y8t];omega
   ·rw[y9g,hk];simp only[Arena.ents,Option.toList,y8k,y8p,xBq,xR hs];rfl
  ·have e:eB i.l j= -1:=by simpa using e
   have hj':i.l.length<=j:=by
    apply Classical.byContradiction;intro hn;obtain⟨k,hk⟩:=yC (l:=i.l) (i:=j) oM;rw[eB,hk]at e;simp only at e;omega
   rw[y8l hj']
   exact kp
 ·rw[out (by omega)];exact kp
def yFu:alistC.ok Tryz.prog 220:=okw mixed gok0 1 (λ_=>[]) (λi=>yXg i) [0] Tryz.func220 yVz
def z5e {α:Type} {l:List α} {i k:Nat} {x y:α} (h:i≠k) (hk:l[k]? =az x):(l.set i y)[k]? =az x:=by
 rw[List.getElem?_set_ne h];exact hk
def yZy (i:TkI) (h:atakeC.cnd i):yHs i:=by
 obtain⟨hl,hok⟩:i.a.okAt:=h;unfold yHs r9 jA zDm y6 tH cK vB zEa tE zCt dI;simp only[y8b];have no (e:i.a.usedAt i.n=aq):i.a.takeF i.n i.qty=(i.a,26):=by rw[Arena.takeF,y8c e]
 refine zI (λc=> ?_) (λc=>zI (λd=> ?_) (λd=> ?_))
 ·rw[no (zMf (.inl c))];exact kp
 ·rw[no (zMf (.inr (by omega)))];exact kp
 obtain⟨k,hk⟩:∃k,k=i.n.toNat:=⟨_,rfl⟩
 rw[<- hk];obtain⟨s,hs⟩:=yC (l:=i.a.slots) (i:=k) oM;have hs':i.a.slots[i.n.toNat]? =az s:=by rw[<- hk];exact hs
 have eu:=yAt (a:=i.a) (n:=i.n) oM hs';refine⟨⟨oM,oM⟩,s.used,elA hs (by simp[zS]) rfl,Cv.cnd.mk (λu=> ?_) (λu=> ?_)⟩
 ·rw[no (by rw[eu];simpa using u)];exact kp
 have u:s.used=ap:=by simpa using u
 have e:¬i.a.usedAt i.n=aq:=by rw[eu,u];decide
 obtain⟨⟨q0,q1⟩,sq,sa,sb⟩:=hok k s hs u;have esl:i.a.slotAt i.n.toNat=s:=xR hs';have bad (hq:i.qty<1\/s.qty<i.qty):i.a.takeF i.n i.qty=(i.a,24):=by rw[Arena.takeF,y7z e,esl,y8c hq]
 refine⟨⟨oM,oM⟩,zI (λc1=>by rw[bad (.inl c1)];(repeat'(first|exact rfl|exact trivial|assumption|apply au|refineλ(_:Unit) (_:True)=>?_|refine ao () ?_|omega|(dsimp only;omega)))) (λc1=>⟨s.qty,elA hs (by simp[zS]) rfl,zI (λc2=>by rw[bad (.inr (by omega))];(repeat'(first|exact rfl|exact trivial|assumption|apply au|refineλ(_:Unit) (_:True)=>?_|refine ao () ?_|omega|(dsimp only;omega)))) (λc2=>⟨s.qty,elA hs (by simp[zS]) rfl,oM,?_⟩)⟩)⟩;obtain⟨q,hq⟩:=yC (l:=i.a.queues) (i:=s.queue.toNat) oM;have hs1:(i.a.slots.set k {s with qty:=s.qty-i.qty})[k]? =az {s with qty:=s.qty-i.qty}:=uP hs;have hq1:(i.a.queues.set s.queue.toNat {q with total:=aa.wrap (q.total-i.qty)})[s.queue.toNat]? =az {q with total:=aa.wrap (q.total-i.qty)}:=uP hq;have hle:i.a.less i.n.toNat i.qty=⟨i.a.slots.set k {s with qty:=s.qty-i.qty},i.a.queues.set s.queue.toNat {q with total:=aa.wrap (q.total-i.qty)},i.a.free⟩:=by
  rw[Arena.less,esl,cQ hs',cQ hq,hk]
 have hL:(i.a.slots.set k {s with qty:=s.qty-i.qty}).length=i.a.slots.length:=y9j;have hQ:(i.a.queues.set s.queue.toNat {q with total:=aa.wrap (q.total-i.qty)}).length=i.a.queues.length:=y9j;have tk:i.a.takeF i.n i.qty=if s.qty=i.qty then((i.a.less i.n.toNat i.qty).dropF i.n.toNat,0)else(i.a.less i.n.toNat i.qty,0):=by rw[Arena.takeF,y7z e,esl,y7z (by omega)]
 rw[hle,<- hk]at tk;rw[w64 (x:=s.qty-i.qty) (by omega),yI hs (y:={s with qty:=s.qty-i.qty}) rfl];refine⟨s.queue,elA hs1 (by simp[zS]) rfl,⟨q0,q1⟩,q.total,elA hq (by simp[zO]) rfl,⟨q0,q1⟩,oM,s.qty-i.qty,elA hs1 (by simp[zS]) rfl,?_⟩;rw[yI hq (y:={q with total:=aa.wrap (q.total-i.qty)}) rfl];simp only[y8b];generalize hL1:i.a.slots.set k {s with qty:=s.qty-i.qty}=L1 at*;generalize hQ1:i.a.queues.set s.queue.toNat {q with total:=aa.wrap (q.total-i.qty)}=Q1 at*;refine Cv.cnd.mk (λz=> ?_) (λz=> ?_)
 ·have z:s.qty=i.qty:=by have:s.qty-i.qty=0:=by simpa using z
                         omega
  rw[y8c z]at tk;have esl1:(⟨L1,Q1,i.a.free⟩:Arena).slotAt k={s with qty:=s.qty-i.qty}:=xR hs1;have eq1:Q1.getD s.queue.toNat aU={q with total:=aa.wrap (q.total-i.qty)}:=zW hq1;rw[Arena.dropF,esl1]at tk;dsimp only at tk;rw[eq1]at tk;dsimp only at tk;rw[tk];refine⟨s.queue,elA hs1 (by simp[zS]) rfl,⟨q0,oM⟩,s.ahead,elA hs1 (by simp[zS]) rfl,Cv.cnd.mk (λea=> ?_) (λea=> ?_)⟩
  ·have ea:s.ahead= -1:=by simpa using ea
   refine⟨s.back,elA hs1 (by simp[zS]) rfl,oM,s.back,elA hs1 (by simp[zS]) rfl,?_⟩;rw[yI hq1 (y:=⟨s.back,q.last,aa.wrap (q.total-i.qty),q.count⟩) rfl];have hq2:(Q1.set s.queue.toNat ⟨s.back,q.last,aa.wrap (q.total-i.qty),q.count⟩)[s.queue.toNat]? =az ⟨s.back,q.last,aa.wrap (q.total-i.qty),q.count⟩:=uP hq1;simp only[y8b,y9j];refine Cv.cnd.mk (λeb=> ?_) (λeb=> ?_)
   ·have eb:s.back= -1:=by simpa using eb
    refine⟨s.ahead,elA hs1 (by simp[zS]) rfl,oM,q.count,?_,?_⟩
    ·rw[yI hq2 (y:=⟨s.back,s.ahead,aa.wrap (q.total-i.qty),q.count⟩) rfl];exact elA (uP hq2) (by simp[zO]) rfl
    rw[yI hq2 (y:=⟨s.back,s.ahead,aa.wrap (q.total-i.qty),q.count⟩) rfl,yI (uP hq2) (y:=⟨s.back,s.ahead,aa.wrap (q.total-i.qty),aa.wrap (q.count-1)⟩) rfl,yI hs1 (y:=slot0) rfl];simp only[y8b,y9j,xCc,y8c ea,y8c eb];refine⟨oM,oM,(),by(first|exact rfl|exact trivial),by(first|exact rfl|exact trivial),by(first|exact rfl|exact trivial),by(first|exact rfl|exact trivial),trivial⟩
   ·have eb:s.back≠-1:=by simpa using eb
    obtain⟨b0,b1,b2⟩:0<=s.back/\s.back<i.a.slots.length/\s.back≠k:=by omega
    obtain⟨x,hx⟩:=yC (l:=L1) (i:=s.back.toNat) oM;refine⟨s.back,elA hs1 (by simp[zS]) rfl,s.ahead,elA hs1 (by simp[zS]) rfl,⟨b0,oM⟩,oM,q.count,elA hq2 (by simp[zO]) rfl,?_⟩;rw[yI hx (y:={x with ahead:=s.ahead}) rfl,yI hq2 (y:=⟨s.back,q.last,aa.wrap (q.total-i.qty),aa.wrap (q.count-1)⟩) rfl,yI (z5e (by omega) hs1) (y:=slot0) rfl];simp only[y8b,y9j,xCc,y8c ea,y7z eb,cQ hx];refine⟨oM,oM,(),by(first|exact rfl|exact trivial),by(first|exact rfl|exact trivial),by(first|exact rfl|exact trivial),by(first|exact rfl|exact trivial),trivial⟩
  ·have ea:s.ahead≠-1:=by simpa using ea
   obtain⟨a0,a1,a2⟩:0<=s.ahead/\s.ahead<i.a.slots.length/\s.ahead≠k:=by omega
   obtain⟨x,hx⟩:=yC (l:=L1) (i:=s.ahead.toNat) oM;have hs2:(L1.set s.ahead.toNat {x with back:=s.back})[k]? =az {s with qty:=s.qty-i.qty}:=z5e oM hs1;refine⟨s.ahead,elA hs1 (by simp[zS]) rfl,s.back,elA hs1 (by simp[zS]) rfl,⟨a0,oM⟩,oM,s.back,?_,?_⟩
   ·rw[yI hx (y:={x with back:=s.back}) rfl];exact elA hs2 (by simp[zS]) rfl
   rw[yI hx (y:={x with back:=s.back}) rfl];simp only[y8b,y9j];refine Cv.cnd.mk (λeb=> ?_) (λeb=> ?_)
   ·have eb:s.back= -1:=by simpa using eb
    refine⟨s.ahead,elA hs2 (by simp[zS]) rfl,oM,q.count,?_,?_⟩
    ·rw[yI hq1 (y:=⟨q.first,s.ahead,aa.wrap (q.total-i.qty),q.count⟩) rfl];exact elA (uP hq1) (by simp[zO]) rfl
    rw[yI hq1 (y:=⟨q.first,s.ahead,aa.wrap (q.total-i.qty),q.count⟩) rfl,yI (uP hq1) (y:=⟨q.first,s.ahead,aa.wrap (q.total-i.qty),aa.wrap (q.count-1)⟩) rfl,yI hs2 (y:=slot0) rfl];simp only[y8b,y9j,xCc,y7z ea,y8c eb,cQ hx];refine⟨oM,oM,(),by(first|exact rfl|exact trivial),by(first|exact rfl|exact trivial),by(first|exact rfl|exact trivial),by(first|exact rfl|exact trivial),trivial⟩
   ·have eb:s.back≠-1:=by simpa using eb
    obtain⟨b0,b1,b2⟩:0<=s.back/\s.back<i.a.slots.length/\s.back≠k:=by omega
    obtain⟨y,hy⟩:=yC (l:=L1.set s.ahead.toNat {x with back:=s.back}) (i:=s.back.toNat) (by rw[y9j];omega);refine⟨s.back,elA hs2 (by simp[zS]) rfl,s.ahead,elA hs2 (by simp[zS]) rfl,⟨b0,oM⟩,oM,q.count,elA hq1 (by simp[zO]) rfl,?_⟩;rw[yI hy (y:={y with ahead:=s.ahead}) rfl,yI hq1 (y:=⟨q.first,q.last,aa.wrap (q.total-i.qty),aa.wrap (q.count-1)⟩) rfl,yI (z5e (by omega) hs2) (y:=slot0) rfl];simp only[y8b,y9j,xCc,y7z ea,y7z eb,cQ hx,cQ hy];refine⟨oM,oM,(),by(first|exact rfl|exact trivial),by(first|exact rfl|exact trivial),by(first|exact rfl|exact trivial),by(first|exact rfl|exact trivial),trivial⟩
 ·have z:¬s.qty=i.qty:=by have:¬s.qty-i.qty=0:=by simpa using z
                          omega
  rw[y7z z]at tk;rw[tk];exact⟨(),rF4 trivial⟩
def yJt:atakeC.ok Tryz.prog 197:=okw mixed gok0 1 (λ_=>[]) (λ_=>[]) [0] Tryz.func197 yZy
structure PlI where
 l:List Int
 least:Int
 q:Int
def z4k (l:List Int) (least q:Int):List Int:=l.map λk=>if least<=k*q / l.sum then k*q / l.sum else 0
def wJ:List (Int×Int)->Int->List Int
 |[],_=>[]
 |(n,x)::r,q=>(x+min (n-x) q)::wJ r (q-min (n-x) q)
def PlI.p0 (i:PlI):List Int:=z4k i.l i.least i.q
def PlI.p1 (i:PlI):List Int:=wJ (i.l.zip i.p0) (i.q-i.p0.sum)
def jK (i:PlI):List Int:=if yX i.l i.q=ap/\1<=i.least then i.p1 else[]
def plainC:Con:=con1 PlI (λi=>[iV i.l,zA i.least,zA i.q]) (λ_=>[]) (λi=>i.l.length<=1000000/\i64r i.q/\i64r i.least) (λ_=> .own 0) (λi=>[.own 2 1 (iE (jK i))])
def yZj (i:PlI):List SAnn:=[
 {ι:=Nat,slots:=λj=>[(9,.own 0),(36,zA j)],rows:=λj=>[.own 2 1 (iE (i.p0.take j++af (i.l.length-j) 0))]},
 {ι:=Nat,slots:=λj=>[(2,zA (i.q-(i.p0.take j).sum)),(58,zA j)],rows:=λ_=>[]},
 {ι:=Nat,slots:=λj=>[(9,.own 0),(2,zA (i.q-i.p0.sum+(i.p0.take j).sum-(i.p1.take j).sum)),(68,zA j)],rows:=λj=>[.own 2 1 (iE (i.p1.take j++i.p0.drop j))]}]
def dQ (a:Nat) (b:PlI):=(iE (ae a b.p1++am a b.p0))
def tD (a:Nat) (b:PlI):Prop:=0<=(↑a:Int)/\(↑a:Int)<(↑(dQ a b).length:Int)
def gW (a:Nat) (b:PlI):=(ae a b.p0++af (b.l.length-a) 0)
def gX (a:Nat) (b:PlI):=(iE (gW a b))
def aN (a:Nat) (b:PlI):=(↑(gX a b).length:Int)
def yHl (i:PlI):Prop:=
 ∃(a:LqI),iE a.l=iE i.l/\a.q=i.q/\(wM a)/\∀(b:Unit),True->cnd (!yX a.l a.q) (∃(c:Unit),iE (jK i)=[]/\True) (cnd (decide (i.least<1)) (∃(c:Unit),iE (jK i)=[]/\True) (∃(c:List Int),iE c=iE i.l/\(c.length<=1000/\∀(d:Int),d∈c->0<=d/\d<=1000000)/\∀(d:Unit),True->(0<=(↑(iE i.l).length:Int)/\(↑(iE i.l).length:Int)<=(↑(iE i.l).length:Int)/\(↑(iE i.l).length:Int)<=9223372036854775807/\(↑(8:Nat):Int)*(↑(iE i.l).length:Int)<=2 ^ (48:Nat))/\∃(e:Nat),(↑e:Int)=0/\iE (gW e i)=af (↑(iE i.l).length:Int).toNat [dI 0]/\∃(f:Nat->Prop),∃(g:Nat->Nat),f e/\∀(h:Nat),f h->cnd (decide ((↑h:Int)<(↑(iE i.l).length:Int))) ((0<=(↑h:Int)/\(↑h:Int)<(↑(iE i.l).length:Int))/\∃(j:Int),zE (iE i.l) (↑h:Int).toNat 0 1=az [dI j]/\∃(k:ShI),k.a=j/\k.b=i.q/\k.c=c.sum/\(0<=k.a/\k.a<=(2000000000:Int)/\(0:Int)<=k.b/\k.b<=(2000000000:Int)/\(1:Int)<=k.c/\k.c<=2000000000)/\∀(l:Unit),True->cnd (decide (k.a*k.b / k.c>=i.least)) ((0<=(↑h:Int)/\(↑h:Int)<(aN h i))/\(↑h:Int).toNat<(gX h i).length/\∃(m:Nat),(↑m:Int)=aa.wrap ((↑h:Int)+1)/\iE (gW m i)=zZ (gX h i) (↑h:Int).toNat 0 [dI (k.a*k.b / k.c)]/\f m/\g m<g h/\True) (∃(m:Nat),(↑m:Int)=aa.wrap ((↑h:Int)+1)/\iE (gW m i)=iE (gW h i)/\f m/\g m<g h/\True)) (∃(j:Nat),i.q-(ae j i.p0).sum=i.q/\(↑j:Int)=0/\∃(k:Nat->Prop),∃(l:Nat->Nat),k j/\∀(m:Nat),k m->cnd (decide ((↑m:Int)<(aN h i))) ((0<=(↑m:Int)/\(↑m:Int)<(aN h i))/\∃(n:Int),zE (gX h i) (↑m:Int).toNat 0 1=az [dI n]/\∃(p:Nat),i.q-(ae p i.p0).sum=aa.wrap (i.q-(ae m i.p0).sum-n)/\(↑p:Int)=aa.wrap ((↑m:Int)+1)/\k p/\l p<l m/\dh (aw 2 1 (gX h i))) (∃(n:Nat),i.q-i.p0.sum+(ae n i.p0).sum-(ae n i.p1).sum=i.q-(ae m i.p0).sum/\(↑n:Int)=0/\iE (ae n i.p1++am n i.p0)=iE (gW h i)/\∃(p:Nat->Prop),∃(q:Nat->Nat),p n/\∀(r:Nat),p r->cnd (decide ((↑r:Int)<(aN h i))) ((0<=(↑r:Int)/\(↑r:Int)<(↑(iE i.l).length:Int))/\∃(s:Int),zE (iE i.l) (↑r:Int).toNat 0 1=az [dI s]/\(tD r i)/\∃(t:Int),zE (dQ r i) (↑r:Int).toNat 0 1=az [dI t]/\(tD r i)/\∃(u:Int),zE (dQ r i) (↑r:Int).toNat 0 1=az [dI u]/\(tD r i)/\(↑r:Int).toNat<(dQ r i).length/\∃(v:Nat),i.q-i.p0.sum+(ae v i.p0).sum-(ae v i.p1).sum=aa.wrap (i.q-i.p0.sum+(ae r i.p0).sum-(ae r i.p1).sum-min (aa.wrap (s-t)) (i.q-i.p0.sum+(ae r i.p0).sum-(ae r i.p1).sum))/\(↑v:Int)=aa.wrap ((↑r:Int)+1)/\iE (ae v i.p1++am v i.p0)=zZ (dQ r i) (↑r:Int).toNat 0 [dI (aa.wrap (u+min (aa.wrap (s-t)) (i.q-i.p0.sum+(ae r i.p0).sum-(ae r i.p1).sum)))]/\p v/\q v<q r/\True) (∃(s:Unit),iE (jK i)=iE (ae r i.p1++am r i.p0)/\True)))))
def zDi:∀(z:List (Int×Int)) (q:Int),(wJ z q).length=z.length
 |[],_=>rfl
 |(n,x)::z,q=>by rw[wJ,y8f,y8f,zDi z]
def zOl:∀(z:List (Int×Int)) (q:Int) (j:Nat) (n x:Int),z[j]? =az (n,x)->(wJ z q)[j]? =az (x+min (n-x) (q+((z.map (·.2)).take j).sum-((wJ z q).take j).sum))
 |[],_,_,_,_,h=>by simp at h
 |(m,y)::z,q,0,n,x,h=>by simp at h;obtain⟨rfl,rfl⟩:=h;simp[wJ]
 |(m,y)::z,q,j+1,n,x,h=>by
  rw[y9z]at h;rw[wJ,y9z,zOl z _ j n x h,y9l,y9p,y8p,y9l,y9p];congr 3;dsimp only;omega
def zKz:∀(z:List (Int×Int)) (q:Int) (j:Nat),0<=q->(∀y∈z,y.2<=y.1)->0<=q+((z.map (·.2)).take j).sum-((wJ z q).take j).sum/\q+((z.map (·.2)).take j).sum-((wJ z q).take j).sum<=q
 |[],q,j,h,_=>by simp[wJ,h]
 |(m,y)::z,q,0,h,_=>by simp[h]
 |(m,y)::z,q,j+1,h,hb=>by
  have hm:=hb (m,y) y8h;have:=zKz z (q-min (m-y) q) j (by dsimp only at hm;omega) (λx hx=>hb x (y8i _ hx));rw[wJ,y9l,y9p,y8p,y9l,y9p];dsimp only at hm ⊢;omega
def yLw {k q S:Int} (hk:0<=k) (hq:0<=q) (hS:1<=S) (hqS:q<=S):0<=k*q / S/\k*q / S<=k:=by
 refine⟨Int.ediv_nonneg (xEh hk hq) oM,?_⟩;have:k*q<=k*S:=xCy hqS hk;exact Int.ediv_le_of_le_mul oM this
def zRw {q S least:Int} (hq:0<=q) (hS:1<=S):∀(l:List Int),(∀x∈l,0<=x)->S*(l.map λk=>if least<=k*q / S then k*q / S else 0).sum<=q*l.sum
 |[],_=>by simp
 |k::l,h=>by
  have ih:=zRw (least:=least) hq hS l (λx hx=>h x (y8i _ hx));have hk:=h k y8h;rw[y8p,y9p,y9p,Int.mul_add,Int.mul_add];have h1:S*(k*q / S)<=k*q:=by
   have:=Int.mul_ediv_add_emod (k*q) S;have:=xEc (k*q) (show S≠0 by omega);omega
  have h2:0<=k*q:=xEh hk hq;have h3:S*(if least<=k*q / S then k*q / S else 0)<=q*k:=by
   rw[xCk q k];split
   ·exact h1
   ·simpa using h2
  omega
def yHv {i:PlI} {j:Nat} {n:Int} (h:i.l[j]? =az n):i.p0[j]? =az (if i.least<=n*i.q / i.l.sum then n*i.q / i.l.sum else 0):=by
 rw[PlI.p0,z4k,y9r,h];rfl
def z5o (i:PlI):i.p0.length=i.l.length:=by simp[PlI.p0,z4k]
def z8r {l:List Int} {j m:Nat} {n:Int} (hl:l.length=m) (h:l[j]? =az n):(l.take j++af (m-j) 0).set j n=l.take (j+1)++af (m-(j+1)) 0:=by
 have hj:=(y8e.1 h).1;rw[List.set_append_right _ _ (by rw[y8t];omega),y8t,show j-min j l.length=0 by omega,show m-j=(m-(j+1))+1 by omega,xCh,xEa,y9g,h];simp
def yFy {l:List Int} {j m:Nat} (hl:l.length=m) (hj:j<m):(l.take j++af (m-j) 0)[j]? =az 0:=by
 rw[xAf (by rw[y8t];omega),y8t,show j-min j l.length=0 by omega,show m-j=(m-(j+1))+1 by omega,xCh];rfl
def yHo {α:Type} {l:List α} {j:Nat} {x:α} (h:l[j]? =az x):l.set j x=l:=by
 obtain⟨h1,h2⟩:=y8e.1 h;rw[<- h2];exact List.set_getElem_self h1
def yXj {a b:List Int} {j:Nat} {x:Int} (ha:a.length=b.length) (h:b[j]? =az x):(a.take j++b.drop j)[j]? =az x:=by
 have hj:=(y8e.1 h).1;rw[xAf (by rw[y8t];omega),y8t,show j-min j a.length=0 by omega,xAo];exact h
def yPk {a b:List Int} {j:Nat} {y:Int} (ha:a.length=b.length) (h:a[j]? =az y):(a.take j++b.drop j).set j y=a.take (j+1)++b.drop (j+1):=by
 have hj:=(y8e.1 h).1;rw[List.set_append_right _ _ (by rw[y8t];omega),y8t,show j-min j a.length=0 by omega,xAe (by omega),xEa,y9g,h];simp
def zVv {l:List Int} {j:Nat} {x y:Int} (h:l[j]? =az x):zZ (iE l) j 0 [D.v (.int .i64 y)]=iE (l.set j y):=yI (f:=λn:Int=>[D.v (.int .i64 n)]) h rfl
def zGm {i:PlI} (h:yX i.l i.q=ap) (hne:0<i.l.length):1<=i.l.sum/\i.l.sum<=250000000/\(∀(j:Nat) (n x:Int),i.l[j]? =az n->i.p0[j]? =az x->0<=x/\x<=n)/\i.p0.sum<=i.q:=by
 obtain⟨h1,h2,h3,h4⟩:=jP h;have hb:=j0 (l:=i.l) (λx hx=>by have:=h3 x hx;omega) i.l.length;rw[xAx]at hb;have hS:1<=i.l.sum:=by
  obtain⟨x,hx⟩:=yC (l:=i.l) (i:=0) hne;have:=h3 x (y8m hx);cases hl:i.l with
  |nil=>rw[hl]at hne;exact absurd hne (Nat.lt_irrefl 0)
  |cons a r=>
   rw[hl]at hx;simp at hx;subst hx;have hr:=j0 (l:=r) (λy hy=>by have:=h3 y (by rw[hl];exact y8i _ hy);omega) r.length;rw[xAx]at hr;rw[y9p];omega
 refine⟨hS,oM,λj n x hn hx=> ?_,?_⟩
 ·have hn1:=h3 n (y8m hn);have:=yLw (k:=n) oM h2 hS h4;rw[yHv hn]at hx;cases hx;split<;>omega
 ·have:=zRw (least:=i.least) h2 hS i.l (λx hx=>by have:=h3 x hx;omega);have e:i.l.sum*i.p0.sum<=i.l.sum*i.q:=by rw[xCk i.l.sum i.q];exact this
  exact Int.le_of_mul_le_mul_left e oM
def yUj (i:PlI) (h:plainC.cnd i):yHl i:=by
 obtain⟨hl,hq,hle⟩:i.l.length<=1000000/\i64r i.q/\i64r i.least:=h;unfold yHl aN gX gW tD dQ wM dI;refine⟨⟨i.l,i.q⟩,rfl,rfl,⟨hl,hq⟩,λ_ _=>Cv.cnd.mk (λc=> ?_) (λc=>zI (λd=> ?_) (λd=> ?_))⟩
 ·have c:yX i.l i.q=aq:=by simpa using c
  refine⟨(),?_,trivial⟩;rw[jK,y7z (by rw[c];simp)];rfl
 ·refine⟨(),?_,trivial⟩;rw[jK,y7z (by omega)];rfl
 have c:yX i.l i.q=ap:=by simpa using c
 have eS:jK i=i.p1:=by rw[jK,y8c ⟨c,by omega⟩]
 obtain⟨h1,h2,h3,h4⟩:=jP c;have hq2:=zLt c;have hp0:=z5o i;have hzl:(i.l.zip i.p0).length=i.l.length:=by rw[List.length_zip,hp0];simp
 have hp1:i.p1.length=i.l.length:=by rw[PlI.p1,zDi,hzl]
 have hz2:(i.l.zip i.p0).map (·.2)=i.p0:=by rw[List.map_snd_zip];omega
 have h64:i.l.length<=250:=h1;have hrl:∀j,j<=i.l.length->(ae j i.p0++af (i.l.length-j) 0).length=i.l.length:=by
  intro j hj;rw[y8a,y8t,xBg];omega
 simp only[yZ];refine⟨i.l,rfl,⟨oM,λx hx=>by have:=h3 x hx;omega⟩,λ_ _=>⟨⟨oM,oM,oM,oM⟩,0,by(first|exact rfl|exact trivial),?_,λj=>j<=i.l.length,λj=>i.l.length-j,y9c _,λj hj=>zI (λe=> ?_) (λe=> ?_)⟩⟩
 ·simp[iE]
 ·have hj':j<i.l.length:=by omega
  obtain⟨n,hn⟩:=yC (l:=i.l) (i:=j) hj';have bn:=h3 n (y8m hn);obtain⟨f1,f2,f3,f4⟩:=zGm c oM;have g:=yHv hn;refine⟨⟨oM,oM⟩,n,elI hn,⟨n,i.q,i.l.sum⟩,rfl,rfl,rfl,⟨Z9,Z9,Z9,Z9,Z9,Z9⟩,λ_ _=>zI (λa=> ?_) (λa=> ?_)⟩
  ·have a:n*i.q / i.l.sum>=i.least:=a;rw[y8c (by omega)]at g;refine⟨⟨oM,by rw[hrl j (by omega)];omega⟩,by rw[hrl j (by omega)];omega,j+1,wjn oM,?_,hj',Z9,trivial⟩;rw[y8s,zVv (yFy hp0 hj'),z8r hp0 g]
  ·have a:¬n*i.q / i.l.sum>=i.least:=a;rw[y7z (by omega)]at g;refine⟨j+1,wjn oM,?_,hj',Z9,trivial⟩;rw[<- z8r hp0 g,yHo (yFy hp0 hj')]
 have hje:j=i.l.length:=by omega
 subst hje;have eP:ae i.l.length i.p0++af (i.l.length-i.l.length) 0=i.p0:=by rw[y8l (by omega)];simp
 rw[eP,hp0];have px:∀(k:Nat) (n x:Int),i.l[k]? =az n->i.p0[k]? =az x->0<=x/\x<=n:=λk n x hn hx=>(zGm c (by have:=(y8e.1 hn).1;omega)).2.2.1 k n x hn hx
 have pb:∀x∈i.p0,0<=x/\x<=1000000:=by
  intro x hx;obtain⟨k,hk⟩:=xAr.1 hx;obtain⟨n,hn⟩:=yC (l:=i.l) (i:=k) (by have:=(y8e.1 hk).1;omega);have:=px k n x hn hk;have:=h3 n (y8m hn);omega
 have pq:i.p0.sum<=i.q:=by
  by_cases hz:0<i.l.length
  ·exact(zGm c hz).2.2.2
  ·have:i.p0=[]:=y9a oM;rw[this];simpa using h2
 refine⟨0,by simp,by(first|exact rfl|exact trivial),λk=>k<=i.l.length,λk=>i.l.length-k,y9c _,λk hk=>zI (λe=> ?_) (λe=> ?_)⟩
 ·have hk':k<i.l.length:=by omega
  obtain⟨x,hx⟩:=yC (l:=i.p0) (i:=k) oM;have bx:=pb x (y8m hx);have bs:=j0 pb k;refine⟨⟨oM,oM⟩,x,elI hx,k+1,?_,wjn oM,hk',Z9,k0q⟩;rw[j6 hx,w64 (by omega)];omega
 have hke:k=i.l.length:=by omega
 subst hke;rw[y8l (l:=i.p0) (by omega)];refine⟨0,by simp,by(first|exact rfl|exact trivial),by simp,λj=>j<=i.l.length,λj=>i.l.length-j,y9c _,λj hj=>zI (λe=> ?_) (λe=> ?_)⟩
 ·have hj':j<i.l.length:=by omega
  obtain⟨n,hn⟩:=yC (l:=i.l) (i:=j) hj';obtain⟨x,hx⟩:=yC (l:=i.p0) (i:=j) oM;have bn:=h3 n (y8m hn);have bx:=px j n x hn hx;have hz:(i.l.zip i.p0)[j]? =az (n,x):=by rw[xCs];exact⟨hn,hx⟩
  have g:=zOl (i.l.zip i.p0) (i.q-i.p0.sum) j n x hz;have r:=zKz (i.l.zip i.p0) (i.q-i.p0.sum) j oM (λy hy=>by
   obtain⟨k,hk⟩:=xAr.1 hy;rw[xCs]at hk;exact(px k y.1 y.2 hk.1 hk.2).2)
  rw[hz2]at g r;have b0:=j0 pb i.p0.length;rw[xAx]at b0;have hml:(ae j i.p1++am j i.p0).length=i.l.length:=by rw[y8a,y8t,y8y];omega
  have hma:=yXj (a:=i.p1) (b:=i.p0) oM hx;change i.p1[j]? =_ at g;change 0<=_-(ae j i.p1).sum/\_-(ae j i.p1).sum<=_ at r;change i.p1[j]? =az (x+min (n-x) (_-(ae j i.p1).sum))at g;rw[hml];refine⟨⟨oM,oM⟩,n,elI hn,⟨oM,oM⟩,x,elI hma,⟨oM,oM⟩,x,elI hma,⟨oM,oM⟩,oM,?_⟩;rw[w64 (x:=n-x) (by omega),w64 (x:=x+min (n-x) (i.q-i.p0.sum+(ae j i.p0).sum-(ae j i.p1).sum)) (by omega)];refine⟨j+1,?_,wjn oM,?_,hj',Z9,trivial⟩
  ·rw[j6 hx,j6 g,w64 (by omega)];omega
  ·rw[y8s,zVv hma,yPk (by omega) g]
 ·have hje:j=i.l.length:=by omega
  subst hje;refine⟨(),?_,trivial⟩;rw[eS,y8l (by omega),xBj (by omega),y8x]
def yMb:plainC.ok Tryz.prog 226:=okw mixed (gokc zEn (gokc yOe (gokc zSz gok0))) 0 (λ_=>[]) (λi=>yZj i) [] Tryz.func226 yUj
structure RsI where
 l:List Int
 out:List Int
 least:Int
 q:Int
def RsI.idx (i:RsI) (k:Nat):List Nat:=(ak k).filter λn=>decide (i.out.getD n 0<i.l.getD n 0)
def RsI.left (i:RsI) (k:Nat):List Int:=(i.idx k).map λn=>i.l.getD n 0-i.out.getD n 0
def RsI.pl (i:RsI):List Int:=jK ⟨i.left i.l.length,i.least,i.q⟩
def RsI.add (i:RsI) (k:Nat):List Int:=(((i.idx i.l.length).zip i.pl).take k).foldl (λo y=>o.set y.1 (aa.wrap (o.getD y.1 0+y.2))) i.out
def pL (i:RsI):List Int:=i.add i.pl.length
@[reducible] def RsI.ok (i:RsI):Prop:=i.l.length<=250/\i.out.length=i.l.length/\i64r i.q/\i64r i.least/\∀n,0<=i.out.getD n 0/\i.out.getD n 0<=i.l.getD n 0/\i.l.getD n 0<=1000000
def restC:Con:=con1 RsI (λi=>[iV i.l,.own 0,zA i.least,zA i.q]) (λi=>[.own 2 1 (iE i.out)]) RsI.ok (λ_=> .own 1) (λi=>[.gone,.own 2 1 (iE (pL i))])
def y1i (i:RsI):List SAnn:=[
 {ι:=Nat,slots:=λj=>[(9,.own 0),(10,.own 1),(16,zA j)],rows:=λj=>[.own 2 1 (iE (i.left j)),.own 3 1 (iE ((i.idx j).map λ(n:Nat)=>(n:Int)))]},
 {ι:=Nat,slots:=λk=>[(1,.own 0),(50,zA k)],rows:=λk=>[.own 2 1 (iE (i.add k))]}]
structure zH where
 id:Int
 side:Int
 price:Int
 qty:Int
 top:Bool
 deriving DecidableEq
def vJ (o:zH):List D:=[.v (.int .i64 o.id),.v (.int .i64 o.side),.v (.int .i64 o.price),.v (.int .i64 o.qty),.v (.bool o.top)]
@[reducible] def z4d (o:zH):V:= .agg [zA o.id,zA o.side,zA o.price,zA o.qty,yK o.top]
def topFC:Con:=con1 zH (λo=>[z4d o]) (λ_=>[]) (λ_=>True) (λo=>yK o.top) (λ_=>[])
def topI (l:List zH):Int:=zLa (l.findIdx? λo=>o.top)
def idxOrdC:Con:=con1 (List zH) (λl=>[roV 5 (l.map vJ),.fn 212 [] []]) (λ_=>[]) (λl=>l.length<=1000000) (λl=>zA (topI l)) (λ_=>[])
def yOn (l:List zH):List SAnn:=[{ι:=Nat,slots:=λj=>[(8,zA j)],rows:=λ_=>[]}]
def ySk (i:RsI):Prop:=
 ∃(a:Nat),(↑a:Int)=0/\iE (i.left a)=[]/\iE (ac (λ(n:Nat) ↦ (↑n:Int)) (i.idx a))=[]/\∃(b:Nat->Prop),∃(c:Nat->Nat),b a/\∀(d:Nat),b d->cnd (decide ((↑d:Int)<(↑(iE i.l).length:Int))) ((0<=(↑d:Int)/\(↑d:Int)<(↑(iE i.l).length:Int))/\∃(e:Int),zE (iE i.l) (↑d:Int).toNat 0 1=az [dI e]/\(0<=(↑d:Int)/\(↑d:Int)<(↑(iE i.out).length:Int))/\∃(f:Int),zE (iE i.out) (↑d:Int).toNat 0 1=az [dI f]/\cnd (decide (e>f)) ((0<=(↑d:Int)/\(↑d:Int)<(↑(iE i.l).length:Int))/\∃(g:Int),zE (iE i.l) (↑d:Int).toNat 0 1=az [dI g]/\(0<=(↑d:Int)/\(↑d:Int)<(↑(iE i.out).length:Int))/\∃(h:Int),zE (iE i.out) (↑d:Int).toNat 0 1=az [dI h]/\((iE (i.left d)).length+1)*(8:Nat)<=(140737488355328:Nat)/\((iE (ac (λ(g:Nat) ↦ (↑g:Int)) (i.idx d))).length+1)*(8:Nat)<=(140737488355328:Nat)/\∃(j:Nat),(↑j:Int)=aa.wrap ((↑d:Int)+1)/\iE (i.left j)=iE (i.left d)++[[dI (aa.wrap (g-h))]]/\iE (ac (λ(g:Nat) ↦ (↑g:Int)) (i.idx j))=iE (ac (λ(g:Nat) ↦ (↑g:Int)) (i.idx d))++[[dI (↑d:Int)]]/\b j/\c j<c d/\dh (aw 2 1 (iE i.out))) (∃(g:Nat),(↑g:Int)=aa.wrap ((↑d:Int)+1)/\iE (i.left g)=iE (i.left d)/\iE (ac (λ(e:Nat) ↦ (↑e:Int)) (i.idx g))=iE (ac (λ(e:Nat) ↦ (↑e:Int)) (i.idx d))/\b g/\c g<c d/\dh (aw 2 1 (iE i.out)))) (∃(e:PlI),iE e.l=iE (i.left d)/\e.least=i.least/\e.q=i.q/\(e.l.length<=1000000/\((-9223372036854775808)<=e.q/\e.q<=9223372036854775807)/\(-9223372036854775808)<=e.least/\e.least<=9223372036854775807)/\∀(f:Unit),True->∃(g:Nat),(↑g:Int)=0/\iE (i.add g)=iE i.out/\∃(h:Nat->Prop),∃(j:Nat->Nat),h g/\∀(k:Nat),h k->cnd (decide ((↑k:Int)<(↑(iE (jK e)).length:Int))) ((0<=(↑k:Int)/\(↑k:Int)<(↑(iE (jK e)).length:Int))/\∃(l:Int),zE (iE (jK e)) (↑k:Int).toNat 0 1=az [dI l]/\(0<=(↑k:Int)/\(↑k:Int)<(↑(iE (ac (λ(l:Nat) ↦ (↑l:Int)) (i.idx d))).length:Int))/\∃(m:Int),zE (iE (ac (λ(l:Nat) ↦ (↑l:Int)) (i.idx d))) (↑k:Int).toNat 0 1=az [dI m]/\(0<=m/\m<(↑(iE (i.add k)).length:Int))/\∃(n:Int),zE (iE (i.add k)) m.toNat 0 1=az [dI n]/\(0<=m/\m<(↑(iE (i.add k)).length:Int))/\m.toNat<(iE (i.add k)).length/\∃(p:Nat),(↑p:Int)=aa.wrap ((↑k:Int)+1)/\iE (i.add p)=zZ (iE (i.add k)) m.toNat 0 [dI (aa.wrap (n+l))]/\h p/\j p<j k/\dh (aw 2 1 (iE (jK e)))/\dh (ax 1 (iE (i.left d)))/\dh (aw 3 1 (iE (ac (λ(l:Nat) ↦ (↑l:Int)) (i.idx d))))) (∃(l:Unit),iE (pL i)=iE (i.add k)/\True))
def yTp (o:zH):Prop:=
 ∃(a:Unit),dh o.top/\True
def z8l (l:List zH):Prop:=
 ∃(a:Nat),(↑a:Int)=0/\∃(b:Nat->Prop),∃(c:Nat->Nat),b a/\∀(d:Nat),b d->cnd (decide ((↑d:Int)<(↑(ac vJ l).length:Int))) ((0<=(↑d:Int)/\(↑d:Int)<(↑(ac vJ l).length:Int))/\∃(e:Int),∃(f:Int),∃(g:Int),∃(h:Int),∃(j:Bool),zE (ac vJ l) (↑d:Int).toNat 0 5=az [dI e,dI f,dI g,dI h,D.v (.bool j)]/\∃(k:zH),k.id=e/\k.side=f/\k.price=g/\k.qty=h/\k.top=j/\True/\∀(m:Unit),True->cnd k.top (∃(n:Unit),topI l=(↑d:Int)/\True) (jU d b c)) (∃(e:Unit),topI l=(-1)/\True)
def yQt:topFC.ok Tryz.prog 212:=okw (V:=yTp) mixed gok0 0 (λ_=>[]) (λ_=>[]) [] Tryz.func212 λ(o:zH) _=>by
 unfold yTp;exact⟨(),rfl,trivial⟩
def z5q (i:PlI):(jK i).length=i.l.length\/jK i=[]:=by
 rw[jK];split
 ·left;rw[PlI.p1,zDi,List.length_zip,z5o];simp
 ·exact .inr rfl
def yUy {l:List zH} {k:Nat} {o:zH} (h:l[k]? =az o):zE (l.map vJ) k 0 5=az [D.v (.int .i64 o.id),.v (.int .i64 o.side),.v (.int .i64 o.price),.v (.int .i64 o.qty),.v (.bool o.top)]:=elA h (by simp[vJ]) rfl
def yQl (l:List zH) (h:idxOrdC.cnd l):z8l l:=by
 have h:l.length<=1000000:=h;unfold z8l jU qW dI;simp only[y8b];refine⟨0,rfl,λj=>j<=l.length/\∀k<j,∀x,l[k]? =az x->x.top=aq,λj=>l.length-j,⟨oM,λk hk=>by omega⟩,?_⟩;rintro j ⟨h3,h4⟩;refine zI (λhj=> ?_) (λhj=> ?_)
 ·obtain⟨s,hs⟩:=yC (l:=l) (i:=j) oM;refine⟨⟨oM,oM⟩,s.id,s.side,s.price,s.qty,s.top,yUy hs,s,rF4 ⟨rfl,trivial,λ_ _=>Cv.cnd.mk (λe=> ?_) (λe=> ?_)⟩⟩
  ·rw[topI,zIq hs e h4];exact kp
  ·refine⟨j+1,by rw[w64 (by omega)];rfl,⟨oM,λk hk x hx=> ?_⟩,by(first|omega|(dsimp only;omega)),k0q⟩;rcases xAj k j with hk'|hk'
   ·exact h4 k hk' x hx
   ·obtain rfl:k=j:=by omega
    rw[hs]at hx;cases hx;exact e
 ·rw[topI,zHv λk x hx=>h4 k (by have:=(y8e.1 hx).1;omega) x hx];exact kp
def yEk:idxOrdC.ok Tryz.prog 211:=okw mixed (gokc yQt gok0) 0 (λ_=>[]) (λl=>yOn l) [] Tryz.func211 yQl
def yIw (i:RsI) (j:Nat):i.idx (j+1)=i.idx j++if i.out.getD j 0<i.l.getD j 0 then[j]else[]:=by
 rw[RsI.idx,xCw,xCd];by_cases h:i.out.getD j 0<i.l.getD j 0
 ·rw[y8c h,xCz (by simpa using h)];rfl
 ·rw[y7z h,xDa (by simpa using h)];rfl
def yWt (i:RsI) {k n:Nat} (h:n∈i.idx k):n<k:=by
 have:=(xAa.1 h).1;exact xBf.1 this
def z8m (i:RsI) (k:Nat):(i.idx k).length<=k:=by
 have:=xBn (λn=>decide (i.out.getD n 0<i.l.getD n 0)) (ak k);rw[List.length_range]at this;exact this
def z1f:∀(z:List (Nat×Int)) (o:List Int),(z.foldl (λo y=>o.set y.1 (aa.wrap (o.getD y.1 0+y.2))) o).length=o.length
 |[],_=>rfl
 |y::z,o=>by rw[xBt,z1f z,y9j]
def y2p (i:RsI) (h:restC.cnd i):ySk i:=by
 obtain⟨hl,ho,hq,hle,hb⟩:i.ok:=h;unfold ySk dI;simp only[yZ,y8b];have hil:∀j,(i.left j).length=(i.idx j).length:=λj=>y8b _
 refine⟨0,by(first|exact rfl|exact trivial),by(first|exact rfl|exact trivial),by(first|exact rfl|exact trivial),λj=>j<=i.l.length,λj=>i.l.length-j,y9c _,λj hj=>zI (λc=> ?_) (λc=> ?_)⟩
 ·have hj':j<i.l.length:=by omega
  obtain⟨n,hn⟩:=yC (l:=i.l) (i:=j) hj';obtain⟨o,hoo⟩:=yC (l:=i.out) (i:=j) oM;have bj:=hb j;rw[zW hn,zW hoo]at bj;have is:=yIw i j;rw[zW hn,zW hoo]at is;have il:=z8m i j;refine⟨⟨oM,oM⟩,n,elI hn,⟨oM,oM⟩,o,elI hoo,zI (λa=> ?_) (λa=> ?_)⟩
  ·rw[y8c (by omega)]at is;refine⟨⟨oM,oM⟩,n,elI hn,⟨oM,oM⟩,o,elI hoo,by rw[hil];omega,oM,j+1,wjn oM,?_,?_,hj',Z9,k0q⟩
   ·rw[w64 (by omega),RsI.left,is,y8k];simp[iE,RsI.left,hn,hoo]
   ·rw[is];simp[iE]
  ·rw[y7z (by omega),y8x]at is;exact⟨j+1,wjn oM,by rw[RsI.left,is];rfl,by rw[is],hj',Z9,k0q⟩
 have hje:j=i.l.length:=by omega
 subst hje;have il:=z8m i i.l.length;refine⟨⟨i.left i.l.length,i.least,i.q⟩,rfl,rfl,rfl,⟨by dsimp only;rw[hil];omega,hq,hle⟩,λ_ _=> ?_⟩;have epl:jK ⟨i.left i.l.length,i.least,i.q⟩=i.pl:=rfl;rw[epl];have hpl:i.pl.length<=(i.idx i.l.length).length:=by
  rcases z5q ⟨i.left i.l.length,i.least,i.q⟩with e|e
  ·rw[epl]at e;rw[e];dsimp only;rw[hil];exact y8w _
  ·rw[epl]at e;rw[e];exact y9c _
 have hal:∀k,(i.add k).length=i.out.length:=λk=>z1f _ _
 refine⟨0,by(first|exact rfl|exact trivial),by(first|exact rfl|exact trivial),λk=>k<=i.pl.length,λk=>i.pl.length-k,y9c _,λk hk=>zI (λc=> ?_) (λc=> ?_)⟩
 ·have hk':k<i.pl.length:=by omega
  obtain⟨x,hx⟩:=yC (l:=i.pl) (i:=k) hk';obtain⟨n,hn⟩:=yC (l:=i.idx i.l.length) (i:=k) oM;have hnl:=yWt i (y8m hn);obtain⟨y,hy⟩:=yC (l:=i.add k) (i:=n) (by rw[hal];omega);have ea:i.add (k+1)=(i.add k).set n (aa.wrap (y+x)):=by
   have hz:((i.idx i.l.length).zip i.pl)[k]? =az (n,x):=by rw[xCs];exact⟨hn,hx⟩
   have ey:(i.add k).getD n 0=y:=zW hy;rw[RsI.add,y9g,hz,xCx];show(i.add k).set n (aa.wrap ((i.add k).getD n 0+x))=_;rw[ey]
  have hnm:((i.idx i.l.length).map λ(n:Nat)=>(n:Int))[k]? =az (n:Int):=by rw[y9r,hn];rfl
  rw[hal];refine⟨⟨oM,oM⟩,x,elI hx,⟨oM,oM⟩,n,elI hnm,⟨oM,oM⟩,y,elI hy,⟨oM,oM⟩,oM,k+1,wjn oM,?_,hk',Z9,k0q⟩;rw[ea,y8s,zVv hy]
 ·have hke:k=i.pl.length:=by omega
  subst hke;exact⟨(),rfl,trivial⟩
def yAd:restC.ok Tryz.prog 222:=okw mixed (gokc yMb gok0) 0 (λ_=>[]) (λi=>y1i i) [] Tryz.func222 y2p
structure PsI where
 l:List Int
 top:Int
 most:Int
 least:Int
 q:Int
def PsI.first (i:PsI):Int:=min (min (i.l.getD i.top.toNat 0) i.most) i.q
def PsI.rs (i:PsI):RsI:=if 0<=i.top/\i.top<i.l.length then⟨i.l,(af i.l.length 0).set i.top.toNat i.first,i.least,i.q-i.first⟩else⟨i.l,af i.l.length 0,i.least,i.q⟩
def zGt (i:PsI):List Int:=if yX i.l i.q=ap/\1<=i.least/\0<=i.most then pL i.rs else[]
def proC:Con:=con1 PsI (λi=>[iV i.l,zA i.top,zA i.most,zA i.least,zA i.q]) (λ_=>[]) (λi=>i.l.length<=1000000/\i64r i.q/\i64r i.least/\i64r i.most) (λ_=> .own 0) (λi=>[.own 2 1 (iE (zGt i))])
structure SpI where
 l:List Int
 part:Int
 least:Int
 q:Int
def SpI.rs (i:SpI):RsI:=⟨i.l,gI i.l (i.q*i.part / 100),i.least,i.q-i.q*i.part / 100⟩
def zDo (i:SpI):List Int:=if yX i.l i.q=ap/\0<=i.part/\i.part<=100/\1<=i.least then pL i.rs else[]
def splC:Con:=con1 SpI (λi=>[iV i.l,zA i.part,zA i.least,zA i.q]) (λ_=>[]) (λi=>i.l.length<=1000000/\i64r i.q/\i64r i.least/\i64r i.part) (λ_=> .own 0) (λi=>[.own 2 1 (iE (zDo i))])
def zGh (a:RsI):Prop:=a.l.length<=250/\a.out.length=a.l.length/\((-9223372036854775808)<=a.q/\a.q<=9223372036854775807)/\((-9223372036854775808)<=a.least/\a.least<=9223372036854775807)/\∀(b:Nat),0<=a.out.getD b 0/\a.out.getD b 0<=a.l.getD b 0/\a.l.getD b (0:Int)<=(1000000:Int)
def zNm (a:RsI) (b:PsI):Prop:=(zGh a)/\∀(c:Unit),True->∃(d:Unit),iE (zGt b)=iE (pL a)/\True
def zQp (a:PsI):Prop:=∃(b:RsI),iE b.l=iE a.l/\b.least=a.least/\b.q=a.q/\iE b.out=af (↑(iE a.l).length:Int).toNat [dI 0]/\zNm b a
def eW (a:PsI):=(af (↑(iE a.l).length:Int).toNat [dI 0])
def zOq (a:PsI) (b:Int):=(zZ (eW a) a.top.toNat 0 [dI (min (min b a.most) a.q)])
def y3s (i:PsI):Prop:=
 ∃(a:LqI),iE a.l=iE i.l/\a.q=i.q/\(wM a)/\∀(b:Unit),True->cnd (!yX a.l a.q) (∃(c:Unit),iE (zGt i)=[]/\True) (cnd (decide (i.least<1)) (∃(c:Unit),iE (zGt i)=[]/\True) (cnd (decide (i.most<0)) (∃(c:Unit),iE (zGt i)=[]/\True) ((0<=(↑(iE i.l).length:Int)/\(↑(iE i.l).length:Int)<=(↑(iE i.l).length:Int)/\(↑(iE i.l).length:Int)<=9223372036854775807/\(↑(8:Nat):Int)*(↑(iE i.l).length:Int)<=2 ^ (48:Nat))/\cnd (decide (i.top>=0)) (cnd (decide (i.top<(↑(iE i.l).length:Int))) ((0<=i.top/\i.top<(↑(iE i.l).length:Int))/\∃(c:Int),zE (iE i.l) i.top.toNat 0 1=az [dI c]/\(0<=i.top/\i.top<(↑(eW i).length:Int))/\i.top.toNat<(eW i).length/\(0<=i.top/\i.top<(↑(zOq i c).length:Int))/\∃(d:Int),zE (zOq i c) i.top.toNat 0 1=az [dI d]/\∃(e:RsI),iE e.l=iE i.l/\e.least=i.least/\e.q=aa.wrap (i.q-d)/\iE e.out=zZ (eW i) i.top.toNat 0 [dI (min (min c i.most) i.q)]/\zNm e i) (zQp i)) (zQp i))))
def y3t (i:SpI):Prop:=
 ∃(a:LqI),iE a.l=iE i.l/\a.q=i.q/\(wM a)/\∀(b:Unit),True->cnd (!yX a.l a.q) (∃(c:Unit),iE (zDo i)=[]/\True) (cnd (decide (i.part<0)) (∃(c:Unit),iE (zDo i)=[]/\True) (cnd (decide (i.part>100)) (∃(c:Unit),iE (zDo i)=[]/\True) (cnd (decide (i.least<1)) (∃(c:Unit),iE (zDo i)=[]/\True) (∃(c:ShI),c.a=i.q/\c.b=i.part/\c.c=100/\(0<=c.a/\c.a<=(2000000000:Int)/\(0:Int)<=c.b/\c.b<=(2000000000:Int)/\(1:Int)<=c.c/\c.c<=2000000000)/\∀(d:Unit),True->∃(e:LqI),iE e.l=iE i.l/\e.q=c.a*c.b / c.c/\(wM e)/\∀(f:Unit),True->∃(g:RsI),iE g.l=iE i.l/\g.least=i.least/\g.q=aa.wrap (i.q-c.a*c.b / c.c)/\iE g.out=iE (gI e.l e.q)/\(zGh g)/\∀(h:Unit),True->∃(j:Unit),iE (zDo i)=iE (pL g)/\True))))
end Sx
