/- Texts of ours. No condition. -/
import Derived.Laws.Externs
import Derived.Test.YtaafldgiafcgfaaGreatE6
set_option linter.all false
open Go.IntKind renaming i64->aa,u64->ab
open List renaming map->ac,take->ae,replicate->af,headD_cons->ag,tail_cons->aj,range->ak,drop->am
open Exists renaming intro->ao
open Bool renaming true->ap,false->aq,or_eq_true->ar
open And renaming intro->au
open Sx.AObj renaming cells->av,own->aw,fro->ax,iter->ay
open Option renaming some->az
open Go.Value renaming string->ba,int->bc
open Go.Utf8 renaming decode->be
namespace Sx
set_option maxRecDepth 100000
open Go Cv Go.Proofs
def zOx {α:Type} {f:α->α} {Q:α->Prop} (hf:∀x,Q x->Q (f x)):∀{l:List α} (i:Nat),(∃x∈l,Q x)->∃x∈l.modify i f,Q x
 |[],i,⟨x,hx,_⟩=>by cases hx
 |a::l,0,⟨x,hx,q⟩=>by
  rcases y6q.1 hx with rfl|hx
  ·exact⟨f x,y6e,hf x q⟩
  ·exact⟨x,y6g _ hx,q⟩
 |a::l,i+1,⟨x,hx,q⟩=>by
  rw[xBi];rcases y6q.1 hx with rfl|hx
  ·exact⟨x,y6e,q⟩
  ·obtain⟨y,hy,hq⟩:=zOx hf (l:=l) i ⟨x,hx,q⟩;exact⟨y,y6g _ hy,hq⟩
def yDs {a:Arena} (h:a.fit) (n:Int) (t:Bool):(a.topF n t).fit:=by
 obtain⟨h1,h2,h3⟩:=h;rw[Arena.topF];split
 ·refine⟨by simpa using h1,λhf=> ?_,by simpa using h3⟩;exact zOx (f:=λs:Slot=>{s with top:=t}) (Q:=λs=>s.used=aq) (λx hx=>hx) _ (h2 hf)
 ·exact⟨h1,h2,h3⟩
def yBl {b:Book} (h:b.a.fit) (s:Int):(b.untop s).fit:=by
 rw[Book.untop]
 repeat' split
 all_goals first|exact h|exact yDs h _ _
def yDn {a:Arena} (h:a.fit):a.openQ.fit:=by
 obtain⟨h1,h2,h3⟩:=h;refine⟨h1,h2,λq hq=> ?_⟩;rcases y7d.1 hq with hq|hq
 ·exact h3 q hq
 ·rw[y7q.1 hq];exact .inl rfl
def zXj {b:Book} (h:b.a.fit):b.newQ.2.2.fit:=by
 rw[Book.newQ];split
 ·exact yDn h
 ·exact h
def sE {b:Book} (h:b.a.fit) (s p:Int):(b.queueF s p).1.a.fit:=by
 rw[Book.queueF]
 repeat' split
 ·exact h
 ·exact zXj h
 ·exact zXj h
def yDg (b:Book) (s:Int):(b.untop s).slots.length=b.a.slots.length/\(b.untop s).queues=b.a.queues:=by
 have ht:∀n t,(b.a.topF n t).slots.length=b.a.slots.length/\(b.a.topF n t).queues=b.a.queues:=by
  intro n t;rw[Arena.topF];split
  ·exact⟨by simp,rfl⟩
  ·exact⟨rfl,rfl⟩
 rw[Book.untop]
 repeat' split
 all_goals first|exact⟨rfl,rfl⟩|exact ht _ _
def zTq {b:Book} (h:b.fit) (id s:Int):(b.leadF id s).fit:=by
 obtain⟨h1,h2,h3,h4,h5⟩:=h;have hl:=yDg b s;rw[Book.leadF];split
 all_goals exact⟨yBl h1 s,by rw[hl.2];exact h2,h3,h4,h5⟩
def zTg {b:Book} (h:b.fit):b.small:=by
 obtain⟨⟨h1,_⟩,h2,h3,h4,h5⟩:=h;exact⟨⟨h1,oM⟩,oM,oM,oM⟩
def yTn (i:BaI) (h:badd1C.cnd i):yKo i:=by
 have hfit:i.b.fit:=h;have hsm:=zTg hfit;unfold yKo zGy pS lO l7 zBb kA zHe zN yO sZ sP yJ rF sS dI;have plc:∀(b:Book) (x:Int),uH (bc aa i.id) [D.v (.int .i64 1),D.v (.int .i64 i.price),D.v (.int .i64 x)] (atE b.at_)=atE (sD i.id ⟨1,i.price,x⟩ b.at_):=λb x=>zUm i.id ⟨1,i.price,x⟩ b.at_
 refine⟨j7 _ _,(pget i.b.at_ i.id).isSome,_,_,_,zTw _ _,1,rfl,trivial,λ_ _=> ?_⟩;refine Cv.cnd.mk (λc=>absurd c Z8) λ_=> ?_
 refine zI (λc=> ?_) (λc=>zI (λd=> ?_) (λd=> ?_))
 ·have ha:i.b.addF 1 i.id i.price i.qty=(i.b,24):=by rw[Book.addF,y6a (.inl c)]
  rw[ha];exact kp
 ·have ha:i.b.addF 1 i.id i.price i.qty=(i.b,24):=by rw[Book.addF,y6a (.inr d)]
  rw[ha];exact kp
 have hq:¬(i.qty<1\/1000000<i.qty):=by omega
 refine Cv.cnd.mk (λe=> ?_) (λe=> ?_)
 ·have ha:i.b.addF 1 i.id i.price i.qty=(i.b,25):=by rw[Book.addF,y5x hq,y6a e]
  rw[ha];exact kp
 have hlen:(atE i.b.at_).length=i.b.at_.length:=by simp[atE]
 rw[hlen];refine zI (λf=> ?_) (λf=> ?_)
 ·have ha:i.b.addF 1 i.id i.price i.qty=(i.b,13):=by rw[Book.addF,y5x hq,y5x (by rw[e];decide),y6a (by omega)]
  rw[ha];exact kp
 have ha:i.b.addF 1 i.id i.price i.qty=(i.b.stand 1 i.id i.price i.qty,0):=by rw[Book.addF,y5x hq,y5x (by rw[e];decide),y5x (by omega)]
 rw[ha];simp only[y5z];refine⟨ap,λx=>x=i.b.leads 1 i.price,Cv.cnd.mk (λg=>⟨ap,rfl,?_,k0q⟩) (λg=> ?_),λx hx=> ?_⟩
 ·have:i.b.buys=[]:=y6y (by have:(i.b.buys.length:Int)=0:=(by simpa using g);omega);rw[Book.leads,r9,this]
 ·obtain⟨r,l,hl⟩:∃r l,i.b.buys=r::l:=by
   cases hb:i.b.buys with
   |nil=>rw[hb]at g;exact absurd g Z8
   |cons r l=>exact⟨r,l,rfl⟩
  refine⟨⟨oM,by rw[hl,y6d];omega⟩,r.price,elA (x:=r) (by rw[hl];rfl) (by simp[zB]) rfl,⟨1,i.price,r.price⟩,rfl,rfl,rfl,trivial,λ_ _=>⟨_,rfl,?_,k0q⟩⟩;rw[Book.leads,r9,hl]
 subst hx;refine Cv.cnd.mk (λg=> ?_) (λg=> ?_)
 ·have hled:i.b.led i.id 1 i.price=i.b.leadF i.id 1:=by rw[Book.led,y6a g]
  have hf1:=zTq hfit i.id 1;have hst:i.b.stand 1 i.id i.price i.qty={((i.b.leadF i.id 1).queueF 1 i.price).1 with a:=(((i.b.leadF i.id 1).queueF 1 i.price).1.a.push ((i.b.leadF i.id 1).queueF 1 i.price).2 i.id i.qty (i.b.leads 1 i.price)).1,at_:=sD i.id ⟨1,i.price,(((i.b.leadF i.id 1).queueF 1 i.price).1.a.push ((i.b.leadF i.id 1).queueF 1 i.price).2 i.id i.qty (i.b.leads 1 i.price)).2.1⟩ ((i.b.leadF i.id 1).queueF 1 i.price).1.at_}:=by
   simp only[Book.stand,hled]
  refine⟨⟨i.b,i.id⟩,rfl,trivial,rF8 ⟨rfl,hsm,λ_ _=>⟨⟨i.b.leadF i.id 1,i.price⟩,trivial,rF6 (rF3 ⟨rfl,hf1,λ_ _=>⟨trivial,?_⟩⟩)⟩⟩⟩;refine⟨⟨((i.b.leadF i.id 1).queueF 1 i.price).1.a,((i.b.leadF i.id 1).queueF 1 i.price).2,i.id,i.qty,i.b.leads 1 i.price⟩,rF4 ⟨rfl,sE hf1.1 1 i.price,λ_ _=>⟨j7 _ _,(),?_⟩⟩⟩;dsimp only;rw[hst,plc]
  exact kp
 ·have hled:i.b.led i.id 1 i.price=i.b:=by rw[Book.led,y5x (by rw[g];decide)]
  have hst:i.b.stand 1 i.id i.price i.qty={(i.b.queueF 1 i.price).1 with a:=((i.b.queueF 1 i.price).1.a.push (i.b.queueF 1 i.price).2 i.id i.qty (i.b.leads 1 i.price)).1,at_:=sD i.id ⟨1,i.price,((i.b.queueF 1 i.price).1.a.push (i.b.queueF 1 i.price).2 i.id i.qty (i.b.leads 1 i.price)).2.1⟩ (i.b.queueF 1 i.price).1.at_}:=by
   simp only[Book.stand,hled]
  refine⟨⟨i.b,i.price⟩,trivial,rF6 (rF3 ⟨rfl,hfit,λ_ _=>⟨trivial,?_⟩⟩)⟩;refine⟨⟨(i.b.queueF 1 i.price).1.a,(i.b.queueF 1 i.price).2,i.id,i.qty,i.b.leads 1 i.price⟩,rF4 ⟨rfl,sE hfit.1 1 i.price,λ_ _=>⟨j7 _ _,(),?_⟩⟩⟩;dsimp only;rw[hst,plc]
  exact kp
def yFq:badd1C.ok Tryz.prog 196:=okw mixed (gokc eU (gokc mM (gokc yLi (gokc yDm (gokc zZj gok0))))) 0 (λ_=>yRp) (λ_=>[]) [0] Tryz.func196 yTn
def yXw (i:BaI) (h:badd2C.cnd i):yIr i:=by
 have hfit:i.b.fit:=h;have hsm:=zTg hfit;unfold yIr zJf nN zHu zO yN sZ sP yJ lO l7 zBb kA rF sS dI;have plc:∀(b:Book) (x:Int),uH (bc aa i.id) [D.v (.int .i64 2),D.v (.int .i64 i.price),D.v (.int .i64 x)] (atE b.at_)=atE (sD i.id ⟨2,i.price,x⟩ b.at_):=λb x=>zUm i.id ⟨2,i.price,x⟩ b.at_
 refine⟨j7 _ _,(pget i.b.at_ i.id).isSome,_,_,_,zTw _ _,2,rfl,trivial,λ_ _=> ?_⟩;refine Cv.cnd.mk (λc=>absurd c Z8) λ_=> ?_
 refine zI (λc=> ?_) (λc=>zI (λd=> ?_) (λd=> ?_))
 ·have ha:i.b.addF 2 i.id i.price i.qty=(i.b,24):=by rw[Book.addF,y6a (.inl c)]
  rw[ha];exact kp
 ·have ha:i.b.addF 2 i.id i.price i.qty=(i.b,24):=by rw[Book.addF,y6a (.inr d)]
  rw[ha];exact kp
 have hq:¬(i.qty<1\/1000000<i.qty):=by omega
 refine Cv.cnd.mk (λe=> ?_) (λe=> ?_)
 ·have ha:i.b.addF 2 i.id i.price i.qty=(i.b,25):=by rw[Book.addF,y5x hq,y6a e]
  rw[ha];exact kp
 have hlen:(atE i.b.at_).length=i.b.at_.length:=by simp[atE]
 rw[hlen];refine zI (λf=> ?_) (λf=> ?_)
 ·have ha:i.b.addF 2 i.id i.price i.qty=(i.b,13):=by rw[Book.addF,y5x hq,y5x (by rw[e];decide),y6a (by omega)]
  rw[ha];exact kp
 have ha:i.b.addF 2 i.id i.price i.qty=(i.b.stand 2 i.id i.price i.qty,0):=by rw[Book.addF,y5x hq,y5x (by rw[e];decide),y5x (by omega)]
 rw[ha];simp only[y5z];refine⟨ap,λx=>x=i.b.leads 2 i.price,Cv.cnd.mk (λg=>⟨ap,rfl,?_,k0q⟩) (λg=> ?_),λx hx=> ?_⟩
 ·have:i.b.sells=[]:=y6y (by have:(i.b.sells.length:Int)=0:=(by simpa using g);omega);rw[Book.leads,pY,this]
 ·obtain⟨r,l,hl⟩:∃r l,i.b.sells=r::l:=by
   cases hb:i.b.sells with
   |nil=>rw[hb]at g;exact absurd g Z8
   |cons r l=>exact⟨r,l,rfl⟩
  refine⟨⟨oM,by rw[hl,y6d];omega⟩,r.price,elA (x:=r) (by rw[hl];rfl) (by simp[zB]) rfl,⟨2,i.price,r.price⟩,rfl,rfl,rfl,trivial,λ_ _=>⟨_,rfl,?_,k0q⟩⟩;rw[Book.leads,pY,hl]
 subst hx;refine Cv.cnd.mk (λg=> ?_) (λg=> ?_)
 ·have hled:i.b.led i.id 2 i.price=i.b.leadF i.id 2:=by rw[Book.led,y6a g]
  have hf1:=zTq hfit i.id 2;have hst:i.b.stand 2 i.id i.price i.qty={((i.b.leadF i.id 2).queueF 2 i.price).1 with a:=(((i.b.leadF i.id 2).queueF 2 i.price).1.a.push ((i.b.leadF i.id 2).queueF 2 i.price).2 i.id i.qty (i.b.leads 2 i.price)).1,at_:=sD i.id ⟨2,i.price,(((i.b.leadF i.id 2).queueF 2 i.price).1.a.push ((i.b.leadF i.id 2).queueF 2 i.price).2 i.id i.qty (i.b.leads 2 i.price)).2.1⟩ ((i.b.leadF i.id 2).queueF 2 i.price).1.at_}:=by
   simp only[Book.stand,hled]
  refine⟨⟨i.b,i.id⟩,rfl,trivial,rF8 ⟨rfl,hsm,λ_ _=>⟨⟨i.b.leadF i.id 2,i.price⟩,trivial,rF6 (rF3 ⟨rfl,hf1,λ_ _=>⟨trivial,?_⟩⟩)⟩⟩⟩;refine⟨⟨((i.b.leadF i.id 2).queueF 2 i.price).1.a,((i.b.leadF i.id 2).queueF 2 i.price).2,i.id,i.qty,i.b.leads 2 i.price⟩,rF4 ⟨rfl,sE hf1.1 2 i.price,λ_ _=>⟨j7 _ _,(),?_⟩⟩⟩;dsimp only;rw[hst,plc]
  exact kp
 ·have hled:i.b.led i.id 2 i.price=i.b:=by rw[Book.led,y5x (by rw[g];decide)]
  have hst:i.b.stand 2 i.id i.price i.qty={(i.b.queueF 2 i.price).1 with a:=((i.b.queueF 2 i.price).1.a.push (i.b.queueF 2 i.price).2 i.id i.qty (i.b.leads 2 i.price)).1,at_:=sD i.id ⟨2,i.price,((i.b.queueF 2 i.price).1.a.push (i.b.queueF 2 i.price).2 i.id i.qty (i.b.leads 2 i.price)).2.1⟩ (i.b.queueF 2 i.price).1.at_}:=by
   simp only[Book.stand,hled]
  refine⟨⟨i.b,i.price⟩,trivial,rF6 (rF3 ⟨rfl,hfit,λ_ _=>⟨trivial,?_⟩⟩)⟩;refine⟨⟨(i.b.queueF 2 i.price).1.a,(i.b.queueF 2 i.price).2,i.id,i.qty,i.b.leads 2 i.price⟩,rF4 ⟨rfl,sE hfit.1 2 i.price,λ_ _=>⟨j7 _ _,(),?_⟩⟩⟩;dsimp only;rw[hst,plc]
  exact kp
def yGd:badd2C.ok Tryz.prog 196:=okw mixed (gokc eU (gokc mM (gokc yFy (gokc yCi (gokc zZj gok0))))) 0 (λ_=>yRp) (λ_=>[]) [0] Tryz.func196 yXw
def yPy:baddC.ok Tryz.prog 196:=λj=>match j with
 |⟨i,aq⟩=>yFq i
 |⟨i,ap⟩=>yGd i
def y0c (i:SaI) (h:saddC.cnd i):ySm i:=by
 obtain⟨hp,hbl,hb⟩:i.s.fit:=h;unfold ySm zPy eA pK zJk zHx qA dI;simp only[zXk];have hml:(yR i.s.wh).length=i.s.wh.length:=by simp[yR]
 rw[hml];have out (e:i.inst<0\/i.s.books.length<=i.inst):MSt.addF i=(i.s,20):=by rw[MSt.addF,y6a e]
 refine⟨dU _ _,(zDm i.s.wh i.id).isSome,_,yVo _ _,zI (λc=>Cv.cnd.mk (λd=> ?_) (λd=> ?_)) (λc=> ?_)⟩
 ·have d:¬i.inst<(i.s.books.length:Int):=by simpa using d
  rw[out (.inr (by omega))];exact kp
 ·have d:i.inst<(i.s.books.length:Int):=by simpa using d
  have hn:¬(i.inst<0\/(i.s.books.length:Int)<=i.inst):=by omega
  refine Cv.cnd.mk (λe=> ?_) (λe=>zI (λf=> ?_) (λf=> ?_))
  ·rw[MSt.addF,y5x hn,y6a e];exact kp
  ·rw[MSt.addF,y5x hn,y5x (by rw[e];decide),y6a (by omega)];exact kp
  ·refine⟨⟨i.s.p,i.inst,i.price⟩,rF8 (rF4 ⟨rfl,hp,λ_ _=>Cv.cnd.mk (λg=> ?_) (λg=> ?_)⟩)⟩
   ·have g:i.s.p.price i.inst i.price≠0:=by simpa using g
    rw[MSt.addF,y5x hn,y5x (by rw[e];decide),y5x (by omega),y6a g];exact kp
   ·have g:i.s.p.price i.inst i.price=0:=by simpa using g
    obtain⟨x,hx⟩:=yC (l:=i.s.books) (i:=i.inst.toNat) oM;have hba:i.s.bookAt i.inst=x:=zT hx;have ha:MSt.addF i=({i.s with books:=i.s.books.set i.inst.toNat (x.addF (zC i.sd) i.id i.price i.qty).1,wh:=if(x.addF (zC i.sd) i.id i.price i.qty).2=0 then z1g i.id i.inst i.s.wh else i.s.wh},(x.addF (zC i.sd) i.id i.price i.qty).2):=by
     rw[MSt.addF,y5x hn,y5x (by rw[e];decide),y5x (by omega),y5x (by simp[g])];simp only[hba]
    refine⟨⟨oM,oM⟩,oM,x,hx,⟨⟨x,i.id,i.price,i.qty⟩,i.sd⟩,rF4 ⟨rfl,hb x (y6j hx),λ_ _=>⟨(x.addF (zC i.sd) i.id i.price i.qty).1,rfl,trivial,oM,Cv.cnd.mk (λz=>⟨dU _ _,?_⟩) (λz=> ?_)⟩⟩⟩
    ·have z:(x.addF (zC i.sd) i.id i.price i.qty).2=0:=by simpa using z
     rw[ha,z];simp only[if_true]
     exact kp
    ·have z:¬(x.addF (zC i.sd) i.id i.price i.qty).2=0:=by simpa using z
     rw[ha,y5x z]
     exact kp
 ·rw[out (.inl (by omega))];exact kp
def yPi:saddC.ok Tryz.prog 186:=okw mixed (gokc eZ (gokc yPy gok0)) 1 (λ_=>[]) (λ_=>[]) [0] Tryz.func186 y0c
def r3prodC:Con:=con1 (List UInt8) (λs=>[sV s]) (λ_=>[]) (λs=>s.length<=1099511627776) (λs=>yP (wJ s)) (λ_=>[])
def yPq (s:List UInt8):List SAnn:=[{ι:=Nat×Nat,slots:=λx=>[(3,zA x.2),(7,.nm 0 0)],rows:=λx=>[.iter (sb s) x.1]}]
def yOp:List (Nat×SAnn):=[(20,bj 29)]
def r5checkC:Con:=con1 Prd (λp=>[prdV p]) (λ_=>[]) Prd.small (λp=>zA p.check) (λ_=>[])
def yHs:List SAnn:=[{ι:=Nat,slots:=λj=>[(3,zA j)],rows:=λ_=>[]},{ι:=Nat,slots:=λj=>[(4,zA j)],rows:=λ_=>[]},{ι:=Nat,slots:=λj=>[(5,zA j)],rows:=λ_=>[]}]
def yHk:List (Nat×SAnn):=[(12,bj 19),(32,bj 58),(40,bj 90),(68,bj 136),(96,bj 168),(104,bj 176),(112,bj 204)]
def r5countC:Con:=con1 Prd (λp=>[prdV p]) (λ_=>[]) Prd.small (λp=>zA p.count) (λ_=>[])
def r5legsC:Con:=con1 cG (λi=>[prdV i.p,zA i.n]) (λ_=>[]) (λi=>i.p.small) (λi=> .tup [zA (i.p.legs i.n).1,zA (i.p.legs i.n).2.1,yP (i.p.legs i.n).2.2]) (λ_=>[])
def yLt (i:cG):List SAnn:=[{ι:=Nat,slots:=λm=>[(8,zA (yK i.p.months.length m)),(9,zA m)],rows:=λ_=>[]},
 {ι:=Nat×Nat,slots:=λm=>[(8,zA ((yK i.p.months.length m.1+m.2:Nat):Int)),(9,zA m.1),(10,zA ((m.1+1+m.2:Nat):Int))],rows:=λ_=>[]}]
def kN (x:Prd):Int:=2+zF x.months.length 0 3
def zU (x:Prd):Int:=1+zF x.tick 0 9
def qM (n:Nat):List Int:=(ak n).map λ(i:Nat)=>10*(i:Int)+3
def kJ (t:Int) (n:Nat):List Int:=(ak n).map λ(i:Nat)=>t*(10+(i:Int))
def kprod (x:Prd):Prd:=⟨[206,169],qM (kN x).toNat,zU x,-20*zU x,100*zU x,zU x*(5+zF x.wide 0 60),1+zF x.rule 0 2,zF x.top 0 9,1+zF x.least 0 4,zF x.part 0 100,kJ (zU x) (kN x).toNat⟩
@[reducible] def Prd.raw (x:Prd):Prop:=i64r x.tick/\i64r x.wide/\i64r x.rule/\i64r x.top/\i64r x.least/\i64r x.part/\x.months.length<=9223372036854775807
def kprodC:Con:=con1 Prd (λx=>[prdV x]) (λ_=>[]) Prd.raw (λx=>prdV (kprod x)) (λ_=>[])
def y5q (x:Prd) (w:Int) (j:Nat):List AObj:=[.cells [sV [206,169],.own 1,zA (zU x),zA (-20*zU x),zA (100*zU x),zA w,zA (1+zF x.rule 0 2),zA (zF x.top 0 9),zA (1+zF x.least 0 4),zA (zF x.part 0 100),.own 2] 25,.own 3 1 (iE (qM j)),.own 2 1 (iE (kJ (zU x) j))]
def yZt (x:Prd):List AObj:=[.cells [sV [206,169],.d (.v (.slice none 0 0)),zA (zU x),zA (-20*zU x),zA (100*zU x),zA 0,zA (1+zF x.rule 0 2),zA (zF x.top 0 9),zA (1+zF x.least 0 4),zA (zF x.part 0 100),.d (.v (.slice none 0 0))] 25]
def yUd (x:Prd):List SAnn:=[{ι:=Nat,slots:=λj=>[(5,.nm 0 0),(6,zA j)],rows:=λj=>y5q x (zU x*(5+zF x.wide 0 60)) j}]
def yTr (x:Prd):List (Nat×SAnn):=[(12,{ι:=Unit,slots:=λ_=>[(5,.nm 0 0)],slots0:=λ_=>[],rows0:=λ_=>[],rows:=λ_=>yZt x})]
def mZ (a:Bool->Prop) (b:Bool) (c:List UInt8) (d:Nat×Nat):Prop:=a b/\dh (ay (sb c) (d.fst+(be (sb c) d.fst).snd))
def qC (a:List UInt8) (b:Nat×Nat):=(↑(be (sb a) b.fst).fst:Int)
def eK (a:List UInt8) (b:Nat×Nat) (c:Bool->Prop):Prop:=∃(d:Bool),d=!(qC a b) !=930/\mZ c d a b
def cI (a:Bool->Prop) (b:List UInt8) (c:Nat×Nat):Prop:=∃(d:Bool),d=!false/\mZ a d b c
def z7w (s:List UInt8):Prop:=
 ∃(a:Nat×Nat),(↑a.snd:Int)=0/\sb s=sb s/\a.fst=0/\∃(b:Nat×Nat->Prop),∃(c:Nat×Nat->Nat),b a/\∀(d:Nat×Nat),b d->cnd (d.fst.blt (sb s).size) (∃(e:Bool),∃(f:Bool->Prop),cnd (decide ((qC s d)>=65)) (cnd (decide ((qC s d)<=90)) (∃(g:Bool),g=!true/\mZ f g s d) (cnd (decide ((qC s d)>=913)) (cnd (decide ((qC s d)<=937)) (eK s d f) (cI f s d)) (cI f s d))) (cnd (decide ((qC s d)>=913)) (cnd (decide ((qC s d)<=937)) (eK s d f) (cI f s d)) (cI f s d))/\∀(g:Bool),f g->cnd g (∃(h:Unit),wJ s=aq/\True) (dJ d s b c)) (cnd (decide ((↑d.snd:Int)>=1)) (∃(e:Unit),wJ s=decide ((↑d.snd:Int)<=4)/\True) (∃(e:Unit),wJ s=aq/\True))
def aI (a:Prd):Prop:=av [V.d (uN a),V.own 0,V.d (dI a.tick),V.d (dI a.low),V.d (dI a.high),V.d (dI a.wide),V.d (dI a.rule),V.d (dI a.top),V.d (dI a.least),V.d (dI a.part),V.own 1] 25=av [V.d (uN a),V.own 0,V.d (dI a.tick),V.d (dI a.low),V.d (dI a.high),V.d (dI a.wide),V.d (dI a.rule),V.d (dI a.top),V.d (dI a.least),V.d (dI a.part),V.own 1] 25/\bM a
def eM (a:Nat) (b:Nat->Prop) (c:Nat->Nat) (d:Prd):Prop:=∃(e:Nat),(↑e:Int)=aa.wrap ((↑a:Int)+1)/\b e/\c e<c a/\aI d
def eY (a:Bool->Prop) (b:Prd) (c:Nat) (d:Nat->Prop) (e:Nat->Nat):Prop:=∀(f:Bool),a f->cnd f (∃(g:Unit),b.check=1/\True) (eM c d e b)
def qN (a:Bool->Prop) (b:Bool) (c:Prd):Prop:=a b/\aI c
def yM (a:Bool->Prop) (b:Prd):Prop:=∃(c:Bool),c=ap/\qN a c b
def zYc (p:Prd):Prop:=
 ∃(a:List UInt8),sb a=sb p.code/\a.length<=1099511627776/\∀(b:Unit),True->cnd (!wJ a) (∃(c:Unit),p.check=12/\True) (∃(c:Bool),∃(d:Bool->Prop),cnd (decide ((xF p)<2)) (yM d p) (∃(e:Bool),e=decide ((xF p)>6)/\qN d e p)/\∀(e:Bool),d e->cnd e (∃(f:Unit),p.check=1/\True) (∃(f:Nat),(↑f:Int)=0/\∃(g:Nat->Prop),∃(h:Nat->Nat),g f/\∀(j:Nat),g j->cnd (decide ((↑j:Int)<(xF p))) (∃(k:Bool),∃(l:Bool->Prop),((0<=(↑j:Int)/\(↑j:Int)<(xF p))/\∃(m:Int),zE (iE p.months) (↑j:Int).toNat 0 1=az [dI m]/\cnd (decide (m<0)) (yM l p) ((0<=(↑j:Int)/\(↑j:Int)<(xF p))/\∃(n:Int),zE (iE p.months) (↑j:Int).toNat 0 1=az [dI n]/\cnd (decide (n>1199)) (yM l p) (cnd (decide ((↑j:Int)>0)) ((0<=aa.wrap ((↑j:Int)-1)/\aa.wrap ((↑j:Int)-1)<(xF p))/\∃(q:Int),zE (iE p.months) (aa.wrap ((↑j:Int)-1)).toNat 0 1=az [dI q]/\(0<=(↑j:Int)/\(↑j:Int)<(xF p))/\∃(r:Int),zE (iE p.months) (↑j:Int).toNat 0 1=az [dI r]/\∃(s:Bool),s=decide (q>=r)/\qN l s p) (∃(q:Bool),q=aq/\qN l q p))))/\eY l p j g h) (∃(k:Bool),∃(l:Bool->Prop),cnd (decide (p.tick<1)) (yM l p) (cnd (decide (p.tick>1000)) (yM l p) (aa=aa/\p.tick≠0/\cnd (p.low.tmod p.tick !=0) (yM l p) (aa=aa/\p.tick≠0/\cnd (p.high.tmod p.tick !=0) (yM l p) (aa=aa/\p.tick≠0/\∃(m:Bool),m=(p.wide.tmod p.tick !=0)/\qN l m p))))/\∀(m:Bool),l m->cnd m (∃(n:Unit),p.check=22/\True) (∃(n:Nat),(↑n:Int)=0/\∃(q:Nat->Prop),∃(r:Nat->Nat),q n/\∀(s:Nat),q s->cnd (decide ((↑s:Int)<(vA p))) ((0<=(↑s:Int)/\(↑s:Int)<(vA p))/\∃(t:Int),zE (iE p.settle) (↑s:Int).toNat 0 1=az [dI t]/\aa=aa/\p.tick≠0/\cnd (t.tmod p.tick !=0) (∃(u:Unit),p.check=22/\True) (eM s q r p)) (∃(t:Bool),∃(u:Bool->Prop),cnd (decide (p.low<(-1000000))) (yM u p) (cnd (decide (p.low>=p.high)) (yM u p) (cnd (decide (p.high>1000000)) (yM u p) (cnd (decide (p.wide<0)) (yM u p) (∃(v:Bool),v=decide (p.wide>aa.wrap (p.high-p.low))/\qN u v p))))/\∀(v:Bool),u v->cnd v (∃(w:Unit),p.check=23/\True) (cnd ((vA p) !=(xF p)) (∃(w:Unit),p.check=1/\True) (∃(w:Nat),(↑w:Int)=0/\∃(x:Nat->Prop),∃(y:Nat->Nat),x w/\∀(z:Nat),x z->cnd (decide ((↑z:Int)<(vA p))) (∃(a_1:Bool),∃(a_2:Bool->Prop),((0<=(↑z:Int)/\(↑z:Int)<(vA p))/\∃(a_3:Int),zE (iE p.settle) (↑z:Int).toNat 0 1=az [dI a_3]/\cnd (decide (a_3<p.low)) (yM a_2 p) ((0<=(↑z:Int)/\(↑z:Int)<(vA p))/\∃(a_4:Int),zE (iE p.settle) (↑z:Int).toNat 0 1=az [dI a_4]/\∃(a_5:Bool),a_5=decide (a_4>p.high)/\qN a_2 a_5 p))/\eY a_2 p z x y) (∃(a_1:Bool),∃(a_2:Bool->Prop),cnd (decide (p.rule<1)) (yM a_2 p) (∃(a_3:Bool),a_3=decide (p.rule>3)/\qN a_2 a_3 p)/\∀(a_3:Bool),a_2 a_3->cnd a_3 (∃(a_4:Unit),p.check=31/\True) (∃(a_4:Bool),∃(a_5:Bool->Prop),cnd (decide (p.top<0)) (yM a_5 p) (cnd (decide (p.top>1000000)) (yM a_5 p) (cnd (decide (p.least<1)) (yM a_5 p) (cnd (decide (p.least>1000)) (yM a_5 p) (cnd (decide (p.part<0)) (yM a_5 p) (∃(a_6:Bool),a_6=decide (p.part>100)/\qN a_5 a_6 p)))))/\∀(a_6:Bool),a_5 a_6->cnd a_6 (∃(a_7:Unit),p.check=24/\True) (∃(a_7:Unit),p.check=0/\True))))))))))
def z0w (p:Prd):Prop:=
 ∃(a:Prd),rJ a p
def gW (a:cG) (b:Nat×Nat):=(↑(yK a.p.months.length b.fst+b.snd):Int)
def yAa (i:cG):Prop:=
 ∃(a:Prd),sb a.code=sb i.p.code/\iE a.months=iE i.p.months/\a.tick=i.p.tick/\a.low=i.p.low/\a.high=i.p.high/\a.wide=i.p.wide/\a.rule=i.p.rule/\a.top=i.p.top/\a.least=i.p.least/\a.part=i.p.part/\iE a.settle=iE i.p.settle/\(z5 a)/\∀(b:Unit),True->cnd (a.check !=0) (fD i) (cnd (decide (i.n<0)) (fD i) (cnd (decide (i.n<(vH i))) (zAt i) (∃(c:Nat),(uI i c)=(vH i)/\(↑c:Int)=0/\∃(d:Nat->Prop),∃(e:Nat->Nat),d c/\∀(f:Nat),d f->cnd (decide ((↑f:Int)<(vH i))) (∃(g:Nat×Nat),(gW i g)=(uI i f)/\(↑g.fst:Int)=(↑f:Int)/\(↑(g.fst+1+g.snd):Int)=aa.wrap ((↑f:Int)+1)/\∃(h:Nat×Nat->Prop),∃(j:Nat×Nat->Nat),h g/\∀(k:Nat×Nat),h k->cnd (decide ((↑(k.fst+1+k.snd):Int)<(vH i))) (cnd ((gW i k)==i.n) (∃(l:Unit),(i.p.legs i.n).fst=(↑k.fst:Int)/\(i.p.legs i.n).snd.fst=(↑(k.fst+1+k.snd):Int)/\(i.p.legs i.n).snd.snd=ap/\True) (∃(l:Nat×Nat),(gW i l)=aa.wrap ((gW i k)+1)/\(↑l.fst:Int)=(↑k.fst:Int)/\(↑(l.fst+1+l.snd):Int)=aa.wrap ((↑(k.fst+1+k.snd):Int)+1)/\h l/\j l<j k/\sK i)) (∃(l:Nat),(uI i l)=(gW i k)/\(↑l:Int)=aa.wrap ((↑k.fst:Int)+1)/\zFp d l e f i)) (fD i))))
def yQ (a:WiI):Prop:=((-9223372036854775808)<=a.n/\a.n<=9223372036854775807)/\(-1000000)<=a.lo/\a.lo<=a.hi/\a.hi<=1000000
def x6 (a:WiI):=(1+zF a.n a.lo a.hi)
def uD:=(D.v (Value.slice none 0 0))
def kY:=(D.v (ba (ByteArray.mk #[])))
def zGw (a:Prd):Prop:=av (Sx.V.agg [V.d kY,V.d uD,V.d (dI 0),V.d (dI 0),V.d (dI 0),V.d (dI 0),V.d (dI 0),V.d (dI 0),V.d (dI 0),V.d (dI 0),V.d uD]).cl 25=av (Sx.V.agg [V.d kY,V.d uD,V.d (dI 0),V.d (dI 0),V.d (dI 0),V.d (dI 0),V.d (dI 0),V.d (dI 0),V.d (dI 0),V.d (dI 0),V.d uD]).cl 25/\aI a
def zHz (a:Prd) (b:WiI) (c:WiI) (d:WiI) (e:WiI) (f:Unit->Prop):Prop:=∃(g:WiI),g.n=a.part/\g.lo=0/\g.hi=100/\(yQ g)/\∀(h:Unit),True->∃(j:Unit),sb [(206:UInt8),(169:UInt8)]=ByteArray.mk #[(206:UInt8),(169:UInt8)]/\True/\zU a=aa.wrap (x6 b)/\(-20)*zU a=aa.wrap ((-20)*aa.wrap (x6 b))/\100*zU a=aa.wrap (100*aa.wrap (x6 b))/\dh ((0:Int))/\1+zF a.rule 0 2=aa.wrap (x6 c)/\zF a.top 0 9=zF d.n d.lo d.hi/\1+zF a.least 0 4=aa.wrap (x6 e)/\zF a.part 0 100=zF g.n g.lo g.hi/\True/\f j/\zGw a
def zGq (a:Prd) (b:WiI) (c:WiI) (d:WiI) (e:WiI) (f:Unit->Prop):Prop:=a.part=a.part/\zHz a b c d e f
def zIa (a:Prd) (b:WiI) (c:WiI) (d:WiI) (e:Unit->Prop):Prop:=a.part=a.part/\dh a.least/\∃(f:WiI),f.n=a.least/\f.lo=0/\f.hi=4/\(yQ f)/\∀(g:Unit),True->zGq a b c d f e
def zJd (a:Prd) (b:WiI) (c:WiI) (d:Unit->Prop):Prop:=a.part=a.part/\dh a.least/\dh a.top/\∃(e:WiI),e.n=a.top/\e.lo=0/\e.hi=9/\(yQ e)/\∀(f:Unit),True->zIa a b c e d
def gM (a:Prd):=(kJ (zU a) (kN a).toNat)
def yJn (x:Prd):Prop:=
 ∃(a:WiI),a.n=(xF x)/\a.lo=0/\a.hi=3/\(yQ a)/\∀(b:Unit),True->∃(c:WiI),c.n=x.tick/\c.lo=0/\c.hi=9/\(yQ c)/\∀(d:Unit),True->∃(e:Unit),∃(f:Unit->Prop),((∃(g:WiI),g.n=x.rule/\g.lo=0/\g.hi=2/\(yQ g)/\∀(h:Unit),True->dh x.part/\dh x.least/\dh x.top/\(∃(j:WiI),j.n=x.top/\j.lo=0/\j.hi=9/\(yQ j)/\∀(k:Unit),True->dh x.part/\dh x.least/\(∃(l:WiI),l.n=x.least/\l.lo=0/\l.hi=4/\(yQ l)/\∀(m:Unit),True->dh x.part/\(zHz x c g j l f)/\zGq x c g j l f)/\zIa x c g j f)/\zJd x c g f)/\dh x.part/\dh x.least/\dh x.top/\dh x.rule/\∃(g:WiI),g.n=x.rule/\g.lo=0/\g.hi=2/\(yQ g)/\∀(h:Unit),True->zJd x c g f)/\∀(g:Unit),f g->∃(h:WiI),h.n=x.wide/\h.lo=0/\h.hi=60/\(yQ h)/\∀(j:Unit),True->∃(k:Nat),(↑k:Int)=0/\dh (sb [(206:UInt8),(169:UInt8)])/\zU x=zU x/\dh ((-20)*zU x)/\dh (100*zU x)/\zU x*(5+zF x.wide 0 60)=aa.wrap (aa.wrap (x6 c)*aa.wrap (5+zF h.n h.lo h.hi))/\1+zF x.rule 0 (2:Int)=(1:Int)+zF x.rule 0 2/\zF x.top 0 9=zF x.top 0 (9:Int)/\(1:Int)+zF x.least 0 (4:Int)=(1:Int)+zF x.least 0 4/\dh (zF x.part 0 100)/\iE (qM k)=[]/\iE (kJ (zU x) k)=[]/\∃(l:Nat->Prop),∃(m:Nat->Nat),l k/\∀(n:Nat),l n->cnd (decide ((↑n:Int)<aa.wrap (2+zF a.n a.lo a.hi))) (((iE (qM n)).length+1)*(8:Nat)<=(140737488355328:Nat)/\((iE (kJ (zU x) n)).length+1)*(8:Nat)<=(140737488355328:Nat)/\∃(p:Nat),(↑p:Int)=aa.wrap ((↑n:Int)+1)/\dh (sb [(206:UInt8),(169:UInt8)])/\zU x=zU x/\dh ((-20)*zU x)/\dh (100*zU x)/\dh (zU x*(5+zF x.wide 0 60))/\1+zF x.rule 0 (2:Int)=(1:Int)+zF x.rule 0 2/\zF x.top 0 9=zF x.top 0 (9:Int)/\(1:Int)+zF x.least 0 (4:Int)=(1:Int)+zF x.least 0 4/\dh (zF x.part 0 100)/\iE (qM p)=iE (qM n)++[[dI (aa.wrap (aa.wrap (10*(↑n:Int))+3))]]/\iE (kJ (zU x) p)=iE (kJ (zU x) n)++[[dI (aa.wrap (aa.wrap (x6 c)*aa.wrap (10+(↑n:Int))))]]/\l p/\m p<m n/\zGw x) (∃(p:Unit),dh (sb [(206:UInt8),(169:UInt8)])/\iE (qM (kN x).toNat)=iE (qM n)/\zU x=zU x/\dh ((-20)*zU x)/\dh (100*zU x)/\dh (zU x*(5+zF x.wide 0 60))/\1+zF x.rule 0 (2:Int)=(1:Int)+zF x.rule 0 2/\zF x.top 0 9=zF x.top 0 (9:Int)/\(1:Int)+zF x.least 0 (4:Int)=(1:Int)+zF x.least 0 4/\dh (zF x.part 0 100)/\iE (gM x)=iE (kJ (zU x) n)/\True)
def yQj (s:List UInt8) (h:r3prodC.cnd s):z7w s:=by
 have h:s.length<=1099511627776:=h;have hr:=zIv s;unfold z7w cI eK qC mZ dJ;refine⟨(0,0),rfl,rfl,rfl,λx=>x.1<=s.length/\x.2+(uZ s x.1).length=(kR s).length/\(kR s).all hY=((uZ s x.1).all λy=>hY y.2),λx=>s.length-x.1,⟨oM,by rw[kR,y5z];simp,by rw[kR,List.all_map];rfl⟩,?_⟩;rintro⟨p,n⟩ ⟨h1,h2,h3⟩;dsimp only at h1 h2 h3 ⊢;refine Cv.cnd.mk (λhp=> ?_) (λhp=> ?_)
 ·have hp:p<s.length:=by simpa[y8z]using hp
  have hw:=cR s hp;rw[jL hp,y6d]at h2;rw[jL hp,List.all_cons]at h3;generalize hc:(be (sb s) p).1=c at h2 h3 ⊢;generalize hww:(be (sb s) p).2=w at h2 h3 hw ⊢;dsimp only at h3;have g0:∀b:Bool,(b=ap->hY c=ap)->(b=aq->hY c=aq)->b=hY c:=λb e1 e2=>by cases b<;>simp_all
  refine⟨ap,λb=>b= !hY c,?_,λb hb=> ?_⟩
  ·refine zI (λc1=>zI (λc2=>⟨_,rfl,?_,k0q⟩) (λc2=>zI (λc3=>zI (λc4=>⟨_,rfl,?_,k0q⟩) (λc4=>⟨_,rfl,?_,k0q⟩)) (λc3=>⟨_,rfl,?_,k0q⟩))) (λc1=>zI (λc3=>zI (λc4=>⟨_,rfl,?_,k0q⟩) (λc4=>⟨_,rfl,?_,k0q⟩)) (λc3=>⟨_,rfl,?_,k0q⟩))
   all_goals congr 1
   all_goals refine g0 _ (λe=> ?_) (λe=> ?_)
   all_goals first|(simp[hY]at*;done)|(simp[hY]at*;omega)
  ·subst hb;refine Cv.cnd.mk (λe=>⟨(),?_,trivial⟩) (λe=>⟨(p+w,n+1),?_,rfl,rfl,⟨hw.2,by(first|omega|(dsimp only;omega)),?_⟩,by(first|omega|(dsimp only;omega)),trivial⟩)
   ·have e:hY c=aq:=by simpa using e
    rw[wJ,h3,e];rfl
   ·rw[w64 (by omega)];rfl
   ·have e:hY c=ap:=by simpa using e
    rw[h3,e];rfl
 ·have hp:s.length<=p:=by have:=yAc hp;simpa using this
  rw[vV hp]at h2 h3;have h3:(kR s).all hY=ap:=h3;have hn:n=(kR s).length:=by simpa using h2
  have hne:(s=[])↔(kR s).length=0:=by
   constructor
   ·intro e;subst e;rfl
   ·intro e;cases s with
    |nil=>rfl
    |cons b l=>
     rw[kR,y5z,jL (by simp)]at e;simp at e
  refine zI (λc=>⟨(),?_,trivial⟩) (λc=>⟨(),?_,trivial⟩)
  ·have:¬s=[]:=by rw[hne];omega
   rw[wJ,h3,y6p this,hn];simp only[y8v];congr 1;simp only[eq_iff_iff];omega
  ·have:s=[]:=by rw[hne];omega
   rw[wJ,this];rfl
def yDe:r3prodC.ok Tryz.prog 171:=okw mixed gok0 0 (λ_=>yOp) (λs=>yPq s) [] Tryz.func171 yQj
def sB:∀(l:List Int) (a:Int),l.foldl min a<=a/\∀x∈l,l.foldl min a<=x
 |[],a=>⟨y9i _,by simp⟩
 |b::l,a=>by
  obtain⟨h1,h2⟩:=sB l (min a b);rw[y9r];refine⟨oM,λx hx=> ?_⟩;rcases y6q.1 hx with rfl|hx
  ·omega
  ·exact h2 x hx
def rE:∀(l:List Int) (a:Int),a<=l.foldl max a/\∀x∈l,x<=l.foldl max a
 |[],a=>⟨y9i _,by simp⟩
 |b::l,a=>by
  obtain⟨h1,h2⟩:=rE l (max a b);rw[y9r];refine⟨oM,λx hx=> ?_⟩;rcases y6q.1 hx with rfl|hx
  ·omega
  ·exact h2 x hx
def zBm:∀(l:List Int) (a:Int),l.foldl min a=a\/l.foldl min a∈l
 |[],a=> .inl rfl
 |b::l,a=>by
  rw[y9r];rcases zBm l (min a b)with h|h
  ·rcases Int.le_total a b with e|e
   ·left;rw[h];omega
   ·right;rw[h,show min a b=b by omega];exact y6e
  ·exact .inr (y6g _ h)
def zBk:∀(l:List Int) (a:Int),l.foldl max a=a\/l.foldl max a∈l
 |[],a=> .inl rfl
 |b::l,a=>by
  rw[y9r];rcases zBk l (max a b)with h|h
  ·rcases Int.le_total a b with e|e
   ·right;rw[h,show max a b=b by omega];exact y6e
   ·left;rw[h];omega
  ·exact .inr (y6g _ h)
def z6o {l:List Int} {x:Int} (h:x∈l):rU l<=x:=by
 cases l with
 |nil=>cases h
 |cons a l=>
  rw[rU,aj,ag];rcases y6q.1 h with rfl|h
  ·exact(sB l x).1
  ·exact(sB l a).2 x h
def z6c {l:List Int} {x:Int} (h:x∈l):x<=tO l:=by
 cases l with
 |nil=>cases h
 |cons a l=>
  rw[tO,aj,ag];rcases y6q.1 h with rfl|h
  ·exact(rE l x).1
  ·exact(rE l a).2 x h
def z0i {l:List Int} (h:l≠[]):rU l∈l:=by
 cases l with
 |nil=>exact absurd rfl h
 |cons a l=>
  rw[rU,aj,ag];rcases zBm l a with h|h
  ·rw[h];exact y6e
  ·exact y6g _ h
def zZf {l:List Int} (h:l≠[]):tO l∈l:=by
 cases l with
 |nil=>exact absurd rfl h
 |cons a l=>
  rw[tO,aj,ag];rcases zBk l a with h|h
  ·rw[h];exact y6e
  ·exact y6g _ h
def yKd (p:Prd) (h:r5checkC.cnd p):zYc p:=by
 obtain⟨h1,h2,h3⟩:p.small:=h;unfold zYc eY eM yM qN aI uN bM xF vA dI;simp only[yY];refine⟨p.code,rfl,h1,λ_ _=>Cv.cnd.mk (λc1=>⟨(),by rw[Prd.check,y6a c1],trivial⟩) λc1=> ?_⟩;have c1:wJ p.code=ap:=by simpa using c1
 have e1:p.check=if !xH p.months then 1 else if !qI p then 22 else if qK p then 23 else if xJ p then 1 else if kK p then 31 else if x7 p then 24 else 0:=by
  rw[Prd.check,y5x (by simp[c1])]
 refine⟨ap,λb=>b=(decide (p.months.length<2)||decide (p.months.length>6)),zI (λc=>⟨ap,rfl,?_,k0q⟩) (λc=>⟨_,rfl,?_,k0q⟩),λb hb=> ?_⟩
 ·rw[y6p (show p.months.length<2 by omega)];rfl
 ·rw[y6n (show ¬p.months.length<2 by omega),xBw];congr 1;simp only[eq_iff_iff];omega
 subst hb;refine Cv.cnd.mk (λc2=> ?_) (λc2=> ?_)
 ·have:xH p.months=aq:=by
   simp only[ar,y7m]at c2;rw[xH];rcases c2 with c2|c2
   ·rw[y6n (show ¬2<=p.months.length by omega)];simp
   ·rw[y6n (show ¬p.months.length<=6 by omega)];simp
  exact⟨(),by rw[e1,y6a (by rw[this];rfl)],trivial⟩
 have c2:2<=p.months.length/\p.months.length<=6:=by
  simp only[xAd,decide_eq_false_iff_not]at c2;omega
 have em:xH p.months=(ak p.months.length).all (qT p.months):=by
  rw[xH,y6p c2.1,y6p c2.2];simp
 refine⟨0,rfl,λj=>j<=p.months.length/\∀k<j,qT p.months k=ap,λj=>p.months.length-j,⟨oM,λk hk=>by omega⟩,?_⟩;rintro j ⟨g1,g2⟩;refine zI (λhj=> ?_) (λhj=> ?_)
 ·obtain⟨m,hm⟩:=yC (l:=p.months) (i:=j) oM;have hmj:p.months.getD j 0=m:=zT hm;refine⟨ap,λb=>b= !qT p.months j,⟨⟨oM,oM⟩,m,elI hm,zI (λc=>⟨ap,rfl,?_,k0q⟩) (λc=>⟨⟨oM,oM⟩,m,elI hm,zI (λd=>⟨ap,rfl,?_,k0q⟩) (λd=>zI (λe=> ?_) (λe=>⟨aq,rfl,?_,k0q⟩))⟩)⟩,λb hb=> ?_⟩
  ·rw[qT,hmj,y6n (show ¬0<=m by omega)];rfl
  ·rw[qT,hmj,y6n (show ¬m<=1199 by omega)];simp
  ·obtain⟨m',hm'⟩:=yC (l:=p.months) (i:=j-1) oM;rw[w64 (by omega),show((j:Int)-1).toNat=j-1 by omega];refine⟨⟨oM,oM⟩,m',elI hm',⟨oM,oM⟩,m,elI hm,_,rfl,?_,k0q⟩;rw[qT,hmj,zT hm',y6p (show 0<=m by omega),y6p (show m<=1199 by omega),y6n (show ¬j=0 by omega)];simp only[y8v,xBw];by_cases hlt:m'<m
   ·rw[y6p hlt,y6n (by omega)];rfl
   ·rw[y6n hlt,y6p (by omega)];rfl
  ·rw[qT,hmj,y6p (show 0<=m by omega),y6p (show m<=1199 by omega),y6p (show j=0 by omega)];rfl
  ·subst hb;refine Cv.cnd.mk (λc=>⟨(),?_,trivial⟩) (λc=>⟨j+1,by rw[w64 (by omega)];rfl,⟨oM,λk hk=> ?_⟩,by(first|omega|(dsimp only;omega)),k0q⟩)
   ·have c:qT p.months j=aq:=by simpa using c
    rw[e1,y6a (by rw[em,zTc (k:=j) (by omega) c];rfl)]
   ·have c:qT p.months j=ap:=by simpa using c
    rcases y8h k j with h|h
    ·exact g2 k h
    ·obtain rfl:k=j:=by omega
     exact c
 have em:xH p.months=ap:=by rw[em];exact zZg λk hk=>g2 k oM
 have e2:p.check=if !qI p then 22 else if qK p then 23 else if xJ p then 1 else if kK p then 31 else if x7 p then 24 else 0:=by
  rw[e1,y5x (by simp[em])]
 have et:qI p=((decide (1<=p.tick) && decide (p.tick<=1000) && !qO p.tick p.low && !qO p.tick p.high && !qO p.tick p.wide) && !p.settle.any (qO p.tick)):=rfl;refine⟨ap,λb=>b= !(decide (1<=p.tick) && decide (p.tick<=1000) && !qO p.tick p.low && !qO p.tick p.high && !qO p.tick p.wide),zI (λd1=>⟨ap,rfl,?_,k0q⟩) (λd1=>zI (λd2=>⟨ap,rfl,?_,k0q⟩) (λd2=>⟨trivial,oM,Cv.cnd.mk (λd3=>⟨ap,rfl,?_,k0q⟩) (λd3=>⟨trivial,oM,Cv.cnd.mk (λd4=>⟨ap,rfl,?_,k0q⟩) (λd4=>⟨trivial,oM,_,rfl,?_,k0q⟩)⟩)⟩)),λb hb=> ?_⟩
 ·rw[y6n (show ¬1<=p.tick by omega)];rfl
 ·rw[y6n (show ¬p.tick<=1000 by omega)];simp
 ·have d3:qO p.tick p.low=ap:=d3;rw[d3];simp
 ·have d4:qO p.tick p.high=ap:=d4;rw[d4];simp
 ·have d3:qO p.tick p.low=aq:=d3;have d4:qO p.tick p.high=aq:=d4;rw[d3,d4,y6p (show 1<=p.tick by omega),y6p (show p.tick<=1000 by omega)];show qO p.tick p.wide=_;simp
 subst hb;refine Cv.cnd.mk (λc3=> ?_) (λc3=> ?_)
 ·have c3:(decide (1<=p.tick) && decide (p.tick<=1000) && !qO p.tick p.low && !qO p.tick p.high && !qO p.tick p.wide)=aq:=by
   rw[y9m]at c3;exact c3
  exact⟨(),by rw[e2,y6a (by rw[et,c3];rfl)],trivial⟩
 have c3:(decide (1<=p.tick) && decide (p.tick<=1000) && !qO p.tick p.low && !qO p.tick p.high && !qO p.tick p.wide)=ap:=by simpa using c3
 have ht1:1<=p.tick:=by
  simp only[y6l,y7m]at c3;exact c3.1.1.1.1
 rw[c3,y8v]at et;refine⟨0,rfl,λj=>j<=p.settle.length/\∀k<j,∀x,p.settle[k]? =az x->qO p.tick x=aq,λj=>p.settle.length-j,⟨oM,λk hk=>by omega⟩,?_⟩;rintro j ⟨g1,g2⟩;refine zI (λhj=> ?_) (λhj=> ?_)
 ·obtain⟨m,hm⟩:=yC (l:=p.settle) (i:=j) oM;refine⟨⟨oM,oM⟩,m,elI hm,trivial,oM,Cv.cnd.mk (λc=>⟨(),?_,trivial⟩) (λc=>⟨j+1,by rw[w64 (by omega)];rfl,⟨oM,λk hk x hx=> ?_⟩,by(first|omega|(dsimp only;omega)),k0q⟩)⟩
  ·have c:qO p.tick m=ap:=c;have:p.settle.any (qO p.tick)=ap:=by rw[List.any_eq_true];exact⟨m,y6j hm,c⟩
   rw[e2,y6a (by rw[et,this];rfl)]
  ·rcases y8h k j with h|h
   ·exact g2 k h x hx
   ·obtain rfl:k=j:=by omega
    rw[hm]at hx;cases hx;exact c
 have et:qI p=ap:=by
  rw[et];have:p.settle.any (qO p.tick)=aq:=by
   rw[xCf];intro x hx;obtain⟨k,hk⟩:=xBn hx;rw[g2 k (by have:=(y6c.1 hk).1;omega) x hk];simp
  rw[this];rfl
 have e3:p.check=if qK p then 23 else if xJ p then 1 else if kK p then 31 else if x7 p then 24 else 0:=by
  rw[e2,y5x (by simp[et])]
 refine⟨ap,λb=>b=qK p,zI (λd1=>⟨ap,rfl,?_,k0q⟩) (λd1=>zI (λd2=>⟨ap,rfl,?_,k0q⟩) (λd2=>zI (λd3=>⟨ap,rfl,?_,k0q⟩) (λd3=>zI (λd4=>⟨ap,rfl,?_,k0q⟩) (λd4=>⟨_,rfl,?_,k0q⟩)))),λb hb=> ?_⟩
 ·simp[qK,d1]
 ·simp[qK,d2]
 ·simp[qK,d3]
 ·simp[qK,d4]
 ·rw[w64 (by omega)];simp[qK,d1,d2,d3,d4]
 subst hb;refine Cv.cnd.mk (λc4=>⟨(),by rw[e3,y6a c4],trivial⟩) (λc4=> ?_);have e4:p.check=if xJ p then 1 else if kK p then 31 else if x7 p then 24 else 0:=by
  rw[e3,y5x (by simp[c4])]
 refine Cv.cnd.mk (λd6=>⟨(),?_,trivial⟩) (λd6=> ?_)
 ·have d6:¬(p.settle.length:Int)=p.months.length:=by simpa using d6
  rw[e4,y6a (by simp[xJ];omega)]
 have d6:p.settle.length=p.months.length:=by
  have:(p.settle.length:Int)=p.months.length:=by simpa using d6
  omega
 have hne:p.settle≠[]:=by intro e;rw[e]at d6;simp at d6;omega
 refine⟨0,rfl,λj=>j<=p.settle.length/\∀k<j,∀x,p.settle[k]? =az x->p.low<=x/\x<=p.high,λj=>p.settle.length-j,⟨oM,λk hk=>by omega⟩,?_⟩;rintro j ⟨g3,g4⟩;refine zI (λhj=> ?_) (λhj=> ?_)
 ·obtain⟨m,hm⟩:=yC (l:=p.settle) (i:=j) oM;have hmm:=y6j hm;refine⟨ap,λb=>b=(decide (m<p.low)||decide (m>p.high)),⟨⟨oM,oM⟩,m,elI hm,zI (λc=>⟨ap,rfl,?_,k0q⟩) (λc=>⟨⟨oM,oM⟩,m,elI hm,_,rfl,?_,k0q⟩)⟩,λb hb=> ?_⟩
  ·rw[y6p c];rfl
  ·rw[y6n c,xBw]
  ·subst hb;refine Cv.cnd.mk (λc=>⟨(),?_,trivial⟩) (λc=>⟨j+1,by rw[w64 (by omega)];rfl,⟨oM,λk hk x hx=> ?_⟩,by(first|omega|(dsimp only;omega)),k0q⟩)
   ·have l1:=z6o hmm;have l2:=z6c hmm;rw[e4,y6a (by
     simp only[ar,y7m]at c;simp only[xJ,ar,y7m];rcases c with c|c
     ·left;right;omega
     ·right;omega)]
   ·rcases y8h k j with h|h
    ·exact g4 k h x hx
    ·obtain rfl:k=j:=by omega
     rw[hm]at hx;cases hx;simp only[xAd,decide_eq_false_iff_not]at c;omega
 have hset:xJ p=aq:=by
  have all:∀x∈p.settle,p.low<=x/\x<=p.high:=λx hx=>by
   obtain⟨k,hk⟩:=xBn hx;exact g4 k (by have:=(y6c.1 hk).1;omega) x hk
  have a1:=all _ (z0i hne);have a2:=all _ (zZf hne);simp only[xJ,xAd,decide_eq_false_iff_not];omega
 have e5:p.check=if kK p then 31 else if x7 p then 24 else 0:=by
  rw[e4,y5x (by simp[hset])]
 refine⟨ap,λb=>b=kK p,zI (λd1=>⟨ap,rfl,?_,k0q⟩) (λd1=>⟨_,rfl,?_,k0q⟩),λb hb=> ?_⟩
 ·simp[kK,d1]
 ·simp[kK,d1]
 subst hb;refine Cv.cnd.mk (λc6=>⟨(),by rw[e5,y6a c6],trivial⟩) (λc6=> ?_);have e6:p.check=if x7 p then 24 else 0:=by rw[e5,y5x (by simp[c6])]
 refine⟨ap,λb=>b=x7 p,zI (λd1=>⟨ap,rfl,?_,k0q⟩) (λd1=>zI (λd2=>⟨ap,rfl,?_,k0q⟩) (λd2=>zI (λd3=>⟨ap,rfl,?_,k0q⟩) (λd3=>zI (λd4=>⟨ap,rfl,?_,k0q⟩) (λd4=>zI (λd5=>⟨ap,rfl,?_,k0q⟩) (λd5=>⟨_,rfl,?_,k0q⟩))))),λb hb=> ?_⟩
 ·simp[x7,d1]
 ·simp[x7,d2]
 ·simp[x7,d3]
 ·simp[x7,d4]
 ·simp[x7,d5]
 ·simp[x7,d1,d2,d3,d4,d5]
 subst hb;exact Cv.cnd.mk (λc7=>⟨(),by rw[e6,y6a c7],trivial⟩) (λc7=>⟨(),by rw[e6,y5x (by simp[c7])],trivial⟩)
def zPa:r5checkC.ok Tryz.prog 143:=okw mixed (gokc yDe gok0) 0 (λ_=>yHk) (λ_=>yHs) [] Tryz.func143 yKd
def nV {p:Prd} (h:p.check=0):p.count=p.months.length+p.months.length*(p.months.length-1) / 2:=by rw[Prd.count,y6a h]
def zPj {p:Prd} (h:p.check≠0):p.count=0:=by rw[Prd.count,y5x h]
def yGf (p:Prd) (h:r5countC.cnd p):z0w p:=by
 have hs:p.small:=h;unfold z0w rJ xF z5;simp only[yY];refine⟨p,rF7 (rF3 ⟨rfl,hs,λ_ _=>Cv.cnd.mk (λc=>⟨(),?_,trivial⟩) (λc=>⟨trivial,Z8,(),?_,trivial⟩)⟩)⟩
 ·rw[zPj (by simpa using c)];rfl
 ·have c:p.check=0:=by simpa using c
  have m6:=(kI c).m6;have m2:=(kI c).m2;rw[nV c];generalize p.months.length=n at*;have:n=2\/n=3\/n=4\/n=5\/n=6:=by omega
  rcases this with rfl|rfl|rfl|rfl|rfl<;>decide
def z2e:r5countC.ok Tryz.prog 102:=okw mixed (gokc zPa gok0) 0 (λ_=>[]) (λ_=>[]) [] Tryz.func102 yGf
def yIe:∀n≤6,∀a<n,∀b<n-1-a,kU n (yK n a+b) n 0=((a:Int),((a+1+b:Nat):Int),ap)/\yK n a+b<n+n*(n-1) / 2/\n<=yK n a+b:=by decide
def yAy:∀n≤6,yK n n=n+n*(n-1) / 2:=by decide
def yPe {p:Prd} (h:p.check=0) {a b:Nat} (ha:a<p.months.length) (hb:b<p.months.length-1-a):p.legs ((yK p.months.length a+b:Nat):Int)=((a:Int),((a+1+b:Nat):Int),ap):=by
 obtain⟨h1,h2,h3⟩:=yIe _ (kI h).m6 a ha b hb;rw[Prd.legs,y5x (by rw[nV h];omega),y5x (by omega),y6r];exact h1
def yNe (i:cG) (h:r5legsC.cnd i):yAa i:=by
 have hs:i.p.small:=h;unfold yAa gW zFp sK vH uI zAt fD z5 dI;simp only[yY];refine⟨i.p,rF7 (rF3 ⟨rfl,hs,λ_ _=>Cv.cnd.mk (λc=> ?_) (λc=>zI (λc1=> ?_) (λc1=>zI (λc2=> ?_) (λc2=> ?_)))⟩)⟩
 ·rw[Prd.legs,y6a (by rw[zPj (by simpa using c)];omega)];exact kp
 ·rw[Prd.legs,y6a (.inl c1)];exact kp
 ·have c:i.p.check=0:=by simpa using c
  rw[Prd.legs,y5x (by rw[nV c];omega),y6a c2];exact kp
 ·have c:i.p.check=0:=by simpa using c
  have m6:=(kI c).m6;obtain⟨k,hk⟩:∃k:Nat,i.n=k:=⟨i.n.toNat,oM⟩
  have sp:=λ(a b:Nat) ha hb=>yPe (p:=i.p) c (a:=a) (b:=b) ha hb
  have fe:=yAy _ m6;have out:i.p.count<=k->i.p.legs (k:Int)=(0,0,aq):=λe=>by rw[Prd.legs,y6a (by omega)]
  rw[nV c,<- fe]at out;rw[hk]at c2 ⊢;generalize hn:i.p.months.length=n at*;refine⟨0,rfl,rfl,λm=>m<=n/\yK n m<=k,λm=>n-m,⟨oM,by show n<=k;omega⟩,?_⟩;rintro m ⟨g1,g2⟩;have hf:=zNe m6 g1;refine zI (λc4=> ?_) (λc4=> ?_)
  ·refine⟨(m,0),rfl,rfl,by rw[w64 (by omega)];simp,λx=>x.1=m/\x.2<=n-1-m/\yK n m+x.2<=k,λx=>n-1-m-x.2,⟨rfl,by(first|omega|(dsimp only;omega)),by(first|omega|(dsimp only;omega))⟩,?_⟩;rintro⟨a,b⟩ ⟨g3,g4,g5⟩;dsimp only at g3 g4 g5 ⊢;subst g3;refine zI (λc5=>Cv.cnd.mk (λe=> ?_) (λe=> ?_)) (λc5=> ?_)
   ·have e:((yK n a+b:Nat):Int)=(k:Int):=by simpa using e
    have:=sp a b oM oM;rw[e]at this;rw[this];exact kp
   ·have e:¬((yK n a+b:Nat):Int)=(k:Int):=by simpa using e
    refine⟨(a,b+1),?_,rfl,?_,⟨rfl,by(first|omega|(dsimp only;omega)),by(first|omega|(dsimp only;omega))⟩,by(first|omega|(dsimp only;omega)),k0q⟩
    ·rw[w64 (by omega)];dsimp only;omega
    ·rw[w64 (by omega)];dsimp only;omega
   ·refine⟨a+1,?_,by rw[w64 (by omega)];rfl,⟨oM,?_⟩,by(first|omega|(dsimp only;omega)),k0q⟩
    ·rw[yK];omega
    ·rw[yK];omega
  ·obtain rfl:m=n:=by omega
   rw[out g2];exact kp
def yCc:r5legsC.ok Tryz.prog 103:=okw mixed (gokc zPa gok0) 0 (λ_=>[]) (λi=>yLt i) [] Tryz.func103 yNe
def zEw (x:Prd):1<=zU x/\zU x<=10:=by
 have:=yT (n:=x.tick) (lo:=0) (hi:=9) oM;rw[zU];omega
def yDy (x:Prd):2<=kN x/\kN x<=5:=by
 have:=yT (n:=(x.months.length:Int)) (lo:=0) (hi:=3) oM;rw[kN];omega
def eG {a b m n:Int} (ha:0<=a/\a<=m) (hb:0<=b/\b<=n):0<=a*b/\a*b<=m*n:=by
 refine⟨xCh ha.1 hb.1,?_⟩;exact Int.le_trans (Int.mul_le_mul_of_nonneg_right ha.2 hb.1) (xAv hb.2 oM)
def zWg (j:Nat):iE (qM (j+1))=iE (qM j)++[[D.v (.int .i64 (10*(j:Int)+3))]]:=by
 rw[qM,xAt,y6i,iE,y6i];rfl
def zWm (t:Int) (j:Nat):iE (kJ t (j+1))=iE (kJ t j)++[[D.v (.int .i64 (t*(10+(j:Int))))]]:=by
 rw[kJ,xAt,y6i,iE,y6i];rfl
def tX (j:Nat):(qM j).length=j:=by simp[qM]
def mU (t:Int) (j:Nat):(kJ t j).length=j:=by simp[kJ]
def yVf (x:Prd) (h:kprodC.cnd x):yJn x:=by
 obtain⟨h1,h2,h3,h4,h5,h6,h7⟩:x.raw:=h;have hw: -1000000<=(0:Int):=by decide
 have bt:=yT (n:=x.tick) (lo:=0) (hi:=9) oM;have bw:=yT (n:=x.wide) (lo:=0) (hi:=60) oM;have br:=yT (n:=x.rule) (lo:=0) (hi:=2) oM;have bl:=yT (n:=x.least) (lo:=0) (hi:=4) oM;have bn:=yT (n:=(x.months.length:Int)) (lo:=0) (hi:=3) oM;have kt:=zEw x;have kn:=yDy x;have w1:aa.wrap (1+zF x.tick 0 9)=zU x:=w64 oM;have w2:aa.wrap (-20*aa.wrap (1+zF x.tick 0 9))= -20*zU x:=by rw[w1];exact w64 oM
 have w3:aa.wrap (100*aa.wrap (1+zF x.tick 0 9))=100*zU x:=by rw[w1];exact w64 oM
 have w4:aa.wrap (1+zF x.rule 0 2)=1+zF x.rule 0 2:=w64 oM;have w5:aa.wrap (1+zF x.least 0 4)=1+zF x.least 0 4:=w64 oM;have w6:aa.wrap (2+zF x.months.length 0 3)=kN x:=w64 oM;have mb:=eG (a:=zU x) (b:=5+zF x.wide 0 60) (m:=10) (n:=65) oM oM;have w7:aa.wrap (aa.wrap (1+zF x.tick 0 9)*aa.wrap (5+zF x.wide 0 60))=zU x*(5+zF x.wide 0 60):=by
  rw[w1,w64 (x:=5+zF x.wide 0 60) (by omega)];exact w64 oM
 unfold yJn gM zJd zIa zGq zHz zGw kY uD aI uN bM x6 yQ xF dI;simp only[yY];refine⟨⟨x.months.length,0,3⟩,rfl,rfl,rfl,⟨⟨Z9,Z9⟩,Z9,Z9,Z9⟩,λ_ _=>⟨⟨x.tick,0,9⟩,rfl,rfl,rfl,⟨h1,Z9,Z9,Z9⟩,λ_ _=> ?_⟩⟩;dsimp only;refine⟨(),λ_=>True,?_,λ_ _=> ?_⟩
 ·repeat'(first|exact trivial|exact rfl|exact w1.symm|exact w2.symm|exact w3.symm|exact w4.symm|exact w5.symm|apply au|refine⟨⟨x.rule,0,2⟩,rfl,rfl,rfl,⟨h3,Z9,Z9,Z9⟩,λ_ _=> ?_⟩|refine⟨⟨x.top,0,9⟩,rfl,rfl,rfl,⟨h4,Z9,Z9,Z9⟩,λ_ _=> ?_⟩|refine⟨⟨x.least,0,4⟩,rfl,rfl,rfl,⟨h5,Z9,Z9,Z9⟩,λ_ _=> ?_⟩|refine⟨⟨x.part,0,100⟩,rfl,rfl,rfl,⟨h6,Z9,Z9,Z9⟩,λ_ _=> ?_⟩|refine⟨(),?_⟩)
 ·refine⟨⟨x.wide,0,60⟩,rfl,rfl,rfl,⟨h2,Z9,Z9,Z9⟩,λ_ _=> ?_⟩;dsimp only;rw[w7,w6];refine⟨0,by(first|exact rfl|exact trivial),by(first|exact rfl|exact trivial),by(first|exact rfl|exact trivial),by(first|exact rfl|exact trivial),by(first|exact rfl|exact trivial),by(first|exact rfl|exact trivial),by(first|exact rfl|exact trivial),by(first|exact rfl|exact trivial),by(first|exact rfl|exact trivial),by(first|exact rfl|exact trivial),by(first|exact rfl|exact trivial),by(first|exact rfl|exact trivial),λj=>j<=(kN x).toNat,λj=>(kN x).toNat-j,oM,?_⟩;intro j hj;rw[tX,mU];refine zI (λc=>⟨oM,oM,j+1,by rw[w64 (by omega)];rfl,by(first|exact rfl|exact trivial),by(first|exact rfl|exact trivial),by(first|exact rfl|exact trivial),by(first|exact rfl|exact trivial),by(first|exact rfl|exact trivial),by(first|exact rfl|exact trivial),by(first|exact rfl|exact trivial),by(first|exact rfl|exact trivial),by(first|exact rfl|exact trivial),?_,?_,by(first|omega|(dsimp only;omega)),by(first|omega|(dsimp only;omega)),k0q⟩) (λc=>⟨(),?_⟩)
  ·rw[zWg,w64 (x:=10*(j:Int)) (by omega),w64 (by omega)]
  ·have mj:=eG (a:=zU x) (b:=10+(j:Int)) (m:=10) (n:=20) oM oM;rw[zWm,w1,w64 (x:=10+(j:Int)) (by omega),w64 (by omega)]
  ·have e:(kN x).toNat=j:=by omega
   rw[e];(repeat'(first|exact trivial|exact rfl|apply au))
def kprod_ok:kprodC.ok Tryz.prog 8:=okw mixed (gokc within_ok gok0) 0 (λx=>yTr x) (λx=>yUd x) [] Tryz.func8 yVf
structure Cmd where
 kind:Int
 id:Int
 inst:Int
 side:Int
 price:Int
 qty:Int
 least:Int
 time:Int
 label:List UInt8
 deriving DecidableEq
@[reducible] def Cmd.cells (c:Cmd):List V:=[zA c.kind,zA c.id,zA c.inst,zA c.side,zA c.price,zA c.qty,zA c.least,zA c.time,sV c.label]
@[reducible] def zGc (c:Cmd):V:= .agg c.cells
def cmdE (c:Cmd):List D:=[.v (.int .i64 c.kind),.v (.int .i64 c.id),.v (.int .i64 c.inst),.v (.int .i64 c.side),.v (.int .i64 c.price),.v (.int .i64 c.qty),.v (.int .i64 c.least),.v (.int .i64 c.time),.v (.string (sb c.label))]
def cmd0:Cmd:=⟨0,0,0,0,0,0,0,0,[]⟩
@[reducible] def Cmd.raw (c:Cmd):Prop:=i64r c.kind/\i64r c.id/\i64r c.inst/\i64r c.side/\i64r c.price/\i64r c.qty/\i64r c.least/\i64r c.time
structure TmI where
 p:Prd
 c:Cmd
 i:Int
def vX (c:Cmd):Int:=if 4<1+zF c.kind 0 8 then 1 else 1+zF c.kind 0 8
def yZ (t:TmI):Cmd:=⟨vX t.c,1+zF t.c.id 0 30,zF t.c.inst 0 (t.p.count-1),1+zF t.c.side 0 1,t.p.tick*zF t.c.price 0 9,1+zF t.c.qty 0 11,0,0,[]⟩
def fQ (c:Cmd):Int:=if c.time.tmod 5=3 then 3 else if c.time.tmod 5=2 then 2 else 1
def cA (c:Cmd) (q:Int):Int:=if c.least.tmod 4=1 then zF c.least 0 q else 0
def xE (t:TmI):Cmd:=
 let h:=yZ t
 if h.kind=1 then{h with id:=t.i+1,time:=fQ t.c,least:=cA t.c h.qty,price:=if(t.p.legs h.inst).2.2=ap then h.price-4*t.p.tick else h.price+8*t.p.tick}
 else{h with price:=if h.kind=4 then h.price+5*t.p.tick else h.price,side:=0,inst:=0}
def tameC:Con:=con1 TmI (λt=>[prdV t.p,zGc t.c,zA t.i]) (λ_=>[]) (λt=>t.p.check=0/\t.p.small/\t.c.raw/\0<=t.i/\t.i<=1000000) (λt=>zGc (xE t)) (λ_=>[])
def cj (k:Nat):Nat×SAnn:=(k,{ι:=Cmd,slots:=λ_=>[(7,.nm 0 0)],slots0:=λ_=>[(7,.nm 0 0)],rows0:=λc=>[.cells c.cells 44],rows:=λc=>[.cells c.cells 44]})
def y2x:List (Nat×SAnn):=[cj 14,cj 54,cj 62,cj 70]
def zEp (a:Cmd) (b:Cmd) (c:Cmd->Prop) (d:TmI):Prop:=sb a.label=sb b.label/\c a/\dh (av (Sx.V.agg [V.d (dI 0),V.d (dI 0),V.d (dI 0),V.d (dI 0),V.d (dI 0),V.d (dI 0),V.d (dI 0),V.d (dI 0),V.d kY]).cl 44)/\dh (av [V.d (dI d.c.kind),V.d (dI d.c.id),V.d (dI d.c.inst),V.d (dI d.c.side),V.d (dI d.c.price),V.d (dI d.c.qty),V.d (dI d.c.least),V.d (dI d.c.time),V.d (D.v (ba (sb d.c.label)))] 44)/\dh (av [V.d (D.v (ba (sb d.p.code))),V.own 0,V.d (dI d.p.tick),V.d (dI d.p.low),V.d (dI d.p.high),V.d (dI d.p.wide),V.d (dI d.p.rule),V.d (dI d.p.top),V.d (dI d.p.least),V.d (dI d.p.part),V.own 1] 25)/\dh (ax 1 (iE d.p.settle))/\dh (ax 1 (iE d.p.months))
def zMw (a:Cmd) (b:Cmd) (c:Cmd->Prop) (d:TmI):Prop:=a.time=b.time/\zEp a b c d
def zPh (a:Cmd) (b:Cmd) (c:Cmd->Prop) (d:TmI):Prop:=a.id=b.id/\a.inst=b.inst/\a.side=b.side/\a.price=b.price/\a.qty=b.qty/\a.least=b.least/\zMw a b c d
def lF (a:Cmd) (b:Cmd->Prop) (c:TmI):Prop:=∃(d:Cmd),d.kind=a.kind/\zPh d a b c
def zIw (a:TmI) (b:WiI) (c:Cmd):Prop:=(xE a).qty=aa.wrap (x6 b)/\(xE a).least=c.least/\(xE a).time=c.time/\sb (xE a).label=sb c.label/\True
def zJm (a:TmI) (b:Cmd):Prop:=(xE a).qty=b.qty/\(xE a).least=b.least/\(xE a).time=b.time/\sb (xE a).label=sb b.label/\True
def ySh (t:TmI):Prop:=
 ∃(a:WiI),a.n=t.c.kind/\a.lo=0/\a.hi=8/\(yQ a)/\∀(b:Unit),True->∃(c:WiI),c.n=t.c.id/\c.lo=0/\c.hi=30/\(yQ c)/\∀(d:Unit),True->∃(e:Cmd),e.kind=aa.wrap (x6 a)/\e.id=aa.wrap (x6 c)/\e.inst=0/\e.side=0/\e.price=0/\e.qty=0/\e.least=0/\e.time=0/\sb e.label=ByteArray.mk #[]/\∃(f:Cmd->Prop),cnd (decide (e.kind>4)) (∃(g:Cmd),g.kind=1/\zPh g e f t) (lF e f t)/\∀(g:Cmd),f g->∃(h:Prd),sb h.code=sb t.p.code/\iE h.months=iE t.p.months/\h.tick=t.p.tick/\h.low=t.p.low/\h.high=t.p.high/\h.wide=t.p.wide/\h.rule=t.p.rule/\h.top=t.p.top/\h.least=t.p.least/\h.part=t.p.part/\iE h.settle=iE t.p.settle/\(z5 h)/\∀(j:Unit),True->∃(k:WiI),k.n=t.c.inst/\k.lo=0/\k.hi=aa.wrap ((↑h.count:Int)-1)/\(yQ k)/\∀(l:Unit),True->∃(m:WiI),m.n=t.c.side/\m.lo=0/\m.hi=1/\(yQ m)/\∀(n:Unit),True->∃(p:WiI),p.n=t.c.qty/\p.lo=0/\p.hi=11/\(yQ p)/\∀(q:Unit),True->∃(r:WiI),r.n=t.c.price/\r.lo=0/\r.hi=9/\(yQ r)/\∀(s:Unit),True->dh t.p.tick/\cnd (g.kind==1) (∃(u:Cmd),u.kind=g.kind/\u.id=aa.wrap (t.i+1)/\u.inst=zF k.n k.lo k.hi/\u.side=aa.wrap (x6 m)/\u.price=aa.wrap (t.p.tick*zF r.n r.lo r.hi)/\u.qty=aa.wrap (x6 p)/\u.least=g.least/\u.time=1/\sb u.label=sb g.label/\∃(v:Cmd->Prop),(aa=aa/\(5:Int)≠(0:Int)/\cnd (t.c.time.tmod (5:Int)==(2:Int)) (∃(w:Cmd),w.kind=u.kind/\w.id=u.id/\w.inst=u.inst/\w.side=u.side/\w.price=u.price/\w.qty=u.qty/\w.least=u.least/\w.time=2/\zEp w u v t) (lF u v t))/\∀(w:Cmd),v w->∃(x:Cmd),x.kind=w.kind/\x.id=w.id/\x.inst=w.inst/\x.side=w.side/\x.price=w.price/\x.qty=w.qty/\x.least=w.least/\x.time=w.time/\sb x.label=sb w.label/\∃(y:Cmd->Prop),(aa=aa/\(5:Int)≠(0:Int)/\cnd (t.c.time.tmod (5:Int)==(3:Int)) (∃(z:Cmd),z.kind=x.kind/\z.id=x.id/\z.inst=x.inst/\z.side=x.side/\z.price=x.price/\z.qty=x.qty/\z.least=x.least/\z.time=3/\zEp z x y t) (lF x y t))/\∀(z:Cmd),y z->∃(a_1:Cmd),a_1.kind=z.kind/\a_1.id=z.id/\a_1.inst=z.inst/\a_1.side=z.side/\a_1.price=z.price/\a_1.qty=z.qty/\a_1.least=z.least/\a_1.time=z.time/\sb a_1.label=sb z.label/\∃(a_2:Cmd->Prop),(aa=aa/\(4:Int)≠(0:Int)/\cnd (t.c.least.tmod (4:Int)==(1:Int)) (∃(a_3:WiI),a_3.n=t.c.least/\a_3.lo=0/\a_3.hi=a_1.qty/\(yQ a_3)/\∀(a_4:Unit),True->∃(a_5:Cmd),a_5.kind=a_1.kind/\a_5.id=a_1.id/\a_5.inst=a_1.inst/\a_5.side=a_1.side/\a_5.price=a_1.price/\a_5.qty=a_1.qty/\a_5.least=zF a_3.n a_3.lo a_3.hi/\zMw a_5 a_1 a_2 t) (lF a_1 a_2 t))/\∀(a_3:Cmd),a_2 a_3->∃(a_4:cG),sb a_4.p.code=sb t.p.code/\iE a_4.p.months=iE t.p.months/\a_4.p.tick=t.p.tick/\a_4.p.low=t.p.low/\a_4.p.high=t.p.high/\a_4.p.wide=t.p.wide/\a_4.p.rule=t.p.rule/\a_4.p.top=t.p.top/\a_4.p.least=t.p.least/\a_4.p.part=t.p.part/\iE a_4.p.settle=iE t.p.settle/\a_4.n=a_3.inst/\(jF a_4)/\∀(a_5:Unit),True->cnd (!(a_4.p.legs a_4.n).snd.snd) (∃(a_6:Unit),(xE t).kind=a_3.kind/\(xE t).id=a_3.id/\(xE t).inst=a_3.inst/\(xE t).side=a_3.side/\(xE t).price=aa.wrap (a_3.price+aa.wrap (8*t.p.tick))/\zJm t a_3) (∃(a_6:Unit),(xE t).kind=a_3.kind/\(xE t).id=a_3.id/\(xE t).inst=a_3.inst/\(xE t).side=a_3.side/\(xE t).price=aa.wrap (a_3.price-aa.wrap (4*t.p.tick))/\zJm t a_3)) (cnd (g.kind==4) (∃(u:Unit),(xE t).kind=g.kind/\(xE t).id=g.id/\(xE t).inst=0/\(xE t).side=0/\(xE t).price=aa.wrap (aa.wrap (t.p.tick*zF r.n r.lo r.hi)+aa.wrap (5*t.p.tick))/\zIw t p g) (∃(u:Unit),(xE t).kind=g.kind/\(xE t).id=g.id/\(xE t).inst=0/\(xE t).side=0/\(xE t).price=aa.wrap (t.p.tick*zF r.n r.lo r.hi)/\zIw t p g))
def y0b (t:TmI) (h:tameC.cnd t):ySh t:=by
 obtain⟨hc,hs,⟨r1,r2,r3,r4,r5,r6,r7,r8⟩,i0,i1⟩:t.p.check=0/\t.p.small/\t.c.raw/\0<=t.i/\t.i<=1000000:=h;have ok:=kI hc;have t1:=ok.t1;have t2:=ok.t2;have m2:=ok.m2;have hcl:=xL t.p;have hcd:=nV hc;have bk:=yT (n:=t.c.kind) (lo:=0) (hi:=8) oM;have bi:=yT (n:=t.c.id) (lo:=0) (hi:=30) oM;have bs:=yT (n:=t.c.side) (lo:=0) (hi:=1) oM;have bq:=yT (n:=t.c.qty) (lo:=0) (hi:=11) oM;have bp:=yT (n:=t.c.price) (lo:=0) (hi:=9) oM;have mb:=eG (a:=t.p.tick) (b:=zF t.c.price 0 9) (m:=1000) (n:=9) oM oM;have wp:aa.wrap (t.p.tick*zF t.c.price 0 9)=t.p.tick*zF t.c.price 0 9:=w64 oM;unfold ySh lF zPh zMw zEp kY zJm zIw x6 yQ z5 jF dI;refine⟨⟨t.c.kind,0,8⟩,rfl,rfl,rfl,⟨r1,Z9,Z9,Z9⟩,λ_ _=>⟨⟨t.c.id,0,30⟩,rfl,rfl,rfl,⟨r2,Z9,Z9,Z9⟩,λ_ _=> ?_⟩⟩;dsimp only;rw[w64 (x:=1+zF t.c.kind 0 8) (by omega),w64 (x:=1+zF t.c.id 0 30) (by omega)];refine⟨⟨1+zF t.c.kind 0 8,1+zF t.c.id 0 30,0,0,0,0,0,0,[]⟩,rF8 ⟨rfl,λc=>c=⟨vX t.c,1+zF t.c.id 0 30,0,0,0,0,0,0,[]⟩,zI (λe=>⟨⟨vX t.c,1+zF t.c.id 0 30,0,0,0,0,0,0,[]⟩,?_,rfl,rfl,rfl,rfl,rfl,rfl,rfl,rfl,rfl,k0q⟩) (λe=>⟨⟨vX t.c,1+zF t.c.id 0 30,0,0,0,0,0,0,[]⟩,?_,rfl,rfl,rfl,rfl,rfl,rfl,rfl,rfl,rfl,k0q⟩),λc hcc=> ?_⟩⟩
 ·dsimp only at e ⊢;rw[vX,y6a (by omega)]
 ·dsimp only at e ⊢;rw[vX,y5x (by omega)]
 subst hcc;refine⟨t.p,rF7 (rF3 ⟨rfl,hs,λ_ _=> ?_⟩)⟩;rw[w64 (x:=(t.p.count:Int)-1) (by omega)];refine⟨⟨t.c.inst,0,(t.p.count:Int)-1⟩,rfl,rfl,rfl,⟨r3,Z9,Z9,Z9⟩,λ_ _=>⟨⟨t.c.side,0,1⟩,rfl,rfl,rfl,⟨r4,Z9,Z9,Z9⟩,λ_ _=>⟨⟨t.c.qty,0,11⟩,rfl,rfl,rfl,⟨r6,Z9,Z9,Z9⟩,λ_ _=>⟨⟨t.c.price,0,9⟩,rfl,rfl,rfl,⟨r5,Z9,Z9,Z9⟩,λ_ _=>⟨rfl,?_⟩⟩⟩⟩⟩;dsimp only;rw[wp,w64 (x:=1+zF t.c.side 0 1) (by omega),w64 (x:=1+zF t.c.qty 0 11) (by omega),w64 (x:=t.i+1) (by omega)];refine Cv.cnd.mk (λk=> ?_) (λk=> ?_)
 ·have k:vX t.c=1:=by simpa using k
  refine⟨{yZ t with id:=t.i+1,time:=1},rF8 ⟨rfl,λc=>c={yZ t with id:=t.i+1,time:=if t.c.time.tmod 5=2 then 2 else 1},⟨rfl,Z8,Cv.cnd.mk (λe=>⟨{yZ t with id:=t.i+1,time:=2},rF8 ⟨rfl,?_,k0q⟩⟩) (λe=>⟨{yZ t with id:=t.i+1,time:=1},rF8 ⟨rfl,?_,k0q⟩⟩)⟩,λc hcc=> ?_⟩⟩
  ·have e:t.c.time.tmod 5=2:=by simpa using e
   rw[y6a e]
  ·have e:¬t.c.time.tmod 5=2:=by simpa using e
   rw[y5x e]
  subst hcc;refine⟨{yZ t with id:=t.i+1,time:=if t.c.time.tmod 5=2 then 2 else 1},rF8 ⟨rfl,λc=>c={yZ t with id:=t.i+1,time:=fQ t.c},⟨rfl,Z8,Cv.cnd.mk (λe=>⟨{yZ t with id:=t.i+1,time:=3},rF8 ⟨rfl,?_,k0q⟩⟩) (λe=>⟨{yZ t with id:=t.i+1,time:=if t.c.time.tmod 5=2 then 2 else 1},rF8 ⟨rfl,?_,k0q⟩⟩)⟩,λc hcc=> ?_⟩⟩
  ·have e:t.c.time.tmod 5=3:=by simpa using e
   rw[fQ,y6a e]
  ·have e:¬t.c.time.tmod 5=3:=by simpa using e
   rw[fQ,y5x e]
  subst hcc;have hq:(yZ t).qty=1+zF t.c.qty 0 11:=rfl;refine⟨{yZ t with id:=t.i+1,time:=fQ t.c},rF8 ⟨rfl,λc=>c={yZ t with id:=t.i+1,time:=fQ t.c,least:=cA t.c (yZ t).qty},⟨rfl,Z8,Cv.cnd.mk (λe=>⟨⟨t.c.least,0,(yZ t).qty⟩,rfl,rfl,rfl,⟨r7,Z9,Z9,Z9⟩,λ_ _=>⟨{yZ t with id:=t.i+1,time:=fQ t.c,least:=zF t.c.least 0 (yZ t).qty},rF8 ⟨rfl,?_,k0q⟩⟩⟩) (λe=>⟨{yZ t with id:=t.i+1,time:=fQ t.c},rF8 ⟨rfl,?_,k0q⟩⟩)⟩,λc hcc=> ?_⟩⟩
  ·have e:t.c.least.tmod 4=1:=by simpa using e
   rw[cA,y6a e]
  ·have e:¬t.c.least.tmod 4=1:=by simpa using e
   rw[cA,y5x e];rfl
  subst hcc;refine⟨⟨t.p,(yZ t).inst⟩,rF8 (rF3 ⟨rfl,hs,λ_ _=> ?_⟩)⟩;dsimp only;have hp:(yZ t).price=t.p.tick*zF t.c.price 0 9:=rfl;have hk1:(yZ t).kind=1:=k;rw[w64 (x:=8*t.p.tick) (by omega),w64 (x:=4*t.p.tick) (by omega),w64 (x:=(yZ t).price+8*t.p.tick) (by omega),w64 (x:=(yZ t).price-4*t.p.tick) (by omega)];refine Cv.cnd.mk (λe=>⟨(),?_⟩) (λe=>⟨(),?_⟩)
  ·have e:(t.p.legs (yZ t).inst).2.2=aq:=by simpa using e
   have:xE t={yZ t with id:=t.i+1,time:=fQ t.c,least:=cA t.c (yZ t).qty,price:=(yZ t).price+8*t.p.tick}:=by
    simp only[xE,hk1,if_true,e,y6s,if_false]
   rw[this];(repeat'(first|exact trivial|exact rfl|apply au))
  ·have e:(t.p.legs (yZ t).inst).2.2=ap:=by simpa using e
   have:xE t={yZ t with id:=t.i+1,time:=fQ t.c,least:=cA t.c (yZ t).qty,price:=(yZ t).price-4*t.p.tick}:=by
    simp only[xE,hk1,if_true,e]
   rw[this];(repeat'(first|exact trivial|exact rfl|apply au))
 ·have k:¬vX t.c=1:=by simpa using k
  have k:¬(yZ t).kind=1:=k;rw[w64 (x:=5*t.p.tick) (by omega),w64 (x:=t.p.tick*zF t.c.price 0 9+5*t.p.tick) (by omega)];have et:xE t={yZ t with price:=if(yZ t).kind=4 then(yZ t).price+5*t.p.tick else(yZ t).price,side:=0,inst:=0}:=by
   simp only[xE,k,if_false]
  rw[et];refine Cv.cnd.mk (λe=>⟨(),?_⟩) (λe=>⟨(),?_⟩)
  ·have e:vX t.c=4:=by simpa using e
   have e:(yZ t).kind=4:=e;simp only[y6a e];(repeat'(first|exact trivial|exact rfl|apply au))
  ·have e:¬vX t.c=4:=by simpa using e
   have e:¬(yZ t).kind=4:=e;simp only[y5x e];(repeat'(first|exact trivial|exact rfl|apply au))
def yOn:tameC.ok Tryz.prog 45:=okw mixed (gokc within_ok (gokc z2e (gokc yCc gok0))) 0 (λ_=>y2x) (λ_=>[]) [] Tryz.func45 y0b
structure ShI where
 a:Int
 b:Int
 c:Int
def add64C:Con:=con1 ShI (λi=>[lK i.a,lK i.b,lK i.c]) (λ_=>[]) (λi=>0<=i.a/\0<=i.b/\0<=i.c/\i.c<=1) (λi=> .tup [lK ((i.a+i.b+i.c) % 18446744073709551616),lK ((i.a+i.b+i.c) / 18446744073709551616)]) (λ_=>[])
def yDj {P : Program} {f : FuncId} {fn : Func} (hf : P.funcs[f]? = some fn) (hname : (fn.name == "runtime.NumGoroutine") = false) (hb : fn.body.isNone = true) (hn : Extern.findNext fn = none) (he : Extern.find fn = some add64Entry) : add64C.ok P f := by
 intro i hc k L E w ys R hv;obtain⟨h1,h2,h3,h4⟩:0<=i.a/\0<=i.b/\0<=i.c/\i.c<=1:=hc;simp only[add64C,con1,VRL,VR,DR]at hv;obtain⟨_,_,rfl,⟨rfl,_⟩,_,_,rfl,⟨rfl,_⟩,_,_,rfl,⟨rfl,_⟩,rfl⟩:=hv;unfold Does;rw[run_callFunc_extern hf hname hb hn he,run_add64 i.a i.b i.c h1 h2 h3 h4];simp only[Result.andThen];refine⟨_,y7q.2 rfl,(),trivial,E,Ev.le.refl _,?_,R⟩;simp only[add64C,con1,VR,VRL,DR];exact⟨_,rfl,_,_,rfl,⟨rfl,rfl⟩,_,_,rfl,⟨rfl,rfl⟩,rfl⟩
def yBx:add64C.ok Tryz.prog 233:=by
 refine yDj (P:=Tryz.prog) (f:=233) (fn:=Tryz.f233) Tryz.func233 ?_ ?_ ?_ ?_
 ·kernel_rfl
 ·kernel_rfl
 ·kernel_rfl
 ·kernel_rfl
structure M2 where
 a:Int
 b:Int
def mul64C:Con:=con1 M2 (λi=>[lK i.a,lK i.b]) (λ_=>[]) (λi=>0<=i.a/\i.a<=2000000000/\0<=i.b/\i.b<=2000000000) (λi=> .tup [lK 0,lK (i.a*i.b)]) (λ_=>[])
def div64C:Con:=con1 M2 (λi=>[lK 0,lK i.a,lK i.b]) (λ_=>[]) (λi=>0<=i.a/\i.a<=4000000000000000000/\1<=i.b/\i.b<=2000000000) (λi=> .tup [lK (i.a / i.b),lK (i.a % i.b)]) (λ_=>[])
def ishareC:Con:=con1 ShI (λi=>[zA i.a,zA i.b,zA i.c]) (λ_=>[]) (λi=>0<=i.a/\i.a<=2000000000/\0<=i.b/\i.b<=2000000000/\1<=i.c/\i.c<=2000000000) (λi=> .tup [zA (i.a*i.b / i.c),yP ap]) (λ_=>[])
def isumC:Con:=con1 (List Int) (λl=>[iV l]) (λ_=>[]) (λl=>l.length<=1000/\∀x∈l,0<=x/\x<=1000000) (λl=> .tup [zA l.sum,yP ap]) (λ_=>[])
def y2e (l:List Int):List SAnn:=[{ι:=Nat,slots:=λj=>[(4,lK (l.take j).sum),(5,zA 0),(11,zA j)],rows:=λ_=>[]}]
structure LqI where
 l:List Int
 q:Int
def yW (l:List Int) (q:Int):Bool:=decide (l.length<=250) && decide (0<=q) && l.all (λn=>decide (1<=n) && decide (n<=1000000)) && decide (q<=l.sum)
def rightC:Con:=con1 LqI (λi=>[iV i.l,zA i.q]) (λ_=>[]) (λi=>i.l.length<=1000000/\i64r i.q) (λi=>yP (yW i.l i.q)) (λ_=>[])
def yTc (i:LqI):List SAnn:=[{ι:=Nat,slots:=λj=>[(5,zA (i.l.take j).sum),(17,zA j)],rows:=λ_=>[]}]
def uY:List Int->Int->List Int
 |[],_=>[]
 |n::l,q=>min n q::uY l (q-min n q)
def gD (l:List Int) (q:Int):List Int:=if yW l q=ap then uY l q else[]
def fifoC:Con:=con1 LqI (λi=>[iV i.l,zA i.q]) (λ_=>[]) (λi=>i.l.length<=1000000/\i64r i.q) (λ_=> .own 0) (λi=>[.own 2 1 (iE (gD i.l i.q))])
def y2o (i:LqI):List SAnn:=[{ι:=Nat,slots:=λj=>[(5,.own 0),(1,zA (i.q-((uY i.l i.q).take j).sum)),(15,zA j)],rows:=λj=>[.own 2 1 (iE ((uY i.l i.q).take j))]}]
def zDo (a:M2):=(ab.wrap (ab.wrap (mJ ab a.a 32*zCj ab a.b 4294967295)+mJ ab (ab.wrap (zCj ab a.a 4294967295*zCj ab a.b 4294967295)) 32))
def yKm (i:M2):Prop:=
 (0:Int)<=(32:Int)/\(0:Int)<=(32:Int)/\(0:Int)<=(32:Int)/\(0:Int)<=(32:Int)/\(0:Int)<=(32:Int)/\∃(a:Unit),0=ab.wrap (ab.wrap (ab.wrap (mJ ab i.a 32*mJ ab i.b 32)+mJ ab (zDo i) 32)+mJ ab (ab.wrap (zCj ab (zDo i) 4294967295+ab.wrap (zCj ab i.a 4294967295*mJ ab i.b 32))) 32)/\i.a*i.b=ab.wrap (i.a*i.b)/\True
def yKh (i:M2):Prop:=
 cnd (i.b==0) False (cnd (decide (i.b<=0)) False (ab=ab/\i.b≠0/\ab=ab/\i.b≠0/\∃(a:Unit),i.a / i.b=ab.wrap (i.a.tdiv i.b)/\i.a % i.b=i.a.tmod i.b/\True))
def z6i (i:ShI):Prop:=
 cnd (decide (i.a<0)) (∃(a:Unit),i.a*i.b / i.c=0/\ap=aq/\True) (cnd (decide (i.b<0)) (∃(a:Unit),i.a*i.b / i.c=0/\ap=aq/\True) (cnd (decide (i.c<1)) (∃(a:Unit),i.a*i.b / i.c=0/\ap=aq/\True) (∃(a:M2),a.a=ab.wrap i.a/\a.b=ab.wrap i.b/\(0<=a.a/\a.a<=(2000000000:Int)/\(0:Int)<=a.b/\a.b<=2000000000)/\∀(b:Unit),True->cnd (decide (0>=ab.wrap i.c)) (∃(c:Unit),i.a*i.b / i.c=0/\ap=aq/\True) (∃(c:M2),dh ((0:Int))/\c.a=a.a*a.b/\c.b=ab.wrap i.c/\(0<=c.a/\c.a<=(4000000000000000000:Int)/\(1:Int)<=c.b/\c.b<=2000000000)/\∀(d:Unit),True->cnd (decide (c.a / c.b>9223372036854775807)) (∃(e:Unit),i.a*i.b / i.c=0/\ap=aq/\True) (∃(e:Unit),i.a*i.b / i.c=aa.wrap (c.a / c.b)/\ap=ap/\True)))))
def ySk (l:List Int):Prop:=
 ∃(a:Nat),(ae a l).sum=(0:Int)/\(0:Int)=0/\(↑a:Int)=0/\∃(b:Nat->Prop),∃(c:Nat->Nat),b a/\∀(d:Nat),b d->cnd (decide ((↑d:Int)<(↑(iE l).length:Int))) ((0<=(↑d:Int)/\(↑d:Int)<(↑(iE l).length:Int))/\∃(e:Int),zE (iE l) (↑d:Int).toNat 0 1=az [dI e]/\∃(f:ShI),f.a=(ae d l).sum/\f.b=ab.wrap e/\f.c=0/\(0<=f.a/\0<=f.b/\0<=f.c/\f.c<=1)/\∀(g:Unit),True->(0:Int)<=(63:Int)/\∃(h:Nat),(ae h l).sum=(f.a+f.b+f.c) % (18446744073709551616:Int)/\(0:Int)=aa.wrap (0+aa.wrap (mJ aa e 63+aa.wrap ((f.a+f.b+f.c) / (18446744073709551616:Int))))/\kT h d b c) ((0:Int)<=(63:Int)/\cnd (0 !=mJ aa (aa.wrap (ae d l).sum) 63) (∃(e:Unit),l.sum=0/\ap=aq/\True) (∃(e:Unit),l.sum=aa.wrap (ae d l).sum/\ap=ap/\True))
def yLd (i:LqI):Prop:=
 cnd (decide ((↑(iE i.l).length:Int)>250)) (∃(a:Unit),yW i.l i.q=aq/\True) (cnd (decide (i.q<0)) (∃(a:Unit),yW i.l i.q=aq/\True) (∃(a:Nat),(ae a i.l).sum=0/\(↑a:Int)=0/\∃(b:Nat->Prop),∃(c:Nat->Nat),b a/\∀(d:Nat),b d->cnd (decide ((↑d:Int)<(↑(iE i.l).length:Int))) ((0<=(↑d:Int)/\(↑d:Int)<(↑(iE i.l).length:Int))/\∃(e:Int),zE (iE i.l) (↑d:Int).toNat 0 1=az [dI e]/\cnd (decide (e<1)) (∃(f:Unit),yW i.l i.q=aq/\True) (cnd (decide (e>1000000)) (∃(f:Unit),yW i.l i.q=aq/\True) (∃(f:Nat),(ae f i.l).sum=aa.wrap ((ae d i.l).sum+e)/\kT f d b c))) (∃(e:Unit),yW i.l i.q=decide (i.q<=(ae d i.l).sum)/\True)))
def wE (a:LqI):Prop:=a.l.length<=(1000000:Nat)/\(-9223372036854775808:Int)<=a.q/\a.q<=9223372036854775807
def wC (a:Nat) (b:LqI):=(ae a (uY b.l b.q))
def yRm (i:LqI):Prop:=
 ∃(a:LqI),iE a.l=iE i.l/\a.q=i.q/\(wE a)/\∀(b:Unit),True->cnd (!yW a.l a.q) (∃(c:Unit),iE (gD i.l i.q)=[]/\True) (∃(c:Nat),i.q-(wC c i).sum=i.q/\(↑c:Int)=0/\iE (wC c i)=[]/\∃(d:Nat->Prop),∃(e:Nat->Nat),d c/\∀(f:Nat),d f->cnd (decide ((↑f:Int)<(↑(iE i.l).length:Int))) ((0<=(↑f:Int)/\(↑f:Int)<(↑(iE i.l).length:Int))/\∃(g:Int),zE (iE i.l) (↑f:Int).toNat 0 1=az [dI g]/\((iE (wC f i)).length+1)*(8:Nat)<=(140737488355328:Nat)/\∃(h:Nat),i.q-(wC h i).sum=aa.wrap (i.q-(wC f i).sum-min g (i.q-(wC f i).sum))/\(↑h:Int)=aa.wrap ((↑f:Int)+1)/\iE (wC h i)=iE (wC f i)++[[dI (min g (i.q-(wC f i).sum))]]/\d h/\e h<e f/\True) (∃(g:Unit),iE (gD i.l i.q)=iE (wC f i)/\True))
def zVa {x:Int} (h0:0<=x) (h1:x<4294967296):zCj .u64 x 4294967295=x:=by
 have e:zCj .u64 x 4294967295=ab.wrap ((BitVec.ofInt 64 x &&& BitVec.ofInt 64 4294967295).toNat:Int):=rfl;obtain⟨n,rfl⟩:=Int.eq_ofNat_of_zero_le h0;have hn:n<4294967296:=by omega
 rw[e,BitVec.toNat_and,BitVec.ofInt_natCast,BitVec.toNat_ofNat,show(BitVec.ofInt 64 4294967295).toNat=2 ^ 32-1 by decide,Nat.and_two_pow_sub_one_eq_mod];rw[show n % 2 ^ 64 % 2 ^ 32=n by omega,zCx (by omega)]
def zLp {x:Int} (h0:0<=x) (h1:x<4294967296):mJ .u64 x 32=0:=by
 have:=zGf .u64 x 32 Z8;rw[show((32:Nat):Int)=32 by rfl]at this;rw[this];omega
def z7r {a b m n:Int} (ha:0<=a/\a<=m) (hb:0<=b/\b<=n):0<=a*b/\a*b<=m*n:=
 ⟨xCh ha.1 hb.1,Int.mul_le_mul ha.2 hb.2 hb.1 oM⟩
def yTk (i:M2) (h:mul64C.cnd i):yKm i:=by
 obtain⟨h1,h2,h3,h4⟩:0<=i.a/\i.a<=2000000000/\0<=i.b/\i.b<=2000000000:=h;have hm:=z7r ⟨h1,h2⟩ ⟨h3,h4⟩;have hs:mJ ab (i.a*i.b) 32=(i.a*i.b) / 4294967296:=by
  have:=zGf .u64 (i.a*i.b) 32 Z8;rw[show((32:Nat):Int)=32 by rfl]at this;exact this
 unfold yKm zDo;refine⟨Z8,Z8,Z8,Z8,Z8,(),?_,?_,trivial⟩
 ·rw[zVa h1 (by omega),zVa h3 (by omega),zLp h1 (by omega),zLp h3 (by omega),zCx (x:=i.a*i.b) (by omega),hs];simp only[Int.zero_mul,Int.mul_zero,Int.zero_add,Int.add_zero];rw[zCx (x:=0) (by omega)];simp only[Int.zero_add,Int.add_zero];rw[zCx (x:=i.a*i.b / 4294967296) (by omega),zLp (x:=i.a*i.b / 4294967296) (by omega) (by omega),zVa (x:=i.a*i.b / 4294967296) (by omega) (by omega),zCx (x:=i.a*i.b / 4294967296) (by omega),zLp (x:=i.a*i.b / 4294967296) (by omega) (by omega)];rfl
 ·rw[zCx (by omega)]
def yJy:mul64C.ok Tryz.prog 227:=okw mixed gok0 0 (λ_=>[]) (λ_=>[]) [] Tryz.func227 yTk
def yYi (i:M2) (h:div64C.cnd i):yKh i:=by
 obtain⟨h1,h2,h3,h4⟩:0<=i.a/\i.a<=4000000000000000000/\1<=i.b/\i.b<=2000000000:=h;unfold yKh;have hd:0<=i.a / i.b/\i.a / i.b<=i.a:=⟨Int.ediv_nonneg h1 oM,Int.ediv_le_self _ h1⟩
 refine Cv.cnd.mk (λc=>absurd (eq_of_beq c) oM) (λ_=>zI (λc=>by omega) (λ_=>⟨rfl,oM,rfl,oM,(),?_,?_,trivial⟩))
 ·rw[Int.tdiv_eq_ediv_of_nonneg h1,zCx (by omega)]
 ·rw[xBj h1]
def yFr:div64C.ok Tryz.prog 228:=okw mixed gok0 0 (λ_=>[]) (λ_=>[]) [] Tryz.func228 yYi
def yLw (i:ShI) (h:ishareC.cnd i):z6i i:=by
 obtain⟨h1,h2,h3,h4,h5,h6⟩:0<=i.a/\i.a<=2000000000/\0<=i.b/\i.b<=2000000000/\1<=i.c/\i.c<=2000000000:=h;have hm:=z7r ⟨h1,h2⟩ ⟨h3,h4⟩;have hd:0<=i.a*i.b / i.c/\i.a*i.b / i.c<=i.a*i.b:=⟨Int.ediv_nonneg hm.1 oM,Int.ediv_le_self _ hm.1⟩
 unfold z6i;rw[zCx (x:=i.a) (by omega),zCx (x:=i.b) (by omega),zCx (x:=i.c) (by omega)];refine zI (λc=>by omega) (λ_=>zI (λc=>by omega) (λ_=>zI (λc=>by omega) (λ_=>⟨⟨i.a,i.b⟩,rfl,rfl,⟨h1,h2,h3,h4⟩,λ_ _=>zI (λc=>by omega) (λ_=>⟨⟨i.a*i.b,i.c⟩,rfl,rfl,rfl,⟨hm.1,Z9,h5,h6⟩,λ_ _=>zI (λc=>by dsimp only at c;omega) (λ_=>⟨(),?_,rfl,trivial⟩)⟩)⟩)));rw[w64 (by dsimp only;omega)]
def zSf:ishareC.ok Tryz.prog 223:=okw mixed (gokc yJy (gokc yFr gok0)) 0 (λ_=>[]) (λ_=>[]) [] Tryz.func223 yLw
def wjn {j:Nat} (h:j<=1000000):((j+1:Nat):Int)=aa.wrap ((j:Int)+1):=by rw[w64 (by omega)];rfl
def jX {l:List Int} {j:Nat} {x:Int} (h:l[j]? =az x):(l.take (j+1)).sum=(l.take j).sum+x:=by
 rw[y7h,h];simp
def jU {l:List Int} (h:∀x∈l,0<=x/\x<=1000000):∀j:Nat,0<=(l.take j).sum/\(l.take j).sum<=1000000*j
 |0=>by simp
 |j+1=>by
  have ih:=jU h j;cases hx:l[j]? with
  |none=>
   have:l.take (j+1)=l.take j:=by
    rw[y7h,hx];simp
   rw[this];omega
  |some x=>
   have:=h x (y6j hx);rw[jX hx];omega
def y0x (l:List Int) (h:isumC.cnd l):ySk l:=by
 obtain⟨hl,hb⟩:l.length<=1000/\∀x∈l,0<=x/\x<=1000000:=h;unfold ySk kT dI;simp only[yY];refine⟨0,by(first|exact rfl|exact trivial),by(first|exact rfl|exact trivial),by(first|exact rfl|exact trivial),λj=>j<=l.length,λj=>l.length-j,y7e _,λj hj=>zI (λc=> ?_) (λc=> ?_)⟩
 ·have hj':j<l.length:=by omega
  obtain⟨x,hx⟩:=yC (l:=l) (i:=j) hj';have bx:=hb x (y6j hx);have bs:=jU hb j;refine⟨⟨oM,oM⟩,x,elI hx,⟨(l.take j).sum,x,0⟩,rfl,by rw[zCx (by omega)],rfl,⟨bs.1,bx.1,Z9,Z9⟩,λ_ _=>⟨Z8,j+1,?_,?_,wjn oM,hj',Z9,trivial⟩⟩
  ·rw[jX hx];dsimp only;omega
  ·have e:mJ aa x 63=x / 9223372036854775808:=by
    have:=zGf .i64 x 63 Z8;rw[show((63:Nat):Int)=63 by rfl]at this;exact this
   dsimp only;rw[e,show x / 9223372036854775808=0 by omega,show((l.take j).sum+x+0) / 18446744073709551616=0 by omega];rfl
 ·have hj':j=l.length:=by omega
  subst hj';have bs:=jU hb l.length;rw[y8x]at bs;have e:mJ aa l.sum 63=l.sum / 9223372036854775808:=by
   have:=zGf .i64 l.sum 63 Z8;rw[show((63:Nat):Int)=63 by rfl]at this;exact this
  rw[y8x,w64 (x:=l.sum) (by omega),e,show l.sum / 9223372036854775808=0 by omega];exact⟨Z8,Cv.cnd.mk (λc=>absurd c Z8) (λ_=>⟨(),by(first|exact rfl|exact trivial),by(first|exact rfl|exact trivial),trivial⟩)⟩
def yPf:isumC.ok Tryz.prog 230:=okw mixed (gokc yBx gok0) 0 (λ_=>[]) (λl=>y2e l) [] Tryz.func230 y0x
def yYp (i:LqI) (h:rightC.cnd i):yLd i:=by
 obtain⟨hl,hq⟩:i.l.length<=1000000/\i64r i.q:=h;unfold yLd kT dI;simp only[yY];refine zI (λc=>⟨(),?_,trivial⟩) (λc1=>zI (λc=>⟨(),?_,trivial⟩) (λc2=> ?_))
 ·rw[yW,y6n (by omega:¬i.l.length<=250)];rfl
 ·rw[yW,y6n (by omega:¬0<=i.q)];simp
 refine⟨0,by(first|exact rfl|exact trivial),by(first|exact rfl|exact trivial),λj=>j<=i.l.length/\∀k<j,∀x,i.l[k]? =az x->1<=x/\x<=1000000,λj=>i.l.length-j,⟨y7e _,λk hk=>absurd hk (Nat.not_lt_zero k)⟩,λj hj=>zI (λc=> ?_) (λc=> ?_)⟩
 ·obtain⟨hj0,hjb⟩:=hj;have hj':j<i.l.length:=by omega
  obtain⟨x,hx⟩:=yC (l:=i.l) (i:=j) hj';have bad (hn:¬(1<=x/\x<=1000000)):yW i.l i.q=aq:=by
   have:(i.l.all λn=>decide (1<=n) && decide (n<=1000000))=aq:=by
    rw[List.all_eq_false];exact⟨x,y6j hx,by simpa using hn⟩
   rw[yW,this];simp
  have bs:0<=(i.l.take j).sum/\(i.l.take j).sum<=1000000*j:=by
   have:=jU (l:=i.l.take j) (λy hy=>by
    obtain⟨k,hk⟩:=y8p.1 hy;have hkj:k<j:=by
     have:=(y6c.1 hk).1;rw[y6t]at this;omega
    rw[List.getElem?_take_of_lt hkj]at hk;have:=hjb k hkj y hk;omega) j
   rwa [List.take_take,Nat.min_self]at this
  refine⟨⟨oM,oM⟩,x,elI hx,zI (λd=>⟨(),bad oM,trivial⟩) (λd=>zI (λe=>⟨(),bad oM,trivial⟩) (λe=>⟨j+1,?_,wjn oM,⟨hj',λk hk y hy=> ?_⟩,Z9,trivial⟩))⟩
  ·rw[jX hx,w64 (by omega)]
  ·by_cases hkj:k=j
   ·rw[hkj,hx]at hy;cases hy;omega
   ·exact hjb k oM y hy
 ·obtain⟨hj0,hjb⟩:=hj;have hj':j=i.l.length:=by omega
  subst hj';have:(i.l.all λn=>decide (1<=n) && decide (n<=1000000))=ap:=by
   rw[y9e];intro y hy;obtain⟨k,hk⟩:=y8p.1 hy;have:=hjb k ((y6c.1 hk).1) y hk;simpa using this
  refine⟨(),?_,trivial⟩;rw[yW,this,y6p (by omega:i.l.length<=250),y6p (by omega:0<=i.q),y8x];rfl
def zFn:rightC.ok Tryz.prog 221:=okw mixed gok0 0 (λ_=>[]) (λi=>yTc i) [] Tryz.func221 yYp
def jH {l:List Int} {q:Int} (h:yW l q=ap):l.length<=250/\0<=q/\(∀x∈l,1<=x/\x<=1000000)/\q<=l.sum:=by
 simp only[yW,y6l,y7m,y9e]at h;exact⟨h.1.1.1,h.1.1.2,h.1.2,h.2⟩
def zLk {l:List Int} {q:Int} (h:yW l q=ap):q<=250000000:=by
 obtain⟨h1,h2,h3,h4⟩:=jH h;have:=jU (l:=l) (λx hx=>by have:=h3 x hx;omega) l.length;rw[y8x]at this;omega
def eL:∀(l:List Int) (q:Int),(uY l q).length=l.length
 |[],_=>rfl
 |n::l,q=>by rw[uY,y6d,y6d,eL l]
def zPx:∀(l:List Int) (q:Int) (j:Nat) (n:Int),l[j]? =az n->(uY l q)[j]? =az (min n (q-((uY l q).take j).sum))
 |[],_,_,_,h=>by simp at h
 |m::l,q,0,n,h=>by simp at h;subst h;simp[uY]
 |m::l,q,j+1,n,h=>by
  rw[y7x]at h;rw[uY,y7x,zPx l _ j n h,y7k,y7n];congr 2;omega
def zJb:∀(l:List Int) (q:Int) (j:Nat),0<=q->(∀x∈l,0<=x)->0<=q-((uY l q).take j).sum/\q-((uY l q).take j).sum<=q
 |[],q,j,h,_=>by simp[uY,h]
 |m::l,q,0,h,_=>by simp[h]
 |m::l,q,j+1,h,hb=>by
  have hm:=hb m y6e;have:=zJb l (q-min m q) j oM (λx hx=>hb x (y6g _ hx));rw[uY,y7k,y7n];omega
def y2a (i:LqI) (h:fifoC.cnd i):yRm i:=by
 obtain⟨hl,hq⟩:i.l.length<=1000000/\i64r i.q:=h;unfold yRm wC wE dI;refine⟨i,rfl,rfl,⟨hl,hq⟩,λ_ _=>Cv.cnd.mk (λc=> ?_) (λc=> ?_)⟩
 ·have c:yW i.l i.q=aq:=by simpa using c
  refine⟨(),?_,trivial⟩;rw[gD,y5x (by rw[c];decide)];rfl
 have c:yW i.l i.q=ap:=by simpa using c
 obtain⟨h1,h2,h3,h4⟩:=jH c;have hq2:=zLk c;have h3':∀x∈i.l,0<=x:=λx hx=>by have:=h3 x hx;omega
 simp only[yY];refine⟨0,by simp,rfl,rfl,λj=>j<=i.l.length,λj=>i.l.length-j,y7e _,λj hj=>zI (λd=> ?_) (λd=> ?_)⟩
 ·have hj':j<i.l.length:=by omega
  obtain⟨x,hx⟩:=yC (l:=i.l) (i:=j) hj';have bx:=h3 x (y6j hx);have g:=zPx i.l i.q j x hx;have r:=zJb i.l i.q j h2 h3';refine⟨⟨oM,oM⟩,x,elI hx,by rw[y6t];omega,j+1,?_,wjn oM,?_,hj',Z9,trivial⟩
  ·rw[jX g,w64 (by omega)];omega
  ·rw[y7h,g];simp[iE]
 ·have hj':j=i.l.length:=by omega
  subst hj';refine⟨(),?_,trivial⟩;rw[gD,y6a c,y6k (by rw[eL];omega)]
def z6d:fifoC.ok Tryz.prog 210:=okw mixed (gokc zFn gok0) 0 (λ_=>[]) (λi=>y2o i) [] Tryz.func210 y2a
structure Ent where
 slot:Int
 id:Int
 qty:Int
 top:Bool
 deriving DecidableEq
def y1h:Ent:=⟨0,0,0,aq⟩
def zKx (e:Ent):List D:=[.v (.int .i64 e.slot),.v (.int .i64 e.id),.v (.int .i64 e.qty),.v (.bool e.top)]
@[reducible] def y4b (e:Ent):V:= .agg [zA e.slot,zA e.id,zA e.qty,yP e.top]
def Slot.ent (s:Slot):Ent:=⟨s.n,s.id,s.qty,s.top⟩
def Arena.slotAt (a:Arena) (k:Nat):Slot:=a.slots.getD k slot0
def Arena.getF (a:Arena) (n:Int):Ent×Bool:=if a.usedAt n=ap then((a.slotAt n.toNat).ent,ap)else(y1h,aq)
def agetC:Con:=con1 ArN (λi=>[.nm 0 0,zA i.n]) (λi=>[jV i.a]) (λi=>i.a.slots.length<=1000000) (λi=> .tup [y4b (i.a.getF i.n).1,yP (i.a.getF i.n).2]) (λi=>[jV i.a])
def z0p (sl:List Slot):Int->List Nat->Prop
 |at_,[]=>at_= -1
 |at_,k::l=>at_=k/\k<sl.length/\z0p sl (sl.getD k slot0).back l
structure ArL where
 a:Arena
 n:Int
 l:List Nat
def tM (l:List Nat) (j:Nat):Int:=match l[j]? with
 |some k=>k
 |none=> -1
def Arena.ents (a:Arena) (l:List Nat):List Ent:=l.map λk=>(a.slotAt k).ent
structure Arena.listOk (a:Arena) (n:Int) (l:List Nat):Prop where
 len:l.length<=1000000
 ch:if 0<=n/\n<a.queues.length then z0p a.slots (a.queues.getD n.toNat aB).first l else l=[]
def alistC:Con:=con1 ArL (λi=>[.nm 0 0,zA i.n]) (λi=>[jV i.a]) (λi=>i.a.listOk i.n i.l) (λ_=> .own 1) (λi=>[jV i.a,.own 247 4 ((i.a.ents i.l).map zKx)])
def yVs (i:ArL):List SAnn:=[{ι:=Nat,slots:=λj=>[(5,.own 0),(6,zA (tM i.l j))],rows:=λj=>[.own 247 4 ((i.a.ents (i.l.take j)).map zKx)]}]
structure TkI where
 a:Arena
 n:Int
 qty:Int
def Arena.dropF (a:Arena) (k:Nat):Arena:=
 let s:=a.slotAt k
 let q:=a.queues.getD s.queue.toNat aB
 let sl1:=if s.ahead= -1 then a.slots else a.slots.modify s.ahead.toNat λx=>{x with back:=s.back}
 let sl2:=if s.back= -1 then sl1 else sl1.modify s.back.toNat λx=>{x with ahead:=s.ahead}
 ⟨sl2.set k slot0,a.queues.set s.queue.toNat ⟨if s.ahead= -1 then s.back else q.first,if s.back= -1 then s.ahead else q.last,q.total,aa.wrap (q.count-1)⟩,aa.wrap (a.free+1)⟩
def Arena.less (a:Arena) (k:Nat) (qty:Int):Arena:=
 {a with slots:=a.slots.modify k λs=>{s with qty:=s.qty-qty},queues:=a.queues.modify (a.slotAt k).queue.toNat λq=>{q with total:=aa.wrap (q.total-qty)}}
def Arena.takeF (a:Arena) (n qty:Int):Arena×Int:=
 if a.usedAt n=aq then(a,26)else if qty<1\/(a.slotAt n.toNat).qty<qty then(a,24)
 else if(a.slotAt n.toNat).qty=qty then((a.less n.toNat qty).dropF n.toNat,0)else(a.less n.toNat qty,0)
def Arena.okAt (a:Arena):Prop:=a.slots.length<=1000000/\∀(k:Nat) (s:Slot),a.slots[k]? =az s->s.used=ap->(0<=s.queue/\s.queue<a.queues.length)/\s.qty<=1000000/\(s.ahead= -1\/(0<=s.ahead/\s.ahead<a.slots.length/\s.ahead≠k))/\(s.back= -1\/(0<=s.back/\s.back<a.slots.length/\s.back≠k))
def atakeC:Con:=con1 TkI (λi=>[.nm 0 0,zA i.n,zA i.qty]) (λi=>[jV i.a]) (λi=>i.a.okAt) (λi=>zA (i.a.takeF i.n i.qty).2) (λi=>[jV (i.a.takeF i.n i.qty).1])
def zBe (a:ArN):Prop:=∃(b:Unit),(a.a.getF a.n).fst.slot=0/\(a.a.getF a.n).fst.id=0/\(a.a.getF a.n).fst.qty=0/\(a.a.getF a.n).fst.top=aq/\(a.a.getF a.n).snd=aq/\jR a
def yRl (i:ArN):Prop:=
 cnd (decide (i.n<0)) (zBe i) (cnd (decide (i.n>=(↑(ac zS i.a.slots).length:Int))) (zBe i) ((0<=i.n/\i.n<(↑(ac zS i.a.slots).length:Int))/\∃(a:Bool),zE (ac zS i.a.slots) i.n.toNat 0 1=az [D.v (.bool a)]/\cnd (!a) (zBe i) ((0<=i.n/\i.n<(↑(ac zS i.a.slots).length:Int))/\∃(b:Int),∃(c:Int),∃(d:Int),∃(e:Bool),zE (ac zS i.a.slots) i.n.toNat 1 4=az [dI b,dI c,dI d,D.v (.bool e)]/\∃(f:Unit),(i.a.getF i.n).fst.slot=b/\(i.a.getF i.n).fst.id=c/\(i.a.getF i.n).fst.qty=d/\(i.a.getF i.n).fst.top=e/\(i.a.getF i.n).snd=ap/\jR i)))
def zCq (a:ArL):Prop:=∃(b:Unit),dh a.a.free/\dh (ac zS a.a.slots)/\dh (ac zP a.a.queues)/\ac zKx (a.a.ents a.l)=[]/\True
def yHb (i:ArL):Prop:=
 cnd (decide (i.n>=0)) (cnd (!decide (i.n<(↑(ac zP i.a.queues).length:Int))) (zCq i) ((0<=i.n/\i.n<(↑(ac zP i.a.queues).length:Int))/\∃(a:Int),zE (ac zP i.a.queues) i.n.toNat 0 1=az [dI a]/\∃(b:Nat),tM i.l b=a/\ac zKx (i.a.ents (ae b i.l))=[]/\∃(c:Nat->Prop),∃(d:Nat->Nat),c b/\∀(e:Nat),c e->cnd (tM i.l e !=(-1)) ((0<=tM i.l e/\tM i.l e<(↑(ac zS i.a.slots).length:Int))/\∃(f:Int),∃(g:Int),∃(h:Int),∃(j:Bool),zE (ac zS i.a.slots) (tM i.l e).toNat 1 4=az [dI f,dI g,dI h,D.v (.bool j)]/\((ac zKx (i.a.ents (ae e i.l))).length+1)*(32:Nat)<=(140737488355328:Nat)/\(0<=tM i.l e/\tM i.l e<(↑(ac zS i.a.slots).length:Int))/\∃(k:Int),zE (ac zS i.a.slots) (tM i.l e).toNat 7 1=az [dI k]/\∃(l:Nat),tM i.l l=k/\ac zKx (i.a.ents (ae l i.l))=ac zKx (i.a.ents (ae e i.l))++[[dI f,dI g,dI h,D.v (.bool j)]]/\c l/\d l<d e/\dh (av [V.own 1,V.own 2,V.d (dI i.a.free)] (280:TypeId))/\dh (aw 273 8 (ac zS i.a.slots))/\dh (aw 283 4 (ac zP i.a.queues))) (∃(f:Unit),dh i.a.free/\dh (ac zS i.a.slots)/\dh (ac zP i.a.queues)/\ac zKx (i.a.ents i.l)=ac zKx (i.a.ents (ae e i.l))/\True))) (zCq i)
def zBz (a:TkI):Prop:=(a.a.takeF a.n a.qty).fst.free=a.a.free/\ac zS (a.a.takeF a.n a.qty).fst.slots=ac zS a.a.slots/\ac zP (a.a.takeF a.n a.qty).fst.queues=ac zP a.a.queues/\True
def tA (a:TkI):Prop:=∃(b:Unit),(a.a.takeF a.n a.qty).snd=26/\zBz a
def zDn (a:TkI):Prop:=∃(b:Unit),(a.a.takeF a.n a.qty).snd=24/\zBz a
def wY (a:TkI) (b:Int) (c:Int):=(zX (ac zP a.a.queues) b.toNat 2 [dI (aa.wrap (c-a.qty))])
def dS (a:TkI) (b:Int) (c:Int) (d:Int) (e:Int):=(zX (wY a b c) d.toNat 0 [dI e])
def rD (a:TkI) (b:Int) (c:Int) (d:Int) (e:Int) (f:Int):=(zX (dS a b c d e) d.toNat 1 [dI f])
def y4 (a:TkI) (b:Int):=(zX (ac zS a.a.slots) a.n.toNat 3 [dI (aa.wrap (b-a.qty))])
def zCh (a:Int) (b:TkI) (c:Int):Prop:=0<=a/\a<(↑(y4 b c).length:Int)
def kV (a:TkI) (b:Int) (c:Int) (d:Int):=(zX (y4 a b) c.toNat 7 [dI d])
def rK (a:TkI) (b:Int) (c:Int) (d:Int) (e:Int):=(zX (wY a b c) d.toNat 1 [dI e])
def yJr (i:TkI):Prop:=
 cnd (decide (i.n<0)) (tA i) (cnd (decide (i.n>=(↑(ac zS i.a.slots).length:Int))) (tA i) ((0<=i.n/\i.n<(↑(ac zS i.a.slots).length:Int))/\∃(a:Bool),zE (ac zS i.a.slots) i.n.toNat 0 1=az [D.v (.bool a)]/\cnd (!a) (tA i) ((0<=i.n/\i.n<(↑(ac zS i.a.slots).length:Int))/\cnd (decide (i.qty<1)) (zDn i) (∃(b:Int),zE (ac zS i.a.slots) i.n.toNat 3 1=az [dI b]/\cnd (decide (i.qty>b)) (zDn i) (∃(c:Int),zE (ac zS i.a.slots) i.n.toNat 3 1=az [dI c]/\i.n.toNat<(ac zS i.a.slots).length/\∃(d:Int),zE (y4 i c) i.n.toNat 5 1=az [dI d]/\(0<=d/\d<(↑(ac zP i.a.queues).length:Int))/\∃(e:Int),zE (ac zP i.a.queues) d.toNat 2 1=az [dI e]/\(0<=d/\d<(↑(ac zP i.a.queues).length:Int))/\d.toNat<(ac zP i.a.queues).length/\∃(f:Int),zE (y4 i c) i.n.toNat 3 1=az [dI f]/\cnd (f==0) (∃(g:Int),zE (y4 i c) i.n.toNat 5 1=az [dI g]/\(0<=g/\g<(↑(wY i d e).length:Int))/\∃(h:Int),zE (y4 i c) i.n.toNat 6 1=az [dI h]/\cnd (h==(-1)) (∃(j:Int),zE (y4 i c) i.n.toNat 7 1=az [dI j]/\g.toNat<(wY i d e).length/\∃(k:Int),zE (y4 i c) i.n.toNat 7 1=az [dI k]/\cnd (k==(-1)) (∃(l:Int),zE (y4 i c) i.n.toNat 6 1=az [dI l]/\g.toNat<(dS i d e g j).length/\∃(m:Int),zE (rD i d e g j l) g.toNat 3 1=az [dI m]/\g.toNat<(rD i d e g j l).length/\i.n.toNat<(y4 i c).length/\∃(n:Unit),(i.a.takeF i.n i.qty).snd=0/\(i.a.takeF i.n i.qty).fst.free=aa.wrap (i.a.free+1)/\ac zS (i.a.takeF i.n i.qty).fst.slots=zX (y4 i c) i.n.toNat 0 [D.v (.bool aq),dI 0,dI 0,dI 0,D.v (.bool aq),dI 0,dI 0,dI 0]/\ac zP (i.a.takeF i.n i.qty).fst.queues=zX (rD i d e g j l) g.toNat 3 [dI (aa.wrap (m-1))]/\True) (∃(l:Int),zE (y4 i c) i.n.toNat 7 1=az [dI l]/\∃(m:Int),zE (y4 i c) i.n.toNat 6 1=az [dI m]/\(zCh l i c)/\l.toNat<(y4 i c).length/\∃(n:Int),zE (dS i d e g j) g.toNat 3 1=az [dI n]/\g.toNat<(dS i d e g j).length/\i.n.toNat<(zX (y4 i c) l.toNat 6 [dI m]).length/\∃(p:Unit),(i.a.takeF i.n i.qty).snd=0/\(i.a.takeF i.n i.qty).fst.free=aa.wrap (i.a.free+1)/\ac zS (i.a.takeF i.n i.qty).fst.slots=zX (zX (y4 i c) l.toNat 6 [dI m]) i.n.toNat 0 [D.v (.bool aq),dI 0,dI 0,dI 0,D.v (.bool aq),dI 0,dI 0,dI 0]/\ac zP (i.a.takeF i.n i.qty).fst.queues=zX (dS i d e g j) g.toNat 3 [dI (aa.wrap (n-1))]/\True)) (∃(j:Int),zE (y4 i c) i.n.toNat 6 1=az [dI j]/\∃(k:Int),zE (y4 i c) i.n.toNat 7 1=az [dI k]/\(zCh j i c)/\j.toNat<(y4 i c).length/\∃(l:Int),zE (kV i c j k) i.n.toNat 7 1=az [dI l]/\cnd (l==(-1)) (∃(m:Int),zE (kV i c j k) i.n.toNat 6 1=az [dI m]/\g.toNat<(wY i d e).length/\∃(n:Int),zE (rK i d e g m) g.toNat 3 1=az [dI n]/\g.toNat<(rK i d e g m).length/\i.n.toNat<(kV i c j k).length/\∃(p:Unit),(i.a.takeF i.n i.qty).snd=0/\(i.a.takeF i.n i.qty).fst.free=aa.wrap (i.a.free+1)/\ac zS (i.a.takeF i.n i.qty).fst.slots=zX (kV i c j k) i.n.toNat 0 [D.v (.bool aq),dI 0,dI 0,dI 0,D.v (.bool aq),dI 0,dI 0,dI 0]/\ac zP (i.a.takeF i.n i.qty).fst.queues=zX (rK i d e g m) g.toNat 3 [dI (aa.wrap (n-1))]/\True) (∃(m:Int),zE (kV i c j k) i.n.toNat 7 1=az [dI m]/\∃(n:Int),zE (kV i c j k) i.n.toNat 6 1=az [dI n]/\(0<=m/\m<(↑(kV i c j k).length:Int))/\m.toNat<(kV i c j k).length/\∃(p:Int),zE (wY i d e) g.toNat 3 1=az [dI p]/\g.toNat<(wY i d e).length/\i.n.toNat<(zX (kV i c j k) m.toNat 6 [dI n]).length/\∃(q:Unit),(i.a.takeF i.n i.qty).snd=0/\(i.a.takeF i.n i.qty).fst.free=aa.wrap (i.a.free+1)/\ac zS (i.a.takeF i.n i.qty).fst.slots=zX (zX (kV i c j k) m.toNat 6 [dI n]) i.n.toNat 0 [D.v (.bool aq),dI 0,dI 0,dI 0,D.v (.bool aq),dI 0,dI 0,dI 0]/\ac zP (i.a.takeF i.n i.qty).fst.queues=zX (wY i d e) g.toNat 3 [dI (aa.wrap (p-1))]/\True))) (∃(g:Unit),(i.a.takeF i.n i.qty).snd=0/\(i.a.takeF i.n i.qty).fst.free=i.a.free/\ac zS (i.a.takeF i.n i.qty).fst.slots=zX (ac zS i.a.slots) i.n.toNat 3 [dI (aa.wrap (c-i.qty))]/\ac zP (i.a.takeF i.n i.qty).fst.queues=zX (ac zP i.a.queues) d.toNat 2 [dI (aa.wrap (e-i.qty))]/\True))))))
def zKy {a:Arena} {n:Int} (h:n<0\/(a.slots.length:Int)<=n):a.usedAt n=aq:=by
 rcases h with h|h
 ·rw[Arena.usedAt,y6n (by omega),y9k]
 ·rw[Arena.usedAt,y6n (show ¬n<(a.slots.length:Int)by omega),y9k,xBc]
def z9p {a:Arena} {n:Int} {s:Slot} (h0:0<=n) (hs:a.slots[n.toNat]? =az s):a.usedAt n=s.used:=by
 have hl:=(y6c.1 hs).1;rw[Arena.usedAt,y6p h0,y6p (show n<(a.slots.length:Int)by omega),zT hs];simp
def xN {a:Arena} {k:Nat} {s:Slot} (hs:a.slots[k]? =az s):a.slotAt k=s:=zT hs
def yZj (i:ArN) (h:agetC.cnd i):yRl i:=by
 have h:i.a.slots.length<=1000000:=h;unfold yRl zBe jR dI;simp only[y5z];have no (e:i.a.usedAt i.n=aq):i.a.getF i.n=(y1h,aq):=by rw[Arena.getF,y5x (by rw[e];decide)]
 refine zI (λc=> ?_) (λc=>zI (λd=> ?_) (λd=> ?_))
 ·rw[no (zKy (.inl c))];exact kp
 ·rw[no (zKy (.inr (by omega)))];exact kp
 ·obtain⟨s,hs⟩:=yC (l:=i.a.slots) (i:=i.n.toNat) oM;have eu:=z9p (a:=i.a) (n:=i.n) oM hs;refine⟨⟨oM,oM⟩,s.used,elA hs (by simp[zS]) rfl,Cv.cnd.mk (λu=> ?_) (λu=> ?_)⟩
  ·rw[no (by rw[eu];simpa using u)];exact kp
  ·have e:i.a.usedAt i.n=ap:=by rw[eu];simpa using u
   have et:i.a.getF i.n=(s.ent,ap):=by rw[Arena.getF,y6a e,xN hs]
   rw[et];refine⟨⟨oM,oM⟩,s.n,s.id,s.qty,s.top,elA hs (by simp[zS]) rfl,?_⟩
   exact kp
def z8t:agetC.ok Tryz.prog 147:=okw mixed gok0 1 (λ_=>[]) (λ_=>[]) [0] Tryz.func147 yZj
def zTh:∀{sl:List Slot} {at_:Int} {l:List Nat},z0p sl at_ l->tM l 0=at_/\∀j k,l[j]? =az k->k<sl.length/\tM l (j+1)=(sl.getD k slot0).back
 |sl,at_,[],h=>⟨h.symm,λj k hk=>by simp at hk⟩
 |sl,at_,x::l,h=>by
  obtain⟨h1,h2,h3⟩:=h;have ih:=zTh h3;refine⟨h1.symm,λj k hk=> ?_⟩;cases j with
  |zero=>
   simp at hk;subst hk;exact⟨h2,by rw[<- ih.1];rfl⟩
  |succ j=>
   rw[y7x]at hk;obtain⟨a,b⟩:=ih.2 j k hk;exact⟨a,by rw[<- b];rfl⟩
def yVe (i:ArL) (h:alistC.cnd i):yHb i:=by
 obtain⟨hl,h⟩:i.l.length<=1000000/\(if 0<=i.n/\i.n<i.a.queues.length then z0p i.a.slots (i.a.queues.getD i.n.toNat aB).first i.l else i.l=[]):=⟨h.len,h.ch⟩
 unfold yHb zCq dI;simp only[y5z];have out (e:¬(0<=i.n/\i.n<(i.a.queues.length:Int))):i.l=[]:=by rw[y5x e]at h;exact h
 refine zI (λc=>Cv.cnd.mk (λd=> ?_) (λd=> ?_)) (λc=> ?_)
 ·have d:¬i.n<(i.a.queues.length:Int):=by simpa using d
  rw[out (by omega)];exact kp
 ·have d:i.n<(i.a.queues.length:Int):=by simpa using d
  rw[y6a ⟨by omega,d⟩]at h;obtain⟨q,hq⟩:=yC (l:=i.a.queues) (i:=i.n.toNat) oM;rw[zT hq]at h;obtain⟨n0,nx⟩:=zTh h;refine⟨⟨oM,oM⟩,q.first,elA hq (by simp[zP]) rfl,0,n0,rfl,λj=>j<=i.l.length,λj=>i.l.length-j,y7e _,λj hj=>Cv.cnd.mk (λe=> ?_) (λe=> ?_)⟩
  ·have e:tM i.l j≠-1:=by simpa using e
   obtain⟨k,hk⟩:∃k,i.l[j]? =az k:=by
    cases hk:i.l[j]? with
    |none=>rw[tM,hk]at e;exact absurd rfl e
    |some k=>exact⟨k,rfl⟩
   have hjl:=(y6c.1 hk).1;obtain⟨hkl,hnx⟩:=nx j k hk;have en:tM i.l j=k:=by rw[tM,hk]
   obtain⟨s,hs⟩:=yC (l:=i.a.slots) (i:=k) hkl;rw[en,y6r];refine⟨⟨oM,oM⟩,s.n,s.id,s.qty,s.top,elA hs (by simp[zS]) rfl,?_,⟨oM,oM⟩,s.back,elA hs (by simp[zS]) rfl,j+1,by rw[hnx,zT hs],?_,hjl,Z9,k0q⟩
   ·simp only[Arena.ents,y5z,y6t];omega
   ·rw[y7h,hk];simp only[Arena.ents,Option.toList,y6i,y6m,y9q,xN hs];rfl
  ·have e:tM i.l j= -1:=by simpa using e
   have hj':i.l.length<=j:=by
    apply Classical.byContradiction;intro hn;obtain⟨k,hk⟩:=yC (l:=i.l) (i:=j) oM;rw[tM,hk]at e;simp only at e;omega
   rw[y6k hj']
   exact kp
 ·rw[out (by omega)];exact kp
def yKk:alistC.ok Tryz.prog 220:=okw mixed gok0 1 (λ_=>[]) (λi=>yVs i) [0] Tryz.func220 yVe
def z2v {α:Type} {l:List α} {i k:Nat} {x y:α} (h:i≠k) (hk:l[k]? =az x):(l.set i y)[k]? =az x:=by
 rw[List.getElem?_set_ne h];exact hk
def yWq (i:TkI) (h:atakeC.cnd i):yJr i:=by
 obtain⟨hl,hok⟩:i.a.okAt:=h;unfold yJr rK kV zCh y4 rD dS wY zDn tA zBz dI;simp only[y5z];have no (e:i.a.usedAt i.n=aq):i.a.takeF i.n i.qty=(i.a,26):=by rw[Arena.takeF,y6a e]
 refine zI (λc=> ?_) (λc=>zI (λd=> ?_) (λd=> ?_))
 ·rw[no (zKy (.inl c))];exact kp
 ·rw[no (zKy (.inr (by omega)))];exact kp
 obtain⟨k,hk⟩:∃k,k=i.n.toNat:=⟨_,rfl⟩
 rw[<- hk];obtain⟨s,hs⟩:=yC (l:=i.a.slots) (i:=k) oM;have hs':i.a.slots[i.n.toNat]? =az s:=by rw[<- hk];exact hs
 have eu:=z9p (a:=i.a) (n:=i.n) oM hs';refine⟨⟨oM,oM⟩,s.used,elA hs (by simp[zS]) rfl,Cv.cnd.mk (λu=> ?_) (λu=> ?_)⟩
 ·rw[no (by rw[eu];simpa using u)];exact kp
 have u:s.used=ap:=by simpa using u
 have e:¬i.a.usedAt i.n=aq:=by rw[eu,u];decide
 obtain⟨⟨q0,q1⟩,sq,sa,sb⟩:=hok k s hs u;have esl:i.a.slotAt i.n.toNat=s:=xN hs';have bad (hq:i.qty<1\/s.qty<i.qty):i.a.takeF i.n i.qty=(i.a,24):=by rw[Arena.takeF,y5x e,esl,y6a hq]
 refine⟨⟨oM,oM⟩,zI (λc1=>by rw[bad (.inl c1)];(repeat'(first|exact rfl|exact trivial|assumption|apply au|refineλ(_:Unit) (_:True)=>?_|refine ao () ?_|omega|(dsimp only;omega)))) (λc1=>⟨s.qty,elA hs (by simp[zS]) rfl,zI (λc2=>by rw[bad (.inr (by omega))];(repeat'(first|exact rfl|exact trivial|assumption|apply au|refineλ(_:Unit) (_:True)=>?_|refine ao () ?_|omega|(dsimp only;omega)))) (λc2=>⟨s.qty,elA hs (by simp[zS]) rfl,oM,?_⟩)⟩)⟩;obtain⟨q,hq⟩:=yC (l:=i.a.queues) (i:=s.queue.toNat) oM;have hs1:(i.a.slots.set k {s with qty:=s.qty-i.qty})[k]? =az {s with qty:=s.qty-i.qty}:=uM hs;have hq1:(i.a.queues.set s.queue.toNat {q with total:=aa.wrap (q.total-i.qty)})[s.queue.toNat]? =az {q with total:=aa.wrap (q.total-i.qty)}:=uM hq;have hle:i.a.less i.n.toNat i.qty=⟨i.a.slots.set k {s with qty:=s.qty-i.qty},i.a.queues.set s.queue.toNat {q with total:=aa.wrap (q.total-i.qty)},i.a.free⟩:=by
  rw[Arena.less,esl,cB hs',cB hq,hk]
 have hL:(i.a.slots.set k {s with qty:=s.qty-i.qty}).length=i.a.slots.length:=y7g;have hQ:(i.a.queues.set s.queue.toNat {q with total:=aa.wrap (q.total-i.qty)}).length=i.a.queues.length:=y7g;have tk:i.a.takeF i.n i.qty=if s.qty=i.qty then((i.a.less i.n.toNat i.qty).dropF i.n.toNat,0)else(i.a.less i.n.toNat i.qty,0):=by rw[Arena.takeF,y5x e,esl,y5x (by omega)]
 rw[hle,<- hk]at tk;rw[w64 (x:=s.qty-i.qty) (by omega),yH hs (y:={s with qty:=s.qty-i.qty}) rfl];refine⟨s.queue,elA hs1 (by simp[zS]) rfl,⟨q0,q1⟩,q.total,elA hq (by simp[zP]) rfl,⟨q0,q1⟩,oM,s.qty-i.qty,elA hs1 (by simp[zS]) rfl,?_⟩;rw[yH hq (y:={q with total:=aa.wrap (q.total-i.qty)}) rfl];simp only[y5z];generalize hL1:i.a.slots.set k {s with qty:=s.qty-i.qty}=L1 at*;generalize hQ1:i.a.queues.set s.queue.toNat {q with total:=aa.wrap (q.total-i.qty)}=Q1 at*;refine Cv.cnd.mk (λz=> ?_) (λz=> ?_)
 ·have z:s.qty=i.qty:=by have:s.qty-i.qty=0:=by simpa using z
                         omega
  rw[y6a z]at tk;have esl1:(⟨L1,Q1,i.a.free⟩:Arena).slotAt k={s with qty:=s.qty-i.qty}:=xN hs1;have eq1:Q1.getD s.queue.toNat aB={q with total:=aa.wrap (q.total-i.qty)}:=zT hq1;rw[Arena.dropF,esl1]at tk;dsimp only at tk;rw[eq1]at tk;dsimp only at tk;rw[tk];refine⟨s.queue,elA hs1 (by simp[zS]) rfl,⟨q0,oM⟩,s.ahead,elA hs1 (by simp[zS]) rfl,Cv.cnd.mk (λea=> ?_) (λea=> ?_)⟩
  ·have ea:s.ahead= -1:=by simpa using ea
   refine⟨s.back,elA hs1 (by simp[zS]) rfl,oM,s.back,elA hs1 (by simp[zS]) rfl,?_⟩;rw[yH hq1 (y:=⟨s.back,q.last,aa.wrap (q.total-i.qty),q.count⟩) rfl];have hq2:(Q1.set s.queue.toNat ⟨s.back,q.last,aa.wrap (q.total-i.qty),q.count⟩)[s.queue.toNat]? =az ⟨s.back,q.last,aa.wrap (q.total-i.qty),q.count⟩:=uM hq1;simp only[y5z,y7g];refine Cv.cnd.mk (λeb=> ?_) (λeb=> ?_)
   ·have eb:s.back= -1:=by simpa using eb
    refine⟨s.ahead,elA hs1 (by simp[zS]) rfl,oM,q.count,?_,?_⟩
    ·rw[yH hq2 (y:=⟨s.back,s.ahead,aa.wrap (q.total-i.qty),q.count⟩) rfl];exact elA (uM hq2) (by simp[zP]) rfl
    rw[yH hq2 (y:=⟨s.back,s.ahead,aa.wrap (q.total-i.qty),q.count⟩) rfl,yH (uM hq2) (y:=⟨s.back,s.ahead,aa.wrap (q.total-i.qty),aa.wrap (q.count-1)⟩) rfl,yH hs1 (y:=slot0) rfl];simp only[y5z,y7g,xAa,y6a ea,y6a eb];refine⟨oM,oM,(),by(first|exact rfl|exact trivial),by(first|exact rfl|exact trivial),by(first|exact rfl|exact trivial),by(first|exact rfl|exact trivial),trivial⟩
   ·have eb:s.back≠-1:=by simpa using eb
    obtain⟨b0,b1,b2⟩:0<=s.back/\s.back<i.a.slots.length/\s.back≠k:=by omega
    obtain⟨x,hx⟩:=yC (l:=L1) (i:=s.back.toNat) oM;refine⟨s.back,elA hs1 (by simp[zS]) rfl,s.ahead,elA hs1 (by simp[zS]) rfl,⟨b0,oM⟩,oM,q.count,elA hq2 (by simp[zP]) rfl,?_⟩;rw[yH hx (y:={x with ahead:=s.ahead}) rfl,yH hq2 (y:=⟨s.back,q.last,aa.wrap (q.total-i.qty),aa.wrap (q.count-1)⟩) rfl,yH (z2v (by omega) hs1) (y:=slot0) rfl];simp only[y5z,y7g,xAa,y6a ea,y5x eb,cB hx];refine⟨oM,oM,(),by(first|exact rfl|exact trivial),by(first|exact rfl|exact trivial),by(first|exact rfl|exact trivial),by(first|exact rfl|exact trivial),trivial⟩
  ·have ea:s.ahead≠-1:=by simpa using ea
   obtain⟨a0,a1,a2⟩:0<=s.ahead/\s.ahead<i.a.slots.length/\s.ahead≠k:=by omega
   obtain⟨x,hx⟩:=yC (l:=L1) (i:=s.ahead.toNat) oM;have hs2:(L1.set s.ahead.toNat {x with back:=s.back})[k]? =az {s with qty:=s.qty-i.qty}:=z2v oM hs1;refine⟨s.ahead,elA hs1 (by simp[zS]) rfl,s.back,elA hs1 (by simp[zS]) rfl,⟨a0,oM⟩,oM,s.back,?_,?_⟩
   ·rw[yH hx (y:={x with back:=s.back}) rfl];exact elA hs2 (by simp[zS]) rfl
   rw[yH hx (y:={x with back:=s.back}) rfl];simp only[y5z,y7g];refine Cv.cnd.mk (λeb=> ?_) (λeb=> ?_)
   ·have eb:s.back= -1:=by simpa using eb
    refine⟨s.ahead,elA hs2 (by simp[zS]) rfl,oM,q.count,?_,?_⟩
    ·rw[yH hq1 (y:=⟨q.first,s.ahead,aa.wrap (q.total-i.qty),q.count⟩) rfl];exact elA (uM hq1) (by simp[zP]) rfl
    rw[yH hq1 (y:=⟨q.first,s.ahead,aa.wrap (q.total-i.qty),q.count⟩) rfl,yH (uM hq1) (y:=⟨q.first,s.ahead,aa.wrap (q.total-i.qty),aa.wrap (q.count-1)⟩) rfl,yH hs2 (y:=slot0) rfl];simp only[y5z,y7g,xAa,y5x ea,y6a eb,cB hx];refine⟨oM,oM,(),by(first|exact rfl|exact trivial),by(first|exact rfl|exact trivial),by(first|exact rfl|exact trivial),by(first|exact rfl|exact trivial),trivial⟩
   ·have eb:s.back≠-1:=by simpa using eb
    obtain⟨b0,b1,b2⟩:0<=s.back/\s.back<i.a.slots.length/\s.back≠k:=by omega
    obtain⟨y,hy⟩:=yC (l:=L1.set s.ahead.toNat {x with back:=s.back}) (i:=s.back.toNat) (by rw[y7g];omega);refine⟨s.back,elA hs2 (by simp[zS]) rfl,s.ahead,elA hs2 (by simp[zS]) rfl,⟨b0,oM⟩,oM,q.count,elA hq1 (by simp[zP]) rfl,?_⟩;rw[yH hy (y:={y with ahead:=s.ahead}) rfl,yH hq1 (y:=⟨q.first,q.last,aa.wrap (q.total-i.qty),aa.wrap (q.count-1)⟩) rfl,yH (z2v (by omega) hs2) (y:=slot0) rfl];simp only[y5z,y7g,xAa,y5x ea,y5x eb,cB hx,cB hy];refine⟨oM,oM,(),by(first|exact rfl|exact trivial),by(first|exact rfl|exact trivial),by(first|exact rfl|exact trivial),by(first|exact rfl|exact trivial),trivial⟩
 ·have z:¬s.qty=i.qty:=by have:¬s.qty-i.qty=0:=by simpa using z
                          omega
  rw[y5x z]at tk;rw[tk];exact⟨(),rF4 trivial⟩
def yGo:atakeC.ok Tryz.prog 197:=okw mixed gok0 1 (λ_=>[]) (λ_=>[]) [0] Tryz.func197 yWq
structure PlI where
 l:List Int
 least:Int
 q:Int
def z5d (l:List Int) (least q:Int):List Int:=l.map λk=>if least<=k*q / l.sum then k*q / l.sum else 0
def wA:List (Int×Int)->Int->List Int
 |[],_=>[]
 |(n,x)::r,q=>(x+min (n-x) q)::wA r (q-min (n-x) q)
def PlI.p0 (i:PlI):List Int:=z5d i.l i.least i.q
def PlI.p1 (i:PlI):List Int:=wA (i.l.zip i.p0) (i.q-i.p0.sum)
def jD (i:PlI):List Int:=if yW i.l i.q=ap/\1<=i.least then i.p1 else[]
def plainC:Con:=con1 PlI (λi=>[iV i.l,zA i.least,zA i.q]) (λ_=>[]) (λi=>i.l.length<=1000000/\i64r i.q/\i64r i.least) (λ_=> .own 0) (λi=>[.own 2 1 (iE (jD i))])
def yXn (i:PlI):List SAnn:=[
 {ι:=Nat,slots:=λj=>[(9,.own 0),(36,zA j)],rows:=λj=>[.own 2 1 (iE (i.p0.take j++af (i.l.length-j) 0))]},
 {ι:=Nat,slots:=λj=>[(2,zA (i.q-(i.p0.take j).sum)),(58,zA j)],rows:=λ_=>[]},
 {ι:=Nat,slots:=λj=>[(9,.own 0),(2,zA (i.q-i.p0.sum+(i.p0.take j).sum-(i.p1.take j).sum)),(68,zA j)],rows:=λj=>[.own 2 1 (iE (i.p1.take j++i.p0.drop j))]}]
def dD (a:Nat) (b:PlI):=(iE (ae a b.p1++am a b.p0))
def tD (a:Nat) (b:PlI):Prop:=0<=(↑a:Int)/\(↑a:Int)<(↑(dD a b).length:Int)
def gL (a:Nat) (b:PlI):=(ae a b.p0++af (b.l.length-a) 0)
def gR (a:Nat) (b:PlI):=(iE (gL a b))
def mD (a:Nat) (b:PlI):=(↑(gR a b).length:Int)
def yEm (i:PlI):Prop:=
 ∃(a:LqI),iE a.l=iE i.l/\a.q=i.q/\(wE a)/\∀(b:Unit),True->cnd (!yW a.l a.q) (∃(c:Unit),iE (jD i)=[]/\True) (cnd (decide (i.least<1)) (∃(c:Unit),iE (jD i)=[]/\True) (∃(c:List Int),iE c=iE i.l/\(c.length<=1000/\∀(d:Int),d∈c->0<=d/\d<=1000000)/\∀(d:Unit),True->(0<=(↑(iE i.l).length:Int)/\(↑(iE i.l).length:Int)<=(↑(iE i.l).length:Int)/\(↑(iE i.l).length:Int)<=9223372036854775807/\(↑(8:Nat):Int)*(↑(iE i.l).length:Int)<=2 ^ (48:Nat))/\∃(e:Nat),(↑e:Int)=0/\iE (gL e i)=af (↑(iE i.l).length:Int).toNat [dI 0]/\∃(f:Nat->Prop),∃(g:Nat->Nat),f e/\∀(h:Nat),f h->cnd (decide ((↑h:Int)<(↑(iE i.l).length:Int))) ((0<=(↑h:Int)/\(↑h:Int)<(↑(iE i.l).length:Int))/\∃(j:Int),zE (iE i.l) (↑h:Int).toNat 0 1=az [dI j]/\∃(k:ShI),k.a=j/\k.b=i.q/\k.c=c.sum/\(0<=k.a/\k.a<=(2000000000:Int)/\(0:Int)<=k.b/\k.b<=(2000000000:Int)/\(1:Int)<=k.c/\k.c<=2000000000)/\∀(l:Unit),True->cnd (decide (k.a*k.b / k.c>=i.least)) ((0<=(↑h:Int)/\(↑h:Int)<(mD h i))/\(↑h:Int).toNat<(gR h i).length/\∃(m:Nat),(↑m:Int)=aa.wrap ((↑h:Int)+1)/\iE (gL m i)=zX (gR h i) (↑h:Int).toNat 0 [dI (k.a*k.b / k.c)]/\f m/\g m<g h/\True) (∃(m:Nat),(↑m:Int)=aa.wrap ((↑h:Int)+1)/\iE (gL m i)=iE (gL h i)/\f m/\g m<g h/\True)) (∃(j:Nat),i.q-(ae j i.p0).sum=i.q/\(↑j:Int)=0/\∃(k:Nat->Prop),∃(l:Nat->Nat),k j/\∀(m:Nat),k m->cnd (decide ((↑m:Int)<(mD h i))) ((0<=(↑m:Int)/\(↑m:Int)<(mD h i))/\∃(n:Int),zE (gR h i) (↑m:Int).toNat 0 1=az [dI n]/\∃(p:Nat),i.q-(ae p i.p0).sum=aa.wrap (i.q-(ae m i.p0).sum-n)/\(↑p:Int)=aa.wrap ((↑m:Int)+1)/\k p/\l p<l m/\dh (aw 2 1 (gR h i))) (∃(n:Nat),i.q-i.p0.sum+(ae n i.p0).sum-(ae n i.p1).sum=i.q-(ae m i.p0).sum/\(↑n:Int)=0/\iE (ae n i.p1++am n i.p0)=iE (gL h i)/\∃(p:Nat->Prop),∃(q:Nat->Nat),p n/\∀(r:Nat),p r->cnd (decide ((↑r:Int)<(mD h i))) ((0<=(↑r:Int)/\(↑r:Int)<(↑(iE i.l).length:Int))/\∃(s:Int),zE (iE i.l) (↑r:Int).toNat 0 1=az [dI s]/\(tD r i)/\∃(t:Int),zE (dD r i) (↑r:Int).toNat 0 1=az [dI t]/\(tD r i)/\∃(u:Int),zE (dD r i) (↑r:Int).toNat 0 1=az [dI u]/\(tD r i)/\(↑r:Int).toNat<(dD r i).length/\∃(v:Nat),i.q-i.p0.sum+(ae v i.p0).sum-(ae v i.p1).sum=aa.wrap (i.q-i.p0.sum+(ae r i.p0).sum-(ae r i.p1).sum-min (aa.wrap (s-t)) (i.q-i.p0.sum+(ae r i.p0).sum-(ae r i.p1).sum))/\(↑v:Int)=aa.wrap ((↑r:Int)+1)/\iE (ae v i.p1++am v i.p0)=zX (dD r i) (↑r:Int).toNat 0 [dI (aa.wrap (u+min (aa.wrap (s-t)) (i.q-i.p0.sum+(ae r i.p0).sum-(ae r i.p1).sum)))]/\p v/\q v<q r/\True) (∃(s:Unit),iE (jD i)=iE (ae r i.p1++am r i.p0)/\True)))))
def zBx:∀(z:List (Int×Int)) (q:Int),(wA z q).length=z.length
 |[],_=>rfl
 |(n,x)::z,q=>by rw[wA,y6d,y6d,zBx z]
def zNy:∀(z:List (Int×Int)) (q:Int) (j:Nat) (n x:Int),z[j]? =az (n,x)->(wA z q)[j]? =az (x+min (n-x) (q+((z.map (·.2)).take j).sum-((wA z q).take j).sum))
 |[],_,_,_,_,h=>by simp at h
 |(m,y)::z,q,0,n,x,h=>by simp at h;obtain⟨rfl,rfl⟩:=h;simp[wA]
 |(m,y)::z,q,j+1,n,x,h=>by
  rw[y7x]at h;rw[wA,y7x,zNy z _ j n x h,y7k,y7n,y6m,y7k,y7n];congr 3;dsimp only;omega
def zKm:∀(z:List (Int×Int)) (q:Int) (j:Nat),0<=q->(∀y∈z,y.2<=y.1)->0<=q+((z.map (·.2)).take j).sum-((wA z q).take j).sum/\q+((z.map (·.2)).take j).sum-((wA z q).take j).sum<=q
 |[],q,j,h,_=>by simp[wA,h]
 |(m,y)::z,q,0,h,_=>by simp[h]
 |(m,y)::z,q,j+1,h,hb=>by
  have hm:=hb (m,y) y6e;have:=zKm z (q-min (m-y) q) j (by dsimp only at hm;omega) (λx hx=>hb x (y6g _ hx));rw[wA,y7k,y7n,y6m,y7k,y7n];dsimp only at hm ⊢;omega
def yKg {k q S:Int} (hk:0<=k) (hq:0<=q) (hS:1<=S) (hqS:q<=S):0<=k*q / S/\k*q / S<=k:=by
 refine⟨Int.ediv_nonneg (xCh hk hq) oM,?_⟩;have:k*q<=k*S:=xAv hqS hk;exact Int.ediv_le_of_le_mul oM this
def zTl {q S least:Int} (hq:0<=q) (hS:1<=S):∀(l:List Int),(∀x∈l,0<=x)->S*(l.map λk=>if least<=k*q / S then k*q / S else 0).sum<=q*l.sum
 |[],_=>by simp
 |k::l,h=>by
  have ih:=zTl (least:=least) hq hS l (λx hx=>h x (y6g _ hx));have hk:=h k y6e;rw[y6m,y7n,y7n,Int.mul_add,Int.mul_add];have h1:S*(k*q / S)<=k*q:=by
   have:=Int.mul_ediv_add_emod (k*q) S;have:=xCa (k*q) (show S≠0 by omega);omega
  have h2:0<=k*q:=xCh hk hq;have h3:S*(if least<=k*q / S then k*q / S else 0)<=q*k:=by
   rw[xAi q k];split
   ·exact h1
   ·simpa using h2
  omega
def yEn {i:PlI} {j:Nat} {n:Int} (h:i.l[j]? =az n):i.p0[j]? =az (if i.least<=n*i.q / i.l.sum then n*i.q / i.l.sum else 0):=by
 rw[PlI.p0,z5d,y7p,h];rfl
def z4v (i:PlI):i.p0.length=i.l.length:=by simp[PlI.p0,z5d]
def z9l {l:List Int} {j m:Nat} {n:Int} (hl:l.length=m) (h:l[j]? =az n):(l.take j++af (m-j) 0).set j n=l.take (j+1)++af (m-(j+1)) 0:=by
 have hj:=(y6c.1 h).1;rw[List.set_append_right _ _ (by rw[y6t];omega),y6t,show j-min j l.length=0 by omega,show m-j=(m-(j+1))+1 by omega,xAf,xBy,y7h,h];simp
def yGl {l:List Int} {j m:Nat} (hl:l.length=m) (hj:j<m):(l.take j++af (m-j) 0)[j]? =az 0:=by
 rw[y8c (by rw[y6t];omega),y6t,show j-min j l.length=0 by omega,show m-j=(m-(j+1))+1 by omega,xAf];rfl
def yJa {α:Type} {l:List α} {j:Nat} {x:α} (h:l[j]? =az x):l.set j x=l:=by
 obtain⟨h1,h2⟩:=y6c.1 h;rw[<- h2];exact List.set_getElem_self h1
def yTe {a b:List Int} {j:Nat} {x:Int} (ha:a.length=b.length) (h:b[j]? =az x):(a.take j++b.drop j)[j]? =az x:=by
 have hj:=(y6c.1 h).1;rw[y8c (by rw[y6t];omega),y6t,show j-min j a.length=0 by omega,y8m];exact h
def yQe {a b:List Int} {j:Nat} {y:Int} (ha:a.length=b.length) (h:a[j]? =az y):(a.take j++b.drop j).set j y=a.take (j+1)++b.drop (j+1):=by
 have hj:=(y6c.1 h).1;rw[List.set_append_right _ _ (by rw[y6t];omega),y6t,show j-min j a.length=0 by omega,y8g (by omega),xBy,y7h,h];simp
def zVn {l:List Int} {j:Nat} {x y:Int} (h:l[j]? =az x):zX (iE l) j 0 [D.v (.int .i64 y)]=iE (l.set j y):=yH (f:=λn:Int=>[D.v (.int .i64 n)]) h rfl
def zDv {i:PlI} (h:yW i.l i.q=ap) (hne:0<i.l.length):1<=i.l.sum/\i.l.sum<=250000000/\(∀(j:Nat) (n x:Int),i.l[j]? =az n->i.p0[j]? =az x->0<=x/\x<=n)/\i.p0.sum<=i.q:=by
 obtain⟨h1,h2,h3,h4⟩:=jH h;have hb:=jU (l:=i.l) (λx hx=>by have:=h3 x hx;omega) i.l.length;rw[y8x]at hb;have hS:1<=i.l.sum:=by
  obtain⟨x,hx⟩:=yC (l:=i.l) (i:=0) hne;have:=h3 x (y6j hx);cases hl:i.l with
  |nil=>rw[hl]at hne;exact absurd hne (Nat.lt_irrefl 0)
  |cons a r=>
   rw[hl]at hx;simp at hx;subst hx;have hr:=jU (l:=r) (λy hy=>by have:=h3 y (by rw[hl];exact y6g _ hy);omega) r.length;rw[y8x]at hr;rw[y7n];omega
 refine⟨hS,oM,λj n x hn hx=> ?_,?_⟩
 ·have hn1:=h3 n (y6j hn);have:=yKg (k:=n) oM h2 hS h4;rw[yEn hn]at hx;cases hx;split<;>omega
 ·have:=zTl (least:=i.least) h2 hS i.l (λx hx=>by have:=h3 x hx;omega);have e:i.l.sum*i.p0.sum<=i.l.sum*i.q:=by rw[xAi i.l.sum i.q];exact this
  exact Int.le_of_mul_le_mul_left e oM
def yWl (i:PlI) (h:plainC.cnd i):yEm i:=by
 obtain⟨hl,hq,hle⟩:i.l.length<=1000000/\i64r i.q/\i64r i.least:=h;unfold yEm mD gR gL tD dD wE dI;refine⟨⟨i.l,i.q⟩,rfl,rfl,⟨hl,hq⟩,λ_ _=>Cv.cnd.mk (λc=> ?_) (λc=>zI (λd=> ?_) (λd=> ?_))⟩
 ·have c:yW i.l i.q=aq:=by simpa using c
  refine⟨(),?_,trivial⟩;rw[jD,y5x (by rw[c];simp)];rfl
 ·refine⟨(),?_,trivial⟩;rw[jD,y5x (by omega)];rfl
 have c:yW i.l i.q=ap:=by simpa using c
 have eS:jD i=i.p1:=by rw[jD,y6a ⟨c,by omega⟩]
 obtain⟨h1,h2,h3,h4⟩:=jH c;have hq2:=zLk c;have hp0:=z4v i;have hzl:(i.l.zip i.p0).length=i.l.length:=by rw[List.length_zip,hp0];simp
 have hp1:i.p1.length=i.l.length:=by rw[PlI.p1,zBx,hzl]
 have hz2:(i.l.zip i.p0).map (·.2)=i.p0:=by rw[List.map_snd_zip];omega
 have h64:i.l.length<=250:=h1;have hrl:∀j,j<=i.l.length->(ae j i.p0++af (i.l.length-j) 0).length=i.l.length:=by
  intro j hj;rw[y5y,y6t,y9d];omega
 simp only[yY];refine⟨i.l,rfl,⟨oM,λx hx=>by have:=h3 x hx;omega⟩,λ_ _=>⟨⟨oM,oM,oM,oM⟩,0,by(first|exact rfl|exact trivial),?_,λj=>j<=i.l.length,λj=>i.l.length-j,y7e _,λj hj=>zI (λe=> ?_) (λe=> ?_)⟩⟩
 ·simp[iE]
 ·have hj':j<i.l.length:=by omega
  obtain⟨n,hn⟩:=yC (l:=i.l) (i:=j) hj';have bn:=h3 n (y6j hn);obtain⟨f1,f2,f3,f4⟩:=zDv c oM;have g:=yEn hn;refine⟨⟨oM,oM⟩,n,elI hn,⟨n,i.q,i.l.sum⟩,rfl,rfl,rfl,⟨Z9,Z9,Z9,Z9,Z9,Z9⟩,λ_ _=>zI (λa=> ?_) (λa=> ?_)⟩
  ·have a:n*i.q / i.l.sum>=i.least:=a;rw[y6a (by omega)]at g;refine⟨⟨oM,by rw[hrl j (by omega)];omega⟩,by rw[hrl j (by omega)];omega,j+1,wjn oM,?_,hj',Z9,trivial⟩;rw[y6r,zVn (yGl hp0 hj'),z9l hp0 g]
  ·have a:¬n*i.q / i.l.sum>=i.least:=a;rw[y5x (by omega)]at g;refine⟨j+1,wjn oM,?_,hj',Z9,trivial⟩;rw[<- z9l hp0 g,yJa (yGl hp0 hj')]
 have hje:j=i.l.length:=by omega
 subst hje;have eP:ae i.l.length i.p0++af (i.l.length-i.l.length) 0=i.p0:=by rw[y6k (by omega)];simp
 rw[eP,hp0];have px:∀(k:Nat) (n x:Int),i.l[k]? =az n->i.p0[k]? =az x->0<=x/\x<=n:=λk n x hn hx=>(zDv c (by have:=(y6c.1 hn).1;omega)).2.2.1 k n x hn hx
 have pb:∀x∈i.p0,0<=x/\x<=1000000:=by
  intro x hx;obtain⟨k,hk⟩:=y8p.1 hx;obtain⟨n,hn⟩:=yC (l:=i.l) (i:=k) (by have:=(y6c.1 hk).1;omega);have:=px k n x hn hk;have:=h3 n (y6j hn);omega
 have pq:i.p0.sum<=i.q:=by
  by_cases hz:0<i.l.length
  ·exact(zDv c hz).2.2.2
  ·have:i.p0=[]:=y6y oM;rw[this];simpa using h2
 refine⟨0,by simp,by(first|exact rfl|exact trivial),λk=>k<=i.l.length,λk=>i.l.length-k,y7e _,λk hk=>zI (λe=> ?_) (λe=> ?_)⟩
 ·have hk':k<i.l.length:=by omega
  obtain⟨x,hx⟩:=yC (l:=i.p0) (i:=k) oM;have bx:=pb x (y6j hx);have bs:=jU pb k;refine⟨⟨oM,oM⟩,x,elI hx,k+1,?_,wjn oM,hk',Z9,k0q⟩;rw[jX hx,w64 (by omega)];omega
 have hke:k=i.l.length:=by omega
 subst hke;rw[y6k (l:=i.p0) (by omega)];refine⟨0,by simp,by(first|exact rfl|exact trivial),by simp,λj=>j<=i.l.length,λj=>i.l.length-j,y7e _,λj hj=>zI (λe=> ?_) (λe=> ?_)⟩
 ·have hj':j<i.l.length:=by omega
  obtain⟨n,hn⟩:=yC (l:=i.l) (i:=j) hj';obtain⟨x,hx⟩:=yC (l:=i.p0) (i:=j) oM;have bn:=h3 n (y6j hn);have bx:=px j n x hn hx;have hz:(i.l.zip i.p0)[j]? =az (n,x):=by rw[xAq];exact⟨hn,hx⟩
  have g:=zNy (i.l.zip i.p0) (i.q-i.p0.sum) j n x hz;have r:=zKm (i.l.zip i.p0) (i.q-i.p0.sum) j oM (λy hy=>by
   obtain⟨k,hk⟩:=y8p.1 hy;rw[xAq]at hk;exact(px k y.1 y.2 hk.1 hk.2).2)
  rw[hz2]at g r;have b0:=jU pb i.p0.length;rw[y8x]at b0;have hml:(ae j i.p1++am j i.p0).length=i.l.length:=by rw[y5y,y6t,y6u];omega
  have hma:=yTe (a:=i.p1) (b:=i.p0) oM hx;change i.p1[j]? =_ at g;change 0<=_-(ae j i.p1).sum/\_-(ae j i.p1).sum<=_ at r;change i.p1[j]? =az (x+min (n-x) (_-(ae j i.p1).sum))at g;rw[hml];refine⟨⟨oM,oM⟩,n,elI hn,⟨oM,oM⟩,x,elI hma,⟨oM,oM⟩,x,elI hma,⟨oM,oM⟩,oM,?_⟩;rw[w64 (x:=n-x) (by omega),w64 (x:=x+min (n-x) (i.q-i.p0.sum+(ae j i.p0).sum-(ae j i.p1).sum)) (by omega)];refine⟨j+1,?_,wjn oM,?_,hj',Z9,trivial⟩
  ·rw[jX hx,jX g,w64 (by omega)];omega
  ·rw[y6r,zVn hma,yQe (by omega) g]
 ·have hje:j=i.l.length:=by omega
  subst hje;refine⟨(),?_,trivial⟩;rw[eS,y6k (by omega),y9g (by omega),y6w]
def yIz:plainC.ok Tryz.prog 226:=okw mixed (gokc zFn (gokc yPf (gokc zSf gok0))) 0 (λ_=>[]) (λi=>yXn i) [] Tryz.func226 yWl
structure RsI where
 l:List Int
 out:List Int
 least:Int
 q:Int
def RsI.idx (i:RsI) (k:Nat):List Nat:=(ak k).filter λn=>decide (i.out.getD n 0<i.l.getD n 0)
def RsI.left (i:RsI) (k:Nat):List Int:=(i.idx k).map λn=>i.l.getD n 0-i.out.getD n 0
def RsI.pl (i:RsI):List Int:=jD ⟨i.left i.l.length,i.least,i.q⟩
def RsI.add (i:RsI) (k:Nat):List Int:=(((i.idx i.l.length).zip i.pl).take k).foldl (λo y=>o.set y.1 (aa.wrap (o.getD y.1 0+y.2))) i.out
def pM (i:RsI):List Int:=i.add i.pl.length
@[reducible] def RsI.ok (i:RsI):Prop:=i.l.length<=250/\i.out.length=i.l.length/\i64r i.q/\i64r i.least/\∀n,0<=i.out.getD n 0/\i.out.getD n 0<=i.l.getD n 0/\i.l.getD n 0<=1000000
def restC:Con:=con1 RsI (λi=>[iV i.l,.own 0,zA i.least,zA i.q]) (λi=>[.own 2 1 (iE i.out)]) RsI.ok (λ_=> .own 1) (λi=>[.gone,.own 2 1 (iE (pM i))])
def y2k (i:RsI):List SAnn:=[
 {ι:=Nat,slots:=λj=>[(9,.own 0),(10,.own 1),(16,zA j)],rows:=λj=>[.own 2 1 (iE (i.left j)),.own 3 1 (iE ((i.idx j).map λ(n:Nat)=>(n:Int)))]},
 {ι:=Nat,slots:=λk=>[(1,.own 0),(50,zA k)],rows:=λk=>[.own 2 1 (iE (i.add k))]}]
structure zH where
 id:Int
 side:Int
 price:Int
 qty:Int
 top:Bool
 deriving DecidableEq
def vE (o:zH):List D:=[.v (.int .i64 o.id),.v (.int .i64 o.side),.v (.int .i64 o.price),.v (.int .i64 o.qty),.v (.bool o.top)]
@[reducible] def z3t (o:zH):V:= .agg [zA o.id,zA o.side,zA o.price,zA o.qty,yP o.top]
def topFC:Con:=con1 zH (λo=>[z3t o]) (λ_=>[]) (λ_=>True) (λo=>yP o.top) (λ_=>[])
def topI (l:List zH):Int:=zJu (l.findIdx? λo=>o.top)
def idxOrdC:Con:=con1 (List zH) (λl=>[roV 5 (l.map vE),.fn 212 [] []]) (λ_=>[]) (λl=>l.length<=1000000) (λl=>zA (topI l)) (λ_=>[])
def yOs (l:List zH):List SAnn:=[{ι:=Nat,slots:=λj=>[(8,zA j)],rows:=λ_=>[]}]
def yQv (i:RsI):Prop:=
 ∃(a:Nat),(↑a:Int)=0/\iE (i.left a)=[]/\iE (ac (λ(n:Nat) ↦ (↑n:Int)) (i.idx a))=[]/\∃(b:Nat->Prop),∃(c:Nat->Nat),b a/\∀(d:Nat),b d->cnd (decide ((↑d:Int)<(↑(iE i.l).length:Int))) ((0<=(↑d:Int)/\(↑d:Int)<(↑(iE i.l).length:Int))/\∃(e:Int),zE (iE i.l) (↑d:Int).toNat 0 1=az [dI e]/\(0<=(↑d:Int)/\(↑d:Int)<(↑(iE i.out).length:Int))/\∃(f:Int),zE (iE i.out) (↑d:Int).toNat 0 1=az [dI f]/\cnd (decide (e>f)) ((0<=(↑d:Int)/\(↑d:Int)<(↑(iE i.l).length:Int))/\∃(g:Int),zE (iE i.l) (↑d:Int).toNat 0 1=az [dI g]/\(0<=(↑d:Int)/\(↑d:Int)<(↑(iE i.out).length:Int))/\∃(h:Int),zE (iE i.out) (↑d:Int).toNat 0 1=az [dI h]/\((iE (i.left d)).length+1)*(8:Nat)<=(140737488355328:Nat)/\((iE (ac (λ(g:Nat) ↦ (↑g:Int)) (i.idx d))).length+1)*(8:Nat)<=(140737488355328:Nat)/\∃(j:Nat),(↑j:Int)=aa.wrap ((↑d:Int)+1)/\iE (i.left j)=iE (i.left d)++[[dI (aa.wrap (g-h))]]/\iE (ac (λ(g:Nat) ↦ (↑g:Int)) (i.idx j))=iE (ac (λ(g:Nat) ↦ (↑g:Int)) (i.idx d))++[[dI (↑d:Int)]]/\b j/\c j<c d/\dh (aw 2 1 (iE i.out))) (∃(g:Nat),(↑g:Int)=aa.wrap ((↑d:Int)+1)/\iE (i.left g)=iE (i.left d)/\iE (ac (λ(e:Nat) ↦ (↑e:Int)) (i.idx g))=iE (ac (λ(e:Nat) ↦ (↑e:Int)) (i.idx d))/\b g/\c g<c d/\dh (aw 2 1 (iE i.out)))) (∃(e:PlI),iE e.l=iE (i.left d)/\e.least=i.least/\e.q=i.q/\(e.l.length<=1000000/\((-9223372036854775808)<=e.q/\e.q<=9223372036854775807)/\(-9223372036854775808)<=e.least/\e.least<=9223372036854775807)/\∀(f:Unit),True->∃(g:Nat),(↑g:Int)=0/\iE (i.add g)=iE i.out/\∃(h:Nat->Prop),∃(j:Nat->Nat),h g/\∀(k:Nat),h k->cnd (decide ((↑k:Int)<(↑(iE (jD e)).length:Int))) ((0<=(↑k:Int)/\(↑k:Int)<(↑(iE (jD e)).length:Int))/\∃(l:Int),zE (iE (jD e)) (↑k:Int).toNat 0 1=az [dI l]/\(0<=(↑k:Int)/\(↑k:Int)<(↑(iE (ac (λ(l:Nat) ↦ (↑l:Int)) (i.idx d))).length:Int))/\∃(m:Int),zE (iE (ac (λ(l:Nat) ↦ (↑l:Int)) (i.idx d))) (↑k:Int).toNat 0 1=az [dI m]/\(0<=m/\m<(↑(iE (i.add k)).length:Int))/\∃(n:Int),zE (iE (i.add k)) m.toNat 0 1=az [dI n]/\(0<=m/\m<(↑(iE (i.add k)).length:Int))/\m.toNat<(iE (i.add k)).length/\∃(p:Nat),(↑p:Int)=aa.wrap ((↑k:Int)+1)/\iE (i.add p)=zX (iE (i.add k)) m.toNat 0 [dI (aa.wrap (n+l))]/\h p/\j p<j k/\dh (aw 2 1 (iE (jD e)))/\dh (ax 1 (iE (i.left d)))/\dh (aw 3 1 (iE (ac (λ(l:Nat) ↦ (↑l:Int)) (i.idx d))))) (∃(l:Unit),iE (pM i)=iE (i.add k)/\True))
def yRq (o:zH):Prop:=
 ∃(a:Unit),dh o.top/\True
def z8j (l:List zH):Prop:=
 ∃(a:Nat),(↑a:Int)=0/\∃(b:Nat->Prop),∃(c:Nat->Nat),b a/\∀(d:Nat),b d->cnd (decide ((↑d:Int)<(↑(ac vE l).length:Int))) ((0<=(↑d:Int)/\(↑d:Int)<(↑(ac vE l).length:Int))/\∃(e:Int),∃(f:Int),∃(g:Int),∃(h:Int),∃(j:Bool),zE (ac vE l) (↑d:Int).toNat 0 5=az [dI e,dI f,dI g,dI h,D.v (.bool j)]/\∃(k:zH),k.id=e/\k.side=f/\k.price=g/\k.qty=h/\k.top=j/\True/\∀(m:Unit),True->cnd k.top (∃(n:Unit),topI l=(↑d:Int)/\True) (cJ d b c)) (∃(e:Unit),topI l=(-1)/\True)
def yMv:topFC.ok Tryz.prog 212:=okw (V:=yRq) mixed gok0 0 (λ_=>[]) (λ_=>[]) [] Tryz.func212 λ(o:zH) _=>by
 unfold yRq;exact⟨(),rfl,trivial⟩
def z2d (i:PlI):(jD i).length=i.l.length\/jD i=[]:=by
 rw[jD];split
 ·left;rw[PlI.p1,zBx,List.length_zip,z4v];simp
 ·exact .inr rfl
def yUx {l:List zH} {k:Nat} {o:zH} (h:l[k]? =az o):zE (l.map vE) k 0 5=az [D.v (.int .i64 o.id),.v (.int .i64 o.side),.v (.int .i64 o.price),.v (.int .i64 o.qty),.v (.bool o.top)]:=elA h (by simp[vE]) rfl
def yMr (l:List zH) (h:idxOrdC.cnd l):z8j l:=by
 have h:l.length<=1000000:=h;unfold z8j cJ kT dI;simp only[y5z];refine⟨0,rfl,λj=>j<=l.length/\∀k<j,∀x,l[k]? =az x->x.top=aq,λj=>l.length-j,⟨oM,λk hk=>by omega⟩,?_⟩;rintro j ⟨h3,h4⟩;refine zI (λhj=> ?_) (λhj=> ?_)
 ·obtain⟨s,hs⟩:=yC (l:=l) (i:=j) oM;refine⟨⟨oM,oM⟩,s.id,s.side,s.price,s.qty,s.top,yUx hs,s,rF4 ⟨rfl,trivial,λ_ _=>Cv.cnd.mk (λe=> ?_) (λe=> ?_)⟩⟩
  ·rw[topI,zHs hs e h4];exact kp
  ·refine⟨j+1,by rw[w64 (by omega)];rfl,⟨oM,λk hk x hx=> ?_⟩,by(first|omega|(dsimp only;omega)),k0q⟩;rcases y8h k j with hk'|hk'
   ·exact h4 k hk' x hx
   ·obtain rfl:k=j:=by omega
    rw[hs]at hx;cases hx;exact e
 ·rw[topI,zIp λk x hx=>h4 k (by have:=(y6c.1 hx).1;omega) x hx];exact kp
def yCo:idxOrdC.ok Tryz.prog 211:=okw mixed (gokc yMv gok0) 0 (λ_=>[]) (λl=>yOs l) [] Tryz.func211 yMr
def yEz (i:RsI) (j:Nat):i.idx (j+1)=i.idx j++if i.out.getD j 0<i.l.getD j 0 then[j]else[]:=by
 rw[RsI.idx,xAt,xAb];by_cases h:i.out.getD j 0<i.l.getD j 0
 ·rw[y6a h,xAw (by simpa using h)];rfl
 ·rw[y5x h,xAx (by simpa using h)];rfl
def yTy (i:RsI) {k n:Nat} (h:n∈i.idx k):n<k:=by
 have:=(y7y.1 h).1;exact y9c.1 this
def z7z (i:RsI) (k:Nat):(i.idx k).length<=k:=by
 have:=y9l (λn=>decide (i.out.getD n 0<i.l.getD n 0)) (ak k);rw[List.length_range]at this;exact this
def z1w:∀(z:List (Nat×Int)) (o:List Int),(z.foldl (λo y=>o.set y.1 (aa.wrap (o.getD y.1 0+y.2))) o).length=o.length
 |[],_=>rfl
 |y::z,o=>by rw[y9r,z1w z,y7g]
def yZs (i:RsI) (h:restC.cnd i):yQv i:=by
 obtain⟨hl,ho,hq,hle,hb⟩:i.ok:=h;unfold yQv dI;simp only[yY,y5z];have hil:∀j,(i.left j).length=(i.idx j).length:=λj=>y5z _
 refine⟨0,by(first|exact rfl|exact trivial),by(first|exact rfl|exact trivial),by(first|exact rfl|exact trivial),λj=>j<=i.l.length,λj=>i.l.length-j,y7e _,λj hj=>zI (λc=> ?_) (λc=> ?_)⟩
 ·have hj':j<i.l.length:=by omega
  obtain⟨n,hn⟩:=yC (l:=i.l) (i:=j) hj';obtain⟨o,hoo⟩:=yC (l:=i.out) (i:=j) oM;have bj:=hb j;rw[zT hn,zT hoo]at bj;have is:=yEz i j;rw[zT hn,zT hoo]at is;have il:=z7z i j;refine⟨⟨oM,oM⟩,n,elI hn,⟨oM,oM⟩,o,elI hoo,zI (λa=> ?_) (λa=> ?_)⟩
  ·rw[y6a (by omega)]at is;refine⟨⟨oM,oM⟩,n,elI hn,⟨oM,oM⟩,o,elI hoo,by rw[hil];omega,oM,j+1,wjn oM,?_,?_,hj',Z9,k0q⟩
   ·rw[w64 (by omega),RsI.left,is,y6i];simp[iE,RsI.left,hn,hoo]
   ·rw[is];simp[iE]
  ·rw[y5x (by omega),y6w]at is;exact⟨j+1,wjn oM,by rw[RsI.left,is];rfl,by rw[is],hj',Z9,k0q⟩
 have hje:j=i.l.length:=by omega
 subst hje;have il:=z7z i i.l.length;refine⟨⟨i.left i.l.length,i.least,i.q⟩,rfl,rfl,rfl,⟨by dsimp only;rw[hil];omega,hq,hle⟩,λ_ _=> ?_⟩;have epl:jD ⟨i.left i.l.length,i.least,i.q⟩=i.pl:=rfl;rw[epl];have hpl:i.pl.length<=(i.idx i.l.length).length:=by
  rcases z2d ⟨i.left i.l.length,i.least,i.q⟩with e|e
  ·rw[epl]at e;rw[e];dsimp only;rw[hil];exact y6v _
  ·rw[epl]at e;rw[e];exact y7e _
 have hal:∀k,(i.add k).length=i.out.length:=λk=>z1w _ _
 refine⟨0,by(first|exact rfl|exact trivial),by(first|exact rfl|exact trivial),λk=>k<=i.pl.length,λk=>i.pl.length-k,y7e _,λk hk=>zI (λc=> ?_) (λc=> ?_)⟩
 ·have hk':k<i.pl.length:=by omega
  obtain⟨x,hx⟩:=yC (l:=i.pl) (i:=k) hk';obtain⟨n,hn⟩:=yC (l:=i.idx i.l.length) (i:=k) oM;have hnl:=yTy i (y6j hn);obtain⟨y,hy⟩:=yC (l:=i.add k) (i:=n) (by rw[hal];omega);have ea:i.add (k+1)=(i.add k).set n (aa.wrap (y+x)):=by
   have hz:((i.idx i.l.length).zip i.pl)[k]? =az (n,x):=by rw[xAq];exact⟨hn,hx⟩
   have ey:(i.add k).getD n 0=y:=zT hy;rw[RsI.add,y7h,hz,xAu];show(i.add k).set n (aa.wrap ((i.add k).getD n 0+x))=_;rw[ey]
  have hnm:((i.idx i.l.length).map λ(n:Nat)=>(n:Int))[k]? =az (n:Int):=by rw[y7p,hn];rfl
  rw[hal];refine⟨⟨oM,oM⟩,x,elI hx,⟨oM,oM⟩,n,elI hnm,⟨oM,oM⟩,y,elI hy,⟨oM,oM⟩,oM,k+1,wjn oM,?_,hk',Z9,k0q⟩;rw[ea,y6r,zVn hy]
 ·have hke:k=i.pl.length:=by omega
  subst hke;exact⟨(),rfl,trivial⟩
def z9q:restC.ok Tryz.prog 222:=okw mixed (gokc yIz gok0) 0 (λ_=>[]) (λi=>y2k i) [] Tryz.func222 yZs
structure PsI where
 l:List Int
 top:Int
 most:Int
 least:Int
 q:Int
def PsI.first (i:PsI):Int:=min (min (i.l.getD i.top.toNat 0) i.most) i.q
def PsI.rs (i:PsI):RsI:=if 0<=i.top/\i.top<i.l.length then⟨i.l,(af i.l.length 0).set i.top.toNat i.first,i.least,i.q-i.first⟩else⟨i.l,af i.l.length 0,i.least,i.q⟩
def zEx (i:PsI):List Int:=if yW i.l i.q=ap/\1<=i.least/\0<=i.most then pM i.rs else[]
def proC:Con:=con1 PsI (λi=>[iV i.l,zA i.top,zA i.most,zA i.least,zA i.q]) (λ_=>[]) (λi=>i.l.length<=1000000/\i64r i.q/\i64r i.least/\i64r i.most) (λ_=> .own 0) (λi=>[.own 2 1 (iE (zEx i))])
structure SpI where
 l:List Int
 part:Int
 least:Int
 q:Int
def SpI.rs (i:SpI):RsI:=⟨i.l,gD i.l (i.q*i.part / 100),i.least,i.q-i.q*i.part / 100⟩
def zCt (i:SpI):List Int:=if yW i.l i.q=ap/\0<=i.part/\i.part<=100/\1<=i.least then pM i.rs else[]
def splC:Con:=con1 SpI (λi=>[iV i.l,zA i.part,zA i.least,zA i.q]) (λ_=>[]) (λi=>i.l.length<=1000000/\i64r i.q/\i64r i.least/\i64r i.part) (λ_=> .own 0) (λi=>[.own 2 1 (iE (zCt i))])
def zEe (a:RsI):Prop:=a.l.length<=250/\a.out.length=a.l.length/\((-9223372036854775808)<=a.q/\a.q<=9223372036854775807)/\((-9223372036854775808)<=a.least/\a.least<=9223372036854775807)/\∀(b:Nat),0<=a.out.getD b 0/\a.out.getD b 0<=a.l.getD b 0/\a.l.getD b (0:Int)<=(1000000:Int)
def zNb (a:RsI) (b:PsI):Prop:=(zEe a)/\∀(c:Unit),True->∃(d:Unit),iE (zEx b)=iE (pM a)/\True
def zPc (a:PsI):Prop:=∃(b:RsI),iE b.l=iE a.l/\b.least=a.least/\b.q=a.q/\iE b.out=af (↑(iE a.l).length:Int).toNat [dI 0]/\zNb b a
def lH (a:PsI):=(af (↑(iE a.l).length:Int).toNat [dI 0])
def zMa (a:PsI) (b:Int):=(zX (lH a) a.top.toNat 0 [dI (min (min b a.most) a.q)])
def yZe (i:PsI):Prop:=
 ∃(a:LqI),iE a.l=iE i.l/\a.q=i.q/\(wE a)/\∀(b:Unit),True->cnd (!yW a.l a.q) (∃(c:Unit),iE (zEx i)=[]/\True) (cnd (decide (i.least<1)) (∃(c:Unit),iE (zEx i)=[]/\True) (cnd (decide (i.most<0)) (∃(c:Unit),iE (zEx i)=[]/\True) ((0<=(↑(iE i.l).length:Int)/\(↑(iE i.l).length:Int)<=(↑(iE i.l).length:Int)/\(↑(iE i.l).length:Int)<=9223372036854775807/\(↑(8:Nat):Int)*(↑(iE i.l).length:Int)<=2 ^ (48:Nat))/\cnd (decide (i.top>=0)) (cnd (decide (i.top<(↑(iE i.l).length:Int))) ((0<=i.top/\i.top<(↑(iE i.l).length:Int))/\∃(c:Int),zE (iE i.l) i.top.toNat 0 1=az [dI c]/\(0<=i.top/\i.top<(↑(lH i).length:Int))/\i.top.toNat<(lH i).length/\(0<=i.top/\i.top<(↑(zMa i c).length:Int))/\∃(d:Int),zE (zMa i c) i.top.toNat 0 1=az [dI d]/\∃(e:RsI),iE e.l=iE i.l/\e.least=i.least/\e.q=aa.wrap (i.q-d)/\iE e.out=zX (lH i) i.top.toNat 0 [dI (min (min c i.most) i.q)]/\zNb e i) (zPc i)) (zPc i))))
def y3g (i:SpI):Prop:=
 ∃(a:LqI),iE a.l=iE i.l/\a.q=i.q/\(wE a)/\∀(b:Unit),True->cnd (!yW a.l a.q) (∃(c:Unit),iE (zCt i)=[]/\True) (cnd (decide (i.part<0)) (∃(c:Unit),iE (zCt i)=[]/\True) (cnd (decide (i.part>100)) (∃(c:Unit),iE (zCt i)=[]/\True) (cnd (decide (i.least<1)) (∃(c:Unit),iE (zCt i)=[]/\True) (∃(c:ShI),c.a=i.q/\c.b=i.part/\c.c=100/\(0<=c.a/\c.a<=(2000000000:Int)/\(0:Int)<=c.b/\c.b<=(2000000000:Int)/\(1:Int)<=c.c/\c.c<=2000000000)/\∀(d:Unit),True->∃(e:LqI),iE e.l=iE i.l/\e.q=c.a*c.b / c.c/\(wE e)/\∀(f:Unit),True->∃(g:RsI),iE g.l=iE i.l/\g.least=i.least/\g.q=aa.wrap (i.q-c.a*c.b / c.c)/\iE g.out=iE (gD e.l e.q)/\(zEe g)/\∀(h:Unit),True->∃(j:Unit),iE (zCt i)=iE (pM g)/\True))))
end Sx
