/- Texts of ours. No condition. -/
import Derived.Laws.Externs
import Derived.Test.YtaafldgiafcgfaaGreatC6
set_option linter.all false
open Go.IntKind renaming i64->aa,u64->ab
open List renaming map->ac,take->ae,replicate->af,headD_cons->ag,tail_cons->aj,range->ak,drop->am
open And renaming intro->ao
open Exists renaming intro->ap
open Bool renaming true->aq,false->ar,or_eq_true->au
open Sx.AObj renaming cells->av,own->aw,fro->ax,iter->ay
open Option renaming some->az
open Go.Value renaming string->ba,int->bc
open Go.Utf8 renaming decode->be
namespace Sx
set_option maxRecDepth 100000
open Go Cv Go.Proofs
def zOd {α:Type} {f:α->α} {Q:α->Prop} (hf:∀x,Q x->Q (f x)):∀{l:List α} (i:Nat),(∃x∈l,Q x)->∃x∈l.modify i f,Q x
 |[],i,⟨x,hx,_⟩=>by cases hx
 |a::l,0,⟨x,hx,q⟩=>by
  rcases y5w.1 hx with rfl|hx
  ·exact⟨f x,y5h,hf x q⟩
  ·exact⟨x,y5j _ hx,q⟩
 |a::l,i+1,⟨x,hx,q⟩=>by
  rw[xAl];rcases y5w.1 hx with rfl|hx
  ·exact⟨x,y5h,q⟩
  ·obtain⟨y,hy,hq⟩:=zOd hf (l:=l) i ⟨x,hx,q⟩;exact⟨y,y5j _ hy,hq⟩
def yIl {a:Arena} (h:a.fit) (n:Int) (t:Bool):(a.topF n t).fit:=by
 obtain⟨h1,h2,h3⟩:=h;rw[Arena.topF];split
 ·refine⟨by simpa using h1,λhf=> ?_,by simpa using h3⟩;exact zOd (f:=λs:Slot=>{s with top:=t}) (Q:=λs=>s.used=ar) (λx hx=>hx) _ (h2 hf)
 ·exact⟨h1,h2,h3⟩
def yBt {b:Book} (h:b.a.fit) (s:Int):(b.untop s).fit:=by
 rw[Book.untop]
 repeat' split
 all_goals first|exact h|exact yIl h _ _
def z9x {a:Arena} (h:a.fit):a.openQ.fit:=by
 obtain⟨h1,h2,h3⟩:=h;refine⟨h1,h2,λq hq=> ?_⟩;rcases y6f.1 hq with hq|hq
 ·exact h3 q hq
 ·rw[y6r.1 hq];exact .inl rfl
def zZh {b:Book} (h:b.a.fit):b.newQ.2.2.fit:=by
 rw[Book.newQ];split
 ·exact z9x h
 ·exact h
def tD {b:Book} (h:b.a.fit) (s p:Int):(b.queueF s p).1.a.fit:=by
 rw[Book.queueF]
 repeat' split
 ·exact h
 ·exact zZh h
 ·exact zZh h
def yCr (b:Book) (s:Int):(b.untop s).slots.length=b.a.slots.length/\(b.untop s).queues=b.a.queues:=by
 have ht:∀n t,(b.a.topF n t).slots.length=b.a.slots.length/\(b.a.topF n t).queues=b.a.queues:=by
  intro n t;rw[Arena.topF];split
  ·exact⟨by simp,rfl⟩
  ·exact⟨rfl,rfl⟩
 rw[Book.untop]
 repeat' split
 all_goals first|exact⟨rfl,rfl⟩|exact ht _ _
def zSu {b:Book} (h:b.fit) (id s:Int):(b.leadF id s).fit:=by
 obtain⟨h1,h2,h3,h4,h5⟩:=h;have hl:=yCr b s;rw[Book.leadF];split
 all_goals exact⟨yBt h1 s,by rw[hl.2];exact h2,h3,h4,h5⟩
def zSn {b:Book} (h:b.fit):b.small:=by
 obtain⟨⟨h1,_⟩,h2,h3,h4,h5⟩:=h;exact⟨⟨h1,by omega⟩,by omega,by omega,by omega⟩
def yTc (i:BaI) (h:badd1C.cnd i):yKq i:=by
 have hfit:i.b.fit:=h;have hsm:=zSn hfit;unfold yKq zIe nD zAh zAf zAt qU zJe zN yM rW rU yI rM rR dI;have plc:∀(b:Book) (x:Int),uH (bc aa i.id) [D.v (.int .i64 1),D.v (.int .i64 i.price),D.v (.int .i64 x)] (atE b.at_)=atE (rJ i.id ⟨1,i.price,x⟩ b.at_):=λb x=>zWc i.id ⟨1,i.price,x⟩ b.at_
 refine⟨jZ _ _,(pget i.b.at_ i.id).isSome,_,_,_,zQz _ _,1,rfl,trivial,λ_ _=> ?_⟩;refine Cv.cnd.mk (λc=>absurd c (by decide)) λ_=> ?_
 refine zI (λc=> ?_) (λc=>zI (λd=> ?_) (λd=> ?_))
 ·have ha:i.b.addF 1 i.id i.price i.qty=(i.b,24):=by rw[Book.addF,y5d (.inl c)]
  rw[ha];(repeat'(first|exact rfl|exact trivial|assumption|apply ao|refineλ(_:Unit) (_:True)=>?_|refine ap () ?_|omega|(dsimp only;omega)))
 ·have ha:i.b.addF 1 i.id i.price i.qty=(i.b,24):=by rw[Book.addF,y5d (.inr d)]
  rw[ha];(repeat'(first|exact rfl|exact trivial|assumption|apply ao|refineλ(_:Unit) (_:True)=>?_|refine ap () ?_|omega|(dsimp only;omega)))
 have hq:¬(i.qty<1\/1000000<i.qty):=by omega
 refine Cv.cnd.mk (λe=> ?_) (λe=> ?_)
 ·have ha:i.b.addF 1 i.id i.price i.qty=(i.b,25):=by rw[Book.addF,y5b hq,y5d e]
  rw[ha];(repeat'(first|exact rfl|exact trivial|assumption|apply ao|refineλ(_:Unit) (_:True)=>?_|refine ap () ?_|omega|(dsimp only;omega)))
 have hlen:(atE i.b.at_).length=i.b.at_.length:=by simp[atE]
 rw[hlen];refine zI (λf=> ?_) (λf=> ?_)
 ·have ha:i.b.addF 1 i.id i.price i.qty=(i.b,13):=by rw[Book.addF,y5b hq,y5b (by rw[e];decide),y5d (by omega)]
  rw[ha];(repeat'(first|exact rfl|exact trivial|assumption|apply ao|refineλ(_:Unit) (_:True)=>?_|refine ap () ?_|omega|(dsimp only;omega)))
 have ha:i.b.addF 1 i.id i.price i.qty=(i.b.stand 1 i.id i.price i.qty,0):=by rw[Book.addF,y5b hq,y5b (by rw[e];decide),y5b (by omega)]
 rw[ha];simp only[y5c];refine⟨aq,λx=>x=i.b.leads 1 i.price,Cv.cnd.mk (λg=>⟨aq,rfl,?_,by(repeat'(first|exact trivial|exact rfl|apply ao))⟩) (λg=> ?_),λx hx=> ?_⟩
 ·have:i.b.buys=[]:=y6d (by have:(i.b.buys.length:Int)=0:=(by simpa using g);omega);rw[Book.leads,rT,this]
 ·obtain⟨r,l,hl⟩:∃r l,i.b.buys=r::l:=by
   cases hb:i.b.buys with
   |nil=>rw[hb]at g;exact absurd g (by decide)
   |cons r l=>exact⟨r,l,rfl⟩
  refine⟨⟨by omega,by rw[hl,y5g];omega⟩,r.price,elA (x:=r) (by rw[hl];rfl) (by simp[zB]) rfl,⟨1,i.price,r.price⟩,rfl,rfl,rfl,trivial,λ_ _=>⟨_,rfl,?_,by(repeat'(first|exact trivial|exact rfl|apply ao))⟩⟩;rw[Book.leads,rT,hl]
 subst hx;refine Cv.cnd.mk (λg=> ?_) (λg=> ?_)
 ·have hled:i.b.led i.id 1 i.price=i.b.leadF i.id 1:=by rw[Book.led,y5d g]
  have hf1:=zSu hfit i.id 1;have hst:i.b.stand 1 i.id i.price i.qty={((i.b.leadF i.id 1).queueF 1 i.price).1 with a:=(((i.b.leadF i.id 1).queueF 1 i.price).1.a.push ((i.b.leadF i.id 1).queueF 1 i.price).2 i.id i.qty (i.b.leads 1 i.price)).1,at_:=rJ i.id ⟨1,i.price,(((i.b.leadF i.id 1).queueF 1 i.price).1.a.push ((i.b.leadF i.id 1).queueF 1 i.price).2 i.id i.qty (i.b.leads 1 i.price)).2.1⟩ ((i.b.leadF i.id 1).queueF 1 i.price).1.at_}:=by
   simp only[Book.stand,hled]
  refine⟨⟨i.b,i.id⟩,rfl,trivial,rfl,rfl,rfl,rfl,rfl,rfl,rfl,rfl,rfl,hsm,λ_ _=>⟨⟨i.b.leadF i.id 1,i.price⟩,trivial,rfl,rfl,rfl,rfl,rfl,rfl,rfl,rfl,rfl,rfl,hf1,λ_ _=>⟨trivial,?_⟩⟩⟩;refine⟨⟨((i.b.leadF i.id 1).queueF 1 i.price).1.a,((i.b.leadF i.id 1).queueF 1 i.price).2,i.id,i.qty,i.b.leads 1 i.price⟩,rfl,rfl,rfl,rfl,rfl,tD hf1.1 1 i.price,λ_ _=>⟨jZ _ _,(),?_⟩⟩;dsimp only;rw[hst,plc]
  (repeat'(first|exact rfl|exact trivial|assumption|apply ao|refineλ(_:Unit) (_:True)=>?_|refine ap () ?_|omega|(dsimp only;omega)))
 ·have hled:i.b.led i.id 1 i.price=i.b:=by rw[Book.led,y5b (by rw[g];decide)]
  have hst:i.b.stand 1 i.id i.price i.qty={(i.b.queueF 1 i.price).1 with a:=((i.b.queueF 1 i.price).1.a.push (i.b.queueF 1 i.price).2 i.id i.qty (i.b.leads 1 i.price)).1,at_:=rJ i.id ⟨1,i.price,((i.b.queueF 1 i.price).1.a.push (i.b.queueF 1 i.price).2 i.id i.qty (i.b.leads 1 i.price)).2.1⟩ (i.b.queueF 1 i.price).1.at_}:=by
   simp only[Book.stand,hled]
  refine⟨⟨i.b,i.price⟩,trivial,rfl,rfl,rfl,rfl,rfl,rfl,rfl,rfl,rfl,rfl,hfit,λ_ _=>⟨trivial,?_⟩⟩;refine⟨⟨(i.b.queueF 1 i.price).1.a,(i.b.queueF 1 i.price).2,i.id,i.qty,i.b.leads 1 i.price⟩,rfl,rfl,rfl,rfl,rfl,tD hfit.1 1 i.price,λ_ _=>⟨jZ _ _,(),?_⟩⟩;dsimp only;rw[hst,plc]
  (repeat'(first|exact rfl|exact trivial|assumption|apply ao|refineλ(_:Unit) (_:True)=>?_|refine ap () ?_|omega|(dsimp only;omega)))
def yJq:badd1C.ok Tryz.prog 196:=okw mixed (gokc eL (gokc aW (gokc yKn (gokc yCd (gokc z0v gok0))))) 0 (λ_=>yRd) (λ_=>[]) [0] Tryz.func196 yTc
def yXd (i:BaI) (h:badd2C.cnd i):yIv i:=by
 have hfit:i.b.fit:=h;have hsm:=zSn hfit;unfold yIv zHi nH zGg zM yL rW rU yI zAh zAf zAt qU rM rR dI;have plc:∀(b:Book) (x:Int),uH (bc aa i.id) [D.v (.int .i64 2),D.v (.int .i64 i.price),D.v (.int .i64 x)] (atE b.at_)=atE (rJ i.id ⟨2,i.price,x⟩ b.at_):=λb x=>zWc i.id ⟨2,i.price,x⟩ b.at_
 refine⟨jZ _ _,(pget i.b.at_ i.id).isSome,_,_,_,zQz _ _,2,rfl,trivial,λ_ _=> ?_⟩;refine Cv.cnd.mk (λc=>absurd c (by decide)) λ_=> ?_
 refine zI (λc=> ?_) (λc=>zI (λd=> ?_) (λd=> ?_))
 ·have ha:i.b.addF 2 i.id i.price i.qty=(i.b,24):=by rw[Book.addF,y5d (.inl c)]
  rw[ha];(repeat'(first|exact rfl|exact trivial|assumption|apply ao|refineλ(_:Unit) (_:True)=>?_|refine ap () ?_|omega|(dsimp only;omega)))
 ·have ha:i.b.addF 2 i.id i.price i.qty=(i.b,24):=by rw[Book.addF,y5d (.inr d)]
  rw[ha];(repeat'(first|exact rfl|exact trivial|assumption|apply ao|refineλ(_:Unit) (_:True)=>?_|refine ap () ?_|omega|(dsimp only;omega)))
 have hq:¬(i.qty<1\/1000000<i.qty):=by omega
 refine Cv.cnd.mk (λe=> ?_) (λe=> ?_)
 ·have ha:i.b.addF 2 i.id i.price i.qty=(i.b,25):=by rw[Book.addF,y5b hq,y5d e]
  rw[ha];(repeat'(first|exact rfl|exact trivial|assumption|apply ao|refineλ(_:Unit) (_:True)=>?_|refine ap () ?_|omega|(dsimp only;omega)))
 have hlen:(atE i.b.at_).length=i.b.at_.length:=by simp[atE]
 rw[hlen];refine zI (λf=> ?_) (λf=> ?_)
 ·have ha:i.b.addF 2 i.id i.price i.qty=(i.b,13):=by rw[Book.addF,y5b hq,y5b (by rw[e];decide),y5d (by omega)]
  rw[ha];(repeat'(first|exact rfl|exact trivial|assumption|apply ao|refineλ(_:Unit) (_:True)=>?_|refine ap () ?_|omega|(dsimp only;omega)))
 have ha:i.b.addF 2 i.id i.price i.qty=(i.b.stand 2 i.id i.price i.qty,0):=by rw[Book.addF,y5b hq,y5b (by rw[e];decide),y5b (by omega)]
 rw[ha];simp only[y5c];refine⟨aq,λx=>x=i.b.leads 2 i.price,Cv.cnd.mk (λg=>⟨aq,rfl,?_,by(repeat'(first|exact trivial|exact rfl|apply ao))⟩) (λg=> ?_),λx hx=> ?_⟩
 ·have:i.b.sells=[]:=y6d (by have:(i.b.sells.length:Int)=0:=(by simpa using g);omega);rw[Book.leads,rC,this]
 ·obtain⟨r,l,hl⟩:∃r l,i.b.sells=r::l:=by
   cases hb:i.b.sells with
   |nil=>rw[hb]at g;exact absurd g (by decide)
   |cons r l=>exact⟨r,l,rfl⟩
  refine⟨⟨by omega,by rw[hl,y5g];omega⟩,r.price,elA (x:=r) (by rw[hl];rfl) (by simp[zB]) rfl,⟨2,i.price,r.price⟩,rfl,rfl,rfl,trivial,λ_ _=>⟨_,rfl,?_,by(repeat'(first|exact trivial|exact rfl|apply ao))⟩⟩;rw[Book.leads,rC,hl]
 subst hx;refine Cv.cnd.mk (λg=> ?_) (λg=> ?_)
 ·have hled:i.b.led i.id 2 i.price=i.b.leadF i.id 2:=by rw[Book.led,y5d g]
  have hf1:=zSu hfit i.id 2;have hst:i.b.stand 2 i.id i.price i.qty={((i.b.leadF i.id 2).queueF 2 i.price).1 with a:=(((i.b.leadF i.id 2).queueF 2 i.price).1.a.push ((i.b.leadF i.id 2).queueF 2 i.price).2 i.id i.qty (i.b.leads 2 i.price)).1,at_:=rJ i.id ⟨2,i.price,(((i.b.leadF i.id 2).queueF 2 i.price).1.a.push ((i.b.leadF i.id 2).queueF 2 i.price).2 i.id i.qty (i.b.leads 2 i.price)).2.1⟩ ((i.b.leadF i.id 2).queueF 2 i.price).1.at_}:=by
   simp only[Book.stand,hled]
  refine⟨⟨i.b,i.id⟩,rfl,trivial,rfl,rfl,rfl,rfl,rfl,rfl,rfl,rfl,rfl,hsm,λ_ _=>⟨⟨i.b.leadF i.id 2,i.price⟩,trivial,rfl,rfl,rfl,rfl,rfl,rfl,rfl,rfl,rfl,rfl,hf1,λ_ _=>⟨trivial,?_⟩⟩⟩;refine⟨⟨((i.b.leadF i.id 2).queueF 2 i.price).1.a,((i.b.leadF i.id 2).queueF 2 i.price).2,i.id,i.qty,i.b.leads 2 i.price⟩,rfl,rfl,rfl,rfl,rfl,tD hf1.1 2 i.price,λ_ _=>⟨jZ _ _,(),?_⟩⟩;dsimp only;rw[hst,plc]
  (repeat'(first|exact rfl|exact trivial|assumption|apply ao|refineλ(_:Unit) (_:True)=>?_|refine ap () ?_|omega|(dsimp only;omega)))
 ·have hled:i.b.led i.id 2 i.price=i.b:=by rw[Book.led,y5b (by rw[g];decide)]
  have hst:i.b.stand 2 i.id i.price i.qty={(i.b.queueF 2 i.price).1 with a:=((i.b.queueF 2 i.price).1.a.push (i.b.queueF 2 i.price).2 i.id i.qty (i.b.leads 2 i.price)).1,at_:=rJ i.id ⟨2,i.price,((i.b.queueF 2 i.price).1.a.push (i.b.queueF 2 i.price).2 i.id i.qty (i.b.leads 2 i.price)).2.1⟩ (i.b.queueF 2 i.price).1.at_}:=by
   simp only[Book.stand,hled]
  refine⟨⟨i.b,i.price⟩,trivial,rfl,rfl,rfl,rfl,rfl,rfl,rfl,rfl,rfl,rfl,hfit,λ_ _=>⟨trivial,?_⟩⟩;refine⟨⟨(i.b.queueF 2 i.price).1.a,(i.b.queueF 2 i.price).2,i.id,i.qty,i.b.leads 2 i.price⟩,rfl,rfl,rfl,rfl,rfl,tD hfit.1 2 i.price,λ_ _=>⟨jZ _ _,(),?_⟩⟩;dsimp only;rw[hst,plc]
  (repeat'(first|exact rfl|exact trivial|assumption|apply ao|refineλ(_:Unit) (_:True)=>?_|refine ap () ?_|omega|(dsimp only;omega)))
def yIj:badd2C.ok Tryz.prog 196:=okw mixed (gokc eL (gokc aW (gokc yJw (gokc yBx (gokc z0v gok0))))) 0 (λ_=>yRd) (λ_=>[]) [0] Tryz.func196 yXd
def yNz:baddC.ok Tryz.prog 196:=λj=>match j with
 |⟨i,ar⟩=>yJq i
 |⟨i,aq⟩=>yIj i
def y0x (i:SaI) (h:saddC.cnd i):yQo i:=by
 obtain⟨hp,hbl,hb⟩:i.s.fit:=h;unfold yQo zOs eT pK zIa zGj qB dI;simp only[zWq];have hml:(yO i.s.wh).length=i.s.wh.length:=by simp[yO]
 rw[hml];have out (e:i.inst<0\/i.s.books.length<=i.inst):MSt.addF i=(i.s,20):=by rw[MSt.addF,y5d e]
 refine⟨dR _ _,(zDh i.s.wh i.id).isSome,_,yUp _ _,zI (λc=>Cv.cnd.mk (λd=> ?_) (λd=> ?_)) (λc=> ?_)⟩
 ·have d:¬i.inst<(i.s.books.length:Int):=by simpa using d
  rw[out (.inr (by omega))];(repeat'(first|exact rfl|exact trivial|assumption|apply ao|refineλ(_:Unit) (_:True)=>?_|refine ap () ?_|omega|(dsimp only;omega)))
 ·have d:i.inst<(i.s.books.length:Int):=by simpa using d
  have hn:¬(i.inst<0\/(i.s.books.length:Int)<=i.inst):=by omega
  refine Cv.cnd.mk (λe=> ?_) (λe=>zI (λf=> ?_) (λf=> ?_))
  ·rw[MSt.addF,y5b hn,y5d e];(repeat'(first|exact rfl|exact trivial|assumption|apply ao|refineλ(_:Unit) (_:True)=>?_|refine ap () ?_|omega|(dsimp only;omega)))
  ·rw[MSt.addF,y5b hn,y5b (by rw[e];decide),y5d (by omega)];(repeat'(first|exact rfl|exact trivial|assumption|apply ao|refineλ(_:Unit) (_:True)=>?_|refine ap () ?_|omega|(dsimp only;omega)))
  ·refine⟨⟨i.s.p,i.inst,i.price⟩,rfl,rfl,rfl,rfl,rfl,rfl,rfl,rfl,rfl,rfl,rfl,rfl,rfl,hp,λ_ _=>Cv.cnd.mk (λg=> ?_) (λg=> ?_)⟩
   ·have g:i.s.p.price i.inst i.price≠0:=by simpa using g
    rw[MSt.addF,y5b hn,y5b (by rw[e];decide),y5b (by omega),y5d g];(repeat'(first|exact rfl|exact trivial|assumption|apply ao|refineλ(_:Unit) (_:True)=>?_|refine ap () ?_|omega|(dsimp only;omega)))
   ·have g:i.s.p.price i.inst i.price=0:=by simpa using g
    obtain⟨x,hx⟩:=yC (l:=i.s.books) (i:=i.inst.toNat) (by omega);have hba:i.s.bookAt i.inst=x:=zU hx;have ha:MSt.addF i=({i.s with books:=i.s.books.set i.inst.toNat (x.addF (zC i.sd) i.id i.price i.qty).1,wh:=if(x.addF (zC i.sd) i.id i.price i.qty).2=0 then z0e i.id i.inst i.s.wh else i.s.wh},(x.addF (zC i.sd) i.id i.price i.qty).2):=by
     rw[MSt.addF,y5b hn,y5b (by rw[e];decide),y5b (by omega),y5b (by simp[g])];simp only[hba]
    refine⟨⟨by omega,by omega⟩,by omega,x,hx,⟨⟨x,i.id,i.price,i.qty⟩,i.sd⟩,rfl,rfl,rfl,rfl,rfl,hb x (y5m hx),λ_ _=>⟨(x.addF (zC i.sd) i.id i.price i.qty).1,rfl,trivial,by omega,Cv.cnd.mk (λz=>⟨dR _ _,?_⟩) (λz=> ?_)⟩⟩
    ·have z:(x.addF (zC i.sd) i.id i.price i.qty).2=0:=by simpa using z
     rw[ha,z];simp only[if_true]
     (repeat'(first|exact rfl|exact trivial|assumption|apply ao|refineλ(_:Unit) (_:True)=>?_|refine ap () ?_|omega|(dsimp only;omega)))
    ·have z:¬(x.addF (zC i.sd) i.id i.price i.qty).2=0:=by simpa using z
     rw[ha,y5b z]
     (repeat'(first|exact rfl|exact trivial|assumption|apply ao|refineλ(_:Unit) (_:True)=>?_|refine ap () ?_|omega|(dsimp only;omega)))
 ·rw[out (.inl (by omega))];(repeat'(first|exact rfl|exact trivial|assumption|apply ao|refineλ(_:Unit) (_:True)=>?_|refine ap () ?_|omega|(dsimp only;omega)))
def yKy:saddC.ok Tryz.prog 186:=okw mixed (gokc lL (gokc yNz gok0)) 1 (λ_=>[]) (λ_=>[]) [0] Tryz.func186 y0x
def r3prodC:Con:=con1 (List UInt8) (λs=>[sV s]) (λ_=>[]) (λs=>s.length<=1099511627776) (λs=>yP (wD s)) (λ_=>[])
def yKr (s:List UInt8):List SAnn:=[{ι:=Nat×Nat,slots:=λx=>[(3,zA x.2),(7,.nm 0 0)],rows:=λx=>[.iter (sb s) x.1]}]
def yOl:List (Nat×SAnn):=[(20,bj 29)]
def r5checkC:Con:=con1 Prd (λp=>[prdV p]) (λ_=>[]) Prd.small (λp=>zA p.check) (λ_=>[])
def yEs:List SAnn:=[{ι:=Nat,slots:=λj=>[(3,zA j)],rows:=λ_=>[]},{ι:=Nat,slots:=λj=>[(4,zA j)],rows:=λ_=>[]},{ι:=Nat,slots:=λj=>[(5,zA j)],rows:=λ_=>[]}]
def yGd:List (Nat×SAnn):=[(12,bj 19),(32,bj 58),(40,bj 90),(68,bj 136),(96,bj 168),(104,bj 176),(112,bj 204)]
def r5countC:Con:=con1 Prd (λp=>[prdV p]) (λ_=>[]) Prd.small (λp=>zA p.count) (λ_=>[])
def r5legsC:Con:=con1 cM (λi=>[prdV i.p,zA i.n]) (λ_=>[]) (λi=>i.p.small) (λi=> .tup [zA (i.p.legs i.n).1,zA (i.p.legs i.n).2.1,yP (i.p.legs i.n).2.2]) (λ_=>[])
def yMv (i:cM):List SAnn:=[{ι:=Nat,slots:=λm=>[(8,zA (yJ i.p.months.length m)),(9,zA m)],rows:=λ_=>[]},
 {ι:=Nat×Nat,slots:=λm=>[(8,zA ((yJ i.p.months.length m.1+m.2:Nat):Int)),(9,zA m.1),(10,zA ((m.1+1+m.2:Nat):Int))],rows:=λ_=>[]}]
def kN (x:Prd):Int:=2+zF x.months.length 0 3
def zT (x:Prd):Int:=1+zF x.tick 0 9
def qI (n:Nat):List Int:=(ak n).map λ(i:Nat)=>10*(i:Int)+3
def kB (t:Int) (n:Nat):List Int:=(ak n).map λ(i:Nat)=>t*(10+(i:Int))
def kprod (x:Prd):Prd:=⟨[206,169],qI (kN x).toNat,zT x,-20*zT x,100*zT x,zT x*(5+zF x.wide 0 60),1+zF x.rule 0 2,zF x.top 0 9,1+zF x.least 0 4,zF x.part 0 100,kB (zT x) (kN x).toNat⟩
@[reducible] def Prd.raw (x:Prd):Prop:=i64r x.tick/\i64r x.wide/\i64r x.rule/\i64r x.top/\i64r x.least/\i64r x.part/\x.months.length<=9223372036854775807
def kprodC:Con:=con1 Prd (λx=>[prdV x]) (λ_=>[]) Prd.raw (λx=>prdV (kprod x)) (λ_=>[])
def y3b (x:Prd) (w:Int) (j:Nat):List AObj:=[.cells [sV [206,169],.own 1,zA (zT x),zA (-20*zT x),zA (100*zT x),zA w,zA (1+zF x.rule 0 2),zA (zF x.top 0 9),zA (1+zF x.least 0 4),zA (zF x.part 0 100),.own 2] 25,.own 3 1 (iE (qI j)),.own 2 1 (iE (kB (zT x) j))]
def y1r (x:Prd):List AObj:=[.cells [sV [206,169],.d (.v (.slice none 0 0)),zA (zT x),zA (-20*zT x),zA (100*zT x),zA 0,zA (1+zF x.rule 0 2),zA (zF x.top 0 9),zA (1+zF x.least 0 4),zA (zF x.part 0 100),.d (.v (.slice none 0 0))] 25]
def yTq (x:Prd):List SAnn:=[{ι:=Nat,slots:=λj=>[(5,.nm 0 0),(6,zA j)],rows:=λj=>y3b x (zT x*(5+zF x.wide 0 60)) j}]
def yUa (x:Prd):List (Nat×SAnn):=[(12,{ι:=Unit,slots:=λ_=>[(5,.nm 0 0)],slots0:=λ_=>[],rows0:=λ_=>[],rows:=λ_=>y1r x})]
def mR (a:Bool->Prop) (b:Bool) (c:List UInt8) (d:Nat×Nat):Prop:=a b/\dh (ay (sb c) (d.fst+(be (sb c) d.fst).snd))
def qC (a:List UInt8) (b:Nat×Nat):=(↑(be (sb a) b.fst).fst:Int)
def tV (a:List UInt8) (b:Nat×Nat) (c:Bool->Prop):Prop:=∃(d:Bool),d=!(qC a b) !=930/\mR c d a b
def cQ (a:Bool->Prop) (b:List UInt8) (c:Nat×Nat):Prop:=∃(d:Bool),d=!false/\mR a d b c
def z8j (s:List UInt8):Prop:=
 ∃(a:Nat×Nat),(↑a.snd:Int)=0/\sb s=sb s/\a.fst=0/\∃(b:Nat×Nat->Prop),∃(c:Nat×Nat->Nat),b a/\∀(d:Nat×Nat),b d->cnd (d.fst.blt (sb s).size) (∃(e:Bool),∃(f:Bool->Prop),cnd (decide ((qC s d)>=65)) (cnd (decide ((qC s d)<=90)) (∃(g:Bool),g=!true/\mR f g s d) (cnd (decide ((qC s d)>=913)) (cnd (decide ((qC s d)<=937)) (tV s d f) (cQ f s d)) (cQ f s d))) (cnd (decide ((qC s d)>=913)) (cnd (decide ((qC s d)<=937)) (tV s d f) (cQ f s d)) (cQ f s d))/\∀(g:Bool),f g->cnd g (∃(h:Unit),wD s=ar/\True) (dD d s b c)) (cnd (decide ((↑d.snd:Int)>=1)) (∃(e:Unit),wD s=decide ((↑d.snd:Int)<=4)/\True) (∃(e:Unit),wD s=ar/\True))
def pM (a:Prd):Prop:=av [V.d (uQ a),V.own 0,V.d (dI a.tick),V.d (dI a.low),V.d (dI a.high),V.d (dI a.wide),V.d (dI a.rule),V.d (dI a.top),V.d (dI a.least),V.d (dI a.part),V.own 1] 25=av [V.d (uQ a),V.own 0,V.d (dI a.tick),V.d (dI a.low),V.d (dI a.high),V.d (dI a.wide),V.d (dI a.rule),V.d (dI a.top),V.d (dI a.least),V.d (dI a.part),V.own 1] 25/\bX a
def eU (a:Nat) (b:Nat->Prop) (c:Nat->Nat) (d:Prd):Prop:=∃(e:Nat),(↑e:Int)=aa.wrap ((↑a:Int)+1)/\b e/\c e<c a/\pM d
def tR (a:Bool->Prop) (b:Prd) (c:Nat) (d:Nat->Prop) (e:Nat->Nat):Prop:=∀(f:Bool),a f->cnd f (∃(g:Unit),b.check=1/\True) (eU c d e b)
def kG (a:Bool->Prop) (b:Bool) (c:Prd):Prop:=a b/\pM c
def yY (a:Bool->Prop) (b:Prd):Prop:=∃(c:Bool),c=aq/\kG a c b
def z0h (p:Prd):Prop:=
 ∃(a:List UInt8),sb a=sb p.code/\a.length<=1099511627776/\∀(b:Unit),True->cnd (!wD a) (∃(c:Unit),p.check=12/\True) (∃(c:Bool),∃(d:Bool->Prop),cnd (decide ((xE p)<2)) (yY d p) (∃(e:Bool),e=decide ((xE p)>6)/\kG d e p)/\∀(e:Bool),d e->cnd e (∃(f:Unit),p.check=1/\True) (∃(f:Nat),(↑f:Int)=0/\∃(g:Nat->Prop),∃(h:Nat->Nat),g f/\∀(j:Nat),g j->cnd (decide ((↑j:Int)<(xE p))) (∃(k:Bool),∃(l:Bool->Prop),((0<=(↑j:Int)/\(↑j:Int)<(xE p))/\∃(m:Int),zE (iE p.months) (↑j:Int).toNat 0 1=az [dI m]/\cnd (decide (m<0)) (yY l p) ((0<=(↑j:Int)/\(↑j:Int)<(xE p))/\∃(n:Int),zE (iE p.months) (↑j:Int).toNat 0 1=az [dI n]/\cnd (decide (n>1199)) (yY l p) (cnd (decide ((↑j:Int)>0)) ((0<=aa.wrap ((↑j:Int)-1)/\aa.wrap ((↑j:Int)-1)<(xE p))/\∃(q:Int),zE (iE p.months) (aa.wrap ((↑j:Int)-1)).toNat 0 1=az [dI q]/\(0<=(↑j:Int)/\(↑j:Int)<(xE p))/\∃(r:Int),zE (iE p.months) (↑j:Int).toNat 0 1=az [dI r]/\∃(s:Bool),s=decide (q>=r)/\kG l s p) (∃(q:Bool),q=ar/\kG l q p))))/\tR l p j g h) (∃(k:Bool),∃(l:Bool->Prop),cnd (decide (p.tick<1)) (yY l p) (cnd (decide (p.tick>1000)) (yY l p) (aa=aa/\p.tick≠0/\cnd (p.low.tmod p.tick !=0) (yY l p) (aa=aa/\p.tick≠0/\cnd (p.high.tmod p.tick !=0) (yY l p) (aa=aa/\p.tick≠0/\∃(m:Bool),m=(p.wide.tmod p.tick !=0)/\kG l m p))))/\∀(m:Bool),l m->cnd m (∃(n:Unit),p.check=22/\True) (∃(n:Nat),(↑n:Int)=0/\∃(q:Nat->Prop),∃(r:Nat->Nat),q n/\∀(s:Nat),q s->cnd (decide ((↑s:Int)<(wT p))) ((0<=(↑s:Int)/\(↑s:Int)<(wT p))/\∃(t:Int),zE (iE p.settle) (↑s:Int).toNat 0 1=az [dI t]/\aa=aa/\p.tick≠0/\cnd (t.tmod p.tick !=0) (∃(u:Unit),p.check=22/\True) (eU s q r p)) (∃(t:Bool),∃(u:Bool->Prop),cnd (decide (p.low<(-1000000))) (yY u p) (cnd (decide (p.low>=p.high)) (yY u p) (cnd (decide (p.high>1000000)) (yY u p) (cnd (decide (p.wide<0)) (yY u p) (∃(v:Bool),v=decide (p.wide>aa.wrap (p.high-p.low))/\kG u v p))))/\∀(v:Bool),u v->cnd v (∃(w:Unit),p.check=23/\True) (cnd ((wT p) !=(xE p)) (∃(w:Unit),p.check=1/\True) (∃(w:Nat),(↑w:Int)=0/\∃(x:Nat->Prop),∃(y:Nat->Nat),x w/\∀(z:Nat),x z->cnd (decide ((↑z:Int)<(wT p))) (∃(a_1:Bool),∃(a_2:Bool->Prop),((0<=(↑z:Int)/\(↑z:Int)<(wT p))/\∃(a_3:Int),zE (iE p.settle) (↑z:Int).toNat 0 1=az [dI a_3]/\cnd (decide (a_3<p.low)) (yY a_2 p) ((0<=(↑z:Int)/\(↑z:Int)<(wT p))/\∃(a_4:Int),zE (iE p.settle) (↑z:Int).toNat 0 1=az [dI a_4]/\∃(a_5:Bool),a_5=decide (a_4>p.high)/\kG a_2 a_5 p))/\tR a_2 p z x y) (∃(a_1:Bool),∃(a_2:Bool->Prop),cnd (decide (p.rule<1)) (yY a_2 p) (∃(a_3:Bool),a_3=decide (p.rule>3)/\kG a_2 a_3 p)/\∀(a_3:Bool),a_2 a_3->cnd a_3 (∃(a_4:Unit),p.check=31/\True) (∃(a_4:Bool),∃(a_5:Bool->Prop),cnd (decide (p.top<0)) (yY a_5 p) (cnd (decide (p.top>1000000)) (yY a_5 p) (cnd (decide (p.least<1)) (yY a_5 p) (cnd (decide (p.least>1000)) (yY a_5 p) (cnd (decide (p.part<0)) (yY a_5 p) (∃(a_6:Bool),a_6=decide (p.part>100)/\kG a_5 a_6 p)))))/\∀(a_6:Bool),a_5 a_6->cnd a_6 (∃(a_7:Unit),p.check=24/\True) (∃(a_7:Unit),p.check=0/\True))))))))))
def zWx (p:Prd):Prop:=
 ∃(a:Prd),rY a p
def gV (a:cM) (b:Nat×Nat):=(↑(yJ a.p.months.length b.fst+b.snd):Int)
def z7c (i:cM):Prop:=
 ∃(a:Prd),sb a.code=sb i.p.code/\iE a.months=iE i.p.months/\a.tick=i.p.tick/\a.low=i.p.low/\a.high=i.p.high/\a.wide=i.p.wide/\a.rule=i.p.rule/\a.top=i.p.top/\a.least=i.p.least/\a.part=i.p.part/\iE a.settle=iE i.p.settle/\(z5 a)/\∀(b:Unit),True->cnd (a.check !=0) (fC i) (cnd (decide (i.n<0)) (fC i) (cnd (decide (i.n<(vB i))) (l7 i) (∃(c:Nat),(uG i c)=(vB i)/\(↑c:Int)=0/\∃(d:Nat->Prop),∃(e:Nat->Nat),d c/\∀(f:Nat),d f->cnd (decide ((↑f:Int)<(vB i))) (∃(g:Nat×Nat),(gV i g)=(uG i f)/\(↑g.fst:Int)=(↑f:Int)/\(↑(g.fst+1+g.snd):Int)=aa.wrap ((↑f:Int)+1)/\∃(h:Nat×Nat->Prop),∃(j:Nat×Nat->Nat),h g/\∀(k:Nat×Nat),h k->cnd (decide ((↑(k.fst+1+k.snd):Int)<(vB i))) (cnd ((gV i k)==i.n) (∃(l:Unit),(i.p.legs i.n).fst=(↑k.fst:Int)/\(i.p.legs i.n).snd.fst=(↑(k.fst+1+k.snd):Int)/\(i.p.legs i.n).snd.snd=aq/\True) (∃(l:Nat×Nat),(gV i l)=aa.wrap ((gV i k)+1)/\(↑l.fst:Int)=(↑k.fst:Int)/\(↑(l.fst+1+l.snd):Int)=aa.wrap ((↑(k.fst+1+k.snd):Int)+1)/\h l/\j l<j k/\pV i)) (∃(l:Nat),(uG i l)=(gV i k)/\(↑l:Int)=aa.wrap ((↑k.fst:Int)+1)/\zGb d l e f i)) (fC i))))
def yN (a:WiI):Prop:=((-9223372036854775808)<=a.n/\a.n<=9223372036854775807)/\(-1000000)<=a.lo/\a.lo<=a.hi/\a.hi<=1000000
def x9 (a:WiI):=(1+zF a.n a.lo a.hi)
def vN:=(D.v (Value.slice none 0 0))
def kM:=(D.v (ba (ByteArray.mk #[])))
def zGs (a:Prd):Prop:=av (Sx.V.agg [V.d kM,V.d vN,V.d (dI 0),V.d (dI 0),V.d (dI 0),V.d (dI 0),V.d (dI 0),V.d (dI 0),V.d (dI 0),V.d (dI 0),V.d vN]).cl 25=av (Sx.V.agg [V.d kM,V.d vN,V.d (dI 0),V.d (dI 0),V.d (dI 0),V.d (dI 0),V.d (dI 0),V.d (dI 0),V.d (dI 0),V.d (dI 0),V.d vN]).cl 25/\pM a
def zGk (a:Prd) (b:WiI) (c:WiI) (d:WiI) (e:WiI) (f:Unit->Prop):Prop:=∃(g:WiI),g.n=a.part/\g.lo=0/\g.hi=100/\(yN g)/\∀(h:Unit),True->∃(j:Unit),sb [(206:UInt8),(169:UInt8)]=ByteArray.mk #[(206:UInt8),(169:UInt8)]/\True/\zT a=aa.wrap (x9 b)/\(-20)*zT a=aa.wrap ((-20)*aa.wrap (x9 b))/\100*zT a=aa.wrap (100*aa.wrap (x9 b))/\dh ((0:Int))/\1+zF a.rule 0 2=aa.wrap (x9 c)/\zF a.top 0 9=zF d.n d.lo d.hi/\1+zF a.least 0 4=aa.wrap (x9 e)/\zF a.part 0 100=zF g.n g.lo g.hi/\True/\f j/\zGs a
def zGm (a:Prd) (b:WiI) (c:WiI) (d:WiI) (e:WiI) (f:Unit->Prop):Prop:=a.part=a.part/\zGk a b c d e f
def zHb (a:Prd) (b:WiI) (c:WiI) (d:WiI) (e:Unit->Prop):Prop:=a.part=a.part/\dh a.least/\∃(f:WiI),f.n=a.least/\f.lo=0/\f.hi=4/\(yN f)/\∀(g:Unit),True->zGm a b c d f e
def zHq (a:Prd) (b:WiI) (c:WiI) (d:Unit->Prop):Prop:=a.part=a.part/\dh a.least/\dh a.top/\∃(e:WiI),e.n=a.top/\e.lo=0/\e.hi=9/\(yN e)/\∀(f:Unit),True->zHb a b c e d
def gF (a:Prd):=(kB (zT a) (kN a).toNat)
def yGv (x:Prd):Prop:=
 ∃(a:WiI),a.n=(xE x)/\a.lo=0/\a.hi=3/\(yN a)/\∀(b:Unit),True->∃(c:WiI),c.n=x.tick/\c.lo=0/\c.hi=9/\(yN c)/\∀(d:Unit),True->∃(e:Unit),∃(f:Unit->Prop),((∃(g:WiI),g.n=x.rule/\g.lo=0/\g.hi=2/\(yN g)/\∀(h:Unit),True->dh x.part/\dh x.least/\dh x.top/\(∃(j:WiI),j.n=x.top/\j.lo=0/\j.hi=9/\(yN j)/\∀(k:Unit),True->dh x.part/\dh x.least/\(∃(l:WiI),l.n=x.least/\l.lo=0/\l.hi=4/\(yN l)/\∀(m:Unit),True->dh x.part/\(zGk x c g j l f)/\zGm x c g j l f)/\zHb x c g j f)/\zHq x c g f)/\dh x.part/\dh x.least/\dh x.top/\dh x.rule/\∃(g:WiI),g.n=x.rule/\g.lo=0/\g.hi=2/\(yN g)/\∀(h:Unit),True->zHq x c g f)/\∀(g:Unit),f g->∃(h:WiI),h.n=x.wide/\h.lo=0/\h.hi=60/\(yN h)/\∀(j:Unit),True->∃(k:Nat),(↑k:Int)=0/\dh (sb [(206:UInt8),(169:UInt8)])/\zT x=zT x/\dh ((-20)*zT x)/\dh (100*zT x)/\zT x*(5+zF x.wide 0 60)=aa.wrap (aa.wrap (x9 c)*aa.wrap (5+zF h.n h.lo h.hi))/\1+zF x.rule 0 (2:Int)=(1:Int)+zF x.rule 0 2/\zF x.top 0 9=zF x.top 0 (9:Int)/\(1:Int)+zF x.least 0 (4:Int)=(1:Int)+zF x.least 0 4/\dh (zF x.part 0 100)/\iE (qI k)=[]/\iE (kB (zT x) k)=[]/\∃(l:Nat->Prop),∃(m:Nat->Nat),l k/\∀(n:Nat),l n->cnd (decide ((↑n:Int)<aa.wrap (2+zF a.n a.lo a.hi))) (((iE (qI n)).length+1)*(8:Nat)<=(140737488355328:Nat)/\((iE (kB (zT x) n)).length+1)*(8:Nat)<=(140737488355328:Nat)/\∃(p:Nat),(↑p:Int)=aa.wrap ((↑n:Int)+1)/\dh (sb [(206:UInt8),(169:UInt8)])/\zT x=zT x/\dh ((-20)*zT x)/\dh (100*zT x)/\dh (zT x*(5+zF x.wide 0 60))/\1+zF x.rule 0 (2:Int)=(1:Int)+zF x.rule 0 2/\zF x.top 0 9=zF x.top 0 (9:Int)/\(1:Int)+zF x.least 0 (4:Int)=(1:Int)+zF x.least 0 4/\dh (zF x.part 0 100)/\iE (qI p)=iE (qI n)++[[dI (aa.wrap (aa.wrap (10*(↑n:Int))+3))]]/\iE (kB (zT x) p)=iE (kB (zT x) n)++[[dI (aa.wrap (aa.wrap (x9 c)*aa.wrap (10+(↑n:Int))))]]/\l p/\m p<m n/\zGs x) (∃(p:Unit),dh (sb [(206:UInt8),(169:UInt8)])/\iE (qI (kN x).toNat)=iE (qI n)/\zT x=zT x/\dh ((-20)*zT x)/\dh (100*zT x)/\dh (zT x*(5+zF x.wide 0 60))/\1+zF x.rule 0 (2:Int)=(1:Int)+zF x.rule 0 2/\zF x.top 0 9=zF x.top 0 (9:Int)/\(1:Int)+zF x.least 0 (4:Int)=(1:Int)+zF x.least 0 4/\dh (zF x.part 0 100)/\iE (gF x)=iE (kB (zT x) n)/\True)
def yLd (s:List UInt8) (h:r3prodC.cnd s):z8j s:=by
 have h:s.length<=1099511627776:=h;have hr:=zHk s;unfold z8j cQ tV qC mR dD;refine⟨(0,0),rfl,rfl,rfl,λx=>x.1<=s.length/\x.2+(uU s x.1).length=(kV s).length/\(kV s).all uZ=((uU s x.1).all λy=>uZ y.2),λx=>s.length-x.1,⟨by omega,by rw[kV,y5c];simp,by rw[kV,List.all_map];rfl⟩,?_⟩;rintro⟨p,n⟩ ⟨h1,h2,h3⟩;dsimp only at h1 h2 h3 ⊢;refine Cv.cnd.mk (λhp=> ?_) (λhp=> ?_)
 ·have hp:p<s.length:=by simpa[y8d]using hp
  have hw:=cT s hp;rw[jS hp,y5g]at h2;rw[jS hp,List.all_cons]at h3;generalize hc:(be (sb s) p).1=c at h2 h3 ⊢;generalize hww:(be (sb s) p).2=w at h2 h3 hw ⊢;dsimp only at h3;have g0:∀b:Bool,(b=aq->uZ c=aq)->(b=ar->uZ c=ar)->b=uZ c:=λb e1 e2=>by cases b<;>simp_all
  refine⟨aq,λb=>b= !uZ c,?_,λb hb=> ?_⟩
  ·refine zI (λc1=>zI (λc2=>⟨_,rfl,?_,by(repeat'(first|exact trivial|exact rfl|apply ao))⟩) (λc2=>zI (λc3=>zI (λc4=>⟨_,rfl,?_,by(repeat'(first|exact trivial|exact rfl|apply ao))⟩) (λc4=>⟨_,rfl,?_,by(repeat'(first|exact trivial|exact rfl|apply ao))⟩)) (λc3=>⟨_,rfl,?_,by(repeat'(first|exact trivial|exact rfl|apply ao))⟩))) (λc1=>zI (λc3=>zI (λc4=>⟨_,rfl,?_,by(repeat'(first|exact trivial|exact rfl|apply ao))⟩) (λc4=>⟨_,rfl,?_,by(repeat'(first|exact trivial|exact rfl|apply ao))⟩)) (λc3=>⟨_,rfl,?_,by(repeat'(first|exact trivial|exact rfl|apply ao))⟩))
   all_goals congr 1
   all_goals refine g0 _ (λe=> ?_) (λe=> ?_)
   all_goals first|(simp[uZ]at*;done)|(simp[uZ]at*;omega)
  ·subst hb;refine Cv.cnd.mk (λe=>⟨(),?_,trivial⟩) (λe=>⟨(p+w,n+1),?_,rfl,rfl,⟨hw.2,by(first|omega|(dsimp only;omega)),?_⟩,by(first|omega|(dsimp only;omega)),trivial⟩)
   ·have e:uZ c=ar:=by simpa using e
    rw[wD,h3,e];rfl
   ·rw[w64 (by omega)];rfl
   ·have e:uZ c=aq:=by simpa using e
    rw[h3,e];rfl
 ·have hp:s.length<=p:=by have:=z8m hp;simpa using this
  rw[vO hp]at h2 h3;have h3:(kV s).all uZ=aq:=h3;have hn:n=(kV s).length:=by simpa using h2
  have hne:(s=[])↔(kV s).length=0:=by
   constructor
   ·intro e;subst e;rfl
   ·intro e;cases s with
    |nil=>rfl
    |cons b l=>
     rw[kV,y5c,jS (by simp)]at e;simp at e
  refine zI (λc=>⟨(),?_,trivial⟩) (λc=>⟨(),?_,trivial⟩)
  ·have:¬s=[]:=by rw[hne];omega
   rw[wD,h3,y5s this,hn];simp only[y7z];congr 1;simp only[eq_iff_iff];omega
  ·have:s=[]:=by rw[hne];omega
   rw[wD,this];rfl
def yAu:r3prodC.ok Tryz.prog 171:=okw mixed gok0 0 (λ_=>yOl) (λs=>yKr s) [] Tryz.func171 yLd
def rG:∀(l:List Int) (a:Int),l.foldl min a<=a/\∀x∈l,l.foldl min a<=x
 |[],a=>⟨y8p _,by simp⟩
 |b::l,a=>by
  obtain⟨h1,h2⟩:=rG l (min a b);rw[y8v];refine⟨by omega,λx hx=> ?_⟩;rcases y5w.1 hx with rfl|hx
  ·omega
  ·exact h2 x hx
def sJ:∀(l:List Int) (a:Int),a<=l.foldl max a/\∀x∈l,x<=l.foldl max a
 |[],a=>⟨y8p _,by simp⟩
 |b::l,a=>by
  obtain⟨h1,h2⟩:=sJ l (max a b);rw[y8v];refine⟨by omega,λx hx=> ?_⟩;rcases y5w.1 hx with rfl|hx
  ·omega
  ·exact h2 x hx
def zBm:∀(l:List Int) (a:Int),l.foldl min a=a\/l.foldl min a∈l
 |[],a=> .inl rfl
 |b::l,a=>by
  rw[y8v];rcases zBm l (min a b)with h|h
  ·rcases Int.le_total a b with e|e
   ·left;rw[h];omega
   ·right;rw[h,show min a b=b by omega];exact y5h
  ·exact .inr (y5j _ h)
def zBo:∀(l:List Int) (a:Int),l.foldl max a=a\/l.foldl max a∈l
 |[],a=> .inl rfl
 |b::l,a=>by
  rw[y8v];rcases zBo l (max a b)with h|h
  ·rcases Int.le_total a b with e|e
   ·right;rw[h,show max a b=b by omega];exact y5h
   ·left;rw[h];omega
  ·exact .inr (y5j _ h)
def z8l {l:List Int} {x:Int} (h:x∈l):pZ l<=x:=by
 cases l with
 |nil=>cases h
 |cons a l=>
  rw[pZ,aj,ag];rcases y5w.1 h with rfl|h
  ·exact(rG l x).1
  ·exact(rG l a).2 x h
def z9c {l:List Int} {x:Int} (h:x∈l):x<=tO l:=by
 cases l with
 |nil=>cases h
 |cons a l=>
  rw[tO,aj,ag];rcases y5w.1 h with rfl|h
  ·exact(sJ l x).1
  ·exact(sJ l a).2 x h
def zZk {l:List Int} (h:l≠[]):pZ l∈l:=by
 cases l with
 |nil=>exact absurd rfl h
 |cons a l=>
  rw[pZ,aj,ag];rcases zBm l a with h|h
  ·rw[h];exact y5h
  ·exact y5j _ h
def zWv {l:List Int} (h:l≠[]):tO l∈l:=by
 cases l with
 |nil=>exact absurd rfl h
 |cons a l=>
  rw[tO,aj,ag];rcases zBo l a with h|h
  ·rw[h];exact y5h
  ·exact y5j _ h
def yKh (p:Prd) (h:r5checkC.cnd p):z0h p:=by
 obtain⟨h1,h2,h3⟩:p.small:=h;unfold z0h yY kG tR eU pM uQ bX xE wT dI;simp only[yZ];refine⟨p.code,rfl,h1,λ_ _=>Cv.cnd.mk (λc1=>⟨(),by rw[Prd.check,y5d c1],trivial⟩) λc1=> ?_⟩;have c1:wD p.code=aq:=by simpa using c1
 have e1:p.check=if !xF p.months then 1 else if !qL p then 22 else if qJ p then 23 else if xI p then 1 else if kC p then 31 else if x5 p then 24 else 0:=by
  rw[Prd.check,y5b (by simp[c1])]
 refine⟨aq,λb=>b=(decide (p.months.length<2)||decide (p.months.length>6)),zI (λc=>⟨aq,rfl,?_,by(repeat'(first|exact trivial|exact rfl|apply ao))⟩) (λc=>⟨_,rfl,?_,by(repeat'(first|exact trivial|exact rfl|apply ao))⟩),λb hb=> ?_⟩
 ·rw[y5s (show p.months.length<2 by omega)];rfl
 ·rw[y5q (show ¬p.months.length<2 by omega),xAx];congr 1;simp only[eq_iff_iff];omega
 subst hb;refine Cv.cnd.mk (λc2=> ?_) (λc2=> ?_)
 ·have:xF p.months=ar:=by
   simp only[au,y6p]at c2;rw[xF];rcases c2 with c2|c2
   ·rw[y5q (show ¬2<=p.months.length by omega)];simp
   ·rw[y5q (show ¬p.months.length<=6 by omega)];simp
  exact⟨(),by rw[e1,y5d (by rw[this];rfl)],trivial⟩
 have c2:2<=p.months.length/\p.months.length<=6:=by
  simp only[y9i,decide_eq_false_iff_not]at c2;omega
 have em:xF p.months=(ak p.months.length).all (qQ p.months):=by
  rw[xF,y5s c2.1,y5s c2.2];simp
 refine⟨0,rfl,λj=>j<=p.months.length/\∀k<j,qQ p.months k=aq,λj=>p.months.length-j,⟨by omega,λk hk=>by omega⟩,?_⟩;rintro j ⟨g1,g2⟩;refine zI (λhj=> ?_) (λhj=> ?_)
 ·obtain⟨m,hm⟩:=yC (l:=p.months) (i:=j) (by omega);have hmj:p.months.getD j 0=m:=zU hm;refine⟨aq,λb=>b= !qQ p.months j,⟨⟨by omega,by omega⟩,m,elI hm,zI (λc=>⟨aq,rfl,?_,by(repeat'(first|exact trivial|exact rfl|apply ao))⟩) (λc=>⟨⟨by omega,by omega⟩,m,elI hm,zI (λd=>⟨aq,rfl,?_,by(repeat'(first|exact trivial|exact rfl|apply ao))⟩) (λd=>zI (λe=> ?_) (λe=>⟨ar,rfl,?_,by(repeat'(first|exact trivial|exact rfl|apply ao))⟩))⟩)⟩,λb hb=> ?_⟩
  ·rw[qQ,hmj,y5q (show ¬0<=m by omega)];rfl
  ·rw[qQ,hmj,y5q (show ¬m<=1199 by omega)];simp
  ·obtain⟨m',hm'⟩:=yC (l:=p.months) (i:=j-1) (by omega);rw[w64 (by omega),show((j:Int)-1).toNat=j-1 by omega];refine⟨⟨by omega,by omega⟩,m',elI hm',⟨by omega,by omega⟩,m,elI hm,_,rfl,?_,by(repeat'(first|exact trivial|exact rfl|apply ao))⟩;rw[qQ,hmj,zU hm',y5s (show 0<=m by omega),y5s (show m<=1199 by omega),y5q (show ¬j=0 by omega)];simp only[y7z,xAx];by_cases hlt:m'<m
   ·rw[y5s hlt,y5q (by omega)];rfl
   ·rw[y5q hlt,y5s (by omega)];rfl
  ·rw[qQ,hmj,y5s (show 0<=m by omega),y5s (show m<=1199 by omega),y5s (show j=0 by omega)];rfl
  ·subst hb;refine Cv.cnd.mk (λc=>⟨(),?_,trivial⟩) (λc=>⟨j+1,by rw[w64 (by omega)];rfl,⟨by omega,λk hk=> ?_⟩,by(first|omega|(dsimp only;omega)),by(repeat'(first|exact trivial|exact rfl|apply ao))⟩)
   ·have c:qQ p.months j=ar:=by simpa using c
    rw[e1,y5d (by rw[em,zRa (k:=j) (by omega) c];rfl)]
   ·have c:qQ p.months j=aq:=by simpa using c
    rcases y7k k j with h|h
    ·exact g2 k h
    ·obtain rfl:k=j:=by omega
     exact c
 have em:xF p.months=aq:=by rw[em];exact z0k λk hk=>g2 k (by omega)
 have e2:p.check=if !qL p then 22 else if qJ p then 23 else if xI p then 1 else if kC p then 31 else if x5 p then 24 else 0:=by
  rw[e1,y5b (by simp[em])]
 have et:qL p=((decide (1<=p.tick) && decide (p.tick<=1000) && !qN p.tick p.low && !qN p.tick p.high && !qN p.tick p.wide) && !p.settle.any (qN p.tick)):=rfl;refine⟨aq,λb=>b= !(decide (1<=p.tick) && decide (p.tick<=1000) && !qN p.tick p.low && !qN p.tick p.high && !qN p.tick p.wide),zI (λd1=>⟨aq,rfl,?_,by(repeat'(first|exact trivial|exact rfl|apply ao))⟩) (λd1=>zI (λd2=>⟨aq,rfl,?_,by(repeat'(first|exact trivial|exact rfl|apply ao))⟩) (λd2=>⟨trivial,by omega,Cv.cnd.mk (λd3=>⟨aq,rfl,?_,by(repeat'(first|exact trivial|exact rfl|apply ao))⟩) (λd3=>⟨trivial,by omega,Cv.cnd.mk (λd4=>⟨aq,rfl,?_,by(repeat'(first|exact trivial|exact rfl|apply ao))⟩) (λd4=>⟨trivial,by omega,_,rfl,?_,by(repeat'(first|exact trivial|exact rfl|apply ao))⟩)⟩)⟩)),λb hb=> ?_⟩
 ·rw[y5q (show ¬1<=p.tick by omega)];rfl
 ·rw[y5q (show ¬p.tick<=1000 by omega)];simp
 ·have d3:qN p.tick p.low=aq:=d3;rw[d3];simp
 ·have d4:qN p.tick p.high=aq:=d4;rw[d4];simp
 ·have d3:qN p.tick p.low=ar:=d3;have d4:qN p.tick p.high=ar:=d4;rw[d3,d4,y5s (show 1<=p.tick by omega),y5s (show p.tick<=1000 by omega)];show qN p.tick p.wide=_;simp
 subst hb;refine Cv.cnd.mk (λc3=> ?_) (λc3=> ?_)
 ·have c3:(decide (1<=p.tick) && decide (p.tick<=1000) && !qN p.tick p.low && !qN p.tick p.high && !qN p.tick p.wide)=ar:=by
   rw[y8o]at c3;exact c3
  exact⟨(),by rw[e2,y5d (by rw[et,c3];rfl)],trivial⟩
 have c3:(decide (1<=p.tick) && decide (p.tick<=1000) && !qN p.tick p.low && !qN p.tick p.high && !qN p.tick p.wide)=aq:=by simpa using c3
 have ht1:1<=p.tick:=by
  simp only[y5o,y6p]at c3;exact c3.1.1.1.1
 rw[c3,y7z]at et;refine⟨0,rfl,λj=>j<=p.settle.length/\∀k<j,∀x,p.settle[k]? =az x->qN p.tick x=ar,λj=>p.settle.length-j,⟨by omega,λk hk=>by omega⟩,?_⟩;rintro j ⟨g1,g2⟩;refine zI (λhj=> ?_) (λhj=> ?_)
 ·obtain⟨m,hm⟩:=yC (l:=p.settle) (i:=j) (by omega);refine⟨⟨by omega,by omega⟩,m,elI hm,trivial,by omega,Cv.cnd.mk (λc=>⟨(),?_,trivial⟩) (λc=>⟨j+1,by rw[w64 (by omega)];rfl,⟨by omega,λk hk x hx=> ?_⟩,by(first|omega|(dsimp only;omega)),by(repeat'(first|exact trivial|exact rfl|apply ao))⟩)⟩
  ·have c:qN p.tick m=aq:=c;have:p.settle.any (qN p.tick)=aq:=by rw[List.any_eq_true];exact⟨m,y5m hm,c⟩
   rw[e2,y5d (by rw[et,this];rfl)]
  ·rcases y7k k j with h|h
   ·exact g2 k h x hx
   ·obtain rfl:k=j:=by omega
    rw[hm]at hx;cases hx;exact c
 have et:qL p=aq:=by
  rw[et];have:p.settle.any (qN p.tick)=ar:=by
   rw[xBh];intro x hx;obtain⟨k,hk⟩:=xAo hx;rw[g2 k (by have:=(y5f.1 hk).1;omega) x hk];simp
  rw[this];rfl
 have e3:p.check=if qJ p then 23 else if xI p then 1 else if kC p then 31 else if x5 p then 24 else 0:=by
  rw[e2,y5b (by simp[et])]
 refine⟨aq,λb=>b=qJ p,zI (λd1=>⟨aq,rfl,?_,by(repeat'(first|exact trivial|exact rfl|apply ao))⟩) (λd1=>zI (λd2=>⟨aq,rfl,?_,by(repeat'(first|exact trivial|exact rfl|apply ao))⟩) (λd2=>zI (λd3=>⟨aq,rfl,?_,by(repeat'(first|exact trivial|exact rfl|apply ao))⟩) (λd3=>zI (λd4=>⟨aq,rfl,?_,by(repeat'(first|exact trivial|exact rfl|apply ao))⟩) (λd4=>⟨_,rfl,?_,by(repeat'(first|exact trivial|exact rfl|apply ao))⟩)))),λb hb=> ?_⟩
 ·simp[qJ,d1]
 ·simp[qJ,d2]
 ·simp[qJ,d3]
 ·simp[qJ,d4]
 ·rw[w64 (by omega)];simp[qJ,d1,d2,d3,d4]
 subst hb;refine Cv.cnd.mk (λc4=>⟨(),by rw[e3,y5d c4],trivial⟩) (λc4=> ?_);have e4:p.check=if xI p then 1 else if kC p then 31 else if x5 p then 24 else 0:=by
  rw[e3,y5b (by simp[c4])]
 refine Cv.cnd.mk (λd6=>⟨(),?_,trivial⟩) (λd6=> ?_)
 ·have d6:¬(p.settle.length:Int)=p.months.length:=by simpa using d6
  rw[e4,y5d (by simp[xI];omega)]
 have d6:p.settle.length=p.months.length:=by
  have:(p.settle.length:Int)=p.months.length:=by simpa using d6
  omega
 have hne:p.settle≠[]:=by intro e;rw[e]at d6;simp at d6;omega
 refine⟨0,rfl,λj=>j<=p.settle.length/\∀k<j,∀x,p.settle[k]? =az x->p.low<=x/\x<=p.high,λj=>p.settle.length-j,⟨by omega,λk hk=>by omega⟩,?_⟩;rintro j ⟨g3,g4⟩;refine zI (λhj=> ?_) (λhj=> ?_)
 ·obtain⟨m,hm⟩:=yC (l:=p.settle) (i:=j) (by omega);have hmm:=y5m hm;refine⟨aq,λb=>b=(decide (m<p.low)||decide (m>p.high)),⟨⟨by omega,by omega⟩,m,elI hm,zI (λc=>⟨aq,rfl,?_,by(repeat'(first|exact trivial|exact rfl|apply ao))⟩) (λc=>⟨⟨by omega,by omega⟩,m,elI hm,_,rfl,?_,by(repeat'(first|exact trivial|exact rfl|apply ao))⟩)⟩,λb hb=> ?_⟩
  ·rw[y5s c];rfl
  ·rw[y5q c,xAx]
  ·subst hb;refine Cv.cnd.mk (λc=>⟨(),?_,trivial⟩) (λc=>⟨j+1,by rw[w64 (by omega)];rfl,⟨by omega,λk hk x hx=> ?_⟩,by(first|omega|(dsimp only;omega)),by(repeat'(first|exact trivial|exact rfl|apply ao))⟩)
   ·have l1:=z8l hmm;have l2:=z9c hmm;rw[e4,y5d (by
     simp only[au,y6p]at c;simp only[xI,au,y6p];rcases c with c|c
     ·left;right;omega
     ·right;omega)]
   ·rcases y7k k j with h|h
    ·exact g4 k h x hx
    ·obtain rfl:k=j:=by omega
     rw[hm]at hx;cases hx;simp only[y9i,decide_eq_false_iff_not]at c;omega
 have hset:xI p=ar:=by
  have all:∀x∈p.settle,p.low<=x/\x<=p.high:=λx hx=>by
   obtain⟨k,hk⟩:=xAo hx;exact g4 k (by have:=(y5f.1 hk).1;omega) x hk
  have a1:=all _ (zZk hne);have a2:=all _ (zWv hne);simp only[xI,y9i,decide_eq_false_iff_not];omega
 have e5:p.check=if kC p then 31 else if x5 p then 24 else 0:=by
  rw[e4,y5b (by simp[hset])]
 refine⟨aq,λb=>b=kC p,zI (λd1=>⟨aq,rfl,?_,by(repeat'(first|exact trivial|exact rfl|apply ao))⟩) (λd1=>⟨_,rfl,?_,by(repeat'(first|exact trivial|exact rfl|apply ao))⟩),λb hb=> ?_⟩
 ·simp[kC,d1]
 ·simp[kC,d1]
 subst hb;refine Cv.cnd.mk (λc6=>⟨(),by rw[e5,y5d c6],trivial⟩) (λc6=> ?_);have e6:p.check=if x5 p then 24 else 0:=by rw[e5,y5b (by simp[c6])]
 refine⟨aq,λb=>b=x5 p,zI (λd1=>⟨aq,rfl,?_,by(repeat'(first|exact trivial|exact rfl|apply ao))⟩) (λd1=>zI (λd2=>⟨aq,rfl,?_,by(repeat'(first|exact trivial|exact rfl|apply ao))⟩) (λd2=>zI (λd3=>⟨aq,rfl,?_,by(repeat'(first|exact trivial|exact rfl|apply ao))⟩) (λd3=>zI (λd4=>⟨aq,rfl,?_,by(repeat'(first|exact trivial|exact rfl|apply ao))⟩) (λd4=>zI (λd5=>⟨aq,rfl,?_,by(repeat'(first|exact trivial|exact rfl|apply ao))⟩) (λd5=>⟨_,rfl,?_,by(repeat'(first|exact trivial|exact rfl|apply ao))⟩))))),λb hb=> ?_⟩
 ·simp[x5,d1]
 ·simp[x5,d2]
 ·simp[x5,d3]
 ·simp[x5,d4]
 ·simp[x5,d5]
 ·simp[x5,d1,d2,d3,d4,d5]
 subst hb;exact Cv.cnd.mk (λc7=>⟨(),by rw[e6,y5d c7],trivial⟩) (λc7=>⟨(),by rw[e6,y5b (by simp[c7])],trivial⟩)
def zPq:r5checkC.ok Tryz.prog 143:=okw mixed (gokc yAu gok0) 0 (λ_=>yGd) (λ_=>yEs) [] Tryz.func143 yKh
def nS {p:Prd} (h:p.check=0):p.count=p.months.length+p.months.length*(p.months.length-1) / 2:=by rw[Prd.count,y5d h]
def zPv {p:Prd} (h:p.check≠0):p.count=0:=by rw[Prd.count,y5b h]
def yEl (p:Prd) (h:r5countC.cnd p):zWx p:=by
 have hs:p.small:=h;unfold zWx rY xE z5;simp only[yZ];refine⟨p,rfl,rfl,rfl,rfl,rfl,rfl,rfl,rfl,rfl,rfl,rfl,hs,λ_ _=>Cv.cnd.mk (λc=>⟨(),?_,trivial⟩) (λc=>⟨trivial,by decide,(),?_,trivial⟩)⟩
 ·rw[zPv (by simpa using c)];rfl
 ·have c:p.check=0:=by simpa using c
  have m6:=(kD c).m6;have m2:=(kD c).m2;rw[nS c];generalize p.months.length=n at*;have:n=2\/n=3\/n=4\/n=5\/n=6:=by omega
  rcases this with rfl|rfl|rfl|rfl|rfl<;>decide
def z4d:r5countC.ok Tryz.prog 102:=okw mixed (gokc zPq gok0) 0 (λ_=>[]) (λ_=>[]) [] Tryz.func102 yEl
def yHj:∀n≤6,∀a<n,∀b<n-1-a,kP n (yJ n a+b) n 0=((a:Int),((a+1+b:Nat):Int),aq)/\yJ n a+b<n+n*(n-1) / 2/\n<=yJ n a+b:=by decide
def yAn:∀n≤6,yJ n n=n+n*(n-1) / 2:=by decide
def yPl {p:Prd} (h:p.check=0) {a b:Nat} (ha:a<p.months.length) (hb:b<p.months.length-1-a):p.legs ((yJ p.months.length a+b:Nat):Int)=((a:Int),((a+1+b:Nat):Int),aq):=by
 obtain⟨h1,h2,h3⟩:=yHj _ (kD h).m6 a ha b hb;rw[Prd.legs,y5b (by rw[nS h];omega),y5b (by omega),y5u];exact h1
def yOn (i:cM) (h:r5legsC.cnd i):z7c i:=by
 have hs:i.p.small:=h;unfold z7c gV zGb pV vB uG l7 fC z5 dI;simp only[yZ];refine⟨i.p,rfl,rfl,rfl,rfl,rfl,rfl,rfl,rfl,rfl,rfl,rfl,hs,λ_ _=>Cv.cnd.mk (λc=> ?_) (λc=>zI (λc1=> ?_) (λc1=>zI (λc2=> ?_) (λc2=> ?_)))⟩
 ·rw[Prd.legs,y5d (by rw[zPv (by simpa using c)];omega)];(repeat'(first|exact rfl|exact trivial|assumption|apply ao|refineλ(_:Unit) (_:True)=>?_|refine ap () ?_|omega|(dsimp only;omega)))
 ·rw[Prd.legs,y5d (.inl c1)];(repeat'(first|exact rfl|exact trivial|assumption|apply ao|refineλ(_:Unit) (_:True)=>?_|refine ap () ?_|omega|(dsimp only;omega)))
 ·have c:i.p.check=0:=by simpa using c
  rw[Prd.legs,y5b (by rw[nS c];omega),y5d c2];(repeat'(first|exact rfl|exact trivial|assumption|apply ao|refineλ(_:Unit) (_:True)=>?_|refine ap () ?_|omega|(dsimp only;omega)))
 ·have c:i.p.check=0:=by simpa using c
  have m6:=(kD c).m6;obtain⟨k,hk⟩:∃k:Nat,i.n=k:=⟨i.n.toNat,by omega⟩
  have sp:=λ(a b:Nat) ha hb=>yPl (p:=i.p) c (a:=a) (b:=b) ha hb
  have fe:=yAn _ m6;have out:i.p.count<=k->i.p.legs (k:Int)=(0,0,ar):=λe=>by rw[Prd.legs,y5d (by omega)]
  rw[nS c,<- fe]at out;rw[hk]at c2 ⊢;generalize hn:i.p.months.length=n at*;refine⟨0,rfl,rfl,λm=>m<=n/\yJ n m<=k,λm=>n-m,⟨by omega,by show n<=k;omega⟩,?_⟩;rintro m ⟨g1,g2⟩;have hf:=zLy m6 g1;refine zI (λc4=> ?_) (λc4=> ?_)
  ·refine⟨(m,0),rfl,rfl,by rw[w64 (by omega)];simp,λx=>x.1=m/\x.2<=n-1-m/\yJ n m+x.2<=k,λx=>n-1-m-x.2,⟨rfl,by(first|omega|(dsimp only;omega)),by(first|omega|(dsimp only;omega))⟩,?_⟩;rintro⟨a,b⟩ ⟨g3,g4,g5⟩;dsimp only at g3 g4 g5 ⊢;subst g3;refine zI (λc5=>Cv.cnd.mk (λe=> ?_) (λe=> ?_)) (λc5=> ?_)
   ·have e:((yJ n a+b:Nat):Int)=(k:Int):=by simpa using e
    have:=sp a b (by omega) (by omega);rw[e]at this;rw[this];(repeat'(first|exact rfl|exact trivial|assumption|apply ao|refineλ(_:Unit) (_:True)=>?_|refine ap () ?_|omega|(dsimp only;omega)))
   ·have e:¬((yJ n a+b:Nat):Int)=(k:Int):=by simpa using e
    refine⟨(a,b+1),?_,rfl,?_,⟨rfl,by(first|omega|(dsimp only;omega)),by(first|omega|(dsimp only;omega))⟩,by(first|omega|(dsimp only;omega)),by(repeat'(first|exact trivial|exact rfl|apply ao))⟩
    ·rw[w64 (by omega)];dsimp only;omega
    ·rw[w64 (by omega)];dsimp only;omega
   ·refine⟨a+1,?_,by rw[w64 (by omega)];rfl,⟨by omega,?_⟩,by(first|omega|(dsimp only;omega)),by(repeat'(first|exact trivial|exact rfl|apply ao))⟩
    ·rw[yJ];omega
    ·rw[yJ];omega
  ·obtain rfl:m=n:=by omega
   rw[out g2];(repeat'(first|exact rfl|exact trivial|assumption|apply ao|refineλ(_:Unit) (_:True)=>?_|refine ap () ?_|omega|(dsimp only;omega)))
def yCs:r5legsC.ok Tryz.prog 103:=okw mixed (gokc zPq gok0) 0 (λ_=>[]) (λi=>yMv i) [] Tryz.func103 yOn
def zDz (x:Prd):1<=zT x/\zT x<=10:=by
 have:=yS (n:=x.tick) (lo:=0) (hi:=9) (by omega);rw[zT];omega
def yJm (x:Prd):2<=kN x/\kN x<=5:=by
 have:=yS (n:=(x.months.length:Int)) (lo:=0) (hi:=3) (by omega);rw[kN];omega
def eW {a b m n:Int} (ha:0<=a/\a<=m) (hb:0<=b/\b<=n):0<=a*b/\a*b<=m*n:=by
 refine⟨xBk ha.1 hb.1,?_⟩;exact Int.le_trans (Int.mul_le_mul_of_nonneg_right ha.2 hb.1) (y9y hb.2 (by omega))
def zUg (j:Nat):iE (qI (j+1))=iE (qI j)++[[D.v (.int .i64 (10*(j:Int)+3))]]:=by
 rw[qI,y9l,y5l,iE,y5l];rfl
def zTs (t:Int) (j:Nat):iE (kB t (j+1))=iE (kB t j)++[[D.v (.int .i64 (t*(10+(j:Int))))]]:=by
 rw[kB,y9l,y5l,iE,y5l];rfl
def tU (j:Nat):(qI j).length=j:=by simp[qI]
def mW (t:Int) (j:Nat):(kB t j).length=j:=by simp[kB]
def ySo (x:Prd) (h:kprodC.cnd x):yGv x:=by
 obtain⟨h1,h2,h3,h4,h5,h6,h7⟩:x.raw:=h;have hw: -1000000<=(0:Int):=by decide
 have bt:=yS (n:=x.tick) (lo:=0) (hi:=9) (by omega);have bw:=yS (n:=x.wide) (lo:=0) (hi:=60) (by omega);have br:=yS (n:=x.rule) (lo:=0) (hi:=2) (by omega);have bl:=yS (n:=x.least) (lo:=0) (hi:=4) (by omega);have bn:=yS (n:=(x.months.length:Int)) (lo:=0) (hi:=3) (by omega);have kt:=zDz x;have kn:=yJm x;have w1:aa.wrap (1+zF x.tick 0 9)=zT x:=w64 (by omega);have w2:aa.wrap (-20*aa.wrap (1+zF x.tick 0 9))= -20*zT x:=by rw[w1];exact w64 (by omega)
 have w3:aa.wrap (100*aa.wrap (1+zF x.tick 0 9))=100*zT x:=by rw[w1];exact w64 (by omega)
 have w4:aa.wrap (1+zF x.rule 0 2)=1+zF x.rule 0 2:=w64 (by omega);have w5:aa.wrap (1+zF x.least 0 4)=1+zF x.least 0 4:=w64 (by omega);have w6:aa.wrap (2+zF x.months.length 0 3)=kN x:=w64 (by omega);have mb:=eW (a:=zT x) (b:=5+zF x.wide 0 60) (m:=10) (n:=65) (by omega) (by omega);have w7:aa.wrap (aa.wrap (1+zF x.tick 0 9)*aa.wrap (5+zF x.wide 0 60))=zT x*(5+zF x.wide 0 60):=by
  rw[w1,w64 (x:=5+zF x.wide 0 60) (by omega)];exact w64 (by omega)
 unfold yGv gF zHq zHb zGm zGk zGs pM uQ bX kM vN x9 yN xE dI;simp only[yZ];refine⟨⟨x.months.length,0,3⟩,rfl,rfl,rfl,⟨⟨by dsimp only;omega,by dsimp only;omega⟩,by dsimp only;omega,by dsimp only;omega,by dsimp only;omega⟩,λ_ _=>⟨⟨x.tick,0,9⟩,rfl,rfl,rfl,⟨h1,by dsimp only;omega,by dsimp only;omega,by dsimp only;omega⟩,λ_ _=> ?_⟩⟩;dsimp only;refine⟨(),λ_=>True,?_,λ_ _=> ?_⟩
 ·repeat'(first|exact trivial|exact rfl|exact w1.symm|exact w2.symm|exact w3.symm|exact w4.symm|exact w5.symm|apply ao|refine⟨⟨x.rule,0,2⟩,rfl,rfl,rfl,⟨h3,by dsimp only;omega,by dsimp only;omega,by dsimp only;omega⟩,λ_ _=> ?_⟩|refine⟨⟨x.top,0,9⟩,rfl,rfl,rfl,⟨h4,by dsimp only;omega,by dsimp only;omega,by dsimp only;omega⟩,λ_ _=> ?_⟩|refine⟨⟨x.least,0,4⟩,rfl,rfl,rfl,⟨h5,by dsimp only;omega,by dsimp only;omega,by dsimp only;omega⟩,λ_ _=> ?_⟩|refine⟨⟨x.part,0,100⟩,rfl,rfl,rfl,⟨h6,by dsimp only;omega,by dsimp only;omega,by dsimp only;omega⟩,λ_ _=> ?_⟩|refine⟨(),?_⟩)
 ·refine⟨⟨x.wide,0,60⟩,rfl,rfl,rfl,⟨h2,by dsimp only;omega,by dsimp only;omega,by dsimp only;omega⟩,λ_ _=> ?_⟩;dsimp only;rw[w7,w6];refine⟨0,by(first|exact rfl|exact trivial),by(first|exact rfl|exact trivial),by(first|exact rfl|exact trivial),by(first|exact rfl|exact trivial),by(first|exact rfl|exact trivial),by(first|exact rfl|exact trivial),by(first|exact rfl|exact trivial),by(first|exact rfl|exact trivial),by(first|exact rfl|exact trivial),by(first|exact rfl|exact trivial),by(first|exact rfl|exact trivial),by(first|exact rfl|exact trivial),λj=>j<=(kN x).toNat,λj=>(kN x).toNat-j,by omega,?_⟩;intro j hj;rw[tU,mW];refine zI (λc=>⟨by omega,by omega,j+1,by rw[w64 (by omega)];rfl,by(first|exact rfl|exact trivial),by(first|exact rfl|exact trivial),by(first|exact rfl|exact trivial),by(first|exact rfl|exact trivial),by(first|exact rfl|exact trivial),by(first|exact rfl|exact trivial),by(first|exact rfl|exact trivial),by(first|exact rfl|exact trivial),by(first|exact rfl|exact trivial),?_,?_,by(first|omega|(dsimp only;omega)),by(first|omega|(dsimp only;omega)),by(repeat'(first|exact trivial|exact rfl|apply ao))⟩) (λc=>⟨(),?_⟩)
  ·rw[zUg,w64 (x:=10*(j:Int)) (by omega),w64 (by omega)]
  ·have mj:=eW (a:=zT x) (b:=10+(j:Int)) (m:=10) (n:=20) (by omega) (by omega);rw[zTs,w1,w64 (x:=10+(j:Int)) (by omega),w64 (by omega)]
  ·have e:(kN x).toNat=j:=by omega
   rw[e];(repeat'(first|exact trivial|exact rfl|apply ao))
def kprod_ok:kprodC.ok Tryz.prog 8:=okw mixed (gokc within_ok gok0) 0 (λx=>yUa x) (λx=>yTq x) [] Tryz.func8 ySo
structure Cmd where
 kind:Int
 id:Int
 inst:Int
 side:Int
 price:Int
 qty:Int
 least:Int
 time:Int
 label:List UInt8
 deriving DecidableEq
@[reducible] def Cmd.cells (c:Cmd):List V:=[zA c.kind,zA c.id,zA c.inst,zA c.side,zA c.price,zA c.qty,zA c.least,zA c.time,sV c.label]
@[reducible] def zGd (c:Cmd):V:= .agg c.cells
def cmdE (c:Cmd):List D:=[.v (.int .i64 c.kind),.v (.int .i64 c.id),.v (.int .i64 c.inst),.v (.int .i64 c.side),.v (.int .i64 c.price),.v (.int .i64 c.qty),.v (.int .i64 c.least),.v (.int .i64 c.time),.v (.string (sb c.label))]
def zTq:Cmd:=⟨0,0,0,0,0,0,0,0,[]⟩
@[reducible] def Cmd.raw (c:Cmd):Prop:=i64r c.kind/\i64r c.id/\i64r c.inst/\i64r c.side/\i64r c.price/\i64r c.qty/\i64r c.least/\i64r c.time
structure TmI where
 p:Prd
 c:Cmd
 i:Int
def vS (c:Cmd):Int:=if 4<1+zF c.kind 0 8 then 1 else 1+zF c.kind 0 8
def y3 (t:TmI):Cmd:=⟨vS t.c,1+zF t.c.id 0 30,zF t.c.inst 0 (t.p.count-1),1+zF t.c.side 0 1,t.p.tick*zF t.c.price 0 9,1+zF t.c.qty 0 11,0,0,[]⟩
def fL (c:Cmd):Int:=if c.time.tmod 5=3 then 3 else if c.time.tmod 5=2 then 2 else 1
def cG (c:Cmd) (q:Int):Int:=if c.least.tmod 4=1 then zF c.least 0 q else 0
def xB (t:TmI):Cmd:=
 let h:=y3 t
 if h.kind=1 then{h with id:=t.i+1,time:=fL t.c,least:=cG t.c h.qty,price:=if(t.p.legs h.inst).2.2=aq then h.price-4*t.p.tick else h.price+8*t.p.tick}
 else{h with price:=if h.kind=4 then h.price+5*t.p.tick else h.price,side:=0,inst:=0}
def tameC:Con:=con1 TmI (λt=>[prdV t.p,zGd t.c,zA t.i]) (λ_=>[]) (λt=>t.p.check=0/\t.p.small/\t.c.raw/\0<=t.i/\t.i<=1000000) (λt=>zGd (xB t)) (λ_=>[])
def cj (k:Nat):Nat×SAnn:=(k,{ι:=Cmd,slots:=λ_=>[(7,.nm 0 0)],slots0:=λ_=>[(7,.nm 0 0)],rows0:=λc=>[.cells c.cells 44],rows:=λc=>[.cells c.cells 44]})
def y1z:List (Nat×SAnn):=[cj 14,cj 54,cj 62,cj 70]
def zFr (a:Cmd) (b:Cmd) (c:Cmd->Prop) (d:TmI):Prop:=sb a.label=sb b.label/\c a/\dh (av (Sx.V.agg [V.d (dI 0),V.d (dI 0),V.d (dI 0),V.d (dI 0),V.d (dI 0),V.d (dI 0),V.d (dI 0),V.d (dI 0),V.d kM]).cl 44)/\dh (av [V.d (dI d.c.kind),V.d (dI d.c.id),V.d (dI d.c.inst),V.d (dI d.c.side),V.d (dI d.c.price),V.d (dI d.c.qty),V.d (dI d.c.least),V.d (dI d.c.time),V.d (D.v (ba (sb d.c.label)))] 44)/\dh (av [V.d (D.v (ba (sb d.p.code))),V.own 0,V.d (dI d.p.tick),V.d (dI d.p.low),V.d (dI d.p.high),V.d (dI d.p.wide),V.d (dI d.p.rule),V.d (dI d.p.top),V.d (dI d.p.least),V.d (dI d.p.part),V.own 1] 25)/\dh (ax 1 (iE d.p.settle))/\dh (ax 1 (iE d.p.months))
def zOf (a:Cmd) (b:Cmd) (c:Cmd->Prop) (d:TmI):Prop:=a.time=b.time/\zFr a b c d
def zOi (a:Cmd) (b:Cmd) (c:Cmd->Prop) (d:TmI):Prop:=a.id=b.id/\a.inst=b.inst/\a.side=b.side/\a.price=b.price/\a.qty=b.qty/\a.least=b.least/\zOf a b c d
def lB (a:Cmd) (b:Cmd->Prop) (c:TmI):Prop:=∃(d:Cmd),d.kind=a.kind/\zOi d a b c
def zIr (a:TmI) (b:WiI) (c:Cmd):Prop:=(xB a).qty=aa.wrap (x9 b)/\(xB a).least=c.least/\(xB a).time=c.time/\sb (xB a).label=sb c.label/\True
def zGx (a:TmI) (b:Cmd):Prop:=(xB a).qty=b.qty/\(xB a).least=b.least/\(xB a).time=b.time/\sb (xB a).label=sb b.label/\True
def yRy (t:TmI):Prop:=
 ∃(a:WiI),a.n=t.c.kind/\a.lo=0/\a.hi=8/\(yN a)/\∀(b:Unit),True->∃(c:WiI),c.n=t.c.id/\c.lo=0/\c.hi=30/\(yN c)/\∀(d:Unit),True->∃(e:Cmd),e.kind=aa.wrap (x9 a)/\e.id=aa.wrap (x9 c)/\e.inst=0/\e.side=0/\e.price=0/\e.qty=0/\e.least=0/\e.time=0/\sb e.label=ByteArray.mk #[]/\∃(f:Cmd->Prop),cnd (decide (e.kind>4)) (∃(g:Cmd),g.kind=1/\zOi g e f t) (lB e f t)/\∀(g:Cmd),f g->∃(h:Prd),sb h.code=sb t.p.code/\iE h.months=iE t.p.months/\h.tick=t.p.tick/\h.low=t.p.low/\h.high=t.p.high/\h.wide=t.p.wide/\h.rule=t.p.rule/\h.top=t.p.top/\h.least=t.p.least/\h.part=t.p.part/\iE h.settle=iE t.p.settle/\(z5 h)/\∀(j:Unit),True->∃(k:WiI),k.n=t.c.inst/\k.lo=0/\k.hi=aa.wrap ((↑h.count:Int)-1)/\(yN k)/\∀(l:Unit),True->∃(m:WiI),m.n=t.c.side/\m.lo=0/\m.hi=1/\(yN m)/\∀(n:Unit),True->∃(p:WiI),p.n=t.c.qty/\p.lo=0/\p.hi=11/\(yN p)/\∀(q:Unit),True->∃(r:WiI),r.n=t.c.price/\r.lo=0/\r.hi=9/\(yN r)/\∀(s:Unit),True->dh t.p.tick/\cnd (g.kind==1) (∃(u:Cmd),u.kind=g.kind/\u.id=aa.wrap (t.i+1)/\u.inst=zF k.n k.lo k.hi/\u.side=aa.wrap (x9 m)/\u.price=aa.wrap (t.p.tick*zF r.n r.lo r.hi)/\u.qty=aa.wrap (x9 p)/\u.least=g.least/\u.time=1/\sb u.label=sb g.label/\∃(v:Cmd->Prop),(aa=aa/\(5:Int)≠(0:Int)/\cnd (t.c.time.tmod (5:Int)==(2:Int)) (∃(w:Cmd),w.kind=u.kind/\w.id=u.id/\w.inst=u.inst/\w.side=u.side/\w.price=u.price/\w.qty=u.qty/\w.least=u.least/\w.time=2/\zFr w u v t) (lB u v t))/\∀(w:Cmd),v w->∃(x:Cmd),x.kind=w.kind/\x.id=w.id/\x.inst=w.inst/\x.side=w.side/\x.price=w.price/\x.qty=w.qty/\x.least=w.least/\x.time=w.time/\sb x.label=sb w.label/\∃(y:Cmd->Prop),(aa=aa/\(5:Int)≠(0:Int)/\cnd (t.c.time.tmod (5:Int)==(3:Int)) (∃(z:Cmd),z.kind=x.kind/\z.id=x.id/\z.inst=x.inst/\z.side=x.side/\z.price=x.price/\z.qty=x.qty/\z.least=x.least/\z.time=3/\zFr z x y t) (lB x y t))/\∀(z:Cmd),y z->∃(a_1:Cmd),a_1.kind=z.kind/\a_1.id=z.id/\a_1.inst=z.inst/\a_1.side=z.side/\a_1.price=z.price/\a_1.qty=z.qty/\a_1.least=z.least/\a_1.time=z.time/\sb a_1.label=sb z.label/\∃(a_2:Cmd->Prop),(aa=aa/\(4:Int)≠(0:Int)/\cnd (t.c.least.tmod (4:Int)==(1:Int)) (∃(a_3:WiI),a_3.n=t.c.least/\a_3.lo=0/\a_3.hi=a_1.qty/\(yN a_3)/\∀(a_4:Unit),True->∃(a_5:Cmd),a_5.kind=a_1.kind/\a_5.id=a_1.id/\a_5.inst=a_1.inst/\a_5.side=a_1.side/\a_5.price=a_1.price/\a_5.qty=a_1.qty/\a_5.least=zF a_3.n a_3.lo a_3.hi/\zOf a_5 a_1 a_2 t) (lB a_1 a_2 t))/\∀(a_3:Cmd),a_2 a_3->∃(a_4:cM),sb a_4.p.code=sb t.p.code/\iE a_4.p.months=iE t.p.months/\a_4.p.tick=t.p.tick/\a_4.p.low=t.p.low/\a_4.p.high=t.p.high/\a_4.p.wide=t.p.wide/\a_4.p.rule=t.p.rule/\a_4.p.top=t.p.top/\a_4.p.least=t.p.least/\a_4.p.part=t.p.part/\iE a_4.p.settle=iE t.p.settle/\a_4.n=a_3.inst/\(jF a_4)/\∀(a_5:Unit),True->cnd (!(a_4.p.legs a_4.n).snd.snd) (∃(a_6:Unit),(xB t).kind=a_3.kind/\(xB t).id=a_3.id/\(xB t).inst=a_3.inst/\(xB t).side=a_3.side/\(xB t).price=aa.wrap (a_3.price+aa.wrap (8*t.p.tick))/\zGx t a_3) (∃(a_6:Unit),(xB t).kind=a_3.kind/\(xB t).id=a_3.id/\(xB t).inst=a_3.inst/\(xB t).side=a_3.side/\(xB t).price=aa.wrap (a_3.price-aa.wrap (4*t.p.tick))/\zGx t a_3)) (cnd (g.kind==4) (∃(u:Unit),(xB t).kind=g.kind/\(xB t).id=g.id/\(xB t).inst=0/\(xB t).side=0/\(xB t).price=aa.wrap (aa.wrap (t.p.tick*zF r.n r.lo r.hi)+aa.wrap (5*t.p.tick))/\zIr t p g) (∃(u:Unit),(xB t).kind=g.kind/\(xB t).id=g.id/\(xB t).inst=0/\(xB t).side=0/\(xB t).price=aa.wrap (t.p.tick*zF r.n r.lo r.hi)/\zIr t p g))
def yZa (t:TmI) (h:tameC.cnd t):yRy t:=by
 obtain⟨hc,hs,⟨r1,r2,r3,r4,r5,r6,r7,r8⟩,i0,i1⟩:t.p.check=0/\t.p.small/\t.c.raw/\0<=t.i/\t.i<=1000000:=h;have ok:=kD hc;have t1:=ok.t1;have t2:=ok.t2;have m2:=ok.m2;have hcl:=xK t.p;have hcd:=nS hc;have bk:=yS (n:=t.c.kind) (lo:=0) (hi:=8) (by omega);have bi:=yS (n:=t.c.id) (lo:=0) (hi:=30) (by omega);have bs:=yS (n:=t.c.side) (lo:=0) (hi:=1) (by omega);have bq:=yS (n:=t.c.qty) (lo:=0) (hi:=11) (by omega);have bp:=yS (n:=t.c.price) (lo:=0) (hi:=9) (by omega);have mb:=eW (a:=t.p.tick) (b:=zF t.c.price 0 9) (m:=1000) (n:=9) (by omega) (by omega);have wp:aa.wrap (t.p.tick*zF t.c.price 0 9)=t.p.tick*zF t.c.price 0 9:=w64 (by omega);unfold yRy lB zOi zOf zFr kM zGx zIr x9 yN z5 jF dI;refine⟨⟨t.c.kind,0,8⟩,rfl,rfl,rfl,⟨r1,by dsimp only;omega,by dsimp only;omega,by dsimp only;omega⟩,λ_ _=>⟨⟨t.c.id,0,30⟩,rfl,rfl,rfl,⟨r2,by dsimp only;omega,by dsimp only;omega,by dsimp only;omega⟩,λ_ _=> ?_⟩⟩;dsimp only;rw[w64 (x:=1+zF t.c.kind 0 8) (by omega),w64 (x:=1+zF t.c.id 0 30) (by omega)];refine⟨⟨1+zF t.c.kind 0 8,1+zF t.c.id 0 30,0,0,0,0,0,0,[]⟩,rfl,rfl,rfl,rfl,rfl,rfl,rfl,rfl,rfl,λc=>c=⟨vS t.c,1+zF t.c.id 0 30,0,0,0,0,0,0,[]⟩,zI (λe=>⟨⟨vS t.c,1+zF t.c.id 0 30,0,0,0,0,0,0,[]⟩,?_,rfl,rfl,rfl,rfl,rfl,rfl,rfl,rfl,rfl,by(repeat'(first|exact trivial|exact rfl|apply ao))⟩) (λe=>⟨⟨vS t.c,1+zF t.c.id 0 30,0,0,0,0,0,0,[]⟩,?_,rfl,rfl,rfl,rfl,rfl,rfl,rfl,rfl,rfl,by(repeat'(first|exact trivial|exact rfl|apply ao))⟩),λc hcc=> ?_⟩
 ·dsimp only at e ⊢;rw[vS,y5d (by omega)]
 ·dsimp only at e ⊢;rw[vS,y5b (by omega)]
 subst hcc;refine⟨t.p,rfl,rfl,rfl,rfl,rfl,rfl,rfl,rfl,rfl,rfl,rfl,hs,λ_ _=> ?_⟩;rw[w64 (x:=(t.p.count:Int)-1) (by omega)];refine⟨⟨t.c.inst,0,(t.p.count:Int)-1⟩,rfl,rfl,rfl,⟨r3,by dsimp only;omega,by dsimp only;omega,by dsimp only;omega⟩,λ_ _=>⟨⟨t.c.side,0,1⟩,rfl,rfl,rfl,⟨r4,by dsimp only;omega,by dsimp only;omega,by dsimp only;omega⟩,λ_ _=>⟨⟨t.c.qty,0,11⟩,rfl,rfl,rfl,⟨r6,by dsimp only;omega,by dsimp only;omega,by dsimp only;omega⟩,λ_ _=>⟨⟨t.c.price,0,9⟩,rfl,rfl,rfl,⟨r5,by dsimp only;omega,by dsimp only;omega,by dsimp only;omega⟩,λ_ _=>⟨rfl,?_⟩⟩⟩⟩⟩;dsimp only;rw[wp,w64 (x:=1+zF t.c.side 0 1) (by omega),w64 (x:=1+zF t.c.qty 0 11) (by omega),w64 (x:=t.i+1) (by omega)];refine Cv.cnd.mk (λk=> ?_) (λk=> ?_)
 ·have k:vS t.c=1:=by simpa using k
  refine⟨{y3 t with id:=t.i+1,time:=1},rfl,rfl,rfl,rfl,rfl,rfl,rfl,rfl,rfl,λc=>c={y3 t with id:=t.i+1,time:=if t.c.time.tmod 5=2 then 2 else 1},⟨rfl,by decide,Cv.cnd.mk (λe=>⟨{y3 t with id:=t.i+1,time:=2},rfl,rfl,rfl,rfl,rfl,rfl,rfl,rfl,rfl,?_,by(repeat'(first|exact trivial|exact rfl|apply ao))⟩) (λe=>⟨{y3 t with id:=t.i+1,time:=1},rfl,rfl,rfl,rfl,rfl,rfl,rfl,rfl,rfl,?_,by(repeat'(first|exact trivial|exact rfl|apply ao))⟩)⟩,λc hcc=> ?_⟩
  ·have e:t.c.time.tmod 5=2:=by simpa using e
   rw[y5d e]
  ·have e:¬t.c.time.tmod 5=2:=by simpa using e
   rw[y5b e]
  subst hcc;refine⟨{y3 t with id:=t.i+1,time:=if t.c.time.tmod 5=2 then 2 else 1},rfl,rfl,rfl,rfl,rfl,rfl,rfl,rfl,rfl,λc=>c={y3 t with id:=t.i+1,time:=fL t.c},⟨rfl,by decide,Cv.cnd.mk (λe=>⟨{y3 t with id:=t.i+1,time:=3},rfl,rfl,rfl,rfl,rfl,rfl,rfl,rfl,rfl,?_,by(repeat'(first|exact trivial|exact rfl|apply ao))⟩) (λe=>⟨{y3 t with id:=t.i+1,time:=if t.c.time.tmod 5=2 then 2 else 1},rfl,rfl,rfl,rfl,rfl,rfl,rfl,rfl,rfl,?_,by(repeat'(first|exact trivial|exact rfl|apply ao))⟩)⟩,λc hcc=> ?_⟩
  ·have e:t.c.time.tmod 5=3:=by simpa using e
   rw[fL,y5d e]
  ·have e:¬t.c.time.tmod 5=3:=by simpa using e
   rw[fL,y5b e]
  subst hcc;have hq:(y3 t).qty=1+zF t.c.qty 0 11:=rfl;refine⟨{y3 t with id:=t.i+1,time:=fL t.c},rfl,rfl,rfl,rfl,rfl,rfl,rfl,rfl,rfl,λc=>c={y3 t with id:=t.i+1,time:=fL t.c,least:=cG t.c (y3 t).qty},⟨rfl,by decide,Cv.cnd.mk (λe=>⟨⟨t.c.least,0,(y3 t).qty⟩,rfl,rfl,rfl,⟨r7,by dsimp only;omega,by dsimp only;omega,by dsimp only;omega⟩,λ_ _=>⟨{y3 t with id:=t.i+1,time:=fL t.c,least:=zF t.c.least 0 (y3 t).qty},rfl,rfl,rfl,rfl,rfl,rfl,rfl,rfl,rfl,?_,by(repeat'(first|exact trivial|exact rfl|apply ao))⟩⟩) (λe=>⟨{y3 t with id:=t.i+1,time:=fL t.c},rfl,rfl,rfl,rfl,rfl,rfl,rfl,rfl,rfl,?_,by(repeat'(first|exact trivial|exact rfl|apply ao))⟩)⟩,λc hcc=> ?_⟩
  ·have e:t.c.least.tmod 4=1:=by simpa using e
   rw[cG,y5d e]
  ·have e:¬t.c.least.tmod 4=1:=by simpa using e
   rw[cG,y5b e];rfl
  subst hcc;refine⟨⟨t.p,(y3 t).inst⟩,rfl,rfl,rfl,rfl,rfl,rfl,rfl,rfl,rfl,rfl,rfl,rfl,hs,λ_ _=> ?_⟩;dsimp only;have hp:(y3 t).price=t.p.tick*zF t.c.price 0 9:=rfl;have hk1:(y3 t).kind=1:=k;rw[w64 (x:=8*t.p.tick) (by omega),w64 (x:=4*t.p.tick) (by omega),w64 (x:=(y3 t).price+8*t.p.tick) (by omega),w64 (x:=(y3 t).price-4*t.p.tick) (by omega)];refine Cv.cnd.mk (λe=>⟨(),?_⟩) (λe=>⟨(),?_⟩)
  ·have e:(t.p.legs (y3 t).inst).2.2=ar:=by simpa using e
   have:xB t={y3 t with id:=t.i+1,time:=fL t.c,least:=cG t.c (y3 t).qty,price:=(y3 t).price+8*t.p.tick}:=by
    simp only[xB,hk1,if_true,e,y5v,if_false]
   rw[this];(repeat'(first|exact trivial|exact rfl|apply ao))
  ·have e:(t.p.legs (y3 t).inst).2.2=aq:=by simpa using e
   have:xB t={y3 t with id:=t.i+1,time:=fL t.c,least:=cG t.c (y3 t).qty,price:=(y3 t).price-4*t.p.tick}:=by
    simp only[xB,hk1,if_true,e]
   rw[this];(repeat'(first|exact trivial|exact rfl|apply ao))
 ·have k:¬vS t.c=1:=by simpa using k
  have k:¬(y3 t).kind=1:=k;rw[w64 (x:=5*t.p.tick) (by omega),w64 (x:=t.p.tick*zF t.c.price 0 9+5*t.p.tick) (by omega)];have et:xB t={y3 t with price:=if(y3 t).kind=4 then(y3 t).price+5*t.p.tick else(y3 t).price,side:=0,inst:=0}:=by
   simp only[xB,k,if_false]
  rw[et];refine Cv.cnd.mk (λe=>⟨(),?_⟩) (λe=>⟨(),?_⟩)
  ·have e:vS t.c=4:=by simpa using e
   have e:(y3 t).kind=4:=e;simp only[y5d e];(repeat'(first|exact trivial|exact rfl|apply ao))
  ·have e:¬vS t.c=4:=by simpa using e
   have e:¬(y3 t).kind=4:=e;simp only[y5b e];(repeat'(first|exact trivial|exact rfl|apply ao))
def yOt:tameC.ok Tryz.prog 45:=okw mixed (gokc within_ok (gokc z4d (gokc yCs gok0))) 0 (λ_=>y1z) (λ_=>[]) [] Tryz.func45 yZa
structure ShI where
 a:Int
 b:Int
 c:Int
def add64C:Con:=con1 ShI (λi=>[lK i.a,lK i.b,lK i.c]) (λ_=>[]) (λi=>0<=i.a/\0<=i.b/\0<=i.c/\i.c<=1) (λi=> .tup [lK ((i.a+i.b+i.c) % 18446744073709551616),lK ((i.a+i.b+i.c) / 18446744073709551616)]) (λ_=>[])
def yBz {P : Program} {f : FuncId} {fn : Func} (hf : P.funcs[f]? = some fn) (hname : (fn.name == "runtime.NumGoroutine") = false) (hb : fn.body.isNone = true) (hn : Extern.findNext fn = none) (he : Extern.find fn = some add64Entry) : add64C.ok P f := by
 intro i hc k L E w ys R hv;obtain⟨h1,h2,h3,h4⟩:0<=i.a/\0<=i.b/\0<=i.c/\i.c<=1:=hc;simp only[add64C,con1,VRL,VR,DR]at hv;obtain⟨_,_,rfl,⟨rfl,_⟩,_,_,rfl,⟨rfl,_⟩,_,_,rfl,⟨rfl,_⟩,rfl⟩:=hv;unfold Does;rw[run_callFunc_extern hf hname hb hn he,run_add64 i.a i.b i.c h1 h2 h3 h4];simp only[Result.andThen];refine⟨_,y6r.2 rfl,(),trivial,E,Ev.le.refl _,?_,R⟩;simp only[add64C,con1,VR,VRL,DR];exact⟨_,rfl,_,_,rfl,⟨rfl,rfl⟩,_,_,rfl,⟨rfl,rfl⟩,rfl⟩
def yAr:add64C.ok Tryz.prog 233:=by
 refine yBz (P:=Tryz.prog) (f:=233) (fn:=Tryz.f233) Tryz.func233 ?_ ?_ ?_ ?_
 ·kernel_rfl
 ·kernel_rfl
 ·kernel_rfl
 ·kernel_rfl
structure M2 where
 a:Int
 b:Int
def mul64C:Con:=con1 M2 (λi=>[lK i.a,lK i.b]) (λ_=>[]) (λi=>0<=i.a/\i.a<=2000000000/\0<=i.b/\i.b<=2000000000) (λi=> .tup [lK 0,lK (i.a*i.b)]) (λ_=>[])
def div64C:Con:=con1 M2 (λi=>[lK 0,lK i.a,lK i.b]) (λ_=>[]) (λi=>0<=i.a/\i.a<=4000000000000000000/\1<=i.b/\i.b<=2000000000) (λi=> .tup [lK (i.a / i.b),lK (i.a % i.b)]) (λ_=>[])
def ishareC:Con:=con1 ShI (λi=>[zA i.a,zA i.b,zA i.c]) (λ_=>[]) (λi=>0<=i.a/\i.a<=2000000000/\0<=i.b/\i.b<=2000000000/\1<=i.c/\i.c<=2000000000) (λi=> .tup [zA (i.a*i.b / i.c),yP aq]) (λ_=>[])
def isumC:Con:=con1 (List Int) (λl=>[iV l]) (λ_=>[]) (λl=>l.length<=1000/\∀x∈l,0<=x/\x<=1000000) (λl=> .tup [zA l.sum,yP aq]) (λ_=>[])
def y0q (l:List Int):List SAnn:=[{ι:=Nat,slots:=λj=>[(4,lK (l.take j).sum),(5,zA 0),(11,zA j)],rows:=λ_=>[]}]
structure LqI where
 l:List Int
 q:Int
def yU (l:List Int) (q:Int):Bool:=decide (l.length<=250) && decide (0<=q) && l.all (λn=>decide (1<=n) && decide (n<=1000000)) && decide (q<=l.sum)
def rightC:Con:=con1 LqI (λi=>[iV i.l,zA i.q]) (λ_=>[]) (λi=>i.l.length<=1000000/\i64r i.q) (λi=>yP (yU i.l i.q)) (λ_=>[])
def yXr (i:LqI):List SAnn:=[{ι:=Nat,slots:=λj=>[(5,zA (i.l.take j).sum),(17,zA j)],rows:=λ_=>[]}]
def uR:List Int->Int->List Int
 |[],_=>[]
 |n::l,q=>min n q::uR l (q-min n q)
def hY (l:List Int) (q:Int):List Int:=if yU l q=aq then uR l q else[]
def fifoC:Con:=con1 LqI (λi=>[iV i.l,zA i.q]) (λ_=>[]) (λi=>i.l.length<=1000000/\i64r i.q) (λ_=> .own 0) (λi=>[.own 2 1 (iE (hY i.l i.q))])
def y0g (i:LqI):List SAnn:=[{ι:=Nat,slots:=λj=>[(5,.own 0),(1,zA (i.q-((uR i.l i.q).take j).sum)),(15,zA j)],rows:=λj=>[.own 2 1 (iE ((uR i.l i.q).take j))]}]
def zCy (a:M2):=(ab.wrap (ab.wrap (mL ab a.a 32*zCc ab a.b 4294967295)+mL ab (ab.wrap (zCc ab a.a 4294967295*zCc ab a.b 4294967295)) 32))
def yCy (i:M2):Prop:=
 (0:Int)<=(32:Int)/\(0:Int)<=(32:Int)/\(0:Int)<=(32:Int)/\(0:Int)<=(32:Int)/\(0:Int)<=(32:Int)/\∃(a:Unit),0=ab.wrap (ab.wrap (ab.wrap (mL ab i.a 32*mL ab i.b 32)+mL ab (zCy i) 32)+mL ab (ab.wrap (zCc ab (zCy i) 4294967295+ab.wrap (zCc ab i.a 4294967295*mL ab i.b 32))) 32)/\i.a*i.b=ab.wrap (i.a*i.b)/\True
def yGc (i:M2):Prop:=
 cnd (i.b==0) False (cnd (decide (i.b<=0)) False (ab=ab/\i.b≠0/\ab=ab/\i.b≠0/\∃(a:Unit),i.a / i.b=ab.wrap (i.a.tdiv i.b)/\i.a % i.b=i.a.tmod i.b/\True))
def z9f (i:ShI):Prop:=
 cnd (decide (i.a<0)) (∃(a:Unit),i.a*i.b / i.c=0/\aq=ar/\True) (cnd (decide (i.b<0)) (∃(a:Unit),i.a*i.b / i.c=0/\aq=ar/\True) (cnd (decide (i.c<1)) (∃(a:Unit),i.a*i.b / i.c=0/\aq=ar/\True) (∃(a:M2),a.a=ab.wrap i.a/\a.b=ab.wrap i.b/\(0<=a.a/\a.a<=(2000000000:Int)/\(0:Int)<=a.b/\a.b<=2000000000)/\∀(b:Unit),True->cnd (decide (0>=ab.wrap i.c)) (∃(c:Unit),i.a*i.b / i.c=0/\aq=ar/\True) (∃(c:M2),dh ((0:Int))/\c.a=a.a*a.b/\c.b=ab.wrap i.c/\(0<=c.a/\c.a<=(4000000000000000000:Int)/\(1:Int)<=c.b/\c.b<=2000000000)/\∀(d:Unit),True->cnd (decide (c.a / c.b>9223372036854775807)) (∃(e:Unit),i.a*i.b / i.c=0/\aq=ar/\True) (∃(e:Unit),i.a*i.b / i.c=aa.wrap (c.a / c.b)/\aq=aq/\True)))))
def yQe (l:List Int):Prop:=
 ∃(a:Nat),(ae a l).sum=(0:Int)/\(0:Int)=0/\(↑a:Int)=0/\∃(b:Nat->Prop),∃(c:Nat->Nat),b a/\∀(d:Nat),b d->cnd (decide ((↑d:Int)<(↑(iE l).length:Int))) ((0<=(↑d:Int)/\(↑d:Int)<(↑(iE l).length:Int))/\∃(e:Int),zE (iE l) (↑d:Int).toNat 0 1=az [dI e]/\∃(f:ShI),f.a=(ae d l).sum/\f.b=ab.wrap e/\f.c=0/\(0<=f.a/\0<=f.b/\0<=f.c/\f.c<=1)/\∀(g:Unit),True->(0:Int)<=(63:Int)/\∃(h:Nat),(ae h l).sum=(f.a+f.b+f.c) % (18446744073709551616:Int)/\(0:Int)=aa.wrap (0+aa.wrap (mL aa e 63+aa.wrap ((f.a+f.b+f.c) / (18446744073709551616:Int))))/\kO h d b c) ((0:Int)<=(63:Int)/\cnd (0 !=mL aa (aa.wrap (ae d l).sum) 63) (∃(e:Unit),l.sum=0/\aq=ar/\True) (∃(e:Unit),l.sum=aa.wrap (ae d l).sum/\aq=aq/\True))
def yDw (i:LqI):Prop:=
 cnd (decide ((↑(iE i.l).length:Int)>250)) (∃(a:Unit),yU i.l i.q=ar/\True) (cnd (decide (i.q<0)) (∃(a:Unit),yU i.l i.q=ar/\True) (∃(a:Nat),(ae a i.l).sum=0/\(↑a:Int)=0/\∃(b:Nat->Prop),∃(c:Nat->Nat),b a/\∀(d:Nat),b d->cnd (decide ((↑d:Int)<(↑(iE i.l).length:Int))) ((0<=(↑d:Int)/\(↑d:Int)<(↑(iE i.l).length:Int))/\∃(e:Int),zE (iE i.l) (↑d:Int).toNat 0 1=az [dI e]/\cnd (decide (e<1)) (∃(f:Unit),yU i.l i.q=ar/\True) (cnd (decide (e>1000000)) (∃(f:Unit),yU i.l i.q=ar/\True) (∃(f:Nat),(ae f i.l).sum=aa.wrap ((ae d i.l).sum+e)/\kO f d b c))) (∃(e:Unit),yU i.l i.q=decide (i.q<=(ae d i.l).sum)/\True)))
def j6 (a:LqI):Prop:=a.l.length<=(1000000:Nat)/\(-9223372036854775808:Int)<=a.q/\a.q<=9223372036854775807
def j8 (a:Nat) (b:LqI):=(ae a (uR b.l b.q))
def yRx (i:LqI):Prop:=
 ∃(a:LqI),iE a.l=iE i.l/\a.q=i.q/\(j6 a)/\∀(b:Unit),True->cnd (!yU a.l a.q) (∃(c:Unit),iE (hY i.l i.q)=[]/\True) (∃(c:Nat),i.q-(j8 c i).sum=i.q/\(↑c:Int)=0/\iE (j8 c i)=[]/\∃(d:Nat->Prop),∃(e:Nat->Nat),d c/\∀(f:Nat),d f->cnd (decide ((↑f:Int)<(↑(iE i.l).length:Int))) ((0<=(↑f:Int)/\(↑f:Int)<(↑(iE i.l).length:Int))/\∃(g:Int),zE (iE i.l) (↑f:Int).toNat 0 1=az [dI g]/\((iE (j8 f i)).length+1)*(8:Nat)<=(140737488355328:Nat)/\∃(h:Nat),i.q-(j8 h i).sum=aa.wrap (i.q-(j8 f i).sum-min g (i.q-(j8 f i).sum))/\(↑h:Int)=aa.wrap ((↑f:Int)+1)/\iE (j8 h i)=iE (j8 f i)++[[dI (min g (i.q-(j8 f i).sum))]]/\d h/\e h<e f/\True) (∃(g:Unit),iE (hY i.l i.q)=iE (j8 f i)/\True))
def zTt {x:Int} (h0:0<=x) (h1:x<4294967296):zCc .u64 x 4294967295=x:=by
 have e:zCc .u64 x 4294967295=ab.wrap ((BitVec.ofInt 64 x &&& BitVec.ofInt 64 4294967295).toNat:Int):=rfl;obtain⟨n,rfl⟩:=Int.eq_ofNat_of_zero_le h0;have hn:n<4294967296:=by omega
 rw[e,BitVec.toNat_and,BitVec.ofInt_natCast,BitVec.toNat_ofNat,show(BitVec.ofInt 64 4294967295).toNat=2 ^ 32-1 by decide,Nat.and_two_pow_sub_one_eq_mod];rw[show n % 2 ^ 64 % 2 ^ 32=n by omega,zDf (by omega)]
def zKu {x:Int} (h0:0<=x) (h1:x<4294967296):mL .u64 x 32=0:=by
 have:=zFg .u64 x 32 (by decide);rw[show((32:Nat):Int)=32 by rfl]at this;rw[this];omega
def z9m {a b m n:Int} (ha:0<=a/\a<=m) (hb:0<=b/\b<=n):0<=a*b/\a*b<=m*n:=
 ⟨xBk ha.1 hb.1,Int.mul_le_mul ha.2 hb.2 hb.1 (by omega)⟩
def yTs (i:M2) (h:mul64C.cnd i):yCy i:=by
 obtain⟨h1,h2,h3,h4⟩:0<=i.a/\i.a<=2000000000/\0<=i.b/\i.b<=2000000000:=h;have hm:=z9m ⟨h1,h2⟩ ⟨h3,h4⟩;have hs:mL ab (i.a*i.b) 32=(i.a*i.b) / 4294967296:=by
  have:=zFg .u64 (i.a*i.b) 32 (by decide);rw[show((32:Nat):Int)=32 by rfl]at this;exact this
 unfold yCy zCy;refine⟨by decide,by decide,by decide,by decide,by decide,(),?_,?_,trivial⟩
 ·rw[zTt h1 (by omega),zTt h3 (by omega),zKu h1 (by omega),zKu h3 (by omega),zDf (x:=i.a*i.b) (by omega),hs];simp only[Int.zero_mul,Int.mul_zero,Int.zero_add,Int.add_zero];rw[zDf (x:=0) (by omega)];simp only[Int.zero_add,Int.add_zero];rw[zDf (x:=i.a*i.b / 4294967296) (by omega),zKu (x:=i.a*i.b / 4294967296) (by omega) (by omega),zTt (x:=i.a*i.b / 4294967296) (by omega) (by omega),zDf (x:=i.a*i.b / 4294967296) (by omega),zKu (x:=i.a*i.b / 4294967296) (by omega) (by omega)];rfl
 ·rw[zDf (by omega)]
def yFh:mul64C.ok Tryz.prog 227:=okw mixed gok0 0 (λ_=>[]) (λ_=>[]) [] Tryz.func227 yTs
def yUk (i:M2) (h:div64C.cnd i):yGc i:=by
 obtain⟨h1,h2,h3,h4⟩:0<=i.a/\i.a<=4000000000000000000/\1<=i.b/\i.b<=2000000000:=h;unfold yGc;have hd:0<=i.a / i.b/\i.a / i.b<=i.a:=⟨Int.ediv_nonneg h1 (by omega),Int.ediv_le_self _ h1⟩
 refine Cv.cnd.mk (λc=>absurd (eq_of_beq c) (by omega)) (λ_=>zI (λc=>by omega) (λ_=>⟨rfl,by omega,rfl,by omega,(),?_,?_,trivial⟩))
 ·rw[Int.tdiv_eq_ediv_of_nonneg h1,zDf (by omega)]
 ·rw[Int.tmod_eq_emod_of_nonneg h1]
def yDg:div64C.ok Tryz.prog 228:=okw mixed gok0 0 (λ_=>[]) (λ_=>[]) [] Tryz.func228 yUk
def yLg (i:ShI) (h:ishareC.cnd i):z9f i:=by
 obtain⟨h1,h2,h3,h4,h5,h6⟩:0<=i.a/\i.a<=2000000000/\0<=i.b/\i.b<=2000000000/\1<=i.c/\i.c<=2000000000:=h;have hm:=z9m ⟨h1,h2⟩ ⟨h3,h4⟩;have hd:0<=i.a*i.b / i.c/\i.a*i.b / i.c<=i.a*i.b:=⟨Int.ediv_nonneg hm.1 (by omega),Int.ediv_le_self _ hm.1⟩
 unfold z9f;rw[zDf (x:=i.a) (by omega),zDf (x:=i.b) (by omega),zDf (x:=i.c) (by omega)];refine zI (λc=>by omega) (λ_=>zI (λc=>by omega) (λ_=>zI (λc=>by omega) (λ_=>⟨⟨i.a,i.b⟩,rfl,rfl,⟨h1,h2,h3,h4⟩,λ_ _=>zI (λc=>by omega) (λ_=>⟨⟨i.a*i.b,i.c⟩,rfl,rfl,rfl,⟨hm.1,by dsimp only;omega,h5,h6⟩,λ_ _=>zI (λc=>by dsimp only at c;omega) (λ_=>⟨(),?_,rfl,trivial⟩)⟩)⟩)));rw[w64 (by dsimp only;omega)]
def zQt:ishareC.ok Tryz.prog 223:=okw mixed (gokc yFh (gokc yDg gok0)) 0 (λ_=>[]) (λ_=>[]) [] Tryz.func223 yLg
def wjn {j:Nat} (h:j<=1000000):((j+1:Nat):Int)=aa.wrap ((j:Int)+1):=by rw[w64 (by omega)];rfl
def jV {l:List Int} {j:Nat} {x:Int} (h:l[j]? =az x):(l.take (j+1)).sum=(l.take j).sum+x:=by
 rw[y6m,h];simp
def jO {l:List Int} (h:∀x∈l,0<=x/\x<=1000000):∀j:Nat,0<=(l.take j).sum/\(l.take j).sum<=1000000*j
 |0=>by simp
 |j+1=>by
  have ih:=jO h j;cases hx:l[j]? with
  |none=>
   have:l.take (j+1)=l.take j:=by
    rw[y6m,hx];simp
   rw[this];omega
  |some x=>
   have:=h x (y5m hx);rw[jV hx];omega
def yYp (l:List Int) (h:isumC.cnd l):yQe l:=by
 obtain⟨hl,hb⟩:l.length<=1000/\∀x∈l,0<=x/\x<=1000000:=h;unfold yQe kO dI;simp only[yZ];refine⟨0,by(first|exact rfl|exact trivial),by(first|exact rfl|exact trivial),by(first|exact rfl|exact trivial),λj=>j<=l.length,λj=>l.length-j,y6i _,λj hj=>zI (λc=> ?_) (λc=> ?_)⟩
 ·have hj':j<l.length:=by omega
  obtain⟨x,hx⟩:=yC (l:=l) (i:=j) hj';have bx:=hb x (y5m hx);have bs:=jO hb j;refine⟨⟨by omega,by omega⟩,x,elI hx,⟨(l.take j).sum,x,0⟩,rfl,by rw[zDf (by omega)],rfl,⟨bs.1,bx.1,by dsimp only;omega,by dsimp only;omega⟩,λ_ _=>⟨by decide,j+1,?_,?_,wjn (by omega),hj',by dsimp only;omega,trivial⟩⟩
  ·rw[jV hx];dsimp only;omega
  ·have e:mL aa x 63=x / 9223372036854775808:=by
    have:=zFg .i64 x 63 (by decide);rw[show((63:Nat):Int)=63 by rfl]at this;exact this
   dsimp only;rw[e,show x / 9223372036854775808=0 by omega,show((l.take j).sum+x+0) / 18446744073709551616=0 by omega];rfl
 ·have hj':j=l.length:=by omega
  subst hj';have bs:=jO hb l.length;rw[y7y]at bs;have e:mL aa l.sum 63=l.sum / 9223372036854775808:=by
   have:=zFg .i64 l.sum 63 (by decide);rw[show((63:Nat):Int)=63 by rfl]at this;exact this
  rw[y7y,w64 (x:=l.sum) (by omega),e,show l.sum / 9223372036854775808=0 by omega];exact⟨by decide,Cv.cnd.mk (λc=>absurd c (by decide)) (λ_=>⟨(),by(first|exact rfl|exact trivial),by(first|exact rfl|exact trivial),trivial⟩)⟩
def yOi:isumC.ok Tryz.prog 230:=okw mixed (gokc yAr gok0) 0 (λ_=>[]) (λl=>y0q l) [] Tryz.func230 yYp
def yXa (i:LqI) (h:rightC.cnd i):yDw i:=by
 obtain⟨hl,hq⟩:i.l.length<=1000000/\i64r i.q:=h;unfold yDw kO dI;simp only[yZ];refine zI (λc=>⟨(),?_,trivial⟩) (λc1=>zI (λc=>⟨(),?_,trivial⟩) (λc2=> ?_))
 ·rw[yU,y5q (by omega:¬i.l.length<=250)];rfl
 ·rw[yU,y5q (by omega:¬0<=i.q)];simp
 refine⟨0,by(first|exact rfl|exact trivial),by(first|exact rfl|exact trivial),λj=>j<=i.l.length/\∀k<j,∀x,i.l[k]? =az x->1<=x/\x<=1000000,λj=>i.l.length-j,⟨y6i _,λk hk=>absurd hk (Nat.not_lt_zero k)⟩,λj hj=>zI (λc=> ?_) (λc=> ?_)⟩
 ·obtain⟨hj0,hjb⟩:=hj;have hj':j<i.l.length:=by omega
  obtain⟨x,hx⟩:=yC (l:=i.l) (i:=j) hj';have bad (hn:¬(1<=x/\x<=1000000)):yU i.l i.q=ar:=by
   have:(i.l.all λn=>decide (1<=n) && decide (n<=1000000))=ar:=by
    rw[List.all_eq_false];exact⟨x,y5m hx,by simpa using hn⟩
   rw[yU,this];simp
  have bs:0<=(i.l.take j).sum/\(i.l.take j).sum<=1000000*j:=by
   have:=jO (l:=i.l.take j) (λy hy=>by
    obtain⟨k,hk⟩:=y7s.1 hy;have hkj:k<j:=by
     have:=(y5f.1 hk).1;rw[y5t]at this;omega
    rw[List.getElem?_take_of_lt hkj]at hk;have:=hjb k hkj y hk;omega) j
   rwa [xBi,Nat.min_self]at this
  refine⟨⟨by omega,by omega⟩,x,elI hx,zI (λd=>⟨(),bad (by omega),trivial⟩) (λd=>zI (λe=>⟨(),bad (by omega),trivial⟩) (λe=>⟨j+1,?_,wjn (by omega),⟨hj',λk hk y hy=> ?_⟩,by dsimp only;omega,trivial⟩))⟩
  ·rw[jV hx,w64 (by omega)]
  ·by_cases hkj:k=j
   ·rw[hkj,hx]at hy;cases hy;omega
   ·exact hjb k (by omega) y hy
 ·obtain⟨hj0,hjb⟩:=hj;have hj':j=i.l.length:=by omega
  subst hj';have:(i.l.all λn=>decide (1<=n) && decide (n<=1000000))=aq:=by
   rw[y8h];intro y hy;obtain⟨k,hk⟩:=y7s.1 hy;have:=hjb k ((y5f.1 hk).1) y hk;simpa using this
  refine⟨(),?_,trivial⟩;rw[yU,this,y5s (by omega:i.l.length<=250),y5s (by omega:0<=i.q),y7y];rfl
def zEm:rightC.ok Tryz.prog 221:=okw mixed gok0 0 (λ_=>[]) (λi=>yXr i) [] Tryz.func221 yXa
def jE {l:List Int} {q:Int} (h:yU l q=aq):l.length<=250/\0<=q/\(∀x∈l,1<=x/\x<=1000000)/\q<=l.sum:=by
 simp only[yU,y5o,y6p,y8h]at h;exact⟨h.1.1.1,h.1.1.2,h.1.2,h.2⟩
def zLa {l:List Int} {q:Int} (h:yU l q=aq):q<=250000000:=by
 obtain⟨h1,h2,h3,h4⟩:=jE h;have:=jO (l:=l) (λx hx=>by have:=h3 x hx;omega) l.length;rw[y7y]at this;omega
def eQ:∀(l:List Int) (q:Int),(uR l q).length=l.length
 |[],_=>rfl
 |n::l,q=>by rw[uR,y5g,y5g,eQ l]
def zOu:∀(l:List Int) (q:Int) (j:Nat) (n:Int),l[j]? =az n->(uR l q)[j]? =az (min n (q-((uR l q).take j).sum))
 |[],_,_,_,h=>by simp at h
 |m::l,q,0,n,h=>by simp at h;subst h;simp[uR]
 |m::l,q,j+1,n,h=>by
  rw[y7b]at h;rw[uR,y7b,zOu l _ j n h,y6l,y6s];congr 2;omega
def zHm:∀(l:List Int) (q:Int) (j:Nat),0<=q->(∀x∈l,0<=x)->0<=q-((uR l q).take j).sum/\q-((uR l q).take j).sum<=q
 |[],q,j,h,_=>by simp[uR,h]
 |m::l,q,0,h,_=>by simp[h]
 |m::l,q,j+1,h,hb=>by
  have hm:=hb m y5h;have:=zHm l (q-min m q) j (by omega) (λx hx=>hb x (y5j _ hx));rw[uR,y6l,y6s];omega
def yZc (i:LqI) (h:fifoC.cnd i):yRx i:=by
 obtain⟨hl,hq⟩:i.l.length<=1000000/\i64r i.q:=h;unfold yRx j8 j6 dI;refine⟨i,rfl,rfl,⟨hl,hq⟩,λ_ _=>Cv.cnd.mk (λc=> ?_) (λc=> ?_)⟩
 ·have c:yU i.l i.q=ar:=by simpa using c
  refine⟨(),?_,trivial⟩;rw[hY,y5b (by rw[c];decide)];rfl
 have c:yU i.l i.q=aq:=by simpa using c
 obtain⟨h1,h2,h3,h4⟩:=jE c;have hq2:=zLa c;have h3':∀x∈i.l,0<=x:=λx hx=>by have:=h3 x hx;omega
 simp only[yZ];refine⟨0,by simp,rfl,rfl,λj=>j<=i.l.length,λj=>i.l.length-j,y6i _,λj hj=>zI (λd=> ?_) (λd=> ?_)⟩
 ·have hj':j<i.l.length:=by omega
  obtain⟨x,hx⟩:=yC (l:=i.l) (i:=j) hj';have bx:=h3 x (y5m hx);have g:=zOu i.l i.q j x hx;have r:=zHm i.l i.q j h2 h3';refine⟨⟨by omega,by omega⟩,x,elI hx,by rw[y5t];omega,j+1,?_,wjn (by omega),?_,hj',by dsimp only;omega,trivial⟩
  ·rw[jV g,w64 (by omega)];omega
  ·rw[y6m,g];simp[iE]
 ·have hj':j=i.l.length:=by omega
  subst hj';refine⟨(),?_,trivial⟩;rw[hY,y5d c,y5n (by rw[eQ];omega)]
def z8o:fifoC.ok Tryz.prog 210:=okw mixed (gokc zEm gok0) 0 (λ_=>[]) (λi=>y0g i) [] Tryz.func210 yZc
structure Ent where
 slot:Int
 id:Int
 qty:Int
 top:Bool
 deriving DecidableEq
def y0t:Ent:=⟨0,0,0,ar⟩
def zKi (e:Ent):List D:=[.v (.int .i64 e.slot),.v (.int .i64 e.id),.v (.int .i64 e.qty),.v (.bool e.top)]
@[reducible] def y2y (e:Ent):V:= .agg [zA e.slot,zA e.id,zA e.qty,yP e.top]
def Slot.ent (s:Slot):Ent:=⟨s.n,s.id,s.qty,s.top⟩
def Arena.slotAt (a:Arena) (k:Nat):Slot:=a.slots.getD k slot0
def Arena.getF (a:Arena) (n:Int):Ent×Bool:=if a.usedAt n=aq then((a.slotAt n.toNat).ent,aq)else(y0t,ar)
def agetC:Con:=con1 ArN (λi=>[.nm 0 0,zA i.n]) (λi=>[jU i.a]) (λi=>i.a.slots.length<=1000000) (λi=> .tup [y2y (i.a.getF i.n).1,yP (i.a.getF i.n).2]) (λi=>[jU i.a])
def zZw (sl:List Slot):Int->List Nat->Prop
 |at_,[]=>at_= -1
 |at_,k::l=>at_=k/\k<sl.length/\zZw sl (sl.getD k slot0).back l
structure ArL where
 a:Arena
 n:Int
 l:List Nat
def tK (l:List Nat) (j:Nat):Int:=match l[j]? with
 |some k=>k
 |none=> -1
def Arena.ents (a:Arena) (l:List Nat):List Ent:=l.map λk=>(a.slotAt k).ent
structure Arena.listOk (a:Arena) (n:Int) (l:List Nat):Prop where
 len:l.length<=1000000
 ch:if 0<=n/\n<a.queues.length then zZw a.slots (a.queues.getD n.toNat aH).first l else l=[]
def alistC:Con:=con1 ArL (λi=>[.nm 0 0,zA i.n]) (λi=>[jU i.a]) (λi=>i.a.listOk i.n i.l) (λ_=> .own 1) (λi=>[jU i.a,.own 247 4 ((i.a.ents i.l).map zKi)])
def ySx (i:ArL):List SAnn:=[{ι:=Nat,slots:=λj=>[(5,.own 0),(6,zA (tK i.l j))],rows:=λj=>[.own 247 4 ((i.a.ents (i.l.take j)).map zKi)]}]
structure TkI where
 a:Arena
 n:Int
 qty:Int
def Arena.dropF (a:Arena) (k:Nat):Arena:=
 let s:=a.slotAt k
 let q:=a.queues.getD s.queue.toNat aH
 let sl1:=if s.ahead= -1 then a.slots else a.slots.modify s.ahead.toNat λx=>{x with back:=s.back}
 let sl2:=if s.back= -1 then sl1 else sl1.modify s.back.toNat λx=>{x with ahead:=s.ahead}
 ⟨sl2.set k slot0,a.queues.set s.queue.toNat ⟨if s.ahead= -1 then s.back else q.first,if s.back= -1 then s.ahead else q.last,q.total,aa.wrap (q.count-1)⟩,aa.wrap (a.free+1)⟩
def Arena.less (a:Arena) (k:Nat) (qty:Int):Arena:=
 {a with slots:=a.slots.modify k λs=>{s with qty:=s.qty-qty},queues:=a.queues.modify (a.slotAt k).queue.toNat λq=>{q with total:=aa.wrap (q.total-qty)}}
def Arena.takeF (a:Arena) (n qty:Int):Arena×Int:=
 if a.usedAt n=ar then(a,26)else if qty<1\/(a.slotAt n.toNat).qty<qty then(a,24)
 else if(a.slotAt n.toNat).qty=qty then((a.less n.toNat qty).dropF n.toNat,0)else(a.less n.toNat qty,0)
def Arena.okAt (a:Arena):Prop:=a.slots.length<=1000000/\∀(k:Nat) (s:Slot),a.slots[k]? =az s->s.used=aq->(0<=s.queue/\s.queue<a.queues.length)/\s.qty<=1000000/\(s.ahead= -1\/(0<=s.ahead/\s.ahead<a.slots.length/\s.ahead≠k))/\(s.back= -1\/(0<=s.back/\s.back<a.slots.length/\s.back≠k))
def atakeC:Con:=con1 TkI (λi=>[.nm 0 0,zA i.n,zA i.qty]) (λi=>[jU i.a]) (λi=>i.a.okAt) (λi=>zA (i.a.takeF i.n i.qty).2) (λi=>[jU (i.a.takeF i.n i.qty).1])
def zAn (a:ArN):Prop:=∃(b:Unit),(a.a.getF a.n).fst.slot=0/\(a.a.getF a.n).fst.id=0/\(a.a.getF a.n).fst.qty=0/\(a.a.getF a.n).fst.top=ar/\(a.a.getF a.n).snd=ar/\jR a
def yQi (i:ArN):Prop:=
 cnd (decide (i.n<0)) (zAn i) (cnd (decide (i.n>=(↑(ac zR i.a.slots).length:Int))) (zAn i) ((0<=i.n/\i.n<(↑(ac zR i.a.slots).length:Int))/\∃(a:Bool),zE (ac zR i.a.slots) i.n.toNat 0 1=az [D.v (.bool a)]/\cnd (!a) (zAn i) ((0<=i.n/\i.n<(↑(ac zR i.a.slots).length:Int))/\∃(b:Int),∃(c:Int),∃(d:Int),∃(e:Bool),zE (ac zR i.a.slots) i.n.toNat 1 4=az [dI b,dI c,dI d,D.v (.bool e)]/\∃(f:Unit),(i.a.getF i.n).fst.slot=b/\(i.a.getF i.n).fst.id=c/\(i.a.getF i.n).fst.qty=d/\(i.a.getF i.n).fst.top=e/\(i.a.getF i.n).snd=aq/\jR i)))
def zBw (a:ArL):Prop:=∃(b:Unit),dh a.a.free/\dh (ac zR a.a.slots)/\dh (ac zO a.a.queues)/\ac zKi (a.a.ents a.l)=[]/\True
def yIh (i:ArL):Prop:=
 cnd (decide (i.n>=0)) (cnd (!decide (i.n<(↑(ac zO i.a.queues).length:Int))) (zBw i) ((0<=i.n/\i.n<(↑(ac zO i.a.queues).length:Int))/\∃(a:Int),zE (ac zO i.a.queues) i.n.toNat 0 1=az [dI a]/\∃(b:Nat),tK i.l b=a/\ac zKi (i.a.ents (ae b i.l))=[]/\∃(c:Nat->Prop),∃(d:Nat->Nat),c b/\∀(e:Nat),c e->cnd (tK i.l e !=(-1)) ((0<=tK i.l e/\tK i.l e<(↑(ac zR i.a.slots).length:Int))/\∃(f:Int),∃(g:Int),∃(h:Int),∃(j:Bool),zE (ac zR i.a.slots) (tK i.l e).toNat 1 4=az [dI f,dI g,dI h,D.v (.bool j)]/\((ac zKi (i.a.ents (ae e i.l))).length+1)*(32:Nat)<=(140737488355328:Nat)/\(0<=tK i.l e/\tK i.l e<(↑(ac zR i.a.slots).length:Int))/\∃(k:Int),zE (ac zR i.a.slots) (tK i.l e).toNat 7 1=az [dI k]/\∃(l:Nat),tK i.l l=k/\ac zKi (i.a.ents (ae l i.l))=ac zKi (i.a.ents (ae e i.l))++[[dI f,dI g,dI h,D.v (.bool j)]]/\c l/\d l<d e/\dh (av [V.own 1,V.own 2,V.d (dI i.a.free)] (280:TypeId))/\dh (aw 273 8 (ac zR i.a.slots))/\dh (aw 283 4 (ac zO i.a.queues))) (∃(f:Unit),dh i.a.free/\dh (ac zR i.a.slots)/\dh (ac zO i.a.queues)/\ac zKi (i.a.ents i.l)=ac zKi (i.a.ents (ae e i.l))/\True))) (zBw i)
def zCg (a:TkI):Prop:=(a.a.takeF a.n a.qty).fst.free=a.a.free/\ac zR (a.a.takeF a.n a.qty).fst.slots=ac zR a.a.slots/\ac zO (a.a.takeF a.n a.qty).fst.queues=ac zO a.a.queues/\True
def pW (a:TkI):Prop:=∃(b:Unit),(a.a.takeF a.n a.qty).snd=26/\zCg a
def zDp (a:TkI):Prop:=∃(b:Unit),(a.a.takeF a.n a.qty).snd=24/\zCg a
def wS (a:TkI) (b:Int) (c:Int):=(zX (ac zO a.a.queues) b.toNat 2 [dI (aa.wrap (c-a.qty))])
def dP (a:TkI) (b:Int) (c:Int) (d:Int) (e:Int):=(zX (wS a b c) d.toNat 0 [dI e])
def rZ (a:TkI) (b:Int) (c:Int) (d:Int) (e:Int) (f:Int):=(zX (dP a b c d e) d.toNat 1 [dI f])
def y6 (a:TkI) (b:Int):=(zX (ac zR a.a.slots) a.n.toNat 3 [dI (aa.wrap (b-a.qty))])
def zDr (a:Int) (b:TkI) (c:Int):Prop:=0<=a/\a<(↑(y6 b c).length:Int)
def kU (a:TkI) (b:Int) (c:Int) (d:Int):=(zX (y6 a b) c.toNat 7 [dI d])
def sG (a:TkI) (b:Int) (c:Int) (d:Int) (e:Int):=(zX (wS a b c) d.toNat 1 [dI e])
def yFu (i:TkI):Prop:=
 cnd (decide (i.n<0)) (pW i) (cnd (decide (i.n>=(↑(ac zR i.a.slots).length:Int))) (pW i) ((0<=i.n/\i.n<(↑(ac zR i.a.slots).length:Int))/\∃(a:Bool),zE (ac zR i.a.slots) i.n.toNat 0 1=az [D.v (.bool a)]/\cnd (!a) (pW i) ((0<=i.n/\i.n<(↑(ac zR i.a.slots).length:Int))/\cnd (decide (i.qty<1)) (zDp i) (∃(b:Int),zE (ac zR i.a.slots) i.n.toNat 3 1=az [dI b]/\cnd (decide (i.qty>b)) (zDp i) (∃(c:Int),zE (ac zR i.a.slots) i.n.toNat 3 1=az [dI c]/\i.n.toNat<(ac zR i.a.slots).length/\∃(d:Int),zE (y6 i c) i.n.toNat 5 1=az [dI d]/\(0<=d/\d<(↑(ac zO i.a.queues).length:Int))/\∃(e:Int),zE (ac zO i.a.queues) d.toNat 2 1=az [dI e]/\(0<=d/\d<(↑(ac zO i.a.queues).length:Int))/\d.toNat<(ac zO i.a.queues).length/\∃(f:Int),zE (y6 i c) i.n.toNat 3 1=az [dI f]/\cnd (f==0) (∃(g:Int),zE (y6 i c) i.n.toNat 5 1=az [dI g]/\(0<=g/\g<(↑(wS i d e).length:Int))/\∃(h:Int),zE (y6 i c) i.n.toNat 6 1=az [dI h]/\cnd (h==(-1)) (∃(j:Int),zE (y6 i c) i.n.toNat 7 1=az [dI j]/\g.toNat<(wS i d e).length/\∃(k:Int),zE (y6 i c) i.n.toNat 7 1=az [dI k]/\cnd (k==(-1)) (∃(l:Int),zE (y6 i c) i.n.toNat 6 1=az [dI l]/\g.toNat<(dP i d e g j).length/\∃(m:Int),zE (rZ i d e g j l) g.toNat 3 1=az [dI m]/\g.toNat<(rZ i d e g j l).length/\i.n.toNat<(y6 i c).length/\∃(n:Unit),(i.a.takeF i.n i.qty).snd=0/\(i.a.takeF i.n i.qty).fst.free=aa.wrap (i.a.free+1)/\ac zR (i.a.takeF i.n i.qty).fst.slots=zX (y6 i c) i.n.toNat 0 [D.v (.bool ar),dI 0,dI 0,dI 0,D.v (.bool ar),dI 0,dI 0,dI 0]/\ac zO (i.a.takeF i.n i.qty).fst.queues=zX (rZ i d e g j l) g.toNat 3 [dI (aa.wrap (m-1))]/\True) (∃(l:Int),zE (y6 i c) i.n.toNat 7 1=az [dI l]/\∃(m:Int),zE (y6 i c) i.n.toNat 6 1=az [dI m]/\(zDr l i c)/\l.toNat<(y6 i c).length/\∃(n:Int),zE (dP i d e g j) g.toNat 3 1=az [dI n]/\g.toNat<(dP i d e g j).length/\i.n.toNat<(zX (y6 i c) l.toNat 6 [dI m]).length/\∃(p:Unit),(i.a.takeF i.n i.qty).snd=0/\(i.a.takeF i.n i.qty).fst.free=aa.wrap (i.a.free+1)/\ac zR (i.a.takeF i.n i.qty).fst.slots=zX (zX (y6 i c) l.toNat 6 [dI m]) i.n.toNat 0 [D.v (.bool ar),dI 0,dI 0,dI 0,D.v (.bool ar),dI 0,dI 0,dI 0]/\ac zO (i.a.takeF i.n i.qty).fst.queues=zX (dP i d e g j) g.toNat 3 [dI (aa.wrap (n-1))]/\True)) (∃(j:Int),zE (y6 i c) i.n.toNat 6 1=az [dI j]/\∃(k:Int),zE (y6 i c) i.n.toNat 7 1=az [dI k]/\(zDr j i c)/\j.toNat<(y6 i c).length/\∃(l:Int),zE (kU i c j k) i.n.toNat 7 1=az [dI l]/\cnd (l==(-1)) (∃(m:Int),zE (kU i c j k) i.n.toNat 6 1=az [dI m]/\g.toNat<(wS i d e).length/\∃(n:Int),zE (sG i d e g m) g.toNat 3 1=az [dI n]/\g.toNat<(sG i d e g m).length/\i.n.toNat<(kU i c j k).length/\∃(p:Unit),(i.a.takeF i.n i.qty).snd=0/\(i.a.takeF i.n i.qty).fst.free=aa.wrap (i.a.free+1)/\ac zR (i.a.takeF i.n i.qty).fst.slots=zX (kU i c j k) i.n.toNat 0 [D.v (.bool ar),dI 0,dI 0,dI 0,D.v (.bool ar),dI 0,dI 0,dI 0]/\ac zO (i.a.takeF i.n i.qty).fst.queues=zX (sG i d e g m) g.toNat 3 [dI (aa.wrap (n-1))]/\True) (∃(m:Int),zE (kU i c j k) i.n.toNat 7 1=az [dI m]/\∃(n:Int),zE (kU i c j k) i.n.toNat 6 1=az [dI n]/\(0<=m/\m<(↑(kU i c j k).length:Int))/\m.toNat<(kU i c j k).length/\∃(p:Int),zE (wS i d e) g.toNat 3 1=az [dI p]/\g.toNat<(wS i d e).length/\i.n.toNat<(zX (kU i c j k) m.toNat 6 [dI n]).length/\∃(q:Unit),(i.a.takeF i.n i.qty).snd=0/\(i.a.takeF i.n i.qty).fst.free=aa.wrap (i.a.free+1)/\ac zR (i.a.takeF i.n i.qty).fst.slots=zX (zX (kU i c j k) m.toNat 6 [dI n]) i.n.toNat 0 [D.v (.bool ar),dI 0,dI 0,dI 0,D.v (.bool ar),dI 0,dI 0,dI 0]/\ac zO (i.a.takeF i.n i.qty).fst.queues=zX (wS i d e) g.toNat 3 [dI (aa.wrap (p-1))]/\True))) (∃(g:Unit),(i.a.takeF i.n i.qty).snd=0/\(i.a.takeF i.n i.qty).fst.free=i.a.free/\ac zR (i.a.takeF i.n i.qty).fst.slots=zX (ac zR i.a.slots) i.n.toNat 3 [dI (aa.wrap (c-i.qty))]/\ac zO (i.a.takeF i.n i.qty).fst.queues=zX (ac zO i.a.queues) d.toNat 2 [dI (aa.wrap (e-i.qty))]/\True))))))
def zLk {a:Arena} {n:Int} (h:n<0\/(a.slots.length:Int)<=n):a.usedAt n=ar:=by
 rcases h with h|h
 ·rw[Arena.usedAt,y5q (by omega),y8m]
 ·rw[Arena.usedAt,y5q (show ¬n<(a.slots.length:Int)by omega),y8m,xAf]
def z7d {a:Arena} {n:Int} {s:Slot} (h0:0<=n) (hs:a.slots[n.toNat]? =az s):a.usedAt n=s.used:=by
 have hl:=(y5f.1 hs).1;rw[Arena.usedAt,y5s h0,y5s (show n<(a.slots.length:Int)by omega),zU hs];simp
def xO {a:Arena} {k:Nat} {s:Slot} (hs:a.slots[k]? =az s):a.slotAt k=s:=zU hs
def y0h (i:ArN) (h:agetC.cnd i):yQi i:=by
 have h:i.a.slots.length<=1000000:=h;unfold yQi zAn jR dI;simp only[y5c];have no (e:i.a.usedAt i.n=ar):i.a.getF i.n=(y0t,ar):=by rw[Arena.getF,y5b (by rw[e];decide)]
 refine zI (λc=> ?_) (λc=>zI (λd=> ?_) (λd=> ?_))
 ·rw[no (zLk (.inl c))];(repeat'(first|exact rfl|exact trivial|assumption|apply ao|refineλ(_:Unit) (_:True)=>?_|refine ap () ?_|omega|(dsimp only;omega)))
 ·rw[no (zLk (.inr (by omega)))];(repeat'(first|exact rfl|exact trivial|assumption|apply ao|refineλ(_:Unit) (_:True)=>?_|refine ap () ?_|omega|(dsimp only;omega)))
 ·obtain⟨s,hs⟩:=yC (l:=i.a.slots) (i:=i.n.toNat) (by omega);have eu:=z7d (a:=i.a) (n:=i.n) (by omega) hs;refine⟨⟨by omega,by omega⟩,s.used,elA hs (by simp[zR]) rfl,Cv.cnd.mk (λu=> ?_) (λu=> ?_)⟩
  ·rw[no (by rw[eu];simpa using u)];(repeat'(first|exact rfl|exact trivial|assumption|apply ao|refineλ(_:Unit) (_:True)=>?_|refine ap () ?_|omega|(dsimp only;omega)))
  ·have e:i.a.usedAt i.n=aq:=by rw[eu];simpa using u
   have et:i.a.getF i.n=(s.ent,aq):=by rw[Arena.getF,y5d e,xO hs]
   rw[et];refine⟨⟨by omega,by omega⟩,s.n,s.id,s.qty,s.top,elA hs (by simp[zR]) rfl,?_⟩
   (repeat'(first|exact rfl|exact trivial|assumption|apply ao|refineλ(_:Unit) (_:True)=>?_|refine ap () ?_|omega|(dsimp only;omega)))
def z9d:agetC.ok Tryz.prog 147:=okw mixed gok0 1 (λ_=>[]) (λ_=>[]) [0] Tryz.func147 y0h
def zRw:∀{sl:List Slot} {at_:Int} {l:List Nat},zZw sl at_ l->tK l 0=at_/\∀j k,l[j]? =az k->k<sl.length/\tK l (j+1)=(sl.getD k slot0).back
 |sl,at_,[],h=>⟨h.symm,λj k hk=>by simp at hk⟩
 |sl,at_,x::l,h=>by
  obtain⟨h1,h2,h3⟩:=h;have ih:=zRw h3;refine⟨h1.symm,λj k hk=> ?_⟩;cases j with
  |zero=>
   simp at hk;subst hk;exact⟨h2,by rw[<- ih.1];rfl⟩
  |succ j=>
   rw[y7b]at hk;obtain⟨a,b⟩:=ih.2 j k hk;exact⟨a,by rw[<- b];rfl⟩
def yVj (i:ArL) (h:alistC.cnd i):yIh i:=by
 obtain⟨hl,h⟩:i.l.length<=1000000/\(if 0<=i.n/\i.n<i.a.queues.length then zZw i.a.slots (i.a.queues.getD i.n.toNat aH).first i.l else i.l=[]):=⟨h.len,h.ch⟩
 unfold yIh zBw dI;simp only[y5c];have out (e:¬(0<=i.n/\i.n<(i.a.queues.length:Int))):i.l=[]:=by rw[y5b e]at h;exact h
 refine zI (λc=>Cv.cnd.mk (λd=> ?_) (λd=> ?_)) (λc=> ?_)
 ·have d:¬i.n<(i.a.queues.length:Int):=by simpa using d
  rw[out (by omega)];(repeat'(first|exact rfl|exact trivial|assumption|apply ao|refineλ(_:Unit) (_:True)=>?_|refine ap () ?_|omega|(dsimp only;omega)))
 ·have d:i.n<(i.a.queues.length:Int):=by simpa using d
  rw[y5d ⟨by omega,d⟩]at h;obtain⟨q,hq⟩:=yC (l:=i.a.queues) (i:=i.n.toNat) (by omega);rw[zU hq]at h;obtain⟨n0,nx⟩:=zRw h;refine⟨⟨by omega,by omega⟩,q.first,elA hq (by simp[zO]) rfl,0,n0,rfl,λj=>j<=i.l.length,λj=>i.l.length-j,y6i _,λj hj=>Cv.cnd.mk (λe=> ?_) (λe=> ?_)⟩
  ·have e:tK i.l j≠-1:=by simpa using e
   obtain⟨k,hk⟩:∃k,i.l[j]? =az k:=by
    cases hk:i.l[j]? with
    |none=>rw[tK,hk]at e;exact absurd rfl e
    |some k=>exact⟨k,rfl⟩
   have hjl:=(y5f.1 hk).1;obtain⟨hkl,hnx⟩:=nx j k hk;have en:tK i.l j=k:=by rw[tK,hk]
   obtain⟨s,hs⟩:=yC (l:=i.a.slots) (i:=k) hkl;rw[en,y5u];refine⟨⟨by omega,by omega⟩,s.n,s.id,s.qty,s.top,elA hs (by simp[zR]) rfl,?_,⟨by omega,by omega⟩,s.back,elA hs (by simp[zR]) rfl,j+1,by rw[hnx,zU hs],?_,hjl,by dsimp only;omega,by(repeat'(first|exact trivial|exact rfl|apply ao))⟩
   ·simp only[Arena.ents,y5c,y5t];omega
   ·rw[y6m,hk];simp only[Arena.ents,Option.toList,y5l,y5p,y8t,xO hs];rfl
  ·have e:tK i.l j= -1:=by simpa using e
   have hj':i.l.length<=j:=by
    apply Classical.byContradiction;intro hn;obtain⟨k,hk⟩:=yC (l:=i.l) (i:=j) (by omega);rw[tK,hk]at e;simp only at e;omega
   rw[y5n hj']
   (repeat'(first|exact rfl|exact trivial|assumption|apply ao|refineλ(_:Unit) (_:True)=>?_|refine ap () ?_|omega|(dsimp only;omega)))
 ·rw[out (by omega)];(repeat'(first|exact rfl|exact trivial|assumption|apply ao|refineλ(_:Unit) (_:True)=>?_|refine ap () ?_|omega|(dsimp only;omega)))
def yHw:alistC.ok Tryz.prog 220:=okw mixed gok0 1 (λ_=>[]) (λi=>ySx i) [0] Tryz.func220 yVj
def z4g {α:Type} {l:List α} {i k:Nat} {x y:α} (h:i≠k) (hk:l[k]? =az x):(l.set i y)[k]? =az x:=by
 rw[List.getElem?_set_ne h];exact hk
def ySh (i:TkI) (h:atakeC.cnd i):yFu i:=by
 obtain⟨hl,hok⟩:i.a.okAt:=h;unfold yFu sG kU zDr y6 rZ dP wS zDp pW zCg dI;simp only[y5c];have no (e:i.a.usedAt i.n=ar):i.a.takeF i.n i.qty=(i.a,26):=by rw[Arena.takeF,y5d e]
 refine zI (λc=> ?_) (λc=>zI (λd=> ?_) (λd=> ?_))
 ·rw[no (zLk (.inl c))];(repeat'(first|exact rfl|exact trivial|assumption|apply ao|refineλ(_:Unit) (_:True)=>?_|refine ap () ?_|omega|(dsimp only;omega)))
 ·rw[no (zLk (.inr (by omega)))];(repeat'(first|exact rfl|exact trivial|assumption|apply ao|refineλ(_:Unit) (_:True)=>?_|refine ap () ?_|omega|(dsimp only;omega)))
 obtain⟨k,hk⟩:∃k,k=i.n.toNat:=⟨_,rfl⟩
 rw[<- hk];obtain⟨s,hs⟩:=yC (l:=i.a.slots) (i:=k) (by omega);have hs':i.a.slots[i.n.toNat]? =az s:=by rw[<- hk];exact hs
 have eu:=z7d (a:=i.a) (n:=i.n) (by omega) hs';refine⟨⟨by omega,by omega⟩,s.used,elA hs (by simp[zR]) rfl,Cv.cnd.mk (λu=> ?_) (λu=> ?_)⟩
 ·rw[no (by rw[eu];simpa using u)];(repeat'(first|exact rfl|exact trivial|assumption|apply ao|refineλ(_:Unit) (_:True)=>?_|refine ap () ?_|omega|(dsimp only;omega)))
 have u:s.used=aq:=by simpa using u
 have e:¬i.a.usedAt i.n=ar:=by rw[eu,u];decide
 obtain⟨⟨q0,q1⟩,sq,sa,sb⟩:=hok k s hs u;have esl:i.a.slotAt i.n.toNat=s:=xO hs';have bad (hq:i.qty<1\/s.qty<i.qty):i.a.takeF i.n i.qty=(i.a,24):=by rw[Arena.takeF,y5b e,esl,y5d hq]
 refine⟨⟨by omega,by omega⟩,zI (λc1=>by rw[bad (.inl c1)];(repeat'(first|exact rfl|exact trivial|assumption|apply ao|refineλ(_:Unit) (_:True)=>?_|refine ap () ?_|omega|(dsimp only;omega)))) (λc1=>⟨s.qty,elA hs (by simp[zR]) rfl,zI (λc2=>by rw[bad (.inr (by omega))];(repeat'(first|exact rfl|exact trivial|assumption|apply ao|refineλ(_:Unit) (_:True)=>?_|refine ap () ?_|omega|(dsimp only;omega)))) (λc2=>⟨s.qty,elA hs (by simp[zR]) rfl,by omega,?_⟩)⟩)⟩;obtain⟨q,hq⟩:=yC (l:=i.a.queues) (i:=s.queue.toNat) (by omega);have hs1:(i.a.slots.set k {s with qty:=s.qty-i.qty})[k]? =az {s with qty:=s.qty-i.qty}:=uL hs;have hq1:(i.a.queues.set s.queue.toNat {q with total:=aa.wrap (q.total-i.qty)})[s.queue.toNat]? =az {q with total:=aa.wrap (q.total-i.qty)}:=uL hq;have hle:i.a.less i.n.toNat i.qty=⟨i.a.slots.set k {s with qty:=s.qty-i.qty},i.a.queues.set s.queue.toNat {q with total:=aa.wrap (q.total-i.qty)},i.a.free⟩:=by
  rw[Arena.less,esl,cE hs',cE hq,hk]
 have hL:(i.a.slots.set k {s with qty:=s.qty-i.qty}).length=i.a.slots.length:=y6j;have hQ:(i.a.queues.set s.queue.toNat {q with total:=aa.wrap (q.total-i.qty)}).length=i.a.queues.length:=y6j;have tk:i.a.takeF i.n i.qty=if s.qty=i.qty then((i.a.less i.n.toNat i.qty).dropF i.n.toNat,0)else(i.a.less i.n.toNat i.qty,0):=by rw[Arena.takeF,y5b e,esl,y5b (by omega)]
 rw[hle,<- hk]at tk;rw[w64 (x:=s.qty-i.qty) (by omega),yH hs (y:={s with qty:=s.qty-i.qty}) rfl];refine⟨s.queue,elA hs1 (by simp[zR]) rfl,⟨q0,q1⟩,q.total,elA hq (by simp[zO]) rfl,⟨q0,q1⟩,by omega,s.qty-i.qty,elA hs1 (by simp[zR]) rfl,?_⟩;rw[yH hq (y:={q with total:=aa.wrap (q.total-i.qty)}) rfl];simp only[y5c];generalize hL1:i.a.slots.set k {s with qty:=s.qty-i.qty}=L1 at*;generalize hQ1:i.a.queues.set s.queue.toNat {q with total:=aa.wrap (q.total-i.qty)}=Q1 at*;refine Cv.cnd.mk (λz=> ?_) (λz=> ?_)
 ·have z:s.qty=i.qty:=by have:s.qty-i.qty=0:=by simpa using z
                         omega
  rw[y5d z]at tk;have esl1:(⟨L1,Q1,i.a.free⟩:Arena).slotAt k={s with qty:=s.qty-i.qty}:=xO hs1;have eq1:Q1.getD s.queue.toNat aH={q with total:=aa.wrap (q.total-i.qty)}:=zU hq1;rw[Arena.dropF,esl1]at tk;dsimp only at tk;rw[eq1]at tk;dsimp only at tk;rw[tk];refine⟨s.queue,elA hs1 (by simp[zR]) rfl,⟨q0,by omega⟩,s.ahead,elA hs1 (by simp[zR]) rfl,Cv.cnd.mk (λea=> ?_) (λea=> ?_)⟩
  ·have ea:s.ahead= -1:=by simpa using ea
   refine⟨s.back,elA hs1 (by simp[zR]) rfl,by omega,s.back,elA hs1 (by simp[zR]) rfl,?_⟩;rw[yH hq1 (y:=⟨s.back,q.last,aa.wrap (q.total-i.qty),q.count⟩) rfl];have hq2:(Q1.set s.queue.toNat ⟨s.back,q.last,aa.wrap (q.total-i.qty),q.count⟩)[s.queue.toNat]? =az ⟨s.back,q.last,aa.wrap (q.total-i.qty),q.count⟩:=uL hq1;simp only[y5c,y6j];refine Cv.cnd.mk (λeb=> ?_) (λeb=> ?_)
   ·have eb:s.back= -1:=by simpa using eb
    refine⟨s.ahead,elA hs1 (by simp[zR]) rfl,by omega,q.count,?_,?_⟩
    ·rw[yH hq2 (y:=⟨s.back,s.ahead,aa.wrap (q.total-i.qty),q.count⟩) rfl];exact elA (uL hq2) (by simp[zO]) rfl
    rw[yH hq2 (y:=⟨s.back,s.ahead,aa.wrap (q.total-i.qty),q.count⟩) rfl,yH (uL hq2) (y:=⟨s.back,s.ahead,aa.wrap (q.total-i.qty),aa.wrap (q.count-1)⟩) rfl,yH hs1 (y:=slot0) rfl];simp only[y5c,y6j,y9f,y5d ea,y5d eb];refine⟨by omega,by omega,(),by(first|exact rfl|exact trivial),by(first|exact rfl|exact trivial),by(first|exact rfl|exact trivial),by(first|exact rfl|exact trivial),trivial⟩
   ·have eb:s.back≠-1:=by simpa using eb
    obtain⟨b0,b1,b2⟩:0<=s.back/\s.back<i.a.slots.length/\s.back≠k:=by omega
    obtain⟨x,hx⟩:=yC (l:=L1) (i:=s.back.toNat) (by omega);refine⟨s.back,elA hs1 (by simp[zR]) rfl,s.ahead,elA hs1 (by simp[zR]) rfl,⟨b0,by omega⟩,by omega,q.count,elA hq2 (by simp[zO]) rfl,?_⟩;rw[yH hx (y:={x with ahead:=s.ahead}) rfl,yH hq2 (y:=⟨s.back,q.last,aa.wrap (q.total-i.qty),aa.wrap (q.count-1)⟩) rfl,yH (z4g (by omega) hs1) (y:=slot0) rfl];simp only[y5c,y6j,y9f,y5d ea,y5b eb,cE hx];refine⟨by omega,by omega,(),by(first|exact rfl|exact trivial),by(first|exact rfl|exact trivial),by(first|exact rfl|exact trivial),by(first|exact rfl|exact trivial),trivial⟩
  ·have ea:s.ahead≠-1:=by simpa using ea
   obtain⟨a0,a1,a2⟩:0<=s.ahead/\s.ahead<i.a.slots.length/\s.ahead≠k:=by omega
   obtain⟨x,hx⟩:=yC (l:=L1) (i:=s.ahead.toNat) (by omega);have hs2:(L1.set s.ahead.toNat {x with back:=s.back})[k]? =az {s with qty:=s.qty-i.qty}:=z4g (by omega) hs1;refine⟨s.ahead,elA hs1 (by simp[zR]) rfl,s.back,elA hs1 (by simp[zR]) rfl,⟨a0,by omega⟩,by omega,s.back,?_,?_⟩
   ·rw[yH hx (y:={x with back:=s.back}) rfl];exact elA hs2 (by simp[zR]) rfl
   rw[yH hx (y:={x with back:=s.back}) rfl];simp only[y5c,y6j];refine Cv.cnd.mk (λeb=> ?_) (λeb=> ?_)
   ·have eb:s.back= -1:=by simpa using eb
    refine⟨s.ahead,elA hs2 (by simp[zR]) rfl,by omega,q.count,?_,?_⟩
    ·rw[yH hq1 (y:=⟨q.first,s.ahead,aa.wrap (q.total-i.qty),q.count⟩) rfl];exact elA (uL hq1) (by simp[zO]) rfl
    rw[yH hq1 (y:=⟨q.first,s.ahead,aa.wrap (q.total-i.qty),q.count⟩) rfl,yH (uL hq1) (y:=⟨q.first,s.ahead,aa.wrap (q.total-i.qty),aa.wrap (q.count-1)⟩) rfl,yH hs2 (y:=slot0) rfl];simp only[y5c,y6j,y9f,y5b ea,y5d eb,cE hx];refine⟨by omega,by omega,(),by(first|exact rfl|exact trivial),by(first|exact rfl|exact trivial),by(first|exact rfl|exact trivial),by(first|exact rfl|exact trivial),trivial⟩
   ·have eb:s.back≠-1:=by simpa using eb
    obtain⟨b0,b1,b2⟩:0<=s.back/\s.back<i.a.slots.length/\s.back≠k:=by omega
    obtain⟨y,hy⟩:=yC (l:=L1.set s.ahead.toNat {x with back:=s.back}) (i:=s.back.toNat) (by rw[y6j];omega);refine⟨s.back,elA hs2 (by simp[zR]) rfl,s.ahead,elA hs2 (by simp[zR]) rfl,⟨b0,by omega⟩,by omega,q.count,elA hq1 (by simp[zO]) rfl,?_⟩;rw[yH hy (y:={y with ahead:=s.ahead}) rfl,yH hq1 (y:=⟨q.first,q.last,aa.wrap (q.total-i.qty),aa.wrap (q.count-1)⟩) rfl,yH (z4g (by omega) hs2) (y:=slot0) rfl];simp only[y5c,y6j,y9f,y5b ea,y5b eb,cE hx,cE hy];refine⟨by omega,by omega,(),by(first|exact rfl|exact trivial),by(first|exact rfl|exact trivial),by(first|exact rfl|exact trivial),by(first|exact rfl|exact trivial),trivial⟩
 ·have z:¬s.qty=i.qty:=by have:¬s.qty-i.qty=0:=by simpa using z
                          omega
  rw[y5b z]at tk;rw[tk];exact⟨(),rfl,rfl,rfl,rfl,trivial⟩
def yJz:atakeC.ok Tryz.prog 197:=okw mixed gok0 1 (λ_=>[]) (λ_=>[]) [0] Tryz.func197 ySh
structure PlI where
 l:List Int
 least:Int
 q:Int
def z2i (l:List Int) (least q:Int):List Int:=l.map λk=>if least<=k*q / l.sum then k*q / l.sum else 0
def wF:List (Int×Int)->Int->List Int
 |[],_=>[]
 |(n,x)::r,q=>(x+min (n-x) q)::wF r (q-min (n-x) q)
def PlI.p0 (i:PlI):List Int:=z2i i.l i.least i.q
def PlI.p1 (i:PlI):List Int:=wF (i.l.zip i.p0) (i.q-i.p0.sum)
def jC (i:PlI):List Int:=if yU i.l i.q=aq/\1<=i.least then i.p1 else[]
def plainC:Con:=con1 PlI (λi=>[iV i.l,zA i.least,zA i.q]) (λ_=>[]) (λi=>i.l.length<=1000000/\i64r i.q/\i64r i.least) (λ_=> .own 0) (λi=>[.own 2 1 (iE (jC i))])
def yWk (i:PlI):List SAnn:=[
 {ι:=Nat,slots:=λj=>[(9,.own 0),(36,zA j)],rows:=λj=>[.own 2 1 (iE (i.p0.take j++af (i.l.length-j) 0))]},
 {ι:=Nat,slots:=λj=>[(2,zA (i.q-(i.p0.take j).sum)),(58,zA j)],rows:=λ_=>[]},
 {ι:=Nat,slots:=λj=>[(9,.own 0),(2,zA (i.q-i.p0.sum+(i.p0.take j).sum-(i.p1.take j).sum)),(68,zA j)],rows:=λj=>[.own 2 1 (iE (i.p1.take j++i.p0.drop j))]}]
def dM (a:Nat) (b:PlI):=(iE (ae a b.p1++am a b.p0))
def rE (a:Nat) (b:PlI):Prop:=0<=(↑a:Int)/\(↑a:Int)<(↑(dM a b).length:Int)
def gO (a:Nat) (b:PlI):=(ae a b.p0++af (b.l.length-a) 0)
def gN (a:Nat) (b:PlI):=(iE (gO a b))
def aE (a:Nat) (b:PlI):=(↑(gN a b).length:Int)
def yHp (i:PlI):Prop:=
 ∃(a:LqI),iE a.l=iE i.l/\a.q=i.q/\(j6 a)/\∀(b:Unit),True->cnd (!yU a.l a.q) (∃(c:Unit),iE (jC i)=[]/\True) (cnd (decide (i.least<1)) (∃(c:Unit),iE (jC i)=[]/\True) (∃(c:List Int),iE c=iE i.l/\(c.length<=1000/\∀(d:Int),d∈c->0<=d/\d<=1000000)/\∀(d:Unit),True->(0<=(↑(iE i.l).length:Int)/\(↑(iE i.l).length:Int)<=(↑(iE i.l).length:Int)/\(↑(iE i.l).length:Int)<=9223372036854775807/\(↑(8:Nat):Int)*(↑(iE i.l).length:Int)<=2 ^ (48:Nat))/\∃(e:Nat),(↑e:Int)=0/\iE (gO e i)=af (↑(iE i.l).length:Int).toNat [dI 0]/\∃(f:Nat->Prop),∃(g:Nat->Nat),f e/\∀(h:Nat),f h->cnd (decide ((↑h:Int)<(↑(iE i.l).length:Int))) ((0<=(↑h:Int)/\(↑h:Int)<(↑(iE i.l).length:Int))/\∃(j:Int),zE (iE i.l) (↑h:Int).toNat 0 1=az [dI j]/\∃(k:ShI),k.a=j/\k.b=i.q/\k.c=c.sum/\(0<=k.a/\k.a<=(2000000000:Int)/\(0:Int)<=k.b/\k.b<=(2000000000:Int)/\(1:Int)<=k.c/\k.c<=2000000000)/\∀(l:Unit),True->cnd (decide (k.a*k.b / k.c>=i.least)) ((0<=(↑h:Int)/\(↑h:Int)<(aE h i))/\(↑h:Int).toNat<(gN h i).length/\∃(m:Nat),(↑m:Int)=aa.wrap ((↑h:Int)+1)/\iE (gO m i)=zX (gN h i) (↑h:Int).toNat 0 [dI (k.a*k.b / k.c)]/\f m/\g m<g h/\True) (∃(m:Nat),(↑m:Int)=aa.wrap ((↑h:Int)+1)/\iE (gO m i)=iE (gO h i)/\f m/\g m<g h/\True)) (∃(j:Nat),i.q-(ae j i.p0).sum=i.q/\(↑j:Int)=0/\∃(k:Nat->Prop),∃(l:Nat->Nat),k j/\∀(m:Nat),k m->cnd (decide ((↑m:Int)<(aE h i))) ((0<=(↑m:Int)/\(↑m:Int)<(aE h i))/\∃(n:Int),zE (gN h i) (↑m:Int).toNat 0 1=az [dI n]/\∃(p:Nat),i.q-(ae p i.p0).sum=aa.wrap (i.q-(ae m i.p0).sum-n)/\(↑p:Int)=aa.wrap ((↑m:Int)+1)/\k p/\l p<l m/\dh (aw 2 1 (gN h i))) (∃(n:Nat),i.q-i.p0.sum+(ae n i.p0).sum-(ae n i.p1).sum=i.q-(ae m i.p0).sum/\(↑n:Int)=0/\iE (ae n i.p1++am n i.p0)=iE (gO h i)/\∃(p:Nat->Prop),∃(q:Nat->Nat),p n/\∀(r:Nat),p r->cnd (decide ((↑r:Int)<(aE h i))) ((0<=(↑r:Int)/\(↑r:Int)<(↑(iE i.l).length:Int))/\∃(s:Int),zE (iE i.l) (↑r:Int).toNat 0 1=az [dI s]/\(rE r i)/\∃(t:Int),zE (dM r i) (↑r:Int).toNat 0 1=az [dI t]/\(rE r i)/\∃(u:Int),zE (dM r i) (↑r:Int).toNat 0 1=az [dI u]/\(rE r i)/\(↑r:Int).toNat<(dM r i).length/\∃(v:Nat),i.q-i.p0.sum+(ae v i.p0).sum-(ae v i.p1).sum=aa.wrap (i.q-i.p0.sum+(ae r i.p0).sum-(ae r i.p1).sum-min (aa.wrap (s-t)) (i.q-i.p0.sum+(ae r i.p0).sum-(ae r i.p1).sum))/\(↑v:Int)=aa.wrap ((↑r:Int)+1)/\iE (ae v i.p1++am v i.p0)=zX (dM r i) (↑r:Int).toNat 0 [dI (aa.wrap (u+min (aa.wrap (s-t)) (i.q-i.p0.sum+(ae r i.p0).sum-(ae r i.p1).sum)))]/\p v/\q v<q r/\True) (∃(s:Unit),iE (jC i)=iE (ae r i.p1++am r i.p0)/\True)))))
def zCn:∀(z:List (Int×Int)) (q:Int),(wF z q).length=z.length
 |[],_=>rfl
 |(n,x)::z,q=>by rw[wF,y5g,y5g,zCn z]
def zOp:∀(z:List (Int×Int)) (q:Int) (j:Nat) (n x:Int),z[j]? =az (n,x)->(wF z q)[j]? =az (x+min (n-x) (q+((z.map (·.2)).take j).sum-((wF z q).take j).sum))
 |[],_,_,_,_,h=>by simp at h
 |(m,y)::z,q,0,n,x,h=>by simp at h;obtain⟨rfl,rfl⟩:=h;simp[wF]
 |(m,y)::z,q,j+1,n,x,h=>by
  rw[y7b]at h;rw[wF,y7b,zOp z _ j n x h,y6l,y6s,y5p,y6l,y6s];congr 3;dsimp only;omega
def zJg:∀(z:List (Int×Int)) (q:Int) (j:Nat),0<=q->(∀y∈z,y.2<=y.1)->0<=q+((z.map (·.2)).take j).sum-((wF z q).take j).sum/\q+((z.map (·.2)).take j).sum-((wF z q).take j).sum<=q
 |[],q,j,h,_=>by simp[wF,h]
 |(m,y)::z,q,0,h,_=>by simp[h]
 |(m,y)::z,q,j+1,h,hb=>by
  have hm:=hb (m,y) y5h;have:=zJg z (q-min (m-y) q) j (by dsimp only at hm;omega) (λx hx=>hb x (y5j _ hx));rw[wF,y6l,y6s,y5p,y6l,y6s];dsimp only at hm ⊢;omega
def yGf {k q S:Int} (hk:0<=k) (hq:0<=q) (hS:1<=S) (hqS:q<=S):0<=k*q / S/\k*q / S<=k:=by
 refine⟨Int.ediv_nonneg (xBk hk hq) (by omega),?_⟩;have:k*q<=k*S:=y9y hqS hk;exact Int.ediv_le_of_le_mul (by omega) this
def zSd {q S least:Int} (hq:0<=q) (hS:1<=S):∀(l:List Int),(∀x∈l,0<=x)->S*(l.map λk=>if least<=k*q / S then k*q / S else 0).sum<=q*l.sum
 |[],_=>by simp
 |k::l,h=>by
  have ih:=zSd (least:=least) hq hS l (λx hx=>h x (y5j _ hx));have hk:=h k y5h;rw[y5p,y6s,y6s,Int.mul_add,Int.mul_add];have h1:S*(k*q / S)<=k*q:=by
   have:=Int.mul_ediv_add_emod (k*q) S;have:=xBb (k*q) (show S≠0 by omega);omega
  have h2:0<=k*q:=xBk hk hq;have h3:S*(if least<=k*q / S then k*q / S else 0)<=q*k:=by
   rw[y9o q k];split
   ·exact h1
   ·simpa using h2
  omega
def yEu {i:PlI} {j:Nat} {n:Int} (h:i.l[j]? =az n):i.p0[j]? =az (if i.least<=n*i.q / i.l.sum then n*i.q / i.l.sum else 0):=by
 rw[PlI.p0,z2i,y6q,h];rfl
def z4u (i:PlI):i.p0.length=i.l.length:=by simp[PlI.p0,z2i]
def z5v {l:List Int} {j m:Nat} {n:Int} (hl:l.length=m) (h:l[j]? =az n):(l.take j++af (m-j) 0).set j n=l.take (j+1)++af (m-(j+1)) 0:=by
 have hj:=(y5f.1 h).1;rw[List.set_append_right _ _ (by rw[y5t];omega),y5t,show j-min j l.length=0 by omega,show m-j=(m-(j+1))+1 by omega,y9m,xAz,y6m,h];simp
def yKp {l:List Int} {j m:Nat} (hl:l.length=m) (hj:j<m):(l.take j++af (m-j) 0)[j]? =az 0:=by
 rw[y7f (by rw[y5t];omega),y5t,show j-min j l.length=0 by omega,show m-j=(m-(j+1))+1 by omega,y9m];rfl
def yHc {α:Type} {l:List α} {j:Nat} {x:α} (h:l[j]? =az x):l.set j x=l:=by
 obtain⟨h1,h2⟩:=y5f.1 h;rw[<- h2];exact List.set_getElem_self h1
def yXt {a b:List Int} {j:Nat} {x:Int} (ha:a.length=b.length) (h:b[j]? =az x):(a.take j++b.drop j)[j]? =az x:=by
 have hj:=(y5f.1 h).1;rw[y7f (by rw[y5t];omega),y5t,show j-min j a.length=0 by omega,y7p];exact h
def yOm {a b:List Int} {j:Nat} {y:Int} (ha:a.length=b.length) (h:a[j]? =az y):(a.take j++b.drop j).set j y=a.take (j+1)++b.drop (j+1):=by
 have hj:=(y5f.1 h).1;rw[List.set_append_right _ _ (by rw[y5t];omega),y5t,show j-min j a.length=0 by omega,y7j (by omega),xAz,y6m,h];simp
def zUx {l:List Int} {j:Nat} {x y:Int} (h:l[j]? =az x):zX (iE l) j 0 [D.v (.int .i64 y)]=iE (l.set j y):=yH (f:=λn:Int=>[D.v (.int .i64 n)]) h rfl
def zDu {i:PlI} (h:yU i.l i.q=aq) (hne:0<i.l.length):1<=i.l.sum/\i.l.sum<=250000000/\(∀(j:Nat) (n x:Int),i.l[j]? =az n->i.p0[j]? =az x->0<=x/\x<=n)/\i.p0.sum<=i.q:=by
 obtain⟨h1,h2,h3,h4⟩:=jE h;have hb:=jO (l:=i.l) (λx hx=>by have:=h3 x hx;omega) i.l.length;rw[y7y]at hb;have hS:1<=i.l.sum:=by
  obtain⟨x,hx⟩:=yC (l:=i.l) (i:=0) hne;have:=h3 x (y5m hx);cases hl:i.l with
  |nil=>rw[hl]at hne;exact absurd hne (Nat.lt_irrefl 0)
  |cons a r=>
   rw[hl]at hx;simp at hx;subst hx;have hr:=jO (l:=r) (λy hy=>by have:=h3 y (by rw[hl];exact y5j _ hy);omega) r.length;rw[y7y]at hr;rw[y6s];omega
 refine⟨hS,by omega,λj n x hn hx=> ?_,?_⟩
 ·have hn1:=h3 n (y5m hn);have:=yGf (k:=n) (by omega) h2 hS h4;rw[yEu hn]at hx;cases hx;split<;>omega
 ·have:=zSd (least:=i.least) h2 hS i.l (λx hx=>by have:=h3 x hx;omega);have e:i.l.sum*i.p0.sum<=i.l.sum*i.q:=by rw[y9o i.l.sum i.q];exact this
  exact Int.le_of_mul_le_mul_left e (by omega)
def ySu (i:PlI) (h:plainC.cnd i):yHp i:=by
 obtain⟨hl,hq,hle⟩:i.l.length<=1000000/\i64r i.q/\i64r i.least:=h;unfold yHp aE gN gO rE dM j6 dI;refine⟨⟨i.l,i.q⟩,rfl,rfl,⟨hl,hq⟩,λ_ _=>Cv.cnd.mk (λc=> ?_) (λc=>zI (λd=> ?_) (λd=> ?_))⟩
 ·have c:yU i.l i.q=ar:=by simpa using c
  refine⟨(),?_,trivial⟩;rw[jC,y5b (by rw[c];simp)];rfl
 ·refine⟨(),?_,trivial⟩;rw[jC,y5b (by omega)];rfl
 have c:yU i.l i.q=aq:=by simpa using c
 have eS:jC i=i.p1:=by rw[jC,y5d ⟨c,by omega⟩]
 obtain⟨h1,h2,h3,h4⟩:=jE c;have hq2:=zLa c;have hp0:=z4u i;have hzl:(i.l.zip i.p0).length=i.l.length:=by rw[List.length_zip,hp0];simp
 have hp1:i.p1.length=i.l.length:=by rw[PlI.p1,zCn,hzl]
 have hz2:(i.l.zip i.p0).map (·.2)=i.p0:=by rw[List.map_snd_zip];omega
 have h64:i.l.length<=250:=h1;have hrl:∀j,j<=i.l.length->(ae j i.p0++af (i.l.length-j) 0).length=i.l.length:=by
  intro j hj;rw[y5a,y5t,y8g];omega
 simp only[yZ];refine⟨i.l,rfl,⟨by omega,λx hx=>by have:=h3 x hx;omega⟩,λ_ _=>⟨⟨by omega,by omega,by omega,by omega⟩,0,by(first|exact rfl|exact trivial),?_,λj=>j<=i.l.length,λj=>i.l.length-j,y6i _,λj hj=>zI (λe=> ?_) (λe=> ?_)⟩⟩
 ·simp[iE]
 ·have hj':j<i.l.length:=by omega
  obtain⟨n,hn⟩:=yC (l:=i.l) (i:=j) hj';have bn:=h3 n (y5m hn);obtain⟨f1,f2,f3,f4⟩:=zDu c (by omega);have g:=yEu hn;refine⟨⟨by omega,by omega⟩,n,elI hn,⟨n,i.q,i.l.sum⟩,rfl,rfl,rfl,⟨by dsimp only;omega,by dsimp only;omega,by dsimp only;omega,by dsimp only;omega,by dsimp only;omega,by dsimp only;omega⟩,λ_ _=>zI (λa=> ?_) (λa=> ?_)⟩
  ·have a:n*i.q / i.l.sum>=i.least:=a;rw[y5d (by omega)]at g;refine⟨⟨by omega,by rw[hrl j (by omega)];omega⟩,by rw[hrl j (by omega)];omega,j+1,wjn (by omega),?_,hj',by dsimp only;omega,trivial⟩;rw[y5u,zUx (yKp hp0 hj'),z5v hp0 g]
  ·have a:¬n*i.q / i.l.sum>=i.least:=a;rw[y5b (by omega)]at g;refine⟨j+1,wjn (by omega),?_,hj',by dsimp only;omega,trivial⟩;rw[<- z5v hp0 g,yHc (yKp hp0 hj')]
 have hje:j=i.l.length:=by omega
 subst hje;have eP:ae i.l.length i.p0++af (i.l.length-i.l.length) 0=i.p0:=by rw[y5n (by omega)];simp
 rw[eP,hp0];have px:∀(k:Nat) (n x:Int),i.l[k]? =az n->i.p0[k]? =az x->0<=x/\x<=n:=λk n x hn hx=>(zDu c (by have:=(y5f.1 hn).1;omega)).2.2.1 k n x hn hx
 have pb:∀x∈i.p0,0<=x/\x<=1000000:=by
  intro x hx;obtain⟨k,hk⟩:=y7s.1 hx;obtain⟨n,hn⟩:=yC (l:=i.l) (i:=k) (by have:=(y5f.1 hk).1;omega);have:=px k n x hn hk;have:=h3 n (y5m hn);omega
 have pq:i.p0.sum<=i.q:=by
  by_cases hz:0<i.l.length
  ·exact(zDu c hz).2.2.2
  ·have:i.p0=[]:=y6d (by omega);rw[this];simpa using h2
 refine⟨0,by simp,by(first|exact rfl|exact trivial),λk=>k<=i.l.length,λk=>i.l.length-k,y6i _,λk hk=>zI (λe=> ?_) (λe=> ?_)⟩
 ·have hk':k<i.l.length:=by omega
  obtain⟨x,hx⟩:=yC (l:=i.p0) (i:=k) (by omega);have bx:=pb x (y5m hx);have bs:=jO pb k;refine⟨⟨by omega,by omega⟩,x,elI hx,k+1,?_,wjn (by omega),hk',by dsimp only;omega,by(repeat'(first|exact trivial|exact rfl|apply ao))⟩;rw[jV hx,w64 (by omega)];omega
 have hke:k=i.l.length:=by omega
 subst hke;rw[y5n (l:=i.p0) (by omega)];refine⟨0,by simp,by(first|exact rfl|exact trivial),by simp,λj=>j<=i.l.length,λj=>i.l.length-j,y6i _,λj hj=>zI (λe=> ?_) (λe=> ?_)⟩
 ·have hj':j<i.l.length:=by omega
  obtain⟨n,hn⟩:=yC (l:=i.l) (i:=j) hj';obtain⟨x,hx⟩:=yC (l:=i.p0) (i:=j) (by omega);have bn:=h3 n (y5m hn);have bx:=px j n x hn hx;have hz:(i.l.zip i.p0)[j]? =az (n,x):=by rw[y9w];exact⟨hn,hx⟩
  have g:=zOp (i.l.zip i.p0) (i.q-i.p0.sum) j n x hz;have r:=zJg (i.l.zip i.p0) (i.q-i.p0.sum) j (by omega) (λy hy=>by
   obtain⟨k,hk⟩:=y7s.1 hy;rw[y9w]at hk;exact(px k y.1 y.2 hk.1 hk.2).2)
  rw[hz2]at g r;have b0:=jO pb i.p0.length;rw[y7y]at b0;have hml:(ae j i.p1++am j i.p0).length=i.l.length:=by rw[y5a,y5t,y5z];omega
  have hma:=yXt (a:=i.p1) (b:=i.p0) (by omega) hx;change i.p1[j]? =_ at g;change 0<=_-(ae j i.p1).sum/\_-(ae j i.p1).sum<=_ at r;change i.p1[j]? =az (x+min (n-x) (_-(ae j i.p1).sum))at g;rw[hml];refine⟨⟨by omega,by omega⟩,n,elI hn,⟨by omega,by omega⟩,x,elI hma,⟨by omega,by omega⟩,x,elI hma,⟨by omega,by omega⟩,by omega,?_⟩;rw[w64 (x:=n-x) (by omega),w64 (x:=x+min (n-x) (i.q-i.p0.sum+(ae j i.p0).sum-(ae j i.p1).sum)) (by omega)];refine⟨j+1,?_,wjn (by omega),?_,hj',by dsimp only;omega,trivial⟩
  ·rw[jV hx,jV g,w64 (by omega)];omega
  ·rw[y5u,zUx hma,yOm (by omega) g]
 ·have hje:j=i.l.length:=by omega
  subst hje;refine⟨(),?_,trivial⟩;rw[eS,y5n (by omega),y8j (by omega),y6a]
def yFj:plainC.ok Tryz.prog 226:=okw mixed (gokc zEm (gokc yOi (gokc zQt gok0))) 0 (λ_=>[]) (λi=>yWk i) [] Tryz.func226 ySu
structure RsI where
 l:List Int
 out:List Int
 least:Int
 q:Int
def RsI.idx (i:RsI) (k:Nat):List Nat:=(ak k).filter λn=>decide (i.out.getD n 0<i.l.getD n 0)
def RsI.left (i:RsI) (k:Nat):List Int:=(i.idx k).map λn=>i.l.getD n 0-i.out.getD n 0
def RsI.pl (i:RsI):List Int:=jC ⟨i.left i.l.length,i.least,i.q⟩
def RsI.add (i:RsI) (k:Nat):List Int:=(((i.idx i.l.length).zip i.pl).take k).foldl (λo y=>o.set y.1 (aa.wrap (o.getD y.1 0+y.2))) i.out
def nQ (i:RsI):List Int:=i.add i.pl.length
@[reducible] def RsI.ok (i:RsI):Prop:=i.l.length<=250/\i.out.length=i.l.length/\i64r i.q/\i64r i.least/\∀n,0<=i.out.getD n 0/\i.out.getD n 0<=i.l.getD n 0/\i.l.getD n 0<=1000000
def restC:Con:=con1 RsI (λi=>[iV i.l,.own 0,zA i.least,zA i.q]) (λi=>[.own 2 1 (iE i.out)]) RsI.ok (λ_=> .own 1) (λi=>[.gone,.own 2 1 (iE (nQ i))])
def y2i (i:RsI):List SAnn:=[
 {ι:=Nat,slots:=λj=>[(9,.own 0),(10,.own 1),(16,zA j)],rows:=λj=>[.own 2 1 (iE (i.left j)),.own 3 1 (iE ((i.idx j).map λ(n:Nat)=>(n:Int)))]},
 {ι:=Nat,slots:=λk=>[(1,.own 0),(50,zA k)],rows:=λk=>[.own 2 1 (iE (i.add k))]}]
structure zH where
 id:Int
 side:Int
 price:Int
 qty:Int
 top:Bool
 deriving DecidableEq
def wW (o:zH):List D:=[.v (.int .i64 o.id),.v (.int .i64 o.side),.v (.int .i64 o.price),.v (.int .i64 o.qty),.v (.bool o.top)]
@[reducible] def z2n (o:zH):V:= .agg [zA o.id,zA o.side,zA o.price,zA o.qty,yP o.top]
def topFC:Con:=con1 zH (λo=>[z2n o]) (λ_=>[]) (λ_=>True) (λo=>yP o.top) (λ_=>[])
def topI (l:List zH):Int:=zJk (l.findIdx? λo=>o.top)
def idxOrdC:Con:=con1 (List zH) (λl=>[roV 5 (l.map wW),.fn 212 [] []]) (λ_=>[]) (λl=>l.length<=1000000) (λl=>zA (topI l)) (λ_=>[])
def yNt (l:List zH):List SAnn:=[{ι:=Nat,slots:=λj=>[(8,zA j)],rows:=λ_=>[]}]
def yQy (i:RsI):Prop:=
 ∃(a:Nat),(↑a:Int)=0/\iE (i.left a)=[]/\iE (ac (λ(n:Nat) ↦ (↑n:Int)) (i.idx a))=[]/\∃(b:Nat->Prop),∃(c:Nat->Nat),b a/\∀(d:Nat),b d->cnd (decide ((↑d:Int)<(↑(iE i.l).length:Int))) ((0<=(↑d:Int)/\(↑d:Int)<(↑(iE i.l).length:Int))/\∃(e:Int),zE (iE i.l) (↑d:Int).toNat 0 1=az [dI e]/\(0<=(↑d:Int)/\(↑d:Int)<(↑(iE i.out).length:Int))/\∃(f:Int),zE (iE i.out) (↑d:Int).toNat 0 1=az [dI f]/\cnd (decide (e>f)) ((0<=(↑d:Int)/\(↑d:Int)<(↑(iE i.l).length:Int))/\∃(g:Int),zE (iE i.l) (↑d:Int).toNat 0 1=az [dI g]/\(0<=(↑d:Int)/\(↑d:Int)<(↑(iE i.out).length:Int))/\∃(h:Int),zE (iE i.out) (↑d:Int).toNat 0 1=az [dI h]/\((iE (i.left d)).length+1)*(8:Nat)<=(140737488355328:Nat)/\((iE (ac (λ(g:Nat) ↦ (↑g:Int)) (i.idx d))).length+1)*(8:Nat)<=(140737488355328:Nat)/\∃(j:Nat),(↑j:Int)=aa.wrap ((↑d:Int)+1)/\iE (i.left j)=iE (i.left d)++[[dI (aa.wrap (g-h))]]/\iE (ac (λ(g:Nat) ↦ (↑g:Int)) (i.idx j))=iE (ac (λ(g:Nat) ↦ (↑g:Int)) (i.idx d))++[[dI (↑d:Int)]]/\b j/\c j<c d/\dh (aw 2 1 (iE i.out))) (∃(g:Nat),(↑g:Int)=aa.wrap ((↑d:Int)+1)/\iE (i.left g)=iE (i.left d)/\iE (ac (λ(e:Nat) ↦ (↑e:Int)) (i.idx g))=iE (ac (λ(e:Nat) ↦ (↑e:Int)) (i.idx d))/\b g/\c g<c d/\dh (aw 2 1 (iE i.out)))) (∃(e:PlI),iE e.l=iE (i.left d)/\e.least=i.least/\e.q=i.q/\(e.l.length<=1000000/\((-9223372036854775808)<=e.q/\e.q<=9223372036854775807)/\(-9223372036854775808)<=e.least/\e.least<=9223372036854775807)/\∀(f:Unit),True->∃(g:Nat),(↑g:Int)=0/\iE (i.add g)=iE i.out/\∃(h:Nat->Prop),∃(j:Nat->Nat),h g/\∀(k:Nat),h k->cnd (decide ((↑k:Int)<(↑(iE (jC e)).length:Int))) ((0<=(↑k:Int)/\(↑k:Int)<(↑(iE (jC e)).length:Int))/\∃(l:Int),zE (iE (jC e)) (↑k:Int).toNat 0 1=az [dI l]/\(0<=(↑k:Int)/\(↑k:Int)<(↑(iE (ac (λ(l:Nat) ↦ (↑l:Int)) (i.idx d))).length:Int))/\∃(m:Int),zE (iE (ac (λ(l:Nat) ↦ (↑l:Int)) (i.idx d))) (↑k:Int).toNat 0 1=az [dI m]/\(0<=m/\m<(↑(iE (i.add k)).length:Int))/\∃(n:Int),zE (iE (i.add k)) m.toNat 0 1=az [dI n]/\(0<=m/\m<(↑(iE (i.add k)).length:Int))/\m.toNat<(iE (i.add k)).length/\∃(p:Nat),(↑p:Int)=aa.wrap ((↑k:Int)+1)/\iE (i.add p)=zX (iE (i.add k)) m.toNat 0 [dI (aa.wrap (n+l))]/\h p/\j p<j k/\dh (aw 2 1 (iE (jC e)))/\dh (ax 1 (iE (i.left d)))/\dh (aw 3 1 (iE (ac (λ(l:Nat) ↦ (↑l:Int)) (i.idx d))))) (∃(l:Unit),iE (nQ i)=iE (i.add k)/\True))
def yQg (o:zH):Prop:=
 ∃(a:Unit),dh o.top/\True
def z6v (l:List zH):Prop:=
 ∃(a:Nat),(↑a:Int)=0/\∃(b:Nat->Prop),∃(c:Nat->Nat),b a/\∀(d:Nat),b d->cnd (decide ((↑d:Int)<(↑(ac wW l).length:Int))) ((0<=(↑d:Int)/\(↑d:Int)<(↑(ac wW l).length:Int))/\∃(e:Int),∃(f:Int),∃(g:Int),∃(h:Int),∃(j:Bool),zE (ac wW l) (↑d:Int).toNat 0 5=az [dI e,dI f,dI g,dI h,D.v (.bool j)]/\∃(k:zH),k.id=e/\k.side=f/\k.price=g/\k.qty=h/\k.top=j/\True/\∀(m:Unit),True->cnd k.top (∃(n:Unit),topI l=(↑d:Int)/\True) (cO d b c)) (∃(e:Unit),topI l=(-1)/\True)
def yOx:topFC.ok Tryz.prog 212:=okw (V:=yQg) mixed gok0 0 (λ_=>[]) (λ_=>[]) [] Tryz.func212 λ(o:zH) _=>by
 unfold yQg;exact⟨(),rfl,trivial⟩
def z2x (i:PlI):(jC i).length=i.l.length\/jC i=[]:=by
 rw[jC];split
 ·left;rw[PlI.p1,zCn,List.length_zip,z4u];simp
 ·exact .inr rfl
def yXw {l:List zH} {k:Nat} {o:zH} (h:l[k]? =az o):zE (l.map wW) k 0 5=az [D.v (.int .i64 o.id),.v (.int .i64 o.side),.v (.int .i64 o.price),.v (.int .i64 o.qty),.v (.bool o.top)]:=elA h (by simp[wW]) rfl
def yNc (l:List zH) (h:idxOrdC.cnd l):z6v l:=by
 have h:l.length<=1000000:=h;unfold z6v cO kO dI;simp only[y5c];refine⟨0,rfl,λj=>j<=l.length/\∀k<j,∀x,l[k]? =az x->x.top=ar,λj=>l.length-j,⟨by omega,λk hk=>by omega⟩,?_⟩;rintro j ⟨h3,h4⟩;refine zI (λhj=> ?_) (λhj=> ?_)
 ·obtain⟨s,hs⟩:=yC (l:=l) (i:=j) (by omega);refine⟨⟨by omega,by omega⟩,s.id,s.side,s.price,s.qty,s.top,yXw hs,s,rfl,rfl,rfl,rfl,rfl,trivial,λ_ _=>Cv.cnd.mk (λe=> ?_) (λe=> ?_)⟩
  ·rw[topI,zIq hs e h4];(repeat'(first|exact rfl|exact trivial|assumption|apply ao|refineλ(_:Unit) (_:True)=>?_|refine ap () ?_|omega|(dsimp only;omega)))
  ·refine⟨j+1,by rw[w64 (by omega)];rfl,⟨by omega,λk hk x hx=> ?_⟩,by(first|omega|(dsimp only;omega)),by(repeat'(first|exact trivial|exact rfl|apply ao))⟩;rcases y7k k j with hk'|hk'
   ·exact h4 k hk' x hx
   ·obtain rfl:k=j:=by omega
    rw[hs]at hx;cases hx;exact e
 ·rw[topI,zHr λk x hx=>h4 k (by have:=(y5f.1 hx).1;omega) x hx];(repeat'(first|exact rfl|exact trivial|assumption|apply ao|refineλ(_:Unit) (_:True)=>?_|refine ap () ?_|omega|(dsimp only;omega)))
def yAc:idxOrdC.ok Tryz.prog 211:=okw mixed (gokc yOx gok0) 0 (λ_=>[]) (λl=>yNt l) [] Tryz.func211 yNc
def yHg (i:RsI) (j:Nat):i.idx (j+1)=i.idx j++if i.out.getD j 0<i.l.getD j 0 then[j]else[]:=by
 rw[RsI.idx,y9l,y9g];by_cases h:i.out.getD j 0<i.l.getD j 0
 ·rw[y5d h,y9z (by simpa using h)];rfl
 ·rw[y5b h,xAa (by simpa using h)];rfl
def yVe (i:RsI) {k n:Nat} (h:n∈i.idx k):n<k:=by
 have:=(y7c.1 h).1;exact y8b.1 this
def z6i (i:RsI) (k:Nat):(i.idx k).length<=k:=by
 have:=y8n (λn=>decide (i.out.getD n 0<i.l.getD n 0)) (ak k);rw[List.length_range]at this;exact this
def zXz:∀(z:List (Nat×Int)) (o:List Int),(z.foldl (λo y=>o.set y.1 (aa.wrap (o.getD y.1 0+y.2))) o).length=o.length
 |[],_=>rfl
 |y::z,o=>by rw[y8v,zXz z,y6j]
def y1d (i:RsI) (h:restC.cnd i):yQy i:=by
 obtain⟨hl,ho,hq,hle,hb⟩:i.ok:=h;unfold yQy dI;simp only[yZ,y5c];have hil:∀j,(i.left j).length=(i.idx j).length:=λj=>y5c _
 refine⟨0,by(first|exact rfl|exact trivial),by(first|exact rfl|exact trivial),by(first|exact rfl|exact trivial),λj=>j<=i.l.length,λj=>i.l.length-j,y6i _,λj hj=>zI (λc=> ?_) (λc=> ?_)⟩
 ·have hj':j<i.l.length:=by omega
  obtain⟨n,hn⟩:=yC (l:=i.l) (i:=j) hj';obtain⟨o,hoo⟩:=yC (l:=i.out) (i:=j) (by omega);have bj:=hb j;rw[zU hn,zU hoo]at bj;have is:=yHg i j;rw[zU hn,zU hoo]at is;have il:=z6i i j;refine⟨⟨by omega,by omega⟩,n,elI hn,⟨by omega,by omega⟩,o,elI hoo,zI (λa=> ?_) (λa=> ?_)⟩
  ·rw[y5d (by omega)]at is;refine⟨⟨by omega,by omega⟩,n,elI hn,⟨by omega,by omega⟩,o,elI hoo,by rw[hil];omega,by omega,j+1,wjn (by omega),?_,?_,hj',by dsimp only;omega,by(repeat'(first|exact trivial|exact rfl|apply ao))⟩
   ·rw[w64 (by omega),RsI.left,is,y5l];simp[iE,RsI.left,hn,hoo]
   ·rw[is];simp[iE]
  ·rw[y5b (by omega),y6a]at is;exact⟨j+1,wjn (by omega),by rw[RsI.left,is];rfl,by rw[is],hj',by dsimp only;omega,by(repeat'(first|exact trivial|exact rfl|apply ao))⟩
 have hje:j=i.l.length:=by omega
 subst hje;have il:=z6i i i.l.length;refine⟨⟨i.left i.l.length,i.least,i.q⟩,rfl,rfl,rfl,⟨by dsimp only;rw[hil];omega,hq,hle⟩,λ_ _=> ?_⟩;have epl:jC ⟨i.left i.l.length,i.least,i.q⟩=i.pl:=rfl;rw[epl];have hpl:i.pl.length<=(i.idx i.l.length).length:=by
  rcases z2x ⟨i.left i.l.length,i.least,i.q⟩with e|e
  ·rw[epl]at e;rw[e];dsimp only;rw[hil];exact y5x _
  ·rw[epl]at e;rw[e];exact y6i _
 have hal:∀k,(i.add k).length=i.out.length:=λk=>zXz _ _
 refine⟨0,by(first|exact rfl|exact trivial),by(first|exact rfl|exact trivial),λk=>k<=i.pl.length,λk=>i.pl.length-k,y6i _,λk hk=>zI (λc=> ?_) (λc=> ?_)⟩
 ·have hk':k<i.pl.length:=by omega
  obtain⟨x,hx⟩:=yC (l:=i.pl) (i:=k) hk';obtain⟨n,hn⟩:=yC (l:=i.idx i.l.length) (i:=k) (by omega);have hnl:=yVe i (y5m hn);obtain⟨y,hy⟩:=yC (l:=i.add k) (i:=n) (by rw[hal];omega);have ea:i.add (k+1)=(i.add k).set n (aa.wrap (y+x)):=by
   have hz:((i.idx i.l.length).zip i.pl)[k]? =az (n,x):=by rw[y9w];exact⟨hn,hx⟩
   have ey:(i.add k).getD n 0=y:=zU hy;rw[RsI.add,y6m,hz,y9k];show(i.add k).set n (aa.wrap ((i.add k).getD n 0+x))=_;rw[ey]
  have hnm:((i.idx i.l.length).map λ(n:Nat)=>(n:Int))[k]? =az (n:Int):=by rw[y6q,hn];rfl
  rw[hal];refine⟨⟨by omega,by omega⟩,x,elI hx,⟨by omega,by omega⟩,n,elI hnm,⟨by omega,by omega⟩,y,elI hy,⟨by omega,by omega⟩,by omega,k+1,wjn (by omega),?_,hk',by dsimp only;omega,by(repeat'(first|exact trivial|exact rfl|apply ao))⟩;rw[ea,y5u,zUx hy]
 ·have hke:k=i.pl.length:=by omega
  subst hke;exact⟨(),rfl,trivial⟩
def z5g:restC.ok Tryz.prog 222:=okw mixed (gokc yFj gok0) 0 (λ_=>[]) (λi=>y2i i) [] Tryz.func222 y1d
structure PsI where
 l:List Int
 top:Int
 most:Int
 least:Int
 q:Int
def PsI.first (i:PsI):Int:=min (min (i.l.getD i.top.toNat 0) i.most) i.q
def PsI.rs (i:PsI):RsI:=if 0<=i.top/\i.top<i.l.length then⟨i.l,(af i.l.length 0).set i.top.toNat i.first,i.least,i.q-i.first⟩else⟨i.l,af i.l.length 0,i.least,i.q⟩
def zDy (i:PsI):List Int:=if yU i.l i.q=aq/\1<=i.least/\0<=i.most then nQ i.rs else[]
def proC:Con:=con1 PsI (λi=>[iV i.l,zA i.top,zA i.most,zA i.least,zA i.q]) (λ_=>[]) (λi=>i.l.length<=1000000/\i64r i.q/\i64r i.least/\i64r i.most) (λ_=> .own 0) (λi=>[.own 2 1 (iE (zDy i))])
structure SpI where
 l:List Int
 part:Int
 least:Int
 q:Int
def SpI.rs (i:SpI):RsI:=⟨i.l,hY i.l (i.q*i.part / 100),i.least,i.q-i.q*i.part / 100⟩
def zDg (i:SpI):List Int:=if yU i.l i.q=aq/\0<=i.part/\i.part<=100/\1<=i.least then nQ i.rs else[]
def splC:Con:=con1 SpI (λi=>[iV i.l,zA i.part,zA i.least,zA i.q]) (λ_=>[]) (λi=>i.l.length<=1000000/\i64r i.q/\i64r i.least/\i64r i.part) (λ_=> .own 0) (λi=>[.own 2 1 (iE (zDg i))])
def zDx (a:RsI):Prop:=a.l.length<=250/\a.out.length=a.l.length/\((-9223372036854775808)<=a.q/\a.q<=9223372036854775807)/\((-9223372036854775808)<=a.least/\a.least<=9223372036854775807)/\∀(b:Nat),0<=a.out.getD b 0/\a.out.getD b 0<=a.l.getD b 0/\a.l.getD b (0:Int)<=(1000000:Int)
def zOg (a:RsI) (b:PsI):Prop:=(zDx a)/\∀(c:Unit),True->∃(d:Unit),iE (zDy b)=iE (nQ a)/\True
def zNp (a:PsI):Prop:=∃(b:RsI),iE b.l=iE a.l/\b.least=a.least/\b.q=a.q/\iE b.out=af (↑(iE a.l).length:Int).toNat [dI 0]/\zOg b a
def tP (a:PsI):=(af (↑(iE a.l).length:Int).toNat [dI 0])
def zMc (a:PsI) (b:Int):=(zX (tP a) a.top.toNat 0 [dI (min (min b a.most) a.q)])
def yZq (i:PsI):Prop:=
 ∃(a:LqI),iE a.l=iE i.l/\a.q=i.q/\(j6 a)/\∀(b:Unit),True->cnd (!yU a.l a.q) (∃(c:Unit),iE (zDy i)=[]/\True) (cnd (decide (i.least<1)) (∃(c:Unit),iE (zDy i)=[]/\True) (cnd (decide (i.most<0)) (∃(c:Unit),iE (zDy i)=[]/\True) ((0<=(↑(iE i.l).length:Int)/\(↑(iE i.l).length:Int)<=(↑(iE i.l).length:Int)/\(↑(iE i.l).length:Int)<=9223372036854775807/\(↑(8:Nat):Int)*(↑(iE i.l).length:Int)<=2 ^ (48:Nat))/\cnd (decide (i.top>=0)) (cnd (decide (i.top<(↑(iE i.l).length:Int))) ((0<=i.top/\i.top<(↑(iE i.l).length:Int))/\∃(c:Int),zE (iE i.l) i.top.toNat 0 1=az [dI c]/\(0<=i.top/\i.top<(↑(tP i).length:Int))/\i.top.toNat<(tP i).length/\(0<=i.top/\i.top<(↑(zMc i c).length:Int))/\∃(d:Int),zE (zMc i c) i.top.toNat 0 1=az [dI d]/\∃(e:RsI),iE e.l=iE i.l/\e.least=i.least/\e.q=aa.wrap (i.q-d)/\iE e.out=zX (tP i) i.top.toNat 0 [dI (min (min c i.most) i.q)]/\zOg e i) (zNp i)) (zNp i))))
def yYv (i:SpI):Prop:=
 ∃(a:LqI),iE a.l=iE i.l/\a.q=i.q/\(j6 a)/\∀(b:Unit),True->cnd (!yU a.l a.q) (∃(c:Unit),iE (zDg i)=[]/\True) (cnd (decide (i.part<0)) (∃(c:Unit),iE (zDg i)=[]/\True) (cnd (decide (i.part>100)) (∃(c:Unit),iE (zDg i)=[]/\True) (cnd (decide (i.least<1)) (∃(c:Unit),iE (zDg i)=[]/\True) (∃(c:ShI),c.a=i.q/\c.b=i.part/\c.c=100/\(0<=c.a/\c.a<=(2000000000:Int)/\(0:Int)<=c.b/\c.b<=(2000000000:Int)/\(1:Int)<=c.c/\c.c<=2000000000)/\∀(d:Unit),True->∃(e:LqI),iE e.l=iE i.l/\e.q=c.a*c.b / c.c/\(j6 e)/\∀(f:Unit),True->∃(g:RsI),iE g.l=iE i.l/\g.least=i.least/\g.q=aa.wrap (i.q-c.a*c.b / c.c)/\iE g.out=iE (hY e.l e.q)/\(zDx g)/\∀(h:Unit),True->∃(j:Unit),iE (zDg i)=iE (nQ g)/\True))))
end Sx
