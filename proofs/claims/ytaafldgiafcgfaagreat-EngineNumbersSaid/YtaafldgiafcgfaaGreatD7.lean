/- Texts of ours. No condition. -/
import Derived.Laws.Externs
import Derived.Test.YtaafldgiafcgfaaGreatD6
set_option linter.all false
open Go.IntKind renaming i64->aa,u64->ab
open List renaming map->ac,take->ae,replicate->af,drop->ag,range->aj
open Exists renaming intro->ak
open And renaming intro->am
open Option renaming some->ao
open Bool renaming false->ap,true->aq
open Sx.AObj renaming own->ar,cells->au,fro->av
open Int renaming mul_nonneg->aw,mul_comm->ax
namespace Sx
set_option maxRecDepth 100000
open Go Cv Go.Proofs
def zNh {α:Type} {f:α->α} {Q:α->Prop} (hf:∀x,Q x->Q (f x)):∀{l:List α} (i:Nat),(∃x∈l,Q x)->∃x∈l.modify i f,Q x
 |[],i,⟨x,hx,_⟩=>by cases hx
 |a::l,0,⟨x,hx,q⟩=>by
  rcases y1r.1 hx with rfl|hx
  ·exact⟨f x,y1f,hf x q⟩
  ·exact⟨x,y1g _ hx,q⟩
 |a::l,i+1,⟨x,hx,q⟩=>by
  rw[y6c];rcases y1r.1 hx with rfl|hx
  ·exact⟨x,y1f,q⟩
  ·obtain⟨y,hy,hq⟩:=zNh hf (l:=l) i ⟨x,hx,q⟩;exact⟨y,y1g _ hy,hq⟩
def yAo {a:Arena} (h:a.fit) (n:Int) (t:Bool):(a.topF n t).fit:=by
 obtain⟨h1,h2,h3⟩:=h;rw[Arena.topF];split
 ·refine⟨by simpa using h1,λhf=> ?_,by simpa using h3⟩;exact zNh (f:=λs:Slot=>{s with top:=t}) (Q:=λs=>s.used=ap) (λx hx=>hx) _ (h2 hf)
 ·exact⟨h1,h2,h3⟩
def z8p {b:Book} (h:b.a.fit) (s:Int):(b.untop s).fit:=by
 rw[Book.untop]
 repeat' split
 all_goals first|exact h|exact yAo h _ _
def z8b {a:Arena} (h:a.fit):a.openQ.fit:=by
 obtain⟨h1,h2,h3⟩:=h;refine⟨h1,h2,λq hq=> ?_⟩;rcases y2f.1 hq with hq|hq
 ·exact h3 q hq
 ·rw[y2l.1 hq];exact .inl rfl
def zXl {b:Book} (h:b.a.fit):b.newQ.2.2.fit:=by
 rw[Book.newQ];split
 ·exact z8b h
 ·exact h
def pE {b:Book} (h:b.a.fit) (s p:Int):(b.queueF s p).1.a.fit:=by
 rw[Book.queueF]
 repeat' split
 ·exact h
 ·exact zXl h
 ·exact zXl h
def z6p (b:Book) (s:Int):(b.untop s).slots.length=b.a.slots.length/\(b.untop s).queues=b.a.queues:=by
 have ht:∀n t,(b.a.topF n t).slots.length=b.a.slots.length/\(b.a.topF n t).queues=b.a.queues:=by
  intro n t;rw[Arena.topF];split
  ·exact⟨by simp,rfl⟩
  ·exact⟨rfl,rfl⟩
 rw[Book.untop]
 repeat' split
 all_goals first|exact⟨rfl,rfl⟩|exact ht _ _
def zOv {b:Book} (h:b.fit) (id s:Int):(b.leadF id s).fit:=by
 obtain⟨h1,h2,h3,h4,h5⟩:=h;have hl:=z6p b s;rw[Book.leadF];split
 all_goals exact⟨z8p h1 s,by rw[hl.2];exact h2,h3,h4,h5⟩
def zPq {b:Book} (h:b.fit):b.small:=by
 obtain⟨⟨h1,_⟩,h2,h3,h4,h5⟩:=h;exact⟨⟨h1,oM⟩,oM,oM,oM⟩
def yQb (i:BaI) (h:badd1C.cnd i):yAs i:=by
 have hfit:i.b.fit:=h;have hsm:=zPq hfit;unfold yAs zEs mN lN lJ eV qG zGa zM yJ rQ n8 yH pF rP dI;have plc:∀(b:Book) (x:Int),vF (Value.int aa i.id) [D.v (.int .i64 1),D.v (.int .i64 i.price),D.v (.int .i64 x)] (atE b.at_)=atE (n9 i.id ⟨1,i.price,x⟩ b.at_):=λb x=>zSr i.id ⟨1,i.price,x⟩ b.at_
 refine⟨k0 _ _,(pget i.b.at_ i.id).isSome,_,_,_,zQw _ _,1,rfl,trivial,λ_ _=> ?_⟩;refine Cv.cnd.mk (λc=>absurd c Z8) λ_=> ?_
 refine zH (λc=> ?_) (λc=>zH (λd=> ?_) (λd=> ?_))
 ·have ha:i.b.addF 1 i.id i.price i.qty=(i.b,24):=by rw[Book.addF,y1a (.inl c)]
  rw[ha];exact kp
 ·have ha:i.b.addF 1 i.id i.price i.qty=(i.b,24):=by rw[Book.addF,y1a (.inr d)]
  rw[ha];exact kp
 have hq:¬(i.qty<1\/1000000<i.qty):=by omega
 refine Cv.cnd.mk (λe=> ?_) (λe=> ?_)
 ·have ha:i.b.addF 1 i.id i.price i.qty=(i.b,25):=by rw[Book.addF,y0y hq,y1a e]
  rw[ha];exact kp
 have hlen:(atE i.b.at_).length=i.b.at_.length:=by simp[atE]
 rw[hlen];refine zH (λf=> ?_) (λf=> ?_)
 ·have ha:i.b.addF 1 i.id i.price i.qty=(i.b,13):=by rw[Book.addF,y0y hq,y0y (by rw[e];decide),y1a (by omega)]
  rw[ha];exact kp
 have ha:i.b.addF 1 i.id i.price i.qty=(i.b.stand 1 i.id i.price i.qty,0):=by rw[Book.addF,y0y hq,y0y (by rw[e];decide),y0y (by omega)]
 rw[ha];simp only[y0z];refine⟨aq,λx=>x=i.b.leads 1 i.price,Cv.cnd.mk (λg=>⟨aq,rfl,?_,k0q⟩) (λg=> ?_),λx hx=> ?_⟩
 ·have:i.b.buys=[]:=y1z (by have:(i.b.buys.length:Int)=0:=(by simpa using g);omega);rw[Book.leads,rL,this]
 ·obtain⟨r,l,hl⟩:∃r l,i.b.buys=r::l:=by
   cases hb:i.b.buys with
   |nil=>rw[hb]at g;exact absurd g Z8
   |cons r l=>exact⟨r,l,rfl⟩
  refine⟨⟨oM,by rw[hl,y1d];omega⟩,r.price,elA (x:=r) (by rw[hl];rfl) (by simp[zB]) rfl,⟨1,i.price,r.price⟩,rfl,rfl,rfl,trivial,λ_ _=>⟨_,rfl,?_,k0q⟩⟩;rw[Book.leads,rL,hl]
 subst hx;refine Cv.cnd.mk (λg=> ?_) (λg=> ?_)
 ·have hled:i.b.led i.id 1 i.price=i.b.leadF i.id 1:=by rw[Book.led,y1a g]
  have hf1:=zOv hfit i.id 1;have hst:i.b.stand 1 i.id i.price i.qty={((i.b.leadF i.id 1).queueF 1 i.price).1 with a:=(((i.b.leadF i.id 1).queueF 1 i.price).1.a.push ((i.b.leadF i.id 1).queueF 1 i.price).2 i.id i.qty (i.b.leads 1 i.price)).1,at_:=n9 i.id ⟨1,i.price,(((i.b.leadF i.id 1).queueF 1 i.price).1.a.push ((i.b.leadF i.id 1).queueF 1 i.price).2 i.id i.qty (i.b.leads 1 i.price)).2.1⟩ ((i.b.leadF i.id 1).queueF 1 i.price).1.at_}:=by
   simp only[Book.stand,hled]
  refine⟨⟨i.b,i.id⟩,rfl,trivial,rF8 ⟨rfl,hsm,λ_ _=>⟨⟨i.b.leadF i.id 1,i.price⟩,trivial,rF6 (rF3 ⟨rfl,hf1,λ_ _=>⟨trivial,?_⟩⟩)⟩⟩⟩;refine⟨⟨((i.b.leadF i.id 1).queueF 1 i.price).1.a,((i.b.leadF i.id 1).queueF 1 i.price).2,i.id,i.qty,i.b.leads 1 i.price⟩,rF4 ⟨rfl,pE hf1.1 1 i.price,λ_ _=>⟨k0 _ _,(),?_⟩⟩⟩;dsimp only;rw[hst,plc]
  exact kp
 ·have hled:i.b.led i.id 1 i.price=i.b:=by rw[Book.led,y0y (by rw[g];decide)]
  have hst:i.b.stand 1 i.id i.price i.qty={(i.b.queueF 1 i.price).1 with a:=((i.b.queueF 1 i.price).1.a.push (i.b.queueF 1 i.price).2 i.id i.qty (i.b.leads 1 i.price)).1,at_:=n9 i.id ⟨1,i.price,((i.b.queueF 1 i.price).1.a.push (i.b.queueF 1 i.price).2 i.id i.qty (i.b.leads 1 i.price)).2.1⟩ (i.b.queueF 1 i.price).1.at_}:=by
   simp only[Book.stand,hled]
  refine⟨⟨i.b,i.price⟩,trivial,rF6 (rF3 ⟨rfl,hfit,λ_ _=>⟨trivial,?_⟩⟩)⟩;refine⟨⟨(i.b.queueF 1 i.price).1.a,(i.b.queueF 1 i.price).2,i.id,i.qty,i.b.leads 1 i.price⟩,rF4 ⟨rfl,pE hfit.1 1 i.price,λ_ _=>⟨k0 _ _,(),?_⟩⟩⟩;dsimp only;rw[hst,plc]
  exact kp
def z9z:badd1C.ok Tryz.prog 196:=okw mixed (gokc tF (gokc aM (gokc yDa (gokc z8q (gokc zXo gok0))))) 0 (λ_=>yNj) (λ_=>[]) [0] Tryz.func196 yQb
def yOj (i:BaI) (h:badd2C.cnd i):yDl i:=by
 have hfit:i.b.fit:=h;have hsm:=zPq hfit;unfold yDl zFz m3 zGj zL yK rQ n8 yH lN lJ eV qG pF rP dI;have plc:∀(b:Book) (x:Int),vF (Value.int aa i.id) [D.v (.int .i64 2),D.v (.int .i64 i.price),D.v (.int .i64 x)] (atE b.at_)=atE (n9 i.id ⟨2,i.price,x⟩ b.at_):=λb x=>zSr i.id ⟨2,i.price,x⟩ b.at_
 refine⟨k0 _ _,(pget i.b.at_ i.id).isSome,_,_,_,zQw _ _,2,rfl,trivial,λ_ _=> ?_⟩;refine Cv.cnd.mk (λc=>absurd c Z8) λ_=> ?_
 refine zH (λc=> ?_) (λc=>zH (λd=> ?_) (λd=> ?_))
 ·have ha:i.b.addF 2 i.id i.price i.qty=(i.b,24):=by rw[Book.addF,y1a (.inl c)]
  rw[ha];exact kp
 ·have ha:i.b.addF 2 i.id i.price i.qty=(i.b,24):=by rw[Book.addF,y1a (.inr d)]
  rw[ha];exact kp
 have hq:¬(i.qty<1\/1000000<i.qty):=by omega
 refine Cv.cnd.mk (λe=> ?_) (λe=> ?_)
 ·have ha:i.b.addF 2 i.id i.price i.qty=(i.b,25):=by rw[Book.addF,y0y hq,y1a e]
  rw[ha];exact kp
 have hlen:(atE i.b.at_).length=i.b.at_.length:=by simp[atE]
 rw[hlen];refine zH (λf=> ?_) (λf=> ?_)
 ·have ha:i.b.addF 2 i.id i.price i.qty=(i.b,13):=by rw[Book.addF,y0y hq,y0y (by rw[e];decide),y1a (by omega)]
  rw[ha];exact kp
 have ha:i.b.addF 2 i.id i.price i.qty=(i.b.stand 2 i.id i.price i.qty,0):=by rw[Book.addF,y0y hq,y0y (by rw[e];decide),y0y (by omega)]
 rw[ha];simp only[y0z];refine⟨aq,λx=>x=i.b.leads 2 i.price,Cv.cnd.mk (λg=>⟨aq,rfl,?_,k0q⟩) (λg=> ?_),λx hx=> ?_⟩
 ·have:i.b.sells=[]:=y1z (by have:(i.b.sells.length:Int)=0:=(by simpa using g);omega);rw[Book.leads,rJ,this]
 ·obtain⟨r,l,hl⟩:∃r l,i.b.sells=r::l:=by
   cases hb:i.b.sells with
   |nil=>rw[hb]at g;exact absurd g Z8
   |cons r l=>exact⟨r,l,rfl⟩
  refine⟨⟨oM,by rw[hl,y1d];omega⟩,r.price,elA (x:=r) (by rw[hl];rfl) (by simp[zB]) rfl,⟨2,i.price,r.price⟩,rfl,rfl,rfl,trivial,λ_ _=>⟨_,rfl,?_,k0q⟩⟩;rw[Book.leads,rJ,hl]
 subst hx;refine Cv.cnd.mk (λg=> ?_) (λg=> ?_)
 ·have hled:i.b.led i.id 2 i.price=i.b.leadF i.id 2:=by rw[Book.led,y1a g]
  have hf1:=zOv hfit i.id 2;have hst:i.b.stand 2 i.id i.price i.qty={((i.b.leadF i.id 2).queueF 2 i.price).1 with a:=(((i.b.leadF i.id 2).queueF 2 i.price).1.a.push ((i.b.leadF i.id 2).queueF 2 i.price).2 i.id i.qty (i.b.leads 2 i.price)).1,at_:=n9 i.id ⟨2,i.price,(((i.b.leadF i.id 2).queueF 2 i.price).1.a.push ((i.b.leadF i.id 2).queueF 2 i.price).2 i.id i.qty (i.b.leads 2 i.price)).2.1⟩ ((i.b.leadF i.id 2).queueF 2 i.price).1.at_}:=by
   simp only[Book.stand,hled]
  refine⟨⟨i.b,i.id⟩,rfl,trivial,rF8 ⟨rfl,hsm,λ_ _=>⟨⟨i.b.leadF i.id 2,i.price⟩,trivial,rF6 (rF3 ⟨rfl,hf1,λ_ _=>⟨trivial,?_⟩⟩)⟩⟩⟩;refine⟨⟨((i.b.leadF i.id 2).queueF 2 i.price).1.a,((i.b.leadF i.id 2).queueF 2 i.price).2,i.id,i.qty,i.b.leads 2 i.price⟩,rF4 ⟨rfl,pE hf1.1 2 i.price,λ_ _=>⟨k0 _ _,(),?_⟩⟩⟩;dsimp only;rw[hst,plc]
  exact kp
 ·have hled:i.b.led i.id 2 i.price=i.b:=by rw[Book.led,y0y (by rw[g];decide)]
  have hst:i.b.stand 2 i.id i.price i.qty={(i.b.queueF 2 i.price).1 with a:=((i.b.queueF 2 i.price).1.a.push (i.b.queueF 2 i.price).2 i.id i.qty (i.b.leads 2 i.price)).1,at_:=n9 i.id ⟨2,i.price,((i.b.queueF 2 i.price).1.a.push (i.b.queueF 2 i.price).2 i.id i.qty (i.b.leads 2 i.price)).2.1⟩ (i.b.queueF 2 i.price).1.at_}:=by
   simp only[Book.stand,hled]
  refine⟨⟨i.b,i.price⟩,trivial,rF6 (rF3 ⟨rfl,hfit,λ_ _=>⟨trivial,?_⟩⟩)⟩;refine⟨⟨(i.b.queueF 2 i.price).1.a,(i.b.queueF 2 i.price).2,i.id,i.qty,i.b.leads 2 i.price⟩,rF4 ⟨rfl,pE hfit.1 2 i.price,λ_ _=>⟨k0 _ _,(),?_⟩⟩⟩;dsimp only;rw[hst,plc]
  exact kp
def yFt:badd2C.ok Tryz.prog 196:=okw mixed (gokc tF (gokc aM (gokc yFk (gokc z9d (gokc zXo gok0))))) 0 (λ_=>yNj) (λ_=>[]) [0] Tryz.func196 yOj
def yLd:baddC.ok Tryz.prog 196:=λj=>match j with
 |⟨i,ap⟩=>z9z i
 |⟨i,aq⟩=>yFt i
def yXb (i:SaI) (h:saddC.cnd i):yMg i:=by
 obtain⟨hp,hbl,hb⟩:i.s.fit:=h;unfold yMg zKf tC mM zEx zEi xS dI;simp only[zWo];have hml:(yM i.s.wh).length=i.s.wh.length:=by simp[yM]
 rw[hml];have out (e:i.inst<0\/i.s.books.length<=i.inst):MSt.addF i=(i.s,20):=by rw[MSt.addF,y1a e]
 refine⟨fD _ _,(zBh i.s.wh i.id).isSome,_,yQz _ _,zH (λc=>Cv.cnd.mk (λd=> ?_) (λd=> ?_)) (λc=> ?_)⟩
 ·have d:¬i.inst<(i.s.books.length:Int):=by simpa using d
  rw[out (.inr (by omega))];exact kp
 ·have d:i.inst<(i.s.books.length:Int):=by simpa using d
  have hn:¬(i.inst<0\/(i.s.books.length:Int)<=i.inst):=by omega
  refine Cv.cnd.mk (λe=> ?_) (λe=>zH (λf=> ?_) (λf=> ?_))
  ·rw[MSt.addF,y0y hn,y1a e];exact kp
  ·rw[MSt.addF,y0y hn,y0y (by rw[e];decide),y1a (by omega)];exact kp
  ·refine⟨⟨i.s.p,i.inst,i.price⟩,rF8 (rF4 ⟨rfl,hp,λ_ _=>Cv.cnd.mk (λg=> ?_) (λg=> ?_)⟩)⟩
   ·have g:i.s.p.price i.inst i.price≠0:=by simpa using g
    rw[MSt.addF,y0y hn,y0y (by rw[e];decide),y0y (by omega),y1a g];exact kp
   ·have g:i.s.p.price i.inst i.price=0:=by simpa using g
    obtain⟨x,hx⟩:=yE (l:=i.s.books) (i:=i.inst.toNat) oM;have hba:i.s.bookAt i.inst=x:=zV hx;have ha:MSt.addF i=({i.s with books:=i.s.books.set i.inst.toNat (x.addF (zC i.sd) i.id i.price i.qty).1,wh:=if(x.addF (zC i.sd) i.id i.price i.qty).2=0 then zXj i.id i.inst i.s.wh else i.s.wh},(x.addF (zC i.sd) i.id i.price i.qty).2):=by
     rw[MSt.addF,y0y hn,y0y (by rw[e];decide),y0y (by omega),y0y (by simp[g])];simp only[hba]
    refine⟨⟨oM,oM⟩,oM,x,hx,⟨⟨x,i.id,i.price,i.qty⟩,i.sd⟩,rF4 ⟨rfl,hb x (y1j hx),λ_ _=>⟨(x.addF (zC i.sd) i.id i.price i.qty).1,rfl,trivial,oM,Cv.cnd.mk (λz=>⟨fD _ _,?_⟩) (λz=> ?_)⟩⟩⟩
    ·have z:(x.addF (zC i.sd) i.id i.price i.qty).2=0:=by simpa using z
     rw[ha,z];simp only[if_true]
     exact kp
    ·have z:¬(x.addF (zC i.sd) i.id i.price i.qty).2=0:=by simpa using z
     rw[ha,y0y z]
     exact kp
 ·rw[out (.inl (by omega))];exact kp
def yIf:saddC.ok Tryz.prog 186:=okw mixed (gokc tA (gokc yLd gok0)) 1 (λ_=>[]) (λ_=>[]) [0] Tryz.func186 yXb
def rF:∀(l:List Int) (a:Int),l.foldl min a<=a/\∀x∈l,l.foldl min a<=x
 |[],a=>⟨y4s _,by simp⟩
 |b::l,a=>by
  obtain⟨h1,h2⟩:=rF l (min a b);rw[y5d];refine⟨oM,λx hx=> ?_⟩;rcases y1r.1 hx with rfl|hx
  ·omega
  ·exact h2 x hx
def pJ:∀(l:List Int) (a:Int),a<=l.foldl max a/\∀x∈l,x<=l.foldl max a
 |[],a=>⟨y4s _,by simp⟩
 |b::l,a=>by
  obtain⟨h1,h2⟩:=pJ l (max a b);rw[y5d];refine⟨oM,λx hx=> ?_⟩;rcases y1r.1 hx with rfl|hx
  ·omega
  ·exact h2 x hx
def yKt {l:List Int} {x:Int} (h:x∈l):s7 l<=x:=by
 cases l with
 |nil=>cases h
 |cons a l=>
  rw[s7,List.tail_cons,List.headD_cons];rcases y1r.1 h with rfl|h
  ·exact(rF l x).1
  ·exact(rF l a).2 x h
def yLf {l:List Int} {x:Int} (h:x∈l):x<=lW l:=by
 cases l with
 |nil=>cases h
 |cons a l=>
  rw[lW,List.tail_cons,List.headD_cons];rcases y1r.1 h with rfl|h
  ·exact(pJ l x).1
  ·exact(pJ l a).2 x h
structure Cmd where
 kind:Int
 id:Int
 inst:Int
 side:Int
 price:Int
 qty:Int
 least:Int
 time:Int
 label:List UInt8
 deriving DecidableEq
@[reducible] def Cmd.cells (c:Cmd):List V:=[zA c.kind,zA c.id,zA c.inst,zA c.side,zA c.price,zA c.qty,zA c.least,zA c.time,sV c.label]
@[reducible] def zIi (c:Cmd):V:= .agg c.cells
def zWs:Cmd:=⟨0,0,0,0,0,0,0,0,[]⟩
structure ShI where
 a:Int
 b:Int
 c:Int
def add64C:Con:=zR ShI (λi=>[sC i.a,sC i.b,sC i.c]) (λ_=>[]) (λi=>0<=i.a/\0<=i.b/\0<=i.c/\i.c<=1) (λi=> .tup [sC ((i.a+i.b+i.c) % 18446744073709551616),sC ((i.a+i.b+i.c) / 18446744073709551616)]) (λ_=>[])
def z8l {P : Program} {f : FuncId} {fn : Func} (hf : P.funcs[f]? = some fn) (hname : (fn.name == "runtime.NumGoroutine") = false) (hb : fn.body.isNone = true) (hn : Extern.findNext fn = none) (he : Extern.find fn = some add64Entry) : add64C.ok P f := by
 intro i hc k L E w ys R hv;obtain⟨h1,h2,h3,h4⟩:0<=i.a/\0<=i.b/\0<=i.c/\i.c<=1:=hc;simp only[add64C,zR,VRL,VR,DR]at hv;obtain⟨_,_,rfl,⟨rfl,_⟩,_,_,rfl,⟨rfl,_⟩,_,_,rfl,⟨rfl,_⟩,rfl⟩:=hv;unfold Does;rw[run_callFunc_extern hf hname hb hn he,run_add64 i.a i.b i.c h1 h2 h3 h4];simp only[Result.andThen];refine⟨_,y2l.2 rfl,(),trivial,E,Ev.le.refl _,?_,R⟩;simp only[add64C,zR,VR,VRL,DR];exact⟨_,rfl,_,_,rfl,⟨rfl,rfl⟩,_,_,rfl,⟨rfl,rfl⟩,rfl⟩
def z9m:add64C.ok Tryz.prog 233:=by
 refine z8l (P:=Tryz.prog) (f:=233) (fn:=Tryz.f233) Tryz.func233 ?_ ?_ ?_ ?_
 ·kernel_rfl
 ·kernel_rfl
 ·kernel_rfl
 ·kernel_rfl
structure M2 where
 a:Int
 b:Int
def mul64C:Con:=zR M2 (λi=>[sC i.a,sC i.b]) (λ_=>[]) (λi=>0<=i.a/\i.a<=2000000000/\0<=i.b/\i.b<=2000000000) (λi=> .tup [sC 0,sC (i.a*i.b)]) (λ_=>[])
def div64C:Con:=zR M2 (λi=>[sC 0,sC i.a,sC i.b]) (λ_=>[]) (λi=>0<=i.a/\i.a<=4000000000000000000/\1<=i.b/\i.b<=2000000000) (λi=> .tup [sC (i.a / i.b),sC (i.a % i.b)]) (λ_=>[])
def ishareC:Con:=zR ShI (λi=>[zA i.a,zA i.b,zA i.c]) (λ_=>[]) (λi=>0<=i.a/\i.a<=2000000000/\0<=i.b/\i.b<=2000000000/\1<=i.c/\i.c<=2000000000) (λi=> .tup [zA (i.a*i.b / i.c),yT aq]) (λ_=>[])
def isumC:Con:=zR (List Int) (λl=>[iV l]) (λ_=>[]) (λl=>l.length<=1000/\∀x∈l,0<=x/\x<=1000000) (λl=> .tup [zA l.sum,yT aq]) (λ_=>[])
def yVq (l:List Int):List SAnn:=[{ι:=Nat,slots:=λj=>[(4,sC (l.take j).sum),(5,zA 0),(11,zA j)],rows:=λ_=>[]}]
structure LqI where
 l:List Int
 q:Int
def yQ (l:List Int) (q:Int):Bool:=decide (l.length<=250) && decide (0<=q) && l.all (λn=>decide (1<=n) && decide (n<=1000000)) && decide (q<=l.sum)
def rightC:Con:=zR LqI (λi=>[iV i.l,zA i.q]) (λ_=>[]) (λi=>i.l.length<=1000000/\y9 i.q) (λi=>yT (yQ i.l i.q)) (λ_=>[])
def yOr (i:LqI):List SAnn:=[{ι:=Nat,slots:=λj=>[(5,zA (i.l.take j).sum),(17,zA j)],rows:=λ_=>[]}]
def vV:List Int->Int->List Int
 |[],_=>[]
 |n::l,q=>min n q::vV l (q-min n q)
def uF (l:List Int) (q:Int):List Int:=if yQ l q=aq then vV l q else[]
def fifoC:Con:=zR LqI (λi=>[iV i.l,zA i.q]) (λ_=>[]) (λi=>i.l.length<=1000000/\y9 i.q) (λ_=> .own 0) (λi=>[.own 2 1 (iE (uF i.l i.q))])
def yUi (i:LqI):List SAnn:=[{ι:=Nat,slots:=λj=>[(5,.own 0),(1,zA (i.q-((vV i.l i.q).take j).sum)),(15,zA j)],rows:=λj=>[.own 2 1 (iE ((vV i.l i.q).take j))]}]
def zBi (a:M2):=(ab.wrap (ab.wrap (cE ab a.a 32*zBw ab a.b 4294967295)+cE ab (ab.wrap (zBw ab a.a 4294967295*zBw ab a.b 4294967295)) 32))
def yEw (i:M2):Prop:=
 (0:Int)<=(32:Int)/\(0:Int)<=(32:Int)/\(0:Int)<=(32:Int)/\(0:Int)<=(32:Int)/\(0:Int)<=(32:Int)/\∃(a:Unit),0=ab.wrap (ab.wrap (ab.wrap (cE ab i.a 32*cE ab i.b 32)+cE ab (zBi i) 32)+cE ab (ab.wrap (zBw ab (zBi i) 4294967295+ab.wrap (zBw ab i.a 4294967295*cE ab i.b 32))) 32)/\i.a*i.b=ab.wrap (i.a*i.b)/\True
def yEn (i:M2):Prop:=
 cnd (i.b==0) False (cnd (decide (i.b<=0)) False (ab=ab/\i.b≠0/\ab=ab/\i.b≠0/\∃(a:Unit),i.a / i.b=ab.wrap (i.a.tdiv i.b)/\i.a % i.b=i.a.tmod i.b/\True))
def z5t (i:ShI):Prop:=
 cnd (decide (i.a<0)) (∃(a:Unit),i.a*i.b / i.c=0/\aq=ap/\True) (cnd (decide (i.b<0)) (∃(a:Unit),i.a*i.b / i.c=0/\aq=ap/\True) (cnd (decide (i.c<1)) (∃(a:Unit),i.a*i.b / i.c=0/\aq=ap/\True) (∃(a:M2),a.a=ab.wrap i.a/\a.b=ab.wrap i.b/\(0<=a.a/\a.a<=(2000000000:Int)/\(0:Int)<=a.b/\a.b<=2000000000)/\∀(b:Unit),True->cnd (decide (0>=ab.wrap i.c)) (∃(c:Unit),i.a*i.b / i.c=0/\aq=ap/\True) (∃(c:M2),da ((0:Int))/\c.a=a.a*a.b/\c.b=ab.wrap i.c/\(0<=c.a/\c.a<=(4000000000000000000:Int)/\(1:Int)<=c.b/\c.b<=2000000000)/\∀(d:Unit),True->cnd (decide (c.a / c.b>9223372036854775807)) (∃(e:Unit),i.a*i.b / i.c=0/\aq=ap/\True) (∃(e:Unit),i.a*i.b / i.c=aa.wrap (c.a / c.b)/\aq=aq/\True)))))
def yNb (l:List Int):Prop:=
 ∃(a:Nat),(ae a l).sum=(0:Int)/\(0:Int)=0/\(↑a:Int)=0/\∃(b:Nat->Prop),∃(c:Nat->Nat),b a/\∀(d:Nat),b d->cnd (decide ((↑d:Int)<(↑(iE l).length:Int))) ((0<=(↑d:Int)/\(↑d:Int)<(↑(iE l).length:Int))/\∃(e:Int),zE (iE l) (↑d:Int).toNat 0 1=ao [dI e]/\∃(f:ShI),f.a=(ae d l).sum/\f.b=ab.wrap e/\f.c=0/\(0<=f.a/\0<=f.b/\0<=f.c/\f.c<=1)/\∀(g:Unit),True->(0:Int)<=(63:Int)/\∃(h:Nat),(ae h l).sum=(f.a+f.b+f.c) % (18446744073709551616:Int)/\(0:Int)=aa.wrap (0+aa.wrap (cE aa e 63+aa.wrap ((f.a+f.b+f.c) / (18446744073709551616:Int))))/\qW h d b c) ((0:Int)<=(63:Int)/\cnd (0 !=cE aa (aa.wrap (ae d l).sum) 63) (∃(e:Unit),l.sum=0/\aq=ap/\True) (∃(e:Unit),l.sum=aa.wrap (ae d l).sum/\aq=aq/\True))
def yHe (i:LqI):Prop:=
 cnd (decide ((↑(iE i.l).length:Int)>250)) (∃(a:Unit),yQ i.l i.q=ap/\True) (cnd (decide (i.q<0)) (∃(a:Unit),yQ i.l i.q=ap/\True) (∃(a:Nat),(ae a i.l).sum=0/\(↑a:Int)=0/\∃(b:Nat->Prop),∃(c:Nat->Nat),b a/\∀(d:Nat),b d->cnd (decide ((↑d:Int)<(↑(iE i.l).length:Int))) ((0<=(↑d:Int)/\(↑d:Int)<(↑(iE i.l).length:Int))/\∃(e:Int),zE (iE i.l) (↑d:Int).toNat 0 1=ao [dI e]/\cnd (decide (e<1)) (∃(f:Unit),yQ i.l i.q=ap/\True) (cnd (decide (e>1000000)) (∃(f:Unit),yQ i.l i.q=ap/\True) (∃(f:Nat),(ae f i.l).sum=aa.wrap ((ae d i.l).sum+e)/\qW f d b c))) (∃(e:Unit),yQ i.l i.q=decide (i.q<=(ae d i.l).sum)/\True)))
def jM (a:LqI):Prop:=a.l.length<=(1000000:Nat)/\(-9223372036854775808:Int)<=a.q/\a.q<=9223372036854775807
def jI (a:Nat) (b:LqI):=(ae a (vV b.l b.q))
def yMz (i:LqI):Prop:=
 ∃(a:LqI),iE a.l=iE i.l/\a.q=i.q/\(jM a)/\∀(b:Unit),True->cnd (!yQ a.l a.q) (∃(c:Unit),iE (uF i.l i.q)=[]/\True) (∃(c:Nat),i.q-(jI c i).sum=i.q/\(↑c:Int)=0/\iE (jI c i)=[]/\∃(d:Nat->Prop),∃(e:Nat->Nat),d c/\∀(f:Nat),d f->cnd (decide ((↑f:Int)<(↑(iE i.l).length:Int))) ((0<=(↑f:Int)/\(↑f:Int)<(↑(iE i.l).length:Int))/\∃(g:Int),zE (iE i.l) (↑f:Int).toNat 0 1=ao [dI g]/\((iE (jI f i)).length+1)*(8:Nat)<=(140737488355328:Nat)/\∃(h:Nat),i.q-(jI h i).sum=aa.wrap (i.q-(jI f i).sum-min g (i.q-(jI f i).sum))/\(↑h:Int)=aa.wrap ((↑f:Int)+1)/\iE (jI h i)=iE (jI f i)++[[dI (min g (i.q-(jI f i).sum))]]/\d h/\e h<e f/\True) (∃(g:Unit),iE (uF i.l i.q)=iE (jI f i)/\True))
def zSm {x:Int} (h0:0<=x) (h1:x<4294967296):zBw .u64 x 4294967295=x:=by
 have e:zBw .u64 x 4294967295=ab.wrap ((BitVec.ofInt 64 x &&& BitVec.ofInt 64 4294967295).toNat:Int):=rfl;obtain⟨n,rfl⟩:=Int.eq_ofNat_of_zero_le h0;have hn:n<4294967296:=by omega
 rw[e,BitVec.toNat_and,BitVec.ofInt_natCast,BitVec.toNat_ofNat,show(BitVec.ofInt 64 4294967295).toNat=2 ^ 32-1 by decide,Nat.and_two_pow_sub_one_eq_mod];rw[show n % 2 ^ 64 % 2 ^ 32=n by omega,lX (by omega)]
def zJf {x:Int} (h0:0<=x) (h1:x<4294967296):cE .u64 x 32=0:=by
 have:=lG .u64 x 32 Z8;rw[show((32:Nat):Int)=32 by rfl]at this;rw[this];omega
def z6i {a b m n:Int} (ha:0<=a/\a<=m) (hb:0<=b/\b<=n):0<=a*b/\a*b<=m*n:=
 ⟨aw ha.1 hb.1,Int.mul_le_mul ha.2 hb.2 hb.1 oM⟩
def ySz (i:M2) (h:mul64C.cnd i):yEw i:=by
 obtain⟨h1,h2,h3,h4⟩:0<=i.a/\i.a<=2000000000/\0<=i.b/\i.b<=2000000000:=h;have hm:=z6i ⟨h1,h2⟩ ⟨h3,h4⟩;have hs:cE ab (i.a*i.b) 32=(i.a*i.b) / 4294967296:=by
  have:=lG .u64 (i.a*i.b) 32 Z8;rw[show((32:Nat):Int)=32 by rfl]at this;exact this
 unfold yEw zBi;refine⟨Z8,Z8,Z8,Z8,Z8,(),?_,?_,trivial⟩
 ·rw[zSm h1 (by omega),zSm h3 (by omega),zJf h1 (by omega),zJf h3 (by omega),lX (x:=i.a*i.b) (by omega),hs];simp only[Int.zero_mul,Int.mul_zero,Int.zero_add,Int.add_zero];rw[lX (x:=0) (by omega)];simp only[Int.zero_add,Int.add_zero];rw[lX (x:=i.a*i.b / 4294967296) (by omega),zJf (x:=i.a*i.b / 4294967296) (by omega) (by omega),zSm (x:=i.a*i.b / 4294967296) (by omega) (by omega),lX (x:=i.a*i.b / 4294967296) (by omega),zJf (x:=i.a*i.b / 4294967296) (by omega) (by omega)];rfl
 ·rw[lX (by omega)]
def yFo:mul64C.ok Tryz.prog 227:=okw mixed gok0 0 (λ_=>[]) (λ_=>[]) [] Tryz.func227 ySz
def yPc (i:M2) (h:div64C.cnd i):yEn i:=by
 obtain⟨h1,h2,h3,h4⟩:0<=i.a/\i.a<=4000000000000000000/\1<=i.b/\i.b<=2000000000:=h;unfold yEn;have hd:0<=i.a / i.b/\i.a / i.b<=i.a:=⟨Int.ediv_nonneg h1 oM,Int.ediv_le_self _ h1⟩
 refine Cv.cnd.mk (λc=>absurd (eq_of_beq c) oM) (λ_=>zH (λc=>by omega) (λ_=>⟨rfl,oM,rfl,oM,(),?_,?_,trivial⟩))
 ·rw[Int.tdiv_eq_ediv_of_nonneg h1,lX (by omega)]
 ·rw[Int.tmod_eq_emod_of_nonneg h1]
def yBj:div64C.ok Tryz.prog 228:=okw mixed gok0 0 (λ_=>[]) (λ_=>[]) [] Tryz.func228 yPc
def yJz (i:ShI) (h:ishareC.cnd i):z5t i:=by
 obtain⟨h1,h2,h3,h4,h5,h6⟩:0<=i.a/\i.a<=2000000000/\0<=i.b/\i.b<=2000000000/\1<=i.c/\i.c<=2000000000:=h;have hm:=z6i ⟨h1,h2⟩ ⟨h3,h4⟩;have hd:0<=i.a*i.b / i.c/\i.a*i.b / i.c<=i.a*i.b:=⟨Int.ediv_nonneg hm.1 oM,Int.ediv_le_self _ hm.1⟩
 unfold z5t;rw[lX (x:=i.a) (by omega),lX (x:=i.b) (by omega),lX (x:=i.c) (by omega)];refine zH (λc=>by omega) (λ_=>zH (λc=>by omega) (λ_=>zH (λc=>by omega) (λ_=>⟨⟨i.a,i.b⟩,rfl,rfl,⟨h1,h2,h3,h4⟩,λ_ _=>zH (λc=>by omega) (λ_=>⟨⟨i.a*i.b,i.c⟩,rfl,rfl,rfl,⟨hm.1,Z9,h5,h6⟩,λ_ _=>zH (λc=>by dsimp only at c;omega) (λ_=>⟨(),?_,rfl,trivial⟩)⟩)⟩)));rw[w64 (by dsimp only;omega)]
def zOp:ishareC.ok Tryz.prog 223:=okw mixed (gokc yFo (gokc yBj gok0)) 0 (λ_=>[]) (λ_=>[]) [] Tryz.func223 yJz
def wjn {j:Nat} (h:j<=1000000):((j+1:Nat):Int)=aa.wrap ((j:Int)+1):=by rw[w64 (by omega)];rfl
def kZ {l:List Int} {j:Nat} {x:Int} (h:l[j]? =ao x):(l.take (j+1)).sum=(l.take j).sum+x:=by
 rw[y2e,h];simp
def kQ {l:List Int} (h:∀x∈l,0<=x/\x<=1000000):∀j:Nat,0<=(l.take j).sum/\(l.take j).sum<=1000000*j
 |0=>by simp
 |j+1=>by
  have ih:=kQ h j;cases hx:l[j]? with
  |none=>
   have:l.take (j+1)=l.take j:=by
    rw[y2e,hx];simp
   rw[this];omega
  |some x=>
   have:=h x (y1j hx);rw[kZ hx];omega
def yYg (l:List Int) (h:isumC.cnd l):yNb l:=by
 obtain⟨hl,hb⟩:l.length<=1000/\∀x∈l,0<=x/\x<=1000000:=h;unfold yNb qW dI;simp only[y3];refine⟨0,by(first|exact rfl|exact trivial),by(first|exact rfl|exact trivial),by(first|exact rfl|exact trivial),λj=>j<=l.length,λj=>l.length-j,y2a _,λj hj=>zH (λc=> ?_) (λc=> ?_)⟩
 ·have hj':j<l.length:=by omega
  obtain⟨x,hx⟩:=yE (l:=l) (i:=j) hj';have bx:=hb x (y1j hx);have bs:=kQ hb j;refine⟨⟨oM,oM⟩,x,elI hx,⟨(l.take j).sum,x,0⟩,rfl,by rw[lX (by omega)],rfl,⟨bs.1,bx.1,Z9,Z9⟩,λ_ _=>⟨Z8,j+1,?_,?_,wjn oM,hj',Z9,trivial⟩⟩
  ·rw[kZ hx];dsimp only;omega
  ·have e:cE aa x 63=x / 9223372036854775808:=by
    have:=lG .i64 x 63 Z8;rw[show((63:Nat):Int)=63 by rfl]at this;exact this
   dsimp only;rw[e,show x / 9223372036854775808=0 by omega,show((l.take j).sum+x+0) / 18446744073709551616=0 by omega];rfl
 ·have hj':j=l.length:=by omega
  subst hj';have bs:=kQ hb l.length;rw[y3w]at bs;have e:cE aa l.sum 63=l.sum / 9223372036854775808:=by
   have:=lG .i64 l.sum 63 Z8;rw[show((63:Nat):Int)=63 by rfl]at this;exact this
  rw[y3w,w64 (x:=l.sum) (by omega),e,show l.sum / 9223372036854775808=0 by omega];exact⟨Z8,Cv.cnd.mk (λc=>absurd c Z8) (λ_=>⟨(),by(first|exact rfl|exact trivial),by(first|exact rfl|exact trivial),trivial⟩)⟩
def yLo:isumC.ok Tryz.prog 230:=okw mixed (gokc z9m gok0) 0 (λ_=>[]) (λl=>yVq l) [] Tryz.func230 yYg
def ySe (i:LqI) (h:rightC.cnd i):yHe i:=by
 obtain⟨hl,hq⟩:i.l.length<=1000000/\y9 i.q:=h;unfold yHe qW dI;simp only[y3];refine zH (λc=>⟨(),?_,trivial⟩) (λc1=>zH (λc=>⟨(),?_,trivial⟩) (λc2=> ?_))
 ·rw[yQ,y1s (by omega:¬i.l.length<=250)];rfl
 ·rw[yQ,y1s (by omega:¬0<=i.q)];simp
 refine⟨0,by(first|exact rfl|exact trivial),by(first|exact rfl|exact trivial),λj=>j<=i.l.length/\∀k<j,∀x,i.l[k]? =ao x->1<=x/\x<=1000000,λj=>i.l.length-j,⟨y2a _,λk hk=>absurd hk (Nat.not_lt_zero k)⟩,λj hj=>zH (λc=> ?_) (λc=> ?_)⟩
 ·obtain⟨hj0,hjb⟩:=hj;have hj':j<i.l.length:=by omega
  obtain⟨x,hx⟩:=yE (l:=i.l) (i:=j) hj';have bad (hn:¬(1<=x/\x<=1000000)):yQ i.l i.q=ap:=by
   have:(i.l.all λn=>decide (1<=n) && decide (n<=1000000))=ap:=by
    rw[List.all_eq_false];exact⟨x,y1j hx,by simpa using hn⟩
   rw[yQ,this];simp
  have bs:0<=(i.l.take j).sum/\(i.l.take j).sum<=1000000*j:=by
   have:=kQ (l:=i.l.take j) (λy hy=>by
    obtain⟨k,hk⟩:=y3m.1 hy;have hkj:k<j:=by
     have:=(y1c.1 hk).1;rw[y1q]at this;omega
    rw[List.getElem?_take_of_lt hkj]at hk;have:=hjb k hkj y hk;omega) j
   rwa [List.take_take,Nat.min_self]at this
  refine⟨⟨oM,oM⟩,x,elI hx,zH (λd=>⟨(),bad oM,trivial⟩) (λd=>zH (λe=>⟨(),bad oM,trivial⟩) (λe=>⟨j+1,?_,wjn oM,⟨hj',λk hk y hy=> ?_⟩,Z9,trivial⟩))⟩
  ·rw[kZ hx,w64 (by omega)]
  ·by_cases hkj:k=j
   ·rw[hkj,hx]at hy;cases hy;omega
   ·exact hjb k oM y hy
 ·obtain⟨hj0,hjb⟩:=hj;have hj':j=i.l.length:=by omega
  subst hj';have:(i.l.all λn=>decide (1<=n) && decide (n<=1000000))=aq:=by
   rw[y4h];intro y hy;obtain⟨k,hk⟩:=y3m.1 hy;have:=hjb k ((y1c.1 hk).1) y hk;simpa using this
  refine⟨(),?_,trivial⟩;rw[yQ,this,y1v (by omega:i.l.length<=250),y1v (by omega:0<=i.q),y3w];rfl
def zDe:rightC.ok Tryz.prog 221:=okw mixed gok0 0 (λ_=>[]) (λi=>yOr i) [] Tryz.func221 ySe
def kG {l:List Int} {q:Int} (h:yQ l q=aq):l.length<=250/\0<=q/\(∀x∈l,1<=x/\x<=1000000)/\q<=l.sum:=by
 simp only[yQ,y1l,y2v,y4h]at h;exact⟨h.1.1.1,h.1.1.2,h.1.2,h.2⟩
def zIt {l:List Int} {q:Int} (h:yQ l q=aq):q<=250000000:=by
 obtain⟨h1,h2,h3,h4⟩:=kG h;have:=kQ (l:=l) (λx hx=>by have:=h3 x hx;omega) l.length;rw[y3w]at this;omega
def sI:∀(l:List Int) (q:Int),(vV l q).length=l.length
 |[],_=>rfl
 |n::l,q=>by rw[vV,y1d,y1d,sI l]
def zKu:∀(l:List Int) (q:Int) (j:Nat) (n:Int),l[j]? =ao n->(vV l q)[j]? =ao (min n (q-((vV l q).take j).sum))
 |[],_,_,_,h=>by simp at h
 |m::l,q,0,n,h=>by simp at h;subst h;simp[vV]
 |m::l,q,j+1,n,h=>by
  rw[y2w]at h;rw[vV,y2w,zKu l _ j n h,y2j,y2o];congr 2;omega
def zEl:∀(l:List Int) (q:Int) (j:Nat),0<=q->(∀x∈l,0<=x)->0<=q-((vV l q).take j).sum/\q-((vV l q).take j).sum<=q
 |[],q,j,h,_=>by simp[vV,h]
 |m::l,q,0,h,_=>by simp[h]
 |m::l,q,j+1,h,hb=>by
  have hm:=hb m y1f;have:=zEl l (q-min m q) j oM (λx hx=>hb x (y1g _ hx));rw[vV,y2j,y2o];omega
def yUh (i:LqI) (h:fifoC.cnd i):yMz i:=by
 obtain⟨hl,hq⟩:i.l.length<=1000000/\y9 i.q:=h;unfold yMz jI jM dI;refine⟨i,rfl,rfl,⟨hl,hq⟩,λ_ _=>Cv.cnd.mk (λc=> ?_) (λc=> ?_)⟩
 ·have c:yQ i.l i.q=ap:=by simpa using c
  refine⟨(),?_,trivial⟩;rw[uF,y0y (by rw[c];decide)];rfl
 have c:yQ i.l i.q=aq:=by simpa using c
 obtain⟨h1,h2,h3,h4⟩:=kG c;have hq2:=zIt c;have h3':∀x∈i.l,0<=x:=λx hx=>by have:=h3 x hx;omega
 simp only[y3];refine⟨0,by simp,rfl,rfl,λj=>j<=i.l.length,λj=>i.l.length-j,y2a _,λj hj=>zH (λd=> ?_) (λd=> ?_)⟩
 ·have hj':j<i.l.length:=by omega
  obtain⟨x,hx⟩:=yE (l:=i.l) (i:=j) hj';have bx:=h3 x (y1j hx);have g:=zKu i.l i.q j x hx;have r:=zEl i.l i.q j h2 h3';refine⟨⟨oM,oM⟩,x,elI hx,by rw[y1q];omega,j+1,?_,wjn oM,?_,hj',Z9,trivial⟩
  ·rw[kZ g,w64 (by omega)];omega
  ·rw[y2e,g];simp[iE]
 ·have hj':j=i.l.length:=by omega
  subst hj';refine⟨(),?_,trivial⟩;rw[uF,y1a c,y1k (by rw[sI];omega)]
def z3r:fifoC.ok Tryz.prog 210:=okw mixed (gokc zDe gok0) 0 (λ_=>[]) (λi=>yUi i) [] Tryz.func210 yUh
structure Ent where
 slot:Int
 id:Int
 qty:Int
 top:Bool
 deriving DecidableEq
def yXm:Ent:=⟨0,0,0,ap⟩
def zIj (e:Ent):List D:=[.v (.int .i64 e.slot),.v (.int .i64 e.id),.v (.int .i64 e.qty),.v (.bool e.top)]
@[reducible] def y0t (e:Ent):V:= .agg [zA e.slot,zA e.id,zA e.qty,yT e.top]
def Slot.ent (s:Slot):Ent:=⟨s.n,s.id,s.qty,s.top⟩
def Arena.slotAt (a:Arena) (k:Nat):Slot:=a.slots.getD k slot0
def Arena.getF (a:Arena) (n:Int):Ent×Bool:=if a.usedAt n=aq then((a.slotAt n.toNat).ent,aq)else(yXm,ap)
def agetC:Con:=zR ArN (λi=>[.nm 0 0,zA i.n]) (λi=>[kY i.a]) (λi=>i.a.slots.length<=1000000) (λi=> .tup [y0t (i.a.getF i.n).1,yT (i.a.getF i.n).2]) (λi=>[kY i.a])
def zUk (sl:List Slot):Int->List Nat->Prop
 |at_,[]=>at_= -1
 |at_,k::l=>at_=k/\k<sl.length/\zUk sl (sl.getD k slot0).back l
structure ArL where
 a:Arena
 n:Int
 l:List Nat
def r9 (l:List Nat) (j:Nat):Int:=match l[j]? with
 |some k=>k
 |none=> -1
def Arena.ents (a:Arena) (l:List Nat):List Ent:=l.map λk=>(a.slotAt k).ent
structure Arena.listOk (a:Arena) (n:Int) (l:List Nat):Prop where
 len:l.length<=1000000
 ch:if 0<=n/\n<a.queues.length then zUk a.slots (a.queues.getD n.toNat aH).first l else l=[]
def alistC:Con:=zR ArL (λi=>[.nm 0 0,zA i.n]) (λi=>[kY i.a]) (λi=>i.a.listOk i.n i.l) (λ_=> .own 1) (λi=>[kY i.a,.own 247 4 ((i.a.ents i.l).map zIj)])
def yPd (i:ArL):List SAnn:=[{ι:=Nat,slots:=λj=>[(5,.own 0),(6,zA (r9 i.l j))],rows:=λj=>[.own 247 4 ((i.a.ents (i.l.take j)).map zIj)]}]
structure TkI where
 a:Arena
 n:Int
 qty:Int
def Arena.dropF (a:Arena) (k:Nat):Arena:=
 let s:=a.slotAt k
 let q:=a.queues.getD s.queue.toNat aH
 let sl1:=if s.ahead= -1 then a.slots else a.slots.modify s.ahead.toNat λx=>{x with back:=s.back}
 let sl2:=if s.back= -1 then sl1 else sl1.modify s.back.toNat λx=>{x with ahead:=s.ahead}
 ⟨sl2.set k slot0,a.queues.set s.queue.toNat ⟨if s.ahead= -1 then s.back else q.first,if s.back= -1 then s.ahead else q.last,q.total,aa.wrap (q.count-1)⟩,aa.wrap (a.free+1)⟩
def Arena.less (a:Arena) (k:Nat) (qty:Int):Arena:=
 {a with slots:=a.slots.modify k λs=>{s with qty:=s.qty-qty},queues:=a.queues.modify (a.slotAt k).queue.toNat λq=>{q with total:=aa.wrap (q.total-qty)}}
def Arena.takeF (a:Arena) (n qty:Int):Arena×Int:=
 if a.usedAt n=ap then(a,26)else if qty<1\/(a.slotAt n.toNat).qty<qty then(a,24)
 else if(a.slotAt n.toNat).qty=qty then((a.less n.toNat qty).dropF n.toNat,0)else(a.less n.toNat qty,0)
def Arena.okAt (a:Arena):Prop:=a.slots.length<=1000000/\∀(k:Nat) (s:Slot),a.slots[k]? =ao s->s.used=aq->(0<=s.queue/\s.queue<a.queues.length)/\s.qty<=1000000/\(s.ahead= -1\/(0<=s.ahead/\s.ahead<a.slots.length/\s.ahead≠k))/\(s.back= -1\/(0<=s.back/\s.back<a.slots.length/\s.back≠k))
def atakeC:Con:=zR TkI (λi=>[.nm 0 0,zA i.n,zA i.qty]) (λi=>[kY i.a]) (λi=>i.a.okAt) (λi=>zA (i.a.takeF i.n i.qty).2) (λi=>[kY (i.a.takeF i.n i.qty).1])
def eH (a:ArN):Prop:=∃(b:Unit),(a.a.getF a.n).fst.slot=0/\(a.a.getF a.n).fst.id=0/\(a.a.getF a.n).fst.qty=0/\(a.a.getF a.n).fst.top=ap/\(a.a.getF a.n).snd=ap/\kM a
def yMf (i:ArN):Prop:=
 cnd (decide (i.n<0)) (eH i) (cnd (decide (i.n>=(↑(ac zQ i.a.slots).length:Int))) (eH i) ((0<=i.n/\i.n<(↑(ac zQ i.a.slots).length:Int))/\∃(a:Bool),zE (ac zQ i.a.slots) i.n.toNat 0 1=ao [D.v (.bool a)]/\cnd (!a) (eH i) ((0<=i.n/\i.n<(↑(ac zQ i.a.slots).length:Int))/\∃(b:Int),∃(c:Int),∃(d:Int),∃(e:Bool),zE (ac zQ i.a.slots) i.n.toNat 1 4=ao [dI b,dI c,dI d,D.v (.bool e)]/\∃(f:Unit),(i.a.getF i.n).fst.slot=b/\(i.a.getF i.n).fst.id=c/\(i.a.getF i.n).fst.qty=d/\(i.a.getF i.n).fst.top=e/\(i.a.getF i.n).snd=aq/\kM i)))
def zBn (a:ArL):Prop:=∃(b:Unit),da a.a.free/\da (ac zQ a.a.slots)/\da (ac zN a.a.queues)/\ac zIj (a.a.ents a.l)=[]/\True
def yGy (i:ArL):Prop:=
 cnd (decide (i.n>=0)) (cnd (!decide (i.n<(↑(ac zN i.a.queues).length:Int))) (zBn i) ((0<=i.n/\i.n<(↑(ac zN i.a.queues).length:Int))/\∃(a:Int),zE (ac zN i.a.queues) i.n.toNat 0 1=ao [dI a]/\∃(b:Nat),r9 i.l b=a/\ac zIj (i.a.ents (ae b i.l))=[]/\∃(c:Nat->Prop),∃(d:Nat->Nat),c b/\∀(e:Nat),c e->cnd (r9 i.l e !=(-1)) ((0<=r9 i.l e/\r9 i.l e<(↑(ac zQ i.a.slots).length:Int))/\∃(f:Int),∃(g:Int),∃(h:Int),∃(j:Bool),zE (ac zQ i.a.slots) (r9 i.l e).toNat 1 4=ao [dI f,dI g,dI h,D.v (.bool j)]/\((ac zIj (i.a.ents (ae e i.l))).length+1)*(32:Nat)<=(140737488355328:Nat)/\(0<=r9 i.l e/\r9 i.l e<(↑(ac zQ i.a.slots).length:Int))/\∃(k:Int),zE (ac zQ i.a.slots) (r9 i.l e).toNat 7 1=ao [dI k]/\∃(l:Nat),r9 i.l l=k/\ac zIj (i.a.ents (ae l i.l))=ac zIj (i.a.ents (ae e i.l))++[[dI f,dI g,dI h,D.v (.bool j)]]/\c l/\d l<d e/\da (au [V.own 1,V.own 2,V.d (dI i.a.free)] (280:TypeId))/\da (ar 273 8 (ac zQ i.a.slots))/\da (ar 283 4 (ac zN i.a.queues))) (∃(f:Unit),da i.a.free/\da (ac zQ i.a.slots)/\da (ac zN i.a.queues)/\ac zIj (i.a.ents i.l)=ac zIj (i.a.ents (ae e i.l))/\True))) (zBn i)
def zAz (a:TkI):Prop:=(a.a.takeF a.n a.qty).fst.free=a.a.free/\ac zQ (a.a.takeF a.n a.qty).fst.slots=ac zQ a.a.slots/\ac zN (a.a.takeF a.n a.qty).fst.queues=ac zN a.a.queues/\True
def rV (a:TkI):Prop:=∃(b:Unit),(a.a.takeF a.n a.qty).snd=26/\zAz a
def zBg (a:TkI):Prop:=∃(b:Unit),(a.a.takeF a.n a.qty).snd=24/\zAz a
def j6 (a:TkI) (b:Int) (c:Int):=(zW (ac zN a.a.queues) b.toNat 2 [dI (aa.wrap (c-a.qty))])
def fT (a:TkI) (b:Int) (c:Int) (d:Int) (e:Int):=(zW (j6 a b c) d.toNat 0 [dI e])
def pP (a:TkI) (b:Int) (c:Int) (d:Int) (e:Int) (f:Int):=(zW (fT a b c d e) d.toNat 1 [dI f])
def yX (a:TkI) (b:Int):=(zW (ac zQ a.a.slots) a.n.toNat 3 [dI (aa.wrap (b-a.qty))])
def zBy (a:Int) (b:TkI) (c:Int):Prop:=0<=a/\a<(↑(yX b c).length:Int)
def qX (a:TkI) (b:Int) (c:Int) (d:Int):=(zW (yX a b) c.toNat 7 [dI d])
def nS (a:TkI) (b:Int) (c:Int) (d:Int) (e:Int):=(zW (j6 a b c) d.toNat 1 [dI e])
def z9t (i:TkI):Prop:=
 cnd (decide (i.n<0)) (rV i) (cnd (decide (i.n>=(↑(ac zQ i.a.slots).length:Int))) (rV i) ((0<=i.n/\i.n<(↑(ac zQ i.a.slots).length:Int))/\∃(a:Bool),zE (ac zQ i.a.slots) i.n.toNat 0 1=ao [D.v (.bool a)]/\cnd (!a) (rV i) ((0<=i.n/\i.n<(↑(ac zQ i.a.slots).length:Int))/\cnd (decide (i.qty<1)) (zBg i) (∃(b:Int),zE (ac zQ i.a.slots) i.n.toNat 3 1=ao [dI b]/\cnd (decide (i.qty>b)) (zBg i) (∃(c:Int),zE (ac zQ i.a.slots) i.n.toNat 3 1=ao [dI c]/\i.n.toNat<(ac zQ i.a.slots).length/\∃(d:Int),zE (yX i c) i.n.toNat 5 1=ao [dI d]/\(0<=d/\d<(↑(ac zN i.a.queues).length:Int))/\∃(e:Int),zE (ac zN i.a.queues) d.toNat 2 1=ao [dI e]/\(0<=d/\d<(↑(ac zN i.a.queues).length:Int))/\d.toNat<(ac zN i.a.queues).length/\∃(f:Int),zE (yX i c) i.n.toNat 3 1=ao [dI f]/\cnd (f==0) (∃(g:Int),zE (yX i c) i.n.toNat 5 1=ao [dI g]/\(0<=g/\g<(↑(j6 i d e).length:Int))/\∃(h:Int),zE (yX i c) i.n.toNat 6 1=ao [dI h]/\cnd (h==(-1)) (∃(j:Int),zE (yX i c) i.n.toNat 7 1=ao [dI j]/\g.toNat<(j6 i d e).length/\∃(k:Int),zE (yX i c) i.n.toNat 7 1=ao [dI k]/\cnd (k==(-1)) (∃(l:Int),zE (yX i c) i.n.toNat 6 1=ao [dI l]/\g.toNat<(fT i d e g j).length/\∃(m:Int),zE (pP i d e g j l) g.toNat 3 1=ao [dI m]/\g.toNat<(pP i d e g j l).length/\i.n.toNat<(yX i c).length/\∃(n:Unit),(i.a.takeF i.n i.qty).snd=0/\(i.a.takeF i.n i.qty).fst.free=aa.wrap (i.a.free+1)/\ac zQ (i.a.takeF i.n i.qty).fst.slots=zW (yX i c) i.n.toNat 0 [D.v (.bool ap),dI 0,dI 0,dI 0,D.v (.bool ap),dI 0,dI 0,dI 0]/\ac zN (i.a.takeF i.n i.qty).fst.queues=zW (pP i d e g j l) g.toNat 3 [dI (aa.wrap (m-1))]/\True) (∃(l:Int),zE (yX i c) i.n.toNat 7 1=ao [dI l]/\∃(m:Int),zE (yX i c) i.n.toNat 6 1=ao [dI m]/\(zBy l i c)/\l.toNat<(yX i c).length/\∃(n:Int),zE (fT i d e g j) g.toNat 3 1=ao [dI n]/\g.toNat<(fT i d e g j).length/\i.n.toNat<(zW (yX i c) l.toNat 6 [dI m]).length/\∃(p:Unit),(i.a.takeF i.n i.qty).snd=0/\(i.a.takeF i.n i.qty).fst.free=aa.wrap (i.a.free+1)/\ac zQ (i.a.takeF i.n i.qty).fst.slots=zW (zW (yX i c) l.toNat 6 [dI m]) i.n.toNat 0 [D.v (.bool ap),dI 0,dI 0,dI 0,D.v (.bool ap),dI 0,dI 0,dI 0]/\ac zN (i.a.takeF i.n i.qty).fst.queues=zW (fT i d e g j) g.toNat 3 [dI (aa.wrap (n-1))]/\True)) (∃(j:Int),zE (yX i c) i.n.toNat 6 1=ao [dI j]/\∃(k:Int),zE (yX i c) i.n.toNat 7 1=ao [dI k]/\(zBy j i c)/\j.toNat<(yX i c).length/\∃(l:Int),zE (qX i c j k) i.n.toNat 7 1=ao [dI l]/\cnd (l==(-1)) (∃(m:Int),zE (qX i c j k) i.n.toNat 6 1=ao [dI m]/\g.toNat<(j6 i d e).length/\∃(n:Int),zE (nS i d e g m) g.toNat 3 1=ao [dI n]/\g.toNat<(nS i d e g m).length/\i.n.toNat<(qX i c j k).length/\∃(p:Unit),(i.a.takeF i.n i.qty).snd=0/\(i.a.takeF i.n i.qty).fst.free=aa.wrap (i.a.free+1)/\ac zQ (i.a.takeF i.n i.qty).fst.slots=zW (qX i c j k) i.n.toNat 0 [D.v (.bool ap),dI 0,dI 0,dI 0,D.v (.bool ap),dI 0,dI 0,dI 0]/\ac zN (i.a.takeF i.n i.qty).fst.queues=zW (nS i d e g m) g.toNat 3 [dI (aa.wrap (n-1))]/\True) (∃(m:Int),zE (qX i c j k) i.n.toNat 7 1=ao [dI m]/\∃(n:Int),zE (qX i c j k) i.n.toNat 6 1=ao [dI n]/\(0<=m/\m<(↑(qX i c j k).length:Int))/\m.toNat<(qX i c j k).length/\∃(p:Int),zE (j6 i d e) g.toNat 3 1=ao [dI p]/\g.toNat<(j6 i d e).length/\i.n.toNat<(zW (qX i c j k) m.toNat 6 [dI n]).length/\∃(q:Unit),(i.a.takeF i.n i.qty).snd=0/\(i.a.takeF i.n i.qty).fst.free=aa.wrap (i.a.free+1)/\ac zQ (i.a.takeF i.n i.qty).fst.slots=zW (zW (qX i c j k) m.toNat 6 [dI n]) i.n.toNat 0 [D.v (.bool ap),dI 0,dI 0,dI 0,D.v (.bool ap),dI 0,dI 0,dI 0]/\ac zN (i.a.takeF i.n i.qty).fst.queues=zW (j6 i d e) g.toNat 3 [dI (aa.wrap (p-1))]/\True))) (∃(g:Unit),(i.a.takeF i.n i.qty).snd=0/\(i.a.takeF i.n i.qty).fst.free=i.a.free/\ac zQ (i.a.takeF i.n i.qty).fst.slots=zW (ac zQ i.a.slots) i.n.toNat 3 [dI (aa.wrap (c-i.qty))]/\ac zN (i.a.takeF i.n i.qty).fst.queues=zW (ac zN i.a.queues) d.toNat 2 [dI (aa.wrap (e-i.qty))]/\True))))))
def zIx {a:Arena} {n:Int} (h:n<0\/(a.slots.length:Int)<=n):a.usedAt n=ap:=by
 rcases h with h|h
 ·rw[Arena.usedAt,y1s (by omega),y4g]
 ·rw[Arena.usedAt,y1s (show ¬n<(a.slots.length:Int)by omega),y4g,y5x]
def z4f {a:Arena} {n:Int} {s:Slot} (h0:0<=n) (hs:a.slots[n.toNat]? =ao s):a.usedAt n=s.used:=by
 have hl:=(y1c.1 hs).1;rw[Arena.usedAt,y1v h0,y1v (show n<(a.slots.length:Int)by omega),zV hs];simp
def xE {a:Arena} {k:Nat} {s:Slot} (hs:a.slots[k]? =ao s):a.slotAt k=s:=zV hs
def yVz (i:ArN) (h:agetC.cnd i):yMf i:=by
 have h:i.a.slots.length<=1000000:=h;unfold yMf eH kM dI;simp only[y0z];have no (e:i.a.usedAt i.n=ap):i.a.getF i.n=(yXm,ap):=by rw[Arena.getF,y0y (by rw[e];decide)]
 refine zH (λc=> ?_) (λc=>zH (λd=> ?_) (λd=> ?_))
 ·rw[no (zIx (.inl c))];exact kp
 ·rw[no (zIx (.inr (by omega)))];exact kp
 ·obtain⟨s,hs⟩:=yE (l:=i.a.slots) (i:=i.n.toNat) oM;have eu:=z4f (a:=i.a) (n:=i.n) oM hs;refine⟨⟨oM,oM⟩,s.used,elA hs (by simp[zQ]) rfl,Cv.cnd.mk (λu=> ?_) (λu=> ?_)⟩
  ·rw[no (by rw[eu];simpa using u)];exact kp
  ·have e:i.a.usedAt i.n=aq:=by rw[eu];simpa using u
   have et:i.a.getF i.n=(s.ent,aq):=by rw[Arena.getF,y1a e,xE hs]
   rw[et];refine⟨⟨oM,oM⟩,s.n,s.id,s.qty,s.top,elA hs (by simp[zQ]) rfl,?_⟩
   exact kp
def z6j:agetC.ok Tryz.prog 147:=okw mixed gok0 1 (λ_=>[]) (λ_=>[]) [0] Tryz.func147 yVz
def zQq:∀{sl:List Slot} {at_:Int} {l:List Nat},zUk sl at_ l->r9 l 0=at_/\∀j k,l[j]? =ao k->k<sl.length/\r9 l (j+1)=(sl.getD k slot0).back
 |sl,at_,[],h=>⟨h.symm,λj k hk=>by simp at hk⟩
 |sl,at_,x::l,h=>by
  obtain⟨h1,h2,h3⟩:=h;have ih:=zQq h3;refine⟨h1.symm,λj k hk=> ?_⟩;cases j with
  |zero=>
   simp at hk;subst hk;exact⟨h2,by rw[<- ih.1];rfl⟩
  |succ j=>
   rw[y2w]at hk;obtain⟨a,b⟩:=ih.2 j k hk;exact⟨a,by rw[<- b];rfl⟩
def yOp (i:ArL) (h:alistC.cnd i):yGy i:=by
 obtain⟨hl,h⟩:i.l.length<=1000000/\(if 0<=i.n/\i.n<i.a.queues.length then zUk i.a.slots (i.a.queues.getD i.n.toNat aH).first i.l else i.l=[]):=⟨h.len,h.ch⟩
 unfold yGy zBn dI;simp only[y0z];have out (e:¬(0<=i.n/\i.n<(i.a.queues.length:Int))):i.l=[]:=by rw[y0y e]at h;exact h
 refine zH (λc=>Cv.cnd.mk (λd=> ?_) (λd=> ?_)) (λc=> ?_)
 ·have d:¬i.n<(i.a.queues.length:Int):=by simpa using d
  rw[out (by omega)];exact kp
 ·have d:i.n<(i.a.queues.length:Int):=by simpa using d
  rw[y1a ⟨by omega,d⟩]at h;obtain⟨q,hq⟩:=yE (l:=i.a.queues) (i:=i.n.toNat) oM;rw[zV hq]at h;obtain⟨n0,nx⟩:=zQq h;refine⟨⟨oM,oM⟩,q.first,elA hq (by simp[zN]) rfl,0,n0,rfl,λj=>j<=i.l.length,λj=>i.l.length-j,y2a _,λj hj=>Cv.cnd.mk (λe=> ?_) (λe=> ?_)⟩
  ·have e:r9 i.l j≠-1:=by simpa using e
   obtain⟨k,hk⟩:∃k,i.l[j]? =ao k:=by
    cases hk:i.l[j]? with
    |none=>rw[r9,hk]at e;exact absurd rfl e
    |some k=>exact⟨k,rfl⟩
   have hjl:=(y1c.1 hk).1;obtain⟨hkl,hnx⟩:=nx j k hk;have en:r9 i.l j=k:=by rw[r9,hk]
   obtain⟨s,hs⟩:=yE (l:=i.a.slots) (i:=k) hkl;rw[en,y1o];refine⟨⟨oM,oM⟩,s.n,s.id,s.qty,s.top,elA hs (by simp[zQ]) rfl,?_,⟨oM,oM⟩,s.back,elA hs (by simp[zQ]) rfl,j+1,by rw[hnx,zV hs],?_,hjl,Z9,k0q⟩
   ·simp only[Arena.ents,y0z,y1q];omega
   ·rw[y2e,hk];simp only[Arena.ents,Option.toList,y1i,y1m,y4q,xE hs];rfl
  ·have e:r9 i.l j= -1:=by simpa using e
   have hj':i.l.length<=j:=by
    apply Classical.byContradiction;intro hn;obtain⟨k,hk⟩:=yE (l:=i.l) (i:=j) oM;rw[r9,hk]at e;simp only at e;omega
   rw[y1k hj']
   exact kp
 ·rw[out (by omega)];exact kp
def yBc:alistC.ok Tryz.prog 220:=okw mixed gok0 1 (λ_=>[]) (λi=>yPd i) [0] Tryz.func220 yOp
def zYy {α:Type} {l:List α} {i k:Nat} {x y:α} (h:i≠k) (hk:l[k]? =ao x):(l.set i y)[k]? =ao x:=by
 rw[List.getElem?_set_ne h];exact hk
def yOu (i:TkI) (h:atakeC.cnd i):z9t i:=by
 obtain⟨hl,hok⟩:i.a.okAt:=h;unfold z9t nS qX zBy yX pP fT j6 zBg rV zAz dI;simp only[y0z];have no (e:i.a.usedAt i.n=ap):i.a.takeF i.n i.qty=(i.a,26):=by rw[Arena.takeF,y1a e]
 refine zH (λc=> ?_) (λc=>zH (λd=> ?_) (λd=> ?_))
 ·rw[no (zIx (.inl c))];exact kp
 ·rw[no (zIx (.inr (by omega)))];exact kp
 obtain⟨k,hk⟩:∃k,k=i.n.toNat:=⟨_,rfl⟩
 rw[<- hk];obtain⟨s,hs⟩:=yE (l:=i.a.slots) (i:=k) oM;have hs':i.a.slots[i.n.toNat]? =ao s:=by rw[<- hk];exact hs
 have eu:=z4f (a:=i.a) (n:=i.n) oM hs';refine⟨⟨oM,oM⟩,s.used,elA hs (by simp[zQ]) rfl,Cv.cnd.mk (λu=> ?_) (λu=> ?_)⟩
 ·rw[no (by rw[eu];simpa using u)];exact kp
 have u:s.used=aq:=by simpa using u
 have e:¬i.a.usedAt i.n=ap:=by rw[eu,u];decide
 obtain⟨⟨q0,q1⟩,sq,sa,sb⟩:=hok k s hs u;have esl:i.a.slotAt i.n.toNat=s:=xE hs';have bad (hq:i.qty<1\/s.qty<i.qty):i.a.takeF i.n i.qty=(i.a,24):=by rw[Arena.takeF,y0y e,esl,y1a hq]
 refine⟨⟨oM,oM⟩,zH (λc1=>by rw[bad (.inl c1)];(repeat'(first|exact rfl|exact trivial|assumption|apply am|refineλ(_:Unit) (_:True)=>?_|refine ak () ?_|omega|(dsimp only;omega)))) (λc1=>⟨s.qty,elA hs (by simp[zQ]) rfl,zH (λc2=>by rw[bad (.inr (by omega))];(repeat'(first|exact rfl|exact trivial|assumption|apply am|refineλ(_:Unit) (_:True)=>?_|refine ak () ?_|omega|(dsimp only;omega)))) (λc2=>⟨s.qty,elA hs (by simp[zQ]) rfl,oM,?_⟩)⟩)⟩;obtain⟨q,hq⟩:=yE (l:=i.a.queues) (i:=s.queue.toNat) oM;have hs1:(i.a.slots.set k {s with qty:=s.qty-i.qty})[k]? =ao {s with qty:=s.qty-i.qty}:=vH hs;have hq1:(i.a.queues.set s.queue.toNat {q with total:=aa.wrap (q.total-i.qty)})[s.queue.toNat]? =ao {q with total:=aa.wrap (q.total-i.qty)}:=vH hq;have hle:i.a.less i.n.toNat i.qty=⟨i.a.slots.set k {s with qty:=s.qty-i.qty},i.a.queues.set s.queue.toNat {q with total:=aa.wrap (q.total-i.qty)},i.a.free⟩:=by
  rw[Arena.less,esl,f7 hs',f7 hq,hk]
 have hL:(i.a.slots.set k {s with qty:=s.qty-i.qty}).length=i.a.slots.length:=y2d;have hQ:(i.a.queues.set s.queue.toNat {q with total:=aa.wrap (q.total-i.qty)}).length=i.a.queues.length:=y2d;have tk:i.a.takeF i.n i.qty=if s.qty=i.qty then((i.a.less i.n.toNat i.qty).dropF i.n.toNat,0)else(i.a.less i.n.toNat i.qty,0):=by rw[Arena.takeF,y0y e,esl,y0y (by omega)]
 rw[hle,<- hk]at tk;rw[w64 (x:=s.qty-i.qty) (by omega),yG hs (y:={s with qty:=s.qty-i.qty}) rfl];refine⟨s.queue,elA hs1 (by simp[zQ]) rfl,⟨q0,q1⟩,q.total,elA hq (by simp[zN]) rfl,⟨q0,q1⟩,oM,s.qty-i.qty,elA hs1 (by simp[zQ]) rfl,?_⟩;rw[yG hq (y:={q with total:=aa.wrap (q.total-i.qty)}) rfl];simp only[y0z];generalize hL1:i.a.slots.set k {s with qty:=s.qty-i.qty}=L1 at*;generalize hQ1:i.a.queues.set s.queue.toNat {q with total:=aa.wrap (q.total-i.qty)}=Q1 at*;refine Cv.cnd.mk (λz=> ?_) (λz=> ?_)
 ·have z:s.qty=i.qty:=by have:s.qty-i.qty=0:=by simpa using z
                         omega
  rw[y1a z]at tk;have esl1:(⟨L1,Q1,i.a.free⟩:Arena).slotAt k={s with qty:=s.qty-i.qty}:=xE hs1;have eq1:Q1.getD s.queue.toNat aH={q with total:=aa.wrap (q.total-i.qty)}:=zV hq1;rw[Arena.dropF,esl1]at tk;dsimp only at tk;rw[eq1]at tk;dsimp only at tk;rw[tk];refine⟨s.queue,elA hs1 (by simp[zQ]) rfl,⟨q0,oM⟩,s.ahead,elA hs1 (by simp[zQ]) rfl,Cv.cnd.mk (λea=> ?_) (λea=> ?_)⟩
  ·have ea:s.ahead= -1:=by simpa using ea
   refine⟨s.back,elA hs1 (by simp[zQ]) rfl,oM,s.back,elA hs1 (by simp[zQ]) rfl,?_⟩;rw[yG hq1 (y:=⟨s.back,q.last,aa.wrap (q.total-i.qty),q.count⟩) rfl];have hq2:(Q1.set s.queue.toNat ⟨s.back,q.last,aa.wrap (q.total-i.qty),q.count⟩)[s.queue.toNat]? =ao ⟨s.back,q.last,aa.wrap (q.total-i.qty),q.count⟩:=vH hq1;simp only[y0z,y2d];refine Cv.cnd.mk (λeb=> ?_) (λeb=> ?_)
   ·have eb:s.back= -1:=by simpa using eb
    refine⟨s.ahead,elA hs1 (by simp[zQ]) rfl,oM,q.count,?_,?_⟩
    ·rw[yG hq2 (y:=⟨s.back,s.ahead,aa.wrap (q.total-i.qty),q.count⟩) rfl];exact elA (vH hq2) (by simp[zN]) rfl
    rw[yG hq2 (y:=⟨s.back,s.ahead,aa.wrap (q.total-i.qty),q.count⟩) rfl,yG (vH hq2) (y:=⟨s.back,s.ahead,aa.wrap (q.total-i.qty),aa.wrap (q.count-1)⟩) rfl,yG hs1 (y:=slot0) rfl];simp only[y0z,y2d,y4x,y1a ea,y1a eb];refine⟨oM,oM,(),by(first|exact rfl|exact trivial),by(first|exact rfl|exact trivial),by(first|exact rfl|exact trivial),by(first|exact rfl|exact trivial),trivial⟩
   ·have eb:s.back≠-1:=by simpa using eb
    obtain⟨b0,b1,b2⟩:0<=s.back/\s.back<i.a.slots.length/\s.back≠k:=by omega
    obtain⟨x,hx⟩:=yE (l:=L1) (i:=s.back.toNat) oM;refine⟨s.back,elA hs1 (by simp[zQ]) rfl,s.ahead,elA hs1 (by simp[zQ]) rfl,⟨b0,oM⟩,oM,q.count,elA hq2 (by simp[zN]) rfl,?_⟩;rw[yG hx (y:={x with ahead:=s.ahead}) rfl,yG hq2 (y:=⟨s.back,q.last,aa.wrap (q.total-i.qty),aa.wrap (q.count-1)⟩) rfl,yG (zYy (by omega) hs1) (y:=slot0) rfl];simp only[y0z,y2d,y4x,y1a ea,y0y eb,f7 hx];refine⟨oM,oM,(),by(first|exact rfl|exact trivial),by(first|exact rfl|exact trivial),by(first|exact rfl|exact trivial),by(first|exact rfl|exact trivial),trivial⟩
  ·have ea:s.ahead≠-1:=by simpa using ea
   obtain⟨a0,a1,a2⟩:0<=s.ahead/\s.ahead<i.a.slots.length/\s.ahead≠k:=by omega
   obtain⟨x,hx⟩:=yE (l:=L1) (i:=s.ahead.toNat) oM;have hs2:(L1.set s.ahead.toNat {x with back:=s.back})[k]? =ao {s with qty:=s.qty-i.qty}:=zYy oM hs1;refine⟨s.ahead,elA hs1 (by simp[zQ]) rfl,s.back,elA hs1 (by simp[zQ]) rfl,⟨a0,oM⟩,oM,s.back,?_,?_⟩
   ·rw[yG hx (y:={x with back:=s.back}) rfl];exact elA hs2 (by simp[zQ]) rfl
   rw[yG hx (y:={x with back:=s.back}) rfl];simp only[y0z,y2d];refine Cv.cnd.mk (λeb=> ?_) (λeb=> ?_)
   ·have eb:s.back= -1:=by simpa using eb
    refine⟨s.ahead,elA hs2 (by simp[zQ]) rfl,oM,q.count,?_,?_⟩
    ·rw[yG hq1 (y:=⟨q.first,s.ahead,aa.wrap (q.total-i.qty),q.count⟩) rfl];exact elA (vH hq1) (by simp[zN]) rfl
    rw[yG hq1 (y:=⟨q.first,s.ahead,aa.wrap (q.total-i.qty),q.count⟩) rfl,yG (vH hq1) (y:=⟨q.first,s.ahead,aa.wrap (q.total-i.qty),aa.wrap (q.count-1)⟩) rfl,yG hs2 (y:=slot0) rfl];simp only[y0z,y2d,y4x,y0y ea,y1a eb,f7 hx];refine⟨oM,oM,(),by(first|exact rfl|exact trivial),by(first|exact rfl|exact trivial),by(first|exact rfl|exact trivial),by(first|exact rfl|exact trivial),trivial⟩
   ·have eb:s.back≠-1:=by simpa using eb
    obtain⟨b0,b1,b2⟩:0<=s.back/\s.back<i.a.slots.length/\s.back≠k:=by omega
    obtain⟨y,hy⟩:=yE (l:=L1.set s.ahead.toNat {x with back:=s.back}) (i:=s.back.toNat) (by rw[y2d];omega);refine⟨s.back,elA hs2 (by simp[zQ]) rfl,s.ahead,elA hs2 (by simp[zQ]) rfl,⟨b0,oM⟩,oM,q.count,elA hq1 (by simp[zN]) rfl,?_⟩;rw[yG hy (y:={y with ahead:=s.ahead}) rfl,yG hq1 (y:=⟨q.first,q.last,aa.wrap (q.total-i.qty),aa.wrap (q.count-1)⟩) rfl,yG (zYy (by omega) hs2) (y:=slot0) rfl];simp only[y0z,y2d,y4x,y0y ea,y0y eb,f7 hx,f7 hy];refine⟨oM,oM,(),by(first|exact rfl|exact trivial),by(first|exact rfl|exact trivial),by(first|exact rfl|exact trivial),by(first|exact rfl|exact trivial),trivial⟩
 ·have z:¬s.qty=i.qty:=by have:¬s.qty-i.qty=0:=by simpa using z
                          omega
  rw[y0y z]at tk;rw[tk];exact⟨(),rF4 trivial⟩
def yDc:atakeC.ok Tryz.prog 197:=okw mixed gok0 1 (λ_=>[]) (λ_=>[]) [0] Tryz.func197 yOu
structure PlI where
 l:List Int
 least:Int
 q:Int
def z2j (l:List Int) (least q:Int):List Int:=l.map λk=>if least<=k*q / l.sum then k*q / l.sum else 0
def jH:List (Int×Int)->Int->List Int
 |[],_=>[]
 |(n,x)::r,q=>(x+min (n-x) q)::jH r (q-min (n-x) q)
def PlI.p0 (i:PlI):List Int:=z2j i.l i.least i.q
def PlI.p1 (i:PlI):List Int:=jH (i.l.zip i.p0) (i.q-i.p0.sum)
def kE (i:PlI):List Int:=if yQ i.l i.q=aq/\1<=i.least then i.p1 else[]
def plainC:Con:=zR PlI (λi=>[iV i.l,zA i.least,zA i.q]) (λ_=>[]) (λi=>i.l.length<=1000000/\y9 i.q/\y9 i.least) (λ_=> .own 0) (λi=>[.own 2 1 (iE (kE i))])
def yPn (i:PlI):List SAnn:=[
 {ι:=Nat,slots:=λj=>[(9,.own 0),(36,zA j)],rows:=λj=>[.own 2 1 (iE (i.p0.take j++af (i.l.length-j) 0))]},
 {ι:=Nat,slots:=λj=>[(2,zA (i.q-(i.p0.take j).sum)),(58,zA j)],rows:=λ_=>[]},
 {ι:=Nat,slots:=λj=>[(9,.own 0),(2,zA (i.q-i.p0.sum+(i.p0.take j).sum-(i.p1.take j).sum)),(68,zA j)],rows:=λj=>[.own 2 1 (iE (i.p1.take j++i.p0.drop j))]}]
def fQ (a:Nat) (b:PlI):=(iE (ae a b.p1++ag a b.p0))
def rN (a:Nat) (b:PlI):Prop:=0<=(↑a:Int)/\(↑a:Int)<(↑(fQ a b).length:Int)
def uS (a:Nat) (b:PlI):=(ae a b.p0++af (b.l.length-a) 0)
def uN (a:Nat) (b:PlI):=(iE (uS a b))
def bN (a:Nat) (b:PlI):=(↑(uN a b).length:Int)
def yCf (i:PlI):Prop:=
 ∃(a:LqI),iE a.l=iE i.l/\a.q=i.q/\(jM a)/\∀(b:Unit),True->cnd (!yQ a.l a.q) (∃(c:Unit),iE (kE i)=[]/\True) (cnd (decide (i.least<1)) (∃(c:Unit),iE (kE i)=[]/\True) (∃(c:List Int),iE c=iE i.l/\(c.length<=1000/\∀(d:Int),d∈c->0<=d/\d<=1000000)/\∀(d:Unit),True->(0<=(↑(iE i.l).length:Int)/\(↑(iE i.l).length:Int)<=(↑(iE i.l).length:Int)/\(↑(iE i.l).length:Int)<=9223372036854775807/\(↑(8:Nat):Int)*(↑(iE i.l).length:Int)<=2 ^ (48:Nat))/\∃(e:Nat),(↑e:Int)=0/\iE (uS e i)=af (↑(iE i.l).length:Int).toNat [dI 0]/\∃(f:Nat->Prop),∃(g:Nat->Nat),f e/\∀(h:Nat),f h->cnd (decide ((↑h:Int)<(↑(iE i.l).length:Int))) ((0<=(↑h:Int)/\(↑h:Int)<(↑(iE i.l).length:Int))/\∃(j:Int),zE (iE i.l) (↑h:Int).toNat 0 1=ao [dI j]/\∃(k:ShI),k.a=j/\k.b=i.q/\k.c=c.sum/\(0<=k.a/\k.a<=(2000000000:Int)/\(0:Int)<=k.b/\k.b<=(2000000000:Int)/\(1:Int)<=k.c/\k.c<=2000000000)/\∀(l:Unit),True->cnd (decide (k.a*k.b / k.c>=i.least)) ((0<=(↑h:Int)/\(↑h:Int)<(bN h i))/\(↑h:Int).toNat<(uN h i).length/\∃(m:Nat),(↑m:Int)=aa.wrap ((↑h:Int)+1)/\iE (uS m i)=zW (uN h i) (↑h:Int).toNat 0 [dI (k.a*k.b / k.c)]/\f m/\g m<g h/\True) (∃(m:Nat),(↑m:Int)=aa.wrap ((↑h:Int)+1)/\iE (uS m i)=iE (uS h i)/\f m/\g m<g h/\True)) (∃(j:Nat),i.q-(ae j i.p0).sum=i.q/\(↑j:Int)=0/\∃(k:Nat->Prop),∃(l:Nat->Nat),k j/\∀(m:Nat),k m->cnd (decide ((↑m:Int)<(bN h i))) ((0<=(↑m:Int)/\(↑m:Int)<(bN h i))/\∃(n:Int),zE (uN h i) (↑m:Int).toNat 0 1=ao [dI n]/\∃(p:Nat),i.q-(ae p i.p0).sum=aa.wrap (i.q-(ae m i.p0).sum-n)/\(↑p:Int)=aa.wrap ((↑m:Int)+1)/\k p/\l p<l m/\da (ar 2 1 (uN h i))) (∃(n:Nat),i.q-i.p0.sum+(ae n i.p0).sum-(ae n i.p1).sum=i.q-(ae m i.p0).sum/\(↑n:Int)=0/\iE (ae n i.p1++ag n i.p0)=iE (uS h i)/\∃(p:Nat->Prop),∃(q:Nat->Nat),p n/\∀(r:Nat),p r->cnd (decide ((↑r:Int)<(bN h i))) ((0<=(↑r:Int)/\(↑r:Int)<(↑(iE i.l).length:Int))/\∃(s:Int),zE (iE i.l) (↑r:Int).toNat 0 1=ao [dI s]/\(rN r i)/\∃(t:Int),zE (fQ r i) (↑r:Int).toNat 0 1=ao [dI t]/\(rN r i)/\∃(u:Int),zE (fQ r i) (↑r:Int).toNat 0 1=ao [dI u]/\(rN r i)/\(↑r:Int).toNat<(fQ r i).length/\∃(v:Nat),i.q-i.p0.sum+(ae v i.p0).sum-(ae v i.p1).sum=aa.wrap (i.q-i.p0.sum+(ae r i.p0).sum-(ae r i.p1).sum-min (aa.wrap (s-t)) (i.q-i.p0.sum+(ae r i.p0).sum-(ae r i.p1).sum))/\(↑v:Int)=aa.wrap ((↑r:Int)+1)/\iE (ae v i.p1++ag v i.p0)=zW (fQ r i) (↑r:Int).toNat 0 [dI (aa.wrap (u+min (aa.wrap (s-t)) (i.q-i.p0.sum+(ae r i.p0).sum-(ae r i.p1).sum)))]/\p v/\q v<q r/\True) (∃(s:Unit),iE (kE i)=iE (ae r i.p1++ag r i.p0)/\True)))))
def zBv:∀(z:List (Int×Int)) (q:Int),(jH z q).length=z.length
 |[],_=>rfl
 |(n,x)::z,q=>by rw[jH,y1d,y1d,zBv z]
def zLm:∀(z:List (Int×Int)) (q:Int) (j:Nat) (n x:Int),z[j]? =ao (n,x)->(jH z q)[j]? =ao (x+min (n-x) (q+((z.map (·.2)).take j).sum-((jH z q).take j).sum))
 |[],_,_,_,_,h=>by simp at h
 |(m,y)::z,q,0,n,x,h=>by simp at h;obtain⟨rfl,rfl⟩:=h;simp[jH]
 |(m,y)::z,q,j+1,n,x,h=>by
  rw[y2w]at h;rw[jH,y2w,zLm z _ j n x h,y2j,y2o,y1m,y2j,y2o];congr 3;dsimp only;omega
def zHj:∀(z:List (Int×Int)) (q:Int) (j:Nat),0<=q->(∀y∈z,y.2<=y.1)->0<=q+((z.map (·.2)).take j).sum-((jH z q).take j).sum/\q+((z.map (·.2)).take j).sum-((jH z q).take j).sum<=q
 |[],q,j,h,_=>by simp[jH,h]
 |(m,y)::z,q,0,h,_=>by simp[h]
 |(m,y)::z,q,j+1,h,hb=>by
  have hm:=hb (m,y) y1f;have:=zHj z (q-min (m-y) q) j (by dsimp only at hm;omega) (λx hx=>hb x (y1g _ hx));rw[jH,y2j,y2o,y1m,y2j,y2o];dsimp only at hm ⊢;omega
def yDn {k q S:Int} (hk:0<=k) (hq:0<=q) (hS:1<=S) (hqS:q<=S):0<=k*q / S/\k*q / S<=k:=by
 refine⟨Int.ediv_nonneg (aw hk hq) oM,?_⟩;have:k*q<=k*S:=Int.mul_le_mul_of_nonneg_left hqS hk;exact Int.ediv_le_of_le_mul oM this
def zRc {q S least:Int} (hq:0<=q) (hS:1<=S):∀(l:List Int),(∀x∈l,0<=x)->S*(l.map λk=>if least<=k*q / S then k*q / S else 0).sum<=q*l.sum
 |[],_=>by simp
 |k::l,h=>by
  have ih:=zRc (least:=least) hq hS l (λx hx=>h x (y1g _ hx));have hk:=h k y1f;rw[y1m,y2o,y2o,Int.mul_add,Int.mul_add];have h1:S*(k*q / S)<=k*q:=by
   have:=Int.mul_ediv_add_emod (k*q) S;have:=Int.emod_nonneg (k*q) (show S≠0 by omega);omega
  have h2:0<=k*q:=aw hk hq;have h3:S*(if least<=k*q / S then k*q / S else 0)<=q*k:=by
   rw[ax q k];split
   ·exact h1
   ·simpa using h2
  omega
def yBn {i:PlI} {j:Nat} {n:Int} (h:i.l[j]? =ao n):i.p0[j]? =ao (if i.least<=n*i.q / i.l.sum then n*i.q / i.l.sum else 0):=by
 rw[PlI.p0,z2j,y2n,h];rfl
def z2c (i:PlI):i.p0.length=i.l.length:=by simp[PlI.p0,z2j]
def z3y {l:List Int} {j m:Nat} {n:Int} (hl:l.length=m) (h:l[j]? =ao n):(l.take j++af (m-j) 0).set j n=l.take (j+1)++af (m-(j+1)) 0:=by
 have hj:=(y1c.1 h).1;rw[List.set_append_right _ _ (by rw[y1q];omega),y1q,show j-min j l.length=0 by omega,show m-j=(m-(j+1))+1 by omega,y5e,y6o,y2e,h];simp
def yDg {l:List Int} {j m:Nat} (hl:l.length=m) (hj:j<m):(l.take j++af (m-j) 0)[j]? =ao 0:=by
 rw[y3c (by rw[y1q];omega),y1q,show j-min j l.length=0 by omega,show m-j=(m-(j+1))+1 by omega,y5e];rfl
def yHc {α:Type} {l:List α} {j:Nat} {x:α} (h:l[j]? =ao x):l.set j x=l:=by
 obtain⟨h1,h2⟩:=y1c.1 h;rw[<- h2];exact List.set_getElem_self h1
def yRt {a b:List Int} {j:Nat} {x:Int} (ha:a.length=b.length) (h:b[j]? =ao x):(a.take j++b.drop j)[j]? =ao x:=by
 have hj:=(y1c.1 h).1;rw[y3c (by rw[y1q];omega),y1q,show j-min j a.length=0 by omega,y3p];exact h
def yIs {a b:List Int} {j:Nat} {y:Int} (ha:a.length=b.length) (h:a[j]? =ao y):(a.take j++b.drop j).set j y=a.take (j+1)++b.drop (j+1):=by
 have hj:=(y1c.1 h).1;rw[List.set_append_right _ _ (by rw[y1q];omega),y1q,show j-min j a.length=0 by omega,y3f (by omega),y6o,y2e,h];simp
def zSn {l:List Int} {j:Nat} {x y:Int} (h:l[j]? =ao x):zW (iE l) j 0 [D.v (.int .i64 y)]=iE (l.set j y):=yG (f:=λn:Int=>[D.v (.int .i64 n)]) h rfl
def zCj {i:PlI} (h:yQ i.l i.q=aq) (hne:0<i.l.length):1<=i.l.sum/\i.l.sum<=250000000/\(∀(j:Nat) (n x:Int),i.l[j]? =ao n->i.p0[j]? =ao x->0<=x/\x<=n)/\i.p0.sum<=i.q:=by
 obtain⟨h1,h2,h3,h4⟩:=kG h;have hb:=kQ (l:=i.l) (λx hx=>by have:=h3 x hx;omega) i.l.length;rw[y3w]at hb;have hS:1<=i.l.sum:=by
  obtain⟨x,hx⟩:=yE (l:=i.l) (i:=0) hne;have:=h3 x (y1j hx);cases hl:i.l with
  |nil=>rw[hl]at hne;exact absurd hne (Nat.lt_irrefl 0)
  |cons a r=>
   rw[hl]at hx;simp at hx;subst hx;have hr:=kQ (l:=r) (λy hy=>by have:=h3 y (by rw[hl];exact y1g _ hy);omega) r.length;rw[y3w]at hr;rw[y2o];omega
 refine⟨hS,oM,λj n x hn hx=> ?_,?_⟩
 ·have hn1:=h3 n (y1j hn);have:=yDn (k:=n) oM h2 hS h4;rw[yBn hn]at hx;cases hx;split<;>omega
 ·have:=zRc (least:=i.least) h2 hS i.l (λx hx=>by have:=h3 x hx;omega);have e:i.l.sum*i.p0.sum<=i.l.sum*i.q:=by rw[ax i.l.sum i.q];exact this
  exact Int.le_of_mul_le_mul_left e oM
def yTn (i:PlI) (h:plainC.cnd i):yCf i:=by
 obtain⟨hl,hq,hle⟩:i.l.length<=1000000/\y9 i.q/\y9 i.least:=h;unfold yCf bN uN uS rN fQ jM dI;refine⟨⟨i.l,i.q⟩,rfl,rfl,⟨hl,hq⟩,λ_ _=>Cv.cnd.mk (λc=> ?_) (λc=>zH (λd=> ?_) (λd=> ?_))⟩
 ·have c:yQ i.l i.q=ap:=by simpa using c
  refine⟨(),?_,trivial⟩;rw[kE,y0y (by rw[c];simp)];rfl
 ·refine⟨(),?_,trivial⟩;rw[kE,y0y (by omega)];rfl
 have c:yQ i.l i.q=aq:=by simpa using c
 have eS:kE i=i.p1:=by rw[kE,y1a ⟨c,by omega⟩]
 obtain⟨h1,h2,h3,h4⟩:=kG c;have hq2:=zIt c;have hp0:=z2c i;have hzl:(i.l.zip i.p0).length=i.l.length:=by rw[List.length_zip,hp0];simp
 have hp1:i.p1.length=i.l.length:=by rw[PlI.p1,zBv,hzl]
 have hz2:(i.l.zip i.p0).map (·.2)=i.p0:=by rw[List.map_snd_zip];omega
 have h64:i.l.length<=250:=h1;have hrl:∀j,j<=i.l.length->(ae j i.p0++af (i.l.length-j) 0).length=i.l.length:=by
  intro j hj;rw[y0x,y1q,y3v];omega
 simp only[y3];refine⟨i.l,rfl,⟨oM,λx hx=>by have:=h3 x hx;omega⟩,λ_ _=>⟨⟨oM,oM,oM,oM⟩,0,by(first|exact rfl|exact trivial),?_,λj=>j<=i.l.length,λj=>i.l.length-j,y2a _,λj hj=>zH (λe=> ?_) (λe=> ?_)⟩⟩
 ·simp[iE]
 ·have hj':j<i.l.length:=by omega
  obtain⟨n,hn⟩:=yE (l:=i.l) (i:=j) hj';have bn:=h3 n (y1j hn);obtain⟨f1,f2,f3,f4⟩:=zCj c oM;have g:=yBn hn;refine⟨⟨oM,oM⟩,n,elI hn,⟨n,i.q,i.l.sum⟩,rfl,rfl,rfl,⟨Z9,Z9,Z9,Z9,Z9,Z9⟩,λ_ _=>zH (λa=> ?_) (λa=> ?_)⟩
  ·have a:n*i.q / i.l.sum>=i.least:=a;rw[y1a (by omega)]at g;refine⟨⟨oM,by rw[hrl j (by omega)];omega⟩,by rw[hrl j (by omega)];omega,j+1,wjn oM,?_,hj',Z9,trivial⟩;rw[y1o,zSn (yDg hp0 hj'),z3y hp0 g]
  ·have a:¬n*i.q / i.l.sum>=i.least:=a;rw[y0y (by omega)]at g;refine⟨j+1,wjn oM,?_,hj',Z9,trivial⟩;rw[<- z3y hp0 g,yHc (yDg hp0 hj')]
 have hje:j=i.l.length:=by omega
 subst hje;have eP:ae i.l.length i.p0++af (i.l.length-i.l.length) 0=i.p0:=by rw[y1k (by omega)];simp
 rw[eP,hp0];have px:∀(k:Nat) (n x:Int),i.l[k]? =ao n->i.p0[k]? =ao x->0<=x/\x<=n:=λk n x hn hx=>(zCj c (by have:=(y1c.1 hn).1;omega)).2.2.1 k n x hn hx
 have pb:∀x∈i.p0,0<=x/\x<=1000000:=by
  intro x hx;obtain⟨k,hk⟩:=y3m.1 hx;obtain⟨n,hn⟩:=yE (l:=i.l) (i:=k) (by have:=(y1c.1 hk).1;omega);have:=px k n x hn hk;have:=h3 n (y1j hn);omega
 have pq:i.p0.sum<=i.q:=by
  by_cases hz:0<i.l.length
  ·exact(zCj c hz).2.2.2
  ·have:i.p0=[]:=y1z oM;rw[this];simpa using h2
 refine⟨0,by simp,by(first|exact rfl|exact trivial),λk=>k<=i.l.length,λk=>i.l.length-k,y2a _,λk hk=>zH (λe=> ?_) (λe=> ?_)⟩
 ·have hk':k<i.l.length:=by omega
  obtain⟨x,hx⟩:=yE (l:=i.p0) (i:=k) oM;have bx:=pb x (y1j hx);have bs:=kQ pb k;refine⟨⟨oM,oM⟩,x,elI hx,k+1,?_,wjn oM,hk',Z9,k0q⟩;rw[kZ hx,w64 (by omega)];omega
 have hke:k=i.l.length:=by omega
 subst hke;rw[y1k (l:=i.p0) (by omega)];refine⟨0,by simp,by(first|exact rfl|exact trivial),by simp,λj=>j<=i.l.length,λj=>i.l.length-j,y2a _,λj hj=>zH (λe=> ?_) (λe=> ?_)⟩
 ·have hj':j<i.l.length:=by omega
  obtain⟨n,hn⟩:=yE (l:=i.l) (i:=j) hj';obtain⟨x,hx⟩:=yE (l:=i.p0) (i:=j) oM;have bn:=h3 n (y1j hn);have bx:=px j n x hn hx;have hz:(i.l.zip i.p0)[j]? =ao (n,x):=by rw[y5m];exact⟨hn,hx⟩
  have g:=zLm (i.l.zip i.p0) (i.q-i.p0.sum) j n x hz;have r:=zHj (i.l.zip i.p0) (i.q-i.p0.sum) j oM (λy hy=>by
   obtain⟨k,hk⟩:=y3m.1 hy;rw[y5m]at hk;exact(px k y.1 y.2 hk.1 hk.2).2)
  rw[hz2]at g r;have b0:=kQ pb i.p0.length;rw[y3w]at b0;have hml:(ae j i.p1++ag j i.p0).length=i.l.length:=by rw[y0x,y1q,y1w];omega
  have hma:=yRt (a:=i.p1) (b:=i.p0) oM hx;change i.p1[j]? =_ at g;change 0<=_-(ae j i.p1).sum/\_-(ae j i.p1).sum<=_ at r;change i.p1[j]? =ao (x+min (n-x) (_-(ae j i.p1).sum))at g;rw[hml];refine⟨⟨oM,oM⟩,n,elI hn,⟨oM,oM⟩,x,elI hma,⟨oM,oM⟩,x,elI hma,⟨oM,oM⟩,oM,?_⟩;rw[w64 (x:=n-x) (by omega),w64 (x:=x+min (n-x) (i.q-i.p0.sum+(ae j i.p0).sum-(ae j i.p1).sum)) (by omega)];refine⟨j+1,?_,wjn oM,?_,hj',Z9,trivial⟩
  ·rw[kZ hx,kZ g,w64 (by omega)];omega
  ·rw[y1o,zSn hma,yIs (by omega) g]
 ·have hje:j=i.l.length:=by omega
  subst hje;refine⟨(),?_,trivial⟩;rw[eS,y1k (by omega),y4j (by omega),y1t]
def yFz:plainC.ok Tryz.prog 226:=okw mixed (gokc zDe (gokc yLo (gokc zOp gok0))) 0 (λ_=>[]) (λi=>yPn i) [] Tryz.func226 yTn
structure RsI where
 l:List Int
 out:List Int
 least:Int
 q:Int
def RsI.idx (i:RsI) (k:Nat):List Nat:=(aj k).filter λn=>decide (i.out.getD n 0<i.l.getD n 0)
def RsI.left (i:RsI) (k:Nat):List Int:=(i.idx k).map λn=>i.l.getD n 0-i.out.getD n 0
def RsI.pl (i:RsI):List Int:=kE ⟨i.left i.l.length,i.least,i.q⟩
def RsI.add (i:RsI) (k:Nat):List Int:=(((i.idx i.l.length).zip i.pl).take k).foldl (λo y=>o.set y.1 (aa.wrap (o.getD y.1 0+y.2))) i.out
def m5 (i:RsI):List Int:=i.add i.pl.length
@[reducible] def RsI.ok (i:RsI):Prop:=i.l.length<=250/\i.out.length=i.l.length/\y9 i.q/\y9 i.least/\∀n,0<=i.out.getD n 0/\i.out.getD n 0<=i.l.getD n 0/\i.l.getD n 0<=1000000
def restC:Con:=zR RsI (λi=>[iV i.l,.own 0,zA i.least,zA i.q]) (λi=>[.own 2 1 (iE i.out)]) RsI.ok (λ_=> .own 1) (λi=>[.gone,.own 2 1 (iE (m5 i))])
def yWf (i:RsI):List SAnn:=[
 {ι:=Nat,slots:=λj=>[(9,.own 0),(10,.own 1),(16,zA j)],rows:=λj=>[.own 2 1 (iE (i.left j)),.own 3 1 (iE ((i.idx j).map λ(n:Nat)=>(n:Int)))]},
 {ι:=Nat,slots:=λk=>[(1,.own 0),(50,zA k)],rows:=λk=>[.own 2 1 (iE (i.add k))]}]
structure zG where
 id:Int
 side:Int
 price:Int
 qty:Int
 top:Bool
 deriving DecidableEq
def j8 (o:zG):List D:=[.v (.int .i64 o.id),.v (.int .i64 o.side),.v (.int .i64 o.price),.v (.int .i64 o.qty),.v (.bool o.top)]
@[reducible] def z0x (o:zG):V:= .agg [zA o.id,zA o.side,zA o.price,zA o.qty,yT o.top]
def topFC:Con:=zR zG (λo=>[z0x o]) (λ_=>[]) (λ_=>True) (λo=>yT o.top) (λ_=>[])
def topI (l:List zG):Int:=zHi (l.findIdx? λo=>o.top)
def idxOrdC:Con:=zR (List zG) (λl=>[roV 5 (l.map j8),.fn 212 [] []]) (λ_=>[]) (λl=>l.length<=1000000) (λl=>zA (topI l)) (λ_=>[])
def yLk (l:List zG):List SAnn:=[{ι:=Nat,slots:=λj=>[(8,zA j)],rows:=λ_=>[]}]
def yMk (i:RsI):Prop:=
 ∃(a:Nat),(↑a:Int)=0/\iE (i.left a)=[]/\iE (ac (λ(n:Nat) ↦ (↑n:Int)) (i.idx a))=[]/\∃(b:Nat->Prop),∃(c:Nat->Nat),b a/\∀(d:Nat),b d->cnd (decide ((↑d:Int)<(↑(iE i.l).length:Int))) ((0<=(↑d:Int)/\(↑d:Int)<(↑(iE i.l).length:Int))/\∃(e:Int),zE (iE i.l) (↑d:Int).toNat 0 1=ao [dI e]/\(0<=(↑d:Int)/\(↑d:Int)<(↑(iE i.out).length:Int))/\∃(f:Int),zE (iE i.out) (↑d:Int).toNat 0 1=ao [dI f]/\cnd (decide (e>f)) ((0<=(↑d:Int)/\(↑d:Int)<(↑(iE i.l).length:Int))/\∃(g:Int),zE (iE i.l) (↑d:Int).toNat 0 1=ao [dI g]/\(0<=(↑d:Int)/\(↑d:Int)<(↑(iE i.out).length:Int))/\∃(h:Int),zE (iE i.out) (↑d:Int).toNat 0 1=ao [dI h]/\((iE (i.left d)).length+1)*(8:Nat)<=(140737488355328:Nat)/\((iE (ac (λ(g:Nat) ↦ (↑g:Int)) (i.idx d))).length+1)*(8:Nat)<=(140737488355328:Nat)/\∃(j:Nat),(↑j:Int)=aa.wrap ((↑d:Int)+1)/\iE (i.left j)=iE (i.left d)++[[dI (aa.wrap (g-h))]]/\iE (ac (λ(g:Nat) ↦ (↑g:Int)) (i.idx j))=iE (ac (λ(g:Nat) ↦ (↑g:Int)) (i.idx d))++[[dI (↑d:Int)]]/\b j/\c j<c d/\da (ar 2 1 (iE i.out))) (∃(g:Nat),(↑g:Int)=aa.wrap ((↑d:Int)+1)/\iE (i.left g)=iE (i.left d)/\iE (ac (λ(e:Nat) ↦ (↑e:Int)) (i.idx g))=iE (ac (λ(e:Nat) ↦ (↑e:Int)) (i.idx d))/\b g/\c g<c d/\da (ar 2 1 (iE i.out)))) (∃(e:PlI),iE e.l=iE (i.left d)/\e.least=i.least/\e.q=i.q/\(e.l.length<=1000000/\((-9223372036854775808)<=e.q/\e.q<=9223372036854775807)/\(-9223372036854775808)<=e.least/\e.least<=9223372036854775807)/\∀(f:Unit),True->∃(g:Nat),(↑g:Int)=0/\iE (i.add g)=iE i.out/\∃(h:Nat->Prop),∃(j:Nat->Nat),h g/\∀(k:Nat),h k->cnd (decide ((↑k:Int)<(↑(iE (kE e)).length:Int))) ((0<=(↑k:Int)/\(↑k:Int)<(↑(iE (kE e)).length:Int))/\∃(l:Int),zE (iE (kE e)) (↑k:Int).toNat 0 1=ao [dI l]/\(0<=(↑k:Int)/\(↑k:Int)<(↑(iE (ac (λ(l:Nat) ↦ (↑l:Int)) (i.idx d))).length:Int))/\∃(m:Int),zE (iE (ac (λ(l:Nat) ↦ (↑l:Int)) (i.idx d))) (↑k:Int).toNat 0 1=ao [dI m]/\(0<=m/\m<(↑(iE (i.add k)).length:Int))/\∃(n:Int),zE (iE (i.add k)) m.toNat 0 1=ao [dI n]/\(0<=m/\m<(↑(iE (i.add k)).length:Int))/\m.toNat<(iE (i.add k)).length/\∃(p:Nat),(↑p:Int)=aa.wrap ((↑k:Int)+1)/\iE (i.add p)=zW (iE (i.add k)) m.toNat 0 [dI (aa.wrap (n+l))]/\h p/\j p<j k/\da (ar 2 1 (iE (kE e)))/\da (av 1 (iE (i.left d)))/\da (ar 3 1 (iE (ac (λ(l:Nat) ↦ (↑l:Int)) (i.idx d))))) (∃(l:Unit),iE (m5 i)=iE (i.add k)/\True))
def yMi (o:zG):Prop:=
 ∃(a:Unit),da o.top/\True
def z3b (l:List zG):Prop:=
 ∃(a:Nat),(↑a:Int)=0/\∃(b:Nat->Prop),∃(c:Nat->Nat),b a/\∀(d:Nat),b d->cnd (decide ((↑d:Int)<(↑(ac j8 l).length:Int))) ((0<=(↑d:Int)/\(↑d:Int)<(↑(ac j8 l).length:Int))/\∃(e:Int),∃(f:Int),∃(g:Int),∃(h:Int),∃(j:Bool),zE (ac j8 l) (↑d:Int).toNat 0 5=ao [dI e,dI f,dI g,dI h,D.v (.bool j)]/\∃(k:zG),k.id=e/\k.side=f/\k.price=g/\k.qty=h/\k.top=j/\True/\∀(m:Unit),True->cnd k.top (∃(n:Unit),topI l=(↑d:Int)/\True) (dK d b c)) (∃(e:Unit),topI l=(-1)/\True)
def yIh:topFC.ok Tryz.prog 212:=okw (V:=yMi) mixed gok0 0 (λ_=>[]) (λ_=>[]) [] Tryz.func212 λ(o:zG) _=>by
 unfold yMi;exact⟨(),rfl,trivial⟩
def zZu (i:PlI):(kE i).length=i.l.length\/kE i=[]:=by
 rw[kE];split
 ·left;rw[PlI.p1,zBv,List.length_zip,z2c];simp
 ·exact .inr rfl
def yQy {l:List zG} {k:Nat} {o:zG} (h:l[k]? =ao o):zE (l.map j8) k 0 5=ao [D.v (.int .i64 o.id),.v (.int .i64 o.side),.v (.int .i64 o.price),.v (.int .i64 o.qty),.v (.bool o.top)]:=elA h (by simp[j8]) rfl
def yHz (l:List zG) (h:idxOrdC.cnd l):z3b l:=by
 have h:l.length<=1000000:=h;unfold z3b dK qW dI;simp only[y0z];refine⟨0,rfl,λj=>j<=l.length/\∀k<j,∀x,l[k]? =ao x->x.top=ap,λj=>l.length-j,⟨oM,λk hk=>by omega⟩,?_⟩;rintro j ⟨h3,h4⟩;refine zH (λhj=> ?_) (λhj=> ?_)
 ·obtain⟨s,hs⟩:=yE (l:=l) (i:=j) oM;refine⟨⟨oM,oM⟩,s.id,s.side,s.price,s.qty,s.top,yQy hs,s,rF4 ⟨rfl,trivial,λ_ _=>Cv.cnd.mk (λe=> ?_) (λe=> ?_)⟩⟩
  ·rw[topI,zFe hs e h4];exact kp
  ·refine⟨j+1,by rw[w64 (by omega)];rfl,⟨oM,λk hk x hx=> ?_⟩,by(first|omega|(dsimp only;omega)),k0q⟩;rcases y3q k j with hk'|hk'
   ·exact h4 k hk' x hx
   ·obtain rfl:k=j:=by omega
    rw[hs]at hx;cases hx;exact e
 ·rw[topI,zFw λk x hx=>h4 k (by have:=(y1c.1 hx).1;omega) x hx];exact kp
def z8i:idxOrdC.ok Tryz.prog 211:=okw mixed (gokc yIh gok0) 0 (λ_=>[]) (λl=>yLk l) [] Tryz.func211 yHz
def yCr (i:RsI) (j:Nat):i.idx (j+1)=i.idx j++if i.out.getD j 0<i.l.getD j 0 then[j]else[]:=by
 rw[RsI.idx,y6r,y4y];by_cases h:i.out.getD j 0<i.l.getD j 0
 ·rw[y1a h,y5r (by simpa using h)];rfl
 ·rw[y0y h,y5s (by simpa using h)];rfl
def yQn (i:RsI) {k n:Nat} (h:n∈i.idx k):n<k:=by
 have:=(y2x.1 h).1;exact y4f.1 this
def z6l (i:RsI) (k:Nat):(i.idx k).length<=k:=by
 have:=y4i (λn=>decide (i.out.getD n 0<i.l.getD n 0)) (aj k);rw[List.length_range]at this;exact this
def zVh:∀(z:List (Nat×Int)) (o:List Int),(z.foldl (λo y=>o.set y.1 (aa.wrap (o.getD y.1 0+y.2))) o).length=o.length
 |[],_=>rfl
 |y::z,o=>by rw[y5d,zVh z,y2d]
def yXw (i:RsI) (h:restC.cnd i):yMk i:=by
 obtain⟨hl,ho,hq,hle,hb⟩:i.ok:=h;unfold yMk dI;simp only[y3,y0z];have hil:∀j,(i.left j).length=(i.idx j).length:=λj=>y0z _
 refine⟨0,by(first|exact rfl|exact trivial),by(first|exact rfl|exact trivial),by(first|exact rfl|exact trivial),λj=>j<=i.l.length,λj=>i.l.length-j,y2a _,λj hj=>zH (λc=> ?_) (λc=> ?_)⟩
 ·have hj':j<i.l.length:=by omega
  obtain⟨n,hn⟩:=yE (l:=i.l) (i:=j) hj';obtain⟨o,hoo⟩:=yE (l:=i.out) (i:=j) oM;have bj:=hb j;rw[zV hn,zV hoo]at bj;have is:=yCr i j;rw[zV hn,zV hoo]at is;have il:=z6l i j;refine⟨⟨oM,oM⟩,n,elI hn,⟨oM,oM⟩,o,elI hoo,zH (λa=> ?_) (λa=> ?_)⟩
  ·rw[y1a (by omega)]at is;refine⟨⟨oM,oM⟩,n,elI hn,⟨oM,oM⟩,o,elI hoo,by rw[hil];omega,oM,j+1,wjn oM,?_,?_,hj',Z9,k0q⟩
   ·rw[w64 (by omega),RsI.left,is,y1i];simp[iE,RsI.left,hn,hoo]
   ·rw[is];simp[iE]
  ·rw[y0y (by omega),y1t]at is;exact⟨j+1,wjn oM,by rw[RsI.left,is];rfl,by rw[is],hj',Z9,k0q⟩
 have hje:j=i.l.length:=by omega
 subst hje;have il:=z6l i i.l.length;refine⟨⟨i.left i.l.length,i.least,i.q⟩,rfl,rfl,rfl,⟨by dsimp only;rw[hil];omega,hq,hle⟩,λ_ _=> ?_⟩;have epl:kE ⟨i.left i.l.length,i.least,i.q⟩=i.pl:=rfl;rw[epl];have hpl:i.pl.length<=(i.idx i.l.length).length:=by
  rcases zZu ⟨i.left i.l.length,i.least,i.q⟩with e|e
  ·rw[epl]at e;rw[e];dsimp only;rw[hil];exact y1u _
  ·rw[epl]at e;rw[e];exact y2a _
 have hal:∀k,(i.add k).length=i.out.length:=λk=>zVh _ _
 refine⟨0,by(first|exact rfl|exact trivial),by(first|exact rfl|exact trivial),λk=>k<=i.pl.length,λk=>i.pl.length-k,y2a _,λk hk=>zH (λc=> ?_) (λc=> ?_)⟩
 ·have hk':k<i.pl.length:=by omega
  obtain⟨x,hx⟩:=yE (l:=i.pl) (i:=k) hk';obtain⟨n,hn⟩:=yE (l:=i.idx i.l.length) (i:=k) oM;have hnl:=yQn i (y1j hn);obtain⟨y,hy⟩:=yE (l:=i.add k) (i:=n) (by rw[hal];omega);have ea:i.add (k+1)=(i.add k).set n (aa.wrap (y+x)):=by
   have hz:((i.idx i.l.length).zip i.pl)[k]? =ao (n,x):=by rw[y5m];exact⟨hn,hx⟩
   have ey:(i.add k).getD n 0=y:=zV hy;rw[RsI.add,y2e,hz,y5q];show(i.add k).set n (aa.wrap ((i.add k).getD n 0+x))=_;rw[ey]
  have hnm:((i.idx i.l.length).map λ(n:Nat)=>(n:Int))[k]? =ao (n:Int):=by rw[y2n,hn];rfl
  rw[hal];refine⟨⟨oM,oM⟩,x,elI hx,⟨oM,oM⟩,n,elI hnm,⟨oM,oM⟩,y,elI hy,⟨oM,oM⟩,oM,k+1,wjn oM,?_,hk',Z9,k0q⟩;rw[ea,y1o,zSn hy]
 ·have hke:k=i.pl.length:=by omega
  subst hke;exact⟨(),rfl,trivial⟩
def z3n:restC.ok Tryz.prog 222:=okw mixed (gokc yFz gok0) 0 (λ_=>[]) (λi=>yWf i) [] Tryz.func222 yXw
structure PsI where
 l:List Int
 top:Int
 most:Int
 least:Int
 q:Int
def PsI.first (i:PsI):Int:=min (min (i.l.getD i.top.toNat 0) i.most) i.q
def PsI.rs (i:PsI):RsI:=if 0<=i.top/\i.top<i.l.length then⟨i.l,(af i.l.length 0).set i.top.toNat i.first,i.least,i.q-i.first⟩else⟨i.l,af i.l.length 0,i.least,i.q⟩
def zDd (i:PsI):List Int:=if yQ i.l i.q=aq/\1<=i.least/\0<=i.most then m5 i.rs else[]
def proC:Con:=zR PsI (λi=>[iV i.l,zA i.top,zA i.most,zA i.least,zA i.q]) (λ_=>[]) (λi=>i.l.length<=1000000/\y9 i.q/\y9 i.least/\y9 i.most) (λ_=> .own 0) (λi=>[.own 2 1 (iE (zDd i))])
structure SpI where
 l:List Int
 part:Int
 least:Int
 q:Int
def SpI.rs (i:SpI):RsI:=⟨i.l,uF i.l (i.q*i.part / 100),i.least,i.q-i.q*i.part / 100⟩
def zBm (i:SpI):List Int:=if yQ i.l i.q=aq/\0<=i.part/\i.part<=100/\1<=i.least then m5 i.rs else[]
def splC:Con:=zR SpI (λi=>[iV i.l,zA i.part,zA i.least,zA i.q]) (λ_=>[]) (λi=>i.l.length<=1000000/\y9 i.q/\y9 i.least/\y9 i.part) (λ_=> .own 0) (λi=>[.own 2 1 (iE (zBm i))])
def zDp (a:RsI):Prop:=a.l.length<=250/\a.out.length=a.l.length/\((-9223372036854775808)<=a.q/\a.q<=9223372036854775807)/\((-9223372036854775808)<=a.least/\a.least<=9223372036854775807)/\∀(b:Nat),0<=a.out.getD b 0/\a.out.getD b 0<=a.l.getD b 0/\a.l.getD b (0:Int)<=(1000000:Int)
def zLc (a:RsI) (b:PsI):Prop:=(zDp a)/\∀(c:Unit),True->∃(d:Unit),iE (zDd b)=iE (m5 a)/\True
def zLb (a:PsI):Prop:=∃(b:RsI),iE b.l=iE a.l/\b.least=a.least/\b.q=a.q/\iE b.out=af (↑(iE a.l).length:Int).toNat [dI 0]/\zLc b a
def sF (a:PsI):=(af (↑(iE a.l).length:Int).toNat [dI 0])
def zLr (a:PsI) (b:Int):=(zW (sF a) a.top.toNat 0 [dI (min (min b a.most) a.q)])
def yXi (i:PsI):Prop:=
 ∃(a:LqI),iE a.l=iE i.l/\a.q=i.q/\(jM a)/\∀(b:Unit),True->cnd (!yQ a.l a.q) (∃(c:Unit),iE (zDd i)=[]/\True) (cnd (decide (i.least<1)) (∃(c:Unit),iE (zDd i)=[]/\True) (cnd (decide (i.most<0)) (∃(c:Unit),iE (zDd i)=[]/\True) ((0<=(↑(iE i.l).length:Int)/\(↑(iE i.l).length:Int)<=(↑(iE i.l).length:Int)/\(↑(iE i.l).length:Int)<=9223372036854775807/\(↑(8:Nat):Int)*(↑(iE i.l).length:Int)<=2 ^ (48:Nat))/\cnd (decide (i.top>=0)) (cnd (decide (i.top<(↑(iE i.l).length:Int))) ((0<=i.top/\i.top<(↑(iE i.l).length:Int))/\∃(c:Int),zE (iE i.l) i.top.toNat 0 1=ao [dI c]/\(0<=i.top/\i.top<(↑(sF i).length:Int))/\i.top.toNat<(sF i).length/\(0<=i.top/\i.top<(↑(zLr i c).length:Int))/\∃(d:Int),zE (zLr i c) i.top.toNat 0 1=ao [dI d]/\∃(e:RsI),iE e.l=iE i.l/\e.least=i.least/\e.q=aa.wrap (i.q-d)/\iE e.out=zW (sF i) i.top.toNat 0 [dI (min (min c i.most) i.q)]/\zLc e i) (zLb i)) (zLb i))))
def yXt (i:SpI):Prop:=
 ∃(a:LqI),iE a.l=iE i.l/\a.q=i.q/\(jM a)/\∀(b:Unit),True->cnd (!yQ a.l a.q) (∃(c:Unit),iE (zBm i)=[]/\True) (cnd (decide (i.part<0)) (∃(c:Unit),iE (zBm i)=[]/\True) (cnd (decide (i.part>100)) (∃(c:Unit),iE (zBm i)=[]/\True) (cnd (decide (i.least<1)) (∃(c:Unit),iE (zBm i)=[]/\True) (∃(c:ShI),c.a=i.q/\c.b=i.part/\c.c=100/\(0<=c.a/\c.a<=(2000000000:Int)/\(0:Int)<=c.b/\c.b<=(2000000000:Int)/\(1:Int)<=c.c/\c.c<=2000000000)/\∀(d:Unit),True->∃(e:LqI),iE e.l=iE i.l/\e.q=c.a*c.b / c.c/\(jM e)/\∀(f:Unit),True->∃(g:RsI),iE g.l=iE i.l/\g.least=i.least/\g.q=aa.wrap (i.q-c.a*c.b / c.c)/\iE g.out=iE (uF e.l e.q)/\(zDp g)/\∀(h:Unit),True->∃(j:Unit),iE (zBm i)=iE (m5 g)/\True))))
end Sx
