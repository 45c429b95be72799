/- Texts of ours. No condition. -/
import Derived.Laws.Externs
import Derived.Test.YtgmmlhddihaocaaGreatS6
set_option linter.all false
open Go.IntKind renaming i64->aa,u64->ab
open List renaming map->ac,take->ae,replicate->af,headD_cons->ag,tail_cons->aj,range->ak,drop->am
open Exists renaming intro->ao
open Bool renaming true->ap,false->aq,or_eq_true->ar
open And renaming intro->au
open Sx.fi renaming cells->av,own->aw,jc->ax,iter->ay
open Option renaming some->az
open Go.Value renaming string->ba,int->bc
open Go.Utf8 renaming decode->be
namespace Sx
set_option maxRecDepth 100000
open Go Cv Go.Proofs
def zQq {α:Type} {f:α->α} {Q:α->Prop} (hf:∀x,Q x->Q (f x)):∀{l:List α} (i:Nat),(∃x∈l,Q x)->∃x∈l.modify i f,Q x
 |[],i,⟨x,hx,_⟩=>by cases hx
 |a::l,0,⟨x,hx,q⟩=>by
  rcases mn.1 hx with rfl|hx
  ·exact⟨f x,jm,hf x q⟩
  ·exact⟨x,kg _ hx,q⟩
 |a::l,i+1,⟨x,hx,q⟩=>by
  rw[OU];rcases mn.1 hx with rfl|hx
  ·exact⟨x,jm,q⟩
  ·obtain⟨y,hy,hq⟩:=zQq hf (l:=l) i ⟨x,hx,q⟩;exact⟨y,kg _ hy,hq⟩
def yIf {a:du} (h:a.fit) (n:Int) (t:Bool):(a.mi n t).fit:=by
 obtain⟨h1,h2,h3⟩:=h;rw[du.mi];split
 ·refine⟨by simpa using h1,λhf=> ?_,by simpa using h3⟩;exact zQq (f:=λs:Slot=>{s with top:=t}) (Q:=λs=>s.used=aq) (λx hx=>hx) _ (h2 hf)
 ·exact⟨h1,h2,h3⟩
def yDh {b:dp} (h:b.a.fit) (s:Int):(b.iU s).fit:=by
 rw[dp.iU]
 repeat' split
 all_goals first|exact h|exact yIf h _ _
def yFm {a:du} (h:a.fit):a.rr.fit:=by
 obtain⟨h1,h2,h3⟩:=h;refine⟨h1,h2,λq hq=> ?_⟩;rcases pz.1 hq with hq|hq
 ·exact h3 q hq
 ·rw[vm.1 hq];exact .inl rfl
def z2n {b:dp} (h:b.a.fit):b.iQ.2.2.fit:=by
 rw[dp.iQ];split
 ·exact yFm h
 ·exact h
def eI {b:dp} (h:b.a.fit) (s p:Int):(b.ga s p).1.a.fit:=by
 rw[dp.ga]
 repeat' split
 ·exact h
 ·exact z2n h
 ·exact z2n h
def yEx (b:dp) (s:Int):(b.iU s).dv.length=b.a.dv.length/\(b.iU s).dz=b.a.dz:=by
 have ht:∀n t,(b.a.mi n t).dv.length=b.a.dv.length/\(b.a.mi n t).dz=b.a.dz:=by
  intro n t;rw[du.mi];split
  ·exact⟨by simp,rfl⟩
  ·exact⟨rfl,rfl⟩
 rw[dp.iU]
 repeat' split
 all_goals first|exact⟨rfl,rfl⟩|exact ht _ _
def zTy {b:dp} (h:b.fit) (id s:Int):(b.jf id s).fit:=by
 obtain⟨h1,h2,h3,h4,h5⟩:=h;have hl:=yEx b s;rw[dp.jf];split
 all_goals exact⟨yDh h1 s,by rw[hl.2];exact h2,h3,h4,h5⟩
def zVg {b:dp} (h:b.fit):b.small:=by
 obtain⟨⟨h1,_⟩,h2,h3,h4,h5⟩:=h;exact⟨⟨h1,oM⟩,oM,oM,oM⟩
def yWw (i:AW) (h:F8.dq i):yJl i:=by
 have ta:i.b.fit:=h;have ug:=zVg ta;unfold yJl Yi TJ TM Tx XX zO sZ sG yJ kA eJ tP nI yP dI;have ER:∀(b:dp) (x:Int),u9 (bc aa i.id) [D.v (.int .i64 1),D.v (.int .i64 i.dk),D.v (.int .i64 x)] (iK b.at_)=iK (eN i.id ⟨1,i.dk,x⟩ b.at_):=λb x=>VT i.id ⟨1,i.dk,x⟩ b.at_
 refine⟨wF _ _,(kr i.b.at_ i.id).isSome,_,_,_,Mj _ _,1,rfl,trivial,λ_ _=> ?_⟩;refine Cv.dq.mk (λc=>absurd c Z8) λ_=> ?_
 refine zH (λc=> ?_) (λc=>zH (λd=> ?_) (λd=> ?_))
 ·have ha:i.b.ic 1 i.id i.dk i.dr=(i.b,24):=by rw[dp.ic,fh (.inl c)]
  rw[ha];exact kp
 ·have ha:i.b.ic 1 i.id i.dk i.dr=(i.b,24):=by rw[dp.ic,fh (.inr d)]
  rw[ha];exact kp
 have hq:¬(i.dr<1\/1000000<i.dr):=by omega
 refine Cv.dq.mk (λe=> ?_) (λe=> ?_)
 ·have ha:i.b.ic 1 i.id i.dk i.dr=(i.b,25):=by rw[dp.ic,fb hq,fh e]
  rw[ha];exact kp
 have hlen:(iK i.b.at_).length=i.b.at_.length:=by simp[iK]
 rw[hlen];refine zH (λf=> ?_) (λf=> ?_)
 ·have ha:i.b.ic 1 i.id i.dk i.dr=(i.b,13):=by rw[dp.ic,fb hq,fb (by rw[e];decide),fh (by omega)]
  rw[ha];exact kp
 have ha:i.b.ic 1 i.id i.dk i.dr=(i.b.ph 1 i.id i.dk i.dr,0):=by rw[dp.ic,fb hq,fb (by rw[e];decide),fb (by omega)]
 rw[ha];simp only[im];refine⟨ap,λx=>x=i.b.leads 1 i.dk,Cv.dq.mk (λg=>⟨ap,rfl,?_,gu⟩) (λg=> ?_),λx hx=> ?_⟩
 ·have:i.b.fc=[]:=yh (by have:(i.b.fc.length:Int)=0:=(by simpa using g);omega);rw[dp.leads,sJ,this]
 ·obtain⟨r,l,hl⟩:∃r l,i.b.fc=r::l:=by
   cases hb:i.b.fc with
   |nil=>rw[hb]at g;exact absurd g Z8
   |cons r l=>exact⟨r,l,rfl⟩
  refine⟨⟨oM,by rw[hl,iJ];omega⟩,r.dk,ju (x:=r) (by rw[hl];rfl) (by simp[zB]) rfl,⟨1,i.dk,r.dk⟩,rfl,rfl,rfl,trivial,λ_ _=>⟨_,rfl,?_,gu⟩⟩;rw[dp.leads,sJ,hl]
 subst hx;refine Cv.dq.mk (λg=> ?_) (λg=> ?_)
 ·have Cr:i.b.qk i.id 1 i.dk=i.b.jf i.id 1:=by rw[dp.qk,fh g]
  have PF:=zTy ta i.id 1;have ln:i.b.ph 1 i.id i.dk i.dr={((i.b.jf i.id 1).ga 1 i.dk).1 with a:=(((i.b.jf i.id 1).ga 1 i.dk).1.a.push ((i.b.jf i.id 1).ga 1 i.dk).2 i.id i.dr (i.b.leads 1 i.dk)).1,at_:=eN i.id ⟨1,i.dk,(((i.b.jf i.id 1).ga 1 i.dk).1.a.push ((i.b.jf i.id 1).ga 1 i.dk).2 i.id i.dr (i.b.leads 1 i.dk)).2.1⟩ ((i.b.jf i.id 1).ga 1 i.dk).1.at_}:=by
   simp only[dp.ph,Cr]
  refine⟨⟨i.b,i.id⟩,rfl,trivial,gr ⟨rfl,ug,λ_ _=>⟨⟨i.b.jf i.id 1,i.dk⟩,trivial,mh (iT ⟨rfl,PF,λ_ _=>⟨trivial,?_⟩⟩)⟩⟩⟩;refine⟨⟨((i.b.jf i.id 1).ga 1 i.dk).1.a,((i.b.jf i.id 1).ga 1 i.dk).2,i.id,i.dr,i.b.leads 1 i.dk⟩,nn ⟨rfl,eI PF.1 1 i.dk,λ_ _=>⟨wF _ _,(),?_⟩⟩⟩;dsimp only;rw[ln,ER]
  exact kp
 ·have Cr:i.b.qk i.id 1 i.dk=i.b:=by rw[dp.qk,fb (by rw[g];decide)]
  have ln:i.b.ph 1 i.id i.dk i.dr={(i.b.ga 1 i.dk).1 with a:=((i.b.ga 1 i.dk).1.a.push (i.b.ga 1 i.dk).2 i.id i.dr (i.b.leads 1 i.dk)).1,at_:=eN i.id ⟨1,i.dk,((i.b.ga 1 i.dk).1.a.push (i.b.ga 1 i.dk).2 i.id i.dr (i.b.leads 1 i.dk)).2.1⟩ (i.b.ga 1 i.dk).1.at_}:=by
   simp only[dp.ph,Cr]
  refine⟨⟨i.b,i.dk⟩,trivial,mh (iT ⟨rfl,ta,λ_ _=>⟨trivial,?_⟩⟩)⟩;refine⟨⟨(i.b.ga 1 i.dk).1.a,(i.b.ga 1 i.dk).2,i.id,i.dr,i.b.leads 1 i.dk⟩,nn ⟨rfl,eI ta.1 1 i.dk,λ_ _=>⟨wF _ _,(),?_⟩⟩⟩;dsimp only;rw[ln,ER]
  exact kp
def yMh:F8.ok Tryz.prog 232:=ib mixed (dx IN (dx mV (dx yLm (dx yFj (dx z0e fj))))) 0 (λ_=>yVs) (λ_=>[]) [0] Tryz.func232 yWw
def yYa (i:AW) (h:F7.dq i):yGz i:=by
 have ta:i.b.fit:=h;have ug:=zVg ta;unfold yGz X5 Yu zN sZ sG yJ mS yR TJ TM Tx kA eJ tP dI;have ER:∀(b:dp) (x:Int),u9 (bc aa i.id) [D.v (.int .i64 2),D.v (.int .i64 i.dk),D.v (.int .i64 x)] (iK b.at_)=iK (eN i.id ⟨2,i.dk,x⟩ b.at_):=λb x=>VT i.id ⟨2,i.dk,x⟩ b.at_
 refine⟨wF _ _,(kr i.b.at_ i.id).isSome,_,_,_,Mj _ _,2,rfl,trivial,λ_ _=> ?_⟩;refine Cv.dq.mk (λc=>absurd c Z8) λ_=> ?_
 refine zH (λc=> ?_) (λc=>zH (λd=> ?_) (λd=> ?_))
 ·have ha:i.b.ic 2 i.id i.dk i.dr=(i.b,24):=by rw[dp.ic,fh (.inl c)]
  rw[ha];exact kp
 ·have ha:i.b.ic 2 i.id i.dk i.dr=(i.b,24):=by rw[dp.ic,fh (.inr d)]
  rw[ha];exact kp
 have hq:¬(i.dr<1\/1000000<i.dr):=by omega
 refine Cv.dq.mk (λe=> ?_) (λe=> ?_)
 ·have ha:i.b.ic 2 i.id i.dk i.dr=(i.b,25):=by rw[dp.ic,fb hq,fh e]
  rw[ha];exact kp
 have hlen:(iK i.b.at_).length=i.b.at_.length:=by simp[iK]
 rw[hlen];refine zH (λf=> ?_) (λf=> ?_)
 ·have ha:i.b.ic 2 i.id i.dk i.dr=(i.b,13):=by rw[dp.ic,fb hq,fb (by rw[e];decide),fh (by omega)]
  rw[ha];exact kp
 have ha:i.b.ic 2 i.id i.dk i.dr=(i.b.ph 2 i.id i.dk i.dr,0):=by rw[dp.ic,fb hq,fb (by rw[e];decide),fb (by omega)]
 rw[ha];simp only[im];refine⟨ap,λx=>x=i.b.leads 2 i.dk,Cv.dq.mk (λg=>⟨ap,rfl,?_,gu⟩) (λg=> ?_),λx hx=> ?_⟩
 ·have:i.b.dw=[]:=yh (by have:(i.b.dw.length:Int)=0:=(by simpa using g);omega);rw[dp.leads,eO,this]
 ·obtain⟨r,l,hl⟩:∃r l,i.b.dw=r::l:=by
   cases hb:i.b.dw with
   |nil=>rw[hb]at g;exact absurd g Z8
   |cons r l=>exact⟨r,l,rfl⟩
  refine⟨⟨oM,by rw[hl,iJ];omega⟩,r.dk,ju (x:=r) (by rw[hl];rfl) (by simp[zB]) rfl,⟨2,i.dk,r.dk⟩,rfl,rfl,rfl,trivial,λ_ _=>⟨_,rfl,?_,gu⟩⟩;rw[dp.leads,eO,hl]
 subst hx;refine Cv.dq.mk (λg=> ?_) (λg=> ?_)
 ·have Cr:i.b.qk i.id 2 i.dk=i.b.jf i.id 2:=by rw[dp.qk,fh g]
  have PF:=zTy ta i.id 2;have ln:i.b.ph 2 i.id i.dk i.dr={((i.b.jf i.id 2).ga 2 i.dk).1 with a:=(((i.b.jf i.id 2).ga 2 i.dk).1.a.push ((i.b.jf i.id 2).ga 2 i.dk).2 i.id i.dr (i.b.leads 2 i.dk)).1,at_:=eN i.id ⟨2,i.dk,(((i.b.jf i.id 2).ga 2 i.dk).1.a.push ((i.b.jf i.id 2).ga 2 i.dk).2 i.id i.dr (i.b.leads 2 i.dk)).2.1⟩ ((i.b.jf i.id 2).ga 2 i.dk).1.at_}:=by
   simp only[dp.ph,Cr]
  refine⟨⟨i.b,i.id⟩,rfl,trivial,gr ⟨rfl,ug,λ_ _=>⟨⟨i.b.jf i.id 2,i.dk⟩,trivial,mh (iT ⟨rfl,PF,λ_ _=>⟨trivial,?_⟩⟩)⟩⟩⟩;refine⟨⟨((i.b.jf i.id 2).ga 2 i.dk).1.a,((i.b.jf i.id 2).ga 2 i.dk).2,i.id,i.dr,i.b.leads 2 i.dk⟩,nn ⟨rfl,eI PF.1 2 i.dk,λ_ _=>⟨wF _ _,(),?_⟩⟩⟩;dsimp only;rw[ln,ER]
  exact kp
 ·have Cr:i.b.qk i.id 2 i.dk=i.b:=by rw[dp.qk,fb (by rw[g];decide)]
  have ln:i.b.ph 2 i.id i.dk i.dr={(i.b.ga 2 i.dk).1 with a:=((i.b.ga 2 i.dk).1.a.push (i.b.ga 2 i.dk).2 i.id i.dr (i.b.leads 2 i.dk)).1,at_:=eN i.id ⟨2,i.dk,((i.b.ga 2 i.dk).1.a.push (i.b.ga 2 i.dk).2 i.id i.dr (i.b.leads 2 i.dk)).2.1⟩ (i.b.ga 2 i.dk).1.at_}:=by
   simp only[dp.ph,Cr]
  refine⟨⟨i.b,i.dk⟩,trivial,mh (iT ⟨rfl,ta,λ_ _=>⟨trivial,?_⟩⟩)⟩;refine⟨⟨(i.b.ga 2 i.dk).1.a,(i.b.ga 2 i.dk).2,i.id,i.dr,i.b.leads 2 i.dk⟩,nn ⟨rfl,eI ta.1 2 i.dk,λ_ _=>⟨wF _ _,(),?_⟩⟩⟩;dsimp only;rw[ln,ER]
  exact kp
def yMv:F7.ok Tryz.prog 232:=ib mixed (dx IN (dx mV (dx yIv (dx yDy (dx z0e fj))))) 0 (λ_=>yVs) (λ_=>[]) [0] Tryz.func232 yYa
def yOm:Se.ok Tryz.prog 232:=λj=>match j with
 |⟨i,aq⟩=>yMh i
 |⟨i,ap⟩=>yMv i
def y5c (i:HU) (h:JJ.dq i):yUs i:=by
 obtain⟨hp,Am,hb⟩:i.s.fit:=h;unfold yUs Xe rA pO Xs X3 qF dI;simp only[zZi];have Aj:(yS i.s.wh).length=i.s.wh.length:=by simp[yS]
 rw[Aj];have out (e:i.inst<0\/i.s.ej.length<=i.inst):gq.ic i=(i.s,20):=by rw[gq.ic,fh e]
 refine⟨cN _ _,(BY i.s.wh i.id).isSome,_,yZe _ _,zH (λc=>Cv.dq.mk (λd=> ?_) (λd=> ?_)) (λc=> ?_)⟩
 ·have d:¬i.inst<(i.s.ej.length:Int):=by simpa using d
  rw[out (.inr (by omega))];exact kp
 ·have d:i.inst<(i.s.ej.length:Int):=by simpa using d
  have hn:¬(i.inst<0\/(i.s.ej.length:Int)<=i.inst):=by omega
  refine Cv.dq.mk (λe=> ?_) (λe=>zH (λf=> ?_) (λf=> ?_))
  ·rw[gq.ic,fb hn,fh e];exact kp
  ·rw[gq.ic,fb hn,fb (by rw[e];decide),fh (by omega)];exact kp
  ·refine⟨⟨i.s.p,i.inst,i.dk⟩,gr (nn ⟨rfl,hp,λ_ _=>Cv.dq.mk (λg=> ?_) (λg=> ?_)⟩)⟩
   ·have g:i.s.p.dk i.inst i.dk≠0:=by simpa using g
    rw[gq.ic,fb hn,fb (by rw[e];decide),fb (by omega),fh g];exact kp
   ·have g:i.s.p.dk i.inst i.dk=0:=by simpa using g
    obtain⟨x,hx⟩:=z6 (l:=i.s.ej) (i:=i.inst.toNat) oM;have hba:i.s.AD i.inst=x:=zT hx;have ha:gq.ic i=({i.s with ej:=i.s.ej.set i.inst.toNat (x.ic (zC i.sd) i.id i.dk i.dr).1,wh:=if(x.ic (zC i.sd) i.id i.dk i.dr).2=0 then IT i.id i.inst i.s.wh else i.s.wh},(x.ic (zC i.sd) i.id i.dk i.dr).2):=by
     rw[gq.ic,fb hn,fb (by rw[e];decide),fb (by omega),fb (by simp[g])];simp only[hba]
    refine⟨⟨oM,oM⟩,oM,x,hx,⟨⟨x,i.id,i.dk,i.dr⟩,i.sd⟩,nn ⟨rfl,hb x (lq hx),λ_ _=>⟨(x.ic (zC i.sd) i.id i.dk i.dr).1,rfl,trivial,oM,Cv.dq.mk (λz=>⟨cN _ _,?_⟩) (λz=> ?_)⟩⟩⟩
    ·have z:(x.ic (zC i.sd) i.id i.dk i.dr).2=0:=by simpa using z
     rw[ha,z];simp only[if_true]
     exact kp
    ·have z:¬(x.ic (zC i.sd) i.id i.dk i.dr).2=0:=by simpa using z
     rw[ha,fb z]
     exact kp
 ·rw[out (.inl (by omega))];exact kp
def ySw:JJ.ok Tryz.prog 220:=ib mixed (dx lN (dx yOm fj)) 1 (λ_=>[]) (λ_=>[]) [0] Tryz.func220 y5c
def Df:gi:=fp (List UInt8) (λs=>[sV s]) (λ_=>[]) (λs=>s.length<=1099511627776) (λs=>yN (wH s)) (λ_=>[])
def yRk (s:List UInt8):List gp:=[{ι:=Nat×Nat,dv:=λx=>[(3,zA x.2),(7,.nm 0 0)],rows:=λx=>[.iter (sb s) x.1]}]
def yRy:List (Nat×gp):=[(20,bj 29)]
def Bx:gi:=fp ff (λp=>[oe p]) (λ_=>[]) ff.small (λp=>zA p.check) (λ_=>[])
def yGh:List gp:=[{ι:=Nat,dv:=λj=>[(3,zA j)],rows:=λ_=>[]},{ι:=Nat,dv:=λj=>[(4,zA j)],rows:=λ_=>[]},{ι:=Nat,dv:=λj=>[(5,zA j)],rows:=λ_=>[]}]
def yHn:List (Nat×gp):=[(12,bj 19),(32,bj 58),(40,bj 90),(68,bj 136),(96,bj 168),(104,bj 176),(112,bj 204)]
def Bw:gi:=fp ff (λp=>[oe p]) (λ_=>[]) ff.small (λp=>zA p.count) (λ_=>[])
def De:gi:=fp bG (λi=>[oe i.p,zA i.n]) (λ_=>[]) (λi=>i.p.small) (λi=> .ja [zA (i.p.gj i.n).1,zA (i.p.gj i.n).2.1,yN (i.p.gj i.n).2.2]) (λ_=>[])
def yOy (i:bG):List gp:=[{ι:=Nat,dv:=λm=>[(8,zA (yL i.p.dm.length m)),(9,zA m)],rows:=λ_=>[]},
 {ι:=Nat×Nat,dv:=λm=>[(8,zA ((yL i.p.dm.length m.1+m.2:Nat):Int)),(9,zA m.1),(10,zA ((m.1+1+m.2:Nat):Int))],rows:=λ_=>[]}]
def kN (x:ff):Int:=2+zG x.dm.length 0 3
def zS (x:ff):Int:=1+zG x.tick 0 9
def qJ (n:Nat):List Int:=(ak n).map λ(i:Nat)=>10*(i:Int)+3
def kK (t:Int) (n:Nat):List Int:=(ak n).map λ(i:Nat)=>t*(10+(i:Int))
def ie (x:ff):ff:=⟨[206,169],qJ (kN x).toNat,zS x,-20*zS x,100*zS x,zS x*(5+zG x.wide 0 60),1+zG x.dt 0 2,zG x.top 0 9,1+zG x.least 0 4,zG x.part 0 100,kK (zS x) (kN x).toNat⟩
@[reducible] def ff.raw (x:ff):Prop:=gx x.tick/\gx x.wide/\gx x.dt/\gx x.top/\gx x.least/\gx x.part/\x.dm.length<=9223372036854775807
def Cx:gi:=fp ff (λx=>[oe x]) (λ_=>[]) ff.raw (λx=>oe (ie x)) (λ_=>[])
def y6z (x:ff) (w:Int) (j:Nat):List fi:=[.cells [sV [206,169],.own 1,zA (zS x),zA (-20*zS x),zA (100*zS x),zA w,zA (1+zG x.dt 0 2),zA (zG x.top 0 9),zA (1+zG x.least 0 4),zA (zG x.part 0 100),.own 2] 25,.own 3 1 (iE (qJ j)),.own 2 1 (iE (kK (zS x) j))]
def y2x (x:ff):List fi:=[.cells [sV [206,169],.d (.v (.slice none 0 0)),zA (zS x),zA (-20*zS x),zA (100*zS x),zA 0,zA (1+zG x.dt 0 2),zA (zG x.top 0 9),zA (1+zG x.least 0 4),zA (zG x.part 0 100),.d (.v (.slice none 0 0))] 25]
def y0g (x:ff):List gp:=[{ι:=Nat,dv:=λj=>[(5,.nm 0 0),(6,zA j)],rows:=λj=>y6z x (zS x*(5+zG x.wide 0 60)) j}]
def y1h (x:ff):List (Nat×gp):=[(12,{ι:=Unit,dv:=λ_=>[(5,.nm 0 0)],oI:=λ_=>[],lp:=λ_=>[],rows:=λ_=>y2x x})]
def pA (a:Bool->Prop) (b:Bool) (c:List UInt8) (d:Nat×Nat):Prop:=a b/\dj (ay (sb c) (d.fst+(be (sb c) d.fst).snd))
def qI (a:List UInt8) (b:Nat×Nat):=(↑(be (sb a) b.fst).fst:Int)
def lZ (a:List UInt8) (b:Nat×Nat) (c:Bool->Prop):Prop:=∃(d:Bool),d=!(qI a b) !=930/\pA c d a b
def bM (a:Bool->Prop) (b:List UInt8) (c:Nat×Nat):Prop:=∃(d:Bool),d=!false/\pA a d b c
def yAo (s:List UInt8):Prop:=
 ∃(a:Nat×Nat),(↑a.snd:Int)=0/\sb s=sb s/\a.fst=0/\∃(b:Nat×Nat->Prop),∃(c:Nat×Nat->Nat),b a/\∀(d:Nat×Nat),b d->dq (d.fst.blt (sb s).size) (∃(e:Bool),∃(f:Bool->Prop),dq (decide ((qI s d)>=65)) (dq (decide ((qI s d)<=90)) (∃(g:Bool),g=!true/\pA f g s d) (dq (decide ((qI s d)>=913)) (dq (decide ((qI s d)<=937)) (lZ s d f) (bM f s d)) (bM f s d))) (dq (decide ((qI s d)>=913)) (dq (decide ((qI s d)<=937)) (lZ s d f) (bM f s d)) (bM f s d))/\∀(g:Bool),f g->dq g (∃(h:Unit),wH s=aq/\True) (cO d s b c)) (dq (decide ((↑d.snd:Int)>=1)) (∃(e:Unit),wH s=decide ((↑d.snd:Int)<=4)/\True) (∃(e:Unit),wH s=aq/\True))
def mF (a:ff):Prop:=av [V.d (jL a),V.own 0,V.d (dI a.tick),V.d (dI a.low),V.d (dI a.high),V.d (dI a.wide),V.d (dI a.dt),V.d (dI a.top),V.d (dI a.least),V.d (dI a.part),V.own 1] 25=av [V.d (jL a),V.own 0,V.d (dI a.tick),V.d (dI a.low),V.d (dI a.high),V.d (dI a.wide),V.d (dI a.dt),V.d (dI a.top),V.d (dI a.least),V.d (dI a.part),V.own 1] 25/\aN a
def tA (a:Nat) (b:Nat->Prop) (c:Nat->Nat) (d:ff):Prop:=∃(e:Nat),(↑e:Int)=aa.wrap ((↑a:Int)+1)/\b e/\c e<c a/\mF d
def Zs (a:Bool->Prop) (b:ff) (c:Nat) (d:Nat->Prop) (e:Nat->Nat):Prop:=∀(f:Bool),a f->dq f (∃(g:Unit),b.check=1/\True) (tA c d e b)
def qP (a:Bool->Prop) (b:Bool) (c:ff):Prop:=a b/\mF c
def yQ (a:Bool->Prop) (b:ff):Prop:=∃(c:Bool),c=ap/\qP a c b
def z1r (p:ff):Prop:=
 ∃(a:List UInt8),sb a=sb p.code/\a.length<=1099511627776/\∀(b:Unit),True->dq (!wH a) (∃(c:Unit),p.check=12/\True) (∃(c:Bool),∃(d:Bool->Prop),dq (decide ((xG p)<2)) (yQ d p) (∃(e:Bool),e=decide ((xG p)>6)/\qP d e p)/\∀(e:Bool),d e->dq e (∃(f:Unit),p.check=1/\True) (∃(f:Nat),(↑f:Int)=0/\∃(g:Nat->Prop),∃(h:Nat->Nat),g f/\∀(j:Nat),g j->dq (decide ((↑j:Int)<(xG p))) (∃(k:Bool),∃(l:Bool->Prop),((0<=(↑j:Int)/\(↑j:Int)<(xG p))/\∃(m:Int),zD (iE p.dm) (↑j:Int).toNat 0 1=az [dI m]/\dq (decide (m<0)) (yQ l p) ((0<=(↑j:Int)/\(↑j:Int)<(xG p))/\∃(n:Int),zD (iE p.dm) (↑j:Int).toNat 0 1=az [dI n]/\dq (decide (n>1199)) (yQ l p) (dq (decide ((↑j:Int)>0)) ((0<=aa.wrap ((↑j:Int)-1)/\aa.wrap ((↑j:Int)-1)<(xG p))/\∃(q:Int),zD (iE p.dm) (aa.wrap ((↑j:Int)-1)).toNat 0 1=az [dI q]/\(0<=(↑j:Int)/\(↑j:Int)<(xG p))/\∃(r:Int),zD (iE p.dm) (↑j:Int).toNat 0 1=az [dI r]/\∃(s:Bool),s=decide (q>=r)/\qP l s p) (∃(q:Bool),q=aq/\qP l q p))))/\Zs l p j g h) (∃(k:Bool),∃(l:Bool->Prop),dq (decide (p.tick<1)) (yQ l p) (dq (decide (p.tick>1000)) (yQ l p) (aa=aa/\p.tick≠0/\dq (p.low.tmod p.tick !=0) (yQ l p) (aa=aa/\p.tick≠0/\dq (p.high.tmod p.tick !=0) (yQ l p) (aa=aa/\p.tick≠0/\∃(m:Bool),m=(p.wide.tmod p.tick !=0)/\qP l m p))))/\∀(m:Bool),l m->dq m (∃(n:Unit),p.check=22/\True) (∃(n:Nat),(↑n:Int)=0/\∃(q:Nat->Prop),∃(r:Nat->Nat),q n/\∀(s:Nat),q s->dq (decide ((↑s:Int)<(vG p))) ((0<=(↑s:Int)/\(↑s:Int)<(vG p))/\∃(t:Int),zD (iE p.settle) (↑s:Int).toNat 0 1=az [dI t]/\aa=aa/\p.tick≠0/\dq (t.tmod p.tick !=0) (∃(u:Unit),p.check=22/\True) (tA s q r p)) (∃(t:Bool),∃(u:Bool->Prop),dq (decide (p.low<(-1000000))) (yQ u p) (dq (decide (p.low>=p.high)) (yQ u p) (dq (decide (p.high>1000000)) (yQ u p) (dq (decide (p.wide<0)) (yQ u p) (∃(v:Bool),v=decide (p.wide>aa.wrap (p.high-p.low))/\qP u v p))))/\∀(v:Bool),u v->dq v (∃(w:Unit),p.check=23/\True) (dq ((vG p) !=(xG p)) (∃(w:Unit),p.check=1/\True) (∃(w:Nat),(↑w:Int)=0/\∃(x:Nat->Prop),∃(y:Nat->Nat),x w/\∀(z:Nat),x z->dq (decide ((↑z:Int)<(vG p))) (∃(iW:Bool),∃(lu:Bool->Prop),((0<=(↑z:Int)/\(↑z:Int)<(vG p))/\∃(jg:Int),zD (iE p.settle) (↑z:Int).toNat 0 1=az [dI jg]/\dq (decide (jg<p.low)) (yQ lu p) ((0<=(↑z:Int)/\(↑z:Int)<(vG p))/\∃(km:Int),zD (iE p.settle) (↑z:Int).toNat 0 1=az [dI km]/\∃(iB:Bool),iB=decide (km>p.high)/\qP lu iB p))/\Zs lu p z x y) (∃(iW:Bool),∃(lu:Bool->Prop),dq (decide (p.dt<1)) (yQ lu p) (∃(jg:Bool),jg=decide (p.dt>3)/\qP lu jg p)/\∀(jg:Bool),lu jg->dq jg (∃(km:Unit),p.check=31/\True) (∃(km:Bool),∃(iB:Bool->Prop),dq (decide (p.top<0)) (yQ iB p) (dq (decide (p.top>1000000)) (yQ iB p) (dq (decide (p.least<1)) (yQ iB p) (dq (decide (p.least>1000)) (yQ iB p) (dq (decide (p.part<0)) (yQ iB p) (∃(o5:Bool),o5=decide (p.part>100)/\qP iB o5 p)))))/\∀(o5:Bool),iB o5->dq o5 (∃(jo:Unit),p.check=24/\True) (∃(jo:Unit),p.check=0/\True))))))))))
def z2k (p:ff):Prop:=
 ∃(a:ff),tH a p
def fQ (a:bG) (b:Nat×Nat):=(↑(yL a.p.dm.length b.fst+b.snd):Int)
def yCx (i:bG):Prop:=
 ∃(a:ff),sb a.code=sb i.p.code/\iE a.dm=iE i.p.dm/\a.tick=i.p.tick/\a.low=i.p.low/\a.high=i.p.high/\a.wide=i.p.wide/\a.dt=i.p.dt/\a.top=i.p.top/\a.least=i.p.least/\a.part=i.p.part/\iE a.settle=iE i.p.settle/\(zW a)/\∀(b:Unit),True->dq (a.check !=0) (fK i) (dq (decide (i.n<0)) (fK i) (dq (decide (i.n<(vS i))) (T3 i) (∃(c:Nat),(uY i c)=(vS i)/\(↑c:Int)=0/\∃(d:Nat->Prop),∃(e:Nat->Nat),d c/\∀(f:Nat),d f->dq (decide ((↑f:Int)<(vS i))) (∃(g:Nat×Nat),(fQ i g)=(uY i f)/\(↑g.fst:Int)=(↑f:Int)/\(↑(g.fst+1+g.snd):Int)=aa.wrap ((↑f:Int)+1)/\∃(h:Nat×Nat->Prop),∃(j:Nat×Nat->Nat),h g/\∀(k:Nat×Nat),h k->dq (decide ((↑(k.fst+1+k.snd):Int)<(vS i))) (dq ((fQ i k)==i.n) (∃(l:Unit),(i.p.gj i.n).fst=(↑k.fst:Int)/\(i.p.gj i.n).snd.fst=(↑(k.fst+1+k.snd):Int)/\(i.p.gj i.n).snd.snd=ap/\True) (∃(l:Nat×Nat),(fQ i l)=aa.wrap ((fQ i k)+1)/\(↑l.fst:Int)=(↑k.fst:Int)/\(↑(l.fst+1+l.snd):Int)=aa.wrap ((↑(k.fst+1+k.snd):Int)+1)/\h l/\j l<j k/\pF i)) (∃(l:Nat),(uY i l)=(fQ i k)/\(↑l:Int)=aa.wrap ((↑k.fst:Int)+1)/\TV d l e f i)) (fK i))))
def y3 (a:qu):Prop:=((-9223372036854775808)<=a.n/\a.n<=9223372036854775807)/\(-1000000)<=a.lo/\a.lo<=a.hi/\a.hi<=1000000
def qB (a:qu):=(1+zG a.n a.lo a.hi)
def uI:=(D.v (Value.slice none 0 0))
def kX:=(D.v (ba (ByteArray.mk #[])))
def XS (a:ff):Prop:=av (Sx.V.agg [V.d kX,V.d uI,V.d (dI 0),V.d (dI 0),V.d (dI 0),V.d (dI 0),V.d (dI 0),V.d (dI 0),V.d (dI 0),V.d (dI 0),V.d uI]).cl 25=av (Sx.V.agg [V.d kX,V.d uI,V.d (dI 0),V.d (dI 0),V.d (dI 0),V.d (dI 0),V.d (dI 0),V.d (dI 0),V.d (dI 0),V.d (dI 0),V.d uI]).cl 25/\mF a
def Yo (a:ff) (b:qu) (c:qu) (d:qu) (e:qu) (f:Unit->Prop):Prop:=∃(g:qu),g.n=a.part/\g.lo=0/\g.hi=100/\(y3 g)/\∀(h:Unit),True->∃(j:Unit),sb [(206:UInt8),(169:UInt8)]=ByteArray.mk #[(206:UInt8),(169:UInt8)]/\True/\zS a=aa.wrap (qB b)/\(-20)*zS a=aa.wrap ((-20)*aa.wrap (qB b))/\100*zS a=aa.wrap (100*aa.wrap (qB b))/\dj ((0:Int))/\1+zG a.dt 0 2=aa.wrap (qB c)/\zG a.top 0 9=zG d.n d.lo d.hi/\1+zG a.least 0 4=aa.wrap (qB e)/\zG a.part 0 100=zG g.n g.lo g.hi/\True/\f j/\XS a
def Yn (a:ff) (b:qu) (c:qu) (d:qu) (e:qu) (f:Unit->Prop):Prop:=a.part=a.part/\Yo a b c d e f
def Yz (a:ff) (b:qu) (c:qu) (d:qu) (e:Unit->Prop):Prop:=a.part=a.part/\dj a.least/\∃(f:qu),f.n=a.least/\f.lo=0/\f.hi=4/\(y3 f)/\∀(g:Unit),True->Yn a b c d f e
def XZ (a:ff) (b:qu) (c:qu) (d:Unit->Prop):Prop:=a.part=a.part/\dj a.least/\dj a.top/\∃(e:qu),e.n=a.top/\e.lo=0/\e.hi=9/\(y3 e)/\∀(f:Unit),True->Yz a b c e d
def j9 (a:ff):=(5+zG a.wide 0 60)
def uO (a:ff):=(kK (zS a) (kN a).toNat)
def yKd (x:ff):Prop:=
 ∃(a:qu),a.n=(xG x)/\a.lo=0/\a.hi=3/\(y3 a)/\∀(b:Unit),True->∃(c:qu),c.n=x.tick/\c.lo=0/\c.hi=9/\(y3 c)/\∀(d:Unit),True->∃(e:Unit),∃(f:Unit->Prop),((∃(g:qu),g.n=x.dt/\g.lo=0/\g.hi=2/\(y3 g)/\∀(h:Unit),True->dj x.part/\dj x.least/\dj x.top/\(∃(j:qu),j.n=x.top/\j.lo=0/\j.hi=9/\(y3 j)/\∀(k:Unit),True->dj x.part/\dj x.least/\(∃(l:qu),l.n=x.least/\l.lo=0/\l.hi=4/\(y3 l)/\∀(m:Unit),True->dj x.part/\(Yo x c g j l f)/\Yn x c g j l f)/\Yz x c g j f)/\XZ x c g f)/\dj x.part/\dj x.least/\dj x.top/\dj x.dt/\∃(g:qu),g.n=x.dt/\g.lo=0/\g.hi=2/\(y3 g)/\∀(h:Unit),True->XZ x c g f)/\∀(g:Unit),f g->∃(h:qu),h.n=x.wide/\h.lo=0/\h.hi=60/\(y3 h)/\∀(j:Unit),True->∃(k:Nat),(↑k:Int)=0/\dj (sb [(206:UInt8),(169:UInt8)])/\zS x=zS x/\dj ((-20)*zS x)/\dj (100*zS x)/\zS x*(j9 x)=aa.wrap (aa.wrap (qB c)*aa.wrap (5+zG h.n h.lo h.hi))/\1+zG x.dt 0 (2:Int)=(1:Int)+zG x.dt 0 2/\zG x.top 0 9=zG x.top 0 (9:Int)/\(1:Int)+zG x.least 0 (4:Int)=(1:Int)+zG x.least 0 4/\dj (zG x.part 0 100)/\iE (qJ k)=[]/\iE (kK (zS x) k)=[]/\∃(l:Nat->Prop),∃(m:Nat->Nat),l k/\∀(n:Nat),l n->dq (decide ((↑n:Int)<aa.wrap (2+zG a.n a.lo a.hi))) (((iE (qJ n)).length+1)*(8:Nat)<=(140737488355328:Nat)/\((iE (kK (zS x) n)).length+1)*(8:Nat)<=(140737488355328:Nat)/\∃(p:Nat),(↑p:Int)=aa.wrap ((↑n:Int)+1)/\dj (sb [(206:UInt8),(169:UInt8)])/\zS x=zS x/\dj ((-20)*zS x)/\dj (100*zS x)/\dj (zS x*(j9 x))/\1+zG x.dt 0 (2:Int)=(1:Int)+zG x.dt 0 2/\zG x.top 0 9=zG x.top 0 (9:Int)/\(1:Int)+zG x.least 0 (4:Int)=(1:Int)+zG x.least 0 4/\dj (zG x.part 0 100)/\iE (qJ p)=iE (qJ n)++[[dI (aa.wrap (aa.wrap (10*(↑n:Int))+3))]]/\iE (kK (zS x) p)=iE (kK (zS x) n)++[[dI (aa.wrap (aa.wrap (qB c)*aa.wrap (10+(↑n:Int))))]]/\l p/\m p<m n/\XS x) (∃(p:Unit),dj (sb [(206:UInt8),(169:UInt8)])/\iE (qJ (kN x).toNat)=iE (qJ n)/\zS x=zS x/\dj ((-20)*zS x)/\dj (100*zS x)/\dj (zS x*(j9 x))/\1+zG x.dt 0 (2:Int)=(1:Int)+zG x.dt 0 2/\zG x.top 0 9=zG x.top 0 (9:Int)/\(1:Int)+zG x.least 0 (4:Int)=(1:Int)+zG x.least 0 4/\dj (zG x.part 0 100)/\iE (uO x)=iE (kK (zS x) n)/\True)
def yTk (s:List UInt8) (h:Df.dq s):yAo s:=by
 have h:s.length<=1099511627776:=h;have hr:=Yc s;unfold yAo bM lZ qI pA cO;refine⟨(0,0),rfl,rfl,rfl,λx=>x.1<=s.length/\x.2+(gE s x.1).length=(jF s).length/\(jF s).all gK=((gE s x.1).all λy=>gK y.2),λx=>s.length-x.1,⟨oM,by rw[jF,im];simp,by rw[jF,List.all_map];rfl⟩,?_⟩;rintro⟨p,n⟩ ⟨h1,h2,h3⟩;dsimp only at h1 h2 h3 ⊢;refine Cv.dq.mk (λhp=> ?_) (λhp=> ?_)
 ·have hp:p<s.length:=by simpa[yf]using hp
  have hw:=bI s hp;rw[jY hp,iJ]at h2;rw[jY hp,List.all_cons]at h3;generalize hc:(be (sb s) p).1=c at h2 h3 ⊢;generalize hww:(be (sb s) p).2=w at h2 h3 hw ⊢;dsimp only at h3;have g0:∀b:Bool,(b=ap->gK c=ap)->(b=aq->gK c=aq)->b=gK c:=λb e1 e2=>by cases b<;>simp_all
  refine⟨ap,λb=>b= !gK c,?_,λb hb=> ?_⟩
  ·refine zH (λc1=>zH (λc2=>⟨_,rfl,?_,gu⟩) (λc2=>zH (λc3=>zH (λc4=>⟨_,rfl,?_,gu⟩) (λc4=>⟨_,rfl,?_,gu⟩)) (λc3=>⟨_,rfl,?_,gu⟩))) (λc1=>zH (λc3=>zH (λc4=>⟨_,rfl,?_,gu⟩) (λc4=>⟨_,rfl,?_,gu⟩)) (λc3=>⟨_,rfl,?_,gu⟩))
   all_goals congr 1
   all_goals refine g0 _ (λe=> ?_) (λe=> ?_)
   all_goals first|(simp[gK]at*;done)|(simp[gK]at*;omega)
  ·subst hb;refine Cv.dq.mk (λe=>⟨(),?_,trivial⟩) (λe=>⟨(p+w,n+1),?_,rfl,rfl,⟨hw.2,by(first|omega|(dsimp only;omega)),?_⟩,by(first|omega|(dsimp only;omega)),trivial⟩)
   ·have e:gK c=aq:=by simpa using e
    rw[wH,h3,e];rfl
   ·rw[iA (by omega)];rfl
   ·have e:gK c=ap:=by simpa using e
    rw[h3,e];rfl
 ·have hp:s.length<=p:=by have:=Ug hp;simpa using this
  rw[uN hp]at h2 h3;have h3:(jF s).all gK=ap:=h3;have hn:n=(jF s).length:=by simpa using h2
  have ji:(s=[])↔(jF s).length=0:=by
   constructor
   ·intro e;subst e;rfl
   ·intro e;cases s with
    |nil=>rfl
    |cons b l=>
     rw[jF,im,jY (by simp)]at e;simp at e
  refine zH (λc=>⟨(),?_,trivial⟩) (λc=>⟨(),?_,trivial⟩)
  ·have:¬s=[]:=by rw[ji];omega
   rw[wH,h3,lg this,hn];simp only[Ae];congr 1;simp only[eq_iff_iff];omega
  ·have:s=[]:=by rw[ji];omega
   rw[wH,this];rfl
def yEb:Df.ok Tryz.prog 202:=ib mixed fj 0 (λ_=>yRy) (λs=>yRk s) [] Tryz.func202 yTk
def tO:∀(l:List Int) (a:Int),l.foldl min a<=a/\∀x∈l,l.foldl min a<=x
 |[],a=>⟨yp _,by simp⟩
 |b::l,a=>by
  obtain⟨h1,h2⟩:=tO l (min a b);rw[EL];refine⟨oM,λx hx=> ?_⟩;rcases mn.1 hx with rfl|hx
  ·omega
  ·exact h2 x hx
def tN:∀(l:List Int) (a:Int),a<=l.foldl max a/\∀x∈l,x<=l.foldl max a
 |[],a=>⟨yp _,by simp⟩
 |b::l,a=>by
  obtain⟨h1,h2⟩:=tN l (max a b);rw[EL];refine⟨oM,λx hx=> ?_⟩;rcases mn.1 hx with rfl|hx
  ·omega
  ·exact h2 x hx
def zDa:∀(l:List Int) (a:Int),l.foldl min a=a\/l.foldl min a∈l
 |[],a=> .inl rfl
 |b::l,a=>by
  rw[EL];rcases zDa l (min a b)with h|h
  ·rcases Int.le_total a b with e|e
   ·left;rw[h];omega
   ·right;rw[h,show min a b=b by omega];exact jm
  ·exact .inr (kg _ h)
def zCz:∀(l:List Int) (a:Int),l.foldl max a=a\/l.foldl max a∈l
 |[],a=> .inl rfl
 |b::l,a=>by
  rw[EL];rcases zCz l (max a b)with h|h
  ·rcases Int.le_total a b with e|e
   ·right;rw[h,show max a b=b by omega];exact jm
   ·left;rw[h];omega
  ·exact .inr (kg _ h)
def z9g {l:List Int} {x:Int} (h:x∈l):sL l<=x:=by
 cases l with
 |nil=>cases h
 |cons a l=>
  rw[sL,aj,ag];rcases mn.1 h with rfl|h
  ·exact(tO l x).1
  ·exact(tO l a).2 x h
def yBl {l:List Int} {x:Int} (h:x∈l):x<=lA l:=by
 cases l with
 |nil=>cases h
 |cons a l=>
  rw[lA,aj,ag];rcases mn.1 h with rfl|h
  ·exact(tN l x).1
  ·exact(tN l a).2 x h
def z1i {l:List Int} (h:l≠[]):sL l∈l:=by
 cases l with
 |nil=>exact absurd rfl h
 |cons a l=>
  rw[sL,aj,ag];rcases zDa l a with h|h
  ·rw[h];exact jm
  ·exact kg _ h
def zZq {l:List Int} (h:l≠[]):lA l∈l:=by
 cases l with
 |nil=>exact absurd rfl h
 |cons a l=>
  rw[lA,aj,ag];rcases zCz l a with h|h
  ·rw[h];exact jm
  ·exact kg _ h
def yLy (p:ff) (h:Bx.dq p):z1r p:=by
 obtain⟨h1,h2,h3⟩:p.small:=h;unfold z1r Zs yQ qP tA mF jL aN xG vG dI;simp only[y4];refine⟨p.code,rfl,h1,λ_ _=>Cv.dq.mk (λc1=>⟨(),by rw[ff.check,fh c1],trivial⟩) λc1=> ?_⟩;have c1:wH p.code=ap:=by simpa using c1
 have e1:p.check=if !xH p.dm then 1 else if !qO p then 22 else if qR p then 23 else if xK p then 1 else if kH p then 31 else if qD p then 24 else 0:=by
  rw[ff.check,fb (by simp[c1])]
 refine⟨ap,λb=>b=(decide (p.dm.length<2)||decide (p.dm.length>6)),zH (λc=>⟨ap,rfl,?_,gu⟩) (λc=>⟨_,rfl,?_,gu⟩),λb hb=> ?_⟩
 ·rw[lg (show p.dm.length<2 by omega)];rfl
 ·rw[ku (show ¬p.dm.length<2 by omega),KL];congr 1;simp only[eq_iff_iff];omega
 subst hb;refine Cv.dq.mk (λc2=> ?_) (λc2=> ?_)
 ·have:xH p.dm=aq:=by
   simp only[ar,ud]at c2;rw[xH];rcases c2 with c2|c2
   ·rw[ku (show ¬2<=p.dm.length by omega)];simp
   ·rw[ku (show ¬p.dm.length<=6 by omega)];simp
  exact⟨(),by rw[e1,fh (by rw[this];rfl)],trivial⟩
 have c2:2<=p.dm.length/\p.dm.length<=6:=by
  simp only[KV,decide_eq_false_iff_not]at c2;omega
 have em:xH p.dm=(ak p.dm.length).all (qX p.dm):=by
  rw[xH,lg c2.1,lg c2.2];simp
 refine⟨0,rfl,λj=>j<=p.dm.length/\∀k<j,qX p.dm k=ap,λj=>p.dm.length-j,⟨oM,λk hk=>by omega⟩,?_⟩;rintro j ⟨g1,g2⟩;refine zH (λhj=> ?_) (λhj=> ?_)
 ·obtain⟨m,hm⟩:=z6 (l:=p.dm) (i:=j) oM;have Vj:p.dm.getD j 0=m:=zT hm;refine⟨ap,λb=>b= !qX p.dm j,⟨⟨oM,oM⟩,m,rk hm,zH (λc=>⟨ap,rfl,?_,gu⟩) (λc=>⟨⟨oM,oM⟩,m,rk hm,zH (λd=>⟨ap,rfl,?_,gu⟩) (λd=>zH (λe=> ?_) (λe=>⟨aq,rfl,?_,gu⟩))⟩)⟩,λb hb=> ?_⟩
  ·rw[qX,Vj,ku (show ¬0<=m by omega)];rfl
  ·rw[qX,Vj,ku (show ¬m<=1199 by omega)];simp
  ·obtain⟨m',Ak⟩:=z6 (l:=p.dm) (i:=j-1) oM;rw[iA (by omega),show((j:Int)-1).toNat=j-1 by omega];refine⟨⟨oM,oM⟩,m',rk Ak,⟨oM,oM⟩,m,rk hm,_,rfl,?_,gu⟩;rw[qX,Vj,zT Ak,lg (show 0<=m by omega),lg (show m<=1199 by omega),ku (show ¬j=0 by omega)];simp only[Ae,KL];by_cases gv:m'<m
   ·rw[lg gv,ku (by omega)];rfl
   ·rw[ku gv,lg (by omega)];rfl
  ·rw[qX,Vj,lg (show 0<=m by omega),lg (show m<=1199 by omega),lg (show j=0 by omega)];rfl
  ·subst hb;refine Cv.dq.mk (λc=>⟨(),?_,trivial⟩) (λc=>⟨j+1,by rw[iA (by omega)];rfl,⟨oM,λk hk=> ?_⟩,by(first|omega|(dsimp only;omega)),gu⟩)
   ·have c:qX p.dm j=aq:=by simpa using c
    rw[e1,fh (by rw[em,zVq (k:=j) (by omega) c];rfl)]
   ·have c:qX p.dm j=ap:=by simpa using c
    rcases ur k j with h|h
    ·exact g2 k h
    ·obtain rfl:k=j:=by omega
     exact c
 have em:xH p.dm=ap:=by rw[em];exact z2x λk hk=>g2 k oM
 have e2:p.check=if !qO p then 22 else if qR p then 23 else if xK p then 1 else if kH p then 31 else if qD p then 24 else 0:=by
  rw[e1,fb (by simp[em])]
 have et:qO p=((decide (1<=p.tick) && decide (p.tick<=1000) && !qT p.tick p.low && !qT p.tick p.high && !qT p.tick p.wide) && !p.settle.any (qT p.tick)):=rfl;refine⟨ap,λb=>b= !(decide (1<=p.tick) && decide (p.tick<=1000) && !qT p.tick p.low && !qT p.tick p.high && !qT p.tick p.wide),zH (λd1=>⟨ap,rfl,?_,gu⟩) (λd1=>zH (λd2=>⟨ap,rfl,?_,gu⟩) (λd2=>⟨trivial,oM,Cv.dq.mk (λd3=>⟨ap,rfl,?_,gu⟩) (λd3=>⟨trivial,oM,Cv.dq.mk (λd4=>⟨ap,rfl,?_,gu⟩) (λd4=>⟨trivial,oM,_,rfl,?_,gu⟩)⟩)⟩)),λb hb=> ?_⟩
 ·rw[ku (show ¬1<=p.tick by omega)];rfl
 ·rw[ku (show ¬p.tick<=1000 by omega)];simp
 ·have d3:qT p.tick p.low=ap:=d3;rw[d3];simp
 ·have d4:qT p.tick p.high=ap:=d4;rw[d4];simp
 ·have d3:qT p.tick p.low=aq:=d3;have d4:qT p.tick p.high=aq:=d4;rw[d3,d4,lg (show 1<=p.tick by omega),lg (show p.tick<=1000 by omega)];show qT p.tick p.wide=_;simp
 subst hb;refine Cv.dq.mk (λc3=> ?_) (λc3=> ?_)
 ·have c3:(decide (1<=p.tick) && decide (p.tick<=1000) && !qT p.tick p.low && !qT p.tick p.high && !qT p.tick p.wide)=aq:=by
   rw[EM]at c3;exact c3
  exact⟨(),by rw[e2,fh (by rw[et,c3];rfl)],trivial⟩
 have c3:(decide (1<=p.tick) && decide (p.tick<=1000) && !qT p.tick p.low && !qT p.tick p.high && !qT p.tick p.wide)=ap:=by simpa using c3
 have ht1:1<=p.tick:=by
  simp only[lr,ud]at c3;exact c3.1.1.1.1
 rw[c3,Ae]at et;refine⟨0,rfl,λj=>j<=p.settle.length/\∀k<j,∀x,p.settle[k]? =az x->qT p.tick x=aq,λj=>p.settle.length-j,⟨oM,λk hk=>by omega⟩,?_⟩;rintro j ⟨g1,g2⟩;refine zH (λhj=> ?_) (λhj=> ?_)
 ·obtain⟨m,hm⟩:=z6 (l:=p.settle) (i:=j) oM;refine⟨⟨oM,oM⟩,m,rk hm,trivial,oM,Cv.dq.mk (λc=>⟨(),?_,trivial⟩) (λc=>⟨j+1,by rw[iA (by omega)];rfl,⟨oM,λk hk x hx=> ?_⟩,by(first|omega|(dsimp only;omega)),gu⟩)⟩
  ·have c:qT p.tick m=ap:=c;have:p.settle.any (qT p.tick)=ap:=by rw[MZ];exact⟨m,lq hm,c⟩
   rw[e2,fh (by rw[et,this];rfl)]
  ·rcases ur k j with h|h
   ·exact g2 k h x hx
   ·obtain rfl:k=j:=by omega
    rw[hm]at hx;cases hx;exact c
 have et:qO p=ap:=by
  rw[et];have:p.settle.any (qT p.tick)=aq:=by
   rw[KR];intro x hx;obtain⟨k,hk⟩:=M5 hx;rw[g2 k (by have:=(jv.1 hk).1;omega) x hk];simp
  rw[this];rfl
 have e3:p.check=if qR p then 23 else if xK p then 1 else if kH p then 31 else if qD p then 24 else 0:=by
  rw[e2,fb (by simp[et])]
 refine⟨ap,λb=>b=qR p,zH (λd1=>⟨ap,rfl,?_,gu⟩) (λd1=>zH (λd2=>⟨ap,rfl,?_,gu⟩) (λd2=>zH (λd3=>⟨ap,rfl,?_,gu⟩) (λd3=>zH (λd4=>⟨ap,rfl,?_,gu⟩) (λd4=>⟨_,rfl,?_,gu⟩)))),λb hb=> ?_⟩
 ·simp[qR,d1]
 ·simp[qR,d2]
 ·simp[qR,d3]
 ·simp[qR,d4]
 ·rw[iA (by omega)];simp[qR,d1,d2,d3,d4]
 subst hb;refine Cv.dq.mk (λc4=>⟨(),by rw[e3,fh c4],trivial⟩) (λc4=> ?_);have e4:p.check=if xK p then 1 else if kH p then 31 else if qD p then 24 else 0:=by
  rw[e3,fb (by simp[c4])]
 refine Cv.dq.mk (λd6=>⟨(),?_,trivial⟩) (λd6=> ?_)
 ·have d6:¬(p.settle.length:Int)=p.dm.length:=by simpa using d6
  rw[e4,fh (by simp[xK];omega)]
 have d6:p.settle.length=p.dm.length:=by
  have:(p.settle.length:Int)=p.dm.length:=by simpa using d6
  omega
 have ji:p.settle≠[]:=by intro e;rw[e]at d6;simp at d6;omega
 refine⟨0,rfl,λj=>j<=p.settle.length/\∀k<j,∀x,p.settle[k]? =az x->p.low<=x/\x<=p.high,λj=>p.settle.length-j,⟨oM,λk hk=>by omega⟩,?_⟩;rintro j ⟨g3,g4⟩;refine zH (λhj=> ?_) (λhj=> ?_)
 ·obtain⟨m,hm⟩:=z6 (l:=p.settle) (i:=j) oM;have Nu:=lq hm;refine⟨ap,λb=>b=(decide (m<p.low)||decide (m>p.high)),⟨⟨oM,oM⟩,m,rk hm,zH (λc=>⟨ap,rfl,?_,gu⟩) (λc=>⟨⟨oM,oM⟩,m,rk hm,_,rfl,?_,gu⟩)⟩,λb hb=> ?_⟩
  ·rw[lg c];rfl
  ·rw[ku c,KL]
  ·subst hb;refine Cv.dq.mk (λc=>⟨(),?_,trivial⟩) (λc=>⟨j+1,by rw[iA (by omega)];rfl,⟨oM,λk hk x hx=> ?_⟩,by(first|omega|(dsimp only;omega)),gu⟩)
   ·have l1:=z9g Nu;have l2:=yBl Nu;rw[e4,fh (by
     simp only[ar,ud]at c;simp only[xK,ar,ud];rcases c with c|c
     ·left;right;omega
     ·right;omega)]
   ·rcases ur k j with h|h
    ·exact g4 k h x hx
    ·obtain rfl:k=j:=by omega
     rw[hm]at hx;cases hx;simp only[KV,decide_eq_false_iff_not]at c;omega
 have qh:xK p=aq:=by
  have all:∀x∈p.settle,p.low<=x/\x<=p.high:=λx hx=>by
   obtain⟨k,hk⟩:=M5 hx;exact g4 k (by have:=(jv.1 hk).1;omega) x hk
  have a1:=all _ (z1i ji);have a2:=all _ (zZq ji);simp only[xK,KV,decide_eq_false_iff_not];omega
 have e5:p.check=if kH p then 31 else if qD p then 24 else 0:=by
  rw[e4,fb (by simp[qh])]
 refine⟨ap,λb=>b=kH p,zH (λd1=>⟨ap,rfl,?_,gu⟩) (λd1=>⟨_,rfl,?_,gu⟩),λb hb=> ?_⟩
 ·simp[kH,d1]
 ·simp[kH,d1]
 subst hb;refine Cv.dq.mk (λc6=>⟨(),by rw[e5,fh c6],trivial⟩) (λc6=> ?_);have e6:p.check=if qD p then 24 else 0:=by rw[e5,fb (by simp[c6])]
 refine⟨ap,λb=>b=qD p,zH (λd1=>⟨ap,rfl,?_,gu⟩) (λd1=>zH (λd2=>⟨ap,rfl,?_,gu⟩) (λd2=>zH (λd3=>⟨ap,rfl,?_,gu⟩) (λd3=>zH (λd4=>⟨ap,rfl,?_,gu⟩) (λd4=>zH (λd5=>⟨ap,rfl,?_,gu⟩) (λd5=>⟨_,rfl,?_,gu⟩))))),λb hb=> ?_⟩
 ·simp[qD,d1]
 ·simp[qD,d2]
 ·simp[qD,d3]
 ·simp[qD,d4]
 ·simp[qD,d5]
 ·simp[qD,d1,d2,d3,d4,d5]
 subst hb;exact Cv.dq.mk (λc7=>⟨(),by rw[e6,fh c7],trivial⟩) (λc7=>⟨(),by rw[e6,fb (by simp[c7])],trivial⟩)
def zRk:Bx.ok Tryz.prog 168:=ib mixed (dx yEb fj) 0 (λ_=>yHn) (λ_=>yGh) [] Tryz.func168 yLy
def rN {p:ff} (h:p.check=0):p.count=p.dm.length+p.dm.length*(p.dm.length-1) / 2:=by rw[ff.count,fh h]
def zQe {p:ff} (h:p.check≠0):p.count=0:=by rw[ff.count,fb h]
def yNq (p:ff) (h:Bw.dq p):z2k p:=by
 have hs:p.small:=h;unfold z2k tH xG zW;simp only[y4];refine⟨p,oJ (iT ⟨rfl,hs,λ_ _=>Cv.dq.mk (λc=>⟨(),?_,trivial⟩) (λc=>⟨trivial,Z8,(),?_,trivial⟩)⟩)⟩
 ·rw[zQe (by simpa using c)];rfl
 ·have c:p.check=0:=by simpa using c
  have m6:=(qS c).m6;have m2:=(qS c).m2;rw[rN c];generalize p.dm.length=n at*;have:n=2\/n=3\/n=4\/n=5\/n=6:=by omega
  rcases this with rfl|rfl|rfl|rfl|rfl<;>decide
def z4u:Bw.ok Tryz.prog 117:=ib mixed (dx zRk fj) 0 (λ_=>[]) (λ_=>[]) [] Tryz.func117 yNq
def yOj:∀n≤6,∀a<n,∀b<n-1-a,jE n (yL n a+b) n 0=((a:Int),((a+1+b:Nat):Int),ap)/\yL n a+b<n+n*(n-1) / 2/\n<=yL n a+b:=by decide
def yEt:∀n≤6,yL n n=n+n*(n-1) / 2:=by decide
def yPv {p:ff} (h:p.check=0) {a b:Nat} (ha:a<p.dm.length) (hb:b<p.dm.length-1-a):p.gj ((yL p.dm.length a+b:Nat):Int)=((a:Int),((a+1+b:Nat):Int),ap):=by
 obtain⟨h1,h2,h3⟩:=yOj _ (qS h).m6 a ha b hb;rw[ff.gj,fb (by rw[rN h];omega),fb (by omega),oF];exact h1
def yRu (i:bG) (h:De.dq i):yCx i:=by
 have hs:i.p.small:=h;unfold yCx fQ vS uY T3 fK TV pF zW dI;simp only[y4];refine⟨i.p,oJ (iT ⟨rfl,hs,λ_ _=>Cv.dq.mk (λc=> ?_) (λc=>zH (λc1=> ?_) (λc1=>zH (λc2=> ?_) (λc2=> ?_)))⟩)⟩
 ·rw[ff.gj,fh (by rw[zQe (by simpa using c)];omega)];exact kp
 ·rw[ff.gj,fh (.inl c1)];exact kp
 ·have c:i.p.check=0:=by simpa using c
  rw[ff.gj,fb (by rw[rN c];omega),fh c2];exact kp
 ·have c:i.p.check=0:=by simpa using c
  have m6:=(qS c).m6;obtain⟨k,hk⟩:∃k:Nat,i.n=k:=⟨i.n.toNat,oM⟩
  have sp:=λ(a b:Nat) ha hb=>yPv (p:=i.p) c (a:=a) (b:=b) ha hb
  have fe:=yEt _ m6;have out:i.p.count<=k->i.p.gj (k:Int)=(0,0,aq):=λe=>by rw[ff.gj,fh (by omega)]
  rw[rN c,<- fe]at out;rw[hk]at c2 ⊢;generalize hn:i.p.dm.length=n at*;refine⟨0,rfl,rfl,λm=>m<=n/\yL n m<=k,λm=>n-m,⟨oM,by show n<=k;omega⟩,?_⟩;rintro m ⟨g1,g2⟩;have hf:=Ww m6 g1;refine zH (λc4=> ?_) (λc4=> ?_)
  ·refine⟨(m,0),rfl,rfl,by rw[iA (by omega)];simp,λx=>x.1=m/\x.2<=n-1-m/\yL n m+x.2<=k,λx=>n-1-m-x.2,⟨rfl,by(first|omega|(dsimp only;omega)),by(first|omega|(dsimp only;omega))⟩,?_⟩;rintro⟨a,b⟩ ⟨g3,g4,g5⟩;dsimp only at g3 g4 g5 ⊢;subst g3;refine zH (λc5=>Cv.dq.mk (λe=> ?_) (λe=> ?_)) (λc5=> ?_)
   ·have e:((yL n a+b:Nat):Int)=(k:Int):=by simpa using e
    have:=sp a b oM oM;rw[e]at this;rw[this];exact kp
   ·have e:¬((yL n a+b:Nat):Int)=(k:Int):=by simpa using e
    refine⟨(a,b+1),?_,rfl,?_,⟨rfl,by(first|omega|(dsimp only;omega)),by(first|omega|(dsimp only;omega))⟩,by(first|omega|(dsimp only;omega)),gu⟩
    ·rw[iA (by omega)];dsimp only;omega
    ·rw[iA (by omega)];dsimp only;omega
   ·refine⟨a+1,?_,by rw[iA (by omega)];rfl,⟨oM,?_⟩,by(first|omega|(dsimp only;omega)),gu⟩
    ·rw[yL];omega
    ·rw[yL];omega
  ·obtain rfl:m=n:=by omega
   rw[out g2];exact kp
def yDr:De.ok Tryz.prog 118:=ib mixed (dx zRk fj) 0 (λ_=>[]) (λi=>yOy i) [] Tryz.func118 yRu
def To (x:ff):1<=zS x/\zS x<=10:=by
 have:=yW (n:=x.tick) (lo:=0) (hi:=9) oM;rw[zS];omega
def yNs (x:ff):2<=kN x/\kN x<=5:=by
 have:=yW (n:=(x.dm.length:Int)) (lo:=0) (hi:=3) oM;rw[kN];omega
def IM {a b m n:Int} (ha:0<=a/\a<=m) (hb:0<=b/\b<=n):0<=a*b/\a*b<=m*n:=by
 refine⟨MV ha.1 hb.1,?_⟩;exact Int.le_trans (Int.mul_le_mul_of_nonneg_right ha.2 hb.1) (UO hb.2 oM)
def zWz (j:Nat):iE (qJ (j+1))=iE (qJ j)++[[D.v (.int .i64 (10*(j:Int)+3))]]:=by
 rw[qJ,I5,jr,iE,jr];rfl
def zYl (t:Int) (j:Nat):iE (kK t (j+1))=iE (kK t j)++[[D.v (.int .i64 (t*(10+(j:Int))))]]:=by
 rw[kK,I5,jr,iE,jr];rfl
def Zp (j:Nat):(qJ j).length=j:=by simp[qJ]
def nO (t:Int) (j:Nat):(kK t j).length=j:=by simp[kK]
def y2a (x:ff) (h:Cx.dq x):yKd x:=by
 obtain⟨h1,h2,h3,h4,h5,h6,h7⟩:x.raw:=h;have hw: -1000000<=(0:Int):=by decide
 have bt:=yW (n:=x.tick) (lo:=0) (hi:=9) oM;have bw:=yW (n:=x.wide) (lo:=0) (hi:=60) oM;have br:=yW (n:=x.dt) (lo:=0) (hi:=2) oM;have bl:=yW (n:=x.least) (lo:=0) (hi:=4) oM;have bn:=yW (n:=(x.dm.length:Int)) (lo:=0) (hi:=3) oM;have kt:=To x;have kn:=yNs x;have w1:aa.wrap (1+zG x.tick 0 9)=zS x:=iA oM;have w2:aa.wrap (-20*aa.wrap (1+zG x.tick 0 9))= -20*zS x:=by rw[w1];exact iA oM
 have w3:aa.wrap (100*aa.wrap (1+zG x.tick 0 9))=100*zS x:=by rw[w1];exact iA oM
 have w4:aa.wrap (1+zG x.dt 0 2)=1+zG x.dt 0 2:=iA oM;have w5:aa.wrap (1+zG x.least 0 4)=1+zG x.least 0 4:=iA oM;have w6:aa.wrap (2+zG x.dm.length 0 3)=kN x:=iA oM;have mb:=IM (a:=zS x) (b:=5+zG x.wide 0 60) (m:=10) (n:=65) oM oM;have w7:aa.wrap (aa.wrap (1+zG x.tick 0 9)*aa.wrap (5+zG x.wide 0 60))=zS x*(5+zG x.wide 0 60):=by
  rw[w1,iA (x:=5+zG x.wide 0 60) (by omega)];exact iA oM
 unfold yKd uO j9 XZ Yz Yn Yo XS kX uI mF jL aN qB y3 xG dI;simp only[y4];refine⟨⟨x.dm.length,0,3⟩,rfl,rfl,rfl,⟨⟨Z9,Z9⟩,Z9,Z9,Z9⟩,λ_ _=>⟨⟨x.tick,0,9⟩,rfl,rfl,rfl,⟨h1,Z9,Z9,Z9⟩,λ_ _=> ?_⟩⟩;dsimp only;refine⟨(),λ_=>True,?_,λ_ _=> ?_⟩
 ·repeat'(first|exact trivial|exact rfl|exact w1.symm|exact w2.symm|exact w3.symm|exact w4.symm|exact w5.symm|apply au|refine⟨⟨x.dt,0,2⟩,rfl,rfl,rfl,⟨h3,Z9,Z9,Z9⟩,λ_ _=> ?_⟩|refine⟨⟨x.top,0,9⟩,rfl,rfl,rfl,⟨h4,Z9,Z9,Z9⟩,λ_ _=> ?_⟩|refine⟨⟨x.least,0,4⟩,rfl,rfl,rfl,⟨h5,Z9,Z9,Z9⟩,λ_ _=> ?_⟩|refine⟨⟨x.part,0,100⟩,rfl,rfl,rfl,⟨h6,Z9,Z9,Z9⟩,λ_ _=> ?_⟩|refine⟨(),?_⟩)
 ·refine⟨⟨x.wide,0,60⟩,rfl,rfl,rfl,⟨h2,Z9,Z9,Z9⟩,λ_ _=> ?_⟩;dsimp only;rw[w7,w6];refine⟨0,by(first|exact rfl|exact trivial),by(first|exact rfl|exact trivial),by(first|exact rfl|exact trivial),by(first|exact rfl|exact trivial),by(first|exact rfl|exact trivial),by(first|exact rfl|exact trivial),by(first|exact rfl|exact trivial),by(first|exact rfl|exact trivial),by(first|exact rfl|exact trivial),by(first|exact rfl|exact trivial),by(first|exact rfl|exact trivial),by(first|exact rfl|exact trivial),λj=>j<=(kN x).toNat,λj=>(kN x).toNat-j,oM,?_⟩;intro j hj;rw[Zp,nO];refine zH (λc=>⟨oM,oM,j+1,by rw[iA (by omega)];rfl,by(first|exact rfl|exact trivial),by(first|exact rfl|exact trivial),by(first|exact rfl|exact trivial),by(first|exact rfl|exact trivial),by(first|exact rfl|exact trivial),by(first|exact rfl|exact trivial),by(first|exact rfl|exact trivial),by(first|exact rfl|exact trivial),by(first|exact rfl|exact trivial),?_,?_,by(first|omega|(dsimp only;omega)),by(first|omega|(dsimp only;omega)),gu⟩) (λc=>⟨(),?_⟩)
  ·rw[zWz,iA (x:=10*(j:Int)) (by omega),iA (by omega)]
  ·have mj:=IM (a:=zS x) (b:=10+(j:Int)) (m:=10) (n:=20) oM oM;rw[zYl,w1,iA (x:=10+(j:Int)) (by omega),iA (by omega)]
  ·have e:(kN x).toNat=j:=by omega
   rw[e];(repeat'(first|exact trivial|exact rfl|apply au))
def Gi:Cx.ok Tryz.prog 7:=ib mixed (dx X0 fj) 0 (λx=>y1h x) (λx=>y0g x) [] Tryz.func7 y2a
structure ir where
 kind:Int
 id:Int
 inst:Int
 side:Int
 dk:Int
 dr:Int
 least:Int
 time:Int
 label:List UInt8
 deriving DecidableEq
@[reducible] def ir.cells (c:ir):List V:=[zA c.kind,zA c.id,zA c.inst,zA c.side,zA c.dk,zA c.dr,zA c.least,zA c.time,sV c.label]
@[reducible] def CD (c:ir):V:= .agg c.cells
def rp (c:ir):List D:=[.v (.int .i64 c.kind),.v (.int .i64 c.id),.v (.int .i64 c.inst),.v (.int .i64 c.side),.v (.int .i64 c.dk),.v (.int .i64 c.dr),.v (.int .i64 c.least),.v (.int .i64 c.time),.v (.string (sb c.label))]
def Hg:ir:=⟨0,0,0,0,0,0,0,0,[]⟩
@[reducible] def ir.raw (c:ir):Prop:=gx c.kind/\gx c.id/\gx c.inst/\gx c.side/\gx c.dk/\gx c.dr/\gx c.least/\gx c.time
structure xo where
 p:ff
 c:ir
 i:Int
def uC (c:ir):Int:=if 4<1+zG c.kind 0 8 then 1 else 1+zG c.kind 0 8
def y6 (t:xo):ir:=⟨uC t.c,1+zG t.c.id 0 30,zG t.c.inst 0 (t.p.count-1),1+zG t.c.side 0 1,t.p.tick*zG t.c.dk 0 9,1+zG t.c.dr 0 11,0,0,[]⟩
def dH (c:ir):Int:=if c.time.tmod 5=3 then 3 else if c.time.tmod 5=2 then 2 else 1
def cZ (c:ir) (q:Int):Int:=if c.least.tmod 4=1 then zG c.least 0 q else 0
def y5 (t:xo):ir:=
 let h:=y6 t
 if h.kind=1 then{h with id:=t.i+1,time:=dH t.c,least:=cZ t.c h.dr,dk:=if(t.p.gj h.inst).2.2=ap then h.dk-4*t.p.tick else h.dk+8*t.p.tick}
 else{h with dk:=if h.kind=4 then h.dk+5*t.p.tick else h.dk,side:=0,inst:=0}
def JD:gi:=fp xo (λt=>[oe t.p,CD t.c,zA t.i]) (λ_=>[]) (λt=>t.p.check=0/\t.p.small/\t.c.raw/\0<=t.i/\t.i<=1000000) (λt=>CD (y5 t)) (λ_=>[])
def cj (k:Nat):Nat×gp:=(k,{ι:=ir,dv:=λ_=>[(7,.nm 0 0)],oI:=λ_=>[(7,.nm 0 0)],lp:=λc=>[.cells c.cells 46],rows:=λc=>[.cells c.cells 46]})
def y2m:List (Nat×gp):=[cj 14,cj 54,cj 62,cj 70]
def S7 (a:ir) (b:ir) (c:ir->Prop) (d:xo):Prop:=sb a.label=sb b.label/\c a/\dj (av (Sx.V.agg [V.d (dI 0),V.d (dI 0),V.d (dI 0),V.d (dI 0),V.d (dI 0),V.d (dI 0),V.d (dI 0),V.d (dI 0),V.d kX]).cl 46)/\dj (av [V.d (dI d.c.kind),V.d (dI d.c.id),V.d (dI d.c.inst),V.d (dI d.c.side),V.d (dI d.c.dk),V.d (dI d.c.dr),V.d (dI d.c.least),V.d (dI d.c.time),V.d (D.v (ba (sb d.c.label)))] 46)/\dj (av [V.d (D.v (ba (sb d.p.code))),V.own 0,V.d (dI d.p.tick),V.d (dI d.p.low),V.d (dI d.p.high),V.d (dI d.p.wide),V.d (dI d.p.dt),V.d (dI d.p.top),V.d (dI d.p.least),V.d (dI d.p.part),V.own 1] 25)/\dj (ax 1 (iE d.p.settle))/\dj (ax 1 (iE d.p.dm))
def WM (a:ir) (b:ir) (c:ir->Prop) (d:xo):Prop:=a.time=b.time/\S7 a b c d
def WD (a:ir) (b:ir) (c:ir->Prop) (d:xo):Prop:=a.id=b.id/\a.inst=b.inst/\a.side=b.side/\a.dk=b.dk/\a.dr=b.dr/\a.least=b.least/\WM a b c d
def l6 (a:ir) (b:ir->Prop) (c:xo):Prop:=∃(d:ir),d.kind=a.kind/\WD d a b c
def Yt (a:xo) (b:qu) (c:ir):Prop:=(y5 a).dr=aa.wrap (qB b)/\(y5 a).least=c.least/\(y5 a).time=c.time/\sb (y5 a).label=sb c.label/\True
def Yl (a:xo) (b:ir):Prop:=(y5 a).dr=b.dr/\(y5 a).least=b.least/\(y5 a).time=b.time/\sb (y5 a).label=sb b.label/\True
def yUk (t:xo):Prop:=
 ∃(a:qu),a.n=t.c.kind/\a.lo=0/\a.hi=8/\(y3 a)/\∀(b:Unit),True->∃(c:qu),c.n=t.c.id/\c.lo=0/\c.hi=30/\(y3 c)/\∀(d:Unit),True->∃(e:ir),e.kind=aa.wrap (qB a)/\e.id=aa.wrap (qB c)/\e.inst=0/\e.side=0/\e.dk=0/\e.dr=0/\e.least=0/\e.time=0/\sb e.label=ByteArray.mk #[]/\∃(f:ir->Prop),dq (decide (e.kind>4)) (∃(g:ir),g.kind=1/\WD g e f t) (l6 e f t)/\∀(g:ir),f g->∃(h:ff),sb h.code=sb t.p.code/\iE h.dm=iE t.p.dm/\h.tick=t.p.tick/\h.low=t.p.low/\h.high=t.p.high/\h.wide=t.p.wide/\h.dt=t.p.dt/\h.top=t.p.top/\h.least=t.p.least/\h.part=t.p.part/\iE h.settle=iE t.p.settle/\(zW h)/\∀(j:Unit),True->∃(k:qu),k.n=t.c.inst/\k.lo=0/\k.hi=aa.wrap ((↑h.count:Int)-1)/\(y3 k)/\∀(l:Unit),True->∃(m:qu),m.n=t.c.side/\m.lo=0/\m.hi=1/\(y3 m)/\∀(n:Unit),True->∃(p:qu),p.n=t.c.dr/\p.lo=0/\p.hi=11/\(y3 p)/\∀(q:Unit),True->∃(r:qu),r.n=t.c.dk/\r.lo=0/\r.hi=9/\(y3 r)/\∀(s:Unit),True->dj t.p.tick/\dq (g.kind==1) (∃(u:ir),u.kind=g.kind/\u.id=aa.wrap (t.i+1)/\u.inst=zG k.n k.lo k.hi/\u.side=aa.wrap (qB m)/\u.dk=aa.wrap (t.p.tick*zG r.n r.lo r.hi)/\u.dr=aa.wrap (qB p)/\u.least=g.least/\u.time=1/\sb u.label=sb g.label/\∃(v:ir->Prop),(aa=aa/\(5:Int)≠(0:Int)/\dq (t.c.time.tmod (5:Int)==(2:Int)) (∃(w:ir),w.kind=u.kind/\w.id=u.id/\w.inst=u.inst/\w.side=u.side/\w.dk=u.dk/\w.dr=u.dr/\w.least=u.least/\w.time=2/\S7 w u v t) (l6 u v t))/\∀(w:ir),v w->∃(x:ir),x.kind=w.kind/\x.id=w.id/\x.inst=w.inst/\x.side=w.side/\x.dk=w.dk/\x.dr=w.dr/\x.least=w.least/\x.time=w.time/\sb x.label=sb w.label/\∃(y:ir->Prop),(aa=aa/\(5:Int)≠(0:Int)/\dq (t.c.time.tmod (5:Int)==(3:Int)) (∃(z:ir),z.kind=x.kind/\z.id=x.id/\z.inst=x.inst/\z.side=x.side/\z.dk=x.dk/\z.dr=x.dr/\z.least=x.least/\z.time=3/\S7 z x y t) (l6 x y t))/\∀(z:ir),y z->∃(iW:ir),iW.kind=z.kind/\iW.id=z.id/\iW.inst=z.inst/\iW.side=z.side/\iW.dk=z.dk/\iW.dr=z.dr/\iW.least=z.least/\iW.time=z.time/\sb iW.label=sb z.label/\∃(lu:ir->Prop),(aa=aa/\(4:Int)≠(0:Int)/\dq (t.c.least.tmod (4:Int)==(1:Int)) (∃(jg:qu),jg.n=t.c.least/\jg.lo=0/\jg.hi=iW.dr/\(y3 jg)/\∀(km:Unit),True->∃(iB:ir),iB.kind=iW.kind/\iB.id=iW.id/\iB.inst=iW.inst/\iB.side=iW.side/\iB.dk=iW.dk/\iB.dr=iW.dr/\iB.least=zG jg.n jg.lo jg.hi/\WM iB iW lu t) (l6 iW lu t))/\∀(jg:ir),lu jg->∃(km:bG),sb km.p.code=sb t.p.code/\iE km.p.dm=iE t.p.dm/\km.p.tick=t.p.tick/\km.p.low=t.p.low/\km.p.high=t.p.high/\km.p.wide=t.p.wide/\km.p.dt=t.p.dt/\km.p.top=t.p.top/\km.p.least=t.p.least/\km.p.part=t.p.part/\iE km.p.settle=iE t.p.settle/\km.n=jg.inst/\(jQ km)/\∀(iB:Unit),True->dq (!(km.p.gj km.n).snd.snd) (∃(o5:Unit),(y5 t).kind=jg.kind/\(y5 t).id=jg.id/\(y5 t).inst=jg.inst/\(y5 t).side=jg.side/\(y5 t).dk=aa.wrap (jg.dk+aa.wrap (8*t.p.tick))/\Yl t jg) (∃(o5:Unit),(y5 t).kind=jg.kind/\(y5 t).id=jg.id/\(y5 t).inst=jg.inst/\(y5 t).side=jg.side/\(y5 t).dk=aa.wrap (jg.dk-aa.wrap (4*t.p.tick))/\Yl t jg)) (dq (g.kind==4) (∃(u:Unit),(y5 t).kind=g.kind/\(y5 t).id=g.id/\(y5 t).inst=0/\(y5 t).side=0/\(y5 t).dk=aa.wrap (aa.wrap (t.p.tick*zG r.n r.lo r.hi)+aa.wrap (5*t.p.tick))/\Yt t p g) (∃(u:Unit),(y5 t).kind=g.kind/\(y5 t).id=g.id/\(y5 t).inst=0/\(y5 t).side=0/\(y5 t).dk=aa.wrap (t.p.tick*zG r.n r.lo r.hi)/\Yt t p g))
def y4s (t:xo) (h:JD.dq t):yUk t:=by
 obtain⟨hc,hs,⟨r1,r2,r3,r4,r5,r6,r7,r8⟩,i0,i1⟩:t.p.check=0/\t.p.small/\t.c.raw/\0<=t.i/\t.i<=1000000:=h;have ok:=qS hc;have t1:=ok.t1;have t2:=ok.t2;have m2:=ok.m2;have wm:=xS t.p;have hcd:=rN hc;have bk:=yW (n:=t.c.kind) (lo:=0) (hi:=8) oM;have bi:=yW (n:=t.c.id) (lo:=0) (hi:=30) oM;have bs:=yW (n:=t.c.side) (lo:=0) (hi:=1) oM;have bq:=yW (n:=t.c.dr) (lo:=0) (hi:=11) oM;have bp:=yW (n:=t.c.dk) (lo:=0) (hi:=9) oM;have mb:=IM (a:=t.p.tick) (b:=zG t.c.dk 0 9) (m:=1000) (n:=9) oM oM;have wp:aa.wrap (t.p.tick*zG t.c.dk 0 9)=t.p.tick*zG t.c.dk 0 9:=iA oM;unfold yUk l6 WD WM S7 kX Yl Yt qB y3 zW jQ dI;refine⟨⟨t.c.kind,0,8⟩,rfl,rfl,rfl,⟨r1,Z9,Z9,Z9⟩,λ_ _=>⟨⟨t.c.id,0,30⟩,rfl,rfl,rfl,⟨r2,Z9,Z9,Z9⟩,λ_ _=> ?_⟩⟩;dsimp only;rw[iA (x:=1+zG t.c.kind 0 8) (by omega),iA (x:=1+zG t.c.id 0 30) (by omega)];refine⟨⟨1+zG t.c.kind 0 8,1+zG t.c.id 0 30,0,0,0,0,0,0,[]⟩,gr ⟨rfl,λc=>c=⟨uC t.c,1+zG t.c.id 0 30,0,0,0,0,0,0,[]⟩,zH (λe=>⟨⟨uC t.c,1+zG t.c.id 0 30,0,0,0,0,0,0,[]⟩,?_,rfl,rfl,rfl,rfl,rfl,rfl,rfl,rfl,rfl,gu⟩) (λe=>⟨⟨uC t.c,1+zG t.c.id 0 30,0,0,0,0,0,0,[]⟩,?_,rfl,rfl,rfl,rfl,rfl,rfl,rfl,rfl,rfl,gu⟩),λc K6=> ?_⟩⟩
 ·dsimp only at e ⊢;rw[uC,fh (by omega)]
 ·dsimp only at e ⊢;rw[uC,fb (by omega)]
 subst K6;refine⟨t.p,oJ (iT ⟨rfl,hs,λ_ _=> ?_⟩)⟩;rw[iA (x:=(t.p.count:Int)-1) (by omega)];refine⟨⟨t.c.inst,0,(t.p.count:Int)-1⟩,rfl,rfl,rfl,⟨r3,Z9,Z9,Z9⟩,λ_ _=>⟨⟨t.c.side,0,1⟩,rfl,rfl,rfl,⟨r4,Z9,Z9,Z9⟩,λ_ _=>⟨⟨t.c.dr,0,11⟩,rfl,rfl,rfl,⟨r6,Z9,Z9,Z9⟩,λ_ _=>⟨⟨t.c.dk,0,9⟩,rfl,rfl,rfl,⟨r5,Z9,Z9,Z9⟩,λ_ _=>⟨rfl,?_⟩⟩⟩⟩⟩;dsimp only;rw[wp,iA (x:=1+zG t.c.side 0 1) (by omega),iA (x:=1+zG t.c.dr 0 11) (by omega),iA (x:=t.i+1) (by omega)];refine Cv.dq.mk (λk=> ?_) (λk=> ?_)
 ·have k:uC t.c=1:=by simpa using k
  refine⟨{y6 t with id:=t.i+1,time:=1},gr ⟨rfl,λc=>c={y6 t with id:=t.i+1,time:=if t.c.time.tmod 5=2 then 2 else 1},⟨rfl,Z8,Cv.dq.mk (λe=>⟨{y6 t with id:=t.i+1,time:=2},gr ⟨rfl,?_,gu⟩⟩) (λe=>⟨{y6 t with id:=t.i+1,time:=1},gr ⟨rfl,?_,gu⟩⟩)⟩,λc K6=> ?_⟩⟩
  ·have e:t.c.time.tmod 5=2:=by simpa using e
   rw[fh e]
  ·have e:¬t.c.time.tmod 5=2:=by simpa using e
   rw[fb e]
  subst K6;refine⟨{y6 t with id:=t.i+1,time:=if t.c.time.tmod 5=2 then 2 else 1},gr ⟨rfl,λc=>c={y6 t with id:=t.i+1,time:=dH t.c},⟨rfl,Z8,Cv.dq.mk (λe=>⟨{y6 t with id:=t.i+1,time:=3},gr ⟨rfl,?_,gu⟩⟩) (λe=>⟨{y6 t with id:=t.i+1,time:=if t.c.time.tmod 5=2 then 2 else 1},gr ⟨rfl,?_,gu⟩⟩)⟩,λc K6=> ?_⟩⟩
  ·have e:t.c.time.tmod 5=3:=by simpa using e
   rw[dH,fh e]
  ·have e:¬t.c.time.tmod 5=3:=by simpa using e
   rw[dH,fb e]
  subst K6;have hq:(y6 t).dr=1+zG t.c.dr 0 11:=rfl;refine⟨{y6 t with id:=t.i+1,time:=dH t.c},gr ⟨rfl,λc=>c={y6 t with id:=t.i+1,time:=dH t.c,least:=cZ t.c (y6 t).dr},⟨rfl,Z8,Cv.dq.mk (λe=>⟨⟨t.c.least,0,(y6 t).dr⟩,rfl,rfl,rfl,⟨r7,Z9,Z9,Z9⟩,λ_ _=>⟨{y6 t with id:=t.i+1,time:=dH t.c,least:=zG t.c.least 0 (y6 t).dr},gr ⟨rfl,?_,gu⟩⟩⟩) (λe=>⟨{y6 t with id:=t.i+1,time:=dH t.c},gr ⟨rfl,?_,gu⟩⟩)⟩,λc K6=> ?_⟩⟩
  ·have e:t.c.least.tmod 4=1:=by simpa using e
   rw[cZ,fh e]
  ·have e:¬t.c.least.tmod 4=1:=by simpa using e
   rw[cZ,fb e];rfl
  subst K6;refine⟨⟨t.p,(y6 t).inst⟩,gr (iT ⟨rfl,hs,λ_ _=> ?_⟩)⟩;dsimp only;have hp:(y6 t).dk=t.p.tick*zG t.c.dk 0 9:=rfl;have DJ:(y6 t).kind=1:=k;rw[iA (x:=8*t.p.tick) (by omega),iA (x:=4*t.p.tick) (by omega),iA (x:=(y6 t).dk+8*t.p.tick) (by omega),iA (x:=(y6 t).dk-4*t.p.tick) (by omega)];refine Cv.dq.mk (λe=>⟨(),?_⟩) (λe=>⟨(),?_⟩)
  ·have e:(t.p.gj (y6 t).inst).2.2=aq:=by simpa using e
   have:y5 t={y6 t with id:=t.i+1,time:=dH t.c,least:=cZ t.c (y6 t).dr,dk:=(y6 t).dk+8*t.p.tick}:=by
    simp only[y5,DJ,if_true,e,oK,if_false]
   rw[this];(repeat'(first|exact trivial|exact rfl|apply au))
  ·have e:(t.p.gj (y6 t).inst).2.2=ap:=by simpa using e
   have:y5 t={y6 t with id:=t.i+1,time:=dH t.c,least:=cZ t.c (y6 t).dr,dk:=(y6 t).dk-4*t.p.tick}:=by
    simp only[y5,DJ,if_true,e]
   rw[this];(repeat'(first|exact trivial|exact rfl|apply au))
 ·have k:¬uC t.c=1:=by simpa using k
  have k:¬(y6 t).kind=1:=k;rw[iA (x:=5*t.p.tick) (by omega),iA (x:=t.p.tick*zG t.c.dk 0 9+5*t.p.tick) (by omega)];have et:y5 t={y6 t with dk:=if(y6 t).kind=4 then(y6 t).dk+5*t.p.tick else(y6 t).dk,side:=0,inst:=0}:=by
   simp only[y5,k,if_false]
  rw[et];refine Cv.dq.mk (λe=>⟨(),?_⟩) (λe=>⟨(),?_⟩)
  ·have e:uC t.c=4:=by simpa using e
   have e:(y6 t).kind=4:=e;simp only[fh e];(repeat'(first|exact trivial|exact rfl|apply au))
  ·have e:¬uC t.c=4:=by simpa using e
   have e:¬(y6 t).kind=4:=e;simp only[fb e];(repeat'(first|exact trivial|exact rfl|apply au))
def ySr:JD.ok Tryz.prog 53:=ib mixed (dx X0 (dx z4u (dx yDr fj))) 0 (λ_=>y2m) (λ_=>[]) [] Tryz.func53 y4s
structure Lf where
 a:Int
 b:Int
 c:Int
def AE:gi:=fp Lf (λi=>[lV i.a,lV i.b,lV i.c]) (λ_=>[]) (λi=>0<=i.a/\0<=i.b/\0<=i.c/\i.c<=1) (λi=> .ja [lV ((i.a+i.b+i.c) % 18446744073709551616),lV ((i.a+i.b+i.c) / 18446744073709551616)]) (λ_=>[])
def yDe {P : Program} {f : FuncId} {fn : Func} (hf : P.funcs[f]? = some fn) (Br : (fn.name == "runtime.NumGoroutine") = false) (hb : fn.body.isNone = true) (hn : Extern.findNext fn = none) (he : Extern.find fn = some add64Entry) : AE.ok P f := by
 intro i hc k L E w ys R hv;obtain⟨h1,h2,h3,h4⟩:0<=i.a/\0<=i.b/\0<=i.c/\i.c<=1:=hc;simp only[AE,fp,gw,VR,DR]at hv;obtain⟨_,_,rfl,⟨rfl,_⟩,_,_,rfl,⟨rfl,_⟩,_,_,rfl,⟨rfl,_⟩,rfl⟩:=hv;unfold nf;rw[run_callFunc_extern hf Br hb hn he,run_add64 i.a i.b i.c h1 h2 h3 h4];simp only[Result.andThen];refine⟨_,vm.2 rfl,(),trivial,E,Ev.le.refl _,?_,R⟩;simp only[AE,fp,VR,gw,DR];exact⟨_,rfl,_,_,rfl,⟨rfl,rfl⟩,_,_,rfl,⟨rfl,rfl⟩,rfl⟩
def yEg:AE.ok Tryz.prog 271:=by
 refine yDe (P:=Tryz.prog) (f:=271) (fn:=Tryz.f271) Tryz.func271 ?_ ?_ ?_ ?_
 ·kernel_rfl
 ·kernel_rfl
 ·kernel_rfl
 ·kernel_rfl
structure M2 where
 a:Int
 b:Int
def FM:gi:=fp M2 (λi=>[lV i.a,lV i.b]) (λ_=>[]) (λi=>0<=i.a/\i.a<=2000000000/\0<=i.b/\i.b<=2000000000) (λi=> .ja [lV 0,lV (i.a*i.b)]) (λ_=>[])
def F1:gi:=fp M2 (λi=>[lV 0,lV i.a,lV i.b]) (λ_=>[]) (λi=>0<=i.a/\i.a<=4000000000000000000/\1<=i.b/\i.b<=2000000000) (λi=> .ja [lV (i.a / i.b),lV (i.a % i.b)]) (λ_=>[])
def Dq:gi:=fp Lf (λi=>[zA i.a,zA i.b,zA i.c]) (λ_=>[]) (λi=>0<=i.a/\i.a<=2000000000/\0<=i.b/\i.b<=2000000000/\1<=i.c/\i.c<=2000000000) (λi=> .ja [zA (i.a*i.b / i.c),yN ap]) (λ_=>[])
def JU:gi:=fp (List Int) (λl=>[iV l]) (λ_=>[]) (λl=>l.length<=1000/\∀x∈l,0<=x/\x<=1000000) (λl=> .ja [zA l.sum,yN ap]) (λ_=>[])
def y5b (l:List Int):List gp:=[{ι:=Nat,dv:=λj=>[(4,lV (l.take j).sum),(5,zA 0),(11,zA j)],rows:=λ_=>[]}]
structure BW where
 l:List Int
 q:Int
def yZ (l:List Int) (q:Int):Bool:=decide (l.length<=250) && decide (0<=q) && l.all (λn=>decide (1<=n) && decide (n<=1000000)) && decide (q<=l.sum)
def FH:gi:=fp BW (λi=>[iV i.l,zA i.q]) (λ_=>[]) (λi=>i.l.length<=1000000/\gx i.q) (λi=>yN (yZ i.l i.q)) (λ_=>[])
def yZw (i:BW):List gp:=[{ι:=Nat,dv:=λj=>[(5,zA (i.l.take j).sum),(17,zA j)],rows:=λ_=>[]}]
def gA:List Int->Int->List Int
 |[],_=>[]
 |n::l,q=>min n q::gA l (q-min n q)
def gM (l:List Int) (q:Int):List Int:=if yZ l q=ap then gA l q else[]
def J7:gi:=fp BW (λi=>[iV i.l,zA i.q]) (λ_=>[]) (λi=>i.l.length<=1000000/\gx i.q) (λ_=> .own 0) (λi=>[.own 2 1 (iE (gM i.l i.q))])
def y2q (i:BW):List gp:=[{ι:=Nat,dv:=λj=>[(5,.own 0),(1,zA (i.q-((gA i.l i.q).take j).sum)),(15,zA j)],rows:=λj=>[.own 2 1 (iE ((gA i.l i.q).take j))]}]
def YL (a:M2):=(ab.wrap (ab.wrap (c9 ab a.a 32*B0 ab a.b 4294967295)+c9 ab (ab.wrap (B0 ab a.a 4294967295*B0 ab a.b 4294967295)) 32))
def yLu (i:M2):Prop:=
 (0:Int)<=(32:Int)/\(0:Int)<=(32:Int)/\(0:Int)<=(32:Int)/\(0:Int)<=(32:Int)/\(0:Int)<=(32:Int)/\∃(a:Unit),0=ab.wrap (ab.wrap (ab.wrap (c9 ab i.a 32*c9 ab i.b 32)+c9 ab (YL i) 32)+c9 ab (ab.wrap (B0 ab (YL i) 4294967295+ab.wrap (B0 ab i.a 4294967295*c9 ab i.b 32))) 32)/\i.a*i.b=ab.wrap (i.a*i.b)/\True
def yJh (i:M2):Prop:=
 dq (i.b==0) False (dq (decide (i.b<=0)) False (ab=ab/\i.b≠0/\ab=ab/\i.b≠0/\∃(a:Unit),i.a / i.b=ab.wrap (i.a.tdiv i.b)/\i.a % i.b=i.a.tmod i.b/\True))
def z8v (i:Lf):Prop:=
 dq (decide (i.a<0)) (∃(a:Unit),i.a*i.b / i.c=0/\ap=aq/\True) (dq (decide (i.b<0)) (∃(a:Unit),i.a*i.b / i.c=0/\ap=aq/\True) (dq (decide (i.c<1)) (∃(a:Unit),i.a*i.b / i.c=0/\ap=aq/\True) (∃(a:M2),a.a=ab.wrap i.a/\a.b=ab.wrap i.b/\(0<=a.a/\a.a<=(2000000000:Int)/\(0:Int)<=a.b/\a.b<=2000000000)/\∀(b:Unit),True->dq (decide (0>=ab.wrap i.c)) (∃(c:Unit),i.a*i.b / i.c=0/\ap=aq/\True) (∃(c:M2),dj ((0:Int))/\c.a=a.a*a.b/\c.b=ab.wrap i.c/\(0<=c.a/\c.a<=(4000000000000000000:Int)/\(1:Int)<=c.b/\c.b<=2000000000)/\∀(d:Unit),True->dq (decide (c.a / c.b>9223372036854775807)) (∃(e:Unit),i.a*i.b / i.c=0/\ap=aq/\True) (∃(e:Unit),i.a*i.b / i.c=aa.wrap (c.a / c.b)/\ap=ap/\True)))))
def yVb (l:List Int):Prop:=
 ∃(a:Nat),(ae a l).sum=(0:Int)/\(0:Int)=0/\(↑a:Int)=0/\∃(b:Nat->Prop),∃(c:Nat->Nat),b a/\∀(d:Nat),b d->dq (decide ((↑d:Int)<(↑(iE l).length:Int))) ((0<=(↑d:Int)/\(↑d:Int)<(↑(iE l).length:Int))/\∃(e:Int),zD (iE l) (↑d:Int).toNat 0 1=az [dI e]/\∃(f:Lf),f.a=(ae d l).sum/\f.b=ab.wrap e/\f.c=0/\(0<=f.a/\0<=f.b/\0<=f.c/\f.c<=1)/\∀(g:Unit),True->(0:Int)<=(63:Int)/\∃(h:Nat),(ae h l).sum=(f.a+f.b+f.c) % (18446744073709551616:Int)/\(0:Int)=aa.wrap (0+aa.wrap (c9 aa e 63+aa.wrap ((f.a+f.b+f.c) / (18446744073709551616:Int))))/\kD h d b c) ((0:Int)<=(63:Int)/\dq (0 !=c9 aa (aa.wrap (ae d l).sum) 63) (∃(e:Unit),l.sum=0/\ap=aq/\True) (∃(e:Unit),l.sum=aa.wrap (ae d l).sum/\ap=ap/\True))
def yHd (i:BW):Prop:=
 dq (decide ((↑(iE i.l).length:Int)>250)) (∃(a:Unit),yZ i.l i.q=aq/\True) (dq (decide (i.q<0)) (∃(a:Unit),yZ i.l i.q=aq/\True) (∃(a:Nat),(ae a i.l).sum=0/\(↑a:Int)=0/\∃(b:Nat->Prop),∃(c:Nat->Nat),b a/\∀(d:Nat),b d->dq (decide ((↑d:Int)<(↑(iE i.l).length:Int))) ((0<=(↑d:Int)/\(↑d:Int)<(↑(iE i.l).length:Int))/\∃(e:Int),zD (iE i.l) (↑d:Int).toNat 0 1=az [dI e]/\dq (decide (e<1)) (∃(f:Unit),yZ i.l i.q=aq/\True) (dq (decide (e>1000000)) (∃(f:Unit),yZ i.l i.q=aq/\True) (∃(f:Nat),(ae f i.l).sum=aa.wrap ((ae d i.l).sum+e)/\kD f d b c))) (∃(e:Unit),yZ i.l i.q=decide (i.q<=(ae d i.l).sum)/\True)))
def wR (a:BW):Prop:=a.l.length<=(1000000:Nat)/\(-9223372036854775808:Int)<=a.q/\a.q<=9223372036854775807
def wG (a:Nat) (b:BW):=(ae a (gA b.l b.q))
def yUa (i:BW):Prop:=
 ∃(a:BW),iE a.l=iE i.l/\a.q=i.q/\(wR a)/\∀(b:Unit),True->dq (!yZ a.l a.q) (∃(c:Unit),iE (gM i.l i.q)=[]/\True) (∃(c:Nat),i.q-(wG c i).sum=i.q/\(↑c:Int)=0/\iE (wG c i)=[]/\∃(d:Nat->Prop),∃(e:Nat->Nat),d c/\∀(f:Nat),d f->dq (decide ((↑f:Int)<(↑(iE i.l).length:Int))) ((0<=(↑f:Int)/\(↑f:Int)<(↑(iE i.l).length:Int))/\∃(g:Int),zD (iE i.l) (↑f:Int).toNat 0 1=az [dI g]/\((iE (wG f i)).length+1)*(8:Nat)<=(140737488355328:Nat)/\∃(h:Nat),i.q-(wG h i).sum=aa.wrap (i.q-(wG f i).sum-min g (i.q-(wG f i).sum))/\(↑h:Int)=aa.wrap ((↑f:Int)+1)/\iE (wG h i)=iE (wG f i)++[[dI (min g (i.q-(wG f i).sum))]]/\d h/\e h<e f/\True) (∃(g:Unit),iE (gM i.l i.q)=iE (wG f i)/\True))
def VJ {x:Int} (h0:0<=x) (h1:x<4294967296):B0 .u64 x 4294967295=x:=by
 have e:B0 .u64 x 4294967295=ab.wrap ((BitVec.ofInt 64 x &&& BitVec.ofInt 64 4294967295).toNat:Int):=rfl;obtain⟨n,rfl⟩:=Int.eq_ofNat_of_zero_le h0;have hn:n<4294967296:=by omega
 rw[e,BitVec.toNat_and,BitVec.ofInt_natCast,BitVec.toNat_ofNat,show(BitVec.ofInt 64 4294967295).toNat=2 ^ 32-1 by decide,Nat.and_two_pow_sub_one_eq_mod];rw[show n % 2 ^ 64 % 2 ^ 32=n by omega,BH (by omega)]
def SI {x:Int} (h0:0<=x) (h1:x<4294967296):c9 .u64 x 32=0:=by
 have:=Oh .u64 x 32 Z8;rw[show((32:Nat):Int)=32 by rfl]at this;rw[this];omega
def z8l {a b m n:Int} (ha:0<=a/\a<=m) (hb:0<=b/\b<=n):0<=a*b/\a*b<=m*n:=
 ⟨MV ha.1 hb.1,Int.mul_le_mul ha.2 hb.2 hb.1 oM⟩
def yZk (i:M2) (h:FM.dq i):yLu i:=by
 obtain⟨h1,h2,h3,h4⟩:0<=i.a/\i.a<=2000000000/\0<=i.b/\i.b<=2000000000:=h;have hm:=z8l ⟨h1,h2⟩ ⟨h3,h4⟩;have hs:c9 ab (i.a*i.b) 32=(i.a*i.b) / 4294967296:=by
  have:=Oh .u64 (i.a*i.b) 32 Z8;rw[show((32:Nat):Int)=32 by rfl]at this;exact this
 unfold yLu YL;refine⟨Z8,Z8,Z8,Z8,Z8,(),?_,?_,trivial⟩
 ·rw[VJ h1 (by omega),VJ h3 (by omega),SI h1 (by omega),SI h3 (by omega),BH (x:=i.a*i.b) (by omega),hs];simp only[Int.zero_mul,Int.mul_zero,Int.zero_add,Int.add_zero];rw[BH (x:=0) (by omega)];simp only[Int.zero_add,Int.add_zero];rw[BH (x:=i.a*i.b / 4294967296) (by omega),SI (x:=i.a*i.b / 4294967296) (by omega) (by omega),VJ (x:=i.a*i.b / 4294967296) (by omega) (by omega),BH (x:=i.a*i.b / 4294967296) (by omega),SI (x:=i.a*i.b / 4294967296) (by omega) (by omega)];rfl
 ·rw[BH (by omega)]
def yHt:FM.ok Tryz.prog 265:=ib mixed fj 0 (λ_=>[]) (λ_=>[]) [] Tryz.func265 yZk
def yWd (i:M2) (h:F1.dq i):yJh i:=by
 obtain⟨h1,h2,h3,h4⟩:0<=i.a/\i.a<=4000000000000000000/\1<=i.b/\i.b<=2000000000:=h;unfold yJh;have hd:0<=i.a / i.b/\i.a / i.b<=i.a:=⟨Int.ediv_nonneg h1 oM,Int.ediv_le_self _ h1⟩
 refine Cv.dq.mk (λc=>absurd (eq_of_beq c) oM) (λ_=>zH (λc=>by omega) (λ_=>⟨rfl,oM,rfl,oM,(),?_,?_,trivial⟩))
 ·rw[Int.tdiv_eq_ediv_of_nonneg h1,BH (by omega)]
 ·rw[Int.tmod_eq_emod_of_nonneg h1]
def yOh:F1.ok Tryz.prog 266:=ib mixed fj 0 (λ_=>[]) (λ_=>[]) [] Tryz.func266 yWd
def yRh (i:Lf) (h:Dq.dq i):z8v i:=by
 obtain⟨h1,h2,h3,h4,h5,h6⟩:0<=i.a/\i.a<=2000000000/\0<=i.b/\i.b<=2000000000/\1<=i.c/\i.c<=2000000000:=h;have hm:=z8l ⟨h1,h2⟩ ⟨h3,h4⟩;have hd:0<=i.a*i.b / i.c/\i.a*i.b / i.c<=i.a*i.b:=⟨Int.ediv_nonneg hm.1 oM,Int.ediv_le_self _ hm.1⟩
 unfold z8v;rw[BH (x:=i.a) (by omega),BH (x:=i.b) (by omega),BH (x:=i.c) (by omega)];refine zH (λc=>by omega) (λ_=>zH (λc=>by omega) (λ_=>zH (λc=>by omega) (λ_=>⟨⟨i.a,i.b⟩,rfl,rfl,⟨h1,h2,h3,h4⟩,λ_ _=>zH (λc=>by omega) (λ_=>⟨⟨i.a*i.b,i.c⟩,rfl,rfl,rfl,⟨hm.1,Z9,h5,h6⟩,λ_ _=>zH (λc=>by dsimp only at c;omega) (λ_=>⟨(),?_,rfl,trivial⟩)⟩)⟩)));rw[iA (by dsimp only;omega)]
def zTz:Dq.ok Tryz.prog 261:=ib mixed (dx yHt (dx yOh fj)) 0 (λ_=>[]) (λ_=>[]) [] Tryz.func261 yRh
def rf {j:Nat} (h:j<=1000000):((j+1:Nat):Int)=aa.wrap ((j:Int)+1):=by rw[iA (by omega)];rfl
def j8 {l:List Int} {j:Nat} {x:Int} (h:l[j]? =az x):(l.take (j+1)).sum=(l.take j).sum+x:=by
 rw[tb,h];simp
def j6 {l:List Int} (h:∀x∈l,0<=x/\x<=1000000):∀j:Nat,0<=(l.take j).sum/\(l.take j).sum<=1000000*j
 |0=>by simp
 |j+1=>by
  have ih:=j6 h j;cases hx:l[j]? with
  |none=>
   have:l.take (j+1)=l.take j:=by
    rw[tb,hx];simp
   rw[this];omega
  |some x=>
   have:=h x (lq hx);rw[j8 hx];omega
def y5e (l:List Int) (h:JU.dq l):yVb l:=by
 obtain⟨hl,hb⟩:l.length<=1000/\∀x∈l,0<=x/\x<=1000000:=h;unfold yVb kD dI;simp only[y4];refine⟨0,by(first|exact rfl|exact trivial),by(first|exact rfl|exact trivial),by(first|exact rfl|exact trivial),λj=>j<=l.length,λj=>l.length-j,mz _,λj hj=>zH (λc=> ?_) (λc=> ?_)⟩
 ·have ov:j<l.length:=by omega
  obtain⟨x,hx⟩:=z6 (l:=l) (i:=j) ov;have bx:=hb x (lq hx);have bs:=j6 hb j;refine⟨⟨oM,oM⟩,x,rk hx,⟨(l.take j).sum,x,0⟩,rfl,by rw[BH (by omega)],rfl,⟨bs.1,bx.1,Z9,Z9⟩,λ_ _=>⟨Z8,j+1,?_,?_,rf oM,ov,Z9,trivial⟩⟩
  ·rw[j8 hx];dsimp only;omega
  ·have e:c9 aa x 63=x / 9223372036854775808:=by
    have:=Oh .i64 x 63 Z8;rw[show((63:Nat):Int)=63 by rfl]at this;exact this
   dsimp only;rw[e,show x / 9223372036854775808=0 by omega,show((l.take j).sum+x+0) / 18446744073709551616=0 by omega];rfl
 ·have ov:j=l.length:=by omega
  subst ov;have bs:=j6 hb l.length;rw[BJ]at bs;have e:c9 aa l.sum 63=l.sum / 9223372036854775808:=by
   have:=Oh .i64 l.sum 63 Z8;rw[show((63:Nat):Int)=63 by rfl]at this;exact this
  rw[BJ,iA (x:=l.sum) (by omega),e,show l.sum / 9223372036854775808=0 by omega];exact⟨Z8,Cv.dq.mk (λc=>absurd c Z8) (λ_=>⟨(),by(first|exact rfl|exact trivial),by(first|exact rfl|exact trivial),trivial⟩)⟩
def ySa:JU.ok Tryz.prog 268:=ib mixed (dx yEg fj) 0 (λ_=>[]) (λl=>y5b l) [] Tryz.func268 y5e
def yWx (i:BW) (h:FH.dq i):yHd i:=by
 obtain⟨hl,hq⟩:i.l.length<=1000000/\gx i.q:=h;unfold yHd kD dI;simp only[y4];refine zH (λc=>⟨(),?_,trivial⟩) (λc1=>zH (λc=>⟨(),?_,trivial⟩) (λc2=> ?_))
 ·rw[yZ,ku (by omega:¬i.l.length<=250)];rfl
 ·rw[yZ,ku (by omega:¬0<=i.q)];simp
 refine⟨0,by(first|exact rfl|exact trivial),by(first|exact rfl|exact trivial),λj=>j<=i.l.length/\∀k<j,∀x,i.l[k]? =az x->1<=x/\x<=1000000,λj=>i.l.length-j,⟨mz _,λk hk=>absurd hk (Nat.not_lt_zero k)⟩,λj hj=>zH (λc=> ?_) (λc=> ?_)⟩
 ·obtain⟨hj0,Vl⟩:=hj;have ov:j<i.l.length:=by omega
  obtain⟨x,hx⟩:=z6 (l:=i.l) (i:=j) ov;have bad (hn:¬(1<=x/\x<=1000000)):yZ i.l i.q=aq:=by
   have:(i.l.all λn=>decide (1<=n) && decide (n<=1000000))=aq:=by
    rw[List.all_eq_false];exact⟨x,lq hx,by simpa using hn⟩
   rw[yZ,this];simp
  have bs:0<=(i.l.take j).sum/\(i.l.take j).sum<=1000000*j:=by
   have:=j6 (l:=i.l.take j) (λy hy=>by
    obtain⟨k,hk⟩:=B6.1 hy;have Vk:k<j:=by
     have:=(jv.1 hk).1;rw[om]at this;omega
    rw[List.getElem?_take_of_lt Vk]at hk;have:=Vl k Vk y hk;omega) j
   rwa [List.take_take,Nat.min_self]at this
  refine⟨⟨oM,oM⟩,x,rk hx,zH (λd=>⟨(),bad oM,trivial⟩) (λd=>zH (λe=>⟨(),bad oM,trivial⟩) (λe=>⟨j+1,?_,rf oM,⟨ov,λk hk y hy=> ?_⟩,Z9,trivial⟩))⟩
  ·rw[j8 hx,iA (by omega)]
  ·by_cases Vk:k=j
   ·rw[Vk,hx]at hy;cases hy;omega
   ·exact Vl k oM y hy
 ·obtain⟨hj0,Vl⟩:=hj;have ov:j=i.l.length:=by omega
  subst ov;have:(i.l.all λn=>decide (1<=n) && decide (n<=1000000))=ap:=by
   rw[DB];intro y hy;obtain⟨k,hk⟩:=B6.1 hy;have:=Vl k ((jv.1 hk).1) y hk;simpa using this
  refine⟨(),?_,trivial⟩;rw[yZ,this,lg (by omega:i.l.length<=250),lg (by omega:0<=i.q),BJ];rfl
def Tn:FH.ok Tryz.prog 259:=ib mixed fj 0 (λ_=>[]) (λi=>yZw i) [] Tryz.func259 yWx
def jN {l:List Int} {q:Int} (h:yZ l q=ap):l.length<=250/\0<=q/\(∀x∈l,1<=x/\x<=1000000)/\q<=l.sum:=by
 simp only[yZ,lr,ud,DB]at h;exact⟨h.1.1.1,h.1.1.2,h.1.2,h.2⟩
def SE {l:List Int} {q:Int} (h:yZ l q=ap):q<=250000000:=by
 obtain⟨h1,h2,h3,h4⟩:=jN h;have:=j6 (l:=l) (λx hx=>by have:=h3 x hx;omega) l.length;rw[BJ]at this;omega
def Ot:∀(l:List Int) (q:Int),(gA l q).length=l.length
 |[],_=>rfl
 |n::l,q=>by rw[gA,iJ,iJ,Ot l]
def Xm:∀(l:List Int) (q:Int) (j:Nat) (n:Int),l[j]? =az n->(gA l q)[j]? =az (min n (q-((gA l q).take j).sum))
 |[],_,_,_,h=>by simp at h
 |m::l,q,0,n,h=>by simp at h;subst h;simp[gA]
 |m::l,q,j+1,n,h=>by
  rw[A1]at h;rw[gA,A1,Xm l _ j n h,vo,ra];congr 2;omega
def XM:∀(l:List Int) (q:Int) (j:Nat),0<=q->(∀x∈l,0<=x)->0<=q-((gA l q).take j).sum/\q-((gA l q).take j).sum<=q
 |[],q,j,h,_=>by simp[gA,h]
 |m::l,q,0,h,_=>by simp[h]
 |m::l,q,j+1,h,hb=>by
  have hm:=hb m jm;have:=XM l (q-min m q) j oM (λx hx=>hb x (kg _ hx));rw[gA,vo,ra];omega
def y3v (i:BW) (h:J7.dq i):yUa i:=by
 obtain⟨hl,hq⟩:i.l.length<=1000000/\gx i.q:=h;unfold yUa wG wR dI;refine⟨i,rfl,rfl,⟨hl,hq⟩,λ_ _=>Cv.dq.mk (λc=> ?_) (λc=> ?_)⟩
 ·have c:yZ i.l i.q=aq:=by simpa using c
  refine⟨(),?_,trivial⟩;rw[gM,fb (by rw[c];decide)];rfl
 have c:yZ i.l i.q=ap:=by simpa using c
 obtain⟨h1,h2,h3,h4⟩:=jN c;have rl:=SE c;have h3':∀x∈i.l,0<=x:=λx hx=>by have:=h3 x hx;omega
 simp only[y4];refine⟨0,by simp,rfl,rfl,λj=>j<=i.l.length,λj=>i.l.length-j,mz _,λj hj=>zH (λd=> ?_) (λd=> ?_)⟩
 ·have ov:j<i.l.length:=by omega
  obtain⟨x,hx⟩:=z6 (l:=i.l) (i:=j) ov;have bx:=h3 x (lq hx);have g:=Xm i.l i.q j x hx;have r:=XM i.l i.q j h2 h3';refine⟨⟨oM,oM⟩,x,rk hx,by rw[om];omega,j+1,?_,rf oM,?_,ov,Z9,trivial⟩
  ·rw[j8 g,iA (by omega)];omega
  ·rw[tb,g];simp[iE]
 ·have ov:j=i.l.length:=by omega
  subst ov;refine⟨(),?_,trivial⟩;rw[gM,fh c,oh (by rw[Ot];omega)]
def yCc:J7.ok Tryz.prog 248:=ib mixed (dx Tn fj) 0 (λ_=>[]) (λi=>y2q i) [] Tryz.func248 y3v
structure DN where
 slot:Int
 id:Int
 dr:Int
 top:Bool
 deriving DecidableEq
def y2h:DN:=⟨0,0,0,aq⟩
def D7 (e:DN):List D:=[.v (.int .i64 e.slot),.v (.int .i64 e.id),.v (.int .i64 e.dr),.v (.bool e.top)]
@[reducible] def y8o (e:DN):V:= .agg [zA e.slot,zA e.id,zA e.dr,yN e.top]
def Slot.pg (s:Slot):DN:=⟨s.n,s.id,s.dr,s.top⟩
def du.fa (a:du) (k:Nat):Slot:=a.dv.getD k iH
def du.np (a:du) (n:Int):DN×Bool:=if a.iz n=ap then((a.fa n.toNat).pg,ap)else(y2h,aq)
def Kg:gi:=fp vy (λi=>[.nm 0 0,zA i.n]) (λi=>[wB i.a]) (λi=>i.a.dv.length<=1000000) (λi=> .ja [y8o (i.a.np i.n).1,yN (i.a.np i.n).2]) (λi=>[wB i.a])
def Ow (sl:List Slot):Int->List Nat->Prop
 |at_,[]=>at_= -1
 |at_,k::l=>at_=k/\k<sl.length/\Ow sl (sl.getD k iH).back l
structure Ll where
 a:du
 n:Int
 l:List Nat
def eZ (l:List Nat) (j:Nat):Int:=match l[j]? with
 |some k=>k
 |none=> -1
def du.fy (a:du) (l:List Nat):List DN:=l.map λk=>(a.fa k).pg
structure du.pw (a:du) (n:Int) (l:List Nat):Prop where
 len:l.length<=1000000
 ch:if 0<=n/\n<a.dz.length then Ow a.dv (a.dz.getD n.toNat mA).first l else l=[]
def Gc:gi:=fp Ll (λi=>[.nm 0 0,zA i.n]) (λi=>[wB i.a]) (λi=>i.a.pw i.n i.l) (λ_=> .own 1) (λi=>[wB i.a,.own 312 4 ((i.a.fy i.l).map D7)])
def y1n (i:Ll):List gp:=[{ι:=Nat,dv:=λj=>[(5,.own 0),(6,zA (eZ i.l j))],rows:=λj=>[.own 312 4 ((i.a.fy (i.l.take j)).map D7)]}]
structure Cg where
 a:du
 n:Int
 dr:Int
def du.iL (a:du) (k:Nat):du:=
 let s:=a.fa k
 let q:=a.dz.getD s.queue.toNat mA
 let Ah:=if s.ahead= -1 then a.dv else a.dv.modify s.ahead.toNat λx=>{x with back:=s.back}
 let CM:=if s.back= -1 then Ah else Ah.modify s.back.toNat λx=>{x with ahead:=s.ahead}
 ⟨CM.set k iH,a.dz.set s.queue.toNat ⟨if s.ahead= -1 then s.back else q.first,if s.back= -1 then s.ahead else q.last,q.total,aa.wrap (q.count-1)⟩,aa.wrap (a.free+1)⟩
def du.less (a:du) (k:Nat) (dr:Int):du:=
 {a with dv:=a.dv.modify k λs=>{s with dr:=s.dr-dr},dz:=a.dz.modify (a.fa k).queue.toNat λq=>{q with total:=aa.wrap (q.total-dr)}}
def du.gl (a:du) (n dr:Int):du×Int:=
 if a.iz n=aq then(a,26)else if dr<1\/(a.fa n.toNat).dr<dr then(a,24)
 else if(a.fa n.toNat).dr=dr then((a.less n.toNat dr).iL n.toNat,0)else(a.less n.toNat dr,0)
def du.DP (a:du):Prop:=a.dv.length<=1000000/\∀(k:Nat) (s:Slot),a.dv[k]? =az s->s.used=ap->(0<=s.queue/\s.queue<a.dz.length)/\s.dr<=1000000/\(s.ahead= -1\/(0<=s.ahead/\s.ahead<a.dv.length/\s.ahead≠k))/\(s.back= -1\/(0<=s.back/\s.back<a.dv.length/\s.back≠k))
def F9:gi:=fp Cg (λi=>[.nm 0 0,zA i.n,zA i.dr]) (λi=>[wB i.a]) (λi=>i.a.DP) (λi=>zA (i.a.gl i.n i.dr).2) (λi=>[wB (i.a.gl i.n i.dr).1])
def TT (a:vy):Prop:=∃(b:Unit),(a.a.np a.n).fst.slot=0/\(a.a.np a.n).fst.id=0/\(a.a.np a.n).fst.dr=0/\(a.a.np a.n).fst.top=aq/\(a.a.np a.n).snd=aq/\jR a
def yVj (i:vy):Prop:=
 dq (decide (i.n<0)) (TT i) (dq (decide (i.n>=(↑(ac zR i.a.dv).length:Int))) (TT i) ((0<=i.n/\i.n<(↑(ac zR i.a.dv).length:Int))/\∃(a:Bool),zD (ac zR i.a.dv) i.n.toNat 0 1=az [D.v (.bool a)]/\dq (!a) (TT i) ((0<=i.n/\i.n<(↑(ac zR i.a.dv).length:Int))/\∃(b:Int),∃(c:Int),∃(d:Int),∃(e:Bool),zD (ac zR i.a.dv) i.n.toNat 1 4=az [dI b,dI c,dI d,D.v (.bool e)]/\∃(f:Unit),(i.a.np i.n).fst.slot=b/\(i.a.np i.n).fst.id=c/\(i.a.np i.n).fst.dr=d/\(i.a.np i.n).fst.top=e/\(i.a.np i.n).snd=ap/\jR i)))
def Zi (a:Ll):Prop:=∃(b:Unit),dj a.a.free/\dj (ac zR a.a.dv)/\dj (ac zP a.a.dz)/\ac D7 (a.a.fy a.l)=[]/\True
def yJa (i:Ll):Prop:=
 dq (decide (i.n>=0)) (dq (!decide (i.n<(↑(ac zP i.a.dz).length:Int))) (Zi i) ((0<=i.n/\i.n<(↑(ac zP i.a.dz).length:Int))/\∃(a:Int),zD (ac zP i.a.dz) i.n.toNat 0 1=az [dI a]/\∃(b:Nat),eZ i.l b=a/\ac D7 (i.a.fy (ae b i.l))=[]/\∃(c:Nat->Prop),∃(d:Nat->Nat),c b/\∀(e:Nat),c e->dq (eZ i.l e !=(-1)) ((0<=eZ i.l e/\eZ i.l e<(↑(ac zR i.a.dv).length:Int))/\∃(f:Int),∃(g:Int),∃(h:Int),∃(j:Bool),zD (ac zR i.a.dv) (eZ i.l e).toNat 1 4=az [dI f,dI g,dI h,D.v (.bool j)]/\((ac D7 (i.a.fy (ae e i.l))).length+1)*(32:Nat)<=(140737488355328:Nat)/\(0<=eZ i.l e/\eZ i.l e<(↑(ac zR i.a.dv).length:Int))/\∃(k:Int),zD (ac zR i.a.dv) (eZ i.l e).toNat 7 1=az [dI k]/\∃(l:Nat),eZ i.l l=k/\ac D7 (i.a.fy (ae l i.l))=ac D7 (i.a.fy (ae e i.l))++[[dI f,dI g,dI h,D.v (.bool j)]]/\c l/\d l<d e/\dj (av [V.own 1,V.own 2,V.d (dI i.a.free)] (317:TypeId))/\dj (aw 314 8 (ac zR i.a.dv))/\dj (aw 320 4 (ac zP i.a.dz))) (∃(f:Unit),dj i.a.free/\dj (ac zR i.a.dv)/\dj (ac zP i.a.dz)/\ac D7 (i.a.fy i.l)=ac D7 (i.a.fy (ae e i.l))/\True))) (Zi i)
def Y3 (a:Cg):Prop:=(a.a.gl a.n a.dr).fst.free=a.a.free/\ac zR (a.a.gl a.n a.dr).fst.dv=ac zR a.a.dv/\ac zP (a.a.gl a.n a.dr).fst.dz=ac zP a.a.dz/\True
def tE (a:Cg):Prop:=∃(b:Unit),(a.a.gl a.n a.dr).snd=26/\Y3 a
def YS (a:Cg):Prop:=∃(b:Unit),(a.a.gl a.n a.dr).snd=24/\Y3 a
def vF (a:Cg) (b:Int) (c:Int):=(zV (ac zP a.a.dz) b.toNat 2 [dI (aa.wrap (c-a.dr))])
def cE (a:Cg) (b:Int) (c:Int) (d:Int) (e:Int):=(zV (vF a b c) d.toNat 0 [dI e])
def sN (a:Cg) (b:Int) (c:Int) (d:Int) (e:Int) (f:Int):=(zV (cE a b c d e) d.toNat 1 [dI f])
def y8 (a:Cg) (b:Int):=(zV (ac zR a.a.dv) a.n.toNat 3 [dI (aa.wrap (b-a.dr))])
def YX (a:Int) (b:Cg) (c:Int):Prop:=0<=a/\a<(↑(y8 b c).length:Int)
def jB (a:Cg) (b:Int) (c:Int) (d:Int):=(zV (y8 a b) c.toNat 7 [dI d])
def eB (a:Cg) (b:Int) (c:Int) (d:Int) (e:Int):=(zV (vF a b c) d.toNat 1 [dI e])
def yKo (i:Cg):Prop:=
 dq (decide (i.n<0)) (tE i) (dq (decide (i.n>=(↑(ac zR i.a.dv).length:Int))) (tE i) ((0<=i.n/\i.n<(↑(ac zR i.a.dv).length:Int))/\∃(a:Bool),zD (ac zR i.a.dv) i.n.toNat 0 1=az [D.v (.bool a)]/\dq (!a) (tE i) ((0<=i.n/\i.n<(↑(ac zR i.a.dv).length:Int))/\dq (decide (i.dr<1)) (YS i) (∃(b:Int),zD (ac zR i.a.dv) i.n.toNat 3 1=az [dI b]/\dq (decide (i.dr>b)) (YS i) (∃(c:Int),zD (ac zR i.a.dv) i.n.toNat 3 1=az [dI c]/\i.n.toNat<(ac zR i.a.dv).length/\∃(d:Int),zD (y8 i c) i.n.toNat 5 1=az [dI d]/\(0<=d/\d<(↑(ac zP i.a.dz).length:Int))/\∃(e:Int),zD (ac zP i.a.dz) d.toNat 2 1=az [dI e]/\(0<=d/\d<(↑(ac zP i.a.dz).length:Int))/\d.toNat<(ac zP i.a.dz).length/\∃(f:Int),zD (y8 i c) i.n.toNat 3 1=az [dI f]/\dq (f==0) (∃(g:Int),zD (y8 i c) i.n.toNat 5 1=az [dI g]/\(0<=g/\g<(↑(vF i d e).length:Int))/\∃(h:Int),zD (y8 i c) i.n.toNat 6 1=az [dI h]/\dq (h==(-1)) (∃(j:Int),zD (y8 i c) i.n.toNat 7 1=az [dI j]/\g.toNat<(vF i d e).length/\∃(k:Int),zD (y8 i c) i.n.toNat 7 1=az [dI k]/\dq (k==(-1)) (∃(l:Int),zD (y8 i c) i.n.toNat 6 1=az [dI l]/\g.toNat<(cE i d e g j).length/\∃(m:Int),zD (sN i d e g j l) g.toNat 3 1=az [dI m]/\g.toNat<(sN i d e g j l).length/\i.n.toNat<(y8 i c).length/\∃(n:Unit),(i.a.gl i.n i.dr).snd=0/\(i.a.gl i.n i.dr).fst.free=aa.wrap (i.a.free+1)/\ac zR (i.a.gl i.n i.dr).fst.dv=zV (y8 i c) i.n.toNat 0 [D.v (.bool aq),dI 0,dI 0,dI 0,D.v (.bool aq),dI 0,dI 0,dI 0]/\ac zP (i.a.gl i.n i.dr).fst.dz=zV (sN i d e g j l) g.toNat 3 [dI (aa.wrap (m-1))]/\True) (∃(l:Int),zD (y8 i c) i.n.toNat 7 1=az [dI l]/\∃(m:Int),zD (y8 i c) i.n.toNat 6 1=az [dI m]/\(YX l i c)/\l.toNat<(y8 i c).length/\∃(n:Int),zD (cE i d e g j) g.toNat 3 1=az [dI n]/\g.toNat<(cE i d e g j).length/\i.n.toNat<(zV (y8 i c) l.toNat 6 [dI m]).length/\∃(p:Unit),(i.a.gl i.n i.dr).snd=0/\(i.a.gl i.n i.dr).fst.free=aa.wrap (i.a.free+1)/\ac zR (i.a.gl i.n i.dr).fst.dv=zV (zV (y8 i c) l.toNat 6 [dI m]) i.n.toNat 0 [D.v (.bool aq),dI 0,dI 0,dI 0,D.v (.bool aq),dI 0,dI 0,dI 0]/\ac zP (i.a.gl i.n i.dr).fst.dz=zV (cE i d e g j) g.toNat 3 [dI (aa.wrap (n-1))]/\True)) (∃(j:Int),zD (y8 i c) i.n.toNat 6 1=az [dI j]/\∃(k:Int),zD (y8 i c) i.n.toNat 7 1=az [dI k]/\(YX j i c)/\j.toNat<(y8 i c).length/\∃(l:Int),zD (jB i c j k) i.n.toNat 7 1=az [dI l]/\dq (l==(-1)) (∃(m:Int),zD (jB i c j k) i.n.toNat 6 1=az [dI m]/\g.toNat<(vF i d e).length/\∃(n:Int),zD (eB i d e g m) g.toNat 3 1=az [dI n]/\g.toNat<(eB i d e g m).length/\i.n.toNat<(jB i c j k).length/\∃(p:Unit),(i.a.gl i.n i.dr).snd=0/\(i.a.gl i.n i.dr).fst.free=aa.wrap (i.a.free+1)/\ac zR (i.a.gl i.n i.dr).fst.dv=zV (jB i c j k) i.n.toNat 0 [D.v (.bool aq),dI 0,dI 0,dI 0,D.v (.bool aq),dI 0,dI 0,dI 0]/\ac zP (i.a.gl i.n i.dr).fst.dz=zV (eB i d e g m) g.toNat 3 [dI (aa.wrap (n-1))]/\True) (∃(m:Int),zD (jB i c j k) i.n.toNat 7 1=az [dI m]/\∃(n:Int),zD (jB i c j k) i.n.toNat 6 1=az [dI n]/\(0<=m/\m<(↑(jB i c j k).length:Int))/\m.toNat<(jB i c j k).length/\∃(p:Int),zD (vF i d e) g.toNat 3 1=az [dI p]/\g.toNat<(vF i d e).length/\i.n.toNat<(zV (jB i c j k) m.toNat 6 [dI n]).length/\∃(q:Unit),(i.a.gl i.n i.dr).snd=0/\(i.a.gl i.n i.dr).fst.free=aa.wrap (i.a.free+1)/\ac zR (i.a.gl i.n i.dr).fst.dv=zV (zV (jB i c j k) m.toNat 6 [dI n]) i.n.toNat 0 [D.v (.bool aq),dI 0,dI 0,dI 0,D.v (.bool aq),dI 0,dI 0,dI 0]/\ac zP (i.a.gl i.n i.dr).fst.dz=zV (vF i d e) g.toNat 3 [dI (aa.wrap (p-1))]/\True))) (∃(g:Unit),(i.a.gl i.n i.dr).snd=0/\(i.a.gl i.n i.dr).fst.free=i.a.free/\ac zR (i.a.gl i.n i.dr).fst.dv=zV (ac zR i.a.dv) i.n.toNat 3 [dI (aa.wrap (c-i.dr))]/\ac zP (i.a.gl i.n i.dr).fst.dz=zV (ac zP i.a.dz) d.toNat 2 [dI (aa.wrap (e-i.dr))]/\True))))))
def SL {a:du} {n:Int} (h:n<0\/(a.dv.length:Int)<=n):a.iz n=aq:=by
 rcases h with h|h
 ·rw[du.iz,ku (by omega),CI]
 ·rw[du.iz,ku (show ¬n<(a.dv.length:Int)by omega),CI,I1]
def yCl {a:du} {n:Int} {s:Slot} (h0:0<=n) (hs:a.dv[n.toNat]? =az s):a.iz n=s.used:=by
 have hl:=(jv.1 hs).1;rw[du.iz,lg h0,lg (show n<(a.dv.length:Int)by omega),zT hs];simp
def xR {a:du} {k:Nat} {s:Slot} (hs:a.dv[k]? =az s):a.fa k=s:=zT hs
def y5l (i:vy) (h:Kg.dq i):yVj i:=by
 have h:i.a.dv.length<=1000000:=h;unfold yVj TT jR dI;simp only[im];have no (e:i.a.iz i.n=aq):i.a.np i.n=(y2h,aq):=by rw[du.np,fb (by rw[e];decide)]
 refine zH (λc=> ?_) (λc=>zH (λd=> ?_) (λd=> ?_))
 ·rw[no (SL (.inl c))];exact kp
 ·rw[no (SL (.inr (by omega)))];exact kp
 ·obtain⟨s,hs⟩:=z6 (l:=i.a.dv) (i:=i.n.toNat) oM;have eu:=yCl (a:=i.a) (n:=i.n) oM hs;refine⟨⟨oM,oM⟩,s.used,ju hs (by simp[zR]) rfl,Cv.dq.mk (λu=> ?_) (λu=> ?_)⟩
  ·rw[no (by rw[eu];simpa using u)];exact kp
  ·have e:i.a.iz i.n=ap:=by rw[eu];simpa using u
   have et:i.a.np i.n=(s.pg,ap):=by rw[du.np,fh e,xR hs]
   rw[et];refine⟨⟨oM,oM⟩,s.n,s.id,s.dr,s.top,ju hs (by simp[zR]) rfl,?_⟩
   exact kp
def yBb:Kg.ok Tryz.prog 221:=ib mixed fj 1 (λ_=>[]) (λ_=>[]) [0] Tryz.func221 y5l
def zSy:∀{sl:List Slot} {at_:Int} {l:List Nat},Ow sl at_ l->eZ l 0=at_/\∀j k,l[j]? =az k->k<sl.length/\eZ l (j+1)=(sl.getD k iH).back
 |sl,at_,[],h=>⟨h.symm,λj k hk=>by simp at hk⟩
 |sl,at_,x::l,h=>by
  obtain⟨h1,h2,h3⟩:=h;have ih:=zSy h3;refine⟨h1.symm,λj k hk=> ?_⟩;cases j with
  |zero=>
   simp at hk;subst hk;exact⟨h2,by rw[<- ih.1];rfl⟩
  |succ j=>
   rw[A1]at hk;obtain⟨a,b⟩:=ih.2 j k hk;exact⟨a,by rw[<- b];rfl⟩
def yZt (i:Ll) (h:Gc.dq i):yJa i:=by
 obtain⟨hl,h⟩:i.l.length<=1000000/\(if 0<=i.n/\i.n<i.a.dz.length then Ow i.a.dv (i.a.dz.getD i.n.toNat mA).first i.l else i.l=[]):=⟨h.len,h.ch⟩
 unfold yJa Zi dI;simp only[im];have out (e:¬(0<=i.n/\i.n<(i.a.dz.length:Int))):i.l=[]:=by rw[fb e]at h;exact h
 refine zH (λc=>Cv.dq.mk (λd=> ?_) (λd=> ?_)) (λc=> ?_)
 ·have d:¬i.n<(i.a.dz.length:Int):=by simpa using d
  rw[out (by omega)];exact kp
 ·have d:i.n<(i.a.dz.length:Int):=by simpa using d
  rw[fh ⟨by omega,d⟩]at h;obtain⟨q,hq⟩:=z6 (l:=i.a.dz) (i:=i.n.toNat) oM;rw[zT hq]at h;obtain⟨n0,nx⟩:=zSy h;refine⟨⟨oM,oM⟩,q.first,ju hq (by simp[zP]) rfl,0,n0,rfl,λj=>j<=i.l.length,λj=>i.l.length-j,mz _,λj hj=>Cv.dq.mk (λe=> ?_) (λe=> ?_)⟩
  ·have e:eZ i.l j≠-1:=by simpa using e
   obtain⟨k,hk⟩:∃k,i.l[j]? =az k:=by
    cases hk:i.l[j]? with
    |none=>rw[eZ,hk]at e;exact absurd rfl e
    |some k=>exact⟨k,rfl⟩
   have El:=(jv.1 hk).1;obtain⟨qj,BN⟩:=nx j k hk;have en:eZ i.l j=k:=by rw[eZ,hk]
   obtain⟨s,hs⟩:=z6 (l:=i.a.dv) (i:=k) qj;rw[en,oF];refine⟨⟨oM,oM⟩,s.n,s.id,s.dr,s.top,ju hs (by simp[zR]) rfl,?_,⟨oM,oM⟩,s.back,ju hs (by simp[zR]) rfl,j+1,by rw[BN,zT hs],?_,El,Z9,gu⟩
   ·simp only[du.fy,im,om];omega
   ·rw[tb,hk];simp only[du.fy,Option.toList,jr,jx,CG,xR hs];rfl
  ·have e:eZ i.l j= -1:=by simpa using e
   have ov:i.l.length<=j:=by
    apply Classical.byContradiction;intro hn;obtain⟨k,hk⟩:=z6 (l:=i.l) (i:=j) oM;rw[eZ,hk]at e;simp only at e;omega
   rw[oh ov]
   exact kp
 ·rw[out (by omega)];exact kp
def yMm:Gc.ok Tryz.prog 258:=ib mixed fj 1 (λ_=>[]) (λi=>y1n i) [0] Tryz.func258 yZt
def ZO {α:Type} {l:List α} {i k:Nat} {x y:α} (h:i≠k) (hk:l[k]? =az x):(l.set i y)[k]? =az x:=by
 rw[List.getElem?_set_ne h];exact hk
def yXk (i:Cg) (h:F9.dq i):yKo i:=by
 obtain⟨hl,oS⟩:i.a.DP:=h;unfold yKo eB jB YX y8 sN cE vF YS tE Y3 dI;simp only[im];have no (e:i.a.iz i.n=aq):i.a.gl i.n i.dr=(i.a,26):=by rw[du.gl,fh e]
 refine zH (λc=> ?_) (λc=>zH (λd=> ?_) (λd=> ?_))
 ·rw[no (SL (.inl c))];exact kp
 ·rw[no (SL (.inr (by omega)))];exact kp
 obtain⟨k,hk⟩:∃k,k=i.n.toNat:=⟨_,rfl⟩
 rw[<- hk];obtain⟨s,hs⟩:=z6 (l:=i.a.dv) (i:=k) oM;have iM:i.a.dv[i.n.toNat]? =az s:=by rw[<- hk];exact hs
 have eu:=yCl (a:=i.a) (n:=i.n) oM iM;refine⟨⟨oM,oM⟩,s.used,ju hs (by simp[zR]) rfl,Cv.dq.mk (λu=> ?_) (λu=> ?_)⟩
 ·rw[no (by rw[eu];simpa using u)];exact kp
 have u:s.used=ap:=by simpa using u
 have e:¬i.a.iz i.n=aq:=by rw[eu,u];decide
 obtain⟨⟨q0,q1⟩,sq,sa,sb⟩:=oS k s hs u;have esl:i.a.fa i.n.toNat=s:=xR iM;have bad (hq:i.dr<1\/s.dr<i.dr):i.a.gl i.n i.dr=(i.a,24):=by rw[du.gl,fb e,esl,fh hq]
 refine⟨⟨oM,oM⟩,zH (λc1=>by rw[bad (.inl c1)];(repeat'(first|exact rfl|exact trivial|assumption|apply au|refineλ(_:Unit) (_:True)=>?_|refine ao () ?_|omega|(dsimp only;omega)))) (λc1=>⟨s.dr,ju hs (by simp[zR]) rfl,zH (λc2=>by rw[bad (.inr (by omega))];(repeat'(first|exact rfl|exact trivial|assumption|apply au|refineλ(_:Unit) (_:True)=>?_|refine ao () ?_|omega|(dsimp only;omega)))) (λc2=>⟨s.dr,ju hs (by simp[zR]) rfl,oM,?_⟩)⟩)⟩;obtain⟨q,hq⟩:=z6 (l:=i.a.dz) (i:=s.queue.toNat) oM;have uh:(i.a.dv.set k {s with dr:=s.dr-i.dr})[k]? =az {s with dr:=s.dr-i.dr}:=hU hs;have rm:(i.a.dz.set s.queue.toNat {q with total:=aa.wrap (q.total-i.dr)})[s.queue.toNat]? =az {q with total:=aa.wrap (q.total-i.dr)}:=hU hq;have hle:i.a.less i.n.toNat i.dr=⟨i.a.dv.set k {s with dr:=s.dr-i.dr},i.a.dz.set s.queue.toNat {q with total:=aa.wrap (q.total-i.dr)},i.a.free⟩:=by
  rw[du.less,esl,cT iM,cT hq,hk]
 have hL:(i.a.dv.set k {s with dr:=s.dr-i.dr}).length=i.a.dv.length:=qv;have hQ:(i.a.dz.set s.queue.toNat {q with total:=aa.wrap (q.total-i.dr)}).length=i.a.dz.length:=qv;have tk:i.a.gl i.n i.dr=if s.dr=i.dr then((i.a.less i.n.toNat i.dr).iL i.n.toNat,0)else(i.a.less i.n.toNat i.dr,0):=by rw[du.gl,fb e,esl,fb (by omega)]
 rw[hle,<- hk]at tk;rw[iA (x:=s.dr-i.dr) (by omega),yI hs (y:={s with dr:=s.dr-i.dr}) rfl];refine⟨s.queue,ju uh (by simp[zR]) rfl,⟨q0,q1⟩,q.total,ju hq (by simp[zP]) rfl,⟨q0,q1⟩,oM,s.dr-i.dr,ju uh (by simp[zR]) rfl,?_⟩;rw[yI hq (y:={q with total:=aa.wrap (q.total-i.dr)}) rfl];simp only[im];generalize hL1:i.a.dv.set k {s with dr:=s.dr-i.dr}=L1 at*;generalize hQ1:i.a.dz.set s.queue.toNat {q with total:=aa.wrap (q.total-i.dr)}=Q1 at*;refine Cv.dq.mk (λz=> ?_) (λz=> ?_)
 ·have z:s.dr=i.dr:=by have:s.dr-i.dr=0:=by simpa using z
                       omega
  rw[fh z]at tk;have aa4:(⟨L1,Q1,i.a.free⟩:du).fa k={s with dr:=s.dr-i.dr}:=xR uh;have eq1:Q1.getD s.queue.toNat mA={q with total:=aa.wrap (q.total-i.dr)}:=zT rm;rw[du.iL,aa4]at tk;dsimp only at tk;rw[eq1]at tk;dsimp only at tk;rw[tk];refine⟨s.queue,ju uh (by simp[zR]) rfl,⟨q0,oM⟩,s.ahead,ju uh (by simp[zR]) rfl,Cv.dq.mk (λea=> ?_) (λea=> ?_)⟩
  ·have ea:s.ahead= -1:=by simpa using ea
   refine⟨s.back,ju uh (by simp[zR]) rfl,oM,s.back,ju uh (by simp[zR]) rfl,?_⟩;rw[yI rm (y:=⟨s.back,q.last,aa.wrap (q.total-i.dr),q.count⟩) rfl];have rl:(Q1.set s.queue.toNat ⟨s.back,q.last,aa.wrap (q.total-i.dr),q.count⟩)[s.queue.toNat]? =az ⟨s.back,q.last,aa.wrap (q.total-i.dr),q.count⟩:=hU rm;simp only[im,qv];refine Cv.dq.mk (λeb=> ?_) (λeb=> ?_)
   ·have eb:s.back= -1:=by simpa using eb
    refine⟨s.ahead,ju uh (by simp[zR]) rfl,oM,q.count,?_,?_⟩
    ·rw[yI rl (y:=⟨s.back,s.ahead,aa.wrap (q.total-i.dr),q.count⟩) rfl];exact ju (hU rl) (by simp[zP]) rfl
    rw[yI rl (y:=⟨s.back,s.ahead,aa.wrap (q.total-i.dr),q.count⟩) rfl,yI (hU rl) (y:=⟨s.back,s.ahead,aa.wrap (q.total-i.dr),aa.wrap (q.count-1)⟩) rfl,yI uh (y:=iH) rfl];simp only[im,qv,Ea,fh ea,fh eb];refine⟨oM,oM,(),by(first|exact rfl|exact trivial),by(first|exact rfl|exact trivial),by(first|exact rfl|exact trivial),by(first|exact rfl|exact trivial),trivial⟩
   ·have eb:s.back≠-1:=by simpa using eb
    obtain⟨b0,b1,b2⟩:0<=s.back/\s.back<i.a.dv.length/\s.back≠k:=by omega
    obtain⟨x,hx⟩:=z6 (l:=L1) (i:=s.back.toNat) oM;refine⟨s.back,ju uh (by simp[zR]) rfl,s.ahead,ju uh (by simp[zR]) rfl,⟨b0,oM⟩,oM,q.count,ju rl (by simp[zP]) rfl,?_⟩;rw[yI hx (y:={x with ahead:=s.ahead}) rfl,yI rl (y:=⟨s.back,q.last,aa.wrap (q.total-i.dr),aa.wrap (q.count-1)⟩) rfl,yI (ZO (by omega) uh) (y:=iH) rfl];simp only[im,qv,Ea,fh ea,fb eb,cT hx];refine⟨oM,oM,(),by(first|exact rfl|exact trivial),by(first|exact rfl|exact trivial),by(first|exact rfl|exact trivial),by(first|exact rfl|exact trivial),trivial⟩
  ·have ea:s.ahead≠-1:=by simpa using ea
   obtain⟨a0,a1,a2⟩:0<=s.ahead/\s.ahead<i.a.dv.length/\s.ahead≠k:=by omega
   obtain⟨x,hx⟩:=z6 (l:=L1) (i:=s.ahead.toNat) oM;have zp:(L1.set s.ahead.toNat {x with back:=s.back})[k]? =az {s with dr:=s.dr-i.dr}:=ZO oM uh;refine⟨s.ahead,ju uh (by simp[zR]) rfl,s.back,ju uh (by simp[zR]) rfl,⟨a0,oM⟩,oM,s.back,?_,?_⟩
   ·rw[yI hx (y:={x with back:=s.back}) rfl];exact ju zp (by simp[zR]) rfl
   rw[yI hx (y:={x with back:=s.back}) rfl];simp only[im,qv];refine Cv.dq.mk (λeb=> ?_) (λeb=> ?_)
   ·have eb:s.back= -1:=by simpa using eb
    refine⟨s.ahead,ju zp (by simp[zR]) rfl,oM,q.count,?_,?_⟩
    ·rw[yI rm (y:=⟨q.first,s.ahead,aa.wrap (q.total-i.dr),q.count⟩) rfl];exact ju (hU rm) (by simp[zP]) rfl
    rw[yI rm (y:=⟨q.first,s.ahead,aa.wrap (q.total-i.dr),q.count⟩) rfl,yI (hU rm) (y:=⟨q.first,s.ahead,aa.wrap (q.total-i.dr),aa.wrap (q.count-1)⟩) rfl,yI zp (y:=iH) rfl];simp only[im,qv,Ea,fb ea,fh eb,cT hx];refine⟨oM,oM,(),by(first|exact rfl|exact trivial),by(first|exact rfl|exact trivial),by(first|exact rfl|exact trivial),by(first|exact rfl|exact trivial),trivial⟩
   ·have eb:s.back≠-1:=by simpa using eb
    obtain⟨b0,b1,b2⟩:0<=s.back/\s.back<i.a.dv.length/\s.back≠k:=by omega
    obtain⟨y,hy⟩:=z6 (l:=L1.set s.ahead.toNat {x with back:=s.back}) (i:=s.back.toNat) (by rw[qv];omega);refine⟨s.back,ju zp (by simp[zR]) rfl,s.ahead,ju zp (by simp[zR]) rfl,⟨b0,oM⟩,oM,q.count,ju rm (by simp[zP]) rfl,?_⟩;rw[yI hy (y:={y with ahead:=s.ahead}) rfl,yI rm (y:=⟨q.first,q.last,aa.wrap (q.total-i.dr),aa.wrap (q.count-1)⟩) rfl,yI (ZO (by omega) zp) (y:=iH) rfl];simp only[im,qv,Ea,fb ea,fb eb,cT hx,cT hy];refine⟨oM,oM,(),by(first|exact rfl|exact trivial),by(first|exact rfl|exact trivial),by(first|exact rfl|exact trivial),by(first|exact rfl|exact trivial),trivial⟩
 ·have z:¬s.dr=i.dr:=by have:¬s.dr-i.dr=0:=by simpa using z
                        omega
  rw[fb z]at tk;rw[tk];exact⟨(),nn trivial⟩
def yNg:F9.ok Tryz.prog 234:=ib mixed fj 1 (λ_=>[]) (λ_=>[]) [0] Tryz.func234 yXk
structure vh where
 l:List Int
 least:Int
 q:Int
def Z1 (l:List Int) (least q:Int):List Int:=l.map λk=>if least<=k*q / l.sum then k*q / l.sum else 0
def wQ:List (Int×Int)->Int->List Int
 |[],_=>[]
 |(n,x)::r,q=>(x+min (n-x) q)::wQ r (q-min (n-x) q)
def vh.p0 (i:vh):List Int:=Z1 i.l i.least i.q
def vh.p1 (i:vh):List Int:=wQ (i.l.zip i.p0) (i.q-i.p0.sum)
def jJ (i:vh):List Int:=if yZ i.l i.q=ap/\1<=i.least then i.p1 else[]
def FJ:gi:=fp vh (λi=>[iV i.l,zA i.least,zA i.q]) (λ_=>[]) (λi=>i.l.length<=1000000/\gx i.q/\gx i.least) (λ_=> .own 0) (λi=>[.own 2 1 (iE (jJ i))])
def yXp (i:vh):List gp:=[
 {ι:=Nat,dv:=λj=>[(9,.own 0),(36,zA j)],rows:=λj=>[.own 2 1 (iE (i.p0.take j++af (i.l.length-j) 0))]},
 {ι:=Nat,dv:=λj=>[(2,zA (i.q-(i.p0.take j).sum)),(58,zA j)],rows:=λ_=>[]},
 {ι:=Nat,dv:=λj=>[(9,.own 0),(2,zA (i.q-i.p0.sum+(i.p0.take j).sum-(i.p1.take j).sum)),(68,zA j)],rows:=λj=>[.own 2 1 (iE (i.p1.take j++i.p0.drop j))]}]
def cK (a:Nat) (b:vh):=(iE (ae a b.p1++am a b.p0))
def eE (a:Nat) (b:vh):Prop:=0<=(↑a:Int)/\(↑a:Int)<(↑(cK a b).length:Int)
def gW (a:Nat) (b:vh):=(ae a b.p0++af (b.l.length-a) 0)
def gV (a:Nat) (b:vh):=(iE (gW a b))
def mY (a:Nat) (b:vh):=(↑(gV a b).length:Int)
def yHo (i:vh):Prop:=
 ∃(a:BW),iE a.l=iE i.l/\a.q=i.q/\(wR a)/\∀(b:Unit),True->dq (!yZ a.l a.q) (∃(c:Unit),iE (jJ i)=[]/\True) (dq (decide (i.least<1)) (∃(c:Unit),iE (jJ i)=[]/\True) (∃(c:List Int),iE c=iE i.l/\(c.length<=1000/\∀(d:Int),d∈c->0<=d/\d<=1000000)/\∀(d:Unit),True->(0<=(↑(iE i.l).length:Int)/\(↑(iE i.l).length:Int)<=(↑(iE i.l).length:Int)/\(↑(iE i.l).length:Int)<=9223372036854775807/\(↑(8:Nat):Int)*(↑(iE i.l).length:Int)<=2 ^ (48:Nat))/\∃(e:Nat),(↑e:Int)=0/\iE (gW e i)=af (↑(iE i.l).length:Int).toNat [dI 0]/\∃(f:Nat->Prop),∃(g:Nat->Nat),f e/\∀(h:Nat),f h->dq (decide ((↑h:Int)<(↑(iE i.l).length:Int))) ((0<=(↑h:Int)/\(↑h:Int)<(↑(iE i.l).length:Int))/\∃(j:Int),zD (iE i.l) (↑h:Int).toNat 0 1=az [dI j]/\∃(k:Lf),k.a=j/\k.b=i.q/\k.c=c.sum/\(0<=k.a/\k.a<=(2000000000:Int)/\(0:Int)<=k.b/\k.b<=(2000000000:Int)/\(1:Int)<=k.c/\k.c<=2000000000)/\∀(l:Unit),True->dq (decide (k.a*k.b / k.c>=i.least)) ((0<=(↑h:Int)/\(↑h:Int)<(mY h i))/\(↑h:Int).toNat<(gV h i).length/\∃(m:Nat),(↑m:Int)=aa.wrap ((↑h:Int)+1)/\iE (gW m i)=zV (gV h i) (↑h:Int).toNat 0 [dI (k.a*k.b / k.c)]/\f m/\g m<g h/\True) (∃(m:Nat),(↑m:Int)=aa.wrap ((↑h:Int)+1)/\iE (gW m i)=iE (gW h i)/\f m/\g m<g h/\True)) (∃(j:Nat),i.q-(ae j i.p0).sum=i.q/\(↑j:Int)=0/\∃(k:Nat->Prop),∃(l:Nat->Nat),k j/\∀(m:Nat),k m->dq (decide ((↑m:Int)<(mY h i))) ((0<=(↑m:Int)/\(↑m:Int)<(mY h i))/\∃(n:Int),zD (gV h i) (↑m:Int).toNat 0 1=az [dI n]/\∃(p:Nat),i.q-(ae p i.p0).sum=aa.wrap (i.q-(ae m i.p0).sum-n)/\(↑p:Int)=aa.wrap ((↑m:Int)+1)/\k p/\l p<l m/\dj (aw 2 1 (gV h i))) (∃(n:Nat),i.q-i.p0.sum+(ae n i.p0).sum-(ae n i.p1).sum=i.q-(ae m i.p0).sum/\(↑n:Int)=0/\iE (ae n i.p1++am n i.p0)=iE (gW h i)/\∃(p:Nat->Prop),∃(q:Nat->Nat),p n/\∀(r:Nat),p r->dq (decide ((↑r:Int)<(mY h i))) ((0<=(↑r:Int)/\(↑r:Int)<(↑(iE i.l).length:Int))/\∃(s:Int),zD (iE i.l) (↑r:Int).toNat 0 1=az [dI s]/\(eE r i)/\∃(t:Int),zD (cK r i) (↑r:Int).toNat 0 1=az [dI t]/\(eE r i)/\∃(u:Int),zD (cK r i) (↑r:Int).toNat 0 1=az [dI u]/\(eE r i)/\(↑r:Int).toNat<(cK r i).length/\∃(v:Nat),i.q-i.p0.sum+(ae v i.p0).sum-(ae v i.p1).sum=aa.wrap (i.q-i.p0.sum+(ae r i.p0).sum-(ae r i.p1).sum-min (aa.wrap (s-t)) (i.q-i.p0.sum+(ae r i.p0).sum-(ae r i.p1).sum))/\(↑v:Int)=aa.wrap ((↑r:Int)+1)/\iE (ae v i.p1++am v i.p0)=zV (cK r i) (↑r:Int).toNat 0 [dI (aa.wrap (u+min (aa.wrap (s-t)) (i.q-i.p0.sum+(ae r i.p0).sum-(ae r i.p1).sum)))]/\p v/\q v<q r/\True) (∃(s:Unit),iE (jJ i)=iE (ae r i.p1++am r i.p0)/\True)))))
def YZ:∀(z:List (Int×Int)) (q:Int),(wQ z q).length=z.length
 |[],_=>rfl
 |(n,x)::z,q=>by rw[wQ,iJ,iJ,YZ z]
def zQx:∀(z:List (Int×Int)) (q:Int) (j:Nat) (n x:Int),z[j]? =az (n,x)->(wQ z q)[j]? =az (x+min (n-x) (q+((z.map (·.2)).take j).sum-((wQ z q).take j).sum))
 |[],_,_,_,_,h=>by simp at h
 |(m,y)::z,q,0,n,x,h=>by simp at h;obtain⟨rfl,rfl⟩:=h;simp[wQ]
 |(m,y)::z,q,j+1,n,x,h=>by
  rw[A1]at h;rw[wQ,A1,zQx z _ j n x h,vo,ra,jx,vo,ra];congr 3;dsimp only;omega
def zLi:∀(z:List (Int×Int)) (q:Int) (j:Nat),0<=q->(∀y∈z,y.2<=y.1)->0<=q+((z.map (·.2)).take j).sum-((wQ z q).take j).sum/\q+((z.map (·.2)).take j).sum-((wQ z q).take j).sum<=q
 |[],q,j,h,_=>by simp[wQ,h]
 |(m,y)::z,q,0,h,_=>by simp[h]
 |(m,y)::z,q,j+1,h,hb=>by
  have hm:=hb (m,y) jm;have:=zLi z (q-min (m-y) q) j (by dsimp only at hm;omega) (λx hx=>hb x (kg _ hx));rw[wQ,vo,ra,jx,vo,ra];dsimp only at hm ⊢;omega
def yHy {k q S:Int} (hk:0<=k) (hq:0<=q) (hS:1<=S) (hqS:q<=S):0<=k*q / S/\k*q / S<=k:=by
 refine⟨Int.ediv_nonneg (MV hk hq) oM,?_⟩;have:k*q<=k*S:=UO hqS hk;exact Int.ediv_le_of_le_mul oM this
def zSz {q S least:Int} (hq:0<=q) (hS:1<=S):∀(l:List Int),(∀x∈l,0<=x)->S*(l.map λk=>if least<=k*q / S then k*q / S else 0).sum<=q*l.sum
 |[],_=>by simp
 |k::l,h=>by
  have ih:=zSz (least:=least) hq hS l (λx hx=>h x (kg _ hx));have hk:=h k jm;rw[jx,ra,ra,Int.mul_add,Int.mul_add];have h1:S*(k*q / S)<=k*q:=by
   have:=Int.mul_ediv_add_emod (k*q) S;have:=MY (k*q) (show S≠0 by omega);omega
  have h2:0<=k*q:=MV hk hq;have h3:S*(if least<=k*q / S then k*q / S else 0)<=q*k:=by
   rw[EH q k];split
   ·exact h1
   ·simpa using h2
  omega
def yGx {i:vh} {j:Nat} {n:Int} (h:i.l[j]? =az n):i.p0[j]? =az (if i.least<=n*i.q / i.l.sum then n*i.q / i.l.sum else 0):=by
 rw[vh.p0,Z1,vc,h];rfl
def Z2 (i:vh):i.p0.length=i.l.length:=by simp[vh.p0,Z1]
def yAl {l:List Int} {j m:Nat} {n:Int} (hl:l.length=m) (h:l[j]? =az n):(l.take j++af (m-j) 0).set j n=l.take (j+1)++af (m-(j+1)) 0:=by
 have hj:=(jv.1 h).1;rw[List.set_append_right _ _ (by rw[om];omega),om,show j-min j l.length=0 by omega,show m-j=(m-(j+1))+1 by omega,KU,OP,tb,h];simp
def yKq {l:List Int} {j m:Nat} (hl:l.length=m) (hj:j<m):(l.take j++af (m-j) 0)[j]? =az 0:=by
 rw[B7 (by rw[om];omega),om,show j-min j l.length=0 by omega,show m-j=(m-(j+1))+1 by omega,KU];rfl
def yJe {α:Type} {l:List α} {j:Nat} {x:α} (h:l[j]? =az x):l.set j x=l:=by
 obtain⟨h1,h2⟩:=jv.1 h;rw[<- h2];exact List.set_getElem_self h1
def y0t {a b:List Int} {j:Nat} {x:Int} (ha:a.length=b.length) (h:b[j]? =az x):(a.take j++b.drop j)[j]? =az x:=by
 have hj:=(jv.1 h).1;rw[B7 (by rw[om];omega),om,show j-min j a.length=0 by omega,AZ];exact h
def yQc {a b:List Int} {j:Nat} {y:Int} (ha:a.length=b.length) (h:a[j]? =az y):(a.take j++b.drop j).set j y=a.take (j+1)++b.drop (j+1):=by
 have hj:=(jv.1 h).1;rw[List.set_append_right _ _ (by rw[om];omega),om,show j-min j a.length=0 by omega,DC (by omega),OP,tb,h];simp
def Sl {l:List Int} {j:Nat} {x y:Int} (h:l[j]? =az x):zV (iE l) j 0 [D.v (.int .i64 y)]=iE (l.set j y):=yI (f:=λn:Int=>[D.v (.int .i64 n)]) h rfl
def S9 {i:vh} (h:yZ i.l i.q=ap) (ji:0<i.l.length):1<=i.l.sum/\i.l.sum<=250000000/\(∀(j:Nat) (n x:Int),i.l[j]? =az n->i.p0[j]? =az x->0<=x/\x<=n)/\i.p0.sum<=i.q:=by
 obtain⟨h1,h2,h3,h4⟩:=jN h;have hb:=j6 (l:=i.l) (λx hx=>by have:=h3 x hx;omega) i.l.length;rw[BJ]at hb;have hS:1<=i.l.sum:=by
  obtain⟨x,hx⟩:=z6 (l:=i.l) (i:=0) ji;have:=h3 x (lq hx);cases hl:i.l with
  |nil=>rw[hl]at ji;exact absurd ji (Nat.lt_irrefl 0)
  |cons a r=>
   rw[hl]at hx;simp at hx;subst hx;have hr:=j6 (l:=r) (λy hy=>by have:=h3 y (by rw[hl];exact kg _ hy);omega) r.length;rw[BJ]at hr;rw[ra];omega
 refine⟨hS,oM,λj n x hn hx=> ?_,?_⟩
 ·have Cb:=h3 n (lq hn);have:=yHy (k:=n) oM h2 hS h4;rw[yGx hn]at hx;cases hx;split<;>omega
 ·have:=zSz (least:=i.least) h2 hS i.l (λx hx=>by have:=h3 x hx;omega);have e:i.l.sum*i.p0.sum<=i.l.sum*i.q:=by rw[EH i.l.sum i.q];exact this
  exact Int.le_of_mul_le_mul_left e oM
def yZa (i:vh) (h:FJ.dq i):yHo i:=by
 obtain⟨hl,hq,hle⟩:i.l.length<=1000000/\gx i.q/\gx i.least:=h;unfold yHo mY gV gW eE cK wR dI;refine⟨⟨i.l,i.q⟩,rfl,rfl,⟨hl,hq⟩,λ_ _=>Cv.dq.mk (λc=> ?_) (λc=>zH (λd=> ?_) (λd=> ?_))⟩
 ·have c:yZ i.l i.q=aq:=by simpa using c
  refine⟨(),?_,trivial⟩;rw[jJ,fb (by rw[c];simp)];rfl
 ·refine⟨(),?_,trivial⟩;rw[jJ,fb (by omega)];rfl
 have c:yZ i.l i.q=ap:=by simpa using c
 have eS:jJ i=i.p1:=by rw[jJ,fh ⟨c,by omega⟩]
 obtain⟨h1,h2,h3,h4⟩:=jN c;have rl:=SE c;have Nt:=Z2 i;have CO:(i.l.zip i.p0).length=i.l.length:=by rw[List.length_zip,Nt];simp
 have Ve:i.p1.length=i.l.length:=by rw[vh.p1,YZ,CO]
 have hz2:(i.l.zip i.p0).map (·.2)=i.p0:=by rw[List.map_snd_zip];omega
 have h64:i.l.length<=250:=h1;have DH:∀j,j<=i.l.length->(ae j i.p0++af (i.l.length-j) 0).length=i.l.length:=by
  intro j hj;rw[iv,om,GH];omega
 simp only[y4];refine⟨i.l,rfl,⟨oM,λx hx=>by have:=h3 x hx;omega⟩,λ_ _=>⟨⟨oM,oM,oM,oM⟩,0,by(first|exact rfl|exact trivial),?_,λj=>j<=i.l.length,λj=>i.l.length-j,mz _,λj hj=>zH (λe=> ?_) (λe=> ?_)⟩⟩
 ·simp[iE]
 ·have ov:j<i.l.length:=by omega
  obtain⟨n,hn⟩:=z6 (l:=i.l) (i:=j) ov;have bn:=h3 n (lq hn);obtain⟨f1,f2,f3,f4⟩:=S9 c oM;have g:=yGx hn;refine⟨⟨oM,oM⟩,n,rk hn,⟨n,i.q,i.l.sum⟩,rfl,rfl,rfl,⟨Z9,Z9,Z9,Z9,Z9,Z9⟩,λ_ _=>zH (λa=> ?_) (λa=> ?_)⟩
  ·have a:n*i.q / i.l.sum>=i.least:=a;rw[fh (by omega)]at g;refine⟨⟨oM,by rw[DH j (by omega)];omega⟩,by rw[DH j (by omega)];omega,j+1,rf oM,?_,ov,Z9,trivial⟩;rw[oF,Sl (yKq Nt ov),yAl Nt g]
  ·have a:¬n*i.q / i.l.sum>=i.least:=a;rw[fb (by omega)]at g;refine⟨j+1,rf oM,?_,ov,Z9,trivial⟩;rw[<- yAl Nt g,yJe (yKq Nt ov)]
 have E7:j=i.l.length:=by omega
 subst E7;have eP:ae i.l.length i.p0++af (i.l.length-i.l.length) 0=i.p0:=by rw[oh (by omega)];simp
 rw[eP,Nt];have px:∀(k:Nat) (n x:Int),i.l[k]? =az n->i.p0[k]? =az x->0<=x/\x<=n:=λk n x hn hx=>(S9 c (by have:=(jv.1 hn).1;omega)).2.2.1 k n x hn hx
 have pb:∀x∈i.p0,0<=x/\x<=1000000:=by
  intro x hx;obtain⟨k,hk⟩:=B6.1 hx;obtain⟨n,hn⟩:=z6 (l:=i.l) (i:=k) (by have:=(jv.1 hk).1;omega);have:=px k n x hn hk;have:=h3 n (lq hn);omega
 have pq:i.p0.sum<=i.q:=by
  by_cases hz:0<i.l.length
  ·exact(S9 c hz).2.2.2
  ·have:i.p0=[]:=yh oM;rw[this];simpa using h2
 refine⟨0,by simp,by(first|exact rfl|exact trivial),λk=>k<=i.l.length,λk=>i.l.length-k,mz _,λk hk=>zH (λe=> ?_) (λe=> ?_)⟩
 ·have rh:k<i.l.length:=by omega
  obtain⟨x,hx⟩:=z6 (l:=i.p0) (i:=k) oM;have bx:=pb x (lq hx);have bs:=j6 pb k;refine⟨⟨oM,oM⟩,x,rk hx,k+1,?_,rf oM,rh,Z9,gu⟩;rw[j8 hx,iA (by omega)];omega
 have BO:k=i.l.length:=by omega
 subst BO;rw[oh (l:=i.p0) (by omega)];refine⟨0,by simp,by(first|exact rfl|exact trivial),by simp,λj=>j<=i.l.length,λj=>i.l.length-j,mz _,λj hj=>zH (λe=> ?_) (λe=> ?_)⟩
 ·have ov:j<i.l.length:=by omega
  obtain⟨n,hn⟩:=z6 (l:=i.l) (i:=j) ov;obtain⟨x,hx⟩:=z6 (l:=i.p0) (i:=j) oM;have bn:=h3 n (lq hn);have bx:=px j n x hn hx;have hz:(i.l.zip i.p0)[j]? =az (n,x):=by rw[OX];exact⟨hn,hx⟩
  have g:=zQx (i.l.zip i.p0) (i.q-i.p0.sum) j n x hz;have r:=zLi (i.l.zip i.p0) (i.q-i.p0.sum) j oM (λy hy=>by
   obtain⟨k,hk⟩:=B6.1 hy;rw[OX]at hk;exact(px k y.1 y.2 hk.1 hk.2).2)
  rw[hz2]at g r;have b0:=j6 pb i.p0.length;rw[BJ]at b0;have Aj:(ae j i.p1++am j i.p0).length=i.l.length:=by rw[iv,om,pd];omega
  have hma:=y0t (a:=i.p1) (b:=i.p0) oM hx;change i.p1[j]? =_ at g;change 0<=_-(ae j i.p1).sum/\_-(ae j i.p1).sum<=_ at r;change i.p1[j]? =az (x+min (n-x) (_-(ae j i.p1).sum))at g;rw[Aj];refine⟨⟨oM,oM⟩,n,rk hn,⟨oM,oM⟩,x,rk hma,⟨oM,oM⟩,x,rk hma,⟨oM,oM⟩,oM,?_⟩;rw[iA (x:=n-x) (by omega),iA (x:=x+min (n-x) (i.q-i.p0.sum+(ae j i.p0).sum-(ae j i.p1).sum)) (by omega)];refine⟨j+1,?_,rf oM,?_,ov,Z9,trivial⟩
  ·rw[j8 hx,j8 g,iA (by omega)];omega
  ·rw[oF,Sl hma,yQc (by omega) g]
 ·have E7:j=i.l.length:=by omega
  subst E7;refine⟨(),?_,trivial⟩;rw[eS,oh (by omega),Hz (by omega),oU]
def yNu:FJ.ok Tryz.prog 264:=ib mixed (dx Tn (dx ySa (dx zTz fj))) 0 (λ_=>[]) (λi=>yXp i) [] Tryz.func264 yZa
structure py where
 l:List Int
 out:List Int
 least:Int
 q:Int
def py.idx (i:py) (k:Nat):List Nat:=(ak k).filter λn=>decide (i.out.getD n 0<i.l.getD n 0)
def py.left (i:py) (k:Nat):List Int:=(i.idx k).map λn=>i.l.getD n 0-i.out.getD n 0
def py.pl (i:py):List Int:=jJ ⟨i.left i.l.length,i.least,i.q⟩
def py.add (i:py) (k:Nat):List Int:=(((i.idx i.l.length).zip i.pl).take k).foldl (λo y=>o.set y.1 (aa.wrap (o.getD y.1 0+y.2))) i.out
def pQ (i:py):List Int:=i.add i.pl.length
@[reducible] def py.ok (i:py):Prop:=i.l.length<=250/\i.out.length=i.l.length/\gx i.q/\gx i.least/\∀n,0<=i.out.getD n 0/\i.out.getD n 0<=i.l.getD n 0/\i.l.getD n 0<=1000000
def JK:gi:=fp py (λi=>[iV i.l,.own 0,zA i.least,zA i.q]) (λi=>[.own 2 1 (iE i.out)]) py.ok (λ_=> .own 1) (λi=>[.gone,.own 2 1 (iE (pQ i))])
def y5q (i:py):List gp:=[
 {ι:=Nat,dv:=λj=>[(9,.own 0),(10,.own 1),(16,zA j)],rows:=λj=>[.own 2 1 (iE (i.left j)),.own 3 1 (iE ((i.idx j).map λ(n:Nat)=>(n:Int)))]},
 {ι:=Nat,dv:=λk=>[(1,.own 0),(50,zA k)],rows:=λk=>[.own 2 1 (iE (i.add k))]}]
structure zI where
 id:Int
 side:Int
 dk:Int
 dr:Int
 top:Bool
 deriving DecidableEq
def vI (o:zI):List D:=[.v (.int .i64 o.id),.v (.int .i64 o.side),.v (.int .i64 o.dk),.v (.int .i64 o.dr),.v (.bool o.top)]
@[reducible] def MQ (o:zI):V:= .agg [zA o.id,zA o.side,zA o.dk,zA o.dr,yN o.top]
def Rj:gi:=fp zI (λo=>[MQ o]) (λ_=>[]) (λ_=>True) (λo=>yN o.top) (λ_=>[])
def iZ (l:List zI):Int:=IK (l.findIdx? λo=>o.top)
def Ds:gi:=fp (List zI) (λl=>[oD 5 (l.map vI),.fn 250 [] []]) (λ_=>[]) (λl=>l.length<=1000000) (λl=>zA (iZ l)) (λ_=>[])
def yRc (l:List zI):List gp:=[{ι:=Nat,dv:=λj=>[(8,zA j)],rows:=λ_=>[]}]
def yVe (i:py):Prop:=
 ∃(a:Nat),(↑a:Int)=0/\iE (i.left a)=[]/\iE (ac (λ(n:Nat) ↦ (↑n:Int)) (i.idx a))=[]/\∃(b:Nat->Prop),∃(c:Nat->Nat),b a/\∀(d:Nat),b d->dq (decide ((↑d:Int)<(↑(iE i.l).length:Int))) ((0<=(↑d:Int)/\(↑d:Int)<(↑(iE i.l).length:Int))/\∃(e:Int),zD (iE i.l) (↑d:Int).toNat 0 1=az [dI e]/\(0<=(↑d:Int)/\(↑d:Int)<(↑(iE i.out).length:Int))/\∃(f:Int),zD (iE i.out) (↑d:Int).toNat 0 1=az [dI f]/\dq (decide (e>f)) ((0<=(↑d:Int)/\(↑d:Int)<(↑(iE i.l).length:Int))/\∃(g:Int),zD (iE i.l) (↑d:Int).toNat 0 1=az [dI g]/\(0<=(↑d:Int)/\(↑d:Int)<(↑(iE i.out).length:Int))/\∃(h:Int),zD (iE i.out) (↑d:Int).toNat 0 1=az [dI h]/\((iE (i.left d)).length+1)*(8:Nat)<=(140737488355328:Nat)/\((iE (ac (λ(g:Nat) ↦ (↑g:Int)) (i.idx d))).length+1)*(8:Nat)<=(140737488355328:Nat)/\∃(j:Nat),(↑j:Int)=aa.wrap ((↑d:Int)+1)/\iE (i.left j)=iE (i.left d)++[[dI (aa.wrap (g-h))]]/\iE (ac (λ(g:Nat) ↦ (↑g:Int)) (i.idx j))=iE (ac (λ(g:Nat) ↦ (↑g:Int)) (i.idx d))++[[dI (↑d:Int)]]/\b j/\c j<c d/\dj (aw 2 1 (iE i.out))) (∃(g:Nat),(↑g:Int)=aa.wrap ((↑d:Int)+1)/\iE (i.left g)=iE (i.left d)/\iE (ac (λ(e:Nat) ↦ (↑e:Int)) (i.idx g))=iE (ac (λ(e:Nat) ↦ (↑e:Int)) (i.idx d))/\b g/\c g<c d/\dj (aw 2 1 (iE i.out)))) (∃(e:vh),iE e.l=iE (i.left d)/\e.least=i.least/\e.q=i.q/\(e.l.length<=1000000/\((-9223372036854775808)<=e.q/\e.q<=9223372036854775807)/\(-9223372036854775808)<=e.least/\e.least<=9223372036854775807)/\∀(f:Unit),True->∃(g:Nat),(↑g:Int)=0/\iE (i.add g)=iE i.out/\∃(h:Nat->Prop),∃(j:Nat->Nat),h g/\∀(k:Nat),h k->dq (decide ((↑k:Int)<(↑(iE (jJ e)).length:Int))) ((0<=(↑k:Int)/\(↑k:Int)<(↑(iE (jJ e)).length:Int))/\∃(l:Int),zD (iE (jJ e)) (↑k:Int).toNat 0 1=az [dI l]/\(0<=(↑k:Int)/\(↑k:Int)<(↑(iE (ac (λ(l:Nat) ↦ (↑l:Int)) (i.idx d))).length:Int))/\∃(m:Int),zD (iE (ac (λ(l:Nat) ↦ (↑l:Int)) (i.idx d))) (↑k:Int).toNat 0 1=az [dI m]/\(0<=m/\m<(↑(iE (i.add k)).length:Int))/\∃(n:Int),zD (iE (i.add k)) m.toNat 0 1=az [dI n]/\(0<=m/\m<(↑(iE (i.add k)).length:Int))/\m.toNat<(iE (i.add k)).length/\∃(p:Nat),(↑p:Int)=aa.wrap ((↑k:Int)+1)/\iE (i.add p)=zV (iE (i.add k)) m.toNat 0 [dI (aa.wrap (n+l))]/\h p/\j p<j k/\dj (aw 2 1 (iE (jJ e)))/\dj (ax 1 (iE (i.left d)))/\dj (aw 3 1 (iE (ac (λ(l:Nat) ↦ (↑l:Int)) (i.idx d))))) (∃(l:Unit),iE (pQ i)=iE (i.add k)/\True))
def yUz (o:zI):Prop:=
 ∃(a:Unit),dj o.top/\True
def yCv (l:List zI):Prop:=
 ∃(a:Nat),(↑a:Int)=0/\∃(b:Nat->Prop),∃(c:Nat->Nat),b a/\∀(d:Nat),b d->dq (decide ((↑d:Int)<(↑(ac vI l).length:Int))) ((0<=(↑d:Int)/\(↑d:Int)<(↑(ac vI l).length:Int))/\∃(e:Int),∃(f:Int),∃(g:Int),∃(h:Int),∃(j:Bool),zD (ac vI l) (↑d:Int).toNat 0 5=az [dI e,dI f,dI g,dI h,D.v (.bool j)]/\∃(k:zI),k.id=e/\k.side=f/\k.dk=g/\k.dr=h/\k.top=j/\True/\∀(m:Unit),True->dq k.top (∃(n:Unit),iZ l=(↑d:Int)/\True) (uK d b c)) (∃(e:Unit),iZ l=(-1)/\True)
def yOx:Rj.ok Tryz.prog 250:=ib (V:=yUz) mixed fj 0 (λ_=>[]) (λ_=>[]) [] Tryz.func250 λ(o:zI) _=>by
 unfold yUz;exact⟨(),rfl,trivial⟩
def z7f (i:vh):(jJ i).length=i.l.length\/jJ i=[]:=by
 rw[jJ];split
 ·left;rw[vh.p1,YZ,List.length_zip,Z2];simp
 ·exact .inr rfl
def y1r {l:List zI} {k:Nat} {o:zI} (h:l[k]? =az o):zD (l.map vI) k 0 5=az [D.v (.int .i64 o.id),.v (.int .i64 o.side),.v (.int .i64 o.dk),.v (.int .i64 o.dr),.v (.bool o.top)]:=ju h (by simp[vI]) rfl
def yPa (l:List zI) (h:Ds.dq l):yCv l:=by
 have h:l.length<=1000000:=h;unfold yCv uK kD dI;simp only[im];refine⟨0,rfl,λj=>j<=l.length/\∀k<j,∀x,l[k]? =az x->x.top=aq,λj=>l.length-j,⟨oM,λk hk=>by omega⟩,?_⟩;rintro j ⟨h3,h4⟩;refine zH (λhj=> ?_) (λhj=> ?_)
 ·obtain⟨s,hs⟩:=z6 (l:=l) (i:=j) oM;refine⟨⟨oM,oM⟩,s.id,s.side,s.dk,s.dr,s.top,y1r hs,s,nn ⟨rfl,trivial,λ_ _=>Cv.dq.mk (λe=> ?_) (λe=> ?_)⟩⟩
  ·rw[iZ,XE hs e h4];exact kp
  ·refine⟨j+1,by rw[iA (by omega)];rfl,⟨oM,λk hk x hx=> ?_⟩,by(first|omega|(dsimp only;omega)),gu⟩;rcases ur k j with rh|rh
   ·exact h4 k rh x hx
   ·obtain rfl:k=j:=by omega
    rw[hs]at hx;cases hx;exact e
 ·rw[iZ,XT λk x hx=>h4 k (by have:=(jv.1 hx).1;omega) x hx];exact kp
def yGd:Ds.ok Tryz.prog 249:=ib mixed (dx yOx fj) 0 (λ_=>[]) (λl=>yRc l) [] Tryz.func249 yPa
def yJb (i:py) (j:Nat):i.idx (j+1)=i.idx j++if i.out.getD j 0<i.l.getD j 0 then[j]else[]:=by
 rw[py.idx,I5,Hy];by_cases h:i.out.getD j 0<i.l.getD j 0
 ·rw[fh h,OW (by simpa using h)];rfl
 ·rw[fb h,OV (by simpa using h)];rfl
def yXt (i:py) {k n:Nat} (h:n∈i.idx k):n<k:=by
 have:=(uu.1 h).1;exact B5.1 this
def yCh (i:py) (k:Nat):(i.idx k).length<=k:=by
 have:=GG (λn=>decide (i.out.getD n 0<i.l.getD n 0)) (ak k);rw[List.length_range]at this;exact this
def z1x:∀(z:List (Nat×Int)) (o:List Int),(z.foldl (λo y=>o.set y.1 (aa.wrap (o.getD y.1 0+y.2))) o).length=o.length
 |[],_=>rfl
 |y::z,o=>by rw[EL,z1x z,qv]
def y6h (i:py) (h:JK.dq i):yVe i:=by
 obtain⟨hl,ho,hq,hle,hb⟩:i.ok:=h;unfold yVe dI;simp only[y4,im];have hil:∀j,(i.left j).length=(i.idx j).length:=λj=>im _
 refine⟨0,by(first|exact rfl|exact trivial),by(first|exact rfl|exact trivial),by(first|exact rfl|exact trivial),λj=>j<=i.l.length,λj=>i.l.length-j,mz _,λj hj=>zH (λc=> ?_) (λc=> ?_)⟩
 ·have ov:j<i.l.length:=by omega
  obtain⟨n,hn⟩:=z6 (l:=i.l) (i:=j) ov;obtain⟨o,GP⟩:=z6 (l:=i.out) (i:=j) oM;have bj:=hb j;rw[zT hn,zT GP]at bj;have is:=yJb i j;rw[zT hn,zT GP]at is;have il:=yCh i j;refine⟨⟨oM,oM⟩,n,rk hn,⟨oM,oM⟩,o,rk GP,zH (λa=> ?_) (λa=> ?_)⟩
  ·rw[fh (by omega)]at is;refine⟨⟨oM,oM⟩,n,rk hn,⟨oM,oM⟩,o,rk GP,by rw[hil];omega,oM,j+1,rf oM,?_,?_,ov,Z9,gu⟩
   ·rw[iA (by omega),py.left,is,jr];simp[iE,py.left,hn,GP]
   ·rw[is];simp[iE]
  ·rw[fb (by omega),oU]at is;exact⟨j+1,rf oM,by rw[py.left,is];rfl,by rw[is],ov,Z9,gu⟩
 have E7:j=i.l.length:=by omega
 subst E7;have il:=yCh i i.l.length;refine⟨⟨i.left i.l.length,i.least,i.q⟩,rfl,rfl,rfl,⟨by dsimp only;rw[hil];omega,hq,hle⟩,λ_ _=> ?_⟩;have epl:jJ ⟨i.left i.l.length,i.least,i.q⟩=i.pl:=rfl;rw[epl];have yx:i.pl.length<=(i.idx i.l.length).length:=by
  rcases z7f ⟨i.left i.l.length,i.least,i.q⟩with e|e
  ·rw[epl]at e;rw[e];dsimp only;rw[hil];exact lk _
  ·rw[epl]at e;rw[e];exact mz _
 have BR:∀k,(i.add k).length=i.out.length:=λk=>z1x _ _
 refine⟨0,by(first|exact rfl|exact trivial),by(first|exact rfl|exact trivial),λk=>k<=i.pl.length,λk=>i.pl.length-k,mz _,λk hk=>zH (λc=> ?_) (λc=> ?_)⟩
 ·have rh:k<i.pl.length:=by omega
  obtain⟨x,hx⟩:=z6 (l:=i.pl) (i:=k) rh;obtain⟨n,hn⟩:=z6 (l:=i.idx i.l.length) (i:=k) oM;have Pq:=yXt i (lq hn);obtain⟨y,hy⟩:=z6 (l:=i.add k) (i:=n) (by rw[BR];omega);have ea:i.add (k+1)=(i.add k).set n (aa.wrap (y+x)):=by
   have hz:((i.idx i.l.length).zip i.pl)[k]? =az (n,x):=by rw[OX];exact⟨hn,hx⟩
   have ey:(i.add k).getD n 0=y:=zT hy;rw[py.add,tb,hz,I7];show(i.add k).set n (aa.wrap ((i.add k).getD n 0+x))=_;rw[ey]
  have hnm:((i.idx i.l.length).map λ(n:Nat)=>(n:Int))[k]? =az (n:Int):=by rw[vc,hn];rfl
  rw[BR];refine⟨⟨oM,oM⟩,x,rk hx,⟨oM,oM⟩,n,rk hnm,⟨oM,oM⟩,y,rk hy,⟨oM,oM⟩,oM,k+1,rf oM,?_,rh,Z9,gu⟩;rw[ea,oF,Sl hy]
 ·have BO:k=i.pl.length:=by omega
  subst BO;exact⟨(),rfl,trivial⟩
def yCb:JK.ok Tryz.prog 260:=ib mixed (dx yNu fj) 0 (λ_=>[]) (λi=>y5q i) [] Tryz.func260 y6h
structure u' where
 l:List Int
 top:Int
 most:Int
 least:Int
 q:Int
def u'.first (i:u'):Int:=min (min (i.l.getD i.top.toNat 0) i.most) i.q
def u'.rs (i:u'):py:=if 0<=i.top/\i.top<i.l.length then⟨i.l,(af i.l.length 0).set i.top.toNat i.first,i.least,i.q-i.first⟩else⟨i.l,af i.l.length 0,i.least,i.q⟩
def CE (i:u'):List Int:=if yZ i.l i.q=ap/\1<=i.least/\0<=i.most then pQ i.rs else[]
def Qf:gi:=fp u' (λi=>[iV i.l,zA i.top,zA i.most,zA i.least,zA i.q]) (λ_=>[]) (λi=>i.l.length<=1000000/\gx i.q/\gx i.least/\gx i.most) (λ_=> .own 0) (λi=>[.own 2 1 (iE (CE i))])
structure Jw where
 l:List Int
 part:Int
 least:Int
 q:Int
def Jw.rs (i:Jw):py:=⟨i.l,gM i.l (i.q*i.part / 100),i.least,i.q-i.q*i.part / 100⟩
def B4 (i:Jw):List Int:=if yZ i.l i.q=ap/\0<=i.part/\i.part<=100/\1<=i.least then pQ i.rs else[]
def Qb:gi:=fp Jw (λi=>[iV i.l,zA i.part,zA i.least,zA i.q]) (λ_=>[]) (λi=>i.l.length<=1000000/\gx i.q/\gx i.least/\gx i.part) (λ_=> .own 0) (λi=>[.own 2 1 (iE (B4 i))])
def S' (a:py):Prop:=a.l.length<=250/\a.out.length=a.l.length/\((-9223372036854775808)<=a.q/\a.q<=9223372036854775807)/\((-9223372036854775808)<=a.least/\a.least<=9223372036854775807)/\∀(b:Nat),0<=a.out.getD b 0/\a.out.getD b 0<=a.l.getD b 0/\a.l.getD b (0:Int)<=(1000000:Int)
def Wy (a:py) (b:u'):Prop:=(S' a)/\∀(c:Unit),True->∃(d:Unit),iE (CE b)=iE (pQ a)/\True
def W6 (a:u'):Prop:=∃(b:py),iE b.l=iE a.l/\b.least=a.least/\b.q=a.q/\iE b.out=af (↑(iE a.l).length:Int).toNat [dI 0]/\Wy b a
def lX (a:u'):=(af (↑(iE a.l).length:Int).toNat [dI 0])
def Xl (a:u') (b:Int):=(zV (lX a) a.top.toNat 0 [dI (min (min b a.most) a.q)])
def y4o (i:u'):Prop:=
 ∃(a:BW),iE a.l=iE i.l/\a.q=i.q/\(wR a)/\∀(b:Unit),True->dq (!yZ a.l a.q) (∃(c:Unit),iE (CE i)=[]/\True) (dq (decide (i.least<1)) (∃(c:Unit),iE (CE i)=[]/\True) (dq (decide (i.most<0)) (∃(c:Unit),iE (CE i)=[]/\True) ((0<=(↑(iE i.l).length:Int)/\(↑(iE i.l).length:Int)<=(↑(iE i.l).length:Int)/\(↑(iE i.l).length:Int)<=9223372036854775807/\(↑(8:Nat):Int)*(↑(iE i.l).length:Int)<=2 ^ (48:Nat))/\dq (decide (i.top>=0)) (dq (decide (i.top<(↑(iE i.l).length:Int))) ((0<=i.top/\i.top<(↑(iE i.l).length:Int))/\∃(c:Int),zD (iE i.l) i.top.toNat 0 1=az [dI c]/\(0<=i.top/\i.top<(↑(lX i).length:Int))/\i.top.toNat<(lX i).length/\(0<=i.top/\i.top<(↑(Xl i c).length:Int))/\∃(d:Int),zD (Xl i c) i.top.toNat 0 1=az [dI d]/\∃(e:py),iE e.l=iE i.l/\e.least=i.least/\e.q=aa.wrap (i.q-d)/\iE e.out=zV (lX i) i.top.toNat 0 [dI (min (min c i.most) i.q)]/\Wy e i) (W6 i)) (W6 i))))
def y5y (i:Jw):Prop:=
 ∃(a:BW),iE a.l=iE i.l/\a.q=i.q/\(wR a)/\∀(b:Unit),True->dq (!yZ a.l a.q) (∃(c:Unit),iE (B4 i)=[]/\True) (dq (decide (i.part<0)) (∃(c:Unit),iE (B4 i)=[]/\True) (dq (decide (i.part>100)) (∃(c:Unit),iE (B4 i)=[]/\True) (dq (decide (i.least<1)) (∃(c:Unit),iE (B4 i)=[]/\True) (∃(c:Lf),c.a=i.q/\c.b=i.part/\c.c=100/\(0<=c.a/\c.a<=(2000000000:Int)/\(0:Int)<=c.b/\c.b<=(2000000000:Int)/\(1:Int)<=c.c/\c.c<=2000000000)/\∀(d:Unit),True->∃(e:BW),iE e.l=iE i.l/\e.q=c.a*c.b / c.c/\(wR e)/\∀(f:Unit),True->∃(g:py),iE g.l=iE i.l/\g.least=i.least/\g.q=aa.wrap (i.q-c.a*c.b / c.c)/\iE g.out=iE (gM e.l e.q)/\(S' g)/\∀(h:Unit),True->∃(j:Unit),iE (B4 i)=iE (pQ g)/\True))))
end Sx
