/- Texts of ours. No condition. -/
import Derived.Laws.Externs
import Derived.Test.YtgmmlhddihaocaaGreatC6
set_option linter.all false
open Go.IntKind renaming i64->aa,u64->ab
open List renaming map->ac,take->ae,replicate->af,headD_cons->ag,tail_cons->aj,range->ak,drop->am
open Exists renaming intro->ao
open Bool renaming true->ap,false->aq,or_eq_true->ar
open And renaming intro->au
open Sx.ff renaming cells->av,own->aw,ja->ax,iter->ay
open Option renaming some->az
open Go.Value renaming string->ba,int->bc
open Go.Utf8 renaming decode->be
namespace Sx
set_option maxRecDepth 100000
open Go Cv Go.Proofs
def zQw {α:Type} {f:α->α} {Q:α->Prop} (hf:∀x,Q x->Q (f x)):∀{l:List α} (i:Nat),(∃x∈l,Q x)->∃x∈l.modify i f,Q x
 |[],i,⟨x,hx,_⟩=>by cases hx
 |a::l,0,⟨x,hx,q⟩=>by
  rcases mf.1 hx with rfl|hx
  ·exact⟨f x,ji,hf x q⟩
  ·exact⟨x,jw _ hx,q⟩
 |a::l,i+1,⟨x,hx,q⟩=>by
  rw[OE];rcases mf.1 hx with rfl|hx
  ·exact⟨x,ji,q⟩
  ·obtain⟨y,hy,hq⟩:=zQw hf (l:=l) i ⟨x,hx,q⟩;exact⟨y,jw _ hy,hq⟩
def yFx {a:dt} (h:a.fit) (n:Int) (t:Bool):(a.mc n t).fit:=by
 obtain⟨h1,h2,h3⟩:=h;rw[dt.mc];split
 ·refine⟨by simpa using h1,λhf=> ?_,by simpa using h3⟩;exact zQw (f:=λs:Slot=>{s with top:=t}) (Q:=λs=>s.used=aq) (λx hx=>hx) _ (h2 hf)
 ·exact⟨h1,h2,h3⟩
def yCw {b:dm} (h:b.a.fit) (s:Int):(b.iP s).fit:=by
 rw[dm.iP]
 repeat' split
 all_goals first|exact h|exact yFx h _ _
def yDe {a:dt} (h:a.fit):a.ri.fit:=by
 obtain⟨h1,h2,h3⟩:=h;refine⟨h1,h2,λq hq=> ?_⟩;rcases pn.1 hq with hq|hq
 ·exact h3 q hq
 ·rw[vf.1 hq];exact .inl rfl
def z1g {b:dm} (h:b.a.fit):b.iN.2.2.fit:=by
 rw[dm.iN];split
 ·exact yDe h
 ·exact h
def tZ {b:dm} (h:b.a.fit) (s p:Int):(b.fu s p).1.a.fit:=by
 rw[dm.fu]
 repeat' split
 ·exact h
 ·exact z1g h
 ·exact z1g h
def yCs (b:dm) (s:Int):(b.iP s).du.length=b.a.du.length/\(b.iP s).dx=b.a.dx:=by
 have ht:∀n t,(b.a.mc n t).du.length=b.a.du.length/\(b.a.mc n t).dx=b.a.dx:=by
  intro n t;rw[dt.mc];split
  ·exact⟨by simp,rfl⟩
  ·exact⟨rfl,rfl⟩
 rw[dm.iP]
 repeat' split
 all_goals first|exact⟨rfl,rfl⟩|exact ht _ _
def zUu {b:dm} (h:b.fit) (id s:Int):(b.jc id s).fit:=by
 obtain⟨h1,h2,h3,h4,h5⟩:=h;have hl:=yCs b s;rw[dm.jc];split
 all_goals exact⟨yCw h1 s,by rw[hl.2];exact h2,h3,h4,h5⟩
def zSu {b:dm} (h:b.fit):b.small:=by
 obtain⟨⟨h1,_⟩,h2,h3,h4,h5⟩:=h;exact⟨⟨h1,oM⟩,oM,oM,oM⟩
def yWz (i:AO) (h:FY.dp i):yMt i:=by
 have si:i.b.fit:=h;have ua:=zSu si;unfold yMt XG rT Tq Tf S4 qY XL zN yN sX tA yJ sD sZ dI;have EF:∀(b:dm) (x:Int),u6 (bc aa i.id) [D.v (.int .i64 1),D.v (.int .i64 i.dj),D.v (.int .i64 x)] (iF b.at_)=iF (tH i.id ⟨1,i.dj,x⟩ b.at_):=λb x=>Vl i.id ⟨1,i.dj,x⟩ b.at_
 refine⟨wC _ _,(kf i.b.at_ i.id).isSome,_,_,_,L8 _ _,1,rfl,trivial,λ_ _=> ?_⟩;refine Cv.dp.mk (λc=>absurd c Z8) λ_=> ?_
 refine zH (λc=> ?_) (λc=>zH (λd=> ?_) (λd=> ?_))
 ·have ha:i.b.gx 1 i.id i.dj i.dq=(i.b,24):=by rw[dm.gx,fc (.inl c)]
  rw[ha];exact kp
 ·have ha:i.b.gx 1 i.id i.dj i.dq=(i.b,24):=by rw[dm.gx,fc (.inr d)]
  rw[ha];exact kp
 have hq:¬(i.dq<1\/1000000<i.dq):=by omega
 refine Cv.dp.mk (λe=> ?_) (λe=> ?_)
 ·have ha:i.b.gx 1 i.id i.dj i.dq=(i.b,25):=by rw[dm.gx,ej hq,fc e]
  rw[ha];exact kp
 have hlen:(iF i.b.at_).length=i.b.at_.length:=by simp[iF]
 rw[hlen];refine zH (λf=> ?_) (λf=> ?_)
 ·have ha:i.b.gx 1 i.id i.dj i.dq=(i.b,13):=by rw[dm.gx,ej hq,ej (by rw[e];decide),fc (by omega)]
  rw[ha];exact kp
 have ha:i.b.gx 1 i.id i.dj i.dq=(i.b.o6 1 i.id i.dj i.dq,0):=by rw[dm.gx,ej hq,ej (by rw[e];decide),ej (by omega)]
 rw[ha];simp only[ia];refine⟨ap,λx=>x=i.b.leads 1 i.dj,Cv.dp.mk (λg=>⟨ap,rfl,?_,gn⟩) (λg=> ?_),λx hx=> ?_⟩
 ·have:i.b.ez=[]:=xu (by have:(i.b.ez.length:Int)=0:=(by simpa using g);omega);rw[dm.leads,eD,this]
 ·obtain⟨r,l,hl⟩:∃r l,i.b.ez=r::l:=by
   cases hb:i.b.ez with
   |nil=>rw[hb]at g;exact absurd g Z8
   |cons r l=>exact⟨r,l,rfl⟩
  refine⟨⟨oM,by rw[hl,iD];omega⟩,r.dj,jq (x:=r) (by rw[hl];rfl) (by simp[zB]) rfl,⟨1,i.dj,r.dj⟩,rfl,rfl,rfl,trivial,λ_ _=>⟨_,rfl,?_,gn⟩⟩;rw[dm.leads,eD,hl]
 subst hx;refine Cv.dp.mk (λg=> ?_) (λg=> ?_)
 ·have Cf:i.b.qf i.id 1 i.dj=i.b.jc i.id 1:=by rw[dm.qf,fc g]
  have KP:=zUu si i.id 1;have ku:i.b.o6 1 i.id i.dj i.dq={((i.b.jc i.id 1).fu 1 i.dj).1 with a:=(((i.b.jc i.id 1).fu 1 i.dj).1.a.push ((i.b.jc i.id 1).fu 1 i.dj).2 i.id i.dq (i.b.leads 1 i.dj)).1,at_:=tH i.id ⟨1,i.dj,(((i.b.jc i.id 1).fu 1 i.dj).1.a.push ((i.b.jc i.id 1).fu 1 i.dj).2 i.id i.dq (i.b.leads 1 i.dj)).2.1⟩ ((i.b.jc i.id 1).fu 1 i.dj).1.at_}:=by
   simp only[dm.o6,Cf]
  refine⟨⟨i.b,i.id⟩,rfl,trivial,gm ⟨rfl,ua,λ_ _=>⟨⟨i.b.jc i.id 1,i.dj⟩,trivial,ma (iM ⟨rfl,KP,λ_ _=>⟨trivial,?_⟩⟩)⟩⟩⟩;refine⟨⟨((i.b.jc i.id 1).fu 1 i.dj).1.a,((i.b.jc i.id 1).fu 1 i.dj).2,i.id,i.dq,i.b.leads 1 i.dj⟩,nr ⟨rfl,tZ KP.1 1 i.dj,λ_ _=>⟨wC _ _,(),?_⟩⟩⟩;dsimp only;rw[ku,EF]
  exact kp
 ·have Cf:i.b.qf i.id 1 i.dj=i.b:=by rw[dm.qf,ej (by rw[g];decide)]
  have ku:i.b.o6 1 i.id i.dj i.dq={(i.b.fu 1 i.dj).1 with a:=((i.b.fu 1 i.dj).1.a.push (i.b.fu 1 i.dj).2 i.id i.dq (i.b.leads 1 i.dj)).1,at_:=tH i.id ⟨1,i.dj,((i.b.fu 1 i.dj).1.a.push (i.b.fu 1 i.dj).2 i.id i.dq (i.b.leads 1 i.dj)).2.1⟩ (i.b.fu 1 i.dj).1.at_}:=by
   simp only[dm.o6,Cf]
  refine⟨⟨i.b,i.dj⟩,trivial,ma (iM ⟨rfl,si,λ_ _=>⟨trivial,?_⟩⟩)⟩;refine⟨⟨(i.b.fu 1 i.dj).1.a,(i.b.fu 1 i.dj).2,i.id,i.dq,i.b.leads 1 i.dj⟩,nr ⟨rfl,tZ si.1 1 i.dj,λ_ _=>⟨wC _ _,(),?_⟩⟩⟩;dsimp only;rw[ku,EF]
  exact kp
def yIa:FY.ok Tryz.prog 232:=gw mixed (dw lI (dw mP (dw yKo (dw yCg (dw z1o fg))))) 0 (λ_=>yTo) (λ_=>[]) [0] Tryz.func232 yWz
def yXm (i:AO) (h:FX.dp i):yHu i:=by
 have si:i.b.fit:=h;have ua:=zSu si;unfold yHu XS rG W0 zO yP sX tA yJ Tq Tf S4 qY sD sZ dI;have EF:∀(b:dm) (x:Int),u6 (bc aa i.id) [D.v (.int .i64 2),D.v (.int .i64 i.dj),D.v (.int .i64 x)] (iF b.at_)=iF (tH i.id ⟨2,i.dj,x⟩ b.at_):=λb x=>Vl i.id ⟨2,i.dj,x⟩ b.at_
 refine⟨wC _ _,(kf i.b.at_ i.id).isSome,_,_,_,L8 _ _,2,rfl,trivial,λ_ _=> ?_⟩;refine Cv.dp.mk (λc=>absurd c Z8) λ_=> ?_
 refine zH (λc=> ?_) (λc=>zH (λd=> ?_) (λd=> ?_))
 ·have ha:i.b.gx 2 i.id i.dj i.dq=(i.b,24):=by rw[dm.gx,fc (.inl c)]
  rw[ha];exact kp
 ·have ha:i.b.gx 2 i.id i.dj i.dq=(i.b,24):=by rw[dm.gx,fc (.inr d)]
  rw[ha];exact kp
 have hq:¬(i.dq<1\/1000000<i.dq):=by omega
 refine Cv.dp.mk (λe=> ?_) (λe=> ?_)
 ·have ha:i.b.gx 2 i.id i.dj i.dq=(i.b,25):=by rw[dm.gx,ej hq,fc e]
  rw[ha];exact kp
 have hlen:(iF i.b.at_).length=i.b.at_.length:=by simp[iF]
 rw[hlen];refine zH (λf=> ?_) (λf=> ?_)
 ·have ha:i.b.gx 2 i.id i.dj i.dq=(i.b,13):=by rw[dm.gx,ej hq,ej (by rw[e];decide),fc (by omega)]
  rw[ha];exact kp
 have ha:i.b.gx 2 i.id i.dj i.dq=(i.b.o6 2 i.id i.dj i.dq,0):=by rw[dm.gx,ej hq,ej (by rw[e];decide),ej (by omega)]
 rw[ha];simp only[ia];refine⟨ap,λx=>x=i.b.leads 2 i.dj,Cv.dp.mk (λg=>⟨ap,rfl,?_,gn⟩) (λg=> ?_),λx hx=> ?_⟩
 ·have:i.b.dv=[]:=xu (by have:(i.b.dv.length:Int)=0:=(by simpa using g);omega);rw[dm.leads,sS,this]
 ·obtain⟨r,l,hl⟩:∃r l,i.b.dv=r::l:=by
   cases hb:i.b.dv with
   |nil=>rw[hb]at g;exact absurd g Z8
   |cons r l=>exact⟨r,l,rfl⟩
  refine⟨⟨oM,by rw[hl,iD];omega⟩,r.dj,jq (x:=r) (by rw[hl];rfl) (by simp[zB]) rfl,⟨2,i.dj,r.dj⟩,rfl,rfl,rfl,trivial,λ_ _=>⟨_,rfl,?_,gn⟩⟩;rw[dm.leads,sS,hl]
 subst hx;refine Cv.dp.mk (λg=> ?_) (λg=> ?_)
 ·have Cf:i.b.qf i.id 2 i.dj=i.b.jc i.id 2:=by rw[dm.qf,fc g]
  have KP:=zUu si i.id 2;have ku:i.b.o6 2 i.id i.dj i.dq={((i.b.jc i.id 2).fu 2 i.dj).1 with a:=(((i.b.jc i.id 2).fu 2 i.dj).1.a.push ((i.b.jc i.id 2).fu 2 i.dj).2 i.id i.dq (i.b.leads 2 i.dj)).1,at_:=tH i.id ⟨2,i.dj,(((i.b.jc i.id 2).fu 2 i.dj).1.a.push ((i.b.jc i.id 2).fu 2 i.dj).2 i.id i.dq (i.b.leads 2 i.dj)).2.1⟩ ((i.b.jc i.id 2).fu 2 i.dj).1.at_}:=by
   simp only[dm.o6,Cf]
  refine⟨⟨i.b,i.id⟩,rfl,trivial,gm ⟨rfl,ua,λ_ _=>⟨⟨i.b.jc i.id 2,i.dj⟩,trivial,ma (iM ⟨rfl,KP,λ_ _=>⟨trivial,?_⟩⟩)⟩⟩⟩;refine⟨⟨((i.b.jc i.id 2).fu 2 i.dj).1.a,((i.b.jc i.id 2).fu 2 i.dj).2,i.id,i.dq,i.b.leads 2 i.dj⟩,nr ⟨rfl,tZ KP.1 2 i.dj,λ_ _=>⟨wC _ _,(),?_⟩⟩⟩;dsimp only;rw[ku,EF]
  exact kp
 ·have Cf:i.b.qf i.id 2 i.dj=i.b:=by rw[dm.qf,ej (by rw[g];decide)]
  have ku:i.b.o6 2 i.id i.dj i.dq={(i.b.fu 2 i.dj).1 with a:=((i.b.fu 2 i.dj).1.a.push (i.b.fu 2 i.dj).2 i.id i.dq (i.b.leads 2 i.dj)).1,at_:=tH i.id ⟨2,i.dj,((i.b.fu 2 i.dj).1.a.push (i.b.fu 2 i.dj).2 i.id i.dq (i.b.leads 2 i.dj)).2.1⟩ (i.b.fu 2 i.dj).1.at_}:=by
   simp only[dm.o6,Cf]
  refine⟨⟨i.b,i.dj⟩,trivial,ma (iM ⟨rfl,si,λ_ _=>⟨trivial,?_⟩⟩)⟩;refine⟨⟨(i.b.fu 2 i.dj).1.a,(i.b.fu 2 i.dj).2,i.id,i.dq,i.b.leads 2 i.dj⟩,nr ⟨rfl,tZ si.1 2 i.dj,λ_ _=>⟨wC _ _,(),?_⟩⟩⟩;dsimp only;rw[ku,EF]
  exact kp
def yNf:FX.ok Tryz.prog 232:=gw mixed (dw lI (dw mP (dw yGq (dw yCj (dw z1o fg))))) 0 (λ_=>yTo) (λ_=>[]) [0] Tryz.func232 yXm
def yRt:Ru.ok Tryz.prog 232:=λj=>match j with
 |⟨i,aq⟩=>yIa i
 |⟨i,ap⟩=>yNf i
def y3m (i:HC) (h:Jv.dp i):yUh i:=by
 obtain⟨hp,zj,hb⟩:i.s.fit:=h;unfold yUh Wb lO pW XM Xq qC dI;simp only[z2c];have Ab:(yR i.s.wh).length=i.s.wh.length:=by simp[yR]
 rw[Ab];have out (e:i.inst<0\/i.s.dz.length<=i.inst):gl.gx i=(i.s,20):=by rw[gl.gx,fc e]
 refine⟨dO _ _,(BQ i.s.wh i.id).isSome,_,yZi _ _,zH (λc=>Cv.dp.mk (λd=> ?_) (λd=> ?_)) (λc=> ?_)⟩
 ·have d:¬i.inst<(i.s.dz.length:Int):=by simpa using d
  rw[out (.inr (by omega))];exact kp
 ·have d:i.inst<(i.s.dz.length:Int):=by simpa using d
  have hn:¬(i.inst<0\/(i.s.dz.length:Int)<=i.inst):=by omega
  refine Cv.dp.mk (λe=> ?_) (λe=>zH (λf=> ?_) (λf=> ?_))
  ·rw[gl.gx,ej hn,fc e];exact kp
  ·rw[gl.gx,ej hn,ej (by rw[e];decide),fc (by omega)];exact kp
  ·refine⟨⟨i.s.p,i.inst,i.dj⟩,gm (nr ⟨rfl,hp,λ_ _=>Cv.dp.mk (λg=> ?_) (λg=> ?_)⟩)⟩
   ·have g:i.s.p.dj i.inst i.dj≠0:=by simpa using g
    rw[gl.gx,ej hn,ej (by rw[e];decide),ej (by omega),fc g];exact kp
   ·have g:i.s.p.dj i.inst i.dj=0:=by simpa using g
    obtain⟨x,hx⟩:=z7 (l:=i.s.dz) (i:=i.inst.toNat) oM;have hba:i.s.At i.inst=x:=zT hx;have ha:gl.gx i=({i.s with dz:=i.s.dz.set i.inst.toNat (x.gx (zC i.sd) i.id i.dj i.dq).1,wh:=if(x.gx (zC i.sd) i.id i.dj i.dq).2=0 then IB i.id i.inst i.s.wh else i.s.wh},(x.gx (zC i.sd) i.id i.dj i.dq).2):=by
     rw[gl.gx,ej hn,ej (by rw[e];decide),ej (by omega),ej (by simp[g])];simp only[hba]
    refine⟨⟨oM,oM⟩,oM,x,hx,⟨⟨x,i.id,i.dj,i.dq⟩,i.sd⟩,nr ⟨rfl,hb x (lr hx),λ_ _=>⟨(x.gx (zC i.sd) i.id i.dj i.dq).1,rfl,trivial,oM,Cv.dp.mk (λz=>⟨dO _ _,?_⟩) (λz=> ?_)⟩⟩⟩
    ·have z:(x.gx (zC i.sd) i.id i.dj i.dq).2=0:=by simpa using z
     rw[ha,z];simp only[if_true]
     exact kp
    ·have z:¬(x.gx (zC i.sd) i.id i.dj i.dq).2=0:=by simpa using z
     rw[ha,ej z]
     exact kp
 ·rw[out (.inl (by omega))];exact kp
def yRe:Jv.ok Tryz.prog 220:=gw mixed (dw lL (dw yRt fg)) 1 (λ_=>[]) (λ_=>[]) [0] Tryz.func220 y3m
def C3:fy:=fj (List UInt8) (λs=>[sV s]) (λ_=>[]) (λs=>s.length<=1099511627776) (λs=>yL (wE s)) (λ_=>[])
def yOd (s:List UInt8):List gj:=[{ι:=Nat×Nat,du:=λx=>[(3,zA x.2),(7,.nm 0 0)],rows:=λx=>[.iter (sb s) x.1]}]
def yQw:List (Nat×gj):=[(20,bj 29)]
def Bm:fy:=fj fb (λp=>[nu p]) (λ_=>[]) fb.small (λp=>zA p.check) (λ_=>[])
def yMb:List gj:=[{ι:=Nat,du:=λj=>[(3,zA j)],rows:=λ_=>[]},{ι:=Nat,du:=λj=>[(4,zA j)],rows:=λ_=>[]},{ι:=Nat,du:=λj=>[(5,zA j)],rows:=λ_=>[]}]
def yHa:List (Nat×gj):=[(12,bj 19),(32,bj 58),(40,bj 90),(68,bj 136),(96,bj 168),(104,bj 176),(112,bj 204)]
def Bl:fy:=fj fb (λp=>[nu p]) (λ_=>[]) fb.small (λp=>zA p.count) (λ_=>[])
def C2:fy:=fj bI (λi=>[nu i.p,zA i.n]) (λ_=>[]) (λi=>i.p.small) (λi=> .iW [zA (i.p.ga i.n).1,zA (i.p.ga i.n).2.1,yL (i.p.ga i.n).2.2]) (λ_=>[])
def ySw (i:bI):List gj:=[{ι:=Nat,du:=λm=>[(8,zA (yK i.p.dk.length m)),(9,zA m)],rows:=λ_=>[]},
 {ι:=Nat×Nat,du:=λm=>[(8,zA ((yK i.p.dk.length m.1+m.2:Nat):Int)),(9,zA m.1),(10,zA ((m.1+1+m.2:Nat):Int))],rows:=λ_=>[]}]
def kN (x:fb):Int:=2+zG x.dk.length 0 3
def zS (x:fb):Int:=1+zG x.tick 0 9
def qO (n:Nat):List Int:=(ak n).map λ(i:Nat)=>10*(i:Int)+3
def kF (t:Int) (n:Nat):List Int:=(ak n).map λ(i:Nat)=>t*(10+(i:Int))
def gy (x:fb):fb:=⟨[206,169],qO (kN x).toNat,zS x,-20*zS x,100*zS x,zS x*(5+zG x.wide 0 60),1+zG x.dr 0 2,zG x.top 0 9,1+zG x.least 0 4,zG x.part 0 100,kF (zS x) (kN x).toNat⟩
@[reducible] def fb.raw (x:fb):Prop:=gq x.tick/\gq x.wide/\gq x.dr/\gq x.top/\gq x.least/\gq x.part/\x.dk.length<=9223372036854775807
def Ck:fy:=fj fb (λx=>[nu x]) (λ_=>[]) fb.raw (λx=>nu (gy x)) (λ_=>[])
def y8m (x:fb) (w:Int) (j:Nat):List ff:=[.cells [sV [206,169],.own 1,zA (zS x),zA (-20*zS x),zA (100*zS x),zA w,zA (1+zG x.dr 0 2),zA (zG x.top 0 9),zA (1+zG x.least 0 4),zA (zG x.part 0 100),.own 2] 25,.own 3 1 (iE (qO j)),.own 2 1 (iE (kF (zS x) j))]
def y2e (x:fb):List ff:=[.cells [sV [206,169],.d (.v (.slice none 0 0)),zA (zS x),zA (-20*zS x),zA (100*zS x),zA 0,zA (1+zG x.dr 0 2),zA (zG x.top 0 9),zA (1+zG x.least 0 4),zA (zG x.part 0 100),.d (.v (.slice none 0 0))] 25]
def yZe (x:fb):List gj:=[{ι:=Nat,du:=λj=>[(5,.nm 0 0),(6,zA j)],rows:=λj=>y8m x (zS x*(5+zG x.wide 0 60)) j}]
def yZr (x:fb):List (Nat×gj):=[(12,{ι:=Unit,du:=λ_=>[(5,.nm 0 0)],oP:=λ_=>[],lp:=λ_=>[],rows:=λ_=>y2e x})]
def nN (a:Bool->Prop) (b:Bool) (c:List UInt8) (d:Nat×Nat):Prop:=a b/\di (ay (sb c) (d.fst+(be (sb c) d.fst).snd))
def qG (a:List UInt8) (b:Nat×Nat):=(↑(be (sb a) b.fst).fst:Int)
def eZ (a:List UInt8) (b:Nat×Nat) (c:Bool->Prop):Prop:=∃(d:Bool),d=!(qG a b) !=930/\nN c d a b
def cU (a:Bool->Prop) (b:List UInt8) (c:Nat×Nat):Prop:=∃(d:Bool),d=!false/\nN a d b c
def yAt (s:List UInt8):Prop:=
 ∃(a:Nat×Nat),(↑a.snd:Int)=0/\sb s=sb s/\a.fst=0/\∃(b:Nat×Nat->Prop),∃(c:Nat×Nat->Nat),b a/\∀(d:Nat×Nat),b d->dp (d.fst.blt (sb s).size) (∃(e:Bool),∃(f:Bool->Prop),dp (decide ((qG s d)>=65)) (dp (decide ((qG s d)<=90)) (∃(g:Bool),g=!true/\nN f g s d) (dp (decide ((qG s d)>=913)) (dp (decide ((qG s d)<=937)) (eZ s d f) (cU f s d)) (cU f s d))) (dp (decide ((qG s d)>=913)) (dp (decide ((qG s d)<=937)) (eZ s d f) (cU f s d)) (cU f s d))/\∀(g:Bool),f g->dp g (∃(h:Unit),wE s=aq/\True) (dY d s b c)) (dp (decide ((↑d.snd:Int)>=1)) (∃(e:Unit),wE s=decide ((↑d.snd:Int)<=4)/\True) (∃(e:Unit),wE s=aq/\True))
def aP (a:fb):Prop:=av [V.d (u9 a),V.own 0,V.d (dI a.tick),V.d (dI a.low),V.d (dI a.high),V.d (dI a.wide),V.d (dI a.dr),V.d (dI a.top),V.d (dI a.least),V.d (dI a.part),V.own 1] 25=av [V.d (u9 a),V.own 0,V.d (dI a.tick),V.d (dI a.low),V.d (dI a.high),V.d (dI a.wide),V.d (dI a.dr),V.d (dI a.top),V.d (dI a.least),V.d (dI a.part),V.own 1] 25/\aL a
def sE (a:Nat) (b:Nat->Prop) (c:Nat->Nat) (d:fb):Prop:=∃(e:Nat),(↑e:Int)=aa.wrap ((↑a:Int)+1)/\b e/\c e<c a/\aP d
def YK (a:Bool->Prop) (b:fb) (c:Nat) (d:Nat->Prop) (e:Nat->Nat):Prop:=∀(f:Bool),a f->dp f (∃(g:Unit),b.check=1/\True) (sE c d e b)
def qM (a:Bool->Prop) (b:Bool) (c:fb):Prop:=a b/\aP c
def yO (a:Bool->Prop) (b:fb):Prop:=∃(c:Bool),c=ap/\qM a c b
def zZu (p:fb):Prop:=
 ∃(a:List UInt8),sb a=sb p.code/\a.length<=1099511627776/\∀(b:Unit),True->dp (!wE a) (∃(c:Unit),p.check=12/\True) (∃(c:Bool),∃(d:Bool->Prop),dp (decide ((xF p)<2)) (yO d p) (∃(e:Bool),e=decide ((xF p)>6)/\qM d e p)/\∀(e:Bool),d e->dp e (∃(f:Unit),p.check=1/\True) (∃(f:Nat),(↑f:Int)=0/\∃(g:Nat->Prop),∃(h:Nat->Nat),g f/\∀(j:Nat),g j->dp (decide ((↑j:Int)<(xF p))) (∃(k:Bool),∃(l:Bool->Prop),((0<=(↑j:Int)/\(↑j:Int)<(xF p))/\∃(m:Int),zD (iE p.dk) (↑j:Int).toNat 0 1=az [dI m]/\dp (decide (m<0)) (yO l p) ((0<=(↑j:Int)/\(↑j:Int)<(xF p))/\∃(n:Int),zD (iE p.dk) (↑j:Int).toNat 0 1=az [dI n]/\dp (decide (n>1199)) (yO l p) (dp (decide ((↑j:Int)>0)) ((0<=aa.wrap ((↑j:Int)-1)/\aa.wrap ((↑j:Int)-1)<(xF p))/\∃(q:Int),zD (iE p.dk) (aa.wrap ((↑j:Int)-1)).toNat 0 1=az [dI q]/\(0<=(↑j:Int)/\(↑j:Int)<(xF p))/\∃(r:Int),zD (iE p.dk) (↑j:Int).toNat 0 1=az [dI r]/\∃(s:Bool),s=decide (q>=r)/\qM l s p) (∃(q:Bool),q=aq/\qM l q p))))/\YK l p j g h) (∃(k:Bool),∃(l:Bool->Prop),dp (decide (p.tick<1)) (yO l p) (dp (decide (p.tick>1000)) (yO l p) (aa=aa/\p.tick≠0/\dp (p.low.tmod p.tick !=0) (yO l p) (aa=aa/\p.tick≠0/\dp (p.high.tmod p.tick !=0) (yO l p) (aa=aa/\p.tick≠0/\∃(m:Bool),m=(p.wide.tmod p.tick !=0)/\qM l m p))))/\∀(m:Bool),l m->dp m (∃(n:Unit),p.check=22/\True) (∃(n:Nat),(↑n:Int)=0/\∃(q:Nat->Prop),∃(r:Nat->Nat),q n/\∀(s:Nat),q s->dp (decide ((↑s:Int)<(wY p))) ((0<=(↑s:Int)/\(↑s:Int)<(wY p))/\∃(t:Int),zD (iE p.settle) (↑s:Int).toNat 0 1=az [dI t]/\aa=aa/\p.tick≠0/\dp (t.tmod p.tick !=0) (∃(u:Unit),p.check=22/\True) (sE s q r p)) (∃(t:Bool),∃(u:Bool->Prop),dp (decide (p.low<(-1000000))) (yO u p) (dp (decide (p.low>=p.high)) (yO u p) (dp (decide (p.high>1000000)) (yO u p) (dp (decide (p.wide<0)) (yO u p) (∃(v:Bool),v=decide (p.wide>aa.wrap (p.high-p.low))/\qM u v p))))/\∀(v:Bool),u v->dp v (∃(w:Unit),p.check=23/\True) (dp ((wY p) !=(xF p)) (∃(w:Unit),p.check=1/\True) (∃(w:Nat),(↑w:Int)=0/\∃(x:Nat->Prop),∃(y:Nat->Nat),x w/\∀(z:Nat),x z->dp (decide ((↑z:Int)<(wY p))) (∃(jb:Bool),∃(oZ:Bool->Prop),((0<=(↑z:Int)/\(↑z:Int)<(wY p))/\∃(iH:Int),zD (iE p.settle) (↑z:Int).toNat 0 1=az [dI iH]/\dp (decide (iH<p.low)) (yO oZ p) ((0<=(↑z:Int)/\(↑z:Int)<(wY p))/\∃(ld:Int),zD (iE p.settle) (↑z:Int).toNat 0 1=az [dI ld]/\∃(iT:Bool),iT=decide (ld>p.high)/\qM oZ iT p))/\YK oZ p z x y) (∃(jb:Bool),∃(oZ:Bool->Prop),dp (decide (p.dr<1)) (yO oZ p) (∃(iH:Bool),iH=decide (p.dr>3)/\qM oZ iH p)/\∀(iH:Bool),oZ iH->dp iH (∃(ld:Unit),p.check=31/\True) (∃(ld:Bool),∃(iT:Bool->Prop),dp (decide (p.top<0)) (yO iT p) (dp (decide (p.top>1000000)) (yO iT p) (dp (decide (p.least<1)) (yO iT p) (dp (decide (p.least>1000)) (yO iT p) (dp (decide (p.part<0)) (yO iT p) (∃(te:Bool),te=decide (p.part>100)/\qM iT te p)))))/\∀(te:Bool),iT te->dp te (∃(oY:Unit),p.check=24/\True) (∃(oY:Unit),p.check=0/\True))))))))))
def z0x (p:fb):Prop:=
 ∃(a:fb),tC a p
def fL (a:bI) (b:Nat×Nat):=(↑(yK a.p.dk.length b.fst+b.snd):Int)
def yBe (i:bI):Prop:=
 ∃(a:fb),sb a.code=sb i.p.code/\iE a.dk=iE i.p.dk/\a.tick=i.p.tick/\a.low=i.p.low/\a.high=i.p.high/\a.wide=i.p.wide/\a.dr=i.p.dr/\a.top=i.p.top/\a.least=i.p.least/\a.part=i.p.part/\iE a.settle=iE i.p.settle/\(zW a)/\∀(b:Unit),True->dp (a.check !=0) (fJ i) (dp (decide (i.n<0)) (fJ i) (dp (decide (i.n<(vM i))) (Ts i) (∃(c:Nat),(uV i c)=(vM i)/\(↑c:Int)=0/\∃(d:Nat->Prop),∃(e:Nat->Nat),d c/\∀(f:Nat),d f->dp (decide ((↑f:Int)<(vM i))) (∃(g:Nat×Nat),(fL i g)=(uV i f)/\(↑g.fst:Int)=(↑f:Int)/\(↑(g.fst+1+g.snd):Int)=aa.wrap ((↑f:Int)+1)/\∃(h:Nat×Nat->Prop),∃(j:Nat×Nat->Nat),h g/\∀(k:Nat×Nat),h k->dp (decide ((↑(k.fst+1+k.snd):Int)<(vM i))) (dp ((fL i k)==i.n) (∃(l:Unit),(i.p.ga i.n).fst=(↑k.fst:Int)/\(i.p.ga i.n).snd.fst=(↑(k.fst+1+k.snd):Int)/\(i.p.ga i.n).snd.snd=ap/\True) (∃(l:Nat×Nat),(fL i l)=aa.wrap ((fL i k)+1)/\(↑l.fst:Int)=(↑k.fst:Int)/\(↑(l.fst+1+l.snd):Int)=aa.wrap ((↑(k.fst+1+k.snd):Int)+1)/\h l/\j l<j k/\nR i)) (∃(l:Nat),(uV i l)=(fL i k)/\(↑l:Int)=aa.wrap ((↑k.fst:Int)+1)/\Tu d l e f i)) (fJ i))))
def y5 (a:qn):Prop:=((-9223372036854775808)<=a.n/\a.n<=9223372036854775807)/\(-1000000)<=a.lo/\a.lo<=a.hi/\a.hi<=1000000
def x9 (a:qn):=(1+zG a.n a.lo a.hi)
def v8:=(D.v (Value.slice none 0 0))
def kT:=(D.v (ba (ByteArray.mk #[])))
def Xr (a:fb):Prop:=av (Sx.V.agg [V.d kT,V.d v8,V.d (dI 0),V.d (dI 0),V.d (dI 0),V.d (dI 0),V.d (dI 0),V.d (dI 0),V.d (dI 0),V.d (dI 0),V.d v8]).cl 25=av (Sx.V.agg [V.d kT,V.d v8,V.d (dI 0),V.d (dI 0),V.d (dI 0),V.d (dI 0),V.d (dI 0),V.d (dI 0),V.d (dI 0),V.d (dI 0),V.d v8]).cl 25/\aP a
def Xe (a:fb) (b:qn) (c:qn) (d:qn) (e:qn) (f:Unit->Prop):Prop:=∃(g:qn),g.n=a.part/\g.lo=0/\g.hi=100/\(y5 g)/\∀(h:Unit),True->∃(j:Unit),sb [(206:UInt8),(169:UInt8)]=ByteArray.mk #[(206:UInt8),(169:UInt8)]/\True/\zS a=aa.wrap (x9 b)/\(-20)*zS a=aa.wrap ((-20)*aa.wrap (x9 b))/\100*zS a=aa.wrap (100*aa.wrap (x9 b))/\di ((0:Int))/\1+zG a.dr 0 2=aa.wrap (x9 c)/\zG a.top 0 9=zG d.n d.lo d.hi/\1+zG a.least 0 4=aa.wrap (x9 e)/\zG a.part 0 100=zG g.n g.lo g.hi/\True/\f j/\Xr a
def Xs (a:fb) (b:qn) (c:qn) (d:qn) (e:qn) (f:Unit->Prop):Prop:=a.part=a.part/\Xe a b c d e f
def Xa (a:fb) (b:qn) (c:qn) (d:qn) (e:Unit->Prop):Prop:=a.part=a.part/\di a.least/\∃(f:qn),f.n=a.least/\f.lo=0/\f.hi=4/\(y5 f)/\∀(g:Unit),True->Xs a b c d f e
def XD (a:fb) (b:qn) (c:qn) (d:Unit->Prop):Prop:=a.part=a.part/\di a.least/\di a.top/\∃(e:qn),e.n=a.top/\e.lo=0/\e.hi=9/\(y5 e)/\∀(f:Unit),True->Xa a b c e d
def gT (a:fb):=(kF (zS a) (kN a).toNat)
def yHl (x:fb):Prop:=
 ∃(a:qn),a.n=(xF x)/\a.lo=0/\a.hi=3/\(y5 a)/\∀(b:Unit),True->∃(c:qn),c.n=x.tick/\c.lo=0/\c.hi=9/\(y5 c)/\∀(d:Unit),True->∃(e:Unit),∃(f:Unit->Prop),((∃(g:qn),g.n=x.dr/\g.lo=0/\g.hi=2/\(y5 g)/\∀(h:Unit),True->di x.part/\di x.least/\di x.top/\(∃(j:qn),j.n=x.top/\j.lo=0/\j.hi=9/\(y5 j)/\∀(k:Unit),True->di x.part/\di x.least/\(∃(l:qn),l.n=x.least/\l.lo=0/\l.hi=4/\(y5 l)/\∀(m:Unit),True->di x.part/\(Xe x c g j l f)/\Xs x c g j l f)/\Xa x c g j f)/\XD x c g f)/\di x.part/\di x.least/\di x.top/\di x.dr/\∃(g:qn),g.n=x.dr/\g.lo=0/\g.hi=2/\(y5 g)/\∀(h:Unit),True->XD x c g f)/\∀(g:Unit),f g->∃(h:qn),h.n=x.wide/\h.lo=0/\h.hi=60/\(y5 h)/\∀(j:Unit),True->∃(k:Nat),(↑k:Int)=0/\di (sb [(206:UInt8),(169:UInt8)])/\zS x=zS x/\di ((-20)*zS x)/\di (100*zS x)/\zS x*(5+zG x.wide 0 60)=aa.wrap (aa.wrap (x9 c)*aa.wrap (5+zG h.n h.lo h.hi))/\1+zG x.dr 0 (2:Int)=(1:Int)+zG x.dr 0 2/\zG x.top 0 9=zG x.top 0 (9:Int)/\(1:Int)+zG x.least 0 (4:Int)=(1:Int)+zG x.least 0 4/\di (zG x.part 0 100)/\iE (qO k)=[]/\iE (kF (zS x) k)=[]/\∃(l:Nat->Prop),∃(m:Nat->Nat),l k/\∀(n:Nat),l n->dp (decide ((↑n:Int)<aa.wrap (2+zG a.n a.lo a.hi))) (((iE (qO n)).length+1)*(8:Nat)<=(140737488355328:Nat)/\((iE (kF (zS x) n)).length+1)*(8:Nat)<=(140737488355328:Nat)/\∃(p:Nat),(↑p:Int)=aa.wrap ((↑n:Int)+1)/\di (sb [(206:UInt8),(169:UInt8)])/\zS x=zS x/\di ((-20)*zS x)/\di (100*zS x)/\di (zS x*(5+zG x.wide 0 60))/\1+zG x.dr 0 (2:Int)=(1:Int)+zG x.dr 0 2/\zG x.top 0 9=zG x.top 0 (9:Int)/\(1:Int)+zG x.least 0 (4:Int)=(1:Int)+zG x.least 0 4/\di (zG x.part 0 100)/\iE (qO p)=iE (qO n)++[[dI (aa.wrap (aa.wrap (10*(↑n:Int))+3))]]/\iE (kF (zS x) p)=iE (kF (zS x) n)++[[dI (aa.wrap (aa.wrap (x9 c)*aa.wrap (10+(↑n:Int))))]]/\l p/\m p<m n/\Xr x) (∃(p:Unit),di (sb [(206:UInt8),(169:UInt8)])/\iE (qO (kN x).toNat)=iE (qO n)/\zS x=zS x/\di ((-20)*zS x)/\di (100*zS x)/\di (zS x*(5+zG x.wide 0 60))/\1+zG x.dr 0 (2:Int)=(1:Int)+zG x.dr 0 2/\zG x.top 0 9=zG x.top 0 (9:Int)/\(1:Int)+zG x.least 0 (4:Int)=(1:Int)+zG x.least 0 4/\di (zG x.part 0 100)/\iE (gT x)=iE (kF (zS x) n)/\True)
def yTa (s:List UInt8) (h:C3.dp s):yAt s:=by
 have h:s.length<=1099511627776:=h;have hr:=XE s;unfold yAt cU eZ qG nN dY;refine⟨(0,0),rfl,rfl,rfl,λx=>x.1<=s.length/\x.2+(gD s x.1).length=(kY s).length/\(kY s).all gK=((gD s x.1).all λy=>gK y.2),λx=>s.length-x.1,⟨oM,by rw[kY,ia];simp,by rw[kY,List.all_map];rfl⟩,?_⟩;rintro⟨p,n⟩ ⟨h1,h2,h3⟩;dsimp only at h1 h2 h3 ⊢;refine Cv.dp.mk (λhp=> ?_) (λhp=> ?_)
 ·have hp:p<s.length:=by simpa[xv]using hp
  have hw:=bF s hp;rw[jP hp,iD]at h2;rw[jP hp,List.all_cons]at h3;generalize hc:(be (sb s) p).1=c at h2 h3 ⊢;generalize hww:(be (sb s) p).2=w at h2 h3 hw ⊢;dsimp only at h3;have g0:∀b:Bool,(b=ap->gK c=ap)->(b=aq->gK c=aq)->b=gK c:=λb e1 e2=>by cases b<;>simp_all
  refine⟨ap,λb=>b= !gK c,?_,λb hb=> ?_⟩
  ·refine zH (λc1=>zH (λc2=>⟨_,rfl,?_,gn⟩) (λc2=>zH (λc3=>zH (λc4=>⟨_,rfl,?_,gn⟩) (λc4=>⟨_,rfl,?_,gn⟩)) (λc3=>⟨_,rfl,?_,gn⟩))) (λc1=>zH (λc3=>zH (λc4=>⟨_,rfl,?_,gn⟩) (λc4=>⟨_,rfl,?_,gn⟩)) (λc3=>⟨_,rfl,?_,gn⟩))
   all_goals congr 1
   all_goals refine g0 _ (λe=> ?_) (λe=> ?_)
   all_goals first|(simp[gK]at*;done)|(simp[gK]at*;omega)
  ·subst hb;refine Cv.dp.mk (λe=>⟨(),?_,trivial⟩) (λe=>⟨(p+w,n+1),?_,rfl,rfl,⟨hw.2,by(first|omega|(dsimp only;omega)),?_⟩,by(first|omega|(dsimp only;omega)),trivial⟩)
   ·have e:gK c=aq:=by simpa using e
    rw[wE,h3,e];rfl
   ·rw[ir (by omega)];rfl
   ·have e:gK c=ap:=by simpa using e
    rw[h3,e];rfl
 ·have hp:s.length<=p:=by have:=TB hp;simpa using this
  rw[uJ hp]at h2 h3;have h3:(kY s).all gK=ap:=h3;have hn:n=(kY s).length:=by simpa using h2
  have je:(s=[])↔(kY s).length=0:=by
   constructor
   ·intro e;subst e;rfl
   ·intro e;cases s with
    |nil=>rfl
    |cons b l=>
     rw[kY,ia,jP (by simp)]at e;simp at e
  refine zH (λc=>⟨(),?_,trivial⟩) (λc=>⟨(),?_,trivial⟩)
  ·have:¬s=[]:=by rw[je];omega
   rw[wE,h3,lg this,hn];simp only[zw];congr 1;simp only[eq_iff_iff];omega
  ·have:s=[]:=by rw[je];omega
   rw[wE,this];rfl
def yDt:C3.ok Tryz.prog 202:=gw mixed fg 0 (λ_=>yQw) (λs=>yOd s) [] Tryz.func202 yTa
def rV:∀(l:List Int) (a:Int),l.foldl min a<=a/\∀x∈l,l.foldl min a<=x
 |[],a=>⟨yg _,by simp⟩
 |b::l,a=>by
  obtain⟨h1,h2⟩:=rV l (min a b);rw[EA];refine⟨oM,λx hx=> ?_⟩;rcases mf.1 hx with rfl|hx
  ·omega
  ·exact h2 x hx
def rZ:∀(l:List Int) (a:Int),a<=l.foldl max a/\∀x∈l,x<=l.foldl max a
 |[],a=>⟨yg _,by simp⟩
 |b::l,a=>by
  obtain⟨h1,h2⟩:=rZ l (max a b);rw[EA];refine⟨oM,λx hx=> ?_⟩;rcases mf.1 hx with rfl|hx
  ·omega
  ·exact h2 x hx
def zCw:∀(l:List Int) (a:Int),l.foldl min a=a\/l.foldl min a∈l
 |[],a=> .inl rfl
 |b::l,a=>by
  rw[EA];rcases zCw l (min a b)with h|h
  ·rcases Int.le_total a b with e|e
   ·left;rw[h];omega
   ·right;rw[h,show min a b=b by omega];exact ji
  ·exact .inr (jw _ h)
def zDb:∀(l:List Int) (a:Int),l.foldl max a=a\/l.foldl max a∈l
 |[],a=> .inl rfl
 |b::l,a=>by
  rw[EA];rcases zDb l (max a b)with h|h
  ·rcases Int.le_total a b with e|e
   ·right;rw[h,show max a b=b by omega];exact ji
   ·left;rw[h];omega
  ·exact .inr (jw _ h)
def z9t {l:List Int} {x:Int} (h:x∈l):sW l<=x:=by
 cases l with
 |nil=>cases h
 |cons a l=>
  rw[sW,aj,ag];rcases mf.1 h with rfl|h
  ·exact(rV l x).1
  ·exact(rV l a).2 x h
def z9h {l:List Int} {x:Int} (h:x∈l):x<=eR l:=by
 cases l with
 |nil=>cases h
 |cons a l=>
  rw[eR,aj,ag];rcases mf.1 h with rfl|h
  ·exact(rZ l x).1
  ·exact(rZ l a).2 x h
def zYu {l:List Int} (h:l≠[]):sW l∈l:=by
 cases l with
 |nil=>exact absurd rfl h
 |cons a l=>
  rw[sW,aj,ag];rcases zCw l a with h|h
  ·rw[h];exact ji
  ·exact jw _ h
def z2e {l:List Int} (h:l≠[]):eR l∈l:=by
 cases l with
 |nil=>exact absurd rfl h
 |cons a l=>
  rw[eR,aj,ag];rcases zDb l a with h|h
  ·rw[h];exact ji
  ·exact jw _ h
def yJl (p:fb) (h:Bm.dp p):zZu p:=by
 obtain⟨h1,h2,h3⟩:p.small:=h;unfold zZu YK yO qM sE aP u9 aL xF wY dI;simp only[y4];refine⟨p.code,rfl,h1,λ_ _=>Cv.dp.mk (λc1=>⟨(),by rw[fb.check,fc c1],trivial⟩) λc1=> ?_⟩;have c1:wE p.code=ap:=by simpa using c1
 have e1:p.check=if !xG p.dk then 1 else if !qL p then 22 else if qP p then 23 else if xI p then 1 else if kG p then 31 else if qA p then 24 else 0:=by
  rw[fb.check,ej (by simp[c1])]
 refine⟨ap,λb=>b=(decide (p.dk.length<2)||decide (p.dk.length>6)),zH (λc=>⟨ap,rfl,?_,gn⟩) (λc=>⟨_,rfl,?_,gn⟩),λb hb=> ?_⟩
 ·rw[lg (show p.dk.length<2 by omega)];rfl
 ·rw[kr (show ¬p.dk.length<2 by omega),Kx];congr 1;simp only[eq_iff_iff];omega
 subst hb;refine Cv.dp.mk (λc2=> ?_) (λc2=> ?_)
 ·have:xG p.dk=aq:=by
   simp only[ar,tw]at c2;rw[xG];rcases c2 with c2|c2
   ·rw[kr (show ¬2<=p.dk.length by omega)];simp
   ·rw[kr (show ¬p.dk.length<=6 by omega)];simp
  exact⟨(),by rw[e1,fc (by rw[this];rfl)],trivial⟩
 have c2:2<=p.dk.length/\p.dk.length<=6:=by
  simp only[KF,decide_eq_false_iff_not]at c2;omega
 have em:xG p.dk=(ak p.dk.length).all (qU p.dk):=by
  rw[xG,lg c2.1,lg c2.2];simp
 refine⟨0,rfl,λj=>j<=p.dk.length/\∀k<j,qU p.dk k=ap,λj=>p.dk.length-j,⟨oM,λk hk=>by omega⟩,?_⟩;rintro j ⟨g1,g2⟩;refine zH (λhj=> ?_) (λhj=> ?_)
 ·obtain⟨m,hm⟩:=z7 (l:=p.dk) (i:=j) oM;have UH:p.dk.getD j 0=m:=zT hm;refine⟨ap,λb=>b= !qU p.dk j,⟨⟨oM,oM⟩,m,qz hm,zH (λc=>⟨ap,rfl,?_,gn⟩) (λc=>⟨⟨oM,oM⟩,m,qz hm,zH (λd=>⟨ap,rfl,?_,gn⟩) (λd=>zH (λe=> ?_) (λe=>⟨aq,rfl,?_,gn⟩))⟩)⟩,λb hb=> ?_⟩
  ·rw[qU,UH,kr (show ¬0<=m by omega)];rfl
  ·rw[qU,UH,kr (show ¬m<=1199 by omega)];simp
  ·obtain⟨m',Ac⟩:=z7 (l:=p.dk) (i:=j-1) oM;rw[ir (by omega),show((j:Int)-1).toNat=j-1 by omega];refine⟨⟨oM,oM⟩,m',qz Ac,⟨oM,oM⟩,m,qz hm,_,rfl,?_,gn⟩;rw[qU,UH,zT Ac,lg (show 0<=m by omega),lg (show m<=1199 by omega),kr (show ¬j=0 by omega)];simp only[zw,Kx];by_cases gr:m'<m
   ·rw[lg gr,kr (by omega)];rfl
   ·rw[kr gr,lg (by omega)];rfl
  ·rw[qU,UH,lg (show 0<=m by omega),lg (show m<=1199 by omega),lg (show j=0 by omega)];rfl
  ·subst hb;refine Cv.dp.mk (λc=>⟨(),?_,trivial⟩) (λc=>⟨j+1,by rw[ir (by omega)];rfl,⟨oM,λk hk=> ?_⟩,by(first|omega|(dsimp only;omega)),gn⟩)
   ·have c:qU p.dk j=aq:=by simpa using c
    rw[e1,fc (by rw[em,zVl (k:=j) (by omega) c];rfl)]
   ·have c:qU p.dk j=ap:=by simpa using c
    rcases uo k j with h|h
    ·exact g2 k h
    ·obtain rfl:k=j:=by omega
     exact c
 have em:xG p.dk=ap:=by rw[em];exact z2a λk hk=>g2 k oM
 have e2:p.check=if !qL p then 22 else if qP p then 23 else if xI p then 1 else if kG p then 31 else if qA p then 24 else 0:=by
  rw[e1,ej (by simp[em])]
 have et:qL p=((decide (1<=p.tick) && decide (p.tick<=1000) && !qQ p.tick p.low && !qQ p.tick p.high && !qQ p.tick p.wide) && !p.settle.any (qQ p.tick)):=rfl;refine⟨ap,λb=>b= !(decide (1<=p.tick) && decide (p.tick<=1000) && !qQ p.tick p.low && !qQ p.tick p.high && !qQ p.tick p.wide),zH (λd1=>⟨ap,rfl,?_,gn⟩) (λd1=>zH (λd2=>⟨ap,rfl,?_,gn⟩) (λd2=>⟨trivial,oM,Cv.dp.mk (λd3=>⟨ap,rfl,?_,gn⟩) (λd3=>⟨trivial,oM,Cv.dp.mk (λd4=>⟨ap,rfl,?_,gn⟩) (λd4=>⟨trivial,oM,_,rfl,?_,gn⟩)⟩)⟩)),λb hb=> ?_⟩
 ·rw[kr (show ¬1<=p.tick by omega)];rfl
 ·rw[kr (show ¬p.tick<=1000 by omega)];simp
 ·have d3:qQ p.tick p.low=ap:=d3;rw[d3];simp
 ·have d4:qQ p.tick p.high=ap:=d4;rw[d4];simp
 ·have d3:qQ p.tick p.low=aq:=d3;have d4:qQ p.tick p.high=aq:=d4;rw[d3,d4,lg (show 1<=p.tick by omega),lg (show p.tick<=1000 by omega)];show qQ p.tick p.wide=_;simp
 subst hb;refine Cv.dp.mk (λc3=> ?_) (λc3=> ?_)
 ·have c3:(decide (1<=p.tick) && decide (p.tick<=1000) && !qQ p.tick p.low && !qQ p.tick p.high && !qQ p.tick p.wide)=aq:=by
   rw[EB]at c3;exact c3
  exact⟨(),by rw[e2,fc (by rw[et,c3];rfl)],trivial⟩
 have c3:(decide (1<=p.tick) && decide (p.tick<=1000) && !qQ p.tick p.low && !qQ p.tick p.high && !qQ p.tick p.wide)=ap:=by simpa using c3
 have ht1:1<=p.tick:=by
  simp only[kx,tw]at c3;exact c3.1.1.1.1
 rw[c3,zw]at et;refine⟨0,rfl,λj=>j<=p.settle.length/\∀k<j,∀x,p.settle[k]? =az x->qQ p.tick x=aq,λj=>p.settle.length-j,⟨oM,λk hk=>by omega⟩,?_⟩;rintro j ⟨g1,g2⟩;refine zH (λhj=> ?_) (λhj=> ?_)
 ·obtain⟨m,hm⟩:=z7 (l:=p.settle) (i:=j) oM;refine⟨⟨oM,oM⟩,m,qz hm,trivial,oM,Cv.dp.mk (λc=>⟨(),?_,trivial⟩) (λc=>⟨j+1,by rw[ir (by omega)];rfl,⟨oM,λk hk x hx=> ?_⟩,by(first|omega|(dsimp only;omega)),gn⟩)⟩
  ·have c:qQ p.tick m=ap:=c;have:p.settle.any (qQ p.tick)=ap:=by rw[List.any_eq_true];exact⟨m,lr hm,c⟩
   rw[e2,fc (by rw[et,this];rfl)]
  ·rcases uo k j with h|h
   ·exact g2 k h x hx
   ·obtain rfl:k=j:=by omega
    rw[hm]at hx;cases hx;exact c
 have et:qL p=ap:=by
  rw[et];have:p.settle.any (qQ p.tick)=aq:=by
   rw[MM];intro x hx;obtain⟨k,hk⟩:=MQ hx;rw[g2 k (by have:=(jl.1 hk).1;omega) x hk];simp
  rw[this];rfl
 have e3:p.check=if qP p then 23 else if xI p then 1 else if kG p then 31 else if qA p then 24 else 0:=by
  rw[e2,ej (by simp[et])]
 refine⟨ap,λb=>b=qP p,zH (λd1=>⟨ap,rfl,?_,gn⟩) (λd1=>zH (λd2=>⟨ap,rfl,?_,gn⟩) (λd2=>zH (λd3=>⟨ap,rfl,?_,gn⟩) (λd3=>zH (λd4=>⟨ap,rfl,?_,gn⟩) (λd4=>⟨_,rfl,?_,gn⟩)))),λb hb=> ?_⟩
 ·simp[qP,d1]
 ·simp[qP,d2]
 ·simp[qP,d3]
 ·simp[qP,d4]
 ·rw[ir (by omega)];simp[qP,d1,d2,d3,d4]
 subst hb;refine Cv.dp.mk (λc4=>⟨(),by rw[e3,fc c4],trivial⟩) (λc4=> ?_);have e4:p.check=if xI p then 1 else if kG p then 31 else if qA p then 24 else 0:=by
  rw[e3,ej (by simp[c4])]
 refine Cv.dp.mk (λd6=>⟨(),?_,trivial⟩) (λd6=> ?_)
 ·have d6:¬(p.settle.length:Int)=p.dk.length:=by simpa using d6
  rw[e4,fc (by simp[xI];omega)]
 have d6:p.settle.length=p.dk.length:=by
  have:(p.settle.length:Int)=p.dk.length:=by simpa using d6
  omega
 have je:p.settle≠[]:=by intro e;rw[e]at d6;simp at d6;omega
 refine⟨0,rfl,λj=>j<=p.settle.length/\∀k<j,∀x,p.settle[k]? =az x->p.low<=x/\x<=p.high,λj=>p.settle.length-j,⟨oM,λk hk=>by omega⟩,?_⟩;rintro j ⟨g3,g4⟩;refine zH (λhj=> ?_) (λhj=> ?_)
 ·obtain⟨m,hm⟩:=z7 (l:=p.settle) (i:=j) oM;have Nf:=lr hm;refine⟨ap,λb=>b=(decide (m<p.low)||decide (m>p.high)),⟨⟨oM,oM⟩,m,qz hm,zH (λc=>⟨ap,rfl,?_,gn⟩) (λc=>⟨⟨oM,oM⟩,m,qz hm,_,rfl,?_,gn⟩)⟩,λb hb=> ?_⟩
  ·rw[lg c];rfl
  ·rw[kr c,Kx]
  ·subst hb;refine Cv.dp.mk (λc=>⟨(),?_,trivial⟩) (λc=>⟨j+1,by rw[ir (by omega)];rfl,⟨oM,λk hk x hx=> ?_⟩,by(first|omega|(dsimp only;omega)),gn⟩)
   ·have l1:=z9t Nf;have l2:=z9h Nf;rw[e4,fc (by
     simp only[ar,tw]at c;simp only[xI,ar,tw];rcases c with c|c
     ·left;right;omega
     ·right;omega)]
   ·rcases uo k j with h|h
    ·exact g4 k h x hx
    ·obtain rfl:k=j:=by omega
     rw[hm]at hx;cases hx;simp only[KF,decide_eq_false_iff_not]at c;omega
 have qd:xI p=aq:=by
  have all:∀x∈p.settle,p.low<=x/\x<=p.high:=λx hx=>by
   obtain⟨k,hk⟩:=MQ hx;exact g4 k (by have:=(jl.1 hk).1;omega) x hk
  have a1:=all _ (zYu je);have a2:=all _ (z2e je);simp only[xI,KF,decide_eq_false_iff_not];omega
 have e5:p.check=if kG p then 31 else if qA p then 24 else 0:=by
  rw[e4,ej (by simp[qd])]
 refine⟨ap,λb=>b=kG p,zH (λd1=>⟨ap,rfl,?_,gn⟩) (λd1=>⟨_,rfl,?_,gn⟩),λb hb=> ?_⟩
 ·simp[kG,d1]
 ·simp[kG,d1]
 subst hb;refine Cv.dp.mk (λc6=>⟨(),by rw[e5,fc c6],trivial⟩) (λc6=> ?_);have e6:p.check=if qA p then 24 else 0:=by rw[e5,ej (by simp[c6])]
 refine⟨ap,λb=>b=qA p,zH (λd1=>⟨ap,rfl,?_,gn⟩) (λd1=>zH (λd2=>⟨ap,rfl,?_,gn⟩) (λd2=>zH (λd3=>⟨ap,rfl,?_,gn⟩) (λd3=>zH (λd4=>⟨ap,rfl,?_,gn⟩) (λd4=>zH (λd5=>⟨ap,rfl,?_,gn⟩) (λd5=>⟨_,rfl,?_,gn⟩))))),λb hb=> ?_⟩
 ·simp[qA,d1]
 ·simp[qA,d2]
 ·simp[qA,d3]
 ·simp[qA,d4]
 ·simp[qA,d5]
 ·simp[qA,d1,d2,d3,d4,d5]
 subst hb;exact Cv.dp.mk (λc7=>⟨(),by rw[e6,fc c7],trivial⟩) (λc7=>⟨(),by rw[e6,ej (by simp[c7])],trivial⟩)
def zQr:Bm.ok Tryz.prog 168:=gw mixed (dw yDt fg) 0 (λ_=>yHa) (λ_=>yMb) [] Tryz.func168 yJl
def pU {p:fb} (h:p.check=0):p.count=p.dk.length+p.dk.length*(p.dk.length-1) / 2:=by rw[fb.count,fc h]
def zPq {p:fb} (h:p.check≠0):p.count=0:=by rw[fb.count,ej h]
def yJn (p:fb) (h:Bl.dp p):z0x p:=by
 have hs:p.small:=h;unfold z0x tC xF zW;simp only[y4];refine⟨p,oA (iM ⟨rfl,hs,λ_ _=>Cv.dp.mk (λc=>⟨(),?_,trivial⟩) (λc=>⟨trivial,Z8,(),?_,trivial⟩)⟩)⟩
 ·rw[zPq (by simpa using c)];rfl
 ·have c:p.check=0:=by simpa using c
  have m6:=(qR c).m6;have m2:=(qR c).m2;rw[pU c];generalize p.dk.length=n at*;have:n=2\/n=3\/n=4\/n=5\/n=6:=by omega
  rcases this with rfl|rfl|rfl|rfl|rfl<;>decide
def z3s:Bl.ok Tryz.prog 117:=gw mixed (dw zQr fg) 0 (λ_=>[]) (λ_=>[]) [] Tryz.func117 yJn
def yHw:∀n≤6,∀a<n,∀b<n-1-a,kQ n (yK n a+b) n 0=((a:Int),((a+1+b:Nat):Int),ap)/\yK n a+b<n+n*(n-1) / 2/\n<=yK n a+b:=by decide
def yCo:∀n≤6,yK n n=n+n*(n-1) / 2:=by decide
def yRx {p:fb} (h:p.check=0) {a b:Nat} (ha:a<p.dk.length) (hb:b<p.dk.length-1-a):p.ga ((yK p.dk.length a+b:Nat):Int)=((a:Int),((a+1+b:Nat):Int),ap):=by
 obtain⟨h1,h2,h3⟩:=yHw _ (qR h).m6 a ha b hb;rw[fb.ga,ej (by rw[pU h];omega),ej (by omega),ow];exact h1
def yQs (i:bI) (h:C2.dp i):yBe i:=by
 have hs:i.p.small:=h;unfold yBe fL vM uV Ts fJ Tu nR zW dI;simp only[y4];refine⟨i.p,oA (iM ⟨rfl,hs,λ_ _=>Cv.dp.mk (λc=> ?_) (λc=>zH (λc1=> ?_) (λc1=>zH (λc2=> ?_) (λc2=> ?_)))⟩)⟩
 ·rw[fb.ga,fc (by rw[zPq (by simpa using c)];omega)];exact kp
 ·rw[fb.ga,fc (.inl c1)];exact kp
 ·have c:i.p.check=0:=by simpa using c
  rw[fb.ga,ej (by rw[pU c];omega),fc c2];exact kp
 ·have c:i.p.check=0:=by simpa using c
  have m6:=(qR c).m6;obtain⟨k,hk⟩:∃k:Nat,i.n=k:=⟨i.n.toNat,oM⟩
  have sp:=λ(a b:Nat) ha hb=>yRx (p:=i.p) c (a:=a) (b:=b) ha hb
  have fe:=yCo _ m6;have out:i.p.count<=k->i.p.ga (k:Int)=(0,0,aq):=λe=>by rw[fb.ga,fc (by omega)]
  rw[pU c,<- fe]at out;rw[hk]at c2 ⊢;generalize hn:i.p.dk.length=n at*;refine⟨0,rfl,rfl,λm=>m<=n/\yK n m<=k,λm=>n-m,⟨oM,by show n<=k;omega⟩,?_⟩;rintro m ⟨g1,g2⟩;have hf:=WB m6 g1;refine zH (λc4=> ?_) (λc4=> ?_)
  ·refine⟨(m,0),rfl,rfl,by rw[ir (by omega)];simp,λx=>x.1=m/\x.2<=n-1-m/\yK n m+x.2<=k,λx=>n-1-m-x.2,⟨rfl,by(first|omega|(dsimp only;omega)),by(first|omega|(dsimp only;omega))⟩,?_⟩;rintro⟨a,b⟩ ⟨g3,g4,g5⟩;dsimp only at g3 g4 g5 ⊢;subst g3;refine zH (λc5=>Cv.dp.mk (λe=> ?_) (λe=> ?_)) (λc5=> ?_)
   ·have e:((yK n a+b:Nat):Int)=(k:Int):=by simpa using e
    have:=sp a b oM oM;rw[e]at this;rw[this];exact kp
   ·have e:¬((yK n a+b:Nat):Int)=(k:Int):=by simpa using e
    refine⟨(a,b+1),?_,rfl,?_,⟨rfl,by(first|omega|(dsimp only;omega)),by(first|omega|(dsimp only;omega))⟩,by(first|omega|(dsimp only;omega)),gn⟩
    ·rw[ir (by omega)];dsimp only;omega
    ·rw[ir (by omega)];dsimp only;omega
   ·refine⟨a+1,?_,by rw[ir (by omega)];rfl,⟨oM,?_⟩,by(first|omega|(dsimp only;omega)),gn⟩
    ·rw[yK];omega
    ·rw[yK];omega
  ·obtain rfl:m=n:=by omega
   rw[out g2];exact kp
def yDm:C2.ok Tryz.prog 118:=gw mixed (dw zQr fg) 0 (λ_=>[]) (λi=>ySw i) [] Tryz.func118 yQs
def Su (x:fb):1<=zS x/\zS x<=10:=by
 have:=yV (n:=x.tick) (lo:=0) (hi:=9) oM;rw[zS];omega
def Z5 (x:fb):2<=kN x/\kN x<=5:=by
 have:=yV (n:=(x.dk.length:Int)) (lo:=0) (hi:=3) oM;rw[kN];omega
def eY {a b m n:Int} (ha:0<=a/\a<=m) (hb:0<=b/\b<=n):0<=a*b/\a*b<=m*n:=by
 refine⟨MG ha.1 hb.1,?_⟩;exact Int.le_trans (Int.mul_le_mul_of_nonneg_right ha.2 hb.1) (Ub hb.2 oM)
def zWc (j:Nat):iE (qO (j+1))=iE (qO j)++[[D.v (.int .i64 (10*(j:Int)+3))]]:=by
 rw[qO,IL,jk,iE,jk];rfl
def zWu (t:Int) (j:Nat):iE (kF t (j+1))=iE (kF t j)++[[D.v (.int .i64 (t*(10+(j:Int))))]]:=by
 rw[kF,IL,jk,iE,jk];rfl
def lJ (j:Nat):(qO j).length=j:=by simp[qO]
def m9 (t:Int) (j:Nat):(kF t j).length=j:=by simp[kF]
def y0j (x:fb) (h:Ck.dp x):yHl x:=by
 obtain⟨h1,h2,h3,h4,h5,h6,h7⟩:x.raw:=h;have hw: -1000000<=(0:Int):=by decide
 have bt:=yV (n:=x.tick) (lo:=0) (hi:=9) oM;have bw:=yV (n:=x.wide) (lo:=0) (hi:=60) oM;have br:=yV (n:=x.dr) (lo:=0) (hi:=2) oM;have bl:=yV (n:=x.least) (lo:=0) (hi:=4) oM;have bn:=yV (n:=(x.dk.length:Int)) (lo:=0) (hi:=3) oM;have kt:=Su x;have kn:=Z5 x;have w1:aa.wrap (1+zG x.tick 0 9)=zS x:=ir oM;have w2:aa.wrap (-20*aa.wrap (1+zG x.tick 0 9))= -20*zS x:=by rw[w1];exact ir oM
 have w3:aa.wrap (100*aa.wrap (1+zG x.tick 0 9))=100*zS x:=by rw[w1];exact ir oM
 have w4:aa.wrap (1+zG x.dr 0 2)=1+zG x.dr 0 2:=ir oM;have w5:aa.wrap (1+zG x.least 0 4)=1+zG x.least 0 4:=ir oM;have w6:aa.wrap (2+zG x.dk.length 0 3)=kN x:=ir oM;have mb:=eY (a:=zS x) (b:=5+zG x.wide 0 60) (m:=10) (n:=65) oM oM;have w7:aa.wrap (aa.wrap (1+zG x.tick 0 9)*aa.wrap (5+zG x.wide 0 60))=zS x*(5+zG x.wide 0 60):=by
  rw[w1,ir (x:=5+zG x.wide 0 60) (by omega)];exact ir oM
 unfold yHl gT XD Xa Xs Xe Xr kT v8 aP u9 aL x9 y5 xF dI;simp only[y4];refine⟨⟨x.dk.length,0,3⟩,rfl,rfl,rfl,⟨⟨Z9,Z9⟩,Z9,Z9,Z9⟩,λ_ _=>⟨⟨x.tick,0,9⟩,rfl,rfl,rfl,⟨h1,Z9,Z9,Z9⟩,λ_ _=> ?_⟩⟩;dsimp only;refine⟨(),λ_=>True,?_,λ_ _=> ?_⟩
 ·repeat'(first|exact trivial|exact rfl|exact w1.symm|exact w2.symm|exact w3.symm|exact w4.symm|exact w5.symm|apply au|refine⟨⟨x.dr,0,2⟩,rfl,rfl,rfl,⟨h3,Z9,Z9,Z9⟩,λ_ _=> ?_⟩|refine⟨⟨x.top,0,9⟩,rfl,rfl,rfl,⟨h4,Z9,Z9,Z9⟩,λ_ _=> ?_⟩|refine⟨⟨x.least,0,4⟩,rfl,rfl,rfl,⟨h5,Z9,Z9,Z9⟩,λ_ _=> ?_⟩|refine⟨⟨x.part,0,100⟩,rfl,rfl,rfl,⟨h6,Z9,Z9,Z9⟩,λ_ _=> ?_⟩|refine⟨(),?_⟩)
 ·refine⟨⟨x.wide,0,60⟩,rfl,rfl,rfl,⟨h2,Z9,Z9,Z9⟩,λ_ _=> ?_⟩;dsimp only;rw[w7,w6];refine⟨0,by(first|exact rfl|exact trivial),by(first|exact rfl|exact trivial),by(first|exact rfl|exact trivial),by(first|exact rfl|exact trivial),by(first|exact rfl|exact trivial),by(first|exact rfl|exact trivial),by(first|exact rfl|exact trivial),by(first|exact rfl|exact trivial),by(first|exact rfl|exact trivial),by(first|exact rfl|exact trivial),by(first|exact rfl|exact trivial),by(first|exact rfl|exact trivial),λj=>j<=(kN x).toNat,λj=>(kN x).toNat-j,oM,?_⟩;intro j hj;rw[lJ,m9];refine zH (λc=>⟨oM,oM,j+1,by rw[ir (by omega)];rfl,by(first|exact rfl|exact trivial),by(first|exact rfl|exact trivial),by(first|exact rfl|exact trivial),by(first|exact rfl|exact trivial),by(first|exact rfl|exact trivial),by(first|exact rfl|exact trivial),by(first|exact rfl|exact trivial),by(first|exact rfl|exact trivial),by(first|exact rfl|exact trivial),?_,?_,by(first|omega|(dsimp only;omega)),by(first|omega|(dsimp only;omega)),gn⟩) (λc=>⟨(),?_⟩)
  ·rw[zWc,ir (x:=10*(j:Int)) (by omega),ir (by omega)]
  ·have mj:=eY (a:=zS x) (b:=10+(j:Int)) (m:=10) (n:=20) oM oM;rw[zWu,w1,ir (x:=10+(j:Int)) (by omega),ir (by omega)]
  ·have e:(kN x).toNat=j:=by omega
   rw[e];(repeat'(first|exact trivial|exact rfl|apply au))
def F8:Ck.ok Tryz.prog 7:=gw mixed (dw Xp fg) 0 (λx=>yZr x) (λx=>yZe x) [] Tryz.func7 y0j
structure ib where
 kind:Int
 id:Int
 inst:Int
 side:Int
 dj:Int
 dq:Int
 least:Int
 time:Int
 label:List UInt8
 deriving DecidableEq
@[reducible] def ib.cells (c:ib):List V:=[zA c.kind,zA c.id,zA c.inst,zA c.side,zA c.dj,zA c.dq,zA c.least,zA c.time,sV c.label]
@[reducible] def Cs (c:ib):V:= .agg c.cells
def rf (c:ib):List D:=[.v (.int .i64 c.kind),.v (.int .i64 c.id),.v (.int .i64 c.inst),.v (.int .i64 c.side),.v (.int .i64 c.dj),.v (.int .i64 c.dq),.v (.int .i64 c.least),.v (.int .i64 c.time),.v (.string (sb c.label))]
def G0:ib:=⟨0,0,0,0,0,0,0,0,[]⟩
@[reducible] def ib.raw (c:ib):Prop:=gq c.kind/\gq c.id/\gq c.inst/\gq c.side/\gq c.dj/\gq c.dq/\gq c.least/\gq c.time
structure wz where
 p:fb
 c:ib
 i:Int
def uH (c:ib):Int:=if 4<1+zG c.kind 0 8 then 1 else 1+zG c.kind 0 8
def y6 (t:wz):ib:=⟨uH t.c,1+zG t.c.id 0 30,zG t.c.inst 0 (t.p.count-1),1+zG t.c.side 0 1,t.p.tick*zG t.c.dj 0 9,1+zG t.c.dq 0 11,0,0,[]⟩
def dH (c:ib):Int:=if c.time.tmod 5=3 then 3 else if c.time.tmod 5=2 then 2 else 1
def cP (c:ib) (q:Int):Int:=if c.least.tmod 4=1 then zG c.least 0 q else 0
def yZ (t:wz):ib:=
 let h:=y6 t
 if h.kind=1 then{h with id:=t.i+1,time:=dH t.c,least:=cP t.c h.dq,dj:=if(t.p.ga h.inst).2.2=ap then h.dj-4*t.p.tick else h.dj+8*t.p.tick}
 else{h with dj:=if h.kind=4 then h.dj+5*t.p.tick else h.dj,side:=0,inst:=0}
def Jp:fy:=fj wz (λt=>[nu t.p,Cs t.c,zA t.i]) (λ_=>[]) (λt=>t.p.check=0/\t.p.small/\t.c.raw/\0<=t.i/\t.i<=1000000) (λt=>Cs (yZ t)) (λ_=>[])
def cj (k:Nat):Nat×gj:=(k,{ι:=ib,du:=λ_=>[(7,.nm 0 0)],oP:=λ_=>[(7,.nm 0 0)],lp:=λc=>[.cells c.cells 46],rows:=λc=>[.cells c.cells 46]})
def y1t:List (Nat×gj):=[cj 14,cj 54,cj 62,cj 70]
def SM (a:ib) (b:ib) (c:ib->Prop) (d:wz):Prop:=sb a.label=sb b.label/\c a/\di (av (Sx.V.agg [V.d (dI 0),V.d (dI 0),V.d (dI 0),V.d (dI 0),V.d (dI 0),V.d (dI 0),V.d (dI 0),V.d (dI 0),V.d kT]).cl 46)/\di (av [V.d (dI d.c.kind),V.d (dI d.c.id),V.d (dI d.c.inst),V.d (dI d.c.side),V.d (dI d.c.dj),V.d (dI d.c.dq),V.d (dI d.c.least),V.d (dI d.c.time),V.d (D.v (ba (sb d.c.label)))] 46)/\di (av [V.d (D.v (ba (sb d.p.code))),V.own 0,V.d (dI d.p.tick),V.d (dI d.p.low),V.d (dI d.p.high),V.d (dI d.p.wide),V.d (dI d.p.dr),V.d (dI d.p.top),V.d (dI d.p.least),V.d (dI d.p.part),V.own 1] 25)/\di (ax 1 (iE d.p.settle))/\di (ax 1 (iE d.p.dk))
def Wo (a:ib) (b:ib) (c:ib->Prop) (d:wz):Prop:=a.time=b.time/\SM a b c d
def VX (a:ib) (b:ib) (c:ib->Prop) (d:wz):Prop:=a.id=b.id/\a.inst=b.inst/\a.side=b.side/\a.dj=b.dj/\a.dq=b.dq/\a.least=b.least/\Wo a b c d
def l8 (a:ib) (b:ib->Prop) (c:wz):Prop:=∃(d:ib),d.kind=a.kind/\VX d a b c
def Xc (a:wz) (b:qn) (c:ib):Prop:=(yZ a).dq=aa.wrap (x9 b)/\(yZ a).least=c.least/\(yZ a).time=c.time/\sb (yZ a).label=sb c.label/\True
def W2 (a:wz) (b:ib):Prop:=(yZ a).dq=b.dq/\(yZ a).least=b.least/\(yZ a).time=b.time/\sb (yZ a).label=sb b.label/\True
def yUm (t:wz):Prop:=
 ∃(a:qn),a.n=t.c.kind/\a.lo=0/\a.hi=8/\(y5 a)/\∀(b:Unit),True->∃(c:qn),c.n=t.c.id/\c.lo=0/\c.hi=30/\(y5 c)/\∀(d:Unit),True->∃(e:ib),e.kind=aa.wrap (x9 a)/\e.id=aa.wrap (x9 c)/\e.inst=0/\e.side=0/\e.dj=0/\e.dq=0/\e.least=0/\e.time=0/\sb e.label=ByteArray.mk #[]/\∃(f:ib->Prop),dp (decide (e.kind>4)) (∃(g:ib),g.kind=1/\VX g e f t) (l8 e f t)/\∀(g:ib),f g->∃(h:fb),sb h.code=sb t.p.code/\iE h.dk=iE t.p.dk/\h.tick=t.p.tick/\h.low=t.p.low/\h.high=t.p.high/\h.wide=t.p.wide/\h.dr=t.p.dr/\h.top=t.p.top/\h.least=t.p.least/\h.part=t.p.part/\iE h.settle=iE t.p.settle/\(zW h)/\∀(j:Unit),True->∃(k:qn),k.n=t.c.inst/\k.lo=0/\k.hi=aa.wrap ((↑h.count:Int)-1)/\(y5 k)/\∀(l:Unit),True->∃(m:qn),m.n=t.c.side/\m.lo=0/\m.hi=1/\(y5 m)/\∀(n:Unit),True->∃(p:qn),p.n=t.c.dq/\p.lo=0/\p.hi=11/\(y5 p)/\∀(q:Unit),True->∃(r:qn),r.n=t.c.dj/\r.lo=0/\r.hi=9/\(y5 r)/\∀(s:Unit),True->di t.p.tick/\dp (g.kind==1) (∃(u:ib),u.kind=g.kind/\u.id=aa.wrap (t.i+1)/\u.inst=zG k.n k.lo k.hi/\u.side=aa.wrap (x9 m)/\u.dj=aa.wrap (t.p.tick*zG r.n r.lo r.hi)/\u.dq=aa.wrap (x9 p)/\u.least=g.least/\u.time=1/\sb u.label=sb g.label/\∃(v:ib->Prop),(aa=aa/\(5:Int)≠(0:Int)/\dp (t.c.time.tmod (5:Int)==(2:Int)) (∃(w:ib),w.kind=u.kind/\w.id=u.id/\w.inst=u.inst/\w.side=u.side/\w.dj=u.dj/\w.dq=u.dq/\w.least=u.least/\w.time=2/\SM w u v t) (l8 u v t))/\∀(w:ib),v w->∃(x:ib),x.kind=w.kind/\x.id=w.id/\x.inst=w.inst/\x.side=w.side/\x.dj=w.dj/\x.dq=w.dq/\x.least=w.least/\x.time=w.time/\sb x.label=sb w.label/\∃(y:ib->Prop),(aa=aa/\(5:Int)≠(0:Int)/\dp (t.c.time.tmod (5:Int)==(3:Int)) (∃(z:ib),z.kind=x.kind/\z.id=x.id/\z.inst=x.inst/\z.side=x.side/\z.dj=x.dj/\z.dq=x.dq/\z.least=x.least/\z.time=3/\SM z x y t) (l8 x y t))/\∀(z:ib),y z->∃(jb:ib),jb.kind=z.kind/\jb.id=z.id/\jb.inst=z.inst/\jb.side=z.side/\jb.dj=z.dj/\jb.dq=z.dq/\jb.least=z.least/\jb.time=z.time/\sb jb.label=sb z.label/\∃(oZ:ib->Prop),(aa=aa/\(4:Int)≠(0:Int)/\dp (t.c.least.tmod (4:Int)==(1:Int)) (∃(iH:qn),iH.n=t.c.least/\iH.lo=0/\iH.hi=jb.dq/\(y5 iH)/\∀(ld:Unit),True->∃(iT:ib),iT.kind=jb.kind/\iT.id=jb.id/\iT.inst=jb.inst/\iT.side=jb.side/\iT.dj=jb.dj/\iT.dq=jb.dq/\iT.least=zG iH.n iH.lo iH.hi/\Wo iT jb oZ t) (l8 jb oZ t))/\∀(iH:ib),oZ iH->∃(ld:bI),sb ld.p.code=sb t.p.code/\iE ld.p.dk=iE t.p.dk/\ld.p.tick=t.p.tick/\ld.p.low=t.p.low/\ld.p.high=t.p.high/\ld.p.wide=t.p.wide/\ld.p.dr=t.p.dr/\ld.p.top=t.p.top/\ld.p.least=t.p.least/\ld.p.part=t.p.part/\iE ld.p.settle=iE t.p.settle/\ld.n=iH.inst/\(jI ld)/\∀(iT:Unit),True->dp (!(ld.p.ga ld.n).snd.snd) (∃(te:Unit),(yZ t).kind=iH.kind/\(yZ t).id=iH.id/\(yZ t).inst=iH.inst/\(yZ t).side=iH.side/\(yZ t).dj=aa.wrap (iH.dj+aa.wrap (8*t.p.tick))/\W2 t iH) (∃(te:Unit),(yZ t).kind=iH.kind/\(yZ t).id=iH.id/\(yZ t).inst=iH.inst/\(yZ t).side=iH.side/\(yZ t).dj=aa.wrap (iH.dj-aa.wrap (4*t.p.tick))/\W2 t iH)) (dp (g.kind==4) (∃(u:Unit),(yZ t).kind=g.kind/\(yZ t).id=g.id/\(yZ t).inst=0/\(yZ t).side=0/\(yZ t).dj=aa.wrap (aa.wrap (t.p.tick*zG r.n r.lo r.hi)+aa.wrap (5*t.p.tick))/\Xc t p g) (∃(u:Unit),(yZ t).kind=g.kind/\(yZ t).id=g.id/\(yZ t).inst=0/\(yZ t).side=0/\(yZ t).dj=aa.wrap (t.p.tick*zG r.n r.lo r.hi)/\Xc t p g))
def y3r (t:wz) (h:Jp.dp t):yUm t:=by
 obtain⟨hc,hs,⟨r1,r2,r3,r4,r5,r6,r7,r8⟩,i0,i1⟩:t.p.check=0/\t.p.small/\t.c.raw/\0<=t.i/\t.i<=1000000:=h;have ok:=qR hc;have t1:=ok.t1;have t2:=ok.t2;have m2:=ok.m2;have vz:=xR t.p;have hcd:=pU hc;have bk:=yV (n:=t.c.kind) (lo:=0) (hi:=8) oM;have bi:=yV (n:=t.c.id) (lo:=0) (hi:=30) oM;have bs:=yV (n:=t.c.side) (lo:=0) (hi:=1) oM;have bq:=yV (n:=t.c.dq) (lo:=0) (hi:=11) oM;have bp:=yV (n:=t.c.dj) (lo:=0) (hi:=9) oM;have mb:=eY (a:=t.p.tick) (b:=zG t.c.dj 0 9) (m:=1000) (n:=9) oM oM;have wp:aa.wrap (t.p.tick*zG t.c.dj 0 9)=t.p.tick*zG t.c.dj 0 9:=ir oM;unfold yUm l8 VX Wo SM kT W2 Xc x9 y5 zW jI dI;refine⟨⟨t.c.kind,0,8⟩,rfl,rfl,rfl,⟨r1,Z9,Z9,Z9⟩,λ_ _=>⟨⟨t.c.id,0,30⟩,rfl,rfl,rfl,⟨r2,Z9,Z9,Z9⟩,λ_ _=> ?_⟩⟩;dsimp only;rw[ir (x:=1+zG t.c.kind 0 8) (by omega),ir (x:=1+zG t.c.id 0 30) (by omega)];refine⟨⟨1+zG t.c.kind 0 8,1+zG t.c.id 0 30,0,0,0,0,0,0,[]⟩,gm ⟨rfl,λc=>c=⟨uH t.c,1+zG t.c.id 0 30,0,0,0,0,0,0,[]⟩,zH (λe=>⟨⟨uH t.c,1+zG t.c.id 0 30,0,0,0,0,0,0,[]⟩,?_,rfl,rfl,rfl,rfl,rfl,rfl,rfl,rfl,rfl,gn⟩) (λe=>⟨⟨uH t.c,1+zG t.c.id 0 30,0,0,0,0,0,0,[]⟩,?_,rfl,rfl,rfl,rfl,rfl,rfl,rfl,rfl,rfl,gn⟩),λc KQ=> ?_⟩⟩
 ·dsimp only at e ⊢;rw[uH,fc (by omega)]
 ·dsimp only at e ⊢;rw[uH,ej (by omega)]
 subst KQ;refine⟨t.p,oA (iM ⟨rfl,hs,λ_ _=> ?_⟩)⟩;rw[ir (x:=(t.p.count:Int)-1) (by omega)];refine⟨⟨t.c.inst,0,(t.p.count:Int)-1⟩,rfl,rfl,rfl,⟨r3,Z9,Z9,Z9⟩,λ_ _=>⟨⟨t.c.side,0,1⟩,rfl,rfl,rfl,⟨r4,Z9,Z9,Z9⟩,λ_ _=>⟨⟨t.c.dq,0,11⟩,rfl,rfl,rfl,⟨r6,Z9,Z9,Z9⟩,λ_ _=>⟨⟨t.c.dj,0,9⟩,rfl,rfl,rfl,⟨r5,Z9,Z9,Z9⟩,λ_ _=>⟨rfl,?_⟩⟩⟩⟩⟩;dsimp only;rw[wp,ir (x:=1+zG t.c.side 0 1) (by omega),ir (x:=1+zG t.c.dq 0 11) (by omega),ir (x:=t.i+1) (by omega)];refine Cv.dp.mk (λk=> ?_) (λk=> ?_)
 ·have k:uH t.c=1:=by simpa using k
  refine⟨{y6 t with id:=t.i+1,time:=1},gm ⟨rfl,λc=>c={y6 t with id:=t.i+1,time:=if t.c.time.tmod 5=2 then 2 else 1},⟨rfl,Z8,Cv.dp.mk (λe=>⟨{y6 t with id:=t.i+1,time:=2},gm ⟨rfl,?_,gn⟩⟩) (λe=>⟨{y6 t with id:=t.i+1,time:=1},gm ⟨rfl,?_,gn⟩⟩)⟩,λc KQ=> ?_⟩⟩
  ·have e:t.c.time.tmod 5=2:=by simpa using e
   rw[fc e]
  ·have e:¬t.c.time.tmod 5=2:=by simpa using e
   rw[ej e]
  subst KQ;refine⟨{y6 t with id:=t.i+1,time:=if t.c.time.tmod 5=2 then 2 else 1},gm ⟨rfl,λc=>c={y6 t with id:=t.i+1,time:=dH t.c},⟨rfl,Z8,Cv.dp.mk (λe=>⟨{y6 t with id:=t.i+1,time:=3},gm ⟨rfl,?_,gn⟩⟩) (λe=>⟨{y6 t with id:=t.i+1,time:=if t.c.time.tmod 5=2 then 2 else 1},gm ⟨rfl,?_,gn⟩⟩)⟩,λc KQ=> ?_⟩⟩
  ·have e:t.c.time.tmod 5=3:=by simpa using e
   rw[dH,fc e]
  ·have e:¬t.c.time.tmod 5=3:=by simpa using e
   rw[dH,ej e]
  subst KQ;have hq:(y6 t).dq=1+zG t.c.dq 0 11:=rfl;refine⟨{y6 t with id:=t.i+1,time:=dH t.c},gm ⟨rfl,λc=>c={y6 t with id:=t.i+1,time:=dH t.c,least:=cP t.c (y6 t).dq},⟨rfl,Z8,Cv.dp.mk (λe=>⟨⟨t.c.least,0,(y6 t).dq⟩,rfl,rfl,rfl,⟨r7,Z9,Z9,Z9⟩,λ_ _=>⟨{y6 t with id:=t.i+1,time:=dH t.c,least:=zG t.c.least 0 (y6 t).dq},gm ⟨rfl,?_,gn⟩⟩⟩) (λe=>⟨{y6 t with id:=t.i+1,time:=dH t.c},gm ⟨rfl,?_,gn⟩⟩)⟩,λc KQ=> ?_⟩⟩
  ·have e:t.c.least.tmod 4=1:=by simpa using e
   rw[cP,fc e]
  ·have e:¬t.c.least.tmod 4=1:=by simpa using e
   rw[cP,ej e];rfl
  subst KQ;refine⟨⟨t.p,(y6 t).inst⟩,gm (iM ⟨rfl,hs,λ_ _=> ?_⟩)⟩;dsimp only;have hp:(y6 t).dj=t.p.tick*zG t.c.dj 0 9:=rfl;have Dw:(y6 t).kind=1:=k;rw[ir (x:=8*t.p.tick) (by omega),ir (x:=4*t.p.tick) (by omega),ir (x:=(y6 t).dj+8*t.p.tick) (by omega),ir (x:=(y6 t).dj-4*t.p.tick) (by omega)];refine Cv.dp.mk (λe=>⟨(),?_⟩) (λe=>⟨(),?_⟩)
  ·have e:(t.p.ga (y6 t).inst).2.2=aq:=by simpa using e
   have:yZ t={y6 t with id:=t.i+1,time:=dH t.c,least:=cP t.c (y6 t).dq,dj:=(y6 t).dj+8*t.p.tick}:=by
    simp only[yZ,Dw,if_true,e,oD,if_false]
   rw[this];(repeat'(first|exact trivial|exact rfl|apply au))
  ·have e:(t.p.ga (y6 t).inst).2.2=ap:=by simpa using e
   have:yZ t={y6 t with id:=t.i+1,time:=dH t.c,least:=cP t.c (y6 t).dq,dj:=(y6 t).dj-4*t.p.tick}:=by
    simp only[yZ,Dw,if_true,e]
   rw[this];(repeat'(first|exact trivial|exact rfl|apply au))
 ·have k:¬uH t.c=1:=by simpa using k
  have k:¬(y6 t).kind=1:=k;rw[ir (x:=5*t.p.tick) (by omega),ir (x:=t.p.tick*zG t.c.dj 0 9+5*t.p.tick) (by omega)];have et:yZ t={y6 t with dj:=if(y6 t).kind=4 then(y6 t).dj+5*t.p.tick else(y6 t).dj,side:=0,inst:=0}:=by
   simp only[yZ,k,if_false]
  rw[et];refine Cv.dp.mk (λe=>⟨(),?_⟩) (λe=>⟨(),?_⟩)
  ·have e:uH t.c=4:=by simpa using e
   have e:(y6 t).kind=4:=e;simp only[fc e];(repeat'(first|exact trivial|exact rfl|apply au))
  ·have e:¬uH t.c=4:=by simpa using e
   have e:¬(y6 t).kind=4:=e;simp only[ej e];(repeat'(first|exact trivial|exact rfl|apply au))
def yRf:Jp.ok Tryz.prog 53:=gw mixed (dw Xp (dw z3s (dw yDm fg))) 0 (λ_=>y1t) (λ_=>[]) [] Tryz.func53 y3r
structure KZ where
 a:Int
 b:Int
 c:Int
def Au:fy:=fj KZ (λi=>[lD i.a,lD i.b,lD i.c]) (λ_=>[]) (λi=>0<=i.a/\0<=i.b/\0<=i.c/\i.c<=1) (λi=> .iW [lD ((i.a+i.b+i.c) % 18446744073709551616),lD ((i.a+i.b+i.c) / 18446744073709551616)]) (λ_=>[])
def yEm {P : Program} {f : FuncId} {fn : Func} (hf : P.funcs[f]? = some fn) (Bg : (fn.name == "runtime.NumGoroutine") = false) (hb : fn.body.isNone = true) (hn : Extern.findNext fn = none) (he : Extern.find fn = some add64Entry) : Au.ok P f := by
 intro i hc k L E w ys R hv;obtain⟨h1,h2,h3,h4⟩:0<=i.a/\0<=i.b/\0<=i.c/\i.c<=1:=hc;simp only[Au,fj,gp,VR,DR]at hv;obtain⟨_,_,rfl,⟨rfl,_⟩,_,_,rfl,⟨rfl,_⟩,_,_,rfl,⟨rfl,_⟩,rfl⟩:=hv;unfold mo;rw[run_callFunc_extern hf Bg hb hn he,run_add64 i.a i.b i.c h1 h2 h3 h4];simp only[Result.andThen];refine⟨_,vf.2 rfl,(),trivial,E,Ev.le.refl _,?_,R⟩;simp only[Au,fj,VR,gp,DR];exact⟨_,rfl,_,_,rfl,⟨rfl,rfl⟩,_,_,rfl,⟨rfl,rfl⟩,rfl⟩
def yDf:Au.ok Tryz.prog 271:=by
 refine yEm (P:=Tryz.prog) (f:=271) (fn:=Tryz.f271) Tryz.func271 ?_ ?_ ?_ ?_
 ·kernel_rfl
 ·kernel_rfl
 ·kernel_rfl
 ·kernel_rfl
structure M2 where
 a:Int
 b:Int
def FC:fy:=fj M2 (λi=>[lD i.a,lD i.b]) (λ_=>[]) (λi=>0<=i.a/\i.a<=2000000000/\0<=i.b/\i.b<=2000000000) (λi=> .iW [lD 0,lD (i.a*i.b)]) (λ_=>[])
def FQ:fy:=fj M2 (λi=>[lD 0,lD i.a,lD i.b]) (λ_=>[]) (λi=>0<=i.a/\i.a<=4000000000000000000/\1<=i.b/\i.b<=2000000000) (λi=> .iW [lD (i.a / i.b),lD (i.a % i.b)]) (λ_=>[])
def Da:fy:=fj KZ (λi=>[zA i.a,zA i.b,zA i.c]) (λ_=>[]) (λi=>0<=i.a/\i.a<=2000000000/\0<=i.b/\i.b<=2000000000/\1<=i.c/\i.c<=2000000000) (λi=> .iW [zA (i.a*i.b / i.c),yL ap]) (λ_=>[])
def JG:fy:=fj (List Int) (λl=>[iV l]) (λ_=>[]) (λl=>l.length<=1000/\∀x∈l,0<=x/\x<=1000000) (λl=> .iW [zA l.sum,yL ap]) (λ_=>[])
def y2r (l:List Int):List gj:=[{ι:=Nat,du:=λj=>[(4,lD (l.take j).sum),(5,zA 0),(11,zA j)],rows:=λ_=>[]}]
structure BL where
 l:List Int
 q:Int
def yX (l:List Int) (q:Int):Bool:=decide (l.length<=250) && decide (0<=q) && l.all (λn=>decide (1<=n) && decide (n<=1000000)) && decide (q<=l.sum)
def Fx:fy:=fj BL (λi=>[iV i.l,zA i.q]) (λ_=>[]) (λi=>i.l.length<=1000000/\gq i.q) (λi=>yL (yX i.l i.q)) (λ_=>[])
def yVm (i:BL):List gj:=[{ι:=Nat,du:=λj=>[(5,zA (i.l.take j).sum),(17,zA j)],rows:=λ_=>[]}]
def gA:List Int->Int->List Int
 |[],_=>[]
 |n::l,q=>min n q::gA l (q-min n q)
def gO (l:List Int) (q:Int):List Int:=if yX l q=ap then gA l q else[]
def JT:fy:=fj BL (λi=>[iV i.l,zA i.q]) (λ_=>[]) (λi=>i.l.length<=1000000/\gq i.q) (λ_=> .own 0) (λi=>[.own 2 1 (iE (gO i.l i.q))])
def y3x (i:BL):List gj:=[{ι:=Nat,du:=λj=>[(5,.own 0),(1,zA (i.q-((gA i.l i.q).take j).sum)),(15,zA j)],rows:=λj=>[.own 2 1 (iE ((gA i.l i.q).take j))]}]
def Yy (a:M2):=(ab.wrap (ab.wrap (bD ab a.a 32*BN ab a.b 4294967295)+bD ab (ab.wrap (BN ab a.a 4294967295*BN ab a.b 4294967295)) 32))
def yIe (i:M2):Prop:=
 (0:Int)<=(32:Int)/\(0:Int)<=(32:Int)/\(0:Int)<=(32:Int)/\(0:Int)<=(32:Int)/\(0:Int)<=(32:Int)/\∃(a:Unit),0=ab.wrap (ab.wrap (ab.wrap (bD ab i.a 32*bD ab i.b 32)+bD ab (Yy i) 32)+bD ab (ab.wrap (BN ab (Yy i) 4294967295+ab.wrap (BN ab i.a 4294967295*bD ab i.b 32))) 32)/\i.a*i.b=ab.wrap (i.a*i.b)/\True
def yMr (i:M2):Prop:=
 dp (i.b==0) False (dp (decide (i.b<=0)) False (ab=ab/\i.b≠0/\ab=ab/\i.b≠0/\∃(a:Unit),i.a / i.b=ab.wrap (i.a.tdiv i.b)/\i.a % i.b=i.a.tmod i.b/\True))
def yBu (i:KZ):Prop:=
 dp (decide (i.a<0)) (∃(a:Unit),i.a*i.b / i.c=0/\ap=aq/\True) (dp (decide (i.b<0)) (∃(a:Unit),i.a*i.b / i.c=0/\ap=aq/\True) (dp (decide (i.c<1)) (∃(a:Unit),i.a*i.b / i.c=0/\ap=aq/\True) (∃(a:M2),a.a=ab.wrap i.a/\a.b=ab.wrap i.b/\(0<=a.a/\a.a<=(2000000000:Int)/\(0:Int)<=a.b/\a.b<=2000000000)/\∀(b:Unit),True->dp (decide (0>=ab.wrap i.c)) (∃(c:Unit),i.a*i.b / i.c=0/\ap=aq/\True) (∃(c:M2),di ((0:Int))/\c.a=a.a*a.b/\c.b=ab.wrap i.c/\(0<=c.a/\c.a<=(4000000000000000000:Int)/\(1:Int)<=c.b/\c.b<=2000000000)/\∀(d:Unit),True->dp (decide (c.a / c.b>9223372036854775807)) (∃(e:Unit),i.a*i.b / i.c=0/\ap=aq/\True) (∃(e:Unit),i.a*i.b / i.c=aa.wrap (c.a / c.b)/\ap=ap/\True)))))
def yVc (l:List Int):Prop:=
 ∃(a:Nat),(ae a l).sum=(0:Int)/\(0:Int)=0/\(↑a:Int)=0/\∃(b:Nat->Prop),∃(c:Nat->Nat),b a/\∀(d:Nat),b d->dp (decide ((↑d:Int)<(↑(iE l).length:Int))) ((0<=(↑d:Int)/\(↑d:Int)<(↑(iE l).length:Int))/\∃(e:Int),zD (iE l) (↑d:Int).toNat 0 1=az [dI e]/\∃(f:KZ),f.a=(ae d l).sum/\f.b=ab.wrap e/\f.c=0/\(0<=f.a/\0<=f.b/\0<=f.c/\f.c<=1)/\∀(g:Unit),True->(0:Int)<=(63:Int)/\∃(h:Nat),(ae h l).sum=(f.a+f.b+f.c) % (18446744073709551616:Int)/\(0:Int)=aa.wrap (0+aa.wrap (bD aa e 63+aa.wrap ((f.a+f.b+f.c) / (18446744073709551616:Int))))/\kA h d b c) ((0:Int)<=(63:Int)/\dp (0 !=bD aa (aa.wrap (ae d l).sum) 63) (∃(e:Unit),l.sum=0/\ap=aq/\True) (∃(e:Unit),l.sum=aa.wrap (ae d l).sum/\ap=ap/\True))
def yJj (i:BL):Prop:=
 dp (decide ((↑(iE i.l).length:Int)>250)) (∃(a:Unit),yX i.l i.q=aq/\True) (dp (decide (i.q<0)) (∃(a:Unit),yX i.l i.q=aq/\True) (∃(a:Nat),(ae a i.l).sum=0/\(↑a:Int)=0/\∃(b:Nat->Prop),∃(c:Nat->Nat),b a/\∀(d:Nat),b d->dp (decide ((↑d:Int)<(↑(iE i.l).length:Int))) ((0<=(↑d:Int)/\(↑d:Int)<(↑(iE i.l).length:Int))/\∃(e:Int),zD (iE i.l) (↑d:Int).toNat 0 1=az [dI e]/\dp (decide (e<1)) (∃(f:Unit),yX i.l i.q=aq/\True) (dp (decide (e>1000000)) (∃(f:Unit),yX i.l i.q=aq/\True) (∃(f:Nat),(ae f i.l).sum=aa.wrap ((ae d i.l).sum+e)/\kA f d b c))) (∃(e:Unit),yX i.l i.q=decide (i.q<=(ae d i.l).sum)/\True)))
def wI (a:BL):Prop:=a.l.length<=(1000000:Nat)/\(-9223372036854775808:Int)<=a.q/\a.q<=9223372036854775807
def wG (a:Nat) (b:BL):=(ae a (gA b.l b.q))
def yVa (i:BL):Prop:=
 ∃(a:BL),iE a.l=iE i.l/\a.q=i.q/\(wI a)/\∀(b:Unit),True->dp (!yX a.l a.q) (∃(c:Unit),iE (gO i.l i.q)=[]/\True) (∃(c:Nat),i.q-(wG c i).sum=i.q/\(↑c:Int)=0/\iE (wG c i)=[]/\∃(d:Nat->Prop),∃(e:Nat->Nat),d c/\∀(f:Nat),d f->dp (decide ((↑f:Int)<(↑(iE i.l).length:Int))) ((0<=(↑f:Int)/\(↑f:Int)<(↑(iE i.l).length:Int))/\∃(g:Int),zD (iE i.l) (↑f:Int).toNat 0 1=az [dI g]/\((iE (wG f i)).length+1)*(8:Nat)<=(140737488355328:Nat)/\∃(h:Nat),i.q-(wG h i).sum=aa.wrap (i.q-(wG f i).sum-min g (i.q-(wG f i).sum))/\(↑h:Int)=aa.wrap ((↑f:Int)+1)/\iE (wG h i)=iE (wG f i)++[[dI (min g (i.q-(wG f i).sum))]]/\d h/\e h<e f/\True) (∃(g:Unit),iE (gO i.l i.q)=iE (wG f i)/\True))
def U0 {x:Int} (h0:0<=x) (h1:x<4294967296):BN .u64 x 4294967295=x:=by
 have e:BN .u64 x 4294967295=ab.wrap ((BitVec.ofInt 64 x &&& BitVec.ofInt 64 4294967295).toNat:Int):=rfl;obtain⟨n,rfl⟩:=Int.eq_ofNat_of_zero_le h0;have hn:n<4294967296:=by omega
 rw[e,BitVec.toNat_and,BitVec.ofInt_natCast,BitVec.toNat_ofNat,show(BitVec.ofInt 64 4294967295).toNat=2 ^ 32-1 by decide,Nat.and_two_pow_sub_one_eq_mod];rw[show n % 2 ^ 64 % 2 ^ 32=n by omega,Bw (by omega)]
def Si {x:Int} (h0:0<=x) (h1:x<4294967296):bD .u64 x 32=0:=by
 have:=N6 .u64 x 32 Z8;rw[show((32:Nat):Int)=32 by rfl]at this;rw[this];omega
def z9n {a b m n:Int} (ha:0<=a/\a<=m) (hb:0<=b/\b<=n):0<=a*b/\a*b<=m*n:=
 ⟨MG ha.1 hb.1,Int.mul_le_mul ha.2 hb.2 hb.1 oM⟩
def yVt (i:M2) (h:FC.dp i):yIe i:=by
 obtain⟨h1,h2,h3,h4⟩:0<=i.a/\i.a<=2000000000/\0<=i.b/\i.b<=2000000000:=h;have hm:=z9n ⟨h1,h2⟩ ⟨h3,h4⟩;have hs:bD ab (i.a*i.b) 32=(i.a*i.b) / 4294967296:=by
  have:=N6 .u64 (i.a*i.b) 32 Z8;rw[show((32:Nat):Int)=32 by rfl]at this;exact this
 unfold yIe Yy;refine⟨Z8,Z8,Z8,Z8,Z8,(),?_,?_,trivial⟩
 ·rw[U0 h1 (by omega),U0 h3 (by omega),Si h1 (by omega),Si h3 (by omega),Bw (x:=i.a*i.b) (by omega),hs];simp only[Int.zero_mul,Int.mul_zero,Int.zero_add,Int.add_zero];rw[Bw (x:=0) (by omega)];simp only[Int.zero_add,Int.add_zero];rw[Bw (x:=i.a*i.b / 4294967296) (by omega),Si (x:=i.a*i.b / 4294967296) (by omega) (by omega),U0 (x:=i.a*i.b / 4294967296) (by omega) (by omega),Bw (x:=i.a*i.b / 4294967296) (by omega),Si (x:=i.a*i.b / 4294967296) (by omega) (by omega)];rfl
 ·rw[Bw (by omega)]
def yFt:FC.ok Tryz.prog 265:=gw mixed fg 0 (λ_=>[]) (λ_=>[]) [] Tryz.func265 yVt
def yVu (i:M2) (h:FQ.dp i):yMr i:=by
 obtain⟨h1,h2,h3,h4⟩:0<=i.a/\i.a<=4000000000000000000/\1<=i.b/\i.b<=2000000000:=h;unfold yMr;have hd:0<=i.a / i.b/\i.a / i.b<=i.a:=⟨Int.ediv_nonneg h1 oM,Int.ediv_le_self _ h1⟩
 refine Cv.dp.mk (λc=>absurd (eq_of_beq c) oM) (λ_=>zH (λc=>by omega) (λ_=>⟨rfl,oM,rfl,oM,(),?_,?_,trivial⟩))
 ·rw[Int.tdiv_eq_ediv_of_nonneg h1,Bw (by omega)]
 ·rw[Int.tmod_eq_emod_of_nonneg h1]
def yGo:FQ.ok Tryz.prog 266:=gw mixed fg 0 (λ_=>[]) (λ_=>[]) [] Tryz.func266 yVu
def yNv (i:KZ) (h:Da.dp i):yBu i:=by
 obtain⟨h1,h2,h3,h4,h5,h6⟩:0<=i.a/\i.a<=2000000000/\0<=i.b/\i.b<=2000000000/\1<=i.c/\i.c<=2000000000:=h;have hm:=z9n ⟨h1,h2⟩ ⟨h3,h4⟩;have hd:0<=i.a*i.b / i.c/\i.a*i.b / i.c<=i.a*i.b:=⟨Int.ediv_nonneg hm.1 oM,Int.ediv_le_self _ hm.1⟩
 unfold yBu;rw[Bw (x:=i.a) (by omega),Bw (x:=i.b) (by omega),Bw (x:=i.c) (by omega)];refine zH (λc=>by omega) (λ_=>zH (λc=>by omega) (λ_=>zH (λc=>by omega) (λ_=>⟨⟨i.a,i.b⟩,rfl,rfl,⟨h1,h2,h3,h4⟩,λ_ _=>zH (λc=>by omega) (λ_=>⟨⟨i.a*i.b,i.c⟩,rfl,rfl,rfl,⟨hm.1,Z9,h5,h6⟩,λ_ _=>zH (λc=>by dsimp only at c;omega) (λ_=>⟨(),?_,rfl,trivial⟩)⟩)⟩)));rw[ir (by dsimp only;omega)]
def zUp:Da.ok Tryz.prog 261:=gw mixed (dw yFt (dw yGo fg)) 0 (λ_=>[]) (λ_=>[]) [] Tryz.func261 yNv
def qw {j:Nat} (h:j<=1000000):((j+1:Nat):Int)=aa.wrap ((j:Int)+1):=by rw[ir (by omega)];rfl
def j6 {l:List Int} {j:Nat} {x:Int} (h:l[j]? =az x):(l.take (j+1)).sum=(l.take j).sum+x:=by
 rw[sm,h];simp
def jU {l:List Int} (h:∀x∈l,0<=x/\x<=1000000):∀j:Nat,0<=(l.take j).sum/\(l.take j).sum<=1000000*j
 |0=>by simp
 |j+1=>by
  have ih:=jU h j;cases hx:l[j]? with
  |none=>
   have:l.take (j+1)=l.take j:=by
    rw[sm,hx];simp
   rw[this];omega
  |some x=>
   have:=h x (lr hx);rw[j6 hx];omega
def y5s (l:List Int) (h:JG.dp l):yVc l:=by
 obtain⟨hl,hb⟩:l.length<=1000/\∀x∈l,0<=x/\x<=1000000:=h;unfold yVc kA dI;simp only[y4];refine⟨0,by(first|exact rfl|exact trivial),by(first|exact rfl|exact trivial),by(first|exact rfl|exact trivial),λj=>j<=l.length,λj=>l.length-j,my _,λj hj=>zH (λc=> ?_) (λc=> ?_)⟩
 ·have oh:j<l.length:=by omega
  obtain⟨x,hx⟩:=z7 (l:=l) (i:=j) oh;have bx:=hb x (lr hx);have bs:=jU hb j;refine⟨⟨oM,oM⟩,x,qz hx,⟨(l.take j).sum,x,0⟩,rfl,by rw[Bw (by omega)],rfl,⟨bs.1,bx.1,Z9,Z9⟩,λ_ _=>⟨Z8,j+1,?_,?_,qw oM,oh,Z9,trivial⟩⟩
  ·rw[j6 hx];dsimp only;omega
  ·have e:bD aa x 63=x / 9223372036854775808:=by
    have:=N6 .i64 x 63 Z8;rw[show((63:Nat):Int)=63 by rfl]at this;exact this
   dsimp only;rw[e,show x / 9223372036854775808=0 by omega,show((l.take j).sum+x+0) / 18446744073709551616=0 by omega];rfl
 ·have oh:j=l.length:=by omega
  subst oh;have bs:=jU hb l.length;rw[By]at bs;have e:bD aa l.sum 63=l.sum / 9223372036854775808:=by
   have:=N6 .i64 l.sum 63 Z8;rw[show((63:Nat):Int)=63 by rfl]at this;exact this
  rw[By,ir (x:=l.sum) (by omega),e,show l.sum / 9223372036854775808=0 by omega];exact⟨Z8,Cv.dp.mk (λc=>absurd c Z8) (λ_=>⟨(),by(first|exact rfl|exact trivial),by(first|exact rfl|exact trivial),trivial⟩)⟩
def yOw:JG.ok Tryz.prog 268:=gw mixed (dw yDf fg) 0 (λ_=>[]) (λl=>y2r l) [] Tryz.func268 y5s
def yWl (i:BL) (h:Fx.dp i):yJj i:=by
 obtain⟨hl,hq⟩:i.l.length<=1000000/\gq i.q:=h;unfold yJj kA dI;simp only[y4];refine zH (λc=>⟨(),?_,trivial⟩) (λc1=>zH (λc=>⟨(),?_,trivial⟩) (λc2=> ?_))
 ·rw[yX,kr (by omega:¬i.l.length<=250)];rfl
 ·rw[yX,kr (by omega:¬0<=i.q)];simp
 refine⟨0,by(first|exact rfl|exact trivial),by(first|exact rfl|exact trivial),λj=>j<=i.l.length/\∀k<j,∀x,i.l[k]? =az x->1<=x/\x<=1000000,λj=>i.l.length-j,⟨my _,λk hk=>absurd hk (Nat.not_lt_zero k)⟩,λj hj=>zH (λc=> ?_) (λc=> ?_)⟩
 ·obtain⟨hj0,UJ⟩:=hj;have oh:j<i.l.length:=by omega
  obtain⟨x,hx⟩:=z7 (l:=i.l) (i:=j) oh;have bad (hn:¬(1<=x/\x<=1000000)):yX i.l i.q=aq:=by
   have:(i.l.all λn=>decide (1<=n) && decide (n<=1000000))=aq:=by
    rw[List.all_eq_false];exact⟨x,lr hx,by simpa using hn⟩
   rw[yX,this];simp
  have bs:0<=(i.l.take j).sum/\(i.l.take j).sum<=1000000*j:=by
   have:=jU (l:=i.l.take j) (λy hy=>by
    obtain⟨k,hk⟩:=BU.1 hy;have UI:k<j:=by
     have:=(jl.1 hk).1;rw[oe]at this;omega
    rw[List.getElem?_take_of_lt UI]at hk;have:=UJ k UI y hk;omega) j
   rwa [List.take_take,Nat.min_self]at this
  refine⟨⟨oM,oM⟩,x,qz hx,zH (λd=>⟨(),bad oM,trivial⟩) (λd=>zH (λe=>⟨(),bad oM,trivial⟩) (λe=>⟨j+1,?_,qw oM,⟨oh,λk hk y hy=> ?_⟩,Z9,trivial⟩))⟩
  ·rw[j6 hx,ir (by omega)]
  ·by_cases UI:k=j
   ·rw[UI,hx]at hy;cases hy;omega
   ·exact UJ k oM y hy
 ·obtain⟨hj0,UJ⟩:=hj;have oh:j=i.l.length:=by omega
  subst oh;have:(i.l.all λn=>decide (1<=n) && decide (n<=1000000))=ap:=by
   rw[Dp];intro y hy;obtain⟨k,hk⟩:=BU.1 hy;have:=UJ k ((jl.1 hk).1) y hk;simpa using this
  refine⟨(),?_,trivial⟩;rw[yX,this,lg (by omega:i.l.length<=250),lg (by omega:0<=i.q),By];rfl
def SU:Fx.ok Tryz.prog 259:=gw mixed fg 0 (λ_=>[]) (λi=>yVm i) [] Tryz.func259 yWl
def jJ {l:List Int} {q:Int} (h:yX l q=ap):l.length<=250/\0<=q/\(∀x∈l,1<=x/\x<=1000000)/\q<=l.sum:=by
 simp only[yX,kx,tw,Dp]at h;exact⟨h.1.1.1,h.1.1.2,h.1.2,h.2⟩
def Sa {l:List Int} {q:Int} (h:yX l q=ap):q<=250000000:=by
 obtain⟨h1,h2,h3,h4⟩:=jJ h;have:=jU (l:=l) (λx hx=>by have:=h3 x hx;omega) l.length;rw[By]at this;omega
def l5:∀(l:List Int) (q:Int),(gA l q).length=l.length
 |[],_=>rfl
 |n::l,q=>by rw[gA,iD,iD,l5 l]
def Wi:∀(l:List Int) (q:Int) (j:Nat) (n:Int),l[j]? =az n->(gA l q)[j]? =az (min n (q-((gA l q).take j).sum))
 |[],_,_,_,h=>by simp at h
 |m::l,q,0,n,h=>by simp at h;subst h;simp[gA]
 |m::l,q,j+1,n,h=>by
  rw[AS]at h;rw[gA,AS,Wi l _ j n h,vg,qv];congr 2;omega
def Xv:∀(l:List Int) (q:Int) (j:Nat),0<=q->(∀x∈l,0<=x)->0<=q-((gA l q).take j).sum/\q-((gA l q).take j).sum<=q
 |[],q,j,h,_=>by simp[gA,h]
 |m::l,q,0,h,_=>by simp[h]
 |m::l,q,j+1,h,hb=>by
  have hm:=hb m ji;have:=Xv l (q-min m q) j oM (λx hx=>hb x (jw _ hx));rw[gA,vg,qv];omega
def y4x (i:BL) (h:JT.dp i):yVa i:=by
 obtain⟨hl,hq⟩:i.l.length<=1000000/\gq i.q:=h;unfold yVa wG wI dI;refine⟨i,rfl,rfl,⟨hl,hq⟩,λ_ _=>Cv.dp.mk (λc=> ?_) (λc=> ?_)⟩
 ·have c:yX i.l i.q=aq:=by simpa using c
  refine⟨(),?_,trivial⟩;rw[gO,ej (by rw[c];decide)];rfl
 have c:yX i.l i.q=ap:=by simpa using c
 obtain⟨h1,h2,h3,h4⟩:=jJ c;have qk:=Sa c;have h3':∀x∈i.l,0<=x:=λx hx=>by have:=h3 x hx;omega
 simp only[y4];refine⟨0,by simp,rfl,rfl,λj=>j<=i.l.length,λj=>i.l.length-j,my _,λj hj=>zH (λd=> ?_) (λd=> ?_)⟩
 ·have oh:j<i.l.length:=by omega
  obtain⟨x,hx⟩:=z7 (l:=i.l) (i:=j) oh;have bx:=h3 x (lr hx);have g:=Wi i.l i.q j x hx;have r:=Xv i.l i.q j h2 h3';refine⟨⟨oM,oM⟩,x,qz hx,by rw[oe];omega,j+1,?_,qw oM,?_,oh,Z9,trivial⟩
  ·rw[j6 g,ir (by omega)];omega
  ·rw[sm,g];simp[iE]
 ·have oh:j=i.l.length:=by omega
  subst oh;refine⟨(),?_,trivial⟩;rw[gO,fc c,og (by rw[l5];omega)]
def yBj:JT.ok Tryz.prog 248:=gw mixed (dw SU fg) 0 (λ_=>[]) (λi=>y3x i) [] Tryz.func248 y4x
structure DB where
 slot:Int
 id:Int
 dq:Int
 top:Bool
 deriving DecidableEq
def y1z:DB:=⟨0,0,0,aq⟩
def DV (e:DB):List D:=[.v (.int .i64 e.slot),.v (.int .i64 e.id),.v (.int .i64 e.dq),.v (.bool e.top)]
@[reducible] def y6v (e:DB):V:= .agg [zA e.slot,zA e.id,zA e.dq,yL e.top]
def Slot.oX (s:Slot):DB:=⟨s.n,s.id,s.dq,s.top⟩
def dt.ei (a:dt) (k:Nat):Slot:=a.du.getD k iB
def dt.mz (a:dt) (n:Int):DB×Bool:=if a.iw n=ap then((a.ei n.toNat).oX,ap)else(y1z,aq)
def J3:fy:=fj vp (λi=>[.nm 0 0,zA i.n]) (λi=>[j0 i.a]) (λi=>i.a.du.length<=1000000) (λi=> .iW [y6v (i.a.mz i.n).1,yL (i.a.mz i.n).2]) (λi=>[j0 i.a])
def Nx (sl:List Slot):Int->List Nat->Prop
 |at_,[]=>at_= -1
 |at_,k::l=>at_=k/\k<sl.length/\Nx sl (sl.getD k iB).back l
structure K5 where
 a:dt
 n:Int
 l:List Nat
def eK (l:List Nat) (j:Nat):Int:=match l[j]? with
 |some k=>k
 |none=> -1
def dt.fq (a:dt) (l:List Nat):List DB:=l.map λk=>(a.ei k).oX
structure dt.pd (a:dt) (n:Int) (l:List Nat):Prop where
 len:l.length<=1000000
 ch:if 0<=n/\n<a.dx.length then Nx a.du (a.dx.getD n.toNat mS).first l else l=[]
def F3:fy:=fj K5 (λi=>[.nm 0 0,zA i.n]) (λi=>[j0 i.a]) (λi=>i.a.pd i.n i.l) (λ_=> .own 1) (λi=>[j0 i.a,.own 312 4 ((i.a.fq i.l).map DV)])
def yWg (i:K5):List gj:=[{ι:=Nat,du:=λj=>[(5,.own 0),(6,zA (eK i.l j))],rows:=λj=>[.own 312 4 ((i.a.fq (i.l.take j)).map DV)]}]
structure B2 where
 a:dt
 n:Int
 dq:Int
def dt.iG (a:dt) (k:Nat):dt:=
 let s:=a.ei k
 let q:=a.dx.getD s.queue.toNat mS
 let zz:=if s.ahead= -1 then a.du else a.du.modify s.ahead.toNat λx=>{x with back:=s.back}
 let CA:=if s.back= -1 then zz else zz.modify s.back.toNat λx=>{x with ahead:=s.ahead}
 ⟨CA.set k iB,a.dx.set s.queue.toNat ⟨if s.ahead= -1 then s.back else q.first,if s.back= -1 then s.ahead else q.last,q.total,aa.wrap (q.count-1)⟩,aa.wrap (a.free+1)⟩
def dt.less (a:dt) (k:Nat) (dq:Int):dt:=
 {a with du:=a.du.modify k λs=>{s with dq:=s.dq-dq},dx:=a.dx.modify (a.ei k).queue.toNat λq=>{q with total:=aa.wrap (q.total-dq)}}
def dt.gf (a:dt) (n dq:Int):dt×Int:=
 if a.iw n=aq then(a,26)else if dq<1\/(a.ei n.toNat).dq<dq then(a,24)
 else if(a.ei n.toNat).dq=dq then((a.less n.toNat dq).iG n.toNat,0)else(a.less n.toNat dq,0)
def dt.DD (a:dt):Prop:=a.du.length<=1000000/\∀(k:Nat) (s:Slot),a.du[k]? =az s->s.used=ap->(0<=s.queue/\s.queue<a.dx.length)/\s.dq<=1000000/\(s.ahead= -1\/(0<=s.ahead/\s.ahead<a.du.length/\s.ahead≠k))/\(s.back= -1\/(0<=s.back/\s.back<a.du.length/\s.back≠k))
def FZ:fy:=fj B2 (λi=>[.nm 0 0,zA i.n,zA i.dq]) (λi=>[j0 i.a]) (λi=>i.a.DD) (λi=>zA (i.a.gf i.n i.dq).2) (λi=>[j0 (i.a.gf i.n i.dq).1])
def SY (a:vp):Prop:=∃(b:Unit),(a.a.mz a.n).fst.slot=0/\(a.a.mz a.n).fst.id=0/\(a.a.mz a.n).fst.dq=0/\(a.a.mz a.n).fst.top=aq/\(a.a.mz a.n).snd=aq/\jL a
def yTu (i:vp):Prop:=
 dp (decide (i.n<0)) (SY i) (dp (decide (i.n>=(↑(ac zR i.a.du).length:Int))) (SY i) ((0<=i.n/\i.n<(↑(ac zR i.a.du).length:Int))/\∃(a:Bool),zD (ac zR i.a.du) i.n.toNat 0 1=az [D.v (.bool a)]/\dp (!a) (SY i) ((0<=i.n/\i.n<(↑(ac zR i.a.du).length:Int))/\∃(b:Int),∃(c:Int),∃(d:Int),∃(e:Bool),zD (ac zR i.a.du) i.n.toNat 1 4=az [dI b,dI c,dI d,D.v (.bool e)]/\∃(f:Unit),(i.a.mz i.n).fst.slot=b/\(i.a.mz i.n).fst.id=c/\(i.a.mz i.n).fst.dq=d/\(i.a.mz i.n).fst.top=e/\(i.a.mz i.n).snd=ap/\jL i)))
def X9 (a:K5):Prop:=∃(b:Unit),di a.a.free/\di (ac zR a.a.du)/\di (ac zP a.a.dx)/\ac DV (a.a.fq a.l)=[]/\True
def yJe (i:K5):Prop:=
 dp (decide (i.n>=0)) (dp (!decide (i.n<(↑(ac zP i.a.dx).length:Int))) (X9 i) ((0<=i.n/\i.n<(↑(ac zP i.a.dx).length:Int))/\∃(a:Int),zD (ac zP i.a.dx) i.n.toNat 0 1=az [dI a]/\∃(b:Nat),eK i.l b=a/\ac DV (i.a.fq (ae b i.l))=[]/\∃(c:Nat->Prop),∃(d:Nat->Nat),c b/\∀(e:Nat),c e->dp (eK i.l e !=(-1)) ((0<=eK i.l e/\eK i.l e<(↑(ac zR i.a.du).length:Int))/\∃(f:Int),∃(g:Int),∃(h:Int),∃(j:Bool),zD (ac zR i.a.du) (eK i.l e).toNat 1 4=az [dI f,dI g,dI h,D.v (.bool j)]/\((ac DV (i.a.fq (ae e i.l))).length+1)*(32:Nat)<=(140737488355328:Nat)/\(0<=eK i.l e/\eK i.l e<(↑(ac zR i.a.du).length:Int))/\∃(k:Int),zD (ac zR i.a.du) (eK i.l e).toNat 7 1=az [dI k]/\∃(l:Nat),eK i.l l=k/\ac DV (i.a.fq (ae l i.l))=ac DV (i.a.fq (ae e i.l))++[[dI f,dI g,dI h,D.v (.bool j)]]/\c l/\d l<d e/\di (av [V.own 1,V.own 2,V.d (dI i.a.free)] (317:TypeId))/\di (aw 314 8 (ac zR i.a.du))/\di (aw 320 4 (ac zP i.a.dx))) (∃(f:Unit),di i.a.free/\di (ac zR i.a.du)/\di (ac zP i.a.dx)/\ac DV (i.a.fq i.l)=ac DV (i.a.fq (ae e i.l))/\True))) (X9 i)
def Yb (a:B2):Prop:=(a.a.gf a.n a.dq).fst.free=a.a.free/\ac zR (a.a.gf a.n a.dq).fst.du=ac zR a.a.du/\ac zP (a.a.gf a.n a.dq).fst.dx=ac zP a.a.dx/\True
def tE (a:B2):Prop:=∃(b:Unit),(a.a.gf a.n a.dq).snd=26/\Yb a
def XY (a:B2):Prop:=∃(b:Unit),(a.a.gf a.n a.dq).snd=24/\Yb a
def vD (a:B2) (b:Int) (c:Int):=(zV (ac zP a.a.dx) b.toNat 2 [dI (aa.wrap (c-a.dq))])
def dR (a:B2) (b:Int) (c:Int) (d:Int) (e:Int):=(zV (vD a b c) d.toNat 0 [dI e])
def tX (a:B2) (b:Int) (c:Int) (d:Int) (e:Int) (f:Int):=(zV (dR a b c d e) d.toNat 1 [dI f])
def y8 (a:B2) (b:Int):=(zV (ac zR a.a.du) a.n.toNat 3 [dI (aa.wrap (b-a.dq))])
def Yc (a:Int) (b:B2) (c:Int):Prop:=0<=a/\a<(↑(y8 b c).length:Int)
def kV (a:B2) (b:Int) (c:Int) (d:Int):=(zV (y8 a b) c.toNat 7 [dI d])
def rY (a:B2) (b:Int) (c:Int) (d:Int) (e:Int):=(zV (vD a b c) d.toNat 1 [dI e])
def yNa (i:B2):Prop:=
 dp (decide (i.n<0)) (tE i) (dp (decide (i.n>=(↑(ac zR i.a.du).length:Int))) (tE i) ((0<=i.n/\i.n<(↑(ac zR i.a.du).length:Int))/\∃(a:Bool),zD (ac zR i.a.du) i.n.toNat 0 1=az [D.v (.bool a)]/\dp (!a) (tE i) ((0<=i.n/\i.n<(↑(ac zR i.a.du).length:Int))/\dp (decide (i.dq<1)) (XY i) (∃(b:Int),zD (ac zR i.a.du) i.n.toNat 3 1=az [dI b]/\dp (decide (i.dq>b)) (XY i) (∃(c:Int),zD (ac zR i.a.du) i.n.toNat 3 1=az [dI c]/\i.n.toNat<(ac zR i.a.du).length/\∃(d:Int),zD (y8 i c) i.n.toNat 5 1=az [dI d]/\(0<=d/\d<(↑(ac zP i.a.dx).length:Int))/\∃(e:Int),zD (ac zP i.a.dx) d.toNat 2 1=az [dI e]/\(0<=d/\d<(↑(ac zP i.a.dx).length:Int))/\d.toNat<(ac zP i.a.dx).length/\∃(f:Int),zD (y8 i c) i.n.toNat 3 1=az [dI f]/\dp (f==0) (∃(g:Int),zD (y8 i c) i.n.toNat 5 1=az [dI g]/\(0<=g/\g<(↑(vD i d e).length:Int))/\∃(h:Int),zD (y8 i c) i.n.toNat 6 1=az [dI h]/\dp (h==(-1)) (∃(j:Int),zD (y8 i c) i.n.toNat 7 1=az [dI j]/\g.toNat<(vD i d e).length/\∃(k:Int),zD (y8 i c) i.n.toNat 7 1=az [dI k]/\dp (k==(-1)) (∃(l:Int),zD (y8 i c) i.n.toNat 6 1=az [dI l]/\g.toNat<(dR i d e g j).length/\∃(m:Int),zD (tX i d e g j l) g.toNat 3 1=az [dI m]/\g.toNat<(tX i d e g j l).length/\i.n.toNat<(y8 i c).length/\∃(n:Unit),(i.a.gf i.n i.dq).snd=0/\(i.a.gf i.n i.dq).fst.free=aa.wrap (i.a.free+1)/\ac zR (i.a.gf i.n i.dq).fst.du=zV (y8 i c) i.n.toNat 0 [D.v (.bool aq),dI 0,dI 0,dI 0,D.v (.bool aq),dI 0,dI 0,dI 0]/\ac zP (i.a.gf i.n i.dq).fst.dx=zV (tX i d e g j l) g.toNat 3 [dI (aa.wrap (m-1))]/\True) (∃(l:Int),zD (y8 i c) i.n.toNat 7 1=az [dI l]/\∃(m:Int),zD (y8 i c) i.n.toNat 6 1=az [dI m]/\(Yc l i c)/\l.toNat<(y8 i c).length/\∃(n:Int),zD (dR i d e g j) g.toNat 3 1=az [dI n]/\g.toNat<(dR i d e g j).length/\i.n.toNat<(zV (y8 i c) l.toNat 6 [dI m]).length/\∃(p:Unit),(i.a.gf i.n i.dq).snd=0/\(i.a.gf i.n i.dq).fst.free=aa.wrap (i.a.free+1)/\ac zR (i.a.gf i.n i.dq).fst.du=zV (zV (y8 i c) l.toNat 6 [dI m]) i.n.toNat 0 [D.v (.bool aq),dI 0,dI 0,dI 0,D.v (.bool aq),dI 0,dI 0,dI 0]/\ac zP (i.a.gf i.n i.dq).fst.dx=zV (dR i d e g j) g.toNat 3 [dI (aa.wrap (n-1))]/\True)) (∃(j:Int),zD (y8 i c) i.n.toNat 6 1=az [dI j]/\∃(k:Int),zD (y8 i c) i.n.toNat 7 1=az [dI k]/\(Yc j i c)/\j.toNat<(y8 i c).length/\∃(l:Int),zD (kV i c j k) i.n.toNat 7 1=az [dI l]/\dp (l==(-1)) (∃(m:Int),zD (kV i c j k) i.n.toNat 6 1=az [dI m]/\g.toNat<(vD i d e).length/\∃(n:Int),zD (rY i d e g m) g.toNat 3 1=az [dI n]/\g.toNat<(rY i d e g m).length/\i.n.toNat<(kV i c j k).length/\∃(p:Unit),(i.a.gf i.n i.dq).snd=0/\(i.a.gf i.n i.dq).fst.free=aa.wrap (i.a.free+1)/\ac zR (i.a.gf i.n i.dq).fst.du=zV (kV i c j k) i.n.toNat 0 [D.v (.bool aq),dI 0,dI 0,dI 0,D.v (.bool aq),dI 0,dI 0,dI 0]/\ac zP (i.a.gf i.n i.dq).fst.dx=zV (rY i d e g m) g.toNat 3 [dI (aa.wrap (n-1))]/\True) (∃(m:Int),zD (kV i c j k) i.n.toNat 7 1=az [dI m]/\∃(n:Int),zD (kV i c j k) i.n.toNat 6 1=az [dI n]/\(0<=m/\m<(↑(kV i c j k).length:Int))/\m.toNat<(kV i c j k).length/\∃(p:Int),zD (vD i d e) g.toNat 3 1=az [dI p]/\g.toNat<(vD i d e).length/\i.n.toNat<(zV (kV i c j k) m.toNat 6 [dI n]).length/\∃(q:Unit),(i.a.gf i.n i.dq).snd=0/\(i.a.gf i.n i.dq).fst.free=aa.wrap (i.a.free+1)/\ac zR (i.a.gf i.n i.dq).fst.du=zV (zV (kV i c j k) m.toNat 6 [dI n]) i.n.toNat 0 [D.v (.bool aq),dI 0,dI 0,dI 0,D.v (.bool aq),dI 0,dI 0,dI 0]/\ac zP (i.a.gf i.n i.dq).fst.dx=zV (vD i d e) g.toNat 3 [dI (aa.wrap (p-1))]/\True))) (∃(g:Unit),(i.a.gf i.n i.dq).snd=0/\(i.a.gf i.n i.dq).fst.free=i.a.free/\ac zR (i.a.gf i.n i.dq).fst.du=zV (ac zR i.a.du) i.n.toNat 3 [dI (aa.wrap (c-i.dq))]/\ac zP (i.a.gf i.n i.dq).fst.dx=zV (ac zP i.a.dx) d.toNat 2 [dI (aa.wrap (e-i.dq))]/\True))))))
def RQ {a:dt} {n:Int} (h:n<0\/(a.du.length:Int)<=n):a.iw n=aq:=by
 rcases h with h|h
 ·rw[dt.iw,kr (by omega),Cu]
 ·rw[dt.iw,kr (show ¬n<(a.du.length:Int)by omega),Cu,IJ]
def z9k {a:dt} {n:Int} {s:Slot} (h0:0<=n) (hs:a.du[n.toNat]? =az s):a.iw n=s.used:=by
 have hl:=(jl.1 hs).1;rw[dt.iw,lg h0,lg (show n<(a.du.length:Int)by omega),zT hs];simp
def xN {a:dt} {k:Nat} {s:Slot} (hs:a.du[k]? =az s):a.ei k=s:=zT hs
def y3f (i:vp) (h:J3.dp i):yTu i:=by
 have h:i.a.du.length<=1000000:=h;unfold yTu SY jL dI;simp only[ia];have no (e:i.a.iw i.n=aq):i.a.mz i.n=(y1z,aq):=by rw[dt.mz,ej (by rw[e];decide)]
 refine zH (λc=> ?_) (λc=>zH (λd=> ?_) (λd=> ?_))
 ·rw[no (RQ (.inl c))];exact kp
 ·rw[no (RQ (.inr (by omega)))];exact kp
 ·obtain⟨s,hs⟩:=z7 (l:=i.a.du) (i:=i.n.toNat) oM;have eu:=z9k (a:=i.a) (n:=i.n) oM hs;refine⟨⟨oM,oM⟩,s.used,jq hs (by simp[zR]) rfl,Cv.dp.mk (λu=> ?_) (λu=> ?_)⟩
  ·rw[no (by rw[eu];simpa using u)];exact kp
  ·have e:i.a.iw i.n=ap:=by rw[eu];simpa using u
   have et:i.a.mz i.n=(s.oX,ap):=by rw[dt.mz,fc e,xN hs]
   rw[et];refine⟨⟨oM,oM⟩,s.n,s.id,s.dq,s.top,jq hs (by simp[zR]) rfl,?_⟩
   exact kp
def yBx:J3.ok Tryz.prog 221:=gw mixed fg 1 (λ_=>[]) (λ_=>[]) [0] Tryz.func221 y3f
def zTx:∀{sl:List Slot} {at_:Int} {l:List Nat},Nx sl at_ l->eK l 0=at_/\∀j k,l[j]? =az k->k<sl.length/\eK l (j+1)=(sl.getD k iB).back
 |sl,at_,[],h=>⟨h.symm,λj k hk=>by simp at hk⟩
 |sl,at_,x::l,h=>by
  obtain⟨h1,h2,h3⟩:=h;have ih:=zTx h3;refine⟨h1.symm,λj k hk=> ?_⟩;cases j with
  |zero=>
   simp at hk;subst hk;exact⟨h2,by rw[<- ih.1];rfl⟩
  |succ j=>
   rw[AS]at hk;obtain⟨a,b⟩:=ih.2 j k hk;exact⟨a,by rw[<- b];rfl⟩
def y0g (i:K5) (h:F3.dp i):yJe i:=by
 obtain⟨hl,h⟩:i.l.length<=1000000/\(if 0<=i.n/\i.n<i.a.dx.length then Nx i.a.du (i.a.dx.getD i.n.toNat mS).first i.l else i.l=[]):=⟨h.len,h.ch⟩
 unfold yJe X9 dI;simp only[ia];have out (e:¬(0<=i.n/\i.n<(i.a.dx.length:Int))):i.l=[]:=by rw[ej e]at h;exact h
 refine zH (λc=>Cv.dp.mk (λd=> ?_) (λd=> ?_)) (λc=> ?_)
 ·have d:¬i.n<(i.a.dx.length:Int):=by simpa using d
  rw[out (by omega)];exact kp
 ·have d:i.n<(i.a.dx.length:Int):=by simpa using d
  rw[fc ⟨by omega,d⟩]at h;obtain⟨q,hq⟩:=z7 (l:=i.a.dx) (i:=i.n.toNat) oM;rw[zT hq]at h;obtain⟨n0,nx⟩:=zTx h;refine⟨⟨oM,oM⟩,q.first,jq hq (by simp[zP]) rfl,0,n0,rfl,λj=>j<=i.l.length,λj=>i.l.length-j,my _,λj hj=>Cv.dp.mk (λe=> ?_) (λe=> ?_)⟩
  ·have e:eK i.l j≠-1:=by simpa using e
   obtain⟨k,hk⟩:∃k,i.l[j]? =az k:=by
    cases hk:i.l[j]? with
    |none=>rw[eK,hk]at e;exact absurd rfl e
    |some k=>exact⟨k,rfl⟩
   have D':=(jl.1 hk).1;obtain⟨pf,BC⟩:=nx j k hk;have en:eK i.l j=k:=by rw[eK,hk]
   obtain⟨s,hs⟩:=z7 (l:=i.a.du) (i:=k) pf;rw[en,ow];refine⟨⟨oM,oM⟩,s.n,s.id,s.dq,s.top,jq hs (by simp[zR]) rfl,?_,⟨oM,oM⟩,s.back,jq hs (by simp[zR]) rfl,j+1,by rw[BC,zT hs],?_,D',Z9,gn⟩
   ·simp only[dt.fq,ia,oe];omega
   ·rw[sm,hk];simp only[dt.fq,Option.toList,jk,jo,Ct,xN hs];rfl
  ·have e:eK i.l j= -1:=by simpa using e
   have oh:i.l.length<=j:=by
    apply Classical.byContradiction;intro hn;obtain⟨k,hk⟩:=z7 (l:=i.l) (i:=j) oM;rw[eK,hk]at e;simp only at e;omega
   rw[og oh]
   exact kp
 ·rw[out (by omega)];exact kp
def yMv:F3.ok Tryz.prog 258:=gw mixed fg 1 (λ_=>[]) (λi=>yWg i) [0] Tryz.func258 y0g
def YL {α:Type} {l:List α} {i k:Nat} {x y:α} (h:i≠k) (hk:l[k]? =az x):(l.set i y)[k]? =az x:=by
 rw[List.getElem?_set_ne h];exact hk
def yWk (i:B2) (h:FZ.dp i):yNa i:=by
 obtain⟨hl,oK⟩:i.a.DD:=h;unfold yNa rY kV Yc y8 tX dR vD XY tE Yb dI;simp only[ia];have no (e:i.a.iw i.n=aq):i.a.gf i.n i.dq=(i.a,26):=by rw[dt.gf,fc e]
 refine zH (λc=> ?_) (λc=>zH (λd=> ?_) (λd=> ?_))
 ·rw[no (RQ (.inl c))];exact kp
 ·rw[no (RQ (.inr (by omega)))];exact kp
 obtain⟨k,hk⟩:∃k,k=i.n.toNat:=⟨_,rfl⟩
 rw[<- hk];obtain⟨s,hs⟩:=z7 (l:=i.a.du) (i:=k) oM;have iI:i.a.du[i.n.toNat]? =az s:=by rw[<- hk];exact hs
 have eu:=z9k (a:=i.a) (n:=i.n) oM iI;refine⟨⟨oM,oM⟩,s.used,jq hs (by simp[zR]) rfl,Cv.dp.mk (λu=> ?_) (λu=> ?_)⟩
 ·rw[no (by rw[eu];simpa using u)];exact kp
 have u:s.used=ap:=by simpa using u
 have e:¬i.a.iw i.n=aq:=by rw[eu,u];decide
 obtain⟨⟨q0,q1⟩,sq,sa,sb⟩:=oK k s hs u;have esl:i.a.ei i.n.toNat=s:=xN iI;have bad (hq:i.dq<1\/s.dq<i.dq):i.a.gf i.n i.dq=(i.a,24):=by rw[dt.gf,ej e,esl,fc hq]
 refine⟨⟨oM,oM⟩,zH (λc1=>by rw[bad (.inl c1)];(repeat'(first|exact rfl|exact trivial|assumption|apply au|refineλ(_:Unit) (_:True)=>?_|refine ao () ?_|omega|(dsimp only;omega)))) (λc1=>⟨s.dq,jq hs (by simp[zR]) rfl,zH (λc2=>by rw[bad (.inr (by omega))];(repeat'(first|exact rfl|exact trivial|assumption|apply au|refineλ(_:Unit) (_:True)=>?_|refine ao () ?_|omega|(dsimp only;omega)))) (λc2=>⟨s.dq,jq hs (by simp[zR]) rfl,oM,?_⟩)⟩)⟩;obtain⟨q,hq⟩:=z7 (l:=i.a.dx) (i:=s.queue.toNat) oM;have tc:(i.a.du.set k {s with dq:=s.dq-i.dq})[k]? =az {s with dq:=s.dq-i.dq}:=uW hs;have qe:(i.a.dx.set s.queue.toNat {q with total:=aa.wrap (q.total-i.dq)})[s.queue.toNat]? =az {q with total:=aa.wrap (q.total-i.dq)}:=uW hq;have hle:i.a.less i.n.toNat i.dq=⟨i.a.du.set k {s with dq:=s.dq-i.dq},i.a.dx.set s.queue.toNat {q with total:=aa.wrap (q.total-i.dq)},i.a.free⟩:=by
  rw[dt.less,esl,cQ iI,cQ hq,hk]
 have hL:(i.a.du.set k {s with dq:=s.dq-i.dq}).length=i.a.du.length:=qp;have hQ:(i.a.dx.set s.queue.toNat {q with total:=aa.wrap (q.total-i.dq)}).length=i.a.dx.length:=qp;have tk:i.a.gf i.n i.dq=if s.dq=i.dq then((i.a.less i.n.toNat i.dq).iG i.n.toNat,0)else(i.a.less i.n.toNat i.dq,0):=by rw[dt.gf,ej e,esl,ej (by omega)]
 rw[hle,<- hk]at tk;rw[ir (x:=s.dq-i.dq) (by omega),yI hs (y:={s with dq:=s.dq-i.dq}) rfl];refine⟨s.queue,jq tc (by simp[zR]) rfl,⟨q0,q1⟩,q.total,jq hq (by simp[zP]) rfl,⟨q0,q1⟩,oM,s.dq-i.dq,jq tc (by simp[zR]) rfl,?_⟩;rw[yI hq (y:={q with total:=aa.wrap (q.total-i.dq)}) rfl];simp only[ia];generalize hL1:i.a.du.set k {s with dq:=s.dq-i.dq}=L1 at*;generalize hQ1:i.a.dx.set s.queue.toNat {q with total:=aa.wrap (q.total-i.dq)}=Q1 at*;refine Cv.dp.mk (λz=> ?_) (λz=> ?_)
 ·have z:s.dq=i.dq:=by have:s.dq-i.dq=0:=by simpa using z
                       omega
  rw[fc z]at tk;have aaY:(⟨L1,Q1,i.a.free⟩:dt).ei k={s with dq:=s.dq-i.dq}:=xN tc;have eq1:Q1.getD s.queue.toNat mS={q with total:=aa.wrap (q.total-i.dq)}:=zT qe;rw[dt.iG,aaY]at tk;dsimp only at tk;rw[eq1]at tk;dsimp only at tk;rw[tk];refine⟨s.queue,jq tc (by simp[zR]) rfl,⟨q0,oM⟩,s.ahead,jq tc (by simp[zR]) rfl,Cv.dp.mk (λea=> ?_) (λea=> ?_)⟩
  ·have ea:s.ahead= -1:=by simpa using ea
   refine⟨s.back,jq tc (by simp[zR]) rfl,oM,s.back,jq tc (by simp[zR]) rfl,?_⟩;rw[yI qe (y:=⟨s.back,q.last,aa.wrap (q.total-i.dq),q.count⟩) rfl];have qk:(Q1.set s.queue.toNat ⟨s.back,q.last,aa.wrap (q.total-i.dq),q.count⟩)[s.queue.toNat]? =az ⟨s.back,q.last,aa.wrap (q.total-i.dq),q.count⟩:=uW qe;simp only[ia,qp];refine Cv.dp.mk (λeb=> ?_) (λeb=> ?_)
   ·have eb:s.back= -1:=by simpa using eb
    refine⟨s.ahead,jq tc (by simp[zR]) rfl,oM,q.count,?_,?_⟩
    ·rw[yI qk (y:=⟨s.back,s.ahead,aa.wrap (q.total-i.dq),q.count⟩) rfl];exact jq (uW qk) (by simp[zP]) rfl
    rw[yI qk (y:=⟨s.back,s.ahead,aa.wrap (q.total-i.dq),q.count⟩) rfl,yI (uW qk) (y:=⟨s.back,s.ahead,aa.wrap (q.total-i.dq),aa.wrap (q.count-1)⟩) rfl,yI tc (y:=iB) rfl];simp only[ia,qp,DZ,fc ea,fc eb];refine⟨oM,oM,(),by(first|exact rfl|exact trivial),by(first|exact rfl|exact trivial),by(first|exact rfl|exact trivial),by(first|exact rfl|exact trivial),trivial⟩
   ·have eb:s.back≠-1:=by simpa using eb
    obtain⟨b0,b1,b2⟩:0<=s.back/\s.back<i.a.du.length/\s.back≠k:=by omega
    obtain⟨x,hx⟩:=z7 (l:=L1) (i:=s.back.toNat) oM;refine⟨s.back,jq tc (by simp[zR]) rfl,s.ahead,jq tc (by simp[zR]) rfl,⟨b0,oM⟩,oM,q.count,jq qk (by simp[zP]) rfl,?_⟩;rw[yI hx (y:={x with ahead:=s.ahead}) rfl,yI qk (y:=⟨s.back,q.last,aa.wrap (q.total-i.dq),aa.wrap (q.count-1)⟩) rfl,yI (YL (by omega) tc) (y:=iB) rfl];simp only[ia,qp,DZ,fc ea,ej eb,cQ hx];refine⟨oM,oM,(),by(first|exact rfl|exact trivial),by(first|exact rfl|exact trivial),by(first|exact rfl|exact trivial),by(first|exact rfl|exact trivial),trivial⟩
  ·have ea:s.ahead≠-1:=by simpa using ea
   obtain⟨a0,a1,a2⟩:0<=s.ahead/\s.ahead<i.a.du.length/\s.ahead≠k:=by omega
   obtain⟨x,hx⟩:=z7 (l:=L1) (i:=s.ahead.toNat) oM;have ye:(L1.set s.ahead.toNat {x with back:=s.back})[k]? =az {s with dq:=s.dq-i.dq}:=YL oM tc;refine⟨s.ahead,jq tc (by simp[zR]) rfl,s.back,jq tc (by simp[zR]) rfl,⟨a0,oM⟩,oM,s.back,?_,?_⟩
   ·rw[yI hx (y:={x with back:=s.back}) rfl];exact jq ye (by simp[zR]) rfl
   rw[yI hx (y:={x with back:=s.back}) rfl];simp only[ia,qp];refine Cv.dp.mk (λeb=> ?_) (λeb=> ?_)
   ·have eb:s.back= -1:=by simpa using eb
    refine⟨s.ahead,jq ye (by simp[zR]) rfl,oM,q.count,?_,?_⟩
    ·rw[yI qe (y:=⟨q.first,s.ahead,aa.wrap (q.total-i.dq),q.count⟩) rfl];exact jq (uW qe) (by simp[zP]) rfl
    rw[yI qe (y:=⟨q.first,s.ahead,aa.wrap (q.total-i.dq),q.count⟩) rfl,yI (uW qe) (y:=⟨q.first,s.ahead,aa.wrap (q.total-i.dq),aa.wrap (q.count-1)⟩) rfl,yI ye (y:=iB) rfl];simp only[ia,qp,DZ,ej ea,fc eb,cQ hx];refine⟨oM,oM,(),by(first|exact rfl|exact trivial),by(first|exact rfl|exact trivial),by(first|exact rfl|exact trivial),by(first|exact rfl|exact trivial),trivial⟩
   ·have eb:s.back≠-1:=by simpa using eb
    obtain⟨b0,b1,b2⟩:0<=s.back/\s.back<i.a.du.length/\s.back≠k:=by omega
    obtain⟨y,hy⟩:=z7 (l:=L1.set s.ahead.toNat {x with back:=s.back}) (i:=s.back.toNat) (by rw[qp];omega);refine⟨s.back,jq ye (by simp[zR]) rfl,s.ahead,jq ye (by simp[zR]) rfl,⟨b0,oM⟩,oM,q.count,jq qe (by simp[zP]) rfl,?_⟩;rw[yI hy (y:={y with ahead:=s.ahead}) rfl,yI qe (y:=⟨q.first,q.last,aa.wrap (q.total-i.dq),aa.wrap (q.count-1)⟩) rfl,yI (YL (by omega) ye) (y:=iB) rfl];simp only[ia,qp,DZ,ej ea,ej eb,cQ hx,cQ hy];refine⟨oM,oM,(),by(first|exact rfl|exact trivial),by(first|exact rfl|exact trivial),by(first|exact rfl|exact trivial),by(first|exact rfl|exact trivial),trivial⟩
 ·have z:¬s.dq=i.dq:=by have:¬s.dq-i.dq=0:=by simpa using z
                        omega
  rw[ej z]at tk;rw[tk];exact⟨(),nr trivial⟩
def yJd:FZ.ok Tryz.prog 234:=gw mixed fg 1 (λ_=>[]) (λ_=>[]) [0] Tryz.func234 yWk
structure uv where
 l:List Int
 least:Int
 q:Int
def Y5 (l:List Int) (least q:Int):List Int:=l.map λk=>if least<=k*q / l.sum then k*q / l.sum else 0
def wK:List (Int×Int)->Int->List Int
 |[],_=>[]
 |(n,x)::r,q=>(x+min (n-x) q)::wK r (q-min (n-x) q)
def uv.p0 (i:uv):List Int:=Y5 i.l i.least i.q
def uv.p1 (i:uv):List Int:=wK (i.l.zip i.p0) (i.q-i.p0.sum)
def jD (i:uv):List Int:=if yX i.l i.q=ap/\1<=i.least then i.p1 else[]
def Fz:fy:=fj uv (λi=>[iV i.l,zA i.least,zA i.q]) (λ_=>[]) (λi=>i.l.length<=1000000/\gq i.q/\gq i.least) (λ_=> .own 0) (λi=>[.own 2 1 (iE (jD i))])
def yZm (i:uv):List gj:=[
 {ι:=Nat,du:=λj=>[(9,.own 0),(36,zA j)],rows:=λj=>[.own 2 1 (iE (i.p0.take j++af (i.l.length-j) 0))]},
 {ι:=Nat,du:=λj=>[(2,zA (i.q-(i.p0.take j).sum)),(58,zA j)],rows:=λ_=>[]},
 {ι:=Nat,du:=λj=>[(9,.own 0),(2,zA (i.q-i.p0.sum+(i.p0.take j).sum-(i.p1.take j).sum)),(68,zA j)],rows:=λj=>[.own 2 1 (iE (i.p1.take j++i.p0.drop j))]}]
def cA (a:Nat) (b:uv):=(iE (ae a b.p1++am a b.p0))
def sQ (a:Nat) (b:uv):Prop:=0<=(↑a:Int)/\(↑a:Int)<(↑(cA a b).length:Int)
def gV (a:Nat) (b:uv):=(ae a b.p0++af (b.l.length-a) 0)
def gW (a:Nat) (b:uv):=(iE (gV a b))
def mF (a:Nat) (b:uv):=(↑(gW a b).length:Int)
def yFu (i:uv):Prop:=
 ∃(a:BL),iE a.l=iE i.l/\a.q=i.q/\(wI a)/\∀(b:Unit),True->dp (!yX a.l a.q) (∃(c:Unit),iE (jD i)=[]/\True) (dp (decide (i.least<1)) (∃(c:Unit),iE (jD i)=[]/\True) (∃(c:List Int),iE c=iE i.l/\(c.length<=1000/\∀(d:Int),d∈c->0<=d/\d<=1000000)/\∀(d:Unit),True->(0<=(↑(iE i.l).length:Int)/\(↑(iE i.l).length:Int)<=(↑(iE i.l).length:Int)/\(↑(iE i.l).length:Int)<=9223372036854775807/\(↑(8:Nat):Int)*(↑(iE i.l).length:Int)<=2 ^ (48:Nat))/\∃(e:Nat),(↑e:Int)=0/\iE (gV e i)=af (↑(iE i.l).length:Int).toNat [dI 0]/\∃(f:Nat->Prop),∃(g:Nat->Nat),f e/\∀(h:Nat),f h->dp (decide ((↑h:Int)<(↑(iE i.l).length:Int))) ((0<=(↑h:Int)/\(↑h:Int)<(↑(iE i.l).length:Int))/\∃(j:Int),zD (iE i.l) (↑h:Int).toNat 0 1=az [dI j]/\∃(k:KZ),k.a=j/\k.b=i.q/\k.c=c.sum/\(0<=k.a/\k.a<=(2000000000:Int)/\(0:Int)<=k.b/\k.b<=(2000000000:Int)/\(1:Int)<=k.c/\k.c<=2000000000)/\∀(l:Unit),True->dp (decide (k.a*k.b / k.c>=i.least)) ((0<=(↑h:Int)/\(↑h:Int)<(mF h i))/\(↑h:Int).toNat<(gW h i).length/\∃(m:Nat),(↑m:Int)=aa.wrap ((↑h:Int)+1)/\iE (gV m i)=zV (gW h i) (↑h:Int).toNat 0 [dI (k.a*k.b / k.c)]/\f m/\g m<g h/\True) (∃(m:Nat),(↑m:Int)=aa.wrap ((↑h:Int)+1)/\iE (gV m i)=iE (gV h i)/\f m/\g m<g h/\True)) (∃(j:Nat),i.q-(ae j i.p0).sum=i.q/\(↑j:Int)=0/\∃(k:Nat->Prop),∃(l:Nat->Nat),k j/\∀(m:Nat),k m->dp (decide ((↑m:Int)<(mF h i))) ((0<=(↑m:Int)/\(↑m:Int)<(mF h i))/\∃(n:Int),zD (gW h i) (↑m:Int).toNat 0 1=az [dI n]/\∃(p:Nat),i.q-(ae p i.p0).sum=aa.wrap (i.q-(ae m i.p0).sum-n)/\(↑p:Int)=aa.wrap ((↑m:Int)+1)/\k p/\l p<l m/\di (aw 2 1 (gW h i))) (∃(n:Nat),i.q-i.p0.sum+(ae n i.p0).sum-(ae n i.p1).sum=i.q-(ae m i.p0).sum/\(↑n:Int)=0/\iE (ae n i.p1++am n i.p0)=iE (gV h i)/\∃(p:Nat->Prop),∃(q:Nat->Nat),p n/\∀(r:Nat),p r->dp (decide ((↑r:Int)<(mF h i))) ((0<=(↑r:Int)/\(↑r:Int)<(↑(iE i.l).length:Int))/\∃(s:Int),zD (iE i.l) (↑r:Int).toNat 0 1=az [dI s]/\(sQ r i)/\∃(t:Int),zD (cA r i) (↑r:Int).toNat 0 1=az [dI t]/\(sQ r i)/\∃(u:Int),zD (cA r i) (↑r:Int).toNat 0 1=az [dI u]/\(sQ r i)/\(↑r:Int).toNat<(cA r i).length/\∃(v:Nat),i.q-i.p0.sum+(ae v i.p0).sum-(ae v i.p1).sum=aa.wrap (i.q-i.p0.sum+(ae r i.p0).sum-(ae r i.p1).sum-min (aa.wrap (s-t)) (i.q-i.p0.sum+(ae r i.p0).sum-(ae r i.p1).sum))/\(↑v:Int)=aa.wrap ((↑r:Int)+1)/\iE (ae v i.p1++am v i.p0)=zV (cA r i) (↑r:Int).toNat 0 [dI (aa.wrap (u+min (aa.wrap (s-t)) (i.q-i.p0.sum+(ae r i.p0).sum-(ae r i.p1).sum)))]/\p v/\q v<q r/\True) (∃(s:Unit),iE (jD i)=iE (ae r i.p1++am r i.p0)/\True)))))
def X8:∀(z:List (Int×Int)) (q:Int),(wK z q).length=z.length
 |[],_=>rfl
 |(n,x)::z,q=>by rw[wK,iD,iD,X8 z]
def zPk:∀(z:List (Int×Int)) (q:Int) (j:Nat) (n x:Int),z[j]? =az (n,x)->(wK z q)[j]? =az (x+min (n-x) (q+((z.map (·.2)).take j).sum-((wK z q).take j).sum))
 |[],_,_,_,_,h=>by simp at h
 |(m,y)::z,q,0,n,x,h=>by simp at h;obtain⟨rfl,rfl⟩:=h;simp[wK]
 |(m,y)::z,q,j+1,n,x,h=>by
  rw[AS]at h;rw[wK,AS,zPk z _ j n x h,vg,qv,jo,vg,qv];congr 3;dsimp only;omega
def zLu:∀(z:List (Int×Int)) (q:Int) (j:Nat),0<=q->(∀y∈z,y.2<=y.1)->0<=q+((z.map (·.2)).take j).sum-((wK z q).take j).sum/\q+((z.map (·.2)).take j).sum-((wK z q).take j).sum<=q
 |[],q,j,h,_=>by simp[wK,h]
 |(m,y)::z,q,0,h,_=>by simp[h]
 |(m,y)::z,q,j+1,h,hb=>by
  have hm:=hb (m,y) ji;have:=zLu z (q-min (m-y) q) j (by dsimp only at hm;omega) (λx hx=>hb x (jw _ hx));rw[wK,vg,qv,jo,vg,qv];dsimp only at hm ⊢;omega
def yIq {k q S:Int} (hk:0<=k) (hq:0<=q) (hS:1<=S) (hqS:q<=S):0<=k*q / S/\k*q / S<=k:=by
 refine⟨Int.ediv_nonneg (MG hk hq) oM,?_⟩;have:k*q<=k*S:=Ub hqS hk;exact Int.ediv_le_of_le_mul oM this
def zVn {q S least:Int} (hq:0<=q) (hS:1<=S):∀(l:List Int),(∀x∈l,0<=x)->S*(l.map λk=>if least<=k*q / S then k*q / S else 0).sum<=q*l.sum
 |[],_=>by simp
 |k::l,h=>by
  have ih:=zVn (least:=least) hq hS l (λx hx=>h x (jw _ hx));have hk:=h k ji;rw[jo,qv,qv,Int.mul_add,Int.mul_add];have h1:S*(k*q / S)<=k*q:=by
   have:=Int.mul_ediv_add_emod (k*q) S;have:=MK (k*q) (show S≠0 by omega);omega
  have h2:0<=k*q:=MG hk hq;have h3:S*(if least<=k*q / S then k*q / S else 0)<=q*k:=by
   rw[Ex q k];split
   ·exact h1
   ·simpa using h2
  omega
def yKu {i:uv} {j:Nat} {n:Int} (h:i.l[j]? =az n):i.p0[j]? =az (if i.least<=n*i.q / i.l.sum then n*i.q / i.l.sum else 0):=by
 rw[uv.p0,Y5,uq,h];rfl
def Zi (i:uv):i.p0.length=i.l.length:=by simp[uv.p0,Y5]
def z8z {l:List Int} {j m:Nat} {n:Int} (hl:l.length=m) (h:l[j]? =az n):(l.take j++af (m-j) 0).set j n=l.take (j+1)++af (m-(j+1)) 0:=by
 have hj:=(jl.1 h).1;rw[List.set_append_right _ _ (by rw[oe];omega),oe,show j-min j l.length=0 by omega,show m-j=(m-(j+1))+1 by omega,KE,Oz,sm,h];simp
def yLg {l:List Int} {j m:Nat} (hl:l.length=m) (hj:j<m):(l.take j++af (m-j) 0)[j]? =az 0:=by
 rw[Cy (by rw[oe];omega),oe,show j-min j l.length=0 by omega,show m-j=(m-(j+1))+1 by omega,KE];rfl
def yHh {α:Type} {l:List α} {j:Nat} {x:α} (h:l[j]? =az x):l.set j x=l:=by
 obtain⟨h1,h2⟩:=jl.1 h;rw[<- h2];exact List.set_getElem_self h1
def yZs {a b:List Int} {j:Nat} {x:Int} (ha:a.length=b.length) (h:b[j]? =az x):(a.take j++b.drop j)[j]? =az x:=by
 have hj:=(jl.1 h).1;rw[Cy (by rw[oe];omega),oe,show j-min j a.length=0 by omega,AQ];exact h
def yPo {a b:List Int} {j:Nat} {y:Int} (ha:a.length=b.length) (h:a[j]? =az y):(a.take j++b.drop j).set j y=a.take (j+1)++b.drop (j+1):=by
 have hj:=(jl.1 h).1;rw[List.set_append_right _ _ (by rw[oe];omega),oe,show j-min j a.length=0 by omega,Dq (by omega),Oz,sm,h];simp
def RE {l:List Int} {j:Nat} {x y:Int} (h:l[j]? =az x):zV (iE l) j 0 [D.v (.int .i64 y)]=iE (l.set j y):=yI (f:=λn:Int=>[D.v (.int .i64 n)]) h rfl
def SH {i:uv} (h:yX i.l i.q=ap) (je:0<i.l.length):1<=i.l.sum/\i.l.sum<=250000000/\(∀(j:Nat) (n x:Int),i.l[j]? =az n->i.p0[j]? =az x->0<=x/\x<=n)/\i.p0.sum<=i.q:=by
 obtain⟨h1,h2,h3,h4⟩:=jJ h;have hb:=jU (l:=i.l) (λx hx=>by have:=h3 x hx;omega) i.l.length;rw[By]at hb;have hS:1<=i.l.sum:=by
  obtain⟨x,hx⟩:=z7 (l:=i.l) (i:=0) je;have:=h3 x (lr hx);cases hl:i.l with
  |nil=>rw[hl]at je;exact absurd je (Nat.lt_irrefl 0)
  |cons a r=>
   rw[hl]at hx;simp at hx;subst hx;have hr:=jU (l:=r) (λy hy=>by have:=h3 y (by rw[hl];exact jw _ hy);omega) r.length;rw[By]at hr;rw[qv];omega
 refine⟨hS,oM,λj n x hn hx=> ?_,?_⟩
 ·have BY:=h3 n (lr hn);have:=yIq (k:=n) oM h2 hS h4;rw[yKu hn]at hx;cases hx;split<;>omega
 ·have:=zVn (least:=i.least) h2 hS i.l (λx hx=>by have:=h3 x hx;omega);have e:i.l.sum*i.p0.sum<=i.l.sum*i.q:=by rw[Ex i.l.sum i.q];exact this
  exact Int.le_of_mul_le_mul_left e oM
def yWx (i:uv) (h:Fz.dp i):yFu i:=by
 obtain⟨hl,hq,hle⟩:i.l.length<=1000000/\gq i.q/\gq i.least:=h;unfold yFu mF gW gV sQ cA wI dI;refine⟨⟨i.l,i.q⟩,rfl,rfl,⟨hl,hq⟩,λ_ _=>Cv.dp.mk (λc=> ?_) (λc=>zH (λd=> ?_) (λd=> ?_))⟩
 ·have c:yX i.l i.q=aq:=by simpa using c
  refine⟨(),?_,trivial⟩;rw[jD,ej (by rw[c];simp)];rfl
 ·refine⟨(),?_,trivial⟩;rw[jD,ej (by omega)];rfl
 have c:yX i.l i.q=ap:=by simpa using c
 have eS:jD i=i.p1:=by rw[jD,fc ⟨c,by omega⟩]
 obtain⟨h1,h2,h3,h4⟩:=jJ c;have qk:=Sa c;have Nd:=Zi i;have CC:(i.l.zip i.p0).length=i.l.length:=by rw[List.length_zip,Nd];simp
 have UD:i.p1.length=i.l.length:=by rw[uv.p1,X8,CC]
 have hz2:(i.l.zip i.p0).map (·.2)=i.p0:=by rw[List.map_snd_zip];omega
 have h64:i.l.length<=250:=h1;have Du:∀j,j<=i.l.length->(ae j i.p0++af (i.l.length-j) 0).length=i.l.length:=by
  intro j hj;rw[im,oe,Gw];omega
 simp only[y4];refine⟨i.l,rfl,⟨oM,λx hx=>by have:=h3 x hx;omega⟩,λ_ _=>⟨⟨oM,oM,oM,oM⟩,0,by(first|exact rfl|exact trivial),?_,λj=>j<=i.l.length,λj=>i.l.length-j,my _,λj hj=>zH (λe=> ?_) (λe=> ?_)⟩⟩
 ·simp[iE]
 ·have oh:j<i.l.length:=by omega
  obtain⟨n,hn⟩:=z7 (l:=i.l) (i:=j) oh;have bn:=h3 n (lr hn);obtain⟨f1,f2,f3,f4⟩:=SH c oM;have g:=yKu hn;refine⟨⟨oM,oM⟩,n,qz hn,⟨n,i.q,i.l.sum⟩,rfl,rfl,rfl,⟨Z9,Z9,Z9,Z9,Z9,Z9⟩,λ_ _=>zH (λa=> ?_) (λa=> ?_)⟩
  ·have a:n*i.q / i.l.sum>=i.least:=a;rw[fc (by omega)]at g;refine⟨⟨oM,by rw[Du j (by omega)];omega⟩,by rw[Du j (by omega)];omega,j+1,qw oM,?_,oh,Z9,trivial⟩;rw[ow,RE (yLg Nd oh),z8z Nd g]
  ·have a:¬n*i.q / i.l.sum>=i.least:=a;rw[ej (by omega)]at g;refine⟨j+1,qw oM,?_,oh,Z9,trivial⟩;rw[<- z8z Nd g,yHh (yLg Nd oh)]
 have EO:j=i.l.length:=by omega
 subst EO;have eP:ae i.l.length i.p0++af (i.l.length-i.l.length) 0=i.p0:=by rw[og (by omega)];simp
 rw[eP,Nd];have px:∀(k:Nat) (n x:Int),i.l[k]? =az n->i.p0[k]? =az x->0<=x/\x<=n:=λk n x hn hx=>(SH c (by have:=(jl.1 hn).1;omega)).2.2.1 k n x hn hx
 have pb:∀x∈i.p0,0<=x/\x<=1000000:=by
  intro x hx;obtain⟨k,hk⟩:=BU.1 hx;obtain⟨n,hn⟩:=z7 (l:=i.l) (i:=k) (by have:=(jl.1 hk).1;omega);have:=px k n x hn hk;have:=h3 n (lr hn);omega
 have pq:i.p0.sum<=i.q:=by
  by_cases hz:0<i.l.length
  ·exact(SH c hz).2.2.2
  ·have:i.p0=[]:=xu oM;rw[this];simpa using h2
 refine⟨0,by simp,by(first|exact rfl|exact trivial),λk=>k<=i.l.length,λk=>i.l.length-k,my _,λk hk=>zH (λe=> ?_) (λe=> ?_)⟩
 ·have qx:k<i.l.length:=by omega
  obtain⟨x,hx⟩:=z7 (l:=i.p0) (i:=k) oM;have bx:=pb x (lr hx);have bs:=jU pb k;refine⟨⟨oM,oM⟩,x,qz hx,k+1,?_,qw oM,qx,Z9,gn⟩;rw[j6 hx,ir (by omega)];omega
 have BD:k=i.l.length:=by omega
 subst BD;rw[og (l:=i.p0) (by omega)];refine⟨0,by simp,by(first|exact rfl|exact trivial),by simp,λj=>j<=i.l.length,λj=>i.l.length-j,my _,λj hj=>zH (λe=> ?_) (λe=> ?_)⟩
 ·have oh:j<i.l.length:=by omega
  obtain⟨n,hn⟩:=z7 (l:=i.l) (i:=j) oh;obtain⟨x,hx⟩:=z7 (l:=i.p0) (i:=j) oM;have bn:=h3 n (lr hn);have bx:=px j n x hn hx;have hz:(i.l.zip i.p0)[j]? =az (n,x):=by rw[OH];exact⟨hn,hx⟩
  have g:=zPk (i.l.zip i.p0) (i.q-i.p0.sum) j n x hz;have r:=zLu (i.l.zip i.p0) (i.q-i.p0.sum) j oM (λy hy=>by
   obtain⟨k,hk⟩:=BU.1 hy;rw[OH]at hk;exact(px k y.1 y.2 hk.1 hk.2).2)
  rw[hz2]at g r;have b0:=jU pb i.p0.length;rw[By]at b0;have Ab:(ae j i.p1++am j i.p0).length=i.l.length:=by rw[im,oe,oV];omega
  have hma:=yZs (a:=i.p1) (b:=i.p0) oM hx;change i.p1[j]? =_ at g;change 0<=_-(ae j i.p1).sum/\_-(ae j i.p1).sum<=_ at r;change i.p1[j]? =az (x+min (n-x) (_-(ae j i.p1).sum))at g;rw[Ab];refine⟨⟨oM,oM⟩,n,qz hn,⟨oM,oM⟩,x,qz hma,⟨oM,oM⟩,x,qz hma,⟨oM,oM⟩,oM,?_⟩;rw[ir (x:=n-x) (by omega),ir (x:=x+min (n-x) (i.q-i.p0.sum+(ae j i.p0).sum-(ae j i.p1).sum)) (by omega)];refine⟨j+1,?_,qw oM,?_,oh,Z9,trivial⟩
  ·rw[j6 hx,j6 g,ir (by omega)];omega
  ·rw[ow,RE hma,yPo (by omega) g]
 ·have EO:j=i.l.length:=by omega
  subst EO;refine⟨(),?_,trivial⟩;rw[eS,og (by omega),Hh (by omega),oL]
def yMi:Fz.ok Tryz.prog 264:=gw mixed (dw SU (dw yOw (dw zUp fg))) 0 (λ_=>[]) (λi=>yZm i) [] Tryz.func264 yWx
structure ph where
 l:List Int
 out:List Int
 least:Int
 q:Int
def ph.idx (i:ph) (k:Nat):List Nat:=(ak k).filter λn=>decide (i.out.getD n 0<i.l.getD n 0)
def ph.left (i:ph) (k:Nat):List Int:=(i.idx k).map λn=>i.l.getD n 0-i.out.getD n 0
def ph.pl (i:ph):List Int:=jD ⟨i.left i.l.length,i.least,i.q⟩
def ph.add (i:ph) (k:Nat):List Int:=(((i.idx i.l.length).zip i.pl).take k).foldl (λo y=>o.set y.1 (aa.wrap (o.getD y.1 0+y.2))) i.out
def pP (i:ph):List Int:=i.add i.pl.length
@[reducible] def ph.ok (i:ph):Prop:=i.l.length<=250/\i.out.length=i.l.length/\gq i.q/\gq i.least/\∀n,0<=i.out.getD n 0/\i.out.getD n 0<=i.l.getD n 0/\i.l.getD n 0<=1000000
def Jw:fy:=fj ph (λi=>[iV i.l,.own 0,zA i.least,zA i.q]) (λi=>[.own 2 1 (iE i.out)]) ph.ok (λ_=> .own 1) (λi=>[.gone,.own 2 1 (iE (pP i))])
def y4w (i:ph):List gj:=[
 {ι:=Nat,du:=λj=>[(9,.own 0),(10,.own 1),(16,zA j)],rows:=λj=>[.own 2 1 (iE (i.left j)),.own 3 1 (iE ((i.idx j).map λ(n:Nat)=>(n:Int)))]},
 {ι:=Nat,du:=λk=>[(1,.own 0),(50,zA k)],rows:=λk=>[.own 2 1 (iE (i.add k))]}]
structure zI where
 id:Int
 side:Int
 dj:Int
 dq:Int
 top:Bool
 deriving DecidableEq
def vG (o:zI):List D:=[.v (.int .i64 o.id),.v (.int .i64 o.side),.v (.int .i64 o.dj),.v (.int .i64 o.dq),.v (.bool o.top)]
@[reducible] def Mz (o:zI):V:= .agg [zA o.id,zA o.side,zA o.dj,zA o.dq,yL o.top]
def QF:fy:=fj zI (λo=>[Mz o]) (λ_=>[]) (λ_=>True) (λo=>yL o.top) (λ_=>[])
def iU (l:List zI):Int:=Iu (l.findIdx? λo=>o.top)
def Dc:fy:=fj (List zI) (λl=>[oy 5 (l.map vG),.fn 250 [] []]) (λ_=>[]) (λl=>l.length<=1000000) (λl=>zA (iU l)) (λ_=>[])
def yPs (l:List zI):List gj:=[{ι:=Nat,du:=λj=>[(8,zA j)],rows:=λ_=>[]}]
def yUv (i:ph):Prop:=
 ∃(a:Nat),(↑a:Int)=0/\iE (i.left a)=[]/\iE (ac (λ(n:Nat) ↦ (↑n:Int)) (i.idx a))=[]/\∃(b:Nat->Prop),∃(c:Nat->Nat),b a/\∀(d:Nat),b d->dp (decide ((↑d:Int)<(↑(iE i.l).length:Int))) ((0<=(↑d:Int)/\(↑d:Int)<(↑(iE i.l).length:Int))/\∃(e:Int),zD (iE i.l) (↑d:Int).toNat 0 1=az [dI e]/\(0<=(↑d:Int)/\(↑d:Int)<(↑(iE i.out).length:Int))/\∃(f:Int),zD (iE i.out) (↑d:Int).toNat 0 1=az [dI f]/\dp (decide (e>f)) ((0<=(↑d:Int)/\(↑d:Int)<(↑(iE i.l).length:Int))/\∃(g:Int),zD (iE i.l) (↑d:Int).toNat 0 1=az [dI g]/\(0<=(↑d:Int)/\(↑d:Int)<(↑(iE i.out).length:Int))/\∃(h:Int),zD (iE i.out) (↑d:Int).toNat 0 1=az [dI h]/\((iE (i.left d)).length+1)*(8:Nat)<=(140737488355328:Nat)/\((iE (ac (λ(g:Nat) ↦ (↑g:Int)) (i.idx d))).length+1)*(8:Nat)<=(140737488355328:Nat)/\∃(j:Nat),(↑j:Int)=aa.wrap ((↑d:Int)+1)/\iE (i.left j)=iE (i.left d)++[[dI (aa.wrap (g-h))]]/\iE (ac (λ(g:Nat) ↦ (↑g:Int)) (i.idx j))=iE (ac (λ(g:Nat) ↦ (↑g:Int)) (i.idx d))++[[dI (↑d:Int)]]/\b j/\c j<c d/\di (aw 2 1 (iE i.out))) (∃(g:Nat),(↑g:Int)=aa.wrap ((↑d:Int)+1)/\iE (i.left g)=iE (i.left d)/\iE (ac (λ(e:Nat) ↦ (↑e:Int)) (i.idx g))=iE (ac (λ(e:Nat) ↦ (↑e:Int)) (i.idx d))/\b g/\c g<c d/\di (aw 2 1 (iE i.out)))) (∃(e:uv),iE e.l=iE (i.left d)/\e.least=i.least/\e.q=i.q/\(e.l.length<=1000000/\((-9223372036854775808)<=e.q/\e.q<=9223372036854775807)/\(-9223372036854775808)<=e.least/\e.least<=9223372036854775807)/\∀(f:Unit),True->∃(g:Nat),(↑g:Int)=0/\iE (i.add g)=iE i.out/\∃(h:Nat->Prop),∃(j:Nat->Nat),h g/\∀(k:Nat),h k->dp (decide ((↑k:Int)<(↑(iE (jD e)).length:Int))) ((0<=(↑k:Int)/\(↑k:Int)<(↑(iE (jD e)).length:Int))/\∃(l:Int),zD (iE (jD e)) (↑k:Int).toNat 0 1=az [dI l]/\(0<=(↑k:Int)/\(↑k:Int)<(↑(iE (ac (λ(l:Nat) ↦ (↑l:Int)) (i.idx d))).length:Int))/\∃(m:Int),zD (iE (ac (λ(l:Nat) ↦ (↑l:Int)) (i.idx d))) (↑k:Int).toNat 0 1=az [dI m]/\(0<=m/\m<(↑(iE (i.add k)).length:Int))/\∃(n:Int),zD (iE (i.add k)) m.toNat 0 1=az [dI n]/\(0<=m/\m<(↑(iE (i.add k)).length:Int))/\m.toNat<(iE (i.add k)).length/\∃(p:Nat),(↑p:Int)=aa.wrap ((↑k:Int)+1)/\iE (i.add p)=zV (iE (i.add k)) m.toNat 0 [dI (aa.wrap (n+l))]/\h p/\j p<j k/\di (aw 2 1 (iE (jD e)))/\di (ax 1 (iE (i.left d)))/\di (aw 3 1 (iE (ac (λ(l:Nat) ↦ (↑l:Int)) (i.idx d))))) (∃(l:Unit),iE (pP i)=iE (i.add k)/\True))
def yUp (o:zI):Prop:=
 ∃(a:Unit),di o.top/\True
def yBk (l:List zI):Prop:=
 ∃(a:Nat),(↑a:Int)=0/\∃(b:Nat->Prop),∃(c:Nat->Nat),b a/\∀(d:Nat),b d->dp (decide ((↑d:Int)<(↑(ac vG l).length:Int))) ((0<=(↑d:Int)/\(↑d:Int)<(↑(ac vG l).length:Int))/\∃(e:Int),∃(f:Int),∃(g:Int),∃(h:Int),∃(j:Bool),zD (ac vG l) (↑d:Int).toNat 0 5=az [dI e,dI f,dI g,dI h,D.v (.bool j)]/\∃(k:zI),k.id=e/\k.side=f/\k.dj=g/\k.dq=h/\k.top=j/\True/\∀(m:Unit),True->dp k.top (∃(n:Unit),iU l=(↑d:Int)/\True) (v7 d b c)) (∃(e:Unit),iU l=(-1)/\True)
def yQv:QF.ok Tryz.prog 250:=gw (V:=yUp) mixed fg 0 (λ_=>[]) (λ_=>[]) [] Tryz.func250 λ(o:zI) _=>by
 unfold yUp;exact⟨(),rfl,trivial⟩
def z7a (i:uv):(jD i).length=i.l.length\/jD i=[]:=by
 rw[jD];split
 ·left;rw[uv.p1,X8,List.length_zip,Zi];simp
 ·exact .inr rfl
def ZR {l:List zI} {k:Nat} {o:zI} (h:l[k]? =az o):zD (l.map vG) k 0 5=az [D.v (.int .i64 o.id),.v (.int .i64 o.side),.v (.int .i64 o.dj),.v (.int .i64 o.dq),.v (.bool o.top)]:=jq h (by simp[vG]) rfl
def yOu (l:List zI) (h:Dc.dp l):yBk l:=by
 have h:l.length<=1000000:=h;unfold yBk v7 kA dI;simp only[ia];refine⟨0,rfl,λj=>j<=l.length/\∀k<j,∀x,l[k]? =az x->x.top=aq,λj=>l.length-j,⟨oM,λk hk=>by omega⟩,?_⟩;rintro j ⟨h3,h4⟩;refine zH (λhj=> ?_) (λhj=> ?_)
 ·obtain⟨s,hs⟩:=z7 (l:=l) (i:=j) oM;refine⟨⟨oM,oM⟩,s.id,s.side,s.dj,s.dq,s.top,ZR hs,s,nr ⟨rfl,trivial,λ_ _=>Cv.dp.mk (λe=> ?_) (λe=> ?_)⟩⟩
  ·rw[iU,WW hs e h4];exact kp
  ·refine⟨j+1,by rw[ir (by omega)];rfl,⟨oM,λk hk x hx=> ?_⟩,by(first|omega|(dsimp only;omega)),gn⟩;rcases uo k j with qx|qx
   ·exact h4 k qx x hx
   ·obtain rfl:k=j:=by omega
    rw[hs]at hx;cases hx;exact e
 ·rw[iU,XK λk x hx=>h4 k (by have:=(jl.1 hx).1;omega) x hx];exact kp
def yCu:Dc.ok Tryz.prog 249:=gw mixed (dw yQv fg) 0 (λ_=>[]) (λl=>yPs l) [] Tryz.func249 yOu
def yLh (i:ph) (j:Nat):i.idx (j+1)=i.idx j++if i.out.getD j 0<i.l.getD j 0 then[j]else[]:=by
 rw[ph.idx,IL,IS];by_cases h:i.out.getD j 0<i.l.getD j 0
 ·rw[fc h,OG (by simpa using h)];rfl
 ·rw[ej h,OF (by simpa using h)];rfl
def yXi (i:ph) {k n:Nat} (h:n∈i.idx k):n<k:=by
 have:=(ve.1 h).1;exact BT.1 this
def yAc (i:ph) (k:Nat):(i.idx k).length<=k:=by
 have:=Hg (λn=>decide (i.out.getD n 0<i.l.getD n 0)) (ak k);rw[List.length_range]at this;exact this
def z3d:∀(z:List (Nat×Int)) (o:List Int),(z.foldl (λo y=>o.set y.1 (aa.wrap (o.getD y.1 0+y.2))) o).length=o.length
 |[],_=>rfl
 |y::z,o=>by rw[EA,z3d z,qp]
def y3g (i:ph) (h:Jw.dp i):yUv i:=by
 obtain⟨hl,ho,hq,hle,hb⟩:i.ok:=h;unfold yUv dI;simp only[y4,ia];have hil:∀j,(i.left j).length=(i.idx j).length:=λj=>ia _
 refine⟨0,by(first|exact rfl|exact trivial),by(first|exact rfl|exact trivial),by(first|exact rfl|exact trivial),λj=>j<=i.l.length,λj=>i.l.length-j,my _,λj hj=>zH (λc=> ?_) (λc=> ?_)⟩
 ·have oh:j<i.l.length:=by omega
  obtain⟨n,hn⟩:=z7 (l:=i.l) (i:=j) oh;obtain⟨o,GF⟩:=z7 (l:=i.out) (i:=j) oM;have bj:=hb j;rw[zT hn,zT GF]at bj;have is:=yLh i j;rw[zT hn,zT GF]at is;have il:=yAc i j;refine⟨⟨oM,oM⟩,n,qz hn,⟨oM,oM⟩,o,qz GF,zH (λa=> ?_) (λa=> ?_)⟩
  ·rw[fc (by omega)]at is;refine⟨⟨oM,oM⟩,n,qz hn,⟨oM,oM⟩,o,qz GF,by rw[hil];omega,oM,j+1,qw oM,?_,?_,oh,Z9,gn⟩
   ·rw[ir (by omega),ph.left,is,jk];simp[iE,ph.left,hn,GF]
   ·rw[is];simp[iE]
  ·rw[ej (by omega),oL]at is;exact⟨j+1,qw oM,by rw[ph.left,is];rfl,by rw[is],oh,Z9,gn⟩
 have EO:j=i.l.length:=by omega
 subst EO;have il:=yAc i i.l.length;refine⟨⟨i.left i.l.length,i.least,i.q⟩,rfl,rfl,rfl,⟨by dsimp only;rw[hil];omega,hq,hle⟩,λ_ _=> ?_⟩;have epl:jD ⟨i.left i.l.length,i.least,i.q⟩=i.pl:=rfl;rw[epl];have ym:i.pl.length<=(i.idx i.l.length).length:=by
  rcases z7a ⟨i.left i.l.length,i.least,i.q⟩with e|e
  ·rw[epl]at e;rw[e];dsimp only;rw[hil];exact km _
  ·rw[epl]at e;rw[e];exact my _
 have BG:∀k,(i.add k).length=i.out.length:=λk=>z3d _ _
 refine⟨0,by(first|exact rfl|exact trivial),by(first|exact rfl|exact trivial),λk=>k<=i.pl.length,λk=>i.pl.length-k,my _,λk hk=>zH (λc=> ?_) (λc=> ?_)⟩
 ·have qx:k<i.pl.length:=by omega
  obtain⟨x,hx⟩:=z7 (l:=i.pl) (i:=k) qx;obtain⟨n,hn⟩:=z7 (l:=i.idx i.l.length) (i:=k) oM;have O5:=yXi i (lr hn);obtain⟨y,hy⟩:=z7 (l:=i.add k) (i:=n) (by rw[BG];omega);have ea:i.add (k+1)=(i.add k).set n (aa.wrap (y+x)):=by
   have hz:((i.idx i.l.length).zip i.pl)[k]? =az (n,x):=by rw[OH];exact⟨hn,hx⟩
   have ey:(i.add k).getD n 0=y:=zT hy;rw[ph.add,sm,hz,IP];show(i.add k).set n (aa.wrap ((i.add k).getD n 0+x))=_;rw[ey]
  have hnm:((i.idx i.l.length).map λ(n:Nat)=>(n:Int))[k]? =az (n:Int):=by rw[uq,hn];rfl
  rw[BG];refine⟨⟨oM,oM⟩,x,qz hx,⟨oM,oM⟩,n,qz hnm,⟨oM,oM⟩,y,qz hy,⟨oM,oM⟩,oM,k+1,qw oM,?_,qx,Z9,gn⟩;rw[ea,ow,RE hy]
 ·have BD:k=i.pl.length:=by omega
  subst BD;exact⟨(),rfl,trivial⟩
def z8w:Jw.ok Tryz.prog 260:=gw mixed (dw yMi fg) 0 (λ_=>[]) (λi=>y4w i) [] Tryz.func260 y3g
structure um where
 l:List Int
 top:Int
 most:Int
 least:Int
 q:Int
def um.first (i:um):Int:=min (min (i.l.getD i.top.toNat 0) i.most) i.q
def um.rs (i:um):ph:=if 0<=i.top/\i.top<i.l.length then⟨i.l,(af i.l.length 0).set i.top.toNat i.first,i.least,i.q-i.first⟩else⟨i.l,af i.l.length 0,i.least,i.q⟩
def Cr (i:um):List Int:=if yX i.l i.q=ap/\1<=i.least/\0<=i.most then pP i.rs else[]
def PU:fy:=fj um (λi=>[iV i.l,zA i.top,zA i.most,zA i.least,zA i.q]) (λ_=>[]) (λi=>i.l.length<=1000000/\gq i.q/\gq i.least/\gq i.most) (λ_=> .own 0) (λi=>[.own 2 1 (iE (Cr i))])
structure Ji where
 l:List Int
 part:Int
 least:Int
 q:Int
def Ji.rs (i:Ji):ph:=⟨i.l,gO i.l (i.q*i.part / 100),i.least,i.q-i.q*i.part / 100⟩
def BS (i:Ji):List Int:=if yX i.l i.q=ap/\0<=i.part/\i.part<=100/\1<=i.least then pP i.rs else[]
def PN:fy:=fj Ji (λi=>[iV i.l,zA i.part,zA i.least,zA i.q]) (λ_=>[]) (λi=>i.l.length<=1000000/\gq i.q/\gq i.least/\gq i.part) (λ_=> .own 0) (λi=>[.own 2 1 (iE (BS i))])
def Sz (a:ph):Prop:=a.l.length<=250/\a.out.length=a.l.length/\((-9223372036854775808)<=a.q/\a.q<=9223372036854775807)/\((-9223372036854775808)<=a.least/\a.least<=9223372036854775807)/\∀(b:Nat),0<=a.out.getD b 0/\a.out.getD b 0<=a.l.getD b 0/\a.l.getD b (0:Int)<=(1000000:Int)
def Wg (a:ph) (b:um):Prop:=(Sz a)/\∀(c:Unit),True->∃(d:Unit),iE (Cr b)=iE (pP a)/\True
def V6 (a:um):Prop:=∃(b:ph),iE b.l=iE a.l/\b.least=a.least/\b.q=a.q/\iE b.out=af (↑(iE a.l).length:Int).toNat [dI 0]/\Wg b a
def l6 (a:um):=(af (↑(iE a.l).length:Int).toNat [dI 0])
def VN (a:um) (b:Int):=(zV (l6 a) a.top.toNat 0 [dI (min (min b a.most) a.q)])
def y5y (i:um):Prop:=
 ∃(a:BL),iE a.l=iE i.l/\a.q=i.q/\(wI a)/\∀(b:Unit),True->dp (!yX a.l a.q) (∃(c:Unit),iE (Cr i)=[]/\True) (dp (decide (i.least<1)) (∃(c:Unit),iE (Cr i)=[]/\True) (dp (decide (i.most<0)) (∃(c:Unit),iE (Cr i)=[]/\True) ((0<=(↑(iE i.l).length:Int)/\(↑(iE i.l).length:Int)<=(↑(iE i.l).length:Int)/\(↑(iE i.l).length:Int)<=9223372036854775807/\(↑(8:Nat):Int)*(↑(iE i.l).length:Int)<=2 ^ (48:Nat))/\dp (decide (i.top>=0)) (dp (decide (i.top<(↑(iE i.l).length:Int))) ((0<=i.top/\i.top<(↑(iE i.l).length:Int))/\∃(c:Int),zD (iE i.l) i.top.toNat 0 1=az [dI c]/\(0<=i.top/\i.top<(↑(l6 i).length:Int))/\i.top.toNat<(l6 i).length/\(0<=i.top/\i.top<(↑(VN i c).length:Int))/\∃(d:Int),zD (VN i c) i.top.toNat 0 1=az [dI d]/\∃(e:ph),iE e.l=iE i.l/\e.least=i.least/\e.q=aa.wrap (i.q-d)/\iE e.out=zV (l6 i) i.top.toNat 0 [dI (min (min c i.most) i.q)]/\Wg e i) (V6 i)) (V6 i))))
def y5k (i:Ji):Prop:=
 ∃(a:BL),iE a.l=iE i.l/\a.q=i.q/\(wI a)/\∀(b:Unit),True->dp (!yX a.l a.q) (∃(c:Unit),iE (BS i)=[]/\True) (dp (decide (i.part<0)) (∃(c:Unit),iE (BS i)=[]/\True) (dp (decide (i.part>100)) (∃(c:Unit),iE (BS i)=[]/\True) (dp (decide (i.least<1)) (∃(c:Unit),iE (BS i)=[]/\True) (∃(c:KZ),c.a=i.q/\c.b=i.part/\c.c=100/\(0<=c.a/\c.a<=(2000000000:Int)/\(0:Int)<=c.b/\c.b<=(2000000000:Int)/\(1:Int)<=c.c/\c.c<=2000000000)/\∀(d:Unit),True->∃(e:BL),iE e.l=iE i.l/\e.q=c.a*c.b / c.c/\(wI e)/\∀(f:Unit),True->∃(g:ph),iE g.l=iE i.l/\g.least=i.least/\g.q=aa.wrap (i.q-c.a*c.b / c.c)/\iE g.out=iE (gO e.l e.q)/\(Sz g)/\∀(h:Unit),True->∃(j:Unit),iE (BS i)=iE (pP g)/\True))))
end Sx
