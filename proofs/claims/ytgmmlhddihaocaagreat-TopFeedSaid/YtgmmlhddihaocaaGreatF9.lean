/- Texts of ours. No condition. -/
import Derived.Test.YtgmmlhddihaocaaGreatF8
set_option linter.all false
open Sx.fj renaming kg->ab,cells->ac,jz->ae,map->af,own->ag,ra->aj
open List renaming map->ak
open Bool renaming false->am,true->ao
open Go.IntKind renaming i64->ap
open Option renaming some->aq,none->ar
open Go.Value renaming int->au,string->av
open ByteArray renaming mk->aw
namespace Sx
set_option maxRecDepth 100000
open Go Cv Go.Proofs
def f9 {s:Int} (h:s=1\/s=2):zE (decide (s=2))=s:=by
 rcases h with rfl|rfl<;>rfl
def xFy (i:np) (h:SL.dp i):xFi i:=by
 obtain⟨hR,hB,⟨h0,h1⟩,vl,uf⟩:i.s.fv i.p i.B/\jb i.p i.B/\(0<=i.inst/\i.inst<i.B.length)/\1<=i.q/\i.q<=1000000:=h;have Ax:=hR.bl;have wm:=xF i.p;have hbB:=hB.bl;unfold xFi yAg QI Qa fa cZ PE fM Zt Vz Zf yF aB QI Qa dI;refine(λhT=>zH (λc=>zH (λc2=>Cv.dp.mk (λ_=>zH (λ_=>Cv.dp.mk (λe=>absurd uf (by simpa using e)) (λ_=>hT)) (λe=>absurd vl e)) (λe1=>Cv.dp.mk (λ_=>zH (λ_=>Cv.dp.mk (λe=>absurd uf (by simpa using e)) (λ_=>hT)) (λe=>absurd vl e)) (λe2=>by
  rcases Pm i.sd with e|e
  ·rw[e]at e1;cases e1
  ·rw[e]at e2;cases e2))) (λc2=>absurd oM c2)) (λc=>absurd h0 c)) ?_
 refine⟨⟨i.s,i.B,[],i.q⟩,iw (ni ⟨rfl,λj=>j.s.fv i.p j.B/\jb i.p j.B/\j.B.length=i.B.length/\(0<=j.q/\j.q<=i.q)/\(j.steps.length:Int)<=i.q-j.q/\i.r=⟨j.steps++(vH i.p j.B i.inst i.sd i.dm j.q).steps,(vH i.p j.B i.inst i.sd i.dm j.q).left,(vH i.p j.B i.inst i.sd i.dm j.q).B⟩,λj=>j.q.toNat,⟨hR,hB,rfl,⟨Z9,xq _⟩,by dsimp only;simp,rfl⟩,?_⟩)⟩;rintro⟨s,B,st,q⟩ ⟨r1,r2,r3,⟨r4,r4'⟩,r5,r6⟩;dsimp only at r1 r2 r3 r4 r4' r5 r6 ⊢;have FN (hn:q<=0\/m4 i.p B i.inst i.sd i.dm q=ar):∃(o:gv),i.r.left=q/\aj gv (5:Nat) x6 o=aj gv (5:Nat) x6 s/\ak wX i.r.steps=ak wX st/\o.fv i.p i.r.B:=by
  rw[PF hn,oJ]at r6;rw[r6];exact⟨s,iJ r1⟩
 refine zH (λc=> ?_) (λc=>FN (.inl oM));have c:0<q:=c;refine⟨i.sd,rfl,trivial,λ_ _=>⟨⟨s,i.p,B,i.inst,!i.sd⟩,rfl,rfl,rfl,⟨r1,r2,h0,Z9⟩,λ_ _=> ?_⟩⟩;dsimp only;have hni:=yHc r2 r1.ox (inst:=i.inst) ⟨h0,oM⟩ (Pm (!i.sd));have EV:m4 i.p B i.inst i.sd i.dm q=(if((yZ i.p B i.inst (zE (!i.sd))).2.2 && (aR i.sd i.dm (yZ i.p B i.inst (zE (!i.sd))).1.dm && decide (1<=(yZ i.p B i.inst (zE (!i.sd))).1.dr)))=ao then
  if(yZ i.p B i.inst (zE (!i.sd))).2.1=ao then
   aq (⟨(yZ i.p B i.inst (zE (!i.sd))).1.dm,min q (yZ i.p B i.inst (zE (!i.sd))).1.dr,ao,kO i.p B (yZ i.p B i.inst (zE (!i.sd))).1.a.inst (yZ i.p B i.inst (zE (!i.sd))).1.a.side (min q (yZ i.p B i.inst (zE (!i.sd))).1.dr)++kO i.p (jM B (kO i.p B (yZ i.p B i.inst (zE (!i.sd))).1.a.inst (yZ i.p B i.inst (zE (!i.sd))).1.a.side (min q (yZ i.p B i.inst (zE (!i.sd))).1.dr))) (yZ i.p B i.inst (zE (!i.sd))).1.b.inst (yZ i.p B i.inst (zE (!i.sd))).1.b.side (min q (yZ i.p B i.inst (zE (!i.sd))).1.dr)⟩,jM (jM B (kO i.p B (yZ i.p B i.inst (zE (!i.sd))).1.a.inst (yZ i.p B i.inst (zE (!i.sd))).1.a.side (min q (yZ i.p B i.inst (zE (!i.sd))).1.dr))) (kO i.p (jM B (kO i.p B (yZ i.p B i.inst (zE (!i.sd))).1.a.inst (yZ i.p B i.inst (zE (!i.sd))).1.a.side (min q (yZ i.p B i.inst (zE (!i.sd))).1.dr))) (yZ i.p B i.inst (zE (!i.sd))).1.b.inst (yZ i.p B i.inst (zE (!i.sd))).1.b.side (min q (yZ i.p B i.inst (zE (!i.sd))).1.dr)))
  else aq (⟨(yZ i.p B i.inst (zE (!i.sd))).1.dm,min q (yZ i.p B i.inst (zE (!i.sd))).1.dr,am,kO i.p B i.inst (zE (!i.sd)) (min q (yZ i.p B i.inst (zE (!i.sd))).1.dr)⟩,jM B (kO i.p B i.inst (zE (!i.sd)) (min q (yZ i.p B i.inst (zE (!i.sd))).1.dr)))else ar):=rfl
 generalize yZ i.p B i.inst (zE (!i.sd))=nb at hni EV ⊢;refine Cv.dp.mk (λn1=> ?_) (λn1=>⟨⟨i.sd,i.dm,nb.1.dm⟩,rfl,rfl,rfl,trivial,λ_ _=>Cv.dp.mk (λn2=> ?_) (λn2=> ?_)⟩)
 ·have n1:nb.2.2=am:=by simpa using n1
  rw[n1,eg (by simp)]at EV;exact FN (.inr EV)
 ·have n2:aR i.sd i.dm nb.1.dm=am:=by simpa using n2
  rw[n2,eg (by simp)]at EV;exact FN (.inr EV)
 have n1:nb.2.2=ao:=by simpa using n1
 have n2:aR i.sd i.dm nb.1.dm=ao:=by simpa using n2
 obtain⟨⟨b1,b2⟩,hi,hr⟩:=hni n1;rw[n1,n2,jk b1,fc (by rfl)]at EV;have hk:gr (min q nb.1.dr):=by constructor<;>omega
 have yo:(st.length+1)*48<=140737488355328:=by omega
 have beh:∀(t:wS) (B':List (List zK)) (s':gv),m4 i.p B i.inst i.sd i.dm q=aq (t,B')->s'.fv i.p B'->jb i.p B'->B'.length=B.length->
  (s'.fv i.p B'/\jb i.p B'/\B'.length=i.B.length/\(0<=q-t.dr/\q-t.dr<=i.q)/\((st++[t]).length:Int)<=i.q-(q-t.dr)/\i.r=⟨(st++[t])++(vH i.p B' i.inst i.sd i.dm (q-t.dr)).steps,(vH i.p B' i.inst i.sd i.dm (q-t.dr)).left,(vH i.p B' i.inst i.sd i.dm (q-t.dr)).B⟩)/\(q-t.dr).toNat<q.toNat:=by
  intro t B' s' h1 h2 h3 h4;have ht:=O6 oM h1;refine⟨⟨h2,h3,oM,⟨oM,oM⟩,by rw[iv,Ba];omega,?_⟩,oM⟩;rw[YE (by omega) h1]at r6;rw[r6,iY];rfl
 refine Cv.dp.mk (λn3=> ?_) (λn3=> ?_)
 ·obtain⟨_,ok⟩:=hi n3;rw[n3,fc rfl]at EV;have oka:=ok.a;have okb:=ok.b;rw[gy]at oka okb;have ea:=f9 ok.sa;have eb:=f9 ok.sb;refine⟨⟨s,i.p,B,nb.1.a.inst,decide (nb.1.a.side=2),min q nb.1.dr⟩,rfl,ea,rfl,rfl,⟨r1,r2,oka.1,oka.2,hk⟩,λs1 ue=> ?_⟩;dsimp only at ue ⊢;rw[ea]at ue ⊢;have l1:=rY (p:=i.p) r1.ox nb.1.a.inst nb.1.a.side (min q nb.1.dr);have OF:=r2.takes (fs:=kO i.p B nb.1.a.inst nb.1.a.side (min q nb.1.dr));have l2:=rY (p:=i.p) ue.ox nb.1.b.inst nb.1.b.side (min q nb.1.dr);refine⟨trivial,by rw[gy];omega,⟨s1,i.p,jM B (kO i.p B nb.1.a.inst nb.1.a.side (min q nb.1.dr)),nb.1.b.inst,decide (nb.1.b.side=2),min q nb.1.dr⟩,rfl,eb,rfl,rfl,⟨ue,OF,okb.1,by dsimp only;rw[gC];exact okb.2,hk⟩,λs2 yp=> ?_⟩;dsimp only at yp ⊢;rw[eb]at yp ⊢;obtain⟨g1,g2⟩:=beh _ _ s2 EV yp OF.takes (by rw[gC,gC]);refine⟨trivial,by rw[gy,gy];omega,by rw[gy];exact yo,⟨s2,_,st++[_],_⟩,?_,rfl,?_,g1,g2,gg⟩
  ·dsimp only;rw[iq (by omega)]
  ·dsimp only;rw[jl,n3];simp[wX]
 ·rw[n3,eg (by decide)]at EV;refine⟨i.sd,rfl,trivial,λ_ _=>⟨rfl,⟨s,i.p,B,i.inst,!i.sd,min q nb.1.dr⟩,iJ ⟨rfl,⟨r1,r2,h0,Z9,hk⟩,λs1 ue=> ?_⟩⟩⟩;dsimp only at ue ⊢;obtain⟨g1,g2⟩:=beh _ _ s1 EV ue r2.takes (by rw[gC]);refine⟨by rw[gy];exact yo,⟨s1,_,st++[_],_⟩,?_,rfl,?_,g1,g2,gg⟩
  ·dsimp only;rw[iq (by omega)]
  ·dsimp only;rw[jl,n3];simp[wX]
def yAn:SL.ok Tryz.prog 216:=gu mixed (dw yVg (dw zVw (dw z5q (dw yPv fg)))) 2 (λ_=>[]) (λ_=>xHn) [0] Tryz.func216 xFy
def ySt {L:List zK} {s id p q:Int} {o:zK} (h:o∈HU L s id p q):o.dm=p\/∃o'∈L,o.dm=o'.dm:=by
 have key:∀X:List zK,(o∈X.takeWhile (before s p)++⟨id,s,p,q,fS L s p⟩::X.dropWhile (before s p))->o.dm=p\/o∈X:=by
  intro X hX;rcases oK.1 hX with hX|hX
  ·exact .inr (List.takeWhile_sublist _|>.subset hX)
  ·rcases jq.1 hX with rfl|hX
   ·exact .inl rfl
   ·exact .inr (List.dropWhile_sublist _|>.subset hX)
 rw[HU]at h;split at h
 ·rcases key _ h with h|h
  ·exact .inl h
  ·obtain⟨o',oG,_,_,e,_⟩:=yCy h;exact .inr ⟨o',oG,e⟩
 ·rcases key _ h with h|h
  ·exact .inl h
  ·exact .inr ⟨o,h,rfl⟩
def jb.add {p:ff} {B:List (List zK)} (h:jb p B) (inst id s dm q:Int):jb p (Ld p B inst id s dm q).1:=by
 rw[Ld];split
 ·exact h
 split
 ·exact h
 split
 ·exact h
 split
 ·exact h
 rename_i c1 _ _ c4;have c4:p.dm inst dm=0:=by simpa using c4
 refine⟨h.pc,h.ps,by simpa using h.bl,λk L hL o ho=> ?_⟩;dsimp only at hL;rcases a8 hL with⟨rfl,rfl⟩|⟨_,hL⟩
 ·obtain⟨L',J6⟩:=z6 (l:=B) (i:=inst.toNat) oM;rw[zY J6,ED]at ho;have e:((inst.toNat:Nat):Int)=inst:=by omega
  repeat' split at ho
  ·exact h.pr _ L' J6 o ho
  ·exact h.pr _ L' J6 o ho
  ·exact h.pr _ L' J6 o ho
  ·rcases ySt ho with h1|⟨o',oG,h1⟩
   ·rw[h1,e];exact c4
   ·rw[h1];exact h.pr _ L' J6 o' oG
 ·exact h.pr k L hL o ho
def jb.new {p:ff} (hc:p.check=0) (hp:p.small):jb p (List.replicate p.count []):=by
 refine⟨hc,hp,by simp,λk L hL o ho=> ?_⟩;rw[Rp (ku hL)]at ho;cases ho
def gv.fv.fit {s:gv} {p:ff} {B:List (List zK)} (h:s.fv p B) (hb:jb p B):s.fit:=by
 have:=xF p;refine⟨by rw[h.ep];exact hb.ps,by rw[h.bl,hb.bl];omega,λb hm=> ?_⟩;obtain⟨k,hk⟩:=Bt.1 hm;have gn:=(jf.1 hk).1;rw[h.bl]at gn;obtain⟨L,hL⟩:=z6 gn;exact(h.bk k b L hk hL).fit
def Hl (r:Nat):Bool:=decide (32<=r) && decide (r≠127) && decide (r≠65533)
def dU (s:List UInt8):Bool:=(jO s).all Hl && decide (1<=(jO s).length) && decide ((jO s).length<=12)
def S0:fy:=fi (List UInt8) (λs=>[sV s]) (λ_=>[]) (λs=>s.length<=140737488355328) (λs=>yL (dU s)) (λ_=>[])
def xHz (s:List UInt8):List gm:=[{ι:=Nat×Nat,du:=λx=>[(3,zB x.2),(7,.nm 0 0)],rows:=λx=>[.iter (sb s) x.1]}]
def uJ (n:Int):Bool:=decide (-2000000<=n) && decide (n<=2000000)
def jA (n:Int):Bool:=decide (1<=n) && decide (n<=1000000)
def ie.gf (c:ie):Int:=
 if c.side≠1/\c.side≠2 then 21 else if c.time<1\/3<c.time then 27 else if jA c.dr=am then 24 else if c.least<0\/c.dr<c.least then 28
 else if c.label≠[]/\dU c.label=am then 29 else if uJ c.dm=am then 23 else if c.inst<0\/255<c.inst then 20 else 0
def ie.right (c:ie):Int:=
 if c.kind<1\/4<c.kind then 31 else if c.id<1\/1099511627776<c.id then 1 else if c.kind=1 then c.gf
 else if c.kind≠2/\jA c.dr=am then 24 else if c.kind=4/\uJ c.dm=am then 23 else 0
def D0:fy:=fi ie (λc=>[C8 c]) (λ_=>[]) (λc=>c.label.length<=140737488355328) (λc=>zB c.gf) (λ_=>[])
def GR:fy:=fi ie (λc=>[C8 c]) (λ_=>[]) (λc=>c.label.length<=140737488355328) (λc=>zB c.right) (λ_=>[])
def xEo (s:List UInt8):Prop:=
 ∃(a:Nat×Nat),(↑a.snd:Int)=0/\sb s=sb s/\a.fst=0/\∃(b:Nat×Nat->Prop),∃(c:Nat×Nat->Nat),b a/\∀(d:Nat×Nat),b d->dp (d.fst.blt (sb s).size) (dp (decide ((qR s d)<32)) (dx (dU s=am/\True)) (dp ((qR s d)==127) (dx (dU s=am/\True)) (dp ((qR s d)==65533) (dx (dU s=am/\True)) (c9 d s b c)))) (dp (decide ((↑d.snd:Int)>=1)) (dx (dU s=decide ((↑d.snd:Int)<=12)/\True)) (dx (dU s=am/\True)))
def zKr (a:ie):Prop:=∃(b:List UInt8),sb b=sb a.label/\b.length<=140737488355328/\fa (dp (!dU b) (dx (a.gf=29/\True)) (dp (decide (a.dm>=(-2000000))) (dp (!decide (a.dm<=2000000)) (dx (a.gf=23/\True)) (dp (decide (a.inst<0)) (dx (a.gf=20/\True)) (dp (decide (a.inst>255)) (dx (a.gf=20/\True)) (dx (a.gf=0/\True))))) (dx (a.gf=23/\True))))
def y1g (c:ie):Prop:=
 dp (c.side !=1) (dp (c.side !=2) (dx (c.gf=21/\True)) (dp (decide (c.time<1)) (dx (c.gf=27/\True)) (dp (decide (c.time>3)) (dx (c.gf=27/\True)) (dp (decide (c.dr>=1)) (dp (!decide (c.dr<=1000000)) (dx (c.gf=24/\True)) (dp (decide (c.least<0)) (dx (c.gf=28/\True)) (dp (decide (c.least>c.dr)) (dx (c.gf=28/\True)) (dp (!(sb c.label).toList==(aw #[]).toList) (zKr c) (dp (decide (c.dm>=(-2000000))) (dp (!decide (c.dm<=2000000)) (dx (c.gf=23/\True)) (dp (decide (c.inst<0)) (dx (c.gf=20/\True)) (dp (decide (c.inst>255)) (dx (c.gf=20/\True)) (dx (c.gf=0/\True))))) (dx (c.gf=23/\True))))))) (dx (c.gf=24/\True)))))) (dp (decide (c.time<1)) (dx (c.gf=27/\True)) (dp (decide (c.time>3)) (dx (c.gf=27/\True)) (dp (decide (c.dr>=1)) (dp (!decide (c.dr<=1000000)) (dx (c.gf=24/\True)) (dp (decide (c.least<0)) (dx (c.gf=28/\True)) (dp (decide (c.least>c.dr)) (dx (c.gf=28/\True)) (dp (!(sb c.label).toList==(aw #[]).toList) (zKr c) (dp (decide (c.dm>=(-2000000))) (dp (!decide (c.dm<=2000000)) (dx (c.gf=23/\True)) (dp (decide (c.inst<0)) (dx (c.gf=20/\True)) (dp (decide (c.inst>255)) (dx (c.gf=20/\True)) (dx (c.gf=0/\True))))) (dx (c.gf=23/\True))))))) (dx (c.gf=24/\True)))))
def yUb (c:ie):Prop:=
 dp (decide (c.kind<1)) (dx (c.right=31/\True)) (dp (decide (c.kind>4)) (dx (c.right=31/\True)) (dp (decide (c.id<1)) (dx (c.right=1/\True)) (dp (decide (c.id>1099511627776)) (dx (c.right=1/\True)) (dp (c.kind==1) (∃(a:ie),Qd a c (a.label.length<=140737488355328/\fa (dx (c.right=a.gf/\True)))) (dp (c.kind !=2) (dp (decide (c.dr>=1)) (dp (!decide (c.dr<=1000000)) (dx (c.right=24/\True)) (dp (c.kind==4) (dp (decide (c.dm>=(-2000000))) (dp (!decide (c.dm<=2000000)) (dx (c.right=23/\True)) (dx (c.right=0/\True))) (dx (c.right=23/\True))) (dx (c.right=0/\True)))) (dx (c.right=24/\True))) (dp (c.kind==4) (dp (decide (c.dm>=(-2000000))) (dp (!decide (c.dm<=2000000)) (dx (c.right=23/\True)) (dx (c.right=0/\True))) (dx (c.right=23/\True))) (dx (c.right=0/\True))))))))
def xIm (s:List UInt8) (h:S0.dp s):xEo s:=by
 have h:s.length<=140737488355328:=h;have hr:=zLb s;unfold xEo dx qR c9;refine⟨(0,0),rfl,rfl,rfl,λx=>x.1<=s.length/\x.2+(gW s x.1).length=(jO s).length/\(jO s).all Hl=(gW s x.1).all λx=>Hl x.2,λx=>s.length-x.1,⟨oM,by rw[jO,gy];simp,by rw[jO,List.all_map];rfl⟩,?_⟩;rintro⟨p,n⟩ ⟨h1,h2,h3⟩;dsimp only at h1 h2 h3 ⊢;refine Cv.dp.mk (λhp=> ?_) (λhp=> ?_)
 ·have hp:p<s.length:=by simpa[yj]using hp
  have hw:=aJ s hp;rw[wG hp,iC]at h2;rw[wG hp,List.all_cons]at h3;generalize hc:(Utf8.decode (sb s) p).1=c at h2 h3 ⊢;generalize hww:(Utf8.decode (sb s) p).2=w at h2 h3 hw ⊢;dsimp only at h3;have bad:Hl c=am->∃(o:Unit),dU s=am/\True:=λe=>⟨(),by rw[dU,h3,e];rfl,trivial⟩
  refine zH (λc1=>bad ?_) (λc1=>Cv.dp.mk (λc2=>bad ?_) (λc2=>Cv.dp.mk (λc3=>bad ?_) (λc3=> ?_)))
  ·simp[Hl];omega
  ·have c2:(c:Int)=127:=by simpa using c2
   simp[Hl];omega
  ·have c3:(c:Int)=65533:=by simpa using c3
   simp[Hl];omega
  ·have c2:¬(c:Int)=127:=by simpa using c2
   have c3:¬(c:Int)=65533:=by simpa using c3
   have e:Hl c=ao:=by simp[Hl];omega
   refine⟨(p+w,n+1),?_,rfl,rfl,⟨hw.2,by(first|omega|(dsimp only;omega)),by rw[h3,e];rfl⟩,by(first|omega|(dsimp only;omega)),trivial⟩;rw[iq (by omega)];rfl
 ·have hp:s.length<=p:=by have:=Xg hp;simpa using this
  rw[uP hp]at h2 h3;have h2:n=(jO s).length:=h2;have h3:(jO s).all Hl=ao:=h3;refine zH (λc=>⟨(),?_,trivial⟩) (λc=>⟨(),?_,trivial⟩)
  ·rw[dU,h3,<- h2,jk (show 1<=n by omega)];simp only[Ao];congr 1;simp only[eq_iff_iff];omega
  ·rw[dU,<- h2,jt (show ¬1<=n by omega)];simp
def y7s:S0.ok Tryz.prog 201:=gu mixed fg 0 (λ_=>[]) (λs=>xHz s) [] Tryz.func201 xIm
def xFt (a b:Int):(a==b)=decide (a=b):=by
 by_cases h:a=b
 ·subst h;simp
 ·simp[h]
def xDn (a b:Int):(a !=b)=decide (a≠b):=by
 by_cases h:a=b
 ·subst h;simp
 ·simp[h]
def eqB (a b:List UInt8):((sb a).toList==(sb b).toList)=decide (a=b):=by
 rw[rV,rV];by_cases h:a=b
 ·subst h;simp
 ·simp[h]
def y7f:aw #[]=sb []:=rfl
def xDt (c:ie) (h:D0.dp c):y1g c:=by
 have h:c.label.length<=140737488355328:=h;unfold y1g dx zKr fa dx;simp only[y7f,eqB,xDn];have tail:¬(c.side≠1/\c.side≠2)->dp (decide (c.time<1)) (∃(o:Unit),c.gf=27/\True) (dp (decide (c.time>3)) (∃(o:Unit),c.gf=27/\True) (dp (decide (c.dr>=1)) (dp (!decide (c.dr<=1000000)) (∃(o:Unit),c.gf=24/\True) (dp (decide (c.least<0)) (∃(o:Unit),c.gf=28/\True) (dp (decide (c.least>c.dr)) (∃(o:Unit),c.gf=28/\True) (dp (!decide (c.label=[])) (∃(i:List UInt8),sb i=sb c.label/\i.length<=140737488355328/\∀(o:Unit),True->dp (!dU i) (∃(o:Unit),c.gf=29/\True) (dp (decide (c.dm>=-2000000)) (dp (!decide (c.dm<=2000000)) (∃(o:Unit),c.gf=23/\True) (dp (decide (c.inst<0)) (∃(o:Unit),c.gf=20/\True) (dp (decide (c.inst>255)) (∃(o:Unit),c.gf=20/\True) (∃(o:Unit),c.gf=0/\True)))) (∃(o:Unit),c.gf=23/\True))) (dp (decide (c.dm>=-2000000)) (dp (!decide (c.dm<=2000000)) (∃(o:Unit),c.gf=23/\True) (dp (decide (c.inst<0)) (∃(o:Unit),c.gf=20/\True) (dp (decide (c.inst>255)) (∃(o:Unit),c.gf=20/\True) (∃(o:Unit),c.gf=0/\True)))) (∃(o:Unit),c.gf=23/\True)))))) (∃(o:Unit),c.gf=24/\True))):=by
  intro hs;have e1:c.gf=if c.time<1\/3<c.time then 27 else if jA c.dr=am then 24 else if c.least<0\/c.dr<c.least then 28
   else if c.label≠[]/\dU c.label=am then 29 else if uJ c.dm=am then 23 else if c.inst<0\/255<c.inst then 20 else 0:=by rw[ie.gf,eg hs]
  refine zH (λd1=>⟨(),by rw[e1,fc (.inl d1)],trivial⟩) λd1=>zH (λd2=>⟨(),by rw[e1,fc (.inr d2)],trivial⟩) λd2=> ?_
  rw[eg (by omega)]at e1;have q (hq:jA c.dr=am):∃(o:Unit),c.gf=24/\True:=⟨(),by rw[e1,fc hq],trivial⟩
  refine zH (λd3=>Cv.dp.mk (λd4=>q ?_) λd4=> ?_) λd3=>q ?_
  ·have d4:¬c.dr<=1000000:=by simpa using d4
   simp[jA,d4]
  ·have d4:c.dr<=1000000:=by simpa using d4
   have hq:¬jA c.dr=am:=by simp[jA,d4];omega
   rw[eg hq]at e1;refine zH (λd5=>⟨(),by rw[e1,fc (.inl d5)],trivial⟩) λd5=>zH (λd6=>⟨(),by rw[e1,fc (.inr d6)],trivial⟩) λd6=> ?_
   rw[eg (by omega)]at e1;have last:¬(c.label≠[]/\dU c.label=am)->dp (decide (c.dm>=-2000000)) (dp (!decide (c.dm<=2000000)) (∃(o:Unit),c.gf=23/\True) (dp (decide (c.inst<0)) (∃(o:Unit),c.gf=20/\True) (dp (decide (c.inst>255)) (∃(o:Unit),c.gf=20/\True) (∃(o:Unit),c.gf=0/\True)))) (∃(o:Unit),c.gf=23/\True):=by
    intro hl;rw[eg hl]at e1;have pr (hq:uJ c.dm=am):∃(o:Unit),c.gf=23/\True:=⟨(),by rw[e1,fc hq],trivial⟩
    refine zH (λg1=>Cv.dp.mk (λg2=>pr ?_) λg2=> ?_) λg1=>pr ?_
    ·have g2:¬c.dm<=2000000:=by simpa using g2
     simp[uJ,g2]
    ·have g2:c.dm<=2000000:=by simpa using g2
     have hp:¬uJ c.dm=am:=by simp[uJ,g2];omega
     rw[eg hp]at e1;refine zH (λg3=>⟨(),by rw[e1,fc (.inl g3)],trivial⟩) λg3=>zH (λg4=>⟨(),by rw[e1,fc (.inr g4)],trivial⟩) λg4=>⟨(),by rw[e1,eg (by omega)],trivial⟩
    ·simp[uJ];omega
   refine Cv.dp.mk (λd7=>⟨c.label,rfl,h,λ_ _=>Cv.dp.mk (λd8=> ?_) λd8=>last ?_⟩) λd7=>last ?_
   ·have d7:¬c.label=[]:=by simpa using d7
    have d8:dU c.label=am:=by simpa using d8
    exact⟨(),by rw[e1,fc ⟨d7,d8⟩],trivial⟩
   ·have d8:dU c.label=ao:=by simpa using d8
    simp[d8]
   ·have d7:c.label=[]:=by simpa using d7
    simp[d7]
  ·simp[jA];omega
 refine zH (λc1=>zH (λc2=>⟨(),by rw[ie.gf,fc ⟨c1,c2⟩],trivial⟩) λc2=>tail ?_) λc1=>tail ?_
 ·omega
 ·omega
def yZl:D0.ok Tryz.prog 165:=gu mixed (dw y7s fg) 1 (λ_=>[]) (λ_=>[]) [] Tryz.func165 xDt
def y4h (c:ie) (h:GR.dp c):yUb c:=by
 have h:c.label.length<=140737488355328:=h;unfold yUb Qd fa dx;simp only[xFt,xDn];refine zH (λc1=>⟨(),by rw[ie.right,fc (.inl c1)],trivial⟩) λc1=>zH (λc2=>⟨(),by rw[ie.right,fc (.inr c2)],trivial⟩) λc2=> ?_
 refine zH (λc3=>⟨(),by rw[ie.right,eg (by omega),fc (.inl c3)],trivial⟩) λc3=>zH (λc4=>⟨(),by rw[ie.right,eg (by omega),fc (.inr c4)],trivial⟩) λc4=> ?_
 have e0:c.right=if c.kind=1 then c.gf else if c.kind≠2/\jA c.dr=am then 24 else if c.kind=4/\uJ c.dm=am then 23 else 0:=by rw[ie.right,eg (by omega),eg (by omega)]
 refine zH (λc5=>⟨c,?_⟩) λc5=> ?_
 ·rw[fc c5]at e0;exact kp
 rw[eg c5]at e0;have last (hn:¬(c.kind≠2/\jA c.dr=am)):dp (decide (c.kind=4)) (dp (decide (c.dm>=-2000000)) (dp (!decide (c.dm<=2000000)) (∃(o:Unit),c.right=23/\True) (∃(o:Unit),c.right=0/\True)) (∃(o:Unit),c.right=23/\True)) (∃(o:Unit),c.right=0/\True):=by
  rw[eg hn]at e0;refine zH (λd1=>zH (λd2=>Cv.dp.mk (λd3=> ?_) λd3=> ?_) λd2=> ?_) λd1=> ?_
  ·have d3:¬c.dm<=2000000:=by simpa using d3
   exact⟨(),by rw[e0,fc ⟨d1,by simp[uJ,d3]⟩],trivial⟩
  ·have d3:c.dm<=2000000:=by simpa using d3
   exact⟨(),by rw[e0,eg (by simp[uJ,d3];omega)],trivial⟩
  ·exact⟨(),by rw[e0,fc ⟨d1,by simp[uJ];omega⟩],trivial⟩
  ·exact⟨(),by rw[e0,eg (by simp[d1])],trivial⟩
 refine zH (λd1=>zH (λd2=>Cv.dp.mk (λd3=> ?_) λd3=>last ?_) λd2=> ?_) λd1=>last ?_
 ·have d3:¬c.dr<=1000000:=by simpa using d3
  exact⟨(),by rw[e0,fc ⟨d1,by simp[jA,d3]⟩],trivial⟩
 ·have d3:c.dr<=1000000:=by simpa using d3
  simp[jA,d3];omega
 ·exact⟨(),by rw[e0,fc ⟨d1,by simp[jA];omega⟩],trivial⟩
 ·omega
def Zu:GR.ok Tryz.prog 115:=gu mixed (dw yZl fg) 1 (λ_=>[]) (λ_=>[]) [] Tryz.func115 y4h
structure Cl where
 s:gv
 p:ff
 B:List (List zK)
 inst:Int
 sd:Bool
@[reducible] def Cl.ok (i:Cl):Prop:=i.s.fv i.p i.B/\i.B.length<=1000
def FY (B:List (List zK)) (inst:Int):List zK:=if inst<0 then[]else B.getD inst.toNat []
def Ki:fy:=fi Cl (λi=>[.nm 0 0,zB i.inst,zB (zE i.sd)]) (λi=>[zF i.s]) (λi=>i.ok) (λ_=> .own 1) (λi=>[zF i.s,.own 177 3 ((gY (FY i.B i.inst) (zE i.sd)).map ic)])
def cS (a:Cl):=(gY (FY a.B a.inst) (zE a.sd))
def zKo (a:Cl):Prop:=dx (Qc a.s.p (dl (ae 211 dq 6 zS a.s.ei ar)/\QL a.s (ak ic (cS a)=[]/\True)))
def y3i (i:Cl):Prop:=
 dp (decide (i.inst>=0)) (dp (!decide (i.inst<(↑i.s.ei.length:Int))) (zKo i) ((0<=i.inst/\i.inst<(↑i.s.ei.length:Int))/\i.inst.toNat<i.s.ei.length/\∃(a:dq),i.s.ei[i.inst.toNat]?=aq a/\∃(b:BkT),zE b.s=zE i.sd/\yE b.b=yE a/\b.b.fv b.L/\fa (∃(d:dq),yE b.b=yE d/\Fa i.inst i.s.ei (dx (Qc i.s.p (ae 211 dq 6 zS i.s.ei ar=ae 211 dq 6 zS (i.s.ei.set i.inst.toNat d) ar/\QL i.s (ak ic (cS i)=ak ic (gY b.L (zE b.s))/\True))))))) (zKo i)
def yWe {B:List (List zK)} {inst:Int} {L:List zK} (h0:0<=inst) (hL:B[inst.toNat]? =aq L):FY B inst=L:=by
 rw[FY,eg (by omega),zY hL]
def yWu {B:List (List zK)} {inst:Int} (h:inst<0\/(B.length:Int)<=inst):FY B inst=[]:=by
 rw[FY];split
 ·rfl
 ·rw[oc,ud (by omega)];rfl
def xEg (i:Cl) (h:Ki.dp i):y3i i:=by
 obtain⟨hR,hB⟩:i.s.fv i.p i.B/\i.B.length<=1000:=h;have Ax:=hR.bl;have out (hx:i.inst<0\/(i.B.length:Int)<=i.inst):ak ic (gY (FY i.B i.inst) (zE i.sd))=[]:=by
  rw[yWu hx];rfl
 unfold y3i QL Qc Fa fa dx zKo QL Qc dx cS;refine zH (λc=>Cv.dp.mk (λd=> ?_) (λd=> ?_)) (λc=> ?_)
 ·have d:¬i.inst<(i.s.ei.length:Int):=by simpa using d
  rw[out (.inr (by omega))];exact⟨(),gg⟩
 ·have d:i.inst<(i.s.ei.length:Int):=by simpa using d
  obtain⟨b,hb⟩:=z6 (l:=i.s.ei) (i:=i.inst.toNat) oM;obtain⟨L,hL⟩:=z6 (l:=i.B) (i:=i.inst.toNat) oM;refine⟨⟨c,d⟩,oM,b,hb,⟨b,L,i.sd⟩,rfl,rfl,hR.bk _ b L hb hL,λ_ _=>⟨b,rfl,rfl,oM,?_⟩⟩;rw[gJ hb,yWe c hL];exact⟨(),gg⟩
 ·rw[out (.inl (by omega))];exact⟨(),gg⟩
def yDb:Ki.ok Tryz.prog 94:=gu mixed (dw y9x fg) 1 (λ_=>[]) (λ_=>[]) [0] Tryz.func94 xEg
def Jv (s:Int) (F:List zK):Prop:=F.Pairwise λo o'=>je s o'.dm o.dm=am
def Fu (L:List zK) (s:Int):List zK:=L.filter λo=>decide (o.side=s)
structure uh (p:ff) (B:List (List zK)):Prop where
 ok:jb p B
 od:WU B
 ub:((sc 0 B).map (·.1)).Nodup
 xk:∀(k:Nat) (L:List zK),B[k]? =aq L->∀s,s=1\/s=2->Jv s (Fu L s)
def z6q {s:Int} {b:dq} {Q:List (List Nat)}:∀{R:List xV},(R.Pairwise λr r'=>je s r.dm r'.dm=ao)->Jv s (R.flatMap (b.ia Q s))
 |[],_=>List.Pairwise.nil
 |r::R,h=>by
  rw[yt]at h;rw[vi,Jv,List.pairwise_append];refine⟨List.pairwise_of_forall_mem_list λo ho o' oG=> ?_,z6q h.2,λo ho o' oG=> ?_⟩
  ·rw[(qW ho).2,(qW oG).2];exact NC _ _
  ·obtain⟨r',ou,oG⟩:=A8.1 oG;rw[(qW ho).2,(qW oG).2];exact z5z (h.1 r' ou)
def dq.fv.xk {b:dq} {L:List zK} (h:b.fv L) {s:Int} (hs:s=1\/s=2):Jv s (Fu L s):=by
 obtain⟨Q,c,ht,rfl⟩:=h;rw[Fu,zYt hs];exact z6q (c.xk s hs)
def gv.fv.wf {s:gv} {p:ff} {B:List (List zK)} (h:s.fv p B) (hb:jb p B):uh p B:=by
 refine⟨hb,h.ox,h.ids,λk L hL=> ?_⟩;obtain⟨b,hb⟩:=z6 (l:=s.ei) (i:=k) (by rw[h.bl];exact(jf.1 hL).1);exactλs hs=>(h.bk k b L hb hL).xk hs
def yRq {L:List zK} (h:∀o∈L,K2 o) (hn:(L.map (·.id)).Nodup) (id q:Int):∀o∈(qM L id q).1,K2 o:=by
 intro o ho;rw[qM]at ho;split at ho
 ·exact h o ho
 split at ho
 ·exact h o ho
 rename_i hb;obtain⟨o',oG,e⟩:=N4.1 ho;have h0:=h o' oG;split at e
 ·rename_i e1;have hg:=lX hn oG;rw[e1]at hg;rw[hg]at hb;split at e
  ·cases e
  ·rename_i e2;cases e;have:=h0.q;exact⟨h0.s,Z9⟩
 ·cases e;exact h0
def yPt (L:List zK) (id q:Int):(qM L id q).1.length<=L.length:=by
 rw[qM];split
 ·exact lh _
 split
 ·exact lh _
 exact List.length_filterMap_le _ _
def yMg {L:List zK} {s:Int} (h:Jv s (Fu L s)) (id q:Int):Jv s (Fu (qM L id q).1 s):=by
 rw[qM];split
 ·exact h
 split
 ·exact h
 have e:Fu (gS L id q) s=gS (Fu L s) id q:=by
  rw[Fu,Fu,gS,gS,List.filter_filterMap,List.filterMap_filter];refine m3 λo _=> ?_
  by_cases e1:o.id=id
  ·rw[fc e1];by_cases e2:o.dr=q
   ·rw[fc e2];simp
   ·rw[eg e2];by_cases e3:o.side=s<;>simp[Option.filter,e3]
  ·rw[eg e1];by_cases e3:o.side=s<;>simp[Option.filter,e3]
 rw[e,gS];refine List.Pairwise.filterMap _ (λa a' haa b hb b' Ay=> ?_) h;have g:∀{a b:zK},(if a.id=id then(if a.dr=q then ar else aq {a with dr:=a.dr-q})else aq a)=aq b->b.dm=a.dm:=by
  intro a b e;split at e
  ·split at e
   ·cases e
   ·cases e;rfl
  ·cases e;rfl
 rw[g hb,g Ay];exact haa
def yUo {B:List (List zK)} (h:((sc 0 B).map (·.1)).Nodup) {k:Nat} {L L':List zK} (hL:B[k]? =aq L) (hs:(L'.map (·.id)).Sublist (L.map (·.id))):((sc 0 (B.set k L')).map (·.1)).Nodup:=by
 have hk:=(jf.1 hL).1;obtain⟨rest,hr⟩:=Uw (B:=B) 0 k hk;have h0:=hr L;rw[gJ hL]at h0;have h1:=(h0.map (·.1)).nodup_iff.1 h
 refine((hr L').map (·.1)).nodup_iff.2 ?_
 rw[jl,vy]at h1 ⊢;exact h1.sublist (List.Sublist.append hs (List.Sublist.refl _))
def uh.take {p:ff} {B:List (List zK)} (h:uh p B) (id q:Int):uh p (jG B id q).1:=by
 refine⟨h.ok.take id q,?_,?_,?_⟩
 all_goals
  rw[jG];cases hi:pH B id with
  |none=>first|exact h.od|exact h.ub|exact h.xk
  |some k=>
   obtain⟨L,hL,hh⟩:=fK hi;have ho:=h.od k L hL;dsimp only;rw[zY hL]
   first
   |(intro j M hM
     rcases a8 hM with⟨rfl,rfl⟩|⟨_,hM⟩
     ·refine⟨yRq ho.1 ho.2.1 id q,?_,vz (yPt L id q) ho.2.2⟩;rcases YC ho.2.1 id q with⟨e,_⟩|⟨e,_⟩
      ·rw[e];exact ho.2.1
      ·rw[e];exact ho.2.1.sublist (List.Sublist.map _ Rj)
     ·exact h.od j M hM)
   |(refine yUo h.ub hL ?_
     rcases YC ho.2.1 id q with⟨e,_⟩|⟨e,_⟩
     ·rw[e];exact List.Sublist.refl _
     ·rw[e];exact List.Sublist.map _ Rj)
   |(intro j M hM s hs
     rcases a8 hM with⟨rfl,rfl⟩|⟨_,hM⟩
     ·exact yMg (h.xk _ L hL s hs) id q
     ·exact h.xk j M hM s hs)
def uh.takes {p:ff}:∀{fs:List aI} {B:List (List zK)},uh p B->uh p (jM B fs)
 |[],B,h=>h
 |f::fs,B,h=>uh.takes (fs:=fs) (h.take f.id f.dr)
def zYf {p:ff} {B:List (List zK)} (h:uh p B) {inst:Int} {sd:Bool} {dm q:Int} {t:wS} {B':List (List zK)} (e:m4 p B inst sd dm q=aq (t,B')):uh p B'/\B'.length=B.length:=by
 rw[m4]at e;dsimp only at e;split at e
 ·split at e
  ·cases e;exact⟨h.takes.takes,by rw[gC,gC]⟩
  ·cases e;exact⟨h.takes,by rw[gC]⟩
 ·cases e
def rI {p:ff} {inst:Int} {sd:Bool} {dm:Int}:∀(m:Nat) (q:Int) (B:List (List zK)),q.toNat<=m->uh p B->uh p (vH p B inst sd dm q).B/\(vH p B inst sd dm q).B.length=B.length/\(0<=q->0<=(vH p B inst sd dm q).left/\(vH p B inst sd dm q).left<=q)
 |m,q,B,hm,h=>by
  by_cases hq:q<=0
  ·rw[PF (.inl hq)];exact⟨h,rfl,λx=>⟨x,xq _⟩⟩
  cases hs:m4 p B inst sd dm q with
  |none=>
   rw[PF (.inr hs)];exact⟨h,rfl,λx=>⟨x,xq _⟩⟩
  |some x=>
   obtain⟨t,C⟩:=x;obtain⟨k1,k2⟩:=zYf h hs;have uf:=O6 oM hs;cases m with
   |zero=>omega
   |succ m=>
   obtain⟨i1,i2,i3⟩:=rI (p:=p) (inst:=inst) (sd:=sd) (dm:=dm) m (q-t.dr) C oM k1;rw[YE (by omega) hs];exact⟨i1,i2.trans k2,λ_=>⟨(i3 oM).1,by dsimp only;have:=(i3 oM).2;omega⟩⟩
@[reducible] def np.ok (i:np):Prop:=i.s.fv i.p i.B/\jb i.p i.B/\(0<=i.inst/\i.inst<i.B.length)/\1<=i.q/\i.q<=1000000
def DK:fy:=fi np (λi=>[.nm 0 0,zB i.inst,zB (zE i.sd),zB i.dm,zB i.q]) (λi=>[zF i.s]) (λi=>i.ok) (λi=>zB (i.q-i.r.left)) (λi=>[zF i.s])
def pB (p:ff) (B:List (List zK)) (inst:Int) (sd:Bool) (dm q:Int):Bool:=
 decide ((vH p B inst sd dm q).left≠0) && (kX ⟨p,(vH p B inst sd dm q).B.map qA,inst⟩ (zE (!sd))).any λx=>aR sd dm x.dm
def Gj:fy:=fi np (λi=>[.nm 0 0,zB i.inst,zB (zE i.sd),zB i.dm,zB i.q]) (λi=>[zF i.s]) (λi=>i.ok) (λi=>yL (pB i.p i.B i.inst i.sd i.dm i.q)) (λi=>[zF i.s])
def HZ (B:List (List zK)):Nat:=(sc 0 B).length
def B6:fy:=fi Cl (λi=>[.nm 0 0]) (λi=>[zF i.s]) (λi=>i.ok) (λi=>zB (HZ i.B)) (λi=>[zF i.s])
def dR (p:ff) (inst dm:Int):Int×Int×Int:=
 if(p.gj inst).2.2=am then(0,0,20)else if p.dm inst dm≠0 then(0,0,p.dm inst dm)else
 let EZ:=p.settle.getD (p.gj inst).2.1.toNat 0
 let a:=if p.high<EZ+dm then(p.high,p.high-dm)else(EZ+dm,EZ)
 if a.1<p.low then(p.low,p.low-dm,0)else(a.1,a.2,0)
structure OR where
 p:ff
 inst:Int
 dm:Int
def B2:fy:=fi OR (λi=>[nk i.p,zB i.inst,zB i.dm]) (λ_=>[]) (λi=>i.p.check=0/\i.p.small/\gr i.dm) (λi=> .iZ [zB (dR i.p i.inst i.dm).1,zB (dR i.p i.inst i.dm).2.1,zB (dR i.p i.inst i.dm).2.2]) (λ_=>[])
def ijj (t u:Nat):gm:={ι:=Int×Int,du:=λn=>[(t,zB n.1),(u,zB n.2)],rows:=λ_=>[]}
def lpJ:List (Nat×gm):=[(50,ijj 15 14),(58,ijj 15 14)]
def y8g:List gm:=[{ι:=Nat,du:=λj=>[(40,zB j)],rows:=λ_=>[]}]
def y6y:List (Nat×gm):=[(8,{ι:=Unit,du:=λ_=>[],rows:=λ_=>[],Dl:=[11]})]
def Nv (a:dq):Prop:=Q2 a.a a (a.spare.length<=1000000)
def dN (a:gv):Prop:=a.ei.length<=1000000/\∀(b:dq),b∈a.ei->Nv b
def kK (a:np):Prop:=a.s.fv a.p a.B/\jb a.p a.B/\(0<=a.inst/\a.inst<(↑a.B.length:Int))/\1<=a.q/\a.q<=1000000
def zGs (a:np):Prop:=∃(b:gv),Qa b.p a.s.p (QI b a.s ((dN b)/\fa (∃(d:np),d.inst=a.inst/\zE d.sd=zE a.sd/\d.dm=a.dm/\d.q=a.q/\zF d.s=zF b/\(kK d)/\∀(e:gv),e.fv d.p d.r.B->dx (a.q-a.r.left=ap.wrap (a.q-d.r.left)/\zF a.s=zF b/\True))))
def vI (a:np):Prop:=dx (a.q-a.r.left=0/\Qc a.s.p (dl (ae 211 dq 6 zS a.s.ei ar)/\QL a.s (True)))
def yCo (i:np):Prop:=
 dp (decide (i.inst>=0)) (dp (decide (i.inst<(↑i.s.ei.length:Int))) (dp (zE i.sd==1) (dp (decide (i.q>=1)) (dp (!decide (i.q<=1000000)) (vI i) (zGs i)) (vI i)) (dp (zE i.sd==2) (dp (decide (i.q>=1)) (dp (!decide (i.q<=1000000)) (vI i) (zGs i)) (vI i)) (vI i))) (vI i)) (vI i)
def z6v (i:Cl):Prop:=
 dx ((↑(HZ i.B):Int)=(↑(yY i.s.wh).length:Int)/\Qc i.s.p (dl (ae 211 dq 6 zS i.s.ei ar)/\QL i.s (True)))
def dX (a:Int×Int->Prop) (b:Int×Int) (c:OR):Prop:=a b/\Bi c.p (dl (ab 1 (iE c.p.dt)))
def xA (a:OR):=(dR a.p a.inst a.dm)
def z2r (i:OR):Prop:=
 ∃(a:ff),Qb a i.p ((zW a)/\fa (dp (a.check !=0) (dx ((xA i).fst=0/\(xA i).snd.fst=0/\(xA i).snd.snd=1/\True)) (∃(c:aL),Qb c.p i.p (c.n=i.inst/\(j8 c)/\fa (dp (!(c.p.gj c.n).snd.snd) (dx ((xA i).fst=0/\(xA i).snd.fst=0/\(xA i).snd.snd=20/\True)) (∃(e:AX),Qb e.p i.p (e.a=i.inst/\e.b=i.dm/\(qQ e)/\fa (dp (e.p.dm e.a e.b !=0) (dx ((xA i).fst=0/\(xA i).snd.fst=0/\(xA i).snd.snd=e.p.dm e.a e.b/\True)) ((0<=(c.p.gj c.n).snd.fst/\(c.p.gj c.n).snd.fst<(↑(iE i.p.settle).length:Int))/\∃(g:Int),zD (iE i.p.settle) (c.p.gj c.n).snd.fst.toNat 0 1=aq [dI g]/\∃(h:Int×Int),∃(j:Int×Int->Prop),dp (decide (ap.wrap (g+i.dm)>i.p.high)) (∃(k:Int×Int),k.fst=i.p.high/\k.snd=ap.wrap (i.p.high-i.dm)/\dX j k i) (∃(k:Int×Int),k.fst=ap.wrap (g+i.dm)/\k.snd=g/\dX j k i)/\∀(k:Int×Int),j k->∃(l:Int×Int),∃(m:Int×Int->Prop),dp (decide (k.fst<i.p.low)) (∃(n:Int×Int),n.fst=i.p.low/\n.snd=ap.wrap (i.p.low-i.dm)/\dX m n i) (∃(n:Int×Int),n.fst=k.fst/\n.snd=k.snd/\dX m n i)/\∀(n:Int×Int),m n->dx ((xA i).fst=n.fst/\(xA i).snd.fst=n.snd/\(xA i).snd.snd=0/\True))))))))))
def zFy (a:gv) (b:gv):Prop:=sb a.p.code=sb b.p.code/\True/\Qs a.p b.p (True/\True)
def yQa (i:np):Prop:=
 ∃(a:gv),zF a=zF i.s/\(dN a)/\fa (∃(c:np),c.inst=i.inst/\zE c.sd=zE i.sd/\c.dm=i.dm/\c.q=i.q/\zF c.s=zF a/\(kK c)/\∀(d:gv),d.fv c.p c.r.B->dp (c.r.left==0) (dx (pB i.p i.B i.inst i.sd i.dm i.q=am/\zF i.s=zF a/\True)) (∃(e:gv),Qa e.p d.p (QI e d ((gN e)/\fa ((zFy e d)/\∃(g:Bool),zE g=zE i.sd/\True/\fa ((zFy e d)/\∃(j:Br),Qo j.i d e (j.i.inst=i.inst/\zE j.s=zE !g/\(kJ j)/\fa (∃(l:Nat),(↑l:Int)=0/\∃(m:Nat->Prop),∃(n:Nat->Nat),m l/\∀(p:Nat),m p->dp (decide ((↑p:Int)<(fZ j))) ((0<=(↑p:Int)/\(↑p:Int)<(fZ j))/\∃(q:Int),∃(r:Int),∃(s:Int),∃(t:Int),∃(u:Int),∃(v:Int),zD (wD j) (↑p:Int).toNat 0 6=aq [dI q,dI r,dI s,dI t,dI u,dI v]/\∃(w:SB),zE w.s=zE i.sd/\w.p=i.dm/\w.x=q/\True/\fa (dp (aR w.s w.p w.x) (dx (pB i.p i.B i.inst i.sd i.dm i.q=ao/\zF i.s=zF a/\True)) (∃(y:Nat),QP y p m n (dl (ag 128 6 (wD j))/\dl (ac [V.d (dA e),V.own 5,V.d (dI e.p.tick),V.d (dI e.p.low),V.d (dI e.p.high),V.d (dI e.p.wide),V.d (dI e.p.gi),V.d (dI e.p.top),V.d (dI e.p.least),V.d (dI e.p.part),V.own 6,V.own 3,V.mp 4] (210:TypeId))/\dl (ae 211 dq 6 zS e.ei ar)/\dl (af (yY e.wh))/\wv e.p (dl (ab 6 (ak yB e.fh))/\wv d.p (dl (ag 331 4 (ak wX c.r.steps))/\zF a=zF a)))))) (dx (pB i.p i.B i.inst i.sd i.dm i.q=am/\zF i.s=zF a/\True))))))))))
def gv.fv.small {s:gv} {p:ff} {B:List (List zK)} (h:s.fv p B) (hb:jb p B):s.small:=by
 have:=xF p;refine⟨by rw[h.bl,hb.bl];omega,λb hm=> ?_⟩;obtain⟨k,hk⟩:=Bt.1 hm;have gn:=(jf.1 hk).1;rw[h.bl]at gn;obtain⟨L,hL⟩:=z6 gn;obtain⟨Q,c,_⟩:=h.bk k b L hk hL;exact c.small
def yYy (i:np) (h:DK.dp i):yCo i:=by
 have h':i.ok:=h;obtain⟨hR,hB,⟨h0,h1⟩,vl,uf⟩:=h';have Ax:=hR.bl;have hl:=(rI (inst:=i.inst) (sd:=i.sd) (dm:=i.dm) _ i.q i.B (lh _) (hR.wf hB)).2.2 oM;have er:i.r=vH i.p i.B i.inst i.sd i.dm i.q:=rfl;unfold yCo zGs QI Qa fa dx kK dN Nv Q2 vI QL Qc dx;refine(λhT=>zH (λc=>zH (λc2=>Cv.dp.mk (λ_=>zH (λ_=>Cv.dp.mk (λe=>absurd uf (by simpa using e)) (λ_=>hT)) (λe=>absurd vl e)) (λe1=>Cv.dp.mk (λ_=>zH (λ_=>Cv.dp.mk (λe=>absurd uf (by simpa using e)) (λ_=>hT)) (λe=>absurd vl e)) (λe2=>by
  rcases Pm i.sd with e|e
  ·rw[e]at e1;cases e1
  ·rw[e]at e2;cases e2))) (λc2=>absurd oM c2)) (λc=>absurd h0 c)) ?_
 refine⟨i.s,iw (mn ⟨rfl,hR.small hB,λ_ _=>⟨i,mn ⟨rfl,h,λo ho=>⟨(),?_,rfl,trivial⟩⟩⟩⟩)⟩;rw[iq (by rw[er];omega)]
def yKm:DK.ok Tryz.prog 195:=gu mixed (dw Pz (dw yAn fg)) 2 (λ_=>[]) (λ_=>[]) [0] Tryz.func195 yYy
def yMf (i:Cl) (h:B6.dp i):z6v i:=by
 obtain⟨hR,hB⟩:i.s.fv i.p i.B/\i.B.length<=1000:=h;unfold z6v QL Qc dx;have e:(yY i.s.wh).length=HZ i.B:=by rw[yY,gy,hR.wh.length_eq,HZ]
 exact⟨(),by rw[e],gg⟩
def yCc:B6.ok Tryz.prog 194:=gu mixed fg 0 (λ_=>[]) (λ_=>[]) [0] Tryz.func194 yMf
def Zd {p:ff} {i n:Int} (h:p.dm i n=0):0<=i/\i<p.count:=by
 rw[ff.dm]at h;split at h
 ·cases h
 split at h
 ·cases h
 omega
def yMp (i:OR) (h:B2.dp i):z2r i:=by
 obtain⟨hc,hp,RP⟩:i.p.check=0/\i.p.small/\gr i.dm:=h;unfold z2r Qb fa dx xA dX Bi zW o7 j8 o7 qQ o7 dI;refine⟨i.p,oF (iJ ⟨rfl,hp,λ_ _=>Cv.dp.mk (λe=>by rw[hc]at e;cases e) (λ_=> ?_)⟩)⟩;refine⟨⟨i.p,i.inst⟩,iw (iJ ⟨rfl,hp,λ_ _=>Cv.dp.mk (λe=> ?_) (λe=> ?_)⟩)⟩
 ·have e:(i.p.gj i.inst).2.2=am:=by simpa using e
  have h0:dR i.p i.inst i.dm=(0,0,20):=by rw[dR,fc e]
  rw[h0];exact⟨(),iJ trivial⟩
 have e:(i.p.gj i.inst).2.2=ao:=by simpa using e
 refine⟨⟨i.p,i.inst,i.dm⟩,iw (mn ⟨rfl,hp,λ_ _=>Cv.dp.mk (λe2=> ?_) (λe2=> ?_)⟩)⟩
 ·have e2:¬i.p.dm i.inst i.dm=0:=by simpa using e2
  have h0:dR i.p i.inst i.dm=(0,0,i.p.dm i.inst i.dm):=by rw[dR,eg (by rw[e];decide),fc e2]
  rw[h0];exact⟨(),iJ trivial⟩
 have e2:i.p.dm i.inst i.dm=0:=by simpa using e2
 have wk:=Zd e2;have Ci:=Pv hc e2;have ok:=jE hc;have b1:=ok.b1;have b2:=ok.b2;have b3:=ok.b3;have s1:=ok.s1;have s2:=ok.s2;have s3:=ok.s3;obtain⟨k,hk⟩:∃k:Nat,i.inst=k:=⟨i.inst.toNat,oM⟩
 have hl:=dC hc (k:=k) oM;rw[<- hk]at hl;rcases hl with⟨_,_,_,l3,l4⟩|⟨x,_⟩
 rotate_left
 ·rw[e]at x;cases x
 have yo:(iE i.p.settle).length=i.p.settle.length:=y8 _;obtain⟨n,hn⟩:=z6 (l:=i.p.settle) (i:=(i.p.gj i.inst).2.1.toNat) oM;have hm:=ku hn;have m1:=yDe hm;have m2:=yDs hm;have hg:i.p.settle.getD (i.p.gj i.inst).2.1.toNat 0=n:=zY hn;have h0:dR i.p i.inst i.dm=(if(if i.p.high<n+i.dm then(i.p.high,i.p.high-i.dm)else(n+i.dm,n)).1<i.p.low then(i.p.low,i.p.low-i.dm,0)else((if i.p.high<n+i.dm then(i.p.high,i.p.high-i.dm)else(n+i.dm,n)).1,(if i.p.high<n+i.dm then(i.p.high,i.p.high-i.dm)else(n+i.dm,n)).2,0)):=by
  rw[dR,eg (by rw[e];decide),eg (by rw[e2];decide)];dsimp only;rw[hg]
 dsimp only;refine⟨⟨l3,oM⟩,n,rm hn,(0,0),λa=>a=if i.p.high<n+i.dm then(i.p.high,i.p.high-i.dm)else(n+i.dm,n),zH (λc=>⟨(i.p.high,i.p.high-i.dm),rfl,(iq oM).symm,?_,gg⟩) (λc=>⟨(n+i.dm,n),(iq oM).symm,rfl,?_,gg⟩),?_⟩
 ·rw[iq (by omega)]at c;rw[fc c]
 ·rw[iq (by omega)]at c;rw[eg c]
 rintro _ rfl;generalize (if i.p.high<n+i.dm then(i.p.high,i.p.high-i.dm)else(n+i.dm,n))=a at h0 ⊢;refine⟨(0,0),λb=>b=if a.1<i.p.low then(i.p.low,i.p.low-i.dm)else a,zH (λc=>⟨(i.p.low,i.p.low-i.dm),rfl,(iq oM).symm,by rw[fc c],gg⟩) (λc=>⟨a,rfl,rfl,by rw[eg c],gg⟩),?_⟩;rintro _ rfl;rw[h0];by_cases c:a.1<i.p.low
 ·rw[fc c,fc c];exact⟨(),iJ trivial⟩
 ·rw[eg c,eg c];exact⟨(),iJ trivial⟩
def yCe:B2.ok Tryz.prog 239:=gu mixed (dw mV (dw Nx (dw Pt fg))) 0 (λ_=>lpJ) (λ_=>[]) [] Tryz.func239 yMp
def yYc {l:List Quote} {k:Nat} {q:Quote} (h:l[k]? =aq q):zD (l.map zL) k 0 6=aq [D.v (.int .i64 q.dm),D.v (.int .i64 q.dr),D.v (.int .i64 q.a.inst),D.v (.int .i64 q.a.side),D.v (.int .i64 q.b.inst),D.v (.int .i64 q.b.side)]:=ju h (by simp[zL]) rfl
def y3y (i:np) (h:Gj.dp i):yQa i:=by
 have h':i.ok:=h;obtain⟨hR,hB,⟨h0,h1⟩,vl,uf⟩:=h';have By:=hR.wf hB;obtain⟨k1,k2,k3⟩:=rI (inst:=i.inst) (sd:=i.sd) (dm:=i.dm) _ i.q i.B (lh _) By;have wm:=xF i.p;unfold yQa QI QP Qa wv fa dx Qo dA zFy Qs kK dN Nv Q2 fZ wD kJ o7 gO gN dI;refine⟨i.s,rfl,hR.small hB,λ_ _=>⟨i,mn ⟨rfl,h,λo ho=> ?_⟩⟩⟩;have er:i.r=vH i.p i.B i.inst i.sd i.dm i.q:=rfl;have es:pB i.p i.B i.inst i.sd i.dm i.q=(decide ((vH i.p i.B i.inst i.sd i.dm i.q).left≠0) && (kX ⟨i.p,(vH i.p i.B i.inst i.sd i.dm i.q).B.map qA,i.inst⟩ (zE (!i.sd))).any λx=>aR i.sd i.dm x.dm):=rfl;rw[er]at ho ⊢;rw[es];generalize vH i.p i.B i.inst i.sd i.dm i.q=R at*;obtain⟨ts,lf,RB⟩:=R;dsimp only at*;refine Cv.dp.mk (λe=>⟨(),?_,rfl,trivial⟩) (λe=> ?_)
 ·have e:lf=0:=by simpa using e
  rw[e];rfl
 have e:lf≠0:=by simpa using e
 rw[jk e,Ao];have ep:=ho.ep;have hB':=k1.ok;have Ax:=hB'.bl;have BN:o.nt:=ho.E9 oM;have Cf:o.p.small:=by rw[ep];exact hB'.ps
 have si:vU (RB.map qA):=hB'.fh;have hle:=Vg ⟨o.p,RB.map qA,i.inst⟩ (zE (!i.sd));refine⟨o,iw (mn ⟨rfl,BN,λ_ _=>⟨⟨rfl,trivial,oF ⟨rfl,trivial,trivial⟩⟩,i.sd,rfl,trivial,λ_ _=>⟨⟨rfl,trivial,oF ⟨rfl,trivial,trivial⟩⟩,⟨⟨o.p,RB.map qA,i.inst⟩,!i.sd⟩,oF (iJ ⟨rfl,by rw[ho.fh],rfl,rfl,⟨Cf,si⟩,λ_ _=> ?_⟩)⟩⟩⟩)⟩;dsimp only;rw[<- ep];generalize kX ⟨o.p,RB.map qA,i.inst⟩ (zE (!i.sd))=Q at*;have e4:(Q.map zL).length=Q.length:=gy ..;refine⟨0,rfl,λj=>j<=Q.length/\(Q.take j).any (λx=>aR i.sd i.dm x.dm)=am,λj=>Q.length-j,⟨mi _,rfl⟩,?_⟩;rintro j ⟨j1,j2⟩;refine zH (λc=> ?_) (λc=>⟨(),?_,rfl,trivial⟩)
 ·obtain⟨q,hq⟩:=z6 (l:=Q) (i:=j) oM;refine⟨⟨oM,oM⟩,_,_,_,_,_,_,yYc hq,⟨i.sd,i.dm,q.dm⟩,rfl,rfl,rfl,trivial,λ_ _=>Cv.dp.mk (λg=>⟨(),?_,rfl,trivial⟩) (λg=>⟨j+1,qy oM,⟨oM,?_⟩,Z9,gg⟩)⟩
  ·rw[List.any_eq_true];exact⟨q,ku hq,g⟩
  ·rw[qx,hq,List.any_append,j2];show(am||([q].any λx=>aR i.sd i.dm x.dm))=am;simp only[List.any_cons,List.any_nil,Bool.or_false,Ly];exact g
 ·have:j=Q.length:=by omega
  rw[this,mo (lh _)]at j2;exact j2
def z7d:Gj.ok Tryz.prog 196:=gu mixed (dw Pz (dw yAn (dw z3o (dw yRy (dw zVw (dw z5q fg)))))) 0 (λ_=>y6y) (λ_=>y8g) [] Tryz.func196 y3y
def rD (c:ie) (pd:Int):List fv:=[⟨2,c.id,0,0,0,0,0,pd⟩]
def FG (x:wS) (k:Int):Int:=match x.ig.find? λf=>decide (f.inst=k)with
 |some f=>f.dm
 |none=>x.dm
def vW (p:ff) (inst:Int) (x:wS):Int×Int:=if x.fx=am then((dR p inst x.dm).1,(dR p inst x.dm).2.1)else(FG x (p.gj inst).1,FG x (p.gj inst).2.1)
def Po (p:ff) (r:fv) (BJ EZ:Int):List fv:=[{r with inst:=(p.gj r.inst).1,dm:=BJ},{r with inst:=(p.gj r.inst).2.1,side:=3-r.side,dm:=EZ}]
def pQ (p:ff) (x:wS) (r:fv):List fv:=r::if(p.gj r.inst).2.2=ao then Po p r (vW p r.inst x).1 (vW p r.inst x).2 else[]
def HW (f:aI):fv:=⟨3,f.id,f.inst,f.side,f.dm,f.dr,f.left,0⟩
def pN (p:ff) (c:ie) (x:wS) (left:Int):List fv:=x.ig.flatMap (λf=>pQ p x (HW f))++pQ p x ⟨3,c.id,c.inst,c.side,x.dm,x.dr,left,0⟩
def nE (p:ff) (c:ie):List wS->Int->List fv
 |[],_=>[]
 |x::l,left=>pN p c x (left-x.dr)++nE p c l (left-x.dr)
structure HR where
 B:List (List zK)
 U:List Int
 R:List fv
def Hk (U:List Int) (id:Int):List Int:=if id∈U then U else U++[id]
def aP (p:ff) (B:List (List zK)) (U:List Int) (c:ie):HR:=match vH p B c.inst (decide (c.side=2)) c.dm c.dr with
 |⟨ts,left,B'⟩=>⟨if left≠0/\c.time=1 then(Ld p B' c.inst c.id c.side c.dm left).1 else B',Hk U c.id,
  (⟨1,c.id,c.inst,c.side,c.dm,c.dr,c.dr,0⟩::nE p c ts c.dr)++if left≠0/\c.time≠1 then[⟨4,c.id,c.inst,c.side,c.dm,left,0,0⟩]else[]⟩
def ie.LM (c:ie):Int:=if c.time=3 then c.dr else c.least
def rG (p:ff) (B:List (List zK)) (U:List Int) (c:ie):HR:=
 if p.dm c.inst c.dm≠0 then⟨B,U,rD c (p.dm c.inst c.dm)⟩
 else if c.id∈U then⟨B,U,rD c 25⟩
 else if 250<=HZ B then⟨B,U,rD c 13⟩
 else if 0<c.LM/\c.dr-(vH p B c.inst (decide (c.side=2)) c.dm c.dr).left<c.LM then⟨B,U,rD c 28⟩
 else if c.time=1/\pB p B c.inst (decide (c.side=2)) c.dm c.dr=ao then⟨B,U,rD c 23⟩
 else aP p B U c
def gK (B:List (List zK)) (U:List Int) (id inst:Int) (o:zK):HR:=⟨(jG B id o.dr).1,U,[⟨4,id,inst,o.side,o.dm,o.dr,0,0⟩]⟩
def mC (B:List (List zK)) (U:List Int) (id q inst:Int) (o:zK):HR:=⟨(jG B id q).1,U,[⟨5,id,inst,o.side,o.dm,q,o.dr-q,0⟩]⟩
def cF (p:ff) (B:List (List zK)) (U:List Int) (c:ie) (inst:Int) (o:zK):HR:=
 if p.dm inst c.dm≠0 then⟨B,U,rD c (p.dm inst c.dm)⟩
 else if c.dm=o.dm/\c.dr<=o.dr then mC B U c.id (o.dr-c.dr) inst o
 else if pB p (jG B c.id o.dr).1 inst (decide (o.side=2)) c.dm c.dr=ao then⟨B,U,rD c 23⟩
 else
  let x:=gK B U c.id inst o
  let y:=aP p x.B U ⟨1,c.id,inst,o.side,c.dm,c.dr,0,1,[]⟩
  ⟨y.B,y.U,x.R++y.R⟩
def Bg (p:ff) (B:List (List zK)) (U:List Int) (c:ie):HR:=
 if c.right≠0 then⟨B,U,rD c c.right⟩
 else if c.kind=1 then rG p B U c
 else if(yA B c.id).2.2=am then⟨B,U,rD c 26⟩
 else if c.kind=4 then cF p B U c (yA B c.id).1 (yA B c.id).2.1
 else if c.kind=2\/(yA B c.id).2.1.dr<=c.dr then gK B U c.id (yA B c.id).1 (yA B c.id).2.1
 else mC B U c.id c.dr (yA B c.id).1 (yA B c.id).2.1
structure iD.fv (m:iD) (p:ff) (B:List (List zK)) (U:List Int):Prop where
 ep:m.p=p
 s:m.s.fv p B
 u:m.used=U
@[reducible] def B8 (m:iD):List fj:=[yO m 0,yO m 1,yO m 2,yO m 3,yO m 4]
@[reducible] def y1j (x:wS):V:= .agg [zB x.dm,zB x.dr,yL x.fx,ot 6 (x.ig.map y5)]
@[reducible] def tRp:Nat:=49
@[reducible] def Ll (l:List fv):fj:= .own tRp 8 (l.map x9)
structure BC where
 c:ie
 pd:Int
def aac:fy:=fi BC (λi=>[C8 i.c,zB i.pd]) (λ_=>[]) (λ_=>True) (λ_=> .own 0) (λi=>[Ll (rD i.c i.pd)])
structure HQ where
 m:iD
 r:fv
 BJ:Int
 EZ:Int
@[reducible] def iD.iL (m:iD):Prop:=m.p.check=0/\m.p.small
def B0:fy:=fi HQ (λi=>[.nm 0 0,xHq i.r,zB i.BJ,zB i.EZ]) (λi=>B8 i.m) (λi=>i.m.iL/\(i.r.side=1\/i.r.side=2)) (λ_=> .own 5) (λi=>B8 i.m++[Ll (Po i.m.p i.r i.BJ i.EZ)])
structure OQ where
 m:iD
 inst:Int
def aal:fy:=fi OQ (λi=>[.nm 0 0,zB i.inst]) (λi=>B8 i.m) (λi=>i.m.iL) (λi=>yL (i.m.p.gj i.inst).2.2) (λi=>B8 i.m)
structure OP where
 x:wS
 k:Int
@[reducible] def z4f (x:wS) (n:Nat):List fj:=[.cells [zB x.dm,zB x.dr,yL x.fx,.own n] 331,.kg 6 (x.ig.map y5)]
def ofC:fy:=fi OP (λi=>[zB i.k,.nm 0 0]) (λi=>z4f i.x 1) (λi=>i.x.ig.length<=1000000) (λi=>zB (FG i.x i.k)) (λi=>z4f i.x 1)
def ofA:List gm:=[{ι:=Nat,du:=λj=>[(9,zB j)],rows:=λ_=>[]}]
structure Ka where
 m:iD
 inst:Int
 x:wS
def B1:fy:=fi Ka (λi=>[.nm 0 0,zB i.inst,y1j i.x]) (λi=>B8 i.m) (λi=>i.m.iL/\gr i.x.dm/\i.x.ig.length<=1000000) (λi=> .iZ [zB (vW i.m.p i.inst i.x).1,zB (vW i.m.p i.inst i.x).2]) (λi=>B8 i.m)
structure rj where
 m:iD
 c:ie
 x:wS
 left:Int
def rj.out (i:rj) (j:Nat):List fv:=(i.x.ig.take j).flatMap λf=>pQ i.m.p i.x (HW f)
def Gx:fy:=fi rj (λi=>[.nm 0 0,C8 i.c,y1j i.x,zB i.left]) (λi=>B8 i.m) (λi=>i.m.iL/\gr i.x.dm/\i.x.ig.length<=1000000/\(i.c.side=1\/i.c.side=2)/\∀f∈i.x.ig,f.side=1\/f.side=2) (λ_=> .own 5) (λi=>B8 i.m++[Ll (pN i.m.p i.c i.x i.left)])
def y9p (i:rj):List gm:=[{ι:=Nat,du:=λj=>[(9,.nm 0 0),(17,zB j)],rows:=λj=>[.cells [.own 1] 36,Ll (i.out j)]}]
def xIa (i:BC):Prop:=
 ∃(o:Unit),[x9 (fv.mk 2 i.c.id 0 0 0 0 0 i.pd)]=[[D.v (.int .i64 2),D.v (.int .i64 i.c.id),D.v (.int .i64 0),D.v (.int .i64 0),D.v (.int .i64 0),D.v (.int .i64 0),D.v (.int .i64 0),D.v (.int .i64 i.pd)]]/\True
def u9 (a:HQ):Prop:=a.r.kind=a.r.kind/\dl a.r.id/\dl a.r.inst/\dl a.r.side/\dl a.r.dm/\dl a.r.dr/\dl a.r.left/\dl a.r.pd/\True
def dW (a:HQ):=(fv.mk a.r.kind a.r.id (a.m.p.gj a.r.inst).snd.fst (3-a.r.side) a.EZ a.r.dr a.r.left a.r.pd)
def cJ (a:HQ):=(fv.mk a.r.kind a.r.id (a.m.p.gj a.r.inst).fst a.r.side a.BJ a.r.dr a.r.left a.r.pd)
def zBm (a:HQ) (b:aL):Prop:=(u9 a)/\(u9 a)/\(u9 a)/\(u9 a)/\(u9 a)/\dl a.r.side/\dx (Qc a.m.p (zF a.m.s=yO a.m 1/\dl (zX a.m.used)/\ab 1 (iE a.m.p.dt)=yO a.m 3/\ab 1 (iE a.m.p.settle)=yO a.m 4/\[x9 (cJ a),x9 (dW a)]=[[dI a.r.kind,dI a.r.id,dI ((b.p.gj b.n).fst),dI a.r.side,dI a.BJ,dI a.r.dr,dI a.r.left,dI a.r.pd],[dI a.r.kind,dI a.r.id,dI (uB b),dI (ap.wrap (3-a.r.side)),dI a.EZ,dI a.r.dr,dI a.r.left,dI a.r.pd]]/\True))
def z6l (i:HQ):Prop:=
 ∃(a:aL),Qb a.p i.m.p (a.n=i.r.inst/\(j8 a)/\fa ((zBm i a)/\zBm i a))
def xFx (i:OQ):Prop:=
 ∃(gx:aL),sb gx.p.code=sb i.m.p.code/\iE gx.p.dt=iE i.m.p.dt/\gx.p.tick=i.m.p.tick/\gx.p.low=i.m.p.low/\gx.p.high=i.m.p.high/\gx.p.wide=i.m.p.wide/\gx.p.gi=i.m.p.gi/\gx.p.top=i.m.p.top/\gx.p.least=i.m.p.least/\gx.p.part=i.m.p.part/\iE gx.p.settle=iE i.m.p.settle/\gx.n=i.inst/\(gx.p.code.length<=1099511627776/\gx.p.dt.length<=1099511627776/\gx.p.settle.length<=1099511627776)/\∀(o:Unit),True->∃(o:Unit),(i.m.p.gj i.inst).snd.snd=(gx.p.gj gx.n).snd.snd/\dl (sb i.m.p.code)/\dl i.m.p.tick/\dl i.m.p.low/\dl i.m.p.high/\dl i.m.p.wide/\dl i.m.p.gi/\dl i.m.p.top/\dl i.m.p.least/\dl i.m.p.part/\zF i.m.s=yO i.m 1/\dl (zX i.m.used)/\ab 1 (iE i.m.p.dt)=yO i.m 3/\ab 1 (iE i.m.p.settle)=yO i.m 4/\True
def z1r (a:OP):Prop:=a.x.dm=a.x.dm/\dl a.x.dr/\dl a.x.fx/\dl (ab 6 (ak y5 a.x.ig))/\True
def Vof (i:OP):Prop:=
 ∃(a:Nat),(↑a:Int)=0/\∃(b:Nat->Prop),∃(c:Nat->Nat),b a/\∀(d:Nat),b d->dp (decide ((↑d:Int)<(↑(ak y5 i.x.ig).length:Int))) ((0<=(↑d:Int)/\(↑d:Int)<(↑(ak y5 i.x.ig).length:Int))/\∃(e:Int),∃(f:Int),∃(g:Int),∃(h:Int),∃(j:Int),∃(k:Int),zD (ak y5 i.x.ig) (↑d:Int).toNat 0 6=aq [dI e,dI f,dI g,dI h,dI j,dI k]/\dp (f==i.k) (dx (FG i.x i.k=h/\z1r i)) (∃(l:Nat),QP l d b c (dl (ac [zB i.x.dm,zB i.x.dr,yL i.x.fx,V.own 1] (331:TypeId))/\dl (ab 6 (ak y5 i.x.ig))))) (dx (FG i.x i.k=i.x.dm/\z1r i))
def lB (a:Ka):Prop:=Qc a.m.p (zF a.m.s=yO a.m 1/\dl (zX a.m.used)/\ab 1 (iE a.m.p.dt)=yO a.m 3/\ab 1 (iE a.m.p.settle)=yO a.m 4/\True)
def kA (a:Ka):=(vW a.m.p a.inst a.x)
@[reducible] def Qb0 (a b:wS)(R:Prop):Prop:=a.dm=b.dm/\a.dr=b.dr/\a.fx=b.fx/\ab 6 (ak y5 a.ig)=ab 6 (ak y5 b.ig)/\a.ig.length<=1000000/\R
def z7k (i:Ka):Prop:=
 dp (!i.x.fx) (∃(a:OR),Qb a.p i.m.p (a.inst=i.inst/\a.dm=i.x.dm/\(a.p.check=0/\(o7 a.p (a.p.settle.length<=1099511627776))/\(-9223372036854775808)<=a.dm/\a.dm<=9223372036854775807)/\fa (dx ((kA i).fst=(xA a).fst/\(kA i).snd=(xA a).snd.fst/\lB i)))) (∃(a:aL),Qb a.p i.m.p (a.n=i.inst/\(j8 a)/\fa (∃(c:OP),c.k=(a.p.gj a.n).fst/\Qb0 c.x i.x (fa (∃(e:OP),e.k=(a.p.gj a.n).snd.fst/\Qb0 e.x c.x (fa (dx ((kA i).fst=FG c.x c.k/\(kA i).snd=FG e.x e.k/\lB i))))))))
@[reducible] def Q0 (a:ff)(R:Prop):Prop:=a.check=0/\a.code.length<=1099511627776/\a.dt.length<=1099511627776/\R
def zGi (a:Ka):Prop:=(Q0 a.m.p (a.m.p.settle.length<=1099511627776))/\((-9223372036854775808)<=a.x.dm/\a.x.dm<=9223372036854775807)/\a.x.ig.length<=1000000
def zGa (a:HQ):Prop:=(Q0 a.m.p (a.m.p.settle.length<=1099511627776))/\(a.r.side=1\/a.r.side=2)
def zGz (a:OQ):Prop:=Q0 a.m.p (a.m.p.settle.length<=1099511627776)
def pC (a:rj):=(D.v (av (sb a.c.label)))
@[reducible] def Qg (a:Nat->Nat)(b c:Nat)(d:rj)(e:iD)(R:Prop):Prop:=a b<a c/\ac [V.d (dI d.x.dm),V.d (dI d.x.dr),V.d (D.v (.bool d.x.fx)),V.own 7] 331=ac [V.d (dI d.x.dm),V.d (dI d.x.dr),V.d (D.v (.bool d.x.fx)),V.own 7] 331/\ab 6 (ak y5 d.x.ig)=ab 6 (ak y5 d.x.ig)/\ac [V.d (dI d.c.kind),V.d (dI d.c.id),V.d (dI d.c.inst),V.d (dI d.c.side),V.d (dI d.c.dm),V.d (dI d.c.dr),V.d (dI d.c.least),V.d (dI d.c.time),V.d (pC d)] 46=ac [V.d (dI d.c.kind),V.d (dI d.c.id),V.d (dI d.c.inst),V.d (dI d.c.side),V.d (dI d.c.dm),V.d (dI d.c.dr),V.d (dI d.c.least),V.d (dI d.c.time),V.d (pC d)] 46/\ac [V.nm 0 0] 54=ac [V.nm 0 0] 54/\ac [V.d (D.v (av (sb e.p.code))),V.own 3,V.d (dI e.p.tick),V.d (dI e.p.low),V.d (dI e.p.high),V.d (dI e.p.wide),V.d (dI e.p.gi),V.d (dI e.p.top),V.d (dI e.p.least),V.d (dI e.p.part),V.own 4,V.nm 1 0,V.mp 2] (137:TypeId)=yO d.m 0/\zF e.s=yO d.m 1/\af (zX e.used)=yO d.m 2/\ab 1 (iE e.p.dt)=yO d.m 3/\R
@[reducible] def QF (a b:iD)(R:Prop):Prop:=zX a.used=zX b.used/\ab 1 (iE a.p.dt)=ab 1 (iE b.p.dt)/\ab 1 (iE a.p.settle)=ab 1 (iE b.p.settle)/\R
@[reducible] def QM (a b:iD)(R:Prop):Prop:=zX a.used=zX b.used/\ab 1 (iE a.p.dt)=yO b 3/\ab 1 (iE a.p.settle)=yO b 4/\R
def yQk (i:rj):Prop:=
 ∃(a:Nat),(↑a:Int)=0/\ak x9 (i.out a)=[]/\∃(b:Nat->Prop),∃(c:Nat->Nat),b a/\∀(d:Nat),b d->dp (decide ((↑d:Int)<(↑(ak y5 i.x.ig).length:Int))) ((0<=(↑d:Int)/\(↑d:Int)<(↑(ak y5 i.x.ig).length:Int))/\∃(e:Int),∃(f:Int),∃(g:Int),∃(h:Int),∃(j:Int),∃(k:Int),zD (ak y5 i.x.ig) (↑d:Int).toNat 0 6=aq [dI e,dI f,dI g,dI h,dI j,dI k]/\((ak x9 (i.out d)).length+1)*(64:Nat)<=(140737488355328:Nat)/\∃(l:OQ),l.inst=f/\Qa l.m.p i.m.p (zF l.m.s=yO i.m 1/\QM l.m i.m ((zGz l)/\fa (dp (l.m.p.gj l.inst).snd.snd (∃(n:Ka),n.inst=f/\n.x.dm=i.x.dm/\n.x.dr=i.x.dr/\n.x.fx=i.x.fx/\ak y5 n.x.ig=ak y5 i.x.ig/\Qa n.m.p l.m.p (zF n.m.s=zF l.m.s/\QF n.m l.m ((zGi n)/\fa (∃(q:HQ),q.r.kind=3/\q.r.id=e/\q.r.inst=f/\q.r.side=g/\q.r.dm=h/\q.r.dr=j/\q.r.left=k/\q.r.pd=0/\q.BJ=(kA n).fst/\q.EZ=(kA n).snd/\Qa q.m.p n.m.p (zF q.m.s=zF n.m.s/\QF q.m n.m ((zGa q)/\fa (True/\((ak x9 (i.out d)++[[dI 3,dI e,dI f,dI g,dI h,dI j,dI k,dI 0]]).length+2)*(64:Nat)<=(140737488355328:Nat)/\∃(s:Nat),(↑s:Int)=ap.wrap ((↑d:Int)+1)/\ak x9 (i.out s)=ak x9 (i.out d)++[[dI 3,dI e,dI f,dI g,dI h,dI j,dI k,dI 0]]++[x9 (cJ q),x9 (dW q)]/\b s/\Qg c s d i q.m (ab 1 (iE q.m.p.settle)=yO i.m 4)))))))) (∃(n:Nat),(↑n:Int)=ap.wrap ((↑d:Int)+1)/\ak x9 (i.out n)=ak x9 (i.out d)++[[dI 3,dI e,dI f,dI g,dI h,dI j,dI k,dI 0]]/\b n/\Qg c n d i l.m (ab 1 (iE l.m.p.settle)=yO i.m 4)))))) (((ak x9 (i.out d)).length+1)*(64:Nat)<=(140737488355328:Nat)/\∃(e:OQ),e.inst=i.c.inst/\Qa e.m.p i.m.p (zF e.m.s=yO i.m 1/\QM e.m i.m ((zGz e)/\fa (dp (e.m.p.gj e.inst).snd.snd (∃(g:Ka),g.inst=i.c.inst/\g.x.dm=i.x.dm/\g.x.dr=i.x.dr/\g.x.fx=i.x.fx/\ak y5 g.x.ig=ak y5 i.x.ig/\Qa g.m.p e.m.p (zF g.m.s=zF e.m.s/\QF g.m e.m ((zGi g)/\fa (∃(j:HQ),j.r.kind=3/\j.r.id=i.c.id/\j.r.inst=i.c.inst/\j.r.side=i.c.side/\j.r.dm=i.x.dm/\j.r.dr=i.x.dr/\j.r.left=i.left/\j.r.pd=0/\j.BJ=(kA g).fst/\j.EZ=(kA g).snd/\Qa j.m.p g.m.p (zF j.m.s=zF g.m.s/\QF j.m g.m ((zGa j)/\fa (True/\((ak x9 (i.out d)++[[dI 3,dI i.c.id,dI i.c.inst,dI i.c.side,dI i.x.dm,dI i.x.dr,dI i.left,dI 0]]).length+2)*(64:Nat)<=(140737488355328:Nat)/\dx (Qa i.m.p j.m.p (zF i.m.s=zF j.m.s/\QF i.m j.m (ak x9 (pN i.m.p i.c i.x i.left)=ak x9 (i.out d)++[[dI 3,dI i.c.id,dI i.c.inst,dI i.c.side,dI i.x.dm,dI i.x.dr,dI i.left,dI 0]]++[x9 (cJ j),x9 (dW j)]/\True)))))))))) (dx (Qa i.m.p e.m.p (zF i.m.s=zF e.m.s/\QF i.m e.m (ak x9 (pN i.m.p i.c i.x i.left)=ak x9 (i.out d)++[[dI 3,dI i.c.id,dI i.c.inst,dI i.c.side,dI i.x.dm,dI i.x.dr,dI i.left,dI 0]]/\True))))))))
def z8w:aac.ok Tryz.prog 158:=gu (V:=xIa) mixed fg 0 (λ_=>[]) (λ_=>[]) [] Tryz.func158 λ(i:BC) _=>⟨(),rfl,trivial⟩
def yRj (i:HQ) (h:B0.dp i):z6l i:=by
 obtain⟨⟨hc,hp⟩,hs⟩:i.m.iL/\(i.r.side=1\/i.r.side=2):=h;have hw:ap.wrap (3-i.r.side)=3-i.r.side:=iq oM;unfold z6l Qb fa zBm Qc dx cJ dW u9 uB j8 o7 dI;rw[hw];refine⟨⟨i.m.p,i.r.inst⟩,iw (iJ ⟨rfl,hp,λ_ _=> ?_⟩)⟩;exact kp
def z7m:B0.ok Tryz.prog 231:=gu mixed (dw Nx fg) 0 (λ_=>[]) (λ_=>[]) [] Tryz.func231 yRj
def y8s:aal.ok Tryz.prog 229:=gu (V:=xFx) mixed (dw Nx fg) 0 (λ_=>[]) (λ_=>[]) [] Tryz.func229 λ(i:OQ) h=>by
 obtain⟨hc,hp⟩:i.m.iL:=h;exact⟨⟨i.m.p,i.inst⟩,iw (iJ ⟨rfl,hp,λ_ _=>kp⟩)⟩
def xCt {l:List aI} {k:Nat} {f:aI} (h:l[k]? =aq f):zD (l.map y5) k 0 6=aq [D.v (.int .i64 f.id),D.v (.int .i64 f.inst),D.v (.int .i64 f.side),D.v (.int .i64 f.dm),D.v (.int .i64 f.dr),D.v (.int .i64 f.left)]:=ju h (by simp[y5]) rfl
def vof (i:OP) (h:ofC.dp i):Vof i:=by
 have hl:i.x.ig.length<=1000000:=h;have e4:(i.x.ig.map y5).length=i.x.ig.length:=gy ..;unfold Vof QP dx z1r dI;refine⟨0,rfl,λj=>j<=i.x.ig.length/\(i.x.ig.take j).find? (λf=>decide (f.inst=i.k))=ar,λj=>i.x.ig.length-j,⟨mi _,rfl⟩,?_⟩;rintro j ⟨j1,j2⟩;refine zH (λc=> ?_) (λc=> ?_)
 ·obtain⟨f,hf⟩:=z6 (l:=i.x.ig) (i:=j) oM;refine⟨⟨oM,oM⟩,_,_,_,_,_,_,xCt hf,Cv.dp.mk (λg=>⟨(),?_,gg⟩) (λg=>⟨j+1,qy oM,⟨oM,?_⟩,Z9,gg⟩)⟩
  ·have g:f.inst=i.k:=by simpa using g
   have e:i.x.ig.find? (λf=>decide (f.inst=i.k))=aq f:=by
    rw[<- Bb j i.x.ig,List.find?_append,j2,CD (by omega),(jf.1 hf).2,List.find?_cons_of_pos (by simpa using g)];rfl
   rw[FG,e]
  ·have g:¬f.inst=i.k:=by simpa using g
   rw[qx,hf,List.find?_append,j2];simp[g]
 ·have:j=i.x.ig.length:=by omega
  rw[this,mo (lh _)]at j2;exact⟨(),by rw[FG,j2],gg⟩
def xCg:ofC.ok Tryz.prog 240:=gu mixed fg 0 (λ_=>[]) (λ_=>ofA) [] Tryz.func240 vof
def yQh (i:Ka) (h:B1.dp i):z7k i:=by
 obtain⟨⟨hc,hp⟩,RP,hl⟩:i.m.iL/\gr i.x.dm/\i.x.ig.length<=1000000:=h;unfold z7k Qb Qb0 o7 fa dx kA lB Qc xA j8 o7;refine Cv.dp.mk (λe=> ?_) (λe=> ?_)
 ·have e:i.x.fx=am:=by simpa using e
  have h0:vW i.m.p i.inst i.x=((dR i.m.p i.inst i.x.dm).1,(dR i.m.p i.inst i.x.dm).2.1):=by rw[vW,fc e]
  rw[h0];exact⟨⟨i.m.p,i.inst,i.x.dm⟩,iw (mn ⟨rfl,⟨hc,hp,RP⟩,λ_ _=>kp⟩)⟩
 ·have e:¬i.x.fx=am:=by simpa using e
  have h0:vW i.m.p i.inst i.x=(FG i.x (i.m.p.gj i.inst).1,FG i.x (i.m.p.gj i.inst).2.1):=by rw[vW,eg e]
  rw[h0];exact⟨⟨i.m.p,i.inst⟩,iw (iJ ⟨rfl,hp,λ_ _=>⟨⟨i.x,(i.m.p.gj i.inst).1⟩,mn ⟨rfl,hl,λ_ _=>⟨⟨i.x,(i.m.p.gj i.inst).2.1⟩,mn ⟨rfl,hl,λ_ _=>kp⟩⟩⟩⟩⟩)⟩
def z9t:B1.ok Tryz.prog 230:=gu mixed (dw Nx (dw yCe (dw xCg fg))) 0 (λ_=>[]) (λ_=>[]) [] Tryz.func230 yQh
def YO (p:ff) (x:wS) (r:fv):(pQ p x r).length<=3:=by
 rw[pQ,iC];split
 ·rw[Po];simp
 ·simp
def yDw {p:ff} {x:wS} {r:fv} (h:(p.gj r.inst).2.2=am):pQ p x r=[r]:=by
 rw[pQ,eg (by rw[h];decide)]
def z5d {p:ff} {x:wS} {r:fv} (h:(p.gj r.inst).2.2=ao):pQ p x r=r::Po p r (vW p r.inst x).1 (vW p r.inst x).2:=by
 rw[pQ,fc h]
def rj.DT (i:rj):∀j,(i.out j).length<=3*j
 |0=>lh _
 |j+1=>by
  have ih:=rj.DT i j;rw[rj.out]at ih ⊢;rw[qx,yu,iv];cases e:i.x.ig[j]? with
  |none=>simp only[Option.toList_none,LD,rn];omega
  |some f=>
   have:=YO i.m.p i.x (HW f);simp only[Cb,vi,LD,oJ];omega
def rj.G7 (i:rj) {j:Nat} {f:aI} (h:i.x.ig[j]? =aq f):i.out (j+1)=i.out j++pQ i.m.p i.x (HW f):=by
 rw[rj.out,rj.out,qx,yu,h];simp
def y4f (i:rj) (h:Gx.dp i):yQk i:=by
 obtain⟨hf,RP,hl,HL,xw⟩:i.m.iL/\gr i.x.dm/\i.x.ig.length<=1000000/\(i.c.side=1\/i.c.side=2)/\∀f∈i.x.ig,f.side=1\/f.side=2:=h;have e4:(i.x.ig.map y5).length=i.x.ig.length:=gy ..;unfold yQk QF QM Qa fa dx Qg pC zGz Q0 zGa Q0 zGi Q0 cJ dW kA dI;refine⟨0,rfl,rfl,λj=>j<=i.x.ig.length,λj=>i.x.ig.length-j,mi _,?_⟩;intro j hj;have ho:=i.DT j;have e5:((i.out j).map x9).length=(i.out j).length:=gy ..;refine zH (λc=> ?_) (λc=> ?_)
 ·obtain⟨f,hfj⟩:=z6 (l:=i.x.ig) (i:=j) oM;have CH:=i.G7 hfj;have aaP:=xw f (ku hfj);refine⟨⟨oM,oM⟩,_,_,_,_,_,_,xCt hfj,oM,⟨i.m,f.inst⟩,rfl,rfl,rfl,rfl,rfl,rfl,rfl,rfl,rfl,rfl,rfl,rfl,rfl,rfl,hf,λ_ _=>Cv.dp.mk (λe=> ?_) (λe=> ?_)⟩
  ·have e:(i.m.p.gj (HW f).inst).2.2=ao:=e;rw[z5d e]at CH;refine⟨⟨i.m,f.inst,i.x⟩,iw (ni (iJ ⟨rfl,⟨hf,RP,hl⟩,λ_ _=>⟨⟨i.m,HW f,(vW i.m.p f.inst i.x).1,(vW i.m.p f.inst i.x).2⟩,iw (iw (ni ⟨rfl,⟨hf,aaP⟩,λ_ _=>⟨trivial,by rw[iv,e5];simp only[iC,rn];omega,j+1,qy oM,?_,oM,Z9,gg⟩⟩))⟩⟩))⟩;rw[CH,jl,iY];rfl
  ·have e:(i.m.p.gj (HW f).inst).2.2=am:=e;rw[yDw e]at CH;refine⟨j+1,qy oM,?_,oM,Z9,gg⟩;rw[CH,jl];rfl
 ·have hj:j=i.x.ig.length:=by omega
  have Oz:i.x.ig.flatMap (λf=>pQ i.m.p i.x (HW f))=i.out j:=by rw[rj.out,hj,mo (lh _)]
  have hR:pN i.m.p i.c i.x i.left=i.out j++pQ i.m.p i.x ⟨3,i.c.id,i.c.inst,i.c.side,i.x.dm,i.x.dr,i.left,0⟩:=by rw[pN,Oz]
  refine⟨oM,⟨i.m,i.c.inst⟩,iw (tg ⟨rfl,hf,λ_ _=>Cv.dp.mk (λe=> ?_) (λe=> ?_)⟩)⟩
  ·have e:(i.m.p.gj (⟨3,i.c.id,i.c.inst,i.c.side,i.x.dm,i.x.dr,i.left,0⟩:fv).inst).2.2=ao:=e;rw[z5d e]at hR;refine⟨⟨i.m,i.c.inst,i.x⟩,iw (ni (iJ ⟨rfl,⟨hf,RP,hl⟩,λ_ _=>⟨⟨i.m,⟨3,i.c.id,i.c.inst,i.c.side,i.x.dm,i.x.dr,i.left,0⟩,(vW i.m.p i.c.inst i.x).1,(vW i.m.p i.c.inst i.x).2⟩,iw (iw (ni ⟨rfl,⟨hf,HL⟩,λ_ _=>⟨trivial,by rw[iv,e5];simp only[iC,rn];omega,?_⟩⟩))⟩⟩))⟩;rw[hR,jl,iY];exact kp
  ·have e:(i.m.p.gj (⟨3,i.c.id,i.c.inst,i.c.side,i.x.dm,i.x.dr,i.left,0⟩:fv).inst).2.2=am:=e;rw[yDw e]at hR;rw[hR,jl];exact kp
def ySm:Gx.ok Tryz.prog 219:=gu mixed (dw y8s (dw z9t (dw z7m fg))) 1 (λ_=>[]) (λi=>y9p i) [] Tryz.func219 y4f
structure qo where
 m:iD
 p:ff
 B:List (List zK)
 U:List Int
 c:ie
 X:HR
@[reducible] def qo.Oe (i:qo):Prop:=i.m.fv i.p i.B i.U/\jb i.p i.B
@[reducible] def qo.vw (i:qo):Prop:=(0<=i.c.inst/\i.c.inst<i.B.length)/\(1<=i.c.dr/\i.c.dr<=1000000)/\(i.c.side=1\/i.c.side=2)
@[reducible] def PL (X:HR) (p:ff):Alt:={o:=iD,res:=λ_=> .own 5,post:=λo=>B8 o++[Ll X.R],rel:=λo=>o.fv p X.B X.U}
def GJ:fy where
 ι:=qo
 pat:=λi=>[.nm 0 0,C8 i.c]
 pre:=λi=>B8 i.m
 dp:=λi=>i.Oe/\i.vw/\i.p.dm i.c.inst i.c.dm=0/\i.X=aP i.p i.B i.U i.c
 alts:=λi=>[PL i.X i.p]
structure Mf where
 left:Int
 k:Nat
 out:List fv
def y6r (i:qo):List gm:=[{ι:=Mf,du:=λj=>[(5,.own 0),(8,zB j.left),(51,zB j.k)],rows:=λj=>[Ll j.out]}]
def Gu:fy where
 ι:=qo
 pat:=λi=>[.nm 0 0,C8 i.c]
 pre:=λi=>B8 i.m
 dp:=λi=>i.Oe/\i.c.right=0/\i.c.kind=1/\i.X=rG i.p i.B i.U i.c
 alts:=λi=>[PL i.X i.p]
def y7m:List (Nat×gm):=[(22,ij 6),(44,bj 47),(52,bj 69)]
structure DD where
 m:iD
 p:ff
 B:List (List zK)
 U:List Int
 id:Int
 q:Int
 inst:Int
 o:zK
 X:HR
@[reducible] def DD.Oe (i:DD):Prop:=i.m.fv i.p i.B i.U/\jb i.p i.B
def Je:fy where
 ι:=DD
 pat:=λi=>[.nm 0 0,zB i.id,zB i.inst,NI i.o]
 pre:=λi=>B8 i.m
 dp:=λi=>i.Oe/\i.X=gK i.B i.U i.id i.inst i.o
 alts:=λi=>[PL i.X i.p]
def I1:fy where
 ι:=DD
 pat:=λi=>[.nm 0 0,zB i.id,zB i.q,zB i.inst,NI i.o]
 pre:=λi=>B8 i.m
 dp:=λi=>i.Oe/\gr (i.o.dr-i.q)/\i.X=mC i.B i.U i.id i.q i.inst i.o
 alts:=λi=>[PL i.X i.p]
structure NN where
 m:iD
 p:ff
 B:List (List zK)
 U:List Int
 c:ie
 inst:Int
 o:zK
 X:HR
def BX:fy where
 ι:=NN
 pat:=λi=>[.nm 0 0,C8 i.c,zB i.inst,NI i.o]
 pre:=λi=>B8 i.m
 dp:=λi=>i.m.fv i.p i.B i.U/\jb i.p i.B/\yA i.B i.c.id=(i.inst,i.o,ao)/\(1<=i.c.dr/\i.c.dr<=1000000)/\i.X=cF i.p i.B i.U i.c i.inst i.o
 alts:=λi=>[PL i.X i.p]
def doC:fy where
 ι:=qo
 pat:=λi=>[.nm 0 0,C8 i.c]
 pre:=λi=>[kG i.m]
 dp:=λi=>i.Oe/\i.c.label.length<=140737488355328/\gr i.c.dr/\i.X=Bg i.p i.B i.U i.c
 alts:=λi=>[{o:=iD,res:=λ_=> .own 1,post:=λo=>[kG o,Ll i.X.R],rel:=λo=>o.fv i.p i.X.B i.X.U}]
@[reducible] def Q6 (a:iD)(b:ie)(c:iD)(R:Prop):Prop:=zX a.used=u7 (au ap b.id) [D.v (.bool ao)] (zX c.used)/\ab 1 (iE a.p.dt)=yO c 3/\ab 1 (iE a.p.settle)=yO c 4/\R
def zFj (a:iD) (b:qo) (c:Mf):Prop:=Q6 a b.c b.m (ak x9 b.X.R=ak x9 c.out/\a.fv b.p b.X.B b.X.U)
def u6 (a:qo):=(D.v (av (sb a.c.label)))
def yTj (i:qo):Prop:=
 (∀(a:Value×List D),a∈zX i.m.used->lr (au ap i.c.id) a.fst=ao)/\∃(a:np),a.inst=i.c.inst/\zE a.sd=i.c.side/\a.dm=i.c.dm/\a.q=i.c.dr/\zF a.s=yO i.m 1/\(kK a)/\∀(b:gv),b.fv a.p a.r.B->∃(c:Mf),c.left=i.c.dr/\(↑c.k:Int)=0/\ak x9 c.out=[[dI 1,dI i.c.id,dI i.c.inst,dI i.c.side,dI i.c.dm,dI i.c.dr,dI i.c.dr,dI 0]]/\∃(d:Mf->Prop),∃(e:Mf->Nat),d c/\∀(f:Mf),d f->dp (decide ((↑f.k:Int)<(↑(ak wX a.r.steps).length:Int))) ((0<=(↑f.k:Int)/\(↑f.k:Int)<(↑(ak wX a.r.steps).length:Int))/\∃(g:Int),∃(h:Int),∃(j:Bool),∃(k:List (List D)),zD (ak wX a.r.steps) (↑f.k:Int).toNat 0 4=aq [dI g,dI h,D.v (.bool j),D.ro 6 k]/\∃(l:rj),Qd l.c i.c (l.x.dm=g/\l.x.dr=h/\l.x.fx=j/\ak y5 l.x.ig=k/\l.left=ap.wrap (f.left-h)/\Qa l.m.p i.m.p (zF l.m.s=zF b/\Q6 l.m i.c i.m (((Q0 l.m.p (l.m.p.settle.length<=1099511627776))/\((-9223372036854775808)<=l.x.dm/\l.x.dm<=9223372036854775807)/\l.x.ig.length<=1000000/\(l.c.side=1\/l.c.side=2)/\∀(m:aI),m∈l.x.ig->m.side=1\/m.side=2)/\fa (((ak x9 f.out).length+(ak x9 (pN l.m.p l.c l.x l.left)).length)*(64:Nat)<=(140737488355328:Nat)/\∃(n:Mf),n.left=ap.wrap (f.left-h)/\(↑n.k:Int)=ap.wrap ((↑f.k:Int)+1)/\ak x9 n.out=ak x9 f.out++ak x9 (pN l.m.p l.c l.x l.left)/\d n/\e n<e f/\zF l.m.s=zF b/\dl (ag 331 4 (ak wX a.r.steps))/\dl (ac [V.d (dI i.c.kind),V.d (dI i.c.id),V.d (dI i.c.inst),V.d (dI i.c.side),V.d (dI i.c.dm),V.d (dI i.c.dr),V.d (dI i.c.least),V.d (dI i.c.time),V.d (u6 i)] 46)/\ac [V.d (D.v (av (sb l.m.p.code))),V.own 3,V.d (dI l.m.p.tick),V.d (dI l.m.p.low),V.d (dI l.m.p.high),V.d (dI l.m.p.wide),V.d (dI l.m.p.gi),V.d (dI l.m.p.top),V.d (dI l.m.p.least),V.d (dI l.m.p.part),V.own 4,V.nm 1 0,V.mp 2] (137:TypeId)=yO i.m 0/\af (zX l.m.used)=af (u7 (au ap i.c.id) [D.v (.bool ao)] (zX i.m.used))/\ab 1 (iE l.m.p.dt)=yO i.m 3/\ab 1 (iE l.m.p.settle)=yO i.m 4))))) (dp (a.r.left==0) (∃(g:iD),Qa g.p i.m.p (zF g.s=zF b/\zFj g i f)) (dp (i.c.time==1) (∃(g:HN),g.inst=i.c.inst/\g.id=i.c.id/\zE g.sd=i.c.side/\g.dm=i.c.dm/\g.dr=a.r.left/\zF g.s=zF b/\((o7 g.s.p (g.s.p.settle.length<=1099511627776))/\g.s.ei.length<=1000000/\∀(h:dq),h∈g.s.ei->(h.a.du.length<=1000000/\(h.a.free≠0->∃(j:Slot),j∈h.a.du/\j.used=am)/\∀(j:aK),j∈h.a.dy->j.last=(-1)\/0<=j.last/\j.last<(↑h.a.du.length:Int))/\h.a.dy.length<=100000/\h.fm.length<=100000/\h.ej.length<=100000/\h.spare.length<=100000)/\fa (∃(j:iD),Qa j.p i.m.p (zF j.s=zF (gv.iz g).fst/\zFj j i f))) (((ak x9 f.out).length+1)*(64:Nat)<=(140737488355328:Nat)/\∃(g:iD),Qa g.p i.m.p (zF g.s=zF b/\Q6 g i.c i.m (ak x9 i.X.R=ak x9 f.out++[[dI 4,dI i.c.id,dI i.c.inst,dI i.c.side,dI i.c.dm,dI a.r.left,dI 0,dI 0]]/\g.fv i.p i.X.B i.X.U)))))
@[reducible] def X9 (a:ie)(b:qo)(R:Prop):Prop:=ac [V.d (dI a.kind),V.d (dI a.id),V.d (dI a.inst),V.d (dI a.side),V.d (dI a.dm),V.d (dI a.dr),V.d (dI a.least),V.d (dI a.time),V.d (u6 b)] 46=ac [V.d (dI a.kind),V.d (dI a.id),V.d (dI a.inst),V.d (dI a.side),V.d (dI a.dm),V.d (dI a.dr),V.d (dI a.least),V.d (dI a.time),V.d (u6 b)] 46/\yO b.m 0=yO b.m 0/\R
def zHe (a:qo):Prop:=X9 a.c a (dl (yO a.m 2)/\dl (yO a.m 3)/\dl (yO a.m 4))
def zGw (a:Bool->Prop) (b:Cl) (c:qo):Prop:=∃(d:Bool),d=am/\a d/\dl (zF b.s)/\zHe c
def zFx (a:Int->Prop) (b:Int) (c:qo):Prop:=a b/\X9 c.c c (dl (yO c.m 1)/\dl (yO c.m 2)/\dl (yO c.m 3)/\dl (yO c.m 4))
def zGp (a:Bool->Prop) (b:Bool) (c:np) (d:Cl) (e:qo):Prop:=a b/\zF c.s=zF d.s/\zHe e
def zHn (a:iD) (b:qo) (c:BC):Prop:=QM a b.m (ak x9 b.X.R=[x9 (fv.mk 2 c.c.id 0 0 0 0 0 c.pd)]/\a.fv b.p b.X.B b.X.U)
def zGu (a:qo) (b:BC):Prop:=True/\fa (∃(d:iD),Qa d.p a.m.p (zF d.s=yO a.m 1/\zHn d a b))
def eX (a:qo) (b:Cl) (c:BC):Prop:=True/\fa (∃(e:iD),Qa e.p a.m.p (zF e.s=zF b.s/\zHn e a c))
def eA (a:qo) (b:qo):Prop:=∀(c:iD),c.fv a.p a.X.B a.X.U->∃(d:iD),Qa d.p c.p (zF d.s=zF c.s/\QF d c (ak x9 b.X.R=ak x9 a.X.R/\d.fv b.p b.X.B b.X.U))
def lA (a:qo):Prop:=(a.m.fv a.p a.B a.U/\jb a.p a.B)/\((0<=a.c.inst/\a.c.inst<(↑a.B.length:Int))/\(1<=a.c.dr/\a.c.dr<=1000000)/\(a.c.side=1\/a.c.side=2))/\a.p.dm a.c.inst a.c.dm=0/\a.X=aP a.p a.B a.U a.c
def yLm (i:qo):Prop:=
 ∃(a:AX),Qb a.p i.m.p (a.a=i.c.inst/\a.b=i.c.dm/\(qQ a)/\fa (dp (a.p.dm a.a a.b !=0) (∃(c:BC),Qd c.c i.c (c.pd=a.p.dm a.a a.b/\zGu i c)) (∃(c:Int),∃(d:Int->Prop),dp (i.c.time==3) (∃(e:Int),e=i.c.dr/\zFx d e i) (∃(e:Int),e=i.c.least/\zFx d e i)/\∀(e:Int),d e->(∀(f:Value×List D),f∈zX i.m.used->lr (au ap i.c.id) f.fst=ao)/\∃(f:Bool),∃(g:Bool),(jH (au ap i.c.id) (zX i.m.used)=aq [D.v (.bool g)]/\f=ao\/jH (au ap i.c.id) (zX i.m.used)=ar/\[D.v (.bool g)]=[D.v (.bool am)]/\f=am)/\dp g (∃(h:BC),Qd h.c i.c (h.pd=25/\zGu i h)) (∃(h:Cl),zF h.s=yO i.m 1/\(h.s.fv h.p h.B/\h.B.length<=1000)/\fa (dp (decide ((↑(HZ h.B):Int)>=250)) (∃(k:BC),Qd k.c i.c (k.pd=13/\eX i h k)) (∃(k:Bool),∃(l:Bool->Prop),dp (decide (e>0)) (∃(m:np),m.inst=i.c.inst/\zE m.sd=i.c.side/\m.dm=i.c.dm/\m.q=i.c.dr/\zF m.s=zF h.s/\(kK m)/\fa (∃(p:Bool),p=decide (m.q-m.r.left<e)/\zGp l p m h i)) (zGw l h i)/\∀(m:Bool),l m->dp m (∃(n:BC),Qd n.c i.c (n.pd=28/\eX i h n)) (∃(n:Bool),∃(p:Bool->Prop),dp (i.c.time==1) (∃(q:np),q.inst=i.c.inst/\zE q.sd=i.c.side/\q.dm=i.c.dm/\q.q=i.c.dr/\zF q.s=zF h.s/\(kK q)/\fa (∃(s:Bool),s=pB q.p q.B q.inst q.sd q.dm q.q/\zGp p s q h i)) (zGw p h i)/\∀(q:Bool),p q->dp q (∃(r:BC),Qd r.c i.c (r.pd=23/\eX i h r)) (∃(r:qo),Qd r.c i.c (Qa r.m.p i.m.p (zF r.m.s=zF h.s/\QM r.m i.m ((lA r)/\eA r i)))))))))))
def yZc (i:DD):Prop:=
 ∃(gx:Bh),gx.id=i.id/\gx.q=i.o.dr/\zF gx.s=yO i.m 1/\(gx.s.fv gx.p gx.B/\gx.B.length<=1000)/\∀(o:gv),o.fv gx.p (jG gx.B gx.id gx.q).fst->∃(Bw:iD),sb Bw.p.code=sb i.m.p.code/\Bw.p.tick=i.m.p.tick/\Bw.p.low=i.m.p.low/\Bw.p.high=i.m.p.high/\Bw.p.wide=i.m.p.wide/\Bw.p.gi=i.m.p.gi/\Bw.p.top=i.m.p.top/\Bw.p.least=i.m.p.least/\Bw.p.part=i.m.p.part/\zF Bw.s=zF o/\zX Bw.used=zX i.m.used/\ab 1 (iE Bw.p.dt)=yO i.m 3/\ab 1 (iE Bw.p.settle)=yO i.m 4/\ak x9 i.X.R=[[D.v (.int .i64 4),D.v (.int .i64 i.id),D.v (.int .i64 i.inst),D.v (.int .i64 i.o.side),D.v (.int .i64 i.o.dm),D.v (.int .i64 i.o.dr),D.v (.int .i64 0),D.v (.int .i64 0)]]/\Bw.fv i.p i.X.B i.X.U
def yEa (i:DD):Prop:=
 ∃(a:Bh),a.id=i.id/\a.q=i.q/\zF a.s=yO i.m 1/\(a.s.fv a.p a.B/\a.B.length<=1000)/\∀(b:gv),b.fv a.p (jG a.B a.id a.q).fst->∃(c:iD),Qa c.p i.m.p (zF c.s=zF b/\QM c i.m (ak x9 i.X.R=[[dI 5,dI i.id,dI i.inst,dI i.o.side,dI i.o.dm,dI i.q,dI (ap.wrap (i.o.dr-i.q)),dI 0]]/\c.fv i.p i.X.B i.X.U))
def eO (a:iD) (b:NN) (c:BC):Prop:=QM a b.m (ak x9 b.X.R=[x9 (fv.mk 2 c.c.id 0 0 0 0 0 c.pd)]/\a.fv b.p b.X.B b.X.U)
def zCf (a:NN):Prop:=∃(b:gv),zF b=yO a.m 1/\(dN b)/\fa (∃(d:Bh),d.id=a.c.id/\d.q=a.o.dr/\zF d.s=zF b/\(d.s.fv d.p d.B/\d.B.length<=1000)/\∀(e:gv),e.fv d.p (jG d.B d.id d.q).fst->∃(f:np),f.inst=a.inst/\zE f.sd=a.o.side/\f.dm=a.c.dm/\f.q=a.c.dr/\zF f.s=zF e/\(kK f)/\fa (dp (pB f.p f.B f.inst f.sd f.dm f.q) (∃(h:BC),Qd h.c a.c (h.pd=23/\True/\fa (∃(k:iD),Qa k.p a.m.p (zF k.s=zF b/\eO k a h)))) (∃(h:DD),h.id=a.c.id/\h.inst=a.inst/\h.o.id=a.o.id/\h.o.side=a.o.side/\h.o.dm=a.o.dm/\h.o.dr=a.o.dr/\h.o.top=a.o.top/\Qa h.m.p a.m.p (zF h.m.s=zF b/\QM h.m a.m (((h.m.fv h.p h.B h.U/\jb h.p h.B)/\h.X=gK h.B h.U h.id h.inst h.o)/\∀(j:iD),j.fv h.p h.X.B h.X.U->∃(k:qo),k.c.kind=1/\k.c.id=a.c.id/\k.c.inst=a.inst/\k.c.side=a.o.side/\k.c.dm=a.c.dm/\k.c.dr=a.c.dr/\k.c.least=0/\k.c.time=1/\sb k.c.label=aw #[]/\Qa k.m.p j.p (zF k.m.s=zF j.s/\QF k.m j ((lA k)/\∀(l:iD),l.fv k.p k.X.B k.X.U->((ak x9 h.X.R).length+(ak x9 k.X.R).length)*(64:Nat)<=(140737488355328:Nat)/\∃(m:iD),Qa m.p l.p (zF m.s=zF l.s/\QF m l (ak x9 a.X.R=ak x9 h.X.R++ak x9 k.X.R/\m.fv a.p a.X.B a.X.U)))))))))
def mA (a:DD):Prop:=(a.m.fv a.p a.B a.U/\jb a.p a.B)/\((-9223372036854775808)<=a.o.dr-a.q/\a.o.dr-a.q<=9223372036854775807)/\a.X=mC a.B a.U a.id a.q a.inst a.o
def z5h (i:NN):Prop:=
 ∃(a:AX),Qb a.p i.m.p (a.a=i.inst/\a.b=i.c.dm/\(qQ a)/\fa (dp (a.p.dm a.a a.b !=0) (∃(c:BC),Qd c.c i.c (c.pd=a.p.dm a.a a.b/\True/\fa (∃(e:iD),Qa e.p i.m.p (zF e.s=yO i.m 1/\eO e i c)))) (dp (i.c.dm==i.o.dm) (dp (decide (i.c.dr<=i.o.dr)) (∃(c:DD),c.id=i.c.id/\c.q=ap.wrap (i.o.dr-i.c.dr)/\c.inst=i.inst/\c.o.id=i.o.id/\c.o.side=i.o.side/\c.o.dm=i.o.dm/\c.o.dr=i.o.dr/\c.o.top=i.o.top/\Qa c.m.p i.m.p (zF c.m.s=yO i.m 1/\QM c.m i.m ((mA c)/\∀(d:iD),d.fv c.p c.X.B c.X.U->∃(e:iD),Qa e.p d.p (zF e.s=zF d.s/\QF e d (ak x9 i.X.R=ak x9 c.X.R/\e.fv i.p i.X.B i.X.U))))) (zCf i)) (zCf i))))
def z0d (a:DD) (b:qo):Prop:=∀(c:iD),c.fv a.p a.X.B a.X.U->∃(d:iD),Qa d.p c.p (zF d.s=zF c.s/\QF d c (ak x9 b.X.R=ak x9 a.X.R/\d.fv b.p b.X.B b.X.U))
def z0h (a:iD) (b:qo) (c:BC):Prop:=QF a b.m (ak x9 b.X.R=[x9 (fv.mk 2 c.c.id 0 0 0 0 0 c.pd)]/\a.fv b.p b.X.B b.X.U)
@[reducible] def QX (a:zK)(b:Bh)(R:Prop):Prop:=a.id=(yA b.B b.id).snd.fst.id/\a.side=(yA b.B b.id).snd.fst.side/\a.dm=(yA b.B b.id).snd.fst.dm/\a.dr=(yA b.B b.id).snd.fst.dr/\a.top=(yA b.B b.id).snd.fst.top/\R
def yAv (a:qo) (b:Bh):Prop:=∃(c:DD),c.id=a.c.id/\c.inst=(yA b.B b.id).fst/\QX c.o b (Qa c.m.p a.m.p (zF c.m.s=zF b.s/\QF c.m a.m (((c.m.fv c.p c.B c.U/\jb c.p c.B)/\c.X=gK c.B c.U c.id c.inst c.o)/\z0d c a)))
def yUh (a:qo):Prop:=∃(b:Bh),b.id=a.c.id/\zF b.s=zF a.m.s/\(b.s.fv b.p b.B/\b.B.length<=1000)/\fa (dp (!(yA b.B b.id).snd.snd) (∃(d:BC),Qd d.c a.c (d.pd=26/\True/\fa (∃(f:iD),Qa f.p a.m.p (zF f.s=zF b.s/\z0h f a d)))) (dp (a.c.kind==4) (∃(d:NN),Qd d.c a.c (d.inst=(yA b.B b.id).fst/\QX d.o b (Qa d.m.p a.m.p (zF d.m.s=zF b.s/\QF d.m a.m ((d.m.fv d.p d.B d.U/\jb d.p d.B/\yA d.B d.c.id=(d.inst,d.o,ao)/\(1<=d.c.dr/\d.c.dr<=1000000)/\d.X=cF d.p d.B d.U d.c d.inst d.o)/\∀(e:iD),e.fv d.p d.X.B d.X.U->∃(f:iD),Qa f.p e.p (zF f.s=zF e.s/\QF f e (ak x9 a.X.R=ak x9 d.X.R/\f.fv a.p a.X.B a.X.U))))))) (dp (a.c.kind==2) (yAv a b) (dp (decide (a.c.dr>=(yA b.B b.id).snd.fst.dr)) (yAv a b) (∃(d:DD),d.id=a.c.id/\d.q=a.c.dr/\d.inst=(yA b.B b.id).fst/\QX d.o b (Qa d.m.p a.m.p (zF d.m.s=zF b.s/\QF d.m a.m ((mA d)/\z0d d a))))))))
def Vdo (i:qo):Prop:=
 ∃(a:ie),Qd a i.c (a.label.length<=140737488355328/\fa (dp (a.right !=0) (∃(c:BC),Qd c.c i.c (c.pd=a.right/\True/\fa (∃(e:iD),Qa e.p i.m.p (zF e.s=zF i.m.s/\z0h e i c)))) (dp (i.c.kind==1) (∃(c:qo),Qd c.c i.c (Qa c.m.p i.m.p (zF c.m.s=zF i.m.s/\QF c.m i.m (((c.m.fv c.p c.B c.U/\jb c.p c.B)/\c.c.right=0/\c.c.kind=1/\c.X=rG c.p c.B c.U c.c)/\eA c i)))) ((yUh i)/\dl i.c.id/\True/\yUh i))))
def VN (p:ff) (B:List (List zK)) (U:List Int) (c:ie):aP p B U c=⟨if(vH p B c.inst (decide (c.side=2)) c.dm c.dr).left≠0/\c.time=1 then(Ld p (vH p B c.inst (decide (c.side=2)) c.dm c.dr).B c.inst c.id c.side c.dm (vH p B c.inst (decide (c.side=2)) c.dm c.dr).left).1 else(vH p B c.inst (decide (c.side=2)) c.dm c.dr).B,Hk U c.id,
 (⟨1,c.id,c.inst,c.side,c.dm,c.dr,c.dr,0⟩::nE p c (vH p B c.inst (decide (c.side=2)) c.dm c.dr).steps c.dr)++if(vH p B c.inst (decide (c.side=2)) c.dm c.dr).left≠0/\c.time≠1 then[⟨4,c.id,c.inst,c.side,c.dm,(vH p B c.inst (decide (c.side=2)) c.dm c.dr).left,0,0⟩]else[]⟩:=by
 rw[aP]
def zXo {p:ff} {B:List (List zK)} (h:uh p B) (U:List Int) (c:ie):jb p (aP p B U c).B:=by
 have:=(rI (inst:=c.inst) (sd:=decide (c.side=2)) (dm:=c.dm) _ c.dr B (lh _) h).1.ok;rw[VN];dsimp only;split
 ·exact this.add _ _ _ _ _
 ·exact this
def yJj {p:ff} {B:List (List zK)} (h:uh p B) (U:List Int) (c:ie):jb p (rG p B U c).B:=by
 rw[rG];split
 ·exact h.ok
 split
 ·exact h.ok
 split
 ·exact h.ok
 split
 ·exact h.ok
 split
 ·exact h.ok
 exact zXo h U c
def y9l {p:ff} {B:List (List zK)} (h:uh p B) (U:List Int) (c:ie):jb p (Bg p B U c).B:=by
 rw[Bg];split
 ·exact h.ok
 split
 ·exact yJj h U c
 split
 ·exact h.ok
 split
 ·rw[cF];split
  ·exact h.ok
  split
  ·exact h.ok.take _ _
  split
  ·exact h.ok
  exact zXo (h.take _ _) U _
 split
 ·exact h.ok.take _ _
 ·exact h.ok.take _ _
def Two (L:List zK):Prop:=L=Fu L 1++Fu L 2
def zBb {inst s:Int} {f:aI}:∀{os:List zK} {sh:List Int},f∈qG inst s os sh->f.side=s/\f.inst=inst/\∃o∈os,f.dm=o.dm
 |[],sh,h=>by cases h
 |o::os,[],h=>by cases h
 |o::os,k::sh,h=>by
  rw[qG]at h;split at h
  ·rcases jq.1 h with rfl|h
   ·exact⟨rfl,rfl,o,iS,rfl⟩
   ·obtain⟨a,b,o',c,d⟩:=zBb h;exact⟨a,b,o',jc _ c,d⟩
  ·obtain⟨a,b,o',c,d⟩:=zBb h;exact⟨a,b,o',jc _ c,d⟩
def FOk (f:aI):Prop:=(f.side=1\/f.side=2)/\-2000000<=f.dm/\f.dm<=2000000
def zLo {p:ff} {B:List (List zK)} (h:jb p B) (inst:Int) {s:Int} (hs:s=1\/s=2) (q:Int):∀f∈kO p B inst s q,FOk f:=by
 intro f hf;obtain⟨a,_,o,ho,e⟩:=zBb hf;refine⟨by rw[a];exact hs,?_⟩;rw[e];have ho:=(wb.1 ho).1;by_cases hk:inst.toNat<B.length
 ·obtain⟨L,hL⟩:=z6 hk;rw[zY hL]at ho;exact h.yg hL o ho
 ·rw[oc,ud (by omega)]at ho;cases ho
def X5 (t:wS):Prop:=(-2000000<=t.dm/\t.dm<=2000000)/\(∀f∈t.ig,FOk f)/\t.ig.length<=500
def yWg {p:ff} {B:List (List zK)} (h:uh p B) {inst:Int} (hi:0<=inst/\inst<B.length) {s:Int} (hs:s=1\/s=2) (hn:(yZ p B inst s).2.2=ao): -2000000<=(yZ p B inst s).1.dm/\(yZ p B inst s).1.dm<=2000000:=by
 rw[yZ]at hn ⊢;obtain⟨L,hL⟩:=z6 (l:=B) (i:=inst.toNat) oM;rw[zY hL]at hn ⊢;split
 ·exact z2h (h.ok.yg hL)
 ·rename_i c;rw[eg c]at hn;have hm:=zKp hn;have:=(wb.1 hm).2;exact Pv h.ok.pc (qp this)
def yYi {p:ff} {B:List (List zK)} (h:uh p B) {inst:Int} (hi:0<=inst/\inst<B.length) {sd:Bool} {dm q:Int} {t:wS} {B':List (List zK)} (e:m4 p B inst sd dm q=aq (t,B')):X5 t:=by
 have hs:zE (!sd)=1\/zE (!sd)=2:=Pm _;have hb:=yWg h hi hs;have wk:=yHc h.ok h.od hi hs;rw[m4]at e;dsimp only at e;split at e
 ·rename_i c;have c1:(yZ p B inst (zE (!sd))).2.2=ao:=by
   cases hx:(yZ p B inst (zE (!sd))).2.2 with
   |false=>rw[hx]at c;cases c
   |true=>rfl
  have hb:=hb c1;obtain⟨_,wk,_⟩:=wk c1;split at e
  ·rename_i c2;obtain⟨_,ok⟩:=wk c2;cases e;refine⟨hb,λf hf=> ?_,?_⟩
   ·rcases oK.1 hf with hf|hf
    ·exact zLo h.ok _ ok.sa _ f hf
    ·exact zLo h.ok.takes _ ok.sb _ f hf
   ·dsimp only;rw[iv];have:=rY (p:=p) h.od (yZ p B inst (zE (!sd))).1.a.inst (yZ p B inst (zE (!sd))).1.a.side (min q (yZ p B inst (zE (!sd))).1.dr);have:=rY (p:=p) (h.takes (fs:=kO p B (yZ p B inst (zE (!sd))).1.a.inst (yZ p B inst (zE (!sd))).1.a.side (min q (yZ p B inst (zE (!sd))).1.dr))).od (yZ p B inst (zE (!sd))).1.b.inst (yZ p B inst (zE (!sd))).1.b.side (min q (yZ p B inst (zE (!sd))).1.dr);omega
  ·cases e;refine⟨hb,λf hf=>zLo h.ok _ hs _ f hf,?_⟩;have:=rY (p:=p) h.od inst (zE (!sd)) (min q (yZ p B inst (zE (!sd))).1.dr);dsimp only;omega
 ·cases e
def zFv (a:Bh):Prop:=QL a.s (True)
def yRi (i:Bh):Prop:=
 (nM i)/\∃(a:Bool),∃(b:Int),(eE i b a)/\dp (!a) (dx ((yA i.B i.id).fst=0/\(yA i.B i.id).snd.fst.id=0/\(yA i.B i.id).snd.fst.side=0/\(yA i.B i.id).snd.fst.dm=0/\(yA i.B i.id).snd.fst.dr=0/\(yA i.B i.id).snd.fst.top=am/\(yA i.B i.id).snd.snd=am/\Qc i.s.p (dl (ae 211 dq 6 zS i.s.ei ar)/\zFv i))) ((0<=b/\b<(↑i.s.ei.length:Int))/\b.toNat<i.s.ei.length/\∃(c:dq),i.s.ei[b.toNat]?=aq c/\∃(d:CL),d.id=i.id/\yE d.b=yE c/\d.b.fv d.L/\fa (∃(f:dq),yE d.b=yE f/\Fa b i.s.ei (dx ((yA i.B i.id).fst=b/\(yA i.B i.id).snd.fst.id=(bN d.L d.id).id/\(yA i.B i.id).snd.fst.side=(bN d.L d.id).side/\(yA i.B i.id).snd.fst.dm=(bN d.L d.id).dm/\(yA i.B i.id).snd.fst.dr=(bN d.L d.id).dr/\(yA i.B i.id).snd.fst.top=(bN d.L d.id).top/\(yA i.B i.id).snd.snd=ao/\Qc i.s.p (ae 211 dq 6 zS i.s.ei ar=ae 211 dq 6 zS (i.s.ei.set b.toNat f) ar/\zFv i)))))
def y5l (i:Bh) (h:Gm.dp i):yRi i:=by
 obtain⟨hR,hB⟩:i.s.fv i.p i.B/\i.B.length<=1000:=h;have ta:=hR.at_ i.id;unfold yRi Qc Fa fa dx nM eE zFv QL dI;rw[yA];cases hi:pH i.B i.id with
 |none=>
  rw[hi]at ta;exact⟨cX _ _,am,0,.inr ⟨by rw[sY,ta];rfl,rfl,rfl⟩,Cv.dp.mk (λ_=>⟨(),gg⟩) (λe=>absurd e Z8)⟩
 |some k=>
  rw[hi]at ta;obtain⟨L,hL,hh⟩:=fK hi;have hk:=(jf.1 hL).1;obtain⟨b,hb⟩:=z6 (l:=i.s.ei) (i:=k) (by rw[hR.bl];exact hk);have Ef:=hR.bk k b L hb hL;have Ax:=hR.bl;refine⟨cX _ _,ao,k,.inl ⟨by rw[sY,ta];rfl,rfl⟩,Cv.dp.mk (λe=>absurd e Z8) (λ_=> ?_)⟩;dsimp only;rw[om,zY hL];have hs:=gJ hb;refine⟨⟨oM,oM⟩,oM,b,hb,⟨b,L,i.id,0⟩,rfl,rfl,Ef,λ_ _=>⟨b,rfl,rfl,oM,(),?_⟩⟩;rw[hs]
  (repeat'(first|exact trivial|exact rfl|apply And.intro))
def yOe:Gm.ok Tryz.prog 160:=gu mixed (dw z7b fg) 0 (λ_=>[]) (λ_=>[]) [0] Tryz.func160 y5l
end Sx
