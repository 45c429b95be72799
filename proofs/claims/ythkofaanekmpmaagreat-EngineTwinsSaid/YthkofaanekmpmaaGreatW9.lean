/- Texts of ours. No condition. -/
import Derived.Test.YthkofaanekmpmaaGreatW8
set_option linter.all false
namespace Sx
set_option maxRecDepth 100000
open Go Cv Go.Proofs
def fK {s:Int} (h:s=1\/s=2):zC (decide (s=2))=s:=by
 rcases h with rfl|rfl<;>rfl
def y5m (i:RunI) (h:runC.cnd i):y0w i:=by
 obtain⟨hR,hB,⟨h0,h1⟩,hq1,hq2⟩:i.s.Rep i.p i.B/\BOk i.p i.B/\(0<=i.inst/\i.inst<i.B.length)/\1<=i.q/\i.q<=1000000:=h;have hbl:=hR.bl;have hcl:=xU i.p;have hbB:=hB.bl;unfold y0w z3s cH lA gW zMy zFt zMs z8 bG dI;refine(λhT=>zH (λc=>zH (λc2=>Cv.cnd.mk (λ_=>zH (λ_=>Cv.cnd.mk (λe=>absurd hq2 (by simpa using e)) (λ_=>hT)) (λe=>absurd hq1 e)) (λe1=>Cv.cnd.mk (λ_=>zH (λ_=>Cv.cnd.mk (λe=>absurd hq2 (by simpa using e)) (λ_=>hT)) (λe=>absurd hq1 e)) (λe2=>by
  rcases zEo i.sd with e|e
  ·rw[e]at e1;cases e1
  ·rw[e]at e2;cases e2))) (λc2=>absurd oM c2)) (λc=>absurd h0 c)) ?_
 refine⟨⟨i.s,i.B,[],i.q⟩,rF8 (rF6 ⟨rfl,λj=>j.s.Rep i.p j.B/\BOk i.p j.B/\j.B.length=i.B.length/\(0<=j.q/\j.q<=i.q)/\(j.steps.length:Int)<=i.q-j.q/\i.r=⟨j.steps++(wN i.p j.B i.inst i.sd i.price j.q).steps,(wN i.p j.B i.inst i.sd i.price j.q).left,(wN i.p j.B i.inst i.sd i.price j.q).B⟩,λj=>j.q.toNat,⟨hR,hB,rfl,⟨Z9,y9h _⟩,by dsimp only;simp,rfl⟩,?_⟩)⟩;rintro⟨s,B,st,q⟩ ⟨r1,r2,r3,⟨r4,r4'⟩,r5,r6⟩;dsimp only at r1 r2 r3 r4 r4' r5 r6 ⊢;have hno (hn:q<=0\/aP i.p B i.inst i.sd i.price q=none):∃(o:MSt),i.r.left=q/\AObj.adt MSt (5:Nat) xR o=AObj.adt MSt (5:Nat) xR s/\List.map wI i.r.steps=List.map wI st/\o.Rep i.p i.r.B:=by
  rw[lV hn,y6r]at r6;rw[r6];exact⟨s,rF3 r1⟩
 refine zH (λc=> ?_) (λc=>hno (.inl oM));have c:0<q:=c;refine⟨i.sd,rfl,trivial,λ_ _=>⟨⟨s,i.p,B,i.inst,!i.sd⟩,rfl,rfl,rfl,⟨r1,r2,h0,Z9⟩,λ_ _=> ?_⟩⟩;dsimp only;have hni:=z9d r2 r1.ords (inst:=i.inst) ⟨h0,oM⟩ (zEo (!i.sd));have hsb:aP i.p B i.inst i.sd i.price q=(if((yW i.p B i.inst (zC (!i.sd))).2.2 && (bK i.sd i.price (yW i.p B i.inst (zC (!i.sd))).1.price && decide (1<=(yW i.p B i.inst (zC (!i.sd))).1.qty)))=true then
  if(yW i.p B i.inst (zC (!i.sd))).2.1=true then
   some (⟨(yW i.p B i.inst (zC (!i.sd))).1.price,min q (yW i.p B i.inst (zC (!i.sd))).1.qty,true,qV i.p B (yW i.p B i.inst (zC (!i.sd))).1.a.inst (yW i.p B i.inst (zC (!i.sd))).1.a.side (min q (yW i.p B i.inst (zC (!i.sd))).1.qty)++qV i.p (kU B (qV i.p B (yW i.p B i.inst (zC (!i.sd))).1.a.inst (yW i.p B i.inst (zC (!i.sd))).1.a.side (min q (yW i.p B i.inst (zC (!i.sd))).1.qty))) (yW i.p B i.inst (zC (!i.sd))).1.b.inst (yW i.p B i.inst (zC (!i.sd))).1.b.side (min q (yW i.p B i.inst (zC (!i.sd))).1.qty)⟩,kU (kU B (qV i.p B (yW i.p B i.inst (zC (!i.sd))).1.a.inst (yW i.p B i.inst (zC (!i.sd))).1.a.side (min q (yW i.p B i.inst (zC (!i.sd))).1.qty))) (qV i.p (kU B (qV i.p B (yW i.p B i.inst (zC (!i.sd))).1.a.inst (yW i.p B i.inst (zC (!i.sd))).1.a.side (min q (yW i.p B i.inst (zC (!i.sd))).1.qty))) (yW i.p B i.inst (zC (!i.sd))).1.b.inst (yW i.p B i.inst (zC (!i.sd))).1.b.side (min q (yW i.p B i.inst (zC (!i.sd))).1.qty)))
  else some (⟨(yW i.p B i.inst (zC (!i.sd))).1.price,min q (yW i.p B i.inst (zC (!i.sd))).1.qty,false,qV i.p B i.inst (zC (!i.sd)) (min q (yW i.p B i.inst (zC (!i.sd))).1.qty)⟩,kU B (qV i.p B i.inst (zC (!i.sd)) (min q (yW i.p B i.inst (zC (!i.sd))).1.qty)))else none):=rfl
 generalize yW i.p B i.inst (zC (!i.sd))=nb at hni hsb ⊢;refine Cv.cnd.mk (λn1=> ?_) (λn1=>⟨⟨i.sd,i.price,nb.1.price⟩,rfl,rfl,rfl,trivial,λ_ _=>Cv.cnd.mk (λn2=> ?_) (λn2=> ?_)⟩)
 ·have n1:nb.2.2=false:=by simpa using n1
  rw[n1,y5t (by simp)]at hsb;exact hno (.inr hsb)
 ·have n2:bK i.sd i.price nb.1.price=false:=by simpa using n2
  rw[n2,y5t (by simp)]at hsb;exact hno (.inr hsb)
 have n1:nb.2.2=true:=by simpa using n1
 have n2:bK i.sd i.price nb.1.price=true:=by simpa using n2
 obtain⟨⟨b1,b2⟩,hi,hr⟩:=hni n1;rw[n1,n2,y6k b1,y5v (by rfl)]at hsb;have hk:yY (min q nb.1.qty):=by constructor<;>omega
 have hsl:(st.length+1)*48<=140737488355328:=by omega
 have beh:∀(t:j7) (B':List (List zI)) (s':MSt),aP i.p B i.inst i.sd i.price q=some (t,B')->s'.Rep i.p B'->BOk i.p B'->B'.length=B.length->
  (s'.Rep i.p B'/\BOk i.p B'/\B'.length=i.B.length/\(0<=q-t.qty/\q-t.qty<=i.q)/\((st++[t]).length:Int)<=i.q-(q-t.qty)/\i.r=⟨(st++[t])++(wN i.p B' i.inst i.sd i.price (q-t.qty)).steps,(wN i.p B' i.inst i.sd i.price (q-t.qty)).left,(wN i.p B' i.inst i.sd i.price (q-t.qty)).B⟩)/\(q-t.qty).toNat<q.toNat:=by
  intro t B' s' h1 h2 h3 h4;have ht:=zOp oM h1;refine⟨⟨h2,h3,oM,⟨oM,oM⟩,by rw[y5s,y7v];omega,?_⟩,oM⟩;rw[zNo (by omega) h1]at r6;rw[r6,y6a];rfl
 refine Cv.cnd.mk (λn3=> ?_) (λn3=> ?_)
 ·obtain⟨_,ok⟩:=hi n3;rw[n3,y5v rfl]at hsb;have oka:=ok.a;have okb:=ok.b;rw[y5u]at oka okb;have ea:=fK ok.sa;have eb:=fK ok.sb;refine⟨⟨s,i.p,B,nb.1.a.inst,decide (nb.1.a.side=2),min q nb.1.qty⟩,rfl,ea,rfl,rfl,⟨r1,r2,oka.1,oka.2,hk⟩,λs1 hs1=> ?_⟩;dsimp only at hs1 ⊢;rw[ea]at hs1 ⊢;have l1:=pC (p:=i.p) r1.ords nb.1.a.inst nb.1.a.side (min q nb.1.qty);have hB1:=r2.takes (fs:=qV i.p B nb.1.a.inst nb.1.a.side (min q nb.1.qty));have l2:=pC (p:=i.p) hs1.ords nb.1.b.inst nb.1.b.side (min q nb.1.qty);refine⟨trivial,by rw[y5u];omega,⟨s1,i.p,kU B (qV i.p B nb.1.a.inst nb.1.a.side (min q nb.1.qty)),nb.1.b.inst,decide (nb.1.b.side=2),min q nb.1.qty⟩,rfl,eb,rfl,rfl,⟨hs1,hB1,okb.1,by dsimp only;rw[uR];exact okb.2,hk⟩,λs2 hs2=> ?_⟩;dsimp only at hs2 ⊢;rw[eb]at hs2 ⊢;obtain⟨g1,g2⟩:=beh _ _ s2 hsb hs2 hB1.takes (by rw[uR,uR]);refine⟨trivial,by rw[y5u,y5u];omega,by rw[y5u];exact hsl,⟨s2,_,st++[_],_⟩,?_,rfl,?_,g1,g2,k0q⟩
  ·dsimp only;rw[w64 (by omega)]
  ·dsimp only;rw[y6d,n3];simp[wI]
 ·rw[n3,y5t (by decide)]at hsb;refine⟨i.sd,rfl,trivial,λ_ _=>⟨rfl,⟨s,i.p,B,i.inst,!i.sd,min q nb.1.qty⟩,rF3 ⟨rfl,⟨r1,r2,h0,Z9,hk⟩,λs1 hs1=> ?_⟩⟩⟩;dsimp only at hs1 ⊢;obtain⟨g1,g2⟩:=beh _ _ s1 hsb hs1 r2.takes (by rw[uR]);refine⟨by rw[y5u];exact hsl,⟨s1,_,st++[_],_⟩,?_,rfl,?_,g1,g2,k0q⟩
  ·dsimp only;rw[w64 (by omega)]
  ·dsimp only;rw[y6d,n3];simp[wI]
def z4k:runC.ok Tryz.prog 205:=okw mixed (gokc yMz (gokc zTk (gokc zXn (gokc yEd gok0)))) 2 (λ_=>[]) (λ_=>y3m) [0] Tryz.func205 y5m
def yEi {L:List zI} {s id p q:Int} {o:zI} (h:o∈zWu L s id p q):o.price=p\/∃o'∈L,o.price=o'.price:=by
 have key:∀X:List zI,(o∈X.takeWhile (before s p)++⟨id,s,p,q,gX L s p⟩::X.dropWhile (before s p))->o.price=p\/o∈X:=by
  intro X hX;rcases y6y.1 hX with hX|hX
  ·exact .inr (List.takeWhile_sublist _|>.subset hX)
  ·rcases y6o.1 hX with rfl|hX
   ·exact .inl rfl
   ·exact .inr (List.dropWhile_sublist _|>.subset hX)
 rw[zWu]at h;split at h
 ·rcases key _ h with h|h
  ·exact .inl h
  ·obtain⟨o',ho',_,_,e,_⟩:=z7b h;exact .inr ⟨o',ho',e⟩
 ·rcases key _ h with h|h
  ·exact .inl h
  ·exact .inr ⟨o,h,rfl⟩
def BOk.add {p:Prd} {B:List (List zI)} (h:BOk p B) (inst id s price q:Int):BOk p (z2z p B inst id s price q).1:=by
 rw[z2z];split
 ·exact h
 split
 ·exact h
 split
 ·exact h
 split
 ·exact h
 rename_i c1 _ _ c4;have c4:p.price inst price=0:=by simpa using c4
 refine⟨h.pc,h.ps,by simpa using h.bl,λk L hL o ho=> ?_⟩;dsimp only at hL;rcases bX hL with⟨rfl,rfl⟩|⟨_,hL⟩
 ·obtain⟨L',hL'⟩:=yA (l:=B) (i:=inst.toNat) oM;rw[zT hL',zKu]at ho;have e:((inst.toNat:Nat):Int)=inst:=by omega
  repeat' split at ho
  ·exact h.pr _ L' hL' o ho
  ·exact h.pr _ L' hL' o ho
  ·exact h.pr _ L' hL' o ho
  ·rcases yEi ho with h1|⟨o',ho',h1⟩
   ·rw[h1,e];exact c4
   ·rw[h1];exact h.pr _ L' hL' o' ho'
 ·exact h.pr k L hL o ho
def BOk.new {p:Prd} (hc:p.check=0) (hp:p.small):BOk p (List.replicate p.count []):=by
 refine⟨hc,hp,by simp,λk L hL o ho=> ?_⟩;rw[xBl (y6e hL)]at ho;cases ho
def MSt.Rep.fit {s:MSt} {p:Prd} {B:List (List zI)} (h:s.Rep p B) (hb:BOk p B):s.fit:=by
 have:=xU p;refine⟨by rw[h.ep];exact hb.ps,by rw[h.bl,hb.bl];omega,λb hm=> ?_⟩;obtain⟨k,hk⟩:=y8l.1 hm;have hlt:=(y5x.1 hk).1;rw[h.bl]at hlt;obtain⟨L,hL⟩:=yA hlt;exact(h.bk k b L hk hL).fit
def zQp (r:Nat):Bool:=decide (32<=r) && decide (r≠127) && decide (r≠65533)
def fZ (s:List UInt8):Bool:=(kW s).all zQp && decide (1<=(kW s).length) && decide ((kW s).length<=12)
def labC:Con:=con1 (List UInt8) (λs=>[sV s]) (λ_=>[]) (λs=>s.length<=140737488355328) (λs=>yR (fZ s)) (λ_=>[])
def y3p (s:List UInt8):List SAnn:=[{ι:=Nat×Nat,slots:=λx=>[(3,zA x.2),(7,.nm 0 0)],rows:=λx=>[.iter (sb s) x.1]}]
def uJ (n:Int):Bool:=decide (-2000000<=n) && decide (n<=2000000)
def jF (n:Int):Bool:=decide (1<=n) && decide (n<=1000000)
def Cmd.orderE (c:Cmd):Int:=
 if c.side≠1/\c.side≠2 then 21 else if c.time<1\/3<c.time then 27 else if jF c.qty=false then 24 else if c.least<0\/c.qty<c.least then 28
 else if c.label≠[]/\fZ c.label=false then 29 else if uJ c.price=false then 23 else if c.inst<0\/255<c.inst then 20 else 0
def Cmd.right (c:Cmd):Int:=
 if c.kind<1\/4<c.kind then 31 else if c.id<1\/1099511627776<c.id then 1 else if c.kind=1 then c.orderE
 else if c.kind≠2/\jF c.qty=false then 24 else if c.kind=4/\uJ c.price=false then 23 else 0
def cmdOrdC:Con:=con1 Cmd (λc=>[zFr c]) (λ_=>[]) (λc=>c.label.length<=140737488355328) (λc=>zA c.orderE) (λ_=>[])
def cmdRtC:Con:=con1 Cmd (λc=>[zFr c]) (λ_=>[]) (λc=>c.label.length<=140737488355328) (λc=>zA c.right) (λ_=>[])
open Classical
def RB.byte (r:RB):Int×RB:=(kB (r.n 1).got,⟨(r.n 1).left,(r.n 1).bad⟩)
def RB.long (r:RB):Int×RB:=(IntKind.i64.wrap (kB (r.n 8).got),⟨(r.n 8).left,(r.n 8).bad⟩)
def RB.endOf (r:RB):Int:=if r.b then 10 else if 0<r.l.length then 15 else 0
@[reducible] def RdB (r:RB):AObj:=Rd r.l r.b
@[reducible] def RB.ok (i:RB):Prop:=i.l.length<=1099511627776
def RB.text (r:RB):List UInt8×RB:=((r.byte.2.n r.byte.1.toNat).got,⟨(r.byte.2.n r.byte.1.toNat).left,(r.byte.2.n r.byte.1.toNat).bad⟩)
def zJt (s:List UInt8):List UInt8:=lob (s.take 255).length::s.take 255
def Cmd.tail (c:Cmd):List UInt8:=
 if c.kind=1 then lob c.inst::lob c.side::lob c.time::(le c.price 8++(le c.qty 8++(le c.least 8++zJt c.label)))
 else if c.kind=3 then le c.qty 8 else if c.kind=4 then le c.price 8++le c.qty 8 else[]
def Cmd.enc (c:Cmd):List UInt8:=if c.right≠0 then[]else lob c.kind::(le c.id 8++c.tail)
def qH (k id:Int) (r:RB):Cmd×RB:=
 if k=1 then
  let a:=r.byte;let b:=a.2.byte;let t:=b.2.byte;let x:=t.2.long;let y:=x.2.long;let z:=y.2.long;let w:=z.2.text
  (⟨k,id,a.1,b.1,x.1,y.1,z.1,t.1,w.1⟩,w.2)
 else if k=3 then(⟨k,id,0,0,0,r.long.1,0,0,[]⟩,r.long.2)
 else if k=4 then(⟨k,id,0,0,r.long.1,r.long.2.long.1,0,0,[]⟩,r.long.2.long.2)
 else(⟨k,id,0,0,0,0,0,0,[]⟩,r)
def xO (b:List UInt8):Cmd×Int:=
 let k:=(RB.mk b false).byte
 if k.1<1\/4<k.1 then(zXl,31)else
 let x:=qH k.1 k.2.long.1 k.2.long.2
 if x.2.endOf≠0 then(zXl,12)else if x.1.right≠0 then(zXl,x.1.right)else(x.1,0)
def y2h (n:Int):((lob n).toNat:Int)=n % 256:=(zBg n).symm
def y2j {n:Int} (h:0<=n/\n<=255):((lob n).toNat:Int)=n:=by rw[y2h];omega
def z9f (s:List UInt8):∀(k p:Nat),s.length-p<=k->s.length-p<=4*(gC s p).length
 |0,p,h=>by rw[uN (by omega)];simp;omega
 |k+1,p,h=>by
  by_cases hp:p<s.length
  ·have hw:=bC s hp;have h4:(Utf8.decode (sb s) p).2<=4:=by
    unfold Utf8.decode;simp only[zLm,y6h,y7i]
    repeat' split
    all_goals simp
   rw[jX hp,y5y];have:=z9f s k (p+(Utf8.decode (sb s) p).2) oM;omega
  ·rw[uN (by omega)];simp;omega
def yCi {s:List UInt8} (h:s=[]\/fZ s=true):s.length<=48:=by
 obtain rfl|h:=h
 ·simp
 ·simp only[fZ,y6h,y7i]at h;have:=z9f s s.length 0 oM;rw[kW,y5u]at h;omega
def zTy {c:Cmd} (h:c.right=0):(1<=c.kind/\c.kind<=4)/\(1<=c.id/\c.id<=1099511627776)/\
 (c.kind≠2->1<=c.qty/\c.qty<=1000000)/\(c.kind=1\/c.kind=4->-2000000<=c.price/\c.price<=2000000)/\
 (c.kind=1->(c.side=1\/c.side=2)/\(1<=c.time/\c.time<=3)/\(0<=c.least/\c.least<=c.qty)/\(0<=c.inst/\c.inst<=255)/\c.label.length<=48):=by
 rw[Cmd.right]at h;split at h;·cases h
 split at h;·cases h
 rename_i h1 h2;refine⟨oM,oM,?_⟩;split at h
 ·rename_i hk;rw[Cmd.orderE]at h
  iterate 7 (split at h;·cases h)
  rename_i a1 a2 a3 a4 a5 a6 a7;simp only[jF,Bool.not_eq_false,y6h,y7i]at a3;simp only[uJ,Bool.not_eq_false,y6h,y7i]at a6;refine⟨λ_=>a3,λ_=>a6,λ_=>⟨oM,oM,oM,oM,yCi ?_⟩⟩;by_cases hl:c.label=[]
  ·exact .inl hl
  ·exact .inr (by simpa[hl]using a5)
 ·rename_i hk;split at h;·cases h
  split at h;·cases h
  rename_i a1 a2;refine⟨λh2=> ?_,λh2=> ?_,λh2=>absurd h2 hk⟩
  ·simpa[h2,jF]using a1
  ·simpa[show c.kind=4 by omega,uJ]using a2
end Sx
