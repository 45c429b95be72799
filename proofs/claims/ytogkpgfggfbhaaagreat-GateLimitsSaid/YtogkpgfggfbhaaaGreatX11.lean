/- Texts of ours, one behind the other: a walk that the kernel reckons, and contracts of functions. No condition. -/
import Derived.Maps.RangeRun
import Derived.Test.YtogkpgfggfbhaaaGreatX10
namespace Sx
set_option linter.unusedVariables false
set_option linter.unusedSimpArgs false
set_option maxRecDepth 100000
open Go Cv Go.Proofs
def upd (f:Int→Int) (k v:Int):Int→Int:=fun x=>if x=k then v else f x
def one (r:Rep) (m:Int):Int:=if r.kind=3∧r.inst=m then(if r.side=1 then r.qty else-r.qty)else 0
def vq (p:Prd) (k s q m:Int):Int:=
 if(p.legs k).2.2=true then(if(p.legs k).1=m then(if s=1 then q else-q)else 0)-(if(p.legs k).2.1=m then(if s=1 then q else-q)else 0)
 else if k=m then(if s=1 then q else-q)else 0
open Go Cv Go.Proofs
open Go Cv Go.Proofs
def pp:Prd:=vE 1
def BP (L:List zG):List (List zG):=[L,[],[],[],[],[]]
theorem z5o:pp.count=6:=by kernel_rfl
theorem z7e:List.replicate pp.count []=BP []:=by rw[z5o];rfl
theorem yAb (t:Top):x4 ⟨pp,[t,xO [],xO [],xO [],xO [],xO []],0⟩ 1=[]:=by kernel_rfl
theorem yAk (t:Top):x4 ⟨pp,[t,xO [],xO [],xO [],xO [],xO []],0⟩ 2=[]:=by kernel_rfl
theorem zDz (L:List zG):(BP L).map xO=[xO L,xO [],xO [],xO [],xO [],xO []]:=rfl
theorem yBz (t:Top):qS ⟨pp,[t,xO [],xO [],xO [],xO [],xO []],0⟩ 1=[]:=by kernel_rfl
theorem yAz (t:Top):qS ⟨pp,[t,xO [],xO [],xO [],xO [],xO []],0⟩ 2=[]:=by kernel_rfl
theorem yAl (L:List zG) {s:Int} (hs:s=1∨s=2):yH pp (BP L) 0 s=if(bestL L s).2=true then(⟨(bestL L s).1.price,(bestL L s).1.qty,⟨0,0⟩,⟨0,0⟩⟩,false,true)else((yP [] s).1,false,false):=by
 have e:qS ⟨pp,(BP L).map xO,0⟩ s=[]:=by
  rcases hs with rfl|rfl
  ·rw[zDz];exact yBz _
  ·rw[zDz];exact yAz _
 rw[yH,e]
 have e2:(yP [] s).2=false:=rfl
 have e3:(BP L).getD (0:Int).toNat []=L:=rfl
 rw[e2,e3]
 cases (bestL L s).2<;>rfl
theorem zRr {L:List zG} (sd:Bool) (h:(bestL L (zC (!sd))).2=false) (price q:Int):kG pp (BP L) 0 sd price q=⟨[],q,BP L⟩:=by
 have hs:gU pp (BP L) 0 sd price q=none:=by
  have hn:yH pp (BP L) 0 (zC (!sd))=((yP [] (zC (!sd))).1,false,false):=by rw[yAl L (m3 _),yOh (by rw[h];decide)]
  rw[gU,hn];rfl
 by_cases hq:q≤0
 ·exact dZ (.inl hq)
 ·exact dZ (.inr hs)
theorem z5s {L:List zG} (sd:Bool) (h:(bestL L (zC (!sd))).2=false) (price q:Int):uU pp (BP L) 0 sd price q=false:=by
 rw[uU,zRr sd h]
 have e:x4 ⟨pp,(BP L).map xO,0⟩ (zC (!sd))=[]:=by
  rcases m3 (!sd)with e|e
  ·rw[e,zDz];exact yAb _
  ·rw[e,zDz];exact yAk _
 dsimp only
 rw[e]
 simp
theorem zXj (L:List zG):tE (BP L)=L.length:=by
 rw[tE];simp[whL,BP]
theorem zDw (L:List zG) (id:Int):u0 (BP L) id=if xY L id=true then some 0 else none:=by
 have e:∀x:Int,xY [] x=false:=fun _=>rfl
 simp only[u0,BP,List.findIdx?_cons,e]
 cases xY L id<;>simp
open Go Cv Go.Proofs
theorem zJy:pp.price 0 5=0:=by decide+kernel
def yO (l:List (Int×Bool)):List zG:=l.map fun a=>⟨a.1,1,5,1,a.2⟩
theorem zIa (l:List (Int×Bool)):(bestL (yO l) 2).2=false:=by
 have:(yO l).filter (fun o=>decide (o.side=2))=[]:=by
  rw[yUb];intro o ho
  obtain⟨a,_,rfl⟩:=yPm.1 ho
  show ¬decide ((1:Int)=2)=true
  decide
 rw[bestL,zMo,this];rfl
theorem zGz (l:List (Int×Bool)):(yO l).map (·.id)=l.map (·.1):=by rw[yO,yQl];rfl
theorem zHg {l:List (Int×Bool)} {id:Int}:xY (yO l) id=decide (id∈l.map (·.1)):=by
 by_cases h:id∈l.map (·.1)
 ·rw[yPd h,hasId_iff,zGz];exact h
 ·rw[yPa h]
  by_cases c:xY (yO l) id=true
  ·rw[hasId_iff,zGz]at c;exact absurd c h
  ·simpa using c
theorem z4i (l:List (Int×Bool)) (id:Int):∃b,zDe (yO l) 1 id 5 1=yO (l++[(id,b)]):=by
 have hb:btr 1 5 5=false:=by simp[btr]
 have hall:∀o∈yO l,before 1 5 o=true:=by
  intro o ho
  obtain⟨a,_,rfl⟩:=yPm.1 ho
  simp[before,hb]
 cases l with
 |nil=>exact⟨jQ [] 1 5,by rw[zDe];rfl⟩
 |cons a l=>
  have hl:jQ (yO (a::l)) 1 5=false:=by
   rw[yO,yOs,jQ,List.all_cons]
   simp[hb]
  refine⟨false,?_⟩
  rw[zDe,hl]
  have h2:=zTb (f:=before 1 5) (A:=yO (a::l)) (B:=[]) hall (fun y hy=>by cases hy)
  rw[yPe]at h2
  rw[yOh (by decide),h2.1,h2.2]
  simp[yO]
def fJ (id:Int):Cmd:=⟨1,id,0,1,5,1,0,1,[]⟩
def cD (id:Int):Cmd:=⟨2,id,0,0,0,0,0,0,[]⟩
theorem mU {id:Int} (hid:1≤id∧id≤1099511627776):(fJ id).right=0:=by
 rw[fJ,Cmd.right];dsimp only
 rw[yOh (by omega),yOh (by omega),yOi rfl,Cmd.orderE]
 dsimp only
 rw[yOh (by omega),yOh (by omega),yOh (by decide),yOh (by omega),yOh (by simp),yOh (by decide),yOh (by omega)]
theorem tL {id:Int} (hid:1≤id∧id≤1099511627776):(cD id).right=0:=by
 rw[cD,Cmd.right];dsimp only
 rw[yOh (by omega),yOh (by omega),yOh (by omega),yOh (by simp),yOh (by simp)]
theorem zHf (l:List (Int×Bool)):(yO l).length=l.length:=yOm _
theorem z9w {l:List (Int×Bool)} {id:Int} (U:List Int) (hid:1≤id∧id≤1099511627776) (hi:id∉l.map (·.1)) (hU:id∉U) (hl:l.length<250):
 ∃b,doF pp (BP (yO l)) U (fJ id)=⟨BP (yO (l++[(id,b)])),zDh U id,[⟨1,id,0,1,5,1,1,0⟩]⟩:=by
 obtain⟨b,hb⟩:=z4i l id
 have hi:xY (yO l) id=false:=by rw[zHg,yPa hi]
 have e6:(BP (yO l)).length=6:=rfl
 have hw:(whL 0 (BP (yO l))).length=l.length:=by
  have:=zXj (yO l)
  rw[tE,zHf]at this;exact this
 have e3:(BP (yO l)).getD (0:Int).toNat []=yO l:=rfl
 have hin:u0 (BP (yO l)) id=none:=by rw[zDw,hi];rfl
 have ha:(zMg pp (BP (yO l)) 0 id 1 5 1).1=BP (yO (l++[(id,b)])):=by
  rw[zMg,e6,yOh (by omega),hin,yOh (show ¬(none:Option Nat).isSome=true by decide),hw,yOh (by omega),zJy,yOh (by decide),e3,zAh,yOh (by omega),hi,yOh (by decide),zHf,yOh (by omega),hb]
  rfl
 have hrun:=zRr (L:=yO l) false (zIa l) 5 1
 have hst:=z5s (L:=yO l) false (zIa l) 5 1
 have e:doF pp (BP (yO l)) U (fJ id)=dV pp (BP (yO l)) U (fJ id):=by
  rw[doF,yOh (by rw[mU hid];decide),yOi (show(fJ id).kind=1 from rfl),cR]
  rw[yOh (show ¬pp.price (fJ id).inst (fJ id).price≠0 from fun h=>h zJy),yOh (show ¬(fJ id).id∈U from hU),yOh (by rw[zXj,zHf];omega),yOh (by rintro⟨h,_⟩;have h:(0:Int)<0:=h;omega),yOh]
  rintro⟨_,h⟩
  have:uU pp (BP (yO l)) 0 false 5 1=true:=h
  rw[hst]at this;cases this
 have hr:kG pp (BP (yO l)) (fJ id).inst (decide ((fJ id).side=2)) (fJ id).price (fJ id).qty=⟨[],1,BP (yO l)⟩:=hrun
 refine⟨b,?_⟩
 rw[e,rN,hr,← ha]
 rfl
theorem zXp {id:Int}:∀{l:List (Int×Bool)},jE (yO l) id 1=yO (l.filter fun a=> !decide (a.1=id))
 |[]=>rfl
 |a::l=>by
  have ih:=zXp (id:=id) (l:=l)
  rw[jE]at ih
  have e:yO (a::l)=⟨a.1,1,5,1,a.2⟩::yO l:=rfl
  rw[jE,e,List.filterMap_cons,ih,yTl]
  by_cases c:a.1=id
  ·rw[yOi c];simp[c]
  ·rw[yOh c];simp[c];rfl
theorem yAe {l:List (Int×Bool)} {id:Int} (U:List Int) (hid:1≤id∧id≤1099511627776) (hi:id∈l.map (·.1)) (hn:(l.map (·.1)).Nodup):
 doF pp (BP (yO l)) U (cD id)=⟨BP (yO (l.filter fun a=> !decide (a.1=id))),U,[⟨4,id,0,1,5,1,0,0⟩]⟩:=by
 have h1:xY (yO l) id=true:=by rw[zHg,yPd hi]
 obtain⟨a,ha,rfl⟩:=yPm.1 hi
 have hm:(⟨a.1,1,5,1,a.2⟩:zG)∈yO l:=yPm.2 ⟨a,ha,rfl⟩
 have h2:uZ (yO l) a.1=⟨a.1,1,5,1,a.2⟩:=cK (by rw[zGz];exact hn) hm
 have e3:(BP (yO l)).getD 0 []=yO l:=rfl
 have hf:zQ (BP (yO l)) (cD a.1).id=(0,⟨a.1,1,5,1,a.2⟩,true):=by
  show zQ (BP (yO l)) a.1=_
  rw[zQ,zDw,yOi h1]
  dsimp only
  rw[e3,h2];rfl
 have ht:(xZ (BP (yO l)) a.1 1).1=BP (yO (l.filter fun x=> !decide (x.1=a.1))):=by
  rw[xZ,zDw,yOi h1]
  dsimp only
  rw[e3,xI,yOh (by rw[h1];decide),h2,yOh (by dsimp only;omega),zXp]
  rfl
 rw[doF,yOh (by rw[tL hid];decide),yOh (show ¬(cD a.1).kind=1 from fun h=>absurd (show(2:Int)=1 from h) (by decide)),hf]
 dsimp only
 rw[yOh (by decide),yOh (show ¬(cD a.1).kind=4 from fun h=>absurd (show(2:Int)=4 from h) (by decide)),yOi (.inl rfl),vN]
 exact congrArg (fun B=>(⟨B,U,_⟩:MkX)) ht
theorem z9g {l:List (Int×Bool)} {id:Int} (U:List Int) (hid:1≤id∧id≤1099511627776) (hi:id∉l.map (·.1)):
 doF pp (BP (yO l)) U (cD id)=⟨BP (yO l),U,[⟨2,id,0,0,0,0,0,26⟩]⟩:=by
 have h1:xY (yO l) id=false:=by rw[zHg,yPa hi]
 have hf:zQ (BP (yO l)) (cD id).id=(0,yCk,false):=by
  show zQ (BP (yO l)) id=_
  rw[zQ,zDw,h1];rfl
 rw[doF,yOh (by rw[tL hid];decide),yOh (show ¬(cD id).kind=1 from fun h=>absurd (show(2:Int)=1 from h) (by decide)),hf]
 rfl
open Go Cv Go.Proofs
def qU (W:List (Int×Int)) (id:Int):Int×Bool:=match W.find? fun x=>decide (x.1=id)with
 |some x=>(x.2,true)
 |none=>(0,false)
def l9:List (Int×Int)→Int→Int→List (Int×Int)
 |[],id,s=>[(id,s)]
 |x::W,id,s=>if id=x.1 then(x.1,s)::W else x::l9 W id s
theorem bR (x:Int×Int) (W:List (Int×Int)) (id:Int):qU (x::W) id=if id=x.1 then(x.2,true)else qU W id:=by
 rw[qU,yTx]
 by_cases c:id=x.1
 ·rw[yOi c,yPd c.symm]
 ·rw[yOh c,yPa (fun e=>c e.symm)];rfl
theorem zEe (id s x:Int):∀W:List (Int×Int),qU (l9 W id s) x=if x=id then(s,true)else qU W x
 |[]=>by
  rw[l9,bR]
 |a::W=>by
  rw[l9]
  by_cases c:id=a.1
  ·rw[yOi c,bR,bR]
   by_cases e:x=id
   ·rw[yOi e,yOi (e.trans c)]
   ·rw[yOh e,yOh (fun h=>e (h.trans c.symm)),yOh (fun h=>e (h.trans c.symm))]
  ·rw[yOh c,bR,bR,zEe id s x W]
   by_cases e:x=id
   ·rw[yOi e,yOh (fun h=>c (e.symm.trans h)),yOi e]
   ·rw[yOh e,yOh e]
structure GtX where
 B:List (List zG)
 U:List Int
 W:List (Int×Int)
 O:List (Int×Rep)
def z0m (B:List (List zG)) (U:List Int) (W:List (Int×Int)) (s id why:Int):GtX:=⟨B,U,W,[(s,⟨2,id,0,0,0,0,0,why⟩)]⟩
def dO (s:Int):List (Int×Int)→List Rep→List (Int×Int)×List (Int×Rep)
 |W,[]=>(W,[])
 |W,r::R=>
  let W1:=if r.kind=1 then l9 W r.id s else W
  ((dO s W1 R).1,(if r.kind=2 then s else(qU W1 r.id).1,r)::(dO s W1 R).2)
def fB (B:List (List zG)) (W:List (Int×Int)) (s:Int):Nat:=(whL 0 B).countP fun x=>decide ((qU W x.1).1=s)
def bY (p:Prd) (B:List (List zG)) (U:List Int) (W:List (Int×Int)) (s:Int) (c:Cmd):GtX:=
 if c.kind=1∧64≤fB B W s then z0m B U W s c.id 30
 else if c.kind≠1∧((qU W c.id).2=false∨(qU W c.id).1≠s)then z0m B U W s c.id 26
 else⟨(doF p B U c).B,(doF p B U c).U,(dO s W (doF p B U c).R).1,(dO s W (doF p B U c).R).2⟩
def dX (p:Prd) (B:List (List zG)) (U:List Int) (W:List (Int×Int)) (s:Int) (b:List UInt8):GtX:=
 if s<0∨8≤s then z0m B U W s 0 1 else if(y6 b).2≠0 then z0m B U W s 0 (y6 b).2 else bY p B U W s (y6 b).1
theorem zEp {p:Prd} {B:List (List zG)} {U:List Int} {W:List (Int×Int)} {s:Int} {c:Cmd} (hs:0≤s∧s<8) (h:c.right=0):dX p B U W s c.enc=bY p B U W s c.asks:=by
 rw[dX,yOh (by omega),yAh h,yOh (by simp)]
structure GL (n k:Nat) (l:List (Int×Bool)) (U:List Int) (W:List (Int×Int)):Prop where
 nd:(l.map (·.1)).Nodup
 own:∀a∈l,qU W a.1=(1,true)
 sub:∀a∈l,a.1∈U
 us:∀u∈U,(1000≤u∧u<1000+n)∨(5000≤u∧u<5000+k)
 old:∀u:Int,1000≤u∧u<1000+n→qU W u=(1,true)
 le:l.length≤64
theorem GL.open1 {n k:Nat} {l:List (Int×Bool)} {U:List Int} {W:List (Int×Int)} (h:GL n k l U W):fB (BP (yO l)) W 1=l.length:=by
 have e:whL 0 (BP (yO l))=l.map fun a=>(a.1,0):=by simp[whL,BP,yO,yQl]
 rw[fB,e,List.countP_map]
 rw[List.countP_eq_length.2,]
 intro a ha
 show decide ((qU W a.1).1=1)=true
 rw[h.own a ha];rfl
theorem GL.open0 {n k:Nat} {l:List (Int×Bool)} {U:List Int} {W:List (Int×Int)} (h:GL n k l U W):fB (BP (yO l)) W 0=0:=by
 have e:whL 0 (BP (yO l))=l.map fun a=>(a.1,0):=by simp[whL,BP,yO,yQl]
 rw[fB,e,List.countP_map,List.countP_eq_zero]
 intro a ha
 show ¬decide ((qU W a.1).1=0)=true
 rw[h.own a ha];decide
theorem GL.full {n k:Nat} {l:List (Int×Bool)} {U:List Int} {W:List (Int×Int)} (h:GL n k l U W) (hl:l.length=64) (id:Int):bY pp (BP (yO l)) U W 1 (fJ id)=z0m (BP (yO l)) U W 1 id 30:=by
 rw[bY,yOi ⟨rfl,by rw[h.open1,hl];omega⟩];rfl
theorem GL.room {n k:Nat} {l:List (Int×Bool)} {U:List Int} {W:List (Int×Int)} (h:GL n k l U W) (hl:l.length<64) {id:Int} (hid:1≤id∧id≤1099511627776) (hU:id∉U):
 ∃b,bY pp (BP (yO l)) U W 1 (fJ id)=⟨BP (yO (l++[(id,b)])),U++[id],l9 W id 1,[(1,⟨1,id,0,1,5,1,1,0⟩)]⟩:=by
 have hi:id∉l.map (·.1):=fun hm=>by
  obtain⟨a,ha,rfl⟩:=yPm.1 hm
  exact hU (h.sub a ha)
 obtain⟨b,hb⟩:=z9w U hid hi hU (by omega)
 refine⟨b,?_⟩
 rw[bY,yOh (by rintro⟨_,h2⟩;rw[h.open1]at h2;omega),yOh (by rintro⟨h2,_⟩;exact h2 rfl),hb,zDh,yOh hU]
 have e:(qU (l9 W id 1) id).1=1:=by rw[zEe,yOi rfl]
 simp[dO,e]
theorem GL.add {n k n' k':Nat} {l:List (Int×Bool)} {U:List Int} {W:List (Int×Int)} (h:GL n k l U W) (hl:l.length<64) {id:Int} {b:Bool} (hU:id∉U)
 (hs:(n'=n∧k'=k+1∧id=5000+k)∨(n'=n+1∧k'=k∧id=1000+n)):GL n' k' (l++[(id,b)]) (U++[id]) (l9 W id 1):=by
 have hi:id∉l.map (·.1):=fun hm=>by
  obtain⟨a,ha,rfl⟩:=yPm.1 hm
  exact hU (h.sub a ha)
 refine⟨?_,?_,?_,?_,?_,by rw[yOl,yRr];omega⟩
 ·rw[yOr,yTz,yQk]
  exact⟨h.nd,by simp,fun x hx y hy e=>by rw[yPu]at hy;subst hy;subst e;exact hi hx⟩
 ·intro a ha
  rw[zEe]
  split
  ·rfl
  ·rename_i hne
   rcases yPi.1 ha with ha|ha
   ·exact h.own a ha
   ·rw[yPu]at ha;subst ha;exact absurd rfl hne
 ·intro a ha
  rcases yPi.1 ha with ha|ha
  ·exact yPr _ (h.sub a ha)
  ·rw[yPu]at ha;subst ha;simp
 ·intro u hu
  rcases yPi.1 hu with hu|hu
  ·have:=h.us u hu;omega
  ·rw[yPu]at hu;subst hu;omega
 ·intro u hu
  rw[zEe]
  split
  ·rfl
  ·exact h.old u (by omega)
theorem GL.fresh {n k:Nat} {l:List (Int×Bool)} {U:List Int} {W:List (Int×Int)} (h:GL n k l U W) {id:Int} (hn:n≤64) (hs:id=5000+k∨id=1000+n):id∉U:=fun hu=>by
 have:=h.us id hu
 omega
theorem GL.later {n k:Nat} {l:List (Int×Bool)} {U:List Int} {W:List (Int×Int)} (h:GL n k l U W):GL n (k+1) l U W:=
 ⟨h.nd,h.own,h.sub,fun u hu=>by have:=h.us u hu;omega,h.old,h.le⟩
theorem GL.can {n k:Nat} {l:List (Int×Bool)} {U:List Int} {W:List (Int×Int)} (h:GL n k l U W) {id:Int} (hid:1000≤id∧id<1000+n) (hn:n≤64):
 (∃l',bY pp (BP (yO l)) U W 1 (cD id)=⟨BP (yO l'),U,W,[(1,⟨4,id,0,1,5,1,0,0⟩)]⟩∧l'.length+1=l.length∧GL n k l' U W)∨
 bY pp (BP (yO l)) U W 1 (cD id)=⟨BP (yO l),U,W,[(1,⟨2,id,0,0,0,0,0,26⟩)]⟩:=by
 have ho:=h.old id hid
 have e:bY pp (BP (yO l)) U W 1 (cD id)=⟨(doF pp (BP (yO l)) U (cD id)).B,(doF pp (BP (yO l)) U (cD id)).U,(dO 1 W (doF pp (BP (yO l)) U (cD id)).R).1,(dO 1 W (doF pp (BP (yO l)) U (cD id)).R).2⟩:=by
  rw[bY,yOh (by rintro⟨h2,_⟩;exact absurd (show(2:Int)=1 from h2) (by decide)),yOh]
  rintro⟨_,h2⟩
  have ho:qU W (cD id).id=(1,true):=ho
  rw[ho]at h2
  rcases h2 with h2|h2
  ·cases h2
  ·exact h2 rfl
 by_cases hm:id∈l.map (·.1)
 ·refine .inl ⟨l.filter fun a=> !decide (a.1=id),?_,?_,?_⟩
  ·rw[e,yAe U (by omega) hm h.nd]
   simp[dO,ho]
  ·have:∀{l:List (Int×Bool)},(l.map (·.1)).Nodup→id∈l.map (·.1)→(l.filter fun a=> !decide (a.1=id)).length+1=l.length:=by
    intro l hn hm
    induction l with
    |nil=>cases hm
    |cons a l ih=>
     rw[yOs,yQo]at hn
     by_cases ha:a.1=id
     ·have:l.filter (fun a=> !decide (a.1=id))=l:=by
       rw[ySu];intro x hx
       have:x.1≠id:=fun e=>hn.1 (by rw[ha,← e];exact yPf hx)
       simp[this]
      rw[yTl,yOh (by simp[ha]),this];rfl
     ·rw[yOs,yPb]at hm
      have:=ih hn.2 (by rcases hm with hm|hm;exact absurd hm.symm ha;exact hm)
      rw[yTl,yOi (by simp[ha]),yOw,yOw];omega
   exact this h.nd hm
  ·exact⟨h.nd.sublist (ySv.map _),fun a ha=>h.own a (yQe.1 ha).1,fun a ha=>h.sub a (yQe.1 ha).1,h.us,h.old,yQx (yRq _ _) h.le⟩
 ·right
  rw[e,z9g U (by omega) hm]
  simp[dO]
open Go Cv Go.Proofs
open Go Cv Go.Proofs
theorem zWn:∀{l m:List Nat},l.Nodup→(∀x∈l,x∈m)→l.length≤m.length
 |[],m,_,_=>yPv _
 |a::l,m,h,hs=>by
  rw[yQo]at h
  have ha:=hs a yOn
  have:=zWn (l:=l) (m:=m.erase a) h.2 fun x hx=>(List.mem_erase_of_ne (fun e=>h.1 (by rw[← e];exact hx))).2 (hs x (yOo _ hx))
  rw[List.length_erase_of_mem ha]at this
  have:=List.length_pos_of_mem ha
  rw[yOw];omega
structure Handed (ents:List MapEntry) (seen:Array Nat) (dn:List MapEntry):Prop where
 sn:seen.toList=dn.map (·.born)
 nd:(dn.map (·.born)).Nodup
 sub:∀e∈dn,e∈ents
theorem Handed.push {ents:List MapEntry} {seen:Array Nat} {dn:List MapEntry} (h:Handed ents seen dn) {e:MapEntry} (he:e∈(leftOf ents.toArray seen).toList):Handed ents (seen.push e.born) (dn++[e]):=by
 simp only[leftOf,Array.toList_filter,yQe,yTf]at he
 obtain⟨h1,h2⟩:=he
 have h3:e.born∉dn.map (·.born):=by
  rw[← h.sn]
  intro hm
  have:seen.contains e.born=true:=by
   rw[Array.contains_iff_mem];exact Array.mem_toList_iff.1 hm
  rw[this]at h2;cases h2
 refine⟨by rw[Array.toList_push,h.sn,yOr];rfl,?_,fun x hx=> ?_⟩
 ·rw[yOr,yTz,yQk]
  exact⟨h.nd,by simp,fun x hx y hy e=>by rw[yPu]at hy;subst hy;subst e;exact h3 hx⟩
 ·rcases yPi.1 hx with hx|hx
  ·exact h.sub x hx
  ·rw[yPu]at hx;subst hx;exact h1
theorem Handed.len {ents:List MapEntry} {seen:Array Nat} {dn:List MapEntry} (h:Handed ents seen dn):dn.length≤ents.length:=by
 have:=zWn (m:=ents.map (·.born)) h.nd fun x hx=>by
  obtain⟨e,he,rfl⟩:=yPm.1 hx
  exact yPf (f:=(·.born)) (h.sub e he)
 simpa using this
theorem Handed.all {ents:List MapEntry} {seen:Array Nat} {dn:List MapEntry} (h:Handed ents seen dn) (hn:(ents.map (·.born)).Nodup) (h0:(leftOf ents.toArray seen).size=0):dn.Perm ents:=by
 have inj:∀{l:List MapEntry},(l.map (·.born)).Nodup→∀x∈l,∀y∈l,x.born=y.born→x=y:=by
  intro l hl
  induction l with
  |nil=>intro x hx;cases hx
  |cons a l ih=>
   rw[yOs,yQo]at hl
   intro x hx y hy e
   rcases yPb.1 hx with e1|h1<;>rcases yPb.1 hy with e2|h2
   ·rw[e1,e2]
   ·refine absurd ?_ hl.1
    rw[← e1,e];exact yPf (f:=(·.born)) h2
   ·refine absurd ?_ hl.1
    rw[← e2,← e];exact yPf (f:=(·.born)) h1
   ·exact ih hl.2 x h1 y h2 e
 have nd:∀{l:List MapEntry},(l.map (·.born)).Nodup→l.Nodup:=fun hl=>List.Pairwise.imp (fun hne e=>hne (by rw[e])) (List.pairwise_map.1 hl)
 refine(List.perm_ext_iff_of_nodup (nd h.nd) (nd hn)).2 fun e=>⟨h.sub e,fun he=> ?_⟩
 have:seen.contains e.born=true:=by
  cases hc:seen.contains e.born with
  |true=>rfl
  |false=>
   have hm:e∈(leftOf ents.toArray seen).toList:=by
    simp only[leftOf,Array.toList_filter,yQe]
    exact⟨he,by rw[hc];rfl⟩
   have:(leftOf ents.toArray seen).toList=[]:=yPj (by simpa using h0)
   rw[this]at hm;cases hm
 rw[Array.contains_iff_mem]at this
 have:=Array.mem_toList_iff.2 this
 rw[h.sn]at this
 obtain⟨x,hx,e2⟩:=yPm.1 this
 rw[← inj hn x (h.sub x hx) e he e2];exact hx
def zVi (k:Ko) (LL:List HP) (ents:List MapEntry) (e:Ending) (w':World):Prop:=∃(a:Option Addr) (n c:Nat) (xs:List Value) (dn:List MapEntry),e=.returned (.slice a n c)∧xs=dn.map (·.key)∧n=dn.length∧dn.Perm ents∧Hp k w' (slO 2 1 a n c xs::LL)
def z5v (k:Ko) (LL:List HP) (ents:List MapEntry) (r bm ck:Nat) (v:Value) (w1:World):Prop:=∃(a:Option Addr) (n c:Nat) (xs:List Value) (seen:Array Nat) (c0:Nat) (dn:List MapEntry),v=.slice a n c∧xs=dn.map (·.key)∧n=dn.length∧ck≤c0∧Handed ents seen dn∧Hp k w1 (slO 2 1 a n c xs::pt r (.mapIter (some bm) ck seen c0)::LL)
def z2j (ents:List MapEntry) (v:Value) (_:World):Nat:=match v with| .slice _ n _=>ents.length-n|_=>0
theorem z1r {b bm ck:Nat} {ents:List MapEntry} {w:World} {k:Ko} {LL:List HP} {l:List Value} {T:TypeId}
 (H:Hp k w LL) (hat:∀w',Hp k w' LL→w'.heap[b]? =some (.cells l.toArray T)∧w'.heap[bm]? =some (.map ents.toArray ck)) (hl:l[12]? =some (.map (some bm)))
 (hck:∀e∈ents,e.born<ck) (hn:(ents.map (·.born)).Nodup) (hk:∀e∈ents,∃n,e.key= .int .i64 n) (hsz:ents.length≤1000000):
 Calls Tryz.prog 101 #[.pointer (some ⟨b,0,none⟩)] w (zVi k LL ents):=by
 refine calls_of_cwp (c:=Tryz.f101.body.getD .skip) (args:=[.pointer (some ⟨b,0,none⟩)]) mixed Tryz.func101 (by kernel_rfl) [{ι:=Value,chg:=fun v=>[(3,v)],fix:=[9]}] (by kernel_rfl) (by kernel_rfl) (by kernel_rfl) ?_
 obtain⟨h1,h2⟩:=hat w H
 have hu:Tryz.prog.underlying 105=some (.map 2 3):=by kernel_rfl
 refine⟨some bm,?_,some ⟨w.heap.size,0,none⟩,w.alloc (.mapIter (some bm) ck #[] ck),?_,?_⟩
 ·show m7 Tryz.prog 105 ⟨b,12,none⟩ w (.map (some bm))
  exact vT (by kernel_rfl) h1 hl
 ·show(Instr.range 105 (.map (some bm))).run Tryz.prog w=_
  exact run_range_map w _ _ _ bm _ ck hu h2
 refine⟨z5v k LL ents w.heap.size bm ck,z2j ents,⟨.slice none 0 0,rfl,none,0,0,[],#[],ck,[],rfl,rfl,rfl,yPp _,⟨rfl,List.nodup_nil,fun e he=>by cases he⟩,(H.new _).nil _ _⟩,?_⟩
 rintro j v w1 ⟨a,n,c,xs,seen,c0,dn,rfl,hxs,hnl,hc0,hh,H1⟩
 have hr:=H1.drop.get
 obtain⟨-,g2⟩:=hat w1 H1.drop.drop
 rcases run_next_at (P:=Tryz.prog) w1 0 w.heap.size bm ck c0 seen ents.toArray ck hr g2 (fun x hx=>hck x (by simpa using hx)) hc0 with⟨e1,e2⟩|⟨e,he,w2,hw2,hrun⟩
 ·refine .inl ⟨w1,e2,?_⟩
  show zVi k LL ents (.returned (.slice a n c)) w1
  exact⟨a,n,c,xs,dn,rfl,hxs,hnl,hh.all hn e1,(H1.swap).drop⟩
 ·have hmem:e∈ents:=by
   have:=he
   simp only[leftOf,Array.toList_filter,yQe]at this
   exact this.1
  obtain⟨m,hm⟩:=hk e hmem
  have hp:=hh.push he
  have H2:Hp k (World.setB w2 w.heap.size (.mapIter (some bm) ck (seen.push e.born) ck)) (slO 2 1 a n c xs::pt w.heap.size (.mapIter (some bm) ck (seen.push e.born) ck)::LL):=by
   have H1':Hp k w2 (slO 2 1 a n c xs::pt w.heap.size (.mapIter (some bm) ck seen c0)::LL):=by
    rcases hw2 with rfl|rfl
    ·exact H1
    ·exact H1.drew
   exact((H1'.swap).upd _).swap
  have hset:Go.ChangeMaps.setBlock w2 w.heap.size (.mapIter (some bm) ck (seen.push e.born) ck)=World.setB w2 w.heap.size (.mapIter (some bm) ck (seen.push e.born) ck):=rfl
  rw[hset]at hrun
  generalize hw3:World.setB w2 w.heap.size (.mapIter (some bm) ck (seen.push e.born) ck)=w3 at H2 hrun
  obtain⟨-,g3⟩:=hat w3 H2.drop.drop
  have hent:=run_entry_at (P:=Tryz.prog) w3 w.heap.size bm ck seen ents.toArray ck e H2.drop.get g3 (by simpa using hmem) (by simpa using hn)
  refine .inr ⟨e.key,e.val,w3,hrun,.tuple #[e.key,e.val],hent,?_⟩
  rw[hm]
  have hlen:=hp.len
  rw[yOl,yRr]at hlen
  refine Eq.mp (α:=zTi w3 (.cells #[.int .i64 m] 2) fun bb w4=>∃(a':Option Addr) (n' c':Nat),∃w5,vJ Tryz.prog (Builtin.append_ #[24,24] 24 #[.slice a n c,.slice (some ⟨bb,0,none⟩) 1 1]) w4 (.slice a' n' c') w5∧∃i',.slice a' n' c'=i'∧z5v k LL ents w.heap.size bm ck i' w5∧z2j ents i' w5<z2j ents (.slice a n c) w1) (by kernel_rfl) ?_
  rintro bb w4 hb hw4
  subst hb hw4
  have H3:=(H2.new (.cells [Value.int .i64 m].toArray 2)).lit (sz:=1) (n:=1) rfl
  obtain⟨a',c',w5,hap,H5⟩:=(H3.swap).append (P:=Tryz.prog) (t1:=24) (t2:=24) (rt:=24) (e:=2) (sz:=1) (by_:=8) (z:= #[.int .i64 0]) (by kernel_rfl) (by kernel_rfl) (x:= .slice (some ⟨w3.heap.size,0,none⟩) 1 1) (m:=1) (ys:=[.int .i64 m]) (.inl ⟨_,_,rfl,H3.satR⟩) (by simp[Value.oneC]) rfl (by decide) (by omega)
  refine⟨a',n+1,c',w5,hap,.slice a' (n+1) c',rfl,⟨a',n+1,c',_,_,ck,dn++[e],rfl,?_,?_,yPp _,hp,(H5.swap).drop⟩,?_⟩
  ·rw[hxs,yOr,yTz,hm]
  ·rw[yOl,hnl];rfl
  ·show ents.length-(n+1)<ents.length-n
   omega
theorem zYx {F:PH}:∀{l:List (Int×Int)} {ents:List MapEntry},MR F (yN l) ents→ents.map (·.key)=l.map (fun p=>Value.int .i64 p.1)
 |[],ents,h=>by
  have h:ents=[]:=h
  subst h;rfl
 |p::l,ents,h=>by
  obtain⟨m,ms,rfl,h1,-,h3⟩:=h
  rw[yOs,yOs,zYx (l:=l) h3,h1]
def zYn:Value→Int
 | .int _ n=>n
 |_=>0
theorem z0y {xs:List Value} {m:List Int} (h:xs.Perm (m.map fun n=>Value.int .i64 n)):∃l:List Int,xs=l.map (fun n=>Value.int .i64 n)∧l.Perm m:=by
 refine⟨xs.map zYn,?_,?_⟩
 ·rw[yQl]
  have:∀x∈xs,((fun n=>Value.int .i64 n)∘zYn) x=x:=by
   intro x hx
   obtain⟨n,_,rfl⟩:=yPm.1 (h.mem_iff.1 hx)
   rfl
  rw[yPl this,List.map_id']
 ·have:=h.map zYn
  rw[yQl]at this
  have e:(zYn∘fun n=>Value.int .i64 n)=id:=rfl
  rw[e,List.map_id]at this
  exact this
theorem zXk (F:PH):∀l:List Int,DRL F (iE l).flatten (l.map fun n=>Value.int .i64 n)
 |[]=>by simp[iE,DRL]
 |n::l=>by
  have ih:=zXk F l
  have e:(iE (n::l)).flatten= .v (.int .i64 n)::(iE l).flatten:=rfl
  rw[e,DRL]
  exact⟨.int .i64 n,_,rfl,by simp[DR,Value.oneC],ih⟩
def sids0C:Con where
 ι:=MSt
 pat:=fun _=>[.nm 0 0]
 pre:=fun s=>[zD s]
 cnd:=fun s=>s.wh.length≤1000000
 alts:=fun s=>[{o:=List Int,res:=fun _=> .own 1,post:=fun l=>[zD s,.own 2 1 (iE l)],rel:=fun l=>l.Perm (s.wh.map (·.1))}]
@[reducible] def zDc (s:MSt):St:=zDr [0] ⟨vB 0 (sids0C.pre s),(sids0C.pre s).length⟩
theorem z9h (s:MSt) (l:List Int) (hl:l.Perm (s.wh.map (·.1))):z9z 1 (.own 5) ((zDc s).new (.own 2 1 (iE l))) (sids0C.alts s):=by
 refine Eq.mp (α:=∃(o:List Int),sb s.p.code=sb s.p.code∧s.p.tick=s.p.tick∧s.p.low=s.p.low∧s.p.high=s.p.high∧s.p.wide=s.p.wide∧s.p.rule=s.p.rule∧s.p.top=s.p.top∧s.p.least=s.p.least∧s.p.part=s.p.part∧AObj.objs 184 Book 6 zP s.books none=AObj.objs 184 Book 6 zP s.books none∧yN s.wh=yN s.wh∧AObj.fro 1 (iE s.p.months)=AObj.fro 1 (iE s.p.months)∧AObj.fro 1 (iE s.p.settle)=AObj.fro 1 (iE s.p.settle)∧iE o=iE l∧o.Perm (s.wh.map (·.1))) (by kernel_rfl) ?_
 exact⟨l,rfl,rfl,rfl,rfl,rfl,rfl,rfl,rfl,rfl,rfl,rfl,rfl,rfl,rfl,hl⟩
theorem z5z:sids0C.ok Tryz.prog 101:=by
 intro s hc k L E w ys R hv
 have hc:s.wh.length≤1000000:=hc
 have hnx:=R.nx
 obtain⟨E1,hle,R1⟩:=sG [0] R
 have R1:Rel k L E1 (zDc s) w:=R1
 have hc0:(zDc s).get 0=some (.cells [sV s.p.code,.own 3,zA s.p.tick,zA s.p.low,zA s.p.high,zA s.p.wide,zA s.p.rule,zA s.p.top,zA s.p.least,zA s.p.part,.own 4,.own 1,.mp 2] 182):=rfl
 have hc2:((zDc s).del 0).get 2=some (.map (yN s.wh)):=rfl
 have Ra:=(R1.take hc0).take hc2
 have H0:Hp k w (rHP E1 (2,.map (yN s.wh))::rHP E1 (0,.cells [sV s.p.code,.own 3,zA s.p.tick,zA s.p.low,zA s.p.high,zA s.p.wide,zA s.p.rule,zA s.p.top,zA s.p.least,zA s.p.part,.own 4,.own 1,.mp 2] 182)::((((zDc s).del 0).del 2).rows.map (rHP E1)++fz E1.F::L)):=
  Ra.out.perm (.cons _ (((List.Perm.swap _ _ _).append_left _).trans yOu))
 generalize hrest:(((zDc s).del 0).del 2).rows.map (rHP E1)++fz E1.F::L=rest at H0
 obtain⟨hk,hs,hh⟩:=H0
 cases hh with
 |cons ha hsub hdj hr=>
 cases hr with
 |cons ha0 hsub0 hdj0 hr0=>
 rcases ha with⟨e,_⟩|⟨hd2,t2,r2⟩
 ·cases e
 rcases ha0 with⟨e,_⟩|⟨hd0,t0,r0⟩
 ·cases e
 simp only[rowHP]at r2 r0
 obtain⟨bm,ents,ck,q1,q2,q3,rfl⟩:=r2
 obtain⟨b,l,p1,p2,rfl⟩:=r0
 have H:Hp k w (pt bm (.map ents.toArray ck)::pt b (.cells l.toArray 182)::rest):=⟨hk,_,.cons rfl hsub hdj (.cons rfl hsub0 hdj0 hr0)⟩
 have hl12:l[12]? =some (.map (some bm)):=by
  simp only[VRL,VR]at p2
  obtain⟨_,_,rfl,-,_,_,rfl,-,_,_,rfl,-,_,_,rfl,-,_,_,rfl,-,_,_,rfl,-,_,_,rfl,-,_,_,rfl,-,_,_,rfl,-,_,_,rfl,-,_,_,rfl,-,_,_,rfl,-,y,_,rfl,⟨bb,sub,g1,rfl⟩,rfl⟩:=p2
  rw[t2]at g1
  cases g1
  cases q1
  rfl
 have hys:ys=[.pointer (some ⟨b,0,none⟩)]:=by
  simp only[sids0C,VRL,VR]at hv
  obtain⟨y,_,rfl,⟨b',oo,sub,g1,rfl⟩,rfl⟩:=hv
  rw[hle.get g1]at t0
  cases t0
  cases p1
  rfl
 subst hys
 have hkeys:=zYx q2
 have hlen:ents.length=s.wh.length:=by simpa using congrArg List.length hkeys
 have hcall:=z1r H (fun w' H'=>⟨(H'.swap).get,H'.get⟩) hl12 q3.2 q3.1 (fun e he=>by
  have:e.key∈ents.map (·.key):=yPf (f:=(·.key)) he
  rw[hkeys]at this
  obtain⟨p,_,hp⟩:=yPm.1 this
  exact⟨p.1,hp.symm⟩) (by omega)
 have hdo:=mS (P:=Tryz.prog) (f:=101) (args:= #[.pointer (some ⟨b,0,none⟩)]) (w:=w) (K:=fun v w'=>zVi k (pt bm (.map ents.toArray ck)::pt b (.cells l.toArray 182)::rest) ents (.returned v) w') (by kernel_rfl) (hcall.mono fun e w' h=>by
  have h2:=h
  obtain⟨a,n,c,xs,dn,rfl,-⟩:=h2
  exact⟨_,rfl,h⟩)
 refine hdo.mono ?_
 rintro v w' ⟨a,n,c,xs,dn,hv',rfl,rfl,hperm,H2⟩
 cases hv'
 obtain⟨li,e1,e2⟩:=z0y (xs:=dn.map (·.key)) (m:=s.wh.map (·.1)) (by
  have:=hperm.map (·.key)
  rw[hkeys]at this
  rwa [yQl])
 have elen:dn.length=li.length:=by simpa using congrArg List.length e1
 rw[e1,elen]at H2
 rw[elen]
 have H3:Hp k w' (slO 2 1 a li.length c (li.map fun n=>Value.int .i64 n)::((zDc s).rows.map (rHP E1)++fz E1.F::L)):=by
  have h1:Hp k w' (rHP E1 (2,.map (yN s.wh))::rHP E1 (0,.cells [sV s.p.code,.own 3,zA s.p.tick,zA s.p.low,zA s.p.high,zA s.p.wide,zA s.p.rule,zA s.p.top,zA s.p.least,zA s.p.part,.own 4,.own 1,.mp 2] 182)::slO 2 1 a li.length c (li.map fun n=>Value.int .i64 n)::rest):=by
   have g0:Hp k w' (pt bm (.map ents.toArray ck)::pt b (.cells l.toArray 182)::slO 2 1 a li.length c (li.map fun n=>Value.int .i64 n)::rest):=
    H2.perm ((List.Perm.swap _ _ _).trans (.cons _ (.swap _ _ _)))
   have g1:=g0.imp (B:=rHP E1 (2,.map (yN s.wh))) fun x hx=> .inr ⟨hd2,t2,by simp only[rowHP];exact⟨bm,ents,ck,q1,q2,q3,hx⟩⟩
   have g2:=(g1.swap).imp (B:=rHP E1 (0,.cells [sV s.p.code,.own 3,zA s.p.tick,zA s.p.low,zA s.p.high,zA s.p.wide,zA s.p.rule,zA s.p.top,zA s.p.least,zA s.p.part,.own 4,.own 1,.mp 2] 182)) fun x hx=> .inr ⟨hd0,t0,by simp only[rowHP];exact⟨b,l,p1,p2,hx⟩⟩
   exact g2.swap
  subst hrest
  refine h1.perm ?_
  have p0:=((jJ hc0).1.map (rHP E1))
  have p2:=((jJ hc2).1.map (rHP E1))
  have p3:=(p0.trans (p2.cons _)).append_right (fz E1.F::L)
  refine List.Perm.trans ?_ (p3.symm.cons _)
  exact(List.Perm.swap _ _ _).trans ((List.Perm.cons _ (.swap _ _ _)).trans (.swap _ _ _))
 have hle2:E1.le ⟨E1.F,E1.tab++[((.slice a li.length c,[]):Hd)]⟩:=Ev.le.app _
 have hget:(E1.tab++[((.slice a li.length c,[]):Hd)])[(zDc s).nx]? =some (.slice a li.length c,[]):=by rw[← R1.nx];simp
 have R2:Rel k L ⟨E1.F,E1.tab++[((.slice a li.length c,[]):Hd)]⟩ ((zDc s).new (.own 2 1 (iE li))) w':=by
  refine⟨by simp[St.new,R1.nx],?_⟩
  have g1:Hp k w' ((zDc s).rows.map (rHP E1)++(slO 2 1 a li.length c (li.map fun n=>Value.int .i64 n)::fz E1.F::L)):=H3.perm (yOu (l₁:=(zDc s).rows.map (rHP E1))).symm
  have g2:=kK (fun r x=>rHP.mono hle2 r) g1
  have g3:Hp k w' (slO 2 1 a li.length c (li.map fun n=>Value.int .i64 n)::((zDc s).rows.map (rHP ⟨E1.F,E1.tab++[((.slice a li.length c,[]):Hd)]⟩)++fz E1.F::L)):=g2.perm yOu
  exact g3.imp fun x hx=> .inr ⟨_,hget,by
   simp only[rowHP]
   exact⟨a,c,_,by rw[y3],zXk _ li,fun el hel=>by obtain⟨n,_,rfl⟩:=yPm.1 hel;rfl,by rw[y3];exact hx⟩⟩
 obtain⟨al,ha,hend⟩:=lM (z9h s li e2)
 obtain⟨o,o1,E3,o2,o3,o4⟩:=zOp hend hnx (hle.trans hle2) R2 (y:= .slice a li.length c) (by simp only[VR];exact⟨_,hget,_,_,_,rfl⟩)
 exact⟨al,ha,o,o1,E3,o2,o3,o4⟩
open Go Cv Go.Proofs
structure MkB where
 m:Mkt
 p:Prd
 B:List (List zG)
 U:List Int
@[reducible] def MkB.ok (i:MkB):Prop:=i.m.Rep i.p i.B i.U∧BOk i.p i.B
def midsC:Con where
 ι:=MkB
 pat:=fun _=>[.nm 0 0]
 pre:=fun i=>[kZ i.m]
 cnd:=fun i=>i.ok
 alts:=fun i=>[{o:=List Int,res:=fun _=> .own 1,post:=fun l=>[kZ i.m,.own 2 1 (iE l)],rel:=fun l=>l.Perm ((whL 0 i.B).map (·.1))}]
structure Gt where
 m:Mkt
 W:List (Int×Int)
def xH (W:List (Int×Int)):List (Value×List D):=W.map fun x=>(.int .i64 x.1,[.v (.int .i64 x.2)])
def GtU (g:Gt):Nat→AObj
 |0=> .cells [.nm 1 0,.mp 2] 107
 |1=>kZ g.m
 |2=> .map (xH g.W)
 |_=> .gone
def GtR (g:Gt):AObj:= .adt Gt 3 GtU g
def uI (o:Int×Rep):List D:= .v (.int .i64 o.1)::xB o.2
@[reducible] def zUj:Nat:=42
@[reducible] def yGf (O:List (Int×Rep)):AObj:= .own zUj 9 (O.map uI)
def newGC:Con where
 ι:=Prd
 pat:=fun p=>[sO p]
 pre:=fun _=>[]
 cnd:=fun p=>p.small
 alts:=fun p=>[{o:=Unit,res:=fun _=> .tup [.nm 0 0,zA 0],post:=fun _=>[GtR ⟨⟨p,gY p,[]⟩,[]⟩],rel:=fun _=>p.check=0},{o:=Unit,res:=fun _=> .tup [.d (.v (.pointer none)),zA p.check],post:=fun _=>[],rel:=fun _=>p.check≠0}]
structure GrI where
 s:Int
 id:Int
 why:Int
def grejC:Con:=con1 GrI (fun i=>[zA i.s,zA i.id,zA i.why]) (fun _=>[]) (fun _=>True) (fun _=> .own 0) (fun i=>[yGf [(i.s,⟨2,i.id,0,0,0,0,0,i.why⟩)]])
structure SbI where
 s:Int
 b:List UInt8
def yD (s:Int) (b:List UInt8):Cmd×Int:=if s<0∨8≤s then(zLw,1)else y6 b
def greadC:Con:=con1 SbI (fun i=>[zA i.s,roV 1 (bE i.b)]) (fun _=>[]) (fun i=>i.b.length≤1099511627776) (fun i=> .tup [zDg (yD i.s i.b).1,zA (yD i.s i.b).2]) (fun _=>[])
structure GtI where
 g:Gt
 p:Prd
 B:List (List zG)
 U:List Int
 s:Int
@[reducible] def GtI.ok (i:GtI):Prop:=i.g.m.Rep i.p i.B i.U∧BOk i.p i.B
def gopenC:Con:=con1 GtI (fun i=>[.nm 0 0,zA i.s]) (fun i=>[GtR i.g]) (fun i=>i.ok) (fun i=>zA (fB i.B i.g.W i.s)) (fun i=>[GtR i.g])
def GtO (g:Gt):List AObj:=[.cells [.nm 1 0,.mp 2] 107,kZ g.m,.map (xH g.W)]
def gopenOC:Con:=con1 GtI (fun i=>[.nm 0 0,zA i.s]) (fun i=>GtO i.g) (fun i=>i.ok) (fun i=>zA (fB i.B i.g.W i.s)) (fun i=>GtO i.g)
def z6h:List SAnn:=[{ι:=Int×Nat,slots:=fun j=>[(5,zA j.1),(14,zA j.2)],rows:=fun _=>[]}]
def gownerC:Con:=con1 GtI (fun i=>[.nm 0 0,zA i.s]) (fun i=>[GtR i.g]) (fun _=>True) (fun i=> .tup [zA (qU i.g.W i.s).1,yJ (qU i.g.W i.s).2]) (fun i=>[GtR i.g])
structure GdI where
 g:Gt
 p:Prd
 B:List (List zG)
 U:List Int
 s:Int
 b:List UInt8
 X:GtX
def gdoC:Con where
 ι:=GdI
 pat:=fun i=>[.nm 0 0,zA i.s,roV 1 (bE i.b)]
 pre:=fun i=>[GtR i.g]
 cnd:=fun i=>(i.g.m.Rep i.p i.B i.U∧BOk i.p i.B)∧i.b.length≤1099511627776∧i.X=dX i.p i.B i.U i.g.W i.s i.b
 alts:=fun i=>[{o:=Mkt,res:=fun _=> .own 1,post:=fun o=>[GtR ⟨o,i.X.W⟩,yGf i.X.O],rel:=fun o=>o.Rep i.p i.X.B i.X.U}]
structure GdJ where
 o:Mkt
 W:List (Int×Int)
 O:List (Int×Rep)
 k:Nat
def GdJ.rows (j:GdJ):List AObj:=[.cells [.nm 1 0,.mp 2] 107,kZ j.o,.map (xH j.W),yGf j.O]
def yNp:List SAnn:=[{ι:=GdJ,slots:=fun j=>[(0,.nm 0 0),(11,.own 3),(74,zA j.k)],rows:=GdJ.rows}]
def yMp:List (Nat×SAnn):=[(20,bj 36),(28,bj 50),(66,ij 14)]
open Go Cv Go.Proofs
def yKq (i:MkB):Prop:=
 ∃(i_1:MSt),zD i_1=zD i.m.s∧i_1.wh.length≤1000000∧∀(o:List Int),o.Perm (List.map (fun(x:Int×Int) ↦ x.fst) i_1.wh)→∃(o_1:List Int),sb i.m.p.code=sb i.m.p.code∧i.m.p.tick=i.m.p.tick∧i.m.p.low=i.m.p.low∧i.m.p.high=i.m.p.high∧i.m.p.wide=i.m.p.wide∧i.m.p.rule=i.m.p.rule∧i.m.p.top=i.m.p.top∧i.m.p.least=i.m.p.least∧i.m.p.part=i.m.p.part∧zD i.m.s=zD i_1∧zY i.m.used=zY i.m.used∧AObj.fro 1 (iE i.m.p.months)=AObj.fro 1 (iE i.m.p.months)∧AObj.fro 1 (iE i.m.p.settle)=AObj.fro 1 (iE i.m.p.settle)∧iE o_1=iE o∧o_1.Perm (List.map (fun(x:Int×Int) ↦ x.fst) (whL 0 i.B))
def yJz (p:Prd):Prop:=
 ∃(i:Prd),sb i.code=sb p.code∧iE i.months=iE p.months∧i.tick=p.tick∧i.low=p.low∧i.high=p.high∧i.wide=p.wide∧i.rule=p.rule∧i.top=p.top∧i.least=p.least∧i.part=p.part∧iE i.settle=iE p.settle∧(i.code.length≤1099511627776∧i.months.length≤1099511627776∧i.settle.length≤1099511627776)∧(∀(o:Unit),i.check=0→(∃(o:Unit),(0:Int)=(0:Int)∧AObj.adt Mkt 5 yM (Mkt.mk p (gY p) [])=AObj.adt Mkt 5 yM (Mkt.mk i (gY i) [])∧xH []=[]∧p.check=0)∨∃(o:Unit),False)∧∀(o:Unit),i.check≠0→cnd (i.check !=0) ((∃(o:Unit),False)∨∃(o:Unit),True∧p.check=i.check∧(p.check=0→False)) ((∃(o:Unit),(0:Int)=(0:Int)∧False)∨∃(o:Unit),False)
def yJv (i:GrI):Prop:=
 ∃(o:Unit),[uI (i.s,Rep.mk 2 i.id 0 0 0 0 0 i.why)]=[[D.v (.int .i64 i.s),D.v (.int .i64 2),D.v (.int .i64 i.id),D.v (.int .i64 0),D.v (.int .i64 0),D.v (.int .i64 0),D.v (.int .i64 0),D.v (.int .i64 0),D.v (.int .i64 i.why)]]∧True
def yJh (i:SbI):Prop:=
 cnd (decide (i.s<0)) (∃(o:Unit),(yD i.s i.b).fst.kind=0∧(yD i.s i.b).fst.id=0∧(yD i.s i.b).fst.inst=0∧(yD i.s i.b).fst.side=0∧(yD i.s i.b).fst.price=0∧(yD i.s i.b).fst.qty=0∧(yD i.s i.b).fst.least=0∧(yD i.s i.b).fst.time=0∧sb (yD i.s i.b).fst.label=ByteArray.mk #[]∧(yD i.s i.b).snd=1∧True) (cnd (decide (i.s≥8)) (∃(o:Unit),(yD i.s i.b).fst.kind=0∧(yD i.s i.b).fst.id=0∧(yD i.s i.b).fst.inst=0∧(yD i.s i.b).fst.side=0∧(yD i.s i.b).fst.price=0∧(yD i.s i.b).fst.qty=0∧(yD i.s i.b).fst.least=0∧(yD i.s i.b).fst.time=0∧sb (yD i.s i.b).fst.label=ByteArray.mk #[]∧(yD i.s i.b).snd=1∧True) (∃(i_1:List UInt8),bE i_1=bE i.b∧i_1.length≤1099511627776∧∀(o:Unit),True→∃(o:Unit),(yD i.s i.b).fst.kind=(y6 i_1).fst.kind∧(yD i.s i.b).fst.id=(y6 i_1).fst.id∧(yD i.s i.b).fst.inst=(y6 i_1).fst.inst∧(yD i.s i.b).fst.side=(y6 i_1).fst.side∧(yD i.s i.b).fst.price=(y6 i_1).fst.price∧(yD i.s i.b).fst.qty=(y6 i_1).fst.qty∧(yD i.s i.b).fst.least=(y6 i_1).fst.least∧(yD i.s i.b).fst.time=(y6 i_1).fst.time∧sb (yD i.s i.b).fst.label=sb (y6 i_1).fst.label∧(yD i.s i.b).snd=(y6 i_1).snd∧True))
def zAv (a:Int×Nat) (b:Int×Nat) (c:Int×Nat→Prop) (d:Int×Nat→Nat) (e:MkB) (f:List Int) (g:GtI):Prop:=(↑a.snd:Int)=IntKind.i64.wrap ((↑b.snd:Int)+1)∧c a∧d a<d b∧kZ e.m=kZ e.m∧AObj.own 2 1 (iE f)=AObj.own 2 1 (iE f)∧Sx.AObj.cells (jD (qC 0 1 3) [V.nm 1 0,V.mp 2]) (107:TypeId)=Sx.AObj.cells (jD (qC 0 1 3) [V.nm 1 0,V.mp 2]) (107:TypeId)∧Sx.AObj.map (xH g.g.W)=Sx.AObj.map (xH g.g.W)
def z4f (i:GtI):Prop:=
 ∃(a:MkB),kZ a.m=kZ i.g.m∧(a.m.Rep a.p a.B a.U∧BOk a.p a.B)∧∀(b:List Int),b.Perm (List.map (fun(x:Int×Int) ↦ x.fst) (whL 0 a.B))→∃(c:Int×Nat),c.fst=0∧(↑c.snd:Int)=0∧∃(d:Int×Nat→Prop),∃(e:Int×Nat→Nat),d c∧∀(f:Int×Nat),d f→cnd (decide ((↑f.snd:Int)<(↑(iE b).length:Int))) ((0≤(↑f.snd:Int)∧(↑f.snd:Int)<(↑(iE b).length:Int))∧∃(g:Int),zE (iE b) (↑f.snd:Int).toNat 0 1=some [dI g]∧(∀(h:Value×List D),h∈xH i.g.W→like (Value.int IntKind.i64 g) h.fst=true)∧∃(h:Bool),∃(j:Int),(x5 (Value.int IntKind.i64 g) (xH i.g.W)=some [dI j]∧h=true∨x5 (Value.int IntKind.i64 g) (xH i.g.W)=none∧[dI j]=[dI 0]∧h=false)∧cnd (j==i.s) (∃(k:Int×Nat),k.fst=IntKind.i64.wrap (f.fst+1)∧zAv k f d e a b i) (∃(k:Int×Nat),k.fst=f.fst∧zAv k f d e a b i)) (∃(g:Unit),(↑(fB i.B i.g.W i.s):Int)=f.fst∧kZ i.g.m=kZ a.m∧xH i.g.W=xH i.g.W∧True)
def yAn (i:GtI):Prop:=
 ∃(i_1:MkB),AObj.adt Mkt 5 yM i_1.m=kZ i.g.m∧(i_1.m.Rep i_1.p i_1.B i_1.U∧BOk i_1.p i_1.B)∧∀(o:List Int),o.Perm (List.map (fun(x:Int×Int) ↦ x.fst) (whL 0 i_1.B))→∃(i0:Int×Nat),i0.fst=0∧(↑i0.snd:Int)=0∧∃(I:Int×Nat→Prop),∃(μ:Int×Nat→Nat),I i0∧∀(i_2:Int×Nat),I i_2→cnd (decide ((↑i_2.snd:Int)<(↑(iE o).length:Int))) ((0≤(↑i_2.snd:Int)∧(↑i_2.snd:Int)<(↑(iE o).length:Int))∧∃(n:Int),zE (iE o) (↑i_2.snd:Int).toNat 0 1=some [D.v (.int .i64 n)]∧(∀(p:Value×List D),p∈xH i.g.W→like (Value.int IntKind.i64 n) p.fst=true)∧∃(b:Bool),∃(n_1:Int),(x5 (Value.int IntKind.i64 n) (xH i.g.W)=some [D.v (.int .i64 n_1)]∧b=true∨x5 (Value.int IntKind.i64 n) (xH i.g.W)=none∧[D.v (.int .i64 n_1)]=[D.v (.int .i64 0)]∧b=false)∧cnd (n_1==i.s) (∃(i':Int×Nat),i'.fst=IntKind.i64.wrap (i_2.fst+1)∧(↑i'.snd:Int)=IntKind.i64.wrap ((↑i_2.snd:Int)+1)∧I i'∧μ i'<μ i_2∧AObj.adt Mkt 5 yM i_1.m=AObj.adt Mkt 5 yM i_1.m∧AObj.own 2 1 (iE o)=AObj.own 2 1 (iE o)∧Sx.AObj.cells [V.nm 1 0,V.mp 2] (107:TypeId)=Sx.AObj.cells [V.nm 1 0,V.mp 2] (107:TypeId)∧Sx.AObj.map (xH i.g.W)=Sx.AObj.map (xH i.g.W)) (∃(i':Int×Nat),i'.fst=i_2.fst∧(↑i'.snd:Int)=IntKind.i64.wrap ((↑i_2.snd:Int)+1)∧I i'∧μ i'<μ i_2∧AObj.adt Mkt 5 yM i_1.m=AObj.adt Mkt 5 yM i_1.m∧AObj.own 2 1 (iE o)=AObj.own 2 1 (iE o)∧Sx.AObj.cells [V.nm 1 0,V.mp 2] (107:TypeId)=Sx.AObj.cells [V.nm 1 0,V.mp 2] (107:TypeId)∧Sx.AObj.map (xH i.g.W)=Sx.AObj.map (xH i.g.W))) (∃(o:Unit),(↑(fB i.B i.g.W i.s):Int)=i_2.fst∧AObj.adt Mkt 5 yM i.g.m=AObj.adt Mkt 5 yM i_1.m∧xH i.g.W=xH i.g.W∧True)
def yBb (i:GtI):Prop:=
 (∀(p:Value×List D),p∈xH i.g.W→like (Value.int IntKind.i64 i.s) p.fst=true)∧∃(b:Bool),∃(n:Int),(x5 (Value.int IntKind.i64 i.s) (xH i.g.W)=some [D.v (.int .i64 n)]∧b=true∨x5 (Value.int IntKind.i64 i.s) (xH i.g.W)=none∧[D.v (.int .i64 n)]=[D.v (.int .i64 0)]∧b=false)∧∃(o:Unit),(qU i.g.W i.s).fst=n∧(qU i.g.W i.s).snd=b∧AObj.adt Mkt 5 yM i.g.m=AObj.adt Mkt 5 yM i.g.m∧xH i.g.W=xH i.g.W∧True
def nR:=(1+((3:Nat)-(1:Nat))+((0:Nat)-(0:Nat))+(1:Nat)+(0:Nat)+0+((2:Nat)-(1:Nat))+1)
def pG (a:Int) (b:GdI) (c:GdJ):=(wL (Value.int IntKind.i64 a) [dI b.s] (xH c.W))
def dF (a:SbI):=(D.v (Value.string (sb (yD a.s a.b).fst.label)))
def fX (a:SbI):=(dI ((yD a.s a.b).fst.price))
def dE (a:SbI):=(dI ((yD a.s a.b).fst.least))
def dQ (a:SbI):=(dI ((yD a.s a.b).fst.time))
def f9 (a:SbI):=(dI ((yD a.s a.b).fst.side))
def dB (a:SbI):=(dI ((yD a.s a.b).fst.kind))
def fZ (a:SbI):=(dI ((yD a.s a.b).fst.inst))
def dM (a:SbI):=(dI ((yD a.s a.b).fst.qty))
def f8 (a:SbI):=(dI ((yD a.s a.b).fst.id))
def zOh (a:EnI) (b:SbI):Prop:=AObj.own tRp 8 (List.map xB a.X.R)=AObj.own tRp 8 (List.map xB a.X.R)∧Sx.AObj.cells [V.d (dB b),V.d (f8 b),V.d (fZ b),V.d (f9 b),V.d (fX b),V.d (dM b),V.d (dE b),V.d (dQ b),V.d (dF b)] 36=Sx.AObj.cells [V.d (dB b),V.d (f8 b),V.d (fZ b),V.d (f9 b),V.d (fX b),V.d (dM b),V.d (dE b),V.d (dQ b),V.d (dF b)] 36
def zMk (a:GdJ) (b:EnI) (c:SbI):Prop:=AObj.own zUj 9 (List.map uI a.O)=AObj.own zUj 9 (List.map uI a.O)∧zOh b c
def zNe (a:Int→Prop) (b:Int) (c:Int) (d:Int) (e:Int) (f:Int) (g:Int) (h:Int) (j:Int) (k:Int) (l:GdJ) (m:GdJ) (n:GdI) (p:EnI) (q:SbI):Prop:=a b∧Sx.AObj.cells [V.d (dI c),V.d (dI d),V.d (dI e),V.d (dI f),V.d (dI g),V.d (dI h),V.d (dI j),V.d (dI k)] 40=Sx.AObj.cells [V.d (dI c),V.d (dI d),V.d (dI e),V.d (dI f),V.d (dI g),V.d (dI h),V.d (dI j),V.d (dI k)] 40∧Sx.AObj.cells (jD (dU nR [((2:Nat),1+nat_lit 1),((1:Nat),1+nat_lit 0),((3:Nat),1+((3:Nat)-(1:Nat))+((0:Nat)-(0:Nat))+(1:Nat)+(0:Nat)+0+((2:Nat)-(1:Nat))),((0:Nat),(0:Nat))] 0 l.rows) [V.nm 1 0,V.mp 2]) (107:TypeId)=Sx.AObj.cells (jD (dU nR [((2:Nat),1+nat_lit 1),((1:Nat),1+nat_lit 0),((3:Nat),1+((3:Nat)-(1:Nat))+((0:Nat)-(0:Nat))+(1:Nat)+(0:Nat)+0+((2:Nat)-(1:Nat))),((0:Nat),(0:Nat))] 0 l.rows) [V.nm 1 0,V.mp 2]) (107:TypeId)∧kZ m.o=kZ m.o∧Sx.AObj.map (pG d n m)=Sx.AObj.map (pG d n m)∧zMk m p q
def zMj (a:Int→Prop) (b:Int) (c:Int) (d:Int) (e:Int) (f:Int) (g:Int) (h:Int) (j:Int) (k:Int) (l:GdJ) (m:GdJ) (n:EnI) (p:SbI):Prop:=a b∧Sx.AObj.cells [V.d (dI c),V.d (dI d),V.d (dI e),V.d (dI f),V.d (dI g),V.d (dI h),V.d (dI j),V.d (dI k)] 40=Sx.AObj.cells [V.d (dI c),V.d (dI d),V.d (dI e),V.d (dI f),V.d (dI g),V.d (dI h),V.d (dI j),V.d (dI k)] 40∧Sx.AObj.cells (jD (dU nR [((2:Nat),1+nat_lit 1),((1:Nat),1+nat_lit 0),((3:Nat),1+((3:Nat)-(1:Nat))+((0:Nat)-(0:Nat))+(1:Nat)+(0:Nat)+0+((2:Nat)-(1:Nat))),((0:Nat),(0:Nat))] 0 l.rows) [V.nm 1 0,V.mp 2]) (107:TypeId)=Sx.AObj.cells (jD (dU nR [((2:Nat),1+nat_lit 1),((1:Nat),1+nat_lit 0),((3:Nat),1+((3:Nat)-(1:Nat))+((0:Nat)-(0:Nat))+(1:Nat)+(0:Nat)+0+((2:Nat)-(1:Nat))),((0:Nat),(0:Nat))] 0 l.rows) [V.nm 1 0,V.mp 2]) (107:TypeId)∧kZ m.o=kZ m.o∧Sx.AObj.map (xH m.W)=Sx.AObj.map (xH m.W)∧zMk m n p
def zDl (a:Bool→Prop) (b:Bool) (c:SbI) (d:GdI):Prop:=a b∧Sx.AObj.cells [V.d (dB c),V.d (f8 c),V.d (fZ c),V.d (f9 c),V.d (fX c),V.d (dM c),V.d (dE c),V.d (dQ c),V.d (dF c)] 36=Sx.AObj.cells [V.d (dB c),V.d (f8 c),V.d (fZ c),V.d (f9 c),V.d (fX c),V.d (dM c),V.d (dE c),V.d (dQ c),V.d (dF c)] 36∧Sx.AObj.cells (jD (qC 0 1 3) [V.nm 1 0,V.mp 2]) (107:TypeId)=Sx.AObj.cells (jD (qC 0 1 3) [V.nm 1 0,V.mp 2]) (107:TypeId)∧kZ d.g.m=kZ d.g.m∧Sx.AObj.map (xH d.g.W)=Sx.AObj.map (xH d.g.W)
def zMa (a:Bool→Prop) (b:SbI) (c:GdI):Prop:=∃(d:Bool),d=false∧zDl a d b c
def zLt (a:GdJ) (b:GdJ) (c:Int) (d:Int) (e:Int) (f:Int) (g:Int) (h:Int) (j:Int) (k:Int) (l:Int) (m:GdJ→Prop) (n:GdJ→Nat) (p:EnI) (q:SbI):Prop:=List.map uI a.O=List.map uI b.O++[[dI c,dI d,dI e,dI f,dI g,dI h,dI j,dI k,dI l]]∧m a∧n a<n b∧zOh p q
def l5 (a:GdI) (b:GrI):Prop:=True∧∀(c:Unit),True→∃(d:Mkt),kZ d=kZ a.g.m∧xH a.X.W=xH a.g.W∧List.map uI a.X.O=[uI (b.s,Rep.mk 2 b.id 0 0 0 0 0 b.why)]∧d.Rep a.p a.X.B a.X.U
def eZ (a:SbI):=(Value.int IntKind.i64 (yD a.s a.b).fst.id)
def yKh (i:GdI):Prop:=
 ∃(a:SbI),a.s=i.s∧bE a.b=bE i.b∧a.b.length≤1099511627776∧∀(b:Unit),True→cnd ((yD a.s a.b).snd !=0) (∃(c:GrI),c.s=i.s∧c.id=0∧c.why=(yD a.s a.b).snd∧l5 i c) ((∀(c:Value×List D),c∈xH i.g.W→like (eZ a) c.fst=true)∧∃(c:Bool),∃(d:Int),(x5 (eZ a) (xH i.g.W)=some [dI d]∧c=true∨x5 (eZ a) (xH i.g.W)=none∧[dI d]=[dI 0]∧c=false)∧∃(e:Bool),∃(f:Bool→Prop),cnd ((yD a.s a.b).fst.kind==1) (∃(g:GtI),g.s=i.s∧kZ g.g.m=kZ i.g.m∧xH g.g.W=xH i.g.W∧(g.g.m.Rep g.p g.B g.U∧BOk g.p g.B)∧∀(h:Unit),True→∃(j:Bool),j=decide ((↑(fB g.B g.g.W g.s):Int)≥64)∧f j∧Sx.AObj.cells [V.d (dB a),V.d (f8 a),V.d (fZ a),V.d (f9 a),V.d (fX a),V.d (dM a),V.d (dE a),V.d (dQ a),V.d (dF a)] 36=Sx.AObj.cells [V.d (dB a),V.d (f8 a),V.d (fZ a),V.d (f9 a),V.d (fX a),V.d (dM a),V.d (dE a),V.d (dQ a),V.d (dF a)] 36∧Sx.AObj.cells (jD (g7 3 (1+((3:Nat)-(1:Nat))+((0:Nat)-(0:Nat))+(1:Nat)+(0:Nat)) ((3:Nat)-(3:Nat)) [((2:Nat),1+nat_lit 1),((1:Nat),1+nat_lit 0),((0:Nat),(0:Nat))]) [V.nm 1 0,V.mp 2]) (107:TypeId)=Sx.AObj.cells (jD (qC 0 1 3) [V.nm 1 0,V.mp 2]) (107:TypeId)∧kZ g.g.m=kZ i.g.m∧Sx.AObj.map (xH g.g.W)=Sx.AObj.map (xH i.g.W)) (zMa f a i)∧∀(g:Bool),f g→cnd g (∃(h:GrI),h.s=i.s∧h.id=(yD a.s a.b).fst.id∧h.why=30∧l5 i h) (∃(h:Bool),∃(j:Bool→Prop),cnd ((yD a.s a.b).fst.kind !=1) (cnd (!c) (∃(k:Bool),k=true∧zDl j k a i) (∃(k:Bool),k=(d !=i.s)∧zDl j k a i)) (zMa j a i)∧∀(k:Bool),j k→cnd k (∃(l:GrI),l.s=i.s∧l.id=(yD a.s a.b).fst.id∧l.why=26∧l5 i l) (∃(l:EnI),l.c.kind=(yD a.s a.b).fst.kind∧l.c.id=(yD a.s a.b).fst.id∧l.c.inst=(yD a.s a.b).fst.inst∧l.c.side=(yD a.s a.b).fst.side∧l.c.price=(yD a.s a.b).fst.price∧l.c.qty=(yD a.s a.b).fst.qty∧l.c.least=(yD a.s a.b).fst.least∧l.c.time=(yD a.s a.b).fst.time∧sb l.c.label=sb (yD a.s a.b).fst.label∧kZ l.m=kZ i.g.m∧((l.m.Rep l.p l.B l.U∧BOk l.p l.B)∧l.c.label.length≤140737488355328∧((-9223372036854775808)≤l.c.qty∧l.c.qty≤9223372036854775807)∧l.X=doF l.p l.B l.U l.c)∧∀(m:Mkt),m.Rep l.p l.X.B l.X.U→∃(n:GdJ),(↑n.k:Int)=0∧kZ n.o=kZ m∧xH n.W=xH i.g.W∧List.map uI n.O=[]∧∃(p:GdJ→Prop),∃(q:GdJ→Nat),p n∧∀(r:GdJ),p r→cnd (decide ((↑r.k:Int)<(↑(List.map xB l.X.R).length:Int))) ((0≤(↑r.k:Int)∧(↑r.k:Int)<(↑(List.map xB l.X.R).length:Int))∧∃(s:Int),∃(t:Int),∃(u:Int),∃(v:Int),∃(w:Int),∃(x:Int),∃(y:Int),∃(z:Int),zE (List.map xB l.X.R) (↑r.k:Int).toNat 0 8=some [dI s,dI t,dI u,dI v,dI w,dI x,dI y,dI z]∧cnd (s==1) ((∀(a_1:Value×List D),a_1∈xH r.W→like (Value.int IntKind.i64 t) a_1.fst=true)∧(∀(a_1:Value×List D),a_1∈wL (Value.int IntKind.i64 t) [dI i.s] (xH r.W)→like (Value.int IntKind.i64 t) a_1.fst=true)∧∃(a_1:Bool),∃(a_2:Int),(x5 (Value.int IntKind.i64 t) (pG t i r)=some [dI a_2]∧a_1=true∨x5 (Value.int IntKind.i64 t) (pG t i r)=none∧[dI a_2]=[dI 0]∧a_1=false)∧∃(a_3:Int),∃(a_4:Int→Prop),cnd (s==2) (∃(a_5:Int),a_5=i.s∧zNe a_4 a_5 s t u v w x y z n r i l a) (∃(a_5:Int),a_5=a_2∧zNe a_4 a_5 s t u v w x y z n r i l a)∧∀(a_5:Int),a_4 a_5→((List.map uI r.O).length+1)*(72:Nat)≤(70368744177664:Nat)∧∃(a_6:GdJ),(↑a_6.k:Int)=IntKind.i64.wrap ((↑r.k:Int)+1)∧kZ a_6.o=kZ r.o∧xH a_6.W=wL (Value.int IntKind.i64 t) [dI i.s] (xH r.W)∧zLt a_6 r a_5 s t u v w x y z p q l a) ((∀(a_1:Value×List D),a_1∈xH r.W→like (Value.int IntKind.i64 t) a_1.fst=true)∧∃(a_1:Bool),∃(a_2:Int),(x5 (Value.int IntKind.i64 t) (xH r.W)=some [dI a_2]∧a_1=true∨x5 (Value.int IntKind.i64 t) (xH r.W)=none∧[dI a_2]=[dI 0]∧a_1=false)∧∃(a_3:Int),∃(a_4:Int→Prop),cnd (s==2) (∃(a_5:Int),a_5=i.s∧zMj a_4 a_5 s t u v w x y z n r l a) (∃(a_5:Int),a_5=a_2∧zMj a_4 a_5 s t u v w x y z n r l a)∧∀(a_5:Int),a_4 a_5→((List.map uI r.O).length+1)*(72:Nat)≤(70368744177664:Nat)∧∃(a_6:GdJ),(↑a_6.k:Int)=IntKind.i64.wrap ((↑r.k:Int)+1)∧kZ a_6.o=kZ r.o∧xH a_6.W=xH r.W∧zLt a_6 r a_5 s t u v w x y z p q l a)) (∃(s:Mkt),kZ s=kZ r.o∧xH i.X.W=xH r.W∧List.map uI i.X.O=List.map uI r.O∧s.Rep i.p i.X.B i.X.U))))
open Go Cv Go.Proofs
theorem yGh {s:MSt} {p:Prd} {B:List (List zG)} (h:s.Rep p B):s.wh.length=tE B:=by rw[tE];exact h.wh.length_eq
theorem zTw:∀{B:List (List zG)} (n:Nat),(∀L∈B,L.length≤250)→(whL n B).length≤250*B.length
 |[],_,_=>yPp _
 |L::B,n,h=>by
  have:=zTw (B:=B) (n+1) fun x hx=>h x (yOo _ hx)
  have:=h L yOn
  rw[whL,yOl,yOm,yOw];omega
theorem zYt:midsC.ok Tryz.prog 51:=okw (V:=yKq) mixed (gokc z5z gok0) 0 (fun _=>[]) (fun _=>[]) [0] Tryz.func51 fun(i:MkB) h=>by
 obtain⟨⟨ep,hR,eu⟩,hB⟩:i.m.Rep i.p i.B i.U∧BOk i.p i.B:=h
 have hl:i.m.s.wh.length≤1000000:=by
  have hwf:=hR.wf hB
  have h1:=zTw (B:=i.B) 0 fun L hL=>by
   obtain⟨k,hk⟩:=yQs.1 hL
   exact(hwf.od k L hk).2.2
  have:=hB.bl
  have:=xP i.p
  rw[yGh hR,tE]
  omega
 exact⟨i.m.s,rfl,hl,fun o ho=>⟨o,rfl,rfl,rfl,rfl,rfl,rfl,rfl,rfl,rfl,rfl,rfl,rfl,by(repeat'(first|exact trivial|exact rfl|apply And.intro)),rfl,ho.trans (hR.wh.map _)⟩⟩
theorem newG_ok:newGC.ok Tryz.prog 14:=okw (V:=yJz) mixed (gokc yCr gok0) 0 (fun _=>[]) (fun _=>[]) [] Tryz.func14 fun(p:Prd) h=>by
 refine⟨p,rfl,rfl,rfl,rfl,rfl,rfl,rfl,rfl,rfl,rfl,rfl,h,fun _ c=> .inl ⟨(),rfl,rfl,rfl,c⟩,fun _ c=>Cv.cnd.mk (fun e=> .inr ⟨(),trivial,rfl,c⟩) (fun e=>absurd (by simpa using e) c)⟩
theorem yAt:grejC.ok Tryz.prog 50:=okw (V:=yJv) mixed gok0 0 (fun _=>[]) (fun _=>[]) [] Tryz.func50 fun(i:GrI) h=>⟨(),rfl,trivial⟩
theorem z2k:greadC.ok Tryz.prog 49:=okw (V:=yJh) mixed (gokc yAf gok0) 0 (fun _=>[]) (fun _=>[]) [] Tryz.func49 fun(i:SbI) h=>by
 have h:i.b.length≤1099511627776:=h
 have hbad:i.s<0∨8≤i.s→yD i.s i.b=(zLw,1):=fun e=>yOi e
 refine zI (fun e=> ?_) (fun e=>zI (fun e2=> ?_) (fun e2=> ?_))
 ·rw[hbad (.inl e)];exact⟨(),rfl,rfl,rfl,rfl,rfl,rfl,rfl,rfl,rfl,rfl,trivial⟩
 ·rw[hbad (.inr e2)];exact⟨(),rfl,rfl,rfl,rfl,rfl,rfl,rfl,rfl,rfl,rfl,trivial⟩
 ·have hg:yD i.s i.b=y6 i.b:=yOh (by omega)
  rw[hg]
  exact⟨i.b,rfl,h,fun _ _=>⟨(),rfl,rfl,rfl,rfl,rfl,rfl,rfl,rfl,rfl,rfl,trivial⟩⟩
theorem bM (id:Int) (W:List (Int×Int)):∀p∈xH W,like (Value.int IntKind.i64 id) p.1=true:=by
 intro p hp
 obtain⟨k,_,rfl⟩:=yPm.1 hp
 rfl
theorem zQv (id s:Int):∀W:List (Int×Int),wL (Value.int IntKind.i64 id) [D.v (.int .i64 s)] (xH W)=xH (l9 W id s)
 |[]=>rfl
 |x::W=>by
  have ih:=zQv id s W
  have e:fD (Value.int IntKind.i64 id) (Value.int IntKind.i64 x.1)=decide (id=x.1):=by simp[fD,keq]
  show(bif fD (Value.int IntKind.i64 id) (Value.int IntKind.i64 x.1)then(Value.int IntKind.i64 x.1,[D.v (.int .i64 s)])::xH W else(Value.int IntKind.i64 x.1,[D.v (.int .i64 x.2)])::wL (Value.int IntKind.i64 id) [D.v (.int .i64 s)] (xH W))=_
  rw[e,ih,l9]
  by_cases c:id=x.1
  ·rw[yPd c,cond_true,yOi c];rfl
  ·rw[yPa c,cond_false,yOh c];rfl
theorem rG (id:Int):∀W:List (Int×Int),x5 (Value.int IntKind.i64 id) (xH W)=some [D.v (.int .i64 (qU W id).1)]∧(qU W id).2=true∨x5 (Value.int IntKind.i64 id) (xH W)=none∧[D.v (.int .i64 (qU W id).1)]=[D.v (.int .i64 0)]∧(qU W id).2=false
 |[]=> .inr ⟨rfl,rfl,rfl⟩
 |x::W=>by
  have ih:=rG id W
  have e:fD (Value.int IntKind.i64 id) (Value.int IntKind.i64 x.1)=decide (id=x.1):=by simp[fD,keq]
  have e2:x5 (Value.int IntKind.i64 id) (xH (x::W))=bif fD (Value.int IntKind.i64 id) (Value.int IntKind.i64 x.1)then some [D.v (.int .i64 x.2)]else x5 (Value.int IntKind.i64 id) (xH W):=rfl
  rw[e2,e,bR]
  by_cases c:id=x.1
  ·rw[yPd c,cond_true,yOi c];exact .inl ⟨rfl,rfl⟩
  ·rw[yPa c,cond_false,yOh c];exact ih
theorem z2b:gownerC.ok Tryz.prog 22:=okw (V:=yBb) mixed gok0 0 (fun _=>[]) (fun _=>[]) [0] Tryz.func22 fun(i:GtI) h=>⟨bM _ _,_,_,rG i.s i.g.W,(),rfl,rfl,by(repeat'(first|exact trivial|exact rfl|apply And.intro)),rfl,trivial⟩
theorem yJp {l:List Int} {k:Nat} {n:Int} {f:Int→Bool} (h:l[k]? =some n):(l.take (k+1)).countP f=(l.take k).countP f+if f n then 1 else 0:=by
 rw[yQd,h,List.countP_append];simp[List.countP_cons]
theorem z5m (W:List (Int×Int)) (B:List (List zG)) (s:Int) (l:List Int) (h:l.Perm ((whL 0 B).map (·.1))):(fB B W s:Int)=l.countP fun x=>decide ((qU W x).1=s):=by
 rw[h.countP_eq,List.countP_map];rfl
theorem z1b {l:List Int} {W:List (Int×Int)} {s:Int} (hl:l.length≤1000000):∀{k:Nat} {n:Int},l[k]? =some n→IntKind.i64.wrap (((l.take k).countP fun x=>decide ((qU W x).1=s):Nat)+1:Int)=((l.take k).countP fun x=>decide ((qU W x).1=s):Nat)+1:=by
 intro k n h
 have:=List.countP_le_length (p:=fun x=>decide ((qU W x).1=s)) (l:=l.take k)
 rw[yPc]at this
 exact w64 (by omega)
theorem yBf {p:Prd} {B:List (List zG)} (h:BWf p B) {l:List Int} (hl:l.Perm ((whL 0 B).map (·.1))):l.length≤1000000:=by
 have h1:=zTw (B:=B) 0 fun L hL=>by
  obtain⟨k,hk⟩:=yQs.1 hL
  exact(h.od k L hk).2.2
 have:=h.ok.bl
 have:=xP p
 have:=hl.length_eq
 rw[yOm]at this
 omega
theorem z9c (i:GtI) (h:gopenC.cnd i):z4f i:=by
 obtain⟨⟨m,W⟩,p,B,U,s⟩:=i
 have h:m.Rep p B U∧BOk p B:=h
 unfold z4f zAv dI
 dsimp only
 refine⟨⟨m,p,B,U⟩,rfl,h,fun l hl=> ?_⟩
 have hle:=yBf (h.1.s.wf h.2) hl
 refine⟨(0,0),rfl,rfl,fun j=>j.2≤l.length∧j.1=((l.take j.2).countP fun x=>decide ((qU W x).1=s):Nat),fun j=>l.length-j.2,⟨yPv _,rfl⟩,?_⟩
 rintro⟨n,k⟩ ⟨j1,j2⟩
 dsimp only at j1 j2 ⊢
 subst j2
 refine zI (fun e=> ?_) (fun e=> ?_)
 ·rw[y3]at e
  obtain⟨x,hx⟩:=z9 (l:=l) (i:=k) (by omega)
  have hc:=yJp (f:=fun x=>decide ((qU W x).1=s)) hx
  refine⟨⟨by omega,by rw[y3];exact e⟩,x,elA hx (by simp) rfl,bM _ _,_,_,rG x W,Cv.cnd.mk (fun e2=>⟨(_,k+1),(z1b hle hx).symm,wjn (by omega),⟨by dsimp only;omega,?_⟩,by dsimp only;omega,by(repeat'(first|exact trivial|exact rfl|apply And.intro))⟩) (fun e2=>⟨(_,k+1),rfl,wjn (by omega),⟨by dsimp only;omega,?_⟩,by dsimp only;omega,by(repeat'(first|exact trivial|exact rfl|apply And.intro))⟩)⟩
  ·have e2:(qU W x).1=s:=by simpa using e2
   dsimp only;rw[hc,yPd e2];rfl
  ·have e2:¬(qU W x).1=s:=by simpa using e2
   dsimp only;rw[hc,yPa e2];rfl
 ·rw[y3]at e
  have hk:l.take k=l:=yOx (by omega)
  rw[hk]
  exact⟨(),z5m W B s l hl,rfl,rfl,trivial⟩
theorem gopen_ok:gopenC.ok Tryz.prog 18:=okw mixed (gokc zYt gok0) 0 (fun _=>[]) (fun _=>z6h) [0] Tryz.func18 z9c
theorem zZy:gopenOC.ok Tryz.prog 18:=okw (V:=yAn) mixed (gokc zYt gok0) 0 (fun _=>[]) (fun _=>z6h) [] Tryz.func18 fun(i:GtI) h=>z9c i h
theorem z0f {b:List UInt8} (h:(y6 b).2=0):(y6 b).1.right=0:=by
 rw[y6]at h ⊢
 dsimp only at h ⊢
 split at h
 ·cases h
 ·rename_i h1
  rw[yOh h1]
  split at h
  ·cases h
  ·rename_i h2
   rw[yOh h2]
   split at h
   ·rename_i h3;exact absurd h h3
   ·rename_i h3
    rw[yOh h3];simpa using h3
theorem zEk (n:Int):yQ (IntKind.i64.wrap n):=by
 rw[IntKind.wrap]
 simp only[IntKind.bits,IntKind.signed]
 simp
 omega
theorem zYi:yQ 0:=⟨by decide,by decide⟩
theorem yFj (k id:Int) (r:RB):yQ (xG k id r).1.qty:=by
 rw[xG]
 split
 ·exact zEk _
 split
 ·exact zEk _
 split
 ·exact zEk _
 ·exact zYi
theorem yAc (b:List UInt8):yQ (y6 b).1.qty:=by
 rw[y6]
 dsimp only
 split
 ·exact zYi
 split
 ·exact zYi
 split
 ·exact zYi
 ·exact yFj _ _ _
theorem z9o {p:Prd} {B:List (List zG)} (h:BWf p B) (U:List Int) (c:Cmd):(doF p B U c).R.length≤1503000003:=by
 have hbl:=h.ok.bl
 have hrj:∀w,(cT c w).length≤1503000003:=fun w=>by simp[cT]
 rw[doF]
 split
 ·exact hrj _
 rename_i hr
 have hr:c.right=0:=by simpa using hr
 split
 ·rename_i hk
  obtain⟨_,hq,_⟩:=zKc hr hk
  rw[cR]
  split
  ·exact hrj _
  rename_i hp
  have hp:p.price c.inst c.price=0:=by simpa using hp
  have hin:=zFj hp
  split
  ·exact hrj _
  split
  ·exact hrj _
  split
  ·exact hrj _
  split
  ·exact hrj _
  have:=tY h U (c:=c) (by omega) hq
  omega
 rename_i hk
 split
 ·exact hrj _
 rename_i hf
 have hf:(zQ B c.id).2.2=true:=by simpa using hf
 have hf:zQ B c.id=((zQ B c.id).1,(zQ B c.id).2.1,true):=by rw[← hf]
 obtain⟨hin,_⟩:=zMc h hf
 split
 ·rename_i h4
  have hq:=zAg hr hk (by omega)
  rw[gS]
  split
  ·exact hrj _
  split
  ·simp[aY]
  split
  ·exact hrj _
  have:=tY (h.take c.id (zQ B c.id).2.1.qty) U (c:=⟨1,c.id,(zQ B c.id).1,(zQ B c.id).2.1.side,c.price,c.qty,0,1,[]⟩) (by dsimp only;rw[b9];exact hin) hq
  dsimp only
  rw[yOl]
  have e1:(vN B U c.id (zQ B c.id).1 (zQ B c.id).2.1).R.length=1:=rfl
  have e2:(vN B U c.id (zQ B c.id).1 (zQ B c.id).2.1).B=(xZ B c.id (zQ B c.id).2.1.qty).1:=rfl
  rw[e1,e2]
  omega
 split
 ·simp[vN]
 ·simp[aY]
theorem yBj {b:List UInt8} (h:b.length≤1099511627776):(y6 b).1.label.length≤255:=by
 have h0:(RB.mk b false).ok:=h
 rw[y6]
 dsimp only
 split
 ·exact yPv _
 split
 ·exact yPv _
 split
 ·exact yPv _
 ·exact(yEk (vO (cI h0))).2
theorem z1y (p:Prd) (B:List (List zG)) (U:List Int) (W:List (Int×Int)) (s:Int) (b:List UInt8):dX p B U W s b=if(yD s b).2≠0 then z0m B U W s 0 (yD s b).2 else bY p B U W s (yD s b).1:=by
 rw[dX,yD]
 by_cases c:s<0∨8≤s
 ·rw[yOi c,yOi c];rfl
 ·rw[yOh c,yOh c]
theorem yGb {s:Int} {b:List UInt8} (hb:b.length≤1099511627776) (h:(yD s b).2=0):(yD s b).1.right=0∧yQ (yD s b).1.qty∧(yD s b).1.label.length≤255:=by
 rw[yD]at h ⊢
 split at h
 ·cases h
 ·rename_i c
  rw[yOh c]
  exact⟨z0f h,yAc b,yBj hb⟩
theorem wjN {j:Nat} (h:(j:Int)≤9223372036854775806):((j+1:Nat):Int)=IntKind.i64.wrap ((j:Int)+1):=by rw[w64 (by omega)];rfl
theorem yNb (i:GdI) (h:gdoC.cnd i):yKh i:=by
 obtain⟨⟨m,W⟩,p,B,U,s,b,X⟩:=i
 obtain⟨hMB,hb,hX⟩:(m.Rep p B U∧BOk p B)∧b.length≤1099511627776∧X=dX p B U W s b:=h
 rw[z1y]at hX
 have hc:= @yGb s b hb
 unfold yKh zLt zMa zDl eZ zMj zNe zMk zOh f8 dM fZ dB f9 dQ dE fX dF pG nR l5 dI
 dsimp only
 generalize hrd:yD s b=y at hX hc
 obtain⟨c,why⟩:=y
 dsimp only at hX hc
 refine⟨⟨s,b⟩,rfl,rfl,hb,fun _ _=> ?_⟩
 dsimp only
 rw[hrd]
 dsimp only
 refine Cv.cnd.mk (fun e=> ?_) (fun e=>⟨bM _ _,_,_,rG c.id W,true,fun x=>x=decide (c.kind=1∧64≤fB B W s),Cv.cnd.mk (fun e1=>⟨⟨⟨m,W⟩,p,B,U,s⟩,rfl,rfl,rfl,hMB,fun _ _=>⟨_,rfl,?_,by(repeat'(first|exact trivial|exact rfl|apply And.intro))⟩⟩) (fun e1=>⟨false,rfl,?_,by(repeat'(first|exact trivial|exact rfl|apply And.intro))⟩),?_⟩)
 ·have e:why≠0:=by simpa using e
  rw[yOi e]at hX;subst hX
  exact⟨⟨s,0,why⟩,rfl,rfl,rfl,trivial,fun _ _=>⟨m,rfl,rfl,rfl,hMB.1⟩⟩
 ·have e1:c.kind=1:=by simpa using e1
  dsimp only
  rw[decide_eq_decide]
  exact⟨fun x=>⟨e1,by omega⟩,fun x=>by have:=x.2;omega⟩
 ·have e1:¬c.kind=1:=by simpa using e1
  exact(yPa fun x=>e1 x.1).symm
 have e:why=0:=by simpa using e
 obtain⟨hr,hq,hlab⟩:=hc e
 rw[yOh (by rw[e];decide),bY]at hX
 rintro _ rfl
 refine zI (fun e1=> ?_) (fun e1=> ?_)
 ·rw[yOi e1]at hX;subst hX
  exact⟨⟨s,c.id,30⟩,rfl,rfl,rfl,trivial,fun _ _=>⟨m,rfl,rfl,rfl,hMB.1⟩⟩
 rw[yOh e1]at hX
 refine⟨true,fun x=>x=decide (c.kind≠1∧((qU W c.id).2=false∨(qU W c.id).1≠s)),Cv.cnd.mk (fun e2=>Cv.cnd.mk (fun e3=>⟨true,rfl,?_,by(repeat'(first|exact trivial|exact rfl|apply And.intro))⟩) (fun e3=>⟨_,rfl,?_,by(repeat'(first|exact trivial|exact rfl|apply And.intro))⟩)) (fun e2=>⟨false,rfl,?_,by(repeat'(first|exact trivial|exact rfl|apply And.intro))⟩),?_⟩
 ·have e2:¬c.kind=1:=by simpa using e2
  exact(yPd ⟨e2,.inl (by simpa using e3)⟩).symm
 ·have e2:¬c.kind=1:=by simpa using e2
  have e3:(qU W c.id).2=true:=by simpa using e3
  show((qU W c.id).1 !=s)=decide (c.kind≠1∧((qU W c.id).2=false∨(qU W c.id).1≠s))
  rw[Bool.eq_iff_iff,yQi,bne_iff_ne]
  exact⟨fun x=>⟨e2,.inr x⟩,fun x=>x.2.resolve_left (by rw[e3];decide)⟩
 ·have e2:c.kind=1:=by simpa using e2
  exact(yPa fun x=>x.1 e2).symm
 rintro _ rfl
 refine zI (fun e2=> ?_) (fun e2=> ?_)
 ·rw[yOi e2]at hX;subst hX
  exact⟨⟨s,c.id,26⟩,rfl,rfl,rfl,trivial,fun _ _=>⟨m,rfl,rfl,rfl,hMB.1⟩⟩
 rw[yOh e2]at hX
 have hlen:=z9o (hMB.1.s.wf hMB.2) U c
 refine⟨⟨m,p,B,U,c,doF p B U c⟩,rfl,rfl,rfl,rfl,rfl,rfl,rfl,rfl,rfl,rfl,⟨hMB,yQx hlab (by decide),hq,rfl⟩,fun o ho=> ?_⟩
 dsimp only at ho ⊢
 generalize doF p B U c=Y at hX ho hlen ⊢
 obtain⟨YB,YU,R⟩:=Y
 dsimp only at hX ho hlen ⊢
 subst hX
 have e4:(R.map xB).length=R.length:=yOm ..
 refine⟨⟨o,W,[],0⟩,rfl,rfl,rfl,rfl,fun j=>j.o=o∧j.k≤R.length∧j.O.length=j.k∧(dO s W R).1=(dO s j.W (R.drop j.k)).1∧(dO s W R).2=j.O++(dO s j.W (R.drop j.k)).2,fun j=>R.length-j.k,⟨rfl,yPv _,rfl,rfl,rfl⟩,?_⟩
 rintro⟨o',W',O,k⟩ ⟨j1,j2,j3,j4,j5⟩
 dsimp only at j1 j2 j3 j4 j5 ⊢
 subst j1
 have e5:(O.map uI).length=O.length:=yOm ..
 refine zI (fun e6=> ?_) (fun e6=> ?_)
 ·obtain⟨r,hr'⟩:=z9 (l:=R) (i:=k) (by omega)
  have hd:R.drop k=r::R.drop (k+1):=by rw[yQt (by omega),(yOj.1 hr').2]
  rw[hd,dO]at j4 j5
  dsimp only at j4 j5
  refine⟨⟨by omega,e6⟩,r.kind,r.id,r.inst,r.side,r.price,r.qty,r.left,r.why,elA hr' (by simp[xB]) rfl,Cv.cnd.mk (fun e7=>⟨bM _ _,?_⟩) (fun e7=>⟨bM _ _,_,_,rG r.id W',?_⟩)⟩
  ·have e7:r.kind=1:=by simpa using e7
   rw[zQv]
   rw[yOi e7]at j4 j5
   refine⟨bM _ _,_,_,rG r.id (l9 W' r.id s),0,fun x=>x=if r.kind=2 then s else(qU (l9 W' r.id s) r.id).1,Cv.cnd.mk (fun e8=>⟨_,rfl,(yOi (by simpa using e8)).symm,by(repeat'(first|exact trivial|exact rfl|apply And.intro))⟩) (fun e8=>⟨_,rfl,(yOh (by simpa using e8)).symm,by(repeat'(first|exact trivial|exact rfl|apply And.intro))⟩),?_⟩
   rintro _ rfl
   exact⟨by omega,⟨o',l9 W' r.id s,O++[(if r.kind=2 then s else(qU (l9 W' r.id s) r.id).1,r)],k+1⟩,wjN (by omega),rfl,rfl,by rw[yOr];rfl,⟨rfl,by dsimp only;omega,by rw[yOl];dsimp only;rw[j3];rfl,j4,by rw[j5];simp⟩,by dsimp only;omega,by(repeat'(first|exact trivial|exact rfl|apply And.intro))⟩
  ·have e7:¬r.kind=1:=by simpa using e7
   rw[yOh e7]at j4 j5
   refine⟨0,fun x=>x=if r.kind=2 then s else(qU W' r.id).1,Cv.cnd.mk (fun e8=>⟨_,rfl,(yOi (by simpa using e8)).symm,by(repeat'(first|exact trivial|exact rfl|apply And.intro))⟩) (fun e8=>⟨_,rfl,(yOh (by simpa using e8)).symm,by(repeat'(first|exact trivial|exact rfl|apply And.intro))⟩),?_⟩
   rintro _ rfl
   exact⟨by omega,⟨o',W',O++[(if r.kind=2 then s else(qU W' r.id).1,r)],k+1⟩,wjN (by omega),rfl,rfl,by rw[yOr];rfl,⟨rfl,by dsimp only;omega,by rw[yOl];dsimp only;rw[j3];rfl,j4,by rw[j5];simp⟩,by dsimp only;omega,by(repeat'(first|exact trivial|exact rfl|apply And.intro))⟩
 ·have hk:R.drop k=[]:=List.drop_of_length_le (by omega)
  rw[hk,dO]at j4 j5
  dsimp only at j4 j5
  rw[yPe]at j5
  rw[j4,j5]
  exact⟨o',rfl,rfl,rfl,ho⟩
theorem gdo_ok:gdoC.ok Tryz.prog 16:=okw mixed (gokc z2k (gokc yAt (gokc zZy (gokc yLs gok0)))) 0 (fun _=>yMp) (fun _=>yNp) [0] Tryz.func16 yNb
open Go Cv Go.Proofs
def yMu (t:Nat):SAnn:={ι:=Cmd,slots:=fun _=>[(t,.nm 0 0)],rows:=fun c=>[.cells c.cells 36],slots0:=fun _=>[(t,.nm 0 0)],rows0:=fun c=>[.cells c.cells 36]}
open Go Cv Go.Proofs
open Go Cv Go.Proofs
def mk0 (p:Prd):Mkt:=⟨p,gY p,[]⟩
theorem zYu (p:Prd):(mk0 p).Rep p (List.replicate p.count []) []:=⟨rfl,zTp _,rfl⟩
open Go Cv Go.Proofs
def known18C:Con:=con1 Unit (fun _=>[]) (fun _=>[]) (fun _=>True) (fun _=>yJ true) (fun _=>[])
structure AskM where
 s:Int
 c:Cmd
 raw:Bool
 b:List UInt8
def gaskE (a:AskM):List D:= .v (.int .i64 a.s)::(cmdE a.c++[.v (.bool a.raw),.ro 1 (bE a.b)])
@[reducible] def AskM.ok (a:AskM):Prop:=yQ a.s∧a.c.raw
structure GnJ where
 g:Gt
 k:Nat
 n:Int
def glC:Con:=con1 (List AskM) (fun l=>[roV 12 (l.map gaskE)]) (fun _=>[]) (fun l=>(∀a∈l,a.ok)∧l.length≤9223372036854775807) (fun _=>yJ true) (fun _=>[])
def glA:List SAnn:=[
 {ι:=GnJ,slots:=fun j=>[(4,.nm 0 0),(6,zA j.k)],rows:=fun j=>[GtR j.g]},
 {ι:=GnJ,slots:=fun j=>[(4,.nm 0 0),(10,zA j.n),(11,zA j.k)],rows:=fun j=>[GtR j.g]}]
def glJ:List (Nat×SAnn):=[(40,bj 67),(56,bj 75),(70,yMu 12),(94,ij 10),(112,bj 146)]
end Sx
