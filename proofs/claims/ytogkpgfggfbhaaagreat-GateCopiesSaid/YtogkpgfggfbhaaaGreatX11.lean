/- Texts of ours, one behind the other: a walk that the kernel reckons, and contracts of functions. No condition. -/
import Derived.Maps.RangeRun
import Derived.Test.YtogkpgfggfbhaaaGreatX10
namespace Sx
set_option linter.unusedVariables false
set_option linter.unusedSimpArgs false
set_option maxRecDepth 100000
open Go Cv Go.Proofs
def upd (f:Int→Int) (k v:Int):Int→Int:=fun x=>if x=k then v else f x
def one (r:Rep) (m:Int):Int:=if r.kind=3∧r.inst=m then(if r.side=1 then r.qty else-r.qty)else 0
def vq (p:Prd) (k s q m:Int):Int:=
 if(p.legs k).2.2=true then(if(p.legs k).1=m then(if s=1 then q else-q)else 0)-(if(p.legs k).2.1=m then(if s=1 then q else-q)else 0)
 else if k=m then(if s=1 then q else-q)else 0
open Go Cv Go.Proofs
theorem zLw {p:Prd} (hc:p.check=0):1≤p.count∧p.count≤21:=by
 have h1:=zBt hc
 have h2:=(kI hc).m2
 have h3:=xQ p
 omega
theorem yCo (c:Cmd):1≤wY c∧wY c≤4:=by
 have:=yP (n:=c.kind) (lo:=0) (hi:=8) (by omega)
 rw[wY];split<;>omega
theorem z3b (t:TmI):(y9 t).kind=wY t.c:=by
 rw[y9];split<;>rfl
theorem zRy (t:TmI):1≤(y9 t).qty∧(y9 t).qty≤12:=by
 have:=yP (n:=t.c.qty) (lo:=0) (hi:=11) (by omega)
 have e:(y9 t).qty=1+zF t.c.qty 0 11:=by rw[y9];split<;>rfl
 omega
theorem eC (t:TmI):(y9 t).label=[]:=by
 rw[y9];split<;>rfl
theorem zSs (x:Prd) (c:Cmd) (i:Int) (hk:wY c=1):let y:=y9 ⟨z8 x,c,i⟩
 (0≤y.inst∧y.inst<(z8 x).count)∧(y.side=1∨y.side=2)∧(1≤y.time∧y.time≤3)∧(0≤y.least∧y.least≤y.qty)∧(-2000000≤y.price∧y.price≤2000000)∧(z8 x).price y.inst y.price=0:=by
 have hc:=pP x
 have hcb:=zLw hc
 have ht:=zBg x
 have wi:=yP (n:=c.inst) (lo:=0) (hi:=((z8 x).count:Int)-1) (by omega)
 have ws:=yP (n:=c.side) (lo:=0) (hi:=1) (by omega)
 have wq:=yP (n:=c.qty) (lo:=0) (hi:=11) (by omega)
 have wp:=yP (n:=c.price) (lo:=0) (hi:=9) (by omega)
 have ww:=yP (n:=x.wide) (lo:=0) (hi:=60) (by omega)
 have wl:=yP (n:=c.least) (lo:=0) (hi:=1+zF c.qty 0 11) (by omega)
 have hm:=rN (a:=zT x) (b:=zF c.price 0 9) (m:=zT x) (n:=9) (by omega) wp
 have hw:=rN (a:=zT x) (b:=zF x.wide 0 60) (m:=zT x) (n:=60) (by omega) ww
 have hh:(yW ⟨z8 x,c,i⟩).kind=1:=hk
 have e:y9 ⟨z8 x,c,i⟩={yW ⟨z8 x,c,i⟩with id:=i+1,time:=gI c,least:=fH c (1+zF c.qty 0 11),price:=if((z8 x).legs (zF c.inst 0 ((z8 x).count-1))).2.2=true then zT x*zF c.price 0 9-4*zT x else zT x*zF c.price 0 9+8*zT x}:=by
  rw[y9,yRe hh];rfl
 intro y
 have ey:y=_:=e
 rw[ey]
 have htm:1≤gI c∧gI c≤3:=by rw[gI];split;omega;split<;>omega
 have hle:0≤fH c (1+zF c.qty 0 11)∧fH c (1+zF c.qty 0 11)≤1+zF c.qty 0 11:=by rw[fH];split<;>omega
 refine⟨⟨wi.1,by show zF c.inst 0 ((z8 x).count-1)<_;omega⟩,by show 1+zF c.side 0 1=1∨1+zF c.side 0 1=2;omega,htm,hle,?_,?_⟩
 ·dsimp only
  split<;>omega
 ·dsimp only
  show(z8 x).price (zF c.inst 0 ((z8 x).count-1)) _=0
  obtain⟨k,hk2⟩:∃k:Nat,zF c.inst 0 (((z8 x).count:Int)-1)=k:=⟨(zF c.inst 0 (((z8 x).count:Int)-1)).toNat,by omega⟩
  rw[hk2]at wi ⊢
  have hkc:k<(z8 x).count:=by omega
  have et:(z8 x).tick=zT x:=rfl
  have el:(z8 x).low= -20*zT x:=rfl
  have eh:(z8 x).high=100*zT x:=rfl
  have ew:(z8 x).wide=zT x*(5+zF x.wide 0 60):=rfl
  rw[Int.mul_add]at ew
  rw[Prd.price,yRd (by omega),yRd (by omega),et,el,eh,ew]
  rcases uZ hc hkc with⟨h1,_⟩|⟨h1,h2⟩
  ·have hge:((z8 x).months.length:Int)≤k:=by
    rcases yTt k (z8 x).months.length with y|y
    ·rw[Prd.legs,yRd (by omega),yRe (by omega)]at h1;cases h1
    ·omega
   rw[yRe h1,yRe hge,yRe hge,yRd,yRd (by omega)]
   have:zT x*zF c.price 0 9-4*zT x=zT x*(zF c.price 0 9-4):=by rw[Int.mul_sub,yVc 4]
   rw[this,sP];decide
  ·have hlt:¬((z8 x).months.length:Int)≤k:=by omega
   rw[yRd (show ¬((z8 x).legs k).2.2=true by rw[h1];decide),yRd hlt,yRd hlt,yRd,yRd (by omega)]
   have:zT x*zF c.price 0 9+8*zT x=zT x*(zF c.price 0 9+8):=by rw[Int.mul_add,yVc 8]
   rw[this,sP];decide
theorem zJc (x:Prd) (c:Cmd) (i:Int): -2000000≤(y9 ⟨z8 x,c,i⟩).price∧(y9 ⟨z8 x,c,i⟩).price≤2000000:=by
 have ht:=zBg x
 have wp:=yP (n:=c.price) (lo:=0) (hi:=9) (by omega)
 have hm:=rN (a:=zT x) (b:=zF c.price 0 9) (m:=zT x) (n:=9) (by omega) wp
 have et:(z8 x).tick=zT x:=rfl
 by_cases h1:wY c=1
 ·obtain⟨_,_,_,_,h,_⟩:=zSs x c i h1;exact h
 ·have hh:¬(yW ⟨z8 x,c,i⟩).kind=1:=h1
  have e:(y9 ⟨z8 x,c,i⟩).price=if(yW ⟨z8 x,c,i⟩).kind=4 then zT x*zF c.price 0 9+5*zT x else zT x*zF c.price 0 9:=by rw[y9,yRd hh];rfl
  rw[e]
  split<;>omega
theorem zXv (x:Prd) (c:Cmd) (i id:Int) (hid:1≤id∧id≤1099511627776):Cmd.right {y9 ⟨z8 x,c,i⟩with id:=id}=0:=by
 have hk:=yCo c
 have hq:=zRy ⟨z8 x,c,i⟩
 have hp:=zJc x c i
 have hcb:=zLw (pP x)
 rw[Cmd.right]
 dsimp only
 rw[z3b]
 dsimp only
 rw[yRd (by omega),yRd (by omega)]
 have q1:kF (y9 ⟨z8 x,c,i⟩).qty=true:=by rw[kF,yRu (by omega),yRu (by omega)];rfl
 have q2:vB (y9 ⟨z8 x,c,i⟩).price=true:=by rw[vB,yRu (by omega),yRu (by omega)];rfl
 by_cases h1:wY c=1
 ·obtain⟨a1,a2,a3,a4,a5,a6⟩:=zSs x c i h1
  rw[yRe h1,Cmd.orderE]
  dsimp only
  rw[yRd (by omega),yRd (by omega),yRd (by rw[q1];decide),yRd (by omega),yRd (by rw[eC];simp),yRd (by rw[q2];decide),yRd (by omega)]
 ·rw[yRd h1,yRd (by rw[q1];simp),yRd (by rw[q2];simp)]
open Go Cv Go.Proofs
open Go Cv Go.Proofs
open Go Cv Go.Proofs
def wO (W:List (Int×Int)) (id:Int):Int×Bool:=match W.find? fun x=>decide (x.1=id)with
 |some x=>(x.2,true)
 |none=>(0,false)
def zSg:List (Int×Int)→Int→Int→List (Int×Int)
 |[],id,s=>[(id,s)]
 |x::W,id,s=>if id=x.1 then(x.1,s)::W else x::zSg W id s
theorem z6f (x:Int×Int) (W:List (Int×Int)) (id:Int):wO (x::W) id=if id=x.1 then(x.2,true)else wO W id:=by
 rw[wO,yWw]
 by_cases c:id=x.1
 ·rw[yRe c,yRu c.symm]
 ·rw[yRd c,yRo (fun e=>c e.symm)];rfl
structure GtX where
 B:List (List zH)
 U:List Int
 W:List (Int×Int)
 O:List (Int×Rep)
def z4c (B:List (List zH)) (U:List Int) (W:List (Int×Int)) (s id why:Int):GtX:=⟨B,U,W,[(s,⟨2,id,0,0,0,0,0,why⟩)]⟩
def pB (s:Int):List (Int×Int)→List Rep→List (Int×Int)×List (Int×Rep)
 |W,[]=>(W,[])
 |W,r::R=>
  let W1:=if r.kind=1 then zSg W r.id s else W
  ((pB s W1 R).1,(if r.kind=2 then s else(wO W1 r.id).1,r)::(pB s W1 R).2)
def tP (B:List (List zH)) (W:List (Int×Int)) (s:Int):Nat:=(whL 0 B).countP fun x=>decide ((wO W x.1).1=s)
def zSb (p:Prd) (B:List (List zH)) (U:List Int) (W:List (Int×Int)) (s:Int) (c:Cmd):GtX:=
 if c.kind=1∧64≤tP B W s then z4c B U W s c.id 30
 else if c.kind≠1∧((wO W c.id).2=false∨(wO W c.id).1≠s)then z4c B U W s c.id 26
 else⟨(doF p B U c).B,(doF p B U c).U,(pB s W (doF p B U c).R).1,(pB s W (doF p B U c).R).2⟩
def dC (p:Prd) (B:List (List zH)) (U:List Int) (W:List (Int×Int)) (s:Int) (b:List UInt8):GtX:=
 if s<0∨8≤s then z4c B U W s 0 1 else if(xG b).2≠0 then z4c B U W s 0 (xG b).2 else zSb p B U W s (xG b).1
open Go Cv Go.Proofs
open Go Cv Go.Proofs
theorem zZy:∀{l m:List Nat},l.Nodup→(∀x∈l,x∈m)→l.length≤m.length
 |[],m,_,_=>ySr _
 |a::l,m,h,hs=>by
  rw[yTm]at h
  have ha:=hs a yRj
  have:=zZy (l:=l) (m:=m.erase a) h.2 fun x hx=>(List.mem_erase_of_ne (fun e=>h.1 (by rw[← e];exact hx))).2 (hs x (yRk _ hx))
  rw[List.length_erase_of_mem ha]at this
  have:=List.length_pos_of_mem ha
  rw[yRt];omega
structure Handed (ents:List MapEntry) (seen:Array Nat) (dn:List MapEntry):Prop where
 sn:seen.toList=dn.map (·.born)
 nd:(dn.map (·.born)).Nodup
 sub:∀e∈dn,e∈ents
theorem Handed.push {ents:List MapEntry} {seen:Array Nat} {dn:List MapEntry} (h:Handed ents seen dn) {e:MapEntry} (he:e∈(leftOf ents.toArray seen).toList):Handed ents (seen.push e.born) (dn++[e]):=by
 simp only[leftOf,Array.toList_filter,yTf,yVo]at he
 obtain⟨h1,h2⟩:=he
 have h3:e.born∉dn.map (·.born):=by
  rw[← h.sn]
  intro hm
  have:seen.contains e.born=true:=by
   rw[Array.contains_iff_mem];exact Array.mem_toList_iff.1 hm
  rw[this]at h2;cases h2
 refine⟨by rw[Array.toList_push,h.sn,yRm];rfl,?_,fun x hx=> ?_⟩
 ·rw[yRm,List.map_singleton,yTg]
  exact⟨h.nd,by simp,fun x hx y hy e=>by rw[yTa]at hy;subst hy;subst e;exact h3 hx⟩
 ·rcases ySg.1 hx with hx|hx
  ·exact h.sub x hx
  ·rw[yTa]at hx;subst hx;exact h1
theorem Handed.len {ents:List MapEntry} {seen:Array Nat} {dn:List MapEntry} (h:Handed ents seen dn):dn.length≤ents.length:=by
 have:=zZy (m:=ents.map (·.born)) h.nd fun x hx=>by
  obtain⟨e,he,rfl⟩:=ySm.1 hx
  exact ySc (f:=(·.born)) (h.sub e he)
 simpa using this
theorem Handed.all {ents:List MapEntry} {seen:Array Nat} {dn:List MapEntry} (h:Handed ents seen dn) (hn:(ents.map (·.born)).Nodup) (h0:(leftOf ents.toArray seen).size=0):dn.Perm ents:=by
 have inj:∀{l:List MapEntry},(l.map (·.born)).Nodup→∀x∈l,∀y∈l,x.born=y.born→x=y:=by
  intro l hl
  induction l with
  |nil=>intro x hx;cases hx
  |cons a l ih=>
   rw[yRs,yTm]at hl
   intro x hx y hy e
   rcases yRy.1 hx with e1|h1<;>rcases yRy.1 hy with e2|h2
   ·rw[e1,e2]
   ·refine absurd ?_ hl.1
    rw[← e1,e];exact ySc (f:=(·.born)) h2
   ·refine absurd ?_ hl.1
    rw[← e2,← e];exact ySc (f:=(·.born)) h1
   ·exact ih hl.2 x h1 y h2 e
 have nd:∀{l:List MapEntry},(l.map (·.born)).Nodup→l.Nodup:=fun hl=>List.Pairwise.imp (fun hne e=>hne (by rw[e])) (List.pairwise_map.1 hl)
 refine(List.perm_ext_iff_of_nodup (nd h.nd) (nd hn)).2 fun e=>⟨h.sub e,fun he=> ?_⟩
 have:seen.contains e.born=true:=by
  cases hc:seen.contains e.born with
  |true=>rfl
  |false=>
   have hm:e∈(leftOf ents.toArray seen).toList:=by
    simp only[leftOf,Array.toList_filter,yTf]
    exact⟨he,by rw[hc];rfl⟩
   have:(leftOf ents.toArray seen).toList=[]:=ySe (by simpa using h0)
   rw[this]at hm;cases hm
 rw[Array.contains_iff_mem]at this
 have:=Array.mem_toList_iff.2 this
 rw[h.sn]at this
 obtain⟨x,hx,e2⟩:=ySm.1 this
 rw[← inj hn x (h.sub x hx) e he e2];exact hx
def zVn (k:Ko) (LL:List HP) (ents:List MapEntry) (e:Ending) (w':World):Prop:=∃(a:Option Addr) (n c:Nat) (xs:List Value) (dn:List MapEntry),e=.returned (.slice a n c)∧xs=dn.map (·.key)∧n=dn.length∧dn.Perm ents∧Hp k w' (slO 2 1 a n c xs::LL)
def z9m (k:Ko) (LL:List HP) (ents:List MapEntry) (r bm ck:Nat) (v:Value) (w1:World):Prop:=∃(a:Option Addr) (n c:Nat) (xs:List Value) (seen:Array Nat) (c0:Nat) (dn:List MapEntry),v=.slice a n c∧xs=dn.map (·.key)∧n=dn.length∧ck≤c0∧Handed ents seen dn∧Hp k w1 (slO 2 1 a n c xs::pt r (.mapIter (some bm) ck seen c0)::LL)
def yAg (ents:List MapEntry) (v:Value) (_:World):Nat:=match v with| .slice _ n _=>ents.length-n|_=>0
theorem z2l {b bm ck:Nat} {ents:List MapEntry} {w:World} {k:Ko} {LL:List HP} {l:List Value} {T:TypeId}
 (H:Hp k w LL) (hat:∀w',Hp k w' LL→w'.heap[b]? =some (.cells l.toArray T)∧w'.heap[bm]? =some (.map ents.toArray ck)) (hl:l[12]? =some (.map (some bm)))
 (hck:∀e∈ents,e.born<ck) (hn:(ents.map (·.born)).Nodup) (hk:∀e∈ents,∃n,e.key= .int .i64 n) (hsz:ents.length≤1000000):
 Calls Tryz.prog 101 #[.pointer (some ⟨b,0,none⟩)] w (zVn k LL ents):=by
 refine calls_of_cwp (c:=Tryz.f101.body.getD .skip) (args:=[.pointer (some ⟨b,0,none⟩)]) mixed Tryz.func101 (by kernel_rfl) [{ι:=Value,chg:=fun v=>[(3,v)],fix:=[9]}] (by kernel_rfl) (by kernel_rfl) (by kernel_rfl) ?_
 obtain⟨h1,h2⟩:=hat w H
 have hu:Tryz.prog.underlying 105=some (.map 2 3):=by kernel_rfl
 refine⟨some bm,?_,some ⟨w.heap.size,0,none⟩,w.alloc (.mapIter (some bm) ck #[] ck),?_,?_⟩
 ·show nZ Tryz.prog 105 ⟨b,12,none⟩ w (.map (some bm))
  exact uO (by kernel_rfl) h1 hl
 ·show(Instr.range 105 (.map (some bm))).run Tryz.prog w=_
  exact run_range_map w _ _ _ bm _ ck hu h2
 refine⟨z9m k LL ents w.heap.size bm ck,yAg ents,⟨.slice none 0 0,rfl,none,0,0,[],#[],ck,[],rfl,rfl,rfl,ySk _,⟨rfl,List.nodup_nil,fun e he=>by cases he⟩,(H.new _).nil _ _⟩,?_⟩
 rintro j v w1 ⟨a,n,c,xs,seen,c0,dn,rfl,hxs,hnl,hc0,hh,H1⟩
 have hr:=H1.drop.get
 obtain⟨-,g2⟩:=hat w1 H1.drop.drop
 rcases run_next_at (P:=Tryz.prog) w1 0 w.heap.size bm ck c0 seen ents.toArray ck hr g2 (fun x hx=>hck x (by simpa using hx)) hc0 with⟨e1,e2⟩|⟨e,he,w2,hw2,hrun⟩
 ·refine .inl ⟨w1,e2,?_⟩
  show zVn k LL ents (.returned (.slice a n c)) w1
  exact⟨a,n,c,xs,dn,rfl,hxs,hnl,hh.all hn e1,(H1.swap).drop⟩
 ·have hmem:e∈ents:=by
   have:=he
   simp only[leftOf,Array.toList_filter,yTf]at this
   exact this.1
  obtain⟨m,hm⟩:=hk e hmem
  have hp:=hh.push he
  have H2:Hp k (World.setB w2 w.heap.size (.mapIter (some bm) ck (seen.push e.born) ck)) (slO 2 1 a n c xs::pt w.heap.size (.mapIter (some bm) ck (seen.push e.born) ck)::LL):=by
   have H1':Hp k w2 (slO 2 1 a n c xs::pt w.heap.size (.mapIter (some bm) ck seen c0)::LL):=by
    rcases hw2 with rfl|rfl
    ·exact H1
    ·exact H1.drew
   exact((H1'.swap).upd _).swap
  have hset:Go.ChangeMaps.setBlock w2 w.heap.size (.mapIter (some bm) ck (seen.push e.born) ck)=World.setB w2 w.heap.size (.mapIter (some bm) ck (seen.push e.born) ck):=rfl
  rw[hset]at hrun
  generalize hw3:World.setB w2 w.heap.size (.mapIter (some bm) ck (seen.push e.born) ck)=w3 at H2 hrun
  obtain⟨-,g3⟩:=hat w3 H2.drop.drop
  have hent:=run_entry_at (P:=Tryz.prog) w3 w.heap.size bm ck seen ents.toArray ck e H2.drop.get g3 (by simpa using hmem) (by simpa using hn)
  refine .inr ⟨e.key,e.val,w3,hrun,.tuple #[e.key,e.val],hent,?_⟩
  rw[hm]
  have hlen:=hp.len
  rw[yRi,yUq]at hlen
  refine Eq.mp (α:=zYa w3 (.cells #[.int .i64 m] 2) fun bb w4=>∃(a':Option Addr) (n' c':Nat),∃w5,uC Tryz.prog (Builtin.append_ #[24,24] 24 #[.slice a n c,.slice (some ⟨bb,0,none⟩) 1 1]) w4 (.slice a' n' c') w5∧∃i',.slice a' n' c'=i'∧z9m k LL ents w.heap.size bm ck i' w5∧yAg ents i' w5<yAg ents (.slice a n c) w1) (by kernel_rfl) ?_
  rintro bb w4 hb hw4
  subst hb hw4
  have H3:=(H2.new (.cells [Value.int .i64 m].toArray 2)).lit (sz:=1) (n:=1) rfl
  obtain⟨a',c',w5,hap,H5⟩:=(H3.swap).append (P:=Tryz.prog) (t1:=24) (t2:=24) (rt:=24) (e:=2) (sz:=1) (by_:=8) (z:= #[.int .i64 0]) (by kernel_rfl) (by kernel_rfl) (x:= .slice (some ⟨w3.heap.size,0,none⟩) 1 1) (m:=1) (ys:=[.int .i64 m]) (.inl ⟨_,_,rfl,H3.satR⟩) (by simp[Value.oneC]) rfl (by decide) (by omega)
  refine⟨a',n+1,c',w5,hap,.slice a' (n+1) c',rfl,⟨a',n+1,c',_,_,ck,dn++[e],rfl,?_,?_,ySk _,hp,(H5.swap).drop⟩,?_⟩
  ·rw[hxs,yRm,List.map_singleton,hm]
  ·rw[yRi,hnl];rfl
  ·show ents.length-(n+1)<ents.length-n
   omega
theorem zYj {F:PH}:∀{l:List (Int×Int)} {ents:List MapEntry},MR F (yS l) ents→ents.map (·.key)=l.map (fun p=>Value.int .i64 p.1)
 |[],ents,h=>by
  have h:ents=[]:=h
  subst h;rfl
 |p::l,ents,h=>by
  obtain⟨m,ms,rfl,h1,-,h3⟩:=h
  rw[yRs,yRs,zYj (l:=l) h3,h1]
def zZv:Value→Int
 | .int _ n=>n
 |_=>0
theorem z1o {xs:List Value} {m:List Int} (h:xs.Perm (m.map fun n=>Value.int .i64 n)):∃l:List Int,xs=l.map (fun n=>Value.int .i64 n)∧l.Perm m:=by
 refine⟨xs.map zZv,?_,?_⟩
 ·rw[yTl]
  have:∀x∈xs,((fun n=>Value.int .i64 n)∘zZv) x=x:=by
   intro x hx
   obtain⟨n,_,rfl⟩:=ySm.1 (h.mem_iff.1 hx)
   rfl
  rw[ySh this,List.map_id']
 ·have:=h.map zZv
  rw[yTl]at this
  have e:(zZv∘fun n=>Value.int .i64 n)=id:=rfl
  rw[e,List.map_id]at this
  exact this
theorem z0a (F:PH):∀l:List Int,DRL F (iE l).flatten (l.map fun n=>Value.int .i64 n)
 |[]=>by simp[iE,DRL]
 |n::l=>by
  have ih:=z0a F l
  have e:(iE (n::l)).flatten= .v (.int .i64 n)::(iE l).flatten:=rfl
  rw[e,DRL]
  exact⟨.int .i64 n,_,rfl,by simp[DR,Value.oneC],ih⟩
def sids0C:Con where
 ι:=MSt
 pat:=fun _=>[.nm 0 0]
 pre:=fun s=>[zD s]
 cnd:=fun s=>s.wh.length≤1000000
 alts:=fun s=>[{o:=List Int,res:=fun _=> .own 1,post:=fun l=>[zD s,.own 2 1 (iE l)],rel:=fun l=>l.Perm (s.wh.map (·.1))}]
@[reducible] def zFj (s:MSt):St:=zFp [0] ⟨v8 0 (sids0C.pre s),(sids0C.pre s).length⟩
theorem yFm (s:MSt) (l:List Int) (hl:l.Perm (s.wh.map (·.1))):yDi 1 (.own 5) ((zFj s).new (.own 2 1 (iE l))) (sids0C.alts s):=by
 refine Eq.mp (α:=∃(o:List Int),sb s.p.code=sb s.p.code∧s.p.tick=s.p.tick∧s.p.low=s.p.low∧s.p.high=s.p.high∧s.p.wide=s.p.wide∧s.p.rule=s.p.rule∧s.p.top=s.p.top∧s.p.least=s.p.least∧s.p.part=s.p.part∧AObj.objs 184 Book 6 zQ s.books none=AObj.objs 184 Book 6 zQ s.books none∧yS s.wh=yS s.wh∧AObj.fro 1 (iE s.p.months)=AObj.fro 1 (iE s.p.months)∧AObj.fro 1 (iE s.p.settle)=AObj.fro 1 (iE s.p.settle)∧iE o=iE l∧o.Perm (s.wh.map (·.1))) (by kernel_rfl) ?_
 exact⟨l,rfl,rfl,rfl,rfl,rfl,rfl,rfl,rfl,rfl,rfl,rfl,rfl,rfl,rfl,hl⟩
theorem yAk:sids0C.ok Tryz.prog 101:=by
 intro s hc k L E w ys R hv
 have hc:s.wh.length≤1000000:=hc
 have hnx:=R.nx
 obtain⟨E1,hle,R1⟩:=tW [0] R
 have R1:Rel k L E1 (zFj s) w:=R1
 have hc0:(zFj s).get 0=some (.cells [sV s.p.code,.own 3,zA s.p.tick,zA s.p.low,zA s.p.high,zA s.p.wide,zA s.p.rule,zA s.p.top,zA s.p.least,zA s.p.part,.own 4,.own 1,.mp 2] 182):=rfl
 have hc2:((zFj s).del 0).get 2=some (.map (yS s.wh)):=rfl
 have Ra:=(R1.take hc0).take hc2
 have H0:Hp k w (rHP E1 (2,.map (yS s.wh))::rHP E1 (0,.cells [sV s.p.code,.own 3,zA s.p.tick,zA s.p.low,zA s.p.high,zA s.p.wide,zA s.p.rule,zA s.p.top,zA s.p.least,zA s.p.part,.own 4,.own 1,.mp 2] 182)::((((zFj s).del 0).del 2).rows.map (rHP E1)++fz E1.F::L)):=
  Ra.out.perm (.cons _ (((List.Perm.swap _ _ _).append_left _).trans yRr))
 generalize hrest:(((zFj s).del 0).del 2).rows.map (rHP E1)++fz E1.F::L=rest at H0
 obtain⟨hk,hs,hh⟩:=H0
 cases hh with
 |cons ha hsub hdj hr=>
 cases hr with
 |cons ha0 hsub0 hdj0 hr0=>
 rcases ha with⟨e,_⟩|⟨hd2,t2,r2⟩
 ·cases e
 rcases ha0 with⟨e,_⟩|⟨hd0,t0,r0⟩
 ·cases e
 simp only[rowHP]at r2 r0
 obtain⟨bm,ents,ck,q1,q2,q3,rfl⟩:=r2
 obtain⟨b,l,p1,p2,rfl⟩:=r0
 have H:Hp k w (pt bm (.map ents.toArray ck)::pt b (.cells l.toArray 182)::rest):=⟨hk,_,.cons rfl hsub hdj (.cons rfl hsub0 hdj0 hr0)⟩
 have hl12:l[12]? =some (.map (some bm)):=by
  simp only[VRL,VR]at p2
  obtain⟨_,_,rfl,-,_,_,rfl,-,_,_,rfl,-,_,_,rfl,-,_,_,rfl,-,_,_,rfl,-,_,_,rfl,-,_,_,rfl,-,_,_,rfl,-,_,_,rfl,-,_,_,rfl,-,_,_,rfl,-,y,_,rfl,⟨bb,sub,g1,rfl⟩,rfl⟩:=p2
  rw[t2]at g1
  cases g1
  cases q1
  rfl
 have hys:ys=[.pointer (some ⟨b,0,none⟩)]:=by
  simp only[sids0C,VRL,VR]at hv
  obtain⟨y,_,rfl,⟨b',oo,sub,g1,rfl⟩,rfl⟩:=hv
  rw[hle.get g1]at t0
  cases t0
  cases p1
  rfl
 subst hys
 have hkeys:=zYj q2
 have hlen:ents.length=s.wh.length:=by simpa using congrArg List.length hkeys
 have hcall:=z2l H (fun w' H'=>⟨(H'.swap).get,H'.get⟩) hl12 q3.2 q3.1 (fun e he=>by
  have:e.key∈ents.map (·.key):=ySc (f:=(·.key)) he
  rw[hkeys]at this
  obtain⟨p,_,hp⟩:=ySm.1 this
  exact⟨p.1,hp.symm⟩) (by omega)
 have hdo:=nA (P:=Tryz.prog) (f:=101) (args:= #[.pointer (some ⟨b,0,none⟩)]) (w:=w) (K:=fun v w'=>zVn k (pt bm (.map ents.toArray ck)::pt b (.cells l.toArray 182)::rest) ents (.returned v) w') (by kernel_rfl) (hcall.mono fun e w' h=>by
  have h2:=h
  obtain⟨a,n,c,xs,dn,rfl,-⟩:=h2
  exact⟨_,rfl,h⟩)
 refine hdo.mono ?_
 rintro v w' ⟨a,n,c,xs,dn,hv',rfl,rfl,hperm,H2⟩
 cases hv'
 obtain⟨li,e1,e2⟩:=z1o (xs:=dn.map (·.key)) (m:=s.wh.map (·.1)) (by
  have:=hperm.map (·.key)
  rw[hkeys]at this
  rwa [yTl])
 have elen:dn.length=li.length:=by simpa using congrArg List.length e1
 rw[e1,elen]at H2
 rw[elen]
 have H3:Hp k w' (slO 2 1 a li.length c (li.map fun n=>Value.int .i64 n)::((zFj s).rows.map (rHP E1)++fz E1.F::L)):=by
  have h1:Hp k w' (rHP E1 (2,.map (yS s.wh))::rHP E1 (0,.cells [sV s.p.code,.own 3,zA s.p.tick,zA s.p.low,zA s.p.high,zA s.p.wide,zA s.p.rule,zA s.p.top,zA s.p.least,zA s.p.part,.own 4,.own 1,.mp 2] 182)::slO 2 1 a li.length c (li.map fun n=>Value.int .i64 n)::rest):=by
   have g0:Hp k w' (pt bm (.map ents.toArray ck)::pt b (.cells l.toArray 182)::slO 2 1 a li.length c (li.map fun n=>Value.int .i64 n)::rest):=
    H2.perm ((List.Perm.swap _ _ _).trans (.cons _ (.swap _ _ _)))
   have g1:=g0.imp (B:=rHP E1 (2,.map (yS s.wh))) fun x hx=> .inr ⟨hd2,t2,by simp only[rowHP];exact⟨bm,ents,ck,q1,q2,q3,hx⟩⟩
   have g2:=(g1.swap).imp (B:=rHP E1 (0,.cells [sV s.p.code,.own 3,zA s.p.tick,zA s.p.low,zA s.p.high,zA s.p.wide,zA s.p.rule,zA s.p.top,zA s.p.least,zA s.p.part,.own 4,.own 1,.mp 2] 182)) fun x hx=> .inr ⟨hd0,t0,by simp only[rowHP];exact⟨b,l,p1,p2,hx⟩⟩
   exact g2.swap
  subst hrest
  refine h1.perm ?_
  have p0:=((wD hc0).1.map (rHP E1))
  have p2:=((wD hc2).1.map (rHP E1))
  have p3:=(p0.trans (p2.cons _)).append_right (fz E1.F::L)
  refine List.Perm.trans ?_ (p3.symm.cons _)
  exact(List.Perm.swap _ _ _).trans ((List.Perm.cons _ (.swap _ _ _)).trans (.swap _ _ _))
 have hle2:E1.le ⟨E1.F,E1.tab++[((.slice a li.length c,[]):Hd)]⟩:=Ev.le.app _
 have hget:(E1.tab++[((.slice a li.length c,[]):Hd)])[(zFj s).nx]? =some (.slice a li.length c,[]):=by rw[← R1.nx];simp
 have R2:Rel k L ⟨E1.F,E1.tab++[((.slice a li.length c,[]):Hd)]⟩ ((zFj s).new (.own 2 1 (iE li))) w':=by
  refine⟨by simp[St.new,R1.nx],?_⟩
  have g1:Hp k w' ((zFj s).rows.map (rHP E1)++(slO 2 1 a li.length c (li.map fun n=>Value.int .i64 n)::fz E1.F::L)):=H3.perm (yRr (l₁:=(zFj s).rows.map (rHP E1))).symm
  have g2:=jM (fun r x=>rHP.mono hle2 r) g1
  have g3:Hp k w' (slO 2 1 a li.length c (li.map fun n=>Value.int .i64 n)::((zFj s).rows.map (rHP ⟨E1.F,E1.tab++[((.slice a li.length c,[]):Hd)]⟩)++fz E1.F::L)):=g2.perm yRr
  exact g3.imp fun x hx=> .inr ⟨_,hget,by
   simp only[rowHP]
   exact⟨a,c,_,by rw[yY],z0a _ li,fun el hel=>by obtain⟨n,_,rfl⟩:=ySm.1 hel;rfl,by rw[yY];exact hx⟩⟩
 obtain⟨al,ha,hend⟩:=zBd (yFm s li e2)
 obtain⟨o,o1,E3,o2,o3,o4⟩:=zPm hend hnx (hle.trans hle2) R2 (y:= .slice a li.length c) (by simp only[VR];exact⟨_,hget,_,_,_,rfl⟩)
 exact⟨al,ha,o,o1,E3,o2,o3,o4⟩
open Go Cv Go.Proofs
structure MkB where
 m:Mkt
 p:Prd
 B:List (List zH)
 U:List Int
@[reducible] def MkB.ok (i:MkB):Prop:=i.m.Rep i.p i.B i.U∧BOk i.p i.B
def midsC:Con where
 ι:=MkB
 pat:=fun _=>[.nm 0 0]
 pre:=fun i=>[xS i.m]
 cnd:=fun i=>i.ok
 alts:=fun i=>[{o:=List Int,res:=fun _=> .own 1,post:=fun l=>[xS i.m,.own 2 1 (iE l)],rel:=fun l=>l.Perm ((whL 0 i.B).map (·.1))}]
def clUsC:Con:=zWv 2
def mcopyC:Con:=con1 MkB (fun _=>[.nm 0 0]) (fun i=>[xS i.m]) (fun i=>i.ok) (fun _=> .nm 1 0) (fun i=>[xS i.m,xS i.m])
structure Gt where
 m:Mkt
 W:List (Int×Int)
def xP (W:List (Int×Int)):List (Value×List D):=W.map fun x=>(.int .i64 x.1,[.v (.int .i64 x.2)])
def GtU (g:Gt):Nat→AObj
 |0=> .cells [.nm 1 0,.mp 2] 107
 |1=>xS g.m
 |2=> .map (xP g.W)
 |_=> .gone
def GtR (g:Gt):AObj:= .adt Gt 3 GtU g
def gN (o:Int×Rep):List D:= .v (.int .i64 o.1)::xJ o.2
@[reducible] def zWx:Nat:=42
@[reducible] def yHv (O:List (Int×Rep)):AObj:= .own zWx 9 (O.map gN)
def newGC:Con where
 ι:=Prd
 pat:=fun p=>[prdV p]
 pre:=fun _=>[]
 cnd:=fun p=>p.small
 alts:=fun p=>[{o:=Unit,res:=fun _=> .tup [.nm 0 0,zA 0],post:=fun _=>[GtR ⟨⟨p,cT p,[]⟩,[]⟩],rel:=fun _=>p.check=0},{o:=Unit,res:=fun _=> .tup [.d (.v (.pointer none)),zA p.check],post:=fun _=>[],rel:=fun _=>p.check≠0}]
structure GrI where
 s:Int
 id:Int
 why:Int
def grejC:Con:=con1 GrI (fun i=>[zA i.s,zA i.id,zA i.why]) (fun _=>[]) (fun _=>True) (fun _=> .own 0) (fun i=>[yHv [(i.s,⟨2,i.id,0,0,0,0,0,i.why⟩)]])
structure SbI where
 s:Int
 b:List UInt8
def yG (s:Int) (b:List UInt8):Cmd×Int:=if s<0∨8≤s then(zTm,1)else xG b
def greadC:Con:=con1 SbI (fun i=>[zA i.s,roV 1 (bE i.b)]) (fun _=>[]) (fun i=>i.b.length≤1099511627776) (fun i=> .tup [zAa (yG i.s i.b).1,zA (yG i.s i.b).2]) (fun _=>[])
structure GtI where
 g:Gt
 p:Prd
 B:List (List zH)
 U:List Int
 s:Int
@[reducible] def GtI.ok (i:GtI):Prop:=i.g.m.Rep i.p i.B i.U∧BOk i.p i.B
def gopenC:Con:=con1 GtI (fun i=>[.nm 0 0,zA i.s]) (fun i=>[GtR i.g]) (fun i=>i.ok) (fun i=>zA (tP i.B i.g.W i.s)) (fun i=>[GtR i.g])
def GtO (g:Gt):List AObj:=[.cells [.nm 1 0,.mp 2] 107,xS g.m,.map (xP g.W)]
def gopenOC:Con:=con1 GtI (fun i=>[.nm 0 0,zA i.s]) (fun i=>GtO i.g) (fun i=>i.ok) (fun i=>zA (tP i.B i.g.W i.s)) (fun i=>GtO i.g)
def z9y:List SAnn:=[{ι:=Int×Nat,slots:=fun j=>[(5,zA j.1),(14,zA j.2)],rows:=fun _=>[]}]
def gownerC:Con:=con1 GtI (fun i=>[.nm 0 0,zA i.s]) (fun i=>[GtR i.g]) (fun _=>True) (fun i=> .tup [zA (wO i.g.W i.s).1,yM (wO i.g.W i.s).2]) (fun i=>[GtR i.g])
def gmktC:Con:=con1 GtI (fun _=>[.nm 0 0]) (fun i=>[GtR i.g]) (fun i=>i.ok) (fun _=> .nm 1 0) (fun i=>[GtR i.g,xS i.g.m])
structure GdI where
 g:Gt
 p:Prd
 B:List (List zH)
 U:List Int
 s:Int
 b:List UInt8
 X:GtX
def gdoC:Con where
 ι:=GdI
 pat:=fun i=>[.nm 0 0,zA i.s,roV 1 (bE i.b)]
 pre:=fun i=>[GtR i.g]
 cnd:=fun i=>(i.g.m.Rep i.p i.B i.U∧BOk i.p i.B)∧i.b.length≤1099511627776∧i.X=dC i.p i.B i.U i.g.W i.s i.b
 alts:=fun i=>[{o:=Mkt,res:=fun _=> .own 1,post:=fun o=>[GtR ⟨o,i.X.W⟩,yHv i.X.O],rel:=fun o=>o.Rep i.p i.X.B i.X.U}]
structure GdJ where
 o:Mkt
 W:List (Int×Int)
 O:List (Int×Rep)
 k:Nat
def GdJ.rows (j:GdJ):List AObj:=[.cells [.nm 1 0,.mp 2] 107,xS j.o,.map (xP j.W),yHv j.O]
def yPj:List SAnn:=[{ι:=GdJ,slots:=fun j=>[(0,.nm 0 0),(11,.own 3),(74,zA j.k)],rows:=GdJ.rows}]
def yPy:List (Nat×SAnn):=[(20,bj 36),(28,bj 50),(66,ij 14)]
open Go Cv Go.Proofs
def yAx (es:List (Value×List D)):Prop:=
 ∃(a:List (Value×List D)),a=es∧True∧∀(b:Unit),True→∃(c:Unit),es=a∧es=a∧True
theorem yMf (es:List (Value×List D)):yAx es=walk Tryz.prog ([(147,uJ 119)]) 0 ([]) ([]) [] Tryz.f104 (Tryz.f104.body.getD .skip) (clUsC.pat es) (clUsC.pre es) (clUsC.alts es):=by kernel_rfl
theorem yIf (hG:GOk Tryz.prog ([(147,uJ 119)])) (h:∀(es:List (Value×List D)),clUsC.cnd es→yAx es):clUsC.ok Tryz.prog 104:=gZ mixed ([(147,uJ 119)]) hG 0 (fun(es:List (Value×List D))=>[]) (fun(es:List (Value×List D))=>[]) [] Tryz.func104 (by kernel_rfl) (by kernel_rfl) (by kernel_rfl) (fun _=>by kernel_rfl) (fun(es:List (Value×List D)) hc=>Eq.mp (yMf es) (h es hc))
def yOu (i:MkB):Prop:=
 ∃(i_1:MSt),zD i_1=zD i.m.s∧i_1.wh.length≤1000000∧∀(o:List Int),o.Perm (List.map (fun(x:Int×Int) ↦ x.fst) i_1.wh)→∃(o_1:List Int),sb i.m.p.code=sb i.m.p.code∧i.m.p.tick=i.m.p.tick∧i.m.p.low=i.m.p.low∧i.m.p.high=i.m.p.high∧i.m.p.wide=i.m.p.wide∧i.m.p.rule=i.m.p.rule∧i.m.p.top=i.m.p.top∧i.m.p.least=i.m.p.least∧i.m.p.part=i.m.p.part∧zD i.m.s=zD i_1∧zW i.m.used=zW i.m.used∧AObj.fro 1 (iE i.m.p.months)=AObj.fro 1 (iE i.m.p.months)∧AObj.fro 1 (iE i.m.p.settle)=AObj.fro 1 (iE i.m.p.settle)∧iE o_1=iE o∧o_1.Perm (List.map (fun(x:Int×Int) ↦ x.fst) (whL 0 i.B))
def yJl (i:MkB):Prop:=
 ∃(i_1:MSt),zD i_1=zD i.m.s∧(i_1.books.length≤1000000∧∀(b:Book),b∈i_1.books→(b.a.slots.length≤1000000∧b.a.queues.length≤1000000)∧b.buys.length≤1000000∧b.sells.length≤1000000∧b.spare.length≤1000000)∧∀(o:Unit),True→True∧(sb i.m.p.code=sb i.m.p.code∧True∧i.m.p.tick=i.m.p.tick∧i.m.p.low=i.m.p.low∧i.m.p.high=i.m.p.high∧i.m.p.wide=i.m.p.wide∧i.m.p.rule=i.m.p.rule∧i.m.p.top=i.m.p.top∧i.m.p.least=i.m.p.least∧i.m.p.part=i.m.p.part∧True∧True)∧∃(i_2:List (Value×List D)),i_2=zW i.m.used∧True∧∀(o:Unit),True→(sb i.m.p.code=sb i.m.p.code∧True∧i.m.p.tick=i.m.p.tick∧i.m.p.low=i.m.p.low∧i.m.p.high=i.m.p.high∧i.m.p.wide=i.m.p.wide∧i.m.p.rule=i.m.p.rule∧i.m.p.top=i.m.p.top∧i.m.p.least=i.m.p.least∧i.m.p.part=i.m.p.part∧True∧True)∧∃(o:Unit),sb i.m.p.code=sb i.m.p.code∧i.m.p.tick=i.m.p.tick∧i.m.p.low=i.m.p.low∧i.m.p.high=i.m.p.high∧i.m.p.wide=i.m.p.wide∧i.m.p.rule=i.m.p.rule∧i.m.p.top=i.m.p.top∧i.m.p.least=i.m.p.least∧i.m.p.part=i.m.p.part∧zD i.m.s=zD i_1∧zW i.m.used=i_2∧AObj.fro 1 (iE i.m.p.months)=AObj.fro 1 (iE i.m.p.months)∧AObj.fro 1 (iE i.m.p.settle)=AObj.fro 1 (iE i.m.p.settle)∧sb i.m.p.code=sb i.m.p.code∧i.m.p.tick=i.m.p.tick∧i.m.p.low=i.m.p.low∧i.m.p.high=i.m.p.high∧i.m.p.wide=i.m.p.wide∧i.m.p.rule=i.m.p.rule∧i.m.p.top=i.m.p.top∧i.m.p.least=i.m.p.least∧i.m.p.part=i.m.p.part∧zD i.m.s=zD i_1∧zW i.m.used=i_2∧AObj.fro 1 (iE i.m.p.months)=AObj.fro 1 (iE i.m.p.months)∧AObj.fro 1 (iE i.m.p.settle)=AObj.fro 1 (iE i.m.p.settle)∧True
def yNb (p:Prd):Prop:=
 ∃(i:Prd),sb i.code=sb p.code∧iE i.months=iE p.months∧i.tick=p.tick∧i.low=p.low∧i.high=p.high∧i.wide=p.wide∧i.rule=p.rule∧i.top=p.top∧i.least=p.least∧i.part=p.part∧iE i.settle=iE p.settle∧(i.code.length≤1099511627776∧i.months.length≤1099511627776∧i.settle.length≤1099511627776)∧(∀(o:Unit),i.check=0→(∃(o:Unit),(0:Int)=(0:Int)∧AObj.adt Mkt 5 yL (Mkt.mk p (cT p) [])=AObj.adt Mkt 5 yL (Mkt.mk i (cT i) [])∧xP []=[]∧p.check=0)∨∃(o:Unit),False)∧∀(o:Unit),i.check≠0→cnd (i.check !=0) ((∃(o:Unit),False)∨∃(o:Unit),True∧p.check=i.check∧(p.check=0→False)) ((∃(o:Unit),(0:Int)=(0:Int)∧False)∨∃(o:Unit),False)
def yOt (i:GrI):Prop:=
 ∃(o:Unit),[gN (i.s,Rep.mk 2 i.id 0 0 0 0 0 i.why)]=[[D.v (.int .i64 i.s),D.v (.int .i64 2),D.v (.int .i64 i.id),D.v (.int .i64 0),D.v (.int .i64 0),D.v (.int .i64 0),D.v (.int .i64 0),D.v (.int .i64 0),D.v (.int .i64 i.why)]]∧True
def yLw (i:SbI):Prop:=
 cnd (decide (i.s<0)) (∃(o:Unit),(yG i.s i.b).fst.kind=0∧(yG i.s i.b).fst.id=0∧(yG i.s i.b).fst.inst=0∧(yG i.s i.b).fst.side=0∧(yG i.s i.b).fst.price=0∧(yG i.s i.b).fst.qty=0∧(yG i.s i.b).fst.least=0∧(yG i.s i.b).fst.time=0∧sb (yG i.s i.b).fst.label=ByteArray.mk #[]∧(yG i.s i.b).snd=1∧True) (cnd (decide (i.s≥8)) (∃(o:Unit),(yG i.s i.b).fst.kind=0∧(yG i.s i.b).fst.id=0∧(yG i.s i.b).fst.inst=0∧(yG i.s i.b).fst.side=0∧(yG i.s i.b).fst.price=0∧(yG i.s i.b).fst.qty=0∧(yG i.s i.b).fst.least=0∧(yG i.s i.b).fst.time=0∧sb (yG i.s i.b).fst.label=ByteArray.mk #[]∧(yG i.s i.b).snd=1∧True) (∃(i_1:List UInt8),bE i_1=bE i.b∧i_1.length≤1099511627776∧∀(o:Unit),True→∃(o:Unit),(yG i.s i.b).fst.kind=(xG i_1).fst.kind∧(yG i.s i.b).fst.id=(xG i_1).fst.id∧(yG i.s i.b).fst.inst=(xG i_1).fst.inst∧(yG i.s i.b).fst.side=(xG i_1).fst.side∧(yG i.s i.b).fst.price=(xG i_1).fst.price∧(yG i.s i.b).fst.qty=(xG i_1).fst.qty∧(yG i.s i.b).fst.least=(xG i_1).fst.least∧(yG i.s i.b).fst.time=(xG i_1).fst.time∧sb (yG i.s i.b).fst.label=sb (xG i_1).fst.label∧(yG i.s i.b).snd=(xG i_1).snd∧True))
def zCn (a:Int×Nat) (b:Int×Nat) (c:Int×Nat→Prop) (d:Int×Nat→Nat) (e:MkB) (f:List Int) (g:GtI):Prop:=(↑a.snd:Int)=IntKind.i64.wrap ((↑b.snd:Int)+1)∧c a∧d a<d b∧xS e.m=xS e.m∧AObj.own 2 1 (iE f)=AObj.own 2 1 (iE f)∧Sx.AObj.cells (jX (qR 0 1 3) [V.nm 1 0,V.mp 2]) (107:TypeId)=Sx.AObj.cells (jX (qR 0 1 3) [V.nm 1 0,V.mp 2]) (107:TypeId)∧Sx.AObj.map (xP g.g.W)=Sx.AObj.map (xP g.g.W)
def z9r (i:GtI):Prop:=
 ∃(a:MkB),xS a.m=xS i.g.m∧(a.m.Rep a.p a.B a.U∧BOk a.p a.B)∧∀(b:List Int),b.Perm (List.map (fun(x:Int×Int) ↦ x.fst) (whL 0 a.B))→∃(c:Int×Nat),c.fst=0∧(↑c.snd:Int)=0∧∃(d:Int×Nat→Prop),∃(e:Int×Nat→Nat),d c∧∀(f:Int×Nat),d f→cnd (decide ((↑f.snd:Int)<(↑(iE b).length:Int))) ((0≤(↑f.snd:Int)∧(↑f.snd:Int)<(↑(iE b).length:Int))∧∃(g:Int),zE (iE b) (↑f.snd:Int).toNat 0 1=some [dI g]∧(∀(h:Value×List D),h∈xP i.g.W→like (Value.int IntKind.i64 g) h.fst=true)∧∃(h:Bool),∃(j:Int),(qK (Value.int IntKind.i64 g) (xP i.g.W)=some [dI j]∧h=true∨qK (Value.int IntKind.i64 g) (xP i.g.W)=none∧[dI j]=[dI 0]∧h=false)∧cnd (j==i.s) (∃(k:Int×Nat),k.fst=IntKind.i64.wrap (f.fst+1)∧zCn k f d e a b i) (∃(k:Int×Nat),k.fst=f.fst∧zCn k f d e a b i)) (∃(g:Unit),(↑(tP i.B i.g.W i.s):Int)=f.fst∧xS i.g.m=xS a.m∧xP i.g.W=xP i.g.W∧True)
def yEo (i:GtI):Prop:=
 ∃(i_1:MkB),AObj.adt Mkt 5 yL i_1.m=xS i.g.m∧(i_1.m.Rep i_1.p i_1.B i_1.U∧BOk i_1.p i_1.B)∧∀(o:List Int),o.Perm (List.map (fun(x:Int×Int) ↦ x.fst) (whL 0 i_1.B))→∃(i0:Int×Nat),i0.fst=0∧(↑i0.snd:Int)=0∧∃(I:Int×Nat→Prop),∃(μ:Int×Nat→Nat),I i0∧∀(i_2:Int×Nat),I i_2→cnd (decide ((↑i_2.snd:Int)<(↑(iE o).length:Int))) ((0≤(↑i_2.snd:Int)∧(↑i_2.snd:Int)<(↑(iE o).length:Int))∧∃(n:Int),zE (iE o) (↑i_2.snd:Int).toNat 0 1=some [D.v (.int .i64 n)]∧(∀(p:Value×List D),p∈xP i.g.W→like (Value.int IntKind.i64 n) p.fst=true)∧∃(b:Bool),∃(n_1:Int),(qK (Value.int IntKind.i64 n) (xP i.g.W)=some [D.v (.int .i64 n_1)]∧b=true∨qK (Value.int IntKind.i64 n) (xP i.g.W)=none∧[D.v (.int .i64 n_1)]=[D.v (.int .i64 0)]∧b=false)∧cnd (n_1==i.s) (∃(i':Int×Nat),i'.fst=IntKind.i64.wrap (i_2.fst+1)∧(↑i'.snd:Int)=IntKind.i64.wrap ((↑i_2.snd:Int)+1)∧I i'∧μ i'<μ i_2∧AObj.adt Mkt 5 yL i_1.m=AObj.adt Mkt 5 yL i_1.m∧AObj.own 2 1 (iE o)=AObj.own 2 1 (iE o)∧Sx.AObj.cells [V.nm 1 0,V.mp 2] (107:TypeId)=Sx.AObj.cells [V.nm 1 0,V.mp 2] (107:TypeId)∧Sx.AObj.map (xP i.g.W)=Sx.AObj.map (xP i.g.W)) (∃(i':Int×Nat),i'.fst=i_2.fst∧(↑i'.snd:Int)=IntKind.i64.wrap ((↑i_2.snd:Int)+1)∧I i'∧μ i'<μ i_2∧AObj.adt Mkt 5 yL i_1.m=AObj.adt Mkt 5 yL i_1.m∧AObj.own 2 1 (iE o)=AObj.own 2 1 (iE o)∧Sx.AObj.cells [V.nm 1 0,V.mp 2] (107:TypeId)=Sx.AObj.cells [V.nm 1 0,V.mp 2] (107:TypeId)∧Sx.AObj.map (xP i.g.W)=Sx.AObj.map (xP i.g.W))) (∃(o:Unit),(↑(tP i.B i.g.W i.s):Int)=i_2.fst∧AObj.adt Mkt 5 yL i.g.m=AObj.adt Mkt 5 yL i_1.m∧xP i.g.W=xP i.g.W∧True)
def yCu (i:GtI):Prop:=
 (∀(p:Value×List D),p∈xP i.g.W→like (Value.int IntKind.i64 i.s) p.fst=true)∧∃(b:Bool),∃(n:Int),(qK (Value.int IntKind.i64 i.s) (xP i.g.W)=some [D.v (.int .i64 n)]∧b=true∨qK (Value.int IntKind.i64 i.s) (xP i.g.W)=none∧[D.v (.int .i64 n)]=[D.v (.int .i64 0)]∧b=false)∧∃(o:Unit),(wO i.g.W i.s).fst=n∧(wO i.g.W i.s).snd=b∧AObj.adt Mkt 5 yL i.g.m=AObj.adt Mkt 5 yL i.g.m∧xP i.g.W=xP i.g.W∧True
def yOo (i:GtI):Prop:=
 ∃(i_1:MkB),AObj.adt Mkt 5 yL i_1.m=AObj.adt Mkt 5 yL i.g.m∧(i_1.m.Rep i_1.p i_1.B i_1.U∧BOk i_1.p i_1.B)∧∀(o:Unit),True→∃(o:Unit),AObj.adt Mkt 5 yL i.g.m=AObj.adt Mkt 5 yL i_1.m∧xP i.g.W=xP i.g.W∧AObj.adt Mkt 5 yL i.g.m=AObj.adt Mkt 5 yL i_1.m∧True
def pO:=(1+((3:Nat)-(1:Nat))+((0:Nat)-(0:Nat))+(1:Nat)+(0:Nat)+0+((2:Nat)-(1:Nat))+1)
def rB (a:Int) (b:GdI) (c:GdJ):=(vI (Value.int IntKind.i64 a) [dI b.s] (xP c.W))
def cE (a:SbI):=(D.v (Value.string (sb (yG a.s a.b).fst.label)))
def dY (a:SbI):=(dI ((yG a.s a.b).fst.price))
def cA (a:SbI):=(dI ((yG a.s a.b).fst.least))
def cO (a:SbI):=(dI ((yG a.s a.b).fst.time))
def cF (a:SbI):=(dI ((yG a.s a.b).fst.side))
def cR (a:SbI):=(dI ((yG a.s a.b).fst.kind))
def c8 (a:SbI):=(dI ((yG a.s a.b).fst.inst))
def cM (a:SbI):=(dI ((yG a.s a.b).fst.qty))
def cN (a:SbI):=(dI ((yG a.s a.b).fst.id))
def zPf (a:EnI) (b:SbI):Prop:=AObj.own tRp 8 (List.map xJ a.X.R)=AObj.own tRp 8 (List.map xJ a.X.R)∧Sx.AObj.cells [V.d (cR b),V.d (cN b),V.d (c8 b),V.d (cF b),V.d (dY b),V.d (cM b),V.d (cA b),V.d (cO b),V.d (cE b)] 36=Sx.AObj.cells [V.d (cR b),V.d (cN b),V.d (c8 b),V.d (cF b),V.d (dY b),V.d (cM b),V.d (cA b),V.d (cO b),V.d (cE b)] 36
def zNo (a:GdJ) (b:EnI) (c:SbI):Prop:=AObj.own zWx 9 (List.map gN a.O)=AObj.own zWx 9 (List.map gN a.O)∧zPf b c
def zOr (a:Int→Prop) (b:Int) (c:Int) (d:Int) (e:Int) (f:Int) (g:Int) (h:Int) (j:Int) (k:Int) (l:GdJ) (m:GdJ) (n:GdI) (p:EnI) (q:SbI):Prop:=a b∧Sx.AObj.cells [V.d (dI c),V.d (dI d),V.d (dI e),V.d (dI f),V.d (dI g),V.d (dI h),V.d (dI j),V.d (dI k)] 40=Sx.AObj.cells [V.d (dI c),V.d (dI d),V.d (dI e),V.d (dI f),V.d (dI g),V.d (dI h),V.d (dI j),V.d (dI k)] 40∧Sx.AObj.cells (jX (cW pO [((2:Nat),1+nat_lit 1),((1:Nat),1+nat_lit 0),((3:Nat),1+((3:Nat)-(1:Nat))+((0:Nat)-(0:Nat))+(1:Nat)+(0:Nat)+0+((2:Nat)-(1:Nat))),((0:Nat),(0:Nat))] 0 l.rows) [V.nm 1 0,V.mp 2]) (107:TypeId)=Sx.AObj.cells (jX (cW pO [((2:Nat),1+nat_lit 1),((1:Nat),1+nat_lit 0),((3:Nat),1+((3:Nat)-(1:Nat))+((0:Nat)-(0:Nat))+(1:Nat)+(0:Nat)+0+((2:Nat)-(1:Nat))),((0:Nat),(0:Nat))] 0 l.rows) [V.nm 1 0,V.mp 2]) (107:TypeId)∧xS m.o=xS m.o∧Sx.AObj.map (rB d n m)=Sx.AObj.map (rB d n m)∧zNo m p q
def zNm (a:Int→Prop) (b:Int) (c:Int) (d:Int) (e:Int) (f:Int) (g:Int) (h:Int) (j:Int) (k:Int) (l:GdJ) (m:GdJ) (n:EnI) (p:SbI):Prop:=a b∧Sx.AObj.cells [V.d (dI c),V.d (dI d),V.d (dI e),V.d (dI f),V.d (dI g),V.d (dI h),V.d (dI j),V.d (dI k)] 40=Sx.AObj.cells [V.d (dI c),V.d (dI d),V.d (dI e),V.d (dI f),V.d (dI g),V.d (dI h),V.d (dI j),V.d (dI k)] 40∧Sx.AObj.cells (jX (cW pO [((2:Nat),1+nat_lit 1),((1:Nat),1+nat_lit 0),((3:Nat),1+((3:Nat)-(1:Nat))+((0:Nat)-(0:Nat))+(1:Nat)+(0:Nat)+0+((2:Nat)-(1:Nat))),((0:Nat),(0:Nat))] 0 l.rows) [V.nm 1 0,V.mp 2]) (107:TypeId)=Sx.AObj.cells (jX (cW pO [((2:Nat),1+nat_lit 1),((1:Nat),1+nat_lit 0),((3:Nat),1+((3:Nat)-(1:Nat))+((0:Nat)-(0:Nat))+(1:Nat)+(0:Nat)+0+((2:Nat)-(1:Nat))),((0:Nat),(0:Nat))] 0 l.rows) [V.nm 1 0,V.mp 2]) (107:TypeId)∧xS m.o=xS m.o∧Sx.AObj.map (xP m.W)=Sx.AObj.map (xP m.W)∧zNo m n p
def zFr (a:Bool→Prop) (b:Bool) (c:SbI) (d:GdI):Prop:=a b∧Sx.AObj.cells [V.d (cR c),V.d (cN c),V.d (c8 c),V.d (cF c),V.d (dY c),V.d (cM c),V.d (cA c),V.d (cO c),V.d (cE c)] 36=Sx.AObj.cells [V.d (cR c),V.d (cN c),V.d (c8 c),V.d (cF c),V.d (dY c),V.d (cM c),V.d (cA c),V.d (cO c),V.d (cE c)] 36∧Sx.AObj.cells (jX (qR 0 1 3) [V.nm 1 0,V.mp 2]) (107:TypeId)=Sx.AObj.cells (jX (qR 0 1 3) [V.nm 1 0,V.mp 2]) (107:TypeId)∧xS d.g.m=xS d.g.m∧Sx.AObj.map (xP d.g.W)=Sx.AObj.map (xP d.g.W)
def zOx (a:Bool→Prop) (b:SbI) (c:GdI):Prop:=∃(d:Bool),d=false∧zFr a d b c
def zPo (a:GdJ) (b:GdJ) (c:Int) (d:Int) (e:Int) (f:Int) (g:Int) (h:Int) (j:Int) (k:Int) (l:Int) (m:GdJ→Prop) (n:GdJ→Nat) (p:EnI) (q:SbI):Prop:=List.map gN a.O=List.map gN b.O++[[dI c,dI d,dI e,dI f,dI g,dI h,dI j,dI k,dI l]]∧m a∧n a<n b∧zPf p q
def zAv (a:GdI) (b:GrI):Prop:=True∧∀(c:Unit),True→∃(d:Mkt),xS d=xS a.g.m∧xP a.X.W=xP a.g.W∧List.map gN a.X.O=[gN (b.s,Rep.mk 2 b.id 0 0 0 0 0 b.why)]∧d.Rep a.p a.X.B a.X.U
def zBf (a:EnI):Prop:=(a.m.Rep a.p a.B a.U∧BOk a.p a.B)∧a.c.label.length≤140737488355328∧((-9223372036854775808)≤a.c.qty∧a.c.qty≤9223372036854775807)∧a.X=doF a.p a.B a.U a.c
def l6 (a:SbI):=(Value.int IntKind.i64 (yG a.s a.b).fst.id)
def yMm (i:GdI):Prop:=
 ∃(a:SbI),a.s=i.s∧bE a.b=bE i.b∧a.b.length≤1099511627776∧∀(b:Unit),True→cnd ((yG a.s a.b).snd !=0) (∃(c:GrI),c.s=i.s∧c.id=0∧c.why=(yG a.s a.b).snd∧zAv i c) ((∀(c:Value×List D),c∈xP i.g.W→like (l6 a) c.fst=true)∧∃(c:Bool),∃(d:Int),(qK (l6 a) (xP i.g.W)=some [dI d]∧c=true∨qK (l6 a) (xP i.g.W)=none∧[dI d]=[dI 0]∧c=false)∧∃(e:Bool),∃(f:Bool→Prop),cnd ((yG a.s a.b).fst.kind==1) (∃(g:GtI),g.s=i.s∧xS g.g.m=xS i.g.m∧xP g.g.W=xP i.g.W∧(g.g.m.Rep g.p g.B g.U∧BOk g.p g.B)∧∀(h:Unit),True→∃(j:Bool),j=decide ((↑(tP g.B g.g.W g.s):Int)≥64)∧f j∧Sx.AObj.cells [V.d (cR a),V.d (cN a),V.d (c8 a),V.d (cF a),V.d (dY a),V.d (cM a),V.d (cA a),V.d (cO a),V.d (cE a)] 36=Sx.AObj.cells [V.d (cR a),V.d (cN a),V.d (c8 a),V.d (cF a),V.d (dY a),V.d (cM a),V.d (cA a),V.d (cO a),V.d (cE a)] 36∧Sx.AObj.cells (jX (dA 3 (1+((3:Nat)-(1:Nat))+((0:Nat)-(0:Nat))+(1:Nat)+(0:Nat)) ((3:Nat)-(3:Nat)) [((2:Nat),1+nat_lit 1),((1:Nat),1+nat_lit 0),((0:Nat),(0:Nat))]) [V.nm 1 0,V.mp 2]) (107:TypeId)=Sx.AObj.cells (jX (qR 0 1 3) [V.nm 1 0,V.mp 2]) (107:TypeId)∧xS g.g.m=xS i.g.m∧Sx.AObj.map (xP g.g.W)=Sx.AObj.map (xP i.g.W)) (zOx f a i)∧∀(g:Bool),f g→cnd g (∃(h:GrI),h.s=i.s∧h.id=(yG a.s a.b).fst.id∧h.why=30∧zAv i h) (∃(h:Bool),∃(j:Bool→Prop),cnd ((yG a.s a.b).fst.kind !=1) (cnd (!c) (∃(k:Bool),k=true∧zFr j k a i) (∃(k:Bool),k=(d !=i.s)∧zFr j k a i)) (zOx j a i)∧∀(k:Bool),j k→cnd k (∃(l:GrI),l.s=i.s∧l.id=(yG a.s a.b).fst.id∧l.why=26∧zAv i l) (∃(l:EnI),l.c.kind=(yG a.s a.b).fst.kind∧l.c.id=(yG a.s a.b).fst.id∧l.c.inst=(yG a.s a.b).fst.inst∧l.c.side=(yG a.s a.b).fst.side∧l.c.price=(yG a.s a.b).fst.price∧l.c.qty=(yG a.s a.b).fst.qty∧l.c.least=(yG a.s a.b).fst.least∧l.c.time=(yG a.s a.b).fst.time∧sb l.c.label=sb (yG a.s a.b).fst.label∧xS l.m=xS i.g.m∧(zBf l)∧∀(m:Mkt),m.Rep l.p l.X.B l.X.U→∃(n:GdJ),(↑n.k:Int)=0∧xS n.o=xS m∧xP n.W=xP i.g.W∧List.map gN n.O=[]∧∃(p:GdJ→Prop),∃(q:GdJ→Nat),p n∧∀(r:GdJ),p r→cnd (decide ((↑r.k:Int)<(↑(List.map xJ l.X.R).length:Int))) ((0≤(↑r.k:Int)∧(↑r.k:Int)<(↑(List.map xJ l.X.R).length:Int))∧∃(s:Int),∃(t:Int),∃(u:Int),∃(v:Int),∃(w:Int),∃(x:Int),∃(y:Int),∃(z:Int),zE (List.map xJ l.X.R) (↑r.k:Int).toNat 0 8=some [dI s,dI t,dI u,dI v,dI w,dI x,dI y,dI z]∧cnd (s==1) ((∀(a_1:Value×List D),a_1∈xP r.W→like (Value.int IntKind.i64 t) a_1.fst=true)∧(∀(a_1:Value×List D),a_1∈vI (Value.int IntKind.i64 t) [dI i.s] (xP r.W)→like (Value.int IntKind.i64 t) a_1.fst=true)∧∃(a_1:Bool),∃(a_2:Int),(qK (Value.int IntKind.i64 t) (rB t i r)=some [dI a_2]∧a_1=true∨qK (Value.int IntKind.i64 t) (rB t i r)=none∧[dI a_2]=[dI 0]∧a_1=false)∧∃(a_3:Int),∃(a_4:Int→Prop),cnd (s==2) (∃(a_5:Int),a_5=i.s∧zOr a_4 a_5 s t u v w x y z n r i l a) (∃(a_5:Int),a_5=a_2∧zOr a_4 a_5 s t u v w x y z n r i l a)∧∀(a_5:Int),a_4 a_5→((List.map gN r.O).length+1)*(72:Nat)≤(70368744177664:Nat)∧∃(a_6:GdJ),(↑a_6.k:Int)=IntKind.i64.wrap ((↑r.k:Int)+1)∧xS a_6.o=xS r.o∧xP a_6.W=vI (Value.int IntKind.i64 t) [dI i.s] (xP r.W)∧zPo a_6 r a_5 s t u v w x y z p q l a) ((∀(a_1:Value×List D),a_1∈xP r.W→like (Value.int IntKind.i64 t) a_1.fst=true)∧∃(a_1:Bool),∃(a_2:Int),(qK (Value.int IntKind.i64 t) (xP r.W)=some [dI a_2]∧a_1=true∨qK (Value.int IntKind.i64 t) (xP r.W)=none∧[dI a_2]=[dI 0]∧a_1=false)∧∃(a_3:Int),∃(a_4:Int→Prop),cnd (s==2) (∃(a_5:Int),a_5=i.s∧zNm a_4 a_5 s t u v w x y z n r l a) (∃(a_5:Int),a_5=a_2∧zNm a_4 a_5 s t u v w x y z n r l a)∧∀(a_5:Int),a_4 a_5→((List.map gN r.O).length+1)*(72:Nat)≤(70368744177664:Nat)∧∃(a_6:GdJ),(↑a_6.k:Int)=IntKind.i64.wrap ((↑r.k:Int)+1)∧xS a_6.o=xS r.o∧xP a_6.W=xP r.W∧zPo a_6 r a_5 s t u v w x y z p q l a)) (∃(s:Mkt),xS s=xS r.o∧xP i.X.W=xP r.W∧List.map gN i.X.O=List.map gN r.O∧s.Rep i.p i.X.B i.X.U))))
open Go Cv Go.Proofs
theorem yCw:clUsC.ok Tryz.prog 104:=yIf (gokc (zDt _) gok0) fun es _=>by
 unfold yAx
 refine⟨es,?_⟩;(repeat'(first|exact rfl|exact trivial|assumption|apply And.intro|refine fun(_:Unit) (_:True)=>?_|refine Exists.intro () ?_|omega|(dsimp only;omega)))
theorem yIc {s:MSt} {p:Prd} {B:List (List zH)} (h:s.Rep p B):s.wh.length=tK B:=by rw[tK];exact h.wh.length_eq
theorem zXt:∀{B:List (List zH)} (n:Nat),(∀L∈B,L.length≤250)→(whL n B).length≤250*B.length
 |[],_,_=>ySk _
 |L::B,n,h=>by
  have:=zXt (B:=B) (n+1) fun x hx=>h x (yRk _ hx)
  have:=h L yRj
  rw[whL,yRi,yRg,yRt];omega
theorem z0r:midsC.ok Tryz.prog 51:=okw (V:=yOu) mixed (gokc yAk gok0) 0 (fun _=>[]) (fun _=>[]) [0] Tryz.func51 fun(i:MkB) h=>by
 obtain⟨⟨ep,hR,eu⟩,hB⟩:i.m.Rep i.p i.B i.U∧BOk i.p i.B:=h
 have hl:i.m.s.wh.length≤1000000:=by
  have hwf:=hR.wf hB
  have h1:=zXt (B:=i.B) 0 fun L hL=>by
   obtain⟨k,hk⟩:=yTo.1 hL
   exact(hwf.od k L hk).2.2
  have:=hB.bl
  have:=xQ i.p
  rw[yIc hR,tK]
  omega
 exact⟨i.m.s,rfl,hl,fun o ho=>⟨o,rfl,rfl,rfl,rfl,rfl,rfl,rfl,rfl,rfl,rfl,rfl,rfl,by(repeat'(first|exact trivial|exact rfl|apply And.intro)),rfl,ho.trans (hR.wh.map _)⟩⟩
theorem yAj:mcopyC.ok Tryz.prog 54:=okw (V:=yJl) mixed (gokc lZ (gokc yCw gok0)) 0 (fun _=>[]) (fun _=>[]) [0] Tryz.func54 fun(i:MkB) h=>by
 obtain⟨⟨ep,hR,eu⟩,hB⟩:i.m.Rep i.p i.B i.U∧BOk i.p i.B:=h
 have hs:=hR.small hB
 exact⟨i.m.s,rfl,hs,fun _ _=>⟨trivial,by(repeat'(first|exact trivial|exact rfl|apply And.intro)),zW i.m.used,rfl,trivial,fun _ _=>⟨by(repeat'(first|exact trivial|exact rfl|apply And.intro)),(),by(repeat'(first|exact trivial|exact rfl|apply And.intro))⟩⟩⟩
theorem newG_ok:newGC.ok Tryz.prog 14:=okw (V:=yNb) mixed (gokc yEv gok0) 0 (fun _=>[]) (fun _=>[]) [] Tryz.func14 fun(p:Prd) h=>by
 refine⟨p,rfl,rfl,rfl,rfl,rfl,rfl,rfl,rfl,rfl,rfl,rfl,h,fun _ c=> .inl ⟨(),rfl,rfl,rfl,c⟩,fun _ c=>Cv.cnd.mk (fun e=> .inr ⟨(),trivial,rfl,c⟩) (fun e=>absurd (by simpa using e) c)⟩
theorem yCr:grejC.ok Tryz.prog 50:=okw (V:=yOt) mixed gok0 0 (fun _=>[]) (fun _=>[]) [] Tryz.func50 fun(i:GrI) h=>⟨(),rfl,trivial⟩
theorem z8i:greadC.ok Tryz.prog 49:=okw (V:=yLw) mixed (gokc yEu gok0) 0 (fun _=>[]) (fun _=>[]) [] Tryz.func49 fun(i:SbI) h=>by
 have h:i.b.length≤1099511627776:=h
 have hbad:i.s<0∨8≤i.s→yG i.s i.b=(zTm,1):=fun e=>yRe e
 refine zI (fun e=> ?_) (fun e=>zI (fun e2=> ?_) (fun e2=> ?_))
 ·rw[hbad (.inl e)];exact⟨(),rfl,rfl,rfl,rfl,rfl,rfl,rfl,rfl,rfl,rfl,trivial⟩
 ·rw[hbad (.inr e2)];exact⟨(),rfl,rfl,rfl,rfl,rfl,rfl,rfl,rfl,rfl,rfl,trivial⟩
 ·have hg:yG i.s i.b=xG i.b:=yRd (by omega)
  rw[hg]
  exact⟨i.b,rfl,h,fun _ _=>⟨(),rfl,rfl,rfl,rfl,rfl,rfl,rfl,rfl,rfl,rfl,trivial⟩⟩
theorem b8 (id:Int) (W:List (Int×Int)):∀p∈xP W,like (Value.int IntKind.i64 id) p.1=true:=by
 intro p hp
 obtain⟨k,_,rfl⟩:=ySm.1 hp
 rfl
theorem zUb (id s:Int):∀W:List (Int×Int),vI (Value.int IntKind.i64 id) [D.v (.int .i64 s)] (xP W)=xP (zSg W id s)
 |[]=>rfl
 |x::W=>by
  have ih:=zUb id s W
  have e:dD (Value.int IntKind.i64 id) (Value.int IntKind.i64 x.1)=decide (id=x.1):=by simp[dD,keq]
  show(bif dD (Value.int IntKind.i64 id) (Value.int IntKind.i64 x.1)then(Value.int IntKind.i64 x.1,[D.v (.int .i64 s)])::xP W else(Value.int IntKind.i64 x.1,[D.v (.int .i64 x.2)])::vI (Value.int IntKind.i64 id) [D.v (.int .i64 s)] (xP W))=_
  rw[e,ih,zSg]
  by_cases c:id=x.1
  ·rw[yRu c,cond_true,yRe c];rfl
  ·rw[yRo c,cond_false,yRd c];rfl
theorem tA (id:Int):∀W:List (Int×Int),qK (Value.int IntKind.i64 id) (xP W)=some [D.v (.int .i64 (wO W id).1)]∧(wO W id).2=true∨qK (Value.int IntKind.i64 id) (xP W)=none∧[D.v (.int .i64 (wO W id).1)]=[D.v (.int .i64 0)]∧(wO W id).2=false
 |[]=> .inr ⟨rfl,rfl,rfl⟩
 |x::W=>by
  have ih:=tA id W
  have e:dD (Value.int IntKind.i64 id) (Value.int IntKind.i64 x.1)=decide (id=x.1):=by simp[dD,keq]
  have e2:qK (Value.int IntKind.i64 id) (xP (x::W))=bif dD (Value.int IntKind.i64 id) (Value.int IntKind.i64 x.1)then some [D.v (.int .i64 x.2)]else qK (Value.int IntKind.i64 id) (xP W):=rfl
  rw[e2,e,z6f]
  by_cases c:id=x.1
  ·rw[yRu c,cond_true,yRe c];exact .inl ⟨rfl,rfl⟩
  ·rw[yRo c,cond_false,yRd c];exact ih
theorem z4k:gownerC.ok Tryz.prog 22:=okw (V:=yCu) mixed gok0 0 (fun _=>[]) (fun _=>[]) [0] Tryz.func22 fun(i:GtI) h=>⟨b8 _ _,_,_,tA i.s i.g.W,(),rfl,rfl,by(repeat'(first|exact trivial|exact rfl|apply And.intro)),rfl,trivial⟩
theorem gmkt_ok:gmktC.ok Tryz.prog 23:=okw (V:=yOo) mixed (gokc yAj gok0) 0 (fun _=>[]) (fun _=>[]) [0] Tryz.func23 fun(i:GtI) h=>⟨⟨i.g.m,i.p,i.B,i.U⟩,rfl,h,fun _ _=>⟨(),rfl,rfl,rfl,trivial⟩⟩
theorem yIu {l:List Int} {k:Nat} {n:Int} {f:Int→Bool} (h:l[k]? =some n):(l.take (k+1)).countP f=(l.take k).countP f+if f n then 1 else 0:=by
 rw[ySz,h,List.countP_append];simp[List.countP_cons]
theorem z5d (W:List (Int×Int)) (B:List (List zH)) (s:Int) (l:List Int) (h:l.Perm ((whL 0 B).map (·.1))):(tP B W s:Int)=l.countP fun x=>decide ((wO W x).1=s):=by
 rw[h.countP_eq,List.countP_map];rfl
theorem z2a {l:List Int} {W:List (Int×Int)} {s:Int} (hl:l.length≤1000000):∀{k:Nat} {n:Int},l[k]? =some n→IntKind.i64.wrap (((l.take k).countP fun x=>decide ((wO W x).1=s):Nat)+1:Int)=((l.take k).countP fun x=>decide ((wO W x).1=s):Nat)+1:=by
 intro k n h
 have:=List.countP_le_length (p:=fun x=>decide ((wO W x).1=s)) (l:=l.take k)
 rw[yRz]at this
 exact w64 (by omega)
theorem yDx {p:Prd} {B:List (List zH)} (h:BWf p B) {l:List Int} (hl:l.Perm ((whL 0 B).map (·.1))):l.length≤1000000:=by
 have h1:=zXt (B:=B) 0 fun L hL=>by
  obtain⟨k,hk⟩:=yTo.1 hL
  exact(h.od k L hk).2.2
 have:=h.ok.bl
 have:=xQ p
 have:=hl.length_eq
 rw[yRg]at this
 omega
theorem z6n (i:GtI) (h:gopenC.cnd i):z9r i:=by
 obtain⟨⟨m,W⟩,p,B,U,s⟩:=i
 have h:m.Rep p B U∧BOk p B:=h
 unfold z9r zCn dI
 dsimp only
 refine⟨⟨m,p,B,U⟩,rfl,h,fun l hl=> ?_⟩
 have hle:=yDx (h.1.s.wf h.2) hl
 refine⟨(0,0),rfl,rfl,fun j=>j.2≤l.length∧j.1=((l.take j.2).countP fun x=>decide ((wO W x).1=s):Nat),fun j=>l.length-j.2,⟨ySr _,rfl⟩,?_⟩
 rintro⟨n,k⟩ ⟨j1,j2⟩
 dsimp only at j1 j2 ⊢
 subst j2
 refine zI (fun e=> ?_) (fun e=> ?_)
 ·rw[yY]at e
  obtain⟨x,hx⟩:=yD (l:=l) (i:=k) (by omega)
  have hc:=yIu (f:=fun x=>decide ((wO W x).1=s)) hx
  refine⟨⟨by omega,by rw[yY];exact e⟩,x,elA hx (by simp) rfl,b8 _ _,_,_,tA x W,Cv.cnd.mk (fun e2=>⟨(_,k+1),(z2a hle hx).symm,wjn (by omega),⟨by dsimp only;omega,?_⟩,by dsimp only;omega,by(repeat'(first|exact trivial|exact rfl|apply And.intro))⟩) (fun e2=>⟨(_,k+1),rfl,wjn (by omega),⟨by dsimp only;omega,?_⟩,by dsimp only;omega,by(repeat'(first|exact trivial|exact rfl|apply And.intro))⟩)⟩
  ·have e2:(wO W x).1=s:=by simpa using e2
   dsimp only;rw[hc,yRu e2];rfl
  ·have e2:¬(wO W x).1=s:=by simpa using e2
   dsimp only;rw[hc,yRo e2];rfl
 ·rw[yY]at e
  have hk:l.take k=l:=yRw (by omega)
  rw[hk]
  exact⟨(),z5d W B s l hl,rfl,rfl,trivial⟩
theorem z9j:gopenC.ok Tryz.prog 18:=okw mixed (gokc z0r gok0) 0 (fun _=>[]) (fun _=>z9y) [0] Tryz.func18 z6n
theorem z3d:gopenOC.ok Tryz.prog 18:=okw (V:=yEo) mixed (gokc z0r gok0) 0 (fun _=>[]) (fun _=>z9y) [] Tryz.func18 fun(i:GtI) h=>z6n i h
theorem z1z {b:List UInt8} (h:(xG b).2=0):(xG b).1.right=0:=by
 rw[xG]at h ⊢
 dsimp only at h ⊢
 split at h
 ·cases h
 ·rename_i h1
  rw[yRd h1]
  split at h
  ·cases h
  ·rename_i h2
   rw[yRd h2]
   split at h
   ·rename_i h3;exact absurd h h3
   ·rename_i h3
    rw[yRd h3];simpa using h3
theorem zIv (n:Int):yU (IntKind.i64.wrap n):=by
 rw[IntKind.wrap]
 simp only[IntKind.bits,IntKind.signed]
 simp
 omega
theorem z0w:yU 0:=⟨by decide,by decide⟩
theorem yLj (k id:Int) (r:RB):yU (x4 k id r).1.qty:=by
 rw[x4]
 split
 ·exact zIv _
 split
 ·exact zIv _
 split
 ·exact zIv _
 ·exact z0w
theorem yEm (b:List UInt8):yU (xG b).1.qty:=by
 rw[xG]
 dsimp only
 split
 ·exact z0w
 split
 ·exact z0w
 split
 ·exact z0w
 ·exact yLj _ _ _
theorem zYu {p:Prd} {B:List (List zH)} (h:BWf p B) (U:List Int) (c:Cmd):(doF p B U c).R.length≤1503000003:=by
 have hbl:=h.ok.bl
 have hrj:∀w,(bQ c w).length≤1503000003:=fun w=>by simp[bQ]
 rw[doF]
 split
 ·exact hrj _
 rename_i hr
 have hr:c.right=0:=by simpa using hr
 split
 ·rename_i hk
  obtain⟨_,hq,_⟩:=zLb hr hk
  rw[mI]
  split
  ·exact hrj _
  rename_i hp
  have hp:p.price c.inst c.price=0:=by simpa using hp
  have hin:=zKa hp
  split
  ·exact hrj _
  split
  ·exact hrj _
  split
  ·exact hrj _
  split
  ·exact hrj _
  have:=lC h U (c:=c) (by omega) hq
  omega
 rename_i hk
 split
 ·exact hrj _
 rename_i hf
 have hf:(zV B c.id).2.2=true:=by simpa using hf
 have hf:zV B c.id=((zV B c.id).1,(zV B c.id).2.1,true):=by rw[← hf]
 obtain⟨hin,_⟩:=zQg h hf
 split
 ·rename_i h4
  have hq:=zDc hr hk (by omega)
  rw[fU]
  split
  ·exact hrj _
  split
  ·simp[mT]
  split
  ·exact hrj _
  have:=lC (h.take c.id (zV B c.id).2.1.qty) U (c:=⟨1,c.id,(zV B c.id).1,(zV B c.id).2.1.side,c.price,c.qty,0,1,[]⟩) (by dsimp only;rw[aU];exact hin) hq
  dsimp only
  rw[yRi]
  have e1:(gA B U c.id (zV B c.id).1 (zV B c.id).2.1).R.length=1:=rfl
  have e2:(gA B U c.id (zV B c.id).1 (zV B c.id).2.1).B=(qS B c.id (zV B c.id).2.1.qty).1:=rfl
  rw[e1,e2]
  omega
 split
 ·simp[gA]
 ·simp[mT]
theorem yFc {b:List UInt8} (h:b.length≤1099511627776):(xG b).1.label.length≤255:=by
 have h0:(RB.mk b false).ok:=h
 rw[xG]
 dsimp only
 split
 ·exact ySr _
 split
 ·exact ySr _
 split
 ·exact ySr _
 ·exact(yGl (uL (bP h0))).2
theorem z3p (p:Prd) (B:List (List zH)) (U:List Int) (W:List (Int×Int)) (s:Int) (b:List UInt8):dC p B U W s b=if(yG s b).2≠0 then z4c B U W s 0 (yG s b).2 else zSb p B U W s (yG s b).1:=by
 rw[dC,yG]
 by_cases c:s<0∨8≤s
 ·rw[yRe c,yRe c];rfl
 ·rw[yRd c,yRd c]
theorem yHs {s:Int} {b:List UInt8} (hb:b.length≤1099511627776) (h:(yG s b).2=0):(yG s b).1.right=0∧yU (yG s b).1.qty∧(yG s b).1.label.length≤255:=by
 rw[yG]at h ⊢
 split at h
 ·cases h
 ·rename_i c
  rw[yRd c]
  exact⟨z1z h,yEm b,yFc hb⟩
theorem wjN {j:Nat} (h:(j:Int)≤9223372036854775806):((j+1:Nat):Int)=IntKind.i64.wrap ((j:Int)+1):=by rw[w64 (by omega)];rfl
theorem yQr (i:GdI) (h:gdoC.cnd i):yMm i:=by
 obtain⟨⟨m,W⟩,p,B,U,s,b,X⟩:=i
 obtain⟨hMB,hb,hX⟩:(m.Rep p B U∧BOk p B)∧b.length≤1099511627776∧X=dC p B U W s b:=h
 rw[z3p]at hX
 have hc:= @yHs s b hb
 unfold yMm zPo zOx zFr l6 zNm zOr zNo zPf cN cM c8 cR cF cO cA dY cE rB pO zBf zAv dI
 dsimp only
 generalize hrd:yG s b=y at hX hc
 obtain⟨c,why⟩:=y
 dsimp only at hX hc
 refine⟨⟨s,b⟩,rfl,rfl,hb,fun _ _=> ?_⟩
 dsimp only
 rw[hrd]
 dsimp only
 refine Cv.cnd.mk (fun e=> ?_) (fun e=>⟨b8 _ _,_,_,tA c.id W,true,fun x=>x=decide (c.kind=1∧64≤tP B W s),Cv.cnd.mk (fun e1=>⟨⟨⟨m,W⟩,p,B,U,s⟩,rfl,rfl,rfl,hMB,fun _ _=>⟨_,rfl,?_,by(repeat'(first|exact trivial|exact rfl|apply And.intro))⟩⟩) (fun e1=>⟨false,rfl,?_,by(repeat'(first|exact trivial|exact rfl|apply And.intro))⟩),?_⟩)
 ·have e:why≠0:=by simpa using e
  rw[yRe e]at hX;subst hX
  exact⟨⟨s,0,why⟩,rfl,rfl,rfl,trivial,fun _ _=>⟨m,rfl,rfl,rfl,hMB.1⟩⟩
 ·have e1:c.kind=1:=by simpa using e1
  dsimp only
  rw[decide_eq_decide]
  exact⟨fun x=>⟨e1,by omega⟩,fun x=>by have:=x.2;omega⟩
 ·have e1:¬c.kind=1:=by simpa using e1
  exact(yRo fun x=>e1 x.1).symm
 have e:why=0:=by simpa using e
 obtain⟨hr,hq,hlab⟩:=hc e
 rw[yRd (by rw[e];decide),zSb]at hX
 rintro _ rfl
 refine zI (fun e1=> ?_) (fun e1=> ?_)
 ·rw[yRe e1]at hX;subst hX
  exact⟨⟨s,c.id,30⟩,rfl,rfl,rfl,trivial,fun _ _=>⟨m,rfl,rfl,rfl,hMB.1⟩⟩
 rw[yRd e1]at hX
 refine⟨true,fun x=>x=decide (c.kind≠1∧((wO W c.id).2=false∨(wO W c.id).1≠s)),Cv.cnd.mk (fun e2=>Cv.cnd.mk (fun e3=>⟨true,rfl,?_,by(repeat'(first|exact trivial|exact rfl|apply And.intro))⟩) (fun e3=>⟨_,rfl,?_,by(repeat'(first|exact trivial|exact rfl|apply And.intro))⟩)) (fun e2=>⟨false,rfl,?_,by(repeat'(first|exact trivial|exact rfl|apply And.intro))⟩),?_⟩
 ·have e2:¬c.kind=1:=by simpa using e2
  exact(yRu ⟨e2,.inl (by simpa using e3)⟩).symm
 ·have e2:¬c.kind=1:=by simpa using e2
  have e3:(wO W c.id).2=true:=by simpa using e3
  show((wO W c.id).1 !=s)=decide (c.kind≠1∧((wO W c.id).2=false∨(wO W c.id).1≠s))
  rw[Bool.eq_iff_iff,ySs,bne_iff_ne]
  exact⟨fun x=>⟨e2,.inr x⟩,fun x=>x.2.resolve_left (by rw[e3];decide)⟩
 ·have e2:c.kind=1:=by simpa using e2
  exact(yRo fun x=>x.1 e2).symm
 rintro _ rfl
 refine zI (fun e2=> ?_) (fun e2=> ?_)
 ·rw[yRe e2]at hX;subst hX
  exact⟨⟨s,c.id,26⟩,rfl,rfl,rfl,trivial,fun _ _=>⟨m,rfl,rfl,rfl,hMB.1⟩⟩
 rw[yRd e2]at hX
 have hlen:=zYu (hMB.1.s.wf hMB.2) U c
 refine⟨⟨m,p,B,U,c,doF p B U c⟩,rfl,rfl,rfl,rfl,rfl,rfl,rfl,rfl,rfl,rfl,⟨hMB,yTv hlab (by decide),hq,rfl⟩,fun o ho=> ?_⟩
 dsimp only at ho ⊢
 generalize doF p B U c=Y at hX ho hlen ⊢
 obtain⟨YB,YU,R⟩:=Y
 dsimp only at hX ho hlen ⊢
 subst hX
 have e4:(R.map xJ).length=R.length:=yRg ..
 refine⟨⟨o,W,[],0⟩,rfl,rfl,rfl,rfl,fun j=>j.o=o∧j.k≤R.length∧j.O.length=j.k∧(pB s W R).1=(pB s j.W (R.drop j.k)).1∧(pB s W R).2=j.O++(pB s j.W (R.drop j.k)).2,fun j=>R.length-j.k,⟨rfl,ySr _,rfl,rfl,rfl⟩,?_⟩
 rintro⟨o',W',O,k⟩ ⟨j1,j2,j3,j4,j5⟩
 dsimp only at j1 j2 j3 j4 j5 ⊢
 subst j1
 have e5:(O.map gN).length=O.length:=yRg ..
 refine zI (fun e6=> ?_) (fun e6=> ?_)
 ·obtain⟨r,hr'⟩:=yD (l:=R) (i:=k) (by omega)
  have hd:R.drop k=r::R.drop (k+1):=by rw[yTp (by omega),(yRf.1 hr').2]
  rw[hd,pB]at j4 j5
  dsimp only at j4 j5
  refine⟨⟨by omega,e6⟩,r.kind,r.id,r.inst,r.side,r.price,r.qty,r.left,r.why,elA hr' (by simp[xJ]) rfl,Cv.cnd.mk (fun e7=>⟨b8 _ _,?_⟩) (fun e7=>⟨b8 _ _,_,_,tA r.id W',?_⟩)⟩
  ·have e7:r.kind=1:=by simpa using e7
   rw[zUb]
   rw[yRe e7]at j4 j5
   refine⟨b8 _ _,_,_,tA r.id (zSg W' r.id s),0,fun x=>x=if r.kind=2 then s else(wO (zSg W' r.id s) r.id).1,Cv.cnd.mk (fun e8=>⟨_,rfl,(yRe (by simpa using e8)).symm,by(repeat'(first|exact trivial|exact rfl|apply And.intro))⟩) (fun e8=>⟨_,rfl,(yRd (by simpa using e8)).symm,by(repeat'(first|exact trivial|exact rfl|apply And.intro))⟩),?_⟩
   rintro _ rfl
   exact⟨by omega,⟨o',zSg W' r.id s,O++[(if r.kind=2 then s else(wO (zSg W' r.id s) r.id).1,r)],k+1⟩,wjN (by omega),rfl,rfl,by rw[yRm];rfl,⟨rfl,by dsimp only;omega,by rw[yRi];dsimp only;rw[j3];rfl,j4,by rw[j5];simp⟩,by dsimp only;omega,by(repeat'(first|exact trivial|exact rfl|apply And.intro))⟩
  ·have e7:¬r.kind=1:=by simpa using e7
   rw[yRd e7]at j4 j5
   refine⟨0,fun x=>x=if r.kind=2 then s else(wO W' r.id).1,Cv.cnd.mk (fun e8=>⟨_,rfl,(yRe (by simpa using e8)).symm,by(repeat'(first|exact trivial|exact rfl|apply And.intro))⟩) (fun e8=>⟨_,rfl,(yRd (by simpa using e8)).symm,by(repeat'(first|exact trivial|exact rfl|apply And.intro))⟩),?_⟩
   rintro _ rfl
   exact⟨by omega,⟨o',W',O++[(if r.kind=2 then s else(wO W' r.id).1,r)],k+1⟩,wjN (by omega),rfl,rfl,by rw[yRm];rfl,⟨rfl,by dsimp only;omega,by rw[yRi];dsimp only;rw[j3];rfl,j4,by rw[j5];simp⟩,by dsimp only;omega,by(repeat'(first|exact trivial|exact rfl|apply And.intro))⟩
 ·have hk:R.drop k=[]:=List.drop_of_length_le (by omega)
  rw[hk,pB]at j4 j5
  dsimp only at j4 j5
  rw[ySa]at j5
  rw[j4,j5]
  exact⟨o',rfl,rfl,rfl,ho⟩
theorem gdo_ok:gdoC.ok Tryz.prog 16:=okw mixed (gokc z8i (gokc yCr (gokc z3d (gokc do_ok gok0)))) 0 (fun _=>yPy) (fun _=>yPj) [0] Tryz.func16 yQr
open Go Cv Go.Proofs
def yPf (t:Nat):SAnn:={ι:=Prd,slots:=fun _=>[(t,.nm 0 0)],rows:=fun p=>[.cells [sV p.code,.own 1,zA p.tick,zA p.low,zA p.high,zA p.wide,zA p.rule,zA p.top,zA p.least,zA p.part,.own 2] 26,.fro 1 (iE p.months),.fro 1 (iE p.settle)]}
open Go Cv Go.Proofs
open Go Cv Go.Proofs
def mk0 (p:Prd):Mkt:=⟨p,cT p,[]⟩
theorem zOh (p:Prd):(mk0 p).Rep p (List.replicate p.count []) []:=⟨rfl,zWe _,rfl⟩
open Go Cv Go.Proofs
def known18C:Con:=con1 Unit (fun _=>[]) (fun _=>[]) (fun _=>True) (fun _=>yM true) (fun _=>[])
structure AskM where
 s:Int
 c:Cmd
 raw:Bool
 b:List UInt8
def gaskE (a:AskM):List D:= .v (.int .i64 a.s)::(cmdE a.c++[.v (.bool a.raw),.ro 1 (bE a.b)])
@[reducible] def AskM.ok (a:AskM):Prop:=yU a.s∧a.c.raw
structure AgI where
 x:Prd
 l:List AskM
 q:List AskM
@[reducible] def AgI.ok (i:AgI):Prop:=i.x.raw∧(∀a∈i.l,a.ok)∧(∀a∈i.q,a.ok)∧i.l.length≤9223372036854775807∧i.q.length≤9223372036854775807
structure GcJ where
 g:Gt
 h:Gt
 k:Nat
def gcC:Con:=con1 AgI (fun i=>[prdV i.x,roV 12 (i.l.map gaskE),roV 12 (i.q.map gaskE)]) (fun _=>[]) (fun i=>i.ok) (fun _=>yM true) (fun _=>[])
def gcA:List SAnn:=[
 {ι:=GcJ,slots:=fun j=>[(8,.nm 0 0),(10,.nm 1 0),(12,zA j.k)],rows:=fun j=>[GtR j.g,GtR j.h]},
 {ι:=Nat,slots:=fun k=>[(20,zA k)],rows:=fun _=>[]}]
def yQw (t:Nat):SAnn:={ι:=Mkt,slots:=fun _=>[(t,.nm 0 0)],rows:=fun m=>[xS m],slots0:=fun _=>[(t,.nm 0 0)],rows0:=fun m=>[xS m]}
def gcJ:List (Nat×SAnn):=[(4,yPf 7),(16,bj 46),(28,bj 54),(74,yQw 16),(100,bj 127)]
end Sx
