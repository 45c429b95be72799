/- Texts of ours, one behind the other: a walk that the kernel reckons, and contracts of functions. No condition. -/
import Derived.Test.YthkofaanekmpmaaGreatU11
namespace Sx
set_option linter.unusedSimpArgs false
set_option linter.unusedVariables false
open Go Go.RowKit Cv
variable {P:Program} {k:Ko} {L:List HP}
def mkS:List Code→Code→Code
 |[],r=>r
 |c::l,r=> .seq c (mkS l r)
def scodeL (P:Program) (H:Hnd) (J:List (Nat×SAnn)):List SAnn→List Code→(yO→St→Prop)→(Exit→yO→St→Prop)→yO→St→Prop
 |_,[],K,_,ρ,s=>K ρ s
 |an,c::l,K,Q,ρ,s=>scode P H J (an.take (nL c)) c (zJn (fun ρ s=>scodeL P H J (an.drop (nL c)) l K Q ρ s) Q) ρ s
def zVf:List Code→List Nat
 |[]=>[]
 |c::l=>asg c++zVf l
def z6x (n:Nat):List Code→Bool
 |[]=>true
 |c::l=>okC n c && z6x n l
theorem nR {H:Hnd} (hH:HOk P H) (hm:P.follows .mixedOrders=true) {J:List (Nat×SAnn)} {n:Nat} {Q:Exit→yO→St→Prop} {A A2:Nat→Bool} {e0 e2:Env} {E0 Eb:Ev} (hEb:E0.le Eb) (hA2:∀a,Good n A2 e2 a→Good n A e0 a) {K:yO→St→Prop} {r:Code}
 (hr:∀(E:Ev) (a:Act) (w:World) (ρ:yO) (s:St),Good n A2 e2 a→Eb.le E→Rel k L E s w→EnvR E ρ (yG a)→K ρ s→r.wp P (zGq k L n A e0 E0 Q) a w):
 ∀(l:List Code) (an:List SAnn) (E:Ev) (a:Act) (w:World) (ρS:yO) (s:St),z6x n l=true→(∀t∈zVf l,A2 t=true)→Good n A2 e2 a→Eb.le E→Rel k L E s w→EnvR E ρS (yG a)→scodeL P H J an l K Q ρS s→
  (mkS l r).wp P (zGq k L n A e0 E0 Q) a w
 |[],an,E,a,w,ρS,s,_,_,hg,hle,R,he,h=>hr E a w ρS s hg hle R he h
 |c::l,an,E,a,w,ρS,s,hc,hA,hg,hle,R,he,h=>by
  simp only[z6x,yWw]at hc
  simp only[zVf,yXo]at hA
  refine wp_seq (wp_mono (rW hH hm c _ _ A2 e2 Eb E a w ρS s hc.1 (fun t ht=>hA t (.inl ht)) hg hle R he h) ?_)
  rintro e a' w' ⟨hg',E',ρ',s',hle',R',he',h'⟩
  cases e<;>first|exact nR hH hm hEb hA2 hr l _ E' a' w' ρ' s' hc.2 (fun t ht=>hA t (.inr ht)) hg' hle' R' he' h'|exact⟨hA2 _ hg',E',ρ',s',hEb.trans hle',R',he',h'⟩
def yCf (aSq:List Nat) (ρ ρ3:yO):yO:=fun u=>bif fL u aSq then(match ρ3 u with
 | .d (.v x)=> .d (.v x)
 |_=> .top)else ρ u
def z2s (P:Program) (H:Hnd) (J:List (Nat×SAnn)) (an:List SAnn) (t:Nat) (M:List Code) (r:Code) (Q:Exit→yO→St→Prop) (ρ:yO) (s:St):Prop:=
 match ρ t with
 | .own n=>match s.get n with
   |some (.own T sz els)=>bif Nat.blt n s.nx then scodeL P H J an M (fun ρ3 _=>scode P H J [] r Q (yCf (zVf M) ρ ρ3) ⟨[(n,.own T sz els)],s.nx⟩) Q ρ (s.set n (.fro sz els))else False
   |_=>False
 |_=>False
def bQ (F x:PH):PH:=fun b=>match x b with
 |some _=>none
 |none=>F b
theorem Rel.freezeX {E:Ev} {s:St} {w:World} (R:Rel k L E s w) {n t sz:Nat} {els:List (List D)} (h:s.get n=some (.own t sz els)):
 ∃x,rHP E (n,.own t sz els) x∧Dj x E.F∧E.le ⟨un x E.F,E.tab⟩∧GTab E.F∧Rel k L ⟨un x E.F,E.tab⟩ (s.set n (.fro sz els)) w:=by
 have hgt:GTab E.F:=by
  have H:Hp k w (fz E.F::(s.rows.map (rHP E)++L)):=R.hp.perm yWy
  obtain⟨h,⟨rfl,hg⟩,hs⟩:=H.sat
  exact hg
 have H:Hp k w (rHP E (n,.own t sz els)::fz E.F::((jZ n s.rows).map (rHP E)++L)):=(R.focus h).cons yWy
 obtain⟨x,hx,hd,hsub,H⟩:=zHd H
 refine⟨x,hx,hd,⟨zLv hd,yZy _⟩,hgt,?_⟩
 rcases hx with⟨e,_⟩|⟨hv,h1,h2⟩
 ·cases e
 simp only[rowHP]at h2
 obtain⟨a,c,xs,h3,h4,h5,h6⟩:=h2
 have hle:E.le ⟨un x E.F,E.tab⟩:=⟨zLv hd,yZy _⟩
 have H1:Hp k w ((jZ n s.rows).map (rHP E)++fz (un x E.F)::L):=H.perm yWy.symm
 have H2:=jV (fun r x=>rHP.mono hle r) H1
 have H3:Hp k w (rHP ⟨un x E.F,E.tab⟩ (n,.fro sz els)::((jZ n s.rows).map (rHP ⟨un x E.F,E.tab⟩)++fz (un x E.F)::L)):=by
  have:=(@vC k w True _).2 ⟨trivial,H2⟩
  refine this.imp fun y hy=> .inr ⟨hv,h1,?_⟩
  simp only[rowHP]
  refine⟨hy.2,?_⟩
  simp only[DR]
  refine⟨a,c,h3,(zBh h6).2,h5,?_⟩
  rcases h6 with⟨rfl,q2,rfl,rfl,rfl⟩|⟨b,r,rfl,rfl,q3,q4,q5⟩
  ·exact .inl (yXn q2)
  ·refine .inr ⟨b,0,xs++r,t,(0,0),rfl,?_,DRS_iff.2 ⟨xs,r,rfl,h4.mono hle.1⟩⟩
   simp[un,Cv.one]
 refine⟨by simpa[St.set]using R.nx,H3.perm ?_⟩
 have:=(((vQ h).2 (.fro sz els)).map (rHP ⟨un x E.F,E.tab⟩)).append_right (fz (un x E.F)::L)
 simpa[St.set]using this.symm
theorem Rel.thaw {E1 E3:Ev} {s3:St} {w:World} (R:Rel k L E3 s3 w) {x:PH} {n nx t sz:Nat} {els:List (List D)} (hx:rHP E1 (n,.own t sz els) x) (hd:Dj x E1.F) (hgt:GTab E1.F) (hn:E1.tab.length=nx) (hle:FLe (un x E1.F) E3.F):
 E1.le ⟨bQ E3.F x,E1.tab⟩∧Rel k L ⟨bQ E3.F x,E1.tab⟩ ⟨[(n,.own t sz els)],nx⟩ w:=by
 have h1:FLe E1.F (bQ E3.F x):=fun b o e=>by
  have hxb:x b=none:=by
   rcases hd b with h|h
   ·exact h
   ·rw[e]at h;cases h
  have:E3.F b=some o:=hle b o (by simp[un,hxb,e])
  simp[bQ,hxb,this]
 have hsub:FLe x E3.F:=fun b o e=>hle b o (by simp[un,e])
 have hle4:E1.le ⟨bQ E3.F x,E1.tab⟩:=⟨h1,yZy _⟩
 refine⟨hle4,hn,?_⟩
 have hdrop:∀(l:List (Nat×AObj)) {M:List HP},Hp k w (l.map (rHP E3)++M)→Hp k w M:=by
  intro l
  induction l with
  |nil=>intro M H;exact H
  |cons a l ih=>intro M H;exact ih H.drop
 obtain⟨hk,hs,hh⟩:=hdrop _ R.hp
 cases hh with
 |cons hf hfs hfd hr=>
  simp only[fz]at hf
  obtain⟨rfl,_⟩:=hf
  refine⟨hk,_,.cons (h:=x) (rHP.mono hle4 _ hx) (fun b o e=>hfs b o (hsub b o e)) ?_ (.cons (h:=bQ E3.F x) ⟨rfl,hgt.mono h1⟩ (fun b o e=> ?_) ?_ hr)⟩
  ·intro g hg b
   rcases yXe.1 hg with rfl|hg
   ·cases hb:x b with
    |none=>exact .inl rfl
    |some o=>right;simp[bQ,hb]
   ·cases hb:x b with
    |none=>exact .inl rfl
    |some o=>
     rcases hfd g hg b with h|h
     ·rw[hsub b o hb]at h;cases h
     ·exact .inr h
  ·have e:bQ E3.F x b=some o:=e
   unfold bQ at e
   split at e
   ·cases e
   ·exact hfs b o e
  ·intro g hg b
   rcases hfd g hg b with h|h
   ·left
    show bQ E3.F x b=none
    unfold bQ
    split
    ·rfl
    ·exact h
   ·exact .inr h
theorem z7y {aSq:List Nat} {E1 E3 E4:Ev} {ρ ρ3:yO} {ρ0 ρ1:Env} (h14:E1.le E4) (he:EnvR E1 ρ ρ0) (he3:EnvR E3 ρ3 ρ1) (hs:∀t,fL t aSq=false→ρ1 t=ρ0 t):EnvR E4 (yCf aSq ρ ρ3) ρ1:=by
 intro u
 unfold yCf
 cases hb:fL u aSq
 ·simp only[cond_false]
  rw[hs u hb]
  exact(he u).mono h14
 ·simp only[cond_true]
  have:=he3 u
  split
  ·rename_i x hx
   rw[hx]at this
   simpa only[VR,DR]using this
  ·simp only[VR]
theorem zWa {H:Hnd} (hH:HOk P H) (hm:P.follows .mixedOrders=true) {J:List (Nat×SAnn)} {n t:Nat} {Q:Exit→yO→St→Prop} {A:Nat→Bool} {e0:Env} {E0 E:Ev} {an:List SAnn} {M:List Code} {r:Code} {a:Act} {w:World} {ρS:yO} {s:St}
 (hcM:z6x n M=true) (hcr:okC n r=true) (hAM:∀t∈zVf M,A t=true) (hAr:∀t∈asg r,A t=true) (hg:Good n A e0 a) (hle:E0.le E) (R:Rel k L E s w) (he:EnvR E ρS (yG a)) (h:z2s P H J an t M r Q ρS s):
 (mkS M r).wp P (zGq k L n A e0 E0 Q) a w:=by
 unfold z2s at h
 split at h<;>first|exact h.elim|skip
 rename_i m hm'
 split at h<;>first|exact h.elim|skip
 rename_i T sz els hget
 obtain⟨_,h⟩:=zK h
 obtain⟨x,hx,hd,hle2,hgt,R2⟩:=R.freezeX hget
 have hg2:Good n (fun t=>A t && fL t (zVf M)) (yG a) a:=⟨hg.size,hg.defers,fun _ _=>rfl⟩
 have hA2:∀a',Good n (fun t=>A t && fL t (zVf M)) (yG a) a'→Good n A e0 a':=fun a' h'=>⟨h'.size,h'.defers,fun t ht=>by rw[h'.same t (by simp[ht]),hg.same t ht]⟩
 refine nR (Eb:=⟨un x E.F,E.tab⟩) (A2:=fun t=>A t && fL t (zVf M)) (e2:=yG a) hH hm (hle.trans hle2) hA2 ?_ M an _ a w ρS _ hcM (fun t ht=>by rw[hAM t ht,memN_iff.2 ht];rfl) hg2 (Ev.le.refl _) R2 (he.mono hle2) h
 intro E3 a3 w3 ρ3 s3 hg3 hle3 R3 he3 h3
 obtain⟨hle4,R4⟩:=R3.thaw (x:=x) (n:=m) (nx:=s.nx) hx hd hgt R.nx hle3.1
 refine rW hH hm r [] Q A e0 E0 _ a3 w3 _ _ hcr hAr (hA2 _ hg3) (hle.trans hle4) R4 ?_ h3
 exact z7y hle4 he he3 fun t ht=>hg3.same t (by simp[ht])
def yKl (P:Program) (G:List (Nat×Con)) (d:Nat) (J:List (Nat×SAnn)) (an:List SAnn) (t:Nat) (fn:Func) (A M:List Code) (r:Code) (args:List V) (alts:List Alt):Prop:=
 scodeL P (hnd P G d) J [] A (fun ρ s=>z2s P (hnd P G d) J an t M r (fnS P fn fun v s=>zYk 0 v s alts) ρ s) (fnS P fn fun v s=>zYk 0 v s alts) (tD args) ⟨[],0⟩
theorem zRf {f:FuncId} {fn:Func} {c:Code} (hf:P.funcs[f]? =some fn) (hb:fn.body=some c)
 {args:List V} (hsz:Nat.ble args.length fn.ntmps=true) {K:V→St→Prop} {s:St} {E:Ev} {w:World} {ys:List Value} (R:Rel k L E s w) (hv:VRL E args ys)
 (h:∀a,Good fn.ntmps (fun _=>true) (qJ ys) a→EnvR E (tD args) (yG a)→c.wp P (zGq k L fn.ntmps (fun _=>true) (qJ ys) E (fnS P fn K)) a w):
 Calls P f ys.toArray w fun e w'=>∃v,e= .returned v∧Outc k L E K v w':=by
 refine calls_of_wp hf hb ?_
 have hsz:=yYl hsz
 have hlen:=hv.length
 have hg:Good fn.ntmps (fun _=>true) (qJ ys) {tmps:=ys.toArray++Array.replicate (fn.ntmps-ys.toArray.size) undef,defers:=[]}:=
  ⟨by simp;omega,rfl,fun s hs=>by cases hs⟩
 have henv:yG {tmps:=ys.toArray++Array.replicate (fn.ntmps-ys.toArray.size) undef,defers:=[]}=qJ ys:=by
  funext i
  simp only[yG,qJ,yXz,yWs,Array.getElem?_append]
  split
  ·simp
  ·rename_i hlt
   simp at hlt
   rw[yXm hlt,y1g]
   split<;>rfl
 have he:EnvR E (tD args) (yG {tmps:=ys.toArray++Array.replicate (fn.ntmps-ys.toArray.size) undef,defers:=[]}):=by
  rw[henv]
  intro t
  exact zRc hv t
 refine wp_mono (h _ hg he) ?_
 have fin:∀{a':Act} {w':World} {E':Ev} {ρ':yO} {s':St},Good fn.ntmps (fun _=>true) (qJ ys) a'→E.le E'→Rel k L E' s' w'→EnvR E' ρ' (yG a')→(optK (zMw P ρ' s' fn.results.toList) fun vs=>K (lB vs) s')→
  ∃v,(results fn a'.tmps).run P w'= .ok v w'∧∃v',Ending.returned v= .returned v'∧Outc k L E K v' w':=by
  intro a' w' E' ρ' s' hg' hle' R' he' h'
  obtain⟨vs,hvs,hk⟩:=zL h'
  obtain⟨zs,h1,h2⟩:=nT R' he' hvs
  refine⟨pW zs,?_,_,rfl,E',lB vs,s',hle',R',?_,hk⟩
  ·unfold results
   rw[y2b,map_eq_pure_bind,bind_assoc]
   exact sA h1 _ (fun r=>by cases r<;>rfl)
  ·rcases vs with _|⟨v,_|⟨u,vs⟩⟩
   ·simp only[VRL]at h2;subst h2
    simp only[lB,pW,VR];exact⟨[],rfl,VRL.nil⟩
   ·simp only[VRL]at h2
    obtain⟨x,xs,rfl,h3,rfl⟩:=h2
    exact h3
   ·have h20:=h2
    simp only[VRL]at h2
    obtain⟨x,xs,rfl,h3,y,ys',rfl,h4,h5⟩:=h2
    simp only[lB,pW,VR];exact⟨_,rfl,h20⟩
 rintro e a' w' ⟨hg',E',ρ',s',hle',R',he',h'⟩
 cases e<;>first|exact h'.elim|skip
 ·obtain⟨v,h1,h2⟩:=fin hg' hle' R' he' h'
  exact⟨hg'.defers,v,h1,h2⟩
 ·obtain⟨v,h1,h2⟩:=fin hg' hle' R' he' h'
  exact⟨hg'.defers,v,h1,h2⟩
theorem calls_of_walkL (hm:P.follows .mixedOrders=true) {f:FuncId} {fn:Func} (G:List (Nat×Con)) (hG:GOk P G) (d:Nat) (J:List (Nat×SAnn)) (an:List SAnn) (t:Nat) {A M:List Code} {r:Code} (hf:P.funcs[f]? =some fn) (hb:fn.body=some (mkS A (mkS M r))) (hok:(z6x fn.ntmps A && (z6x fn.ntmps M && okC fn.ntmps r))=true)
 {args:List V} {alts:List Alt} (hsz:Nat.ble args.length fn.ntmps=true) (h:yKl P G d J an t fn A M r args alts) {w:World} (hG0:GTab fun b=>w.heap[b]?) {ys:List Value} (hv:VRL (E0 w) args ys):
 Calls P f ys.toArray w fun e w'=>∃y,e= .returned y∧Below w.heap.size w w'∧∃a∈alts,∃o,a.rel o∧∃E',VR E' (a.res o) y:=by
 simp only[yWw]at hok
 refine(zRf hf hb hsz (yUb w hG0) hv (K:=fun v s=>zYk 0 v s alts) fun a hg he=> ?_).mono ?_
 ·refine nR (Eb:=E0 w) (A2:=fun _=>true) (e2:=qJ ys) (K:=fun ρ s=>z2s P (hnd P G d) J an t M r (fnS P fn fun v s=>zYk 0 v s alts) ρ s) (z0b hm hG d) hm (Ev.le.refl _) (fun _ h=>h) ?_ A [] _ a w _ _ hok.1 (fun _ _=>rfl) hg (Ev.le.refl _) (yUb w hG0) he h
  intro E a w ρ s hg hle R he h
  exact zWa (z0b hm hG d) hm hok.2.1 hok.2.2 (fun _ _=>rfl) (fun _ _=>rfl) hg hle R he h
 rintro e w' ⟨y,he,E',v,s',hle,R,hvr,hk⟩
 obtain⟨a,ha,hend⟩:=zIm hk
 obtain⟨o,h1,E2,h2,h3,h4⟩:=z1n hend rfl hle R hvr
 exact⟨y,he,zQc hle R,a,ha,o,h1,E2,h3⟩
set_option maxRecDepth 100000
open Go Cv Go.Proofs
noncomputable def encOC:Con:=con1 rG (fun i=>[vwV i.v,zA i.seq]) (fun _=>[]) (fun i=>uR i.v) (fun i=> .tup [.own 0,zA (wG i.v)]) (fun i=>[.own tU8 1 (bE (yE i.v i.seq))])
def withinBC:Con:=con1 WiI (fun i=>[zA i.n,zA i.lo,zA i.hi]) (fun _=>[]) (fun i=>yU i.n∧-1000000≤i.lo∧i.lo≤i.hi∧i.hi≤1099511627776) (fun i=>zA (zG i.n i.lo i.hi)) (fun _=>[])
structure SbkI where
 x:Prd
 l:List Cmd
 seq:Int
 at_:Int
 turn:Int
@[reducible] def SbkI.ok (i:SbkI):Prop:=MdI.ok ⟨i.x,i.l⟩∧yU i.seq∧yU i.at_∧0≤i.turn∧i.turn≤255
@[reducible] def u8V (n:Int):V:= .d (.v (.int .u8 n))
def sbkC:Con:=con1 SbkI (fun i=>[prdV i.x,roV 9 (i.l.map cmdE),zA i.seq,zA i.at_,u8V i.turn]) (fun _=>[]) (fun i=>i.ok) (fun _=>yF true) (fun _=>[])
def sH:Code→Code
 | .seq a _=>a
 |c=>c
def sT:Code→Code
 | .seq _ b=>b
 |c=>c
noncomputable def z5n:Code:=Tryz.f5.body.getD .skip
noncomputable def yRw:List Code:=[sH z5n,sH (sT z5n),sH (sT (sT z5n))]
noncomputable def yTn:List Code:=[sH (sT (sT (sT z5n))),sH (sT (sT (sT (sT z5n))))]
noncomputable def yQc:Code:=sT (sT (sT (sT (sT z5n))))
theorem sbk_cut:Tryz.f5.body=some (mkS yRw (mkS yTn yQc)):=by kernel_rfl
open Go Cv Go.Proofs
def yJz (i:rG):Prop:=
 ∃(a:Vw),List.map yI a=List.map yI i.v∧(dD a)∧∀(b:Unit),True→cnd (!kO a) (∃(c:Unit),wG i.v=12∧bE (yE i.v i.seq)=[]∧True) (∃(c:Unit),True∧∀(d:Unit),True→∃(e:WN),e.n=i.seq∧AObj.adt (List UInt8) 2 WrU e.l=AObj.adt (List UInt8) 2 WrU []∧e.ok∧∀(f:Unit),True→∃(g:WN),g.n=(bM i)∧AObj.adt (List UInt8) 2 WrU g.l=AObj.adt (List UInt8) 2 WrU (e.l++le e.n 8)∧g.ok∧∀(h:Unit),True→∃(j:Nat),(↑j:Int)=0∧AObj.adt (List UInt8) 2 WrU (gR i j)=AObj.adt (List UInt8) 2 WrU (g.l++[lob g.n])∧∃(k:Nat→Prop),∃(l:Nat→Nat),k j∧∀(m:Nat),k m→cnd (decide ((↑m:Int)<(bM i))) (zQl m i k l) (∃(n:List UInt8),AObj.adt (List UInt8) 2 WrU n=AObj.adt (List UInt8) 2 WrU (gR i m)∧n.length≤1099511627776∧∀(p:Unit),True→∃(q:List UInt8),bE q=bE n∧q.length≤1099511627776∧∀(r:Unit),True→∃(s:WN),s.n=kC q∧AObj.adt (List UInt8) 2 WrU s.l=AObj.adt (List UInt8) 2 WrU n∧(s.l.length+(8:Nat)≤(1099511627776:Nat)∧0≤s.n∧s.n<4294967296)∧∀(t:Unit),True→∃(u:List UInt8),AObj.adt (List UInt8) 2 WrU u=AObj.adt (List UInt8) 2 WrU (s.l++le s.n 4)∧u.length≤1099511627776∧∀(v:Unit),True→∃(w:Unit),wG i.v=0∧bE (yE i.v i.seq)=bE u∧True))
def zTq (i:WiI):Prop:=
 IntKind.i64=IntKind.i64∧nZ i
def yMh (i:SbkI):Prop:=
 ∃(a:MdI),sb a.x.code=sb i.x.code∧iE a.x.months=iE i.x.months∧a.x.tick=i.x.tick∧a.x.low=i.x.low∧a.x.high=i.x.high∧a.x.wide=i.x.wide∧a.x.rule=i.x.rule∧a.x.top=i.x.top∧a.x.least=i.x.least∧a.x.part=i.x.part∧iE a.x.settle=iE i.x.settle∧List.map cmdE a.l=List.map cmdE i.l∧((((-9223372036854775808)≤a.x.tick∧a.x.tick≤9223372036854775807)∧((-9223372036854775808)≤a.x.wide∧a.x.wide≤9223372036854775807)∧((-9223372036854775808)≤a.x.rule∧a.x.rule≤9223372036854775807)∧((-9223372036854775808)≤a.x.top∧a.x.top≤9223372036854775807)∧((-9223372036854775808)≤a.x.least∧a.x.least≤9223372036854775807)∧((-9223372036854775808)≤a.x.part∧a.x.part≤9223372036854775807)∧a.x.months.length≤9223372036854775807)∧(∀(b:Cmd),b∈a.l→((-9223372036854775808)≤b.kind∧b.kind≤9223372036854775807)∧((-9223372036854775808)≤b.id∧b.id≤9223372036854775807)∧((-9223372036854775808)≤b.inst∧b.inst≤9223372036854775807)∧((-9223372036854775808)≤b.side∧b.side≤9223372036854775807)∧((-9223372036854775808)≤b.price∧b.price≤9223372036854775807)∧((-9223372036854775808)≤b.qty∧b.qty≤9223372036854775807)∧((-9223372036854775808)≤b.least∧b.least≤9223372036854775807)∧(-9223372036854775808)≤b.time∧b.time≤9223372036854775807)∧a.l.length≤9223372036854775807)∧∀(b:Vw),rO b→∃(c:rG),List.map yI c.v=List.map yI b∧c.seq=i.seq∧(List.length c.v≤1099511627776∧∀(d:Sd×Sd),d∈c.v→wJ d)∧∀(d:Unit),True→∃(e:List UInt8),bE e=bE (yE c.v c.seq)∧e.length≤1099511627776∧∀(f:Unit),True→∃(g:Vw),List.map yI g=List.map yI b∧(dD g)∧∀(h:Unit),True→cnd (!kO g) (∃(j:Unit),true=false∧True) (cnd (wG c.v !=0) (∃(j:Unit),true=false∧True) (cnd (nB e !=0) (∃(j:Unit),true=false∧True) (cnd (rB e !=i.seq) (∃(j:Unit),true=false∧True) (∃(j:zRx),List.map yI j.v=List.map yI b∧List.map yI j.w=List.map yI (p7 e)∧(pI j)∧∀(k:Unit),True→cnd (!zMu j.v j.w) (∃(l:Unit),true=false∧True) (∃(l:WiI),l.n=i.at_∧l.lo=0∧l.hi=IntKind.i64.wrap ((↑(bE (yE c.v c.seq)).length:Int)-1)∧(((-9223372036854775808)≤l.n∧l.n≤9223372036854775807)∧(-1000000)≤l.lo∧l.lo≤l.hi∧l.hi≤1099511627776)∧∀(m:Unit),True→(0≤zG l.n l.lo l.hi∧zG l.n l.lo l.hi<(↑(bE (yE c.v c.seq)).length:Int))∧∃(n:Int),zE (bE (yE c.v c.seq)) (zG l.n l.lo l.hi).toNat 0 1=some [D.v (Value.int IntKind.u8 n)]∧(0≤zG l.n l.lo l.hi∧zG l.n l.lo l.hi<(↑(bE (yE c.v c.seq)).length:Int))∧(zG l.n l.lo l.hi).toNat<(bE (yE c.v c.seq)).length∧∃(p:List UInt8),bE p=zT (bE (yE c.v c.seq)) (zG l.n l.lo l.hi).toNat 0 [D.v (Value.int IntKind.u8 (aI IntKind.u8 n i.turn))]∧p.length≤1099511627776∧∀(q:Unit),True→cnd (i.turn==0) (cnd (nB p==0) (∃(r:Unit),True∧∀(s:Unit),True→∃(t:Unit),true=true∧True) (∃(r:Unit),true=false∧True)) (cnd (nB p==14) (cnd ((↑(List.map yI (p7 p)).length:Int)==0) (cnd (rB p==0) (∃(r:Unit),True∧∀(s:Unit),True→∃(t:Unit),true=true∧True) (∃(r:Unit),true=false∧True)) (∃(r:Unit),true=false∧True)) (∃(r:Unit),true=false∧True)))))))
theorem eqsbk (i:SbkI):yMh i=yKl Tryz.prog ([(20,madeC),(21,encOC),(22,decC),(23,rightVC),(19,fsameC),(14,withinBC),(24,known20C)]) 0 [] [] 12 Tryz.f5 yRw yTn yQc (sbkC.pat i) (sbkC.alts i):=by kernel_rfl
open Go Cv Go.Proofs
theorem yQy (i:rG) (h:encOC.cnd i):yJz i:=by
 unfold yJz dD wJ zQl zRm zDg bM zHf mH mA zCq wN gR dI
 refine⟨i.v,rfl,h,fun _ _=>Cv.cnd.mk (fun e=> ?_) (fun e=> ?_)⟩
 ·have hn:¬qM i.v:=by simpa[kO]using e
  exact⟨(),by rw[wG,yWj hn],by rw[yE,yWj hn];rfl,trivial⟩
 have hr:qM i.v:=by simpa[kO]using e
 have hB:∀j,(le i.seq 8++[lob i.v.length]++(i.v.take j).flatMap y4).length≤3134470:=fun j=>by
  have:=rJ hr j
  simp only[yWi,jX,yWr,yXp];omega
 refine⟨(),trivial,fun _ _=>⟨⟨[],i.seq⟩,rfl,rfl,(show 0+8≤1099511627776 by omega),fun _ _=>⟨⟨le i.seq 8,i.v.length⟩,by rw[yWk],rfl,(show(le i.seq 8).length+8≤1099511627776 by rw[jX];omega),fun _ _=>⟨0,rfl,by simp,fun j=>j≤i.v.length,fun j=>i.v.length-j,by dsimp only;omega,fun j hj=>zI (fun hlt=> ?_) (fun hlt=> ?_)⟩⟩⟩⟩
 ·dsimp only at hj
  rw[yWk]at hlt ⊢
  obtain⟨x,hx⟩:=getD (l:=i.v) (i:=j) (by omega)
  have hm:=hr.1 x (yWt hx)
  have l1:=hm.1.len
  have l2:=hm.2.len
  have hl:=hr.2
  have w1:IntKind.i64.wrap ((j:Int)+1)=((j+1:Nat):Int):=by rw[w64 (by omega)];rfl
  have hBj:=hB j
  have hBs:le i.seq 8++[lob i.v.length]++(i.v.take (j+1)).flatMap y4=le i.seq 8++[lob i.v.length]++(i.v.take j).flatMap y4++y4 x:=by
   rw[gF hx];simp only[yWo]
  generalize hb:le i.seq 8++[lob i.v.length]++(i.v.take j).flatMap y4=B at hBj hBs
  have lv:∀(C:List UInt8) (l:List Lv) (k:Nat),C.length≤5000000→l.length≤255→((C++(l.take k).flatMap yX).length+24≤1099511627776):=fun C l k hC hl=>by
   have:=u9 (l.take k)
   rw[yWi]
   rw[yXd]at this
   omega
  have lw:∀(k:Nat),k<255→IntKind.i64.wrap ((k:Int)+1)=((k+1:Nat):Int):=fun k hk=>by rw[w64 (by omega)];rfl
  have le1:=u9 x.1.levels
  have le2:=u9 x.2.levels
  refine⟨⟨by omega,by omega⟩,_,_,_,_,_,_,_,_,_,_,zMv hx rfl,⟨B,x.1.levels.length⟩,by rw[yWk],rfl,by show B.length+8≤_;omega,fun _ _=>⟨(B++[lob x.1.levels.length],x.1.levels,0),rfl,by simp,fun y=>∃k,k≤x.1.levels.length∧y=(B++[lob x.1.levels.length],x.1.levels,k),fun y=>x.1.levels.length-y.2.2,⟨0,by omega,k0q⟩,?_⟩⟩
  rintro _ ⟨k,hk,rfl⟩
  dsimp only
  refine zI (fun hlt1=> ?_) (fun hlt1=> ?_)
  ·rw[yWk]at hlt1 ⊢
   obtain⟨y,hy⟩:=getD (l:=x.1.levels) (i:=k) (by omega)
   refine⟨⟨by omega,by omega⟩,_,_,_,zMv hy rfl,⟨_,y⟩,rfl,rfl,rfl,rfl,lv _ _ _ (by rw[yWi];simp;omega) l1,fun _ _=>⟨(_,_,k+1),(lw k (by omega)).symm,?_,⟨k+1,by omega,k0q⟩,by dsimp only;omega,k0q⟩⟩
   dsimp only
   rw[gF hy];simp only[yWo]
  ·rw[yWk]at hlt1
   obtain rfl:k=x.1.levels.length:=by omega
   rw[yWu (yXl _)]
   have e1:gZ x.1=[lob x.1.levels.length]++x.1.levels.flatMap yX++(if x.1.has then[lob 1]++yX x.1.imp else[lob 0]):=rfl
   have e2:gZ x.2=[lob x.2.levels.length]++x.2.levels.flatMap yX++(if x.2.has then[lob 1]++yX x.2.imp else[lob 0]):=rfl
   have bl:∀C:List UInt8,C=B++gZ x.1→C.length≤4000000:=fun C e=>by
    subst e
    have:=eR l1
    rw[yWi];omega
   refine Cv.cnd.mk (fun hh=> ?_) (fun hh=> ?_)
   ·have hh:x.1.has=false:=by simpa using hh
    rw[hh,yWj (by simp)]at e1
    refine⟨⟨B++[lob x.1.levels.length]++x.1.levels.flatMap yX,0⟩,rfl,rfl,(by dsimp only[WN.ok];simp only[yWi,yWr,yXp];omega),fun _ _=> ?_⟩
    have eC:B++[lob x.1.levels.length]++x.1.levels.flatMap yX++[lob 0]=B++gZ x.1:=by rw[e1];simp only[yWo]
    generalize B++[lob x.1.levels.length]++x.1.levels.flatMap yX++[lob 0]=C at eC
    (
    have hC:=bl C eC
    refine⟨⟨C,x.2.levels.length⟩,by rw[yWk],rfl,(show C.length+8≤1099511627776 by omega),fun _ _=>⟨(C++[lob x.2.levels.length],x.2.levels,0),rfl,by simp,fun y=>∃k,k≤x.2.levels.length∧y=(C++[lob x.2.levels.length],x.2.levels,k),fun y=>x.2.levels.length-y.2.2,⟨0,by omega,k0q⟩,?_⟩⟩
    rintro _ ⟨k,hk,rfl⟩
    dsimp only
    refine zI (fun hlt2=> ?_) (fun hlt2=> ?_)
    ·rw[yWk]at hlt2 ⊢
     obtain⟨y,hy⟩:=getD (l:=x.2.levels) (i:=k) (by omega)
     refine⟨⟨by omega,by omega⟩,_,_,_,zMv hy rfl,⟨_,y⟩,rfl,rfl,rfl,rfl,lv _ _ _ (by rw[yWi];simp;omega) l2,fun _ _=>⟨(_,_,k+1),(lw k (by omega)).symm,?_,⟨k+1,by omega,k0q⟩,by dsimp only;omega,k0q⟩⟩
     dsimp only
     rw[gF hy];simp only[yWo]
    ·rw[yWk]at hlt2
     obtain rfl:k=x.2.levels.length:=by omega
     rw[yWu (yXl _)]
     refine Cv.cnd.mk (fun hh2=> ?_) (fun hh2=> ?_)
     ·have hh2:x.2.has=false:=by simpa using hh2
      rw[hh2,yWj (by simp)]at e2
      refine⟨⟨C++[lob x.2.levels.length]++x.2.levels.flatMap yX,0⟩,rfl,rfl,(by dsimp only[WN.ok];simp only[yWi,yWr,yXp];omega),fun _ _=>⟨j+1,w1.symm,?_,(by omega),(by omega),k0q⟩⟩
      rw[hBs,y4,← yWo,← eC,e2]
      simp only[yWo]
     ·have hh2:x.2.has=true:=by simpa using hh2
      rw[hh2,yWl rfl]at e2
      refine⟨⟨C++[lob x.2.levels.length]++x.2.levels.flatMap yX,1⟩,rfl,rfl,(by dsimp only[WN.ok];simp only[yWi,yWr,yXp];omega),fun _ _=>⟨⟨_,x.2.imp⟩,rfl,rfl,rfl,rfl,(by simp only[yWi,yWr,yXp];omega),fun _ _=>⟨j+1,w1.symm,?_,(by omega),(by omega),k0q⟩⟩⟩
      rw[hBs,y4,← yWo,← eC,e2]
      simp only[yWo])
   ·have hh:x.1.has=true:=by simpa using hh
    rw[hh,yWl rfl]at e1
    refine⟨⟨B++[lob x.1.levels.length]++x.1.levels.flatMap yX,1⟩,rfl,rfl,(by dsimp only[WN.ok];simp only[yWi,yWr,yXp];omega),fun _ _=>⟨⟨_,x.1.imp⟩,rfl,rfl,rfl,rfl,(by simp only[yWi,yWr,yXp];omega),fun _ _=> ?_⟩⟩
    have eC:B++[lob x.1.levels.length]++x.1.levels.flatMap yX++[lob 1]++yX x.1.imp=B++gZ x.1:=by rw[e1];simp only[yWo]
    generalize B++[lob x.1.levels.length]++x.1.levels.flatMap yX++[lob 1]++yX x.1.imp=C at eC
    (
    have hC:=bl C eC
    refine⟨⟨C,x.2.levels.length⟩,by rw[yWk],rfl,(show C.length+8≤1099511627776 by omega),fun _ _=>⟨(C++[lob x.2.levels.length],x.2.levels,0),rfl,by simp,fun y=>∃k,k≤x.2.levels.length∧y=(C++[lob x.2.levels.length],x.2.levels,k),fun y=>x.2.levels.length-y.2.2,⟨0,by omega,k0q⟩,?_⟩⟩
    rintro _ ⟨k,hk,rfl⟩
    dsimp only
    refine zI (fun hlt2=> ?_) (fun hlt2=> ?_)
    ·rw[yWk]at hlt2 ⊢
     obtain⟨y,hy⟩:=getD (l:=x.2.levels) (i:=k) (by omega)
     refine⟨⟨by omega,by omega⟩,_,_,_,zMv hy rfl,⟨_,y⟩,rfl,rfl,rfl,rfl,lv _ _ _ (by rw[yWi];simp;omega) l2,fun _ _=>⟨(_,_,k+1),(lw k (by omega)).symm,?_,⟨k+1,by omega,k0q⟩,by dsimp only;omega,k0q⟩⟩
     dsimp only
     rw[gF hy];simp only[yWo]
    ·rw[yWk]at hlt2
     obtain rfl:k=x.2.levels.length:=by omega
     rw[yWu (yXl _)]
     refine Cv.cnd.mk (fun hh2=> ?_) (fun hh2=> ?_)
     ·have hh2:x.2.has=false:=by simpa using hh2
      rw[hh2,yWj (by simp)]at e2
      refine⟨⟨C++[lob x.2.levels.length]++x.2.levels.flatMap yX,0⟩,rfl,rfl,(by dsimp only[WN.ok];simp only[yWi,yWr,yXp];omega),fun _ _=>⟨j+1,w1.symm,?_,(by omega),(by omega),k0q⟩⟩
      rw[hBs,y4,← yWo,← eC,e2]
      simp only[yWo]
     ·have hh2:x.2.has=true:=by simpa using hh2
      rw[hh2,yWl rfl]at e2
      refine⟨⟨C++[lob x.2.levels.length]++x.2.levels.flatMap yX,1⟩,rfl,rfl,(by dsimp only[WN.ok];simp only[yWi,yWr,yXp];omega),fun _ _=>⟨⟨_,x.2.imp⟩,rfl,rfl,rfl,rfl,(by simp only[yWi,yWr,yXp];omega),fun _ _=>⟨j+1,w1.symm,?_,(by omega),(by omega),k0q⟩⟩⟩
      rw[hBs,y4,← yWo,← eC,e2]
      simp only[yWo])
 ·dsimp only at hj
  rw[yWk]at hlt
  obtain rfl:j=i.v.length:=by omega
  have hBj:=hB i.v.length
  rw[yWu (yXl _)]at hBj ⊢
  have hc:=sZ (xE i.v i.seq)
  have hl:(xE i.v i.seq).length≤3134470:=hBj
  have hl2:(xE i.v i.seq++le (kC (xE i.v i.seq)) 4).length≤1099511627776:=by rw[yWi,jX];omega
  exact⟨xE i.v i.seq,rfl,(by omega),fun _ _=>⟨xE i.v i.seq,rfl,(by omega),fun _ _=>⟨⟨xE i.v i.seq,_⟩,rfl,rfl,⟨(by dsimp only;omega),hc.1,hc.2⟩,fun _ _=>⟨_,rfl,hl2,fun _ _=>⟨(),by rw[wG,yWl hr],by rw[yE,yWl hr];rfl,trivial⟩⟩⟩⟩⟩
theorem encO_ok:encOC.ok Tryz.prog 21:=okw mixed (gokc rightV_ok (gokc zSl (gokc zSh (gokc z2k (gokc z0n (gokc zQq (gokc zYi (gokc zYs gok0)))))))) 0 (fun _=>[]) (fun i=>yTp i) [] Tryz.func21 yQy
theorem yAl (i:WiI) (h:withinBC.cnd i):zTq i:=by
 obtain⟨⟨a1,a2⟩,a3,a4,a5⟩:yU i.n∧-1000000≤i.lo∧i.lo≤i.hi∧i.hi≤1099511627776:=h
 unfold zTq nZ dA
 rw[w64 (x:=i.hi-i.lo) (by omega),w64 (x:=i.hi-i.lo+1) (by omega)]
 obtain⟨d,hd⟩:∃d:Int,i.hi-i.lo+1=d:=⟨_,rfl⟩
 rw[hd]
 have h1:i.n.tmod d=if 0≤i.n then i.n % d else-((-i.n) % d):=by
  split
  ·rename_i h;rw[y0v h]
  ·rename_i h
   have:i.n= -(-i.n):=by omega
   conv=>lhs;rw[this]
   rw[Int.neg_tmod,y0v (by omega)]
 have hb1:=y1j i.n (show d≠0 by omega)
 have hb2:=y1a i.n (show 0<d by omega)
 have hb3:=y1j (-i.n) (show d≠0 by omega)
 have hb4:=y1a (-i.n) (show 0<d by omega)
 have key:i.n.tmod d<0→i.n % d=i.n.tmod d+d:=fun hneg=>by
  have:=y2s (a:=i.n.tmod d+d) (b:=d) (by rw[h1]at hneg ⊢;split at hneg<;>split<;>omega) (by omega)
  rw[← this,Int.add_emod_right]
  have e:=Int.tmod_add_mul_tdiv i.n d
  conv=>lhs;rw[← e]
  rw[y0w]
 have key2:¬i.n.tmod d<0→i.n % d=i.n.tmod d:=fun hneg=>by
  have hlt:i.n.tmod d<d:=by rw[h1];split<;>omega
  have:=y2s (a:=i.n.tmod d) (b:=d) (by omega) hlt
  rw[← this]
  have e:=Int.tmod_add_mul_tdiv i.n d
  conv=>lhs;rw[← e]
  rw[y0w]
 refine⟨rfl,by omega,zI (fun c=>⟨(),?_,trivial⟩) (fun c=>⟨(),?_,trivial⟩)⟩
 ·have k:=key c
  rw[zG,hd,k]
  rw[w64 (x:=i.n.tmod d+i.hi) (by omega),w64 (x:=i.n.tmod d+i.hi-i.lo) (by omega),w64 (x:=i.n.tmod d+i.hi-i.lo+1) (by omega),w64 (by omega)]
  omega
 ·have k:=key2 c
  rw[zG,hd,k,w64 (by omega)]
theorem withinB_ok:withinBC.ok Tryz.prog 14:=okw mixed gok0 0 (fun _=>[]) (fun _=>[]) [] Tryz.func14 yAl
theorem sw {n lo hi:Int} (h:lo≤hi):lo≤zG n lo hi∧zG n lo hi≤hi:=by
 have h1:=y1j n (show hi-lo+1≠0 by omega)
 have h2:=y1a n (show 0<hi-lo+1 by omega)
 rw[zG]
 constructor<;>omega
theorem yNo (b:UInt8) {t:Int} (h0:0≤t) (h1:t≤255):∃x:UInt8,aI IntKind.u8 (b.toNat:Int) t=(x.toNat:Int)∧(x=b↔t=0):=by
 obtain⟨n,rfl⟩:∃n:Nat,t=n:=⟨t.toNat,by omega⟩
 have hb:=b.toNat_lt
 have hn:n<256:=by omega
 have hx:b.toNat ^^^ n<256:=yZx (n:=8) (by omega) (by omega)
 refine⟨UInt8.ofNat (b.toNat ^^^ n),?_,?_⟩
 ·rw[UInt8.toNat_ofNat_of_lt' hx,aI]
  have e:(BitVec.ofInt IntKind.u8.bits (b.toNat:Int) ^^^ BitVec.ofInt IntKind.u8.bits (n:Int)).toNat=b.toNat ^^^ n:=by
   show(BitVec.ofInt 8 (b.toNat:Int) ^^^ BitVec.ofInt 8 (n:Int)).toNat=_
   rw[BitVec.ofInt_natCast,BitVec.ofInt_natCast,BitVec.toNat_xor,BitVec.toNat_ofNat,BitVec.toNat_ofNat,y0l (by omega),y0l (by omega)]
  rw[e]
  show((b.toNat ^^^ n:Nat):Int) % 256=_
  omega
 ·constructor
  ·intro e
   have:b.toNat ^^^ n=b.toNat:=by
    have:=congrArg UInt8.toNat e
    rwa [UInt8.toNat_ofNat_of_lt' hx]at this
   have h2:n=0:=by
    have h3:b.toNat ^^^ (b.toNat ^^^ n)=b.toNat ^^^ b.toNat:=by rw[this]
    rwa [← Nat.xor_assoc,Nat.xor_self,Nat.zero_xor]at h3
   omega
  ·intro e
   have:n=0:=by omega
   subst this
   rw[Nat.xor_zero,UInt8.ofNat_toNat]
theorem yPf (l:List UInt8) {k:Nat} (hk:k<l.length) (x:UInt8):bE (l.set k x)=zT (bE l) k 0 [D.v (.int .u8 x.toNat)]:=by
 have h':(bE l)[k]? =some [D.v (.int .u8 (l[k]).toNat)]:=by rw[bE,yXr,yXj hk];rfl
 apply y0b
 intro j
 rw[zT,bE,yXr,yZt,y2e]
 by_cases hj:k=j
 ·subst hj
  rw[yWl rfl,yWl hk,h']
  show _=some (if k=k then _ else _)
  rw[yWl rfl];rfl
 ·rw[yWj hj,bE,yXr]
  cases l[j]? with
  |none=>rfl
  |some y=>
   show _=some (if k=j then _ else _)
   rw[yWj hj];rfl
theorem yUa {l:List UInt8} {k:Nat} (hk:k<l.length):zE (bE l) k 0 1=some [D.v (.int .u8 (l[k]).toNat)]:=by
 rw[zE,bE,yXr,yXj hk];rfl
theorem yGy {v:Vw} (g:rO v) (seq:Int):4≤(yE v seq).length∧(yE v seq).length≤4000000:=by
 refine⟨yQp g seq,?_⟩
 rw[yE,yWl g.r,yWi,jX]
 have h1:=rJ g.r v.length
 rw[y0a]at h1
 have h2:(xE v seq).length=(le seq 8++[lob v.length]++v.flatMap y4).length:=rfl
 rw[h2,yWi,yWi,jX,yWr,yXp]
 omega
open Classical in
theorem vwR {v:Vw} (g:rO v):kO v=true:=by
 unfold kO
 exact yXc g.r
open Classical in
theorem yTl (v:Vw):zMu v v=true:=by
 unfold zMu
 exact yXc rfl
theorem vsbk (i:SbkI) (h:sbkC.cnd i):yMh i:=by
 obtain⟨hm,hs,ha,t0,t1⟩:i.ok:=h
 unfold yMh pI dD wJ
 refine⟨⟨i.x,i.l⟩,rfl,rfl,rfl,rfl,rfl,rfl,rfl,rfl,rfl,rfl,rfl,rfl,hm,fun v g=> ?_⟩
 obtain⟨l4,l5⟩:=yGy g i.seq
 obtain⟨b1,b2,b3⟩:=z6u g.f g.r hs
 have hbl:(bE (yE v i.seq)).length=(yE v i.seq).length:=vK _
 have hwi:=sw (n:=i.at_) (lo:=0) (hi:=((yE v i.seq).length:Int)-1) (by omega)
 refine⟨⟨v,i.seq⟩,rfl,rfl,g.s,fun _ _=>⟨yE v i.seq,rfl,by omega,fun _ _=>⟨v,rfl,g.s,fun _ _=>Cv.cnd.mk (fun e=>absurd e (by rw[vwR g];decide)) (fun _=>Cv.cnd.mk (fun e=>absurd e (by dsimp only;rw[ySy g];decide)) (fun _=>Cv.cnd.mk (fun e=>absurd e (by rw[b3];decide)) (fun _=>Cv.cnd.mk (fun e=>absurd e (by rw[b2];simp)) (fun _=>⟨⟨v,v⟩,rfl,by rw[b1],⟨g.s,g.s⟩,fun _ _=>Cv.cnd.mk (fun e=>absurd e (by dsimp only;rw[yTl];decide)) (fun _=> ?_)⟩))))⟩⟩⟩
 refine⟨⟨i.at_,0,((yE v i.seq).length:Int)-1⟩,rfl,rfl,?_,⟨ha,by dsimp only;omega,by dsimp only;omega,by dsimp only;omega⟩,fun _ _=> ?_⟩
 ·dsimp only
  rw[hbl,w64 (by omega)]
 dsimp only
 obtain⟨k,hk⟩:∃k:Nat,zG i.at_ 0 (((yE v i.seq).length:Int)-1)=k:=⟨(zG i.at_ 0 (((yE v i.seq).length:Int)-1)).toNat,by omega⟩
 rw[hk]at hwi ⊢
 have hkl:k<(yE v i.seq).length:=by omega
 obtain⟨x,hx,hx0⟩:=yNo ((yE v i.seq)[k]) t0 t1
 rw[yXa]
 refine⟨⟨by omega,by omega⟩,_,yUa hkl,⟨by omega,by omega⟩,by omega,(yE v i.seq).set k x,by rw[hx];exact yPf _ hkl x,by rw[yXf];omega,fun _ _=> ?_⟩
 refine Cv.cnd.mk (fun e=> ?_) (fun e=> ?_)
 ·have e0:i.turn=0:=by simpa using e
  have ex:x=(yE v i.seq)[k]:=hx0.2 e0
  rw[ex,List.set_getElem_self,b3]
  exact Cv.cnd.mk (fun _=>⟨(),trivial,fun _ _=>⟨(),rfl,trivial⟩⟩) (fun e=>absurd e (by decide))
 ·have e0:¬i.turn=0:=by simpa using e
  obtain⟨s1,s2,s3⟩:=z6m g.r (seq:=i.seq) (x:=x) hkl (by
   rw[yXj hkl]
   intro e
   exact e0 (hx0.1 (Option.some.inj e).symm))
  rw[s1,s2,s3]
  exact Cv.cnd.mk (fun _=>Cv.cnd.mk (fun _=>Cv.cnd.mk (fun _=>⟨(),trivial,fun _ _=>⟨(),rfl,trivial⟩⟩) (fun e=>absurd e (by decide))) (fun e=>absurd e (by decide))) (fun e=>absurd e (by decide))
end Sx
