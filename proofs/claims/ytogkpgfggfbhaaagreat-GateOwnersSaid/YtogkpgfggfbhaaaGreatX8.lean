/- Texts of ours, one behind the other: a walk that the kernel reckons, and contracts of functions. No condition. -/
import Derived.Test.YtogkpgfggfbhaaaGreatX7
namespace Sx
set_option linter.unusedVariables false
set_option maxRecDepth 100000
open Go Cv Go.Proofs
def gO (a:ArL):=(List.map zHl (a.a.ents a.l))
def z2g (i:BoI):Prop:=
 ∃(a:ArL),a.n=i.r.queue∧AObj.adt Arena 3 zH a.a=AObj.adt Arena 3 zH i.b.a∧a.a.listOk a.n a.l∧∀(b:Unit),True→∃(c:Nat),(↑c:Int)=0∧List.map wO (List.take c i.ords)=[]∧∃(d:Nat→Prop),∃(e:Nat→Nat),d c∧∀(f:Nat),d f→cnd (decide ((↑f:Int)<(↑(gO a).length:Int))) ((0≤(↑f:Int)∧(↑f:Int)<(↑(gO a).length:Int))∧∃(g:Int),∃(h:Int),∃(j:Int),∃(k:Bool),zF (gO a) (↑f:Int).toNat 0 4=some [dI g,dI h,dI j,D.v (.bool k)]∧((List.map wO (List.take f i.ords)).length+1)*(40:Nat)≤(70368744177664:Nat)∧∃(l:Nat),(↑l:Int)=IntKind.i64.wrap ((↑f:Int)+1)∧List.map wO (List.take l i.ords)=List.map wO (List.take f i.ords)++[[dI h,dI i.s,dI i.r.price,dI j,D.v (.bool k)]]∧d l∧e l<e f∧AObj.adt Arena 3 zH a.a=AObj.adt Arena 3 zH a.a∧AObj.own 246 4 (gO a)=AObj.own 246 4 (gO a)∧Sx.AObj.cells [V.d (dI i.r.price),V.d (dI i.r.queue)] 301=Sx.AObj.cells [V.d (dI i.r.price),V.d (dI i.r.queue)] 301∧Sx.AObj.cells (jT (kG 0 1 6) [V.nm 1 0,V.own 2,V.own 3,V.mp 4,zA i.b.top1,zA i.b.top2,V.own 5,yL i.b.has1,yL i.b.has2]) (244:TypeId)=Sx.AObj.cells (jT (kG 0 1 6) [V.nm 1 0,V.own 2,V.own 3,V.mp 4,zA i.b.top1,zA i.b.top2,V.own 5,yL i.b.has1,yL i.b.has2]) (244:TypeId)∧AObj.own 301 2 (List.map zC i.b.buys)=AObj.own 301 2 (List.map zC i.b.buys)∧AObj.own 301 2 (List.map zC i.b.sells)=AObj.own 301 2 (List.map zC i.b.sells)∧Sx.AObj.map (atE i.b.at_)=Sx.AObj.map (atE i.b.at_)∧AObj.own 3 1 (iE i.b.spare)=AObj.own 3 1 (iE i.b.spare)) (∃(g:Unit),i.b.top1=i.b.top1∧i.b.top2=i.b.top2∧i.b.has1=i.b.has1∧i.b.has2=i.b.has2∧AObj.adt Arena 3 zH i.b.a=AObj.adt Arena 3 zH a.a∧List.map zC i.b.buys=List.map zC i.b.buys∧List.map zC i.b.sells=List.map zC i.b.sells∧atE i.b.at_=atE i.b.at_∧iE i.b.spare=iE i.b.spare∧List.map wO i.ords=List.map wO (List.take f i.ords)∧True)
set_option linter.unusedSimpArgs false
open Go Cv Go.Proofs
theorem yVi {l:List Ent} {k:Nat} {e:Ent} (h:l[k]? =some e):zF (l.map zHl) k 0 4=some [D.v (.int .i64 e.slot),.v (.int .i64 e.id),.v (.int .i64 e.qty),.v (.bool e.top)]:=elA h (by simp[zHl]) rfl
theorem yHr (i:BoI) (h:ordersC.cnd i):z2g i:=by
 have h:i.b.a.listOk i.r.queue i.l:=h
 have hl:=h.len
 have hen:(i.b.a.ents i.l).length=i.l.length:=by simp[Arena.ents]
 have hol:i.ords.length=i.l.length:=by simp[BoI.ords,Arena.ents]
 unfold z2g gO dI
 refine⟨⟨i.b.a,i.r.queue,i.l⟩,rfl,rfl,h,fun _ _=> ?_⟩
 simp only[yWo]
 refine⟨0,rfl,rfl,fun j=>j≤i.l.length,fun j=>i.l.length-j,yYe _,fun j hj=>zJ (fun c=> ?_) (fun c=> ?_)⟩
 ·obtain⟨e,he⟩:=yA (l:=i.b.a.ents i.l) (i:=j) (by omega)
  have ho:i.ords[j]? =some ⟨e.id,i.s,i.r.price,e.qty,e.top⟩:=by rw[BoI.ords,yYj,he];rfl
  refine⟨⟨by omega,by omega⟩,e.slot,e.id,e.qty,e.top,yVi he,by rw[yXi];omega,j+1,wjn (by omega),?_,by omega,by dsimp only;omega,by(repeat'(first|exact trivial|exact rfl|apply And.intro))⟩
  rw[yYm,ho];simp[wO]
 ·have hje:j=i.l.length:=by omega
  subst hje
  rw[yXg (l:=i.ords) (by omega)]
  exact kp
theorem zOs:ordersC.ok Tryz.prog 250:=okw mixed (gokc z9y gok0) 0 (fun _=>[]) (fun i=>yGi i) [0] Tryz.func250 yHr
open Go Go.RowKit Cv
theorem zVy {P:Program} {tS rt e sz by_:Nat} {z:Array Value} (hi:uZ P tS=some (e,sz,by_,z)) {w:World} {g i c n k:Nat} {A:Option Addr} {cur src:List Value} {T:TypeId}
 (hg:w.heap[g]? =some (.cells cur.toArray T (0,0))) (hs:(Builtin.firstCells sz n (.slice A n k)).run P w= .ok src.toArray w) (hl:src.length=n*sz) (hfit:i+n≤c) (hroom:i*sz+n*sz≤cur.length) (hone:∀v∈src,v.oneC=true):
 u6 P (Builtin.append_ #[tS,tS] rt #[.slice (some ⟨g,0,none⟩) i c,.slice A n k]) w (.slice (some ⟨g,0,none⟩) (i+n) c) (World.setB w g (.cells (spl cur (i*sz) src).toArray T (0,0))):=by
 obtain⟨inf,zv,q1,q2,rfl,rfl,q5,rfl⟩:=jF hi
 have hst:=j8 (P:=P) src 0 (i*inf.size) cur w hg (by omega) hone
 simp only[y0q]at hst
 have hln:∀w,(Builtin.lenOf (.slice A n k)).run P w= .ok n w:=fun w=>rfl
 unfold u6 Builtin.append_
 simp only[yYk,yYr,yYf,bind,pure,run_bind,Sem.bind,Sem.run,Cv.run_underlying q1,Cv.run_sizeOf q2,yXe,if_false,hs,hln,hfit,if_true,uU,yXq,hst,y1q]
theorem z0g {P:Program} {tS ty e sz by_:Nat} {z:Array Value} (hi:uZ P tS=some (e,sz,by_,z)) (hz:z.size=sz) (h1:∀v∈z.toList,v.oneC=true) {w:World} {g o n c:Nat} {cur:List Value} {T:TypeId} (hn:0<n)
 (hg:w.heap[g]? =some (.cells cur.toArray T (0,0))) (hroom:o+n*sz≤cur.length):
 u6 P (Builtin.clear_ #[tS] ty #[.slice (some ⟨g,o,none⟩) n c]) w (.tuple #[]) (World.setB w g (.cells (spl cur o (Builtin.zeroCells z n).toList).toArray T (0,0))):=by
 obtain⟨inf,zv,q1,q2,rfl,rfl,q5,rfl⟩:=jF hi
 have hlz:(Builtin.zeroCells zv.cells n).toList.length=n*inf.size:=by rw[y1n,size_zeroCells,hz]
 have hst:=j8 (P:=P) (Builtin.zeroCells zv.cells n).toList 0 o cur w hg (by omega) (by
  intro v hv
  obtain⟨i,hi,rfl⟩:=List.getElem_of_mem hv
  simp only[Builtin.zeroCells,Array.getElem_toList,Array.getElem_map,Array.getElem_range]
  have hpos:0<zv.cells.size:=by
   rcases Nat.eq_zero_or_pos zv.cells.size with h0|h0
   ·rw[hlz,← hz,h0]at hi;omega
   ·exact h0
  have hlt:i % zv.cells.size<zv.cells.size:=Nat.mod_lt _ hpos
  rw[getElem!_pos zv.cells (i % zv.cells.size) hlt]
  exact h1 _ (by simp))
 simp only[y0q]at hst
 have hzr:∀w,(zeroValue e).run P w= .ok zv w:=fun w=>zero_run (by unfold zero?;rw[q2];exact q5) w
 obtain⟨m,rfl⟩:∃m,n=m+1:=⟨n-1,by omega⟩
 unfold u6 Builtin.clear_
 simp only[yYk,yYr,yYf,bind,pure,run_bind,Sem.bind,Sem.run,Cv.run_underlying q1,hzr,hst]
def yQp (P:Program) (tS sz:Nat) (s:Option Addr) (sn sk:Nat) (i j:Int) (w:World) (R:Ending→World→Prop):Prop:=
yMd s sk i j (sn:Int) sz fun a1 na1 ka1=>
cnd ((i:Int)==j) (
R (.returned (.slice s sn sk)) w) (
z3e w fun w2=>
slN s sn sk none (some i) sz fun a3 na3 ka3=>
slN s sn sk (some j) none sz fun a4 na4 ka4=>
∃(a5:Option Addr) (na5 ka5:Nat),∃w6:World,u6 P (Builtin.append_ #[tS,tS] tS #[.slice a3 na3 ka3,.slice a4 na4 ka4]) w2 (.slice a5 na5 ka5) w6∧
slN a5 na5 ka5 (some (na5:Int)) (some (sn:Int)) sz fun a7 na7 ka7=>
∃w8:World,u6 P (Builtin.clear_ #[tS] 0 #[.slice a7 na7 ka7]) w6 (.tuple #[]) w8∧
R (.returned (.slice a5 na5 ka5)) w8)
theorem yWb {P:Program} {tS e sz by_:Nat} {z:Array Value} (hi:uZ P tS=some (e,sz,by_,z)) (hz:z.size=sz) (hz1:∀v∈z.toList,v.oneC=true)
 {k:Ko} {w:World} {L:List HP} {s:Option Addr} {sn sk i j:Nat} {xs:List Value} (H:Hp k w (slO e sz s sn sk xs::L)) (h1:∀u∈xs,u.oneC=true) (hij:i<j) (hj:j≤sn):
 yQp P tS sz s sn sk i j w fun en w'=>∃a kk,en= .returned (.slice a (sn-(j-i)) kk)∧Hp k w' (slO e sz a (sn-(j-i)) kk (xs.take (i*sz)++xs.drop (j*sz))::L):=by
 obtain⟨hxl,hnk⟩:=H.len
 rcases H.slcases with⟨_,e0,_⟩|⟨b,r,rfl,g1,g2,g3,H0⟩
 ·omega
 have hle:i*sz≤xs.length:=by rw[hxl];exact yYp _ (by omega)
 have hjle:j*sz≤xs.length:=by rw[hxl];exact yYp _ hj
 have hdl:(xs.drop (j*sz)).length=(sn-j)*sz:=by rw[yXp,hxl,Nat.sub_mul]
 have hsum:i*sz+(sn-j)*sz=(sn-(j-i))*sz:=by rw[← yZj];congr 1;omega
 have hsum2:i*sz+(sn-j)*sz+(j-i)*sz=sn*sz:=by rw[← yZj,← yZj];congr 1;omega
 have hsum3:j*sz+(sn-j)*sz=sn*sz:=by rw[← yZj];congr 1;omega
 have hlen:(xs++r).length=xs.length+r.length:=yWs
 unfold yQp
 simp only[yMd,slN,yXc]
 refine⟨⟨by omega,by omega,by omega,by omega⟩,Cv.cnd.mk (fun c=>absurd c (by simp;omega)) fun _=> ?_⟩
 rintro _ rfl
 have H1:=H0.drew
 have hsrc:(Builtin.firstCells sz (sn-j) (.slice (if sk=j then some ⟨b,0,none⟩else(some ⟨b,0,none⟩:Option Addr).map (·.add (j*sz))) (sn-j) (sk-j))).run P w.drew= .ok (xs.drop (j*sz)).toArray w.drew:=by
  by_cases h0:(sn-j)*sz=0
  ·have:xs.drop (j*sz)=[]:=yXr (by omega)
   rw[this]
   by_cases hk:sk=j
   ·rw[yWm hk];unfold Builtin.firstCells;rw[h0];rfl
   ·rw[yWl hk,yYo,uU];unfold Builtin.firstCells;rw[h0];rfl
  ·have hk:sk≠j:=by rintro rfl;have:sn-sk=0:=by omega
                    rw[this]at h0;simp at h0
   rw[yWl hk,yYo,uU]
   unfold Builtin.firstCells
   rw[hU H1.get (by rw[hlen];omega)]
   rw[yXq,yZf hjle,yXs (by omega),yXg (by omega)]
 refine⟨⟨by omega,by omega⟩,⟨by omega,by omega,hnk⟩,_,_,_,_,zVy (i:=i) (c:=sk) hi H1.get hsrc hdl (by omega) (by rw[hlen];omega) (fun v hv=>h1 v (y0b hv)),⟨by omega,by omega,by omega⟩,?_⟩
 have H2:=H1.upd (.cells (spl (xs++r) (i*sz) (xs.drop (j*sz))).toArray e)
 have e1:i+(sn-j)=sn-(j-i):=by omega
 rw[yWl (show sk≠i+(sn-j)by omega),yYo,uU,yXq,e1]
 have espl:spl (xs++r) (i*sz) (xs.drop (j*sz))=(xs.take (i*sz)++xs.drop (j*sz))++(xs++r).drop ((sn-(j-i))*sz):=by
  simp only[spl]
  rw[yXs hle,hdl,hsum]
 rw[espl]at H2
 have hA:(xs.take (i*sz)++xs.drop (j*sz)).length=(sn-(j-i))*sz:=by
  rw[yWs,yXi,hdl];omega
 have hB:((xs++r).drop ((sn-(j-i))*sz)).length=(j-i)*sz+r.length:=by
  rw[yXp,hlen];omega
 rw[espl]
 have hn:sn-(sn-(j-i))=j-i:=by omega
 rw[hn]
 refine⟨_,z0g hi hz hz1 (by omega) H2.get (by rw[yWs,hA,hB];omega),_,_,rfl,?_⟩
 have H3:=H2.upd (.cells (spl (xs.take (i*sz)++xs.drop (j*sz)++(xs++r).drop ((sn-(j-i))*sz)) ((sn-(j-i))*sz) (Builtin.zeroCells z (j-i)).toList).toArray e)
 have es:=zRs (xs.take (i*sz)++xs.drop (j*sz)) ((xs++r).drop ((sn-(j-i))*sz)) (Builtin.zeroCells z (j-i)).toList
 rw[hA]at es
 rw[es]at H3
 rw[es]
 rw[yWx (xs.take (i*sz)++xs.drop (j*sz))]at H3 ⊢
 have hzl:(Builtin.zeroCells z (j-i)).toList.length=(j-i)*sz:=by rw[y1n,size_zeroCells,hz]
 refine H3.slmk hA ?_ (by omega)
 rw[yWs,hA,yWs,hzl,yXp,hB,← g2,hlen,hxl]
 omega
structure yQv where
 els:List (List D)
 i:Nat
 j:Nat
def yNy (e sz:Nat):Con where
 ι:=yQv
 pat:=fun i=>[.own 0,.d (.v (.int .i64 i.i)),.d (.v (.int .i64 i.j))]
 pre:=fun i=>[.own e sz i.els]
 cnd:=fun i=>i.i<i.j∧i.j≤i.els.length
 alts:=fun i=>[{o:=Unit,res:=fun _=> .own 1,post:=fun _=>[.gone,.own e sz (i.els.take i.i++i.els.drop i.j)],rel:=fun _=>True}]
theorem delX_ok {P:Program} (hm:P.follows .mixedOrders=true) {tS e sz by_ fI:Nat} {z:Array Value} {fn:Func} {c:Code} (hf:P.funcs[fI]? =some fn) (hb:fn.body=some c) (hbd:uM P fI=true) (hok:okC fn.ntmps c=true) (hfx:okF [] c=true) (hsz3:Nat.ble 3 fn.ntmps=true)
 (hi:uZ P tS=some (e,sz,by_,z)) (hz:z.size=sz) (hz1:∀v∈z.toList,v.oneC=true)
 (heq:∀(s:Option Addr) (sn sk:Nat) (i j:Int) (w:World) (R:Ending→World→Prop),yQp P tS sz s sn sk i j w R=cwp P [] c (zRp P fn R) (uK [.slice s sn sk,.int .i64 i,.int .i64 j]) w):
 (yNy e sz).ok P fI:=by
 intro i hc k L E w ys R hv
 obtain⟨c1,c2⟩:i.i<i.j∧i.j≤i.els.length:=hc
 simp only[yNy,VRL,VR,DR]at hv
 obtain⟨y0,_,rfl,⟨l0,e0,_⟩,y1,_,rfl,⟨rfl,_⟩,y2,_,rfl,⟨rfl,_⟩,rfl⟩:=hv
 obtain⟨s,sk,xs,sub0,g1,hxs,hu,H⟩:=R.ownOpen (n:=0) (t:=e) (sz:=sz) (els:=i.els) rfl
 rw[e0]at g1;cases g1
 have H2:Hp k w (slO e sz s i.els.length sk xs::fz E.F::L):=H
 have hv:=yWb hi hz hz1 H2 hxs.one c1 c2
 have hcall:=zHb (args:=[.slice s i.els.length sk,.int .i64 i.i,.int .i64 i.j]) hm hf hb [] hok hfx hsz3 (heq s i.els.length sk i.i i.j w _) hv
 refine pM hbd (hcall.mono ?_)
 rintro en w' ⟨a,kk,rfl,H3⟩
 have hl:(i.els.take i.i++i.els.drop i.j).length=i.els.length-(i.j-i.i):=by
  rw[yWs,yXi,yXp];omega
 have H4:Hp k w' (slO e sz a (i.els.take i.i++i.els.drop i.j).length kk (xs.take (i.i*sz)++xs.drop (i.j*sz))::(([]:List (Nat×AObj)).map (rHP E)++fz E.F::L)):=by
  rw[hl]
  exact H3
 obtain⟨E',r1,r2,r3⟩:=aF (nx:=1) R.nx (by
  rw[List.flatten_append,← mS i.i hu,← mT i.j hu]
  exact(hxs.take _).append (hxs.drop _)) (fun x hx=>by
   rcases yXo.1 hx with hx|hx
   ·exact hu x (y2a hx)
   ·exact hu x (y0b hx)) H4
 rw[hl]at r3
 refine⟨_,rfl,_,yXz.2 rfl,(),trivial,E',r1,r3,⟨r2.nx,?_⟩⟩
 exact((@uE k w' True _).2 ⟨trivial,r2.hp⟩).imp (B:=rHP E' (0,.gone)) fun x hx=> .inl ⟨rfl,hx.2⟩
open Go Cv Go.Proofs
def aX (k:Int):List (Int×Place)→List (Int×Place)
 |[]=>[]
 |(a,b)::l=>if k=a then l else(a,b)::aX k l
structure DrI where
 b:Book
 id:Int
 price:Int
 slot:Int
def Book.unhas (b:Book) (s id:Int):Book:=if b.hasF s=true∧b.topI s=id then(if s=1 then{b with has1:=false}else{b with has2:=false})else b
def Book.dropF (b:Book) (s id price:Int):Book:=
 if(b.a.qAt ((b.rungs s).getD (zV s (b.rungs s) price) ⟨0,0⟩).queue).count=0 then
  ({b.unhas s id with at_:=aX id b.at_,spare:=b.spare++[((b.rungs s).getD (zV s (b.rungs s) price) ⟨0,0⟩).queue]}:Book).setR s ((b.rungs s).take (zV s (b.rungs s) price)++(b.rungs s).drop (zV s (b.rungs s) price+1))
 else{b.unhas s id with at_:=aX id b.at_}
def yHl (b:Book):AObj:= .cells [.nm 1 0,.own 6,.own 7,.mp 4,zA b.top1,zA b.top2,.own 8,yL b.has1,yL b.has2] 244
@[reducible] def yKx (b:Book):List AObj:=[yHl b,zS b 1,.gone,.gone,zS b 4,.gone,zS b 2,zS b 3,zS b 5]
@[reducible] def DrI.ok (i:DrI) (s:Int):Prop:=i.b.small∧zV s (i.b.rungs s) i.price<(i.b.rungs s).length
def yFt (s:Int):Con:=con1 DrI (fun i=>[.nm 0 0,zA i.id,.agg [zA s,zA i.price,zA i.slot]]) (fun i=>zHc i.b) (fun i=>i.ok s) (fun _=>zWn) (fun i=>yKx (i.b.dropF s i.id i.price))
def drop1C:Con:=yFt 1
def drop2C:Con:=yFt 2
structure DrJ where
 i:DrI
 s:Bool
def dropC:Con:=con1 DrJ (fun j=>[.nm 0 0,zA j.i.id,.agg [zA (zB j.s),zA j.i.price,zA j.i.slot]]) (fun j=>zHc j.i.b) (fun j=>j.i.ok (zB j.s)) (fun _=>zWn) (fun j=>yKx (j.i.b.dropF (zB j.s) j.i.id j.i.price))
def delRC:Con:=yNy 301 2
def yKc:zD:=⟨0,0,0,0,false⟩
def fT (L:List zD) (id:Int):zD:=(L.find? fun o=>decide (o.id=id)).getD yKc
def yO (L:List zD) (id q:Int):List zD:=L.filterMap fun o=>if o.id=id then(if o.qty=q then none else some {o with qty:=o.qty-q})else some o
def xS (L:List zD) (id q:Int):List zD×Int:=if kA L id=false then(L,26)else if q<1∨(fT L id).qty<q then(L,24)else(yO L id q,0)
def atL (L:List zD) (s p:Int):List zD:=L.filter fun o=>decide (o.side=s) && decide (o.price=p)
def grp:List zD→List Lv
 |[]=>[]
 |o::l=>match grp l with
  |[]=>[⟨o.price,o.qty,1⟩]
  |v::vs=>if v.price=o.price then⟨v.price,o.qty+v.qty,v.count+1⟩::vs else⟨o.price,o.qty,1⟩::v::vs
def vA (L:List zD) (s:Int):List Lv:=grp (L.filter fun o=>decide (o.side=s))
def bestL (L:List zD) (s:Int):Lv×Bool:=match vA L s with
 |[]=>(⟨0,0,0⟩,false)
 |v::_=>(v,true)
structure FlI where
 b:Book
 L:List zD
 id:Int
 qty:Int
structure AtI where
 b:Book
 L:List zD
 s:Bool
 price:Int
def fillC:Con where
 ι:=FlI
 pat:=fun i=>[.nm 0 0,zA i.id,zA i.qty]
 pre:=fun i=>[yB i.b]
 cnd:=fun i=>i.b.Rep i.L
 alts:=fun i=>[{o:=Book,res:=fun _=>zA (xS i.L i.id i.qty).2,post:=fun b=>[yB b],rel:=fun b=>b.Rep (xS i.L i.id i.qty).1}]
def bfindC:Con:=con1 FlI (fun i=>[.nm 0 0,zA i.id]) (fun i=>[yB i.b]) (fun i=>i.b.Rep i.L) (fun i=> .tup [zQj (fT i.L i.id),yL (kA i.L i.id)]) (fun i=>[yB i.b])
def yTt (s:Bool):Con:=con1 AtI (fun i=>[.nm 0 0,zA (zB s),zA i.price]) (fun i=>[yB i.b]) (fun i=>i.b.Rep i.L) (fun _=> .own 1) (fun i=>[yB i.b,.own 56 5 ((atL i.L (zB s) i.price).map wO)])
def at1C:Con:=yTt false
def at2C:Con:=yTt true
def atC:Con:=con1 AtI (fun i=>[.nm 0 0,zA (zB i.s),zA i.price]) (fun i=>[yB i.b]) (fun i=>i.b.Rep i.L) (fun _=> .own 1) (fun i=>[yB i.b,.own 56 5 ((atL i.L (zB i.s) i.price).map wO)])
open Go Cv Go.Proofs
def xD (a:DrI):=(a.b.dropF 1 a.id a.price)
def zDn (a:BkP) (b:DrI):Prop:=a.b.has2=b.b.has2∧AObj.adt Arena 3 zH a.b.a=zS b.b 1∧List.map zC a.b.buys=List.map zC b.b.buys∧List.map zC a.b.sells=List.map zC b.b.sells∧atE a.b.at_=eV (Value.int IntKind.i64 b.id) (atE b.b.at_)∧iE a.b.spare=iE b.b.spare∧(x9 a)∧∀(c:Unit),True→(gM a)∧∃(d:Int),zF (List.map zC a.b.buys) (xW a).toNat ((0:Nat)+(1:Nat)) 1=some [dI d]∧∃(e:ArN),e.n=d∧AObj.adt Arena 3 zH e.a=AObj.adt Arena 3 zH a.b.a∧True∧∀(f:Unit),True→cnd ((e.a.qAt e.n).count==0) (((iE a.b.spare).length+1)*(8:Nat)≤(70368744177664:Nat)∧∃(g:yQv),(↑g.i:Int)=(xW a)∧(↑g.j:Int)=IntKind.i64.wrap ((xW a)+1)∧g.els=List.map zC a.b.buys∧(g.i<g.j∧g.j≤g.els.length)∧∀(h:Unit),True→(1:Int)=(1:Int)∧∃(j:Unit),(xD b).top1=a.b.top1∧(xD b).top2=a.b.top2∧(xD b).has1=a.b.has1∧(xD b).has2=a.b.has2∧AObj.adt Arena 3 zH (xD b).a=AObj.adt Arena 3 zH e.a∧atE (xD b).at_=atE a.b.at_∧List.map zC (xD b).buys=List.take g.i g.els++List.drop g.j g.els∧List.map zC (xD b).sells=List.map zC a.b.sells∧iE (xD b).spare=iE a.b.spare++[[dI d]]∧True) (∃(g:Unit),(xD b).top1=a.b.top1∧(xD b).top2=a.b.top2∧(xD b).has1=a.b.has1∧(xD b).has2=a.b.has2∧AObj.adt Arena 3 zH (xD b).a=AObj.adt Arena 3 zH e.a∧atE (xD b).at_=atE a.b.at_∧List.map zC (xD b).buys=List.map zC a.b.buys∧List.map zC (xD b).sells=List.map zC a.b.sells∧iE (xD b).spare=iE a.b.spare∧True)
def zDm (a:DrI):Prop:=∃(b:BkP),(1:Int)=(1:Int)∧b.price=a.price∧b.b.top1=a.b.top1∧b.b.top2=a.b.top2∧b.b.has1=a.b.has1∧zDn b a
def yEm (i:DrI):Prop:=
 (∀(a:Value×List D),a∈atE i.b.at_→like (Value.int IntKind.i64 i.id) a.fst=true)∧cnd i.b.has1 (cnd (i.b.top1==i.id) (∃(a:BkP),(1:Int)=(1:Int)∧a.price=i.price∧a.b.top1=i.b.top1∧a.b.top2=i.b.top2∧a.b.has1=false∧zDn a i) (zDm i)) (zDm i)
def xB (a:DrI):=(a.b.dropF 2 a.id a.price)
def zEj (a:BkP) (b:DrI):Prop:=AObj.adt Arena 3 zH a.b.a=zS b.b 1∧List.map zC a.b.buys=List.map zC b.b.buys∧List.map zC a.b.sells=List.map zC b.b.sells∧atE a.b.at_=eV (Value.int IntKind.i64 b.id) (atE b.b.at_)∧iE a.b.spare=iE b.b.spare∧(x9 a)∧∀(c:Unit),True→(gN a)∧∃(d:Int),zF (List.map zC a.b.sells) (xZ a).toNat ((0:Nat)+(1:Nat)) 1=some [dI d]∧∃(e:ArN),e.n=d∧AObj.adt Arena 3 zH e.a=AObj.adt Arena 3 zH a.b.a∧True∧∀(f:Unit),True→cnd ((e.a.qAt e.n).count==0) (((iE a.b.spare).length+1)*(8:Nat)≤(70368744177664:Nat)∧∃(g:yQv),(↑g.i:Int)=(xZ a)∧(↑g.j:Int)=IntKind.i64.wrap ((xZ a)+1)∧g.els=List.map zC a.b.sells∧(g.i<g.j∧g.j≤g.els.length)∧∀(h:Unit),True→(2:Int)=(2:Int)∧∃(j:Unit),(xB b).top1=a.b.top1∧(xB b).top2=a.b.top2∧(xB b).has1=a.b.has1∧(xB b).has2=a.b.has2∧AObj.adt Arena 3 zH (xB b).a=AObj.adt Arena 3 zH e.a∧atE (xB b).at_=atE a.b.at_∧List.map zC (xB b).buys=List.map zC a.b.buys∧List.map zC (xB b).sells=List.take g.i g.els++List.drop g.j g.els∧iE (xB b).spare=iE a.b.spare++[[dI d]]∧True) (∃(g:Unit),(xB b).top1=a.b.top1∧(xB b).top2=a.b.top2∧(xB b).has1=a.b.has1∧(xB b).has2=a.b.has2∧AObj.adt Arena 3 zH (xB b).a=AObj.adt Arena 3 zH e.a∧atE (xB b).at_=atE a.b.at_∧List.map zC (xB b).buys=List.map zC a.b.buys∧List.map zC (xB b).sells=List.map zC a.b.sells∧iE (xB b).spare=iE a.b.spare∧True)
def zEs (a:DrI):Prop:=∃(b:BkP),(2:Int)=(2:Int)∧b.price=a.price∧b.b.top1=a.b.top1∧b.b.top2=a.b.top2∧b.b.has1=a.b.has1∧b.b.has2=a.b.has2∧zEj b a
def yCf (i:DrI):Prop:=
 (∀(a:Value×List D),a∈atE i.b.at_→like (Value.int IntKind.i64 i.id) a.fst=true)∧cnd i.b.has2 (cnd (i.b.top2==i.id) (∃(a:BkP),(2:Int)=(2:Int)∧a.price=i.price∧a.b.top1=i.b.top1∧a.b.top2=i.b.top2∧a.b.has1=i.b.has1∧a.b.has2=false∧zEj a i) (zEs i)) (zEs i)
def lI (a:FlI):Prop:=List.map zC a.b.buys=List.map zC a.b.buys∧List.map zC a.b.sells=List.map zC a.b.sells∧atE a.b.at_=atE a.b.at_∧iE a.b.spare=iE a.b.spare∧True
def zDv (a:Int) (b:FlI) (c:Int) (d:Int):Prop:=∃(e:ArN),e.n=a∧AObj.adt Arena 3 zH e.a=AObj.adt Arena 3 zH b.b.a∧e.a.slots.length≤1000000∧∀(f:Unit),True→∃(g:Unit),(fT b.L b.id).id=b.id∧(fT b.L b.id).side=c∧(fT b.L b.id).price=d∧(fT b.L b.id).qty=(e.a.getF e.n).fst.qty∧(fT b.L b.id).top=(e.a.getF e.n).fst.top∧kA b.L b.id=true∧b.b.top1=b.b.top1∧b.b.top2=b.b.top2∧b.b.has1=b.b.has1∧b.b.has2=b.b.has2∧AObj.adt Arena 3 zH b.b.a=AObj.adt Arena 3 zH e.a∧lI b
def pS (a:FlI) (b:Int) (c:Int) (d:Int) (e:Bool):Prop:=qY (Value.int IntKind.i64 a.id) (atE a.b.at_)=some [dI b,dI c,dI d]∧e=true∨qY (Value.int IntKind.i64 a.id) (atE a.b.at_)=none∧[dI b,dI c,dI d]=[dI 0,dI 0,dI 0]∧e=false
def z9g (i:FlI):Prop:=
 (∀(a:Value×List D),a∈atE i.b.at_→like (Value.int IntKind.i64 i.id) a.fst=true)∧∃(a:Bool),∃(b:Int),∃(c:Int),∃(d:Int),(pS i b c d a)∧cnd (!a) (∃(e:Unit),(fT i.L i.id).id=0∧(fT i.L i.id).side=0∧(fT i.L i.id).price=0∧(fT i.L i.id).qty=0∧(fT i.L i.id).top=false∧kA i.L i.id=false∧i.b.top1=i.b.top1∧i.b.top2=i.b.top2∧i.b.has1=i.b.has1∧i.b.has2=i.b.has2∧AObj.adt Arena 3 zH i.b.a=AObj.adt Arena 3 zH i.b.a∧lI i) ((zDv d i b c)∧d=d∧True∧zDv d i b c)
def tW (a:Book) (b:FlI):Prop:=List.map zC a.buys=List.map zC b.b.buys∧List.map zC a.sells=List.map zC b.b.sells∧atE a.at_=atE b.b.at_∧iE a.spare=iE b.b.spare∧a.Rep (xS b.L b.id b.qty).fst
def wQ (a:DrJ):=(a.i.b.dropF (zB a.s) a.i.id a.i.price)
def zKp (a:FlI) (b:Int) (c:Int) (d:Int) (e:ArN):Prop:=∃(f:DrJ),f.i.id=a.id∧zB f.s=b∧f.i.price=c∧f.i.slot=d∧f.i.b.top1=a.b.top1∧f.i.b.top2=a.b.top2∧f.i.b.has1=a.b.has1∧f.i.b.has2=a.b.has2∧AObj.adt Arena 3 zH f.i.b.a=AObj.adt Arena 3 zH e.a∧List.map zC f.i.b.buys=List.map zC a.b.buys∧List.map zC f.i.b.sells=List.map zC a.b.sells∧atE f.i.b.at_=atE a.b.at_∧iE f.i.b.spare=iE a.b.spare∧(((f.i.b.a.slots.length≤1000000∧f.i.b.a.queues.length≤1000000)∧f.i.b.buys.length≤1000000∧f.i.b.sells.length≤1000000∧f.i.b.spare.length≤1000000)∧zV (zB f.s) (f.i.b.rungs (zB f.s)) f.i.price<(f.i.b.rungs (zB f.s)).length)∧∀(g:Unit),True→∃(h:Book),(xS a.L a.id a.qty).snd=0∧h.top1=(wQ f).top1∧h.top2=(wQ f).top2∧h.has1=(wQ f).has1∧h.has2=(wQ f).has2∧AObj.adt Arena 3 zH h.a=AObj.adt Arena 3 zH (wQ f).a∧List.map zC h.buys=List.map zC (wQ f).buys∧List.map zC h.sells=List.map zC (wQ f).sells∧atE h.at_=atE (wQ f).at_∧iE h.spare=iE (wQ f).spare∧h.Rep (xS a.L a.id a.qty).fst
def zRd (a:Int) (b:TkI) (c:FlI) (d:Int) (e:Int):Prop:=∃(f:ArN),f.n=a∧AObj.adt Arena 3 zH f.a=AObj.adt Arena 3 zH (b.a.takeF b.n b.qty).fst∧f.a.slots.length≤1000000∧∀(g:Unit),True→cnd (!(f.a.getF f.n).snd) (zKp c d e a f) (cnd ((f.a.getF f.n).fst.id !=c.id) (zKp c d e a f) (∃(h:Book),(xS c.L c.id c.qty).snd=0∧h.top1=c.b.top1∧h.top2=c.b.top2∧h.has1=c.b.has1∧h.has2=c.b.has2∧AObj.adt Arena 3 zH h.a=AObj.adt Arena 3 zH f.a∧tW h c))
def yLg (i:FlI):Prop:=
 (∀(a:Value×List D),a∈atE i.b.at_→like (Value.int IntKind.i64 i.id) a.fst=true)∧∃(a:Bool),∃(b:Int),∃(c:Int),∃(d:Int),(pS i b c d a)∧cnd (!a) (∃(e:Book),(xS i.L i.id i.qty).snd=26∧e.top1=i.b.top1∧e.top2=i.b.top2∧e.has1=i.b.has1∧e.has2=i.b.has2∧AObj.adt Arena 3 zH e.a=AObj.adt Arena 3 zH i.b.a∧tW e i) (∃(e:TkI),e.n=d∧e.qty=i.qty∧AObj.adt Arena 3 zH e.a=AObj.adt Arena 3 zH i.b.a∧(e.a.slots.length≤1000000∧∀(k:Nat) (s:Slot),e.a.slots[k]?=some s→s.used=true→(0≤s.queue∧s.queue<(↑e.a.queues.length:Int))∧s.qty≤1000000∧(s.ahead=(-1)∨0≤s.ahead∧s.ahead<(↑e.a.slots.length:Int)∧s.ahead≠(↑k:Int))∧(s.back=(-1)∨0≤s.back∧s.back<(↑e.a.slots.length:Int)∧s.back≠(↑k:Int)))∧∀(f:Unit),True→cnd ((e.a.takeF e.n e.qty).snd !=0) (∃(g:Book),(xS i.L i.id i.qty).snd=(e.a.takeF e.n e.qty).snd∧g.top1=i.b.top1∧g.top2=i.b.top2∧g.has1=i.b.has1∧g.has2=i.b.has2∧AObj.adt Arena 3 zH g.a=AObj.adt Arena 3 zH (e.a.takeF e.n e.qty).fst∧tW g i) ((zRd d e i b c)∧d=d∧True∧zRd d e i b c))
def yTj (i:AtI):Prop:=
 ∃(a:Int),a=zB false∧True∧∀(b:Unit),True→cnd (!(vW a)) (∃(c:Unit),i.b.top1=i.b.top1∧i.b.top2=i.b.top2∧i.b.has1=i.b.has1∧i.b.has2=i.b.has2∧AObj.adt Arena 3 zH i.b.a=AObj.adt Arena 3 zH i.b.a∧List.map zC i.b.buys=List.map zC i.b.buys∧List.map zC i.b.sells=List.map zC i.b.sells∧atE i.b.at_=atE i.b.at_∧iE i.b.spare=iE i.b.spare∧List.map wO (atL i.L (zB false) i.price)=[]∧True) (∃(c:BkP),1=zB false∧c.price=i.price∧c.b.top1=i.b.top1∧c.b.top2=i.b.top2∧c.b.has1=i.b.has1∧c.b.has2=i.b.has2∧AObj.adt Arena 3 zH c.b.a=AObj.adt Arena 3 zH i.b.a∧List.map zC c.b.buys=List.map zC i.b.buys∧List.map zC c.b.sells=List.map zC i.b.sells∧atE c.b.at_=atE i.b.at_∧iE c.b.spare=iE i.b.spare∧(x9 c)∧∀(d:Unit),True→cnd (!kJ 1 (c.b.rungs 1) c.price) (∃(e:Unit),i.b.top1=c.b.top1∧i.b.top2=c.b.top2∧i.b.has1=c.b.has1∧i.b.has2=c.b.has2∧AObj.adt Arena 3 zH i.b.a=AObj.adt Arena 3 zH c.b.a∧List.map zC i.b.buys=List.map zC c.b.buys∧List.map zC i.b.sells=List.map zC c.b.sells∧atE i.b.at_=atE c.b.at_∧iE i.b.spare=iE c.b.spare∧List.map wO (atL i.L (zB false) i.price)=[]∧True) ((gM c)∧∃(e:Int),∃(f:Int),zF (List.map zC c.b.buys) (xW c).toNat 0 2=some [dI e,dI f]∧∃(g:BoI),g.s=zB false∧g.r.price=e∧g.r.queue=f∧g.b.top1=c.b.top1∧g.b.top2=c.b.top2∧g.b.has1=c.b.has1∧g.b.has2=c.b.has2∧AObj.adt Arena 3 zH g.b.a=AObj.adt Arena 3 zH c.b.a∧List.map zC g.b.buys=List.map zC c.b.buys∧List.map zC g.b.sells=List.map zC c.b.sells∧atE g.b.at_=atE c.b.at_∧iE g.b.spare=iE c.b.spare∧g.b.a.listOk g.r.queue g.l∧∀(h:Unit),True→∃(j:Unit),yB i.b=yB g.b∧List.map wO (atL i.L (zB false) i.price)=List.map wO g.ords∧True))
def yTa (i:AtI):Prop:=
 ∃(a:Int),a=zB true∧True∧∀(b:Unit),True→cnd (!(vW a)) (∃(c:Unit),i.b.top1=i.b.top1∧i.b.top2=i.b.top2∧i.b.has1=i.b.has1∧i.b.has2=i.b.has2∧AObj.adt Arena 3 zH i.b.a=AObj.adt Arena 3 zH i.b.a∧List.map zC i.b.buys=List.map zC i.b.buys∧List.map zC i.b.sells=List.map zC i.b.sells∧atE i.b.at_=atE i.b.at_∧iE i.b.spare=iE i.b.spare∧List.map wO (atL i.L (zB true) i.price)=[]∧True) (∃(c:BkP),2=zB true∧c.price=i.price∧c.b.top1=i.b.top1∧c.b.top2=i.b.top2∧c.b.has1=i.b.has1∧c.b.has2=i.b.has2∧AObj.adt Arena 3 zH c.b.a=AObj.adt Arena 3 zH i.b.a∧List.map zC c.b.buys=List.map zC i.b.buys∧List.map zC c.b.sells=List.map zC i.b.sells∧atE c.b.at_=atE i.b.at_∧iE c.b.spare=iE i.b.spare∧(x9 c)∧∀(d:Unit),True→cnd (!kJ 2 (c.b.rungs 2) c.price) (∃(e:Unit),i.b.top1=c.b.top1∧i.b.top2=c.b.top2∧i.b.has1=c.b.has1∧i.b.has2=c.b.has2∧AObj.adt Arena 3 zH i.b.a=AObj.adt Arena 3 zH c.b.a∧List.map zC i.b.buys=List.map zC c.b.buys∧List.map zC i.b.sells=List.map zC c.b.sells∧atE i.b.at_=atE c.b.at_∧iE i.b.spare=iE c.b.spare∧List.map wO (atL i.L (zB true) i.price)=[]∧True) ((gN c)∧∃(e:Int),∃(f:Int),zF (List.map zC c.b.sells) (xZ c).toNat 0 2=some [dI e,dI f]∧∃(g:BoI),g.s=zB true∧g.r.price=e∧g.r.queue=f∧g.b.top1=c.b.top1∧g.b.top2=c.b.top2∧g.b.has1=c.b.has1∧g.b.has2=c.b.has2∧AObj.adt Arena 3 zH g.b.a=AObj.adt Arena 3 zH c.b.a∧List.map zC g.b.buys=List.map zC c.b.buys∧List.map zC g.b.sells=List.map zC c.b.sells∧atE g.b.at_=atE c.b.at_∧iE g.b.spare=iE c.b.spare∧g.b.a.listOk g.r.queue g.l∧∀(h:Unit),True→∃(j:Unit),yB i.b=yB g.b∧List.map wO (atL i.L (zB true) i.price)=List.map wO g.ords∧True))
open Go Cv Go.Proofs
theorem uA {L:List zD} (h:(L.map (·.id)).Nodup) {o:zD} (ho:o∈L):fT L o.id=o:=by
 induction L with
 |nil=>cases ho
 |cons x L ih=>
  rw[yWu,yYl]at h
  rw[fT,y2k]
  rcases yXd.1 ho with rfl|ho
  ·rw[yXf rfl];rfl
  ·have:x.id≠o.id:=fun e=>h.1 (e▸yXh (f:=(·.id)) ho)
   rw[yWy this]
   exact ih h.2 ho
theorem vI {α β:Type} {f g:α→Option β}:∀{l:List α},(∀x∈l,f x=g x)→l.filterMap f=l.filterMap g
 |[],_=>rfl
 |x::l,h=>by rw[y0e,y0e,h x yWq,vI fun y hy=>h y (yWr _ hy)]
theorem yQo {L:List zD} {id:Int} (h:kA L id=false):fT L id=yKc:=by
 rw[fT]
 have:L.find? (fun o=>decide (o.id=id))=none:=by
  rw[List.find?_eq_none]
  intro o ho
  rw[kA,y2n]at h
  exact h o ho
 rw[this];rfl
structure Told (b:Book) (Q:List (List Nat)) (id:Int) (s:Int) (r:xM) (k:Nat):Prop where
 hs:s=1∨s=2
 hr:r∈b.rungs s
 hk:k∈xE Q r
 e:pget b.at_ id=some ⟨s,r.price,k⟩
 ident:(b.a.slotAt k).id=id
 get:fT (b.flat Q) id=wN b.a s r.price k
 has:kA (b.flat Q) id=true
theorem yHb {b:Book} {Q:List (List Nat)} {s:Int} (hs:s=1∨s=2) {r:xM} (hr:r∈b.rungs s) {k:Nat} (hk:k∈xE Q r):wN b.a s r.price k∈b.flat Q:=
 flat_mem hs (yYt.2 ⟨r,hr,yXh hk⟩)
theorem Book.Core.told {b:Book} {Q:List (List Nat)} (c:b.Core Q (-1)) (id:Int):(pget b.at_ id=none∧kA (b.flat Q) id=false)∨∃s r k,Told b Q id s r k:=by
 cases hg:pget b.at_ id with
 |none=>
  have:=zFo hg
  rw[c.keysP.mem_iff,← hasId_iff]at this
  exact .inl ⟨rfl,by simpa using this⟩
 |some x=>
  obtain⟨k,r,hs,hr,hk,hx,hid⟩:=c.plcI (sZ hg)
  have hm:=yHb hs hr hk
  have hget:=uA c.ids hm
  have e:(wN b.a x.side r.price k).id=id:=hid
  rw[e]at hget
  exact .inr ⟨x.side,r,k,hs,hr,hk,by rw[hg];exact congrArg some hx,hid,hget,hasId_iff.2 (by rw[← e];exact yXh hm)⟩
theorem Told.only {b:Book} {Q:List (List Nat)} (c:b.Core Q (-1)) {id s:Int} {r:xM} {k:Nat} (h:Told b Q id s r k) {s':Int} (hs':s'=1∨s'=2) {r':xM} (hr':r'∈b.rungs s') {j:Nat} (hj:j∈xE Q r'):(b.a.slotAt j).id=id↔j=k:=by
 constructor
 ·intro e
  have h1:=c.plc hs' hr' hj
  have h2:=c.plc h.hs h.hr h.hk
  rw[e]at h1
  rw[h.ident]at h2
  have:=congrArg Place.slot (zBq c.keys h1 h2)
  dsimp only at this
  omega
 ·rintro rfl;exact h.ident
theorem Book.Core.less {b:Book} {Q:List (List Nat)} (c:b.Core Q (-1)) (ht:b.Tops (b.flat Q)) {id s:Int} {r:xM} {k:Nat} (h:Told b Q id s r k) {q:Int} (hq:1≤q∧q<(b.a.slotAt k).qty):
 (b.a.takeF k q).2=0∧({b with a:=(b.a.takeF k q).1}:Book).Rep (yO (b.flat Q) id q)∧(b.a.takeF k q).1.slots.length=250∧(b.a.takeF k q).1.getF k=((((b.a.takeF k q).1.slotAt k)).ent,true)∧((b.a.takeF k q).1.slotAt k).id=id:=by
 obtain⟨t1,t2,t3⟩:=c.wf.take (c.get h.hs h.hr) h.hk (q:=q) ⟨hq.1,by omega⟩
 rw[yWl (by omega)]at t3
 obtain⟨w,t4,t5⟩:=t3
 have hent:∀j,((b.a.takeF k q).1.slotAt j).ent=if j=k then{(b.a.slotAt k).ent with qty:=(b.a.slotAt k).qty-q}else(b.a.slotAt j).ent:=by
  intro j
  split
  ·rename_i e;rw[e,t4];rfl
  ·rename_i e;exact(t2 j e).1
 have hid:∀j,((b.a.takeF k q).1.slotAt j).id=(b.a.slotAt j).id:=by
  intro j
  have:=congrArg Ent.id (hent j)
  split at this
  ·rename_i e;rw[e]at this ⊢;exact this
  ·exact this
 have hflat:({b with a:=(b.a.takeF k q).1}:Book).flat Q=yO (b.flat Q) id q:=by
  have side:∀s',s'=1∨s'=2→({b with a:=(b.a.takeF k q).1}:Book).sideL Q s'=yO (b.sideL Q s') id q:=by
   intro s' hs'
   rw[yO,Book.sideL,Book.sideL,List.filterMap_flatMap]
   refine xF fun r' hr'=> ?_
   rw[Book.rOrds,Book.rOrds,List.filterMap_map]
   have:(xE Q r').filterMap (fun j=>some (wN (b.a.takeF k q).1 s' r'.price j))=(xE Q r').map (wN (b.a.takeF k q).1 s' r'.price):=by rw[← List.filterMap_eq_map];rfl
   refine this.symm.trans (vI fun j hj=> ?_)
   simp only[Function.comp,wN,yFa,hent]
   have hon:=h.only c hs' hr' hj
   by_cases e:j=k
   ·subst e
    rw[yWm rfl]
    refine((yWm (show(b.a.slotAt j).ent.id=id from h.ident)).trans (yWl fun e=> ?_)).symm
    have e:(b.a.slotAt j).qty=q:=e
    omega
   ·rw[yWl e];exact(yWl (fun e2=>e (hon.1 e2))).symm
  rw[Book.flat,side 1 (.inl rfl),side 2 (.inr rfl),Book.flat,yO,yO,yO,List.filterMap_append]
 have hu:(b.a.takeF k q).1.usedAt k=true:=by
  obtain⟨hk2,⟨_,_,h2⟩,h3⟩:=w.toWf0.mem (c.get h.hs h.hr) h.hk
  have hlt:=w.len
  simp only[Arena.usedAt,yWz,yXy,yXc]
  exact⟨by omega,by omega,h2.used⟩
 refine⟨t1,⟨Q,c.flag w hid,⟨fun o ho=> ?_,fun s' hs' hh=> ?_⟩,hflat.symm⟩,w.len,by rw[Arena.getF,yWm hu,yXc],by rw[hid,h.ident]⟩
 ·obtain⟨o',ho',e⟩:=yZz.1 ho
  have:=ht.fl o' ho'
  split at e
  ·split at e
   ·cases e
   ·cases e;exact this
  ·cases e;exact this
 ·obtain⟨o,ho,o1,o2⟩:=ht.th s' hs' hh
  by_cases e:o.id=id
  ·refine⟨{o with qty:=o.qty-q},yZz.2 ⟨o,ho,?_⟩,o1,o2⟩
   have hg:=uA c.ids ho
   rw[e,h.get]at hg
   rw[yWm e,yWl (fun e2=>by
    rw[← hg]at e2
    have:(b.a.slotAt k).qty=q:=e2
    omega)]
  ·exact⟨o,yZz.2 ⟨o,ho,yWl e⟩,o1,o2⟩
theorem z4j:∀{l:List (Int×Place)} {k:Int},(l.map (·.1)).Nodup→aX k l=l.filter fun x=> !decide (x.1=k)
 |[],k,_=>rfl
 |(a,b)::l,k,h=>by
  rw[yWu,yYl]at h
  rw[aX]
  by_cases e:k=a
  ·subst e
   rw[yWm rfl,yZt (by simp)]
   symm
   rw[y0p]
   intro x hx
   have:x.1≠k:=fun e=>h.1 (e▸yXh (f:=(·.1)) hx)
   simp[this]
  ·rw[yWl e,yZs (by simp[Ne.symm e]),z4j h.2]
theorem zCh {l:List Nat} (h:l.Nodup) (k:Nat):l.erase k=l.filter fun j=> !decide (j=k):=by
 rw[h.erase_eq_filter]
 refine List.filter_congr fun j _=> ?_
 simp[bne,BEq.beq]
theorem z8x {s:Int} {l:List xM} (hs:l.Pairwise fun r r'=>btr s r.price r'.price=true) {R1 R2:List xM} {r:xM} (hl:l=R1++r::R2):zV s l r.price=R1.length:=by
 subst hl
 rw[List.pairwise_append]at hs
 refine mO (by simp) (fun k hk x hx=> ?_) (fun x hx=> ?_)
 ·rw[yZo hk]at hx
  exact hs.2.2 x (yWv hx) r yWq
 ·rw[yYv (yXn _),y2c]at hx
  cases hx
  exact nG _ _
theorem yAr (b:Book) (id:Int) {s:Int} (hs:s=1∨s=2):(b.unhas s id).a=b.a∧(b.unhas s id).buys=b.buys∧(b.unhas s id).sells=b.sells∧(b.unhas s id).spare=b.spare∧∀s',s'=1∨s'=2→(b.unhas s id).topI s'=b.topI s'∧(b.unhas s id).hasF s'=if s'=s∧b.topI s=id then false else b.hasF s':=by
 rw[Book.unhas]
 by_cases hc:b.hasF s=true∧b.topI s=id
 ·rw[yWm hc]
  rcases hs with rfl|rfl
  ·exact⟨rfl,rfl,rfl,rfl,fun s' h=>by rcases h with rfl|rfl;exact⟨rfl,(yWm ⟨rfl,hc.2⟩).symm⟩;exact⟨rfl,(yWl (fun e=>absurd e.1 (by decide))).symm⟩⟩
  ·exact⟨rfl,rfl,rfl,rfl,fun s' h=>by rcases h with rfl|rfl;exact⟨rfl,(yWl (fun e=>absurd e.1 (by decide))).symm⟩;exact⟨rfl,(yWm ⟨rfl,hc.2⟩).symm⟩⟩
 ·rw[yWl hc]
  refine⟨rfl,rfl,rfl,rfl,fun s' h=>⟨rfl,?_⟩⟩
  split
  ·rename_i e
   rw[e.1]
   cases hh:b.hasF s with
   |false=>rfl
   |true=>exact absurd ⟨hh,e.2⟩ hc
  ·rfl
theorem Book.Core.close {b:Book} {Q:List (List Nat)} {s:Int} (hs:s=1∨s=2) {r:xM} {R1 R2:List xM} (hr:b.rungs s=R1++r::R2) (c:b.Core Q r.queue) (he:xE Q r=[]) {b':Book} (hb:b'=({b with spare:=b.spare++[r.queue]}:Book).setR s (R1++R2)):
 b'.Core Q (-1)∧b'.flat Q=b.flat Q:=by
 obtain⟨g1,g2⟩:=zMd ({b with spare:=b.spare++[r.queue]}:Book) hs (R1++R2)
 rw[← hb]at g1 g2
 have ha:b'.a=b.a:=by rw[hb];rcases hs with rfl|rfl<;>rfl
 have hat:b'.at_=b.at_:=by rw[hb];rcases hs with rfl|rfl<;>rfl
 have hsp:b'.spare=b.spare++[r.queue]:=by rw[hb];rcases hs with rfl|rfl<;>rfl
 have hqs:b'.qs.Perm b.qs:=by
  rw[hb]
  rcases hs with rfl|rfl
  ·have hr:b.buys=R1++r::R2:=hr
   show((R1++R2).map (·.queue)++b.sells.map (·.queue)++(b.spare++[r.queue])).Perm (b.buys.map (·.queue)++b.sells.map (·.queue)++b.spare)
   rw[hr,← yWx]
   refine(y0v _ _).trans ?_
   simp only[yWw,yWu,yWx,yXx]
   exact yXb.symm
  ·have hr:b.sells=R1++r::R2:=hr
   show(b.buys.map (·.queue)++(R1++R2).map (·.queue)++(b.spare++[r.queue])).Perm (b.buys.map (·.queue)++b.sells.map (·.queue)++b.spare)
   rw[hr,← yWx]
   refine(y0v _ _).trans ?_
   simp only[yWw,yWu,yWx,yXx]
   refine .trans ?_ (List.Perm.append_left _ yXb.symm)
   exact yXb.symm
 have hside:∀s',s'=1∨s'=2→b'.sideL Q s'=b.sideL Q s':=by
  intro s' hs'
  have ho:∀x,b'.rOrds Q s' x=b.rOrds Q s' x:=fun x=>by rw[Book.rOrds,Book.rOrds,ha]
  rw[Book.sideL,Book.sideL]
  by_cases e:s'=s
  ·subst e
   rw[g1,hr,yYh,yYh,yYc,xF (fun x _=>ho x),xF (l:=R2) (fun x _=>ho x)]
   rw[show b.rOrds Q s' r=[]by rw[Book.rOrds,he];rfl,yYu]
  ·rw[g2 s' e hs'];exact xF fun x _=>ho x
 have hplc:∀s',s'=1∨s'=2→b'.plcs Q s'=b.plcs Q s':=by
  intro s' hs'
  rw[Book.plcs,Book.plcs,ha]
  by_cases e:s'=s
  ·subst e
   rw[g1,hr,yYh,yYh,yYc,he,y0g,yYu]
  ·rw[g2 s' e hs'];rfl
 have hflat:b'.flat Q=b.flat Q:=by rw[Book.flat,Book.flat,hside 1 (.inl rfl),hside 2 (.inr rfl)]
 have hnd:=hqs.nodup_iff.2 c.nd
 have hmid:r.queue∉(R1++R2).map (·.queue):=by
  intro hm
  have h1:r.queue∈(b'.rungs s).map (·.queue):=by rw[g1];exact hm
  rw[Book.qs]at hnd
  have h2:=(yYq.1 hnd).2.2 r.queue (by
   rcases hs with rfl|rfl
   ·exact yYa _ h1
   ·exact yYd _ h1) r.queue (by rw[hsp];simp)
  exact h2 rfl
 refine⟨⟨by rw[ha];exact c.wf,fun s' hs'=> ?_,fun q hq=>c.rng q (hqs.mem_iff.1 hq),hnd,by rw[hqs.length_eq];exact c.ql,fun s' hs' x hx _=> ?_,fun q hq=> ?_,by rw[hat,hplc 1 (.inl rfl),hplc 2 (.inr rfl)];exact c.at_,by rw[hflat];exact c.ids,c.qb⟩,hflat⟩
 ·by_cases e:s'=s
  ·subst e
   have:=c.srt s' hs'
   rw[hr]at this
   rw[g1]
   exact this.sublist (List.Sublist.append_left (List.sublist_cons_self _ _) _)
  ·rw[g2 s' e hs'];exact c.srt s' hs'
 ·by_cases e:s'=s
  ·subst e
   rw[g1]at hx
   refine c.ne s' hs' x (by rw[hr];rcases yXo.1 hx with h|h;exact yYa _ h;exact yYd _ (yWr _ h)) fun e2=>hmid (e2▸yXh (f:=(·.queue)) hx)
  ·rw[g2 s' e hs']at hx
   refine c.ne s' hs' x hx fun e2=> ?_
   have h1:r.queue∈(b'.rungs s').map (·.queue):=by rw[g2 s' e hs',← e2];exact yXh (f:=(·.queue)) hx
   rw[Book.qs]at hnd
   exact(yYq.1 hnd).2.2 r.queue (by
    rcases hs' with rfl|rfl
    ·exact yYa _ h1
    ·exact yYd _ h1) r.queue (by rw[hsp];simp) rfl
 ·rw[hsp]at hq
  rcases yXo.1 hq with hq|hq
  ·exact c.sp q hq
  ·rw[yXz.1 hq];exact he
open Go Cv Go.Proofs
theorem zEu {L:List zD} (h:(L.map (·.id)).Nodup) {id:Int} (hh:kA L id=true):yO L id (fT L id).qty=L.filter fun o=> !decide (o.id=id):=by
 rw[yO,← List.filterMap_eq_filter]
 refine vI fun o ho=> ?_
 by_cases e:o.id=id
 ·have hg:=uA h ho
  rw[e]at hg
  rw[yWm e,yWm (by rw[hg])]
  simp[Option.guard,e]
 ·rw[yWl e]
  simp[Option.guard,e]
theorem Book.Core.gone {b:Book} {Q:List (List Nat)} (c:b.Core Q (-1)) (ht:b.Tops (b.flat Q)) {id s:Int} {r:xM} {k:Nat} (h:Told b Q id s r k) {q:Int} (hq:1≤q∧q=(b.a.slotAt k).qty):
 (b.a.takeF k q).2=0∧(({b with a:=(b.a.takeF k q).1}:Book).dropF s id r.price).Rep (yO (b.flat Q) id q)∧(b.a.takeF k q).1.slots.length=250∧(b.a.takeF k q).1.queues.length=b.a.queues.length∧((b.a.takeF k q).1.getF k).2=false∧zV s (b.rungs s) r.price<(b.rungs s).length:=by
 obtain⟨t1,t2,t3⟩:=c.wf.take (c.get h.hs h.hr) h.hk (q:=q) ⟨hq.1,by omega⟩
 rw[yWm hq.2.symm]at t3
 obtain⟨w,t4,t5⟩:=t3
 generalize hA:(b.a.takeF k q).1=a1 at*
 have hget:=c.get h.hs h.hr
 have hnQ:=(yWn.1 hget).1
 have hrq:=c.rng _ (uW h.hs h.hr)
 generalize hQ':Q.set r.queue.toNat ((xE Q r).erase k)=Q' at*
 have hQl:Q'.length=Q.length:=by rw[← hQ',yXv]
 have hnd:(xE Q r).Nodup:=c.wf.nd _ _ hget
 have hqd:∀s' (r':xM),(s'=1∨s'=2)→r'∈b.rungs s'→xE Q' r'=(xE Q r').erase k:=by
  intro s' r' hs' hr'
  by_cases e:r'.queue=r.queue
  ·have e1:xE Q r'=xE Q r:=by rw[xE,xE,e]
   rw[e1,xE,e,← hQ']
   exact zK (uY hnQ)
  ·have h2:xE Q' r'=xE Q r':=by
    have:=c.rng _ (uW hs' hr')
    rw[xE,xE,yWt,yWt,← hQ',vS (by omega)]
   rw[h2]
   symm
   refine List.erase_of_not_mem fun hk=> ?_
   have:=c.wf.toWf0.one (c.get hs' hr') hget hk h.hk
   have:=c.rng _ (uW hs' hr')
   omega
 have hQo:∀q:Int,0≤q→q≠r.queue→Q'.getD q.toNat []=Q.getD q.toNat []:=by
  intro q h0 hne
  rw[← hQ',yWt,vS (by omega),yWt]
 obtain⟨u1,u2,u3,u4,u5⟩:=yAr ({b with a:=a1}:Book) id h.hs
 obtain⟨b1,hb1⟩:∃b1:Book,b1={({b with a:=a1}:Book).unhas s id with at_:=aX id b.at_}:=⟨_,rfl⟩
 have v1:b1.a=a1:=by rw[hb1];exact u1
 have v2:b1.buys=b.buys:=by rw[hb1];exact u2
 have v3:b1.sells=b.sells:=by rw[hb1];exact u3
 have v4:b1.spare=b.spare:=by rw[hb1];exact u4
 have v5:b1.at_=aX id b.at_:=by rw[hb1]
 have v6:∀s',s'=1∨s'=2→b1.topI s'=b.topI s'∧b1.hasF s'=if s'=s∧b.topI s=id then false else b.hasF s':=by
  intro s' hs'
  rw[hb1];exact u5 s' hs'
 have vr:∀s',b1.rungs s'=b.rungs s':=by intro s';rw[Book.rungs,Book.rungs,v2,v3]
 have vq:b1.qs=b.qs:=by rw[Book.qs,Book.qs,v2,v3,v4]
 have hord:∀s',s'=1∨s'=2→b1.sideL Q' s'=(b.sideL Q s').filter (fun o=> !decide (o.id=id))∧b1.plcs Q' s'=(b.plcs Q s').filter fun x=> !decide (x.1=id):=by
  intro s' hs'
  rw[Book.sideL,Book.sideL,Book.plcs,Book.plcs,vr,List.filter_flatMap,List.filter_flatMap]
  have key:∀r'∈b.rungs s',∀j∈xE Q r',((b.a.slotAt j).id=id↔j=k)∧(j≠k→wN a1 s' r'.price j=wN b.a s' r'.price j∧vH a1 s' r'.price j=vH b.a s' r'.price j):=by
   intro r' hr' j hj
   refine⟨h.only c hs' hr' hj,fun e=> ?_⟩
   have:=(t2 j e).1
   refine⟨by rw[wN,wN,this],?_⟩
   have:=congrArg Ent.id this
   rw[vH,vH]
   exact congrArg (fun i=>(i,(⟨s',r'.price,j⟩:Place))) this
  refine⟨xF fun r' hr'=> ?_,xF fun r' hr'=> ?_⟩
  ·rw[Book.rOrds,Book.rOrds,hqd s' r' hs' hr',zCh (c.wf.nd _ _ (c.get hs' hr')),List.filter_map,v1]
   have e1:(xE Q r').filter ((fun o:zD=> !decide (o.id=id))∘wN b.a s' r'.price)=(xE Q r').filter fun j=> !decide (j=k):=by
    refine List.filter_congr fun j hj=> ?_
    show(!decide ((b.a.slotAt j).id=id))=_
    rw[decide_eq_decide.2 (key r' hr' j hj).1]
   rw[e1]
   refine yXu fun j hj=> ?_
   rw[yXt]at hj
   exact((key r' hr' j hj.1).2 (by simpa using hj.2)).1
  ·rw[hqd s' r' hs' hr',zCh (c.wf.nd _ _ (c.get hs' hr')),List.filter_map,v1]
   have e1:(xE Q r').filter ((fun x:Int×Place=> !decide (x.1=id))∘vH b.a s' r'.price)=(xE Q r').filter fun j=> !decide (j=k):=by
    refine List.filter_congr fun j hj=> ?_
    show(!decide ((b.a.slotAt j).id=id))=_
    rw[decide_eq_decide.2 (key r' hr' j hj).1]
   rw[e1]
   refine yXu fun j hj=> ?_
   rw[yXt]at hj
   exact((key r' hr' j hj.1).2 (by simpa using hj.2)).2
 have hflat:b1.flat Q'=(b.flat Q).filter fun o=> !decide (o.id=id):=by
  rw[Book.flat,(hord 1 (.inl rfl)).1,(hord 2 (.inr rfl)).1,Book.flat,y0i]
 have hat:b1.at_.Perm (b1.plcs Q' 1++b1.plcs Q' 2):=by
  rw[v5,z4j c.keys,(hord 1 (.inl rfl)).2,(hord 2 (.inr rfl)).2,← y0i]
  exact c.at_.filter _
 have hold:∀s' (r':xM),(s'=1∨s'=2)→r'∈b.rungs s'→xE Q r'≠[]:=fun s' r' hs' hr'=>c.ne s' hs' r' hr' fun e=>by
  have:=c.rng _ (uW hs' hr');omega
 have c1:b1.Core Q' r.queue:=by
  refine⟨by rw[v1];exact w,fun s' hs'=>by rw[vr];exact c.srt s' hs',by rw[vq,hQl];exact c.rng,by rw[vq];exact c.nd,by rw[vq,hQl];exact c.ql,fun s' hs' r' hr' hne=> ?_,fun q hq=> ?_,hat,?_,by rw[hQl];exact c.qb⟩
  ·rw[vr]at hr'
   have e:=hQo r'.queue (c.rng _ (uW hs' hr')).1 hne
   rw[xE,e];exact hold s' r' hs' hr'
  ·rw[v4]at hq
   have hqq:q∈b.qs:=yYd _ hq
   rw[hQo q (c.rng q hqq).1 fun e=> ?_]
   ·exact c.sp q hq
   ·have hcn:=c.nd
    rw[Book.qs]at hcn
    refine(yYq.1 hcn).2.2 r.queue ?_ q hq e.symm
    rcases h.hs with rfl|rfl
    ·exact yYa _ (yXh (f:=(·.queue)) h.hr)
    ·exact yYd _ (yXh (f:=(·.queue)) h.hr)
  ·rw[hflat]
   exact c.ids.sublist (List.Sublist.map _ yZv)
 have htk:yO (b.flat Q) id q=b1.flat Q':=by
  rw[hflat,← zEu c.ids h.has,h.get,hq.2];rfl
 have hm1:∀o,o∈b1.flat Q'↔o∈b.flat Q∧o.id≠id:=by
  intro o;rw[hflat,yXt];simp
 have ht1:∀b2:Book,(∀x,b2.hasF x=b1.hasF x∧b2.topI x=b1.topI x)→b2.Tops (b1.flat Q'):=by
  intro b2 hb2
  refine⟨fun o ho=> ?_,fun s' hs' hh=> ?_⟩
  ·rw[(hb2 _).1,(hb2 _).2]
   obtain⟨ho,hne⟩:=(hm1 o).1 ho
   have hs':=(mZ ho).1
   rw[(v6 _ hs').1,(v6 _ hs').2,ht.fl o ho]
   split
   ·rename_i e
    rw[e.1,e.2,yWy hne,y1s,y1s]
   ·rfl
  ·rw[(hb2 _).1,(v6 s' hs').2]at hh
   rw[(hb2 _).2,(v6 s' hs').1]
   split at hh
   ·cases hh
   ·rename_i e
    obtain⟨o,ho,o1,o2⟩:=ht.th s' hs' hh
    refine⟨o,(hm1 o).2 ⟨ho,fun e2=>e ?_⟩,o1,o2⟩
    have hg:=uA c.ids ho
    rw[e2,h.get]at hg
    have hsd:s'=s:=by rw[← o1,← hg];rfl
    exact⟨hsd,by rw[← hsd,← o2,e2]⟩
 obtain⟨R1,R2,hsplit⟩:=List.append_of_mem h.hr
 have hfn:=z8x (c.srt s h.hs) hsplit
 have hgd:(b.rungs s).getD (zV s (b.rungs s) r.price) ⟨0,0⟩=r:=by
  rw[hfn,hsplit]
  refine zK ?_
  rw[yYv (yXn _),y2c];rfl
 have hfl:zV s (b.rungs s) r.price<(b.rungs s).length:=by rw[hfn,hsplit];simp
 have hQr:Q'[r.queue.toNat]? =some ((xE Q r).erase k):=by rw[← hQ'];exact uY hnQ
 have hcount:(a1.qAt r.queue).count=((xE Q r).erase k).length:=by
  have:=w.q _ _ hQr
  have hql:=w.ql
  rw[zRz hrq.1 this]
 have er:xE Q' r=(xE Q r).erase k:=zK hQr
 have hru:({b with a:=a1}:Book).rungs s=b.rungs s:=rfl
 have hus:(a1.getF k).2=false:=by
  have:a1.usedAt k=false:=by
   have e:a1.slotAt k=slot0:=t4
   rw[Arena.slotAt]at e
   rw[Arena.usedAt,yXc,e];simp[slot0]
  rw[Arena.getF,yWl (by rw[this];decide)]
 refine⟨t1,?_,w.len,by rw[w.ql,c.wf.ql,hQl],hus,hfl⟩
 rw[Book.dropF,hru,hgd]
 by_cases hz:(a1.qAt r.queue).count=0
 ·rw[yWm hz]
  have he:xE Q' r=[]:=by
   rw[er]
   refine yXr ?_
   omega
  obtain⟨k1,k2⟩:=Book.Core.close h.hs (by rw[vr];exact hsplit) c1 he rfl
  have ebk:(({({b with a:=a1}:Book).unhas s id with at_:=aX id b.at_,spare:=b.spare++[r.queue]}:Book).setR s ((b.rungs s).take (zV s (b.rungs s) r.price)++(b.rungs s).drop (zV s (b.rungs s) r.price+1)))=(({b1 with spare:=b1.spare++[r.queue]}:Book).setR s (R1++R2)):=by
   have e1:(b.rungs s).take (zV s (b.rungs s) r.price)++(b.rungs s).drop (zV s (b.rungs s) r.price+1)=R1++R2:=by
    rw[hfn,hsplit,List.take_left]
    congr 1
    rw[y1r,yZu (by omega),Nat.add_sub_cancel_left];rfl
   rw[e1,v4,hb1]
  refine⟨Q',?_,?_,?_⟩
  ·exact ebk▸k1
  ·rw[htk]
   refine ht1 _ fun x=> ?_
   show(Book.hasF (({({b with a:=a1}:Book).unhas s id with at_:=aX id b.at_,spare:=b.spare++[r.queue]}:Book).setR s ((b.rungs s).take (zV s (b.rungs s) r.price)++(b.rungs s).drop (zV s (b.rungs s) r.price+1))) x=_∧Book.topI (({({b with a:=a1}:Book).unhas s id with at_:=aX id b.at_,spare:=b.spare++[r.queue]}:Book).setR s ((b.rungs s).take (zV s (b.rungs s) r.price)++(b.rungs s).drop (zV s (b.rungs s) r.price+1))) x=_)
   rw[ebk]
   rcases h.hs with rfl|rfl<;>exact⟨rfl,rfl⟩
  ·rw[htk]
   show _=Book.flat (({({b with a:=a1}:Book).unhas s id with at_:=aX id b.at_,spare:=b.spare++[r.queue]}:Book).setR s ((b.rungs s).take (zV s (b.rungs s) r.price)++(b.rungs s).drop (zV s (b.rungs s) r.price+1))) Q'
   rw[ebk];exact k2.symm
 ·rw[yWl hz]
  have c2:b1.Core Q' (-1):=⟨c1.wf,c1.srt,c1.rng,c1.nd,c1.ql,fun s' hs' r' hr' _=>by
   by_cases e:r'.queue=r.queue
   ·rw[xE,e]
    intro e2
    rw[xE]at er
    rw[er]at e2
    rw[hcount,e2]at hz
    exact hz rfl
   ·exact c1.ne s' hs' r' hr' e,c1.sp,c1.at_,c1.ids,c1.qb⟩
  have hh:({({b with a:=a1}:Book).unhas s id with at_:=aX id b.at_}:Book)=b1:=hb1.symm
  show Book.Rep {({b with a:=a1}:Book).unhas s id with at_:=aX id b.at_} _
  rw[hh,htk]
  exact⟨Q',c2,ht1 b1 fun _=>⟨rfl,rfl⟩,rfl⟩
open Go Cv Go.Proofs
theorem nZ (k:Int):∀l,eV (Value.int IntKind.i64 k) (atE l)=atE (aX k l)
 |[]=>rfl
 |(a,b)::l=>by
  have ih:=nZ k l
  show(bif (keq .i64 .i64 && decide (k=a))then atE l else _::eV _ (atE l))=_
  rw[ih,aX]
  by_cases h:k=a
  ·subst h;simp[keq]
  ·simp[h,atE]
theorem z4q:delRC.ok Tryz.prog 230:=
 delX_ok mixed Tryz.func230 rfl (by kernel_rfl) (by kernel_rfl) (by kernel_rfl) (by kernel_rfl) zFn rfl (by decide) (fun s sn sk i j w R=>by kernel_rfl)
theorem dup {X:Prop} {n:Int} (h:X):X∧n=n∧True∧X:=⟨h,rfl,trivial,h⟩
theorem Book.Core.small {b:Book} {Q:List (List Nat)} (c:b.Core Q (-1)):b.small:=by
 have hq:=c.qb
 have h1:=c.ql
 have h2:=c.wf.ql
 have h3:=c.wf.len
 rw[Book.qs,yWs,yWs,yWo,yWo]at h1
 exact⟨⟨by omega,by omega⟩,by omega,by omega,by omega⟩
theorem yQr (i:DrI) (h:drop1C.cnd i):yEm i:=by
 obtain⟨hsm,hn⟩:i.ok 1:=h
 obtain⟨⟨ha1,ha2⟩,hb1,hb2,hsp⟩:=id hsm
 have hn:zV 1 i.b.buys i.price<i.b.buys.length:=hn
 obtain⟨r,hr⟩:=yA (l:=i.b.buys) hn
 have hgd:((i.b.rungs 1).getD (zV 1 (i.b.rungs 1) i.price) ⟨0,0⟩)=r:=zK hr
 have hw:∀k:Int,IntKind.i64.wrap ((zV 1 (i.b.rungs 1) i.price:Int)+1)=((zV 1 (i.b.rungs 1) i.price+1:Nat):Int):=fun _=>by
  have:=zBn 1 i.price (i.b.rungs 1)
  have hl:(i.b.rungs 1).length≤1000000:=by show i.b.buys.length≤_;omega
  rw[w64 (by omega)];rfl
 have hn2:((zV 1 (i.b.rungs 1) i.price:Nat):Int)<((List.map zC i.b.buys).length:Int):=by
  rw[yWo]
  show((zV 1 i.b.buys i.price:Nat):Int)<_
  omega
 unfold yEm zDm zDn gM vM x9 xW xD dI
 refine⟨jU _ _,Cv.cnd.mk (fun c1=>Cv.cnd.mk (fun c2=> ?_) (fun c2=> ?_)) (fun c1=> ?_)⟩
 ·have c2:i.b.top1=i.id:=by simpa using c2
  have hu:i.b.unhas 1 i.id={i.b with has1:=false}:=by rw[Book.unhas,yWm ⟨c1,c2⟩];rfl
  refine⟨⟨{i.b with has1:=false,at_:=aX i.id i.b.at_},i.price⟩,rfl,rfl,rfl,rfl,rfl,rfl,rfl,rfl,rfl,(nZ _ _).symm,rfl,hsm,fun _ _=>⟨⟨by omega,hn2⟩,r.queue,elA hr (by simp[zC]) rfl,⟨i.b.a,r.queue⟩,rfl,rfl,trivial,fun _ _=>Cv.cnd.mk (fun e=>⟨by simp only[y5];omega,⟨i.b.buys.map zC,zV 1 (i.b.rungs 1) i.price,zV 1 (i.b.rungs 1) i.price+1⟩,rfl,(hw 0).symm,rfl,⟨y2h _,by rw[yWo];exact hn⟩,fun _ _=>⟨rfl,(),?_⟩⟩) (fun e=>⟨(),?_⟩)⟩⟩
  ·have e:(i.b.a.qAt r.queue).count=0:=by simpa using e
   rw[Book.dropF,hgd,yWm e,hu]
   refine⟨rfl,rfl,rfl,rfl,rfl,rfl,?_,rfl,?_,trivial⟩
   ·show List.map zC (i.b.buys.take _++i.b.buys.drop _)=_
    rw[yWw,y0u,y1y]
   ·show iE (i.b.spare++[r.queue])=_
    simp[iE]
  ·have e:¬(i.b.a.qAt r.queue).count=0:=by simpa using e
   rw[Book.dropF,hgd,yWl e,hu]
   exact⟨rfl,rfl,rfl,rfl,rfl,rfl,rfl,rfl,rfl,trivial⟩
 ·have c2:¬i.b.top1=i.id:=by simpa using c2
  have hu:i.b.unhas 1 i.id={i.b with has1:=i.b.has1}:=by rw[Book.unhas,yWl (fun e=>c2 e.2)]
  refine⟨⟨{i.b with has1:=i.b.has1,at_:=aX i.id i.b.at_},i.price⟩,rfl,rfl,rfl,rfl,rfl,rfl,rfl,rfl,rfl,(nZ _ _).symm,rfl,hsm,fun _ _=>⟨⟨by omega,hn2⟩,r.queue,elA hr (by simp[zC]) rfl,⟨i.b.a,r.queue⟩,rfl,rfl,trivial,fun _ _=>Cv.cnd.mk (fun e=>⟨by simp only[y5];omega,⟨i.b.buys.map zC,zV 1 (i.b.rungs 1) i.price,zV 1 (i.b.rungs 1) i.price+1⟩,rfl,(hw 0).symm,rfl,⟨y2h _,by rw[yWo];exact hn⟩,fun _ _=>⟨rfl,(),?_⟩⟩) (fun e=>⟨(),?_⟩)⟩⟩
  ·have e:(i.b.a.qAt r.queue).count=0:=by simpa using e
   rw[Book.dropF,hgd,yWm e,hu]
   refine⟨rfl,rfl,rfl,rfl,rfl,rfl,?_,rfl,?_,trivial⟩
   ·show List.map zC (i.b.buys.take _++i.b.buys.drop _)=_
    rw[yWw,y0u,y1y]
   ·show iE (i.b.spare++[r.queue])=_
    simp[iE]
  ·have e:¬(i.b.a.qAt r.queue).count=0:=by simpa using e
   rw[Book.dropF,hgd,yWl e,hu]
   exact⟨rfl,rfl,rfl,rfl,rfl,rfl,rfl,rfl,rfl,trivial⟩
 ·have hu:i.b.unhas 1 i.id={i.b with has1:=i.b.has1}:=by
   rw[Book.unhas,yWl]
   rintro⟨e,_⟩
   exact absurd (show i.b.has1=true from e) (by rw[c1];decide)
  refine⟨⟨{i.b with has1:=i.b.has1,at_:=aX i.id i.b.at_},i.price⟩,rfl,rfl,rfl,rfl,rfl,rfl,rfl,rfl,rfl,(nZ _ _).symm,rfl,hsm,fun _ _=>⟨⟨by omega,hn2⟩,r.queue,elA hr (by simp[zC]) rfl,⟨i.b.a,r.queue⟩,rfl,rfl,trivial,fun _ _=>Cv.cnd.mk (fun e=>⟨by simp only[y5];omega,⟨i.b.buys.map zC,zV 1 (i.b.rungs 1) i.price,zV 1 (i.b.rungs 1) i.price+1⟩,rfl,(hw 0).symm,rfl,⟨y2h _,by rw[yWo];exact hn⟩,fun _ _=>⟨rfl,(),?_⟩⟩) (fun e=>⟨(),?_⟩)⟩⟩
  ·have e:(i.b.a.qAt r.queue).count=0:=by simpa using e
   rw[Book.dropF,hgd,yWm e,hu]
   refine⟨rfl,rfl,rfl,rfl,rfl,rfl,?_,rfl,?_,trivial⟩
   ·show List.map zC (i.b.buys.take _++i.b.buys.drop _)=_
    rw[yWw,y0u,y1y]
   ·show iE (i.b.spare++[r.queue])=_
    simp[iE]
  ·have e:¬(i.b.a.qAt r.queue).count=0:=by simpa using e
   rw[Book.dropF,hgd,yWl e,hu]
   exact⟨rfl,rfl,rfl,rfl,rfl,rfl,rfl,rfl,rfl,trivial⟩
theorem yFf:drop1C.ok Tryz.prog 196:=okw mixed (gokc zKg (gokc zDo (gokc z4q gok0))) 0 (fun _=>[]) (fun _=>[]) [] Tryz.func196 yQr
theorem yMp (i:DrI) (h:drop2C.cnd i):yCf i:=by
 obtain⟨hsm,hn⟩:i.ok 2:=h
 obtain⟨⟨ha1,ha2⟩,hb1,hb2,hsp⟩:=id hsm
 have hn:zV 2 i.b.sells i.price<i.b.sells.length:=hn
 obtain⟨r,hr⟩:=yA (l:=i.b.sells) hn
 have hgd:((i.b.rungs 2).getD (zV 2 (i.b.rungs 2) i.price) ⟨0,0⟩)=r:=zK hr
 have hw:∀k:Int,IntKind.i64.wrap ((zV 2 (i.b.rungs 2) i.price:Int)+1)=((zV 2 (i.b.rungs 2) i.price+1:Nat):Int):=fun _=>by
  have:=zBn 2 i.price (i.b.rungs 2)
  have hl:(i.b.rungs 2).length≤1000000:=by show i.b.sells.length≤_;omega
  rw[w64 (by omega)];rfl
 have hn2:((zV 2 (i.b.rungs 2) i.price:Nat):Int)<((List.map zC i.b.sells).length:Int):=by
  rw[yWo]
  show((zV 2 i.b.sells i.price:Nat):Int)<_
  omega
 unfold yCf zEs zEj gN v7 x9 xZ xB dI
 refine⟨jU _ _,Cv.cnd.mk (fun c1=>Cv.cnd.mk (fun c2=> ?_) (fun c2=> ?_)) (fun c1=> ?_)⟩
 ·have c2:i.b.top2=i.id:=by simpa using c2
  have hu:i.b.unhas 2 i.id={i.b with has2:=false}:=by rw[Book.unhas,yWm ⟨c1,c2⟩];rfl
  refine⟨⟨{i.b with has2:=false,at_:=aX i.id i.b.at_},i.price⟩,rfl,rfl,rfl,rfl,rfl,rfl,rfl,rfl,rfl,(nZ _ _).symm,rfl,hsm,fun _ _=>⟨⟨by omega,hn2⟩,r.queue,elA hr (by simp[zC]) rfl,⟨i.b.a,r.queue⟩,rfl,rfl,trivial,fun _ _=>Cv.cnd.mk (fun e=>⟨by simp only[y5];omega,⟨i.b.sells.map zC,zV 2 (i.b.rungs 2) i.price,zV 2 (i.b.rungs 2) i.price+1⟩,rfl,(hw 0).symm,rfl,⟨y2h _,by rw[yWo];exact hn⟩,fun _ _=>⟨rfl,(),?_⟩⟩) (fun e=>⟨(),?_⟩)⟩⟩
  ·have e:(i.b.a.qAt r.queue).count=0:=by simpa using e
   rw[Book.dropF,hgd,yWm e,hu]
   refine⟨rfl,rfl,rfl,rfl,rfl,rfl,rfl,?_,?_,trivial⟩
   ·show List.map zC (i.b.sells.take _++i.b.sells.drop _)=_
    rw[yWw,y0u,y1y]
   ·show iE (i.b.spare++[r.queue])=_
    simp[iE]
  ·have e:¬(i.b.a.qAt r.queue).count=0:=by simpa using e
   rw[Book.dropF,hgd,yWl e,hu]
   exact⟨rfl,rfl,rfl,rfl,rfl,rfl,rfl,rfl,rfl,trivial⟩
 ·have c2:¬i.b.top2=i.id:=by simpa using c2
  have hu:i.b.unhas 2 i.id={i.b with has2:=i.b.has2}:=by rw[Book.unhas,yWl (fun e=>c2 e.2)]
  refine⟨⟨{i.b with has2:=i.b.has2,at_:=aX i.id i.b.at_},i.price⟩,rfl,rfl,rfl,rfl,rfl,rfl,rfl,rfl,rfl,(nZ _ _).symm,rfl,hsm,fun _ _=>⟨⟨by omega,hn2⟩,r.queue,elA hr (by simp[zC]) rfl,⟨i.b.a,r.queue⟩,rfl,rfl,trivial,fun _ _=>Cv.cnd.mk (fun e=>⟨by simp only[y5];omega,⟨i.b.sells.map zC,zV 2 (i.b.rungs 2) i.price,zV 2 (i.b.rungs 2) i.price+1⟩,rfl,(hw 0).symm,rfl,⟨y2h _,by rw[yWo];exact hn⟩,fun _ _=>⟨rfl,(),?_⟩⟩) (fun e=>⟨(),?_⟩)⟩⟩
  ·have e:(i.b.a.qAt r.queue).count=0:=by simpa using e
   rw[Book.dropF,hgd,yWm e,hu]
   refine⟨rfl,rfl,rfl,rfl,rfl,rfl,rfl,?_,?_,trivial⟩
   ·show List.map zC (i.b.sells.take _++i.b.sells.drop _)=_
    rw[yWw,y0u,y1y]
   ·show iE (i.b.spare++[r.queue])=_
    simp[iE]
  ·have e:¬(i.b.a.qAt r.queue).count=0:=by simpa using e
   rw[Book.dropF,hgd,yWl e,hu]
   exact⟨rfl,rfl,rfl,rfl,rfl,rfl,rfl,rfl,rfl,trivial⟩
 ·have hu:i.b.unhas 2 i.id={i.b with has2:=i.b.has2}:=by
   rw[Book.unhas,yWl]
   rintro⟨e,_⟩
   exact absurd (show i.b.has2=true from e) (by rw[c1];decide)
  refine⟨⟨{i.b with has2:=i.b.has2,at_:=aX i.id i.b.at_},i.price⟩,rfl,rfl,rfl,rfl,rfl,rfl,rfl,rfl,rfl,(nZ _ _).symm,rfl,hsm,fun _ _=>⟨⟨by omega,hn2⟩,r.queue,elA hr (by simp[zC]) rfl,⟨i.b.a,r.queue⟩,rfl,rfl,trivial,fun _ _=>Cv.cnd.mk (fun e=>⟨by simp only[y5];omega,⟨i.b.sells.map zC,zV 2 (i.b.rungs 2) i.price,zV 2 (i.b.rungs 2) i.price+1⟩,rfl,(hw 0).symm,rfl,⟨y2h _,by rw[yWo];exact hn⟩,fun _ _=>⟨rfl,(),?_⟩⟩) (fun e=>⟨(),?_⟩)⟩⟩
  ·have e:(i.b.a.qAt r.queue).count=0:=by simpa using e
   rw[Book.dropF,hgd,yWm e,hu]
   refine⟨rfl,rfl,rfl,rfl,rfl,rfl,rfl,?_,?_,trivial⟩
   ·show List.map zC (i.b.sells.take _++i.b.sells.drop _)=_
    rw[yWw,y0u,y1y]
   ·show iE (i.b.spare++[r.queue])=_
    simp[iE]
  ·have e:¬(i.b.a.qAt r.queue).count=0:=by simpa using e
   rw[Book.dropF,hgd,yWl e,hu]
   exact⟨rfl,rfl,rfl,rfl,rfl,rfl,rfl,rfl,rfl,trivial⟩
theorem yEv:drop2C.ok Tryz.prog 196:=okw mixed (gokc zMg (gokc zDo (gokc z4q gok0))) 0 (fun _=>[]) (fun _=>[]) [] Tryz.func196 yMp
theorem yJs:dropC.ok Tryz.prog 196:=fun j=>match j with
 |⟨i,false⟩=>yFf i
 |⟨i,true⟩=>yEv i
theorem yGh {a:Arena} {k:Nat} {p t:Int} {m:Nat} (h:zSh (a.slotAt k) m k p t) (hl:k<a.slots.length):a.getF k=((a.slotAt k).ent,true):=by
 have:a.usedAt k=true:=by
  simp only[Arena.usedAt,yWz,yXy,yXc]
  exact⟨by omega,by omega,h.used⟩
 rw[Arena.getF,yWm this,yXc]
theorem zWx {b:Book} {Q:List (List Nat)} (c:b.Core Q (-1)) {id s:Int} {r:xM} {k:Nat} (h:Told b Q id s r k):b.a.getF k=((b.a.slotAt k).ent,true)∧(b.a.slotAt k).qty≤1000000∧1≤(b.a.slotAt k).qty:=by
 obtain⟨h1,⟨p,t,h2⟩,h3⟩:=c.wf.toWf0.mem (c.get h.hs h.hr) h.hk
 exact⟨yGh h2 (by rw[c.wf.len];exact h1),h2.q2,c.wf.pos _ _ (c.get h.hs h.hr) _ h.hk⟩
theorem yOc (i:FlI) (h:bfindC.cnd i):z9g i:=by
 obtain⟨Q,c,ht,hL⟩:i.b.Rep i.L:=h
 unfold z9g zDv lI pS dI
 rcases c.told i.id with⟨hg,hn⟩|⟨s,r,k,hT⟩
 ·refine⟨jU _ _,false,0,0,0,.inr ⟨?_,rfl,rfl⟩,Cv.cnd.mk (fun _=> ?_) (fun e=>absurd e (by decide))⟩
  ·rw[eB,hg];rfl
  ·rw[← hL]at hn
   rw[yQo hn,hn]
   exact⟨(),by(repeat'(first|exact trivial|exact rfl|apply And.intro))⟩
 ·refine⟨jU _ _,true,s,r.price,k,.inl ⟨?_,rfl⟩,Cv.cnd.mk (fun e=>absurd e (by decide)) (fun _=>dup ⟨⟨i.b.a,k⟩,rfl,rfl,by dsimp only;rw[c.wf.len];decide,fun _ _=>⟨(),?_⟩⟩)⟩
  ·rw[eB,hT.e];rfl
  ·have h1:=hT.get
   have h2:=hT.has
   rw[← hL]at h1 h2
   rw[h1,h2,(zWx c hT).1]
   exact⟨hT.ident,by(repeat'(first|exact trivial|exact rfl|apply And.intro))⟩
theorem zXl:bfindC.ok Tryz.prog 105:=okw mixed (gokc z3m gok0) 0 (fun _=>[]) (fun _=>[]) [0] Tryz.func105 yOc
theorem Book.Core.okAt {b:Book} {Q:List (List Nat)} (c:b.Core Q (-1)):b.a.okAt:=c.wf.toWf0.ok
theorem yRo (i:FlI) (h:fillC.cnd i):yLg i:=by
 have hR:i.b.Rep i.L:=h
 obtain⟨Q,c,ht,hL⟩:=id hR
 unfold yLg zRd zKp wQ tW pS dI
 rcases c.told i.id with⟨hg,hn⟩|⟨s,r,k,hT⟩
 ·refine⟨jU _ _,false,0,0,0,.inr ⟨?_,rfl,rfl⟩,Cv.cnd.mk (fun _=> ?_) (fun e=>absurd e (by simp))⟩
  ·rw[eB,hg];rfl
  ·rw[← hL]at hn
   rw[xS,yWm hn]
   exact⟨i.b,rfl,rfl,rfl,rfl,rfl,rfl,rfl,rfl,rfl,rfl,hR⟩
 have hg:=hT.get
 have hh:=hT.has
 rw[← hL]at hg hh
 obtain⟨hsg,hq1,hq2⟩:=zWx c hT
 have hqq:(fT i.L i.id).qty=(i.b.a.slotAt k).qty:=by rw[hg];rfl
 refine⟨jU _ _,true,s,r.price,k,.inl ⟨?_,rfl⟩,Cv.cnd.mk (fun e=>absurd e (by simp)) (fun _=>⟨⟨i.b.a,k,i.qty⟩,rfl,rfl,rfl,c.okAt,fun _ _=> ?_⟩)⟩
 ·rw[eB,hT.e];rfl
 dsimp only
 have hu:i.b.a.usedAt k=true:=by
  cases hu:i.b.a.usedAt k with
  |true=>rfl
  |false=>rw[Arena.getF,yWl (by rw[hu];decide)]at hsg;exact absurd (congrArg Prod.snd hsg) (by simp)
 by_cases hb:i.qty<1∨(i.b.a.slotAt k).qty<i.qty
 ·have ht:i.b.a.takeF k i.qty=(i.b.a,24):=by rw[Arena.takeF,yWl (by rw[hu];decide),yXc,yWm hb]
  rw[ht]
  refine Cv.cnd.mk (fun _=> ?_) (fun e=>absurd e (by simp))
  rw[xS,yWl (by rw[hh];decide),yWm (by rw[hqq];exact hb)]
  exact⟨i.b,rfl,rfl,rfl,rfl,rfl,rfl,rfl,rfl,rfl,rfl,hR⟩
 have hfl:xS i.L i.id i.qty=(yO i.L i.id i.qty,0):=by rw[xS,yWl (by rw[hh];decide),yWl (by rw[hqq];exact hb)]
 by_cases hf:i.qty=(i.b.a.slotAt k).qty
 ·obtain⟨g1,g2,g3,g4,g5,g6⟩:=c.gone (by rw[← hL];exact ht) hT (q:=i.qty) ⟨by omega,hf⟩
  rw[← hL]at g2
  have hsm:=c.small
  rw[g1]
  refine Cv.cnd.mk (fun e=>absurd e (by simp)) (fun _=>dup ⟨⟨(i.b.a.takeF k i.qty).1,k⟩,rfl,rfl,by dsimp only;rw[g3];decide,fun _ _=> ?_⟩)
  dsimp only
  rw[g5]
  refine Cv.cnd.mk (fun _=> ?_) (fun e=>absurd e (by simp))
  rcases hT.hs with rfl|rfl
  ·refine⟨⟨⟨{i.b with a:=(i.b.a.takeF k i.qty).1},i.id,r.price,k⟩,false⟩,rfl,rfl,rfl,rfl,rfl,rfl,rfl,rfl,rfl,rfl,rfl,rfl,rfl,⟨⟨⟨by dsimp only;rw[g3];decide,by dsimp only;rw[g4];exact hsm.1.2⟩,hsm.2⟩,g6⟩,fun _ _=> ?_⟩
   refine⟨({i.b with a:=(i.b.a.takeF k i.qty).1}:Book).dropF 1 i.id r.price,by rw[hfl],rfl,rfl,rfl,rfl,rfl,rfl,rfl,rfl,rfl,by rw[hfl];exact g2⟩
  ·refine⟨⟨⟨{i.b with a:=(i.b.a.takeF k i.qty).1},i.id,r.price,k⟩,true⟩,rfl,rfl,rfl,rfl,rfl,rfl,rfl,rfl,rfl,rfl,rfl,rfl,rfl,⟨⟨⟨by dsimp only;rw[g3];decide,by dsimp only;rw[g4];exact hsm.1.2⟩,hsm.2⟩,g6⟩,fun _ _=> ?_⟩
   refine⟨({i.b with a:=(i.b.a.takeF k i.qty).1}:Book).dropF 2 i.id r.price,by rw[hfl],rfl,rfl,rfl,rfl,rfl,rfl,rfl,rfl,rfl,by rw[hfl];exact g2⟩
 ·obtain⟨g1,g2,g3,g4,g5⟩:=c.less (by rw[← hL];exact ht) hT (q:=i.qty) (by omega)
  rw[← hL]at g2
  rw[g1]
  refine Cv.cnd.mk (fun e=>absurd e (by simp)) (fun _=>dup ⟨⟨(i.b.a.takeF k i.qty).1,k⟩,rfl,rfl,by dsimp only;rw[g3];decide,fun _ _=> ?_⟩)
  dsimp only
  rw[g4]
  refine Cv.cnd.mk (fun e=>absurd e (by simp)) (fun _=>Cv.cnd.mk (fun e=> ?_) (fun _=> ?_))
  ·have e:¬((i.b.a.takeF k i.qty).1.slotAt k).ent.id=i.id:=by simpa using e
   exact absurd g5 e
  ·exact⟨{i.b with a:=(i.b.a.takeF k i.qty).1},by rw[hfl],rfl,rfl,rfl,rfl,rfl,rfl,rfl,rfl,rfl,by rw[hfl];exact g2⟩
theorem yIh:fillC.ok Tryz.prog 157:=okw mixed (gokc yCn (gokc z3m (gokc yJs gok0))) 0 (fun _=>[]) (fun _=>[]) [0] Tryz.func157 yRo
theorem zSo (A B:List zD) (s p:Int):atL (A++B) s p=atL A s p++atL B s p:=y0i _ _
theorem zRx {A:List zD} {s p:Int} (h:∀o∈A,o.side=s→o.price≠p):atL A s p=[]:=by
 rw[atL,y1v]
 intro o ho
 by_cases e:o.side=s
 ·simp[h o ho e]
 ·simp[e]
theorem yIk {A:List zD} {s p:Int} (h:∀o∈A,o.side=s∧o.price=p):atL A s p=A:=by
 rw[atL,y0p]
 intro o ho
 simp[h o ho]
theorem zJi {s x y:Int} (h:btr s x y=true):x≠y:=by
 rintro rfl;rw[nG]at h;cases h
theorem Book.Core.at_no {b:Book} {Q:List (List Nat)} (c:b.Core Q (-1)) {s p:Int} (hs:s=1∨s=2) (h:kJ s (b.rungs s) p=false):atL (b.flat Q) s p=[]:=by
 have hsp:=lY (p:=p) (c.srt s hs)
 rw[yWl (by rw[h];decide)]at hsp
 refine zRx fun o ho e=> ?_
 obtain⟨_,r,hr,_,hp⟩:=mZ ho
 rw[e]at hr
 rw[hp]
 rw[← yZc (zV s (b.rungs s) p) (b.rungs s)]at hr
 rcases yXo.1 hr with hr|hr
 ·exact zJi (hsp.1 r hr)
 ·exact(zJi (hsp.2 r hr)).symm
theorem Book.Core.at_yes {b:Book} {Q:List (List Nat)} (c:b.Core Q (-1)) {s p:Int} (hs:s=1∨s=2) (h:kJ s (b.rungs s) p=true):∃r,(b.rungs s)[zV s (b.rungs s) p]? =some r∧r.price=p∧r∈b.rungs s∧atL (b.flat Q) s p=b.rOrds Q s r:=by
 have hsp:=lY (p:=p) (c.srt s hs)
 rw[yWm h]at hsp
 obtain⟨h1,r,hr,hp,h2⟩:=hsp
 have hlt:=(yWn.1 hr).1
 refine⟨r,hr,hp,yWv hr,?_⟩
 have hsplit:b.rungs s=(b.rungs s).take (zV s (b.rungs s) p)++r::(b.rungs s).drop (zV s (b.rungs s) p+1):=by
  conv=>lhs;rw[← yZc (zV s (b.rungs s) p) (b.rungs s)]
  rw[yZb hlt,(yWn.1 hr).2]
 have hside:atL (b.sideL Q s) s p=b.rOrds Q s r:=by
  rw[Book.sideL,hsplit,yYh,yYc,zSo,zSo,zRx,yIk,zRx,yXk,yYu]
  ·intro o ho _
   obtain⟨r',hr',ho⟩:=yYt.1 ho
   rw[(qH ho).2];exact(zJi (h2 r' hr')).symm
  ·intro o ho
   rw[← hp];exact qH ho
  ·intro o ho _
   obtain⟨r',hr',ho⟩:=yYt.1 ho
   rw[(qH ho).2];exact zJi (h1 r' hr')
 have hother:∀s',s'≠s→atL (b.sideL Q s') s p=[]:=fun s' hne=>zRx fun o ho e=>absurd ((bW ho).1.symm.trans e) hne
 rw[Book.flat,zSo]
 rcases hs with rfl|rfl
 ·rw[hside,hother 2 (by decide),yXk]
 ·rw[hside,hother 1 (by decide),yYu]
theorem Book.Core.listOk {b:Book} {Q:List (List Nat)} (c:b.Core Q (-1)) {s:Int} (hs:s=1∨s=2) {r:xM} (hr:r∈b.rungs s):b.a.listOk r.queue (xE Q r):=by
 have hg:=c.get hs hr
 have hrq:=c.rng _ (uW hs hr)
 refine⟨by have:=c.wf.toWf0.short hg;omega,?_⟩
 rw[yWm ⟨hrq.1,by rw[c.wf.ql];exact hrq.2⟩,zK (c.wf.q _ _ hg)]
 exact zOw (c.wf.sg _ _ hg)
theorem yUs (i:AtI) (h:at1C.cnd i):yTj i:=by
 obtain⟨Q,c,ht,hL⟩:i.b.Rep i.L:=h
 unfold yTj gM vM x9 xW vW dI
 refine⟨1,rfl,trivial,fun _ _=>Cv.cnd.mk (fun e=>absurd e (by decide)) fun _=>⟨⟨i.b,i.price⟩,rfl,rfl,rfl,rfl,rfl,rfl,rfl,rfl,rfl,rfl,rfl,c.small,fun _ _=>Cv.cnd.mk (fun e=> ?_) (fun e=> ?_)⟩⟩
 ·have e:kJ 1 (i.b.rungs 1) i.price=false:=by simpa using e
  have:=c.at_no (.inl rfl) e
  rw[← hL]at this
  refine⟨(),rfl,rfl,rfl,rfl,rfl,rfl,rfl,rfl,rfl,?_,trivial⟩
  show List.map wO (atL i.L 1 i.price)=[]
  rw[this];rfl
 ·have e:kJ 1 (i.b.rungs 1) i.price=true:=by simpa using e
  obtain⟨r,hr,hp,hm,ha⟩:=c.at_yes (.inl rfl) e
  rw[← hL]at ha
  have hlt:=(yWn.1 hr).1
  refine⟨⟨by omega,by rw[yWo];exact Int.ofNat_lt.2 hlt⟩,r.price,r.queue,elA hr (by simp[zC]) rfl,⟨i.b,1,r,xE Q r⟩,rfl,rfl,rfl,rfl,rfl,rfl,rfl,rfl,rfl,rfl,rfl,rfl,c.listOk (.inl rfl) hm,fun _ _=>⟨(),rfl,?_,trivial⟩⟩
  show List.map wO (atL i.L 1 i.price)=_
  rw[ha,BoI.ords,Book.rOrds,Arena.ents];simp only[yYx];rfl
theorem yOw:at1C.ok Tryz.prog 218:=okw mixed (gokc zEv (gokc zKg (gokc zOs gok0))) 0 (fun _=>[]) (fun _=>[]) [0] Tryz.func218 yUs
theorem yUv (i:AtI) (h:at2C.cnd i):yTa i:=by
 obtain⟨Q,c,ht,hL⟩:i.b.Rep i.L:=h
 unfold yTa gN v7 x9 xZ vW dI
 refine⟨2,rfl,trivial,fun _ _=>Cv.cnd.mk (fun e=>absurd e (by decide)) fun _=>⟨⟨i.b,i.price⟩,rfl,rfl,rfl,rfl,rfl,rfl,rfl,rfl,rfl,rfl,rfl,c.small,fun _ _=>Cv.cnd.mk (fun e=> ?_) (fun e=> ?_)⟩⟩
 ·have e:kJ 2 (i.b.rungs 2) i.price=false:=by simpa using e
  have:=c.at_no (.inr rfl) e
  rw[← hL]at this
  refine⟨(),rfl,rfl,rfl,rfl,rfl,rfl,rfl,rfl,rfl,?_,trivial⟩
  show List.map wO (atL i.L 2 i.price)=[]
  rw[this];rfl
 ·have e:kJ 2 (i.b.rungs 2) i.price=true:=by simpa using e
  obtain⟨r,hr,hp,hm,ha⟩:=c.at_yes (.inr rfl) e
  rw[← hL]at ha
  have hlt:=(yWn.1 hr).1
  refine⟨⟨by omega,by rw[yWo];exact Int.ofNat_lt.2 hlt⟩,r.price,r.queue,elA hr (by simp[zC]) rfl,⟨i.b,2,r,xE Q r⟩,rfl,rfl,rfl,rfl,rfl,rfl,rfl,rfl,rfl,rfl,rfl,rfl,c.listOk (.inr rfl) hm,fun _ _=>⟨(),rfl,?_,trivial⟩⟩
  show List.map wO (atL i.L 2 i.price)=_
  rw[ha,BoI.ords,Book.rOrds,Arena.ents];simp only[yYx];rfl
theorem yOh:at2C.ok Tryz.prog 218:=okw mixed (gokc zEv (gokc zMg (gokc zOs gok0))) 0 (fun _=>[]) (fun _=>[]) [0] Tryz.func218 yUv
theorem ySg:atC.ok Tryz.prog 218:=fun j=>match j with
 |⟨b,L,false,p⟩=>yOw ⟨b,L,false,p⟩
 |⟨b,L,true,p⟩=>yOh ⟨b,L,true,p⟩
open Go Cv Go.Proofs
def zNd (p:Int) (l:List zD):Lv:=⟨p,(l.map (·.qty)).sum,l.length⟩
theorem zCk:∀{l:List zD} {v:Lv} {vs:List Lv},grp l=v::vs→∃o r,l=o::r∧o.price=v.price
 |[],v,vs,h=>by cases h
 |o::r,v,vs,h=>by
  refine⟨o,r,rfl,?_⟩
  rw[grp]at h
  split at h
  ·cases h;rfl
  ·split at h
   ·rename_i e;cases h;exact e.symm
   ·cases h;rfl
theorem zRw {p:Int}:∀{l:List zD} {m:List zD},l≠[]→(∀o∈l,o.price=p)→(∀o r,m=o::r→o.price≠p)→grp (l++m)=zNd p l::grp m
 |[],m,h,_,_=>absurd rfl h
 |[o],m,_,h,hm=>by
  have e:=h o yWq
  rw[List.singleton_append,grp]
  split
  ·rename_i g;simp[zNd,e,g]
  ·rename_i v vs g
   obtain⟨o',r,e1,e2⟩:=zCk g
   have:=hm o' r e1
   rw[yWl (by omega)];simp[zNd,e,g]
 |o::o'::l,m,_,h,hm=>by
  have e:=h o yWq
  have ih:=zRw (l:=o'::l) (m:=m) (by simp) (fun x hx=>h x (yWr _ hx)) hm
  rw[yXx,grp,ih]
  dsimp only
  rw[yWm (show(zNd p (o'::l)).price=o.price from e.symm)]
  simp only[zNd,yWu,yXj,yXa]
  rfl
theorem zUc {f:xM→List zD}:∀{R:List xM},(∀r∈R,f r≠[]∧∀o∈f r,o.price=r.price)→R.Pairwise (fun r r'=>r.price≠r'.price)→grp (R.flatMap f)=R.map fun r=>zNd r.price (f r)
 |[],_,_=>rfl
 |r::R,h,hp=>by
  rw[y1a]at hp
  have ih:=zUc (R:=R) (fun x hx=>h x (yWr _ hx)) hp.2
  rw[yYc,zRw (h r yWq).1 (h r yWq).2,ih,yWu]
  intro o l e
  cases R with
  |nil=>cases e
  |cons r' R'=>
   rw[yYc]at e
   obtain⟨h1,h2⟩:=h r' (yWr _ yWq)
   cases hf:f r' with
   |nil=>exact absurd hf h1
   |cons x y=>
    rw[hf,yXx]at e
    cases e
    rw[h2 o (by rw[hf];exact yWq)]
    exact(hp.1 r' yWq).symm
theorem zNu {b:Book} {Q:List (List Nat)} {s:Int} (hs:s=1∨s=2):(b.flat Q).filter (fun o=>decide (o.side=s))=b.sideL Q s:=by
 have h1:∀s',(b.sideL Q s').filter (fun o=>decide (o.side=s))=if s'=s then b.sideL Q s' else[]:=by
  intro s'
  split
  ·rename_i e
   rw[y0p]
   intro o ho
   rw[(bW ho).1,e];simp
  ·rename_i e
   rw[y1v]
   intro o ho
   rw[(bW ho).1];simp[e]
 rw[Book.flat,y0i,h1,h1]
 rcases hs with rfl|rfl
 ·simp
 ·simp
theorem Book.Core.neL {b:Book} {Q:List (List Nat)} (c:b.Core Q (-1)) {s:Int} (hs:s=1∨s=2) {r:xM} (hr:r∈b.rungs s):xE Q r≠[]:=c.ne s hs r hr fun e=>by have:=c.rng _ (uW hs hr);omega
theorem Book.Core.toldL {b:Book} {Q:List (List Nat)} (c:b.Core Q (-1)) {s:Int} (hs:s=1∨s=2) {r:xM} (hr:r∈b.rungs s):b.told r=zNd r.price (b.rOrds Q s r):=by
 have hg:=c.get hs hr
 have hrq:=c.rng _ (uW hs hr)
 have hq:=c.wf.q _ _ hg
 have hql:=c.wf.ql
 rw[Book.told,zRz hrq.1 hq,zNd,Book.rOrds,yYx,yWo]
 rfl
theorem Book.Core.lad {b:Book} {Q:List (List Nat)} (c:b.Core Q (-1)) {s:Int} (hs:s=1∨s=2):vA (b.flat Q) s=(b.rungs s).map b.told:=by
 rw[vA,zNu hs,Book.sideL,zUc]
 ·exact yXu fun r hr=>(c.toldL hs hr).symm
 ·intro r hr
  refine⟨fun e=>c.neL hs hr (List.map_eq_nil_iff.1 e),fun o ho=>(qH ho).2⟩
 ·exact(c.srt s hs).imp fun h=>zJi h
theorem Book.Core.bestL {b:Book} {Q:List (List Nat)} (c:b.Core Q (-1)) {s:Int} (hs:s=1∨s=2):b.best (b.rungs s)=Sx.bestL (b.flat Q) s:=by
 rw[Sx.bestL,c.lad hs]
 cases b.rungs s<;>rfl
theorem Book.Core.cnt {b:Book} {Q:List (List Nat)} (c:b.Core Q (-1)):b.cntOk:=by
 intro q hq
 obtain⟨n,hn⟩:=yYi.1 hq
 have hlt:=(yWn.1 hn).1
 rw[c.wf.ql]at hlt
 obtain⟨l,hl⟩:=yA hlt
 have:=c.wf.q n l hl
 rw[hn]at this
 cases this
 have:=c.wf.toWf0.short hl
 constructor<;>dsimp only<;>omega
def u7 (L:List zD):Top:=(top0.buy (bestL L 1)).sell (bestL L 2)
theorem Book.Rep.top {b:Book} {L:List zD} (h:b.Rep L):b.top=u7 L:=by
 obtain⟨Q,c,ht,rfl⟩:=h
 rw[Book.top,u7,← c.bestL (.inl rfl),← c.bestL (.inr rfl)];rfl
theorem Book.Rep.cnt {b:Book} {L:List zD} (h:b.Rep L):b.cntOk:=by
 obtain⟨Q,c,ht,rfl⟩:=h
 exact c.cnt
structure zIh (o:zD):Prop where
 s:o.side=1∨o.side=2
 q:1≤o.qty∧o.qty≤1000000
theorem Book.Rep.ords {b:Book} {L:List zD} (h:b.Rep L):(∀o∈L,zIh o)∧(L.map (·.id)).Nodup∧L.length≤250:=by
 obtain⟨Q,c,ht,rfl⟩:=h
 refine⟨fun o ho=> ?_,c.ids,?_⟩
 ·obtain⟨hs,r,hr,ho,hp⟩:=mZ ho
  refine⟨hs,?_⟩
  obtain⟨k,hk,e⟩:=yXl.1 ho
  obtain⟨_,⟨_,_,h2⟩,_⟩:=c.wf.toWf0.mem (c.get hs hr) hk
  have eq:o.qty=(b.a.slotAt k).qty:=by rw[← e];rfl
  rw[eq]
  exact⟨c.wf.pos _ _ (c.get hs hr) _ hk,h2.q2⟩
 ·have hnd:(((b.rungs 1).flatMap (xE Q)++(b.rungs 2).flatMap (xE Q))).Nodup:=by
   have hm:((b.flat Q).map (·.id))=((b.rungs 1).flatMap (xE Q)++(b.rungs 2).flatMap (xE Q)).map fun k=>(b.a.slotAt k).id:=by
    rw[Book.flat,yWw,yWw,Book.sideL,Book.sideL,sL,sL,sL,sL]
    congr 1
    ·exact xF fun r _=>by rw[Book.rOrds,yYx];rfl
    ·exact xF fun r _=>by rw[Book.rOrds,yYx];rfl
   have:=c.ids
   rw[hm]at this
   exact List.Pairwise.of_map _ (fun a b hab e=>hab (by rw[e])) this
  have hl:(b.flat Q).length=((b.rungs 1).flatMap (xE Q)++(b.rungs 2).flatMap (xE Q)).length:=by
   rw[Book.flat,yWs,yWs,Book.sideL,Book.sideL,y1p,y1p,y1p,y1p]
   congr 1
   ·congr 1;exact yXu fun r _=>by rw[Book.rOrds,yWo]
   ·congr 1;exact yXu fun r _=>by rw[Book.rOrds,yWo]
  rw[hl]
  refine zLk 250 hnd fun k hk=> ?_
  rcases yXo.1 hk with hk|hk
  ·obtain⟨r,hr,hk⟩:=yYt.1 hk
   exact(c.wf.toWf0.mem (c.get (.inl rfl) hr) hk).1
  ·obtain⟨r,hr,hk⟩:=yYt.1 hk
   exact(c.wf.toWf0.mem (c.get (.inr rfl) hr) hk).1
theorem Book.Rep.fit {b:Book} {L:List zD} (h:b.Rep L):b.fit:=by
 obtain⟨Q,c,ht,rfl⟩:=h
 have hs:=c.small
 have h1:=c.ql
 have h2:=c.wf.ql
 have hqb:=c.qb
 rw[Book.qs,yWs,yWs,yWo,yWo]at h1
 refine⟨⟨hs.1.1,fun hf=> ?_,fun q hq=> ?_⟩,by omega,by omega,by omega,by omega⟩
 ·obtain⟨k,_,hk,hk1,hku,_⟩:=c.wf.toWf0.unused hf
  exact⟨_,yWv hk1,hku⟩
 ·obtain⟨n,hn⟩:=yYi.1 hq
  have hlt:=(yWn.1 hn).1
  rw[c.wf.ql]at hlt
  obtain⟨l,hl⟩:=yA hlt
  have:=c.wf.q n l hl
  rw[hn]at this
  cases this
  dsimp only
  rcases wD l with e|⟨y,j,e,e2⟩
  ·exact .inl ((m4 l).2 e)
  ·rw[e2]
   have:=(c.wf.toWf0.mem hl (k:=j) (by rw[e];simp)).1
   rw[c.wf.len]
   exact .inr ⟨by omega,by omega⟩
def whL:Nat→List (List zD)→List (Int×Int)
 |_,[]=>[]
 |k,L::B=>L.map (fun o=>(o.id,(k:Int)))++whL (k+1) B
theorem whL_mem:∀{B:List (List zD)} {n:Nat} {x:Int×Int},x∈whL n B↔∃(k:Nat) (L:List zD),B[k]? =some L∧x.1∈L.map (·.id)∧x.2=((n+k:Nat):Int)
 |[],n,x=>by simp[whL]
 |L::B,n,x=>by
  rw[whL,yXo,whL_mem (B:=B)]
  constructor
  ·rintro(h|⟨k,L',h1,h2,h3⟩)
   ·obtain⟨o,ho,rfl⟩:=yXl.1 h
    exact⟨0,L,rfl,yXh (f:=(·.id)) ho,rfl⟩
   ·exact⟨k+1,L',h1,h2,by rw[h3];omega⟩
  ·rintro⟨k,L',h1,h2,h3⟩
   cases k with
   |zero=>
    cases h1
    obtain⟨o,ho,e⟩:=yXl.1 h2
    exact .inl (yXl.2 ⟨o,ho,Prod.ext e h3.symm⟩)
   |succ k=>exact .inr ⟨k,L',h1,h2,by rw[h3];omega⟩
theorem zHt:∀{B:List (List zD)} (n k:Nat),k<B.length→∃rest,∀X:List zD,(whL n (B.set k X)).Perm (X.map (fun o=>(o.id,((n+k:Nat):Int)))++rest)
 |[],n,k,h=>absurd h (by simp)
 |L::B,n,0,h=>⟨whL (n+1) B,fun X=> .refl _⟩
 |L::B,n,k+1,h=>by
  obtain⟨rest,hr⟩:=zHt (B:=B) (n+1) k (by simpa using h)
  refine⟨L.map (fun o=>(o.id,(n:Int)))++rest,fun X=> ?_⟩
  rw[y0y,whL]
  refine((hr X).append_left _).trans ?_
  rw[← yWx,← yWx,show n+1+k=n+(k+1)by omega]
  exact yYn.append_right _
structure MSt.Rep (s:MSt) (p:Prd) (B:List (List zD)):Prop where
 ep:s.p=p
 bl:s.books.length=B.length
 bk:∀(k:Nat) (b:Book) (L:List zD),s.books[k]? =some b→B[k]? =some L→b.Rep L
 wh:s.wh.Perm (whL 0 B)
 ids:((whL 0 B).map (·.1)).Nodup
def fF (B:List (List zD)) (id:Int):Option Nat:=B.findIdx? fun L=>kA L id
theorem xO {B:List (List zD)} {id:Int} {k:Nat} (h:fF B id=some k):∃L,B[k]? =some L∧kA L id=true:=by
 rw[fF,yZp]at h
 obtain⟨h1,h2,_⟩:=h
 exact⟨_,yXw h1,h2⟩
theorem zLi {B:List (List zD)} {id:Int} (h:fF B id=none):∀L∈B,kA L id=false:=by
 rw[fF,y1d]at h
 exact h
theorem zRa:∀{l:List (Int×Int)},(l.map (·.1)).Nodup→∀{k x:Int},(k,x)∈l→lT l k=some x
 |[],_,k,x,hx=>by cases hx
 |p::l,h,k,x,hx=>by
  rw[yWu,yYl]at h
  rw[lT,y2k]
  rcases yXd.1 hx with ex|hx
  ·subst ex;simp
  ·have:p.1≠k:=by rintro e;exact h.1 (e▸yXh (f:=(·.1)) hx)
   rw[yWy this]
   exact zRa h.2 hx
theorem z7u {l:List (Int×Int)} {k:Int} (h:k∉l.map (·.1)):lT l k=none:=by
 rw[lT,Option.map_eq_none_iff,List.find?_eq_none]
 intro x hx e
 have e:x.1=k:=by simpa using e
 exact h (e▸yXh (f:=(·.1)) hx)
theorem MSt.Rep.keys {s:MSt} {p:Prd} {B:List (List zD)} (h:s.Rep p B):(s.wh.map (·.1)).Nodup:=(h.wh.map (·.1)).nodup_iff.2 h.ids
theorem MSt.Rep.at_ {s:MSt} {p:Prd} {B:List (List zD)} (h:s.Rep p B) (id:Int):lT s.wh id=(fF B id).map (fun k:Nat=>(k:Int)):=by
 cases hi:fF B id with
 |none=>
  refine z7u fun hm=> ?_
  rw[(h.wh.map (·.1)).mem_iff]at hm
  obtain⟨x,hx,rfl⟩:=yXl.1 hm
  obtain⟨k,L,h1,h2,_⟩:=whL_mem.1 hx
  have:=zLi hi L (yWv h1)
  rw[hasId_iff.2 h2]at this;cases this
 |some k=>
  obtain⟨L,h1,h2⟩:=xO hi
  refine zRa h.keys (h.wh.mem_iff.2 (whL_mem.2 ⟨k,L,h1,hasId_iff.1 h2,by simp⟩))
theorem zJw {B:List (List zD)} (h:((whL 0 B).map (·.1)).Nodup) {id:Int} {k j:Nat} {L M:List zD} (hk:B[k]? =some L) (hj:B[j]? =some M) (h1:id∈L.map (·.id)) (h2:id∈M.map (·.id)):k=j:=by
 have a:=whL_mem (n:=0) (x:=(id,(k:Int)))|>.2 ⟨k,L,hk,h1,by simp⟩
 have b:=whL_mem (n:=0) (x:=(id,(j:Int)))|>.2 ⟨j,M,hj,h2,by simp⟩
 have:=zBq h a b
 omega
open Go Cv Go.Proofs
def yX (B:List (List zD)) (id q:Int):List (List zD)×Int:=match fF B id with
 |none=>(B,26)
 |some k=>(B.set k (xS (B.getD k []) id q).1,(xS (B.getD k []) id q).2)
theorem zMq {L:List zD} (h:(L.map (·.id)).Nodup) (id q:Int):((xS L id q).1.map (·.id)=L.map (·.id)∧kA (xS L id q).1 id=kA L id)∨((xS L id q).1=L.filter (fun o=> !decide (o.id=id))∧kA (xS L id q).1 id=false):=by
 rw[xS]
 by_cases h1:kA L id=false
 ·rw[yWm h1];exact .inl ⟨rfl,rfl⟩
 have h1:kA L id=true:=by simpa using h1
 rw[yWl (by rw[h1];decide)]
 by_cases h2:q<1∨(fT L id).qty<q
 ·rw[yWm h2];exact .inl ⟨rfl,rfl⟩
 rw[yWl h2]
 dsimp only
 by_cases h3:(fT L id).qty=q
 ·refine .inr ?_
  have e:yO L id q=L.filter fun o=> !decide (o.id=id):=by rw[← h3];exact zEu h h1
  refine⟨e,?_⟩
  rw[e,kA,y2n]
  intro o ho
  rw[yXt]at ho
  simpa using ho.2
 ·refine .inl ?_
  have hm:(yO L id q).map (·.id)=L.map (·.id):=by
   have:yO L id q=L.map fun o=>if o.id=id then{o with qty:=o.qty-q}else o:=by
    rw[yO,← List.filterMap_eq_map]
    refine vI fun o ho=> ?_
    simp only[Function.comp]
    by_cases e:o.id=id
    ·have hg:=uA h ho
     rw[e]at hg
     rw[yWm e,yWm e,yWl (fun e2=>h3 (by rw[hg];exact e2))]
    ·rw[yWl e,yWl e]
   rw[this,yYx]
   refine yXu fun o _=> ?_
   simp only[Function.comp]
   split<;>rfl
  refine⟨hm,?_⟩
  rw[Bool.eq_iff_iff,hasId_iff,hasId_iff,hm]
theorem z3u:∀{l:List (Int×Int)} {k:Int},(l.map (·.1)).Nodup→zZr k l=l.filter fun x=> !decide (x.1=k)
 |[],k,_=>rfl
 |(a,b)::l,k,h=>by
  rw[yWu,yYl]at h
  rw[zZr]
  by_cases e:k=a
  ·subst e
   rw[yWm rfl,yZt (by simp)]
   symm
   rw[y0p]
   intro x hx
   have:x.1≠k:=fun e=>h.1 (e▸yXh (f:=(·.1)) hx)
   simp[this]
  ·rw[yWl e,yZs (by simp[Ne.symm e]),z3u h.2]
theorem zWf:∀{l:List (Int×Int)} {k x:Int},k∉l.map (·.1)→zUu k x l=l++[(k,x)]
 |[],k,x,_=>rfl
 |p::l,k,x,h=>by
  rw[yWu,yXd,not_or]at h
  rw[zUu,yWl h.1,zWf h.2];rfl
theorem jC {α:Type} {l:List α} {k:Nat} {x:α} (h:l[k]? =some x):l.set k x=l:=by
 apply y1l
 intro i
 rw[y1z]
 split
 ·rename_i e
  subst e
  rw[yWm (yWn.1 h).1,h]
 ·rfl
theorem MSt.Rep.set {s:MSt} {p:Prd} {B:List (List zD)} (h:s.Rep p B) {k:Nat} {L':List zD} {b':Book} (hb:b'.Rep L') (hk:k<B.length) {wh':List (Int×Int)} (hw:wh'.Perm (whL 0 (B.set k L'))) (hi:((whL 0 (B.set k L')).map (·.1)).Nodup):({s with books:=s.books.set k b',wh:=wh'}:MSt).Rep p (B.set k L'):=by
 refine⟨h.ep,by simpa using h.bl,fun j b L h1 h2=> ?_,hw,hi⟩
 by_cases e:k=j
 ·subst e
  have h1:(s.books.set k b')[k]? =some b:=h1
  rw[uY (by rw[h.bl];exact hk)]at h1
  rw[uY hk]at h2
  cases h1;cases h2;exact hb
 ·have h1:(s.books.set k b')[j]? =some b:=h1
  rw[vS e]at h1 h2
  exact h.bk j b L h1 h2
theorem MSt.Rep.take {s:MSt} {p:Prd} {B:List (List zD)} (h:s.Rep p B) {id q:Int} {k:Nat} (hi:fF B id=some k) {L:List zD} (hL:B[k]? =some L) (hn:(L.map (·.id)).Nodup) {b':Book} (hb:b'.Rep (xS L id q).1):
 ({s with books:=s.books.set k b',wh:=if kA (xS L id q).1 id=true then s.wh else zZr id s.wh}:MSt).Rep p (yX B id q).1:=by
 have hk:=(yWn.1 hL).1
 have ht:(yX B id q).1=B.set k (xS L id q).1:=by simp only[yX,hi,zK hL]
 obtain⟨L2,e1,hh⟩:=xO hi
 rw[hL]at e1;cases e1
 obtain⟨rest,hr⟩:=zHt (B:=B) 0 k hk
 have hL0:=hr L
 rw[jC hL]at hL0
 rw[ht]
 rcases zMq hn id q with⟨e1,e2⟩|⟨e1,e2⟩
 ·have hm:∀X Y:List zD,X.map (·.id)=Y.map (·.id)→X.map (fun o=>(o.id,((0+k:Nat):Int)))=Y.map (fun o=>(o.id,((0+k:Nat):Int))):=by
   intro X Y e
   have:=congrArg (List.map fun i:Int=>(i,((0+k:Nat):Int))) e
   rw[yYx,yYx]at this
   exact this
  have hp:(whL 0 (B.set k (xS L id q).1)).Perm (whL 0 B):=by
   refine(hr _).trans ?_
   rw[hm _ _ e1]
   exact hL0.symm
  rw[e2,hh,yWm rfl]
  exact h.set hb hk (h.wh.trans hp.symm) ((hp.map (·.1)).nodup_iff.2 h.ids)
 ·rw[e2,yWl (by decide)]
  have hrest:∀x∈rest,x.1≠id:=by
   intro x hx e
   have hnd:=(hL0.map (·.1)).nodup_iff.1 h.ids
   rw[yWw,yYx]at hnd
   have h1:id∈L.map ((·.1)∘fun o:zD=>(o.id,((0+k:Nat):Int))):=hasId_iff.1 hh
   exact(yYq.1 hnd).2.2 id h1 x.1 (yXh (f:=(·.1)) hx) e.symm
  have hp:(whL 0 (B.set k (xS L id q).1)).Perm ((whL 0 B).filter fun x=> !decide (x.1=id)):=by
   refine(hr _).trans (.trans ?_ (hL0.filter _).symm)
   rw[e1,y0i,List.filter_map]
   have:rest.filter (fun x=> !decide (x.1=id))=rest:=by
    rw[y0p]
    intro x hx
    simp[hrest x hx]
   rw[this]
   exact .refl _
  refine h.set hb hk ?_ ((hp.map (·.1)).nodup_iff.2 (h.ids.sublist (List.Sublist.map _ yZv)))
  rw[z3u h.keys]
  exact(h.wh.filter _).trans hp.symm
def zCx (p:Prd) (B:List (List zD)) (inst id:Int) (s price q:Int):List (List zD)×Int:=
 if inst<0∨B.length≤inst then(B,20)else if(fF B id).isSome=true then(B,25)else if 250≤(whL 0 B).length then(B,13)else if p.price inst price≠0 then(B,p.price inst price)
 else(B.set inst.toNat (rM (B.getD inst.toNat []) s id price q).1,(rM (B.getD inst.toNat []) s id price q).2)
theorem zBw (L:List zD) (s id p q:Int):((zEp L s id p q).map (·.id)).Perm (id::L.map (·.id)):=by
 have:∀X:List zD,((X.takeWhile (before s p)++⟨id,s,p,q,uX L s p⟩::X.dropWhile (before s p)).map (·.id)).Perm (id::X.map (·.id)):=by
  intro X
  conv=>rhs;rw[← y1g (p:=before s p) (l:=X)]
  rw[yWw,yWu,yWw]
  exact yXb
 rw[zEp]
 split
 ·refine(this _).trans ?_
  rw[z4k]
 ·exact this _
theorem MSt.Rep.add {s:MSt} {p:Prd} {B:List (List zD)} (h:s.Rep p B) (inst id:Int) (sd:Bool) (price q:Int):
 (MSt.addF ⟨s,inst,id,sd,price,q⟩).1.Rep p (zCx p B inst id (zB sd) price q).1∧(MSt.addF ⟨s,inst,id,sd,price,q⟩).2=(zCx p B inst id (zB sd) price q).2:=by
 have hsd:zB sd=1∨zB sd=2:=by cases sd;exact .inl rfl;exact .inr rfl
 rw[MSt.addF,zCx]
 dsimp only
 rw[h.bl,h.at_,h.wh.length_eq,show s.p.price inst price=p.price inst price by rw[h.ep],Option.isSome_map]
 by_cases c1:inst<0∨(B.length:Int)≤inst
 ·rw[yWm c1,yWm c1];exact⟨h,rfl⟩
 rw[yWl c1,yWl c1]
 by_cases c2:(fF B id).isSome=true
 ·rw[yWm c2,yWm c2];exact⟨h,rfl⟩
 rw[yWl c2,yWl c2]
 by_cases c3:250≤(whL 0 B).length
 ·rw[yWm c3,yWm c3];exact⟨h,rfl⟩
 rw[yWl c3,yWl c3]
 by_cases c4:p.price inst price≠0
 ·rw[yWm c4,yWm c4];exact⟨h,rfl⟩
 rw[yWl c4,yWl c4]
 obtain⟨k,hk⟩:∃k:Nat,inst=k:=⟨inst.toNat,by omega⟩
 subst hk
 rw[yXc]
 have hkl:k<B.length:=by omega
 obtain⟨b,hb⟩:=yA (l:=s.books) (i:=k) (by rw[h.bl];exact hkl)
 obtain⟨L,hL⟩:=yA (l:=B) (i:=k) hkl
 have hba:s.bookAt k=b:=by rw[MSt.bookAt,yXc];exact zK hb
 rw[hba,zK hL]
 obtain⟨r1,r2⟩:=(h.bk k b L hb hL).add hsd id price q
 refine⟨?_,r2⟩
 rw[r2]
 obtain⟨rest,hr⟩:=zHt (B:=B) 0 k hkl
 have hL0:=hr L
 rw[jC hL]at hL0
 have hcase:(rM L (zB sd) id price q).2≠0∧(rM L (zB sd) id price q).1=L∨(rM L (zB sd) id price q).2=0∧(rM L (zB sd) id price q).1=zEp L (zB sd) id price q:=by
  rw[rM]
  repeat' split
  ·exact .inl ⟨by simp,rfl⟩
  ·exact .inl ⟨by simp,rfl⟩
  ·exact .inl ⟨by simp,rfl⟩
  ·exact .inr ⟨rfl,rfl⟩
 rcases hcase with⟨e1,e2⟩|⟨e1,e2⟩
 ·rw[yWl e1]
  refine h.set r1 hkl ?_ ?_
  ·rw[e2,jC hL];exact h.wh
  ·rw[e2,jC hL];exact h.ids
 ·rw[yWm e1]
  have hnk:id∉s.wh.map (·.1):=by
   intro hm
   obtain⟨x,hx,rfl⟩:=yXl.1 hm
   have:=zRa h.keys hx
   rw[h.at_]at this
   cases hq:fF B x.1 with
   |none=>rw[hq]at this;cases this
   |some j=>rw[hq]at c2;exact c2 rfl
  have hp:(whL 0 (B.set k (rM L (zB sd) id price q).1)).Perm ((id,(k:Int))::whL 0 B):=by
   refine(hr _).trans (.trans ?_ (hL0.symm.cons _))
   rw[e2,← yXx]
   refine List.Perm.append_right _ ?_
   have:=(zBw L (zB sd) id price q).map fun i:Int=>(i,(k:Int))
   rw[yYx,yWu,yYx]at this
   rw[yXq]
   exact this
  refine h.set r1 hkl ?_ ((hp.map (·.1)).nodup_iff.2 (yYl.2 ⟨?_,h.ids⟩))
  ·rw[zWf hnk]
   exact(y0v _ _).trans ((h.wh.cons _).trans hp.symm)
  ·rw[← (h.wh.map (·.1)).mem_iff];exact hnk
theorem zQv:∀(n k:Nat),whL k (List.replicate n [])=[]
 |0,_=>rfl
 |n+1,k=>by rw[y0o,whL,zQv];rfl
theorem z0p (p:Prd):(cD p).Rep p (List.replicate p.count []):=by
 refine⟨rfl,by simp[cD],fun k b L h1 h2=> ?_,?_,?_⟩
 ·have e1:b=book0:=yZr (yWv (show(List.replicate p.count book0)[k]? =some b from h1))
  have e2:L=[]:=yZr (yWv h2)
  rw[e1,e2];exact z8g
 ·rw[zQv];exact .refl _
 ·rw[zQv];exact List.nodup_nil
open Go Cv Go.Proofs
@[reducible] def yFb (s:MSt):List AObj:=[xR s 0,xR s 1,xR s 2,xR s 3,xR s 4]
def topsOC:Con:=con1 MSt (fun _=>[.nm 0 0]) (fun s=>yFb s) MSt.cntOk (fun s=> .own 5) (fun s=>yFb s++[.own 269 6 (s.tops.map z7)])
structure StI where
 s:MSt
 p:Prd
 B:List (List zD)
 id:Int
 q:Int
def stakeC:Con where
 ι:=StI
 pat:=fun i=>[.nm 0 0,zA i.id,zA i.q]
 pre:=fun i=>[zE i.s]
 cnd:=fun i=>i.s.Rep i.p i.B∧i.B.length≤1000
 alts:=fun i=>[{o:=MSt,res:=fun _=>zA (yX i.B i.id i.q).2,post:=fun s=>[zE s],rel:=fun s=>s.Rep i.p (yX i.B i.id i.q).1}]
def zI (B:List (List zD)) (id:Int):Int×zD×Bool:=match fF B id with
 |none=>(0,yKc,false)
 |some k=>(k,fT (B.getD k []) id,true)
def sfindC:Con:=con1 StI (fun i=>[.nm 0 0,zA i.id]) (fun i=>[zE i.s]) (fun i=>i.s.Rep i.p i.B∧i.B.length≤1000) (fun i=> .tup [zA (zI i.B i.id).1,zQj (zI i.B i.id).2.1,yL (zI i.B i.id).2.2]) (fun i=>[zE i.s])
open Go Cv Go.Proofs
def pC (a:Nat×Top→Prop) (b:Nat×Top) (c:MSt) (d:Nat) (e:Book):Prop:=a b∧AObj.own 3 1 [[dI 1],[dI 2]]=AObj.own 3 1 [[dI 1],[dI 2]]∧xR c 0=xR c 0∧AObj.objs 184 Book 6 zS (c.books.set (↑d:Int).toNat e) none=xR c 1∧xR c 2=xR c 2∧xR c 3=xR c 3∧xR c 4=xR c 4
def zAb (a:MSt) (b:Nat×Top) (c:Nat×Top→Prop) (d:Nat) (e:Book):Prop:=∃(f:Nat×Top),List.map z7 (xX a f.fst f.snd)=List.map z7 (xX a b.fst b.snd)∧pC c f a d e
def yEg (s:MSt):Prop:=
 (eJ s)∧∃(a:Nat),(↑a:Int)=0∧List.map z7 (x5 s a)=List.replicate (↑s.books.length:Int).toNat [D.v (.bool false),D.v (.bool false),dI 0,dI 0,dI 0,dI 0]∧∃(b:Nat→Prop),∃(c:Nat→Nat),b a∧∀(d:Nat),b d→cnd (decide ((↑d:Int)<(↑s.books.length:Int))) ((0≤(↑d:Int)∧(↑d:Int)<(↑s.books.length:Int))∧(↑d:Int).toNat<s.books.length∧∃(e:Nat×Top),List.map z7 (xX s e.fst e.snd)=List.map z7 (x5 s d)∧∃(f:Nat×Top→Prop),(((0:Int)≤(0:Int)∧0<(↑(2:Nat):Int))∧∃(g:Int),zF [[dI 1],[dI 2]] (Int.toNat 0) 0 1=some [dI g]∧∃(h:Book),s.books[(↑d:Int).toNat]?=some h∧∃(j:BkS),zB j.side=g∧yB j.b=yB h∧(wR j)∧∀(k:Unit),True→∃(l:Book),yB j.b=yB l∧(↑d:Int).toNat=(↑d:Int).toNat∧(↑d:Int).toNat<s.books.length∧cnd (zT j).snd ((qS d s e)∧(qS d s e)∧(qS d s e)∧(↑d:Int).toNat<(uF s e).length∧(bF d s e)∧(bF d s e)∧(zT j).fst.qty=(zT j).fst.qty∧(zT j).fst.price=(zT j).fst.price∧(↑d:Int).toNat<(c9 s e d).length∧(eO d s e j)∧(zT j).fst.qty=(zT j).fst.qty∧(↑d:Int).toNat<(dC s e d j).length∧∃(m:Nat×Top),List.map z7 (xX s m.fst m.snd)=yE (dC s e d j) (↑d:Int).toNat ((0:Nat)+(4:Nat)+nat_lit 0*1) [dI (uL j)]∧pC f m s d l) (zAb s e f d l))∧∀(g:Nat×Top),f g→∃(h:Nat×Top),List.map z7 (xX s h.fst h.snd)=List.map z7 (xX s g.fst g.snd)∧∃(j:Nat×Top→Prop),((0≤IntKind.i64.wrap ((0:Int)+(1:Int))∧IntKind.i64.wrap ((0:Int)+(1:Int))<(↑(2:Nat):Int))∧∃(k:Int),zF [[dI 1],[dI 2]] (IntKind.i64.wrap ((0:Int)+(1:Int))).toNat 0 1=some [dI k]∧∃(l:Book),s.books[(↑d:Int).toNat]?=some l∧∃(m:BkS),zB m.side=k∧yB m.b=yB l∧(wR m)∧∀(n:Unit),True→∃(p:Book),yB m.b=yB p∧(↑d:Int).toNat=(↑d:Int).toNat∧(↑d:Int).toNat<s.books.length∧cnd (zT m).snd ((qS d s h)∧(qS d s h)∧(qS d s h)∧(↑d:Int).toNat<(uF s h).length∧(c8 d s h)∧(c8 d s h)∧(zT m).fst.qty=(zT m).fst.qty∧(zT m).fst.price=(zT m).fst.price∧(↑d:Int).toNat<(cX s h d).length∧(tF d s h m)∧(zT m).fst.qty=(zT m).fst.qty∧(↑d:Int).toNat<(dK s h d m).length∧∃(q:Nat×Top),List.map z7 (xX s q.fst q.snd)=yE (dK s h d m) (↑d:Int).toNat ((0:Nat)+(4:Nat)+(nat_lit 0+nat_lit 1) % ((2:Int) ^ IntKind.i64.bits).natAbs*1) [dI (uL m)]∧pC j q s d p) (zAb s h j d p))∧∀(k:Nat×Top),j k→∃(l:Nat),(↑l:Int)=IntKind.i64.wrap ((↑d:Int)+1)∧List.map z7 (x5 s l)=List.map z7 (xX s k.fst k.snd)∧b l∧c l<c d∧xR s 0=xR s 0∧xR s 1=xR s 1∧xR s 2=xR s 2∧xR s 3=xR s 3∧xR s 4=xR s 4) (∃(e:Unit),sb s.p.code=sb s.p.code∧s.p.tick=s.p.tick∧s.p.low=s.p.low∧s.p.high=s.p.high∧s.p.wide=s.p.wide∧s.p.rule=s.p.rule∧s.p.top=s.p.top∧s.p.least=s.p.least∧s.p.part=s.p.part∧AObj.objs 184 Book 6 zS s.books none=xR s 1∧yU s.wh=yU s.wh∧AObj.fro 1 (iE s.p.months)=xR s 3∧AObj.fro 1 (iE s.p.settle)=xR s 4∧List.map z7 s.tops=List.map z7 (x5 s d)∧True)
def zAa (a:MSt) (b:StI):Prop:=AObj.fro 1 (iE a.p.months)=AObj.fro 1 (iE b.s.p.months)∧AObj.fro 1 (iE a.p.settle)=AObj.fro 1 (iE b.s.p.settle)∧a.Rep b.p (yX b.B b.id b.q).fst
def zAl (a:MSt) (b:StI):Prop:=yU a.wh=yU b.s.wh∧zAa a b
def rB (a:StI) (b:Int) (c:Bool):Prop:=qY (Value.int IntKind.i64 a.id) (yU a.s.wh)=some [dI b]∧c=true∨qY (Value.int IntKind.i64 a.id) (yU a.s.wh)=none∧[dI b]=[dI 0]∧c=false
def bP (a:StI):Prop:=∀(b:Value×List D),b∈yU a.s.wh→like (Value.int IntKind.i64 a.id) b.fst=true
def z9s (i:StI):Prop:=
 (bP i)∧∃(a:Bool),∃(b:Int),(rB i b a)∧cnd (!a) (∃(c:MSt),(yX i.B i.id i.q).snd=26∧sb c.p.code=sb i.s.p.code∧c.p.tick=i.s.p.tick∧c.p.low=i.s.p.low∧c.p.high=i.s.p.high∧c.p.wide=i.s.p.wide∧c.p.rule=i.s.p.rule∧c.p.top=i.s.p.top∧c.p.least=i.s.p.least∧c.p.part=i.s.p.part∧AObj.objs 184 Book 6 zS c.books none=AObj.objs 184 Book 6 zS i.s.books none∧zAl c i) ((0≤b∧b<(↑i.s.books.length:Int))∧b.toNat<i.s.books.length∧∃(c:Book),i.s.books[b.toNat]?=some c∧∃(d:FlI),d.id=i.id∧d.qty=i.q∧yB d.b=yB c∧d.b.Rep d.L∧∀(e:Book),e.Rep (xS d.L d.id d.qty).fst→∃(f:Book),yB e=yB f∧b.toNat=b.toNat∧b.toNat<i.s.books.length∧(0≤b∧b<(↑(i.s.books.set b.toNat f).length:Int))∧b.toNat<(i.s.books.set b.toNat f).length∧∃(g:Book),(i.s.books.set b.toNat f)[b.toNat]?=some g∧∃(h:FlI),h.id=i.id∧yB h.b=yB g∧h.b.Rep h.L∧∀(j:Unit),True→∃(k:Book),yB h.b=yB k∧b.toNat=b.toNat∧b.toNat<(i.s.books.set b.toNat f).length∧cnd (!kA h.L h.id) ((bP i)∧∃(l:MSt),(yX i.B i.id i.q).snd=(xS d.L d.id d.qty).snd∧sb l.p.code=sb i.s.p.code∧l.p.tick=i.s.p.tick∧l.p.low=i.s.p.low∧l.p.high=i.s.p.high∧l.p.wide=i.s.p.wide∧l.p.rule=i.s.p.rule∧l.p.top=i.s.p.top∧l.p.least=i.s.p.least∧l.p.part=i.s.p.part∧AObj.objs 184 Book 6 zS l.books none=AObj.objs 184 Book 6 zS ((i.s.books.set b.toNat f).set b.toNat k) none∧yU l.wh=eV (Value.int IntKind.i64 i.id) (yU i.s.wh)∧zAa l i) (∃(l:MSt),(yX i.B i.id i.q).snd=(xS d.L d.id d.qty).snd∧sb l.p.code=sb i.s.p.code∧l.p.tick=i.s.p.tick∧l.p.low=i.s.p.low∧l.p.high=i.s.p.high∧l.p.wide=i.s.p.wide∧l.p.rule=i.s.p.rule∧l.p.top=i.s.p.top∧l.p.least=i.s.p.least∧l.p.part=i.s.p.part∧AObj.objs 184 Book 6 zS l.books none=AObj.objs 184 Book 6 zS ((i.s.books.set b.toNat f).set b.toNat k) none∧zAl l i))
open Go Cv Go.Proofs
theorem yMz (s:MSt) (h:topsOC.cnd s):yEg s:=by
 obtain⟨h1,h2⟩:s.cntOk:=h
 unfold yEg uL qS wR eJ bF c8 eO dC c9 tF dK dJ zT cX uF zAb pC dI
 have p48:(2:Int) ^ (48:Nat)=281474976710656:=by decide
 refine⟨⟨by omega,by omega,by omega,by rw[p48];omega⟩,0,rfl,?_,fun j=>j≤s.books.length,fun j=>s.books.length-j,by omega,fun j hj=>zJ (fun hlt=> ?_) (fun hlt=> ?_)⟩
 ·rw[x5,yWw,List.map_replicate];rfl
 ·have hj':j<s.books.length:=by omega
  obtain⟨b,hb⟩:=yA hj'
  have hc:=h2 b (yWv hb)
  simp only[yXc]
  have ha:∀x,(List.map z7 (xX s j x)).length=s.books.length:=fun x=>by rw[yWo,zLg hj']
  have w1:IntKind.i64.wrap (0+1)=1:=by decide
  have w2:(0+1) % ((2:Int) ^ IntKind.i64.bits).natAbs=1:=by decide
  refine⟨⟨by omega,by omega⟩,by omega,(j,top0),by rw[zGw hj'],fun x=>x=(j,top0.buy (b.best b.buys)),⟨⟨by decide,by decide⟩,1,rfl,b,hb,⟨false,b⟩,rfl,rfl,hc,fun _ _=>⟨b,rfl,kp,by omega,?_⟩⟩,?_⟩
  ·refine Cv.cnd.mk (fun c=> ?_) (fun c=> ?_)
   ·have c:(b.best b.buys).2=true:=c
    have e1:=qU (s:=s) hj' (x:=top0) (y:={top0 with has1:=true}) (f:=0+0+0*1) (ds:=[D.v (.bool true)]) rfl
    have e2:=qU (s:=s) hj' (x:={top0 with has1:=true}) (y:={top0 with has1:=true,p1:=(b.best b.buys).1.price}) (f:=0+2+0*1) (ds:=[D.v (.int .i64 (b.best b.buys).1.price)]) rfl
    have e3:=qU (s:=s) hj' (x:={top0 with has1:=true,p1:=(b.best b.buys).1.price}) (y:={top0 with has1:=true,p1:=(b.best b.buys).1.price,q1:=(b.best b.buys).1.qty}) (f:=0+4+0*1) (ds:=[D.v (.int .i64 (b.best b.buys).1.qty)]) rfl
    dsimp only
    simp only[show b.side false=b.buys from rfl,e1,e2,e3,ha]
    (repeat'(first|exact rfl|exact trivial|assumption|apply And.intro|refine fun(_:Unit) (_:True)=>?_|refine Exists.intro () ?_|omega|(dsimp only;omega)))
    refine⟨(j,{top0 with has1:=true,p1:=(b.best b.buys).1.price,q1:=(b.best b.buys).1.qty}),rfl,?_,?_⟩
    ·rw[Top.buy,yWm c]
    ·(repeat'(first|exact rfl|exact trivial|assumption|apply And.intro|refine fun(_:Unit) (_:True)=>?_|refine Exists.intro () ?_|omega|(dsimp only;omega)))
     rw[fH hb];rfl
   ·have c:(b.best b.buys).2=false:=c
    refine⟨(j,top0),rfl,?_,?_⟩
    ·rw[Top.buy,yWl (by rw[c];simp)]
    ·(repeat'(first|exact rfl|exact trivial|assumption|apply And.intro|refine fun(_:Unit) (_:True)=>?_|refine Exists.intro () ?_|omega|(dsimp only;omega)))
     rw[fH hb];rfl
  ·rintro _ rfl
   rw[w1]
   generalize hx:top0.buy (b.best b.buys)=x
   have hx2:b.top=x.sell (b.best b.sells):=by rw[Book.top,hx]
   refine⟨(j,x),rfl,fun y=>y=(j,b.top),⟨⟨by decide,by decide⟩,2,rfl,b,hb,⟨true,b⟩,rfl,rfl,hc,fun _ _=>⟨b,rfl,kp,by omega,?_⟩⟩,?_⟩
   ·refine Cv.cnd.mk (fun c=> ?_) (fun c=> ?_)
    ·have c:(b.best b.sells).2=true:=c
     have e1:=qU (s:=s) hj' (x:=x) (y:={x with has2:=true}) (f:=0+0+1*1) (ds:=[D.v (.bool true)]) rfl
     have e2:=qU (s:=s) hj' (x:={x with has2:=true}) (y:={x with has2:=true,p2:=(b.best b.sells).1.price}) (f:=0+2+1*1) (ds:=[D.v (.int .i64 (b.best b.sells).1.price)]) rfl
     have e3:=qU (s:=s) hj' (x:={x with has2:=true,p2:=(b.best b.sells).1.price}) (y:={x with has2:=true,p2:=(b.best b.sells).1.price,q2:=(b.best b.sells).1.qty}) (f:=0+4+1*1) (ds:=[D.v (.int .i64 (b.best b.sells).1.qty)]) rfl
     dsimp only
     simp only[w2,show b.side true=b.sells from rfl,e1,e2,e3,ha]
     (repeat'(first|exact rfl|exact trivial|assumption|apply And.intro|refine fun(_:Unit) (_:True)=>?_|refine Exists.intro () ?_|omega|(dsimp only;omega)))
     refine⟨(j,{x with has2:=true,p2:=(b.best b.sells).1.price,q2:=(b.best b.sells).1.qty}),rfl,?_,?_⟩
     ·rw[hx2,Top.sell,yWm c]
     ·(repeat'(first|exact rfl|exact trivial|assumption|apply And.intro|refine fun(_:Unit) (_:True)=>?_|refine Exists.intro () ?_|omega|(dsimp only;omega)))
      rw[fH hb];rfl
    ·have c:(b.best b.sells).2=false:=c
     refine⟨(j,x),rfl,?_,?_⟩
     ·rw[hx2,Top.sell,yWl (by rw[c];simp)]
     ·(repeat'(first|exact rfl|exact trivial|assumption|apply And.intro|refine fun(_:Unit) (_:True)=>?_|refine Exists.intro () ?_|omega|(dsimp only;omega)))
      rw[fH hb];rfl
   ·rintro _ rfl
    refine⟨j+1,by rw[w64 (by omega)];rfl,?_⟩
    refine⟨by dsimp only;rw[zGh hb],?_⟩
    exact kp
 ·have hj:j≤s.books.length:=hj
  obtain rfl:j=s.books.length:=by omega
  have e:x5 s s.books.length=s.tops:=by
   rw[x5,y2c,List.replicate_zero,yXk,yXg (by rw[MSt.tops,yWo];omega)]
  rw[e]
  exact kp
theorem zWa:topsOC.ok Tryz.prog 115:=okw mixed (gokc zQt gok0) 0 (fun s=>ySu s) (fun s=>yRp s) [] Tryz.func115 yMz
theorem yMc (i:StI) (h:stakeC.cnd i):z9s i:=by
 obtain⟨hR,hB⟩:i.s.Rep i.p i.B∧i.B.length≤1000:=h
 have hat:=hR.at_ i.id
 unfold z9s bP rB zAl zAa dI
 cases hi:fF i.B i.id with
 |none=>
  rw[hi]at hat
  refine⟨dD _ _,false,0,.inr ⟨by rw[mA,hat];rfl,rfl,rfl⟩,Cv.cnd.mk (fun _=>⟨i.s,?_⟩) (fun e=>absurd e (by decide))⟩
  have ht:yX i.B i.id i.q=(i.B,26):=by rw[yX,hi]
  rw[ht]
  exact⟨rfl,rfl,rfl,rfl,rfl,rfl,rfl,rfl,rfl,rfl,rfl,rfl,rfl,rfl,hR⟩
 |some k=>
  rw[hi]at hat
  obtain⟨L,hL,hh⟩:=xO hi
  have hk:=(yWn.1 hL).1
  obtain⟨b,hb⟩:=yA (l:=i.s.books) (i:=k) (by rw[hR.bl];exact hk)
  have hbR:=hR.bk k b L hb hL
  have hbl:=hR.bl
  have hnd:=hbR.ords.2.1
  refine⟨dD _ _,true,k,.inl ⟨by rw[mA,hat];rfl,rfl⟩,Cv.cnd.mk (fun e=>absurd e (by decide)) (fun _=> ?_)⟩
  rw[yXc]
  refine⟨⟨by omega,by omega⟩,by omega,b,hb,⟨b,L,i.id,i.q⟩,rfl,rfl,rfl,hbR,fun b' hb'=> ?_⟩
  have hT:=hR.take (q:=i.q) hi hL hnd hb'
  have hk2:(yX i.B i.id i.q).2=(xS L i.id i.q).2:=by simp only[yX,hi,zK hL]
  refine⟨b',rfl,rfl,by omega,by rw[yXv];omega,by rw[yXv];omega,b',uY (by omega),⟨b',(xS L i.id i.q).1,i.id,0⟩,rfl,rfl,hb',fun _ _=>⟨b',rfl,rfl,by rw[yXv];omega,Cv.cnd.mk (fun e=>⟨dD _ _,?_⟩) (fun e=> ?_)⟩⟩
  ·have e:kA (xS L i.id i.q).1 i.id=false:=by simpa using e
   rw[e,yWl (by decide)]at hT
   refine⟨{i.s with books:=i.s.books.set k b',wh:=zZr i.id i.s.wh},hk2,rfl,rfl,rfl,rfl,rfl,rfl,rfl,rfl,rfl,?_,(zWq _ _).symm,rfl,rfl,hT⟩
   rw[y0t]
  ·have e:kA (xS L i.id i.q).1 i.id=true:=by simpa using e
   rw[e,yWm rfl]at hT
   refine⟨{i.s with books:=i.s.books.set k b',wh:=i.s.wh},hk2,rfl,rfl,rfl,rfl,rfl,rfl,rfl,rfl,rfl,?_,rfl,rfl,rfl,hT⟩
   rw[y0t]
theorem zBm:stakeC.ok Tryz.prog 113:=okw mixed (gokc yIh (gokc zXl gok0)) 0 (fun _=>[]) (fun _=>[]) [0] Tryz.func113 yMc
open Go Cv Go.Proofs
structure BOk (p:Prd) (B:List (List zD)):Prop where
 pc:p.check=0
 ps:p.small
 bl:B.length=p.count
 pr:∀(k:Nat) (L:List zD),B[k]? =some L→∀o∈L,p.price k o.price=0
def motherC:Con:=con1 Bool (fun b=>[zA (zB b)]) (fun _=>[]) (fun _=>True) (fun b=>zA (zB (!b))) (fun _=>[])
def cA (s:Bool) (p x:Int):Bool:=if s then decide (p≤x)else decide (x≤p)
structure GoI where
 s:Bool
 p:Int
 x:Int
def mgoodC:Con:=con1 GoI (fun i=>[zA (zB i.s),zA i.p,zA i.x]) (fun _=>[]) (fun _=>True) (fun i=>yL (cA i.s i.p i.x)) (fun _=>[])
def zW (p:Prd) (B:List (List zD)) (inst:Int) (s:Int):Quote×Bool×Bool:=
 let bq:=y9 (vD ⟨p,B.map u7,inst⟩ s) s
 let l:=bestL (B.getD inst.toNat []) s
 if(l.2 && !(bq.2 && btr s bq.1.price l.1.price))=true then(⟨l.1.price,l.1.qty,⟨0,0⟩,⟨0,0⟩⟩,false,true)else(bq.1,bq.2,bq.2)
structure NxI where
 s:MSt
 p:Prd
 B:List (List zD)
 inst:Int
 sd:Bool
def nextC:Con:=con1 NxI (fun i=>[.nm 0 0,zA i.inst,zA (zB i.sd)]) (fun i=>[zE i.s]) (fun i=>i.s.Rep i.p i.B∧BOk i.p i.B∧0≤i.inst∧i.inst<i.B.length)
 (fun i=> .tup [zYo (zW i.p i.B i.inst (zB i.sd)).1,yL (zW i.p i.B i.inst (zB i.sd)).2.1,yL (zW i.p i.B i.inst (zB i.sd)).2.2]) (fun i=>[zE i.s])
structure vL where
 id:Int
 inst:Int
 side:Int
 price:Int
 qty:Int
 left:Int
 deriving DecidableEq
def yT (f:vL):List D:=[.v (.int .i64 f.id),.v (.int .i64 f.inst),.v (.int .i64 f.side),.v (.int .i64 f.price),.v (.int .i64 f.qty),.v (.int .i64 f.left)]
def yI (inst s:Int):List zD→List Int→List vL
 |o::os,k::ks=>if 0<k then⟨o.id,inst,s,o.price,k,o.qty-k⟩::yI inst s os ks else yI inst s os ks
 |_,_=>[]
def y6 (B:List (List zD)) (fs:List vL):List (List zD):=fs.foldl (fun B f=>(yX B f.id f.qty).1) B
def zEg (B:List (List zD)) (inst s:Int):List zD:=atL (B.getD inst.toNat []) s (bestL (B.getD inst.toNat []) s).1.price
def y4 (p:Prd) (B:List (List zD)) (inst s q:Int):List vL:=yI inst s (zEg B inst s) (qF ⟨p,zEg B inst s,q⟩)
structure TrI where
 s:MSt
 p:Prd
 B:List (List zD)
 inst:Int
 sd:Bool
 q:Int
def TrI.os (i:TrI):List zD:=zEg i.B i.inst (zB i.sd)
def TrI.sh (i:TrI):List Int:=qF ⟨i.p,i.os,i.q⟩
def TrI.fs (i:TrI) (j:Nat):List vL:=yI i.inst (zB i.sd) (i.os.take j) (i.sh.take j)
def tradeC:Con where
 ι:=TrI
 pat:=fun i=>[.nm 0 0,.agg [zA i.inst,zA (zB i.sd)],zA i.q]
 pre:=fun i=>[zE i.s]
 cnd:=fun i=>i.s.Rep i.p i.B∧BOk i.p i.B∧0≤i.inst∧i.inst<i.B.length∧yV i.q
 alts:=fun i=>[{o:=MSt,res:=fun _=> .own 1,post:=fun s=>[zE s,.own 319 6 ((y4 i.p i.B i.inst (zB i.sd) i.q).map yT)],rel:=fun s=>s.Rep i.p (y6 i.B (y4 i.p i.B i.inst (zB i.sd) i.q))}]
def yNx (i:TrI):List SAnn:=[{ι:=Nat×MSt,slots:=fun j=>[(0,.nm 0 0),(11,.own 1),(44,zA j.1)],rows:=fun j=>[zE j.2,.own 319 6 ((i.fs j.1).map yT)]}]
open Go Cv Go.Proofs
def z3n (b:Bool):Prop:=
 ∃(a:Unit),(zB !b)=IntKind.i64.wrap (3-zB b)∧True
def yAf (i:GoI):Prop:=
 cnd (zB i.s==1) (cnd (decide (i.x≤i.p)) (∃(a:Unit),cA i.s i.p i.x=true∧True) (cnd (zB i.s==2) (∃(a:Unit),cA i.s i.p i.x=decide (i.x≥i.p)∧True) (∃(a:Unit),cA i.s i.p i.x=false∧True))) (cnd (zB i.s==2) (∃(a:Unit),cA i.s i.p i.x=decide (i.x≥i.p)∧True) (∃(a:Unit),cA i.s i.p i.x=false∧True))
def zFy (a:MSt) (b:NxI):Prop:=sb a.p.code=sb b.s.p.code∧True∧a.p.tick=b.s.p.tick∧a.p.low=b.s.p.low∧a.p.high=b.s.p.high∧a.p.wide=b.s.p.wide∧a.p.rule=b.s.p.rule∧a.p.top=b.s.p.top∧a.p.least=b.s.p.least∧a.p.part=b.s.p.part∧True∧True
def zY (a:NxI):=(zW a.p a.B a.inst (zB a.sd))
def zLd (a:NxI) (b:MSt) (c:Book):Prop:=sb a.s.p.code=sb b.p.code∧a.s.p.tick=b.p.tick∧a.s.p.low=b.p.low∧a.s.p.high=b.p.high∧a.s.p.wide=b.p.wide∧a.s.p.rule=b.p.rule∧a.s.p.top=b.p.top∧a.s.p.least=b.p.least∧a.s.p.part=b.p.part∧AObj.objs 184 Book 6 zS a.s.books none=AObj.objs 184 Book 6 zS (b.books.set a.inst.toNat c) none∧yU a.s.wh=yU b.wh∧AObj.fro 1 (iE a.s.p.months)=AObj.fro 1 (iE b.p.months)∧AObj.fro 1 (iE a.s.p.settle)=AObj.fro 1 (iE b.p.settle)∧True
def zKd (a:NxI) (b:BsI) (c:MSt) (d:Book):Prop:=∃(e:Unit),(zY a).fst.price=(y9 b.l b.s).fst.price∧(zY a).fst.qty=(y9 b.l b.s).fst.qty∧(zY a).fst.a.inst=(y9 b.l b.s).fst.a.inst∧(zY a).fst.a.side=(y9 b.l b.s).fst.a.side∧(zY a).fst.b.inst=(y9 b.l b.s).fst.b.inst∧(zY a).fst.b.side=(y9 b.l b.s).fst.b.side∧(zY a).snd.fst=(y9 b.l b.s).snd∧(zY a).snd.snd=(y9 b.l b.s).snd∧zLd a c d
def zLa (a:NxI) (b:BkS) (c:MSt) (d:Book):Prop:=∃(e:Unit),(zY a).fst.price=(zT b).fst.price∧(zY a).fst.qty=(zT b).fst.qty∧(zY a).fst.a.inst=0∧(zY a).fst.a.side=0∧(zY a).fst.b.inst=0∧(zY a).fst.b.side=0∧(zY a).snd.fst=false∧(zY a).snd.snd=true∧zLd a c d
def zHz (a:lG) (b:NxI) (c:MSt):Prop:=∃(d:BsI),List.map zL d.l=List.map zL (vD a.i (zB a.s))∧d.s=zB b.sd∧((d.s=1∨d.s=2)∧d.l.length≤1000000)∧∀(e:Unit),True→(0≤b.inst∧b.inst<(↑c.books.length:Int))∧b.inst.toNat<c.books.length∧∃(f:Book),c.books[b.inst.toNat]?=some f∧∃(g:BkS),zB g.side=zB b.sd∧yB g.b=yB f∧(wR g)∧∀(h:Unit),True→∃(j:Book),yB g.b=yB j∧b.inst.toNat=b.inst.toNat∧b.inst.toNat<c.books.length∧cnd (zT g).snd (cnd (y9 d.l d.s).snd (∃(k:I3'),k.side=zB b.sd∧k.x=(y9 d.l d.s).fst.price∧k.y=(zT g).fst.price∧True∧∀(l:Unit),True→cnd (!btr k.side k.x k.y) (zLa b g c j) (zKd b d c j)) (zLa b g c j)) (zKd b d c j)
def zSz (a:MSt) (b:NxI):Prop:=(zFy a b)∧∃(c:lG),sb c.i.p.code=sb b.s.p.code∧iE c.i.p.months=iE a.p.months∧c.i.p.tick=b.s.p.tick∧c.i.p.low=b.s.p.low∧c.i.p.high=b.s.p.high∧c.i.p.wide=b.s.p.wide∧c.i.p.rule=b.s.p.rule∧c.i.p.top=b.s.p.top∧c.i.p.least=b.s.p.least∧c.i.p.part=b.s.p.part∧iE c.i.p.settle=iE a.p.settle∧List.map z7 c.i.tops=List.map z7 a.tops∧c.i.inst=b.inst∧zB c.s=zB b.sd∧(vX c)∧∀(d:Unit),True→zHz c b a
def mW (a:MSt):Prop:=a.books.length≤1000000∧∀(b:Book),b∈a.books→∀(c:dW),c∈b.a.queues→(-9223372036854775808)≤c.count∧c.count≤9223372036854775807
def yLh (i:NxI):Prop:=
 (∃(a:MSt),sb a.p.code=sb i.s.p.code∧a.p.tick=i.s.p.tick∧a.p.low=i.s.p.low∧a.p.high=i.s.p.high∧a.p.wide=i.s.p.wide∧a.p.rule=i.s.p.rule∧a.p.top=i.s.p.top∧a.p.least=i.s.p.least∧a.p.part=i.s.p.part∧AObj.objs 184 Book 6 zS a.books none=AObj.objs 184 Book 6 zS i.s.books none∧yU a.wh=yU i.s.wh∧AObj.fro 1 (iE a.p.months)=AObj.fro 1 (iE i.s.p.months)∧AObj.fro 1 (iE a.p.settle)=AObj.fro 1 (iE i.s.p.settle)∧(mW a)∧∀(b:Unit),True→(zFy a i)∧(∃(c:lG),sb c.i.p.code=sb i.s.p.code∧iE c.i.p.months=iE a.p.months∧c.i.p.tick=i.s.p.tick∧c.i.p.low=i.s.p.low∧c.i.p.high=i.s.p.high∧c.i.p.wide=i.s.p.wide∧c.i.p.rule=i.s.p.rule∧c.i.p.top=i.s.p.top∧c.i.p.least=i.s.p.least∧c.i.p.part=i.s.p.part∧iE c.i.p.settle=iE a.p.settle∧List.map z7 c.i.tops=List.map z7 a.tops∧c.i.inst=i.inst∧zB c.s=zB i.sd∧(vX c)∧∀(d:Unit),True→(zHz c i a)∧zHz c i a)∧zSz a i)∧(sb i.s.p.code=sb i.s.p.code∧True∧i.s.p.tick=i.s.p.tick∧i.s.p.low=i.s.p.low∧i.s.p.high=i.s.p.high∧i.s.p.wide=i.s.p.wide∧i.s.p.rule=i.s.p.rule∧i.s.p.top=i.s.p.top∧i.s.p.least=i.s.p.least∧i.s.p.part=i.s.p.part∧True∧True)∧∃(a:MSt),sb a.p.code=sb i.s.p.code∧a.p.tick=i.s.p.tick∧a.p.low=i.s.p.low∧a.p.high=i.s.p.high∧a.p.wide=i.s.p.wide∧a.p.rule=i.s.p.rule∧a.p.top=i.s.p.top∧a.p.least=i.s.p.least∧a.p.part=i.s.p.part∧AObj.objs 184 Book 6 zS a.books none=AObj.objs 184 Book 6 zS i.s.books none∧yU a.wh=yU i.s.wh∧AObj.fro 1 (iE a.p.months)=AObj.fro 1 (iE i.s.p.months)∧AObj.fro 1 (iE a.p.settle)=AObj.fro 1 (iE i.s.p.settle)∧(mW a)∧∀(b:Unit),True→zSz a i
def aD (a:AtI):=(List.map wO (atL a.L (zB a.s) a.price))
def zEb (a:Nat×MSt→Prop) (b:Nat×MSt) (c:Nat×MSt→Nat) (d:Nat×MSt) (e:AlI) (f:AtI) (g:BkS) (h:TrI):Prop:=a b∧c b<c d∧AObj.own 2 1 (iE (qF e))=AObj.own 2 1 (iE (qF e))∧AObj.fro 5 (aD f)=AObj.fro 5 (aD f)∧Sx.AObj.cells [V.d (dI (dJ g)),V.d (dI (uL g)),V.d (dI ((zT g).fst.count))] 76=Sx.AObj.cells [V.d (dI (dJ g)),V.d (dI (uL g)),V.d (dI ((zT g).fst.count))] 76∧Sx.AObj.cells [V.d (dI h.inst),V.d (dI (zB h.sd))] 254=Sx.AObj.cells [V.d (dI h.inst),V.d (dI (zB h.sd))] 254∧AObj.fro 1 (iE h.s.p.months)=AObj.fro 1 (iE h.s.p.months)∧AObj.fro 1 (iE h.s.p.settle)=AObj.fro 1 (iE h.s.p.settle)
def gJ (a:TrI):=(y4 a.p a.B a.inst (zB a.sd) a.q)
def dE (a:TrI):=(y6 a.B (gJ a))
def yAb (i:TrI):Prop:=
 (0≤i.inst∧i.inst<(↑i.s.books.length:Int))∧i.inst.toNat<i.s.books.length∧∃(a:Book),i.s.books[i.inst.toNat]?=some a∧∃(b:BkS),zB b.side=zB i.sd∧yB b.b=yB a∧(wR b)∧∀(c:Unit),True→∃(d:Book),yB b.b=yB d∧i.inst.toNat=i.inst.toNat∧i.inst.toNat<i.s.books.length∧∃(e:Book),(i.s.books.set i.inst.toNat d)[i.inst.toNat]?=some e∧∃(f:AtI),zB f.s=zB i.sd∧f.price=(zT b).fst.price∧yB f.b=yB e∧f.b.Rep f.L∧∀(g:Unit),True→∃(h:Book),yB f.b=yB h∧i.inst.toNat=i.inst.toNat∧i.inst.toNat<(i.s.books.set i.inst.toNat d).length∧∃(j:AlI),sb j.p.code=sb i.s.p.code∧iE j.p.months=iE i.s.p.months∧j.p.tick=i.s.p.tick∧j.p.low=i.s.p.low∧j.p.high=i.s.p.high∧j.p.wide=i.s.p.wide∧j.p.rule=i.s.p.rule∧j.p.top=i.s.p.top∧j.p.least=i.s.p.least∧j.p.part=i.s.p.part∧iE j.p.settle=iE i.s.p.settle∧List.map wO j.l=List.map wO (atL f.L (zB f.s) f.price)∧j.q=i.q∧(j.l.length≤1000∧((-9223372036854775808)≤j.q∧j.q≤9223372036854775807)∧((-9223372036854775808)≤j.p.least∧j.p.least≤9223372036854775807)∧((-9223372036854775808)≤j.p.top∧j.p.top≤9223372036854775807)∧(-9223372036854775808)≤j.p.part∧j.p.part≤9223372036854775807)∧∀(k:Unit),True→∃(l:Nat×MSt),(↑l.fst:Int)=0∧sb l.snd.p.code=sb i.s.p.code∧l.snd.p.tick=i.s.p.tick∧l.snd.p.low=i.s.p.low∧l.snd.p.high=i.s.p.high∧l.snd.p.wide=i.s.p.wide∧l.snd.p.rule=i.s.p.rule∧l.snd.p.top=i.s.p.top∧l.snd.p.least=i.s.p.least∧l.snd.p.part=i.s.p.part∧AObj.objs 184 Book 6 zS l.snd.books none=AObj.objs 184 Book 6 zS ((i.s.books.set i.inst.toNat d).set i.inst.toNat h) none∧yU l.snd.wh=yU i.s.wh∧AObj.fro 1 (iE l.snd.p.months)=AObj.fro 1 (iE i.s.p.months)∧AObj.fro 1 (iE l.snd.p.settle)=AObj.fro 1 (iE i.s.p.settle)∧List.map yT (i.fs l.fst)=[]∧∃(m:Nat×MSt→Prop),∃(n:Nat×MSt→Nat),m l∧∀(p:Nat×MSt),m p→cnd (decide ((↑p.fst:Int)<(↑(iE (qF j)).length:Int))) ((0≤(↑p.fst:Int)∧(↑p.fst:Int)<(↑(iE (qF j)).length:Int))∧∃(q:Int),zF (iE (qF j)) (↑p.fst:Int).toNat 0 1=some [dI q]∧cnd (decide (q>0)) ((0≤(↑p.fst:Int)∧(↑p.fst:Int)<(↑(aD f).length:Int))∧∃(r:Int),∃(s:Int),∃(t:Int),∃(u:Int),∃(v:Bool),zF (aD f) (↑p.fst:Int).toNat 0 5=some [dI r,dI s,dI t,dI u,D.v (.bool v)]∧∃(w:StI),w.id=r∧w.q=q∧zE w.s=zE p.snd∧(w.s.Rep w.p w.B∧w.B.length≤1000)∧∀(x:MSt),x.Rep w.p (yX w.B w.id w.q).fst→((List.map yT (i.fs p.fst)).length+1)*(48:Nat)≤(70368744177664:Nat)∧∃(y:Nat×MSt),(↑y.fst:Int)=IntKind.i64.wrap ((↑p.fst:Int)+1)∧zE y.snd=zE x∧List.map yT (i.fs y.fst)=List.map yT (i.fs p.fst)++[[dI r,dI i.inst,dI (zB i.sd),dI t,dI q,dI (IntKind.i64.wrap (u-q))]]∧zEb m y n p j f b i) (∃(r:Nat×MSt),(↑r.fst:Int)=IntKind.i64.wrap ((↑p.fst:Int)+1)∧zE r.snd=zE p.snd∧List.map yT (i.fs r.fst)=List.map yT (i.fs p.fst)∧zEb m r n p j f b i)) (∃(q:MSt),zE q=zE p.snd∧List.map yT (gJ i)=List.map yT (i.fs p.fst)∧q.Rep i.p (dE i))
open Go Cv Go.Proofs
theorem zDk {p:Prd} (hc:p.check=0) {k v:Int} (h:p.price k v=0): -2000000≤v∧v≤2000000:=by
 have ok:=kP hc
 have:=ok.b1
 have:=ok.b2
 have:=ok.b3
 have:=ok.b4
 have:=ok.b5
 rw[Prd.price]at h
 by_cases c1:p.count=0
 ·rw[yWm c1]at h;cases h
 by_cases c2:k<0∨(p.count:Int)≤k
 ·rw[yWl c1,yWm c2]at h;cases h
 cases c3:qP p.tick v with
 |true=>rw[yWl c1,yWl c2,yWm c3]at h;cases h
 |false=>
  rw[yWl c1,yWl c2,yWl (by rw[c3];decide)]at h
  by_cases c4:(p.months.length:Int)≤k
  ·simp only[yWm c4]at h
   by_cases c5:v< -p.wide∨p.wide<v
   ·rw[yWm c5]at h;cases h
   ·omega
  ·simp only[yWl c4]at h
   by_cases c5:v<p.low∨p.high<v
   ·rw[yWm c5]at h;cases h
   ·omega
theorem tA {t:Int} (k:Int):qP t (t*k)=false:=by
 simp[qP,Int.mul_tmod_right]
theorem zTv (x:Prd):(yC x).small:=by
 have:=yEl x
 refine⟨by simp[yC],?_,?_⟩
 ·show(jI _).length≤_
  rw[rU];omega
 ·show(kD _ _).length≤_
  rw[aO];omega
theorem sM (x:Prd):(yC x).check=0:=by
 have ht:=zCo x
 have hn:=yEl x
 have hw:=yS (n:=x.wide) (lo:=0) (hi:=60) (by omega)
 have hr:=yS (n:=x.rule) (lo:=0) (hi:=2) (by omega)
 have ho:=yS (n:=x.top) (lo:=0) (hi:=9) (by omega)
 have hl:=yS (n:=x.least) (lo:=0) (hi:=4) (by omega)
 have hp:=yS (n:=x.part) (lo:=0) (hi:=100) (by omega)
 have h1:wB (yC x).code=true:=by show wB [206,169]=true;decide+kernel
 obtain⟨k,hk,hk1⟩:∃k:Nat,(kN x).toNat=k∧(2≤k∧k≤5):=⟨_,rfl,by omega⟩
 have h2:xI (yC x).months=true:=by
  show xI (jI (kN x).toNat)=true
  rw[hk]
  have:k=2∨k=3∨k=4∨k=5:=by omega
  rcases this with rfl|rfl|rfl|rfl<;>decide
 have h3:qJ (yC x)=true:=by
  have a:qP (zU x) (-20*zU x)=false:=by rw[y0s];exact tA _
  have b:qP (zU x) (100*zU x)=false:=by rw[y0s];exact tA _
  have c:(kD (zU x) (kN x).toNat).any (qP (zU x))=false:=by
   rw[y2n]
   intro y hy
   obtain⟨j,_,rfl⟩:=yXl.1 hy
   rw[tA];decide
  simp only[qJ,yC,a,b,c,tA,y1q,Bool.and_true,yWz]
  exact⟨yXf (by omega),yXf (by omega)⟩
 have mw:=sS (a:=zU x) (b:=5+zG x.wide 0 60) (m:=zU x) (n:=65) (by omega) (by omega)
 have h4:qK (yC x)=false:=by
  simp only[qK,yC,y0l]
  exact⟨⟨⟨⟨yWy (by omega),yWy (by omega)⟩,yWy (by omega)⟩,yWy (by omega)⟩,yWy (by omega)⟩
 have h5:xJ (yC x)=false:=by
  have e:(kD (zU x) (kN x).toNat).length=(jI (kN x).toNat).length:=by rw[aO,rU]
  have ne:kD (zU x) (kN x).toNat≠[]:=by
   intro hc
   have:=aO (zU x) (kN x).toNat
   rw[hc]at this
   simp at this
   omega
  have bd:∀y∈kD (zU x) (kN x).toNat,0≤y∧y≤zU x*15:=by
   intro y hy
   obtain⟨j,hj,rfl⟩:=yXl.1 hy
   have:=yZg.1 hj
   exact sS (by omega) (by omega)
  have m1:=bd _ (zWl ne)
  have m2:=bd _ (zTr ne)
  simp only[xJ,yC,e,ne_eq,not_true_eq_false,decide_false,y2i,y0l]
  exact⟨yWy (by omega),yWy (by omega)⟩
 have h6:kF (yC x)=false:=by
  simp only[kF,yC,y0l]
  exact⟨yWy (by omega),yWy (by omega)⟩
 have h7:x3 (yC x)=false:=by
  simp only[x3,yC,y0l]
  exact⟨⟨⟨⟨⟨yWy (by omega),yWy (by omega)⟩,yWy (by omega)⟩,yWy (by omega)⟩,yWy (by omega)⟩,yWy (by omega)⟩
 rw[Prd.check,h1,h2,h3,h4,h5,h6,h7]
 rfl
open Go Cv Go.Proofs
structure zJv (qs sh:List Int) (q:Int):Prop where
 len:sh.length=qs.length
 bd:∀n,0≤sh.getD n 0∧sh.getD n 0≤qs.getD n 0
 sum:sh.sum=q
theorem zKy:∀{l:List Int},(∀x∈l,0≤x)→0≤l.sum
 |[],_=>y2l 0
 |a::l,h=>by
  have:=zKy (l:=l) fun x hx=>h x (yWr _ hx)
  have:=h a yWq
  rw[yXj];omega
theorem z3z:∀{z:List (Int×Int)},(∀y∈z,0≤y.2∧y.2≤y.1)→(z.map (·.2)).sum≤(z.map (·.1)).sum
 |[],_=>y2l 0
 |a::l,h=>by
  have:=z3z (z:=l) fun x hx=>h x (yWr _ hx)
  have:=h a yWq
  rw[yWu,yWu,yXj,yXj];omega
theorem sE:∀(l:List Int) (q:Int),(∀x∈l,0≤x)→0≤q→q≤l.sum→zJv l (uQ l q) q
 |[],q,_,h0,h1=>⟨rfl,fun n=>by simp[uQ],by simp at h1;simp[uQ];omega⟩
 |n::l,q,h,h0,h1=>by
  have hn:=h n yWq
  rw[yXj]at h1
  have:=zKy fun x hx=>h x (yWr _ hx)
  have ih:=sE l (q-min n q) (fun x hx=>h x (yWr _ hx)) (by omega) (by omega)
  refine⟨by rw[uQ,yXa,yXa,ih.len],fun k=> ?_,by rw[uQ,yXj,ih.sum];omega⟩
  cases k with
  |zero=>exact⟨by show 0≤min n q;omega,by show min n q≤n;omega⟩
  |succ k=>exact ih.bd k
theorem lB:∀(z:List (Int×Int)) (q:Int),(∀y∈z,0≤y.2∧y.2≤y.1)→0≤q→q≤(z.map (·.1)).sum-(z.map (·.2)).sum→(j9 z q).length=z.length∧(∀n,0≤(j9 z q).getD n 0∧(j9 z q).getD n 0≤(z.map (·.1)).getD n 0)∧(j9 z q).sum=(z.map (·.2)).sum+q
 |[],q,_,h0,h1=>⟨rfl,fun n=>by simp[j9],by simp at h1;simp[j9];omega⟩
 |(n,x)::r,q,h,h0,h1=>by
  have hn:=h (n,x) yWq
  simp only[yWu,yXj]at h1
  have:=z3z fun y hy=>h y (yWr _ hy)
  have ih:=lB r (q-min (n-x) q) (fun y hy=>h y (yWr _ hy)) (by omega) (by omega)
  refine⟨by rw[j9,yXa,yXa,ih.1],fun k=> ?_,by rw[j9,yXj,ih.2.2,yWu,yXj];omega⟩
  cases k with
  |zero=>exact⟨by show 0≤x+min (n-x) q;have:=hn.1;have:=hn.2;dsimp only at*;omega,by show x+min (n-x) q≤n;have:=hn.2;dsimp only at*;omega⟩
  |succ k=>exact ih.2.1 k
theorem z0i {l:List Int} {q:Int} (h1:l.length≤250) (h2:0≤q) (h3:∀x∈l,1≤x∧x≤1000000) (h4:q≤l.sum):yQ l q=true:=by
 rw[yQ,yXf h1,yXf h2,yXf h4]
 simp only[yZd,Bool.and_true,yZn,yWz,yXy]
 exact h3
theorem zSs {i:PlI} (h:yQ i.l i.q=true) (hl:1≤i.least):zJv i.l (kV i) i.q:=by
 obtain⟨r1,r2,r3,r4⟩:=jB h
 rw[kV,yWm ⟨h,hl⟩]
 by_cases hne:i.l.length=0
 ·have e:i.l=[]:=yXr hne
  have hq:i.q=0:=by rw[e]at r4;simp at r4;omega
  have e0:i.p1=[]:=by rw[PlI.p1,e];rfl
  rw[e0,e,hq]
  exact⟨rfl,fun n=>by simp,rfl⟩
 ·obtain⟨_,_,f1,f2⟩:=zCq h (by omega)
  have hpl:=z0m i
  have m1:(i.l.zip i.p0).map (·.1)=i.l:=List.map_fst_zip (by omega)
  have m2:(i.l.zip i.p0).map (·.2)=i.p0:=List.map_snd_zip (by omega)
  have hp:=lB (i.l.zip i.p0) (i.q-i.p0.sum) (fun y hy=>by
   obtain⟨j,hj⟩:=yYi.1 hy
   rw[y1e]at hj
   exact f1 j _ _ hj.1 hj.2) (by omega) (by rw[m1,m2];omega)
  rw[m1,m2]at hp
  refine⟨?_,hp.2.1,?_⟩
  ·rw[PlI.p1,hp.1,List.length_zip,hpl,Nat.min_self]
  ·rw[PlI.p1,hp.2.2];omega
theorem zRo:∀{l:List Int} {k:Nat} {x:Int},k<l.length→(l.set k x).sum=l.sum+(x-l.getD k 0)
 |[],k,x,h=>absurd h (by simp)
 |a::l,0,x,_=>by
  show x+l.sum=a+l.sum+(x-a);omega
 |a::l,k+1,x,h=>by
  have:=zRo (l:=l) (k:=k) (x:=x) (by simpa using h)
  show a+(l.set k x).sum=a+l.sum+(x-l.getD k 0)
  omega
theorem zKz {l:List Int} {k n:Nat} {x:Int} (h:k<l.length):(l.set k x).getD n 0=if n=k then x else l.getD n 0:=by
 rw[yWt,y1z]
 by_cases e:k=n
 ·subst e;rw[yWm rfl,yWm h,yWm rfl];rfl
 ·rw[yWl e,yWl (fun e2=>e e2.symm),yWt]
theorem zUf {l:List Int}:∀(z:List (Nat×Int)) (o:List Int),(z.map (·.1)).Nodup→(∀y∈z,y.1<o.length∧0≤y.2∧o.getD y.1 0+y.2≤l.getD y.1 0)→(∀n,0≤o.getD n 0∧o.getD n 0≤l.getD n 0∧l.getD n 0≤1000000)→
 (z.foldl (fun o y=>o.set y.1 (IntKind.i64.wrap (o.getD y.1 0+y.2))) o).length=o.length∧(z.foldl (fun o y=>o.set y.1 (IntKind.i64.wrap (o.getD y.1 0+y.2))) o).sum=o.sum+(z.map (·.2)).sum∧∀n,0≤(z.foldl (fun o y=>o.set y.1 (IntKind.i64.wrap (o.getD y.1 0+y.2))) o).getD n 0∧(z.foldl (fun o y=>o.set y.1 (IntKind.i64.wrap (o.getD y.1 0+y.2))) o).getD n 0≤l.getD n 0
 |[],o,_,_,h=>⟨rfl,by simp,fun n=>⟨(h n).1,(h n).2.1⟩⟩
 |y::z,o,hn,hz,h=>by
  obtain⟨h1,h2,h3⟩:=hz y yWq
  rw[yWu,yYl]at hn
  have hw:IntKind.i64.wrap (o.getD y.1 0+y.2)=o.getD y.1 0+y.2:=by
   have:=h y.1
   exact w64 (by omega)
  rw[y0n,hw]
  have ih:=zUf (l:=l) z (o.set y.1 (o.getD y.1 0+y.2)) hn.2 (fun x hx=>by
   obtain⟨g1,g2,g3⟩:=hz x (yWr _ hx)
   have hne:x.1≠y.1:=fun e=>hn.1 (e▸yXh (f:=(·.1)) hx)
   rw[yXv,zKz h1,yWl hne]
   exact⟨g1,g2,g3⟩) (fun n=>by
   rw[zKz h1]
   split
   ·rename_i e
    rw[e]
    exact⟨by have:=h y.1;omega,h3,(h y.1).2.2⟩
   ·exact h n)
  refine⟨by rw[ih.1,yXv],?_,ih.2.2⟩
  rw[ih.2.1,zRo h1,yWu,yXj];omega
theorem zKe (l:List Int):(List.range l.length).map (fun n=>l.getD n 0)=l:=by
 apply y1l
 intro n
 rw[yYj]
 by_cases h:n<l.length
 ·rw[y1o h,yXw h,yYo,yWt,yXw h];rfl
 ·rw[yXm (by simpa using h),yXm (by omega)];rfl
theorem z2k {f g:Nat→Int}:∀l:List Nat,(l.map fun n=>f n-g n).sum=(l.map f).sum-(l.map g).sum
 |[]=>rfl
 |a::l=>by rw[yWu,yWu,yWu,yXj,yXj,yXj,z2k l];omega
theorem zLv {f:Nat→Int} {p:Nat→Bool}:∀{l:List Nat},(∀n∈l,p n=false→f n=0)→((l.filter p).map f).sum=(l.map f).sum
 |[],_=>rfl
 |a::l,h=>by
  have ih:=zLv (l:=l) fun n hn=>h n (yWr _ hn)
  rw[yWu,yXj]
  by_cases e:p a=true
  ·rw[yZs e,yWu,yXj,ih]
  ·rw[yZt e,ih,h a yWq (by simpa using e)];omega
theorem sX {i:RsI} (hl:i.l.length≤250) (ho:i.out.length=i.l.length) (hn:∀n,0≤i.out.getD n 0∧i.out.getD n 0≤i.l.getD n 0∧i.l.getD n 0≤1000000) (hq:0≤i.q∧i.q≤i.l.sum-i.out.sum) (hle:1≤i.least):
 zJv i.l (mK i) (i.out.sum+i.q):=by
 have hidx:(i.idx i.l.length).length≤250:=yYw (yZy _ _) (by simpa using hl)
 have hmem:∀n∈i.idx i.l.length,n<i.l.length∧i.out.getD n 0<i.l.getD n 0:=by
  intro n hn
  obtain⟨a,b⟩:=yXt.1 hn
  exact⟨yZg.1 a,yZh b⟩
 have hls:(i.left i.l.length).sum=i.l.sum-i.out.sum:=by
  rw[RsI.left,RsI.idx,zLv,z2k,zKe]
  ·rw[← ho,zKe]
  ·intro n _ e
   have:=y0a e
   have:=hn n
   omega
 have hr:yQ (i.left i.l.length) i.q=true:=by
  refine z0i (by rw[RsI.left,yWo];exact hidx) hq.1 (fun x hx=> ?_) (by omega)
  obtain⟨n,hm,rfl⟩:=yXl.1 hx
  have:=hmem n hm
  have:=hn n
  omega
 have hp:=zSs (i:=⟨i.left i.l.length,i.least,i.q⟩) hr hle
 have hpl:i.pl.length=(i.idx i.l.length).length:=by
  have:=hp.len
  rw[RsI.pl,this,RsI.left,yWo]
 have hnd:(i.idx i.l.length).Nodup:=List.nodup_range.sublist yZv
 have z1:((i.idx i.l.length).zip i.pl).map (·.1)=i.idx i.l.length:=List.map_fst_zip (by omega)
 have z2:((i.idx i.l.length).zip i.pl).map (·.2)=i.pl:=List.map_snd_zip (by omega)
 have hf:=zUf (l:=i.l) ((i.idx i.l.length).zip i.pl) i.out (by rw[z1];exact hnd) (fun y hy=>by
  obtain⟨j,hj⟩:=yYi.1 hy
  rw[y1e]at hj
  have hm:=hmem y.1 (yWv hj.1)
  have hb:=hp.bd j
  have e1:(kV ⟨i.left i.l.length,i.least,i.q⟩).getD j 0=y.2:=by
   rw[yWt]
   have:(kV ⟨i.left i.l.length,i.least,i.q⟩)[j]? =some y.2:=hj.2
   rw[this];rfl
  have e2:(i.left i.l.length).getD j 0=i.l.getD y.1 0-i.out.getD y.1 0:=by
   rw[yWt,RsI.left,yYj,hj.1];rfl
  dsimp only at hb
  rw[e1,e2]at hb
  exact⟨by omega,hb.1,by omega⟩) hn
 have hall:mK i=((i.idx i.l.length).zip i.pl).foldl (fun o y=>o.set y.1 (IntKind.i64.wrap (o.getD y.1 0+y.2))) i.out:=by
  rw[mK,RsI.add,yXg (by rw[List.length_zip];omega)]
 rw[hall]
 refine⟨by rw[hf.1,ho],hf.2.2,?_⟩
 rw[hf.2.1,z2]
 have:=hp.sum
 rw[RsI.pl,this]
theorem z2f {l:List Int} (h:∀x∈l,1≤x∧x≤1000000) (n:Nat):0≤l.getD n 0∧l.getD n 0≤1000000:=by
 by_cases hn:n<l.length
 ·obtain⟨x,hx⟩:=yA hn
  have:=h x (yWv hx)
  rw[zK hx];omega
 ·rw[yWt,yXm (by omega)];decide
theorem yNg (n k:Nat):(List.replicate n (0:Int)).getD k 0=0:=by
 rw[yWt,List.getElem?_replicate]
 split<;>rfl
theorem zMa (n:Nat):(List.replicate n (0:Int)).sum=0:=by
 induction n with
 |zero=>rfl
 |succ n ih=>rw[y0o,yXj,ih];rfl
theorem yLz {q part:Int} (hq:0≤q) (h0:0≤part) (h1:part≤100):0≤q*part / 100∧q*part / 100≤q:=by
 have h2:0≤q*part:=y2p hq h0
 have h3:q*part≤q*100:=y1m h1 hq
 constructor<;>omega
theorem zDj {p:Prd} (hc:p.check=0) {l:List zD} {q:Int} (hr:yQ (l.map (·.qty)) q=true):zJv (l.map (·.qty)) (qF ⟨p,l,q⟩) q:=by
 have ok:=kP hc
 obtain⟨r1,r2,r3,r4⟩:=jB hr
 have q1:=ok.q1
 have q3:=ok.q3
 have q5:=ok.q5
 have q6:=ok.q6
 have r5:=ok.r1
 have r6:=ok.r2
 have gb:=z2f r3
 have eqs:(AlI.qs ⟨p,l,q⟩)=l.map (·.qty):=rfl
 rw[qF]
 simp only[eqs]
 generalize l.map (·.qty)=qs at*
 by_cases c1:p.rule=1
 ·rw[yWm c1,gB,yWm hr]
  exact sE _ _ (fun x hx=>by have:=r3 x hx;omega) r2 r4
 by_cases c2:p.rule=2
 ·rw[yWl c1,yWm c2,zCt,yWm ⟨hr,q3,q1⟩]
  rw[PsI.rs]
  dsimp only
  split
  ·rename_i ht
   have hk:(topI l).toNat<(List.replicate qs.length (0:Int)).length:=by simp;omega
   have hf:0≤PsI.first ⟨qs,topI l,p.top,p.least,q⟩∧PsI.first ⟨qs,topI l,p.top,p.least,q⟩≤qs.getD (topI l).toNat 0∧PsI.first ⟨qs,topI l,p.top,p.least,q⟩≤q:=by
    have:=gb (topI l).toNat
    simp only[PsI.first]
    omega
   have hs:((List.replicate qs.length (0:Int)).set (topI l).toNat (PsI.first ⟨qs,topI l,p.top,p.least,q⟩)).sum=PsI.first ⟨qs,topI l,p.top,p.least,q⟩:=by
    rw[zRo hk,zMa,yNg];omega
   have:=sX (i:=⟨qs,(List.replicate qs.length 0).set (topI l).toNat (PsI.first ⟨qs,topI l,p.top,p.least,q⟩),p.least,q-PsI.first ⟨qs,topI l,p.top,p.least,q⟩⟩) r1 (by simp) (fun n=>by
    dsimp only
    rw[zKz hk,yNg]
    have:=gb n
    split
    ·rename_i e;rw[e];exact⟨hf.1,hf.2.1,(gb _).2⟩
    ·omega) (by dsimp only;rw[hs];omega) q3
   dsimp only at this
   rw[hs]at this
   have e:PsI.first ⟨qs,topI l,p.top,p.least,q⟩+(q-PsI.first ⟨qs,topI l,p.top,p.least,q⟩)=q:=by omega
   rw[e]at this
   exact this
  ·have:=sX (i:=⟨qs,List.replicate qs.length 0,p.least,q⟩) r1 (by simp) (fun n=>by
    dsimp only
    rw[yNg]
    have:=gb n
    omega) (by dsimp only;rw[zMa];omega) q3
   dsimp only at this
   rw[zMa,Int.zero_add]at this
   exact this
 ·have c3:p.rule=3:=by omega
  rw[yWl c1,yWl c2,yWm c3,zAy,yWm ⟨hr,q5,q6,q3⟩]
  rw[SpI.rs]
  dsimp only
  obtain⟨d1,d2⟩:=yLz r2 q5 q6
  have hr2:yQ qs (q*p.part / 100)=true:=z0i r1 d1 r3 (by omega)
  have hfs:=sE qs (q*p.part / 100) (fun x hx=>by have:=r3 x hx;omega) d1 (by omega)
  have e0:gB qs (q*p.part / 100)=uQ qs (q*p.part / 100):=by rw[gB,yWm hr2]
  have:=sX (i:=⟨qs,gB qs (q*p.part / 100),p.least,q-q*p.part / 100⟩) r1 (by dsimp only;rw[e0];exact hfs.len) (fun n=>by
   dsimp only
   rw[e0]
   exact⟨(hfs.bd n).1,(hfs.bd n).2,(gb n).2⟩) (by dsimp only;rw[e0,hfs.sum];omega) q3
  dsimp only at this
  rw[e0,hfs.sum]at this
  rw[e0]
  have e:q*p.part / 100+(q-q*p.part / 100)=q:=by omega
  rw[e]at this
  exact this
theorem zXw {p:Prd} {l:List zD} {q:Int} (hr:yQ (l.map (·.qty)) q=false):qF ⟨p,l,q⟩=[]:=by
 have eqs:(AlI.qs ⟨p,l,q⟩)=l.map (·.qty):=rfl
 rw[qF]
 simp only[eqs,gB,zCt,zAy,hr]
 simp
open Go Cv Go.Proofs
theorem zPe:motherC.ok Tryz.prog 153:=okw (V:=z3n) mixed gok0 0 (fun _=>[]) (fun _=>[]) [] Tryz.func153 fun(b:Bool) _=>by
 unfold z3n
 cases b<;>exact⟨(),by decide,trivial⟩
theorem zVb:mgoodC.ok Tryz.prog 154:=okw (V:=yAf) mixed gok0 0 (fun _=>[]) (fun _=>[]) [] Tryz.func154 fun(i:GoI) _=>by
 obtain⟨s,p,x⟩:=i
 unfold yAf
 cases s
 ·refine Cv.cnd.mk (fun _=>zJ (fun c=>⟨(),?_,trivial⟩) (fun c=>Cv.cnd.mk (fun e=>by simp[zB]at e) (fun _=>⟨(),?_,trivial⟩))) (fun e=>by simp[zB]at e)
  ·exact yXf c
  ·exact yWy c
 ·exact Cv.cnd.mk (fun e=>by simp[zB]at e) (fun _=>Cv.cnd.mk (fun _=>⟨(),rfl,trivial⟩) (fun e=>by simp[zB]at e))
theorem zVz {L:List zD} {s:Int}:((bestL L s).2=true∧∃o∈L,o.side=s∧o.price=(bestL L s).1.price)∨(bestL L s=(⟨0,0,0⟩,false)∧∀o∈L,o.side≠s):=by
 rw[bestL]
 cases hl:vA L s with
 |nil=>
  refine .inr ⟨rfl,fun o ho e=> ?_⟩
  rw[vA]at hl
  cases hf:L.filter fun o=>decide (o.side=s)with
  |nil=>
   rw[y1v]at hf
   have:=hf o ho
   simp[e]at this
  |cons x y=>
   rw[hf,grp]at hl
   split at hl
   ·cases hl
   ·split at hl<;>cases hl
 |cons v vs=>
  refine .inl ⟨rfl,?_⟩
  rw[vA]at hl
  obtain⟨o,r,e1,e2⟩:=zCk hl
  have:o∈L.filter fun o=>decide (o.side=s):=by rw[e1];exact yWq
  rw[yXt]at this
  exact⟨o,this.1,by simpa using this.2,e2⟩
theorem zSc {L:List zD} {s:Int} (h:∀o∈L,-2000000≤o.price∧o.price≤2000000): -2000000≤(bestL L s).1.price∧(bestL L s).1.price≤2000000:=by
 rcases zVz (L:=L) (s:=s)with⟨_,o,ho,_,e⟩|⟨e,_⟩
 ·rw[← e];exact h o ho
 ·rw[e];constructor<;>decide
theorem zRk (L:List zD):(u7 L).p1=(bestL L 1).1.price∧(u7 L).q1=(bestL L 1).1.qty∧(u7 L).has1=(bestL L 1).2∧(u7 L).p2=(bestL L 2).1.price∧(u7 L).q2=(bestL L 2).1.qty∧(u7 L).has2=(bestL L 2).2:=by
 have h:∀s,(bestL L s).2=true∨bestL L s=(⟨0,0,0⟩,false):=fun s=>by
  rcases zVz (L:=L) (s:=s)with⟨h,_⟩|⟨h,_⟩
  ·exact .inl h
  ·exact .inr h
 rw[u7,Top.sell,Top.buy]
 rcases h 1 with h1|h1<;>rcases h 2 with h2|h2<;>simp[h1,h2,top0]
theorem BOk.prices {p:Prd} {B:List (List zD)} (h:BOk p B) {k:Nat} {L:List zD} (hL:B[k]? =some L):∀o∈L,-2000000≤o.price∧o.price≤2000000:=fun o ho=>zDk h.pc (h.pr k L hL o ho)
theorem BOk.tops {p:Prd} {B:List (List zD)} (h:BOk p B):vP (B.map u7):=by
 have:=xV p
 refine⟨by rw[yWo,h.bl];omega,fun t ht=> ?_⟩
 obtain⟨L,hL,rfl⟩:=yXl.1 ht
 obtain⟨k,hk⟩:=yYi.1 hL
 have b1:=zSc (s:=1) (h.prices hk)
 have b2:=zSc (s:=2) (h.prices hk)
 rw[(zRk L).1,(zRk L).2.2.2.1]
 exact⟨by constructor<;>omega,by constructor<;>omega⟩
theorem MSt.Rep.tops {s:MSt} {p:Prd} {B:List (List zD)} (h:s.Rep p B):s.tops=B.map u7:=by
 rw[MSt.tops]
 apply y1l
 intro k
 rw[yYj,yYj]
 by_cases hk:k<B.length
 ·obtain⟨L,hL⟩:=yA hk
  obtain⟨b,hb⟩:=yA (l:=s.books) (i:=k) (by rw[h.bl];exact hk)
  rw[hL,hb,yYo,yYo,(h.bk k b L hb hL).top]
 ·rw[yXm (by rw[h.bl];omega),yXm (by omega)];rfl
theorem MSt.Rep.cnt {s:MSt} {p:Prd} {B:List (List zD)} (h:s.Rep p B) (hB:B.length≤1000000):s.cntOk:=by
 refine⟨by rw[h.bl];exact hB,fun b hb=> ?_⟩
 obtain⟨k,hk⟩:=yYi.1 hb
 have hlt:=(yWn.1 hk).1
 rw[h.bl]at hlt
 obtain⟨L,hL⟩:=yA hlt
 exact(h.bk k b L hk hL).cnt
theorem zUn {b:Book} {L:List zD} (h:b.Rep L) (sd:Bool):b.best (b.side sd)=bestL L (zB sd):=by
 obtain⟨Q,c,ht,rfl⟩:=h
 cases sd
 ·exact c.bestL (.inl rfl)
 ·exact c.bestL (.inr rfl)
theorem cN (sd:Bool):zB sd=1∨zB sd=2:=by cases sd;exact .inl rfl;exact .inr rfl
theorem yUj (i:NxI) (h:nextC.cnd i):yLh i:=by
 obtain⟨hR,hB,h0,h1⟩:i.s.Rep i.p i.B∧BOk i.p i.B∧0≤i.inst∧i.inst<i.B.length:=h
 have hcl:=xV i.p
 have hbl:=hB.bl
 have hsl:=hR.bl
 obtain⟨k,hk⟩:∃k:Nat,i.inst=k:=⟨i.inst.toNat,by omega⟩
 obtain⟨L,hL⟩:=yA (l:=i.B) (i:=k) (by omega)
 obtain⟨b,hb⟩:=yA (l:=i.s.books) (i:=k) (by omega)
 have hbR:=hR.bk k b L hb hL
 have hps:i.s.p.small:=by rw[hR.ep];exact hB.ps
 have hto:vP i.s.tops:=by rw[hR.tops];exact hB.tops
 have hnx:zW i.p i.B i.inst (zB i.sd)=if((bestL L (zB i.sd)).2 && !((y9 (vD ⟨i.s.p,i.s.tops,i.inst⟩ (zB i.sd)) (zB i.sd)).2 && btr (zB i.sd) (y9 (vD ⟨i.s.p,i.s.tops,i.inst⟩ (zB i.sd)) (zB i.sd)).1.price (bestL L (zB i.sd)).1.price))=true then(⟨(bestL L (zB i.sd)).1.price,(bestL L (zB i.sd)).1.qty,⟨0,0⟩,⟨0,0⟩⟩,false,true)else((y9 (vD ⟨i.s.p,i.s.tops,i.inst⟩ (zB i.sd)) (zB i.sd)).1,(y9 (vD ⟨i.s.p,i.s.tops,i.inst⟩ (zB i.sd)) (zB i.sd)).2,(y9 (vD ⟨i.s.p,i.s.tops,i.inst⟩ (zB i.sd)) (zB i.sd)).2):=by
  rw[zW,hR.tops,hR.ep,hk,yXc,zK hL]
 have hbest:=zUn hbR i.sd
 unfold yLh zSz vX fZ zHz wR zLa zT zKd zLd zY mW zFy
 have hcnt:i.s.cntOk:=hR.cnt (by omega)
 have hql:(vD ⟨i.s.p,i.s.tops,i.inst⟩ (zB i.sd)).length≤1000000:=by
  have:=yYw (yZy (fun q=>decide (i.s.p.price i.inst q.price=0)) _) (zLz ⟨i.s.p,i.s.tops,i.inst⟩ (zB i.sd))
  exact yYw this (by decide)
 refine(fun hT=>⟨⟨i.s,rfl,rfl,rfl,rfl,rfl,rfl,rfl,rfl,rfl,rfl,rfl,rfl,rfl,hcnt,fun _ _=>⟨⟨rfl,trivial,rfl,rfl,rfl,rfl,rfl,rfl,rfl,rfl,trivial,trivial⟩,⟨⟨⟨i.s.p,i.s.tops,i.inst⟩,i.sd⟩,rfl,rfl,rfl,rfl,rfl,rfl,rfl,rfl,rfl,rfl,rfl,rfl,rfl,rfl,⟨hps,hto⟩,fun _ _=>⟨hT,hT⟩⟩,⟨rfl,trivial,rfl,rfl,rfl,rfl,rfl,rfl,rfl,rfl,trivial,trivial⟩,⟨⟨⟨i.s.p,i.s.tops,i.inst⟩,i.sd⟩,rfl,rfl,rfl,rfl,rfl,rfl,rfl,rfl,rfl,rfl,rfl,rfl,rfl,rfl,⟨hps,hto⟩,fun _ _=>hT⟩⟩⟩,
  ⟨rfl,trivial,rfl,rfl,rfl,rfl,rfl,rfl,rfl,rfl,trivial,trivial⟩,⟨i.s,rfl,rfl,rfl,rfl,rfl,rfl,rfl,rfl,rfl,rfl,rfl,rfl,rfl,hcnt,fun _ _=>⟨⟨rfl,trivial,rfl,rfl,rfl,rfl,rfl,rfl,rfl,rfl,trivial,trivial⟩,⟨⟨⟨i.s.p,i.s.tops,i.inst⟩,i.sd⟩,rfl,rfl,rfl,rfl,rfl,rfl,rfl,rfl,rfl,rfl,rfl,rfl,rfl,rfl,⟨hps,hto⟩,fun _ _=>hT⟩⟩⟩⟩) ?_
 refine⟨⟨vD ⟨i.s.p,i.s.tops,i.inst⟩ (zB i.sd),zB i.sd⟩,rfl,rfl,⟨cN _,hql⟩,fun _ _=>⟨⟨h0,by omega⟩,by omega,b,by rw[hk];exact hb,⟨i.sd,b⟩,rfl,rfl,hbR.cnt,fun _ _=>⟨b,rfl,rfl,by omega,?_⟩⟩⟩
 dsimp only
 rw[hbest]
 generalize bestL L (zB i.sd)=l at*
 generalize y9 (vD ⟨i.s.p,i.s.tops,i.inst⟩ (zB i.sd)) (zB i.sd)=bq at*
 have hset:i.s.books.set i.inst.toNat b=i.s.books:=jC (by rw[hk];exact hb)
 rw[hset]
 refine Cv.cnd.mk (fun c1=>Cv.cnd.mk (fun c2=>⟨⟨zB i.sd,bq.1.price,l.1.price⟩,rfl,rfl,rfl,trivial,fun _ _=>Cv.cnd.mk (fun c3=> ?_) (fun c3=> ?_)⟩) (fun c2=> ?_)) (fun c1=> ?_)
 ·dsimp only at c3
  rw[yWm (by rw[c1,c2];simpa using c3)]at hnx
  rw[hnx];exact⟨(),by(repeat'(first|exact trivial|exact rfl|apply And.intro))⟩
 ·dsimp only at c3
  rw[yWl (by rw[c1,c2];simpa using c3)]at hnx
  rw[hnx];exact⟨(),by(repeat'(first|exact trivial|exact rfl|apply And.intro))⟩
 ·rw[yWm (by rw[c1,c2];rfl)]at hnx
  rw[hnx];exact⟨(),by(repeat'(first|exact trivial|exact rfl|apply And.intro))⟩
 ·rw[yWl (by rw[c1];simp)]at hnx
  rw[hnx];exact⟨(),by(repeat'(first|exact trivial|exact rfl|apply And.intro))⟩
theorem yKe:nextC.ok Tryz.prog 184:=okw mixed (gokc zWa (gokc z6b (gokc yBg (gokc zQt (gokc aC gok0))))) 0 (fun _=>[]) (fun _=>[]) [0] Tryz.func184 yUj
theorem z1n (i:RsI) (k:Nat):(i.add k).length=i.out.length:=by
 have:∀(l:List (Nat×Int)) (o:List Int),(l.foldl (fun o y=>o.set y.1 (IntKind.i64.wrap (o.getD y.1 0+y.2))) o).length=o.length:=by
  intro l
  induction l with
  |nil=>intro o;rfl
  |cons x l ih=>intro o;rw[y0n,ih,yXv]
 exact this _ _
theorem zVt (l:List Int) (q:Int):(gB l q).length≤l.length:=by
 rw[gB];split
 ·rw[sN];exact yXn _
 ·exact yYe _
theorem z6e (i:AlI):(qF i).length≤i.l.length:=by
 have hq:i.qs.length=i.l.length:=by simp[AlI.qs]
 rw[qF,← hq]
 repeat' split
 ·exact zVt _ _
 ·rw[zCt];split
  ·rw[mK,z1n,PsI.rs]
   split
   ·simp
   ·simp
  ·exact yYe _
 ·rw[zAy];split
  ·rw[mK,z1n];exact zVt _ _
  ·exact yYe _
 ·exact yYe _
theorem zJf {inst s:Int}:∀{os:List zD} {sh:List Int} {j:Nat} {o:zD} {k:Int},os[j]? =some o→sh[j]? =some k→yI inst s (os.take (j+1)) (sh.take (j+1))=yI inst s (os.take j) (sh.take j)++(if 0<k then[⟨o.id,inst,s,o.price,k,o.qty-k⟩]else[])
 |[],_,_,_,_,h,_=>by simp at h
 |_::_,[],_,_,_,_,h=>by simp at h
 |o::os,k::sh,0,_,_,h,h2=>by
  cases h;cases h2
  rw[yYb,yYb,y2o,y2o,y2o,y2o,yI]
  split<;>rfl
 |o::os,k::sh,j+1,o',k',h,h2=>by
  rw[yYb,yYb,yI,yYb,yYb,yI,zJf (os:=os) (sh:=sh) (j:=j) h h2]
  split<;>rfl
theorem zOv {inst s:Int}:∀(os:List zD) (sh:List Int),yI inst s (os.take sh.length) (sh.take sh.length)=yI inst s os sh
 |[],sh=>by simp
 |_::_,[]=>by simp[yI]
 |o::os,k::sh=>by
  rw[yXa,yYb,yYb,yI,yI,zOv os sh]
theorem zPn (B:List (List zD)) (a b:List vL):y6 B (a++b)=y6 (y6 B a) b:=y2m
theorem mN (B:List (List zD)) (id q:Int):(yX B id q).1.length=B.length:=by
 rw[yX];split
 ·rfl
 ·simp
theorem qI:∀(fs:List vL) (B:List (List zD)),(y6 B fs).length=B.length
 |[],B=>rfl
 |f::fs,B=>by
  show(y6 (yX B f.id f.qty).1 fs).length=_
  rw[qI fs,mN]
theorem yOx {p:Prd} (h:p.check=0):yV p.least∧yV p.top∧yV p.part:=by
 have ok:=kP h
 have:=ok.q1
 have:=ok.q2
 have:=ok.q3
 have:=ok.q4
 have:=ok.q5
 have:=ok.q6
 exact⟨⟨by omega,by omega⟩,⟨by omega,by omega⟩,⟨by omega,by omega⟩⟩
theorem yPu (i:TrI) (h:tradeC.cnd i):yAb i:=by
 obtain⟨hR,hB,h0,h1,hq⟩:i.s.Rep i.p i.B∧BOk i.p i.B∧0≤i.inst∧i.inst<i.B.length∧yV i.q:=h
 have hcl:=xV i.p
 have hbl:=hB.bl
 have hsl:=hR.bl
 have ep:=hR.ep
 obtain⟨k,hk⟩:∃k:Nat,i.inst=k:=⟨i.inst.toNat,by omega⟩
 obtain⟨L,hL⟩:=yA (l:=i.B) (i:=k) (by omega)
 obtain⟨b,hb⟩:=yA (l:=i.s.books) (i:=k) (by omega)
 have hbR:=hR.bk k b L hb hL
 have hbest:=zUn hbR i.sd
 have hos:atL L (zB i.sd) (bestL L (zB i.sd)).1.price=i.os:=by rw[TrI.os,zEg,hk,yXc,zK hL]
 have hset:i.s.books.set i.inst.toNat b=i.s.books:=jC (by rw[hk];exact hb)
 have hosl:i.os.length≤250:=by
  rw[← hos];exact yYw (yZy _ _) hbR.ords.2.2
 have hsh:i.sh.length≤i.os.length:=z6e _
 obtain⟨k1,k2,k3⟩:=yOx hB.pc
 have hsb:∀(j:Nat) (n:Int),i.sh[j]? =some n→n≤1000000:=by
  intro j n hn
  cases hr:yQ (i.os.map (·.qty)) i.q with
  |false=>
   have:i.sh=[]:=zXw hr
   rw[this]at hn;cases hn
  |true=>
   have:=(zDj hB.pc hr).bd j
   have e:(qF ⟨i.p,i.os,i.q⟩).getD j 0=n:=zK hn
   rw[e]at this
   have:=(z2f (jB hr).2.2.1 j).2
   omega
 unfold yAb zEb uL dJ aD dE gJ zT wR dI
 refine⟨⟨h0,by omega⟩,by omega,b,by rw[hk];exact hb,⟨i.sd,b⟩,rfl,rfl,hbR.cnt,fun _ _=> ?_⟩
 refine⟨b,rfl,rfl,by omega,b,by rw[hset,hk];exact hb,⟨b,L,i.sd,(bestL L (zB i.sd)).1.price⟩,rfl,by dsimp only;rw[hbest],rfl,hbR,fun _ _=> ?_⟩
 dsimp only
 try rw[hbest]
 rw[hset,hos]
 refine⟨b,rfl,rfl,by omega,⟨i.p,i.os,i.q⟩,by rw[ep],by rw[ep],by rw[ep],by rw[ep],by rw[ep],by rw[ep],by rw[ep],by rw[ep],by rw[ep],by rw[ep],by rw[ep],rfl,rfl,⟨by dsimp only;omega,hq,k1,k2,k3⟩,fun _ _=> ?_⟩
 have esh:qF ⟨i.p,i.os,i.q⟩=i.sh:=rfl
 rw[esh,hset,y5,yWo]
 refine⟨(0,i.s),rfl,rfl,rfl,rfl,rfl,rfl,rfl,rfl,rfl,rfl,rfl,rfl,rfl,rfl,rfl,fun j=>j.2.Rep i.p (y6 i.B (i.fs j.1))∧j.1≤i.sh.length,fun j=>i.sh.length-j.1,⟨hR,yYe _⟩,fun j hj=> ?_⟩
 obtain⟨hjR,hjl⟩:=hj
 obtain⟨j,sj⟩:=j
 dsimp only at hjR hjl ⊢
 refine zJ (fun c=> ?_) (fun c=> ?_)
 ·obtain⟨n,hn⟩:=yA (l:=i.sh) (i:=j) (by omega)
  obtain⟨o,ho⟩:=yA (l:=i.os) (i:=j) (by omega)
  have hst:=zJf (inst:=i.inst) (s:=zB i.sd) ho hn
  have hoL:o∈L:=by
   have:=yWv ho
   rw[← hos]at this
   exact(yXt.1 this).1
  have hoq:=(hbR.ords.1 o hoL).q
  have hnb:=hsb j n hn
  refine⟨⟨by omega,by omega⟩,n,elI hn,zJ (fun c2=> ?_) (fun c2=> ?_)⟩
  ·rw[yWm (show 0<n from c2)]at hst
   have hfl:(i.fs j).length≤j:=by
    have:∀(os:List zD) (sh:List Int),(yI i.inst (zB i.sd) os sh).length≤os.length:=by
     intro os
     induction os with
     |nil=>intro sh;exact yXn 0
     |cons o os ih=>
      intro sh
      cases sh with
      |nil=>exact yYe _
      |cons k sh=>
       have:=ih sh
       rw[yI]
       split
       ·simp only[yXa];omega
       ·simp only[yXa];omega
    exact yYw (this _ _) (by rw[yXi];omega)
   refine⟨⟨by omega,by omega⟩,o.id,o.side,o.price,o.qty,o.top,yMh ho,⟨sj,i.p,y6 i.B (i.fs j),o.id,n⟩,rfl,rfl,rfl,⟨hjR,by dsimp only;rw[qI];omega⟩,fun s' hs'=>⟨by rw[yWo];omega,(j+1,s'),wjn (by omega),rfl,?_,⟨?_,by dsimp only;omega⟩,by dsimp only;omega,by(repeat'(first|exact trivial|exact rfl|apply And.intro))⟩⟩
   ·show List.map yT (yI i.inst (zB i.sd) (i.os.take (j+1)) (i.sh.take (j+1)))=_
    rw[hst,yWw,w64 (by omega)];rfl
   ·show s'.Rep i.p (y6 i.B (yI i.inst (zB i.sd) (i.os.take (j+1)) (i.sh.take (j+1))))
    rw[hst,zPn];exact hs'
  ·rw[yWl (show ¬0<n from c2),yXk]at hst
   refine⟨(j+1,sj),wjn (by omega),rfl,?_,⟨?_,by dsimp only;omega⟩,by dsimp only;omega,by(repeat'(first|exact trivial|exact rfl|apply And.intro))⟩
   ·show List.map yT (yI i.inst (zB i.sd) (i.os.take (j+1)) (i.sh.take (j+1)))=_
    rw[hst];rfl
   ·show sj.Rep i.p (y6 i.B (yI i.inst (zB i.sd) (i.os.take (j+1)) (i.sh.take (j+1))))
    rw[hst];exact hjR
 ·have hje:j=i.sh.length:=by omega
  subst hje
  have hfa:i.fs i.sh.length=y4 i.p i.B i.inst (zB i.sd) i.q:=zOv _ _
  rw[hfa]at hjR ⊢
  exact⟨sj,rfl,rfl,hjR⟩
theorem z9m:tradeC.ok Tryz.prog 185:=okw mixed (gokc zQt (gokc ySg (gokc yBi (gokc zBm gok0)))) 0 (fun _=>[]) (fun i=>yNx i) [0] Tryz.func185 yPu
open Go Cv Go.Proofs
structure qZ where
 price:Int
 qty:Int
 implied:Bool
 fills:List vL
 deriving DecidableEq
def jZ (t:qZ):List D:=[.v (.int .i64 t.price),.v (.int .i64 t.qty),.v (.bool t.implied),.ro 6 (t.fills.map yT)]
def jW (p:Prd) (B:List (List zD)) (inst:Int) (sd:Bool) (price qty:Int):Option (qZ×List (List zD)):=
 let n:=zW p B inst (zB (!sd))
 if(n.2.2 && (cA sd price n.1.price && decide (1≤n.1.qty)))=true then
  if n.2.1=true then
   let f1:=y4 p B n.1.a.inst n.1.a.side (min qty n.1.qty)
   let f2:=y4 p (y6 B f1) n.1.b.inst n.1.b.side (min qty n.1.qty)
   some (⟨n.1.price,min qty n.1.qty,true,f1++f2⟩,y6 (y6 B f1) f2)
  else
   let f:=y4 p B inst (zB (!sd)) (min qty n.1.qty)
   some (⟨n.1.price,min qty n.1.qty,false,f⟩,y6 B f)
 else none
structure yQb where
 steps:List qZ
 left:Int
 B:List (List zD)
def zHh (p:Prd) (inst:Int) (sd:Bool) (price:Int):Nat→List (List zD)→Int→yQb
 |0,B,q=>⟨[],q,B⟩
 |n+1,B,q=>if q≤0 then⟨[],q,B⟩else match jW p B inst sd price q with
  |none=>⟨[],q,B⟩
  |some (t,B')=>let r:=zHh p inst sd price n B' (q-t.qty);⟨t::r.steps,r.left,r.B⟩
def qG (p:Prd) (B:List (List zD)) (inst:Int) (sd:Bool) (price q:Int):yQb:=zHh p inst sd price q.toNat B q
structure RunI where
 s:MSt
 p:Prd
 B:List (List zD)
 inst:Int
 sd:Bool
 price:Int
 q:Int
def RunI.r (i:RunI):yQb:=qG i.p i.B i.inst i.sd i.price i.q
def runC:Con where
 ι:=RunI
 pat:=fun i=>[.nm 0 0,zA i.inst,zA (zB i.sd),zA i.price,zA i.q]
 pre:=fun i=>[zE i.s]
 cnd:=fun i=>i.s.Rep i.p i.B∧BOk i.p i.B∧(0≤i.inst∧i.inst<i.B.length)∧1≤i.q∧i.q≤1000000
 alts:=fun i=>[{o:=MSt,res:=fun _=> .tup [.own 1,zA i.r.left],post:=fun s=>[zE s,.own 260 4 (i.r.steps.map jZ)],rel:=fun s=>s.Rep i.p i.r.B}]
structure zJu where
 s:MSt
 B:List (List zD)
 steps:List qZ
 q:Int
def yUn:List SAnn:=[
 {ι:=zJu,slots:=fun j=>[(0,.nm 0 0),(12,.own 1),(4,zA j.q)],rows:=fun j=>[zE j.s,.own 260 4 (j.steps.map jZ)]},
 {ι:=Unit,slots:=fun _=>[],rows:=fun _=>[],un:=3}]
end Sx
