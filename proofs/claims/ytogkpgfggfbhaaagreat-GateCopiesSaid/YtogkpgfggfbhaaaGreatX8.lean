/- Texts of ours, one behind the other: a walk that the kernel reckons, and contracts of functions. No condition. -/
import Derived.Test.YtogkpgfggfbhaaaGreatX7
namespace Sx
set_option linter.unusedVariables false
set_option maxRecDepth 100000
open Go Cv Go.Proofs
def hZ (a:ArL):=(List.map zFd (a.a.ents a.l))
def z0b (i:BoI):Prop:=
 ∃(a:ArL),a.n=i.r.queue∧AObj.adt Arena 3 zG a.a=AObj.adt Arena 3 zG i.b.a∧a.a.listOk a.n a.l∧∀(b:Unit),True→∃(c:Nat),(↑c:Int)=0∧List.map j8 (List.take c i.ords)=[]∧∃(d:Nat→Prop),∃(e:Nat→Nat),d c∧∀(f:Nat),d f→cnd (decide ((↑f:Int)<(↑(hZ a).length:Int))) ((0≤(↑f:Int)∧(↑f:Int)<(↑(hZ a).length:Int))∧∃(g:Int),∃(h:Int),∃(j:Int),∃(k:Bool),zE (hZ a) (↑f:Int).toNat 0 4=some [dI g,dI h,dI j,D.v (.bool k)]∧((List.map j8 (List.take f i.ords)).length+1)*(40:Nat)≤(70368744177664:Nat)∧∃(l:Nat),(↑l:Int)=IntKind.i64.wrap ((↑f:Int)+1)∧List.map j8 (List.take l i.ords)=List.map j8 (List.take f i.ords)++[[dI h,dI i.s,dI i.r.price,dI j,D.v (.bool k)]]∧d l∧e l<e f∧AObj.adt Arena 3 zG a.a=AObj.adt Arena 3 zG a.a∧AObj.own 246 4 (hZ a)=AObj.own 246 4 (hZ a)∧Sx.AObj.cells [V.d (dI i.r.price),V.d (dI i.r.queue)] 301=Sx.AObj.cells [V.d (dI i.r.price),V.d (dI i.r.queue)] 301∧Sx.AObj.cells (jX (qR 0 1 6) [V.nm 1 0,V.own 2,V.own 3,V.mp 4,zA i.b.top1,zA i.b.top2,V.own 5,yM i.b.has1,yM i.b.has2]) (244:TypeId)=Sx.AObj.cells (jX (qR 0 1 6) [V.nm 1 0,V.own 2,V.own 3,V.mp 4,zA i.b.top1,zA i.b.top2,V.own 5,yM i.b.has1,yM i.b.has2]) (244:TypeId)∧AObj.own 301 2 (List.map zB i.b.buys)=AObj.own 301 2 (List.map zB i.b.buys)∧AObj.own 301 2 (List.map zB i.b.sells)=AObj.own 301 2 (List.map zB i.b.sells)∧Sx.AObj.map (atE i.b.at_)=Sx.AObj.map (atE i.b.at_)∧AObj.own 3 1 (iE i.b.spare)=AObj.own 3 1 (iE i.b.spare)) (∃(g:Unit),i.b.top1=i.b.top1∧i.b.top2=i.b.top2∧i.b.has1=i.b.has1∧i.b.has2=i.b.has2∧AObj.adt Arena 3 zG i.b.a=AObj.adt Arena 3 zG a.a∧List.map zB i.b.buys=List.map zB i.b.buys∧List.map zB i.b.sells=List.map zB i.b.sells∧atE i.b.at_=atE i.b.at_∧iE i.b.spare=iE i.b.spare∧List.map j8 i.ords=List.map j8 (List.take f i.ords)∧True)
set_option linter.unusedSimpArgs false
open Go Cv Go.Proofs
theorem yQl {l:List Ent} {k:Nat} {e:Ent} (h:l[k]? =some e):zE (l.map zFd) k 0 4=some [D.v (.int .i64 e.slot),.v (.int .i64 e.id),.v (.int .i64 e.qty),.v (.bool e.top)]:=elA h (by simp[zFd]) rfl
theorem yEw (i:BoI) (h:ordersC.cnd i):z0b i:=by
 have h:i.b.a.listOk i.r.queue i.l:=h
 have hl:=h.len
 have hen:(i.b.a.ents i.l).length=i.l.length:=by simp[Arena.ents]
 have hol:i.ords.length=i.l.length:=by simp[BoI.ords,Arena.ents]
 unfold z0b hZ dI
 refine⟨⟨i.b.a,i.r.queue,i.l⟩,rfl,rfl,h,fun _ _=> ?_⟩
 simp only[yRg]
 refine⟨0,rfl,rfl,fun j=>j≤i.l.length,fun j=>i.l.length-j,ySr _,fun j hj=>zI (fun c=> ?_) (fun c=> ?_)⟩
 ·obtain⟨e,he⟩:=yD (l:=i.b.a.ents i.l) (i:=j) (by omega)
  have ho:i.ords[j]? =some ⟨e.id,i.s,i.r.price,e.qty,e.top⟩:=by rw[BoI.ords,yTb,he];rfl
  refine⟨⟨by omega,by omega⟩,e.slot,e.id,e.qty,e.top,yQl he,by rw[yRz];omega,j+1,wjn (by omega),?_,by omega,by dsimp only;omega,by(repeat'(first|exact trivial|exact rfl|apply And.intro))⟩
  rw[ySz,ho];simp[j8]
 ·have hje:j=i.l.length:=by omega
  subst hje
  rw[yRw (l:=i.ords) (by omega)]
  exact kp
theorem zLn:ordersC.ok Tryz.prog 250:=okw mixed (gokc yBi gok0) 0 (fun _=>[]) (fun i=>yCj i) [0] Tryz.func250 yEw
open Go Go.RowKit Cv
theorem zRk {P:Program} {tS rt e sz by_:Nat} {z:Array Value} (hi:vX P tS=some (e,sz,by_,z)) {w:World} {g i c n k:Nat} {A:Option Addr} {cur src:List Value} {T:TypeId}
 (hg:w.heap[g]? =some (.cells cur.toArray T (0,0))) (hs:(Builtin.firstCells sz n (.slice A n k)).run P w= .ok src.toArray w) (hl:src.length=n*sz) (hfit:i+n≤c) (hroom:i*sz+n*sz≤cur.length) (hone:∀v∈src,v.oneC=true):
 uC P (Builtin.append_ #[tS,tS] rt #[.slice (some ⟨g,0,none⟩) i c,.slice A n k]) w (.slice (some ⟨g,0,none⟩) (i+n) c) (World.setB w g (.cells (spl cur (i*sz) src).toArray T (0,0))):=by
 obtain⟨inf,zv,q1,q2,rfl,rfl,q5,rfl⟩:=kP hi
 have hst:=jO (P:=P) src 0 (i*inf.size) cur w hg (by omega) hone
 simp only[yVa]at hst
 have hln:∀w,(Builtin.lenOf (.slice A n k)).run P w= .ok n w:=fun w=>rfl
 unfold uC Builtin.append_
 simp only[ySy,yTh,ySw,bind,pure,run_bind,Sem.bind,Sem.run,Cv.run_underlying q1,Cv.run_sizeOf q2,yRv,if_false,hs,hln,hfit,if_true,v9,ySd,hst,yVw]
theorem zXr {P:Program} {tS ty e sz by_:Nat} {z:Array Value} (hi:vX P tS=some (e,sz,by_,z)) (hz:z.size=sz) (h1:∀v∈z.toList,v.oneC=true) {w:World} {g o n c:Nat} {cur:List Value} {T:TypeId} (hn:0<n)
 (hg:w.heap[g]? =some (.cells cur.toArray T (0,0))) (hroom:o+n*sz≤cur.length):
 uC P (Builtin.clear_ #[tS] ty #[.slice (some ⟨g,o,none⟩) n c]) w (.tuple #[]) (World.setB w g (.cells (spl cur o (Builtin.zeroCells z n).toList).toArray T (0,0))):=by
 obtain⟨inf,zv,q1,q2,rfl,rfl,q5,rfl⟩:=kP hi
 have hlz:(Builtin.zeroCells zv.cells n).toList.length=n*inf.size:=by rw[yVt,size_zeroCells,hz]
 have hst:=jO (P:=P) (Builtin.zeroCells zv.cells n).toList 0 o cur w hg (by omega) (by
  intro v hv
  obtain⟨i,hi,rfl⟩:=List.getElem_of_mem hv
  simp only[Builtin.zeroCells,Array.getElem_toList,Array.getElem_map,Array.getElem_range]
  have hpos:0<zv.cells.size:=by
   rcases Nat.eq_zero_or_pos zv.cells.size with h0|h0
   ·rw[hlz,← hz,h0]at hi;omega
   ·exact h0
  have hlt:i % zv.cells.size<zv.cells.size:=Nat.mod_lt _ hpos
  rw[getElem!_pos zv.cells (i % zv.cells.size) hlt]
  exact h1 _ (by simp))
 simp only[yVa]at hst
 have hzr:∀w,(zeroValue e).run P w= .ok zv w:=fun w=>zero_run (by unfold zero?;rw[q2];exact q5) w
 obtain⟨m,rfl⟩:∃m,n=m+1:=⟨n-1,by omega⟩
 unfold uC Builtin.clear_
 simp only[ySy,yTh,ySw,bind,pure,run_bind,Sem.bind,Sem.run,Cv.run_underlying q1,hzr,hst]
def yJs (P:Program) (tS sz:Nat) (s:Option Addr) (sn sk:Nat) (i j:Int) (w:World) (R:Ending→World→Prop):Prop:=
yLn s sk i j (sn:Int) sz fun a1 na1 ka1=>
cnd ((i:Int)==j) (
R (.returned (.slice s sn sk)) w) (
zYg w fun w2=>
slN s sn sk none (some i) sz fun a3 na3 ka3=>
slN s sn sk (some j) none sz fun a4 na4 ka4=>
∃(a5:Option Addr) (na5 ka5:Nat),∃w6:World,uC P (Builtin.append_ #[tS,tS] tS #[.slice a3 na3 ka3,.slice a4 na4 ka4]) w2 (.slice a5 na5 ka5) w6∧
slN a5 na5 ka5 (some (na5:Int)) (some (sn:Int)) sz fun a7 na7 ka7=>
∃w8:World,uC P (Builtin.clear_ #[tS] 0 #[.slice a7 na7 ka7]) w6 (.tuple #[]) w8∧
R (.returned (.slice a5 na5 ka5)) w8)
theorem yQf {P:Program} {tS e sz by_:Nat} {z:Array Value} (hi:vX P tS=some (e,sz,by_,z)) (hz:z.size=sz) (hz1:∀v∈z.toList,v.oneC=true)
 {k:Ko} {w:World} {L:List HP} {s:Option Addr} {sn sk i j:Nat} {xs:List Value} (H:Hp k w (slO e sz s sn sk xs::L)) (h1:∀u∈xs,u.oneC=true) (hij:i<j) (hj:j≤sn):
 yJs P tS sz s sn sk i j w fun en w'=>∃a kk,en= .returned (.slice a (sn-(j-i)) kk)∧Hp k w' (slO e sz a (sn-(j-i)) kk (xs.take (i*sz)++xs.drop (j*sz))::L):=by
 obtain⟨hxl,hnk⟩:=H.len
 rcases H.slcases with⟨_,e0,_⟩|⟨b,r,rfl,g1,g2,g3,H0⟩
 ·omega
 have hle:i*sz≤xs.length:=by rw[hxl];exact yTe _ (by omega)
 have hjle:j*sz≤xs.length:=by rw[hxl];exact yTe _ hj
 have hdl:(xs.drop (j*sz)).length=(sn-j)*sz:=by rw[ySb,hxl,Nat.sub_mul]
 have hsum:i*sz+(sn-j)*sz=(sn-(j-i))*sz:=by rw[← yTz];congr 1;omega
 have hsum2:i*sz+(sn-j)*sz+(j-i)*sz=sn*sz:=by rw[← yTz,← yTz];congr 1;omega
 have hsum3:j*sz+(sn-j)*sz=sn*sz:=by rw[← yTz];congr 1;omega
 have hlen:(xs++r).length=xs.length+r.length:=yRi
 unfold yJs
 simp only[yLn,slN,yRx]
 refine⟨⟨by omega,by omega,by omega,by omega⟩,Cv.cnd.mk (fun c=>absurd c (by simp;omega)) fun _=> ?_⟩
 rintro _ rfl
 have H1:=H0.drew
 have hsrc:(Builtin.firstCells sz (sn-j) (.slice (if sk=j then some ⟨b,0,none⟩else(some ⟨b,0,none⟩:Option Addr).map (·.add (j*sz))) (sn-j) (sk-j))).run P w.drew= .ok (xs.drop (j*sz)).toArray w.drew:=by
  by_cases h0:(sn-j)*sz=0
  ·have:xs.drop (j*sz)=[]:=ySe (by omega)
   rw[this]
   by_cases hk:sk=j
   ·rw[yRe hk];unfold Builtin.firstCells;rw[h0];rfl
   ·rw[yRd hk,yTd,v9];unfold Builtin.firstCells;rw[h0];rfl
  ·have hk:sk≠j:=by rintro rfl;have:sn-sk=0:=by omega
                    rw[this]at h0;simp at h0
   rw[yRd hk,yTd,v9]
   unfold Builtin.firstCells
   rw[uB H1.get (by rw[hlen];omega)]
   rw[ySd,yTw hjle,ySf (by omega),yRw (by omega)]
 refine⟨⟨by omega,by omega⟩,⟨by omega,by omega,hnk⟩,_,_,_,_,zRk (i:=i) (c:=sk) hi H1.get hsrc hdl (by omega) (by rw[hlen];omega) (fun v hv=>h1 v (yUm hv)),⟨by omega,by omega,by omega⟩,?_⟩
 have H2:=H1.upd (.cells (spl (xs++r) (i*sz) (xs.drop (j*sz))).toArray e)
 have e1:i+(sn-j)=sn-(j-i):=by omega
 rw[yRd (show sk≠i+(sn-j)by omega),yTd,v9,ySd,e1]
 have espl:spl (xs++r) (i*sz) (xs.drop (j*sz))=(xs.take (i*sz)++xs.drop (j*sz))++(xs++r).drop ((sn-(j-i))*sz):=by
  simp only[spl]
  rw[ySf hle,hdl,hsum]
 rw[espl]at H2
 have hA:(xs.take (i*sz)++xs.drop (j*sz)).length=(sn-(j-i))*sz:=by
  rw[yRi,yRz,hdl];omega
 have hB:((xs++r).drop ((sn-(j-i))*sz)).length=(j-i)*sz+r.length:=by
  rw[ySb,hlen];omega
 rw[espl]
 have hn:sn-(sn-(j-i))=j-i:=by omega
 rw[hn]
 refine⟨_,zXr hi hz hz1 (by omega) H2.get (by rw[yRi,hA,hB];omega),_,_,rfl,?_⟩
 have H3:=H2.upd (.cells (spl (xs.take (i*sz)++xs.drop (j*sz)++(xs++r).drop ((sn-(j-i))*sz)) ((sn-(j-i))*sz) (Builtin.zeroCells z (j-i)).toList).toArray e)
 have es:=zPk (xs.take (i*sz)++xs.drop (j*sz)) ((xs++r).drop ((sn-(j-i))*sz)) (Builtin.zeroCells z (j-i)).toList
 rw[hA]at es
 rw[es]at H3
 rw[es]
 rw[yRn (xs.take (i*sz)++xs.drop (j*sz))]at H3 ⊢
 have hzl:(Builtin.zeroCells z (j-i)).toList.length=(j-i)*sz:=by rw[yVt,size_zeroCells,hz]
 refine H3.slmk hA ?_ (by omega)
 rw[yRi,hA,yRi,hzl,ySb,hB,← g2,hlen,hxl]
 omega
structure yKf where
 els:List (List D)
 i:Nat
 j:Nat
def yIt (e sz:Nat):Con where
 ι:=yKf
 pat:=fun i=>[.own 0,.d (.v (.int .i64 i.i)),.d (.v (.int .i64 i.j))]
 pre:=fun i=>[.own e sz i.els]
 cnd:=fun i=>i.i<i.j∧i.j≤i.els.length
 alts:=fun i=>[{o:=Unit,res:=fun _=> .own 1,post:=fun _=>[.gone,.own e sz (i.els.take i.i++i.els.drop i.j)],rel:=fun _=>True}]
theorem delX_ok {P:Program} (hm:P.follows .mixedOrders=true) {tS e sz by_ fI:Nat} {z:Array Value} {fn:Func} {c:Code} (hf:P.funcs[fI]? =some fn) (hb:fn.body=some c) (hbd:vO P fI=true) (hok:okC fn.ntmps c=true) (hfx:okF [] c=true) (hsz3:Nat.ble 3 fn.ntmps=true)
 (hi:vX P tS=some (e,sz,by_,z)) (hz:z.size=sz) (hz1:∀v∈z.toList,v.oneC=true)
 (heq:∀(s:Option Addr) (sn sk:Nat) (i j:Int) (w:World) (R:Ending→World→Prop),yJs P tS sz s sn sk i j w R=cwp P [] c (zNl P fn R) (vH [.slice s sn sk,.int .i64 i,.int .i64 j]) w):
 (yIt e sz).ok P fI:=by
 intro i hc k L E w ys R hv
 obtain⟨c1,c2⟩:i.i<i.j∧i.j≤i.els.length:=hc
 simp only[yIt,VRL,VR,DR]at hv
 obtain⟨y0,_,rfl,⟨l0,e0,_⟩,y1,_,rfl,⟨rfl,_⟩,y2,_,rfl,⟨rfl,_⟩,rfl⟩:=hv
 obtain⟨s,sk,xs,sub0,g1,hxs,hu,H⟩:=R.ownOpen (n:=0) (t:=e) (sz:=sz) (els:=i.els) rfl
 rw[e0]at g1;cases g1
 have H2:Hp k w (slO e sz s i.els.length sk xs::fz E.F::L):=H
 have hv:=yQf hi hz hz1 H2 hxs.one c1 c2
 have hcall:=zEu (args:=[.slice s i.els.length sk,.int .i64 i.i,.int .i64 i.j]) hm hf hb [] hok hfx hsz3 (heq s i.els.length sk i.i i.j w _) hv
 refine nA hbd (hcall.mono ?_)
 rintro en w' ⟨a,kk,rfl,H3⟩
 have hl:(i.els.take i.i++i.els.drop i.j).length=i.els.length-(i.j-i.i):=by
  rw[yRi,yRz,ySb];omega
 have H4:Hp k w' (slO e sz a (i.els.take i.i++i.els.drop i.j).length kk (xs.take (i.i*sz)++xs.drop (i.j*sz))::(([]:List (Nat×AObj)).map (rHP E)++fz E.F::L)):=by
  rw[hl]
  exact H3
 obtain⟨E',r1,r2,r3⟩:=cG (nx:=1) R.nx (by
  rw[List.flatten_append,← aK i.i hu,← b6 i.j hu]
  exact(hxs.take _).append (hxs.drop _)) (fun x hx=>by
   rcases ySg.1 hx with hx|hx
   ·exact hu x (yWg hx)
   ·exact hu x (yUm hx)) H4
 rw[hl]at r3
 refine⟨_,rfl,_,yTa.2 rfl,(),trivial,E',r1,r3,⟨r2.nx,?_⟩⟩
 exact((@vS k w' True _).2 ⟨trivial,r2.hp⟩).imp (B:=rHP E' (0,.gone)) fun x hx=> .inl ⟨rfl,hx.2⟩
open Go Cv Go.Proofs
def bR (k:Int):List (Int×Place)→List (Int×Place)
 |[]=>[]
 |(a,b)::l=>if k=a then l else(a,b)::bR k l
structure DrI where
 b:Book
 id:Int
 price:Int
 slot:Int
def Book.unhas (b:Book) (s id:Int):Book:=if b.hasF s=true∧b.topI s=id then(if s=1 then{b with has1:=false}else{b with has2:=false})else b
def Book.dropF (b:Book) (s id price:Int):Book:=
 if(b.a.qAt ((b.rungs s).getD (zU s (b.rungs s) price) ⟨0,0⟩).queue).count=0 then
  ({b.unhas s id with at_:=bR id b.at_,spare:=b.spare++[((b.rungs s).getD (zU s (b.rungs s) price) ⟨0,0⟩).queue]}:Book).setR s ((b.rungs s).take (zU s (b.rungs s) price)++(b.rungs s).drop (zU s (b.rungs s) price+1))
 else{b.unhas s id with at_:=bR id b.at_}
def yEn (b:Book):AObj:= .cells [.nm 1 0,.own 6,.own 7,.mp 4,zA b.top1,zA b.top2,.own 8,yM b.has1,yM b.has2] 244
@[reducible] def yGc (b:Book):List AObj:=[yEn b,zQ b 1,.gone,.gone,zQ b 4,.gone,zQ b 2,zQ b 3,zQ b 5]
@[reducible] def DrI.ok (i:DrI) (s:Int):Prop:=i.b.small∧zU s (i.b.rungs s) i.price<(i.b.rungs s).length
def yAy (s:Int):Con:=con1 DrI (fun i=>[.nm 0 0,zA i.id,.agg [zA s,zA i.price,zA i.slot]]) (fun i=>zEf i.b) (fun i=>i.ok s) (fun _=>zRg) (fun i=>yGc (i.b.dropF s i.id i.price))
def drop1C:Con:=yAy 1
def drop2C:Con:=yAy 2
structure DrJ where
 i:DrI
 s:Bool
def dropC:Con:=con1 DrJ (fun j=>[.nm 0 0,zA j.i.id,.agg [zA (zC j.s),zA j.i.price,zA j.i.slot]]) (fun j=>zEf j.i.b) (fun j=>j.i.ok (zC j.s)) (fun _=>zRg) (fun j=>yGc (j.i.b.dropF (zC j.s) j.i.id j.i.price))
def delRC:Con:=yIt 301 2
def yKl:zH:=⟨0,0,0,0,false⟩
def gW (L:List zH) (id:Int):zH:=(L.find? fun o=>decide (o.id=id)).getD yKl
def vW (L:List zH) (id q:Int):List zH:=L.filterMap fun o=>if o.id=id then(if o.qty=q then none else some {o with qty:=o.qty-q})else some o
def xU (L:List zH) (id q:Int):List zH×Int:=if jR L id=false then(L,26)else if q<1∨(gW L id).qty<q then(L,24)else(vW L id q,0)
def atL (L:List zH) (s p:Int):List zH:=L.filter fun o=>decide (o.side=s) && decide (o.price=p)
def grp:List zH→List Lv
 |[]=>[]
 |o::l=>match grp l with
  |[]=>[⟨o.price,o.qty,1⟩]
  |v::vs=>if v.price=o.price then⟨v.price,o.qty+v.qty,v.count+1⟩::vs else⟨o.price,o.qty,1⟩::v::vs
def zQm (L:List zH) (s:Int):List Lv:=grp (L.filter fun o=>decide (o.side=s))
def bestL (L:List zH) (s:Int):Lv×Bool:=match zQm L s with
 |[]=>(⟨0,0,0⟩,false)
 |v::_=>(v,true)
structure FlI where
 b:Book
 L:List zH
 id:Int
 qty:Int
structure AtI where
 b:Book
 L:List zH
 s:Bool
 price:Int
def fillC:Con where
 ι:=FlI
 pat:=fun i=>[.nm 0 0,zA i.id,zA i.qty]
 pre:=fun i=>[yA i.b]
 cnd:=fun i=>i.b.Rep i.L
 alts:=fun i=>[{o:=Book,res:=fun _=>zA (xU i.L i.id i.qty).2,post:=fun b=>[yA b],rel:=fun b=>b.Rep (xU i.L i.id i.qty).1}]
def bfindC:Con:=con1 FlI (fun i=>[.nm 0 0,zA i.id]) (fun i=>[yA i.b]) (fun i=>i.b.Rep i.L) (fun i=> .tup [z3e (gW i.L i.id),yM (jR i.L i.id)]) (fun i=>[yA i.b])
def yNm (s:Bool):Con:=con1 AtI (fun i=>[.nm 0 0,zA (zC s),zA i.price]) (fun i=>[yA i.b]) (fun i=>i.b.Rep i.L) (fun _=> .own 1) (fun i=>[yA i.b,.own 56 5 ((atL i.L (zC s) i.price).map j8)])
def at1C:Con:=yNm false
def at2C:Con:=yNm true
def atC:Con:=con1 AtI (fun i=>[.nm 0 0,zA (zC i.s),zA i.price]) (fun i=>[yA i.b]) (fun i=>i.b.Rep i.L) (fun _=> .own 1) (fun i=>[yA i.b,.own 56 5 ((atL i.L (zC i.s) i.price).map j8)])
open Go Cv Go.Proofs
def y6 (a:DrI):=(a.b.dropF 1 a.id a.price)
def zDn (a:BkP) (b:DrI):Prop:=a.b.has2=b.b.has2∧AObj.adt Arena 3 zG a.b.a=zQ b.b 1∧List.map zB a.b.buys=List.map zB b.b.buys∧List.map zB a.b.sells=List.map zB b.b.sells∧atE a.b.at_=tL (Value.int IntKind.i64 b.id) (atE b.b.at_)∧iE a.b.spare=iE b.b.spare∧(x3 a)∧∀(c:Unit),True→(hD a)∧∃(d:Int),zE (List.map zB a.b.buys) (xM a).toNat ((0:Nat)+(1:Nat)) 1=some [dI d]∧∃(e:ArN),e.n=d∧AObj.adt Arena 3 zG e.a=AObj.adt Arena 3 zG a.b.a∧True∧∀(f:Unit),True→cnd ((e.a.qAt e.n).count==0) (((iE a.b.spare).length+1)*(8:Nat)≤(70368744177664:Nat)∧∃(g:yKf),(↑g.i:Int)=(xM a)∧(↑g.j:Int)=IntKind.i64.wrap ((xM a)+1)∧g.els=List.map zB a.b.buys∧(g.i<g.j∧g.j≤g.els.length)∧∀(h:Unit),True→(1:Int)=(1:Int)∧∃(j:Unit),(y6 b).top1=a.b.top1∧(y6 b).top2=a.b.top2∧(y6 b).has1=a.b.has1∧(y6 b).has2=a.b.has2∧AObj.adt Arena 3 zG (y6 b).a=AObj.adt Arena 3 zG e.a∧atE (y6 b).at_=atE a.b.at_∧List.map zB (y6 b).buys=List.take g.i g.els++List.drop g.j g.els∧List.map zB (y6 b).sells=List.map zB a.b.sells∧iE (y6 b).spare=iE a.b.spare++[[dI d]]∧True) (∃(g:Unit),(y6 b).top1=a.b.top1∧(y6 b).top2=a.b.top2∧(y6 b).has1=a.b.has1∧(y6 b).has2=a.b.has2∧AObj.adt Arena 3 zG (y6 b).a=AObj.adt Arena 3 zG e.a∧atE (y6 b).at_=atE a.b.at_∧List.map zB (y6 b).buys=List.map zB a.b.buys∧List.map zB (y6 b).sells=List.map zB a.b.sells∧iE (y6 b).spare=iE a.b.spare∧True)
def zIa (a:DrI):Prop:=∃(b:BkP),(1:Int)=(1:Int)∧b.price=a.price∧b.b.top1=a.b.top1∧b.b.top2=a.b.top2∧b.b.has1=a.b.has1∧zDn b a
def yAr (i:DrI):Prop:=
 (∀(a:Value×List D),a∈atE i.b.at_→like (Value.int IntKind.i64 i.id) a.fst=true)∧cnd i.b.has1 (cnd (i.b.top1==i.id) (∃(a:BkP),(1:Int)=(1:Int)∧a.price=i.price∧a.b.top1=i.b.top1∧a.b.top2=i.b.top2∧a.b.has1=false∧zDn a i) (zIa i)) (zIa i)
def y7 (a:DrI):=(a.b.dropF 2 a.id a.price)
def zCd (a:BkP) (b:DrI):Prop:=AObj.adt Arena 3 zG a.b.a=zQ b.b 1∧List.map zB a.b.buys=List.map zB b.b.buys∧List.map zB a.b.sells=List.map zB b.b.sells∧atE a.b.at_=tL (Value.int IntKind.i64 b.id) (atE b.b.at_)∧iE a.b.spare=iE b.b.spare∧(x3 a)∧∀(c:Unit),True→(uX a)∧∃(d:Int),zE (List.map zB a.b.sells) (xN a).toNat ((0:Nat)+(1:Nat)) 1=some [dI d]∧∃(e:ArN),e.n=d∧AObj.adt Arena 3 zG e.a=AObj.adt Arena 3 zG a.b.a∧True∧∀(f:Unit),True→cnd ((e.a.qAt e.n).count==0) (((iE a.b.spare).length+1)*(8:Nat)≤(70368744177664:Nat)∧∃(g:yKf),(↑g.i:Int)=(xN a)∧(↑g.j:Int)=IntKind.i64.wrap ((xN a)+1)∧g.els=List.map zB a.b.sells∧(g.i<g.j∧g.j≤g.els.length)∧∀(h:Unit),True→(2:Int)=(2:Int)∧∃(j:Unit),(y7 b).top1=a.b.top1∧(y7 b).top2=a.b.top2∧(y7 b).has1=a.b.has1∧(y7 b).has2=a.b.has2∧AObj.adt Arena 3 zG (y7 b).a=AObj.adt Arena 3 zG e.a∧atE (y7 b).at_=atE a.b.at_∧List.map zB (y7 b).buys=List.map zB a.b.buys∧List.map zB (y7 b).sells=List.take g.i g.els++List.drop g.j g.els∧iE (y7 b).spare=iE a.b.spare++[[dI d]]∧True) (∃(g:Unit),(y7 b).top1=a.b.top1∧(y7 b).top2=a.b.top2∧(y7 b).has1=a.b.has1∧(y7 b).has2=a.b.has2∧AObj.adt Arena 3 zG (y7 b).a=AObj.adt Arena 3 zG e.a∧atE (y7 b).at_=atE a.b.at_∧List.map zB (y7 b).buys=List.map zB a.b.buys∧List.map zB (y7 b).sells=List.map zB a.b.sells∧iE (y7 b).spare=iE a.b.spare∧True)
def zKf (a:DrI):Prop:=∃(b:BkP),(2:Int)=(2:Int)∧b.price=a.price∧b.b.top1=a.b.top1∧b.b.top2=a.b.top2∧b.b.has1=a.b.has1∧b.b.has2=a.b.has2∧zCd b a
def z6i (i:DrI):Prop:=
 (∀(a:Value×List D),a∈atE i.b.at_→like (Value.int IntKind.i64 i.id) a.fst=true)∧cnd i.b.has2 (cnd (i.b.top2==i.id) (∃(a:BkP),(2:Int)=(2:Int)∧a.price=i.price∧a.b.top1=i.b.top1∧a.b.top2=i.b.top2∧a.b.has1=i.b.has1∧a.b.has2=false∧zCd a i) (zKf i)) (zKf i)
def lL (a:FlI):Prop:=List.map zB a.b.buys=List.map zB a.b.buys∧List.map zB a.b.sells=List.map zB a.b.sells∧atE a.b.at_=atE a.b.at_∧iE a.b.spare=iE a.b.spare∧True
def zCm (a:Int) (b:FlI) (c:Int) (d:Int):Prop:=∃(e:ArN),e.n=a∧AObj.adt Arena 3 zG e.a=AObj.adt Arena 3 zG b.b.a∧e.a.slots.length≤1000000∧∀(f:Unit),True→∃(g:Unit),(gW b.L b.id).id=b.id∧(gW b.L b.id).side=c∧(gW b.L b.id).price=d∧(gW b.L b.id).qty=(e.a.getF e.n).fst.qty∧(gW b.L b.id).top=(e.a.getF e.n).fst.top∧jR b.L b.id=true∧b.b.top1=b.b.top1∧b.b.top2=b.b.top2∧b.b.has1=b.b.has1∧b.b.has2=b.b.has2∧AObj.adt Arena 3 zG b.b.a=AObj.adt Arena 3 zG e.a∧lL b
def mU (a:FlI) (b:Int) (c:Int) (d:Int) (e:Bool):Prop:=qK (Value.int IntKind.i64 a.id) (atE a.b.at_)=some [dI b,dI c,dI d]∧e=true∨qK (Value.int IntKind.i64 a.id) (atE a.b.at_)=none∧[dI b,dI c,dI d]=[dI 0,dI 0,dI 0]∧e=false
def z5c (i:FlI):Prop:=
 (∀(a:Value×List D),a∈atE i.b.at_→like (Value.int IntKind.i64 i.id) a.fst=true)∧∃(a:Bool),∃(b:Int),∃(c:Int),∃(d:Int),(mU i b c d a)∧cnd (!a) (∃(e:Unit),(gW i.L i.id).id=0∧(gW i.L i.id).side=0∧(gW i.L i.id).price=0∧(gW i.L i.id).qty=0∧(gW i.L i.id).top=false∧jR i.L i.id=false∧i.b.top1=i.b.top1∧i.b.top2=i.b.top2∧i.b.has1=i.b.has1∧i.b.has2=i.b.has2∧AObj.adt Arena 3 zG i.b.a=AObj.adt Arena 3 zG i.b.a∧lL i) ((zCm d i b c)∧d=d∧True∧zCm d i b c)
def tG (a:Book) (b:FlI):Prop:=List.map zB a.buys=List.map zB b.b.buys∧List.map zB a.sells=List.map zB b.b.sells∧atE a.at_=atE b.b.at_∧iE a.spare=iE b.b.spare∧a.Rep (xU b.L b.id b.qty).fst
def wA (a:DrJ):=(a.i.b.dropF (zC a.s) a.i.id a.i.price)
def zJg (a:FlI) (b:Int) (c:Int) (d:Int) (e:ArN):Prop:=∃(f:DrJ),f.i.id=a.id∧zC f.s=b∧f.i.price=c∧f.i.slot=d∧f.i.b.top1=a.b.top1∧f.i.b.top2=a.b.top2∧f.i.b.has1=a.b.has1∧f.i.b.has2=a.b.has2∧AObj.adt Arena 3 zG f.i.b.a=AObj.adt Arena 3 zG e.a∧List.map zB f.i.b.buys=List.map zB a.b.buys∧List.map zB f.i.b.sells=List.map zB a.b.sells∧atE f.i.b.at_=atE a.b.at_∧iE f.i.b.spare=iE a.b.spare∧(((f.i.b.a.slots.length≤1000000∧f.i.b.a.queues.length≤1000000)∧f.i.b.buys.length≤1000000∧f.i.b.sells.length≤1000000∧f.i.b.spare.length≤1000000)∧zU (zC f.s) (f.i.b.rungs (zC f.s)) f.i.price<(f.i.b.rungs (zC f.s)).length)∧∀(g:Unit),True→∃(h:Book),(xU a.L a.id a.qty).snd=0∧h.top1=(wA f).top1∧h.top2=(wA f).top2∧h.has1=(wA f).has1∧h.has2=(wA f).has2∧AObj.adt Arena 3 zG h.a=AObj.adt Arena 3 zG (wA f).a∧List.map zB h.buys=List.map zB (wA f).buys∧List.map zB h.sells=List.map zB (wA f).sells∧atE h.at_=atE (wA f).at_∧iE h.spare=iE (wA f).spare∧h.Rep (xU a.L a.id a.qty).fst
def zPi (a:Int) (b:TkI) (c:FlI) (d:Int) (e:Int):Prop:=∃(f:ArN),f.n=a∧AObj.adt Arena 3 zG f.a=AObj.adt Arena 3 zG (b.a.takeF b.n b.qty).fst∧f.a.slots.length≤1000000∧∀(g:Unit),True→cnd (!(f.a.getF f.n).snd) (zJg c d e a f) (cnd ((f.a.getF f.n).fst.id !=c.id) (zJg c d e a f) (∃(h:Book),(xU c.L c.id c.qty).snd=0∧h.top1=c.b.top1∧h.top2=c.b.top2∧h.has1=c.b.has1∧h.has2=c.b.has2∧AObj.adt Arena 3 zG h.a=AObj.adt Arena 3 zG f.a∧tG h c))
def yGj (i:FlI):Prop:=
 (∀(a:Value×List D),a∈atE i.b.at_→like (Value.int IntKind.i64 i.id) a.fst=true)∧∃(a:Bool),∃(b:Int),∃(c:Int),∃(d:Int),(mU i b c d a)∧cnd (!a) (∃(e:Book),(xU i.L i.id i.qty).snd=26∧e.top1=i.b.top1∧e.top2=i.b.top2∧e.has1=i.b.has1∧e.has2=i.b.has2∧AObj.adt Arena 3 zG e.a=AObj.adt Arena 3 zG i.b.a∧tG e i) (∃(e:TkI),e.n=d∧e.qty=i.qty∧AObj.adt Arena 3 zG e.a=AObj.adt Arena 3 zG i.b.a∧(e.a.slots.length≤1000000∧∀(k:Nat) (s:Slot),e.a.slots[k]?=some s→s.used=true→(0≤s.queue∧s.queue<(↑e.a.queues.length:Int))∧s.qty≤1000000∧(s.ahead=(-1)∨0≤s.ahead∧s.ahead<(↑e.a.slots.length:Int)∧s.ahead≠(↑k:Int))∧(s.back=(-1)∨0≤s.back∧s.back<(↑e.a.slots.length:Int)∧s.back≠(↑k:Int)))∧∀(f:Unit),True→cnd ((e.a.takeF e.n e.qty).snd !=0) (∃(g:Book),(xU i.L i.id i.qty).snd=(e.a.takeF e.n e.qty).snd∧g.top1=i.b.top1∧g.top2=i.b.top2∧g.has1=i.b.has1∧g.has2=i.b.has2∧AObj.adt Arena 3 zG g.a=AObj.adt Arena 3 zG (e.a.takeF e.n e.qty).fst∧tG g i) ((zPi d e i b c)∧d=d∧True∧zPi d e i b c))
def yOa (i:AtI):Prop:=
 ∃(a:Int),a=zC false∧True∧∀(b:Unit),True→cnd (!(wP a)) (∃(c:Unit),i.b.top1=i.b.top1∧i.b.top2=i.b.top2∧i.b.has1=i.b.has1∧i.b.has2=i.b.has2∧AObj.adt Arena 3 zG i.b.a=AObj.adt Arena 3 zG i.b.a∧List.map zB i.b.buys=List.map zB i.b.buys∧List.map zB i.b.sells=List.map zB i.b.sells∧atE i.b.at_=atE i.b.at_∧iE i.b.spare=iE i.b.spare∧List.map j8 (atL i.L (zC false) i.price)=[]∧True) (∃(c:BkP),1=zC false∧c.price=i.price∧c.b.top1=i.b.top1∧c.b.top2=i.b.top2∧c.b.has1=i.b.has1∧c.b.has2=i.b.has2∧AObj.adt Arena 3 zG c.b.a=AObj.adt Arena 3 zG i.b.a∧List.map zB c.b.buys=List.map zB i.b.buys∧List.map zB c.b.sells=List.map zB i.b.sells∧atE c.b.at_=atE i.b.at_∧iE c.b.spare=iE i.b.spare∧(x3 c)∧∀(d:Unit),True→cnd (!qX 1 (c.b.rungs 1) c.price) (∃(e:Unit),i.b.top1=c.b.top1∧i.b.top2=c.b.top2∧i.b.has1=c.b.has1∧i.b.has2=c.b.has2∧AObj.adt Arena 3 zG i.b.a=AObj.adt Arena 3 zG c.b.a∧List.map zB i.b.buys=List.map zB c.b.buys∧List.map zB i.b.sells=List.map zB c.b.sells∧atE i.b.at_=atE c.b.at_∧iE i.b.spare=iE c.b.spare∧List.map j8 (atL i.L (zC false) i.price)=[]∧True) ((hD c)∧∃(e:Int),∃(f:Int),zE (List.map zB c.b.buys) (xM c).toNat 0 2=some [dI e,dI f]∧∃(g:BoI),g.s=zC false∧g.r.price=e∧g.r.queue=f∧g.b.top1=c.b.top1∧g.b.top2=c.b.top2∧g.b.has1=c.b.has1∧g.b.has2=c.b.has2∧AObj.adt Arena 3 zG g.b.a=AObj.adt Arena 3 zG c.b.a∧List.map zB g.b.buys=List.map zB c.b.buys∧List.map zB g.b.sells=List.map zB c.b.sells∧atE g.b.at_=atE c.b.at_∧iE g.b.spare=iE c.b.spare∧g.b.a.listOk g.r.queue g.l∧∀(h:Unit),True→∃(j:Unit),yA i.b=yA g.b∧List.map j8 (atL i.L (zC false) i.price)=List.map j8 g.ords∧True))
def yMh (i:AtI):Prop:=
 ∃(a:Int),a=zC true∧True∧∀(b:Unit),True→cnd (!(wP a)) (∃(c:Unit),i.b.top1=i.b.top1∧i.b.top2=i.b.top2∧i.b.has1=i.b.has1∧i.b.has2=i.b.has2∧AObj.adt Arena 3 zG i.b.a=AObj.adt Arena 3 zG i.b.a∧List.map zB i.b.buys=List.map zB i.b.buys∧List.map zB i.b.sells=List.map zB i.b.sells∧atE i.b.at_=atE i.b.at_∧iE i.b.spare=iE i.b.spare∧List.map j8 (atL i.L (zC true) i.price)=[]∧True) (∃(c:BkP),2=zC true∧c.price=i.price∧c.b.top1=i.b.top1∧c.b.top2=i.b.top2∧c.b.has1=i.b.has1∧c.b.has2=i.b.has2∧AObj.adt Arena 3 zG c.b.a=AObj.adt Arena 3 zG i.b.a∧List.map zB c.b.buys=List.map zB i.b.buys∧List.map zB c.b.sells=List.map zB i.b.sells∧atE c.b.at_=atE i.b.at_∧iE c.b.spare=iE i.b.spare∧(x3 c)∧∀(d:Unit),True→cnd (!qX 2 (c.b.rungs 2) c.price) (∃(e:Unit),i.b.top1=c.b.top1∧i.b.top2=c.b.top2∧i.b.has1=c.b.has1∧i.b.has2=c.b.has2∧AObj.adt Arena 3 zG i.b.a=AObj.adt Arena 3 zG c.b.a∧List.map zB i.b.buys=List.map zB c.b.buys∧List.map zB i.b.sells=List.map zB c.b.sells∧atE i.b.at_=atE c.b.at_∧iE i.b.spare=iE c.b.spare∧List.map j8 (atL i.L (zC true) i.price)=[]∧True) ((uX c)∧∃(e:Int),∃(f:Int),zE (List.map zB c.b.sells) (xN c).toNat 0 2=some [dI e,dI f]∧∃(g:BoI),g.s=zC true∧g.r.price=e∧g.r.queue=f∧g.b.top1=c.b.top1∧g.b.top2=c.b.top2∧g.b.has1=c.b.has1∧g.b.has2=c.b.has2∧AObj.adt Arena 3 zG g.b.a=AObj.adt Arena 3 zG c.b.a∧List.map zB g.b.buys=List.map zB c.b.buys∧List.map zB g.b.sells=List.map zB c.b.sells∧atE g.b.at_=atE c.b.at_∧iE g.b.spare=iE c.b.spare∧g.b.a.listOk g.r.queue g.l∧∀(h:Unit),True→∃(j:Unit),yA i.b=yA g.b∧List.map j8 (atL i.L (zC true) i.price)=List.map j8 g.ords∧True))
open Go Cv Go.Proofs
theorem m5 {L:List zH} (h:(L.map (·.id)).Nodup) {o:zH} (ho:o∈L):gW L o.id=o:=by
 induction L with
 |nil=>cases ho
 |cons x L ih=>
  rw[yRs,yTm]at h
  rw[gW,yWw]
  rcases yRy.1 ho with rfl|ho
  ·rw[yRu rfl];rfl
  ·have:x.id≠o.id:=fun e=>h.1 (e▸ySc (f:=(·.id)) ho)
   rw[yRo this]
   exact ih h.2 ho
theorem cI {α β:Type} {f g:α→Option β}:∀{l:List α},(∀x∈l,f x=g x)→l.filterMap f=l.filterMap g
 |[],_=>rfl
 |x::l,h=>by rw[List.filterMap_cons,List.filterMap_cons,h x yRj,cI fun y hy=>h y (yRk _ hy)]
theorem yLy {L:List zH} {id:Int} (h:jR L id=false):gW L id=yKl:=by
 rw[gW]
 have:L.find? (fun o=>decide (o.id=id))=none:=by
  rw[List.find?_eq_none]
  intro o ho
  rw[jR,yWz]at h
  exact h o ho
 rw[this];rfl
structure Told (b:Book) (Q:List (List Nat)) (id:Int) (s:Int) (r:xF) (k:Nat):Prop where
 hs:s=1∨s=2
 hr:r∈b.rungs s
 hk:k∈xA Q r
 e:pget b.at_ id=some ⟨s,r.price,k⟩
 ident:(b.a.slotAt k).id=id
 get:gW (b.flat Q) id=j9 b.a s r.price k
 has:jR (b.flat Q) id=true
theorem yFr {b:Book} {Q:List (List Nat)} {s:Int} (hs:s=1∨s=2) {r:xF} (hr:r∈b.rungs s) {k:Nat} (hk:k∈xA Q r):j9 b.a s r.price k∈b.flat Q:=
 flat_mem hs (yTr.2 ⟨r,hr,ySc hk⟩)
theorem Book.Core.told {b:Book} {Q:List (List Nat)} (c:b.Core Q (-1)) (id:Int):(pget b.at_ id=none∧jR (b.flat Q) id=false)∨∃s r k,Told b Q id s r k:=by
 cases hg:pget b.at_ id with
 |none=>
  have:=zCf hg
  rw[c.keysP.mem_iff,← hasId_iff]at this
  exact .inl ⟨rfl,by simpa using this⟩
 |some x=>
  obtain⟨k,r,hs,hr,hk,hx,hid⟩:=c.plcI (rH hg)
  have hm:=yFr hs hr hk
  have hget:=m5 c.ids hm
  have e:(j9 b.a x.side r.price k).id=id:=hid
  rw[e]at hget
  exact .inr ⟨x.side,r,k,hs,hr,hk,by rw[hg];exact congrArg some hx,hid,hget,hasId_iff.2 (by rw[← e];exact ySc hm)⟩
theorem Told.only {b:Book} {Q:List (List Nat)} (c:b.Core Q (-1)) {id s:Int} {r:xF} {k:Nat} (h:Told b Q id s r k) {s':Int} (hs':s'=1∨s'=2) {r':xF} (hr':r'∈b.rungs s') {j:Nat} (hj:j∈xA Q r'):(b.a.slotAt j).id=id↔j=k:=by
 constructor
 ·intro e
  have h1:=c.plc hs' hr' hj
  have h2:=c.plc h.hs h.hr h.hk
  rw[e]at h1
  rw[h.ident]at h2
  have:=congrArg Place.slot (zFu c.keys h1 h2)
  dsimp only at this
  omega
 ·rintro rfl;exact h.ident
theorem Book.Core.less {b:Book} {Q:List (List Nat)} (c:b.Core Q (-1)) (ht:b.Tops (b.flat Q)) {id s:Int} {r:xF} {k:Nat} (h:Told b Q id s r k) {q:Int} (hq:1≤q∧q<(b.a.slotAt k).qty):
 (b.a.takeF k q).2=0∧({b with a:=(b.a.takeF k q).1}:Book).Rep (vW (b.flat Q) id q)∧(b.a.takeF k q).1.slots.length=250∧(b.a.takeF k q).1.getF k=((((b.a.takeF k q).1.slotAt k)).ent,true)∧((b.a.takeF k q).1.slotAt k).id=id:=by
 obtain⟨t1,t2,t3⟩:=c.wf.take (c.get h.hs h.hr) h.hk (q:=q) ⟨hq.1,by omega⟩
 rw[yRd (by omega)]at t3
 obtain⟨w,t4,t5⟩:=t3
 have hent:∀j,((b.a.takeF k q).1.slotAt j).ent=if j=k then{(b.a.slotAt k).ent with qty:=(b.a.slotAt k).qty-q}else(b.a.slotAt j).ent:=by
  intro j
  split
  ·rename_i e;rw[e,t4];rfl
  ·rename_i e;exact(t2 j e).1
 have hid:∀j,((b.a.takeF k q).1.slotAt j).id=(b.a.slotAt j).id:=by
  intro j
  have:=congrArg Ent.id (hent j)
  split at this
  ·rename_i e;rw[e]at this ⊢;exact this
  ·exact this
 have hflat:({b with a:=(b.a.takeF k q).1}:Book).flat Q=vW (b.flat Q) id q:=by
  have side:∀s',s'=1∨s'=2→({b with a:=(b.a.takeF k q).1}:Book).sideL Q s'=vW (b.sideL Q s') id q:=by
   intro s' hs'
   rw[vW,Book.sideL,Book.sideL,List.filterMap_flatMap]
   refine xB fun r' hr'=> ?_
   rw[Book.rOrds,Book.rOrds,List.filterMap_map]
   have:(xA Q r').filterMap (fun j=>some (j9 (b.a.takeF k q).1 s' r'.price j))=(xA Q r').map (j9 (b.a.takeF k q).1 s' r'.price):=by rw[← List.filterMap_eq_map];rfl
   refine this.symm.trans (cI fun j hj=> ?_)
   simp only[Function.comp,j9,z4u,hent]
   have hon:=h.only c hs' hr' hj
   by_cases e:j=k
   ·subst e
    rw[yRe rfl]
    refine((yRe (show(b.a.slotAt j).ent.id=id from h.ident)).trans (yRd fun e=> ?_)).symm
    have e:(b.a.slotAt j).qty=q:=e
    omega
   ·rw[yRd e];exact(yRd (fun e2=>e (hon.1 e2))).symm
  rw[Book.flat,side 1 (.inl rfl),side 2 (.inr rfl),Book.flat,vW,vW,vW,List.filterMap_append]
 have hu:(b.a.takeF k q).1.usedAt k=true:=by
  obtain⟨hk2,⟨_,_,h2⟩,h3⟩:=w.toWf0.mem (c.get h.hs h.hr) h.hk
  have hlt:=w.len
  simp only[Arena.usedAt,yRq,ySs,yRx]
  exact⟨by omega,by omega,h2.used⟩
 refine⟨t1,⟨Q,c.flag w hid,⟨fun o ho=> ?_,fun s' hs' hh=> ?_⟩,hflat.symm⟩,w.len,by rw[Arena.getF,yRe hu,yRx],by rw[hid,h.ident]⟩
 ·obtain⟨o',ho',e⟩:=yWb.1 ho
  have:=ht.fl o' ho'
  split at e
  ·split at e
   ·cases e
   ·cases e;exact this
  ·cases e;exact this
 ·obtain⟨o,ho,o1,o2⟩:=ht.th s' hs' hh
  by_cases e:o.id=id
  ·refine⟨{o with qty:=o.qty-q},yWb.2 ⟨o,ho,?_⟩,o1,o2⟩
   have hg:=m5 c.ids ho
   rw[e,h.get]at hg
   rw[yRe e,yRd (fun e2=>by
    rw[← hg]at e2
    have:(b.a.slotAt k).qty=q:=e2
    omega)]
  ·exact⟨o,yWb.2 ⟨o,ho,yRd e⟩,o1,o2⟩
theorem z0x:∀{l:List (Int×Place)} {k:Int},(l.map (·.1)).Nodup→bR k l=l.filter fun x=> !decide (x.1=k)
 |[],k,_=>rfl
 |(a,b)::l,k,h=>by
  rw[yRs,yTm]at h
  rw[bR]
  by_cases e:k=a
  ·subst e
   rw[yRe rfl,yVs (by simp)]
   symm
   rw[yWo]
   intro x hx
   have:x.1≠k:=fun e=>h.1 (e▸ySc (f:=(·.1)) hx)
   simp[this]
  ·rw[yRd e,yVr (by simp[Ne.symm e]),z0x h.2]
theorem zAz {l:List Nat} (h:l.Nodup) (k:Nat):l.erase k=l.filter fun j=> !decide (j=k):=by
 rw[h.erase_eq_filter]
 refine List.filter_congr fun j _=> ?_
 simp[bne,BEq.beq]
theorem z4z {s:Int} {l:List xF} (hs:l.Pairwise fun r r'=>btr s r.price r'.price=true) {R1 R2:List xF} {r:xF} (hl:l=R1++r::R2):zU s l r.price=R1.length:=by
 subst hl
 rw[List.pairwise_append]at hs
 refine aR (by simp) (fun k hk x hx=> ?_) (fun x hx=> ?_)
 ·rw[yUe hk]at hx
  exact hs.2.2 x (yRp hx) r yRj
 ·rw[yTj (ySk _),yWi]at hx
  cases hx
  exact sF _ _
theorem z9e (b:Book) (id:Int) {s:Int} (hs:s=1∨s=2):(b.unhas s id).a=b.a∧(b.unhas s id).buys=b.buys∧(b.unhas s id).sells=b.sells∧(b.unhas s id).spare=b.spare∧∀s',s'=1∨s'=2→(b.unhas s id).topI s'=b.topI s'∧(b.unhas s id).hasF s'=if s'=s∧b.topI s=id then false else b.hasF s':=by
 rw[Book.unhas]
 by_cases hc:b.hasF s=true∧b.topI s=id
 ·rw[yRe hc]
  rcases hs with rfl|rfl
  ·exact⟨rfl,rfl,rfl,rfl,fun s' h=>by rcases h with rfl|rfl;exact⟨rfl,(yRe ⟨rfl,hc.2⟩).symm⟩;exact⟨rfl,(yRd (fun e=>absurd e.1 (by decide))).symm⟩⟩
  ·exact⟨rfl,rfl,rfl,rfl,fun s' h=>by rcases h with rfl|rfl;exact⟨rfl,(yRd (fun e=>absurd e.1 (by decide))).symm⟩;exact⟨rfl,(yRe ⟨rfl,hc.2⟩).symm⟩⟩
 ·rw[yRd hc]
  refine⟨rfl,rfl,rfl,rfl,fun s' h=>⟨rfl,?_⟩⟩
  split
  ·rename_i e
   rw[e.1]
   cases hh:b.hasF s with
   |false=>rfl
   |true=>exact absurd ⟨hh,e.2⟩ hc
  ·rfl
theorem Book.Core.close {b:Book} {Q:List (List Nat)} {s:Int} (hs:s=1∨s=2) {r:xF} {R1 R2:List xF} (hr:b.rungs s=R1++r::R2) (c:b.Core Q r.queue) (he:xA Q r=[]) {b':Book} (hb:b'=({b with spare:=b.spare++[r.queue]}:Book).setR s (R1++R2)):
 b'.Core Q (-1)∧b'.flat Q=b.flat Q:=by
 obtain⟨g1,g2⟩:=zJb ({b with spare:=b.spare++[r.queue]}:Book) hs (R1++R2)
 rw[← hb]at g1 g2
 have ha:b'.a=b.a:=by rw[hb];rcases hs with rfl|rfl<;>rfl
 have hat:b'.at_=b.at_:=by rw[hb];rcases hs with rfl|rfl<;>rfl
 have hsp:b'.spare=b.spare++[r.queue]:=by rw[hb];rcases hs with rfl|rfl<;>rfl
 have hqs:b'.qs.Perm b.qs:=by
  rw[hb]
  rcases hs with rfl|rfl
  ·have hr:b.buys=R1++r::R2:=hr
   show((R1++R2).map (·.queue)++b.sells.map (·.queue)++(b.spare++[r.queue])).Perm (b.buys.map (·.queue)++b.sells.map (·.queue)++b.spare)
   rw[hr,← yRn]
   refine(yVf _ _).trans ?_
   simp only[yRm,yRs,yRn,ySv]
   exact yRr.symm
  ·have hr:b.sells=R1++r::R2:=hr
   show(b.buys.map (·.queue)++(R1++R2).map (·.queue)++(b.spare++[r.queue])).Perm (b.buys.map (·.queue)++b.sells.map (·.queue)++b.spare)
   rw[hr,← yRn]
   refine(yVf _ _).trans ?_
   simp only[yRm,yRs,yRn,ySv]
   refine .trans ?_ (List.Perm.append_left _ yRr.symm)
   exact yRr.symm
 have hside:∀s',s'=1∨s'=2→b'.sideL Q s'=b.sideL Q s':=by
  intro s' hs'
  have ho:∀x,b'.rOrds Q s' x=b.rOrds Q s' x:=fun x=>by rw[Book.rOrds,Book.rOrds,ha]
  rw[Book.sideL,Book.sideL]
  by_cases e:s'=s
  ·subst e
   rw[g1,hr,ySx,ySx,ySt,xB (fun x _=>ho x),xB (l:=R2) (fun x _=>ho x)]
   rw[show b.rOrds Q s' r=[]by rw[Book.rOrds,he];rfl,yTs]
  ·rw[g2 s' e hs'];exact xB fun x _=>ho x
 have hplc:∀s',s'=1∨s'=2→b'.plcs Q s'=b.plcs Q s':=by
  intro s' hs'
  rw[Book.plcs,Book.plcs,ha]
  by_cases e:s'=s
  ·subst e
   rw[g1,hr,ySx,ySx,ySt,he,yUr,yTs]
  ·rw[g2 s' e hs'];rfl
 have hflat:b'.flat Q=b.flat Q:=by rw[Book.flat,Book.flat,hside 1 (.inl rfl),hside 2 (.inr rfl)]
 have hnd:=hqs.nodup_iff.2 c.nd
 have hmid:r.queue∉(R1++R2).map (·.queue):=by
  intro hm
  have h1:r.queue∈(b'.rungs s).map (·.queue):=by rw[g1];exact hm
  rw[Book.qs]at hnd
  have h2:=(yTg.1 hnd).2.2 r.queue (by
   rcases hs with rfl|rfl
   ·exact ySo _ h1
   ·exact ySq _ h1) r.queue (by rw[hsp];simp)
  exact h2 rfl
 refine⟨⟨by rw[ha];exact c.wf,fun s' hs'=> ?_,fun q hq=>c.rng q (hqs.mem_iff.1 hq),hnd,by rw[hqs.length_eq];exact c.ql,fun s' hs' x hx _=> ?_,fun q hq=> ?_,by rw[hat,hplc 1 (.inl rfl),hplc 2 (.inr rfl)];exact c.at_,by rw[hflat];exact c.ids,c.qb⟩,hflat⟩
 ·by_cases e:s'=s
  ·subst e
   have:=c.srt s' hs'
   rw[hr]at this
   rw[g1]
   exact this.sublist (List.Sublist.append_left (List.sublist_cons_self _ _) _)
  ·rw[g2 s' e hs'];exact c.srt s' hs'
 ·by_cases e:s'=s
  ·subst e
   rw[g1]at hx
   refine c.ne s' hs' x (by rw[hr];rcases ySg.1 hx with h|h;exact ySo _ h;exact ySq _ (yRk _ h)) fun e2=>hmid (e2▸ySc (f:=(·.queue)) hx)
  ·rw[g2 s' e hs']at hx
   refine c.ne s' hs' x hx fun e2=> ?_
   have h1:r.queue∈(b'.rungs s').map (·.queue):=by rw[g2 s' e hs',← e2];exact ySc (f:=(·.queue)) hx
   rw[Book.qs]at hnd
   exact(yTg.1 hnd).2.2 r.queue (by
    rcases hs' with rfl|rfl
    ·exact ySo _ h1
    ·exact ySq _ h1) r.queue (by rw[hsp];simp) rfl
 ·rw[hsp]at hq
  rcases ySg.1 hq with hq|hq
  ·exact c.sp q hq
  ·rw[yTa.1 hq];exact he
open Go Cv Go.Proofs
theorem zLl {L:List zH} (h:(L.map (·.id)).Nodup) {id:Int} (hh:jR L id=true):vW L id (gW L id).qty=L.filter fun o=> !decide (o.id=id):=by
 rw[vW,← List.filterMap_eq_filter]
 refine cI fun o ho=> ?_
 by_cases e:o.id=id
 ·have hg:=m5 h ho
  rw[e]at hg
  rw[yRe e,yRe (by rw[hg])]
  simp[Option.guard,e]
 ·rw[yRd e]
  simp[Option.guard,e]
theorem Book.Core.gone {b:Book} {Q:List (List Nat)} (c:b.Core Q (-1)) (ht:b.Tops (b.flat Q)) {id s:Int} {r:xF} {k:Nat} (h:Told b Q id s r k) {q:Int} (hq:1≤q∧q=(b.a.slotAt k).qty):
 (b.a.takeF k q).2=0∧(({b with a:=(b.a.takeF k q).1}:Book).dropF s id r.price).Rep (vW (b.flat Q) id q)∧(b.a.takeF k q).1.slots.length=250∧(b.a.takeF k q).1.queues.length=b.a.queues.length∧((b.a.takeF k q).1.getF k).2=false∧zU s (b.rungs s) r.price<(b.rungs s).length:=by
 obtain⟨t1,t2,t3⟩:=c.wf.take (c.get h.hs h.hr) h.hk (q:=q) ⟨hq.1,by omega⟩
 rw[yRe hq.2.symm]at t3
 obtain⟨w,t4,t5⟩:=t3
 generalize hA:(b.a.takeF k q).1=a1 at*
 have hget:=c.get h.hs h.hr
 have hnQ:=(yRf.1 hget).1
 have hrq:=c.rng _ (uA h.hs h.hr)
 generalize hQ':Q.set r.queue.toNat ((xA Q r).erase k)=Q' at*
 have hQl:Q'.length=Q.length:=by rw[← hQ',ySj]
 have hnd:(xA Q r).Nodup:=c.wf.nd _ _ hget
 have hqd:∀s' (r':xF),(s'=1∨s'=2)→r'∈b.rungs s'→xA Q' r'=(xA Q r').erase k:=by
  intro s' r' hs' hr'
  by_cases e:r'.queue=r.queue
  ·have e1:xA Q r'=xA Q r:=by rw[xA,xA,e]
   rw[e1,xA,e,← hQ']
   exact zR (gG hnQ)
  ·have h2:xA Q' r'=xA Q r':=by
    have:=c.rng _ (uA hs' hr')
    rw[xA,xA,yRl,yRl,← hQ',wQ (by omega)]
   rw[h2]
   symm
   refine List.erase_of_not_mem fun hk=> ?_
   have:=c.wf.toWf0.one (c.get hs' hr') hget hk h.hk
   have:=c.rng _ (uA hs' hr')
   omega
 have hQo:∀q:Int,0≤q→q≠r.queue→Q'.getD q.toNat []=Q.getD q.toNat []:=by
  intro q h0 hne
  rw[← hQ',yRl,wQ (by omega),yRl]
 obtain⟨u1,u2,u3,u4,u5⟩:=z9e ({b with a:=a1}:Book) id h.hs
 obtain⟨b1,hb1⟩:∃b1:Book,b1={({b with a:=a1}:Book).unhas s id with at_:=bR id b.at_}:=⟨_,rfl⟩
 have v1:b1.a=a1:=by rw[hb1];exact u1
 have v2:b1.buys=b.buys:=by rw[hb1];exact u2
 have v3:b1.sells=b.sells:=by rw[hb1];exact u3
 have v4:b1.spare=b.spare:=by rw[hb1];exact u4
 have v5:b1.at_=bR id b.at_:=by rw[hb1]
 have v6:∀s',s'=1∨s'=2→b1.topI s'=b.topI s'∧b1.hasF s'=if s'=s∧b.topI s=id then false else b.hasF s':=by
  intro s' hs'
  rw[hb1];exact u5 s' hs'
 have vr:∀s',b1.rungs s'=b.rungs s':=by intro s';rw[Book.rungs,Book.rungs,v2,v3]
 have vq:b1.qs=b.qs:=by rw[Book.qs,Book.qs,v2,v3,v4]
 have hord:∀s',s'=1∨s'=2→b1.sideL Q' s'=(b.sideL Q s').filter (fun o=> !decide (o.id=id))∧b1.plcs Q' s'=(b.plcs Q s').filter fun x=> !decide (x.1=id):=by
  intro s' hs'
  rw[Book.sideL,Book.sideL,Book.plcs,Book.plcs,vr,List.filter_flatMap,List.filter_flatMap]
  have key:∀r'∈b.rungs s',∀j∈xA Q r',((b.a.slotAt j).id=id↔j=k)∧(j≠k→j9 a1 s' r'.price j=j9 b.a s' r'.price j∧wK a1 s' r'.price j=wK b.a s' r'.price j):=by
   intro r' hr' j hj
   refine⟨h.only c hs' hr' hj,fun e=> ?_⟩
   have:=(t2 j e).1
   refine⟨by rw[j9,j9,this],?_⟩
   have:=congrArg Ent.id this
   rw[wK,wK]
   exact congrArg (fun i=>(i,(⟨s',r'.price,j⟩:Place))) this
  refine⟨xB fun r' hr'=> ?_,xB fun r' hr'=> ?_⟩
  ·rw[Book.rOrds,Book.rOrds,hqd s' r' hs' hr',zAz (c.wf.nd _ _ (c.get hs' hr')),List.filter_map,v1]
   have e1:(xA Q r').filter ((fun o:zH=> !decide (o.id=id))∘j9 b.a s' r'.price)=(xA Q r').filter fun j=> !decide (j=k):=by
    refine List.filter_congr fun j hj=> ?_
    show(!decide ((b.a.slotAt j).id=id))=_
    rw[decide_eq_decide.2 (key r' hr' j hj).1]
   rw[e1]
   refine ySh fun j hj=> ?_
   rw[yTf]at hj
   exact((key r' hr' j hj.1).2 (by simpa using hj.2)).1
  ·rw[hqd s' r' hs' hr',zAz (c.wf.nd _ _ (c.get hs' hr')),List.filter_map,v1]
   have e1:(xA Q r').filter ((fun x:Int×Place=> !decide (x.1=id))∘wK b.a s' r'.price)=(xA Q r').filter fun j=> !decide (j=k):=by
    refine List.filter_congr fun j hj=> ?_
    show(!decide ((b.a.slotAt j).id=id))=_
    rw[decide_eq_decide.2 (key r' hr' j hj).1]
   rw[e1]
   refine ySh fun j hj=> ?_
   rw[yTf]at hj
   exact((key r' hr' j hj.1).2 (by simpa using hj.2)).2
 have hflat:b1.flat Q'=(b.flat Q).filter fun o=> !decide (o.id=id):=by
  rw[Book.flat,(hord 1 (.inl rfl)).1,(hord 2 (.inr rfl)).1,Book.flat,yUt]
 have hat:b1.at_.Perm (b1.plcs Q' 1++b1.plcs Q' 2):=by
  rw[v5,z0x c.keys,(hord 1 (.inl rfl)).2,(hord 2 (.inr rfl)).2,← yUt]
  exact c.at_.filter _
 have hold:∀s' (r':xF),(s'=1∨s'=2)→r'∈b.rungs s'→xA Q r'≠[]:=fun s' r' hs' hr'=>c.ne s' hs' r' hr' fun e=>by
  have:=c.rng _ (uA hs' hr');omega
 have c1:b1.Core Q' r.queue:=by
  refine⟨by rw[v1];exact w,fun s' hs'=>by rw[vr];exact c.srt s' hs',by rw[vq,hQl];exact c.rng,by rw[vq];exact c.nd,by rw[vq,hQl];exact c.ql,fun s' hs' r' hr' hne=> ?_,fun q hq=> ?_,hat,?_,by rw[hQl];exact c.qb⟩
  ·rw[vr]at hr'
   have e:=hQo r'.queue (c.rng _ (uA hs' hr')).1 hne
   rw[xA,e];exact hold s' r' hs' hr'
  ·rw[v4]at hq
   have hqq:q∈b.qs:=ySq _ hq
   rw[hQo q (c.rng q hqq).1 fun e=> ?_]
   ·exact c.sp q hq
   ·have hcn:=c.nd
    rw[Book.qs]at hcn
    refine(yTg.1 hcn).2.2 r.queue ?_ q hq e.symm
    rcases h.hs with rfl|rfl
    ·exact ySo _ (ySc (f:=(·.queue)) h.hr)
    ·exact ySq _ (ySc (f:=(·.queue)) h.hr)
  ·rw[hflat]
   exact c.ids.sublist (List.Sublist.map _ yWp)
 have htk:vW (b.flat Q) id q=b1.flat Q':=by
  rw[hflat,← zLl c.ids h.has,h.get,hq.2];rfl
 have hm1:∀o,o∈b1.flat Q'↔o∈b.flat Q∧o.id≠id:=by
  intro o;rw[hflat,yTf];simp
 have ht1:∀b2:Book,(∀x,b2.hasF x=b1.hasF x∧b2.topI x=b1.topI x)→b2.Tops (b1.flat Q'):=by
  intro b2 hb2
  refine⟨fun o ho=> ?_,fun s' hs' hh=> ?_⟩
  ·rw[(hb2 _).1,(hb2 _).2]
   obtain⟨ho,hne⟩:=(hm1 o).1 ho
   have hs':=(aA ho).1
   rw[(v6 _ hs').1,(v6 _ hs').2,ht.fl o ho]
   split
   ·rename_i e
    rw[e.1,e.2,yRo hne,yVy,yVy]
   ·rfl
  ·rw[(hb2 _).1,(v6 s' hs').2]at hh
   rw[(hb2 _).2,(v6 s' hs').1]
   split at hh
   ·cases hh
   ·rename_i e
    obtain⟨o,ho,o1,o2⟩:=ht.th s' hs' hh
    refine⟨o,(hm1 o).2 ⟨ho,fun e2=>e ?_⟩,o1,o2⟩
    have hg:=m5 c.ids ho
    rw[e2,h.get]at hg
    have hsd:s'=s:=by rw[← o1,← hg];rfl
    exact⟨hsd,by rw[← hsd,← o2,e2]⟩
 obtain⟨R1,R2,hsplit⟩:=List.append_of_mem h.hr
 have hfn:=z4z (c.srt s h.hs) hsplit
 have hgd:(b.rungs s).getD (zU s (b.rungs s) r.price) ⟨0,0⟩=r:=by
  rw[hfn,hsplit]
  refine zR ?_
  rw[yTj (ySk _),yWi];rfl
 have hfl:zU s (b.rungs s) r.price<(b.rungs s).length:=by rw[hfn,hsplit];simp
 have hQr:Q'[r.queue.toNat]? =some ((xA Q r).erase k):=by rw[← hQ'];exact gG hnQ
 have hcount:(a1.qAt r.queue).count=((xA Q r).erase k).length:=by
  have:=w.q _ _ hQr
  have hql:=w.ql
  rw[zNs hrq.1 this]
 have er:xA Q' r=(xA Q r).erase k:=zR hQr
 have hru:({b with a:=a1}:Book).rungs s=b.rungs s:=rfl
 have hus:(a1.getF k).2=false:=by
  have:a1.usedAt k=false:=by
   have e:a1.slotAt k=slot0:=t4
   rw[Arena.slotAt]at e
   rw[Arena.usedAt,yRx,e];simp[slot0]
  rw[Arena.getF,yRd (by rw[this];decide)]
 refine⟨t1,?_,w.len,by rw[w.ql,c.wf.ql,hQl],hus,hfl⟩
 rw[Book.dropF,hru,hgd]
 by_cases hz:(a1.qAt r.queue).count=0
 ·rw[yRe hz]
  have he:xA Q' r=[]:=by
   rw[er]
   refine ySe ?_
   omega
  obtain⟨k1,k2⟩:=Book.Core.close h.hs (by rw[vr];exact hsplit) c1 he rfl
  have ebk:(({({b with a:=a1}:Book).unhas s id with at_:=bR id b.at_,spare:=b.spare++[r.queue]}:Book).setR s ((b.rungs s).take (zU s (b.rungs s) r.price)++(b.rungs s).drop (zU s (b.rungs s) r.price+1)))=(({b1 with spare:=b1.spare++[r.queue]}:Book).setR s (R1++R2)):=by
   have e1:(b.rungs s).take (zU s (b.rungs s) r.price)++(b.rungs s).drop (zU s (b.rungs s) r.price+1)=R1++R2:=by
    rw[hfn,hsplit,List.take_left]
    congr 1
    rw[yVx,yUj (by omega),Nat.add_sub_cancel_left];rfl
   rw[e1,v4,hb1]
  refine⟨Q',?_,?_,?_⟩
  ·exact ebk▸k1
  ·rw[htk]
   refine ht1 _ fun x=> ?_
   show(Book.hasF (({({b with a:=a1}:Book).unhas s id with at_:=bR id b.at_,spare:=b.spare++[r.queue]}:Book).setR s ((b.rungs s).take (zU s (b.rungs s) r.price)++(b.rungs s).drop (zU s (b.rungs s) r.price+1))) x=_∧Book.topI (({({b with a:=a1}:Book).unhas s id with at_:=bR id b.at_,spare:=b.spare++[r.queue]}:Book).setR s ((b.rungs s).take (zU s (b.rungs s) r.price)++(b.rungs s).drop (zU s (b.rungs s) r.price+1))) x=_)
   rw[ebk]
   rcases h.hs with rfl|rfl<;>exact⟨rfl,rfl⟩
  ·rw[htk]
   show _=Book.flat (({({b with a:=a1}:Book).unhas s id with at_:=bR id b.at_,spare:=b.spare++[r.queue]}:Book).setR s ((b.rungs s).take (zU s (b.rungs s) r.price)++(b.rungs s).drop (zU s (b.rungs s) r.price+1))) Q'
   rw[ebk];exact k2.symm
 ·rw[yRd hz]
  have c2:b1.Core Q' (-1):=⟨c1.wf,c1.srt,c1.rng,c1.nd,c1.ql,fun s' hs' r' hr' _=>by
   by_cases e:r'.queue=r.queue
   ·rw[xA,e]
    intro e2
    rw[xA]at er
    rw[er]at e2
    rw[hcount,e2]at hz
    exact hz rfl
   ·exact c1.ne s' hs' r' hr' e,c1.sp,c1.at_,c1.ids,c1.qb⟩
  have hh:({({b with a:=a1}:Book).unhas s id with at_:=bR id b.at_}:Book)=b1:=hb1.symm
  show Book.Rep {({b with a:=a1}:Book).unhas s id with at_:=bR id b.at_} _
  rw[hh,htk]
  exact⟨Q',c2,ht1 b1 fun _=>⟨rfl,rfl⟩,rfl⟩
open Go Cv Go.Proofs
theorem nG (k:Int):∀l,tL (Value.int IntKind.i64 k) (atE l)=atE (bR k l)
 |[]=>rfl
 |(a,b)::l=>by
  have ih:=nG k l
  show(bif (keq .i64 .i64 && decide (k=a))then atE l else _::tL _ (atE l))=_
  rw[ih,bR]
  by_cases h:k=a
  ·subst h;simp[keq]
  ·simp[h,atE]
theorem z0k:delRC.ok Tryz.prog 230:=
 delX_ok mixed Tryz.func230 rfl (by kernel_rfl) (by kernel_rfl) (by kernel_rfl) (by kernel_rfl) zCh rfl (by decide) (fun s sn sk i j w R=>by kernel_rfl)
theorem dup {X:Prop} {n:Int} (h:X):X∧n=n∧True∧X:=⟨h,rfl,trivial,h⟩
theorem Book.Core.small {b:Book} {Q:List (List Nat)} (c:b.Core Q (-1)):b.small:=by
 have hq:=c.qb
 have h1:=c.ql
 have h2:=c.wf.ql
 have h3:=c.wf.len
 rw[Book.qs,yRi,yRi,yRg,yRg]at h1
 exact⟨⟨by omega,by omega⟩,by omega,by omega,by omega⟩
theorem yJa (i:DrI) (h:drop1C.cnd i):yAr i:=by
 obtain⟨hsm,hn⟩:i.ok 1:=h
 obtain⟨⟨ha1,ha2⟩,hb1,hb2,hsp⟩:=id hsm
 have hn:zU 1 i.b.buys i.price<i.b.buys.length:=hn
 obtain⟨r,hr⟩:=yD (l:=i.b.buys) hn
 have hgd:((i.b.rungs 1).getD (zU 1 (i.b.rungs 1) i.price) ⟨0,0⟩)=r:=zR hr
 have hw:∀k:Int,IntKind.i64.wrap ((zU 1 (i.b.rungs 1) i.price:Int)+1)=((zU 1 (i.b.rungs 1) i.price+1:Nat):Int):=fun _=>by
  have:=l9 1 i.price (i.b.rungs 1)
  have hl:(i.b.rungs 1).length≤1000000:=by show i.b.buys.length≤_;omega
  rw[w64 (by omega)];rfl
 have hn2:((zU 1 (i.b.rungs 1) i.price:Nat):Int)<((List.map zB i.b.buys).length:Int):=by
  rw[yRg]
  show((zU 1 i.b.buys i.price:Nat):Int)<_
  omega
 unfold yAr zIa zDn hD wU x3 xM y6 dI
 refine⟨jG _ _,Cv.cnd.mk (fun c1=>Cv.cnd.mk (fun c2=> ?_) (fun c2=> ?_)) (fun c1=> ?_)⟩
 ·have c2:i.b.top1=i.id:=by simpa using c2
  have hu:i.b.unhas 1 i.id={i.b with has1:=false}:=by rw[Book.unhas,yRe ⟨c1,c2⟩];rfl
  refine⟨⟨{i.b with has1:=false,at_:=bR i.id i.b.at_},i.price⟩,rfl,rfl,rfl,rfl,rfl,rfl,rfl,rfl,rfl,(nG _ _).symm,rfl,hsm,fun _ _=>⟨⟨by omega,hn2⟩,r.queue,elA hr (by simp[zB]) rfl,⟨i.b.a,r.queue⟩,rfl,rfl,trivial,fun _ _=>Cv.cnd.mk (fun e=>⟨by simp only[yY];omega,⟨i.b.buys.map zB,zU 1 (i.b.rungs 1) i.price,zU 1 (i.b.rungs 1) i.price+1⟩,rfl,(hw 0).symm,rfl,⟨yWn _,by rw[yRg];exact hn⟩,fun _ _=>⟨rfl,(),?_⟩⟩) (fun e=>⟨(),?_⟩)⟩⟩
  ·have e:(i.b.a.qAt r.queue).count=0:=by simpa using e
   rw[Book.dropF,hgd,yRe e,hu]
   refine⟨rfl,rfl,rfl,rfl,rfl,rfl,?_,rfl,?_,trivial⟩
   ·show List.map zB (i.b.buys.take _++i.b.buys.drop _)=_
    rw[yRm,yVe,yWe]
   ·show iE (i.b.spare++[r.queue])=_
    simp[iE]
  ·have e:¬(i.b.a.qAt r.queue).count=0:=by simpa using e
   rw[Book.dropF,hgd,yRd e,hu]
   exact⟨rfl,rfl,rfl,rfl,rfl,rfl,rfl,rfl,rfl,trivial⟩
 ·have c2:¬i.b.top1=i.id:=by simpa using c2
  have hu:i.b.unhas 1 i.id={i.b with has1:=i.b.has1}:=by rw[Book.unhas,yRd (fun e=>c2 e.2)]
  refine⟨⟨{i.b with has1:=i.b.has1,at_:=bR i.id i.b.at_},i.price⟩,rfl,rfl,rfl,rfl,rfl,rfl,rfl,rfl,rfl,(nG _ _).symm,rfl,hsm,fun _ _=>⟨⟨by omega,hn2⟩,r.queue,elA hr (by simp[zB]) rfl,⟨i.b.a,r.queue⟩,rfl,rfl,trivial,fun _ _=>Cv.cnd.mk (fun e=>⟨by simp only[yY];omega,⟨i.b.buys.map zB,zU 1 (i.b.rungs 1) i.price,zU 1 (i.b.rungs 1) i.price+1⟩,rfl,(hw 0).symm,rfl,⟨yWn _,by rw[yRg];exact hn⟩,fun _ _=>⟨rfl,(),?_⟩⟩) (fun e=>⟨(),?_⟩)⟩⟩
  ·have e:(i.b.a.qAt r.queue).count=0:=by simpa using e
   rw[Book.dropF,hgd,yRe e,hu]
   refine⟨rfl,rfl,rfl,rfl,rfl,rfl,?_,rfl,?_,trivial⟩
   ·show List.map zB (i.b.buys.take _++i.b.buys.drop _)=_
    rw[yRm,yVe,yWe]
   ·show iE (i.b.spare++[r.queue])=_
    simp[iE]
  ·have e:¬(i.b.a.qAt r.queue).count=0:=by simpa using e
   rw[Book.dropF,hgd,yRd e,hu]
   exact⟨rfl,rfl,rfl,rfl,rfl,rfl,rfl,rfl,rfl,trivial⟩
 ·have hu:i.b.unhas 1 i.id={i.b with has1:=i.b.has1}:=by
   rw[Book.unhas,yRd]
   rintro⟨e,_⟩
   exact absurd (show i.b.has1=true from e) (by rw[c1];decide)
  refine⟨⟨{i.b with has1:=i.b.has1,at_:=bR i.id i.b.at_},i.price⟩,rfl,rfl,rfl,rfl,rfl,rfl,rfl,rfl,rfl,(nG _ _).symm,rfl,hsm,fun _ _=>⟨⟨by omega,hn2⟩,r.queue,elA hr (by simp[zB]) rfl,⟨i.b.a,r.queue⟩,rfl,rfl,trivial,fun _ _=>Cv.cnd.mk (fun e=>⟨by simp only[yY];omega,⟨i.b.buys.map zB,zU 1 (i.b.rungs 1) i.price,zU 1 (i.b.rungs 1) i.price+1⟩,rfl,(hw 0).symm,rfl,⟨yWn _,by rw[yRg];exact hn⟩,fun _ _=>⟨rfl,(),?_⟩⟩) (fun e=>⟨(),?_⟩)⟩⟩
  ·have e:(i.b.a.qAt r.queue).count=0:=by simpa using e
   rw[Book.dropF,hgd,yRe e,hu]
   refine⟨rfl,rfl,rfl,rfl,rfl,rfl,?_,rfl,?_,trivial⟩
   ·show List.map zB (i.b.buys.take _++i.b.buys.drop _)=_
    rw[yRm,yVe,yWe]
   ·show iE (i.b.spare++[r.queue])=_
    simp[iE]
  ·have e:¬(i.b.a.qAt r.queue).count=0:=by simpa using e
   rw[Book.dropF,hgd,yRd e,hu]
   exact⟨rfl,rfl,rfl,rfl,rfl,rfl,rfl,rfl,rfl,trivial⟩
theorem z5q:drop1C.ok Tryz.prog 196:=okw mixed (gokc zGy (gokc zDb (gokc z0k gok0))) 0 (fun _=>[]) (fun _=>[]) [] Tryz.func196 yJa
theorem yKv (i:DrI) (h:drop2C.cnd i):z6i i:=by
 obtain⟨hsm,hn⟩:i.ok 2:=h
 obtain⟨⟨ha1,ha2⟩,hb1,hb2,hsp⟩:=id hsm
 have hn:zU 2 i.b.sells i.price<i.b.sells.length:=hn
 obtain⟨r,hr⟩:=yD (l:=i.b.sells) hn
 have hgd:((i.b.rungs 2).getD (zU 2 (i.b.rungs 2) i.price) ⟨0,0⟩)=r:=zR hr
 have hw:∀k:Int,IntKind.i64.wrap ((zU 2 (i.b.rungs 2) i.price:Int)+1)=((zU 2 (i.b.rungs 2) i.price+1:Nat):Int):=fun _=>by
  have:=l9 2 i.price (i.b.rungs 2)
  have hl:(i.b.rungs 2).length≤1000000:=by show i.b.sells.length≤_;omega
  rw[w64 (by omega)];rfl
 have hn2:((zU 2 (i.b.rungs 2) i.price:Nat):Int)<((List.map zB i.b.sells).length:Int):=by
  rw[yRg]
  show((zU 2 i.b.sells i.price:Nat):Int)<_
  omega
 unfold z6i zKf zCd uX wS x3 xN y7 dI
 refine⟨jG _ _,Cv.cnd.mk (fun c1=>Cv.cnd.mk (fun c2=> ?_) (fun c2=> ?_)) (fun c1=> ?_)⟩
 ·have c2:i.b.top2=i.id:=by simpa using c2
  have hu:i.b.unhas 2 i.id={i.b with has2:=false}:=by rw[Book.unhas,yRe ⟨c1,c2⟩];rfl
  refine⟨⟨{i.b with has2:=false,at_:=bR i.id i.b.at_},i.price⟩,rfl,rfl,rfl,rfl,rfl,rfl,rfl,rfl,rfl,(nG _ _).symm,rfl,hsm,fun _ _=>⟨⟨by omega,hn2⟩,r.queue,elA hr (by simp[zB]) rfl,⟨i.b.a,r.queue⟩,rfl,rfl,trivial,fun _ _=>Cv.cnd.mk (fun e=>⟨by simp only[yY];omega,⟨i.b.sells.map zB,zU 2 (i.b.rungs 2) i.price,zU 2 (i.b.rungs 2) i.price+1⟩,rfl,(hw 0).symm,rfl,⟨yWn _,by rw[yRg];exact hn⟩,fun _ _=>⟨rfl,(),?_⟩⟩) (fun e=>⟨(),?_⟩)⟩⟩
  ·have e:(i.b.a.qAt r.queue).count=0:=by simpa using e
   rw[Book.dropF,hgd,yRe e,hu]
   refine⟨rfl,rfl,rfl,rfl,rfl,rfl,rfl,?_,?_,trivial⟩
   ·show List.map zB (i.b.sells.take _++i.b.sells.drop _)=_
    rw[yRm,yVe,yWe]
   ·show iE (i.b.spare++[r.queue])=_
    simp[iE]
  ·have e:¬(i.b.a.qAt r.queue).count=0:=by simpa using e
   rw[Book.dropF,hgd,yRd e,hu]
   exact⟨rfl,rfl,rfl,rfl,rfl,rfl,rfl,rfl,rfl,trivial⟩
 ·have c2:¬i.b.top2=i.id:=by simpa using c2
  have hu:i.b.unhas 2 i.id={i.b with has2:=i.b.has2}:=by rw[Book.unhas,yRd (fun e=>c2 e.2)]
  refine⟨⟨{i.b with has2:=i.b.has2,at_:=bR i.id i.b.at_},i.price⟩,rfl,rfl,rfl,rfl,rfl,rfl,rfl,rfl,rfl,(nG _ _).symm,rfl,hsm,fun _ _=>⟨⟨by omega,hn2⟩,r.queue,elA hr (by simp[zB]) rfl,⟨i.b.a,r.queue⟩,rfl,rfl,trivial,fun _ _=>Cv.cnd.mk (fun e=>⟨by simp only[yY];omega,⟨i.b.sells.map zB,zU 2 (i.b.rungs 2) i.price,zU 2 (i.b.rungs 2) i.price+1⟩,rfl,(hw 0).symm,rfl,⟨yWn _,by rw[yRg];exact hn⟩,fun _ _=>⟨rfl,(),?_⟩⟩) (fun e=>⟨(),?_⟩)⟩⟩
  ·have e:(i.b.a.qAt r.queue).count=0:=by simpa using e
   rw[Book.dropF,hgd,yRe e,hu]
   refine⟨rfl,rfl,rfl,rfl,rfl,rfl,rfl,?_,?_,trivial⟩
   ·show List.map zB (i.b.sells.take _++i.b.sells.drop _)=_
    rw[yRm,yVe,yWe]
   ·show iE (i.b.spare++[r.queue])=_
    simp[iE]
  ·have e:¬(i.b.a.qAt r.queue).count=0:=by simpa using e
   rw[Book.dropF,hgd,yRd e,hu]
   exact⟨rfl,rfl,rfl,rfl,rfl,rfl,rfl,rfl,rfl,trivial⟩
 ·have hu:i.b.unhas 2 i.id={i.b with has2:=i.b.has2}:=by
   rw[Book.unhas,yRd]
   rintro⟨e,_⟩
   exact absurd (show i.b.has2=true from e) (by rw[c1];decide)
  refine⟨⟨{i.b with has2:=i.b.has2,at_:=bR i.id i.b.at_},i.price⟩,rfl,rfl,rfl,rfl,rfl,rfl,rfl,rfl,rfl,(nG _ _).symm,rfl,hsm,fun _ _=>⟨⟨by omega,hn2⟩,r.queue,elA hr (by simp[zB]) rfl,⟨i.b.a,r.queue⟩,rfl,rfl,trivial,fun _ _=>Cv.cnd.mk (fun e=>⟨by simp only[yY];omega,⟨i.b.sells.map zB,zU 2 (i.b.rungs 2) i.price,zU 2 (i.b.rungs 2) i.price+1⟩,rfl,(hw 0).symm,rfl,⟨yWn _,by rw[yRg];exact hn⟩,fun _ _=>⟨rfl,(),?_⟩⟩) (fun e=>⟨(),?_⟩)⟩⟩
  ·have e:(i.b.a.qAt r.queue).count=0:=by simpa using e
   rw[Book.dropF,hgd,yRe e,hu]
   refine⟨rfl,rfl,rfl,rfl,rfl,rfl,rfl,?_,?_,trivial⟩
   ·show List.map zB (i.b.sells.take _++i.b.sells.drop _)=_
    rw[yRm,yVe,yWe]
   ·show iE (i.b.spare++[r.queue])=_
    simp[iE]
  ·have e:¬(i.b.a.qAt r.queue).count=0:=by simpa using e
   rw[Book.dropF,hgd,yRd e,hu]
   exact⟨rfl,rfl,rfl,rfl,rfl,rfl,rfl,rfl,rfl,trivial⟩
theorem z7x:drop2C.ok Tryz.prog 196:=okw mixed (gokc zJr (gokc zDb (gokc z0k gok0))) 0 (fun _=>[]) (fun _=>[]) [] Tryz.func196 yKv
theorem yCb:dropC.ok Tryz.prog 196:=fun j=>match j with
 |⟨i,false⟩=>z5q i
 |⟨i,true⟩=>z7x i
theorem yEs {a:Arena} {k:Nat} {p t:Int} {m:Nat} (h:zOn (a.slotAt k) m k p t) (hl:k<a.slots.length):a.getF k=((a.slotAt k).ent,true):=by
 have:a.usedAt k=true:=by
  simp only[Arena.usedAt,yRq,ySs,yRx]
  exact⟨by omega,by omega,h.used⟩
 rw[Arena.getF,yRe this,yRx]
theorem zSw {b:Book} {Q:List (List Nat)} (c:b.Core Q (-1)) {id s:Int} {r:xF} {k:Nat} (h:Told b Q id s r k):b.a.getF k=((b.a.slotAt k).ent,true)∧(b.a.slotAt k).qty≤1000000∧1≤(b.a.slotAt k).qty:=by
 obtain⟨h1,⟨p,t,h2⟩,h3⟩:=c.wf.toWf0.mem (c.get h.hs h.hr) h.hk
 exact⟨yEs h2 (by rw[c.wf.len];exact h1),h2.q2,c.wf.pos _ _ (c.get h.hs h.hr) _ h.hk⟩
theorem yIg (i:FlI) (h:bfindC.cnd i):z5c i:=by
 obtain⟨Q,c,ht,hL⟩:i.b.Rep i.L:=h
 unfold z5c zCm lL mU dI
 rcases c.told i.id with⟨hg,hn⟩|⟨s,r,k,hT⟩
 ·refine⟨jG _ _,false,0,0,0,.inr ⟨?_,rfl,rfl⟩,Cv.cnd.mk (fun _=> ?_) (fun e=>absurd e (by decide))⟩
  ·rw[sI,hg];rfl
  ·rw[← hL]at hn
   rw[yLy hn,hn]
   exact⟨(),by(repeat'(first|exact trivial|exact rfl|apply And.intro))⟩
 ·refine⟨jG _ _,true,s,r.price,k,.inl ⟨?_,rfl⟩,Cv.cnd.mk (fun e=>absurd e (by decide)) (fun _=>dup ⟨⟨i.b.a,k⟩,rfl,rfl,by dsimp only;rw[c.wf.len];decide,fun _ _=>⟨(),?_⟩⟩)⟩
  ·rw[sI,hT.e];rfl
  ·have h1:=hT.get
   have h2:=hT.has
   rw[← hL]at h1 h2
   rw[h1,h2,(zSw c hT).1]
   exact⟨hT.ident,by(repeat'(first|exact trivial|exact rfl|apply And.intro))⟩
theorem zTn:bfindC.ok Tryz.prog 105:=okw mixed (gokc zYh gok0) 0 (fun _=>[]) (fun _=>[]) [0] Tryz.func105 yIg
theorem Book.Core.okAt {b:Book} {Q:List (List Nat)} (c:b.Core Q (-1)):b.a.okAt:=c.wf.toWf0.ok
theorem yMn (i:FlI) (h:fillC.cnd i):yGj i:=by
 have hR:i.b.Rep i.L:=h
 obtain⟨Q,c,ht,hL⟩:=id hR
 unfold yGj zPi zJg wA tG mU dI
 rcases c.told i.id with⟨hg,hn⟩|⟨s,r,k,hT⟩
 ·refine⟨jG _ _,false,0,0,0,.inr ⟨?_,rfl,rfl⟩,Cv.cnd.mk (fun _=> ?_) (fun e=>absurd e (by simp))⟩
  ·rw[sI,hg];rfl
  ·rw[← hL]at hn
   rw[xU,yRe hn]
   exact⟨i.b,rfl,rfl,rfl,rfl,rfl,rfl,rfl,rfl,rfl,rfl,hR⟩
 have hg:=hT.get
 have hh:=hT.has
 rw[← hL]at hg hh
 obtain⟨hsg,hq1,hq2⟩:=zSw c hT
 have hqq:(gW i.L i.id).qty=(i.b.a.slotAt k).qty:=by rw[hg];rfl
 refine⟨jG _ _,true,s,r.price,k,.inl ⟨?_,rfl⟩,Cv.cnd.mk (fun e=>absurd e (by simp)) (fun _=>⟨⟨i.b.a,k,i.qty⟩,rfl,rfl,rfl,c.okAt,fun _ _=> ?_⟩)⟩
 ·rw[sI,hT.e];rfl
 dsimp only
 have hu:i.b.a.usedAt k=true:=by
  cases hu:i.b.a.usedAt k with
  |true=>rfl
  |false=>rw[Arena.getF,yRd (by rw[hu];decide)]at hsg;exact absurd (congrArg Prod.snd hsg) (by simp)
 by_cases hb:i.qty<1∨(i.b.a.slotAt k).qty<i.qty
 ·have ht:i.b.a.takeF k i.qty=(i.b.a,24):=by rw[Arena.takeF,yRd (by rw[hu];decide),yRx,yRe hb]
  rw[ht]
  refine Cv.cnd.mk (fun _=> ?_) (fun e=>absurd e (by simp))
  rw[xU,yRd (by rw[hh];decide),yRe (by rw[hqq];exact hb)]
  exact⟨i.b,rfl,rfl,rfl,rfl,rfl,rfl,rfl,rfl,rfl,rfl,hR⟩
 have hfl:xU i.L i.id i.qty=(vW i.L i.id i.qty,0):=by rw[xU,yRd (by rw[hh];decide),yRd (by rw[hqq];exact hb)]
 by_cases hf:i.qty=(i.b.a.slotAt k).qty
 ·obtain⟨g1,g2,g3,g4,g5,g6⟩:=c.gone (by rw[← hL];exact ht) hT (q:=i.qty) ⟨by omega,hf⟩
  rw[← hL]at g2
  have hsm:=c.small
  rw[g1]
  refine Cv.cnd.mk (fun e=>absurd e (by simp)) (fun _=>dup ⟨⟨(i.b.a.takeF k i.qty).1,k⟩,rfl,rfl,by dsimp only;rw[g3];decide,fun _ _=> ?_⟩)
  dsimp only
  rw[g5]
  refine Cv.cnd.mk (fun _=> ?_) (fun e=>absurd e (by simp))
  rcases hT.hs with rfl|rfl
  ·refine⟨⟨⟨{i.b with a:=(i.b.a.takeF k i.qty).1},i.id,r.price,k⟩,false⟩,rfl,rfl,rfl,rfl,rfl,rfl,rfl,rfl,rfl,rfl,rfl,rfl,rfl,⟨⟨⟨by dsimp only;rw[g3];decide,by dsimp only;rw[g4];exact hsm.1.2⟩,hsm.2⟩,g6⟩,fun _ _=> ?_⟩
   refine⟨({i.b with a:=(i.b.a.takeF k i.qty).1}:Book).dropF 1 i.id r.price,by rw[hfl],rfl,rfl,rfl,rfl,rfl,rfl,rfl,rfl,rfl,by rw[hfl];exact g2⟩
  ·refine⟨⟨⟨{i.b with a:=(i.b.a.takeF k i.qty).1},i.id,r.price,k⟩,true⟩,rfl,rfl,rfl,rfl,rfl,rfl,rfl,rfl,rfl,rfl,rfl,rfl,rfl,⟨⟨⟨by dsimp only;rw[g3];decide,by dsimp only;rw[g4];exact hsm.1.2⟩,hsm.2⟩,g6⟩,fun _ _=> ?_⟩
   refine⟨({i.b with a:=(i.b.a.takeF k i.qty).1}:Book).dropF 2 i.id r.price,by rw[hfl],rfl,rfl,rfl,rfl,rfl,rfl,rfl,rfl,rfl,by rw[hfl];exact g2⟩
 ·obtain⟨g1,g2,g3,g4,g5⟩:=c.less (by rw[← hL];exact ht) hT (q:=i.qty) (by omega)
  rw[← hL]at g2
  rw[g1]
  refine Cv.cnd.mk (fun e=>absurd e (by simp)) (fun _=>dup ⟨⟨(i.b.a.takeF k i.qty).1,k⟩,rfl,rfl,by dsimp only;rw[g3];decide,fun _ _=> ?_⟩)
  dsimp only
  rw[g4]
  refine Cv.cnd.mk (fun e=>absurd e (by simp)) (fun _=>Cv.cnd.mk (fun e=> ?_) (fun _=> ?_))
  ·have e:¬((i.b.a.takeF k i.qty).1.slotAt k).ent.id=i.id:=by simpa using e
   exact absurd g5 e
  ·exact⟨{i.b with a:=(i.b.a.takeF k i.qty).1},by rw[hfl],rfl,rfl,rfl,rfl,rfl,rfl,rfl,rfl,rfl,by rw[hfl];exact g2⟩
theorem yEd:fillC.ok Tryz.prog 157:=okw mixed (gokc z8w (gokc zYh (gokc yCb gok0))) 0 (fun _=>[]) (fun _=>[]) [0] Tryz.func157 yMn
theorem zQc (A B:List zH) (s p:Int):atL (A++B) s p=atL A s p++atL B s p:=yUt _ _
theorem zPa {A:List zH} {s p:Int} (h:∀o∈A,o.side=s→o.price≠p):atL A s p=[]:=by
 rw[atL,List.filter_eq_nil_iff]
 intro o ho
 by_cases e:o.side=s
 ·simp[h o ho e]
 ·simp[e]
theorem yDj {A:List zH} {s p:Int} (h:∀o∈A,o.side=s∧o.price=p):atL A s p=A:=by
 rw[atL,yWo]
 intro o ho
 simp[h o ho]
theorem zHi {s x y:Int} (h:btr s x y=true):x≠y:=by
 rintro rfl;rw[sF]at h;cases h
theorem Book.Core.at_no {b:Book} {Q:List (List Nat)} (c:b.Core Q (-1)) {s p:Int} (hs:s=1∨s=2) (h:qX s (b.rungs s) p=false):atL (b.flat Q) s p=[]:=by
 have hsp:=eR (p:=p) (c.srt s hs)
 rw[yRd (by rw[h];decide)]at hsp
 refine zPa fun o ho e=> ?_
 obtain⟨_,r,hr,_,hp⟩:=aA ho
 rw[e]at hr
 rw[hp]
 rw[← yTq (zU s (b.rungs s) p) (b.rungs s)]at hr
 rcases ySg.1 hr with hr|hr
 ·exact zHi (hsp.1 r hr)
 ·exact(zHi (hsp.2 r hr)).symm
theorem Book.Core.at_yes {b:Book} {Q:List (List Nat)} (c:b.Core Q (-1)) {s p:Int} (hs:s=1∨s=2) (h:qX s (b.rungs s) p=true):∃r,(b.rungs s)[zU s (b.rungs s) p]? =some r∧r.price=p∧r∈b.rungs s∧atL (b.flat Q) s p=b.rOrds Q s r:=by
 have hsp:=eR (p:=p) (c.srt s hs)
 rw[yRe h]at hsp
 obtain⟨h1,r,hr,hp,h2⟩:=hsp
 have hlt:=(yRf.1 hr).1
 refine⟨r,hr,hp,yRp hr,?_⟩
 have hsplit:b.rungs s=(b.rungs s).take (zU s (b.rungs s) p)++r::(b.rungs s).drop (zU s (b.rungs s) p+1):=by
  conv=>lhs;rw[← yTq (zU s (b.rungs s) p) (b.rungs s)]
  rw[yTp hlt,(yRf.1 hr).2]
 have hside:atL (b.sideL Q s) s p=b.rOrds Q s r:=by
  rw[Book.sideL,hsplit,ySx,ySt,zQc,zQc,zPa,yDj,zPa,ySa,yTs]
  ·intro o ho _
   obtain⟨r',hr',ho⟩:=yTr.1 ho
   rw[(x7 ho).2];exact(zHi (h2 r' hr')).symm
  ·intro o ho
   rw[← hp];exact x7 ho
  ·intro o ho _
   obtain⟨r',hr',ho⟩:=yTr.1 ho
   rw[(x7 ho).2];exact zHi (h1 r' hr')
 have hother:∀s',s'≠s→atL (b.sideL Q s') s p=[]:=fun s' hne=>zPa fun o ho e=>absurd ((cP ho).1.symm.trans e) hne
 rw[Book.flat,zQc]
 rcases hs with rfl|rfl
 ·rw[hside,hother 2 (by decide),ySa]
 ·rw[hside,hother 1 (by decide),yTs]
theorem Book.Core.listOk {b:Book} {Q:List (List Nat)} (c:b.Core Q (-1)) {s:Int} (hs:s=1∨s=2) {r:xF} (hr:r∈b.rungs s):b.a.listOk r.queue (xA Q r):=by
 have hg:=c.get hs hr
 have hrq:=c.rng _ (uA hs hr)
 refine⟨by have:=c.wf.toWf0.short hg;omega,?_⟩
 rw[yRe ⟨hrq.1,by rw[c.wf.ql];exact hrq.2⟩,zR (c.wf.q _ _ hg)]
 exact zMf (c.wf.sg _ _ hg)
theorem yQv (i:AtI) (h:at1C.cnd i):yOa i:=by
 obtain⟨Q,c,ht,hL⟩:i.b.Rep i.L:=h
 unfold yOa hD wU x3 xM wP dI
 refine⟨1,rfl,trivial,fun _ _=>Cv.cnd.mk (fun e=>absurd e (by decide)) fun _=>⟨⟨i.b,i.price⟩,rfl,rfl,rfl,rfl,rfl,rfl,rfl,rfl,rfl,rfl,rfl,c.small,fun _ _=>Cv.cnd.mk (fun e=> ?_) (fun e=> ?_)⟩⟩
 ·have e:qX 1 (i.b.rungs 1) i.price=false:=by simpa using e
  have:=c.at_no (.inl rfl) e
  rw[← hL]at this
  refine⟨(),rfl,rfl,rfl,rfl,rfl,rfl,rfl,rfl,rfl,?_,trivial⟩
  show List.map j8 (atL i.L 1 i.price)=[]
  rw[this];rfl
 ·have e:qX 1 (i.b.rungs 1) i.price=true:=by simpa using e
  obtain⟨r,hr,hp,hm,ha⟩:=c.at_yes (.inl rfl) e
  rw[← hL]at ha
  have hlt:=(yRf.1 hr).1
  refine⟨⟨by omega,by rw[yRg];exact Int.ofNat_lt.2 hlt⟩,r.price,r.queue,elA hr (by simp[zB]) rfl,⟨i.b,1,r,xA Q r⟩,rfl,rfl,rfl,rfl,rfl,rfl,rfl,rfl,rfl,rfl,rfl,rfl,c.listOk (.inl rfl) hm,fun _ _=>⟨(),rfl,?_,trivial⟩⟩
  show List.map j8 (atL i.L 1 i.price)=_
  rw[ha,BoI.ords,Book.rOrds,Arena.ents];simp only[yTl];rfl
theorem yLo:at1C.ok Tryz.prog 218:=okw mixed (gokc zDl (gokc zGy (gokc zLn gok0))) 0 (fun _=>[]) (fun _=>[]) [0] Tryz.func218 yQv
theorem yQx (i:AtI) (h:at2C.cnd i):yMh i:=by
 obtain⟨Q,c,ht,hL⟩:i.b.Rep i.L:=h
 unfold yMh uX wS x3 xN wP dI
 refine⟨2,rfl,trivial,fun _ _=>Cv.cnd.mk (fun e=>absurd e (by decide)) fun _=>⟨⟨i.b,i.price⟩,rfl,rfl,rfl,rfl,rfl,rfl,rfl,rfl,rfl,rfl,rfl,c.small,fun _ _=>Cv.cnd.mk (fun e=> ?_) (fun e=> ?_)⟩⟩
 ·have e:qX 2 (i.b.rungs 2) i.price=false:=by simpa using e
  have:=c.at_no (.inr rfl) e
  rw[← hL]at this
  refine⟨(),rfl,rfl,rfl,rfl,rfl,rfl,rfl,rfl,rfl,?_,trivial⟩
  show List.map j8 (atL i.L 2 i.price)=[]
  rw[this];rfl
 ·have e:qX 2 (i.b.rungs 2) i.price=true:=by simpa using e
  obtain⟨r,hr,hp,hm,ha⟩:=c.at_yes (.inr rfl) e
  rw[← hL]at ha
  have hlt:=(yRf.1 hr).1
  refine⟨⟨by omega,by rw[yRg];exact Int.ofNat_lt.2 hlt⟩,r.price,r.queue,elA hr (by simp[zB]) rfl,⟨i.b,2,r,xA Q r⟩,rfl,rfl,rfl,rfl,rfl,rfl,rfl,rfl,rfl,rfl,rfl,rfl,c.listOk (.inr rfl) hm,fun _ _=>⟨(),rfl,?_,trivial⟩⟩
  show List.map j8 (atL i.L 2 i.price)=_
  rw[ha,BoI.ords,Book.rOrds,Arena.ents];simp only[yTl];rfl
theorem yKa:at2C.ok Tryz.prog 218:=okw mixed (gokc zDl (gokc zJr (gokc zLn gok0))) 0 (fun _=>[]) (fun _=>[]) [0] Tryz.func218 yQx
theorem yOd:atC.ok Tryz.prog 218:=fun j=>match j with
 |⟨b,L,false,p⟩=>yLo ⟨b,L,false,p⟩
 |⟨b,L,true,p⟩=>yKa ⟨b,L,true,p⟩
open Go Cv Go.Proofs
def zSc (p:Int) (l:List zH):Lv:=⟨p,(l.map (·.qty)).sum,l.length⟩
theorem zTp:∀{l:List zH} {v:Lv} {vs:List Lv},grp l=v::vs→∃o r,l=o::r∧o.price=v.price
 |[],v,vs,h=>by cases h
 |o::r,v,vs,h=>by
  refine⟨o,r,rfl,?_⟩
  rw[grp]at h
  split at h
  ·cases h;rfl
  ·split at h
   ·rename_i e;cases h;exact e.symm
   ·cases h;rfl
theorem zZu {p:Int}:∀{l:List zH} {m:List zH},l≠[]→(∀o∈l,o.price=p)→(∀o r,m=o::r→o.price≠p)→grp (l++m)=zSc p l::grp m
 |[],m,h,_,_=>absurd rfl h
 |[o],m,_,h,hm=>by
  have e:=h o yRj
  rw[List.singleton_append,grp]
  split
  ·rename_i g;simp[zSc,e,g]
  ·rename_i v vs g
   obtain⟨o',r,e1,e2⟩:=zTp g
   have:=hm o' r e1
   rw[yRd (by omega)];simp[zSc,e,g]
 |o::o'::l,m,_,h,hm=>by
  have e:=h o yRj
  have ih:=zZu (l:=o'::l) (m:=m) (by simp) (fun x hx=>h x (yRk _ hx)) hm
  rw[ySv,grp,ih]
  dsimp only
  rw[yRe (show(zSc p (o'::l)).price=o.price from e.symm)]
  simp only[zSc,yRs,ySn,yRt]
  rfl
theorem zTw {f:xF→List zH}:∀{R:List xF},(∀r∈R,f r≠[]∧∀o∈f r,o.price=r.price)→R.Pairwise (fun r r'=>r.price≠r'.price)→grp (R.flatMap f)=R.map fun r=>zSc r.price (f r)
 |[],_,_=>rfl
 |r::R,h,hp=>by
  rw[yWx]at hp
  have ih:=zTw (R:=R) (fun x hx=>h x (yRk _ hx)) hp.2
  rw[ySt,zZu (h r yRj).1 (h r yRj).2,ih,yRs]
  intro o l e
  cases R with
  |nil=>cases e
  |cons r' R'=>
   rw[ySt]at e
   obtain⟨h1,h2⟩:=h r' (yRk _ yRj)
   cases hf:f r' with
   |nil=>exact absurd hf h1
   |cons x y=>
    rw[hf,ySv]at e
    cases e
    rw[h2 o (by rw[hf];exact yRj)]
    exact(hp.1 r' yRj).symm
theorem zLd {b:Book} {Q:List (List Nat)} {s:Int} (hs:s=1∨s=2):(b.flat Q).filter (fun o=>decide (o.side=s))=b.sideL Q s:=by
 have h1:∀s',(b.sideL Q s').filter (fun o=>decide (o.side=s))=if s'=s then b.sideL Q s' else[]:=by
  intro s'
  split
  ·rename_i e
   rw[yWo]
   intro o ho
   rw[(cP ho).1,e];simp
  ·rename_i e
   rw[List.filter_eq_nil_iff]
   intro o ho
   rw[(cP ho).1];simp[e]
 rw[Book.flat,yUt,h1,h1]
 rcases hs with rfl|rfl
 ·simp
 ·simp
theorem Book.Core.neL {b:Book} {Q:List (List Nat)} (c:b.Core Q (-1)) {s:Int} (hs:s=1∨s=2) {r:xF} (hr:r∈b.rungs s):xA Q r≠[]:=c.ne s hs r hr fun e=>by have:=c.rng _ (uA hs hr);omega
theorem Book.Core.toldL {b:Book} {Q:List (List Nat)} (c:b.Core Q (-1)) {s:Int} (hs:s=1∨s=2) {r:xF} (hr:r∈b.rungs s):b.told r=zSc r.price (b.rOrds Q s r):=by
 have hg:=c.get hs hr
 have hrq:=c.rng _ (uA hs hr)
 have hq:=c.wf.q _ _ hg
 have hql:=c.wf.ql
 rw[Book.told,zNs hrq.1 hq,zSc,Book.rOrds,yTl,yRg]
 rfl
theorem Book.Core.lad {b:Book} {Q:List (List Nat)} (c:b.Core Q (-1)) {s:Int} (hs:s=1∨s=2):zQm (b.flat Q) s=(b.rungs s).map b.told:=by
 rw[zQm,zLd hs,Book.sideL,zTw]
 ·exact ySh fun r hr=>(c.toldL hs hr).symm
 ·intro r hr
  refine⟨fun e=>c.neL hs hr (List.map_eq_nil_iff.1 e),fun o ho=>(x7 ho).2⟩
 ·exact(c.srt s hs).imp fun h=>zHi h
theorem Book.Core.bestL {b:Book} {Q:List (List Nat)} (c:b.Core Q (-1)) {s:Int} (hs:s=1∨s=2):b.best (b.rungs s)=Sx.bestL (b.flat Q) s:=by
 rw[Sx.bestL,c.lad hs]
 cases b.rungs s<;>rfl
theorem Book.Core.cnt {b:Book} {Q:List (List Nat)} (c:b.Core Q (-1)):b.cntOk:=by
 intro q hq
 obtain⟨n,hn⟩:=yTo.1 hq
 have hlt:=(yRf.1 hn).1
 rw[c.wf.ql]at hlt
 obtain⟨l,hl⟩:=yD hlt
 have:=c.wf.q n l hl
 rw[hn]at this
 cases this
 have:=c.wf.toWf0.short hl
 constructor<;>dsimp only<;>omega
def gP (L:List zH):Top:=(top0.buy (bestL L 1)).sell (bestL L 2)
theorem Book.Rep.top {b:Book} {L:List zH} (h:b.Rep L):b.top=gP L:=by
 obtain⟨Q,c,ht,rfl⟩:=h
 rw[Book.top,gP,← c.bestL (.inl rfl),← c.bestL (.inr rfl)];rfl
theorem Book.Rep.cnt {b:Book} {L:List zH} (h:b.Rep L):b.cntOk:=by
 obtain⟨Q,c,ht,rfl⟩:=h
 exact c.cnt
structure zHm (o:zH):Prop where
 s:o.side=1∨o.side=2
 q:1≤o.qty∧o.qty≤1000000
theorem Book.Rep.ords {b:Book} {L:List zH} (h:b.Rep L):(∀o∈L,zHm o)∧(L.map (·.id)).Nodup∧L.length≤250:=by
 obtain⟨Q,c,ht,rfl⟩:=h
 refine⟨fun o ho=> ?_,c.ids,?_⟩
 ·obtain⟨hs,r,hr,ho,hp⟩:=aA ho
  refine⟨hs,?_⟩
  obtain⟨k,hk,e⟩:=ySm.1 ho
  obtain⟨_,⟨_,_,h2⟩,_⟩:=c.wf.toWf0.mem (c.get hs hr) hk
  have eq:o.qty=(b.a.slotAt k).qty:=by rw[← e];rfl
  rw[eq]
  exact⟨c.wf.pos _ _ (c.get hs hr) _ hk,h2.q2⟩
 ·have hnd:(((b.rungs 1).flatMap (xA Q)++(b.rungs 2).flatMap (xA Q))).Nodup:=by
   have hm:((b.flat Q).map (·.id))=((b.rungs 1).flatMap (xA Q)++(b.rungs 2).flatMap (xA Q)).map fun k=>(b.a.slotAt k).id:=by
    rw[Book.flat,yRm,yRm,Book.sideL,Book.sideL,pR,pR,pR,pR]
    congr 1
    ·exact xB fun r _=>by rw[Book.rOrds,yTl];rfl
    ·exact xB fun r _=>by rw[Book.rOrds,yTl];rfl
   have:=c.ids
   rw[hm]at this
   exact List.Pairwise.of_map _ (fun a b hab e=>hab (by rw[e])) this
  have hl:(b.flat Q).length=((b.rungs 1).flatMap (xA Q)++(b.rungs 2).flatMap (xA Q)).length:=by
   rw[Book.flat,yRi,yRi,Book.sideL,Book.sideL,yVv,yVv,yVv,yVv]
   congr 1
   ·congr 1;exact ySh fun r _=>by rw[Book.rOrds,yRg]
   ·congr 1;exact ySh fun r _=>by rw[Book.rOrds,yRg]
  rw[hl]
  refine zJo 250 hnd fun k hk=> ?_
  rcases ySg.1 hk with hk|hk
  ·obtain⟨r,hr,hk⟩:=yTr.1 hk
   exact(c.wf.toWf0.mem (c.get (.inl rfl) hr) hk).1
  ·obtain⟨r,hr,hk⟩:=yTr.1 hk
   exact(c.wf.toWf0.mem (c.get (.inr rfl) hr) hk).1
theorem Book.Rep.fit {b:Book} {L:List zH} (h:b.Rep L):b.fit:=by
 obtain⟨Q,c,ht,rfl⟩:=h
 have hs:=c.small
 have h1:=c.ql
 have h2:=c.wf.ql
 have hqb:=c.qb
 rw[Book.qs,yRi,yRi,yRg,yRg]at h1
 refine⟨⟨hs.1.1,fun hf=> ?_,fun q hq=> ?_⟩,by omega,by omega,by omega,by omega⟩
 ·obtain⟨k,_,hk,hk1,hku,_⟩:=c.wf.toWf0.unused hf
  exact⟨_,yRp hk1,hku⟩
 ·obtain⟨n,hn⟩:=yTo.1 hq
  have hlt:=(yRf.1 hn).1
  rw[c.wf.ql]at hlt
  obtain⟨l,hl⟩:=yD hlt
  have:=c.wf.q n l hl
  rw[hn]at this
  cases this
  dsimp only
  rcases jS l with e|⟨y,j,e,e2⟩
  ·exact .inl ((aE l).2 e)
  ·rw[e2]
   have:=(c.wf.toWf0.mem hl (k:=j) (by rw[e];simp)).1
   rw[c.wf.len]
   exact .inr ⟨by omega,by omega⟩
def whL:Nat→List (List zH)→List (Int×Int)
 |_,[]=>[]
 |k,L::B=>L.map (fun o=>(o.id,(k:Int)))++whL (k+1) B
theorem whL_mem:∀{B:List (List zH)} {n:Nat} {x:Int×Int},x∈whL n B↔∃(k:Nat) (L:List zH),B[k]? =some L∧x.1∈L.map (·.id)∧x.2=((n+k:Nat):Int)
 |[],n,x=>by simp[whL]
 |L::B,n,x=>by
  rw[whL,ySg,whL_mem (B:=B)]
  constructor
  ·rintro(h|⟨k,L',h1,h2,h3⟩)
   ·obtain⟨o,ho,rfl⟩:=ySm.1 h
    exact⟨0,L,rfl,ySc (f:=(·.id)) ho,rfl⟩
   ·exact⟨k+1,L',h1,h2,by rw[h3];omega⟩
  ·rintro⟨k,L',h1,h2,h3⟩
   cases k with
   |zero=>
    cases h1
    obtain⟨o,ho,e⟩:=ySm.1 h2
    exact .inl (ySm.2 ⟨o,ho,Prod.ext e h3.symm⟩)
   |succ k=>exact .inr ⟨k,L',h1,h2,by rw[h3];omega⟩
theorem zFw:∀{B:List (List zH)} (n k:Nat),k<B.length→∃rest,∀X:List zH,(whL n (B.set k X)).Perm (X.map (fun o=>(o.id,((n+k:Nat):Int)))++rest)
 |[],n,k,h=>absurd h (by simp)
 |L::B,n,0,h=>⟨whL (n+1) B,fun X=> .refl _⟩
 |L::B,n,k+1,h=>by
  obtain⟨rest,hr⟩:=zFw (B:=B) (n+1) k (by simpa using h)
  refine⟨L.map (fun o=>(o.id,(n:Int)))++rest,fun X=> ?_⟩
  rw[yWu,whL]
  refine((hr X).append_left _).trans ?_
  rw[← yRn,← yRn,show n+1+k=n+(k+1)by omega]
  exact yTc.append_right _
structure MSt.Rep (s:MSt) (p:Prd) (B:List (List zH)):Prop where
 ep:s.p=p
 bl:s.books.length=B.length
 bk:∀(k:Nat) (b:Book) (L:List zH),s.books[k]? =some b→B[k]? =some L→b.Rep L
 wh:s.wh.Perm (whL 0 B)
 ids:((whL 0 B).map (·.1)).Nodup
def cD (B:List (List zH)) (id:Int):Option Nat:=B.findIdx? fun L=>jR L id
theorem uU {B:List (List zH)} {id:Int} {k:Nat} (h:cD B id=some k):∃L,B[k]? =some L∧jR L id=true:=by
 rw[cD,yUf]at h
 obtain⟨h1,h2,_⟩:=h
 exact⟨_,ySl h1,h2⟩
theorem zVa {B:List (List zH)} {id:Int} (h:cD B id=none):∀L∈B,jR L id=false:=by
 rw[cD,yVj]at h
 exact h
theorem zPg:∀{l:List (Int×Int)},(l.map (·.1)).Nodup→∀{k x:Int},(k,x)∈l→lI l k=some x
 |[],_,k,x,hx=>by cases hx
 |p::l,h,k,x,hx=>by
  rw[yRs,yTm]at h
  rw[lI,yWw]
  rcases yRy.1 hx with ex|hx
  ·subst ex;simp
  ·have:p.1≠k:=by rintro e;exact h.1 (e▸ySc (f:=(·.1)) hx)
   rw[yRo this]
   exact zPg h.2 hx
theorem z2n {l:List (Int×Int)} {k:Int} (h:k∉l.map (·.1)):lI l k=none:=by
 rw[lI,Option.map_eq_none_iff,List.find?_eq_none]
 intro x hx e
 have e:x.1=k:=by simpa using e
 exact h (e▸ySc (f:=(·.1)) hx)
theorem MSt.Rep.keys {s:MSt} {p:Prd} {B:List (List zH)} (h:s.Rep p B):(s.wh.map (·.1)).Nodup:=(h.wh.map (·.1)).nodup_iff.2 h.ids
theorem MSt.Rep.at_ {s:MSt} {p:Prd} {B:List (List zH)} (h:s.Rep p B) (id:Int):lI s.wh id=(cD B id).map (fun k:Nat=>(k:Int)):=by
 cases hi:cD B id with
 |none=>
  refine z2n fun hm=> ?_
  rw[(h.wh.map (·.1)).mem_iff]at hm
  obtain⟨x,hx,rfl⟩:=ySm.1 hm
  obtain⟨k,L,h1,h2,_⟩:=whL_mem.1 hx
  have:=zVa hi L (yRp h1)
  rw[hasId_iff.2 h2]at this;cases this
 |some k=>
  obtain⟨L,h1,h2⟩:=uU hi
  refine zPg h.keys (h.wh.mem_iff.2 (whL_mem.2 ⟨k,L,h1,hasId_iff.1 h2,by simp⟩))
open Go Cv Go.Proofs
def qS (B:List (List zH)) (id q:Int):List (List zH)×Int:=match cD B id with
 |none=>(B,26)
 |some k=>(B.set k (xU (B.getD k []) id q).1,(xU (B.getD k []) id q).2)
theorem zGe {L:List zH} (h:(L.map (·.id)).Nodup) (id q:Int):((xU L id q).1.map (·.id)=L.map (·.id)∧jR (xU L id q).1 id=jR L id)∨((xU L id q).1=L.filter (fun o=> !decide (o.id=id))∧jR (xU L id q).1 id=false):=by
 rw[xU]
 by_cases h1:jR L id=false
 ·rw[yRe h1];exact .inl ⟨rfl,rfl⟩
 have h1:jR L id=true:=by simpa using h1
 rw[yRd (by rw[h1];decide)]
 by_cases h2:q<1∨(gW L id).qty<q
 ·rw[yRe h2];exact .inl ⟨rfl,rfl⟩
 rw[yRd h2]
 dsimp only
 by_cases h3:(gW L id).qty=q
 ·refine .inr ?_
  have e:vW L id q=L.filter fun o=> !decide (o.id=id):=by rw[← h3];exact zLl h h1
  refine⟨e,?_⟩
  rw[e,jR,yWz]
  intro o ho
  rw[yTf]at ho
  simpa using ho.2
 ·refine .inl ?_
  have hm:(vW L id q).map (·.id)=L.map (·.id):=by
   have:vW L id q=L.map fun o=>if o.id=id then{o with qty:=o.qty-q}else o:=by
    rw[vW,← List.filterMap_eq_map]
    refine cI fun o ho=> ?_
    simp only[Function.comp]
    by_cases e:o.id=id
    ·have hg:=m5 h ho
     rw[e]at hg
     rw[yRe e,yRe e,yRd (fun e2=>h3 (by rw[hg];exact e2))]
    ·rw[yRd e,yRd e]
   rw[this,yTl]
   refine ySh fun o _=> ?_
   simp only[Function.comp]
   split<;>rfl
  refine⟨hm,?_⟩
  rw[Bool.eq_iff_iff,hasId_iff,hasId_iff,hm]
theorem z1b:∀{l:List (Int×Int)} {k:Int},(l.map (·.1)).Nodup→zWy k l=l.filter fun x=> !decide (x.1=k)
 |[],k,_=>rfl
 |(a,b)::l,k,h=>by
  rw[yRs,yTm]at h
  rw[zWy]
  by_cases e:k=a
  ·subst e
   rw[yRe rfl,yVs (by simp)]
   symm
   rw[yWo]
   intro x hx
   have:x.1≠k:=fun e=>h.1 (e▸ySc (f:=(·.1)) hx)
   simp[this]
  ·rw[yRd e,yVr (by simp[Ne.symm e]),z1b h.2]
theorem zUd:∀{l:List (Int×Int)} {k x:Int},k∉l.map (·.1)→zQu k x l=l++[(k,x)]
 |[],k,x,_=>rfl
 |p::l,k,x,h=>by
  rw[yRs,yRy,not_or]at h
  rw[zQu,yRd h.1,zUd h.2];rfl
theorem u6 {α:Type} {l:List α} {k:Nat} {x:α} (h:l[k]? =some x):l.set k x=l:=by
 apply yVp
 intro i
 rw[yWf]
 split
 ·rename_i e
  subst e
  rw[yRe (yRf.1 h).1,h]
 ·rfl
theorem MSt.Rep.set {s:MSt} {p:Prd} {B:List (List zH)} (h:s.Rep p B) {k:Nat} {L':List zH} {b':Book} (hb:b'.Rep L') (hk:k<B.length) {wh':List (Int×Int)} (hw:wh'.Perm (whL 0 (B.set k L'))) (hi:((whL 0 (B.set k L')).map (·.1)).Nodup):({s with books:=s.books.set k b',wh:=wh'}:MSt).Rep p (B.set k L'):=by
 refine⟨h.ep,by simpa using h.bl,fun j b L h1 h2=> ?_,hw,hi⟩
 by_cases e:k=j
 ·subst e
  have h1:(s.books.set k b')[k]? =some b:=h1
  rw[gG (by rw[h.bl];exact hk)]at h1
  rw[gG hk]at h2
  cases h1;cases h2;exact hb
 ·have h1:(s.books.set k b')[j]? =some b:=h1
  rw[wQ e]at h1 h2
  exact h.bk j b L h1 h2
theorem MSt.Rep.take {s:MSt} {p:Prd} {B:List (List zH)} (h:s.Rep p B) {id q:Int} {k:Nat} (hi:cD B id=some k) {L:List zH} (hL:B[k]? =some L) (hn:(L.map (·.id)).Nodup) {b':Book} (hb:b'.Rep (xU L id q).1):
 ({s with books:=s.books.set k b',wh:=if jR (xU L id q).1 id=true then s.wh else zWy id s.wh}:MSt).Rep p (qS B id q).1:=by
 have hk:=(yRf.1 hL).1
 have ht:(qS B id q).1=B.set k (xU L id q).1:=by simp only[qS,hi,zR hL]
 obtain⟨L2,e1,hh⟩:=uU hi
 rw[hL]at e1;cases e1
 obtain⟨rest,hr⟩:=zFw (B:=B) 0 k hk
 have hL0:=hr L
 rw[u6 hL]at hL0
 rw[ht]
 rcases zGe hn id q with⟨e1,e2⟩|⟨e1,e2⟩
 ·have hm:∀X Y:List zH,X.map (·.id)=Y.map (·.id)→X.map (fun o=>(o.id,((0+k:Nat):Int)))=Y.map (fun o=>(o.id,((0+k:Nat):Int))):=by
   intro X Y e
   have:=congrArg (List.map fun i:Int=>(i,((0+k:Nat):Int))) e
   rw[yTl,yTl]at this
   exact this
  have hp:(whL 0 (B.set k (xU L id q).1)).Perm (whL 0 B):=by
   refine(hr _).trans ?_
   rw[hm _ _ e1]
   exact hL0.symm
  rw[e2,hh,yRe rfl]
  exact h.set hb hk (h.wh.trans hp.symm) ((hp.map (·.1)).nodup_iff.2 h.ids)
 ·rw[e2,yRd (by decide)]
  have hrest:∀x∈rest,x.1≠id:=by
   intro x hx e
   have hnd:=(hL0.map (·.1)).nodup_iff.1 h.ids
   rw[yRm,yTl]at hnd
   have h1:id∈L.map ((·.1)∘fun o:zH=>(o.id,((0+k:Nat):Int))):=hasId_iff.1 hh
   exact(yTg.1 hnd).2.2 id h1 x.1 (ySc (f:=(·.1)) hx) e.symm
  have hp:(whL 0 (B.set k (xU L id q).1)).Perm ((whL 0 B).filter fun x=> !decide (x.1=id)):=by
   refine(hr _).trans (.trans ?_ (hL0.filter _).symm)
   rw[e1,yUt,List.filter_map]
   have:rest.filter (fun x=> !decide (x.1=id))=rest:=by
    rw[yWo]
    intro x hx
    simp[hrest x hx]
   rw[this]
   exact .refl _
  refine h.set hb hk ?_ ((hp.map (·.1)).nodup_iff.2 (h.ids.sublist (List.Sublist.map _ yWp)))
  rw[z1b h.keys]
  exact(h.wh.filter _).trans hp.symm
def zUw (p:Prd) (B:List (List zH)) (inst id:Int) (s price q:Int):List (List zH)×Int:=
 if inst<0∨B.length≤inst then(B,20)else if(cD B id).isSome=true then(B,25)else if 250≤(whL 0 B).length then(B,13)else if p.price inst price≠0 then(B,p.price inst price)
 else(B.set inst.toNat (zFi (B.getD inst.toNat []) s id price q).1,(zFi (B.getD inst.toNat []) s id price q).2)
theorem z5g (L:List zH) (s id p q:Int):((zOg L s id p q).map (·.id)).Perm (id::L.map (·.id)):=by
 have:∀X:List zH,((X.takeWhile (before s p)++⟨id,s,p,q,uQ L s p⟩::X.dropWhile (before s p)).map (·.id)).Perm (id::X.map (·.id)):=by
  intro X
  conv=>rhs;rw[← yWq (p:=before s p) (l:=X)]
  rw[yRm,yRs,yRm]
  exact yRr
 rw[zOg]
 split
 ·refine(this _).trans ?_
  rw[zZz]
 ·exact this _
theorem MSt.Rep.add {s:MSt} {p:Prd} {B:List (List zH)} (h:s.Rep p B) (inst id:Int) (sd:Bool) (price q:Int):
 (MSt.addF ⟨s,inst,id,sd,price,q⟩).1.Rep p (zUw p B inst id (zC sd) price q).1∧(MSt.addF ⟨s,inst,id,sd,price,q⟩).2=(zUw p B inst id (zC sd) price q).2:=by
 have hsd:zC sd=1∨zC sd=2:=by cases sd;exact .inl rfl;exact .inr rfl
 rw[MSt.addF,zUw]
 dsimp only
 rw[h.bl,h.at_,h.wh.length_eq,show s.p.price inst price=p.price inst price by rw[h.ep],Option.isSome_map]
 by_cases c1:inst<0∨(B.length:Int)≤inst
 ·rw[yRe c1,yRe c1];exact⟨h,rfl⟩
 rw[yRd c1,yRd c1]
 by_cases c2:(cD B id).isSome=true
 ·rw[yRe c2,yRe c2];exact⟨h,rfl⟩
 rw[yRd c2,yRd c2]
 by_cases c3:250≤(whL 0 B).length
 ·rw[yRe c3,yRe c3];exact⟨h,rfl⟩
 rw[yRd c3,yRd c3]
 by_cases c4:p.price inst price≠0
 ·rw[yRe c4,yRe c4];exact⟨h,rfl⟩
 rw[yRd c4,yRd c4]
 obtain⟨k,hk⟩:∃k:Nat,inst=k:=⟨inst.toNat,by omega⟩
 subst hk
 rw[yRx]
 have hkl:k<B.length:=by omega
 obtain⟨b,hb⟩:=yD (l:=s.books) (i:=k) (by rw[h.bl];exact hkl)
 obtain⟨L,hL⟩:=yD (l:=B) (i:=k) hkl
 have hba:s.bookAt k=b:=by rw[MSt.bookAt,yRx];exact zR hb
 rw[hba,zR hL]
 obtain⟨r1,r2⟩:=(h.bk k b L hb hL).add hsd id price q
 refine⟨?_,r2⟩
 rw[r2]
 obtain⟨rest,hr⟩:=zFw (B:=B) 0 k hkl
 have hL0:=hr L
 rw[u6 hL]at hL0
 have hcase:(zFi L (zC sd) id price q).2≠0∧(zFi L (zC sd) id price q).1=L∨(zFi L (zC sd) id price q).2=0∧(zFi L (zC sd) id price q).1=zOg L (zC sd) id price q:=by
  rw[zFi]
  repeat' split
  ·exact .inl ⟨by simp,rfl⟩
  ·exact .inl ⟨by simp,rfl⟩
  ·exact .inl ⟨by simp,rfl⟩
  ·exact .inr ⟨rfl,rfl⟩
 rcases hcase with⟨e1,e2⟩|⟨e1,e2⟩
 ·rw[yRd e1]
  refine h.set r1 hkl ?_ ?_
  ·rw[e2,u6 hL];exact h.wh
  ·rw[e2,u6 hL];exact h.ids
 ·rw[yRe e1]
  have hnk:id∉s.wh.map (·.1):=by
   intro hm
   obtain⟨x,hx,rfl⟩:=ySm.1 hm
   have:=zPg h.keys hx
   rw[h.at_]at this
   cases hq:cD B x.1 with
   |none=>rw[hq]at this;cases this
   |some j=>rw[hq]at c2;exact c2 rfl
  have hp:(whL 0 (B.set k (zFi L (zC sd) id price q).1)).Perm ((id,(k:Int))::whL 0 B):=by
   refine(hr _).trans (.trans ?_ (hL0.symm.cons _))
   rw[e2,← ySv]
   refine List.Perm.append_right _ ?_
   have:=(z5g L (zC sd) id price q).map fun i:Int=>(i,(k:Int))
   rw[yTl,yRs,yTl]at this
   rw[ySd]
   exact this
  refine h.set r1 hkl ?_ ((hp.map (·.1)).nodup_iff.2 (yTm.2 ⟨?_,h.ids⟩))
  ·rw[zUd hnk]
   exact(yVf _ _).trans ((h.wh.cons _).trans hp.symm)
  ·rw[← (h.wh.map (·.1)).mem_iff];exact hnk
theorem zOd:∀(n k:Nat),whL k (List.replicate n [])=[]
 |0,_=>rfl
 |n+1,k=>by rw[yUz,whL,zOd];rfl
theorem zWe (p:Prd):(cT p).Rep p (List.replicate p.count []):=by
 refine⟨rfl,by simp[cT],fun k b L h1 h2=> ?_,?_,?_⟩
 ·have e1:b=book0:=yWm (yRp (show(List.replicate p.count book0)[k]? =some b from h1))
  have e2:L=[]:=yWm (yRp h2)
  rw[e1,e2];exact z4h
 ·rw[zOd];exact .refl _
 ·rw[zOd];exact List.nodup_nil
open Go Cv Go.Proofs
@[reducible] def z8p (s:MSt):List AObj:=[xL s 0,xL s 1,xL s 2,xL s 3,xL s 4]
def topsOC:Con:=con1 MSt (fun _=>[.nm 0 0]) (fun s=>z8p s) MSt.cntOk (fun s=> .own 5) (fun s=>z8p s++[.own 269 6 (s.tops.map z7)])
structure StI where
 s:MSt
 p:Prd
 B:List (List zH)
 id:Int
 q:Int
def stakeC:Con where
 ι:=StI
 pat:=fun i=>[.nm 0 0,zA i.id,zA i.q]
 pre:=fun i=>[zD i.s]
 cnd:=fun i=>i.s.Rep i.p i.B∧i.B.length≤1000
 alts:=fun i=>[{o:=MSt,res:=fun _=>zA (qS i.B i.id i.q).2,post:=fun s=>[zD s],rel:=fun s=>s.Rep i.p (qS i.B i.id i.q).1}]
def zV (B:List (List zH)) (id:Int):Int×zH×Bool:=match cD B id with
 |none=>(0,yKl,false)
 |some k=>(k,gW (B.getD k []) id,true)
def sfindC:Con:=con1 StI (fun i=>[.nm 0 0,zA i.id]) (fun i=>[zD i.s]) (fun i=>i.s.Rep i.p i.B∧i.B.length≤1000) (fun i=> .tup [zA (zV i.B i.id).1,z3e (zV i.B i.id).2.1,yM (zV i.B i.id).2.2]) (fun i=>[zD i.s])
open Go Cv Go.Proofs
def mD (a:Nat×Top→Prop) (b:Nat×Top) (c:MSt) (d:Nat) (e:Book):Prop:=a b∧AObj.own 3 1 [[dI 1],[dI 2]]=AObj.own 3 1 [[dI 1],[dI 2]]∧xL c 0=xL c 0∧AObj.objs 184 Book 6 zQ (c.books.set (↑d:Int).toNat e) none=xL c 1∧xL c 2=xL c 2∧xL c 3=xL c 3∧xL c 4=xL c 4
def zDs (a:MSt) (b:Nat×Top) (c:Nat×Top→Prop) (d:Nat) (e:Book):Prop:=∃(f:Nat×Top),List.map z7 (xO a f.fst f.snd)=List.map z7 (xO a b.fst b.snd)∧mD c f a d e
def z9q (s:MSt):Prop:=
 (sK s)∧∃(a:Nat),(↑a:Int)=0∧List.map z7 (xX s a)=List.replicate (↑s.books.length:Int).toNat [D.v (.bool false),D.v (.bool false),dI 0,dI 0,dI 0,dI 0]∧∃(b:Nat→Prop),∃(c:Nat→Nat),b a∧∀(d:Nat),b d→cnd (decide ((↑d:Int)<(↑s.books.length:Int))) ((0≤(↑d:Int)∧(↑d:Int)<(↑s.books.length:Int))∧(↑d:Int).toNat<s.books.length∧∃(e:Nat×Top),List.map z7 (xO s e.fst e.snd)=List.map z7 (xX s d)∧∃(f:Nat×Top→Prop),(((0:Int)≤(0:Int)∧0<(↑(2:Nat):Int))∧∃(g:Int),zE [[dI 1],[dI 2]] (Int.toNat 0) 0 1=some [dI g]∧∃(h:Book),s.books[(↑d:Int).toNat]?=some h∧∃(j:BkS),zC j.side=g∧yA j.b=yA h∧(wE j)∧∀(k:Unit),True→∃(l:Book),yA j.b=yA l∧(↑d:Int).toNat=(↑d:Int).toNat∧(↑d:Int).toNat<s.books.length∧cnd (zS j).snd ((qF d s e)∧(qF d s e)∧(qF d s e)∧(↑d:Int).toNat<(vU s e).length∧(dM d s e)∧(dM d s e)∧(zS j).fst.qty=(zS j).fst.qty∧(zS j).fst.price=(zS j).fst.price∧(↑d:Int).toNat<(dQ s e d).length∧(sJ d s e j)∧(zS j).fst.qty=(zS j).fst.qty∧(↑d:Int).toNat<(fA s e d j).length∧∃(m:Nat×Top),List.map z7 (xO s m.fst m.snd)=yC (fA s e d j) (↑d:Int).toNat ((0:Nat)+(4:Nat)+nat_lit 0*1) [dI (vT j)]∧mD f m s d l) (zDs s e f d l))∧∀(g:Nat×Top),f g→∃(h:Nat×Top),List.map z7 (xO s h.fst h.snd)=List.map z7 (xO s g.fst g.snd)∧∃(j:Nat×Top→Prop),((0≤IntKind.i64.wrap ((0:Int)+(1:Int))∧IntKind.i64.wrap ((0:Int)+(1:Int))<(↑(2:Nat):Int))∧∃(k:Int),zE [[dI 1],[dI 2]] (IntKind.i64.wrap ((0:Int)+(1:Int))).toNat 0 1=some [dI k]∧∃(l:Book),s.books[(↑d:Int).toNat]?=some l∧∃(m:BkS),zC m.side=k∧yA m.b=yA l∧(wE m)∧∀(n:Unit),True→∃(p:Book),yA m.b=yA p∧(↑d:Int).toNat=(↑d:Int).toNat∧(↑d:Int).toNat<s.books.length∧cnd (zS m).snd ((qF d s h)∧(qF d s h)∧(qF d s h)∧(↑d:Int).toNat<(vU s h).length∧(dS d s h)∧(dS d s h)∧(zS m).fst.qty=(zS m).fst.qty∧(zS m).fst.price=(zS m).fst.price∧(↑d:Int).toNat<(dL s h d).length∧(rX d s h m)∧(zS m).fst.qty=(zS m).fst.qty∧(↑d:Int).toNat<(g8 s h d m).length∧∃(q:Nat×Top),List.map z7 (xO s q.fst q.snd)=yC (g8 s h d m) (↑d:Int).toNat ((0:Nat)+(4:Nat)+(nat_lit 0+nat_lit 1) % ((2:Int) ^ IntKind.i64.bits).natAbs*1) [dI (vT m)]∧mD j q s d p) (zDs s h j d p))∧∀(k:Nat×Top),j k→∃(l:Nat),(↑l:Int)=IntKind.i64.wrap ((↑d:Int)+1)∧List.map z7 (xX s l)=List.map z7 (xO s k.fst k.snd)∧b l∧c l<c d∧xL s 0=xL s 0∧xL s 1=xL s 1∧xL s 2=xL s 2∧xL s 3=xL s 3∧xL s 4=xL s 4) (∃(e:Unit),sb s.p.code=sb s.p.code∧s.p.tick=s.p.tick∧s.p.low=s.p.low∧s.p.high=s.p.high∧s.p.wide=s.p.wide∧s.p.rule=s.p.rule∧s.p.top=s.p.top∧s.p.least=s.p.least∧s.p.part=s.p.part∧AObj.objs 184 Book 6 zQ s.books none=xL s 1∧yS s.wh=yS s.wh∧AObj.fro 1 (iE s.p.months)=xL s 3∧AObj.fro 1 (iE s.p.settle)=xL s 4∧List.map z7 s.tops=List.map z7 (xX s d)∧True)
def eD (a:MSt) (b:StI):Prop:=AObj.fro 1 (iE a.p.months)=AObj.fro 1 (iE b.s.p.months)∧AObj.fro 1 (iE a.p.settle)=AObj.fro 1 (iE b.s.p.settle)∧a.Rep b.p (qS b.B b.id b.q).fst
def eH (a:MSt) (b:StI):Prop:=yS a.wh=yS b.s.wh∧eD a b
def nJ (a:StI) (b:Int) (c:Bool):Prop:=qK (Value.int IntKind.i64 a.id) (yS a.s.wh)=some [dI b]∧c=true∨qK (Value.int IntKind.i64 a.id) (yS a.s.wh)=none∧[dI b]=[dI 0]∧c=false
def cZ (a:StI):Prop:=∀(b:Value×List D),b∈yS a.s.wh→like (Value.int IntKind.i64 a.id) b.fst=true
def yAi (i:StI):Prop:=
 (cZ i)∧∃(a:Bool),∃(b:Int),(nJ i b a)∧cnd (!a) (∃(c:MSt),(qS i.B i.id i.q).snd=26∧sb c.p.code=sb i.s.p.code∧c.p.tick=i.s.p.tick∧c.p.low=i.s.p.low∧c.p.high=i.s.p.high∧c.p.wide=i.s.p.wide∧c.p.rule=i.s.p.rule∧c.p.top=i.s.p.top∧c.p.least=i.s.p.least∧c.p.part=i.s.p.part∧AObj.objs 184 Book 6 zQ c.books none=AObj.objs 184 Book 6 zQ i.s.books none∧eH c i) ((0≤b∧b<(↑i.s.books.length:Int))∧b.toNat<i.s.books.length∧∃(c:Book),i.s.books[b.toNat]?=some c∧∃(d:FlI),d.id=i.id∧d.qty=i.q∧yA d.b=yA c∧d.b.Rep d.L∧∀(e:Book),e.Rep (xU d.L d.id d.qty).fst→∃(f:Book),yA e=yA f∧b.toNat=b.toNat∧b.toNat<i.s.books.length∧(0≤b∧b<(↑(i.s.books.set b.toNat f).length:Int))∧b.toNat<(i.s.books.set b.toNat f).length∧∃(g:Book),(i.s.books.set b.toNat f)[b.toNat]?=some g∧∃(h:FlI),h.id=i.id∧yA h.b=yA g∧h.b.Rep h.L∧∀(j:Unit),True→∃(k:Book),yA h.b=yA k∧b.toNat=b.toNat∧b.toNat<(i.s.books.set b.toNat f).length∧cnd (!jR h.L h.id) ((cZ i)∧∃(l:MSt),(qS i.B i.id i.q).snd=(xU d.L d.id d.qty).snd∧sb l.p.code=sb i.s.p.code∧l.p.tick=i.s.p.tick∧l.p.low=i.s.p.low∧l.p.high=i.s.p.high∧l.p.wide=i.s.p.wide∧l.p.rule=i.s.p.rule∧l.p.top=i.s.p.top∧l.p.least=i.s.p.least∧l.p.part=i.s.p.part∧AObj.objs 184 Book 6 zQ l.books none=AObj.objs 184 Book 6 zQ ((i.s.books.set b.toNat f).set b.toNat k) none∧yS l.wh=tL (Value.int IntKind.i64 i.id) (yS i.s.wh)∧eD l i) (∃(l:MSt),(qS i.B i.id i.q).snd=(xU d.L d.id d.qty).snd∧sb l.p.code=sb i.s.p.code∧l.p.tick=i.s.p.tick∧l.p.low=i.s.p.low∧l.p.high=i.s.p.high∧l.p.wide=i.s.p.wide∧l.p.rule=i.s.p.rule∧l.p.top=i.s.p.top∧l.p.least=i.s.p.least∧l.p.part=i.s.p.part∧AObj.objs 184 Book 6 zQ l.books none=AObj.objs 184 Book 6 zQ ((i.s.books.set b.toNat f).set b.toNat k) none∧eH l i))
open Go Cv Go.Proofs
theorem yKb (s:MSt) (h:topsOC.cnd s):z9q s:=by
 obtain⟨h1,h2⟩:s.cntOk:=h
 unfold z9q vT qF wE sK dM dS sJ fA dQ rX g8 gT zS dL vU zDs mD dI
 have p48:(2:Int) ^ (48:Nat)=281474976710656:=by decide
 refine⟨⟨by omega,by omega,by omega,by rw[p48];omega⟩,0,rfl,?_,fun j=>j≤s.books.length,fun j=>s.books.length-j,by omega,fun j hj=>zI (fun hlt=> ?_) (fun hlt=> ?_)⟩
 ·rw[xX,yRm,List.map_replicate];rfl
 ·have hj':j<s.books.length:=by omega
  obtain⟨b,hb⟩:=yD hj'
  have hc:=h2 b (yRp hb)
  simp only[yRx]
  have ha:∀x,(List.map z7 (xO s j x)).length=s.books.length:=fun x=>by rw[yRg,zHa hj']
  have w1:IntKind.i64.wrap (0+1)=1:=by decide
  have w2:(0+1) % ((2:Int) ^ IntKind.i64.bits).natAbs=1:=by decide
  refine⟨⟨by omega,by omega⟩,by omega,(j,top0),by rw[zFc hj'],fun x=>x=(j,top0.buy (b.best b.buys)),⟨⟨by decide,by decide⟩,1,rfl,b,hb,⟨false,b⟩,rfl,rfl,hc,fun _ _=>⟨b,rfl,kp,by omega,?_⟩⟩,?_⟩
  ·refine Cv.cnd.mk (fun c=> ?_) (fun c=> ?_)
   ·have c:(b.best b.buys).2=true:=c
    have e1:=qJ (s:=s) hj' (x:=top0) (y:={top0 with has1:=true}) (f:=0+0+0*1) (ds:=[D.v (.bool true)]) rfl
    have e2:=qJ (s:=s) hj' (x:={top0 with has1:=true}) (y:={top0 with has1:=true,p1:=(b.best b.buys).1.price}) (f:=0+2+0*1) (ds:=[D.v (.int .i64 (b.best b.buys).1.price)]) rfl
    have e3:=qJ (s:=s) hj' (x:={top0 with has1:=true,p1:=(b.best b.buys).1.price}) (y:={top0 with has1:=true,p1:=(b.best b.buys).1.price,q1:=(b.best b.buys).1.qty}) (f:=0+4+0*1) (ds:=[D.v (.int .i64 (b.best b.buys).1.qty)]) rfl
    dsimp only
    simp only[show b.side false=b.buys from rfl,e1,e2,e3,ha]
    (repeat'(first|exact rfl|exact trivial|assumption|apply And.intro|refine fun(_:Unit) (_:True)=>?_|refine Exists.intro () ?_|omega|(dsimp only;omega)))
    refine⟨(j,{top0 with has1:=true,p1:=(b.best b.buys).1.price,q1:=(b.best b.buys).1.qty}),rfl,?_,?_⟩
    ·rw[Top.buy,yRe c]
    ·(repeat'(first|exact rfl|exact trivial|assumption|apply And.intro|refine fun(_:Unit) (_:True)=>?_|refine Exists.intro () ?_|omega|(dsimp only;omega)))
     rw[gL hb];rfl
   ·have c:(b.best b.buys).2=false:=c
    refine⟨(j,top0),rfl,?_,?_⟩
    ·rw[Top.buy,yRd (by rw[c];simp)]
    ·(repeat'(first|exact rfl|exact trivial|assumption|apply And.intro|refine fun(_:Unit) (_:True)=>?_|refine Exists.intro () ?_|omega|(dsimp only;omega)))
     rw[gL hb];rfl
  ·rintro _ rfl
   rw[w1]
   generalize hx:top0.buy (b.best b.buys)=x
   have hx2:b.top=x.sell (b.best b.sells):=by rw[Book.top,hx]
   refine⟨(j,x),rfl,fun y=>y=(j,b.top),⟨⟨by decide,by decide⟩,2,rfl,b,hb,⟨true,b⟩,rfl,rfl,hc,fun _ _=>⟨b,rfl,kp,by omega,?_⟩⟩,?_⟩
   ·refine Cv.cnd.mk (fun c=> ?_) (fun c=> ?_)
    ·have c:(b.best b.sells).2=true:=c
     have e1:=qJ (s:=s) hj' (x:=x) (y:={x with has2:=true}) (f:=0+0+1*1) (ds:=[D.v (.bool true)]) rfl
     have e2:=qJ (s:=s) hj' (x:={x with has2:=true}) (y:={x with has2:=true,p2:=(b.best b.sells).1.price}) (f:=0+2+1*1) (ds:=[D.v (.int .i64 (b.best b.sells).1.price)]) rfl
     have e3:=qJ (s:=s) hj' (x:={x with has2:=true,p2:=(b.best b.sells).1.price}) (y:={x with has2:=true,p2:=(b.best b.sells).1.price,q2:=(b.best b.sells).1.qty}) (f:=0+4+1*1) (ds:=[D.v (.int .i64 (b.best b.sells).1.qty)]) rfl
     dsimp only
     simp only[w2,show b.side true=b.sells from rfl,e1,e2,e3,ha]
     (repeat'(first|exact rfl|exact trivial|assumption|apply And.intro|refine fun(_:Unit) (_:True)=>?_|refine Exists.intro () ?_|omega|(dsimp only;omega)))
     refine⟨(j,{x with has2:=true,p2:=(b.best b.sells).1.price,q2:=(b.best b.sells).1.qty}),rfl,?_,?_⟩
     ·rw[hx2,Top.sell,yRe c]
     ·(repeat'(first|exact rfl|exact trivial|assumption|apply And.intro|refine fun(_:Unit) (_:True)=>?_|refine Exists.intro () ?_|omega|(dsimp only;omega)))
      rw[gL hb];rfl
    ·have c:(b.best b.sells).2=false:=c
     refine⟨(j,x),rfl,?_,?_⟩
     ·rw[hx2,Top.sell,yRd (by rw[c];simp)]
     ·(repeat'(first|exact rfl|exact trivial|assumption|apply And.intro|refine fun(_:Unit) (_:True)=>?_|refine Exists.intro () ?_|omega|(dsimp only;omega)))
      rw[gL hb];rfl
   ·rintro _ rfl
    refine⟨j+1,by rw[w64 (by omega)];rfl,?_⟩
    refine⟨by dsimp only;rw[zEp hb],?_⟩
    exact kp
 ·have hj:j≤s.books.length:=hj
  obtain rfl:j=s.books.length:=by omega
  have e:xX s s.books.length=s.tops:=by
   rw[xX,yWi,List.replicate_zero,ySa,yRw (by rw[MSt.tops,yRg];omega)]
  rw[e]
  exact kp
theorem zTj:topsOC.ok Tryz.prog 115:=okw mixed (gokc zOa gok0) 0 (fun s=>yNu s) (fun s=>yNg s) [] Tryz.func115 yKb
theorem yLc (i:StI) (h:stakeC.cnd i):yAi i:=by
 obtain⟨hR,hB⟩:i.s.Rep i.p i.B∧i.B.length≤1000:=h
 have hat:=hR.at_ i.id
 unfold yAi cZ nJ eH eD dI
 cases hi:cD i.B i.id with
 |none=>
  rw[hi]at hat
  refine⟨gV _ _,false,0,.inr ⟨by rw[aS,hat];rfl,rfl,rfl⟩,Cv.cnd.mk (fun _=>⟨i.s,?_⟩) (fun e=>absurd e (by decide))⟩
  have ht:qS i.B i.id i.q=(i.B,26):=by rw[qS,hi]
  rw[ht]
  exact⟨rfl,rfl,rfl,rfl,rfl,rfl,rfl,rfl,rfl,rfl,rfl,rfl,rfl,rfl,hR⟩
 |some k=>
  rw[hi]at hat
  obtain⟨L,hL,hh⟩:=uU hi
  have hk:=(yRf.1 hL).1
  obtain⟨b,hb⟩:=yD (l:=i.s.books) (i:=k) (by rw[hR.bl];exact hk)
  have hbR:=hR.bk k b L hb hL
  have hbl:=hR.bl
  have hnd:=hbR.ords.2.1
  refine⟨gV _ _,true,k,.inl ⟨by rw[aS,hat];rfl,rfl⟩,Cv.cnd.mk (fun e=>absurd e (by decide)) (fun _=> ?_)⟩
  rw[yRx]
  refine⟨⟨by omega,by omega⟩,by omega,b,hb,⟨b,L,i.id,i.q⟩,rfl,rfl,rfl,hbR,fun b' hb'=> ?_⟩
  have hT:=hR.take (q:=i.q) hi hL hnd hb'
  have hk2:(qS i.B i.id i.q).2=(xU L i.id i.q).2:=by simp only[qS,hi,zR hL]
  refine⟨b',rfl,rfl,by omega,by rw[ySj];omega,by rw[ySj];omega,b',gG (by omega),⟨b',(xU L i.id i.q).1,i.id,0⟩,rfl,rfl,hb',fun _ _=>⟨b',rfl,rfl,by rw[ySj];omega,Cv.cnd.mk (fun e=>⟨gV _ _,?_⟩) (fun e=> ?_)⟩⟩
  ·have e:jR (xU L i.id i.q).1 i.id=false:=by simpa using e
   rw[e,yRd (by decide)]at hT
   refine⟨{i.s with books:=i.s.books.set k b',wh:=zWy i.id i.s.wh},hk2,rfl,rfl,rfl,rfl,rfl,rfl,rfl,rfl,rfl,?_,(zRa _ _).symm,rfl,rfl,hT⟩
   rw[yVd]
  ·have e:jR (xU L i.id i.q).1 i.id=true:=by simpa using e
   rw[e,yRe rfl]at hT
   refine⟨{i.s with books:=i.s.books.set k b',wh:=i.s.wh},hk2,rfl,rfl,rfl,rfl,rfl,rfl,rfl,rfl,rfl,?_,rfl,rfl,rfl,hT⟩
   rw[yVd]
theorem zBh:stakeC.ok Tryz.prog 113:=okw mixed (gokc yEd (gokc zTn gok0)) 0 (fun _=>[]) (fun _=>[]) [0] Tryz.func113 yLc
open Go Cv Go.Proofs
structure BOk (p:Prd) (B:List (List zH)):Prop where
 pc:p.check=0
 ps:p.small
 bl:B.length=p.count
 pr:∀(k:Nat) (L:List zH),B[k]? =some L→∀o∈L,p.price k o.price=0
def motherC:Con:=con1 Bool (fun b=>[zA (zC b)]) (fun _=>[]) (fun _=>True) (fun b=>zA (zC (!b))) (fun _=>[])
def dB (s:Bool) (p x:Int):Bool:=if s then decide (p≤x)else decide (x≤p)
structure GoI where
 s:Bool
 p:Int
 x:Int
def mgoodC:Con:=con1 GoI (fun i=>[zA (zC i.s),zA i.p,zA i.x]) (fun _=>[]) (fun _=>True) (fun i=>yM (dB i.s i.p i.x)) (fun _=>[])
def yO (p:Prd) (B:List (List zH)) (inst:Int) (s:Int):Quote×Bool×Bool:=
 let bq:=y4 (wM ⟨p,B.map gP,inst⟩ s) s
 let l:=bestL (B.getD inst.toNat []) s
 if(l.2 && !(bq.2 && btr s bq.1.price l.1.price))=true then(⟨l.1.price,l.1.qty,⟨0,0⟩,⟨0,0⟩⟩,false,true)else(bq.1,bq.2,bq.2)
structure NxI where
 s:MSt
 p:Prd
 B:List (List zH)
 inst:Int
 sd:Bool
def nextC:Con:=con1 NxI (fun i=>[.nm 0 0,zA i.inst,zA (zC i.sd)]) (fun i=>[zD i.s]) (fun i=>i.s.Rep i.p i.B∧BOk i.p i.B∧0≤i.inst∧i.inst<i.B.length)
 (fun i=> .tup [zVy (yO i.p i.B i.inst (zC i.sd)).1,yM (yO i.p i.B i.inst (zC i.sd)).2.1,yM (yO i.p i.B i.inst (zC i.sd)).2.2]) (fun i=>[zD i.s])
structure fW where
 id:Int
 inst:Int
 side:Int
 price:Int
 qty:Int
 left:Int
 deriving DecidableEq
def yR (f:fW):List D:=[.v (.int .i64 f.id),.v (.int .i64 f.inst),.v (.int .i64 f.side),.v (.int .i64 f.price),.v (.int .i64 f.qty),.v (.int .i64 f.left)]
def xR (inst s:Int):List zH→List Int→List fW
 |o::os,k::ks=>if 0<k then⟨o.id,inst,s,o.price,k,o.qty-k⟩::xR inst s os ks else xR inst s os ks
 |_,_=>[]
def kB (B:List (List zH)) (fs:List fW):List (List zH):=fs.foldl (fun B f=>(qS B f.id f.qty).1) B
def zPy (B:List (List zH)) (inst s:Int):List zH:=atL (B.getD inst.toNat []) s (bestL (B.getD inst.toNat []) s).1.price
def qG (p:Prd) (B:List (List zH)) (inst s q:Int):List fW:=xR inst s (zPy B inst s) (qO ⟨p,zPy B inst s,q⟩)
structure TrI where
 s:MSt
 p:Prd
 B:List (List zH)
 inst:Int
 sd:Bool
 q:Int
def TrI.os (i:TrI):List zH:=zPy i.B i.inst (zC i.sd)
def TrI.sh (i:TrI):List Int:=qO ⟨i.p,i.os,i.q⟩
def TrI.fs (i:TrI) (j:Nat):List fW:=xR i.inst (zC i.sd) (i.os.take j) (i.sh.take j)
def tradeC:Con where
 ι:=TrI
 pat:=fun i=>[.nm 0 0,.agg [zA i.inst,zA (zC i.sd)],zA i.q]
 pre:=fun i=>[zD i.s]
 cnd:=fun i=>i.s.Rep i.p i.B∧BOk i.p i.B∧0≤i.inst∧i.inst<i.B.length∧yU i.q
 alts:=fun i=>[{o:=MSt,res:=fun _=> .own 1,post:=fun s=>[zD s,.own 319 6 ((qG i.p i.B i.inst (zC i.sd) i.q).map yR)],rel:=fun s=>s.Rep i.p (kB i.B (qG i.p i.B i.inst (zC i.sd) i.q))}]
def yKh (i:TrI):List SAnn:=[{ι:=Nat×MSt,slots:=fun j=>[(0,.nm 0 0),(11,.own 1),(44,zA j.1)],rows:=fun j=>[zD j.2,.own 319 6 ((i.fs j.1).map yR)]}]
open Go Cv Go.Proofs
def z0h (b:Bool):Prop:=
 ∃(a:Unit),(zC !b)=IntKind.i64.wrap (3-zC b)∧True
def z4w (i:GoI):Prop:=
 cnd (zC i.s==1) (cnd (decide (i.x≤i.p)) (∃(a:Unit),dB i.s i.p i.x=true∧True) (cnd (zC i.s==2) (∃(a:Unit),dB i.s i.p i.x=decide (i.x≥i.p)∧True) (∃(a:Unit),dB i.s i.p i.x=false∧True))) (cnd (zC i.s==2) (∃(a:Unit),dB i.s i.p i.x=decide (i.x≥i.p)∧True) (∃(a:Unit),dB i.s i.p i.x=false∧True))
def zCa (a:MSt) (b:NxI):Prop:=sb a.p.code=sb b.s.p.code∧True∧a.p.tick=b.s.p.tick∧a.p.low=b.s.p.low∧a.p.high=b.s.p.high∧a.p.wide=b.s.p.wide∧a.p.rule=b.s.p.rule∧a.p.top=b.s.p.top∧a.p.least=b.s.p.least∧a.p.part=b.s.p.part∧True∧True
def zX (a:NxI):=(yO a.p a.B a.inst (zC a.sd))
def zIm (a:NxI) (b:MSt) (c:Book):Prop:=sb a.s.p.code=sb b.p.code∧a.s.p.tick=b.p.tick∧a.s.p.low=b.p.low∧a.s.p.high=b.p.high∧a.s.p.wide=b.p.wide∧a.s.p.rule=b.p.rule∧a.s.p.top=b.p.top∧a.s.p.least=b.p.least∧a.s.p.part=b.p.part∧AObj.objs 184 Book 6 zQ a.s.books none=AObj.objs 184 Book 6 zQ (b.books.set a.inst.toNat c) none∧yS a.s.wh=yS b.wh∧AObj.fro 1 (iE a.s.p.months)=AObj.fro 1 (iE b.p.months)∧AObj.fro 1 (iE a.s.p.settle)=AObj.fro 1 (iE b.p.settle)∧True
def zJd (a:NxI) (b:BsI) (c:MSt) (d:Book):Prop:=∃(e:Unit),(zX a).fst.price=(y4 b.l b.s).fst.price∧(zX a).fst.qty=(y4 b.l b.s).fst.qty∧(zX a).fst.a.inst=(y4 b.l b.s).fst.a.inst∧(zX a).fst.a.side=(y4 b.l b.s).fst.a.side∧(zX a).fst.b.inst=(y4 b.l b.s).fst.b.inst∧(zX a).fst.b.side=(y4 b.l b.s).fst.b.side∧(zX a).snd.fst=(y4 b.l b.s).snd∧(zX a).snd.snd=(y4 b.l b.s).snd∧zIm a c d
def zKg (a:NxI) (b:BkS) (c:MSt) (d:Book):Prop:=∃(e:Unit),(zX a).fst.price=(zS b).fst.price∧(zX a).fst.qty=(zS b).fst.qty∧(zX a).fst.a.inst=0∧(zX a).fst.a.side=0∧(zX a).fst.b.inst=0∧(zX a).fst.b.side=0∧(zX a).snd.fst=false∧(zX a).snd.snd=true∧zIm a c d
def zGb (a:tX) (b:NxI) (c:MSt):Prop:=∃(d:BsI),List.map zJ d.l=List.map zJ (wM a.i (zC a.s))∧d.s=zC b.sd∧((d.s=1∨d.s=2)∧d.l.length≤1000000)∧∀(e:Unit),True→(0≤b.inst∧b.inst<(↑c.books.length:Int))∧b.inst.toNat<c.books.length∧∃(f:Book),c.books[b.inst.toNat]?=some f∧∃(g:BkS),zC g.side=zC b.sd∧yA g.b=yA f∧(wE g)∧∀(h:Unit),True→∃(j:Book),yA g.b=yA j∧b.inst.toNat=b.inst.toNat∧b.inst.toNat<c.books.length∧cnd (zS g).snd (cnd (y4 d.l d.s).snd (∃(k:I3'),k.side=zC b.sd∧k.x=(y4 d.l d.s).fst.price∧k.y=(zS g).fst.price∧True∧∀(l:Unit),True→cnd (!btr k.side k.x k.y) (zKg b g c j) (zJd b d c j)) (zKg b g c j)) (zJd b d c j)
def zNv (a:MSt) (b:NxI):Prop:=(zCa a b)∧∃(c:tX),sb c.i.p.code=sb b.s.p.code∧iE c.i.p.months=iE a.p.months∧c.i.p.tick=b.s.p.tick∧c.i.p.low=b.s.p.low∧c.i.p.high=b.s.p.high∧c.i.p.wide=b.s.p.wide∧c.i.p.rule=b.s.p.rule∧c.i.p.top=b.s.p.top∧c.i.p.least=b.s.p.least∧c.i.p.part=b.s.p.part∧iE c.i.p.settle=iE a.p.settle∧List.map z7 c.i.tops=List.map z7 a.tops∧c.i.inst=b.inst∧zC c.s=zC b.sd∧(wX c)∧∀(d:Unit),True→zGb c b a
def bV (a:MSt):Prop:=a.books.length≤1000000∧∀(b:Book),b∈a.books→∀(c:fY),c∈b.a.queues→(-9223372036854775808)≤c.count∧c.count≤9223372036854775807
def yGt (i:NxI):Prop:=
 (∃(a:MSt),sb a.p.code=sb i.s.p.code∧a.p.tick=i.s.p.tick∧a.p.low=i.s.p.low∧a.p.high=i.s.p.high∧a.p.wide=i.s.p.wide∧a.p.rule=i.s.p.rule∧a.p.top=i.s.p.top∧a.p.least=i.s.p.least∧a.p.part=i.s.p.part∧AObj.objs 184 Book 6 zQ a.books none=AObj.objs 184 Book 6 zQ i.s.books none∧yS a.wh=yS i.s.wh∧AObj.fro 1 (iE a.p.months)=AObj.fro 1 (iE i.s.p.months)∧AObj.fro 1 (iE a.p.settle)=AObj.fro 1 (iE i.s.p.settle)∧(bV a)∧∀(b:Unit),True→(zCa a i)∧(∃(c:tX),sb c.i.p.code=sb i.s.p.code∧iE c.i.p.months=iE a.p.months∧c.i.p.tick=i.s.p.tick∧c.i.p.low=i.s.p.low∧c.i.p.high=i.s.p.high∧c.i.p.wide=i.s.p.wide∧c.i.p.rule=i.s.p.rule∧c.i.p.top=i.s.p.top∧c.i.p.least=i.s.p.least∧c.i.p.part=i.s.p.part∧iE c.i.p.settle=iE a.p.settle∧List.map z7 c.i.tops=List.map z7 a.tops∧c.i.inst=i.inst∧zC c.s=zC i.sd∧(wX c)∧∀(d:Unit),True→(zGb c i a)∧zGb c i a)∧zNv a i)∧(sb i.s.p.code=sb i.s.p.code∧True∧i.s.p.tick=i.s.p.tick∧i.s.p.low=i.s.p.low∧i.s.p.high=i.s.p.high∧i.s.p.wide=i.s.p.wide∧i.s.p.rule=i.s.p.rule∧i.s.p.top=i.s.p.top∧i.s.p.least=i.s.p.least∧i.s.p.part=i.s.p.part∧True∧True)∧∃(a:MSt),sb a.p.code=sb i.s.p.code∧a.p.tick=i.s.p.tick∧a.p.low=i.s.p.low∧a.p.high=i.s.p.high∧a.p.wide=i.s.p.wide∧a.p.rule=i.s.p.rule∧a.p.top=i.s.p.top∧a.p.least=i.s.p.least∧a.p.part=i.s.p.part∧AObj.objs 184 Book 6 zQ a.books none=AObj.objs 184 Book 6 zQ i.s.books none∧yS a.wh=yS i.s.wh∧AObj.fro 1 (iE a.p.months)=AObj.fro 1 (iE i.s.p.months)∧AObj.fro 1 (iE a.p.settle)=AObj.fro 1 (iE i.s.p.settle)∧(bV a)∧∀(b:Unit),True→zNv a i
def cX (a:AtI):=(List.map j8 (atL a.L (zC a.s) a.price))
def zBy (a:Nat×MSt→Prop) (b:Nat×MSt) (c:Nat×MSt→Nat) (d:Nat×MSt) (e:AlI) (f:AtI) (g:BkS) (h:TrI):Prop:=a b∧c b<c d∧AObj.own 2 1 (iE (qO e))=AObj.own 2 1 (iE (qO e))∧AObj.fro 5 (cX f)=AObj.fro 5 (cX f)∧Sx.AObj.cells [V.d (dI (gT g)),V.d (dI (vT g)),V.d (dI ((zS g).fst.count))] 76=Sx.AObj.cells [V.d (dI (gT g)),V.d (dI (vT g)),V.d (dI ((zS g).fst.count))] 76∧Sx.AObj.cells [V.d (dI h.inst),V.d (dI (zC h.sd))] 254=Sx.AObj.cells [V.d (dI h.inst),V.d (dI (zC h.sd))] 254∧AObj.fro 1 (iE h.s.p.months)=AObj.fro 1 (iE h.s.p.months)∧AObj.fro 1 (iE h.s.p.settle)=AObj.fro 1 (iE h.s.p.settle)
def uT (a:TrI):=(qG a.p a.B a.inst (zC a.sd) a.q)
def g7 (a:TrI):=(kB a.B (uT a))
def z8x (i:TrI):Prop:=
 (0≤i.inst∧i.inst<(↑i.s.books.length:Int))∧i.inst.toNat<i.s.books.length∧∃(a:Book),i.s.books[i.inst.toNat]?=some a∧∃(b:BkS),zC b.side=zC i.sd∧yA b.b=yA a∧(wE b)∧∀(c:Unit),True→∃(d:Book),yA b.b=yA d∧i.inst.toNat=i.inst.toNat∧i.inst.toNat<i.s.books.length∧∃(e:Book),(i.s.books.set i.inst.toNat d)[i.inst.toNat]?=some e∧∃(f:AtI),zC f.s=zC i.sd∧f.price=(zS b).fst.price∧yA f.b=yA e∧f.b.Rep f.L∧∀(g:Unit),True→∃(h:Book),yA f.b=yA h∧i.inst.toNat=i.inst.toNat∧i.inst.toNat<(i.s.books.set i.inst.toNat d).length∧∃(j:AlI),sb j.p.code=sb i.s.p.code∧iE j.p.months=iE i.s.p.months∧j.p.tick=i.s.p.tick∧j.p.low=i.s.p.low∧j.p.high=i.s.p.high∧j.p.wide=i.s.p.wide∧j.p.rule=i.s.p.rule∧j.p.top=i.s.p.top∧j.p.least=i.s.p.least∧j.p.part=i.s.p.part∧iE j.p.settle=iE i.s.p.settle∧List.map j8 j.l=List.map j8 (atL f.L (zC f.s) f.price)∧j.q=i.q∧(j.l.length≤1000∧((-9223372036854775808)≤j.q∧j.q≤9223372036854775807)∧((-9223372036854775808)≤j.p.least∧j.p.least≤9223372036854775807)∧((-9223372036854775808)≤j.p.top∧j.p.top≤9223372036854775807)∧(-9223372036854775808)≤j.p.part∧j.p.part≤9223372036854775807)∧∀(k:Unit),True→∃(l:Nat×MSt),(↑l.fst:Int)=0∧sb l.snd.p.code=sb i.s.p.code∧l.snd.p.tick=i.s.p.tick∧l.snd.p.low=i.s.p.low∧l.snd.p.high=i.s.p.high∧l.snd.p.wide=i.s.p.wide∧l.snd.p.rule=i.s.p.rule∧l.snd.p.top=i.s.p.top∧l.snd.p.least=i.s.p.least∧l.snd.p.part=i.s.p.part∧AObj.objs 184 Book 6 zQ l.snd.books none=AObj.objs 184 Book 6 zQ ((i.s.books.set i.inst.toNat d).set i.inst.toNat h) none∧yS l.snd.wh=yS i.s.wh∧AObj.fro 1 (iE l.snd.p.months)=AObj.fro 1 (iE i.s.p.months)∧AObj.fro 1 (iE l.snd.p.settle)=AObj.fro 1 (iE i.s.p.settle)∧List.map yR (i.fs l.fst)=[]∧∃(m:Nat×MSt→Prop),∃(n:Nat×MSt→Nat),m l∧∀(p:Nat×MSt),m p→cnd (decide ((↑p.fst:Int)<(↑(iE (qO j)).length:Int))) ((0≤(↑p.fst:Int)∧(↑p.fst:Int)<(↑(iE (qO j)).length:Int))∧∃(q:Int),zE (iE (qO j)) (↑p.fst:Int).toNat 0 1=some [dI q]∧cnd (decide (q>0)) ((0≤(↑p.fst:Int)∧(↑p.fst:Int)<(↑(cX f).length:Int))∧∃(r:Int),∃(s:Int),∃(t:Int),∃(u:Int),∃(v:Bool),zE (cX f) (↑p.fst:Int).toNat 0 5=some [dI r,dI s,dI t,dI u,D.v (.bool v)]∧∃(w:StI),w.id=r∧w.q=q∧zD w.s=zD p.snd∧(w.s.Rep w.p w.B∧w.B.length≤1000)∧∀(x:MSt),x.Rep w.p (qS w.B w.id w.q).fst→((List.map yR (i.fs p.fst)).length+1)*(48:Nat)≤(70368744177664:Nat)∧∃(y:Nat×MSt),(↑y.fst:Int)=IntKind.i64.wrap ((↑p.fst:Int)+1)∧zD y.snd=zD x∧List.map yR (i.fs y.fst)=List.map yR (i.fs p.fst)++[[dI r,dI i.inst,dI (zC i.sd),dI t,dI q,dI (IntKind.i64.wrap (u-q))]]∧zBy m y n p j f b i) (∃(r:Nat×MSt),(↑r.fst:Int)=IntKind.i64.wrap ((↑p.fst:Int)+1)∧zD r.snd=zD p.snd∧List.map yR (i.fs r.fst)=List.map yR (i.fs p.fst)∧zBy m r n p j f b i)) (∃(q:MSt),zD q=zD p.snd∧List.map yR (uT i)=List.map yR (i.fs p.fst)∧q.Rep i.p (g7 i))
open Go Cv Go.Proofs
theorem zAg {p:Prd} (hc:p.check=0) {k v:Int} (h:p.price k v=0): -2000000≤v∧v≤2000000:=by
 have ok:=kI hc
 have:=ok.b1
 have:=ok.b2
 have:=ok.b3
 have:=ok.b4
 have:=ok.b5
 rw[Prd.price]at h
 by_cases c1:p.count=0
 ·rw[yRe c1]at h;cases h
 by_cases c2:k<0∨(p.count:Int)≤k
 ·rw[yRd c1,yRe c2]at h;cases h
 cases c3:qD p.tick v with
 |true=>rw[yRd c1,yRd c2,yRe c3]at h;cases h
 |false=>
  rw[yRd c1,yRd c2,yRd (by rw[c3];decide)]at h
  by_cases c4:(p.months.length:Int)≤k
  ·simp only[yRe c4]at h
   by_cases c5:v< -p.wide∨p.wide<v
   ·rw[yRe c5]at h;cases h
   ·omega
  ·simp only[yRd c4]at h
   by_cases c5:v<p.low∨p.high<v
   ·rw[yRe c5]at h;cases h
   ·omega
theorem sP {t:Int} (k:Int):qD t (t*k)=false:=by
 simp[qD,Int.mul_tmod_right]
theorem zTz (x:Prd):(z8 x).small:=by
 have:=z5e x
 refine⟨by simp[z8],?_,?_⟩
 ·show(kT _).length≤_
  rw[pN];omega
 ·show(qN _ _).length≤_
  rw[bK];omega
theorem pP (x:Prd):(z8 x).check=0:=by
 have ht:=zBg x
 have hn:=z5e x
 have hw:=yP (n:=x.wide) (lo:=0) (hi:=60) (by omega)
 have hr:=yP (n:=x.rule) (lo:=0) (hi:=2) (by omega)
 have ho:=yP (n:=x.top) (lo:=0) (hi:=9) (by omega)
 have hl:=yP (n:=x.least) (lo:=0) (hi:=4) (by omega)
 have hp:=yP (n:=x.part) (lo:=0) (hi:=100) (by omega)
 have h1:jJ (z8 x).code=true:=by show jJ [206,169]=true;decide+kernel
 obtain⟨k,hk,hk1⟩:∃k:Nat,(kN x).toNat=k∧(2≤k∧k≤5):=⟨_,rfl,by omega⟩
 have h2:xD (z8 x).months=true:=by
  show xD (kT (kN x).toNat)=true
  rw[hk]
  have:k=2∨k=3∨k=4∨k=5:=by omega
  rcases this with rfl|rfl|rfl|rfl<;>decide
 have h3:x9 (z8 x)=true:=by
  have a:qD (zT x) (-20*zT x)=false:=by rw[yVc];exact sP _
  have b:qD (zT x) (100*zT x)=false:=by rw[yVc];exact sP _
  have c:(qN (zT x) (kN x).toNat).any (qD (zT x))=false:=by
   rw[yWz]
   intro y hy
   obtain⟨j,_,rfl⟩:=ySm.1 hy
   rw[sP];decide
  simp only[x9,z8,a,b,c,sP,yVw,Bool.and_true,yRq]
  exact⟨yRu (by omega),yRu (by omega)⟩
 have mw:=rN (a:=zT x) (b:=5+zF x.wide 0 60) (m:=zT x) (n:=65) (by omega) (by omega)
 have h4:qA (z8 x)=false:=by
  simp only[qA,z8,yUw]
  exact⟨⟨⟨⟨yRo (by omega),yRo (by omega)⟩,yRo (by omega)⟩,yRo (by omega)⟩,yRo (by omega)⟩
 have h5:xE (z8 x)=false:=by
  have e:(qN (zT x) (kN x).toNat).length=(kT (kN x).toNat).length:=by rw[bK,pN]
  have ne:qN (zT x) (kN x).toNat≠[]:=by
   intro hc
   have:=bK (zT x) (kN x).toNat
   rw[hc]at this
   simp at this
   omega
  have bd:∀y∈qN (zT x) (kN x).toNat,0≤y∧y≤zT x*15:=by
   intro y hy
   obtain⟨j,hj,rfl⟩:=ySm.1 hy
   have:=yUg.1 hj
   exact rN (by omega) (by omega)
  have m1:=bd _ (zRp ne)
  have m2:=bd _ (zRt ne)
  simp only[xE,z8,e,ne_eq,not_true_eq_false,decide_false,yWr,yUw]
  exact⟨yRo (by omega),yRo (by omega)⟩
 have h6:qP (z8 x)=false:=by
  simp only[qP,z8,yUw]
  exact⟨yRo (by omega),yRo (by omega)⟩
 have h7:xW (z8 x)=false:=by
  simp only[xW,z8,yUw]
  exact⟨⟨⟨⟨⟨yRo (by omega),yRo (by omega)⟩,yRo (by omega)⟩,yRo (by omega)⟩,yRo (by omega)⟩,yRo (by omega)⟩
 rw[Prd.check,h1,h2,h3,h4,h5,h6,h7]
 rfl
open Go Cv Go.Proofs
structure zPu (qs sh:List Int) (q:Int):Prop where
 len:sh.length=qs.length
 bd:∀n,0≤sh.getD n 0∧sh.getD n 0≤qs.getD n 0
 sum:sh.sum=q
theorem z9k:∀{l:List Int},(∀x∈l,0≤x)→0≤l.sum
 |[],_=>yWy 0
 |a::l,h=>by
  have:=z9k (l:=l) fun x hx=>h x (yRk _ hx)
  have:=h a yRj
  rw[ySn];omega
theorem zZe:∀{z:List (Int×Int)},(∀y∈z,0≤y.2∧y.2≤y.1)→(z.map (·.2)).sum≤(z.map (·.1)).sum
 |[],_=>yWy 0
 |a::l,h=>by
  have:=zZe (z:=l) fun x hx=>h x (yRk _ hx)
  have:=h a yRj
  rw[yRs,yRs,ySn,ySn];omega
theorem rC:∀(l:List Int) (q:Int),(∀x∈l,0≤x)→0≤q→q≤l.sum→zPu l (vV l q) q
 |[],q,_,h0,h1=>⟨rfl,fun n=>by simp[vV],by simp at h1;simp[vV];omega⟩
 |n::l,q,h,h0,h1=>by
  have hn:=h n yRj
  rw[ySn]at h1
  have:=z9k fun x hx=>h x (yRk _ hx)
  have ih:=rC l (q-min n q) (fun x hx=>h x (yRk _ hx)) (by omega) (by omega)
  refine⟨by rw[vV,yRt,yRt,ih.len],fun k=> ?_,by rw[vV,ySn,ih.sum];omega⟩
  cases k with
  |zero=>exact⟨by show 0≤min n q;omega,by show min n q≤n;omega⟩
  |succ k=>exact ih.bd k
theorem tT:∀(z:List (Int×Int)) (q:Int),(∀y∈z,0≤y.2∧y.2≤y.1)→0≤q→q≤(z.map (·.1)).sum-(z.map (·.2)).sum→(jP z q).length=z.length∧(∀n,0≤(jP z q).getD n 0∧(jP z q).getD n 0≤(z.map (·.1)).getD n 0)∧(jP z q).sum=(z.map (·.2)).sum+q
 |[],q,_,h0,h1=>⟨rfl,fun n=>by simp[jP],by simp at h1;simp[jP];omega⟩
 |(n,x)::r,q,h,h0,h1=>by
  have hn:=h (n,x) yRj
  simp only[yRs,ySn]at h1
  have:=zZe fun y hy=>h y (yRk _ hy)
  have ih:=tT r (q-min (n-x) q) (fun y hy=>h y (yRk _ hy)) (by omega) (by omega)
  refine⟨by rw[jP,yRt,yRt,ih.1],fun k=> ?_,by rw[jP,ySn,ih.2.2,yRs,ySn];omega⟩
  cases k with
  |zero=>exact⟨by show 0≤x+min (n-x) q;have:=hn.1;have:=hn.2;dsimp only at*;omega,by show x+min (n-x) q≤n;have:=hn.2;dsimp only at*;omega⟩
  |succ k=>exact ih.2.1 k
theorem z6z {l:List Int} {q:Int} (h1:l.length≤250) (h2:0≤q) (h3:∀x∈l,1≤x∧x≤1000000) (h4:q≤l.sum):yQ l q=true:=by
 rw[yQ,yRu h1,yRu h2,yRu h4]
 simp only[yTu,Bool.and_true,yUd,yRq,ySs]
 exact h3
theorem zPn {i:PlI} (h:yQ i.l i.q=true) (hl:1≤i.least):zPu i.l (kH i) i.q:=by
 obtain⟨r1,r2,r3,r4⟩:=kO h
 rw[kH,yRe ⟨h,hl⟩]
 by_cases hne:i.l.length=0
 ·have e:i.l=[]:=ySe hne
  have hq:i.q=0:=by rw[e]at r4;simp at r4;omega
  have e0:i.p1=[]:=by rw[PlI.p1,e];rfl
  rw[e0,e,hq]
  exact⟨rfl,fun n=>by simp,rfl⟩
 ·obtain⟨_,_,f1,f2⟩:=zAu h (by omega)
  have hpl:=zWq i
  have m1:(i.l.zip i.p0).map (·.1)=i.l:=List.map_fst_zip (by omega)
  have m2:(i.l.zip i.p0).map (·.2)=i.p0:=List.map_snd_zip (by omega)
  have hp:=tT (i.l.zip i.p0) (i.q-i.p0.sum) (fun y hy=>by
   obtain⟨j,hj⟩:=yTo.1 hy
   rw[yVk]at hj
   exact f1 j _ _ hj.1 hj.2) (by omega) (by rw[m1,m2];omega)
  rw[m1,m2]at hp
  refine⟨?_,hp.2.1,?_⟩
  ·rw[PlI.p1,hp.1,List.length_zip,hpl,Nat.min_self]
  ·rw[PlI.p1,hp.2.2];omega
theorem zOb:∀{l:List Int} {k:Nat} {x:Int},k<l.length→(l.set k x).sum=l.sum+(x-l.getD k 0)
 |[],k,x,h=>absurd h (by simp)
 |a::l,0,x,_=>by
  show x+l.sum=a+l.sum+(x-a);omega
 |a::l,k+1,x,h=>by
  have:=zOb (l:=l) (k:=k) (x:=x) (by simpa using h)
  show a+(l.set k x).sum=a+l.sum+(x-l.getD k 0)
  omega
theorem zGs {l:List Int} {k n:Nat} {x:Int} (h:k<l.length):(l.set k x).getD n 0=if n=k then x else l.getD n 0:=by
 rw[yRl,yWf]
 by_cases e:k=n
 ·subst e;rw[yRe rfl,yRe h,yRe rfl];rfl
 ·rw[yRd e,yRd (fun e2=>e e2.symm),yRl]
theorem zSa {l:List Int}:∀(z:List (Nat×Int)) (o:List Int),(z.map (·.1)).Nodup→(∀y∈z,y.1<o.length∧0≤y.2∧o.getD y.1 0+y.2≤l.getD y.1 0)→(∀n,0≤o.getD n 0∧o.getD n 0≤l.getD n 0∧l.getD n 0≤1000000)→
 (z.foldl (fun o y=>o.set y.1 (IntKind.i64.wrap (o.getD y.1 0+y.2))) o).length=o.length∧(z.foldl (fun o y=>o.set y.1 (IntKind.i64.wrap (o.getD y.1 0+y.2))) o).sum=o.sum+(z.map (·.2)).sum∧∀n,0≤(z.foldl (fun o y=>o.set y.1 (IntKind.i64.wrap (o.getD y.1 0+y.2))) o).getD n 0∧(z.foldl (fun o y=>o.set y.1 (IntKind.i64.wrap (o.getD y.1 0+y.2))) o).getD n 0≤l.getD n 0
 |[],o,_,_,h=>⟨rfl,by simp,fun n=>⟨(h n).1,(h n).2.1⟩⟩
 |y::z,o,hn,hz,h=>by
  obtain⟨h1,h2,h3⟩:=hz y yRj
  rw[yRs,yTm]at hn
  have hw:IntKind.i64.wrap (o.getD y.1 0+y.2)=o.getD y.1 0+y.2:=by
   have:=h y.1
   exact w64 (by omega)
  rw[yUy,hw]
  have ih:=zSa (l:=l) z (o.set y.1 (o.getD y.1 0+y.2)) hn.2 (fun x hx=>by
   obtain⟨g1,g2,g3⟩:=hz x (yRk _ hx)
   have hne:x.1≠y.1:=fun e=>hn.1 (e▸ySc (f:=(·.1)) hx)
   rw[ySj,zGs h1,yRd hne]
   exact⟨g1,g2,g3⟩) (fun n=>by
   rw[zGs h1]
   split
   ·rename_i e
    rw[e]
    exact⟨by have:=h y.1;omega,h3,(h y.1).2.2⟩
   ·exact h n)
  refine⟨by rw[ih.1,ySj],?_,ih.2.2⟩
  rw[ih.2.1,zOb h1,yRs,ySn];omega
theorem zIs (l:List Int):(List.range l.length).map (fun n=>l.getD n 0)=l:=by
 apply yVp
 intro n
 rw[yTb]
 by_cases h:n<l.length
 ·rw[yVu h,ySl h,yTd,yRl,ySl h];rfl
 ·rw[ySi (by simpa using h),ySi (by omega)];rfl
theorem zYi {f g:Nat→Int}:∀l:List Nat,(l.map fun n=>f n-g n).sum=(l.map f).sum-(l.map g).sum
 |[]=>rfl
 |a::l=>by rw[yRs,yRs,yRs,ySn,ySn,ySn,zYi l];omega
theorem zHh {f:Nat→Int} {p:Nat→Bool}:∀{l:List Nat},(∀n∈l,p n=false→f n=0)→((l.filter p).map f).sum=(l.map f).sum
 |[],_=>rfl
 |a::l,h=>by
  have ih:=zHh (l:=l) fun n hn=>h n (yRk _ hn)
  rw[yRs,ySn]
  by_cases e:p a=true
  ·rw[yVr e,yRs,ySn,ih]
  ·rw[yVs e,ih,h a yRj (by simpa using e)];omega
theorem pU {i:RsI} (hl:i.l.length≤250) (ho:i.out.length=i.l.length) (hn:∀n,0≤i.out.getD n 0∧i.out.getD n 0≤i.l.getD n 0∧i.l.getD n 0≤1000000) (hq:0≤i.q∧i.q≤i.l.sum-i.out.sum) (hle:1≤i.least):
 zPu i.l (aP i) (i.out.sum+i.q):=by
 have hidx:(i.idx i.l.length).length≤250:=yTv (yUp _ _) (by simpa using hl)
 have hmem:∀n∈i.idx i.l.length,n<i.l.length∧i.out.getD n 0<i.l.getD n 0:=by
  intro n hn
  obtain⟨a,b⟩:=yTf.1 hn
  exact⟨yUg.1 a,yTx b⟩
 have hls:(i.left i.l.length).sum=i.l.sum-i.out.sum:=by
  rw[RsI.left,RsI.idx,zHh,zYi,zIs]
  ·rw[← ho,zIs]
  ·intro n _ e
   have:=yWv e
   have:=hn n
   omega
 have hr:yQ (i.left i.l.length) i.q=true:=by
  refine z6z (by rw[RsI.left,yRg];exact hidx) hq.1 (fun x hx=> ?_) (by omega)
  obtain⟨n,hm,rfl⟩:=ySm.1 hx
  have:=hmem n hm
  have:=hn n
  omega
 have hp:=zPn (i:=⟨i.left i.l.length,i.least,i.q⟩) hr hle
 have hpl:i.pl.length=(i.idx i.l.length).length:=by
  have:=hp.len
  rw[RsI.pl,this,RsI.left,yRg]
 have hnd:(i.idx i.l.length).Nodup:=List.nodup_range.sublist yWp
 have z1:((i.idx i.l.length).zip i.pl).map (·.1)=i.idx i.l.length:=List.map_fst_zip (by omega)
 have z2:((i.idx i.l.length).zip i.pl).map (·.2)=i.pl:=List.map_snd_zip (by omega)
 have hf:=zSa (l:=i.l) ((i.idx i.l.length).zip i.pl) i.out (by rw[z1];exact hnd) (fun y hy=>by
  obtain⟨j,hj⟩:=yTo.1 hy
  rw[yVk]at hj
  have hm:=hmem y.1 (yRp hj.1)
  have hb:=hp.bd j
  have e1:(kH ⟨i.left i.l.length,i.least,i.q⟩).getD j 0=y.2:=by
   rw[yRl]
   have:(kH ⟨i.left i.l.length,i.least,i.q⟩)[j]? =some y.2:=hj.2
   rw[this];rfl
  have e2:(i.left i.l.length).getD j 0=i.l.getD y.1 0-i.out.getD y.1 0:=by
   rw[yRl,RsI.left,yTb,hj.1];rfl
  dsimp only at hb
  rw[e1,e2]at hb
  exact⟨by omega,hb.1,by omega⟩) hn
 have hall:aP i=((i.idx i.l.length).zip i.pl).foldl (fun o y=>o.set y.1 (IntKind.i64.wrap (o.getD y.1 0+y.2))) i.out:=by
  rw[aP,RsI.add,yRw (by rw[List.length_zip];omega)]
 rw[hall]
 refine⟨by rw[hf.1,ho],hf.2.2,?_⟩
 rw[hf.2.1,z2]
 have:=hp.sum
 rw[RsI.pl,this]
theorem zZt {l:List Int} (h:∀x∈l,1≤x∧x≤1000000) (n:Nat):0≤l.getD n 0∧l.getD n 0≤1000000:=by
 by_cases hn:n<l.length
 ·obtain⟨x,hx⟩:=yD hn
  have:=h x (yRp hx)
  rw[zR hx];omega
 ·rw[yRl,ySi (by omega)];decide
theorem yIb (n k:Nat):(List.replicate n (0:Int)).getD k 0=0:=by
 rw[yRl,List.getElem?_replicate]
 split<;>rfl
theorem zIp (n:Nat):(List.replicate n (0:Int)).sum=0:=by
 induction n with
 |zero=>rfl
 |succ n ih=>rw[yUz,ySn,ih];rfl
theorem yLb {q part:Int} (hq:0≤q) (h0:0≤part) (h1:part≤100):0≤q*part / 100∧q*part / 100≤q:=by
 have h2:0≤q*part:=yXb hq h0
 have h3:q*part≤q*100:=yVq h1 hq
 constructor<;>omega
theorem zPc {p:Prd} (hc:p.check=0) {l:List zH} {q:Int} (hr:yQ (l.map (·.qty)) q=true):zPu (l.map (·.qty)) (qO ⟨p,l,q⟩) q:=by
 have ok:=kI hc
 obtain⟨r1,r2,r3,r4⟩:=kO hr
 have q1:=ok.q1
 have q3:=ok.q3
 have q5:=ok.q5
 have q6:=ok.q6
 have r5:=ok.r1
 have r6:=ok.r2
 have gb:=zZt r3
 have eqs:(AlI.qs ⟨p,l,q⟩)=l.map (·.qty):=rfl
 rw[qO]
 simp only[eqs]
 generalize l.map (·.qty)=qs at*
 by_cases c1:p.rule=1
 ·rw[yRe c1,uF,yRe hr]
  exact rC _ _ (fun x hx=>by have:=r3 x hx;omega) r2 r4
 by_cases c2:p.rule=2
 ·rw[yRd c1,yRe c2,zAp,yRe ⟨hr,q3,q1⟩]
  rw[PsI.rs]
  dsimp only
  split
  ·rename_i ht
   have hk:(topI l).toNat<(List.replicate qs.length (0:Int)).length:=by simp;omega
   have hf:0≤PsI.first ⟨qs,topI l,p.top,p.least,q⟩∧PsI.first ⟨qs,topI l,p.top,p.least,q⟩≤qs.getD (topI l).toNat 0∧PsI.first ⟨qs,topI l,p.top,p.least,q⟩≤q:=by
    have:=gb (topI l).toNat
    simp only[PsI.first]
    omega
   have hs:((List.replicate qs.length (0:Int)).set (topI l).toNat (PsI.first ⟨qs,topI l,p.top,p.least,q⟩)).sum=PsI.first ⟨qs,topI l,p.top,p.least,q⟩:=by
    rw[zOb hk,zIp,yIb];omega
   have:=pU (i:=⟨qs,(List.replicate qs.length 0).set (topI l).toNat (PsI.first ⟨qs,topI l,p.top,p.least,q⟩),p.least,q-PsI.first ⟨qs,topI l,p.top,p.least,q⟩⟩) r1 (by simp) (fun n=>by
    dsimp only
    rw[zGs hk,yIb]
    have:=gb n
    split
    ·rename_i e;rw[e];exact⟨hf.1,hf.2.1,(gb _).2⟩
    ·omega) (by dsimp only;rw[hs];omega) q3
   dsimp only at this
   rw[hs]at this
   have e:PsI.first ⟨qs,topI l,p.top,p.least,q⟩+(q-PsI.first ⟨qs,topI l,p.top,p.least,q⟩)=q:=by omega
   rw[e]at this
   exact this
  ·have:=pU (i:=⟨qs,List.replicate qs.length 0,p.least,q⟩) r1 (by simp) (fun n=>by
    dsimp only
    rw[yIb]
    have:=gb n
    omega) (by dsimp only;rw[zIp];omega) q3
   dsimp only at this
   rw[zIp,Int.zero_add]at this
   exact this
 ·have c3:p.rule=3:=by omega
  rw[yRd c1,yRd c2,yRe c3,eJ,yRe ⟨hr,q5,q6,q3⟩]
  rw[SpI.rs]
  dsimp only
  obtain⟨d1,d2⟩:=yLb r2 q5 q6
  have hr2:yQ qs (q*p.part / 100)=true:=z6z r1 d1 r3 (by omega)
  have hfs:=rC qs (q*p.part / 100) (fun x hx=>by have:=r3 x hx;omega) d1 (by omega)
  have e0:uF qs (q*p.part / 100)=vV qs (q*p.part / 100):=by rw[uF,yRe hr2]
  have:=pU (i:=⟨qs,uF qs (q*p.part / 100),p.least,q-q*p.part / 100⟩) r1 (by dsimp only;rw[e0];exact hfs.len) (fun n=>by
   dsimp only
   rw[e0]
   exact⟨(hfs.bd n).1,(hfs.bd n).2,(gb n).2⟩) (by dsimp only;rw[e0,hfs.sum];omega) q3
  dsimp only at this
  rw[e0,hfs.sum]at this
  rw[e0]
  have e:q*p.part / 100+(q-q*p.part / 100)=q:=by omega
  rw[e]at this
  exact this
theorem zXh {p:Prd} {l:List zH} {q:Int} (hr:yQ (l.map (·.qty)) q=false):qO ⟨p,l,q⟩=[]:=by
 have eqs:(AlI.qs ⟨p,l,q⟩)=l.map (·.qty):=rfl
 rw[qO]
 simp only[eqs,uF,zAp,eJ,hr]
 simp
open Go Cv Go.Proofs
theorem zLq:motherC.ok Tryz.prog 153:=okw (V:=z0h) mixed gok0 0 (fun _=>[]) (fun _=>[]) [] Tryz.func153 fun(b:Bool) _=>by
 unfold z0h
 cases b<;>exact⟨(),by decide,trivial⟩
theorem zRm:mgoodC.ok Tryz.prog 154:=okw (V:=z4w) mixed gok0 0 (fun _=>[]) (fun _=>[]) [] Tryz.func154 fun(i:GoI) _=>by
 obtain⟨s,p,x⟩:=i
 unfold z4w
 cases s
 ·refine Cv.cnd.mk (fun _=>zI (fun c=>⟨(),?_,trivial⟩) (fun c=>Cv.cnd.mk (fun e=>by simp[zC]at e) (fun _=>⟨(),?_,trivial⟩))) (fun e=>by simp[zC]at e)
  ·exact yRu c
  ·exact yRo c
 ·exact Cv.cnd.mk (fun e=>by simp[zC]at e) (fun _=>Cv.cnd.mk (fun _=>⟨(),rfl,trivial⟩) (fun e=>by simp[zC]at e))
theorem zSi {L:List zH} {s:Int}:((bestL L s).2=true∧∃o∈L,o.side=s∧o.price=(bestL L s).1.price)∨(bestL L s=(⟨0,0,0⟩,false)∧∀o∈L,o.side≠s):=by
 rw[bestL]
 cases hl:zQm L s with
 |nil=>
  refine .inr ⟨rfl,fun o ho e=> ?_⟩
  rw[zQm]at hl
  cases hf:L.filter fun o=>decide (o.side=s)with
  |nil=>
   rw[List.filter_eq_nil_iff]at hf
   have:=hf o ho
   simp[e]at this
  |cons x y=>
   rw[hf,grp]at hl
   split at hl
   ·cases hl
   ·split at hl<;>cases hl
 |cons v vs=>
  refine .inl ⟨rfl,?_⟩
  rw[zQm]at hl
  obtain⟨o,r,e1,e2⟩:=zTp hl
  have:o∈L.filter fun o=>decide (o.side=s):=by rw[e1];exact yRj
  rw[yTf]at this
  exact⟨o,this.1,by simpa using this.2,e2⟩
theorem zPl {L:List zH} {s:Int} (h:∀o∈L,-2000000≤o.price∧o.price≤2000000): -2000000≤(bestL L s).1.price∧(bestL L s).1.price≤2000000:=by
 rcases zSi (L:=L) (s:=s)with⟨_,o,ho,_,e⟩|⟨e,_⟩
 ·rw[← e];exact h o ho
 ·rw[e];constructor<;>decide
theorem zNy (L:List zH):(gP L).p1=(bestL L 1).1.price∧(gP L).q1=(bestL L 1).1.qty∧(gP L).has1=(bestL L 1).2∧(gP L).p2=(bestL L 2).1.price∧(gP L).q2=(bestL L 2).1.qty∧(gP L).has2=(bestL L 2).2:=by
 have h:∀s,(bestL L s).2=true∨bestL L s=(⟨0,0,0⟩,false):=fun s=>by
  rcases zSi (L:=L) (s:=s)with⟨h,_⟩|⟨h,_⟩
  ·exact .inl h
  ·exact .inr h
 rw[gP,Top.sell,Top.buy]
 rcases h 1 with h1|h1<;>rcases h 2 with h2|h2<;>simp[h1,h2,top0]
theorem BOk.prices {p:Prd} {B:List (List zH)} (h:BOk p B) {k:Nat} {L:List zH} (hL:B[k]? =some L):∀o∈L,-2000000≤o.price∧o.price≤2000000:=fun o ho=>zAg h.pc (h.pr k L hL o ho)
theorem BOk.tops {p:Prd} {B:List (List zH)} (h:BOk p B):vD (B.map gP):=by
 have:=xQ p
 refine⟨by rw[yRg,h.bl];omega,fun t ht=> ?_⟩
 obtain⟨L,hL,rfl⟩:=ySm.1 ht
 obtain⟨k,hk⟩:=yTo.1 hL
 have b1:=zPl (s:=1) (h.prices hk)
 have b2:=zPl (s:=2) (h.prices hk)
 rw[(zNy L).1,(zNy L).2.2.2.1]
 exact⟨by constructor<;>omega,by constructor<;>omega⟩
theorem MSt.Rep.tops {s:MSt} {p:Prd} {B:List (List zH)} (h:s.Rep p B):s.tops=B.map gP:=by
 rw[MSt.tops]
 apply yVp
 intro k
 rw[yTb,yTb]
 by_cases hk:k<B.length
 ·obtain⟨L,hL⟩:=yD hk
  obtain⟨b,hb⟩:=yD (l:=s.books) (i:=k) (by rw[h.bl];exact hk)
  rw[hL,hb,yTd,yTd,(h.bk k b L hb hL).top]
 ·rw[ySi (by rw[h.bl];omega),ySi (by omega)];rfl
theorem MSt.Rep.cnt {s:MSt} {p:Prd} {B:List (List zH)} (h:s.Rep p B) (hB:B.length≤1000000):s.cntOk:=by
 refine⟨by rw[h.bl];exact hB,fun b hb=> ?_⟩
 obtain⟨k,hk⟩:=yTo.1 hb
 have hlt:=(yRf.1 hk).1
 rw[h.bl]at hlt
 obtain⟨L,hL⟩:=yD hlt
 exact(h.bk k b L hk hL).cnt
theorem zUh {b:Book} {L:List zH} (h:b.Rep L) (sd:Bool):b.best (b.side sd)=bestL L (zC sd):=by
 obtain⟨Q,c,ht,rfl⟩:=h
 cases sd
 ·exact c.bestL (.inl rfl)
 ·exact c.bestL (.inr rfl)
theorem l7 (sd:Bool):zC sd=1∨zC sd=2:=by cases sd;exact .inl rfl;exact .inr rfl
theorem yOy (i:NxI) (h:nextC.cnd i):yGt i:=by
 obtain⟨hR,hB,h0,h1⟩:i.s.Rep i.p i.B∧BOk i.p i.B∧0≤i.inst∧i.inst<i.B.length:=h
 have hcl:=xQ i.p
 have hbl:=hB.bl
 have hsl:=hR.bl
 obtain⟨k,hk⟩:∃k:Nat,i.inst=k:=⟨i.inst.toNat,by omega⟩
 obtain⟨L,hL⟩:=yD (l:=i.B) (i:=k) (by omega)
 obtain⟨b,hb⟩:=yD (l:=i.s.books) (i:=k) (by omega)
 have hbR:=hR.bk k b L hb hL
 have hps:i.s.p.small:=by rw[hR.ep];exact hB.ps
 have hto:vD i.s.tops:=by rw[hR.tops];exact hB.tops
 have hnx:yO i.p i.B i.inst (zC i.sd)=if((bestL L (zC i.sd)).2 && !((y4 (wM ⟨i.s.p,i.s.tops,i.inst⟩ (zC i.sd)) (zC i.sd)).2 && btr (zC i.sd) (y4 (wM ⟨i.s.p,i.s.tops,i.inst⟩ (zC i.sd)) (zC i.sd)).1.price (bestL L (zC i.sd)).1.price))=true then(⟨(bestL L (zC i.sd)).1.price,(bestL L (zC i.sd)).1.qty,⟨0,0⟩,⟨0,0⟩⟩,false,true)else((y4 (wM ⟨i.s.p,i.s.tops,i.inst⟩ (zC i.sd)) (zC i.sd)).1,(y4 (wM ⟨i.s.p,i.s.tops,i.inst⟩ (zC i.sd)) (zC i.sd)).2,(y4 (wM ⟨i.s.p,i.s.tops,i.inst⟩ (zC i.sd)) (zC i.sd)).2):=by
  rw[yO,hR.tops,hR.ep,hk,yRx,zR hL]
 have hbest:=zUh hbR i.sd
 unfold yGt bV zNv wX fE zGb wE zKg zS zJd zIm zX zCa
 have hcnt:i.s.cntOk:=hR.cnt (by omega)
 have hql:(wM ⟨i.s.p,i.s.tops,i.inst⟩ (zC i.sd)).length≤1000000:=by
  have:=yTv (yUp (fun q=>decide (i.s.p.price i.inst q.price=0)) _) (zIx ⟨i.s.p,i.s.tops,i.inst⟩ (zC i.sd))
  exact yTv this (by decide)
 refine(fun hT=>⟨⟨i.s,rfl,rfl,rfl,rfl,rfl,rfl,rfl,rfl,rfl,rfl,rfl,rfl,rfl,hcnt,fun _ _=>⟨⟨rfl,trivial,rfl,rfl,rfl,rfl,rfl,rfl,rfl,rfl,trivial,trivial⟩,⟨⟨⟨i.s.p,i.s.tops,i.inst⟩,i.sd⟩,rfl,rfl,rfl,rfl,rfl,rfl,rfl,rfl,rfl,rfl,rfl,rfl,rfl,rfl,⟨hps,hto⟩,fun _ _=>⟨hT,hT⟩⟩,⟨rfl,trivial,rfl,rfl,rfl,rfl,rfl,rfl,rfl,rfl,trivial,trivial⟩,⟨⟨⟨i.s.p,i.s.tops,i.inst⟩,i.sd⟩,rfl,rfl,rfl,rfl,rfl,rfl,rfl,rfl,rfl,rfl,rfl,rfl,rfl,rfl,⟨hps,hto⟩,fun _ _=>hT⟩⟩⟩,
  ⟨rfl,trivial,rfl,rfl,rfl,rfl,rfl,rfl,rfl,rfl,trivial,trivial⟩,⟨i.s,rfl,rfl,rfl,rfl,rfl,rfl,rfl,rfl,rfl,rfl,rfl,rfl,rfl,hcnt,fun _ _=>⟨⟨rfl,trivial,rfl,rfl,rfl,rfl,rfl,rfl,rfl,rfl,trivial,trivial⟩,⟨⟨⟨i.s.p,i.s.tops,i.inst⟩,i.sd⟩,rfl,rfl,rfl,rfl,rfl,rfl,rfl,rfl,rfl,rfl,rfl,rfl,rfl,rfl,⟨hps,hto⟩,fun _ _=>hT⟩⟩⟩⟩) ?_
 refine⟨⟨wM ⟨i.s.p,i.s.tops,i.inst⟩ (zC i.sd),zC i.sd⟩,rfl,rfl,⟨l7 _,hql⟩,fun _ _=>⟨⟨h0,by omega⟩,by omega,b,by rw[hk];exact hb,⟨i.sd,b⟩,rfl,rfl,hbR.cnt,fun _ _=>⟨b,rfl,rfl,by omega,?_⟩⟩⟩
 dsimp only
 rw[hbest]
 generalize bestL L (zC i.sd)=l at*
 generalize y4 (wM ⟨i.s.p,i.s.tops,i.inst⟩ (zC i.sd)) (zC i.sd)=bq at*
 have hset:i.s.books.set i.inst.toNat b=i.s.books:=u6 (by rw[hk];exact hb)
 rw[hset]
 refine Cv.cnd.mk (fun c1=>Cv.cnd.mk (fun c2=>⟨⟨zC i.sd,bq.1.price,l.1.price⟩,rfl,rfl,rfl,trivial,fun _ _=>Cv.cnd.mk (fun c3=> ?_) (fun c3=> ?_)⟩) (fun c2=> ?_)) (fun c1=> ?_)
 ·dsimp only at c3
  rw[yRe (by rw[c1,c2];simpa using c3)]at hnx
  rw[hnx];exact⟨(),by(repeat'(first|exact trivial|exact rfl|apply And.intro))⟩
 ·dsimp only at c3
  rw[yRd (by rw[c1,c2];simpa using c3)]at hnx
  rw[hnx];exact⟨(),by(repeat'(first|exact trivial|exact rfl|apply And.intro))⟩
 ·rw[yRe (by rw[c1,c2];rfl)]at hnx
  rw[hnx];exact⟨(),by(repeat'(first|exact trivial|exact rfl|apply And.intro))⟩
 ·rw[yRd (by rw[c1];simp)]at hnx
  rw[hnx];exact⟨(),by(repeat'(first|exact trivial|exact rfl|apply And.intro))⟩
theorem yEc:nextC.ok Tryz.prog 184:=okw mixed (gokc zTj (gokc z2o (gokc yAp (gokc zOa (gokc cV gok0))))) 0 (fun _=>[]) (fun _=>[]) [0] Tryz.func184 yOy
theorem zZi (i:RsI) (k:Nat):(i.add k).length=i.out.length:=by
 have:∀(l:List (Nat×Int)) (o:List Int),(l.foldl (fun o y=>o.set y.1 (IntKind.i64.wrap (o.getD y.1 0+y.2))) o).length=o.length:=by
  intro l
  induction l with
  |nil=>intro o;rfl
  |cons x l ih=>intro o;rw[yUy,ih,ySj]
 exact this _ _
theorem zSq (l:List Int) (q:Int):(uF l q).length≤l.length:=by
 rw[uF];split
 ·rw[pW];exact ySk _
 ·exact ySr _
theorem z3o (i:AlI):(qO i).length≤i.l.length:=by
 have hq:i.qs.length=i.l.length:=by simp[AlI.qs]
 rw[qO,← hq]
 repeat' split
 ·exact zSq _ _
 ·rw[zAp];split
  ·rw[aP,zZi,PsI.rs]
   split
   ·simp
   ·simp
  ·exact ySr _
 ·rw[eJ];split
  ·rw[aP,zZi];exact zSq _ _
  ·exact ySr _
 ·exact ySr _
theorem zGn {inst s:Int}:∀{os:List zH} {sh:List Int} {j:Nat} {o:zH} {k:Int},os[j]? =some o→sh[j]? =some k→xR inst s (os.take (j+1)) (sh.take (j+1))=xR inst s (os.take j) (sh.take j)++(if 0<k then[⟨o.id,inst,s,o.price,k,o.qty-k⟩]else[])
 |[],_,_,_,_,h,_=>by simp at h
 |_::_,[],_,_,_,_,h=>by simp at h
 |o::os,k::sh,0,_,_,h,h2=>by
  cases h;cases h2
  rw[ySp,ySp,yXa,yXa,yXa,yXa,xR]
  split<;>rfl
 |o::os,k::sh,j+1,o',k',h,h2=>by
  rw[ySp,ySp,xR,ySp,ySp,xR,zGn (os:=os) (sh:=sh) (j:=j) h h2]
  split<;>rfl
theorem zMj {inst s:Int}:∀(os:List zH) (sh:List Int),xR inst s (os.take sh.length) (sh.take sh.length)=xR inst s os sh
 |[],sh=>by simp
 |_::_,[]=>by simp[xR]
 |o::os,k::sh=>by
  rw[yRt,ySp,ySp,xR,xR,zMj os sh]
theorem z2h (B:List (List zH)) (a b:List fW):kB B (a++b)=kB (kB B a) b:=List.foldl_append
theorem aU (B:List (List zH)) (id q:Int):(qS B id q).1.length=B.length:=by
 rw[qS];split
 ·rfl
 ·simp
theorem vF:∀(fs:List fW) (B:List (List zH)),(kB B fs).length=B.length
 |[],B=>rfl
 |f::fs,B=>by
  show(kB (qS B f.id f.qty).1 fs).length=_
  rw[vF fs,aU]
theorem yKr {p:Prd} (h:p.check=0):yU p.least∧yU p.top∧yU p.part:=by
 have ok:=kI h
 have:=ok.q1
 have:=ok.q2
 have:=ok.q3
 have:=ok.q4
 have:=ok.q5
 have:=ok.q6
 exact⟨⟨by omega,by omega⟩,⟨by omega,by omega⟩,⟨by omega,by omega⟩⟩
theorem yJr (i:TrI) (h:tradeC.cnd i):z8x i:=by
 obtain⟨hR,hB,h0,h1,hq⟩:i.s.Rep i.p i.B∧BOk i.p i.B∧0≤i.inst∧i.inst<i.B.length∧yU i.q:=h
 have hcl:=xQ i.p
 have hbl:=hB.bl
 have hsl:=hR.bl
 have ep:=hR.ep
 obtain⟨k,hk⟩:∃k:Nat,i.inst=k:=⟨i.inst.toNat,by omega⟩
 obtain⟨L,hL⟩:=yD (l:=i.B) (i:=k) (by omega)
 obtain⟨b,hb⟩:=yD (l:=i.s.books) (i:=k) (by omega)
 have hbR:=hR.bk k b L hb hL
 have hbest:=zUh hbR i.sd
 have hos:atL L (zC i.sd) (bestL L (zC i.sd)).1.price=i.os:=by rw[TrI.os,zPy,hk,yRx,zR hL]
 have hset:i.s.books.set i.inst.toNat b=i.s.books:=u6 (by rw[hk];exact hb)
 have hosl:i.os.length≤250:=by
  rw[← hos];exact yTv (yUp _ _) hbR.ords.2.2
 have hsh:i.sh.length≤i.os.length:=z3o _
 obtain⟨k1,k2,k3⟩:=yKr hB.pc
 have hsb:∀(j:Nat) (n:Int),i.sh[j]? =some n→n≤1000000:=by
  intro j n hn
  cases hr:yQ (i.os.map (·.qty)) i.q with
  |false=>
   have:i.sh=[]:=zXh hr
   rw[this]at hn;cases hn
  |true=>
   have:=(zPc hB.pc hr).bd j
   have e:(qO ⟨i.p,i.os,i.q⟩).getD j 0=n:=zR hn
   rw[e]at this
   have:=(zZt (kO hr).2.2.1 j).2
   omega
 unfold z8x zBy vT gT cX g7 uT zS wE dI
 refine⟨⟨h0,by omega⟩,by omega,b,by rw[hk];exact hb,⟨i.sd,b⟩,rfl,rfl,hbR.cnt,fun _ _=> ?_⟩
 refine⟨b,rfl,rfl,by omega,b,by rw[hset,hk];exact hb,⟨b,L,i.sd,(bestL L (zC i.sd)).1.price⟩,rfl,by dsimp only;rw[hbest],rfl,hbR,fun _ _=> ?_⟩
 dsimp only
 try rw[hbest]
 rw[hset,hos]
 refine⟨b,rfl,rfl,by omega,⟨i.p,i.os,i.q⟩,by rw[ep],by rw[ep],by rw[ep],by rw[ep],by rw[ep],by rw[ep],by rw[ep],by rw[ep],by rw[ep],by rw[ep],by rw[ep],rfl,rfl,⟨by dsimp only;omega,hq,k1,k2,k3⟩,fun _ _=> ?_⟩
 have esh:qO ⟨i.p,i.os,i.q⟩=i.sh:=rfl
 rw[esh,hset,yY,yRg]
 refine⟨(0,i.s),rfl,rfl,rfl,rfl,rfl,rfl,rfl,rfl,rfl,rfl,rfl,rfl,rfl,rfl,rfl,fun j=>j.2.Rep i.p (kB i.B (i.fs j.1))∧j.1≤i.sh.length,fun j=>i.sh.length-j.1,⟨hR,ySr _⟩,fun j hj=> ?_⟩
 obtain⟨hjR,hjl⟩:=hj
 obtain⟨j,sj⟩:=j
 dsimp only at hjR hjl ⊢
 refine zI (fun c=> ?_) (fun c=> ?_)
 ·obtain⟨n,hn⟩:=yD (l:=i.sh) (i:=j) (by omega)
  obtain⟨o,ho⟩:=yD (l:=i.os) (i:=j) (by omega)
  have hst:=zGn (inst:=i.inst) (s:=zC i.sd) ho hn
  have hoL:o∈L:=by
   have:=yRp ho
   rw[← hos]at this
   exact(yTf.1 this).1
  have hoq:=(hbR.ords.1 o hoL).q
  have hnb:=hsb j n hn
  refine⟨⟨by omega,by omega⟩,n,elI hn,zI (fun c2=> ?_) (fun c2=> ?_)⟩
  ·rw[yRe (show 0<n from c2)]at hst
   have hfl:(i.fs j).length≤j:=by
    have:∀(os:List zH) (sh:List Int),(xR i.inst (zC i.sd) os sh).length≤os.length:=by
     intro os
     induction os with
     |nil=>intro sh;exact ySk 0
     |cons o os ih=>
      intro sh
      cases sh with
      |nil=>exact ySr _
      |cons k sh=>
       have:=ih sh
       rw[xR]
       split
       ·simp only[yRt];omega
       ·simp only[yRt];omega
    exact yTv (this _ _) (by rw[yRz];omega)
   refine⟨⟨by omega,by omega⟩,o.id,o.side,o.price,o.qty,o.top,yLa ho,⟨sj,i.p,kB i.B (i.fs j),o.id,n⟩,rfl,rfl,rfl,⟨hjR,by dsimp only;rw[vF];omega⟩,fun s' hs'=>⟨by rw[yRg];omega,(j+1,s'),wjn (by omega),rfl,?_,⟨?_,by dsimp only;omega⟩,by dsimp only;omega,by(repeat'(first|exact trivial|exact rfl|apply And.intro))⟩⟩
   ·show List.map yR (xR i.inst (zC i.sd) (i.os.take (j+1)) (i.sh.take (j+1)))=_
    rw[hst,yRm,w64 (by omega)];rfl
   ·show s'.Rep i.p (kB i.B (xR i.inst (zC i.sd) (i.os.take (j+1)) (i.sh.take (j+1))))
    rw[hst,z2h];exact hs'
  ·rw[yRd (show ¬0<n from c2),ySa]at hst
   refine⟨(j+1,sj),wjn (by omega),rfl,?_,⟨?_,by dsimp only;omega⟩,by dsimp only;omega,by(repeat'(first|exact trivial|exact rfl|apply And.intro))⟩
   ·show List.map yR (xR i.inst (zC i.sd) (i.os.take (j+1)) (i.sh.take (j+1)))=_
    rw[hst];rfl
   ·show sj.Rep i.p (kB i.B (xR i.inst (zC i.sd) (i.os.take (j+1)) (i.sh.take (j+1))))
    rw[hst];exact hjR
 ·have hje:j=i.sh.length:=by omega
  subst hje
  have hfa:i.fs i.sh.length=qG i.p i.B i.inst (zC i.sd) i.q:=zMj _ _
  rw[hfa]at hjR ⊢
  exact⟨sj,rfl,rfl,hjR⟩
theorem z7p:tradeC.ok Tryz.prog 185:=okw mixed (gokc zOa (gokc yOd (gokc z6y (gokc zBh gok0)))) 0 (fun _=>[]) (fun i=>yKh i) [0] Tryz.func185 yJr
open Go Cv Go.Proofs
structure jU where
 price:Int
 qty:Int
 implied:Bool
 fills:List fW
 deriving DecidableEq
def jL (t:jU):List D:=[.v (.int .i64 t.price),.v (.int .i64 t.qty),.v (.bool t.implied),.ro 6 (t.fills.map yR)]
def cU (p:Prd) (B:List (List zH)) (inst:Int) (sd:Bool) (price qty:Int):Option (jU×List (List zH)):=
 let n:=yO p B inst (zC (!sd))
 if(n.2.2 && (dB sd price n.1.price && decide (1≤n.1.qty)))=true then
  if n.2.1=true then
   let f1:=qG p B n.1.a.inst n.1.a.side (min qty n.1.qty)
   let f2:=qG p (kB B f1) n.1.b.inst n.1.b.side (min qty n.1.qty)
   some (⟨n.1.price,min qty n.1.qty,true,f1++f2⟩,kB (kB B f1) f2)
  else
   let f:=qG p B inst (zC (!sd)) (min qty n.1.qty)
   some (⟨n.1.price,min qty n.1.qty,false,f⟩,kB B f)
 else none
structure yLp where
 steps:List jU
 left:Int
 B:List (List zH)
def zFg (p:Prd) (inst:Int) (sd:Bool) (price:Int):Nat→List (List zH)→Int→yLp
 |0,B,q=>⟨[],q,B⟩
 |n+1,B,q=>if q≤0 then⟨[],q,B⟩else match cU p B inst sd price q with
  |none=>⟨[],q,B⟩
  |some (t,B')=>let r:=zFg p inst sd price n B' (q-t.qty);⟨t::r.steps,r.left,r.B⟩
def jQ (p:Prd) (B:List (List zH)) (inst:Int) (sd:Bool) (price q:Int):yLp:=zFg p inst sd price q.toNat B q
structure RunI where
 s:MSt
 p:Prd
 B:List (List zH)
 inst:Int
 sd:Bool
 price:Int
 q:Int
def RunI.r (i:RunI):yLp:=jQ i.p i.B i.inst i.sd i.price i.q
def runC:Con where
 ι:=RunI
 pat:=fun i=>[.nm 0 0,zA i.inst,zA (zC i.sd),zA i.price,zA i.q]
 pre:=fun i=>[zD i.s]
 cnd:=fun i=>i.s.Rep i.p i.B∧BOk i.p i.B∧(0≤i.inst∧i.inst<i.B.length)∧1≤i.q∧i.q≤1000000
 alts:=fun i=>[{o:=MSt,res:=fun _=> .tup [.own 1,zA i.r.left],post:=fun s=>[zD s,.own 260 4 (i.r.steps.map jL)],rel:=fun s=>s.Rep i.p i.r.B}]
structure zJy where
 s:MSt
 B:List (List zH)
 steps:List jU
 q:Int
def yPk:List SAnn:=[
 {ι:=zJy,slots:=fun j=>[(0,.nm 0 0),(12,.own 1),(4,zA j.q)],rows:=fun j=>[zD j.s,.own 260 4 (j.steps.map jL)]},
 {ι:=Unit,slots:=fun _=>[],rows:=fun _=>[],un:=3}]
end Sx
