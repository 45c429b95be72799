/- Texts of ours, one behind the other: a walk that the kernel reckons, and contracts of functions. No condition. -/
import Derived.Test.YtpgpnnncaidcjaaGreatB7
namespace Sx
set_option linter.unusedVariables false
set_option maxRecDepth 100000
open Go Cv Go.Proofs
def gP (a:ArL):=(List.map zHj (a.a.ents a.l))
def z1o (i:BoI):Prop:=
 ∃(a:ArL),a.n=i.r.queue∧AObj.adt Arena 3 zG a.a=AObj.adt Arena 3 zG i.b.a∧a.a.listOk a.n a.l∧∀(b:Unit),True→∃(c:Nat),(↑c:Int)=0∧List.map wG (List.take c i.ords)=[]∧∃(d:Nat→Prop),∃(e:Nat→Nat),d c∧∀(f:Nat),d f→cnd (decide ((↑f:Int)<(↑(gP a).length:Int))) ((0≤(↑f:Int)∧(↑f:Int)<(↑(gP a).length:Int))∧∃(g:Int),∃(h:Int),∃(j:Int),∃(k:Bool),zF (gP a) (↑f:Int).toNat 0 4=some [dI g,dI h,dI j,D.v (.bool k)]∧((List.map wG (List.take f i.ords)).length+1)*(40:Nat)≤(70368744177664:Nat)∧∃(l:Nat),(↑l:Int)=IntKind.i64.wrap ((↑f:Int)+1)∧List.map wG (List.take l i.ords)=List.map wG (List.take f i.ords)++[[dI h,dI i.s,dI i.r.price,dI j,D.v (.bool k)]]∧d l∧e l<e f∧AObj.adt Arena 3 zG a.a=AObj.adt Arena 3 zG a.a∧AObj.own 168 4 (gP a)=AObj.own 168 4 (gP a)∧Sx.AObj.cells [V.d (dI i.r.price),V.d (dI i.r.queue)] 147=Sx.AObj.cells [V.d (dI i.r.price),V.d (dI i.r.queue)] 147∧Sx.AObj.cells (gD (k9 0 1 6) [V.nm 1 0,V.own 2,V.own 3,V.mp 4,zA i.b.top1,zA i.b.top2,V.own 5,yR i.b.has1,yR i.b.has2]) (144:TypeId)=Sx.AObj.cells (gD (k9 0 1 6) [V.nm 1 0,V.own 2,V.own 3,V.mp 4,zA i.b.top1,zA i.b.top2,V.own 5,yR i.b.has1,yR i.b.has2]) (144:TypeId)∧AObj.own 147 2 (List.map zC i.b.buys)=AObj.own 147 2 (List.map zC i.b.buys)∧AObj.own 147 2 (List.map zC i.b.sells)=AObj.own 147 2 (List.map zC i.b.sells)∧Sx.AObj.map (atE i.b.at_)=Sx.AObj.map (atE i.b.at_)∧AObj.own 3 1 (iE i.b.spare)=AObj.own 3 1 (iE i.b.spare)) (∃(g:Unit),i.b.top1=i.b.top1∧i.b.top2=i.b.top2∧i.b.has1=i.b.has1∧i.b.has2=i.b.has2∧AObj.adt Arena 3 zG i.b.a=AObj.adt Arena 3 zG a.a∧List.map zC i.b.buys=List.map zC i.b.buys∧List.map zC i.b.sells=List.map zC i.b.sells∧atE i.b.at_=atE i.b.at_∧iE i.b.spare=iE i.b.spare∧List.map wG i.ords=List.map wG (List.take f i.ords)∧True)
set_option linter.unusedSimpArgs false
open Go Cv Go.Proofs
theorem yQs {l:List Ent} {k:Nat} {e:Ent} (h:l[k]? =some e):zF (l.map zHj) k 0 4=some [D.v (.int .i64 e.slot),.v (.int .i64 e.id),.v (.int .i64 e.qty),.v (.bool e.top)]:=elA h (by simp[zHj]) rfl
theorem yGk (i:BoI) (h:ordersC.cnd i):z1o i:=by
 have h:i.b.a.listOk i.r.queue i.l:=h
 have hl:=h.len
 have hen:(i.b.a.ents i.l).length=i.l.length:=by simp[Arena.ents]
 have hol:i.ords.length=i.l.length:=by simp[BoI.ords,Arena.ents]
 unfold z1o gP dI
 refine⟨⟨i.b.a,i.r.queue,i.l⟩,rfl,rfl,h,fun _ _=> ?_⟩
 simp only[ySh]
 refine⟨0,rfl,rfl,fun j=>j≤i.l.length,fun j=>i.l.length-j,yUq _,fun j hj=>zK (fun c=> ?_) (fun c=> ?_)⟩
 ·obtain⟨e,he⟩:=z6 (l:=i.b.a.ents i.l) (i:=j) (by omega)
  have ho:i.ords[j]? =some ⟨e.id,i.s,i.r.price,e.qty,e.top⟩:=by rw[BoI.ords,yTy,he];rfl
  refine⟨⟨by omega,by omega⟩,e.slot,e.id,e.qty,e.top,yQs he,by rw[yTe];omega,j+1,wjn (by omega),?_,by omega,by dsimp only;omega,by(repeat'(first|exact trivial|exact rfl|apply And.intro))⟩
  rw[yUf,ho];simp[wG]
 ·have hje:j=i.l.length:=by omega
  subst hje
  rw[ySz (l:=i.ords) (by omega)]
  exact kp
theorem zOn:ordersC.ok Tryz.prog 127:=okw mixed (gokc yAr gok0) 0 (fun _=>[]) (fun i=>yGx i) [0] Tryz.func127 yGk
open Go Go.RowKit Cv
theorem zWg {P:Program} {tS rt e sz by_:Nat} {z:Array Value} (hi:uS P tS=some (e,sz,by_,z)) {w:World} {g i c n k:Nat} {A:Option Addr} {cur src:List Value} {T:TypeId}
 (hg:w.heap[g]? =some (.cells cur.toArray T (0,0))) (hs:(Builtin.firstCells sz n (.slice A n k)).run P w= .ok src.toArray w) (hl:src.length=n*sz) (hfit:i+n≤c) (hroom:i*sz+n*sz≤cur.length) (hone:∀v∈src,v.oneC=true):
 gB P (Builtin.append_ #[tS,tS] rt #[.slice (some ⟨g,0,none⟩) i c,.slice A n k]) w (.slice (some ⟨g,0,none⟩) (i+n) c) (World.setB w g (.cells (spl cur (i*sz) src).toArray T (0,0))):=by
 obtain⟨inf,zv,q1,q2,rfl,rfl,q5,rfl⟩:=jB hi
 have hst:=jZ (P:=P) src 0 (i*inf.size) cur w hg (by omega) hone
 simp only[yWo]at hst
 have hln:∀w,(Builtin.lenOf (.slice A n k)).run P w= .ok n w:=fun w=>rfl
 unfold gB Builtin.append_
 simp only[yUe,yUo,yTx,bind,pure,run_bind,Sem.bind,Sem.run,Cv.run_underlying q1,Cv.run_sizeOf q2,ySu,if_false,hs,hln,hfit,if_true,uQ,yTl,hst,yXo]
theorem zYn {P:Program} {tS ty e sz by_:Nat} {z:Array Value} (hi:uS P tS=some (e,sz,by_,z)) (hz:z.size=sz) (h1:∀v∈z.toList,v.oneC=true) {w:World} {g o n c:Nat} {cur:List Value} {T:TypeId} (hn:0<n)
 (hg:w.heap[g]? =some (.cells cur.toArray T (0,0))) (hroom:o+n*sz≤cur.length):
 gB P (Builtin.clear_ #[tS] ty #[.slice (some ⟨g,o,none⟩) n c]) w (.tuple #[]) (World.setB w g (.cells (spl cur o (Builtin.zeroCells z n).toList).toArray T (0,0))):=by
 obtain⟨inf,zv,q1,q2,rfl,rfl,q5,rfl⟩:=jB hi
 have hlz:(Builtin.zeroCells zv.cells n).toList.length=n*inf.size:=by rw[yXl,size_zeroCells,hz]
 have hst:=jZ (P:=P) (Builtin.zeroCells zv.cells n).toList 0 o cur w hg (by omega) (by
  intro v hv
  obtain⟨i,hi,rfl⟩:=List.getElem_of_mem hv
  simp only[Builtin.zeroCells,Array.getElem_toList,Array.getElem_map,Array.getElem_range]
  have hpos:0<zv.cells.size:=by
   rcases Nat.eq_zero_or_pos zv.cells.size with h0|h0
   ·rw[hlz,← hz,h0]at hi;omega
   ·exact h0
  have hlt:i % zv.cells.size<zv.cells.size:=Nat.mod_lt _ hpos
  rw[getElem!_pos zv.cells (i % zv.cells.size) hlt]
  exact h1 _ (by simp))
 simp only[yWo]at hst
 have hzr:∀w,(zeroValue e).run P w= .ok zv w:=fun w=>zero_run (by unfold zero?;rw[q2];exact q5) w
 obtain⟨m,rfl⟩:∃m,n=m+1:=⟨n-1,by omega⟩
 unfold gB Builtin.clear_
 simp only[yUe,yUo,yTx,bind,pure,run_bind,Sem.bind,Sem.run,Cv.run_underlying q1,hzr,hst]
def yNf (P:Program) (tS sz:Nat) (s:Option Addr) (sn sk:Nat) (i j:Int) (w:World) (R:Ending→World→Prop):Prop:=
yLm s sk i j (sn:Int) sz fun a1 na1 ka1=>
cnd ((i:Int)==j) (
R (.returned (.slice s sn sk)) w) (
z1p w fun w2=>
slN s sn sk none (some i) sz fun a3 na3 ka3=>
slN s sn sk (some j) none sz fun a4 na4 ka4=>
∃(a5:Option Addr) (na5 ka5:Nat),∃w6:World,gB P (Builtin.append_ #[tS,tS] tS #[.slice a3 na3 ka3,.slice a4 na4 ka4]) w2 (.slice a5 na5 ka5) w6∧
slN a5 na5 ka5 (some (na5:Int)) (some (sn:Int)) sz fun a7 na7 ka7=>
∃w8:World,gB P (Builtin.clear_ #[tS] 0 #[.slice a7 na7 ka7]) w6 (.tuple #[]) w8∧
R (.returned (.slice a5 na5 ka5)) w8)
theorem ySa {P:Program} {tS e sz by_:Nat} {z:Array Value} (hi:uS P tS=some (e,sz,by_,z)) (hz:z.size=sz) (hz1:∀v∈z.toList,v.oneC=true)
 {k:Ko} {w:World} {L:List HP} {s:Option Addr} {sn sk i j:Nat} {xs:List Value} (H:Hp k w (slO e sz s sn sk xs::L)) (h1:∀u∈xs,u.oneC=true) (hij:i<j) (hj:j≤sn):
 yNf P tS sz s sn sk i j w fun en w'=>∃a kk,en= .returned (.slice a (sn-(j-i)) kk)∧Hp k w' (slO e sz a (sn-(j-i)) kk (xs.take (i*sz)++xs.drop (j*sz))::L):=by
 obtain⟨hxl,hnk⟩:=H.len
 rcases H.slcases with⟨_,e0,_⟩|⟨b,r,rfl,g1,g2,g3,H0⟩
 ·omega
 have hle:i*sz≤xs.length:=by rw[hxl];exact yUp _ (by omega)
 have hjle:j*sz≤xs.length:=by rw[hxl];exact yUp _ hj
 have hdl:(xs.drop (j*sz)).length=(sn-j)*sz:=by rw[yTk,hxl,Nat.sub_mul]
 have hsum:i*sz+(sn-j)*sz=(sn-(j-i))*sz:=by rw[← yVf];congr 1;omega
 have hsum2:i*sz+(sn-j)*sz+(j-i)*sz=sn*sz:=by rw[← yVf,← yVf];congr 1;omega
 have hsum3:j*sz+(sn-j)*sz=sn*sz:=by rw[← yVf];congr 1;omega
 have hlen:(xs++r).length=xs.length+r.length:=ySm
 unfold yNf
 simp only[yLm,slN,ySt]
 refine⟨⟨by omega,by omega,by omega,by omega⟩,Cv.cnd.mk (fun c=>absurd c (by simp;omega)) fun _=> ?_⟩
 rintro _ rfl
 have H1:=H0.drew
 have hsrc:(Builtin.firstCells sz (sn-j) (.slice (if sk=j then some ⟨b,0,none⟩else(some ⟨b,0,none⟩:Option Addr).map (·.add (j*sz))) (sn-j) (sk-j))).run P w.drew= .ok (xs.drop (j*sz)).toArray w.drew:=by
  by_cases h0:(sn-j)*sz=0
  ·have:xs.drop (j*sz)=[]:=yTn (by omega)
   rw[this]
   by_cases hk:sk=j
   ·rw[ySf hk];unfold Builtin.firstCells;rw[h0];rfl
   ·rw[ySe hk,yUk,uQ];unfold Builtin.firstCells;rw[h0];rfl
  ·have hk:sk≠j:=by rintro rfl;have:sn-sk=0:=by omega
                    rw[this]at h0;simp at h0
   rw[ySe hk,yUk,uQ]
   unfold Builtin.firstCells
   rw[uY H1.get (by rw[hlen];omega)]
   rw[yTl,yVb hjle,yTo (by omega),ySz (by omega)]
 refine⟨⟨by omega,by omega⟩,⟨by omega,by omega,hnk⟩,_,_,_,_,zWg (i:=i) (c:=sk) hi H1.get hsrc hdl (by omega) (by rw[hlen];omega) (fun v hv=>h1 v (yVy hv)),⟨by omega,by omega,by omega⟩,?_⟩
 have H2:=H1.upd (.cells (spl (xs++r) (i*sz) (xs.drop (j*sz))).toArray e)
 have e1:i+(sn-j)=sn-(j-i):=by omega
 rw[ySe (show sk≠i+(sn-j)by omega),yUk,uQ,yTl,e1]
 have espl:spl (xs++r) (i*sz) (xs.drop (j*sz))=(xs.take (i*sz)++xs.drop (j*sz))++(xs++r).drop ((sn-(j-i))*sz):=by
  simp only[spl]
  rw[yTo hle,hdl,hsum]
 rw[espl]at H2
 have hA:(xs.take (i*sz)++xs.drop (j*sz)).length=(sn-(j-i))*sz:=by
  rw[ySm,yTe,hdl];omega
 have hB:((xs++r).drop ((sn-(j-i))*sz)).length=(j-i)*sz+r.length:=by
  rw[yTk,hlen];omega
 rw[espl]
 have hn:sn-(sn-(j-i))=j-i:=by omega
 rw[hn]
 refine⟨_,zYn hi hz hz1 (by omega) H2.get (by rw[ySm,hA,hB];omega),_,_,rfl,?_⟩
 have H3:=H2.upd (.cells (spl (xs.take (i*sz)++xs.drop (j*sz)++(xs++r).drop ((sn-(j-i))*sz)) ((sn-(j-i))*sz) (Builtin.zeroCells z (j-i)).toList).toArray e)
 have es:=zTc (xs.take (i*sz)++xs.drop (j*sz)) ((xs++r).drop ((sn-(j-i))*sz)) (Builtin.zeroCells z (j-i)).toList
 rw[hA]at es
 rw[es]at H3
 rw[es]
 rw[ySq (xs.take (i*sz)++xs.drop (j*sz))]at H3 ⊢
 have hzl:(Builtin.zeroCells z (j-i)).toList.length=(j-i)*sz:=by rw[yXl,size_zeroCells,hz]
 refine H3.slmk hA ?_ (by omega)
 rw[ySm,hA,ySm,hzl,yTk,hB,← g2,hlen,hxl]
 omega
structure yKi where
 els:List (List D)
 i:Nat
 j:Nat
def yKy (e sz:Nat):Con where
 ι:=yKi
 pat:=fun i=>[.own 0,.d (.v (.int .i64 i.i)),.d (.v (.int .i64 i.j))]
 pre:=fun i=>[.own e sz i.els]
 cnd:=fun i=>i.i<i.j∧i.j≤i.els.length
 alts:=fun i=>[{o:=Unit,res:=fun _=> .own 1,post:=fun _=>[.gone,.own e sz (i.els.take i.i++i.els.drop i.j)],rel:=fun _=>True}]
theorem delX_ok {P:Program} (hm:P.follows .mixedOrders=true) {tS e sz by_ fI:Nat} {z:Array Value} {fn:Func} {c:Code} (hf:P.funcs[fI]? =some fn) (hb:fn.body=some c) (hbd:vU P fI=true) (hok:okC fn.ntmps c=true) (hfx:okF [] c=true) (hsz3:Nat.ble 3 fn.ntmps=true)
 (hi:uS P tS=some (e,sz,by_,z)) (hz:z.size=sz) (hz1:∀v∈z.toList,v.oneC=true)
 (heq:∀(s:Option Addr) (sn sk:Nat) (i j:Int) (w:World) (R:Ending→World→Prop),yNf P tS sz s sn sk i j w R=cwp P [] c (zSj P fn R) (vX [.slice s sn sk,.int .i64 i,.int .i64 j]) w):
 (yKy e sz).ok P fI:=by
 intro i hc k L E w ys R hv
 obtain⟨c1,c2⟩:i.i<i.j∧i.j≤i.els.length:=hc
 simp only[yKy,VRL,VR,DR]at hv
 obtain⟨y0,_,rfl,⟨l0,e0,_⟩,y1,_,rfl,⟨rfl,_⟩,y2,_,rfl,⟨rfl,_⟩,rfl⟩:=hv
 obtain⟨s,sk,xs,sub0,g1,hxs,hu,H⟩:=R.ownOpen (n:=0) (t:=e) (sz:=sz) (els:=i.els) rfl
 rw[e0]at g1;cases g1
 have H2:Hp k w (slO e sz s i.els.length sk xs::fz E.F::L):=H
 have hv:=ySa hi hz hz1 H2 hxs.one c1 c2
 have hcall:=zGl (args:=[.slice s i.els.length sk,.int .i64 i.i,.int .i64 i.j]) hm hf hb [] hok hfx hsz3 (heq s i.els.length sk i.i i.j w _) hv
 refine lS hbd (hcall.mono ?_)
 rintro en w' ⟨a,kk,rfl,H3⟩
 have hl:(i.els.take i.i++i.els.drop i.j).length=i.els.length-(i.j-i.i):=by
  rw[ySm,yTe,yTk];omega
 have H4:Hp k w' (slO e sz a (i.els.take i.i++i.els.drop i.j).length kk (xs.take (i.i*sz)++xs.drop (i.j*sz))::(([]:List (Nat×AObj)).map (rHP E)++fz E.F::L)):=by
  rw[hl]
  exact H3
 obtain⟨E',r1,r2,r3⟩:=aC (nx:=1) R.nx (by
  rw[List.flatten_append,← mD i.i hu,← mE i.j hu]
  exact(hxs.take _).append (hxs.drop _)) (fun x hx=>by
   rcases yTi.1 hx with hx|hx
   ·exact hu x (yYb hx)
   ·exact hu x (yVy hx)) H4
 rw[hl]at r3
 refine⟨_,rfl,_,yUd.2 rfl,(),trivial,E',r1,r3,⟨r2.nx,?_⟩⟩
 exact((@hJ k w' True _).2 ⟨trivial,r2.hp⟩).imp (B:=rHP E' (0,.gone)) fun x hx=> .inl ⟨rfl,hx.2⟩
open Go Cv Go.Proofs
def aW (k:Int):List (Int×Place)→List (Int×Place)
 |[]=>[]
 |(a,b)::l=>if k=a then l else(a,b)::aW k l
structure DrI where
 b:Book
 id:Int
 price:Int
 slot:Int
def Book.unhas (b:Book) (s id:Int):Book:=if b.hasF s=true∧b.topI s=id then(if s=1 then{b with has1:=false}else{b with has2:=false})else b
def Book.dropF (b:Book) (s id price:Int):Book:=
 if(b.a.qAt ((b.rungs s).getD (zX s (b.rungs s) price) ⟨0,0⟩).queue).count=0 then
  ({b.unhas s id with at_:=aW id b.at_,spare:=b.spare++[((b.rungs s).getD (zX s (b.rungs s) price) ⟨0,0⟩).queue]}:Book).setR s ((b.rungs s).take (zX s (b.rungs s) price)++(b.rungs s).drop (zX s (b.rungs s) price+1))
 else{b.unhas s id with at_:=aW id b.at_}
def yGe (b:Book):AObj:= .cells [.nm 1 0,.own 6,.own 7,.mp 4,zA b.top1,zA b.top2,.own 8,yR b.has1,yR b.has2] 144
@[reducible] def yIq (b:Book):List AObj:=[yGe b,zR b 1,.gone,.gone,zR b 4,.gone,zR b 2,zR b 3,zR b 5]
@[reducible] def DrI.ok (i:DrI) (s:Int):Prop:=i.b.small∧zX s (i.b.rungs s) i.price<(i.b.rungs s).length
def yCs (s:Int):Con:=con1 DrI (fun i=>[.nm 0 0,zA i.id,.agg [zA s,zA i.price,zA i.slot]]) (fun i=>zGg i.b) (fun i=>i.ok s) (fun _=>zTg) (fun i=>yIq (i.b.dropF s i.id i.price))
def drop1C:Con:=yCs 1
def drop2C:Con:=yCs 2
structure DrJ where
 i:DrI
 s:Bool
def dropC:Con:=con1 DrJ (fun j=>[.nm 0 0,zA j.i.id,.agg [zA (zB j.s),zA j.i.price,zA j.i.slot]]) (fun j=>zGg j.i.b) (fun j=>j.i.ok (zB j.s)) (fun _=>zTg) (fun j=>yIq (j.i.b.dropF (zB j.s) j.i.id j.i.price))
def delRC:Con:=yKy 147 2
def yMt:zD:=⟨0,0,0,0,false⟩
def fP (L:List zD) (id:Int):zD:=(L.find? fun o=>decide (o.id=id)).getD yMt
def yQ (L:List zD) (id q:Int):List zD:=L.filterMap fun o=>if o.id=id then(if o.qty=q then none else some {o with qty:=o.qty-q})else some o
def xR (L:List zD) (id q:Int):List zD×Int:=if kC L id=false then(L,26)else if q<1∨(fP L id).qty<q then(L,24)else(yQ L id q,0)
def atL (L:List zD) (s p:Int):List zD:=L.filter fun o=>decide (o.side=s) && decide (o.price=p)
def grp:List zD→List Lv
 |[]=>[]
 |o::l=>match grp l with
  |[]=>[⟨o.price,o.qty,1⟩]
  |v::vs=>if v.price=o.price then⟨v.price,o.qty+v.qty,v.count+1⟩::vs else⟨o.price,o.qty,1⟩::v::vs
def wB (L:List zD) (s:Int):List Lv:=grp (L.filter fun o=>decide (o.side=s))
def bestL (L:List zD) (s:Int):Lv×Bool:=match wB L s with
 |[]=>(⟨0,0,0⟩,false)
 |v::_=>(v,true)
structure FlI where
 b:Book
 L:List zD
 id:Int
 qty:Int
structure AtI where
 b:Book
 L:List zD
 s:Bool
 price:Int
def fillC:Con where
 ι:=FlI
 pat:=fun i=>[.nm 0 0,zA i.id,zA i.qty]
 pre:=fun i=>[yC i.b]
 cnd:=fun i=>i.b.Rep i.L
 alts:=fun i=>[{o:=Book,res:=fun _=>zA (xR i.L i.id i.qty).2,post:=fun b=>[yC b],rel:=fun b=>b.Rep (xR i.L i.id i.qty).1}]
def bfindC:Con:=con1 FlI (fun i=>[.nm 0 0,zA i.id]) (fun i=>[yC i.b]) (fun i=>i.b.Rep i.L) (fun i=> .tup [z6w (fP i.L i.id),yR (kC i.L i.id)]) (fun i=>[yC i.b])
def yPc (s:Bool):Con:=con1 AtI (fun i=>[.nm 0 0,zA (zB s),zA i.price]) (fun i=>[yC i.b]) (fun i=>i.b.Rep i.L) (fun _=> .own 1) (fun i=>[yC i.b,.own 68 5 ((atL i.L (zB s) i.price).map wG)])
def at1C:Con:=yPc false
def at2C:Con:=yPc true
def atC:Con:=con1 AtI (fun i=>[.nm 0 0,zA (zB i.s),zA i.price]) (fun i=>[yC i.b]) (fun i=>i.b.Rep i.L) (fun _=> .own 1) (fun i=>[yC i.b,.own 68 5 ((atL i.L (zB i.s) i.price).map wG)])
open Go Cv Go.Proofs
def xB (a:DrI):=(a.b.dropF 1 a.id a.price)
def zFv (a:BkP) (b:DrI):Prop:=a.b.has2=b.b.has2∧AObj.adt Arena 3 zG a.b.a=zR b.b 1∧List.map zC a.b.buys=List.map zC b.b.buys∧List.map zC a.b.sells=List.map zC b.b.sells∧atE a.b.at_=aX (Value.int IntKind.i64 b.id) (atE b.b.at_)∧iE a.b.spare=iE b.b.spare∧(x9 a)∧∀(c:Unit),True→(gK a)∧∃(d:Int),zF (List.map zC a.b.buys) (xY a).toNat ((0:Nat)+(1:Nat)) 1=some [dI d]∧∃(e:ArN),e.n=d∧AObj.adt Arena 3 zG e.a=AObj.adt Arena 3 zG a.b.a∧True∧∀(f:Unit),True→cnd ((e.a.qAt e.n).count==0) (((iE a.b.spare).length+1)*(8:Nat)≤(70368744177664:Nat)∧∃(g:yKi),(↑g.i:Int)=(xY a)∧(↑g.j:Int)=IntKind.i64.wrap ((xY a)+1)∧g.els=List.map zC a.b.buys∧(g.i<g.j∧g.j≤g.els.length)∧∀(h:Unit),True→(1:Int)=(1:Int)∧∃(j:Unit),(xB b).top1=a.b.top1∧(xB b).top2=a.b.top2∧(xB b).has1=a.b.has1∧(xB b).has2=a.b.has2∧AObj.adt Arena 3 zG (xB b).a=AObj.adt Arena 3 zG e.a∧atE (xB b).at_=atE a.b.at_∧List.map zC (xB b).buys=List.take g.i g.els++List.drop g.j g.els∧List.map zC (xB b).sells=List.map zC a.b.sells∧iE (xB b).spare=iE a.b.spare++[[dI d]]∧True) (∃(g:Unit),(xB b).top1=a.b.top1∧(xB b).top2=a.b.top2∧(xB b).has1=a.b.has1∧(xB b).has2=a.b.has2∧AObj.adt Arena 3 zG (xB b).a=AObj.adt Arena 3 zG e.a∧atE (xB b).at_=atE a.b.at_∧List.map zC (xB b).buys=List.map zC a.b.buys∧List.map zC (xB b).sells=List.map zC a.b.sells∧iE (xB b).spare=iE a.b.spare∧True)
def zDt (a:DrI):Prop:=∃(b:BkP),(1:Int)=(1:Int)∧b.price=a.price∧b.b.top1=a.b.top1∧b.b.top2=a.b.top2∧b.b.has1=a.b.has1∧zFv b a
def yAb (i:DrI):Prop:=
 (∀(a:Value×List D),a∈atE i.b.at_→like (Value.int IntKind.i64 i.id) a.fst=true)∧cnd i.b.has1 (cnd (i.b.top1==i.id) (∃(a:BkP),(1:Int)=(1:Int)∧a.price=i.price∧a.b.top1=i.b.top1∧a.b.top2=i.b.top2∧a.b.has1=false∧zFv a i) (zDt i)) (zDt i)
def xC (a:DrI):=(a.b.dropF 2 a.id a.price)
def zFk (a:BkP) (b:DrI):Prop:=AObj.adt Arena 3 zG a.b.a=zR b.b 1∧List.map zC a.b.buys=List.map zC b.b.buys∧List.map zC a.b.sells=List.map zC b.b.sells∧atE a.b.at_=aX (Value.int IntKind.i64 b.id) (atE b.b.at_)∧iE a.b.spare=iE b.b.spare∧(x9 a)∧∀(c:Unit),True→(gU a)∧∃(d:Int),zF (List.map zC a.b.sells) (xX a).toNat ((0:Nat)+(1:Nat)) 1=some [dI d]∧∃(e:ArN),e.n=d∧AObj.adt Arena 3 zG e.a=AObj.adt Arena 3 zG a.b.a∧True∧∀(f:Unit),True→cnd ((e.a.qAt e.n).count==0) (((iE a.b.spare).length+1)*(8:Nat)≤(70368744177664:Nat)∧∃(g:yKi),(↑g.i:Int)=(xX a)∧(↑g.j:Int)=IntKind.i64.wrap ((xX a)+1)∧g.els=List.map zC a.b.sells∧(g.i<g.j∧g.j≤g.els.length)∧∀(h:Unit),True→(2:Int)=(2:Int)∧∃(j:Unit),(xC b).top1=a.b.top1∧(xC b).top2=a.b.top2∧(xC b).has1=a.b.has1∧(xC b).has2=a.b.has2∧AObj.adt Arena 3 zG (xC b).a=AObj.adt Arena 3 zG e.a∧atE (xC b).at_=atE a.b.at_∧List.map zC (xC b).buys=List.map zC a.b.buys∧List.map zC (xC b).sells=List.take g.i g.els++List.drop g.j g.els∧iE (xC b).spare=iE a.b.spare++[[dI d]]∧True) (∃(g:Unit),(xC b).top1=a.b.top1∧(xC b).top2=a.b.top2∧(xC b).has1=a.b.has1∧(xC b).has2=a.b.has2∧AObj.adt Arena 3 zG (xC b).a=AObj.adt Arena 3 zG e.a∧atE (xC b).at_=atE a.b.at_∧List.map zC (xC b).buys=List.map zC a.b.buys∧List.map zC (xC b).sells=List.map zC a.b.sells∧iE (xC b).spare=iE a.b.spare∧True)
def zDr (a:DrI):Prop:=∃(b:BkP),(2:Int)=(2:Int)∧b.price=a.price∧b.b.top1=a.b.top1∧b.b.top2=a.b.top2∧b.b.has1=a.b.has1∧b.b.has2=a.b.has2∧zFk b a
def yDk (i:DrI):Prop:=
 (∀(a:Value×List D),a∈atE i.b.at_→like (Value.int IntKind.i64 i.id) a.fst=true)∧cnd i.b.has2 (cnd (i.b.top2==i.id) (∃(a:BkP),(2:Int)=(2:Int)∧a.price=i.price∧a.b.top1=i.b.top1∧a.b.top2=i.b.top2∧a.b.has1=i.b.has1∧a.b.has2=false∧zFk a i) (zDr i)) (zDr i)
def lZ (a:FlI):Prop:=List.map zC a.b.buys=List.map zC a.b.buys∧List.map zC a.b.sells=List.map zC a.b.sells∧atE a.b.at_=atE a.b.at_∧iE a.b.spare=iE a.b.spare∧True
def zGb (a:Int) (b:FlI) (c:Int) (d:Int):Prop:=∃(e:ArN),e.n=a∧AObj.adt Arena 3 zG e.a=AObj.adt Arena 3 zG b.b.a∧e.a.slots.length≤1000000∧∀(f:Unit),True→∃(g:Unit),(fP b.L b.id).id=b.id∧(fP b.L b.id).side=c∧(fP b.L b.id).price=d∧(fP b.L b.id).qty=(e.a.getF e.n).fst.qty∧(fP b.L b.id).top=(e.a.getF e.n).fst.top∧kC b.L b.id=true∧b.b.top1=b.b.top1∧b.b.top2=b.b.top2∧b.b.has1=b.b.has1∧b.b.has2=b.b.has2∧AObj.adt Arena 3 zG b.b.a=AObj.adt Arena 3 zG e.a∧lZ b
def nK (a:FlI) (b:Int) (c:Int) (d:Int) (e:Bool):Prop:=wI (Value.int IntKind.i64 a.id) (atE a.b.at_)=some [dI b,dI c,dI d]∧e=true∨wI (Value.int IntKind.i64 a.id) (atE a.b.at_)=none∧[dI b,dI c,dI d]=[dI 0,dI 0,dI 0]∧e=false
def z7q (i:FlI):Prop:=
 (∀(a:Value×List D),a∈atE i.b.at_→like (Value.int IntKind.i64 i.id) a.fst=true)∧∃(a:Bool),∃(b:Int),∃(c:Int),∃(d:Int),(nK i b c d a)∧cnd (!a) (∃(e:Unit),(fP i.L i.id).id=0∧(fP i.L i.id).side=0∧(fP i.L i.id).price=0∧(fP i.L i.id).qty=0∧(fP i.L i.id).top=false∧kC i.L i.id=false∧i.b.top1=i.b.top1∧i.b.top2=i.b.top2∧i.b.has1=i.b.has1∧i.b.has2=i.b.has2∧AObj.adt Arena 3 zG i.b.a=AObj.adt Arena 3 zG i.b.a∧lZ i) ((zGb d i b c)∧d=d∧True∧zGb d i b c)
def tC (a:Book) (b:FlI):Prop:=List.map zC a.buys=List.map zC b.b.buys∧List.map zC a.sells=List.map zC b.b.sells∧atE a.at_=atE b.b.at_∧iE a.spare=iE b.b.spare∧a.Rep (xR b.L b.id b.qty).fst
def wS (a:DrJ):=(a.i.b.dropF (zB a.s) a.i.id a.i.price)
def zJj (a:FlI) (b:Int) (c:Int) (d:Int) (e:ArN):Prop:=∃(f:DrJ),f.i.id=a.id∧zB f.s=b∧f.i.price=c∧f.i.slot=d∧f.i.b.top1=a.b.top1∧f.i.b.top2=a.b.top2∧f.i.b.has1=a.b.has1∧f.i.b.has2=a.b.has2∧AObj.adt Arena 3 zG f.i.b.a=AObj.adt Arena 3 zG e.a∧List.map zC f.i.b.buys=List.map zC a.b.buys∧List.map zC f.i.b.sells=List.map zC a.b.sells∧atE f.i.b.at_=atE a.b.at_∧iE f.i.b.spare=iE a.b.spare∧(((f.i.b.a.slots.length≤1000000∧f.i.b.a.queues.length≤1000000)∧f.i.b.buys.length≤1000000∧f.i.b.sells.length≤1000000∧f.i.b.spare.length≤1000000)∧zX (zB f.s) (f.i.b.rungs (zB f.s)) f.i.price<(f.i.b.rungs (zB f.s)).length)∧∀(g:Unit),True→∃(h:Book),(xR a.L a.id a.qty).snd=0∧h.top1=(wS f).top1∧h.top2=(wS f).top2∧h.has1=(wS f).has1∧h.has2=(wS f).has2∧AObj.adt Arena 3 zG h.a=AObj.adt Arena 3 zG (wS f).a∧List.map zC h.buys=List.map zC (wS f).buys∧List.map zC h.sells=List.map zC (wS f).sells∧atE h.at_=atE (wS f).at_∧iE h.spare=iE (wS f).spare∧h.Rep (xR a.L a.id a.qty).fst
def zRt (a:Int) (b:TkI) (c:FlI) (d:Int) (e:Int):Prop:=∃(f:ArN),f.n=a∧AObj.adt Arena 3 zG f.a=AObj.adt Arena 3 zG (b.a.takeF b.n b.qty).fst∧f.a.slots.length≤1000000∧∀(g:Unit),True→cnd (!(f.a.getF f.n).snd) (zJj c d e a f) (cnd ((f.a.getF f.n).fst.id !=c.id) (zJj c d e a f) (∃(h:Book),(xR c.L c.id c.qty).snd=0∧h.top1=c.b.top1∧h.top2=c.b.top2∧h.has1=c.b.has1∧h.has2=c.b.has2∧AObj.adt Arena 3 zG h.a=AObj.adt Arena 3 zG f.a∧tC h c))
def yIj (i:FlI):Prop:=
 (∀(a:Value×List D),a∈atE i.b.at_→like (Value.int IntKind.i64 i.id) a.fst=true)∧∃(a:Bool),∃(b:Int),∃(c:Int),∃(d:Int),(nK i b c d a)∧cnd (!a) (∃(e:Book),(xR i.L i.id i.qty).snd=26∧e.top1=i.b.top1∧e.top2=i.b.top2∧e.has1=i.b.has1∧e.has2=i.b.has2∧AObj.adt Arena 3 zG e.a=AObj.adt Arena 3 zG i.b.a∧tC e i) (∃(e:TkI),e.n=d∧e.qty=i.qty∧AObj.adt Arena 3 zG e.a=AObj.adt Arena 3 zG i.b.a∧(e.a.slots.length≤1000000∧∀(k:Nat) (s:Slot),e.a.slots[k]?=some s→s.used=true→(0≤s.queue∧s.queue<(↑e.a.queues.length:Int))∧s.qty≤1000000∧(s.ahead=(-1)∨0≤s.ahead∧s.ahead<(↑e.a.slots.length:Int)∧s.ahead≠(↑k:Int))∧(s.back=(-1)∨0≤s.back∧s.back<(↑e.a.slots.length:Int)∧s.back≠(↑k:Int)))∧∀(f:Unit),True→cnd ((e.a.takeF e.n e.qty).snd !=0) (∃(g:Book),(xR i.L i.id i.qty).snd=(e.a.takeF e.n e.qty).snd∧g.top1=i.b.top1∧g.top2=i.b.top2∧g.has1=i.b.has1∧g.has2=i.b.has2∧AObj.adt Arena 3 zG g.a=AObj.adt Arena 3 zG (e.a.takeF e.n e.qty).fst∧tC g i) ((zRt d e i b c)∧d=d∧True∧zRt d e i b c))
def yPx (i:AtI):Prop:=
 ∃(a:Int),a=zB false∧True∧∀(b:Unit),True→cnd (!(vP a)) (∃(c:Unit),i.b.top1=i.b.top1∧i.b.top2=i.b.top2∧i.b.has1=i.b.has1∧i.b.has2=i.b.has2∧AObj.adt Arena 3 zG i.b.a=AObj.adt Arena 3 zG i.b.a∧List.map zC i.b.buys=List.map zC i.b.buys∧List.map zC i.b.sells=List.map zC i.b.sells∧atE i.b.at_=atE i.b.at_∧iE i.b.spare=iE i.b.spare∧List.map wG (atL i.L (zB false) i.price)=[]∧True) (∃(c:BkP),1=zB false∧c.price=i.price∧c.b.top1=i.b.top1∧c.b.top2=i.b.top2∧c.b.has1=i.b.has1∧c.b.has2=i.b.has2∧AObj.adt Arena 3 zG c.b.a=AObj.adt Arena 3 zG i.b.a∧List.map zC c.b.buys=List.map zC i.b.buys∧List.map zC c.b.sells=List.map zC i.b.sells∧atE c.b.at_=atE i.b.at_∧iE c.b.spare=iE i.b.spare∧(x9 c)∧∀(d:Unit),True→cnd (!kR 1 (c.b.rungs 1) c.price) (∃(e:Unit),i.b.top1=c.b.top1∧i.b.top2=c.b.top2∧i.b.has1=c.b.has1∧i.b.has2=c.b.has2∧AObj.adt Arena 3 zG i.b.a=AObj.adt Arena 3 zG c.b.a∧List.map zC i.b.buys=List.map zC c.b.buys∧List.map zC i.b.sells=List.map zC c.b.sells∧atE i.b.at_=atE c.b.at_∧iE i.b.spare=iE c.b.spare∧List.map wG (atL i.L (zB false) i.price)=[]∧True) ((gK c)∧∃(e:Int),∃(f:Int),zF (List.map zC c.b.buys) (xY c).toNat 0 2=some [dI e,dI f]∧∃(g:BoI),g.s=zB false∧g.r.price=e∧g.r.queue=f∧g.b.top1=c.b.top1∧g.b.top2=c.b.top2∧g.b.has1=c.b.has1∧g.b.has2=c.b.has2∧AObj.adt Arena 3 zG g.b.a=AObj.adt Arena 3 zG c.b.a∧List.map zC g.b.buys=List.map zC c.b.buys∧List.map zC g.b.sells=List.map zC c.b.sells∧atE g.b.at_=atE c.b.at_∧iE g.b.spare=iE c.b.spare∧g.b.a.listOk g.r.queue g.l∧∀(h:Unit),True→∃(j:Unit),yC i.b=yC g.b∧List.map wG (atL i.L (zB false) i.price)=List.map wG g.ords∧True))
def yPo (i:AtI):Prop:=
 ∃(a:Int),a=zB true∧True∧∀(b:Unit),True→cnd (!(vP a)) (∃(c:Unit),i.b.top1=i.b.top1∧i.b.top2=i.b.top2∧i.b.has1=i.b.has1∧i.b.has2=i.b.has2∧AObj.adt Arena 3 zG i.b.a=AObj.adt Arena 3 zG i.b.a∧List.map zC i.b.buys=List.map zC i.b.buys∧List.map zC i.b.sells=List.map zC i.b.sells∧atE i.b.at_=atE i.b.at_∧iE i.b.spare=iE i.b.spare∧List.map wG (atL i.L (zB true) i.price)=[]∧True) (∃(c:BkP),2=zB true∧c.price=i.price∧c.b.top1=i.b.top1∧c.b.top2=i.b.top2∧c.b.has1=i.b.has1∧c.b.has2=i.b.has2∧AObj.adt Arena 3 zG c.b.a=AObj.adt Arena 3 zG i.b.a∧List.map zC c.b.buys=List.map zC i.b.buys∧List.map zC c.b.sells=List.map zC i.b.sells∧atE c.b.at_=atE i.b.at_∧iE c.b.spare=iE i.b.spare∧(x9 c)∧∀(d:Unit),True→cnd (!kR 2 (c.b.rungs 2) c.price) (∃(e:Unit),i.b.top1=c.b.top1∧i.b.top2=c.b.top2∧i.b.has1=c.b.has1∧i.b.has2=c.b.has2∧AObj.adt Arena 3 zG i.b.a=AObj.adt Arena 3 zG c.b.a∧List.map zC i.b.buys=List.map zC c.b.buys∧List.map zC i.b.sells=List.map zC c.b.sells∧atE i.b.at_=atE c.b.at_∧iE i.b.spare=iE c.b.spare∧List.map wG (atL i.L (zB true) i.price)=[]∧True) ((gU c)∧∃(e:Int),∃(f:Int),zF (List.map zC c.b.sells) (xX c).toNat 0 2=some [dI e,dI f]∧∃(g:BoI),g.s=zB true∧g.r.price=e∧g.r.queue=f∧g.b.top1=c.b.top1∧g.b.top2=c.b.top2∧g.b.has1=c.b.has1∧g.b.has2=c.b.has2∧AObj.adt Arena 3 zG g.b.a=AObj.adt Arena 3 zG c.b.a∧List.map zC g.b.buys=List.map zC c.b.buys∧List.map zC g.b.sells=List.map zC c.b.sells∧atE g.b.at_=atE c.b.at_∧iE g.b.spare=iE c.b.spare∧g.b.a.listOk g.r.queue g.l∧∀(h:Unit),True→∃(j:Unit),yC i.b=yC g.b∧List.map wG (atL i.L (zB true) i.price)=List.map wG g.ords∧True))
open Go Cv Go.Proofs
theorem vY {L:List zD} (h:(L.map (·.id)).Nodup) {o:zD} (ho:o∈L):fP L o.id=o:=by
 induction L with
 |nil=>cases ho
 |cons x L ih=>
  rw[ySn,yUb]at h
  rw[fP,yYk]
  rcases ySy.1 ho with rfl|ho
  ·rw[ySw rfl];rfl
  ·have:x.id≠o.id:=fun e=>h.1 (e▸yTb (f:=(·.id)) ho)
   rw[ySp this]
   exact ih h.2 ho
theorem vK {α β:Type} {f g:α→Option β}:∀{l:List α},(∀x∈l,f x=g x)→l.filterMap f=l.filterMap g
 |[],_=>rfl
 |x::l,h=>by rw[yWc,yWc,h x ySk,vK fun y hy=>h y (ySl _ hy)]
theorem yKw {L:List zD} {id:Int} (h:kC L id=false):fP L id=yMt:=by
 rw[fP]
 have:L.find? (fun o=>decide (o.id=id))=none:=by
  rw[List.find?_eq_none]
  intro o ho
  rw[kC,yXj]at h
  exact h o ho
 rw[this];rfl
structure Told (b:Book) (Q:List (List Nat)) (id:Int) (s:Int) (r:xN) (k:Nat):Prop where
 hs:s=1∨s=2
 hr:r∈b.rungs s
 hk:k∈xE Q r
 e:pget b.at_ id=some ⟨s,r.price,k⟩
 ident:(b.a.slotAt k).id=id
 get:fP (b.flat Q) id=wH b.a s r.price k
 has:kC (b.flat Q) id=true
theorem yFi {b:Book} {Q:List (List Nat)} {s:Int} (hs:s=1∨s=2) {r:xN} (hr:r∈b.rungs s) {k:Nat} (hk:k∈xE Q r):wH b.a s r.price k∈b.flat Q:=
 flat_mem hs (yUg.2 ⟨r,hr,yTb hk⟩)
theorem Book.Core.told {b:Book} {Q:List (List Nat)} (c:b.Core Q (-1)) (id:Int):(pget b.at_ id=none∧kC (b.flat Q) id=false)∨∃s r k,Told b Q id s r k:=by
 cases hg:pget b.at_ id with
 |none=>
  have:=zFy hg
  rw[c.keysP.mem_iff,← hasId_iff]at this
  exact .inl ⟨rfl,by simpa using this⟩
 |some x=>
  obtain⟨k,r,hs,hr,hk,hx,hid⟩:=c.plcI (sD hg)
  have hm:=yFi hs hr hk
  have hget:=vY c.ids hm
  have e:(wH b.a x.side r.price k).id=id:=hid
  rw[e]at hget
  exact .inr ⟨x.side,r,k,hs,hr,hk,by rw[hg];exact congrArg some hx,hid,hget,hasId_iff.2 (by rw[← e];exact yTb hm)⟩
theorem Told.only {b:Book} {Q:List (List Nat)} (c:b.Core Q (-1)) {id s:Int} {r:xN} {k:Nat} (h:Told b Q id s r k) {s':Int} (hs':s'=1∨s'=2) {r':xN} (hr':r'∈b.rungs s') {j:Nat} (hj:j∈xE Q r'):(b.a.slotAt j).id=id↔j=k:=by
 constructor
 ·intro e
  have h1:=c.plc hs' hr' hj
  have h2:=c.plc h.hs h.hr h.hk
  rw[e]at h1
  rw[h.ident]at h2
  have:=congrArg Place.slot (zBv c.keys h1 h2)
  dsimp only at this
  omega
 ·rintro rfl;exact h.ident
theorem Book.Core.less {b:Book} {Q:List (List Nat)} (c:b.Core Q (-1)) (ht:b.Tops (b.flat Q)) {id s:Int} {r:xN} {k:Nat} (h:Told b Q id s r k) {q:Int} (hq:1≤q∧q<(b.a.slotAt k).qty):
 (b.a.takeF k q).2=0∧({b with a:=(b.a.takeF k q).1}:Book).Rep (yQ (b.flat Q) id q)∧(b.a.takeF k q).1.slots.length=250∧(b.a.takeF k q).1.getF k=((((b.a.takeF k q).1.slotAt k)).ent,true)∧((b.a.takeF k q).1.slotAt k).id=id:=by
 obtain⟨t1,t2,t3⟩:=c.wf.take (c.get h.hs h.hr) h.hk (q:=q) ⟨hq.1,by omega⟩
 rw[ySe (by omega)]at t3
 obtain⟨w,t4,t5⟩:=t3
 have hent:∀j,((b.a.takeF k q).1.slotAt j).ent=if j=k then{(b.a.slotAt k).ent with qty:=(b.a.slotAt k).qty-q}else(b.a.slotAt j).ent:=by
  intro j
  split
  ·rename_i e;rw[e,t4];rfl
  ·rename_i e;exact(t2 j e).1
 have hid:∀j,((b.a.takeF k q).1.slotAt j).id=(b.a.slotAt j).id:=by
  intro j
  have:=congrArg Ent.id (hent j)
  split at this
  ·rename_i e;rw[e]at this ⊢;exact this
  ·exact this
 have hflat:({b with a:=(b.a.takeF k q).1}:Book).flat Q=yQ (b.flat Q) id q:=by
  have side:∀s',s'=1∨s'=2→({b with a:=(b.a.takeF k q).1}:Book).sideL Q s'=yQ (b.sideL Q s') id q:=by
   intro s' hs'
   rw[yQ,Book.sideL,Book.sideL,List.filterMap_flatMap]
   refine xF fun r' hr'=> ?_
   rw[Book.rOrds,Book.rOrds,List.filterMap_map]
   have:(xE Q r').filterMap (fun j=>some (wH (b.a.takeF k q).1 s' r'.price j))=(xE Q r').map (wH (b.a.takeF k q).1 s' r'.price):=by rw[← List.filterMap_eq_map];rfl
   refine this.symm.trans (vK fun j hj=> ?_)
   simp only[Function.comp,wH,z8p,hent]
   have hon:=h.only c hs' hr' hj
   by_cases e:j=k
   ·subst e
    rw[ySf rfl]
    refine((ySf (show(b.a.slotAt j).ent.id=id from h.ident)).trans (ySe fun e=> ?_)).symm
    have e:(b.a.slotAt j).qty=q:=e
    omega
   ·rw[ySe e];exact(ySe (fun e2=>e (hon.1 e2))).symm
  rw[Book.flat,side 1 (.inl rfl),side 2 (.inr rfl),Book.flat,yQ,yQ,yQ,List.filterMap_append]
 have hu:(b.a.takeF k q).1.usedAt k=true:=by
  obtain⟨hk2,⟨_,_,h2⟩,h3⟩:=w.toWf0.mem (c.get h.hs h.hr) h.hk
  have hlt:=w.len
  simp only[Arena.usedAt,ySs,yTj,ySt]
  exact⟨by omega,by omega,h2.used⟩
 refine⟨t1,⟨Q,c.flag w hid,⟨fun o ho=> ?_,fun s' hs' hh=> ?_⟩,hflat.symm⟩,w.len,by rw[Arena.getF,ySf hu,ySt],by rw[hid,h.ident]⟩
 ·obtain⟨o',ho',e⟩:=yVv.1 ho
  have:=ht.fl o' ho'
  split at e
  ·split at e
   ·cases e
   ·cases e;exact this
  ·cases e;exact this
 ·obtain⟨o,ho,o1,o2⟩:=ht.th s' hs' hh
  by_cases e:o.id=id
  ·refine⟨{o with qty:=o.qty-q},yVv.2 ⟨o,ho,?_⟩,o1,o2⟩
   have hg:=vY c.ids ho
   rw[e,h.get]at hg
   rw[ySf e,ySe (fun e2=>by
    rw[← hg]at e2
    have:(b.a.slotAt k).qty=q:=e2
    omega)]
  ·exact⟨o,yVv.2 ⟨o,ho,ySe e⟩,o1,o2⟩
theorem z4b:∀{l:List (Int×Place)} {k:Int},(l.map (·.1)).Nodup→aW k l=l.filter fun x=> !decide (x.1=k)
 |[],k,_=>rfl
 |(a,b)::l,k,h=>by
  rw[ySn,yUb]at h
  rw[aW]
  by_cases e:k=a
  ·subst e
   rw[ySf rfl,yVm (by simp)]
   symm
   rw[yWn]
   intro x hx
   have:x.1≠k:=fun e=>h.1 (e▸yTb (f:=(·.1)) hx)
   simp[this]
  ·rw[ySe e,yVl (by simp[Ne.symm e]),z4b h.2]
theorem zBh {l:List Nat} (h:l.Nodup) (k:Nat):l.erase k=l.filter fun j=> !decide (j=k):=by
 rw[h.erase_eq_filter]
 refine List.filter_congr fun j _=> ?_
 simp[bne,BEq.beq]
theorem yAp {s:Int} {l:List xN} (hs:l.Pairwise fun r r'=>btr s r.price r'.price=true) {R1 R2:List xN} {r:xN} (hl:l=R1++r::R2):zX s l r.price=R1.length:=by
 subst hl
 rw[List.pairwise_append]at hs
 refine m4 (by simp) (fun k hk x hx=> ?_) (fun x hx=> ?_)
 ·rw[yVc hk]at hx
  exact hs.2.2 x (ySo hx) r ySk
 ·rw[yUl (yTd _),yXv]at hx
  cases hx
  exact nY _ _
theorem yDl (b:Book) (id:Int) {s:Int} (hs:s=1∨s=2):(b.unhas s id).a=b.a∧(b.unhas s id).buys=b.buys∧(b.unhas s id).sells=b.sells∧(b.unhas s id).spare=b.spare∧∀s',s'=1∨s'=2→(b.unhas s id).topI s'=b.topI s'∧(b.unhas s id).hasF s'=if s'=s∧b.topI s=id then false else b.hasF s':=by
 rw[Book.unhas]
 by_cases hc:b.hasF s=true∧b.topI s=id
 ·rw[ySf hc]
  rcases hs with rfl|rfl
  ·exact⟨rfl,rfl,rfl,rfl,fun s' h=>by rcases h with rfl|rfl;exact⟨rfl,(ySf ⟨rfl,hc.2⟩).symm⟩;exact⟨rfl,(ySe (fun e=>absurd e.1 (by decide))).symm⟩⟩
  ·exact⟨rfl,rfl,rfl,rfl,fun s' h=>by rcases h with rfl|rfl;exact⟨rfl,(ySe (fun e=>absurd e.1 (by decide))).symm⟩;exact⟨rfl,(ySf ⟨rfl,hc.2⟩).symm⟩⟩
 ·rw[ySe hc]
  refine⟨rfl,rfl,rfl,rfl,fun s' h=>⟨rfl,?_⟩⟩
  split
  ·rename_i e
   rw[e.1]
   cases hh:b.hasF s with
   |false=>rfl
   |true=>exact absurd ⟨hh,e.2⟩ hc
  ·rfl
theorem Book.Core.close {b:Book} {Q:List (List Nat)} {s:Int} (hs:s=1∨s=2) {r:xN} {R1 R2:List xN} (hr:b.rungs s=R1++r::R2) (c:b.Core Q r.queue) (he:xE Q r=[]) {b':Book} (hb:b'=({b with spare:=b.spare++[r.queue]}:Book).setR s (R1++R2)):
 b'.Core Q (-1)∧b'.flat Q=b.flat Q:=by
 obtain⟨g1,g2⟩:=zLa ({b with spare:=b.spare++[r.queue]}:Book) hs (R1++R2)
 rw[← hb]at g1 g2
 have ha:b'.a=b.a:=by rw[hb];rcases hs with rfl|rfl<;>rfl
 have hat:b'.at_=b.at_:=by rw[hb];rcases hs with rfl|rfl<;>rfl
 have hsp:b'.spare=b.spare++[r.queue]:=by rw[hb];rcases hs with rfl|rfl<;>rfl
 have hqs:b'.qs.Perm b.qs:=by
  rw[hb]
  rcases hs with rfl|rfl
  ·have hr:b.buys=R1++r::R2:=hr
   show((R1++R2).map (·.queue)++b.sells.map (·.queue)++(b.spare++[r.queue])).Perm (b.buys.map (·.queue)++b.sells.map (·.queue)++b.spare)
   rw[hr,← ySq]
   refine(yWs _ _).trans ?_
   simp only[ySr,ySn,ySq,yTt]
   exact ySv.symm
  ·have hr:b.sells=R1++r::R2:=hr
   show(b.buys.map (·.queue)++(R1++R2).map (·.queue)++(b.spare++[r.queue])).Perm (b.buys.map (·.queue)++b.sells.map (·.queue)++b.spare)
   rw[hr,← ySq]
   refine(yWs _ _).trans ?_
   simp only[ySr,ySn,ySq,yTt]
   refine .trans ?_ (List.Perm.append_left _ ySv.symm)
   exact ySv.symm
 have hside:∀s',s'=1∨s'=2→b'.sideL Q s'=b.sideL Q s':=by
  intro s' hs'
  have ho:∀x,b'.rOrds Q s' x=b.rOrds Q s' x:=fun x=>by rw[Book.rOrds,Book.rOrds,ha]
  rw[Book.sideL,Book.sideL]
  by_cases e:s'=s
  ·subst e
   rw[g1,hr,yUc,yUc,yTv,xF (fun x _=>ho x),xF (l:=R2) (fun x _=>ho x)]
   rw[show b.rOrds Q s' r=[]by rw[Book.rOrds,he];rfl,yUu]
  ·rw[g2 s' e hs'];exact xF fun x _=>ho x
 have hplc:∀s',s'=1∨s'=2→b'.plcs Q s'=b.plcs Q s':=by
  intro s' hs'
  rw[Book.plcs,Book.plcs,ha]
  by_cases e:s'=s
  ·subst e
   rw[g1,hr,yUc,yUc,yTv,he,yWe,yUu]
  ·rw[g2 s' e hs'];rfl
 have hflat:b'.flat Q=b.flat Q:=by rw[Book.flat,Book.flat,hside 1 (.inl rfl),hside 2 (.inr rfl)]
 have hnd:=hqs.nodup_iff.2 c.nd
 have hmid:r.queue∉(R1++R2).map (·.queue):=by
  intro hm
  have h1:r.queue∈(b'.rungs s).map (·.queue):=by rw[g1];exact hm
  rw[Book.qs]at hnd
  have h2:=(yUt.1 hnd).2.2 r.queue (by
   rcases hs with rfl|rfl
   ·exact yTr _ h1
   ·exact yTu _ h1) r.queue (by rw[hsp];simp)
  exact h2 rfl
 refine⟨⟨by rw[ha];exact c.wf,fun s' hs'=> ?_,fun q hq=>c.rng q (hqs.mem_iff.1 hq),hnd,by rw[hqs.length_eq];exact c.ql,fun s' hs' x hx _=> ?_,fun q hq=> ?_,by rw[hat,hplc 1 (.inl rfl),hplc 2 (.inr rfl)];exact c.at_,by rw[hflat];exact c.ids,c.qb⟩,hflat⟩
 ·by_cases e:s'=s
  ·subst e
   have:=c.srt s' hs'
   rw[hr]at this
   rw[g1]
   exact this.sublist (List.Sublist.append_left (List.sublist_cons_self _ _) _)
  ·rw[g2 s' e hs'];exact c.srt s' hs'
 ·by_cases e:s'=s
  ·subst e
   rw[g1]at hx
   refine c.ne s' hs' x (by rw[hr];rcases yTi.1 hx with h|h;exact yTr _ h;exact yTu _ (ySl _ h)) fun e2=>hmid (e2▸yTb (f:=(·.queue)) hx)
  ·rw[g2 s' e hs']at hx
   refine c.ne s' hs' x hx fun e2=> ?_
   have h1:r.queue∈(b'.rungs s').map (·.queue):=by rw[g2 s' e hs',← e2];exact yTb (f:=(·.queue)) hx
   rw[Book.qs]at hnd
   exact(yUt.1 hnd).2.2 r.queue (by
    rcases hs' with rfl|rfl
    ·exact yTr _ h1
    ·exact yTu _ h1) r.queue (by rw[hsp];simp) rfl
 ·rw[hsp]at hq
  rcases yTi.1 hq with hq|hq
  ·exact c.sp q hq
  ·rw[yUd.1 hq];exact he
open Go Cv Go.Proofs
theorem zDw {L:List zD} (h:(L.map (·.id)).Nodup) {id:Int} (hh:kC L id=true):yQ L id (fP L id).qty=L.filter fun o=> !decide (o.id=id):=by
 rw[yQ,← List.filterMap_eq_filter]
 refine vK fun o ho=> ?_
 by_cases e:o.id=id
 ·have hg:=vY h ho
  rw[e]at hg
  rw[ySf e,ySf (by rw[hg])]
  simp[Option.guard,e]
 ·rw[ySe e]
  simp[Option.guard,e]
theorem Book.Core.gone {b:Book} {Q:List (List Nat)} (c:b.Core Q (-1)) (ht:b.Tops (b.flat Q)) {id s:Int} {r:xN} {k:Nat} (h:Told b Q id s r k) {q:Int} (hq:1≤q∧q=(b.a.slotAt k).qty):
 (b.a.takeF k q).2=0∧(({b with a:=(b.a.takeF k q).1}:Book).dropF s id r.price).Rep (yQ (b.flat Q) id q)∧(b.a.takeF k q).1.slots.length=250∧(b.a.takeF k q).1.queues.length=b.a.queues.length∧((b.a.takeF k q).1.getF k).2=false∧zX s (b.rungs s) r.price<(b.rungs s).length:=by
 obtain⟨t1,t2,t3⟩:=c.wf.take (c.get h.hs h.hr) h.hk (q:=q) ⟨hq.1,by omega⟩
 rw[ySf hq.2.symm]at t3
 obtain⟨w,t4,t5⟩:=t3
 generalize hA:(b.a.takeF k q).1=a1 at*
 have hget:=c.get h.hs h.hr
 have hnQ:=(ySg.1 hget).1
 have hrq:=c.rng _ (uR h.hs h.hr)
 generalize hQ':Q.set r.queue.toNat ((xE Q r).erase k)=Q' at*
 have hQl:Q'.length=Q.length:=by rw[← hQ',yTa]
 have hnd:(xE Q r).Nodup:=c.wf.nd _ _ hget
 have hqd:∀s' (r':xN),(s'=1∨s'=2)→r'∈b.rungs s'→xE Q' r'=(xE Q r').erase k:=by
  intro s' r' hs' hr'
  by_cases e:r'.queue=r.queue
  ·have e1:xE Q r'=xE Q r:=by rw[xE,xE,e]
   rw[e1,xE,e,← hQ']
   exact zI (wW hnQ)
  ·have h2:xE Q' r'=xE Q r':=by
    have:=c.rng _ (uR hs' hr')
    rw[xE,xE,ySi,ySi,← hQ',vS (by omega)]
   rw[h2]
   symm
   refine List.erase_of_not_mem fun hk=> ?_
   have:=c.wf.toWf0.one (c.get hs' hr') hget hk h.hk
   have:=c.rng _ (uR hs' hr')
   omega
 have hQo:∀q:Int,0≤q→q≠r.queue→Q'.getD q.toNat []=Q.getD q.toNat []:=by
  intro q h0 hne
  rw[← hQ',ySi,vS (by omega),ySi]
 obtain⟨u1,u2,u3,u4,u5⟩:=yDl ({b with a:=a1}:Book) id h.hs
 obtain⟨b1,hb1⟩:∃b1:Book,b1={({b with a:=a1}:Book).unhas s id with at_:=aW id b.at_}:=⟨_,rfl⟩
 have v1:b1.a=a1:=by rw[hb1];exact u1
 have v2:b1.buys=b.buys:=by rw[hb1];exact u2
 have v3:b1.sells=b.sells:=by rw[hb1];exact u3
 have v4:b1.spare=b.spare:=by rw[hb1];exact u4
 have v5:b1.at_=aW id b.at_:=by rw[hb1]
 have v6:∀s',s'=1∨s'=2→b1.topI s'=b.topI s'∧b1.hasF s'=if s'=s∧b.topI s=id then false else b.hasF s':=by
  intro s' hs'
  rw[hb1];exact u5 s' hs'
 have vr:∀s',b1.rungs s'=b.rungs s':=by intro s';rw[Book.rungs,Book.rungs,v2,v3]
 have vq:b1.qs=b.qs:=by rw[Book.qs,Book.qs,v2,v3,v4]
 have hord:∀s',s'=1∨s'=2→b1.sideL Q' s'=(b.sideL Q s').filter (fun o=> !decide (o.id=id))∧b1.plcs Q' s'=(b.plcs Q s').filter fun x=> !decide (x.1=id):=by
  intro s' hs'
  rw[Book.sideL,Book.sideL,Book.plcs,Book.plcs,vr,List.filter_flatMap,List.filter_flatMap]
  have key:∀r'∈b.rungs s',∀j∈xE Q r',((b.a.slotAt j).id=id↔j=k)∧(j≠k→wH a1 s' r'.price j=wH b.a s' r'.price j∧vB a1 s' r'.price j=vB b.a s' r'.price j):=by
   intro r' hr' j hj
   refine⟨h.only c hs' hr' hj,fun e=> ?_⟩
   have:=(t2 j e).1
   refine⟨by rw[wH,wH,this],?_⟩
   have:=congrArg Ent.id this
   rw[vB,vB]
   exact congrArg (fun i=>(i,(⟨s',r'.price,j⟩:Place))) this
  refine⟨xF fun r' hr'=> ?_,xF fun r' hr'=> ?_⟩
  ·rw[Book.rOrds,Book.rOrds,hqd s' r' hs' hr',zBh (c.wf.nd _ _ (c.get hs' hr')),List.filter_map,v1]
   have e1:(xE Q r').filter ((fun o:zD=> !decide (o.id=id))∘wH b.a s' r'.price)=(xE Q r').filter fun j=> !decide (j=k):=by
    refine List.filter_congr fun j hj=> ?_
    show(!decide ((b.a.slotAt j).id=id))=_
    rw[decide_eq_decide.2 (key r' hr' j hj).1]
   rw[e1]
   refine yTq fun j hj=> ?_
   rw[yTp]at hj
   exact((key r' hr' j hj.1).2 (by simpa using hj.2)).1
  ·rw[hqd s' r' hs' hr',zBh (c.wf.nd _ _ (c.get hs' hr')),List.filter_map,v1]
   have e1:(xE Q r').filter ((fun x:Int×Place=> !decide (x.1=id))∘vB b.a s' r'.price)=(xE Q r').filter fun j=> !decide (j=k):=by
    refine List.filter_congr fun j hj=> ?_
    show(!decide ((b.a.slotAt j).id=id))=_
    rw[decide_eq_decide.2 (key r' hr' j hj).1]
   rw[e1]
   refine yTq fun j hj=> ?_
   rw[yTp]at hj
   exact((key r' hr' j hj.1).2 (by simpa using hj.2)).2
 have hflat:b1.flat Q'=(b.flat Q).filter fun o=> !decide (o.id=id):=by
  rw[Book.flat,(hord 1 (.inl rfl)).1,(hord 2 (.inr rfl)).1,Book.flat,yWg]
 have hat:b1.at_.Perm (b1.plcs Q' 1++b1.plcs Q' 2):=by
  rw[v5,z4b c.keys,(hord 1 (.inl rfl)).2,(hord 2 (.inr rfl)).2,← yWg]
  exact c.at_.filter _
 have hold:∀s' (r':xN),(s'=1∨s'=2)→r'∈b.rungs s'→xE Q r'≠[]:=fun s' r' hs' hr'=>c.ne s' hs' r' hr' fun e=>by
  have:=c.rng _ (uR hs' hr');omega
 have c1:b1.Core Q' r.queue:=by
  refine⟨by rw[v1];exact w,fun s' hs'=>by rw[vr];exact c.srt s' hs',by rw[vq,hQl];exact c.rng,by rw[vq];exact c.nd,by rw[vq,hQl];exact c.ql,fun s' hs' r' hr' hne=> ?_,fun q hq=> ?_,hat,?_,by rw[hQl];exact c.qb⟩
  ·rw[vr]at hr'
   have e:=hQo r'.queue (c.rng _ (uR hs' hr')).1 hne
   rw[xE,e];exact hold s' r' hs' hr'
  ·rw[v4]at hq
   have hqq:q∈b.qs:=yTu _ hq
   rw[hQo q (c.rng q hqq).1 fun e=> ?_]
   ·exact c.sp q hq
   ·have hcn:=c.nd
    rw[Book.qs]at hcn
    refine(yUt.1 hcn).2.2 r.queue ?_ q hq e.symm
    rcases h.hs with rfl|rfl
    ·exact yTr _ (yTb (f:=(·.queue)) h.hr)
    ·exact yTu _ (yTb (f:=(·.queue)) h.hr)
  ·rw[hflat]
   exact c.ids.sublist (List.Sublist.map _ yVq)
 have htk:yQ (b.flat Q) id q=b1.flat Q':=by
  rw[hflat,← zDw c.ids h.has,h.get,hq.2];rfl
 have hm1:∀o,o∈b1.flat Q'↔o∈b.flat Q∧o.id≠id:=by
  intro o;rw[hflat,yTp];simp
 have ht1:∀b2:Book,(∀x,b2.hasF x=b1.hasF x∧b2.topI x=b1.topI x)→b2.Tops (b1.flat Q'):=by
  intro b2 hb2
  refine⟨fun o ho=> ?_,fun s' hs' hh=> ?_⟩
  ·rw[(hb2 _).1,(hb2 _).2]
   obtain⟨ho,hne⟩:=(hm1 o).1 ho
   have hs':=(a9 ho).1
   rw[(v6 _ hs').1,(v6 _ hs').2,ht.fl o ho]
   split
   ·rename_i e
    rw[e.1,e.2,ySp hne,yWw,yWw]
   ·rfl
  ·rw[(hb2 _).1,(v6 s' hs').2]at hh
   rw[(hb2 _).2,(v6 s' hs').1]
   split at hh
   ·cases hh
   ·rename_i e
    obtain⟨o,ho,o1,o2⟩:=ht.th s' hs' hh
    refine⟨o,(hm1 o).2 ⟨ho,fun e2=>e ?_⟩,o1,o2⟩
    have hg:=vY c.ids ho
    rw[e2,h.get]at hg
    have hsd:s'=s:=by rw[← o1,← hg];rfl
    exact⟨hsd,by rw[← hsd,← o2,e2]⟩
 obtain⟨R1,R2,hsplit⟩:=List.append_of_mem h.hr
 have hfn:=yAp (c.srt s h.hs) hsplit
 have hgd:(b.rungs s).getD (zX s (b.rungs s) r.price) ⟨0,0⟩=r:=by
  rw[hfn,hsplit]
  refine zI ?_
  rw[yUl (yTd _),yXv];rfl
 have hfl:zX s (b.rungs s) r.price<(b.rungs s).length:=by rw[hfn,hsplit];simp
 have hQr:Q'[r.queue.toNat]? =some ((xE Q r).erase k):=by rw[← hQ'];exact wW hnQ
 have hcount:(a1.qAt r.queue).count=((xE Q r).erase k).length:=by
  have:=w.q _ _ hQr
  have hql:=w.ql
  rw[zSf hrq.1 this]
 have er:xE Q' r=(xE Q r).erase k:=zI hQr
 have hru:({b with a:=a1}:Book).rungs s=b.rungs s:=rfl
 have hus:(a1.getF k).2=false:=by
  have:a1.usedAt k=false:=by
   have e:a1.slotAt k=slot0:=t4
   rw[Arena.slotAt]at e
   rw[Arena.usedAt,ySt,e];simp[slot0]
  rw[Arena.getF,ySe (by rw[this];decide)]
 refine⟨t1,?_,w.len,by rw[w.ql,c.wf.ql,hQl],hus,hfl⟩
 rw[Book.dropF,hru,hgd]
 by_cases hz:(a1.qAt r.queue).count=0
 ·rw[ySf hz]
  have he:xE Q' r=[]:=by
   rw[er]
   refine yTn ?_
   omega
  obtain⟨k1,k2⟩:=Book.Core.close h.hs (by rw[vr];exact hsplit) c1 he rfl
  have ebk:(({({b with a:=a1}:Book).unhas s id with at_:=aW id b.at_,spare:=b.spare++[r.queue]}:Book).setR s ((b.rungs s).take (zX s (b.rungs s) r.price)++(b.rungs s).drop (zX s (b.rungs s) r.price+1)))=(({b1 with spare:=b1.spare++[r.queue]}:Book).setR s (R1++R2)):=by
   have e1:(b.rungs s).take (zX s (b.rungs s) r.price)++(b.rungs s).drop (zX s (b.rungs s) r.price+1)=R1++R2:=by
    rw[hfn,hsplit,List.take_left]
    congr 1
    rw[yXq,yVp (by omega),Nat.add_sub_cancel_left];rfl
   rw[e1,v4,hb1]
  refine⟨Q',?_,?_,?_⟩
  ·exact ebk▸k1
  ·rw[htk]
   refine ht1 _ fun x=> ?_
   show(Book.hasF (({({b with a:=a1}:Book).unhas s id with at_:=aW id b.at_,spare:=b.spare++[r.queue]}:Book).setR s ((b.rungs s).take (zX s (b.rungs s) r.price)++(b.rungs s).drop (zX s (b.rungs s) r.price+1))) x=_∧Book.topI (({({b with a:=a1}:Book).unhas s id with at_:=aW id b.at_,spare:=b.spare++[r.queue]}:Book).setR s ((b.rungs s).take (zX s (b.rungs s) r.price)++(b.rungs s).drop (zX s (b.rungs s) r.price+1))) x=_)
   rw[ebk]
   rcases h.hs with rfl|rfl<;>exact⟨rfl,rfl⟩
  ·rw[htk]
   show _=Book.flat (({({b with a:=a1}:Book).unhas s id with at_:=aW id b.at_,spare:=b.spare++[r.queue]}:Book).setR s ((b.rungs s).take (zX s (b.rungs s) r.price)++(b.rungs s).drop (zX s (b.rungs s) r.price+1))) Q'
   rw[ebk];exact k2.symm
 ·rw[ySe hz]
  have c2:b1.Core Q' (-1):=⟨c1.wf,c1.srt,c1.rng,c1.nd,c1.ql,fun s' hs' r' hr' _=>by
   by_cases e:r'.queue=r.queue
   ·rw[xE,e]
    intro e2
    rw[xE]at er
    rw[er]at e2
    rw[hcount,e2]at hz
    exact hz rfl
   ·exact c1.ne s' hs' r' hr' e,c1.sp,c1.at_,c1.ids,c1.qb⟩
  have hh:({({b with a:=a1}:Book).unhas s id with at_:=aW id b.at_}:Book)=b1:=hb1.symm
  show Book.Rep {({b with a:=a1}:Book).unhas s id with at_:=aW id b.at_} _
  rw[hh,htk]
  exact⟨Q',c2,ht1 b1 fun _=>⟨rfl,rfl⟩,rfl⟩
open Go Cv Go.Proofs
theorem nQ (k:Int):∀l,aX (Value.int IntKind.i64 k) (atE l)=atE (aW k l)
 |[]=>rfl
 |(a,b)::l=>by
  have ih:=nQ k l
  show(bif (keq .i64 .i64 && decide (k=a))then atE l else _::aX _ (atE l))=_
  rw[ih,aW]
  by_cases h:k=a
  ·subst h;simp[keq]
  ·simp[h,atE]
theorem z3l:delRC.ok Tryz.prog 139:=
 delX_ok mixed Tryz.func139 rfl (by kernel_rfl) (by kernel_rfl) (by kernel_rfl) (by kernel_rfl) zEl rfl (by decide) (fun s sn sk i j w R=>by kernel_rfl)
theorem dup {X:Prop} {n:Int} (h:X):X∧n=n∧True∧X:=⟨h,rfl,trivial,h⟩
theorem Book.Core.small {b:Book} {Q:List (List Nat)} (c:b.Core Q (-1)):b.small:=by
 have hq:=c.qb
 have h1:=c.ql
 have h2:=c.wf.ql
 have h3:=c.wf.len
 rw[Book.qs,ySm,ySm,ySh,ySh]at h1
 exact⟨⟨by omega,by omega⟩,by omega,by omega,by omega⟩
theorem yLq (i:DrI) (h:drop1C.cnd i):yAb i:=by
 obtain⟨hsm,hn⟩:i.ok 1:=h
 obtain⟨⟨ha1,ha2⟩,hb1,hb2,hsp⟩:=id hsm
 have hn:zX 1 i.b.buys i.price<i.b.buys.length:=hn
 obtain⟨r,hr⟩:=z6 (l:=i.b.buys) hn
 have hgd:((i.b.rungs 1).getD (zX 1 (i.b.rungs 1) i.price) ⟨0,0⟩)=r:=zI hr
 have hw:∀k:Int,IntKind.i64.wrap ((zX 1 (i.b.rungs 1) i.price:Int)+1)=((zX 1 (i.b.rungs 1) i.price+1:Nat):Int):=fun _=>by
  have:=zBr 1 i.price (i.b.rungs 1)
  have hl:(i.b.rungs 1).length≤1000000:=by show i.b.buys.length≤_;omega
  rw[w64 (by omega)];rfl
 have hn2:((zX 1 (i.b.rungs 1) i.price:Nat):Int)<((List.map zC i.b.buys).length:Int):=by
  rw[ySh]
  show((zX 1 i.b.buys i.price:Nat):Int)<_
  omega
 unfold yAb zDt zFv gK vN x9 xY xB dI
 refine⟨jT _ _,Cv.cnd.mk (fun c1=>Cv.cnd.mk (fun c2=> ?_) (fun c2=> ?_)) (fun c1=> ?_)⟩
 ·have c2:i.b.top1=i.id:=by simpa using c2
  have hu:i.b.unhas 1 i.id={i.b with has1:=false}:=by rw[Book.unhas,ySf ⟨c1,c2⟩];rfl
  refine⟨⟨{i.b with has1:=false,at_:=aW i.id i.b.at_},i.price⟩,rfl,rfl,rfl,rfl,rfl,rfl,rfl,rfl,rfl,(nQ _ _).symm,rfl,hsm,fun _ _=>⟨⟨by omega,hn2⟩,r.queue,elA hr (by simp[zC]) rfl,⟨i.b.a,r.queue⟩,rfl,rfl,trivial,fun _ _=>Cv.cnd.mk (fun e=>⟨by simp only[yW];omega,⟨i.b.buys.map zC,zX 1 (i.b.rungs 1) i.price,zX 1 (i.b.rungs 1) i.price+1⟩,rfl,(hw 0).symm,rfl,⟨yYf _,by rw[ySh];exact hn⟩,fun _ _=>⟨rfl,(),?_⟩⟩) (fun e=>⟨(),?_⟩)⟩⟩
  ·have e:(i.b.a.qAt r.queue).count=0:=by simpa using e
   rw[Book.dropF,hgd,ySf e,hu]
   refine⟨rfl,rfl,rfl,rfl,rfl,rfl,?_,rfl,?_,trivial⟩
   ·show List.map zC (i.b.buys.take _++i.b.buys.drop _)=_
    rw[ySr,yWr,yXz]
   ·show iE (i.b.spare++[r.queue])=_
    simp[iE]
  ·have e:¬(i.b.a.qAt r.queue).count=0:=by simpa using e
   rw[Book.dropF,hgd,ySe e,hu]
   exact⟨rfl,rfl,rfl,rfl,rfl,rfl,rfl,rfl,rfl,trivial⟩
 ·have c2:¬i.b.top1=i.id:=by simpa using c2
  have hu:i.b.unhas 1 i.id={i.b with has1:=i.b.has1}:=by rw[Book.unhas,ySe (fun e=>c2 e.2)]
  refine⟨⟨{i.b with has1:=i.b.has1,at_:=aW i.id i.b.at_},i.price⟩,rfl,rfl,rfl,rfl,rfl,rfl,rfl,rfl,rfl,(nQ _ _).symm,rfl,hsm,fun _ _=>⟨⟨by omega,hn2⟩,r.queue,elA hr (by simp[zC]) rfl,⟨i.b.a,r.queue⟩,rfl,rfl,trivial,fun _ _=>Cv.cnd.mk (fun e=>⟨by simp only[yW];omega,⟨i.b.buys.map zC,zX 1 (i.b.rungs 1) i.price,zX 1 (i.b.rungs 1) i.price+1⟩,rfl,(hw 0).symm,rfl,⟨yYf _,by rw[ySh];exact hn⟩,fun _ _=>⟨rfl,(),?_⟩⟩) (fun e=>⟨(),?_⟩)⟩⟩
  ·have e:(i.b.a.qAt r.queue).count=0:=by simpa using e
   rw[Book.dropF,hgd,ySf e,hu]
   refine⟨rfl,rfl,rfl,rfl,rfl,rfl,?_,rfl,?_,trivial⟩
   ·show List.map zC (i.b.buys.take _++i.b.buys.drop _)=_
    rw[ySr,yWr,yXz]
   ·show iE (i.b.spare++[r.queue])=_
    simp[iE]
  ·have e:¬(i.b.a.qAt r.queue).count=0:=by simpa using e
   rw[Book.dropF,hgd,ySe e,hu]
   exact⟨rfl,rfl,rfl,rfl,rfl,rfl,rfl,rfl,rfl,trivial⟩
 ·have hu:i.b.unhas 1 i.id={i.b with has1:=i.b.has1}:=by
   rw[Book.unhas,ySe]
   rintro⟨e,_⟩
   exact absurd (show i.b.has1=true from e) (by rw[c1];decide)
  refine⟨⟨{i.b with has1:=i.b.has1,at_:=aW i.id i.b.at_},i.price⟩,rfl,rfl,rfl,rfl,rfl,rfl,rfl,rfl,rfl,(nQ _ _).symm,rfl,hsm,fun _ _=>⟨⟨by omega,hn2⟩,r.queue,elA hr (by simp[zC]) rfl,⟨i.b.a,r.queue⟩,rfl,rfl,trivial,fun _ _=>Cv.cnd.mk (fun e=>⟨by simp only[yW];omega,⟨i.b.buys.map zC,zX 1 (i.b.rungs 1) i.price,zX 1 (i.b.rungs 1) i.price+1⟩,rfl,(hw 0).symm,rfl,⟨yYf _,by rw[ySh];exact hn⟩,fun _ _=>⟨rfl,(),?_⟩⟩) (fun e=>⟨(),?_⟩)⟩⟩
  ·have e:(i.b.a.qAt r.queue).count=0:=by simpa using e
   rw[Book.dropF,hgd,ySf e,hu]
   refine⟨rfl,rfl,rfl,rfl,rfl,rfl,?_,rfl,?_,trivial⟩
   ·show List.map zC (i.b.buys.take _++i.b.buys.drop _)=_
    rw[ySr,yWr,yXz]
   ·show iE (i.b.spare++[r.queue])=_
    simp[iE]
  ·have e:¬(i.b.a.qAt r.queue).count=0:=by simpa using e
   rw[Book.dropF,hgd,ySe e,hu]
   exact⟨rfl,rfl,rfl,rfl,rfl,rfl,rfl,rfl,rfl,trivial⟩
theorem yCd:drop1C.ok Tryz.prog 121:=okw mixed (gokc zKy (gokc zFb (gokc z3l gok0))) 0 (fun _=>[]) (fun _=>[]) [] Tryz.func121 yLq
theorem yNv (i:DrI) (h:drop2C.cnd i):yDk i:=by
 obtain⟨hsm,hn⟩:i.ok 2:=h
 obtain⟨⟨ha1,ha2⟩,hb1,hb2,hsp⟩:=id hsm
 have hn:zX 2 i.b.sells i.price<i.b.sells.length:=hn
 obtain⟨r,hr⟩:=z6 (l:=i.b.sells) hn
 have hgd:((i.b.rungs 2).getD (zX 2 (i.b.rungs 2) i.price) ⟨0,0⟩)=r:=zI hr
 have hw:∀k:Int,IntKind.i64.wrap ((zX 2 (i.b.rungs 2) i.price:Int)+1)=((zX 2 (i.b.rungs 2) i.price+1:Nat):Int):=fun _=>by
  have:=zBr 2 i.price (i.b.rungs 2)
  have hl:(i.b.rungs 2).length≤1000000:=by show i.b.sells.length≤_;omega
  rw[w64 (by omega)];rfl
 have hn2:((zX 2 (i.b.rungs 2) i.price:Nat):Int)<((List.map zC i.b.sells).length:Int):=by
  rw[ySh]
  show((zX 2 i.b.sells i.price:Nat):Int)<_
  omega
 unfold yDk zDr zFk gU vG x9 xX xC dI
 refine⟨jT _ _,Cv.cnd.mk (fun c1=>Cv.cnd.mk (fun c2=> ?_) (fun c2=> ?_)) (fun c1=> ?_)⟩
 ·have c2:i.b.top2=i.id:=by simpa using c2
  have hu:i.b.unhas 2 i.id={i.b with has2:=false}:=by rw[Book.unhas,ySf ⟨c1,c2⟩];rfl
  refine⟨⟨{i.b with has2:=false,at_:=aW i.id i.b.at_},i.price⟩,rfl,rfl,rfl,rfl,rfl,rfl,rfl,rfl,rfl,(nQ _ _).symm,rfl,hsm,fun _ _=>⟨⟨by omega,hn2⟩,r.queue,elA hr (by simp[zC]) rfl,⟨i.b.a,r.queue⟩,rfl,rfl,trivial,fun _ _=>Cv.cnd.mk (fun e=>⟨by simp only[yW];omega,⟨i.b.sells.map zC,zX 2 (i.b.rungs 2) i.price,zX 2 (i.b.rungs 2) i.price+1⟩,rfl,(hw 0).symm,rfl,⟨yYf _,by rw[ySh];exact hn⟩,fun _ _=>⟨rfl,(),?_⟩⟩) (fun e=>⟨(),?_⟩)⟩⟩
  ·have e:(i.b.a.qAt r.queue).count=0:=by simpa using e
   rw[Book.dropF,hgd,ySf e,hu]
   refine⟨rfl,rfl,rfl,rfl,rfl,rfl,rfl,?_,?_,trivial⟩
   ·show List.map zC (i.b.sells.take _++i.b.sells.drop _)=_
    rw[ySr,yWr,yXz]
   ·show iE (i.b.spare++[r.queue])=_
    simp[iE]
  ·have e:¬(i.b.a.qAt r.queue).count=0:=by simpa using e
   rw[Book.dropF,hgd,ySe e,hu]
   exact⟨rfl,rfl,rfl,rfl,rfl,rfl,rfl,rfl,rfl,trivial⟩
 ·have c2:¬i.b.top2=i.id:=by simpa using c2
  have hu:i.b.unhas 2 i.id={i.b with has2:=i.b.has2}:=by rw[Book.unhas,ySe (fun e=>c2 e.2)]
  refine⟨⟨{i.b with has2:=i.b.has2,at_:=aW i.id i.b.at_},i.price⟩,rfl,rfl,rfl,rfl,rfl,rfl,rfl,rfl,rfl,(nQ _ _).symm,rfl,hsm,fun _ _=>⟨⟨by omega,hn2⟩,r.queue,elA hr (by simp[zC]) rfl,⟨i.b.a,r.queue⟩,rfl,rfl,trivial,fun _ _=>Cv.cnd.mk (fun e=>⟨by simp only[yW];omega,⟨i.b.sells.map zC,zX 2 (i.b.rungs 2) i.price,zX 2 (i.b.rungs 2) i.price+1⟩,rfl,(hw 0).symm,rfl,⟨yYf _,by rw[ySh];exact hn⟩,fun _ _=>⟨rfl,(),?_⟩⟩) (fun e=>⟨(),?_⟩)⟩⟩
  ·have e:(i.b.a.qAt r.queue).count=0:=by simpa using e
   rw[Book.dropF,hgd,ySf e,hu]
   refine⟨rfl,rfl,rfl,rfl,rfl,rfl,rfl,?_,?_,trivial⟩
   ·show List.map zC (i.b.sells.take _++i.b.sells.drop _)=_
    rw[ySr,yWr,yXz]
   ·show iE (i.b.spare++[r.queue])=_
    simp[iE]
  ·have e:¬(i.b.a.qAt r.queue).count=0:=by simpa using e
   rw[Book.dropF,hgd,ySe e,hu]
   exact⟨rfl,rfl,rfl,rfl,rfl,rfl,rfl,rfl,rfl,trivial⟩
 ·have hu:i.b.unhas 2 i.id={i.b with has2:=i.b.has2}:=by
   rw[Book.unhas,ySe]
   rintro⟨e,_⟩
   exact absurd (show i.b.has2=true from e) (by rw[c1];decide)
  refine⟨⟨{i.b with has2:=i.b.has2,at_:=aW i.id i.b.at_},i.price⟩,rfl,rfl,rfl,rfl,rfl,rfl,rfl,rfl,rfl,(nQ _ _).symm,rfl,hsm,fun _ _=>⟨⟨by omega,hn2⟩,r.queue,elA hr (by simp[zC]) rfl,⟨i.b.a,r.queue⟩,rfl,rfl,trivial,fun _ _=>Cv.cnd.mk (fun e=>⟨by simp only[yW];omega,⟨i.b.sells.map zC,zX 2 (i.b.rungs 2) i.price,zX 2 (i.b.rungs 2) i.price+1⟩,rfl,(hw 0).symm,rfl,⟨yYf _,by rw[ySh];exact hn⟩,fun _ _=>⟨rfl,(),?_⟩⟩) (fun e=>⟨(),?_⟩)⟩⟩
  ·have e:(i.b.a.qAt r.queue).count=0:=by simpa using e
   rw[Book.dropF,hgd,ySf e,hu]
   refine⟨rfl,rfl,rfl,rfl,rfl,rfl,rfl,?_,?_,trivial⟩
   ·show List.map zC (i.b.sells.take _++i.b.sells.drop _)=_
    rw[ySr,yWr,yXz]
   ·show iE (i.b.spare++[r.queue])=_
    simp[iE]
  ·have e:¬(i.b.a.qAt r.queue).count=0:=by simpa using e
   rw[Book.dropF,hgd,ySe e,hu]
   exact⟨rfl,rfl,rfl,rfl,rfl,rfl,rfl,rfl,rfl,trivial⟩
theorem z7t:drop2C.ok Tryz.prog 121:=okw mixed (gokc zIw (gokc zFb (gokc z3l gok0))) 0 (fun _=>[]) (fun _=>[]) [] Tryz.func121 yNv
theorem yEh:dropC.ok Tryz.prog 121:=fun j=>match j with
 |⟨i,false⟩=>yCd i
 |⟨i,true⟩=>z7t i
theorem yGb {a:Arena} {k:Nat} {p t:Int} {m:Nat} (h:zRq (a.slotAt k) m k p t) (hl:k<a.slots.length):a.getF k=((a.slotAt k).ent,true):=by
 have:a.usedAt k=true:=by
  simp only[Arena.usedAt,ySs,yTj,ySt]
  exact⟨by omega,by omega,h.used⟩
 rw[Arena.getF,ySf this,ySt]
theorem zUk {b:Book} {Q:List (List Nat)} (c:b.Core Q (-1)) {id s:Int} {r:xN} {k:Nat} (h:Told b Q id s r k):b.a.getF k=((b.a.slotAt k).ent,true)∧(b.a.slotAt k).qty≤1000000∧1≤(b.a.slotAt k).qty:=by
 obtain⟨h1,⟨p,t,h2⟩,h3⟩:=c.wf.toWf0.mem (c.get h.hs h.hr) h.hk
 exact⟨yGb h2 (by rw[c.wf.len];exact h1),h2.q2,c.wf.pos _ _ (c.get h.hs h.hr) _ h.hk⟩
theorem yLa (i:FlI) (h:bfindC.cnd i):z7q i:=by
 obtain⟨Q,c,ht,hL⟩:i.b.Rep i.L:=h
 unfold z7q zGb lZ nK dI
 rcases c.told i.id with⟨hg,hn⟩|⟨s,r,k,hT⟩
 ·refine⟨jT _ _,false,0,0,0,.inr ⟨?_,rfl,rfl⟩,Cv.cnd.mk (fun _=> ?_) (fun e=>absurd e (by decide))⟩
  ·rw[eB,hg];rfl
  ·rw[← hL]at hn
   rw[yKw hn,hn]
   exact⟨(),by(repeat'(first|exact trivial|exact rfl|apply And.intro))⟩
 ·refine⟨jT _ _,true,s,r.price,k,.inl ⟨?_,rfl⟩,Cv.cnd.mk (fun e=>absurd e (by decide)) (fun _=>dup ⟨⟨i.b.a,k⟩,rfl,rfl,by dsimp only;rw[c.wf.len];decide,fun _ _=>⟨(),?_⟩⟩)⟩
  ·rw[eB,hT.e];rfl
  ·have h1:=hT.get
   have h2:=hT.has
   rw[← hL]at h1 h2
   rw[h1,h2,(zUk c hT).1]
   exact⟨hT.ident,by(repeat'(first|exact trivial|exact rfl|apply And.intro))⟩
theorem zXd:bfindC.ok Tryz.prog 75:=okw mixed (gokc z1n gok0) 0 (fun _=>[]) (fun _=>[]) [0] Tryz.func75 yLa
theorem Book.Core.okAt {b:Book} {Q:List (List Nat)} (c:b.Core Q (-1)):b.a.okAt:=c.wf.toWf0.ok
theorem yOn (i:FlI) (h:fillC.cnd i):yIj i:=by
 have hR:i.b.Rep i.L:=h
 obtain⟨Q,c,ht,hL⟩:=id hR
 unfold yIj zRt zJj wS tC nK dI
 rcases c.told i.id with⟨hg,hn⟩|⟨s,r,k,hT⟩
 ·refine⟨jT _ _,false,0,0,0,.inr ⟨?_,rfl,rfl⟩,Cv.cnd.mk (fun _=> ?_) (fun e=>absurd e (by simp))⟩
  ·rw[eB,hg];rfl
  ·rw[← hL]at hn
   rw[xR,ySf hn]
   exact⟨i.b,rfl,rfl,rfl,rfl,rfl,rfl,rfl,rfl,rfl,rfl,hR⟩
 have hg:=hT.get
 have hh:=hT.has
 rw[← hL]at hg hh
 obtain⟨hsg,hq1,hq2⟩:=zUk c hT
 have hqq:(fP i.L i.id).qty=(i.b.a.slotAt k).qty:=by rw[hg];rfl
 refine⟨jT _ _,true,s,r.price,k,.inl ⟨?_,rfl⟩,Cv.cnd.mk (fun e=>absurd e (by simp)) (fun _=>⟨⟨i.b.a,k,i.qty⟩,rfl,rfl,rfl,c.okAt,fun _ _=> ?_⟩)⟩
 ·rw[eB,hT.e];rfl
 dsimp only
 have hu:i.b.a.usedAt k=true:=by
  cases hu:i.b.a.usedAt k with
  |true=>rfl
  |false=>rw[Arena.getF,ySe (by rw[hu];decide)]at hsg;exact absurd (congrArg Prod.snd hsg) (by simp)
 by_cases hb:i.qty<1∨(i.b.a.slotAt k).qty<i.qty
 ·have ht:i.b.a.takeF k i.qty=(i.b.a,24):=by rw[Arena.takeF,ySe (by rw[hu];decide),ySt,ySf hb]
  rw[ht]
  refine Cv.cnd.mk (fun _=> ?_) (fun e=>absurd e (by simp))
  rw[xR,ySe (by rw[hh];decide),ySf (by rw[hqq];exact hb)]
  exact⟨i.b,rfl,rfl,rfl,rfl,rfl,rfl,rfl,rfl,rfl,rfl,hR⟩
 have hfl:xR i.L i.id i.qty=(yQ i.L i.id i.qty,0):=by rw[xR,ySe (by rw[hh];decide),ySe (by rw[hqq];exact hb)]
 by_cases hf:i.qty=(i.b.a.slotAt k).qty
 ·obtain⟨g1,g2,g3,g4,g5,g6⟩:=c.gone (by rw[← hL];exact ht) hT (q:=i.qty) ⟨by omega,hf⟩
  rw[← hL]at g2
  have hsm:=c.small
  rw[g1]
  refine Cv.cnd.mk (fun e=>absurd e (by simp)) (fun _=>dup ⟨⟨(i.b.a.takeF k i.qty).1,k⟩,rfl,rfl,by dsimp only;rw[g3];decide,fun _ _=> ?_⟩)
  dsimp only
  rw[g5]
  refine Cv.cnd.mk (fun _=> ?_) (fun e=>absurd e (by simp))
  rcases hT.hs with rfl|rfl
  ·refine⟨⟨⟨{i.b with a:=(i.b.a.takeF k i.qty).1},i.id,r.price,k⟩,false⟩,rfl,rfl,rfl,rfl,rfl,rfl,rfl,rfl,rfl,rfl,rfl,rfl,rfl,⟨⟨⟨by dsimp only;rw[g3];decide,by dsimp only;rw[g4];exact hsm.1.2⟩,hsm.2⟩,g6⟩,fun _ _=> ?_⟩
   refine⟨({i.b with a:=(i.b.a.takeF k i.qty).1}:Book).dropF 1 i.id r.price,by rw[hfl],rfl,rfl,rfl,rfl,rfl,rfl,rfl,rfl,rfl,by rw[hfl];exact g2⟩
  ·refine⟨⟨⟨{i.b with a:=(i.b.a.takeF k i.qty).1},i.id,r.price,k⟩,true⟩,rfl,rfl,rfl,rfl,rfl,rfl,rfl,rfl,rfl,rfl,rfl,rfl,rfl,⟨⟨⟨by dsimp only;rw[g3];decide,by dsimp only;rw[g4];exact hsm.1.2⟩,hsm.2⟩,g6⟩,fun _ _=> ?_⟩
   refine⟨({i.b with a:=(i.b.a.takeF k i.qty).1}:Book).dropF 2 i.id r.price,by rw[hfl],rfl,rfl,rfl,rfl,rfl,rfl,rfl,rfl,rfl,by rw[hfl];exact g2⟩
 ·obtain⟨g1,g2,g3,g4,g5⟩:=c.less (by rw[← hL];exact ht) hT (q:=i.qty) (by omega)
  rw[← hL]at g2
  rw[g1]
  refine Cv.cnd.mk (fun e=>absurd e (by simp)) (fun _=>dup ⟨⟨(i.b.a.takeF k i.qty).1,k⟩,rfl,rfl,by dsimp only;rw[g3];decide,fun _ _=> ?_⟩)
  dsimp only
  rw[g4]
  refine Cv.cnd.mk (fun e=>absurd e (by simp)) (fun _=>Cv.cnd.mk (fun e=> ?_) (fun _=> ?_))
  ·have e:¬((i.b.a.takeF k i.qty).1.slotAt k).ent.id=i.id:=by simpa using e
   exact absurd g5 e
  ·exact⟨{i.b with a:=(i.b.a.takeF k i.qty).1},by rw[hfl],rfl,rfl,rfl,rfl,rfl,rfl,rfl,rfl,rfl,by rw[hfl];exact g2⟩
theorem yDx:fillC.ok Tryz.prog 100:=okw mixed (gokc z9w (gokc z1n (gokc yEh gok0))) 0 (fun _=>[]) (fun _=>[]) [0] Tryz.func100 yOn
theorem zRv (A B:List zD) (s p:Int):atL (A++B) s p=atL A s p++atL B s p:=yWg _ _
theorem zQx {A:List zD} {s p:Int} (h:∀o∈A,o.side=s→o.price≠p):atL A s p=[]:=by
 rw[atL,yXu]
 intro o ho
 by_cases e:o.side=s
 ·simp[h o ho e]
 ·simp[e]
theorem yFv {A:List zD} {s p:Int} (h:∀o∈A,o.side=s∧o.price=p):atL A s p=A:=by
 rw[atL,yWn]
 intro o ho
 simp[h o ho]
theorem zMj {s x y:Int} (h:btr s x y=true):x≠y:=by
 rintro rfl;rw[nY]at h;cases h
theorem Book.Core.at_no {b:Book} {Q:List (List Nat)} (c:b.Core Q (-1)) {s p:Int} (hs:s=1∨s=2) (h:kR s (b.rungs s) p=false):atL (b.flat Q) s p=[]:=by
 have hsp:=lG (p:=p) (c.srt s hs)
 rw[ySe (by rw[h];decide)]at hsp
 refine zQx fun o ho e=> ?_
 obtain⟨_,r,hr,_,hp⟩:=a9 ho
 rw[e]at hr
 rw[hp]
 rw[← yUm (zX s (b.rungs s) p) (b.rungs s)]at hr
 rcases yTi.1 hr with hr|hr
 ·exact zMj (hsp.1 r hr)
 ·exact(zMj (hsp.2 r hr)).symm
theorem Book.Core.at_yes {b:Book} {Q:List (List Nat)} (c:b.Core Q (-1)) {s p:Int} (hs:s=1∨s=2) (h:kR s (b.rungs s) p=true):∃r,(b.rungs s)[zX s (b.rungs s) p]? =some r∧r.price=p∧r∈b.rungs s∧atL (b.flat Q) s p=b.rOrds Q s r:=by
 have hsp:=lG (p:=p) (c.srt s hs)
 rw[ySf h]at hsp
 obtain⟨h1,r,hr,hp,h2⟩:=hsp
 have hlt:=(ySg.1 hr).1
 refine⟨r,hr,hp,ySo hr,?_⟩
 have hsplit:b.rungs s=(b.rungs s).take (zX s (b.rungs s) p)++r::(b.rungs s).drop (zX s (b.rungs s) p+1):=by
  conv=>lhs;rw[← yUm (zX s (b.rungs s) p) (b.rungs s)]
  rw[yUy hlt,(ySg.1 hr).2]
 have hside:atL (b.sideL Q s) s p=b.rOrds Q s r:=by
  rw[Book.sideL,hsplit,yUc,yTv,zRv,zRv,zQx,yFv,zQx,yTg,yUu]
  ·intro o ho _
   obtain⟨r',hr',ho⟩:=yUg.1 ho
   rw[(qF ho).2];exact(zMj (h2 r' hr')).symm
  ·intro o ho
   rw[← hp];exact qF ho
  ·intro o ho _
   obtain⟨r',hr',ho⟩:=yUg.1 ho
   rw[(qF ho).2];exact zMj (h1 r' hr')
 have hother:∀s',s'≠s→atL (b.sideL Q s') s p=[]:=fun s' hne=>zQx fun o ho e=>absurd ((b8 ho).1.symm.trans e) hne
 rw[Book.flat,zRv]
 rcases hs with rfl|rfl
 ·rw[hside,hother 2 (by decide),yTg]
 ·rw[hside,hother 1 (by decide),yUu]
theorem Book.Core.listOk {b:Book} {Q:List (List Nat)} (c:b.Core Q (-1)) {s:Int} (hs:s=1∨s=2) {r:xN} (hr:r∈b.rungs s):b.a.listOk r.queue (xE Q r):=by
 have hg:=c.get hs hr
 have hrq:=c.rng _ (uR hs hr)
 refine⟨by have:=c.wf.toWf0.short hg;omega,?_⟩
 rw[ySf ⟨hrq.1,by rw[c.wf.ql];exact hrq.2⟩,zI (c.wf.q _ _ hg)]
 exact zOa (c.wf.sg _ _ hg)
theorem yRn (i:AtI) (h:at1C.cnd i):yPx i:=by
 obtain⟨Q,c,ht,hL⟩:i.b.Rep i.L:=h
 unfold yPx gK vN x9 xY vP dI
 refine⟨1,rfl,trivial,fun _ _=>Cv.cnd.mk (fun e=>absurd e (by decide)) fun _=>⟨⟨i.b,i.price⟩,rfl,rfl,rfl,rfl,rfl,rfl,rfl,rfl,rfl,rfl,rfl,c.small,fun _ _=>Cv.cnd.mk (fun e=> ?_) (fun e=> ?_)⟩⟩
 ·have e:kR 1 (i.b.rungs 1) i.price=false:=by simpa using e
  have:=c.at_no (.inl rfl) e
  rw[← hL]at this
  refine⟨(),rfl,rfl,rfl,rfl,rfl,rfl,rfl,rfl,rfl,?_,trivial⟩
  show List.map wG (atL i.L 1 i.price)=[]
  rw[this];rfl
 ·have e:kR 1 (i.b.rungs 1) i.price=true:=by simpa using e
  obtain⟨r,hr,hp,hm,ha⟩:=c.at_yes (.inl rfl) e
  rw[← hL]at ha
  have hlt:=(ySg.1 hr).1
  refine⟨⟨by omega,by rw[ySh];exact Int.ofNat_lt.2 hlt⟩,r.price,r.queue,elA hr (by simp[zC]) rfl,⟨i.b,1,r,xE Q r⟩,rfl,rfl,rfl,rfl,rfl,rfl,rfl,rfl,rfl,rfl,rfl,rfl,c.listOk (.inl rfl) hm,fun _ _=>⟨(),rfl,?_,trivial⟩⟩
  show List.map wG (atL i.L 1 i.price)=_
  rw[ha,BoI.ords,Book.rOrds,Arena.ents];simp only[yUx];rfl
theorem yNu:at1C.ok Tryz.prog 112:=okw mixed (gokc zFa (gokc zKy (gokc zOn gok0))) 0 (fun _=>[]) (fun _=>[]) [0] Tryz.func112 yRn
theorem yRl (i:AtI) (h:at2C.cnd i):yPo i:=by
 obtain⟨Q,c,ht,hL⟩:i.b.Rep i.L:=h
 unfold yPo gU vG x9 xX vP dI
 refine⟨2,rfl,trivial,fun _ _=>Cv.cnd.mk (fun e=>absurd e (by decide)) fun _=>⟨⟨i.b,i.price⟩,rfl,rfl,rfl,rfl,rfl,rfl,rfl,rfl,rfl,rfl,rfl,c.small,fun _ _=>Cv.cnd.mk (fun e=> ?_) (fun e=> ?_)⟩⟩
 ·have e:kR 2 (i.b.rungs 2) i.price=false:=by simpa using e
  have:=c.at_no (.inr rfl) e
  rw[← hL]at this
  refine⟨(),rfl,rfl,rfl,rfl,rfl,rfl,rfl,rfl,rfl,?_,trivial⟩
  show List.map wG (atL i.L 2 i.price)=[]
  rw[this];rfl
 ·have e:kR 2 (i.b.rungs 2) i.price=true:=by simpa using e
  obtain⟨r,hr,hp,hm,ha⟩:=c.at_yes (.inr rfl) e
  rw[← hL]at ha
  have hlt:=(ySg.1 hr).1
  refine⟨⟨by omega,by rw[ySh];exact Int.ofNat_lt.2 hlt⟩,r.price,r.queue,elA hr (by simp[zC]) rfl,⟨i.b,2,r,xE Q r⟩,rfl,rfl,rfl,rfl,rfl,rfl,rfl,rfl,rfl,rfl,rfl,rfl,c.listOk (.inr rfl) hm,fun _ _=>⟨(),rfl,?_,trivial⟩⟩
  show List.map wG (atL i.L 2 i.price)=_
  rw[ha,BoI.ords,Book.rOrds,Arena.ents];simp only[yUx];rfl
theorem yKh:at2C.ok Tryz.prog 112:=okw mixed (gokc zFa (gokc zIw (gokc zOn gok0))) 0 (fun _=>[]) (fun _=>[]) [0] Tryz.func112 yRl
theorem yQm:atC.ok Tryz.prog 112:=fun j=>match j with
 |⟨b,L,false,p⟩=>yNu ⟨b,L,false,p⟩
 |⟨b,L,true,p⟩=>yKh ⟨b,L,true,p⟩
open Go Cv Go.Proofs
def zNd (p:Int) (l:List zD):Lv:=⟨p,(l.map (·.qty)).sum,l.length⟩
theorem sI:∀{l:List zD} {v:Lv} {vs:List Lv},grp l=v::vs→∃o r,l=o::r∧o.price=v.price
 |[],v,vs,h=>by cases h
 |o::r,v,vs,h=>by
  refine⟨o,r,rfl,?_⟩
  rw[grp]at h
  split at h
  ·cases h;rfl
  ·split at h
   ·rename_i e;cases h;exact e.symm
   ·cases h;rfl
theorem zSz {p:Int}:∀{l:List zD} {m:List zD},l≠[]→(∀o∈l,o.price=p)→(∀o r,m=o::r→o.price≠p)→grp (l++m)=zNd p l::grp m
 |[],m,h,_,_=>absurd rfl h
 |[o],m,_,h,hm=>by
  have e:=h o ySk
  rw[List.singleton_append,grp]
  split
  ·rename_i g;simp[zNd,e,g]
  ·rename_i v vs g
   obtain⟨o',r,e1,e2⟩:=sI g
   have:=hm o' r e1
   rw[ySe (by omega)];simp[zNd,e,g]
 |o::o'::l,m,_,h,hm=>by
  have e:=h o ySk
  have ih:=zSz (l:=o'::l) (m:=m) (by simp) (fun x hx=>h x (ySl _ hx)) hm
  rw[yTt,grp,ih]
  dsimp only
  rw[ySf (show(zNd p (o'::l)).price=o.price from e.symm)]
  simp only[zNd,ySn,yTc,ySx]
  rfl
theorem zTw {f:xN→List zD}:∀{R:List xN},(∀r∈R,f r≠[]∧∀o∈f r,o.price=r.price)→R.Pairwise (fun r r'=>r.price≠r'.price)→grp (R.flatMap f)=R.map fun r=>zNd r.price (f r)
 |[],_,_=>rfl
 |r::R,h,hp=>by
  rw[yWh]at hp
  have ih:=zTw (R:=R) (fun x hx=>h x (ySl _ hx)) hp.2
  rw[yTv,zSz (h r ySk).1 (h r ySk).2,ih,ySn]
  intro o l e
  cases R with
  |nil=>cases e
  |cons r' R'=>
   rw[yTv]at e
   obtain⟨h1,h2⟩:=h r' (ySl _ ySk)
   cases hf:f r' with
   |nil=>exact absurd hf h1
   |cons x y=>
    rw[hf,yTt]at e
    cases e
    rw[h2 o (by rw[hf];exact ySk)]
    exact(hp.1 r' ySk).symm
theorem zPl {b:Book} {Q:List (List Nat)} {s:Int} (hs:s=1∨s=2):(b.flat Q).filter (fun o=>decide (o.side=s))=b.sideL Q s:=by
 have h1:∀s',(b.sideL Q s').filter (fun o=>decide (o.side=s))=if s'=s then b.sideL Q s' else[]:=by
  intro s'
  split
  ·rename_i e
   rw[yWn]
   intro o ho
   rw[(b8 ho).1,e];simp
  ·rename_i e
   rw[yXu]
   intro o ho
   rw[(b8 ho).1];simp[e]
 rw[Book.flat,yWg,h1,h1]
 rcases hs with rfl|rfl
 ·simp
 ·simp
theorem Book.Core.neL {b:Book} {Q:List (List Nat)} (c:b.Core Q (-1)) {s:Int} (hs:s=1∨s=2) {r:xN} (hr:r∈b.rungs s):xE Q r≠[]:=c.ne s hs r hr fun e=>by have:=c.rng _ (uR hs hr);omega
theorem Book.Core.toldL {b:Book} {Q:List (List Nat)} (c:b.Core Q (-1)) {s:Int} (hs:s=1∨s=2) {r:xN} (hr:r∈b.rungs s):b.told r=zNd r.price (b.rOrds Q s r):=by
 have hg:=c.get hs hr
 have hrq:=c.rng _ (uR hs hr)
 have hq:=c.wf.q _ _ hg
 have hql:=c.wf.ql
 rw[Book.told,zSf hrq.1 hq,zNd,Book.rOrds,yUx,ySh]
 rfl
theorem Book.Core.lad {b:Book} {Q:List (List Nat)} (c:b.Core Q (-1)) {s:Int} (hs:s=1∨s=2):wB (b.flat Q) s=(b.rungs s).map b.told:=by
 rw[wB,zPl hs,Book.sideL,zTw]
 ·exact yTq fun r hr=>(c.toldL hs hr).symm
 ·intro r hr
  refine⟨fun e=>c.neL hs hr (List.map_eq_nil_iff.1 e),fun o ho=>(qF ho).2⟩
 ·exact(c.srt s hs).imp fun h=>zMj h
theorem Book.Core.bestL {b:Book} {Q:List (List Nat)} (c:b.Core Q (-1)) {s:Int} (hs:s=1∨s=2):b.best (b.rungs s)=Sx.bestL (b.flat Q) s:=by
 rw[Sx.bestL,c.lad hs]
 cases b.rungs s<;>rfl
theorem Book.Core.cnt {b:Book} {Q:List (List Nat)} (c:b.Core Q (-1)):b.cntOk:=by
 intro q hq
 obtain⟨n,hn⟩:=yUi.1 hq
 have hlt:=(ySg.1 hn).1
 rw[c.wf.ql]at hlt
 obtain⟨l,hl⟩:=z6 hlt
 have:=c.wf.q n l hl
 rw[hn]at this
 cases this
 have:=c.wf.toWf0.short hl
 constructor<;>dsimp only<;>omega
def xI (L:List zD):Top:=(top0.buy (bestL L 1)).sell (bestL L 2)
theorem Book.Rep.top {b:Book} {L:List zD} (h:b.Rep L):b.top=xI L:=by
 obtain⟨Q,c,ht,rfl⟩:=h
 rw[Book.top,xI,← c.bestL (.inl rfl),← c.bestL (.inr rfl)];rfl
theorem Book.Rep.cnt {b:Book} {L:List zD} (h:b.Rep L):b.cntOk:=by
 obtain⟨Q,c,ht,rfl⟩:=h
 exact c.cnt
structure zIh (o:zD):Prop where
 s:o.side=1∨o.side=2
 q:1≤o.qty∧o.qty≤1000000
theorem Book.Rep.ords {b:Book} {L:List zD} (h:b.Rep L):(∀o∈L,zIh o)∧(L.map (·.id)).Nodup∧L.length≤250:=by
 obtain⟨Q,c,ht,rfl⟩:=h
 refine⟨fun o ho=> ?_,c.ids,?_⟩
 ·obtain⟨hs,r,hr,ho,hp⟩:=a9 ho
  refine⟨hs,?_⟩
  obtain⟨k,hk,e⟩:=yTh.1 ho
  obtain⟨_,⟨_,_,h2⟩,_⟩:=c.wf.toWf0.mem (c.get hs hr) hk
  have eq:o.qty=(b.a.slotAt k).qty:=by rw[← e];rfl
  rw[eq]
  exact⟨c.wf.pos _ _ (c.get hs hr) _ hk,h2.q2⟩
 ·have hnd:(((b.rungs 1).flatMap (xE Q)++(b.rungs 2).flatMap (xE Q))).Nodup:=by
   have hm:((b.flat Q).map (·.id))=((b.rungs 1).flatMap (xE Q)++(b.rungs 2).flatMap (xE Q)).map fun k=>(b.a.slotAt k).id:=by
    rw[Book.flat,ySr,ySr,Book.sideL,Book.sideL,rK,rK,rK,rK]
    congr 1
    ·exact xF fun r _=>by rw[Book.rOrds,yUx];rfl
    ·exact xF fun r _=>by rw[Book.rOrds,yUx];rfl
   have:=c.ids
   rw[hm]at this
   exact List.Pairwise.of_map _ (fun a b hab e=>hab (by rw[e])) this
  have hl:(b.flat Q).length=((b.rungs 1).flatMap (xE Q)++(b.rungs 2).flatMap (xE Q)).length:=by
   rw[Book.flat,ySm,ySm,Book.sideL,Book.sideL,yXn,yXn,yXn,yXn]
   congr 1
   ·congr 1;exact yTq fun r _=>by rw[Book.rOrds,ySh]
   ·congr 1;exact yTq fun r _=>by rw[Book.rOrds,ySh]
  rw[hl]
  refine zLi 250 hnd fun k hk=> ?_
  rcases yTi.1 hk with hk|hk
  ·obtain⟨r,hr,hk⟩:=yUg.1 hk
   exact(c.wf.toWf0.mem (c.get (.inl rfl) hr) hk).1
  ·obtain⟨r,hr,hk⟩:=yUg.1 hk
   exact(c.wf.toWf0.mem (c.get (.inr rfl) hr) hk).1
theorem Book.Rep.fit {b:Book} {L:List zD} (h:b.Rep L):b.fit:=by
 obtain⟨Q,c,ht,rfl⟩:=h
 have hs:=c.small
 have h1:=c.ql
 have h2:=c.wf.ql
 have hqb:=c.qb
 rw[Book.qs,ySm,ySm,ySh,ySh]at h1
 refine⟨⟨hs.1.1,fun hf=> ?_,fun q hq=> ?_⟩,by omega,by omega,by omega,by omega⟩
 ·obtain⟨k,_,hk,hk1,hku,_⟩:=c.wf.toWf0.unused hf
  exact⟨_,ySo hk1,hku⟩
 ·obtain⟨n,hn⟩:=yUi.1 hq
  have hlt:=(ySg.1 hn).1
  rw[c.wf.ql]at hlt
  obtain⟨l,hl⟩:=z6 hlt
  have:=c.wf.q n l hl
  rw[hn]at this
  cases this
  dsimp only
  rcases j9 l with e|⟨y,j,e,e2⟩
  ·exact .inl ((mY l).2 e)
  ·rw[e2]
   have:=(c.wf.toWf0.mem hl (k:=j) (by rw[e];simp)).1
   rw[c.wf.len]
   exact .inr ⟨by omega,by omega⟩
def whL:Nat→List (List zD)→List (Int×Int)
 |_,[]=>[]
 |k,L::B=>L.map (fun o=>(o.id,(k:Int)))++whL (k+1) B
theorem whL_mem:∀{B:List (List zD)} {n:Nat} {x:Int×Int},x∈whL n B↔∃(k:Nat) (L:List zD),B[k]? =some L∧x.1∈L.map (·.id)∧x.2=((n+k:Nat):Int)
 |[],n,x=>by simp[whL]
 |L::B,n,x=>by
  rw[whL,yTi,whL_mem (B:=B)]
  constructor
  ·rintro(h|⟨k,L',h1,h2,h3⟩)
   ·obtain⟨o,ho,rfl⟩:=yTh.1 h
    exact⟨0,L,rfl,yTb (f:=(·.id)) ho,rfl⟩
   ·exact⟨k+1,L',h1,h2,by rw[h3];omega⟩
  ·rintro⟨k,L',h1,h2,h3⟩
   cases k with
   |zero=>
    cases h1
    obtain⟨o,ho,e⟩:=yTh.1 h2
    exact .inl (yTh.2 ⟨o,ho,Prod.ext e h3.symm⟩)
   |succ k=>exact .inr ⟨k,L',h1,h2,by rw[h3];omega⟩
theorem zHr:∀{B:List (List zD)} (n k:Nat),k<B.length→∃rest,∀X:List zD,(whL n (B.set k X)).Perm (X.map (fun o=>(o.id,((n+k:Nat):Int)))++rest)
 |[],n,k,h=>absurd h (by simp)
 |L::B,n,0,h=>⟨whL (n+1) B,fun X=> .refl _⟩
 |L::B,n,k+1,h=>by
  obtain⟨rest,hr⟩:=zHr (B:=B) (n+1) k (by simpa using h)
  refine⟨L.map (fun o=>(o.id,(n:Int)))++rest,fun X=> ?_⟩
  rw[yVw,whL]
  refine((hr X).append_left _).trans ?_
  rw[← ySq,← ySq,show n+1+k=n+(k+1)by omega]
  exact yUh.append_right _
structure MSt.Rep (s:MSt) (p:Prd) (B:List (List zD)):Prop where
 ep:s.p=p
 bl:s.books.length=B.length
 bk:∀(k:Nat) (b:Book) (L:List zD),s.books[k]? =some b→B[k]? =some L→b.Rep L
 wh:s.wh.Perm (whL 0 B)
 ids:((whL 0 B).map (·.1)).Nodup
def fJ (B:List (List zD)) (id:Int):Option Nat:=B.findIdx? fun L=>kC L id
theorem xL {B:List (List zD)} {id:Int} {k:Nat} (h:fJ B id=some k):∃L,B[k]? =some L∧kC L id=true:=by
 rw[fJ,yVj]at h
 obtain⟨h1,h2,_⟩:=h
 exact⟨_,yTs h1,h2⟩
theorem zJu {B:List (List zD)} {id:Int} (h:fJ B id=none):∀L∈B,kC L id=false:=by
 rw[fJ,yXa]at h
 exact h
theorem zSn:∀{l:List (Int×Int)},(l.map (·.1)).Nodup→∀{k x:Int},(k,x)∈l→kP l k=some x
 |[],_,k,x,hx=>by cases hx
 |p::l,h,k,x,hx=>by
  rw[ySn,yUb]at h
  rw[kP,yYk]
  rcases ySy.1 hx with ex|hx
  ·subst ex;simp
  ·have:p.1≠k:=by rintro e;exact h.1 (e▸yTb (f:=(·.1)) hx)
   rw[ySp this]
   exact zSn h.2 hx
theorem zPi {l:List (Int×Int)} {k:Int} (h:k∉l.map (·.1)):kP l k=none:=by
 rw[kP,Option.map_eq_none_iff,List.find?_eq_none]
 intro x hx e
 have e:x.1=k:=by simpa using e
 exact h (e▸yTb (f:=(·.1)) hx)
theorem MSt.Rep.keys {s:MSt} {p:Prd} {B:List (List zD)} (h:s.Rep p B):(s.wh.map (·.1)).Nodup:=(h.wh.map (·.1)).nodup_iff.2 h.ids
theorem MSt.Rep.at_ {s:MSt} {p:Prd} {B:List (List zD)} (h:s.Rep p B) (id:Int):kP s.wh id=(fJ B id).map (fun k:Nat=>(k:Int)):=by
 cases hi:fJ B id with
 |none=>
  refine zPi fun hm=> ?_
  rw[(h.wh.map (·.1)).mem_iff]at hm
  obtain⟨x,hx,rfl⟩:=yTh.1 hm
  obtain⟨k,L,h1,h2,_⟩:=whL_mem.1 hx
  have:=zJu hi L (ySo h1)
  rw[hasId_iff.2 h2]at this;cases this
 |some k=>
  obtain⟨L,h1,h2⟩:=xL hi
  refine zSn h.keys (h.wh.mem_iff.2 (whL_mem.2 ⟨k,L,h1,hasId_iff.1 h2,by simp⟩))
theorem zLy {B:List (List zD)} (h:((whL 0 B).map (·.1)).Nodup) {id:Int} {k j:Nat} {L M:List zD} (hk:B[k]? =some L) (hj:B[j]? =some M) (h1:id∈L.map (·.id)) (h2:id∈M.map (·.id)):k=j:=by
 have a:=whL_mem (n:=0) (x:=(id,(k:Int)))|>.2 ⟨k,L,hk,h1,by simp⟩
 have b:=whL_mem (n:=0) (x:=(id,(j:Int)))|>.2 ⟨j,M,hj,h2,by simp⟩
 have:=zBv h a b
 omega
open Go Cv Go.Proofs
def yU (B:List (List zD)) (id q:Int):List (List zD)×Int:=match fJ B id with
 |none=>(B,26)
 |some k=>(B.set k (xR (B.getD k []) id q).1,(xR (B.getD k []) id q).2)
theorem zKi {L:List zD} (h:(L.map (·.id)).Nodup) (id q:Int):((xR L id q).1.map (·.id)=L.map (·.id)∧kC (xR L id q).1 id=kC L id)∨((xR L id q).1=L.filter (fun o=> !decide (o.id=id))∧kC (xR L id q).1 id=false):=by
 rw[xR]
 by_cases h1:kC L id=false
 ·rw[ySf h1];exact .inl ⟨rfl,rfl⟩
 have h1:kC L id=true:=by simpa using h1
 rw[ySe (by rw[h1];decide)]
 by_cases h2:q<1∨(fP L id).qty<q
 ·rw[ySf h2];exact .inl ⟨rfl,rfl⟩
 rw[ySe h2]
 dsimp only
 by_cases h3:(fP L id).qty=q
 ·refine .inr ?_
  have e:yQ L id q=L.filter fun o=> !decide (o.id=id):=by rw[← h3];exact zDw h h1
  refine⟨e,?_⟩
  rw[e,kC,yXj]
  intro o ho
  rw[yTp]at ho
  simpa using ho.2
 ·refine .inl ?_
  have hm:(yQ L id q).map (·.id)=L.map (·.id):=by
   have:yQ L id q=L.map fun o=>if o.id=id then{o with qty:=o.qty-q}else o:=by
    rw[yQ,← List.filterMap_eq_map]
    refine vK fun o ho=> ?_
    simp only[Function.comp]
    by_cases e:o.id=id
    ·have hg:=vY h ho
     rw[e]at hg
     rw[ySf e,ySf e,ySe (fun e2=>h3 (by rw[hg];exact e2))]
    ·rw[ySe e,ySe e]
   rw[this,yUx]
   refine yTq fun o _=> ?_
   simp only[Function.comp]
   split<;>rfl
  refine⟨hm,?_⟩
  rw[Bool.eq_iff_iff,hasId_iff,hasId_iff,hm]
theorem z3t:∀{l:List (Int×Int)} {k:Int},(l.map (·.1)).Nodup→zFl k l=l.filter fun x=> !decide (x.1=k)
 |[],k,_=>rfl
 |(a,b)::l,k,h=>by
  rw[ySn,yUb]at h
  rw[zFl]
  by_cases e:k=a
  ·subst e
   rw[ySf rfl,yVm (by simp)]
   symm
   rw[yWn]
   intro x hx
   have:x.1≠k:=fun e=>h.1 (e▸yTb (f:=(·.1)) hx)
   simp[this]
  ·rw[ySe e,yVl (by simp[Ne.symm e]),z3t h.2]
theorem zXb:∀{l:List (Int×Int)} {k x:Int},k∉l.map (·.1)→g8 k x l=l++[(k,x)]
 |[],k,x,_=>rfl
 |p::l,k,x,h=>by
  rw[ySn,ySy,not_or]at h
  rw[g8,ySe h.1,zXb h.2];rfl
theorem kK {α:Type} {l:List α} {k:Nat} {x:α} (h:l[k]? =some x):l.set k x=l:=by
 apply yXi
 intro i
 rw[yYa]
 split
 ·rename_i e
  subst e
  rw[ySf (ySg.1 h).1,h]
 ·rfl
theorem MSt.Rep.set {s:MSt} {p:Prd} {B:List (List zD)} (h:s.Rep p B) {k:Nat} {L':List zD} {b':Book} (hb:b'.Rep L') (hk:k<B.length) {wh':List (Int×Int)} (hw:wh'.Perm (whL 0 (B.set k L'))) (hi:((whL 0 (B.set k L')).map (·.1)).Nodup):({s with books:=s.books.set k b',wh:=wh'}:MSt).Rep p (B.set k L'):=by
 refine⟨h.ep,by simpa using h.bl,fun j b L h1 h2=> ?_,hw,hi⟩
 by_cases e:k=j
 ·subst e
  have h1:(s.books.set k b')[k]? =some b:=h1
  rw[wW (by rw[h.bl];exact hk)]at h1
  rw[wW hk]at h2
  cases h1;cases h2;exact hb
 ·have h1:(s.books.set k b')[j]? =some b:=h1
  rw[vS e]at h1 h2
  exact h.bk j b L h1 h2
theorem MSt.Rep.take {s:MSt} {p:Prd} {B:List (List zD)} (h:s.Rep p B) {id q:Int} {k:Nat} (hi:fJ B id=some k) {L:List zD} (hL:B[k]? =some L) (hn:(L.map (·.id)).Nodup) {b':Book} (hb:b'.Rep (xR L id q).1):
 ({s with books:=s.books.set k b',wh:=if kC (xR L id q).1 id=true then s.wh else zFl id s.wh}:MSt).Rep p (yU B id q).1:=by
 have hk:=(ySg.1 hL).1
 have ht:(yU B id q).1=B.set k (xR L id q).1:=by simp only[yU,hi,zI hL]
 obtain⟨L2,e1,hh⟩:=xL hi
 rw[hL]at e1;cases e1
 obtain⟨rest,hr⟩:=zHr (B:=B) 0 k hk
 have hL0:=hr L
 rw[kK hL]at hL0
 rw[ht]
 rcases zKi hn id q with⟨e1,e2⟩|⟨e1,e2⟩
 ·have hm:∀X Y:List zD,X.map (·.id)=Y.map (·.id)→X.map (fun o=>(o.id,((0+k:Nat):Int)))=Y.map (fun o=>(o.id,((0+k:Nat):Int))):=by
   intro X Y e
   have:=congrArg (List.map fun i:Int=>(i,((0+k:Nat):Int))) e
   rw[yUx,yUx]at this
   exact this
  have hp:(whL 0 (B.set k (xR L id q).1)).Perm (whL 0 B):=by
   refine(hr _).trans ?_
   rw[hm _ _ e1]
   exact hL0.symm
  rw[e2,hh,ySf rfl]
  exact h.set hb hk (h.wh.trans hp.symm) ((hp.map (·.1)).nodup_iff.2 h.ids)
 ·rw[e2,ySe (by decide)]
  have hrest:∀x∈rest,x.1≠id:=by
   intro x hx e
   have hnd:=(hL0.map (·.1)).nodup_iff.1 h.ids
   rw[ySr,yUx]at hnd
   have h1:id∈L.map ((·.1)∘fun o:zD=>(o.id,((0+k:Nat):Int))):=hasId_iff.1 hh
   exact(yUt.1 hnd).2.2 id h1 x.1 (yTb (f:=(·.1)) hx) e.symm
  have hp:(whL 0 (B.set k (xR L id q).1)).Perm ((whL 0 B).filter fun x=> !decide (x.1=id)):=by
   refine(hr _).trans (.trans ?_ (hL0.filter _).symm)
   rw[e1,yWg,List.filter_map]
   have:rest.filter (fun x=> !decide (x.1=id))=rest:=by
    rw[yWn]
    intro x hx
    simp[hrest x hx]
   rw[this]
   exact .refl _
  refine h.set hb hk ?_ ((hp.map (·.1)).nodup_iff.2 (h.ids.sublist (List.Sublist.map _ yVq)))
  rw[z3t h.keys]
  exact(h.wh.filter _).trans hp.symm
def rF (p:Prd) (B:List (List zD)) (inst id:Int) (s price q:Int):List (List zD)×Int:=
 if inst<0∨B.length≤inst then(B,20)else if(fJ B id).isSome=true then(B,25)else if 250≤(whL 0 B).length then(B,13)else if p.price inst price≠0 then(B,p.price inst price)
 else(B.set inst.toNat (rC (B.getD inst.toNat []) s id price q).1,(rC (B.getD inst.toNat []) s id price q).2)
theorem zDe (L:List zD) (s id p q:Int):((zAk L s id p q).map (·.id)).Perm (id::L.map (·.id)):=by
 have:∀X:List zD,((X.takeWhile (before s p)++⟨id,s,p,q,uT L s p⟩::X.dropWhile (before s p)).map (·.id)).Perm (id::X.map (·.id)):=by
  intro X
  conv=>rhs;rw[← yXd (p:=before s p) (l:=X)]
  rw[ySr,ySn,ySr]
  exact ySv
 rw[zAk]
 split
 ·refine(this _).trans ?_
  rw[z3b]
 ·exact this _
theorem MSt.Rep.add {s:MSt} {p:Prd} {B:List (List zD)} (h:s.Rep p B) (inst id:Int) (sd:Bool) (price q:Int):
 (MSt.addF ⟨s,inst,id,sd,price,q⟩).1.Rep p (rF p B inst id (zB sd) price q).1∧(MSt.addF ⟨s,inst,id,sd,price,q⟩).2=(rF p B inst id (zB sd) price q).2:=by
 have hsd:zB sd=1∨zB sd=2:=by cases sd;exact .inl rfl;exact .inr rfl
 rw[MSt.addF,rF]
 dsimp only
 rw[h.bl,h.at_,h.wh.length_eq,show s.p.price inst price=p.price inst price by rw[h.ep],Option.isSome_map]
 by_cases c1:inst<0∨(B.length:Int)≤inst
 ·rw[ySf c1,ySf c1];exact⟨h,rfl⟩
 rw[ySe c1,ySe c1]
 by_cases c2:(fJ B id).isSome=true
 ·rw[ySf c2,ySf c2];exact⟨h,rfl⟩
 rw[ySe c2,ySe c2]
 by_cases c3:250≤(whL 0 B).length
 ·rw[ySf c3,ySf c3];exact⟨h,rfl⟩
 rw[ySe c3,ySe c3]
 by_cases c4:p.price inst price≠0
 ·rw[ySf c4,ySf c4];exact⟨h,rfl⟩
 rw[ySe c4,ySe c4]
 obtain⟨k,hk⟩:∃k:Nat,inst=k:=⟨inst.toNat,by omega⟩
 subst hk
 rw[ySt]
 have hkl:k<B.length:=by omega
 obtain⟨b,hb⟩:=z6 (l:=s.books) (i:=k) (by rw[h.bl];exact hkl)
 obtain⟨L,hL⟩:=z6 (l:=B) (i:=k) hkl
 have hba:s.bookAt k=b:=by rw[MSt.bookAt,ySt];exact zI hb
 rw[hba,zI hL]
 obtain⟨r1,r2⟩:=(h.bk k b L hb hL).add hsd id price q
 refine⟨?_,r2⟩
 rw[r2]
 obtain⟨rest,hr⟩:=zHr (B:=B) 0 k hkl
 have hL0:=hr L
 rw[kK hL]at hL0
 have hcase:(rC L (zB sd) id price q).2≠0∧(rC L (zB sd) id price q).1=L∨(rC L (zB sd) id price q).2=0∧(rC L (zB sd) id price q).1=zAk L (zB sd) id price q:=by
  rw[rC]
  repeat' split
  ·exact .inl ⟨by simp,rfl⟩
  ·exact .inl ⟨by simp,rfl⟩
  ·exact .inl ⟨by simp,rfl⟩
  ·exact .inr ⟨rfl,rfl⟩
 rcases hcase with⟨e1,e2⟩|⟨e1,e2⟩
 ·rw[ySe e1]
  refine h.set r1 hkl ?_ ?_
  ·rw[e2,kK hL];exact h.wh
  ·rw[e2,kK hL];exact h.ids
 ·rw[ySf e1]
  have hnk:id∉s.wh.map (·.1):=by
   intro hm
   obtain⟨x,hx,rfl⟩:=yTh.1 hm
   have:=zSn h.keys hx
   rw[h.at_]at this
   cases hq:fJ B x.1 with
   |none=>rw[hq]at this;cases this
   |some j=>rw[hq]at c2;exact c2 rfl
  have hp:(whL 0 (B.set k (rC L (zB sd) id price q).1)).Perm ((id,(k:Int))::whL 0 B):=by
   refine(hr _).trans (.trans ?_ (hL0.symm.cons _))
   rw[e2,← yTt]
   refine List.Perm.append_right _ ?_
   have:=(zDe L (zB sd) id price q).map fun i:Int=>(i,(k:Int))
   rw[yUx,ySn,yUx]at this
   rw[yTl]
   exact this
  refine h.set r1 hkl ?_ ((hp.map (·.1)).nodup_iff.2 (yUb.2 ⟨?_,h.ids⟩))
  ·rw[zXb hnk]
   exact(yWs _ _).trans ((h.wh.cons _).trans hp.symm)
  ·rw[← (h.wh.map (·.1)).mem_iff];exact hnk
theorem zSr:∀(n k:Nat),whL k (List.replicate n [])=[]
 |0,_=>rfl
 |n+1,k=>by rw[yWm,whL,zSr];rfl
theorem z0f (p:Prd):(h8 p).Rep p (List.replicate p.count []):=by
 refine⟨rfl,by simp[h8],fun k b L h1 h2=> ?_,?_,?_⟩
 ·have e1:b=book0:=yVt (ySo (show(List.replicate p.count book0)[k]? =some b from h1))
  have e2:L=[]:=yVt (ySo h2)
  rw[e1,e2];exact z5l
 ·rw[zSr];exact .refl _
 ·rw[zSr];exact List.nodup_nil
open Go Cv Go.Proofs
@[reducible] def z7z (s:MSt):List AObj:=[xS s 0,xS s 1,xS s 2,xS s 3,xS s 4]
def topsOC:Con:=con1 MSt (fun _=>[.nm 0 0]) (fun s=>z7z s) MSt.cntOk (fun s=> .own 5) (fun s=>z7z s++[.own 55 6 (s.tops.map zU)])
structure StI where
 s:MSt
 p:Prd
 B:List (List zD)
 id:Int
 q:Int
def stakeC:Con where
 ι:=StI
 pat:=fun i=>[.nm 0 0,zA i.id,zA i.q]
 pre:=fun i=>[zE i.s]
 cnd:=fun i=>i.s.Rep i.p i.B∧i.B.length≤1000
 alts:=fun i=>[{o:=MSt,res:=fun _=>zA (yU i.B i.id i.q).2,post:=fun s=>[zE s],rel:=fun s=>s.Rep i.p (yU i.B i.id i.q).1}]
def zT (B:List (List zD)) (id:Int):Int×zD×Bool:=match fJ B id with
 |none=>(0,yMt,false)
 |some k=>(k,fP (B.getD k []) id,true)
def sfindC:Con:=con1 StI (fun i=>[.nm 0 0,zA i.id]) (fun i=>[zE i.s]) (fun i=>i.s.Rep i.p i.B∧i.B.length≤1000) (fun i=> .tup [zA (zT i.B i.id).1,z6w (zT i.B i.id).2.1,yR (zT i.B i.id).2.2]) (fun i=>[zE i.s])
open Go Cv Go.Proofs
def nC (a:Nat×Top→Prop) (b:Nat×Top) (c:MSt) (d:Nat) (e:Book):Prop:=a b∧AObj.own 3 1 [[dI 1],[dI 2]]=AObj.own 3 1 [[dI 1],[dI 2]]∧xS c 0=xS c 0∧AObj.objs 102 Book 6 zR (c.books.set (↑d:Int).toNat e) none=xS c 1∧xS c 2=xS c 2∧xS c 3=xS c 3∧xS c 4=xS c 4
def lU (a:MSt) (b:Nat×Top) (c:Nat×Top→Prop) (d:Nat) (e:Book):Prop:=∃(f:Nat×Top),List.map zU (xZ a f.fst f.snd)=List.map zU (xZ a b.fst b.snd)∧nC c f a d e
def z9k (s:MSt):Prop:=
 (tN s)∧∃(a:Nat),(↑a:Int)=0∧List.map zU (x4 s a)=List.replicate (↑s.books.length:Int).toNat [D.v (.bool false),D.v (.bool false),dI 0,dI 0,dI 0,dI 0]∧∃(b:Nat→Prop),∃(c:Nat→Nat),b a∧∀(d:Nat),b d→cnd (decide ((↑d:Int)<(↑s.books.length:Int))) ((0≤(↑d:Int)∧(↑d:Int)<(↑s.books.length:Int))∧(↑d:Int).toNat<s.books.length∧∃(e:Nat×Top),List.map zU (xZ s e.fst e.snd)=List.map zU (x4 s d)∧∃(f:Nat×Top→Prop),(((0:Int)≤(0:Int)∧0<(↑(2:Nat):Int))∧∃(g:Int),zF [[dI 1],[dI 2]] (Int.toNat 0) 0 1=some [dI g]∧∃(h:Book),s.books[(↑d:Int).toNat]?=some h∧∃(j:BkS),zB j.side=g∧yC j.b=yC h∧(wR j)∧∀(k:Unit),True→∃(l:Book),yC j.b=yC l∧(↑d:Int).toNat=(↑d:Int).toNat∧(↑d:Int).toNat<s.books.length∧cnd (zW j).snd ((qT d s e)∧(qT d s e)∧(qT d s e)∧(↑d:Int).toNat<(uO s e).length∧(cW d s e)∧(cW d s e)∧(zW j).fst.qty=(zW j).fst.qty∧(zW j).fst.price=(zW j).fst.price∧(↑d:Int).toNat<(bE s e d).length∧(tP d s e j)∧(zW j).fst.qty=(zW j).fst.qty∧(↑d:Int).toNat<(dE s e d j).length∧∃(m:Nat×Top),List.map zU (xZ s m.fst m.snd)=z9 (dE s e d j) (↑d:Int).toNat ((0:Nat)+(4:Nat)+nat_lit 0*1) [dI (uA j)]∧nC f m s d l) (lU s e f d l))∧∀(g:Nat×Top),f g→∃(h:Nat×Top),List.map zU (xZ s h.fst h.snd)=List.map zU (xZ s g.fst g.snd)∧∃(j:Nat×Top→Prop),((0≤IntKind.i64.wrap ((0:Int)+(1:Int))∧IntKind.i64.wrap ((0:Int)+(1:Int))<(↑(2:Nat):Int))∧∃(k:Int),zF [[dI 1],[dI 2]] (IntKind.i64.wrap ((0:Int)+(1:Int))).toNat 0 1=some [dI k]∧∃(l:Book),s.books[(↑d:Int).toNat]?=some l∧∃(m:BkS),zB m.side=k∧yC m.b=yC l∧(wR m)∧∀(n:Unit),True→∃(p:Book),yC m.b=yC p∧(↑d:Int).toNat=(↑d:Int).toNat∧(↑d:Int).toNat<s.books.length∧cnd (zW m).snd ((qT d s h)∧(qT d s h)∧(qT d s h)∧(↑d:Int).toNat<(uO s h).length∧(cV d s h)∧(cV d s h)∧(zW m).fst.qty=(zW m).fst.qty∧(zW m).fst.price=(zW m).fst.price∧(↑d:Int).toNat<(c9 s h d).length∧(tT d s h m)∧(zW m).fst.qty=(zW m).fst.qty∧(↑d:Int).toNat<(dB s h d m).length∧∃(q:Nat×Top),List.map zU (xZ s q.fst q.snd)=z9 (dB s h d m) (↑d:Int).toNat ((0:Nat)+(4:Nat)+(nat_lit 0+nat_lit 1) % ((2:Int) ^ IntKind.i64.bits).natAbs*1) [dI (uA m)]∧nC j q s d p) (lU s h j d p))∧∀(k:Nat×Top),j k→∃(l:Nat),(↑l:Int)=IntKind.i64.wrap ((↑d:Int)+1)∧List.map zU (x4 s l)=List.map zU (xZ s k.fst k.snd)∧b l∧c l<c d∧xS s 0=xS s 0∧xS s 1=xS s 1∧xS s 2=xS s 2∧xS s 3=xS s 3∧xS s 4=xS s 4) (∃(e:Unit),sb s.p.code=sb s.p.code∧s.p.tick=s.p.tick∧s.p.low=s.p.low∧s.p.high=s.p.high∧s.p.wide=s.p.wide∧s.p.rule=s.p.rule∧s.p.top=s.p.top∧s.p.least=s.p.least∧s.p.part=s.p.part∧AObj.objs 102 Book 6 zR s.books none=xS s 1∧zY s.wh=zY s.wh∧AObj.fro 1 (iE s.p.months)=xS s 3∧AObj.fro 1 (iE s.p.settle)=xS s 4∧List.map zU s.tops=List.map zU (x4 s d)∧True)
def l8 (a:MSt) (b:StI):Prop:=AObj.fro 1 (iE a.p.months)=AObj.fro 1 (iE b.s.p.months)∧AObj.fro 1 (iE a.p.settle)=AObj.fro 1 (iE b.s.p.settle)∧a.Rep b.p (yU b.B b.id b.q).fst
def zAj (a:MSt) (b:StI):Prop:=zY a.wh=zY b.s.wh∧l8 a b
def nT (a:StI) (b:Int) (c:Bool):Prop:=wI (Value.int IntKind.i64 a.id) (zY a.s.wh)=some [dI b]∧c=true∨wI (Value.int IntKind.i64 a.id) (zY a.s.wh)=none∧[dI b]=[dI 0]∧c=false
def bS (a:StI):Prop:=∀(b:Value×List D),b∈zY a.s.wh→like (Value.int IntKind.i64 a.id) b.fst=true
def yBm (i:StI):Prop:=
 (bS i)∧∃(a:Bool),∃(b:Int),(nT i b a)∧cnd (!a) (∃(c:MSt),(yU i.B i.id i.q).snd=26∧sb c.p.code=sb i.s.p.code∧c.p.tick=i.s.p.tick∧c.p.low=i.s.p.low∧c.p.high=i.s.p.high∧c.p.wide=i.s.p.wide∧c.p.rule=i.s.p.rule∧c.p.top=i.s.p.top∧c.p.least=i.s.p.least∧c.p.part=i.s.p.part∧AObj.objs 102 Book 6 zR c.books none=AObj.objs 102 Book 6 zR i.s.books none∧zAj c i) ((0≤b∧b<(↑i.s.books.length:Int))∧b.toNat<i.s.books.length∧∃(c:Book),i.s.books[b.toNat]?=some c∧∃(d:FlI),d.id=i.id∧d.qty=i.q∧yC d.b=yC c∧d.b.Rep d.L∧∀(e:Book),e.Rep (xR d.L d.id d.qty).fst→∃(f:Book),yC e=yC f∧b.toNat=b.toNat∧b.toNat<i.s.books.length∧(0≤b∧b<(↑(i.s.books.set b.toNat f).length:Int))∧b.toNat<(i.s.books.set b.toNat f).length∧∃(g:Book),(i.s.books.set b.toNat f)[b.toNat]?=some g∧∃(h:FlI),h.id=i.id∧yC h.b=yC g∧h.b.Rep h.L∧∀(j:Unit),True→∃(k:Book),yC h.b=yC k∧b.toNat=b.toNat∧b.toNat<(i.s.books.set b.toNat f).length∧cnd (!kC h.L h.id) ((bS i)∧∃(l:MSt),(yU i.B i.id i.q).snd=(xR d.L d.id d.qty).snd∧sb l.p.code=sb i.s.p.code∧l.p.tick=i.s.p.tick∧l.p.low=i.s.p.low∧l.p.high=i.s.p.high∧l.p.wide=i.s.p.wide∧l.p.rule=i.s.p.rule∧l.p.top=i.s.p.top∧l.p.least=i.s.p.least∧l.p.part=i.s.p.part∧AObj.objs 102 Book 6 zR l.books none=AObj.objs 102 Book 6 zR ((i.s.books.set b.toNat f).set b.toNat k) none∧zY l.wh=aX (Value.int IntKind.i64 i.id) (zY i.s.wh)∧l8 l i) (∃(l:MSt),(yU i.B i.id i.q).snd=(xR d.L d.id d.qty).snd∧sb l.p.code=sb i.s.p.code∧l.p.tick=i.s.p.tick∧l.p.low=i.s.p.low∧l.p.high=i.s.p.high∧l.p.wide=i.s.p.wide∧l.p.rule=i.s.p.rule∧l.p.top=i.s.p.top∧l.p.least=i.s.p.least∧l.p.part=i.s.p.part∧AObj.objs 102 Book 6 zR l.books none=AObj.objs 102 Book 6 zR ((i.s.books.set b.toNat f).set b.toNat k) none∧zAj l i))
open Go Cv Go.Proofs
theorem yJl (s:MSt) (h:topsOC.cnd s):z9k s:=by
 obtain⟨h1,h2⟩:s.cntOk:=h
 unfold z9k uA qT wR qO tN cW cV tP dE bE tT dB dH zW c9 uO lU nC dI
 have p48:(2:Int) ^ (48:Nat)=281474976710656:=by decide
 refine⟨⟨by omega,by omega,by omega,by rw[p48];omega⟩,0,rfl,?_,fun j=>j≤s.books.length,fun j=>s.books.length-j,by omega,fun j hj=>zK (fun hlt=> ?_) (fun hlt=> ?_)⟩
 ·rw[x4,ySr,yXw];rfl
 ·have hj':j<s.books.length:=by omega
  obtain⟨b,hb⟩:=z6 hj'
  have hc:=h2 b (ySo hb)
  simp only[ySt]
  have ha:∀x,(List.map zU (xZ s j x)).length=s.books.length:=fun x=>by rw[ySh,zLw hj']
  have w1:IntKind.i64.wrap (0+1)=1:=by decide
  have w2:(0+1) % ((2:Int) ^ IntKind.i64.bits).natAbs=1:=by decide
  refine⟨⟨by omega,by omega⟩,by omega,(j,top0),by rw[zGn hj'],fun x=>x=(j,top0.buy (b.best b.buys)),⟨⟨by decide,by decide⟩,1,rfl,b,hb,⟨false,b⟩,rfl,rfl,hc,fun _ _=>⟨b,rfl,kp,by omega,?_⟩⟩,?_⟩
  ·refine Cv.cnd.mk (fun c=> ?_) (fun c=> ?_)
   ·have c:(b.best b.buys).2=true:=c
    have e1:=qW (s:=s) hj' (x:=top0) (y:={top0 with has1:=true}) (f:=0+0+0*1) (ds:=[D.v (.bool true)]) rfl
    have e2:=qW (s:=s) hj' (x:={top0 with has1:=true}) (y:={top0 with has1:=true,p1:=(b.best b.buys).1.price}) (f:=0+2+0*1) (ds:=[D.v (.int .i64 (b.best b.buys).1.price)]) rfl
    have e3:=qW (s:=s) hj' (x:={top0 with has1:=true,p1:=(b.best b.buys).1.price}) (y:={top0 with has1:=true,p1:=(b.best b.buys).1.price,q1:=(b.best b.buys).1.qty}) (f:=0+4+0*1) (ds:=[D.v (.int .i64 (b.best b.buys).1.qty)]) rfl
    dsimp only
    simp only[show b.side false=b.buys from rfl,e1,e2,e3,ha]
    (repeat'(first|exact rfl|exact trivial|assumption|apply And.intro|refine fun(_:Unit) (_:True)=>?_|refine Exists.intro () ?_|omega|(dsimp only;omega)))
    refine⟨(j,{top0 with has1:=true,p1:=(b.best b.buys).1.price,q1:=(b.best b.buys).1.qty}),rfl,?_,?_⟩
    ·rw[Top.buy,ySf c]
    ·(repeat'(first|exact rfl|exact trivial|assumption|apply And.intro|refine fun(_:Unit) (_:True)=>?_|refine Exists.intro () ?_|omega|(dsimp only;omega)))
     rw[fG hb];rfl
   ·have c:(b.best b.buys).2=false:=c
    refine⟨(j,top0),rfl,?_,?_⟩
    ·rw[Top.buy,ySe (by rw[c];simp)]
    ·(repeat'(first|exact rfl|exact trivial|assumption|apply And.intro|refine fun(_:Unit) (_:True)=>?_|refine Exists.intro () ?_|omega|(dsimp only;omega)))
     rw[fG hb];rfl
  ·rintro _ rfl
   rw[w1]
   generalize hx:top0.buy (b.best b.buys)=x
   have hx2:b.top=x.sell (b.best b.sells):=by rw[Book.top,hx]
   refine⟨(j,x),rfl,fun y=>y=(j,b.top),⟨⟨by decide,by decide⟩,2,rfl,b,hb,⟨true,b⟩,rfl,rfl,hc,fun _ _=>⟨b,rfl,kp,by omega,?_⟩⟩,?_⟩
   ·refine Cv.cnd.mk (fun c=> ?_) (fun c=> ?_)
    ·have c:(b.best b.sells).2=true:=c
     have e1:=qW (s:=s) hj' (x:=x) (y:={x with has2:=true}) (f:=0+0+1*1) (ds:=[D.v (.bool true)]) rfl
     have e2:=qW (s:=s) hj' (x:={x with has2:=true}) (y:={x with has2:=true,p2:=(b.best b.sells).1.price}) (f:=0+2+1*1) (ds:=[D.v (.int .i64 (b.best b.sells).1.price)]) rfl
     have e3:=qW (s:=s) hj' (x:={x with has2:=true,p2:=(b.best b.sells).1.price}) (y:={x with has2:=true,p2:=(b.best b.sells).1.price,q2:=(b.best b.sells).1.qty}) (f:=0+4+1*1) (ds:=[D.v (.int .i64 (b.best b.sells).1.qty)]) rfl
     dsimp only
     simp only[w2,show b.side true=b.sells from rfl,e1,e2,e3,ha]
     (repeat'(first|exact rfl|exact trivial|assumption|apply And.intro|refine fun(_:Unit) (_:True)=>?_|refine Exists.intro () ?_|omega|(dsimp only;omega)))
     refine⟨(j,{x with has2:=true,p2:=(b.best b.sells).1.price,q2:=(b.best b.sells).1.qty}),rfl,?_,?_⟩
     ·rw[hx2,Top.sell,ySf c]
     ·(repeat'(first|exact rfl|exact trivial|assumption|apply And.intro|refine fun(_:Unit) (_:True)=>?_|refine Exists.intro () ?_|omega|(dsimp only;omega)))
      rw[fG hb];rfl
    ·have c:(b.best b.sells).2=false:=c
     refine⟨(j,x),rfl,?_,?_⟩
     ·rw[hx2,Top.sell,ySe (by rw[c];simp)]
     ·(repeat'(first|exact rfl|exact trivial|assumption|apply And.intro|refine fun(_:Unit) (_:True)=>?_|refine Exists.intro () ?_|omega|(dsimp only;omega)))
      rw[fG hb];rfl
   ·rintro _ rfl
    refine⟨j+1,by rw[w64 (by omega)];rfl,?_⟩
    refine⟨by dsimp only;rw[zHb hb],?_⟩
    exact kp
 ·have hj:j≤s.books.length:=hj
  obtain rfl:j=s.books.length:=by omega
  have e:x4 s s.books.length=s.tops:=by
   rw[x4,yXv,List.replicate_zero,yTg,ySz (by rw[MSt.tops,ySh];omega)]
  rw[e]
  exact kp
theorem zUp:topsOC.ok Tryz.prog 23:=okw mixed (gokc zHx gok0) 0 (fun s=>yIx s) (fun s=>yIy s) [] Tryz.func23 yJl
theorem yMw (i:StI) (h:stakeC.cnd i):yBm i:=by
 obtain⟨hR,hB⟩:i.s.Rep i.p i.B∧i.B.length≤1000:=h
 have hat:=hR.at_ i.id
 unfold yBm bS nT zAj l8 dI
 cases hi:fJ i.B i.id with
 |none=>
  rw[hi]at hat
  refine⟨kJ _ _,false,0,.inr ⟨by rw[m7,hat];rfl,rfl,rfl⟩,Cv.cnd.mk (fun _=>⟨i.s,?_⟩) (fun e=>absurd e (by decide))⟩
  have ht:yU i.B i.id i.q=(i.B,26):=by rw[yU,hi]
  rw[ht]
  exact⟨rfl,rfl,rfl,rfl,rfl,rfl,rfl,rfl,rfl,rfl,rfl,rfl,rfl,rfl,hR⟩
 |some k=>
  rw[hi]at hat
  obtain⟨L,hL,hh⟩:=xL hi
  have hk:=(ySg.1 hL).1
  obtain⟨b,hb⟩:=z6 (l:=i.s.books) (i:=k) (by rw[hR.bl];exact hk)
  have hbR:=hR.bk k b L hb hL
  have hbl:=hR.bl
  have hnd:=hbR.ords.2.1
  refine⟨kJ _ _,true,k,.inl ⟨by rw[m7,hat];rfl,rfl⟩,Cv.cnd.mk (fun e=>absurd e (by decide)) (fun _=> ?_)⟩
  rw[ySt]
  refine⟨⟨by omega,by omega⟩,by omega,b,hb,⟨b,L,i.id,i.q⟩,rfl,rfl,rfl,hbR,fun b' hb'=> ?_⟩
  have hT:=hR.take (q:=i.q) hi hL hnd hb'
  have hk2:(yU i.B i.id i.q).2=(xR L i.id i.q).2:=by simp only[yU,hi,zI hL]
  refine⟨b',rfl,rfl,by omega,by rw[yTa];omega,by rw[yTa];omega,b',wW (by omega),⟨b',(xR L i.id i.q).1,i.id,0⟩,rfl,rfl,hb',fun _ _=>⟨b',rfl,rfl,by rw[yTa];omega,Cv.cnd.mk (fun e=>⟨kJ _ _,?_⟩) (fun e=> ?_)⟩⟩
  ·have e:kC (xR L i.id i.q).1 i.id=false:=by simpa using e
   rw[e,ySe (by decide)]at hT
   refine⟨{i.s with books:=i.s.books.set k b',wh:=zFl i.id i.s.wh},hk2,rfl,rfl,rfl,rfl,rfl,rfl,rfl,rfl,rfl,?_,(zMx _ _).symm,rfl,rfl,hT⟩
   rw[yWp]
  ·have e:kC (xR L i.id i.q).1 i.id=true:=by simpa using e
   rw[e,ySf rfl]at hT
   refine⟨{i.s with books:=i.s.books.set k b',wh:=i.s.wh},hk2,rfl,rfl,rfl,rfl,rfl,rfl,rfl,rfl,rfl,?_,rfl,rfl,rfl,hT⟩
   rw[yWp]
theorem zCe:stakeC.ok Tryz.prog 76:=okw mixed (gokc yDx (gokc zXd gok0)) 0 (fun _=>[]) (fun _=>[]) [0] Tryz.func76 yMw
open Go Cv Go.Proofs
structure BOk (p:Prd) (B:List (List zD)):Prop where
 pc:p.check=0
 ps:p.small
 bl:B.length=p.count
 pr:∀(k:Nat) (L:List zD),B[k]? =some L→∀o∈L,p.price k o.price=0
def motherC:Con:=con1 Bool (fun b=>[zA (zB b)]) (fun _=>[]) (fun _=>True) (fun b=>zA (zB (!b))) (fun _=>[])
def jA (s:Bool) (p x:Int):Bool:=if s then decide (p≤x)else decide (x≤p)
structure GoI where
 s:Bool
 p:Int
 x:Int
def mgoodC:Con:=con1 GoI (fun i=>[zA (zB i.s),zA i.p,zA i.x]) (fun _=>[]) (fun _=>True) (fun i=>yR (jA i.s i.p i.x)) (fun _=>[])
def zV (p:Prd) (B:List (List zD)) (inst:Int) (s:Int):Quote×Bool×Bool:=
 let bq:=yD (yL ⟨p,B.map xI,inst⟩ s) s
 let l:=bestL (B.getD inst.toNat []) s
 if(l.2 && !(bq.2 && btr s bq.1.price l.1.price))=true then(⟨l.1.price,l.1.qty,⟨0,0⟩,⟨0,0⟩⟩,false,true)else(bq.1,bq.2,bq.2)
structure NxI where
 s:MSt
 p:Prd
 B:List (List zD)
 inst:Int
 sd:Bool
def nextC:Con:=con1 NxI (fun i=>[.nm 0 0,zA i.inst,zA (zB i.sd)]) (fun i=>[zE i.s]) (fun i=>i.s.Rep i.p i.B∧BOk i.p i.B∧0≤i.inst∧i.inst<i.B.length)
 (fun i=> .tup [zXv (zV i.p i.B i.inst (zB i.sd)).1,yR (zV i.p i.B i.inst (zB i.sd)).2.1,yR (zV i.p i.B i.inst (zB i.sd)).2.2]) (fun i=>[zE i.s])
structure vA where
 id:Int
 inst:Int
 side:Int
 price:Int
 qty:Int
 left:Int
 deriving DecidableEq
def yV (f:vA):List D:=[.v (.int .i64 f.id),.v (.int .i64 f.inst),.v (.int .i64 f.side),.v (.int .i64 f.price),.v (.int .i64 f.qty),.v (.int .i64 f.left)]
def yK (inst s:Int):List zD→List Int→List vA
 |o::os,k::ks=>if 0<k then⟨o.id,inst,s,o.price,k,o.qty-k⟩::yK inst s os ks else yK inst s os ks
 |_,_=>[]
def yZ (B:List (List zD)) (fs:List vA):List (List zD):=fs.foldl (fun B f=>(yU B f.id f.qty).1) B
def zFj (B:List (List zD)) (inst s:Int):List zD:=atL (B.getD inst.toNat []) s (bestL (B.getD inst.toNat []) s).1.price
def y4 (p:Prd) (B:List (List zD)) (inst s q:Int):List vA:=yK inst s (zFj B inst s) (qI ⟨p,zFj B inst s,q⟩)
structure TrI where
 s:MSt
 p:Prd
 B:List (List zD)
 inst:Int
 sd:Bool
 q:Int
def TrI.os (i:TrI):List zD:=zFj i.B i.inst (zB i.sd)
def TrI.sh (i:TrI):List Int:=qI ⟨i.p,i.os,i.q⟩
def TrI.fs (i:TrI) (j:Nat):List vA:=yK i.inst (zB i.sd) (i.os.take j) (i.sh.take j)
def tradeC:Con where
 ι:=TrI
 pat:=fun i=>[.nm 0 0,.agg [zA i.inst,zA (zB i.sd)],zA i.q]
 pre:=fun i=>[zE i.s]
 cnd:=fun i=>i.s.Rep i.p i.B∧BOk i.p i.B∧0≤i.inst∧i.inst<i.B.length∧yY i.q
 alts:=fun i=>[{o:=MSt,res:=fun _=> .own 1,post:=fun s=>[zE s,.own 181 6 ((y4 i.p i.B i.inst (zB i.sd) i.q).map yV)],rel:=fun s=>s.Rep i.p (yZ i.B (y4 i.p i.B i.inst (zB i.sd) i.q))}]
def yLp (i:TrI):List SAnn:=[{ι:=Nat×MSt,slots:=fun j=>[(0,.nm 0 0),(11,.own 1),(44,zA j.1)],rows:=fun j=>[zE j.2,.own 181 6 ((i.fs j.1).map yV)]}]
open Go Cv Go.Proofs
def z2b (b:Bool):Prop:=
 ∃(a:Unit),(zB !b)=IntKind.i64.wrap (3-zB b)∧True
def yCq (i:GoI):Prop:=
 cnd (zB i.s==1) (cnd (decide (i.x≤i.p)) (∃(a:Unit),jA i.s i.p i.x=true∧True) (cnd (zB i.s==2) (∃(a:Unit),jA i.s i.p i.x=decide (i.x≥i.p)∧True) (∃(a:Unit),jA i.s i.p i.x=false∧True))) (cnd (zB i.s==2) (∃(a:Unit),jA i.s i.p i.x=decide (i.x≥i.p)∧True) (∃(a:Unit),jA i.s i.p i.x=false∧True))
def zFo (a:MSt) (b:NxI):Prop:=sb a.p.code=sb b.s.p.code∧True∧a.p.tick=b.s.p.tick∧a.p.low=b.s.p.low∧a.p.high=b.s.p.high∧a.p.wide=b.s.p.wide∧a.p.rule=b.s.p.rule∧a.p.top=b.s.p.top∧a.p.least=b.s.p.least∧a.p.part=b.s.p.part∧True∧True
def zEh (a:NxI) (b:MSt) (c:Book):Prop:=sb a.s.p.code=sb b.p.code∧a.s.p.tick=b.p.tick∧a.s.p.low=b.p.low∧a.s.p.high=b.p.high∧a.s.p.wide=b.p.wide∧a.s.p.rule=b.p.rule∧a.s.p.top=b.p.top∧a.s.p.least=b.p.least∧a.s.p.part=b.p.part∧AObj.objs 102 Book 6 zR a.s.books none=AObj.objs 102 Book 6 zR (b.books.set a.inst.toNat c) none∧zY a.s.wh=zY b.wh∧AObj.fro 1 (iE a.s.p.months)=AObj.fro 1 (iE b.p.months)∧AObj.fro 1 (iE a.s.p.settle)=AObj.fro 1 (iE b.p.settle)∧True
def zZ (a:NxI):=(zV a.p a.B a.inst (zB a.sd))
def zJk (a:NxI) (b:BsI) (c:MSt) (d:Book):Prop:=∃(e:Unit),(zZ a).fst.price=(yD b.l b.s).fst.price∧(zZ a).fst.qty=(yD b.l b.s).fst.qty∧(zZ a).fst.a.inst=(yD b.l b.s).fst.a.inst∧(zZ a).fst.a.side=(yD b.l b.s).fst.a.side∧(zZ a).fst.b.inst=(yD b.l b.s).fst.b.inst∧(zZ a).fst.b.side=(yD b.l b.s).fst.b.side∧(zZ a).snd.fst=(yD b.l b.s).snd∧(zZ a).snd.snd=(yD b.l b.s).snd∧zEh a c d
def zJr (a:NxI) (b:BkS) (c:MSt) (d:Book):Prop:=∃(e:Unit),(zZ a).fst.price=(zW b).fst.price∧(zZ a).fst.qty=(zW b).fst.qty∧(zZ a).fst.a.inst=0∧(zZ a).fst.a.side=0∧(zZ a).fst.b.inst=0∧(zZ a).fst.b.side=0∧(zZ a).snd.fst=false∧(zZ a).snd.snd=true∧zEh a c d
def zIc (a:rM) (b:NxI) (c:MSt):Prop:=∃(d:BsI),List.map zJ d.l=List.map zJ (yL a.i (zB a.s))∧d.s=zB b.sd∧((d.s=1∨d.s=2)∧d.l.length≤1000000)∧∀(e:Unit),True→(0≤b.inst∧b.inst<(↑c.books.length:Int))∧b.inst.toNat<c.books.length∧∃(f:Book),c.books[b.inst.toNat]?=some f∧∃(g:BkS),zB g.side=zB b.sd∧yC g.b=yC f∧(wR g)∧∀(h:Unit),True→∃(j:Book),yC g.b=yC j∧b.inst.toNat=b.inst.toNat∧b.inst.toNat<c.books.length∧cnd (zW g).snd (cnd (yD d.l d.s).snd (∃(k:I3'),k.side=zB b.sd∧k.x=(yD d.l d.s).fst.price∧k.y=(zW g).fst.price∧True∧∀(l:Unit),True→cnd (!btr k.side k.x k.y) (zJr b g c j) (zJk b d c j)) (zJr b g c j)) (zJk b d c j)
def zRr (a:MSt) (b:NxI):Prop:=(zFo a b)∧∃(c:rM),sb c.i.p.code=sb b.s.p.code∧iE c.i.p.months=iE a.p.months∧c.i.p.tick=b.s.p.tick∧c.i.p.low=b.s.p.low∧c.i.p.high=b.s.p.high∧c.i.p.wide=b.s.p.wide∧c.i.p.rule=b.s.p.rule∧c.i.p.top=b.s.p.top∧c.i.p.least=b.s.p.least∧c.i.p.part=b.s.p.part∧iE c.i.p.settle=iE a.p.settle∧List.map zU c.i.tops=List.map zU a.tops∧c.i.inst=b.inst∧zB c.s=zB b.sd∧(kH c)∧∀(d:Unit),True→zIc c b a
def yHr (i:NxI):Prop:=
 (∃(a:MSt),sb a.p.code=sb i.s.p.code∧a.p.tick=i.s.p.tick∧a.p.low=i.s.p.low∧a.p.high=i.s.p.high∧a.p.wide=i.s.p.wide∧a.p.rule=i.s.p.rule∧a.p.top=i.s.p.top∧a.p.least=i.s.p.least∧a.p.part=i.s.p.part∧AObj.objs 102 Book 6 zR a.books none=AObj.objs 102 Book 6 zR i.s.books none∧zY a.wh=zY i.s.wh∧AObj.fro 1 (iE a.p.months)=AObj.fro 1 (iE i.s.p.months)∧AObj.fro 1 (iE a.p.settle)=AObj.fro 1 (iE i.s.p.settle)∧(gG a)∧∀(b:Unit),True→(zFo a i)∧(∃(c:rM),sb c.i.p.code=sb i.s.p.code∧iE c.i.p.months=iE a.p.months∧c.i.p.tick=i.s.p.tick∧c.i.p.low=i.s.p.low∧c.i.p.high=i.s.p.high∧c.i.p.wide=i.s.p.wide∧c.i.p.rule=i.s.p.rule∧c.i.p.top=i.s.p.top∧c.i.p.least=i.s.p.least∧c.i.p.part=i.s.p.part∧iE c.i.p.settle=iE a.p.settle∧List.map zU c.i.tops=List.map zU a.tops∧c.i.inst=i.inst∧zB c.s=zB i.sd∧(kH c)∧∀(d:Unit),True→(zIc c i a)∧zIc c i a)∧zRr a i)∧(sb i.s.p.code=sb i.s.p.code∧True∧i.s.p.tick=i.s.p.tick∧i.s.p.low=i.s.p.low∧i.s.p.high=i.s.p.high∧i.s.p.wide=i.s.p.wide∧i.s.p.rule=i.s.p.rule∧i.s.p.top=i.s.p.top∧i.s.p.least=i.s.p.least∧i.s.p.part=i.s.p.part∧True∧True)∧∃(a:MSt),sb a.p.code=sb i.s.p.code∧a.p.tick=i.s.p.tick∧a.p.low=i.s.p.low∧a.p.high=i.s.p.high∧a.p.wide=i.s.p.wide∧a.p.rule=i.s.p.rule∧a.p.top=i.s.p.top∧a.p.least=i.s.p.least∧a.p.part=i.s.p.part∧AObj.objs 102 Book 6 zR a.books none=AObj.objs 102 Book 6 zR i.s.books none∧zY a.wh=zY i.s.wh∧AObj.fro 1 (iE a.p.months)=AObj.fro 1 (iE i.s.p.months)∧AObj.fro 1 (iE a.p.settle)=AObj.fro 1 (iE i.s.p.settle)∧(gG a)∧∀(b:Unit),True→zRr a i
def aB (a:AtI):=(List.map wG (atL a.L (zB a.s) a.price))
def zDq (a:Nat×MSt→Prop) (b:Nat×MSt) (c:Nat×MSt→Nat) (d:Nat×MSt) (e:AlI) (f:AtI) (g:BkS) (h:TrI):Prop:=a b∧c b<c d∧AObj.own 2 1 (iE (qI e))=AObj.own 2 1 (iE (qI e))∧AObj.fro 5 (aB f)=AObj.fro 5 (aB f)∧Sx.AObj.cells [V.d (dI (dH g)),V.d (dI (uA g)),V.d (dI ((zW g).fst.count))] 104=Sx.AObj.cells [V.d (dI (dH g)),V.d (dI (uA g)),V.d (dI ((zW g).fst.count))] 104∧Sx.AObj.cells [V.d (dI h.inst),V.d (dI (zB h.sd))] 59=Sx.AObj.cells [V.d (dI h.inst),V.d (dI (zB h.sd))] 59∧AObj.fro 1 (iE h.s.p.months)=AObj.fro 1 (iE h.s.p.months)∧AObj.fro 1 (iE h.s.p.settle)=AObj.fro 1 (iE h.s.p.settle)
def hZ (a:TrI):=(y4 a.p a.B a.inst (zB a.sd) a.q)
def fZ (a:TrI):=(yZ a.B (hZ a))
def yDb (i:TrI):Prop:=
 (0≤i.inst∧i.inst<(↑i.s.books.length:Int))∧i.inst.toNat<i.s.books.length∧∃(a:Book),i.s.books[i.inst.toNat]?=some a∧∃(b:BkS),zB b.side=zB i.sd∧yC b.b=yC a∧(wR b)∧∀(c:Unit),True→∃(d:Book),yC b.b=yC d∧i.inst.toNat=i.inst.toNat∧i.inst.toNat<i.s.books.length∧∃(e:Book),(i.s.books.set i.inst.toNat d)[i.inst.toNat]?=some e∧∃(f:AtI),zB f.s=zB i.sd∧f.price=(zW b).fst.price∧yC f.b=yC e∧f.b.Rep f.L∧∀(g:Unit),True→∃(h:Book),yC f.b=yC h∧i.inst.toNat=i.inst.toNat∧i.inst.toNat<(i.s.books.set i.inst.toNat d).length∧∃(j:AlI),sb j.p.code=sb i.s.p.code∧iE j.p.months=iE i.s.p.months∧j.p.tick=i.s.p.tick∧j.p.low=i.s.p.low∧j.p.high=i.s.p.high∧j.p.wide=i.s.p.wide∧j.p.rule=i.s.p.rule∧j.p.top=i.s.p.top∧j.p.least=i.s.p.least∧j.p.part=i.s.p.part∧iE j.p.settle=iE i.s.p.settle∧List.map wG j.l=List.map wG (atL f.L (zB f.s) f.price)∧j.q=i.q∧(j.l.length≤1000∧((-9223372036854775808)≤j.q∧j.q≤9223372036854775807)∧((-9223372036854775808)≤j.p.least∧j.p.least≤9223372036854775807)∧((-9223372036854775808)≤j.p.top∧j.p.top≤9223372036854775807)∧(-9223372036854775808)≤j.p.part∧j.p.part≤9223372036854775807)∧∀(k:Unit),True→∃(l:Nat×MSt),(↑l.fst:Int)=0∧sb l.snd.p.code=sb i.s.p.code∧l.snd.p.tick=i.s.p.tick∧l.snd.p.low=i.s.p.low∧l.snd.p.high=i.s.p.high∧l.snd.p.wide=i.s.p.wide∧l.snd.p.rule=i.s.p.rule∧l.snd.p.top=i.s.p.top∧l.snd.p.least=i.s.p.least∧l.snd.p.part=i.s.p.part∧AObj.objs 102 Book 6 zR l.snd.books none=AObj.objs 102 Book 6 zR ((i.s.books.set i.inst.toNat d).set i.inst.toNat h) none∧zY l.snd.wh=zY i.s.wh∧AObj.fro 1 (iE l.snd.p.months)=AObj.fro 1 (iE i.s.p.months)∧AObj.fro 1 (iE l.snd.p.settle)=AObj.fro 1 (iE i.s.p.settle)∧List.map yV (i.fs l.fst)=[]∧∃(m:Nat×MSt→Prop),∃(n:Nat×MSt→Nat),m l∧∀(p:Nat×MSt),m p→cnd (decide ((↑p.fst:Int)<(↑(iE (qI j)).length:Int))) ((0≤(↑p.fst:Int)∧(↑p.fst:Int)<(↑(iE (qI j)).length:Int))∧∃(q:Int),zF (iE (qI j)) (↑p.fst:Int).toNat 0 1=some [dI q]∧cnd (decide (q>0)) ((0≤(↑p.fst:Int)∧(↑p.fst:Int)<(↑(aB f).length:Int))∧∃(r:Int),∃(s:Int),∃(t:Int),∃(u:Int),∃(v:Bool),zF (aB f) (↑p.fst:Int).toNat 0 5=some [dI r,dI s,dI t,dI u,D.v (.bool v)]∧∃(w:StI),w.id=r∧w.q=q∧zE w.s=zE p.snd∧(w.s.Rep w.p w.B∧w.B.length≤1000)∧∀(x:MSt),x.Rep w.p (yU w.B w.id w.q).fst→((List.map yV (i.fs p.fst)).length+1)*(48:Nat)≤(70368744177664:Nat)∧∃(y:Nat×MSt),(↑y.fst:Int)=IntKind.i64.wrap ((↑p.fst:Int)+1)∧zE y.snd=zE x∧List.map yV (i.fs y.fst)=List.map yV (i.fs p.fst)++[[dI r,dI i.inst,dI (zB i.sd),dI t,dI q,dI (IntKind.i64.wrap (u-q))]]∧zDq m y n p j f b i) (∃(r:Nat×MSt),(↑r.fst:Int)=IntKind.i64.wrap ((↑p.fst:Int)+1)∧zE r.snd=zE p.snd∧List.map yV (i.fs r.fst)=List.map yV (i.fs p.fst)∧zDq m r n p j f b i)) (∃(q:MSt),zE q=zE p.snd∧List.map yV (hZ i)=List.map yV (i.fs p.fst)∧q.Rep i.p (fZ i))
open Go Cv Go.Proofs
theorem zBb {p:Prd} (hc:p.check=0) {k v:Int} (h:p.price k v=0): -2000000≤v∧v≤2000000:=by
 have ok:=qG hc
 have:=ok.b1
 have:=ok.b2
 have:=ok.b3
 have:=ok.b4
 have:=ok.b5
 rw[Prd.price]at h
 by_cases c1:p.count=0
 ·rw[ySf c1]at h;cases h
 by_cases c2:k<0∨(p.count:Int)≤k
 ·rw[ySe c1,ySf c2]at h;cases h
 cases c3:qQ p.tick v with
 |true=>rw[ySe c1,ySe c2,ySf c3]at h;cases h
 |false=>
  rw[ySe c1,ySe c2,ySe (by rw[c3];decide)]at h
  by_cases c4:(p.months.length:Int)≤k
  ·simp only[ySf c4]at h
   by_cases c5:v< -p.wide∨p.wide<v
   ·rw[ySf c5]at h;cases h
   ·omega
  ·simp only[ySe c4]at h
   by_cases c5:v<p.low∨p.high<v
   ·rw[ySf c5]at h;cases h
   ·omega
theorem zHs {t:Int} (k:Int):qQ t (t*k)=false:=by
 simp[qQ,Int.mul_tmod_right]
theorem zTp (x:Prd):(qU x).small:=by
 have:=yBa x
 refine⟨by simp[qU],?_,?_⟩
 ·show(jL _).length≤_
  rw[rT];omega
 ·show(kG _ _).length≤_
  rw[aO];omega
theorem zUr (x:Prd):(qU x).check=0:=by
 have ht:=zWh x
 have hn:=yBa x
 have hw:=xK (n:=x.wide) (lo:=0) (hi:=60) (by omega)
 have hr:=xK (n:=x.rule) (lo:=0) (hi:=2) (by omega)
 have ho:=xK (n:=x.top) (lo:=0) (hi:=9) (by omega)
 have hl:=xK (n:=x.least) (lo:=0) (hi:=4) (by omega)
 have hp:=xK (n:=x.part) (lo:=0) (hi:=100) (by omega)
 have h1:j6 (qU x).code=true:=by show j6 [206,169]=true;decide+kernel
 obtain⟨k,hk,hk1⟩:∃k:Nat,(kN x).toNat=k∧(2≤k∧k≤5):=⟨_,rfl,by omega⟩
 have h2:xJ (qU x).months=true:=by
  show xJ (jL (kN x).toNat)=true
  rw[hk]
  have:k=2∨k=3∨k=4∨k=5:=by omega
  rcases this with rfl|rfl|rfl|rfl<;>decide
 have h3:qM (qU x)=true:=by
  have a:qQ (yH x) (-20*yH x)=false:=by rw[Int.mul_comm];exact zHs _
  have b:qQ (yH x) (100*yH x)=false:=by rw[Int.mul_comm];exact zHs _
  have c:(kG (yH x) (kN x).toNat).any (qQ (yH x))=false:=by
   rw[yXj]
   intro y hy
   obtain⟨j,_,rfl⟩:=yTh.1 hy
   rw[zHs];decide
  simp only[qM,qU,a,b,c,zHs,yXo,Bool.and_true,ySs]
  exact⟨ySw (by omega),ySw (by omega)⟩
 have mw:=zLv (a:=yH x) (b:=5+zH x.wide 0 60) (m:=yH x) (n:=65) (by omega) (by omega)
 have h4:qN (qU x)=false:=by
  simp only[qN,qU,yWj]
  exact⟨⟨⟨⟨ySp (by omega),ySp (by omega)⟩,ySp (by omega)⟩,ySp (by omega)⟩,ySp (by omega)⟩
 have h5:xM (qU x)=false:=by
  have e:(kG (yH x) (kN x).toNat).length=(jL (kN x).toNat).length:=by rw[aO,rT]
  have ne:kG (yH x) (kN x).toNat≠[]:=by
   intro hc
   have:=aO (yH x) (kN x).toNat
   rw[hc]at this
   simp at this
   omega
  have bd:∀y∈kG (yH x) (kN x).toNat,0≤y∧y≤yH x*15:=by
   intro y hy
   obtain⟨j,hj,rfl⟩:=yTh.1 hy
   have:=yUv.1 hj
   exact zLv (by omega) (by omega)
  have m1:=bd _ (zUv ne)
  have m2:=bd _ (zXe ne)
  simp only[xM,qU,e,ne_eq,not_true_eq_false,decide_false,yVn,yWj]
  exact⟨ySp (by omega),ySp (by omega)⟩
 have h6:kF (qU x)=false:=by
  simp only[kF,qU,yWj]
  exact⟨ySp (by omega),ySp (by omega)⟩
 have h7:x3 (qU x)=false:=by
  simp only[x3,qU,yWj]
  exact⟨⟨⟨⟨⟨ySp (by omega),ySp (by omega)⟩,ySp (by omega)⟩,ySp (by omega)⟩,ySp (by omega)⟩,ySp (by omega)⟩
 rw[Prd.check,h1,h2,h3,h4,h5,h6,h7]
 rfl
open Go Cv Go.Proofs
structure zLu (qs sh:List Int) (q:Int):Prop where
 len:sh.length=qs.length
 bd:∀n,0≤sh.getD n 0∧sh.getD n 0≤qs.getD n 0
 sum:sh.sum=q
theorem zIi:∀{l:List Int},(∀x∈l,0≤x)→0≤l.sum
 |[],_=>yWb 0
 |a::l,h=>by
  have:=zIi (l:=l) fun x hx=>h x (ySl _ hx)
  have:=h a ySk
  rw[yTc];omega
theorem z3z:∀{z:List (Int×Int)},(∀y∈z,0≤y.2∧y.2≤y.1)→(z.map (·.2)).sum≤(z.map (·.1)).sum
 |[],_=>yWb 0
 |a::l,h=>by
  have:=z3z (z:=l) fun x hx=>h x (ySl _ hx)
  have:=h a ySk
  rw[ySn,ySn,yTc,yTc];omega
theorem sP:∀(l:List Int) (q:Int),(∀x∈l,0≤x)→0≤q→q≤l.sum→zLu l (uP l q) q
 |[],q,_,h0,h1=>⟨rfl,fun n=>by simp[uP],by simp at h1;simp[uP];omega⟩
 |n::l,q,h,h0,h1=>by
  have hn:=h n ySk
  rw[yTc]at h1
  have:=zIi fun x hx=>h x (ySl _ hx)
  have ih:=sP l (q-min n q) (fun x hx=>h x (ySl _ hx)) (by omega) (by omega)
  refine⟨by rw[uP,ySx,ySx,ih.len],fun k=> ?_,by rw[uP,yTc,ih.sum];omega⟩
  cases k with
  |zero=>exact⟨by show 0≤min n q;omega,by show min n q≤n;omega⟩
  |succ k=>exact ih.bd k
theorem e8:∀(z:List (Int×Int)) (q:Int),(∀y∈z,0≤y.2∧y.2≤y.1)→0≤q→q≤(z.map (·.1)).sum-(z.map (·.2)).sum→(j5 z q).length=z.length∧(∀n,0≤(j5 z q).getD n 0∧(j5 z q).getD n 0≤(z.map (·.1)).getD n 0)∧(j5 z q).sum=(z.map (·.2)).sum+q
 |[],q,_,h0,h1=>⟨rfl,fun n=>by simp[j5],by simp at h1;simp[j5];omega⟩
 |(n,x)::r,q,h,h0,h1=>by
  have hn:=h (n,x) ySk
  simp only[ySn,yTc]at h1
  have:=z3z fun y hy=>h y (ySl _ hy)
  have ih:=e8 r (q-min (n-x) q) (fun y hy=>h y (ySl _ hy)) (by omega) (by omega)
  refine⟨by rw[j5,ySx,ySx,ih.1],fun k=> ?_,by rw[j5,yTc,ih.2.2,ySn,yTc];omega⟩
  cases k with
  |zero=>exact⟨by show 0≤x+min (n-x) q;have:=hn.1;have:=hn.2;dsimp only at*;omega,by show x+min (n-x) q≤n;have:=hn.2;dsimp only at*;omega⟩
  |succ k=>exact ih.2.1 k
theorem z0d {l:List Int} {q:Int} (h1:l.length≤250) (h2:0≤q) (h3:∀x∈l,1≤x∧x≤1000000) (h4:q≤l.sum):yT l q=true:=by
 rw[yT,ySw h1,ySw h2,ySw h4]
 simp only[yTm,Bool.and_true,yVh,ySs,yTj]
 exact h3
theorem zRi {i:PlI} (h:yT i.l i.q=true) (hl:1≤i.least):zLu i.l (kY i) i.q:=by
 obtain⟨r1,r2,r3,r4⟩:=k6 h
 rw[kY,ySf ⟨h,hl⟩]
 by_cases hne:i.l.length=0
 ·have e:i.l=[]:=yTn hne
  have hq:i.q=0:=by rw[e]at r4;simp at r4;omega
  have e0:i.p1=[]:=by rw[PlI.p1,e];rfl
  rw[e0,e,hq]
  exact⟨rfl,fun n=>by simp,rfl⟩
 ·obtain⟨_,_,f1,f2⟩:=zDc h (by omega)
  have hpl:=zZc i
  have m1:(i.l.zip i.p0).map (·.1)=i.l:=List.map_fst_zip (by omega)
  have m2:(i.l.zip i.p0).map (·.2)=i.p0:=List.map_snd_zip (by omega)
  have hp:=e8 (i.l.zip i.p0) (i.q-i.p0.sum) (fun y hy=>by
   obtain⟨j,hj⟩:=yUi.1 hy
   rw[yXb]at hj
   exact f1 j _ _ hj.1 hj.2) (by omega) (by rw[m1,m2];omega)
  rw[m1,m2]at hp
  refine⟨?_,hp.2.1,?_⟩
  ·rw[PlI.p1,hp.1,List.length_zip,hpl,Nat.min_self]
  ·rw[PlI.p1,hp.2.2];omega
theorem zRd:∀{l:List Int} {k:Nat} {x:Int},k<l.length→(l.set k x).sum=l.sum+(x-l.getD k 0)
 |[],k,x,h=>absurd h (by simp)
 |a::l,0,x,_=>by
  show x+l.sum=a+l.sum+(x-a);omega
 |a::l,k+1,x,h=>by
  have:=zRd (l:=l) (k:=k) (x:=x) (by simpa using h)
  show a+(l.set k x).sum=a+l.sum+(x-l.getD k 0)
  omega
theorem kE {l:List Int} {k n:Nat} {x:Int} (h:k<l.length):(l.set k x).getD n 0=if n=k then x else l.getD n 0:=by
 rw[ySi,yYa]
 by_cases e:k=n
 ·subst e;rw[ySf rfl,ySf h,ySf rfl];rfl
 ·rw[ySe e,ySe (fun e2=>e e2.symm),ySi]
theorem zWq {l:List Int}:∀(z:List (Nat×Int)) (o:List Int),(z.map (·.1)).Nodup→(∀y∈z,y.1<o.length∧0≤y.2∧o.getD y.1 0+y.2≤l.getD y.1 0)→(∀n,0≤o.getD n 0∧o.getD n 0≤l.getD n 0∧l.getD n 0≤1000000)→
 (z.foldl (fun o y=>o.set y.1 (IntKind.i64.wrap (o.getD y.1 0+y.2))) o).length=o.length∧(z.foldl (fun o y=>o.set y.1 (IntKind.i64.wrap (o.getD y.1 0+y.2))) o).sum=o.sum+(z.map (·.2)).sum∧∀n,0≤(z.foldl (fun o y=>o.set y.1 (IntKind.i64.wrap (o.getD y.1 0+y.2))) o).getD n 0∧(z.foldl (fun o y=>o.set y.1 (IntKind.i64.wrap (o.getD y.1 0+y.2))) o).getD n 0≤l.getD n 0
 |[],o,_,_,h=>⟨rfl,by simp,fun n=>⟨(h n).1,(h n).2.1⟩⟩
 |y::z,o,hn,hz,h=>by
  obtain⟨h1,h2,h3⟩:=hz y ySk
  rw[ySn,yUb]at hn
  have hw:IntKind.i64.wrap (o.getD y.1 0+y.2)=o.getD y.1 0+y.2:=by
   have:=h y.1
   exact w64 (by omega)
  rw[yWl,hw]
  have ih:=zWq (l:=l) z (o.set y.1 (o.getD y.1 0+y.2)) hn.2 (fun x hx=>by
   obtain⟨g1,g2,g3⟩:=hz x (ySl _ hx)
   have hne:x.1≠y.1:=fun e=>hn.1 (e▸yTb (f:=(·.1)) hx)
   rw[yTa,kE h1,ySe hne]
   exact⟨g1,g2,g3⟩) (fun n=>by
   rw[kE h1]
   split
   ·rename_i e
    rw[e]
    exact⟨by have:=h y.1;omega,h3,(h y.1).2.2⟩
   ·exact h n)
  refine⟨by rw[ih.1,yTa],?_,ih.2.2⟩
  rw[ih.2.1,zRd h1,ySn,yTc];omega
theorem zLl (l:List Int):(List.range l.length).map (fun n=>l.getD n 0)=l:=by
 apply yXi
 intro n
 rw[yTy]
 by_cases h:n<l.length
 ·rw[yXm h,yTs h,yUk,ySi,yTs h];rfl
 ·rw[yTf (by simpa using h),yTf (by omega)];rfl
theorem z3p {f g:Nat→Int}:∀l:List Nat,(l.map fun n=>f n-g n).sum=(l.map f).sum-(l.map g).sum
 |[]=>rfl
 |a::l=>by rw[ySn,ySn,ySn,yTc,yTc,yTc,z3p l];omega
theorem zIr {f:Nat→Int} {p:Nat→Bool}:∀{l:List Nat},(∀n∈l,p n=false→f n=0)→((l.filter p).map f).sum=(l.map f).sum
 |[],_=>rfl
 |a::l,h=>by
  have ih:=zIr (l:=l) fun n hn=>h n (ySl _ hn)
  rw[ySn,yTc]
  by_cases e:p a=true
  ·rw[yVl e,ySn,yTc,ih]
  ·rw[yVm e,ih,h a ySk (by simpa using e)];omega
theorem rJ {i:RsI} (hl:i.l.length≤250) (ho:i.out.length=i.l.length) (hn:∀n,0≤i.out.getD n 0∧i.out.getD n 0≤i.l.getD n 0∧i.l.getD n 0≤1000000) (hq:0≤i.q∧i.q≤i.l.sum-i.out.sum) (hle:1≤i.least):
 zLu i.l (m5 i) (i.out.sum+i.q):=by
 have hidx:(i.idx i.l.length).length≤250:=yVa (yVk _ _) (by simpa using hl)
 have hmem:∀n∈i.idx i.l.length,n<i.l.length∧i.out.getD n 0<i.l.getD n 0:=by
  intro n hn
  obtain⟨a,b⟩:=yTp.1 hn
  exact⟨yUv.1 a,yVd b⟩
 have hls:(i.left i.l.length).sum=i.l.sum-i.out.sum:=by
  rw[RsI.left,RsI.idx,zIr,z3p,zLl]
  ·rw[← ho,zLl]
  ·intro n _ e
   have:=yVx e
   have:=hn n
   omega
 have hr:yT (i.left i.l.length) i.q=true:=by
  refine z0d (by rw[RsI.left,ySh];exact hidx) hq.1 (fun x hx=> ?_) (by omega)
  obtain⟨n,hm,rfl⟩:=yTh.1 hx
  have:=hmem n hm
  have:=hn n
  omega
 have hp:=zRi (i:=⟨i.left i.l.length,i.least,i.q⟩) hr hle
 have hpl:i.pl.length=(i.idx i.l.length).length:=by
  have:=hp.len
  rw[RsI.pl,this,RsI.left,ySh]
 have hnd:(i.idx i.l.length).Nodup:=List.nodup_range.sublist yVq
 have z1:((i.idx i.l.length).zip i.pl).map (·.1)=i.idx i.l.length:=List.map_fst_zip (by omega)
 have z2:((i.idx i.l.length).zip i.pl).map (·.2)=i.pl:=List.map_snd_zip (by omega)
 have hf:=zWq (l:=i.l) ((i.idx i.l.length).zip i.pl) i.out (by rw[z1];exact hnd) (fun y hy=>by
  obtain⟨j,hj⟩:=yUi.1 hy
  rw[yXb]at hj
  have hm:=hmem y.1 (ySo hj.1)
  have hb:=hp.bd j
  have e1:(kY ⟨i.left i.l.length,i.least,i.q⟩).getD j 0=y.2:=by
   rw[ySi]
   have:(kY ⟨i.left i.l.length,i.least,i.q⟩)[j]? =some y.2:=hj.2
   rw[this];rfl
  have e2:(i.left i.l.length).getD j 0=i.l.getD y.1 0-i.out.getD y.1 0:=by
   rw[ySi,RsI.left,yTy,hj.1];rfl
  dsimp only at hb
  rw[e1,e2]at hb
  exact⟨by omega,hb.1,by omega⟩) hn
 have hall:m5 i=((i.idx i.l.length).zip i.pl).foldl (fun o y=>o.set y.1 (IntKind.i64.wrap (o.getD y.1 0+y.2))) i.out:=by
  rw[m5,RsI.add,ySz (by rw[List.length_zip];omega)]
 rw[hall]
 refine⟨by rw[hf.1,ho],hf.2.2,?_⟩
 rw[hf.2.1,z2]
 have:=hp.sum
 rw[RsI.pl,this]
theorem z0z {l:List Int} (h:∀x∈l,1≤x∧x≤1000000) (n:Nat):0≤l.getD n 0∧l.getD n 0≤1000000:=by
 by_cases hn:n<l.length
 ·obtain⟨x,hx⟩:=z6 hn
  have:=h x (ySo hx)
  rw[zI hx];omega
 ·rw[ySi,yTf (by omega)];decide
theorem yFm (n k:Nat):(List.replicate n (0:Int)).getD k 0=0:=by
 rw[ySi,yYg]
 split<;>rfl
theorem zMl (n:Nat):(List.replicate n (0:Int)).sum=0:=by
 induction n with
 |zero=>rfl
 |succ n ih=>rw[yWm,yTc,ih];rfl
theorem yLt {q part:Int} (hq:0≤q) (h0:0≤part) (h1:part≤100):0≤q*part / 100∧q*part / 100≤q:=by
 have h2:0≤q*part:=yYm hq h0
 have h3:q*part≤q*100:=yXk h1 hq
 constructor<;>omega
theorem zDf {p:Prd} (hc:p.check=0) {l:List zD} {q:Int} (hr:yT (l.map (·.qty)) q=true):zLu (l.map (·.qty)) (qI ⟨p,l,q⟩) q:=by
 have ok:=qG hc
 obtain⟨r1,r2,r3,r4⟩:=k6 hr
 have q1:=ok.q1
 have q3:=ok.q3
 have q5:=ok.q5
 have q6:=ok.q6
 have r5:=ok.r1
 have r6:=ok.r2
 have gb:=z0z r3
 have eqs:(AlI.qs ⟨p,l,q⟩)=l.map (·.qty):=rfl
 rw[qI]
 simp only[eqs]
 generalize l.map (·.qty)=qs at*
 by_cases c1:p.rule=1
 ·rw[ySf c1,uW,ySf hr]
  exact sP _ _ (fun x hx=>by have:=r3 x hx;omega) r2 r4
 by_cases c2:p.rule=2
 ·rw[ySe c1,ySf c2,zCi,ySf ⟨hr,q3,q1⟩]
  rw[PsI.rs]
  dsimp only
  split
  ·rename_i ht
   have hk:(topI l).toNat<(List.replicate qs.length (0:Int)).length:=by simp;omega
   have hf:0≤PsI.first ⟨qs,topI l,p.top,p.least,q⟩∧PsI.first ⟨qs,topI l,p.top,p.least,q⟩≤qs.getD (topI l).toNat 0∧PsI.first ⟨qs,topI l,p.top,p.least,q⟩≤q:=by
    have:=gb (topI l).toNat
    simp only[PsI.first]
    omega
   have hs:((List.replicate qs.length (0:Int)).set (topI l).toNat (PsI.first ⟨qs,topI l,p.top,p.least,q⟩)).sum=PsI.first ⟨qs,topI l,p.top,p.least,q⟩:=by
    rw[zRd hk,zMl,yFm];omega
   have:=rJ (i:=⟨qs,(List.replicate qs.length 0).set (topI l).toNat (PsI.first ⟨qs,topI l,p.top,p.least,q⟩),p.least,q-PsI.first ⟨qs,topI l,p.top,p.least,q⟩⟩) r1 (by simp) (fun n=>by
    dsimp only
    rw[kE hk,yFm]
    have:=gb n
    split
    ·rename_i e;rw[e];exact⟨hf.1,hf.2.1,(gb _).2⟩
    ·omega) (by dsimp only;rw[hs];omega) q3
   dsimp only at this
   rw[hs]at this
   have e:PsI.first ⟨qs,topI l,p.top,p.least,q⟩+(q-PsI.first ⟨qs,topI l,p.top,p.least,q⟩)=q:=by omega
   rw[e]at this
   exact this
  ·have:=rJ (i:=⟨qs,List.replicate qs.length 0,p.least,q⟩) r1 (by simp) (fun n=>by
    dsimp only
    rw[yFm]
    have:=gb n
    omega) (by dsimp only;rw[zMl];omega) q3
   dsimp only at this
   rw[zMl,Int.zero_add]at this
   exact this
 ·have c3:p.rule=3:=by omega
  rw[ySe c1,ySe c2,ySf c3,zAu,ySf ⟨hr,q5,q6,q3⟩]
  rw[SpI.rs]
  dsimp only
  obtain⟨d1,d2⟩:=yLt r2 q5 q6
  have hr2:yT qs (q*p.part / 100)=true:=z0d r1 d1 r3 (by omega)
  have hfs:=sP qs (q*p.part / 100) (fun x hx=>by have:=r3 x hx;omega) d1 (by omega)
  have e0:uW qs (q*p.part / 100)=uP qs (q*p.part / 100):=by rw[uW,ySf hr2]
  have:=rJ (i:=⟨qs,uW qs (q*p.part / 100),p.least,q-q*p.part / 100⟩) r1 (by dsimp only;rw[e0];exact hfs.len) (fun n=>by
   dsimp only
   rw[e0]
   exact⟨(hfs.bd n).1,(hfs.bd n).2,(gb n).2⟩) (by dsimp only;rw[e0,hfs.sum];omega) q3
  dsimp only at this
  rw[e0,hfs.sum]at this
  rw[e0]
  have e:q*p.part / 100+(q-q*p.part / 100)=q:=by omega
  rw[e]at this
  exact this
theorem zYj {p:Prd} {l:List zD} {q:Int} (hr:yT (l.map (·.qty)) q=false):qI ⟨p,l,q⟩=[]:=by
 have eqs:(AlI.qs ⟨p,l,q⟩)=l.map (·.qty):=rfl
 rw[qI]
 simp only[eqs,uW,zCi,zAu,hr]
 simp
open Go Cv Go.Proofs
theorem zPo:motherC.ok Tryz.prog 91:=okw (V:=z2b) mixed gok0 0 (fun _=>[]) (fun _=>[]) [] Tryz.func91 fun(b:Bool) _=>by
 unfold z2b
 cases b<;>exact⟨(),by decide,trivial⟩
theorem zUw:mgoodC.ok Tryz.prog 92:=okw (V:=yCq) mixed gok0 0 (fun _=>[]) (fun _=>[]) [] Tryz.func92 fun(i:GoI) _=>by
 obtain⟨s,p,x⟩:=i
 unfold yCq
 cases s
 ·refine Cv.cnd.mk (fun _=>zK (fun c=>⟨(),?_,trivial⟩) (fun c=>Cv.cnd.mk (fun e=>by simp[zB]at e) (fun _=>⟨(),?_,trivial⟩))) (fun e=>by simp[zB]at e)
  ·exact ySw c
  ·exact ySp c
 ·exact Cv.cnd.mk (fun e=>by simp[zB]at e) (fun _=>Cv.cnd.mk (fun _=>⟨(),rfl,trivial⟩) (fun e=>by simp[zB]at e))
theorem zWu {L:List zD} {s:Int}:((bestL L s).2=true∧∃o∈L,o.side=s∧o.price=(bestL L s).1.price)∨(bestL L s=(⟨0,0,0⟩,false)∧∀o∈L,o.side≠s):=by
 rw[bestL]
 cases hl:wB L s with
 |nil=>
  refine .inr ⟨rfl,fun o ho e=> ?_⟩
  rw[wB]at hl
  cases hf:L.filter fun o=>decide (o.side=s)with
  |nil=>
   rw[yXu]at hf
   have:=hf o ho
   simp[e]at this
  |cons x y=>
   rw[hf,grp]at hl
   split at hl
   ·cases hl
   ·split at hl<;>cases hl
 |cons v vs=>
  refine .inl ⟨rfl,?_⟩
  rw[wB]at hl
  obtain⟨o,r,e1,e2⟩:=sI hl
  have:o∈L.filter fun o=>decide (o.side=s):=by rw[e1];exact ySk
  rw[yTp]at this
  exact⟨o,this.1,by simpa using this.2,e2⟩
theorem zSl {L:List zD} {s:Int} (h:∀o∈L,-2000000≤o.price∧o.price≤2000000): -2000000≤(bestL L s).1.price∧(bestL L s).1.price≤2000000:=by
 rcases zWu (L:=L) (s:=s)with⟨_,o,ho,_,e⟩|⟨e,_⟩
 ·rw[← e];exact h o ho
 ·rw[e];constructor<;>decide
theorem zRe (L:List zD):(xI L).p1=(bestL L 1).1.price∧(xI L).q1=(bestL L 1).1.qty∧(xI L).has1=(bestL L 1).2∧(xI L).p2=(bestL L 2).1.price∧(xI L).q2=(bestL L 2).1.qty∧(xI L).has2=(bestL L 2).2:=by
 have h:∀s,(bestL L s).2=true∨bestL L s=(⟨0,0,0⟩,false):=fun s=>by
  rcases zWu (L:=L) (s:=s)with⟨h,_⟩|⟨h,_⟩
  ·exact .inl h
  ·exact .inr h
 rw[xI,Top.sell,Top.buy]
 rcases h 1 with h1|h1<;>rcases h 2 with h2|h2<;>simp[h1,h2,top0]
theorem BOk.prices {p:Prd} {B:List (List zD)} (h:BOk p B) {k:Nat} {L:List zD} (hL:B[k]? =some L):∀o∈L,-2000000≤o.price∧o.price≤2000000:=fun o ho=>zBb h.pc (h.pr k L hL o ho)
theorem BOk.tops {p:Prd} {B:List (List zD)} (h:BOk p B):j0 (B.map xI):=by
 have:=xV p
 refine⟨by rw[ySh,h.bl];omega,fun t ht=> ?_⟩
 obtain⟨L,hL,rfl⟩:=yTh.1 ht
 obtain⟨k,hk⟩:=yUi.1 hL
 have b1:=zSl (s:=1) (h.prices hk)
 have b2:=zSl (s:=2) (h.prices hk)
 rw[(zRe L).1,(zRe L).2.2.2.1]
 exact⟨by constructor<;>omega,by constructor<;>omega⟩
theorem MSt.Rep.tops {s:MSt} {p:Prd} {B:List (List zD)} (h:s.Rep p B):s.tops=B.map xI:=by
 rw[MSt.tops]
 apply yXi
 intro k
 rw[yTy,yTy]
 by_cases hk:k<B.length
 ·obtain⟨L,hL⟩:=z6 hk
  obtain⟨b,hb⟩:=z6 (l:=s.books) (i:=k) (by rw[h.bl];exact hk)
  rw[hL,hb,yUk,yUk,(h.bk k b L hb hL).top]
 ·rw[yTf (by rw[h.bl];omega),yTf (by omega)];rfl
theorem MSt.Rep.cnt {s:MSt} {p:Prd} {B:List (List zD)} (h:s.Rep p B) (hB:B.length≤1000000):s.cntOk:=by
 refine⟨by rw[h.bl];exact hB,fun b hb=> ?_⟩
 obtain⟨k,hk⟩:=yUi.1 hb
 have hlt:=(ySg.1 hk).1
 rw[h.bl]at hlt
 obtain⟨L,hL⟩:=z6 hlt
 exact(h.bk k b L hk hL).cnt
theorem zTk {b:Book} {L:List zD} (h:b.Rep L) (sd:Bool):b.best (b.side sd)=bestL L (zB sd):=by
 obtain⟨Q,c,ht,rfl⟩:=h
 cases sd
 ·exact c.bestL (.inl rfl)
 ·exact c.bestL (.inr rfl)
theorem dP (sd:Bool):zB sd=1∨zB sd=2:=by cases sd;exact .inl rfl;exact .inr rfl
theorem yQq (i:NxI) (h:nextC.cnd i):yHr i:=by
 obtain⟨hR,hB,h0,h1⟩:i.s.Rep i.p i.B∧BOk i.p i.B∧0≤i.inst∧i.inst<i.B.length:=h
 have hcl:=xV i.p
 have hbl:=hB.bl
 have hsl:=hR.bl
 obtain⟨k,hk⟩:∃k:Nat,i.inst=k:=⟨i.inst.toNat,by omega⟩
 obtain⟨L,hL⟩:=z6 (l:=i.B) (i:=k) (by omega)
 obtain⟨b,hb⟩:=z6 (l:=i.s.books) (i:=k) (by omega)
 have hbR:=hR.bk k b L hb hL
 have hps:i.s.p.small:=by rw[hR.ep];exact hB.ps
 have hto:j0 i.s.tops:=by rw[hR.tops];exact hB.tops
 have hnx:zV i.p i.B i.inst (zB i.sd)=if((bestL L (zB i.sd)).2 && !((yD (yL ⟨i.s.p,i.s.tops,i.inst⟩ (zB i.sd)) (zB i.sd)).2 && btr (zB i.sd) (yD (yL ⟨i.s.p,i.s.tops,i.inst⟩ (zB i.sd)) (zB i.sd)).1.price (bestL L (zB i.sd)).1.price))=true then(⟨(bestL L (zB i.sd)).1.price,(bestL L (zB i.sd)).1.qty,⟨0,0⟩,⟨0,0⟩⟩,false,true)else((yD (yL ⟨i.s.p,i.s.tops,i.inst⟩ (zB i.sd)) (zB i.sd)).1,(yD (yL ⟨i.s.p,i.s.tops,i.inst⟩ (zB i.sd)) (zB i.sd)).2,(yD (yL ⟨i.s.p,i.s.tops,i.inst⟩ (zB i.sd)) (zB i.sd)).2):=by
  rw[zV,hR.tops,hR.ep,hk,ySt,zI hL]
 have hbest:=zTk hbR i.sd
 unfold yHr zRr kH wO zIc wR zJr zW zJk zZ zEh zFo gG qO
 have hcnt:i.s.cntOk:=hR.cnt (by omega)
 have hql:(yL ⟨i.s.p,i.s.tops,i.inst⟩ (zB i.sd)).length≤1000000:=by
  have:=yVa (yVk (fun q=>decide (i.s.p.price i.inst q.price=0)) _) (zCc ⟨i.s.p,i.s.tops,i.inst⟩ (zB i.sd))
  exact yVa this (by decide)
 refine(fun hT=>⟨⟨i.s,rfl,rfl,rfl,rfl,rfl,rfl,rfl,rfl,rfl,rfl,rfl,rfl,rfl,hcnt,fun _ _=>⟨⟨rfl,trivial,rfl,rfl,rfl,rfl,rfl,rfl,rfl,rfl,trivial,trivial⟩,⟨⟨⟨i.s.p,i.s.tops,i.inst⟩,i.sd⟩,rfl,rfl,rfl,rfl,rfl,rfl,rfl,rfl,rfl,rfl,rfl,rfl,rfl,rfl,⟨hps,hto⟩,fun _ _=>⟨hT,hT⟩⟩,⟨rfl,trivial,rfl,rfl,rfl,rfl,rfl,rfl,rfl,rfl,trivial,trivial⟩,⟨⟨⟨i.s.p,i.s.tops,i.inst⟩,i.sd⟩,rfl,rfl,rfl,rfl,rfl,rfl,rfl,rfl,rfl,rfl,rfl,rfl,rfl,rfl,⟨hps,hto⟩,fun _ _=>hT⟩⟩⟩,
  ⟨rfl,trivial,rfl,rfl,rfl,rfl,rfl,rfl,rfl,rfl,trivial,trivial⟩,⟨i.s,rfl,rfl,rfl,rfl,rfl,rfl,rfl,rfl,rfl,rfl,rfl,rfl,rfl,hcnt,fun _ _=>⟨⟨rfl,trivial,rfl,rfl,rfl,rfl,rfl,rfl,rfl,rfl,trivial,trivial⟩,⟨⟨⟨i.s.p,i.s.tops,i.inst⟩,i.sd⟩,rfl,rfl,rfl,rfl,rfl,rfl,rfl,rfl,rfl,rfl,rfl,rfl,rfl,rfl,⟨hps,hto⟩,fun _ _=>hT⟩⟩⟩⟩) ?_
 refine⟨⟨yL ⟨i.s.p,i.s.tops,i.inst⟩ (zB i.sd),zB i.sd⟩,rfl,rfl,⟨dP _,hql⟩,fun _ _=>⟨⟨h0,by omega⟩,by omega,b,by rw[hk];exact hb,⟨i.sd,b⟩,rfl,rfl,hbR.cnt,fun _ _=>⟨b,rfl,rfl,by omega,?_⟩⟩⟩
 dsimp only
 rw[hbest]
 generalize bestL L (zB i.sd)=l at*
 generalize yD (yL ⟨i.s.p,i.s.tops,i.inst⟩ (zB i.sd)) (zB i.sd)=bq at*
 have hset:i.s.books.set i.inst.toNat b=i.s.books:=kK (by rw[hk];exact hb)
 rw[hset]
 refine Cv.cnd.mk (fun c1=>Cv.cnd.mk (fun c2=>⟨⟨zB i.sd,bq.1.price,l.1.price⟩,rfl,rfl,rfl,trivial,fun _ _=>Cv.cnd.mk (fun c3=> ?_) (fun c3=> ?_)⟩) (fun c2=> ?_)) (fun c1=> ?_)
 ·dsimp only at c3
  rw[ySf (by rw[c1,c2];simpa using c3)]at hnx
  rw[hnx];exact⟨(),by(repeat'(first|exact trivial|exact rfl|apply And.intro))⟩
 ·dsimp only at c3
  rw[ySe (by rw[c1,c2];simpa using c3)]at hnx
  rw[hnx];exact⟨(),by(repeat'(first|exact trivial|exact rfl|apply And.intro))⟩
 ·rw[ySf (by rw[c1,c2];rfl)]at hnx
  rw[hnx];exact⟨(),by(repeat'(first|exact trivial|exact rfl|apply And.intro))⟩
 ·rw[ySe (by rw[c1];simp)]at hnx
  rw[hnx];exact⟨(),by(repeat'(first|exact trivial|exact rfl|apply And.intro))⟩
theorem yFg:nextC.ok Tryz.prog 90:=okw mixed (gokc zUp (gokc zQb (gokc zVr (gokc zHx (gokc bY gok0))))) 0 (fun _=>[]) (fun _=>[]) [0] Tryz.func90 yQq
theorem z0y (i:RsI) (k:Nat):(i.add k).length=i.out.length:=by
 have:∀(l:List (Nat×Int)) (o:List Int),(l.foldl (fun o y=>o.set y.1 (IntKind.i64.wrap (o.getD y.1 0+y.2))) o).length=o.length:=by
  intro l
  induction l with
  |nil=>intro o;rfl
  |cons x l ih=>intro o;rw[yWl,ih,yTa]
 exact this _ _
theorem zVg (l:List Int) (q:Int):(uW l q).length≤l.length:=by
 rw[uW];split
 ·rw[rN];exact yTd _
 ·exact yUq _
theorem z5o (i:AlI):(qI i).length≤i.l.length:=by
 have hq:i.qs.length=i.l.length:=by simp[AlI.qs]
 rw[qI,← hq]
 repeat' split
 ·exact zVg _ _
 ·rw[zCi];split
  ·rw[m5,z0y,PsI.rs]
   split
   ·simp
   ·simp
  ·exact yUq _
 ·rw[zAu];split
  ·rw[m5,z0y];exact zVg _ _
  ·exact yUq _
 ·exact yUq _
theorem zJs {inst s:Int}:∀{os:List zD} {sh:List Int} {j:Nat} {o:zD} {k:Int},os[j]? =some o→sh[j]? =some k→yK inst s (os.take (j+1)) (sh.take (j+1))=yK inst s (os.take j) (sh.take j)++(if 0<k then[⟨o.id,inst,s,o.price,k,o.qty-k⟩]else[])
 |[],_,_,_,_,h,_=>by simp at h
 |_::_,[],_,_,_,_,h=>by simp at h
 |o::os,k::sh,0,_,_,h,h2=>by
  cases h;cases h2
  rw[yTw,yTw,yXs,yXs,yXs,yXs,yK]
  split<;>rfl
 |o::os,k::sh,j+1,o',k',h,h2=>by
  rw[yTw,yTw,yK,yTw,yTw,yK,zJs (os:=os) (sh:=sh) (j:=j) h h2]
  split<;>rfl
theorem zPq {inst s:Int}:∀(os:List zD) (sh:List Int),yK inst s (os.take sh.length) (sh.take sh.length)=yK inst s os sh
 |[],sh=>by simp
 |_::_,[]=>by simp[yK]
 |o::os,k::sh=>by
  rw[ySx,yTw,yTw,yK,yK,zPq os sh]
theorem zOz (B:List (List zD)) (a b:List vA):yZ B (a++b)=yZ (yZ B a) b:=yYl
theorem mC (B:List (List zD)) (id q:Int):(yU B id q).1.length=B.length:=by
 rw[yU];split
 ·rfl
 ·simp
theorem qH:∀(fs:List vA) (B:List (List zD)),(yZ B fs).length=B.length
 |[],B=>rfl
 |f::fs,B=>by
  show(yZ (yU B f.id f.qty).1 fs).length=_
  rw[qH fs,mC]
theorem yNs {p:Prd} (h:p.check=0):yY p.least∧yY p.top∧yY p.part:=by
 have ok:=qG h
 have:=ok.q1
 have:=ok.q2
 have:=ok.q3
 have:=ok.q4
 have:=ok.q5
 have:=ok.q6
 exact⟨⟨by omega,by omega⟩,⟨by omega,by omega⟩,⟨by omega,by omega⟩⟩
theorem yJz (i:TrI) (h:tradeC.cnd i):yDb i:=by
 obtain⟨hR,hB,h0,h1,hq⟩:i.s.Rep i.p i.B∧BOk i.p i.B∧0≤i.inst∧i.inst<i.B.length∧yY i.q:=h
 have hcl:=xV i.p
 have hbl:=hB.bl
 have hsl:=hR.bl
 have ep:=hR.ep
 obtain⟨k,hk⟩:∃k:Nat,i.inst=k:=⟨i.inst.toNat,by omega⟩
 obtain⟨L,hL⟩:=z6 (l:=i.B) (i:=k) (by omega)
 obtain⟨b,hb⟩:=z6 (l:=i.s.books) (i:=k) (by omega)
 have hbR:=hR.bk k b L hb hL
 have hbest:=zTk hbR i.sd
 have hos:atL L (zB i.sd) (bestL L (zB i.sd)).1.price=i.os:=by rw[TrI.os,zFj,hk,ySt,zI hL]
 have hset:i.s.books.set i.inst.toNat b=i.s.books:=kK (by rw[hk];exact hb)
 have hosl:i.os.length≤250:=by
  rw[← hos];exact yVa (yVk _ _) hbR.ords.2.2
 have hsh:i.sh.length≤i.os.length:=z5o _
 obtain⟨k1,k2,k3⟩:=yNs hB.pc
 have hsb:∀(j:Nat) (n:Int),i.sh[j]? =some n→n≤1000000:=by
  intro j n hn
  cases hr:yT (i.os.map (·.qty)) i.q with
  |false=>
   have:i.sh=[]:=zYj hr
   rw[this]at hn;cases hn
  |true=>
   have:=(zDf hB.pc hr).bd j
   have e:(qI ⟨i.p,i.os,i.q⟩).getD j 0=n:=zI hn
   rw[e]at this
   have:=(z0z (k6 hr).2.2.1 j).2
   omega
 unfold yDb zDq uA dH aB fZ hZ zW wR qO dI
 refine⟨⟨h0,by omega⟩,by omega,b,by rw[hk];exact hb,⟨i.sd,b⟩,rfl,rfl,hbR.cnt,fun _ _=> ?_⟩
 refine⟨b,rfl,rfl,by omega,b,by rw[hset,hk];exact hb,⟨b,L,i.sd,(bestL L (zB i.sd)).1.price⟩,rfl,by dsimp only;rw[hbest],rfl,hbR,fun _ _=> ?_⟩
 dsimp only
 try rw[hbest]
 rw[hset,hos]
 refine⟨b,rfl,rfl,by omega,⟨i.p,i.os,i.q⟩,by rw[ep],by rw[ep],by rw[ep],by rw[ep],by rw[ep],by rw[ep],by rw[ep],by rw[ep],by rw[ep],by rw[ep],by rw[ep],rfl,rfl,⟨by dsimp only;omega,hq,k1,k2,k3⟩,fun _ _=> ?_⟩
 have esh:qI ⟨i.p,i.os,i.q⟩=i.sh:=rfl
 rw[esh,hset,yW,ySh]
 refine⟨(0,i.s),rfl,rfl,rfl,rfl,rfl,rfl,rfl,rfl,rfl,rfl,rfl,rfl,rfl,rfl,rfl,fun j=>j.2.Rep i.p (yZ i.B (i.fs j.1))∧j.1≤i.sh.length,fun j=>i.sh.length-j.1,⟨hR,yUq _⟩,fun j hj=> ?_⟩
 obtain⟨hjR,hjl⟩:=hj
 obtain⟨j,sj⟩:=j
 dsimp only at hjR hjl ⊢
 refine zK (fun c=> ?_) (fun c=> ?_)
 ·obtain⟨n,hn⟩:=z6 (l:=i.sh) (i:=j) (by omega)
  obtain⟨o,ho⟩:=z6 (l:=i.os) (i:=j) (by omega)
  have hst:=zJs (inst:=i.inst) (s:=zB i.sd) ho hn
  have hoL:o∈L:=by
   have:=ySo ho
   rw[← hos]at this
   exact(yTp.1 this).1
  have hoq:=(hbR.ords.1 o hoL).q
  have hnb:=hsb j n hn
  refine⟨⟨by omega,by omega⟩,n,elI hn,zK (fun c2=> ?_) (fun c2=> ?_)⟩
  ·rw[ySf (show 0<n from c2)]at hst
   have hfl:(i.fs j).length≤j:=by
    have:∀(os:List zD) (sh:List Int),(yK i.inst (zB i.sd) os sh).length≤os.length:=by
     intro os
     induction os with
     |nil=>intro sh;exact yTd 0
     |cons o os ih=>
      intro sh
      cases sh with
      |nil=>exact yUq _
      |cons k sh=>
       have:=ih sh
       rw[yK]
       split
       ·simp only[ySx];omega
       ·simp only[ySx];omega
    exact yVa (this _ _) (by rw[yTe];omega)
   refine⟨⟨by omega,by omega⟩,o.id,o.side,o.price,o.qty,o.top,yKt ho,⟨sj,i.p,yZ i.B (i.fs j),o.id,n⟩,rfl,rfl,rfl,⟨hjR,by dsimp only;rw[qH];omega⟩,fun s' hs'=>⟨by rw[ySh];omega,(j+1,s'),wjn (by omega),rfl,?_,⟨?_,by dsimp only;omega⟩,by dsimp only;omega,by(repeat'(first|exact trivial|exact rfl|apply And.intro))⟩⟩
   ·show List.map yV (yK i.inst (zB i.sd) (i.os.take (j+1)) (i.sh.take (j+1)))=_
    rw[hst,ySr,w64 (by omega)];rfl
   ·show s'.Rep i.p (yZ i.B (yK i.inst (zB i.sd) (i.os.take (j+1)) (i.sh.take (j+1))))
    rw[hst,zOz];exact hs'
  ·rw[ySe (show ¬0<n from c2),yTg]at hst
   refine⟨(j+1,sj),wjn (by omega),rfl,?_,⟨?_,by dsimp only;omega⟩,by dsimp only;omega,by(repeat'(first|exact trivial|exact rfl|apply And.intro))⟩
   ·show List.map yV (yK i.inst (zB i.sd) (i.os.take (j+1)) (i.sh.take (j+1)))=_
    rw[hst];rfl
   ·show sj.Rep i.p (yZ i.B (yK i.inst (zB i.sd) (i.os.take (j+1)) (i.sh.take (j+1))))
    rw[hst];exact hjR
 ·have hje:j=i.sh.length:=by omega
  subst hje
  have hfa:i.fs i.sh.length=y4 i.p i.B i.inst (zB i.sd) i.q:=zPq _ _
  rw[hfa]at hjR ⊢
  exact⟨sj,rfl,rfl,hjR⟩
theorem z7e:tradeC.ok Tryz.prog 93:=okw mixed (gokc zHx (gokc yQm (gokc yAo (gokc zCe gok0)))) 0 (fun _=>[]) (fun i=>yLp i) [0] Tryz.func93 yJz
open Go Cv Go.Proofs
structure kM where
 price:Int
 qty:Int
 implied:Bool
 fills:List vA
 deriving DecidableEq
def jX (t:kM):List D:=[.v (.int .i64 t.price),.v (.int .i64 t.qty),.v (.bool t.implied),.ro 6 (t.fills.map yV)]
def jF (p:Prd) (B:List (List zD)) (inst:Int) (sd:Bool) (price qty:Int):Option (kM×List (List zD)):=
 let n:=zV p B inst (zB (!sd))
 if(n.2.2 && (jA sd price n.1.price && decide (1≤n.1.qty)))=true then
  if n.2.1=true then
   let f1:=y4 p B n.1.a.inst n.1.a.side (min qty n.1.qty)
   let f2:=y4 p (yZ B f1) n.1.b.inst n.1.b.side (min qty n.1.qty)
   some (⟨n.1.price,min qty n.1.qty,true,f1++f2⟩,yZ (yZ B f1) f2)
  else
   let f:=y4 p B inst (zB (!sd)) (min qty n.1.qty)
   some (⟨n.1.price,min qty n.1.qty,false,f⟩,yZ B f)
 else none
structure yJi where
 steps:List kM
 left:Int
 B:List (List zD)
def zHf (p:Prd) (inst:Int) (sd:Bool) (price:Int):Nat→List (List zD)→Int→yJi
 |0,B,q=>⟨[],q,B⟩
 |n+1,B,q=>if q≤0 then⟨[],q,B⟩else match jF p B inst sd price q with
  |none=>⟨[],q,B⟩
  |some (t,B')=>let r:=zHf p inst sd price n B' (q-t.qty);⟨t::r.steps,r.left,r.B⟩
def x0 (p:Prd) (B:List (List zD)) (inst:Int) (sd:Bool) (price q:Int):yJi:=zHf p inst sd price q.toNat B q
structure RunI where
 s:MSt
 p:Prd
 B:List (List zD)
 inst:Int
 sd:Bool
 price:Int
 q:Int
def RunI.r (i:RunI):yJi:=x0 i.p i.B i.inst i.sd i.price i.q
def runC:Con where
 ι:=RunI
 pat:=fun i=>[.nm 0 0,zA i.inst,zA (zB i.sd),zA i.price,zA i.q]
 pre:=fun i=>[zE i.s]
 cnd:=fun i=>i.s.Rep i.p i.B∧BOk i.p i.B∧(0≤i.inst∧i.inst<i.B.length)∧1≤i.q∧i.q≤1000000
 alts:=fun i=>[{o:=MSt,res:=fun _=> .tup [.own 1,zA i.r.left],post:=fun s=>[zE s,.own 158 4 (i.r.steps.map jX)],rel:=fun s=>s.Rep i.p i.r.B}]
structure zMr where
 s:MSt
 B:List (List zD)
 steps:List kM
 q:Int
def yRh:List SAnn:=[
 {ι:=zMr,slots:=fun j=>[(0,.nm 0 0),(12,.own 1),(4,zA j.q)],rows:=fun j=>[zE j.s,.own 158 4 (j.steps.map jX)]},
 {ι:=Unit,slots:=fun _=>[],rows:=fun _=>[],un:=3}]
open Go Cv Go.Proofs
def zMc (a:zMr→Nat) (b:zMr) (c:zMr) (d:RunI):Prop:=a b<a c∧AObj.fro 1 (iE d.s.p.months)=AObj.fro 1 (iE d.s.p.months)∧AObj.fro 1 (iE d.s.p.settle)=AObj.fro 1 (iE d.s.p.settle)
def zCf (a:TrI):Prop:=a.s.Rep a.p a.B∧BOk a.p a.B∧0≤a.inst∧a.inst<(↑a.B.length:Int)∧(-9223372036854775808)≤a.q∧a.q≤9223372036854775807
def zJy (a:RunI) (b:zMr) (c:NxI):Prop:=∃(d:MSt),a.r.left=b.q∧zE d=zE c.s∧List.map jX a.r.steps=List.map jX b.steps∧d.Rep a.p a.r.B
def sU (a:TrI):=(List.map yV (hZ a))
def zYt (a:RunI):Prop:=∃(b:zMr),b.q=a.q∧sb b.s.p.code=sb a.s.p.code∧b.s.p.tick=a.s.p.tick∧b.s.p.low=a.s.p.low∧b.s.p.high=a.s.p.high∧b.s.p.wide=a.s.p.wide∧b.s.p.rule=a.s.p.rule∧b.s.p.top=a.s.p.top∧b.s.p.least=a.s.p.least∧b.s.p.part=a.s.p.part∧AObj.objs 102 Book 6 zR b.s.books none=AObj.objs 102 Book 6 zR a.s.books none∧zY b.s.wh=zY a.s.wh∧AObj.fro 1 (iE b.s.p.months)=AObj.fro 1 (iE a.s.p.months)∧AObj.fro 1 (iE b.s.p.settle)=AObj.fro 1 (iE a.s.p.settle)∧List.map jX b.steps=[]∧∃(c:zMr→Prop),∃(d:zMr→Nat),c b∧∀(e:zMr),c e→cnd (decide (e.q>0)) (∃(f:Bool),zB f=zB a.sd∧True∧∀(g:Unit),True→∃(h:NxI),h.inst=a.inst∧zB h.sd=zB !f∧zE h.s=zE e.s∧(h.s.Rep h.p h.B∧BOk h.p h.B∧0≤h.inst∧h.inst<(↑h.B.length:Int))∧∀(j:Unit),True→cnd (!(zZ h).snd.snd) (zJy a e h) (∃(k:GoI),zB k.s=zB a.sd∧k.p=a.price∧k.x=(zZ h).fst.price∧True∧∀(l:Unit),True→cnd (!jA k.s k.p k.x) (zJy a e h) (cnd (zZ h).snd.fst (∃(m:TrI),m.inst=(zZ h).fst.a.inst∧zB m.sd=(zZ h).fst.a.side∧m.q=min e.q (zZ h).fst.qty∧zE m.s=zE h.s∧(zCf m)∧∀(n:MSt),n.Rep m.p (fZ m)→True∧(sU m).length*(48:Nat)≤(70368744177664:Nat)∧∃(p:TrI),p.inst=(zZ h).fst.b.inst∧zB p.sd=(zZ h).fst.b.side∧p.q=min e.q (zZ h).fst.qty∧zE p.s=zE n∧(zCf p)∧∀(q:MSt),q.Rep p.p (fZ p)→True∧((sU m).length+(sU p).length)*(48:Nat)≤(70368744177664:Nat)∧((List.map jX e.steps).length+1)*(48:Nat)≤(70368744177664:Nat)∧∃(r:zMr),r.q=IntKind.i64.wrap (e.q-min e.q (zZ h).fst.qty)∧zE r.s=zE q∧List.map jX r.steps=List.map jX e.steps++[[dI ((zZ h).fst.price),dI (min e.q (zZ h).fst.qty),D.v (.bool (zZ h).snd.fst),D.ro 6 (List.map yV (hZ m)++List.map yV (hZ p))]]∧c r∧zMc d r e a) (∃(m:Bool),zB m=zB a.sd∧True∧∀(n:Unit),True→min e.q (zZ h).fst.qty=min e.q (zZ h).fst.qty∧∃(p:TrI),p.inst=a.inst∧zB p.sd=zB !m∧p.q=min e.q (zZ h).fst.qty∧zE p.s=zE h.s∧(zCf p)∧∀(q:MSt),q.Rep p.p (fZ p)→((List.map jX e.steps).length+1)*(48:Nat)≤(70368744177664:Nat)∧∃(r:zMr),r.q=IntKind.i64.wrap (e.q-min e.q (zZ h).fst.qty)∧zE r.s=zE q∧List.map jX r.steps=List.map jX e.steps++[[dI ((zZ h).fst.price),dI (min e.q (zZ h).fst.qty),D.v (.bool (zZ h).snd.fst),D.ro 6 (sU p)]]∧c r∧zMc d r e a)))) (∃(f:MSt),a.r.left=e.q∧zE f=zE e.s∧List.map jX a.r.steps=List.map jX e.steps∧f.Rep a.p a.r.B)
def aJ (a:RunI):Prop:=∃(b:MSt),a.r.left=a.q∧sb b.p.code=sb a.s.p.code∧b.p.tick=a.s.p.tick∧b.p.low=a.s.p.low∧b.p.high=a.s.p.high∧b.p.wide=a.s.p.wide∧b.p.rule=a.s.p.rule∧b.p.top=a.s.p.top∧b.p.least=a.s.p.least∧b.p.part=a.s.p.part∧AObj.objs 102 Book 6 zR b.books none=AObj.objs 102 Book 6 zR a.s.books none∧zY b.wh=zY a.s.wh∧AObj.fro 1 (iE b.p.months)=AObj.fro 1 (iE a.s.p.months)∧AObj.fro 1 (iE b.p.settle)=AObj.fro 1 (iE a.s.p.settle)∧List.map jX a.r.steps=[]∧b.Rep a.p a.r.B
def yQe (i:RunI):Prop:=
 cnd (decide (i.inst≥0)) (cnd (decide (i.inst<(↑i.s.books.length:Int))) (cnd (zB i.sd==1) (cnd (decide (i.q≥1)) (cnd (!decide (i.q≤1000000)) (aJ i) (zYt i)) (aJ i)) (cnd (zB i.sd==2) (cnd (decide (i.q≥1)) (cnd (!decide (i.q≤1000000)) (aJ i) (zYt i)) (aJ i)) (aJ i))) (aJ i)) (aJ i)
end Sx
