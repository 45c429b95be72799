/- Texts of ours, one behind the other: a walk that the kernel reckons, and contracts of functions. No condition. -/
import Derived.Test.YtpgpnnncaidcjaaGreatM7
namespace Sx
set_option linter.unusedVariables false
set_option maxRecDepth 100000
open Go Cv Go.Proofs
def zEb (i:BoI):Prop:=
 ∃(i_1:ArL),i_1.n=i.r.queue∧AObj.adt Arena 3 zD i_1.a=AObj.adt Arena 3 zD i.b.a∧i_1.a.listOk i_1.n i_1.l∧∀(o:Unit),True→∃(i0:Nat),(↑i0:Int)=0∧List.map qC (List.take i0 i.ords)=[]∧∃(I:Nat→Prop),∃(μ:Nat→Nat),I i0∧∀(i_2:Nat),I i_2→cnd (decide ((↑i_2:Int)<(↑(List.map fQ (i_1.a.ents i_1.l)).length:Int))) ((0≤(↑i_2:Int)∧(↑i_2:Int)<(↑(List.map fQ (i_1.a.ents i_1.l)).length:Int))∧∃(n:Int),∃(n_1:Int),∃(n_2:Int),∃(b:Bool),zI (List.map fQ (i_1.a.ents i_1.l)) (↑i_2:Int).toNat 0 4=some [D.v (.int .i64 n),D.v (.int .i64 n_1),D.v (.int .i64 n_2),D.v (.bool b)]∧((List.map qC (List.take i_2 i.ords)).length+1)*(40:Nat)≤(70368744177664:Nat)∧∃(i':Nat),(↑i':Int)=IntKind.i64.wrap ((↑i_2:Int)+1)∧List.map qC (List.take i' i.ords)=List.map qC (List.take i_2 i.ords)++[[D.v (.int .i64 n_1),D.v (.int .i64 i.s),D.v (.int .i64 i.r.price),D.v (.int .i64 n_2),D.v (.bool b)]]∧I i'∧μ i'<μ i_2∧AObj.adt Arena 3 zD i_1.a=AObj.adt Arena 3 zD i_1.a∧AObj.own 168 4 (List.map fQ (i_1.a.ents i_1.l))=AObj.own 168 4 (List.map fQ (i_1.a.ents i_1.l))∧Sx.AObj.cells [V.d (D.v (.int .i64 i.r.price)),V.d (D.v (.int .i64 i.r.queue))] 147=Sx.AObj.cells [V.d (D.v (.int .i64 i.r.price)),V.d (D.v (.int .i64 i.r.queue))] 147∧Sx.AObj.cells (uR (k7 0 1 6) [V.nm 1 0,V.own 2,V.own 3,V.mp 4,zC i.b.top1,zC i.b.top2,V.own 5,yJ i.b.has1,yJ i.b.has2]) (144:TypeId)=Sx.AObj.cells (uR (k7 0 1 6) [V.nm 1 0,V.own 2,V.own 3,V.mp 4,zC i.b.top1,zC i.b.top2,V.own 5,yJ i.b.has1,yJ i.b.has2]) (144:TypeId)∧AObj.own 147 2 (List.map zA i.b.buys)=AObj.own 147 2 (List.map zA i.b.buys)∧AObj.own 147 2 (List.map zA i.b.sells)=AObj.own 147 2 (List.map zA i.b.sells)∧Sx.AObj.map (atE i.b.at_)=Sx.AObj.map (atE i.b.at_)∧AObj.own 3 1 (iE i.b.spare)=AObj.own 3 1 (iE i.b.spare)) (∃(o:Unit),i.b.top1=i.b.top1∧i.b.top2=i.b.top2∧i.b.has1=i.b.has1∧i.b.has2=i.b.has2∧AObj.adt Arena 3 zD i.b.a=AObj.adt Arena 3 zD i_1.a∧List.map zA i.b.buys=List.map zA i.b.buys∧List.map zA i.b.sells=List.map zA i.b.sells∧atE i.b.at_=atE i.b.at_∧iE i.b.spare=iE i.b.spare∧List.map qC i.ords=List.map qC (List.take i_2 i.ords)∧True)
theorem zUp (hG:GOk Tryz.prog ([(140,alistC)])) (h:∀(i:BoI),ordersC.cnd i→zEb i):ordersC.ok Tryz.prog 127:=okw mixed hG 0 (fun _=>[]) (fun i=>z2w i) [0] Tryz.func127 h
set_option linter.unusedSimpArgs false
open Go Cv Go.Proofs
theorem yEa {l:List Ent} {k:Nat} {e:Ent} (h:l[k]? =some e):zI (l.map fQ) k 0 4=some [D.v (.int .i64 e.slot),.v (.int .i64 e.id),.v (.int .i64 e.qty),.v (.bool e.top)]:=elA h (by simp[fQ]) rfl
theorem z3e (i:BoI) (h:ordersC.cnd i):zEb i:=by
 have h:i.b.a.listOk i.r.queue i.l:=h
 have hl:=h.len
 have hen:(i.b.a.ents i.l).length=i.l.length:=by simp[Arena.ents]
 have hol:i.ords.length=i.l.length:=by simp[BoI.ords,Arena.ents]
 unfold zEb
 refine⟨⟨i.b.a,i.r.queue,i.l⟩,rfl,rfl,h,fun _ _=> ?_⟩
 simp only[List.length_map]
 refine⟨0,rfl,rfl,fun j=>j≤i.l.length,fun j=>i.l.length-j,Nat.zero_le _,fun j hj=>zU (fun c=> ?_) (fun c=> ?_)⟩
 ·obtain⟨e,he⟩:=yD (l:=i.b.a.ents i.l) (i:=j) (by omega)
  have ho:i.ords[j]? =some ⟨e.id,i.s,i.r.price,e.qty,e.top⟩:=by rw[BoI.ords,List.getElem?_map,he];rfl
  refine⟨⟨by omega,by omega⟩,e.slot,e.id,e.qty,e.top,yEa he,by rw[List.length_take];omega,j+1,wjn (by omega),?_,by omega,by dsimp only;omega,by(repeat'(first|exact trivial|exact rfl|apply And.intro))⟩
  rw[List.take_add_one,ho];simp[qC]
 ·have hje:j=i.l.length:=by omega
  subst hje
  rw[List.take_of_length_le (l:=i.ords) (by omega)]
  exact kp
theorem zAr:ordersC.ok Tryz.prog 127:=zUp (gokc zXa gok0) z3e
open Go Go.RowKit Cv
theorem zGo {P:Program} {tS rt e sz by_:Nat} {z:Array Value} (hi:jC P tS=some (e,sz,by_,z)) {w:World} {g i c n k:Nat} {A:Option Addr} {cur src:List Value} {T:TypeId}
 (hg:w.heap[g]? =some (.cells cur.toArray T (0,0))) (hs:(Builtin.firstCells sz n (.slice A n k)).run P w= .ok src.toArray w) (hl:src.length=n*sz) (hfit:i+n≤c) (hroom:i*sz+n*sz≤cur.length) (hone:∀v∈src,v.oneC=true):
 jS P (Builtin.append_ #[tS,tS] rt #[.slice (some ⟨g,0,none⟩) i c,.slice A n k]) w (.slice (some ⟨g,0,none⟩) (i+n) c) (World.setB w g (.cells (spl cur (i*sz) src).toArray T (0,0))):=by
 obtain⟨inf,zv,q1,q2,rfl,rfl,q5,rfl⟩:=x4 hi
 have hst:=xN (P:=P) src 0 (i*inf.size) cur w hg (by omega) hone
 simp only[Nat.add_zero]at hst
 have hln:∀w,(Builtin.lenOf (.slice A n k)).run P w= .ok n w:=fun w=>rfl
 unfold jS Builtin.append_
 simp only[List.getElem?_toArray,List.getElem?_cons_zero,List.getElem?_cons_succ,bind,pure,run_bind,Sem.bind,Sem.run,Cv.run_underlying q1,Cv.run_sizeOf q2,Bool.false_eq_true,if_false,hs,hln,hfit,if_true,jA,Nat.zero_add,hst,Bool.not_false]
theorem zLq {P:Program} {tS ty e sz by_:Nat} {z:Array Value} (hi:jC P tS=some (e,sz,by_,z)) (hz:z.size=sz) (h1:∀v∈z.toList,v.oneC=true) {w:World} {g o n c:Nat} {cur:List Value} {T:TypeId} (hn:0<n)
 (hg:w.heap[g]? =some (.cells cur.toArray T (0,0))) (hroom:o+n*sz≤cur.length):
 jS P (Builtin.clear_ #[tS] ty #[.slice (some ⟨g,o,none⟩) n c]) w (.tuple #[]) (World.setB w g (.cells (spl cur o (Builtin.zeroCells z n).toList).toArray T (0,0))):=by
 obtain⟨inf,zv,q1,q2,rfl,rfl,q5,rfl⟩:=x4 hi
 have hlz:(Builtin.zeroCells zv.cells n).toList.length=n*inf.size:=by rw[Array.length_toList,size_zeroCells,hz]
 have hst:=xN (P:=P) (Builtin.zeroCells zv.cells n).toList 0 o cur w hg (by omega) (by
  intro v hv
  obtain⟨i,hi,rfl⟩:=List.getElem_of_mem hv
  simp only[Builtin.zeroCells,Array.getElem_toList,Array.getElem_map,Array.getElem_range]
  have hpos:0<zv.cells.size:=by
   rcases Nat.eq_zero_or_pos zv.cells.size with h0|h0
   ·rw[hlz,← hz,h0]at hi;omega
   ·exact h0
  have hlt:i % zv.cells.size<zv.cells.size:=Nat.mod_lt _ hpos
  rw[getElem!_pos zv.cells (i % zv.cells.size) hlt]
  exact h1 _ (by simp))
 simp only[Nat.add_zero]at hst
 have hzr:∀w,(zeroValue e).run P w= .ok zv w:=fun w=>zero_run (by unfold zero?;rw[q2];exact q5) w
 obtain⟨m,rfl⟩:∃m,n=m+1:=⟨n-1,by omega⟩
 unfold jS Builtin.clear_
 simp only[List.getElem?_toArray,List.getElem?_cons_zero,List.getElem?_cons_succ,bind,pure,run_bind,Sem.bind,Sem.run,Cv.run_underlying q1,hzr,hst]
def z7y (P:Program) (tS sz:Nat) (s:Option Addr) (sn sk:Nat) (i j:Int) (w:World) (R:Ending→World→Prop):Prop:=
z6b s sk i j (sn:Int) sz fun a1 na1 ka1=>
cnd ((i:Int)==j) (
R (.returned (.slice s sn sk)) w) (
DrewN w fun w2=>
slN s sn sk none (some i) sz fun a3 na3 ka3=>
slN s sn sk (some j) none sz fun a4 na4 ka4=>
∃(a5:Option Addr) (na5 ka5:Nat),∃w6:World,jS P (Builtin.append_ #[tS,tS] tS #[.slice a3 na3 ka3,.slice a4 na4 ka4]) w2 (.slice a5 na5 ka5) w6∧
slN a5 na5 ka5 (some (na5:Int)) (some (sn:Int)) sz fun a7 na7 ka7=>
∃w8:World,jS P (Builtin.clear_ #[tS] 0 #[.slice a7 na7 ka7]) w6 (.tuple #[]) w8∧
R (.returned (.slice a5 na5 ka5)) w8)
theorem yCw {P:Program} {tS e sz by_:Nat} {z:Array Value} (hi:jC P tS=some (e,sz,by_,z)) (hz:z.size=sz) (hz1:∀v∈z.toList,v.oneC=true)
 {k:Ko} {w:World} {L:List HP} {s:Option Addr} {sn sk i j:Nat} {xs:List Value} (H:Hp k w (slO e sz s sn sk xs::L)) (h1:∀u∈xs,u.oneC=true) (hij:i<j) (hj:j≤sn):
 z7y P tS sz s sn sk i j w fun en w'=>∃a kk,en= .returned (.slice a (sn-(j-i)) kk)∧Hp k w' (slO e sz a (sn-(j-i)) kk (xs.take (i*sz)++xs.drop (j*sz))::L):=by
 obtain⟨hxl,hnk⟩:=H.len
 rcases H.slcases with⟨_,e0,_⟩|⟨b,r,rfl,g1,g2,g3,H0⟩
 ·omega
 have hle:i*sz≤xs.length:=by rw[hxl];exact Nat.mul_le_mul_right _ (by omega)
 have hjle:j*sz≤xs.length:=by rw[hxl];exact Nat.mul_le_mul_right _ hj
 have hdl:(xs.drop (j*sz)).length=(sn-j)*sz:=by rw[List.length_drop,hxl,Nat.sub_mul]
 have hsum:i*sz+(sn-j)*sz=(sn-(j-i))*sz:=by rw[← Nat.add_mul];congr 1;omega
 have hsum2:i*sz+(sn-j)*sz+(j-i)*sz=sn*sz:=by rw[← Nat.add_mul,← Nat.add_mul];congr 1;omega
 have hsum3:j*sz+(sn-j)*sz=sn*sz:=by rw[← Nat.add_mul];congr 1;omega
 have hlen:(xs++r).length=xs.length+r.length:=List.length_append
 unfold z7y
 simp only[z6b,slN,Int.toNat_natCast]
 refine⟨⟨by omega,by omega,by omega,by omega⟩,Cv.cnd.mk (fun c=>absurd c (by simp;omega)) fun _=> ?_⟩
 rintro _ rfl
 have H1:=H0.drew
 have hsrc:(Builtin.firstCells sz (sn-j) (.slice (if sk=j then some ⟨b,0,none⟩else(some ⟨b,0,none⟩:Option Addr).map (·.add (j*sz))) (sn-j) (sk-j))).run P w.drew= .ok (xs.drop (j*sz)).toArray w.drew:=by
  by_cases h0:(sn-j)*sz=0
  ·have:xs.drop (j*sz)=[]:=List.eq_nil_of_length_eq_zero (by omega)
   rw[this]
   by_cases hk:sk=j
   ·rw[if_pos hk];unfold Builtin.firstCells;rw[h0];rfl
   ·rw[if_neg hk,Option.map_some,jA];unfold Builtin.firstCells;rw[h0];rfl
  ·have hk:sk≠j:=by rintro rfl;have:sn-sk=0:=by omega
                    rw[this]at h0;simp at h0
   rw[if_neg hk,Option.map_some,jA]
   unfold Builtin.firstCells
   rw[jF H1.get (by rw[hlen];omega)]
   rw[Nat.zero_add,List.drop_append_of_le_length hjle,List.take_append_of_le_length (by omega),List.take_of_length_le (by omega)]
 refine⟨⟨by omega,by omega⟩,⟨by omega,by omega,hnk⟩,_,_,_,_,zGo (i:=i) (c:=sk) hi H1.get hsrc hdl (by omega) (by rw[hlen];omega) (fun v hv=>h1 v (List.mem_of_mem_drop hv)),⟨by omega,by omega,by omega⟩,?_⟩
 have H2:=H1.upd (.cells (spl (xs++r) (i*sz) (xs.drop (j*sz))).toArray e)
 have e1:i+(sn-j)=sn-(j-i):=by omega
 rw[if_neg (show sk≠i+(sn-j)by omega),Option.map_some,jA,Nat.zero_add,e1]
 have espl:spl (xs++r) (i*sz) (xs.drop (j*sz))=(xs.take (i*sz)++xs.drop (j*sz))++(xs++r).drop ((sn-(j-i))*sz):=by
  simp only[spl]
  rw[List.take_append_of_le_length hle,hdl,hsum]
 rw[espl]at H2
 have hA:(xs.take (i*sz)++xs.drop (j*sz)).length=(sn-(j-i))*sz:=by
  rw[List.length_append,List.length_take,hdl];omega
 have hB:((xs++r).drop ((sn-(j-i))*sz)).length=(j-i)*sz+r.length:=by
  rw[List.length_drop,hlen];omega
 rw[espl]
 have hn:sn-(sn-(j-i))=j-i:=by omega
 rw[hn]
 refine⟨_,zLq hi hz hz1 (by omega) H2.get (by rw[List.length_append,hA,hB];omega),_,_,rfl,?_⟩
 have H3:=H2.upd (.cells (spl (xs.take (i*sz)++xs.drop (j*sz)++(xs++r).drop ((sn-(j-i))*sz)) ((sn-(j-i))*sz) (Builtin.zeroCells z (j-i)).toList).toArray e)
 have es:=zBo (xs.take (i*sz)++xs.drop (j*sz)) ((xs++r).drop ((sn-(j-i))*sz)) (Builtin.zeroCells z (j-i)).toList
 rw[hA]at es
 rw[es]at H3
 rw[es]
 rw[List.append_assoc (xs.take (i*sz)++xs.drop (j*sz))]at H3 ⊢
 have hzl:(Builtin.zeroCells z (j-i)).toList.length=(j-i)*sz:=by rw[Array.length_toList,size_zeroCells,hz]
 refine H3.slmk hA ?_ (by omega)
 rw[List.length_append,hA,List.length_append,hzl,List.length_drop,hB,← g2,hlen,hxl]
 omega
structure zVo where
 els:List (List D)
 i:Nat
 j:Nat
def z6m (e sz:Nat):Con where
 ι:=zVo
 pat:=fun i=>[.own 0,.d (.v (.int .i64 i.i)),.d (.v (.int .i64 i.j))]
 pre:=fun i=>[.own e sz i.els]
 cnd:=fun i=>i.i<i.j∧i.j≤i.els.length
 alts:=fun i=>[{o:=Unit,res:=fun _=> .own 1,post:=fun _=>[.gone,.own e sz (i.els.take i.i++i.els.drop i.j)],rel:=fun _=>True}]
theorem delX_ok {P:Program} (hm:P.follows .mixedOrders=true) {tS e sz by_ fI:Nat} {z:Array Value} {fn:Func} {c:Code} (hf:P.funcs[fI]? =some fn) (hb:fn.body=some c) (hbd:kX P fI=true) (hok:okC fn.ntmps c=true) (hfx:okF [] c=true) (hsz3:Nat.ble 3 fn.ntmps=true)
 (hi:jC P tS=some (e,sz,by_,z)) (hz:z.size=sz) (hz1:∀v∈z.toList,v.oneC=true)
 (heq:∀(s:Option Addr) (sn sk:Nat) (i j:Int) (w:World) (R:Ending→World→Prop),z7y P tS sz s sn sk i j w R=cwp P [] c (zCa P fn R) (kT [.slice s sn sk,.int .i64 i,.int .i64 j]) w):
 (z6m e sz).ok P fI:=by
 intro i hc k L E w ys R hv
 obtain⟨c1,c2⟩:i.i<i.j∧i.j≤i.els.length:=hc
 simp only[z6m,VRL,VR,DR]at hv
 obtain⟨y0,_,rfl,⟨l0,e0,_⟩,y1,_,rfl,⟨rfl,_⟩,y2,_,rfl,⟨rfl,_⟩,rfl⟩:=hv
 obtain⟨s,sk,xs,sub0,g1,hxs,hu,H⟩:=R.ownOpen (n:=0) (t:=e) (sz:=sz) (els:=i.els) rfl
 rw[e0]at g1;cases g1
 have H2:Hp k w (slO e sz s i.els.length sk xs::fz E.F::L):=H
 have hv:=yCw hi hz hz1 H2 hxs.one c1 c2
 have hcall:=nR (args:=[.slice s i.els.length sk,.int .i64 i.i,.int .i64 i.j]) hm hf hb [] hok hfx hsz3 (heq s i.els.length sk i.i i.j w _) hv
 refine cT hbd (hcall.mono ?_)
 rintro en w' ⟨a,kk,rfl,H3⟩
 have hl:(i.els.take i.i++i.els.drop i.j).length=i.els.length-(i.j-i.i):=by
  rw[List.length_append,List.length_take,List.length_drop];omega
 have H4:Hp k w' (slO e sz a (i.els.take i.i++i.els.drop i.j).length kk (xs.take (i.i*sz)++xs.drop (i.j*sz))::(([]:List (Nat×AObj)).map (rHP E)++fz E.F::L)):=by
  rw[hl]
  exact H3
 obtain⟨E',r1,r2,r3⟩:=vP (nx:=1) R.nx (by
  rw[List.flatten_append,← hJ i.i hu,← hD i.j hu]
  exact(hxs.take _).append (hxs.drop _)) (fun x hx=>by
   rcases List.mem_append.1 hx with hx|hx
   ·exact hu x (List.mem_of_mem_take hx)
   ·exact hu x (List.mem_of_mem_drop hx)) H4
 rw[hl]at r3
 refine⟨_,rfl,_,List.mem_singleton.2 rfl,(),trivial,E',r1,r3,⟨r2.nx,?_⟩⟩
 exact((@jM k w' True _).2 ⟨trivial,r2.hp⟩).imp (B:=rHP E' (0,.gone)) fun x hx=> .inl ⟨rfl,hx.2⟩
open Go Cv Go.Proofs
def uO (k:Int):List (Int×Place)→List (Int×Place)
 |[]=>[]
 |(a,b)::l=>if k=a then l else(a,b)::uO k l
structure DrI where
 b:Book
 id:Int
 price:Int
 slot:Int
def Book.unhas (b:Book) (s id:Int):Book:=if b.hasF s=true∧b.topI s=id then(if s=1 then{b with has1:=false}else{b with has2:=false})else b
def Book.dropF (b:Book) (s id price:Int):Book:=
 if(b.a.qAt ((b.rungs s).getD (zP s (b.rungs s) price) ⟨0,0⟩).queue).count=0 then
  ({b.unhas s id with at_:=uO id b.at_,spare:=b.spare++[((b.rungs s).getD (zP s (b.rungs s) price) ⟨0,0⟩).queue]}:Book).setR s ((b.rungs s).take (zP s (b.rungs s) price)++(b.rungs s).drop (zP s (b.rungs s) price+1))
 else{b.unhas s id with at_:=uO id b.at_}
def zZt (b:Book):AObj:= .cells [.nm 1 0,.own 6,.own 7,.mp 4,zC b.top1,zC b.top2,.own 8,yJ b.has1,yJ b.has2] 144
@[reducible] def z3y (b:Book):List AObj:=[zZt b,zM b 1,.gone,.gone,zM b 4,.gone,zM b 2,zM b 3,zM b 5]
@[reducible] def DrI.ok (i:DrI) (s:Int):Prop:=i.b.small∧zP s (i.b.rungs s) i.price<(i.b.rungs s).length
def zWc (s:Int):Con:=con1 DrI (fun i=>[.nm 0 0,zC i.id,.agg [zC s,zC i.price,zC i.slot]]) (fun i=>nZ i.b) (fun i=>i.ok s) (fun _=>zEn) (fun i=>z3y (i.b.dropF s i.id i.price))
def drop1C:Con:=zWc 1
def drop2C:Con:=zWc 2
structure DrJ where
 i:DrI
 s:Bool
def dropC:Con:=con1 DrJ (fun j=>[.nm 0 0,zC j.i.id,.agg [zC (zB j.s),zC j.i.price,zC j.i.slot]]) (fun j=>nZ j.i.b) (fun j=>j.i.ok (zB j.s)) (fun _=>zEn) (fun j=>z3y (j.i.b.dropF (zB j.s) j.i.id j.i.price))
def delRC:Con:=z6m 147 2
def z5r:zJ:=⟨0,0,0,0,false⟩
def j0 (L:List zJ) (id:Int):zJ:=(L.find? fun o=>decide (o.id=id)).getD z5r
def xM (L:List zJ) (id q:Int):List zJ:=L.filterMap fun o=>if o.id=id then(if o.qty=q then none else some {o with qty:=o.qty-q})else some o
def yW (L:List zJ) (id q:Int):List zJ×Int:=if yY L id=false then(L,26)else if q<1∨(j0 L id).qty<q then(L,24)else(xM L id q,0)
def atL (L:List zJ) (s p:Int):List zJ:=L.filter fun o=>decide (o.side=s) && decide (o.price=p)
def grp:List zJ→List Lv
 |[]=>[]
 |o::l=>match grp l with
  |[]=>[⟨o.price,o.qty,1⟩]
  |v::vs=>if v.price=o.price then⟨v.price,o.qty+v.qty,v.count+1⟩::vs else⟨o.price,o.qty,1⟩::v::vs
def eV (L:List zJ) (s:Int):List Lv:=grp (L.filter fun o=>decide (o.side=s))
def bestL (L:List zJ) (s:Int):Lv×Bool:=match eV L s with
 |[]=>(⟨0,0,0⟩,false)
 |v::_=>(v,true)
structure BkL where
 b:Book
 L:List zJ
structure FlI where
 b:Book
 L:List zJ
 id:Int
 qty:Int
structure AtI where
 b:Book
 L:List zJ
 s:Bool
 price:Int
def fillC:Con where
 ι:=FlI
 pat:=fun i=>[.nm 0 0,zC i.id,zC i.qty]
 pre:=fun i=>[yA i.b]
 cnd:=fun i=>i.b.Rep i.L
 alts:=fun i=>[{o:=Book,res:=fun _=>zC (yW i.L i.id i.qty).2,post:=fun b=>[yA b],rel:=fun b=>b.Rep (yW i.L i.id i.qty).1}]
def bfindC:Con:=con1 FlI (fun i=>[.nm 0 0,zC i.id]) (fun i=>[yA i.b]) (fun i=>i.b.Rep i.L) (fun i=> .tup [zRx (j0 i.L i.id),yJ (yY i.L i.id)]) (fun i=>[yA i.b])
def yAo (s:Bool):Con:=con1 AtI (fun i=>[.nm 0 0,zC (zB s),zC i.price]) (fun i=>[yA i.b]) (fun i=>i.b.Rep i.L) (fun _=> .own 1) (fun i=>[yA i.b,.own 68 5 ((atL i.L (zB s) i.price).map qC)])
def at1C:Con:=yAo false
def at2C:Con:=yAo true
def atC:Con:=con1 AtI (fun i=>[.nm 0 0,zC (zB i.s),zC i.price]) (fun i=>[yA i.b]) (fun i=>i.b.Rep i.L) (fun _=> .own 1) (fun i=>[yA i.b,.own 68 5 ((atL i.L (zB i.s) i.price).map qC)])
open Go Cv Go.Proofs
@[reducible] def tH (i:DrI):Prop:=∃(i_1:BkP),(1:Int)=(1:Int)∧i_1.price=i.price∧i_1.b.top1=i.b.top1∧i_1.b.top2=i.b.top2∧i_1.b.has1=i.b.has1∧i_1.b.has2=i.b.has2∧AObj.adt Arena 3 zD i_1.b.a=zM i.b 1∧List.map zA i_1.b.buys=List.map zA i.b.buys∧List.map zA i_1.b.sells=List.map zA i.b.sells∧atE i_1.b.at_=g9 (Value.int IntKind.i64 i.id) (atE i.b.at_)∧iE i_1.b.spare=iE i.b.spare∧((i_1.b.a.slots.length≤1000000∧i_1.b.a.queues.length≤1000000)∧i_1.b.buys.length≤1000000∧i_1.b.sells.length≤1000000∧i_1.b.spare.length≤1000000)∧∀(o:Unit),True→(0≤(↑(zP 1 (i_1.b.rungs 1) i_1.price):Int)∧(↑(zP 1 (i_1.b.rungs 1) i_1.price):Int)<(↑(List.map zA i_1.b.buys).length:Int))∧∃(n:Int),zI (List.map zA i_1.b.buys) (↑(zP 1 (i_1.b.rungs 1) i_1.price):Int).toNat ((0:Nat)+(1:Nat)) 1=some [D.v (.int .i64 n)]∧∃(i_2:ArN),i_2.n=n∧AObj.adt Arena 3 zD i_2.a=AObj.adt Arena 3 zD i_1.b.a∧True∧∀(o:Unit),True→cnd ((i_2.a.qAt i_2.n).count==0) (((iE i_1.b.spare).length+1)*(8:Nat)≤(70368744177664:Nat)∧∃(i_3:zVo),(↑i_3.i:Int)=(↑(zP 1 (i_1.b.rungs 1) i_1.price):Int)∧(↑i_3.j:Int)=IntKind.i64.wrap ((↑(zP 1 (i_1.b.rungs 1) i_1.price):Int)+1)∧i_3.els=List.map zA i_1.b.buys∧(i_3.i<i_3.j∧i_3.j≤i_3.els.length)∧∀(o:Unit),True→(1:Int)=(1:Int)∧∃(o:Unit),(i.b.dropF 1 i.id i.price).top1=i_1.b.top1∧(i.b.dropF 1 i.id i.price).top2=i_1.b.top2∧(i.b.dropF 1 i.id i.price).has1=i_1.b.has1∧(i.b.dropF 1 i.id i.price).has2=i_1.b.has2∧AObj.adt Arena 3 zD (i.b.dropF 1 i.id i.price).a=AObj.adt Arena 3 zD i_2.a∧atE (i.b.dropF 1 i.id i.price).at_=atE i_1.b.at_∧List.map zA (i.b.dropF 1 i.id i.price).buys=List.take i_3.i i_3.els++List.drop i_3.j i_3.els∧List.map zA (i.b.dropF 1 i.id i.price).sells=List.map zA i_1.b.sells∧iE (i.b.dropF 1 i.id i.price).spare=iE i_1.b.spare++[[D.v (.int .i64 n)]]∧True) (∃(o:Unit),(i.b.dropF 1 i.id i.price).top1=i_1.b.top1∧(i.b.dropF 1 i.id i.price).top2=i_1.b.top2∧(i.b.dropF 1 i.id i.price).has1=i_1.b.has1∧(i.b.dropF 1 i.id i.price).has2=i_1.b.has2∧AObj.adt Arena 3 zD (i.b.dropF 1 i.id i.price).a=AObj.adt Arena 3 zD i_2.a∧atE (i.b.dropF 1 i.id i.price).at_=atE i_1.b.at_∧List.map zA (i.b.dropF 1 i.id i.price).buys=List.map zA i_1.b.buys∧List.map zA (i.b.dropF 1 i.id i.price).sells=List.map zA i_1.b.sells∧iE (i.b.dropF 1 i.id i.price).spare=iE i_1.b.spare∧True)
def zIq (i:DrI):Prop:=
 (∀(p:Value×List D),p∈atE i.b.at_→like (Value.int IntKind.i64 i.id) p.fst=true)∧cnd i.b.has1 (cnd (i.b.top1==i.id) (∃(i_1:BkP),(1:Int)=(1:Int)∧i_1.price=i.price∧i_1.b.top1=i.b.top1∧i_1.b.top2=i.b.top2∧i_1.b.has1=false∧i_1.b.has2=i.b.has2∧AObj.adt Arena 3 zD i_1.b.a=zM i.b 1∧List.map zA i_1.b.buys=List.map zA i.b.buys∧List.map zA i_1.b.sells=List.map zA i.b.sells∧atE i_1.b.at_=g9 (Value.int IntKind.i64 i.id) (atE i.b.at_)∧iE i_1.b.spare=iE i.b.spare∧((i_1.b.a.slots.length≤1000000∧i_1.b.a.queues.length≤1000000)∧i_1.b.buys.length≤1000000∧i_1.b.sells.length≤1000000∧i_1.b.spare.length≤1000000)∧∀(o:Unit),True→(0≤(↑(zP 1 (i_1.b.rungs 1) i_1.price):Int)∧(↑(zP 1 (i_1.b.rungs 1) i_1.price):Int)<(↑(List.map zA i_1.b.buys).length:Int))∧∃(n:Int),zI (List.map zA i_1.b.buys) (↑(zP 1 (i_1.b.rungs 1) i_1.price):Int).toNat ((0:Nat)+(1:Nat)) 1=some [D.v (.int .i64 n)]∧∃(i_2:ArN),i_2.n=n∧AObj.adt Arena 3 zD i_2.a=AObj.adt Arena 3 zD i_1.b.a∧True∧∀(o:Unit),True→cnd ((i_2.a.qAt i_2.n).count==0) (((iE i_1.b.spare).length+1)*(8:Nat)≤(70368744177664:Nat)∧∃(i_3:zVo),(↑i_3.i:Int)=(↑(zP 1 (i_1.b.rungs 1) i_1.price):Int)∧(↑i_3.j:Int)=IntKind.i64.wrap ((↑(zP 1 (i_1.b.rungs 1) i_1.price):Int)+1)∧i_3.els=List.map zA i_1.b.buys∧(i_3.i<i_3.j∧i_3.j≤i_3.els.length)∧∀(o:Unit),True→(1:Int)=(1:Int)∧∃(o:Unit),(i.b.dropF 1 i.id i.price).top1=i_1.b.top1∧(i.b.dropF 1 i.id i.price).top2=i_1.b.top2∧(i.b.dropF 1 i.id i.price).has1=i_1.b.has1∧(i.b.dropF 1 i.id i.price).has2=i_1.b.has2∧AObj.adt Arena 3 zD (i.b.dropF 1 i.id i.price).a=AObj.adt Arena 3 zD i_2.a∧atE (i.b.dropF 1 i.id i.price).at_=atE i_1.b.at_∧List.map zA (i.b.dropF 1 i.id i.price).buys=List.take i_3.i i_3.els++List.drop i_3.j i_3.els∧List.map zA (i.b.dropF 1 i.id i.price).sells=List.map zA i_1.b.sells∧iE (i.b.dropF 1 i.id i.price).spare=iE i_1.b.spare++[[D.v (.int .i64 n)]]∧True) (∃(o:Unit),(i.b.dropF 1 i.id i.price).top1=i_1.b.top1∧(i.b.dropF 1 i.id i.price).top2=i_1.b.top2∧(i.b.dropF 1 i.id i.price).has1=i_1.b.has1∧(i.b.dropF 1 i.id i.price).has2=i_1.b.has2∧AObj.adt Arena 3 zD (i.b.dropF 1 i.id i.price).a=AObj.adt Arena 3 zD i_2.a∧atE (i.b.dropF 1 i.id i.price).at_=atE i_1.b.at_∧List.map zA (i.b.dropF 1 i.id i.price).buys=List.map zA i_1.b.buys∧List.map zA (i.b.dropF 1 i.id i.price).sells=List.map zA i_1.b.sells∧iE (i.b.dropF 1 i.id i.price).spare=iE i_1.b.spare∧True)) (tH i)) (tH i)
theorem z0j (hG:GOk Tryz.prog ([(126,find1C),(107,acountC),(139,delRC)])) (h:∀(i:DrI),drop1C.cnd i→zIq i):drop1C.ok Tryz.prog 121:=okw mixed hG 0 (fun _=>[]) (fun _=>[]) [] Tryz.func121 h
@[reducible] def tT (i:DrI):Prop:=∃(i_1:BkP),(2:Int)=(2:Int)∧i_1.price=i.price∧i_1.b.top1=i.b.top1∧i_1.b.top2=i.b.top2∧i_1.b.has1=i.b.has1∧i_1.b.has2=i.b.has2∧AObj.adt Arena 3 zD i_1.b.a=zM i.b 1∧List.map zA i_1.b.buys=List.map zA i.b.buys∧List.map zA i_1.b.sells=List.map zA i.b.sells∧atE i_1.b.at_=g9 (Value.int IntKind.i64 i.id) (atE i.b.at_)∧iE i_1.b.spare=iE i.b.spare∧((i_1.b.a.slots.length≤1000000∧i_1.b.a.queues.length≤1000000)∧i_1.b.buys.length≤1000000∧i_1.b.sells.length≤1000000∧i_1.b.spare.length≤1000000)∧∀(o:Unit),True→(0≤(↑(zP 2 (i_1.b.rungs 2) i_1.price):Int)∧(↑(zP 2 (i_1.b.rungs 2) i_1.price):Int)<(↑(List.map zA i_1.b.sells).length:Int))∧∃(n:Int),zI (List.map zA i_1.b.sells) (↑(zP 2 (i_1.b.rungs 2) i_1.price):Int).toNat ((0:Nat)+(1:Nat)) 1=some [D.v (.int .i64 n)]∧∃(i_2:ArN),i_2.n=n∧AObj.adt Arena 3 zD i_2.a=AObj.adt Arena 3 zD i_1.b.a∧True∧∀(o:Unit),True→cnd ((i_2.a.qAt i_2.n).count==0) (((iE i_1.b.spare).length+1)*(8:Nat)≤(70368744177664:Nat)∧∃(i_3:zVo),(↑i_3.i:Int)=(↑(zP 2 (i_1.b.rungs 2) i_1.price):Int)∧(↑i_3.j:Int)=IntKind.i64.wrap ((↑(zP 2 (i_1.b.rungs 2) i_1.price):Int)+1)∧i_3.els=List.map zA i_1.b.sells∧(i_3.i<i_3.j∧i_3.j≤i_3.els.length)∧∀(o:Unit),True→(2:Int)=(2:Int)∧∃(o:Unit),(i.b.dropF 2 i.id i.price).top1=i_1.b.top1∧(i.b.dropF 2 i.id i.price).top2=i_1.b.top2∧(i.b.dropF 2 i.id i.price).has1=i_1.b.has1∧(i.b.dropF 2 i.id i.price).has2=i_1.b.has2∧AObj.adt Arena 3 zD (i.b.dropF 2 i.id i.price).a=AObj.adt Arena 3 zD i_2.a∧atE (i.b.dropF 2 i.id i.price).at_=atE i_1.b.at_∧List.map zA (i.b.dropF 2 i.id i.price).buys=List.map zA i_1.b.buys∧List.map zA (i.b.dropF 2 i.id i.price).sells=List.take i_3.i i_3.els++List.drop i_3.j i_3.els∧iE (i.b.dropF 2 i.id i.price).spare=iE i_1.b.spare++[[D.v (.int .i64 n)]]∧True) (∃(o:Unit),(i.b.dropF 2 i.id i.price).top1=i_1.b.top1∧(i.b.dropF 2 i.id i.price).top2=i_1.b.top2∧(i.b.dropF 2 i.id i.price).has1=i_1.b.has1∧(i.b.dropF 2 i.id i.price).has2=i_1.b.has2∧AObj.adt Arena 3 zD (i.b.dropF 2 i.id i.price).a=AObj.adt Arena 3 zD i_2.a∧atE (i.b.dropF 2 i.id i.price).at_=atE i_1.b.at_∧List.map zA (i.b.dropF 2 i.id i.price).buys=List.map zA i_1.b.buys∧List.map zA (i.b.dropF 2 i.id i.price).sells=List.map zA i_1.b.sells∧iE (i.b.dropF 2 i.id i.price).spare=iE i_1.b.spare∧True)
def zJy (i:DrI):Prop:=
 (∀(p:Value×List D),p∈atE i.b.at_→like (Value.int IntKind.i64 i.id) p.fst=true)∧cnd i.b.has2 (cnd (i.b.top2==i.id) (∃(i_1:BkP),(2:Int)=(2:Int)∧i_1.price=i.price∧i_1.b.top1=i.b.top1∧i_1.b.top2=i.b.top2∧i_1.b.has1=i.b.has1∧i_1.b.has2=false∧AObj.adt Arena 3 zD i_1.b.a=zM i.b 1∧List.map zA i_1.b.buys=List.map zA i.b.buys∧List.map zA i_1.b.sells=List.map zA i.b.sells∧atE i_1.b.at_=g9 (Value.int IntKind.i64 i.id) (atE i.b.at_)∧iE i_1.b.spare=iE i.b.spare∧((i_1.b.a.slots.length≤1000000∧i_1.b.a.queues.length≤1000000)∧i_1.b.buys.length≤1000000∧i_1.b.sells.length≤1000000∧i_1.b.spare.length≤1000000)∧∀(o:Unit),True→(0≤(↑(zP 2 (i_1.b.rungs 2) i_1.price):Int)∧(↑(zP 2 (i_1.b.rungs 2) i_1.price):Int)<(↑(List.map zA i_1.b.sells).length:Int))∧∃(n:Int),zI (List.map zA i_1.b.sells) (↑(zP 2 (i_1.b.rungs 2) i_1.price):Int).toNat ((0:Nat)+(1:Nat)) 1=some [D.v (.int .i64 n)]∧∃(i_2:ArN),i_2.n=n∧AObj.adt Arena 3 zD i_2.a=AObj.adt Arena 3 zD i_1.b.a∧True∧∀(o:Unit),True→cnd ((i_2.a.qAt i_2.n).count==0) (((iE i_1.b.spare).length+1)*(8:Nat)≤(70368744177664:Nat)∧∃(i_3:zVo),(↑i_3.i:Int)=(↑(zP 2 (i_1.b.rungs 2) i_1.price):Int)∧(↑i_3.j:Int)=IntKind.i64.wrap ((↑(zP 2 (i_1.b.rungs 2) i_1.price):Int)+1)∧i_3.els=List.map zA i_1.b.sells∧(i_3.i<i_3.j∧i_3.j≤i_3.els.length)∧∀(o:Unit),True→(2:Int)=(2:Int)∧∃(o:Unit),(i.b.dropF 2 i.id i.price).top1=i_1.b.top1∧(i.b.dropF 2 i.id i.price).top2=i_1.b.top2∧(i.b.dropF 2 i.id i.price).has1=i_1.b.has1∧(i.b.dropF 2 i.id i.price).has2=i_1.b.has2∧AObj.adt Arena 3 zD (i.b.dropF 2 i.id i.price).a=AObj.adt Arena 3 zD i_2.a∧atE (i.b.dropF 2 i.id i.price).at_=atE i_1.b.at_∧List.map zA (i.b.dropF 2 i.id i.price).buys=List.map zA i_1.b.buys∧List.map zA (i.b.dropF 2 i.id i.price).sells=List.take i_3.i i_3.els++List.drop i_3.j i_3.els∧iE (i.b.dropF 2 i.id i.price).spare=iE i_1.b.spare++[[D.v (.int .i64 n)]]∧True) (∃(o:Unit),(i.b.dropF 2 i.id i.price).top1=i_1.b.top1∧(i.b.dropF 2 i.id i.price).top2=i_1.b.top2∧(i.b.dropF 2 i.id i.price).has1=i_1.b.has1∧(i.b.dropF 2 i.id i.price).has2=i_1.b.has2∧AObj.adt Arena 3 zD (i.b.dropF 2 i.id i.price).a=AObj.adt Arena 3 zD i_2.a∧atE (i.b.dropF 2 i.id i.price).at_=atE i_1.b.at_∧List.map zA (i.b.dropF 2 i.id i.price).buys=List.map zA i_1.b.buys∧List.map zA (i.b.dropF 2 i.id i.price).sells=List.map zA i_1.b.sells∧iE (i.b.dropF 2 i.id i.price).spare=iE i_1.b.spare∧True)) (tT i)) (tT i)
theorem z0x (hG:GOk Tryz.prog ([(126,find2C),(107,acountC),(139,delRC)])) (h:∀(i:DrI),drop2C.cnd i→zJy i):drop2C.ok Tryz.prog 121:=okw mixed hG 0 (fun _=>[]) (fun _=>[]) [] Tryz.func121 h
@[reducible] def rS (i:FlI) (b:Bool) (n:Int) (n_1:Int) (n_2:Int):Prop:=∃(i_1:ArN),i_1.n=n_2∧AObj.adt Arena 3 zD i_1.a=AObj.adt Arena 3 zD i.b.a∧i_1.a.slots.length≤1000000∧∀(o:Unit),True→∃(o:Unit),(j0 i.L i.id).id=i.id∧(j0 i.L i.id).side=n∧(j0 i.L i.id).price=n_1∧(j0 i.L i.id).qty=(i_1.a.getF i_1.n).fst.qty∧(j0 i.L i.id).top=(i_1.a.getF i_1.n).fst.top∧yY i.L i.id=true∧i.b.top1=i.b.top1∧i.b.top2=i.b.top2∧i.b.has1=i.b.has1∧i.b.has2=i.b.has2∧AObj.adt Arena 3 zD i.b.a=AObj.adt Arena 3 zD i_1.a∧List.map zA i.b.buys=List.map zA i.b.buys∧List.map zA i.b.sells=List.map zA i.b.sells∧atE i.b.at_=atE i.b.at_∧iE i.b.spare=iE i.b.spare∧True
def zKg (i:FlI):Prop:=
 (∀(p:Value×List D),p∈atE i.b.at_→like (Value.int IntKind.i64 i.id) p.fst=true)∧∃(b:Bool),∃(n:Int),∃(n_1:Int),∃(n_2:Int),(x0 (Value.int IntKind.i64 i.id) (atE i.b.at_)=some [D.v (.int .i64 n),D.v (.int .i64 n_1),D.v (.int .i64 n_2)]∧b=true∨x0 (Value.int IntKind.i64 i.id) (atE i.b.at_)=none∧[D.v (.int .i64 n),D.v (.int .i64 n_1),D.v (.int .i64 n_2)]=[D.v (.int .i64 0),D.v (.int .i64 0),D.v (.int .i64 0)]∧b=false)∧cnd (!b) (∃(o:Unit),(j0 i.L i.id).id=0∧(j0 i.L i.id).side=0∧(j0 i.L i.id).price=0∧(j0 i.L i.id).qty=0∧(j0 i.L i.id).top=false∧yY i.L i.id=false∧i.b.top1=i.b.top1∧i.b.top2=i.b.top2∧i.b.has1=i.b.has1∧i.b.has2=i.b.has2∧AObj.adt Arena 3 zD i.b.a=AObj.adt Arena 3 zD i.b.a∧List.map zA i.b.buys=List.map zA i.b.buys∧List.map zA i.b.sells=List.map zA i.b.sells∧atE i.b.at_=atE i.b.at_∧iE i.b.spare=iE i.b.spare∧True) ((rS i b n n_1 n_2)∧n_2=n_2∧True∧rS i b n n_1 n_2)
theorem zZk (hG:GOk Tryz.prog ([(99,agetC)])) (h:∀(i:FlI),bfindC.cnd i→zKg i):bfindC.ok Tryz.prog 75:=okw mixed hG 0 (fun _=>[]) (fun _=>[]) [0] Tryz.func75 h
@[reducible] def zCy (i:FlI) (b:Bool) (n:Int) (n_1:Int) (n_2:Int) (i_1:TkI) (o:Unit):Prop:=∃(i_2:ArN),i_2.n=n_2∧AObj.adt Arena 3 zD i_2.a=AObj.adt Arena 3 zD (i_1.a.takeF i_1.n i_1.qty).fst∧i_2.a.slots.length≤1000000∧∀(o:Unit),True→cnd (!(i_2.a.getF i_2.n).snd) (∃(i_3:DrJ),i_3.i.id=i.id∧zB i_3.s=n∧i_3.i.price=n_1∧i_3.i.slot=n_2∧i_3.i.b.top1=i.b.top1∧i_3.i.b.top2=i.b.top2∧i_3.i.b.has1=i.b.has1∧i_3.i.b.has2=i.b.has2∧AObj.adt Arena 3 zD i_3.i.b.a=AObj.adt Arena 3 zD i_2.a∧List.map zA i_3.i.b.buys=List.map zA i.b.buys∧List.map zA i_3.i.b.sells=List.map zA i.b.sells∧atE i_3.i.b.at_=atE i.b.at_∧iE i_3.i.b.spare=iE i.b.spare∧(((i_3.i.b.a.slots.length≤1000000∧i_3.i.b.a.queues.length≤1000000)∧i_3.i.b.buys.length≤1000000∧i_3.i.b.sells.length≤1000000∧i_3.i.b.spare.length≤1000000)∧zP (zB i_3.s) (i_3.i.b.rungs (zB i_3.s)) i_3.i.price<(i_3.i.b.rungs (zB i_3.s)).length)∧∀(o:Unit),True→∃(o:Book),(yW i.L i.id i.qty).snd=0∧o.top1=(i_3.i.b.dropF (zB i_3.s) i_3.i.id i_3.i.price).top1∧o.top2=(i_3.i.b.dropF (zB i_3.s) i_3.i.id i_3.i.price).top2∧o.has1=(i_3.i.b.dropF (zB i_3.s) i_3.i.id i_3.i.price).has1∧o.has2=(i_3.i.b.dropF (zB i_3.s) i_3.i.id i_3.i.price).has2∧AObj.adt Arena 3 zD o.a=AObj.adt Arena 3 zD (i_3.i.b.dropF (zB i_3.s) i_3.i.id i_3.i.price).a∧List.map zA o.buys=List.map zA (i_3.i.b.dropF (zB i_3.s) i_3.i.id i_3.i.price).buys∧List.map zA o.sells=List.map zA (i_3.i.b.dropF (zB i_3.s) i_3.i.id i_3.i.price).sells∧atE o.at_=atE (i_3.i.b.dropF (zB i_3.s) i_3.i.id i_3.i.price).at_∧iE o.spare=iE (i_3.i.b.dropF (zB i_3.s) i_3.i.id i_3.i.price).spare∧o.Rep (yW i.L i.id i.qty).fst) (cnd ((i_2.a.getF i_2.n).fst.id !=i.id) (∃(i_3:DrJ),i_3.i.id=i.id∧zB i_3.s=n∧i_3.i.price=n_1∧i_3.i.slot=n_2∧i_3.i.b.top1=i.b.top1∧i_3.i.b.top2=i.b.top2∧i_3.i.b.has1=i.b.has1∧i_3.i.b.has2=i.b.has2∧AObj.adt Arena 3 zD i_3.i.b.a=AObj.adt Arena 3 zD i_2.a∧List.map zA i_3.i.b.buys=List.map zA i.b.buys∧List.map zA i_3.i.b.sells=List.map zA i.b.sells∧atE i_3.i.b.at_=atE i.b.at_∧iE i_3.i.b.spare=iE i.b.spare∧(((i_3.i.b.a.slots.length≤1000000∧i_3.i.b.a.queues.length≤1000000)∧i_3.i.b.buys.length≤1000000∧i_3.i.b.sells.length≤1000000∧i_3.i.b.spare.length≤1000000)∧zP (zB i_3.s) (i_3.i.b.rungs (zB i_3.s)) i_3.i.price<(i_3.i.b.rungs (zB i_3.s)).length)∧∀(o:Unit),True→∃(o:Book),(yW i.L i.id i.qty).snd=0∧o.top1=(i_3.i.b.dropF (zB i_3.s) i_3.i.id i_3.i.price).top1∧o.top2=(i_3.i.b.dropF (zB i_3.s) i_3.i.id i_3.i.price).top2∧o.has1=(i_3.i.b.dropF (zB i_3.s) i_3.i.id i_3.i.price).has1∧o.has2=(i_3.i.b.dropF (zB i_3.s) i_3.i.id i_3.i.price).has2∧AObj.adt Arena 3 zD o.a=AObj.adt Arena 3 zD (i_3.i.b.dropF (zB i_3.s) i_3.i.id i_3.i.price).a∧List.map zA o.buys=List.map zA (i_3.i.b.dropF (zB i_3.s) i_3.i.id i_3.i.price).buys∧List.map zA o.sells=List.map zA (i_3.i.b.dropF (zB i_3.s) i_3.i.id i_3.i.price).sells∧atE o.at_=atE (i_3.i.b.dropF (zB i_3.s) i_3.i.id i_3.i.price).at_∧iE o.spare=iE (i_3.i.b.dropF (zB i_3.s) i_3.i.id i_3.i.price).spare∧o.Rep (yW i.L i.id i.qty).fst) (∃(o:Book),(yW i.L i.id i.qty).snd=0∧o.top1=i.b.top1∧o.top2=i.b.top2∧o.has1=i.b.has1∧o.has2=i.b.has2∧AObj.adt Arena 3 zD o.a=AObj.adt Arena 3 zD i_2.a∧List.map zA o.buys=List.map zA i.b.buys∧List.map zA o.sells=List.map zA i.b.sells∧atE o.at_=atE i.b.at_∧iE o.spare=iE i.b.spare∧o.Rep (yW i.L i.id i.qty).fst))
def zTs (i:FlI):Prop:=
 (∀(p:Value×List D),p∈atE i.b.at_→like (Value.int IntKind.i64 i.id) p.fst=true)∧∃(b:Bool),∃(n:Int),∃(n_1:Int),∃(n_2:Int),(x0 (Value.int IntKind.i64 i.id) (atE i.b.at_)=some [D.v (.int .i64 n),D.v (.int .i64 n_1),D.v (.int .i64 n_2)]∧b=true∨x0 (Value.int IntKind.i64 i.id) (atE i.b.at_)=none∧[D.v (.int .i64 n),D.v (.int .i64 n_1),D.v (.int .i64 n_2)]=[D.v (.int .i64 0),D.v (.int .i64 0),D.v (.int .i64 0)]∧b=false)∧cnd (!b) (∃(o:Book),(yW i.L i.id i.qty).snd=26∧o.top1=i.b.top1∧o.top2=i.b.top2∧o.has1=i.b.has1∧o.has2=i.b.has2∧AObj.adt Arena 3 zD o.a=AObj.adt Arena 3 zD i.b.a∧List.map zA o.buys=List.map zA i.b.buys∧List.map zA o.sells=List.map zA i.b.sells∧atE o.at_=atE i.b.at_∧iE o.spare=iE i.b.spare∧o.Rep (yW i.L i.id i.qty).fst) (∃(i_1:TkI),i_1.n=n_2∧i_1.qty=i.qty∧AObj.adt Arena 3 zD i_1.a=AObj.adt Arena 3 zD i.b.a∧(i_1.a.slots.length≤1000000∧∀(k:Nat) (s:Slot),i_1.a.slots[k]?=some s→s.used=true→(0≤s.queue∧s.queue<(↑i_1.a.queues.length:Int))∧s.qty≤1000000∧(s.ahead=(-1)∨0≤s.ahead∧s.ahead<(↑i_1.a.slots.length:Int)∧s.ahead≠(↑k:Int))∧(s.back=(-1)∨0≤s.back∧s.back<(↑i_1.a.slots.length:Int)∧s.back≠(↑k:Int)))∧∀(o:Unit),True→cnd ((i_1.a.takeF i_1.n i_1.qty).snd !=0) (∃(o:Book),(yW i.L i.id i.qty).snd=(i_1.a.takeF i_1.n i_1.qty).snd∧o.top1=i.b.top1∧o.top2=i.b.top2∧o.has1=i.b.has1∧o.has2=i.b.has2∧AObj.adt Arena 3 zD o.a=AObj.adt Arena 3 zD (i_1.a.takeF i_1.n i_1.qty).fst∧List.map zA o.buys=List.map zA i.b.buys∧List.map zA o.sells=List.map zA i.b.sells∧atE o.at_=atE i.b.at_∧iE o.spare=iE i.b.spare∧o.Rep (yW i.L i.id i.qty).fst) ((zCy i b n n_1 n_2 i_1 o)∧n_2=n_2∧True∧zCy i b n n_1 n_2 i_1 o))
theorem z7n (hG:GOk Tryz.prog ([(120,atakeC),(99,agetC),(121,dropC)])) (h:∀(i:FlI),fillC.cnd i→zTs i):fillC.ok Tryz.prog 100:=okw mixed hG 0 (fun _=>[]) (fun _=>[]) [0] Tryz.func100 h
def z4y (i:AtI):Prop:=
 ∃(i_1:Int),i_1=zB false∧True∧∀(o:Unit),True→cnd (!(decide (i_1=1)||decide (i_1=2))) (∃(o:Unit),i.b.top1=i.b.top1∧i.b.top2=i.b.top2∧i.b.has1=i.b.has1∧i.b.has2=i.b.has2∧AObj.adt Arena 3 zD i.b.a=AObj.adt Arena 3 zD i.b.a∧List.map zA i.b.buys=List.map zA i.b.buys∧List.map zA i.b.sells=List.map zA i.b.sells∧atE i.b.at_=atE i.b.at_∧iE i.b.spare=iE i.b.spare∧List.map qC (atL i.L (zB false) i.price)=[]∧True) (∃(i_2:BkP),1=zB false∧i_2.price=i.price∧i_2.b.top1=i.b.top1∧i_2.b.top2=i.b.top2∧i_2.b.has1=i.b.has1∧i_2.b.has2=i.b.has2∧AObj.adt Arena 3 zD i_2.b.a=AObj.adt Arena 3 zD i.b.a∧List.map zA i_2.b.buys=List.map zA i.b.buys∧List.map zA i_2.b.sells=List.map zA i.b.sells∧atE i_2.b.at_=atE i.b.at_∧iE i_2.b.spare=iE i.b.spare∧((i_2.b.a.slots.length≤1000000∧i_2.b.a.queues.length≤1000000)∧i_2.b.buys.length≤1000000∧i_2.b.sells.length≤1000000∧i_2.b.spare.length≤1000000)∧∀(o:Unit),True→cnd (!xH 1 (i_2.b.rungs 1) i_2.price) (∃(o:Unit),i.b.top1=i_2.b.top1∧i.b.top2=i_2.b.top2∧i.b.has1=i_2.b.has1∧i.b.has2=i_2.b.has2∧AObj.adt Arena 3 zD i.b.a=AObj.adt Arena 3 zD i_2.b.a∧List.map zA i.b.buys=List.map zA i_2.b.buys∧List.map zA i.b.sells=List.map zA i_2.b.sells∧atE i.b.at_=atE i_2.b.at_∧iE i.b.spare=iE i_2.b.spare∧List.map qC (atL i.L (zB false) i.price)=[]∧True) ((0≤(↑(zP 1 (i_2.b.rungs 1) i_2.price):Int)∧(↑(zP 1 (i_2.b.rungs 1) i_2.price):Int)<(↑(List.map zA i_2.b.buys).length:Int))∧∃(n:Int),∃(n_1:Int),zI (List.map zA i_2.b.buys) (↑(zP 1 (i_2.b.rungs 1) i_2.price):Int).toNat 0 2=some [D.v (.int .i64 n),D.v (.int .i64 n_1)]∧∃(i_3:BoI),i_3.s=zB false∧i_3.r.price=n∧i_3.r.queue=n_1∧i_3.b.top1=i_2.b.top1∧i_3.b.top2=i_2.b.top2∧i_3.b.has1=i_2.b.has1∧i_3.b.has2=i_2.b.has2∧AObj.adt Arena 3 zD i_3.b.a=AObj.adt Arena 3 zD i_2.b.a∧List.map zA i_3.b.buys=List.map zA i_2.b.buys∧List.map zA i_3.b.sells=List.map zA i_2.b.sells∧atE i_3.b.at_=atE i_2.b.at_∧iE i_3.b.spare=iE i_2.b.spare∧i_3.b.a.listOk i_3.r.queue i_3.l∧∀(o:Unit),True→∃(o:Unit),yA i.b=yA i_3.b∧List.map qC (atL i.L (zB false) i.price)=List.map qC i_3.ords∧True))
theorem yBe (hG:GOk Tryz.prog ([(80,bisC),(126,find1C),(127,ordersC)])) (h:∀(i:AtI),at1C.cnd i→z4y i):at1C.ok Tryz.prog 112:=okw mixed hG 0 (fun _=>[]) (fun _=>[]) [0] Tryz.func112 h
def z6y (i:AtI):Prop:=
 ∃(i_1:Int),i_1=zB true∧True∧∀(o:Unit),True→cnd (!(decide (i_1=1)||decide (i_1=2))) (∃(o:Unit),i.b.top1=i.b.top1∧i.b.top2=i.b.top2∧i.b.has1=i.b.has1∧i.b.has2=i.b.has2∧AObj.adt Arena 3 zD i.b.a=AObj.adt Arena 3 zD i.b.a∧List.map zA i.b.buys=List.map zA i.b.buys∧List.map zA i.b.sells=List.map zA i.b.sells∧atE i.b.at_=atE i.b.at_∧iE i.b.spare=iE i.b.spare∧List.map qC (atL i.L (zB true) i.price)=[]∧True) (∃(i_2:BkP),2=zB true∧i_2.price=i.price∧i_2.b.top1=i.b.top1∧i_2.b.top2=i.b.top2∧i_2.b.has1=i.b.has1∧i_2.b.has2=i.b.has2∧AObj.adt Arena 3 zD i_2.b.a=AObj.adt Arena 3 zD i.b.a∧List.map zA i_2.b.buys=List.map zA i.b.buys∧List.map zA i_2.b.sells=List.map zA i.b.sells∧atE i_2.b.at_=atE i.b.at_∧iE i_2.b.spare=iE i.b.spare∧((i_2.b.a.slots.length≤1000000∧i_2.b.a.queues.length≤1000000)∧i_2.b.buys.length≤1000000∧i_2.b.sells.length≤1000000∧i_2.b.spare.length≤1000000)∧∀(o:Unit),True→cnd (!xH 2 (i_2.b.rungs 2) i_2.price) (∃(o:Unit),i.b.top1=i_2.b.top1∧i.b.top2=i_2.b.top2∧i.b.has1=i_2.b.has1∧i.b.has2=i_2.b.has2∧AObj.adt Arena 3 zD i.b.a=AObj.adt Arena 3 zD i_2.b.a∧List.map zA i.b.buys=List.map zA i_2.b.buys∧List.map zA i.b.sells=List.map zA i_2.b.sells∧atE i.b.at_=atE i_2.b.at_∧iE i.b.spare=iE i_2.b.spare∧List.map qC (atL i.L (zB true) i.price)=[]∧True) ((0≤(↑(zP 2 (i_2.b.rungs 2) i_2.price):Int)∧(↑(zP 2 (i_2.b.rungs 2) i_2.price):Int)<(↑(List.map zA i_2.b.sells).length:Int))∧∃(n:Int),∃(n_1:Int),zI (List.map zA i_2.b.sells) (↑(zP 2 (i_2.b.rungs 2) i_2.price):Int).toNat 0 2=some [D.v (.int .i64 n),D.v (.int .i64 n_1)]∧∃(i_3:BoI),i_3.s=zB true∧i_3.r.price=n∧i_3.r.queue=n_1∧i_3.b.top1=i_2.b.top1∧i_3.b.top2=i_2.b.top2∧i_3.b.has1=i_2.b.has1∧i_3.b.has2=i_2.b.has2∧AObj.adt Arena 3 zD i_3.b.a=AObj.adt Arena 3 zD i_2.b.a∧List.map zA i_3.b.buys=List.map zA i_2.b.buys∧List.map zA i_3.b.sells=List.map zA i_2.b.sells∧atE i_3.b.at_=atE i_2.b.at_∧iE i_3.b.spare=iE i_2.b.spare∧i_3.b.a.listOk i_3.r.queue i_3.l∧∀(o:Unit),True→∃(o:Unit),yA i.b=yA i_3.b∧List.map qC (atL i.L (zB true) i.price)=List.map qC i_3.ords∧True))
theorem yBv (hG:GOk Tryz.prog ([(80,bisC),(126,find2C),(127,ordersC)])) (h:∀(i:AtI),at2C.cnd i→z6y i):at2C.ok Tryz.prog 112:=okw mixed hG 0 (fun _=>[]) (fun _=>[]) [0] Tryz.func112 h
open Go Cv Go.Proofs
theorem vJ {L:List zJ} (h:(L.map (·.id)).Nodup) {o:zJ} (ho:o∈L):j0 L o.id=o:=by
 induction L with
 |nil=>cases ho
 |cons x L ih=>
  rw[List.map_cons,List.nodup_cons]at h
  rw[j0,List.find?_cons]
  rcases List.mem_cons.1 ho with rfl|ho
  ·rw[decide_eq_true rfl];rfl
  ·have:x.id≠o.id:=fun e=>h.1 (e▸List.mem_map_of_mem (f:=(·.id)) ho)
   rw[decide_eq_false this]
   exact ih h.2 ho
theorem vO {α β:Type} {f g:α→Option β}:∀{l:List α},(∀x∈l,f x=g x)→l.filterMap f=l.filterMap g
 |[],_=>rfl
 |x::l,h=>by rw[List.filterMap_cons,List.filterMap_cons,h x List.mem_cons_self,vO fun y hy=>h y (List.mem_cons_of_mem _ hy)]
theorem yAc {L:List zJ} {id:Int} (h:yY L id=false):j0 L id=z5r:=by
 rw[j0]
 have:L.find? (fun o=>decide (o.id=id))=none:=by
  rw[List.find?_eq_none]
  intro o ho
  rw[yY,List.any_eq_false]at h
  exact h o ho
 rw[this];rfl
structure Told (b:Book) (Q:List (List Nat)) (id:Int) (s:Int) (r:yX) (k:Nat):Prop where
 hs:s=1∨s=2
 hr:r∈b.rungs s
 hk:k∈yS Q r
 e:pget b.at_ id=some ⟨s,r.price,k⟩
 ident:(b.a.slotAt k).id=id
 get:j0 (b.flat Q) id=qV b.a s r.price k
 has:yY (b.flat Q) id=true
theorem z1u {b:Book} {Q:List (List Nat)} {s:Int} (hs:s=1∨s=2) {r:yX} (hr:r∈b.rungs s) {k:Nat} (hk:k∈yS Q r):qV b.a s r.price k∈b.flat Q:=
 flat_mem hs (List.mem_flatMap.2 ⟨r,hr,List.mem_map_of_mem hk⟩)
theorem Book.Core.told {b:Book} {Q:List (List Nat)} (c:b.Core Q (-1)) (id:Int):(pget b.at_ id=none∧yY (b.flat Q) id=false)∨∃s r k,Told b Q id s r k:=by
 cases hg:pget b.at_ id with
 |none=>
  have:=nG hg
  rw[c.keysP.mem_iff,← hasId_iff]at this
  exact .inl ⟨rfl,by simpa using this⟩
 |some x=>
  obtain⟨k,r,hs,hr,hk,hx,hid⟩:=c.plcI (dF hg)
  have hm:=z1u hs hr hk
  have hget:=vJ c.ids hm
  have e:(qV b.a x.side r.price k).id=id:=hid
  rw[e]at hget
  exact .inr ⟨x.side,r,k,hs,hr,hk,by rw[hg];exact congrArg some hx,hid,hget,hasId_iff.2 (by rw[← e];exact List.mem_map_of_mem hm)⟩
theorem Told.only {b:Book} {Q:List (List Nat)} (c:b.Core Q (-1)) {id s:Int} {r:yX} {k:Nat} (h:Told b Q id s r k) {s':Int} (hs':s'=1∨s'=2) {r':yX} (hr':r'∈b.rungs s') {j:Nat} (hj:j∈yS Q r'):(b.a.slotAt j).id=id↔j=k:=by
 constructor
 ·intro e
  have h1:=c.plc hs' hr' hj
  have h2:=c.plc h.hs h.hr h.hk
  rw[e]at h1
  rw[h.ident]at h2
  have:=congrArg Place.slot (aJ c.keys h1 h2)
  dsimp only at this
  omega
 ·rintro rfl;exact h.ident
theorem Book.Core.less {b:Book} {Q:List (List Nat)} (c:b.Core Q (-1)) (ht:b.Tops (b.flat Q)) {id s:Int} {r:yX} {k:Nat} (h:Told b Q id s r k) {q:Int} (hq:1≤q∧q<(b.a.slotAt k).qty):
 (b.a.takeF k q).2=0∧({b with a:=(b.a.takeF k q).1}:Book).Rep (xM (b.flat Q) id q)∧(b.a.takeF k q).1.slots.length=250∧(b.a.takeF k q).1.getF k=((((b.a.takeF k q).1.slotAt k)).ent,true)∧((b.a.takeF k q).1.slotAt k).id=id:=by
 obtain⟨t1,t2,t3⟩:=c.wf.take (c.get h.hs h.hr) h.hk (q:=q) ⟨hq.1,by omega⟩
 rw[if_neg (by omega)]at t3
 obtain⟨w,t4,t5⟩:=t3
 have hent:∀j,((b.a.takeF k q).1.slotAt j).ent=if j=k then{(b.a.slotAt k).ent with qty:=(b.a.slotAt k).qty-q}else(b.a.slotAt j).ent:=by
  intro j
  split
  ·rename_i e;rw[e,t4];rfl
  ·rename_i e;exact(t2 j e).1
 have hid:∀j,((b.a.takeF k q).1.slotAt j).id=(b.a.slotAt j).id:=by
  intro j
  have:=congrArg Ent.id (hent j)
  split at this
  ·rename_i e;rw[e]at this ⊢;exact this
  ·exact this
 have hflat:({b with a:=(b.a.takeF k q).1}:Book).flat Q=xM (b.flat Q) id q:=by
  have side:∀s',s'=1∨s'=2→({b with a:=(b.a.takeF k q).1}:Book).sideL Q s'=xM (b.sideL Q s') id q:=by
   intro s' hs'
   rw[xM,Book.sideL,Book.sideL,List.filterMap_flatMap]
   refine yT fun r' hr'=> ?_
   rw[Book.rOrds,Book.rOrds,List.filterMap_map]
   have:(yS Q r').filterMap (fun j=>some (qV (b.a.takeF k q).1 s' r'.price j))=(yS Q r').map (qV (b.a.takeF k q).1 s' r'.price):=by rw[← List.filterMap_eq_map];rfl
   refine this.symm.trans (vO fun j hj=> ?_)
   simp only[Function.comp,qV,zSn,hent]
   have hon:=h.only c hs' hr' hj
   by_cases e:j=k
   ·subst e
    rw[if_pos rfl]
    refine((if_pos (show(b.a.slotAt j).ent.id=id from h.ident)).trans (if_neg fun e=> ?_)).symm
    have e:(b.a.slotAt j).qty=q:=e
    omega
   ·rw[if_neg e];exact(if_neg (fun e2=>e (hon.1 e2))).symm
  rw[Book.flat,side 1 (.inl rfl),side 2 (.inr rfl),Book.flat,xM,xM,xM,List.filterMap_append]
 have hu:(b.a.takeF k q).1.usedAt k=true:=by
  obtain⟨hk2,⟨_,_,h2⟩,h3⟩:=w.toWf0.mem (c.get h.hs h.hr) h.hk
  have hlt:=w.len
  simp only[Arena.usedAt,Bool.and_eq_true,decide_eq_true_eq,Int.toNat_natCast]
  exact⟨by omega,by omega,h2.used⟩
 refine⟨t1,⟨Q,c.flag w hid,⟨fun o ho=> ?_,fun s' hs' hh=> ?_⟩,hflat.symm⟩,w.len,by rw[Arena.getF,if_pos hu,Int.toNat_natCast],by rw[hid,h.ident]⟩
 ·obtain⟨o',ho',e⟩:=List.mem_filterMap.1 ho
  have:=ht.fl o' ho'
  split at e
  ·split at e
   ·cases e
   ·cases e;exact this
  ·cases e;exact this
 ·obtain⟨o,ho,o1,o2⟩:=ht.th s' hs' hh
  by_cases e:o.id=id
  ·refine⟨{o with qty:=o.qty-q},List.mem_filterMap.2 ⟨o,ho,?_⟩,o1,o2⟩
   have hg:=vJ c.ids ho
   rw[e,h.get]at hg
   rw[if_pos e,if_neg (fun e2=>by
    rw[← hg]at e2
    have:(b.a.slotAt k).qty=q:=e2
    omega)]
  ·exact⟨o,List.mem_filterMap.2 ⟨o,ho,if_neg e⟩,o1,o2⟩
theorem zOt:∀{l:List (Int×Place)} {k:Int},(l.map (·.1)).Nodup→uO k l=l.filter fun x=> !decide (x.1=k)
 |[],k,_=>rfl
 |(a,b)::l,k,h=>by
  rw[List.map_cons,List.nodup_cons]at h
  rw[uO]
  by_cases e:k=a
  ·subst e
   rw[if_pos rfl,List.filter_cons_of_neg (by simp)]
   symm
   rw[List.filter_eq_self]
   intro x hx
   have:x.1≠k:=fun e=>h.1 (e▸List.mem_map_of_mem (f:=(·.1)) hx)
   simp[this]
  ·rw[if_neg e,List.filter_cons_of_pos (by simp[Ne.symm e]),zOt h.2]
theorem bW {l:List Nat} (h:l.Nodup) (k:Nat):l.erase k=l.filter fun j=> !decide (j=k):=by
 rw[h.erase_eq_filter]
 refine List.filter_congr fun j _=> ?_
 simp[bne,BEq.beq]
theorem zUi {s:Int} {l:List yX} (hs:l.Pairwise fun r r'=>btr s r.price r'.price=true) {R1 R2:List yX} {r:yX} (hl:l=R1++r::R2):zP s l r.price=R1.length:=by
 subst hl
 rw[List.pairwise_append]at hs
 refine h9 (by simp) (fun k hk x hx=> ?_) (fun x hx=> ?_)
 ·rw[List.getElem?_append_left hk]at hx
  exact hs.2.2 x (List.mem_of_getElem? hx) r List.mem_cons_self
 ·rw[List.getElem?_append_right (Nat.le_refl _),Nat.sub_self]at hx
  cases hx
  exact dP _ _
theorem zVf (b:Book) (id:Int) {s:Int} (hs:s=1∨s=2):(b.unhas s id).a=b.a∧(b.unhas s id).buys=b.buys∧(b.unhas s id).sells=b.sells∧(b.unhas s id).spare=b.spare∧∀s',s'=1∨s'=2→(b.unhas s id).topI s'=b.topI s'∧(b.unhas s id).hasF s'=if s'=s∧b.topI s=id then false else b.hasF s':=by
 rw[Book.unhas]
 by_cases hc:b.hasF s=true∧b.topI s=id
 ·rw[if_pos hc]
  rcases hs with rfl|rfl
  ·exact⟨rfl,rfl,rfl,rfl,fun s' h=>by rcases h with rfl|rfl;exact⟨rfl,(if_pos ⟨rfl,hc.2⟩).symm⟩;exact⟨rfl,(if_neg (fun e=>absurd e.1 (by decide))).symm⟩⟩
  ·exact⟨rfl,rfl,rfl,rfl,fun s' h=>by rcases h with rfl|rfl;exact⟨rfl,(if_neg (fun e=>absurd e.1 (by decide))).symm⟩;exact⟨rfl,(if_pos ⟨rfl,hc.2⟩).symm⟩⟩
 ·rw[if_neg hc]
  refine⟨rfl,rfl,rfl,rfl,fun s' h=>⟨rfl,?_⟩⟩
  split
  ·rename_i e
   rw[e.1]
   cases hh:b.hasF s with
   |false=>rfl
   |true=>exact absurd ⟨hh,e.2⟩ hc
  ·rfl
theorem Book.Core.close {b:Book} {Q:List (List Nat)} {s:Int} (hs:s=1∨s=2) {r:yX} {R1 R2:List yX} (hr:b.rungs s=R1++r::R2) (c:b.Core Q r.queue) (he:yS Q r=[]) {b':Book} (hb:b'=({b with spare:=b.spare++[r.queue]}:Book).setR s (R1++R2)):
 b'.Core Q (-1)∧b'.flat Q=b.flat Q:=by
 obtain⟨g1,g2⟩:=s7 ({b with spare:=b.spare++[r.queue]}:Book) hs (R1++R2)
 rw[← hb]at g1 g2
 have ha:b'.a=b.a:=by rw[hb];rcases hs with rfl|rfl<;>rfl
 have hat:b'.at_=b.at_:=by rw[hb];rcases hs with rfl|rfl<;>rfl
 have hsp:b'.spare=b.spare++[r.queue]:=by rw[hb];rcases hs with rfl|rfl<;>rfl
 have hqs:b'.qs.Perm b.qs:=by
  rw[hb]
  rcases hs with rfl|rfl
  ·have hr:b.buys=R1++r::R2:=hr
   show((R1++R2).map (·.queue)++b.sells.map (·.queue)++(b.spare++[r.queue])).Perm (b.buys.map (·.queue)++b.sells.map (·.queue)++b.spare)
   rw[hr,← List.append_assoc]
   refine(List.perm_append_singleton _ _).trans ?_
   simp only[List.map_append,List.map_cons,List.append_assoc,List.cons_append]
   exact List.perm_middle.symm
  ·have hr:b.sells=R1++r::R2:=hr
   show(b.buys.map (·.queue)++(R1++R2).map (·.queue)++(b.spare++[r.queue])).Perm (b.buys.map (·.queue)++b.sells.map (·.queue)++b.spare)
   rw[hr,← List.append_assoc]
   refine(List.perm_append_singleton _ _).trans ?_
   simp only[List.map_append,List.map_cons,List.append_assoc,List.cons_append]
   refine .trans ?_ (List.Perm.append_left _ List.perm_middle.symm)
   exact List.perm_middle.symm
 have hside:∀s',s'=1∨s'=2→b'.sideL Q s'=b.sideL Q s':=by
  intro s' hs'
  have ho:∀x,b'.rOrds Q s' x=b.rOrds Q s' x:=fun x=>by rw[Book.rOrds,Book.rOrds,ha]
  rw[Book.sideL,Book.sideL]
  by_cases e:s'=s
  ·subst e
   rw[g1,hr,List.flatMap_append,List.flatMap_append,List.flatMap_cons,yT (fun x _=>ho x),yT (l:=R2) (fun x _=>ho x)]
   rw[show b.rOrds Q s' r=[]by rw[Book.rOrds,he];rfl,List.nil_append]
  ·rw[g2 s' e hs'];exact yT fun x _=>ho x
 have hplc:∀s',s'=1∨s'=2→b'.plcs Q s'=b.plcs Q s':=by
  intro s' hs'
  rw[Book.plcs,Book.plcs,ha]
  by_cases e:s'=s
  ·subst e
   rw[g1,hr,List.flatMap_append,List.flatMap_append,List.flatMap_cons,he,List.map_nil,List.nil_append]
  ·rw[g2 s' e hs'];rfl
 have hflat:b'.flat Q=b.flat Q:=by rw[Book.flat,Book.flat,hside 1 (.inl rfl),hside 2 (.inr rfl)]
 have hnd:=hqs.nodup_iff.2 c.nd
 have hmid:r.queue∉(R1++R2).map (·.queue):=by
  intro hm
  have h1:r.queue∈(b'.rungs s).map (·.queue):=by rw[g1];exact hm
  rw[Book.qs]at hnd
  have h2:=(List.nodup_append.1 hnd).2.2 r.queue (by
   rcases hs with rfl|rfl
   ·exact List.mem_append_left _ h1
   ·exact List.mem_append_right _ h1) r.queue (by rw[hsp];simp)
  exact h2 rfl
 refine⟨⟨by rw[ha];exact c.wf,fun s' hs'=> ?_,fun q hq=>c.rng q (hqs.mem_iff.1 hq),hnd,by rw[hqs.length_eq];exact c.ql,fun s' hs' x hx _=> ?_,fun q hq=> ?_,by rw[hat,hplc 1 (.inl rfl),hplc 2 (.inr rfl)];exact c.at_,by rw[hflat];exact c.ids,c.qb⟩,hflat⟩
 ·by_cases e:s'=s
  ·subst e
   have:=c.srt s' hs'
   rw[hr]at this
   rw[g1]
   exact this.sublist (List.Sublist.append_left (List.sublist_cons_self _ _) _)
  ·rw[g2 s' e hs'];exact c.srt s' hs'
 ·by_cases e:s'=s
  ·subst e
   rw[g1]at hx
   refine c.ne s' hs' x (by rw[hr];rcases List.mem_append.1 hx with h|h;exact List.mem_append_left _ h;exact List.mem_append_right _ (List.mem_cons_of_mem _ h)) fun e2=>hmid (e2▸List.mem_map_of_mem (f:=(·.queue)) hx)
  ·rw[g2 s' e hs']at hx
   refine c.ne s' hs' x hx fun e2=> ?_
   have h1:r.queue∈(b'.rungs s').map (·.queue):=by rw[g2 s' e hs',← e2];exact List.mem_map_of_mem (f:=(·.queue)) hx
   rw[Book.qs]at hnd
   exact(List.nodup_append.1 hnd).2.2 r.queue (by
    rcases hs' with rfl|rfl
    ·exact List.mem_append_left _ h1
    ·exact List.mem_append_right _ h1) r.queue (by rw[hsp];simp) rfl
 ·rw[hsp]at hq
  rcases List.mem_append.1 hq with hq|hq
  ·exact c.sp q hq
  ·rw[List.mem_singleton.1 hq];exact he
open Go Cv Go.Proofs
theorem mR {L:List zJ} (h:(L.map (·.id)).Nodup) {id:Int} (hh:yY L id=true):xM L id (j0 L id).qty=L.filter fun o=> !decide (o.id=id):=by
 rw[xM,← List.filterMap_eq_filter]
 refine vO fun o ho=> ?_
 by_cases e:o.id=id
 ·have hg:=vJ h ho
  rw[e]at hg
  rw[if_pos e,if_pos (by rw[hg])]
  simp[Option.guard,e]
 ·rw[if_neg e]
  simp[Option.guard,e]
theorem Book.Core.gone {b:Book} {Q:List (List Nat)} (c:b.Core Q (-1)) (ht:b.Tops (b.flat Q)) {id s:Int} {r:yX} {k:Nat} (h:Told b Q id s r k) {q:Int} (hq:1≤q∧q=(b.a.slotAt k).qty):
 (b.a.takeF k q).2=0∧(({b with a:=(b.a.takeF k q).1}:Book).dropF s id r.price).Rep (xM (b.flat Q) id q)∧(b.a.takeF k q).1.slots.length=250∧(b.a.takeF k q).1.queues.length=b.a.queues.length∧((b.a.takeF k q).1.getF k).2=false∧zP s (b.rungs s) r.price<(b.rungs s).length:=by
 obtain⟨t1,t2,t3⟩:=c.wf.take (c.get h.hs h.hr) h.hk (q:=q) ⟨hq.1,by omega⟩
 rw[if_pos hq.2.symm]at t3
 obtain⟨w,t4,t5⟩:=t3
 generalize hA:(b.a.takeF k q).1=a1 at*
 have hget:=c.get h.hs h.hr
 have hnQ:=(List.getElem?_eq_some_iff.1 hget).1
 have hrq:=c.rng _ (k9 h.hs h.hr)
 generalize hQ':Q.set r.queue.toNat ((yS Q r).erase k)=Q' at*
 have hQl:Q'.length=Q.length:=by rw[← hQ',List.length_set]
 have hnd:(yS Q r).Nodup:=c.wf.nd _ _ hget
 have hqd:∀s' (r':yX),(s'=1∨s'=2)→r'∈b.rungs s'→yS Q' r'=(yS Q r').erase k:=by
  intro s' r' hs' hr'
  by_cases e:r'.queue=r.queue
  ·have e1:yS Q r'=yS Q r:=by rw[yS,yS,e]
   rw[e1,yS,e,← hQ']
   exact zX (jR hnQ)
  ·have h2:yS Q' r'=yS Q r':=by
    have:=c.rng _ (k9 hs' hr')
    rw[yS,yS,List.getD_eq_getElem?_getD,List.getD_eq_getElem?_getD,← hQ',kP (by omega)]
   rw[h2]
   symm
   refine List.erase_of_not_mem fun hk=> ?_
   have:=c.wf.toWf0.one (c.get hs' hr') hget hk h.hk
   have:=c.rng _ (k9 hs' hr')
   omega
 have hQo:∀q:Int,0≤q→q≠r.queue→Q'.getD q.toNat []=Q.getD q.toNat []:=by
  intro q h0 hne
  rw[← hQ',List.getD_eq_getElem?_getD,kP (by omega),List.getD_eq_getElem?_getD]
 obtain⟨u1,u2,u3,u4,u5⟩:=zVf ({b with a:=a1}:Book) id h.hs
 obtain⟨b1,hb1⟩:∃b1:Book,b1={({b with a:=a1}:Book).unhas s id with at_:=uO id b.at_}:=⟨_,rfl⟩
 have v1:b1.a=a1:=by rw[hb1];exact u1
 have v2:b1.buys=b.buys:=by rw[hb1];exact u2
 have v3:b1.sells=b.sells:=by rw[hb1];exact u3
 have v4:b1.spare=b.spare:=by rw[hb1];exact u4
 have v5:b1.at_=uO id b.at_:=by rw[hb1]
 have v6:∀s',s'=1∨s'=2→b1.topI s'=b.topI s'∧b1.hasF s'=if s'=s∧b.topI s=id then false else b.hasF s':=by
  intro s' hs'
  rw[hb1];exact u5 s' hs'
 have vr:∀s',b1.rungs s'=b.rungs s':=by intro s';rw[Book.rungs,Book.rungs,v2,v3]
 have vq:b1.qs=b.qs:=by rw[Book.qs,Book.qs,v2,v3,v4]
 have hord:∀s',s'=1∨s'=2→b1.sideL Q' s'=(b.sideL Q s').filter (fun o=> !decide (o.id=id))∧b1.plcs Q' s'=(b.plcs Q s').filter fun x=> !decide (x.1=id):=by
  intro s' hs'
  rw[Book.sideL,Book.sideL,Book.plcs,Book.plcs,vr,List.filter_flatMap,List.filter_flatMap]
  have key:∀r'∈b.rungs s',∀j∈yS Q r',((b.a.slotAt j).id=id↔j=k)∧(j≠k→qV a1 s' r'.price j=qV b.a s' r'.price j∧kF a1 s' r'.price j=kF b.a s' r'.price j):=by
   intro r' hr' j hj
   refine⟨h.only c hs' hr' hj,fun e=> ?_⟩
   have:=(t2 j e).1
   refine⟨by rw[qV,qV,this],?_⟩
   have:=congrArg Ent.id this
   rw[kF,kF]
   exact congrArg (fun i=>(i,(⟨s',r'.price,j⟩:Place))) this
  refine⟨yT fun r' hr'=> ?_,yT fun r' hr'=> ?_⟩
  ·rw[Book.rOrds,Book.rOrds,hqd s' r' hs' hr',bW (c.wf.nd _ _ (c.get hs' hr')),List.filter_map,v1]
   have e1:(yS Q r').filter ((fun o:zJ=> !decide (o.id=id))∘qV b.a s' r'.price)=(yS Q r').filter fun j=> !decide (j=k):=by
    refine List.filter_congr fun j hj=> ?_
    show(!decide ((b.a.slotAt j).id=id))=_
    rw[decide_eq_decide.2 (key r' hr' j hj).1]
   rw[e1]
   refine List.map_congr_left fun j hj=> ?_
   rw[List.mem_filter]at hj
   exact((key r' hr' j hj.1).2 (by simpa using hj.2)).1
  ·rw[hqd s' r' hs' hr',bW (c.wf.nd _ _ (c.get hs' hr')),List.filter_map,v1]
   have e1:(yS Q r').filter ((fun x:Int×Place=> !decide (x.1=id))∘kF b.a s' r'.price)=(yS Q r').filter fun j=> !decide (j=k):=by
    refine List.filter_congr fun j hj=> ?_
    show(!decide ((b.a.slotAt j).id=id))=_
    rw[decide_eq_decide.2 (key r' hr' j hj).1]
   rw[e1]
   refine List.map_congr_left fun j hj=> ?_
   rw[List.mem_filter]at hj
   exact((key r' hr' j hj.1).2 (by simpa using hj.2)).2
 have hflat:b1.flat Q'=(b.flat Q).filter fun o=> !decide (o.id=id):=by
  rw[Book.flat,(hord 1 (.inl rfl)).1,(hord 2 (.inr rfl)).1,Book.flat,List.filter_append]
 have hat:b1.at_.Perm (b1.plcs Q' 1++b1.plcs Q' 2):=by
  rw[v5,zOt c.keys,(hord 1 (.inl rfl)).2,(hord 2 (.inr rfl)).2,← List.filter_append]
  exact c.at_.filter _
 have hold:∀s' (r':yX),(s'=1∨s'=2)→r'∈b.rungs s'→yS Q r'≠[]:=fun s' r' hs' hr'=>c.ne s' hs' r' hr' fun e=>by
  have:=c.rng _ (k9 hs' hr');omega
 have c1:b1.Core Q' r.queue:=by
  refine⟨by rw[v1];exact w,fun s' hs'=>by rw[vr];exact c.srt s' hs',by rw[vq,hQl];exact c.rng,by rw[vq];exact c.nd,by rw[vq,hQl];exact c.ql,fun s' hs' r' hr' hne=> ?_,fun q hq=> ?_,hat,?_,by rw[hQl];exact c.qb⟩
  ·rw[vr]at hr'
   have e:=hQo r'.queue (c.rng _ (k9 hs' hr')).1 hne
   rw[yS,e];exact hold s' r' hs' hr'
  ·rw[v4]at hq
   have hqq:q∈b.qs:=List.mem_append_right _ hq
   rw[hQo q (c.rng q hqq).1 fun e=> ?_]
   ·exact c.sp q hq
   ·have hcn:=c.nd
    rw[Book.qs]at hcn
    refine(List.nodup_append.1 hcn).2.2 r.queue ?_ q hq e.symm
    rcases h.hs with rfl|rfl
    ·exact List.mem_append_left _ (List.mem_map_of_mem (f:=(·.queue)) h.hr)
    ·exact List.mem_append_right _ (List.mem_map_of_mem (f:=(·.queue)) h.hr)
  ·rw[hflat]
   exact c.ids.sublist (List.Sublist.map _ List.filter_sublist)
 have htk:xM (b.flat Q) id q=b1.flat Q':=by
  rw[hflat,← mR c.ids h.has,h.get,hq.2];rfl
 have hm1:∀o,o∈b1.flat Q'↔o∈b.flat Q∧o.id≠id:=by
  intro o;rw[hflat,List.mem_filter];simp
 have ht1:∀b2:Book,(∀x,b2.hasF x=b1.hasF x∧b2.topI x=b1.topI x)→b2.Tops (b1.flat Q'):=by
  intro b2 hb2
  refine⟨fun o ho=> ?_,fun s' hs' hh=> ?_⟩
  ·rw[(hb2 _).1,(hb2 _).2]
   obtain⟨ho,hne⟩:=(hm1 o).1 ho
   have hs':=(uW ho).1
   rw[(v6 _ hs').1,(v6 _ hs').2,ht.fl o ho]
   split
   ·rename_i e
    rw[e.1,e.2,decide_eq_false hne,Bool.and_false,Bool.and_false]
   ·rfl
  ·rw[(hb2 _).1,(v6 s' hs').2]at hh
   rw[(hb2 _).2,(v6 s' hs').1]
   split at hh
   ·cases hh
   ·rename_i e
    obtain⟨o,ho,o1,o2⟩:=ht.th s' hs' hh
    refine⟨o,(hm1 o).2 ⟨ho,fun e2=>e ?_⟩,o1,o2⟩
    have hg:=vJ c.ids ho
    rw[e2,h.get]at hg
    have hsd:s'=s:=by rw[← o1,← hg];rfl
    exact⟨hsd,by rw[← hsd,← o2,e2]⟩
 obtain⟨R1,R2,hsplit⟩:=List.append_of_mem h.hr
 have hfn:=zUi (c.srt s h.hs) hsplit
 have hgd:(b.rungs s).getD (zP s (b.rungs s) r.price) ⟨0,0⟩=r:=by
  rw[hfn,hsplit]
  refine zX ?_
  rw[List.getElem?_append_right (Nat.le_refl _),Nat.sub_self];rfl
 have hfl:zP s (b.rungs s) r.price<(b.rungs s).length:=by rw[hfn,hsplit];simp
 have hQr:Q'[r.queue.toNat]? =some ((yS Q r).erase k):=by rw[← hQ'];exact jR hnQ
 have hcount:(a1.qAt r.queue).count=((yS Q r).erase k).length:=by
  have:=w.q _ _ hQr
  have hql:=w.ql
  rw[zEc hrq.1 this]
 have er:yS Q' r=(yS Q r).erase k:=zX hQr
 have hru:({b with a:=a1}:Book).rungs s=b.rungs s:=rfl
 have hus:(a1.getF k).2=false:=by
  have:a1.usedAt k=false:=by
   have e:a1.slotAt k=slot0:=t4
   rw[Arena.slotAt]at e
   rw[Arena.usedAt,Int.toNat_natCast,e];simp[slot0]
  rw[Arena.getF,if_neg (by rw[this];decide)]
 refine⟨t1,?_,w.len,by rw[w.ql,c.wf.ql,hQl],hus,hfl⟩
 rw[Book.dropF,hru,hgd]
 by_cases hz:(a1.qAt r.queue).count=0
 ·rw[if_pos hz]
  have he:yS Q' r=[]:=by
   rw[er]
   refine List.eq_nil_of_length_eq_zero ?_
   omega
  obtain⟨k1,k2⟩:=Book.Core.close h.hs (by rw[vr];exact hsplit) c1 he rfl
  have ebk:(({({b with a:=a1}:Book).unhas s id with at_:=uO id b.at_,spare:=b.spare++[r.queue]}:Book).setR s ((b.rungs s).take (zP s (b.rungs s) r.price)++(b.rungs s).drop (zP s (b.rungs s) r.price+1)))=(({b1 with spare:=b1.spare++[r.queue]}:Book).setR s (R1++R2)):=by
   have e1:(b.rungs s).take (zP s (b.rungs s) r.price)++(b.rungs s).drop (zP s (b.rungs s) r.price+1)=R1++R2:=by
    rw[hfn,hsplit,List.take_left]
    congr 1
    rw[List.drop_append,List.drop_eq_nil_of_le (by omega),Nat.add_sub_cancel_left];rfl
   rw[e1,v4,hb1]
  refine⟨Q',?_,?_,?_⟩
  ·exact ebk▸k1
  ·rw[htk]
   refine ht1 _ fun x=> ?_
   show(Book.hasF (({({b with a:=a1}:Book).unhas s id with at_:=uO id b.at_,spare:=b.spare++[r.queue]}:Book).setR s ((b.rungs s).take (zP s (b.rungs s) r.price)++(b.rungs s).drop (zP s (b.rungs s) r.price+1))) x=_∧Book.topI (({({b with a:=a1}:Book).unhas s id with at_:=uO id b.at_,spare:=b.spare++[r.queue]}:Book).setR s ((b.rungs s).take (zP s (b.rungs s) r.price)++(b.rungs s).drop (zP s (b.rungs s) r.price+1))) x=_)
   rw[ebk]
   rcases h.hs with rfl|rfl<;>exact⟨rfl,rfl⟩
  ·rw[htk]
   show _=Book.flat (({({b with a:=a1}:Book).unhas s id with at_:=uO id b.at_,spare:=b.spare++[r.queue]}:Book).setR s ((b.rungs s).take (zP s (b.rungs s) r.price)++(b.rungs s).drop (zP s (b.rungs s) r.price+1))) Q'
   rw[ebk];exact k2.symm
 ·rw[if_neg hz]
  have c2:b1.Core Q' (-1):=⟨c1.wf,c1.srt,c1.rng,c1.nd,c1.ql,fun s' hs' r' hr' _=>by
   by_cases e:r'.queue=r.queue
   ·rw[yS,e]
    intro e2
    rw[yS]at er
    rw[er]at e2
    rw[hcount,e2]at hz
    exact hz rfl
   ·exact c1.ne s' hs' r' hr' e,c1.sp,c1.at_,c1.ids,c1.qb⟩
  have hh:({({b with a:=a1}:Book).unhas s id with at_:=uO id b.at_}:Book)=b1:=hb1.symm
  show Book.Rep {({b with a:=a1}:Book).unhas s id with at_:=uO id b.at_} _
  rw[hh,htk]
  exact⟨Q',c2,ht1 b1 fun _=>⟨rfl,rfl⟩,rfl⟩
open Go Cv Go.Proofs
theorem gS (k:Int):∀l,g9 (Value.int IntKind.i64 k) (atE l)=atE (uO k l)
 |[]=>rfl
 |(a,b)::l=>by
  have ih:=gS k l
  show(bif (keq .i64 .i64 && decide (k=a))then atE l else _::g9 _ (atE l))=_
  rw[ih,uO]
  by_cases h:k=a
  ·subst h;simp[keq]
  ·simp[h,atE]
theorem zNd:delRC.ok Tryz.prog 139:=
 delX_ok mixed Tryz.func139 rfl (by kernel_rfl) (by kernel_rfl) (by kernel_rfl) (by kernel_rfl) nD rfl (by decide) (fun s sn sk i j w R=>by kernel_rfl)
theorem dup {X:Prop} {n:Int} (h:X):X∧n=n∧True∧X:=⟨h,rfl,trivial,h⟩
theorem Book.Core.small {b:Book} {Q:List (List Nat)} (c:b.Core Q (-1)):b.small:=by
 have hq:=c.qb
 have h1:=c.ql
 have h2:=c.wf.ql
 have h3:=c.wf.len
 rw[Book.qs,List.length_append,List.length_append,List.length_map,List.length_map]at h1
 exact⟨⟨by omega,by omega⟩,by omega,by omega,by omega⟩
theorem z6h (i:DrI) (h:drop1C.cnd i):zIq i:=by
 obtain⟨hsm,hn⟩:i.ok 1:=h
 obtain⟨⟨ha1,ha2⟩,hb1,hb2,hsp⟩:=id hsm
 have hn:zP 1 i.b.buys i.price<i.b.buys.length:=hn
 obtain⟨r,hr⟩:=yD (l:=i.b.buys) hn
 have hgd:((i.b.rungs 1).getD (zP 1 (i.b.rungs 1) i.price) ⟨0,0⟩)=r:=zX hr
 have hw:∀k:Int,IntKind.i64.wrap ((zP 1 (i.b.rungs 1) i.price:Int)+1)=((zP 1 (i.b.rungs 1) i.price+1:Nat):Int):=fun _=>by
  have:=f0 1 i.price (i.b.rungs 1)
  have hl:(i.b.rungs 1).length≤1000000:=by show i.b.buys.length≤_;omega
  rw[w64 (by omega)];rfl
 have hn2:((zP 1 (i.b.rungs 1) i.price:Nat):Int)<((List.map zA i.b.buys).length:Int):=by
  rw[List.length_map]
  show((zP 1 i.b.buys i.price:Nat):Int)<_
  omega
 unfold zIq tH
 refine⟨qI _ _,Cv.cnd.mk (fun c1=>Cv.cnd.mk (fun c2=> ?_) (fun c2=> ?_)) (fun c1=> ?_)⟩
 ·have c2:i.b.top1=i.id:=by simpa using c2
  have hu:i.b.unhas 1 i.id={i.b with has1:=false}:=by rw[Book.unhas,if_pos ⟨c1,c2⟩];rfl
  refine⟨⟨{i.b with has1:=false,at_:=uO i.id i.b.at_},i.price⟩,rfl,rfl,rfl,rfl,rfl,rfl,rfl,rfl,rfl,(gS _ _).symm,rfl,hsm,fun _ _=>⟨⟨by omega,hn2⟩,r.queue,elA hr (by simp[zA]) rfl,⟨i.b.a,r.queue⟩,rfl,rfl,trivial,fun _ _=>Cv.cnd.mk (fun e=>⟨by simp only[yR];omega,⟨i.b.buys.map zA,zP 1 (i.b.rungs 1) i.price,zP 1 (i.b.rungs 1) i.price+1⟩,rfl,(hw 0).symm,rfl,⟨Nat.lt_succ_self _,by rw[List.length_map];exact hn⟩,fun _ _=>⟨rfl,(),?_⟩⟩) (fun e=>⟨(),?_⟩)⟩⟩
  ·have e:(i.b.a.qAt r.queue).count=0:=by simpa using e
   rw[Book.dropF,hgd,if_pos e,hu]
   refine⟨rfl,rfl,rfl,rfl,rfl,rfl,?_,rfl,?_,trivial⟩
   ·show List.map zA (i.b.buys.take _++i.b.buys.drop _)=_
    rw[List.map_append,List.map_take,List.map_drop]
   ·show iE (i.b.spare++[r.queue])=_
    simp[iE]
  ·have e:¬(i.b.a.qAt r.queue).count=0:=by simpa using e
   rw[Book.dropF,hgd,if_neg e,hu]
   exact⟨rfl,rfl,rfl,rfl,rfl,rfl,rfl,rfl,rfl,trivial⟩
 ·have c2:¬i.b.top1=i.id:=by simpa using c2
  have hu:i.b.unhas 1 i.id={i.b with has1:=i.b.has1}:=by rw[Book.unhas,if_neg (fun e=>c2 e.2)]
  refine⟨⟨{i.b with has1:=i.b.has1,at_:=uO i.id i.b.at_},i.price⟩,rfl,rfl,rfl,rfl,rfl,rfl,rfl,rfl,rfl,(gS _ _).symm,rfl,hsm,fun _ _=>⟨⟨by omega,hn2⟩,r.queue,elA hr (by simp[zA]) rfl,⟨i.b.a,r.queue⟩,rfl,rfl,trivial,fun _ _=>Cv.cnd.mk (fun e=>⟨by simp only[yR];omega,⟨i.b.buys.map zA,zP 1 (i.b.rungs 1) i.price,zP 1 (i.b.rungs 1) i.price+1⟩,rfl,(hw 0).symm,rfl,⟨Nat.lt_succ_self _,by rw[List.length_map];exact hn⟩,fun _ _=>⟨rfl,(),?_⟩⟩) (fun e=>⟨(),?_⟩)⟩⟩
  ·have e:(i.b.a.qAt r.queue).count=0:=by simpa using e
   rw[Book.dropF,hgd,if_pos e,hu]
   refine⟨rfl,rfl,rfl,rfl,rfl,rfl,?_,rfl,?_,trivial⟩
   ·show List.map zA (i.b.buys.take _++i.b.buys.drop _)=_
    rw[List.map_append,List.map_take,List.map_drop]
   ·show iE (i.b.spare++[r.queue])=_
    simp[iE]
  ·have e:¬(i.b.a.qAt r.queue).count=0:=by simpa using e
   rw[Book.dropF,hgd,if_neg e,hu]
   exact⟨rfl,rfl,rfl,rfl,rfl,rfl,rfl,rfl,rfl,trivial⟩
 ·have hu:i.b.unhas 1 i.id={i.b with has1:=i.b.has1}:=by
   rw[Book.unhas,if_neg]
   rintro⟨e,_⟩
   exact absurd (show i.b.has1=true from e) (by rw[c1];decide)
  refine⟨⟨{i.b with has1:=i.b.has1,at_:=uO i.id i.b.at_},i.price⟩,rfl,rfl,rfl,rfl,rfl,rfl,rfl,rfl,rfl,(gS _ _).symm,rfl,hsm,fun _ _=>⟨⟨by omega,hn2⟩,r.queue,elA hr (by simp[zA]) rfl,⟨i.b.a,r.queue⟩,rfl,rfl,trivial,fun _ _=>Cv.cnd.mk (fun e=>⟨by simp only[yR];omega,⟨i.b.buys.map zA,zP 1 (i.b.rungs 1) i.price,zP 1 (i.b.rungs 1) i.price+1⟩,rfl,(hw 0).symm,rfl,⟨Nat.lt_succ_self _,by rw[List.length_map];exact hn⟩,fun _ _=>⟨rfl,(),?_⟩⟩) (fun e=>⟨(),?_⟩)⟩⟩
  ·have e:(i.b.a.qAt r.queue).count=0:=by simpa using e
   rw[Book.dropF,hgd,if_pos e,hu]
   refine⟨rfl,rfl,rfl,rfl,rfl,rfl,?_,rfl,?_,trivial⟩
   ·show List.map zA (i.b.buys.take _++i.b.buys.drop _)=_
    rw[List.map_append,List.map_take,List.map_drop]
   ·show iE (i.b.spare++[r.queue])=_
    simp[iE]
  ·have e:¬(i.b.a.qAt r.queue).count=0:=by simpa using e
   rw[Book.dropF,hgd,if_neg e,hu]
   exact⟨rfl,rfl,rfl,rfl,rfl,rfl,rfl,rfl,rfl,trivial⟩
theorem zVr:drop1C.ok Tryz.prog 121:=z0j (gokc tA (gokc mZ (gokc zNd gok0))) z6h
theorem z7c (i:DrI) (h:drop2C.cnd i):zJy i:=by
 obtain⟨hsm,hn⟩:i.ok 2:=h
 obtain⟨⟨ha1,ha2⟩,hb1,hb2,hsp⟩:=id hsm
 have hn:zP 2 i.b.sells i.price<i.b.sells.length:=hn
 obtain⟨r,hr⟩:=yD (l:=i.b.sells) hn
 have hgd:((i.b.rungs 2).getD (zP 2 (i.b.rungs 2) i.price) ⟨0,0⟩)=r:=zX hr
 have hw:∀k:Int,IntKind.i64.wrap ((zP 2 (i.b.rungs 2) i.price:Int)+1)=((zP 2 (i.b.rungs 2) i.price+1:Nat):Int):=fun _=>by
  have:=f0 2 i.price (i.b.rungs 2)
  have hl:(i.b.rungs 2).length≤1000000:=by show i.b.sells.length≤_;omega
  rw[w64 (by omega)];rfl
 have hn2:((zP 2 (i.b.rungs 2) i.price:Nat):Int)<((List.map zA i.b.sells).length:Int):=by
  rw[List.length_map]
  show((zP 2 i.b.sells i.price:Nat):Int)<_
  omega
 unfold zJy tT
 refine⟨qI _ _,Cv.cnd.mk (fun c1=>Cv.cnd.mk (fun c2=> ?_) (fun c2=> ?_)) (fun c1=> ?_)⟩
 ·have c2:i.b.top2=i.id:=by simpa using c2
  have hu:i.b.unhas 2 i.id={i.b with has2:=false}:=by rw[Book.unhas,if_pos ⟨c1,c2⟩];rfl
  refine⟨⟨{i.b with has2:=false,at_:=uO i.id i.b.at_},i.price⟩,rfl,rfl,rfl,rfl,rfl,rfl,rfl,rfl,rfl,(gS _ _).symm,rfl,hsm,fun _ _=>⟨⟨by omega,hn2⟩,r.queue,elA hr (by simp[zA]) rfl,⟨i.b.a,r.queue⟩,rfl,rfl,trivial,fun _ _=>Cv.cnd.mk (fun e=>⟨by simp only[yR];omega,⟨i.b.sells.map zA,zP 2 (i.b.rungs 2) i.price,zP 2 (i.b.rungs 2) i.price+1⟩,rfl,(hw 0).symm,rfl,⟨Nat.lt_succ_self _,by rw[List.length_map];exact hn⟩,fun _ _=>⟨rfl,(),?_⟩⟩) (fun e=>⟨(),?_⟩)⟩⟩
  ·have e:(i.b.a.qAt r.queue).count=0:=by simpa using e
   rw[Book.dropF,hgd,if_pos e,hu]
   refine⟨rfl,rfl,rfl,rfl,rfl,rfl,rfl,?_,?_,trivial⟩
   ·show List.map zA (i.b.sells.take _++i.b.sells.drop _)=_
    rw[List.map_append,List.map_take,List.map_drop]
   ·show iE (i.b.spare++[r.queue])=_
    simp[iE]
  ·have e:¬(i.b.a.qAt r.queue).count=0:=by simpa using e
   rw[Book.dropF,hgd,if_neg e,hu]
   exact⟨rfl,rfl,rfl,rfl,rfl,rfl,rfl,rfl,rfl,trivial⟩
 ·have c2:¬i.b.top2=i.id:=by simpa using c2
  have hu:i.b.unhas 2 i.id={i.b with has2:=i.b.has2}:=by rw[Book.unhas,if_neg (fun e=>c2 e.2)]
  refine⟨⟨{i.b with has2:=i.b.has2,at_:=uO i.id i.b.at_},i.price⟩,rfl,rfl,rfl,rfl,rfl,rfl,rfl,rfl,rfl,(gS _ _).symm,rfl,hsm,fun _ _=>⟨⟨by omega,hn2⟩,r.queue,elA hr (by simp[zA]) rfl,⟨i.b.a,r.queue⟩,rfl,rfl,trivial,fun _ _=>Cv.cnd.mk (fun e=>⟨by simp only[yR];omega,⟨i.b.sells.map zA,zP 2 (i.b.rungs 2) i.price,zP 2 (i.b.rungs 2) i.price+1⟩,rfl,(hw 0).symm,rfl,⟨Nat.lt_succ_self _,by rw[List.length_map];exact hn⟩,fun _ _=>⟨rfl,(),?_⟩⟩) (fun e=>⟨(),?_⟩)⟩⟩
  ·have e:(i.b.a.qAt r.queue).count=0:=by simpa using e
   rw[Book.dropF,hgd,if_pos e,hu]
   refine⟨rfl,rfl,rfl,rfl,rfl,rfl,rfl,?_,?_,trivial⟩
   ·show List.map zA (i.b.sells.take _++i.b.sells.drop _)=_
    rw[List.map_append,List.map_take,List.map_drop]
   ·show iE (i.b.spare++[r.queue])=_
    simp[iE]
  ·have e:¬(i.b.a.qAt r.queue).count=0:=by simpa using e
   rw[Book.dropF,hgd,if_neg e,hu]
   exact⟨rfl,rfl,rfl,rfl,rfl,rfl,rfl,rfl,rfl,trivial⟩
 ·have hu:i.b.unhas 2 i.id={i.b with has2:=i.b.has2}:=by
   rw[Book.unhas,if_neg]
   rintro⟨e,_⟩
   exact absurd (show i.b.has2=true from e) (by rw[c1];decide)
  refine⟨⟨{i.b with has2:=i.b.has2,at_:=uO i.id i.b.at_},i.price⟩,rfl,rfl,rfl,rfl,rfl,rfl,rfl,rfl,rfl,(gS _ _).symm,rfl,hsm,fun _ _=>⟨⟨by omega,hn2⟩,r.queue,elA hr (by simp[zA]) rfl,⟨i.b.a,r.queue⟩,rfl,rfl,trivial,fun _ _=>Cv.cnd.mk (fun e=>⟨by simp only[yR];omega,⟨i.b.sells.map zA,zP 2 (i.b.rungs 2) i.price,zP 2 (i.b.rungs 2) i.price+1⟩,rfl,(hw 0).symm,rfl,⟨Nat.lt_succ_self _,by rw[List.length_map];exact hn⟩,fun _ _=>⟨rfl,(),?_⟩⟩) (fun e=>⟨(),?_⟩)⟩⟩
  ·have e:(i.b.a.qAt r.queue).count=0:=by simpa using e
   rw[Book.dropF,hgd,if_pos e,hu]
   refine⟨rfl,rfl,rfl,rfl,rfl,rfl,rfl,?_,?_,trivial⟩
   ·show List.map zA (i.b.sells.take _++i.b.sells.drop _)=_
    rw[List.map_append,List.map_take,List.map_drop]
   ·show iE (i.b.spare++[r.queue])=_
    simp[iE]
  ·have e:¬(i.b.a.qAt r.queue).count=0:=by simpa using e
   rw[Book.dropF,hgd,if_neg e,hu]
   exact⟨rfl,rfl,rfl,rfl,rfl,rfl,rfl,rfl,rfl,trivial⟩
theorem zVz:drop2C.ok Tryz.prog 121:=z0x (gokc tM (gokc mZ (gokc zNd gok0))) z7c
theorem z0o:dropC.ok Tryz.prog 121:=fun j=>match j with
 |⟨i,false⟩=>zVr i
 |⟨i,true⟩=>zVz i
theorem z3b {a:Arena} {k:Nat} {p t:Int} {m:Nat} (h:zCk (a.slotAt k) m k p t) (hl:k<a.slots.length):a.getF k=((a.slotAt k).ent,true):=by
 have:a.usedAt k=true:=by
  simp only[Arena.usedAt,Bool.and_eq_true,decide_eq_true_eq,Int.toNat_natCast]
  exact⟨by omega,by omega,h.used⟩
 rw[Arena.getF,if_pos this,Int.toNat_natCast]
theorem zEw {b:Book} {Q:List (List Nat)} (c:b.Core Q (-1)) {id s:Int} {r:yX} {k:Nat} (h:Told b Q id s r k):b.a.getF k=((b.a.slotAt k).ent,true)∧(b.a.slotAt k).qty≤1000000∧1≤(b.a.slotAt k).qty:=by
 obtain⟨h1,⟨p,t,h2⟩,h3⟩:=c.wf.toWf0.mem (c.get h.hs h.hr) h.hk
 exact⟨z3b h2 (by rw[c.wf.len];exact h1),h2.q2,c.wf.pos _ _ (c.get h.hs h.hr) _ h.hk⟩
theorem z9e (i:FlI) (h:bfindC.cnd i):zKg i:=by
 obtain⟨Q,c,ht,hL⟩:i.b.Rep i.L:=h
 unfold zKg rS
 rcases c.told i.id with⟨hg,hn⟩|⟨s,r,k,hT⟩
 ·refine⟨qI _ _,false,0,0,0,.inr ⟨?_,rfl,rfl⟩,Cv.cnd.mk (fun _=> ?_) (fun e=>absurd e (by decide))⟩
  ·rw[cE,hg];rfl
  ·rw[← hL]at hn
   rw[yAc hn,hn]
   exact⟨(),by(repeat'(first|exact trivial|exact rfl|apply And.intro))⟩
 ·refine⟨qI _ _,true,s,r.price,k,.inl ⟨?_,rfl⟩,Cv.cnd.mk (fun e=>absurd e (by decide)) (fun _=>dup ⟨⟨i.b.a,k⟩,rfl,rfl,by dsimp only;rw[c.wf.len];decide,fun _ _=>⟨(),?_⟩⟩)⟩
  ·rw[cE,hT.e];rfl
  ·have h1:=hT.get
   have h2:=hT.has
   rw[← hL]at h1 h2
   rw[h1,h2,(zEw c hT).1]
   exact⟨hT.ident,by(repeat'(first|exact trivial|exact rfl|apply And.intro))⟩
theorem zHv:bfindC.ok Tryz.prog 75:=zZk (gokc zOe gok0) z9e
theorem Book.Core.okAt {b:Book} {Q:List (List Nat)} (c:b.Core Q (-1)):b.a.okAt:=c.wf.toWf0.ok
theorem yBp (i:FlI) (h:fillC.cnd i):zTs i:=by
 have hR:i.b.Rep i.L:=h
 obtain⟨Q,c,ht,hL⟩:=id hR
 unfold zTs zCy
 rcases c.told i.id with⟨hg,hn⟩|⟨s,r,k,hT⟩
 ·refine⟨qI _ _,false,0,0,0,.inr ⟨?_,rfl,rfl⟩,Cv.cnd.mk (fun _=> ?_) (fun e=>absurd e (by simp))⟩
  ·rw[cE,hg];rfl
  ·rw[← hL]at hn
   rw[yW,if_pos hn]
   exact⟨i.b,rfl,rfl,rfl,rfl,rfl,rfl,rfl,rfl,rfl,rfl,hR⟩
 have hg:=hT.get
 have hh:=hT.has
 rw[← hL]at hg hh
 obtain⟨hsg,hq1,hq2⟩:=zEw c hT
 have hqq:(j0 i.L i.id).qty=(i.b.a.slotAt k).qty:=by rw[hg];rfl
 refine⟨qI _ _,true,s,r.price,k,.inl ⟨?_,rfl⟩,Cv.cnd.mk (fun e=>absurd e (by simp)) (fun _=>⟨⟨i.b.a,k,i.qty⟩,rfl,rfl,rfl,c.okAt,fun _ _=> ?_⟩)⟩
 ·rw[cE,hT.e];rfl
 dsimp only
 have hu:i.b.a.usedAt k=true:=by
  cases hu:i.b.a.usedAt k with
  |true=>rfl
  |false=>rw[Arena.getF,if_neg (by rw[hu];decide)]at hsg;exact absurd (congrArg Prod.snd hsg) (by simp)
 by_cases hb:i.qty<1∨(i.b.a.slotAt k).qty<i.qty
 ·have ht:i.b.a.takeF k i.qty=(i.b.a,24):=by rw[Arena.takeF,if_neg (by rw[hu];decide),Int.toNat_natCast,if_pos hb]
  rw[ht]
  refine Cv.cnd.mk (fun _=> ?_) (fun e=>absurd e (by simp))
  rw[yW,if_neg (by rw[hh];decide),if_pos (by rw[hqq];exact hb)]
  exact⟨i.b,rfl,rfl,rfl,rfl,rfl,rfl,rfl,rfl,rfl,rfl,hR⟩
 have hfl:yW i.L i.id i.qty=(xM i.L i.id i.qty,0):=by rw[yW,if_neg (by rw[hh];decide),if_neg (by rw[hqq];exact hb)]
 by_cases hf:i.qty=(i.b.a.slotAt k).qty
 ·obtain⟨g1,g2,g3,g4,g5,g6⟩:=c.gone (by rw[← hL];exact ht) hT (q:=i.qty) ⟨by omega,hf⟩
  rw[← hL]at g2
  have hsm:=c.small
  rw[g1]
  refine Cv.cnd.mk (fun e=>absurd e (by simp)) (fun _=>dup ⟨⟨(i.b.a.takeF k i.qty).1,k⟩,rfl,rfl,by dsimp only;rw[g3];decide,fun _ _=> ?_⟩)
  dsimp only
  rw[g5]
  refine Cv.cnd.mk (fun _=> ?_) (fun e=>absurd e (by simp))
  rcases hT.hs with rfl|rfl
  ·refine⟨⟨⟨{i.b with a:=(i.b.a.takeF k i.qty).1},i.id,r.price,k⟩,false⟩,rfl,rfl,rfl,rfl,rfl,rfl,rfl,rfl,rfl,rfl,rfl,rfl,rfl,⟨⟨⟨by dsimp only;rw[g3];decide,by dsimp only;rw[g4];exact hsm.1.2⟩,hsm.2⟩,g6⟩,fun _ _=> ?_⟩
   refine⟨({i.b with a:=(i.b.a.takeF k i.qty).1}:Book).dropF 1 i.id r.price,by rw[hfl],rfl,rfl,rfl,rfl,rfl,rfl,rfl,rfl,rfl,by rw[hfl];exact g2⟩
  ·refine⟨⟨⟨{i.b with a:=(i.b.a.takeF k i.qty).1},i.id,r.price,k⟩,true⟩,rfl,rfl,rfl,rfl,rfl,rfl,rfl,rfl,rfl,rfl,rfl,rfl,rfl,⟨⟨⟨by dsimp only;rw[g3];decide,by dsimp only;rw[g4];exact hsm.1.2⟩,hsm.2⟩,g6⟩,fun _ _=> ?_⟩
   refine⟨({i.b with a:=(i.b.a.takeF k i.qty).1}:Book).dropF 2 i.id r.price,by rw[hfl],rfl,rfl,rfl,rfl,rfl,rfl,rfl,rfl,rfl,by rw[hfl];exact g2⟩
 ·obtain⟨g1,g2,g3,g4,g5⟩:=c.less (by rw[← hL];exact ht) hT (q:=i.qty) (by omega)
  rw[← hL]at g2
  rw[g1]
  refine Cv.cnd.mk (fun e=>absurd e (by simp)) (fun _=>dup ⟨⟨(i.b.a.takeF k i.qty).1,k⟩,rfl,rfl,by dsimp only;rw[g3];decide,fun _ _=> ?_⟩)
  dsimp only
  rw[g4]
  refine Cv.cnd.mk (fun e=>absurd e (by simp)) (fun _=>Cv.cnd.mk (fun e=> ?_) (fun _=> ?_))
  ·have e:¬((i.b.a.takeF k i.qty).1.slotAt k).ent.id=i.id:=by simpa using e
   exact absurd g5 e
  ·exact⟨{i.b with a:=(i.b.a.takeF k i.qty).1},by rw[hfl],rfl,rfl,rfl,rfl,rfl,rfl,rfl,rfl,rfl,by rw[hfl];exact g2⟩
theorem z2b:fillC.ok Tryz.prog 100:=z7n (gokc zUw (gokc zOe (gokc z0o gok0))) yBp
theorem zBx (A B:List zJ) (s p:Int):atL (A++B) s p=atL A s p++atL B s p:=List.filter_append _ _
theorem zCp {A:List zJ} {s p:Int} (h:∀o∈A,o.side=s→o.price≠p):atL A s p=[]:=by
 rw[atL,List.filter_eq_nil_iff]
 intro o ho
 by_cases e:o.side=s
 ·simp[h o ho e]
 ·simp[e]
theorem z3m {A:List zJ} {s p:Int} (h:∀o∈A,o.side=s∧o.price=p):atL A s p=A:=by
 rw[atL,List.filter_eq_self]
 intro o ho
 simp[h o ho]
theorem rB {s x y:Int} (h:btr s x y=true):x≠y:=by
 rintro rfl;rw[dP]at h;cases h
theorem Book.Core.at_no {b:Book} {Q:List (List Nat)} (c:b.Core Q (-1)) {s p:Int} (hs:s=1∨s=2) (h:xH s (b.rungs s) p=false):atL (b.flat Q) s p=[]:=by
 have hsp:=bC (p:=p) (c.srt s hs)
 rw[if_neg (by rw[h];decide)]at hsp
 refine zCp fun o ho e=> ?_
 obtain⟨_,r,hr,_,hp⟩:=uW ho
 rw[e]at hr
 rw[hp]
 rw[← List.take_append_drop (zP s (b.rungs s) p) (b.rungs s)]at hr
 rcases List.mem_append.1 hr with hr|hr
 ·exact rB (hsp.1 r hr)
 ·exact(rB (hsp.2 r hr)).symm
theorem Book.Core.at_yes {b:Book} {Q:List (List Nat)} (c:b.Core Q (-1)) {s p:Int} (hs:s=1∨s=2) (h:xH s (b.rungs s) p=true):∃r,(b.rungs s)[zP s (b.rungs s) p]? =some r∧r.price=p∧r∈b.rungs s∧atL (b.flat Q) s p=b.rOrds Q s r:=by
 have hsp:=bC (p:=p) (c.srt s hs)
 rw[if_pos h]at hsp
 obtain⟨h1,r,hr,hp,h2⟩:=hsp
 have hlt:=(List.getElem?_eq_some_iff.1 hr).1
 refine⟨r,hr,hp,List.mem_of_getElem? hr,?_⟩
 have hsplit:b.rungs s=(b.rungs s).take (zP s (b.rungs s) p)++r::(b.rungs s).drop (zP s (b.rungs s) p+1):=by
  conv=>lhs;rw[← List.take_append_drop (zP s (b.rungs s) p) (b.rungs s)]
  rw[List.drop_eq_getElem_cons hlt,(List.getElem?_eq_some_iff.1 hr).2]
 have hside:atL (b.sideL Q s) s p=b.rOrds Q s r:=by
  rw[Book.sideL,hsplit,List.flatMap_append,List.flatMap_cons,zBx,zBx,zCp,z3m,zCp,List.append_nil,List.nil_append]
  ·intro o ho _
   obtain⟨r',hr',ho⟩:=List.mem_flatMap.1 ho
   rw[(xD ho).2];exact(rB (h2 r' hr')).symm
  ·intro o ho
   rw[← hp];exact xD ho
  ·intro o ho _
   obtain⟨r',hr',ho⟩:=List.mem_flatMap.1 ho
   rw[(xD ho).2];exact rB (h1 r' hr')
 have hother:∀s',s'≠s→atL (b.sideL Q s') s p=[]:=fun s' hne=>zCp fun o ho e=>absurd ((v8 ho).1.symm.trans e) hne
 rw[Book.flat,zBx]
 rcases hs with rfl|rfl
 ·rw[hside,hother 2 (by decide),List.append_nil]
 ·rw[hside,hother 1 (by decide),List.nil_append]
theorem Book.Core.listOk {b:Book} {Q:List (List Nat)} (c:b.Core Q (-1)) {s:Int} (hs:s=1∨s=2) {r:yX} (hr:r∈b.rungs s):b.a.listOk r.queue (yS Q r):=by
 have hg:=c.get hs hr
 have hrq:=c.rng _ (k9 hs hr)
 refine⟨by have:=c.wf.toWf0.short hg;omega,?_⟩
 rw[if_pos ⟨hrq.1,by rw[c.wf.ql];exact hrq.2⟩,zX (c.wf.q _ _ hg)]
 exact zBb (c.wf.sg _ _ hg)
theorem yEd (i:AtI) (h:at1C.cnd i):z4y i:=by
 obtain⟨Q,c,ht,hL⟩:i.b.Rep i.L:=h
 unfold z4y
 refine⟨1,rfl,trivial,fun _ _=>Cv.cnd.mk (fun e=>absurd e (by decide)) fun _=>⟨⟨i.b,i.price⟩,rfl,rfl,rfl,rfl,rfl,rfl,rfl,rfl,rfl,rfl,rfl,c.small,fun _ _=>Cv.cnd.mk (fun e=> ?_) (fun e=> ?_)⟩⟩
 ·have e:xH 1 (i.b.rungs 1) i.price=false:=by simpa using e
  have:=c.at_no (.inl rfl) e
  rw[← hL]at this
  refine⟨(),rfl,rfl,rfl,rfl,rfl,rfl,rfl,rfl,rfl,?_,trivial⟩
  show List.map qC (atL i.L 1 i.price)=[]
  rw[this];rfl
 ·have e:xH 1 (i.b.rungs 1) i.price=true:=by simpa using e
  obtain⟨r,hr,hp,hm,ha⟩:=c.at_yes (.inl rfl) e
  rw[← hL]at ha
  have hlt:=(List.getElem?_eq_some_iff.1 hr).1
  refine⟨⟨by omega,by rw[List.length_map];exact Int.ofNat_lt.2 hlt⟩,r.price,r.queue,elA hr (by simp[zA]) rfl,⟨i.b,1,r,yS Q r⟩,rfl,rfl,rfl,rfl,rfl,rfl,rfl,rfl,rfl,rfl,rfl,rfl,c.listOk (.inl rfl) hm,fun _ _=>⟨(),rfl,?_,trivial⟩⟩
  show List.map qC (atL i.L 1 i.price)=_
  rw[ha,BoI.ords,Book.rOrds,Arena.ents];simp only[List.map_map];rfl
theorem z7b:at1C.ok Tryz.prog 112:=yBe (gokc mT (gokc tA (gokc zAr gok0))) yEd
theorem yDc (i:AtI) (h:at2C.cnd i):z6y i:=by
 obtain⟨Q,c,ht,hL⟩:i.b.Rep i.L:=h
 unfold z6y
 refine⟨2,rfl,trivial,fun _ _=>Cv.cnd.mk (fun e=>absurd e (by decide)) fun _=>⟨⟨i.b,i.price⟩,rfl,rfl,rfl,rfl,rfl,rfl,rfl,rfl,rfl,rfl,rfl,c.small,fun _ _=>Cv.cnd.mk (fun e=> ?_) (fun e=> ?_)⟩⟩
 ·have e:xH 2 (i.b.rungs 2) i.price=false:=by simpa using e
  have:=c.at_no (.inr rfl) e
  rw[← hL]at this
  refine⟨(),rfl,rfl,rfl,rfl,rfl,rfl,rfl,rfl,rfl,?_,trivial⟩
  show List.map qC (atL i.L 2 i.price)=[]
  rw[this];rfl
 ·have e:xH 2 (i.b.rungs 2) i.price=true:=by simpa using e
  obtain⟨r,hr,hp,hm,ha⟩:=c.at_yes (.inr rfl) e
  rw[← hL]at ha
  have hlt:=(List.getElem?_eq_some_iff.1 hr).1
  refine⟨⟨by omega,by rw[List.length_map];exact Int.ofNat_lt.2 hlt⟩,r.price,r.queue,elA hr (by simp[zA]) rfl,⟨i.b,2,r,yS Q r⟩,rfl,rfl,rfl,rfl,rfl,rfl,rfl,rfl,rfl,rfl,rfl,rfl,c.listOk (.inr rfl) hm,fun _ _=>⟨(),rfl,?_,trivial⟩⟩
  show List.map qC (atL i.L 2 i.price)=_
  rw[ha,BoI.ords,Book.rOrds,Arena.ents];simp only[List.map_map];rfl
theorem z4w:at2C.ok Tryz.prog 112:=yBv (gokc mT (gokc tM (gokc zAr gok0))) yDc
theorem yCe:atC.ok Tryz.prog 112:=fun j=>match j with
 |⟨b,L,false,p⟩=>z7b ⟨b,L,false,p⟩
 |⟨b,L,true,p⟩=>z4w ⟨b,L,true,p⟩
open Go Cv Go.Proofs
def zEg (p:Int) (l:List zJ):Lv:=⟨p,(l.map (·.qty)).sum,l.length⟩
theorem zEy:∀{l:List zJ} {v:Lv} {vs:List Lv},grp l=v::vs→∃o r,l=o::r∧o.price=v.price
 |[],v,vs,h=>by cases h
 |o::r,v,vs,h=>by
  refine⟨o,r,rfl,?_⟩
  rw[grp]at h
  split at h
  ·cases h;rfl
  ·split at h
   ·rename_i e;cases h;exact e.symm
   ·cases h;rfl
theorem zOs {p:Int}:∀{l:List zJ} {m:List zJ},l≠[]→(∀o∈l,o.price=p)→(∀o r,m=o::r→o.price≠p)→grp (l++m)=zEg p l::grp m
 |[],m,h,_,_=>absurd rfl h
 |[o],m,_,h,hm=>by
  have e:=h o List.mem_cons_self
  rw[List.singleton_append,grp]
  split
  ·rename_i g;simp[zEg,e,g]
  ·rename_i v vs g
   obtain⟨o',r,e1,e2⟩:=zEy g
   have:=hm o' r e1
   rw[if_neg (by omega)];simp[zEg,e,g]
 |o::o'::l,m,_,h,hm=>by
  have e:=h o List.mem_cons_self
  have ih:=zOs (l:=o'::l) (m:=m) (by simp) (fun x hx=>h x (List.mem_cons_of_mem _ hx)) hm
  rw[List.cons_append,grp,ih]
  dsimp only
  rw[if_pos (show(zEg p (o'::l)).price=o.price from e.symm)]
  simp only[zEg,List.map_cons,List.sum_cons,List.length_cons]
  rfl
theorem zHj {f:yX→List zJ}:∀{R:List yX},(∀r∈R,f r≠[]∧∀o∈f r,o.price=r.price)→R.Pairwise (fun r r'=>r.price≠r'.price)→grp (R.flatMap f)=R.map fun r=>zEg r.price (f r)
 |[],_,_=>rfl
 |r::R,h,hp=>by
  rw[List.pairwise_cons]at hp
  have ih:=zHj (R:=R) (fun x hx=>h x (List.mem_cons_of_mem _ hx)) hp.2
  rw[List.flatMap_cons,zOs (h r List.mem_cons_self).1 (h r List.mem_cons_self).2,ih,List.map_cons]
  intro o l e
  cases R with
  |nil=>cases e
  |cons r' R'=>
   rw[List.flatMap_cons]at e
   obtain⟨h1,h2⟩:=h r' (List.mem_cons_of_mem _ List.mem_cons_self)
   cases hf:f r' with
   |nil=>exact absurd hf h1
   |cons x y=>
    rw[hf,List.cons_append]at e
    cases e
    rw[h2 o (by rw[hf];exact List.mem_cons_self)]
    exact(hp.1 r' List.mem_cons_self).symm
theorem lH {b:Book} {Q:List (List Nat)} {s:Int} (hs:s=1∨s=2):(b.flat Q).filter (fun o=>decide (o.side=s))=b.sideL Q s:=by
 have h1:∀s',(b.sideL Q s').filter (fun o=>decide (o.side=s))=if s'=s then b.sideL Q s' else[]:=by
  intro s'
  split
  ·rename_i e
   rw[List.filter_eq_self]
   intro o ho
   rw[(v8 ho).1,e];simp
  ·rename_i e
   rw[List.filter_eq_nil_iff]
   intro o ho
   rw[(v8 ho).1];simp[e]
 rw[Book.flat,List.filter_append,h1,h1]
 rcases hs with rfl|rfl
 ·simp
 ·simp
theorem Book.Core.neL {b:Book} {Q:List (List Nat)} (c:b.Core Q (-1)) {s:Int} (hs:s=1∨s=2) {r:yX} (hr:r∈b.rungs s):yS Q r≠[]:=c.ne s hs r hr fun e=>by have:=c.rng _ (k9 hs hr);omega
theorem Book.Core.toldL {b:Book} {Q:List (List Nat)} (c:b.Core Q (-1)) {s:Int} (hs:s=1∨s=2) {r:yX} (hr:r∈b.rungs s):b.told r=zEg r.price (b.rOrds Q s r):=by
 have hg:=c.get hs hr
 have hrq:=c.rng _ (k9 hs hr)
 have hq:=c.wf.q _ _ hg
 have hql:=c.wf.ql
 rw[Book.told,zEc hrq.1 hq,zEg,Book.rOrds,List.map_map,List.length_map]
 rfl
theorem Book.Core.lad {b:Book} {Q:List (List Nat)} (c:b.Core Q (-1)) {s:Int} (hs:s=1∨s=2):eV (b.flat Q) s=(b.rungs s).map b.told:=by
 rw[eV,lH hs,Book.sideL,zHj]
 ·exact List.map_congr_left fun r hr=>(c.toldL hs hr).symm
 ·intro r hr
  refine⟨fun e=>c.neL hs hr (List.map_eq_nil_iff.1 e),fun o ho=>(xD ho).2⟩
 ·exact(c.srt s hs).imp fun h=>rB h
theorem Book.Core.bestL {b:Book} {Q:List (List Nat)} (c:b.Core Q (-1)) {s:Int} (hs:s=1∨s=2):b.best (b.rungs s)=Sx.bestL (b.flat Q) s:=by
 rw[Sx.bestL,c.lad hs]
 cases b.rungs s<;>rfl
theorem Book.Core.cnt {b:Book} {Q:List (List Nat)} (c:b.Core Q (-1)):b.cntOk:=by
 intro q hq
 obtain⟨n,hn⟩:=List.mem_iff_getElem?.1 hq
 have hlt:=(List.getElem?_eq_some_iff.1 hn).1
 rw[c.wf.ql]at hlt
 obtain⟨l,hl⟩:=yD hlt
 have:=c.wf.q n l hl
 rw[hn]at this
 cases this
 have:=c.wf.toWf0.short hl
 constructor<;>dsimp only<;>omega
def y9 (L:List zJ):Top:=(top0.buy (bestL L 1)).sell (bestL L 2)
theorem Book.Rep.top {b:Book} {L:List zJ} (h:b.Rep L):b.top=y9 L:=by
 obtain⟨Q,c,ht,rfl⟩:=h
 rw[Book.top,y9,← c.bestL (.inl rfl),← c.bestL (.inr rfl)];rfl
theorem Book.Rep.cnt {b:Book} {L:List zJ} (h:b.Rep L):b.cntOk:=by
 obtain⟨Q,c,ht,rfl⟩:=h
 exact c.cnt
structure sU (o:zJ):Prop where
 s:o.side=1∨o.side=2
 q:1≤o.qty∧o.qty≤1000000
theorem Book.Rep.ords {b:Book} {L:List zJ} (h:b.Rep L):(∀o∈L,sU o)∧(L.map (·.id)).Nodup∧L.length≤250:=by
 obtain⟨Q,c,ht,rfl⟩:=h
 refine⟨fun o ho=> ?_,c.ids,?_⟩
 ·obtain⟨hs,r,hr,ho,hp⟩:=uW ho
  refine⟨hs,?_⟩
  obtain⟨k,hk,e⟩:=List.mem_map.1 ho
  obtain⟨_,⟨_,_,h2⟩,_⟩:=c.wf.toWf0.mem (c.get hs hr) hk
  have eq:o.qty=(b.a.slotAt k).qty:=by rw[← e];rfl
  rw[eq]
  exact⟨c.wf.pos _ _ (c.get hs hr) _ hk,h2.q2⟩
 ·have hnd:(((b.rungs 1).flatMap (yS Q)++(b.rungs 2).flatMap (yS Q))).Nodup:=by
   have hm:((b.flat Q).map (·.id))=((b.rungs 1).flatMap (yS Q)++(b.rungs 2).flatMap (yS Q)).map fun k=>(b.a.slotAt k).id:=by
    rw[Book.flat,List.map_append,List.map_append,Book.sideL,Book.sideL,f8,f8,f8,f8]
    congr 1
    ·exact yT fun r _=>by rw[Book.rOrds,List.map_map];rfl
    ·exact yT fun r _=>by rw[Book.rOrds,List.map_map];rfl
   have:=c.ids
   rw[hm]at this
   exact List.Pairwise.of_map _ (fun a b hab e=>hab (by rw[e])) this
  have hl:(b.flat Q).length=((b.rungs 1).flatMap (yS Q)++(b.rungs 2).flatMap (yS Q)).length:=by
   rw[Book.flat,List.length_append,List.length_append,Book.sideL,Book.sideL,List.length_flatMap,List.length_flatMap,List.length_flatMap,List.length_flatMap]
   congr 1
   ·congr 1;exact List.map_congr_left fun r _=>by rw[Book.rOrds,List.length_map]
   ·congr 1;exact List.map_congr_left fun r _=>by rw[Book.rOrds,List.length_map]
  rw[hl]
  refine sI 250 hnd fun k hk=> ?_
  rcases List.mem_append.1 hk with hk|hk
  ·obtain⟨r,hr,hk⟩:=List.mem_flatMap.1 hk
   exact(c.wf.toWf0.mem (c.get (.inl rfl) hr) hk).1
  ·obtain⟨r,hr,hk⟩:=List.mem_flatMap.1 hk
   exact(c.wf.toWf0.mem (c.get (.inr rfl) hr) hk).1
theorem Book.Rep.fit {b:Book} {L:List zJ} (h:b.Rep L):b.fit:=by
 obtain⟨Q,c,ht,rfl⟩:=h
 have hs:=c.small
 have h1:=c.ql
 have h2:=c.wf.ql
 have hqb:=c.qb
 rw[Book.qs,List.length_append,List.length_append,List.length_map,List.length_map]at h1
 refine⟨⟨hs.1.1,fun hf=> ?_,fun q hq=> ?_⟩,by omega,by omega,by omega,by omega⟩
 ·obtain⟨k,_,hk,hk1,hku,_⟩:=c.wf.toWf0.unused hf
  exact⟨_,List.mem_of_getElem? hk1,hku⟩
 ·obtain⟨n,hn⟩:=List.mem_iff_getElem?.1 hq
  have hlt:=(List.getElem?_eq_some_iff.1 hn).1
  rw[c.wf.ql]at hlt
  obtain⟨l,hl⟩:=yD hlt
  have:=c.wf.q n l hl
  rw[hn]at this
  cases this
  dsimp only
  rcases qN l with e|⟨y,j,e,e2⟩
  ·exact .inl ((u6 l).2 e)
  ·rw[e2]
   have:=(c.wf.toWf0.mem hl (k:=j) (by rw[e];simp)).1
   rw[c.wf.len]
   exact .inr ⟨by omega,by omega⟩
def whL:Nat→List (List zJ)→List (Int×Int)
 |_,[]=>[]
 |k,L::B=>L.map (fun o=>(o.id,(k:Int)))++whL (k+1) B
theorem whL_mem:∀{B:List (List zJ)} {n:Nat} {x:Int×Int},x∈whL n B↔∃(k:Nat) (L:List zJ),B[k]? =some L∧x.1∈L.map (·.id)∧x.2=((n+k:Nat):Int)
 |[],n,x=>by simp[whL]
 |L::B,n,x=>by
  rw[whL,List.mem_append,whL_mem (B:=B)]
  constructor
  ·rintro(h|⟨k,L',h1,h2,h3⟩)
   ·obtain⟨o,ho,rfl⟩:=List.mem_map.1 h
    exact⟨0,L,rfl,List.mem_map_of_mem (f:=(·.id)) ho,rfl⟩
   ·exact⟨k+1,L',h1,h2,by rw[h3];omega⟩
  ·rintro⟨k,L',h1,h2,h3⟩
   cases k with
   |zero=>
    cases h1
    obtain⟨o,ho,e⟩:=List.mem_map.1 h2
    exact .inl (List.mem_map.2 ⟨o,ho,Prod.ext e h3.symm⟩)
   |succ k=>exact .inr ⟨k,L',h1,h2,by rw[h3];omega⟩
theorem pL:∀{B:List (List zJ)} (n k:Nat),k<B.length→∃rest,∀X:List zJ,(whL n (B.set k X)).Perm (X.map (fun o=>(o.id,((n+k:Nat):Int)))++rest)
 |[],n,k,h=>absurd h (by simp)
 |L::B,n,0,h=>⟨whL (n+1) B,fun X=> .refl _⟩
 |L::B,n,k+1,h=>by
  obtain⟨rest,hr⟩:=pL (B:=B) (n+1) k (by simpa using h)
  refine⟨L.map (fun o=>(o.id,(n:Int)))++rest,fun X=> ?_⟩
  rw[List.set_cons_succ,whL]
  refine((hr X).append_left _).trans ?_
  rw[← List.append_assoc,← List.append_assoc,show n+1+k=n+(k+1)by omega]
  exact List.perm_append_comm.append_right _
structure MSt.Rep (s:MSt) (p:Prd) (B:List (List zJ)):Prop where
 ep:s.p=p
 bl:s.books.length=B.length
 bk:∀(k:Nat) (b:Book) (L:List zJ),s.books[k]? =some b→B[k]? =some L→b.Rep L
 wh:s.wh.Perm (whL 0 B)
 ids:((whL 0 B).map (·.1)).Nodup
def jI (B:List (List zJ)) (id:Int):Option Nat:=B.findIdx? fun L=>yY L id
theorem qS {B:List (List zJ)} {id:Int} {k:Nat} (h:jI B id=some k):∃L,B[k]? =some L∧yY L id=true:=by
 rw[jI,List.findIdx?_eq_some_iff_getElem]at h
 obtain⟨h1,h2,_⟩:=h
 exact⟨_,List.getElem?_eq_getElem h1,h2⟩
theorem pZ {B:List (List zJ)} {id:Int} (h:jI B id=none):∀L∈B,yY L id=false:=by
 rw[jI,List.findIdx?_eq_none_iff]at h
 exact h
theorem zDb:∀{l:List (Int×Int)},(l.map (·.1)).Nodup→∀{k x:Int},(k,x)∈l→gZ l k=some x
 |[],_,k,x,hx=>by cases hx
 |p::l,h,k,x,hx=>by
  rw[List.map_cons,List.nodup_cons]at h
  rw[gZ,List.find?_cons]
  rcases List.mem_cons.1 hx with ex|hx
  ·subst ex;simp
  ·have:p.1≠k:=by rintro e;exact h.1 (e▸List.mem_map_of_mem (f:=(·.1)) hx)
   rw[decide_eq_false this]
   exact zDb h.2 hx
theorem zPt {l:List (Int×Int)} {k:Int} (h:k∉l.map (·.1)):gZ l k=none:=by
 rw[gZ,Option.map_eq_none_iff,List.find?_eq_none]
 intro x hx e
 have e:x.1=k:=by simpa using e
 exact h (e▸List.mem_map_of_mem (f:=(·.1)) hx)
theorem MSt.Rep.keys {s:MSt} {p:Prd} {B:List (List zJ)} (h:s.Rep p B):(s.wh.map (·.1)).Nodup:=(h.wh.map (·.1)).nodup_iff.2 h.ids
theorem MSt.Rep.at_ {s:MSt} {p:Prd} {B:List (List zJ)} (h:s.Rep p B) (id:Int):gZ s.wh id=(jI B id).map (fun k:Nat=>(k:Int)):=by
 cases hi:jI B id with
 |none=>
  refine zPt fun hm=> ?_
  rw[(h.wh.map (·.1)).mem_iff]at hm
  obtain⟨x,hx,rfl⟩:=List.mem_map.1 hm
  obtain⟨k,L,h1,h2,_⟩:=whL_mem.1 hx
  have:=pZ hi L (List.mem_of_getElem? h1)
  rw[hasId_iff.2 h2]at this;cases this
 |some k=>
  obtain⟨L,h1,h2⟩:=qS hi
  refine zDb h.keys (h.wh.mem_iff.2 (whL_mem.2 ⟨k,L,h1,hasId_iff.1 h2,by simp⟩))
theorem zUb {B:List (List zJ)} (h:((whL 0 B).map (·.1)).Nodup) {id:Int} {k j:Nat} {L M:List zJ} (hk:B[k]? =some L) (hj:B[j]? =some M) (h1:id∈L.map (·.id)) (h2:id∈M.map (·.id)):k=j:=by
 have a:=whL_mem (n:=0) (x:=(id,(k:Int)))|>.2 ⟨k,L,hk,h1,by simp⟩
 have b:=whL_mem (n:=0) (x:=(id,(j:Int)))|>.2 ⟨j,M,hj,h2,by simp⟩
 have:=aJ h a b
 omega
open Go Cv Go.Proofs
def yN (B:List (List zJ)) (id q:Int):List (List zJ)×Int:=match jI B id with
 |none=>(B,26)
 |some k=>(B.set k (yW (B.getD k []) id q).1,(yW (B.getD k []) id q).2)
theorem sL {L:List zJ} (h:(L.map (·.id)).Nodup) (id q:Int):((yW L id q).1.map (·.id)=L.map (·.id)∧yY (yW L id q).1 id=yY L id)∨((yW L id q).1=L.filter (fun o=> !decide (o.id=id))∧yY (yW L id q).1 id=false):=by
 rw[yW]
 by_cases h1:yY L id=false
 ·rw[if_pos h1];exact .inl ⟨rfl,rfl⟩
 have h1:yY L id=true:=by simpa using h1
 rw[if_neg (by rw[h1];decide)]
 by_cases h2:q<1∨(j0 L id).qty<q
 ·rw[if_pos h2];exact .inl ⟨rfl,rfl⟩
 rw[if_neg h2]
 dsimp only
 by_cases h3:(j0 L id).qty=q
 ·refine .inr ?_
  have e:xM L id q=L.filter fun o=> !decide (o.id=id):=by rw[← h3];exact mR h h1
  refine⟨e,?_⟩
  rw[e,yY,List.any_eq_false]
  intro o ho
  rw[List.mem_filter]at ho
  simpa using ho.2
 ·refine .inl ?_
  have hm:(xM L id q).map (·.id)=L.map (·.id):=by
   have:xM L id q=L.map fun o=>if o.id=id then{o with qty:=o.qty-q}else o:=by
    rw[xM,← List.filterMap_eq_map]
    refine vO fun o ho=> ?_
    simp only[Function.comp]
    by_cases e:o.id=id
    ·have hg:=vJ h ho
     rw[e]at hg
     rw[if_pos e,if_pos e,if_neg (fun e2=>h3 (by rw[hg];exact e2))]
    ·rw[if_neg e,if_neg e]
   rw[this,List.map_map]
   refine List.map_congr_left fun o _=> ?_
   simp only[Function.comp]
   split<;>rfl
  refine⟨hm,?_⟩
  rw[Bool.eq_iff_iff,hasId_iff,hasId_iff,hm]
theorem zMk:∀{l:List (Int×Int)} {k:Int},(l.map (·.1)).Nodup→zGv k l=l.filter fun x=> !decide (x.1=k)
 |[],k,_=>rfl
 |(a,b)::l,k,h=>by
  rw[List.map_cons,List.nodup_cons]at h
  rw[zGv]
  by_cases e:k=a
  ·subst e
   rw[if_pos rfl,List.filter_cons_of_neg (by simp)]
   symm
   rw[List.filter_eq_self]
   intro x hx
   have:x.1≠k:=fun e=>h.1 (e▸List.mem_map_of_mem (f:=(·.1)) hx)
   simp[this]
  ·rw[if_neg e,List.filter_cons_of_pos (by simp[Ne.symm e]),zMk h.2]
theorem zGr:∀{l:List (Int×Int)} {k x:Int},k∉l.map (·.1)→bR k x l=l++[(k,x)]
 |[],k,x,_=>rfl
 |p::l,k,x,h=>by
  rw[List.map_cons,List.mem_cons,not_or]at h
  rw[bR,if_neg h.1,zGr h.2];rfl
theorem kB {α:Type} {l:List α} {k:Nat} {x:α} (h:l[k]? =some x):l.set k x=l:=by
 apply List.ext_getElem?
 intro i
 rw[List.getElem?_set]
 split
 ·rename_i e
  subst e
  rw[if_pos (List.getElem?_eq_some_iff.1 h).1,h]
 ·rfl
theorem MSt.Rep.set {s:MSt} {p:Prd} {B:List (List zJ)} (h:s.Rep p B) {k:Nat} {L':List zJ} {b':Book} (hb:b'.Rep L') (hk:k<B.length) {wh':List (Int×Int)} (hw:wh'.Perm (whL 0 (B.set k L'))) (hi:((whL 0 (B.set k L')).map (·.1)).Nodup):({s with books:=s.books.set k b',wh:=wh'}:MSt).Rep p (B.set k L'):=by
 refine⟨h.ep,by simpa using h.bl,fun j b L h1 h2=> ?_,hw,hi⟩
 by_cases e:k=j
 ·subst e
  have h1:(s.books.set k b')[k]? =some b:=h1
  rw[jR (by rw[h.bl];exact hk)]at h1
  rw[jR hk]at h2
  cases h1;cases h2;exact hb
 ·have h1:(s.books.set k b')[j]? =some b:=h1
  rw[kP e]at h1 h2
  exact h.bk j b L h1 h2
theorem MSt.Rep.take {s:MSt} {p:Prd} {B:List (List zJ)} (h:s.Rep p B) {id q:Int} {k:Nat} (hi:jI B id=some k) {L:List zJ} (hL:B[k]? =some L) (hn:(L.map (·.id)).Nodup) {b':Book} (hb:b'.Rep (yW L id q).1):
 ({s with books:=s.books.set k b',wh:=if yY (yW L id q).1 id=true then s.wh else zGv id s.wh}:MSt).Rep p (yN B id q).1:=by
 have hk:=(List.getElem?_eq_some_iff.1 hL).1
 have ht:(yN B id q).1=B.set k (yW L id q).1:=by simp only[yN,hi,zX hL]
 obtain⟨L2,e1,hh⟩:=qS hi
 rw[hL]at e1;cases e1
 obtain⟨rest,hr⟩:=pL (B:=B) 0 k hk
 have hL0:=hr L
 rw[kB hL]at hL0
 rw[ht]
 rcases sL hn id q with⟨e1,e2⟩|⟨e1,e2⟩
 ·have hm:∀X Y:List zJ,X.map (·.id)=Y.map (·.id)→X.map (fun o=>(o.id,((0+k:Nat):Int)))=Y.map (fun o=>(o.id,((0+k:Nat):Int))):=by
   intro X Y e
   have:=congrArg (List.map fun i:Int=>(i,((0+k:Nat):Int))) e
   rw[List.map_map,List.map_map]at this
   exact this
  have hp:(whL 0 (B.set k (yW L id q).1)).Perm (whL 0 B):=by
   refine(hr _).trans ?_
   rw[hm _ _ e1]
   exact hL0.symm
  rw[e2,hh,if_pos rfl]
  exact h.set hb hk (h.wh.trans hp.symm) ((hp.map (·.1)).nodup_iff.2 h.ids)
 ·rw[e2,if_neg (by decide)]
  have hrest:∀x∈rest,x.1≠id:=by
   intro x hx e
   have hnd:=(hL0.map (·.1)).nodup_iff.1 h.ids
   rw[List.map_append,List.map_map]at hnd
   have h1:id∈L.map ((·.1)∘fun o:zJ=>(o.id,((0+k:Nat):Int))):=hasId_iff.1 hh
   exact(List.nodup_append.1 hnd).2.2 id h1 x.1 (List.mem_map_of_mem (f:=(·.1)) hx) e.symm
  have hp:(whL 0 (B.set k (yW L id q).1)).Perm ((whL 0 B).filter fun x=> !decide (x.1=id)):=by
   refine(hr _).trans (.trans ?_ (hL0.filter _).symm)
   rw[e1,List.filter_append,List.filter_map]
   have:rest.filter (fun x=> !decide (x.1=id))=rest:=by
    rw[List.filter_eq_self]
    intro x hx
    simp[hrest x hx]
   rw[this]
   exact .refl _
  refine h.set hb hk ?_ ((hp.map (·.1)).nodup_iff.2 (h.ids.sublist (List.Sublist.map _ List.filter_sublist)))
  rw[zMk h.keys]
  exact(h.wh.filter _).trans hp.symm
def cK (p:Prd) (B:List (List zJ)) (inst id:Int) (s price q:Int):List (List zJ)×Int:=
 if inst<0∨B.length≤inst then(B,20)else if(jI B id).isSome=true then(B,25)else if 250≤(whL 0 B).length then(B,13)else if p.price inst price≠0 then(B,p.price inst price)
 else(B.set inst.toNat (cS (B.getD inst.toNat []) s id price q).1,(cS (B.getD inst.toNat []) s id price q).2)
theorem zFs (L:List zJ) (s id p q:Int):((cY L s id p q).map (·.id)).Perm (id::L.map (·.id)):=by
 have:∀X:List zJ,((X.takeWhile (before s p)++⟨id,s,p,q,qD L s p⟩::X.dropWhile (before s p)).map (·.id)).Perm (id::X.map (·.id)):=by
  intro X
  conv=>rhs;rw[← List.takeWhile_append_dropWhile (p:=before s p) (l:=X)]
  rw[List.map_append,List.map_cons,List.map_append]
  exact List.perm_middle
 rw[cY]
 split
 ·refine(this _).trans ?_
  rw[zOk]
 ·exact this _
theorem MSt.Rep.add {s:MSt} {p:Prd} {B:List (List zJ)} (h:s.Rep p B) (inst id:Int) (sd:Bool) (price q:Int):
 (MSt.addF ⟨s,inst,id,sd,price,q⟩).1.Rep p (cK p B inst id (zB sd) price q).1∧(MSt.addF ⟨s,inst,id,sd,price,q⟩).2=(cK p B inst id (zB sd) price q).2:=by
 have hsd:zB sd=1∨zB sd=2:=by cases sd;exact .inl rfl;exact .inr rfl
 rw[MSt.addF,cK]
 dsimp only
 rw[h.bl,h.at_,h.wh.length_eq,show s.p.price inst price=p.price inst price by rw[h.ep],Option.isSome_map]
 by_cases c1:inst<0∨(B.length:Int)≤inst
 ·rw[if_pos c1,if_pos c1];exact⟨h,rfl⟩
 rw[if_neg c1,if_neg c1]
 by_cases c2:(jI B id).isSome=true
 ·rw[if_pos c2,if_pos c2];exact⟨h,rfl⟩
 rw[if_neg c2,if_neg c2]
 by_cases c3:250≤(whL 0 B).length
 ·rw[if_pos c3,if_pos c3];exact⟨h,rfl⟩
 rw[if_neg c3,if_neg c3]
 by_cases c4:p.price inst price≠0
 ·rw[if_pos c4,if_pos c4];exact⟨h,rfl⟩
 rw[if_neg c4,if_neg c4]
 obtain⟨k,hk⟩:∃k:Nat,inst=k:=⟨inst.toNat,by omega⟩
 subst hk
 rw[Int.toNat_natCast]
 have hkl:k<B.length:=by omega
 obtain⟨b,hb⟩:=yD (l:=s.books) (i:=k) (by rw[h.bl];exact hkl)
 obtain⟨L,hL⟩:=yD (l:=B) (i:=k) hkl
 have hba:s.bookAt k=b:=by rw[MSt.bookAt,Int.toNat_natCast];exact zX hb
 rw[hba,zX hL]
 obtain⟨r1,r2⟩:=(h.bk k b L hb hL).add hsd id price q
 refine⟨?_,r2⟩
 rw[r2]
 obtain⟨rest,hr⟩:=pL (B:=B) 0 k hkl
 have hL0:=hr L
 rw[kB hL]at hL0
 have hcase:(cS L (zB sd) id price q).2≠0∧(cS L (zB sd) id price q).1=L∨(cS L (zB sd) id price q).2=0∧(cS L (zB sd) id price q).1=cY L (zB sd) id price q:=by
  rw[cS]
  repeat' split
  ·exact .inl ⟨by simp,rfl⟩
  ·exact .inl ⟨by simp,rfl⟩
  ·exact .inl ⟨by simp,rfl⟩
  ·exact .inr ⟨rfl,rfl⟩
 rcases hcase with⟨e1,e2⟩|⟨e1,e2⟩
 ·rw[if_neg e1]
  refine h.set r1 hkl ?_ ?_
  ·rw[e2,kB hL];exact h.wh
  ·rw[e2,kB hL];exact h.ids
 ·rw[if_pos e1]
  have hnk:id∉s.wh.map (·.1):=by
   intro hm
   obtain⟨x,hx,rfl⟩:=List.mem_map.1 hm
   have:=zDb h.keys hx
   rw[h.at_]at this
   cases hq:jI B x.1 with
   |none=>rw[hq]at this;cases this
   |some j=>rw[hq]at c2;exact c2 rfl
  have hp:(whL 0 (B.set k (cS L (zB sd) id price q).1)).Perm ((id,(k:Int))::whL 0 B):=by
   refine(hr _).trans (.trans ?_ (hL0.symm.cons _))
   rw[e2,← List.cons_append]
   refine List.Perm.append_right _ ?_
   have:=(zFs L (zB sd) id price q).map fun i:Int=>(i,(k:Int))
   rw[List.map_map,List.map_cons,List.map_map]at this
   rw[Nat.zero_add]
   exact this
  refine h.set r1 hkl ?_ ((hp.map (·.1)).nodup_iff.2 (List.nodup_cons.2 ⟨?_,h.ids⟩))
  ·rw[zGr hnk]
   exact(List.perm_append_singleton _ _).trans ((h.wh.cons _).trans hp.symm)
  ·rw[← (h.wh.map (·.1)).mem_iff];exact hnk
theorem zCi:∀(n k:Nat),whL k (List.replicate n [])=[]
 |0,_=>rfl
 |n+1,k=>by rw[List.replicate_succ,whL,zCi];rfl
theorem zKw (p:Prd):(wJ p).Rep p (List.replicate p.count []):=by
 refine⟨rfl,by simp[wJ],fun k b L h1 h2=> ?_,?_,?_⟩
 ·have e1:b=book0:=List.eq_of_mem_replicate (List.mem_of_getElem? (show(List.replicate p.count book0)[k]? =some b from h1))
  have e2:L=[]:=List.eq_of_mem_replicate (List.mem_of_getElem? h2)
  rw[e1,e2];exact zQr
 ·rw[zCi];exact .refl _
 ·rw[zCi];exact List.nodup_nil
open Go Cv Go.Proofs
structure BkT where
 b:Book
 L:List zJ
 s:Bool
@[reducible] def zXd (s:MSt):List AObj:=[z8 s 0,z8 s 1,z8 s 2,z8 s 3,z8 s 4]
def topsOC:Con:=con1 MSt (fun _=>[.nm 0 0]) (fun s=>zXd s) MSt.cntOk (fun s=> .own 5) (fun s=>zXd s++[.own 55 6 (s.tops.map zQ)])
structure StI where
 s:MSt
 p:Prd
 B:List (List zJ)
 id:Int
 q:Int
def stakeC:Con where
 ι:=StI
 pat:=fun i=>[.nm 0 0,zC i.id,zC i.q]
 pre:=fun i=>[zE i.s]
 cnd:=fun i=>i.s.Rep i.p i.B∧i.B.length≤1000
 alts:=fun i=>[{o:=MSt,res:=fun _=>zC (yN i.B i.id i.q).2,post:=fun s=>[zE s],rel:=fun s=>s.Rep i.p (yN i.B i.id i.q).1}]
def zY (B:List (List zJ)) (id:Int):Int×zJ×Bool:=match jI B id with
 |none=>(0,z5r,false)
 |some k=>(k,j0 (B.getD k []) id,true)
def sfindC:Con:=con1 StI (fun i=>[.nm 0 0,zC i.id]) (fun i=>[zE i.s]) (fun i=>i.s.Rep i.p i.B∧i.B.length≤1000) (fun i=> .tup [zC (zY i.B i.id).1,zRx (zY i.B i.id).2.1,yJ (zY i.B i.id).2.2]) (fun i=>[zE i.s])
open Go Cv Go.Proofs
@[reducible] def wW:AObj:=AObj.own (3:Nat) (1:Nat) [[D.v (.int .i64 1)],[D.v (.int .i64 2)]]
def zJf (s:MSt):Prop:=
 (0≤(↑s.books.length:Int)∧(↑s.books.length:Int)≤(↑s.books.length:Int)∧(↑s.books.length:Int)≤9223372036854775807∧(↑(40:Nat):Int)*(↑s.books.length:Int)≤2 ^ (48:Nat))∧∃(i0:Nat),(↑i0:Int)=0∧List.map zQ (qX s i0)=List.replicate (↑s.books.length:Int).toNat [D.v (.bool false),D.v (.bool false),D.v (.int .i64 0),D.v (.int .i64 0),D.v (.int .i64 0),D.v (.int .i64 0)]∧∃(I:Nat→Prop),∃(μ:Nat→Nat),I i0∧∀(i:Nat),I i→cnd (decide ((↑i:Int)<(↑s.books.length:Int))) ((0≤(↑i:Int)∧(↑i:Int)<(↑s.books.length:Int))∧(↑i:Int).toNat<s.books.length∧∃(i0:Nat×Top),List.map zQ (yK s i0.fst i0.snd)=List.map zQ (qX s i)∧∃(I_1:Nat×Top→Prop),(((0:Int)≤(0:Int)∧0<(↑(2:Nat):Int))∧∃(n:Int),zI [[D.v (.int .i64 1)],[D.v (.int .i64 2)]] (Int.toNat 0) 0 1=some [D.v (.int .i64 n)]∧∃(x:Book),s.books[(↑i:Int).toNat]?=some x∧∃(i_1:BkS),zB i_1.side=n∧yA i_1.b=yA x∧(∀(q:x3),q∈i_1.b.a.queues→(-9223372036854775808)≤q.count∧q.count≤9223372036854775807)∧∀(o:Unit),True→∃(x:Book),yA i_1.b=yA x∧(↑i:Int).toNat=(↑i:Int).toNat∧(↑i:Int).toNat<s.books.length∧cnd (i_1.b.best (i_1.b.side i_1.side)).snd ((0≤(↑i:Int)∧(↑i:Int)<(↑(List.map zQ (yK s i0.fst i0.snd)).length:Int))∧(0≤(↑i:Int)∧(↑i:Int)<(↑(List.map zQ (yK s i0.fst i0.snd)).length:Int))∧(0≤(↑i:Int)∧(↑i:Int)<(↑(List.map zQ (yK s i0.fst i0.snd)).length:Int))∧(↑i:Int).toNat<(List.map zQ (yK s i0.fst i0.snd)).length∧((0≤(↑i:Int)∧(↑i:Int)<(↑(zK (List.map zQ (yK s i0.fst i0.snd)) (↑i:Int).toNat ((0:Nat)+(0:Nat)+nat_lit 0*1) [D.v (.bool true)]).length:Int))∧(↑i:Int).toNat=(↑i:Int).toNat)∧((0≤(↑i:Int)∧(↑i:Int)<(↑(zK (List.map zQ (yK s i0.fst i0.snd)) (↑i:Int).toNat ((0:Nat)+(0:Nat)+nat_lit 0*1) [D.v (.bool true)]).length:Int))∧(↑i:Int).toNat=(↑i:Int).toNat)∧(i_1.b.best (i_1.b.side i_1.side)).fst.qty=(i_1.b.best (i_1.b.side i_1.side)).fst.qty∧(i_1.b.best (i_1.b.side i_1.side)).fst.price=(i_1.b.best (i_1.b.side i_1.side)).fst.price∧(↑i:Int).toNat<(zK (List.map zQ (yK s i0.fst i0.snd)) (↑i:Int).toNat ((0:Nat)+(0:Nat)+nat_lit 0*1) [D.v (.bool true)]).length∧((0≤(↑i:Int)∧(↑i:Int)<(↑(zK (zK (List.map zQ (yK s i0.fst i0.snd)) (↑i:Int).toNat ((0:Nat)+(0:Nat)+nat_lit 0*1) [D.v (.bool true)]) (↑i:Int).toNat ((0:Nat)+(2:Nat)+nat_lit 0*1) [D.v (.int .i64 (i_1.b.best (i_1.b.side i_1.side)).fst.price)]).length:Int))∧(↑i:Int).toNat=(↑i:Int).toNat)∧(i_1.b.best (i_1.b.side i_1.side)).fst.qty=(i_1.b.best (i_1.b.side i_1.side)).fst.qty∧(↑i:Int).toNat<(zK (zK (List.map zQ (yK s i0.fst i0.snd)) (↑i:Int).toNat ((0:Nat)+(0:Nat)+nat_lit 0*1) [D.v (.bool true)]) (↑i:Int).toNat ((0:Nat)+(2:Nat)+nat_lit 0*1) [D.v (.int .i64 (i_1.b.best (i_1.b.side i_1.side)).fst.price)]).length∧∃(i':Nat×Top),List.map zQ (yK s i'.fst i'.snd)=zK (zK (zK (List.map zQ (yK s i0.fst i0.snd)) (↑i:Int).toNat ((0:Nat)+(0:Nat)+nat_lit 0*1) [D.v (.bool true)]) (↑i:Int).toNat ((0:Nat)+(2:Nat)+nat_lit 0*1) [D.v (.int .i64 (i_1.b.best (i_1.b.side i_1.side)).fst.price)]) (↑i:Int).toNat ((0:Nat)+(4:Nat)+nat_lit 0*1) [D.v (.int .i64 (i_1.b.best (i_1.b.side i_1.side)).fst.qty)]∧I_1 i'∧wW=wW∧z8 s 0=z8 s 0∧AObj.objs 102 Book 6 zM (s.books.set (↑i:Int).toNat x) none=z8 s 1∧z8 s 2=z8 s 2∧z8 s 3=z8 s 3∧z8 s 4=z8 s 4) (∃(i':Nat×Top),List.map zQ (yK s i'.fst i'.snd)=List.map zQ (yK s i0.fst i0.snd)∧I_1 i'∧wW=wW∧z8 s 0=z8 s 0∧AObj.objs 102 Book 6 zM (s.books.set (↑i:Int).toNat x) none=z8 s 1∧z8 s 2=z8 s 2∧z8 s 3=z8 s 3∧z8 s 4=z8 s 4))∧∀(i_1:Nat×Top),I_1 i_1→∃(i0:Nat×Top),List.map zQ (yK s i0.fst i0.snd)=List.map zQ (yK s i_1.fst i_1.snd)∧∃(I_2:Nat×Top→Prop),((0≤IntKind.i64.wrap ((0:Int)+(1:Int))∧IntKind.i64.wrap ((0:Int)+(1:Int))<(↑(2:Nat):Int))∧∃(n:Int),zI [[D.v (.int .i64 1)],[D.v (.int .i64 2)]] (IntKind.i64.wrap ((0:Int)+(1:Int))).toNat 0 1=some [D.v (.int .i64 n)]∧∃(x:Book),s.books[(↑i:Int).toNat]?=some x∧∃(i_2:BkS),zB i_2.side=n∧yA i_2.b=yA x∧(∀(q:x3),q∈i_2.b.a.queues→(-9223372036854775808)≤q.count∧q.count≤9223372036854775807)∧∀(o:Unit),True→∃(x:Book),yA i_2.b=yA x∧(↑i:Int).toNat=(↑i:Int).toNat∧(↑i:Int).toNat<s.books.length∧cnd (i_2.b.best (i_2.b.side i_2.side)).snd ((0≤(↑i:Int)∧(↑i:Int)<(↑(List.map zQ (yK s i0.fst i0.snd)).length:Int))∧(0≤(↑i:Int)∧(↑i:Int)<(↑(List.map zQ (yK s i0.fst i0.snd)).length:Int))∧(0≤(↑i:Int)∧(↑i:Int)<(↑(List.map zQ (yK s i0.fst i0.snd)).length:Int))∧(↑i:Int).toNat<(List.map zQ (yK s i0.fst i0.snd)).length∧((0≤(↑i:Int)∧(↑i:Int)<(↑(zK (List.map zQ (yK s i0.fst i0.snd)) (↑i:Int).toNat ((0:Nat)+(0:Nat)+(nat_lit 0+nat_lit 1) % ((2:Int) ^ IntKind.i64.bits).natAbs*1) [D.v (.bool true)]).length:Int))∧(↑i:Int).toNat=(↑i:Int).toNat)∧((0≤(↑i:Int)∧(↑i:Int)<(↑(zK (List.map zQ (yK s i0.fst i0.snd)) (↑i:Int).toNat ((0:Nat)+(0:Nat)+(nat_lit 0+nat_lit 1) % ((2:Int) ^ IntKind.i64.bits).natAbs*1) [D.v (.bool true)]).length:Int))∧(↑i:Int).toNat=(↑i:Int).toNat)∧(i_2.b.best (i_2.b.side i_2.side)).fst.qty=(i_2.b.best (i_2.b.side i_2.side)).fst.qty∧(i_2.b.best (i_2.b.side i_2.side)).fst.price=(i_2.b.best (i_2.b.side i_2.side)).fst.price∧(↑i:Int).toNat<(zK (List.map zQ (yK s i0.fst i0.snd)) (↑i:Int).toNat ((0:Nat)+(0:Nat)+(nat_lit 0+nat_lit 1) % ((2:Int) ^ IntKind.i64.bits).natAbs*1) [D.v (.bool true)]).length∧((0≤(↑i:Int)∧(↑i:Int)<(↑(zK (zK (List.map zQ (yK s i0.fst i0.snd)) (↑i:Int).toNat ((0:Nat)+(0:Nat)+(nat_lit 0+nat_lit 1) % ((2:Int) ^ IntKind.i64.bits).natAbs*1) [D.v (.bool true)]) (↑i:Int).toNat ((0:Nat)+(2:Nat)+(nat_lit 0+nat_lit 1) % ((2:Int) ^ IntKind.i64.bits).natAbs*1) [D.v (.int .i64 (i_2.b.best (i_2.b.side i_2.side)).fst.price)]).length:Int))∧(↑i:Int).toNat=(↑i:Int).toNat)∧(i_2.b.best (i_2.b.side i_2.side)).fst.qty=(i_2.b.best (i_2.b.side i_2.side)).fst.qty∧(↑i:Int).toNat<(zK (zK (List.map zQ (yK s i0.fst i0.snd)) (↑i:Int).toNat ((0:Nat)+(0:Nat)+(nat_lit 0+nat_lit 1) % ((2:Int) ^ IntKind.i64.bits).natAbs*1) [D.v (.bool true)]) (↑i:Int).toNat ((0:Nat)+(2:Nat)+(nat_lit 0+nat_lit 1) % ((2:Int) ^ IntKind.i64.bits).natAbs*1) [D.v (.int .i64 (i_2.b.best (i_2.b.side i_2.side)).fst.price)]).length∧∃(i':Nat×Top),List.map zQ (yK s i'.fst i'.snd)=zK (zK (zK (List.map zQ (yK s i0.fst i0.snd)) (↑i:Int).toNat ((0:Nat)+(0:Nat)+(nat_lit 0+nat_lit 1) % ((2:Int) ^ IntKind.i64.bits).natAbs*1) [D.v (.bool true)]) (↑i:Int).toNat ((0:Nat)+(2:Nat)+(nat_lit 0+nat_lit 1) % ((2:Int) ^ IntKind.i64.bits).natAbs*1) [D.v (.int .i64 (i_2.b.best (i_2.b.side i_2.side)).fst.price)]) (↑i:Int).toNat ((0:Nat)+(4:Nat)+(nat_lit 0+nat_lit 1) % ((2:Int) ^ IntKind.i64.bits).natAbs*1) [D.v (.int .i64 (i_2.b.best (i_2.b.side i_2.side)).fst.qty)]∧I_2 i'∧wW=wW∧z8 s 0=z8 s 0∧AObj.objs 102 Book 6 zM (s.books.set (↑i:Int).toNat x) none=z8 s 1∧z8 s 2=z8 s 2∧z8 s 3=z8 s 3∧z8 s 4=z8 s 4) (∃(i':Nat×Top),List.map zQ (yK s i'.fst i'.snd)=List.map zQ (yK s i0.fst i0.snd)∧I_2 i'∧wW=wW∧z8 s 0=z8 s 0∧AObj.objs 102 Book 6 zM (s.books.set (↑i:Int).toNat x) none=z8 s 1∧z8 s 2=z8 s 2∧z8 s 3=z8 s 3∧z8 s 4=z8 s 4))∧∀(i_2:Nat×Top),I_2 i_2→∃(i':Nat),(↑i':Int)=IntKind.i64.wrap ((↑i:Int)+1)∧List.map zQ (qX s i')=List.map zQ (yK s i_2.fst i_2.snd)∧I i'∧μ i'<μ i∧z8 s 0=z8 s 0∧z8 s 1=z8 s 1∧z8 s 2=z8 s 2∧z8 s 3=z8 s 3∧z8 s 4=z8 s 4) (∃(o:Unit),sb s.p.code=sb s.p.code∧s.p.tick=s.p.tick∧s.p.low=s.p.low∧s.p.high=s.p.high∧s.p.wide=s.p.wide∧s.p.rule=s.p.rule∧s.p.top=s.p.top∧s.p.least=s.p.least∧s.p.part=s.p.part∧AObj.objs 102 Book 6 zM s.books none=z8 s 1∧yB s.wh=yB s.wh∧AObj.fro 1 (iE s.p.months)=z8 s 3∧AObj.fro 1 (iE s.p.settle)=z8 s 4∧List.map zQ s.tops=List.map zQ (qX s i)∧True)
theorem zZc (hG:GOk Tryz.prog ([(49,bestC)])) (h:∀(s:MSt),topsOC.cnd s→zJf s):topsOC.ok Tryz.prog 23:=okw mixed hG 0 (fun s=>yCh s) (fun s=>yCl s) [] Tryz.func23 h
def zJw (i:StI):Prop:=
 (∀(p:Value×List D),p∈yB i.s.wh→like (Value.int IntKind.i64 i.id) p.fst=true)∧∃(b:Bool),∃(n:Int),(x0 (Value.int IntKind.i64 i.id) (yB i.s.wh)=some [D.v (.int .i64 n)]∧b=true∨x0 (Value.int IntKind.i64 i.id) (yB i.s.wh)=none∧[D.v (.int .i64 n)]=[D.v (.int .i64 0)]∧b=false)∧cnd (!b) (∃(o:MSt),(yN i.B i.id i.q).snd=26∧sb o.p.code=sb i.s.p.code∧o.p.tick=i.s.p.tick∧o.p.low=i.s.p.low∧o.p.high=i.s.p.high∧o.p.wide=i.s.p.wide∧o.p.rule=i.s.p.rule∧o.p.top=i.s.p.top∧o.p.least=i.s.p.least∧o.p.part=i.s.p.part∧AObj.objs 102 Book 6 zM o.books none=AObj.objs 102 Book 6 zM i.s.books none∧yB o.wh=yB i.s.wh∧AObj.fro 1 (iE o.p.months)=AObj.fro 1 (iE i.s.p.months)∧AObj.fro 1 (iE o.p.settle)=AObj.fro 1 (iE i.s.p.settle)∧o.Rep i.p (yN i.B i.id i.q).fst) ((0≤n∧n<(↑i.s.books.length:Int))∧n.toNat<i.s.books.length∧∃(x:Book),i.s.books[n.toNat]?=some x∧∃(i_1:FlI),i_1.id=i.id∧i_1.qty=i.q∧yA i_1.b=yA x∧i_1.b.Rep i_1.L∧∀(o:Book),o.Rep (yW i_1.L i_1.id i_1.qty).fst→∃(x:Book),yA o=yA x∧n.toNat=n.toNat∧n.toNat<i.s.books.length∧(0≤n∧n<(↑(i.s.books.set n.toNat x).length:Int))∧n.toNat<(i.s.books.set n.toNat x).length∧∃(x_1:Book),(i.s.books.set n.toNat x)[n.toNat]?=some x_1∧∃(i_2:FlI),i_2.id=i.id∧yA i_2.b=yA x_1∧i_2.b.Rep i_2.L∧∀(o:Unit),True→∃(x_2:Book),yA i_2.b=yA x_2∧n.toNat=n.toNat∧n.toNat<(i.s.books.set n.toNat x).length∧cnd (!yY i_2.L i_2.id) ((∀(p:Value×List D),p∈yB i.s.wh→like (Value.int IntKind.i64 i.id) p.fst=true)∧∃(o:MSt),(yN i.B i.id i.q).snd=(yW i_1.L i_1.id i_1.qty).snd∧sb o.p.code=sb i.s.p.code∧o.p.tick=i.s.p.tick∧o.p.low=i.s.p.low∧o.p.high=i.s.p.high∧o.p.wide=i.s.p.wide∧o.p.rule=i.s.p.rule∧o.p.top=i.s.p.top∧o.p.least=i.s.p.least∧o.p.part=i.s.p.part∧AObj.objs 102 Book 6 zM o.books none=AObj.objs 102 Book 6 zM ((i.s.books.set n.toNat x).set n.toNat x_2) none∧yB o.wh=g9 (Value.int IntKind.i64 i.id) (yB i.s.wh)∧AObj.fro 1 (iE o.p.months)=AObj.fro 1 (iE i.s.p.months)∧AObj.fro 1 (iE o.p.settle)=AObj.fro 1 (iE i.s.p.settle)∧o.Rep i.p (yN i.B i.id i.q).fst) (∃(o:MSt),(yN i.B i.id i.q).snd=(yW i_1.L i_1.id i_1.qty).snd∧sb o.p.code=sb i.s.p.code∧o.p.tick=i.s.p.tick∧o.p.low=i.s.p.low∧o.p.high=i.s.p.high∧o.p.wide=i.s.p.wide∧o.p.rule=i.s.p.rule∧o.p.top=i.s.p.top∧o.p.least=i.s.p.least∧o.p.part=i.s.p.part∧AObj.objs 102 Book 6 zM o.books none=AObj.objs 102 Book 6 zM ((i.s.books.set n.toNat x).set n.toNat x_2) none∧yB o.wh=yB i.s.wh∧AObj.fro 1 (iE o.p.months)=AObj.fro 1 (iE i.s.p.months)∧AObj.fro 1 (iE o.p.settle)=AObj.fro 1 (iE i.s.p.settle)∧o.Rep i.p (yN i.B i.id i.q).fst))
theorem z2q (hG:GOk Tryz.prog ([(100,fillC),(75,bfindC)])) (h:∀(i:StI),stakeC.cnd i→zJw i):stakeC.ok Tryz.prog 76:=okw mixed hG 0 (fun _=>[]) (fun _=>[]) [0] Tryz.func76 h
open Go Cv Go.Proofs
theorem z9j (s:MSt) (h:topsOC.cnd s):zJf s:=by
 obtain⟨h1,h2⟩:s.cntOk:=h
 unfold zJf
 have p48:(2:Int) ^ (48:Nat)=281474976710656:=by decide
 refine⟨⟨by omega,by omega,by omega,by rw[p48];omega⟩,0,rfl,?_,fun j=>j≤s.books.length,fun j=>s.books.length-j,by omega,fun j hj=>zU (fun hlt=> ?_) (fun hlt=> ?_)⟩
 ·rw[qX,List.map_append,List.map_replicate];rfl
 ·have hj':j<s.books.length:=by omega
  obtain⟨b,hb⟩:=yD hj'
  have hc:=h2 b (List.mem_of_getElem? hb)
  simp only[Int.toNat_natCast]
  have ha:∀x,(List.map zQ (yK s j x)).length=s.books.length:=fun x=>by rw[List.length_map,zLa hj']
  have w1:IntKind.i64.wrap (0+1)=1:=by decide
  have w2:(0+1) % ((2:Int) ^ IntKind.i64.bits).natAbs=1:=by decide
  refine⟨⟨by omega,by omega⟩,by omega,(j,top0),by rw[zFq hj'],fun x=>x=(j,top0.buy (b.best b.buys)),⟨⟨by decide,by decide⟩,1,rfl,b,hb,⟨false,b⟩,rfl,rfl,hc,fun _ _=>⟨b,rfl,kp,by omega,?_⟩⟩,?_⟩
  ·refine Cv.cnd.mk (fun c=> ?_) (fun c=> ?_)
   ·have c:(b.best b.buys).2=true:=c
    have e1:=wL (s:=s) hj' (x:=top0) (y:={top0 with has1:=true}) (f:=0+0+0*1) (ds:=[D.v (.bool true)]) rfl
    have e2:=wL (s:=s) hj' (x:={top0 with has1:=true}) (y:={top0 with has1:=true,p1:=(b.best b.buys).1.price}) (f:=0+2+0*1) (ds:=[D.v (.int .i64 (b.best b.buys).1.price)]) rfl
    have e3:=wL (s:=s) hj' (x:={top0 with has1:=true,p1:=(b.best b.buys).1.price}) (y:={top0 with has1:=true,p1:=(b.best b.buys).1.price,q1:=(b.best b.buys).1.qty}) (f:=0+4+0*1) (ds:=[D.v (.int .i64 (b.best b.buys).1.qty)]) rfl
    dsimp only
    simp only[show b.side false=b.buys from rfl,e1,e2,e3,ha]
    (repeat'(first|exact rfl|exact trivial|assumption|apply And.intro|refine fun(_:Unit) (_:True)=>?_|refine Exists.intro () ?_|omega|(dsimp only;omega)))
    refine⟨(j,{top0 with has1:=true,p1:=(b.best b.buys).1.price,q1:=(b.best b.buys).1.qty}),rfl,?_,?_⟩
    ·rw[Top.buy,if_pos c]
    ·(repeat'(first|exact rfl|exact trivial|assumption|apply And.intro|refine fun(_:Unit) (_:True)=>?_|refine Exists.intro () ?_|omega|(dsimp only;omega)))
     rw[fH hb];rfl
   ·have c:(b.best b.buys).2=false:=c
    refine⟨(j,top0),rfl,?_,?_⟩
    ·rw[Top.buy,if_neg (by rw[c];simp)]
    ·(repeat'(first|exact rfl|exact trivial|assumption|apply And.intro|refine fun(_:Unit) (_:True)=>?_|refine Exists.intro () ?_|omega|(dsimp only;omega)))
     rw[fH hb];rfl
  ·rintro _ rfl
   rw[w1]
   generalize hx:top0.buy (b.best b.buys)=x
   have hx2:b.top=x.sell (b.best b.sells):=by rw[Book.top,hx]
   refine⟨(j,x),rfl,fun y=>y=(j,b.top),⟨⟨by decide,by decide⟩,2,rfl,b,hb,⟨true,b⟩,rfl,rfl,hc,fun _ _=>⟨b,rfl,kp,by omega,?_⟩⟩,?_⟩
   ·refine Cv.cnd.mk (fun c=> ?_) (fun c=> ?_)
    ·have c:(b.best b.sells).2=true:=c
     have e1:=wL (s:=s) hj' (x:=x) (y:={x with has2:=true}) (f:=0+0+1*1) (ds:=[D.v (.bool true)]) rfl
     have e2:=wL (s:=s) hj' (x:={x with has2:=true}) (y:={x with has2:=true,p2:=(b.best b.sells).1.price}) (f:=0+2+1*1) (ds:=[D.v (.int .i64 (b.best b.sells).1.price)]) rfl
     have e3:=wL (s:=s) hj' (x:={x with has2:=true,p2:=(b.best b.sells).1.price}) (y:={x with has2:=true,p2:=(b.best b.sells).1.price,q2:=(b.best b.sells).1.qty}) (f:=0+4+1*1) (ds:=[D.v (.int .i64 (b.best b.sells).1.qty)]) rfl
     dsimp only
     simp only[w2,show b.side true=b.sells from rfl,e1,e2,e3,ha]
     (repeat'(first|exact rfl|exact trivial|assumption|apply And.intro|refine fun(_:Unit) (_:True)=>?_|refine Exists.intro () ?_|omega|(dsimp only;omega)))
     refine⟨(j,{x with has2:=true,p2:=(b.best b.sells).1.price,q2:=(b.best b.sells).1.qty}),rfl,?_,?_⟩
     ·rw[hx2,Top.sell,if_pos c]
     ·(repeat'(first|exact rfl|exact trivial|assumption|apply And.intro|refine fun(_:Unit) (_:True)=>?_|refine Exists.intro () ?_|omega|(dsimp only;omega)))
      rw[fH hb];rfl
    ·have c:(b.best b.sells).2=false:=c
     refine⟨(j,x),rfl,?_,?_⟩
     ·rw[hx2,Top.sell,if_neg (by rw[c];simp)]
     ·(repeat'(first|exact rfl|exact trivial|assumption|apply And.intro|refine fun(_:Unit) (_:True)=>?_|refine Exists.intro () ?_|omega|(dsimp only;omega)))
      rw[fH hb];rfl
   ·rintro _ rfl
    refine⟨j+1,by rw[w64 (by omega)];rfl,?_⟩
    refine⟨by dsimp only;rw[zEz hb],?_⟩
    exact kp
 ·have hj:j≤s.books.length:=hj
  obtain rfl:j=s.books.length:=by omega
  have e:qX s s.books.length=s.tops:=by
   rw[qX,Nat.sub_self,List.replicate_zero,List.append_nil,List.take_of_length_le (by rw[MSt.tops,List.length_map];omega)]
  rw[e]
  exact kp
theorem zHi:topsOC.ok Tryz.prog 23:=zZc (gokc zEe gok0) z9j
theorem z6k (i:StI) (h:stakeC.cnd i):zJw i:=by
 obtain⟨hR,hB⟩:i.s.Rep i.p i.B∧i.B.length≤1000:=h
 have hat:=hR.at_ i.id
 unfold zJw
 cases hi:jI i.B i.id with
 |none=>
  rw[hi]at hat
  refine⟨wK _ _,false,0,.inr ⟨by rw[u9,hat];rfl,rfl,rfl⟩,Cv.cnd.mk (fun _=>⟨i.s,?_⟩) (fun e=>absurd e (by decide))⟩
  have ht:yN i.B i.id i.q=(i.B,26):=by rw[yN,hi]
  rw[ht]
  exact⟨rfl,rfl,rfl,rfl,rfl,rfl,rfl,rfl,rfl,rfl,rfl,rfl,rfl,rfl,hR⟩
 |some k=>
  rw[hi]at hat
  obtain⟨L,hL,hh⟩:=qS hi
  have hk:=(List.getElem?_eq_some_iff.1 hL).1
  obtain⟨b,hb⟩:=yD (l:=i.s.books) (i:=k) (by rw[hR.bl];exact hk)
  have hbR:=hR.bk k b L hb hL
  have hbl:=hR.bl
  have hnd:=hbR.ords.2.1
  refine⟨wK _ _,true,k,.inl ⟨by rw[u9,hat];rfl,rfl⟩,Cv.cnd.mk (fun e=>absurd e (by decide)) (fun _=> ?_)⟩
  rw[Int.toNat_natCast]
  refine⟨⟨by omega,by omega⟩,by omega,b,hb,⟨b,L,i.id,i.q⟩,rfl,rfl,rfl,hbR,fun b' hb'=> ?_⟩
  have hT:=hR.take (q:=i.q) hi hL hnd hb'
  have hk2:(yN i.B i.id i.q).2=(yW L i.id i.q).2:=by simp only[yN,hi,zX hL]
  refine⟨b',rfl,rfl,by omega,by rw[List.length_set];omega,by rw[List.length_set];omega,b',jR (by omega),⟨b',(yW L i.id i.q).1,i.id,0⟩,rfl,rfl,hb',fun _ _=>⟨b',rfl,rfl,by rw[List.length_set];omega,Cv.cnd.mk (fun e=>⟨wK _ _,?_⟩) (fun e=> ?_)⟩⟩
  ·have e:yY (yW L i.id i.q).1 i.id=false:=by simpa using e
   rw[e,if_neg (by decide)]at hT
   refine⟨{i.s with books:=i.s.books.set k b',wh:=zGv i.id i.s.wh},hk2,rfl,rfl,rfl,rfl,rfl,rfl,rfl,rfl,rfl,?_,(zId _ _).symm,rfl,rfl,hT⟩
   rw[List.set_set]
  ·have e:yY (yW L i.id i.q).1 i.id=true:=by simpa using e
   rw[e,if_pos rfl]at hT
   refine⟨{i.s with books:=i.s.books.set k b',wh:=i.s.wh},hk2,rfl,rfl,rfl,rfl,rfl,rfl,rfl,rfl,rfl,?_,rfl,rfl,rfl,hT⟩
   rw[List.set_set]
theorem aG:stakeC.ok Tryz.prog 76:=z2q (gokc z2b (gokc zHv gok0)) z6k
open Go Cv Go.Proofs
structure BOk (p:Prd) (B:List (List zJ)):Prop where
 pc:p.check=0
 ps:p.small
 bl:B.length=p.count
 pr:∀(k:Nat) (L:List zJ),B[k]? =some L→∀o∈L,p.price k o.price=0
def motherC:Con:=con1 Bool (fun b=>[zC (zB b)]) (fun _=>[]) (fun _=>True) (fun b=>zC (zB (!b))) (fun _=>[])
def wY (s:Bool) (p x:Int):Bool:=if s then decide (p≤x)else decide (x≤p)
structure GoI where
 s:Bool
 p:Int
 x:Int
def mgoodC:Con:=con1 GoI (fun i=>[zC (zB i.s),zC i.p,zC i.x]) (fun _=>[]) (fun _=>True) (fun i=>yJ (wY i.s i.p i.x)) (fun _=>[])
def zN (p:Prd) (B:List (List zJ)) (inst:Int) (s:Int):Quote×Bool×Bool:=
 let bq:=zV (xS ⟨p,B.map y9,inst⟩ s) s
 let l:=bestL (B.getD inst.toNat []) s
 if(l.2 && !(bq.2 && btr s bq.1.price l.1.price))=true then(⟨l.1.price,l.1.qty,⟨0,0⟩,⟨0,0⟩⟩,false,true)else(bq.1,bq.2,bq.2)
structure NxI where
 s:MSt
 p:Prd
 B:List (List zJ)
 inst:Int
 sd:Bool
def nextC:Con:=con1 NxI (fun i=>[.nm 0 0,zC i.inst,zC (zB i.sd)]) (fun i=>[zE i.s]) (fun i=>i.s.Rep i.p i.B∧BOk i.p i.B∧0≤i.inst∧i.inst<i.B.length)
 (fun i=> .tup [zKr (zN i.p i.B i.inst (zB i.sd)).1,yJ (zN i.p i.B i.inst (zB i.sd)).2.1,yJ (zN i.p i.B i.inst (zB i.sd)).2.2]) (fun i=>[zE i.s])
structure wB where
 id:Int
 inst:Int
 side:Int
 price:Int
 qty:Int
 left:Int
 deriving DecidableEq
def yF (f:wB):List D:=[.v (.int .i64 f.id),.v (.int .i64 f.inst),.v (.int .i64 f.side),.v (.int .i64 f.price),.v (.int .i64 f.qty),.v (.int .i64 f.left)]
def yL (inst s:Int):List zJ→List Int→List wB
 |o::os,k::ks=>if 0<k then⟨o.id,inst,s,o.price,k,o.qty-k⟩::yL inst s os ks else yL inst s os ks
 |_,_=>[]
def y8 (B:List (List zJ)) (fs:List wB):List (List zJ):=fs.foldl (fun B f=>(yN B f.id f.qty).1) B
def mV (B:List (List zJ)) (inst s:Int):List zJ:=atL (B.getD inst.toNat []) s (bestL (B.getD inst.toNat []) s).1.price
def yO (p:Prd) (B:List (List zJ)) (inst s q:Int):List wB:=yL inst s (mV B inst s) (xG ⟨p,mV B inst s,q⟩)
structure TrI where
 s:MSt
 p:Prd
 B:List (List zJ)
 inst:Int
 sd:Bool
 q:Int
def TrI.os (i:TrI):List zJ:=mV i.B i.inst (zB i.sd)
def TrI.sh (i:TrI):List Int:=xG ⟨i.p,i.os,i.q⟩
def TrI.fs (i:TrI) (j:Nat):List wB:=yL i.inst (zB i.sd) (i.os.take j) (i.sh.take j)
def tradeC:Con where
 ι:=TrI
 pat:=fun i=>[.nm 0 0,.agg [zC i.inst,zC (zB i.sd)],zC i.q]
 pre:=fun i=>[zE i.s]
 cnd:=fun i=>i.s.Rep i.p i.B∧BOk i.p i.B∧0≤i.inst∧i.inst<i.B.length∧yI i.q
 alts:=fun i=>[{o:=MSt,res:=fun _=> .own 1,post:=fun s=>[zE s,.own 181 6 ((yO i.p i.B i.inst (zB i.sd) i.q).map yF)],rel:=fun s=>s.Rep i.p (y8 i.B (yO i.p i.B i.inst (zB i.sd) i.q))}]
def z9r (i:TrI):List SAnn:=[{ι:=Nat×MSt,slots:=fun j=>[(0,.nm 0 0),(11,.own 1),(44,zC j.1)],rows:=fun j=>[zE j.2,.own 181 6 ((i.fs j.1).map yF)]}]
open Go Cv Go.Proofs
def zOp (b:Bool):Prop:=
 ∃(o:Unit),(zB !b)=IntKind.i64.wrap (3-zB b)∧True
theorem zUs (hG:GOk Tryz.prog ([])) (h:∀(b:Bool),motherC.cnd b→zOp b):motherC.ok Tryz.prog 91:=okw mixed hG 0 (fun _=>[]) (fun _=>[]) [] Tryz.func91 h
def zWm (i:GoI):Prop:=
 cnd (zB i.s==1) (cnd (decide (i.x≤i.p)) (∃(o:Unit),wY i.s i.p i.x=true∧True) (cnd (zB i.s==2) (∃(o:Unit),wY i.s i.p i.x=decide (i.x≥i.p)∧True) (∃(o:Unit),wY i.s i.p i.x=false∧True))) (cnd (zB i.s==2) (∃(o:Unit),wY i.s i.p i.x=decide (i.x≥i.p)∧True) (∃(o:Unit),wY i.s i.p i.x=false∧True))
theorem z2l (hG:GOk Tryz.prog ([])) (h:∀(i:GoI),mgoodC.cnd i→zWm i):mgoodC.ok Tryz.prog 92:=okw mixed hG 0 (fun _=>[]) (fun _=>[]) [] Tryz.func92 h
@[reducible] def zBs (i:NxI) (i_1:MSt) (o:Unit):Prop:=∃(i_2:aM),sb i_2.i.p.code=sb i.s.p.code∧iE i_2.i.p.months=iE i_1.p.months∧i_2.i.p.tick=i.s.p.tick∧i_2.i.p.low=i.s.p.low∧i_2.i.p.high=i.s.p.high∧i_2.i.p.wide=i.s.p.wide∧i_2.i.p.rule=i.s.p.rule∧i_2.i.p.top=i.s.p.top∧i_2.i.p.least=i.s.p.least∧i_2.i.p.part=i.s.p.part∧iE i_2.i.p.settle=iE i_1.p.settle∧List.map zQ i_2.i.tops=List.map zQ i_1.tops∧i_2.i.inst=i.inst∧zB i_2.s=zB i.sd∧((i_2.i.p.code.length≤1099511627776∧i_2.i.p.months.length≤1099511627776∧i_2.i.p.settle.length≤1099511627776)∧i_2.i.tops.length≤1000000∧∀(t:Top),t∈i_2.i.tops→((-9223372036854775808)≤t.p1∧t.p1≤9223372036854775807)∧(-9223372036854775808)≤t.p2∧t.p2≤9223372036854775807)∧∀(o:Unit),True→∃(i_3:BsI),List.map zG i_3.l=List.map zG (xS i_2.i (zB i_2.s))∧i_3.s=zB i.sd∧((i_3.s=1∨i_3.s=2)∧i_3.l.length≤1000000)∧∀(o:Unit),True→(0≤i.inst∧i.inst<(↑i_1.books.length:Int))∧i.inst.toNat<i_1.books.length∧∃(x:Book),i_1.books[i.inst.toNat]?=some x∧∃(i_4:BkS),zB i_4.side=zB i.sd∧yA i_4.b=yA x∧(∀(q:x3),q∈i_4.b.a.queues→(-9223372036854775808)≤q.count∧q.count≤9223372036854775807)∧∀(o:Unit),True→∃(x:Book),yA i_4.b=yA x∧i.inst.toNat=i.inst.toNat∧i.inst.toNat<i_1.books.length∧cnd (i_4.b.best (i_4.b.side i_4.side)).snd (cnd (zV i_3.l i_3.s).snd (∃(i_5:I3'),i_5.side=zB i.sd∧i_5.x=(zV i_3.l i_3.s).fst.price∧i_5.y=(i_4.b.best (i_4.b.side i_4.side)).fst.price∧True∧∀(o:Unit),True→cnd (!btr i_5.side i_5.x i_5.y) (∃(o:Unit),(zN i.p i.B i.inst (zB i.sd)).fst.price=(i_4.b.best (i_4.b.side i_4.side)).fst.price∧(zN i.p i.B i.inst (zB i.sd)).fst.qty=(i_4.b.best (i_4.b.side i_4.side)).fst.qty∧(zN i.p i.B i.inst (zB i.sd)).fst.a.inst=0∧(zN i.p i.B i.inst (zB i.sd)).fst.a.side=0∧(zN i.p i.B i.inst (zB i.sd)).fst.b.inst=0∧(zN i.p i.B i.inst (zB i.sd)).fst.b.side=0∧(zN i.p i.B i.inst (zB i.sd)).snd.fst=false∧(zN i.p i.B i.inst (zB i.sd)).snd.snd=true∧sb i.s.p.code=sb i_1.p.code∧i.s.p.tick=i_1.p.tick∧i.s.p.low=i_1.p.low∧i.s.p.high=i_1.p.high∧i.s.p.wide=i_1.p.wide∧i.s.p.rule=i_1.p.rule∧i.s.p.top=i_1.p.top∧i.s.p.least=i_1.p.least∧i.s.p.part=i_1.p.part∧AObj.objs 102 Book 6 zM i.s.books none=AObj.objs 102 Book 6 zM (i_1.books.set i.inst.toNat x) none∧yB i.s.wh=yB i_1.wh∧AObj.fro 1 (iE i.s.p.months)=AObj.fro 1 (iE i_1.p.months)∧AObj.fro 1 (iE i.s.p.settle)=AObj.fro 1 (iE i_1.p.settle)∧True) (∃(o:Unit),(zN i.p i.B i.inst (zB i.sd)).fst.price=(zV i_3.l i_3.s).fst.price∧(zN i.p i.B i.inst (zB i.sd)).fst.qty=(zV i_3.l i_3.s).fst.qty∧(zN i.p i.B i.inst (zB i.sd)).fst.a.inst=(zV i_3.l i_3.s).fst.a.inst∧(zN i.p i.B i.inst (zB i.sd)).fst.a.side=(zV i_3.l i_3.s).fst.a.side∧(zN i.p i.B i.inst (zB i.sd)).fst.b.inst=(zV i_3.l i_3.s).fst.b.inst∧(zN i.p i.B i.inst (zB i.sd)).fst.b.side=(zV i_3.l i_3.s).fst.b.side∧(zN i.p i.B i.inst (zB i.sd)).snd.fst=(zV i_3.l i_3.s).snd∧(zN i.p i.B i.inst (zB i.sd)).snd.snd=(zV i_3.l i_3.s).snd∧sb i.s.p.code=sb i_1.p.code∧i.s.p.tick=i_1.p.tick∧i.s.p.low=i_1.p.low∧i.s.p.high=i_1.p.high∧i.s.p.wide=i_1.p.wide∧i.s.p.rule=i_1.p.rule∧i.s.p.top=i_1.p.top∧i.s.p.least=i_1.p.least∧i.s.p.part=i_1.p.part∧AObj.objs 102 Book 6 zM i.s.books none=AObj.objs 102 Book 6 zM (i_1.books.set i.inst.toNat x) none∧yB i.s.wh=yB i_1.wh∧AObj.fro 1 (iE i.s.p.months)=AObj.fro 1 (iE i_1.p.months)∧AObj.fro 1 (iE i.s.p.settle)=AObj.fro 1 (iE i_1.p.settle)∧True)) (∃(o:Unit),(zN i.p i.B i.inst (zB i.sd)).fst.price=(i_4.b.best (i_4.b.side i_4.side)).fst.price∧(zN i.p i.B i.inst (zB i.sd)).fst.qty=(i_4.b.best (i_4.b.side i_4.side)).fst.qty∧(zN i.p i.B i.inst (zB i.sd)).fst.a.inst=0∧(zN i.p i.B i.inst (zB i.sd)).fst.a.side=0∧(zN i.p i.B i.inst (zB i.sd)).fst.b.inst=0∧(zN i.p i.B i.inst (zB i.sd)).fst.b.side=0∧(zN i.p i.B i.inst (zB i.sd)).snd.fst=false∧(zN i.p i.B i.inst (zB i.sd)).snd.snd=true∧sb i.s.p.code=sb i_1.p.code∧i.s.p.tick=i_1.p.tick∧i.s.p.low=i_1.p.low∧i.s.p.high=i_1.p.high∧i.s.p.wide=i_1.p.wide∧i.s.p.rule=i_1.p.rule∧i.s.p.top=i_1.p.top∧i.s.p.least=i_1.p.least∧i.s.p.part=i_1.p.part∧AObj.objs 102 Book 6 zM i.s.books none=AObj.objs 102 Book 6 zM (i_1.books.set i.inst.toNat x) none∧yB i.s.wh=yB i_1.wh∧AObj.fro 1 (iE i.s.p.months)=AObj.fro 1 (iE i_1.p.months)∧AObj.fro 1 (iE i.s.p.settle)=AObj.fro 1 (iE i_1.p.settle)∧True)) (∃(o:Unit),(zN i.p i.B i.inst (zB i.sd)).fst.price=(zV i_3.l i_3.s).fst.price∧(zN i.p i.B i.inst (zB i.sd)).fst.qty=(zV i_3.l i_3.s).fst.qty∧(zN i.p i.B i.inst (zB i.sd)).fst.a.inst=(zV i_3.l i_3.s).fst.a.inst∧(zN i.p i.B i.inst (zB i.sd)).fst.a.side=(zV i_3.l i_3.s).fst.a.side∧(zN i.p i.B i.inst (zB i.sd)).fst.b.inst=(zV i_3.l i_3.s).fst.b.inst∧(zN i.p i.B i.inst (zB i.sd)).fst.b.side=(zV i_3.l i_3.s).fst.b.side∧(zN i.p i.B i.inst (zB i.sd)).snd.fst=(zV i_3.l i_3.s).snd∧(zN i.p i.B i.inst (zB i.sd)).snd.snd=(zV i_3.l i_3.s).snd∧sb i.s.p.code=sb i_1.p.code∧i.s.p.tick=i_1.p.tick∧i.s.p.low=i_1.p.low∧i.s.p.high=i_1.p.high∧i.s.p.wide=i_1.p.wide∧i.s.p.rule=i_1.p.rule∧i.s.p.top=i_1.p.top∧i.s.p.least=i_1.p.least∧i.s.p.part=i_1.p.part∧AObj.objs 102 Book 6 zM i.s.books none=AObj.objs 102 Book 6 zM (i_1.books.set i.inst.toNat x) none∧yB i.s.wh=yB i_1.wh∧AObj.fro 1 (iE i.s.p.months)=AObj.fro 1 (iE i_1.p.months)∧AObj.fro 1 (iE i.s.p.settle)=AObj.fro 1 (iE i_1.p.settle)∧True)
@[reducible] def zDn (i:NxI) (i_1:MSt) (o:Unit) (i_2:aM):Prop:=∃(i_3:BsI),List.map zG i_3.l=List.map zG (xS i_2.i (zB i_2.s))∧i_3.s=zB i.sd∧((i_3.s=1∨i_3.s=2)∧i_3.l.length≤1000000)∧∀(o:Unit),True→(0≤i.inst∧i.inst<(↑i_1.books.length:Int))∧i.inst.toNat<i_1.books.length∧∃(x:Book),i_1.books[i.inst.toNat]?=some x∧∃(i_4:BkS),zB i_4.side=zB i.sd∧yA i_4.b=yA x∧(∀(q:x3),q∈i_4.b.a.queues→(-9223372036854775808)≤q.count∧q.count≤9223372036854775807)∧∀(o:Unit),True→∃(x:Book),yA i_4.b=yA x∧i.inst.toNat=i.inst.toNat∧i.inst.toNat<i_1.books.length∧cnd (i_4.b.best (i_4.b.side i_4.side)).snd (cnd (zV i_3.l i_3.s).snd (∃(i_5:I3'),i_5.side=zB i.sd∧i_5.x=(zV i_3.l i_3.s).fst.price∧i_5.y=(i_4.b.best (i_4.b.side i_4.side)).fst.price∧True∧∀(o:Unit),True→cnd (!btr i_5.side i_5.x i_5.y) (∃(o:Unit),(zN i.p i.B i.inst (zB i.sd)).fst.price=(i_4.b.best (i_4.b.side i_4.side)).fst.price∧(zN i.p i.B i.inst (zB i.sd)).fst.qty=(i_4.b.best (i_4.b.side i_4.side)).fst.qty∧(zN i.p i.B i.inst (zB i.sd)).fst.a.inst=0∧(zN i.p i.B i.inst (zB i.sd)).fst.a.side=0∧(zN i.p i.B i.inst (zB i.sd)).fst.b.inst=0∧(zN i.p i.B i.inst (zB i.sd)).fst.b.side=0∧(zN i.p i.B i.inst (zB i.sd)).snd.fst=false∧(zN i.p i.B i.inst (zB i.sd)).snd.snd=true∧sb i.s.p.code=sb i_1.p.code∧i.s.p.tick=i_1.p.tick∧i.s.p.low=i_1.p.low∧i.s.p.high=i_1.p.high∧i.s.p.wide=i_1.p.wide∧i.s.p.rule=i_1.p.rule∧i.s.p.top=i_1.p.top∧i.s.p.least=i_1.p.least∧i.s.p.part=i_1.p.part∧AObj.objs 102 Book 6 zM i.s.books none=AObj.objs 102 Book 6 zM (i_1.books.set i.inst.toNat x) none∧yB i.s.wh=yB i_1.wh∧AObj.fro 1 (iE i.s.p.months)=AObj.fro 1 (iE i_1.p.months)∧AObj.fro 1 (iE i.s.p.settle)=AObj.fro 1 (iE i_1.p.settle)∧True) (∃(o:Unit),(zN i.p i.B i.inst (zB i.sd)).fst.price=(zV i_3.l i_3.s).fst.price∧(zN i.p i.B i.inst (zB i.sd)).fst.qty=(zV i_3.l i_3.s).fst.qty∧(zN i.p i.B i.inst (zB i.sd)).fst.a.inst=(zV i_3.l i_3.s).fst.a.inst∧(zN i.p i.B i.inst (zB i.sd)).fst.a.side=(zV i_3.l i_3.s).fst.a.side∧(zN i.p i.B i.inst (zB i.sd)).fst.b.inst=(zV i_3.l i_3.s).fst.b.inst∧(zN i.p i.B i.inst (zB i.sd)).fst.b.side=(zV i_3.l i_3.s).fst.b.side∧(zN i.p i.B i.inst (zB i.sd)).snd.fst=(zV i_3.l i_3.s).snd∧(zN i.p i.B i.inst (zB i.sd)).snd.snd=(zV i_3.l i_3.s).snd∧sb i.s.p.code=sb i_1.p.code∧i.s.p.tick=i_1.p.tick∧i.s.p.low=i_1.p.low∧i.s.p.high=i_1.p.high∧i.s.p.wide=i_1.p.wide∧i.s.p.rule=i_1.p.rule∧i.s.p.top=i_1.p.top∧i.s.p.least=i_1.p.least∧i.s.p.part=i_1.p.part∧AObj.objs 102 Book 6 zM i.s.books none=AObj.objs 102 Book 6 zM (i_1.books.set i.inst.toNat x) none∧yB i.s.wh=yB i_1.wh∧AObj.fro 1 (iE i.s.p.months)=AObj.fro 1 (iE i_1.p.months)∧AObj.fro 1 (iE i.s.p.settle)=AObj.fro 1 (iE i_1.p.settle)∧True)) (∃(o:Unit),(zN i.p i.B i.inst (zB i.sd)).fst.price=(i_4.b.best (i_4.b.side i_4.side)).fst.price∧(zN i.p i.B i.inst (zB i.sd)).fst.qty=(i_4.b.best (i_4.b.side i_4.side)).fst.qty∧(zN i.p i.B i.inst (zB i.sd)).fst.a.inst=0∧(zN i.p i.B i.inst (zB i.sd)).fst.a.side=0∧(zN i.p i.B i.inst (zB i.sd)).fst.b.inst=0∧(zN i.p i.B i.inst (zB i.sd)).fst.b.side=0∧(zN i.p i.B i.inst (zB i.sd)).snd.fst=false∧(zN i.p i.B i.inst (zB i.sd)).snd.snd=true∧sb i.s.p.code=sb i_1.p.code∧i.s.p.tick=i_1.p.tick∧i.s.p.low=i_1.p.low∧i.s.p.high=i_1.p.high∧i.s.p.wide=i_1.p.wide∧i.s.p.rule=i_1.p.rule∧i.s.p.top=i_1.p.top∧i.s.p.least=i_1.p.least∧i.s.p.part=i_1.p.part∧AObj.objs 102 Book 6 zM i.s.books none=AObj.objs 102 Book 6 zM (i_1.books.set i.inst.toNat x) none∧yB i.s.wh=yB i_1.wh∧AObj.fro 1 (iE i.s.p.months)=AObj.fro 1 (iE i_1.p.months)∧AObj.fro 1 (iE i.s.p.settle)=AObj.fro 1 (iE i_1.p.settle)∧True)) (∃(o:Unit),(zN i.p i.B i.inst (zB i.sd)).fst.price=(zV i_3.l i_3.s).fst.price∧(zN i.p i.B i.inst (zB i.sd)).fst.qty=(zV i_3.l i_3.s).fst.qty∧(zN i.p i.B i.inst (zB i.sd)).fst.a.inst=(zV i_3.l i_3.s).fst.a.inst∧(zN i.p i.B i.inst (zB i.sd)).fst.a.side=(zV i_3.l i_3.s).fst.a.side∧(zN i.p i.B i.inst (zB i.sd)).fst.b.inst=(zV i_3.l i_3.s).fst.b.inst∧(zN i.p i.B i.inst (zB i.sd)).fst.b.side=(zV i_3.l i_3.s).fst.b.side∧(zN i.p i.B i.inst (zB i.sd)).snd.fst=(zV i_3.l i_3.s).snd∧(zN i.p i.B i.inst (zB i.sd)).snd.snd=(zV i_3.l i_3.s).snd∧sb i.s.p.code=sb i_1.p.code∧i.s.p.tick=i_1.p.tick∧i.s.p.low=i_1.p.low∧i.s.p.high=i_1.p.high∧i.s.p.wide=i_1.p.wide∧i.s.p.rule=i_1.p.rule∧i.s.p.top=i_1.p.top∧i.s.p.least=i_1.p.least∧i.s.p.part=i_1.p.part∧AObj.objs 102 Book 6 zM i.s.books none=AObj.objs 102 Book 6 zM (i_1.books.set i.inst.toNat x) none∧yB i.s.wh=yB i_1.wh∧AObj.fro 1 (iE i.s.p.months)=AObj.fro 1 (iE i_1.p.months)∧AObj.fro 1 (iE i.s.p.settle)=AObj.fro 1 (iE i_1.p.settle)∧True)
def zVy (i:NxI):Prop:=
 (∃(i_1:MSt),sb i_1.p.code=sb i.s.p.code∧i_1.p.tick=i.s.p.tick∧i_1.p.low=i.s.p.low∧i_1.p.high=i.s.p.high∧i_1.p.wide=i.s.p.wide∧i_1.p.rule=i.s.p.rule∧i_1.p.top=i.s.p.top∧i_1.p.least=i.s.p.least∧i_1.p.part=i.s.p.part∧AObj.objs 102 Book 6 zM i_1.books none=AObj.objs 102 Book 6 zM i.s.books none∧yB i_1.wh=yB i.s.wh∧AObj.fro 1 (iE i_1.p.months)=AObj.fro 1 (iE i.s.p.months)∧AObj.fro 1 (iE i_1.p.settle)=AObj.fro 1 (iE i.s.p.settle)∧(i_1.books.length≤1000000∧∀(b:Book),b∈i_1.books→∀(q:x3),q∈b.a.queues→(-9223372036854775808)≤q.count∧q.count≤9223372036854775807)∧∀(o:Unit),True→(sb i_1.p.code=sb i.s.p.code∧True∧i_1.p.tick=i.s.p.tick∧i_1.p.low=i.s.p.low∧i_1.p.high=i.s.p.high∧i_1.p.wide=i.s.p.wide∧i_1.p.rule=i.s.p.rule∧i_1.p.top=i.s.p.top∧i_1.p.least=i.s.p.least∧i_1.p.part=i.s.p.part∧True∧True)∧(∃(i_2:aM),sb i_2.i.p.code=sb i.s.p.code∧iE i_2.i.p.months=iE i_1.p.months∧i_2.i.p.tick=i.s.p.tick∧i_2.i.p.low=i.s.p.low∧i_2.i.p.high=i.s.p.high∧i_2.i.p.wide=i.s.p.wide∧i_2.i.p.rule=i.s.p.rule∧i_2.i.p.top=i.s.p.top∧i_2.i.p.least=i.s.p.least∧i_2.i.p.part=i.s.p.part∧iE i_2.i.p.settle=iE i_1.p.settle∧List.map zQ i_2.i.tops=List.map zQ i_1.tops∧i_2.i.inst=i.inst∧zB i_2.s=zB i.sd∧((i_2.i.p.code.length≤1099511627776∧i_2.i.p.months.length≤1099511627776∧i_2.i.p.settle.length≤1099511627776)∧i_2.i.tops.length≤1000000∧∀(t:Top),t∈i_2.i.tops→((-9223372036854775808)≤t.p1∧t.p1≤9223372036854775807)∧(-9223372036854775808)≤t.p2∧t.p2≤9223372036854775807)∧∀(o:Unit),True→(zDn i i_1 o i_2)∧zDn i i_1 o i_2)∧(sb i_1.p.code=sb i.s.p.code∧True∧i_1.p.tick=i.s.p.tick∧i_1.p.low=i.s.p.low∧i_1.p.high=i.s.p.high∧i_1.p.wide=i.s.p.wide∧i_1.p.rule=i.s.p.rule∧i_1.p.top=i.s.p.top∧i_1.p.least=i.s.p.least∧i_1.p.part=i.s.p.part∧True∧True)∧zBs i i_1 o)∧(sb i.s.p.code=sb i.s.p.code∧True∧i.s.p.tick=i.s.p.tick∧i.s.p.low=i.s.p.low∧i.s.p.high=i.s.p.high∧i.s.p.wide=i.s.p.wide∧i.s.p.rule=i.s.p.rule∧i.s.p.top=i.s.p.top∧i.s.p.least=i.s.p.least∧i.s.p.part=i.s.p.part∧True∧True)∧∃(i_1:MSt),sb i_1.p.code=sb i.s.p.code∧i_1.p.tick=i.s.p.tick∧i_1.p.low=i.s.p.low∧i_1.p.high=i.s.p.high∧i_1.p.wide=i.s.p.wide∧i_1.p.rule=i.s.p.rule∧i_1.p.top=i.s.p.top∧i_1.p.least=i.s.p.least∧i_1.p.part=i.s.p.part∧AObj.objs 102 Book 6 zM i_1.books none=AObj.objs 102 Book 6 zM i.s.books none∧yB i_1.wh=yB i.s.wh∧AObj.fro 1 (iE i_1.p.months)=AObj.fro 1 (iE i.s.p.months)∧AObj.fro 1 (iE i_1.p.settle)=AObj.fro 1 (iE i.s.p.settle)∧(i_1.books.length≤1000000∧∀(b:Book),b∈i_1.books→∀(q:x3),q∈b.a.queues→(-9223372036854775808)≤q.count∧q.count≤9223372036854775807)∧∀(o:Unit),True→(sb i_1.p.code=sb i.s.p.code∧True∧i_1.p.tick=i.s.p.tick∧i_1.p.low=i.s.p.low∧i_1.p.high=i.s.p.high∧i_1.p.wide=i.s.p.wide∧i_1.p.rule=i.s.p.rule∧i_1.p.top=i.s.p.top∧i_1.p.least=i.s.p.least∧i_1.p.part=i.s.p.part∧True∧True)∧zBs i i_1 o
theorem z8a (hG:GOk Tryz.prog ([(23,topsOC),(67,quotesC),(66,bestQC),(49,bestC),(111,bbetterC)])) (h:∀(i:NxI),nextC.cnd i→zVy i):nextC.ok Tryz.prog 90:=okw mixed hG 0 (fun _=>[]) (fun _=>[]) [0] Tryz.func90 h
@[reducible] def zFj (i_1:BkS) (b:Bool):AObj:=Sx.AObj.cells [V.d (D.v (.int .i64 (i_1.b.best (i_1.b.side i_1.side)).fst.price)),V.d (D.v (.int .i64 (i_1.b.best (i_1.b.side i_1.side)).fst.qty)),V.d (D.v (.int .i64 (i_1.b.best (i_1.b.side i_1.side)).fst.count))] (104:Nat)
@[reducible] def b9 (i:TrI):AObj:=Sx.AObj.cells [V.d (D.v (.int .i64 i.inst)),V.d (D.v (.int .i64 (zB i.sd)))] (59:Nat)
@[reducible] def zIe (i_1:BkS):AObj:=Sx.AObj.cells [V.d (D.v (.int .i64 (i_1.b.best (i_1.b.side i_1.side)).fst.price)),V.d (D.v (.int .i64 (i_1.b.best (i_1.b.side i_1.side)).fst.qty)),V.d (D.v (.int .i64 (i_1.b.best (i_1.b.side i_1.side)).fst.count))] (104:Nat)
def zLx (i:TrI):Prop:=
 (0≤i.inst∧i.inst<(↑i.s.books.length:Int))∧i.inst.toNat<i.s.books.length∧∃(x:Book),i.s.books[i.inst.toNat]?=some x∧∃(i_1:BkS),zB i_1.side=zB i.sd∧yA i_1.b=yA x∧(∀(q:x3),q∈i_1.b.a.queues→(-9223372036854775808)≤q.count∧q.count≤9223372036854775807)∧∀(o:Unit),True→∃(x:Book),yA i_1.b=yA x∧i.inst.toNat=i.inst.toNat∧i.inst.toNat<i.s.books.length∧∃(x_1:Book),(i.s.books.set i.inst.toNat x)[i.inst.toNat]?=some x_1∧∃(i_2:AtI),zB i_2.s=zB i.sd∧i_2.price=(i_1.b.best (i_1.b.side i_1.side)).fst.price∧yA i_2.b=yA x_1∧i_2.b.Rep i_2.L∧∀(o:Unit),True→∃(x_2:Book),yA i_2.b=yA x_2∧i.inst.toNat=i.inst.toNat∧i.inst.toNat<(i.s.books.set i.inst.toNat x).length∧∃(i_3:AlI),sb i_3.p.code=sb i.s.p.code∧iE i_3.p.months=iE i.s.p.months∧i_3.p.tick=i.s.p.tick∧i_3.p.low=i.s.p.low∧i_3.p.high=i.s.p.high∧i_3.p.wide=i.s.p.wide∧i_3.p.rule=i.s.p.rule∧i_3.p.top=i.s.p.top∧i_3.p.least=i.s.p.least∧i_3.p.part=i.s.p.part∧iE i_3.p.settle=iE i.s.p.settle∧List.map qC i_3.l=List.map qC (atL i_2.L (zB i_2.s) i_2.price)∧i_3.q=i.q∧(i_3.l.length≤1000∧((-9223372036854775808)≤i_3.q∧i_3.q≤9223372036854775807)∧((-9223372036854775808)≤i_3.p.least∧i_3.p.least≤9223372036854775807)∧((-9223372036854775808)≤i_3.p.top∧i_3.p.top≤9223372036854775807)∧(-9223372036854775808)≤i_3.p.part∧i_3.p.part≤9223372036854775807)∧∀(o:Unit),True→∃(i0:Nat×MSt),(↑i0.fst:Int)=0∧sb i0.snd.p.code=sb i.s.p.code∧i0.snd.p.tick=i.s.p.tick∧i0.snd.p.low=i.s.p.low∧i0.snd.p.high=i.s.p.high∧i0.snd.p.wide=i.s.p.wide∧i0.snd.p.rule=i.s.p.rule∧i0.snd.p.top=i.s.p.top∧i0.snd.p.least=i.s.p.least∧i0.snd.p.part=i.s.p.part∧AObj.objs 102 Book 6 zM i0.snd.books none=AObj.objs 102 Book 6 zM ((i.s.books.set i.inst.toNat x).set i.inst.toNat x_2) none∧yB i0.snd.wh=yB i.s.wh∧AObj.fro 1 (iE i0.snd.p.months)=AObj.fro 1 (iE i.s.p.months)∧AObj.fro 1 (iE i0.snd.p.settle)=AObj.fro 1 (iE i.s.p.settle)∧List.map yF (i.fs i0.fst)=[]∧∃(I:Nat×MSt→Prop),∃(μ:Nat×MSt→Nat),I i0∧∀(i_4:Nat×MSt),I i_4→cnd (decide ((↑i_4.fst:Int)<(↑(iE (xG i_3)).length:Int))) ((0≤(↑i_4.fst:Int)∧(↑i_4.fst:Int)<(↑(iE (xG i_3)).length:Int))∧∃(n:Int),zI (iE (xG i_3)) (↑i_4.fst:Int).toNat 0 1=some [D.v (.int .i64 n)]∧cnd (decide (n>0)) ((0≤(↑i_4.fst:Int)∧(↑i_4.fst:Int)<(↑(List.map qC (atL i_2.L (zB i_2.s) i_2.price)).length:Int))∧∃(n_1:Int),∃(n_2:Int),∃(n_3:Int),∃(n_4:Int),∃(b:Bool),zI (List.map qC (atL i_2.L (zB i_2.s) i_2.price)) (↑i_4.fst:Int).toNat 0 5=some [D.v (.int .i64 n_1),D.v (.int .i64 n_2),D.v (.int .i64 n_3),D.v (.int .i64 n_4),D.v (.bool b)]∧∃(i_5:StI),i_5.id=n_1∧i_5.q=n∧zE i_5.s=zE i_4.snd∧(i_5.s.Rep i_5.p i_5.B∧i_5.B.length≤1000)∧∀(o:MSt),o.Rep i_5.p (yN i_5.B i_5.id i_5.q).fst→((List.map yF (i.fs i_4.fst)).length+1)*(48:Nat)≤(70368744177664:Nat)∧∃(i':Nat×MSt),(↑i'.fst:Int)=IntKind.i64.wrap ((↑i_4.fst:Int)+1)∧zE i'.snd=zE o∧List.map yF (i.fs i'.fst)=List.map yF (i.fs i_4.fst)++[[D.v (.int .i64 n_1),D.v (.int .i64 i.inst),D.v (.int .i64 (zB i.sd)),D.v (.int .i64 n_3),D.v (.int .i64 n),D.v (.int .i64 (IntKind.i64.wrap (n_4-n)))]]∧I i'∧μ i'<μ i_4∧AObj.own 2 1 (iE (xG i_3))=AObj.own 2 1 (iE (xG i_3))∧AObj.fro 5 (List.map qC (atL i_2.L (zB i_2.s) i_2.price))=AObj.fro 5 (List.map qC (atL i_2.L (zB i_2.s) i_2.price))∧zFj i_1 b=zFj i_1 b∧b9 i=b9 i∧AObj.fro 1 (iE i.s.p.months)=AObj.fro 1 (iE i.s.p.months)∧AObj.fro 1 (iE i.s.p.settle)=AObj.fro 1 (iE i.s.p.settle)) (∃(i':Nat×MSt),(↑i'.fst:Int)=IntKind.i64.wrap ((↑i_4.fst:Int)+1)∧zE i'.snd=zE i_4.snd∧List.map yF (i.fs i'.fst)=List.map yF (i.fs i_4.fst)∧I i'∧μ i'<μ i_4∧AObj.own 2 1 (iE (xG i_3))=AObj.own 2 1 (iE (xG i_3))∧AObj.fro 5 (List.map qC (atL i_2.L (zB i_2.s) i_2.price))=AObj.fro 5 (List.map qC (atL i_2.L (zB i_2.s) i_2.price))∧zIe i_1=zIe i_1∧b9 i=b9 i∧AObj.fro 1 (iE i.s.p.months)=AObj.fro 1 (iE i.s.p.months)∧AObj.fro 1 (iE i.s.p.settle)=AObj.fro 1 (iE i.s.p.settle))) (∃(o:MSt),zE o=zE i_4.snd∧List.map yF (yO i.p i.B i.inst (zB i.sd) i.q)=List.map yF (i.fs i_4.fst)∧o.Rep i.p (y8 i.B (yO i.p i.B i.inst (zB i.sd) i.q)))
theorem z0k (hG:GOk Tryz.prog ([(49,bestC),(112,atC),(113,allocC),(76,stakeC)])) (h:∀(i:TrI),tradeC.cnd i→zLx i):tradeC.ok Tryz.prog 93:=okw mixed hG 0 (fun _=>[]) (fun i=>z9r i) [0] Tryz.func93 h
open Go Cv Go.Proofs
theorem aZ {p:Prd} (hc:p.check=0) {k v:Int} (h:p.price k v=0): -2000000≤v∧v≤2000000:=by
 have ok:=jB hc
 have:=ok.b1
 have:=ok.b2
 have:=ok.b3
 have:=ok.b4
 have:=ok.b5
 rw[Prd.price]at h
 by_cases c1:p.count=0
 ·rw[if_pos c1]at h;cases h
 by_cases c2:k<0∨(p.count:Int)≤k
 ·rw[if_neg c1,if_pos c2]at h;cases h
 cases c3:wZ p.tick v with
 |true=>rw[if_neg c1,if_neg c2,if_pos c3]at h;cases h
 |false=>
  rw[if_neg c1,if_neg c2,if_neg (by rw[c3];decide)]at h
  by_cases c4:(p.months.length:Int)≤k
  ·simp only[if_pos c4]at h
   by_cases c5:v< -p.wide∨p.wide<v
   ·rw[if_pos c5]at h;cases h
   ·omega
  ·simp only[if_neg c4]at h
   by_cases c5:v<p.low∨p.high<v
   ·rw[if_pos c5]at h;cases h
   ·omega
open Go Cv Go.Proofs
structure sP (qs sh:List Int) (q:Int):Prop where
 len:sh.length=qs.length
 bd:∀n,0≤sh.getD n 0∧sh.getD n 0≤qs.getD n 0
 sum:sh.sum=q
theorem zSv:∀{l:List Int},(∀x∈l,0≤x)→0≤l.sum
 |[],_=>Int.le_refl 0
 |a::l,h=>by
  have:=zSv (l:=l) fun x hx=>h x (List.mem_cons_of_mem _ hx)
  have:=h a List.mem_cons_self
  rw[List.sum_cons];omega
theorem zNq:∀{z:List (Int×Int)},(∀y∈z,0≤y.2∧y.2≤y.1)→(z.map (·.2)).sum≤(z.map (·.1)).sum
 |[],_=>Int.le_refl 0
 |a::l,h=>by
  have:=zNq (z:=l) fun x hx=>h x (List.mem_cons_of_mem _ hx)
  have:=h a List.mem_cons_self
  rw[List.map_cons,List.map_cons,List.sum_cons,List.sum_cons];omega
theorem dD:∀(l:List Int) (q:Int),(∀x∈l,0≤x)→0≤q→q≤l.sum→sP l (xQ l q) q
 |[],q,_,h0,h1=>⟨rfl,fun n=>by simp[xQ],by simp at h1;simp[xQ];omega⟩
 |n::l,q,h,h0,h1=>by
  have hn:=h n List.mem_cons_self
  rw[List.sum_cons]at h1
  have:=zSv fun x hx=>h x (List.mem_cons_of_mem _ hx)
  have ih:=dD l (q-min n q) (fun x hx=>h x (List.mem_cons_of_mem _ hx)) (by omega) (by omega)
  refine⟨by rw[xQ,List.length_cons,List.length_cons,ih.len],fun k=> ?_,by rw[xQ,List.sum_cons,ih.sum];omega⟩
  cases k with
  |zero=>exact⟨by show 0≤min n q;omega,by show min n q≤n;omega⟩
  |succ k=>exact ih.bd k
theorem cQ:∀(z:List (Int×Int)) (q:Int),(∀y∈z,0≤y.2∧y.2≤y.1)→0≤q→q≤(z.map (·.1)).sum-(z.map (·.2)).sum→(qJ z q).length=z.length∧(∀n,0≤(qJ z q).getD n 0∧(qJ z q).getD n 0≤(z.map (·.1)).getD n 0)∧(qJ z q).sum=(z.map (·.2)).sum+q
 |[],q,_,h0,h1=>⟨rfl,fun n=>by simp[qJ],by simp at h1;simp[qJ];omega⟩
 |(n,x)::r,q,h,h0,h1=>by
  have hn:=h (n,x) List.mem_cons_self
  simp only[List.map_cons,List.sum_cons]at h1
  have:=zNq fun y hy=>h y (List.mem_cons_of_mem _ hy)
  have ih:=cQ r (q-min (n-x) q) (fun y hy=>h y (List.mem_cons_of_mem _ hy)) (by omega) (by omega)
  refine⟨by rw[qJ,List.length_cons,List.length_cons,ih.1],fun k=> ?_,by rw[qJ,List.sum_cons,ih.2.2,List.map_cons,List.sum_cons];omega⟩
  cases k with
  |zero=>exact⟨by show 0≤x+min (n-x) q;have:=hn.1;have:=hn.2;dsimp only at*;omega,by show x+min (n-x) q≤n;have:=hn.2;dsimp only at*;omega⟩
  |succ k=>exact ih.2.1 k
theorem zJx {l:List Int} {q:Int} (h1:l.length≤250) (h2:0≤q) (h3:∀x∈l,1≤x∧x≤1000000) (h4:q≤l.sum):yH l q=true:=by
 rw[yH,decide_eq_true h1,decide_eq_true h2,decide_eq_true h4]
 simp only[Bool.true_and,Bool.and_true,List.all_eq_true,Bool.and_eq_true,decide_eq_true_eq]
 exact h3
theorem zCq {i:PlI} (h:yH i.l i.q=true) (hl:1≤i.least):sP i.l (xV i) i.q:=by
 obtain⟨r1,r2,r3,r4⟩:=xX h
 rw[xV,if_pos ⟨h,hl⟩]
 by_cases hne:i.l.length=0
 ·have e:i.l=[]:=List.eq_nil_of_length_eq_zero hne
  have hq:i.q=0:=by rw[e]at r4;simp at r4;omega
  have e0:i.p1=[]:=by rw[PlI.p1,e];rfl
  rw[e0,e,hq]
  exact⟨rfl,fun n=>by simp,rfl⟩
 ·obtain⟨_,_,f1,f2⟩:=b7 h (by omega)
  have hpl:=zKt i
  have m1:(i.l.zip i.p0).map (·.1)=i.l:=List.map_fst_zip (by omega)
  have m2:(i.l.zip i.p0).map (·.2)=i.p0:=List.map_snd_zip (by omega)
  have hp:=cQ (i.l.zip i.p0) (i.q-i.p0.sum) (fun y hy=>by
   obtain⟨j,hj⟩:=List.mem_iff_getElem?.1 hy
   rw[List.getElem?_zip_eq_some]at hj
   exact f1 j _ _ hj.1 hj.2) (by omega) (by rw[m1,m2];omega)
  rw[m1,m2]at hp
  refine⟨?_,hp.2.1,?_⟩
  ·rw[PlI.p1,hp.1,List.length_zip,hpl,Nat.min_self]
  ·rw[PlI.p1,hp.2.2];omega
theorem zDi:∀{l:List Int} {k:Nat} {x:Int},k<l.length→(l.set k x).sum=l.sum+(x-l.getD k 0)
 |[],k,x,h=>absurd h (by simp)
 |a::l,0,x,_=>by
  show x+l.sum=a+l.sum+(x-a);omega
 |a::l,k+1,x,h=>by
  have:=zDi (l:=l) (k:=k) (x:=x) (by simpa using h)
  show a+(l.set k x).sum=a+l.sum+(x-l.getD k 0)
  omega
theorem sS {l:List Int} {k n:Nat} {x:Int} (h:k<l.length):(l.set k x).getD n 0=if n=k then x else l.getD n 0:=by
 rw[List.getD_eq_getElem?_getD,List.getElem?_set]
 by_cases e:k=n
 ·subst e;rw[if_pos rfl,if_pos h,if_pos rfl];rfl
 ·rw[if_neg e,if_neg (fun e2=>e e2.symm),List.getD_eq_getElem?_getD]
theorem zFy {l:List Int}:∀(z:List (Nat×Int)) (o:List Int),(z.map (·.1)).Nodup→(∀y∈z,y.1<o.length∧0≤y.2∧o.getD y.1 0+y.2≤l.getD y.1 0)→(∀n,0≤o.getD n 0∧o.getD n 0≤l.getD n 0∧l.getD n 0≤1000000)→
 (z.foldl (fun o y=>o.set y.1 (IntKind.i64.wrap (o.getD y.1 0+y.2))) o).length=o.length∧(z.foldl (fun o y=>o.set y.1 (IntKind.i64.wrap (o.getD y.1 0+y.2))) o).sum=o.sum+(z.map (·.2)).sum∧∀n,0≤(z.foldl (fun o y=>o.set y.1 (IntKind.i64.wrap (o.getD y.1 0+y.2))) o).getD n 0∧(z.foldl (fun o y=>o.set y.1 (IntKind.i64.wrap (o.getD y.1 0+y.2))) o).getD n 0≤l.getD n 0
 |[],o,_,_,h=>⟨rfl,by simp,fun n=>⟨(h n).1,(h n).2.1⟩⟩
 |y::z,o,hn,hz,h=>by
  obtain⟨h1,h2,h3⟩:=hz y List.mem_cons_self
  rw[List.map_cons,List.nodup_cons]at hn
  have hw:IntKind.i64.wrap (o.getD y.1 0+y.2)=o.getD y.1 0+y.2:=by
   have:=h y.1
   exact w64 (by omega)
  rw[List.foldl_cons,hw]
  have ih:=zFy (l:=l) z (o.set y.1 (o.getD y.1 0+y.2)) hn.2 (fun x hx=>by
   obtain⟨g1,g2,g3⟩:=hz x (List.mem_cons_of_mem _ hx)
   have hne:x.1≠y.1:=fun e=>hn.1 (e▸List.mem_map_of_mem (f:=(·.1)) hx)
   rw[List.length_set,sS h1,if_neg hne]
   exact⟨g1,g2,g3⟩) (fun n=>by
   rw[sS h1]
   split
   ·rename_i e
    rw[e]
    exact⟨by have:=h y.1;omega,h3,(h y.1).2.2⟩
   ·exact h n)
  refine⟨by rw[ih.1,List.length_set],?_,ih.2.2⟩
  rw[ih.2.1,zDi h1,List.map_cons,List.sum_cons];omega
theorem tN (l:List Int):(List.range l.length).map (fun n=>l.getD n 0)=l:=by
 apply List.ext_getElem?
 intro n
 rw[List.getElem?_map]
 by_cases h:n<l.length
 ·rw[List.getElem?_range h,List.getElem?_eq_getElem h,Option.map_some,List.getD_eq_getElem?_getD,List.getElem?_eq_getElem h];rfl
 ·rw[List.getElem?_eq_none (by simpa using h),List.getElem?_eq_none (by omega)];rfl
theorem zPg {f g:Nat→Int}:∀l:List Nat,(l.map fun n=>f n-g n).sum=(l.map f).sum-(l.map g).sum
 |[]=>rfl
 |a::l=>by rw[List.map_cons,List.map_cons,List.map_cons,List.sum_cons,List.sum_cons,List.sum_cons,zPg l];omega
theorem tW {f:Nat→Int} {p:Nat→Bool}:∀{l:List Nat},(∀n∈l,p n=false→f n=0)→((l.filter p).map f).sum=(l.map f).sum
 |[],_=>rfl
 |a::l,h=>by
  have ih:=tW (l:=l) fun n hn=>h n (List.mem_cons_of_mem _ hn)
  rw[List.map_cons,List.sum_cons]
  by_cases e:p a=true
  ·rw[List.filter_cons_of_pos e,List.map_cons,List.sum_cons,ih]
  ·rw[List.filter_cons_of_neg e,ih,h a List.mem_cons_self (by simpa using e)];omega
theorem fT {i:RsI} (hl:i.l.length≤250) (ho:i.out.length=i.l.length) (hn:∀n,0≤i.out.getD n 0∧i.out.getD n 0≤i.l.getD n 0∧i.l.getD n 0≤1000000) (hq:0≤i.q∧i.q≤i.l.sum-i.out.sum) (hle:1≤i.least):
 sP i.l (uK i) (i.out.sum+i.q):=by
 have hidx:(i.idx i.l.length).length≤250:=Nat.le_trans (List.length_filter_le _ _) (by simpa using hl)
 have hmem:∀n∈i.idx i.l.length,n<i.l.length∧i.out.getD n 0<i.l.getD n 0:=by
  intro n hn
  obtain⟨a,b⟩:=List.mem_filter.1 hn
  exact⟨List.mem_range.1 a,of_decide_eq_true b⟩
 have hls:(i.left i.l.length).sum=i.l.sum-i.out.sum:=by
  rw[RsI.left,RsI.idx,tW,zPg,tN]
  ·rw[← ho,tN]
  ·intro n _ e
   have:=of_decide_eq_false e
   have:=hn n
   omega
 have hr:yH (i.left i.l.length) i.q=true:=by
  refine zJx (by rw[RsI.left,List.length_map];exact hidx) hq.1 (fun x hx=> ?_) (by omega)
  obtain⟨n,hm,rfl⟩:=List.mem_map.1 hx
  have:=hmem n hm
  have:=hn n
  omega
 have hp:=zCq (i:=⟨i.left i.l.length,i.least,i.q⟩) hr hle
 have hpl:i.pl.length=(i.idx i.l.length).length:=by
  have:=hp.len
  rw[RsI.pl,this,RsI.left,List.length_map]
 have hnd:(i.idx i.l.length).Nodup:=List.nodup_range.sublist List.filter_sublist
 have z1:((i.idx i.l.length).zip i.pl).map (·.1)=i.idx i.l.length:=List.map_fst_zip (by omega)
 have z2:((i.idx i.l.length).zip i.pl).map (·.2)=i.pl:=List.map_snd_zip (by omega)
 have hf:=zFy (l:=i.l) ((i.idx i.l.length).zip i.pl) i.out (by rw[z1];exact hnd) (fun y hy=>by
  obtain⟨j,hj⟩:=List.mem_iff_getElem?.1 hy
  rw[List.getElem?_zip_eq_some]at hj
  have hm:=hmem y.1 (List.mem_of_getElem? hj.1)
  have hb:=hp.bd j
  have e1:(xV ⟨i.left i.l.length,i.least,i.q⟩).getD j 0=y.2:=by
   rw[List.getD_eq_getElem?_getD]
   have:(xV ⟨i.left i.l.length,i.least,i.q⟩)[j]? =some y.2:=hj.2
   rw[this];rfl
  have e2:(i.left i.l.length).getD j 0=i.l.getD y.1 0-i.out.getD y.1 0:=by
   rw[List.getD_eq_getElem?_getD,RsI.left,List.getElem?_map,hj.1];rfl
  dsimp only at hb
  rw[e1,e2]at hb
  exact⟨by omega,hb.1,by omega⟩) hn
 have hall:uK i=((i.idx i.l.length).zip i.pl).foldl (fun o y=>o.set y.1 (IntKind.i64.wrap (o.getD y.1 0+y.2))) i.out:=by
  rw[uK,RsI.add,List.take_of_length_le (by rw[List.length_zip];omega)]
 rw[hall]
 refine⟨by rw[hf.1,ho],hf.2.2,?_⟩
 rw[hf.2.1,z2]
 have:=hp.sum
 rw[RsI.pl,this]
theorem zMn {l:List Int} (h:∀x∈l,1≤x∧x≤1000000) (n:Nat):0≤l.getD n 0∧l.getD n 0≤1000000:=by
 by_cases hn:n<l.length
 ·obtain⟨x,hx⟩:=yD hn
  have:=h x (List.mem_of_getElem? hx)
  rw[zX hx];omega
 ·rw[List.getD_eq_getElem?_getD,List.getElem?_eq_none (by omega)];decide
theorem z8j (n k:Nat):(List.replicate n (0:Int)).getD k 0=0:=by
 rw[List.getD_eq_getElem?_getD,List.getElem?_replicate]
 split<;>rfl
theorem eL (n:Nat):(List.replicate n (0:Int)).sum=0:=by
 induction n with
 |zero=>rfl
 |succ n ih=>rw[List.replicate_succ,List.sum_cons,ih];rfl
theorem z6r {q part:Int} (hq:0≤q) (h0:0≤part) (h1:part≤100):0≤q*part / 100∧q*part / 100≤q:=by
 have h2:0≤q*part:=Int.mul_nonneg hq h0
 have h3:q*part≤q*100:=Int.mul_le_mul_of_nonneg_left h1 hq
 constructor<;>omega
theorem a9 {p:Prd} (hc:p.check=0) {l:List zJ} {q:Int} (hr:yH (l.map (·.qty)) q=true):sP (l.map (·.qty)) (xG ⟨p,l,q⟩) q:=by
 have ok:=jB hc
 obtain⟨r1,r2,r3,r4⟩:=xX hr
 have q1:=ok.q1
 have q3:=ok.q3
 have q5:=ok.q5
 have q6:=ok.q6
 have r5:=ok.r1
 have r6:=ok.r2
 have gb:=zMn r3
 have eqs:(AlI.qs ⟨p,l,q⟩)=l.map (·.qty):=rfl
 rw[xG]
 simp only[eqs]
 generalize l.map (·.qty)=qs at*
 by_cases c1:p.rule=1
 ·rw[if_pos c1,jD,if_pos hr]
  exact dD _ _ (fun x hx=>by have:=r3 x hx;omega) r2 r4
 by_cases c2:p.rule=2
 ·rw[if_neg c1,if_pos c2,bD,if_pos ⟨hr,q3,q1⟩]
  rw[PsI.rs]
  dsimp only
  split
  ·rename_i ht
   have hk:(topI l).toNat<(List.replicate qs.length (0:Int)).length:=by simp;omega
   have hf:0≤PsI.first ⟨qs,topI l,p.top,p.least,q⟩∧PsI.first ⟨qs,topI l,p.top,p.least,q⟩≤qs.getD (topI l).toNat 0∧PsI.first ⟨qs,topI l,p.top,p.least,q⟩≤q:=by
    have:=gb (topI l).toNat
    simp only[PsI.first]
    omega
   have hs:((List.replicate qs.length (0:Int)).set (topI l).toNat (PsI.first ⟨qs,topI l,p.top,p.least,q⟩)).sum=PsI.first ⟨qs,topI l,p.top,p.least,q⟩:=by
    rw[zDi hk,eL,z8j];omega
   have:=fT (i:=⟨qs,(List.replicate qs.length 0).set (topI l).toNat (PsI.first ⟨qs,topI l,p.top,p.least,q⟩),p.least,q-PsI.first ⟨qs,topI l,p.top,p.least,q⟩⟩) r1 (by simp) (fun n=>by
    dsimp only
    rw[sS hk,z8j]
    have:=gb n
    split
    ·rename_i e;rw[e];exact⟨hf.1,hf.2.1,(gb _).2⟩
    ·omega) (by dsimp only;rw[hs];omega) q3
   dsimp only at this
   rw[hs]at this
   have e:PsI.first ⟨qs,topI l,p.top,p.least,q⟩+(q-PsI.first ⟨qs,topI l,p.top,p.least,q⟩)=q:=by omega
   rw[e]at this
   exact this
  ·have:=fT (i:=⟨qs,List.replicate qs.length 0,p.least,q⟩) r1 (by simp) (fun n=>by
    dsimp only
    rw[z8j]
    have:=gb n
    omega) (by dsimp only;rw[eL];omega) q3
   dsimp only at this
   rw[eL,Int.zero_add]at this
   exact this
 ·have c3:p.rule=3:=by omega
  rw[if_neg c1,if_neg c2,if_pos c3,bL,if_pos ⟨hr,q5,q6,q3⟩]
  rw[SpI.rs]
  dsimp only
  obtain⟨d1,d2⟩:=z6r r2 q5 q6
  have hr2:yH qs (q*p.part / 100)=true:=zJx r1 d1 r3 (by omega)
  have hfs:=dD qs (q*p.part / 100) (fun x hx=>by have:=r3 x hx;omega) d1 (by omega)
  have e0:jD qs (q*p.part / 100)=xQ qs (q*p.part / 100):=by rw[jD,if_pos hr2]
  have:=fT (i:=⟨qs,jD qs (q*p.part / 100),p.least,q-q*p.part / 100⟩) r1 (by dsimp only;rw[e0];exact hfs.len) (fun n=>by
   dsimp only
   rw[e0]
   exact⟨(hfs.bd n).1,(hfs.bd n).2,(gb n).2⟩) (by dsimp only;rw[e0,hfs.sum];omega) q3
  dsimp only at this
  rw[e0,hfs.sum]at this
  rw[e0]
  have e:q*p.part / 100+(q-q*p.part / 100)=q:=by omega
  rw[e]at this
  exact this
theorem zLb {p:Prd} {l:List zJ} {q:Int} (hr:yH (l.map (·.qty)) q=false):xG ⟨p,l,q⟩=[]:=by
 have eqs:(AlI.qs ⟨p,l,q⟩)=l.map (·.qty):=rfl
 rw[xG]
 simp only[eqs,jD,bD,bL,hr]
 simp
open Go Cv Go.Proofs
theorem l7:motherC.ok Tryz.prog 91:=zUs gok0 fun b _=>by
 unfold zOp
 cases b<;>exact⟨(),by decide,trivial⟩
theorem zHb:mgoodC.ok Tryz.prog 92:=z2l gok0 fun i _=>by
 obtain⟨s,p,x⟩:=i
 unfold zWm
 cases s
 ·refine Cv.cnd.mk (fun _=>zU (fun c=>⟨(),?_,trivial⟩) (fun c=>Cv.cnd.mk (fun e=>by simp[zB]at e) (fun _=>⟨(),?_,trivial⟩))) (fun e=>by simp[zB]at e)
  ·exact decide_eq_true c
  ·exact decide_eq_false c
 ·exact Cv.cnd.mk (fun e=>by simp[zB]at e) (fun _=>Cv.cnd.mk (fun _=>⟨(),rfl,trivial⟩) (fun e=>by simp[zB]at e))
theorem zGf {L:List zJ} {s:Int}:((bestL L s).2=true∧∃o∈L,o.side=s∧o.price=(bestL L s).1.price)∨(bestL L s=(⟨0,0,0⟩,false)∧∀o∈L,o.side≠s):=by
 rw[bestL]
 cases hl:eV L s with
 |nil=>
  refine .inr ⟨rfl,fun o ho e=> ?_⟩
  rw[eV]at hl
  cases hf:L.filter fun o=>decide (o.side=s)with
  |nil=>
   rw[List.filter_eq_nil_iff]at hf
   have:=hf o ho
   simp[e]at this
  |cons x y=>
   rw[hf,grp]at hl
   split at hl
   ·cases hl
   ·split at hl<;>cases hl
 |cons v vs=>
  refine .inl ⟨rfl,?_⟩
  rw[eV]at hl
  obtain⟨o,r,e1,e2⟩:=zEy hl
  have:o∈L.filter fun o=>decide (o.side=s):=by rw[e1];exact List.mem_cons_self
  rw[List.mem_filter]at this
  exact⟨o,this.1,by simpa using this.2,e2⟩
theorem zCu {L:List zJ} {s:Int} (h:∀o∈L,-2000000≤o.price∧o.price≤2000000): -2000000≤(bestL L s).1.price∧(bestL L s).1.price≤2000000:=by
 rcases zGf (L:=L) (s:=s)with⟨_,o,ho,_,e⟩|⟨e,_⟩
 ·rw[← e];exact h o ho
 ·rw[e];constructor<;>decide
theorem zDu (L:List zJ):(y9 L).p1=(bestL L 1).1.price∧(y9 L).q1=(bestL L 1).1.qty∧(y9 L).has1=(bestL L 1).2∧(y9 L).p2=(bestL L 2).1.price∧(y9 L).q2=(bestL L 2).1.qty∧(y9 L).has2=(bestL L 2).2:=by
 have h:∀s,(bestL L s).2=true∨bestL L s=(⟨0,0,0⟩,false):=fun s=>by
  rcases zGf (L:=L) (s:=s)with⟨h,_⟩|⟨h,_⟩
  ·exact .inl h
  ·exact .inr h
 rw[y9,Top.sell,Top.buy]
 rcases h 1 with h1|h1<;>rcases h 2 with h2|h2<;>simp[h1,h2,top0]
theorem BOk.prices {p:Prd} {B:List (List zJ)} (h:BOk p B) {k:Nat} {L:List zJ} (hL:B[k]? =some L):∀o∈L,-2000000≤o.price∧o.price≤2000000:=fun o ho=>aZ h.pc (h.pr k L hL o ho)
theorem BOk.tops {p:Prd} {B:List (List zJ)} (h:BOk p B):kJ (B.map y9):=by
 have:=xJ p
 refine⟨by rw[List.length_map,h.bl];omega,fun t ht=> ?_⟩
 obtain⟨L,hL,rfl⟩:=List.mem_map.1 ht
 obtain⟨k,hk⟩:=List.mem_iff_getElem?.1 hL
 have b1:=zCu (s:=1) (h.prices hk)
 have b2:=zCu (s:=2) (h.prices hk)
 rw[(zDu L).1,(zDu L).2.2.2.1]
 exact⟨by constructor<;>omega,by constructor<;>omega⟩
theorem MSt.Rep.tops {s:MSt} {p:Prd} {B:List (List zJ)} (h:s.Rep p B):s.tops=B.map y9:=by
 rw[MSt.tops]
 apply List.ext_getElem?
 intro k
 rw[List.getElem?_map,List.getElem?_map]
 by_cases hk:k<B.length
 ·obtain⟨L,hL⟩:=yD hk
  obtain⟨b,hb⟩:=yD (l:=s.books) (i:=k) (by rw[h.bl];exact hk)
  rw[hL,hb,Option.map_some,Option.map_some,(h.bk k b L hb hL).top]
 ·rw[List.getElem?_eq_none (by rw[h.bl];omega),List.getElem?_eq_none (by omega)];rfl
theorem MSt.Rep.cnt {s:MSt} {p:Prd} {B:List (List zJ)} (h:s.Rep p B) (hB:B.length≤1000000):s.cntOk:=by
 refine⟨by rw[h.bl];exact hB,fun b hb=> ?_⟩
 obtain⟨k,hk⟩:=List.mem_iff_getElem?.1 hb
 have hlt:=(List.getElem?_eq_some_iff.1 hk).1
 rw[h.bl]at hlt
 obtain⟨L,hL⟩:=yD hlt
 exact(h.bk k b L hk hL).cnt
theorem zGt {b:Book} {L:List zJ} (h:b.Rep L) (sd:Bool):b.best (b.side sd)=bestL L (zB sd):=by
 obtain⟨Q,c,ht,rfl⟩:=h
 cases sd
 ·exact c.bestL (.inl rfl)
 ·exact c.bestL (.inr rfl)
theorem gU (sd:Bool):zB sd=1∨zB sd=2:=by cases sd;exact .inl rfl;exact .inr rfl
theorem yCo (i:NxI) (h:nextC.cnd i):zVy i:=by
 obtain⟨hR,hB,h0,h1⟩:i.s.Rep i.p i.B∧BOk i.p i.B∧0≤i.inst∧i.inst<i.B.length:=h
 have hcl:=xJ i.p
 have hbl:=hB.bl
 have hsl:=hR.bl
 obtain⟨k,hk⟩:∃k:Nat,i.inst=k:=⟨i.inst.toNat,by omega⟩
 obtain⟨L,hL⟩:=yD (l:=i.B) (i:=k) (by omega)
 obtain⟨b,hb⟩:=yD (l:=i.s.books) (i:=k) (by omega)
 have hbR:=hR.bk k b L hb hL
 have hps:i.s.p.small:=by rw[hR.ep];exact hB.ps
 have hto:kJ i.s.tops:=by rw[hR.tops];exact hB.tops
 have hnx:zN i.p i.B i.inst (zB i.sd)=if((bestL L (zB i.sd)).2 && !((zV (xS ⟨i.s.p,i.s.tops,i.inst⟩ (zB i.sd)) (zB i.sd)).2 && btr (zB i.sd) (zV (xS ⟨i.s.p,i.s.tops,i.inst⟩ (zB i.sd)) (zB i.sd)).1.price (bestL L (zB i.sd)).1.price))=true then(⟨(bestL L (zB i.sd)).1.price,(bestL L (zB i.sd)).1.qty,⟨0,0⟩,⟨0,0⟩⟩,false,true)else((zV (xS ⟨i.s.p,i.s.tops,i.inst⟩ (zB i.sd)) (zB i.sd)).1,(zV (xS ⟨i.s.p,i.s.tops,i.inst⟩ (zB i.sd)) (zB i.sd)).2,(zV (xS ⟨i.s.p,i.s.tops,i.inst⟩ (zB i.sd)) (zB i.sd)).2):=by
  rw[zN,hR.tops,hR.ep,hk,Int.toNat_natCast,zX hL]
 have hbest:=zGt hbR i.sd
 unfold zVy zBs zDn
 have hcnt:i.s.cntOk:=hR.cnt (by omega)
 have hql:(xS ⟨i.s.p,i.s.tops,i.inst⟩ (zB i.sd)).length≤1000000:=by
  have:=Nat.le_trans (List.length_filter_le (fun q=>decide (i.s.p.price i.inst q.price=0)) _) (tY ⟨i.s.p,i.s.tops,i.inst⟩ (zB i.sd))
  exact Nat.le_trans this (by decide)
 refine(fun hT=>⟨⟨i.s,rfl,rfl,rfl,rfl,rfl,rfl,rfl,rfl,rfl,rfl,rfl,rfl,rfl,hcnt,fun _ _=>⟨⟨rfl,trivial,rfl,rfl,rfl,rfl,rfl,rfl,rfl,rfl,trivial,trivial⟩,⟨⟨⟨i.s.p,i.s.tops,i.inst⟩,i.sd⟩,rfl,rfl,rfl,rfl,rfl,rfl,rfl,rfl,rfl,rfl,rfl,rfl,rfl,rfl,⟨hps,hto⟩,fun _ _=>⟨hT,hT⟩⟩,⟨rfl,trivial,rfl,rfl,rfl,rfl,rfl,rfl,rfl,rfl,trivial,trivial⟩,⟨⟨⟨i.s.p,i.s.tops,i.inst⟩,i.sd⟩,rfl,rfl,rfl,rfl,rfl,rfl,rfl,rfl,rfl,rfl,rfl,rfl,rfl,rfl,⟨hps,hto⟩,fun _ _=>hT⟩⟩⟩,
  ⟨rfl,trivial,rfl,rfl,rfl,rfl,rfl,rfl,rfl,rfl,trivial,trivial⟩,⟨i.s,rfl,rfl,rfl,rfl,rfl,rfl,rfl,rfl,rfl,rfl,rfl,rfl,rfl,hcnt,fun _ _=>⟨⟨rfl,trivial,rfl,rfl,rfl,rfl,rfl,rfl,rfl,rfl,trivial,trivial⟩,⟨⟨⟨i.s.p,i.s.tops,i.inst⟩,i.sd⟩,rfl,rfl,rfl,rfl,rfl,rfl,rfl,rfl,rfl,rfl,rfl,rfl,rfl,rfl,⟨hps,hto⟩,fun _ _=>hT⟩⟩⟩⟩) ?_
 refine⟨⟨xS ⟨i.s.p,i.s.tops,i.inst⟩ (zB i.sd),zB i.sd⟩,rfl,rfl,⟨gU _,hql⟩,fun _ _=>⟨⟨h0,by omega⟩,by omega,b,by rw[hk];exact hb,⟨i.sd,b⟩,rfl,rfl,hbR.cnt,fun _ _=>⟨b,rfl,rfl,by omega,?_⟩⟩⟩
 dsimp only
 rw[hbest]
 generalize bestL L (zB i.sd)=l at*
 generalize zV (xS ⟨i.s.p,i.s.tops,i.inst⟩ (zB i.sd)) (zB i.sd)=bq at*
 have hset:i.s.books.set i.inst.toNat b=i.s.books:=kB (by rw[hk];exact hb)
 rw[hset]
 refine Cv.cnd.mk (fun c1=>Cv.cnd.mk (fun c2=>⟨⟨zB i.sd,bq.1.price,l.1.price⟩,rfl,rfl,rfl,trivial,fun _ _=>Cv.cnd.mk (fun c3=> ?_) (fun c3=> ?_)⟩) (fun c2=> ?_)) (fun c1=> ?_)
 ·dsimp only at c3
  rw[if_pos (by rw[c1,c2];simpa using c3)]at hnx
  rw[hnx];exact⟨(),by(repeat'(first|exact trivial|exact rfl|apply And.intro))⟩
 ·dsimp only at c3
  rw[if_neg (by rw[c1,c2];simpa using c3)]at hnx
  rw[hnx];exact⟨(),by(repeat'(first|exact trivial|exact rfl|apply And.intro))⟩
 ·rw[if_pos (by rw[c1,c2];rfl)]at hnx
  rw[hnx];exact⟨(),by(repeat'(first|exact trivial|exact rfl|apply And.intro))⟩
 ·rw[if_neg (by rw[c1];simp)]at hnx
  rw[hnx];exact⟨(),by(repeat'(first|exact trivial|exact rfl|apply And.intro))⟩
theorem zZa:nextC.ok Tryz.prog 90:=z8a (gokc zHi (gokc zQj (gokc zYo (gokc zEe (gokc vZ gok0))))) yCo
theorem zOr (i:RsI) (k:Nat):(i.add k).length=i.out.length:=by
 have:∀(l:List (Nat×Int)) (o:List Int),(l.foldl (fun o y=>o.set y.1 (IntKind.i64.wrap (o.getD y.1 0+y.2))) o).length=o.length:=by
  intro l
  induction l with
  |nil=>intro o;rfl
  |cons x l ih=>intro o;rw[List.foldl_cons,ih,List.length_set]
 exact this _ _
theorem zHd (l:List Int) (q:Int):(jD l q).length≤l.length:=by
 rw[jD];split
 ·rw[fJ];exact Nat.le_refl _
 ·exact Nat.zero_le _
theorem zSc (i:AlI):(xG i).length≤i.l.length:=by
 have hq:i.qs.length=i.l.length:=by simp[AlI.qs]
 rw[xG,← hq]
 repeat' split
 ·exact zHd _ _
 ·rw[bD];split
  ·rw[uK,zOr,PsI.rs]
   split
   ·simp
   ·simp
  ·exact Nat.zero_le _
 ·rw[bL];split
  ·rw[uK,zOr];exact zHd _ _
  ·exact Nat.zero_le _
 ·exact Nat.zero_le _
theorem sQ {inst s:Int}:∀{os:List zJ} {sh:List Int} {j:Nat} {o:zJ} {k:Int},os[j]? =some o→sh[j]? =some k→yL inst s (os.take (j+1)) (sh.take (j+1))=yL inst s (os.take j) (sh.take j)++(if 0<k then[⟨o.id,inst,s,o.price,k,o.qty-k⟩]else[])
 |[],_,_,_,_,h,_=>by simp at h
 |_::_,[],_,_,_,_,h=>by simp at h
 |o::os,k::sh,0,_,_,h,h2=>by
  cases h;cases h2
  rw[List.take_succ_cons,List.take_succ_cons,List.take_zero,List.take_zero,List.take_zero,List.take_zero,yL]
  split<;>rfl
 |o::os,k::sh,j+1,o',k',h,h2=>by
  rw[List.take_succ_cons,List.take_succ_cons,yL,List.take_succ_cons,List.take_succ_cons,yL,sQ (os:=os) (sh:=sh) (j:=j) h h2]
  split<;>rfl
theorem zBa {inst s:Int}:∀(os:List zJ) (sh:List Int),yL inst s (os.take sh.length) (sh.take sh.length)=yL inst s os sh
 |[],sh=>by simp
 |_::_,[]=>by simp[yL]
 |o::os,k::sh=>by
  rw[List.length_cons,List.take_succ_cons,List.take_succ_cons,yL,yL,zBa os sh]
theorem zQc (B:List (List zJ)) (a b:List wB):y8 B (a++b)=y8 (y8 B a) b:=List.foldl_append
theorem fZ (B:List (List zJ)) (id q:Int):(yN B id q).1.length=B.length:=by
 rw[yN];split
 ·rfl
 ·simp
theorem kW:∀(fs:List wB) (B:List (List zJ)),(y8 B fs).length=B.length
 |[],B=>rfl
 |f::fs,B=>by
  show(y8 (yN B f.id f.qty).1 fs).length=_
  rw[kW fs,fZ]
theorem z6w {p:Prd} (h:p.check=0):yI p.least∧yI p.top∧yI p.part:=by
 have ok:=jB h
 have:=ok.q1
 have:=ok.q2
 have:=ok.q3
 have:=ok.q4
 have:=ok.q5
 have:=ok.q6
 exact⟨⟨by omega,by omega⟩,⟨by omega,by omega⟩,⟨by omega,by omega⟩⟩
theorem z7i (i:TrI) (h:tradeC.cnd i):zLx i:=by
 obtain⟨hR,hB,h0,h1,hq⟩:i.s.Rep i.p i.B∧BOk i.p i.B∧0≤i.inst∧i.inst<i.B.length∧yI i.q:=h
 have hcl:=xJ i.p
 have hbl:=hB.bl
 have hsl:=hR.bl
 have ep:=hR.ep
 obtain⟨k,hk⟩:∃k:Nat,i.inst=k:=⟨i.inst.toNat,by omega⟩
 obtain⟨L,hL⟩:=yD (l:=i.B) (i:=k) (by omega)
 obtain⟨b,hb⟩:=yD (l:=i.s.books) (i:=k) (by omega)
 have hbR:=hR.bk k b L hb hL
 have hbest:=zGt hbR i.sd
 have hos:atL L (zB i.sd) (bestL L (zB i.sd)).1.price=i.os:=by rw[TrI.os,mV,hk,Int.toNat_natCast,zX hL]
 have hset:i.s.books.set i.inst.toNat b=i.s.books:=kB (by rw[hk];exact hb)
 have hosl:i.os.length≤250:=by
  rw[← hos];exact Nat.le_trans (List.length_filter_le _ _) hbR.ords.2.2
 have hsh:i.sh.length≤i.os.length:=zSc _
 obtain⟨k1,k2,k3⟩:=z6w hB.pc
 have hsb:∀(j:Nat) (n:Int),i.sh[j]? =some n→n≤1000000:=by
  intro j n hn
  cases hr:yH (i.os.map (·.qty)) i.q with
  |false=>
   have:i.sh=[]:=zLb hr
   rw[this]at hn;cases hn
  |true=>
   have:=(a9 hB.pc hr).bd j
   have e:(xG ⟨i.p,i.os,i.q⟩).getD j 0=n:=zX hn
   rw[e]at this
   have:=(zMn (xX hr).2.2.1 j).2
   omega
 unfold zLx
 refine⟨⟨h0,by omega⟩,by omega,b,by rw[hk];exact hb,⟨i.sd,b⟩,rfl,rfl,hbR.cnt,fun _ _=> ?_⟩
 refine⟨b,rfl,rfl,by omega,b,by rw[hset,hk];exact hb,⟨b,L,i.sd,(bestL L (zB i.sd)).1.price⟩,rfl,by dsimp only;rw[hbest],rfl,hbR,fun _ _=> ?_⟩
 dsimp only
 try rw[hbest]
 rw[hset,hos]
 refine⟨b,rfl,rfl,by omega,⟨i.p,i.os,i.q⟩,by rw[ep],by rw[ep],by rw[ep],by rw[ep],by rw[ep],by rw[ep],by rw[ep],by rw[ep],by rw[ep],by rw[ep],by rw[ep],rfl,rfl,⟨by dsimp only;omega,hq,k1,k2,k3⟩,fun _ _=> ?_⟩
 have esh:xG ⟨i.p,i.os,i.q⟩=i.sh:=rfl
 rw[esh,hset,yR,List.length_map]
 refine⟨(0,i.s),rfl,rfl,rfl,rfl,rfl,rfl,rfl,rfl,rfl,rfl,rfl,rfl,rfl,rfl,rfl,fun j=>j.2.Rep i.p (y8 i.B (i.fs j.1))∧j.1≤i.sh.length,fun j=>i.sh.length-j.1,⟨hR,Nat.zero_le _⟩,fun j hj=> ?_⟩
 obtain⟨hjR,hjl⟩:=hj
 obtain⟨j,sj⟩:=j
 dsimp only at hjR hjl ⊢
 refine zU (fun c=> ?_) (fun c=> ?_)
 ·obtain⟨n,hn⟩:=yD (l:=i.sh) (i:=j) (by omega)
  obtain⟨o,ho⟩:=yD (l:=i.os) (i:=j) (by omega)
  have hst:=sQ (inst:=i.inst) (s:=zB i.sd) ho hn
  have hoL:o∈L:=by
   have:=List.mem_of_getElem? ho
   rw[← hos]at this
   exact(List.mem_filter.1 this).1
  have hoq:=(hbR.ords.1 o hoL).q
  have hnb:=hsb j n hn
  refine⟨⟨by omega,by omega⟩,n,elI hn,zU (fun c2=> ?_) (fun c2=> ?_)⟩
  ·rw[if_pos (show 0<n from c2)]at hst
   have hfl:(i.fs j).length≤j:=by
    have:∀(os:List zJ) (sh:List Int),(yL i.inst (zB i.sd) os sh).length≤os.length:=by
     intro os
     induction os with
     |nil=>intro sh;exact Nat.le_refl 0
     |cons o os ih=>
      intro sh
      cases sh with
      |nil=>exact Nat.zero_le _
      |cons k sh=>
       have:=ih sh
       rw[yL]
       split
       ·simp only[List.length_cons];omega
       ·simp only[List.length_cons];omega
    exact Nat.le_trans (this _ _) (by rw[List.length_take];omega)
   refine⟨⟨by omega,by omega⟩,o.id,o.side,o.price,o.qty,o.top,z7g ho,⟨sj,i.p,y8 i.B (i.fs j),o.id,n⟩,rfl,rfl,rfl,⟨hjR,by dsimp only;rw[kW];omega⟩,fun s' hs'=>⟨by rw[List.length_map];omega,(j+1,s'),wjn (by omega),rfl,?_,⟨?_,by dsimp only;omega⟩,by dsimp only;omega,by(repeat'(first|exact trivial|exact rfl|apply And.intro))⟩⟩
   ·show List.map yF (yL i.inst (zB i.sd) (i.os.take (j+1)) (i.sh.take (j+1)))=_
    rw[hst,List.map_append,w64 (by omega)];rfl
   ·show s'.Rep i.p (y8 i.B (yL i.inst (zB i.sd) (i.os.take (j+1)) (i.sh.take (j+1))))
    rw[hst,zQc];exact hs'
  ·rw[if_neg (show ¬0<n from c2),List.append_nil]at hst
   refine⟨(j+1,sj),wjn (by omega),rfl,?_,⟨?_,by dsimp only;omega⟩,by dsimp only;omega,by(repeat'(first|exact trivial|exact rfl|apply And.intro))⟩
   ·show List.map yF (yL i.inst (zB i.sd) (i.os.take (j+1)) (i.sh.take (j+1)))=_
    rw[hst];rfl
   ·show sj.Rep i.p (y8 i.B (yL i.inst (zB i.sd) (i.os.take (j+1)) (i.sh.take (j+1))))
    rw[hst];exact hjR
 ·have hje:j=i.sh.length:=by omega
  subst hje
  have hfa:i.fs i.sh.length=yO i.p i.B i.inst (zB i.sd) i.q:=zBa _ _
  rw[hfa]at hjR ⊢
  exact⟨sj,rfl,rfl,hjR⟩
theorem zVe:tradeC.ok Tryz.prog 93:=z0k (gokc zEe (gokc yCe (gokc zXc (gokc aG gok0)))) z7i
open Go Cv Go.Proofs
structure qF where
 price:Int
 qty:Int
 implied:Bool
 fills:List wB
 deriving DecidableEq
def xZ (t:qF):List D:=[.v (.int .i64 t.price),.v (.int .i64 t.qty),.v (.bool t.implied),.ro 6 (t.fills.map yF)]
def jH (p:Prd) (B:List (List zJ)) (inst:Int) (sd:Bool) (price qty:Int):Option (qF×List (List zJ)):=
 let n:=zN p B inst (zB (!sd))
 if(n.2.2 && (wY sd price n.1.price && decide (1≤n.1.qty)))=true then
  if n.2.1=true then
   let f1:=yO p B n.1.a.inst n.1.a.side (min qty n.1.qty)
   let f2:=yO p (y8 B f1) n.1.b.inst n.1.b.side (min qty n.1.qty)
   some (⟨n.1.price,min qty n.1.qty,true,f1++f2⟩,y8 (y8 B f1) f2)
  else
   let f:=yO p B inst (zB (!sd)) (min qty n.1.qty)
   some (⟨n.1.price,min qty n.1.qty,false,f⟩,y8 B f)
 else none
structure z7w where
 steps:List qF
 left:Int
 B:List (List zJ)
def pC (p:Prd) (inst:Int) (sd:Bool) (price:Int):Nat→List (List zJ)→Int→z7w
 |0,B,q=>⟨[],q,B⟩
 |n+1,B,q=>if q≤0 then⟨[],q,B⟩else match jH p B inst sd price q with
  |none=>⟨[],q,B⟩
  |some (t,B')=>let r:=pC p inst sd price n B' (q-t.qty);⟨t::r.steps,r.left,r.B⟩
def xP (p:Prd) (B:List (List zJ)) (inst:Int) (sd:Bool) (price q:Int):z7w:=pC p inst sd price q.toNat B q
structure RunI where
 s:MSt
 p:Prd
 B:List (List zJ)
 inst:Int
 sd:Bool
 price:Int
 q:Int
def RunI.r (i:RunI):z7w:=xP i.p i.B i.inst i.sd i.price i.q
def runC:Con where
 ι:=RunI
 pat:=fun i=>[.nm 0 0,zC i.inst,zC (zB i.sd),zC i.price,zC i.q]
 pre:=fun i=>[zE i.s]
 cnd:=fun i=>i.s.Rep i.p i.B∧BOk i.p i.B∧(0≤i.inst∧i.inst<i.B.length)∧1≤i.q∧i.q≤1000000
 alts:=fun i=>[{o:=MSt,res:=fun _=> .tup [.own 1,zC i.r.left],post:=fun s=>[zE s,.own 158 4 (i.r.steps.map xZ)],rel:=fun s=>s.Rep i.p i.r.B}]
structure zLy where
 s:MSt
 B:List (List zJ)
 steps:List qF
 q:Int
def yDq:List SAnn:=[
 {ι:=zLy,slots:=fun j=>[(0,.nm 0 0),(12,.own 1),(4,zC j.q)],rows:=fun j=>[zE j.s,.own 158 4 (j.steps.map xZ)]},
 {ι:=Unit,slots:=fun _=>[],rows:=fun _=>[],un:=3}]
structure RbI where
 s:MSt
 inst:Int
 side:Int
 price:Int
 q:Int
open Go Cv Go.Proofs
@[reducible] def zIy (i:RunI):Prop:=∃(i0:zLy),i0.q=i.q∧sb i0.s.p.code=sb i.s.p.code∧i0.s.p.tick=i.s.p.tick∧i0.s.p.low=i.s.p.low∧i0.s.p.high=i.s.p.high∧i0.s.p.wide=i.s.p.wide∧i0.s.p.rule=i.s.p.rule∧i0.s.p.top=i.s.p.top∧i0.s.p.least=i.s.p.least∧i0.s.p.part=i.s.p.part∧AObj.objs 102 Book 6 zM i0.s.books none=AObj.objs 102 Book 6 zM i.s.books none∧yB i0.s.wh=yB i.s.wh∧AObj.fro 1 (iE i0.s.p.months)=AObj.fro 1 (iE i.s.p.months)∧AObj.fro 1 (iE i0.s.p.settle)=AObj.fro 1 (iE i.s.p.settle)∧List.map xZ i0.steps=[]∧∃(I:zLy→Prop),∃(μ:zLy→Nat),I i0∧∀(i_1:zLy),I i_1→cnd (decide (i_1.q>0)) (∃(i_2:Bool),zB i_2=zB i.sd∧True∧∀(o:Unit),True→∃(i_3:NxI),i_3.inst=i.inst∧zB i_3.sd=zB !i_2∧zE i_3.s=zE i_1.s∧(i_3.s.Rep i_3.p i_3.B∧BOk i_3.p i_3.B∧0≤i_3.inst∧i_3.inst<(↑i_3.B.length:Int))∧∀(o:Unit),True→cnd (!(zN i_3.p i_3.B i_3.inst (zB i_3.sd)).snd.snd) (∃(o:MSt),i.r.left=i_1.q∧zE o=zE i_3.s∧List.map xZ i.r.steps=List.map xZ i_1.steps∧o.Rep i.p i.r.B) (∃(i_4:GoI),zB i_4.s=zB i.sd∧i_4.p=i.price∧i_4.x=(zN i_3.p i_3.B i_3.inst (zB i_3.sd)).fst.price∧True∧∀(o:Unit),True→cnd (!wY i_4.s i_4.p i_4.x) (∃(o:MSt),i.r.left=i_1.q∧zE o=zE i_3.s∧List.map xZ i.r.steps=List.map xZ i_1.steps∧o.Rep i.p i.r.B) (cnd (zN i_3.p i_3.B i_3.inst (zB i_3.sd)).snd.fst (∃(i_5:TrI),i_5.inst=(zN i_3.p i_3.B i_3.inst (zB i_3.sd)).fst.a.inst∧zB i_5.sd=(zN i_3.p i_3.B i_3.inst (zB i_3.sd)).fst.a.side∧i_5.q=min i_1.q (zN i_3.p i_3.B i_3.inst (zB i_3.sd)).fst.qty∧zE i_5.s=zE i_3.s∧(i_5.s.Rep i_5.p i_5.B∧BOk i_5.p i_5.B∧0≤i_5.inst∧i_5.inst<(↑i_5.B.length:Int)∧(-9223372036854775808)≤i_5.q∧i_5.q≤9223372036854775807)∧∀(o:MSt),o.Rep i_5.p (y8 i_5.B (yO i_5.p i_5.B i_5.inst (zB i_5.sd) i_5.q))→True∧(List.map yF (yO i_5.p i_5.B i_5.inst (zB i_5.sd) i_5.q)).length*(48:Nat)≤(70368744177664:Nat)∧∃(i_6:TrI),i_6.inst=(zN i_3.p i_3.B i_3.inst (zB i_3.sd)).fst.b.inst∧zB i_6.sd=(zN i_3.p i_3.B i_3.inst (zB i_3.sd)).fst.b.side∧i_6.q=min i_1.q (zN i_3.p i_3.B i_3.inst (zB i_3.sd)).fst.qty∧zE i_6.s=zE o∧(i_6.s.Rep i_6.p i_6.B∧BOk i_6.p i_6.B∧0≤i_6.inst∧i_6.inst<(↑i_6.B.length:Int)∧(-9223372036854775808)≤i_6.q∧i_6.q≤9223372036854775807)∧∀(o:MSt),o.Rep i_6.p (y8 i_6.B (yO i_6.p i_6.B i_6.inst (zB i_6.sd) i_6.q))→True∧((List.map yF (yO i_5.p i_5.B i_5.inst (zB i_5.sd) i_5.q)).length+(List.map yF (yO i_6.p i_6.B i_6.inst (zB i_6.sd) i_6.q)).length)*(48:Nat)≤(70368744177664:Nat)∧((List.map xZ i_1.steps).length+1)*(48:Nat)≤(70368744177664:Nat)∧∃(i':zLy),i'.q=IntKind.i64.wrap (i_1.q-min i_1.q (zN i_3.p i_3.B i_3.inst (zB i_3.sd)).fst.qty)∧zE i'.s=zE o∧List.map xZ i'.steps=List.map xZ i_1.steps++[[D.v (.int .i64 (zN i_3.p i_3.B i_3.inst (zB i_3.sd)).fst.price),D.v (.int .i64 (min i_1.q (zN i_3.p i_3.B i_3.inst (zB i_3.sd)).fst.qty)),D.v (.bool (zN i_3.p i_3.B i_3.inst (zB i_3.sd)).snd.fst),D.ro 6 (List.map yF (yO i_5.p i_5.B i_5.inst (zB i_5.sd) i_5.q)++List.map yF (yO i_6.p i_6.B i_6.inst (zB i_6.sd) i_6.q))]]∧I i'∧μ i'<μ i_1∧AObj.fro 1 (iE i.s.p.months)=AObj.fro 1 (iE i.s.p.months)∧AObj.fro 1 (iE i.s.p.settle)=AObj.fro 1 (iE i.s.p.settle)) (∃(i_5:Bool),zB i_5=zB i.sd∧True∧∀(o:Unit),True→min i_1.q (zN i_3.p i_3.B i_3.inst (zB i_3.sd)).fst.qty=min i_1.q (zN i_3.p i_3.B i_3.inst (zB i_3.sd)).fst.qty∧∃(i_6:TrI),i_6.inst=i.inst∧zB i_6.sd=zB !i_5∧i_6.q=min i_1.q (zN i_3.p i_3.B i_3.inst (zB i_3.sd)).fst.qty∧zE i_6.s=zE i_3.s∧(i_6.s.Rep i_6.p i_6.B∧BOk i_6.p i_6.B∧0≤i_6.inst∧i_6.inst<(↑i_6.B.length:Int)∧(-9223372036854775808)≤i_6.q∧i_6.q≤9223372036854775807)∧∀(o:MSt),o.Rep i_6.p (y8 i_6.B (yO i_6.p i_6.B i_6.inst (zB i_6.sd) i_6.q))→((List.map xZ i_1.steps).length+1)*(48:Nat)≤(70368744177664:Nat)∧∃(i':zLy),i'.q=IntKind.i64.wrap (i_1.q-min i_1.q (zN i_3.p i_3.B i_3.inst (zB i_3.sd)).fst.qty)∧zE i'.s=zE o∧List.map xZ i'.steps=List.map xZ i_1.steps++[[D.v (.int .i64 (zN i_3.p i_3.B i_3.inst (zB i_3.sd)).fst.price),D.v (.int .i64 (min i_1.q (zN i_3.p i_3.B i_3.inst (zB i_3.sd)).fst.qty)),D.v (.bool (zN i_3.p i_3.B i_3.inst (zB i_3.sd)).snd.fst),D.ro 6 (List.map yF (yO i_6.p i_6.B i_6.inst (zB i_6.sd) i_6.q))]]∧I i'∧μ i'<μ i_1∧AObj.fro 1 (iE i.s.p.months)=AObj.fro 1 (iE i.s.p.months)∧AObj.fro 1 (iE i.s.p.settle)=AObj.fro 1 (iE i.s.p.settle))))) (∃(o:MSt),i.r.left=i_1.q∧zE o=zE i_1.s∧List.map xZ i.r.steps=List.map xZ i_1.steps∧o.Rep i.p i.r.B)
@[reducible] def fF (i:RunI):Prop:=∃(o:MSt),i.r.left=i.q∧sb o.p.code=sb i.s.p.code∧o.p.tick=i.s.p.tick∧o.p.low=i.s.p.low∧o.p.high=i.s.p.high∧o.p.wide=i.s.p.wide∧o.p.rule=i.s.p.rule∧o.p.top=i.s.p.top∧o.p.least=i.s.p.least∧o.p.part=i.s.p.part∧AObj.objs 102 Book 6 zM o.books none=AObj.objs 102 Book 6 zM i.s.books none∧yB o.wh=yB i.s.wh∧AObj.fro 1 (iE o.p.months)=AObj.fro 1 (iE i.s.p.months)∧AObj.fro 1 (iE o.p.settle)=AObj.fro 1 (iE i.s.p.settle)∧List.map xZ i.r.steps=[]∧o.Rep i.p i.r.B
def z7l (i:RunI):Prop:=
 cnd (decide (i.inst≥0)) (cnd (decide (i.inst<(↑i.s.books.length:Int))) (cnd (zB i.sd==1) (cnd (decide (i.q≥1)) (cnd (!decide (i.q≤1000000)) (fF i) (zIy i)) (fF i)) (cnd (zB i.sd==2) (cnd (decide (i.q≥1)) (cnd (!decide (i.q≤1000000)) (fF i) (zIy i)) (fF i)) (fF i))) (fF i)) (fF i)
theorem yAy (hG:GOk Tryz.prog ([(90,nextC),(91,motherC),(92,mgoodC),(93,tradeC)])) (h:∀(i:RunI),runC.cnd i→z7l i):runC.ok Tryz.prog 56:=okw mixed hG 2 (fun _=>[]) (fun _=>yDq) [0] Tryz.func56 h
end Sx
