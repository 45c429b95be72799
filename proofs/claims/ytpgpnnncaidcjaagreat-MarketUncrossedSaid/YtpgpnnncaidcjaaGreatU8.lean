/- Texts of ours, one behind the other: a walk that the kernel reckons, and contracts of functions. No condition. -/
import Derived.Test.YtpgpnnncaidcjaaGreatU7
namespace Sx
set_option linter.unusedVariables false
set_option maxRecDepth 100000
open Go Cv Go.Proofs
def uY (a:ArL):=(List.map zDd (a.a.ents a.l))
def zMa (i:BoI):Prop:=
 ∃(a:ArL),a.n=i.r.queue∧AObj.adt Arena 3 zG a.a=AObj.adt Arena 3 zG i.b.a∧a.a.listOk a.n a.l∧∀(b:Unit),True→∃(c:Nat),(↑c:Int)=0∧List.map j9 (List.take c i.ords)=[]∧∃(d:Nat→Prop),∃(e:Nat→Nat),d c∧∀(f:Nat),d f→cnd (decide ((↑f:Int)<(↑(uY a).length:Int))) ((0≤(↑f:Int)∧(↑f:Int)<(↑(uY a).length:Int))∧∃(g:Int),∃(h:Int),∃(j:Int),∃(k:Bool),zF (uY a) (↑f:Int).toNat 0 4=some [D.v (.int .i64 g),D.v (.int .i64 h),D.v (.int .i64 j),D.v (.bool k)]∧((List.map j9 (List.take f i.ords)).length+1)*(40:Nat)≤(70368744177664:Nat)∧∃(l:Nat),(↑l:Int)=IntKind.i64.wrap ((↑f:Int)+1)∧List.map j9 (List.take l i.ords)=List.map j9 (List.take f i.ords)++[[D.v (.int .i64 h),D.v (.int .i64 i.s),D.v (.int .i64 i.r.price),D.v (.int .i64 j),D.v (.bool k)]]∧d l∧e l<e f∧AObj.adt Arena 3 zG a.a=AObj.adt Arena 3 zG a.a∧AObj.own 168 4 (uY a)=AObj.own 168 4 (uY a)∧Sx.AObj.cells [V.d (D.v (.int .i64 i.r.price)),V.d (D.v (.int .i64 i.r.queue))] 147=Sx.AObj.cells [V.d (D.v (.int .i64 i.r.price)),V.d (D.v (.int .i64 i.r.queue))] 147∧Sx.AObj.cells (hZ (jP 0 1 6) [V.nm 1 0,V.own 2,V.own 3,V.mp 4,zB i.b.top1,zB i.b.top2,V.own 5,yO i.b.has1,yO i.b.has2]) (144:TypeId)=Sx.AObj.cells (hZ (jP 0 1 6) [V.nm 1 0,V.own 2,V.own 3,V.mp 4,zB i.b.top1,zB i.b.top2,V.own 5,yO i.b.has1,yO i.b.has2]) (144:TypeId)∧AObj.own 147 2 (List.map zC i.b.buys)=AObj.own 147 2 (List.map zC i.b.buys)∧AObj.own 147 2 (List.map zC i.b.sells)=AObj.own 147 2 (List.map zC i.b.sells)∧Sx.AObj.map (atE i.b.at_)=Sx.AObj.map (atE i.b.at_)∧AObj.own 3 1 (iE i.b.spare)=AObj.own 3 1 (iE i.b.spare)) (∃(g:Unit),i.b.top1=i.b.top1∧i.b.top2=i.b.top2∧i.b.has1=i.b.has1∧i.b.has2=i.b.has2∧AObj.adt Arena 3 zG i.b.a=AObj.adt Arena 3 zG a.a∧List.map zC i.b.buys=List.map zC i.b.buys∧List.map zC i.b.sells=List.map zC i.b.sells∧atE i.b.at_=atE i.b.at_∧iE i.b.spare=iE i.b.spare∧List.map j9 i.ords=List.map j9 (List.take f i.ords)∧True)
theorem z4k (hG:GOk Tryz.prog ([(140,alistC)])) (h:∀(i:BoI),ordersC.cnd i→zMa i):ordersC.ok Tryz.prog 127:=okw mixed hG 0 (fun _=>[]) (fun i=>yDd i) [0] Tryz.func127 h
set_option linter.unusedSimpArgs false
open Go Cv Go.Proofs
theorem yPm {l:List Ent} {k:Nat} {e:Ent} (h:l[k]? =some e):zF (l.map zDd) k 0 4=some [D.v (.int .i64 e.slot),.v (.int .i64 e.id),.v (.int .i64 e.qty),.v (.bool e.top)]:=elA h (by simp[zDd]) rfl
theorem yBs (i:BoI) (h:ordersC.cnd i):zMa i:=by
 have h:i.b.a.listOk i.r.queue i.l:=h
 have hl:=h.len
 have hen:(i.b.a.ents i.l).length=i.l.length:=by simp[Arena.ents]
 have hol:i.ords.length=i.l.length:=by simp[BoI.ords,Arena.ents]
 unfold zMa uY
 refine⟨⟨i.b.a,i.r.queue,i.l⟩,rfl,rfl,h,fun _ _=> ?_⟩
 simp only[List.length_map]
 refine⟨0,rfl,rfl,fun j=>j≤i.l.length,fun j=>i.l.length-j,Nat.zero_le _,fun j hj=>zK (fun c=> ?_) (fun c=> ?_)⟩
 ·obtain⟨e,he⟩:=yA (l:=i.b.a.ents i.l) (i:=j) (by omega)
  have ho:i.ords[j]? =some ⟨e.id,i.s,i.r.price,e.qty,e.top⟩:=by rw[BoI.ords,List.getElem?_map,he];rfl
  refine⟨⟨by omega,by omega⟩,e.slot,e.id,e.qty,e.top,yPm he,by rw[List.length_take];omega,j+1,wjn (by omega),?_,by omega,by dsimp only;omega,by(repeat'(first|exact trivial|exact rfl|apply And.intro))⟩
  rw[List.take_add_one,ho];simp[j9]
 ·have hje:j=i.l.length:=by omega
  subst hje
  rw[List.take_of_length_le (l:=i.ords) (by omega)]
  exact kp
theorem zKt:ordersC.ok Tryz.prog 127:=z4k (gokc z5z gok0) yBs
open Go Go.RowKit Cv
theorem zRz {P:Program} {tS rt e sz by_:Nat} {z:Array Value} (hi:vU P tS=some (e,sz,by_,z)) {w:World} {g i c n k:Nat} {A:Option Addr} {cur src:List Value} {T:TypeId}
 (hg:w.heap[g]? =some (.cells cur.toArray T (0,0))) (hs:(Builtin.firstCells sz n (.slice A n k)).run P w= .ok src.toArray w) (hl:src.length=n*sz) (hfit:i+n≤c) (hroom:i*sz+n*sz≤cur.length) (hone:∀v∈src,v.oneC=true):
 uG P (Builtin.append_ #[tS,tS] rt #[.slice (some ⟨g,0,none⟩) i c,.slice A n k]) w (.slice (some ⟨g,0,none⟩) (i+n) c) (World.setB w g (.cells (spl cur (i*sz) src).toArray T (0,0))):=by
 obtain⟨inf,zv,q1,q2,rfl,rfl,q5,rfl⟩:=kZ hi
 have hst:=kJ (P:=P) src 0 (i*inf.size) cur w hg (by omega) hone
 simp only[Nat.add_zero]at hst
 have hln:∀w,(Builtin.lenOf (.slice A n k)).run P w= .ok n w:=fun w=>rfl
 unfold uG Builtin.append_
 simp only[List.getElem?_toArray,List.getElem?_cons_zero,List.getElem?_cons_succ,bind,pure,run_bind,Sem.bind,Sem.run,Cv.run_underlying q1,Cv.run_sizeOf q2,Bool.false_eq_true,if_false,hs,hln,hfit,if_true,vV,Nat.zero_add,hst,Bool.not_false]
theorem zVg {P:Program} {tS ty e sz by_:Nat} {z:Array Value} (hi:vU P tS=some (e,sz,by_,z)) (hz:z.size=sz) (h1:∀v∈z.toList,v.oneC=true) {w:World} {g o n c:Nat} {cur:List Value} {T:TypeId} (hn:0<n)
 (hg:w.heap[g]? =some (.cells cur.toArray T (0,0))) (hroom:o+n*sz≤cur.length):
 uG P (Builtin.clear_ #[tS] ty #[.slice (some ⟨g,o,none⟩) n c]) w (.tuple #[]) (World.setB w g (.cells (spl cur o (Builtin.zeroCells z n).toList).toArray T (0,0))):=by
 obtain⟨inf,zv,q1,q2,rfl,rfl,q5,rfl⟩:=kZ hi
 have hlz:(Builtin.zeroCells zv.cells n).toList.length=n*inf.size:=by rw[Array.length_toList,size_zeroCells,hz]
 have hst:=kJ (P:=P) (Builtin.zeroCells zv.cells n).toList 0 o cur w hg (by omega) (by
  intro v hv
  obtain⟨i,hi,rfl⟩:=List.getElem_of_mem hv
  simp only[Builtin.zeroCells,Array.getElem_toList,Array.getElem_map,Array.getElem_range]
  have hpos:0<zv.cells.size:=by
   rcases Nat.eq_zero_or_pos zv.cells.size with h0|h0
   ·rw[hlz,← hz,h0]at hi;omega
   ·exact h0
  have hlt:i % zv.cells.size<zv.cells.size:=Nat.mod_lt _ hpos
  rw[getElem!_pos zv.cells (i % zv.cells.size) hlt]
  exact h1 _ (by simp))
 simp only[Nat.add_zero]at hst
 have hzr:∀w,(zeroValue e).run P w= .ok zv w:=fun w=>zero_run (by unfold zero?;rw[q2];exact q5) w
 obtain⟨m,rfl⟩:∃m,n=m+1:=⟨n-1,by omega⟩
 unfold uG Builtin.clear_
 simp only[List.getElem?_toArray,List.getElem?_cons_zero,List.getElem?_cons_succ,bind,pure,run_bind,Sem.bind,Sem.run,Cv.run_underlying q1,hzr,hst]
def yIh (P:Program) (tS sz:Nat) (s:Option Addr) (sn sk:Nat) (i j:Int) (w:World) (R:Ending→World→Prop):Prop:=
yGd s sk i j (sn:Int) sz fun a1 na1 ka1=>
cnd ((i:Int)==j) (
R (.returned (.slice s sn sk)) w) (
DrewN w fun w2=>
slN s sn sk none (some i) sz fun a3 na3 ka3=>
slN s sn sk (some j) none sz fun a4 na4 ka4=>
∃(a5:Option Addr) (na5 ka5:Nat),∃w6:World,uG P (Builtin.append_ #[tS,tS] tS #[.slice a3 na3 ka3,.slice a4 na4 ka4]) w2 (.slice a5 na5 ka5) w6∧
slN a5 na5 ka5 (some (na5:Int)) (some (sn:Int)) sz fun a7 na7 ka7=>
∃w8:World,uG P (Builtin.clear_ #[tS] 0 #[.slice a7 na7 ka7]) w6 (.tuple #[]) w8∧
R (.returned (.slice a5 na5 ka5)) w8)
theorem yPi {P:Program} {tS e sz by_:Nat} {z:Array Value} (hi:vU P tS=some (e,sz,by_,z)) (hz:z.size=sz) (hz1:∀v∈z.toList,v.oneC=true)
 {k:Ko} {w:World} {L:List HP} {s:Option Addr} {sn sk i j:Nat} {xs:List Value} (H:Hp k w (slO e sz s sn sk xs::L)) (h1:∀u∈xs,u.oneC=true) (hij:i<j) (hj:j≤sn):
 yIh P tS sz s sn sk i j w fun en w'=>∃a kk,en= .returned (.slice a (sn-(j-i)) kk)∧Hp k w' (slO e sz a (sn-(j-i)) kk (xs.take (i*sz)++xs.drop (j*sz))::L):=by
 obtain⟨hxl,hnk⟩:=H.len
 rcases H.slcases with⟨_,e0,_⟩|⟨b,r,rfl,g1,g2,g3,H0⟩
 ·omega
 have hle:i*sz≤xs.length:=by rw[hxl];exact Nat.mul_le_mul_right _ (by omega)
 have hjle:j*sz≤xs.length:=by rw[hxl];exact Nat.mul_le_mul_right _ hj
 have hdl:(xs.drop (j*sz)).length=(sn-j)*sz:=by rw[List.length_drop,hxl,Nat.sub_mul]
 have hsum:i*sz+(sn-j)*sz=(sn-(j-i))*sz:=by rw[← Nat.add_mul];congr 1;omega
 have hsum2:i*sz+(sn-j)*sz+(j-i)*sz=sn*sz:=by rw[← Nat.add_mul,← Nat.add_mul];congr 1;omega
 have hsum3:j*sz+(sn-j)*sz=sn*sz:=by rw[← Nat.add_mul];congr 1;omega
 have hlen:(xs++r).length=xs.length+r.length:=List.length_append
 unfold yIh
 simp only[yGd,slN,Int.toNat_natCast]
 refine⟨⟨by omega,by omega,by omega,by omega⟩,Cv.cnd.mk (fun c=>absurd c (by simp;omega)) fun _=> ?_⟩
 rintro _ rfl
 have H1:=H0.drew
 have hsrc:(Builtin.firstCells sz (sn-j) (.slice (if sk=j then some ⟨b,0,none⟩else(some ⟨b,0,none⟩:Option Addr).map (·.add (j*sz))) (sn-j) (sk-j))).run P w.drew= .ok (xs.drop (j*sz)).toArray w.drew:=by
  by_cases h0:(sn-j)*sz=0
  ·have:xs.drop (j*sz)=[]:=List.eq_nil_of_length_eq_zero (by omega)
   rw[this]
   by_cases hk:sk=j
   ·rw[if_pos hk];unfold Builtin.firstCells;rw[h0];rfl
   ·rw[if_neg hk,Option.map_some,vV];unfold Builtin.firstCells;rw[h0];rfl
  ·have hk:sk≠j:=by rintro rfl;have:sn-sk=0:=by omega
                    rw[this]at h0;simp at h0
   rw[if_neg hk,Option.map_some,vV]
   unfold Builtin.firstCells
   rw[vZ H1.get (by rw[hlen];omega)]
   rw[Nat.zero_add,List.drop_append_of_le_length hjle,List.take_append_of_le_length (by omega),List.take_of_length_le (by omega)]
 refine⟨⟨by omega,by omega⟩,⟨by omega,by omega,hnk⟩,_,_,_,_,zRz (i:=i) (c:=sk) hi H1.get hsrc hdl (by omega) (by rw[hlen];omega) (fun v hv=>h1 v (List.mem_of_mem_drop hv)),⟨by omega,by omega,by omega⟩,?_⟩
 have H2:=H1.upd (.cells (spl (xs++r) (i*sz) (xs.drop (j*sz))).toArray e)
 have e1:i+(sn-j)=sn-(j-i):=by omega
 rw[if_neg (show sk≠i+(sn-j)by omega),Option.map_some,vV,Nat.zero_add,e1]
 have espl:spl (xs++r) (i*sz) (xs.drop (j*sz))=(xs.take (i*sz)++xs.drop (j*sz))++(xs++r).drop ((sn-(j-i))*sz):=by
  simp only[spl]
  rw[List.take_append_of_le_length hle,hdl,hsum]
 rw[espl]at H2
 have hA:(xs.take (i*sz)++xs.drop (j*sz)).length=(sn-(j-i))*sz:=by
  rw[List.length_append,List.length_take,hdl];omega
 have hB:((xs++r).drop ((sn-(j-i))*sz)).length=(j-i)*sz+r.length:=by
  rw[List.length_drop,hlen];omega
 rw[espl]
 have hn:sn-(sn-(j-i))=j-i:=by omega
 rw[hn]
 refine⟨_,zVg hi hz hz1 (by omega) H2.get (by rw[List.length_append,hA,hB];omega),_,_,rfl,?_⟩
 have H3:=H2.upd (.cells (spl (xs.take (i*sz)++xs.drop (j*sz)++(xs++r).drop ((sn-(j-i))*sz)) ((sn-(j-i))*sz) (Builtin.zeroCells z (j-i)).toList).toArray e)
 have es:=zNq (xs.take (i*sz)++xs.drop (j*sz)) ((xs++r).drop ((sn-(j-i))*sz)) (Builtin.zeroCells z (j-i)).toList
 rw[hA]at es
 rw[es]at H3
 rw[es]
 rw[List.append_assoc (xs.take (i*sz)++xs.drop (j*sz))]at H3 ⊢
 have hzl:(Builtin.zeroCells z (j-i)).toList.length=(j-i)*sz:=by rw[Array.length_toList,size_zeroCells,hz]
 refine H3.slmk hA ?_ (by omega)
 rw[List.length_append,hA,List.length_append,hzl,List.length_drop,hB,← g2,hlen,hxl]
 omega
structure yHa where
 els:List (List D)
 i:Nat
 j:Nat
def yFz (e sz:Nat):Con where
 ι:=yHa
 pat:=fun i=>[.own 0,.d (.v (.int .i64 i.i)),.d (.v (.int .i64 i.j))]
 pre:=fun i=>[.own e sz i.els]
 cnd:=fun i=>i.i<i.j∧i.j≤i.els.length
 alts:=fun i=>[{o:=Unit,res:=fun _=> .own 1,post:=fun _=>[.gone,.own e sz (i.els.take i.i++i.els.drop i.j)],rel:=fun _=>True}]
theorem delX_ok {P:Program} (hm:P.follows .mixedOrders=true) {tS e sz by_ fI:Nat} {z:Array Value} {fn:Func} {c:Code} (hf:P.funcs[fI]? =some fn) (hb:fn.body=some c) (hbd:vJ P fI=true) (hok:okC fn.ntmps c=true) (hfx:okF [] c=true) (hsz3:Nat.ble 3 fn.ntmps=true)
 (hi:vU P tS=some (e,sz,by_,z)) (hz:z.size=sz) (hz1:∀v∈z.toList,v.oneC=true)
 (heq:∀(s:Option Addr) (sn sk:Nat) (i j:Int) (w:World) (R:Ending→World→Prop),yIh P tS sz s sn sk i j w R=cwp P [] c (zNp P fn R) (vO [.slice s sn sk,.int .i64 i,.int .i64 j]) w):
 (yFz e sz).ok P fI:=by
 intro i hc k L E w ys R hv
 obtain⟨c1,c2⟩:i.i<i.j∧i.j≤i.els.length:=hc
 simp only[yFz,VRL,VR,DR]at hv
 obtain⟨y0,_,rfl,⟨l0,e0,_⟩,y1,_,rfl,⟨rfl,_⟩,y2,_,rfl,⟨rfl,_⟩,rfl⟩:=hv
 obtain⟨s,sk,xs,sub0,g1,hxs,hu,H⟩:=R.ownOpen (n:=0) (t:=e) (sz:=sz) (els:=i.els) rfl
 rw[e0]at g1;cases g1
 have H2:Hp k w (slO e sz s i.els.length sk xs::fz E.F::L):=H
 have hv:=yPi hi hz hz1 H2 hxs.one c1 c2
 have hcall:=zCh (args:=[.slice s i.els.length sk,.int .i64 i.i,.int .i64 i.j]) hm hf hb [] hok hfx hsz3 (heq s i.els.length sk i.i i.j w _) hv
 refine sG hbd (hcall.mono ?_)
 rintro en w' ⟨a,kk,rfl,H3⟩
 have hl:(i.els.take i.i++i.els.drop i.j).length=i.els.length-(i.j-i.i):=by
  rw[List.length_append,List.length_take,List.length_drop];omega
 have H4:Hp k w' (slO e sz a (i.els.take i.i++i.els.drop i.j).length kk (xs.take (i.i*sz)++xs.drop (i.j*sz))::(([]:List (Nat×AObj)).map (rHP E)++fz E.F::L)):=by
  rw[hl]
  exact H3
 obtain⟨E',r1,r2,r3⟩:=cC (nx:=1) R.nx (by
  rw[List.flatten_append,← bM i.i hu,← bR i.j hu]
  exact(hxs.take _).append (hxs.drop _)) (fun x hx=>by
   rcases List.mem_append.1 hx with hx|hx
   ·exact hu x (List.mem_of_mem_take hx)
   ·exact hu x (List.mem_of_mem_drop hx)) H4
 rw[hl]at r3
 refine⟨_,rfl,_,List.mem_singleton.2 rfl,(),trivial,E',r1,r3,⟨r2.nx,?_⟩⟩
 exact((@v9 k w' True _).2 ⟨trivial,r2.hp⟩).imp (B:=rHP E' (0,.gone)) fun x hx=> .inl ⟨rfl,hx.2⟩
open Go Cv Go.Proofs
def cW (k:Int):List (Int×Place)→List (Int×Place)
 |[]=>[]
 |(a,b)::l=>if k=a then l else(a,b)::cW k l
structure DrI where
 b:Book
 id:Int
 price:Int
 slot:Int
def Book.unhas (b:Book) (s id:Int):Book:=if b.hasF s=true∧b.topI s=id then(if s=1 then{b with has1:=false}else{b with has2:=false})else b
def Book.dropF (b:Book) (s id price:Int):Book:=
 if(b.a.qAt ((b.rungs s).getD (zW s (b.rungs s) price) ⟨0,0⟩).queue).count=0 then
  ({b.unhas s id with at_:=cW id b.at_,spare:=b.spare++[((b.rungs s).getD (zW s (b.rungs s) price) ⟨0,0⟩).queue]}:Book).setR s ((b.rungs s).take (zW s (b.rungs s) price)++(b.rungs s).drop (zW s (b.rungs s) price+1))
 else{b.unhas s id with at_:=cW id b.at_}
def yBq (b:Book):AObj:= .cells [.nm 1 0,.own 6,.own 7,.mp 4,zB b.top1,zB b.top2,.own 8,yO b.has1,yO b.has2] 144
@[reducible] def yFj (b:Book):List AObj:=[yBq b,zQ b 1,.gone,.gone,zQ b 4,.gone,zQ b 2,zQ b 3,zQ b 5]
@[reducible] def DrI.ok (i:DrI) (s:Int):Prop:=i.b.small∧zW s (i.b.rungs s) i.price<(i.b.rungs s).length
def z5g (s:Int):Con:=con1 DrI (fun i=>[.nm 0 0,zB i.id,.agg [zB s,zB i.price,zB i.slot]]) (fun i=>zCu i.b) (fun i=>i.ok s) (fun _=>zQh) (fun i=>yFj (i.b.dropF s i.id i.price))
def drop1C:Con:=z5g 1
def drop2C:Con:=z5g 2
structure DrJ where
 i:DrI
 s:Bool
def dropC:Con:=con1 DrJ (fun j=>[.nm 0 0,zB j.i.id,.agg [zB (zA j.s),zB j.i.price,zB j.i.slot]]) (fun j=>zCu j.i.b) (fun j=>j.i.ok (zA j.s)) (fun _=>zQh) (fun j=>yFj (j.i.b.dropF (zA j.s) j.i.id j.i.price))
def delRC:Con:=yFz 147 2
def yIm:zD:=⟨0,0,0,0,false⟩
def gE (L:List zD) (id:Int):zD:=(L.find? fun o=>decide (o.id=id)).getD yIm
def yL (L:List zD) (id q:Int):List zD:=L.filterMap fun o=>if o.id=id then(if o.qty=q then none else some {o with qty:=o.qty-q})else some o
def xS (L:List zD) (id q:Int):List zD×Int:=if kQ L id=false then(L,26)else if q<1∨(gE L id).qty<q then(L,24)else(yL L id q,0)
def atL (L:List zD) (s p:Int):List zD:=L.filter fun o=>decide (o.side=s) && decide (o.price=p)
def grp:List zD→List Lv
 |[]=>[]
 |o::l=>match grp l with
  |[]=>[⟨o.price,o.qty,1⟩]
  |v::vs=>if v.price=o.price then⟨v.price,o.qty+v.qty,v.count+1⟩::vs else⟨o.price,o.qty,1⟩::v::vs
def jR (L:List zD) (s:Int):List Lv:=grp (L.filter fun o=>decide (o.side=s))
def bestL (L:List zD) (s:Int):Lv×Bool:=match jR L s with
 |[]=>(⟨0,0,0⟩,false)
 |v::_=>(v,true)
structure BkL where
 b:Book
 L:List zD
structure FlI where
 b:Book
 L:List zD
 id:Int
 qty:Int
structure AtI where
 b:Book
 L:List zD
 s:Bool
 price:Int
def fillC:Con where
 ι:=FlI
 pat:=fun i=>[.nm 0 0,zB i.id,zB i.qty]
 pre:=fun i=>[yB i.b]
 cnd:=fun i=>i.b.Rep i.L
 alts:=fun i=>[{o:=Book,res:=fun _=>zB (xS i.L i.id i.qty).2,post:=fun b=>[yB b],rel:=fun b=>b.Rep (xS i.L i.id i.qty).1}]
def bfindC:Con:=con1 FlI (fun i=>[.nm 0 0,zB i.id]) (fun i=>[yB i.b]) (fun i=>i.b.Rep i.L) (fun i=> .tup [z1i (gE i.L i.id),yO (kQ i.L i.id)]) (fun i=>[yB i.b])
def yNu (s:Bool):Con:=con1 AtI (fun i=>[.nm 0 0,zB (zA s),zB i.price]) (fun i=>[yB i.b]) (fun i=>i.b.Rep i.L) (fun _=> .own 1) (fun i=>[yB i.b,.own 68 5 ((atL i.L (zA s) i.price).map j9)])
def at1C:Con:=yNu false
def at2C:Con:=yNu true
def atC:Con:=con1 AtI (fun i=>[.nm 0 0,zB (zA i.s),zB i.price]) (fun i=>[yB i.b]) (fun i=>i.b.Rep i.L) (fun _=> .own 1) (fun i=>[yB i.b,.own 68 5 ((atL i.L (zA i.s) i.price).map j9)])
open Go Cv Go.Proofs
def y7 (a:DrI):=(a.b.dropF (1:Int) a.id a.price)
def zAs (a:BkP) (b:DrI):Prop:=a.b.has2=b.b.has2∧AObj.adt Arena 3 zG a.b.a=zQ b.b 1∧List.map zC a.b.buys=List.map zC b.b.buys∧List.map zC a.b.sells=List.map zC b.b.sells∧atE a.b.at_=rR (Value.int IntKind.i64 b.id) (atE b.b.at_)∧iE a.b.spare=iE b.b.spare∧(qF a)∧∀(c:Unit),True→(uX a)∧∃(d:Int),zF (List.map zC a.b.buys) (xY a).toNat ((0:Nat)+(1:Nat)) 1=some [D.v (.int .i64 d)]∧∃(e:ArN),e.n=d∧AObj.adt Arena 3 zG e.a=AObj.adt Arena 3 zG a.b.a∧True∧∀(f:Unit),True→cnd ((e.a.qAt e.n).count==0) (((iE a.b.spare).length+1)*(8:Nat)≤(70368744177664:Nat)∧∃(g:yHa),(↑g.i:Int)=(xY a)∧(↑g.j:Int)=IntKind.i64.wrap ((xY a)+1)∧g.els=List.map zC a.b.buys∧(g.i<g.j∧g.j≤g.els.length)∧∀(h:Unit),True→(1:Int)=(1:Int)∧∃(j:Unit),(y7 b).top1=a.b.top1∧(y7 b).top2=a.b.top2∧(y7 b).has1=a.b.has1∧(y7 b).has2=a.b.has2∧AObj.adt Arena 3 zG (y7 b).a=AObj.adt Arena 3 zG e.a∧atE (y7 b).at_=atE a.b.at_∧List.map zC (y7 b).buys=List.take g.i g.els++List.drop g.j g.els∧List.map zC (y7 b).sells=List.map zC a.b.sells∧iE (y7 b).spare=iE a.b.spare++[[D.v (.int .i64 d)]]∧True) (∃(g:Unit),(y7 b).top1=a.b.top1∧(y7 b).top2=a.b.top2∧(y7 b).has1=a.b.has1∧(y7 b).has2=a.b.has2∧AObj.adt Arena 3 zG (y7 b).a=AObj.adt Arena 3 zG e.a∧atE (y7 b).at_=atE a.b.at_∧List.map zC (y7 b).buys=List.map zC a.b.buys∧List.map zC (y7 b).sells=List.map zC a.b.sells∧iE (y7 b).spare=iE a.b.spare∧True)
def zBi (a:DrI):Prop:=∃(b:BkP),(1:Int)=(1:Int)∧b.price=a.price∧b.b.top1=a.b.top1∧b.b.top2=a.b.top2∧b.b.has1=a.b.has1∧zAs b a
def zWe (i:DrI):Prop:=
 (∀(a:Value×List D),a∈atE i.b.at_→like (Value.int IntKind.i64 i.id) a.fst=true)∧cnd i.b.has1 (cnd (i.b.top1==i.id) (∃(a:BkP),(1:Int)=(1:Int)∧a.price=i.price∧a.b.top1=i.b.top1∧a.b.top2=i.b.top2∧a.b.has1=false∧zAs a i) (zBi i)) (zBi i)
theorem yEi (hG:GOk Tryz.prog ([(126,find1C),(107,acountC),(139,delRC)])) (h:∀(i:DrI),drop1C.cnd i→zWe i):drop1C.ok Tryz.prog 121:=okw mixed hG 0 (fun _=>[]) (fun _=>[]) [] Tryz.func121 h
def y8 (a:DrI):=(a.b.dropF (2:Int) a.id a.price)
def zAi (a:BkP) (b:DrI):Prop:=AObj.adt Arena 3 zG a.b.a=zQ b.b 1∧List.map zC a.b.buys=List.map zC b.b.buys∧List.map zC a.b.sells=List.map zC b.b.sells∧atE a.b.at_=rR (Value.int IntKind.i64 b.id) (atE b.b.at_)∧iE a.b.spare=iE b.b.spare∧(qF a)∧∀(c:Unit),True→(uO a)∧∃(d:Int),zF (List.map zC a.b.sells) (xV a).toNat ((0:Nat)+(1:Nat)) 1=some [D.v (.int .i64 d)]∧∃(e:ArN),e.n=d∧AObj.adt Arena 3 zG e.a=AObj.adt Arena 3 zG a.b.a∧True∧∀(f:Unit),True→cnd ((e.a.qAt e.n).count==0) (((iE a.b.spare).length+1)*(8:Nat)≤(70368744177664:Nat)∧∃(g:yHa),(↑g.i:Int)=(xV a)∧(↑g.j:Int)=IntKind.i64.wrap ((xV a)+1)∧g.els=List.map zC a.b.sells∧(g.i<g.j∧g.j≤g.els.length)∧∀(h:Unit),True→(2:Int)=(2:Int)∧∃(j:Unit),(y8 b).top1=a.b.top1∧(y8 b).top2=a.b.top2∧(y8 b).has1=a.b.has1∧(y8 b).has2=a.b.has2∧AObj.adt Arena 3 zG (y8 b).a=AObj.adt Arena 3 zG e.a∧atE (y8 b).at_=atE a.b.at_∧List.map zC (y8 b).buys=List.map zC a.b.buys∧List.map zC (y8 b).sells=List.take g.i g.els++List.drop g.j g.els∧iE (y8 b).spare=iE a.b.spare++[[D.v (.int .i64 d)]]∧True) (∃(g:Unit),(y8 b).top1=a.b.top1∧(y8 b).top2=a.b.top2∧(y8 b).has1=a.b.has1∧(y8 b).has2=a.b.has2∧AObj.adt Arena 3 zG (y8 b).a=AObj.adt Arena 3 zG e.a∧atE (y8 b).at_=atE a.b.at_∧List.map zC (y8 b).buys=List.map zC a.b.buys∧List.map zC (y8 b).sells=List.map zC a.b.sells∧iE (y8 b).spare=iE a.b.spare∧True)
def zBz (a:DrI):Prop:=∃(b:BkP),(2:Int)=(2:Int)∧b.price=a.price∧b.b.top1=a.b.top1∧b.b.top2=a.b.top2∧b.b.has1=a.b.has1∧b.b.has2=a.b.has2∧zAi b a
def zUy (i:DrI):Prop:=
 (∀(a:Value×List D),a∈atE i.b.at_→like (Value.int IntKind.i64 i.id) a.fst=true)∧cnd i.b.has2 (cnd (i.b.top2==i.id) (∃(a:BkP),(2:Int)=(2:Int)∧a.price=i.price∧a.b.top1=i.b.top1∧a.b.top2=i.b.top2∧a.b.has1=i.b.has1∧a.b.has2=false∧zAi a i) (zBz i)) (zBz i)
theorem yEd (hG:GOk Tryz.prog ([(126,find2C),(107,acountC),(139,delRC)])) (h:∀(i:DrI),drop2C.cnd i→zUy i):drop2C.ok Tryz.prog 121:=okw mixed hG 0 (fun _=>[]) (fun _=>[]) [] Tryz.func121 h
def tT (a:FlI):Prop:=List.map zC a.b.buys=List.map zC a.b.buys∧List.map zC a.b.sells=List.map zC a.b.sells∧atE a.b.at_=atE a.b.at_∧iE a.b.spare=iE a.b.spare∧True
def zBl (a:Int) (b:FlI) (c:Int) (d:Int):Prop:=∃(e:ArN),e.n=a∧AObj.adt Arena 3 zG e.a=AObj.adt Arena 3 zG b.b.a∧e.a.slots.length≤1000000∧∀(f:Unit),True→∃(g:Unit),(gE b.L b.id).id=b.id∧(gE b.L b.id).side=c∧(gE b.L b.id).price=d∧(gE b.L b.id).qty=(e.a.getF e.n).fst.qty∧(gE b.L b.id).top=(e.a.getF e.n).fst.top∧kQ b.L b.id=true∧b.b.top1=b.b.top1∧b.b.top2=b.b.top2∧b.b.has1=b.b.has1∧b.b.has2=b.b.has2∧AObj.adt Arena 3 zG b.b.a=AObj.adt Arena 3 zG e.a∧tT b
def aG (a:FlI) (b:Int) (c:Int) (d:Int) (e:Bool):Prop:=vK (Value.int IntKind.i64 a.id) (atE a.b.at_)=some [D.v (.int .i64 b),D.v (.int .i64 c),D.v (.int .i64 d)]∧e=true∨vK (Value.int IntKind.i64 a.id) (atE a.b.at_)=none∧[D.v (.int .i64 b),D.v (.int .i64 c),D.v (.int .i64 d)]=[D.v (.int .i64 0),D.v (.int .i64 0),D.v (.int .i64 0)]∧e=false
def zTr (i:FlI):Prop:=
 (∀(a:Value×List D),a∈atE i.b.at_→like (Value.int IntKind.i64 i.id) a.fst=true)∧∃(a:Bool),∃(b:Int),∃(c:Int),∃(d:Int),(aG i b c d a)∧cnd (!a) (∃(e:Unit),(gE i.L i.id).id=0∧(gE i.L i.id).side=0∧(gE i.L i.id).price=0∧(gE i.L i.id).qty=0∧(gE i.L i.id).top=false∧kQ i.L i.id=false∧i.b.top1=i.b.top1∧i.b.top2=i.b.top2∧i.b.has1=i.b.has1∧i.b.has2=i.b.has2∧AObj.adt Arena 3 zG i.b.a=AObj.adt Arena 3 zG i.b.a∧tT i) ((zBl d i b c)∧d=d∧True∧zBl d i b c)
theorem yAe (hG:GOk Tryz.prog ([(99,agetC)])) (h:∀(i:FlI),bfindC.cnd i→zTr i):bfindC.ok Tryz.prog 75:=okw mixed hG 0 (fun _=>[]) (fun _=>[]) [0] Tryz.func75 h
def rC (a:Book) (b:FlI):Prop:=List.map zC a.buys=List.map zC b.b.buys∧List.map zC a.sells=List.map zC b.b.sells∧atE a.at_=atE b.b.at_∧iE a.spare=iE b.b.spare∧a.Rep (xS b.L b.id b.qty).fst
def wG (a:DrJ):=(a.i.b.dropF (zA a.s) a.i.id a.i.price)
def zHt (a:FlI) (b:Int) (c:Int) (d:Int) (e:ArN):Prop:=∃(f:DrJ),f.i.id=a.id∧zA f.s=b∧f.i.price=c∧f.i.slot=d∧f.i.b.top1=a.b.top1∧f.i.b.top2=a.b.top2∧f.i.b.has1=a.b.has1∧f.i.b.has2=a.b.has2∧AObj.adt Arena 3 zG f.i.b.a=AObj.adt Arena 3 zG e.a∧List.map zC f.i.b.buys=List.map zC a.b.buys∧List.map zC f.i.b.sells=List.map zC a.b.sells∧atE f.i.b.at_=atE a.b.at_∧iE f.i.b.spare=iE a.b.spare∧(((f.i.b.a.slots.length≤1000000∧f.i.b.a.queues.length≤1000000)∧f.i.b.buys.length≤1000000∧f.i.b.sells.length≤1000000∧f.i.b.spare.length≤1000000)∧zW (zA f.s) (f.i.b.rungs (zA f.s)) f.i.price<(f.i.b.rungs (zA f.s)).length)∧∀(g:Unit),True→∃(h:Book),(xS a.L a.id a.qty).snd=0∧h.top1=(wG f).top1∧h.top2=(wG f).top2∧h.has1=(wG f).has1∧h.has2=(wG f).has2∧AObj.adt Arena 3 zG h.a=AObj.adt Arena 3 zG (wG f).a∧List.map zC h.buys=List.map zC (wG f).buys∧List.map zC h.sells=List.map zC (wG f).sells∧atE h.at_=atE (wG f).at_∧iE h.spare=iE (wG f).spare∧h.Rep (xS a.L a.id a.qty).fst
def zMw (a:Int) (b:TkI) (c:FlI) (d:Int) (e:Int):Prop:=∃(f:ArN),f.n=a∧AObj.adt Arena 3 zG f.a=AObj.adt Arena 3 zG (b.a.takeF b.n b.qty).fst∧f.a.slots.length≤1000000∧∀(g:Unit),True→cnd (!(f.a.getF f.n).snd) (zHt c d e a f) (cnd ((f.a.getF f.n).fst.id !=c.id) (zHt c d e a f) (∃(h:Book),(xS c.L c.id c.qty).snd=0∧h.top1=c.b.top1∧h.top2=c.b.top2∧h.has1=c.b.has1∧h.has2=c.b.has2∧AObj.adt Arena 3 zG h.a=AObj.adt Arena 3 zG f.a∧rC h c))
def z5e (i:FlI):Prop:=
 (∀(a:Value×List D),a∈atE i.b.at_→like (Value.int IntKind.i64 i.id) a.fst=true)∧∃(a:Bool),∃(b:Int),∃(c:Int),∃(d:Int),(aG i b c d a)∧cnd (!a) (∃(e:Book),(xS i.L i.id i.qty).snd=26∧e.top1=i.b.top1∧e.top2=i.b.top2∧e.has1=i.b.has1∧e.has2=i.b.has2∧AObj.adt Arena 3 zG e.a=AObj.adt Arena 3 zG i.b.a∧rC e i) (∃(e:TkI),e.n=d∧e.qty=i.qty∧AObj.adt Arena 3 zG e.a=AObj.adt Arena 3 zG i.b.a∧(e.a.slots.length≤1000000∧∀(k:Nat) (s:Slot),e.a.slots[k]?=some s→s.used=true→(0≤s.queue∧s.queue<(↑e.a.queues.length:Int))∧s.qty≤1000000∧(s.ahead=(-1)∨0≤s.ahead∧s.ahead<(↑e.a.slots.length:Int)∧s.ahead≠(↑k:Int))∧(s.back=(-1)∨0≤s.back∧s.back<(↑e.a.slots.length:Int)∧s.back≠(↑k:Int)))∧∀(f:Unit),True→cnd ((e.a.takeF e.n e.qty).snd !=0) (∃(g:Book),(xS i.L i.id i.qty).snd=(e.a.takeF e.n e.qty).snd∧g.top1=i.b.top1∧g.top2=i.b.top2∧g.has1=i.b.has1∧g.has2=i.b.has2∧AObj.adt Arena 3 zG g.a=AObj.adt Arena 3 zG (e.a.takeF e.n e.qty).fst∧rC g i) ((zMw d e i b c)∧d=d∧True∧zMw d e i b c))
theorem yHz (hG:GOk Tryz.prog ([(120,atakeC),(99,agetC),(121,dropC)])) (h:∀(i:FlI),fillC.cnd i→z5e i):fillC.ok Tryz.prog 100:=okw mixed hG 0 (fun _=>[]) (fun _=>[]) [0] Tryz.func100 h
def yGa (i:AtI):Prop:=
 ∃(a:Int),a=zA false∧True∧∀(b:Unit),True→cnd (!(vB a)) (∃(c:Unit),i.b.top1=i.b.top1∧i.b.top2=i.b.top2∧i.b.has1=i.b.has1∧i.b.has2=i.b.has2∧AObj.adt Arena 3 zG i.b.a=AObj.adt Arena 3 zG i.b.a∧List.map zC i.b.buys=List.map zC i.b.buys∧List.map zC i.b.sells=List.map zC i.b.sells∧atE i.b.at_=atE i.b.at_∧iE i.b.spare=iE i.b.spare∧List.map j9 (atL i.L (zA false) i.price)=[]∧True) (∃(c:BkP),1=zA false∧c.price=i.price∧c.b.top1=i.b.top1∧c.b.top2=i.b.top2∧c.b.has1=i.b.has1∧c.b.has2=i.b.has2∧AObj.adt Arena 3 zG c.b.a=AObj.adt Arena 3 zG i.b.a∧List.map zC c.b.buys=List.map zC i.b.buys∧List.map zC c.b.sells=List.map zC i.b.sells∧atE c.b.at_=atE i.b.at_∧iE c.b.spare=iE i.b.spare∧(qF c)∧∀(d:Unit),True→cnd (!kK 1 (c.b.rungs 1) c.price) (∃(e:Unit),i.b.top1=c.b.top1∧i.b.top2=c.b.top2∧i.b.has1=c.b.has1∧i.b.has2=c.b.has2∧AObj.adt Arena 3 zG i.b.a=AObj.adt Arena 3 zG c.b.a∧List.map zC i.b.buys=List.map zC c.b.buys∧List.map zC i.b.sells=List.map zC c.b.sells∧atE i.b.at_=atE c.b.at_∧iE i.b.spare=iE c.b.spare∧List.map j9 (atL i.L (zA false) i.price)=[]∧True) ((uX c)∧∃(e:Int),∃(f:Int),zF (List.map zC c.b.buys) (xY c).toNat 0 2=some [D.v (.int .i64 e),D.v (.int .i64 f)]∧∃(g:BoI),g.s=zA false∧g.r.price=e∧g.r.queue=f∧g.b.top1=c.b.top1∧g.b.top2=c.b.top2∧g.b.has1=c.b.has1∧g.b.has2=c.b.has2∧AObj.adt Arena 3 zG g.b.a=AObj.adt Arena 3 zG c.b.a∧List.map zC g.b.buys=List.map zC c.b.buys∧List.map zC g.b.sells=List.map zC c.b.sells∧atE g.b.at_=atE c.b.at_∧iE g.b.spare=iE c.b.spare∧g.b.a.listOk g.r.queue g.l∧∀(h:Unit),True→∃(j:Unit),yB i.b=yB g.b∧List.map j9 (atL i.L (zA false) i.price)=List.map j9 g.ords∧True))
theorem yNy (hG:GOk Tryz.prog ([(80,bisC),(126,find1C),(127,ordersC)])) (h:∀(i:AtI),at1C.cnd i→yGa i):at1C.ok Tryz.prog 112:=okw mixed hG 0 (fun _=>[]) (fun _=>[]) [0] Tryz.func112 h
def yJt (i:AtI):Prop:=
 ∃(a:Int),a=zA true∧True∧∀(b:Unit),True→cnd (!(vB a)) (∃(c:Unit),i.b.top1=i.b.top1∧i.b.top2=i.b.top2∧i.b.has1=i.b.has1∧i.b.has2=i.b.has2∧AObj.adt Arena 3 zG i.b.a=AObj.adt Arena 3 zG i.b.a∧List.map zC i.b.buys=List.map zC i.b.buys∧List.map zC i.b.sells=List.map zC i.b.sells∧atE i.b.at_=atE i.b.at_∧iE i.b.spare=iE i.b.spare∧List.map j9 (atL i.L (zA true) i.price)=[]∧True) (∃(c:BkP),2=zA true∧c.price=i.price∧c.b.top1=i.b.top1∧c.b.top2=i.b.top2∧c.b.has1=i.b.has1∧c.b.has2=i.b.has2∧AObj.adt Arena 3 zG c.b.a=AObj.adt Arena 3 zG i.b.a∧List.map zC c.b.buys=List.map zC i.b.buys∧List.map zC c.b.sells=List.map zC i.b.sells∧atE c.b.at_=atE i.b.at_∧iE c.b.spare=iE i.b.spare∧(qF c)∧∀(d:Unit),True→cnd (!kK 2 (c.b.rungs 2) c.price) (∃(e:Unit),i.b.top1=c.b.top1∧i.b.top2=c.b.top2∧i.b.has1=c.b.has1∧i.b.has2=c.b.has2∧AObj.adt Arena 3 zG i.b.a=AObj.adt Arena 3 zG c.b.a∧List.map zC i.b.buys=List.map zC c.b.buys∧List.map zC i.b.sells=List.map zC c.b.sells∧atE i.b.at_=atE c.b.at_∧iE i.b.spare=iE c.b.spare∧List.map j9 (atL i.L (zA true) i.price)=[]∧True) ((uO c)∧∃(e:Int),∃(f:Int),zF (List.map zC c.b.sells) (xV c).toNat 0 2=some [D.v (.int .i64 e),D.v (.int .i64 f)]∧∃(g:BoI),g.s=zA true∧g.r.price=e∧g.r.queue=f∧g.b.top1=c.b.top1∧g.b.top2=c.b.top2∧g.b.has1=c.b.has1∧g.b.has2=c.b.has2∧AObj.adt Arena 3 zG g.b.a=AObj.adt Arena 3 zG c.b.a∧List.map zC g.b.buys=List.map zC c.b.buys∧List.map zC g.b.sells=List.map zC c.b.sells∧atE g.b.at_=atE c.b.at_∧iE g.b.spare=iE c.b.spare∧g.b.a.listOk g.r.queue g.l∧∀(h:Unit),True→∃(j:Unit),yB i.b=yB g.b∧List.map j9 (atL i.L (zA true) i.price)=List.map j9 g.ords∧True))
theorem yNt (hG:GOk Tryz.prog ([(80,bisC),(126,find2C),(127,ordersC)])) (h:∀(i:AtI),at2C.cnd i→yJt i):at2C.ok Tryz.prog 112:=okw mixed hG 0 (fun _=>[]) (fun _=>[]) [0] Tryz.func112 h
open Go Cv Go.Proofs
theorem uB {L:List zD} (h:(L.map (·.id)).Nodup) {o:zD} (ho:o∈L):gE L o.id=o:=by
 induction L with
 |nil=>cases ho
 |cons x L ih=>
  rw[List.map_cons,List.nodup_cons]at h
  rw[gE,List.find?_cons]
  rcases List.mem_cons.1 ho with rfl|ho
  ·rw[decide_eq_true rfl];rfl
  ·have:x.id≠o.id:=fun e=>h.1 (e▸List.mem_map_of_mem (f:=(·.id)) ho)
   rw[decide_eq_false this]
   exact ih h.2 ho
theorem wS {α β:Type} {f g:α→Option β}:∀{l:List α},(∀x∈l,f x=g x)→l.filterMap f=l.filterMap g
 |[],_=>rfl
 |x::l,h=>by rw[List.filterMap_cons,List.filterMap_cons,h x List.mem_cons_self,wS fun y hy=>h y (List.mem_cons_of_mem _ hy)]
theorem yKr {L:List zD} {id:Int} (h:kQ L id=false):gE L id=yIm:=by
 rw[gE]
 have:L.find? (fun o=>decide (o.id=id))=none:=by
  rw[List.find?_eq_none]
  intro o ho
  rw[kQ,List.any_eq_false]at h
  exact h o ho
 rw[this];rfl
structure Told (b:Book) (Q:List (List Nat)) (id:Int) (s:Int) (r:xL) (k:Nat):Prop where
 hs:s=1∨s=2
 hr:r∈b.rungs s
 hk:k∈xB Q r
 e:pget b.at_ id=some ⟨s,r.price,k⟩
 ident:(b.a.slotAt k).id=id
 get:gE (b.flat Q) id=wA b.a s r.price k
 has:kQ (b.flat Q) id=true
theorem yCb {b:Book} {Q:List (List Nat)} {s:Int} (hs:s=1∨s=2) {r:xL} (hr:r∈b.rungs s) {k:Nat} (hk:k∈xB Q r):wA b.a s r.price k∈b.flat Q:=
 flat_mem hs (List.mem_flatMap.2 ⟨r,hr,List.mem_map_of_mem hk⟩)
theorem Book.Core.told {b:Book} {Q:List (List Nat)} (c:b.Core Q (-1)) (id:Int):(pget b.at_ id=none∧kQ (b.flat Q) id=false)∨∃s r k,Told b Q id s r k:=by
 cases hg:pget b.at_ id with
 |none=>
  have:=zCc hg
  rw[c.keysP.mem_iff,← hasId_iff]at this
  exact .inl ⟨rfl,by simpa using this⟩
 |some x=>
  obtain⟨k,r,hs,hr,hk,hx,hid⟩:=c.plcI (nV hg)
  have hm:=yCb hs hr hk
  have hget:=uB c.ids hm
  have e:(wA b.a x.side r.price k).id=id:=hid
  rw[e]at hget
  exact .inr ⟨x.side,r,k,hs,hr,hk,by rw[hg];exact congrArg some hx,hid,hget,hasId_iff.2 (by rw[← e];exact List.mem_map_of_mem hm)⟩
theorem Told.only {b:Book} {Q:List (List Nat)} (c:b.Core Q (-1)) {id s:Int} {r:xL} {k:Nat} (h:Told b Q id s r k) {s':Int} (hs':s'=1∨s'=2) {r':xL} (hr':r'∈b.rungs s') {j:Nat} (hj:j∈xB Q r'):(b.a.slotAt j).id=id↔j=k:=by
 constructor
 ·intro e
  have h1:=c.plc hs' hr' hj
  have h2:=c.plc h.hs h.hr h.hk
  rw[e]at h1
  rw[h.ident]at h2
  have:=congrArg Place.slot (lL c.keys h1 h2)
  dsimp only at this
  omega
 ·rintro rfl;exact h.ident
theorem Book.Core.less {b:Book} {Q:List (List Nat)} (c:b.Core Q (-1)) (ht:b.Tops (b.flat Q)) {id s:Int} {r:xL} {k:Nat} (h:Told b Q id s r k) {q:Int} (hq:1≤q∧q<(b.a.slotAt k).qty):
 (b.a.takeF k q).2=0∧({b with a:=(b.a.takeF k q).1}:Book).Rep (yL (b.flat Q) id q)∧(b.a.takeF k q).1.slots.length=250∧(b.a.takeF k q).1.getF k=((((b.a.takeF k q).1.slotAt k)).ent,true)∧((b.a.takeF k q).1.slotAt k).id=id:=by
 obtain⟨t1,t2,t3⟩:=c.wf.take (c.get h.hs h.hr) h.hk (q:=q) ⟨hq.1,by omega⟩
 rw[if_neg (by omega)]at t3
 obtain⟨w,t4,t5⟩:=t3
 have hent:∀j,((b.a.takeF k q).1.slotAt j).ent=if j=k then{(b.a.slotAt k).ent with qty:=(b.a.slotAt k).qty-q}else(b.a.slotAt j).ent:=by
  intro j
  split
  ·rename_i e;rw[e,t4];rfl
  ·rename_i e;exact(t2 j e).1
 have hid:∀j,((b.a.takeF k q).1.slotAt j).id=(b.a.slotAt j).id:=by
  intro j
  have:=congrArg Ent.id (hent j)
  split at this
  ·rename_i e;rw[e]at this ⊢;exact this
  ·exact this
 have hflat:({b with a:=(b.a.takeF k q).1}:Book).flat Q=yL (b.flat Q) id q:=by
  have side:∀s',s'=1∨s'=2→({b with a:=(b.a.takeF k q).1}:Book).sideL Q s'=yL (b.sideL Q s') id q:=by
   intro s' hs'
   rw[yL,Book.sideL,Book.sideL,List.filterMap_flatMap]
   refine xD fun r' hr'=> ?_
   rw[Book.rOrds,Book.rOrds,List.filterMap_map]
   have:(xB Q r').filterMap (fun j=>some (wA (b.a.takeF k q).1 s' r'.price j))=(xB Q r').map (wA (b.a.takeF k q).1 s' r'.price):=by rw[← List.filterMap_eq_map];rfl
   refine this.symm.trans (wS fun j hj=> ?_)
   simp only[Function.comp,wA,z6f,hent]
   have hon:=h.only c hs' hr' hj
   by_cases e:j=k
   ·subst e
    rw[if_pos rfl]
    refine((if_pos (show(b.a.slotAt j).ent.id=id from h.ident)).trans (if_neg fun e=> ?_)).symm
    have e:(b.a.slotAt j).qty=q:=e
    omega
   ·rw[if_neg e];exact(if_neg (fun e2=>e (hon.1 e2))).symm
  rw[Book.flat,side 1 (.inl rfl),side 2 (.inr rfl),Book.flat,yL,yL,yL,List.filterMap_append]
 have hu:(b.a.takeF k q).1.usedAt k=true:=by
  obtain⟨hk2,⟨_,_,h2⟩,h3⟩:=w.toWf0.mem (c.get h.hs h.hr) h.hk
  have hlt:=w.len
  simp only[Arena.usedAt,Bool.and_eq_true,decide_eq_true_eq,Int.toNat_natCast]
  exact⟨by omega,by omega,h2.used⟩
 refine⟨t1,⟨Q,c.flag w hid,⟨fun o ho=> ?_,fun s' hs' hh=> ?_⟩,hflat.symm⟩,w.len,by rw[Arena.getF,if_pos hu,Int.toNat_natCast],by rw[hid,h.ident]⟩
 ·obtain⟨o',ho',e⟩:=List.mem_filterMap.1 ho
  have:=ht.fl o' ho'
  split at e
  ·split at e
   ·cases e
   ·cases e;exact this
  ·cases e;exact this
 ·obtain⟨o,ho,o1,o2⟩:=ht.th s' hs' hh
  by_cases e:o.id=id
  ·refine⟨{o with qty:=o.qty-q},List.mem_filterMap.2 ⟨o,ho,?_⟩,o1,o2⟩
   have hg:=uB c.ids ho
   rw[e,h.get]at hg
   rw[if_pos e,if_neg (fun e2=>by
    rw[← hg]at e2
    have:(b.a.slotAt k).qty=q:=e2
    omega)]
  ·exact⟨o,List.mem_filterMap.2 ⟨o,ho,if_neg e⟩,o1,o2⟩
theorem zXj:∀{l:List (Int×Place)} {k:Int},(l.map (·.1)).Nodup→cW k l=l.filter fun x=> !decide (x.1=k)
 |[],k,_=>rfl
 |(a,b)::l,k,h=>by
  rw[List.map_cons,List.nodup_cons]at h
  rw[cW]
  by_cases e:k=a
  ·subst e
   rw[if_pos rfl,List.filter_cons_of_neg (by simp)]
   symm
   rw[List.filter_eq_self]
   intro x hx
   have:x.1≠k:=fun e=>h.1 (e▸List.mem_map_of_mem (f:=(·.1)) hx)
   simp[this]
  ·rw[if_neg e,List.filter_cons_of_pos (by simp[Ne.symm e]),zXj h.2]
theorem eC {l:List Nat} (h:l.Nodup) (k:Nat):l.erase k=l.filter fun j=> !decide (j=k):=by
 rw[h.erase_eq_filter]
 refine List.filter_congr fun j _=> ?_
 simp[bne,BEq.beq]
theorem z7l {s:Int} {l:List xL} (hs:l.Pairwise fun r r'=>btr s r.price r'.price=true) {R1 R2:List xL} {r:xL} (hl:l=R1++r::R2):zW s l r.price=R1.length:=by
 subst hl
 rw[List.pairwise_append]at hs
 refine bY (by simp) (fun k hk x hx=> ?_) (fun x hx=> ?_)
 ·rw[List.getElem?_append_left hk]at hx
  exact hs.2.2 x (List.mem_of_getElem? hx) r List.mem_cons_self
 ·rw[List.getElem?_append_right (Nat.le_refl _),Nat.sub_self]at hx
  cases hx
  exact mB _ _
theorem z8u (b:Book) (id:Int) {s:Int} (hs:s=1∨s=2):(b.unhas s id).a=b.a∧(b.unhas s id).buys=b.buys∧(b.unhas s id).sells=b.sells∧(b.unhas s id).spare=b.spare∧∀s',s'=1∨s'=2→(b.unhas s id).topI s'=b.topI s'∧(b.unhas s id).hasF s'=if s'=s∧b.topI s=id then false else b.hasF s':=by
 rw[Book.unhas]
 by_cases hc:b.hasF s=true∧b.topI s=id
 ·rw[if_pos hc]
  rcases hs with rfl|rfl
  ·exact⟨rfl,rfl,rfl,rfl,fun s' h=>by rcases h with rfl|rfl;exact⟨rfl,(if_pos ⟨rfl,hc.2⟩).symm⟩;exact⟨rfl,(if_neg (fun e=>absurd e.1 (by decide))).symm⟩⟩
  ·exact⟨rfl,rfl,rfl,rfl,fun s' h=>by rcases h with rfl|rfl;exact⟨rfl,(if_neg (fun e=>absurd e.1 (by decide))).symm⟩;exact⟨rfl,(if_pos ⟨rfl,hc.2⟩).symm⟩⟩
 ·rw[if_neg hc]
  refine⟨rfl,rfl,rfl,rfl,fun s' h=>⟨rfl,?_⟩⟩
  split
  ·rename_i e
   rw[e.1]
   cases hh:b.hasF s with
   |false=>rfl
   |true=>exact absurd ⟨hh,e.2⟩ hc
  ·rfl
theorem Book.Core.close {b:Book} {Q:List (List Nat)} {s:Int} (hs:s=1∨s=2) {r:xL} {R1 R2:List xL} (hr:b.rungs s=R1++r::R2) (c:b.Core Q r.queue) (he:xB Q r=[]) {b':Book} (hb:b'=({b with spare:=b.spare++[r.queue]}:Book).setR s (R1++R2)):
 b'.Core Q (-1)∧b'.flat Q=b.flat Q:=by
 obtain⟨g1,g2⟩:=zFv ({b with spare:=b.spare++[r.queue]}:Book) hs (R1++R2)
 rw[← hb]at g1 g2
 have ha:b'.a=b.a:=by rw[hb];rcases hs with rfl|rfl<;>rfl
 have hat:b'.at_=b.at_:=by rw[hb];rcases hs with rfl|rfl<;>rfl
 have hsp:b'.spare=b.spare++[r.queue]:=by rw[hb];rcases hs with rfl|rfl<;>rfl
 have hqs:b'.qs.Perm b.qs:=by
  rw[hb]
  rcases hs with rfl|rfl
  ·have hr:b.buys=R1++r::R2:=hr
   show((R1++R2).map (·.queue)++b.sells.map (·.queue)++(b.spare++[r.queue])).Perm (b.buys.map (·.queue)++b.sells.map (·.queue)++b.spare)
   rw[hr,← List.append_assoc]
   refine(List.perm_append_singleton _ _).trans ?_
   simp only[List.map_append,List.map_cons,List.append_assoc,List.cons_append]
   exact List.perm_middle.symm
  ·have hr:b.sells=R1++r::R2:=hr
   show(b.buys.map (·.queue)++(R1++R2).map (·.queue)++(b.spare++[r.queue])).Perm (b.buys.map (·.queue)++b.sells.map (·.queue)++b.spare)
   rw[hr,← List.append_assoc]
   refine(List.perm_append_singleton _ _).trans ?_
   simp only[List.map_append,List.map_cons,List.append_assoc,List.cons_append]
   refine .trans ?_ (List.Perm.append_left _ List.perm_middle.symm)
   exact List.perm_middle.symm
 have hside:∀s',s'=1∨s'=2→b'.sideL Q s'=b.sideL Q s':=by
  intro s' hs'
  have ho:∀x,b'.rOrds Q s' x=b.rOrds Q s' x:=fun x=>by rw[Book.rOrds,Book.rOrds,ha]
  rw[Book.sideL,Book.sideL]
  by_cases e:s'=s
  ·subst e
   rw[g1,hr,List.flatMap_append,List.flatMap_append,List.flatMap_cons,xD (fun x _=>ho x),xD (l:=R2) (fun x _=>ho x)]
   rw[show b.rOrds Q s' r=[]by rw[Book.rOrds,he];rfl,List.nil_append]
  ·rw[g2 s' e hs'];exact xD fun x _=>ho x
 have hplc:∀s',s'=1∨s'=2→b'.plcs Q s'=b.plcs Q s':=by
  intro s' hs'
  rw[Book.plcs,Book.plcs,ha]
  by_cases e:s'=s
  ·subst e
   rw[g1,hr,List.flatMap_append,List.flatMap_append,List.flatMap_cons,he,List.map_nil,List.nil_append]
  ·rw[g2 s' e hs'];rfl
 have hflat:b'.flat Q=b.flat Q:=by rw[Book.flat,Book.flat,hside 1 (.inl rfl),hside 2 (.inr rfl)]
 have hnd:=hqs.nodup_iff.2 c.nd
 have hmid:r.queue∉(R1++R2).map (·.queue):=by
  intro hm
  have h1:r.queue∈(b'.rungs s).map (·.queue):=by rw[g1];exact hm
  rw[Book.qs]at hnd
  have h2:=(List.nodup_append.1 hnd).2.2 r.queue (by
   rcases hs with rfl|rfl
   ·exact List.mem_append_left _ h1
   ·exact List.mem_append_right _ h1) r.queue (by rw[hsp];simp)
  exact h2 rfl
 refine⟨⟨by rw[ha];exact c.wf,fun s' hs'=> ?_,fun q hq=>c.rng q (hqs.mem_iff.1 hq),hnd,by rw[hqs.length_eq];exact c.ql,fun s' hs' x hx _=> ?_,fun q hq=> ?_,by rw[hat,hplc 1 (.inl rfl),hplc 2 (.inr rfl)];exact c.at_,by rw[hflat];exact c.ids,c.qb⟩,hflat⟩
 ·by_cases e:s'=s
  ·subst e
   have:=c.srt s' hs'
   rw[hr]at this
   rw[g1]
   exact this.sublist (List.Sublist.append_left (List.sublist_cons_self _ _) _)
  ·rw[g2 s' e hs'];exact c.srt s' hs'
 ·by_cases e:s'=s
  ·subst e
   rw[g1]at hx
   refine c.ne s' hs' x (by rw[hr];rcases List.mem_append.1 hx with h|h;exact List.mem_append_left _ h;exact List.mem_append_right _ (List.mem_cons_of_mem _ h)) fun e2=>hmid (e2▸List.mem_map_of_mem (f:=(·.queue)) hx)
  ·rw[g2 s' e hs']at hx
   refine c.ne s' hs' x hx fun e2=> ?_
   have h1:r.queue∈(b'.rungs s').map (·.queue):=by rw[g2 s' e hs',← e2];exact List.mem_map_of_mem (f:=(·.queue)) hx
   rw[Book.qs]at hnd
   exact(List.nodup_append.1 hnd).2.2 r.queue (by
    rcases hs' with rfl|rfl
    ·exact List.mem_append_left _ h1
    ·exact List.mem_append_right _ h1) r.queue (by rw[hsp];simp) rfl
 ·rw[hsp]at hq
  rcases List.mem_append.1 hq with hq|hq
  ·exact c.sp q hq
  ·rw[List.mem_singleton.1 hq];exact he
open Go Cv Go.Proofs
theorem zLa {L:List zD} (h:(L.map (·.id)).Nodup) {id:Int} (hh:kQ L id=true):yL L id (gE L id).qty=L.filter fun o=> !decide (o.id=id):=by
 rw[yL,← List.filterMap_eq_filter]
 refine wS fun o ho=> ?_
 by_cases e:o.id=id
 ·have hg:=uB h ho
  rw[e]at hg
  rw[if_pos e,if_pos (by rw[hg])]
  simp[Option.guard,e]
 ·rw[if_neg e]
  simp[Option.guard,e]
theorem Book.Core.gone {b:Book} {Q:List (List Nat)} (c:b.Core Q (-1)) (ht:b.Tops (b.flat Q)) {id s:Int} {r:xL} {k:Nat} (h:Told b Q id s r k) {q:Int} (hq:1≤q∧q=(b.a.slotAt k).qty):
 (b.a.takeF k q).2=0∧(({b with a:=(b.a.takeF k q).1}:Book).dropF s id r.price).Rep (yL (b.flat Q) id q)∧(b.a.takeF k q).1.slots.length=250∧(b.a.takeF k q).1.queues.length=b.a.queues.length∧((b.a.takeF k q).1.getF k).2=false∧zW s (b.rungs s) r.price<(b.rungs s).length:=by
 obtain⟨t1,t2,t3⟩:=c.wf.take (c.get h.hs h.hr) h.hk (q:=q) ⟨hq.1,by omega⟩
 rw[if_pos hq.2.symm]at t3
 obtain⟨w,t4,t5⟩:=t3
 generalize hA:(b.a.takeF k q).1=a1 at*
 have hget:=c.get h.hs h.hr
 have hnQ:=(List.getElem?_eq_some_iff.1 hget).1
 have hrq:=c.rng _ (vW h.hs h.hr)
 generalize hQ':Q.set r.queue.toNat ((xB Q r).erase k)=Q' at*
 have hQl:Q'.length=Q.length:=by rw[← hQ',List.length_set]
 have hnd:(xB Q r).Nodup:=c.wf.nd _ _ hget
 have hqd:∀s' (r':xL),(s'=1∨s'=2)→r'∈b.rungs s'→xB Q' r'=(xB Q r').erase k:=by
  intro s' r' hs' hr'
  by_cases e:r'.queue=r.queue
  ·have e1:xB Q r'=xB Q r:=by rw[xB,xB,e]
   rw[e1,xB,e,← hQ']
   exact zI (vD hnQ)
  ·have h2:xB Q' r'=xB Q r':=by
    have:=c.rng _ (vW hs' hr')
    rw[xB,xB,List.getD_eq_getElem?_getD,List.getD_eq_getElem?_getD,← hQ',vA (by omega)]
   rw[h2]
   symm
   refine List.erase_of_not_mem fun hk=> ?_
   have:=c.wf.toWf0.one (c.get hs' hr') hget hk h.hk
   have:=c.rng _ (vW hs' hr')
   omega
 have hQo:∀q:Int,0≤q→q≠r.queue→Q'.getD q.toNat []=Q.getD q.toNat []:=by
  intro q h0 hne
  rw[← hQ',List.getD_eq_getElem?_getD,vA (by omega),List.getD_eq_getElem?_getD]
 obtain⟨u1,u2,u3,u4,u5⟩:=z8u ({b with a:=a1}:Book) id h.hs
 obtain⟨b1,hb1⟩:∃b1:Book,b1={({b with a:=a1}:Book).unhas s id with at_:=cW id b.at_}:=⟨_,rfl⟩
 have v1:b1.a=a1:=by rw[hb1];exact u1
 have v2:b1.buys=b.buys:=by rw[hb1];exact u2
 have v3:b1.sells=b.sells:=by rw[hb1];exact u3
 have v4:b1.spare=b.spare:=by rw[hb1];exact u4
 have v5:b1.at_=cW id b.at_:=by rw[hb1]
 have v6:∀s',s'=1∨s'=2→b1.topI s'=b.topI s'∧b1.hasF s'=if s'=s∧b.topI s=id then false else b.hasF s':=by
  intro s' hs'
  rw[hb1];exact u5 s' hs'
 have vr:∀s',b1.rungs s'=b.rungs s':=by intro s';rw[Book.rungs,Book.rungs,v2,v3]
 have vq:b1.qs=b.qs:=by rw[Book.qs,Book.qs,v2,v3,v4]
 have hord:∀s',s'=1∨s'=2→b1.sideL Q' s'=(b.sideL Q s').filter (fun o=> !decide (o.id=id))∧b1.plcs Q' s'=(b.plcs Q s').filter fun x=> !decide (x.1=id):=by
  intro s' hs'
  rw[Book.sideL,Book.sideL,Book.plcs,Book.plcs,vr,List.filter_flatMap,List.filter_flatMap]
  have key:∀r'∈b.rungs s',∀j∈xB Q r',((b.a.slotAt j).id=id↔j=k)∧(j≠k→wA a1 s' r'.price j=wA b.a s' r'.price j∧wN a1 s' r'.price j=wN b.a s' r'.price j):=by
   intro r' hr' j hj
   refine⟨h.only c hs' hr' hj,fun e=> ?_⟩
   have:=(t2 j e).1
   refine⟨by rw[wA,wA,this],?_⟩
   have:=congrArg Ent.id this
   rw[wN,wN]
   exact congrArg (fun i=>(i,(⟨s',r'.price,j⟩:Place))) this
  refine⟨xD fun r' hr'=> ?_,xD fun r' hr'=> ?_⟩
  ·rw[Book.rOrds,Book.rOrds,hqd s' r' hs' hr',eC (c.wf.nd _ _ (c.get hs' hr')),List.filter_map,v1]
   have e1:(xB Q r').filter ((fun o:zD=> !decide (o.id=id))∘wA b.a s' r'.price)=(xB Q r').filter fun j=> !decide (j=k):=by
    refine List.filter_congr fun j hj=> ?_
    show(!decide ((b.a.slotAt j).id=id))=_
    rw[decide_eq_decide.2 (key r' hr' j hj).1]
   rw[e1]
   refine List.map_congr_left fun j hj=> ?_
   rw[List.mem_filter]at hj
   exact((key r' hr' j hj.1).2 (by simpa using hj.2)).1
  ·rw[hqd s' r' hs' hr',eC (c.wf.nd _ _ (c.get hs' hr')),List.filter_map,v1]
   have e1:(xB Q r').filter ((fun x:Int×Place=> !decide (x.1=id))∘wN b.a s' r'.price)=(xB Q r').filter fun j=> !decide (j=k):=by
    refine List.filter_congr fun j hj=> ?_
    show(!decide ((b.a.slotAt j).id=id))=_
    rw[decide_eq_decide.2 (key r' hr' j hj).1]
   rw[e1]
   refine List.map_congr_left fun j hj=> ?_
   rw[List.mem_filter]at hj
   exact((key r' hr' j hj.1).2 (by simpa using hj.2)).2
 have hflat:b1.flat Q'=(b.flat Q).filter fun o=> !decide (o.id=id):=by
  rw[Book.flat,(hord 1 (.inl rfl)).1,(hord 2 (.inr rfl)).1,Book.flat,List.filter_append]
 have hat:b1.at_.Perm (b1.plcs Q' 1++b1.plcs Q' 2):=by
  rw[v5,zXj c.keys,(hord 1 (.inl rfl)).2,(hord 2 (.inr rfl)).2,← List.filter_append]
  exact c.at_.filter _
 have hold:∀s' (r':xL),(s'=1∨s'=2)→r'∈b.rungs s'→xB Q r'≠[]:=fun s' r' hs' hr'=>c.ne s' hs' r' hr' fun e=>by
  have:=c.rng _ (vW hs' hr');omega
 have c1:b1.Core Q' r.queue:=by
  refine⟨by rw[v1];exact w,fun s' hs'=>by rw[vr];exact c.srt s' hs',by rw[vq,hQl];exact c.rng,by rw[vq];exact c.nd,by rw[vq,hQl];exact c.ql,fun s' hs' r' hr' hne=> ?_,fun q hq=> ?_,hat,?_,by rw[hQl];exact c.qb⟩
  ·rw[vr]at hr'
   have e:=hQo r'.queue (c.rng _ (vW hs' hr')).1 hne
   rw[xB,e];exact hold s' r' hs' hr'
  ·rw[v4]at hq
   have hqq:q∈b.qs:=List.mem_append_right _ hq
   rw[hQo q (c.rng q hqq).1 fun e=> ?_]
   ·exact c.sp q hq
   ·have hcn:=c.nd
    rw[Book.qs]at hcn
    refine(List.nodup_append.1 hcn).2.2 r.queue ?_ q hq e.symm
    rcases h.hs with rfl|rfl
    ·exact List.mem_append_left _ (List.mem_map_of_mem (f:=(·.queue)) h.hr)
    ·exact List.mem_append_right _ (List.mem_map_of_mem (f:=(·.queue)) h.hr)
  ·rw[hflat]
   exact c.ids.sublist (List.Sublist.map _ List.filter_sublist)
 have htk:yL (b.flat Q) id q=b1.flat Q':=by
  rw[hflat,← zLa c.ids h.has,h.get,hq.2];rfl
 have hm1:∀o,o∈b1.flat Q'↔o∈b.flat Q∧o.id≠id:=by
  intro o;rw[hflat,List.mem_filter];simp
 have ht1:∀b2:Book,(∀x,b2.hasF x=b1.hasF x∧b2.topI x=b1.topI x)→b2.Tops (b1.flat Q'):=by
  intro b2 hb2
  refine⟨fun o ho=> ?_,fun s' hs' hh=> ?_⟩
  ·rw[(hb2 _).1,(hb2 _).2]
   obtain⟨ho,hne⟩:=(hm1 o).1 ho
   have hs':=(bU ho).1
   rw[(v6 _ hs').1,(v6 _ hs').2,ht.fl o ho]
   split
   ·rename_i e
    rw[e.1,e.2,decide_eq_false hne,Bool.and_false,Bool.and_false]
   ·rfl
  ·rw[(hb2 _).1,(v6 s' hs').2]at hh
   rw[(hb2 _).2,(v6 s' hs').1]
   split at hh
   ·cases hh
   ·rename_i e
    obtain⟨o,ho,o1,o2⟩:=ht.th s' hs' hh
    refine⟨o,(hm1 o).2 ⟨ho,fun e2=>e ?_⟩,o1,o2⟩
    have hg:=uB c.ids ho
    rw[e2,h.get]at hg
    have hsd:s'=s:=by rw[← o1,← hg];rfl
    exact⟨hsd,by rw[← hsd,← o2,e2]⟩
 obtain⟨R1,R2,hsplit⟩:=List.append_of_mem h.hr
 have hfn:=z7l (c.srt s h.hs) hsplit
 have hgd:(b.rungs s).getD (zW s (b.rungs s) r.price) ⟨0,0⟩=r:=by
  rw[hfn,hsplit]
  refine zI ?_
  rw[List.getElem?_append_right (Nat.le_refl _),Nat.sub_self];rfl
 have hfl:zW s (b.rungs s) r.price<(b.rungs s).length:=by rw[hfn,hsplit];simp
 have hQr:Q'[r.queue.toNat]? =some ((xB Q r).erase k):=by rw[← hQ'];exact vD hnQ
 have hcount:(a1.qAt r.queue).count=((xB Q r).erase k).length:=by
  have:=w.q _ _ hQr
  have hql:=w.ql
  rw[zNj hrq.1 this]
 have er:xB Q' r=(xB Q r).erase k:=zI hQr
 have hru:({b with a:=a1}:Book).rungs s=b.rungs s:=rfl
 have hus:(a1.getF k).2=false:=by
  have:a1.usedAt k=false:=by
   have e:a1.slotAt k=slot0:=t4
   rw[Arena.slotAt]at e
   rw[Arena.usedAt,Int.toNat_natCast,e];simp[slot0]
  rw[Arena.getF,if_neg (by rw[this];decide)]
 refine⟨t1,?_,w.len,by rw[w.ql,c.wf.ql,hQl],hus,hfl⟩
 rw[Book.dropF,hru,hgd]
 by_cases hz:(a1.qAt r.queue).count=0
 ·rw[if_pos hz]
  have he:xB Q' r=[]:=by
   rw[er]
   refine List.eq_nil_of_length_eq_zero ?_
   omega
  obtain⟨k1,k2⟩:=Book.Core.close h.hs (by rw[vr];exact hsplit) c1 he rfl
  have ebk:(({({b with a:=a1}:Book).unhas s id with at_:=cW id b.at_,spare:=b.spare++[r.queue]}:Book).setR s ((b.rungs s).take (zW s (b.rungs s) r.price)++(b.rungs s).drop (zW s (b.rungs s) r.price+1)))=(({b1 with spare:=b1.spare++[r.queue]}:Book).setR s (R1++R2)):=by
   have e1:(b.rungs s).take (zW s (b.rungs s) r.price)++(b.rungs s).drop (zW s (b.rungs s) r.price+1)=R1++R2:=by
    rw[hfn,hsplit,List.take_left]
    congr 1
    rw[List.drop_append,List.drop_eq_nil_of_le (by omega),Nat.add_sub_cancel_left];rfl
   rw[e1,v4,hb1]
  refine⟨Q',?_,?_,?_⟩
  ·exact ebk▸k1
  ·rw[htk]
   refine ht1 _ fun x=> ?_
   show(Book.hasF (({({b with a:=a1}:Book).unhas s id with at_:=cW id b.at_,spare:=b.spare++[r.queue]}:Book).setR s ((b.rungs s).take (zW s (b.rungs s) r.price)++(b.rungs s).drop (zW s (b.rungs s) r.price+1))) x=_∧Book.topI (({({b with a:=a1}:Book).unhas s id with at_:=cW id b.at_,spare:=b.spare++[r.queue]}:Book).setR s ((b.rungs s).take (zW s (b.rungs s) r.price)++(b.rungs s).drop (zW s (b.rungs s) r.price+1))) x=_)
   rw[ebk]
   rcases h.hs with rfl|rfl<;>exact⟨rfl,rfl⟩
  ·rw[htk]
   show _=Book.flat (({({b with a:=a1}:Book).unhas s id with at_:=cW id b.at_,spare:=b.spare++[r.queue]}:Book).setR s ((b.rungs s).take (zW s (b.rungs s) r.price)++(b.rungs s).drop (zW s (b.rungs s) r.price+1))) Q'
   rw[ebk];exact k2.symm
 ·rw[if_neg hz]
  have c2:b1.Core Q' (-1):=⟨c1.wf,c1.srt,c1.rng,c1.nd,c1.ql,fun s' hs' r' hr' _=>by
   by_cases e:r'.queue=r.queue
   ·rw[xB,e]
    intro e2
    rw[xB]at er
    rw[er]at e2
    rw[hcount,e2]at hz
    exact hz rfl
   ·exact c1.ne s' hs' r' hr' e,c1.sp,c1.at_,c1.ids,c1.qb⟩
  have hh:({({b with a:=a1}:Book).unhas s id with at_:=cW id b.at_}:Book)=b1:=hb1.symm
  show Book.Rep {({b with a:=a1}:Book).unhas s id with at_:=cW id b.at_} _
  rw[hh,htk]
  exact⟨Q',c2,ht1 b1 fun _=>⟨rfl,rfl⟩,rfl⟩
open Go Cv Go.Proofs
theorem a8 (k:Int):∀l,rR (Value.int IntKind.i64 k) (atE l)=atE (cW k l)
 |[]=>rfl
 |(a,b)::l=>by
  have ih:=a8 k l
  show(bif (keq .i64 .i64 && decide (k=a))then atE l else _::rR _ (atE l))=_
  rw[ih,cW]
  by_cases h:k=a
  ·subst h;simp[keq]
  ·simp[h,atE]
theorem zYd:delRC.ok Tryz.prog 139:=
 delX_ok mixed Tryz.func139 rfl (by kernel_rfl) (by kernel_rfl) (by kernel_rfl) (by kernel_rfl) zBs rfl (by decide) (fun s sn sk i j w R=>by kernel_rfl)
theorem dup {X:Prop} {n:Int} (h:X):X∧n=n∧True∧X:=⟨h,rfl,trivial,h⟩
theorem Book.Core.small {b:Book} {Q:List (List Nat)} (c:b.Core Q (-1)):b.small:=by
 have hq:=c.qb
 have h1:=c.ql
 have h2:=c.wf.ql
 have h3:=c.wf.len
 rw[Book.qs,List.length_append,List.length_append,List.length_map,List.length_map]at h1
 exact⟨⟨by omega,by omega⟩,by omega,by omega,by omega⟩
theorem yJx (i:DrI) (h:drop1C.cnd i):zWe i:=by
 obtain⟨hsm,hn⟩:i.ok 1:=h
 obtain⟨⟨ha1,ha2⟩,hb1,hb2,hsp⟩:=id hsm
 have hn:zW 1 i.b.buys i.price<i.b.buys.length:=hn
 obtain⟨r,hr⟩:=yA (l:=i.b.buys) hn
 have hgd:((i.b.rungs 1).getD (zW 1 (i.b.rungs 1) i.price) ⟨0,0⟩)=r:=zI hr
 have hw:∀k:Int,IntKind.i64.wrap ((zW 1 (i.b.rungs 1) i.price:Int)+1)=((zW 1 (i.b.rungs 1) i.price+1:Nat):Int):=fun _=>by
  have:=nE 1 i.price (i.b.rungs 1)
  have hl:(i.b.rungs 1).length≤1000000:=by show i.b.buys.length≤_;omega
  rw[w64 (by omega)];rfl
 have hn2:((zW 1 (i.b.rungs 1) i.price:Nat):Int)<((List.map zC i.b.buys).length:Int):=by
  rw[List.length_map]
  show((zW 1 i.b.buys i.price:Nat):Int)<_
  omega
 unfold zWe zBi zAs uX j7 qF xY y7
 refine⟨jI _ _,Cv.cnd.mk (fun c1=>Cv.cnd.mk (fun c2=> ?_) (fun c2=> ?_)) (fun c1=> ?_)⟩
 ·have c2:i.b.top1=i.id:=by simpa using c2
  have hu:i.b.unhas 1 i.id={i.b with has1:=false}:=by rw[Book.unhas,if_pos ⟨c1,c2⟩];rfl
  refine⟨⟨{i.b with has1:=false,at_:=cW i.id i.b.at_},i.price⟩,rfl,rfl,rfl,rfl,rfl,rfl,rfl,rfl,rfl,(a8 _ _).symm,rfl,hsm,fun _ _=>⟨⟨by omega,hn2⟩,r.queue,elA hr (by simp[zC]) rfl,⟨i.b.a,r.queue⟩,rfl,rfl,trivial,fun _ _=>Cv.cnd.mk (fun e=>⟨by simp only[xI];omega,⟨i.b.buys.map zC,zW 1 (i.b.rungs 1) i.price,zW 1 (i.b.rungs 1) i.price+1⟩,rfl,(hw 0).symm,rfl,⟨Nat.lt_succ_self _,by rw[List.length_map];exact hn⟩,fun _ _=>⟨rfl,(),?_⟩⟩) (fun e=>⟨(),?_⟩)⟩⟩
  ·have e:(i.b.a.qAt r.queue).count=0:=by simpa using e
   rw[Book.dropF,hgd,if_pos e,hu]
   refine⟨rfl,rfl,rfl,rfl,rfl,rfl,?_,rfl,?_,trivial⟩
   ·show List.map zC (i.b.buys.take _++i.b.buys.drop _)=_
    rw[List.map_append,List.map_take,List.map_drop]
   ·show iE (i.b.spare++[r.queue])=_
    simp[iE]
  ·have e:¬(i.b.a.qAt r.queue).count=0:=by simpa using e
   rw[Book.dropF,hgd,if_neg e,hu]
   exact⟨rfl,rfl,rfl,rfl,rfl,rfl,rfl,rfl,rfl,trivial⟩
 ·have c2:¬i.b.top1=i.id:=by simpa using c2
  have hu:i.b.unhas 1 i.id={i.b with has1:=i.b.has1}:=by rw[Book.unhas,if_neg (fun e=>c2 e.2)]
  refine⟨⟨{i.b with has1:=i.b.has1,at_:=cW i.id i.b.at_},i.price⟩,rfl,rfl,rfl,rfl,rfl,rfl,rfl,rfl,rfl,(a8 _ _).symm,rfl,hsm,fun _ _=>⟨⟨by omega,hn2⟩,r.queue,elA hr (by simp[zC]) rfl,⟨i.b.a,r.queue⟩,rfl,rfl,trivial,fun _ _=>Cv.cnd.mk (fun e=>⟨by simp only[xI];omega,⟨i.b.buys.map zC,zW 1 (i.b.rungs 1) i.price,zW 1 (i.b.rungs 1) i.price+1⟩,rfl,(hw 0).symm,rfl,⟨Nat.lt_succ_self _,by rw[List.length_map];exact hn⟩,fun _ _=>⟨rfl,(),?_⟩⟩) (fun e=>⟨(),?_⟩)⟩⟩
  ·have e:(i.b.a.qAt r.queue).count=0:=by simpa using e
   rw[Book.dropF,hgd,if_pos e,hu]
   refine⟨rfl,rfl,rfl,rfl,rfl,rfl,?_,rfl,?_,trivial⟩
   ·show List.map zC (i.b.buys.take _++i.b.buys.drop _)=_
    rw[List.map_append,List.map_take,List.map_drop]
   ·show iE (i.b.spare++[r.queue])=_
    simp[iE]
  ·have e:¬(i.b.a.qAt r.queue).count=0:=by simpa using e
   rw[Book.dropF,hgd,if_neg e,hu]
   exact⟨rfl,rfl,rfl,rfl,rfl,rfl,rfl,rfl,rfl,trivial⟩
 ·have hu:i.b.unhas 1 i.id={i.b with has1:=i.b.has1}:=by
   rw[Book.unhas,if_neg]
   rintro⟨e,_⟩
   exact absurd (show i.b.has1=true from e) (by rw[c1];decide)
  refine⟨⟨{i.b with has1:=i.b.has1,at_:=cW i.id i.b.at_},i.price⟩,rfl,rfl,rfl,rfl,rfl,rfl,rfl,rfl,rfl,(a8 _ _).symm,rfl,hsm,fun _ _=>⟨⟨by omega,hn2⟩,r.queue,elA hr (by simp[zC]) rfl,⟨i.b.a,r.queue⟩,rfl,rfl,trivial,fun _ _=>Cv.cnd.mk (fun e=>⟨by simp only[xI];omega,⟨i.b.buys.map zC,zW 1 (i.b.rungs 1) i.price,zW 1 (i.b.rungs 1) i.price+1⟩,rfl,(hw 0).symm,rfl,⟨Nat.lt_succ_self _,by rw[List.length_map];exact hn⟩,fun _ _=>⟨rfl,(),?_⟩⟩) (fun e=>⟨(),?_⟩)⟩⟩
  ·have e:(i.b.a.qAt r.queue).count=0:=by simpa using e
   rw[Book.dropF,hgd,if_pos e,hu]
   refine⟨rfl,rfl,rfl,rfl,rfl,rfl,?_,rfl,?_,trivial⟩
   ·show List.map zC (i.b.buys.take _++i.b.buys.drop _)=_
    rw[List.map_append,List.map_take,List.map_drop]
   ·show iE (i.b.spare++[r.queue])=_
    simp[iE]
  ·have e:¬(i.b.a.qAt r.queue).count=0:=by simpa using e
   rw[Book.dropF,hgd,if_neg e,hu]
   exact⟨rfl,rfl,rfl,rfl,rfl,rfl,rfl,rfl,rfl,trivial⟩
theorem z7c:drop1C.ok Tryz.prog 121:=yEi (gokc zEh (gokc l9 (gokc zYd gok0))) yJx
theorem yHv (i:DrI) (h:drop2C.cnd i):zUy i:=by
 obtain⟨hsm,hn⟩:i.ok 2:=h
 obtain⟨⟨ha1,ha2⟩,hb1,hb2,hsp⟩:=id hsm
 have hn:zW 2 i.b.sells i.price<i.b.sells.length:=hn
 obtain⟨r,hr⟩:=yA (l:=i.b.sells) hn
 have hgd:((i.b.rungs 2).getD (zW 2 (i.b.rungs 2) i.price) ⟨0,0⟩)=r:=zI hr
 have hw:∀k:Int,IntKind.i64.wrap ((zW 2 (i.b.rungs 2) i.price:Int)+1)=((zW 2 (i.b.rungs 2) i.price+1:Nat):Int):=fun _=>by
  have:=nE 2 i.price (i.b.rungs 2)
  have hl:(i.b.rungs 2).length≤1000000:=by show i.b.sells.length≤_;omega
  rw[w64 (by omega)];rfl
 have hn2:((zW 2 (i.b.rungs 2) i.price:Nat):Int)<((List.map zC i.b.sells).length:Int):=by
  rw[List.length_map]
  show((zW 2 i.b.sells i.price:Nat):Int)<_
  omega
 unfold zUy zBz zAi uO j0 qF xV y8
 refine⟨jI _ _,Cv.cnd.mk (fun c1=>Cv.cnd.mk (fun c2=> ?_) (fun c2=> ?_)) (fun c1=> ?_)⟩
 ·have c2:i.b.top2=i.id:=by simpa using c2
  have hu:i.b.unhas 2 i.id={i.b with has2:=false}:=by rw[Book.unhas,if_pos ⟨c1,c2⟩];rfl
  refine⟨⟨{i.b with has2:=false,at_:=cW i.id i.b.at_},i.price⟩,rfl,rfl,rfl,rfl,rfl,rfl,rfl,rfl,rfl,(a8 _ _).symm,rfl,hsm,fun _ _=>⟨⟨by omega,hn2⟩,r.queue,elA hr (by simp[zC]) rfl,⟨i.b.a,r.queue⟩,rfl,rfl,trivial,fun _ _=>Cv.cnd.mk (fun e=>⟨by simp only[xI];omega,⟨i.b.sells.map zC,zW 2 (i.b.rungs 2) i.price,zW 2 (i.b.rungs 2) i.price+1⟩,rfl,(hw 0).symm,rfl,⟨Nat.lt_succ_self _,by rw[List.length_map];exact hn⟩,fun _ _=>⟨rfl,(),?_⟩⟩) (fun e=>⟨(),?_⟩)⟩⟩
  ·have e:(i.b.a.qAt r.queue).count=0:=by simpa using e
   rw[Book.dropF,hgd,if_pos e,hu]
   refine⟨rfl,rfl,rfl,rfl,rfl,rfl,rfl,?_,?_,trivial⟩
   ·show List.map zC (i.b.sells.take _++i.b.sells.drop _)=_
    rw[List.map_append,List.map_take,List.map_drop]
   ·show iE (i.b.spare++[r.queue])=_
    simp[iE]
  ·have e:¬(i.b.a.qAt r.queue).count=0:=by simpa using e
   rw[Book.dropF,hgd,if_neg e,hu]
   exact⟨rfl,rfl,rfl,rfl,rfl,rfl,rfl,rfl,rfl,trivial⟩
 ·have c2:¬i.b.top2=i.id:=by simpa using c2
  have hu:i.b.unhas 2 i.id={i.b with has2:=i.b.has2}:=by rw[Book.unhas,if_neg (fun e=>c2 e.2)]
  refine⟨⟨{i.b with has2:=i.b.has2,at_:=cW i.id i.b.at_},i.price⟩,rfl,rfl,rfl,rfl,rfl,rfl,rfl,rfl,rfl,(a8 _ _).symm,rfl,hsm,fun _ _=>⟨⟨by omega,hn2⟩,r.queue,elA hr (by simp[zC]) rfl,⟨i.b.a,r.queue⟩,rfl,rfl,trivial,fun _ _=>Cv.cnd.mk (fun e=>⟨by simp only[xI];omega,⟨i.b.sells.map zC,zW 2 (i.b.rungs 2) i.price,zW 2 (i.b.rungs 2) i.price+1⟩,rfl,(hw 0).symm,rfl,⟨Nat.lt_succ_self _,by rw[List.length_map];exact hn⟩,fun _ _=>⟨rfl,(),?_⟩⟩) (fun e=>⟨(),?_⟩)⟩⟩
  ·have e:(i.b.a.qAt r.queue).count=0:=by simpa using e
   rw[Book.dropF,hgd,if_pos e,hu]
   refine⟨rfl,rfl,rfl,rfl,rfl,rfl,rfl,?_,?_,trivial⟩
   ·show List.map zC (i.b.sells.take _++i.b.sells.drop _)=_
    rw[List.map_append,List.map_take,List.map_drop]
   ·show iE (i.b.spare++[r.queue])=_
    simp[iE]
  ·have e:¬(i.b.a.qAt r.queue).count=0:=by simpa using e
   rw[Book.dropF,hgd,if_neg e,hu]
   exact⟨rfl,rfl,rfl,rfl,rfl,rfl,rfl,rfl,rfl,trivial⟩
 ·have hu:i.b.unhas 2 i.id={i.b with has2:=i.b.has2}:=by
   rw[Book.unhas,if_neg]
   rintro⟨e,_⟩
   exact absurd (show i.b.has2=true from e) (by rw[c1];decide)
  refine⟨⟨{i.b with has2:=i.b.has2,at_:=cW i.id i.b.at_},i.price⟩,rfl,rfl,rfl,rfl,rfl,rfl,rfl,rfl,rfl,(a8 _ _).symm,rfl,hsm,fun _ _=>⟨⟨by omega,hn2⟩,r.queue,elA hr (by simp[zC]) rfl,⟨i.b.a,r.queue⟩,rfl,rfl,trivial,fun _ _=>Cv.cnd.mk (fun e=>⟨by simp only[xI];omega,⟨i.b.sells.map zC,zW 2 (i.b.rungs 2) i.price,zW 2 (i.b.rungs 2) i.price+1⟩,rfl,(hw 0).symm,rfl,⟨Nat.lt_succ_self _,by rw[List.length_map];exact hn⟩,fun _ _=>⟨rfl,(),?_⟩⟩) (fun e=>⟨(),?_⟩)⟩⟩
  ·have e:(i.b.a.qAt r.queue).count=0:=by simpa using e
   rw[Book.dropF,hgd,if_pos e,hu]
   refine⟨rfl,rfl,rfl,rfl,rfl,rfl,rfl,?_,?_,trivial⟩
   ·show List.map zC (i.b.sells.take _++i.b.sells.drop _)=_
    rw[List.map_append,List.map_take,List.map_drop]
   ·show iE (i.b.spare++[r.queue])=_
    simp[iE]
  ·have e:¬(i.b.a.qAt r.queue).count=0:=by simpa using e
   rw[Book.dropF,hgd,if_neg e,hu]
   exact⟨rfl,rfl,rfl,rfl,rfl,rfl,rfl,rfl,rfl,trivial⟩
theorem z6g:drop2C.ok Tryz.prog 121:=yEd (gokc zFa (gokc l9 (gokc zYd gok0))) yHv
theorem yBl:dropC.ok Tryz.prog 121:=fun j=>match j with
 |⟨i,false⟩=>z7c i
 |⟨i,true⟩=>z6g i
theorem yAw {a:Arena} {k:Nat} {p t:Int} {m:Nat} (h:zNr (a.slotAt k) m k p t) (hl:k<a.slots.length):a.getF k=((a.slotAt k).ent,true):=by
 have:a.usedAt k=true:=by
  simp only[Arena.usedAt,Bool.and_eq_true,decide_eq_true_eq,Int.toNat_natCast]
  exact⟨by omega,by omega,h.used⟩
 rw[Arena.getF,if_pos this,Int.toNat_natCast]
theorem zQr {b:Book} {Q:List (List Nat)} (c:b.Core Q (-1)) {id s:Int} {r:xL} {k:Nat} (h:Told b Q id s r k):b.a.getF k=((b.a.slotAt k).ent,true)∧(b.a.slotAt k).qty≤1000000∧1≤(b.a.slotAt k).qty:=by
 obtain⟨h1,⟨p,t,h2⟩,h3⟩:=c.wf.toWf0.mem (c.get h.hs h.hr) h.hk
 exact⟨yAw h2 (by rw[c.wf.len];exact h1),h2.q2,c.wf.pos _ _ (c.get h.hs h.hr) _ h.hk⟩
theorem yGk (i:FlI) (h:bfindC.cnd i):zTr i:=by
 obtain⟨Q,c,ht,hL⟩:i.b.Rep i.L:=h
 unfold zTr zBl tT aG
 rcases c.told i.id with⟨hg,hn⟩|⟨s,r,k,hT⟩
 ·refine⟨jI _ _,false,0,0,0,.inr ⟨?_,rfl,rfl⟩,Cv.cnd.mk (fun _=> ?_) (fun e=>absurd e (by decide))⟩
  ·rw[rK,hg];rfl
  ·rw[← hL]at hn
   rw[yKr hn,hn]
   exact⟨(),by(repeat'(first|exact trivial|exact rfl|apply And.intro))⟩
 ·refine⟨jI _ _,true,s,r.price,k,.inl ⟨?_,rfl⟩,Cv.cnd.mk (fun e=>absurd e (by decide)) (fun _=>dup ⟨⟨i.b.a,k⟩,rfl,rfl,by dsimp only;rw[c.wf.len];decide,fun _ _=>⟨(),?_⟩⟩)⟩
  ·rw[rK,hT.e];rfl
  ·have h1:=hT.get
   have h2:=hT.has
   rw[← hL]at h1 h2
   rw[h1,h2,(zQr c hT).1]
   exact⟨hT.ident,by(repeat'(first|exact trivial|exact rfl|apply And.intro))⟩
theorem zPv:bfindC.ok Tryz.prog 75:=yAe (gokc zXm gok0) yGk
theorem Book.Core.okAt {b:Book} {Q:List (List Nat)} (c:b.Core Q (-1)):b.a.okAt:=c.wf.toWf0.ok
theorem yNv (i:FlI) (h:fillC.cnd i):z5e i:=by
 have hR:i.b.Rep i.L:=h
 obtain⟨Q,c,ht,hL⟩:=id hR
 unfold z5e zMw zHt wG rC aG
 rcases c.told i.id with⟨hg,hn⟩|⟨s,r,k,hT⟩
 ·refine⟨jI _ _,false,0,0,0,.inr ⟨?_,rfl,rfl⟩,Cv.cnd.mk (fun _=> ?_) (fun e=>absurd e (by simp))⟩
  ·rw[rK,hg];rfl
  ·rw[← hL]at hn
   rw[xS,if_pos hn]
   exact⟨i.b,rfl,rfl,rfl,rfl,rfl,rfl,rfl,rfl,rfl,rfl,hR⟩
 have hg:=hT.get
 have hh:=hT.has
 rw[← hL]at hg hh
 obtain⟨hsg,hq1,hq2⟩:=zQr c hT
 have hqq:(gE i.L i.id).qty=(i.b.a.slotAt k).qty:=by rw[hg];rfl
 refine⟨jI _ _,true,s,r.price,k,.inl ⟨?_,rfl⟩,Cv.cnd.mk (fun e=>absurd e (by simp)) (fun _=>⟨⟨i.b.a,k,i.qty⟩,rfl,rfl,rfl,c.okAt,fun _ _=> ?_⟩)⟩
 ·rw[rK,hT.e];rfl
 dsimp only
 have hu:i.b.a.usedAt k=true:=by
  cases hu:i.b.a.usedAt k with
  |true=>rfl
  |false=>rw[Arena.getF,if_neg (by rw[hu];decide)]at hsg;exact absurd (congrArg Prod.snd hsg) (by simp)
 by_cases hb:i.qty<1∨(i.b.a.slotAt k).qty<i.qty
 ·have ht:i.b.a.takeF k i.qty=(i.b.a,24):=by rw[Arena.takeF,if_neg (by rw[hu];decide),Int.toNat_natCast,if_pos hb]
  rw[ht]
  refine Cv.cnd.mk (fun _=> ?_) (fun e=>absurd e (by simp))
  rw[xS,if_neg (by rw[hh];decide),if_pos (by rw[hqq];exact hb)]
  exact⟨i.b,rfl,rfl,rfl,rfl,rfl,rfl,rfl,rfl,rfl,rfl,hR⟩
 have hfl:xS i.L i.id i.qty=(yL i.L i.id i.qty,0):=by rw[xS,if_neg (by rw[hh];decide),if_neg (by rw[hqq];exact hb)]
 by_cases hf:i.qty=(i.b.a.slotAt k).qty
 ·obtain⟨g1,g2,g3,g4,g5,g6⟩:=c.gone (by rw[← hL];exact ht) hT (q:=i.qty) ⟨by omega,hf⟩
  rw[← hL]at g2
  have hsm:=c.small
  rw[g1]
  refine Cv.cnd.mk (fun e=>absurd e (by simp)) (fun _=>dup ⟨⟨(i.b.a.takeF k i.qty).1,k⟩,rfl,rfl,by dsimp only;rw[g3];decide,fun _ _=> ?_⟩)
  dsimp only
  rw[g5]
  refine Cv.cnd.mk (fun _=> ?_) (fun e=>absurd e (by simp))
  rcases hT.hs with rfl|rfl
  ·refine⟨⟨⟨{i.b with a:=(i.b.a.takeF k i.qty).1},i.id,r.price,k⟩,false⟩,rfl,rfl,rfl,rfl,rfl,rfl,rfl,rfl,rfl,rfl,rfl,rfl,rfl,⟨⟨⟨by dsimp only;rw[g3];decide,by dsimp only;rw[g4];exact hsm.1.2⟩,hsm.2⟩,g6⟩,fun _ _=> ?_⟩
   refine⟨({i.b with a:=(i.b.a.takeF k i.qty).1}:Book).dropF 1 i.id r.price,by rw[hfl],rfl,rfl,rfl,rfl,rfl,rfl,rfl,rfl,rfl,by rw[hfl];exact g2⟩
  ·refine⟨⟨⟨{i.b with a:=(i.b.a.takeF k i.qty).1},i.id,r.price,k⟩,true⟩,rfl,rfl,rfl,rfl,rfl,rfl,rfl,rfl,rfl,rfl,rfl,rfl,rfl,⟨⟨⟨by dsimp only;rw[g3];decide,by dsimp only;rw[g4];exact hsm.1.2⟩,hsm.2⟩,g6⟩,fun _ _=> ?_⟩
   refine⟨({i.b with a:=(i.b.a.takeF k i.qty).1}:Book).dropF 2 i.id r.price,by rw[hfl],rfl,rfl,rfl,rfl,rfl,rfl,rfl,rfl,rfl,by rw[hfl];exact g2⟩
 ·obtain⟨g1,g2,g3,g4,g5⟩:=c.less (by rw[← hL];exact ht) hT (q:=i.qty) (by omega)
  rw[← hL]at g2
  rw[g1]
  refine Cv.cnd.mk (fun e=>absurd e (by simp)) (fun _=>dup ⟨⟨(i.b.a.takeF k i.qty).1,k⟩,rfl,rfl,by dsimp only;rw[g3];decide,fun _ _=> ?_⟩)
  dsimp only
  rw[g4]
  refine Cv.cnd.mk (fun e=>absurd e (by simp)) (fun _=>Cv.cnd.mk (fun e=> ?_) (fun _=> ?_))
  ·have e:¬((i.b.a.takeF k i.qty).1.slotAt k).ent.id=i.id:=by simpa using e
   exact absurd g5 e
  ·exact⟨{i.b with a:=(i.b.a.takeF k i.qty).1},by rw[hfl],rfl,rfl,rfl,rfl,rfl,rfl,rfl,rfl,rfl,by rw[hfl];exact g2⟩
theorem yDn:fillC.ok Tryz.prog 100:=yHz (gokc z6a (gokc zXm (gokc yBl gok0))) yNv
theorem zMh (A B:List zD) (s p:Int):atL (A++B) s p=atL A s p++atL B s p:=List.filter_append _ _
theorem zOo {A:List zD} {s p:Int} (h:∀o∈A,o.side=s→o.price≠p):atL A s p=[]:=by
 rw[atL,List.filter_eq_nil_iff]
 intro o ho
 by_cases e:o.side=s
 ·simp[h o ho e]
 ·simp[e]
theorem yBv {A:List zD} {s p:Int} (h:∀o∈A,o.side=s∧o.price=p):atL A s p=A:=by
 rw[atL,List.filter_eq_self]
 intro o ho
 simp[h o ho]
theorem zEn {s x y:Int} (h:btr s x y=true):x≠y:=by
 rintro rfl;rw[mB]at h;cases h
theorem Book.Core.at_no {b:Book} {Q:List (List Nat)} (c:b.Core Q (-1)) {s p:Int} (hs:s=1∨s=2) (h:kK s (b.rungs s) p=false):atL (b.flat Q) s p=[]:=by
 have hsp:=sX (p:=p) (c.srt s hs)
 rw[if_neg (by rw[h];decide)]at hsp
 refine zOo fun o ho e=> ?_
 obtain⟨_,r,hr,_,hp⟩:=bU ho
 rw[e]at hr
 rw[hp]
 rw[← List.take_append_drop (zW s (b.rungs s) p) (b.rungs s)]at hr
 rcases List.mem_append.1 hr with hr|hr
 ·exact zEn (hsp.1 r hr)
 ·exact(zEn (hsp.2 r hr)).symm
theorem Book.Core.at_yes {b:Book} {Q:List (List Nat)} (c:b.Core Q (-1)) {s p:Int} (hs:s=1∨s=2) (h:kK s (b.rungs s) p=true):∃r,(b.rungs s)[zW s (b.rungs s) p]? =some r∧r.price=p∧r∈b.rungs s∧atL (b.flat Q) s p=b.rOrds Q s r:=by
 have hsp:=sX (p:=p) (c.srt s hs)
 rw[if_pos h]at hsp
 obtain⟨h1,r,hr,hp,h2⟩:=hsp
 have hlt:=(List.getElem?_eq_some_iff.1 hr).1
 refine⟨r,hr,hp,List.mem_of_getElem? hr,?_⟩
 have hsplit:b.rungs s=(b.rungs s).take (zW s (b.rungs s) p)++r::(b.rungs s).drop (zW s (b.rungs s) p+1):=by
  conv=>lhs;rw[← List.take_append_drop (zW s (b.rungs s) p) (b.rungs s)]
  rw[List.drop_eq_getElem_cons hlt,(List.getElem?_eq_some_iff.1 hr).2]
 have hside:atL (b.sideL Q s) s p=b.rOrds Q s r:=by
  rw[Book.sideL,hsplit,List.flatMap_append,List.flatMap_cons,zMh,zMh,zOo,yBv,zOo,List.append_nil,List.nil_append]
  ·intro o ho _
   obtain⟨r',hr',ho⟩:=List.mem_flatMap.1 ho
   rw[(qI ho).2];exact(zEn (h2 r' hr')).symm
  ·intro o ho
   rw[← hp];exact qI ho
  ·intro o ho _
   obtain⟨r',hr',ho⟩:=List.mem_flatMap.1 ho
   rw[(qI ho).2];exact zEn (h1 r' hr')
 have hother:∀s',s'≠s→atL (b.sideL Q s') s p=[]:=fun s' hne=>zOo fun o ho e=>absurd ((dY ho).1.symm.trans e) hne
 rw[Book.flat,zMh]
 rcases hs with rfl|rfl
 ·rw[hside,hother 2 (by decide),List.append_nil]
 ·rw[hside,hother 1 (by decide),List.nil_append]
theorem Book.Core.listOk {b:Book} {Q:List (List Nat)} (c:b.Core Q (-1)) {s:Int} (hs:s=1∨s=2) {r:xL} (hr:r∈b.rungs s):b.a.listOk r.queue (xB Q r):=by
 have hg:=c.get hs hr
 have hrq:=c.rng _ (vW hs hr)
 refine⟨by have:=c.wf.toWf0.short hg;omega,?_⟩
 rw[if_pos ⟨hrq.1,by rw[c.wf.ql];exact hrq.2⟩,zI (c.wf.q _ _ hg)]
 exact zKb (c.wf.sg _ _ hg)
theorem yOj (i:AtI) (h:at1C.cnd i):yGa i:=by
 obtain⟨Q,c,ht,hL⟩:i.b.Rep i.L:=h
 unfold yGa uX j7 qF xY vB
 refine⟨1,rfl,trivial,fun _ _=>Cv.cnd.mk (fun e=>absurd e (by decide)) fun _=>⟨⟨i.b,i.price⟩,rfl,rfl,rfl,rfl,rfl,rfl,rfl,rfl,rfl,rfl,rfl,c.small,fun _ _=>Cv.cnd.mk (fun e=> ?_) (fun e=> ?_)⟩⟩
 ·have e:kK 1 (i.b.rungs 1) i.price=false:=by simpa using e
  have:=c.at_no (.inl rfl) e
  rw[← hL]at this
  refine⟨(),rfl,rfl,rfl,rfl,rfl,rfl,rfl,rfl,rfl,?_,trivial⟩
  show List.map j9 (atL i.L 1 i.price)=[]
  rw[this];rfl
 ·have e:kK 1 (i.b.rungs 1) i.price=true:=by simpa using e
  obtain⟨r,hr,hp,hm,ha⟩:=c.at_yes (.inl rfl) e
  rw[← hL]at ha
  have hlt:=(List.getElem?_eq_some_iff.1 hr).1
  refine⟨⟨by omega,by rw[List.length_map];exact Int.ofNat_lt.2 hlt⟩,r.price,r.queue,elA hr (by simp[zC]) rfl,⟨i.b,1,r,xB Q r⟩,rfl,rfl,rfl,rfl,rfl,rfl,rfl,rfl,rfl,rfl,rfl,rfl,c.listOk (.inl rfl) hm,fun _ _=>⟨(),rfl,?_,trivial⟩⟩
  show List.map j9 (atL i.L 1 i.price)=_
  rw[ha,BoI.ords,Book.rOrds,Arena.ents];simp only[List.map_map];rfl
theorem yLl:at1C.ok Tryz.prog 112:=yNy (gokc zAu (gokc zEh (gokc zKt gok0))) yOj
theorem yOo (i:AtI) (h:at2C.cnd i):yJt i:=by
 obtain⟨Q,c,ht,hL⟩:i.b.Rep i.L:=h
 unfold yJt uO j0 qF xV vB
 refine⟨2,rfl,trivial,fun _ _=>Cv.cnd.mk (fun e=>absurd e (by decide)) fun _=>⟨⟨i.b,i.price⟩,rfl,rfl,rfl,rfl,rfl,rfl,rfl,rfl,rfl,rfl,rfl,c.small,fun _ _=>Cv.cnd.mk (fun e=> ?_) (fun e=> ?_)⟩⟩
 ·have e:kK 2 (i.b.rungs 2) i.price=false:=by simpa using e
  have:=c.at_no (.inr rfl) e
  rw[← hL]at this
  refine⟨(),rfl,rfl,rfl,rfl,rfl,rfl,rfl,rfl,rfl,?_,trivial⟩
  show List.map j9 (atL i.L 2 i.price)=[]
  rw[this];rfl
 ·have e:kK 2 (i.b.rungs 2) i.price=true:=by simpa using e
  obtain⟨r,hr,hp,hm,ha⟩:=c.at_yes (.inr rfl) e
  rw[← hL]at ha
  have hlt:=(List.getElem?_eq_some_iff.1 hr).1
  refine⟨⟨by omega,by rw[List.length_map];exact Int.ofNat_lt.2 hlt⟩,r.price,r.queue,elA hr (by simp[zC]) rfl,⟨i.b,2,r,xB Q r⟩,rfl,rfl,rfl,rfl,rfl,rfl,rfl,rfl,rfl,rfl,rfl,rfl,c.listOk (.inr rfl) hm,fun _ _=>⟨(),rfl,?_,trivial⟩⟩
  show List.map j9 (atL i.L 2 i.price)=_
  rw[ha,BoI.ords,Book.rOrds,Arena.ents];simp only[List.map_map];rfl
theorem yKl:at2C.ok Tryz.prog 112:=yNt (gokc zAu (gokc zFa (gokc zKt gok0))) yOo
theorem yNb:atC.ok Tryz.prog 112:=fun j=>match j with
 |⟨b,L,false,p⟩=>yLl ⟨b,L,false,p⟩
 |⟨b,L,true,p⟩=>yKl ⟨b,L,true,p⟩
open Go Cv Go.Proofs
def zIs (p:Int) (l:List zD):Lv:=⟨p,(l.map (·.qty)).sum,l.length⟩
theorem pA:∀{l:List zD} {v:Lv} {vs:List Lv},grp l=v::vs→∃o r,l=o::r∧o.price=v.price
 |[],v,vs,h=>by cases h
 |o::r,v,vs,h=>by
  refine⟨o,r,rfl,?_⟩
  rw[grp]at h
  split at h
  ·cases h;rfl
  ·split at h
   ·rename_i e;cases h;exact e.symm
   ·cases h;rfl
theorem zMk {p:Int}:∀{l:List zD} {m:List zD},l≠[]→(∀o∈l,o.price=p)→(∀o r,m=o::r→o.price≠p)→grp (l++m)=zIs p l::grp m
 |[],m,h,_,_=>absurd rfl h
 |[o],m,_,h,hm=>by
  have e:=h o List.mem_cons_self
  rw[List.singleton_append,grp]
  split
  ·rename_i g;simp[zIs,e,g]
  ·rename_i v vs g
   obtain⟨o',r,e1,e2⟩:=pA g
   have:=hm o' r e1
   rw[if_neg (by omega)];simp[zIs,e,g]
 |o::o'::l,m,_,h,hm=>by
  have e:=h o List.mem_cons_self
  have ih:=zMk (l:=o'::l) (m:=m) (by simp) (fun x hx=>h x (List.mem_cons_of_mem _ hx)) hm
  rw[List.cons_append,grp,ih]
  dsimp only
  rw[if_pos (show(zIs p (o'::l)).price=o.price from e.symm)]
  simp only[zIs,List.map_cons,List.sum_cons,List.length_cons]
  rfl
theorem zPp {f:xL→List zD}:∀{R:List xL},(∀r∈R,f r≠[]∧∀o∈f r,o.price=r.price)→R.Pairwise (fun r r'=>r.price≠r'.price)→grp (R.flatMap f)=R.map fun r=>zIs r.price (f r)
 |[],_,_=>rfl
 |r::R,h,hp=>by
  rw[List.pairwise_cons]at hp
  have ih:=zPp (R:=R) (fun x hx=>h x (List.mem_cons_of_mem _ hx)) hp.2
  rw[List.flatMap_cons,zMk (h r List.mem_cons_self).1 (h r List.mem_cons_self).2,ih,List.map_cons]
  intro o l e
  cases R with
  |nil=>cases e
  |cons r' R'=>
   rw[List.flatMap_cons]at e
   obtain⟨h1,h2⟩:=h r' (List.mem_cons_of_mem _ List.mem_cons_self)
   cases hf:f r' with
   |nil=>exact absurd hf h1
   |cons x y=>
    rw[hf,List.cons_append]at e
    cases e
    rw[h2 o (by rw[hf];exact List.mem_cons_self)]
    exact(hp.1 r' List.mem_cons_self).symm
theorem zJg {b:Book} {Q:List (List Nat)} {s:Int} (hs:s=1∨s=2):(b.flat Q).filter (fun o=>decide (o.side=s))=b.sideL Q s:=by
 have h1:∀s',(b.sideL Q s').filter (fun o=>decide (o.side=s))=if s'=s then b.sideL Q s' else[]:=by
  intro s'
  split
  ·rename_i e
   rw[List.filter_eq_self]
   intro o ho
   rw[(dY ho).1,e];simp
  ·rename_i e
   rw[List.filter_eq_nil_iff]
   intro o ho
   rw[(dY ho).1];simp[e]
 rw[Book.flat,List.filter_append,h1,h1]
 rcases hs with rfl|rfl
 ·simp
 ·simp
theorem Book.Core.neL {b:Book} {Q:List (List Nat)} (c:b.Core Q (-1)) {s:Int} (hs:s=1∨s=2) {r:xL} (hr:r∈b.rungs s):xB Q r≠[]:=c.ne s hs r hr fun e=>by have:=c.rng _ (vW hs hr);omega
theorem Book.Core.toldL {b:Book} {Q:List (List Nat)} (c:b.Core Q (-1)) {s:Int} (hs:s=1∨s=2) {r:xL} (hr:r∈b.rungs s):b.told r=zIs r.price (b.rOrds Q s r):=by
 have hg:=c.get hs hr
 have hrq:=c.rng _ (vW hs hr)
 have hq:=c.wf.q _ _ hg
 have hql:=c.wf.ql
 rw[Book.told,zNj hrq.1 hq,zIs,Book.rOrds,List.map_map,List.length_map]
 rfl
theorem Book.Core.lad {b:Book} {Q:List (List Nat)} (c:b.Core Q (-1)) {s:Int} (hs:s=1∨s=2):jR (b.flat Q) s=(b.rungs s).map b.told:=by
 rw[jR,zJg hs,Book.sideL,zPp]
 ·exact List.map_congr_left fun r hr=>(c.toldL hs hr).symm
 ·intro r hr
  refine⟨fun e=>c.neL hs hr (List.map_eq_nil_iff.1 e),fun o ho=>(qI ho).2⟩
 ·exact(c.srt s hs).imp fun h=>zEn h
theorem Book.Core.bestL {b:Book} {Q:List (List Nat)} (c:b.Core Q (-1)) {s:Int} (hs:s=1∨s=2):b.best (b.rungs s)=Sx.bestL (b.flat Q) s:=by
 rw[Sx.bestL,c.lad hs]
 cases b.rungs s<;>rfl
theorem Book.Core.cnt {b:Book} {Q:List (List Nat)} (c:b.Core Q (-1)):b.cntOk:=by
 intro q hq
 obtain⟨n,hn⟩:=List.mem_iff_getElem?.1 hq
 have hlt:=(List.getElem?_eq_some_iff.1 hn).1
 rw[c.wf.ql]at hlt
 obtain⟨l,hl⟩:=yA hlt
 have:=c.wf.q n l hl
 rw[hn]at this
 cases this
 have:=c.wf.toWf0.short hl
 constructor<;>dsimp only<;>omega
def yV (L:List zD):Top:=(top0.buy (bestL L 1)).sell (bestL L 2)
theorem Book.Rep.top {b:Book} {L:List zD} (h:b.Rep L):b.top=yV L:=by
 obtain⟨Q,c,ht,rfl⟩:=h
 rw[Book.top,yV,← c.bestL (.inl rfl),← c.bestL (.inr rfl)];rfl
theorem Book.Rep.cnt {b:Book} {L:List zD} (h:b.Rep L):b.cntOk:=by
 obtain⟨Q,c,ht,rfl⟩:=h
 exact c.cnt
structure zFl (o:zD):Prop where
 s:o.side=1∨o.side=2
 q:1≤o.qty∧o.qty≤1000000
theorem Book.Rep.ords {b:Book} {L:List zD} (h:b.Rep L):(∀o∈L,zFl o)∧(L.map (·.id)).Nodup∧L.length≤250:=by
 obtain⟨Q,c,ht,rfl⟩:=h
 refine⟨fun o ho=> ?_,c.ids,?_⟩
 ·obtain⟨hs,r,hr,ho,hp⟩:=bU ho
  refine⟨hs,?_⟩
  obtain⟨k,hk,e⟩:=List.mem_map.1 ho
  obtain⟨_,⟨_,_,h2⟩,_⟩:=c.wf.toWf0.mem (c.get hs hr) hk
  have eq:o.qty=(b.a.slotAt k).qty:=by rw[← e];rfl
  rw[eq]
  exact⟨c.wf.pos _ _ (c.get hs hr) _ hk,h2.q2⟩
 ·have hnd:(((b.rungs 1).flatMap (xB Q)++(b.rungs 2).flatMap (xB Q))).Nodup:=by
   have hm:((b.flat Q).map (·.id))=((b.rungs 1).flatMap (xB Q)++(b.rungs 2).flatMap (xB Q)).map fun k=>(b.a.slotAt k).id:=by
    rw[Book.flat,List.map_append,List.map_append,Book.sideL,Book.sideL,nW,nW,nW,nW]
    congr 1
    ·exact xD fun r _=>by rw[Book.rOrds,List.map_map];rfl
    ·exact xD fun r _=>by rw[Book.rOrds,List.map_map];rfl
   have:=c.ids
   rw[hm]at this
   exact List.Pairwise.of_map _ (fun a b hab e=>hab (by rw[e])) this
  have hl:(b.flat Q).length=((b.rungs 1).flatMap (xB Q)++(b.rungs 2).flatMap (xB Q)).length:=by
   rw[Book.flat,List.length_append,List.length_append,Book.sideL,Book.sideL,List.length_flatMap,List.length_flatMap,List.length_flatMap,List.length_flatMap]
   congr 1
   ·congr 1;exact List.map_congr_left fun r _=>by rw[Book.rOrds,List.length_map]
   ·congr 1;exact List.map_congr_left fun r _=>by rw[Book.rOrds,List.length_map]
  rw[hl]
  refine zHo 250 hnd fun k hk=> ?_
  rcases List.mem_append.1 hk with hk|hk
  ·obtain⟨r,hr,hk⟩:=List.mem_flatMap.1 hk
   exact(c.wf.toWf0.mem (c.get (.inl rfl) hr) hk).1
  ·obtain⟨r,hr,hk⟩:=List.mem_flatMap.1 hk
   exact(c.wf.toWf0.mem (c.get (.inr rfl) hr) hk).1
theorem Book.Rep.fit {b:Book} {L:List zD} (h:b.Rep L):b.fit:=by
 obtain⟨Q,c,ht,rfl⟩:=h
 have hs:=c.small
 have h1:=c.ql
 have h2:=c.wf.ql
 have hqb:=c.qb
 rw[Book.qs,List.length_append,List.length_append,List.length_map,List.length_map]at h1
 refine⟨⟨hs.1.1,fun hf=> ?_,fun q hq=> ?_⟩,by omega,by omega,by omega,by omega⟩
 ·obtain⟨k,_,hk,hk1,hku,_⟩:=c.wf.toWf0.unused hf
  exact⟨_,List.mem_of_getElem? hk1,hku⟩
 ·obtain⟨n,hn⟩:=List.mem_iff_getElem?.1 hq
  have hlt:=(List.getElem?_eq_some_iff.1 hn).1
  rw[c.wf.ql]at hlt
  obtain⟨l,hl⟩:=yA hlt
  have:=c.wf.q n l hl
  rw[hn]at this
  cases this
  dsimp only
  rcases jT l with e|⟨y,j,e,e2⟩
  ·exact .inl ((bC l).2 e)
  ·rw[e2]
   have:=(c.wf.toWf0.mem hl (k:=j) (by rw[e];simp)).1
   rw[c.wf.len]
   exact .inr ⟨by omega,by omega⟩
def whL:Nat→List (List zD)→List (Int×Int)
 |_,[]=>[]
 |k,L::B=>L.map (fun o=>(o.id,(k:Int)))++whL (k+1) B
theorem whL_mem:∀{B:List (List zD)} {n:Nat} {x:Int×Int},x∈whL n B↔∃(k:Nat) (L:List zD),B[k]? =some L∧x.1∈L.map (·.id)∧x.2=((n+k:Nat):Int)
 |[],n,x=>by simp[whL]
 |L::B,n,x=>by
  rw[whL,List.mem_append,whL_mem (B:=B)]
  constructor
  ·rintro(h|⟨k,L',h1,h2,h3⟩)
   ·obtain⟨o,ho,rfl⟩:=List.mem_map.1 h
    exact⟨0,L,rfl,List.mem_map_of_mem (f:=(·.id)) ho,rfl⟩
   ·exact⟨k+1,L',h1,h2,by rw[h3];omega⟩
  ·rintro⟨k,L',h1,h2,h3⟩
   cases k with
   |zero=>
    cases h1
    obtain⟨o,ho,e⟩:=List.mem_map.1 h2
    exact .inl (List.mem_map.2 ⟨o,ho,Prod.ext e h3.symm⟩)
   |succ k=>exact .inr ⟨k,L',h1,h2,by rw[h3];omega⟩
theorem zDl:∀{B:List (List zD)} (n k:Nat),k<B.length→∃rest,∀X:List zD,(whL n (B.set k X)).Perm (X.map (fun o=>(o.id,((n+k:Nat):Int)))++rest)
 |[],n,k,h=>absurd h (by simp)
 |L::B,n,0,h=>⟨whL (n+1) B,fun X=> .refl _⟩
 |L::B,n,k+1,h=>by
  obtain⟨rest,hr⟩:=zDl (B:=B) (n+1) k (by simpa using h)
  refine⟨L.map (fun o=>(o.id,(n:Int)))++rest,fun X=> ?_⟩
  rw[List.set_cons_succ,whL]
  refine((hr X).append_left _).trans ?_
  rw[← List.append_assoc,← List.append_assoc,show n+1+k=n+(k+1)by omega]
  exact List.perm_append_comm.append_right _
structure MSt.Rep (s:MSt) (p:Prd) (B:List (List zD)):Prop where
 ep:s.p=p
 bl:s.books.length=B.length
 bk:∀(k:Nat) (b:Book) (L:List zD),s.books[k]? =some b→B[k]? =some L→b.Rep L
 wh:s.wh.Perm (whL 0 B)
 ids:((whL 0 B).map (·.1)).Nodup
def fD (B:List (List zD)) (id:Int):Option Nat:=B.findIdx? fun L=>kQ L id
theorem xW {B:List (List zD)} {id:Int} {k:Nat} (h:fD B id=some k):∃L,B[k]? =some L∧kQ L id=true:=by
 rw[fD,List.findIdx?_eq_some_iff_getElem]at h
 obtain⟨h1,h2,_⟩:=h
 exact⟨_,List.getElem?_eq_getElem h1,h2⟩
theorem zFq {B:List (List zD)} {id:Int} (h:fD B id=none):∀L∈B,kQ L id=false:=by
 rw[fD,List.findIdx?_eq_none_iff]at h
 exact h
theorem zLw:∀{l:List (Int×Int)},(l.map (·.1)).Nodup→∀{k x:Int},(k,x)∈l→mI l k=some x
 |[],_,k,x,hx=>by cases hx
 |p::l,h,k,x,hx=>by
  rw[List.map_cons,List.nodup_cons]at h
  rw[mI,List.find?_cons]
  rcases List.mem_cons.1 hx with ex|hx
  ·subst ex;simp
  ·have:p.1≠k:=by rintro e;exact h.1 (e▸List.mem_map_of_mem (f:=(·.1)) hx)
   rw[decide_eq_false this]
   exact zLw h.2 hx
theorem z0h {l:List (Int×Int)} {k:Int} (h:k∉l.map (·.1)):mI l k=none:=by
 rw[mI,Option.map_eq_none_iff,List.find?_eq_none]
 intro x hx e
 have e:x.1=k:=by simpa using e
 exact h (e▸List.mem_map_of_mem (f:=(·.1)) hx)
theorem MSt.Rep.keys {s:MSt} {p:Prd} {B:List (List zD)} (h:s.Rep p B):(s.wh.map (·.1)).Nodup:=(h.wh.map (·.1)).nodup_iff.2 h.ids
theorem MSt.Rep.at_ {s:MSt} {p:Prd} {B:List (List zD)} (h:s.Rep p B) (id:Int):mI s.wh id=(fD B id).map (fun k:Nat=>(k:Int)):=by
 cases hi:fD B id with
 |none=>
  refine z0h fun hm=> ?_
  rw[(h.wh.map (·.1)).mem_iff]at hm
  obtain⟨x,hx,rfl⟩:=List.mem_map.1 hm
  obtain⟨k,L,h1,h2,_⟩:=whL_mem.1 hx
  have:=zFq hi L (List.mem_of_getElem? h1)
  rw[hasId_iff.2 h2]at this;cases this
 |some k=>
  obtain⟨L,h1,h2⟩:=xW hi
  refine zLw h.keys (h.wh.mem_iff.2 (whL_mem.2 ⟨k,L,h1,hasId_iff.1 h2,by simp⟩))
theorem zQx {B:List (List zD)} (h:((whL 0 B).map (·.1)).Nodup) {id:Int} {k j:Nat} {L M:List zD} (hk:B[k]? =some L) (hj:B[j]? =some M) (h1:id∈L.map (·.id)) (h2:id∈M.map (·.id)):k=j:=by
 have a:=whL_mem (n:=0) (x:=(id,(k:Int)))|>.2 ⟨k,L,hk,h1,by simp⟩
 have b:=whL_mem (n:=0) (x:=(id,(j:Int)))|>.2 ⟨j,M,hj,h2,by simp⟩
 have:=lL h a b
 omega
open Go Cv Go.Proofs
def yT (B:List (List zD)) (id q:Int):List (List zD)×Int:=match fD B id with
 |none=>(B,26)
 |some k=>(B.set k (xS (B.getD k []) id q).1,(xS (B.getD k []) id q).2)
theorem zEe {L:List zD} (h:(L.map (·.id)).Nodup) (id q:Int):((xS L id q).1.map (·.id)=L.map (·.id)∧kQ (xS L id q).1 id=kQ L id)∨((xS L id q).1=L.filter (fun o=> !decide (o.id=id))∧kQ (xS L id q).1 id=false):=by
 rw[xS]
 by_cases h1:kQ L id=false
 ·rw[if_pos h1];exact .inl ⟨rfl,rfl⟩
 have h1:kQ L id=true:=by simpa using h1
 rw[if_neg (by rw[h1];decide)]
 by_cases h2:q<1∨(gE L id).qty<q
 ·rw[if_pos h2];exact .inl ⟨rfl,rfl⟩
 rw[if_neg h2]
 dsimp only
 by_cases h3:(gE L id).qty=q
 ·refine .inr ?_
  have e:yL L id q=L.filter fun o=> !decide (o.id=id):=by rw[← h3];exact zLa h h1
  refine⟨e,?_⟩
  rw[e,kQ,List.any_eq_false]
  intro o ho
  rw[List.mem_filter]at ho
  simpa using ho.2
 ·refine .inl ?_
  have hm:(yL L id q).map (·.id)=L.map (·.id):=by
   have:yL L id q=L.map fun o=>if o.id=id then{o with qty:=o.qty-q}else o:=by
    rw[yL,← List.filterMap_eq_map]
    refine wS fun o ho=> ?_
    simp only[Function.comp]
    by_cases e:o.id=id
    ·have hg:=uB h ho
     rw[e]at hg
     rw[if_pos e,if_pos e,if_neg (fun e2=>h3 (by rw[hg];exact e2))]
    ·rw[if_neg e,if_neg e]
   rw[this,List.map_map]
   refine List.map_congr_left fun o _=> ?_
   simp only[Function.comp]
   split<;>rfl
  refine⟨hm,?_⟩
  rw[Bool.eq_iff_iff,hasId_iff,hasId_iff,hm]
theorem zXt:∀{l:List (Int×Int)} {k:Int},(l.map (·.1)).Nodup→zQe k l=l.filter fun x=> !decide (x.1=k)
 |[],k,_=>rfl
 |(a,b)::l,k,h=>by
  rw[List.map_cons,List.nodup_cons]at h
  rw[zQe]
  by_cases e:k=a
  ·subst e
   rw[if_pos rfl,List.filter_cons_of_neg (by simp)]
   symm
   rw[List.filter_eq_self]
   intro x hx
   have:x.1≠k:=fun e=>h.1 (e▸List.mem_map_of_mem (f:=(·.1)) hx)
   simp[this]
  ·rw[if_neg e,List.filter_cons_of_pos (by simp[Ne.symm e]),zXt h.2]
theorem zQd:∀{l:List (Int×Int)} {k x:Int},k∉l.map (·.1)→eY k x l=l++[(k,x)]
 |[],k,x,_=>rfl
 |p::l,k,x,h=>by
  rw[List.map_cons,List.mem_cons,not_or]at h
  rw[eY,if_neg h.1,zQd h.2];rfl
theorem kH {α:Type} {l:List α} {k:Nat} {x:α} (h:l[k]? =some x):l.set k x=l:=by
 apply List.ext_getElem?
 intro i
 rw[List.getElem?_set]
 split
 ·rename_i e
  subst e
  rw[if_pos (List.getElem?_eq_some_iff.1 h).1,h]
 ·rfl
theorem MSt.Rep.set {s:MSt} {p:Prd} {B:List (List zD)} (h:s.Rep p B) {k:Nat} {L':List zD} {b':Book} (hb:b'.Rep L') (hk:k<B.length) {wh':List (Int×Int)} (hw:wh'.Perm (whL 0 (B.set k L'))) (hi:((whL 0 (B.set k L')).map (·.1)).Nodup):({s with books:=s.books.set k b',wh:=wh'}:MSt).Rep p (B.set k L'):=by
 refine⟨h.ep,by simpa using h.bl,fun j b L h1 h2=> ?_,hw,hi⟩
 by_cases e:k=j
 ·subst e
  have h1:(s.books.set k b')[k]? =some b:=h1
  rw[vD (by rw[h.bl];exact hk)]at h1
  rw[vD hk]at h2
  cases h1;cases h2;exact hb
 ·have h1:(s.books.set k b')[j]? =some b:=h1
  rw[vA e]at h1 h2
  exact h.bk j b L h1 h2
theorem MSt.Rep.take {s:MSt} {p:Prd} {B:List (List zD)} (h:s.Rep p B) {id q:Int} {k:Nat} (hi:fD B id=some k) {L:List zD} (hL:B[k]? =some L) (hn:(L.map (·.id)).Nodup) {b':Book} (hb:b'.Rep (xS L id q).1):
 ({s with books:=s.books.set k b',wh:=if kQ (xS L id q).1 id=true then s.wh else zQe id s.wh}:MSt).Rep p (yT B id q).1:=by
 have hk:=(List.getElem?_eq_some_iff.1 hL).1
 have ht:(yT B id q).1=B.set k (xS L id q).1:=by simp only[yT,hi,zI hL]
 obtain⟨L2,e1,hh⟩:=xW hi
 rw[hL]at e1;cases e1
 obtain⟨rest,hr⟩:=zDl (B:=B) 0 k hk
 have hL0:=hr L
 rw[kH hL]at hL0
 rw[ht]
 rcases zEe hn id q with⟨e1,e2⟩|⟨e1,e2⟩
 ·have hm:∀X Y:List zD,X.map (·.id)=Y.map (·.id)→X.map (fun o=>(o.id,((0+k:Nat):Int)))=Y.map (fun o=>(o.id,((0+k:Nat):Int))):=by
   intro X Y e
   have:=congrArg (List.map fun i:Int=>(i,((0+k:Nat):Int))) e
   rw[List.map_map,List.map_map]at this
   exact this
  have hp:(whL 0 (B.set k (xS L id q).1)).Perm (whL 0 B):=by
   refine(hr _).trans ?_
   rw[hm _ _ e1]
   exact hL0.symm
  rw[e2,hh,if_pos rfl]
  exact h.set hb hk (h.wh.trans hp.symm) ((hp.map (·.1)).nodup_iff.2 h.ids)
 ·rw[e2,if_neg (by decide)]
  have hrest:∀x∈rest,x.1≠id:=by
   intro x hx e
   have hnd:=(hL0.map (·.1)).nodup_iff.1 h.ids
   rw[List.map_append,List.map_map]at hnd
   have h1:id∈L.map ((·.1)∘fun o:zD=>(o.id,((0+k:Nat):Int))):=hasId_iff.1 hh
   exact(List.nodup_append.1 hnd).2.2 id h1 x.1 (List.mem_map_of_mem (f:=(·.1)) hx) e.symm
  have hp:(whL 0 (B.set k (xS L id q).1)).Perm ((whL 0 B).filter fun x=> !decide (x.1=id)):=by
   refine(hr _).trans (.trans ?_ (hL0.filter _).symm)
   rw[e1,List.filter_append,List.filter_map]
   have:rest.filter (fun x=> !decide (x.1=id))=rest:=by
    rw[List.filter_eq_self]
    intro x hx
    simp[hrest x hx]
   rw[this]
   exact .refl _
  refine h.set hb hk ?_ ((hp.map (·.1)).nodup_iff.2 (h.ids.sublist (List.Sublist.map _ List.filter_sublist)))
  rw[zXt h.keys]
  exact(h.wh.filter _).trans hp.symm
def zCd (p:Prd) (B:List (List zD)) (inst id:Int) (s price q:Int):List (List zD)×Int:=
 if inst<0∨B.length≤inst then(B,20)else if(fD B id).isSome=true then(B,25)else if 250≤(whL 0 B).length then(B,13)else if p.price inst price≠0 then(B,p.price inst price)
 else(B.set inst.toNat (eL (B.getD inst.toNat []) s id price q).1,(eL (B.getD inst.toNat []) s id price q).2)
theorem zPs (L:List zD) (s id p q:Int):((zGh L s id p q).map (·.id)).Perm (id::L.map (·.id)):=by
 have:∀X:List zD,((X.takeWhile (before s p)++⟨id,s,p,q,uE L s p⟩::X.dropWhile (before s p)).map (·.id)).Perm (id::X.map (·.id)):=by
  intro X
  conv=>rhs;rw[← List.takeWhile_append_dropWhile (p:=before s p) (l:=X)]
  rw[List.map_append,List.map_cons,List.map_append]
  exact List.perm_middle
 rw[zGh]
 split
 ·refine(this _).trans ?_
  rw[zXs]
 ·exact this _
theorem MSt.Rep.add {s:MSt} {p:Prd} {B:List (List zD)} (h:s.Rep p B) (inst id:Int) (sd:Bool) (price q:Int):
 (MSt.addF ⟨s,inst,id,sd,price,q⟩).1.Rep p (zCd p B inst id (zA sd) price q).1∧(MSt.addF ⟨s,inst,id,sd,price,q⟩).2=(zCd p B inst id (zA sd) price q).2:=by
 have hsd:zA sd=1∨zA sd=2:=by cases sd;exact .inl rfl;exact .inr rfl
 rw[MSt.addF,zCd]
 dsimp only
 rw[h.bl,h.at_,h.wh.length_eq,show s.p.price inst price=p.price inst price by rw[h.ep],Option.isSome_map]
 by_cases c1:inst<0∨(B.length:Int)≤inst
 ·rw[if_pos c1,if_pos c1];exact⟨h,rfl⟩
 rw[if_neg c1,if_neg c1]
 by_cases c2:(fD B id).isSome=true
 ·rw[if_pos c2,if_pos c2];exact⟨h,rfl⟩
 rw[if_neg c2,if_neg c2]
 by_cases c3:250≤(whL 0 B).length
 ·rw[if_pos c3,if_pos c3];exact⟨h,rfl⟩
 rw[if_neg c3,if_neg c3]
 by_cases c4:p.price inst price≠0
 ·rw[if_pos c4,if_pos c4];exact⟨h,rfl⟩
 rw[if_neg c4,if_neg c4]
 obtain⟨k,hk⟩:∃k:Nat,inst=k:=⟨inst.toNat,by omega⟩
 subst hk
 rw[Int.toNat_natCast]
 have hkl:k<B.length:=by omega
 obtain⟨b,hb⟩:=yA (l:=s.books) (i:=k) (by rw[h.bl];exact hkl)
 obtain⟨L,hL⟩:=yA (l:=B) (i:=k) hkl
 have hba:s.bookAt k=b:=by rw[MSt.bookAt,Int.toNat_natCast];exact zI hb
 rw[hba,zI hL]
 obtain⟨r1,r2⟩:=(h.bk k b L hb hL).add hsd id price q
 refine⟨?_,r2⟩
 rw[r2]
 obtain⟨rest,hr⟩:=zDl (B:=B) 0 k hkl
 have hL0:=hr L
 rw[kH hL]at hL0
 have hcase:(eL L (zA sd) id price q).2≠0∧(eL L (zA sd) id price q).1=L∨(eL L (zA sd) id price q).2=0∧(eL L (zA sd) id price q).1=zGh L (zA sd) id price q:=by
  rw[eL]
  repeat' split
  ·exact .inl ⟨by simp,rfl⟩
  ·exact .inl ⟨by simp,rfl⟩
  ·exact .inl ⟨by simp,rfl⟩
  ·exact .inr ⟨rfl,rfl⟩
 rcases hcase with⟨e1,e2⟩|⟨e1,e2⟩
 ·rw[if_neg e1]
  refine h.set r1 hkl ?_ ?_
  ·rw[e2,kH hL];exact h.wh
  ·rw[e2,kH hL];exact h.ids
 ·rw[if_pos e1]
  have hnk:id∉s.wh.map (·.1):=by
   intro hm
   obtain⟨x,hx,rfl⟩:=List.mem_map.1 hm
   have:=zLw h.keys hx
   rw[h.at_]at this
   cases hq:fD B x.1 with
   |none=>rw[hq]at this;cases this
   |some j=>rw[hq]at c2;exact c2 rfl
  have hp:(whL 0 (B.set k (eL L (zA sd) id price q).1)).Perm ((id,(k:Int))::whL 0 B):=by
   refine(hr _).trans (.trans ?_ (hL0.symm.cons _))
   rw[e2,← List.cons_append]
   refine List.Perm.append_right _ ?_
   have:=(zPs L (zA sd) id price q).map fun i:Int=>(i,(k:Int))
   rw[List.map_map,List.map_cons,List.map_map]at this
   rw[Nat.zero_add]
   exact this
  refine h.set r1 hkl ?_ ((hp.map (·.1)).nodup_iff.2 (List.nodup_cons.2 ⟨?_,h.ids⟩))
  ·rw[zQd hnk]
   exact(List.perm_append_singleton _ _).trans ((h.wh.cons _).trans hp.symm)
  ·rw[← (h.wh.map (·.1)).mem_iff];exact hnk
theorem zNk:∀(n k:Nat),whL k (List.replicate n [])=[]
 |0,_=>rfl
 |n+1,k=>by rw[List.replicate_succ,whL,zNk];rfl
theorem zTn (p:Prd):(gJ p).Rep p (List.replicate p.count []):=by
 refine⟨rfl,by simp[gJ],fun k b L h1 h2=> ?_,?_,?_⟩
 ·have e1:b=book0:=List.eq_of_mem_replicate (List.mem_of_getElem? (show(List.replicate p.count book0)[k]? =some b from h1))
  have e2:L=[]:=List.eq_of_mem_replicate (List.mem_of_getElem? h2)
  rw[e1,e2];exact z2a
 ·rw[zNk];exact .refl _
 ·rw[zNk];exact List.nodup_nil
open Go Cv Go.Proofs
structure BkT where
 b:Book
 L:List zD
 s:Bool
@[reducible] def z7p (s:MSt):List AObj:=[xR s 0,xR s 1,xR s 2,xR s 3,xR s 4]
def topsOC:Con:=con1 MSt (fun _=>[.nm 0 0]) (fun s=>z7p s) MSt.cntOk (fun s=> .own 5) (fun s=>z7p s++[.own 55 6 (s.tops.map zT)])
structure StI where
 s:MSt
 p:Prd
 B:List (List zD)
 id:Int
 q:Int
def stakeC:Con where
 ι:=StI
 pat:=fun i=>[.nm 0 0,zB i.id,zB i.q]
 pre:=fun i=>[zE i.s]
 cnd:=fun i=>i.s.Rep i.p i.B∧i.B.length≤1000
 alts:=fun i=>[{o:=MSt,res:=fun _=>zB (yT i.B i.id i.q).2,post:=fun s=>[zE s],rel:=fun s=>s.Rep i.p (yT i.B i.id i.q).1}]
def z6 (B:List (List zD)) (id:Int):Int×zD×Bool:=match fD B id with
 |none=>(0,yIm,false)
 |some k=>(k,gE (B.getD k []) id,true)
def sfindC:Con:=con1 StI (fun i=>[.nm 0 0,zB i.id]) (fun i=>[zE i.s]) (fun i=>i.s.Rep i.p i.B∧i.B.length≤1000) (fun i=> .tup [zB (z6 i.B i.id).1,z1i (z6 i.B i.id).2.1,yO (z6 i.B i.id).2.2]) (fun i=>[zE i.s])
open Go Cv Go.Proofs
def pM (a:Nat×Top→Prop) (b:Nat×Top) (c:MSt) (d:Nat) (e:Book):Prop:=a b∧AObj.own 3 1 [[D.v (.int .i64 1)],[D.v (.int .i64 2)]]=AObj.own 3 1 [[D.v (.int .i64 1)],[D.v (.int .i64 2)]]∧xR c 0=xR c 0∧AObj.objs 102 Book 6 zQ (c.books.set (↑d:Int).toNat e) none=xR c 1∧xR c 2=xR c 2∧xR c 3=xR c 3∧xR c 4=xR c 4
def zBn (a:MSt) (b:Nat×Top) (c:Nat×Top→Prop) (d:Nat) (e:Book):Prop:=∃(f:Nat×Top),List.map zT (xX a f.fst f.snd)=List.map zT (xX a b.fst b.snd)∧pM c f a d e
def zSz (s:MSt):Prop:=
 (rI s)∧∃(a:Nat),(↑a:Int)=0∧List.map zT (qA s a)=List.replicate (↑s.books.length:Int).toNat [D.v (.bool false),D.v (.bool false),D.v (.int .i64 0),D.v (.int .i64 0),D.v (.int .i64 0),D.v (.int .i64 0)]∧∃(b:Nat→Prop),∃(c:Nat→Nat),b a∧∀(d:Nat),b d→cnd (decide ((↑d:Int)<(↑s.books.length:Int))) ((0≤(↑d:Int)∧(↑d:Int)<(↑s.books.length:Int))∧(↑d:Int).toNat<s.books.length∧∃(e:Nat×Top),List.map zT (xX s e.fst e.snd)=List.map zT (qA s d)∧∃(f:Nat×Top→Prop),(((0:Int)≤(0:Int)∧0<(↑(2:Nat):Int))∧∃(g:Int),zF [[D.v (.int .i64 1)],[D.v (.int .i64 2)]] (Int.toNat 0) 0 1=some [D.v (.int .i64 g)]∧∃(h:Book),s.books[(↑d:Int).toNat]?=some h∧∃(j:BkS),zA j.side=g∧yB j.b=yB h∧(wF j)∧∀(k:Unit),True→∃(l:Book),yB j.b=yB l∧(↑d:Int).toNat=(↑d:Int).toNat∧(↑d:Int).toNat<s.books.length∧cnd (zS j).snd ((qU d s e)∧(qU d s e)∧(qU d s e)∧(↑d:Int).toNat<(vQ s e).length∧(dA d s e)∧(dA d s e)∧(zS j).fst.qty=(zS j).fst.qty∧(zS j).fst.price=(zS j).fst.price∧(↑d:Int).toNat<(dC s e d).length∧(e7 d s e j)∧(zS j).fst.qty=(zS j).fst.qty∧(↑d:Int).toNat<(gH s e d j).length∧∃(m:Nat×Top),List.map zT (xX s m.fst m.snd)=yC (gH s e d j) (↑d:Int).toNat ((0:Nat)+(4:Nat)+nat_lit 0*1) [D.v (.int .i64 (zS j).fst.qty)]∧pM f m s d l) (zBn s e f d l))∧∀(g:Nat×Top),f g→∃(h:Nat×Top),List.map zT (xX s h.fst h.snd)=List.map zT (xX s g.fst g.snd)∧∃(j:Nat×Top→Prop),((0≤IntKind.i64.wrap ((0:Int)+(1:Int))∧IntKind.i64.wrap ((0:Int)+(1:Int))<(↑(2:Nat):Int))∧∃(k:Int),zF [[D.v (.int .i64 1)],[D.v (.int .i64 2)]] (IntKind.i64.wrap ((0:Int)+(1:Int))).toNat 0 1=some [D.v (.int .i64 k)]∧∃(l:Book),s.books[(↑d:Int).toNat]?=some l∧∃(m:BkS),zA m.side=k∧yB m.b=yB l∧(wF m)∧∀(n:Unit),True→∃(p:Book),yB m.b=yB p∧(↑d:Int).toNat=(↑d:Int).toNat∧(↑d:Int).toNat<s.books.length∧cnd (zS m).snd ((qU d s h)∧(qU d s h)∧(qU d s h)∧(↑d:Int).toNat<(vQ s h).length∧(f0 d s h)∧(f0 d s h)∧(zS m).fst.qty=(zS m).fst.qty∧(zS m).fst.price=(zS m).fst.price∧(↑d:Int).toNat<(f9 s h d).length∧(eH d s h m)∧(zS m).fst.qty=(zS m).fst.qty∧(↑d:Int).toNat<(cE s h d m).length∧∃(q:Nat×Top),List.map zT (xX s q.fst q.snd)=yC (cE s h d m) (↑d:Int).toNat ((0:Nat)+(4:Nat)+(nat_lit 0+nat_lit 1) % ((2:Int) ^ IntKind.i64.bits).natAbs*1) [D.v (.int .i64 (zS m).fst.qty)]∧pM j q s d p) (zBn s h j d p))∧∀(k:Nat×Top),j k→∃(l:Nat),(↑l:Int)=IntKind.i64.wrap ((↑d:Int)+1)∧List.map zT (qA s l)=List.map zT (xX s k.fst k.snd)∧b l∧c l<c d∧xR s 0=xR s 0∧xR s 1=xR s 1∧xR s 2=xR s 2∧xR s 3=xR s 3∧xR s 4=xR s 4) (∃(e:Unit),sb s.p.code=sb s.p.code∧s.p.tick=s.p.tick∧s.p.low=s.p.low∧s.p.high=s.p.high∧s.p.wide=s.p.wide∧s.p.rule=s.p.rule∧s.p.top=s.p.top∧s.p.least=s.p.least∧s.p.part=s.p.part∧AObj.objs 102 Book 6 zQ s.books none=xR s 1∧yR s.wh=yR s.wh∧AObj.fro 1 (iE s.p.months)=xR s 3∧AObj.fro 1 (iE s.p.settle)=xR s 4∧List.map zT s.tops=List.map zT (qA s d)∧True)
theorem yAn (hG:GOk Tryz.prog ([(49,bestC)])) (h:∀(s:MSt),topsOC.cnd s→zSz s):topsOC.ok Tryz.prog 23:=okw mixed hG 0 (fun s=>yFb s) (fun s=>yFf s) [] Tryz.func23 h
def tK (a:MSt) (b:StI):Prop:=AObj.fro 1 (iE a.p.months)=AObj.fro 1 (iE b.s.p.months)∧AObj.fro 1 (iE a.p.settle)=AObj.fro 1 (iE b.s.p.settle)∧a.Rep b.p (yT b.B b.id b.q).fst
def sJ (a:MSt) (b:StI):Prop:=yR a.wh=yR b.s.wh∧tK a b
def aD (a:StI) (b:Int) (c:Bool):Prop:=vK (Value.int IntKind.i64 a.id) (yR a.s.wh)=some [D.v (.int .i64 b)]∧c=true∨vK (Value.int IntKind.i64 a.id) (yR a.s.wh)=none∧[D.v (.int .i64 b)]=[D.v (.int .i64 0)]∧c=false
def dQ (a:StI):Prop:=∀(b:Value×List D),b∈yR a.s.wh→like (Value.int IntKind.i64 a.id) b.fst=true
def zTc (i:StI):Prop:=
 (dQ i)∧∃(a:Bool),∃(b:Int),(aD i b a)∧cnd (!a) (∃(c:MSt),(yT i.B i.id i.q).snd=26∧sb c.p.code=sb i.s.p.code∧c.p.tick=i.s.p.tick∧c.p.low=i.s.p.low∧c.p.high=i.s.p.high∧c.p.wide=i.s.p.wide∧c.p.rule=i.s.p.rule∧c.p.top=i.s.p.top∧c.p.least=i.s.p.least∧c.p.part=i.s.p.part∧AObj.objs 102 Book 6 zQ c.books none=AObj.objs 102 Book 6 zQ i.s.books none∧sJ c i) ((0≤b∧b<(↑i.s.books.length:Int))∧b.toNat<i.s.books.length∧∃(c:Book),i.s.books[b.toNat]?=some c∧∃(d:FlI),d.id=i.id∧d.qty=i.q∧yB d.b=yB c∧d.b.Rep d.L∧∀(e:Book),e.Rep (xS d.L d.id d.qty).fst→∃(f:Book),yB e=yB f∧b.toNat=b.toNat∧b.toNat<i.s.books.length∧(0≤b∧b<(↑(i.s.books.set b.toNat f).length:Int))∧b.toNat<(i.s.books.set b.toNat f).length∧∃(g:Book),(i.s.books.set b.toNat f)[b.toNat]?=some g∧∃(h:FlI),h.id=i.id∧yB h.b=yB g∧h.b.Rep h.L∧∀(j:Unit),True→∃(k:Book),yB h.b=yB k∧b.toNat=b.toNat∧b.toNat<(i.s.books.set b.toNat f).length∧cnd (!kQ h.L h.id) ((dQ i)∧∃(l:MSt),(yT i.B i.id i.q).snd=(xS d.L d.id d.qty).snd∧sb l.p.code=sb i.s.p.code∧l.p.tick=i.s.p.tick∧l.p.low=i.s.p.low∧l.p.high=i.s.p.high∧l.p.wide=i.s.p.wide∧l.p.rule=i.s.p.rule∧l.p.top=i.s.p.top∧l.p.least=i.s.p.least∧l.p.part=i.s.p.part∧AObj.objs 102 Book 6 zQ l.books none=AObj.objs 102 Book 6 zQ ((i.s.books.set b.toNat f).set b.toNat k) none∧yR l.wh=rR (Value.int IntKind.i64 i.id) (yR i.s.wh)∧tK l i) (∃(l:MSt),(yT i.B i.id i.q).snd=(xS d.L d.id d.qty).snd∧sb l.p.code=sb i.s.p.code∧l.p.tick=i.s.p.tick∧l.p.low=i.s.p.low∧l.p.high=i.s.p.high∧l.p.wide=i.s.p.wide∧l.p.rule=i.s.p.rule∧l.p.top=i.s.p.top∧l.p.least=i.s.p.least∧l.p.part=i.s.p.part∧AObj.objs 102 Book 6 zQ l.books none=AObj.objs 102 Book 6 zQ ((i.s.books.set b.toNat f).set b.toNat k) none∧sJ l i))
theorem yCs (hG:GOk Tryz.prog ([(100,fillC),(75,bfindC)])) (h:∀(i:StI),stakeC.cnd i→zTc i):stakeC.ok Tryz.prog 76:=okw mixed hG 0 (fun _=>[]) (fun _=>[]) [0] Tryz.func76 h
open Go Cv Go.Proofs
theorem yJo (s:MSt) (h:topsOC.cnd s):zSz s:=by
 obtain⟨h1,h2⟩:s.cntOk:=h
 unfold zSz e7 eH cE qU wF rI dA gH zS dC f0 f9 vQ zBn pM
 have p48:(2:Int) ^ (48:Nat)=281474976710656:=by decide
 refine⟨⟨by omega,by omega,by omega,by rw[p48];omega⟩,0,rfl,?_,fun j=>j≤s.books.length,fun j=>s.books.length-j,by omega,fun j hj=>zK (fun hlt=> ?_) (fun hlt=> ?_)⟩
 ·rw[qA,List.map_append,List.map_replicate];rfl
 ·have hj':j<s.books.length:=by omega
  obtain⟨b,hb⟩:=yA hj'
  have hc:=h2 b (List.mem_of_getElem? hb)
  simp only[Int.toNat_natCast]
  have ha:∀x,(List.map zT (xX s j x)).length=s.books.length:=fun x=>by rw[List.length_map,zEx hj']
  have w1:IntKind.i64.wrap (0+1)=1:=by decide
  have w2:(0+1) % ((2:Int) ^ IntKind.i64.bits).natAbs=1:=by decide
  refine⟨⟨by omega,by omega⟩,by omega,(j,top0),by rw[zCy hj'],fun x=>x=(j,top0.buy (b.best b.buys)),⟨⟨by decide,by decide⟩,1,rfl,b,hb,⟨false,b⟩,rfl,rfl,hc,fun _ _=>⟨b,rfl,kp,by omega,?_⟩⟩,?_⟩
  ·refine Cv.cnd.mk (fun c=> ?_) (fun c=> ?_)
   ·have c:(b.best b.buys).2=true:=c
    have e1:=qZ (s:=s) hj' (x:=top0) (y:={top0 with has1:=true}) (f:=0+0+0*1) (ds:=[D.v (.bool true)]) rfl
    have e2:=qZ (s:=s) hj' (x:={top0 with has1:=true}) (y:={top0 with has1:=true,p1:=(b.best b.buys).1.price}) (f:=0+2+0*1) (ds:=[D.v (.int .i64 (b.best b.buys).1.price)]) rfl
    have e3:=qZ (s:=s) hj' (x:={top0 with has1:=true,p1:=(b.best b.buys).1.price}) (y:={top0 with has1:=true,p1:=(b.best b.buys).1.price,q1:=(b.best b.buys).1.qty}) (f:=0+4+0*1) (ds:=[D.v (.int .i64 (b.best b.buys).1.qty)]) rfl
    dsimp only
    simp only[show b.side false=b.buys from rfl,e1,e2,e3,ha]
    (repeat'(first|exact rfl|exact trivial|assumption|apply And.intro|refine fun(_:Unit) (_:True)=>?_|refine Exists.intro () ?_|omega|(dsimp only;omega)))
    refine⟨(j,{top0 with has1:=true,p1:=(b.best b.buys).1.price,q1:=(b.best b.buys).1.qty}),rfl,?_,?_⟩
    ·rw[Top.buy,if_pos c]
    ·(repeat'(first|exact rfl|exact trivial|assumption|apply And.intro|refine fun(_:Unit) (_:True)=>?_|refine Exists.intro () ?_|omega|(dsimp only;omega)))
     rw[hP hb];rfl
   ·have c:(b.best b.buys).2=false:=c
    refine⟨(j,top0),rfl,?_,?_⟩
    ·rw[Top.buy,if_neg (by rw[c];simp)]
    ·(repeat'(first|exact rfl|exact trivial|assumption|apply And.intro|refine fun(_:Unit) (_:True)=>?_|refine Exists.intro () ?_|omega|(dsimp only;omega)))
     rw[hP hb];rfl
  ·rintro _ rfl
   rw[w1]
   generalize hx:top0.buy (b.best b.buys)=x
   have hx2:b.top=x.sell (b.best b.sells):=by rw[Book.top,hx]
   refine⟨(j,x),rfl,fun y=>y=(j,b.top),⟨⟨by decide,by decide⟩,2,rfl,b,hb,⟨true,b⟩,rfl,rfl,hc,fun _ _=>⟨b,rfl,kp,by omega,?_⟩⟩,?_⟩
   ·refine Cv.cnd.mk (fun c=> ?_) (fun c=> ?_)
    ·have c:(b.best b.sells).2=true:=c
     have e1:=qZ (s:=s) hj' (x:=x) (y:={x with has2:=true}) (f:=0+0+1*1) (ds:=[D.v (.bool true)]) rfl
     have e2:=qZ (s:=s) hj' (x:={x with has2:=true}) (y:={x with has2:=true,p2:=(b.best b.sells).1.price}) (f:=0+2+1*1) (ds:=[D.v (.int .i64 (b.best b.sells).1.price)]) rfl
     have e3:=qZ (s:=s) hj' (x:={x with has2:=true,p2:=(b.best b.sells).1.price}) (y:={x with has2:=true,p2:=(b.best b.sells).1.price,q2:=(b.best b.sells).1.qty}) (f:=0+4+1*1) (ds:=[D.v (.int .i64 (b.best b.sells).1.qty)]) rfl
     dsimp only
     simp only[w2,show b.side true=b.sells from rfl,e1,e2,e3,ha]
     (repeat'(first|exact rfl|exact trivial|assumption|apply And.intro|refine fun(_:Unit) (_:True)=>?_|refine Exists.intro () ?_|omega|(dsimp only;omega)))
     refine⟨(j,{x with has2:=true,p2:=(b.best b.sells).1.price,q2:=(b.best b.sells).1.qty}),rfl,?_,?_⟩
     ·rw[hx2,Top.sell,if_pos c]
     ·(repeat'(first|exact rfl|exact trivial|assumption|apply And.intro|refine fun(_:Unit) (_:True)=>?_|refine Exists.intro () ?_|omega|(dsimp only;omega)))
      rw[hP hb];rfl
    ·have c:(b.best b.sells).2=false:=c
     refine⟨(j,x),rfl,?_,?_⟩
     ·rw[hx2,Top.sell,if_neg (by rw[c];simp)]
     ·(repeat'(first|exact rfl|exact trivial|assumption|apply And.intro|refine fun(_:Unit) (_:True)=>?_|refine Exists.intro () ?_|omega|(dsimp only;omega)))
      rw[hP hb];rfl
   ·rintro _ rfl
    refine⟨j+1,by rw[w64 (by omega)];rfl,?_⟩
    refine⟨by dsimp only;rw[zCr hb],?_⟩
    exact kp
 ·have hj:j≤s.books.length:=hj
  obtain rfl:j=s.books.length:=by omega
  have e:qA s s.books.length=s.tops:=by
   rw[qA,Nat.sub_self,List.replicate_zero,List.append_nil,List.take_of_length_le (by rw[MSt.tops,List.length_map];omega)]
  rw[e]
  exact kp
theorem zRc:topsOC.ok Tryz.prog 23:=yAn (gokc zDq gok0) yJo
theorem yJq (i:StI) (h:stakeC.cnd i):zTc i:=by
 obtain⟨hR,hB⟩:i.s.Rep i.p i.B∧i.B.length≤1000:=h
 have hat:=hR.at_ i.id
 unfold zTc dQ aD sJ tK
 cases hi:fD i.B i.id with
 |none=>
  rw[hi]at hat
  refine⟨gW _ _,false,0,.inr ⟨by rw[bF,hat];rfl,rfl,rfl⟩,Cv.cnd.mk (fun _=>⟨i.s,?_⟩) (fun e=>absurd e (by decide))⟩
  have ht:yT i.B i.id i.q=(i.B,26):=by rw[yT,hi]
  rw[ht]
  exact⟨rfl,rfl,rfl,rfl,rfl,rfl,rfl,rfl,rfl,rfl,rfl,rfl,rfl,rfl,hR⟩
 |some k=>
  rw[hi]at hat
  obtain⟨L,hL,hh⟩:=xW hi
  have hk:=(List.getElem?_eq_some_iff.1 hL).1
  obtain⟨b,hb⟩:=yA (l:=i.s.books) (i:=k) (by rw[hR.bl];exact hk)
  have hbR:=hR.bk k b L hb hL
  have hbl:=hR.bl
  have hnd:=hbR.ords.2.1
  refine⟨gW _ _,true,k,.inl ⟨by rw[bF,hat];rfl,rfl⟩,Cv.cnd.mk (fun e=>absurd e (by decide)) (fun _=> ?_)⟩
  rw[Int.toNat_natCast]
  refine⟨⟨by omega,by omega⟩,by omega,b,hb,⟨b,L,i.id,i.q⟩,rfl,rfl,rfl,hbR,fun b' hb'=> ?_⟩
  have hT:=hR.take (q:=i.q) hi hL hnd hb'
  have hk2:(yT i.B i.id i.q).2=(xS L i.id i.q).2:=by simp only[yT,hi,zI hL]
  refine⟨b',rfl,rfl,by omega,by rw[List.length_set];omega,by rw[List.length_set];omega,b',vD (by omega),⟨b',(xS L i.id i.q).1,i.id,0⟩,rfl,rfl,hb',fun _ _=>⟨b',rfl,rfl,by rw[List.length_set];omega,Cv.cnd.mk (fun e=>⟨gW _ _,?_⟩) (fun e=> ?_)⟩⟩
  ·have e:kQ (xS L i.id i.q).1 i.id=false:=by simpa using e
   rw[e,if_neg (by decide)]at hT
   refine⟨{i.s with books:=i.s.books.set k b',wh:=zQe i.id i.s.wh},hk2,rfl,rfl,rfl,rfl,rfl,rfl,rfl,rfl,rfl,?_,(zRe _ _).symm,rfl,rfl,hT⟩
   rw[List.set_set]
  ·have e:kQ (xS L i.id i.q).1 i.id=true:=by simpa using e
   rw[e,if_pos rfl]at hT
   refine⟨{i.s with books:=i.s.books.set k b',wh:=i.s.wh},hk2,rfl,rfl,rfl,rfl,rfl,rfl,rfl,rfl,rfl,?_,rfl,rfl,rfl,hT⟩
   rw[List.set_set]
theorem tX:stakeC.ok Tryz.prog 76:=yCs (gokc yDn (gokc zPv gok0)) yJq
open Go Cv Go.Proofs
structure BOk (p:Prd) (B:List (List zD)):Prop where
 pc:p.check=0
 ps:p.small
 bl:B.length=p.count
 pr:∀(k:Nat) (L:List zD),B[k]? =some L→∀o∈L,p.price k o.price=0
def motherC:Con:=con1 Bool (fun b=>[zB (zA b)]) (fun _=>[]) (fun _=>True) (fun b=>zB (zA (!b))) (fun _=>[])
def jH (s:Bool) (p x:Int):Bool:=if s then decide (p≤x)else decide (x≤p)
structure GoI where
 s:Bool
 p:Int
 x:Int
def mgoodC:Con:=con1 GoI (fun i=>[zB (zA i.s),zB i.p,zB i.x]) (fun _=>[]) (fun _=>True) (fun i=>yO (jH i.s i.p i.x)) (fun _=>[])
def zV (p:Prd) (B:List (List zD)) (inst:Int) (s:Int):Quote×Bool×Bool:=
 let bq:=yW (j6 ⟨p,B.map yV,inst⟩ s) s
 let l:=bestL (B.getD inst.toNat []) s
 if(l.2 && !(bq.2 && btr s bq.1.price l.1.price))=true then(⟨l.1.price,l.1.qty,⟨0,0⟩,⟨0,0⟩⟩,false,true)else(bq.1,bq.2,bq.2)
structure NxI where
 s:MSt
 p:Prd
 B:List (List zD)
 inst:Int
 sd:Bool
def nextC:Con:=con1 NxI (fun i=>[.nm 0 0,zB i.inst,zB (zA i.sd)]) (fun i=>[zE i.s]) (fun i=>i.s.Rep i.p i.B∧BOk i.p i.B∧0≤i.inst∧i.inst<i.B.length)
 (fun i=> .tup [zWp (zV i.p i.B i.inst (zA i.sd)).1,yO (zV i.p i.B i.inst (zA i.sd)).2.1,yO (zV i.p i.B i.inst (zA i.sd)).2.2]) (fun i=>[zE i.s])
structure wO where
 id:Int
 inst:Int
 side:Int
 price:Int
 qty:Int
 left:Int
 deriving DecidableEq
def yP (f:wO):List D:=[.v (.int .i64 f.id),.v (.int .i64 f.inst),.v (.int .i64 f.side),.v (.int .i64 f.price),.v (.int .i64 f.qty),.v (.int .i64 f.left)]
def yN (inst s:Int):List zD→List Int→List wO
 |o::os,k::ks=>if 0<k then⟨o.id,inst,s,o.price,k,o.qty-k⟩::yN inst s os ks else yN inst s os ks
 |_,_=>[]
def xF (B:List (List zD)) (fs:List wO):List (List zD):=fs.foldl (fun B f=>(yT B f.id f.qty).1) B
def zAz (B:List (List zD)) (inst s:Int):List zD:=atL (B.getD inst.toNat []) s (bestL (B.getD inst.toNat []) s).1.price
def xN (p:Prd) (B:List (List zD)) (inst s q:Int):List wO:=yN inst s (zAz B inst s) (qM ⟨p,zAz B inst s,q⟩)
structure TrI where
 s:MSt
 p:Prd
 B:List (List zD)
 inst:Int
 sd:Bool
 q:Int
def TrI.os (i:TrI):List zD:=zAz i.B i.inst (zA i.sd)
def TrI.sh (i:TrI):List Int:=qM ⟨i.p,i.os,i.q⟩
def TrI.fs (i:TrI) (j:Nat):List wO:=yN i.inst (zA i.sd) (i.os.take j) (i.sh.take j)
def tradeC:Con where
 ι:=TrI
 pat:=fun i=>[.nm 0 0,.agg [zB i.inst,zB (zA i.sd)],zB i.q]
 pre:=fun i=>[zE i.s]
 cnd:=fun i=>i.s.Rep i.p i.B∧BOk i.p i.B∧0≤i.inst∧i.inst<i.B.length∧yQ i.q
 alts:=fun i=>[{o:=MSt,res:=fun _=> .own 1,post:=fun s=>[zE s,.own 181 6 ((xN i.p i.B i.inst (zA i.sd) i.q).map yP)],rel:=fun s=>s.Rep i.p (xF i.B (xN i.p i.B i.inst (zA i.sd) i.q))}]
def yJd (i:TrI):List SAnn:=[{ι:=Nat×MSt,slots:=fun j=>[(0,.nm 0 0),(11,.own 1),(44,zB j.1)],rows:=fun j=>[zE j.2,.own 181 6 ((i.fs j.1).map yP)]}]
open Go Cv Go.Proofs
def zYf (b:Bool):Prop:=
 ∃(a:Unit),(zA !b)=IntKind.i64.wrap (3-zA b)∧True
theorem z4h (hG:GOk Tryz.prog ([])) (h:∀(b:Bool),motherC.cnd b→zYf b):motherC.ok Tryz.prog 91:=okw mixed hG 0 (fun _=>[]) (fun _=>[]) [] Tryz.func91 h
def sL (a:GoI):Prop:=cnd (zA a.s==2) (∃(b:Unit),jH a.s a.p a.x=decide (a.x≥a.p)∧True) (∃(b:Unit),jH a.s a.p a.x=false∧True)
def z5v (i:GoI):Prop:=
 cnd (zA i.s==1) (cnd (decide (i.x≤i.p)) (∃(a:Unit),jH i.s i.p i.x=true∧True) (sL i)) (sL i)
theorem yAc (hG:GOk Tryz.prog ([])) (h:∀(i:GoI),mgoodC.cnd i→z5v i):mgoodC.ok Tryz.prog 92:=okw mixed hG 0 (fun _=>[]) (fun _=>[]) [] Tryz.func92 h
def zAr (a:MSt) (b:NxI):Prop:=sb a.p.code=sb b.s.p.code∧True∧a.p.tick=b.s.p.tick∧a.p.low=b.s.p.low∧a.p.high=b.s.p.high∧a.p.wide=b.s.p.wide∧a.p.rule=b.s.p.rule∧a.p.top=b.s.p.top∧a.p.least=b.s.p.least∧a.p.part=b.s.p.part∧True∧True
def zX (a:NxI):=(zV a.p a.B a.inst (zA a.sd))
def zHq (a:NxI) (b:MSt) (c:Book):Prop:=sb a.s.p.code=sb b.p.code∧a.s.p.tick=b.p.tick∧a.s.p.low=b.p.low∧a.s.p.high=b.p.high∧a.s.p.wide=b.p.wide∧a.s.p.rule=b.p.rule∧a.s.p.top=b.p.top∧a.s.p.least=b.p.least∧a.s.p.part=b.p.part∧AObj.objs 102 Book 6 zQ a.s.books none=AObj.objs 102 Book 6 zQ (b.books.set a.inst.toNat c) none∧yR a.s.wh=yR b.wh∧AObj.fro 1 (iE a.s.p.months)=AObj.fro 1 (iE b.p.months)∧AObj.fro 1 (iE a.s.p.settle)=AObj.fro 1 (iE b.p.settle)∧True
def zEz (a:NxI) (b:BsI) (c:MSt) (d:Book):Prop:=∃(e:Unit),(zX a).fst.price=(yW b.l b.s).fst.price∧(zX a).fst.qty=(yW b.l b.s).fst.qty∧(zX a).fst.a.inst=(yW b.l b.s).fst.a.inst∧(zX a).fst.a.side=(yW b.l b.s).fst.a.side∧(zX a).fst.b.inst=(yW b.l b.s).fst.b.inst∧(zX a).fst.b.side=(yW b.l b.s).fst.b.side∧(zX a).snd.fst=(yW b.l b.s).snd∧(zX a).snd.snd=(yW b.l b.s).snd∧zHq a c d
def zGi (a:NxI) (b:BkS) (c:MSt) (d:Book):Prop:=∃(e:Unit),(zX a).fst.price=(zS b).fst.price∧(zX a).fst.qty=(zS b).fst.qty∧(zX a).fst.a.inst=0∧(zX a).fst.a.side=0∧(zX a).fst.b.inst=0∧(zX a).fst.b.side=0∧(zX a).snd.fst=false∧(zX a).snd.snd=true∧zHq a c d
def zDv (a:fM) (b:NxI) (c:MSt):Prop:=∃(d:BsI),List.map zH d.l=List.map zH (j6 a.i (zA a.s))∧d.s=zA b.sd∧((d.s=1∨d.s=2)∧d.l.length≤1000000)∧∀(e:Unit),True→(0≤b.inst∧b.inst<(↑c.books.length:Int))∧b.inst.toNat<c.books.length∧∃(f:Book),c.books[b.inst.toNat]?=some f∧∃(g:BkS),zA g.side=zA b.sd∧yB g.b=yB f∧(wF g)∧∀(h:Unit),True→∃(j:Book),yB g.b=yB j∧b.inst.toNat=b.inst.toNat∧b.inst.toNat<c.books.length∧cnd (zS g).snd (cnd (yW d.l d.s).snd (∃(k:I3'),k.side=zA b.sd∧k.x=(yW d.l d.s).fst.price∧k.y=(zS g).fst.price∧True∧∀(l:Unit),True→cnd (!btr k.side k.x k.y) (zGi b g c j) (zEz b d c j)) (zGi b g c j)) (zEz b d c j)
def fA (a:fM):Prop:=(a.i.p.code.length≤1099511627776∧a.i.p.months.length≤1099511627776∧a.i.p.settle.length≤1099511627776)∧a.i.tops.length≤1000000∧∀(b:Top),b∈a.i.tops→((-9223372036854775808)≤b.p1∧b.p1≤9223372036854775807)∧(-9223372036854775808)≤b.p2∧b.p2≤9223372036854775807
def zMc (a:MSt) (b:NxI):Prop:=(zAr a b)∧∃(c:fM),sb c.i.p.code=sb b.s.p.code∧iE c.i.p.months=iE a.p.months∧c.i.p.tick=b.s.p.tick∧c.i.p.low=b.s.p.low∧c.i.p.high=b.s.p.high∧c.i.p.wide=b.s.p.wide∧c.i.p.rule=b.s.p.rule∧c.i.p.top=b.s.p.top∧c.i.p.least=b.s.p.least∧c.i.p.part=b.s.p.part∧iE c.i.p.settle=iE a.p.settle∧List.map zT c.i.tops=List.map zT a.tops∧c.i.inst=b.inst∧zA c.s=zA b.sd∧(fA c)∧∀(d:Unit),True→zDv c b a
def gM (a:MSt):Prop:=a.books.length≤1000000∧∀(b:Book),b∈a.books→∀(c:fJ),c∈b.a.queues→(-9223372036854775808)≤c.count∧c.count≤9223372036854775807
def z6j (i:NxI):Prop:=
 (∃(a:MSt),sb a.p.code=sb i.s.p.code∧a.p.tick=i.s.p.tick∧a.p.low=i.s.p.low∧a.p.high=i.s.p.high∧a.p.wide=i.s.p.wide∧a.p.rule=i.s.p.rule∧a.p.top=i.s.p.top∧a.p.least=i.s.p.least∧a.p.part=i.s.p.part∧AObj.objs 102 Book 6 zQ a.books none=AObj.objs 102 Book 6 zQ i.s.books none∧yR a.wh=yR i.s.wh∧AObj.fro 1 (iE a.p.months)=AObj.fro 1 (iE i.s.p.months)∧AObj.fro 1 (iE a.p.settle)=AObj.fro 1 (iE i.s.p.settle)∧(gM a)∧∀(b:Unit),True→(zAr a i)∧(∃(c:fM),sb c.i.p.code=sb i.s.p.code∧iE c.i.p.months=iE a.p.months∧c.i.p.tick=i.s.p.tick∧c.i.p.low=i.s.p.low∧c.i.p.high=i.s.p.high∧c.i.p.wide=i.s.p.wide∧c.i.p.rule=i.s.p.rule∧c.i.p.top=i.s.p.top∧c.i.p.least=i.s.p.least∧c.i.p.part=i.s.p.part∧iE c.i.p.settle=iE a.p.settle∧List.map zT c.i.tops=List.map zT a.tops∧c.i.inst=i.inst∧zA c.s=zA i.sd∧(fA c)∧∀(d:Unit),True→(zDv c i a)∧zDv c i a)∧zMc a i)∧(sb i.s.p.code=sb i.s.p.code∧True∧i.s.p.tick=i.s.p.tick∧i.s.p.low=i.s.p.low∧i.s.p.high=i.s.p.high∧i.s.p.wide=i.s.p.wide∧i.s.p.rule=i.s.p.rule∧i.s.p.top=i.s.p.top∧i.s.p.least=i.s.p.least∧i.s.p.part=i.s.p.part∧True∧True)∧∃(a:MSt),sb a.p.code=sb i.s.p.code∧a.p.tick=i.s.p.tick∧a.p.low=i.s.p.low∧a.p.high=i.s.p.high∧a.p.wide=i.s.p.wide∧a.p.rule=i.s.p.rule∧a.p.top=i.s.p.top∧a.p.least=i.s.p.least∧a.p.part=i.s.p.part∧AObj.objs 102 Book 6 zQ a.books none=AObj.objs 102 Book 6 zQ i.s.books none∧yR a.wh=yR i.s.wh∧AObj.fro 1 (iE a.p.months)=AObj.fro 1 (iE i.s.p.months)∧AObj.fro 1 (iE a.p.settle)=AObj.fro 1 (iE i.s.p.settle)∧(gM a)∧∀(b:Unit),True→zMc a i
theorem yKi (hG:GOk Tryz.prog ([(23,topsOC),(67,quotesC),(66,bestQC),(49,bestC),(111,bbetterC)])) (h:∀(i:NxI),nextC.cnd i→z6j i):nextC.ok Tryz.prog 90:=okw mixed hG 0 (fun _=>[]) (fun _=>[]) [0] Tryz.func90 h
def dK (a:AtI):=(List.map j9 (atL a.L (zA a.s) a.price))
def zBh (a:Nat×MSt→Prop) (b:Nat×MSt) (c:Nat×MSt→Nat) (d:Nat×MSt) (e:AlI) (f:AtI) (g:BkS) (h:TrI):Prop:=a b∧c b<c d∧AObj.own 2 1 (iE (qM e))=AObj.own 2 1 (iE (qM e))∧AObj.fro 5 (dK f)=AObj.fro 5 (dK f)∧Sx.AObj.cells [V.d (D.v (.int .i64 (zS g).fst.price)),V.d (D.v (.int .i64 (zS g).fst.qty)),V.d (D.v (.int .i64 (zS g).fst.count))] 104=Sx.AObj.cells [V.d (D.v (.int .i64 (zS g).fst.price)),V.d (D.v (.int .i64 (zS g).fst.qty)),V.d (D.v (.int .i64 (zS g).fst.count))] 104∧Sx.AObj.cells [V.d (D.v (.int .i64 h.inst)),V.d (D.v (.int .i64 (zA h.sd)))] 59=Sx.AObj.cells [V.d (D.v (.int .i64 h.inst)),V.d (D.v (.int .i64 (zA h.sd)))] 59∧AObj.fro 1 (iE h.s.p.months)=AObj.fro 1 (iE h.s.p.months)∧AObj.fro 1 (iE h.s.p.settle)=AObj.fro 1 (iE h.s.p.settle)
def uF (a:TrI):=(xN a.p a.B a.inst (zA a.sd) a.q)
def gT (a:TrI):=(xF a.B (uF a))
def zWr (i:TrI):Prop:=
 (0≤i.inst∧i.inst<(↑i.s.books.length:Int))∧i.inst.toNat<i.s.books.length∧∃(a:Book),i.s.books[i.inst.toNat]?=some a∧∃(b:BkS),zA b.side=zA i.sd∧yB b.b=yB a∧(wF b)∧∀(c:Unit),True→∃(d:Book),yB b.b=yB d∧i.inst.toNat=i.inst.toNat∧i.inst.toNat<i.s.books.length∧∃(e:Book),(i.s.books.set i.inst.toNat d)[i.inst.toNat]?=some e∧∃(f:AtI),zA f.s=zA i.sd∧f.price=(zS b).fst.price∧yB f.b=yB e∧f.b.Rep f.L∧∀(g:Unit),True→∃(h:Book),yB f.b=yB h∧i.inst.toNat=i.inst.toNat∧i.inst.toNat<(i.s.books.set i.inst.toNat d).length∧∃(j:AlI),sb j.p.code=sb i.s.p.code∧iE j.p.months=iE i.s.p.months∧j.p.tick=i.s.p.tick∧j.p.low=i.s.p.low∧j.p.high=i.s.p.high∧j.p.wide=i.s.p.wide∧j.p.rule=i.s.p.rule∧j.p.top=i.s.p.top∧j.p.least=i.s.p.least∧j.p.part=i.s.p.part∧iE j.p.settle=iE i.s.p.settle∧List.map j9 j.l=List.map j9 (atL f.L (zA f.s) f.price)∧j.q=i.q∧(j.l.length≤1000∧((-9223372036854775808)≤j.q∧j.q≤9223372036854775807)∧((-9223372036854775808)≤j.p.least∧j.p.least≤9223372036854775807)∧((-9223372036854775808)≤j.p.top∧j.p.top≤9223372036854775807)∧(-9223372036854775808)≤j.p.part∧j.p.part≤9223372036854775807)∧∀(k:Unit),True→∃(l:Nat×MSt),(↑l.fst:Int)=0∧sb l.snd.p.code=sb i.s.p.code∧l.snd.p.tick=i.s.p.tick∧l.snd.p.low=i.s.p.low∧l.snd.p.high=i.s.p.high∧l.snd.p.wide=i.s.p.wide∧l.snd.p.rule=i.s.p.rule∧l.snd.p.top=i.s.p.top∧l.snd.p.least=i.s.p.least∧l.snd.p.part=i.s.p.part∧AObj.objs 102 Book 6 zQ l.snd.books none=AObj.objs 102 Book 6 zQ ((i.s.books.set i.inst.toNat d).set i.inst.toNat h) none∧yR l.snd.wh=yR i.s.wh∧AObj.fro 1 (iE l.snd.p.months)=AObj.fro 1 (iE i.s.p.months)∧AObj.fro 1 (iE l.snd.p.settle)=AObj.fro 1 (iE i.s.p.settle)∧List.map yP (i.fs l.fst)=[]∧∃(m:Nat×MSt→Prop),∃(n:Nat×MSt→Nat),m l∧∀(p:Nat×MSt),m p→cnd (decide ((↑p.fst:Int)<(↑(iE (qM j)).length:Int))) ((0≤(↑p.fst:Int)∧(↑p.fst:Int)<(↑(iE (qM j)).length:Int))∧∃(q:Int),zF (iE (qM j)) (↑p.fst:Int).toNat 0 1=some [D.v (.int .i64 q)]∧cnd (decide (q>0)) ((0≤(↑p.fst:Int)∧(↑p.fst:Int)<(↑(dK f).length:Int))∧∃(r:Int),∃(s:Int),∃(t:Int),∃(u:Int),∃(v:Bool),zF (dK f) (↑p.fst:Int).toNat 0 5=some [D.v (.int .i64 r),D.v (.int .i64 s),D.v (.int .i64 t),D.v (.int .i64 u),D.v (.bool v)]∧∃(w:StI),w.id=r∧w.q=q∧zE w.s=zE p.snd∧(w.s.Rep w.p w.B∧w.B.length≤1000)∧∀(x:MSt),x.Rep w.p (yT w.B w.id w.q).fst→((List.map yP (i.fs p.fst)).length+1)*(48:Nat)≤(70368744177664:Nat)∧∃(y:Nat×MSt),(↑y.fst:Int)=IntKind.i64.wrap ((↑p.fst:Int)+1)∧zE y.snd=zE x∧List.map yP (i.fs y.fst)=List.map yP (i.fs p.fst)++[[D.v (.int .i64 r),D.v (.int .i64 i.inst),D.v (.int .i64 (zA i.sd)),D.v (.int .i64 t),D.v (.int .i64 q),D.v (.int .i64 (IntKind.i64.wrap (u-q)))]]∧zBh m y n p j f b i) (∃(r:Nat×MSt),(↑r.fst:Int)=IntKind.i64.wrap ((↑p.fst:Int)+1)∧zE r.snd=zE p.snd∧List.map yP (i.fs r.fst)=List.map yP (i.fs p.fst)∧zBh m r n p j f b i)) (∃(q:MSt),zE q=zE p.snd∧List.map yP (uF i)=List.map yP (i.fs p.fst)∧q.Rep i.p (gT i))
theorem yDu (hG:GOk Tryz.prog ([(49,bestC),(112,atC),(113,allocC),(76,stakeC)])) (h:∀(i:TrI),tradeC.cnd i→zWr i):tradeC.ok Tryz.prog 93:=okw mixed hG 0 (fun _=>[]) (fun i=>yJd i) [0] Tryz.func93 h
open Go Cv Go.Proofs
theorem eW {p:Prd} (hc:p.check=0) {k v:Int} (h:p.price k v=0): -2000000≤v∧v≤2000000:=by
 have ok:=qY hc
 have:=ok.b1
 have:=ok.b2
 have:=ok.b3
 have:=ok.b4
 have:=ok.b5
 rw[Prd.price]at h
 by_cases c1:p.count=0
 ·rw[if_pos c1]at h;cases h
 by_cases c2:k<0∨(p.count:Int)≤k
 ·rw[if_neg c1,if_pos c2]at h;cases h
 cases c3:qR p.tick v with
 |true=>rw[if_neg c1,if_neg c2,if_pos c3]at h;cases h
 |false=>
  rw[if_neg c1,if_neg c2,if_neg (by rw[c3];decide)]at h
  by_cases c4:(p.months.length:Int)≤k
  ·simp only[if_pos c4]at h
   by_cases c5:v< -p.wide∨p.wide<v
   ·rw[if_pos c5]at h;cases h
   ·omega
  ·simp only[if_neg c4]at h
   by_cases c5:v<p.low∨p.high<v
   ·rw[if_pos c5]at h;cases h
   ·omega
theorem zDy {t:Int} (k:Int):qR t (t*k)=false:=by
 simp[qR,Int.mul_tmod_right]
theorem zQk (x:Prd):(xC x).small:=by
 have:=z8o x
 refine⟨by simp[xC],?_,?_⟩
 ·show(kY _).length≤_
  rw[pB];omega
 ·show(kD _ _).length≤_
  rw[cR];omega
theorem zQw (x:Prd):(xC x).check=0:=by
 have ht:=zOu x
 have hn:=z8o x
 have hw:=xO (n:=x.wide) (lo:=0) (hi:=60) (by omega)
 have hr:=xO (n:=x.rule) (lo:=0) (hi:=2) (by omega)
 have ho:=xO (n:=x.top) (lo:=0) (hi:=9) (by omega)
 have hl:=xO (n:=x.least) (lo:=0) (hi:=4) (by omega)
 have hp:=xO (n:=x.part) (lo:=0) (hi:=100) (by omega)
 have h1:wM (xC x).code=true:=by show wM [206,169]=true;decide+kernel
 obtain⟨k,hk,hk1⟩:∃k:Nat,(kN x).toNat=k∧(2≤k∧k≤5):=⟨_,rfl,by omega⟩
 have h2:xH (xC x).months=true:=by
  show xH (kY (kN x).toNat)=true
  rw[hk]
  have:k=2∨k=3∨k=4∨k=5:=by omega
  rcases this with rfl|rfl|rfl|rfl<;>decide
 have h3:qQ (xC x)=true:=by
  have a:qR (yE x) (-20*yE x)=false:=by rw[Int.mul_comm];exact zDy _
  have b:qR (yE x) (100*yE x)=false:=by rw[Int.mul_comm];exact zDy _
  have c:(kD (yE x) (kN x).toNat).any (qR (yE x))=false:=by
   rw[List.any_eq_false]
   intro y hy
   obtain⟨j,_,rfl⟩:=List.mem_map.1 hy
   rw[zDy];decide
  simp only[qQ,xC,a,b,c,zDy,Bool.not_false,Bool.and_true,Bool.and_eq_true]
  exact⟨decide_eq_true (by omega),decide_eq_true (by omega)⟩
 have mw:=zGo (a:=yE x) (b:=5+zJ x.wide 0 60) (m:=yE x) (n:=65) (by omega) (by omega)
 have h4:qP (xC x)=false:=by
  simp only[qP,xC,Bool.or_eq_false_iff]
  exact⟨⟨⟨⟨decide_eq_false (by omega),decide_eq_false (by omega)⟩,decide_eq_false (by omega)⟩,decide_eq_false (by omega)⟩,decide_eq_false (by omega)⟩
 have h5:xK (xC x)=false:=by
  have e:(kD (yE x) (kN x).toNat).length=(kY (kN x).toNat).length:=by rw[cR,pB]
  have ne:kD (yE x) (kN x).toNat≠[]:=by
   intro hc
   have:=cR (yE x) (kN x).toNat
   rw[hc]at this
   simp at this
   omega
  have bd:∀y∈kD (yE x) (kN x).toNat,0≤y∧y≤yE x*15:=by
   intro y hy
   obtain⟨j,hj,rfl⟩:=List.mem_map.1 hy
   have:=List.mem_range.1 hj
   exact zGo (by omega) (by omega)
  have m1:=bd _ (zSd ne)
  have m2:=bd _ (zQq ne)
  simp only[xK,xC,e,ne_eq,not_true_eq_false,decide_false,Bool.false_or,Bool.or_eq_false_iff]
  exact⟨decide_eq_false (by omega),decide_eq_false (by omega)⟩
 have h6:kE (xC x)=false:=by
  simp only[kE,xC,Bool.or_eq_false_iff]
  exact⟨decide_eq_false (by omega),decide_eq_false (by omega)⟩
 have h7:qC (xC x)=false:=by
  simp only[qC,xC,Bool.or_eq_false_iff]
  exact⟨⟨⟨⟨⟨decide_eq_false (by omega),decide_eq_false (by omega)⟩,decide_eq_false (by omega)⟩,decide_eq_false (by omega)⟩,decide_eq_false (by omega)⟩,decide_eq_false (by omega)⟩
 rw[Prd.check,h1,h2,h3,h4,h5,h6,h7]
 rfl
open Go Cv Go.Proofs
structure zGn (qs sh:List Int) (q:Int):Prop where
 len:sh.length=qs.length
 bd:∀n,0≤sh.getD n 0∧sh.getD n 0≤qs.getD n 0
 sum:sh.sum=q
theorem zFs:∀{l:List Int},(∀x∈l,0≤x)→0≤l.sum
 |[],_=>Int.le_refl 0
 |a::l,h=>by
  have:=zFs (l:=l) fun x hx=>h x (List.mem_cons_of_mem _ hx)
  have:=h a List.mem_cons_self
  rw[List.sum_cons];omega
theorem zXl:∀{z:List (Int×Int)},(∀y∈z,0≤y.2∧y.2≤y.1)→(z.map (·.2)).sum≤(z.map (·.1)).sum
 |[],_=>Int.le_refl 0
 |a::l,h=>by
  have:=zXl (z:=l) fun x hx=>h x (List.mem_cons_of_mem _ hx)
  have:=h a List.mem_cons_self
  rw[List.map_cons,List.map_cons,List.sum_cons,List.sum_cons];omega
theorem nJ:∀(l:List Int) (q:Int),(∀x∈l,0≤x)→0≤q→q≤l.sum→zGn l (vT l q) q
 |[],q,_,h0,h1=>⟨rfl,fun n=>by simp[vT],by simp at h1;simp[vT];omega⟩
 |n::l,q,h,h0,h1=>by
  have hn:=h n List.mem_cons_self
  rw[List.sum_cons]at h1
  have:=zFs fun x hx=>h x (List.mem_cons_of_mem _ hx)
  have ih:=nJ l (q-min n q) (fun x hx=>h x (List.mem_cons_of_mem _ hx)) (by omega) (by omega)
  refine⟨by rw[vT,List.length_cons,List.length_cons,ih.len],fun k=> ?_,by rw[vT,List.sum_cons,ih.sum];omega⟩
  cases k with
  |zero=>exact⟨by show 0≤min n q;omega,by show min n q≤n;omega⟩
  |succ k=>exact ih.bd k
theorem rU:∀(z:List (Int×Int)) (q:Int),(∀y∈z,0≤y.2∧y.2≤y.1)→0≤q→q≤(z.map (·.1)).sum-(z.map (·.2)).sum→(jM z q).length=z.length∧(∀n,0≤(jM z q).getD n 0∧(jM z q).getD n 0≤(z.map (·.1)).getD n 0)∧(jM z q).sum=(z.map (·.2)).sum+q
 |[],q,_,h0,h1=>⟨rfl,fun n=>by simp[jM],by simp at h1;simp[jM];omega⟩
 |(n,x)::r,q,h,h0,h1=>by
  have hn:=h (n,x) List.mem_cons_self
  simp only[List.map_cons,List.sum_cons]at h1
  have:=zXl fun y hy=>h y (List.mem_cons_of_mem _ hy)
  have ih:=rU r (q-min (n-x) q) (fun y hy=>h y (List.mem_cons_of_mem _ hy)) (by omega) (by omega)
  refine⟨by rw[jM,List.length_cons,List.length_cons,ih.1],fun k=> ?_,by rw[jM,List.sum_cons,ih.2.2,List.map_cons,List.sum_cons];omega⟩
  cases k with
  |zero=>exact⟨by show 0≤x+min (n-x) q;have:=hn.1;have:=hn.2;dsimp only at*;omega,by show x+min (n-x) q≤n;have:=hn.2;dsimp only at*;omega⟩
  |succ k=>exact ih.2.1 k
theorem zUr {l:List Int} {q:Int} (h1:l.length≤250) (h2:0≤q) (h3:∀x∈l,1≤x∧x≤1000000) (h4:q≤l.sum):yM l q=true:=by
 rw[yM,decide_eq_true h1,decide_eq_true h2,decide_eq_true h4]
 simp only[Bool.true_and,Bool.and_true,List.all_eq_true,Bool.and_eq_true,decide_eq_true_eq]
 exact h3
theorem zMu {i:PlI} (h:yM i.l i.q=true) (hl:1≤i.least):zGn i.l (kR i) i.q:=by
 obtain⟨r1,r2,r3,r4⟩:=kW h
 rw[kR,if_pos ⟨h,hl⟩]
 by_cases hne:i.l.length=0
 ·have e:i.l=[]:=List.eq_nil_of_length_eq_zero hne
  have hq:i.q=0:=by rw[e]at r4;simp at r4;omega
  have e0:i.p1=[]:=by rw[PlI.p1,e];rfl
  rw[e0,e,hq]
  exact⟨rfl,fun n=>by simp,rfl⟩
 ·obtain⟨_,_,f1,f2⟩:=lV h (by omega)
  have hpl:=zVw i
  have m1:(i.l.zip i.p0).map (·.1)=i.l:=List.map_fst_zip (by omega)
  have m2:(i.l.zip i.p0).map (·.2)=i.p0:=List.map_snd_zip (by omega)
  have hp:=rU (i.l.zip i.p0) (i.q-i.p0.sum) (fun y hy=>by
   obtain⟨j,hj⟩:=List.mem_iff_getElem?.1 hy
   rw[List.getElem?_zip_eq_some]at hj
   exact f1 j _ _ hj.1 hj.2) (by omega) (by rw[m1,m2];omega)
  rw[m1,m2]at hp
  refine⟨?_,hp.2.1,?_⟩
  ·rw[PlI.p1,hp.1,List.length_zip,hpl,Nat.min_self]
  ·rw[PlI.p1,hp.2.2];omega
theorem zMi:∀{l:List Int} {k:Nat} {x:Int},k<l.length→(l.set k x).sum=l.sum+(x-l.getD k 0)
 |[],k,x,h=>absurd h (by simp)
 |a::l,0,x,_=>by
  show x+l.sum=a+l.sum+(x-a);omega
 |a::l,k+1,x,h=>by
  have:=zMi (l:=l) (k:=k) (x:=x) (by simpa using h)
  show a+(l.set k x).sum=a+l.sum+(x-l.getD k 0)
  omega
theorem zFf {l:List Int} {k n:Nat} {x:Int} (h:k<l.length):(l.set k x).getD n 0=if n=k then x else l.getD n 0:=by
 rw[List.getD_eq_getElem?_getD,List.getElem?_set]
 by_cases e:k=n
 ·subst e;rw[if_pos rfl,if_pos h,if_pos rfl];rfl
 ·rw[if_neg e,if_neg (fun e2=>e e2.symm),List.getD_eq_getElem?_getD]
theorem zRp {l:List Int}:∀(z:List (Nat×Int)) (o:List Int),(z.map (·.1)).Nodup→(∀y∈z,y.1<o.length∧0≤y.2∧o.getD y.1 0+y.2≤l.getD y.1 0)→(∀n,0≤o.getD n 0∧o.getD n 0≤l.getD n 0∧l.getD n 0≤1000000)→
 (z.foldl (fun o y=>o.set y.1 (IntKind.i64.wrap (o.getD y.1 0+y.2))) o).length=o.length∧(z.foldl (fun o y=>o.set y.1 (IntKind.i64.wrap (o.getD y.1 0+y.2))) o).sum=o.sum+(z.map (·.2)).sum∧∀n,0≤(z.foldl (fun o y=>o.set y.1 (IntKind.i64.wrap (o.getD y.1 0+y.2))) o).getD n 0∧(z.foldl (fun o y=>o.set y.1 (IntKind.i64.wrap (o.getD y.1 0+y.2))) o).getD n 0≤l.getD n 0
 |[],o,_,_,h=>⟨rfl,by simp,fun n=>⟨(h n).1,(h n).2.1⟩⟩
 |y::z,o,hn,hz,h=>by
  obtain⟨h1,h2,h3⟩:=hz y List.mem_cons_self
  rw[List.map_cons,List.nodup_cons]at hn
  have hw:IntKind.i64.wrap (o.getD y.1 0+y.2)=o.getD y.1 0+y.2:=by
   have:=h y.1
   exact w64 (by omega)
  rw[List.foldl_cons,hw]
  have ih:=zRp (l:=l) z (o.set y.1 (o.getD y.1 0+y.2)) hn.2 (fun x hx=>by
   obtain⟨g1,g2,g3⟩:=hz x (List.mem_cons_of_mem _ hx)
   have hne:x.1≠y.1:=fun e=>hn.1 (e▸List.mem_map_of_mem (f:=(·.1)) hx)
   rw[List.length_set,zFf h1,if_neg hne]
   exact⟨g1,g2,g3⟩) (fun n=>by
   rw[zFf h1]
   split
   ·rename_i e
    rw[e]
    exact⟨by have:=h y.1;omega,h3,(h y.1).2.2⟩
   ·exact h n)
  refine⟨by rw[ih.1,List.length_set],?_,ih.2.2⟩
  rw[ih.2.1,zMi h1,List.map_cons,List.sum_cons];omega
theorem zHn (l:List Int):(List.range l.length).map (fun n=>l.getD n 0)=l:=by
 apply List.ext_getElem?
 intro n
 rw[List.getElem?_map]
 by_cases h:n<l.length
 ·rw[List.getElem?_range h,List.getElem?_eq_getElem h,Option.map_some,List.getD_eq_getElem?_getD,List.getElem?_eq_getElem h];rfl
 ·rw[List.getElem?_eq_none (by simpa using h),List.getElem?_eq_none (by omega)];rfl
theorem zZy {f g:Nat→Int}:∀l:List Nat,(l.map fun n=>f n-g n).sum=(l.map f).sum-(l.map g).sum
 |[]=>rfl
 |a::l=>by rw[List.map_cons,List.map_cons,List.map_cons,List.sum_cons,List.sum_cons,List.sum_cons,zZy l];omega
theorem zHw {f:Nat→Int} {p:Nat→Bool}:∀{l:List Nat},(∀n∈l,p n=false→f n=0)→((l.filter p).map f).sum=(l.map f).sum
 |[],_=>rfl
 |a::l,h=>by
  have ih:=zHw (l:=l) fun n hn=>h n (List.mem_cons_of_mem _ hn)
  rw[List.map_cons,List.sum_cons]
  by_cases e:p a=true
  ·rw[List.filter_cons_of_pos e,List.map_cons,List.sum_cons,ih]
  ·rw[List.filter_cons_of_neg e,ih,h a List.mem_cons_self (by simpa using e)];omega
theorem nT {i:RsI} (hl:i.l.length≤250) (ho:i.out.length=i.l.length) (hn:∀n,0≤i.out.getD n 0∧i.out.getD n 0≤i.l.getD n 0∧i.l.getD n 0≤1000000) (hq:0≤i.q∧i.q≤i.l.sum-i.out.sum) (hle:1≤i.least):
 zGn i.l (bZ i) (i.out.sum+i.q):=by
 have hidx:(i.idx i.l.length).length≤250:=Nat.le_trans (List.length_filter_le _ _) (by simpa using hl)
 have hmem:∀n∈i.idx i.l.length,n<i.l.length∧i.out.getD n 0<i.l.getD n 0:=by
  intro n hn
  obtain⟨a,b⟩:=List.mem_filter.1 hn
  exact⟨List.mem_range.1 a,of_decide_eq_true b⟩
 have hls:(i.left i.l.length).sum=i.l.sum-i.out.sum:=by
  rw[RsI.left,RsI.idx,zHw,zZy,zHn]
  ·rw[← ho,zHn]
  ·intro n _ e
   have:=of_decide_eq_false e
   have:=hn n
   omega
 have hr:yM (i.left i.l.length) i.q=true:=by
  refine zUr (by rw[RsI.left,List.length_map];exact hidx) hq.1 (fun x hx=> ?_) (by omega)
  obtain⟨n,hm,rfl⟩:=List.mem_map.1 hx
  have:=hmem n hm
  have:=hn n
  omega
 have hp:=zMu (i:=⟨i.left i.l.length,i.least,i.q⟩) hr hle
 have hpl:i.pl.length=(i.idx i.l.length).length:=by
  have:=hp.len
  rw[RsI.pl,this,RsI.left,List.length_map]
 have hnd:(i.idx i.l.length).Nodup:=List.nodup_range.sublist List.filter_sublist
 have z1:((i.idx i.l.length).zip i.pl).map (·.1)=i.idx i.l.length:=List.map_fst_zip (by omega)
 have z2:((i.idx i.l.length).zip i.pl).map (·.2)=i.pl:=List.map_snd_zip (by omega)
 have hf:=zRp (l:=i.l) ((i.idx i.l.length).zip i.pl) i.out (by rw[z1];exact hnd) (fun y hy=>by
  obtain⟨j,hj⟩:=List.mem_iff_getElem?.1 hy
  rw[List.getElem?_zip_eq_some]at hj
  have hm:=hmem y.1 (List.mem_of_getElem? hj.1)
  have hb:=hp.bd j
  have e1:(kR ⟨i.left i.l.length,i.least,i.q⟩).getD j 0=y.2:=by
   rw[List.getD_eq_getElem?_getD]
   have:(kR ⟨i.left i.l.length,i.least,i.q⟩)[j]? =some y.2:=hj.2
   rw[this];rfl
  have e2:(i.left i.l.length).getD j 0=i.l.getD y.1 0-i.out.getD y.1 0:=by
   rw[List.getD_eq_getElem?_getD,RsI.left,List.getElem?_map,hj.1];rfl
  dsimp only at hb
  rw[e1,e2]at hb
  exact⟨by omega,hb.1,by omega⟩) hn
 have hall:bZ i=((i.idx i.l.length).zip i.pl).foldl (fun o y=>o.set y.1 (IntKind.i64.wrap (o.getD y.1 0+y.2))) i.out:=by
  rw[bZ,RsI.add,List.take_of_length_le (by rw[List.length_zip];omega)]
 rw[hall]
 refine⟨by rw[hf.1,ho],hf.2.2,?_⟩
 rw[hf.2.1,z2]
 have:=hp.sum
 rw[RsI.pl,this]
theorem zXx {l:List Int} (h:∀x∈l,1≤x∧x≤1000000) (n:Nat):0≤l.getD n 0∧l.getD n 0≤1000000:=by
 by_cases hn:n<l.length
 ·obtain⟨x,hx⟩:=yA hn
  have:=h x (List.mem_of_getElem? hx)
  rw[zI hx];omega
 ·rw[List.getD_eq_getElem?_getD,List.getElem?_eq_none (by omega)];decide
theorem yHx (n k:Nat):(List.replicate n (0:Int)).getD k 0=0:=by
 rw[List.getD_eq_getElem?_getD,List.getElem?_replicate]
 split<;>rfl
theorem zHx (n:Nat):(List.replicate n (0:Int)).sum=0:=by
 induction n with
 |zero=>rfl
 |succ n ih=>rw[List.replicate_succ,List.sum_cons,ih];rfl
theorem yIn {q part:Int} (hq:0≤q) (h0:0≤part) (h1:part≤100):0≤q*part / 100∧q*part / 100≤q:=by
 have h2:0≤q*part:=Int.mul_nonneg hq h0
 have h3:q*part≤q*100:=Int.mul_le_mul_of_nonneg_left h1 hq
 constructor<;>omega
theorem eM {p:Prd} (hc:p.check=0) {l:List zD} {q:Int} (hr:yM (l.map (·.qty)) q=true):zGn (l.map (·.qty)) (qM ⟨p,l,q⟩) q:=by
 have ok:=qY hc
 obtain⟨r1,r2,r3,r4⟩:=kW hr
 have q1:=ok.q1
 have q3:=ok.q3
 have q5:=ok.q5
 have q6:=ok.q6
 have r5:=ok.r1
 have r6:=ok.r2
 have gb:=zXx r3
 have eqs:(AlI.qs ⟨p,l,q⟩)=l.map (·.qty):=rfl
 rw[qM]
 simp only[eqs]
 generalize l.map (·.qty)=qs at*
 by_cases c1:p.rule=1
 ·rw[if_pos c1,vX,if_pos hr]
  exact nJ _ _ (fun x hx=>by have:=r3 x hx;omega) r2 r4
 by_cases c2:p.rule=2
 ·rw[if_neg c1,if_pos c2,lT,if_pos ⟨hr,q3,q1⟩]
  rw[PsI.rs]
  dsimp only
  split
  ·rename_i ht
   have hk:(topI l).toNat<(List.replicate qs.length (0:Int)).length:=by simp;omega
   have hf:0≤PsI.first ⟨qs,topI l,p.top,p.least,q⟩∧PsI.first ⟨qs,topI l,p.top,p.least,q⟩≤qs.getD (topI l).toNat 0∧PsI.first ⟨qs,topI l,p.top,p.least,q⟩≤q:=by
    have:=gb (topI l).toNat
    simp only[PsI.first]
    omega
   have hs:((List.replicate qs.length (0:Int)).set (topI l).toNat (PsI.first ⟨qs,topI l,p.top,p.least,q⟩)).sum=PsI.first ⟨qs,topI l,p.top,p.least,q⟩:=by
    rw[zMi hk,zHx,yHx];omega
   have:=nT (i:=⟨qs,(List.replicate qs.length 0).set (topI l).toNat (PsI.first ⟨qs,topI l,p.top,p.least,q⟩),p.least,q-PsI.first ⟨qs,topI l,p.top,p.least,q⟩⟩) r1 (by simp) (fun n=>by
    dsimp only
    rw[zFf hk,yHx]
    have:=gb n
    split
    ·rename_i e;rw[e];exact⟨hf.1,hf.2.1,(gb _).2⟩
    ·omega) (by dsimp only;rw[hs];omega) q3
   dsimp only at this
   rw[hs]at this
   have e:PsI.first ⟨qs,topI l,p.top,p.least,q⟩+(q-PsI.first ⟨qs,topI l,p.top,p.least,q⟩)=q:=by omega
   rw[e]at this
   exact this
  ·have:=nT (i:=⟨qs,List.replicate qs.length 0,p.least,q⟩) r1 (by simp) (fun n=>by
    dsimp only
    rw[yHx]
    have:=gb n
    omega) (by dsimp only;rw[zHx];omega) q3
   dsimp only at this
   rw[zHx,Int.zero_add]at this
   exact this
 ·have c3:p.rule=3:=by omega
  rw[if_neg c1,if_neg c2,if_pos c3,tJ,if_pos ⟨hr,q5,q6,q3⟩]
  rw[SpI.rs]
  dsimp only
  obtain⟨d1,d2⟩:=yIn r2 q5 q6
  have hr2:yM qs (q*p.part / 100)=true:=zUr r1 d1 r3 (by omega)
  have hfs:=nJ qs (q*p.part / 100) (fun x hx=>by have:=r3 x hx;omega) d1 (by omega)
  have e0:vX qs (q*p.part / 100)=vT qs (q*p.part / 100):=by rw[vX,if_pos hr2]
  have:=nT (i:=⟨qs,vX qs (q*p.part / 100),p.least,q-q*p.part / 100⟩) r1 (by dsimp only;rw[e0];exact hfs.len) (fun n=>by
   dsimp only
   rw[e0]
   exact⟨(hfs.bd n).1,(hfs.bd n).2,(gb n).2⟩) (by dsimp only;rw[e0,hfs.sum];omega) q3
  dsimp only at this
  rw[e0,hfs.sum]at this
  rw[e0]
  have e:q*p.part / 100+(q-q*p.part / 100)=q:=by omega
  rw[e]at this
  exact this
theorem zUw {p:Prd} {l:List zD} {q:Int} (hr:yM (l.map (·.qty)) q=false):qM ⟨p,l,q⟩=[]:=by
 have eqs:(AlI.qs ⟨p,l,q⟩)=l.map (·.qty):=rfl
 rw[qM]
 simp only[eqs,vX,lT,tJ,hr]
 simp
open Go Cv Go.Proofs
theorem zLs:motherC.ok Tryz.prog 91:=z4h gok0 fun b _=>by
 unfold zYf
 cases b<;>exact⟨(),by decide,trivial⟩
theorem zRo:mgoodC.ok Tryz.prog 92:=yAc gok0 fun i _=>by
 obtain⟨s,p,x⟩:=i
 unfold z5v sL
 cases s
 ·refine Cv.cnd.mk (fun _=>zK (fun c=>⟨(),?_,trivial⟩) (fun c=>Cv.cnd.mk (fun e=>by simp[zA]at e) (fun _=>⟨(),?_,trivial⟩))) (fun e=>by simp[zA]at e)
  ·exact decide_eq_true c
  ·exact decide_eq_false c
 ·exact Cv.cnd.mk (fun e=>by simp[zA]at e) (fun _=>Cv.cnd.mk (fun _=>⟨(),rfl,trivial⟩) (fun e=>by simp[zA]at e))
theorem zPc {L:List zD} {s:Int}:((bestL L s).2=true∧∃o∈L,o.side=s∧o.price=(bestL L s).1.price)∨(bestL L s=(⟨0,0,0⟩,false)∧∀o∈L,o.side≠s):=by
 rw[bestL]
 cases hl:jR L s with
 |nil=>
  refine .inr ⟨rfl,fun o ho e=> ?_⟩
  rw[jR]at hl
  cases hf:L.filter fun o=>decide (o.side=s)with
  |nil=>
   rw[List.filter_eq_nil_iff]at hf
   have:=hf o ho
   simp[e]at this
  |cons x y=>
   rw[hf,grp]at hl
   split at hl
   ·cases hl
   ·split at hl<;>cases hl
 |cons v vs=>
  refine .inl ⟨rfl,?_⟩
  rw[jR]at hl
  obtain⟨o,r,e1,e2⟩:=pA hl
  have:o∈L.filter fun o=>decide (o.side=s):=by rw[e1];exact List.mem_cons_self
  rw[List.mem_filter]at this
  exact⟨o,this.1,by simpa using this.2,e2⟩
theorem zNy {L:List zD} {s:Int} (h:∀o∈L,-2000000≤o.price∧o.price≤2000000): -2000000≤(bestL L s).1.price∧(bestL L s).1.price≤2000000:=by
 rcases zPc (L:=L) (s:=s)with⟨_,o,ho,_,e⟩|⟨e,_⟩
 ·rw[← e];exact h o ho
 ·rw[e];constructor<;>decide
theorem tY (L:List zD):(yV L).p1=(bestL L 1).1.price∧(yV L).q1=(bestL L 1).1.qty∧(yV L).has1=(bestL L 1).2∧(yV L).p2=(bestL L 2).1.price∧(yV L).q2=(bestL L 2).1.qty∧(yV L).has2=(bestL L 2).2:=by
 have h:∀s,(bestL L s).2=true∨bestL L s=(⟨0,0,0⟩,false):=fun s=>by
  rcases zPc (L:=L) (s:=s)with⟨h,_⟩|⟨h,_⟩
  ·exact .inl h
  ·exact .inr h
 rw[yV,Top.sell,Top.buy]
 rcases h 1 with h1|h1<;>rcases h 2 with h2|h2<;>simp[h1,h2,top0]
theorem BOk.prices {p:Prd} {B:List (List zD)} (h:BOk p B) {k:Nat} {L:List zD} (hL:B[k]? =some L):∀o∈L,-2000000≤o.price∧o.price≤2000000:=fun o ho=>eW h.pc (h.pr k L hL o ho)
theorem BOk.tops {p:Prd} {B:List (List zD)} (h:BOk p B):wY (B.map yV):=by
 have:=qG p
 refine⟨by rw[List.length_map,h.bl];omega,fun t ht=> ?_⟩
 obtain⟨L,hL,rfl⟩:=List.mem_map.1 ht
 obtain⟨k,hk⟩:=List.mem_iff_getElem?.1 hL
 have b1:=zNy (s:=1) (h.prices hk)
 have b2:=zNy (s:=2) (h.prices hk)
 rw[(tY L).1,(tY L).2.2.2.1]
 exact⟨by constructor<;>omega,by constructor<;>omega⟩
theorem MSt.Rep.tops {s:MSt} {p:Prd} {B:List (List zD)} (h:s.Rep p B):s.tops=B.map yV:=by
 rw[MSt.tops]
 apply List.ext_getElem?
 intro k
 rw[List.getElem?_map,List.getElem?_map]
 by_cases hk:k<B.length
 ·obtain⟨L,hL⟩:=yA hk
  obtain⟨b,hb⟩:=yA (l:=s.books) (i:=k) (by rw[h.bl];exact hk)
  rw[hL,hb,Option.map_some,Option.map_some,(h.bk k b L hb hL).top]
 ·rw[List.getElem?_eq_none (by rw[h.bl];omega),List.getElem?_eq_none (by omega)];rfl
theorem MSt.Rep.cnt {s:MSt} {p:Prd} {B:List (List zD)} (h:s.Rep p B) (hB:B.length≤1000000):s.cntOk:=by
 refine⟨by rw[h.bl];exact hB,fun b hb=> ?_⟩
 obtain⟨k,hk⟩:=List.mem_iff_getElem?.1 hb
 have hlt:=(List.getElem?_eq_some_iff.1 hk).1
 rw[h.bl]at hlt
 obtain⟨L,hL⟩:=yA hlt
 exact(h.bk k b L hk hL).cnt
theorem zOv {b:Book} {L:List zD} (h:b.Rep L) (sd:Bool):b.best (b.side sd)=bestL L (zA sd):=by
 obtain⟨Q,c,ht,rfl⟩:=h
 cases sd
 ·exact c.bestL (.inl rfl)
 ·exact c.bestL (.inr rfl)
theorem fW (sd:Bool):zA sd=1∨zA sd=2:=by cases sd;exact .inl rfl;exact .inr rfl
theorem yNw (i:NxI) (h:nextC.cnd i):z6j i:=by
 obtain⟨hR,hB,h0,h1⟩:i.s.Rep i.p i.B∧BOk i.p i.B∧0≤i.inst∧i.inst<i.B.length:=h
 have hcl:=qG i.p
 have hbl:=hB.bl
 have hsl:=hR.bl
 obtain⟨k,hk⟩:∃k:Nat,i.inst=k:=⟨i.inst.toNat,by omega⟩
 obtain⟨L,hL⟩:=yA (l:=i.B) (i:=k) (by omega)
 obtain⟨b,hb⟩:=yA (l:=i.s.books) (i:=k) (by omega)
 have hbR:=hR.bk k b L hb hL
 have hps:i.s.p.small:=by rw[hR.ep];exact hB.ps
 have hto:wY i.s.tops:=by rw[hR.tops];exact hB.tops
 have hnx:zV i.p i.B i.inst (zA i.sd)=if((bestL L (zA i.sd)).2 && !((yW (j6 ⟨i.s.p,i.s.tops,i.inst⟩ (zA i.sd)) (zA i.sd)).2 && btr (zA i.sd) (yW (j6 ⟨i.s.p,i.s.tops,i.inst⟩ (zA i.sd)) (zA i.sd)).1.price (bestL L (zA i.sd)).1.price))=true then(⟨(bestL L (zA i.sd)).1.price,(bestL L (zA i.sd)).1.qty,⟨0,0⟩,⟨0,0⟩⟩,false,true)else((yW (j6 ⟨i.s.p,i.s.tops,i.inst⟩ (zA i.sd)) (zA i.sd)).1,(yW (j6 ⟨i.s.p,i.s.tops,i.inst⟩ (zA i.sd)) (zA i.sd)).2,(yW (j6 ⟨i.s.p,i.s.tops,i.inst⟩ (zA i.sd)) (zA i.sd)).2):=by
  rw[zV,hR.tops,hR.ep,hk,Int.toNat_natCast,zI hL]
 have hbest:=zOv hbR i.sd
 unfold z6j zMc fA zDv wF zGi zS zEz zHq zX gM zAr
 have hcnt:i.s.cntOk:=hR.cnt (by omega)
 have hql:(j6 ⟨i.s.p,i.s.tops,i.inst⟩ (zA i.sd)).length≤1000000:=by
  have:=Nat.le_trans (List.length_filter_le (fun q=>decide (i.s.p.price i.inst q.price=0)) _) (m5 ⟨i.s.p,i.s.tops,i.inst⟩ (zA i.sd))
  exact Nat.le_trans this (by decide)
 refine(fun hT=>⟨⟨i.s,rfl,rfl,rfl,rfl,rfl,rfl,rfl,rfl,rfl,rfl,rfl,rfl,rfl,hcnt,fun _ _=>⟨⟨rfl,trivial,rfl,rfl,rfl,rfl,rfl,rfl,rfl,rfl,trivial,trivial⟩,⟨⟨⟨i.s.p,i.s.tops,i.inst⟩,i.sd⟩,rfl,rfl,rfl,rfl,rfl,rfl,rfl,rfl,rfl,rfl,rfl,rfl,rfl,rfl,⟨hps,hto⟩,fun _ _=>⟨hT,hT⟩⟩,⟨rfl,trivial,rfl,rfl,rfl,rfl,rfl,rfl,rfl,rfl,trivial,trivial⟩,⟨⟨⟨i.s.p,i.s.tops,i.inst⟩,i.sd⟩,rfl,rfl,rfl,rfl,rfl,rfl,rfl,rfl,rfl,rfl,rfl,rfl,rfl,rfl,⟨hps,hto⟩,fun _ _=>hT⟩⟩⟩,
  ⟨rfl,trivial,rfl,rfl,rfl,rfl,rfl,rfl,rfl,rfl,trivial,trivial⟩,⟨i.s,rfl,rfl,rfl,rfl,rfl,rfl,rfl,rfl,rfl,rfl,rfl,rfl,rfl,hcnt,fun _ _=>⟨⟨rfl,trivial,rfl,rfl,rfl,rfl,rfl,rfl,rfl,rfl,trivial,trivial⟩,⟨⟨⟨i.s.p,i.s.tops,i.inst⟩,i.sd⟩,rfl,rfl,rfl,rfl,rfl,rfl,rfl,rfl,rfl,rfl,rfl,rfl,rfl,rfl,⟨hps,hto⟩,fun _ _=>hT⟩⟩⟩⟩) ?_
 refine⟨⟨j6 ⟨i.s.p,i.s.tops,i.inst⟩ (zA i.sd),zA i.sd⟩,rfl,rfl,⟨fW _,hql⟩,fun _ _=>⟨⟨h0,by omega⟩,by omega,b,by rw[hk];exact hb,⟨i.sd,b⟩,rfl,rfl,hbR.cnt,fun _ _=>⟨b,rfl,rfl,by omega,?_⟩⟩⟩
 dsimp only
 rw[hbest]
 generalize bestL L (zA i.sd)=l at*
 generalize yW (j6 ⟨i.s.p,i.s.tops,i.inst⟩ (zA i.sd)) (zA i.sd)=bq at*
 have hset:i.s.books.set i.inst.toNat b=i.s.books:=kH (by rw[hk];exact hb)
 rw[hset]
 refine Cv.cnd.mk (fun c1=>Cv.cnd.mk (fun c2=>⟨⟨zA i.sd,bq.1.price,l.1.price⟩,rfl,rfl,rfl,trivial,fun _ _=>Cv.cnd.mk (fun c3=> ?_) (fun c3=> ?_)⟩) (fun c2=> ?_)) (fun c1=> ?_)
 ·dsimp only at c3
  rw[if_pos (by rw[c1,c2];simpa using c3)]at hnx
  rw[hnx];exact⟨(),by(repeat'(first|exact trivial|exact rfl|apply And.intro))⟩
 ·dsimp only at c3
  rw[if_neg (by rw[c1,c2];simpa using c3)]at hnx
  rw[hnx];exact⟨(),by(repeat'(first|exact trivial|exact rfl|apply And.intro))⟩
 ·rw[if_pos (by rw[c1,c2];rfl)]at hnx
  rw[hnx];exact⟨(),by(repeat'(first|exact trivial|exact rfl|apply And.intro))⟩
 ·rw[if_neg (by rw[c1];simp)]at hnx
  rw[hnx];exact⟨(),by(repeat'(first|exact trivial|exact rfl|apply And.intro))⟩
theorem yAr:nextC.ok Tryz.prog 90:=yKi (gokc zRc (gokc z0l (gokc z7b (gokc zDq (gokc dV gok0))))) yNw
theorem zZx (i:RsI) (k:Nat):(i.add k).length=i.out.length:=by
 have:∀(l:List (Nat×Int)) (o:List Int),(l.foldl (fun o y=>o.set y.1 (IntKind.i64.wrap (o.getD y.1 0+y.2))) o).length=o.length:=by
  intro l
  induction l with
  |nil=>intro o;rfl
  |cons x l ih=>intro o;rw[List.foldl_cons,ih,List.length_set]
 exact this _ _
theorem zRb (l:List Int) (q:Int):(vX l q).length≤l.length:=by
 rw[vX];split
 ·rw[nN];exact Nat.le_refl _
 ·exact Nat.zero_le _
theorem z1p (i:AlI):(qM i).length≤i.l.length:=by
 have hq:i.qs.length=i.l.length:=by simp[AlI.qs]
 rw[qM,← hq]
 repeat' split
 ·exact zRb _ _
 ·rw[lT];split
  ·rw[bZ,zZx,PsI.rs]
   split
   ·simp
   ·simp
  ·exact Nat.zero_le _
 ·rw[tJ];split
  ·rw[bZ,zZx];exact zRb _ _
  ·exact Nat.zero_le _
 ·exact Nat.zero_le _
theorem zGu {inst s:Int}:∀{os:List zD} {sh:List Int} {j:Nat} {o:zD} {k:Int},os[j]? =some o→sh[j]? =some k→yN inst s (os.take (j+1)) (sh.take (j+1))=yN inst s (os.take j) (sh.take j)++(if 0<k then[⟨o.id,inst,s,o.price,k,o.qty-k⟩]else[])
 |[],_,_,_,_,h,_=>by simp at h
 |_::_,[],_,_,_,_,h=>by simp at h
 |o::os,k::sh,0,_,_,h,h2=>by
  cases h;cases h2
  rw[List.take_succ_cons,List.take_succ_cons,List.take_zero,List.take_zero,List.take_zero,List.take_zero,yN]
  split<;>rfl
 |o::os,k::sh,j+1,o',k',h,h2=>by
  rw[List.take_succ_cons,List.take_succ_cons,yN,List.take_succ_cons,List.take_succ_cons,yN,zGu (os:=os) (sh:=sh) (j:=j) h h2]
  split<;>rfl
theorem zJh {inst s:Int}:∀(os:List zD) (sh:List Int),yN inst s (os.take sh.length) (sh.take sh.length)=yN inst s os sh
 |[],sh=>by simp
 |_::_,[]=>by simp[yN]
 |o::os,k::sh=>by
  rw[List.length_cons,List.take_succ_cons,List.take_succ_cons,yN,yN,zJh os sh]
theorem zKg (B:List (List zD)) (a b:List wO):xF B (a++b)=xF (xF B a) b:=List.foldl_append
theorem mY (B:List (List zD)) (id q:Int):(yT B id q).1.length=B.length:=by
 rw[yT];split
 ·rfl
 ·simp
theorem qK:∀(fs:List wO) (B:List (List zD)),(xF B fs).length=B.length
 |[],B=>rfl
 |f::fs,B=>by
  show(xF (yT B f.id f.qty).1 fs).length=_
  rw[qK fs,mY]
theorem yJs {p:Prd} (h:p.check=0):yQ p.least∧yQ p.top∧yQ p.part:=by
 have ok:=qY h
 have:=ok.q1
 have:=ok.q2
 have:=ok.q3
 have:=ok.q4
 have:=ok.q5
 have:=ok.q6
 exact⟨⟨by omega,by omega⟩,⟨by omega,by omega⟩,⟨by omega,by omega⟩⟩
theorem yLq (i:TrI) (h:tradeC.cnd i):zWr i:=by
 obtain⟨hR,hB,h0,h1,hq⟩:i.s.Rep i.p i.B∧BOk i.p i.B∧0≤i.inst∧i.inst<i.B.length∧yQ i.q:=h
 have hcl:=qG i.p
 have hbl:=hB.bl
 have hsl:=hR.bl
 have ep:=hR.ep
 obtain⟨k,hk⟩:∃k:Nat,i.inst=k:=⟨i.inst.toNat,by omega⟩
 obtain⟨L,hL⟩:=yA (l:=i.B) (i:=k) (by omega)
 obtain⟨b,hb⟩:=yA (l:=i.s.books) (i:=k) (by omega)
 have hbR:=hR.bk k b L hb hL
 have hbest:=zOv hbR i.sd
 have hos:atL L (zA i.sd) (bestL L (zA i.sd)).1.price=i.os:=by rw[TrI.os,zAz,hk,Int.toNat_natCast,zI hL]
 have hset:i.s.books.set i.inst.toNat b=i.s.books:=kH (by rw[hk];exact hb)
 have hosl:i.os.length≤250:=by
  rw[← hos];exact Nat.le_trans (List.length_filter_le _ _) hbR.ords.2.2
 have hsh:i.sh.length≤i.os.length:=z1p _
 obtain⟨k1,k2,k3⟩:=yJs hB.pc
 have hsb:∀(j:Nat) (n:Int),i.sh[j]? =some n→n≤1000000:=by
  intro j n hn
  cases hr:yM (i.os.map (·.qty)) i.q with
  |false=>
   have:i.sh=[]:=zUw hr
   rw[this]at hn;cases hn
  |true=>
   have:=(eM hB.pc hr).bd j
   have e:(qM ⟨i.p,i.os,i.q⟩).getD j 0=n:=zI hn
   rw[e]at this
   have:=(zXx (kW hr).2.2.1 j).2
   omega
 unfold zWr zBh dK gT uF zS wF
 refine⟨⟨h0,by omega⟩,by omega,b,by rw[hk];exact hb,⟨i.sd,b⟩,rfl,rfl,hbR.cnt,fun _ _=> ?_⟩
 refine⟨b,rfl,rfl,by omega,b,by rw[hset,hk];exact hb,⟨b,L,i.sd,(bestL L (zA i.sd)).1.price⟩,rfl,by dsimp only;rw[hbest],rfl,hbR,fun _ _=> ?_⟩
 dsimp only
 try rw[hbest]
 rw[hset,hos]
 refine⟨b,rfl,rfl,by omega,⟨i.p,i.os,i.q⟩,by rw[ep],by rw[ep],by rw[ep],by rw[ep],by rw[ep],by rw[ep],by rw[ep],by rw[ep],by rw[ep],by rw[ep],by rw[ep],rfl,rfl,⟨by dsimp only;omega,hq,k1,k2,k3⟩,fun _ _=> ?_⟩
 have esh:qM ⟨i.p,i.os,i.q⟩=i.sh:=rfl
 rw[esh,hset,xI,List.length_map]
 refine⟨(0,i.s),rfl,rfl,rfl,rfl,rfl,rfl,rfl,rfl,rfl,rfl,rfl,rfl,rfl,rfl,rfl,fun j=>j.2.Rep i.p (xF i.B (i.fs j.1))∧j.1≤i.sh.length,fun j=>i.sh.length-j.1,⟨hR,Nat.zero_le _⟩,fun j hj=> ?_⟩
 obtain⟨hjR,hjl⟩:=hj
 obtain⟨j,sj⟩:=j
 dsimp only at hjR hjl ⊢
 refine zK (fun c=> ?_) (fun c=> ?_)
 ·obtain⟨n,hn⟩:=yA (l:=i.sh) (i:=j) (by omega)
  obtain⟨o,ho⟩:=yA (l:=i.os) (i:=j) (by omega)
  have hst:=zGu (inst:=i.inst) (s:=zA i.sd) ho hn
  have hoL:o∈L:=by
   have:=List.mem_of_getElem? ho
   rw[← hos]at this
   exact(List.mem_filter.1 this).1
  have hoq:=(hbR.ords.1 o hoL).q
  have hnb:=hsb j n hn
  refine⟨⟨by omega,by omega⟩,n,elI hn,zK (fun c2=> ?_) (fun c2=> ?_)⟩
  ·rw[if_pos (show 0<n from c2)]at hst
   have hfl:(i.fs j).length≤j:=by
    have:∀(os:List zD) (sh:List Int),(yN i.inst (zA i.sd) os sh).length≤os.length:=by
     intro os
     induction os with
     |nil=>intro sh;exact Nat.le_refl 0
     |cons o os ih=>
      intro sh
      cases sh with
      |nil=>exact Nat.zero_le _
      |cons k sh=>
       have:=ih sh
       rw[yN]
       split
       ·simp only[List.length_cons];omega
       ·simp only[List.length_cons];omega
    exact Nat.le_trans (this _ _) (by rw[List.length_take];omega)
   refine⟨⟨by omega,by omega⟩,o.id,o.side,o.price,o.qty,o.top,yHf ho,⟨sj,i.p,xF i.B (i.fs j),o.id,n⟩,rfl,rfl,rfl,⟨hjR,by dsimp only;rw[qK];omega⟩,fun s' hs'=>⟨by rw[List.length_map];omega,(j+1,s'),wjn (by omega),rfl,?_,⟨?_,by dsimp only;omega⟩,by dsimp only;omega,by(repeat'(first|exact trivial|exact rfl|apply And.intro))⟩⟩
   ·show List.map yP (yN i.inst (zA i.sd) (i.os.take (j+1)) (i.sh.take (j+1)))=_
    rw[hst,List.map_append,w64 (by omega)];rfl
   ·show s'.Rep i.p (xF i.B (yN i.inst (zA i.sd) (i.os.take (j+1)) (i.sh.take (j+1))))
    rw[hst,zKg];exact hs'
  ·rw[if_neg (show ¬0<n from c2),List.append_nil]at hst
   refine⟨(j+1,sj),wjn (by omega),rfl,?_,⟨?_,by dsimp only;omega⟩,by dsimp only;omega,by(repeat'(first|exact trivial|exact rfl|apply And.intro))⟩
   ·show List.map yP (yN i.inst (zA i.sd) (i.os.take (j+1)) (i.sh.take (j+1)))=_
    rw[hst];rfl
   ·show sj.Rep i.p (xF i.B (yN i.inst (zA i.sd) (i.os.take (j+1)) (i.sh.take (j+1))))
    rw[hst];exact hjR
 ·have hje:j=i.sh.length:=by omega
  subst hje
  have hfa:i.fs i.sh.length=xN i.p i.B i.inst (zA i.sd) i.q:=zJh _ _
  rw[hfa]at hjR ⊢
  exact⟨sj,rfl,rfl,hjR⟩
theorem z6b:tradeC.ok Tryz.prog 93:=yDu (gokc zDq (gokc yNb (gokc z9t (gokc tX gok0)))) yLq
open Go Cv Go.Proofs
structure k6 where
 price:Int
 qty:Int
 implied:Bool
 fills:List wO
 deriving DecidableEq
def jL (t:k6):List D:=[.v (.int .i64 t.price),.v (.int .i64 t.qty),.v (.bool t.implied),.ro 6 (t.fills.map yP)]
def jK (p:Prd) (B:List (List zD)) (inst:Int) (sd:Bool) (price qty:Int):Option (k6×List (List zD)):=
 let n:=zV p B inst (zA (!sd))
 if(n.2.2 && (jH sd price n.1.price && decide (1≤n.1.qty)))=true then
  if n.2.1=true then
   let f1:=xN p B n.1.a.inst n.1.a.side (min qty n.1.qty)
   let f2:=xN p (xF B f1) n.1.b.inst n.1.b.side (min qty n.1.qty)
   some (⟨n.1.price,min qty n.1.qty,true,f1++f2⟩,xF (xF B f1) f2)
  else
   let f:=xN p B inst (zA (!sd)) (min qty n.1.qty)
   some (⟨n.1.price,min qty n.1.qty,false,f⟩,xF B f)
 else none
structure yIq where
 steps:List k6
 left:Int
 B:List (List zD)
def zDj (p:Prd) (inst:Int) (sd:Bool) (price:Int):Nat→List (List zD)→Int→yIq
 |0,B,q=>⟨[],q,B⟩
 |n+1,B,q=>if q≤0 then⟨[],q,B⟩else match jK p B inst sd price q with
  |none=>⟨[],q,B⟩
  |some (t,B')=>let r:=zDj p inst sd price n B' (q-t.qty);⟨t::r.steps,r.left,r.B⟩
def qE (p:Prd) (B:List (List zD)) (inst:Int) (sd:Bool) (price q:Int):yIq:=zDj p inst sd price q.toNat B q
structure RunI where
 s:MSt
 p:Prd
 B:List (List zD)
 inst:Int
 sd:Bool
 price:Int
 q:Int
def RunI.r (i:RunI):yIq:=qE i.p i.B i.inst i.sd i.price i.q
def runC:Con where
 ι:=RunI
 pat:=fun i=>[.nm 0 0,zB i.inst,zB (zA i.sd),zB i.price,zB i.q]
 pre:=fun i=>[zE i.s]
 cnd:=fun i=>i.s.Rep i.p i.B∧BOk i.p i.B∧(0≤i.inst∧i.inst<i.B.length)∧1≤i.q∧i.q≤1000000
 alts:=fun i=>[{o:=MSt,res:=fun _=> .tup [.own 1,zB i.r.left],post:=fun s=>[zE s,.own 158 4 (i.r.steps.map jL)],rel:=fun s=>s.Rep i.p i.r.B}]
structure zEu where
 s:MSt
 B:List (List zD)
 steps:List k6
 q:Int
def yOs:List SAnn:=[
 {ι:=zEu,slots:=fun j=>[(0,.nm 0 0),(12,.own 1),(4,zB j.q)],rows:=fun j=>[zE j.s,.own 158 4 (j.steps.map jL)]},
 {ι:=Unit,slots:=fun _=>[],rows:=fun _=>[],un:=3}]
structure RbI where
 s:MSt
 inst:Int
 side:Int
 price:Int
 q:Int
open Go Cv Go.Proofs
def zHu (a:RunI) (b:zEu) (c:NxI):Prop:=∃(d:MSt),a.r.left=b.q∧zE d=zE c.s∧List.map jL a.r.steps=List.map jL b.steps∧d.Rep a.p a.r.B
def zFg (a:zEu→Nat) (b:zEu) (c:zEu) (d:RunI):Prop:=a b<a c∧AObj.fro 1 (iE d.s.p.months)=AObj.fro 1 (iE d.s.p.months)∧AObj.fro 1 (iE d.s.p.settle)=AObj.fro 1 (iE d.s.p.settle)
def lC (a:TrI):Prop:=a.s.Rep a.p a.B∧BOk a.p a.B∧0≤a.inst∧a.inst<(↑a.B.length:Int)∧(-9223372036854775808)≤a.q∧a.q≤9223372036854775807
def pC (a:TrI):=(List.map yP (uF a))
def pY (a:RunI):Prop:=∃(b:MSt),a.r.left=a.q∧sb b.p.code=sb a.s.p.code∧b.p.tick=a.s.p.tick∧b.p.low=a.s.p.low∧b.p.high=a.s.p.high∧b.p.wide=a.s.p.wide∧b.p.rule=a.s.p.rule∧b.p.top=a.s.p.top∧b.p.least=a.s.p.least∧b.p.part=a.s.p.part∧AObj.objs 102 Book 6 zQ b.books none=AObj.objs 102 Book 6 zQ a.s.books none∧yR b.wh=yR a.s.wh∧AObj.fro 1 (iE b.p.months)=AObj.fro 1 (iE a.s.p.months)∧AObj.fro 1 (iE b.p.settle)=AObj.fro 1 (iE a.s.p.settle)∧List.map jL a.r.steps=[]∧b.Rep a.p a.r.B
def zTa (a:RunI):Prop:=cnd (decide (a.q≥1)) (cnd (!decide (a.q≤1000000)) (pY a) (∃(b:zEu),b.q=a.q∧sb b.s.p.code=sb a.s.p.code∧b.s.p.tick=a.s.p.tick∧b.s.p.low=a.s.p.low∧b.s.p.high=a.s.p.high∧b.s.p.wide=a.s.p.wide∧b.s.p.rule=a.s.p.rule∧b.s.p.top=a.s.p.top∧b.s.p.least=a.s.p.least∧b.s.p.part=a.s.p.part∧AObj.objs 102 Book 6 zQ b.s.books none=AObj.objs 102 Book 6 zQ a.s.books none∧yR b.s.wh=yR a.s.wh∧AObj.fro 1 (iE b.s.p.months)=AObj.fro 1 (iE a.s.p.months)∧AObj.fro 1 (iE b.s.p.settle)=AObj.fro 1 (iE a.s.p.settle)∧List.map jL b.steps=[]∧∃(c:zEu→Prop),∃(d:zEu→Nat),c b∧∀(e:zEu),c e→cnd (decide (e.q>0)) (∃(f:Bool),zA f=zA a.sd∧True∧∀(g:Unit),True→∃(h:NxI),h.inst=a.inst∧zA h.sd=zA !f∧zE h.s=zE e.s∧(h.s.Rep h.p h.B∧BOk h.p h.B∧0≤h.inst∧h.inst<(↑h.B.length:Int))∧∀(j:Unit),True→cnd (!(zX h).snd.snd) (zHu a e h) (∃(k:GoI),zA k.s=zA a.sd∧k.p=a.price∧k.x=(zX h).fst.price∧True∧∀(l:Unit),True→cnd (!jH k.s k.p k.x) (zHu a e h) (cnd (zX h).snd.fst (∃(m:TrI),m.inst=(zX h).fst.a.inst∧zA m.sd=(zX h).fst.a.side∧m.q=min e.q (zX h).fst.qty∧zE m.s=zE h.s∧(lC m)∧∀(n:MSt),n.Rep m.p (gT m)→True∧(pC m).length*(48:Nat)≤(70368744177664:Nat)∧∃(p:TrI),p.inst=(zX h).fst.b.inst∧zA p.sd=(zX h).fst.b.side∧p.q=min e.q (zX h).fst.qty∧zE p.s=zE n∧(lC p)∧∀(q:MSt),q.Rep p.p (gT p)→True∧((pC m).length+(pC p).length)*(48:Nat)≤(70368744177664:Nat)∧((List.map jL e.steps).length+1)*(48:Nat)≤(70368744177664:Nat)∧∃(r:zEu),r.q=IntKind.i64.wrap (e.q-min e.q (zX h).fst.qty)∧zE r.s=zE q∧List.map jL r.steps=List.map jL e.steps++[[D.v (.int .i64 (zX h).fst.price),D.v (.int .i64 (min e.q (zX h).fst.qty)),D.v (.bool (zX h).snd.fst),D.ro 6 (List.map yP (uF m)++List.map yP (uF p))]]∧c r∧zFg d r e a) (∃(m:Bool),zA m=zA a.sd∧True∧∀(n:Unit),True→min e.q (zX h).fst.qty=min e.q (zX h).fst.qty∧∃(p:TrI),p.inst=a.inst∧zA p.sd=zA !m∧p.q=min e.q (zX h).fst.qty∧zE p.s=zE h.s∧(lC p)∧∀(q:MSt),q.Rep p.p (gT p)→((List.map jL e.steps).length+1)*(48:Nat)≤(70368744177664:Nat)∧∃(r:zEu),r.q=IntKind.i64.wrap (e.q-min e.q (zX h).fst.qty)∧zE r.s=zE q∧List.map jL r.steps=List.map jL e.steps++[[D.v (.int .i64 (zX h).fst.price),D.v (.int .i64 (min e.q (zX h).fst.qty)),D.v (.bool (zX h).snd.fst),D.ro 6 (pC p)]]∧c r∧zFg d r e a)))) (∃(f:MSt),a.r.left=e.q∧zE f=zE e.s∧List.map jL a.r.steps=List.map jL e.steps∧f.Rep a.p a.r.B))) (pY a)
def yIr (i:RunI):Prop:=
 cnd (decide (i.inst≥0)) (cnd (decide (i.inst<(↑i.s.books.length:Int))) (cnd (zA i.sd==1) (zTa i) (cnd (zA i.sd==2) (zTa i) (pY i))) (pY i)) (pY i)
theorem yMn (hG:GOk Tryz.prog ([(90,nextC),(91,motherC),(92,mgoodC),(93,tradeC)])) (h:∀(i:RunI),runC.cnd i→yIr i):runC.ok Tryz.prog 56:=okw mixed hG 2 (fun _=>[]) (fun _=>yOs) [0] Tryz.func56 h
end Sx
