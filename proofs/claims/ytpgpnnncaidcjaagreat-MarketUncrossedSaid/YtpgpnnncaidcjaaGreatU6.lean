/- Texts of ours, one behind the other: a walk that the kernel reckons, and contracts of functions. No condition. -/
import Derived.Laws.AppendOwn
import Derived.Lib.AppendZerosOnto
import Derived.Lib.Overlaps
import Derived.Test.YtpgpnnncaidcjaaGreatU5
namespace Sx
set_option linter.unusedSimpArgs false
set_option linter.unusedVariables false
open Go Go.RowKit Cv
theorem pQ {P:Program} {dT sT ty e sz by_:Nat} {z:Array Value} (hi:vU P dT=some (e,sz,by_,z)) {w:World} {g o dLen dCap b so sLen sCap n:Nat} {cur src:List Value} {T T':TypeId} {fr:Nat×Nat}
 (hg:w.heap[g]? =some (.cells cur.toArray T (0,0))) (hs:w.heap[b]? =some (.cells src.toArray T' fr)) (hn:Nat.min sLen dLen=n) (h1:so+n*sz≤src.length) (h2:o+n*sz≤cur.length)
 (hone:∀v∈(src.drop so).take (n*sz),v.oneC=true):
 uG P (Builtin.copy_ #[dT,sT] ty #[.slice (some ⟨g,o,none⟩) dLen dCap,.slice (some ⟨b,so,none⟩) sLen sCap]) w (.int .i64 n) (World.setB w g (.cells (spl cur o ((src.drop so).take (n*sz))).toArray T (0,0))):=by
 obtain⟨i,zv,q1,q2,rfl,rfl,q5,rfl⟩:=kZ hi
 have hl:((src.drop so).take (n*i.size)).length=n*i.size:=by rw[List.length_take,List.length_drop];omega
 have hst:=kJ (P:=P) ((src.drop so).take (n*i.size)) 0 o cur w hg (by rw[hl];omega) hone
 simp only[Nat.add_zero]at hst
 unfold uG Builtin.copy_
 simp only[List.getElem?_toArray,List.getElem?_cons_zero,List.getElem?_cons_succ,bind,pure,run_bind,Sem.bind,Sem.run,Cv.run_underlying q1,Cv.run_sizeOf q2,Builtin.lenOf,hn,Builtin.firstCells,vZ hs h1,hst]
 rfl
theorem Hp.apart {k:Ko} {w:World} {b c:Nat} {o o':Obj} {L:List HP} (H:Hp k w (pt b o::pt c o'::L)):b≠c:=by
 obtain⟨hk,hs,hh⟩:=H
 cases hh with
 |cons ha hsub hd hr=>
  cases hr with
  |cons hb hsub2 hd2 hr2=>
   intro e
   subst e
   have:=hd _ List.mem_cons_self b
   rw[show _=one b o from ha,show _=one b o' from hb]at this
   simp[one]at this
def yJk (P:Program) (tS tI sz fO fR:Nat) (s:Option Addr) (sn sk:Nat) (i:Int) (v:Option Addr) (vn vk:Nat) (w:World) (R:Ending→World→Prop):Prop:=
slN s sn sk (some i) none sz fun a1 na1 ka1=>
cnd (((vn:Int):Int)==0) (
R (.returned (.slice s sn sk)) w) (
cnd ((i:Int)==(sn:Int)) (
∃(a2:Option Addr) (na2 ka2:Nat),∃w3:World,uG P (Builtin.append_ #[tS,tS] tS #[.slice s sn sk,.slice v vn vk]) w (.slice a2 na2 ka2) w3∧
R (.returned (.slice a2 na2 ka2)) w3) (
cnd (decide ((IntKind.i64.wrap ((sn:Int)+(vn:Int)):Int)>(sk:Int))) (
slN s sn sk none (some i) sz fun a4 na4 ka4=>
∃(a5:Option Addr) (na5 ka5:Nat),∃w6:World,uG P (Builtin.append_ #[tS,tI] tS #[.slice a4 na4 ka4,.int .i64 (IntKind.i64.wrap (IntKind.i64.wrap ((sn:Int)+(vn:Int))-i))]) w (.slice a5 na5 ka5) w6∧
slN a5 na5 ka5 (some i) none sz fun a7 na7 ka7=>
∃x8:Int,∃w9:World,uG P (Builtin.copy_ #[tS,tS] tI #[.slice a7 na7 ka7,.slice v vn vk]) w6 (.int .i64 x8) w9∧
DrewN w9 fun w10=>
slN a5 na5 ka5 (some (IntKind.i64.wrap (i+(vn:Int)))) none sz fun a11 na11 ka11=>
slN s sn sk (some i) none sz fun a12 na12 ka12=>
∃x13:Int,∃w14:World,uG P (Builtin.copy_ #[tS,tS] tI #[.slice a11 na11 ka11,.slice a12 na12 ka12]) w10 (.int .i64 x13) w14∧
R (.returned (.slice a5 na5 ka5)) w14) (
slN s sn sk none (some (IntKind.i64.wrap ((sn:Int)+(vn:Int)))) sz fun a15 na15 ka15=>
slN a15 na15 ka15 (some (IntKind.i64.wrap (i+(vn:Int)))) none sz fun a16 na16 ka16=>
∃c17:Bool,∃w18:World,Cv.Ext P fO #[.slice v vn vk,.slice a16 na16 ka16] w (.bool c17) w18∧
cnd (!c17) (
DrewN w18 fun w19=>
slN a15 na15 ka15 (some (IntKind.i64.wrap (i+(vn:Int)))) none sz fun a20 na20 ka20=>
slN a15 na15 ka15 (some i) none sz fun a21 na21 ka21=>
∃x22:Int,∃w23:World,uG P (Builtin.copy_ #[tS,tS] tI #[.slice a20 na20 ka20,.slice a21 na21 ka21]) w19 (.int .i64 x22) w23∧
slN a15 na15 ka15 (some i) none sz fun a24 na24 ka24=>
∃x25:Int,∃w26:World,uG P (Builtin.copy_ #[tS,tS] tI #[.slice a24 na24 ka24,.slice v vn vk]) w23 (.int .i64 x25) w26∧
R (.returned (.slice a15 na15 ka15)) w26) (
slN a15 na15 ka15 (some (sn:Int)) none sz fun a27 na27 ka27=>
∃x28:Int,∃w29:World,uG P (Builtin.copy_ #[tS,tS] tI #[.slice a27 na27 ka27,.slice v vn vk]) w18 (.int .i64 x28) w29∧
slN a15 na15 ka15 (some i) none sz fun a30 na30 ka30=>
Calls P fR #[.slice a30 na30 ka30,.int .i64 (vn:Int)] w29 fun e32 w31=>e32= .returned (.tuple #[])∧
R (.returned (.slice a15 na15 ka15)) w31))))
theorem z0k {α:Type} {l m:Nat} {xs r ys:List α} (hl:l≤xs.length) (hy:ys.length=m) (hr:m≤r.length):
 ((xs++r).take (l+m)++xs.drop l++(xs++r).drop (l+m+(xs.drop l).length)).take l++ys++((xs++r).take (l+m)++xs.drop l++(xs++r).drop (l+m+(xs.drop l).length)).drop (l+ys.length)=(xs.take l++ys++xs.drop l)++r.drop m:=by
 have e1:(xs++r).drop (l+m+(xs.drop l).length)=r.drop m:=by
  rw[List.length_drop,show l+m+(xs.length-l)=xs.length+m by omega,List.drop_append]
  simp
 have e2:((xs++r).take (l+m)++xs.drop l++r.drop m).take l=xs.take l:=by
  rw[List.append_assoc,List.take_append_of_le_length (by rw[List.length_take,List.length_append];omega),List.take_take,Nat.min_eq_left (by omega),List.take_append_of_le_length hl]
 have e3:((xs++r).take (l+m)++xs.drop l++r.drop m).drop (l+ys.length)=xs.drop l++r.drop m:=by
  have:((xs++r).take (l+m)).length=l+m:=by rw[List.length_take,List.length_append];omega
  rw[List.append_assoc,hy,List.drop_append,this,Nat.sub_self,List.drop_zero,List.drop_eq_nil_of_le (by omega),List.nil_append]
 rw[e1,e2,e3]
 simp
theorem zNq (A Z Y:List Value):spl (A++Z) A.length Y=A++Y++Z.drop Y.length:=by
 simp only[spl]
 rw[List.take_left,List.drop_append]
 simp
theorem zBe {b o n c i:Nat} (h:c≠i):(if c=i then(some ⟨b,o,none⟩:Option Addr)else(some ⟨b,o,none⟩:Option Addr).map (·.add n))=some ⟨b,o+n,none⟩:=by
 rw[if_neg h,Option.map_some,vV]
def zOi (P:Program) (fO:Nat):Prop:=∀(w:World) (va sb so la ca lb cb:Nat) (c c':Array Value) (T T':TypeId),va≠sb→w.heap[va]?=some (.cells c T (0,0))→w.heap[sb]?=some (.cells c' T' (0,0))→c'.size≠0→
 Cv.Ext P fO #[.slice (some ⟨va,0,none⟩) la ca,.slice (some ⟨sb,so,none⟩) lb cb] w (.bool false) w
theorem yEn {P : Program} {fO tS tB e sz by_ : Nat} {z : Array Value} {fn : Func} (hf : P.funcs[fO]? = some fn) (hname : (fn.name == "runtime.NumGoroutine") = false) (hb : fn.body.isNone = true) (hn : Extern.findNext fn = none) (he : Extern.find fn = some (Extern.SlicesOverlaps.overlaps #[tS, tS] #[tB]))
 (hi:vU P tS=some (e,sz,by_,z)):zOi P fO:=by
 obtain⟨i,zv,q1,q2,rfl,rfl,q5,rfl⟩:=kZ hi
 intro w va sb so la ca lb cb c c' T T' hne h1 h2 h3
 unfold Cv.Ext
 rw[run_callFunc_extern hf hname hb hn he,Lib.run_overlaps_apart w tS tB e q1 i.size (fun w=>Cv.run_sizeOf q2 w) ⟨va,0,none⟩ ⟨sb,so,none⟩ la ca lb cb hne T T' c.size c'.size (by simp[World.shape?,h1]) (by simp[World.shape?,h2]) h3 (by simp[World.frozen?,h1]) (by simp[World.frozen?,h1])]
 rfl
theorem yPo {P:Program} {tS tI e sz by_ fO fR:Nat} {z:Array Value} (hi:vU P tS=some (e,sz,by_,z)) (hz:z.size=sz) (hby:0<by_) (hsz:0<sz) (h2:zUp P tS=true) (hti:P.underlying tI=some (.int .i64)) (hov:zOi P fO)
 {k:Ko} {w:World} {L:List HP} {s v:Option Addr} {sn sk vn vk i:Nat} {xs ys:List Value} (H:Hp k w (slO e sz s sn sk xs::slO e sz v vn vk ys::L)) (h1:∀u∈xs,u.oneC=true) (hy:∀u∈ys,u.oneC=true) (hin:i≤sn) (hv:0<vn)
 (hb:(sn+vn)*by_≤70368744177664):
 yJk P tS tI sz fO fR s sn sk i v vn vk w fun en w'=>∃a kk,en= .returned (.slice a (sn+vn) kk)∧Hp k w' (slO e sz a (sn+vn) kk (xs.take (i*sz)++ys++xs.drop (i*sz))::slO e sz v vn vk ys::L):=by
 obtain⟨hxl,hnk⟩:=H.len
 obtain⟨hyl,hvk⟩:=H.swap.len
 have hnm:sn+vn≤70368744177664:=Nat.le_trans (Nat.le_mul_of_pos_right _ hby) hb
 have w1:IntKind.i64.wrap ((sn:Int)+(vn:Int))=((sn+vn:Nat):Int):=by rw[Cv.wrap_i64 (by omega) (by omega)];simp
 have w2:IntKind.i64.wrap ((i:Int)+(vn:Int))=((i+vn:Nat):Int):=by rw[Cv.wrap_i64 (by omega) (by omega)];simp
 have w3:IntKind.i64.wrap (((sn+vn:Nat):Int)-(i:Int))=((sn+vn-i:Nat):Int):=by rw[Cv.wrap_i64 (by omega) (by omega)];omega
 have hle:i*sz≤xs.length:=by rw[hxl];exact Nat.mul_le_mul_right _ hin
 have htl:(xs.take (i*sz)).length=i*sz:=by rw[List.length_take];omega
 have hdl:(xs.drop (i*sz)).length=(sn-i)*sz:=by rw[List.length_drop,hxl,Nat.sub_mul]
 have hsum:(i+vn)*sz=i*sz+vn*sz:=Nat.add_mul _ _ _
 have hsum2:(sn+vn)*sz=i*sz+vn*sz+(sn-i)*sz:=by rw[← Nat.add_mul,← Nat.add_mul];congr 1;omega
 have hfin:(xs.take (i*sz)++ys++xs.drop (i*sz)).length=(sn+vn)*sz:=by
  rw[List.length_append,List.length_append,htl,hyl,hdl,hsum2]
 unfold yJk
 simp only[slN,w1,w2,w3,Int.toNat_natCast]
 refine⟨⟨by omega,by omega,hnk⟩,Cv.cnd.mk (fun c=>absurd c (by simp;omega)) fun _=>Cv.cnd.mk (fun c=> ?_) fun c=>Cv.cnd.mk (fun hc=> ?_) fun hc=> ?_⟩
 ·have c:i=sn:=by have:(i:Int)=(sn:Int):=by simpa using c
                  omega
  subst c
  obtain⟨a',c',w',r1,r2⟩:=H.append (rt:=tS) hi h2 (x:= .slice v vn vk) (m:=vn) (ys:=ys) (.inl ⟨v,vk,rfl,H.swap.satR⟩) hy hz hby hb
  refine⟨a',_,c',w',r1,a',c',rfl,?_⟩
  rw[List.take_of_length_le (by omega),List.drop_eq_nil_of_le (by omega),List.append_nil]
  exact r2
 ·have c:i<sn:=by have:¬(i:Int)=(sn:Int):=by simpa using c
                  omega
  have hc:sk<sn+vn:=by have:=of_decide_eq_true hc;omega
  obtain⟨inf,zv,q1,q2,q3,q4,q5,q6⟩:=kZ hi
  subst q3 q4 q6
  rcases H.slcases with⟨_,e0,_⟩|⟨b,r,rfl,g1,g2,g3,H0⟩
  ·omega
  rcases H0.swap.slcases with⟨_,e0,_⟩|⟨vb,rv,rfl,g4,g5,g6,H1⟩
  ·omega
  have hold:(Builtin.firstCells inf.size i (.slice (some ⟨b,0,none⟩) i sk)).run P w.drew= .ok (xs.take (i*inf.size)).toArray w.drew:=by
   have hbk:=(H1.drew).swap.get
   have:=vZ (P:=P) (o:=0) (n:=i*inf.size) hbk (by rw[List.length_append];omega)
   unfold Builtin.firstCells
   rw[this,List.drop_zero,List.take_append_of_le_length hle]
  have hfit2:=zGs (need:=sn+vn) (cap:=sk) (by omega)
  have hfit3:=Nat.mul_le_mul_right inf.bytes hfit2
  have e2:2*(sn+vn)*inf.bytes=2*((sn+vn)*inf.bytes):=by rw[Nat.mul_assoc]
  have hkb:(sn+vn-i)*inf.bytes≤(sn+vn)*inf.bytes:=Nat.mul_le_mul_right _ (by omega)
  have hgr:=Lib.run_append_grow_zeros (P:=P) w tS tI tS e inf zv .i64 .i64 q1 hti q2 q5 (some ⟨b,0,none⟩) i sk (xs.take (i*inf.size)) hold (sn+vn-i) (by omega) hsz (by omega) (by omega) (by omega) (by rw[show i+(sn+vn-i)=sn+vn by omega];omega)
  rw[show i+(sn+vn-i)=sn+vn by omega]at hgr
  have hG:sn+vn≤grownCap w (sn+vn) sk e:=grownCap_ge w (sn+vn) sk e
  generalize grownCap w (sn+vn) sk e=G at hgr hG
  have harr:(xs.take (i*inf.size)).toArray++Builtin.zeroCells zv.cells (sn+vn-i)++Builtin.zeroCells zv.cells (G-(sn+vn))=(xs.take (i*inf.size)++((Builtin.zeroCells zv.cells (sn+vn-i)).toList++(Builtin.zeroCells zv.cells (G-(sn+vn))).toList)).toArray:=by
   apply Array.ext';simp
  rw[harr]at hgr
  have hZl:((Builtin.zeroCells zv.cells (sn+vn-i)).toList++(Builtin.zeroCells zv.cells (G-(sn+vn))).toList).length=(sn+vn-i)*inf.size+(G-(sn+vn))*inf.size:=by
   rw[List.length_append,Array.length_toList,Array.length_toList,size_zeroCells,size_zeroCells,hz]
  generalize (Builtin.zeroCells zv.cells (sn+vn-i)).toList++(Builtin.zeroCells zv.cells (G-(sn+vn))).toList=Z at hgr hZl
  have hZ2:(sn+vn-i)*inf.size=vn*inf.size+(sn-i)*inf.size:=by rw[← Nat.add_mul];congr 1;omega
  have H2:=(H1.drew).new (.cells (xs.take (i*inf.size)++Z).toArray e)
  have hB:w.drew.heap.size=w.heap.size:=rfl
  rw[hB]at H2
  have hc1:=pQ (P:=P) (sT:=tS) (ty:=tI) hi (g:=w.heap.size) (o:=0+i*inf.size) (dLen:=sn+vn-i) (dCap:=G-i) (b:=vb) (so:=0) (sLen:=vn) (sCap:=vk) (n:=vn) H2.get H2.swap.get (Nat.min_eq_left (by omega)) (by rw[List.length_append];omega) (by rw[List.length_append,htl,hZl];omega) (by
   rw[List.drop_zero,List.take_append_of_le_length (by omega),List.take_of_length_le (by omega)];exact hy)
  rw[List.drop_zero,List.take_append_of_le_length (by omega),List.take_of_length_le (show ys.length≤vn*inf.size by omega),Nat.zero_add]at hc1
  have es1:spl (xs.take (i*inf.size)++Z) (i*inf.size) ys=xs.take (i*inf.size)++ys++Z.drop ys.length:=by
   have:=zNq (xs.take (i*inf.size)) Z ys
   rwa [htl]at this
  rw[es1]at hc1
  have H3:=(H2.upd (.cells (xs.take (i*inf.size)++ys++Z.drop ys.length).toArray e)).drew
  have hg4:(xs++r).drop (i*inf.size)=xs.drop (i*inf.size)++r:=List.drop_append_of_le_length hle
  have hc2:=pQ (P:=P) (sT:=tS) (ty:=tI) hi (g:=w.heap.size) (o:=0+(i+vn)*inf.size) (dLen:=sn+vn-(i+vn)) (dCap:=G-(i+vn)) (b:=b) (so:=0+i*inf.size) (sLen:=sn-i) (sCap:=sk-i) (n:=sn-i) H3.get H3.swap.drop.swap.get (Nat.min_eq_left (by omega)) (by rw[List.length_append,hxl,Nat.zero_add,← Nat.add_mul];exact Nat.le_trans (Nat.mul_le_mul_right _ (by omega)) (Nat.le_add_right _ _)) (by
   rw[List.length_append,List.length_append,htl,hyl,List.length_drop,hZl];omega) (by
   rw[Nat.zero_add,hg4,List.take_append_of_le_length (by omega),List.take_of_length_le (by omega)]
   exact fun u hu=>h1 u (List.mem_of_mem_drop hu))
  rw[Nat.zero_add,Nat.zero_add,hg4,List.take_append_of_le_length (by omega),List.take_of_length_le (show(xs.drop (i*inf.size)).length≤(sn-i)*inf.size by omega)]at hc2
  have es2:spl (xs.take (i*inf.size)++ys++Z.drop ys.length) ((i+vn)*inf.size) (xs.drop (i*inf.size))=xs.take (i*inf.size)++ys++xs.drop (i*inf.size)++(Z.drop ys.length).drop (xs.drop (i*inf.size)).length:=by
   have:=zNq (xs.take (i*inf.size)++ys) (Z.drop ys.length) (xs.drop (i*inf.size))
   rwa [show(xs.take (i*inf.size)++ys).length=(i+vn)*inf.size by rw[List.length_append,htl,hyl,hsum]]at this
  rw[es2]at hc2
  refine⟨⟨by omega,by omega⟩,_,_,_,_,hgr,?_⟩
  rw[zBe (show G≠i by omega),Nat.zero_add]
  refine⟨⟨by omega,by omega,hG⟩,_,_,hc1,?_⟩
  rintro _ rfl
  rw[zBe (show G≠i+vn by omega),zBe (show sk≠i by omega),Nat.zero_add,Nat.zero_add]
  refine⟨⟨by omega,by omega,hG⟩,⟨by omega,by omega,hnk⟩,_,_,hc2,_,_,rfl,?_⟩
  have H4:=H3.upd (.cells (xs.take (i*inf.size)++ys++xs.drop (i*inf.size)++(Z.drop ys.length).drop (xs.drop (i*inf.size)).length).toArray e)
  have H5:=H4.slmk (n:=sn+vn) (c:=G) (sz:=inf.size) hfin (by
   rw[List.length_append,hfin,List.length_drop,List.length_drop,hZl,hyl,hdl]
   have:G*inf.size=(sn+vn)*inf.size+(G-(sn+vn))*inf.size:=by rw[← Nat.add_mul];congr 1;omega
   omega) hG
  have H6:=H5.swap.slmk (n:=vn) (c:=vk) (sz:=inf.size) g4 g5 g6
  exact(H6.swap.perm (List.Perm.trans ((List.Perm.swap _ _ _).cons _) (List.Perm.swap _ _ _))).drop
 ·have c:i<sn:=by have:¬(i:Int)=(sn:Int):=by simpa using c
                  omega
  have hc:sn+vn≤sk:=by have:=of_decide_eq_false hc;omega
  rcases H.slcases with⟨_,e0,_⟩|⟨b,r,rfl,g1,g2,g3,H0⟩
  ·omega
  rcases H0.swap.slcases with⟨_,e0,_⟩|⟨vb,rv,rfl,g4,g5,g6,H1⟩
  ·omega
  have hrl:vn*sz≤r.length:=by
   have e1:(sn+vn)*sz≤sk*sz:=Nat.mul_le_mul_right _ hc
   rw[List.length_append,g1]at g2
   rw[Nat.add_mul]at e1
   omega
  have H2:=H1.swap
  have hne:vb≠b:=Hp.apart H1
  have hg4:(xs++r).drop (i*sz)=xs.drop (i*sz)++r:=List.drop_append_of_le_length hle
  have hex:=hov w vb b (0+(i+vn)*sz) vn vk (sn+vn-(i+vn)) (sk-(i+vn)) (ys++rv).toArray (xs++r).toArray e e hne H1.get H2.get (by
   rw[List.size_toArray,List.length_append,g1]
   have:=Nat.mul_pos (show 0<sn by omega) hsz
   omega)
  have H3:=H2.drew
  have hc1:=pQ (P:=P) (sT:=tS) (ty:=tI) hi (g:=b) (o:=0+(i+vn)*sz) (dLen:=sn+vn-(i+vn)) (dCap:=sk-(i+vn)) (b:=b) (so:=0+i*sz) (sLen:=sn+vn-i) (sCap:=sk-i) (n:=sn-i) H3.get H3.get (by rw[show sn+vn-(i+vn)=sn-i by omega];exact Nat.min_eq_right (by omega)) (by
   rw[List.length_append,g1,Nat.zero_add,← Nat.add_mul];exact Nat.le_trans (Nat.mul_le_mul_right _ (by omega)) (Nat.le_add_right _ _)) (by
   rw[List.length_append,g1,Nat.zero_add,← Nat.add_mul,show i+vn+(sn-i)=sn+vn by omega,Nat.add_mul];omega) (by
   rw[Nat.zero_add,hg4,List.take_append_of_le_length (by omega),List.take_of_length_le (by omega)]
   exact fun u hu=>h1 u (List.mem_of_mem_drop hu))
  rw[Nat.zero_add,Nat.zero_add,hg4,List.take_append_of_le_length (by omega),List.take_of_length_le (show(xs.drop (i*sz)).length≤(sn-i)*sz by omega)]at hc1
  have H4:=H3.upd (.cells (spl (xs++r) ((i+vn)*sz) (xs.drop (i*sz))).toArray e)
  have hcl:(spl (xs++r) ((i+vn)*sz) (xs.drop (i*sz))).length=(xs++r).length:=by
   simp only[spl,List.length_append,List.length_take,hdl]
   rw[List.length_drop,List.length_append,g1,hsum]
   have:sn*sz=i*sz+(sn-i)*sz:=by rw[← Nat.add_mul];congr 1;omega
   omega
  have hc2:=pQ (P:=P) (sT:=tS) (ty:=tI) hi (g:=b) (o:=0+i*sz) (dLen:=sn+vn-i) (dCap:=sk-i) (b:=vb) (so:=0) (sLen:=vn) (sCap:=vk) (n:=vn) H4.get H4.swap.get (Nat.min_eq_left (by omega)) (by rw[List.length_append];omega) (by
   rw[hcl,List.length_append,Nat.zero_add];omega) (by
   rw[List.drop_zero,List.take_append_of_le_length (by omega),List.take_of_length_le (by omega)];exact hy)
  rw[List.drop_zero,List.take_append_of_le_length (by omega),List.take_of_length_le (show ys.length≤vn*sz by omega),Nat.zero_add]at hc2
  have es:spl (spl (xs++r) ((i+vn)*sz) (xs.drop (i*sz))) (i*sz) ys=(xs.take (i*sz)++ys++xs.drop (i*sz))++r.drop (vn*sz):=by
   have:=z0k (l:=i*sz) (m:=vn*sz) (xs:=xs) (r:=r) (ys:=ys) hle hyl hrl
   simp only[spl,hsum]
   exact this
  rw[es]at hc2
  refine⟨⟨by omega,by omega⟩,⟨by omega,by omega,by omega⟩,false,w,?_,Cv.cnd.mk (fun _=> ?_) (fun c=>absurd c (by decide))⟩
  ·rw[zBe (show sk≠i+vn by omega)];exact hex
  rintro _ rfl
  rw[zBe (show sk≠i+vn by omega),zBe (show sk≠i by omega),Nat.zero_add,Nat.zero_add]
  refine⟨⟨by omega,by omega,by omega⟩,⟨by omega,by omega,by omega⟩,_,_,hc1,⟨by omega,by omega,by omega⟩,_,_,hc2,_,_,rfl,?_⟩
  have H5:=H4.upd (.cells (xs.take (i*sz)++ys++xs.drop (i*sz)++r.drop (vn*sz)).toArray e)
  have H6:=H5.slmk (n:=sn+vn) (c:=sk) (sz:=sz) hfin (by
   rw[List.length_append,hfin,List.length_drop,← g2,List.length_append,g1,Nat.add_mul]
   omega) hc
  exact(H6.swap.slmk (n:=vn) (c:=vk) (sz:=sz) g4 g5 g6).swap
structure z0f where
 els:List (List D)
 el:List D
 i:Nat
def yAs (e sz by_:Nat):Con where
 ι:=z0f
 pat:=fun i=>[.own 0,.d (.v (.int .i64 i.i)),.own 1]
 pre:=fun i=>[.own e sz i.els,.own e sz [i.el]]
 cnd:=fun i=>i.i≤i.els.length∧(i.els.length+1)*by_≤70368744177664
 alts:=fun i=>[{o:=Unit,res:=fun _=> .own 2,post:=fun _=>[.gone,.gone,.own e sz (i.els.take i.i++i.el::i.els.drop i.i)],rel:=fun _=>True}]
theorem insX_ok {P:Program} (hm:P.follows .mixedOrders=true) {tS tI e sz by_ fI fO fR:Nat} {z:Array Value} {fn:Func} {c:Code} (hf:P.funcs[fI]? =some fn) (hb:fn.body=some c) (hbd:vJ P fI=true) (hok:okC fn.ntmps c=true) (hfx:okF [] c=true) (hsz3:Nat.ble 3 fn.ntmps=true)
 (hi:vU P tS=some (e,sz,by_,z)) (hz:z.size=sz) (hby:0<by_) (hsz:0<sz) (h2:zUp P tS=true) (hti:P.underlying tI=some (.int .i64)) (hov:zOi P fO)
 (heq:∀(s:Option Addr) (sn sk:Nat) (i:Int) (v:Option Addr) (vn vk:Nat) (w:World) (R:Ending→World→Prop),yJk P tS tI sz fO fR s sn sk i v vn vk w R=cwp P [] c (zNp P fn R) (vO [.slice s sn sk,.int .i64 i,.slice v vn vk]) w):
 (yAs e sz by_).ok P fI:=by
 intro i hc k L E w ys R hv
 obtain⟨c1,c2⟩:i.i≤i.els.length∧(i.els.length+1)*by_≤70368744177664:=hc
 simp only[yAs,VRL,VR,DR]at hv
 obtain⟨y0,_,rfl,⟨l0,e0,_⟩,y1,_,rfl,⟨rfl,_⟩,y2,_,rfl,⟨l2,e2,_⟩,rfl⟩:=hv
 obtain⟨s,sk,xs,sub0,g1,hxs,hu,H⟩:=R.ownOpen (n:=0) (t:=e) (sz:=sz) (els:=i.els) rfl
 rw[e0]at g1;cases g1
 have hk2:∃v vk zs,y2= .slice v 1 vk∧DRL E.F i.el zs∧i.el.length=sz∧Hp k w (slO e sz s i.els.length sk xs::slO e sz v 1 vk zs::fz E.F::L):=by
  obtain⟨hk,hs,hh⟩:=H
  cases hh with
  |cons ha hsub hd hr=>
   simp only[yAs,uL,vM,List.map_cons,List.map_nil,List.cons_append,List.nil_append]at hr
   cases hr with
   |cons hb2 hsub2 hd2 hr2=>
    rcases hb2 with⟨q,_⟩|⟨⟨hv2,sub2⟩,q1,q2⟩
    ·cases q
    ·simp only at q1
     rw[e2]at q1;cases q1
     simp only[rowHP]at q2
     obtain⟨a,kk,zs,rfl,q3,q4,q5⟩:=q2
     simp only[List.flatten_cons,List.flatten_nil,List.append_nil]at q3
     exact⟨a,kk,zs,rfl,q3,q4 _ List.mem_cons_self,hk,_,.cons ha hsub hd (.cons q5 hsub2 hd2 hr2)⟩
 obtain⟨v,vk,zs,rfl,hzs,hel,H2⟩:=hk2
 have hv:=yPo (fR:=fR) (fO:=fO) hi hz hby hsz h2 hti hov (i:=i.i) H2 hxs.one hzs.one c1 (by omega) c2
 have hcall:=zCh (args:=[.slice s i.els.length sk,.int .i64 i.i,.slice v 1 vk]) hm hf hb [] hok hfx hsz3 (heq s i.els.length sk i.i v 1 vk w _) hv
 refine sG hbd (hcall.mono ?_)
 rintro en w' ⟨a,kk,rfl,H3⟩
 have H4:Hp k w' (slO e sz a (i.els.take i.i++i.el::i.els.drop i.i).length kk (xs.take (i.i*sz)++zs++xs.drop (i.i*sz))::(([]:List (Nat×AObj)).map (rHP E)++fz E.F::L)):=by
  have:(i.els.take i.i++i.el::i.els.drop i.i).length=i.els.length+1:=by
   rw[List.length_append,List.length_cons,List.length_take,List.length_drop];omega
  rw[this]
  exact H3.swap.drop
 obtain⟨E',r1,r2,r3⟩:=cC (nx:=2) R.nx (by
  rw[List.flatten_append,List.flatten_cons,← bM i.i hu,← bR i.i hu,← List.append_assoc]
  exact((hxs.take _).append hzs).append (hxs.drop _)) (fun x hx=>by
   rcases List.mem_append.1 hx with hx|hx
   ·exact hu x (List.mem_of_mem_take hx)
   ·rcases List.mem_cons.1 hx with rfl|hx
    ·exact hel
    ·exact hu x (List.mem_of_mem_drop hx)) H4
 have hl:(i.els.take i.i++i.el::i.els.drop i.i).length=i.els.length+1:=by
  rw[List.length_append,List.length_cons,List.length_take,List.length_drop];omega
 rw[hl]at r3
 refine⟨_,rfl,_,List.mem_singleton.2 rfl,(),trivial,E',r1,r3,⟨r2.nx,?_⟩⟩
 have q1:=((@v9 k w' True _).2 ⟨trivial,r2.hp⟩).imp (B:=rHP E' (1,.gone)) fun x hx=> .inl ⟨rfl,hx.2⟩
 have q2:=((@v9 k w' True _).2 ⟨trivial,q1⟩).imp (B:=rHP E' (0,.gone)) fun x hx=> .inl ⟨rfl,hx.2⟩
 exact q2
set_option maxRecDepth 100000
open Go Cv Go.Proofs
def bbetterC:Con:=con1 I3' (fun i=>[zB i.side,zB i.x,zB i.y]) (fun _=>[]) (fun _=>True) (fun i=>yO (btr i.side i.x i.y)) (fun _=>[])
@[reducible] def yMi (s:Slot):V:= .agg [yO s.used,zB s.n,zB s.id,zB s.qty,yO s.top,zB s.queue,zB s.ahead,zB s.back]
def pushFC:Con:=con1 Slot (fun s=>[yMi s]) (fun _=>[]) (fun _=>True) (fun s=>yO (!s.used)) (fun _=>[])
def qT (l:List Slot):Int:=zCt (l.findIdx? fun s=> !s.used)
def idxSlotC:Con:=con1 (List Slot) (fun _=>[.own 0,.fn 146 [] []]) (fun l=>[.own 193 8 (l.map zR)]) (fun l=>l.length≤1000000) (fun l=>zB (qT l)) (fun l=>[.own 193 8 (l.map zR)])
def z9q (l:List Slot):List SAnn:=[{ι:=Nat,slots:=fun j=>[(8,zB j)],rows:=fun _=>[]}]
def dG:fJ:=⟨-1,-1,0,0⟩
def Arena.openQ (a:Arena):Arena:={a with queues:=a.queues++[dG]}
def aopenC:Con:=con1 Arena (fun _=>[.nm 0 0]) (fun a=>[jD a]) (fun a=>a.queues.length≤1000000) (fun a=>zB a.queues.length) (fun a=>[jD a.openQ])
structure zUa where
 a:Arena
 n:Int
 t:Bool
def Arena.usedAt (a:Arena) (n:Int):Bool:=decide (0≤n) && (decide (n<a.slots.length) && (a.slots.getD n.toNat slot0).used)
def Arena.topF (a:Arena) (n:Int) (t:Bool):Arena:=if a.usedAt n=true then{a with slots:=a.slots.modify n.toNat fun s=>{s with top:=t}}else a
def atopC:Con:=con1 zUa (fun i=>[.nm 0 0,zB i.n,yO i.t]) (fun i=>[jD i.a]) (fun i=>i.a.slots.length≤1000000) (fun i=>zB (if i.a.usedAt i.n=true then 0 else 26)) (fun i=>[jD (i.a.topF i.n i.t)])
structure PuI where
 a:Arena
 n:Int
 id:Int
 qty:Int
 top:Bool
def Arena.put (a:Arena) (n id qty:Int) (top:Bool):Arena:=
 let q:=a.queues.getD n.toNat dG
 let k:=qT a.slots
 let sl:=a.slots.set k.toNat ⟨true,k,id,qty,top,n,q.last,-1⟩
 ⟨if q.last= -1 then sl else sl.modify q.last.toNat fun s=>{s with back:=k},a.queues.set n.toNat ⟨if q.last= -1 then k else q.first,k,IntKind.i64.wrap (q.total+qty),IntKind.i64.wrap (q.count+1)⟩,IntKind.i64.wrap (a.free-1)⟩
def Arena.push (a:Arena) (n id qty:Int) (top:Bool):Arena×Int×Int:=
 if n<0∨a.queues.length≤n then(a,0,26)else if qty<1∨1000000<qty then(a,0,24)else if a.free=0 then(a,0,13)else(a.put n id qty top,qT a.slots,0)
def Arena.fit (a:Arena):Prop:=a.slots.length≤1000000∧(a.free≠0→∃s∈a.slots,s.used=false)∧∀q∈a.queues,q.last= -1∨(0≤q.last∧q.last<a.slots.length)
def apushC:Con:=con1 PuI (fun i=>[.nm 0 0,zB i.n,zB i.id,zB i.qty,yO i.top]) (fun i=>[jD i.a]) (fun i=>i.a.fit) (fun i=> .tup [zB (i.a.push i.n i.id i.qty i.top).2.1,zB (i.a.push i.n i.id i.qty i.top).2.2]) (fun i=>[jD (i.a.push i.n i.id i.qty i.top).1])
@[reducible] def zCu (b:Book):List AObj:=[zQ b 0,zQ b 1,zQ b 2,zQ b 3,zQ b 4,zQ b 5]
structure BkP where
 b:Book
 price:Int
def zW (s:Int) (l:List xL) (price:Int):Nat:=(l.takeWhile fun r=>btr s r.price price).length
def kK (s:Int) (l:List xL) (price:Int):Bool:=match l[zW s l price]? with
 |some r=>decide (r.price=price)
 |none=>false
def Book.rungs (b:Book) (s:Int):List xL:=if s=1 then b.buys else b.sells
def z4d (s:Int):Con:=con1 BkP (fun i=>[.nm 0 0,zB s,zB i.price]) (fun i=>zCu i.b) (fun i=>i.b.small) (fun i=> .tup [zB (zW s (i.b.rungs s) i.price),yO (kK s (i.b.rungs s) i.price)]) (fun i=>zCu i.b)
def find1C:Con:=z4d 1
def find2C:Con:=z4d 2
def yEx:List SAnn:=[{ι:=Nat,slots:=fun j=>[(9,zB j)],rows:=fun _=>[]}]
def pget (l:List (Int×Place)) (k:Int):Option Place:=(l.find? fun x=>decide (x.1=k)).map (·.2)
def mH (k:Int) (v:Place):List (Int×Place)→List (Int×Place)
 |[]=>[(k,v)]
 |(a,b)::l=>if k=a then(a,v)::l else(a,b)::mH k v l
structure LdI where
 b:Book
 id:Int
def Book.hasF (b:Book) (s:Int):Bool:=if s=1 then b.has1 else b.has2
def Book.topI (b:Book) (s:Int):Int:=if s=1 then b.top1 else b.top2
def Book.untop (b:Book) (s:Int):Arena:=if b.hasF s=true then(match pget b.at_ (b.topI s)with
 |some o=>if o.side=s then b.a.topF o.slot false else b.a
 |none=>b.a)else b.a
def Book.leadF (b:Book) (id s:Int):Book:=if s=1 then{b with a:=b.untop s,top1:=id,has1:=true}else{b with a:=b.untop s,top2:=id,has2:=true}
def z8i (s:Int):Con:=con1 LdI (fun i=>[.nm 0 0,zB i.id,zB s]) (fun i=>zCu i.b) (fun i=>i.b.small) (fun _=>zQh) (fun i=>zCu (i.b.leadF i.id s))
def lead1C:Con:=z8i 1
def lead2C:Con:=z8i 2
def Book.newQ (b:Book):Int×List Int×Arena:=if b.spare.length=0 then(b.a.queues.length,b.spare,b.a.openQ)else(b.spare.getD (b.spare.length-1) 0,b.spare.take (b.spare.length-1),b.a)
def Book.ins (b:Book) (s price:Int):List xL:=(b.rungs s).take (zW s (b.rungs s) price)++⟨price,b.newQ.1⟩::(b.rungs s).drop (zW s (b.rungs s) price)
def Book.queueF (b:Book) (s price:Int):Book×Int:=
 if kK s (b.rungs s) price=true then(b,((b.rungs s).getD (zW s (b.rungs s) price) ⟨0,0⟩).queue)
 else(if s=1 then{b with a:=b.newQ.2.2,buys:=b.ins s price,spare:=b.newQ.2.1}else{b with a:=b.newQ.2.2,sells:=b.ins s price,spare:=b.newQ.2.1},b.newQ.1)
def yBh (b:Book):AObj:= .cells [.nm 1 0,.own 6,.own 3,.mp 4,zB b.top1,zB b.top2,.own 7,yO b.has1,yO b.has2] 144
def yEm (b:Book):AObj:= .cells [.nm 1 0,.own 2,.own 6,.mp 4,zB b.top1,zB b.top2,.own 7,yO b.has1,yO b.has2] 144
@[reducible] def yLj (b:Book):List AObj:=[yBh b,zQ b 1,.gone,zQ b 3,zQ b 4,.gone,zQ b 2,zQ b 5]
@[reducible] def yLr (b:Book):List AObj:=[yEm b,zQ b 1,zQ b 2,.gone,zQ b 4,.gone,zQ b 3,zQ b 5]
@[reducible] def Book.fit (b:Book):Prop:=b.a.fit∧b.a.queues.length≤100000∧b.buys.length≤100000∧b.sells.length≤100000∧b.spare.length≤100000
def queue1C:Con:=con1 BkP (fun i=>[.nm 0 0,zB 1,zB i.price]) (fun i=>zCu i.b) (fun i=>i.b.fit) (fun i=>zB (i.b.queueF 1 i.price).2) (fun i=>yLj (i.b.queueF 1 i.price).1)
def queue2C:Con:=con1 BkP (fun i=>[.nm 0 0,zB 2,zB i.price]) (fun i=>zCu i.b) (fun i=>i.b.fit) (fun i=>zB (i.b.queueF 2 i.price).2) (fun i=>yLr (i.b.queueF 2 i.price).1)
def insRC:Con:=yAs 147 2 16
open Go Cv Go.Proofs
def zSi (i:I3'):Prop:=
 cnd (i.side==1) (∃(a:Unit),btr i.side i.x i.y=decide (i.x>i.y)∧True) (∃(a:Unit),btr i.side i.x i.y=decide (i.x<i.y)∧True)
theorem z0q (hG:GOk Tryz.prog ([])) (h:∀(i:I3'),bbetterC.cnd i→zSi i):bbetterC.ok Tryz.prog 111:=okw mixed hG 0 (fun _=>[]) (fun _=>[]) [] Tryz.func111 h
def z6s (s:Slot):Prop:=
 ∃(a:Unit),(!s.used)=!s.used∧True
theorem yBm (hG:GOk Tryz.prog ([])) (h:∀(s:Slot),pushFC.cnd s→z6s s):pushFC.ok Tryz.prog 146:=okw mixed hG 0 (fun _=>[]) (fun _=>[]) [] Tryz.func146 h
def zGw (l:List Slot):Prop:=
 ∃(a:Nat),(↑a:Int)=0∧∃(b:Nat→Prop),∃(c:Nat→Nat),b a∧∀(d:Nat),b d→cnd (decide ((↑d:Int)<(↑(List.map zR l).length:Int))) ((0≤(↑d:Int)∧(↑d:Int)<(↑(List.map zR l).length:Int))∧∃(e:Bool),∃(f:Int),∃(g:Int),∃(h:Int),∃(j:Bool),∃(k:Int),∃(m:Int),∃(n:Int),zF (List.map zR l) (↑d:Int).toNat 0 8=some [D.v (.bool e),D.v (.int .i64 f),D.v (.int .i64 g),D.v (.int .i64 h),D.v (.bool j),D.v (.int .i64 k),D.v (.int .i64 m),D.v (.int .i64 n)]∧∃(p:Slot),p.used=e∧p.n=f∧p.id=g∧p.qty=h∧p.top=j∧p.queue=k∧p.ahead=m∧p.back=n∧True∧∀(q:Unit),True→cnd (!p.used) (∃(r:Unit),qT l=(↑d:Int)∧List.map zR l=List.map zR l∧True) (∃(r:Nat),(↑r:Int)=IntKind.i64.wrap ((↑d:Int)+1)∧b r∧c r<c d∧AObj.own 193 8 (List.map zR l)=AObj.own 193 8 (List.map zR l))) (∃(e:Unit),qT l=(-1)∧List.map zR l=List.map zR l∧True)
theorem z0n (hG:GOk Tryz.prog ([(146,pushFC)])) (h:∀(l:List Slot),idxSlotC.cnd l→zGw l):idxSlotC.ok Tryz.prog 145:=okw mixed hG 0 (fun _=>[]) (fun l=>z9q l) [] Tryz.func145 h
def z8t (a:Arena):Prop:=
 ((List.map zN a.queues).length+1)*(32:Nat)≤(70368744177664:Nat)∧∃(b:Unit),(↑a.queues.length:Int)=IntKind.i64.wrap ((↑(List.map zN a.queues++[[D.v (.int .i64 (-1)),D.v (.int .i64 (-1)),D.v (.int .i64 0),D.v (.int .i64 0)]]).length:Int)-1)∧a.free=a.free∧List.map zR a.slots=List.map zR a.slots∧List.map zN (a.queues++[dG])=List.map zN a.queues++[[D.v (.int .i64 (-1)),D.v (.int .i64 (-1)),D.v (.int .i64 0),D.v (.int .i64 0)]]∧True
theorem yBd (hG:GOk Tryz.prog ([])) (h:∀(a:Arena),aopenC.cnd a→z8t a):aopenC.ok Tryz.prog 147:=okw mixed hG 0 (fun _=>[]) (fun _=>[]) [0] Tryz.func147 h
def pU (a:zUa):Prop:=∃(b:Unit),(if a.a.usedAt a.n=true then(0:Int)else(26:Int))=26∧(a.a.topF a.n a.t).free=a.a.free∧List.map zR (a.a.topF a.n a.t).slots=List.map zR a.a.slots∧List.map zN (a.a.topF a.n a.t).queues=List.map zN a.a.queues∧True
def z3q (i:zUa):Prop:=
 cnd (decide (i.n<0)) (pU i) (cnd (decide (i.n≥(↑(List.map zR i.a.slots).length:Int))) (pU i) ((0≤i.n∧i.n<(↑(List.map zR i.a.slots).length:Int))∧∃(a:Bool),zF (List.map zR i.a.slots) i.n.toNat ((0:Nat)+(0:Nat)) 1=some [D.v (.bool a)]∧cnd (!a) (pU i) ((0≤i.n∧i.n<(↑(List.map zR i.a.slots).length:Int))∧i.n.toNat<(List.map zR i.a.slots).length∧∃(b:Unit),(if i.a.usedAt i.n=true then(0:Int)else(26:Int))=0∧(i.a.topF i.n i.t).free=i.a.free∧List.map zR (i.a.topF i.n i.t).slots=yC (List.map zR i.a.slots) i.n.toNat ((0:Nat)+(1:Nat)+3) [D.v (.bool i.t)]∧List.map zN (i.a.topF i.n i.t).queues=List.map zN i.a.queues∧True)))
theorem yJw (hG:GOk Tryz.prog ([])) (h:∀(i:zUa),atopC.cnd i→z3q i):atopC.ok Tryz.prog 144:=okw mixed hG 1 (fun _=>[]) (fun _=>[]) [0] Tryz.func144 h
def yG (a:PuI):=(a.a.push a.n a.id a.qty a.top)
def aB (a:PuI):Prop:=(yG a).fst.free=a.a.free∧List.map zR (yG a).fst.slots=List.map zR a.a.slots∧List.map zN (yG a).fst.queues=List.map zN a.a.queues∧True
def zBj (a:PuI):Prop:=∃(b:Unit),(yG a).snd.fst=0∧(yG a).snd.snd=26∧aB a
def zAy (a:PuI):Prop:=∃(b:Unit),(yG a).snd.fst=0∧(yG a).snd.snd=24∧aB a
def b7 (a:PuI) (b:List Slot):=(yC (yC (List.map zN a.a.queues) a.n.toNat ((0:Nat)+(0:Nat)) [D.v (.int .i64 (qT b))]) a.n.toNat ((0:Nat)+(1:Nat)) [D.v (.int .i64 (qT b))])
def aC (a:PuI) (b:List Slot) (c:Int):=(yC (b7 a b) a.n.toNat ((0:Nat)+(2:Nat)) [D.v (.int .i64 (IntKind.i64.wrap (c+a.qty)))])
def aI (a:PuI) (b:List Slot):=(yC (List.map zN a.a.queues) a.n.toNat ((0:Nat)+(1:Nat)) [D.v (.int .i64 (qT b))])
def aN (a:PuI) (b:List Slot) (c:Int):=(yC (aI a b) a.n.toNat ((0:Nat)+(2:Nat)) [D.v (.int .i64 (IntKind.i64.wrap (c+a.qty)))])
def zSs (i:PuI):Prop:=
 cnd (decide (i.n≥0)) (cnd (!decide (i.n<(↑(List.map zN i.a.queues).length:Int))) (zBj i) (cnd (decide (i.qty<1)) (zAy i) (cnd (decide (i.qty>1000000)) (zAy i) (cnd (i.a.free==0) (∃(a:Unit),(yG i).snd.fst=0∧(yG i).snd.snd=13∧aB i) (∃(a:List Slot),List.map zR a=List.map zR i.a.slots∧a.length≤1000000∧∀(b:Unit),True→(0≤i.n∧i.n<(↑(List.map zN i.a.queues).length:Int))∧∃(c:Int),zF (List.map zN i.a.queues) i.n.toNat ((0:Nat)+(1:Nat)) 1=some [D.v (.int .i64 c)]∧(0≤qT a∧qT a<(↑(List.map zR a).length:Int))∧(qT a).toNat<(List.map zR a).length∧∃(d:Int),zF (List.map zN i.a.queues) i.n.toNat ((0:Nat)+(1:Nat)) 1=some [D.v (.int .i64 d)]∧cnd (d==(-1)) (i.n.toNat<(List.map zN i.a.queues).length∧i.n.toNat<(yC (List.map zN i.a.queues) i.n.toNat ((0:Nat)+(0:Nat)) [D.v (.int .i64 (qT a))]).length∧∃(e:Int),zF (b7 i a) i.n.toNat ((0:Nat)+(2:Nat)) 1=some [D.v (.int .i64 e)]∧i.n.toNat<(b7 i a).length∧∃(f:Int),zF (aC i a e) i.n.toNat ((0:Nat)+(3:Nat)) 1=some [D.v (.int .i64 f)]∧i.n.toNat<(aC i a e).length∧∃(g:Unit),(yG i).snd.fst=qT a∧(yG i).snd.snd=0∧(yG i).fst.free=IntKind.i64.wrap (i.a.free-1)∧List.map zR (yG i).fst.slots=yC (List.map zR a) (qT a).toNat 0 [D.v (.bool true),D.v (.int .i64 (qT a)),D.v (.int .i64 i.id),D.v (.int .i64 i.qty),D.v (.bool i.top),D.v (.int .i64 i.n),D.v (.int .i64 c),D.v (.int .i64 (-1))]∧List.map zN (yG i).fst.queues=yC (aC i a e) i.n.toNat ((0:Nat)+(3:Nat)) [D.v (.int .i64 (IntKind.i64.wrap (f+1)))]∧True) (∃(e:Int),zF (List.map zN i.a.queues) i.n.toNat ((0:Nat)+(1:Nat)) 1=some [D.v (.int .i64 e)]∧(0≤e∧e<(↑(yC (List.map zR a) (qT a).toNat 0 [D.v (.bool true),D.v (.int .i64 (qT a)),D.v (.int .i64 i.id),D.v (.int .i64 i.qty),D.v (.bool i.top),D.v (.int .i64 i.n),D.v (.int .i64 c),D.v (.int .i64 (-1))]).length:Int))∧e.toNat<(yC (List.map zR a) (qT a).toNat 0 [D.v (.bool true),D.v (.int .i64 (qT a)),D.v (.int .i64 i.id),D.v (.int .i64 i.qty),D.v (.bool i.top),D.v (.int .i64 i.n),D.v (.int .i64 c),D.v (.int .i64 (-1))]).length∧i.n.toNat<(List.map zN i.a.queues).length∧∃(f:Int),zF (aI i a) i.n.toNat ((0:Nat)+(2:Nat)) 1=some [D.v (.int .i64 f)]∧i.n.toNat<(aI i a).length∧∃(g:Int),zF (aN i a f) i.n.toNat ((0:Nat)+(3:Nat)) 1=some [D.v (.int .i64 g)]∧i.n.toNat<(aN i a f).length∧∃(h:Unit),(yG i).snd.fst=qT a∧(yG i).snd.snd=0∧(yG i).fst.free=IntKind.i64.wrap (i.a.free-1)∧List.map zR (yG i).fst.slots=yC (yC (List.map zR a) (qT a).toNat 0 [D.v (.bool true),D.v (.int .i64 (qT a)),D.v (.int .i64 i.id),D.v (.int .i64 i.qty),D.v (.bool i.top),D.v (.int .i64 i.n),D.v (.int .i64 c),D.v (.int .i64 (-1))]) e.toNat ((0:Nat)+(7:Nat)) [D.v (.int .i64 (qT a))]∧List.map zN (yG i).fst.queues=yC (aN i a f) i.n.toNat ((0:Nat)+(3:Nat)) [D.v (.int .i64 (IntKind.i64.wrap (g+1)))]∧True)))))) (zBj i)
theorem yBi (hG:GOk Tryz.prog ([(145,idxSlotC)])) (h:∀(i:PuI),apushC.cnd i→zSs i):apushC.ok Tryz.prog 136:=okw mixed hG 1 (fun _=>[]) (fun _=>[]) [0] Tryz.func136 h
def xY (a:BkP):=(↑(zW (1:Int) (a.b.rungs (1:Int)) a.price):Int)
def j7 (a:BkP):=(↑(List.map zC a.b.buys).length:Int)
def dD (a:BkP):Prop:=a.b.top1=a.b.top1∧a.b.top2=a.b.top2∧a.b.has1=a.b.has1∧a.b.has2=a.b.has2∧AObj.adt Arena 3 zG a.b.a=zQ a.b 1∧List.map zC a.b.buys=List.map zC a.b.buys∧List.map zC a.b.sells=List.map zC a.b.sells∧atE a.b.at_=atE a.b.at_∧iE a.b.spare=iE a.b.spare∧True
def zCe (a:Nat) (b:BkP):Prop:=cnd (decide ((↑a:Int)<(j7 b))) ((0≤(↑a:Int)∧(↑a:Int)<(j7 b))∧∃(c:Int),zF (List.map zC b.b.buys) (↑a:Int).toNat ((0:Nat)+(0:Nat)) 1=some [D.v (.int .i64 c)]∧∃(d:Unit),(xY b)=(↑a:Int)∧kK 1 (b.b.rungs 1) b.price=(c==b.price)∧dD b) (∃(c:Unit),(xY b)=(↑a:Int)∧kK 1 (b.b.rungs 1) b.price=false∧dD b)
def rA (a:Nat) (b:Nat→Prop) (c:Nat→Nat) (d:BkP):Prop:=∃(e:Nat),(↑e:Int)=IntKind.i64.wrap ((↑a:Int)+1)∧b e∧c e<c a∧zQ d.b 0=zQ d.b 0∧zQ d.b 1=zQ d.b 1∧zQ d.b 2=zQ d.b 2∧zQ d.b 3=zQ d.b 3∧zQ d.b 4=zQ d.b 4∧zQ d.b 5=zQ d.b 5
def zVx (i:BkP):Prop:=
 ∃(a:Nat),(↑a:Int)=0∧∃(b:Nat→Prop),∃(c:Nat→Nat),b a∧∀(d:Nat),b d→cnd (decide ((↑d:Int)<(j7 i))) ((0≤(↑d:Int)∧(↑d:Int)<(j7 i))∧∃(e:Int),zF (List.map zC i.b.buys) (↑d:Int).toNat ((0:Nat)+(0:Nat)) 1=some [D.v (.int .i64 e)]∧∃(f:I3'),f.side=1∧f.x=e∧f.y=i.price∧True∧∀(g:Unit),True→cnd (btr f.side f.x f.y) (rA d b c i) (zCe d i)) (zCe d i)
theorem yDe (hG:GOk Tryz.prog ([(111,bbetterC)])) (h:∀(i:BkP),find1C.cnd i→zVx i):find1C.ok Tryz.prog 126:=okw mixed hG 0 (fun _=>[]) (fun _=>yEx) [] Tryz.func126 h
def xV (a:BkP):=(↑(zW (2:Int) (a.b.rungs (2:Int)) a.price):Int)
def j0 (a:BkP):=(↑(List.map zC a.b.sells).length:Int)
def zBw (a:Nat) (b:BkP):Prop:=cnd (decide ((↑a:Int)<(j0 b))) ((0≤(↑a:Int)∧(↑a:Int)<(j0 b))∧∃(c:Int),zF (List.map zC b.b.sells) (↑a:Int).toNat ((0:Nat)+(0:Nat)) 1=some [D.v (.int .i64 c)]∧∃(d:Unit),(xV b)=(↑a:Int)∧kK 2 (b.b.rungs 2) b.price=(c==b.price)∧dD b) (∃(c:Unit),(xV b)=(↑a:Int)∧kK 2 (b.b.rungs 2) b.price=false∧dD b)
def zVy (i:BkP):Prop:=
 ∃(a:Nat),(↑a:Int)=0∧∃(b:Nat→Prop),∃(c:Nat→Nat),b a∧∀(d:Nat),b d→cnd (decide ((↑d:Int)<(j0 i))) ((0≤(↑d:Int)∧(↑d:Int)<(j0 i))∧∃(e:Int),zF (List.map zC i.b.sells) (↑d:Int).toNat ((0:Nat)+(0:Nat)) 1=some [D.v (.int .i64 e)]∧∃(f:I3'),f.side=2∧f.x=e∧f.y=i.price∧True∧∀(g:Unit),True→cnd (btr f.side f.x f.y) (rA d b c i) (zBw d i)) (zBw d i)
theorem yAo (hG:GOk Tryz.prog ([(111,bbetterC)])) (h:∀(i:BkP),find2C.cnd i→zVy i):find2C.ok Tryz.prog 126:=okw mixed hG 0 (fun _=>[]) (fun _=>yEx) [] Tryz.func126 h
def gP (a:LdI):Prop:=List.map zC a.b.buys=List.map zC a.b.buys∧List.map zC a.b.sells=List.map zC a.b.sells∧atE a.b.at_=atE a.b.at_∧iE a.b.spare=iE a.b.spare∧True
def p9 (a:LdI):Prop:=∃(b:Unit),a.id=a.id∧a.b.top2=a.b.top2∧true=true∧a.b.has2=a.b.has2∧AObj.adt Arena 3 zG (a.b.untop 1)=zQ a.b 1∧gP a
def zAg (a:LdI) (b:Int) (c:Int) (d:Int) (e:Bool):Prop:=vK (Value.int IntKind.i64 a.b.top1) (atE a.b.at_)=some [D.v (.int .i64 b),D.v (.int .i64 c),D.v (.int .i64 d)]∧e=true∨vK (Value.int IntKind.i64 a.b.top1) (atE a.b.at_)=none∧[D.v (.int .i64 b),D.v (.int .i64 c),D.v (.int .i64 d)]=[D.v (.int .i64 0),D.v (.int .i64 0),D.v (.int .i64 0)]∧e=false
def tU (a:LdI):Prop:=∀(b:Value×List D),b∈atE a.b.at_→like (Value.int IntKind.i64 a.b.top1) b.fst=true
def zVv (i:LdI):Prop:=
 cnd i.b.has1 ((tU i)∧∃(a:Bool),∃(b:Int),∃(c:Int),∃(d:Int),(zAg i b c d a)∧((tU i)∧∃(e:Bool),∃(f:Int),∃(g:Int),∃(h:Int),(zAg i f g h e)∧(f=b∧g=c∧h=d∧True)∧e=a∧True)∧i.b.top1=i.b.top1∧True∧cnd a (cnd (b==1) (∃(e:zUa),e.n=d∧e.t=false∧AObj.adt Arena 3 zG e.a=zQ i.b 1∧e.a.slots.length≤1000000∧∀(f:Unit),True→∃(g:Unit),i.id=i.id∧i.b.top2=i.b.top2∧true=true∧i.b.has2=i.b.has2∧AObj.adt Arena 3 zG (i.b.untop 1)=AObj.adt Arena 3 zG (e.a.topF e.n e.t)∧gP i) (p9 i)) (p9 i)) (p9 i)
theorem yEp (hG:GOk Tryz.prog ([(144,atopC)])) (h:∀(i:LdI),lead1C.cnd i→zVv i):lead1C.ok Tryz.prog 135:=okw mixed hG 0 (fun _=>[]) (fun _=>[]) [] Tryz.func135 h
def pP (a:LdI):Prop:=∃(b:Unit),a.b.top1=a.b.top1∧a.id=a.id∧a.b.has1=a.b.has1∧true=true∧AObj.adt Arena 3 zG (a.b.untop 2)=zQ a.b 1∧gP a
def zBp (a:LdI) (b:Int) (c:Int) (d:Int) (e:Bool):Prop:=vK (Value.int IntKind.i64 a.b.top2) (atE a.b.at_)=some [D.v (.int .i64 b),D.v (.int .i64 c),D.v (.int .i64 d)]∧e=true∨vK (Value.int IntKind.i64 a.b.top2) (atE a.b.at_)=none∧[D.v (.int .i64 b),D.v (.int .i64 c),D.v (.int .i64 d)]=[D.v (.int .i64 0),D.v (.int .i64 0),D.v (.int .i64 0)]∧e=false
def tL (a:LdI):Prop:=∀(b:Value×List D),b∈atE a.b.at_→like (Value.int IntKind.i64 a.b.top2) b.fst=true
def zTe (i:LdI):Prop:=
 cnd i.b.has2 ((tL i)∧∃(a:Bool),∃(b:Int),∃(c:Int),∃(d:Int),(zBp i b c d a)∧((tL i)∧∃(e:Bool),∃(f:Int),∃(g:Int),∃(h:Int),(zBp i f g h e)∧(f=b∧g=c∧h=d∧True)∧e=a∧True)∧i.b.top2=i.b.top2∧True∧cnd a (cnd (b==2) (∃(e:zUa),e.n=d∧e.t=false∧AObj.adt Arena 3 zG e.a=zQ i.b 1∧e.a.slots.length≤1000000∧∀(f:Unit),True→∃(g:Unit),i.b.top1=i.b.top1∧i.id=i.id∧i.b.has1=i.b.has1∧true=true∧AObj.adt Arena 3 zG (i.b.untop 2)=AObj.adt Arena 3 zG (e.a.topF e.n e.t)∧gP i) (pP i)) (pP i)) (pP i)
theorem yCz (hG:GOk Tryz.prog ([(144,atopC)])) (h:∀(i:LdI),lead2C.cnd i→zTe i):lead2C.ok Tryz.prog 135:=okw mixed hG 0 (fun _=>[]) (fun _=>[]) [] Tryz.func135 h
def qF (a:BkP):Prop:=(a.b.a.slots.length≤1000000∧a.b.a.queues.length≤1000000)∧a.b.buys.length≤1000000∧a.b.sells.length≤1000000∧a.b.spare.length≤1000000
def uX (a:BkP):Prop:=0≤(xY a)∧(xY a)<(j7 a)
def wW (a:BkP):=((↑(iE a.b.spare).length:Int)-(1:Int))
def cI (a:BkP):Prop:=0≤IntKind.i64.wrap (wW a)∧IntKind.i64.wrap (wW a)≤(↑(iE a.b.spare).length:Int)
def cK (a:BkP):Prop:=0≤IntKind.i64.wrap (wW a)∧IntKind.i64.wrap (wW a)<(↑(iE a.b.spare).length:Int)
def uQ (a:z0f):Prop:=a.i≤a.els.length∧(a.els.length+1)*(16:Nat)≤(70368744177664:Nat)
def uV (a:BkP):=(IntKind.i64.wrap (wW a))
def zL (a:BkP):=(a.b.queueF (1:Int) a.price)
def zOr (i:BkP):Prop:=
 ∃(a:BkP),(1:Int)=(1:Int)∧a.price=i.price∧a.b.top1=i.b.top1∧a.b.top2=i.b.top2∧a.b.has1=i.b.has1∧a.b.has2=i.b.has2∧AObj.adt Arena 3 zG a.b.a=zQ i.b 1∧List.map zC a.b.buys=List.map zC i.b.buys∧List.map zC a.b.sells=List.map zC i.b.sells∧atE a.b.at_=atE i.b.at_∧iE a.b.spare=iE i.b.spare∧(qF a)∧∀(b:Unit),True→cnd (kK 1 (a.b.rungs 1) a.price) ((uX a)∧∃(c:Int),zF (List.map zC a.b.buys) (xY a).toNat ((0:Nat)+(1:Nat)) 1=some [D.v (.int .i64 c)]∧∃(d:Unit),(zL i).snd=c∧(zL i).fst.top1=a.b.top1∧(zL i).fst.top2=a.b.top2∧(zL i).fst.has1=a.b.has1∧(zL i).fst.has2=a.b.has2∧AObj.adt Arena 3 zG (zL i).fst.a=AObj.adt Arena 3 zG a.b.a∧List.map zC (zL i).fst.sells=List.map zC a.b.sells∧atE (zL i).fst.at_=atE a.b.at_∧List.map zC (zL i).fst.buys=List.map zC a.b.buys∧iE (zL i).fst.spare=iE a.b.spare∧True) (cnd (decide ((↑(iE a.b.spare).length:Int)>0)) ((cK a)∧∃(c:Int),zF (iE a.b.spare) (uV a).toNat 0 1=some [D.v (.int .i64 c)]∧(cI a)∧True∧∃(d:z0f),(↑d.i:Int)=(xY a)∧d.els=List.map zC a.b.buys∧[d.el]=[[D.v (.int .i64 i.price),D.v (.int .i64 c)]]∧(uQ d)∧∀(e:Unit),True→∃(f:Unit),(zL i).snd=c∧(zL i).fst.top1=a.b.top1∧(zL i).fst.top2=a.b.top2∧(zL i).fst.has1=a.b.has1∧(zL i).fst.has2=a.b.has2∧AObj.adt Arena 3 zG (zL i).fst.a=AObj.adt Arena 3 zG a.b.a∧List.map zC (zL i).fst.sells=List.map zC a.b.sells∧atE (zL i).fst.at_=atE a.b.at_∧List.map zC (zL i).fst.buys=List.take d.i d.els++d.el::List.drop d.i d.els∧iE (zL i).fst.spare=List.take (uV a).toNat (iE a.b.spare)∧True) (∃(c:Arena),AObj.adt Arena 3 zG c=AObj.adt Arena 3 zG a.b.a∧c.queues.length≤1000000∧∀(d:Unit),True→True∧∃(e:z0f),(↑e.i:Int)=(xY a)∧e.els=List.map zC a.b.buys∧[e.el]=[[D.v (.int .i64 i.price),D.v (.int .i64 (↑c.queues.length:Int))]]∧(uQ e)∧∀(f:Unit),True→∃(g:Unit),(zL i).snd=(↑c.queues.length:Int)∧(zL i).fst.top1=a.b.top1∧(zL i).fst.top2=a.b.top2∧(zL i).fst.has1=a.b.has1∧(zL i).fst.has2=a.b.has2∧AObj.adt Arena 3 zG (zL i).fst.a=AObj.adt Arena 3 zG c.openQ∧List.map zC (zL i).fst.sells=List.map zC a.b.sells∧atE (zL i).fst.at_=atE a.b.at_∧List.map zC (zL i).fst.buys=List.take e.i e.els++e.el::List.drop e.i e.els∧iE (zL i).fst.spare=iE a.b.spare∧True))
theorem z9a (hG:GOk Tryz.prog ([(126,find1C),(147,aopenC),(148,insRC)])) (h:∀(i:BkP),queue1C.cnd i→zOr i):queue1C.ok Tryz.prog 137:=okw mixed hG 0 (fun _=>[]) (fun _=>[]) [] Tryz.func137 h
def uO (a:BkP):Prop:=0≤(xV a)∧(xV a)<(j0 a)
def zM (a:BkP):=(a.b.queueF (2:Int) a.price)
def zOc (i:BkP):Prop:=
 ∃(a:BkP),(2:Int)=(2:Int)∧a.price=i.price∧a.b.top1=i.b.top1∧a.b.top2=i.b.top2∧a.b.has1=i.b.has1∧a.b.has2=i.b.has2∧AObj.adt Arena 3 zG a.b.a=zQ i.b 1∧List.map zC a.b.buys=List.map zC i.b.buys∧List.map zC a.b.sells=List.map zC i.b.sells∧atE a.b.at_=atE i.b.at_∧iE a.b.spare=iE i.b.spare∧(qF a)∧∀(b:Unit),True→cnd (kK 2 (a.b.rungs 2) a.price) ((uO a)∧∃(c:Int),zF (List.map zC a.b.sells) (xV a).toNat ((0:Nat)+(1:Nat)) 1=some [D.v (.int .i64 c)]∧∃(d:Unit),(zM i).snd=c∧(zM i).fst.top1=a.b.top1∧(zM i).fst.top2=a.b.top2∧(zM i).fst.has1=a.b.has1∧(zM i).fst.has2=a.b.has2∧AObj.adt Arena 3 zG (zM i).fst.a=AObj.adt Arena 3 zG a.b.a∧List.map zC (zM i).fst.buys=List.map zC a.b.buys∧atE (zM i).fst.at_=atE a.b.at_∧List.map zC (zM i).fst.sells=List.map zC a.b.sells∧iE (zM i).fst.spare=iE a.b.spare∧True) (cnd (decide ((↑(iE a.b.spare).length:Int)>0)) ((cK a)∧∃(c:Int),zF (iE a.b.spare) (uV a).toNat 0 1=some [D.v (.int .i64 c)]∧(cI a)∧True∧∃(d:z0f),(↑d.i:Int)=(xV a)∧d.els=List.map zC a.b.sells∧[d.el]=[[D.v (.int .i64 i.price),D.v (.int .i64 c)]]∧(uQ d)∧∀(e:Unit),True→∃(f:Unit),(zM i).snd=c∧(zM i).fst.top1=a.b.top1∧(zM i).fst.top2=a.b.top2∧(zM i).fst.has1=a.b.has1∧(zM i).fst.has2=a.b.has2∧AObj.adt Arena 3 zG (zM i).fst.a=AObj.adt Arena 3 zG a.b.a∧List.map zC (zM i).fst.buys=List.map zC a.b.buys∧atE (zM i).fst.at_=atE a.b.at_∧List.map zC (zM i).fst.sells=List.take d.i d.els++d.el::List.drop d.i d.els∧iE (zM i).fst.spare=List.take (uV a).toNat (iE a.b.spare)∧True) (∃(c:Arena),AObj.adt Arena 3 zG c=AObj.adt Arena 3 zG a.b.a∧c.queues.length≤1000000∧∀(d:Unit),True→True∧∃(e:z0f),(↑e.i:Int)=(xV a)∧e.els=List.map zC a.b.sells∧[e.el]=[[D.v (.int .i64 i.price),D.v (.int .i64 (↑c.queues.length:Int))]]∧(uQ e)∧∀(f:Unit),True→∃(g:Unit),(zM i).snd=(↑c.queues.length:Int)∧(zM i).fst.top1=a.b.top1∧(zM i).fst.top2=a.b.top2∧(zM i).fst.has1=a.b.has1∧(zM i).fst.has2=a.b.has2∧AObj.adt Arena 3 zG (zM i).fst.a=AObj.adt Arena 3 zG c.openQ∧List.map zC (zM i).fst.buys=List.map zC a.b.buys∧atE (zM i).fst.at_=atE a.b.at_∧List.map zC (zM i).fst.sells=List.take e.i e.els++e.el::List.drop e.i e.els∧iE (zM i).fst.spare=iE a.b.spare∧True))
theorem z8k (hG:GOk Tryz.prog ([(126,find2C),(147,aopenC),(148,insRC)])) (h:∀(i:BkP),queue2C.cnd i→zOc i):queue2C.ok Tryz.prog 137:=okw mixed hG 0 (fun _=>[]) (fun _=>[]) [] Tryz.func137 h
open Go Cv Go.Proofs
theorem dV:bbetterC.ok Tryz.prog 111:=z0q gok0 fun i _=>by
 unfold zSi
 refine Cv.cnd.mk (fun c=> ?_) (fun c=> ?_)
 ·have c:i.side=1:=by simpa using c
  rw[btr,if_pos c];(repeat'(first|exact rfl|exact trivial|assumption|apply And.intro|refine fun(_:Unit) (_:True)=>?_|refine Exists.intro () ?_|omega|(dsimp only;omega)))
 ·have c:¬i.side=1:=by simpa using c
  rw[btr,if_neg c];(repeat'(first|exact rfl|exact trivial|assumption|apply And.intro|refine fun(_:Unit) (_:True)=>?_|refine Exists.intro () ?_|omega|(dsimp only;omega)))
theorem z6r:pushFC.ok Tryz.prog 146:=yBm gok0 fun s _=>by
 unfold z6s;(repeat'(first|exact rfl|exact trivial|assumption|apply And.intro|refine fun(_:Unit) (_:True)=>?_|refine Exists.intro () ?_|omega|(dsimp only;omega)))
theorem yOh {l:List Slot} {k:Nat} {s:Slot} (h:l[k]? =some s):zF (l.map zR) k 0 8=some [D.v (.bool s.used),.v (.int .i64 s.n),.v (.int .i64 s.id),.v (.int .i64 s.qty),.v (.bool s.top),.v (.int .i64 s.queue),.v (.int .i64 s.ahead),.v (.int .i64 s.back)]:=elA h (by simp[zR]) rfl
theorem z5j (l:List Slot) (h:idxSlotC.cnd l):zGw l:=by
 have h:l.length≤1000000:=h
 unfold zGw
 simp only[List.length_map]
 refine⟨0,rfl,fun j=>j≤l.length∧∀k<j,∀x,l[k]? =some x→(!x.used)=false,fun j=>l.length-j,⟨by omega,fun k hk=>by omega⟩,?_⟩
 rintro j ⟨h3,h4⟩
 refine zK (fun hj=> ?_) (fun hj=> ?_)
 ·obtain⟨s,hs⟩:=yA (l:=l) (i:=j) (by omega)
  refine⟨⟨by omega,by omega⟩,s.used,s.n,s.id,s.qty,s.top,s.queue,s.ahead,s.back,yOh hs,s,rfl,rfl,rfl,rfl,rfl,rfl,rfl,rfl,trivial,fun _ _=>Cv.cnd.mk (fun e=> ?_) (fun e=> ?_)⟩
  ·rw[qT,zAk hs e h4];(repeat'(first|exact rfl|exact trivial|assumption|apply And.intro|refine fun(_:Unit) (_:True)=>?_|refine Exists.intro () ?_|omega|(dsimp only;omega)))
  ·refine⟨j+1,by rw[w64 (by omega)];rfl,⟨by omega,fun k hk x hx=> ?_⟩,by(first|omega|(dsimp only;omega)),by(repeat'(first|exact trivial|exact rfl|apply And.intro))⟩
   rcases Nat.lt_or_ge k j with hk'|hk'
   ·exact h4 k hk' x hx
   ·obtain rfl:k=j:=by omega
    rw[hs]at hx;cases hx;exact e
 ·rw[qT,zBg fun k x hx=>h4 k (by have:=(List.getElem?_eq_some_iff.1 hx).1;omega) x hx];(repeat'(first|exact rfl|exact trivial|assumption|apply And.intro|refine fun(_:Unit) (_:True)=>?_|refine Exists.intro () ?_|omega|(dsimp only;omega)))
theorem zUq:idxSlotC.ok Tryz.prog 145:=z0n (gokc z6r gok0) z5j
theorem zQy:aopenC.ok Tryz.prog 147:=yBd gok0 fun a h=>by
 have h:a.queues.length≤1000000:=h
 unfold z8t
 rw[List.length_append,List.length_map,w64 (by simp only[List.length_cons,List.length_nil];omega)]
 refine⟨by omega,(),?_,rfl,rfl,?_,trivial⟩
 ·simp
 ·rw[List.map_append];rfl
theorem g9 {α:Type} {f:α→α}:∀{l:List α} {i:Nat} {x:α},l[i]? =some x→l.modify i f=l.set i (f x)
 |[],i,x,h=>by simp at h
 |a::l,0,x,h=>by simp at h;subst h;rfl
 |a::l,i+1,x,h=>by
  simp only[List.getElem?_cons_succ]at h
  simp only[List.modify_succ_cons,List.set_cons_succ,g9 h]
theorem yF {α:Type} {f:α→List D} {l:List α} {i g:Nat} {x y:α} {ds:List D} (hi:l[i]? =some x) (hh:(f x).take g++(ds++(f x).drop (g+ds.length))=f y):yC (l.map f) i g ds=(l.set i y).map f:=by
 have hlt:=(List.getElem?_eq_some_iff.1 hi).1
 rw[yC,g9 (by rw[List.getElem?_map,hi];rfl),hh,List.map_set]
theorem vS {α:Type} {l:List α} {i:Nat} {x y:α} (hi:l[i]? =some x):(l.set i y)[i]? =some y:=List.getElem?_set_self (List.getElem?_eq_some_iff.1 hi).1
theorem zI {α:Type} {l:List α} {i:Nat} {x d:α} (h:l[i]? =some x):l.getD i d=x:=by rw[List.getD_eq_getElem?_getD,h];rfl
theorem yNm (i:zUa) (h:atopC.cnd i):z3q i:=by
 have h:i.a.slots.length≤1000000:=h
 unfold z3q pU
 simp only[List.length_map]
 have no (e:i.a.usedAt i.n=false):i.a.topF i.n i.t=i.a:=by rw[Arena.topF,if_neg (by rw[e];decide)]
 refine zK (fun c=> ?_) (fun c=>zK (fun d=> ?_) (fun d=> ?_))
 ·have e:i.a.usedAt i.n=false:=by rw[Arena.usedAt,decide_eq_false (by omega),Bool.false_and]
  rw[no e,e];(repeat'(first|exact rfl|exact trivial|assumption|apply And.intro|refine fun(_:Unit) (_:True)=>?_|refine Exists.intro () ?_|omega|(dsimp only;omega)))
 ·have e:i.a.usedAt i.n=false:=by rw[Arena.usedAt,decide_eq_false (show ¬i.n<(i.a.slots.length:Int)by omega),Bool.false_and,Bool.and_false]
  rw[no e,e];(repeat'(first|exact rfl|exact trivial|assumption|apply And.intro|refine fun(_:Unit) (_:True)=>?_|refine Exists.intro () ?_|omega|(dsimp only;omega)))
 ·obtain⟨s,hs⟩:=yA (l:=i.a.slots) (i:=i.n.toNat) (by omega)
  have eu:i.a.usedAt i.n=s.used:=by rw[Arena.usedAt,decide_eq_true (show 0≤i.n by omega),decide_eq_true (show i.n<(i.a.slots.length:Int)by omega),zI hs];simp
  refine⟨⟨by omega,by omega⟩,s.used,elA hs (by simp[zR]) rfl,Cv.cnd.mk (fun u=> ?_) (fun u=> ?_)⟩
  ·have e:i.a.usedAt i.n=false:=by rw[eu];simpa using u
   rw[no e,e];(repeat'(first|exact rfl|exact trivial|assumption|apply And.intro|refine fun(_:Unit) (_:True)=>?_|refine Exists.intro () ?_|omega|(dsimp only;omega)))
  ·have e:i.a.usedAt i.n=true:=by rw[eu];simpa using u
   have et:i.a.topF i.n i.t={i.a with slots:=i.a.slots.set i.n.toNat {s with top:=i.t}}:=by
    rw[Arena.topF,if_pos e,g9 hs]
   rw[et,e,yF hs (y:={s with top:=i.t}) rfl]
   refine⟨⟨by omega,by omega⟩,by omega,(),rfl,rfl,rfl,rfl,trivial⟩
theorem zYs:atopC.ok Tryz.prog 144:=yJw gok0 yNm
theorem zRr {l:List Slot} (h:∃s∈l,s.used=false):∃k:Nat,qT l=k∧k<l.length:=by
 obtain⟨s,hs,hu⟩:=h
 cases hf:l.findIdx? fun s=> !s.used with
 |none=>
  rw[List.findIdx?_eq_none_iff]at hf
  have:=hf s hs
  rw[hu]at this;cases this
 |some k=>
  rw[List.findIdx?_eq_some_iff_getElem]at hf
  exact⟨k,by rw[qT,show(l.findIdx? fun s=> !s.used)=some k by rw[List.findIdx?_eq_some_iff_getElem];exact hf];rfl,hf.1⟩
theorem yIv (i:PuI) (h:apushC.cnd i):zSs i:=by
 obtain⟨h1,h2,h3⟩:i.a.fit:=h
 unfold zSs zAy zBj aN aI aB yG aC b7
 simp only[List.length_map]
 have out (e:i.n<0∨i.a.queues.length≤i.n):i.a.push i.n i.id i.qty i.top=(i.a,0,26):=by rw[Arena.push,if_pos e]
 refine zK (fun c=>Cv.cnd.mk (fun d=> ?_) (fun d=> ?_)) (fun c=> ?_)
 ·have d:¬i.n<(i.a.queues.length:Int):=by simpa using d
  rw[out (.inr (by omega))];(repeat'(first|exact rfl|exact trivial|assumption|apply And.intro|refine fun(_:Unit) (_:True)=>?_|refine Exists.intro () ?_|omega|(dsimp only;omega)))
 ·have d:i.n<(i.a.queues.length:Int):=by simpa using d
  have hn:¬(i.n<0∨(i.a.queues.length:Int)≤i.n):=by omega
  refine zK (fun q1=> ?_) (fun q1=>zK (fun q2=> ?_) (fun q2=>Cv.cnd.mk (fun fr=> ?_) (fun fr=> ?_)))
  ·rw[Arena.push,if_neg hn,if_pos (.inl q1)];(repeat'(first|exact rfl|exact trivial|assumption|apply And.intro|refine fun(_:Unit) (_:True)=>?_|refine Exists.intro () ?_|omega|(dsimp only;omega)))
  ·rw[Arena.push,if_neg hn,if_pos (.inr q2)];(repeat'(first|exact rfl|exact trivial|assumption|apply And.intro|refine fun(_:Unit) (_:True)=>?_|refine Exists.intro () ?_|omega|(dsimp only;omega)))
  ·rw[Arena.push,if_neg hn,if_neg (by omega),if_pos (by simpa using fr)];(repeat'(first|exact rfl|exact trivial|assumption|apply And.intro|refine fun(_:Unit) (_:True)=>?_|refine Exists.intro () ?_|omega|(dsimp only;omega)))
  ·have fr:i.a.free≠0:=by simpa using fr
   have ep:i.a.push i.n i.id i.qty i.top=(i.a.put i.n i.id i.qty i.top,qT i.a.slots,0):=by rw[Arena.push,if_neg hn,if_neg (by omega),if_neg fr]
   obtain⟨k,hk,hkl⟩:=zRr (h2 fr)
   obtain⟨q,hq⟩:=yA (l:=i.a.queues) (i:=i.n.toNat) (by omega)
   have hqm:=List.mem_of_getElem? hq
   have hl:=h3 q hqm
   obtain⟨s,hs⟩:=yA hkl
   refine⟨i.a.slots,rfl,h1,fun _ _=>⟨⟨by omega,by omega⟩,q.last,elA hq (by simp[zN]) rfl,⟨by omega,by omega⟩,by rw[hk];exact hkl,q.last,elA hq (by simp[zN]) rfl,?_⟩⟩
   rw[ep]
   have eput:i.a.put i.n i.id i.qty i.top=⟨if q.last= -1 then i.a.slots.set k ⟨true,k,i.id,i.qty,i.top,i.n,q.last,-1⟩else(i.a.slots.set k ⟨true,k,i.id,i.qty,i.top,i.n,q.last,-1⟩).modify q.last.toNat fun s=>{s with back:=k},i.a.queues.set i.n.toNat ⟨if q.last= -1 then k else q.first,k,IntKind.i64.wrap (q.total+i.qty),IntKind.i64.wrap (q.count+1)⟩,IntKind.i64.wrap (i.a.free-1)⟩:=by
    simp only[Arena.put,zI hq,hk,Int.toNat_natCast]
   rw[eput,hk]
   simp only[Int.toNat_natCast]
   have es:yC (List.map zR i.a.slots) k 0 [D.v (.bool true),D.v (.int .i64 k),D.v (.int .i64 i.id),D.v (.int .i64 i.qty),D.v (.bool i.top),D.v (.int .i64 i.n),D.v (.int .i64 q.last),D.v (.int .i64 (-1))]=List.map zR (i.a.slots.set k ⟨true,k,i.id,i.qty,i.top,i.n,q.last,-1⟩):=yF hs rfl
   rw[es]
   refine Cv.cnd.mk (fun e=> ?_) (fun e=> ?_)
   ·have e:q.last= -1:=by simpa using e
    have e1:yC (List.map zN i.a.queues) i.n.toNat (0+0) [D.v (.int .i64 k)]=List.map zN (i.a.queues.set i.n.toNat {q with first:=k}):=yF hq rfl
    have g1:=vS (y:={q with first:=(k:Int)}) hq
    have e2:yC (List.map zN (i.a.queues.set i.n.toNat {q with first:=k})) i.n.toNat (0+1) [D.v (.int .i64 k)]=List.map zN (i.a.queues.set i.n.toNat {q with first:=k,last:=k}):=by
     rw[yF g1 (y:={q with first:=(k:Int),last:=(k:Int)}) rfl,List.set_set]
    have g2:=vS (y:={q with first:=(k:Int),last:=(k:Int)}) hq
    have e3:yC (List.map zN (i.a.queues.set i.n.toNat {q with first:=k,last:=k})) i.n.toNat (0+2) [D.v (.int .i64 (IntKind.i64.wrap (q.total+i.qty)))]=List.map zN (i.a.queues.set i.n.toNat {q with first:=k,last:=k,total:=IntKind.i64.wrap (q.total+i.qty)}):=by
     rw[yF g2 (y:={q with first:=(k:Int),last:=(k:Int),total:=IntKind.i64.wrap (q.total+i.qty)}) rfl,List.set_set]
    have g3:=vS (y:={q with first:=(k:Int),last:=(k:Int),total:=IntKind.i64.wrap (q.total+i.qty)}) hq
    have e4:yC (List.map zN (i.a.queues.set i.n.toNat {q with first:=k,last:=k,total:=IntKind.i64.wrap (q.total+i.qty)})) i.n.toNat (0+3) [D.v (.int .i64 (IntKind.i64.wrap (q.count+1)))]=List.map zN (i.a.queues.set i.n.toNat ⟨k,k,IntKind.i64.wrap (q.total+i.qty),IntKind.i64.wrap (q.count+1)⟩):=by
     rw[yF g3 (y:=⟨k,k,IntKind.i64.wrap (q.total+i.qty),IntKind.i64.wrap (q.count+1)⟩) rfl,List.set_set]
    rw[e1,e2]
    simp only[if_pos e]
    refine⟨by omega,by simp only[List.length_map,List.length_set];omega,q.total,elA g2 (by simp[zN]) rfl,by simp only[List.length_map,List.length_set];omega,q.count,?_,by rw[e3];simp only[List.length_map,List.length_set];omega,(),?_⟩
    ·rw[e3];exact elA g3 (by simp[zN]) rfl
    ·rw[e3,e4];(repeat'(first|exact rfl|exact trivial|assumption|apply And.intro|refine fun(_:Unit) (_:True)=>?_|refine Exists.intro () ?_|omega|(dsimp only;omega)))
   ·have e:¬q.last= -1:=by simpa using e
    have hl:0≤q.last∧q.last<i.a.slots.length:=hl.resolve_left e
    have e2:yC (List.map zN i.a.queues) i.n.toNat (0+1) [D.v (.int .i64 k)]=List.map zN (i.a.queues.set i.n.toNat {q with last:=k}):=yF hq rfl
    have g2:=vS (y:={q with last:=(k:Int)}) hq
    have e3:yC (List.map zN (i.a.queues.set i.n.toNat {q with last:=k})) i.n.toNat (0+2) [D.v (.int .i64 (IntKind.i64.wrap (q.total+i.qty)))]=List.map zN (i.a.queues.set i.n.toNat {q with last:=k,total:=IntKind.i64.wrap (q.total+i.qty)}):=by
     rw[yF g2 (y:={q with last:=(k:Int),total:=IntKind.i64.wrap (q.total+i.qty)}) rfl,List.set_set]
    have g3:=vS (y:={q with last:=(k:Int),total:=IntKind.i64.wrap (q.total+i.qty)}) hq
    have e4:yC (List.map zN (i.a.queues.set i.n.toNat {q with last:=k,total:=IntKind.i64.wrap (q.total+i.qty)})) i.n.toNat (0+3) [D.v (.int .i64 (IntKind.i64.wrap (q.count+1)))]=List.map zN (i.a.queues.set i.n.toNat ⟨q.first,k,IntKind.i64.wrap (q.total+i.qty),IntKind.i64.wrap (q.count+1)⟩):=by
     rw[yF g3 (y:=⟨q.first,k,IntKind.i64.wrap (q.total+i.qty),IntKind.i64.wrap (q.count+1)⟩) rfl,List.set_set]
    obtain⟨s2,hs2⟩:=yA (l:=i.a.slots.set k ⟨true,k,i.id,i.qty,i.top,i.n,q.last,-1⟩) (i:=q.last.toNat) (by rw[List.length_set];omega)
    have e5:yC (List.map zR (i.a.slots.set k ⟨true,k,i.id,i.qty,i.top,i.n,q.last,-1⟩)) q.last.toNat (0+7) [D.v (.int .i64 k)]=List.map zR ((i.a.slots.set k ⟨true,k,i.id,i.qty,i.top,i.n,q.last,-1⟩).modify q.last.toNat fun s=>{s with back:=k}):=by
     rw[yF hs2 (y:={s2 with back:=(k:Int)}) rfl,g9 hs2]
    rw[e2]
    simp only[if_neg e]
    refine⟨q.last,elA hq (by simp[zN]) rfl,⟨by omega,by simp only[List.length_map,List.length_set];omega⟩,by simp only[List.length_map,List.length_set];omega,by omega,q.total,elA g2 (by simp[zN]) rfl,by simp only[List.length_map,List.length_set];omega,q.count,?_,by rw[e3];simp only[List.length_map,List.length_set];omega,(),?_⟩
    ·rw[e3];exact elA g3 (by simp[zN]) rfl
    ·rw[e3,e4,e5];(repeat'(first|exact rfl|exact trivial|assumption|apply And.intro|refine fun(_:Unit) (_:True)=>?_|refine Exists.intro () ?_|omega|(dsimp only;omega)))
 ·rw[out (.inl (by omega))];(repeat'(first|exact rfl|exact trivial|assumption|apply And.intro|refine fun(_:Unit) (_:True)=>?_|refine Exists.intro () ?_|omega|(dsimp only;omega)))
theorem zSh:apushC.ok Tryz.prog 136:=yBi (gokc zUq gok0) yIv
theorem bY {s price:Int}:∀{l:List xL} {j:Nat},j≤l.length→(∀k<j,∀r,l[k]? =some r→btr s r.price price=true)→(∀r,l[j]? =some r→btr s r.price price=false)→zW s l price=j
 |[],j,hj,_,_=>by
  obtain rfl:j=0:=by simpa using hj
  rfl
 |r::l,0,_,_,he=>by
  have:=he r rfl
  rw[zW,List.takeWhile_cons,this];rfl
 |r::l,j+1,hj,h,he=>by
  have h0:=h 0 (by omega) r rfl
  have ih:=bY (l:=l) (j:=j) (by simpa using hj) (fun k hk x hx=>h (k+1) (by omega) x (by simpa using hx)) (fun x hx=>he x (by simpa using hx))
  rw[zW]at ih ⊢
  rw[List.takeWhile_cons,h0,if_pos rfl,List.length_cons,ih]
theorem nE (s price:Int) (l:List xL):zW s l price≤l.length:=(List.takeWhile_sublist _).length_le
theorem cX (b:Book):b.rungs 1=b.buys:=rfl
theorem mL (b:Book):b.rungs 2=b.sells:=rfl
theorem yHo (i:BkP) (h:find1C.cnd i):zVx i:=by
 obtain⟨_,h1,h2,_⟩:i.b.small:=h
 unfold zVx rA zCe dD xY j7
 simp only[List.length_map,cX]
 refine⟨0,rfl,fun j=>j≤i.b.buys.length∧∀k<j,∀r,i.b.buys[k]? =some r→btr 1 r.price i.price=true,fun j=>i.b.buys.length-j,⟨by omega,fun k hk=>by omega⟩,?_⟩
 rintro j ⟨h3,h4⟩
 refine zK (fun hj=> ?_) (fun hj=> ?_)
 ·obtain⟨r,hr⟩:=yA (l:=i.b.buys) (i:=j) (by omega)
  refine⟨⟨by omega,by omega⟩,r.price,elA hr (by simp[zC]) rfl,⟨1,r.price,i.price⟩,rfl,rfl,rfl,trivial,fun _ _=> ?_⟩
  dsimp only
  refine Cv.cnd.mk (fun e=>⟨j+1,by rw[w64 (by omega)];rfl,⟨by omega,fun k hk x hx=> ?_⟩,by(first|omega|(dsimp only;omega)),by(repeat'(first|exact trivial|exact rfl|apply And.intro))⟩) (fun e=>zK (fun _=> ?_) (fun c=>absurd hj c))
  ·rcases Nat.lt_or_ge k j with hk'|hk'
   ·exact h4 k hk' x hx
   ·obtain rfl:k=j:=by omega
    rw[hr]at hx;cases hx;exact e
  ·have en:zW 1 i.b.buys i.price=j:=bY h3 h4 fun x hx=>by rw[hr]at hx;cases hx;exact e
   have eb:kK 1 i.b.buys i.price=(r.price==i.price):=by rw[kK,en,hr];exact(zQt _ _).symm
   refine⟨⟨by omega,by omega⟩,r.price,elA hr (by simp[zC]) rfl,(),by rw[en],eb,?_⟩
   (repeat'(first|exact trivial|exact rfl|apply And.intro))
 ·have en:zW 1 i.b.buys i.price=j:=bY h3 h4 fun x hx=>by have:=(List.getElem?_eq_some_iff.1 hx).1;omega
  have eb:kK 1 i.b.buys i.price=false:=by rw[kK,en,List.getElem?_eq_none (by omega)]
  refine zK (fun c=>absurd c hj) (fun _=>⟨(),by rw[en],eb,?_⟩)
  (repeat'(first|exact trivial|exact rfl|apply And.intro))
theorem zEh:find1C.ok Tryz.prog 126:=yDe (gokc dV gok0) yHo
theorem jI (l:List (Int×Place)) (k:Int):∀(p:Value×List D),p∈atE l→like (Value.int IntKind.i64 k) p.1=true:=by
 intro p hp
 obtain⟨x,_,rfl⟩:=List.mem_map.1 hp
 rfl
theorem rK (k:Int):∀l:List (Int×Place),vK (Value.int IntKind.i64 k) (atE l)=(pget l k).map zWb
 |[]=>rfl
 |(a,v)::l=>by
  have ih:=rK k l
  show(bif (keq .i64 .i64 && decide (k=a))then _ else vK _ (atE l))=_
  by_cases h:k=a
  ·subst h;simp[pget,keq]
  ·have h':¬a=k:=fun e=>h e.symm
   rw[show(keq .i64 .i64 && decide (k=a))=false by simp[h],cond_false,ih]
   simp[pget,List.find?_cons,h']
def zAw:Place:=⟨0,0,0⟩
theorem zLo (l:List (Int×Place)) (k:Int):vK (Value.int IntKind.i64 k) (atE l)=some [D.v (.int .i64 ((pget l k).getD zAw).side),D.v (.int .i64 ((pget l k).getD zAw).price),D.v (.int .i64 ((pget l k).getD zAw).slot)]∧(pget l k).isSome=true∨vK (Value.int IntKind.i64 k) (atE l)=none∧[D.v (.int .i64 ((pget l k).getD zAw).side),D.v (.int .i64 ((pget l k).getD zAw).price),D.v (.int .i64 ((pget l k).getD zAw).slot)]=[D.v (.int .i64 0),D.v (.int .i64 0),D.v (.int .i64 0)]∧(pget l k).isSome=false:=by
 rw[rK]
 cases pget l k with
 |none=>exact .inr ⟨rfl,rfl,rfl⟩
 |some v=>exact .inl ⟨rfl,rfl⟩
theorem zMe (k:Int) (v:Place):∀l,h8 (Value.int IntKind.i64 k) (zWb v) (atE l)=atE (mH k v l)
 |[]=>rfl
 |(a,b)::l=>by
  have ih:=zMe k v l
  show(bif (keq .i64 .i64 && decide (k=a))then _ else _::h8 _ _ (atE l))=_
  rw[ih,mH]
  by_cases h:k=a
  ·subst h;simp[keq,atE]
  ·simp[h,atE]
theorem yGj (i:LdI) (h:lead1C.cnd i):zVv i:=by
 obtain⟨⟨ha,_⟩,h1,h2,_⟩:i.b.small:=h
 unfold zVv zAg p9 tU gP
 have no (e:i.b.untop 1=i.b.a):AObj.adt Arena 3 zG (i.b.untop 1)=zQ i.b 1:=by rw[e];rfl
 refine Cv.cnd.mk (fun c=> ?_) (fun c=>⟨(),?_⟩)
 ·have c:i.b.hasF 1=true:=c
  refine⟨jI _ _,(pget i.b.at_ i.b.top1).isSome,_,_,_,zLo _ _,⟨jI _ _,(pget i.b.at_ i.b.top1).isSome,_,_,_,zLo _ _,⟨rfl,rfl,rfl,trivial⟩,rfl,trivial⟩,rfl,trivial,Cv.cnd.mk (fun d=>Cv.cnd.mk (fun e=> ?_) (fun e=>⟨(),?_⟩)) (fun d=>⟨(),?_⟩)⟩
  ·obtain⟨o,ho⟩:=Option.isSome_iff_exists.1 d
   have e:o.side=1:=by rw[ho]at e;simpa using e
   have eu:i.b.untop 1=i.b.a.topF o.slot false:=by
    have ht:pget i.b.at_ (i.b.topI 1)=some o:=ho
    rw[Book.untop,if_pos c,ht];dsimp only;rw[if_pos e]
   refine⟨⟨i.b.a,o.slot,false⟩,by rw[ho];rfl,rfl,rfl,ha,fun _ _=>⟨(),?_⟩⟩
   rw[eu];(repeat'(first|exact trivial|exact rfl|apply And.intro))
  ·obtain⟨o,ho⟩:=Option.isSome_iff_exists.1 d
   have e:¬o.side=1:=by rw[ho]at e;simpa using e
   have ht:pget i.b.at_ (i.b.topI 1)=some o:=ho
   rw[no (by rw[Book.untop,if_pos c,ht];dsimp only;rw[if_neg e])];(repeat'(first|exact trivial|exact rfl|apply And.intro))
  ·have ht:pget i.b.at_ (i.b.topI 1)=none:=by
    show pget i.b.at_ i.b.top1=none
    simpa using d
   rw[no (by rw[Book.untop,if_pos c,ht])];(repeat'(first|exact trivial|exact rfl|apply And.intro))
 ·have c:¬i.b.hasF 1=true:=by rw[show i.b.hasF 1=i.b.has1 from rfl,c];decide
  rw[no (by rw[Book.untop,if_neg c])];(repeat'(first|exact trivial|exact rfl|apply And.intro))
theorem z8d:lead1C.ok Tryz.prog 135:=yEp (gokc zYs gok0) yGj
theorem zPy {s price:Int} {l:List xL} (h:kK s l price=true):∃r,l[zW s l price]? =some r:=by
 rw[kK]at h
 split at h
 ·rename_i r hr;exact⟨r,hr⟩
 ·cases h
theorem yCn (i:BkP) (h:queue1C.cnd i):zOr i:=by
 obtain⟨⟨ha,_⟩,ha',h1,h2,h3⟩:i.b.fit:=h
 have hle:=nE 1 i.price i.b.buys
 unfold zOr zL uV uQ cK cI wW uX j7 qF xY
 refine⟨i,rfl,rfl,rfl,rfl,rfl,rfl,rfl,rfl,rfl,rfl,rfl,⟨⟨ha,by omega⟩,by omega,by omega,by omega⟩,fun _ _=> ?_⟩
 simp only[List.length_map,xI,cX]
 refine Cv.cnd.mk (fun c=> ?_) (fun c=> ?_)
 ·obtain⟨r,hr⟩:=zPy c
  have hlt:=(List.getElem?_eq_some_iff.1 hr).1
  have e:i.b.queueF 1 i.price=(i.b,r.queue):=by rw[Book.queueF,if_pos (by rw[cX];exact c),cX,zI hr]
  rw[e]
  refine⟨⟨by omega,by omega⟩,r.queue,elA (by simpa using hr) (by simp[zC]) rfl,(),?_⟩
  (repeat'(first|exact trivial|exact rfl|apply And.intro))
 ·have e:i.b.queueF 1 i.price=({i.b with a:=i.b.newQ.2.2,buys:=i.b.ins 1 i.price,spare:=i.b.newQ.2.1},i.b.newQ.1):=by
   rw[Book.queueF,if_neg (by rw[cX,c];decide),if_pos rfl]
  have hins:List.map zC (i.b.ins 1 i.price)=List.take (zW 1 i.b.buys i.price) (List.map zC i.b.buys)++zC ⟨i.price,i.b.newQ.1⟩::List.drop (zW 1 i.b.buys i.price) (List.map zC i.b.buys):=by
   rw[Book.ins,cX,List.map_append,List.map_cons,List.map_take,List.map_drop]
  rw[e]
  refine zK (fun d=> ?_) (fun d=> ?_)
  ·have w:IntKind.i64.wrap ((i.b.spare.length:Int)-1)=((i.b.spare.length-1:Nat):Int):=by rw[w64 (by omega)];omega
   rw[w]
   simp only[Int.toNat_natCast]
   obtain⟨q,hq⟩:=yA (l:=i.b.spare) (i:=i.b.spare.length-1) (by omega)
   have eq:i.b.newQ=(q,i.b.spare.take (i.b.spare.length-1),i.b.a):=by rw[Book.newQ,if_neg (by omega),zI hq]
   rw[eq]at hins ⊢
   refine⟨⟨by omega,by omega⟩,q,elI hq,⟨by omega,by omega⟩,trivial,⟨i.b.buys.map zC,zC ⟨i.price,q⟩,zW 1 i.b.buys i.price⟩,rfl,rfl,rfl,⟨by rw[List.length_map];exact hle,by rw[List.length_map];omega⟩,fun _ _=>⟨(),?_⟩⟩
   have hs:iE (i.b.spare.take (i.b.spare.length-1))=(iE i.b.spare).take (i.b.spare.length-1):=by simp only[iE,List.map_take]
   (repeat'(first|exact rfl|exact trivial|assumption|apply And.intro|refine fun(_:Unit) (_:True)=>?_|refine Exists.intro () ?_|omega|(dsimp only;omega)))
  ·have eq:i.b.newQ=((i.b.a.queues.length:Int),i.b.spare,i.b.a.openQ):=by rw[Book.newQ,if_pos (by omega)]
   rw[eq]at hins ⊢
   refine⟨i.b.a,rfl,by omega,fun _ _=>⟨trivial,⟨i.b.buys.map zC,zC ⟨i.price,i.b.a.queues.length⟩,zW 1 i.b.buys i.price⟩,rfl,rfl,rfl,⟨by rw[List.length_map];exact hle,by rw[List.length_map];omega⟩,fun _ _=>⟨(),?_⟩⟩⟩
   (repeat'(first|exact rfl|exact trivial|assumption|apply And.intro|refine fun(_:Unit) (_:True)=>?_|refine Exists.intro () ?_|omega|(dsimp only;omega)))
theorem zBs:vU Tryz.prog 139=some (147,2,16,#[.int .i64 0,.int .i64 0]):=by kernel_rfl
theorem zYl:insRC.ok Tryz.prog 148:=
 insX_ok (tS:=139) (tI:=3) (fO:=152) (fR:=153) (z:= #[.int .i64 0,.int .i64 0]) mixed Tryz.func148 rfl (by kernel_rfl) (by kernel_rfl) (by kernel_rfl) (by kernel_rfl) zBs rfl (by decide) (by decide) (by kernel_rfl) Tryz.underlying3
  (yEn (tS:=139) (tB:=4) Tryz.func152 (by kernel_rfl) (by kernel_rfl) (by kernel_rfl) (by kernel_rfl) zBs) (fun s sn sk i v vn vk w R=>by kernel_rfl)
theorem z2z:queue1C.ok Tryz.prog 137:=z9a (gokc zEh (gokc zQy (gokc zYl gok0))) yCn
theorem yKx (i:BkP) (h:find2C.cnd i):zVy i:=by
 obtain⟨_,h1,h2,_⟩:i.b.small:=h
 unfold zVy zBw xV dD j0 rA
 simp only[List.length_map,mL]
 refine⟨0,rfl,fun j=>j≤i.b.sells.length∧∀k<j,∀r,i.b.sells[k]? =some r→btr 2 r.price i.price=true,fun j=>i.b.sells.length-j,⟨by omega,fun k hk=>by omega⟩,?_⟩
 rintro j ⟨h3,h4⟩
 refine zK (fun hj=> ?_) (fun hj=> ?_)
 ·obtain⟨r,hr⟩:=yA (l:=i.b.sells) (i:=j) (by omega)
  refine⟨⟨by omega,by omega⟩,r.price,elA hr (by simp[zC]) rfl,⟨2,r.price,i.price⟩,rfl,rfl,rfl,trivial,fun _ _=> ?_⟩
  dsimp only
  refine Cv.cnd.mk (fun e=>⟨j+1,by rw[w64 (by omega)];rfl,⟨by omega,fun k hk x hx=> ?_⟩,by(first|omega|(dsimp only;omega)),by(repeat'(first|exact trivial|exact rfl|apply And.intro))⟩) (fun e=>zK (fun _=> ?_) (fun c=>absurd hj c))
  ·rcases Nat.lt_or_ge k j with hk'|hk'
   ·exact h4 k hk' x hx
   ·obtain rfl:k=j:=by omega
    rw[hr]at hx;cases hx;exact e
  ·have en:zW 2 i.b.sells i.price=j:=bY h3 h4 fun x hx=>by rw[hr]at hx;cases hx;exact e
   have eb:kK 2 i.b.sells i.price=(r.price==i.price):=by rw[kK,en,hr];exact(zQt _ _).symm
   refine⟨⟨by omega,by omega⟩,r.price,elA hr (by simp[zC]) rfl,(),by rw[en],eb,?_⟩
   (repeat'(first|exact trivial|exact rfl|apply And.intro))
 ·have en:zW 2 i.b.sells i.price=j:=bY h3 h4 fun x hx=>by have:=(List.getElem?_eq_some_iff.1 hx).1;omega
  have eb:kK 2 i.b.sells i.price=false:=by rw[kK,en,List.getElem?_eq_none (by omega)]
  refine zK (fun c=>absurd c hj) (fun _=>⟨(),by rw[en],eb,?_⟩)
  (repeat'(first|exact trivial|exact rfl|apply And.intro))
theorem zFa:find2C.ok Tryz.prog 126:=yAo (gokc dV gok0) yKx
theorem yKa (i:LdI) (h:lead2C.cnd i):zTe i:=by
 obtain⟨⟨ha,_⟩,h1,h2,_⟩:i.b.small:=h
 unfold zTe zBp pP tL gP
 have no (e:i.b.untop 2=i.b.a):AObj.adt Arena 3 zG (i.b.untop 2)=zQ i.b 1:=by rw[e];rfl
 refine Cv.cnd.mk (fun c=> ?_) (fun c=>⟨(),?_⟩)
 ·have c:i.b.hasF 2=true:=c
  refine⟨jI _ _,(pget i.b.at_ i.b.top2).isSome,_,_,_,zLo _ _,⟨jI _ _,(pget i.b.at_ i.b.top2).isSome,_,_,_,zLo _ _,⟨rfl,rfl,rfl,trivial⟩,rfl,trivial⟩,rfl,trivial,Cv.cnd.mk (fun d=>Cv.cnd.mk (fun e=> ?_) (fun e=>⟨(),?_⟩)) (fun d=>⟨(),?_⟩)⟩
  ·obtain⟨o,ho⟩:=Option.isSome_iff_exists.1 d
   have e:o.side=2:=by rw[ho]at e;simpa using e
   have eu:i.b.untop 2=i.b.a.topF o.slot false:=by
    have ht:pget i.b.at_ (i.b.topI 2)=some o:=ho
    rw[Book.untop,if_pos c,ht];dsimp only;rw[if_pos e]
   refine⟨⟨i.b.a,o.slot,false⟩,by rw[ho];rfl,rfl,rfl,ha,fun _ _=>⟨(),?_⟩⟩
   rw[eu];(repeat'(first|exact trivial|exact rfl|apply And.intro))
  ·obtain⟨o,ho⟩:=Option.isSome_iff_exists.1 d
   have e:¬o.side=2:=by rw[ho]at e;simpa using e
   have ht:pget i.b.at_ (i.b.topI 2)=some o:=ho
   rw[no (by rw[Book.untop,if_pos c,ht];dsimp only;rw[if_neg e])];(repeat'(first|exact trivial|exact rfl|apply And.intro))
  ·have ht:pget i.b.at_ (i.b.topI 2)=none:=by
    show pget i.b.at_ i.b.top2=none
    simpa using d
   rw[no (by rw[Book.untop,if_pos c,ht])];(repeat'(first|exact trivial|exact rfl|apply And.intro))
 ·have c:¬i.b.hasF 2=true:=by rw[show i.b.hasF 2=i.b.has2 from rfl,c];decide
  rw[no (by rw[Book.untop,if_neg c])];(repeat'(first|exact trivial|exact rfl|apply And.intro))
theorem z6t:lead2C.ok Tryz.prog 135:=yCz (gokc zYs gok0) yKa
theorem yCw (i:BkP) (h:queue2C.cnd i):zOc i:=by
 obtain⟨⟨ha,_⟩,ha',h1,h2,h3⟩:i.b.fit:=h
 have hle:=nE 2 i.price i.b.sells
 unfold zOc zM uO j0 uV uQ cK cI wW qF xV
 refine⟨i,rfl,rfl,rfl,rfl,rfl,rfl,rfl,rfl,rfl,rfl,rfl,⟨⟨ha,by omega⟩,by omega,by omega,by omega⟩,fun _ _=> ?_⟩
 simp only[List.length_map,xI,mL]
 refine Cv.cnd.mk (fun c=> ?_) (fun c=> ?_)
 ·obtain⟨r,hr⟩:=zPy c
  have hlt:=(List.getElem?_eq_some_iff.1 hr).1
  have e:i.b.queueF 2 i.price=(i.b,r.queue):=by rw[Book.queueF,if_pos (by rw[mL];exact c),mL,zI hr]
  rw[e]
  refine⟨⟨by omega,by omega⟩,r.queue,elA (by simpa using hr) (by simp[zC]) rfl,(),?_⟩
  (repeat'(first|exact trivial|exact rfl|apply And.intro))
 ·have e:i.b.queueF 2 i.price=({i.b with a:=i.b.newQ.2.2,sells:=i.b.ins 2 i.price,spare:=i.b.newQ.2.1},i.b.newQ.1):=by
   rw[Book.queueF,if_neg (by rw[mL,c];decide),if_neg (by decide)]
  have hins:List.map zC (i.b.ins 2 i.price)=List.take (zW 2 i.b.sells i.price) (List.map zC i.b.sells)++zC ⟨i.price,i.b.newQ.1⟩::List.drop (zW 2 i.b.sells i.price) (List.map zC i.b.sells):=by
   rw[Book.ins,mL,List.map_append,List.map_cons,List.map_take,List.map_drop]
  rw[e]
  refine zK (fun d=> ?_) (fun d=> ?_)
  ·have w:IntKind.i64.wrap ((i.b.spare.length:Int)-1)=((i.b.spare.length-1:Nat):Int):=by rw[w64 (by omega)];omega
   rw[w]
   simp only[Int.toNat_natCast]
   obtain⟨q,hq⟩:=yA (l:=i.b.spare) (i:=i.b.spare.length-1) (by omega)
   have eq:i.b.newQ=(q,i.b.spare.take (i.b.spare.length-1),i.b.a):=by rw[Book.newQ,if_neg (by omega),zI hq]
   rw[eq]at hins ⊢
   refine⟨⟨by omega,by omega⟩,q,elI hq,⟨by omega,by omega⟩,trivial,⟨i.b.sells.map zC,zC ⟨i.price,q⟩,zW 2 i.b.sells i.price⟩,rfl,rfl,rfl,⟨by rw[List.length_map];exact hle,by rw[List.length_map];omega⟩,fun _ _=>⟨(),?_⟩⟩
   have hs:iE (i.b.spare.take (i.b.spare.length-1))=(iE i.b.spare).take (i.b.spare.length-1):=by simp only[iE,List.map_take]
   (repeat'(first|exact rfl|exact trivial|assumption|apply And.intro|refine fun(_:Unit) (_:True)=>?_|refine Exists.intro () ?_|omega|(dsimp only;omega)))
  ·have eq:i.b.newQ=((i.b.a.queues.length:Int),i.b.spare,i.b.a.openQ):=by rw[Book.newQ,if_pos (by omega)]
   rw[eq]at hins ⊢
   refine⟨i.b.a,rfl,by omega,fun _ _=>⟨trivial,⟨i.b.sells.map zC,zC ⟨i.price,i.b.a.queues.length⟩,zW 2 i.b.sells i.price⟩,rfl,rfl,rfl,⟨by rw[List.length_map];exact hle,by rw[List.length_map];omega⟩,fun _ _=>⟨(),?_⟩⟩⟩
   (repeat'(first|exact rfl|exact trivial|assumption|apply And.intro|refine fun(_:Unit) (_:True)=>?_|refine Exists.intro () ?_|omega|(dsimp only;omega)))
theorem z1e:queue2C.ok Tryz.prog 137:=z8k (gokc zFa (gokc zQy (gokc zYl gok0))) yCw
open Go Cv Go.Proofs
structure BaI where
 b:Book
 id:Int
 price:Int
 qty:Int
def Book.leads (b:Book) (s price:Int):Bool:=match b.rungs s with
 |[]=>true
 |r::_=>btr s price r.price
def Book.led (b:Book) (id s price:Int):Book:=if b.leads s price=true then b.leadF id s else b
def Book.stand (b:Book) (s id price qty:Int):Book:=
 let b2:=(b.led id s price).queueF s price
 let x:=b2.1.a.push b2.2 id qty (b.leads s price)
 {b2.1 with a:=x.1,at_:=mH id ⟨s,price,x.2.1⟩ b2.1.at_}
def Book.addF (b:Book) (s id price qty:Int):Book×Int:=
 if qty<1∨1000000<qty then(b,24)else if(pget b.at_ id).isSome=true then(b,25)else if 250≤b.at_.length then(b,13)else(b.stand s id price qty,0)
def z6l (s:Int):Con:=con1 BaI (fun i=>[.nm 0 0,zB i.id,zB s,zB i.price,zB i.qty]) (fun i=>[yB i.b]) (fun i=>i.b.fit) (fun i=>zB (i.b.addF s i.id i.price i.qty).2) (fun i=>[yB (i.b.addF s i.id i.price i.qty).1])
def yFo:List (Nat×SAnn):=[(44,bj 14)]
def badd1C:Con:=z6l 1
def badd2C:Con:=z6l 2
structure BaJ where
 i:BaI
 s:Bool
def baddC:Con:=con1 BaJ (fun j=>[.nm 0 0,zB j.i.id,zB (zA j.s),zB j.i.price,zB j.i.qty]) (fun j=>[yB j.i.b]) (fun j=>j.i.b.fit) (fun j=>zB (j.i.b.addF (zA j.s) j.i.id j.i.price j.i.qty).2) (fun j=>[yB (j.i.b.addF (zA j.s) j.i.id j.i.price j.i.qty).1])
structure SaI where
 s:MSt
 inst:Int
 id:Int
 sd:Bool
 price:Int
 qty:Int
def MSt.bookAt (s:MSt) (n:Int):Book:=s.books.getD n.toNat book0
def MSt.addF (i:SaI):MSt×Int:=
 if i.inst<0∨i.s.books.length≤i.inst then(i.s,20)else if(mI i.s.wh i.id).isSome=true then(i.s,25)else if 250≤i.s.wh.length then(i.s,13)else if i.s.p.price i.inst i.price≠0 then(i.s,i.s.p.price i.inst i.price)
 else
  let x:=(i.s.bookAt i.inst).addF (zA i.sd) i.id i.price i.qty
  ({i.s with books:=i.s.books.set i.inst.toNat x.1,wh:=if x.2=0 then eY i.id i.inst i.s.wh else i.s.wh},x.2)
@[reducible] def MSt.fit (s:MSt):Prop:=s.p.small∧s.books.length≤1000000∧∀b∈s.books,b.fit
def saddC:Con:=con1 SaI (fun i=>[.nm 0 0,zB i.inst,zB i.id,zB (zA i.sd),zB i.price,zB i.qty]) (fun i=>[zE i.s]) (fun i=>i.s.fit) (fun i=>zB (MSt.addF i).2) (fun i=>[zE (MSt.addF i).1])
open Go Cv Go.Proofs
def mJ (a:PuI):Prop:=a.a.slots.length≤1000000∧(a.a.free≠0→∃(b:Slot),b∈a.a.slots∧b.used=false)∧∀(b:fJ),b∈a.a.queues→b.last=(-1)∨0≤b.last∧b.last<(↑a.a.slots.length:Int)
def yJ (a:BaI):=(a.b.addF (1:Int) a.id a.price a.qty)
def rM (a:BkP):Prop:=(a.b.a.slots.length≤1000000∧(a.b.a.free≠0→∃(b:Slot),b∈a.b.a.slots∧b.used=false)∧∀(b:fJ),b∈a.b.a.queues→b.last=(-1)∨0≤b.last∧b.last<(↑a.b.a.slots.length:Int))∧a.b.a.queues.length≤100000∧a.b.buys.length≤100000∧a.b.sells.length≤100000∧a.b.spare.length≤100000
def l5 (a:BkP) (b:BaI) (c:Bool):Prop:=(rM a)∧∀(d:Unit),True→True∧∃(e:PuI),e.n=(zL a).snd∧e.id=b.id∧e.qty=b.qty∧e.top=c∧AObj.adt Arena 3 zG e.a=AObj.adt Arena 3 zG (zL a).fst.a∧(mJ e)∧∀(f:Unit),True→(∀(g:Value×List D),g∈atE (zL a).fst.at_→like (Value.int IntKind.i64 b.id) g.fst=true)∧∃(g:Unit),(yJ b).snd=0∧(yJ b).fst.top1=(zL a).fst.top1∧(yJ b).fst.top2=(zL a).fst.top2∧(yJ b).fst.has1=(zL a).fst.has1∧(yJ b).fst.has2=(zL a).fst.has2∧AObj.adt Arena 3 zG (yJ b).fst.a=AObj.adt Arena 3 zG (yG e).fst∧List.map zC (yJ b).fst.buys=List.map zC (zL a).fst.buys∧List.map zC (yJ b).fst.sells=List.map zC (zL a).fst.sells∧atE (yJ b).fst.at_=h8 (Value.int IntKind.i64 b.id) [D.v (.int .i64 1),D.v (.int .i64 b.price),D.v (.int .i64 (yG e).snd.fst)] (atE (zL a).fst.at_)∧iE (yJ b).fst.spare=iE (zL a).fst.spare∧True
def pJ (a:Bool→Prop) (b:Bool) (c:Int) (d:Int) (e:Int) (f:BaI):Prop:=a b∧Sx.AObj.cells [V.d (D.v (.int .i64 c)),V.d (D.v (.int .i64 d)),V.d (D.v (.int .i64 e))] 165=Sx.AObj.cells [V.d (D.v (.int .i64 c)),V.d (D.v (.int .i64 d)),V.d (D.v (.int .i64 e))] 165∧Sx.AObj.cells (hZ (jP 0 1 6) [V.nm 1 0,V.own 2,V.own 3,V.mp 4,zB f.b.top1,zB f.b.top2,V.own 5,yO f.b.has1,yO f.b.has2]) (144:TypeId)=Sx.AObj.cells (hZ (jP 0 1 6) [V.nm 1 0,V.own 2,V.own 3,V.mp 4,zB f.b.top1,zB f.b.top2,V.own 5,yO f.b.has1,yO f.b.has2]) (144:TypeId)∧AObj.adt Arena 3 zG f.b.a=AObj.adt Arena 3 zG f.b.a∧AObj.own 147 2 (List.map zC f.b.buys)=AObj.own 147 2 (List.map zC f.b.buys)∧AObj.own 147 2 (List.map zC f.b.sells)=AObj.own 147 2 (List.map zC f.b.sells)∧Sx.AObj.map (atE f.b.at_)=Sx.AObj.map (atE f.b.at_)∧AObj.own 3 1 (iE f.b.spare)=AObj.own 3 1 (iE f.b.spare)
def pV (a:I3') (b:BaI) (c:Int) (d:Bool→Prop) (e:Int) (f:Int) (g:Int):Prop:=a.x=b.price∧a.y=c∧True∧∀(h:Unit),True→∃(j:Bool),j=btr a.side a.x a.y∧pJ d j e f g b
def pO (a:Bool→Prop) (b:Int) (c:Int) (d:Int) (e:BaI):Prop:=∃(f:Bool),f=true∧pJ a f b c d e
def bI (a:BaI):Prop:=(yJ a).fst.top1=a.b.top1∧(yJ a).fst.top2=a.b.top2∧(yJ a).fst.has1=a.b.has1∧(yJ a).fst.has2=a.b.has2∧AObj.adt Arena 3 zG (yJ a).fst.a=AObj.adt Arena 3 zG a.b.a∧List.map zC (yJ a).fst.buys=List.map zC a.b.buys∧List.map zC (yJ a).fst.sells=List.map zC a.b.sells∧atE (yJ a).fst.at_=atE a.b.at_∧iE (yJ a).fst.spare=iE a.b.spare∧True
def zAo (a:BaI):Prop:=∃(b:Unit),(yJ a).snd=24∧bI a
def aF (a:BaI) (b:Int) (c:Int) (d:Int) (e:Bool):Prop:=vK (Value.int IntKind.i64 a.id) (atE a.b.at_)=some [D.v (.int .i64 b),D.v (.int .i64 c),D.v (.int .i64 d)]∧e=true∨vK (Value.int IntKind.i64 a.id) (atE a.b.at_)=none∧[D.v (.int .i64 b),D.v (.int .i64 c),D.v (.int .i64 d)]=[D.v (.int .i64 0),D.v (.int .i64 0),D.v (.int .i64 0)]∧e=false
def mN (a:LdI):Prop:=(a.b.a.slots.length≤1000000∧a.b.a.queues.length≤1000000)∧a.b.buys.length≤1000000∧a.b.sells.length≤1000000∧a.b.spare.length≤1000000
def zSt (i:BaI):Prop:=
 (∀(a:Value×List D),a∈atE i.b.at_→like (Value.int IntKind.i64 i.id) a.fst=true)∧∃(a:Bool),∃(b:Int),∃(c:Int),∃(d:Int),(aF i b c d a)∧∃(e:Int),e=1∧True∧∀(f:Unit),True→cnd (!(vB e)) (∃(g:Unit),(yJ i).snd=21∧bI i) (cnd (decide (i.qty<1)) (zAo i) (cnd (decide (i.qty>1000000)) (zAo i) (cnd a (∃(g:Unit),(yJ i).snd=25∧bI i) (cnd (decide ((↑(atE i.b.at_).length:Int)≥250)) (∃(g:Unit),(yJ i).snd=13∧bI i) (∃(g:Bool),∃(h:Bool→Prop),cnd ((↑(List.map zC i.b.buys).length:Int)==0) (pO h b c d i) (((0:Int)≤(0:Int)∧0<(↑(List.map zC i.b.buys).length:Int))∧∃(j:Int),zF (List.map zC i.b.buys) (Int.toNat 0) ((0:Nat)+(0:Nat)) 1=some [D.v (.int .i64 j)]∧∃(k:I3'),k.side=1∧pV k i j h b c d)∧∀(j:Bool),h j→cnd j (∃(k:LdI),k.id=i.id∧(1:Int)=(1:Int)∧k.b.top1=i.b.top1∧k.b.top2=i.b.top2∧k.b.has1=i.b.has1∧k.b.has2=i.b.has2∧AObj.adt Arena 3 zG k.b.a=AObj.adt Arena 3 zG i.b.a∧List.map zC k.b.buys=List.map zC i.b.buys∧List.map zC k.b.sells=List.map zC i.b.sells∧atE k.b.at_=atE i.b.at_∧iE k.b.spare=iE i.b.spare∧(mN k)∧∀(l:Unit),True→∃(m:BkP),(1:Int)=(1:Int)∧m.price=i.price∧m.b.top1=k.id∧m.b.top2=k.b.top2∧m.b.has1=true∧m.b.has2=k.b.has2∧AObj.adt Arena 3 zG m.b.a=AObj.adt Arena 3 zG (k.b.untop 1)∧List.map zC m.b.buys=List.map zC k.b.buys∧List.map zC m.b.sells=List.map zC k.b.sells∧atE m.b.at_=atE k.b.at_∧iE m.b.spare=iE k.b.spare∧l5 m i j) (∃(k:BkP),(1:Int)=(1:Int)∧k.price=i.price∧k.b.top1=i.b.top1∧k.b.top2=i.b.top2∧k.b.has1=i.b.has1∧k.b.has2=i.b.has2∧AObj.adt Arena 3 zG k.b.a=AObj.adt Arena 3 zG i.b.a∧List.map zC k.b.buys=List.map zC i.b.buys∧List.map zC k.b.sells=List.map zC i.b.sells∧atE k.b.at_=atE i.b.at_∧iE k.b.spare=iE i.b.spare∧l5 k i j))))))
theorem z9w (hG:GOk Tryz.prog ([(80,bisC),(111,bbetterC),(135,lead1C),(137,queue1C),(136,apushC)])) (h:∀(i:BaI),badd1C.cnd i→zSt i):badd1C.ok Tryz.prog 118:=okw mixed hG 0 (fun _=>yFo) (fun _=>[]) [0] Tryz.func118 h
def yK (a:BaI):=(a.b.addF (2:Int) a.id a.price a.qty)
def l7 (a:BkP) (b:BaI) (c:Bool):Prop:=(rM a)∧∀(d:Unit),True→True∧∃(e:PuI),e.n=(zM a).snd∧e.id=b.id∧e.qty=b.qty∧e.top=c∧AObj.adt Arena 3 zG e.a=AObj.adt Arena 3 zG (zM a).fst.a∧(mJ e)∧∀(f:Unit),True→(∀(g:Value×List D),g∈atE (zM a).fst.at_→like (Value.int IntKind.i64 b.id) g.fst=true)∧∃(g:Unit),(yK b).snd=0∧(yK b).fst.top1=(zM a).fst.top1∧(yK b).fst.top2=(zM a).fst.top2∧(yK b).fst.has1=(zM a).fst.has1∧(yK b).fst.has2=(zM a).fst.has2∧AObj.adt Arena 3 zG (yK b).fst.a=AObj.adt Arena 3 zG (yG e).fst∧List.map zC (yK b).fst.buys=List.map zC (zM a).fst.buys∧List.map zC (yK b).fst.sells=List.map zC (zM a).fst.sells∧atE (yK b).fst.at_=h8 (Value.int IntKind.i64 b.id) [D.v (.int .i64 2),D.v (.int .i64 b.price),D.v (.int .i64 (yG e).snd.fst)] (atE (zM a).fst.at_)∧iE (yK b).fst.spare=iE (zM a).fst.spare∧True
def bJ (a:BaI):Prop:=(yK a).fst.top1=a.b.top1∧(yK a).fst.top2=a.b.top2∧(yK a).fst.has1=a.b.has1∧(yK a).fst.has2=a.b.has2∧AObj.adt Arena 3 zG (yK a).fst.a=AObj.adt Arena 3 zG a.b.a∧List.map zC (yK a).fst.buys=List.map zC a.b.buys∧List.map zC (yK a).fst.sells=List.map zC a.b.sells∧atE (yK a).fst.at_=atE a.b.at_∧iE (yK a).fst.spare=iE a.b.spare∧True
def zBt (a:BaI):Prop:=∃(b:Unit),(yK a).snd=24∧bJ a
def zSx (i:BaI):Prop:=
 (∀(a:Value×List D),a∈atE i.b.at_→like (Value.int IntKind.i64 i.id) a.fst=true)∧∃(a:Bool),∃(b:Int),∃(c:Int),∃(d:Int),(aF i b c d a)∧∃(e:Int),e=2∧True∧∀(f:Unit),True→cnd (!(vB e)) (∃(g:Unit),(yK i).snd=21∧bJ i) (cnd (decide (i.qty<1)) (zBt i) (cnd (decide (i.qty>1000000)) (zBt i) (cnd a (∃(g:Unit),(yK i).snd=25∧bJ i) (cnd (decide ((↑(atE i.b.at_).length:Int)≥250)) (∃(g:Unit),(yK i).snd=13∧bJ i) (∃(g:Bool),∃(h:Bool→Prop),cnd ((↑(List.map zC i.b.sells).length:Int)==0) (pO h b c d i) (((0:Int)≤(0:Int)∧0<(↑(List.map zC i.b.sells).length:Int))∧∃(j:Int),zF (List.map zC i.b.sells) (Int.toNat 0) ((0:Nat)+(0:Nat)) 1=some [D.v (.int .i64 j)]∧∃(k:I3'),k.side=2∧pV k i j h b c d)∧∀(j:Bool),h j→cnd j (∃(k:LdI),k.id=i.id∧(2:Int)=(2:Int)∧k.b.top1=i.b.top1∧k.b.top2=i.b.top2∧k.b.has1=i.b.has1∧k.b.has2=i.b.has2∧AObj.adt Arena 3 zG k.b.a=AObj.adt Arena 3 zG i.b.a∧List.map zC k.b.buys=List.map zC i.b.buys∧List.map zC k.b.sells=List.map zC i.b.sells∧atE k.b.at_=atE i.b.at_∧iE k.b.spare=iE i.b.spare∧(mN k)∧∀(l:Unit),True→∃(m:BkP),(2:Int)=(2:Int)∧m.price=i.price∧m.b.top1=k.b.top1∧m.b.top2=k.id∧m.b.has1=k.b.has1∧m.b.has2=true∧AObj.adt Arena 3 zG m.b.a=AObj.adt Arena 3 zG (k.b.untop 2)∧List.map zC m.b.buys=List.map zC k.b.buys∧List.map zC m.b.sells=List.map zC k.b.sells∧atE m.b.at_=atE k.b.at_∧iE m.b.spare=iE k.b.spare∧l7 m i j) (∃(k:BkP),(2:Int)=(2:Int)∧k.price=i.price∧k.b.top1=i.b.top1∧k.b.top2=i.b.top2∧k.b.has1=i.b.has1∧k.b.has2=i.b.has2∧AObj.adt Arena 3 zG k.b.a=AObj.adt Arena 3 zG i.b.a∧List.map zC k.b.buys=List.map zC i.b.buys∧List.map zC k.b.sells=List.map zC i.b.sells∧atE k.b.at_=atE i.b.at_∧iE k.b.spare=iE i.b.spare∧l7 k i j))))))
theorem yCl (hG:GOk Tryz.prog ([(80,bisC),(111,bbetterC),(135,lead2C),(137,queue2C),(136,apushC)])) (h:∀(i:BaI),badd2C.cnd i→zSx i):badd2C.ok Tryz.prog 118:=okw mixed hG 0 (fun _=>yFo) (fun _=>[]) [0] Tryz.func118 h
def zAb (a:SaI):Prop:=AObj.fro 1 (iE (MSt.addF a).fst.p.months)=AObj.fro 1 (iE a.s.p.months)∧AObj.fro 1 (iE (MSt.addF a).fst.p.settle)=AObj.fro 1 (iE a.s.p.settle)∧True
def zBc (a:SaI):Prop:=yR (MSt.addF a).fst.wh=yR a.s.wh∧zAb a
def nI (a:SaI):Prop:=sb (MSt.addF a).fst.p.code=sb a.s.p.code∧(MSt.addF a).fst.p.tick=a.s.p.tick∧(MSt.addF a).fst.p.low=a.s.p.low∧(MSt.addF a).fst.p.high=a.s.p.high∧(MSt.addF a).fst.p.wide=a.s.p.wide∧(MSt.addF a).fst.p.rule=a.s.p.rule∧(MSt.addF a).fst.p.top=a.s.p.top∧(MSt.addF a).fst.p.least=a.s.p.least∧(MSt.addF a).fst.p.part=a.s.p.part∧AObj.objs 102 Book 6 zQ (MSt.addF a).fst.books none=AObj.objs 102 Book 6 zQ a.s.books none∧zBc a
def zId (a:SaI):Prop:=∃(b:Unit),(MSt.addF a).snd=20∧nI a
def uZ (a:b9):Prop:=a.p.code.length≤1099511627776∧a.p.months.length≤1099511627776∧a.p.settle.length≤1099511627776
def c9 (a:BaJ):=(a.i.b.addF (zA a.s) a.i.id a.i.price a.i.qty)
def z4o (i:SaI):Prop:=
 (∀(a:Value×List D),a∈yR i.s.wh→like (Value.int IntKind.i64 i.id) a.fst=true)∧∃(a:Bool),∃(b:Int),(vK (Value.int IntKind.i64 i.id) (yR i.s.wh)=some [D.v (.int .i64 b)]∧a=true∨vK (Value.int IntKind.i64 i.id) (yR i.s.wh)=none∧[D.v (.int .i64 b)]=[D.v (.int .i64 0)]∧a=false)∧cnd (decide (i.inst≥0)) (cnd (!decide (i.inst<(↑i.s.books.length:Int))) (zId i) (cnd a (∃(c:Unit),(MSt.addF i).snd=25∧nI i) (cnd (decide ((↑(yR i.s.wh).length:Int)≥250)) (∃(c:Unit),(MSt.addF i).snd=13∧nI i) (∃(c:b9),sb c.p.code=sb i.s.p.code∧iE c.p.months=iE i.s.p.months∧c.p.tick=i.s.p.tick∧c.p.low=i.s.p.low∧c.p.high=i.s.p.high∧c.p.wide=i.s.p.wide∧c.p.rule=i.s.p.rule∧c.p.top=i.s.p.top∧c.p.least=i.s.p.least∧c.p.part=i.s.p.part∧iE c.p.settle=iE i.s.p.settle∧c.a=i.inst∧c.b=i.price∧(uZ c)∧∀(d:Unit),True→cnd (c.p.price c.a c.b !=0) (∃(e:Unit),(MSt.addF i).snd=c.p.price c.a c.b∧nI i) ((0≤i.inst∧i.inst<(↑i.s.books.length:Int))∧i.inst.toNat<i.s.books.length∧∃(e:Book),i.s.books[i.inst.toNat]?=some e∧∃(f:BaJ),f.i.id=i.id∧zA f.s=zA i.sd∧f.i.price=i.price∧f.i.qty=i.qty∧yB f.i.b=yB e∧((f.i.b.a.slots.length≤1000000∧(f.i.b.a.free≠0→∃(g:Slot),g∈f.i.b.a.slots∧g.used=false)∧∀(g:fJ),g∈f.i.b.a.queues→g.last=(-1)∨0≤g.last∧g.last<(↑f.i.b.a.slots.length:Int))∧f.i.b.a.queues.length≤100000∧f.i.b.buys.length≤100000∧f.i.b.sells.length≤100000∧f.i.b.spare.length≤100000)∧∀(g:Unit),True→∃(h:Book),yB (c9 f).fst=yB h∧i.inst.toNat=i.inst.toNat∧i.inst.toNat<i.s.books.length∧cnd ((c9 f).snd==0) ((∀(j:Value×List D),j∈yR i.s.wh→like (Value.int IntKind.i64 i.id) j.fst=true)∧∃(j:Unit),(MSt.addF i).snd=(c9 f).snd∧sb (MSt.addF i).fst.p.code=sb i.s.p.code∧(MSt.addF i).fst.p.tick=i.s.p.tick∧(MSt.addF i).fst.p.low=i.s.p.low∧(MSt.addF i).fst.p.high=i.s.p.high∧(MSt.addF i).fst.p.wide=i.s.p.wide∧(MSt.addF i).fst.p.rule=i.s.p.rule∧(MSt.addF i).fst.p.top=i.s.p.top∧(MSt.addF i).fst.p.least=i.s.p.least∧(MSt.addF i).fst.p.part=i.s.p.part∧AObj.objs 102 Book 6 zQ (MSt.addF i).fst.books none=AObj.objs 102 Book 6 zQ (i.s.books.set i.inst.toNat h) none∧yR (MSt.addF i).fst.wh=h8 (Value.int IntKind.i64 i.id) [D.v (.int .i64 i.inst)] (yR i.s.wh)∧zAb i) (∃(j:Unit),(MSt.addF i).snd=(c9 f).snd∧sb (MSt.addF i).fst.p.code=sb i.s.p.code∧(MSt.addF i).fst.p.tick=i.s.p.tick∧(MSt.addF i).fst.p.low=i.s.p.low∧(MSt.addF i).fst.p.high=i.s.p.high∧(MSt.addF i).fst.p.wide=i.s.p.wide∧(MSt.addF i).fst.p.rule=i.s.p.rule∧(MSt.addF i).fst.p.top=i.s.p.top∧(MSt.addF i).fst.p.least=i.s.p.least∧(MSt.addF i).fst.p.part=i.s.p.part∧AObj.objs 102 Book 6 zQ (MSt.addF i).fst.books none=AObj.objs 102 Book 6 zQ (i.s.books.set i.inst.toNat h) none∧zBc i)))))) (zId i)
theorem yJv (hG:GOk Tryz.prog ([(72,priceC),(118,baddC)])) (h:∀(i:SaI),saddC.cnd i→z4o i):saddC.ok Tryz.prog 98:=okw mixed hG 1 (fun _=>[]) (fun _=>[]) [0] Tryz.func98 h
open Go Cv Go.Proofs
theorem zFb {α:Type} {f:α→α} {Q:α→Prop} (hf:∀x,Q x→Q (f x)):∀{l:List α} (i:Nat),(∃x∈l,Q x)→∃x∈l.modify i f,Q x
 |[],i,⟨x,hx,_⟩=>by cases hx
 |a::l,0,⟨x,hx,q⟩=>by
  rcases List.mem_cons.1 hx with rfl|hx
  ·exact⟨f x,List.mem_cons_self,hf x q⟩
  ·exact⟨x,List.mem_cons_of_mem _ hx,q⟩
 |a::l,i+1,⟨x,hx,q⟩=>by
  rw[List.modify_succ_cons]
  rcases List.mem_cons.1 hx with rfl|hx
  ·exact⟨x,List.mem_cons_self,q⟩
  ·obtain⟨y,hy,hq⟩:=zFb hf (l:=l) i ⟨x,hx,q⟩
   exact⟨y,List.mem_cons_of_mem _ hy,hq⟩
theorem z3e {a:Arena} (h:a.fit) (n:Int) (t:Bool):(a.topF n t).fit:=by
 obtain⟨h1,h2,h3⟩:=h
 rw[Arena.topF]
 split
 ·refine⟨by simpa using h1,fun hf=> ?_,by simpa using h3⟩
  exact zFb (f:=fun s:Slot=>{s with top:=t}) (Q:=fun s=>s.used=false) (fun x hx=>hx) _ (h2 hf)
 ·exact⟨h1,h2,h3⟩
theorem z1a {b:Book} (h:b.a.fit) (s:Int):(b.untop s).fit:=by
 rw[Book.untop]
 repeat' split
 all_goals first|exact h|exact z3e h _ _
theorem z2q {a:Arena} (h:a.fit):a.openQ.fit:=by
 obtain⟨h1,h2,h3⟩:=h
 refine⟨h1,h2,fun q hq=> ?_⟩
 rcases List.mem_append.1 hq with hq|hq
 ·exact h3 q hq
 ·rw[List.mem_singleton.1 hq];exact .inl rfl
theorem zPk {b:Book} (h:b.a.fit):b.newQ.2.2.fit:=by
 rw[Book.newQ]
 split
 ·exact z2q h
 ·exact h
theorem aH {b:Book} (h:b.a.fit) (s p:Int):(b.queueF s p).1.a.fit:=by
 rw[Book.queueF]
 repeat' split
 ·exact h
 ·exact zPk h
 ·exact zPk h
theorem z2u (b:Book) (s:Int):(b.untop s).slots.length=b.a.slots.length∧(b.untop s).queues=b.a.queues:=by
 have ht:∀n t,(b.a.topF n t).slots.length=b.a.slots.length∧(b.a.topF n t).queues=b.a.queues:=by
  intro n t
  rw[Arena.topF]
  split
  ·exact⟨by simp,rfl⟩
  ·exact⟨rfl,rfl⟩
 rw[Book.untop]
 repeat' split
 all_goals first|exact⟨rfl,rfl⟩|exact ht _ _
theorem zKo {b:Book} (h:b.fit) (id s:Int):(b.leadF id s).fit:=by
 obtain⟨h1,h2,h3,h4,h5⟩:=h
 have hl:=z2u b s
 rw[Book.leadF]
 split
 all_goals exact⟨z1a h1 s,by rw[hl.2];exact h2,h3,h4,h5⟩
theorem zJf {b:Book} (h:b.fit):b.small:=by
 obtain⟨⟨h1,_⟩,h2,h3,h4,h5⟩:=h
 exact⟨⟨h1,by omega⟩,by omega,by omega,by omega⟩
theorem yIu (i:BaI) (h:badd1C.cnd i):zSt i:=by
 have hfit:i.b.fit:=h
 have hsm:=zJf hfit
 unfold zSt vB zAo bI pO pV pJ l5 zL rM mJ yG yJ mN aF
 have plc:∀(b:Book) (x:Int),h8 (Value.int IntKind.i64 i.id) [D.v (.int .i64 1),D.v (.int .i64 i.price),D.v (.int .i64 x)] (atE b.at_)=atE (mH i.id ⟨1,i.price,x⟩ b.at_):=fun b x=>zMe i.id ⟨1,i.price,x⟩ b.at_
 refine⟨jI _ _,(pget i.b.at_ i.id).isSome,_,_,_,zLo _ _,1,rfl,trivial,fun _ _=> ?_⟩
 refine Cv.cnd.mk (fun c=>absurd c (by decide)) fun _=> ?_
 refine zK (fun c=> ?_) (fun c=>zK (fun d=> ?_) (fun d=> ?_))
 ·have ha:i.b.addF 1 i.id i.price i.qty=(i.b,24):=by rw[Book.addF,if_pos (.inl c)]
  rw[ha];(repeat'(first|exact rfl|exact trivial|assumption|apply And.intro|refine fun(_:Unit) (_:True)=>?_|refine Exists.intro () ?_|omega|(dsimp only;omega)))
 ·have ha:i.b.addF 1 i.id i.price i.qty=(i.b,24):=by rw[Book.addF,if_pos (.inr d)]
  rw[ha];(repeat'(first|exact rfl|exact trivial|assumption|apply And.intro|refine fun(_:Unit) (_:True)=>?_|refine Exists.intro () ?_|omega|(dsimp only;omega)))
 have hq:¬(i.qty<1∨1000000<i.qty):=by omega
 refine Cv.cnd.mk (fun e=> ?_) (fun e=> ?_)
 ·have ha:i.b.addF 1 i.id i.price i.qty=(i.b,25):=by rw[Book.addF,if_neg hq,if_pos e]
  rw[ha];(repeat'(first|exact rfl|exact trivial|assumption|apply And.intro|refine fun(_:Unit) (_:True)=>?_|refine Exists.intro () ?_|omega|(dsimp only;omega)))
 have hlen:(atE i.b.at_).length=i.b.at_.length:=by simp[atE]
 rw[hlen]
 refine zK (fun f=> ?_) (fun f=> ?_)
 ·have ha:i.b.addF 1 i.id i.price i.qty=(i.b,13):=by rw[Book.addF,if_neg hq,if_neg (by rw[e];decide),if_pos (by omega)]
  rw[ha];(repeat'(first|exact rfl|exact trivial|assumption|apply And.intro|refine fun(_:Unit) (_:True)=>?_|refine Exists.intro () ?_|omega|(dsimp only;omega)))
 have ha:i.b.addF 1 i.id i.price i.qty=(i.b.stand 1 i.id i.price i.qty,0):=by rw[Book.addF,if_neg hq,if_neg (by rw[e];decide),if_neg (by omega)]
 rw[ha]
 simp only[List.length_map]
 refine⟨true,fun x=>x=i.b.leads 1 i.price,Cv.cnd.mk (fun g=>⟨true,rfl,?_,by(repeat'(first|exact trivial|exact rfl|apply And.intro))⟩) (fun g=> ?_),fun x hx=> ?_⟩
 ·have:i.b.buys=[]:=List.eq_nil_of_length_eq_zero (by have:(i.b.buys.length:Int)=0:=(by simpa using g);omega)
  rw[Book.leads,cX,this]
 ·obtain⟨r,l,hl⟩:∃r l,i.b.buys=r::l:=by
   cases hb:i.b.buys with
   |nil=>rw[hb]at g;exact absurd g (by decide)
   |cons r l=>exact⟨r,l,rfl⟩
  refine⟨⟨by omega,by rw[hl,List.length_cons];omega⟩,r.price,elA (x:=r) (by rw[hl];rfl) (by simp[zC]) rfl,⟨1,i.price,r.price⟩,rfl,rfl,rfl,trivial,fun _ _=>⟨_,rfl,?_,by(repeat'(first|exact trivial|exact rfl|apply And.intro))⟩⟩
  rw[Book.leads,cX,hl]
 subst hx
 refine Cv.cnd.mk (fun g=> ?_) (fun g=> ?_)
 ·have hled:i.b.led i.id 1 i.price=i.b.leadF i.id 1:=by rw[Book.led,if_pos g]
  have hf1:=zKo hfit i.id 1
  have hst:i.b.stand 1 i.id i.price i.qty={((i.b.leadF i.id 1).queueF 1 i.price).1 with a:=(((i.b.leadF i.id 1).queueF 1 i.price).1.a.push ((i.b.leadF i.id 1).queueF 1 i.price).2 i.id i.qty (i.b.leads 1 i.price)).1,at_:=mH i.id ⟨1,i.price,(((i.b.leadF i.id 1).queueF 1 i.price).1.a.push ((i.b.leadF i.id 1).queueF 1 i.price).2 i.id i.qty (i.b.leads 1 i.price)).2.1⟩ ((i.b.leadF i.id 1).queueF 1 i.price).1.at_}:=by
   simp only[Book.stand,hled]
  refine⟨⟨i.b,i.id⟩,rfl,trivial,rfl,rfl,rfl,rfl,rfl,rfl,rfl,rfl,rfl,hsm,fun _ _=>⟨⟨i.b.leadF i.id 1,i.price⟩,trivial,rfl,rfl,rfl,rfl,rfl,rfl,rfl,rfl,rfl,rfl,hf1,fun _ _=>⟨trivial,?_⟩⟩⟩
  refine⟨⟨((i.b.leadF i.id 1).queueF 1 i.price).1.a,((i.b.leadF i.id 1).queueF 1 i.price).2,i.id,i.qty,i.b.leads 1 i.price⟩,rfl,rfl,rfl,rfl,rfl,aH hf1.1 1 i.price,fun _ _=>⟨jI _ _,(),?_⟩⟩
  dsimp only
  rw[hst,plc]
  (repeat'(first|exact rfl|exact trivial|assumption|apply And.intro|refine fun(_:Unit) (_:True)=>?_|refine Exists.intro () ?_|omega|(dsimp only;omega)))
 ·have hled:i.b.led i.id 1 i.price=i.b:=by rw[Book.led,if_neg (by rw[g];decide)]
  have hst:i.b.stand 1 i.id i.price i.qty={(i.b.queueF 1 i.price).1 with a:=((i.b.queueF 1 i.price).1.a.push (i.b.queueF 1 i.price).2 i.id i.qty (i.b.leads 1 i.price)).1,at_:=mH i.id ⟨1,i.price,((i.b.queueF 1 i.price).1.a.push (i.b.queueF 1 i.price).2 i.id i.qty (i.b.leads 1 i.price)).2.1⟩ (i.b.queueF 1 i.price).1.at_}:=by
   simp only[Book.stand,hled]
  refine⟨⟨i.b,i.price⟩,trivial,rfl,rfl,rfl,rfl,rfl,rfl,rfl,rfl,rfl,rfl,hfit,fun _ _=>⟨trivial,?_⟩⟩
  refine⟨⟨(i.b.queueF 1 i.price).1.a,(i.b.queueF 1 i.price).2,i.id,i.qty,i.b.leads 1 i.price⟩,rfl,rfl,rfl,rfl,rfl,aH hfit.1 1 i.price,fun _ _=>⟨jI _ _,(),?_⟩⟩
  dsimp only
  rw[hst,plc]
  (repeat'(first|exact rfl|exact trivial|assumption|apply And.intro|refine fun(_:Unit) (_:True)=>?_|refine Exists.intro () ?_|omega|(dsimp only;omega)))
theorem z3t:badd1C.ok Tryz.prog 118:=z9w (gokc zAu (gokc dV (gokc z8d (gokc z2z (gokc zSh gok0))))) yIu
theorem yGf (i:BaI) (h:badd2C.cnd i):zSx i:=by
 have hfit:i.b.fit:=h
 have hsm:=zJf hfit
 unfold zSx vB zBt bJ l7 zM yK rM mJ yG pO pV pJ mN aF
 have plc:∀(b:Book) (x:Int),h8 (Value.int IntKind.i64 i.id) [D.v (.int .i64 2),D.v (.int .i64 i.price),D.v (.int .i64 x)] (atE b.at_)=atE (mH i.id ⟨2,i.price,x⟩ b.at_):=fun b x=>zMe i.id ⟨2,i.price,x⟩ b.at_
 refine⟨jI _ _,(pget i.b.at_ i.id).isSome,_,_,_,zLo _ _,2,rfl,trivial,fun _ _=> ?_⟩
 refine Cv.cnd.mk (fun c=>absurd c (by decide)) fun _=> ?_
 refine zK (fun c=> ?_) (fun c=>zK (fun d=> ?_) (fun d=> ?_))
 ·have ha:i.b.addF 2 i.id i.price i.qty=(i.b,24):=by rw[Book.addF,if_pos (.inl c)]
  rw[ha];(repeat'(first|exact rfl|exact trivial|assumption|apply And.intro|refine fun(_:Unit) (_:True)=>?_|refine Exists.intro () ?_|omega|(dsimp only;omega)))
 ·have ha:i.b.addF 2 i.id i.price i.qty=(i.b,24):=by rw[Book.addF,if_pos (.inr d)]
  rw[ha];(repeat'(first|exact rfl|exact trivial|assumption|apply And.intro|refine fun(_:Unit) (_:True)=>?_|refine Exists.intro () ?_|omega|(dsimp only;omega)))
 have hq:¬(i.qty<1∨1000000<i.qty):=by omega
 refine Cv.cnd.mk (fun e=> ?_) (fun e=> ?_)
 ·have ha:i.b.addF 2 i.id i.price i.qty=(i.b,25):=by rw[Book.addF,if_neg hq,if_pos e]
  rw[ha];(repeat'(first|exact rfl|exact trivial|assumption|apply And.intro|refine fun(_:Unit) (_:True)=>?_|refine Exists.intro () ?_|omega|(dsimp only;omega)))
 have hlen:(atE i.b.at_).length=i.b.at_.length:=by simp[atE]
 rw[hlen]
 refine zK (fun f=> ?_) (fun f=> ?_)
 ·have ha:i.b.addF 2 i.id i.price i.qty=(i.b,13):=by rw[Book.addF,if_neg hq,if_neg (by rw[e];decide),if_pos (by omega)]
  rw[ha];(repeat'(first|exact rfl|exact trivial|assumption|apply And.intro|refine fun(_:Unit) (_:True)=>?_|refine Exists.intro () ?_|omega|(dsimp only;omega)))
 have ha:i.b.addF 2 i.id i.price i.qty=(i.b.stand 2 i.id i.price i.qty,0):=by rw[Book.addF,if_neg hq,if_neg (by rw[e];decide),if_neg (by omega)]
 rw[ha]
 simp only[List.length_map]
 refine⟨true,fun x=>x=i.b.leads 2 i.price,Cv.cnd.mk (fun g=>⟨true,rfl,?_,by(repeat'(first|exact trivial|exact rfl|apply And.intro))⟩) (fun g=> ?_),fun x hx=> ?_⟩
 ·have:i.b.sells=[]:=List.eq_nil_of_length_eq_zero (by have:(i.b.sells.length:Int)=0:=(by simpa using g);omega)
  rw[Book.leads,mL,this]
 ·obtain⟨r,l,hl⟩:∃r l,i.b.sells=r::l:=by
   cases hb:i.b.sells with
   |nil=>rw[hb]at g;exact absurd g (by decide)
   |cons r l=>exact⟨r,l,rfl⟩
  refine⟨⟨by omega,by rw[hl,List.length_cons];omega⟩,r.price,elA (x:=r) (by rw[hl];rfl) (by simp[zC]) rfl,⟨2,i.price,r.price⟩,rfl,rfl,rfl,trivial,fun _ _=>⟨_,rfl,?_,by(repeat'(first|exact trivial|exact rfl|apply And.intro))⟩⟩
  rw[Book.leads,mL,hl]
 subst hx
 refine Cv.cnd.mk (fun g=> ?_) (fun g=> ?_)
 ·have hled:i.b.led i.id 2 i.price=i.b.leadF i.id 2:=by rw[Book.led,if_pos g]
  have hf1:=zKo hfit i.id 2
  have hst:i.b.stand 2 i.id i.price i.qty={((i.b.leadF i.id 2).queueF 2 i.price).1 with a:=(((i.b.leadF i.id 2).queueF 2 i.price).1.a.push ((i.b.leadF i.id 2).queueF 2 i.price).2 i.id i.qty (i.b.leads 2 i.price)).1,at_:=mH i.id ⟨2,i.price,(((i.b.leadF i.id 2).queueF 2 i.price).1.a.push ((i.b.leadF i.id 2).queueF 2 i.price).2 i.id i.qty (i.b.leads 2 i.price)).2.1⟩ ((i.b.leadF i.id 2).queueF 2 i.price).1.at_}:=by
   simp only[Book.stand,hled]
  refine⟨⟨i.b,i.id⟩,rfl,trivial,rfl,rfl,rfl,rfl,rfl,rfl,rfl,rfl,rfl,hsm,fun _ _=>⟨⟨i.b.leadF i.id 2,i.price⟩,trivial,rfl,rfl,rfl,rfl,rfl,rfl,rfl,rfl,rfl,rfl,hf1,fun _ _=>⟨trivial,?_⟩⟩⟩
  refine⟨⟨((i.b.leadF i.id 2).queueF 2 i.price).1.a,((i.b.leadF i.id 2).queueF 2 i.price).2,i.id,i.qty,i.b.leads 2 i.price⟩,rfl,rfl,rfl,rfl,rfl,aH hf1.1 2 i.price,fun _ _=>⟨jI _ _,(),?_⟩⟩
  dsimp only
  rw[hst,plc]
  (repeat'(first|exact rfl|exact trivial|assumption|apply And.intro|refine fun(_:Unit) (_:True)=>?_|refine Exists.intro () ?_|omega|(dsimp only;omega)))
 ·have hled:i.b.led i.id 2 i.price=i.b:=by rw[Book.led,if_neg (by rw[g];decide)]
  have hst:i.b.stand 2 i.id i.price i.qty={(i.b.queueF 2 i.price).1 with a:=((i.b.queueF 2 i.price).1.a.push (i.b.queueF 2 i.price).2 i.id i.qty (i.b.leads 2 i.price)).1,at_:=mH i.id ⟨2,i.price,((i.b.queueF 2 i.price).1.a.push (i.b.queueF 2 i.price).2 i.id i.qty (i.b.leads 2 i.price)).2.1⟩ (i.b.queueF 2 i.price).1.at_}:=by
   simp only[Book.stand,hled]
  refine⟨⟨i.b,i.price⟩,trivial,rfl,rfl,rfl,rfl,rfl,rfl,rfl,rfl,rfl,rfl,hfit,fun _ _=>⟨trivial,?_⟩⟩
  refine⟨⟨(i.b.queueF 2 i.price).1.a,(i.b.queueF 2 i.price).2,i.id,i.qty,i.b.leads 2 i.price⟩,rfl,rfl,rfl,rfl,rfl,aH hfit.1 2 i.price,fun _ _=>⟨jI _ _,(),?_⟩⟩
  dsimp only
  rw[hst,plc]
  (repeat'(first|exact rfl|exact trivial|assumption|apply And.intro|refine fun(_:Unit) (_:True)=>?_|refine Exists.intro () ?_|omega|(dsimp only;omega)))
theorem z4y:badd2C.ok Tryz.prog 118:=yCl (gokc zAu (gokc dV (gokc z6t (gokc z1e (gokc zSh gok0))))) yGf
theorem yEj:baddC.ok Tryz.prog 118:=fun j=>match j with
 |⟨i,false⟩=>z3t i
 |⟨i,true⟩=>z4y i
theorem yNd (i:SaI) (h:saddC.cnd i):z4o i:=by
 obtain⟨hp,hbl,hb⟩:i.s.fit:=h
 unfold z4o zId nI c9 uZ zBc zAb
 simp only[zOw]
 have hml:(yR i.s.wh).length=i.s.wh.length:=by simp[yR]
 rw[hml]
 have out (e:i.inst<0∨i.s.books.length≤i.inst):MSt.addF i=(i.s,20):=by rw[MSt.addF,if_pos e]
 refine⟨gW _ _,(mI i.s.wh i.id).isSome,_,yLb _ _,zK (fun c=>Cv.cnd.mk (fun d=> ?_) (fun d=> ?_)) (fun c=> ?_)⟩
 ·have d:¬i.inst<(i.s.books.length:Int):=by simpa using d
  rw[out (.inr (by omega))];(repeat'(first|exact rfl|exact trivial|assumption|apply And.intro|refine fun(_:Unit) (_:True)=>?_|refine Exists.intro () ?_|omega|(dsimp only;omega)))
 ·have d:i.inst<(i.s.books.length:Int):=by simpa using d
  have hn:¬(i.inst<0∨(i.s.books.length:Int)≤i.inst):=by omega
  refine Cv.cnd.mk (fun e=> ?_) (fun e=>zK (fun f=> ?_) (fun f=> ?_))
  ·rw[MSt.addF,if_neg hn,if_pos e];(repeat'(first|exact rfl|exact trivial|assumption|apply And.intro|refine fun(_:Unit) (_:True)=>?_|refine Exists.intro () ?_|omega|(dsimp only;omega)))
  ·rw[MSt.addF,if_neg hn,if_neg (by rw[e];decide),if_pos (by omega)];(repeat'(first|exact rfl|exact trivial|assumption|apply And.intro|refine fun(_:Unit) (_:True)=>?_|refine Exists.intro () ?_|omega|(dsimp only;omega)))
  ·refine⟨⟨i.s.p,i.inst,i.price⟩,rfl,rfl,rfl,rfl,rfl,rfl,rfl,rfl,rfl,rfl,rfl,rfl,rfl,hp,fun _ _=>Cv.cnd.mk (fun g=> ?_) (fun g=> ?_)⟩
   ·have g:i.s.p.price i.inst i.price≠0:=by simpa using g
    rw[MSt.addF,if_neg hn,if_neg (by rw[e];decide),if_neg (by omega),if_pos g];(repeat'(first|exact rfl|exact trivial|assumption|apply And.intro|refine fun(_:Unit) (_:True)=>?_|refine Exists.intro () ?_|omega|(dsimp only;omega)))
   ·have g:i.s.p.price i.inst i.price=0:=by simpa using g
    obtain⟨x,hx⟩:=yA (l:=i.s.books) (i:=i.inst.toNat) (by omega)
    have hba:i.s.bookAt i.inst=x:=zI hx
    have ha:MSt.addF i=({i.s with books:=i.s.books.set i.inst.toNat (x.addF (zA i.sd) i.id i.price i.qty).1,wh:=if(x.addF (zA i.sd) i.id i.price i.qty).2=0 then eY i.id i.inst i.s.wh else i.s.wh},(x.addF (zA i.sd) i.id i.price i.qty).2):=by
     rw[MSt.addF,if_neg hn,if_neg (by rw[e];decide),if_neg (by omega),if_neg (by simp[g])]
     simp only[hba]
    refine⟨⟨by omega,by omega⟩,by omega,x,hx,⟨⟨x,i.id,i.price,i.qty⟩,i.sd⟩,rfl,rfl,rfl,rfl,rfl,hb x (List.mem_of_getElem? hx),fun _ _=>⟨(x.addF (zA i.sd) i.id i.price i.qty).1,rfl,trivial,by omega,Cv.cnd.mk (fun z=>⟨gW _ _,?_⟩) (fun z=> ?_)⟩⟩
    ·have z:(x.addF (zA i.sd) i.id i.price i.qty).2=0:=by simpa using z
     rw[ha,z]
     simp only[if_true]
     (repeat'(first|exact rfl|exact trivial|assumption|apply And.intro|refine fun(_:Unit) (_:True)=>?_|refine Exists.intro () ?_|omega|(dsimp only;omega)))
    ·have z:¬(x.addF (zA i.sd) i.id i.price i.qty).2=0:=by simpa using z
     rw[ha,if_neg z]
     (repeat'(first|exact rfl|exact trivial|assumption|apply And.intro|refine fun(_:Unit) (_:True)=>?_|refine Exists.intro () ?_|omega|(dsimp only;omega)))
 ·rw[out (.inl (by omega))];(repeat'(first|exact rfl|exact trivial|assumption|apply And.intro|refine fun(_:Unit) (_:True)=>?_|refine Exists.intro () ?_|omega|(dsimp only;omega)))
theorem yBe:saddC.ok Tryz.prog 98:=yJv (gokc nP (gokc yEj gok0)) yNd
open Go Cv Go.Proofs
def r3prodC:Con:=con1 (List UInt8) (fun s=>[sV s]) (fun _=>[]) (fun s=>s.length≤1099511627776) (fun s=>yO (wM s)) (fun _=>[])
def yDz (s:List UInt8):List SAnn:=[{ι:=Nat×Nat,slots:=fun x=>[(3,zB x.2),(7,.nm 0 0)],rows:=fun x=>[.iter (sb s) x.1]}]
def yCj:List (Nat×SAnn):=[(20,bj 29)]
def r5checkC:Con:=con1 Prd (fun p=>[prdV p]) (fun _=>[]) Prd.small (fun p=>zB p.check) (fun _=>[])
def z5q:List SAnn:=[{ι:=Nat,slots:=fun j=>[(3,zB j)],rows:=fun _=>[]},{ι:=Nat,slots:=fun j=>[(4,zB j)],rows:=fun _=>[]},{ι:=Nat,slots:=fun j=>[(5,zB j)],rows:=fun _=>[]}]
def z7h:List (Nat×SAnn):=[(12,bj 19),(32,bj 58),(40,bj 90),(68,bj 136),(96,bj 168),(104,bj 176),(112,bj 204)]
def r5countC:Con:=con1 Prd (fun p=>[prdV p]) (fun _=>[]) Prd.small (fun p=>zB p.count) (fun _=>[])
def r5legsC:Con:=con1 cF (fun i=>[prdV i.p,zB i.n]) (fun _=>[]) (fun i=>i.p.small) (fun i=> .tup [zB (i.p.legs i.n).1,zB (i.p.legs i.n).2.1,yO (i.p.legs i.n).2.2]) (fun _=>[])
def yBu (i:cF):List SAnn:=[{ι:=Nat,slots:=fun m=>[(8,zB (z8 i.p.months.length m)),(9,zB m)],rows:=fun _=>[]},
 {ι:=Nat×Nat,slots:=fun m=>[(8,zB ((z8 i.p.months.length m.1+m.2:Nat):Int)),(9,zB m.1),(10,zB ((m.1+1+m.2:Nat):Int))],rows:=fun _=>[]}]
def kN (x:Prd):Int:=2+zJ x.months.length 0 3
def yE (x:Prd):Int:=1+zJ x.tick 0 9
def kY (n:Nat):List Int:=(List.range n).map fun(i:Nat)=>10*(i:Int)+3
def kD (t:Int) (n:Nat):List Int:=(List.range n).map fun(i:Nat)=>t*(10+(i:Int))
def xC (x:Prd):Prd:=⟨[206,169],kY (kN x).toNat,yE x,-20*yE x,100*yE x,yE x*(5+zJ x.wide 0 60),1+zJ x.rule 0 2,zJ x.top 0 9,1+zJ x.least 0 4,zJ x.part 0 100,kD (yE x) (kN x).toNat⟩
@[reducible] def Prd.raw (x:Prd):Prop:=yQ x.tick∧yQ x.wide∧yQ x.rule∧yQ x.top∧yQ x.least∧yQ x.part∧x.months.length≤9223372036854775807
def kprodC:Con:=con1 Prd (fun x=>[prdV x]) (fun _=>[]) Prd.raw (fun x=>prdV (xC x)) (fun _=>[])
def yOi (x:Prd) (w:Int) (j:Nat):List AObj:=[.cells [sV [206,169],.own 1,zB (yE x),zB (-20*yE x),zB (100*yE x),zB w,zB (1+zJ x.rule 0 2),zB (zJ x.top 0 9),zB (1+zJ x.least 0 4),zB (zJ x.part 0 100),.own 2] 29,.own 3 1 (iE (kY j)),.own 2 1 (iE (kD (yE x) j))]
def yLw (x:Prd):List AObj:=[.cells [sV [206,169],.d (.v (.slice none 0 0)),zB (yE x),zB (-20*yE x),zB (100*yE x),zB 0,zB (1+zJ x.rule 0 2),zB (zJ x.top 0 9),zB (1+zJ x.least 0 4),zB (zJ x.part 0 100),.d (.v (.slice none 0 0))] 29]
def yIk (x:Prd):List SAnn:=[{ι:=Nat,slots:=fun j=>[(5,.nm 0 0),(6,zB j)],rows:=fun j=>yOi x (yE x*(5+zJ x.wide 0 60)) j}]
def yHs (x:Prd):List (Nat×SAnn):=[(12,{ι:=Unit,slots:=fun _=>[(5,.nm 0 0)],slots0:=fun _=>[],rows0:=fun _=>[],rows:=fun _=>yLw x})]
open Go Cv Go.Proofs
def cO (a:Bool→Prop) (b:Bool) (c:List UInt8) (d:Nat×Nat):Prop:=a b∧Sx.AObj.iter (sb c) (d.fst+(Utf8.decode (sb c) d.fst).snd)=Sx.AObj.iter (sb c) (d.fst+(Utf8.decode (sb c) d.fst).snd)
def nD (a:Bool→Prop) (b:List UInt8) (c:Nat×Nat):Prop:=∃(d:Bool),d=!false∧cO a d b c
def kF (a:List UInt8) (b:Nat×Nat):=(↑(Utf8.decode (sb a) b.fst).fst:Int)
def sM (a:List UInt8) (b:Nat×Nat) (c:Bool→Prop):Prop:=cnd (decide ((kF a b)≥913)) (cnd (decide ((kF a b)≤937)) (∃(d:Bool),d=!(kF a b) !=930∧cO c d a b) (nD c a b)) (nD c a b)
def zMb (s:List UInt8):Prop:=
 ∃(a:Nat×Nat),(↑a.snd:Int)=0∧sb s=sb s∧a.fst=0∧∃(b:Nat×Nat→Prop),∃(c:Nat×Nat→Nat),b a∧∀(d:Nat×Nat),b d→cnd (d.fst.blt (sb s).size) (∃(e:Bool),∃(f:Bool→Prop),cnd (decide ((kF s d)≥65)) (cnd (decide ((kF s d)≤90)) (∃(g:Bool),g=!true∧cO f g s d) (sM s d f)) (sM s d f)∧∀(g:Bool),f g→cnd g (∃(h:Unit),wM s=false∧True) (gK d s b c)) (cnd (decide ((↑d.snd:Int)≥1)) (∃(e:Unit),wM s=decide ((↑d.snd:Int)≤4)∧True) (∃(e:Unit),wM s=false∧True))
theorem z5y (hG:GOk Tryz.prog ([])) (h:∀(s:List UInt8),r3prodC.cnd s→zMb s):r3prodC.ok Tryz.prog 101:=okw mixed hG 0 (fun _=>yCj) (fun s=>yDz s) [] Tryz.func101 h
def bS (a:Prd):Prop:=Sx.AObj.cells [V.d (D.v (Value.string (sb a.code))),V.own 0,V.d (D.v (.int .i64 a.tick)),V.d (D.v (.int .i64 a.low)),V.d (D.v (.int .i64 a.high)),V.d (D.v (.int .i64 a.wide)),V.d (D.v (.int .i64 a.rule)),V.d (D.v (.int .i64 a.top)),V.d (D.v (.int .i64 a.least)),V.d (D.v (.int .i64 a.part)),V.own ((0:Nat)+(1:Nat))] 29=Sx.AObj.cells [V.d (D.v (Value.string (sb a.code))),V.own 0,V.d (D.v (.int .i64 a.tick)),V.d (D.v (.int .i64 a.low)),V.d (D.v (.int .i64 a.high)),V.d (D.v (.int .i64 a.wide)),V.d (D.v (.int .i64 a.rule)),V.d (D.v (.int .i64 a.top)),V.d (D.v (.int .i64 a.least)),V.d (D.v (.int .i64 a.part)),V.own ((0:Nat)+(1:Nat))] 29∧AObj.fro 1 (iE a.settle)=AObj.fro 1 (iE a.settle)∧AObj.fro 1 (iE a.months)=AObj.fro 1 (iE a.months)
def nM (a:Nat) (b:Nat→Prop) (c:Nat→Nat) (d:Prd):Prop:=∃(e:Nat),(↑e:Int)=IntKind.i64.wrap ((↑a:Int)+1)∧b e∧c e<c a∧bS d
def m7 (a:Bool→Prop) (b:Prd) (c:Nat) (d:Nat→Prop) (e:Nat→Nat):Prop:=∀(f:Bool),a f→cnd f (∃(g:Unit),b.check=1∧True) (nM c d e b)
def kG (a:Bool→Prop) (b:Bool) (c:Prd):Prop:=a b∧bS c
def yS (a:Bool→Prop) (b:Prd):Prop:=∃(c:Bool),c=true∧kG a c b
def zGx (p:Prd):Prop:=
 ∃(a:List UInt8),sb a=sb p.code∧a.length≤1099511627776∧∀(b:Unit),True→cnd (!wM a) (∃(c:Unit),p.check=12∧True) (∃(c:Bool),∃(d:Bool→Prop),cnd (decide ((xJ p)<2)) (yS d p) (∃(e:Bool),e=decide ((xJ p)>6)∧kG d e p)∧∀(e:Bool),d e→cnd e (∃(f:Unit),p.check=1∧True) (∃(f:Nat),(↑f:Int)=0∧∃(g:Nat→Prop),∃(h:Nat→Nat),g f∧∀(j:Nat),g j→cnd (decide ((↑j:Int)<(xJ p))) (∃(k:Bool),∃(l:Bool→Prop),((0≤(↑j:Int)∧(↑j:Int)<(xJ p))∧∃(m:Int),zF (iE p.months) (↑j:Int).toNat 0 1=some [D.v (.int .i64 m)]∧cnd (decide (m<0)) (yS l p) ((0≤(↑j:Int)∧(↑j:Int)<(xJ p))∧∃(n:Int),zF (iE p.months) (↑j:Int).toNat 0 1=some [D.v (.int .i64 n)]∧cnd (decide (n>1199)) (yS l p) (cnd (decide ((↑j:Int)>0)) ((0≤IntKind.i64.wrap ((↑j:Int)-1)∧IntKind.i64.wrap ((↑j:Int)-1)<(xJ p))∧∃(q:Int),zF (iE p.months) (IntKind.i64.wrap ((↑j:Int)-1)).toNat 0 1=some [D.v (.int .i64 q)]∧(0≤(↑j:Int)∧(↑j:Int)<(xJ p))∧∃(r:Int),zF (iE p.months) (↑j:Int).toNat 0 1=some [D.v (.int .i64 r)]∧∃(s:Bool),s=decide (q≥r)∧kG l s p) (∃(q:Bool),q=false∧kG l q p))))∧m7 l p j g h) (∃(k:Bool),∃(l:Bool→Prop),cnd (decide (p.tick<1)) (yS l p) (cnd (decide (p.tick>1000)) (yS l p) (IntKind.i64=IntKind.i64∧p.tick≠0∧cnd (p.low.tmod p.tick !=0) (yS l p) (IntKind.i64=IntKind.i64∧p.tick≠0∧cnd (p.high.tmod p.tick !=0) (yS l p) (IntKind.i64=IntKind.i64∧p.tick≠0∧∃(m:Bool),m=(p.wide.tmod p.tick !=0)∧kG l m p))))∧∀(m:Bool),l m→cnd m (∃(n:Unit),p.check=22∧True) (∃(n:Nat),(↑n:Int)=0∧∃(q:Nat→Prop),∃(r:Nat→Nat),q n∧∀(s:Nat),q s→cnd (decide ((↑s:Int)<(jY p))) ((0≤(↑s:Int)∧(↑s:Int)<(jY p))∧∃(t:Int),zF (iE p.settle) (↑s:Int).toNat 0 1=some [D.v (.int .i64 t)]∧IntKind.i64=IntKind.i64∧p.tick≠0∧cnd (t.tmod p.tick !=0) (∃(u:Unit),p.check=22∧True) (nM s q r p)) (∃(t:Bool),∃(u:Bool→Prop),cnd (decide (p.low<(-1000000))) (yS u p) (cnd (decide (p.low≥p.high)) (yS u p) (cnd (decide (p.high>1000000)) (yS u p) (cnd (decide (p.wide<0)) (yS u p) (∃(v:Bool),v=decide (p.wide>IntKind.i64.wrap (p.high-p.low))∧kG u v p))))∧∀(v:Bool),u v→cnd v (∃(w:Unit),p.check=23∧True) (cnd ((jY p) !=(xJ p)) (∃(w:Unit),p.check=1∧True) (∃(w:Nat),(↑w:Int)=0∧∃(x:Nat→Prop),∃(y:Nat→Nat),x w∧∀(z:Nat),x z→cnd (decide ((↑z:Int)<(jY p))) (∃(a_1:Bool),∃(a_2:Bool→Prop),((0≤(↑z:Int)∧(↑z:Int)<(jY p))∧∃(a_3:Int),zF (iE p.settle) (↑z:Int).toNat 0 1=some [D.v (.int .i64 a_3)]∧cnd (decide (a_3<p.low)) (yS a_2 p) ((0≤(↑z:Int)∧(↑z:Int)<(jY p))∧∃(a_4:Int),zF (iE p.settle) (↑z:Int).toNat 0 1=some [D.v (.int .i64 a_4)]∧∃(a_5:Bool),a_5=decide (a_4>p.high)∧kG a_2 a_5 p))∧m7 a_2 p z x y) (∃(a_1:Bool),∃(a_2:Bool→Prop),cnd (decide (p.rule<1)) (yS a_2 p) (∃(a_3:Bool),a_3=decide (p.rule>3)∧kG a_2 a_3 p)∧∀(a_3:Bool),a_2 a_3→cnd a_3 (∃(a_4:Unit),p.check=31∧True) (∃(a_4:Bool),∃(a_5:Bool→Prop),cnd (decide (p.top<0)) (yS a_5 p) (cnd (decide (p.top>1000000)) (yS a_5 p) (cnd (decide (p.least<1)) (yS a_5 p) (cnd (decide (p.least>1000)) (yS a_5 p) (cnd (decide (p.part<0)) (yS a_5 p) (∃(a_6:Bool),a_6=decide (p.part>100)∧kG a_5 a_6 p)))))∧∀(a_6:Bool),a_5 a_6→cnd a_6 (∃(a_7:Unit),p.check=24∧True) (∃(a_7:Unit),p.check=0∧True))))))))))
theorem z0v (hG:GOk Tryz.prog ([(101,r3prodC)])) (h:∀(p:Prd),r5checkC.cnd p→zGx p):r5checkC.ok Tryz.prog 77:=okw mixed hG 0 (fun _=>z7h) (fun _=>z5q) [] Tryz.func77 h
def zGa (p:Prd):Prop:=
 ∃(a:Prd),sb a.code=sb p.code∧iE a.months=iE p.months∧a.tick=p.tick∧a.low=p.low∧a.high=p.high∧a.wide=p.wide∧a.rule=p.rule∧a.top=p.top∧a.least=p.least∧a.part=p.part∧iE a.settle=iE p.settle∧(xZ a)∧∀(b:Unit),True→cnd (a.check !=0) (∃(c:Unit),(↑p.count:Int)=0∧True) (IntKind.i64=IntKind.i64∧(2:Int)≠(0:Int)∧∃(c:Unit),(↑p.count:Int)=IntKind.i64.wrap ((xJ p)+IntKind.i64.wrap ((IntKind.i64.wrap ((xJ p)*IntKind.i64.wrap ((xJ p)-1))).tdiv 2))∧True)
theorem z2w (hG:GOk Tryz.prog ([(77,r5checkC)])) (h:∀(p:Prd),r5countC.cnd p→zGa p):r5countC.ok Tryz.prog 46:=okw mixed hG 0 (fun _=>[]) (fun _=>[]) [] Tryz.func46 h
def tV (a:cF):Prop:=Sx.AObj.cells [V.d (D.v (Value.string (sb a.p.code))),V.own 0,V.d (D.v (.int .i64 a.p.tick)),V.d (D.v (.int .i64 a.p.low)),V.d (D.v (.int .i64 a.p.high)),V.d (D.v (.int .i64 a.p.wide)),V.d (D.v (.int .i64 a.p.rule)),V.d (D.v (.int .i64 a.p.top)),V.d (D.v (.int .i64 a.p.least)),V.d (D.v (.int .i64 a.p.part)),V.own ((0:Nat)+(1:Nat))] 29=Sx.AObj.cells [V.d (D.v (Value.string (sb a.p.code))),V.own 0,V.d (D.v (.int .i64 a.p.tick)),V.d (D.v (.int .i64 a.p.low)),V.d (D.v (.int .i64 a.p.high)),V.d (D.v (.int .i64 a.p.wide)),V.d (D.v (.int .i64 a.p.rule)),V.d (D.v (.int .i64 a.p.top)),V.d (D.v (.int .i64 a.p.least)),V.d (D.v (.int .i64 a.p.part)),V.own ((0:Nat)+(1:Nat))] 29∧AObj.fro 1 (iE a.p.settle)=AObj.fro 1 (iE a.p.settle)∧AObj.fro 1 (iE a.p.months)=AObj.fro 1 (iE a.p.months)
def cQ (a:cF):Prop:=∃(b:Unit),(a.p.legs a.n).fst=0∧(a.p.legs a.n).snd.fst=0∧(a.p.legs a.n).snd.snd=false∧True
def uU (a:cF) (b:Nat×Nat):=(↑(z8 a.p.months.length b.fst+b.snd):Int)
def zOm (i:cF):Prop:=
 ∃(a:Prd),sb a.code=sb i.p.code∧iE a.months=iE i.p.months∧a.tick=i.p.tick∧a.low=i.p.low∧a.high=i.p.high∧a.wide=i.p.wide∧a.rule=i.p.rule∧a.top=i.p.top∧a.least=i.p.least∧a.part=i.p.part∧iE a.settle=iE i.p.settle∧(xZ a)∧∀(b:Unit),True→cnd (a.check !=0) (cQ i) (cnd (decide (i.n<0)) (cQ i) (cnd (decide (i.n<(↑(iE i.p.months).length:Int))) (∃(c:Unit),(i.p.legs i.n).fst=i.n∧(i.p.legs i.n).snd.fst=i.n∧(i.p.legs i.n).snd.snd=false∧True) (∃(c:Nat),(↑(z8 i.p.months.length c):Int)=(↑(iE i.p.months).length:Int)∧(↑c:Int)=0∧∃(d:Nat→Prop),∃(e:Nat→Nat),d c∧∀(f:Nat),d f→cnd (decide ((↑f:Int)<(↑(iE i.p.months).length:Int))) (∃(g:Nat×Nat),(uU i g)=(↑(z8 i.p.months.length f):Int)∧(↑g.fst:Int)=(↑f:Int)∧(↑(g.fst+1+g.snd):Int)=IntKind.i64.wrap ((↑f:Int)+1)∧∃(h:Nat×Nat→Prop),∃(j:Nat×Nat→Nat),h g∧∀(k:Nat×Nat),h k→cnd (decide ((↑(k.fst+1+k.snd):Int)<(↑(iE i.p.months).length:Int))) (cnd ((uU i k)==i.n) (∃(l:Unit),(i.p.legs i.n).fst=(↑k.fst:Int)∧(i.p.legs i.n).snd.fst=(↑(k.fst+1+k.snd):Int)∧(i.p.legs i.n).snd.snd=true∧True) (∃(l:Nat×Nat),(uU i l)=IntKind.i64.wrap ((uU i k)+1)∧(↑l.fst:Int)=(↑k.fst:Int)∧(↑(l.fst+1+l.snd):Int)=IntKind.i64.wrap ((↑(k.fst+1+k.snd):Int)+1)∧h l∧j l<j k∧tV i)) (∃(l:Nat),(↑(z8 i.p.months.length l):Int)=(uU i k)∧(↑l:Int)=IntKind.i64.wrap ((↑k.fst:Int)+1)∧d l∧e l<e f∧tV i)) (cQ i))))
theorem z7n (hG:GOk Tryz.prog ([(77,r5checkC)])) (h:∀(i:cF),r5legsC.cnd i→zOm i):r5legsC.ok Tryz.prog 47:=okw mixed hG 0 (fun _=>[]) (fun i=>yBu i) [] Tryz.func47 h
def xA (a:WiI):Prop:=((-9223372036854775808)≤a.n∧a.n≤9223372036854775807)∧(-1000000)≤a.lo∧a.lo≤a.hi∧a.hi≤1000000
def x9 (a:WiI):=((1:Int)+zJ a.n a.lo a.hi)
def gO:=(D.v (Value.string (ByteArray.mk #[])))
def zAm (a:Prd):Prop:=Sx.AObj.cells (Sx.V.agg [V.d gO,V.d (D.v (Value.slice none 0 0)),V.d (D.v (.int .i64 0)),V.d (D.v (.int .i64 0)),V.d (D.v (.int .i64 0)),V.d (D.v (.int .i64 0)),V.d (D.v (.int .i64 0)),V.d (D.v (.int .i64 0)),V.d (D.v (.int .i64 0)),V.d (D.v (.int .i64 0)),V.d (D.v (Value.slice none 0 0))]).cl 29=Sx.AObj.cells (Sx.V.agg [V.d gO,V.d (D.v (Value.slice none 0 0)),V.d (D.v (.int .i64 0)),V.d (D.v (.int .i64 0)),V.d (D.v (.int .i64 0)),V.d (D.v (.int .i64 0)),V.d (D.v (.int .i64 0)),V.d (D.v (.int .i64 0)),V.d (D.v (.int .i64 0)),V.d (D.v (.int .i64 0)),V.d (D.v (Value.slice none 0 0))]).cl 29∧bS a
def zBm (a:Prd) (b:WiI) (c:WiI) (d:WiI) (e:WiI) (f:Unit→Prop):Prop:=∃(g:WiI),g.n=a.part∧g.lo=0∧g.hi=100∧(xA g)∧∀(h:Unit),True→∃(j:Unit),sb [(206:UInt8),(169:UInt8)]=ByteArray.mk #[(206:UInt8),(169:UInt8)]∧True∧yE a=IntKind.i64.wrap (x9 b)∧(-20)*yE a=IntKind.i64.wrap ((-20)*IntKind.i64.wrap (x9 b))∧100*yE a=IntKind.i64.wrap (100*IntKind.i64.wrap (x9 b))∧(0:Int)=(0:Int)∧1+zJ a.rule 0 2=IntKind.i64.wrap (x9 c)∧zJ a.top 0 9=zJ d.n d.lo d.hi∧1+zJ a.least 0 4=IntKind.i64.wrap (x9 e)∧zJ a.part 0 100=zJ g.n g.lo g.hi∧True∧f j∧zAm a
def zAx (a:Prd) (b:WiI) (c:WiI) (d:WiI) (e:WiI) (f:Unit→Prop):Prop:=a.part=a.part∧zBm a b c d e f
def zBr (a:Prd) (b:WiI) (c:WiI) (d:WiI) (e:Unit→Prop):Prop:=a.part=a.part∧a.least=a.least∧∃(f:WiI),f.n=a.least∧f.lo=0∧f.hi=4∧(xA f)∧∀(g:Unit),True→zAx a b c d f e
def zEl (a:Prd) (b:WiI) (c:WiI) (d:Unit→Prop):Prop:=a.part=a.part∧a.least=a.least∧a.top=a.top∧∃(e:WiI),e.n=a.top∧e.lo=0∧e.hi=9∧(xA e)∧∀(f:Unit),True→zBr a b c e d
def zWx (x:Prd):Prop:=
 ∃(a:WiI),a.n=(xJ x)∧a.lo=0∧a.hi=3∧(xA a)∧∀(b:Unit),True→∃(c:WiI),c.n=x.tick∧c.lo=0∧c.hi=9∧(xA c)∧∀(d:Unit),True→∃(e:Unit),∃(f:Unit→Prop),((∃(g:WiI),g.n=x.rule∧g.lo=0∧g.hi=2∧(xA g)∧∀(h:Unit),True→x.part=x.part∧x.least=x.least∧x.top=x.top∧(∃(j:WiI),j.n=x.top∧j.lo=0∧j.hi=9∧(xA j)∧∀(k:Unit),True→x.part=x.part∧x.least=x.least∧(∃(l:WiI),l.n=x.least∧l.lo=0∧l.hi=4∧(xA l)∧∀(m:Unit),True→x.part=x.part∧(zBm x c g j l f)∧zAx x c g j l f)∧zBr x c g j f)∧zEl x c g f)∧x.part=x.part∧x.least=x.least∧x.top=x.top∧x.rule=x.rule∧∃(g:WiI),g.n=x.rule∧g.lo=0∧g.hi=2∧(xA g)∧∀(h:Unit),True→zEl x c g f)∧∀(g:Unit),f g→∃(h:WiI),h.n=x.wide∧h.lo=0∧h.hi=60∧(xA h)∧∀(j:Unit),True→∃(k:Nat),(↑k:Int)=0∧sb [(206:UInt8),(169:UInt8)]=sb [(206:UInt8),(169:UInt8)]∧yE x=yE x∧(-20)*yE x=(-20)*yE x∧100*yE x=100*yE x∧yE x*(5+zJ x.wide 0 60)=IntKind.i64.wrap (IntKind.i64.wrap (x9 c)*IntKind.i64.wrap (5+zJ h.n h.lo h.hi))∧1+zJ x.rule 0 (2:Int)=(1:Int)+zJ x.rule 0 2∧zJ x.top 0 9=zJ x.top 0 (9:Int)∧(1:Int)+zJ x.least 0 (4:Int)=(1:Int)+zJ x.least 0 4∧zJ x.part 0 100=zJ x.part 0 100∧iE (kY k)=[]∧iE (kD (yE x) k)=[]∧∃(l:Nat→Prop),∃(m:Nat→Nat),l k∧∀(n:Nat),l n→cnd (decide ((↑n:Int)<IntKind.i64.wrap (2+zJ a.n a.lo a.hi))) (((iE (kY n)).length+1)*(8:Nat)≤(70368744177664:Nat)∧((iE (kD (yE x) n)).length+1)*(8:Nat)≤(70368744177664:Nat)∧∃(p:Nat),(↑p:Int)=IntKind.i64.wrap ((↑n:Int)+1)∧sb [(206:UInt8),(169:UInt8)]=sb [(206:UInt8),(169:UInt8)]∧yE x=yE x∧(-20)*yE x=(-20)*yE x∧100*yE x=100*yE x∧yE x*(5+zJ x.wide 0 60)=yE x*(5+zJ x.wide 0 60)∧1+zJ x.rule 0 (2:Int)=(1:Int)+zJ x.rule 0 2∧zJ x.top 0 9=zJ x.top 0 (9:Int)∧(1:Int)+zJ x.least 0 (4:Int)=(1:Int)+zJ x.least 0 4∧zJ x.part 0 100=zJ x.part 0 100∧iE (kY p)=iE (kY n)++[[D.v (.int .i64 (IntKind.i64.wrap (IntKind.i64.wrap (10*(↑n:Int))+3)))]]∧iE (kD (yE x) p)=iE (kD (yE x) n)++[[D.v (.int .i64 (IntKind.i64.wrap (IntKind.i64.wrap (x9 c)*IntKind.i64.wrap (10+(↑n:Int)))))]]∧l p∧m p<m n∧zAm x) (∃(p:Unit),sb [(206:UInt8),(169:UInt8)]=sb [(206:UInt8),(169:UInt8)]∧iE (kY (kN x).toNat)=iE (kY n)∧yE x=yE x∧(-20)*yE x=(-20)*yE x∧100*yE x=100*yE x∧yE x*(5+zJ x.wide 0 60)=yE x*(5+zJ x.wide 0 60)∧1+zJ x.rule 0 (2:Int)=(1:Int)+zJ x.rule 0 2∧zJ x.top 0 9=zJ x.top 0 (9:Int)∧(1:Int)+zJ x.least 0 (4:Int)=(1:Int)+zJ x.least 0 4∧zJ x.part 0 100=zJ x.part 0 100∧iE (kD (yE x) (kN x).toNat)=iE (kD (yE x) n)∧True)
theorem yAv (hG:GOk Tryz.prog ([(12,withinC)])) (h:∀(x:Prd),kprodC.cnd x→zWx x):kprodC.ok Tryz.prog 20:=okw mixed hG 0 (fun x=>yHs x) (fun x=>yIk x) [] Tryz.func20 h
open Go Cv Go.Proofs
theorem yAp (s:List UInt8) (h:r3prodC.cnd s):zMb s:=by
 have h:s.length≤1099511627776:=h
 have hr:=zBb s
 unfold zMb sM nD kF cO gK
 refine⟨(0,0),rfl,rfl,rfl,fun x=>x.1≤s.length∧x.2+(uM s x.1).length=(kP s).length∧(kP s).all v7=((uM s x.1).all fun y=>v7 y.2),fun x=>s.length-x.1,⟨by omega,by rw[kP,List.length_map];simp,by rw[kP,List.all_map];rfl⟩,?_⟩
 rintro⟨p,n⟩ ⟨h1,h2,h3⟩
 dsimp only at h1 h2 h3 ⊢
 refine Cv.cnd.mk (fun hp=> ?_) (fun hp=> ?_)
 ·have hp:p<s.length:=by simpa[Nat.blt_eq]using hp
  have hw:=dI s hp
  rw[jV hp,List.length_cons]at h2
  rw[jV hp,List.all_cons]at h3
  generalize hc:(Utf8.decode (sb s) p).1=c at h2 h3 ⊢
  generalize hww:(Utf8.decode (sb s) p).2=w at h2 h3 hw ⊢
  dsimp only at h3
  have g0:∀b:Bool,(b=true→v7 c=true)→(b=false→v7 c=false)→b=v7 c:=fun b e1 e2=>by cases b<;>simp_all
  refine⟨true,fun b=>b= !v7 c,?_,fun b hb=> ?_⟩
  ·refine zK (fun c1=>zK (fun c2=>⟨_,rfl,?_,by(repeat'(first|exact trivial|exact rfl|apply And.intro))⟩) (fun c2=>zK (fun c3=>zK (fun c4=>⟨_,rfl,?_,by(repeat'(first|exact trivial|exact rfl|apply And.intro))⟩) (fun c4=>⟨_,rfl,?_,by(repeat'(first|exact trivial|exact rfl|apply And.intro))⟩)) (fun c3=>⟨_,rfl,?_,by(repeat'(first|exact trivial|exact rfl|apply And.intro))⟩))) (fun c1=>zK (fun c3=>zK (fun c4=>⟨_,rfl,?_,by(repeat'(first|exact trivial|exact rfl|apply And.intro))⟩) (fun c4=>⟨_,rfl,?_,by(repeat'(first|exact trivial|exact rfl|apply And.intro))⟩)) (fun c3=>⟨_,rfl,?_,by(repeat'(first|exact trivial|exact rfl|apply And.intro))⟩))
   all_goals congr 1
   all_goals refine g0 _ (fun e=> ?_) (fun e=> ?_)
   all_goals first|(simp[v7]at*;done)|(simp[v7]at*;omega)
  ·subst hb
   refine Cv.cnd.mk (fun e=>⟨(),?_,trivial⟩) (fun e=>⟨(p+w,n+1),?_,rfl,rfl,⟨hw.2,by(first|omega|(dsimp only;omega)),?_⟩,by(first|omega|(dsimp only;omega)),trivial⟩)
   ·have e:v7 c=false:=by simpa using e
    rw[wM,h3,e];rfl
   ·rw[w64 (by omega)];rfl
   ·have e:v7 c=true:=by simpa using e
    rw[h3,e];rfl
 ·have hp:s.length≤p:=by have:=zYx hp;simpa using this
  rw[gN hp]at h2 h3
  have h3:(kP s).all v7=true:=h3
  have hn:n=(kP s).length:=by simpa using h2
  have hne:(s=[])↔(kP s).length=0:=by
   constructor
   ·intro e;subst e;rfl
   ·intro e
    cases s with
    |nil=>rfl
    |cons b l=>
     rw[kP,List.length_map,jV (by simp)]at e
     simp at e
  refine zK (fun c=>⟨(),?_,trivial⟩) (fun c=>⟨(),?_,trivial⟩)
  ·have:¬s=[]:=by rw[hne];omega
   rw[wM,h3,decide_eq_true this,hn]
   simp only[Bool.true_and]
   congr 1
   simp only[eq_iff_iff];omega
  ·have:s=[]:=by rw[hne];omega
   rw[wM,this];rfl
theorem z1j:r3prodC.ok Tryz.prog 101:=z5y gok0 yAp
theorem aV:∀(l:List Int) (a:Int),l.foldl min a≤a∧∀x∈l,l.foldl min a≤x
 |[],a=>⟨Int.le_refl _,by simp⟩
 |b::l,a=>by
  obtain⟨h1,h2⟩:=aV l (min a b)
  rw[List.foldl_cons]
  refine⟨by omega,fun x hx=> ?_⟩
  rcases List.mem_cons.1 hx with rfl|hx
  ·omega
  ·exact h2 x hx
theorem mD:∀(l:List Int) (a:Int),a≤l.foldl max a∧∀x∈l,x≤l.foldl max a
 |[],a=>⟨Int.le_refl _,by simp⟩
 |b::l,a=>by
  obtain⟨h1,h2⟩:=mD l (max a b)
  rw[List.foldl_cons]
  refine⟨by omega,fun x hx=> ?_⟩
  rcases List.mem_cons.1 hx with rfl|hx
  ·omega
  ·exact h2 x hx
theorem rT:∀(l:List Int) (a:Int),l.foldl min a=a∨l.foldl min a∈l
 |[],a=> .inl rfl
 |b::l,a=>by
  rw[List.foldl_cons]
  rcases rT l (min a b)with h|h
  ·rcases Int.le_total a b with e|e
   ·left;rw[h];omega
   ·right;rw[h,show min a b=b by omega];exact List.mem_cons_self
  ·exact .inr (List.mem_cons_of_mem _ h)
theorem rX:∀(l:List Int) (a:Int),l.foldl max a=a∨l.foldl max a∈l
 |[],a=> .inl rfl
 |b::l,a=>by
  rw[List.foldl_cons]
  rcases rX l (max a b)with h|h
  ·rcases Int.le_total a b with e|e
   ·right;rw[h,show max a b=b by omega];exact List.mem_cons_self
   ·left;rw[h];omega
  ·exact .inr (List.mem_cons_of_mem _ h)
theorem zYz {l:List Int} {x:Int} (h:x∈l):aL l≤x:=by
 cases l with
 |nil=>cases h
 |cons a l=>
  rw[aL,List.tail_cons,List.headD_cons]
  rcases List.mem_cons.1 h with rfl|h
  ·exact(aV l x).1
  ·exact(aV l a).2 x h
theorem zXw {l:List Int} {x:Int} (h:x∈l):x≤mV l:=by
 cases l with
 |nil=>cases h
 |cons a l=>
  rw[mV,List.tail_cons,List.headD_cons]
  rcases List.mem_cons.1 h with rfl|h
  ·exact(mD l x).1
  ·exact(mD l a).2 x h
theorem zSd {l:List Int} (h:l≠[]):aL l∈l:=by
 cases l with
 |nil=>exact absurd rfl h
 |cons a l=>
  rw[aL,List.tail_cons,List.headD_cons]
  rcases rT l a with h|h
  ·rw[h];exact List.mem_cons_self
  ·exact List.mem_cons_of_mem _ h
theorem zQq {l:List Int} (h:l≠[]):mV l∈l:=by
 cases l with
 |nil=>exact absurd rfl h
 |cons a l=>
  rw[mV,List.tail_cons,List.headD_cons]
  rcases rX l a with h|h
  ·rw[h];exact List.mem_cons_self
  ·exact List.mem_cons_of_mem _ h
theorem z8f (p:Prd) (h:r5checkC.cnd p):zGx p:=by
 obtain⟨h1,h2,h3⟩:p.small:=h
 unfold zGx yS kG m7 nM bS xJ jY
 simp only[xI]
 refine⟨p.code,rfl,h1,fun _ _=>Cv.cnd.mk (fun c1=>⟨(),by rw[Prd.check,if_pos c1],trivial⟩) fun c1=> ?_⟩
 have c1:wM p.code=true:=by simpa using c1
 have e1:p.check=if !xH p.months then 1 else if !qQ p then 22 else if qP p then 23 else if xK p then 1 else if kE p then 31 else if qC p then 24 else 0:=by
  rw[Prd.check,if_neg (by simp[c1])]
 refine⟨true,fun b=>b=(decide (p.months.length<2)||decide (p.months.length>6)),zK (fun c=>⟨true,rfl,?_,by(repeat'(first|exact trivial|exact rfl|apply And.intro))⟩) (fun c=>⟨_,rfl,?_,by(repeat'(first|exact trivial|exact rfl|apply And.intro))⟩),fun b hb=> ?_⟩
 ·rw[decide_eq_true (show p.months.length<2 by omega)];rfl
 ·rw[decide_eq_false (show ¬p.months.length<2 by omega),Bool.false_or]
  congr 1;simp only[eq_iff_iff];omega
 subst hb
 refine Cv.cnd.mk (fun c2=> ?_) (fun c2=> ?_)
 ·have:xH p.months=false:=by
   simp only[Bool.or_eq_true,decide_eq_true_eq]at c2
   rw[xH]
   rcases c2 with c2|c2
   ·rw[decide_eq_false (show ¬2≤p.months.length by omega)];simp
   ·rw[decide_eq_false (show ¬p.months.length≤6 by omega)];simp
  exact⟨(),by rw[e1,if_pos (by rw[this];rfl)],trivial⟩
 have c2:2≤p.months.length∧p.months.length≤6:=by
  simp only[Bool.or_eq_false_iff,decide_eq_false_iff_not]at c2;omega
 have em:xH p.months=(List.range p.months.length).all (qW p.months):=by
  rw[xH,decide_eq_true c2.1,decide_eq_true c2.2];simp
 refine⟨0,rfl,fun j=>j≤p.months.length∧∀k<j,qW p.months k=true,fun j=>p.months.length-j,⟨by omega,fun k hk=>by omega⟩,?_⟩
 rintro j ⟨g1,g2⟩
 refine zK (fun hj=> ?_) (fun hj=> ?_)
 ·obtain⟨m,hm⟩:=yA (l:=p.months) (i:=j) (by omega)
  have hmj:p.months.getD j 0=m:=zI hm
  refine⟨true,fun b=>b= !qW p.months j,⟨⟨by omega,by omega⟩,m,elI hm,zK (fun c=>⟨true,rfl,?_,by(repeat'(first|exact trivial|exact rfl|apply And.intro))⟩) (fun c=>⟨⟨by omega,by omega⟩,m,elI hm,zK (fun d=>⟨true,rfl,?_,by(repeat'(first|exact trivial|exact rfl|apply And.intro))⟩) (fun d=>zK (fun e=> ?_) (fun e=>⟨false,rfl,?_,by(repeat'(first|exact trivial|exact rfl|apply And.intro))⟩))⟩)⟩,fun b hb=> ?_⟩
  ·rw[qW,hmj,decide_eq_false (show ¬0≤m by omega)];rfl
  ·rw[qW,hmj,decide_eq_false (show ¬m≤1199 by omega)];simp
  ·obtain⟨m',hm'⟩:=yA (l:=p.months) (i:=j-1) (by omega)
   rw[w64 (by omega),show((j:Int)-1).toNat=j-1 by omega]
   refine⟨⟨by omega,by omega⟩,m',elI hm',⟨by omega,by omega⟩,m,elI hm,_,rfl,?_,by(repeat'(first|exact trivial|exact rfl|apply And.intro))⟩
   rw[qW,hmj,zI hm',decide_eq_true (show 0≤m by omega),decide_eq_true (show m≤1199 by omega),decide_eq_false (show ¬j=0 by omega)]
   simp only[Bool.true_and,Bool.false_or]
   by_cases hlt:m'<m
   ·rw[decide_eq_true hlt,decide_eq_false (by omega)];rfl
   ·rw[decide_eq_false hlt,decide_eq_true (by omega)];rfl
  ·rw[qW,hmj,decide_eq_true (show 0≤m by omega),decide_eq_true (show m≤1199 by omega),decide_eq_true (show j=0 by omega)];rfl
  ·subst hb
   refine Cv.cnd.mk (fun c=>⟨(),?_,trivial⟩) (fun c=>⟨j+1,by rw[w64 (by omega)];rfl,⟨by omega,fun k hk=> ?_⟩,by(first|omega|(dsimp only;omega)),by(repeat'(first|exact trivial|exact rfl|apply And.intro))⟩)
   ·have c:qW p.months j=false:=by simpa using c
    rw[e1,if_pos (by rw[em,zJb (k:=j) (by omega) c];rfl)]
   ·have c:qW p.months j=true:=by simpa using c
    rcases Nat.lt_or_ge k j with h|h
    ·exact g2 k h
    ·obtain rfl:k=j:=by omega
     exact c
 have em:xH p.months=true:=by rw[em];exact zPj fun k hk=>g2 k (by omega)
 have e2:p.check=if !qQ p then 22 else if qP p then 23 else if xK p then 1 else if kE p then 31 else if qC p then 24 else 0:=by
  rw[e1,if_neg (by simp[em])]
 have et:qQ p=((decide (1≤p.tick) && decide (p.tick≤1000) && !qR p.tick p.low && !qR p.tick p.high && !qR p.tick p.wide) && !p.settle.any (qR p.tick)):=rfl
 refine⟨true,fun b=>b= !(decide (1≤p.tick) && decide (p.tick≤1000) && !qR p.tick p.low && !qR p.tick p.high && !qR p.tick p.wide),zK (fun d1=>⟨true,rfl,?_,by(repeat'(first|exact trivial|exact rfl|apply And.intro))⟩) (fun d1=>zK (fun d2=>⟨true,rfl,?_,by(repeat'(first|exact trivial|exact rfl|apply And.intro))⟩) (fun d2=>⟨trivial,by omega,Cv.cnd.mk (fun d3=>⟨true,rfl,?_,by(repeat'(first|exact trivial|exact rfl|apply And.intro))⟩) (fun d3=>⟨trivial,by omega,Cv.cnd.mk (fun d4=>⟨true,rfl,?_,by(repeat'(first|exact trivial|exact rfl|apply And.intro))⟩) (fun d4=>⟨trivial,by omega,_,rfl,?_,by(repeat'(first|exact trivial|exact rfl|apply And.intro))⟩)⟩)⟩)),fun b hb=> ?_⟩
 ·rw[decide_eq_false (show ¬1≤p.tick by omega)];rfl
 ·rw[decide_eq_false (show ¬p.tick≤1000 by omega)];simp
 ·have d3:qR p.tick p.low=true:=d3
  rw[d3];simp
 ·have d4:qR p.tick p.high=true:=d4
  rw[d4];simp
 ·have d3:qR p.tick p.low=false:=d3
  have d4:qR p.tick p.high=false:=d4
  rw[d3,d4,decide_eq_true (show 1≤p.tick by omega),decide_eq_true (show p.tick≤1000 by omega)]
  show qR p.tick p.wide=_
  simp
 subst hb
 refine Cv.cnd.mk (fun c3=> ?_) (fun c3=> ?_)
 ·have c3:(decide (1≤p.tick) && decide (p.tick≤1000) && !qR p.tick p.low && !qR p.tick p.high && !qR p.tick p.wide)=false:=by
   rw[Bool.not_eq_true']at c3
   exact c3
  exact⟨(),by rw[e2,if_pos (by rw[et,c3];rfl)],trivial⟩
 have c3:(decide (1≤p.tick) && decide (p.tick≤1000) && !qR p.tick p.low && !qR p.tick p.high && !qR p.tick p.wide)=true:=by simpa using c3
 have ht1:1≤p.tick:=by
  simp only[Bool.and_eq_true,decide_eq_true_eq]at c3;exact c3.1.1.1.1
 rw[c3,Bool.true_and]at et
 refine⟨0,rfl,fun j=>j≤p.settle.length∧∀k<j,∀x,p.settle[k]? =some x→qR p.tick x=false,fun j=>p.settle.length-j,⟨by omega,fun k hk=>by omega⟩,?_⟩
 rintro j ⟨g1,g2⟩
 refine zK (fun hj=> ?_) (fun hj=> ?_)
 ·obtain⟨m,hm⟩:=yA (l:=p.settle) (i:=j) (by omega)
  refine⟨⟨by omega,by omega⟩,m,elI hm,trivial,by omega,Cv.cnd.mk (fun c=>⟨(),?_,trivial⟩) (fun c=>⟨j+1,by rw[w64 (by omega)];rfl,⟨by omega,fun k hk x hx=> ?_⟩,by(first|omega|(dsimp only;omega)),by(repeat'(first|exact trivial|exact rfl|apply And.intro))⟩)⟩
  ·have c:qR p.tick m=true:=c
   have:p.settle.any (qR p.tick)=true:=by rw[List.any_eq_true];exact⟨m,List.mem_of_getElem? hm,c⟩
   rw[e2,if_pos (by rw[et,this];rfl)]
  ·rcases Nat.lt_or_ge k j with h|h
   ·exact g2 k h x hx
   ·obtain rfl:k=j:=by omega
    rw[hm]at hx;cases hx;exact c
 have et:qQ p=true:=by
  rw[et]
  have:p.settle.any (qR p.tick)=false:=by
   rw[List.any_eq_false]
   intro x hx
   obtain⟨k,hk⟩:=List.getElem?_of_mem hx
   rw[g2 k (by have:=(List.getElem?_eq_some_iff.1 hk).1;omega) x hk];simp
  rw[this];rfl
 have e3:p.check=if qP p then 23 else if xK p then 1 else if kE p then 31 else if qC p then 24 else 0:=by
  rw[e2,if_neg (by simp[et])]
 refine⟨true,fun b=>b=qP p,zK (fun d1=>⟨true,rfl,?_,by(repeat'(first|exact trivial|exact rfl|apply And.intro))⟩) (fun d1=>zK (fun d2=>⟨true,rfl,?_,by(repeat'(first|exact trivial|exact rfl|apply And.intro))⟩) (fun d2=>zK (fun d3=>⟨true,rfl,?_,by(repeat'(first|exact trivial|exact rfl|apply And.intro))⟩) (fun d3=>zK (fun d4=>⟨true,rfl,?_,by(repeat'(first|exact trivial|exact rfl|apply And.intro))⟩) (fun d4=>⟨_,rfl,?_,by(repeat'(first|exact trivial|exact rfl|apply And.intro))⟩)))),fun b hb=> ?_⟩
 ·simp[qP,d1]
 ·simp[qP,d2]
 ·simp[qP,d3]
 ·simp[qP,d4]
 ·rw[w64 (by omega)];simp[qP,d1,d2,d3,d4]
 subst hb
 refine Cv.cnd.mk (fun c4=>⟨(),by rw[e3,if_pos c4],trivial⟩) (fun c4=> ?_)
 have e4:p.check=if xK p then 1 else if kE p then 31 else if qC p then 24 else 0:=by
  rw[e3,if_neg (by simp[c4])]
 refine Cv.cnd.mk (fun d6=>⟨(),?_,trivial⟩) (fun d6=> ?_)
 ·have d6:¬(p.settle.length:Int)=p.months.length:=by simpa using d6
  rw[e4,if_pos (by simp[xK];omega)]
 have d6:p.settle.length=p.months.length:=by
  have:(p.settle.length:Int)=p.months.length:=by simpa using d6
  omega
 have hne:p.settle≠[]:=by intro e;rw[e]at d6;simp at d6;omega
 refine⟨0,rfl,fun j=>j≤p.settle.length∧∀k<j,∀x,p.settle[k]? =some x→p.low≤x∧x≤p.high,fun j=>p.settle.length-j,⟨by omega,fun k hk=>by omega⟩,?_⟩
 rintro j ⟨g3,g4⟩
 refine zK (fun hj=> ?_) (fun hj=> ?_)
 ·obtain⟨m,hm⟩:=yA (l:=p.settle) (i:=j) (by omega)
  have hmm:=List.mem_of_getElem? hm
  refine⟨true,fun b=>b=(decide (m<p.low)||decide (m>p.high)),⟨⟨by omega,by omega⟩,m,elI hm,zK (fun c=>⟨true,rfl,?_,by(repeat'(first|exact trivial|exact rfl|apply And.intro))⟩) (fun c=>⟨⟨by omega,by omega⟩,m,elI hm,_,rfl,?_,by(repeat'(first|exact trivial|exact rfl|apply And.intro))⟩)⟩,fun b hb=> ?_⟩
  ·rw[decide_eq_true c];rfl
  ·rw[decide_eq_false c,Bool.false_or]
  ·subst hb
   refine Cv.cnd.mk (fun c=>⟨(),?_,trivial⟩) (fun c=>⟨j+1,by rw[w64 (by omega)];rfl,⟨by omega,fun k hk x hx=> ?_⟩,by(first|omega|(dsimp only;omega)),by(repeat'(first|exact trivial|exact rfl|apply And.intro))⟩)
   ·have l1:=zYz hmm
    have l2:=zXw hmm
    rw[e4,if_pos (by
     simp only[Bool.or_eq_true,decide_eq_true_eq]at c
     simp only[xK,Bool.or_eq_true,decide_eq_true_eq]
     rcases c with c|c
     ·left;right;omega
     ·right;omega)]
   ·rcases Nat.lt_or_ge k j with h|h
    ·exact g4 k h x hx
    ·obtain rfl:k=j:=by omega
     rw[hm]at hx;cases hx
     simp only[Bool.or_eq_false_iff,decide_eq_false_iff_not]at c
     omega
 have hset:xK p=false:=by
  have all:∀x∈p.settle,p.low≤x∧x≤p.high:=fun x hx=>by
   obtain⟨k,hk⟩:=List.getElem?_of_mem hx
   exact g4 k (by have:=(List.getElem?_eq_some_iff.1 hk).1;omega) x hk
  have a1:=all _ (zSd hne)
  have a2:=all _ (zQq hne)
  simp only[xK,Bool.or_eq_false_iff,decide_eq_false_iff_not]
  omega
 have e5:p.check=if kE p then 31 else if qC p then 24 else 0:=by
  rw[e4,if_neg (by simp[hset])]
 refine⟨true,fun b=>b=kE p,zK (fun d1=>⟨true,rfl,?_,by(repeat'(first|exact trivial|exact rfl|apply And.intro))⟩) (fun d1=>⟨_,rfl,?_,by(repeat'(first|exact trivial|exact rfl|apply And.intro))⟩),fun b hb=> ?_⟩
 ·simp[kE,d1]
 ·simp[kE,d1]
 subst hb
 refine Cv.cnd.mk (fun c6=>⟨(),by rw[e5,if_pos c6],trivial⟩) (fun c6=> ?_)
 have e6:p.check=if qC p then 24 else 0:=by rw[e5,if_neg (by simp[c6])]
 refine⟨true,fun b=>b=qC p,zK (fun d1=>⟨true,rfl,?_,by(repeat'(first|exact trivial|exact rfl|apply And.intro))⟩) (fun d1=>zK (fun d2=>⟨true,rfl,?_,by(repeat'(first|exact trivial|exact rfl|apply And.intro))⟩) (fun d2=>zK (fun d3=>⟨true,rfl,?_,by(repeat'(first|exact trivial|exact rfl|apply And.intro))⟩) (fun d3=>zK (fun d4=>⟨true,rfl,?_,by(repeat'(first|exact trivial|exact rfl|apply And.intro))⟩) (fun d4=>zK (fun d5=>⟨true,rfl,?_,by(repeat'(first|exact trivial|exact rfl|apply And.intro))⟩) (fun d5=>⟨_,rfl,?_,by(repeat'(first|exact trivial|exact rfl|apply And.intro))⟩))))),fun b hb=> ?_⟩
 ·simp[qC,d1]
 ·simp[qC,d2]
 ·simp[qC,d3]
 ·simp[qC,d4]
 ·simp[qC,d5]
 ·simp[qC,d1,d2,d3,d4,d5]
 subst hb
 exact Cv.cnd.mk (fun c7=>⟨(),by rw[e6,if_pos c7],trivial⟩) (fun c7=>⟨(),by rw[e6,if_neg (by simp[c7])],trivial⟩)
theorem zEy:r5checkC.ok Tryz.prog 77:=z0v (gokc z1j gok0) z8f
theorem uT {p:Prd} (h:p.check=0):p.count=p.months.length+p.months.length*(p.months.length-1) / 2:=by rw[Prd.count,if_pos h]
theorem zFy {p:Prd} (h:p.check≠0):p.count=0:=by rw[Prd.count,if_neg h]
theorem z5k (p:Prd) (h:r5countC.cnd p):zGa p:=by
 have hs:p.small:=h
 unfold zGa xJ xZ
 simp only[xI]
 refine⟨p,rfl,rfl,rfl,rfl,rfl,rfl,rfl,rfl,rfl,rfl,rfl,hs,fun _ _=>Cv.cnd.mk (fun c=>⟨(),?_,trivial⟩) (fun c=>⟨trivial,by decide,(),?_,trivial⟩)⟩
 ·rw[zFy (by simpa using c)];rfl
 ·have c:p.check=0:=by simpa using c
  have m6:=(qY c).m6
  have m2:=(qY c).m2
  rw[uT c]
  generalize p.months.length=n at*
  have:n=2∨n=3∨n=4∨n=5∨n=6:=by omega
  rcases this with rfl|rfl|rfl|rfl|rfl<;>decide
theorem zTp:r5countC.ok Tryz.prog 46:=z2w (gokc zEy gok0) z5k
theorem zSj:∀n≤6,∀a<n,∀b<n-1-a,kA n (z8 n a+b) n 0=((a:Int),((a+1+b:Nat):Int),true)∧z8 n a+b<n+n*(n-1) / 2∧n≤z8 n a+b:=by decide
theorem z2k:∀n≤6,z8 n n=n+n*(n-1) / 2:=by decide
theorem zYu {p:Prd} (h:p.check=0) {a b:Nat} (ha:a<p.months.length) (hb:b<p.months.length-1-a):p.legs ((z8 p.months.length a+b:Nat):Int)=((a:Int),((a+1+b:Nat):Int),true):=by
 obtain⟨h1,h2,h3⟩:=zSj _ (qY h).m6 a ha b hb
 rw[Prd.legs,if_neg (by rw[uT h];omega),if_neg (by omega),Int.toNat_natCast]
 exact h1
theorem yCd (i:cF) (h:r5legsC.cnd i):zOm i:=by
 have hs:i.p.small:=h
 unfold zOm tV uU cQ xZ
 simp only[xI]
 refine⟨i.p,rfl,rfl,rfl,rfl,rfl,rfl,rfl,rfl,rfl,rfl,rfl,hs,fun _ _=>Cv.cnd.mk (fun c=> ?_) (fun c=>zK (fun c1=> ?_) (fun c1=>zK (fun c2=> ?_) (fun c2=> ?_)))⟩
 ·rw[Prd.legs,if_pos (by rw[zFy (by simpa using c)];omega)];(repeat'(first|exact rfl|exact trivial|assumption|apply And.intro|refine fun(_:Unit) (_:True)=>?_|refine Exists.intro () ?_|omega|(dsimp only;omega)))
 ·rw[Prd.legs,if_pos (.inl c1)];(repeat'(first|exact rfl|exact trivial|assumption|apply And.intro|refine fun(_:Unit) (_:True)=>?_|refine Exists.intro () ?_|omega|(dsimp only;omega)))
 ·have c:i.p.check=0:=by simpa using c
  rw[Prd.legs,if_neg (by rw[uT c];omega),if_pos c2];(repeat'(first|exact rfl|exact trivial|assumption|apply And.intro|refine fun(_:Unit) (_:True)=>?_|refine Exists.intro () ?_|omega|(dsimp only;omega)))
 ·have c:i.p.check=0:=by simpa using c
  have m6:=(qY c).m6
  obtain⟨k,hk⟩:∃k:Nat,i.n=k:=⟨i.n.toNat,by omega⟩
  have sp:=fun(a b:Nat) ha hb=>zYu (p:=i.p) c (a:=a) (b:=b) ha hb
  have fe:=z2k _ m6
  have out:i.p.count≤k→i.p.legs (k:Int)=(0,0,false):=fun e=>by rw[Prd.legs,if_pos (by omega)]
  rw[uT c,← fe]at out
  rw[hk]at c2 ⊢
  generalize hn:i.p.months.length=n at*
  refine⟨0,rfl,rfl,fun m=>m≤n∧z8 n m≤k,fun m=>n-m,⟨by omega,by show n≤k;omega⟩,?_⟩
  rintro m ⟨g1,g2⟩
  have hf:=zIk m6 g1
  refine zK (fun c4=> ?_) (fun c4=> ?_)
  ·refine⟨(m,0),rfl,rfl,by rw[w64 (by omega)];simp,fun x=>x.1=m∧x.2≤n-1-m∧z8 n m+x.2≤k,fun x=>n-1-m-x.2,⟨rfl,by(first|omega|(dsimp only;omega)),by(first|omega|(dsimp only;omega))⟩,?_⟩
   rintro⟨a,b⟩ ⟨g3,g4,g5⟩
   dsimp only at g3 g4 g5 ⊢
   subst g3
   refine zK (fun c5=>Cv.cnd.mk (fun e=> ?_) (fun e=> ?_)) (fun c5=> ?_)
   ·have e:((z8 n a+b:Nat):Int)=(k:Int):=by simpa using e
    have:=sp a b (by omega) (by omega)
    rw[e]at this
    rw[this];(repeat'(first|exact rfl|exact trivial|assumption|apply And.intro|refine fun(_:Unit) (_:True)=>?_|refine Exists.intro () ?_|omega|(dsimp only;omega)))
   ·have e:¬((z8 n a+b:Nat):Int)=(k:Int):=by simpa using e
    refine⟨(a,b+1),?_,rfl,?_,⟨rfl,by(first|omega|(dsimp only;omega)),by(first|omega|(dsimp only;omega))⟩,by(first|omega|(dsimp only;omega)),by(repeat'(first|exact trivial|exact rfl|apply And.intro))⟩
    ·rw[w64 (by omega)];dsimp only;omega
    ·rw[w64 (by omega)];dsimp only;omega
   ·refine⟨a+1,?_,by rw[w64 (by omega)];rfl,⟨by omega,?_⟩,by(first|omega|(dsimp only;omega)),by(repeat'(first|exact trivial|exact rfl|apply And.intro))⟩
    ·rw[z8];omega
    ·rw[z8];omega
  ·obtain rfl:m=n:=by omega
   rw[out g2];(repeat'(first|exact rfl|exact trivial|assumption|apply And.intro|refine fun(_:Unit) (_:True)=>?_|refine Exists.intro () ?_|omega|(dsimp only;omega)))
theorem z0m:r5legsC.ok Tryz.prog 47:=z7n (gokc zEy gok0) yCd
theorem zPl {p:Prd} (h:p.check=0) {i:Int} (h0:0≤i) (h1:i<p.count):(p.legs i).2.2=decide ((p.months.length:Int)≤i):=by
 by_cases hl:i<p.months.length
 ·rw[Prd.legs,if_neg (by omega),if_pos hl,decide_eq_false (by omega)]
 ·have m6:=(qY h).m6
  rw[decide_eq_true (by omega),Prd.legs,if_neg (by omega),if_neg hl]
  rw[uT h]at h1
  obtain⟨k,rfl⟩:∃k:Nat,i=k:=⟨i.toNat,by omega⟩
  have fin:∀n≤6,∀k<n+n*(n-1) / 2,n≤k→(kA n k n 0).2.2=true:=by decide
  exact fin _ m6 k (by omega) (by omega)
theorem zOu (x:Prd):1≤yE x∧yE x≤10:=by
 have:=xO (n:=x.tick) (lo:=0) (hi:=9) (by omega)
 rw[yE];omega
theorem z8o (x:Prd):2≤kN x∧kN x≤5:=by
 have:=xO (n:=(x.months.length:Int)) (lo:=0) (hi:=3) (by omega)
 rw[kN];omega
theorem zGo {a b m n:Int} (ha:0≤a∧a≤m) (hb:0≤b∧b≤n):0≤a*b∧a*b≤m*n:=by
 refine⟨Int.mul_nonneg ha.1 hb.1,?_⟩
 exact Int.le_trans (Int.mul_le_mul_of_nonneg_right ha.2 hb.1) (Int.mul_le_mul_of_nonneg_left hb.2 (by omega))
theorem zLx (j:Nat):iE (kY (j+1))=iE (kY j)++[[D.v (.int .i64 (10*(j:Int)+3))]]:=by
 rw[kY,List.range_succ,List.map_append,iE,List.map_append];rfl
theorem zNn (t:Int) (j:Nat):iE (kD t (j+1))=iE (kD t j)++[[D.v (.int .i64 (t*(10+(j:Int))))]]:=by
 rw[kD,List.range_succ,List.map_append,iE,List.map_append];rfl
theorem pB (j:Nat):(kY j).length=j:=by simp[kY]
theorem cR (t:Int) (j:Nat):(kD t j).length=j:=by simp[kD]
theorem yJj (x:Prd) (h:kprodC.cnd x):zWx x:=by
 obtain⟨h1,h2,h3,h4,h5,h6,h7⟩:x.raw:=h
 have hw: -1000000≤(0:Int):=by decide
 have bt:=xO (n:=x.tick) (lo:=0) (hi:=9) (by omega)
 have bw:=xO (n:=x.wide) (lo:=0) (hi:=60) (by omega)
 have br:=xO (n:=x.rule) (lo:=0) (hi:=2) (by omega)
 have bl:=xO (n:=x.least) (lo:=0) (hi:=4) (by omega)
 have bn:=xO (n:=(x.months.length:Int)) (lo:=0) (hi:=3) (by omega)
 have kt:=zOu x
 have kn:=z8o x
 have w1:IntKind.i64.wrap (1+zJ x.tick 0 9)=yE x:=w64 (by omega)
 have w2:IntKind.i64.wrap (-20*IntKind.i64.wrap (1+zJ x.tick 0 9))= -20*yE x:=by rw[w1];exact w64 (by omega)
 have w3:IntKind.i64.wrap (100*IntKind.i64.wrap (1+zJ x.tick 0 9))=100*yE x:=by rw[w1];exact w64 (by omega)
 have w4:IntKind.i64.wrap (1+zJ x.rule 0 2)=1+zJ x.rule 0 2:=w64 (by omega)
 have w5:IntKind.i64.wrap (1+zJ x.least 0 4)=1+zJ x.least 0 4:=w64 (by omega)
 have w6:IntKind.i64.wrap (2+zJ x.months.length 0 3)=kN x:=w64 (by omega)
 have mb:=zGo (a:=yE x) (b:=5+zJ x.wide 0 60) (m:=10) (n:=65) (by omega) (by omega)
 have w7:IntKind.i64.wrap (IntKind.i64.wrap (1+zJ x.tick 0 9)*IntKind.i64.wrap (5+zJ x.wide 0 60))=yE x*(5+zJ x.wide 0 60):=by
  rw[w1,w64 (x:=5+zJ x.wide 0 60) (by omega)];exact w64 (by omega)
 unfold zWx zEl zBr zAx zBm zAm bS gO x9 xA xJ
 simp only[xI]
 refine⟨⟨x.months.length,0,3⟩,rfl,rfl,rfl,⟨⟨by dsimp only;omega,by dsimp only;omega⟩,by dsimp only;omega,by dsimp only;omega,by dsimp only;omega⟩,fun _ _=>⟨⟨x.tick,0,9⟩,rfl,rfl,rfl,⟨h1,by dsimp only;omega,by dsimp only;omega,by dsimp only;omega⟩,fun _ _=> ?_⟩⟩
 dsimp only
 refine⟨(),fun _=>True,?_,fun _ _=> ?_⟩
 ·repeat'(first|exact trivial|exact rfl|exact w1.symm|exact w2.symm|exact w3.symm|exact w4.symm|exact w5.symm|apply And.intro|refine⟨⟨x.rule,0,2⟩,rfl,rfl,rfl,⟨h3,by dsimp only;omega,by dsimp only;omega,by dsimp only;omega⟩,fun _ _=> ?_⟩|refine⟨⟨x.top,0,9⟩,rfl,rfl,rfl,⟨h4,by dsimp only;omega,by dsimp only;omega,by dsimp only;omega⟩,fun _ _=> ?_⟩|refine⟨⟨x.least,0,4⟩,rfl,rfl,rfl,⟨h5,by dsimp only;omega,by dsimp only;omega,by dsimp only;omega⟩,fun _ _=> ?_⟩|refine⟨⟨x.part,0,100⟩,rfl,rfl,rfl,⟨h6,by dsimp only;omega,by dsimp only;omega,by dsimp only;omega⟩,fun _ _=> ?_⟩|refine⟨(),?_⟩)
 ·refine⟨⟨x.wide,0,60⟩,rfl,rfl,rfl,⟨h2,by dsimp only;omega,by dsimp only;omega,by dsimp only;omega⟩,fun _ _=> ?_⟩
  dsimp only
  rw[w7,w6]
  refine⟨0,by(first|exact rfl|exact trivial),by(first|exact rfl|exact trivial),by(first|exact rfl|exact trivial),by(first|exact rfl|exact trivial),by(first|exact rfl|exact trivial),by(first|exact rfl|exact trivial),by(first|exact rfl|exact trivial),by(first|exact rfl|exact trivial),by(first|exact rfl|exact trivial),by(first|exact rfl|exact trivial),by(first|exact rfl|exact trivial),by(first|exact rfl|exact trivial),fun j=>j≤(kN x).toNat,fun j=>(kN x).toNat-j,by omega,?_⟩
  intro j hj
  rw[pB,cR]
  refine zK (fun c=>⟨by omega,by omega,j+1,by rw[w64 (by omega)];rfl,by(first|exact rfl|exact trivial),by(first|exact rfl|exact trivial),by(first|exact rfl|exact trivial),by(first|exact rfl|exact trivial),by(first|exact rfl|exact trivial),by(first|exact rfl|exact trivial),by(first|exact rfl|exact trivial),by(first|exact rfl|exact trivial),by(first|exact rfl|exact trivial),?_,?_,by(first|omega|(dsimp only;omega)),by(first|omega|(dsimp only;omega)),by(repeat'(first|exact trivial|exact rfl|apply And.intro))⟩) (fun c=>⟨(),?_⟩)
  ·rw[zLx,w64 (x:=10*(j:Int)) (by omega),w64 (by omega)]
  ·have mj:=zGo (a:=yE x) (b:=10+(j:Int)) (m:=10) (n:=20) (by omega) (by omega)
   rw[zNn,w1,w64 (x:=10+(j:Int)) (by omega),w64 (by omega)]
  ·have e:(kN x).toNat=j:=by omega
   rw[e];(repeat'(first|exact trivial|exact rfl|apply And.intro))
theorem kprod_ok:kprodC.ok Tryz.prog 20:=yAv (gokc zJn gok0) yJj
open Go Cv Go.Proofs
structure Cmd where
 kind:Int
 id:Int
 inst:Int
 side:Int
 price:Int
 qty:Int
 least:Int
 time:Int
 label:List UInt8
 deriving DecidableEq
@[reducible] def Cmd.cells (c:Cmd):List V:=[zB c.kind,zB c.id,zB c.inst,zB c.side,zB c.price,zB c.qty,zB c.least,zB c.time,sV c.label]
@[reducible] def zIx (c:Cmd):V:= .agg c.cells
def cmdE (c:Cmd):List D:=[.v (.int .i64 c.kind),.v (.int .i64 c.id),.v (.int .i64 c.inst),.v (.int .i64 c.side),.v (.int .i64 c.price),.v (.int .i64 c.qty),.v (.int .i64 c.least),.v (.int .i64 c.time),.v (.string (sb c.label))]
@[reducible] def Cmd.raw (c:Cmd):Prop:=yQ c.kind∧yQ c.id∧yQ c.inst∧yQ c.side∧yQ c.price∧yQ c.qty∧yQ c.least∧yQ c.time
structure TmI where
 p:Prd
 c:Cmd
 i:Int
def c0 (c:Cmd):Int:=if 4<1+zJ c.kind 0 8 then 1 else 1+zJ c.kind 0 8
def xE (t:TmI):Cmd:=⟨c0 t.c,1+zJ t.c.id 0 30,zJ t.c.inst 0 (t.p.count-1),1+zJ t.c.side 0 1,t.p.tick*zJ t.c.price 0 9,1+zJ t.c.qty 0 11,0,0,[]⟩
def cY (c:Cmd):Int:=if c.time.tmod 5=3 then 3 else if c.time.tmod 5=2 then 2 else 1
def rG (c:Cmd) (q:Int):Int:=if c.least.tmod 4=1 then zJ c.least 0 q else 0
def qX (t:TmI):Cmd:=
 let h:=xE t
 if h.kind=1 then{h with id:=t.i+1,time:=cY t.c,least:=rG t.c h.qty,price:=if(t.p.legs h.inst).2.2=true then h.price-4*t.p.tick else h.price+8*t.p.tick}
 else{h with price:=if h.kind=4 then h.price+5*t.p.tick else h.price,side:=0,inst:=0}
def tameC:Con:=con1 TmI (fun t=>[prdV t.p,zIx t.c,zB t.i]) (fun _=>[]) (fun t=>t.p.check=0∧t.p.small∧t.c.raw∧0≤t.i∧t.i≤1000000) (fun t=>zIx (qX t)) (fun _=>[])
def cj (k:Nat):Nat×SAnn:=(k,{ι:=Cmd,slots:=fun _=>[(7,.nm 0 0)],slots0:=fun _=>[(7,.nm 0 0)],rows0:=fun c=>[.cells c.cells 35],rows:=fun c=>[.cells c.cells 35]})
def yMt:List (Nat×SAnn):=[cj 14,cj 54,cj 62,cj 70]
structure AbI where
 x:Prd
 l:List Cmd
def Top.pr (t:Top) (s:Nat):Int:=if s=0 then t.p1 else t.p2
def Top.hs (t:Top) (s:Nat):Bool:=if s=0 then t.has1 else t.has2
structure B2 where
 a:Bool
 b:Bool
end Sx
