/- Texts of ours, one behind the other: a walk that the kernel reckons, and contracts of functions. No condition. -/
import Derived.Laws.AppendOwn
import Derived.Lib.AppendZerosOnto
import Derived.Lib.Overlaps
import Derived.Test.YtpgpnnncaidcjaaGreatM5
namespace Sx
set_option linter.unusedSimpArgs false
set_option linter.unusedVariables false
open Go Go.RowKit Cv
theorem cN {P:Program} {dT sT ty e sz by_:Nat} {z:Array Value} (hi:jO P dT=some (e,sz,by_,z)) {w:World} {g o dLen dCap b so sLen sCap n:Nat} {cur src:List Value} {T T':TypeId} {fr:Nat×Nat}
 (hg:w.heap[g]? =some (.cells cur.toArray T (0,0))) (hs:w.heap[b]? =some (.cells src.toArray T' fr)) (hn:Nat.min sLen dLen=n) (h1:so+n*sz≤src.length) (h2:o+n*sz≤cur.length)
 (hone:∀v∈(src.drop so).take (n*sz),v.oneC=true):
 j9 P (Builtin.copy_ #[dT,sT] ty #[.slice (some ⟨g,o,none⟩) dLen dCap,.slice (some ⟨b,so,none⟩) sLen sCap]) w (.int .i64 n) (World.setB w g (.cells (spl cur o ((src.drop so).take (n*sz))).toArray T (0,0))):=by
 obtain⟨i,zv,q1,q2,rfl,rfl,q5,rfl⟩:=qI hi
 have hl:((src.drop so).take (n*i.size)).length=n*i.size:=by rw[List.length_take,List.length_drop];omega
 have hst:=x5 (P:=P) ((src.drop so).take (n*i.size)) 0 o cur w hg (by rw[hl];omega) hone
 simp only[Nat.add_zero]at hst
 unfold j9 Builtin.copy_
 simp only[List.getElem?_toArray,List.getElem?_cons_zero,List.getElem?_cons_succ,bind,pure,run_bind,Sem.bind,Sem.run,Cv.run_underlying q1,Cv.run_sizeOf q2,Builtin.lenOf,hn,Builtin.firstCells,jV hs h1,hst]
 rfl
theorem Hp.apart {k:Ko} {w:World} {b c:Nat} {o o':Obj} {L:List HP} (H:Hp k w (pt b o::pt c o'::L)):b≠c:=by
 obtain⟨hk,hs,hh⟩:=H
 cases hh with
 |cons ha hsub hd hr=>
  cases hr with
  |cons hb hsub2 hd2 hr2=>
   intro e
   subst e
   have:=hd _ List.mem_cons_self b
   rw[show _=one b o from ha,show _=one b o' from hb]at this
   simp[one]at this
def z6s (P:Program) (tS tI sz fO fR:Nat) (s:Option Addr) (sn sk:Nat) (i:Int) (v:Option Addr) (vn vk:Nat) (w:World) (R:Ending→World→Prop):Prop:=
slN s sn sk (some i) none sz fun a1 na1 ka1=>
cnd (((vn:Int):Int)==0) (
R (.returned (.slice s sn sk)) w) (
cnd ((i:Int)==(sn:Int)) (
∃(a2:Option Addr) (na2 ka2:Nat),∃w3:World,j9 P (Builtin.append_ #[tS,tS] tS #[.slice s sn sk,.slice v vn vk]) w (.slice a2 na2 ka2) w3∧
R (.returned (.slice a2 na2 ka2)) w3) (
cnd (decide ((IntKind.i64.wrap ((sn:Int)+(vn:Int)):Int)>(sk:Int))) (
slN s sn sk none (some i) sz fun a4 na4 ka4=>
∃(a5:Option Addr) (na5 ka5:Nat),∃w6:World,j9 P (Builtin.append_ #[tS,tI] tS #[.slice a4 na4 ka4,.int .i64 (IntKind.i64.wrap (IntKind.i64.wrap ((sn:Int)+(vn:Int))-i))]) w (.slice a5 na5 ka5) w6∧
slN a5 na5 ka5 (some i) none sz fun a7 na7 ka7=>
∃x8:Int,∃w9:World,j9 P (Builtin.copy_ #[tS,tS] tI #[.slice a7 na7 ka7,.slice v vn vk]) w6 (.int .i64 x8) w9∧
DrewN w9 fun w10=>
slN a5 na5 ka5 (some (IntKind.i64.wrap (i+(vn:Int)))) none sz fun a11 na11 ka11=>
slN s sn sk (some i) none sz fun a12 na12 ka12=>
∃x13:Int,∃w14:World,j9 P (Builtin.copy_ #[tS,tS] tI #[.slice a11 na11 ka11,.slice a12 na12 ka12]) w10 (.int .i64 x13) w14∧
R (.returned (.slice a5 na5 ka5)) w14) (
slN s sn sk none (some (IntKind.i64.wrap ((sn:Int)+(vn:Int)))) sz fun a15 na15 ka15=>
slN a15 na15 ka15 (some (IntKind.i64.wrap (i+(vn:Int)))) none sz fun a16 na16 ka16=>
∃c17:Bool,∃w18:World,Cv.Ext P fO #[.slice v vn vk,.slice a16 na16 ka16] w (.bool c17) w18∧
cnd (!c17) (
DrewN w18 fun w19=>
slN a15 na15 ka15 (some (IntKind.i64.wrap (i+(vn:Int)))) none sz fun a20 na20 ka20=>
slN a15 na15 ka15 (some i) none sz fun a21 na21 ka21=>
∃x22:Int,∃w23:World,j9 P (Builtin.copy_ #[tS,tS] tI #[.slice a20 na20 ka20,.slice a21 na21 ka21]) w19 (.int .i64 x22) w23∧
slN a15 na15 ka15 (some i) none sz fun a24 na24 ka24=>
∃x25:Int,∃w26:World,j9 P (Builtin.copy_ #[tS,tS] tI #[.slice a24 na24 ka24,.slice v vn vk]) w23 (.int .i64 x25) w26∧
R (.returned (.slice a15 na15 ka15)) w26) (
slN a15 na15 ka15 (some (sn:Int)) none sz fun a27 na27 ka27=>
∃x28:Int,∃w29:World,j9 P (Builtin.copy_ #[tS,tS] tI #[.slice a27 na27 ka27,.slice v vn vk]) w18 (.int .i64 x28) w29∧
slN a15 na15 ka15 (some i) none sz fun a30 na30 ka30=>
Calls P fR #[.slice a30 na30 ka30,.int .i64 (vn:Int)] w29 fun e32 w31=>e32= .returned (.tuple #[])∧
R (.returned (.slice a15 na15 ka15)) w31))))
theorem zSa {α:Type} {l m:Nat} {xs r ys:List α} (hl:l≤xs.length) (hy:ys.length=m) (hr:m≤r.length):
 ((xs++r).take (l+m)++xs.drop l++(xs++r).drop (l+m+(xs.drop l).length)).take l++ys++((xs++r).take (l+m)++xs.drop l++(xs++r).drop (l+m+(xs.drop l).length)).drop (l+ys.length)=(xs.take l++ys++xs.drop l)++r.drop m:=by
 have e1:(xs++r).drop (l+m+(xs.drop l).length)=r.drop m:=by
  rw[List.length_drop,show l+m+(xs.length-l)=xs.length+m by omega,List.drop_append]
  simp
 have e2:((xs++r).take (l+m)++xs.drop l++r.drop m).take l=xs.take l:=by
  rw[List.append_assoc,List.take_append_of_le_length (by rw[List.length_take,List.length_append];omega),List.take_take,Nat.min_eq_left (by omega),List.take_append_of_le_length hl]
 have e3:((xs++r).take (l+m)++xs.drop l++r.drop m).drop (l+ys.length)=xs.drop l++r.drop m:=by
  have:((xs++r).take (l+m)).length=l+m:=by rw[List.length_take,List.length_append];omega
  rw[List.append_assoc,hy,List.drop_append,this,Nat.sub_self,List.drop_zero,List.drop_eq_nil_of_le (by omega),List.nil_append]
 rw[e1,e2,e3]
 simp
theorem zCp (A Z Y:List Value):spl (A++Z) A.length Y=A++Y++Z.drop Y.length:=by
 simp only[spl]
 rw[List.take_left,List.drop_append]
 simp
theorem nJ {b o n c i:Nat} (h:c≠i):(if c=i then(some ⟨b,o,none⟩:Option Addr)else(some ⟨b,o,none⟩:Option Addr).map (·.add n))=some ⟨b,o+n,none⟩:=by
 rw[if_neg h,Option.map_some,jQ]
def zEd (P:Program) (fO:Nat):Prop:=∀(w:World) (va sb so la ca lb cb:Nat) (c c':Array Value) (T T':TypeId),va≠sb→w.heap[va]?=some (.cells c T (0,0))→w.heap[sb]?=some (.cells c' T' (0,0))→c'.size≠0→
 Cv.Ext P fO #[.slice (some ⟨va,0,none⟩) la ca,.slice (some ⟨sb,so,none⟩) lb cb] w (.bool false) w
theorem z3c {P : Program} {fO tS tB e sz by_ : Nat} {z : Array Value} {fn : Func} (hf : P.funcs[fO]? = some fn) (hname : (fn.name == "runtime.NumGoroutine") = false) (hb : fn.body.isNone = true) (hn : Extern.findNext fn = none) (he : Extern.find fn = some (Extern.SlicesOverlaps.overlaps #[tS, tS] #[tB]))
 (hi:jO P tS=some (e,sz,by_,z)):zEd P fO:=by
 obtain⟨i,zv,q1,q2,rfl,rfl,q5,rfl⟩:=qI hi
 intro w va sb so la ca lb cb c c' T T' hne h1 h2 h3
 unfold Cv.Ext
 rw[run_callFunc_extern hf hname hb hn he,Lib.run_overlaps_apart w tS tB e q1 i.size (fun w=>Cv.run_sizeOf q2 w) ⟨va,0,none⟩ ⟨sb,so,none⟩ la ca lb cb hne T T' c.size c'.size (by simp[World.shape?,h1]) (by simp[World.shape?,h2]) h3 (by simp[World.frozen?,h1]) (by simp[World.frozen?,h1])]
 rfl
theorem yFk {P:Program} {tS tI e sz by_ fO fR:Nat} {z:Array Value} (hi:jO P tS=some (e,sz,by_,z)) (hz:z.size=sz) (hby:0<by_) (hsz:0<sz) (h2:zLo P tS=true) (hti:P.underlying tI=some (.int .i64)) (hov:zEd P fO)
 {k:Ko} {w:World} {L:List HP} {s v:Option Addr} {sn sk vn vk i:Nat} {xs ys:List Value} (H:Hp k w (slO e sz s sn sk xs::slO e sz v vn vk ys::L)) (h1:∀u∈xs,u.oneC=true) (hy:∀u∈ys,u.oneC=true) (hin:i≤sn) (hv:0<vn)
 (hb:(sn+vn)*by_≤70368744177664):
 z6s P tS tI sz fO fR s sn sk i v vn vk w fun en w'=>∃a kk,en= .returned (.slice a (sn+vn) kk)∧Hp k w' (slO e sz a (sn+vn) kk (xs.take (i*sz)++ys++xs.drop (i*sz))::slO e sz v vn vk ys::L):=by
 obtain⟨hxl,hnk⟩:=H.len
 obtain⟨hyl,hvk⟩:=H.swap.len
 have hnm:sn+vn≤70368744177664:=Nat.le_trans (Nat.le_mul_of_pos_right _ hby) hb
 have w1:IntKind.i64.wrap ((sn:Int)+(vn:Int))=((sn+vn:Nat):Int):=by rw[Cv.wrap_i64 (by omega) (by omega)];simp
 have w2:IntKind.i64.wrap ((i:Int)+(vn:Int))=((i+vn:Nat):Int):=by rw[Cv.wrap_i64 (by omega) (by omega)];simp
 have w3:IntKind.i64.wrap (((sn+vn:Nat):Int)-(i:Int))=((sn+vn-i:Nat):Int):=by rw[Cv.wrap_i64 (by omega) (by omega)];omega
 have hle:i*sz≤xs.length:=by rw[hxl];exact Nat.mul_le_mul_right _ hin
 have htl:(xs.take (i*sz)).length=i*sz:=by rw[List.length_take];omega
 have hdl:(xs.drop (i*sz)).length=(sn-i)*sz:=by rw[List.length_drop,hxl,Nat.sub_mul]
 have hsum:(i+vn)*sz=i*sz+vn*sz:=Nat.add_mul _ _ _
 have hsum2:(sn+vn)*sz=i*sz+vn*sz+(sn-i)*sz:=by rw[← Nat.add_mul,← Nat.add_mul];congr 1;omega
 have hfin:(xs.take (i*sz)++ys++xs.drop (i*sz)).length=(sn+vn)*sz:=by
  rw[List.length_append,List.length_append,htl,hyl,hdl,hsum2]
 unfold z6s
 simp only[slN,w1,w2,w3,Int.toNat_natCast]
 refine⟨⟨by omega,by omega,hnk⟩,Cv.cnd.mk (fun c=>absurd c (by simp;omega)) fun _=>Cv.cnd.mk (fun c=> ?_) fun c=>Cv.cnd.mk (fun hc=> ?_) fun hc=> ?_⟩
 ·have c:i=sn:=by have:(i:Int)=(sn:Int):=by simpa using c
                  omega
  subst c
  obtain⟨a',c',w',r1,r2⟩:=H.append (rt:=tS) hi h2 (x:= .slice v vn vk) (m:=vn) (ys:=ys) (.inl ⟨v,vk,rfl,H.swap.satR⟩) hy hz hby hb
  refine⟨a',_,c',w',r1,a',c',rfl,?_⟩
  rw[List.take_of_length_le (by omega),List.drop_eq_nil_of_le (by omega),List.append_nil]
  exact r2
 ·have c:i<sn:=by have:¬(i:Int)=(sn:Int):=by simpa using c
                  omega
  have hc:sk<sn+vn:=by have:=of_decide_eq_true hc;omega
  obtain⟨inf,zv,q1,q2,q3,q4,q5,q6⟩:=qI hi
  subst q3 q4 q6
  rcases H.slcases with⟨_,e0,_⟩|⟨b,r,rfl,g1,g2,g3,H0⟩
  ·omega
  rcases H0.swap.slcases with⟨_,e0,_⟩|⟨vb,rv,rfl,g4,g5,g6,H1⟩
  ·omega
  have hold:(Builtin.firstCells inf.size i (.slice (some ⟨b,0,none⟩) i sk)).run P w.drew= .ok (xs.take (i*inf.size)).toArray w.drew:=by
   have hbk:=(H1.drew).swap.get
   have:=jV (P:=P) (o:=0) (n:=i*inf.size) hbk (by rw[List.length_append];omega)
   unfold Builtin.firstCells
   rw[this,List.drop_zero,List.take_append_of_le_length hle]
  have hfit2:=tX (need:=sn+vn) (cap:=sk) (by omega)
  have hfit3:=Nat.mul_le_mul_right inf.bytes hfit2
  have e2:2*(sn+vn)*inf.bytes=2*((sn+vn)*inf.bytes):=by rw[Nat.mul_assoc]
  have hkb:(sn+vn-i)*inf.bytes≤(sn+vn)*inf.bytes:=Nat.mul_le_mul_right _ (by omega)
  have hgr:=Lib.run_append_grow_zeros (P:=P) w tS tI tS e inf zv .i64 .i64 q1 hti q2 q5 (some ⟨b,0,none⟩) i sk (xs.take (i*inf.size)) hold (sn+vn-i) (by omega) hsz (by omega) (by omega) (by omega) (by rw[show i+(sn+vn-i)=sn+vn by omega];omega)
  rw[show i+(sn+vn-i)=sn+vn by omega]at hgr
  have hG:sn+vn≤grownCap w (sn+vn) sk e:=grownCap_ge w (sn+vn) sk e
  generalize grownCap w (sn+vn) sk e=G at hgr hG
  have harr:(xs.take (i*inf.size)).toArray++Builtin.zeroCells zv.cells (sn+vn-i)++Builtin.zeroCells zv.cells (G-(sn+vn))=(xs.take (i*inf.size)++((Builtin.zeroCells zv.cells (sn+vn-i)).toList++(Builtin.zeroCells zv.cells (G-(sn+vn))).toList)).toArray:=by
   apply Array.ext';simp
  rw[harr]at hgr
  have hZl:((Builtin.zeroCells zv.cells (sn+vn-i)).toList++(Builtin.zeroCells zv.cells (G-(sn+vn))).toList).length=(sn+vn-i)*inf.size+(G-(sn+vn))*inf.size:=by
   rw[List.length_append,Array.length_toList,Array.length_toList,size_zeroCells,size_zeroCells,hz]
  generalize (Builtin.zeroCells zv.cells (sn+vn-i)).toList++(Builtin.zeroCells zv.cells (G-(sn+vn))).toList=Z at hgr hZl
  have hZ2:(sn+vn-i)*inf.size=vn*inf.size+(sn-i)*inf.size:=by rw[← Nat.add_mul];congr 1;omega
  have H2:=(H1.drew).new (.cells (xs.take (i*inf.size)++Z).toArray e)
  have hB:w.drew.heap.size=w.heap.size:=rfl
  rw[hB]at H2
  have hc1:=cN (P:=P) (sT:=tS) (ty:=tI) hi (g:=w.heap.size) (o:=0+i*inf.size) (dLen:=sn+vn-i) (dCap:=G-i) (b:=vb) (so:=0) (sLen:=vn) (sCap:=vk) (n:=vn) H2.get H2.swap.get (Nat.min_eq_left (by omega)) (by rw[List.length_append];omega) (by rw[List.length_append,htl,hZl];omega) (by
   rw[List.drop_zero,List.take_append_of_le_length (by omega),List.take_of_length_le (by omega)];exact hy)
  rw[List.drop_zero,List.take_append_of_le_length (by omega),List.take_of_length_le (show ys.length≤vn*inf.size by omega),Nat.zero_add]at hc1
  have es1:spl (xs.take (i*inf.size)++Z) (i*inf.size) ys=xs.take (i*inf.size)++ys++Z.drop ys.length:=by
   have:=zCp (xs.take (i*inf.size)) Z ys
   rwa [htl]at this
  rw[es1]at hc1
  have H3:=(H2.upd (.cells (xs.take (i*inf.size)++ys++Z.drop ys.length).toArray e)).drew
  have hg4:(xs++r).drop (i*inf.size)=xs.drop (i*inf.size)++r:=List.drop_append_of_le_length hle
  have hc2:=cN (P:=P) (sT:=tS) (ty:=tI) hi (g:=w.heap.size) (o:=0+(i+vn)*inf.size) (dLen:=sn+vn-(i+vn)) (dCap:=G-(i+vn)) (b:=b) (so:=0+i*inf.size) (sLen:=sn-i) (sCap:=sk-i) (n:=sn-i) H3.get H3.swap.drop.swap.get (Nat.min_eq_left (by omega)) (by rw[List.length_append,hxl,Nat.zero_add,← Nat.add_mul];exact Nat.le_trans (Nat.mul_le_mul_right _ (by omega)) (Nat.le_add_right _ _)) (by
   rw[List.length_append,List.length_append,htl,hyl,List.length_drop,hZl];omega) (by
   rw[Nat.zero_add,hg4,List.take_append_of_le_length (by omega),List.take_of_length_le (by omega)]
   exact fun u hu=>h1 u (List.mem_of_mem_drop hu))
  rw[Nat.zero_add,Nat.zero_add,hg4,List.take_append_of_le_length (by omega),List.take_of_length_le (show(xs.drop (i*inf.size)).length≤(sn-i)*inf.size by omega)]at hc2
  have es2:spl (xs.take (i*inf.size)++ys++Z.drop ys.length) ((i+vn)*inf.size) (xs.drop (i*inf.size))=xs.take (i*inf.size)++ys++xs.drop (i*inf.size)++(Z.drop ys.length).drop (xs.drop (i*inf.size)).length:=by
   have:=zCp (xs.take (i*inf.size)++ys) (Z.drop ys.length) (xs.drop (i*inf.size))
   rwa [show(xs.take (i*inf.size)++ys).length=(i+vn)*inf.size by rw[List.length_append,htl,hyl,hsum]]at this
  rw[es2]at hc2
  refine⟨⟨by omega,by omega⟩,_,_,_,_,hgr,?_⟩
  rw[nJ (show G≠i by omega),Nat.zero_add]
  refine⟨⟨by omega,by omega,hG⟩,_,_,hc1,?_⟩
  rintro _ rfl
  rw[nJ (show G≠i+vn by omega),nJ (show sk≠i by omega),Nat.zero_add,Nat.zero_add]
  refine⟨⟨by omega,by omega,hG⟩,⟨by omega,by omega,hnk⟩,_,_,hc2,_,_,rfl,?_⟩
  have H4:=H3.upd (.cells (xs.take (i*inf.size)++ys++xs.drop (i*inf.size)++(Z.drop ys.length).drop (xs.drop (i*inf.size)).length).toArray e)
  have H5:=H4.slmk (n:=sn+vn) (c:=G) (sz:=inf.size) hfin (by
   rw[List.length_append,hfin,List.length_drop,List.length_drop,hZl,hyl,hdl]
   have:G*inf.size=(sn+vn)*inf.size+(G-(sn+vn))*inf.size:=by rw[← Nat.add_mul];congr 1;omega
   omega) hG
  have H6:=H5.swap.slmk (n:=vn) (c:=vk) (sz:=inf.size) g4 g5 g6
  exact(H6.swap.perm (List.Perm.trans ((List.Perm.swap _ _ _).cons _) (List.Perm.swap _ _ _))).drop
 ·have c:i<sn:=by have:¬(i:Int)=(sn:Int):=by simpa using c
                  omega
  have hc:sn+vn≤sk:=by have:=of_decide_eq_false hc;omega
  rcases H.slcases with⟨_,e0,_⟩|⟨b,r,rfl,g1,g2,g3,H0⟩
  ·omega
  rcases H0.swap.slcases with⟨_,e0,_⟩|⟨vb,rv,rfl,g4,g5,g6,H1⟩
  ·omega
  have hrl:vn*sz≤r.length:=by
   have e1:(sn+vn)*sz≤sk*sz:=Nat.mul_le_mul_right _ hc
   rw[List.length_append,g1]at g2
   rw[Nat.add_mul]at e1
   omega
  have H2:=H1.swap
  have hne:vb≠b:=Hp.apart H1
  have hg4:(xs++r).drop (i*sz)=xs.drop (i*sz)++r:=List.drop_append_of_le_length hle
  have hex:=hov w vb b (0+(i+vn)*sz) vn vk (sn+vn-(i+vn)) (sk-(i+vn)) (ys++rv).toArray (xs++r).toArray e e hne H1.get H2.get (by
   rw[List.size_toArray,List.length_append,g1]
   have:=Nat.mul_pos (show 0<sn by omega) hsz
   omega)
  have H3:=H2.drew
  have hc1:=cN (P:=P) (sT:=tS) (ty:=tI) hi (g:=b) (o:=0+(i+vn)*sz) (dLen:=sn+vn-(i+vn)) (dCap:=sk-(i+vn)) (b:=b) (so:=0+i*sz) (sLen:=sn+vn-i) (sCap:=sk-i) (n:=sn-i) H3.get H3.get (by rw[show sn+vn-(i+vn)=sn-i by omega];exact Nat.min_eq_right (by omega)) (by
   rw[List.length_append,g1,Nat.zero_add,← Nat.add_mul];exact Nat.le_trans (Nat.mul_le_mul_right _ (by omega)) (Nat.le_add_right _ _)) (by
   rw[List.length_append,g1,Nat.zero_add,← Nat.add_mul,show i+vn+(sn-i)=sn+vn by omega,Nat.add_mul];omega) (by
   rw[Nat.zero_add,hg4,List.take_append_of_le_length (by omega),List.take_of_length_le (by omega)]
   exact fun u hu=>h1 u (List.mem_of_mem_drop hu))
  rw[Nat.zero_add,Nat.zero_add,hg4,List.take_append_of_le_length (by omega),List.take_of_length_le (show(xs.drop (i*sz)).length≤(sn-i)*sz by omega)]at hc1
  have H4:=H3.upd (.cells (spl (xs++r) ((i+vn)*sz) (xs.drop (i*sz))).toArray e)
  have hcl:(spl (xs++r) ((i+vn)*sz) (xs.drop (i*sz))).length=(xs++r).length:=by
   simp only[spl,List.length_append,List.length_take,hdl]
   rw[List.length_drop,List.length_append,g1,hsum]
   have:sn*sz=i*sz+(sn-i)*sz:=by rw[← Nat.add_mul];congr 1;omega
   omega
  have hc2:=cN (P:=P) (sT:=tS) (ty:=tI) hi (g:=b) (o:=0+i*sz) (dLen:=sn+vn-i) (dCap:=sk-i) (b:=vb) (so:=0) (sLen:=vn) (sCap:=vk) (n:=vn) H4.get H4.swap.get (Nat.min_eq_left (by omega)) (by rw[List.length_append];omega) (by
   rw[hcl,List.length_append,Nat.zero_add];omega) (by
   rw[List.drop_zero,List.take_append_of_le_length (by omega),List.take_of_length_le (by omega)];exact hy)
  rw[List.drop_zero,List.take_append_of_le_length (by omega),List.take_of_length_le (show ys.length≤vn*sz by omega),Nat.zero_add]at hc2
  have es:spl (spl (xs++r) ((i+vn)*sz) (xs.drop (i*sz))) (i*sz) ys=(xs.take (i*sz)++ys++xs.drop (i*sz))++r.drop (vn*sz):=by
   have:=zSa (l:=i*sz) (m:=vn*sz) (xs:=xs) (r:=r) (ys:=ys) hle hyl hrl
   simp only[spl,hsum]
   exact this
  rw[es]at hc2
  refine⟨⟨by omega,by omega⟩,⟨by omega,by omega,by omega⟩,false,w,?_,Cv.cnd.mk (fun _=> ?_) (fun c=>absurd c (by decide))⟩
  ·rw[nJ (show sk≠i+vn by omega)];exact hex
  rintro _ rfl
  rw[nJ (show sk≠i+vn by omega),nJ (show sk≠i by omega),Nat.zero_add,Nat.zero_add]
  refine⟨⟨by omega,by omega,by omega⟩,⟨by omega,by omega,by omega⟩,_,_,hc1,⟨by omega,by omega,by omega⟩,_,_,hc2,_,_,rfl,?_⟩
  have H5:=H4.upd (.cells (xs.take (i*sz)++ys++xs.drop (i*sz)++r.drop (vn*sz)).toArray e)
  have H6:=H5.slmk (n:=sn+vn) (c:=sk) (sz:=sz) hfin (by
   rw[List.length_append,hfin,List.length_drop,← g2,List.length_append,g1,Nat.add_mul]
   omega) hc
  exact(H6.swap.slmk (n:=vn) (c:=vk) (sz:=sz) g4 g5 g6).swap
structure zYu where
 els:List (List D)
 el:List D
 i:Nat
def z2g (e sz by_:Nat):Con where
 ι:=zYu
 pat:=fun i=>[.own 0,.d (.v (.int .i64 i.i)),.own 1]
 pre:=fun i=>[.own e sz i.els,.own e sz [i.el]]
 cnd:=fun i=>i.i≤i.els.length∧(i.els.length+1)*by_≤70368744177664
 alts:=fun i=>[{o:=Unit,res:=fun _=> .own 2,post:=fun _=>[.gone,.gone,.own e sz (i.els.take i.i++i.el::i.els.drop i.i)],rel:=fun _=>True}]
theorem insX_ok {P:Program} (hm:P.follows .mixedOrders=true) {tS tI e sz by_ fI fO fR:Nat} {z:Array Value} {fn:Func} {c:Code} (hf:P.funcs[fI]? =some fn) (hb:fn.body=some c) (hbd:jB P fI=true) (hok:okC fn.ntmps c=true) (hfx:okF [] c=true) (hsz3:Nat.ble 3 fn.ntmps=true)
 (hi:jO P tS=some (e,sz,by_,z)) (hz:z.size=sz) (hby:0<by_) (hsz:0<sz) (h2:zLo P tS=true) (hti:P.underlying tI=some (.int .i64)) (hov:zEd P fO)
 (heq:∀(s:Option Addr) (sn sk:Nat) (i:Int) (v:Option Addr) (vn vk:Nat) (w:World) (R:Ending→World→Prop),z6s P tS tI sz fO fR s sn sk i v vn vk w R=cwp P [] c (zDt P fn R) (jH [.slice s sn sk,.int .i64 i,.slice v vn vk]) w):
 (z2g e sz by_).ok P fI:=by
 intro i hc k L E w ys R hv
 obtain⟨c1,c2⟩:i.i≤i.els.length∧(i.els.length+1)*by_≤70368744177664:=hc
 simp only[z2g,VRL,VR,DR]at hv
 obtain⟨y0,_,rfl,⟨l0,e0,_⟩,y1,_,rfl,⟨rfl,_⟩,y2,_,rfl,⟨l2,e2,_⟩,rfl⟩:=hv
 obtain⟨s,sk,xs,sub0,g1,hxs,hu,H⟩:=R.ownOpen (n:=0) (t:=e) (sz:=sz) (els:=i.els) rfl
 rw[e0]at g1;cases g1
 have hk2:∃v vk zs,y2= .slice v 1 vk∧DRL E.F i.el zs∧i.el.length=sz∧Hp k w (slO e sz s i.els.length sk xs::slO e sz v 1 vk zs::fz E.F::L):=by
  obtain⟨hk,hs,hh⟩:=H
  cases hh with
  |cons ha hsub hd hr=>
   simp only[z2g,wA,jC,List.map_cons,List.map_nil,List.cons_append,List.nil_append]at hr
   cases hr with
   |cons hb2 hsub2 hd2 hr2=>
    rcases hb2 with⟨q,_⟩|⟨⟨hv2,sub2⟩,q1,q2⟩
    ·cases q
    ·simp only at q1
     rw[e2]at q1;cases q1
     simp only[rowHP]at q2
     obtain⟨a,kk,zs,rfl,q3,q4,q5⟩:=q2
     simp only[List.flatten_cons,List.flatten_nil,List.append_nil]at q3
     exact⟨a,kk,zs,rfl,q3,q4 _ List.mem_cons_self,hk,_,.cons ha hsub hd (.cons q5 hsub2 hd2 hr2)⟩
 obtain⟨v,vk,zs,rfl,hzs,hel,H2⟩:=hk2
 have hv:=yFk (fR:=fR) (fO:=fO) hi hz hby hsz h2 hti hov (i:=i.i) H2 hxs.one hzs.one c1 (by omega) c2
 have hcall:=pN (args:=[.slice s i.els.length sk,.int .i64 i.i,.slice v 1 vk]) hm hf hb [] hok hfx hsz3 (heq s i.els.length sk i.i v 1 vk w _) hv
 refine bW hbd (hcall.mono ?_)
 rintro en w' ⟨a,kk,rfl,H3⟩
 have H4:Hp k w' (slO e sz a (i.els.take i.i++i.el::i.els.drop i.i).length kk (xs.take (i.i*sz)++zs++xs.drop (i.i*sz))::(([]:List (Nat×AObj)).map (rHP E)++fz E.F::L)):=by
  have:(i.els.take i.i++i.el::i.els.drop i.i).length=i.els.length+1:=by
   rw[List.length_append,List.length_cons,List.length_take,List.length_drop];omega
  rw[this]
  exact H3.swap.drop
 obtain⟨E',r1,r2,r3⟩:=uF (nx:=2) R.nx (by
  rw[List.flatten_append,List.flatten_cons,← gO i.i hu,← gG i.i hu,← List.append_assoc]
  exact((hxs.take _).append hzs).append (hxs.drop _)) (fun x hx=>by
   rcases List.mem_append.1 hx with hx|hx
   ·exact hu x (List.mem_of_mem_take hx)
   ·rcases List.mem_cons.1 hx with rfl|hx
    ·exact hel
    ·exact hu x (List.mem_of_mem_drop hx)) H4
 have hl:(i.els.take i.i++i.el::i.els.drop i.i).length=i.els.length+1:=by
  rw[List.length_append,List.length_cons,List.length_take,List.length_drop];omega
 rw[hl]at r3
 refine⟨_,rfl,_,List.mem_singleton.2 rfl,(),trivial,E',r1,r3,⟨r2.nx,?_⟩⟩
 have q1:=((@jX k w' True _).2 ⟨trivial,r2.hp⟩).imp (B:=rHP E' (1,.gone)) fun x hx=> .inl ⟨rfl,hx.2⟩
 have q2:=((@jX k w' True _).2 ⟨trivial,q1⟩).imp (B:=rHP E' (0,.gone)) fun x hx=> .inl ⟨rfl,hx.2⟩
 exact q2
set_option maxRecDepth 100000
open Go Cv Go.Proofs
def bbetterC:Con:=con1 I3' (fun i=>[zD i.side,zD i.x,zD i.y]) (fun _=>[]) (fun _=>True) (fun i=>yJ (btr i.side i.x i.y)) (fun _=>[])
@[reducible] def yCo (s:Slot):V:= .agg [yJ s.used,zD s.n,zD s.id,zD s.qty,yJ s.top,zD s.queue,zD s.ahead,zD s.back]
def pushFC:Con:=con1 Slot (fun s=>[yCo s]) (fun _=>[]) (fun _=>True) (fun s=>yJ (!s.used)) (fun _=>[])
def yX (l:List Slot):Int:=pQ (l.findIdx? fun s=> !s.used)
def idxSlotC:Con:=con1 (List Slot) (fun _=>[.own 0,.fn 146 [] []]) (fun l=>[.own 193 8 (l.map zK)]) (fun l=>l.length≤1000000) (fun l=>zD (yX l)) (fun l=>[.own 193 8 (l.map zK)])
def zYm (l:List Slot):List SAnn:=[{ι:=Nat,slots:=fun j=>[(8,zD j)],rows:=fun _=>[]}]
def uB:qC:=⟨-1,-1,0,0⟩
def Arena.openQ (a:Arena):Arena:={a with queues:=a.queues++[uB]}
def aopenC:Con:=con1 Arena (fun _=>[.nm 0 0]) (fun a=>[qP a]) (fun a=>a.queues.length≤1000000) (fun a=>zD a.queues.length) (fun a=>[qP a.openQ])
structure zMj where
 a:Arena
 n:Int
 t:Bool
def Arena.usedAt (a:Arena) (n:Int):Bool:=decide (0≤n) && (decide (n<a.slots.length) && (a.slots.getD n.toNat slot0).used)
def Arena.topF (a:Arena) (n:Int) (t:Bool):Arena:=if a.usedAt n=true then{a with slots:=a.slots.modify n.toNat fun s=>{s with top:=t}}else a
def atopC:Con:=con1 zMj (fun i=>[.nm 0 0,zD i.n,yJ i.t]) (fun i=>[qP i.a]) (fun i=>i.a.slots.length≤1000000) (fun i=>zD (if i.a.usedAt i.n=true then 0 else 26)) (fun i=>[qP (i.a.topF i.n i.t)])
structure PuI where
 a:Arena
 n:Int
 id:Int
 qty:Int
 top:Bool
def Arena.put (a:Arena) (n id qty:Int) (top:Bool):Arena:=
 let q:=a.queues.getD n.toNat uB
 let k:=yX a.slots
 let sl:=a.slots.set k.toNat ⟨true,k,id,qty,top,n,q.last,-1⟩
 ⟨if q.last= -1 then sl else sl.modify q.last.toNat fun s=>{s with back:=k},a.queues.set n.toNat ⟨if q.last= -1 then k else q.first,k,IntKind.i64.wrap (q.total+qty),IntKind.i64.wrap (q.count+1)⟩,IntKind.i64.wrap (a.free-1)⟩
def Arena.push (a:Arena) (n id qty:Int) (top:Bool):Arena×Int×Int:=
 if n<0∨a.queues.length≤n then(a,0,26)else if qty<1∨1000000<qty then(a,0,24)else if a.free=0 then(a,0,13)else(a.put n id qty top,yX a.slots,0)
def Arena.fit (a:Arena):Prop:=a.slots.length≤1000000∧(a.free≠0→∃s∈a.slots,s.used=false)∧∀q∈a.queues,q.last= -1∨(0≤q.last∧q.last<a.slots.length)
def apushC:Con:=con1 PuI (fun i=>[.nm 0 0,zD i.n,zD i.id,zD i.qty,yJ i.top]) (fun i=>[qP i.a]) (fun i=>i.a.fit) (fun i=> .tup [zD (i.a.push i.n i.id i.qty i.top).2.1,zD (i.a.push i.n i.id i.qty i.top).2.2]) (fun i=>[qP (i.a.push i.n i.id i.qty i.top).1])
@[reducible] def pH (b:Book):List AObj:=[zN b 0,zN b 1,zN b 2,zN b 3,zN b 4,zN b 5]
structure BkP where
 b:Book
 price:Int
def zS (s:Int) (l:List yZ) (price:Int):Nat:=(l.takeWhile fun r=>btr s r.price price).length
def xQ (s:Int) (l:List yZ) (price:Int):Bool:=match l[zS s l price]? with
 |some r=>decide (r.price=price)
 |none=>false
def Book.rungs (b:Book) (s:Int):List yZ:=if s=1 then b.buys else b.sells
def zWn (s:Int):Con:=con1 BkP (fun i=>[.nm 0 0,zD s,zD i.price]) (fun i=>pH i.b) (fun i=>i.b.small) (fun i=> .tup [zD (zS s (i.b.rungs s) i.price),yJ (xQ s (i.b.rungs s) i.price)]) (fun i=>pH i.b)
def find1C:Con:=zWn 1
def find2C:Con:=zWn 2
def z5u:List SAnn:=[{ι:=Nat,slots:=fun j=>[(9,zD j)],rows:=fun _=>[]}]
def pget (l:List (Int×Place)) (k:Int):Option Place:=(l.find? fun x=>decide (x.1=k)).map (·.2)
def gW (k:Int) (v:Place):List (Int×Place)→List (Int×Place)
 |[]=>[(k,v)]
 |(a,b)::l=>if k=a then(a,v)::l else(a,b)::gW k v l
structure LdI where
 b:Book
 id:Int
def Book.hasF (b:Book) (s:Int):Bool:=if s=1 then b.has1 else b.has2
def Book.topI (b:Book) (s:Int):Int:=if s=1 then b.top1 else b.top2
def Book.untop (b:Book) (s:Int):Arena:=if b.hasF s=true then(match pget b.at_ (b.topI s)with
 |some o=>if o.side=s then b.a.topF o.slot false else b.a
 |none=>b.a)else b.a
def Book.leadF (b:Book) (id s:Int):Book:=if s=1 then{b with a:=b.untop s,top1:=id,has1:=true}else{b with a:=b.untop s,top2:=id,has2:=true}
def zXg (s:Int):Con:=con1 LdI (fun i=>[.nm 0 0,zD i.id,zD s]) (fun i=>pH i.b) (fun i=>i.b.small) (fun _=>zHe) (fun i=>pH (i.b.leadF i.id s))
def lead1C:Con:=zXg 1
def lead2C:Con:=zXg 2
def Book.newQ (b:Book):Int×List Int×Arena:=if b.spare.length=0 then(b.a.queues.length,b.spare,b.a.openQ)else(b.spare.getD (b.spare.length-1) 0,b.spare.take (b.spare.length-1),b.a)
def Book.ins (b:Book) (s price:Int):List yZ:=(b.rungs s).take (zS s (b.rungs s) price)++⟨price,b.newQ.1⟩::(b.rungs s).drop (zS s (b.rungs s) price)
def Book.queueF (b:Book) (s price:Int):Book×Int:=
 if xQ s (b.rungs s) price=true then(b,((b.rungs s).getD (zS s (b.rungs s) price) ⟨0,0⟩).queue)
 else(if s=1 then{b with a:=b.newQ.2.2,buys:=b.ins s price,spare:=b.newQ.2.1}else{b with a:=b.newQ.2.2,sells:=b.ins s price,spare:=b.newQ.2.1},b.newQ.1)
def z4y (b:Book):AObj:= .cells [.nm 1 0,.own 6,.own 3,.mp 4,zD b.top1,zD b.top2,.own 7,yJ b.has1,yJ b.has2] 144
def z1c (b:Book):AObj:= .cells [.nm 1 0,.own 2,.own 6,.mp 4,zD b.top1,zD b.top2,.own 7,yJ b.has1,yJ b.has2] 144
@[reducible] def z9x (b:Book):List AObj:=[z4y b,zN b 1,.gone,zN b 3,zN b 4,.gone,zN b 2,zN b 5]
@[reducible] def z7e (b:Book):List AObj:=[z1c b,zN b 1,zN b 2,.gone,zN b 4,.gone,zN b 3,zN b 5]
@[reducible] def Book.fit (b:Book):Prop:=b.a.fit∧b.a.queues.length≤100000∧b.buys.length≤100000∧b.sells.length≤100000∧b.spare.length≤100000
def queue1C:Con:=con1 BkP (fun i=>[.nm 0 0,zD 1,zD i.price]) (fun i=>pH i.b) (fun i=>i.b.fit) (fun i=>zD (i.b.queueF 1 i.price).2) (fun i=>z9x (i.b.queueF 1 i.price).1)
def queue2C:Con:=con1 BkP (fun i=>[.nm 0 0,zD 2,zD i.price]) (fun i=>pH i.b) (fun i=>i.b.fit) (fun i=>zD (i.b.queueF 2 i.price).2) (fun i=>z7e (i.b.queueF 2 i.price).1)
def insRC:Con:=z2g 147 2 16
open Go Cv Go.Proofs
def zHr (i:I3'):Prop:=
 cnd (i.side==1) (∃(o:Unit),btr i.side i.x i.y=decide (i.x>i.y)∧True) (∃(o:Unit),btr i.side i.x i.y=decide (i.x<i.y)∧True)
theorem zQq (hG:GOk Tryz.prog ([])) (h:∀(i:I3'),bbetterC.cnd i→zHr i):bbetterC.ok Tryz.prog 111:=okw mixed hG 0 (fun _=>[]) (fun _=>[]) [] Tryz.func111 h
def zWt (s:Slot):Prop:=
 ∃(o:Unit),(!s.used)=!s.used∧True
theorem z2s (hG:GOk Tryz.prog ([])) (h:∀(s:Slot),pushFC.cnd s→zWt s):pushFC.ok Tryz.prog 146:=okw mixed hG 0 (fun _=>[]) (fun _=>[]) [] Tryz.func146 h
def sF (l:List Slot):Prop:=
 ∃(i0:Nat),(↑i0:Int)=0∧∃(I:Nat→Prop),∃(μ:Nat→Nat),I i0∧∀(i:Nat),I i→cnd (decide ((↑i:Int)<(↑(List.map zK l).length:Int))) ((0≤(↑i:Int)∧(↑i:Int)<(↑(List.map zK l).length:Int))∧∃(b:Bool),∃(n:Int),∃(n_1:Int),∃(n_2:Int),∃(b_1:Bool),∃(n_3:Int),∃(n_4:Int),∃(n_5:Int),zH (List.map zK l) (↑i:Int).toNat 0 8=some [D.v (.bool b),D.v (.int .i64 n),D.v (.int .i64 n_1),D.v (.int .i64 n_2),D.v (.bool b_1),D.v (.int .i64 n_3),D.v (.int .i64 n_4),D.v (.int .i64 n_5)]∧∃(i_1:Slot),i_1.used=b∧i_1.n=n∧i_1.id=n_1∧i_1.qty=n_2∧i_1.top=b_1∧i_1.queue=n_3∧i_1.ahead=n_4∧i_1.back=n_5∧True∧∀(o:Unit),True→cnd (!i_1.used) (∃(o:Unit),yX l=(↑i:Int)∧List.map zK l=List.map zK l∧True) (∃(i':Nat),(↑i':Int)=IntKind.i64.wrap ((↑i:Int)+1)∧I i'∧μ i'<μ i∧AObj.own 193 8 (List.map zK l)=AObj.own 193 8 (List.map zK l))) (∃(o:Unit),yX l=(-1)∧List.map zK l=List.map zK l∧True)
theorem zRr (hG:GOk Tryz.prog ([(146,pushFC)])) (h:∀(l:List Slot),idxSlotC.cnd l→sF l):idxSlotC.ok Tryz.prog 145:=okw mixed hG 0 (fun _=>[]) (fun l=>zYm l) [] Tryz.func145 h
def zZl (a:Arena):Prop:=
 ((List.map zG a.queues).length+1)*(32:Nat)≤(70368744177664:Nat)∧∃(o:Unit),(↑a.queues.length:Int)=IntKind.i64.wrap ((↑(List.map zG a.queues++[[D.v (.int .i64 (-1)),D.v (.int .i64 (-1)),D.v (.int .i64 0),D.v (.int .i64 0)]]).length:Int)-1)∧a.free=a.free∧List.map zK a.slots=List.map zK a.slots∧List.map zG (a.queues++[uB])=List.map zG a.queues++[[D.v (.int .i64 (-1)),D.v (.int .i64 (-1)),D.v (.int .i64 0),D.v (.int .i64 0)]]∧True
theorem z3z (hG:GOk Tryz.prog ([])) (h:∀(a:Arena),aopenC.cnd a→zZl a):aopenC.ok Tryz.prog 147:=okw mixed hG 0 (fun _=>[]) (fun _=>[]) [0] Tryz.func147 h
@[reducible] def rF (i:zMj):Prop:=∃(o:Unit),(if i.a.usedAt i.n=true then(0:Int)else(26:Int))=26∧(i.a.topF i.n i.t).free=i.a.free∧List.map zK (i.a.topF i.n i.t).slots=List.map zK i.a.slots∧List.map zG (i.a.topF i.n i.t).queues=List.map zG i.a.queues∧True
def zYj (i:zMj):Prop:=
 cnd (decide (i.n<0)) (rF i) (cnd (decide (i.n≥(↑(List.map zK i.a.slots).length:Int))) (rF i) ((0≤i.n∧i.n<(↑(List.map zK i.a.slots).length:Int))∧∃(b:Bool),zH (List.map zK i.a.slots) i.n.toNat ((0:Nat)+(0:Nat)) 1=some [D.v (.bool b)]∧cnd (!b) (rF i) ((0≤i.n∧i.n<(↑(List.map zK i.a.slots).length:Int))∧i.n.toNat<(List.map zK i.a.slots).length∧∃(o:Unit),(if i.a.usedAt i.n=true then(0:Int)else(26:Int))=0∧(i.a.topF i.n i.t).free=i.a.free∧List.map zK (i.a.topF i.n i.t).slots=zJ (List.map zK i.a.slots) i.n.toNat ((0:Nat)+(1:Nat)+3) [D.v (.bool i.t)]∧List.map zG (i.a.topF i.n i.t).queues=List.map zG i.a.queues∧True)))
theorem z7w (hG:GOk Tryz.prog ([])) (h:∀(i:zMj),atopC.cnd i→zYj i):atopC.ok Tryz.prog 144:=okw mixed hG 1 (fun _=>[]) (fun _=>[]) [0] Tryz.func144 h
@[reducible] def sM (i:PuI):Prop:=∃(o:Unit),(i.a.push i.n i.id i.qty i.top).snd.fst=0∧(i.a.push i.n i.id i.qty i.top).snd.snd=26∧(i.a.push i.n i.id i.qty i.top).fst.free=i.a.free∧List.map zK (i.a.push i.n i.id i.qty i.top).fst.slots=List.map zK i.a.slots∧List.map zG (i.a.push i.n i.id i.qty i.top).fst.queues=List.map zG i.a.queues∧True
@[reducible] def eX (i:PuI):Prop:=∃(o:Unit),(i.a.push i.n i.id i.qty i.top).snd.fst=0∧(i.a.push i.n i.id i.qty i.top).snd.snd=24∧(i.a.push i.n i.id i.qty i.top).fst.free=i.a.free∧List.map zK (i.a.push i.n i.id i.qty i.top).fst.slots=List.map zK i.a.slots∧List.map zG (i.a.push i.n i.id i.qty i.top).fst.queues=List.map zG i.a.queues∧True
def zMu (i:PuI):Prop:=
 cnd (decide (i.n≥0)) (cnd (!decide (i.n<(↑(List.map zG i.a.queues).length:Int))) (sM i) (cnd (decide (i.qty<1)) (eX i) (cnd (decide (i.qty>1000000)) (eX i) (cnd (i.a.free==0) (∃(o:Unit),(i.a.push i.n i.id i.qty i.top).snd.fst=0∧(i.a.push i.n i.id i.qty i.top).snd.snd=13∧(i.a.push i.n i.id i.qty i.top).fst.free=i.a.free∧List.map zK (i.a.push i.n i.id i.qty i.top).fst.slots=List.map zK i.a.slots∧List.map zG (i.a.push i.n i.id i.qty i.top).fst.queues=List.map zG i.a.queues∧True) (∃(i_1:List Slot),List.map zK i_1=List.map zK i.a.slots∧i_1.length≤1000000∧∀(o:Unit),True→(0≤i.n∧i.n<(↑(List.map zG i.a.queues).length:Int))∧∃(n:Int),zH (List.map zG i.a.queues) i.n.toNat ((0:Nat)+(1:Nat)) 1=some [D.v (.int .i64 n)]∧(0≤yX i_1∧yX i_1<(↑(List.map zK i_1).length:Int))∧(yX i_1).toNat<(List.map zK i_1).length∧∃(n_1:Int),zH (List.map zG i.a.queues) i.n.toNat ((0:Nat)+(1:Nat)) 1=some [D.v (.int .i64 n_1)]∧cnd (n_1==(-1)) (i.n.toNat<(List.map zG i.a.queues).length∧i.n.toNat<(zJ (List.map zG i.a.queues) i.n.toNat ((0:Nat)+(0:Nat)) [D.v (.int .i64 (yX i_1))]).length∧∃(n_2:Int),zH (zJ (zJ (List.map zG i.a.queues) i.n.toNat ((0:Nat)+(0:Nat)) [D.v (.int .i64 (yX i_1))]) i.n.toNat ((0:Nat)+(1:Nat)) [D.v (.int .i64 (yX i_1))]) i.n.toNat ((0:Nat)+(2:Nat)) 1=some [D.v (.int .i64 n_2)]∧i.n.toNat<(zJ (zJ (List.map zG i.a.queues) i.n.toNat ((0:Nat)+(0:Nat)) [D.v (.int .i64 (yX i_1))]) i.n.toNat ((0:Nat)+(1:Nat)) [D.v (.int .i64 (yX i_1))]).length∧∃(n_3:Int),zH (zJ (zJ (zJ (List.map zG i.a.queues) i.n.toNat ((0:Nat)+(0:Nat)) [D.v (.int .i64 (yX i_1))]) i.n.toNat ((0:Nat)+(1:Nat)) [D.v (.int .i64 (yX i_1))]) i.n.toNat ((0:Nat)+(2:Nat)) [D.v (.int .i64 (IntKind.i64.wrap (n_2+i.qty)))]) i.n.toNat ((0:Nat)+(3:Nat)) 1=some [D.v (.int .i64 n_3)]∧i.n.toNat<(zJ (zJ (zJ (List.map zG i.a.queues) i.n.toNat ((0:Nat)+(0:Nat)) [D.v (.int .i64 (yX i_1))]) i.n.toNat ((0:Nat)+(1:Nat)) [D.v (.int .i64 (yX i_1))]) i.n.toNat ((0:Nat)+(2:Nat)) [D.v (.int .i64 (IntKind.i64.wrap (n_2+i.qty)))]).length∧∃(o:Unit),(i.a.push i.n i.id i.qty i.top).snd.fst=yX i_1∧(i.a.push i.n i.id i.qty i.top).snd.snd=0∧(i.a.push i.n i.id i.qty i.top).fst.free=IntKind.i64.wrap (i.a.free-1)∧List.map zK (i.a.push i.n i.id i.qty i.top).fst.slots=zJ (List.map zK i_1) (yX i_1).toNat 0 [D.v (.bool true),D.v (.int .i64 (yX i_1)),D.v (.int .i64 i.id),D.v (.int .i64 i.qty),D.v (.bool i.top),D.v (.int .i64 i.n),D.v (.int .i64 n),D.v (.int .i64 (-1))]∧List.map zG (i.a.push i.n i.id i.qty i.top).fst.queues=zJ (zJ (zJ (zJ (List.map zG i.a.queues) i.n.toNat ((0:Nat)+(0:Nat)) [D.v (.int .i64 (yX i_1))]) i.n.toNat ((0:Nat)+(1:Nat)) [D.v (.int .i64 (yX i_1))]) i.n.toNat ((0:Nat)+(2:Nat)) [D.v (.int .i64 (IntKind.i64.wrap (n_2+i.qty)))]) i.n.toNat ((0:Nat)+(3:Nat)) [D.v (.int .i64 (IntKind.i64.wrap (n_3+1)))]∧True) (∃(n_2:Int),zH (List.map zG i.a.queues) i.n.toNat ((0:Nat)+(1:Nat)) 1=some [D.v (.int .i64 n_2)]∧(0≤n_2∧n_2<(↑(zJ (List.map zK i_1) (yX i_1).toNat 0 [D.v (.bool true),D.v (.int .i64 (yX i_1)),D.v (.int .i64 i.id),D.v (.int .i64 i.qty),D.v (.bool i.top),D.v (.int .i64 i.n),D.v (.int .i64 n),D.v (.int .i64 (-1))]).length:Int))∧n_2.toNat<(zJ (List.map zK i_1) (yX i_1).toNat 0 [D.v (.bool true),D.v (.int .i64 (yX i_1)),D.v (.int .i64 i.id),D.v (.int .i64 i.qty),D.v (.bool i.top),D.v (.int .i64 i.n),D.v (.int .i64 n),D.v (.int .i64 (-1))]).length∧i.n.toNat<(List.map zG i.a.queues).length∧∃(n_3:Int),zH (zJ (List.map zG i.a.queues) i.n.toNat ((0:Nat)+(1:Nat)) [D.v (.int .i64 (yX i_1))]) i.n.toNat ((0:Nat)+(2:Nat)) 1=some [D.v (.int .i64 n_3)]∧i.n.toNat<(zJ (List.map zG i.a.queues) i.n.toNat ((0:Nat)+(1:Nat)) [D.v (.int .i64 (yX i_1))]).length∧∃(n_4:Int),zH (zJ (zJ (List.map zG i.a.queues) i.n.toNat ((0:Nat)+(1:Nat)) [D.v (.int .i64 (yX i_1))]) i.n.toNat ((0:Nat)+(2:Nat)) [D.v (.int .i64 (IntKind.i64.wrap (n_3+i.qty)))]) i.n.toNat ((0:Nat)+(3:Nat)) 1=some [D.v (.int .i64 n_4)]∧i.n.toNat<(zJ (zJ (List.map zG i.a.queues) i.n.toNat ((0:Nat)+(1:Nat)) [D.v (.int .i64 (yX i_1))]) i.n.toNat ((0:Nat)+(2:Nat)) [D.v (.int .i64 (IntKind.i64.wrap (n_3+i.qty)))]).length∧∃(o:Unit),(i.a.push i.n i.id i.qty i.top).snd.fst=yX i_1∧(i.a.push i.n i.id i.qty i.top).snd.snd=0∧(i.a.push i.n i.id i.qty i.top).fst.free=IntKind.i64.wrap (i.a.free-1)∧List.map zK (i.a.push i.n i.id i.qty i.top).fst.slots=zJ (zJ (List.map zK i_1) (yX i_1).toNat 0 [D.v (.bool true),D.v (.int .i64 (yX i_1)),D.v (.int .i64 i.id),D.v (.int .i64 i.qty),D.v (.bool i.top),D.v (.int .i64 i.n),D.v (.int .i64 n),D.v (.int .i64 (-1))]) n_2.toNat ((0:Nat)+(7:Nat)) [D.v (.int .i64 (yX i_1))]∧List.map zG (i.a.push i.n i.id i.qty i.top).fst.queues=zJ (zJ (zJ (List.map zG i.a.queues) i.n.toNat ((0:Nat)+(1:Nat)) [D.v (.int .i64 (yX i_1))]) i.n.toNat ((0:Nat)+(2:Nat)) [D.v (.int .i64 (IntKind.i64.wrap (n_3+i.qty)))]) i.n.toNat ((0:Nat)+(3:Nat)) [D.v (.int .i64 (IntKind.i64.wrap (n_4+1)))]∧True)))))) (sM i)
theorem z3h (hG:GOk Tryz.prog ([(145,idxSlotC)])) (h:∀(i:PuI),apushC.cnd i→zMu i):apushC.ok Tryz.prog 136:=okw mixed hG 1 (fun _=>[]) (fun _=>[]) [0] Tryz.func136 h
def zLd (i:BkP):Prop:=
 ∃(i0:Nat),(↑i0:Int)=0∧∃(I:Nat→Prop),∃(μ:Nat→Nat),I i0∧∀(i_1:Nat),I i_1→cnd (decide ((↑i_1:Int)<(↑(List.map zA i.b.buys).length:Int))) ((0≤(↑i_1:Int)∧(↑i_1:Int)<(↑(List.map zA i.b.buys).length:Int))∧∃(n:Int),zH (List.map zA i.b.buys) (↑i_1:Int).toNat ((0:Nat)+(0:Nat)) 1=some [D.v (.int .i64 n)]∧∃(i_2:I3'),i_2.side=1∧i_2.x=n∧i_2.y=i.price∧True∧∀(o:Unit),True→cnd (btr i_2.side i_2.x i_2.y) (∃(i':Nat),(↑i':Int)=IntKind.i64.wrap ((↑i_1:Int)+1)∧I i'∧μ i'<μ i_1∧zN i.b 0=zN i.b 0∧zN i.b 1=zN i.b 1∧zN i.b 2=zN i.b 2∧zN i.b 3=zN i.b 3∧zN i.b 4=zN i.b 4∧zN i.b 5=zN i.b 5) (cnd (decide ((↑i_1:Int)<(↑(List.map zA i.b.buys).length:Int))) ((0≤(↑i_1:Int)∧(↑i_1:Int)<(↑(List.map zA i.b.buys).length:Int))∧∃(n:Int),zH (List.map zA i.b.buys) (↑i_1:Int).toNat ((0:Nat)+(0:Nat)) 1=some [D.v (.int .i64 n)]∧∃(o:Unit),(↑(zS 1 (i.b.rungs 1) i.price):Int)=(↑i_1:Int)∧xQ 1 (i.b.rungs 1) i.price=(n==i.price)∧i.b.top1=i.b.top1∧i.b.top2=i.b.top2∧i.b.has1=i.b.has1∧i.b.has2=i.b.has2∧AObj.adt Arena 3 zE i.b.a=zN i.b 1∧List.map zA i.b.buys=List.map zA i.b.buys∧List.map zA i.b.sells=List.map zA i.b.sells∧atE i.b.at_=atE i.b.at_∧iE i.b.spare=iE i.b.spare∧True) (∃(o:Unit),(↑(zS 1 (i.b.rungs 1) i.price):Int)=(↑i_1:Int)∧xQ 1 (i.b.rungs 1) i.price=false∧i.b.top1=i.b.top1∧i.b.top2=i.b.top2∧i.b.has1=i.b.has1∧i.b.has2=i.b.has2∧AObj.adt Arena 3 zE i.b.a=zN i.b 1∧List.map zA i.b.buys=List.map zA i.b.buys∧List.map zA i.b.sells=List.map zA i.b.sells∧atE i.b.at_=atE i.b.at_∧iE i.b.spare=iE i.b.spare∧True))) (cnd (decide ((↑i_1:Int)<(↑(List.map zA i.b.buys).length:Int))) ((0≤(↑i_1:Int)∧(↑i_1:Int)<(↑(List.map zA i.b.buys).length:Int))∧∃(n:Int),zH (List.map zA i.b.buys) (↑i_1:Int).toNat ((0:Nat)+(0:Nat)) 1=some [D.v (.int .i64 n)]∧∃(o:Unit),(↑(zS 1 (i.b.rungs 1) i.price):Int)=(↑i_1:Int)∧xQ 1 (i.b.rungs 1) i.price=(n==i.price)∧i.b.top1=i.b.top1∧i.b.top2=i.b.top2∧i.b.has1=i.b.has1∧i.b.has2=i.b.has2∧AObj.adt Arena 3 zE i.b.a=zN i.b 1∧List.map zA i.b.buys=List.map zA i.b.buys∧List.map zA i.b.sells=List.map zA i.b.sells∧atE i.b.at_=atE i.b.at_∧iE i.b.spare=iE i.b.spare∧True) (∃(o:Unit),(↑(zS 1 (i.b.rungs 1) i.price):Int)=(↑i_1:Int)∧xQ 1 (i.b.rungs 1) i.price=false∧i.b.top1=i.b.top1∧i.b.top2=i.b.top2∧i.b.has1=i.b.has1∧i.b.has2=i.b.has2∧AObj.adt Arena 3 zE i.b.a=zN i.b 1∧List.map zA i.b.buys=List.map zA i.b.buys∧List.map zA i.b.sells=List.map zA i.b.sells∧atE i.b.at_=atE i.b.at_∧iE i.b.spare=iE i.b.spare∧True))
theorem z0x (hG:GOk Tryz.prog ([(111,bbetterC)])) (h:∀(i:BkP),find1C.cnd i→zLd i):find1C.ok Tryz.prog 126:=okw mixed hG 0 (fun _=>[]) (fun _=>z5u) [] Tryz.func126 h
def zJx (i:BkP):Prop:=
 ∃(i0:Nat),(↑i0:Int)=0∧∃(I:Nat→Prop),∃(μ:Nat→Nat),I i0∧∀(i_1:Nat),I i_1→cnd (decide ((↑i_1:Int)<(↑(List.map zA i.b.sells).length:Int))) ((0≤(↑i_1:Int)∧(↑i_1:Int)<(↑(List.map zA i.b.sells).length:Int))∧∃(n:Int),zH (List.map zA i.b.sells) (↑i_1:Int).toNat ((0:Nat)+(0:Nat)) 1=some [D.v (.int .i64 n)]∧∃(i_2:I3'),i_2.side=2∧i_2.x=n∧i_2.y=i.price∧True∧∀(o:Unit),True→cnd (btr i_2.side i_2.x i_2.y) (∃(i':Nat),(↑i':Int)=IntKind.i64.wrap ((↑i_1:Int)+1)∧I i'∧μ i'<μ i_1∧zN i.b 0=zN i.b 0∧zN i.b 1=zN i.b 1∧zN i.b 2=zN i.b 2∧zN i.b 3=zN i.b 3∧zN i.b 4=zN i.b 4∧zN i.b 5=zN i.b 5) (cnd (decide ((↑i_1:Int)<(↑(List.map zA i.b.sells).length:Int))) ((0≤(↑i_1:Int)∧(↑i_1:Int)<(↑(List.map zA i.b.sells).length:Int))∧∃(n:Int),zH (List.map zA i.b.sells) (↑i_1:Int).toNat ((0:Nat)+(0:Nat)) 1=some [D.v (.int .i64 n)]∧∃(o:Unit),(↑(zS 2 (i.b.rungs 2) i.price):Int)=(↑i_1:Int)∧xQ 2 (i.b.rungs 2) i.price=(n==i.price)∧i.b.top1=i.b.top1∧i.b.top2=i.b.top2∧i.b.has1=i.b.has1∧i.b.has2=i.b.has2∧AObj.adt Arena 3 zE i.b.a=zN i.b 1∧List.map zA i.b.buys=List.map zA i.b.buys∧List.map zA i.b.sells=List.map zA i.b.sells∧atE i.b.at_=atE i.b.at_∧iE i.b.spare=iE i.b.spare∧True) (∃(o:Unit),(↑(zS 2 (i.b.rungs 2) i.price):Int)=(↑i_1:Int)∧xQ 2 (i.b.rungs 2) i.price=false∧i.b.top1=i.b.top1∧i.b.top2=i.b.top2∧i.b.has1=i.b.has1∧i.b.has2=i.b.has2∧AObj.adt Arena 3 zE i.b.a=zN i.b 1∧List.map zA i.b.buys=List.map zA i.b.buys∧List.map zA i.b.sells=List.map zA i.b.sells∧atE i.b.at_=atE i.b.at_∧iE i.b.spare=iE i.b.spare∧True))) (cnd (decide ((↑i_1:Int)<(↑(List.map zA i.b.sells).length:Int))) ((0≤(↑i_1:Int)∧(↑i_1:Int)<(↑(List.map zA i.b.sells).length:Int))∧∃(n:Int),zH (List.map zA i.b.sells) (↑i_1:Int).toNat ((0:Nat)+(0:Nat)) 1=some [D.v (.int .i64 n)]∧∃(o:Unit),(↑(zS 2 (i.b.rungs 2) i.price):Int)=(↑i_1:Int)∧xQ 2 (i.b.rungs 2) i.price=(n==i.price)∧i.b.top1=i.b.top1∧i.b.top2=i.b.top2∧i.b.has1=i.b.has1∧i.b.has2=i.b.has2∧AObj.adt Arena 3 zE i.b.a=zN i.b 1∧List.map zA i.b.buys=List.map zA i.b.buys∧List.map zA i.b.sells=List.map zA i.b.sells∧atE i.b.at_=atE i.b.at_∧iE i.b.spare=iE i.b.spare∧True) (∃(o:Unit),(↑(zS 2 (i.b.rungs 2) i.price):Int)=(↑i_1:Int)∧xQ 2 (i.b.rungs 2) i.price=false∧i.b.top1=i.b.top1∧i.b.top2=i.b.top2∧i.b.has1=i.b.has1∧i.b.has2=i.b.has2∧AObj.adt Arena 3 zE i.b.a=zN i.b 1∧List.map zA i.b.buys=List.map zA i.b.buys∧List.map zA i.b.sells=List.map zA i.b.sells∧atE i.b.at_=atE i.b.at_∧iE i.b.spare=iE i.b.spare∧True))
theorem z1q (hG:GOk Tryz.prog ([(111,bbetterC)])) (h:∀(i:BkP),find2C.cnd i→zJx i):find2C.ok Tryz.prog 126:=okw mixed hG 0 (fun _=>[]) (fun _=>z5u) [] Tryz.func126 h
@[reducible] def eO (i:LdI) (b:Bool):Prop:=∃(o:Unit),i.id=i.id∧i.b.top2=i.b.top2∧true=true∧i.b.has2=i.b.has2∧AObj.adt Arena 3 zE (i.b.untop 1)=zN i.b 1∧List.map zA i.b.buys=List.map zA i.b.buys∧List.map zA i.b.sells=List.map zA i.b.sells∧atE i.b.at_=atE i.b.at_∧iE i.b.spare=iE i.b.spare∧True
def zKb (i:LdI):Prop:=
 cnd i.b.has1 ((∀(p:Value×List D),p∈atE i.b.at_→like (Value.int IntKind.i64 i.b.top1) p.fst=true)∧∃(b:Bool),∃(n:Int),∃(n_1:Int),∃(n_2:Int),(qG (Value.int IntKind.i64 i.b.top1) (atE i.b.at_)=some [D.v (.int .i64 n),D.v (.int .i64 n_1),D.v (.int .i64 n_2)]∧b=true∨qG (Value.int IntKind.i64 i.b.top1) (atE i.b.at_)=none∧[D.v (.int .i64 n),D.v (.int .i64 n_1),D.v (.int .i64 n_2)]=[D.v (.int .i64 0),D.v (.int .i64 0),D.v (.int .i64 0)]∧b=false)∧((∀(p:Value×List D),p∈atE i.b.at_→like (Value.int IntKind.i64 i.b.top1) p.fst=true)∧∃(b_1:Bool),∃(n_3:Int),∃(n_4:Int),∃(n_5:Int),(qG (Value.int IntKind.i64 i.b.top1) (atE i.b.at_)=some [D.v (.int .i64 n_3),D.v (.int .i64 n_4),D.v (.int .i64 n_5)]∧b_1=true∨qG (Value.int IntKind.i64 i.b.top1) (atE i.b.at_)=none∧[D.v (.int .i64 n_3),D.v (.int .i64 n_4),D.v (.int .i64 n_5)]=[D.v (.int .i64 0),D.v (.int .i64 0),D.v (.int .i64 0)]∧b_1=false)∧(n_3=n∧n_4=n_1∧n_5=n_2∧True)∧b_1=b∧True)∧i.b.top1=i.b.top1∧True∧cnd b (cnd (n==1) (∃(i_1:zMj),i_1.n=n_2∧i_1.t=false∧AObj.adt Arena 3 zE i_1.a=zN i.b 1∧i_1.a.slots.length≤1000000∧∀(o:Unit),True→∃(o:Unit),i.id=i.id∧i.b.top2=i.b.top2∧true=true∧i.b.has2=i.b.has2∧AObj.adt Arena 3 zE (i.b.untop 1)=AObj.adt Arena 3 zE (i_1.a.topF i_1.n i_1.t)∧List.map zA i.b.buys=List.map zA i.b.buys∧List.map zA i.b.sells=List.map zA i.b.sells∧atE i.b.at_=atE i.b.at_∧iE i.b.spare=iE i.b.spare∧True) (eO i b)) (eO i b)) (∃(o:Unit),i.id=i.id∧i.b.top2=i.b.top2∧true=true∧i.b.has2=i.b.has2∧AObj.adt Arena 3 zE (i.b.untop 1)=zN i.b 1∧List.map zA i.b.buys=List.map zA i.b.buys∧List.map zA i.b.sells=List.map zA i.b.sells∧atE i.b.at_=atE i.b.at_∧iE i.b.spare=iE i.b.spare∧True)
theorem z4b (hG:GOk Tryz.prog ([(144,atopC)])) (h:∀(i:LdI),lead1C.cnd i→zKb i):lead1C.ok Tryz.prog 135:=okw mixed hG 0 (fun _=>[]) (fun _=>[]) [] Tryz.func135 h
@[reducible] def sE (i:LdI) (b:Bool):Prop:=∃(o:Unit),i.b.top1=i.b.top1∧i.id=i.id∧i.b.has1=i.b.has1∧true=true∧AObj.adt Arena 3 zE (i.b.untop 2)=zN i.b 1∧List.map zA i.b.buys=List.map zA i.b.buys∧List.map zA i.b.sells=List.map zA i.b.sells∧atE i.b.at_=atE i.b.at_∧iE i.b.spare=iE i.b.spare∧True
def zKv (i:LdI):Prop:=
 cnd i.b.has2 ((∀(p:Value×List D),p∈atE i.b.at_→like (Value.int IntKind.i64 i.b.top2) p.fst=true)∧∃(b:Bool),∃(n:Int),∃(n_1:Int),∃(n_2:Int),(qG (Value.int IntKind.i64 i.b.top2) (atE i.b.at_)=some [D.v (.int .i64 n),D.v (.int .i64 n_1),D.v (.int .i64 n_2)]∧b=true∨qG (Value.int IntKind.i64 i.b.top2) (atE i.b.at_)=none∧[D.v (.int .i64 n),D.v (.int .i64 n_1),D.v (.int .i64 n_2)]=[D.v (.int .i64 0),D.v (.int .i64 0),D.v (.int .i64 0)]∧b=false)∧((∀(p:Value×List D),p∈atE i.b.at_→like (Value.int IntKind.i64 i.b.top2) p.fst=true)∧∃(b_1:Bool),∃(n_3:Int),∃(n_4:Int),∃(n_5:Int),(qG (Value.int IntKind.i64 i.b.top2) (atE i.b.at_)=some [D.v (.int .i64 n_3),D.v (.int .i64 n_4),D.v (.int .i64 n_5)]∧b_1=true∨qG (Value.int IntKind.i64 i.b.top2) (atE i.b.at_)=none∧[D.v (.int .i64 n_3),D.v (.int .i64 n_4),D.v (.int .i64 n_5)]=[D.v (.int .i64 0),D.v (.int .i64 0),D.v (.int .i64 0)]∧b_1=false)∧(n_3=n∧n_4=n_1∧n_5=n_2∧True)∧b_1=b∧True)∧i.b.top2=i.b.top2∧True∧cnd b (cnd (n==2) (∃(i_1:zMj),i_1.n=n_2∧i_1.t=false∧AObj.adt Arena 3 zE i_1.a=zN i.b 1∧i_1.a.slots.length≤1000000∧∀(o:Unit),True→∃(o:Unit),i.b.top1=i.b.top1∧i.id=i.id∧i.b.has1=i.b.has1∧true=true∧AObj.adt Arena 3 zE (i.b.untop 2)=AObj.adt Arena 3 zE (i_1.a.topF i_1.n i_1.t)∧List.map zA i.b.buys=List.map zA i.b.buys∧List.map zA i.b.sells=List.map zA i.b.sells∧atE i.b.at_=atE i.b.at_∧iE i.b.spare=iE i.b.spare∧True) (sE i b)) (sE i b)) (∃(o:Unit),i.b.top1=i.b.top1∧i.id=i.id∧i.b.has1=i.b.has1∧true=true∧AObj.adt Arena 3 zE (i.b.untop 2)=zN i.b 1∧List.map zA i.b.buys=List.map zA i.b.buys∧List.map zA i.b.sells=List.map zA i.b.sells∧atE i.b.at_=atE i.b.at_∧iE i.b.spare=iE i.b.spare∧True)
theorem z0f (hG:GOk Tryz.prog ([(144,atopC)])) (h:∀(i:LdI),lead2C.cnd i→zKv i):lead2C.ok Tryz.prog 135:=okw mixed hG 0 (fun _=>[]) (fun _=>[]) [] Tryz.func135 h
def zDm (i:BkP):Prop:=
 ∃(i_1:BkP),(1:Int)=(1:Int)∧i_1.price=i.price∧i_1.b.top1=i.b.top1∧i_1.b.top2=i.b.top2∧i_1.b.has1=i.b.has1∧i_1.b.has2=i.b.has2∧AObj.adt Arena 3 zE i_1.b.a=zN i.b 1∧List.map zA i_1.b.buys=List.map zA i.b.buys∧List.map zA i_1.b.sells=List.map zA i.b.sells∧atE i_1.b.at_=atE i.b.at_∧iE i_1.b.spare=iE i.b.spare∧((i_1.b.a.slots.length≤1000000∧i_1.b.a.queues.length≤1000000)∧i_1.b.buys.length≤1000000∧i_1.b.sells.length≤1000000∧i_1.b.spare.length≤1000000)∧∀(o:Unit),True→cnd (xQ 1 (i_1.b.rungs 1) i_1.price) ((0≤(↑(zS 1 (i_1.b.rungs 1) i_1.price):Int)∧(↑(zS 1 (i_1.b.rungs 1) i_1.price):Int)<(↑(List.map zA i_1.b.buys).length:Int))∧∃(n:Int),zH (List.map zA i_1.b.buys) (↑(zS 1 (i_1.b.rungs 1) i_1.price):Int).toNat ((0:Nat)+(1:Nat)) 1=some [D.v (.int .i64 n)]∧∃(o:Unit),(i.b.queueF 1 i.price).snd=n∧(i.b.queueF 1 i.price).fst.top1=i_1.b.top1∧(i.b.queueF 1 i.price).fst.top2=i_1.b.top2∧(i.b.queueF 1 i.price).fst.has1=i_1.b.has1∧(i.b.queueF 1 i.price).fst.has2=i_1.b.has2∧AObj.adt Arena 3 zE (i.b.queueF 1 i.price).fst.a=AObj.adt Arena 3 zE i_1.b.a∧List.map zA (i.b.queueF 1 i.price).fst.sells=List.map zA i_1.b.sells∧atE (i.b.queueF 1 i.price).fst.at_=atE i_1.b.at_∧List.map zA (i.b.queueF 1 i.price).fst.buys=List.map zA i_1.b.buys∧iE (i.b.queueF 1 i.price).fst.spare=iE i_1.b.spare∧True) (cnd (decide ((↑(iE i_1.b.spare).length:Int)>0)) ((0≤IntKind.i64.wrap ((↑(iE i_1.b.spare).length:Int)-1)∧IntKind.i64.wrap ((↑(iE i_1.b.spare).length:Int)-1)<(↑(iE i_1.b.spare).length:Int))∧∃(n:Int),zH (iE i_1.b.spare) (IntKind.i64.wrap ((↑(iE i_1.b.spare).length:Int)-1)).toNat 0 1=some [D.v (.int .i64 n)]∧(0≤IntKind.i64.wrap ((↑(iE i_1.b.spare).length:Int)-1)∧IntKind.i64.wrap ((↑(iE i_1.b.spare).length:Int)-1)≤(↑(iE i_1.b.spare).length:Int))∧True∧∃(i_2:zYu),(↑i_2.i:Int)=(↑(zS 1 (i_1.b.rungs 1) i_1.price):Int)∧i_2.els=List.map zA i_1.b.buys∧[i_2.el]=[[D.v (.int .i64 i.price),D.v (.int .i64 n)]]∧(i_2.i≤i_2.els.length∧(i_2.els.length+1)*(16:Nat)≤(70368744177664:Nat))∧∀(o:Unit),True→∃(o:Unit),(i.b.queueF 1 i.price).snd=n∧(i.b.queueF 1 i.price).fst.top1=i_1.b.top1∧(i.b.queueF 1 i.price).fst.top2=i_1.b.top2∧(i.b.queueF 1 i.price).fst.has1=i_1.b.has1∧(i.b.queueF 1 i.price).fst.has2=i_1.b.has2∧AObj.adt Arena 3 zE (i.b.queueF 1 i.price).fst.a=AObj.adt Arena 3 zE i_1.b.a∧List.map zA (i.b.queueF 1 i.price).fst.sells=List.map zA i_1.b.sells∧atE (i.b.queueF 1 i.price).fst.at_=atE i_1.b.at_∧List.map zA (i.b.queueF 1 i.price).fst.buys=List.take i_2.i i_2.els++i_2.el::List.drop i_2.i i_2.els∧iE (i.b.queueF 1 i.price).fst.spare=List.take (IntKind.i64.wrap ((↑(iE i_1.b.spare).length:Int)-1)).toNat (iE i_1.b.spare)∧True) (∃(i_2:Arena),AObj.adt Arena 3 zE i_2=AObj.adt Arena 3 zE i_1.b.a∧i_2.queues.length≤1000000∧∀(o:Unit),True→True∧∃(i_3:zYu),(↑i_3.i:Int)=(↑(zS 1 (i_1.b.rungs 1) i_1.price):Int)∧i_3.els=List.map zA i_1.b.buys∧[i_3.el]=[[D.v (.int .i64 i.price),D.v (.int .i64 (↑i_2.queues.length:Int))]]∧(i_3.i≤i_3.els.length∧(i_3.els.length+1)*(16:Nat)≤(70368744177664:Nat))∧∀(o:Unit),True→∃(o:Unit),(i.b.queueF 1 i.price).snd=(↑i_2.queues.length:Int)∧(i.b.queueF 1 i.price).fst.top1=i_1.b.top1∧(i.b.queueF 1 i.price).fst.top2=i_1.b.top2∧(i.b.queueF 1 i.price).fst.has1=i_1.b.has1∧(i.b.queueF 1 i.price).fst.has2=i_1.b.has2∧AObj.adt Arena 3 zE (i.b.queueF 1 i.price).fst.a=AObj.adt Arena 3 zE i_2.openQ∧List.map zA (i.b.queueF 1 i.price).fst.sells=List.map zA i_1.b.sells∧atE (i.b.queueF 1 i.price).fst.at_=atE i_1.b.at_∧List.map zA (i.b.queueF 1 i.price).fst.buys=List.take i_3.i i_3.els++i_3.el::List.drop i_3.i i_3.els∧iE (i.b.queueF 1 i.price).fst.spare=iE i_1.b.spare∧True))
theorem zVh (hG:GOk Tryz.prog ([(126,find1C),(147,aopenC),(148,insRC)])) (h:∀(i:BkP),queue1C.cnd i→zDm i):queue1C.ok Tryz.prog 137:=okw mixed hG 0 (fun _=>[]) (fun _=>[]) [] Tryz.func137 h
def zEh (i:BkP):Prop:=
 ∃(i_1:BkP),(2:Int)=(2:Int)∧i_1.price=i.price∧i_1.b.top1=i.b.top1∧i_1.b.top2=i.b.top2∧i_1.b.has1=i.b.has1∧i_1.b.has2=i.b.has2∧AObj.adt Arena 3 zE i_1.b.a=zN i.b 1∧List.map zA i_1.b.buys=List.map zA i.b.buys∧List.map zA i_1.b.sells=List.map zA i.b.sells∧atE i_1.b.at_=atE i.b.at_∧iE i_1.b.spare=iE i.b.spare∧((i_1.b.a.slots.length≤1000000∧i_1.b.a.queues.length≤1000000)∧i_1.b.buys.length≤1000000∧i_1.b.sells.length≤1000000∧i_1.b.spare.length≤1000000)∧∀(o:Unit),True→cnd (xQ 2 (i_1.b.rungs 2) i_1.price) ((0≤(↑(zS 2 (i_1.b.rungs 2) i_1.price):Int)∧(↑(zS 2 (i_1.b.rungs 2) i_1.price):Int)<(↑(List.map zA i_1.b.sells).length:Int))∧∃(n:Int),zH (List.map zA i_1.b.sells) (↑(zS 2 (i_1.b.rungs 2) i_1.price):Int).toNat ((0:Nat)+(1:Nat)) 1=some [D.v (.int .i64 n)]∧∃(o:Unit),(i.b.queueF 2 i.price).snd=n∧(i.b.queueF 2 i.price).fst.top1=i_1.b.top1∧(i.b.queueF 2 i.price).fst.top2=i_1.b.top2∧(i.b.queueF 2 i.price).fst.has1=i_1.b.has1∧(i.b.queueF 2 i.price).fst.has2=i_1.b.has2∧AObj.adt Arena 3 zE (i.b.queueF 2 i.price).fst.a=AObj.adt Arena 3 zE i_1.b.a∧List.map zA (i.b.queueF 2 i.price).fst.buys=List.map zA i_1.b.buys∧atE (i.b.queueF 2 i.price).fst.at_=atE i_1.b.at_∧List.map zA (i.b.queueF 2 i.price).fst.sells=List.map zA i_1.b.sells∧iE (i.b.queueF 2 i.price).fst.spare=iE i_1.b.spare∧True) (cnd (decide ((↑(iE i_1.b.spare).length:Int)>0)) ((0≤IntKind.i64.wrap ((↑(iE i_1.b.spare).length:Int)-1)∧IntKind.i64.wrap ((↑(iE i_1.b.spare).length:Int)-1)<(↑(iE i_1.b.spare).length:Int))∧∃(n:Int),zH (iE i_1.b.spare) (IntKind.i64.wrap ((↑(iE i_1.b.spare).length:Int)-1)).toNat 0 1=some [D.v (.int .i64 n)]∧(0≤IntKind.i64.wrap ((↑(iE i_1.b.spare).length:Int)-1)∧IntKind.i64.wrap ((↑(iE i_1.b.spare).length:Int)-1)≤(↑(iE i_1.b.spare).length:Int))∧True∧∃(i_2:zYu),(↑i_2.i:Int)=(↑(zS 2 (i_1.b.rungs 2) i_1.price):Int)∧i_2.els=List.map zA i_1.b.sells∧[i_2.el]=[[D.v (.int .i64 i.price),D.v (.int .i64 n)]]∧(i_2.i≤i_2.els.length∧(i_2.els.length+1)*(16:Nat)≤(70368744177664:Nat))∧∀(o:Unit),True→∃(o:Unit),(i.b.queueF 2 i.price).snd=n∧(i.b.queueF 2 i.price).fst.top1=i_1.b.top1∧(i.b.queueF 2 i.price).fst.top2=i_1.b.top2∧(i.b.queueF 2 i.price).fst.has1=i_1.b.has1∧(i.b.queueF 2 i.price).fst.has2=i_1.b.has2∧AObj.adt Arena 3 zE (i.b.queueF 2 i.price).fst.a=AObj.adt Arena 3 zE i_1.b.a∧List.map zA (i.b.queueF 2 i.price).fst.buys=List.map zA i_1.b.buys∧atE (i.b.queueF 2 i.price).fst.at_=atE i_1.b.at_∧List.map zA (i.b.queueF 2 i.price).fst.sells=List.take i_2.i i_2.els++i_2.el::List.drop i_2.i i_2.els∧iE (i.b.queueF 2 i.price).fst.spare=List.take (IntKind.i64.wrap ((↑(iE i_1.b.spare).length:Int)-1)).toNat (iE i_1.b.spare)∧True) (∃(i_2:Arena),AObj.adt Arena 3 zE i_2=AObj.adt Arena 3 zE i_1.b.a∧i_2.queues.length≤1000000∧∀(o:Unit),True→True∧∃(i_3:zYu),(↑i_3.i:Int)=(↑(zS 2 (i_1.b.rungs 2) i_1.price):Int)∧i_3.els=List.map zA i_1.b.sells∧[i_3.el]=[[D.v (.int .i64 i.price),D.v (.int .i64 (↑i_2.queues.length:Int))]]∧(i_3.i≤i_3.els.length∧(i_3.els.length+1)*(16:Nat)≤(70368744177664:Nat))∧∀(o:Unit),True→∃(o:Unit),(i.b.queueF 2 i.price).snd=(↑i_2.queues.length:Int)∧(i.b.queueF 2 i.price).fst.top1=i_1.b.top1∧(i.b.queueF 2 i.price).fst.top2=i_1.b.top2∧(i.b.queueF 2 i.price).fst.has1=i_1.b.has1∧(i.b.queueF 2 i.price).fst.has2=i_1.b.has2∧AObj.adt Arena 3 zE (i.b.queueF 2 i.price).fst.a=AObj.adt Arena 3 zE i_2.openQ∧List.map zA (i.b.queueF 2 i.price).fst.buys=List.map zA i_1.b.buys∧atE (i.b.queueF 2 i.price).fst.at_=atE i_1.b.at_∧List.map zA (i.b.queueF 2 i.price).fst.sells=List.take i_3.i i_3.els++i_3.el::List.drop i_3.i i_3.els∧iE (i.b.queueF 2 i.price).fst.spare=iE i_1.b.spare∧True))
theorem zYt (hG:GOk Tryz.prog ([(126,find2C),(147,aopenC),(148,insRC)])) (h:∀(i:BkP),queue2C.cnd i→zEh i):queue2C.ok Tryz.prog 137:=okw mixed hG 0 (fun _=>[]) (fun _=>[]) [] Tryz.func137 h
open Go Cv Go.Proofs
theorem uH:bbetterC.ok Tryz.prog 111:=zQq gok0 fun i _=>by
 unfold zHr
 refine Cv.cnd.mk (fun c=> ?_) (fun c=> ?_)
 ·have c:i.side=1:=by simpa using c
  rw[btr,if_pos c];(repeat'(first|exact rfl|exact trivial|assumption|apply And.intro|refine fun(_:Unit) (_:True)=>?_|refine Exists.intro () ?_|omega|(dsimp only;omega)))
 ·have c:¬i.side=1:=by simpa using c
  rw[btr,if_neg c];(repeat'(first|exact rfl|exact trivial|assumption|apply And.intro|refine fun(_:Unit) (_:True)=>?_|refine Exists.intro () ?_|omega|(dsimp only;omega)))
theorem zUi:pushFC.ok Tryz.prog 146:=z2s gok0 fun s _=>by
 unfold zWt;(repeat'(first|exact rfl|exact trivial|assumption|apply And.intro|refine fun(_:Unit) (_:True)=>?_|refine Exists.intro () ?_|omega|(dsimp only;omega)))
theorem yEk {l:List Slot} {k:Nat} {s:Slot} (h:l[k]? =some s):zH (l.map zK) k 0 8=some [D.v (.bool s.used),.v (.int .i64 s.n),.v (.int .i64 s.id),.v (.int .i64 s.qty),.v (.bool s.top),.v (.int .i64 s.queue),.v (.int .i64 s.ahead),.v (.int .i64 s.back)]:=elA h (by simp[zK]) rfl
theorem zTs (l:List Slot) (h:idxSlotC.cnd l):sF l:=by
 have h:l.length≤1000000:=h
 unfold sF
 simp only[List.length_map]
 refine⟨0,rfl,fun j=>j≤l.length∧∀k<j,∀x,l[k]? =some x→(!x.used)=false,fun j=>l.length-j,⟨by omega,fun k hk=>by omega⟩,?_⟩
 rintro j ⟨h3,h4⟩
 refine zQ (fun hj=> ?_) (fun hj=> ?_)
 ·obtain⟨s,hs⟩:=yE (l:=l) (i:=j) (by omega)
  refine⟨⟨by omega,by omega⟩,s.used,s.n,s.id,s.qty,s.top,s.queue,s.ahead,s.back,yEk hs,s,rfl,rfl,rfl,rfl,rfl,rfl,rfl,rfl,trivial,fun _ _=>Cv.cnd.mk (fun e=> ?_) (fun e=> ?_)⟩
  ·rw[yX,nC hs e h4];(repeat'(first|exact rfl|exact trivial|assumption|apply And.intro|refine fun(_:Unit) (_:True)=>?_|refine Exists.intro () ?_|omega|(dsimp only;omega)))
  ·refine⟨j+1,by rw[w64 (by omega)];rfl,⟨by omega,fun k hk x hx=> ?_⟩,by(first|omega|(dsimp only;omega)),by(repeat'(first|exact trivial|exact rfl|apply And.intro))⟩
   rcases Nat.lt_or_ge k j with hk'|hk'
   ·exact h4 k hk' x hx
   ·obtain rfl:k=j:=by omega
    rw[hs]at hx;cases hx;exact e
 ·rw[yX,nR fun k x hx=>h4 k (by have:=(List.getElem?_eq_some_iff.1 hx).1;omega) x hx];(repeat'(first|exact rfl|exact trivial|assumption|apply And.intro|refine fun(_:Unit) (_:True)=>?_|refine Exists.intro () ?_|omega|(dsimp only;omega)))
theorem zLi:idxSlotC.ok Tryz.prog 145:=zRr (gokc zUi gok0) zTs
theorem zIs:aopenC.ok Tryz.prog 147:=z3z gok0 fun a h=>by
 have h:a.queues.length≤1000000:=h
 unfold zZl
 rw[List.length_append,List.length_map,w64 (by simp only[List.length_cons,List.length_nil];omega)]
 refine⟨by omega,(),?_,rfl,rfl,?_,trivial⟩
 ·simp
 ·rw[List.map_append];rfl
theorem vD {α:Type} {f:α→α}:∀{l:List α} {i:Nat} {x:α},l[i]? =some x→l.modify i f=l.set i (f x)
 |[],i,x,h=>by simp at h
 |a::l,0,x,h=>by simp at h;subst h;rfl
 |a::l,i+1,x,h=>by
  simp only[List.getElem?_cons_succ]at h
  simp only[List.modify_succ_cons,List.set_cons_succ,vD h]
theorem yG {α:Type} {f:α→List D} {l:List α} {i g:Nat} {x y:α} {ds:List D} (hi:l[i]? =some x) (hh:(f x).take g++(ds++(f x).drop (g+ds.length))=f y):zJ (l.map f) i g ds=(l.set i y).map f:=by
 have hlt:=(List.getElem?_eq_some_iff.1 hi).1
 rw[zJ,vD (by rw[List.getElem?_map,hi];rfl),hh,List.map_set]
theorem jF {α:Type} {l:List α} {i:Nat} {x y:α} (hi:l[i]? =some x):(l.set i y)[i]? =some y:=List.getElem?_set_self (List.getElem?_eq_some_iff.1 hi).1
theorem zY {α:Type} {l:List α} {i:Nat} {x d:α} (h:l[i]? =some x):l.getD i d=x:=by rw[List.getD_eq_getElem?_getD,h];rfl
theorem yEe (i:zMj) (h:atopC.cnd i):zYj i:=by
 have h:i.a.slots.length≤1000000:=h
 unfold zYj rF
 simp only[List.length_map]
 have no (e:i.a.usedAt i.n=false):i.a.topF i.n i.t=i.a:=by rw[Arena.topF,if_neg (by rw[e];decide)]
 refine zQ (fun c=> ?_) (fun c=>zQ (fun d=> ?_) (fun d=> ?_))
 ·have e:i.a.usedAt i.n=false:=by rw[Arena.usedAt,decide_eq_false (by omega),Bool.false_and]
  rw[no e,e];(repeat'(first|exact rfl|exact trivial|assumption|apply And.intro|refine fun(_:Unit) (_:True)=>?_|refine Exists.intro () ?_|omega|(dsimp only;omega)))
 ·have e:i.a.usedAt i.n=false:=by rw[Arena.usedAt,decide_eq_false (show ¬i.n<(i.a.slots.length:Int)by omega),Bool.false_and,Bool.and_false]
  rw[no e,e];(repeat'(first|exact rfl|exact trivial|assumption|apply And.intro|refine fun(_:Unit) (_:True)=>?_|refine Exists.intro () ?_|omega|(dsimp only;omega)))
 ·obtain⟨s,hs⟩:=yE (l:=i.a.slots) (i:=i.n.toNat) (by omega)
  have eu:i.a.usedAt i.n=s.used:=by rw[Arena.usedAt,decide_eq_true (show 0≤i.n by omega),decide_eq_true (show i.n<(i.a.slots.length:Int)by omega),zY hs];simp
  refine⟨⟨by omega,by omega⟩,s.used,elA hs (by simp[zK]) rfl,Cv.cnd.mk (fun u=> ?_) (fun u=> ?_)⟩
  ·have e:i.a.usedAt i.n=false:=by rw[eu];simpa using u
   rw[no e,e];(repeat'(first|exact rfl|exact trivial|assumption|apply And.intro|refine fun(_:Unit) (_:True)=>?_|refine Exists.intro () ?_|omega|(dsimp only;omega)))
  ·have e:i.a.usedAt i.n=true:=by rw[eu];simpa using u
   have et:i.a.topF i.n i.t={i.a with slots:=i.a.slots.set i.n.toNat {s with top:=i.t}}:=by
    rw[Arena.topF,if_pos e,vD hs]
   rw[et,e,yG hs (y:={s with top:=i.t}) rfl]
   refine⟨⟨by omega,by omega⟩,by omega,(),rfl,rfl,rfl,rfl,trivial⟩
theorem zQg:atopC.ok Tryz.prog 144:=z7w gok0 yEe
theorem zGj {l:List Slot} (h:∃s∈l,s.used=false):∃k:Nat,yX l=k∧k<l.length:=by
 obtain⟨s,hs,hu⟩:=h
 cases hf:l.findIdx? fun s=> !s.used with
 |none=>
  rw[List.findIdx?_eq_none_iff]at hf
  have:=hf s hs
  rw[hu]at this;cases this
 |some k=>
  rw[List.findIdx?_eq_some_iff_getElem]at hf
  exact⟨k,by rw[yX,show(l.findIdx? fun s=> !s.used)=some k by rw[List.findIdx?_eq_some_iff_getElem];exact hf];rfl,hf.1⟩
theorem z6m (i:PuI) (h:apushC.cnd i):zMu i:=by
 obtain⟨h1,h2,h3⟩:i.a.fit:=h
 unfold zMu sM eX
 simp only[List.length_map]
 have out (e:i.n<0∨i.a.queues.length≤i.n):i.a.push i.n i.id i.qty i.top=(i.a,0,26):=by rw[Arena.push,if_pos e]
 refine zQ (fun c=>Cv.cnd.mk (fun d=> ?_) (fun d=> ?_)) (fun c=> ?_)
 ·have d:¬i.n<(i.a.queues.length:Int):=by simpa using d
  rw[out (.inr (by omega))];(repeat'(first|exact rfl|exact trivial|assumption|apply And.intro|refine fun(_:Unit) (_:True)=>?_|refine Exists.intro () ?_|omega|(dsimp only;omega)))
 ·have d:i.n<(i.a.queues.length:Int):=by simpa using d
  have hn:¬(i.n<0∨(i.a.queues.length:Int)≤i.n):=by omega
  refine zQ (fun q1=> ?_) (fun q1=>zQ (fun q2=> ?_) (fun q2=>Cv.cnd.mk (fun fr=> ?_) (fun fr=> ?_)))
  ·rw[Arena.push,if_neg hn,if_pos (.inl q1)];(repeat'(first|exact rfl|exact trivial|assumption|apply And.intro|refine fun(_:Unit) (_:True)=>?_|refine Exists.intro () ?_|omega|(dsimp only;omega)))
  ·rw[Arena.push,if_neg hn,if_pos (.inr q2)];(repeat'(first|exact rfl|exact trivial|assumption|apply And.intro|refine fun(_:Unit) (_:True)=>?_|refine Exists.intro () ?_|omega|(dsimp only;omega)))
  ·rw[Arena.push,if_neg hn,if_neg (by omega),if_pos (by simpa using fr)];(repeat'(first|exact rfl|exact trivial|assumption|apply And.intro|refine fun(_:Unit) (_:True)=>?_|refine Exists.intro () ?_|omega|(dsimp only;omega)))
  ·have fr:i.a.free≠0:=by simpa using fr
   have ep:i.a.push i.n i.id i.qty i.top=(i.a.put i.n i.id i.qty i.top,yX i.a.slots,0):=by rw[Arena.push,if_neg hn,if_neg (by omega),if_neg fr]
   obtain⟨k,hk,hkl⟩:=zGj (h2 fr)
   obtain⟨q,hq⟩:=yE (l:=i.a.queues) (i:=i.n.toNat) (by omega)
   have hqm:=List.mem_of_getElem? hq
   have hl:=h3 q hqm
   obtain⟨s,hs⟩:=yE hkl
   refine⟨i.a.slots,rfl,h1,fun _ _=>⟨⟨by omega,by omega⟩,q.last,elA hq (by simp[zG]) rfl,⟨by omega,by omega⟩,by rw[hk];exact hkl,q.last,elA hq (by simp[zG]) rfl,?_⟩⟩
   rw[ep]
   have eput:i.a.put i.n i.id i.qty i.top=⟨if q.last= -1 then i.a.slots.set k ⟨true,k,i.id,i.qty,i.top,i.n,q.last,-1⟩else(i.a.slots.set k ⟨true,k,i.id,i.qty,i.top,i.n,q.last,-1⟩).modify q.last.toNat fun s=>{s with back:=k},i.a.queues.set i.n.toNat ⟨if q.last= -1 then k else q.first,k,IntKind.i64.wrap (q.total+i.qty),IntKind.i64.wrap (q.count+1)⟩,IntKind.i64.wrap (i.a.free-1)⟩:=by
    simp only[Arena.put,zY hq,hk,Int.toNat_natCast]
   rw[eput,hk]
   simp only[Int.toNat_natCast]
   have es:zJ (List.map zK i.a.slots) k 0 [D.v (.bool true),D.v (.int .i64 k),D.v (.int .i64 i.id),D.v (.int .i64 i.qty),D.v (.bool i.top),D.v (.int .i64 i.n),D.v (.int .i64 q.last),D.v (.int .i64 (-1))]=List.map zK (i.a.slots.set k ⟨true,k,i.id,i.qty,i.top,i.n,q.last,-1⟩):=yG hs rfl
   rw[es]
   refine Cv.cnd.mk (fun e=> ?_) (fun e=> ?_)
   ·have e:q.last= -1:=by simpa using e
    have e1:zJ (List.map zG i.a.queues) i.n.toNat (0+0) [D.v (.int .i64 k)]=List.map zG (i.a.queues.set i.n.toNat {q with first:=k}):=yG hq rfl
    have g1:=jF (y:={q with first:=(k:Int)}) hq
    have e2:zJ (List.map zG (i.a.queues.set i.n.toNat {q with first:=k})) i.n.toNat (0+1) [D.v (.int .i64 k)]=List.map zG (i.a.queues.set i.n.toNat {q with first:=k,last:=k}):=by
     rw[yG g1 (y:={q with first:=(k:Int),last:=(k:Int)}) rfl,List.set_set]
    have g2:=jF (y:={q with first:=(k:Int),last:=(k:Int)}) hq
    have e3:zJ (List.map zG (i.a.queues.set i.n.toNat {q with first:=k,last:=k})) i.n.toNat (0+2) [D.v (.int .i64 (IntKind.i64.wrap (q.total+i.qty)))]=List.map zG (i.a.queues.set i.n.toNat {q with first:=k,last:=k,total:=IntKind.i64.wrap (q.total+i.qty)}):=by
     rw[yG g2 (y:={q with first:=(k:Int),last:=(k:Int),total:=IntKind.i64.wrap (q.total+i.qty)}) rfl,List.set_set]
    have g3:=jF (y:={q with first:=(k:Int),last:=(k:Int),total:=IntKind.i64.wrap (q.total+i.qty)}) hq
    have e4:zJ (List.map zG (i.a.queues.set i.n.toNat {q with first:=k,last:=k,total:=IntKind.i64.wrap (q.total+i.qty)})) i.n.toNat (0+3) [D.v (.int .i64 (IntKind.i64.wrap (q.count+1)))]=List.map zG (i.a.queues.set i.n.toNat ⟨k,k,IntKind.i64.wrap (q.total+i.qty),IntKind.i64.wrap (q.count+1)⟩):=by
     rw[yG g3 (y:=⟨k,k,IntKind.i64.wrap (q.total+i.qty),IntKind.i64.wrap (q.count+1)⟩) rfl,List.set_set]
    rw[e1,e2]
    simp only[if_pos e]
    refine⟨by omega,by simp only[List.length_map,List.length_set];omega,q.total,elA g2 (by simp[zG]) rfl,by simp only[List.length_map,List.length_set];omega,q.count,?_,by rw[e3];simp only[List.length_map,List.length_set];omega,(),?_⟩
    ·rw[e3];exact elA g3 (by simp[zG]) rfl
    ·rw[e3,e4];(repeat'(first|exact rfl|exact trivial|assumption|apply And.intro|refine fun(_:Unit) (_:True)=>?_|refine Exists.intro () ?_|omega|(dsimp only;omega)))
   ·have e:¬q.last= -1:=by simpa using e
    have hl:0≤q.last∧q.last<i.a.slots.length:=hl.resolve_left e
    have e2:zJ (List.map zG i.a.queues) i.n.toNat (0+1) [D.v (.int .i64 k)]=List.map zG (i.a.queues.set i.n.toNat {q with last:=k}):=yG hq rfl
    have g2:=jF (y:={q with last:=(k:Int)}) hq
    have e3:zJ (List.map zG (i.a.queues.set i.n.toNat {q with last:=k})) i.n.toNat (0+2) [D.v (.int .i64 (IntKind.i64.wrap (q.total+i.qty)))]=List.map zG (i.a.queues.set i.n.toNat {q with last:=k,total:=IntKind.i64.wrap (q.total+i.qty)}):=by
     rw[yG g2 (y:={q with last:=(k:Int),total:=IntKind.i64.wrap (q.total+i.qty)}) rfl,List.set_set]
    have g3:=jF (y:={q with last:=(k:Int),total:=IntKind.i64.wrap (q.total+i.qty)}) hq
    have e4:zJ (List.map zG (i.a.queues.set i.n.toNat {q with last:=k,total:=IntKind.i64.wrap (q.total+i.qty)})) i.n.toNat (0+3) [D.v (.int .i64 (IntKind.i64.wrap (q.count+1)))]=List.map zG (i.a.queues.set i.n.toNat ⟨q.first,k,IntKind.i64.wrap (q.total+i.qty),IntKind.i64.wrap (q.count+1)⟩):=by
     rw[yG g3 (y:=⟨q.first,k,IntKind.i64.wrap (q.total+i.qty),IntKind.i64.wrap (q.count+1)⟩) rfl,List.set_set]
    obtain⟨s2,hs2⟩:=yE (l:=i.a.slots.set k ⟨true,k,i.id,i.qty,i.top,i.n,q.last,-1⟩) (i:=q.last.toNat) (by rw[List.length_set];omega)
    have e5:zJ (List.map zK (i.a.slots.set k ⟨true,k,i.id,i.qty,i.top,i.n,q.last,-1⟩)) q.last.toNat (0+7) [D.v (.int .i64 k)]=List.map zK ((i.a.slots.set k ⟨true,k,i.id,i.qty,i.top,i.n,q.last,-1⟩).modify q.last.toNat fun s=>{s with back:=k}):=by
     rw[yG hs2 (y:={s2 with back:=(k:Int)}) rfl,vD hs2]
    rw[e2]
    simp only[if_neg e]
    refine⟨q.last,elA hq (by simp[zG]) rfl,⟨by omega,by simp only[List.length_map,List.length_set];omega⟩,by simp only[List.length_map,List.length_set];omega,by omega,q.total,elA g2 (by simp[zG]) rfl,by simp only[List.length_map,List.length_set];omega,q.count,?_,by rw[e3];simp only[List.length_map,List.length_set];omega,(),?_⟩
    ·rw[e3];exact elA g3 (by simp[zG]) rfl
    ·rw[e3,e4,e5];(repeat'(first|exact rfl|exact trivial|assumption|apply And.intro|refine fun(_:Unit) (_:True)=>?_|refine Exists.intro () ?_|omega|(dsimp only;omega)))
 ·rw[out (.inl (by omega))];(repeat'(first|exact rfl|exact trivial|assumption|apply And.intro|refine fun(_:Unit) (_:True)=>?_|refine Exists.intro () ?_|omega|(dsimp only;omega)))
theorem zJj:apushC.ok Tryz.prog 136:=z3h (gokc zLi gok0) z6m
theorem gM {s price:Int}:∀{l:List yZ} {j:Nat},j≤l.length→(∀k<j,∀r,l[k]? =some r→btr s r.price price=true)→(∀r,l[j]? =some r→btr s r.price price=false)→zS s l price=j
 |[],j,hj,_,_=>by
  obtain rfl:j=0:=by simpa using hj
  rfl
 |r::l,0,_,_,he=>by
  have:=he r rfl
  rw[zS,List.takeWhile_cons,this];rfl
 |r::l,j+1,hj,h,he=>by
  have h0:=h 0 (by omega) r rfl
  have ih:=gM (l:=l) (j:=j) (by simpa using hj) (fun k hk x hx=>h (k+1) (by omega) x (by simpa using hx)) (fun x hx=>he x (by simpa using hx))
  rw[zS]at ih ⊢
  rw[List.takeWhile_cons,h0,if_pos rfl,List.length_cons,ih]
theorem dO (s price:Int) (l:List yZ):zS s l price≤l.length:=(List.takeWhile_sublist _).length_le
theorem hJ (b:Book):b.rungs 1=b.buys:=rfl
theorem fA (b:Book):b.rungs 2=b.sells:=rfl
theorem z9o (i:BkP) (h:find1C.cnd i):zLd i:=by
 obtain⟨_,h1,h2,_⟩:i.b.small:=h
 unfold zLd
 simp only[List.length_map,hJ]
 refine⟨0,rfl,fun j=>j≤i.b.buys.length∧∀k<j,∀r,i.b.buys[k]? =some r→btr 1 r.price i.price=true,fun j=>i.b.buys.length-j,⟨by omega,fun k hk=>by omega⟩,?_⟩
 rintro j ⟨h3,h4⟩
 refine zQ (fun hj=> ?_) (fun hj=> ?_)
 ·obtain⟨r,hr⟩:=yE (l:=i.b.buys) (i:=j) (by omega)
  refine⟨⟨by omega,by omega⟩,r.price,elA hr (by simp[zA]) rfl,⟨1,r.price,i.price⟩,rfl,rfl,rfl,trivial,fun _ _=> ?_⟩
  dsimp only
  refine Cv.cnd.mk (fun e=>⟨j+1,by rw[w64 (by omega)];rfl,⟨by omega,fun k hk x hx=> ?_⟩,by(first|omega|(dsimp only;omega)),by(repeat'(first|exact trivial|exact rfl|apply And.intro))⟩) (fun e=>zQ (fun _=> ?_) (fun c=>absurd hj c))
  ·rcases Nat.lt_or_ge k j with hk'|hk'
   ·exact h4 k hk' x hx
   ·obtain rfl:k=j:=by omega
    rw[hr]at hx;cases hx;exact e
  ·have en:zS 1 i.b.buys i.price=j:=gM h3 h4 fun x hx=>by rw[hr]at hx;cases hx;exact e
   have eb:xQ 1 i.b.buys i.price=(r.price==i.price):=by rw[xQ,en,hr];exact(zHd _ _).symm
   refine⟨⟨by omega,by omega⟩,r.price,elA hr (by simp[zA]) rfl,(),by rw[en],eb,?_⟩
   (repeat'(first|exact trivial|exact rfl|apply And.intro))
 ·have en:zS 1 i.b.buys i.price=j:=gM h3 h4 fun x hx=>by have:=(List.getElem?_eq_some_iff.1 hx).1;omega
  have eb:xQ 1 i.b.buys i.price=false:=by rw[xQ,en,List.getElem?_eq_none (by omega)]
  refine zQ (fun c=>absurd c hj) (fun _=>⟨(),by rw[en],eb,?_⟩)
  (repeat'(first|exact trivial|exact rfl|apply And.intro))
theorem tH:find1C.ok Tryz.prog 126:=z0x (gokc uH gok0) z9o
theorem qU (l:List (Int×Place)) (k:Int):∀(p:Value×List D),p∈atE l→like (Value.int IntKind.i64 k) p.1=true:=by
 intro p hp
 obtain⟨x,_,rfl⟩:=List.mem_map.1 hp
 rfl
theorem cI (k:Int):∀l:List (Int×Place),qG (Value.int IntKind.i64 k) (atE l)=(pget l k).map zMy
 |[]=>rfl
 |(a,v)::l=>by
  have ih:=cI k l
  show(bif (keq .i64 .i64 && decide (k=a))then _ else qG _ (atE l))=_
  by_cases h:k=a
  ·subst h;simp[pget,keq]
  ·have h':¬a=k:=fun e=>h e.symm
   rw[show(keq .i64 .i64 && decide (k=a))=false by simp[h],cond_false,ih]
   simp[pget,List.find?_cons,h']
def nV:Place:=⟨0,0,0⟩
theorem zBi (l:List (Int×Place)) (k:Int):qG (Value.int IntKind.i64 k) (atE l)=some [D.v (.int .i64 ((pget l k).getD nV).side),D.v (.int .i64 ((pget l k).getD nV).price),D.v (.int .i64 ((pget l k).getD nV).slot)]∧(pget l k).isSome=true∨qG (Value.int IntKind.i64 k) (atE l)=none∧[D.v (.int .i64 ((pget l k).getD nV).side),D.v (.int .i64 ((pget l k).getD nV).price),D.v (.int .i64 ((pget l k).getD nV).slot)]=[D.v (.int .i64 0),D.v (.int .i64 0),D.v (.int .i64 0)]∧(pget l k).isSome=false:=by
 rw[cI]
 cases pget l k with
 |none=>exact .inr ⟨rfl,rfl,rfl⟩
 |some v=>exact .inl ⟨rfl,rfl⟩
theorem zFk (k:Int) (v:Place):∀l,jW (Value.int IntKind.i64 k) (zMy v) (atE l)=atE (gW k v l)
 |[]=>rfl
 |(a,b)::l=>by
  have ih:=zFk k v l
  show(bif (keq .i64 .i64 && decide (k=a))then _ else _::jW _ _ (atE l))=_
  rw[ih,gW]
  by_cases h:k=a
  ·subst h;simp[keq,atE]
  ·simp[h,atE]
theorem z5x (i:LdI) (h:lead1C.cnd i):zKb i:=by
 obtain⟨⟨ha,_⟩,h1,h2,_⟩:i.b.small:=h
 unfold zKb eO
 have no (e:i.b.untop 1=i.b.a):AObj.adt Arena 3 zE (i.b.untop 1)=zN i.b 1:=by rw[e];rfl
 refine Cv.cnd.mk (fun c=> ?_) (fun c=>⟨(),?_⟩)
 ·have c:i.b.hasF 1=true:=c
  refine⟨qU _ _,(pget i.b.at_ i.b.top1).isSome,_,_,_,zBi _ _,⟨qU _ _,(pget i.b.at_ i.b.top1).isSome,_,_,_,zBi _ _,⟨rfl,rfl,rfl,trivial⟩,rfl,trivial⟩,rfl,trivial,Cv.cnd.mk (fun d=>Cv.cnd.mk (fun e=> ?_) (fun e=>⟨(),?_⟩)) (fun d=>⟨(),?_⟩)⟩
  ·obtain⟨o,ho⟩:=Option.isSome_iff_exists.1 d
   have e:o.side=1:=by rw[ho]at e;simpa using e
   have eu:i.b.untop 1=i.b.a.topF o.slot false:=by
    have ht:pget i.b.at_ (i.b.topI 1)=some o:=ho
    rw[Book.untop,if_pos c,ht];dsimp only;rw[if_pos e]
   refine⟨⟨i.b.a,o.slot,false⟩,by rw[ho];rfl,rfl,rfl,ha,fun _ _=>⟨(),?_⟩⟩
   rw[eu];(repeat'(first|exact trivial|exact rfl|apply And.intro))
  ·obtain⟨o,ho⟩:=Option.isSome_iff_exists.1 d
   have e:¬o.side=1:=by rw[ho]at e;simpa using e
   have ht:pget i.b.at_ (i.b.topI 1)=some o:=ho
   rw[no (by rw[Book.untop,if_pos c,ht];dsimp only;rw[if_neg e])];(repeat'(first|exact trivial|exact rfl|apply And.intro))
  ·have ht:pget i.b.at_ (i.b.topI 1)=none:=by
    show pget i.b.at_ i.b.top1=none
    simpa using d
   rw[no (by rw[Book.untop,if_pos c,ht])];(repeat'(first|exact trivial|exact rfl|apply And.intro))
 ·have c:¬i.b.hasF 1=true:=by rw[show i.b.hasF 1=i.b.has1 from rfl,c];decide
  rw[no (by rw[Book.untop,if_neg c])];(repeat'(first|exact trivial|exact rfl|apply And.intro))
theorem zUz:lead1C.ok Tryz.prog 135:=z4b (gokc zQg gok0) z5x
theorem zIw {s price:Int} {l:List yZ} (h:xQ s l price=true):∃r,l[zS s l price]? =some r:=by
 rw[xQ]at h
 split at h
 ·rename_i r hr;exact⟨r,hr⟩
 ·cases h
theorem z4m (i:BkP) (h:queue1C.cnd i):zDm i:=by
 obtain⟨⟨ha,_⟩,ha',h1,h2,h3⟩:i.b.fit:=h
 have hle:=dO 1 i.price i.b.buys
 unfold zDm
 refine⟨i,rfl,rfl,rfl,rfl,rfl,rfl,rfl,rfl,rfl,rfl,rfl,⟨⟨ha,by omega⟩,by omega,by omega,by omega⟩,fun _ _=> ?_⟩
 simp only[List.length_map,yW,hJ]
 refine Cv.cnd.mk (fun c=> ?_) (fun c=> ?_)
 ·obtain⟨r,hr⟩:=zIw c
  have hlt:=(List.getElem?_eq_some_iff.1 hr).1
  have e:i.b.queueF 1 i.price=(i.b,r.queue):=by rw[Book.queueF,if_pos (by rw[hJ];exact c),hJ,zY hr]
  rw[e]
  refine⟨⟨by omega,by omega⟩,r.queue,elA (by simpa using hr) (by simp[zA]) rfl,(),?_⟩
  (repeat'(first|exact trivial|exact rfl|apply And.intro))
 ·have e:i.b.queueF 1 i.price=({i.b with a:=i.b.newQ.2.2,buys:=i.b.ins 1 i.price,spare:=i.b.newQ.2.1},i.b.newQ.1):=by
   rw[Book.queueF,if_neg (by rw[hJ,c];decide),if_pos rfl]
  have hins:List.map zA (i.b.ins 1 i.price)=List.take (zS 1 i.b.buys i.price) (List.map zA i.b.buys)++zA ⟨i.price,i.b.newQ.1⟩::List.drop (zS 1 i.b.buys i.price) (List.map zA i.b.buys):=by
   rw[Book.ins,hJ,List.map_append,List.map_cons,List.map_take,List.map_drop]
  rw[e]
  refine zQ (fun d=> ?_) (fun d=> ?_)
  ·have w:IntKind.i64.wrap ((i.b.spare.length:Int)-1)=((i.b.spare.length-1:Nat):Int):=by rw[w64 (by omega)];omega
   rw[w]
   simp only[Int.toNat_natCast]
   obtain⟨q,hq⟩:=yE (l:=i.b.spare) (i:=i.b.spare.length-1) (by omega)
   have eq:i.b.newQ=(q,i.b.spare.take (i.b.spare.length-1),i.b.a):=by rw[Book.newQ,if_neg (by omega),zY hq]
   rw[eq]at hins ⊢
   refine⟨⟨by omega,by omega⟩,q,elI hq,⟨by omega,by omega⟩,trivial,⟨i.b.buys.map zA,zA ⟨i.price,q⟩,zS 1 i.b.buys i.price⟩,rfl,rfl,rfl,⟨by rw[List.length_map];exact hle,by rw[List.length_map];omega⟩,fun _ _=>⟨(),?_⟩⟩
   have hs:iE (i.b.spare.take (i.b.spare.length-1))=(iE i.b.spare).take (i.b.spare.length-1):=by simp only[iE,List.map_take]
   (repeat'(first|exact rfl|exact trivial|assumption|apply And.intro|refine fun(_:Unit) (_:True)=>?_|refine Exists.intro () ?_|omega|(dsimp only;omega)))
  ·have eq:i.b.newQ=((i.b.a.queues.length:Int),i.b.spare,i.b.a.openQ):=by rw[Book.newQ,if_pos (by omega)]
   rw[eq]at hins ⊢
   refine⟨i.b.a,rfl,by omega,fun _ _=>⟨trivial,⟨i.b.buys.map zA,zA ⟨i.price,i.b.a.queues.length⟩,zS 1 i.b.buys i.price⟩,rfl,rfl,rfl,⟨by rw[List.length_map];exact hle,by rw[List.length_map];omega⟩,fun _ _=>⟨(),?_⟩⟩⟩
   (repeat'(first|exact rfl|exact trivial|assumption|apply And.intro|refine fun(_:Unit) (_:True)=>?_|refine Exists.intro () ?_|omega|(dsimp only;omega)))
theorem nW:jO Tryz.prog 139=some (147,2,16,#[.int .i64 0,.int .i64 0]):=by kernel_rfl
theorem zOe:insRC.ok Tryz.prog 148:=
 insX_ok (tS:=139) (tI:=3) (fO:=152) (fR:=153) (z:= #[.int .i64 0,.int .i64 0]) mixed Tryz.func148 rfl (by kernel_rfl) (by kernel_rfl) (by kernel_rfl) (by kernel_rfl) nW rfl (by decide) (by decide) (by kernel_rfl) Tryz.underlying3
  (z3c (tS:=139) (tB:=4) Tryz.func152 (by kernel_rfl) (by kernel_rfl) (by kernel_rfl) (by kernel_rfl) nW) (fun s sn sk i v vn vk w R=>by kernel_rfl)
theorem zSb:queue1C.ok Tryz.prog 137:=zVh (gokc tH (gokc zIs (gokc zOe gok0))) z4m
theorem z7d (i:BkP) (h:find2C.cnd i):zJx i:=by
 obtain⟨_,h1,h2,_⟩:i.b.small:=h
 unfold zJx
 simp only[List.length_map,fA]
 refine⟨0,rfl,fun j=>j≤i.b.sells.length∧∀k<j,∀r,i.b.sells[k]? =some r→btr 2 r.price i.price=true,fun j=>i.b.sells.length-j,⟨by omega,fun k hk=>by omega⟩,?_⟩
 rintro j ⟨h3,h4⟩
 refine zQ (fun hj=> ?_) (fun hj=> ?_)
 ·obtain⟨r,hr⟩:=yE (l:=i.b.sells) (i:=j) (by omega)
  refine⟨⟨by omega,by omega⟩,r.price,elA hr (by simp[zA]) rfl,⟨2,r.price,i.price⟩,rfl,rfl,rfl,trivial,fun _ _=> ?_⟩
  dsimp only
  refine Cv.cnd.mk (fun e=>⟨j+1,by rw[w64 (by omega)];rfl,⟨by omega,fun k hk x hx=> ?_⟩,by(first|omega|(dsimp only;omega)),by(repeat'(first|exact trivial|exact rfl|apply And.intro))⟩) (fun e=>zQ (fun _=> ?_) (fun c=>absurd hj c))
  ·rcases Nat.lt_or_ge k j with hk'|hk'
   ·exact h4 k hk' x hx
   ·obtain rfl:k=j:=by omega
    rw[hr]at hx;cases hx;exact e
  ·have en:zS 2 i.b.sells i.price=j:=gM h3 h4 fun x hx=>by rw[hr]at hx;cases hx;exact e
   have eb:xQ 2 i.b.sells i.price=(r.price==i.price):=by rw[xQ,en,hr];exact(zHd _ _).symm
   refine⟨⟨by omega,by omega⟩,r.price,elA hr (by simp[zA]) rfl,(),by rw[en],eb,?_⟩
   (repeat'(first|exact trivial|exact rfl|apply And.intro))
 ·have en:zS 2 i.b.sells i.price=j:=gM h3 h4 fun x hx=>by have:=(List.getElem?_eq_some_iff.1 hx).1;omega
  have eb:xQ 2 i.b.sells i.price=false:=by rw[xQ,en,List.getElem?_eq_none (by omega)]
  refine zQ (fun c=>absurd c hj) (fun _=>⟨(),by rw[en],eb,?_⟩)
  (repeat'(first|exact trivial|exact rfl|apply And.intro))
theorem lG:find2C.ok Tryz.prog 126:=z1q (gokc uH gok0) z7d
theorem yBn (i:LdI) (h:lead2C.cnd i):zKv i:=by
 obtain⟨⟨ha,_⟩,h1,h2,_⟩:i.b.small:=h
 unfold zKv sE
 have no (e:i.b.untop 2=i.b.a):AObj.adt Arena 3 zE (i.b.untop 2)=zN i.b 1:=by rw[e];rfl
 refine Cv.cnd.mk (fun c=> ?_) (fun c=>⟨(),?_⟩)
 ·have c:i.b.hasF 2=true:=c
  refine⟨qU _ _,(pget i.b.at_ i.b.top2).isSome,_,_,_,zBi _ _,⟨qU _ _,(pget i.b.at_ i.b.top2).isSome,_,_,_,zBi _ _,⟨rfl,rfl,rfl,trivial⟩,rfl,trivial⟩,rfl,trivial,Cv.cnd.mk (fun d=>Cv.cnd.mk (fun e=> ?_) (fun e=>⟨(),?_⟩)) (fun d=>⟨(),?_⟩)⟩
  ·obtain⟨o,ho⟩:=Option.isSome_iff_exists.1 d
   have e:o.side=2:=by rw[ho]at e;simpa using e
   have eu:i.b.untop 2=i.b.a.topF o.slot false:=by
    have ht:pget i.b.at_ (i.b.topI 2)=some o:=ho
    rw[Book.untop,if_pos c,ht];dsimp only;rw[if_pos e]
   refine⟨⟨i.b.a,o.slot,false⟩,by rw[ho];rfl,rfl,rfl,ha,fun _ _=>⟨(),?_⟩⟩
   rw[eu];(repeat'(first|exact trivial|exact rfl|apply And.intro))
  ·obtain⟨o,ho⟩:=Option.isSome_iff_exists.1 d
   have e:¬o.side=2:=by rw[ho]at e;simpa using e
   have ht:pget i.b.at_ (i.b.topI 2)=some o:=ho
   rw[no (by rw[Book.untop,if_pos c,ht];dsimp only;rw[if_neg e])];(repeat'(first|exact trivial|exact rfl|apply And.intro))
  ·have ht:pget i.b.at_ (i.b.topI 2)=none:=by
    show pget i.b.at_ i.b.top2=none
    simpa using d
   rw[no (by rw[Book.untop,if_pos c,ht])];(repeat'(first|exact trivial|exact rfl|apply And.intro))
 ·have c:¬i.b.hasF 2=true:=by rw[show i.b.hasF 2=i.b.has2 from rfl,c];decide
  rw[no (by rw[Book.untop,if_neg c])];(repeat'(first|exact trivial|exact rfl|apply And.intro))
theorem zVu:lead2C.ok Tryz.prog 135:=z0f (gokc zQg gok0) yBn
theorem z1r (i:BkP) (h:queue2C.cnd i):zEh i:=by
 obtain⟨⟨ha,_⟩,ha',h1,h2,h3⟩:i.b.fit:=h
 have hle:=dO 2 i.price i.b.sells
 unfold zEh
 refine⟨i,rfl,rfl,rfl,rfl,rfl,rfl,rfl,rfl,rfl,rfl,rfl,⟨⟨ha,by omega⟩,by omega,by omega,by omega⟩,fun _ _=> ?_⟩
 simp only[List.length_map,yW,fA]
 refine Cv.cnd.mk (fun c=> ?_) (fun c=> ?_)
 ·obtain⟨r,hr⟩:=zIw c
  have hlt:=(List.getElem?_eq_some_iff.1 hr).1
  have e:i.b.queueF 2 i.price=(i.b,r.queue):=by rw[Book.queueF,if_pos (by rw[fA];exact c),fA,zY hr]
  rw[e]
  refine⟨⟨by omega,by omega⟩,r.queue,elA (by simpa using hr) (by simp[zA]) rfl,(),?_⟩
  (repeat'(first|exact trivial|exact rfl|apply And.intro))
 ·have e:i.b.queueF 2 i.price=({i.b with a:=i.b.newQ.2.2,sells:=i.b.ins 2 i.price,spare:=i.b.newQ.2.1},i.b.newQ.1):=by
   rw[Book.queueF,if_neg (by rw[fA,c];decide),if_neg (by decide)]
  have hins:List.map zA (i.b.ins 2 i.price)=List.take (zS 2 i.b.sells i.price) (List.map zA i.b.sells)++zA ⟨i.price,i.b.newQ.1⟩::List.drop (zS 2 i.b.sells i.price) (List.map zA i.b.sells):=by
   rw[Book.ins,fA,List.map_append,List.map_cons,List.map_take,List.map_drop]
  rw[e]
  refine zQ (fun d=> ?_) (fun d=> ?_)
  ·have w:IntKind.i64.wrap ((i.b.spare.length:Int)-1)=((i.b.spare.length-1:Nat):Int):=by rw[w64 (by omega)];omega
   rw[w]
   simp only[Int.toNat_natCast]
   obtain⟨q,hq⟩:=yE (l:=i.b.spare) (i:=i.b.spare.length-1) (by omega)
   have eq:i.b.newQ=(q,i.b.spare.take (i.b.spare.length-1),i.b.a):=by rw[Book.newQ,if_neg (by omega),zY hq]
   rw[eq]at hins ⊢
   refine⟨⟨by omega,by omega⟩,q,elI hq,⟨by omega,by omega⟩,trivial,⟨i.b.sells.map zA,zA ⟨i.price,q⟩,zS 2 i.b.sells i.price⟩,rfl,rfl,rfl,⟨by rw[List.length_map];exact hle,by rw[List.length_map];omega⟩,fun _ _=>⟨(),?_⟩⟩
   have hs:iE (i.b.spare.take (i.b.spare.length-1))=(iE i.b.spare).take (i.b.spare.length-1):=by simp only[iE,List.map_take]
   (repeat'(first|exact rfl|exact trivial|assumption|apply And.intro|refine fun(_:Unit) (_:True)=>?_|refine Exists.intro () ?_|omega|(dsimp only;omega)))
  ·have eq:i.b.newQ=((i.b.a.queues.length:Int),i.b.spare,i.b.a.openQ):=by rw[Book.newQ,if_pos (by omega)]
   rw[eq]at hins ⊢
   refine⟨i.b.a,rfl,by omega,fun _ _=>⟨trivial,⟨i.b.sells.map zA,zA ⟨i.price,i.b.a.queues.length⟩,zS 2 i.b.sells i.price⟩,rfl,rfl,rfl,⟨by rw[List.length_map];exact hle,by rw[List.length_map];omega⟩,fun _ _=>⟨(),?_⟩⟩⟩
   (repeat'(first|exact rfl|exact trivial|assumption|apply And.intro|refine fun(_:Unit) (_:True)=>?_|refine Exists.intro () ?_|omega|(dsimp only;omega)))
theorem zQs:queue2C.ok Tryz.prog 137:=zYt (gokc lG (gokc zIs (gokc zOe gok0))) z1r
open Go Cv Go.Proofs
structure BaI where
 b:Book
 id:Int
 price:Int
 qty:Int
def Book.leads (b:Book) (s price:Int):Bool:=match b.rungs s with
 |[]=>true
 |r::_=>btr s price r.price
def Book.led (b:Book) (id s price:Int):Book:=if b.leads s price=true then b.leadF id s else b
def Book.stand (b:Book) (s id price qty:Int):Book:=
 let b2:=(b.led id s price).queueF s price
 let x:=b2.1.a.push b2.2 id qty (b.leads s price)
 {b2.1 with a:=x.1,at_:=gW id ⟨s,price,x.2.1⟩ b2.1.at_}
def Book.addF (b:Book) (s id price qty:Int):Book×Int:=
 if qty<1∨1000000<qty then(b,24)else if(pget b.at_ id).isSome=true then(b,25)else if 250≤b.at_.length then(b,13)else(b.stand s id price qty,0)
def zUw (s:Int):Con:=con1 BaI (fun i=>[.nm 0 0,zD i.id,zD s,zD i.price,zD i.qty]) (fun i=>[yC i.b]) (fun i=>i.b.fit) (fun i=>zD (i.b.addF s i.id i.price i.qty).2) (fun i=>[yC (i.b.addF s i.id i.price i.qty).1])
def z5f:List (Nat×SAnn):=[(44,bj 14)]
def badd1C:Con:=zUw 1
def badd2C:Con:=zUw 2
structure BaJ where
 i:BaI
 s:Bool
def baddC:Con:=con1 BaJ (fun j=>[.nm 0 0,zD j.i.id,zD (zB j.s),zD j.i.price,zD j.i.qty]) (fun j=>[yC j.i.b]) (fun j=>j.i.b.fit) (fun j=>zD (j.i.b.addF (zB j.s) j.i.id j.i.price j.i.qty).2) (fun j=>[yC (j.i.b.addF (zB j.s) j.i.id j.i.price j.i.qty).1])
structure SaI where
 s:MSt
 inst:Int
 id:Int
 sd:Bool
 price:Int
 qty:Int
def MSt.bookAt (s:MSt) (n:Int):Book:=s.books.getD n.toNat book0
def MSt.addF (i:SaI):MSt×Int:=
 if i.inst<0∨i.s.books.length≤i.inst then(i.s,20)else if(fG i.s.wh i.id).isSome=true then(i.s,25)else if 250≤i.s.wh.length then(i.s,13)else if i.s.p.price i.inst i.price≠0 then(i.s,i.s.p.price i.inst i.price)
 else
  let x:=(i.s.bookAt i.inst).addF (zB i.sd) i.id i.price i.qty
  ({i.s with books:=i.s.books.set i.inst.toNat x.1,wh:=if x.2=0 then aK i.id i.inst i.s.wh else i.s.wh},x.2)
@[reducible] def MSt.fit (s:MSt):Prop:=s.p.small∧s.books.length≤1000000∧∀b∈s.books,b.fit
def saddC:Con:=con1 SaI (fun i=>[.nm 0 0,zD i.inst,zD i.id,zD (zB i.sd),zD i.price,zD i.qty]) (fun i=>[zC i.s]) (fun i=>i.s.fit) (fun i=>zD (MSt.addF i).2) (fun i=>[zC (MSt.addF i).1])
open Go Cv Go.Proofs
@[reducible] def aS (n:Int) (n_1:Int) (n_2:Int):AObj:=Sx.AObj.cells [V.d (D.v (.int .i64 n)),V.d (D.v (.int .i64 n_1)),V.d (D.v (.int .i64 n_2))] (165:Nat)
@[reducible] def mG (i:BaI) (b:Bool):AObj:=Sx.AObj.cells (uM (jN (0:Nat) (1:Nat) (6:Nat)) [V.nm (1:Nat) (0:Nat),V.own (2:Nat),V.own (3:Nat),V.mp (4:Nat),zD i.b.top1,zD i.b.top2,V.own (5:Nat),yJ i.b.has1,yJ i.b.has2]) (144:TypeId)
@[reducible] def eH (i:BaI) (b:Bool) (o:Unit):Prop:=∃(o:Unit),(i.b.addF 1 i.id i.price i.qty).snd=24∧(i.b.addF 1 i.id i.price i.qty).fst.top1=i.b.top1∧(i.b.addF 1 i.id i.price i.qty).fst.top2=i.b.top2∧(i.b.addF 1 i.id i.price i.qty).fst.has1=i.b.has1∧(i.b.addF 1 i.id i.price i.qty).fst.has2=i.b.has2∧AObj.adt Arena 3 zE (i.b.addF 1 i.id i.price i.qty).fst.a=AObj.adt Arena 3 zE i.b.a∧List.map zA (i.b.addF 1 i.id i.price i.qty).fst.buys=List.map zA i.b.buys∧List.map zA (i.b.addF 1 i.id i.price i.qty).fst.sells=List.map zA i.b.sells∧atE (i.b.addF 1 i.id i.price i.qty).fst.at_=atE i.b.at_∧iE (i.b.addF 1 i.id i.price i.qty).fst.spare=iE i.b.spare∧True
def zLv (i:BaI):Prop:=
 (∀(p:Value×List D),p∈atE i.b.at_→like (Value.int IntKind.i64 i.id) p.fst=true)∧∃(b:Bool),∃(n:Int),∃(n_1:Int),∃(n_2:Int),(qG (Value.int IntKind.i64 i.id) (atE i.b.at_)=some [D.v (.int .i64 n),D.v (.int .i64 n_1),D.v (.int .i64 n_2)]∧b=true∨qG (Value.int IntKind.i64 i.id) (atE i.b.at_)=none∧[D.v (.int .i64 n),D.v (.int .i64 n_1),D.v (.int .i64 n_2)]=[D.v (.int .i64 0),D.v (.int .i64 0),D.v (.int .i64 0)]∧b=false)∧∃(i_1:Int),i_1=1∧True∧∀(o:Unit),True→cnd (!(decide (i_1=1)||decide (i_1=2))) (∃(o:Unit),(i.b.addF 1 i.id i.price i.qty).snd=21∧(i.b.addF 1 i.id i.price i.qty).fst.top1=i.b.top1∧(i.b.addF 1 i.id i.price i.qty).fst.top2=i.b.top2∧(i.b.addF 1 i.id i.price i.qty).fst.has1=i.b.has1∧(i.b.addF 1 i.id i.price i.qty).fst.has2=i.b.has2∧AObj.adt Arena 3 zE (i.b.addF 1 i.id i.price i.qty).fst.a=AObj.adt Arena 3 zE i.b.a∧List.map zA (i.b.addF 1 i.id i.price i.qty).fst.buys=List.map zA i.b.buys∧List.map zA (i.b.addF 1 i.id i.price i.qty).fst.sells=List.map zA i.b.sells∧atE (i.b.addF 1 i.id i.price i.qty).fst.at_=atE i.b.at_∧iE (i.b.addF 1 i.id i.price i.qty).fst.spare=iE i.b.spare∧True) (cnd (decide (i.qty<1)) (eH i b o) (cnd (decide (i.qty>1000000)) (eH i b o) (cnd b (∃(o:Unit),(i.b.addF 1 i.id i.price i.qty).snd=25∧(i.b.addF 1 i.id i.price i.qty).fst.top1=i.b.top1∧(i.b.addF 1 i.id i.price i.qty).fst.top2=i.b.top2∧(i.b.addF 1 i.id i.price i.qty).fst.has1=i.b.has1∧(i.b.addF 1 i.id i.price i.qty).fst.has2=i.b.has2∧AObj.adt Arena 3 zE (i.b.addF 1 i.id i.price i.qty).fst.a=AObj.adt Arena 3 zE i.b.a∧List.map zA (i.b.addF 1 i.id i.price i.qty).fst.buys=List.map zA i.b.buys∧List.map zA (i.b.addF 1 i.id i.price i.qty).fst.sells=List.map zA i.b.sells∧atE (i.b.addF 1 i.id i.price i.qty).fst.at_=atE i.b.at_∧iE (i.b.addF 1 i.id i.price i.qty).fst.spare=iE i.b.spare∧True) (cnd (decide ((↑(atE i.b.at_).length:Int)≥250)) (∃(o:Unit),(i.b.addF 1 i.id i.price i.qty).snd=13∧(i.b.addF 1 i.id i.price i.qty).fst.top1=i.b.top1∧(i.b.addF 1 i.id i.price i.qty).fst.top2=i.b.top2∧(i.b.addF 1 i.id i.price i.qty).fst.has1=i.b.has1∧(i.b.addF 1 i.id i.price i.qty).fst.has2=i.b.has2∧AObj.adt Arena 3 zE (i.b.addF 1 i.id i.price i.qty).fst.a=AObj.adt Arena 3 zE i.b.a∧List.map zA (i.b.addF 1 i.id i.price i.qty).fst.buys=List.map zA i.b.buys∧List.map zA (i.b.addF 1 i.id i.price i.qty).fst.sells=List.map zA i.b.sells∧atE (i.b.addF 1 i.id i.price i.qty).fst.at_=atE i.b.at_∧iE (i.b.addF 1 i.id i.price i.qty).fst.spare=iE i.b.spare∧True) (∃(i0:Bool),∃(I:Bool→Prop),cnd ((↑(List.map zA i.b.buys).length:Int)==0) (∃(i':Bool),i'=true∧I i'∧aS n n_1 n_2=aS n n_1 n_2∧mG i b=mG i b∧AObj.adt Arena 3 zE i.b.a=AObj.adt Arena 3 zE i.b.a∧AObj.own 147 2 (List.map zA i.b.buys)=AObj.own 147 2 (List.map zA i.b.buys)∧AObj.own 147 2 (List.map zA i.b.sells)=AObj.own 147 2 (List.map zA i.b.sells)∧Sx.AObj.map (atE i.b.at_)=Sx.AObj.map (atE i.b.at_)∧AObj.own 3 1 (iE i.b.spare)=AObj.own 3 1 (iE i.b.spare)) (((0:Int)≤(0:Int)∧0<(↑(List.map zA i.b.buys).length:Int))∧∃(n_3:Int),zH (List.map zA i.b.buys) (Int.toNat 0) ((0:Nat)+(0:Nat)) 1=some [D.v (.int .i64 n_3)]∧∃(i_2:I3'),i_2.side=1∧i_2.x=i.price∧i_2.y=n_3∧True∧∀(o:Unit),True→∃(i':Bool),i'=btr i_2.side i_2.x i_2.y∧I i'∧aS n n_1 n_2=aS n n_1 n_2∧mG i b=mG i b∧AObj.adt Arena 3 zE i.b.a=AObj.adt Arena 3 zE i.b.a∧AObj.own 147 2 (List.map zA i.b.buys)=AObj.own 147 2 (List.map zA i.b.buys)∧AObj.own 147 2 (List.map zA i.b.sells)=AObj.own 147 2 (List.map zA i.b.sells)∧Sx.AObj.map (atE i.b.at_)=Sx.AObj.map (atE i.b.at_)∧AObj.own 3 1 (iE i.b.spare)=AObj.own 3 1 (iE i.b.spare))∧∀(i_2:Bool),I i_2→cnd i_2 (∃(i_3:LdI),i_3.id=i.id∧(1:Int)=(1:Int)∧i_3.b.top1=i.b.top1∧i_3.b.top2=i.b.top2∧i_3.b.has1=i.b.has1∧i_3.b.has2=i.b.has2∧AObj.adt Arena 3 zE i_3.b.a=AObj.adt Arena 3 zE i.b.a∧List.map zA i_3.b.buys=List.map zA i.b.buys∧List.map zA i_3.b.sells=List.map zA i.b.sells∧atE i_3.b.at_=atE i.b.at_∧iE i_3.b.spare=iE i.b.spare∧((i_3.b.a.slots.length≤1000000∧i_3.b.a.queues.length≤1000000)∧i_3.b.buys.length≤1000000∧i_3.b.sells.length≤1000000∧i_3.b.spare.length≤1000000)∧∀(o:Unit),True→∃(i_4:BkP),(1:Int)=(1:Int)∧i_4.price=i.price∧i_4.b.top1=i_3.id∧i_4.b.top2=i_3.b.top2∧i_4.b.has1=true∧i_4.b.has2=i_3.b.has2∧AObj.adt Arena 3 zE i_4.b.a=AObj.adt Arena 3 zE (i_3.b.untop 1)∧List.map zA i_4.b.buys=List.map zA i_3.b.buys∧List.map zA i_4.b.sells=List.map zA i_3.b.sells∧atE i_4.b.at_=atE i_3.b.at_∧iE i_4.b.spare=iE i_3.b.spare∧((i_4.b.a.slots.length≤1000000∧(i_4.b.a.free≠0→∃(s:Slot),s∈i_4.b.a.slots∧s.used=false)∧∀(q:qC),q∈i_4.b.a.queues→q.last=(-1)∨0≤q.last∧q.last<(↑i_4.b.a.slots.length:Int))∧i_4.b.a.queues.length≤100000∧i_4.b.buys.length≤100000∧i_4.b.sells.length≤100000∧i_4.b.spare.length≤100000)∧∀(o:Unit),True→True∧∃(i_5:PuI),i_5.n=(i_4.b.queueF 1 i_4.price).snd∧i_5.id=i.id∧i_5.qty=i.qty∧i_5.top=i_2∧AObj.adt Arena 3 zE i_5.a=AObj.adt Arena 3 zE (i_4.b.queueF 1 i_4.price).fst.a∧(i_5.a.slots.length≤1000000∧(i_5.a.free≠0→∃(s:Slot),s∈i_5.a.slots∧s.used=false)∧∀(q:qC),q∈i_5.a.queues→q.last=(-1)∨0≤q.last∧q.last<(↑i_5.a.slots.length:Int))∧∀(o:Unit),True→(∀(p:Value×List D),p∈atE (i_4.b.queueF 1 i_4.price).fst.at_→like (Value.int IntKind.i64 i.id) p.fst=true)∧∃(o:Unit),(i.b.addF 1 i.id i.price i.qty).snd=0∧(i.b.addF 1 i.id i.price i.qty).fst.top1=(i_4.b.queueF 1 i_4.price).fst.top1∧(i.b.addF 1 i.id i.price i.qty).fst.top2=(i_4.b.queueF 1 i_4.price).fst.top2∧(i.b.addF 1 i.id i.price i.qty).fst.has1=(i_4.b.queueF 1 i_4.price).fst.has1∧(i.b.addF 1 i.id i.price i.qty).fst.has2=(i_4.b.queueF 1 i_4.price).fst.has2∧AObj.adt Arena 3 zE (i.b.addF 1 i.id i.price i.qty).fst.a=AObj.adt Arena 3 zE (i_5.a.push i_5.n i_5.id i_5.qty i_5.top).fst∧List.map zA (i.b.addF 1 i.id i.price i.qty).fst.buys=List.map zA (i_4.b.queueF 1 i_4.price).fst.buys∧List.map zA (i.b.addF 1 i.id i.price i.qty).fst.sells=List.map zA (i_4.b.queueF 1 i_4.price).fst.sells∧atE (i.b.addF 1 i.id i.price i.qty).fst.at_=jW (Value.int IntKind.i64 i.id) [D.v (.int .i64 1),D.v (.int .i64 i.price),D.v (.int .i64 (i_5.a.push i_5.n i_5.id i_5.qty i_5.top).snd.fst)] (atE (i_4.b.queueF 1 i_4.price).fst.at_)∧iE (i.b.addF 1 i.id i.price i.qty).fst.spare=iE (i_4.b.queueF 1 i_4.price).fst.spare∧True) (∃(i_3:BkP),(1:Int)=(1:Int)∧i_3.price=i.price∧i_3.b.top1=i.b.top1∧i_3.b.top2=i.b.top2∧i_3.b.has1=i.b.has1∧i_3.b.has2=i.b.has2∧AObj.adt Arena 3 zE i_3.b.a=AObj.adt Arena 3 zE i.b.a∧List.map zA i_3.b.buys=List.map zA i.b.buys∧List.map zA i_3.b.sells=List.map zA i.b.sells∧atE i_3.b.at_=atE i.b.at_∧iE i_3.b.spare=iE i.b.spare∧((i_3.b.a.slots.length≤1000000∧(i_3.b.a.free≠0→∃(s:Slot),s∈i_3.b.a.slots∧s.used=false)∧∀(q:qC),q∈i_3.b.a.queues→q.last=(-1)∨0≤q.last∧q.last<(↑i_3.b.a.slots.length:Int))∧i_3.b.a.queues.length≤100000∧i_3.b.buys.length≤100000∧i_3.b.sells.length≤100000∧i_3.b.spare.length≤100000)∧∀(o:Unit),True→True∧∃(i_4:PuI),i_4.n=(i_3.b.queueF 1 i_3.price).snd∧i_4.id=i.id∧i_4.qty=i.qty∧i_4.top=i_2∧AObj.adt Arena 3 zE i_4.a=AObj.adt Arena 3 zE (i_3.b.queueF 1 i_3.price).fst.a∧(i_4.a.slots.length≤1000000∧(i_4.a.free≠0→∃(s:Slot),s∈i_4.a.slots∧s.used=false)∧∀(q:qC),q∈i_4.a.queues→q.last=(-1)∨0≤q.last∧q.last<(↑i_4.a.slots.length:Int))∧∀(o:Unit),True→(∀(p:Value×List D),p∈atE (i_3.b.queueF 1 i_3.price).fst.at_→like (Value.int IntKind.i64 i.id) p.fst=true)∧∃(o:Unit),(i.b.addF 1 i.id i.price i.qty).snd=0∧(i.b.addF 1 i.id i.price i.qty).fst.top1=(i_3.b.queueF 1 i_3.price).fst.top1∧(i.b.addF 1 i.id i.price i.qty).fst.top2=(i_3.b.queueF 1 i_3.price).fst.top2∧(i.b.addF 1 i.id i.price i.qty).fst.has1=(i_3.b.queueF 1 i_3.price).fst.has1∧(i.b.addF 1 i.id i.price i.qty).fst.has2=(i_3.b.queueF 1 i_3.price).fst.has2∧AObj.adt Arena 3 zE (i.b.addF 1 i.id i.price i.qty).fst.a=AObj.adt Arena 3 zE (i_4.a.push i_4.n i_4.id i_4.qty i_4.top).fst∧List.map zA (i.b.addF 1 i.id i.price i.qty).fst.buys=List.map zA (i_3.b.queueF 1 i_3.price).fst.buys∧List.map zA (i.b.addF 1 i.id i.price i.qty).fst.sells=List.map zA (i_3.b.queueF 1 i_3.price).fst.sells∧atE (i.b.addF 1 i.id i.price i.qty).fst.at_=jW (Value.int IntKind.i64 i.id) [D.v (.int .i64 1),D.v (.int .i64 i.price),D.v (.int .i64 (i_4.a.push i_4.n i_4.id i_4.qty i_4.top).snd.fst)] (atE (i_3.b.queueF 1 i_3.price).fst.at_)∧iE (i.b.addF 1 i.id i.price i.qty).fst.spare=iE (i_3.b.queueF 1 i_3.price).fst.spare∧True))))))
theorem z0o (hG:GOk Tryz.prog ([(80,bisC),(111,bbetterC),(135,lead1C),(137,queue1C),(136,apushC)])) (h:∀(i:BaI),badd1C.cnd i→zLv i):badd1C.ok Tryz.prog 118:=okw mixed hG 0 (fun _=>z5f) (fun _=>[]) [0] Tryz.func118 h
@[reducible] def mR (n:Int) (n_1:Int) (n_2:Int):AObj:=Sx.AObj.cells [V.d (D.v (.int .i64 n)),V.d (D.v (.int .i64 n_1)),V.d (D.v (.int .i64 n_2))] (165:Nat)
@[reducible] def mV (i:BaI) (b:Bool):AObj:=Sx.AObj.cells (uM (jN (0:Nat) (1:Nat) (6:Nat)) [V.nm (1:Nat) (0:Nat),V.own (2:Nat),V.own (3:Nat),V.mp (4:Nat),zD i.b.top1,zD i.b.top2,V.own (5:Nat),yJ i.b.has1,yJ i.b.has2]) (144:TypeId)
@[reducible] def sN (i:BaI) (b:Bool) (o:Unit):Prop:=∃(o:Unit),(i.b.addF 2 i.id i.price i.qty).snd=24∧(i.b.addF 2 i.id i.price i.qty).fst.top1=i.b.top1∧(i.b.addF 2 i.id i.price i.qty).fst.top2=i.b.top2∧(i.b.addF 2 i.id i.price i.qty).fst.has1=i.b.has1∧(i.b.addF 2 i.id i.price i.qty).fst.has2=i.b.has2∧AObj.adt Arena 3 zE (i.b.addF 2 i.id i.price i.qty).fst.a=AObj.adt Arena 3 zE i.b.a∧List.map zA (i.b.addF 2 i.id i.price i.qty).fst.buys=List.map zA i.b.buys∧List.map zA (i.b.addF 2 i.id i.price i.qty).fst.sells=List.map zA i.b.sells∧atE (i.b.addF 2 i.id i.price i.qty).fst.at_=atE i.b.at_∧iE (i.b.addF 2 i.id i.price i.qty).fst.spare=iE i.b.spare∧True
def zKi (i:BaI):Prop:=
 (∀(p:Value×List D),p∈atE i.b.at_→like (Value.int IntKind.i64 i.id) p.fst=true)∧∃(b:Bool),∃(n:Int),∃(n_1:Int),∃(n_2:Int),(qG (Value.int IntKind.i64 i.id) (atE i.b.at_)=some [D.v (.int .i64 n),D.v (.int .i64 n_1),D.v (.int .i64 n_2)]∧b=true∨qG (Value.int IntKind.i64 i.id) (atE i.b.at_)=none∧[D.v (.int .i64 n),D.v (.int .i64 n_1),D.v (.int .i64 n_2)]=[D.v (.int .i64 0),D.v (.int .i64 0),D.v (.int .i64 0)]∧b=false)∧∃(i_1:Int),i_1=2∧True∧∀(o:Unit),True→cnd (!(decide (i_1=1)||decide (i_1=2))) (∃(o:Unit),(i.b.addF 2 i.id i.price i.qty).snd=21∧(i.b.addF 2 i.id i.price i.qty).fst.top1=i.b.top1∧(i.b.addF 2 i.id i.price i.qty).fst.top2=i.b.top2∧(i.b.addF 2 i.id i.price i.qty).fst.has1=i.b.has1∧(i.b.addF 2 i.id i.price i.qty).fst.has2=i.b.has2∧AObj.adt Arena 3 zE (i.b.addF 2 i.id i.price i.qty).fst.a=AObj.adt Arena 3 zE i.b.a∧List.map zA (i.b.addF 2 i.id i.price i.qty).fst.buys=List.map zA i.b.buys∧List.map zA (i.b.addF 2 i.id i.price i.qty).fst.sells=List.map zA i.b.sells∧atE (i.b.addF 2 i.id i.price i.qty).fst.at_=atE i.b.at_∧iE (i.b.addF 2 i.id i.price i.qty).fst.spare=iE i.b.spare∧True) (cnd (decide (i.qty<1)) (sN i b o) (cnd (decide (i.qty>1000000)) (sN i b o) (cnd b (∃(o:Unit),(i.b.addF 2 i.id i.price i.qty).snd=25∧(i.b.addF 2 i.id i.price i.qty).fst.top1=i.b.top1∧(i.b.addF 2 i.id i.price i.qty).fst.top2=i.b.top2∧(i.b.addF 2 i.id i.price i.qty).fst.has1=i.b.has1∧(i.b.addF 2 i.id i.price i.qty).fst.has2=i.b.has2∧AObj.adt Arena 3 zE (i.b.addF 2 i.id i.price i.qty).fst.a=AObj.adt Arena 3 zE i.b.a∧List.map zA (i.b.addF 2 i.id i.price i.qty).fst.buys=List.map zA i.b.buys∧List.map zA (i.b.addF 2 i.id i.price i.qty).fst.sells=List.map zA i.b.sells∧atE (i.b.addF 2 i.id i.price i.qty).fst.at_=atE i.b.at_∧iE (i.b.addF 2 i.id i.price i.qty).fst.spare=iE i.b.spare∧True) (cnd (decide ((↑(atE i.b.at_).length:Int)≥250)) (∃(o:Unit),(i.b.addF 2 i.id i.price i.qty).snd=13∧(i.b.addF 2 i.id i.price i.qty).fst.top1=i.b.top1∧(i.b.addF 2 i.id i.price i.qty).fst.top2=i.b.top2∧(i.b.addF 2 i.id i.price i.qty).fst.has1=i.b.has1∧(i.b.addF 2 i.id i.price i.qty).fst.has2=i.b.has2∧AObj.adt Arena 3 zE (i.b.addF 2 i.id i.price i.qty).fst.a=AObj.adt Arena 3 zE i.b.a∧List.map zA (i.b.addF 2 i.id i.price i.qty).fst.buys=List.map zA i.b.buys∧List.map zA (i.b.addF 2 i.id i.price i.qty).fst.sells=List.map zA i.b.sells∧atE (i.b.addF 2 i.id i.price i.qty).fst.at_=atE i.b.at_∧iE (i.b.addF 2 i.id i.price i.qty).fst.spare=iE i.b.spare∧True) (∃(i0:Bool),∃(I:Bool→Prop),cnd ((↑(List.map zA i.b.sells).length:Int)==0) (∃(i':Bool),i'=true∧I i'∧mR n n_1 n_2=mR n n_1 n_2∧mV i b=mV i b∧AObj.adt Arena 3 zE i.b.a=AObj.adt Arena 3 zE i.b.a∧AObj.own 147 2 (List.map zA i.b.buys)=AObj.own 147 2 (List.map zA i.b.buys)∧AObj.own 147 2 (List.map zA i.b.sells)=AObj.own 147 2 (List.map zA i.b.sells)∧Sx.AObj.map (atE i.b.at_)=Sx.AObj.map (atE i.b.at_)∧AObj.own 3 1 (iE i.b.spare)=AObj.own 3 1 (iE i.b.spare)) (((0:Int)≤(0:Int)∧0<(↑(List.map zA i.b.sells).length:Int))∧∃(n_3:Int),zH (List.map zA i.b.sells) (Int.toNat 0) ((0:Nat)+(0:Nat)) 1=some [D.v (.int .i64 n_3)]∧∃(i_2:I3'),i_2.side=2∧i_2.x=i.price∧i_2.y=n_3∧True∧∀(o:Unit),True→∃(i':Bool),i'=btr i_2.side i_2.x i_2.y∧I i'∧mR n n_1 n_2=mR n n_1 n_2∧mV i b=mV i b∧AObj.adt Arena 3 zE i.b.a=AObj.adt Arena 3 zE i.b.a∧AObj.own 147 2 (List.map zA i.b.buys)=AObj.own 147 2 (List.map zA i.b.buys)∧AObj.own 147 2 (List.map zA i.b.sells)=AObj.own 147 2 (List.map zA i.b.sells)∧Sx.AObj.map (atE i.b.at_)=Sx.AObj.map (atE i.b.at_)∧AObj.own 3 1 (iE i.b.spare)=AObj.own 3 1 (iE i.b.spare))∧∀(i_2:Bool),I i_2→cnd i_2 (∃(i_3:LdI),i_3.id=i.id∧(2:Int)=(2:Int)∧i_3.b.top1=i.b.top1∧i_3.b.top2=i.b.top2∧i_3.b.has1=i.b.has1∧i_3.b.has2=i.b.has2∧AObj.adt Arena 3 zE i_3.b.a=AObj.adt Arena 3 zE i.b.a∧List.map zA i_3.b.buys=List.map zA i.b.buys∧List.map zA i_3.b.sells=List.map zA i.b.sells∧atE i_3.b.at_=atE i.b.at_∧iE i_3.b.spare=iE i.b.spare∧((i_3.b.a.slots.length≤1000000∧i_3.b.a.queues.length≤1000000)∧i_3.b.buys.length≤1000000∧i_3.b.sells.length≤1000000∧i_3.b.spare.length≤1000000)∧∀(o:Unit),True→∃(i_4:BkP),(2:Int)=(2:Int)∧i_4.price=i.price∧i_4.b.top1=i_3.b.top1∧i_4.b.top2=i_3.id∧i_4.b.has1=i_3.b.has1∧i_4.b.has2=true∧AObj.adt Arena 3 zE i_4.b.a=AObj.adt Arena 3 zE (i_3.b.untop 2)∧List.map zA i_4.b.buys=List.map zA i_3.b.buys∧List.map zA i_4.b.sells=List.map zA i_3.b.sells∧atE i_4.b.at_=atE i_3.b.at_∧iE i_4.b.spare=iE i_3.b.spare∧((i_4.b.a.slots.length≤1000000∧(i_4.b.a.free≠0→∃(s:Slot),s∈i_4.b.a.slots∧s.used=false)∧∀(q:qC),q∈i_4.b.a.queues→q.last=(-1)∨0≤q.last∧q.last<(↑i_4.b.a.slots.length:Int))∧i_4.b.a.queues.length≤100000∧i_4.b.buys.length≤100000∧i_4.b.sells.length≤100000∧i_4.b.spare.length≤100000)∧∀(o:Unit),True→True∧∃(i_5:PuI),i_5.n=(i_4.b.queueF 2 i_4.price).snd∧i_5.id=i.id∧i_5.qty=i.qty∧i_5.top=i_2∧AObj.adt Arena 3 zE i_5.a=AObj.adt Arena 3 zE (i_4.b.queueF 2 i_4.price).fst.a∧(i_5.a.slots.length≤1000000∧(i_5.a.free≠0→∃(s:Slot),s∈i_5.a.slots∧s.used=false)∧∀(q:qC),q∈i_5.a.queues→q.last=(-1)∨0≤q.last∧q.last<(↑i_5.a.slots.length:Int))∧∀(o:Unit),True→(∀(p:Value×List D),p∈atE (i_4.b.queueF 2 i_4.price).fst.at_→like (Value.int IntKind.i64 i.id) p.fst=true)∧∃(o:Unit),(i.b.addF 2 i.id i.price i.qty).snd=0∧(i.b.addF 2 i.id i.price i.qty).fst.top1=(i_4.b.queueF 2 i_4.price).fst.top1∧(i.b.addF 2 i.id i.price i.qty).fst.top2=(i_4.b.queueF 2 i_4.price).fst.top2∧(i.b.addF 2 i.id i.price i.qty).fst.has1=(i_4.b.queueF 2 i_4.price).fst.has1∧(i.b.addF 2 i.id i.price i.qty).fst.has2=(i_4.b.queueF 2 i_4.price).fst.has2∧AObj.adt Arena 3 zE (i.b.addF 2 i.id i.price i.qty).fst.a=AObj.adt Arena 3 zE (i_5.a.push i_5.n i_5.id i_5.qty i_5.top).fst∧List.map zA (i.b.addF 2 i.id i.price i.qty).fst.buys=List.map zA (i_4.b.queueF 2 i_4.price).fst.buys∧List.map zA (i.b.addF 2 i.id i.price i.qty).fst.sells=List.map zA (i_4.b.queueF 2 i_4.price).fst.sells∧atE (i.b.addF 2 i.id i.price i.qty).fst.at_=jW (Value.int IntKind.i64 i.id) [D.v (.int .i64 2),D.v (.int .i64 i.price),D.v (.int .i64 (i_5.a.push i_5.n i_5.id i_5.qty i_5.top).snd.fst)] (atE (i_4.b.queueF 2 i_4.price).fst.at_)∧iE (i.b.addF 2 i.id i.price i.qty).fst.spare=iE (i_4.b.queueF 2 i_4.price).fst.spare∧True) (∃(i_3:BkP),(2:Int)=(2:Int)∧i_3.price=i.price∧i_3.b.top1=i.b.top1∧i_3.b.top2=i.b.top2∧i_3.b.has1=i.b.has1∧i_3.b.has2=i.b.has2∧AObj.adt Arena 3 zE i_3.b.a=AObj.adt Arena 3 zE i.b.a∧List.map zA i_3.b.buys=List.map zA i.b.buys∧List.map zA i_3.b.sells=List.map zA i.b.sells∧atE i_3.b.at_=atE i.b.at_∧iE i_3.b.spare=iE i.b.spare∧((i_3.b.a.slots.length≤1000000∧(i_3.b.a.free≠0→∃(s:Slot),s∈i_3.b.a.slots∧s.used=false)∧∀(q:qC),q∈i_3.b.a.queues→q.last=(-1)∨0≤q.last∧q.last<(↑i_3.b.a.slots.length:Int))∧i_3.b.a.queues.length≤100000∧i_3.b.buys.length≤100000∧i_3.b.sells.length≤100000∧i_3.b.spare.length≤100000)∧∀(o:Unit),True→True∧∃(i_4:PuI),i_4.n=(i_3.b.queueF 2 i_3.price).snd∧i_4.id=i.id∧i_4.qty=i.qty∧i_4.top=i_2∧AObj.adt Arena 3 zE i_4.a=AObj.adt Arena 3 zE (i_3.b.queueF 2 i_3.price).fst.a∧(i_4.a.slots.length≤1000000∧(i_4.a.free≠0→∃(s:Slot),s∈i_4.a.slots∧s.used=false)∧∀(q:qC),q∈i_4.a.queues→q.last=(-1)∨0≤q.last∧q.last<(↑i_4.a.slots.length:Int))∧∀(o:Unit),True→(∀(p:Value×List D),p∈atE (i_3.b.queueF 2 i_3.price).fst.at_→like (Value.int IntKind.i64 i.id) p.fst=true)∧∃(o:Unit),(i.b.addF 2 i.id i.price i.qty).snd=0∧(i.b.addF 2 i.id i.price i.qty).fst.top1=(i_3.b.queueF 2 i_3.price).fst.top1∧(i.b.addF 2 i.id i.price i.qty).fst.top2=(i_3.b.queueF 2 i_3.price).fst.top2∧(i.b.addF 2 i.id i.price i.qty).fst.has1=(i_3.b.queueF 2 i_3.price).fst.has1∧(i.b.addF 2 i.id i.price i.qty).fst.has2=(i_3.b.queueF 2 i_3.price).fst.has2∧AObj.adt Arena 3 zE (i.b.addF 2 i.id i.price i.qty).fst.a=AObj.adt Arena 3 zE (i_4.a.push i_4.n i_4.id i_4.qty i_4.top).fst∧List.map zA (i.b.addF 2 i.id i.price i.qty).fst.buys=List.map zA (i_3.b.queueF 2 i_3.price).fst.buys∧List.map zA (i.b.addF 2 i.id i.price i.qty).fst.sells=List.map zA (i_3.b.queueF 2 i_3.price).fst.sells∧atE (i.b.addF 2 i.id i.price i.qty).fst.at_=jW (Value.int IntKind.i64 i.id) [D.v (.int .i64 2),D.v (.int .i64 i.price),D.v (.int .i64 (i_4.a.push i_4.n i_4.id i_4.qty i_4.top).snd.fst)] (atE (i_3.b.queueF 2 i_3.price).fst.at_)∧iE (i.b.addF 2 i.id i.price i.qty).fst.spare=iE (i_3.b.queueF 2 i_3.price).fst.spare∧True))))))
theorem z1y (hG:GOk Tryz.prog ([(80,bisC),(111,bbetterC),(135,lead2C),(137,queue2C),(136,apushC)])) (h:∀(i:BaI),badd2C.cnd i→zKi i):badd2C.ok Tryz.prog 118:=okw mixed hG 0 (fun _=>z5f) (fun _=>[]) [0] Tryz.func118 h
@[reducible] def zFg (i:SaI):Prop:=∃(o:Unit),(MSt.addF i).snd=20∧sb (MSt.addF i).fst.p.code=sb i.s.p.code∧(MSt.addF i).fst.p.tick=i.s.p.tick∧(MSt.addF i).fst.p.low=i.s.p.low∧(MSt.addF i).fst.p.high=i.s.p.high∧(MSt.addF i).fst.p.wide=i.s.p.wide∧(MSt.addF i).fst.p.rule=i.s.p.rule∧(MSt.addF i).fst.p.top=i.s.p.top∧(MSt.addF i).fst.p.least=i.s.p.least∧(MSt.addF i).fst.p.part=i.s.p.part∧AObj.objs 102 Book 6 zN (MSt.addF i).fst.books none=AObj.objs 102 Book 6 zN i.s.books none∧yA (MSt.addF i).fst.wh=yA i.s.wh∧AObj.fro 1 (iE (MSt.addF i).fst.p.months)=AObj.fro 1 (iE i.s.p.months)∧AObj.fro 1 (iE (MSt.addF i).fst.p.settle)=AObj.fro 1 (iE i.s.p.settle)∧True
def zVm (i:SaI):Prop:=
 (∀(p:Value×List D),p∈yA i.s.wh→like (Value.int IntKind.i64 i.id) p.fst=true)∧∃(b:Bool),∃(n:Int),(qG (Value.int IntKind.i64 i.id) (yA i.s.wh)=some [D.v (.int .i64 n)]∧b=true∨qG (Value.int IntKind.i64 i.id) (yA i.s.wh)=none∧[D.v (.int .i64 n)]=[D.v (.int .i64 0)]∧b=false)∧cnd (decide (i.inst≥0)) (cnd (!decide (i.inst<(↑i.s.books.length:Int))) (zFg i) (cnd b (∃(o:Unit),(MSt.addF i).snd=25∧sb (MSt.addF i).fst.p.code=sb i.s.p.code∧(MSt.addF i).fst.p.tick=i.s.p.tick∧(MSt.addF i).fst.p.low=i.s.p.low∧(MSt.addF i).fst.p.high=i.s.p.high∧(MSt.addF i).fst.p.wide=i.s.p.wide∧(MSt.addF i).fst.p.rule=i.s.p.rule∧(MSt.addF i).fst.p.top=i.s.p.top∧(MSt.addF i).fst.p.least=i.s.p.least∧(MSt.addF i).fst.p.part=i.s.p.part∧AObj.objs 102 Book 6 zN (MSt.addF i).fst.books none=AObj.objs 102 Book 6 zN i.s.books none∧yA (MSt.addF i).fst.wh=yA i.s.wh∧AObj.fro 1 (iE (MSt.addF i).fst.p.months)=AObj.fro 1 (iE i.s.p.months)∧AObj.fro 1 (iE (MSt.addF i).fst.p.settle)=AObj.fro 1 (iE i.s.p.settle)∧True) (cnd (decide ((↑(yA i.s.wh).length:Int)≥250)) (∃(o:Unit),(MSt.addF i).snd=13∧sb (MSt.addF i).fst.p.code=sb i.s.p.code∧(MSt.addF i).fst.p.tick=i.s.p.tick∧(MSt.addF i).fst.p.low=i.s.p.low∧(MSt.addF i).fst.p.high=i.s.p.high∧(MSt.addF i).fst.p.wide=i.s.p.wide∧(MSt.addF i).fst.p.rule=i.s.p.rule∧(MSt.addF i).fst.p.top=i.s.p.top∧(MSt.addF i).fst.p.least=i.s.p.least∧(MSt.addF i).fst.p.part=i.s.p.part∧AObj.objs 102 Book 6 zN (MSt.addF i).fst.books none=AObj.objs 102 Book 6 zN i.s.books none∧yA (MSt.addF i).fst.wh=yA i.s.wh∧AObj.fro 1 (iE (MSt.addF i).fst.p.months)=AObj.fro 1 (iE i.s.p.months)∧AObj.fro 1 (iE (MSt.addF i).fst.p.settle)=AObj.fro 1 (iE i.s.p.settle)∧True) (∃(i_1:fH),sb i_1.p.code=sb i.s.p.code∧iE i_1.p.months=iE i.s.p.months∧i_1.p.tick=i.s.p.tick∧i_1.p.low=i.s.p.low∧i_1.p.high=i.s.p.high∧i_1.p.wide=i.s.p.wide∧i_1.p.rule=i.s.p.rule∧i_1.p.top=i.s.p.top∧i_1.p.least=i.s.p.least∧i_1.p.part=i.s.p.part∧iE i_1.p.settle=iE i.s.p.settle∧i_1.a=i.inst∧i_1.b=i.price∧(i_1.p.code.length≤1099511627776∧i_1.p.months.length≤1099511627776∧i_1.p.settle.length≤1099511627776)∧∀(o:Unit),True→cnd (i_1.p.price i_1.a i_1.b !=0) (∃(o:Unit),(MSt.addF i).snd=i_1.p.price i_1.a i_1.b∧sb (MSt.addF i).fst.p.code=sb i.s.p.code∧(MSt.addF i).fst.p.tick=i.s.p.tick∧(MSt.addF i).fst.p.low=i.s.p.low∧(MSt.addF i).fst.p.high=i.s.p.high∧(MSt.addF i).fst.p.wide=i.s.p.wide∧(MSt.addF i).fst.p.rule=i.s.p.rule∧(MSt.addF i).fst.p.top=i.s.p.top∧(MSt.addF i).fst.p.least=i.s.p.least∧(MSt.addF i).fst.p.part=i.s.p.part∧AObj.objs 102 Book 6 zN (MSt.addF i).fst.books none=AObj.objs 102 Book 6 zN i.s.books none∧yA (MSt.addF i).fst.wh=yA i.s.wh∧AObj.fro 1 (iE (MSt.addF i).fst.p.months)=AObj.fro 1 (iE i.s.p.months)∧AObj.fro 1 (iE (MSt.addF i).fst.p.settle)=AObj.fro 1 (iE i.s.p.settle)∧True) ((0≤i.inst∧i.inst<(↑i.s.books.length:Int))∧i.inst.toNat<i.s.books.length∧∃(x:Book),i.s.books[i.inst.toNat]?=some x∧∃(i_2:BaJ),i_2.i.id=i.id∧zB i_2.s=zB i.sd∧i_2.i.price=i.price∧i_2.i.qty=i.qty∧yC i_2.i.b=yC x∧((i_2.i.b.a.slots.length≤1000000∧(i_2.i.b.a.free≠0→∃(s:Slot),s∈i_2.i.b.a.slots∧s.used=false)∧∀(q:qC),q∈i_2.i.b.a.queues→q.last=(-1)∨0≤q.last∧q.last<(↑i_2.i.b.a.slots.length:Int))∧i_2.i.b.a.queues.length≤100000∧i_2.i.b.buys.length≤100000∧i_2.i.b.sells.length≤100000∧i_2.i.b.spare.length≤100000)∧∀(o:Unit),True→∃(x:Book),yC (i_2.i.b.addF (zB i_2.s) i_2.i.id i_2.i.price i_2.i.qty).fst=yC x∧i.inst.toNat=i.inst.toNat∧i.inst.toNat<i.s.books.length∧cnd ((i_2.i.b.addF (zB i_2.s) i_2.i.id i_2.i.price i_2.i.qty).snd==0) ((∀(p:Value×List D),p∈yA i.s.wh→like (Value.int IntKind.i64 i.id) p.fst=true)∧∃(o:Unit),(MSt.addF i).snd=(i_2.i.b.addF (zB i_2.s) i_2.i.id i_2.i.price i_2.i.qty).snd∧sb (MSt.addF i).fst.p.code=sb i.s.p.code∧(MSt.addF i).fst.p.tick=i.s.p.tick∧(MSt.addF i).fst.p.low=i.s.p.low∧(MSt.addF i).fst.p.high=i.s.p.high∧(MSt.addF i).fst.p.wide=i.s.p.wide∧(MSt.addF i).fst.p.rule=i.s.p.rule∧(MSt.addF i).fst.p.top=i.s.p.top∧(MSt.addF i).fst.p.least=i.s.p.least∧(MSt.addF i).fst.p.part=i.s.p.part∧AObj.objs 102 Book 6 zN (MSt.addF i).fst.books none=AObj.objs 102 Book 6 zN (i.s.books.set i.inst.toNat x) none∧yA (MSt.addF i).fst.wh=jW (Value.int IntKind.i64 i.id) [D.v (.int .i64 i.inst)] (yA i.s.wh)∧AObj.fro 1 (iE (MSt.addF i).fst.p.months)=AObj.fro 1 (iE i.s.p.months)∧AObj.fro 1 (iE (MSt.addF i).fst.p.settle)=AObj.fro 1 (iE i.s.p.settle)∧True) (∃(o:Unit),(MSt.addF i).snd=(i_2.i.b.addF (zB i_2.s) i_2.i.id i_2.i.price i_2.i.qty).snd∧sb (MSt.addF i).fst.p.code=sb i.s.p.code∧(MSt.addF i).fst.p.tick=i.s.p.tick∧(MSt.addF i).fst.p.low=i.s.p.low∧(MSt.addF i).fst.p.high=i.s.p.high∧(MSt.addF i).fst.p.wide=i.s.p.wide∧(MSt.addF i).fst.p.rule=i.s.p.rule∧(MSt.addF i).fst.p.top=i.s.p.top∧(MSt.addF i).fst.p.least=i.s.p.least∧(MSt.addF i).fst.p.part=i.s.p.part∧AObj.objs 102 Book 6 zN (MSt.addF i).fst.books none=AObj.objs 102 Book 6 zN (i.s.books.set i.inst.toNat x) none∧yA (MSt.addF i).fst.wh=yA i.s.wh∧AObj.fro 1 (iE (MSt.addF i).fst.p.months)=AObj.fro 1 (iE i.s.p.months)∧AObj.fro 1 (iE (MSt.addF i).fst.p.settle)=AObj.fro 1 (iE i.s.p.settle)∧True)))))) (zFg i)
theorem z9s (hG:GOk Tryz.prog ([(72,priceC),(118,baddC)])) (h:∀(i:SaI),saddC.cnd i→zVm i):saddC.ok Tryz.prog 98:=okw mixed hG 1 (fun _=>[]) (fun _=>[]) [0] Tryz.func98 h
open Go Cv Go.Proofs
theorem eU {α:Type} {f:α→α} {Q:α→Prop} (hf:∀x,Q x→Q (f x)):∀{l:List α} (i:Nat),(∃x∈l,Q x)→∃x∈l.modify i f,Q x
 |[],i,⟨x,hx,_⟩=>by cases hx
 |a::l,0,⟨x,hx,q⟩=>by
  rcases List.mem_cons.1 hx with rfl|hx
  ·exact⟨f x,List.mem_cons_self,hf x q⟩
  ·exact⟨x,List.mem_cons_of_mem _ hx,q⟩
 |a::l,i+1,⟨x,hx,q⟩=>by
  rw[List.modify_succ_cons]
  rcases List.mem_cons.1 hx with rfl|hx
  ·exact⟨x,List.mem_cons_self,q⟩
  ·obtain⟨y,hy,hq⟩:=eU hf (l:=l) i ⟨x,hx,q⟩
   exact⟨y,List.mem_cons_of_mem _ hy,hq⟩
theorem zWm {a:Arena} (h:a.fit) (n:Int) (t:Bool):(a.topF n t).fit:=by
 obtain⟨h1,h2,h3⟩:=h
 rw[Arena.topF]
 split
 ·refine⟨by simpa using h1,fun hf=> ?_,by simpa using h3⟩
  exact eU (f:=fun s:Slot=>{s with top:=t}) (Q:=fun s=>s.used=false) (fun x hx=>hx) _ (h2 hf)
 ·exact⟨h1,h2,h3⟩
theorem zTa {b:Book} (h:b.a.fit) (s:Int):(b.untop s).fit:=by
 rw[Book.untop]
 repeat' split
 all_goals first|exact h|exact zWm h _ _
theorem zTg {a:Arena} (h:a.fit):a.openQ.fit:=by
 obtain⟨h1,h2,h3⟩:=h
 refine⟨h1,h2,fun q hq=> ?_⟩
 rcases List.mem_append.1 hq with hq|hq
 ·exact h3 q hq
 ·rw[List.mem_singleton.1 hq];exact .inl rfl
theorem zGs {b:Book} (h:b.a.fit):b.newQ.2.2.fit:=by
 rw[Book.newQ]
 split
 ·exact zTg h
 ·exact h
theorem gY {b:Book} (h:b.a.fit) (s p:Int):(b.queueF s p).1.a.fit:=by
 rw[Book.queueF]
 repeat' split
 ·exact h
 ·exact zGs h
 ·exact zGs h
theorem zSt (b:Book) (s:Int):(b.untop s).slots.length=b.a.slots.length∧(b.untop s).queues=b.a.queues:=by
 have ht:∀n t,(b.a.topF n t).slots.length=b.a.slots.length∧(b.a.topF n t).queues=b.a.queues:=by
  intro n t
  rw[Arena.topF]
  split
  ·exact⟨by simp,rfl⟩
  ·exact⟨rfl,rfl⟩
 rw[Book.untop]
 repeat' split
 all_goals first|exact⟨rfl,rfl⟩|exact ht _ _
theorem zAx {b:Book} (h:b.fit) (id s:Int):(b.leadF id s).fit:=by
 obtain⟨h1,h2,h3,h4,h5⟩:=h
 have hl:=zSt b s
 rw[Book.leadF]
 split
 all_goals exact⟨zTa h1 s,by rw[hl.2];exact h2,h3,h4,h5⟩
theorem zBh {b:Book} (h:b.fit):b.small:=by
 obtain⟨⟨h1,_⟩,h2,h3,h4,h5⟩:=h
 exact⟨⟨h1,by omega⟩,by omega,by omega,by omega⟩
theorem yAh (i:BaI) (h:badd1C.cnd i):zLv i:=by
 have hfit:i.b.fit:=h
 have hsm:=zBh hfit
 unfold zLv eH
 have plc:∀(b:Book) (x:Int),jW (Value.int IntKind.i64 i.id) [D.v (.int .i64 1),D.v (.int .i64 i.price),D.v (.int .i64 x)] (atE b.at_)=atE (gW i.id ⟨1,i.price,x⟩ b.at_):=fun b x=>zFk i.id ⟨1,i.price,x⟩ b.at_
 refine⟨qU _ _,(pget i.b.at_ i.id).isSome,_,_,_,zBi _ _,1,rfl,trivial,fun _ _=> ?_⟩
 refine Cv.cnd.mk (fun c=>absurd c (by decide)) fun _=> ?_
 refine zQ (fun c=> ?_) (fun c=>zQ (fun d=> ?_) (fun d=> ?_))
 ·have ha:i.b.addF 1 i.id i.price i.qty=(i.b,24):=by rw[Book.addF,if_pos (.inl c)]
  rw[ha];(repeat'(first|exact rfl|exact trivial|assumption|apply And.intro|refine fun(_:Unit) (_:True)=>?_|refine Exists.intro () ?_|omega|(dsimp only;omega)))
 ·have ha:i.b.addF 1 i.id i.price i.qty=(i.b,24):=by rw[Book.addF,if_pos (.inr d)]
  rw[ha];(repeat'(first|exact rfl|exact trivial|assumption|apply And.intro|refine fun(_:Unit) (_:True)=>?_|refine Exists.intro () ?_|omega|(dsimp only;omega)))
 have hq:¬(i.qty<1∨1000000<i.qty):=by omega
 refine Cv.cnd.mk (fun e=> ?_) (fun e=> ?_)
 ·have ha:i.b.addF 1 i.id i.price i.qty=(i.b,25):=by rw[Book.addF,if_neg hq,if_pos e]
  rw[ha];(repeat'(first|exact rfl|exact trivial|assumption|apply And.intro|refine fun(_:Unit) (_:True)=>?_|refine Exists.intro () ?_|omega|(dsimp only;omega)))
 have hlen:(atE i.b.at_).length=i.b.at_.length:=by simp[atE]
 rw[hlen]
 refine zQ (fun f=> ?_) (fun f=> ?_)
 ·have ha:i.b.addF 1 i.id i.price i.qty=(i.b,13):=by rw[Book.addF,if_neg hq,if_neg (by rw[e];decide),if_pos (by omega)]
  rw[ha];(repeat'(first|exact rfl|exact trivial|assumption|apply And.intro|refine fun(_:Unit) (_:True)=>?_|refine Exists.intro () ?_|omega|(dsimp only;omega)))
 have ha:i.b.addF 1 i.id i.price i.qty=(i.b.stand 1 i.id i.price i.qty,0):=by rw[Book.addF,if_neg hq,if_neg (by rw[e];decide),if_neg (by omega)]
 rw[ha]
 simp only[List.length_map]
 refine⟨true,fun x=>x=i.b.leads 1 i.price,Cv.cnd.mk (fun g=>⟨true,rfl,?_,by(repeat'(first|exact trivial|exact rfl|apply And.intro))⟩) (fun g=> ?_),fun x hx=> ?_⟩
 ·have:i.b.buys=[]:=List.eq_nil_of_length_eq_zero (by have:(i.b.buys.length:Int)=0:=(by simpa using g);omega)
  rw[Book.leads,hJ,this]
 ·obtain⟨r,l,hl⟩:∃r l,i.b.buys=r::l:=by
   cases hb:i.b.buys with
   |nil=>rw[hb]at g;exact absurd g (by decide)
   |cons r l=>exact⟨r,l,rfl⟩
  refine⟨⟨by omega,by rw[hl,List.length_cons];omega⟩,r.price,elA (x:=r) (by rw[hl];rfl) (by simp[zA]) rfl,⟨1,i.price,r.price⟩,rfl,rfl,rfl,trivial,fun _ _=>⟨_,rfl,?_,by(repeat'(first|exact trivial|exact rfl|apply And.intro))⟩⟩
  rw[Book.leads,hJ,hl]
 subst hx
 refine Cv.cnd.mk (fun g=> ?_) (fun g=> ?_)
 ·have hled:i.b.led i.id 1 i.price=i.b.leadF i.id 1:=by rw[Book.led,if_pos g]
  have hf1:=zAx hfit i.id 1
  have hst:i.b.stand 1 i.id i.price i.qty={((i.b.leadF i.id 1).queueF 1 i.price).1 with a:=(((i.b.leadF i.id 1).queueF 1 i.price).1.a.push ((i.b.leadF i.id 1).queueF 1 i.price).2 i.id i.qty (i.b.leads 1 i.price)).1,at_:=gW i.id ⟨1,i.price,(((i.b.leadF i.id 1).queueF 1 i.price).1.a.push ((i.b.leadF i.id 1).queueF 1 i.price).2 i.id i.qty (i.b.leads 1 i.price)).2.1⟩ ((i.b.leadF i.id 1).queueF 1 i.price).1.at_}:=by
   simp only[Book.stand,hled]
  refine⟨⟨i.b,i.id⟩,rfl,trivial,rfl,rfl,rfl,rfl,rfl,rfl,rfl,rfl,rfl,hsm,fun _ _=>⟨⟨i.b.leadF i.id 1,i.price⟩,trivial,rfl,rfl,rfl,rfl,rfl,rfl,rfl,rfl,rfl,rfl,hf1,fun _ _=>⟨trivial,?_⟩⟩⟩
  refine⟨⟨((i.b.leadF i.id 1).queueF 1 i.price).1.a,((i.b.leadF i.id 1).queueF 1 i.price).2,i.id,i.qty,i.b.leads 1 i.price⟩,rfl,rfl,rfl,rfl,rfl,gY hf1.1 1 i.price,fun _ _=>⟨qU _ _,(),?_⟩⟩
  dsimp only
  rw[hst,plc]
  (repeat'(first|exact rfl|exact trivial|assumption|apply And.intro|refine fun(_:Unit) (_:True)=>?_|refine Exists.intro () ?_|omega|(dsimp only;omega)))
 ·have hled:i.b.led i.id 1 i.price=i.b:=by rw[Book.led,if_neg (by rw[g];decide)]
  have hst:i.b.stand 1 i.id i.price i.qty={(i.b.queueF 1 i.price).1 with a:=((i.b.queueF 1 i.price).1.a.push (i.b.queueF 1 i.price).2 i.id i.qty (i.b.leads 1 i.price)).1,at_:=gW i.id ⟨1,i.price,((i.b.queueF 1 i.price).1.a.push (i.b.queueF 1 i.price).2 i.id i.qty (i.b.leads 1 i.price)).2.1⟩ (i.b.queueF 1 i.price).1.at_}:=by
   simp only[Book.stand,hled]
  refine⟨⟨i.b,i.price⟩,trivial,rfl,rfl,rfl,rfl,rfl,rfl,rfl,rfl,rfl,rfl,hfit,fun _ _=>⟨trivial,?_⟩⟩
  refine⟨⟨(i.b.queueF 1 i.price).1.a,(i.b.queueF 1 i.price).2,i.id,i.qty,i.b.leads 1 i.price⟩,rfl,rfl,rfl,rfl,rfl,gY hfit.1 1 i.price,fun _ _=>⟨qU _ _,(),?_⟩⟩
  dsimp only
  rw[hst,plc]
  (repeat'(first|exact rfl|exact trivial|assumption|apply And.intro|refine fun(_:Unit) (_:True)=>?_|refine Exists.intro () ?_|omega|(dsimp only;omega)))
theorem zWu:badd1C.ok Tryz.prog 118:=z0o (gokc nZ (gokc uH (gokc zUz (gokc zSb (gokc zJj gok0))))) yAh
theorem yAk (i:BaI) (h:badd2C.cnd i):zKi i:=by
 have hfit:i.b.fit:=h
 have hsm:=zBh hfit
 unfold zKi sN
 have plc:∀(b:Book) (x:Int),jW (Value.int IntKind.i64 i.id) [D.v (.int .i64 2),D.v (.int .i64 i.price),D.v (.int .i64 x)] (atE b.at_)=atE (gW i.id ⟨2,i.price,x⟩ b.at_):=fun b x=>zFk i.id ⟨2,i.price,x⟩ b.at_
 refine⟨qU _ _,(pget i.b.at_ i.id).isSome,_,_,_,zBi _ _,2,rfl,trivial,fun _ _=> ?_⟩
 refine Cv.cnd.mk (fun c=>absurd c (by decide)) fun _=> ?_
 refine zQ (fun c=> ?_) (fun c=>zQ (fun d=> ?_) (fun d=> ?_))
 ·have ha:i.b.addF 2 i.id i.price i.qty=(i.b,24):=by rw[Book.addF,if_pos (.inl c)]
  rw[ha];(repeat'(first|exact rfl|exact trivial|assumption|apply And.intro|refine fun(_:Unit) (_:True)=>?_|refine Exists.intro () ?_|omega|(dsimp only;omega)))
 ·have ha:i.b.addF 2 i.id i.price i.qty=(i.b,24):=by rw[Book.addF,if_pos (.inr d)]
  rw[ha];(repeat'(first|exact rfl|exact trivial|assumption|apply And.intro|refine fun(_:Unit) (_:True)=>?_|refine Exists.intro () ?_|omega|(dsimp only;omega)))
 have hq:¬(i.qty<1∨1000000<i.qty):=by omega
 refine Cv.cnd.mk (fun e=> ?_) (fun e=> ?_)
 ·have ha:i.b.addF 2 i.id i.price i.qty=(i.b,25):=by rw[Book.addF,if_neg hq,if_pos e]
  rw[ha];(repeat'(first|exact rfl|exact trivial|assumption|apply And.intro|refine fun(_:Unit) (_:True)=>?_|refine Exists.intro () ?_|omega|(dsimp only;omega)))
 have hlen:(atE i.b.at_).length=i.b.at_.length:=by simp[atE]
 rw[hlen]
 refine zQ (fun f=> ?_) (fun f=> ?_)
 ·have ha:i.b.addF 2 i.id i.price i.qty=(i.b,13):=by rw[Book.addF,if_neg hq,if_neg (by rw[e];decide),if_pos (by omega)]
  rw[ha];(repeat'(first|exact rfl|exact trivial|assumption|apply And.intro|refine fun(_:Unit) (_:True)=>?_|refine Exists.intro () ?_|omega|(dsimp only;omega)))
 have ha:i.b.addF 2 i.id i.price i.qty=(i.b.stand 2 i.id i.price i.qty,0):=by rw[Book.addF,if_neg hq,if_neg (by rw[e];decide),if_neg (by omega)]
 rw[ha]
 simp only[List.length_map]
 refine⟨true,fun x=>x=i.b.leads 2 i.price,Cv.cnd.mk (fun g=>⟨true,rfl,?_,by(repeat'(first|exact trivial|exact rfl|apply And.intro))⟩) (fun g=> ?_),fun x hx=> ?_⟩
 ·have:i.b.sells=[]:=List.eq_nil_of_length_eq_zero (by have:(i.b.sells.length:Int)=0:=(by simpa using g);omega)
  rw[Book.leads,fA,this]
 ·obtain⟨r,l,hl⟩:∃r l,i.b.sells=r::l:=by
   cases hb:i.b.sells with
   |nil=>rw[hb]at g;exact absurd g (by decide)
   |cons r l=>exact⟨r,l,rfl⟩
  refine⟨⟨by omega,by rw[hl,List.length_cons];omega⟩,r.price,elA (x:=r) (by rw[hl];rfl) (by simp[zA]) rfl,⟨2,i.price,r.price⟩,rfl,rfl,rfl,trivial,fun _ _=>⟨_,rfl,?_,by(repeat'(first|exact trivial|exact rfl|apply And.intro))⟩⟩
  rw[Book.leads,fA,hl]
 subst hx
 refine Cv.cnd.mk (fun g=> ?_) (fun g=> ?_)
 ·have hled:i.b.led i.id 2 i.price=i.b.leadF i.id 2:=by rw[Book.led,if_pos g]
  have hf1:=zAx hfit i.id 2
  have hst:i.b.stand 2 i.id i.price i.qty={((i.b.leadF i.id 2).queueF 2 i.price).1 with a:=(((i.b.leadF i.id 2).queueF 2 i.price).1.a.push ((i.b.leadF i.id 2).queueF 2 i.price).2 i.id i.qty (i.b.leads 2 i.price)).1,at_:=gW i.id ⟨2,i.price,(((i.b.leadF i.id 2).queueF 2 i.price).1.a.push ((i.b.leadF i.id 2).queueF 2 i.price).2 i.id i.qty (i.b.leads 2 i.price)).2.1⟩ ((i.b.leadF i.id 2).queueF 2 i.price).1.at_}:=by
   simp only[Book.stand,hled]
  refine⟨⟨i.b,i.id⟩,rfl,trivial,rfl,rfl,rfl,rfl,rfl,rfl,rfl,rfl,rfl,hsm,fun _ _=>⟨⟨i.b.leadF i.id 2,i.price⟩,trivial,rfl,rfl,rfl,rfl,rfl,rfl,rfl,rfl,rfl,rfl,hf1,fun _ _=>⟨trivial,?_⟩⟩⟩
  refine⟨⟨((i.b.leadF i.id 2).queueF 2 i.price).1.a,((i.b.leadF i.id 2).queueF 2 i.price).2,i.id,i.qty,i.b.leads 2 i.price⟩,rfl,rfl,rfl,rfl,rfl,gY hf1.1 2 i.price,fun _ _=>⟨qU _ _,(),?_⟩⟩
  dsimp only
  rw[hst,plc]
  (repeat'(first|exact rfl|exact trivial|assumption|apply And.intro|refine fun(_:Unit) (_:True)=>?_|refine Exists.intro () ?_|omega|(dsimp only;omega)))
 ·have hled:i.b.led i.id 2 i.price=i.b:=by rw[Book.led,if_neg (by rw[g];decide)]
  have hst:i.b.stand 2 i.id i.price i.qty={(i.b.queueF 2 i.price).1 with a:=((i.b.queueF 2 i.price).1.a.push (i.b.queueF 2 i.price).2 i.id i.qty (i.b.leads 2 i.price)).1,at_:=gW i.id ⟨2,i.price,((i.b.queueF 2 i.price).1.a.push (i.b.queueF 2 i.price).2 i.id i.qty (i.b.leads 2 i.price)).2.1⟩ (i.b.queueF 2 i.price).1.at_}:=by
   simp only[Book.stand,hled]
  refine⟨⟨i.b,i.price⟩,trivial,rfl,rfl,rfl,rfl,rfl,rfl,rfl,rfl,rfl,rfl,hfit,fun _ _=>⟨trivial,?_⟩⟩
  refine⟨⟨(i.b.queueF 2 i.price).1.a,(i.b.queueF 2 i.price).2,i.id,i.qty,i.b.leads 2 i.price⟩,rfl,rfl,rfl,rfl,rfl,gY hfit.1 2 i.price,fun _ _=>⟨qU _ _,(),?_⟩⟩
  dsimp only
  rw[hst,plc]
  (repeat'(first|exact rfl|exact trivial|assumption|apply And.intro|refine fun(_:Unit) (_:True)=>?_|refine Exists.intro () ?_|omega|(dsimp only;omega)))
theorem zZv:badd2C.ok Tryz.prog 118:=z1y (gokc nZ (gokc uH (gokc zVu (gokc zQs (gokc zJj gok0))))) yAk
theorem z3y:baddC.ok Tryz.prog 118:=fun j=>match j with
 |⟨i,false⟩=>zWu i
 |⟨i,true⟩=>zZv i
theorem yCq (i:SaI) (h:saddC.cnd i):zVm i:=by
 obtain⟨hp,hbl,hb⟩:i.s.fit:=h
 unfold zVm zFg
 simp only[zGn]
 have hml:(yA i.s.wh).length=i.s.wh.length:=by simp[yA]
 rw[hml]
 have out (e:i.inst<0∨i.s.books.length≤i.inst):MSt.addF i=(i.s,20):=by rw[MSt.addF,if_pos e]
 refine⟨wU _ _,(fG i.s.wh i.id).isSome,_,yAx _ _,zQ (fun c=>Cv.cnd.mk (fun d=> ?_) (fun d=> ?_)) (fun c=> ?_)⟩
 ·have d:¬i.inst<(i.s.books.length:Int):=by simpa using d
  rw[out (.inr (by omega))];(repeat'(first|exact rfl|exact trivial|assumption|apply And.intro|refine fun(_:Unit) (_:True)=>?_|refine Exists.intro () ?_|omega|(dsimp only;omega)))
 ·have d:i.inst<(i.s.books.length:Int):=by simpa using d
  have hn:¬(i.inst<0∨(i.s.books.length:Int)≤i.inst):=by omega
  refine Cv.cnd.mk (fun e=> ?_) (fun e=>zQ (fun f=> ?_) (fun f=> ?_))
  ·rw[MSt.addF,if_neg hn,if_pos e];(repeat'(first|exact rfl|exact trivial|assumption|apply And.intro|refine fun(_:Unit) (_:True)=>?_|refine Exists.intro () ?_|omega|(dsimp only;omega)))
  ·rw[MSt.addF,if_neg hn,if_neg (by rw[e];decide),if_pos (by omega)];(repeat'(first|exact rfl|exact trivial|assumption|apply And.intro|refine fun(_:Unit) (_:True)=>?_|refine Exists.intro () ?_|omega|(dsimp only;omega)))
  ·refine⟨⟨i.s.p,i.inst,i.price⟩,rfl,rfl,rfl,rfl,rfl,rfl,rfl,rfl,rfl,rfl,rfl,rfl,rfl,hp,fun _ _=>Cv.cnd.mk (fun g=> ?_) (fun g=> ?_)⟩
   ·have g:i.s.p.price i.inst i.price≠0:=by simpa using g
    rw[MSt.addF,if_neg hn,if_neg (by rw[e];decide),if_neg (by omega),if_pos g];(repeat'(first|exact rfl|exact trivial|assumption|apply And.intro|refine fun(_:Unit) (_:True)=>?_|refine Exists.intro () ?_|omega|(dsimp only;omega)))
   ·have g:i.s.p.price i.inst i.price=0:=by simpa using g
    obtain⟨x,hx⟩:=yE (l:=i.s.books) (i:=i.inst.toNat) (by omega)
    have hba:i.s.bookAt i.inst=x:=zY hx
    have ha:MSt.addF i=({i.s with books:=i.s.books.set i.inst.toNat (x.addF (zB i.sd) i.id i.price i.qty).1,wh:=if(x.addF (zB i.sd) i.id i.price i.qty).2=0 then aK i.id i.inst i.s.wh else i.s.wh},(x.addF (zB i.sd) i.id i.price i.qty).2):=by
     rw[MSt.addF,if_neg hn,if_neg (by rw[e];decide),if_neg (by omega),if_neg (by simp[g])]
     simp only[hba]
    refine⟨⟨by omega,by omega⟩,by omega,x,hx,⟨⟨x,i.id,i.price,i.qty⟩,i.sd⟩,rfl,rfl,rfl,rfl,rfl,hb x (List.mem_of_getElem? hx),fun _ _=>⟨(x.addF (zB i.sd) i.id i.price i.qty).1,rfl,trivial,by omega,Cv.cnd.mk (fun z=>⟨wU _ _,?_⟩) (fun z=> ?_)⟩⟩
    ·have z:(x.addF (zB i.sd) i.id i.price i.qty).2=0:=by simpa using z
     rw[ha,z]
     simp only[if_true]
     (repeat'(first|exact rfl|exact trivial|assumption|apply And.intro|refine fun(_:Unit) (_:True)=>?_|refine Exists.intro () ?_|omega|(dsimp only;omega)))
    ·have z:¬(x.addF (zB i.sd) i.id i.price i.qty).2=0:=by simpa using z
     rw[ha,if_neg z]
     (repeat'(first|exact rfl|exact trivial|assumption|apply And.intro|refine fun(_:Unit) (_:True)=>?_|refine Exists.intro () ?_|omega|(dsimp only;omega)))
 ·rw[out (.inl (by omega))];(repeat'(first|exact rfl|exact trivial|assumption|apply And.intro|refine fun(_:Unit) (_:True)=>?_|refine Exists.intro () ?_|omega|(dsimp only;omega)))
theorem z4e:saddC.ok Tryz.prog 98:=z9s (gokc dW (gokc z3y gok0)) yCq
open Go Cv Go.Proofs
def r3prodC:Con:=con1 (List UInt8) (fun s=>[sV s]) (fun _=>[]) (fun s=>s.length≤1099511627776) (fun s=>yJ (qW s)) (fun _=>[])
def z3q (s:List UInt8):List SAnn:=[{ι:=Nat×Nat,slots:=fun x=>[(3,zD x.2),(7,.nm 0 0)],rows:=fun x=>[.iter (sb s) x.1]}]
def z1h:List (Nat×SAnn):=[(20,bj 29)]
def r5checkC:Con:=con1 Prd (fun p=>[prdV p]) (fun _=>[]) Prd.small (fun p=>zD p.check) (fun _=>[])
def zWj:List SAnn:=[{ι:=Nat,slots:=fun j=>[(3,zD j)],rows:=fun _=>[]},{ι:=Nat,slots:=fun j=>[(4,zD j)],rows:=fun _=>[]},{ι:=Nat,slots:=fun j=>[(5,zD j)],rows:=fun _=>[]}]
def zTw:List (Nat×SAnn):=[(12,bj 19),(32,bj 58),(40,bj 90),(68,bj 136),(96,bj 168),(104,bj 176),(112,bj 204)]
def r5countC:Con:=con1 Prd (fun p=>[prdV p]) (fun _=>[]) Prd.small (fun p=>zD p.count) (fun _=>[])
def r5legsC:Con:=con1 vU (fun i=>[prdV i.p,zD i.n]) (fun _=>[]) (fun i=>i.p.small) (fun i=> .tup [zD (i.p.legs i.n).1,zD (i.p.legs i.n).2.1,yJ (i.p.legs i.n).2.2]) (fun _=>[])
def z2o (i:vU):List SAnn:=[{ι:=Nat,slots:=fun m=>[(8,zD (z7 i.p.months.length m)),(9,zD m)],rows:=fun _=>[]},
 {ι:=Nat×Nat,slots:=fun m=>[(8,zD ((z7 i.p.months.length m.1+m.2:Nat):Int)),(9,zD m.1),(10,zD ((m.1+1+m.2:Nat):Int))],rows:=fun _=>[]}]
def kN (x:Prd):Int:=2+zI x.months.length 0 3
def yD (x:Prd):Int:=1+zI x.tick 0 9
def qB (n:Nat):List Int:=(List.range n).map fun(i:Nat)=>10*(i:Int)+3
def xX (t:Int) (n:Nat):List Int:=(List.range n).map fun(i:Nat)=>t*(10+(i:Int))
def yT (x:Prd):Prd:=⟨[206,169],qB (kN x).toNat,yD x,-20*yD x,100*yD x,yD x*(5+zI x.wide 0 60),1+zI x.rule 0 2,zI x.top 0 9,1+zI x.least 0 4,zI x.part 0 100,xX (yD x) (kN x).toNat⟩
@[reducible] def Prd.raw (x:Prd):Prop:=yL x.tick∧yL x.wide∧yL x.rule∧yL x.top∧yL x.least∧yL x.part∧x.months.length≤9223372036854775807
def kprodC:Con:=con1 Prd (fun x=>[prdV x]) (fun _=>[]) Prd.raw (fun x=>prdV (yT x)) (fun _=>[])
def yEu (x:Prd) (w:Int) (j:Nat):List AObj:=[.cells [sV [206,169],.own 1,zD (yD x),zD (-20*yD x),zD (100*yD x),zD w,zD (1+zI x.rule 0 2),zD (zI x.top 0 9),zD (1+zI x.least 0 4),zD (zI x.part 0 100),.own 2] 29,.own 3 1 (iE (qB j)),.own 2 1 (iE (xX (yD x) j))]
def yBv (x:Prd):List AObj:=[.cells [sV [206,169],.d (.v (.slice none 0 0)),zD (yD x),zD (-20*yD x),zD (100*yD x),zD 0,zD (1+zI x.rule 0 2),zD (zI x.top 0 9),zD (1+zI x.least 0 4),zD (zI x.part 0 100),.d (.v (.slice none 0 0))] 29]
def yBm (x:Prd):List SAnn:=[{ι:=Nat,slots:=fun j=>[(5,.nm 0 0),(6,zD j)],rows:=fun j=>yEu x (yD x*(5+zI x.wide 0 60)) j}]
def z8r (x:Prd):List (Nat×SAnn):=[(12,{ι:=Unit,slots:=fun _=>[(5,.nm 0 0)],slots0:=fun _=>[],rows0:=fun _=>[],rows:=fun _=>yBv x})]
open Go Cv Go.Proofs
def zCx (s:List UInt8):Prop:=
 ∃(i0:Nat×Nat),(↑i0.snd:Int)=0∧sb s=sb s∧i0.fst=0∧∃(I:Nat×Nat→Prop),∃(μ:Nat×Nat→Nat),I i0∧∀(i:Nat×Nat),I i→cnd (i.fst.blt (sb s).size) (∃(i0:Bool),∃(I_1:Bool→Prop),cnd (decide ((↑(Utf8.decode (sb s) i.fst).fst:Int)≥65)) (cnd (decide ((↑(Utf8.decode (sb s) i.fst).fst:Int)≤90)) (∃(i':Bool),i'=!true∧I_1 i'∧Sx.AObj.iter (sb s) (i.fst+(Utf8.decode (sb s) i.fst).snd)=Sx.AObj.iter (sb s) (i.fst+(Utf8.decode (sb s) i.fst).snd)) (cnd (decide ((↑(Utf8.decode (sb s) i.fst).fst:Int)≥913)) (cnd (decide ((↑(Utf8.decode (sb s) i.fst).fst:Int)≤937)) (∃(i':Bool),i'=!(↑(Utf8.decode (sb s) i.fst).fst:Int) !=930∧I_1 i'∧Sx.AObj.iter (sb s) (i.fst+(Utf8.decode (sb s) i.fst).snd)=Sx.AObj.iter (sb s) (i.fst+(Utf8.decode (sb s) i.fst).snd)) (∃(i':Bool),i'=!false∧I_1 i'∧Sx.AObj.iter (sb s) (i.fst+(Utf8.decode (sb s) i.fst).snd)=Sx.AObj.iter (sb s) (i.fst+(Utf8.decode (sb s) i.fst).snd))) (∃(i':Bool),i'=!false∧I_1 i'∧Sx.AObj.iter (sb s) (i.fst+(Utf8.decode (sb s) i.fst).snd)=Sx.AObj.iter (sb s) (i.fst+(Utf8.decode (sb s) i.fst).snd)))) (cnd (decide ((↑(Utf8.decode (sb s) i.fst).fst:Int)≥913)) (cnd (decide ((↑(Utf8.decode (sb s) i.fst).fst:Int)≤937)) (∃(i':Bool),i'=!(↑(Utf8.decode (sb s) i.fst).fst:Int) !=930∧I_1 i'∧Sx.AObj.iter (sb s) (i.fst+(Utf8.decode (sb s) i.fst).snd)=Sx.AObj.iter (sb s) (i.fst+(Utf8.decode (sb s) i.fst).snd)) (∃(i':Bool),i'=!false∧I_1 i'∧Sx.AObj.iter (sb s) (i.fst+(Utf8.decode (sb s) i.fst).snd)=Sx.AObj.iter (sb s) (i.fst+(Utf8.decode (sb s) i.fst).snd))) (∃(i':Bool),i'=!false∧I_1 i'∧Sx.AObj.iter (sb s) (i.fst+(Utf8.decode (sb s) i.fst).snd)=Sx.AObj.iter (sb s) (i.fst+(Utf8.decode (sb s) i.fst).snd)))∧∀(i_1:Bool),I_1 i_1→cnd i_1 (∃(o:Unit),qW s=false∧True) (∃(i':Nat×Nat),(↑i'.snd:Int)=IntKind.i64.wrap ((↑i.snd:Int)+1)∧sb s=sb s∧i'.fst=i.fst+(Utf8.decode (sb s) i.fst).snd∧I i'∧μ i'<μ i∧True)) (cnd (decide ((↑i.snd:Int)≥1)) (∃(o:Unit),qW s=decide ((↑i.snd:Int)≤4)∧True) (∃(o:Unit),qW s=false∧True))
theorem zVi (hG:GOk Tryz.prog ([])) (h:∀(s:List UInt8),r3prodC.cnd s→zCx s):r3prodC.ok Tryz.prog 101:=okw mixed hG 0 (fun _=>z1h) (fun s=>z3q s) [] Tryz.func101 h
@[reducible] def zP (p:Prd):AObj:=Sx.AObj.cells [V.d (D.v (Value.string (sb p.code))),V.own (0:Nat),V.d (D.v (.int .i64 p.tick)),V.d (D.v (.int .i64 p.low)),V.d (D.v (.int .i64 p.high)),V.d (D.v (.int .i64 p.wide)),V.d (D.v (.int .i64 p.rule)),V.d (D.v (.int .i64 p.top)),V.d (D.v (.int .i64 p.least)),V.d (D.v (.int .i64 p.part)),V.own ((0:Nat)+(1:Nat))] (29:Nat)
@[reducible] def aF (p:Prd) (i:Nat) (o:Unit) (I:Nat→Prop) (μ:Nat→Nat) (I_1:Bool→Prop):Prop:=∀(i_1:Bool),I_1 i_1→cnd i_1 (∃(o:Unit),p.check=1∧True) (∃(i':Nat),(↑i':Int)=IntKind.i64.wrap ((↑i:Int)+1)∧I i'∧μ i'<μ i∧zP p=zP p∧AObj.fro 1 (iE p.settle)=AObj.fro 1 (iE p.settle)∧AObj.fro 1 (iE p.months)=AObj.fro 1 (iE p.months))
def r9 (p:Prd):Prop:=
 ∃(i:List UInt8),sb i=sb p.code∧i.length≤1099511627776∧∀(o:Unit),True→cnd (!qW i) (∃(o:Unit),p.check=12∧True) (∃(i0:Bool),∃(I:Bool→Prop),cnd (decide ((↑(iE p.months).length:Int)<2)) (∃(i':Bool),i'=true∧I i'∧zP p=zP p∧AObj.fro 1 (iE p.settle)=AObj.fro 1 (iE p.settle)∧AObj.fro 1 (iE p.months)=AObj.fro 1 (iE p.months)) (∃(i':Bool),i'=decide ((↑(iE p.months).length:Int)>6)∧I i'∧zP p=zP p∧AObj.fro 1 (iE p.settle)=AObj.fro 1 (iE p.settle)∧AObj.fro 1 (iE p.months)=AObj.fro 1 (iE p.months))∧∀(i:Bool),I i→cnd i (∃(o:Unit),p.check=1∧True) (∃(i0:Nat),(↑i0:Int)=0∧∃(I:Nat→Prop),∃(μ:Nat→Nat),I i0∧∀(i:Nat),I i→cnd (decide ((↑i:Int)<(↑(iE p.months).length:Int))) (∃(i0:Bool),∃(I_1:Bool→Prop),((0≤(↑i:Int)∧(↑i:Int)<(↑(iE p.months).length:Int))∧∃(n:Int),zH (iE p.months) (↑i:Int).toNat 0 1=some [D.v (.int .i64 n)]∧cnd (decide (n<0)) (∃(i':Bool),i'=true∧I_1 i'∧zP p=zP p∧AObj.fro 1 (iE p.settle)=AObj.fro 1 (iE p.settle)∧AObj.fro 1 (iE p.months)=AObj.fro 1 (iE p.months)) ((0≤(↑i:Int)∧(↑i:Int)<(↑(iE p.months).length:Int))∧∃(n:Int),zH (iE p.months) (↑i:Int).toNat 0 1=some [D.v (.int .i64 n)]∧cnd (decide (n>1199)) (∃(i':Bool),i'=true∧I_1 i'∧zP p=zP p∧AObj.fro 1 (iE p.settle)=AObj.fro 1 (iE p.settle)∧AObj.fro 1 (iE p.months)=AObj.fro 1 (iE p.months)) (cnd (decide ((↑i:Int)>0)) ((0≤IntKind.i64.wrap ((↑i:Int)-1)∧IntKind.i64.wrap ((↑i:Int)-1)<(↑(iE p.months).length:Int))∧∃(n:Int),zH (iE p.months) (IntKind.i64.wrap ((↑i:Int)-1)).toNat 0 1=some [D.v (.int .i64 n)]∧(0≤(↑i:Int)∧(↑i:Int)<(↑(iE p.months).length:Int))∧∃(n_1:Int),zH (iE p.months) (↑i:Int).toNat 0 1=some [D.v (.int .i64 n_1)]∧∃(i':Bool),i'=decide (n≥n_1)∧I_1 i'∧zP p=zP p∧AObj.fro 1 (iE p.settle)=AObj.fro 1 (iE p.settle)∧AObj.fro 1 (iE p.months)=AObj.fro 1 (iE p.months)) (∃(i':Bool),i'=false∧I_1 i'∧zP p=zP p∧AObj.fro 1 (iE p.settle)=AObj.fro 1 (iE p.settle)∧AObj.fro 1 (iE p.months)=AObj.fro 1 (iE p.months)))))∧aF p i o I μ I_1) (∃(i0:Bool),∃(I:Bool→Prop),cnd (decide (p.tick<1)) (∃(i':Bool),i'=true∧I i'∧zP p=zP p∧AObj.fro 1 (iE p.settle)=AObj.fro 1 (iE p.settle)∧AObj.fro 1 (iE p.months)=AObj.fro 1 (iE p.months)) (cnd (decide (p.tick>1000)) (∃(i':Bool),i'=true∧I i'∧zP p=zP p∧AObj.fro 1 (iE p.settle)=AObj.fro 1 (iE p.settle)∧AObj.fro 1 (iE p.months)=AObj.fro 1 (iE p.months)) (IntKind.i64=IntKind.i64∧p.tick≠0∧cnd (p.low.tmod p.tick !=0) (∃(i':Bool),i'=true∧I i'∧zP p=zP p∧AObj.fro 1 (iE p.settle)=AObj.fro 1 (iE p.settle)∧AObj.fro 1 (iE p.months)=AObj.fro 1 (iE p.months)) (IntKind.i64=IntKind.i64∧p.tick≠0∧cnd (p.high.tmod p.tick !=0) (∃(i':Bool),i'=true∧I i'∧zP p=zP p∧AObj.fro 1 (iE p.settle)=AObj.fro 1 (iE p.settle)∧AObj.fro 1 (iE p.months)=AObj.fro 1 (iE p.months)) (IntKind.i64=IntKind.i64∧p.tick≠0∧∃(i':Bool),i'=(p.wide.tmod p.tick !=0)∧I i'∧zP p=zP p∧AObj.fro 1 (iE p.settle)=AObj.fro 1 (iE p.settle)∧AObj.fro 1 (iE p.months)=AObj.fro 1 (iE p.months)))))∧∀(i:Bool),I i→cnd i (∃(o:Unit),p.check=22∧True) (∃(i0:Nat),(↑i0:Int)=0∧∃(I:Nat→Prop),∃(μ:Nat→Nat),I i0∧∀(i:Nat),I i→cnd (decide ((↑i:Int)<(↑(iE p.settle).length:Int))) ((0≤(↑i:Int)∧(↑i:Int)<(↑(iE p.settle).length:Int))∧∃(n:Int),zH (iE p.settle) (↑i:Int).toNat 0 1=some [D.v (.int .i64 n)]∧IntKind.i64=IntKind.i64∧p.tick≠0∧cnd (n.tmod p.tick !=0) (∃(o:Unit),p.check=22∧True) (∃(i':Nat),(↑i':Int)=IntKind.i64.wrap ((↑i:Int)+1)∧I i'∧μ i'<μ i∧zP p=zP p∧AObj.fro 1 (iE p.settle)=AObj.fro 1 (iE p.settle)∧AObj.fro 1 (iE p.months)=AObj.fro 1 (iE p.months))) (∃(i0:Bool),∃(I:Bool→Prop),cnd (decide (p.low<(-1000000))) (∃(i':Bool),i'=true∧I i'∧zP p=zP p∧AObj.fro 1 (iE p.settle)=AObj.fro 1 (iE p.settle)∧AObj.fro 1 (iE p.months)=AObj.fro 1 (iE p.months)) (cnd (decide (p.low≥p.high)) (∃(i':Bool),i'=true∧I i'∧zP p=zP p∧AObj.fro 1 (iE p.settle)=AObj.fro 1 (iE p.settle)∧AObj.fro 1 (iE p.months)=AObj.fro 1 (iE p.months)) (cnd (decide (p.high>1000000)) (∃(i':Bool),i'=true∧I i'∧zP p=zP p∧AObj.fro 1 (iE p.settle)=AObj.fro 1 (iE p.settle)∧AObj.fro 1 (iE p.months)=AObj.fro 1 (iE p.months)) (cnd (decide (p.wide<0)) (∃(i':Bool),i'=true∧I i'∧zP p=zP p∧AObj.fro 1 (iE p.settle)=AObj.fro 1 (iE p.settle)∧AObj.fro 1 (iE p.months)=AObj.fro 1 (iE p.months)) (∃(i':Bool),i'=decide (p.wide>IntKind.i64.wrap (p.high-p.low))∧I i'∧zP p=zP p∧AObj.fro 1 (iE p.settle)=AObj.fro 1 (iE p.settle)∧AObj.fro 1 (iE p.months)=AObj.fro 1 (iE p.months)))))∧∀(i:Bool),I i→cnd i (∃(o:Unit),p.check=23∧True) (cnd ((↑(iE p.settle).length:Int) !=(↑(iE p.months).length:Int)) (∃(o:Unit),p.check=1∧True) (∃(i0:Nat),(↑i0:Int)=0∧∃(I:Nat→Prop),∃(μ:Nat→Nat),I i0∧∀(i:Nat),I i→cnd (decide ((↑i:Int)<(↑(iE p.settle).length:Int))) (∃(i0:Bool),∃(I_1:Bool→Prop),((0≤(↑i:Int)∧(↑i:Int)<(↑(iE p.settle).length:Int))∧∃(n:Int),zH (iE p.settle) (↑i:Int).toNat 0 1=some [D.v (.int .i64 n)]∧cnd (decide (n<p.low)) (∃(i':Bool),i'=true∧I_1 i'∧zP p=zP p∧AObj.fro 1 (iE p.settle)=AObj.fro 1 (iE p.settle)∧AObj.fro 1 (iE p.months)=AObj.fro 1 (iE p.months)) ((0≤(↑i:Int)∧(↑i:Int)<(↑(iE p.settle).length:Int))∧∃(n:Int),zH (iE p.settle) (↑i:Int).toNat 0 1=some [D.v (.int .i64 n)]∧∃(i':Bool),i'=decide (n>p.high)∧I_1 i'∧zP p=zP p∧AObj.fro 1 (iE p.settle)=AObj.fro 1 (iE p.settle)∧AObj.fro 1 (iE p.months)=AObj.fro 1 (iE p.months)))∧aF p i o I μ I_1) (∃(i0:Bool),∃(I:Bool→Prop),cnd (decide (p.rule<1)) (∃(i':Bool),i'=true∧I i'∧zP p=zP p∧AObj.fro 1 (iE p.settle)=AObj.fro 1 (iE p.settle)∧AObj.fro 1 (iE p.months)=AObj.fro 1 (iE p.months)) (∃(i':Bool),i'=decide (p.rule>3)∧I i'∧zP p=zP p∧AObj.fro 1 (iE p.settle)=AObj.fro 1 (iE p.settle)∧AObj.fro 1 (iE p.months)=AObj.fro 1 (iE p.months))∧∀(i:Bool),I i→cnd i (∃(o:Unit),p.check=31∧True) (∃(i0:Bool),∃(I:Bool→Prop),cnd (decide (p.top<0)) (∃(i':Bool),i'=true∧I i'∧zP p=zP p∧AObj.fro 1 (iE p.settle)=AObj.fro 1 (iE p.settle)∧AObj.fro 1 (iE p.months)=AObj.fro 1 (iE p.months)) (cnd (decide (p.top>1000000)) (∃(i':Bool),i'=true∧I i'∧zP p=zP p∧AObj.fro 1 (iE p.settle)=AObj.fro 1 (iE p.settle)∧AObj.fro 1 (iE p.months)=AObj.fro 1 (iE p.months)) (cnd (decide (p.least<1)) (∃(i':Bool),i'=true∧I i'∧zP p=zP p∧AObj.fro 1 (iE p.settle)=AObj.fro 1 (iE p.settle)∧AObj.fro 1 (iE p.months)=AObj.fro 1 (iE p.months)) (cnd (decide (p.least>1000)) (∃(i':Bool),i'=true∧I i'∧zP p=zP p∧AObj.fro 1 (iE p.settle)=AObj.fro 1 (iE p.settle)∧AObj.fro 1 (iE p.months)=AObj.fro 1 (iE p.months)) (cnd (decide (p.part<0)) (∃(i':Bool),i'=true∧I i'∧zP p=zP p∧AObj.fro 1 (iE p.settle)=AObj.fro 1 (iE p.settle)∧AObj.fro 1 (iE p.months)=AObj.fro 1 (iE p.months)) (∃(i':Bool),i'=decide (p.part>100)∧I i'∧zP p=zP p∧AObj.fro 1 (iE p.settle)=AObj.fro 1 (iE p.settle)∧AObj.fro 1 (iE p.months)=AObj.fro 1 (iE p.months))))))∧∀(i:Bool),I i→cnd i (∃(o:Unit),p.check=24∧True) (∃(o:Unit),p.check=0∧True))))))))))
theorem zRw (hG:GOk Tryz.prog ([(101,r3prodC)])) (h:∀(p:Prd),r5checkC.cnd p→r9 p):r5checkC.ok Tryz.prog 77:=okw mixed hG 0 (fun _=>zTw) (fun _=>zWj) [] Tryz.func77 h
def lC (p:Prd):Prop:=
 ∃(i:Prd),sb i.code=sb p.code∧iE i.months=iE p.months∧i.tick=p.tick∧i.low=p.low∧i.high=p.high∧i.wide=p.wide∧i.rule=p.rule∧i.top=p.top∧i.least=p.least∧i.part=p.part∧iE i.settle=iE p.settle∧(i.code.length≤1099511627776∧i.months.length≤1099511627776∧i.settle.length≤1099511627776)∧∀(o:Unit),True→cnd (i.check !=0) (∃(o:Unit),(↑p.count:Int)=0∧True) (IntKind.i64=IntKind.i64∧(2:Int)≠(0:Int)∧∃(o:Unit),(↑p.count:Int)=IntKind.i64.wrap ((↑(iE p.months).length:Int)+IntKind.i64.wrap ((IntKind.i64.wrap ((↑(iE p.months).length:Int)*IntKind.i64.wrap ((↑(iE p.months).length:Int)-1))).tdiv 2))∧True)
theorem zSx (hG:GOk Tryz.prog ([(77,r5checkC)])) (h:∀(p:Prd),r5countC.cnd p→lC p):r5countC.ok Tryz.prog 46:=okw mixed hG 0 (fun _=>[]) (fun _=>[]) [] Tryz.func46 h
@[reducible] def cF (i:vU):AObj:=Sx.AObj.cells [V.d (D.v (Value.string (sb i.p.code))),V.own (0:Nat),V.d (D.v (.int .i64 i.p.tick)),V.d (D.v (.int .i64 i.p.low)),V.d (D.v (.int .i64 i.p.high)),V.d (D.v (.int .i64 i.p.wide)),V.d (D.v (.int .i64 i.p.rule)),V.d (D.v (.int .i64 i.p.top)),V.d (D.v (.int .i64 i.p.least)),V.d (D.v (.int .i64 i.p.part)),V.own ((0:Nat)+(1:Nat))] (29:Nat)
def zDf (i:vU):Prop:=
 ∃(i_1:Prd),sb i_1.code=sb i.p.code∧iE i_1.months=iE i.p.months∧i_1.tick=i.p.tick∧i_1.low=i.p.low∧i_1.high=i.p.high∧i_1.wide=i.p.wide∧i_1.rule=i.p.rule∧i_1.top=i.p.top∧i_1.least=i.p.least∧i_1.part=i.p.part∧iE i_1.settle=iE i.p.settle∧(i_1.code.length≤1099511627776∧i_1.months.length≤1099511627776∧i_1.settle.length≤1099511627776)∧∀(o:Unit),True→cnd (i_1.check !=0) (∃(o:Unit),(i.p.legs i.n).fst=0∧(i.p.legs i.n).snd.fst=0∧(i.p.legs i.n).snd.snd=false∧True) (cnd (decide (i.n<0)) (∃(o:Unit),(i.p.legs i.n).fst=0∧(i.p.legs i.n).snd.fst=0∧(i.p.legs i.n).snd.snd=false∧True) (cnd (decide (i.n<(↑(iE i.p.months).length:Int))) (∃(o:Unit),(i.p.legs i.n).fst=i.n∧(i.p.legs i.n).snd.fst=i.n∧(i.p.legs i.n).snd.snd=false∧True) (∃(i0:Nat),(↑(z7 i.p.months.length i0):Int)=(↑(iE i.p.months).length:Int)∧(↑i0:Int)=0∧∃(I:Nat→Prop),∃(μ:Nat→Nat),I i0∧∀(i_2:Nat),I i_2→cnd (decide ((↑i_2:Int)<(↑(iE i.p.months).length:Int))) (∃(i0:Nat×Nat),(↑(z7 i.p.months.length i0.fst+i0.snd):Int)=(↑(z7 i.p.months.length i_2):Int)∧(↑i0.fst:Int)=(↑i_2:Int)∧(↑(i0.fst+1+i0.snd):Int)=IntKind.i64.wrap ((↑i_2:Int)+1)∧∃(I_1:Nat×Nat→Prop),∃(μ_1:Nat×Nat→Nat),I_1 i0∧∀(i_3:Nat×Nat),I_1 i_3→cnd (decide ((↑(i_3.fst+1+i_3.snd):Int)<(↑(iE i.p.months).length:Int))) (cnd ((↑(z7 i.p.months.length i_3.fst+i_3.snd):Int)==i.n) (∃(o:Unit),(i.p.legs i.n).fst=(↑i_3.fst:Int)∧(i.p.legs i.n).snd.fst=(↑(i_3.fst+1+i_3.snd):Int)∧(i.p.legs i.n).snd.snd=true∧True) (∃(i':Nat×Nat),(↑(z7 i.p.months.length i'.fst+i'.snd):Int)=IntKind.i64.wrap ((↑(z7 i.p.months.length i_3.fst+i_3.snd):Int)+1)∧(↑i'.fst:Int)=(↑i_3.fst:Int)∧(↑(i'.fst+1+i'.snd):Int)=IntKind.i64.wrap ((↑(i_3.fst+1+i_3.snd):Int)+1)∧I_1 i'∧μ_1 i'<μ_1 i_3∧cF i=cF i∧AObj.fro 1 (iE i.p.settle)=AObj.fro 1 (iE i.p.settle)∧AObj.fro 1 (iE i.p.months)=AObj.fro 1 (iE i.p.months))) (∃(i':Nat),(↑(z7 i.p.months.length i'):Int)=(↑(z7 i.p.months.length i_3.fst+i_3.snd):Int)∧(↑i':Int)=IntKind.i64.wrap ((↑i_3.fst:Int)+1)∧I i'∧μ i'<μ i_2∧cF i=cF i∧AObj.fro 1 (iE i.p.settle)=AObj.fro 1 (iE i.p.settle)∧AObj.fro 1 (iE i.p.months)=AObj.fro 1 (iE i.p.months))) (∃(o:Unit),(i.p.legs i.n).fst=0∧(i.p.legs i.n).snd.fst=0∧(i.p.legs i.n).snd.snd=false∧True))))
theorem zXd (hG:GOk Tryz.prog ([(77,r5checkC)])) (h:∀(i:vU),r5legsC.cnd i→zDf i):r5legsC.ok Tryz.prog 47:=okw mixed hG 0 (fun _=>[]) (fun i=>z2o i) [] Tryz.func47 h
@[reducible] def h8:AObj:=Sx.AObj.cells (Sx.V.agg [V.d (D.v (Value.string (ByteArray.mk #[]))),V.d (D.v (Value.slice none (0:Nat) (0:Nat))),V.d (D.v (.int .i64 0)),V.d (D.v (.int .i64 0)),V.d (D.v (.int .i64 0)),V.d (D.v (.int .i64 0)),V.d (D.v (.int .i64 0)),V.d (D.v (.int .i64 0)),V.d (D.v (.int .i64 0)),V.d (D.v (.int .i64 0)),V.d (D.v (Value.slice none (0:Nat) (0:Nat)))]).cl (29:Nat)
@[reducible] def h9 (x:Prd):AObj:=Sx.AObj.cells [V.d (D.v (Value.string (sb x.code))),V.own (0:Nat),V.d (D.v (.int .i64 x.tick)),V.d (D.v (.int .i64 x.low)),V.d (D.v (.int .i64 x.high)),V.d (D.v (.int .i64 x.wide)),V.d (D.v (.int .i64 x.rule)),V.d (D.v (.int .i64 x.top)),V.d (D.v (.int .i64 x.least)),V.d (D.v (.int .i64 x.part)),V.own ((0:Nat)+(1:Nat))] (29:Nat)
@[reducible] def lP (x:Prd) (i:WiI) (o:Unit) (i_1:WiI) (I:Unit→Prop):Prop:=∃(i_2:WiI),i_2.n=x.top∧i_2.lo=0∧i_2.hi=9∧(((-9223372036854775808)≤i_2.n∧i_2.n≤9223372036854775807)∧(-1000000)≤i_2.lo∧i_2.lo≤i_2.hi∧i_2.hi≤1000000)∧∀(o:Unit),True→x.part=x.part∧x.least=x.least∧∃(i_3:WiI),i_3.n=x.least∧i_3.lo=0∧i_3.hi=4∧(((-9223372036854775808)≤i_3.n∧i_3.n≤9223372036854775807)∧(-1000000)≤i_3.lo∧i_3.lo≤i_3.hi∧i_3.hi≤1000000)∧∀(o:Unit),True→x.part=x.part∧∃(i_4:WiI),i_4.n=x.part∧i_4.lo=0∧i_4.hi=100∧(((-9223372036854775808)≤i_4.n∧i_4.n≤9223372036854775807)∧(-1000000)≤i_4.lo∧i_4.lo≤i_4.hi∧i_4.hi≤1000000)∧∀(o:Unit),True→∃(i':Unit),sb [(206:UInt8),(169:UInt8)]=ByteArray.mk #[(206:UInt8),(169:UInt8)]∧True∧yD x=IntKind.i64.wrap (1+zI i_1.n i_1.lo i_1.hi)∧(-20)*yD x=IntKind.i64.wrap ((-20)*IntKind.i64.wrap (1+zI i_1.n i_1.lo i_1.hi))∧100*yD x=IntKind.i64.wrap (100*IntKind.i64.wrap (1+zI i_1.n i_1.lo i_1.hi))∧(0:Int)=(0:Int)∧1+zI x.rule 0 2=IntKind.i64.wrap (1+zI i.n i.lo i.hi)∧zI x.top 0 9=zI i_2.n i_2.lo i_2.hi∧1+zI x.least 0 4=IntKind.i64.wrap (1+zI i_3.n i_3.lo i_3.hi)∧zI x.part 0 100=zI i_4.n i_4.lo i_4.hi∧True∧I i'∧h8=h8∧h9 x=h9 x∧AObj.fro 1 (iE x.settle)=AObj.fro 1 (iE x.settle)∧AObj.fro 1 (iE x.months)=AObj.fro 1 (iE x.months)
@[reducible] def a9 (x:Prd) (i:WiI) (o:Unit) (i_1:WiI) (I:Unit→Prop) (i_2:WiI) (i_3:WiI):Prop:=∃(i_4:WiI),i_4.n=x.part∧i_4.lo=0∧i_4.hi=100∧(((-9223372036854775808)≤i_4.n∧i_4.n≤9223372036854775807)∧(-1000000)≤i_4.lo∧i_4.lo≤i_4.hi∧i_4.hi≤1000000)∧∀(o:Unit),True→∃(i':Unit),sb [(206:UInt8),(169:UInt8)]=ByteArray.mk #[(206:UInt8),(169:UInt8)]∧True∧yD x=IntKind.i64.wrap (1+zI i_1.n i_1.lo i_1.hi)∧(-20)*yD x=IntKind.i64.wrap ((-20)*IntKind.i64.wrap (1+zI i_1.n i_1.lo i_1.hi))∧100*yD x=IntKind.i64.wrap (100*IntKind.i64.wrap (1+zI i_1.n i_1.lo i_1.hi))∧(0:Int)=(0:Int)∧1+zI x.rule 0 2=IntKind.i64.wrap (1+zI i.n i.lo i.hi)∧zI x.top 0 9=zI i_2.n i_2.lo i_2.hi∧1+zI x.least 0 4=IntKind.i64.wrap (1+zI i_3.n i_3.lo i_3.hi)∧zI x.part 0 100=zI i_4.n i_4.lo i_4.hi∧True∧I i'∧h8=h8∧h9 x=h9 x∧AObj.fro 1 (iE x.settle)=AObj.fro 1 (iE x.settle)∧AObj.fro 1 (iE x.months)=AObj.fro 1 (iE x.months)
def zMr (x:Prd):Prop:=
 ∃(i:WiI),i.n=(↑(iE x.months).length:Int)∧i.lo=0∧i.hi=3∧(((-9223372036854775808)≤i.n∧i.n≤9223372036854775807)∧(-1000000)≤i.lo∧i.lo≤i.hi∧i.hi≤1000000)∧∀(o:Unit),True→∃(i_1:WiI),i_1.n=x.tick∧i_1.lo=0∧i_1.hi=9∧(((-9223372036854775808)≤i_1.n∧i_1.n≤9223372036854775807)∧(-1000000)≤i_1.lo∧i_1.lo≤i_1.hi∧i_1.hi≤1000000)∧∀(o:Unit),True→∃(i0:Unit),∃(I:Unit→Prop),((∃(i:WiI),i.n=x.rule∧i.lo=0∧i.hi=2∧(((-9223372036854775808)≤i.n∧i.n≤9223372036854775807)∧(-1000000)≤i.lo∧i.lo≤i.hi∧i.hi≤1000000)∧∀(o:Unit),True→x.part=x.part∧x.least=x.least∧x.top=x.top∧(∃(i_2:WiI),i_2.n=x.top∧i_2.lo=0∧i_2.hi=9∧(((-9223372036854775808)≤i_2.n∧i_2.n≤9223372036854775807)∧(-1000000)≤i_2.lo∧i_2.lo≤i_2.hi∧i_2.hi≤1000000)∧∀(o:Unit),True→x.part=x.part∧x.least=x.least∧(∃(i_3:WiI),i_3.n=x.least∧i_3.lo=0∧i_3.hi=4∧(((-9223372036854775808)≤i_3.n∧i_3.n≤9223372036854775807)∧(-1000000)≤i_3.lo∧i_3.lo≤i_3.hi∧i_3.hi≤1000000)∧∀(o:Unit),True→x.part=x.part∧(a9 x i o i_1 I i_2 i_3)∧x.part=x.part∧a9 x i o i_1 I i_2 i_3)∧x.part=x.part∧x.least=x.least∧∃(i_3:WiI),i_3.n=x.least∧i_3.lo=0∧i_3.hi=4∧(((-9223372036854775808)≤i_3.n∧i_3.n≤9223372036854775807)∧(-1000000)≤i_3.lo∧i_3.lo≤i_3.hi∧i_3.hi≤1000000)∧∀(o:Unit),True→x.part=x.part∧a9 x i o i_1 I i_2 i_3)∧x.part=x.part∧x.least=x.least∧x.top=x.top∧lP x i o i_1 I)∧x.part=x.part∧x.least=x.least∧x.top=x.top∧x.rule=x.rule∧∃(i:WiI),i.n=x.rule∧i.lo=0∧i.hi=2∧(((-9223372036854775808)≤i.n∧i.n≤9223372036854775807)∧(-1000000)≤i.lo∧i.lo≤i.hi∧i.hi≤1000000)∧∀(o:Unit),True→x.part=x.part∧x.least=x.least∧x.top=x.top∧lP x i o i_1 I)∧∀(i_2:Unit),I i_2→∃(i_3:WiI),i_3.n=x.wide∧i_3.lo=0∧i_3.hi=60∧(((-9223372036854775808)≤i_3.n∧i_3.n≤9223372036854775807)∧(-1000000)≤i_3.lo∧i_3.lo≤i_3.hi∧i_3.hi≤1000000)∧∀(o:Unit),True→∃(i0:Nat),(↑i0:Int)=0∧sb [(206:UInt8),(169:UInt8)]=sb [(206:UInt8),(169:UInt8)]∧yD x=yD x∧(-20)*yD x=(-20)*yD x∧100*yD x=100*yD x∧yD x*(5+zI x.wide 0 60)=IntKind.i64.wrap (IntKind.i64.wrap (1+zI i_1.n i_1.lo i_1.hi)*IntKind.i64.wrap (5+zI i_3.n i_3.lo i_3.hi))∧1+zI x.rule 0 (2:Int)=(1:Int)+zI x.rule 0 2∧zI x.top 0 9=zI x.top 0 (9:Int)∧(1:Int)+zI x.least 0 (4:Int)=(1:Int)+zI x.least 0 4∧zI x.part 0 100=zI x.part 0 100∧iE (qB i0)=[]∧iE (xX (yD x) i0)=[]∧∃(I:Nat→Prop),∃(μ:Nat→Nat),I i0∧∀(i_4:Nat),I i_4→cnd (decide ((↑i_4:Int)<IntKind.i64.wrap (2+zI i.n i.lo i.hi))) (((iE (qB i_4)).length+1)*(8:Nat)≤(70368744177664:Nat)∧((iE (xX (yD x) i_4)).length+1)*(8:Nat)≤(70368744177664:Nat)∧∃(i':Nat),(↑i':Int)=IntKind.i64.wrap ((↑i_4:Int)+1)∧sb [(206:UInt8),(169:UInt8)]=sb [(206:UInt8),(169:UInt8)]∧yD x=yD x∧(-20)*yD x=(-20)*yD x∧100*yD x=100*yD x∧yD x*(5+zI x.wide 0 60)=yD x*(5+zI x.wide 0 60)∧1+zI x.rule 0 (2:Int)=(1:Int)+zI x.rule 0 2∧zI x.top 0 9=zI x.top 0 (9:Int)∧(1:Int)+zI x.least 0 (4:Int)=(1:Int)+zI x.least 0 4∧zI x.part 0 100=zI x.part 0 100∧iE (qB i')=iE (qB i_4)++[[D.v (.int .i64 (IntKind.i64.wrap (IntKind.i64.wrap (10*(↑i_4:Int))+3)))]]∧iE (xX (yD x) i')=iE (xX (yD x) i_4)++[[D.v (.int .i64 (IntKind.i64.wrap (IntKind.i64.wrap (1+zI i_1.n i_1.lo i_1.hi)*IntKind.i64.wrap (10+(↑i_4:Int)))))]]∧I i'∧μ i'<μ i_4∧h8=h8∧h9 x=h9 x∧AObj.fro 1 (iE x.settle)=AObj.fro 1 (iE x.settle)∧AObj.fro 1 (iE x.months)=AObj.fro 1 (iE x.months)) (∃(o:Unit),sb [(206:UInt8),(169:UInt8)]=sb [(206:UInt8),(169:UInt8)]∧iE (qB (kN x).toNat)=iE (qB i_4)∧yD x=yD x∧(-20)*yD x=(-20)*yD x∧100*yD x=100*yD x∧yD x*(5+zI x.wide 0 60)=yD x*(5+zI x.wide 0 60)∧1+zI x.rule 0 (2:Int)=(1:Int)+zI x.rule 0 2∧zI x.top 0 9=zI x.top 0 (9:Int)∧(1:Int)+zI x.least 0 (4:Int)=(1:Int)+zI x.least 0 4∧zI x.part 0 100=zI x.part 0 100∧iE (xX (yD x) (kN x).toNat)=iE (xX (yD x) i_4)∧True)
theorem z2f (hG:GOk Tryz.prog ([(12,withinC)])) (h:∀(x:Prd),kprodC.cnd x→zMr x):kprodC.ok Tryz.prog 20:=okw mixed hG 0 (fun x=>z8r x) (fun x=>yBm x) [] Tryz.func20 h
open Go Cv Go.Proofs
theorem z3x (s:List UInt8) (h:r3prodC.cnd s):zCx s:=by
 have h:s.length≤1099511627776:=h
 have hr:=nQ s
 unfold zCx
 refine⟨(0,0),rfl,rfl,rfl,fun x=>x.1≤s.length∧x.2+(j8 s x.1).length=(x6 s).length∧(x6 s).all jU=((j8 s x.1).all fun y=>jU y.2),fun x=>s.length-x.1,⟨by omega,by rw[x6,List.length_map];simp,by rw[x6,List.all_map];rfl⟩,?_⟩
 rintro⟨p,n⟩ ⟨h1,h2,h3⟩
 dsimp only at h1 h2 h3 ⊢
 refine Cv.cnd.mk (fun hp=> ?_) (fun hp=> ?_)
 ·have hp:p<s.length:=by simpa[Nat.blt_eq]using hp
  have hw:=uE s hp
  rw[qZ hp,List.length_cons]at h2
  rw[qZ hp,List.all_cons]at h3
  generalize hc:(Utf8.decode (sb s) p).1=c at h2 h3 ⊢
  generalize hww:(Utf8.decode (sb s) p).2=w at h2 h3 hw ⊢
  dsimp only at h3
  have g0:∀b:Bool,(b=true→jU c=true)→(b=false→jU c=false)→b=jU c:=fun b e1 e2=>by cases b<;>simp_all
  refine⟨true,fun b=>b= !jU c,?_,fun b hb=> ?_⟩
  ·refine zQ (fun c1=>zQ (fun c2=>⟨_,rfl,?_,by(repeat'(first|exact trivial|exact rfl|apply And.intro))⟩) (fun c2=>zQ (fun c3=>zQ (fun c4=>⟨_,rfl,?_,by(repeat'(first|exact trivial|exact rfl|apply And.intro))⟩) (fun c4=>⟨_,rfl,?_,by(repeat'(first|exact trivial|exact rfl|apply And.intro))⟩)) (fun c3=>⟨_,rfl,?_,by(repeat'(first|exact trivial|exact rfl|apply And.intro))⟩))) (fun c1=>zQ (fun c3=>zQ (fun c4=>⟨_,rfl,?_,by(repeat'(first|exact trivial|exact rfl|apply And.intro))⟩) (fun c4=>⟨_,rfl,?_,by(repeat'(first|exact trivial|exact rfl|apply And.intro))⟩)) (fun c3=>⟨_,rfl,?_,by(repeat'(first|exact trivial|exact rfl|apply And.intro))⟩))
   all_goals congr 1
   all_goals refine g0 _ (fun e=> ?_) (fun e=> ?_)
   all_goals first|(simp[jU]at*;done)|(simp[jU]at*;omega)
  ·subst hb
   refine Cv.cnd.mk (fun e=>⟨(),?_,trivial⟩) (fun e=>⟨(p+w,n+1),?_,rfl,rfl,⟨hw.2,by(first|omega|(dsimp only;omega)),?_⟩,by(first|omega|(dsimp only;omega)),trivial⟩)
   ·have e:jU c=false:=by simpa using e
    rw[qW,h3,e];rfl
   ·rw[w64 (by omega)];rfl
   ·have e:jU c=true:=by simpa using e
    rw[h3,e];rfl
 ·have hp:s.length≤p:=by have:=zPm hp;simpa using this
  rw[wZ hp]at h2 h3
  have h3:(x6 s).all jU=true:=h3
  have hn:n=(x6 s).length:=by simpa using h2
  have hne:(s=[])↔(x6 s).length=0:=by
   constructor
   ·intro e;subst e;rfl
   ·intro e
    cases s with
    |nil=>rfl
    |cons b l=>
     rw[x6,List.length_map,qZ (by simp)]at e
     simp at e
  refine zQ (fun c=>⟨(),?_,trivial⟩) (fun c=>⟨(),?_,trivial⟩)
  ·have:¬s=[]:=by rw[hne];omega
   rw[qW,h3,decide_eq_true this,hn]
   simp only[Bool.true_and]
   congr 1
   simp only[eq_iff_iff];omega
  ·have:s=[]:=by rw[hne];omega
   rw[qW,this];rfl
theorem zSn:r3prodC.ok Tryz.prog 101:=zVi gok0 z3x
theorem fQ:∀(l:List Int) (a:Int),l.foldl min a≤a∧∀x∈l,l.foldl min a≤x
 |[],a=>⟨Int.le_refl _,by simp⟩
 |b::l,a=>by
  obtain⟨h1,h2⟩:=fQ l (min a b)
  rw[List.foldl_cons]
  refine⟨by omega,fun x hx=> ?_⟩
  rcases List.mem_cons.1 hx with rfl|hx
  ·omega
  ·exact h2 x hx
theorem gT:∀(l:List Int) (a:Int),a≤l.foldl max a∧∀x∈l,x≤l.foldl max a
 |[],a=>⟨Int.le_refl _,by simp⟩
 |b::l,a=>by
  obtain⟨h1,h2⟩:=gT l (max a b)
  rw[List.foldl_cons]
  refine⟨by omega,fun x hx=> ?_⟩
  rcases List.mem_cons.1 hx with rfl|hx
  ·omega
  ·exact h2 x hx
theorem bG:∀(l:List Int) (a:Int),l.foldl min a=a∨l.foldl min a∈l
 |[],a=> .inl rfl
 |b::l,a=>by
  rw[List.foldl_cons]
  rcases bG l (min a b)with h|h
  ·rcases Int.le_total a b with e|e
   ·left;rw[h];omega
   ·right;rw[h,show min a b=b by omega];exact List.mem_cons_self
  ·exact .inr (List.mem_cons_of_mem _ h)
theorem bF:∀(l:List Int) (a:Int),l.foldl max a=a∨l.foldl max a∈l
 |[],a=> .inl rfl
 |b::l,a=>by
  rw[List.foldl_cons]
  rcases bF l (max a b)with h|h
  ·rcases Int.le_total a b with e|e
   ·right;rw[h,show max a b=b by omega];exact List.mem_cons_self
   ·left;rw[h];omega
  ·exact .inr (List.mem_cons_of_mem _ h)
theorem zPq {l:List Int} {x:Int} (h:x∈l):fL l≤x:=by
 cases l with
 |nil=>cases h
 |cons a l=>
  rw[fL,List.tail_cons,List.headD_cons]
  rcases List.mem_cons.1 h with rfl|h
  ·exact(fQ l x).1
  ·exact(fQ l a).2 x h
theorem zNp {l:List Int} {x:Int} (h:x∈l):x≤f0 l:=by
 cases l with
 |nil=>cases h
 |cons a l=>
  rw[f0,List.tail_cons,List.headD_cons]
  rcases List.mem_cons.1 h with rfl|h
  ·exact(gT l x).1
  ·exact(gT l a).2 x h
theorem zFu {l:List Int} (h:l≠[]):fL l∈l:=by
 cases l with
 |nil=>exact absurd rfl h
 |cons a l=>
  rw[fL,List.tail_cons,List.headD_cons]
  rcases bG l a with h|h
  ·rw[h];exact List.mem_cons_self
  ·exact List.mem_cons_of_mem _ h
theorem zIe {l:List Int} (h:l≠[]):f0 l∈l:=by
 cases l with
 |nil=>exact absurd rfl h
 |cons a l=>
  rw[f0,List.tail_cons,List.headD_cons]
  rcases bF l a with h|h
  ·rw[h];exact List.mem_cons_self
  ·exact List.mem_cons_of_mem _ h
theorem zUg (p:Prd) (h:r5checkC.cnd p):r9 p:=by
 obtain⟨h1,h2,h3⟩:p.small:=h
 unfold r9 aF
 simp only[yW]
 refine⟨p.code,rfl,h1,fun _ _=>Cv.cnd.mk (fun c1=>⟨(),by rw[Prd.check,if_pos c1],trivial⟩) fun c1=> ?_⟩
 have c1:qW p.code=true:=by simpa using c1
 have e1:p.check=if !yV p.months then 1 else if !xO p then 22 else if xP p then 23 else if yY p then 1 else if xY p then 31 else if xB p then 24 else 0:=by
  rw[Prd.check,if_neg (by simp[c1])]
 refine⟨true,fun b=>b=(decide (p.months.length<2)||decide (p.months.length>6)),zQ (fun c=>⟨true,rfl,?_,by(repeat'(first|exact trivial|exact rfl|apply And.intro))⟩) (fun c=>⟨_,rfl,?_,by(repeat'(first|exact trivial|exact rfl|apply And.intro))⟩),fun b hb=> ?_⟩
 ·rw[decide_eq_true (show p.months.length<2 by omega)];rfl
 ·rw[decide_eq_false (show ¬p.months.length<2 by omega),Bool.false_or]
  congr 1;simp only[eq_iff_iff];omega
 subst hb
 refine Cv.cnd.mk (fun c2=> ?_) (fun c2=> ?_)
 ·have:yV p.months=false:=by
   simp only[Bool.or_eq_true,decide_eq_true_eq]at c2
   rw[yV]
   rcases c2 with c2|c2
   ·rw[decide_eq_false (show ¬2≤p.months.length by omega)];simp
   ·rw[decide_eq_false (show ¬p.months.length≤6 by omega)];simp
  exact⟨(),by rw[e1,if_pos (by rw[this];rfl)],trivial⟩
 have c2:2≤p.months.length∧p.months.length≤6:=by
  simp only[Bool.or_eq_false_iff,decide_eq_false_iff_not]at c2;omega
 have em:yV p.months=(List.range p.months.length).all (xU p.months):=by
  rw[yV,decide_eq_true c2.1,decide_eq_true c2.2];simp
 refine⟨0,rfl,fun j=>j≤p.months.length∧∀k<j,xU p.months k=true,fun j=>p.months.length-j,⟨by omega,fun k hk=>by omega⟩,?_⟩
 rintro j ⟨g1,g2⟩
 refine zQ (fun hj=> ?_) (fun hj=> ?_)
 ·obtain⟨m,hm⟩:=yE (l:=p.months) (i:=j) (by omega)
  have hmj:p.months.getD j 0=m:=zY hm
  refine⟨true,fun b=>b= !xU p.months j,⟨⟨by omega,by omega⟩,m,elI hm,zQ (fun c=>⟨true,rfl,?_,by(repeat'(first|exact trivial|exact rfl|apply And.intro))⟩) (fun c=>⟨⟨by omega,by omega⟩,m,elI hm,zQ (fun d=>⟨true,rfl,?_,by(repeat'(first|exact trivial|exact rfl|apply And.intro))⟩) (fun d=>zQ (fun e=> ?_) (fun e=>⟨false,rfl,?_,by(repeat'(first|exact trivial|exact rfl|apply And.intro))⟩))⟩)⟩,fun b hb=> ?_⟩
  ·rw[xU,hmj,decide_eq_false (show ¬0≤m by omega)];rfl
  ·rw[xU,hmj,decide_eq_false (show ¬m≤1199 by omega)];simp
  ·obtain⟨m',hm'⟩:=yE (l:=p.months) (i:=j-1) (by omega)
   rw[w64 (by omega),show((j:Int)-1).toNat=j-1 by omega]
   refine⟨⟨by omega,by omega⟩,m',elI hm',⟨by omega,by omega⟩,m,elI hm,_,rfl,?_,by(repeat'(first|exact trivial|exact rfl|apply And.intro))⟩
   rw[xU,hmj,zY hm',decide_eq_true (show 0≤m by omega),decide_eq_true (show m≤1199 by omega),decide_eq_false (show ¬j=0 by omega)]
   simp only[Bool.true_and,Bool.false_or]
   by_cases hlt:m'<m
   ·rw[decide_eq_true hlt,decide_eq_false (by omega)];rfl
   ·rw[decide_eq_false hlt,decide_eq_true (by omega)];rfl
  ·rw[xU,hmj,decide_eq_true (show 0≤m by omega),decide_eq_true (show m≤1199 by omega),decide_eq_true (show j=0 by omega)];rfl
  ·subst hb
   refine Cv.cnd.mk (fun c=>⟨(),?_,trivial⟩) (fun c=>⟨j+1,by rw[w64 (by omega)];rfl,⟨by omega,fun k hk=> ?_⟩,by(first|omega|(dsimp only;omega)),by(repeat'(first|exact trivial|exact rfl|apply And.intro))⟩)
   ·have c:xU p.months j=false:=by simpa using c
    rw[e1,if_pos (by rw[em,zAm (k:=j) (by omega) c];rfl)]
   ·have c:xU p.months j=true:=by simpa using c
    rcases Nat.lt_or_ge k j with h|h
    ·exact g2 k h
    ·obtain rfl:k=j:=by omega
     exact c
 have em:yV p.months=true:=by rw[em];exact zJq fun k hk=>g2 k (by omega)
 have e2:p.check=if !xO p then 22 else if xP p then 23 else if yY p then 1 else if xY p then 31 else if xB p then 24 else 0:=by
  rw[e1,if_neg (by simp[em])]
 have et:xO p=((decide (1≤p.tick) && decide (p.tick≤1000) && !xR p.tick p.low && !xR p.tick p.high && !xR p.tick p.wide) && !p.settle.any (xR p.tick)):=rfl
 refine⟨true,fun b=>b= !(decide (1≤p.tick) && decide (p.tick≤1000) && !xR p.tick p.low && !xR p.tick p.high && !xR p.tick p.wide),zQ (fun d1=>⟨true,rfl,?_,by(repeat'(first|exact trivial|exact rfl|apply And.intro))⟩) (fun d1=>zQ (fun d2=>⟨true,rfl,?_,by(repeat'(first|exact trivial|exact rfl|apply And.intro))⟩) (fun d2=>⟨trivial,by omega,Cv.cnd.mk (fun d3=>⟨true,rfl,?_,by(repeat'(first|exact trivial|exact rfl|apply And.intro))⟩) (fun d3=>⟨trivial,by omega,Cv.cnd.mk (fun d4=>⟨true,rfl,?_,by(repeat'(first|exact trivial|exact rfl|apply And.intro))⟩) (fun d4=>⟨trivial,by omega,_,rfl,?_,by(repeat'(first|exact trivial|exact rfl|apply And.intro))⟩)⟩)⟩)),fun b hb=> ?_⟩
 ·rw[decide_eq_false (show ¬1≤p.tick by omega)];rfl
 ·rw[decide_eq_false (show ¬p.tick≤1000 by omega)];simp
 ·have d3:xR p.tick p.low=true:=d3
  rw[d3];simp
 ·have d4:xR p.tick p.high=true:=d4
  rw[d4];simp
 ·have d3:xR p.tick p.low=false:=d3
  have d4:xR p.tick p.high=false:=d4
  rw[d3,d4,decide_eq_true (show 1≤p.tick by omega),decide_eq_true (show p.tick≤1000 by omega)]
  show xR p.tick p.wide=_
  simp
 subst hb
 refine Cv.cnd.mk (fun c3=> ?_) (fun c3=> ?_)
 ·have c3:(decide (1≤p.tick) && decide (p.tick≤1000) && !xR p.tick p.low && !xR p.tick p.high && !xR p.tick p.wide)=false:=by
   rw[Bool.not_eq_true']at c3
   exact c3
  exact⟨(),by rw[e2,if_pos (by rw[et,c3];rfl)],trivial⟩
 have c3:(decide (1≤p.tick) && decide (p.tick≤1000) && !xR p.tick p.low && !xR p.tick p.high && !xR p.tick p.wide)=true:=by simpa using c3
 have ht1:1≤p.tick:=by
  simp only[Bool.and_eq_true,decide_eq_true_eq]at c3;exact c3.1.1.1.1
 rw[c3,Bool.true_and]at et
 refine⟨0,rfl,fun j=>j≤p.settle.length∧∀k<j,∀x,p.settle[k]? =some x→xR p.tick x=false,fun j=>p.settle.length-j,⟨by omega,fun k hk=>by omega⟩,?_⟩
 rintro j ⟨g1,g2⟩
 refine zQ (fun hj=> ?_) (fun hj=> ?_)
 ·obtain⟨m,hm⟩:=yE (l:=p.settle) (i:=j) (by omega)
  refine⟨⟨by omega,by omega⟩,m,elI hm,trivial,by omega,Cv.cnd.mk (fun c=>⟨(),?_,trivial⟩) (fun c=>⟨j+1,by rw[w64 (by omega)];rfl,⟨by omega,fun k hk x hx=> ?_⟩,by(first|omega|(dsimp only;omega)),by(repeat'(first|exact trivial|exact rfl|apply And.intro))⟩)⟩
  ·have c:xR p.tick m=true:=c
   have:p.settle.any (xR p.tick)=true:=by rw[List.any_eq_true];exact⟨m,List.mem_of_getElem? hm,c⟩
   rw[e2,if_pos (by rw[et,this];rfl)]
  ·rcases Nat.lt_or_ge k j with h|h
   ·exact g2 k h x hx
   ·obtain rfl:k=j:=by omega
    rw[hm]at hx;cases hx;exact c
 have et:xO p=true:=by
  rw[et]
  have:p.settle.any (xR p.tick)=false:=by
   rw[List.any_eq_false]
   intro x hx
   obtain⟨k,hk⟩:=List.getElem?_of_mem hx
   rw[g2 k (by have:=(List.getElem?_eq_some_iff.1 hk).1;omega) x hk];simp
  rw[this];rfl
 have e3:p.check=if xP p then 23 else if yY p then 1 else if xY p then 31 else if xB p then 24 else 0:=by
  rw[e2,if_neg (by simp[et])]
 refine⟨true,fun b=>b=xP p,zQ (fun d1=>⟨true,rfl,?_,by(repeat'(first|exact trivial|exact rfl|apply And.intro))⟩) (fun d1=>zQ (fun d2=>⟨true,rfl,?_,by(repeat'(first|exact trivial|exact rfl|apply And.intro))⟩) (fun d2=>zQ (fun d3=>⟨true,rfl,?_,by(repeat'(first|exact trivial|exact rfl|apply And.intro))⟩) (fun d3=>zQ (fun d4=>⟨true,rfl,?_,by(repeat'(first|exact trivial|exact rfl|apply And.intro))⟩) (fun d4=>⟨_,rfl,?_,by(repeat'(first|exact trivial|exact rfl|apply And.intro))⟩)))),fun b hb=> ?_⟩
 ·simp[xP,d1]
 ·simp[xP,d2]
 ·simp[xP,d3]
 ·simp[xP,d4]
 ·rw[w64 (by omega)];simp[xP,d1,d2,d3,d4]
 subst hb
 refine Cv.cnd.mk (fun c4=>⟨(),by rw[e3,if_pos c4],trivial⟩) (fun c4=> ?_)
 have e4:p.check=if yY p then 1 else if xY p then 31 else if xB p then 24 else 0:=by
  rw[e3,if_neg (by simp[c4])]
 refine Cv.cnd.mk (fun d6=>⟨(),?_,trivial⟩) (fun d6=> ?_)
 ·have d6:¬(p.settle.length:Int)=p.months.length:=by simpa using d6
  rw[e4,if_pos (by simp[yY];omega)]
 have d6:p.settle.length=p.months.length:=by
  have:(p.settle.length:Int)=p.months.length:=by simpa using d6
  omega
 have hne:p.settle≠[]:=by intro e;rw[e]at d6;simp at d6;omega
 refine⟨0,rfl,fun j=>j≤p.settle.length∧∀k<j,∀x,p.settle[k]? =some x→p.low≤x∧x≤p.high,fun j=>p.settle.length-j,⟨by omega,fun k hk=>by omega⟩,?_⟩
 rintro j ⟨g3,g4⟩
 refine zQ (fun hj=> ?_) (fun hj=> ?_)
 ·obtain⟨m,hm⟩:=yE (l:=p.settle) (i:=j) (by omega)
  have hmm:=List.mem_of_getElem? hm
  refine⟨true,fun b=>b=(decide (m<p.low)||decide (m>p.high)),⟨⟨by omega,by omega⟩,m,elI hm,zQ (fun c=>⟨true,rfl,?_,by(repeat'(first|exact trivial|exact rfl|apply And.intro))⟩) (fun c=>⟨⟨by omega,by omega⟩,m,elI hm,_,rfl,?_,by(repeat'(first|exact trivial|exact rfl|apply And.intro))⟩)⟩,fun b hb=> ?_⟩
  ·rw[decide_eq_true c];rfl
  ·rw[decide_eq_false c,Bool.false_or]
  ·subst hb
   refine Cv.cnd.mk (fun c=>⟨(),?_,trivial⟩) (fun c=>⟨j+1,by rw[w64 (by omega)];rfl,⟨by omega,fun k hk x hx=> ?_⟩,by(first|omega|(dsimp only;omega)),by(repeat'(first|exact trivial|exact rfl|apply And.intro))⟩)
   ·have l1:=zPq hmm
    have l2:=zNp hmm
    rw[e4,if_pos (by
     simp only[Bool.or_eq_true,decide_eq_true_eq]at c
     simp only[yY,Bool.or_eq_true,decide_eq_true_eq]
     rcases c with c|c
     ·left;right;omega
     ·right;omega)]
   ·rcases Nat.lt_or_ge k j with h|h
    ·exact g4 k h x hx
    ·obtain rfl:k=j:=by omega
     rw[hm]at hx;cases hx
     simp only[Bool.or_eq_false_iff,decide_eq_false_iff_not]at c
     omega
 have hset:yY p=false:=by
  have all:∀x∈p.settle,p.low≤x∧x≤p.high:=fun x hx=>by
   obtain⟨k,hk⟩:=List.getElem?_of_mem hx
   exact g4 k (by have:=(List.getElem?_eq_some_iff.1 hk).1;omega) x hk
  have a1:=all _ (zFu hne)
  have a2:=all _ (zIe hne)
  simp only[yY,Bool.or_eq_false_iff,decide_eq_false_iff_not]
  omega
 have e5:p.check=if xY p then 31 else if xB p then 24 else 0:=by
  rw[e4,if_neg (by simp[hset])]
 refine⟨true,fun b=>b=xY p,zQ (fun d1=>⟨true,rfl,?_,by(repeat'(first|exact trivial|exact rfl|apply And.intro))⟩) (fun d1=>⟨_,rfl,?_,by(repeat'(first|exact trivial|exact rfl|apply And.intro))⟩),fun b hb=> ?_⟩
 ·simp[xY,d1]
 ·simp[xY,d1]
 subst hb
 refine Cv.cnd.mk (fun c6=>⟨(),by rw[e5,if_pos c6],trivial⟩) (fun c6=> ?_)
 have e6:p.check=if xB p then 24 else 0:=by rw[e5,if_neg (by simp[c6])]
 refine⟨true,fun b=>b=xB p,zQ (fun d1=>⟨true,rfl,?_,by(repeat'(first|exact trivial|exact rfl|apply And.intro))⟩) (fun d1=>zQ (fun d2=>⟨true,rfl,?_,by(repeat'(first|exact trivial|exact rfl|apply And.intro))⟩) (fun d2=>zQ (fun d3=>⟨true,rfl,?_,by(repeat'(first|exact trivial|exact rfl|apply And.intro))⟩) (fun d3=>zQ (fun d4=>⟨true,rfl,?_,by(repeat'(first|exact trivial|exact rfl|apply And.intro))⟩) (fun d4=>zQ (fun d5=>⟨true,rfl,?_,by(repeat'(first|exact trivial|exact rfl|apply And.intro))⟩) (fun d5=>⟨_,rfl,?_,by(repeat'(first|exact trivial|exact rfl|apply And.intro))⟩))))),fun b hb=> ?_⟩
 ·simp[xB,d1]
 ·simp[xB,d2]
 ·simp[xB,d3]
 ·simp[xB,d4]
 ·simp[xB,d5]
 ·simp[xB,d1,d2,d3,d4,d5]
 subst hb
 exact Cv.cnd.mk (fun c7=>⟨(),by rw[e6,if_pos c7],trivial⟩) (fun c7=>⟨(),by rw[e6,if_neg (by simp[c7])],trivial⟩)
theorem lD:r5checkC.ok Tryz.prog 77:=zRw (gokc zSn gok0) zUg
theorem gI {p:Prd} (h:p.check=0):p.count=p.months.length+p.months.length*(p.months.length-1) / 2:=by rw[Prd.count,if_pos h]
theorem tL {p:Prd} (h:p.check≠0):p.count=0:=by rw[Prd.count,if_neg h]
theorem zTy (p:Prd) (h:r5countC.cnd p):lC p:=by
 have hs:p.small:=h
 unfold lC
 simp only[yW]
 refine⟨p,rfl,rfl,rfl,rfl,rfl,rfl,rfl,rfl,rfl,rfl,rfl,hs,fun _ _=>Cv.cnd.mk (fun c=>⟨(),?_,trivial⟩) (fun c=>⟨trivial,by decide,(),?_,trivial⟩)⟩
 ·rw[tL (by simpa using c)];rfl
 ·have c:p.check=0:=by simpa using c
  have m6:=(qK c).m6
  have m2:=(qK c).m2
  rw[gI c]
  generalize p.months.length=n at*
  have:n=2∨n=3∨n=4∨n=5∨n=6:=by omega
  rcases this with rfl|rfl|rfl|rfl|rfl<;>decide
theorem zNk:r5countC.ok Tryz.prog 46:=zSx (gokc lD gok0) zTy
theorem zVb:∀n≤6,∀a<n,∀b<n-1-a,x4 n (z7 n a+b) n 0=((a:Int),((a+1+b:Nat):Int),true)∧z7 n a+b<n+n*(n-1) / 2∧n≤z7 n a+b:=by decide
theorem zQu:∀n≤6,z7 n n=n+n*(n-1) / 2:=by decide
theorem z1u {p:Prd} (h:p.check=0) {a b:Nat} (ha:a<p.months.length) (hb:b<p.months.length-1-a):p.legs ((z7 p.months.length a+b:Nat):Int)=((a:Int),((a+1+b:Nat):Int),true):=by
 obtain⟨h1,h2,h3⟩:=zVb _ (qK h).m6 a ha b hb
 rw[Prd.legs,if_neg (by rw[gI h];omega),if_neg (by omega),Int.toNat_natCast]
 exact h1
theorem z4d (i:vU) (h:r5legsC.cnd i):zDf i:=by
 have hs:i.p.small:=h
 unfold zDf
 simp only[yW]
 refine⟨i.p,rfl,rfl,rfl,rfl,rfl,rfl,rfl,rfl,rfl,rfl,rfl,hs,fun _ _=>Cv.cnd.mk (fun c=> ?_) (fun c=>zQ (fun c1=> ?_) (fun c1=>zQ (fun c2=> ?_) (fun c2=> ?_)))⟩
 ·rw[Prd.legs,if_pos (by rw[tL (by simpa using c)];omega)];(repeat'(first|exact rfl|exact trivial|assumption|apply And.intro|refine fun(_:Unit) (_:True)=>?_|refine Exists.intro () ?_|omega|(dsimp only;omega)))
 ·rw[Prd.legs,if_pos (.inl c1)];(repeat'(first|exact rfl|exact trivial|assumption|apply And.intro|refine fun(_:Unit) (_:True)=>?_|refine Exists.intro () ?_|omega|(dsimp only;omega)))
 ·have c:i.p.check=0:=by simpa using c
  rw[Prd.legs,if_neg (by rw[gI c];omega),if_pos c2];(repeat'(first|exact rfl|exact trivial|assumption|apply And.intro|refine fun(_:Unit) (_:True)=>?_|refine Exists.intro () ?_|omega|(dsimp only;omega)))
 ·have c:i.p.check=0:=by simpa using c
  have m6:=(qK c).m6
  obtain⟨k,hk⟩:∃k:Nat,i.n=k:=⟨i.n.toNat,by omega⟩
  have sp:=fun(a b:Nat) ha hb=>z1u (p:=i.p) c (a:=a) (b:=b) ha hb
  have fe:=zQu _ m6
  have out:i.p.count≤k→i.p.legs (k:Int)=(0,0,false):=fun e=>by rw[Prd.legs,if_pos (by omega)]
  rw[gI c,← fe]at out
  rw[hk]at c2 ⊢
  generalize hn:i.p.months.length=n at*
  refine⟨0,rfl,rfl,fun m=>m≤n∧z7 n m≤k,fun m=>n-m,⟨by omega,by show n≤k;omega⟩,?_⟩
  rintro m ⟨g1,g2⟩
  have hf:=sP m6 g1
  refine zQ (fun c4=> ?_) (fun c4=> ?_)
  ·refine⟨(m,0),rfl,rfl,by rw[w64 (by omega)];simp,fun x=>x.1=m∧x.2≤n-1-m∧z7 n m+x.2≤k,fun x=>n-1-m-x.2,⟨rfl,by(first|omega|(dsimp only;omega)),by(first|omega|(dsimp only;omega))⟩,?_⟩
   rintro⟨a,b⟩ ⟨g3,g4,g5⟩
   dsimp only at g3 g4 g5 ⊢
   subst g3
   refine zQ (fun c5=>Cv.cnd.mk (fun e=> ?_) (fun e=> ?_)) (fun c5=> ?_)
   ·have e:((z7 n a+b:Nat):Int)=(k:Int):=by simpa using e
    have:=sp a b (by omega) (by omega)
    rw[e]at this
    rw[this];(repeat'(first|exact rfl|exact trivial|assumption|apply And.intro|refine fun(_:Unit) (_:True)=>?_|refine Exists.intro () ?_|omega|(dsimp only;omega)))
   ·have e:¬((z7 n a+b:Nat):Int)=(k:Int):=by simpa using e
    refine⟨(a,b+1),?_,rfl,?_,⟨rfl,by(first|omega|(dsimp only;omega)),by(first|omega|(dsimp only;omega))⟩,by(first|omega|(dsimp only;omega)),by(repeat'(first|exact trivial|exact rfl|apply And.intro))⟩
    ·rw[w64 (by omega)];dsimp only;omega
    ·rw[w64 (by omega)];dsimp only;omega
   ·refine⟨a+1,?_,by rw[w64 (by omega)];rfl,⟨by omega,?_⟩,by(first|omega|(dsimp only;omega)),by(repeat'(first|exact trivial|exact rfl|apply And.intro))⟩
    ·rw[z7];omega
    ·rw[z7];omega
  ·obtain rfl:m=n:=by omega
   rw[out g2];(repeat'(first|exact rfl|exact trivial|assumption|apply And.intro|refine fun(_:Unit) (_:True)=>?_|refine Exists.intro () ?_|omega|(dsimp only;omega)))
theorem zRv:r5legsC.ok Tryz.prog 47:=zXd (gokc lD gok0) z4d
theorem zHk (x:Prd):1≤yD x∧yD x≤10:=by
 have:=y5 (n:=x.tick) (lo:=0) (hi:=9) (by omega)
 rw[yD];omega
theorem zWk (x:Prd):2≤kN x∧kN x≤5:=by
 have:=y5 (n:=(x.months.length:Int)) (lo:=0) (hi:=3) (by omega)
 rw[kN];omega
theorem eC {a b m n:Int} (ha:0≤a∧a≤m) (hb:0≤b∧b≤n):0≤a*b∧a*b≤m*n:=by
 refine⟨Int.mul_nonneg ha.1 hb.1,?_⟩
 exact Int.le_trans (Int.mul_le_mul_of_nonneg_right ha.2 hb.1) (Int.mul_le_mul_of_nonneg_left hb.2 (by omega))
theorem zEx (j:Nat):iE (qB (j+1))=iE (qB j)++[[D.v (.int .i64 (10*(j:Int)+3))]]:=by
 rw[qB,List.range_succ,List.map_append,iE,List.map_append];rfl
theorem zDb (t:Int) (j:Nat):iE (xX t (j+1))=iE (xX t j)++[[D.v (.int .i64 (t*(10+(j:Int))))]]:=by
 rw[xX,List.range_succ,List.map_append,iE,List.map_append];rfl
theorem dR (j:Nat):(qB j).length=j:=by simp[qB]
theorem uT (t:Int) (j:Nat):(xX t j).length=j:=by simp[xX]
theorem z6h (x:Prd) (h:kprodC.cnd x):zMr x:=by
 obtain⟨h1,h2,h3,h4,h5,h6,h7⟩:x.raw:=h
 have hw: -1000000≤(0:Int):=by decide
 have bt:=y5 (n:=x.tick) (lo:=0) (hi:=9) (by omega)
 have bw:=y5 (n:=x.wide) (lo:=0) (hi:=60) (by omega)
 have br:=y5 (n:=x.rule) (lo:=0) (hi:=2) (by omega)
 have bl:=y5 (n:=x.least) (lo:=0) (hi:=4) (by omega)
 have bn:=y5 (n:=(x.months.length:Int)) (lo:=0) (hi:=3) (by omega)
 have kt:=zHk x
 have kn:=zWk x
 have w1:IntKind.i64.wrap (1+zI x.tick 0 9)=yD x:=w64 (by omega)
 have w2:IntKind.i64.wrap (-20*IntKind.i64.wrap (1+zI x.tick 0 9))= -20*yD x:=by rw[w1];exact w64 (by omega)
 have w3:IntKind.i64.wrap (100*IntKind.i64.wrap (1+zI x.tick 0 9))=100*yD x:=by rw[w1];exact w64 (by omega)
 have w4:IntKind.i64.wrap (1+zI x.rule 0 2)=1+zI x.rule 0 2:=w64 (by omega)
 have w5:IntKind.i64.wrap (1+zI x.least 0 4)=1+zI x.least 0 4:=w64 (by omega)
 have w6:IntKind.i64.wrap (2+zI x.months.length 0 3)=kN x:=w64 (by omega)
 have mb:=eC (a:=yD x) (b:=5+zI x.wide 0 60) (m:=10) (n:=65) (by omega) (by omega)
 have w7:IntKind.i64.wrap (IntKind.i64.wrap (1+zI x.tick 0 9)*IntKind.i64.wrap (5+zI x.wide 0 60))=yD x*(5+zI x.wide 0 60):=by
  rw[w1,w64 (x:=5+zI x.wide 0 60) (by omega)];exact w64 (by omega)
 unfold zMr lP a9
 simp only[yW]
 refine⟨⟨x.months.length,0,3⟩,rfl,rfl,rfl,⟨⟨by dsimp only;omega,by dsimp only;omega⟩,by dsimp only;omega,by dsimp only;omega,by dsimp only;omega⟩,fun _ _=>⟨⟨x.tick,0,9⟩,rfl,rfl,rfl,⟨h1,by dsimp only;omega,by dsimp only;omega,by dsimp only;omega⟩,fun _ _=> ?_⟩⟩
 dsimp only
 refine⟨(),fun _=>True,?_,fun _ _=> ?_⟩
 ·repeat'(first|exact trivial|exact rfl|exact w1.symm|exact w2.symm|exact w3.symm|exact w4.symm|exact w5.symm|apply And.intro|refine⟨⟨x.rule,0,2⟩,rfl,rfl,rfl,⟨h3,by dsimp only;omega,by dsimp only;omega,by dsimp only;omega⟩,fun _ _=> ?_⟩|refine⟨⟨x.top,0,9⟩,rfl,rfl,rfl,⟨h4,by dsimp only;omega,by dsimp only;omega,by dsimp only;omega⟩,fun _ _=> ?_⟩|refine⟨⟨x.least,0,4⟩,rfl,rfl,rfl,⟨h5,by dsimp only;omega,by dsimp only;omega,by dsimp only;omega⟩,fun _ _=> ?_⟩|refine⟨⟨x.part,0,100⟩,rfl,rfl,rfl,⟨h6,by dsimp only;omega,by dsimp only;omega,by dsimp only;omega⟩,fun _ _=> ?_⟩|refine⟨(),?_⟩)
 ·refine⟨⟨x.wide,0,60⟩,rfl,rfl,rfl,⟨h2,by dsimp only;omega,by dsimp only;omega,by dsimp only;omega⟩,fun _ _=> ?_⟩
  dsimp only
  rw[w7,w6]
  refine⟨0,by(first|exact rfl|exact trivial),by(first|exact rfl|exact trivial),by(first|exact rfl|exact trivial),by(first|exact rfl|exact trivial),by(first|exact rfl|exact trivial),by(first|exact rfl|exact trivial),by(first|exact rfl|exact trivial),by(first|exact rfl|exact trivial),by(first|exact rfl|exact trivial),by(first|exact rfl|exact trivial),by(first|exact rfl|exact trivial),by(first|exact rfl|exact trivial),fun j=>j≤(kN x).toNat,fun j=>(kN x).toNat-j,by omega,?_⟩
  intro j hj
  rw[dR,uT]
  refine zQ (fun c=>⟨by omega,by omega,j+1,by rw[w64 (by omega)];rfl,by(first|exact rfl|exact trivial),by(first|exact rfl|exact trivial),by(first|exact rfl|exact trivial),by(first|exact rfl|exact trivial),by(first|exact rfl|exact trivial),by(first|exact rfl|exact trivial),by(first|exact rfl|exact trivial),by(first|exact rfl|exact trivial),by(first|exact rfl|exact trivial),?_,?_,by(first|omega|(dsimp only;omega)),by(first|omega|(dsimp only;omega)),by(repeat'(first|exact trivial|exact rfl|apply And.intro))⟩) (fun c=>⟨(),?_⟩)
  ·rw[zEx,w64 (x:=10*(j:Int)) (by omega),w64 (by omega)]
  ·have mj:=eC (a:=yD x) (b:=10+(j:Int)) (m:=10) (n:=20) (by omega) (by omega)
   rw[zDb,w1,w64 (x:=10+(j:Int)) (by omega),w64 (by omega)]
  ·have e:(kN x).toNat=j:=by omega
   rw[e];(repeat'(first|exact trivial|exact rfl|apply And.intro))
theorem kprod_ok:kprodC.ok Tryz.prog 20:=z2f (gokc zAo gok0) z6h
open Go Cv Go.Proofs
structure Cmd where
 kind:Int
 id:Int
 inst:Int
 side:Int
 price:Int
 qty:Int
 least:Int
 time:Int
 label:List UInt8
 deriving DecidableEq
@[reducible] def Cmd.cells (c:Cmd):List V:=[zD c.kind,zD c.id,zD c.inst,zD c.side,zD c.price,zD c.qty,zD c.least,zD c.time,sV c.label]
@[reducible] def lT (c:Cmd):V:= .agg c.cells
def cmdE (c:Cmd):List D:=[.v (.int .i64 c.kind),.v (.int .i64 c.id),.v (.int .i64 c.inst),.v (.int .i64 c.side),.v (.int .i64 c.price),.v (.int .i64 c.qty),.v (.int .i64 c.least),.v (.int .i64 c.time),.v (.string (sb c.label))]
def yFl:Cmd:=⟨0,0,0,0,0,0,0,0,[]⟩
@[reducible] def Cmd.raw (c:Cmd):Prop:=yL c.kind∧yL c.id∧yL c.inst∧yL c.side∧yL c.price∧yL c.qty∧yL c.least∧yL c.time
structure TmI where
 p:Prd
 c:Cmd
 i:Int
def u9 (c:Cmd):Int:=if 4<1+zI c.kind 0 8 then 1 else 1+zI c.kind 0 8
def yU (t:TmI):Cmd:=⟨u9 t.c,1+zI t.c.id 0 30,zI t.c.inst 0 (t.p.count-1),1+zI t.c.side 0 1,t.p.tick*zI t.c.price 0 9,1+zI t.c.qty 0 11,0,0,[]⟩
def hU (c:Cmd):Int:=if c.time.tmod 5=3 then 3 else if c.time.tmod 5=2 then 2 else 1
def cQ (c:Cmd) (q:Int):Int:=if c.least.tmod 4=1 then zI c.least 0 q else 0
def xD (t:TmI):Cmd:=
 let h:=yU t
 if h.kind=1 then{h with id:=t.i+1,time:=hU t.c,least:=cQ t.c h.qty,price:=if(t.p.legs h.inst).2.2=true then h.price-4*t.p.tick else h.price+8*t.p.tick}
 else{h with price:=if h.kind=4 then h.price+5*t.p.tick else h.price,side:=0,inst:=0}
def tameC:Con:=con1 TmI (fun t=>[prdV t.p,lT t.c,zD t.i]) (fun _=>[]) (fun t=>t.p.check=0∧t.p.small∧t.c.raw∧0≤t.i∧t.i≤1000000) (fun t=>lT (xD t)) (fun _=>[])
def cj (k:Nat):Nat×SAnn:=(k,{ι:=Cmd,slots:=fun _=>[(7,.nm 0 0)],slots0:=fun _=>[(7,.nm 0 0)],rows0:=fun c=>[.cells c.cells 35],rows:=fun c=>[.cells c.cells 35]})
def yDx:List (Nat×SAnn):=[cj 14,cj 54,cj 62,cj 70]
structure AbI where
 x:Prd
 l:List Cmd
def Top.pr (t:Top) (s:Nat):Int:=if s=0 then t.p1 else t.p2
def Top.hs (t:Top) (s:Nat):Bool:=if s=0 then t.has1 else t.has2
structure B2 where
 a:Bool
 b:Bool
end Sx
