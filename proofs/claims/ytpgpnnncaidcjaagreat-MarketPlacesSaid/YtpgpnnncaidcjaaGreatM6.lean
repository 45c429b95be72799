/- Texts of ours, one behind the other: a walk that the kernel reckons, and contracts of functions. No condition. -/
import Derived.Laws.AppendOwn
import Derived.Lib.AppendZerosOnto
import Derived.Lib.Overlaps
import Derived.Test.YtpgpnnncaidcjaaGreatM5
namespace Sx
set_option linter.unusedSimpArgs false
set_option linter.unusedVariables false
open Go Go.RowKit Cv
theorem cG {P:Program} {dT sT ty e sz by_:Nat} {z:Array Value} (hi:jC P dT=some (e,sz,by_,z)) {w:World} {g o dLen dCap b so sLen sCap n:Nat} {cur src:List Value} {T T':TypeId} {fr:Nat×Nat}
 (hg:w.heap[g]? =some (.cells cur.toArray T (0,0))) (hs:w.heap[b]? =some (.cells src.toArray T' fr)) (hn:Nat.min sLen dLen=n) (h1:so+n*sz≤src.length) (h2:o+n*sz≤cur.length)
 (hone:∀v∈(src.drop so).take (n*sz),v.oneC=true):
 jS P (Builtin.copy_ #[dT,sT] ty #[.slice (some ⟨g,o,none⟩) dLen dCap,.slice (some ⟨b,so,none⟩) sLen sCap]) w (.int .i64 n) (World.setB w g (.cells (spl cur o ((src.drop so).take (n*sz))).toArray T (0,0))):=by
 obtain⟨i,zv,q1,q2,rfl,rfl,q5,rfl⟩:=x4 hi
 have hl:((src.drop so).take (n*i.size)).length=n*i.size:=by rw[List.length_take,List.length_drop];omega
 have hst:=xN (P:=P) ((src.drop so).take (n*i.size)) 0 o cur w hg (by rw[hl];omega) hone
 simp only[Nat.add_zero]at hst
 unfold jS Builtin.copy_
 simp only[List.getElem?_toArray,List.getElem?_cons_zero,List.getElem?_cons_succ,bind,pure,run_bind,Sem.bind,Sem.run,Cv.run_underlying q1,Cv.run_sizeOf q2,Builtin.lenOf,hn,Builtin.firstCells,jF hs h1,hst]
 rfl
theorem Hp.apart {k:Ko} {w:World} {b c:Nat} {o o':Obj} {L:List HP} (H:Hp k w (pt b o::pt c o'::L)):b≠c:=by
 obtain⟨hk,hs,hh⟩:=H
 cases hh with
 |cons ha hsub hd hr=>
  cases hr with
  |cons hb hsub2 hd2 hr2=>
   intro e
   subst e
   have:=hd _ List.mem_cons_self b
   rw[show _=one b o from ha,show _=one b o' from hb]at this
   simp[one]at this
def z5f (P:Program) (tS tI sz fO fR:Nat) (s:Option Addr) (sn sk:Nat) (i:Int) (v:Option Addr) (vn vk:Nat) (w:World) (R:Ending→World→Prop):Prop:=
slN s sn sk (some i) none sz fun a1 na1 ka1=>
cnd (((vn:Int):Int)==0) (
R (.returned (.slice s sn sk)) w) (
cnd ((i:Int)==(sn:Int)) (
∃(a2:Option Addr) (na2 ka2:Nat),∃w3:World,jS P (Builtin.append_ #[tS,tS] tS #[.slice s sn sk,.slice v vn vk]) w (.slice a2 na2 ka2) w3∧
R (.returned (.slice a2 na2 ka2)) w3) (
cnd (decide ((IntKind.i64.wrap ((sn:Int)+(vn:Int)):Int)>(sk:Int))) (
slN s sn sk none (some i) sz fun a4 na4 ka4=>
∃(a5:Option Addr) (na5 ka5:Nat),∃w6:World,jS P (Builtin.append_ #[tS,tI] tS #[.slice a4 na4 ka4,.int .i64 (IntKind.i64.wrap (IntKind.i64.wrap ((sn:Int)+(vn:Int))-i))]) w (.slice a5 na5 ka5) w6∧
slN a5 na5 ka5 (some i) none sz fun a7 na7 ka7=>
∃x8:Int,∃w9:World,jS P (Builtin.copy_ #[tS,tS] tI #[.slice a7 na7 ka7,.slice v vn vk]) w6 (.int .i64 x8) w9∧
DrewN w9 fun w10=>
slN a5 na5 ka5 (some (IntKind.i64.wrap (i+(vn:Int)))) none sz fun a11 na11 ka11=>
slN s sn sk (some i) none sz fun a12 na12 ka12=>
∃x13:Int,∃w14:World,jS P (Builtin.copy_ #[tS,tS] tI #[.slice a11 na11 ka11,.slice a12 na12 ka12]) w10 (.int .i64 x13) w14∧
R (.returned (.slice a5 na5 ka5)) w14) (
slN s sn sk none (some (IntKind.i64.wrap ((sn:Int)+(vn:Int)))) sz fun a15 na15 ka15=>
slN a15 na15 ka15 (some (IntKind.i64.wrap (i+(vn:Int)))) none sz fun a16 na16 ka16=>
∃c17:Bool,∃w18:World,Cv.Ext P fO #[.slice v vn vk,.slice a16 na16 ka16] w (.bool c17) w18∧
cnd (!c17) (
DrewN w18 fun w19=>
slN a15 na15 ka15 (some (IntKind.i64.wrap (i+(vn:Int)))) none sz fun a20 na20 ka20=>
slN a15 na15 ka15 (some i) none sz fun a21 na21 ka21=>
∃x22:Int,∃w23:World,jS P (Builtin.copy_ #[tS,tS] tI #[.slice a20 na20 ka20,.slice a21 na21 ka21]) w19 (.int .i64 x22) w23∧
slN a15 na15 ka15 (some i) none sz fun a24 na24 ka24=>
∃x25:Int,∃w26:World,jS P (Builtin.copy_ #[tS,tS] tI #[.slice a24 na24 ka24,.slice v vn vk]) w23 (.int .i64 x25) w26∧
R (.returned (.slice a15 na15 ka15)) w26) (
slN a15 na15 ka15 (some (sn:Int)) none sz fun a27 na27 ka27=>
∃x28:Int,∃w29:World,jS P (Builtin.copy_ #[tS,tS] tI #[.slice a27 na27 ka27,.slice v vn vk]) w18 (.int .i64 x28) w29∧
slN a15 na15 ka15 (some i) none sz fun a30 na30 ka30=>
Calls P fR #[.slice a30 na30 ka30,.int .i64 (vn:Int)] w29 fun e32 w31=>e32= .returned (.tuple #[])∧
R (.returned (.slice a15 na15 ka15)) w31))))
theorem zSa {α:Type} {l m:Nat} {xs r ys:List α} (hl:l≤xs.length) (hy:ys.length=m) (hr:m≤r.length):
 ((xs++r).take (l+m)++xs.drop l++(xs++r).drop (l+m+(xs.drop l).length)).take l++ys++((xs++r).take (l+m)++xs.drop l++(xs++r).drop (l+m+(xs.drop l).length)).drop (l+ys.length)=(xs.take l++ys++xs.drop l)++r.drop m:=by
 have e1:(xs++r).drop (l+m+(xs.drop l).length)=r.drop m:=by
  rw[List.length_drop,show l+m+(xs.length-l)=xs.length+m by omega,List.drop_append]
  simp
 have e2:((xs++r).take (l+m)++xs.drop l++r.drop m).take l=xs.take l:=by
  rw[List.append_assoc,List.take_append_of_le_length (by rw[List.length_take,List.length_append];omega),List.take_take,Nat.min_eq_left (by omega),List.take_append_of_le_length hl]
 have e3:((xs++r).take (l+m)++xs.drop l++r.drop m).drop (l+ys.length)=xs.drop l++r.drop m:=by
  have:((xs++r).take (l+m)).length=l+m:=by rw[List.length_take,List.length_append];omega
  rw[List.append_assoc,hy,List.drop_append,this,Nat.sub_self,List.drop_zero,List.drop_eq_nil_of_le (by omega),List.nil_append]
 rw[e1,e2,e3]
 simp
theorem zBo (A Z Y:List Value):spl (A++Z) A.length Y=A++Y++Z.drop Y.length:=by
 simp only[spl]
 rw[List.take_left,List.drop_append]
 simp
theorem mP {b o n c i:Nat} (h:c≠i):(if c=i then(some ⟨b,o,none⟩:Option Addr)else(some ⟨b,o,none⟩:Option Addr).map (·.add n))=some ⟨b,o+n,none⟩:=by
 rw[if_neg h,Option.map_some,jA]
def zCl (P:Program) (fO:Nat):Prop:=∀(w:World) (va sb so la ca lb cb:Nat) (c c':Array Value) (T T':TypeId),va≠sb→w.heap[va]?=some (.cells c T (0,0))→w.heap[sb]?=some (.cells c' T' (0,0))→c'.size≠0→
 Cv.Ext P fO #[.slice (some ⟨va,0,none⟩) la ca,.slice (some ⟨sb,so,none⟩) lb cb] w (.bool false) w
theorem zZw {P : Program} {fO tS tB e sz by_ : Nat} {z : Array Value} {fn : Func} (hf : P.funcs[fO]? = some fn) (hname : (fn.name == "runtime.NumGoroutine") = false) (hb : fn.body.isNone = true) (hn : Extern.findNext fn = none) (he : Extern.find fn = some (Extern.SlicesOverlaps.overlaps #[tS, tS] #[tB]))
 (hi:jC P tS=some (e,sz,by_,z)):zCl P fO:=by
 obtain⟨i,zv,q1,q2,rfl,rfl,q5,rfl⟩:=x4 hi
 intro w va sb so la ca lb cb c c' T T' hne h1 h2 h3
 unfold Cv.Ext
 rw[run_callFunc_extern hf hname hb hn he,Lib.run_overlaps_apart w tS tB e q1 i.size (fun w=>Cv.run_sizeOf q2 w) ⟨va,0,none⟩ ⟨sb,so,none⟩ la ca lb cb hne T T' c.size c'.size (by simp[World.shape?,h1]) (by simp[World.shape?,h2]) h3 (by simp[World.frozen?,h1]) (by simp[World.frozen?,h1])]
 rfl
theorem yDo {P:Program} {tS tI e sz by_ fO fR:Nat} {z:Array Value} (hi:jC P tS=some (e,sz,by_,z)) (hz:z.size=sz) (hby:0<by_) (hsz:0<sz) (h2:zIk P tS=true) (hti:P.underlying tI=some (.int .i64)) (hov:zCl P fO)
 {k:Ko} {w:World} {L:List HP} {s v:Option Addr} {sn sk vn vk i:Nat} {xs ys:List Value} (H:Hp k w (slO e sz s sn sk xs::slO e sz v vn vk ys::L)) (h1:∀u∈xs,u.oneC=true) (hy:∀u∈ys,u.oneC=true) (hin:i≤sn) (hv:0<vn)
 (hb:(sn+vn)*by_≤70368744177664):
 z5f P tS tI sz fO fR s sn sk i v vn vk w fun en w'=>∃a kk,en= .returned (.slice a (sn+vn) kk)∧Hp k w' (slO e sz a (sn+vn) kk (xs.take (i*sz)++ys++xs.drop (i*sz))::slO e sz v vn vk ys::L):=by
 obtain⟨hxl,hnk⟩:=H.len
 obtain⟨hyl,hvk⟩:=H.swap.len
 have hnm:sn+vn≤70368744177664:=Nat.le_trans (Nat.le_mul_of_pos_right _ hby) hb
 have w1:IntKind.i64.wrap ((sn:Int)+(vn:Int))=((sn+vn:Nat):Int):=by rw[Cv.wrap_i64 (by omega) (by omega)];simp
 have w2:IntKind.i64.wrap ((i:Int)+(vn:Int))=((i+vn:Nat):Int):=by rw[Cv.wrap_i64 (by omega) (by omega)];simp
 have w3:IntKind.i64.wrap (((sn+vn:Nat):Int)-(i:Int))=((sn+vn-i:Nat):Int):=by rw[Cv.wrap_i64 (by omega) (by omega)];omega
 have hle:i*sz≤xs.length:=by rw[hxl];exact Nat.mul_le_mul_right _ hin
 have htl:(xs.take (i*sz)).length=i*sz:=by rw[List.length_take];omega
 have hdl:(xs.drop (i*sz)).length=(sn-i)*sz:=by rw[List.length_drop,hxl,Nat.sub_mul]
 have hsum:(i+vn)*sz=i*sz+vn*sz:=Nat.add_mul _ _ _
 have hsum2:(sn+vn)*sz=i*sz+vn*sz+(sn-i)*sz:=by rw[← Nat.add_mul,← Nat.add_mul];congr 1;omega
 have hfin:(xs.take (i*sz)++ys++xs.drop (i*sz)).length=(sn+vn)*sz:=by
  rw[List.length_append,List.length_append,htl,hyl,hdl,hsum2]
 unfold z5f
 simp only[slN,w1,w2,w3,Int.toNat_natCast]
 refine⟨⟨by omega,by omega,hnk⟩,Cv.cnd.mk (fun c=>absurd c (by simp;omega)) fun _=>Cv.cnd.mk (fun c=> ?_) fun c=>Cv.cnd.mk (fun hc=> ?_) fun hc=> ?_⟩
 ·have c:i=sn:=by have:(i:Int)=(sn:Int):=by simpa using c
                  omega
  subst c
  obtain⟨a',c',w',r1,r2⟩:=H.append (rt:=tS) hi h2 (x:= .slice v vn vk) (m:=vn) (ys:=ys) (.inl ⟨v,vk,rfl,H.swap.satR⟩) hy hz hby hb
  refine⟨a',_,c',w',r1,a',c',rfl,?_⟩
  rw[List.take_of_length_le (by omega),List.drop_eq_nil_of_le (by omega),List.append_nil]
  exact r2
 ·have c:i<sn:=by have:¬(i:Int)=(sn:Int):=by simpa using c
                  omega
  have hc:sk<sn+vn:=by have:=of_decide_eq_true hc;omega
  obtain⟨inf,zv,q1,q2,q3,q4,q5,q6⟩:=x4 hi
  subst q3 q4 q6
  rcases H.slcases with⟨_,e0,_⟩|⟨b,r,rfl,g1,g2,g3,H0⟩
  ·omega
  rcases H0.swap.slcases with⟨_,e0,_⟩|⟨vb,rv,rfl,g4,g5,g6,H1⟩
  ·omega
  have hold:(Builtin.firstCells inf.size i (.slice (some ⟨b,0,none⟩) i sk)).run P w.drew= .ok (xs.take (i*inf.size)).toArray w.drew:=by
   have hbk:=(H1.drew).swap.get
   have:=jF (P:=P) (o:=0) (n:=i*inf.size) hbk (by rw[List.length_append];omega)
   unfold Builtin.firstCells
   rw[this,List.drop_zero,List.take_append_of_le_length hle]
  have hfit2:=sK (need:=sn+vn) (cap:=sk) (by omega)
  have hfit3:=Nat.mul_le_mul_right inf.bytes hfit2
  have e2:2*(sn+vn)*inf.bytes=2*((sn+vn)*inf.bytes):=by rw[Nat.mul_assoc]
  have hkb:(sn+vn-i)*inf.bytes≤(sn+vn)*inf.bytes:=Nat.mul_le_mul_right _ (by omega)
  have hgr:=Lib.run_append_grow_zeros (P:=P) w tS tI tS e inf zv .i64 .i64 q1 hti q2 q5 (some ⟨b,0,none⟩) i sk (xs.take (i*inf.size)) hold (sn+vn-i) (by omega) hsz (by omega) (by omega) (by omega) (by rw[show i+(sn+vn-i)=sn+vn by omega];omega)
  rw[show i+(sn+vn-i)=sn+vn by omega]at hgr
  have hG:sn+vn≤grownCap w (sn+vn) sk e:=grownCap_ge w (sn+vn) sk e
  generalize grownCap w (sn+vn) sk e=G at hgr hG
  have harr:(xs.take (i*inf.size)).toArray++Builtin.zeroCells zv.cells (sn+vn-i)++Builtin.zeroCells zv.cells (G-(sn+vn))=(xs.take (i*inf.size)++((Builtin.zeroCells zv.cells (sn+vn-i)).toList++(Builtin.zeroCells zv.cells (G-(sn+vn))).toList)).toArray:=by
   apply Array.ext';simp
  rw[harr]at hgr
  have hZl:((Builtin.zeroCells zv.cells (sn+vn-i)).toList++(Builtin.zeroCells zv.cells (G-(sn+vn))).toList).length=(sn+vn-i)*inf.size+(G-(sn+vn))*inf.size:=by
   rw[List.length_append,Array.length_toList,Array.length_toList,size_zeroCells,size_zeroCells,hz]
  generalize (Builtin.zeroCells zv.cells (sn+vn-i)).toList++(Builtin.zeroCells zv.cells (G-(sn+vn))).toList=Z at hgr hZl
  have hZ2:(sn+vn-i)*inf.size=vn*inf.size+(sn-i)*inf.size:=by rw[← Nat.add_mul];congr 1;omega
  have H2:=(H1.drew).new (.cells (xs.take (i*inf.size)++Z).toArray e)
  have hB:w.drew.heap.size=w.heap.size:=rfl
  rw[hB]at H2
  have hc1:=cG (P:=P) (sT:=tS) (ty:=tI) hi (g:=w.heap.size) (o:=0+i*inf.size) (dLen:=sn+vn-i) (dCap:=G-i) (b:=vb) (so:=0) (sLen:=vn) (sCap:=vk) (n:=vn) H2.get H2.swap.get (Nat.min_eq_left (by omega)) (by rw[List.length_append];omega) (by rw[List.length_append,htl,hZl];omega) (by
   rw[List.drop_zero,List.take_append_of_le_length (by omega),List.take_of_length_le (by omega)];exact hy)
  rw[List.drop_zero,List.take_append_of_le_length (by omega),List.take_of_length_le (show ys.length≤vn*inf.size by omega),Nat.zero_add]at hc1
  have es1:spl (xs.take (i*inf.size)++Z) (i*inf.size) ys=xs.take (i*inf.size)++ys++Z.drop ys.length:=by
   have:=zBo (xs.take (i*inf.size)) Z ys
   rwa [htl]at this
  rw[es1]at hc1
  have H3:=(H2.upd (.cells (xs.take (i*inf.size)++ys++Z.drop ys.length).toArray e)).drew
  have hg4:(xs++r).drop (i*inf.size)=xs.drop (i*inf.size)++r:=List.drop_append_of_le_length hle
  have hc2:=cG (P:=P) (sT:=tS) (ty:=tI) hi (g:=w.heap.size) (o:=0+(i+vn)*inf.size) (dLen:=sn+vn-(i+vn)) (dCap:=G-(i+vn)) (b:=b) (so:=0+i*inf.size) (sLen:=sn-i) (sCap:=sk-i) (n:=sn-i) H3.get H3.swap.drop.swap.get (Nat.min_eq_left (by omega)) (by rw[List.length_append,hxl,Nat.zero_add,← Nat.add_mul];exact Nat.le_trans (Nat.mul_le_mul_right _ (by omega)) (Nat.le_add_right _ _)) (by
   rw[List.length_append,List.length_append,htl,hyl,List.length_drop,hZl];omega) (by
   rw[Nat.zero_add,hg4,List.take_append_of_le_length (by omega),List.take_of_length_le (by omega)]
   exact fun u hu=>h1 u (List.mem_of_mem_drop hu))
  rw[Nat.zero_add,Nat.zero_add,hg4,List.take_append_of_le_length (by omega),List.take_of_length_le (show(xs.drop (i*inf.size)).length≤(sn-i)*inf.size by omega)]at hc2
  have es2:spl (xs.take (i*inf.size)++ys++Z.drop ys.length) ((i+vn)*inf.size) (xs.drop (i*inf.size))=xs.take (i*inf.size)++ys++xs.drop (i*inf.size)++(Z.drop ys.length).drop (xs.drop (i*inf.size)).length:=by
   have:=zBo (xs.take (i*inf.size)++ys) (Z.drop ys.length) (xs.drop (i*inf.size))
   rwa [show(xs.take (i*inf.size)++ys).length=(i+vn)*inf.size by rw[List.length_append,htl,hyl,hsum]]at this
  rw[es2]at hc2
  refine⟨⟨by omega,by omega⟩,_,_,_,_,hgr,?_⟩
  rw[mP (show G≠i by omega),Nat.zero_add]
  refine⟨⟨by omega,by omega,hG⟩,_,_,hc1,?_⟩
  rintro _ rfl
  rw[mP (show G≠i+vn by omega),mP (show sk≠i by omega),Nat.zero_add,Nat.zero_add]
  refine⟨⟨by omega,by omega,hG⟩,⟨by omega,by omega,hnk⟩,_,_,hc2,_,_,rfl,?_⟩
  have H4:=H3.upd (.cells (xs.take (i*inf.size)++ys++xs.drop (i*inf.size)++(Z.drop ys.length).drop (xs.drop (i*inf.size)).length).toArray e)
  have H5:=H4.slmk (n:=sn+vn) (c:=G) (sz:=inf.size) hfin (by
   rw[List.length_append,hfin,List.length_drop,List.length_drop,hZl,hyl,hdl]
   have:G*inf.size=(sn+vn)*inf.size+(G-(sn+vn))*inf.size:=by rw[← Nat.add_mul];congr 1;omega
   omega) hG
  have H6:=H5.swap.slmk (n:=vn) (c:=vk) (sz:=inf.size) g4 g5 g6
  exact(H6.swap.perm (List.Perm.trans ((List.Perm.swap _ _ _).cons _) (List.Perm.swap _ _ _))).drop
 ·have c:i<sn:=by have:¬(i:Int)=(sn:Int):=by simpa using c
                  omega
  have hc:sn+vn≤sk:=by have:=of_decide_eq_false hc;omega
  rcases H.slcases with⟨_,e0,_⟩|⟨b,r,rfl,g1,g2,g3,H0⟩
  ·omega
  rcases H0.swap.slcases with⟨_,e0,_⟩|⟨vb,rv,rfl,g4,g5,g6,H1⟩
  ·omega
  have hrl:vn*sz≤r.length:=by
   have e1:(sn+vn)*sz≤sk*sz:=Nat.mul_le_mul_right _ hc
   rw[List.length_append,g1]at g2
   rw[Nat.add_mul]at e1
   omega
  have H2:=H1.swap
  have hne:vb≠b:=Hp.apart H1
  have hg4:(xs++r).drop (i*sz)=xs.drop (i*sz)++r:=List.drop_append_of_le_length hle
  have hex:=hov w vb b (0+(i+vn)*sz) vn vk (sn+vn-(i+vn)) (sk-(i+vn)) (ys++rv).toArray (xs++r).toArray e e hne H1.get H2.get (by
   rw[List.size_toArray,List.length_append,g1]
   have:=Nat.mul_pos (show 0<sn by omega) hsz
   omega)
  have H3:=H2.drew
  have hc1:=cG (P:=P) (sT:=tS) (ty:=tI) hi (g:=b) (o:=0+(i+vn)*sz) (dLen:=sn+vn-(i+vn)) (dCap:=sk-(i+vn)) (b:=b) (so:=0+i*sz) (sLen:=sn+vn-i) (sCap:=sk-i) (n:=sn-i) H3.get H3.get (by rw[show sn+vn-(i+vn)=sn-i by omega];exact Nat.min_eq_right (by omega)) (by
   rw[List.length_append,g1,Nat.zero_add,← Nat.add_mul];exact Nat.le_trans (Nat.mul_le_mul_right _ (by omega)) (Nat.le_add_right _ _)) (by
   rw[List.length_append,g1,Nat.zero_add,← Nat.add_mul,show i+vn+(sn-i)=sn+vn by omega,Nat.add_mul];omega) (by
   rw[Nat.zero_add,hg4,List.take_append_of_le_length (by omega),List.take_of_length_le (by omega)]
   exact fun u hu=>h1 u (List.mem_of_mem_drop hu))
  rw[Nat.zero_add,Nat.zero_add,hg4,List.take_append_of_le_length (by omega),List.take_of_length_le (show(xs.drop (i*sz)).length≤(sn-i)*sz by omega)]at hc1
  have H4:=H3.upd (.cells (spl (xs++r) ((i+vn)*sz) (xs.drop (i*sz))).toArray e)
  have hcl:(spl (xs++r) ((i+vn)*sz) (xs.drop (i*sz))).length=(xs++r).length:=by
   simp only[spl,List.length_append,List.length_take,hdl]
   rw[List.length_drop,List.length_append,g1,hsum]
   have:sn*sz=i*sz+(sn-i)*sz:=by rw[← Nat.add_mul];congr 1;omega
   omega
  have hc2:=cG (P:=P) (sT:=tS) (ty:=tI) hi (g:=b) (o:=0+i*sz) (dLen:=sn+vn-i) (dCap:=sk-i) (b:=vb) (so:=0) (sLen:=vn) (sCap:=vk) (n:=vn) H4.get H4.swap.get (Nat.min_eq_left (by omega)) (by rw[List.length_append];omega) (by
   rw[hcl,List.length_append,Nat.zero_add];omega) (by
   rw[List.drop_zero,List.take_append_of_le_length (by omega),List.take_of_length_le (by omega)];exact hy)
  rw[List.drop_zero,List.take_append_of_le_length (by omega),List.take_of_length_le (show ys.length≤vn*sz by omega),Nat.zero_add]at hc2
  have es:spl (spl (xs++r) ((i+vn)*sz) (xs.drop (i*sz))) (i*sz) ys=(xs.take (i*sz)++ys++xs.drop (i*sz))++r.drop (vn*sz):=by
   have:=zSa (l:=i*sz) (m:=vn*sz) (xs:=xs) (r:=r) (ys:=ys) hle hyl hrl
   simp only[spl,hsum]
   exact this
  rw[es]at hc2
  refine⟨⟨by omega,by omega⟩,⟨by omega,by omega,by omega⟩,false,w,?_,Cv.cnd.mk (fun _=> ?_) (fun c=>absurd c (by decide))⟩
  ·rw[mP (show sk≠i+vn by omega)];exact hex
  rintro _ rfl
  rw[mP (show sk≠i+vn by omega),mP (show sk≠i by omega),Nat.zero_add,Nat.zero_add]
  refine⟨⟨by omega,by omega,by omega⟩,⟨by omega,by omega,by omega⟩,_,_,hc1,⟨by omega,by omega,by omega⟩,_,_,hc2,_,_,rfl,?_⟩
  have H5:=H4.upd (.cells (xs.take (i*sz)++ys++xs.drop (i*sz)++r.drop (vn*sz)).toArray e)
  have H6:=H5.slmk (n:=sn+vn) (c:=sk) (sz:=sz) hfin (by
   rw[List.length_append,hfin,List.length_drop,← g2,List.length_append,g1,Nat.add_mul]
   omega) hc
  exact(H6.swap.slmk (n:=vn) (c:=vk) (sz:=sz) g4 g5 g6).swap
structure zSr where
 els:List (List D)
 el:List D
 i:Nat
def z0v (e sz by_:Nat):Con where
 ι:=zSr
 pat:=fun i=>[.own 0,.d (.v (.int .i64 i.i)),.own 1]
 pre:=fun i=>[.own e sz i.els,.own e sz [i.el]]
 cnd:=fun i=>i.i≤i.els.length∧(i.els.length+1)*by_≤70368744177664
 alts:=fun i=>[{o:=Unit,res:=fun _=> .own 2,post:=fun _=>[.gone,.gone,.own e sz (i.els.take i.i++i.el::i.els.drop i.i)],rel:=fun _=>True}]
theorem insX_ok {P:Program} (hm:P.follows .mixedOrders=true) {tS tI e sz by_ fI fO fR:Nat} {z:Array Value} {fn:Func} {c:Code} (hf:P.funcs[fI]? =some fn) (hb:fn.body=some c) (hbd:kX P fI=true) (hok:okC fn.ntmps c=true) (hfx:okF [] c=true) (hsz3:Nat.ble 3 fn.ntmps=true)
 (hi:jC P tS=some (e,sz,by_,z)) (hz:z.size=sz) (hby:0<by_) (hsz:0<sz) (h2:zIk P tS=true) (hti:P.underlying tI=some (.int .i64)) (hov:zCl P fO)
 (heq:∀(s:Option Addr) (sn sk:Nat) (i:Int) (v:Option Addr) (vn vk:Nat) (w:World) (R:Ending→World→Prop),z5f P tS tI sz fO fR s sn sk i v vn vk w R=cwp P [] c (zCa P fn R) (kT [.slice s sn sk,.int .i64 i,.slice v vn vk]) w):
 (z0v e sz by_).ok P fI:=by
 intro i hc k L E w ys R hv
 obtain⟨c1,c2⟩:i.i≤i.els.length∧(i.els.length+1)*by_≤70368744177664:=hc
 simp only[z0v,VRL,VR,DR]at hv
 obtain⟨y0,_,rfl,⟨l0,e0,_⟩,y1,_,rfl,⟨rfl,_⟩,y2,_,rfl,⟨l2,e2,_⟩,rfl⟩:=hv
 obtain⟨s,sk,xs,sub0,g1,hxs,hu,H⟩:=R.ownOpen (n:=0) (t:=e) (sz:=sz) (els:=i.els) rfl
 rw[e0]at g1;cases g1
 have hk2:∃v vk zs,y2= .slice v 1 vk∧DRL E.F i.el zs∧i.el.length=sz∧Hp k w (slO e sz s i.els.length sk xs::slO e sz v 1 vk zs::fz E.F::L):=by
  obtain⟨hk,hs,hh⟩:=H
  cases hh with
  |cons ha hsub hd hr=>
   simp only[z0v,jO,k6,List.map_cons,List.map_nil,List.cons_append,List.nil_append]at hr
   cases hr with
   |cons hb2 hsub2 hd2 hr2=>
    rcases hb2 with⟨q,_⟩|⟨⟨hv2,sub2⟩,q1,q2⟩
    ·cases q
    ·simp only at q1
     rw[e2]at q1;cases q1
     simp only[rowHP]at q2
     obtain⟨a,kk,zs,rfl,q3,q4,q5⟩:=q2
     simp only[List.flatten_cons,List.flatten_nil,List.append_nil]at q3
     exact⟨a,kk,zs,rfl,q3,q4 _ List.mem_cons_self,hk,_,.cons ha hsub hd (.cons q5 hsub2 hd2 hr2)⟩
 obtain⟨v,vk,zs,rfl,hzs,hel,H2⟩:=hk2
 have hv:=yDo (fR:=fR) (fO:=fO) hi hz hby hsz h2 hti hov (i:=i.i) H2 hxs.one hzs.one c1 (by omega) c2
 have hcall:=nR (args:=[.slice s i.els.length sk,.int .i64 i.i,.slice v 1 vk]) hm hf hb [] hok hfx hsz3 (heq s i.els.length sk i.i v 1 vk w _) hv
 refine cT hbd (hcall.mono ?_)
 rintro en w' ⟨a,kk,rfl,H3⟩
 have H4:Hp k w' (slO e sz a (i.els.take i.i++i.el::i.els.drop i.i).length kk (xs.take (i.i*sz)++zs++xs.drop (i.i*sz))::(([]:List (Nat×AObj)).map (rHP E)++fz E.F::L)):=by
  have:(i.els.take i.i++i.el::i.els.drop i.i).length=i.els.length+1:=by
   rw[List.length_append,List.length_cons,List.length_take,List.length_drop];omega
  rw[this]
  exact H3.swap.drop
 obtain⟨E',r1,r2,r3⟩:=vP (nx:=2) R.nx (by
  rw[List.flatten_append,List.flatten_cons,← hJ i.i hu,← hD i.i hu,← List.append_assoc]
  exact((hxs.take _).append hzs).append (hxs.drop _)) (fun x hx=>by
   rcases List.mem_append.1 hx with hx|hx
   ·exact hu x (List.mem_of_mem_take hx)
   ·rcases List.mem_cons.1 hx with rfl|hx
    ·exact hel
    ·exact hu x (List.mem_of_mem_drop hx)) H4
 have hl:(i.els.take i.i++i.el::i.els.drop i.i).length=i.els.length+1:=by
  rw[List.length_append,List.length_cons,List.length_take,List.length_drop];omega
 rw[hl]at r3
 refine⟨_,rfl,_,List.mem_singleton.2 rfl,(),trivial,E',r1,r3,⟨r2.nx,?_⟩⟩
 have q1:=((@jM k w' True _).2 ⟨trivial,r2.hp⟩).imp (B:=rHP E' (1,.gone)) fun x hx=> .inl ⟨rfl,hx.2⟩
 have q2:=((@jM k w' True _).2 ⟨trivial,q1⟩).imp (B:=rHP E' (0,.gone)) fun x hx=> .inl ⟨rfl,hx.2⟩
 exact q2
set_option maxRecDepth 100000
open Go Cv Go.Proofs
def bbetterC:Con:=con1 I3' (fun i=>[zC i.side,zC i.x,zC i.y]) (fun _=>[]) (fun _=>True) (fun i=>yJ (btr i.side i.x i.y)) (fun _=>[])
@[reducible] def yCa (s:Slot):V:= .agg [yJ s.used,zC s.n,zC s.id,zC s.qty,yJ s.top,zC s.queue,zC s.ahead,zC s.back]
def pushFC:Con:=con1 Slot (fun s=>[yCa s]) (fun _=>[]) (fun _=>True) (fun s=>yJ (!s.used)) (fun _=>[])
def yV (l:List Slot):Int:=nO (l.findIdx? fun s=> !s.used)
def idxSlotC:Con:=con1 (List Slot) (fun _=>[.own 0,.fn 146 [] []]) (fun l=>[.own 193 8 (l.map zL)]) (fun l=>l.length≤1000000) (fun l=>zC (yV l)) (fun l=>[.own 193 8 (l.map zL)])
def zWi (l:List Slot):List SAnn:=[{ι:=Nat,slots:=fun j=>[(8,zC j)],rows:=fun _=>[]}]
def vS:x3:=⟨-1,-1,0,0⟩
def Arena.openQ (a:Arena):Arena:={a with queues:=a.queues++[vS]}
def aopenC:Con:=con1 Arena (fun _=>[.nm 0 0]) (fun a=>[qA a]) (fun a=>a.queues.length≤1000000) (fun a=>zC a.queues.length) (fun a=>[qA a.openQ])
structure zJz where
 a:Arena
 n:Int
 t:Bool
def Arena.usedAt (a:Arena) (n:Int):Bool:=decide (0≤n) && (decide (n<a.slots.length) && (a.slots.getD n.toNat slot0).used)
def Arena.topF (a:Arena) (n:Int) (t:Bool):Arena:=if a.usedAt n=true then{a with slots:=a.slots.modify n.toNat fun s=>{s with top:=t}}else a
def atopC:Con:=con1 zJz (fun i=>[.nm 0 0,zC i.n,yJ i.t]) (fun i=>[qA i.a]) (fun i=>i.a.slots.length≤1000000) (fun i=>zC (if i.a.usedAt i.n=true then 0 else 26)) (fun i=>[qA (i.a.topF i.n i.t)])
structure PuI where
 a:Arena
 n:Int
 id:Int
 qty:Int
 top:Bool
def Arena.put (a:Arena) (n id qty:Int) (top:Bool):Arena:=
 let q:=a.queues.getD n.toNat vS
 let k:=yV a.slots
 let sl:=a.slots.set k.toNat ⟨true,k,id,qty,top,n,q.last,-1⟩
 ⟨if q.last= -1 then sl else sl.modify q.last.toNat fun s=>{s with back:=k},a.queues.set n.toNat ⟨if q.last= -1 then k else q.first,k,IntKind.i64.wrap (q.total+qty),IntKind.i64.wrap (q.count+1)⟩,IntKind.i64.wrap (a.free-1)⟩
def Arena.push (a:Arena) (n id qty:Int) (top:Bool):Arena×Int×Int:=
 if n<0∨a.queues.length≤n then(a,0,26)else if qty<1∨1000000<qty then(a,0,24)else if a.free=0 then(a,0,13)else(a.put n id qty top,yV a.slots,0)
def Arena.fit (a:Arena):Prop:=a.slots.length≤1000000∧(a.free≠0→∃s∈a.slots,s.used=false)∧∀q∈a.queues,q.last= -1∨(0≤q.last∧q.last<a.slots.length)
def apushC:Con:=con1 PuI (fun i=>[.nm 0 0,zC i.n,zC i.id,zC i.qty,yJ i.top]) (fun i=>[qA i.a]) (fun i=>i.a.fit) (fun i=> .tup [zC (i.a.push i.n i.id i.qty i.top).2.1,zC (i.a.push i.n i.id i.qty i.top).2.2]) (fun i=>[qA (i.a.push i.n i.id i.qty i.top).1])
@[reducible] def nZ (b:Book):List AObj:=[zM b 0,zM b 1,zM b 2,zM b 3,zM b 4,zM b 5]
structure BkP where
 b:Book
 price:Int
def zP (s:Int) (l:List yX) (price:Int):Nat:=(l.takeWhile fun r=>btr s r.price price).length
def xH (s:Int) (l:List yX) (price:Int):Bool:=match l[zP s l price]? with
 |some r=>decide (r.price=price)
 |none=>false
def Book.rungs (b:Book) (s:Int):List yX:=if s=1 then b.buys else b.sells
def zSp (s:Int):Con:=con1 BkP (fun i=>[.nm 0 0,zC s,zC i.price]) (fun i=>nZ i.b) (fun i=>i.b.small) (fun i=> .tup [zC (zP s (i.b.rungs s) i.price),yJ (xH s (i.b.rungs s) i.price)]) (fun i=>nZ i.b)
def find1C:Con:=zSp 1
def find2C:Con:=zSp 2
def z4h:List SAnn:=[{ι:=Nat,slots:=fun j=>[(9,zC j)],rows:=fun _=>[]}]
def pget (l:List (Int×Place)) (k:Int):Option Place:=(l.find? fun x=>decide (x.1=k)).map (·.2)
def gL (k:Int) (v:Place):List (Int×Place)→List (Int×Place)
 |[]=>[(k,v)]
 |(a,b)::l=>if k=a then(a,v)::l else(a,b)::gL k v l
structure LdI where
 b:Book
 id:Int
def Book.hasF (b:Book) (s:Int):Bool:=if s=1 then b.has1 else b.has2
def Book.topI (b:Book) (s:Int):Int:=if s=1 then b.top1 else b.top2
def Book.untop (b:Book) (s:Int):Arena:=if b.hasF s=true then(match pget b.at_ (b.topI s)with
 |some o=>if o.side=s then b.a.topF o.slot false else b.a
 |none=>b.a)else b.a
def Book.leadF (b:Book) (id s:Int):Book:=if s=1 then{b with a:=b.untop s,top1:=id,has1:=true}else{b with a:=b.untop s,top2:=id,has2:=true}
def zWn (s:Int):Con:=con1 LdI (fun i=>[.nm 0 0,zC i.id,zC s]) (fun i=>nZ i.b) (fun i=>i.b.small) (fun _=>zEn) (fun i=>nZ (i.b.leadF i.id s))
def lead1C:Con:=zWn 1
def lead2C:Con:=zWn 2
def Book.newQ (b:Book):Int×List Int×Arena:=if b.spare.length=0 then(b.a.queues.length,b.spare,b.a.openQ)else(b.spare.getD (b.spare.length-1) 0,b.spare.take (b.spare.length-1),b.a)
def Book.ins (b:Book) (s price:Int):List yX:=(b.rungs s).take (zP s (b.rungs s) price)++⟨price,b.newQ.1⟩::(b.rungs s).drop (zP s (b.rungs s) price)
def Book.queueF (b:Book) (s price:Int):Book×Int:=
 if xH s (b.rungs s) price=true then(b,((b.rungs s).getD (zP s (b.rungs s) price) ⟨0,0⟩).queue)
 else(if s=1 then{b with a:=b.newQ.2.2,buys:=b.ins s price,spare:=b.newQ.2.1}else{b with a:=b.newQ.2.2,sells:=b.ins s price,spare:=b.newQ.2.1},b.newQ.1)
def z1d (b:Book):AObj:= .cells [.nm 1 0,.own 6,.own 3,.mp 4,zC b.top1,zC b.top2,.own 7,yJ b.has1,yJ b.has2] 144
def z1i (b:Book):AObj:= .cells [.nm 1 0,.own 2,.own 6,.mp 4,zC b.top1,zC b.top2,.own 7,yJ b.has1,yJ b.has2] 144
@[reducible] def z5k (b:Book):List AObj:=[z1d b,zM b 1,.gone,zM b 3,zM b 4,.gone,zM b 2,zM b 5]
@[reducible] def z8u (b:Book):List AObj:=[z1i b,zM b 1,zM b 2,.gone,zM b 4,.gone,zM b 3,zM b 5]
@[reducible] def Book.fit (b:Book):Prop:=b.a.fit∧b.a.queues.length≤100000∧b.buys.length≤100000∧b.sells.length≤100000∧b.spare.length≤100000
def queue1C:Con:=con1 BkP (fun i=>[.nm 0 0,zC 1,zC i.price]) (fun i=>nZ i.b) (fun i=>i.b.fit) (fun i=>zC (i.b.queueF 1 i.price).2) (fun i=>z5k (i.b.queueF 1 i.price).1)
def queue2C:Con:=con1 BkP (fun i=>[.nm 0 0,zC 2,zC i.price]) (fun i=>nZ i.b) (fun i=>i.b.fit) (fun i=>zC (i.b.queueF 2 i.price).2) (fun i=>z8u (i.b.queueF 2 i.price).1)
def insRC:Con:=z0v 147 2 16
open Go Cv Go.Proofs
def zGw (i:I3'):Prop:=
 cnd (i.side==1) (∃(o:Unit),btr i.side i.x i.y=decide (i.x>i.y)∧True) (∃(o:Unit),btr i.side i.x i.y=decide (i.x<i.y)∧True)
theorem zRy (hG:GOk Tryz.prog ([])) (h:∀(i:I3'),bbetterC.cnd i→zGw i):bbetterC.ok Tryz.prog 111:=okw mixed hG 0 (fun _=>[]) (fun _=>[]) [] Tryz.func111 h
def zSs (s:Slot):Prop:=
 ∃(o:Unit),(!s.used)=!s.used∧True
theorem z3q (hG:GOk Tryz.prog ([])) (h:∀(s:Slot),pushFC.cnd s→zSs s):pushFC.ok Tryz.prog 146:=okw mixed hG 0 (fun _=>[]) (fun _=>[]) [] Tryz.func146 h
def rC (l:List Slot):Prop:=
 ∃(i0:Nat),(↑i0:Int)=0∧∃(I:Nat→Prop),∃(μ:Nat→Nat),I i0∧∀(i:Nat),I i→cnd (decide ((↑i:Int)<(↑(List.map zL l).length:Int))) ((0≤(↑i:Int)∧(↑i:Int)<(↑(List.map zL l).length:Int))∧∃(b:Bool),∃(n:Int),∃(n_1:Int),∃(n_2:Int),∃(b_1:Bool),∃(n_3:Int),∃(n_4:Int),∃(n_5:Int),zI (List.map zL l) (↑i:Int).toNat 0 8=some [D.v (.bool b),D.v (.int .i64 n),D.v (.int .i64 n_1),D.v (.int .i64 n_2),D.v (.bool b_1),D.v (.int .i64 n_3),D.v (.int .i64 n_4),D.v (.int .i64 n_5)]∧∃(i_1:Slot),i_1.used=b∧i_1.n=n∧i_1.id=n_1∧i_1.qty=n_2∧i_1.top=b_1∧i_1.queue=n_3∧i_1.ahead=n_4∧i_1.back=n_5∧True∧∀(o:Unit),True→cnd (!i_1.used) (∃(o:Unit),yV l=(↑i:Int)∧List.map zL l=List.map zL l∧True) (∃(i':Nat),(↑i':Int)=IntKind.i64.wrap ((↑i:Int)+1)∧I i'∧μ i'<μ i∧AObj.own 193 8 (List.map zL l)=AObj.own 193 8 (List.map zL l))) (∃(o:Unit),yV l=(-1)∧List.map zL l=List.map zL l∧True)
theorem zPi (hG:GOk Tryz.prog ([(146,pushFC)])) (h:∀(l:List Slot),idxSlotC.cnd l→rC l):idxSlotC.ok Tryz.prog 145:=okw mixed hG 0 (fun _=>[]) (fun l=>zWi l) [] Tryz.func145 h
def zUx (a:Arena):Prop:=
 ((List.map zH a.queues).length+1)*(32:Nat)≤(70368744177664:Nat)∧∃(o:Unit),(↑a.queues.length:Int)=IntKind.i64.wrap ((↑(List.map zH a.queues++[[D.v (.int .i64 (-1)),D.v (.int .i64 (-1)),D.v (.int .i64 0),D.v (.int .i64 0)]]).length:Int)-1)∧a.free=a.free∧List.map zL a.slots=List.map zL a.slots∧List.map zH (a.queues++[vS])=List.map zH a.queues++[[D.v (.int .i64 (-1)),D.v (.int .i64 (-1)),D.v (.int .i64 0),D.v (.int .i64 0)]]∧True
theorem z1c (hG:GOk Tryz.prog ([])) (h:∀(a:Arena),aopenC.cnd a→zUx a):aopenC.ok Tryz.prog 147:=okw mixed hG 0 (fun _=>[]) (fun _=>[]) [0] Tryz.func147 h
@[reducible] def pI (i:zJz):Prop:=∃(o:Unit),(if i.a.usedAt i.n=true then(0:Int)else(26:Int))=26∧(i.a.topF i.n i.t).free=i.a.free∧List.map zL (i.a.topF i.n i.t).slots=List.map zL i.a.slots∧List.map zH (i.a.topF i.n i.t).queues=List.map zH i.a.queues∧True
def zVm (i:zJz):Prop:=
 cnd (decide (i.n<0)) (pI i) (cnd (decide (i.n≥(↑(List.map zL i.a.slots).length:Int))) (pI i) ((0≤i.n∧i.n<(↑(List.map zL i.a.slots).length:Int))∧∃(b:Bool),zI (List.map zL i.a.slots) i.n.toNat ((0:Nat)+(0:Nat)) 1=some [D.v (.bool b)]∧cnd (!b) (pI i) ((0≤i.n∧i.n<(↑(List.map zL i.a.slots).length:Int))∧i.n.toNat<(List.map zL i.a.slots).length∧∃(o:Unit),(if i.a.usedAt i.n=true then(0:Int)else(26:Int))=0∧(i.a.topF i.n i.t).free=i.a.free∧List.map zL (i.a.topF i.n i.t).slots=zK (List.map zL i.a.slots) i.n.toNat ((0:Nat)+(1:Nat)+3) [D.v (.bool i.t)]∧List.map zH (i.a.topF i.n i.t).queues=List.map zH i.a.queues∧True)))
theorem z8v (hG:GOk Tryz.prog ([])) (h:∀(i:zJz),atopC.cnd i→zVm i):atopC.ok Tryz.prog 144:=okw mixed hG 1 (fun _=>[]) (fun _=>[]) [0] Tryz.func144 h
@[reducible] def eD (i:PuI):Prop:=∃(o:Unit),(i.a.push i.n i.id i.qty i.top).snd.fst=0∧(i.a.push i.n i.id i.qty i.top).snd.snd=26∧(i.a.push i.n i.id i.qty i.top).fst.free=i.a.free∧List.map zL (i.a.push i.n i.id i.qty i.top).fst.slots=List.map zL i.a.slots∧List.map zH (i.a.push i.n i.id i.qty i.top).fst.queues=List.map zH i.a.queues∧True
@[reducible] def p7 (i:PuI):Prop:=∃(o:Unit),(i.a.push i.n i.id i.qty i.top).snd.fst=0∧(i.a.push i.n i.id i.qty i.top).snd.snd=24∧(i.a.push i.n i.id i.qty i.top).fst.free=i.a.free∧List.map zL (i.a.push i.n i.id i.qty i.top).fst.slots=List.map zL i.a.slots∧List.map zH (i.a.push i.n i.id i.qty i.top).fst.queues=List.map zH i.a.queues∧True
def zJv (i:PuI):Prop:=
 cnd (decide (i.n≥0)) (cnd (!decide (i.n<(↑(List.map zH i.a.queues).length:Int))) (eD i) (cnd (decide (i.qty<1)) (p7 i) (cnd (decide (i.qty>1000000)) (p7 i) (cnd (i.a.free==0) (∃(o:Unit),(i.a.push i.n i.id i.qty i.top).snd.fst=0∧(i.a.push i.n i.id i.qty i.top).snd.snd=13∧(i.a.push i.n i.id i.qty i.top).fst.free=i.a.free∧List.map zL (i.a.push i.n i.id i.qty i.top).fst.slots=List.map zL i.a.slots∧List.map zH (i.a.push i.n i.id i.qty i.top).fst.queues=List.map zH i.a.queues∧True) (∃(i_1:List Slot),List.map zL i_1=List.map zL i.a.slots∧i_1.length≤1000000∧∀(o:Unit),True→(0≤i.n∧i.n<(↑(List.map zH i.a.queues).length:Int))∧∃(n:Int),zI (List.map zH i.a.queues) i.n.toNat ((0:Nat)+(1:Nat)) 1=some [D.v (.int .i64 n)]∧(0≤yV i_1∧yV i_1<(↑(List.map zL i_1).length:Int))∧(yV i_1).toNat<(List.map zL i_1).length∧∃(n_1:Int),zI (List.map zH i.a.queues) i.n.toNat ((0:Nat)+(1:Nat)) 1=some [D.v (.int .i64 n_1)]∧cnd (n_1==(-1)) (i.n.toNat<(List.map zH i.a.queues).length∧i.n.toNat<(zK (List.map zH i.a.queues) i.n.toNat ((0:Nat)+(0:Nat)) [D.v (.int .i64 (yV i_1))]).length∧∃(n_2:Int),zI (zK (zK (List.map zH i.a.queues) i.n.toNat ((0:Nat)+(0:Nat)) [D.v (.int .i64 (yV i_1))]) i.n.toNat ((0:Nat)+(1:Nat)) [D.v (.int .i64 (yV i_1))]) i.n.toNat ((0:Nat)+(2:Nat)) 1=some [D.v (.int .i64 n_2)]∧i.n.toNat<(zK (zK (List.map zH i.a.queues) i.n.toNat ((0:Nat)+(0:Nat)) [D.v (.int .i64 (yV i_1))]) i.n.toNat ((0:Nat)+(1:Nat)) [D.v (.int .i64 (yV i_1))]).length∧∃(n_3:Int),zI (zK (zK (zK (List.map zH i.a.queues) i.n.toNat ((0:Nat)+(0:Nat)) [D.v (.int .i64 (yV i_1))]) i.n.toNat ((0:Nat)+(1:Nat)) [D.v (.int .i64 (yV i_1))]) i.n.toNat ((0:Nat)+(2:Nat)) [D.v (.int .i64 (IntKind.i64.wrap (n_2+i.qty)))]) i.n.toNat ((0:Nat)+(3:Nat)) 1=some [D.v (.int .i64 n_3)]∧i.n.toNat<(zK (zK (zK (List.map zH i.a.queues) i.n.toNat ((0:Nat)+(0:Nat)) [D.v (.int .i64 (yV i_1))]) i.n.toNat ((0:Nat)+(1:Nat)) [D.v (.int .i64 (yV i_1))]) i.n.toNat ((0:Nat)+(2:Nat)) [D.v (.int .i64 (IntKind.i64.wrap (n_2+i.qty)))]).length∧∃(o:Unit),(i.a.push i.n i.id i.qty i.top).snd.fst=yV i_1∧(i.a.push i.n i.id i.qty i.top).snd.snd=0∧(i.a.push i.n i.id i.qty i.top).fst.free=IntKind.i64.wrap (i.a.free-1)∧List.map zL (i.a.push i.n i.id i.qty i.top).fst.slots=zK (List.map zL i_1) (yV i_1).toNat 0 [D.v (.bool true),D.v (.int .i64 (yV i_1)),D.v (.int .i64 i.id),D.v (.int .i64 i.qty),D.v (.bool i.top),D.v (.int .i64 i.n),D.v (.int .i64 n),D.v (.int .i64 (-1))]∧List.map zH (i.a.push i.n i.id i.qty i.top).fst.queues=zK (zK (zK (zK (List.map zH i.a.queues) i.n.toNat ((0:Nat)+(0:Nat)) [D.v (.int .i64 (yV i_1))]) i.n.toNat ((0:Nat)+(1:Nat)) [D.v (.int .i64 (yV i_1))]) i.n.toNat ((0:Nat)+(2:Nat)) [D.v (.int .i64 (IntKind.i64.wrap (n_2+i.qty)))]) i.n.toNat ((0:Nat)+(3:Nat)) [D.v (.int .i64 (IntKind.i64.wrap (n_3+1)))]∧True) (∃(n_2:Int),zI (List.map zH i.a.queues) i.n.toNat ((0:Nat)+(1:Nat)) 1=some [D.v (.int .i64 n_2)]∧(0≤n_2∧n_2<(↑(zK (List.map zL i_1) (yV i_1).toNat 0 [D.v (.bool true),D.v (.int .i64 (yV i_1)),D.v (.int .i64 i.id),D.v (.int .i64 i.qty),D.v (.bool i.top),D.v (.int .i64 i.n),D.v (.int .i64 n),D.v (.int .i64 (-1))]).length:Int))∧n_2.toNat<(zK (List.map zL i_1) (yV i_1).toNat 0 [D.v (.bool true),D.v (.int .i64 (yV i_1)),D.v (.int .i64 i.id),D.v (.int .i64 i.qty),D.v (.bool i.top),D.v (.int .i64 i.n),D.v (.int .i64 n),D.v (.int .i64 (-1))]).length∧i.n.toNat<(List.map zH i.a.queues).length∧∃(n_3:Int),zI (zK (List.map zH i.a.queues) i.n.toNat ((0:Nat)+(1:Nat)) [D.v (.int .i64 (yV i_1))]) i.n.toNat ((0:Nat)+(2:Nat)) 1=some [D.v (.int .i64 n_3)]∧i.n.toNat<(zK (List.map zH i.a.queues) i.n.toNat ((0:Nat)+(1:Nat)) [D.v (.int .i64 (yV i_1))]).length∧∃(n_4:Int),zI (zK (zK (List.map zH i.a.queues) i.n.toNat ((0:Nat)+(1:Nat)) [D.v (.int .i64 (yV i_1))]) i.n.toNat ((0:Nat)+(2:Nat)) [D.v (.int .i64 (IntKind.i64.wrap (n_3+i.qty)))]) i.n.toNat ((0:Nat)+(3:Nat)) 1=some [D.v (.int .i64 n_4)]∧i.n.toNat<(zK (zK (List.map zH i.a.queues) i.n.toNat ((0:Nat)+(1:Nat)) [D.v (.int .i64 (yV i_1))]) i.n.toNat ((0:Nat)+(2:Nat)) [D.v (.int .i64 (IntKind.i64.wrap (n_3+i.qty)))]).length∧∃(o:Unit),(i.a.push i.n i.id i.qty i.top).snd.fst=yV i_1∧(i.a.push i.n i.id i.qty i.top).snd.snd=0∧(i.a.push i.n i.id i.qty i.top).fst.free=IntKind.i64.wrap (i.a.free-1)∧List.map zL (i.a.push i.n i.id i.qty i.top).fst.slots=zK (zK (List.map zL i_1) (yV i_1).toNat 0 [D.v (.bool true),D.v (.int .i64 (yV i_1)),D.v (.int .i64 i.id),D.v (.int .i64 i.qty),D.v (.bool i.top),D.v (.int .i64 i.n),D.v (.int .i64 n),D.v (.int .i64 (-1))]) n_2.toNat ((0:Nat)+(7:Nat)) [D.v (.int .i64 (yV i_1))]∧List.map zH (i.a.push i.n i.id i.qty i.top).fst.queues=zK (zK (zK (List.map zH i.a.queues) i.n.toNat ((0:Nat)+(1:Nat)) [D.v (.int .i64 (yV i_1))]) i.n.toNat ((0:Nat)+(2:Nat)) [D.v (.int .i64 (IntKind.i64.wrap (n_3+i.qty)))]) i.n.toNat ((0:Nat)+(3:Nat)) [D.v (.int .i64 (IntKind.i64.wrap (n_4+1)))]∧True)))))) (eD i)
theorem z1m (hG:GOk Tryz.prog ([(145,idxSlotC)])) (h:∀(i:PuI),apushC.cnd i→zJv i):apushC.ok Tryz.prog 136:=okw mixed hG 1 (fun _=>[]) (fun _=>[]) [0] Tryz.func136 h
def zKx (i:BkP):Prop:=
 ∃(i0:Nat),(↑i0:Int)=0∧∃(I:Nat→Prop),∃(μ:Nat→Nat),I i0∧∀(i_1:Nat),I i_1→cnd (decide ((↑i_1:Int)<(↑(List.map zA i.b.buys).length:Int))) ((0≤(↑i_1:Int)∧(↑i_1:Int)<(↑(List.map zA i.b.buys).length:Int))∧∃(n:Int),zI (List.map zA i.b.buys) (↑i_1:Int).toNat ((0:Nat)+(0:Nat)) 1=some [D.v (.int .i64 n)]∧∃(i_2:I3'),i_2.side=1∧i_2.x=n∧i_2.y=i.price∧True∧∀(o:Unit),True→cnd (btr i_2.side i_2.x i_2.y) (∃(i':Nat),(↑i':Int)=IntKind.i64.wrap ((↑i_1:Int)+1)∧I i'∧μ i'<μ i_1∧zM i.b 0=zM i.b 0∧zM i.b 1=zM i.b 1∧zM i.b 2=zM i.b 2∧zM i.b 3=zM i.b 3∧zM i.b 4=zM i.b 4∧zM i.b 5=zM i.b 5) (cnd (decide ((↑i_1:Int)<(↑(List.map zA i.b.buys).length:Int))) ((0≤(↑i_1:Int)∧(↑i_1:Int)<(↑(List.map zA i.b.buys).length:Int))∧∃(n:Int),zI (List.map zA i.b.buys) (↑i_1:Int).toNat ((0:Nat)+(0:Nat)) 1=some [D.v (.int .i64 n)]∧∃(o:Unit),(↑(zP 1 (i.b.rungs 1) i.price):Int)=(↑i_1:Int)∧xH 1 (i.b.rungs 1) i.price=(n==i.price)∧i.b.top1=i.b.top1∧i.b.top2=i.b.top2∧i.b.has1=i.b.has1∧i.b.has2=i.b.has2∧AObj.adt Arena 3 zD i.b.a=zM i.b 1∧List.map zA i.b.buys=List.map zA i.b.buys∧List.map zA i.b.sells=List.map zA i.b.sells∧atE i.b.at_=atE i.b.at_∧iE i.b.spare=iE i.b.spare∧True) (∃(o:Unit),(↑(zP 1 (i.b.rungs 1) i.price):Int)=(↑i_1:Int)∧xH 1 (i.b.rungs 1) i.price=false∧i.b.top1=i.b.top1∧i.b.top2=i.b.top2∧i.b.has1=i.b.has1∧i.b.has2=i.b.has2∧AObj.adt Arena 3 zD i.b.a=zM i.b 1∧List.map zA i.b.buys=List.map zA i.b.buys∧List.map zA i.b.sells=List.map zA i.b.sells∧atE i.b.at_=atE i.b.at_∧iE i.b.spare=iE i.b.spare∧True))) (cnd (decide ((↑i_1:Int)<(↑(List.map zA i.b.buys).length:Int))) ((0≤(↑i_1:Int)∧(↑i_1:Int)<(↑(List.map zA i.b.buys).length:Int))∧∃(n:Int),zI (List.map zA i.b.buys) (↑i_1:Int).toNat ((0:Nat)+(0:Nat)) 1=some [D.v (.int .i64 n)]∧∃(o:Unit),(↑(zP 1 (i.b.rungs 1) i.price):Int)=(↑i_1:Int)∧xH 1 (i.b.rungs 1) i.price=(n==i.price)∧i.b.top1=i.b.top1∧i.b.top2=i.b.top2∧i.b.has1=i.b.has1∧i.b.has2=i.b.has2∧AObj.adt Arena 3 zD i.b.a=zM i.b 1∧List.map zA i.b.buys=List.map zA i.b.buys∧List.map zA i.b.sells=List.map zA i.b.sells∧atE i.b.at_=atE i.b.at_∧iE i.b.spare=iE i.b.spare∧True) (∃(o:Unit),(↑(zP 1 (i.b.rungs 1) i.price):Int)=(↑i_1:Int)∧xH 1 (i.b.rungs 1) i.price=false∧i.b.top1=i.b.top1∧i.b.top2=i.b.top2∧i.b.has1=i.b.has1∧i.b.has2=i.b.has2∧AObj.adt Arena 3 zD i.b.a=zM i.b 1∧List.map zA i.b.buys=List.map zA i.b.buys∧List.map zA i.b.sells=List.map zA i.b.sells∧atE i.b.at_=atE i.b.at_∧iE i.b.spare=iE i.b.spare∧True))
theorem zZy (hG:GOk Tryz.prog ([(111,bbetterC)])) (h:∀(i:BkP),find1C.cnd i→zKx i):find1C.ok Tryz.prog 126:=okw mixed hG 0 (fun _=>[]) (fun _=>z4h) [] Tryz.func126 h
def zJp (i:BkP):Prop:=
 ∃(i0:Nat),(↑i0:Int)=0∧∃(I:Nat→Prop),∃(μ:Nat→Nat),I i0∧∀(i_1:Nat),I i_1→cnd (decide ((↑i_1:Int)<(↑(List.map zA i.b.sells).length:Int))) ((0≤(↑i_1:Int)∧(↑i_1:Int)<(↑(List.map zA i.b.sells).length:Int))∧∃(n:Int),zI (List.map zA i.b.sells) (↑i_1:Int).toNat ((0:Nat)+(0:Nat)) 1=some [D.v (.int .i64 n)]∧∃(i_2:I3'),i_2.side=2∧i_2.x=n∧i_2.y=i.price∧True∧∀(o:Unit),True→cnd (btr i_2.side i_2.x i_2.y) (∃(i':Nat),(↑i':Int)=IntKind.i64.wrap ((↑i_1:Int)+1)∧I i'∧μ i'<μ i_1∧zM i.b 0=zM i.b 0∧zM i.b 1=zM i.b 1∧zM i.b 2=zM i.b 2∧zM i.b 3=zM i.b 3∧zM i.b 4=zM i.b 4∧zM i.b 5=zM i.b 5) (cnd (decide ((↑i_1:Int)<(↑(List.map zA i.b.sells).length:Int))) ((0≤(↑i_1:Int)∧(↑i_1:Int)<(↑(List.map zA i.b.sells).length:Int))∧∃(n:Int),zI (List.map zA i.b.sells) (↑i_1:Int).toNat ((0:Nat)+(0:Nat)) 1=some [D.v (.int .i64 n)]∧∃(o:Unit),(↑(zP 2 (i.b.rungs 2) i.price):Int)=(↑i_1:Int)∧xH 2 (i.b.rungs 2) i.price=(n==i.price)∧i.b.top1=i.b.top1∧i.b.top2=i.b.top2∧i.b.has1=i.b.has1∧i.b.has2=i.b.has2∧AObj.adt Arena 3 zD i.b.a=zM i.b 1∧List.map zA i.b.buys=List.map zA i.b.buys∧List.map zA i.b.sells=List.map zA i.b.sells∧atE i.b.at_=atE i.b.at_∧iE i.b.spare=iE i.b.spare∧True) (∃(o:Unit),(↑(zP 2 (i.b.rungs 2) i.price):Int)=(↑i_1:Int)∧xH 2 (i.b.rungs 2) i.price=false∧i.b.top1=i.b.top1∧i.b.top2=i.b.top2∧i.b.has1=i.b.has1∧i.b.has2=i.b.has2∧AObj.adt Arena 3 zD i.b.a=zM i.b 1∧List.map zA i.b.buys=List.map zA i.b.buys∧List.map zA i.b.sells=List.map zA i.b.sells∧atE i.b.at_=atE i.b.at_∧iE i.b.spare=iE i.b.spare∧True))) (cnd (decide ((↑i_1:Int)<(↑(List.map zA i.b.sells).length:Int))) ((0≤(↑i_1:Int)∧(↑i_1:Int)<(↑(List.map zA i.b.sells).length:Int))∧∃(n:Int),zI (List.map zA i.b.sells) (↑i_1:Int).toNat ((0:Nat)+(0:Nat)) 1=some [D.v (.int .i64 n)]∧∃(o:Unit),(↑(zP 2 (i.b.rungs 2) i.price):Int)=(↑i_1:Int)∧xH 2 (i.b.rungs 2) i.price=(n==i.price)∧i.b.top1=i.b.top1∧i.b.top2=i.b.top2∧i.b.has1=i.b.has1∧i.b.has2=i.b.has2∧AObj.adt Arena 3 zD i.b.a=zM i.b 1∧List.map zA i.b.buys=List.map zA i.b.buys∧List.map zA i.b.sells=List.map zA i.b.sells∧atE i.b.at_=atE i.b.at_∧iE i.b.spare=iE i.b.spare∧True) (∃(o:Unit),(↑(zP 2 (i.b.rungs 2) i.price):Int)=(↑i_1:Int)∧xH 2 (i.b.rungs 2) i.price=false∧i.b.top1=i.b.top1∧i.b.top2=i.b.top2∧i.b.has1=i.b.has1∧i.b.has2=i.b.has2∧AObj.adt Arena 3 zD i.b.a=zM i.b 1∧List.map zA i.b.buys=List.map zA i.b.buys∧List.map zA i.b.sells=List.map zA i.b.sells∧atE i.b.at_=atE i.b.at_∧iE i.b.spare=iE i.b.spare∧True))
theorem z0c (hG:GOk Tryz.prog ([(111,bbetterC)])) (h:∀(i:BkP),find2C.cnd i→zJp i):find2C.ok Tryz.prog 126:=okw mixed hG 0 (fun _=>[]) (fun _=>z4h) [] Tryz.func126 h
@[reducible] def rU (i:LdI) (b:Bool):Prop:=∃(o:Unit),i.id=i.id∧i.b.top2=i.b.top2∧true=true∧i.b.has2=i.b.has2∧AObj.adt Arena 3 zD (i.b.untop 1)=zM i.b 1∧List.map zA i.b.buys=List.map zA i.b.buys∧List.map zA i.b.sells=List.map zA i.b.sells∧atE i.b.at_=atE i.b.at_∧iE i.b.spare=iE i.b.spare∧True
def zLh (i:LdI):Prop:=
 cnd i.b.has1 ((∀(p:Value×List D),p∈atE i.b.at_→like (Value.int IntKind.i64 i.b.top1) p.fst=true)∧∃(b:Bool),∃(n:Int),∃(n_1:Int),∃(n_2:Int),(x0 (Value.int IntKind.i64 i.b.top1) (atE i.b.at_)=some [D.v (.int .i64 n),D.v (.int .i64 n_1),D.v (.int .i64 n_2)]∧b=true∨x0 (Value.int IntKind.i64 i.b.top1) (atE i.b.at_)=none∧[D.v (.int .i64 n),D.v (.int .i64 n_1),D.v (.int .i64 n_2)]=[D.v (.int .i64 0),D.v (.int .i64 0),D.v (.int .i64 0)]∧b=false)∧((∀(p:Value×List D),p∈atE i.b.at_→like (Value.int IntKind.i64 i.b.top1) p.fst=true)∧∃(b_1:Bool),∃(n_3:Int),∃(n_4:Int),∃(n_5:Int),(x0 (Value.int IntKind.i64 i.b.top1) (atE i.b.at_)=some [D.v (.int .i64 n_3),D.v (.int .i64 n_4),D.v (.int .i64 n_5)]∧b_1=true∨x0 (Value.int IntKind.i64 i.b.top1) (atE i.b.at_)=none∧[D.v (.int .i64 n_3),D.v (.int .i64 n_4),D.v (.int .i64 n_5)]=[D.v (.int .i64 0),D.v (.int .i64 0),D.v (.int .i64 0)]∧b_1=false)∧(n_3=n∧n_4=n_1∧n_5=n_2∧True)∧b_1=b∧True)∧i.b.top1=i.b.top1∧True∧cnd b (cnd (n==1) (∃(i_1:zJz),i_1.n=n_2∧i_1.t=false∧AObj.adt Arena 3 zD i_1.a=zM i.b 1∧i_1.a.slots.length≤1000000∧∀(o:Unit),True→∃(o:Unit),i.id=i.id∧i.b.top2=i.b.top2∧true=true∧i.b.has2=i.b.has2∧AObj.adt Arena 3 zD (i.b.untop 1)=AObj.adt Arena 3 zD (i_1.a.topF i_1.n i_1.t)∧List.map zA i.b.buys=List.map zA i.b.buys∧List.map zA i.b.sells=List.map zA i.b.sells∧atE i.b.at_=atE i.b.at_∧iE i.b.spare=iE i.b.spare∧True) (rU i b)) (rU i b)) (∃(o:Unit),i.id=i.id∧i.b.top2=i.b.top2∧true=true∧i.b.has2=i.b.has2∧AObj.adt Arena 3 zD (i.b.untop 1)=zM i.b 1∧List.map zA i.b.buys=List.map zA i.b.buys∧List.map zA i.b.sells=List.map zA i.b.sells∧atE i.b.at_=atE i.b.at_∧iE i.b.spare=iE i.b.spare∧True)
theorem z0d (hG:GOk Tryz.prog ([(144,atopC)])) (h:∀(i:LdI),lead1C.cnd i→zLh i):lead1C.ok Tryz.prog 135:=okw mixed hG 0 (fun _=>[]) (fun _=>[]) [] Tryz.func135 h
@[reducible] def tP (i:LdI) (b:Bool):Prop:=∃(o:Unit),i.b.top1=i.b.top1∧i.id=i.id∧i.b.has1=i.b.has1∧true=true∧AObj.adt Arena 3 zD (i.b.untop 2)=zM i.b 1∧List.map zA i.b.buys=List.map zA i.b.buys∧List.map zA i.b.sells=List.map zA i.b.sells∧atE i.b.at_=atE i.b.at_∧iE i.b.spare=iE i.b.spare∧True
def zJk (i:LdI):Prop:=
 cnd i.b.has2 ((∀(p:Value×List D),p∈atE i.b.at_→like (Value.int IntKind.i64 i.b.top2) p.fst=true)∧∃(b:Bool),∃(n:Int),∃(n_1:Int),∃(n_2:Int),(x0 (Value.int IntKind.i64 i.b.top2) (atE i.b.at_)=some [D.v (.int .i64 n),D.v (.int .i64 n_1),D.v (.int .i64 n_2)]∧b=true∨x0 (Value.int IntKind.i64 i.b.top2) (atE i.b.at_)=none∧[D.v (.int .i64 n),D.v (.int .i64 n_1),D.v (.int .i64 n_2)]=[D.v (.int .i64 0),D.v (.int .i64 0),D.v (.int .i64 0)]∧b=false)∧((∀(p:Value×List D),p∈atE i.b.at_→like (Value.int IntKind.i64 i.b.top2) p.fst=true)∧∃(b_1:Bool),∃(n_3:Int),∃(n_4:Int),∃(n_5:Int),(x0 (Value.int IntKind.i64 i.b.top2) (atE i.b.at_)=some [D.v (.int .i64 n_3),D.v (.int .i64 n_4),D.v (.int .i64 n_5)]∧b_1=true∨x0 (Value.int IntKind.i64 i.b.top2) (atE i.b.at_)=none∧[D.v (.int .i64 n_3),D.v (.int .i64 n_4),D.v (.int .i64 n_5)]=[D.v (.int .i64 0),D.v (.int .i64 0),D.v (.int .i64 0)]∧b_1=false)∧(n_3=n∧n_4=n_1∧n_5=n_2∧True)∧b_1=b∧True)∧i.b.top2=i.b.top2∧True∧cnd b (cnd (n==2) (∃(i_1:zJz),i_1.n=n_2∧i_1.t=false∧AObj.adt Arena 3 zD i_1.a=zM i.b 1∧i_1.a.slots.length≤1000000∧∀(o:Unit),True→∃(o:Unit),i.b.top1=i.b.top1∧i.id=i.id∧i.b.has1=i.b.has1∧true=true∧AObj.adt Arena 3 zD (i.b.untop 2)=AObj.adt Arena 3 zD (i_1.a.topF i_1.n i_1.t)∧List.map zA i.b.buys=List.map zA i.b.buys∧List.map zA i.b.sells=List.map zA i.b.sells∧atE i.b.at_=atE i.b.at_∧iE i.b.spare=iE i.b.spare∧True) (tP i b)) (tP i b)) (∃(o:Unit),i.b.top1=i.b.top1∧i.id=i.id∧i.b.has1=i.b.has1∧true=true∧AObj.adt Arena 3 zD (i.b.untop 2)=zM i.b 1∧List.map zA i.b.buys=List.map zA i.b.buys∧List.map zA i.b.sells=List.map zA i.b.sells∧atE i.b.at_=atE i.b.at_∧iE i.b.spare=iE i.b.spare∧True)
theorem zZl (hG:GOk Tryz.prog ([(144,atopC)])) (h:∀(i:LdI),lead2C.cnd i→zJk i):lead2C.ok Tryz.prog 135:=okw mixed hG 0 (fun _=>[]) (fun _=>[]) [] Tryz.func135 h
def zDv (i:BkP):Prop:=
 ∃(i_1:BkP),(1:Int)=(1:Int)∧i_1.price=i.price∧i_1.b.top1=i.b.top1∧i_1.b.top2=i.b.top2∧i_1.b.has1=i.b.has1∧i_1.b.has2=i.b.has2∧AObj.adt Arena 3 zD i_1.b.a=zM i.b 1∧List.map zA i_1.b.buys=List.map zA i.b.buys∧List.map zA i_1.b.sells=List.map zA i.b.sells∧atE i_1.b.at_=atE i.b.at_∧iE i_1.b.spare=iE i.b.spare∧((i_1.b.a.slots.length≤1000000∧i_1.b.a.queues.length≤1000000)∧i_1.b.buys.length≤1000000∧i_1.b.sells.length≤1000000∧i_1.b.spare.length≤1000000)∧∀(o:Unit),True→cnd (xH 1 (i_1.b.rungs 1) i_1.price) ((0≤(↑(zP 1 (i_1.b.rungs 1) i_1.price):Int)∧(↑(zP 1 (i_1.b.rungs 1) i_1.price):Int)<(↑(List.map zA i_1.b.buys).length:Int))∧∃(n:Int),zI (List.map zA i_1.b.buys) (↑(zP 1 (i_1.b.rungs 1) i_1.price):Int).toNat ((0:Nat)+(1:Nat)) 1=some [D.v (.int .i64 n)]∧∃(o:Unit),(i.b.queueF 1 i.price).snd=n∧(i.b.queueF 1 i.price).fst.top1=i_1.b.top1∧(i.b.queueF 1 i.price).fst.top2=i_1.b.top2∧(i.b.queueF 1 i.price).fst.has1=i_1.b.has1∧(i.b.queueF 1 i.price).fst.has2=i_1.b.has2∧AObj.adt Arena 3 zD (i.b.queueF 1 i.price).fst.a=AObj.adt Arena 3 zD i_1.b.a∧List.map zA (i.b.queueF 1 i.price).fst.sells=List.map zA i_1.b.sells∧atE (i.b.queueF 1 i.price).fst.at_=atE i_1.b.at_∧List.map zA (i.b.queueF 1 i.price).fst.buys=List.map zA i_1.b.buys∧iE (i.b.queueF 1 i.price).fst.spare=iE i_1.b.spare∧True) (cnd (decide ((↑(iE i_1.b.spare).length:Int)>0)) ((0≤IntKind.i64.wrap ((↑(iE i_1.b.spare).length:Int)-1)∧IntKind.i64.wrap ((↑(iE i_1.b.spare).length:Int)-1)<(↑(iE i_1.b.spare).length:Int))∧∃(n:Int),zI (iE i_1.b.spare) (IntKind.i64.wrap ((↑(iE i_1.b.spare).length:Int)-1)).toNat 0 1=some [D.v (.int .i64 n)]∧(0≤IntKind.i64.wrap ((↑(iE i_1.b.spare).length:Int)-1)∧IntKind.i64.wrap ((↑(iE i_1.b.spare).length:Int)-1)≤(↑(iE i_1.b.spare).length:Int))∧True∧∃(i_2:zSr),(↑i_2.i:Int)=(↑(zP 1 (i_1.b.rungs 1) i_1.price):Int)∧i_2.els=List.map zA i_1.b.buys∧[i_2.el]=[[D.v (.int .i64 i.price),D.v (.int .i64 n)]]∧(i_2.i≤i_2.els.length∧(i_2.els.length+1)*(16:Nat)≤(70368744177664:Nat))∧∀(o:Unit),True→∃(o:Unit),(i.b.queueF 1 i.price).snd=n∧(i.b.queueF 1 i.price).fst.top1=i_1.b.top1∧(i.b.queueF 1 i.price).fst.top2=i_1.b.top2∧(i.b.queueF 1 i.price).fst.has1=i_1.b.has1∧(i.b.queueF 1 i.price).fst.has2=i_1.b.has2∧AObj.adt Arena 3 zD (i.b.queueF 1 i.price).fst.a=AObj.adt Arena 3 zD i_1.b.a∧List.map zA (i.b.queueF 1 i.price).fst.sells=List.map zA i_1.b.sells∧atE (i.b.queueF 1 i.price).fst.at_=atE i_1.b.at_∧List.map zA (i.b.queueF 1 i.price).fst.buys=List.take i_2.i i_2.els++i_2.el::List.drop i_2.i i_2.els∧iE (i.b.queueF 1 i.price).fst.spare=List.take (IntKind.i64.wrap ((↑(iE i_1.b.spare).length:Int)-1)).toNat (iE i_1.b.spare)∧True) (∃(i_2:Arena),AObj.adt Arena 3 zD i_2=AObj.adt Arena 3 zD i_1.b.a∧i_2.queues.length≤1000000∧∀(o:Unit),True→True∧∃(i_3:zSr),(↑i_3.i:Int)=(↑(zP 1 (i_1.b.rungs 1) i_1.price):Int)∧i_3.els=List.map zA i_1.b.buys∧[i_3.el]=[[D.v (.int .i64 i.price),D.v (.int .i64 (↑i_2.queues.length:Int))]]∧(i_3.i≤i_3.els.length∧(i_3.els.length+1)*(16:Nat)≤(70368744177664:Nat))∧∀(o:Unit),True→∃(o:Unit),(i.b.queueF 1 i.price).snd=(↑i_2.queues.length:Int)∧(i.b.queueF 1 i.price).fst.top1=i_1.b.top1∧(i.b.queueF 1 i.price).fst.top2=i_1.b.top2∧(i.b.queueF 1 i.price).fst.has1=i_1.b.has1∧(i.b.queueF 1 i.price).fst.has2=i_1.b.has2∧AObj.adt Arena 3 zD (i.b.queueF 1 i.price).fst.a=AObj.adt Arena 3 zD i_2.openQ∧List.map zA (i.b.queueF 1 i.price).fst.sells=List.map zA i_1.b.sells∧atE (i.b.queueF 1 i.price).fst.at_=atE i_1.b.at_∧List.map zA (i.b.queueF 1 i.price).fst.buys=List.take i_3.i i_3.els++i_3.el::List.drop i_3.i i_3.els∧iE (i.b.queueF 1 i.price).fst.spare=iE i_1.b.spare∧True))
theorem zVb (hG:GOk Tryz.prog ([(126,find1C),(147,aopenC),(148,insRC)])) (h:∀(i:BkP),queue1C.cnd i→zDv i):queue1C.ok Tryz.prog 137:=okw mixed hG 0 (fun _=>[]) (fun _=>[]) [] Tryz.func137 h
def zEd (i:BkP):Prop:=
 ∃(i_1:BkP),(2:Int)=(2:Int)∧i_1.price=i.price∧i_1.b.top1=i.b.top1∧i_1.b.top2=i.b.top2∧i_1.b.has1=i.b.has1∧i_1.b.has2=i.b.has2∧AObj.adt Arena 3 zD i_1.b.a=zM i.b 1∧List.map zA i_1.b.buys=List.map zA i.b.buys∧List.map zA i_1.b.sells=List.map zA i.b.sells∧atE i_1.b.at_=atE i.b.at_∧iE i_1.b.spare=iE i.b.spare∧((i_1.b.a.slots.length≤1000000∧i_1.b.a.queues.length≤1000000)∧i_1.b.buys.length≤1000000∧i_1.b.sells.length≤1000000∧i_1.b.spare.length≤1000000)∧∀(o:Unit),True→cnd (xH 2 (i_1.b.rungs 2) i_1.price) ((0≤(↑(zP 2 (i_1.b.rungs 2) i_1.price):Int)∧(↑(zP 2 (i_1.b.rungs 2) i_1.price):Int)<(↑(List.map zA i_1.b.sells).length:Int))∧∃(n:Int),zI (List.map zA i_1.b.sells) (↑(zP 2 (i_1.b.rungs 2) i_1.price):Int).toNat ((0:Nat)+(1:Nat)) 1=some [D.v (.int .i64 n)]∧∃(o:Unit),(i.b.queueF 2 i.price).snd=n∧(i.b.queueF 2 i.price).fst.top1=i_1.b.top1∧(i.b.queueF 2 i.price).fst.top2=i_1.b.top2∧(i.b.queueF 2 i.price).fst.has1=i_1.b.has1∧(i.b.queueF 2 i.price).fst.has2=i_1.b.has2∧AObj.adt Arena 3 zD (i.b.queueF 2 i.price).fst.a=AObj.adt Arena 3 zD i_1.b.a∧List.map zA (i.b.queueF 2 i.price).fst.buys=List.map zA i_1.b.buys∧atE (i.b.queueF 2 i.price).fst.at_=atE i_1.b.at_∧List.map zA (i.b.queueF 2 i.price).fst.sells=List.map zA i_1.b.sells∧iE (i.b.queueF 2 i.price).fst.spare=iE i_1.b.spare∧True) (cnd (decide ((↑(iE i_1.b.spare).length:Int)>0)) ((0≤IntKind.i64.wrap ((↑(iE i_1.b.spare).length:Int)-1)∧IntKind.i64.wrap ((↑(iE i_1.b.spare).length:Int)-1)<(↑(iE i_1.b.spare).length:Int))∧∃(n:Int),zI (iE i_1.b.spare) (IntKind.i64.wrap ((↑(iE i_1.b.spare).length:Int)-1)).toNat 0 1=some [D.v (.int .i64 n)]∧(0≤IntKind.i64.wrap ((↑(iE i_1.b.spare).length:Int)-1)∧IntKind.i64.wrap ((↑(iE i_1.b.spare).length:Int)-1)≤(↑(iE i_1.b.spare).length:Int))∧True∧∃(i_2:zSr),(↑i_2.i:Int)=(↑(zP 2 (i_1.b.rungs 2) i_1.price):Int)∧i_2.els=List.map zA i_1.b.sells∧[i_2.el]=[[D.v (.int .i64 i.price),D.v (.int .i64 n)]]∧(i_2.i≤i_2.els.length∧(i_2.els.length+1)*(16:Nat)≤(70368744177664:Nat))∧∀(o:Unit),True→∃(o:Unit),(i.b.queueF 2 i.price).snd=n∧(i.b.queueF 2 i.price).fst.top1=i_1.b.top1∧(i.b.queueF 2 i.price).fst.top2=i_1.b.top2∧(i.b.queueF 2 i.price).fst.has1=i_1.b.has1∧(i.b.queueF 2 i.price).fst.has2=i_1.b.has2∧AObj.adt Arena 3 zD (i.b.queueF 2 i.price).fst.a=AObj.adt Arena 3 zD i_1.b.a∧List.map zA (i.b.queueF 2 i.price).fst.buys=List.map zA i_1.b.buys∧atE (i.b.queueF 2 i.price).fst.at_=atE i_1.b.at_∧List.map zA (i.b.queueF 2 i.price).fst.sells=List.take i_2.i i_2.els++i_2.el::List.drop i_2.i i_2.els∧iE (i.b.queueF 2 i.price).fst.spare=List.take (IntKind.i64.wrap ((↑(iE i_1.b.spare).length:Int)-1)).toNat (iE i_1.b.spare)∧True) (∃(i_2:Arena),AObj.adt Arena 3 zD i_2=AObj.adt Arena 3 zD i_1.b.a∧i_2.queues.length≤1000000∧∀(o:Unit),True→True∧∃(i_3:zSr),(↑i_3.i:Int)=(↑(zP 2 (i_1.b.rungs 2) i_1.price):Int)∧i_3.els=List.map zA i_1.b.sells∧[i_3.el]=[[D.v (.int .i64 i.price),D.v (.int .i64 (↑i_2.queues.length:Int))]]∧(i_3.i≤i_3.els.length∧(i_3.els.length+1)*(16:Nat)≤(70368744177664:Nat))∧∀(o:Unit),True→∃(o:Unit),(i.b.queueF 2 i.price).snd=(↑i_2.queues.length:Int)∧(i.b.queueF 2 i.price).fst.top1=i_1.b.top1∧(i.b.queueF 2 i.price).fst.top2=i_1.b.top2∧(i.b.queueF 2 i.price).fst.has1=i_1.b.has1∧(i.b.queueF 2 i.price).fst.has2=i_1.b.has2∧AObj.adt Arena 3 zD (i.b.queueF 2 i.price).fst.a=AObj.adt Arena 3 zD i_2.openQ∧List.map zA (i.b.queueF 2 i.price).fst.buys=List.map zA i_1.b.buys∧atE (i.b.queueF 2 i.price).fst.at_=atE i_1.b.at_∧List.map zA (i.b.queueF 2 i.price).fst.sells=List.take i_3.i i_3.els++i_3.el::List.drop i_3.i i_3.els∧iE (i.b.queueF 2 i.price).fst.spare=iE i_1.b.spare∧True))
theorem zUd (hG:GOk Tryz.prog ([(126,find2C),(147,aopenC),(148,insRC)])) (h:∀(i:BkP),queue2C.cnd i→zEd i):queue2C.ok Tryz.prog 137:=okw mixed hG 0 (fun _=>[]) (fun _=>[]) [] Tryz.func137 h
open Go Cv Go.Proofs
theorem vZ:bbetterC.ok Tryz.prog 111:=zRy gok0 fun i _=>by
 unfold zGw
 refine Cv.cnd.mk (fun c=> ?_) (fun c=> ?_)
 ·have c:i.side=1:=by simpa using c
  rw[btr,if_pos c];(repeat'(first|exact rfl|exact trivial|assumption|apply And.intro|refine fun(_:Unit) (_:True)=>?_|refine Exists.intro () ?_|omega|(dsimp only;omega)))
 ·have c:¬i.side=1:=by simpa using c
  rw[btr,if_neg c];(repeat'(first|exact rfl|exact trivial|assumption|apply And.intro|refine fun(_:Unit) (_:True)=>?_|refine Exists.intro () ?_|omega|(dsimp only;omega)))
theorem zWb:pushFC.ok Tryz.prog 146:=z3q gok0 fun s _=>by
 unfold zSs;(repeat'(first|exact rfl|exact trivial|assumption|apply And.intro|refine fun(_:Unit) (_:True)=>?_|refine Exists.intro () ?_|omega|(dsimp only;omega)))
theorem yDt {l:List Slot} {k:Nat} {s:Slot} (h:l[k]? =some s):zI (l.map zL) k 0 8=some [D.v (.bool s.used),.v (.int .i64 s.n),.v (.int .i64 s.id),.v (.int .i64 s.qty),.v (.bool s.top),.v (.int .i64 s.queue),.v (.int .i64 s.ahead),.v (.int .i64 s.back)]:=elA h (by simp[zL]) rfl
theorem zXu (l:List Slot) (h:idxSlotC.cnd l):rC l:=by
 have h:l.length≤1000000:=h
 unfold rC
 simp only[List.length_map]
 refine⟨0,rfl,fun j=>j≤l.length∧∀k<j,∀x,l[k]? =some x→(!x.used)=false,fun j=>l.length-j,⟨by omega,fun k hk=>by omega⟩,?_⟩
 rintro j ⟨h3,h4⟩
 refine zU (fun hj=> ?_) (fun hj=> ?_)
 ·obtain⟨s,hs⟩:=yD (l:=l) (i:=j) (by omega)
  refine⟨⟨by omega,by omega⟩,s.used,s.n,s.id,s.qty,s.top,s.queue,s.ahead,s.back,yDt hs,s,rfl,rfl,rfl,rfl,rfl,rfl,rfl,rfl,trivial,fun _ _=>Cv.cnd.mk (fun e=> ?_) (fun e=> ?_)⟩
  ·rw[yV,nC hs e h4];(repeat'(first|exact rfl|exact trivial|assumption|apply And.intro|refine fun(_:Unit) (_:True)=>?_|refine Exists.intro () ?_|omega|(dsimp only;omega)))
  ·refine⟨j+1,by rw[w64 (by omega)];rfl,⟨by omega,fun k hk x hx=> ?_⟩,by(first|omega|(dsimp only;omega)),by(repeat'(first|exact trivial|exact rfl|apply And.intro))⟩
   rcases Nat.lt_or_ge k j with hk'|hk'
   ·exact h4 k hk' x hx
   ·obtain rfl:k=j:=by omega
    rw[hs]at hx;cases hx;exact e
 ·rw[yV,mY fun k x hx=>h4 k (by have:=(List.getElem?_eq_some_iff.1 hx).1;omega) x hx];(repeat'(first|exact rfl|exact trivial|assumption|apply And.intro|refine fun(_:Unit) (_:True)=>?_|refine Exists.intro () ?_|omega|(dsimp only;omega)))
theorem zIv:idxSlotC.ok Tryz.prog 145:=zPi (gokc zWb gok0) zXu
theorem zEh:aopenC.ok Tryz.prog 147:=z1c gok0 fun a h=>by
 have h:a.queues.length≤1000000:=h
 unfold zUx
 rw[List.length_append,List.length_map,w64 (by simp only[List.length_cons,List.length_nil];omega)]
 refine⟨by omega,(),?_,rfl,rfl,?_,trivial⟩
 ·simp
 ·rw[List.map_append];rfl
theorem wP {α:Type} {f:α→α}:∀{l:List α} {i:Nat} {x:α},l[i]? =some x→l.modify i f=l.set i (f x)
 |[],i,x,h=>by simp at h
 |a::l,0,x,h=>by simp at h;subst h;rfl
 |a::l,i+1,x,h=>by
  simp only[List.getElem?_cons_succ]at h
  simp only[List.modify_succ_cons,List.set_cons_succ,wP h]
theorem yE {α:Type} {f:α→List D} {l:List α} {i g:Nat} {x y:α} {ds:List D} (hi:l[i]? =some x) (hh:(f x).take g++(ds++(f x).drop (g+ds.length))=f y):zK (l.map f) i g ds=(l.set i y).map f:=by
 have hlt:=(List.getElem?_eq_some_iff.1 hi).1
 rw[zK,wP (by rw[List.getElem?_map,hi];rfl),hh,List.map_set]
theorem kV {α:Type} {l:List α} {i:Nat} {x y:α} (hi:l[i]? =some x):(l.set i y)[i]? =some y:=List.getElem?_set_self (List.getElem?_eq_some_iff.1 hi).1
theorem zX {α:Type} {l:List α} {i:Nat} {x d:α} (h:l[i]? =some x):l.getD i d=x:=by rw[List.getD_eq_getElem?_getD,h];rfl
theorem yAk (i:zJz) (h:atopC.cnd i):zVm i:=by
 have h:i.a.slots.length≤1000000:=h
 unfold zVm pI
 simp only[List.length_map]
 have no (e:i.a.usedAt i.n=false):i.a.topF i.n i.t=i.a:=by rw[Arena.topF,if_neg (by rw[e];decide)]
 refine zU (fun c=> ?_) (fun c=>zU (fun d=> ?_) (fun d=> ?_))
 ·have e:i.a.usedAt i.n=false:=by rw[Arena.usedAt,decide_eq_false (by omega),Bool.false_and]
  rw[no e,e];(repeat'(first|exact rfl|exact trivial|assumption|apply And.intro|refine fun(_:Unit) (_:True)=>?_|refine Exists.intro () ?_|omega|(dsimp only;omega)))
 ·have e:i.a.usedAt i.n=false:=by rw[Arena.usedAt,decide_eq_false (show ¬i.n<(i.a.slots.length:Int)by omega),Bool.false_and,Bool.and_false]
  rw[no e,e];(repeat'(first|exact rfl|exact trivial|assumption|apply And.intro|refine fun(_:Unit) (_:True)=>?_|refine Exists.intro () ?_|omega|(dsimp only;omega)))
 ·obtain⟨s,hs⟩:=yD (l:=i.a.slots) (i:=i.n.toNat) (by omega)
  have eu:i.a.usedAt i.n=s.used:=by rw[Arena.usedAt,decide_eq_true (show 0≤i.n by omega),decide_eq_true (show i.n<(i.a.slots.length:Int)by omega),zX hs];simp
  refine⟨⟨by omega,by omega⟩,s.used,elA hs (by simp[zL]) rfl,Cv.cnd.mk (fun u=> ?_) (fun u=> ?_)⟩
  ·have e:i.a.usedAt i.n=false:=by rw[eu];simpa using u
   rw[no e,e];(repeat'(first|exact rfl|exact trivial|assumption|apply And.intro|refine fun(_:Unit) (_:True)=>?_|refine Exists.intro () ?_|omega|(dsimp only;omega)))
  ·have e:i.a.usedAt i.n=true:=by rw[eu];simpa using u
   have et:i.a.topF i.n i.t={i.a with slots:=i.a.slots.set i.n.toNat {s with top:=i.t}}:=by
    rw[Arena.topF,if_pos e,wP hs]
   rw[et,e,yE hs (y:={s with top:=i.t}) rfl]
   refine⟨⟨by omega,by omega⟩,by omega,(),rfl,rfl,rfl,rfl,trivial⟩
theorem zOm:atopC.ok Tryz.prog 144:=z8v gok0 yAk
theorem zFn {l:List Slot} (h:∃s∈l,s.used=false):∃k:Nat,yV l=k∧k<l.length:=by
 obtain⟨s,hs,hu⟩:=h
 cases hf:l.findIdx? fun s=> !s.used with
 |none=>
  rw[List.findIdx?_eq_none_iff]at hf
  have:=hf s hs
  rw[hu]at this;cases this
 |some k=>
  rw[List.findIdx?_eq_some_iff_getElem]at hf
  exact⟨k,by rw[yV,show(l.findIdx? fun s=> !s.used)=some k by rw[List.findIdx?_eq_some_iff_getElem];exact hf];rfl,hf.1⟩
theorem z9z (i:PuI) (h:apushC.cnd i):zJv i:=by
 obtain⟨h1,h2,h3⟩:i.a.fit:=h
 unfold zJv eD p7
 simp only[List.length_map]
 have out (e:i.n<0∨i.a.queues.length≤i.n):i.a.push i.n i.id i.qty i.top=(i.a,0,26):=by rw[Arena.push,if_pos e]
 refine zU (fun c=>Cv.cnd.mk (fun d=> ?_) (fun d=> ?_)) (fun c=> ?_)
 ·have d:¬i.n<(i.a.queues.length:Int):=by simpa using d
  rw[out (.inr (by omega))];(repeat'(first|exact rfl|exact trivial|assumption|apply And.intro|refine fun(_:Unit) (_:True)=>?_|refine Exists.intro () ?_|omega|(dsimp only;omega)))
 ·have d:i.n<(i.a.queues.length:Int):=by simpa using d
  have hn:¬(i.n<0∨(i.a.queues.length:Int)≤i.n):=by omega
  refine zU (fun q1=> ?_) (fun q1=>zU (fun q2=> ?_) (fun q2=>Cv.cnd.mk (fun fr=> ?_) (fun fr=> ?_)))
  ·rw[Arena.push,if_neg hn,if_pos (.inl q1)];(repeat'(first|exact rfl|exact trivial|assumption|apply And.intro|refine fun(_:Unit) (_:True)=>?_|refine Exists.intro () ?_|omega|(dsimp only;omega)))
  ·rw[Arena.push,if_neg hn,if_pos (.inr q2)];(repeat'(first|exact rfl|exact trivial|assumption|apply And.intro|refine fun(_:Unit) (_:True)=>?_|refine Exists.intro () ?_|omega|(dsimp only;omega)))
  ·rw[Arena.push,if_neg hn,if_neg (by omega),if_pos (by simpa using fr)];(repeat'(first|exact rfl|exact trivial|assumption|apply And.intro|refine fun(_:Unit) (_:True)=>?_|refine Exists.intro () ?_|omega|(dsimp only;omega)))
  ·have fr:i.a.free≠0:=by simpa using fr
   have ep:i.a.push i.n i.id i.qty i.top=(i.a.put i.n i.id i.qty i.top,yV i.a.slots,0):=by rw[Arena.push,if_neg hn,if_neg (by omega),if_neg fr]
   obtain⟨k,hk,hkl⟩:=zFn (h2 fr)
   obtain⟨q,hq⟩:=yD (l:=i.a.queues) (i:=i.n.toNat) (by omega)
   have hqm:=List.mem_of_getElem? hq
   have hl:=h3 q hqm
   obtain⟨s,hs⟩:=yD hkl
   refine⟨i.a.slots,rfl,h1,fun _ _=>⟨⟨by omega,by omega⟩,q.last,elA hq (by simp[zH]) rfl,⟨by omega,by omega⟩,by rw[hk];exact hkl,q.last,elA hq (by simp[zH]) rfl,?_⟩⟩
   rw[ep]
   have eput:i.a.put i.n i.id i.qty i.top=⟨if q.last= -1 then i.a.slots.set k ⟨true,k,i.id,i.qty,i.top,i.n,q.last,-1⟩else(i.a.slots.set k ⟨true,k,i.id,i.qty,i.top,i.n,q.last,-1⟩).modify q.last.toNat fun s=>{s with back:=k},i.a.queues.set i.n.toNat ⟨if q.last= -1 then k else q.first,k,IntKind.i64.wrap (q.total+i.qty),IntKind.i64.wrap (q.count+1)⟩,IntKind.i64.wrap (i.a.free-1)⟩:=by
    simp only[Arena.put,zX hq,hk,Int.toNat_natCast]
   rw[eput,hk]
   simp only[Int.toNat_natCast]
   have es:zK (List.map zL i.a.slots) k 0 [D.v (.bool true),D.v (.int .i64 k),D.v (.int .i64 i.id),D.v (.int .i64 i.qty),D.v (.bool i.top),D.v (.int .i64 i.n),D.v (.int .i64 q.last),D.v (.int .i64 (-1))]=List.map zL (i.a.slots.set k ⟨true,k,i.id,i.qty,i.top,i.n,q.last,-1⟩):=yE hs rfl
   rw[es]
   refine Cv.cnd.mk (fun e=> ?_) (fun e=> ?_)
   ·have e:q.last= -1:=by simpa using e
    have e1:zK (List.map zH i.a.queues) i.n.toNat (0+0) [D.v (.int .i64 k)]=List.map zH (i.a.queues.set i.n.toNat {q with first:=k}):=yE hq rfl
    have g1:=kV (y:={q with first:=(k:Int)}) hq
    have e2:zK (List.map zH (i.a.queues.set i.n.toNat {q with first:=k})) i.n.toNat (0+1) [D.v (.int .i64 k)]=List.map zH (i.a.queues.set i.n.toNat {q with first:=k,last:=k}):=by
     rw[yE g1 (y:={q with first:=(k:Int),last:=(k:Int)}) rfl,List.set_set]
    have g2:=kV (y:={q with first:=(k:Int),last:=(k:Int)}) hq
    have e3:zK (List.map zH (i.a.queues.set i.n.toNat {q with first:=k,last:=k})) i.n.toNat (0+2) [D.v (.int .i64 (IntKind.i64.wrap (q.total+i.qty)))]=List.map zH (i.a.queues.set i.n.toNat {q with first:=k,last:=k,total:=IntKind.i64.wrap (q.total+i.qty)}):=by
     rw[yE g2 (y:={q with first:=(k:Int),last:=(k:Int),total:=IntKind.i64.wrap (q.total+i.qty)}) rfl,List.set_set]
    have g3:=kV (y:={q with first:=(k:Int),last:=(k:Int),total:=IntKind.i64.wrap (q.total+i.qty)}) hq
    have e4:zK (List.map zH (i.a.queues.set i.n.toNat {q with first:=k,last:=k,total:=IntKind.i64.wrap (q.total+i.qty)})) i.n.toNat (0+3) [D.v (.int .i64 (IntKind.i64.wrap (q.count+1)))]=List.map zH (i.a.queues.set i.n.toNat ⟨k,k,IntKind.i64.wrap (q.total+i.qty),IntKind.i64.wrap (q.count+1)⟩):=by
     rw[yE g3 (y:=⟨k,k,IntKind.i64.wrap (q.total+i.qty),IntKind.i64.wrap (q.count+1)⟩) rfl,List.set_set]
    rw[e1,e2]
    simp only[if_pos e]
    refine⟨by omega,by simp only[List.length_map,List.length_set];omega,q.total,elA g2 (by simp[zH]) rfl,by simp only[List.length_map,List.length_set];omega,q.count,?_,by rw[e3];simp only[List.length_map,List.length_set];omega,(),?_⟩
    ·rw[e3];exact elA g3 (by simp[zH]) rfl
    ·rw[e3,e4];(repeat'(first|exact rfl|exact trivial|assumption|apply And.intro|refine fun(_:Unit) (_:True)=>?_|refine Exists.intro () ?_|omega|(dsimp only;omega)))
   ·have e:¬q.last= -1:=by simpa using e
    have hl:0≤q.last∧q.last<i.a.slots.length:=hl.resolve_left e
    have e2:zK (List.map zH i.a.queues) i.n.toNat (0+1) [D.v (.int .i64 k)]=List.map zH (i.a.queues.set i.n.toNat {q with last:=k}):=yE hq rfl
    have g2:=kV (y:={q with last:=(k:Int)}) hq
    have e3:zK (List.map zH (i.a.queues.set i.n.toNat {q with last:=k})) i.n.toNat (0+2) [D.v (.int .i64 (IntKind.i64.wrap (q.total+i.qty)))]=List.map zH (i.a.queues.set i.n.toNat {q with last:=k,total:=IntKind.i64.wrap (q.total+i.qty)}):=by
     rw[yE g2 (y:={q with last:=(k:Int),total:=IntKind.i64.wrap (q.total+i.qty)}) rfl,List.set_set]
    have g3:=kV (y:={q with last:=(k:Int),total:=IntKind.i64.wrap (q.total+i.qty)}) hq
    have e4:zK (List.map zH (i.a.queues.set i.n.toNat {q with last:=k,total:=IntKind.i64.wrap (q.total+i.qty)})) i.n.toNat (0+3) [D.v (.int .i64 (IntKind.i64.wrap (q.count+1)))]=List.map zH (i.a.queues.set i.n.toNat ⟨q.first,k,IntKind.i64.wrap (q.total+i.qty),IntKind.i64.wrap (q.count+1)⟩):=by
     rw[yE g3 (y:=⟨q.first,k,IntKind.i64.wrap (q.total+i.qty),IntKind.i64.wrap (q.count+1)⟩) rfl,List.set_set]
    obtain⟨s2,hs2⟩:=yD (l:=i.a.slots.set k ⟨true,k,i.id,i.qty,i.top,i.n,q.last,-1⟩) (i:=q.last.toNat) (by rw[List.length_set];omega)
    have e5:zK (List.map zL (i.a.slots.set k ⟨true,k,i.id,i.qty,i.top,i.n,q.last,-1⟩)) q.last.toNat (0+7) [D.v (.int .i64 k)]=List.map zL ((i.a.slots.set k ⟨true,k,i.id,i.qty,i.top,i.n,q.last,-1⟩).modify q.last.toNat fun s=>{s with back:=k}):=by
     rw[yE hs2 (y:={s2 with back:=(k:Int)}) rfl,wP hs2]
    rw[e2]
    simp only[if_neg e]
    refine⟨q.last,elA hq (by simp[zH]) rfl,⟨by omega,by simp only[List.length_map,List.length_set];omega⟩,by simp only[List.length_map,List.length_set];omega,by omega,q.total,elA g2 (by simp[zH]) rfl,by simp only[List.length_map,List.length_set];omega,q.count,?_,by rw[e3];simp only[List.length_map,List.length_set];omega,(),?_⟩
    ·rw[e3];exact elA g3 (by simp[zH]) rfl
    ·rw[e3,e4,e5];(repeat'(first|exact rfl|exact trivial|assumption|apply And.intro|refine fun(_:Unit) (_:True)=>?_|refine Exists.intro () ?_|omega|(dsimp only;omega)))
 ·rw[out (.inl (by omega))];(repeat'(first|exact rfl|exact trivial|assumption|apply And.intro|refine fun(_:Unit) (_:True)=>?_|refine Exists.intro () ?_|omega|(dsimp only;omega)))
theorem zHw:apushC.ok Tryz.prog 136:=z1m (gokc zIv gok0) z9z
theorem h9 {s price:Int}:∀{l:List yX} {j:Nat},j≤l.length→(∀k<j,∀r,l[k]? =some r→btr s r.price price=true)→(∀r,l[j]? =some r→btr s r.price price=false)→zP s l price=j
 |[],j,hj,_,_=>by
  obtain rfl:j=0:=by simpa using hj
  rfl
 |r::l,0,_,_,he=>by
  have:=he r rfl
  rw[zP,List.takeWhile_cons,this];rfl
 |r::l,j+1,hj,h,he=>by
  have h0:=h 0 (by omega) r rfl
  have ih:=h9 (l:=l) (j:=j) (by simpa using hj) (fun k hk x hx=>h (k+1) (by omega) x (by simpa using hx)) (fun x hx=>he x (by simpa using hx))
  rw[zP]at ih ⊢
  rw[List.takeWhile_cons,h0,if_pos rfl,List.length_cons,ih]
theorem f0 (s price:Int) (l:List yX):zP s l price≤l.length:=(List.takeWhile_sublist _).length_le
theorem uS (b:Book):b.rungs 1=b.buys:=rfl
theorem gE (b:Book):b.rungs 2=b.sells:=rfl
theorem z6u (i:BkP) (h:find1C.cnd i):zKx i:=by
 obtain⟨_,h1,h2,_⟩:i.b.small:=h
 unfold zKx
 simp only[List.length_map,uS]
 refine⟨0,rfl,fun j=>j≤i.b.buys.length∧∀k<j,∀r,i.b.buys[k]? =some r→btr 1 r.price i.price=true,fun j=>i.b.buys.length-j,⟨by omega,fun k hk=>by omega⟩,?_⟩
 rintro j ⟨h3,h4⟩
 refine zU (fun hj=> ?_) (fun hj=> ?_)
 ·obtain⟨r,hr⟩:=yD (l:=i.b.buys) (i:=j) (by omega)
  refine⟨⟨by omega,by omega⟩,r.price,elA hr (by simp[zA]) rfl,⟨1,r.price,i.price⟩,rfl,rfl,rfl,trivial,fun _ _=> ?_⟩
  dsimp only
  refine Cv.cnd.mk (fun e=>⟨j+1,by rw[w64 (by omega)];rfl,⟨by omega,fun k hk x hx=> ?_⟩,by(first|omega|(dsimp only;omega)),by(repeat'(first|exact trivial|exact rfl|apply And.intro))⟩) (fun e=>zU (fun _=> ?_) (fun c=>absurd hj c))
  ·rcases Nat.lt_or_ge k j with hk'|hk'
   ·exact h4 k hk' x hx
   ·obtain rfl:k=j:=by omega
    rw[hr]at hx;cases hx;exact e
  ·have en:zP 1 i.b.buys i.price=j:=h9 h3 h4 fun x hx=>by rw[hr]at hx;cases hx;exact e
   have eb:xH 1 i.b.buys i.price=(r.price==i.price):=by rw[xH,en,hr];exact(zFb _ _).symm
   refine⟨⟨by omega,by omega⟩,r.price,elA hr (by simp[zA]) rfl,(),by rw[en],eb,?_⟩
   (repeat'(first|exact trivial|exact rfl|apply And.intro))
 ·have en:zP 1 i.b.buys i.price=j:=h9 h3 h4 fun x hx=>by have:=(List.getElem?_eq_some_iff.1 hx).1;omega
  have eb:xH 1 i.b.buys i.price=false:=by rw[xH,en,List.getElem?_eq_none (by omega)]
  refine zU (fun c=>absurd c hj) (fun _=>⟨(),by rw[en],eb,?_⟩)
  (repeat'(first|exact trivial|exact rfl|apply And.intro))
theorem tA:find1C.ok Tryz.prog 126:=zZy (gokc vZ gok0) z6u
theorem qI (l:List (Int×Place)) (k:Int):∀(p:Value×List D),p∈atE l→like (Value.int IntKind.i64 k) p.1=true:=by
 intro p hp
 obtain⟨x,_,rfl⟩:=List.mem_map.1 hp
 rfl
theorem cE (k:Int):∀l:List (Int×Place),x0 (Value.int IntKind.i64 k) (atE l)=(pget l k).map zLn
 |[]=>rfl
 |(a,v)::l=>by
  have ih:=cE k l
  show(bif (keq .i64 .i64 && decide (k=a))then _ else x0 _ (atE l))=_
  by_cases h:k=a
  ·subst h;simp[pget,keq]
  ·have h':¬a=k:=fun e=>h e.symm
   rw[show(keq .i64 .i64 && decide (k=a))=false by simp[h],cond_false,ih]
   simp[pget,List.find?_cons,h']
def m3:Place:=⟨0,0,0⟩
theorem zAd (l:List (Int×Place)) (k:Int):x0 (Value.int IntKind.i64 k) (atE l)=some [D.v (.int .i64 ((pget l k).getD m3).side),D.v (.int .i64 ((pget l k).getD m3).price),D.v (.int .i64 ((pget l k).getD m3).slot)]∧(pget l k).isSome=true∨x0 (Value.int IntKind.i64 k) (atE l)=none∧[D.v (.int .i64 ((pget l k).getD m3).side),D.v (.int .i64 ((pget l k).getD m3).price),D.v (.int .i64 ((pget l k).getD m3).slot)]=[D.v (.int .i64 0),D.v (.int .i64 0),D.v (.int .i64 0)]∧(pget l k).isSome=false:=by
 rw[cE]
 cases pget l k with
 |none=>exact .inr ⟨rfl,rfl,rfl⟩
 |some v=>exact .inl ⟨rfl,rfl⟩
theorem zDw (k:Int) (v:Place):∀l,jE (Value.int IntKind.i64 k) (zLn v) (atE l)=atE (gL k v l)
 |[]=>rfl
 |(a,b)::l=>by
  have ih:=zDw k v l
  show(bif (keq .i64 .i64 && decide (k=a))then _ else _::jE _ _ (atE l))=_
  rw[ih,gL]
  by_cases h:k=a
  ·subst h;simp[keq,atE]
  ·simp[h,atE]
theorem z9y (i:LdI) (h:lead1C.cnd i):zLh i:=by
 obtain⟨⟨ha,_⟩,h1,h2,_⟩:i.b.small:=h
 unfold zLh rU
 have no (e:i.b.untop 1=i.b.a):AObj.adt Arena 3 zD (i.b.untop 1)=zM i.b 1:=by rw[e];rfl
 refine Cv.cnd.mk (fun c=> ?_) (fun c=>⟨(),?_⟩)
 ·have c:i.b.hasF 1=true:=c
  refine⟨qI _ _,(pget i.b.at_ i.b.top1).isSome,_,_,_,zAd _ _,⟨qI _ _,(pget i.b.at_ i.b.top1).isSome,_,_,_,zAd _ _,⟨rfl,rfl,rfl,trivial⟩,rfl,trivial⟩,rfl,trivial,Cv.cnd.mk (fun d=>Cv.cnd.mk (fun e=> ?_) (fun e=>⟨(),?_⟩)) (fun d=>⟨(),?_⟩)⟩
  ·obtain⟨o,ho⟩:=Option.isSome_iff_exists.1 d
   have e:o.side=1:=by rw[ho]at e;simpa using e
   have eu:i.b.untop 1=i.b.a.topF o.slot false:=by
    have ht:pget i.b.at_ (i.b.topI 1)=some o:=ho
    rw[Book.untop,if_pos c,ht];dsimp only;rw[if_pos e]
   refine⟨⟨i.b.a,o.slot,false⟩,by rw[ho];rfl,rfl,rfl,ha,fun _ _=>⟨(),?_⟩⟩
   rw[eu];(repeat'(first|exact trivial|exact rfl|apply And.intro))
  ·obtain⟨o,ho⟩:=Option.isSome_iff_exists.1 d
   have e:¬o.side=1:=by rw[ho]at e;simpa using e
   have ht:pget i.b.at_ (i.b.topI 1)=some o:=ho
   rw[no (by rw[Book.untop,if_pos c,ht];dsimp only;rw[if_neg e])];(repeat'(first|exact trivial|exact rfl|apply And.intro))
  ·have ht:pget i.b.at_ (i.b.topI 1)=none:=by
    show pget i.b.at_ i.b.top1=none
    simpa using d
   rw[no (by rw[Book.untop,if_pos c,ht])];(repeat'(first|exact trivial|exact rfl|apply And.intro))
 ·have c:¬i.b.hasF 1=true:=by rw[show i.b.hasF 1=i.b.has1 from rfl,c];decide
  rw[no (by rw[Book.untop,if_neg c])];(repeat'(first|exact trivial|exact rfl|apply And.intro))
theorem zVn:lead1C.ok Tryz.prog 135:=z0d (gokc zOm gok0) z9y
theorem zHc {s price:Int} {l:List yX} (h:xH s l price=true):∃r,l[zP s l price]? =some r:=by
 rw[xH]at h
 split at h
 ·rename_i r hr;exact⟨r,hr⟩
 ·cases h
theorem z1o (i:BkP) (h:queue1C.cnd i):zDv i:=by
 obtain⟨⟨ha,_⟩,ha',h1,h2,h3⟩:i.b.fit:=h
 have hle:=f0 1 i.price i.b.buys
 unfold zDv
 refine⟨i,rfl,rfl,rfl,rfl,rfl,rfl,rfl,rfl,rfl,rfl,rfl,⟨⟨ha,by omega⟩,by omega,by omega,by omega⟩,fun _ _=> ?_⟩
 simp only[List.length_map,yR,uS]
 refine Cv.cnd.mk (fun c=> ?_) (fun c=> ?_)
 ·obtain⟨r,hr⟩:=zHc c
  have hlt:=(List.getElem?_eq_some_iff.1 hr).1
  have e:i.b.queueF 1 i.price=(i.b,r.queue):=by rw[Book.queueF,if_pos (by rw[uS];exact c),uS,zX hr]
  rw[e]
  refine⟨⟨by omega,by omega⟩,r.queue,elA (by simpa using hr) (by simp[zA]) rfl,(),?_⟩
  (repeat'(first|exact trivial|exact rfl|apply And.intro))
 ·have e:i.b.queueF 1 i.price=({i.b with a:=i.b.newQ.2.2,buys:=i.b.ins 1 i.price,spare:=i.b.newQ.2.1},i.b.newQ.1):=by
   rw[Book.queueF,if_neg (by rw[uS,c];decide),if_pos rfl]
  have hins:List.map zA (i.b.ins 1 i.price)=List.take (zP 1 i.b.buys i.price) (List.map zA i.b.buys)++zA ⟨i.price,i.b.newQ.1⟩::List.drop (zP 1 i.b.buys i.price) (List.map zA i.b.buys):=by
   rw[Book.ins,uS,List.map_append,List.map_cons,List.map_take,List.map_drop]
  rw[e]
  refine zU (fun d=> ?_) (fun d=> ?_)
  ·have w:IntKind.i64.wrap ((i.b.spare.length:Int)-1)=((i.b.spare.length-1:Nat):Int):=by rw[w64 (by omega)];omega
   rw[w]
   simp only[Int.toNat_natCast]
   obtain⟨q,hq⟩:=yD (l:=i.b.spare) (i:=i.b.spare.length-1) (by omega)
   have eq:i.b.newQ=(q,i.b.spare.take (i.b.spare.length-1),i.b.a):=by rw[Book.newQ,if_neg (by omega),zX hq]
   rw[eq]at hins ⊢
   refine⟨⟨by omega,by omega⟩,q,elI hq,⟨by omega,by omega⟩,trivial,⟨i.b.buys.map zA,zA ⟨i.price,q⟩,zP 1 i.b.buys i.price⟩,rfl,rfl,rfl,⟨by rw[List.length_map];exact hle,by rw[List.length_map];omega⟩,fun _ _=>⟨(),?_⟩⟩
   have hs:iE (i.b.spare.take (i.b.spare.length-1))=(iE i.b.spare).take (i.b.spare.length-1):=by simp only[iE,List.map_take]
   (repeat'(first|exact rfl|exact trivial|assumption|apply And.intro|refine fun(_:Unit) (_:True)=>?_|refine Exists.intro () ?_|omega|(dsimp only;omega)))
  ·have eq:i.b.newQ=((i.b.a.queues.length:Int),i.b.spare,i.b.a.openQ):=by rw[Book.newQ,if_pos (by omega)]
   rw[eq]at hins ⊢
   refine⟨i.b.a,rfl,by omega,fun _ _=>⟨trivial,⟨i.b.buys.map zA,zA ⟨i.price,i.b.a.queues.length⟩,zP 1 i.b.buys i.price⟩,rfl,rfl,rfl,⟨by rw[List.length_map];exact hle,by rw[List.length_map];omega⟩,fun _ _=>⟨(),?_⟩⟩⟩
   (repeat'(first|exact rfl|exact trivial|assumption|apply And.intro|refine fun(_:Unit) (_:True)=>?_|refine Exists.intro () ?_|omega|(dsimp only;omega)))
theorem nD:jC Tryz.prog 139=some (147,2,16,#[.int .i64 0,.int .i64 0]):=by kernel_rfl
theorem zMj:insRC.ok Tryz.prog 148:=
 insX_ok (tS:=139) (tI:=3) (fO:=152) (fR:=153) (z:= #[.int .i64 0,.int .i64 0]) mixed Tryz.func148 rfl (by kernel_rfl) (by kernel_rfl) (by kernel_rfl) (by kernel_rfl) nD rfl (by decide) (by decide) (by kernel_rfl) Tryz.underlying3
  (zZw (tS:=139) (tB:=4) Tryz.func152 (by kernel_rfl) (by kernel_rfl) (by kernel_rfl) (by kernel_rfl) nD) (fun s sn sk i v vn vk w R=>by kernel_rfl)
theorem zQk:queue1C.ok Tryz.prog 137:=zVb (gokc tA (gokc zEh (gokc zMj gok0))) z1o
theorem z5g (i:BkP) (h:find2C.cnd i):zJp i:=by
 obtain⟨_,h1,h2,_⟩:i.b.small:=h
 unfold zJp
 simp only[List.length_map,gE]
 refine⟨0,rfl,fun j=>j≤i.b.sells.length∧∀k<j,∀r,i.b.sells[k]? =some r→btr 2 r.price i.price=true,fun j=>i.b.sells.length-j,⟨by omega,fun k hk=>by omega⟩,?_⟩
 rintro j ⟨h3,h4⟩
 refine zU (fun hj=> ?_) (fun hj=> ?_)
 ·obtain⟨r,hr⟩:=yD (l:=i.b.sells) (i:=j) (by omega)
  refine⟨⟨by omega,by omega⟩,r.price,elA hr (by simp[zA]) rfl,⟨2,r.price,i.price⟩,rfl,rfl,rfl,trivial,fun _ _=> ?_⟩
  dsimp only
  refine Cv.cnd.mk (fun e=>⟨j+1,by rw[w64 (by omega)];rfl,⟨by omega,fun k hk x hx=> ?_⟩,by(first|omega|(dsimp only;omega)),by(repeat'(first|exact trivial|exact rfl|apply And.intro))⟩) (fun e=>zU (fun _=> ?_) (fun c=>absurd hj c))
  ·rcases Nat.lt_or_ge k j with hk'|hk'
   ·exact h4 k hk' x hx
   ·obtain rfl:k=j:=by omega
    rw[hr]at hx;cases hx;exact e
  ·have en:zP 2 i.b.sells i.price=j:=h9 h3 h4 fun x hx=>by rw[hr]at hx;cases hx;exact e
   have eb:xH 2 i.b.sells i.price=(r.price==i.price):=by rw[xH,en,hr];exact(zFb _ _).symm
   refine⟨⟨by omega,by omega⟩,r.price,elA hr (by simp[zA]) rfl,(),by rw[en],eb,?_⟩
   (repeat'(first|exact trivial|exact rfl|apply And.intro))
 ·have en:zP 2 i.b.sells i.price=j:=h9 h3 h4 fun x hx=>by have:=(List.getElem?_eq_some_iff.1 hx).1;omega
  have eb:xH 2 i.b.sells i.price=false:=by rw[xH,en,List.getElem?_eq_none (by omega)]
  refine zU (fun c=>absurd c hj) (fun _=>⟨(),by rw[en],eb,?_⟩)
  (repeat'(first|exact trivial|exact rfl|apply And.intro))
theorem tM:find2C.ok Tryz.prog 126:=z0c (gokc vZ gok0) z5g
theorem z7m (i:LdI) (h:lead2C.cnd i):zJk i:=by
 obtain⟨⟨ha,_⟩,h1,h2,_⟩:i.b.small:=h
 unfold zJk tP
 have no (e:i.b.untop 2=i.b.a):AObj.adt Arena 3 zD (i.b.untop 2)=zM i.b 1:=by rw[e];rfl
 refine Cv.cnd.mk (fun c=> ?_) (fun c=>⟨(),?_⟩)
 ·have c:i.b.hasF 2=true:=c
  refine⟨qI _ _,(pget i.b.at_ i.b.top2).isSome,_,_,_,zAd _ _,⟨qI _ _,(pget i.b.at_ i.b.top2).isSome,_,_,_,zAd _ _,⟨rfl,rfl,rfl,trivial⟩,rfl,trivial⟩,rfl,trivial,Cv.cnd.mk (fun d=>Cv.cnd.mk (fun e=> ?_) (fun e=>⟨(),?_⟩)) (fun d=>⟨(),?_⟩)⟩
  ·obtain⟨o,ho⟩:=Option.isSome_iff_exists.1 d
   have e:o.side=2:=by rw[ho]at e;simpa using e
   have eu:i.b.untop 2=i.b.a.topF o.slot false:=by
    have ht:pget i.b.at_ (i.b.topI 2)=some o:=ho
    rw[Book.untop,if_pos c,ht];dsimp only;rw[if_pos e]
   refine⟨⟨i.b.a,o.slot,false⟩,by rw[ho];rfl,rfl,rfl,ha,fun _ _=>⟨(),?_⟩⟩
   rw[eu];(repeat'(first|exact trivial|exact rfl|apply And.intro))
  ·obtain⟨o,ho⟩:=Option.isSome_iff_exists.1 d
   have e:¬o.side=2:=by rw[ho]at e;simpa using e
   have ht:pget i.b.at_ (i.b.topI 2)=some o:=ho
   rw[no (by rw[Book.untop,if_pos c,ht];dsimp only;rw[if_neg e])];(repeat'(first|exact trivial|exact rfl|apply And.intro))
  ·have ht:pget i.b.at_ (i.b.topI 2)=none:=by
    show pget i.b.at_ i.b.top2=none
    simpa using d
   rw[no (by rw[Book.untop,if_pos c,ht])];(repeat'(first|exact trivial|exact rfl|apply And.intro))
 ·have c:¬i.b.hasF 2=true:=by rw[show i.b.hasF 2=i.b.has2 from rfl,c];decide
  rw[no (by rw[Book.untop,if_neg c])];(repeat'(first|exact trivial|exact rfl|apply And.intro))
theorem zXk:lead2C.ok Tryz.prog 135:=zZl (gokc zOm gok0) z7m
theorem z2d (i:BkP) (h:queue2C.cnd i):zEd i:=by
 obtain⟨⟨ha,_⟩,ha',h1,h2,h3⟩:i.b.fit:=h
 have hle:=f0 2 i.price i.b.sells
 unfold zEd
 refine⟨i,rfl,rfl,rfl,rfl,rfl,rfl,rfl,rfl,rfl,rfl,rfl,⟨⟨ha,by omega⟩,by omega,by omega,by omega⟩,fun _ _=> ?_⟩
 simp only[List.length_map,yR,gE]
 refine Cv.cnd.mk (fun c=> ?_) (fun c=> ?_)
 ·obtain⟨r,hr⟩:=zHc c
  have hlt:=(List.getElem?_eq_some_iff.1 hr).1
  have e:i.b.queueF 2 i.price=(i.b,r.queue):=by rw[Book.queueF,if_pos (by rw[gE];exact c),gE,zX hr]
  rw[e]
  refine⟨⟨by omega,by omega⟩,r.queue,elA (by simpa using hr) (by simp[zA]) rfl,(),?_⟩
  (repeat'(first|exact trivial|exact rfl|apply And.intro))
 ·have e:i.b.queueF 2 i.price=({i.b with a:=i.b.newQ.2.2,sells:=i.b.ins 2 i.price,spare:=i.b.newQ.2.1},i.b.newQ.1):=by
   rw[Book.queueF,if_neg (by rw[gE,c];decide),if_neg (by decide)]
  have hins:List.map zA (i.b.ins 2 i.price)=List.take (zP 2 i.b.sells i.price) (List.map zA i.b.sells)++zA ⟨i.price,i.b.newQ.1⟩::List.drop (zP 2 i.b.sells i.price) (List.map zA i.b.sells):=by
   rw[Book.ins,gE,List.map_append,List.map_cons,List.map_take,List.map_drop]
  rw[e]
  refine zU (fun d=> ?_) (fun d=> ?_)
  ·have w:IntKind.i64.wrap ((i.b.spare.length:Int)-1)=((i.b.spare.length-1:Nat):Int):=by rw[w64 (by omega)];omega
   rw[w]
   simp only[Int.toNat_natCast]
   obtain⟨q,hq⟩:=yD (l:=i.b.spare) (i:=i.b.spare.length-1) (by omega)
   have eq:i.b.newQ=(q,i.b.spare.take (i.b.spare.length-1),i.b.a):=by rw[Book.newQ,if_neg (by omega),zX hq]
   rw[eq]at hins ⊢
   refine⟨⟨by omega,by omega⟩,q,elI hq,⟨by omega,by omega⟩,trivial,⟨i.b.sells.map zA,zA ⟨i.price,q⟩,zP 2 i.b.sells i.price⟩,rfl,rfl,rfl,⟨by rw[List.length_map];exact hle,by rw[List.length_map];omega⟩,fun _ _=>⟨(),?_⟩⟩
   have hs:iE (i.b.spare.take (i.b.spare.length-1))=(iE i.b.spare).take (i.b.spare.length-1):=by simp only[iE,List.map_take]
   (repeat'(first|exact rfl|exact trivial|assumption|apply And.intro|refine fun(_:Unit) (_:True)=>?_|refine Exists.intro () ?_|omega|(dsimp only;omega)))
  ·have eq:i.b.newQ=((i.b.a.queues.length:Int),i.b.spare,i.b.a.openQ):=by rw[Book.newQ,if_pos (by omega)]
   rw[eq]at hins ⊢
   refine⟨i.b.a,rfl,by omega,fun _ _=>⟨trivial,⟨i.b.sells.map zA,zA ⟨i.price,i.b.a.queues.length⟩,zP 2 i.b.sells i.price⟩,rfl,rfl,rfl,⟨by rw[List.length_map];exact hle,by rw[List.length_map];omega⟩,fun _ _=>⟨(),?_⟩⟩⟩
   (repeat'(first|exact rfl|exact trivial|assumption|apply And.intro|refine fun(_:Unit) (_:True)=>?_|refine Exists.intro () ?_|omega|(dsimp only;omega)))
theorem zRe:queue2C.ok Tryz.prog 137:=zUd (gokc tM (gokc zEh (gokc zMj gok0))) z2d
open Go Cv Go.Proofs
structure BaI where
 b:Book
 id:Int
 price:Int
 qty:Int
def Book.leads (b:Book) (s price:Int):Bool:=match b.rungs s with
 |[]=>true
 |r::_=>btr s price r.price
def Book.led (b:Book) (id s price:Int):Book:=if b.leads s price=true then b.leadF id s else b
def Book.stand (b:Book) (s id price qty:Int):Book:=
 let b2:=(b.led id s price).queueF s price
 let x:=b2.1.a.push b2.2 id qty (b.leads s price)
 {b2.1 with a:=x.1,at_:=gL id ⟨s,price,x.2.1⟩ b2.1.at_}
def Book.addF (b:Book) (s id price qty:Int):Book×Int:=
 if qty<1∨1000000<qty then(b,24)else if(pget b.at_ id).isSome=true then(b,25)else if 250≤b.at_.length then(b,13)else(b.stand s id price qty,0)
def zWe (s:Int):Con:=con1 BaI (fun i=>[.nm 0 0,zC i.id,zC s,zC i.price,zC i.qty]) (fun i=>[yA i.b]) (fun i=>i.b.fit) (fun i=>zC (i.b.addF s i.id i.price i.qty).2) (fun i=>[yA (i.b.addF s i.id i.price i.qty).1])
def z3v:List (Nat×SAnn):=[(44,bj 14)]
def badd1C:Con:=zWe 1
def badd2C:Con:=zWe 2
structure BaJ where
 i:BaI
 s:Bool
def baddC:Con:=con1 BaJ (fun j=>[.nm 0 0,zC j.i.id,zC (zB j.s),zC j.i.price,zC j.i.qty]) (fun j=>[yA j.i.b]) (fun j=>j.i.b.fit) (fun j=>zC (j.i.b.addF (zB j.s) j.i.id j.i.price j.i.qty).2) (fun j=>[yA (j.i.b.addF (zB j.s) j.i.id j.i.price j.i.qty).1])
structure SaI where
 s:MSt
 inst:Int
 id:Int
 sd:Bool
 price:Int
 qty:Int
def MSt.bookAt (s:MSt) (n:Int):Book:=s.books.getD n.toNat book0
def MSt.addF (i:SaI):MSt×Int:=
 if i.inst<0∨i.s.books.length≤i.inst then(i.s,20)else if(gZ i.s.wh i.id).isSome=true then(i.s,25)else if 250≤i.s.wh.length then(i.s,13)else if i.s.p.price i.inst i.price≠0 then(i.s,i.s.p.price i.inst i.price)
 else
  let x:=(i.s.bookAt i.inst).addF (zB i.sd) i.id i.price i.qty
  ({i.s with books:=i.s.books.set i.inst.toNat x.1,wh:=if x.2=0 then bR i.id i.inst i.s.wh else i.s.wh},x.2)
@[reducible] def MSt.fit (s:MSt):Prop:=s.p.small∧s.books.length≤1000000∧∀b∈s.books,b.fit
def saddC:Con:=con1 SaI (fun i=>[.nm 0 0,zC i.inst,zC i.id,zC (zB i.sd),zC i.price,zC i.qty]) (fun i=>[zE i.s]) (fun i=>i.s.fit) (fun i=>zC (MSt.addF i).2) (fun i=>[zE (MSt.addF i).1])
open Go Cv Go.Proofs
@[reducible] def aD (n:Int) (n_1:Int) (n_2:Int):AObj:=Sx.AObj.cells [V.d (D.v (.int .i64 n)),V.d (D.v (.int .i64 n_1)),V.d (D.v (.int .i64 n_2))] (165:Nat)
@[reducible] def bU (i:BaI) (b:Bool):AObj:=Sx.AObj.cells (uR (k7 (0:Nat) (1:Nat) (6:Nat)) [V.nm (1:Nat) (0:Nat),V.own (2:Nat),V.own (3:Nat),V.mp (4:Nat),zC i.b.top1,zC i.b.top2,V.own (5:Nat),yJ i.b.has1,yJ i.b.has2]) (144:TypeId)
@[reducible] def rI (i:BaI) (b:Bool) (o:Unit):Prop:=∃(o:Unit),(i.b.addF 1 i.id i.price i.qty).snd=24∧(i.b.addF 1 i.id i.price i.qty).fst.top1=i.b.top1∧(i.b.addF 1 i.id i.price i.qty).fst.top2=i.b.top2∧(i.b.addF 1 i.id i.price i.qty).fst.has1=i.b.has1∧(i.b.addF 1 i.id i.price i.qty).fst.has2=i.b.has2∧AObj.adt Arena 3 zD (i.b.addF 1 i.id i.price i.qty).fst.a=AObj.adt Arena 3 zD i.b.a∧List.map zA (i.b.addF 1 i.id i.price i.qty).fst.buys=List.map zA i.b.buys∧List.map zA (i.b.addF 1 i.id i.price i.qty).fst.sells=List.map zA i.b.sells∧atE (i.b.addF 1 i.id i.price i.qty).fst.at_=atE i.b.at_∧iE (i.b.addF 1 i.id i.price i.qty).fst.spare=iE i.b.spare∧True
def zLc (i:BaI):Prop:=
 (∀(p:Value×List D),p∈atE i.b.at_→like (Value.int IntKind.i64 i.id) p.fst=true)∧∃(b:Bool),∃(n:Int),∃(n_1:Int),∃(n_2:Int),(x0 (Value.int IntKind.i64 i.id) (atE i.b.at_)=some [D.v (.int .i64 n),D.v (.int .i64 n_1),D.v (.int .i64 n_2)]∧b=true∨x0 (Value.int IntKind.i64 i.id) (atE i.b.at_)=none∧[D.v (.int .i64 n),D.v (.int .i64 n_1),D.v (.int .i64 n_2)]=[D.v (.int .i64 0),D.v (.int .i64 0),D.v (.int .i64 0)]∧b=false)∧∃(i_1:Int),i_1=1∧True∧∀(o:Unit),True→cnd (!(decide (i_1=1)||decide (i_1=2))) (∃(o:Unit),(i.b.addF 1 i.id i.price i.qty).snd=21∧(i.b.addF 1 i.id i.price i.qty).fst.top1=i.b.top1∧(i.b.addF 1 i.id i.price i.qty).fst.top2=i.b.top2∧(i.b.addF 1 i.id i.price i.qty).fst.has1=i.b.has1∧(i.b.addF 1 i.id i.price i.qty).fst.has2=i.b.has2∧AObj.adt Arena 3 zD (i.b.addF 1 i.id i.price i.qty).fst.a=AObj.adt Arena 3 zD i.b.a∧List.map zA (i.b.addF 1 i.id i.price i.qty).fst.buys=List.map zA i.b.buys∧List.map zA (i.b.addF 1 i.id i.price i.qty).fst.sells=List.map zA i.b.sells∧atE (i.b.addF 1 i.id i.price i.qty).fst.at_=atE i.b.at_∧iE (i.b.addF 1 i.id i.price i.qty).fst.spare=iE i.b.spare∧True) (cnd (decide (i.qty<1)) (rI i b o) (cnd (decide (i.qty>1000000)) (rI i b o) (cnd b (∃(o:Unit),(i.b.addF 1 i.id i.price i.qty).snd=25∧(i.b.addF 1 i.id i.price i.qty).fst.top1=i.b.top1∧(i.b.addF 1 i.id i.price i.qty).fst.top2=i.b.top2∧(i.b.addF 1 i.id i.price i.qty).fst.has1=i.b.has1∧(i.b.addF 1 i.id i.price i.qty).fst.has2=i.b.has2∧AObj.adt Arena 3 zD (i.b.addF 1 i.id i.price i.qty).fst.a=AObj.adt Arena 3 zD i.b.a∧List.map zA (i.b.addF 1 i.id i.price i.qty).fst.buys=List.map zA i.b.buys∧List.map zA (i.b.addF 1 i.id i.price i.qty).fst.sells=List.map zA i.b.sells∧atE (i.b.addF 1 i.id i.price i.qty).fst.at_=atE i.b.at_∧iE (i.b.addF 1 i.id i.price i.qty).fst.spare=iE i.b.spare∧True) (cnd (decide ((↑(atE i.b.at_).length:Int)≥250)) (∃(o:Unit),(i.b.addF 1 i.id i.price i.qty).snd=13∧(i.b.addF 1 i.id i.price i.qty).fst.top1=i.b.top1∧(i.b.addF 1 i.id i.price i.qty).fst.top2=i.b.top2∧(i.b.addF 1 i.id i.price i.qty).fst.has1=i.b.has1∧(i.b.addF 1 i.id i.price i.qty).fst.has2=i.b.has2∧AObj.adt Arena 3 zD (i.b.addF 1 i.id i.price i.qty).fst.a=AObj.adt Arena 3 zD i.b.a∧List.map zA (i.b.addF 1 i.id i.price i.qty).fst.buys=List.map zA i.b.buys∧List.map zA (i.b.addF 1 i.id i.price i.qty).fst.sells=List.map zA i.b.sells∧atE (i.b.addF 1 i.id i.price i.qty).fst.at_=atE i.b.at_∧iE (i.b.addF 1 i.id i.price i.qty).fst.spare=iE i.b.spare∧True) (∃(i0:Bool),∃(I:Bool→Prop),cnd ((↑(List.map zA i.b.buys).length:Int)==0) (∃(i':Bool),i'=true∧I i'∧aD n n_1 n_2=aD n n_1 n_2∧bU i b=bU i b∧AObj.adt Arena 3 zD i.b.a=AObj.adt Arena 3 zD i.b.a∧AObj.own 147 2 (List.map zA i.b.buys)=AObj.own 147 2 (List.map zA i.b.buys)∧AObj.own 147 2 (List.map zA i.b.sells)=AObj.own 147 2 (List.map zA i.b.sells)∧Sx.AObj.map (atE i.b.at_)=Sx.AObj.map (atE i.b.at_)∧AObj.own 3 1 (iE i.b.spare)=AObj.own 3 1 (iE i.b.spare)) (((0:Int)≤(0:Int)∧0<(↑(List.map zA i.b.buys).length:Int))∧∃(n_3:Int),zI (List.map zA i.b.buys) (Int.toNat 0) ((0:Nat)+(0:Nat)) 1=some [D.v (.int .i64 n_3)]∧∃(i_2:I3'),i_2.side=1∧i_2.x=i.price∧i_2.y=n_3∧True∧∀(o:Unit),True→∃(i':Bool),i'=btr i_2.side i_2.x i_2.y∧I i'∧aD n n_1 n_2=aD n n_1 n_2∧bU i b=bU i b∧AObj.adt Arena 3 zD i.b.a=AObj.adt Arena 3 zD i.b.a∧AObj.own 147 2 (List.map zA i.b.buys)=AObj.own 147 2 (List.map zA i.b.buys)∧AObj.own 147 2 (List.map zA i.b.sells)=AObj.own 147 2 (List.map zA i.b.sells)∧Sx.AObj.map (atE i.b.at_)=Sx.AObj.map (atE i.b.at_)∧AObj.own 3 1 (iE i.b.spare)=AObj.own 3 1 (iE i.b.spare))∧∀(i_2:Bool),I i_2→cnd i_2 (∃(i_3:LdI),i_3.id=i.id∧(1:Int)=(1:Int)∧i_3.b.top1=i.b.top1∧i_3.b.top2=i.b.top2∧i_3.b.has1=i.b.has1∧i_3.b.has2=i.b.has2∧AObj.adt Arena 3 zD i_3.b.a=AObj.adt Arena 3 zD i.b.a∧List.map zA i_3.b.buys=List.map zA i.b.buys∧List.map zA i_3.b.sells=List.map zA i.b.sells∧atE i_3.b.at_=atE i.b.at_∧iE i_3.b.spare=iE i.b.spare∧((i_3.b.a.slots.length≤1000000∧i_3.b.a.queues.length≤1000000)∧i_3.b.buys.length≤1000000∧i_3.b.sells.length≤1000000∧i_3.b.spare.length≤1000000)∧∀(o:Unit),True→∃(i_4:BkP),(1:Int)=(1:Int)∧i_4.price=i.price∧i_4.b.top1=i_3.id∧i_4.b.top2=i_3.b.top2∧i_4.b.has1=true∧i_4.b.has2=i_3.b.has2∧AObj.adt Arena 3 zD i_4.b.a=AObj.adt Arena 3 zD (i_3.b.untop 1)∧List.map zA i_4.b.buys=List.map zA i_3.b.buys∧List.map zA i_4.b.sells=List.map zA i_3.b.sells∧atE i_4.b.at_=atE i_3.b.at_∧iE i_4.b.spare=iE i_3.b.spare∧((i_4.b.a.slots.length≤1000000∧(i_4.b.a.free≠0→∃(s:Slot),s∈i_4.b.a.slots∧s.used=false)∧∀(q:x3),q∈i_4.b.a.queues→q.last=(-1)∨0≤q.last∧q.last<(↑i_4.b.a.slots.length:Int))∧i_4.b.a.queues.length≤100000∧i_4.b.buys.length≤100000∧i_4.b.sells.length≤100000∧i_4.b.spare.length≤100000)∧∀(o:Unit),True→True∧∃(i_5:PuI),i_5.n=(i_4.b.queueF 1 i_4.price).snd∧i_5.id=i.id∧i_5.qty=i.qty∧i_5.top=i_2∧AObj.adt Arena 3 zD i_5.a=AObj.adt Arena 3 zD (i_4.b.queueF 1 i_4.price).fst.a∧(i_5.a.slots.length≤1000000∧(i_5.a.free≠0→∃(s:Slot),s∈i_5.a.slots∧s.used=false)∧∀(q:x3),q∈i_5.a.queues→q.last=(-1)∨0≤q.last∧q.last<(↑i_5.a.slots.length:Int))∧∀(o:Unit),True→(∀(p:Value×List D),p∈atE (i_4.b.queueF 1 i_4.price).fst.at_→like (Value.int IntKind.i64 i.id) p.fst=true)∧∃(o:Unit),(i.b.addF 1 i.id i.price i.qty).snd=0∧(i.b.addF 1 i.id i.price i.qty).fst.top1=(i_4.b.queueF 1 i_4.price).fst.top1∧(i.b.addF 1 i.id i.price i.qty).fst.top2=(i_4.b.queueF 1 i_4.price).fst.top2∧(i.b.addF 1 i.id i.price i.qty).fst.has1=(i_4.b.queueF 1 i_4.price).fst.has1∧(i.b.addF 1 i.id i.price i.qty).fst.has2=(i_4.b.queueF 1 i_4.price).fst.has2∧AObj.adt Arena 3 zD (i.b.addF 1 i.id i.price i.qty).fst.a=AObj.adt Arena 3 zD (i_5.a.push i_5.n i_5.id i_5.qty i_5.top).fst∧List.map zA (i.b.addF 1 i.id i.price i.qty).fst.buys=List.map zA (i_4.b.queueF 1 i_4.price).fst.buys∧List.map zA (i.b.addF 1 i.id i.price i.qty).fst.sells=List.map zA (i_4.b.queueF 1 i_4.price).fst.sells∧atE (i.b.addF 1 i.id i.price i.qty).fst.at_=jE (Value.int IntKind.i64 i.id) [D.v (.int .i64 1),D.v (.int .i64 i.price),D.v (.int .i64 (i_5.a.push i_5.n i_5.id i_5.qty i_5.top).snd.fst)] (atE (i_4.b.queueF 1 i_4.price).fst.at_)∧iE (i.b.addF 1 i.id i.price i.qty).fst.spare=iE (i_4.b.queueF 1 i_4.price).fst.spare∧True) (∃(i_3:BkP),(1:Int)=(1:Int)∧i_3.price=i.price∧i_3.b.top1=i.b.top1∧i_3.b.top2=i.b.top2∧i_3.b.has1=i.b.has1∧i_3.b.has2=i.b.has2∧AObj.adt Arena 3 zD i_3.b.a=AObj.adt Arena 3 zD i.b.a∧List.map zA i_3.b.buys=List.map zA i.b.buys∧List.map zA i_3.b.sells=List.map zA i.b.sells∧atE i_3.b.at_=atE i.b.at_∧iE i_3.b.spare=iE i.b.spare∧((i_3.b.a.slots.length≤1000000∧(i_3.b.a.free≠0→∃(s:Slot),s∈i_3.b.a.slots∧s.used=false)∧∀(q:x3),q∈i_3.b.a.queues→q.last=(-1)∨0≤q.last∧q.last<(↑i_3.b.a.slots.length:Int))∧i_3.b.a.queues.length≤100000∧i_3.b.buys.length≤100000∧i_3.b.sells.length≤100000∧i_3.b.spare.length≤100000)∧∀(o:Unit),True→True∧∃(i_4:PuI),i_4.n=(i_3.b.queueF 1 i_3.price).snd∧i_4.id=i.id∧i_4.qty=i.qty∧i_4.top=i_2∧AObj.adt Arena 3 zD i_4.a=AObj.adt Arena 3 zD (i_3.b.queueF 1 i_3.price).fst.a∧(i_4.a.slots.length≤1000000∧(i_4.a.free≠0→∃(s:Slot),s∈i_4.a.slots∧s.used=false)∧∀(q:x3),q∈i_4.a.queues→q.last=(-1)∨0≤q.last∧q.last<(↑i_4.a.slots.length:Int))∧∀(o:Unit),True→(∀(p:Value×List D),p∈atE (i_3.b.queueF 1 i_3.price).fst.at_→like (Value.int IntKind.i64 i.id) p.fst=true)∧∃(o:Unit),(i.b.addF 1 i.id i.price i.qty).snd=0∧(i.b.addF 1 i.id i.price i.qty).fst.top1=(i_3.b.queueF 1 i_3.price).fst.top1∧(i.b.addF 1 i.id i.price i.qty).fst.top2=(i_3.b.queueF 1 i_3.price).fst.top2∧(i.b.addF 1 i.id i.price i.qty).fst.has1=(i_3.b.queueF 1 i_3.price).fst.has1∧(i.b.addF 1 i.id i.price i.qty).fst.has2=(i_3.b.queueF 1 i_3.price).fst.has2∧AObj.adt Arena 3 zD (i.b.addF 1 i.id i.price i.qty).fst.a=AObj.adt Arena 3 zD (i_4.a.push i_4.n i_4.id i_4.qty i_4.top).fst∧List.map zA (i.b.addF 1 i.id i.price i.qty).fst.buys=List.map zA (i_3.b.queueF 1 i_3.price).fst.buys∧List.map zA (i.b.addF 1 i.id i.price i.qty).fst.sells=List.map zA (i_3.b.queueF 1 i_3.price).fst.sells∧atE (i.b.addF 1 i.id i.price i.qty).fst.at_=jE (Value.int IntKind.i64 i.id) [D.v (.int .i64 1),D.v (.int .i64 i.price),D.v (.int .i64 (i_4.a.push i_4.n i_4.id i_4.qty i_4.top).snd.fst)] (atE (i_3.b.queueF 1 i_3.price).fst.at_)∧iE (i.b.addF 1 i.id i.price i.qty).fst.spare=iE (i_3.b.queueF 1 i_3.price).fst.spare∧True))))))
theorem z0i (hG:GOk Tryz.prog ([(80,bisC),(111,bbetterC),(135,lead1C),(137,queue1C),(136,apushC)])) (h:∀(i:BaI),badd1C.cnd i→zLc i):badd1C.ok Tryz.prog 118:=okw mixed hG 0 (fun _=>z3v) (fun _=>[]) [0] Tryz.func118 h
@[reducible] def mD (n:Int) (n_1:Int) (n_2:Int):AObj:=Sx.AObj.cells [V.d (D.v (.int .i64 n)),V.d (D.v (.int .i64 n_1)),V.d (D.v (.int .i64 n_2))] (165:Nat)
@[reducible] def aH (i:BaI) (b:Bool):AObj:=Sx.AObj.cells (uR (k7 (0:Nat) (1:Nat) (6:Nat)) [V.nm (1:Nat) (0:Nat),V.own (2:Nat),V.own (3:Nat),V.mp (4:Nat),zC i.b.top1,zC i.b.top2,V.own (5:Nat),yJ i.b.has1,yJ i.b.has2]) (144:TypeId)
@[reducible] def eM (i:BaI) (b:Bool) (o:Unit):Prop:=∃(o:Unit),(i.b.addF 2 i.id i.price i.qty).snd=24∧(i.b.addF 2 i.id i.price i.qty).fst.top1=i.b.top1∧(i.b.addF 2 i.id i.price i.qty).fst.top2=i.b.top2∧(i.b.addF 2 i.id i.price i.qty).fst.has1=i.b.has1∧(i.b.addF 2 i.id i.price i.qty).fst.has2=i.b.has2∧AObj.adt Arena 3 zD (i.b.addF 2 i.id i.price i.qty).fst.a=AObj.adt Arena 3 zD i.b.a∧List.map zA (i.b.addF 2 i.id i.price i.qty).fst.buys=List.map zA i.b.buys∧List.map zA (i.b.addF 2 i.id i.price i.qty).fst.sells=List.map zA i.b.sells∧atE (i.b.addF 2 i.id i.price i.qty).fst.at_=atE i.b.at_∧iE (i.b.addF 2 i.id i.price i.qty).fst.spare=iE i.b.spare∧True
def zJt (i:BaI):Prop:=
 (∀(p:Value×List D),p∈atE i.b.at_→like (Value.int IntKind.i64 i.id) p.fst=true)∧∃(b:Bool),∃(n:Int),∃(n_1:Int),∃(n_2:Int),(x0 (Value.int IntKind.i64 i.id) (atE i.b.at_)=some [D.v (.int .i64 n),D.v (.int .i64 n_1),D.v (.int .i64 n_2)]∧b=true∨x0 (Value.int IntKind.i64 i.id) (atE i.b.at_)=none∧[D.v (.int .i64 n),D.v (.int .i64 n_1),D.v (.int .i64 n_2)]=[D.v (.int .i64 0),D.v (.int .i64 0),D.v (.int .i64 0)]∧b=false)∧∃(i_1:Int),i_1=2∧True∧∀(o:Unit),True→cnd (!(decide (i_1=1)||decide (i_1=2))) (∃(o:Unit),(i.b.addF 2 i.id i.price i.qty).snd=21∧(i.b.addF 2 i.id i.price i.qty).fst.top1=i.b.top1∧(i.b.addF 2 i.id i.price i.qty).fst.top2=i.b.top2∧(i.b.addF 2 i.id i.price i.qty).fst.has1=i.b.has1∧(i.b.addF 2 i.id i.price i.qty).fst.has2=i.b.has2∧AObj.adt Arena 3 zD (i.b.addF 2 i.id i.price i.qty).fst.a=AObj.adt Arena 3 zD i.b.a∧List.map zA (i.b.addF 2 i.id i.price i.qty).fst.buys=List.map zA i.b.buys∧List.map zA (i.b.addF 2 i.id i.price i.qty).fst.sells=List.map zA i.b.sells∧atE (i.b.addF 2 i.id i.price i.qty).fst.at_=atE i.b.at_∧iE (i.b.addF 2 i.id i.price i.qty).fst.spare=iE i.b.spare∧True) (cnd (decide (i.qty<1)) (eM i b o) (cnd (decide (i.qty>1000000)) (eM i b o) (cnd b (∃(o:Unit),(i.b.addF 2 i.id i.price i.qty).snd=25∧(i.b.addF 2 i.id i.price i.qty).fst.top1=i.b.top1∧(i.b.addF 2 i.id i.price i.qty).fst.top2=i.b.top2∧(i.b.addF 2 i.id i.price i.qty).fst.has1=i.b.has1∧(i.b.addF 2 i.id i.price i.qty).fst.has2=i.b.has2∧AObj.adt Arena 3 zD (i.b.addF 2 i.id i.price i.qty).fst.a=AObj.adt Arena 3 zD i.b.a∧List.map zA (i.b.addF 2 i.id i.price i.qty).fst.buys=List.map zA i.b.buys∧List.map zA (i.b.addF 2 i.id i.price i.qty).fst.sells=List.map zA i.b.sells∧atE (i.b.addF 2 i.id i.price i.qty).fst.at_=atE i.b.at_∧iE (i.b.addF 2 i.id i.price i.qty).fst.spare=iE i.b.spare∧True) (cnd (decide ((↑(atE i.b.at_).length:Int)≥250)) (∃(o:Unit),(i.b.addF 2 i.id i.price i.qty).snd=13∧(i.b.addF 2 i.id i.price i.qty).fst.top1=i.b.top1∧(i.b.addF 2 i.id i.price i.qty).fst.top2=i.b.top2∧(i.b.addF 2 i.id i.price i.qty).fst.has1=i.b.has1∧(i.b.addF 2 i.id i.price i.qty).fst.has2=i.b.has2∧AObj.adt Arena 3 zD (i.b.addF 2 i.id i.price i.qty).fst.a=AObj.adt Arena 3 zD i.b.a∧List.map zA (i.b.addF 2 i.id i.price i.qty).fst.buys=List.map zA i.b.buys∧List.map zA (i.b.addF 2 i.id i.price i.qty).fst.sells=List.map zA i.b.sells∧atE (i.b.addF 2 i.id i.price i.qty).fst.at_=atE i.b.at_∧iE (i.b.addF 2 i.id i.price i.qty).fst.spare=iE i.b.spare∧True) (∃(i0:Bool),∃(I:Bool→Prop),cnd ((↑(List.map zA i.b.sells).length:Int)==0) (∃(i':Bool),i'=true∧I i'∧mD n n_1 n_2=mD n n_1 n_2∧aH i b=aH i b∧AObj.adt Arena 3 zD i.b.a=AObj.adt Arena 3 zD i.b.a∧AObj.own 147 2 (List.map zA i.b.buys)=AObj.own 147 2 (List.map zA i.b.buys)∧AObj.own 147 2 (List.map zA i.b.sells)=AObj.own 147 2 (List.map zA i.b.sells)∧Sx.AObj.map (atE i.b.at_)=Sx.AObj.map (atE i.b.at_)∧AObj.own 3 1 (iE i.b.spare)=AObj.own 3 1 (iE i.b.spare)) (((0:Int)≤(0:Int)∧0<(↑(List.map zA i.b.sells).length:Int))∧∃(n_3:Int),zI (List.map zA i.b.sells) (Int.toNat 0) ((0:Nat)+(0:Nat)) 1=some [D.v (.int .i64 n_3)]∧∃(i_2:I3'),i_2.side=2∧i_2.x=i.price∧i_2.y=n_3∧True∧∀(o:Unit),True→∃(i':Bool),i'=btr i_2.side i_2.x i_2.y∧I i'∧mD n n_1 n_2=mD n n_1 n_2∧aH i b=aH i b∧AObj.adt Arena 3 zD i.b.a=AObj.adt Arena 3 zD i.b.a∧AObj.own 147 2 (List.map zA i.b.buys)=AObj.own 147 2 (List.map zA i.b.buys)∧AObj.own 147 2 (List.map zA i.b.sells)=AObj.own 147 2 (List.map zA i.b.sells)∧Sx.AObj.map (atE i.b.at_)=Sx.AObj.map (atE i.b.at_)∧AObj.own 3 1 (iE i.b.spare)=AObj.own 3 1 (iE i.b.spare))∧∀(i_2:Bool),I i_2→cnd i_2 (∃(i_3:LdI),i_3.id=i.id∧(2:Int)=(2:Int)∧i_3.b.top1=i.b.top1∧i_3.b.top2=i.b.top2∧i_3.b.has1=i.b.has1∧i_3.b.has2=i.b.has2∧AObj.adt Arena 3 zD i_3.b.a=AObj.adt Arena 3 zD i.b.a∧List.map zA i_3.b.buys=List.map zA i.b.buys∧List.map zA i_3.b.sells=List.map zA i.b.sells∧atE i_3.b.at_=atE i.b.at_∧iE i_3.b.spare=iE i.b.spare∧((i_3.b.a.slots.length≤1000000∧i_3.b.a.queues.length≤1000000)∧i_3.b.buys.length≤1000000∧i_3.b.sells.length≤1000000∧i_3.b.spare.length≤1000000)∧∀(o:Unit),True→∃(i_4:BkP),(2:Int)=(2:Int)∧i_4.price=i.price∧i_4.b.top1=i_3.b.top1∧i_4.b.top2=i_3.id∧i_4.b.has1=i_3.b.has1∧i_4.b.has2=true∧AObj.adt Arena 3 zD i_4.b.a=AObj.adt Arena 3 zD (i_3.b.untop 2)∧List.map zA i_4.b.buys=List.map zA i_3.b.buys∧List.map zA i_4.b.sells=List.map zA i_3.b.sells∧atE i_4.b.at_=atE i_3.b.at_∧iE i_4.b.spare=iE i_3.b.spare∧((i_4.b.a.slots.length≤1000000∧(i_4.b.a.free≠0→∃(s:Slot),s∈i_4.b.a.slots∧s.used=false)∧∀(q:x3),q∈i_4.b.a.queues→q.last=(-1)∨0≤q.last∧q.last<(↑i_4.b.a.slots.length:Int))∧i_4.b.a.queues.length≤100000∧i_4.b.buys.length≤100000∧i_4.b.sells.length≤100000∧i_4.b.spare.length≤100000)∧∀(o:Unit),True→True∧∃(i_5:PuI),i_5.n=(i_4.b.queueF 2 i_4.price).snd∧i_5.id=i.id∧i_5.qty=i.qty∧i_5.top=i_2∧AObj.adt Arena 3 zD i_5.a=AObj.adt Arena 3 zD (i_4.b.queueF 2 i_4.price).fst.a∧(i_5.a.slots.length≤1000000∧(i_5.a.free≠0→∃(s:Slot),s∈i_5.a.slots∧s.used=false)∧∀(q:x3),q∈i_5.a.queues→q.last=(-1)∨0≤q.last∧q.last<(↑i_5.a.slots.length:Int))∧∀(o:Unit),True→(∀(p:Value×List D),p∈atE (i_4.b.queueF 2 i_4.price).fst.at_→like (Value.int IntKind.i64 i.id) p.fst=true)∧∃(o:Unit),(i.b.addF 2 i.id i.price i.qty).snd=0∧(i.b.addF 2 i.id i.price i.qty).fst.top1=(i_4.b.queueF 2 i_4.price).fst.top1∧(i.b.addF 2 i.id i.price i.qty).fst.top2=(i_4.b.queueF 2 i_4.price).fst.top2∧(i.b.addF 2 i.id i.price i.qty).fst.has1=(i_4.b.queueF 2 i_4.price).fst.has1∧(i.b.addF 2 i.id i.price i.qty).fst.has2=(i_4.b.queueF 2 i_4.price).fst.has2∧AObj.adt Arena 3 zD (i.b.addF 2 i.id i.price i.qty).fst.a=AObj.adt Arena 3 zD (i_5.a.push i_5.n i_5.id i_5.qty i_5.top).fst∧List.map zA (i.b.addF 2 i.id i.price i.qty).fst.buys=List.map zA (i_4.b.queueF 2 i_4.price).fst.buys∧List.map zA (i.b.addF 2 i.id i.price i.qty).fst.sells=List.map zA (i_4.b.queueF 2 i_4.price).fst.sells∧atE (i.b.addF 2 i.id i.price i.qty).fst.at_=jE (Value.int IntKind.i64 i.id) [D.v (.int .i64 2),D.v (.int .i64 i.price),D.v (.int .i64 (i_5.a.push i_5.n i_5.id i_5.qty i_5.top).snd.fst)] (atE (i_4.b.queueF 2 i_4.price).fst.at_)∧iE (i.b.addF 2 i.id i.price i.qty).fst.spare=iE (i_4.b.queueF 2 i_4.price).fst.spare∧True) (∃(i_3:BkP),(2:Int)=(2:Int)∧i_3.price=i.price∧i_3.b.top1=i.b.top1∧i_3.b.top2=i.b.top2∧i_3.b.has1=i.b.has1∧i_3.b.has2=i.b.has2∧AObj.adt Arena 3 zD i_3.b.a=AObj.adt Arena 3 zD i.b.a∧List.map zA i_3.b.buys=List.map zA i.b.buys∧List.map zA i_3.b.sells=List.map zA i.b.sells∧atE i_3.b.at_=atE i.b.at_∧iE i_3.b.spare=iE i.b.spare∧((i_3.b.a.slots.length≤1000000∧(i_3.b.a.free≠0→∃(s:Slot),s∈i_3.b.a.slots∧s.used=false)∧∀(q:x3),q∈i_3.b.a.queues→q.last=(-1)∨0≤q.last∧q.last<(↑i_3.b.a.slots.length:Int))∧i_3.b.a.queues.length≤100000∧i_3.b.buys.length≤100000∧i_3.b.sells.length≤100000∧i_3.b.spare.length≤100000)∧∀(o:Unit),True→True∧∃(i_4:PuI),i_4.n=(i_3.b.queueF 2 i_3.price).snd∧i_4.id=i.id∧i_4.qty=i.qty∧i_4.top=i_2∧AObj.adt Arena 3 zD i_4.a=AObj.adt Arena 3 zD (i_3.b.queueF 2 i_3.price).fst.a∧(i_4.a.slots.length≤1000000∧(i_4.a.free≠0→∃(s:Slot),s∈i_4.a.slots∧s.used=false)∧∀(q:x3),q∈i_4.a.queues→q.last=(-1)∨0≤q.last∧q.last<(↑i_4.a.slots.length:Int))∧∀(o:Unit),True→(∀(p:Value×List D),p∈atE (i_3.b.queueF 2 i_3.price).fst.at_→like (Value.int IntKind.i64 i.id) p.fst=true)∧∃(o:Unit),(i.b.addF 2 i.id i.price i.qty).snd=0∧(i.b.addF 2 i.id i.price i.qty).fst.top1=(i_3.b.queueF 2 i_3.price).fst.top1∧(i.b.addF 2 i.id i.price i.qty).fst.top2=(i_3.b.queueF 2 i_3.price).fst.top2∧(i.b.addF 2 i.id i.price i.qty).fst.has1=(i_3.b.queueF 2 i_3.price).fst.has1∧(i.b.addF 2 i.id i.price i.qty).fst.has2=(i_3.b.queueF 2 i_3.price).fst.has2∧AObj.adt Arena 3 zD (i.b.addF 2 i.id i.price i.qty).fst.a=AObj.adt Arena 3 zD (i_4.a.push i_4.n i_4.id i_4.qty i_4.top).fst∧List.map zA (i.b.addF 2 i.id i.price i.qty).fst.buys=List.map zA (i_3.b.queueF 2 i_3.price).fst.buys∧List.map zA (i.b.addF 2 i.id i.price i.qty).fst.sells=List.map zA (i_3.b.queueF 2 i_3.price).fst.sells∧atE (i.b.addF 2 i.id i.price i.qty).fst.at_=jE (Value.int IntKind.i64 i.id) [D.v (.int .i64 2),D.v (.int .i64 i.price),D.v (.int .i64 (i_4.a.push i_4.n i_4.id i_4.qty i_4.top).snd.fst)] (atE (i_3.b.queueF 2 i_3.price).fst.at_)∧iE (i.b.addF 2 i.id i.price i.qty).fst.spare=iE (i_3.b.queueF 2 i_3.price).fst.spare∧True))))))
theorem zZv (hG:GOk Tryz.prog ([(80,bisC),(111,bbetterC),(135,lead2C),(137,queue2C),(136,apushC)])) (h:∀(i:BaI),badd2C.cnd i→zJt i):badd2C.ok Tryz.prog 118:=okw mixed hG 0 (fun _=>z3v) (fun _=>[]) [0] Tryz.func118 h
@[reducible] def zCc (i:SaI):Prop:=∃(o:Unit),(MSt.addF i).snd=20∧sb (MSt.addF i).fst.p.code=sb i.s.p.code∧(MSt.addF i).fst.p.tick=i.s.p.tick∧(MSt.addF i).fst.p.low=i.s.p.low∧(MSt.addF i).fst.p.high=i.s.p.high∧(MSt.addF i).fst.p.wide=i.s.p.wide∧(MSt.addF i).fst.p.rule=i.s.p.rule∧(MSt.addF i).fst.p.top=i.s.p.top∧(MSt.addF i).fst.p.least=i.s.p.least∧(MSt.addF i).fst.p.part=i.s.p.part∧AObj.objs 102 Book 6 zM (MSt.addF i).fst.books none=AObj.objs 102 Book 6 zM i.s.books none∧yB (MSt.addF i).fst.wh=yB i.s.wh∧AObj.fro 1 (iE (MSt.addF i).fst.p.months)=AObj.fro 1 (iE i.s.p.months)∧AObj.fro 1 (iE (MSt.addF i).fst.p.settle)=AObj.fro 1 (iE i.s.p.settle)∧True
def zYh (i:SaI):Prop:=
 (∀(p:Value×List D),p∈yB i.s.wh→like (Value.int IntKind.i64 i.id) p.fst=true)∧∃(b:Bool),∃(n:Int),(x0 (Value.int IntKind.i64 i.id) (yB i.s.wh)=some [D.v (.int .i64 n)]∧b=true∨x0 (Value.int IntKind.i64 i.id) (yB i.s.wh)=none∧[D.v (.int .i64 n)]=[D.v (.int .i64 0)]∧b=false)∧cnd (decide (i.inst≥0)) (cnd (!decide (i.inst<(↑i.s.books.length:Int))) (zCc i) (cnd b (∃(o:Unit),(MSt.addF i).snd=25∧sb (MSt.addF i).fst.p.code=sb i.s.p.code∧(MSt.addF i).fst.p.tick=i.s.p.tick∧(MSt.addF i).fst.p.low=i.s.p.low∧(MSt.addF i).fst.p.high=i.s.p.high∧(MSt.addF i).fst.p.wide=i.s.p.wide∧(MSt.addF i).fst.p.rule=i.s.p.rule∧(MSt.addF i).fst.p.top=i.s.p.top∧(MSt.addF i).fst.p.least=i.s.p.least∧(MSt.addF i).fst.p.part=i.s.p.part∧AObj.objs 102 Book 6 zM (MSt.addF i).fst.books none=AObj.objs 102 Book 6 zM i.s.books none∧yB (MSt.addF i).fst.wh=yB i.s.wh∧AObj.fro 1 (iE (MSt.addF i).fst.p.months)=AObj.fro 1 (iE i.s.p.months)∧AObj.fro 1 (iE (MSt.addF i).fst.p.settle)=AObj.fro 1 (iE i.s.p.settle)∧True) (cnd (decide ((↑(yB i.s.wh).length:Int)≥250)) (∃(o:Unit),(MSt.addF i).snd=13∧sb (MSt.addF i).fst.p.code=sb i.s.p.code∧(MSt.addF i).fst.p.tick=i.s.p.tick∧(MSt.addF i).fst.p.low=i.s.p.low∧(MSt.addF i).fst.p.high=i.s.p.high∧(MSt.addF i).fst.p.wide=i.s.p.wide∧(MSt.addF i).fst.p.rule=i.s.p.rule∧(MSt.addF i).fst.p.top=i.s.p.top∧(MSt.addF i).fst.p.least=i.s.p.least∧(MSt.addF i).fst.p.part=i.s.p.part∧AObj.objs 102 Book 6 zM (MSt.addF i).fst.books none=AObj.objs 102 Book 6 zM i.s.books none∧yB (MSt.addF i).fst.wh=yB i.s.wh∧AObj.fro 1 (iE (MSt.addF i).fst.p.months)=AObj.fro 1 (iE i.s.p.months)∧AObj.fro 1 (iE (MSt.addF i).fst.p.settle)=AObj.fro 1 (iE i.s.p.settle)∧True) (∃(i_1:gK),sb i_1.p.code=sb i.s.p.code∧iE i_1.p.months=iE i.s.p.months∧i_1.p.tick=i.s.p.tick∧i_1.p.low=i.s.p.low∧i_1.p.high=i.s.p.high∧i_1.p.wide=i.s.p.wide∧i_1.p.rule=i.s.p.rule∧i_1.p.top=i.s.p.top∧i_1.p.least=i.s.p.least∧i_1.p.part=i.s.p.part∧iE i_1.p.settle=iE i.s.p.settle∧i_1.a=i.inst∧i_1.b=i.price∧(i_1.p.code.length≤1099511627776∧i_1.p.months.length≤1099511627776∧i_1.p.settle.length≤1099511627776)∧∀(o:Unit),True→cnd (i_1.p.price i_1.a i_1.b !=0) (∃(o:Unit),(MSt.addF i).snd=i_1.p.price i_1.a i_1.b∧sb (MSt.addF i).fst.p.code=sb i.s.p.code∧(MSt.addF i).fst.p.tick=i.s.p.tick∧(MSt.addF i).fst.p.low=i.s.p.low∧(MSt.addF i).fst.p.high=i.s.p.high∧(MSt.addF i).fst.p.wide=i.s.p.wide∧(MSt.addF i).fst.p.rule=i.s.p.rule∧(MSt.addF i).fst.p.top=i.s.p.top∧(MSt.addF i).fst.p.least=i.s.p.least∧(MSt.addF i).fst.p.part=i.s.p.part∧AObj.objs 102 Book 6 zM (MSt.addF i).fst.books none=AObj.objs 102 Book 6 zM i.s.books none∧yB (MSt.addF i).fst.wh=yB i.s.wh∧AObj.fro 1 (iE (MSt.addF i).fst.p.months)=AObj.fro 1 (iE i.s.p.months)∧AObj.fro 1 (iE (MSt.addF i).fst.p.settle)=AObj.fro 1 (iE i.s.p.settle)∧True) ((0≤i.inst∧i.inst<(↑i.s.books.length:Int))∧i.inst.toNat<i.s.books.length∧∃(x:Book),i.s.books[i.inst.toNat]?=some x∧∃(i_2:BaJ),i_2.i.id=i.id∧zB i_2.s=zB i.sd∧i_2.i.price=i.price∧i_2.i.qty=i.qty∧yA i_2.i.b=yA x∧((i_2.i.b.a.slots.length≤1000000∧(i_2.i.b.a.free≠0→∃(s:Slot),s∈i_2.i.b.a.slots∧s.used=false)∧∀(q:x3),q∈i_2.i.b.a.queues→q.last=(-1)∨0≤q.last∧q.last<(↑i_2.i.b.a.slots.length:Int))∧i_2.i.b.a.queues.length≤100000∧i_2.i.b.buys.length≤100000∧i_2.i.b.sells.length≤100000∧i_2.i.b.spare.length≤100000)∧∀(o:Unit),True→∃(x:Book),yA (i_2.i.b.addF (zB i_2.s) i_2.i.id i_2.i.price i_2.i.qty).fst=yA x∧i.inst.toNat=i.inst.toNat∧i.inst.toNat<i.s.books.length∧cnd ((i_2.i.b.addF (zB i_2.s) i_2.i.id i_2.i.price i_2.i.qty).snd==0) ((∀(p:Value×List D),p∈yB i.s.wh→like (Value.int IntKind.i64 i.id) p.fst=true)∧∃(o:Unit),(MSt.addF i).snd=(i_2.i.b.addF (zB i_2.s) i_2.i.id i_2.i.price i_2.i.qty).snd∧sb (MSt.addF i).fst.p.code=sb i.s.p.code∧(MSt.addF i).fst.p.tick=i.s.p.tick∧(MSt.addF i).fst.p.low=i.s.p.low∧(MSt.addF i).fst.p.high=i.s.p.high∧(MSt.addF i).fst.p.wide=i.s.p.wide∧(MSt.addF i).fst.p.rule=i.s.p.rule∧(MSt.addF i).fst.p.top=i.s.p.top∧(MSt.addF i).fst.p.least=i.s.p.least∧(MSt.addF i).fst.p.part=i.s.p.part∧AObj.objs 102 Book 6 zM (MSt.addF i).fst.books none=AObj.objs 102 Book 6 zM (i.s.books.set i.inst.toNat x) none∧yB (MSt.addF i).fst.wh=jE (Value.int IntKind.i64 i.id) [D.v (.int .i64 i.inst)] (yB i.s.wh)∧AObj.fro 1 (iE (MSt.addF i).fst.p.months)=AObj.fro 1 (iE i.s.p.months)∧AObj.fro 1 (iE (MSt.addF i).fst.p.settle)=AObj.fro 1 (iE i.s.p.settle)∧True) (∃(o:Unit),(MSt.addF i).snd=(i_2.i.b.addF (zB i_2.s) i_2.i.id i_2.i.price i_2.i.qty).snd∧sb (MSt.addF i).fst.p.code=sb i.s.p.code∧(MSt.addF i).fst.p.tick=i.s.p.tick∧(MSt.addF i).fst.p.low=i.s.p.low∧(MSt.addF i).fst.p.high=i.s.p.high∧(MSt.addF i).fst.p.wide=i.s.p.wide∧(MSt.addF i).fst.p.rule=i.s.p.rule∧(MSt.addF i).fst.p.top=i.s.p.top∧(MSt.addF i).fst.p.least=i.s.p.least∧(MSt.addF i).fst.p.part=i.s.p.part∧AObj.objs 102 Book 6 zM (MSt.addF i).fst.books none=AObj.objs 102 Book 6 zM (i.s.books.set i.inst.toNat x) none∧yB (MSt.addF i).fst.wh=yB i.s.wh∧AObj.fro 1 (iE (MSt.addF i).fst.p.months)=AObj.fro 1 (iE i.s.p.months)∧AObj.fro 1 (iE (MSt.addF i).fst.p.settle)=AObj.fro 1 (iE i.s.p.settle)∧True)))))) (zCc i)
theorem z8m (hG:GOk Tryz.prog ([(72,priceC),(118,baddC)])) (h:∀(i:SaI),saddC.cnd i→zYh i):saddC.ok Tryz.prog 98:=okw mixed hG 1 (fun _=>[]) (fun _=>[]) [0] Tryz.func98 h
open Go Cv Go.Proofs
theorem sC {α:Type} {f:α→α} {Q:α→Prop} (hf:∀x,Q x→Q (f x)):∀{l:List α} (i:Nat),(∃x∈l,Q x)→∃x∈l.modify i f,Q x
 |[],i,⟨x,hx,_⟩=>by cases hx
 |a::l,0,⟨x,hx,q⟩=>by
  rcases List.mem_cons.1 hx with rfl|hx
  ·exact⟨f x,List.mem_cons_self,hf x q⟩
  ·exact⟨x,List.mem_cons_of_mem _ hx,q⟩
 |a::l,i+1,⟨x,hx,q⟩=>by
  rw[List.modify_succ_cons]
  rcases List.mem_cons.1 hx with rfl|hx
  ·exact⟨x,List.mem_cons_self,q⟩
  ·obtain⟨y,hy,hq⟩:=sC hf (l:=l) i ⟨x,hx,q⟩
   exact⟨y,List.mem_cons_of_mem _ hy,hq⟩
theorem zXe {a:Arena} (h:a.fit) (n:Int) (t:Bool):(a.topF n t).fit:=by
 obtain⟨h1,h2,h3⟩:=h
 rw[Arena.topF]
 split
 ·refine⟨by simpa using h1,fun hf=> ?_,by simpa using h3⟩
  exact sC (f:=fun s:Slot=>{s with top:=t}) (Q:=fun s=>s.used=false) (fun x hx=>hx) _ (h2 hf)
 ·exact⟨h1,h2,h3⟩
theorem zPj {b:Book} (h:b.a.fit) (s:Int):(b.untop s).fit:=by
 rw[Book.untop]
 repeat' split
 all_goals first|exact h|exact zXe h _ _
theorem zQz {a:Arena} (h:a.fit):a.openQ.fit:=by
 obtain⟨h1,h2,h3⟩:=h
 refine⟨h1,h2,fun q hq=> ?_⟩
 rcases List.mem_append.1 hq with hq|hq
 ·exact h3 q hq
 ·rw[List.mem_singleton.1 hq];exact .inl rfl
theorem zFf {b:Book} (h:b.a.fit):b.newQ.2.2.fit:=by
 rw[Book.newQ]
 split
 ·exact zQz h
 ·exact h
theorem gB {b:Book} (h:b.a.fit) (s p:Int):(b.queueF s p).1.a.fit:=by
 rw[Book.queueF]
 repeat' split
 ·exact h
 ·exact zFf h
 ·exact zFf h
theorem zRd (b:Book) (s:Int):(b.untop s).slots.length=b.a.slots.length∧(b.untop s).queues=b.a.queues:=by
 have ht:∀n t,(b.a.topF n t).slots.length=b.a.slots.length∧(b.a.topF n t).queues=b.a.queues:=by
  intro n t
  rw[Arena.topF]
  split
  ·exact⟨by simp,rfl⟩
  ·exact⟨rfl,rfl⟩
 rw[Book.untop]
 repeat' split
 all_goals first|exact⟨rfl,rfl⟩|exact ht _ _
theorem zAe {b:Book} (h:b.fit) (id s:Int):(b.leadF id s).fit:=by
 obtain⟨h1,h2,h3,h4,h5⟩:=h
 have hl:=zRd b s
 rw[Book.leadF]
 split
 all_goals exact⟨zPj h1 s,by rw[hl.2];exact h2,h3,h4,h5⟩
theorem zAm {b:Book} (h:b.fit):b.small:=by
 obtain⟨⟨h1,_⟩,h2,h3,h4,h5⟩:=h
 exact⟨⟨h1,by omega⟩,by omega,by omega,by omega⟩
theorem z8i (i:BaI) (h:badd1C.cnd i):zLc i:=by
 have hfit:i.b.fit:=h
 have hsm:=zAm hfit
 unfold zLc rI
 have plc:∀(b:Book) (x:Int),jE (Value.int IntKind.i64 i.id) [D.v (.int .i64 1),D.v (.int .i64 i.price),D.v (.int .i64 x)] (atE b.at_)=atE (gL i.id ⟨1,i.price,x⟩ b.at_):=fun b x=>zDw i.id ⟨1,i.price,x⟩ b.at_
 refine⟨qI _ _,(pget i.b.at_ i.id).isSome,_,_,_,zAd _ _,1,rfl,trivial,fun _ _=> ?_⟩
 refine Cv.cnd.mk (fun c=>absurd c (by decide)) fun _=> ?_
 refine zU (fun c=> ?_) (fun c=>zU (fun d=> ?_) (fun d=> ?_))
 ·have ha:i.b.addF 1 i.id i.price i.qty=(i.b,24):=by rw[Book.addF,if_pos (.inl c)]
  rw[ha];(repeat'(first|exact rfl|exact trivial|assumption|apply And.intro|refine fun(_:Unit) (_:True)=>?_|refine Exists.intro () ?_|omega|(dsimp only;omega)))
 ·have ha:i.b.addF 1 i.id i.price i.qty=(i.b,24):=by rw[Book.addF,if_pos (.inr d)]
  rw[ha];(repeat'(first|exact rfl|exact trivial|assumption|apply And.intro|refine fun(_:Unit) (_:True)=>?_|refine Exists.intro () ?_|omega|(dsimp only;omega)))
 have hq:¬(i.qty<1∨1000000<i.qty):=by omega
 refine Cv.cnd.mk (fun e=> ?_) (fun e=> ?_)
 ·have ha:i.b.addF 1 i.id i.price i.qty=(i.b,25):=by rw[Book.addF,if_neg hq,if_pos e]
  rw[ha];(repeat'(first|exact rfl|exact trivial|assumption|apply And.intro|refine fun(_:Unit) (_:True)=>?_|refine Exists.intro () ?_|omega|(dsimp only;omega)))
 have hlen:(atE i.b.at_).length=i.b.at_.length:=by simp[atE]
 rw[hlen]
 refine zU (fun f=> ?_) (fun f=> ?_)
 ·have ha:i.b.addF 1 i.id i.price i.qty=(i.b,13):=by rw[Book.addF,if_neg hq,if_neg (by rw[e];decide),if_pos (by omega)]
  rw[ha];(repeat'(first|exact rfl|exact trivial|assumption|apply And.intro|refine fun(_:Unit) (_:True)=>?_|refine Exists.intro () ?_|omega|(dsimp only;omega)))
 have ha:i.b.addF 1 i.id i.price i.qty=(i.b.stand 1 i.id i.price i.qty,0):=by rw[Book.addF,if_neg hq,if_neg (by rw[e];decide),if_neg (by omega)]
 rw[ha]
 simp only[List.length_map]
 refine⟨true,fun x=>x=i.b.leads 1 i.price,Cv.cnd.mk (fun g=>⟨true,rfl,?_,by(repeat'(first|exact trivial|exact rfl|apply And.intro))⟩) (fun g=> ?_),fun x hx=> ?_⟩
 ·have:i.b.buys=[]:=List.eq_nil_of_length_eq_zero (by have:(i.b.buys.length:Int)=0:=(by simpa using g);omega)
  rw[Book.leads,uS,this]
 ·obtain⟨r,l,hl⟩:∃r l,i.b.buys=r::l:=by
   cases hb:i.b.buys with
   |nil=>rw[hb]at g;exact absurd g (by decide)
   |cons r l=>exact⟨r,l,rfl⟩
  refine⟨⟨by omega,by rw[hl,List.length_cons];omega⟩,r.price,elA (x:=r) (by rw[hl];rfl) (by simp[zA]) rfl,⟨1,i.price,r.price⟩,rfl,rfl,rfl,trivial,fun _ _=>⟨_,rfl,?_,by(repeat'(first|exact trivial|exact rfl|apply And.intro))⟩⟩
  rw[Book.leads,uS,hl]
 subst hx
 refine Cv.cnd.mk (fun g=> ?_) (fun g=> ?_)
 ·have hled:i.b.led i.id 1 i.price=i.b.leadF i.id 1:=by rw[Book.led,if_pos g]
  have hf1:=zAe hfit i.id 1
  have hst:i.b.stand 1 i.id i.price i.qty={((i.b.leadF i.id 1).queueF 1 i.price).1 with a:=(((i.b.leadF i.id 1).queueF 1 i.price).1.a.push ((i.b.leadF i.id 1).queueF 1 i.price).2 i.id i.qty (i.b.leads 1 i.price)).1,at_:=gL i.id ⟨1,i.price,(((i.b.leadF i.id 1).queueF 1 i.price).1.a.push ((i.b.leadF i.id 1).queueF 1 i.price).2 i.id i.qty (i.b.leads 1 i.price)).2.1⟩ ((i.b.leadF i.id 1).queueF 1 i.price).1.at_}:=by
   simp only[Book.stand,hled]
  refine⟨⟨i.b,i.id⟩,rfl,trivial,rfl,rfl,rfl,rfl,rfl,rfl,rfl,rfl,rfl,hsm,fun _ _=>⟨⟨i.b.leadF i.id 1,i.price⟩,trivial,rfl,rfl,rfl,rfl,rfl,rfl,rfl,rfl,rfl,rfl,hf1,fun _ _=>⟨trivial,?_⟩⟩⟩
  refine⟨⟨((i.b.leadF i.id 1).queueF 1 i.price).1.a,((i.b.leadF i.id 1).queueF 1 i.price).2,i.id,i.qty,i.b.leads 1 i.price⟩,rfl,rfl,rfl,rfl,rfl,gB hf1.1 1 i.price,fun _ _=>⟨qI _ _,(),?_⟩⟩
  dsimp only
  rw[hst,plc]
  (repeat'(first|exact rfl|exact trivial|assumption|apply And.intro|refine fun(_:Unit) (_:True)=>?_|refine Exists.intro () ?_|omega|(dsimp only;omega)))
 ·have hled:i.b.led i.id 1 i.price=i.b:=by rw[Book.led,if_neg (by rw[g];decide)]
  have hst:i.b.stand 1 i.id i.price i.qty={(i.b.queueF 1 i.price).1 with a:=((i.b.queueF 1 i.price).1.a.push (i.b.queueF 1 i.price).2 i.id i.qty (i.b.leads 1 i.price)).1,at_:=gL i.id ⟨1,i.price,((i.b.queueF 1 i.price).1.a.push (i.b.queueF 1 i.price).2 i.id i.qty (i.b.leads 1 i.price)).2.1⟩ (i.b.queueF 1 i.price).1.at_}:=by
   simp only[Book.stand,hled]
  refine⟨⟨i.b,i.price⟩,trivial,rfl,rfl,rfl,rfl,rfl,rfl,rfl,rfl,rfl,rfl,hfit,fun _ _=>⟨trivial,?_⟩⟩
  refine⟨⟨(i.b.queueF 1 i.price).1.a,(i.b.queueF 1 i.price).2,i.id,i.qty,i.b.leads 1 i.price⟩,rfl,rfl,rfl,rfl,rfl,gB hfit.1 1 i.price,fun _ _=>⟨qI _ _,(),?_⟩⟩
  dsimp only
  rw[hst,plc]
  (repeat'(first|exact rfl|exact trivial|assumption|apply And.intro|refine fun(_:Unit) (_:True)=>?_|refine Exists.intro () ?_|omega|(dsimp only;omega)))
theorem zXj:badd1C.ok Tryz.prog 118:=z0i (gokc mT (gokc vZ (gokc zVn (gokc zQk (gokc zHw gok0))))) z8i
theorem z6p (i:BaI) (h:badd2C.cnd i):zJt i:=by
 have hfit:i.b.fit:=h
 have hsm:=zAm hfit
 unfold zJt eM
 have plc:∀(b:Book) (x:Int),jE (Value.int IntKind.i64 i.id) [D.v (.int .i64 2),D.v (.int .i64 i.price),D.v (.int .i64 x)] (atE b.at_)=atE (gL i.id ⟨2,i.price,x⟩ b.at_):=fun b x=>zDw i.id ⟨2,i.price,x⟩ b.at_
 refine⟨qI _ _,(pget i.b.at_ i.id).isSome,_,_,_,zAd _ _,2,rfl,trivial,fun _ _=> ?_⟩
 refine Cv.cnd.mk (fun c=>absurd c (by decide)) fun _=> ?_
 refine zU (fun c=> ?_) (fun c=>zU (fun d=> ?_) (fun d=> ?_))
 ·have ha:i.b.addF 2 i.id i.price i.qty=(i.b,24):=by rw[Book.addF,if_pos (.inl c)]
  rw[ha];(repeat'(first|exact rfl|exact trivial|assumption|apply And.intro|refine fun(_:Unit) (_:True)=>?_|refine Exists.intro () ?_|omega|(dsimp only;omega)))
 ·have ha:i.b.addF 2 i.id i.price i.qty=(i.b,24):=by rw[Book.addF,if_pos (.inr d)]
  rw[ha];(repeat'(first|exact rfl|exact trivial|assumption|apply And.intro|refine fun(_:Unit) (_:True)=>?_|refine Exists.intro () ?_|omega|(dsimp only;omega)))
 have hq:¬(i.qty<1∨1000000<i.qty):=by omega
 refine Cv.cnd.mk (fun e=> ?_) (fun e=> ?_)
 ·have ha:i.b.addF 2 i.id i.price i.qty=(i.b,25):=by rw[Book.addF,if_neg hq,if_pos e]
  rw[ha];(repeat'(first|exact rfl|exact trivial|assumption|apply And.intro|refine fun(_:Unit) (_:True)=>?_|refine Exists.intro () ?_|omega|(dsimp only;omega)))
 have hlen:(atE i.b.at_).length=i.b.at_.length:=by simp[atE]
 rw[hlen]
 refine zU (fun f=> ?_) (fun f=> ?_)
 ·have ha:i.b.addF 2 i.id i.price i.qty=(i.b,13):=by rw[Book.addF,if_neg hq,if_neg (by rw[e];decide),if_pos (by omega)]
  rw[ha];(repeat'(first|exact rfl|exact trivial|assumption|apply And.intro|refine fun(_:Unit) (_:True)=>?_|refine Exists.intro () ?_|omega|(dsimp only;omega)))
 have ha:i.b.addF 2 i.id i.price i.qty=(i.b.stand 2 i.id i.price i.qty,0):=by rw[Book.addF,if_neg hq,if_neg (by rw[e];decide),if_neg (by omega)]
 rw[ha]
 simp only[List.length_map]
 refine⟨true,fun x=>x=i.b.leads 2 i.price,Cv.cnd.mk (fun g=>⟨true,rfl,?_,by(repeat'(first|exact trivial|exact rfl|apply And.intro))⟩) (fun g=> ?_),fun x hx=> ?_⟩
 ·have:i.b.sells=[]:=List.eq_nil_of_length_eq_zero (by have:(i.b.sells.length:Int)=0:=(by simpa using g);omega)
  rw[Book.leads,gE,this]
 ·obtain⟨r,l,hl⟩:∃r l,i.b.sells=r::l:=by
   cases hb:i.b.sells with
   |nil=>rw[hb]at g;exact absurd g (by decide)
   |cons r l=>exact⟨r,l,rfl⟩
  refine⟨⟨by omega,by rw[hl,List.length_cons];omega⟩,r.price,elA (x:=r) (by rw[hl];rfl) (by simp[zA]) rfl,⟨2,i.price,r.price⟩,rfl,rfl,rfl,trivial,fun _ _=>⟨_,rfl,?_,by(repeat'(first|exact trivial|exact rfl|apply And.intro))⟩⟩
  rw[Book.leads,gE,hl]
 subst hx
 refine Cv.cnd.mk (fun g=> ?_) (fun g=> ?_)
 ·have hled:i.b.led i.id 2 i.price=i.b.leadF i.id 2:=by rw[Book.led,if_pos g]
  have hf1:=zAe hfit i.id 2
  have hst:i.b.stand 2 i.id i.price i.qty={((i.b.leadF i.id 2).queueF 2 i.price).1 with a:=(((i.b.leadF i.id 2).queueF 2 i.price).1.a.push ((i.b.leadF i.id 2).queueF 2 i.price).2 i.id i.qty (i.b.leads 2 i.price)).1,at_:=gL i.id ⟨2,i.price,(((i.b.leadF i.id 2).queueF 2 i.price).1.a.push ((i.b.leadF i.id 2).queueF 2 i.price).2 i.id i.qty (i.b.leads 2 i.price)).2.1⟩ ((i.b.leadF i.id 2).queueF 2 i.price).1.at_}:=by
   simp only[Book.stand,hled]
  refine⟨⟨i.b,i.id⟩,rfl,trivial,rfl,rfl,rfl,rfl,rfl,rfl,rfl,rfl,rfl,hsm,fun _ _=>⟨⟨i.b.leadF i.id 2,i.price⟩,trivial,rfl,rfl,rfl,rfl,rfl,rfl,rfl,rfl,rfl,rfl,hf1,fun _ _=>⟨trivial,?_⟩⟩⟩
  refine⟨⟨((i.b.leadF i.id 2).queueF 2 i.price).1.a,((i.b.leadF i.id 2).queueF 2 i.price).2,i.id,i.qty,i.b.leads 2 i.price⟩,rfl,rfl,rfl,rfl,rfl,gB hf1.1 2 i.price,fun _ _=>⟨qI _ _,(),?_⟩⟩
  dsimp only
  rw[hst,plc]
  (repeat'(first|exact rfl|exact trivial|assumption|apply And.intro|refine fun(_:Unit) (_:True)=>?_|refine Exists.intro () ?_|omega|(dsimp only;omega)))
 ·have hled:i.b.led i.id 2 i.price=i.b:=by rw[Book.led,if_neg (by rw[g];decide)]
  have hst:i.b.stand 2 i.id i.price i.qty={(i.b.queueF 2 i.price).1 with a:=((i.b.queueF 2 i.price).1.a.push (i.b.queueF 2 i.price).2 i.id i.qty (i.b.leads 2 i.price)).1,at_:=gL i.id ⟨2,i.price,((i.b.queueF 2 i.price).1.a.push (i.b.queueF 2 i.price).2 i.id i.qty (i.b.leads 2 i.price)).2.1⟩ (i.b.queueF 2 i.price).1.at_}:=by
   simp only[Book.stand,hled]
  refine⟨⟨i.b,i.price⟩,trivial,rfl,rfl,rfl,rfl,rfl,rfl,rfl,rfl,rfl,rfl,hfit,fun _ _=>⟨trivial,?_⟩⟩
  refine⟨⟨(i.b.queueF 2 i.price).1.a,(i.b.queueF 2 i.price).2,i.id,i.qty,i.b.leads 2 i.price⟩,rfl,rfl,rfl,rfl,rfl,gB hfit.1 2 i.price,fun _ _=>⟨qI _ _,(),?_⟩⟩
  dsimp only
  rw[hst,plc]
  (repeat'(first|exact rfl|exact trivial|assumption|apply And.intro|refine fun(_:Unit) (_:True)=>?_|refine Exists.intro () ?_|omega|(dsimp only;omega)))
theorem zYc:badd2C.ok Tryz.prog 118:=zZv (gokc mT (gokc vZ (gokc zXk (gokc zRe (gokc zHw gok0))))) z6p
theorem z3k:baddC.ok Tryz.prog 118:=fun j=>match j with
 |⟨i,false⟩=>zXj i
 |⟨i,true⟩=>zYc i
theorem yCp (i:SaI) (h:saddC.cnd i):zYh i:=by
 obtain⟨hp,hbl,hb⟩:i.s.fit:=h
 unfold zYh zCc
 simp only[zEr]
 have hml:(yB i.s.wh).length=i.s.wh.length:=by simp[yB]
 rw[hml]
 have out (e:i.inst<0∨i.s.books.length≤i.inst):MSt.addF i=(i.s,20):=by rw[MSt.addF,if_pos e]
 refine⟨wK _ _,(gZ i.s.wh i.id).isSome,_,yAd _ _,zU (fun c=>Cv.cnd.mk (fun d=> ?_) (fun d=> ?_)) (fun c=> ?_)⟩
 ·have d:¬i.inst<(i.s.books.length:Int):=by simpa using d
  rw[out (.inr (by omega))];(repeat'(first|exact rfl|exact trivial|assumption|apply And.intro|refine fun(_:Unit) (_:True)=>?_|refine Exists.intro () ?_|omega|(dsimp only;omega)))
 ·have d:i.inst<(i.s.books.length:Int):=by simpa using d
  have hn:¬(i.inst<0∨(i.s.books.length:Int)≤i.inst):=by omega
  refine Cv.cnd.mk (fun e=> ?_) (fun e=>zU (fun f=> ?_) (fun f=> ?_))
  ·rw[MSt.addF,if_neg hn,if_pos e];(repeat'(first|exact rfl|exact trivial|assumption|apply And.intro|refine fun(_:Unit) (_:True)=>?_|refine Exists.intro () ?_|omega|(dsimp only;omega)))
  ·rw[MSt.addF,if_neg hn,if_neg (by rw[e];decide),if_pos (by omega)];(repeat'(first|exact rfl|exact trivial|assumption|apply And.intro|refine fun(_:Unit) (_:True)=>?_|refine Exists.intro () ?_|omega|(dsimp only;omega)))
  ·refine⟨⟨i.s.p,i.inst,i.price⟩,rfl,rfl,rfl,rfl,rfl,rfl,rfl,rfl,rfl,rfl,rfl,rfl,rfl,hp,fun _ _=>Cv.cnd.mk (fun g=> ?_) (fun g=> ?_)⟩
   ·have g:i.s.p.price i.inst i.price≠0:=by simpa using g
    rw[MSt.addF,if_neg hn,if_neg (by rw[e];decide),if_neg (by omega),if_pos g];(repeat'(first|exact rfl|exact trivial|assumption|apply And.intro|refine fun(_:Unit) (_:True)=>?_|refine Exists.intro () ?_|omega|(dsimp only;omega)))
   ·have g:i.s.p.price i.inst i.price=0:=by simpa using g
    obtain⟨x,hx⟩:=yD (l:=i.s.books) (i:=i.inst.toNat) (by omega)
    have hba:i.s.bookAt i.inst=x:=zX hx
    have ha:MSt.addF i=({i.s with books:=i.s.books.set i.inst.toNat (x.addF (zB i.sd) i.id i.price i.qty).1,wh:=if(x.addF (zB i.sd) i.id i.price i.qty).2=0 then bR i.id i.inst i.s.wh else i.s.wh},(x.addF (zB i.sd) i.id i.price i.qty).2):=by
     rw[MSt.addF,if_neg hn,if_neg (by rw[e];decide),if_neg (by omega),if_neg (by simp[g])]
     simp only[hba]
    refine⟨⟨by omega,by omega⟩,by omega,x,hx,⟨⟨x,i.id,i.price,i.qty⟩,i.sd⟩,rfl,rfl,rfl,rfl,rfl,hb x (List.mem_of_getElem? hx),fun _ _=>⟨(x.addF (zB i.sd) i.id i.price i.qty).1,rfl,trivial,by omega,Cv.cnd.mk (fun z=>⟨wK _ _,?_⟩) (fun z=> ?_)⟩⟩
    ·have z:(x.addF (zB i.sd) i.id i.price i.qty).2=0:=by simpa using z
     rw[ha,z]
     simp only[if_true]
     (repeat'(first|exact rfl|exact trivial|assumption|apply And.intro|refine fun(_:Unit) (_:True)=>?_|refine Exists.intro () ?_|omega|(dsimp only;omega)))
    ·have z:¬(x.addF (zB i.sd) i.id i.price i.qty).2=0:=by simpa using z
     rw[ha,if_neg z]
     (repeat'(first|exact rfl|exact trivial|assumption|apply And.intro|refine fun(_:Unit) (_:True)=>?_|refine Exists.intro () ?_|omega|(dsimp only;omega)))
 ·rw[out (.inl (by omega))];(repeat'(first|exact rfl|exact trivial|assumption|apply And.intro|refine fun(_:Unit) (_:True)=>?_|refine Exists.intro () ?_|omega|(dsimp only;omega)))
theorem z2a:saddC.ok Tryz.prog 98:=z8m (gokc fY (gokc z3k gok0)) yCp
open Go Cv Go.Proofs
def kN (x:Prd):Int:=2+zF x.months.length 0 3
def zHk (x:Prd):Int:=1+zF x.tick 0 9
def z2j (n:Nat):List Int:=(List.range n).map fun(i:Nat)=>10*(i:Int)+3
def z2e (t:Int) (n:Nat):List Int:=(List.range n).map fun(i:Nat)=>t*(10+(i:Int))
def yAt (x:Prd):Prd:=⟨[206,169],z2j (kN x).toNat,zHk x,-20*zHk x,100*zHk x,zHk x*(5+zF x.wide 0 60),1+zF x.rule 0 2,zF x.top 0 9,1+zF x.least 0 4,zF x.part 0 100,z2e (zHk x) (kN x).toNat⟩
@[reducible] def Prd.raw (x:Prd):Prop:=yI x.tick∧yI x.wide∧yI x.rule∧yI x.top∧yI x.least∧yI x.part∧x.months.length≤9223372036854775807
open Go Cv Go.Proofs
open Go Cv Go.Proofs
theorem gW:∀(l:List Int) (a:Int),l.foldl min a≤a∧∀x∈l,l.foldl min a≤x
 |[],a=>⟨Int.le_refl _,by simp⟩
 |b::l,a=>by
  obtain⟨h1,h2⟩:=gW l (min a b)
  rw[List.foldl_cons]
  refine⟨by omega,fun x hx=> ?_⟩
  rcases List.mem_cons.1 hx with rfl|hx
  ·omega
  ·exact h2 x hx
theorem gI:∀(l:List Int) (a:Int),a≤l.foldl max a∧∀x∈l,x≤l.foldl max a
 |[],a=>⟨Int.le_refl _,by simp⟩
 |b::l,a=>by
  obtain⟨h1,h2⟩:=gI l (max a b)
  rw[List.foldl_cons]
  refine⟨by omega,fun x hx=> ?_⟩
  rcases List.mem_cons.1 hx with rfl|hx
  ·omega
  ·exact h2 x hx
theorem zZs {l:List Int} {x:Int} (h:x∈l):fX l≤x:=by
 cases l with
 |nil=>cases h
 |cons a l=>
  rw[fX,List.tail_cons,List.headD_cons]
  rcases List.mem_cons.1 h with rfl|h
  ·exact(gW l x).1
  ·exact(gW l a).2 x h
theorem zZd {l:List Int} {x:Int} (h:x∈l):x≤cL l:=by
 cases l with
 |nil=>cases h
 |cons a l=>
  rw[cL,List.tail_cons,List.headD_cons]
  rcases List.mem_cons.1 h with rfl|h
  ·exact(gI l x).1
  ·exact(gI l a).2 x h
open Go Cv Go.Proofs
structure Cmd where
 kind:Int
 id:Int
 inst:Int
 side:Int
 price:Int
 qty:Int
 least:Int
 time:Int
 label:List UInt8
 deriving DecidableEq
@[reducible] def Cmd.cells (c:Cmd):List V:=[zC c.kind,zC c.id,zC c.inst,zC c.side,zC c.price,zC c.qty,zC c.least,zC c.time,sV c.label]
@[reducible] def m8 (c:Cmd):V:= .agg c.cells
@[reducible] def Cmd.raw (c:Cmd):Prop:=yI c.kind∧yI c.id∧yI c.inst∧yI c.side∧yI c.price∧yI c.qty∧yI c.least∧yI c.time
structure TmI where
 p:Prd
 c:Cmd
 i:Int
structure AbI where
 x:Prd
 l:List Cmd
def Top.pr (t:Top) (s:Nat):Int:=if s=0 then t.p1 else t.p2
def Top.hs (t:Top) (s:Nat):Bool:=if s=0 then t.has1 else t.has2
structure B2 where
 a:Bool
 b:Bool
end Sx
