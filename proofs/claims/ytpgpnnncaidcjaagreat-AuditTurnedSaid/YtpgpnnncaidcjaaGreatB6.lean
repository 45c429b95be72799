/- Texts of ours, one behind the other: a walk that the kernel reckons, and contracts of functions. No condition. -/
import Derived.Laws.AppendOwn
import Derived.Lib.AppendZerosOnto
import Derived.Lib.Overlaps
import Derived.Test.YtpgpnnncaidcjaaGreatB5
namespace Sx
set_option linter.unusedSimpArgs false
set_option linter.unusedVariables false
open Go Go.RowKit Cv
theorem eD {P:Program} {dT sT ty e sz by_:Nat} {z:Array Value} (hi:uS P dT=some (e,sz,by_,z)) {w:World} {g o dLen dCap b so sLen sCap n:Nat} {cur src:List Value} {T T':TypeId} {fr:Nat×Nat}
 (hg:w.heap[g]? =some (.cells cur.toArray T (0,0))) (hs:w.heap[b]? =some (.cells src.toArray T' fr)) (hn:Nat.min sLen dLen=n) (h1:so+n*sz≤src.length) (h2:o+n*sz≤cur.length)
 (hone:∀v∈(src.drop so).take (n*sz),v.oneC=true):
 gB P (Builtin.copy_ #[dT,sT] ty #[.slice (some ⟨g,o,none⟩) dLen dCap,.slice (some ⟨b,so,none⟩) sLen sCap]) w (.int .i64 n) (World.setB w g (.cells (spl cur o ((src.drop so).take (n*sz))).toArray T (0,0))):=by
 obtain⟨i,zv,q1,q2,rfl,rfl,q5,rfl⟩:=jB hi
 have hl:((src.drop so).take (n*i.size)).length=n*i.size:=by rw[yTe,yTk];omega
 have hst:=jZ (P:=P) ((src.drop so).take (n*i.size)) 0 o cur w hg (by rw[hl];omega) hone
 simp only[yWo]at hst
 unfold gB Builtin.copy_
 simp only[yUe,yUo,yTx,bind,pure,run_bind,Sem.bind,Sem.run,Cv.run_underlying q1,Cv.run_sizeOf q2,Builtin.lenOf,hn,Builtin.firstCells,uY hs h1,hst]
 rfl
theorem Hp.apart {k:Ko} {w:World} {b c:Nat} {o o':Obj} {L:List HP} (H:Hp k w (pt b o::pt c o'::L)):b≠c:=by
 obtain⟨hk,hs,hh⟩:=H
 cases hh with
 |cons ha hsub hd hr=>
  cases hr with
  |cons hb hsub2 hd2 hr2=>
   intro e
   subst e
   have:=hd _ ySk b
   rw[show _=one b o from ha,show _=one b o' from hb]at this
   simp[one]at this
def yMr (P:Program) (tS tI sz fO fR:Nat) (s:Option Addr) (sn sk:Nat) (i:Int) (v:Option Addr) (vn vk:Nat) (w:World) (R:Ending→World→Prop):Prop:=
slN s sn sk (some i) none sz fun a1 na1 ka1=>
cnd (((vn:Int):Int)==0) (
R (.returned (.slice s sn sk)) w) (
cnd ((i:Int)==(sn:Int)) (
∃(a2:Option Addr) (na2 ka2:Nat),∃w3:World,gB P (Builtin.append_ #[tS,tS] tS #[.slice s sn sk,.slice v vn vk]) w (.slice a2 na2 ka2) w3∧
R (.returned (.slice a2 na2 ka2)) w3) (
cnd (decide ((IntKind.i64.wrap ((sn:Int)+(vn:Int)):Int)>(sk:Int))) (
slN s sn sk none (some i) sz fun a4 na4 ka4=>
∃(a5:Option Addr) (na5 ka5:Nat),∃w6:World,gB P (Builtin.append_ #[tS,tI] tS #[.slice a4 na4 ka4,.int .i64 (IntKind.i64.wrap (IntKind.i64.wrap ((sn:Int)+(vn:Int))-i))]) w (.slice a5 na5 ka5) w6∧
slN a5 na5 ka5 (some i) none sz fun a7 na7 ka7=>
∃x8:Int,∃w9:World,gB P (Builtin.copy_ #[tS,tS] tI #[.slice a7 na7 ka7,.slice v vn vk]) w6 (.int .i64 x8) w9∧
z1p w9 fun w10=>
slN a5 na5 ka5 (some (IntKind.i64.wrap (i+(vn:Int)))) none sz fun a11 na11 ka11=>
slN s sn sk (some i) none sz fun a12 na12 ka12=>
∃x13:Int,∃w14:World,gB P (Builtin.copy_ #[tS,tS] tI #[.slice a11 na11 ka11,.slice a12 na12 ka12]) w10 (.int .i64 x13) w14∧
R (.returned (.slice a5 na5 ka5)) w14) (
slN s sn sk none (some (IntKind.i64.wrap ((sn:Int)+(vn:Int)))) sz fun a15 na15 ka15=>
slN a15 na15 ka15 (some (IntKind.i64.wrap (i+(vn:Int)))) none sz fun a16 na16 ka16=>
∃c17:Bool,∃w18:World,Cv.Ext P fO #[.slice v vn vk,.slice a16 na16 ka16] w (.bool c17) w18∧
cnd (!c17) (
z1p w18 fun w19=>
slN a15 na15 ka15 (some (IntKind.i64.wrap (i+(vn:Int)))) none sz fun a20 na20 ka20=>
slN a15 na15 ka15 (some i) none sz fun a21 na21 ka21=>
∃x22:Int,∃w23:World,gB P (Builtin.copy_ #[tS,tS] tI #[.slice a20 na20 ka20,.slice a21 na21 ka21]) w19 (.int .i64 x22) w23∧
slN a15 na15 ka15 (some i) none sz fun a24 na24 ka24=>
∃x25:Int,∃w26:World,gB P (Builtin.copy_ #[tS,tS] tI #[.slice a24 na24 ka24,.slice v vn vk]) w23 (.int .i64 x25) w26∧
R (.returned (.slice a15 na15 ka15)) w26) (
slN a15 na15 ka15 (some (sn:Int)) none sz fun a27 na27 ka27=>
∃x28:Int,∃w29:World,gB P (Builtin.copy_ #[tS,tS] tI #[.slice a27 na27 ka27,.slice v vn vk]) w18 (.int .i64 x28) w29∧
slN a15 na15 ka15 (some i) none sz fun a30 na30 ka30=>
Calls P fR #[.slice a30 na30 ka30,.int .i64 (vn:Int)] w29 fun e32 w31=>e32= .returned (.tuple #[])∧
R (.returned (.slice a15 na15 ka15)) w31))))
theorem z6n {α:Type} {l m:Nat} {xs r ys:List α} (hl:l≤xs.length) (hy:ys.length=m) (hr:m≤r.length):
 ((xs++r).take (l+m)++xs.drop l++(xs++r).drop (l+m+(xs.drop l).length)).take l++ys++((xs++r).take (l+m)++xs.drop l++(xs++r).drop (l+m+(xs.drop l).length)).drop (l+ys.length)=(xs.take l++ys++xs.drop l)++r.drop m:=by
 have e1:(xs++r).drop (l+m+(xs.drop l).length)=r.drop m:=by
  rw[yTk,show l+m+(xs.length-l)=xs.length+m by omega,yXq]
  simp
 have e2:((xs++r).take (l+m)++xs.drop l++r.drop m).take l=xs.take l:=by
  rw[ySq,yTo (by rw[yTe,ySm];omega),List.take_take,yYh (by omega),yTo hl]
 have e3:((xs++r).take (l+m)++xs.drop l++r.drop m).drop (l+ys.length)=xs.drop l++r.drop m:=by
  have:((xs++r).take (l+m)).length=l+m:=by rw[yTe,ySm];omega
  rw[ySq,hy,yXq,this,yXv,yVr,yVp (by omega),yUu]
 rw[e1,e2,e3]
 simp
theorem zTc (A Z Y:List Value):spl (A++Z) A.length Y=A++Y++Z.drop Y.length:=by
 simp only[spl]
 rw[List.take_left,yXq]
 simp
theorem zDm {b o n c i:Nat} (h:c≠i):(if c=i then(some ⟨b,o,none⟩:Option Addr)else(some ⟨b,o,none⟩:Option Addr).map (·.add n))=some ⟨b,o+n,none⟩:=by
 rw[ySe h,yUk,uQ]
def zSe (P:Program) (fO:Nat):Prop:=∀(w:World) (va sb so la ca lb cb:Nat) (c c':Array Value) (T T':TypeId),va≠sb→w.heap[va]?=some (.cells c T (0,0))→w.heap[sb]?=some (.cells c' T' (0,0))→c'.size≠0→
 Cv.Ext P fO #[.slice (some ⟨va,0,none⟩) la ca,.slice (some ⟨sb,so,none⟩) lb cb] w (.bool false) w
theorem yEz {P : Program} {fO tS tB e sz by_ : Nat} {z : Array Value} {fn : Func} (hf : P.funcs[fO]? = some fn) (hname : (fn.name == "runtime.NumGoroutine") = false) (hb : fn.body.isNone = true) (hn : Extern.findNext fn = none) (he : Extern.find fn = some (Extern.SlicesOverlaps.overlaps #[tS, tS] #[tB]))
 (hi:uS P tS=some (e,sz,by_,z)):zSe P fO:=by
 obtain⟨i,zv,q1,q2,rfl,rfl,q5,rfl⟩:=jB hi
 intro w va sb so la ca lb cb c c' T T' hne h1 h2 h3
 unfold Cv.Ext
 rw[run_callFunc_extern hf hname hb hn he,Lib.run_overlaps_apart w tS tB e q1 i.size (fun w=>Cv.run_sizeOf q2 w) ⟨va,0,none⟩ ⟨sb,so,none⟩ la ca lb cb hne T T' c.size c'.size (by simp[World.shape?,h1]) (by simp[World.shape?,h2]) h3 (by simp[World.frozen?,h1]) (by simp[World.frozen?,h1])]
 rfl
theorem yRg {P:Program} {tS tI e sz by_ fO fR:Nat} {z:Array Value} (hi:uS P tS=some (e,sz,by_,z)) (hz:z.size=sz) (hby:0<by_) (hsz:0<sz) (h2:z0b P tS=true) (hti:P.underlying tI=some (.int .i64)) (hov:zSe P fO)
 {k:Ko} {w:World} {L:List HP} {s v:Option Addr} {sn sk vn vk i:Nat} {xs ys:List Value} (H:Hp k w (slO e sz s sn sk xs::slO e sz v vn vk ys::L)) (h1:∀u∈xs,u.oneC=true) (hy:∀u∈ys,u.oneC=true) (hin:i≤sn) (hv:0<vn)
 (hb:(sn+vn)*by_≤70368744177664):
 yMr P tS tI sz fO fR s sn sk i v vn vk w fun en w'=>∃a kk,en= .returned (.slice a (sn+vn) kk)∧Hp k w' (slO e sz a (sn+vn) kk (xs.take (i*sz)++ys++xs.drop (i*sz))::slO e sz v vn vk ys::L):=by
 obtain⟨hxl,hnk⟩:=H.len
 obtain⟨hyl,hvk⟩:=H.swap.len
 have hnm:sn+vn≤70368744177664:=yVa (Nat.le_mul_of_pos_right _ hby) hb
 have w1:IntKind.i64.wrap ((sn:Int)+(vn:Int))=((sn+vn:Nat):Int):=by rw[Cv.wrap_i64 (by omega) (by omega)];simp
 have w2:IntKind.i64.wrap ((i:Int)+(vn:Int))=((i+vn:Nat):Int):=by rw[Cv.wrap_i64 (by omega) (by omega)];simp
 have w3:IntKind.i64.wrap (((sn+vn:Nat):Int)-(i:Int))=((sn+vn-i:Nat):Int):=by rw[Cv.wrap_i64 (by omega) (by omega)];omega
 have hle:i*sz≤xs.length:=by rw[hxl];exact yUp _ hin
 have htl:(xs.take (i*sz)).length=i*sz:=by rw[yTe];omega
 have hdl:(xs.drop (i*sz)).length=(sn-i)*sz:=by rw[yTk,hxl,Nat.sub_mul]
 have hsum:(i+vn)*sz=i*sz+vn*sz:=yVf _ _ _
 have hsum2:(sn+vn)*sz=i*sz+vn*sz+(sn-i)*sz:=by rw[← yVf,← yVf];congr 1;omega
 have hfin:(xs.take (i*sz)++ys++xs.drop (i*sz)).length=(sn+vn)*sz:=by
  rw[ySm,ySm,htl,hyl,hdl,hsum2]
 unfold yMr
 simp only[slN,w1,w2,w3,ySt]
 refine⟨⟨by omega,by omega,hnk⟩,Cv.cnd.mk (fun c=>absurd c (by simp;omega)) fun _=>Cv.cnd.mk (fun c=> ?_) fun c=>Cv.cnd.mk (fun hc=> ?_) fun hc=> ?_⟩
 ·have c:i=sn:=by have:(i:Int)=(sn:Int):=by simpa using c
                  omega
  subst c
  obtain⟨a',c',w',r1,r2⟩:=H.append (rt:=tS) hi h2 (x:= .slice v vn vk) (m:=vn) (ys:=ys) (.inl ⟨v,vk,rfl,H.swap.satR⟩) hy hz hby hb
  refine⟨a',_,c',w',r1,a',c',rfl,?_⟩
  rw[ySz (by omega),yVp (by omega),yTg]
  exact r2
 ·have c:i<sn:=by have:¬(i:Int)=(sn:Int):=by simpa using c
                  omega
  have hc:sk<sn+vn:=by have:=yVd hc;omega
  obtain⟨inf,zv,q1,q2,q3,q4,q5,q6⟩:=jB hi
  subst q3 q4 q6
  rcases H.slcases with⟨_,e0,_⟩|⟨b,r,rfl,g1,g2,g3,H0⟩
  ·omega
  rcases H0.swap.slcases with⟨_,e0,_⟩|⟨vb,rv,rfl,g4,g5,g6,H1⟩
  ·omega
  have hold:(Builtin.firstCells inf.size i (.slice (some ⟨b,0,none⟩) i sk)).run P w.drew= .ok (xs.take (i*inf.size)).toArray w.drew:=by
   have hbk:=(H1.drew).swap.get
   have:=uY (P:=P) (o:=0) (n:=i*inf.size) hbk (by rw[ySm];omega)
   unfold Builtin.firstCells
   rw[this,yVr,yTo hle]
  have hfit2:=zJf (need:=sn+vn) (cap:=sk) (by omega)
  have hfit3:=yUp inf.bytes hfit2
  have e2:2*(sn+vn)*inf.bytes=2*((sn+vn)*inf.bytes):=by rw[Nat.mul_assoc]
  have hkb:(sn+vn-i)*inf.bytes≤(sn+vn)*inf.bytes:=yUp _ (by omega)
  have hgr:=Lib.run_append_grow_zeros (P:=P) w tS tI tS e inf zv .i64 .i64 q1 hti q2 q5 (some ⟨b,0,none⟩) i sk (xs.take (i*inf.size)) hold (sn+vn-i) (by omega) hsz (by omega) (by omega) (by omega) (by rw[show i+(sn+vn-i)=sn+vn by omega];omega)
  rw[show i+(sn+vn-i)=sn+vn by omega]at hgr
  have hG:sn+vn≤grownCap w (sn+vn) sk e:=grownCap_ge w (sn+vn) sk e
  generalize grownCap w (sn+vn) sk e=G at hgr hG
  have harr:(xs.take (i*inf.size)).toArray++Builtin.zeroCells zv.cells (sn+vn-i)++Builtin.zeroCells zv.cells (G-(sn+vn))=(xs.take (i*inf.size)++((Builtin.zeroCells zv.cells (sn+vn-i)).toList++(Builtin.zeroCells zv.cells (G-(sn+vn))).toList)).toArray:=by
   apply Array.ext';simp
  rw[harr]at hgr
  have hZl:((Builtin.zeroCells zv.cells (sn+vn-i)).toList++(Builtin.zeroCells zv.cells (G-(sn+vn))).toList).length=(sn+vn-i)*inf.size+(G-(sn+vn))*inf.size:=by
   rw[ySm,yXl,yXl,size_zeroCells,size_zeroCells,hz]
  generalize (Builtin.zeroCells zv.cells (sn+vn-i)).toList++(Builtin.zeroCells zv.cells (G-(sn+vn))).toList=Z at hgr hZl
  have hZ2:(sn+vn-i)*inf.size=vn*inf.size+(sn-i)*inf.size:=by rw[← yVf];congr 1;omega
  have H2:=(H1.drew).new (.cells (xs.take (i*inf.size)++Z).toArray e)
  have hB:w.drew.heap.size=w.heap.size:=rfl
  rw[hB]at H2
  have hc1:=eD (P:=P) (sT:=tS) (ty:=tI) hi (g:=w.heap.size) (o:=0+i*inf.size) (dLen:=sn+vn-i) (dCap:=G-i) (b:=vb) (so:=0) (sLen:=vn) (sCap:=vk) (n:=vn) H2.get H2.swap.get (yYh (by omega)) (by rw[ySm];omega) (by rw[ySm,htl,hZl];omega) (by
   rw[yVr,yTo (by omega),ySz (by omega)];exact hy)
  rw[yVr,yTo (by omega),ySz (show ys.length≤vn*inf.size by omega),yTl]at hc1
  have es1:spl (xs.take (i*inf.size)++Z) (i*inf.size) ys=xs.take (i*inf.size)++ys++Z.drop ys.length:=by
   have:=zTc (xs.take (i*inf.size)) Z ys
   rwa [htl]at this
  rw[es1]at hc1
  have H3:=(H2.upd (.cells (xs.take (i*inf.size)++ys++Z.drop ys.length).toArray e)).drew
  have hg4:(xs++r).drop (i*inf.size)=xs.drop (i*inf.size)++r:=yVb hle
  have hc2:=eD (P:=P) (sT:=tS) (ty:=tI) hi (g:=w.heap.size) (o:=0+(i+vn)*inf.size) (dLen:=sn+vn-(i+vn)) (dCap:=G-(i+vn)) (b:=b) (so:=0+i*inf.size) (sLen:=sn-i) (sCap:=sk-i) (n:=sn-i) H3.get H3.swap.drop.swap.get (yYh (by omega)) (by rw[ySm,hxl,yTl,← yVf];exact yVa (yUp _ (by omega)) (Nat.le_add_right _ _)) (by
   rw[ySm,ySm,htl,hyl,yTk,hZl];omega) (by
   rw[yTl,hg4,yTo (by omega),ySz (by omega)]
   exact fun u hu=>h1 u (yVy hu))
  rw[yTl,yTl,hg4,yTo (by omega),ySz (show(xs.drop (i*inf.size)).length≤(sn-i)*inf.size by omega)]at hc2
  have es2:spl (xs.take (i*inf.size)++ys++Z.drop ys.length) ((i+vn)*inf.size) (xs.drop (i*inf.size))=xs.take (i*inf.size)++ys++xs.drop (i*inf.size)++(Z.drop ys.length).drop (xs.drop (i*inf.size)).length:=by
   have:=zTc (xs.take (i*inf.size)++ys) (Z.drop ys.length) (xs.drop (i*inf.size))
   rwa [show(xs.take (i*inf.size)++ys).length=(i+vn)*inf.size by rw[ySm,htl,hyl,hsum]]at this
  rw[es2]at hc2
  refine⟨⟨by omega,by omega⟩,_,_,_,_,hgr,?_⟩
  rw[zDm (show G≠i by omega),yTl]
  refine⟨⟨by omega,by omega,hG⟩,_,_,hc1,?_⟩
  rintro _ rfl
  rw[zDm (show G≠i+vn by omega),zDm (show sk≠i by omega),yTl,yTl]
  refine⟨⟨by omega,by omega,hG⟩,⟨by omega,by omega,hnk⟩,_,_,hc2,_,_,rfl,?_⟩
  have H4:=H3.upd (.cells (xs.take (i*inf.size)++ys++xs.drop (i*inf.size)++(Z.drop ys.length).drop (xs.drop (i*inf.size)).length).toArray e)
  have H5:=H4.slmk (n:=sn+vn) (c:=G) (sz:=inf.size) hfin (by
   rw[ySm,hfin,yTk,yTk,hZl,hyl,hdl]
   have:G*inf.size=(sn+vn)*inf.size+(G-(sn+vn))*inf.size:=by rw[← yVf];congr 1;omega
   omega) hG
  have H6:=H5.swap.slmk (n:=vn) (c:=vk) (sz:=inf.size) g4 g5 g6
  exact(H6.swap.perm (List.Perm.trans ((List.Perm.swap _ _ _).cons _) (List.Perm.swap _ _ _))).drop
 ·have c:i<sn:=by have:¬(i:Int)=(sn:Int):=by simpa using c
                  omega
  have hc:sn+vn≤sk:=by have:=yVx hc;omega
  rcases H.slcases with⟨_,e0,_⟩|⟨b,r,rfl,g1,g2,g3,H0⟩
  ·omega
  rcases H0.swap.slcases with⟨_,e0,_⟩|⟨vb,rv,rfl,g4,g5,g6,H1⟩
  ·omega
  have hrl:vn*sz≤r.length:=by
   have e1:(sn+vn)*sz≤sk*sz:=yUp _ hc
   rw[ySm,g1]at g2
   rw[yVf]at e1
   omega
  have H2:=H1.swap
  have hne:vb≠b:=Hp.apart H1
  have hg4:(xs++r).drop (i*sz)=xs.drop (i*sz)++r:=yVb hle
  have hex:=hov w vb b (0+(i+vn)*sz) vn vk (sn+vn-(i+vn)) (sk-(i+vn)) (ys++rv).toArray (xs++r).toArray e e hne H1.get H2.get (by
   rw[yWk,ySm,g1]
   have:=Nat.mul_pos (show 0<sn by omega) hsz
   omega)
  have H3:=H2.drew
  have hc1:=eD (P:=P) (sT:=tS) (ty:=tI) hi (g:=b) (o:=0+(i+vn)*sz) (dLen:=sn+vn-(i+vn)) (dCap:=sk-(i+vn)) (b:=b) (so:=0+i*sz) (sLen:=sn+vn-i) (sCap:=sk-i) (n:=sn-i) H3.get H3.get (by rw[show sn+vn-(i+vn)=sn-i by omega];exact Nat.min_eq_right (by omega)) (by
   rw[ySm,g1,yTl,← yVf];exact yVa (yUp _ (by omega)) (Nat.le_add_right _ _)) (by
   rw[ySm,g1,yTl,← yVf,show i+vn+(sn-i)=sn+vn by omega,yVf];omega) (by
   rw[yTl,hg4,yTo (by omega),ySz (by omega)]
   exact fun u hu=>h1 u (yVy hu))
  rw[yTl,yTl,hg4,yTo (by omega),ySz (show(xs.drop (i*sz)).length≤(sn-i)*sz by omega)]at hc1
  have H4:=H3.upd (.cells (spl (xs++r) ((i+vn)*sz) (xs.drop (i*sz))).toArray e)
  have hcl:(spl (xs++r) ((i+vn)*sz) (xs.drop (i*sz))).length=(xs++r).length:=by
   simp only[spl,ySm,yTe,hdl]
   rw[yTk,ySm,g1,hsum]
   have:sn*sz=i*sz+(sn-i)*sz:=by rw[← yVf];congr 1;omega
   omega
  have hc2:=eD (P:=P) (sT:=tS) (ty:=tI) hi (g:=b) (o:=0+i*sz) (dLen:=sn+vn-i) (dCap:=sk-i) (b:=vb) (so:=0) (sLen:=vn) (sCap:=vk) (n:=vn) H4.get H4.swap.get (yYh (by omega)) (by rw[ySm];omega) (by
   rw[hcl,ySm,yTl];omega) (by
   rw[yVr,yTo (by omega),ySz (by omega)];exact hy)
  rw[yVr,yTo (by omega),ySz (show ys.length≤vn*sz by omega),yTl]at hc2
  have es:spl (spl (xs++r) ((i+vn)*sz) (xs.drop (i*sz))) (i*sz) ys=(xs.take (i*sz)++ys++xs.drop (i*sz))++r.drop (vn*sz):=by
   have:=z6n (l:=i*sz) (m:=vn*sz) (xs:=xs) (r:=r) (ys:=ys) hle hyl hrl
   simp only[spl,hsum]
   exact this
  rw[es]at hc2
  refine⟨⟨by omega,by omega⟩,⟨by omega,by omega,by omega⟩,false,w,?_,Cv.cnd.mk (fun _=> ?_) (fun c=>absurd c (by decide))⟩
  ·rw[zDm (show sk≠i+vn by omega)];exact hex
  rintro _ rfl
  rw[zDm (show sk≠i+vn by omega),zDm (show sk≠i by omega),yTl,yTl]
  refine⟨⟨by omega,by omega,by omega⟩,⟨by omega,by omega,by omega⟩,_,_,hc1,⟨by omega,by omega,by omega⟩,_,_,hc2,_,_,rfl,?_⟩
  have H5:=H4.upd (.cells (xs.take (i*sz)++ys++xs.drop (i*sz)++r.drop (vn*sz)).toArray e)
  have H6:=H5.slmk (n:=sn+vn) (c:=sk) (sz:=sz) hfin (by
   rw[ySm,hfin,yTk,← g2,ySm,g1,yVf]
   omega) hc
  exact(H6.swap.slmk (n:=vn) (c:=vk) (sz:=sz) g4 g5 g6).swap
structure z5g where
 els:List (List D)
 el:List D
 i:Nat
def yFw (e sz by_:Nat):Con where
 ι:=z5g
 pat:=fun i=>[.own 0,.d (.v (.int .i64 i.i)),.own 1]
 pre:=fun i=>[.own e sz i.els,.own e sz [i.el]]
 cnd:=fun i=>i.i≤i.els.length∧(i.els.length+1)*by_≤70368744177664
 alts:=fun i=>[{o:=Unit,res:=fun _=> .own 2,post:=fun _=>[.gone,.gone,.own e sz (i.els.take i.i++i.el::i.els.drop i.i)],rel:=fun _=>True}]
theorem insX_ok {P:Program} (hm:P.follows .mixedOrders=true) {tS tI e sz by_ fI fO fR:Nat} {z:Array Value} {fn:Func} {c:Code} (hf:P.funcs[fI]? =some fn) (hb:fn.body=some c) (hbd:vU P fI=true) (hok:okC fn.ntmps c=true) (hfx:okF [] c=true) (hsz3:Nat.ble 3 fn.ntmps=true)
 (hi:uS P tS=some (e,sz,by_,z)) (hz:z.size=sz) (hby:0<by_) (hsz:0<sz) (h2:z0b P tS=true) (hti:P.underlying tI=some (.int .i64)) (hov:zSe P fO)
 (heq:∀(s:Option Addr) (sn sk:Nat) (i:Int) (v:Option Addr) (vn vk:Nat) (w:World) (R:Ending→World→Prop),yMr P tS tI sz fO fR s sn sk i v vn vk w R=cwp P [] c (zSj P fn R) (vX [.slice s sn sk,.int .i64 i,.slice v vn vk]) w):
 (yFw e sz by_).ok P fI:=by
 intro i hc k L E w ys R hv
 obtain⟨c1,c2⟩:i.i≤i.els.length∧(i.els.length+1)*by_≤70368744177664:=hc
 simp only[yFw,VRL,VR,DR]at hv
 obtain⟨y0,_,rfl,⟨l0,e0,_⟩,y1,_,rfl,⟨rfl,_⟩,y2,_,rfl,⟨l2,e2,_⟩,rfl⟩:=hv
 obtain⟨s,sk,xs,sub0,g1,hxs,hu,H⟩:=R.ownOpen (n:=0) (t:=e) (sz:=sz) (els:=i.els) rfl
 rw[e0]at g1;cases g1
 have hk2:∃v vk zs,y2= .slice v 1 vk∧DRL E.F i.el zs∧i.el.length=sz∧Hp k w (slO e sz s i.els.length sk xs::slO e sz v 1 vk zs::fz E.F::L):=by
  obtain⟨hk,hs,hh⟩:=H
  cases hh with
  |cons ha hsub hd hr=>
   simp only[yFw,gA,uD,ySn,yWe,yTt,yUu]at hr
   cases hr with
   |cons hb2 hsub2 hd2 hr2=>
    rcases hb2 with⟨q,_⟩|⟨⟨hv2,sub2⟩,q1,q2⟩
    ·cases q
    ·simp only at q1
     rw[e2]at q1;cases q1
     simp only[rowHP]at q2
     obtain⟨a,kk,zs,rfl,q3,q4,q5⟩:=q2
     simp only[yUs,List.flatten_nil,yTg]at q3
     exact⟨a,kk,zs,rfl,q3,q4 _ ySk,hk,_,.cons ha hsub hd (.cons q5 hsub2 hd2 hr2)⟩
 obtain⟨v,vk,zs,rfl,hzs,hel,H2⟩:=hk2
 have hv:=yRg (fR:=fR) (fO:=fO) hi hz hby hsz h2 hti hov (i:=i.i) H2 hxs.one hzs.one c1 (by omega) c2
 have hcall:=zGl (args:=[.slice s i.els.length sk,.int .i64 i.i,.slice v 1 vk]) hm hf hb [] hok hfx hsz3 (heq s i.els.length sk i.i v 1 vk w _) hv
 refine lS hbd (hcall.mono ?_)
 rintro en w' ⟨a,kk,rfl,H3⟩
 have H4:Hp k w' (slO e sz a (i.els.take i.i++i.el::i.els.drop i.i).length kk (xs.take (i.i*sz)++zs++xs.drop (i.i*sz))::(([]:List (Nat×AObj)).map (rHP E)++fz E.F::L)):=by
  have:(i.els.take i.i++i.el::i.els.drop i.i).length=i.els.length+1:=by
   rw[ySm,ySx,yTe,yTk];omega
  rw[this]
  exact H3.swap.drop
 obtain⟨E',r1,r2,r3⟩:=aC (nx:=2) R.nx (by
  rw[List.flatten_append,yUs,← mD i.i hu,← mE i.i hu,← ySq]
  exact((hxs.take _).append hzs).append (hxs.drop _)) (fun x hx=>by
   rcases yTi.1 hx with hx|hx
   ·exact hu x (yYb hx)
   ·rcases ySy.1 hx with rfl|hx
    ·exact hel
    ·exact hu x (yVy hx)) H4
 have hl:(i.els.take i.i++i.el::i.els.drop i.i).length=i.els.length+1:=by
  rw[ySm,ySx,yTe,yTk];omega
 rw[hl]at r3
 refine⟨_,rfl,_,yUd.2 rfl,(),trivial,E',r1,r3,⟨r2.nx,?_⟩⟩
 have q1:=((@hJ k w' True _).2 ⟨trivial,r2.hp⟩).imp (B:=rHP E' (1,.gone)) fun x hx=> .inl ⟨rfl,hx.2⟩
 have q2:=((@hJ k w' True _).2 ⟨trivial,q1⟩).imp (B:=rHP E' (0,.gone)) fun x hx=> .inl ⟨rfl,hx.2⟩
 exact q2
set_option maxRecDepth 100000
open Go Cv Go.Proofs
def bbetterC:Con:=con1 I3' (fun i=>[zA i.side,zA i.x,zA i.y]) (fun _=>[]) (fun _=>True) (fun i=>yR (btr i.side i.x i.y)) (fun _=>[])
@[reducible] def yOe (s:Slot):V:= .agg [yR s.used,zA s.n,zA s.id,zA s.qty,yR s.top,zA s.queue,zA s.ahead,zA s.back]
def pushFC:Con:=con1 Slot (fun s=>[yOe s]) (fun _=>[]) (fun _=>True) (fun s=>yR (!s.used)) (fun _=>[])
def kU (l:List Slot):Int:=zGx (l.findIdx? fun s=> !s.used)
def idxSlotC:Con:=con1 (List Slot) (fun _=>[.own 0,.fn 146 [] []]) (fun l=>[.own 193 8 (l.map zQ)]) (fun l=>l.length≤1000000) (fun l=>zA (kU l)) (fun l=>[.own 193 8 (l.map zQ)])
def yAy (l:List Slot):List SAnn:=[{ι:=Nat,slots:=fun j=>[(8,zA j)],rows:=fun _=>[]}]
def b9:fB:=⟨-1,-1,0,0⟩
def Arena.openQ (a:Arena):Arena:={a with queues:=a.queues++[b9]}
def aopenC:Con:=con1 Arena (fun _=>[.nm 0 0]) (fun a=>[jO a]) (fun a=>a.queues.length≤1000000) (fun a=>zA a.queues.length) (fun a=>[jO a.openQ])
structure z6u where
 a:Arena
 n:Int
 t:Bool
def Arena.usedAt (a:Arena) (n:Int):Bool:=decide (0≤n) && (decide (n<a.slots.length) && (a.slots.getD n.toNat slot0).used)
def Arena.topF (a:Arena) (n:Int) (t:Bool):Arena:=if a.usedAt n=true then{a with slots:=a.slots.modify n.toNat fun s=>{s with top:=t}}else a
def atopC:Con:=con1 z6u (fun i=>[.nm 0 0,zA i.n,yR i.t]) (fun i=>[jO i.a]) (fun i=>i.a.slots.length≤1000000) (fun i=>zA (if i.a.usedAt i.n=true then 0 else 26)) (fun i=>[jO (i.a.topF i.n i.t)])
structure PuI where
 a:Arena
 n:Int
 id:Int
 qty:Int
 top:Bool
def Arena.put (a:Arena) (n id qty:Int) (top:Bool):Arena:=
 let q:=a.queues.getD n.toNat b9
 let k:=kU a.slots
 let sl:=a.slots.set k.toNat ⟨true,k,id,qty,top,n,q.last,-1⟩
 ⟨if q.last= -1 then sl else sl.modify q.last.toNat fun s=>{s with back:=k},a.queues.set n.toNat ⟨if q.last= -1 then k else q.first,k,IntKind.i64.wrap (q.total+qty),IntKind.i64.wrap (q.count+1)⟩,IntKind.i64.wrap (a.free-1)⟩
def Arena.push (a:Arena) (n id qty:Int) (top:Bool):Arena×Int×Int:=
 if n<0∨a.queues.length≤n then(a,0,26)else if qty<1∨1000000<qty then(a,0,24)else if a.free=0 then(a,0,13)else(a.put n id qty top,kU a.slots,0)
def Arena.fit (a:Arena):Prop:=a.slots.length≤1000000∧(a.free≠0→∃s∈a.slots,s.used=false)∧∀q∈a.queues,q.last= -1∨(0≤q.last∧q.last<a.slots.length)
def apushC:Con:=con1 PuI (fun i=>[.nm 0 0,zA i.n,zA i.id,zA i.qty,yR i.top]) (fun i=>[jO i.a]) (fun i=>i.a.fit) (fun i=> .tup [zA (i.a.push i.n i.id i.qty i.top).2.1,zA (i.a.push i.n i.id i.qty i.top).2.2]) (fun i=>[jO (i.a.push i.n i.id i.qty i.top).1])
@[reducible] def zGg (b:Book):List AObj:=[zR b 0,zR b 1,zR b 2,zR b 3,zR b 4,zR b 5]
structure BkP where
 b:Book
 price:Int
def zX (s:Int) (l:List xN) (price:Int):Nat:=(l.takeWhile fun r=>btr s r.price price).length
def kR (s:Int) (l:List xN) (price:Int):Bool:=match l[zX s l price]? with
 |some r=>decide (r.price=price)
 |none=>false
def Book.rungs (b:Book) (s:Int):List xN:=if s=1 then b.buys else b.sells
def z8u (s:Int):Con:=con1 BkP (fun i=>[.nm 0 0,zA s,zA i.price]) (fun i=>zGg i.b) (fun i=>i.b.small) (fun i=> .tup [zA (zX s (i.b.rungs s) i.price),yR (kR s (i.b.rungs s) i.price)]) (fun i=>zGg i.b)
def find1C:Con:=z8u 1
def find2C:Con:=z8u 2
def yIl:List SAnn:=[{ι:=Nat,slots:=fun j=>[(9,zA j)],rows:=fun _=>[]}]
def pget (l:List (Int×Place)) (k:Int):Option Place:=(l.find? fun x=>decide (x.1=k)).map (·.2)
def nX (k:Int) (v:Place):List (Int×Place)→List (Int×Place)
 |[]=>[(k,v)]
 |(a,b)::l=>if k=a then(a,v)::l else(a,b)::nX k v l
structure LdI where
 b:Book
 id:Int
def Book.hasF (b:Book) (s:Int):Bool:=if s=1 then b.has1 else b.has2
def Book.topI (b:Book) (s:Int):Int:=if s=1 then b.top1 else b.top2
def Book.untop (b:Book) (s:Int):Arena:=if b.hasF s=true then(match pget b.at_ (b.topI s)with
 |some o=>if o.side=s then b.a.topF o.slot false else b.a
 |none=>b.a)else b.a
def Book.leadF (b:Book) (id s:Int):Book:=if s=1 then{b with a:=b.untop s,top1:=id,has1:=true}else{b with a:=b.untop s,top2:=id,has2:=true}
def z9x (s:Int):Con:=con1 LdI (fun i=>[.nm 0 0,zA i.id,zA s]) (fun i=>zGg i.b) (fun i=>i.b.small) (fun _=>zTg) (fun i=>zGg (i.b.leadF i.id s))
def lead1C:Con:=z9x 1
def lead2C:Con:=z9x 2
def Book.newQ (b:Book):Int×List Int×Arena:=if b.spare.length=0 then(b.a.queues.length,b.spare,b.a.openQ)else(b.spare.getD (b.spare.length-1) 0,b.spare.take (b.spare.length-1),b.a)
def Book.ins (b:Book) (s price:Int):List xN:=(b.rungs s).take (zX s (b.rungs s) price)++⟨price,b.newQ.1⟩::(b.rungs s).drop (zX s (b.rungs s) price)
def Book.queueF (b:Book) (s price:Int):Book×Int:=
 if kR s (b.rungs s) price=true then(b,((b.rungs s).getD (zX s (b.rungs s) price) ⟨0,0⟩).queue)
 else(if s=1 then{b with a:=b.newQ.2.2,buys:=b.ins s price,spare:=b.newQ.2.1}else{b with a:=b.newQ.2.2,sells:=b.ins s price,spare:=b.newQ.2.1},b.newQ.1)
def yEq (b:Book):AObj:= .cells [.nm 1 0,.own 6,.own 3,.mp 4,zA b.top1,zA b.top2,.own 7,yR b.has1,yR b.has2] 144
def yGo (b:Book):AObj:= .cells [.nm 1 0,.own 2,.own 6,.mp 4,zA b.top1,zA b.top2,.own 7,yR b.has1,yR b.has2] 144
@[reducible] def yNj (b:Book):List AObj:=[yEq b,zR b 1,.gone,zR b 3,zR b 4,.gone,zR b 2,zR b 5]
@[reducible] def yNg (b:Book):List AObj:=[yGo b,zR b 1,zR b 2,.gone,zR b 4,.gone,zR b 3,zR b 5]
@[reducible] def Book.fit (b:Book):Prop:=b.a.fit∧b.a.queues.length≤100000∧b.buys.length≤100000∧b.sells.length≤100000∧b.spare.length≤100000
def queue1C:Con:=con1 BkP (fun i=>[.nm 0 0,zA 1,zA i.price]) (fun i=>zGg i.b) (fun i=>i.b.fit) (fun i=>zA (i.b.queueF 1 i.price).2) (fun i=>yNj (i.b.queueF 1 i.price).1)
def queue2C:Con:=con1 BkP (fun i=>[.nm 0 0,zA 2,zA i.price]) (fun i=>zGg i.b) (fun i=>i.b.fit) (fun i=>zA (i.b.queueF 2 i.price).2) (fun i=>yNg (i.b.queueF 2 i.price).1)
def insRC:Con:=yFw 147 2 16
open Go Cv Go.Proofs
def zVh (i:I3'):Prop:=
 cnd (i.side==1) (∃(a:Unit),btr i.side i.x i.y=decide (i.x>i.y)∧True) (∃(a:Unit),btr i.side i.x i.y=decide (i.x<i.y)∧True)
def yAu (s:Slot):Prop:=
 ∃(a:Unit),(!s.used)=!s.used∧True
def zWl (l:List Slot):Prop:=
 ∃(a:Nat),(↑a:Int)=0∧∃(b:Nat→Prop),∃(c:Nat→Nat),b a∧∀(d:Nat),b d→cnd (decide ((↑d:Int)<(↑(List.map zQ l).length:Int))) ((0≤(↑d:Int)∧(↑d:Int)<(↑(List.map zQ l).length:Int))∧∃(e:Bool),∃(f:Int),∃(g:Int),∃(h:Int),∃(j:Bool),∃(k:Int),∃(m:Int),∃(n:Int),zF (List.map zQ l) (↑d:Int).toNat 0 8=some [D.v (.bool e),dI f,dI g,dI h,D.v (.bool j),dI k,dI m,dI n]∧∃(p:Slot),p.used=e∧p.n=f∧p.id=g∧p.qty=h∧p.top=j∧p.queue=k∧p.ahead=m∧p.back=n∧True∧∀(q:Unit),True→cnd (!p.used) (∃(r:Unit),kU l=(↑d:Int)∧List.map zQ l=List.map zQ l∧True) (∃(r:Nat),(↑r:Int)=IntKind.i64.wrap ((↑d:Int)+1)∧b r∧c r<c d∧AObj.own 193 8 (List.map zQ l)=AObj.own 193 8 (List.map zQ l))) (∃(e:Unit),kU l=(-1)∧List.map zQ l=List.map zQ l∧True)
def yDj (a:Arena):Prop:=
 ((List.map zN a.queues).length+1)*(32:Nat)≤(70368744177664:Nat)∧∃(b:Unit),(↑a.queues.length:Int)=IntKind.i64.wrap ((↑(List.map zN a.queues++[[dI (-1),dI (-1),dI 0,dI 0]]).length:Int)-1)∧a.free=a.free∧List.map zQ a.slots=List.map zQ a.slots∧List.map zN (a.queues++[b9])=List.map zN a.queues++[[dI (-1),dI (-1),dI 0,dI 0]]∧True
def eE (a:z6u):Prop:=∃(b:Unit),(if a.a.usedAt a.n=true then(0:Int)else(26:Int))=26∧(a.a.topF a.n a.t).free=a.a.free∧List.map zQ (a.a.topF a.n a.t).slots=List.map zQ a.a.slots∧List.map zN (a.a.topF a.n a.t).queues=List.map zN a.a.queues∧True
def yIo (i:z6u):Prop:=
 cnd (decide (i.n<0)) (eE i) (cnd (decide (i.n≥(↑(List.map zQ i.a.slots).length:Int))) (eE i) ((0≤i.n∧i.n<(↑(List.map zQ i.a.slots).length:Int))∧∃(a:Bool),zF (List.map zQ i.a.slots) i.n.toNat ((0:Nat)+(0:Nat)) 1=some [D.v (.bool a)]∧cnd (!a) (eE i) ((0≤i.n∧i.n<(↑(List.map zQ i.a.slots).length:Int))∧i.n.toNat<(List.map zQ i.a.slots).length∧∃(b:Unit),(if i.a.usedAt i.n=true then(0:Int)else(26:Int))=0∧(i.a.topF i.n i.t).free=i.a.free∧List.map zQ (i.a.topF i.n i.t).slots=z9 (List.map zQ i.a.slots) i.n.toNat ((0:Nat)+(1:Nat)+3) [D.v (.bool i.t)]∧List.map zN (i.a.topF i.n i.t).queues=List.map zN i.a.queues∧True)))
def yJ (a:PuI):=(a.a.push a.n a.id a.qty a.top)
def pH (a:PuI):Prop:=(yJ a).fst.free=a.a.free∧List.map zQ (yJ a).fst.slots=List.map zQ a.a.slots∧List.map zN (yJ a).fst.queues=List.map zN a.a.queues∧True
def zAt (a:PuI):Prop:=∃(b:Unit),(yJ a).snd.fst=0∧(yJ a).snd.snd=26∧pH a
def lE (a:PuI):Prop:=∃(b:Unit),(yJ a).snd.fst=0∧(yJ a).snd.snd=24∧pH a
def nB (a:PuI) (b:List Slot):=(z9 (z9 (List.map zN a.a.queues) a.n.toNat ((0:Nat)+(0:Nat)) [dI (kU b)]) a.n.toNat ((0:Nat)+(1:Nat)) [dI (kU b)])
def nW (a:PuI) (b:List Slot) (c:Int):=(z9 (nB a b) a.n.toNat ((0:Nat)+(2:Nat)) [dI (IntKind.i64.wrap (c+a.qty))])
def nN (a:PuI) (b:List Slot):=(z9 (List.map zN a.a.queues) a.n.toNat ((0:Nat)+(1:Nat)) [dI (kU b)])
def nV (a:PuI) (b:List Slot) (c:Int):=(z9 (nN a b) a.n.toNat ((0:Nat)+(2:Nat)) [dI (IntKind.i64.wrap (c+a.qty))])
def z7i (i:PuI):Prop:=
 cnd (decide (i.n≥0)) (cnd (!decide (i.n<(↑(List.map zN i.a.queues).length:Int))) (zAt i) (cnd (decide (i.qty<1)) (lE i) (cnd (decide (i.qty>1000000)) (lE i) (cnd (i.a.free==0) (∃(a:Unit),(yJ i).snd.fst=0∧(yJ i).snd.snd=13∧pH i) (∃(a:List Slot),List.map zQ a=List.map zQ i.a.slots∧a.length≤1000000∧∀(b:Unit),True→(0≤i.n∧i.n<(↑(List.map zN i.a.queues).length:Int))∧∃(c:Int),zF (List.map zN i.a.queues) i.n.toNat ((0:Nat)+(1:Nat)) 1=some [dI c]∧(0≤kU a∧kU a<(↑(List.map zQ a).length:Int))∧(kU a).toNat<(List.map zQ a).length∧∃(d:Int),zF (List.map zN i.a.queues) i.n.toNat ((0:Nat)+(1:Nat)) 1=some [dI d]∧cnd (d==(-1)) (i.n.toNat<(List.map zN i.a.queues).length∧i.n.toNat<(z9 (List.map zN i.a.queues) i.n.toNat ((0:Nat)+(0:Nat)) [dI (kU a)]).length∧∃(e:Int),zF (nB i a) i.n.toNat ((0:Nat)+(2:Nat)) 1=some [dI e]∧i.n.toNat<(nB i a).length∧∃(f:Int),zF (nW i a e) i.n.toNat ((0:Nat)+(3:Nat)) 1=some [dI f]∧i.n.toNat<(nW i a e).length∧∃(g:Unit),(yJ i).snd.fst=kU a∧(yJ i).snd.snd=0∧(yJ i).fst.free=IntKind.i64.wrap (i.a.free-1)∧List.map zQ (yJ i).fst.slots=z9 (List.map zQ a) (kU a).toNat 0 [D.v (.bool true),dI (kU a),dI i.id,dI i.qty,D.v (.bool i.top),dI i.n,dI c,dI (-1)]∧List.map zN (yJ i).fst.queues=z9 (nW i a e) i.n.toNat ((0:Nat)+(3:Nat)) [dI (IntKind.i64.wrap (f+1))]∧True) (∃(e:Int),zF (List.map zN i.a.queues) i.n.toNat ((0:Nat)+(1:Nat)) 1=some [dI e]∧(0≤e∧e<(↑(z9 (List.map zQ a) (kU a).toNat 0 [D.v (.bool true),dI (kU a),dI i.id,dI i.qty,D.v (.bool i.top),dI i.n,dI c,dI (-1)]).length:Int))∧e.toNat<(z9 (List.map zQ a) (kU a).toNat 0 [D.v (.bool true),dI (kU a),dI i.id,dI i.qty,D.v (.bool i.top),dI i.n,dI c,dI (-1)]).length∧i.n.toNat<(List.map zN i.a.queues).length∧∃(f:Int),zF (nN i a) i.n.toNat ((0:Nat)+(2:Nat)) 1=some [dI f]∧i.n.toNat<(nN i a).length∧∃(g:Int),zF (nV i a f) i.n.toNat ((0:Nat)+(3:Nat)) 1=some [dI g]∧i.n.toNat<(nV i a f).length∧∃(h:Unit),(yJ i).snd.fst=kU a∧(yJ i).snd.snd=0∧(yJ i).fst.free=IntKind.i64.wrap (i.a.free-1)∧List.map zQ (yJ i).fst.slots=z9 (z9 (List.map zQ a) (kU a).toNat 0 [D.v (.bool true),dI (kU a),dI i.id,dI i.qty,D.v (.bool i.top),dI i.n,dI c,dI (-1)]) e.toNat ((0:Nat)+(7:Nat)) [dI (kU a)]∧List.map zN (yJ i).fst.queues=z9 (nV i a f) i.n.toNat ((0:Nat)+(3:Nat)) [dI (IntKind.i64.wrap (g+1))]∧True)))))) (zAt i)
def xY (a:BkP):=(↑(zX 1 (a.b.rungs 1) a.price):Int)
def vN (a:BkP):=(↑(List.map zC a.b.buys).length:Int)
def f0 (a:BkP):Prop:=a.b.top1=a.b.top1∧a.b.top2=a.b.top2∧a.b.has1=a.b.has1∧a.b.has2=a.b.has2∧AObj.adt Arena 3 zG a.b.a=zR a.b 1∧List.map zC a.b.buys=List.map zC a.b.buys∧List.map zC a.b.sells=List.map zC a.b.sells∧atE a.b.at_=atE a.b.at_∧iE a.b.spare=iE a.b.spare∧True
def zFe (a:Nat) (b:BkP):Prop:=(0≤(↑a:Int)∧(↑a:Int)<(vN b))∧∃(c:Int),zF (List.map zC b.b.buys) (↑a:Int).toNat ((0:Nat)+(0:Nat)) 1=some [dI c]∧∃(d:Unit),(xY b)=(↑a:Int)∧kR 1 (b.b.rungs 1) b.price=(c==b.price)∧f0 b
def zAm (a:BkP) (b:Nat):Prop:=∃(c:Unit),(xY a)=(↑b:Int)∧kR 1 (a.b.rungs 1) a.price=false∧f0 a
def pP (a:Nat) (b:Nat→Prop) (c:Nat→Nat) (d:BkP):Prop:=∃(e:Nat),(↑e:Int)=IntKind.i64.wrap ((↑a:Int)+1)∧b e∧c e<c a∧zR d.b 0=zR d.b 0∧zR d.b 1=zR d.b 1∧zR d.b 2=zR d.b 2∧zR d.b 3=zR d.b 3∧zR d.b 4=zR d.b 4∧zR d.b 5=zR d.b 5
def nH (a:Nat) (b:BkP):=(decide ((↑a:Int)<(vN b)))
def yBk (i:BkP):Prop:=
 ∃(a:Nat),(↑a:Int)=0∧∃(b:Nat→Prop),∃(c:Nat→Nat),b a∧∀(d:Nat),b d→cnd (nH d i) ((0≤(↑d:Int)∧(↑d:Int)<(vN i))∧∃(e:Int),zF (List.map zC i.b.buys) (↑d:Int).toNat ((0:Nat)+(0:Nat)) 1=some [dI e]∧∃(f:I3'),f.side=1∧f.x=e∧f.y=i.price∧True∧∀(g:Unit),True→cnd (btr f.side f.x f.y) (pP d b c i) (cnd (nH d i) (zFe d i) (zAm i d))) (cnd (nH d i) (zFe d i) (zAm i d))
def xX (a:BkP):=(↑(zX 2 (a.b.rungs 2) a.price):Int)
def vG (a:BkP):=(↑(List.map zC a.b.sells).length:Int)
def zDy (a:Nat) (b:BkP):Prop:=(0≤(↑a:Int)∧(↑a:Int)<(vG b))∧∃(c:Int),zF (List.map zC b.b.sells) (↑a:Int).toNat ((0:Nat)+(0:Nat)) 1=some [dI c]∧∃(d:Unit),(xX b)=(↑a:Int)∧kR 2 (b.b.rungs 2) b.price=(c==b.price)∧f0 b
def lP (a:BkP) (b:Nat):Prop:=∃(c:Unit),(xX a)=(↑b:Int)∧kR 2 (a.b.rungs 2) a.price=false∧f0 a
def nZ (a:Nat) (b:BkP):=(decide ((↑a:Int)<(vG b)))
def z7n (i:BkP):Prop:=
 ∃(a:Nat),(↑a:Int)=0∧∃(b:Nat→Prop),∃(c:Nat→Nat),b a∧∀(d:Nat),b d→cnd (nZ d i) ((0≤(↑d:Int)∧(↑d:Int)<(vG i))∧∃(e:Int),zF (List.map zC i.b.sells) (↑d:Int).toNat ((0:Nat)+(0:Nat)) 1=some [dI e]∧∃(f:I3'),f.side=2∧f.x=e∧f.y=i.price∧True∧∀(g:Unit),True→cnd (btr f.side f.x f.y) (pP d b c i) (cnd (nZ d i) (zDy d i) (lP i d))) (cnd (nZ d i) (zDy d i) (lP i d))
def dD (a:LdI):Prop:=List.map zC a.b.buys=List.map zC a.b.buys∧List.map zC a.b.sells=List.map zC a.b.sells∧atE a.b.at_=atE a.b.at_∧iE a.b.spare=iE a.b.spare∧True
def pZ (a:LdI):Prop:=∃(b:Unit),a.id=a.id∧a.b.top2=a.b.top2∧true=true∧a.b.has2=a.b.has2∧AObj.adt Arena 3 zG (a.b.untop 1)=zR a.b 1∧dD a
def lH (a:LdI) (b:Int) (c:Int) (d:Int) (e:Bool):Prop:=wI (Value.int IntKind.i64 a.b.top1) (atE a.b.at_)=some [dI b,dI c,dI d]∧e=true∨wI (Value.int IntKind.i64 a.b.top1) (atE a.b.at_)=none∧[dI b,dI c,dI d]=[dI 0,dI 0,dI 0]∧e=false
def lM (a:LdI):Prop:=∀(b:Value×List D),b∈atE a.b.at_→like (Value.int IntKind.i64 a.b.top1) b.fst=true
def yCr (i:LdI):Prop:=
 cnd i.b.has1 ((lM i)∧∃(a:Bool),∃(b:Int),∃(c:Int),∃(d:Int),(lH i b c d a)∧((lM i)∧∃(e:Bool),∃(f:Int),∃(g:Int),∃(h:Int),(lH i f g h e)∧(f=b∧g=c∧h=d∧True)∧e=a∧True)∧i.b.top1=i.b.top1∧True∧cnd a (cnd (b==1) (∃(e:z6u),e.n=d∧e.t=false∧AObj.adt Arena 3 zG e.a=zR i.b 1∧e.a.slots.length≤1000000∧∀(f:Unit),True→∃(g:Unit),i.id=i.id∧i.b.top2=i.b.top2∧true=true∧i.b.has2=i.b.has2∧AObj.adt Arena 3 zG (i.b.untop 1)=AObj.adt Arena 3 zG (e.a.topF e.n e.t)∧dD i) (pZ i)) (pZ i)) (pZ i)
def nD (a:LdI):Prop:=∃(b:Unit),a.b.top1=a.b.top1∧a.id=a.id∧a.b.has1=a.b.has1∧true=true∧AObj.adt Arena 3 zG (a.b.untop 2)=zR a.b 1∧dD a
def zAf (a:LdI) (b:Int) (c:Int) (d:Int) (e:Bool):Prop:=wI (Value.int IntKind.i64 a.b.top2) (atE a.b.at_)=some [dI b,dI c,dI d]∧e=true∨wI (Value.int IntKind.i64 a.b.top2) (atE a.b.at_)=none∧[dI b,dI c,dI d]=[dI 0,dI 0,dI 0]∧e=false
def zAd (a:LdI):Prop:=∀(b:Value×List D),b∈atE a.b.at_→like (Value.int IntKind.i64 a.b.top2) b.fst=true
def z8y (i:LdI):Prop:=
 cnd i.b.has2 ((zAd i)∧∃(a:Bool),∃(b:Int),∃(c:Int),∃(d:Int),(zAf i b c d a)∧((zAd i)∧∃(e:Bool),∃(f:Int),∃(g:Int),∃(h:Int),(zAf i f g h e)∧(f=b∧g=c∧h=d∧True)∧e=a∧True)∧i.b.top2=i.b.top2∧True∧cnd a (cnd (b==2) (∃(e:z6u),e.n=d∧e.t=false∧AObj.adt Arena 3 zG e.a=zR i.b 1∧e.a.slots.length≤1000000∧∀(f:Unit),True→∃(g:Unit),i.b.top1=i.b.top1∧i.id=i.id∧i.b.has1=i.b.has1∧true=true∧AObj.adt Arena 3 zG (i.b.untop 2)=AObj.adt Arena 3 zG (e.a.topF e.n e.t)∧dD i) (nD i)) (nD i)) (nD i)
def x9 (a:BkP):Prop:=(a.b.a.slots.length≤1000000∧a.b.a.queues.length≤1000000)∧a.b.buys.length≤1000000∧a.b.sells.length≤1000000∧a.b.spare.length≤1000000
def gK (a:BkP):Prop:=0≤(xY a)∧(xY a)<(vN a)
def vI (a:BkP):=((↑(iE a.b.spare).length:Int)-1)
def aP (a:BkP):Prop:=0≤IntKind.i64.wrap (vI a)∧IntKind.i64.wrap (vI a)≤(↑(iE a.b.spare).length:Int)
def aK (a:BkP):Prop:=0≤IntKind.i64.wrap (vI a)∧IntKind.i64.wrap (vI a)<(↑(iE a.b.spare).length:Int)
def gR (a:z5g):Prop:=a.i≤a.els.length∧(a.els.length+1)*(16:Nat)≤(70368744177664:Nat)
def gM (a:BkP):=(IntKind.i64.wrap (vI a))
def zM (a:BkP):=(a.b.queueF 1 a.price)
def z1i (i:BkP):Prop:=
 ∃(a:BkP),(1:Int)=(1:Int)∧a.price=i.price∧a.b.top1=i.b.top1∧a.b.top2=i.b.top2∧a.b.has1=i.b.has1∧a.b.has2=i.b.has2∧AObj.adt Arena 3 zG a.b.a=zR i.b 1∧List.map zC a.b.buys=List.map zC i.b.buys∧List.map zC a.b.sells=List.map zC i.b.sells∧atE a.b.at_=atE i.b.at_∧iE a.b.spare=iE i.b.spare∧(x9 a)∧∀(b:Unit),True→cnd (kR 1 (a.b.rungs 1) a.price) ((gK a)∧∃(c:Int),zF (List.map zC a.b.buys) (xY a).toNat ((0:Nat)+(1:Nat)) 1=some [dI c]∧∃(d:Unit),(zM i).snd=c∧(zM i).fst.top1=a.b.top1∧(zM i).fst.top2=a.b.top2∧(zM i).fst.has1=a.b.has1∧(zM i).fst.has2=a.b.has2∧AObj.adt Arena 3 zG (zM i).fst.a=AObj.adt Arena 3 zG a.b.a∧List.map zC (zM i).fst.sells=List.map zC a.b.sells∧atE (zM i).fst.at_=atE a.b.at_∧List.map zC (zM i).fst.buys=List.map zC a.b.buys∧iE (zM i).fst.spare=iE a.b.spare∧True) (cnd (decide ((↑(iE a.b.spare).length:Int)>0)) ((aK a)∧∃(c:Int),zF (iE a.b.spare) (gM a).toNat 0 1=some [dI c]∧(aP a)∧True∧∃(d:z5g),(↑d.i:Int)=(xY a)∧d.els=List.map zC a.b.buys∧[d.el]=[[dI i.price,dI c]]∧(gR d)∧∀(e:Unit),True→∃(f:Unit),(zM i).snd=c∧(zM i).fst.top1=a.b.top1∧(zM i).fst.top2=a.b.top2∧(zM i).fst.has1=a.b.has1∧(zM i).fst.has2=a.b.has2∧AObj.adt Arena 3 zG (zM i).fst.a=AObj.adt Arena 3 zG a.b.a∧List.map zC (zM i).fst.sells=List.map zC a.b.sells∧atE (zM i).fst.at_=atE a.b.at_∧List.map zC (zM i).fst.buys=List.take d.i d.els++d.el::List.drop d.i d.els∧iE (zM i).fst.spare=List.take (gM a).toNat (iE a.b.spare)∧True) (∃(c:Arena),AObj.adt Arena 3 zG c=AObj.adt Arena 3 zG a.b.a∧c.queues.length≤1000000∧∀(d:Unit),True→True∧∃(e:z5g),(↑e.i:Int)=(xY a)∧e.els=List.map zC a.b.buys∧[e.el]=[[dI i.price,dI (↑c.queues.length:Int)]]∧(gR e)∧∀(f:Unit),True→∃(g:Unit),(zM i).snd=(↑c.queues.length:Int)∧(zM i).fst.top1=a.b.top1∧(zM i).fst.top2=a.b.top2∧(zM i).fst.has1=a.b.has1∧(zM i).fst.has2=a.b.has2∧AObj.adt Arena 3 zG (zM i).fst.a=AObj.adt Arena 3 zG c.openQ∧List.map zC (zM i).fst.sells=List.map zC a.b.sells∧atE (zM i).fst.at_=atE a.b.at_∧List.map zC (zM i).fst.buys=List.take e.i e.els++e.el::List.drop e.i e.els∧iE (zM i).fst.spare=iE a.b.spare∧True))
def gU (a:BkP):Prop:=0≤(xX a)∧(xX a)<(vG a)
def zL (a:BkP):=(a.b.queueF 2 a.price)
def z3k (i:BkP):Prop:=
 ∃(a:BkP),(2:Int)=(2:Int)∧a.price=i.price∧a.b.top1=i.b.top1∧a.b.top2=i.b.top2∧a.b.has1=i.b.has1∧a.b.has2=i.b.has2∧AObj.adt Arena 3 zG a.b.a=zR i.b 1∧List.map zC a.b.buys=List.map zC i.b.buys∧List.map zC a.b.sells=List.map zC i.b.sells∧atE a.b.at_=atE i.b.at_∧iE a.b.spare=iE i.b.spare∧(x9 a)∧∀(b:Unit),True→cnd (kR 2 (a.b.rungs 2) a.price) ((gU a)∧∃(c:Int),zF (List.map zC a.b.sells) (xX a).toNat ((0:Nat)+(1:Nat)) 1=some [dI c]∧∃(d:Unit),(zL i).snd=c∧(zL i).fst.top1=a.b.top1∧(zL i).fst.top2=a.b.top2∧(zL i).fst.has1=a.b.has1∧(zL i).fst.has2=a.b.has2∧AObj.adt Arena 3 zG (zL i).fst.a=AObj.adt Arena 3 zG a.b.a∧List.map zC (zL i).fst.buys=List.map zC a.b.buys∧atE (zL i).fst.at_=atE a.b.at_∧List.map zC (zL i).fst.sells=List.map zC a.b.sells∧iE (zL i).fst.spare=iE a.b.spare∧True) (cnd (decide ((↑(iE a.b.spare).length:Int)>0)) ((aK a)∧∃(c:Int),zF (iE a.b.spare) (gM a).toNat 0 1=some [dI c]∧(aP a)∧True∧∃(d:z5g),(↑d.i:Int)=(xX a)∧d.els=List.map zC a.b.sells∧[d.el]=[[dI i.price,dI c]]∧(gR d)∧∀(e:Unit),True→∃(f:Unit),(zL i).snd=c∧(zL i).fst.top1=a.b.top1∧(zL i).fst.top2=a.b.top2∧(zL i).fst.has1=a.b.has1∧(zL i).fst.has2=a.b.has2∧AObj.adt Arena 3 zG (zL i).fst.a=AObj.adt Arena 3 zG a.b.a∧List.map zC (zL i).fst.buys=List.map zC a.b.buys∧atE (zL i).fst.at_=atE a.b.at_∧List.map zC (zL i).fst.sells=List.take d.i d.els++d.el::List.drop d.i d.els∧iE (zL i).fst.spare=List.take (gM a).toNat (iE a.b.spare)∧True) (∃(c:Arena),AObj.adt Arena 3 zG c=AObj.adt Arena 3 zG a.b.a∧c.queues.length≤1000000∧∀(d:Unit),True→True∧∃(e:z5g),(↑e.i:Int)=(xX a)∧e.els=List.map zC a.b.sells∧[e.el]=[[dI i.price,dI (↑c.queues.length:Int)]]∧(gR e)∧∀(f:Unit),True→∃(g:Unit),(zL i).snd=(↑c.queues.length:Int)∧(zL i).fst.top1=a.b.top1∧(zL i).fst.top2=a.b.top2∧(zL i).fst.has1=a.b.has1∧(zL i).fst.has2=a.b.has2∧AObj.adt Arena 3 zG (zL i).fst.a=AObj.adt Arena 3 zG c.openQ∧List.map zC (zL i).fst.buys=List.map zC a.b.buys∧atE (zL i).fst.at_=atE a.b.at_∧List.map zC (zL i).fst.sells=List.take e.i e.els++e.el::List.drop e.i e.els∧iE (zL i).fst.spare=iE a.b.spare∧True))
open Go Cv Go.Proofs
theorem bY:bbetterC.ok Tryz.prog 111:=okw (V:=zVh) mixed gok0 0 (fun _=>[]) (fun _=>[]) [] Tryz.func111 fun(i:I3') _=>by
 unfold zVh
 refine Cv.cnd.mk (fun c=> ?_) (fun c=> ?_)
 ·have c:i.side=1:=by simpa using c
  rw[btr,ySf c];(repeat'(first|exact rfl|exact trivial|assumption|apply And.intro|refine fun(_:Unit) (_:True)=>?_|refine Exists.intro () ?_|omega|(dsimp only;omega)))
 ·have c:¬i.side=1:=by simpa using c
  rw[btr,ySe c];(repeat'(first|exact rfl|exact trivial|assumption|apply And.intro|refine fun(_:Unit) (_:True)=>?_|refine Exists.intro () ?_|omega|(dsimp only;omega)))
theorem yBs:pushFC.ok Tryz.prog 146:=okw (V:=yAu) mixed gok0 0 (fun _=>[]) (fun _=>[]) [] Tryz.func146 fun(s:Slot) _=>by
 unfold yAu;(repeat'(first|exact rfl|exact trivial|assumption|apply And.intro|refine fun(_:Unit) (_:True)=>?_|refine Exists.intro () ?_|omega|(dsimp only;omega)))
theorem yQv {l:List Slot} {k:Nat} {s:Slot} (h:l[k]? =some s):zF (l.map zQ) k 0 8=some [D.v (.bool s.used),.v (.int .i64 s.n),.v (.int .i64 s.id),.v (.int .i64 s.qty),.v (.bool s.top),.v (.int .i64 s.queue),.v (.int .i64 s.ahead),.v (.int .i64 s.back)]:=elA h (by simp[zQ]) rfl
theorem yAd (l:List Slot) (h:idxSlotC.cnd l):zWl l:=by
 have h:l.length≤1000000:=h
 unfold zWl dI
 simp only[ySh]
 refine⟨0,rfl,fun j=>j≤l.length∧∀k<j,∀x,l[k]? =some x→(!x.used)=false,fun j=>l.length-j,⟨by omega,fun k hk=>by omega⟩,?_⟩
 rintro j ⟨h3,h4⟩
 refine zK (fun hj=> ?_) (fun hj=> ?_)
 ·obtain⟨s,hs⟩:=z6 (l:=l) (i:=j) (by omega)
  refine⟨⟨by omega,by omega⟩,s.used,s.n,s.id,s.qty,s.top,s.queue,s.ahead,s.back,yQv hs,s,rfl,rfl,rfl,rfl,rfl,rfl,rfl,rfl,trivial,fun _ _=>Cv.cnd.mk (fun e=> ?_) (fun e=> ?_)⟩
  ·rw[kU,zEw hs e h4];(repeat'(first|exact rfl|exact trivial|assumption|apply And.intro|refine fun(_:Unit) (_:True)=>?_|refine Exists.intro () ?_|omega|(dsimp only;omega)))
  ·refine⟨j+1,by rw[w64 (by omega)];rfl,⟨by omega,fun k hk x hx=> ?_⟩,by(first|omega|(dsimp only;omega)),by(repeat'(first|exact trivial|exact rfl|apply And.intro))⟩
   rcases yUr k j with hk'|hk'
   ·exact h4 k hk' x hx
   ·obtain rfl:k=j:=by omega
    rw[hs]at hx;cases hx;exact e
 ·rw[kU,zEc fun k x hx=>h4 k (by have:=(ySg.1 hx).1;omega) x hx];(repeat'(first|exact rfl|exact trivial|assumption|apply And.intro|refine fun(_:Unit) (_:True)=>?_|refine Exists.intro () ?_|omega|(dsimp only;omega)))
theorem z0m:idxSlotC.ok Tryz.prog 145:=okw mixed (gokc yBs gok0) 0 (fun _=>[]) (fun l=>yAy l) [] Tryz.func145 yAd
theorem zVw:aopenC.ok Tryz.prog 147:=okw (V:=yDj) mixed gok0 0 (fun _=>[]) (fun _=>[]) [0] Tryz.func147 fun(a:Arena) h=>by
 have h:a.queues.length≤1000000:=h
 unfold yDj dI
 rw[ySm,ySh,w64 (by simp only[ySx,yUz];omega)]
 refine⟨by omega,(),?_,rfl,rfl,?_,trivial⟩
 ·simp
 ·rw[ySr];rfl
theorem dO {α:Type} {f:α→α}:∀{l:List α} {i:Nat} {x:α},l[i]? =some x→l.modify i f=l.set i (f x)
 |[],i,x,h=>by simp at h
 |a::l,0,x,h=>by simp at h;subst h;rfl
 |a::l,i+1,x,h=>by
  simp only[yTx]at h
  simp only[yWd,yVw,dO h]
theorem yI {α:Type} {f:α→List D} {l:List α} {i g:Nat} {x y:α} {ds:List D} (hi:l[i]? =some x) (hh:(f x).take g++(ds++(f x).drop (g+ds.length))=f y):z9 (l.map f) i g ds=(l.set i y).map f:=by
 have hlt:=(ySg.1 hi).1
 rw[z9,dO (by rw[yTy,hi];rfl),hh,List.map_set]
theorem uB {α:Type} {l:List α} {i:Nat} {x y:α} (hi:l[i]? =some x):(l.set i y)[i]? =some y:=List.getElem?_set_self (ySg.1 hi).1
theorem zI {α:Type} {l:List α} {i:Nat} {x d:α} (h:l[i]? =some x):l.getD i d=x:=by rw[ySi,h];rfl
theorem yOv (i:z6u) (h:atopC.cnd i):yIo i:=by
 have h:i.a.slots.length≤1000000:=h
 unfold yIo eE
 simp only[ySh]
 have no (e:i.a.usedAt i.n=false):i.a.topF i.n i.t=i.a:=by rw[Arena.topF,ySe (by rw[e];decide)]
 refine zK (fun c=> ?_) (fun c=>zK (fun d=> ?_) (fun d=> ?_))
 ·have e:i.a.usedAt i.n=false:=by rw[Arena.usedAt,ySp (by omega),yTz]
  rw[no e,e];(repeat'(first|exact rfl|exact trivial|assumption|apply And.intro|refine fun(_:Unit) (_:True)=>?_|refine Exists.intro () ?_|omega|(dsimp only;omega)))
 ·have e:i.a.usedAt i.n=false:=by rw[Arena.usedAt,ySp (show ¬i.n<(i.a.slots.length:Int)by omega),yTz,yWw]
  rw[no e,e];(repeat'(first|exact rfl|exact trivial|assumption|apply And.intro|refine fun(_:Unit) (_:True)=>?_|refine Exists.intro () ?_|omega|(dsimp only;omega)))
 ·obtain⟨s,hs⟩:=z6 (l:=i.a.slots) (i:=i.n.toNat) (by omega)
  have eu:i.a.usedAt i.n=s.used:=by rw[Arena.usedAt,ySw (show 0≤i.n by omega),ySw (show i.n<(i.a.slots.length:Int)by omega),zI hs];simp
  refine⟨⟨by omega,by omega⟩,s.used,elA hs (by simp[zQ]) rfl,Cv.cnd.mk (fun u=> ?_) (fun u=> ?_)⟩
  ·have e:i.a.usedAt i.n=false:=by rw[eu];simpa using u
   rw[no e,e];(repeat'(first|exact rfl|exact trivial|assumption|apply And.intro|refine fun(_:Unit) (_:True)=>?_|refine Exists.intro () ?_|omega|(dsimp only;omega)))
  ·have e:i.a.usedAt i.n=true:=by rw[eu];simpa using u
   have et:i.a.topF i.n i.t={i.a with slots:=i.a.slots.set i.n.toNat {s with top:=i.t}}:=by
    rw[Arena.topF,ySf e,dO hs]
   rw[et,e,yI hs (y:={s with top:=i.t}) rfl]
   refine⟨⟨by omega,by omega⟩,by omega,(),rfl,rfl,rfl,rfl,trivial⟩
theorem z2s:atopC.ok Tryz.prog 144:=okw mixed gok0 1 (fun _=>[]) (fun _=>[]) [0] Tryz.func144 yOv
theorem yBf {l:List Slot} (h:∃s∈l,s.used=false):∃k:Nat,kU l=k∧k<l.length:=by
 obtain⟨s,hs,hu⟩:=h
 cases hf:l.findIdx? fun s=> !s.used with
 |none=>
  rw[yXa]at hf
  have:=hf s hs
  rw[hu]at this;cases this
 |some k=>
  rw[yVj]at hf
  exact⟨k,by rw[kU,show(l.findIdx? fun s=> !s.used)=some k by rw[yVj];exact hf];rfl,hf.1⟩
theorem yJp (i:PuI) (h:apushC.cnd i):z7i i:=by
 obtain⟨h1,h2,h3⟩:i.a.fit:=h
 unfold z7i nV nN nW nB lE zAt pH yJ dI
 simp only[ySh]
 have out (e:i.n<0∨i.a.queues.length≤i.n):i.a.push i.n i.id i.qty i.top=(i.a,0,26):=by rw[Arena.push,ySf e]
 refine zK (fun c=>Cv.cnd.mk (fun d=> ?_) (fun d=> ?_)) (fun c=> ?_)
 ·have d:¬i.n<(i.a.queues.length:Int):=by simpa using d
  rw[out (.inr (by omega))];(repeat'(first|exact rfl|exact trivial|assumption|apply And.intro|refine fun(_:Unit) (_:True)=>?_|refine Exists.intro () ?_|omega|(dsimp only;omega)))
 ·have d:i.n<(i.a.queues.length:Int):=by simpa using d
  have hn:¬(i.n<0∨(i.a.queues.length:Int)≤i.n):=by omega
  refine zK (fun q1=> ?_) (fun q1=>zK (fun q2=> ?_) (fun q2=>Cv.cnd.mk (fun fr=> ?_) (fun fr=> ?_)))
  ·rw[Arena.push,ySe hn,ySf (.inl q1)];(repeat'(first|exact rfl|exact trivial|assumption|apply And.intro|refine fun(_:Unit) (_:True)=>?_|refine Exists.intro () ?_|omega|(dsimp only;omega)))
  ·rw[Arena.push,ySe hn,ySf (.inr q2)];(repeat'(first|exact rfl|exact trivial|assumption|apply And.intro|refine fun(_:Unit) (_:True)=>?_|refine Exists.intro () ?_|omega|(dsimp only;omega)))
  ·rw[Arena.push,ySe hn,ySe (by omega),ySf (by simpa using fr)];(repeat'(first|exact rfl|exact trivial|assumption|apply And.intro|refine fun(_:Unit) (_:True)=>?_|refine Exists.intro () ?_|omega|(dsimp only;omega)))
  ·have fr:i.a.free≠0:=by simpa using fr
   have ep:i.a.push i.n i.id i.qty i.top=(i.a.put i.n i.id i.qty i.top,kU i.a.slots,0):=by rw[Arena.push,ySe hn,ySe (by omega),ySe fr]
   obtain⟨k,hk,hkl⟩:=yBf (h2 fr)
   obtain⟨q,hq⟩:=z6 (l:=i.a.queues) (i:=i.n.toNat) (by omega)
   have hqm:=ySo hq
   have hl:=h3 q hqm
   obtain⟨s,hs⟩:=z6 hkl
   refine⟨i.a.slots,rfl,h1,fun _ _=>⟨⟨by omega,by omega⟩,q.last,elA hq (by simp[zN]) rfl,⟨by omega,by omega⟩,by rw[hk];exact hkl,q.last,elA hq (by simp[zN]) rfl,?_⟩⟩
   rw[ep]
   have eput:i.a.put i.n i.id i.qty i.top=⟨if q.last= -1 then i.a.slots.set k ⟨true,k,i.id,i.qty,i.top,i.n,q.last,-1⟩else(i.a.slots.set k ⟨true,k,i.id,i.qty,i.top,i.n,q.last,-1⟩).modify q.last.toNat fun s=>{s with back:=k},i.a.queues.set i.n.toNat ⟨if q.last= -1 then k else q.first,k,IntKind.i64.wrap (q.total+i.qty),IntKind.i64.wrap (q.count+1)⟩,IntKind.i64.wrap (i.a.free-1)⟩:=by
    simp only[Arena.put,zI hq,hk,ySt]
   rw[eput,hk]
   simp only[ySt]
   have es:z9 (List.map zQ i.a.slots) k 0 [D.v (.bool true),D.v (.int .i64 k),D.v (.int .i64 i.id),D.v (.int .i64 i.qty),D.v (.bool i.top),D.v (.int .i64 i.n),D.v (.int .i64 q.last),D.v (.int .i64 (-1))]=List.map zQ (i.a.slots.set k ⟨true,k,i.id,i.qty,i.top,i.n,q.last,-1⟩):=yI hs rfl
   rw[es]
   refine Cv.cnd.mk (fun e=> ?_) (fun e=> ?_)
   ·have e:q.last= -1:=by simpa using e
    have e1:z9 (List.map zN i.a.queues) i.n.toNat (0+0) [D.v (.int .i64 k)]=List.map zN (i.a.queues.set i.n.toNat {q with first:=k}):=yI hq rfl
    have g1:=uB (y:={q with first:=(k:Int)}) hq
    have e2:z9 (List.map zN (i.a.queues.set i.n.toNat {q with first:=k})) i.n.toNat (0+1) [D.v (.int .i64 k)]=List.map zN (i.a.queues.set i.n.toNat {q with first:=k,last:=k}):=by
     rw[yI g1 (y:={q with first:=(k:Int),last:=(k:Int)}) rfl,yWp]
    have g2:=uB (y:={q with first:=(k:Int),last:=(k:Int)}) hq
    have e3:z9 (List.map zN (i.a.queues.set i.n.toNat {q with first:=k,last:=k})) i.n.toNat (0+2) [D.v (.int .i64 (IntKind.i64.wrap (q.total+i.qty)))]=List.map zN (i.a.queues.set i.n.toNat {q with first:=k,last:=k,total:=IntKind.i64.wrap (q.total+i.qty)}):=by
     rw[yI g2 (y:={q with first:=(k:Int),last:=(k:Int),total:=IntKind.i64.wrap (q.total+i.qty)}) rfl,yWp]
    have g3:=uB (y:={q with first:=(k:Int),last:=(k:Int),total:=IntKind.i64.wrap (q.total+i.qty)}) hq
    have e4:z9 (List.map zN (i.a.queues.set i.n.toNat {q with first:=k,last:=k,total:=IntKind.i64.wrap (q.total+i.qty)})) i.n.toNat (0+3) [D.v (.int .i64 (IntKind.i64.wrap (q.count+1)))]=List.map zN (i.a.queues.set i.n.toNat ⟨k,k,IntKind.i64.wrap (q.total+i.qty),IntKind.i64.wrap (q.count+1)⟩):=by
     rw[yI g3 (y:=⟨k,k,IntKind.i64.wrap (q.total+i.qty),IntKind.i64.wrap (q.count+1)⟩) rfl,yWp]
    rw[e1,e2]
    simp only[ySf e]
    refine⟨by omega,by simp only[ySh,yTa];omega,q.total,elA g2 (by simp[zN]) rfl,by simp only[ySh,yTa];omega,q.count,?_,by rw[e3];simp only[ySh,yTa];omega,(),?_⟩
    ·rw[e3];exact elA g3 (by simp[zN]) rfl
    ·rw[e3,e4];(repeat'(first|exact rfl|exact trivial|assumption|apply And.intro|refine fun(_:Unit) (_:True)=>?_|refine Exists.intro () ?_|omega|(dsimp only;omega)))
   ·have e:¬q.last= -1:=by simpa using e
    have hl:0≤q.last∧q.last<i.a.slots.length:=hl.resolve_left e
    have e2:z9 (List.map zN i.a.queues) i.n.toNat (0+1) [D.v (.int .i64 k)]=List.map zN (i.a.queues.set i.n.toNat {q with last:=k}):=yI hq rfl
    have g2:=uB (y:={q with last:=(k:Int)}) hq
    have e3:z9 (List.map zN (i.a.queues.set i.n.toNat {q with last:=k})) i.n.toNat (0+2) [D.v (.int .i64 (IntKind.i64.wrap (q.total+i.qty)))]=List.map zN (i.a.queues.set i.n.toNat {q with last:=k,total:=IntKind.i64.wrap (q.total+i.qty)}):=by
     rw[yI g2 (y:={q with last:=(k:Int),total:=IntKind.i64.wrap (q.total+i.qty)}) rfl,yWp]
    have g3:=uB (y:={q with last:=(k:Int),total:=IntKind.i64.wrap (q.total+i.qty)}) hq
    have e4:z9 (List.map zN (i.a.queues.set i.n.toNat {q with last:=k,total:=IntKind.i64.wrap (q.total+i.qty)})) i.n.toNat (0+3) [D.v (.int .i64 (IntKind.i64.wrap (q.count+1)))]=List.map zN (i.a.queues.set i.n.toNat ⟨q.first,k,IntKind.i64.wrap (q.total+i.qty),IntKind.i64.wrap (q.count+1)⟩):=by
     rw[yI g3 (y:=⟨q.first,k,IntKind.i64.wrap (q.total+i.qty),IntKind.i64.wrap (q.count+1)⟩) rfl,yWp]
    obtain⟨s2,hs2⟩:=z6 (l:=i.a.slots.set k ⟨true,k,i.id,i.qty,i.top,i.n,q.last,-1⟩) (i:=q.last.toNat) (by rw[yTa];omega)
    have e5:z9 (List.map zQ (i.a.slots.set k ⟨true,k,i.id,i.qty,i.top,i.n,q.last,-1⟩)) q.last.toNat (0+7) [D.v (.int .i64 k)]=List.map zQ ((i.a.slots.set k ⟨true,k,i.id,i.qty,i.top,i.n,q.last,-1⟩).modify q.last.toNat fun s=>{s with back:=k}):=by
     rw[yI hs2 (y:={s2 with back:=(k:Int)}) rfl,dO hs2]
    rw[e2]
    simp only[ySe e]
    refine⟨q.last,elA hq (by simp[zN]) rfl,⟨by omega,by simp only[ySh,yTa];omega⟩,by simp only[ySh,yTa];omega,by omega,q.total,elA g2 (by simp[zN]) rfl,by simp only[ySh,yTa];omega,q.count,?_,by rw[e3];simp only[ySh,yTa];omega,(),?_⟩
    ·rw[e3];exact elA g3 (by simp[zN]) rfl
    ·rw[e3,e4,e5];(repeat'(first|exact rfl|exact trivial|assumption|apply And.intro|refine fun(_:Unit) (_:True)=>?_|refine Exists.intro () ?_|omega|(dsimp only;omega)))
 ·rw[out (.inl (by omega))];(repeat'(first|exact rfl|exact trivial|assumption|apply And.intro|refine fun(_:Unit) (_:True)=>?_|refine Exists.intro () ?_|omega|(dsimp only;omega)))
theorem zUj:apushC.ok Tryz.prog 136:=okw mixed (gokc z0m gok0) 1 (fun _=>[]) (fun _=>[]) [0] Tryz.func136 yJp
theorem m4 {s price:Int}:∀{l:List xN} {j:Nat},j≤l.length→(∀k<j,∀r,l[k]? =some r→btr s r.price price=true)→(∀r,l[j]? =some r→btr s r.price price=false)→zX s l price=j
 |[],j,hj,_,_=>by
  obtain rfl:j=0:=by simpa using hj
  rfl
 |r::l,0,_,_,he=>by
  have:=he r rfl
  rw[zX,List.takeWhile_cons,this];rfl
 |r::l,j+1,hj,h,he=>by
  have h0:=h 0 (by omega) r rfl
  have ih:=m4 (l:=l) (j:=j) (by simpa using hj) (fun k hk x hx=>h (k+1) (by omega) x (by simpa using hx)) (fun x hx=>he x (by simpa using hx))
  rw[zX]at ih ⊢
  rw[List.takeWhile_cons,h0,ySf rfl,ySx,ih]
theorem zBr (s price:Int) (l:List xN):zX s l price≤l.length:=(List.takeWhile_sublist _).length_le
theorem nO (b:Book):b.rungs 1=b.buys:=rfl
theorem m8 (b:Book):b.rungs 2=b.sells:=rfl
theorem yJt (i:BkP) (h:find1C.cnd i):yBk i:=by
 obtain⟨_,h1,h2,_⟩:i.b.small:=h
 unfold yBk zFe nH vN pP zAm f0 xY dI
 simp only[ySh,nO]
 refine⟨0,rfl,fun j=>j≤i.b.buys.length∧∀k<j,∀r,i.b.buys[k]? =some r→btr 1 r.price i.price=true,fun j=>i.b.buys.length-j,⟨by omega,fun k hk=>by omega⟩,?_⟩
 rintro j ⟨h3,h4⟩
 refine zK (fun hj=> ?_) (fun hj=> ?_)
 ·obtain⟨r,hr⟩:=z6 (l:=i.b.buys) (i:=j) (by omega)
  refine⟨⟨by omega,by omega⟩,r.price,elA hr (by simp[zC]) rfl,⟨1,r.price,i.price⟩,rfl,rfl,rfl,trivial,fun _ _=> ?_⟩
  dsimp only
  refine Cv.cnd.mk (fun e=>⟨j+1,by rw[w64 (by omega)];rfl,⟨by omega,fun k hk x hx=> ?_⟩,by(first|omega|(dsimp only;omega)),by(repeat'(first|exact trivial|exact rfl|apply And.intro))⟩) (fun e=>zK (fun _=> ?_) (fun c=>absurd hj c))
  ·rcases yUr k j with hk'|hk'
   ·exact h4 k hk' x hx
   ·obtain rfl:k=j:=by omega
    rw[hr]at hx;cases hx;exact e
  ·have en:zX 1 i.b.buys i.price=j:=m4 h3 h4 fun x hx=>by rw[hr]at hx;cases hx;exact e
   have eb:kR 1 i.b.buys i.price=(r.price==i.price):=by rw[kR,en,hr];exact(zLp _ _).symm
   refine⟨⟨by omega,by omega⟩,r.price,elA hr (by simp[zC]) rfl,(),by rw[en],eb,?_⟩
   (repeat'(first|exact trivial|exact rfl|apply And.intro))
 ·have en:zX 1 i.b.buys i.price=j:=m4 h3 h4 fun x hx=>by have:=(ySg.1 hx).1;omega
  have eb:kR 1 i.b.buys i.price=false:=by rw[kR,en,yTf (by omega)]
  refine zK (fun c=>absurd c hj) (fun _=>⟨(),by rw[en],eb,?_⟩)
  (repeat'(first|exact trivial|exact rfl|apply And.intro))
theorem zKy:find1C.ok Tryz.prog 126:=okw mixed (gokc bY gok0) 0 (fun _=>[]) (fun _=>yIl) [] Tryz.func126 yJt
theorem jT (l:List (Int×Place)) (k:Int):∀(p:Value×List D),p∈atE l→like (Value.int IntKind.i64 k) p.1=true:=by
 intro p hp
 obtain⟨x,_,rfl⟩:=yTh.1 hp
 rfl
theorem eB (k:Int):∀l:List (Int×Place),wI (Value.int IntKind.i64 k) (atE l)=(pget l k).map z0j
 |[]=>rfl
 |(a,v)::l=>by
  have ih:=eB k l
  show(bif (keq .i64 .i64 && decide (k=a))then _ else wI _ (atE l))=_
  by_cases h:k=a
  ·subst h;simp[pget,keq]
  ·have h':¬a=k:=fun e=>h e.symm
   rw[show(keq .i64 .i64 && decide (k=a))=false by simp[h],cond_false,ih]
   simp[pget,yYk,h']
def zEq:Place:=⟨0,0,0⟩
theorem zQf (l:List (Int×Place)) (k:Int):wI (Value.int IntKind.i64 k) (atE l)=some [D.v (.int .i64 ((pget l k).getD zEq).side),D.v (.int .i64 ((pget l k).getD zEq).price),D.v (.int .i64 ((pget l k).getD zEq).slot)]∧(pget l k).isSome=true∨wI (Value.int IntKind.i64 k) (atE l)=none∧[D.v (.int .i64 ((pget l k).getD zEq).side),D.v (.int .i64 ((pget l k).getD zEq).price),D.v (.int .i64 ((pget l k).getD zEq).slot)]=[D.v (.int .i64 0),D.v (.int .i64 0),D.v (.int .i64 0)]∧(pget l k).isSome=false:=by
 rw[eB]
 cases pget l k with
 |none=>exact .inr ⟨rfl,rfl,rfl⟩
 |some v=>exact .inl ⟨rfl,rfl⟩
theorem zRz (k:Int) (v:Place):∀l,jQ (Value.int IntKind.i64 k) (z0j v) (atE l)=atE (nX k v l)
 |[]=>rfl
 |(a,b)::l=>by
  have ih:=zRz k v l
  show(bif (keq .i64 .i64 && decide (k=a))then _ else _::jQ _ _ (atE l))=_
  rw[ih,nX]
  by_cases h:k=a
  ·subst h;simp[keq,atE]
  ·simp[h,atE]
theorem yMu (i:LdI) (h:lead1C.cnd i):yCr i:=by
 obtain⟨⟨ha,_⟩,h1,h2,_⟩:i.b.small:=h
 unfold yCr lM lH pZ dD dI
 have no (e:i.b.untop 1=i.b.a):AObj.adt Arena 3 zG (i.b.untop 1)=zR i.b 1:=by rw[e];rfl
 refine Cv.cnd.mk (fun c=> ?_) (fun c=>⟨(),?_⟩)
 ·have c:i.b.hasF 1=true:=c
  refine⟨jT _ _,(pget i.b.at_ i.b.top1).isSome,_,_,_,zQf _ _,⟨jT _ _,(pget i.b.at_ i.b.top1).isSome,_,_,_,zQf _ _,⟨rfl,rfl,rfl,trivial⟩,rfl,trivial⟩,rfl,trivial,Cv.cnd.mk (fun d=>Cv.cnd.mk (fun e=> ?_) (fun e=>⟨(),?_⟩)) (fun d=>⟨(),?_⟩)⟩
  ·obtain⟨o,ho⟩:=yXg.1 d
   have e:o.side=1:=by rw[ho]at e;simpa using e
   have eu:i.b.untop 1=i.b.a.topF o.slot false:=by
    have ht:pget i.b.at_ (i.b.topI 1)=some o:=ho
    rw[Book.untop,ySf c,ht];dsimp only;rw[ySf e]
   refine⟨⟨i.b.a,o.slot,false⟩,by rw[ho];rfl,rfl,rfl,ha,fun _ _=>⟨(),?_⟩⟩
   rw[eu];(repeat'(first|exact trivial|exact rfl|apply And.intro))
  ·obtain⟨o,ho⟩:=yXg.1 d
   have e:¬o.side=1:=by rw[ho]at e;simpa using e
   have ht:pget i.b.at_ (i.b.topI 1)=some o:=ho
   rw[no (by rw[Book.untop,ySf c,ht];dsimp only;rw[ySe e])];(repeat'(first|exact trivial|exact rfl|apply And.intro))
  ·have ht:pget i.b.at_ (i.b.topI 1)=none:=by
    show pget i.b.at_ i.b.top1=none
    simpa using d
   rw[no (by rw[Book.untop,ySf c,ht])];(repeat'(first|exact trivial|exact rfl|apply And.intro))
 ·have c:¬i.b.hasF 1=true:=by rw[show i.b.hasF 1=i.b.has1 from rfl,c];decide
  rw[no (by rw[Book.untop,ySe c])];(repeat'(first|exact trivial|exact rfl|apply And.intro))
theorem yCk:lead1C.ok Tryz.prog 135:=okw mixed (gokc z2s gok0) 0 (fun _=>[]) (fun _=>[]) [] Tryz.func135 yMu
theorem zWd {s price:Int} {l:List xN} (h:kR s l price=true):∃r,l[zX s l price]? =some r:=by
 rw[kR]at h
 split at h
 ·rename_i r hr;exact⟨r,hr⟩
 ·cases h
theorem yGh (i:BkP) (h:queue1C.cnd i):z1i i:=by
 obtain⟨⟨ha,_⟩,ha',h1,h2,h3⟩:i.b.fit:=h
 have hle:=zBr 1 i.price i.b.buys
 unfold z1i zM gM gR aK aP vI gK vN x9 xY dI
 refine⟨i,rfl,rfl,rfl,rfl,rfl,rfl,rfl,rfl,rfl,rfl,rfl,⟨⟨ha,by omega⟩,by omega,by omega,by omega⟩,fun _ _=> ?_⟩
 simp only[ySh,yW,nO]
 refine Cv.cnd.mk (fun c=> ?_) (fun c=> ?_)
 ·obtain⟨r,hr⟩:=zWd c
  have hlt:=(ySg.1 hr).1
  have e:i.b.queueF 1 i.price=(i.b,r.queue):=by rw[Book.queueF,ySf (by rw[nO];exact c),nO,zI hr]
  rw[e]
  refine⟨⟨by omega,by omega⟩,r.queue,elA (by simpa using hr) (by simp[zC]) rfl,(),?_⟩
  (repeat'(first|exact trivial|exact rfl|apply And.intro))
 ·have e:i.b.queueF 1 i.price=({i.b with a:=i.b.newQ.2.2,buys:=i.b.ins 1 i.price,spare:=i.b.newQ.2.1},i.b.newQ.1):=by
   rw[Book.queueF,ySe (by rw[nO,c];decide),ySf rfl]
  have hins:List.map zC (i.b.ins 1 i.price)=List.take (zX 1 i.b.buys i.price) (List.map zC i.b.buys)++zC ⟨i.price,i.b.newQ.1⟩::List.drop (zX 1 i.b.buys i.price) (List.map zC i.b.buys):=by
   rw[Book.ins,nO,ySr,ySn,yWr,yXz]
  rw[e]
  refine zK (fun d=> ?_) (fun d=> ?_)
  ·have w:IntKind.i64.wrap ((i.b.spare.length:Int)-1)=((i.b.spare.length-1:Nat):Int):=by rw[w64 (by omega)];omega
   rw[w]
   simp only[ySt]
   obtain⟨q,hq⟩:=z6 (l:=i.b.spare) (i:=i.b.spare.length-1) (by omega)
   have eq:i.b.newQ=(q,i.b.spare.take (i.b.spare.length-1),i.b.a):=by rw[Book.newQ,ySe (by omega),zI hq]
   rw[eq]at hins ⊢
   refine⟨⟨by omega,by omega⟩,q,elI hq,⟨by omega,by omega⟩,trivial,⟨i.b.buys.map zC,zC ⟨i.price,q⟩,zX 1 i.b.buys i.price⟩,rfl,rfl,rfl,⟨by rw[ySh];exact hle,by rw[ySh];omega⟩,fun _ _=>⟨(),?_⟩⟩
   have hs:iE (i.b.spare.take (i.b.spare.length-1))=(iE i.b.spare).take (i.b.spare.length-1):=by simp only[iE,yWr]
   (repeat'(first|exact rfl|exact trivial|assumption|apply And.intro|refine fun(_:Unit) (_:True)=>?_|refine Exists.intro () ?_|omega|(dsimp only;omega)))
  ·have eq:i.b.newQ=((i.b.a.queues.length:Int),i.b.spare,i.b.a.openQ):=by rw[Book.newQ,ySf (by omega)]
   rw[eq]at hins ⊢
   refine⟨i.b.a,rfl,by omega,fun _ _=>⟨trivial,⟨i.b.buys.map zC,zC ⟨i.price,i.b.a.queues.length⟩,zX 1 i.b.buys i.price⟩,rfl,rfl,rfl,⟨by rw[ySh];exact hle,by rw[ySh];omega⟩,fun _ _=>⟨(),?_⟩⟩⟩
   (repeat'(first|exact rfl|exact trivial|assumption|apply And.intro|refine fun(_:Unit) (_:True)=>?_|refine Exists.intro () ?_|omega|(dsimp only;omega)))
theorem zEl:uS Tryz.prog 139=some (147,2,16,#[.int .i64 0,.int .i64 0]):=by kernel_rfl
theorem z4c:insRC.ok Tryz.prog 148:=
 insX_ok (tS:=139) (tI:=3) (fO:=152) (fR:=153) (z:= #[.int .i64 0,.int .i64 0]) mixed Tryz.func148 rfl (by kernel_rfl) (by kernel_rfl) (by kernel_rfl) (by kernel_rfl) zEl rfl (by decide) (by decide) (by kernel_rfl) Tryz.underlying3
  (yEz (tS:=139) (tB:=4) Tryz.func152 (by kernel_rfl) (by kernel_rfl) (by kernel_rfl) (by kernel_rfl) zEl) (fun s sn sk i v vn vk w R=>by kernel_rfl)
theorem z5z:queue1C.ok Tryz.prog 137:=okw mixed (gokc zKy (gokc zVw (gokc z4c gok0))) 0 (fun _=>[]) (fun _=>[]) [] Tryz.func137 yGh
theorem yMb (i:BkP) (h:find2C.cnd i):z7n i:=by
 obtain⟨_,h1,h2,_⟩:i.b.small:=h
 unfold z7n zDy nZ vG lP xX f0 pP dI
 simp only[ySh,m8]
 refine⟨0,rfl,fun j=>j≤i.b.sells.length∧∀k<j,∀r,i.b.sells[k]? =some r→btr 2 r.price i.price=true,fun j=>i.b.sells.length-j,⟨by omega,fun k hk=>by omega⟩,?_⟩
 rintro j ⟨h3,h4⟩
 refine zK (fun hj=> ?_) (fun hj=> ?_)
 ·obtain⟨r,hr⟩:=z6 (l:=i.b.sells) (i:=j) (by omega)
  refine⟨⟨by omega,by omega⟩,r.price,elA hr (by simp[zC]) rfl,⟨2,r.price,i.price⟩,rfl,rfl,rfl,trivial,fun _ _=> ?_⟩
  dsimp only
  refine Cv.cnd.mk (fun e=>⟨j+1,by rw[w64 (by omega)];rfl,⟨by omega,fun k hk x hx=> ?_⟩,by(first|omega|(dsimp only;omega)),by(repeat'(first|exact trivial|exact rfl|apply And.intro))⟩) (fun e=>zK (fun _=> ?_) (fun c=>absurd hj c))
  ·rcases yUr k j with hk'|hk'
   ·exact h4 k hk' x hx
   ·obtain rfl:k=j:=by omega
    rw[hr]at hx;cases hx;exact e
  ·have en:zX 2 i.b.sells i.price=j:=m4 h3 h4 fun x hx=>by rw[hr]at hx;cases hx;exact e
   have eb:kR 2 i.b.sells i.price=(r.price==i.price):=by rw[kR,en,hr];exact(zLp _ _).symm
   refine⟨⟨by omega,by omega⟩,r.price,elA hr (by simp[zC]) rfl,(),by rw[en],eb,?_⟩
   (repeat'(first|exact trivial|exact rfl|apply And.intro))
 ·have en:zX 2 i.b.sells i.price=j:=m4 h3 h4 fun x hx=>by have:=(ySg.1 hx).1;omega
  have eb:kR 2 i.b.sells i.price=false:=by rw[kR,en,yTf (by omega)]
  refine zK (fun c=>absurd c hj) (fun _=>⟨(),by rw[en],eb,?_⟩)
  (repeat'(first|exact trivial|exact rfl|apply And.intro))
theorem zIw:find2C.ok Tryz.prog 126:=okw mixed (gokc bY gok0) 0 (fun _=>[]) (fun _=>yIl) [] Tryz.func126 yMb
theorem yMi (i:LdI) (h:lead2C.cnd i):z8y i:=by
 obtain⟨⟨ha,_⟩,h1,h2,_⟩:i.b.small:=h
 unfold z8y zAd zAf nD dD dI
 have no (e:i.b.untop 2=i.b.a):AObj.adt Arena 3 zG (i.b.untop 2)=zR i.b 1:=by rw[e];rfl
 refine Cv.cnd.mk (fun c=> ?_) (fun c=>⟨(),?_⟩)
 ·have c:i.b.hasF 2=true:=c
  refine⟨jT _ _,(pget i.b.at_ i.b.top2).isSome,_,_,_,zQf _ _,⟨jT _ _,(pget i.b.at_ i.b.top2).isSome,_,_,_,zQf _ _,⟨rfl,rfl,rfl,trivial⟩,rfl,trivial⟩,rfl,trivial,Cv.cnd.mk (fun d=>Cv.cnd.mk (fun e=> ?_) (fun e=>⟨(),?_⟩)) (fun d=>⟨(),?_⟩)⟩
  ·obtain⟨o,ho⟩:=yXg.1 d
   have e:o.side=2:=by rw[ho]at e;simpa using e
   have eu:i.b.untop 2=i.b.a.topF o.slot false:=by
    have ht:pget i.b.at_ (i.b.topI 2)=some o:=ho
    rw[Book.untop,ySf c,ht];dsimp only;rw[ySf e]
   refine⟨⟨i.b.a,o.slot,false⟩,by rw[ho];rfl,rfl,rfl,ha,fun _ _=>⟨(),?_⟩⟩
   rw[eu];(repeat'(first|exact trivial|exact rfl|apply And.intro))
  ·obtain⟨o,ho⟩:=yXg.1 d
   have e:¬o.side=2:=by rw[ho]at e;simpa using e
   have ht:pget i.b.at_ (i.b.topI 2)=some o:=ho
   rw[no (by rw[Book.untop,ySf c,ht];dsimp only;rw[ySe e])];(repeat'(first|exact trivial|exact rfl|apply And.intro))
  ·have ht:pget i.b.at_ (i.b.topI 2)=none:=by
    show pget i.b.at_ i.b.top2=none
    simpa using d
   rw[no (by rw[Book.untop,ySf c,ht])];(repeat'(first|exact trivial|exact rfl|apply And.intro))
 ·have c:¬i.b.hasF 2=true:=by rw[show i.b.hasF 2=i.b.has2 from rfl,c];decide
  rw[no (by rw[Book.untop,ySe c])];(repeat'(first|exact trivial|exact rfl|apply And.intro))
theorem yDp:lead2C.ok Tryz.prog 135:=okw mixed (gokc z2s gok0) 0 (fun _=>[]) (fun _=>[]) [] Tryz.func135 yMi
theorem yEi (i:BkP) (h:queue2C.cnd i):z3k i:=by
 obtain⟨⟨ha,_⟩,ha',h1,h2,h3⟩:i.b.fit:=h
 have hle:=zBr 2 i.price i.b.sells
 unfold z3k zL gU vG gM gR aK aP vI x9 xX dI
 refine⟨i,rfl,rfl,rfl,rfl,rfl,rfl,rfl,rfl,rfl,rfl,rfl,⟨⟨ha,by omega⟩,by omega,by omega,by omega⟩,fun _ _=> ?_⟩
 simp only[ySh,yW,m8]
 refine Cv.cnd.mk (fun c=> ?_) (fun c=> ?_)
 ·obtain⟨r,hr⟩:=zWd c
  have hlt:=(ySg.1 hr).1
  have e:i.b.queueF 2 i.price=(i.b,r.queue):=by rw[Book.queueF,ySf (by rw[m8];exact c),m8,zI hr]
  rw[e]
  refine⟨⟨by omega,by omega⟩,r.queue,elA (by simpa using hr) (by simp[zC]) rfl,(),?_⟩
  (repeat'(first|exact trivial|exact rfl|apply And.intro))
 ·have e:i.b.queueF 2 i.price=({i.b with a:=i.b.newQ.2.2,sells:=i.b.ins 2 i.price,spare:=i.b.newQ.2.1},i.b.newQ.1):=by
   rw[Book.queueF,ySe (by rw[m8,c];decide),ySe (by decide)]
  have hins:List.map zC (i.b.ins 2 i.price)=List.take (zX 2 i.b.sells i.price) (List.map zC i.b.sells)++zC ⟨i.price,i.b.newQ.1⟩::List.drop (zX 2 i.b.sells i.price) (List.map zC i.b.sells):=by
   rw[Book.ins,m8,ySr,ySn,yWr,yXz]
  rw[e]
  refine zK (fun d=> ?_) (fun d=> ?_)
  ·have w:IntKind.i64.wrap ((i.b.spare.length:Int)-1)=((i.b.spare.length-1:Nat):Int):=by rw[w64 (by omega)];omega
   rw[w]
   simp only[ySt]
   obtain⟨q,hq⟩:=z6 (l:=i.b.spare) (i:=i.b.spare.length-1) (by omega)
   have eq:i.b.newQ=(q,i.b.spare.take (i.b.spare.length-1),i.b.a):=by rw[Book.newQ,ySe (by omega),zI hq]
   rw[eq]at hins ⊢
   refine⟨⟨by omega,by omega⟩,q,elI hq,⟨by omega,by omega⟩,trivial,⟨i.b.sells.map zC,zC ⟨i.price,q⟩,zX 2 i.b.sells i.price⟩,rfl,rfl,rfl,⟨by rw[ySh];exact hle,by rw[ySh];omega⟩,fun _ _=>⟨(),?_⟩⟩
   have hs:iE (i.b.spare.take (i.b.spare.length-1))=(iE i.b.spare).take (i.b.spare.length-1):=by simp only[iE,yWr]
   (repeat'(first|exact rfl|exact trivial|assumption|apply And.intro|refine fun(_:Unit) (_:True)=>?_|refine Exists.intro () ?_|omega|(dsimp only;omega)))
  ·have eq:i.b.newQ=((i.b.a.queues.length:Int),i.b.spare,i.b.a.openQ):=by rw[Book.newQ,ySf (by omega)]
   rw[eq]at hins ⊢
   refine⟨i.b.a,rfl,by omega,fun _ _=>⟨trivial,⟨i.b.sells.map zC,zC ⟨i.price,i.b.a.queues.length⟩,zX 2 i.b.sells i.price⟩,rfl,rfl,rfl,⟨by rw[ySh];exact hle,by rw[ySh];omega⟩,fun _ _=>⟨(),?_⟩⟩⟩
   (repeat'(first|exact rfl|exact trivial|assumption|apply And.intro|refine fun(_:Unit) (_:True)=>?_|refine Exists.intro () ?_|omega|(dsimp only;omega)))
theorem z6v:queue2C.ok Tryz.prog 137:=okw mixed (gokc zIw (gokc zVw (gokc z4c gok0))) 0 (fun _=>[]) (fun _=>[]) [] Tryz.func137 yEi
open Go Cv Go.Proofs
structure BaI where
 b:Book
 id:Int
 price:Int
 qty:Int
def Book.leads (b:Book) (s price:Int):Bool:=match b.rungs s with
 |[]=>true
 |r::_=>btr s price r.price
def Book.led (b:Book) (id s price:Int):Book:=if b.leads s price=true then b.leadF id s else b
def Book.stand (b:Book) (s id price qty:Int):Book:=
 let b2:=(b.led id s price).queueF s price
 let x:=b2.1.a.push b2.2 id qty (b.leads s price)
 {b2.1 with a:=x.1,at_:=nX id ⟨s,price,x.2.1⟩ b2.1.at_}
def Book.addF (b:Book) (s id price qty:Int):Book×Int:=
 if qty<1∨1000000<qty then(b,24)else if(pget b.at_ id).isSome=true then(b,25)else if 250≤b.at_.length then(b,13)else(b.stand s id price qty,0)
def yDf (s:Int):Con:=con1 BaI (fun i=>[.nm 0 0,zA i.id,zA s,zA i.price,zA i.qty]) (fun i=>[yC i.b]) (fun i=>i.b.fit) (fun i=>zA (i.b.addF s i.id i.price i.qty).2) (fun i=>[yC (i.b.addF s i.id i.price i.qty).1])
def yHu:List (Nat×SAnn):=[(44,bj 14)]
def badd1C:Con:=yDf 1
def badd2C:Con:=yDf 2
structure BaJ where
 i:BaI
 s:Bool
def baddC:Con:=con1 BaJ (fun j=>[.nm 0 0,zA j.i.id,zA (zB j.s),zA j.i.price,zA j.i.qty]) (fun j=>[yC j.i.b]) (fun j=>j.i.b.fit) (fun j=>zA (j.i.b.addF (zB j.s) j.i.id j.i.price j.i.qty).2) (fun j=>[yC (j.i.b.addF (zB j.s) j.i.id j.i.price j.i.qty).1])
structure SaI where
 s:MSt
 inst:Int
 id:Int
 sd:Bool
 price:Int
 qty:Int
def MSt.bookAt (s:MSt) (n:Int):Book:=s.books.getD n.toNat book0
def MSt.addF (i:SaI):MSt×Int:=
 if i.inst<0∨i.s.books.length≤i.inst then(i.s,20)else if(kP i.s.wh i.id).isSome=true then(i.s,25)else if 250≤i.s.wh.length then(i.s,13)else if i.s.p.price i.inst i.price≠0 then(i.s,i.s.p.price i.inst i.price)
 else
  let x:=(i.s.bookAt i.inst).addF (zB i.sd) i.id i.price i.qty
  ({i.s with books:=i.s.books.set i.inst.toNat x.1,wh:=if x.2=0 then g8 i.id i.inst i.s.wh else i.s.wh},x.2)
@[reducible] def MSt.fit (s:MSt):Prop:=s.p.small∧s.books.length≤1000000∧∀b∈s.books,b.fit
def saddC:Con:=con1 SaI (fun i=>[.nm 0 0,zA i.inst,zA i.id,zA (zB i.sd),zA i.price,zA i.qty]) (fun i=>[zE i.s]) (fun i=>i.s.fit) (fun i=>zA (MSt.addF i).2) (fun i=>[zE (MSt.addF i).1])
open Go Cv Go.Proofs
def nE (a:BkP):Prop:=(a.b.a.slots.length≤1000000∧(a.b.a.free≠0→∃(b:Slot),b∈a.b.a.slots∧b.used=false)∧∀(b:fB),b∈a.b.a.queues→b.last=(-1)∨0≤b.last∧b.last<(↑a.b.a.slots.length:Int))∧a.b.a.queues.length≤100000∧a.b.buys.length≤100000∧a.b.sells.length≤100000∧a.b.spare.length≤100000
def nP (a:PuI):Prop:=a.a.slots.length≤1000000∧(a.a.free≠0→∃(b:Slot),b∈a.a.slots∧b.used=false)∧∀(b:fB),b∈a.a.queues→b.last=(-1)∨0≤b.last∧b.last<(↑a.a.slots.length:Int)
def yO (a:BaI):=(a.b.addF 1 a.id a.price a.qty)
def zFt (a:BkP) (b:BaI) (c:Bool):Prop:=(nE a)∧∀(d:Unit),True→True∧∃(e:PuI),e.n=(zM a).snd∧e.id=b.id∧e.qty=b.qty∧e.top=c∧AObj.adt Arena 3 zG e.a=AObj.adt Arena 3 zG (zM a).fst.a∧(nP e)∧∀(f:Unit),True→(∀(g:Value×List D),g∈atE (zM a).fst.at_→like (Value.int IntKind.i64 b.id) g.fst=true)∧∃(g:Unit),(yO b).snd=0∧(yO b).fst.top1=(zM a).fst.top1∧(yO b).fst.top2=(zM a).fst.top2∧(yO b).fst.has1=(zM a).fst.has1∧(yO b).fst.has2=(zM a).fst.has2∧AObj.adt Arena 3 zG (yO b).fst.a=AObj.adt Arena 3 zG (yJ e).fst∧List.map zC (yO b).fst.buys=List.map zC (zM a).fst.buys∧List.map zC (yO b).fst.sells=List.map zC (zM a).fst.sells∧atE (yO b).fst.at_=jQ (Value.int IntKind.i64 b.id) [dI 1,dI b.price,dI ((yJ e).snd.fst)] (atE (zM a).fst.at_)∧iE (yO b).fst.spare=iE (zM a).fst.spare∧True
def tK (a:Bool→Prop) (b:Bool) (c:Int) (d:Int) (e:Int) (f:BaI):Prop:=a b∧Sx.AObj.cells [V.d (dI c),V.d (dI d),V.d (dI e)] 165=Sx.AObj.cells [V.d (dI c),V.d (dI d),V.d (dI e)] 165∧Sx.AObj.cells (gD (k9 0 1 6) [V.nm 1 0,V.own 2,V.own 3,V.mp 4,zA f.b.top1,zA f.b.top2,V.own 5,yR f.b.has1,yR f.b.has2]) (144:TypeId)=Sx.AObj.cells (gD (k9 0 1 6) [V.nm 1 0,V.own 2,V.own 3,V.mp 4,zA f.b.top1,zA f.b.top2,V.own 5,yR f.b.has1,yR f.b.has2]) (144:TypeId)∧AObj.adt Arena 3 zG f.b.a=AObj.adt Arena 3 zG f.b.a∧AObj.own 147 2 (List.map zC f.b.buys)=AObj.own 147 2 (List.map zC f.b.buys)∧AObj.own 147 2 (List.map zC f.b.sells)=AObj.own 147 2 (List.map zC f.b.sells)∧Sx.AObj.map (atE f.b.at_)=Sx.AObj.map (atE f.b.at_)∧AObj.own 3 1 (iE f.b.spare)=AObj.own 3 1 (iE f.b.spare)
def eF (a:I3') (b:BaI) (c:Int) (d:Bool→Prop) (e:Int) (f:Int) (g:Int):Prop:=a.x=b.price∧a.y=c∧True∧∀(h:Unit),True→∃(j:Bool),j=btr a.side a.x a.y∧tK d j e f g b
def tM (a:Bool→Prop) (b:Int) (c:Int) (d:Int) (e:BaI):Prop:=∃(f:Bool),f=true∧tK a f b c d e
def mG (a:BaI):Prop:=(yO a).fst.top1=a.b.top1∧(yO a).fst.top2=a.b.top2∧(yO a).fst.has1=a.b.has1∧(yO a).fst.has2=a.b.has2∧AObj.adt Arena 3 zG (yO a).fst.a=AObj.adt Arena 3 zG a.b.a∧List.map zC (yO a).fst.buys=List.map zC a.b.buys∧List.map zC (yO a).fst.sells=List.map zC a.b.sells∧atE (yO a).fst.at_=atE a.b.at_∧iE (yO a).fst.spare=iE a.b.spare∧True
def zEb (a:BaI):Prop:=∃(b:Unit),(yO a).snd=24∧mG a
def nF (a:BaI) (b:Int) (c:Int) (d:Int) (e:Bool):Prop:=wI (Value.int IntKind.i64 a.id) (atE a.b.at_)=some [dI b,dI c,dI d]∧e=true∨wI (Value.int IntKind.i64 a.id) (atE a.b.at_)=none∧[dI b,dI c,dI d]=[dI 0,dI 0,dI 0]∧e=false
def pQ (a:LdI):Prop:=(a.b.a.slots.length≤1000000∧a.b.a.queues.length≤1000000)∧a.b.buys.length≤1000000∧a.b.sells.length≤1000000∧a.b.spare.length≤1000000
def yBu (i:BaI):Prop:=
 (∀(a:Value×List D),a∈atE i.b.at_→like (Value.int IntKind.i64 i.id) a.fst=true)∧∃(a:Bool),∃(b:Int),∃(c:Int),∃(d:Int),(nF i b c d a)∧∃(e:Int),e=1∧True∧∀(f:Unit),True→cnd (!(vP e)) (∃(g:Unit),(yO i).snd=21∧mG i) (cnd (decide (i.qty<1)) (zEb i) (cnd (decide (i.qty>1000000)) (zEb i) (cnd a (∃(g:Unit),(yO i).snd=25∧mG i) (cnd (decide ((↑(atE i.b.at_).length:Int)≥250)) (∃(g:Unit),(yO i).snd=13∧mG i) (∃(g:Bool),∃(h:Bool→Prop),cnd ((↑(List.map zC i.b.buys).length:Int)==0) (tM h b c d i) (((0:Int)≤(0:Int)∧0<(↑(List.map zC i.b.buys).length:Int))∧∃(j:Int),zF (List.map zC i.b.buys) (Int.toNat 0) ((0:Nat)+(0:Nat)) 1=some [dI j]∧∃(k:I3'),k.side=1∧eF k i j h b c d)∧∀(j:Bool),h j→cnd j (∃(k:LdI),k.id=i.id∧(1:Int)=(1:Int)∧k.b.top1=i.b.top1∧k.b.top2=i.b.top2∧k.b.has1=i.b.has1∧k.b.has2=i.b.has2∧AObj.adt Arena 3 zG k.b.a=AObj.adt Arena 3 zG i.b.a∧List.map zC k.b.buys=List.map zC i.b.buys∧List.map zC k.b.sells=List.map zC i.b.sells∧atE k.b.at_=atE i.b.at_∧iE k.b.spare=iE i.b.spare∧(pQ k)∧∀(l:Unit),True→∃(m:BkP),(1:Int)=(1:Int)∧m.price=i.price∧m.b.top1=k.id∧m.b.top2=k.b.top2∧m.b.has1=true∧m.b.has2=k.b.has2∧AObj.adt Arena 3 zG m.b.a=AObj.adt Arena 3 zG (k.b.untop 1)∧List.map zC m.b.buys=List.map zC k.b.buys∧List.map zC m.b.sells=List.map zC k.b.sells∧atE m.b.at_=atE k.b.at_∧iE m.b.spare=iE k.b.spare∧zFt m i j) (∃(k:BkP),(1:Int)=(1:Int)∧k.price=i.price∧k.b.top1=i.b.top1∧k.b.top2=i.b.top2∧k.b.has1=i.b.has1∧k.b.has2=i.b.has2∧AObj.adt Arena 3 zG k.b.a=AObj.adt Arena 3 zG i.b.a∧List.map zC k.b.buys=List.map zC i.b.buys∧List.map zC k.b.sells=List.map zC i.b.sells∧atE k.b.at_=atE i.b.at_∧iE k.b.spare=iE i.b.spare∧zFt k i j))))))
def yP (a:BaI):=(a.b.addF 2 a.id a.price a.qty)
def zEd (a:BkP) (b:BaI) (c:Bool):Prop:=(nE a)∧∀(d:Unit),True→True∧∃(e:PuI),e.n=(zL a).snd∧e.id=b.id∧e.qty=b.qty∧e.top=c∧AObj.adt Arena 3 zG e.a=AObj.adt Arena 3 zG (zL a).fst.a∧(nP e)∧∀(f:Unit),True→(∀(g:Value×List D),g∈atE (zL a).fst.at_→like (Value.int IntKind.i64 b.id) g.fst=true)∧∃(g:Unit),(yP b).snd=0∧(yP b).fst.top1=(zL a).fst.top1∧(yP b).fst.top2=(zL a).fst.top2∧(yP b).fst.has1=(zL a).fst.has1∧(yP b).fst.has2=(zL a).fst.has2∧AObj.adt Arena 3 zG (yP b).fst.a=AObj.adt Arena 3 zG (yJ e).fst∧List.map zC (yP b).fst.buys=List.map zC (zL a).fst.buys∧List.map zC (yP b).fst.sells=List.map zC (zL a).fst.sells∧atE (yP b).fst.at_=jQ (Value.int IntKind.i64 b.id) [dI 2,dI b.price,dI ((yJ e).snd.fst)] (atE (zL a).fst.at_)∧iE (yP b).fst.spare=iE (zL a).fst.spare∧True
def mH (a:BaI):Prop:=(yP a).fst.top1=a.b.top1∧(yP a).fst.top2=a.b.top2∧(yP a).fst.has1=a.b.has1∧(yP a).fst.has2=a.b.has2∧AObj.adt Arena 3 zG (yP a).fst.a=AObj.adt Arena 3 zG a.b.a∧List.map zC (yP a).fst.buys=List.map zC a.b.buys∧List.map zC (yP a).fst.sells=List.map zC a.b.sells∧atE (yP a).fst.at_=atE a.b.at_∧iE (yP a).fst.spare=iE a.b.spare∧True
def zEr (a:BaI):Prop:=∃(b:Unit),(yP a).snd=24∧mH a
def yCy (i:BaI):Prop:=
 (∀(a:Value×List D),a∈atE i.b.at_→like (Value.int IntKind.i64 i.id) a.fst=true)∧∃(a:Bool),∃(b:Int),∃(c:Int),∃(d:Int),(nF i b c d a)∧∃(e:Int),e=2∧True∧∀(f:Unit),True→cnd (!(vP e)) (∃(g:Unit),(yP i).snd=21∧mH i) (cnd (decide (i.qty<1)) (zEr i) (cnd (decide (i.qty>1000000)) (zEr i) (cnd a (∃(g:Unit),(yP i).snd=25∧mH i) (cnd (decide ((↑(atE i.b.at_).length:Int)≥250)) (∃(g:Unit),(yP i).snd=13∧mH i) (∃(g:Bool),∃(h:Bool→Prop),cnd ((↑(List.map zC i.b.sells).length:Int)==0) (tM h b c d i) (((0:Int)≤(0:Int)∧0<(↑(List.map zC i.b.sells).length:Int))∧∃(j:Int),zF (List.map zC i.b.sells) (Int.toNat 0) ((0:Nat)+(0:Nat)) 1=some [dI j]∧∃(k:I3'),k.side=2∧eF k i j h b c d)∧∀(j:Bool),h j→cnd j (∃(k:LdI),k.id=i.id∧(2:Int)=(2:Int)∧k.b.top1=i.b.top1∧k.b.top2=i.b.top2∧k.b.has1=i.b.has1∧k.b.has2=i.b.has2∧AObj.adt Arena 3 zG k.b.a=AObj.adt Arena 3 zG i.b.a∧List.map zC k.b.buys=List.map zC i.b.buys∧List.map zC k.b.sells=List.map zC i.b.sells∧atE k.b.at_=atE i.b.at_∧iE k.b.spare=iE i.b.spare∧(pQ k)∧∀(l:Unit),True→∃(m:BkP),(2:Int)=(2:Int)∧m.price=i.price∧m.b.top1=k.b.top1∧m.b.top2=k.id∧m.b.has1=k.b.has1∧m.b.has2=true∧AObj.adt Arena 3 zG m.b.a=AObj.adt Arena 3 zG (k.b.untop 2)∧List.map zC m.b.buys=List.map zC k.b.buys∧List.map zC m.b.sells=List.map zC k.b.sells∧atE m.b.at_=atE k.b.at_∧iE m.b.spare=iE k.b.spare∧zEd m i j) (∃(k:BkP),(2:Int)=(2:Int)∧k.price=i.price∧k.b.top1=i.b.top1∧k.b.top2=i.b.top2∧k.b.has1=i.b.has1∧k.b.has2=i.b.has2∧AObj.adt Arena 3 zG k.b.a=AObj.adt Arena 3 zG i.b.a∧List.map zC k.b.buys=List.map zC i.b.buys∧List.map zC k.b.sells=List.map zC i.b.sells∧atE k.b.at_=atE i.b.at_∧iE k.b.spare=iE i.b.spare∧zEd k i j))))))
def zEt (a:SaI):Prop:=AObj.fro 1 (iE (MSt.addF a).fst.p.months)=AObj.fro 1 (iE a.s.p.months)∧AObj.fro 1 (iE (MSt.addF a).fst.p.settle)=AObj.fro 1 (iE a.s.p.settle)∧True
def zEg (a:SaI):Prop:=zY (MSt.addF a).fst.wh=zY a.s.wh∧zEt a
def sM (a:SaI):Prop:=sb (MSt.addF a).fst.p.code=sb a.s.p.code∧(MSt.addF a).fst.p.tick=a.s.p.tick∧(MSt.addF a).fst.p.low=a.s.p.low∧(MSt.addF a).fst.p.high=a.s.p.high∧(MSt.addF a).fst.p.wide=a.s.p.wide∧(MSt.addF a).fst.p.rule=a.s.p.rule∧(MSt.addF a).fst.p.top=a.s.p.top∧(MSt.addF a).fst.p.least=a.s.p.least∧(MSt.addF a).fst.p.part=a.s.p.part∧AObj.objs 102 Book 6 zR (MSt.addF a).fst.books none=AObj.objs 102 Book 6 zR a.s.books none∧zEg a
def zKs (a:SaI):Prop:=∃(b:Unit),(MSt.addF a).snd=20∧sM a
def mW (a:BaJ):=(a.i.b.addF (zB a.s) a.i.id a.i.price a.i.qty)
def yIv (i:SaI):Prop:=
 (∀(a:Value×List D),a∈zY i.s.wh→like (Value.int IntKind.i64 i.id) a.fst=true)∧∃(a:Bool),∃(b:Int),(wI (Value.int IntKind.i64 i.id) (zY i.s.wh)=some [dI b]∧a=true∨wI (Value.int IntKind.i64 i.id) (zY i.s.wh)=none∧[dI b]=[dI 0]∧a=false)∧cnd (decide (i.inst≥0)) (cnd (!decide (i.inst<(↑i.s.books.length:Int))) (zKs i) (cnd a (∃(c:Unit),(MSt.addF i).snd=25∧sM i) (cnd (decide ((↑(zY i.s.wh).length:Int)≥250)) (∃(c:Unit),(MSt.addF i).snd=13∧sM i) (∃(c:rB),sb c.p.code=sb i.s.p.code∧iE c.p.months=iE i.s.p.months∧c.p.tick=i.s.p.tick∧c.p.low=i.s.p.low∧c.p.high=i.s.p.high∧c.p.wide=i.s.p.wide∧c.p.rule=i.s.p.rule∧c.p.top=i.s.p.top∧c.p.least=i.s.p.least∧c.p.part=i.s.p.part∧iE c.p.settle=iE i.s.p.settle∧c.a=i.inst∧c.b=i.price∧(x7 c)∧∀(d:Unit),True→cnd (c.p.price c.a c.b !=0) (∃(e:Unit),(MSt.addF i).snd=c.p.price c.a c.b∧sM i) ((0≤i.inst∧i.inst<(↑i.s.books.length:Int))∧i.inst.toNat<i.s.books.length∧∃(e:Book),i.s.books[i.inst.toNat]?=some e∧∃(f:BaJ),f.i.id=i.id∧zB f.s=zB i.sd∧f.i.price=i.price∧f.i.qty=i.qty∧yC f.i.b=yC e∧((f.i.b.a.slots.length≤1000000∧(f.i.b.a.free≠0→∃(g:Slot),g∈f.i.b.a.slots∧g.used=false)∧∀(g:fB),g∈f.i.b.a.queues→g.last=(-1)∨0≤g.last∧g.last<(↑f.i.b.a.slots.length:Int))∧f.i.b.a.queues.length≤100000∧f.i.b.buys.length≤100000∧f.i.b.sells.length≤100000∧f.i.b.spare.length≤100000)∧∀(g:Unit),True→∃(h:Book),yC (mW f).fst=yC h∧i.inst.toNat=i.inst.toNat∧i.inst.toNat<i.s.books.length∧cnd ((mW f).snd==0) ((∀(j:Value×List D),j∈zY i.s.wh→like (Value.int IntKind.i64 i.id) j.fst=true)∧∃(j:Unit),(MSt.addF i).snd=(mW f).snd∧sb (MSt.addF i).fst.p.code=sb i.s.p.code∧(MSt.addF i).fst.p.tick=i.s.p.tick∧(MSt.addF i).fst.p.low=i.s.p.low∧(MSt.addF i).fst.p.high=i.s.p.high∧(MSt.addF i).fst.p.wide=i.s.p.wide∧(MSt.addF i).fst.p.rule=i.s.p.rule∧(MSt.addF i).fst.p.top=i.s.p.top∧(MSt.addF i).fst.p.least=i.s.p.least∧(MSt.addF i).fst.p.part=i.s.p.part∧AObj.objs 102 Book 6 zR (MSt.addF i).fst.books none=AObj.objs 102 Book 6 zR (i.s.books.set i.inst.toNat h) none∧zY (MSt.addF i).fst.wh=jQ (Value.int IntKind.i64 i.id) [dI i.inst] (zY i.s.wh)∧zEt i) (∃(j:Unit),(MSt.addF i).snd=(mW f).snd∧sb (MSt.addF i).fst.p.code=sb i.s.p.code∧(MSt.addF i).fst.p.tick=i.s.p.tick∧(MSt.addF i).fst.p.low=i.s.p.low∧(MSt.addF i).fst.p.high=i.s.p.high∧(MSt.addF i).fst.p.wide=i.s.p.wide∧(MSt.addF i).fst.p.rule=i.s.p.rule∧(MSt.addF i).fst.p.top=i.s.p.top∧(MSt.addF i).fst.p.least=i.s.p.least∧(MSt.addF i).fst.p.part=i.s.p.part∧AObj.objs 102 Book 6 zR (MSt.addF i).fst.books none=AObj.objs 102 Book 6 zR (i.s.books.set i.inst.toNat h) none∧zEg i)))))) (zKs i)
open Go Cv Go.Proofs
theorem zKn {α:Type} {f:α→α} {Q:α→Prop} (hf:∀x,Q x→Q (f x)):∀{l:List α} (i:Nat),(∃x∈l,Q x)→∃x∈l.modify i f,Q x
 |[],i,⟨x,hx,_⟩=>by cases hx
 |a::l,0,⟨x,hx,q⟩=>by
  rcases ySy.1 hx with rfl|hx
  ·exact⟨f x,ySk,hf x q⟩
  ·exact⟨x,ySl _ hx,q⟩
 |a::l,i+1,⟨x,hx,q⟩=>by
  rw[yWd]
  rcases ySy.1 hx with rfl|hx
  ·exact⟨x,ySk,q⟩
  ·obtain⟨y,hy,hq⟩:=zKn hf (l:=l) i ⟨x,hx,q⟩
   exact⟨y,ySl _ hy,hq⟩
theorem yCb {a:Arena} (h:a.fit) (n:Int) (t:Bool):(a.topF n t).fit:=by
 obtain⟨h1,h2,h3⟩:=h
 rw[Arena.topF]
 split
 ·refine⟨by simpa using h1,fun hf=> ?_,by simpa using h3⟩
  exact zKn (f:=fun s:Slot=>{s with top:=t}) (Q:=fun s=>s.used=false) (fun x hx=>hx) _ (h2 hf)
 ·exact⟨h1,h2,h3⟩
theorem z5b {b:Book} (h:b.a.fit) (s:Int):(b.untop s).fit:=by
 rw[Book.untop]
 repeat' split
 all_goals first|exact h|exact yCb h _ _
theorem z4r {a:Arena} (h:a.fit):a.openQ.fit:=by
 obtain⟨h1,h2,h3⟩:=h
 refine⟨h1,h2,fun q hq=> ?_⟩
 rcases yTi.1 hq with hq|hq
 ·exact h3 q hq
 ·rw[yUd.1 hq];exact .inl rfl
theorem zWe {b:Book} (h:b.a.fit):b.newQ.2.2.fit:=by
 rw[Book.newQ]
 split
 ·exact z4r h
 ·exact h
theorem p7 {b:Book} (h:b.a.fit) (s p:Int):(b.queueF s p).1.a.fit:=by
 rw[Book.queueF]
 repeat' split
 ·exact h
 ·exact zWe h
 ·exact zWe h
theorem z4l (b:Book) (s:Int):(b.untop s).slots.length=b.a.slots.length∧(b.untop s).queues=b.a.queues:=by
 have ht:∀n t,(b.a.topF n t).slots.length=b.a.slots.length∧(b.a.topF n t).queues=b.a.queues:=by
  intro n t
  rw[Arena.topF]
  split
  ·exact⟨by simp,rfl⟩
  ·exact⟨rfl,rfl⟩
 rw[Book.untop]
 repeat' split
 all_goals first|exact⟨rfl,rfl⟩|exact ht _ _
theorem zOs {b:Book} (h:b.fit) (id s:Int):(b.leadF id s).fit:=by
 obtain⟨h1,h2,h3,h4,h5⟩:=h
 have hl:=z4l b s
 rw[Book.leadF]
 split
 all_goals exact⟨z5b h1 s,by rw[hl.2];exact h2,h3,h4,h5⟩
theorem zOj {b:Book} (h:b.fit):b.small:=by
 obtain⟨⟨h1,_⟩,h2,h3,h4,h5⟩:=h
 exact⟨⟨h1,by omega⟩,by omega,by omega,by omega⟩
theorem yNe (i:BaI) (h:badd1C.cnd i):yBu i:=by
 have hfit:i.b.fit:=h
 have hsm:=zOj hfit
 unfold yBu vP zEb mG tM eF tK zFt zM yO nP nE yJ pQ nF dI
 have plc:∀(b:Book) (x:Int),jQ (Value.int IntKind.i64 i.id) [D.v (.int .i64 1),D.v (.int .i64 i.price),D.v (.int .i64 x)] (atE b.at_)=atE (nX i.id ⟨1,i.price,x⟩ b.at_):=fun b x=>zRz i.id ⟨1,i.price,x⟩ b.at_
 refine⟨jT _ _,(pget i.b.at_ i.id).isSome,_,_,_,zQf _ _,1,rfl,trivial,fun _ _=> ?_⟩
 refine Cv.cnd.mk (fun c=>absurd c (by decide)) fun _=> ?_
 refine zK (fun c=> ?_) (fun c=>zK (fun d=> ?_) (fun d=> ?_))
 ·have ha:i.b.addF 1 i.id i.price i.qty=(i.b,24):=by rw[Book.addF,ySf (.inl c)]
  rw[ha];(repeat'(first|exact rfl|exact trivial|assumption|apply And.intro|refine fun(_:Unit) (_:True)=>?_|refine Exists.intro () ?_|omega|(dsimp only;omega)))
 ·have ha:i.b.addF 1 i.id i.price i.qty=(i.b,24):=by rw[Book.addF,ySf (.inr d)]
  rw[ha];(repeat'(first|exact rfl|exact trivial|assumption|apply And.intro|refine fun(_:Unit) (_:True)=>?_|refine Exists.intro () ?_|omega|(dsimp only;omega)))
 have hq:¬(i.qty<1∨1000000<i.qty):=by omega
 refine Cv.cnd.mk (fun e=> ?_) (fun e=> ?_)
 ·have ha:i.b.addF 1 i.id i.price i.qty=(i.b,25):=by rw[Book.addF,ySe hq,ySf e]
  rw[ha];(repeat'(first|exact rfl|exact trivial|assumption|apply And.intro|refine fun(_:Unit) (_:True)=>?_|refine Exists.intro () ?_|omega|(dsimp only;omega)))
 have hlen:(atE i.b.at_).length=i.b.at_.length:=by simp[atE]
 rw[hlen]
 refine zK (fun f=> ?_) (fun f=> ?_)
 ·have ha:i.b.addF 1 i.id i.price i.qty=(i.b,13):=by rw[Book.addF,ySe hq,ySe (by rw[e];decide),ySf (by omega)]
  rw[ha];(repeat'(first|exact rfl|exact trivial|assumption|apply And.intro|refine fun(_:Unit) (_:True)=>?_|refine Exists.intro () ?_|omega|(dsimp only;omega)))
 have ha:i.b.addF 1 i.id i.price i.qty=(i.b.stand 1 i.id i.price i.qty,0):=by rw[Book.addF,ySe hq,ySe (by rw[e];decide),ySe (by omega)]
 rw[ha]
 simp only[ySh]
 refine⟨true,fun x=>x=i.b.leads 1 i.price,Cv.cnd.mk (fun g=>⟨true,rfl,?_,by(repeat'(first|exact trivial|exact rfl|apply And.intro))⟩) (fun g=> ?_),fun x hx=> ?_⟩
 ·have:i.b.buys=[]:=yTn (by have:(i.b.buys.length:Int)=0:=(by simpa using g);omega)
  rw[Book.leads,nO,this]
 ·obtain⟨r,l,hl⟩:∃r l,i.b.buys=r::l:=by
   cases hb:i.b.buys with
   |nil=>rw[hb]at g;exact absurd g (by decide)
   |cons r l=>exact⟨r,l,rfl⟩
  refine⟨⟨by omega,by rw[hl,ySx];omega⟩,r.price,elA (x:=r) (by rw[hl];rfl) (by simp[zC]) rfl,⟨1,i.price,r.price⟩,rfl,rfl,rfl,trivial,fun _ _=>⟨_,rfl,?_,by(repeat'(first|exact trivial|exact rfl|apply And.intro))⟩⟩
  rw[Book.leads,nO,hl]
 subst hx
 refine Cv.cnd.mk (fun g=> ?_) (fun g=> ?_)
 ·have hled:i.b.led i.id 1 i.price=i.b.leadF i.id 1:=by rw[Book.led,ySf g]
  have hf1:=zOs hfit i.id 1
  have hst:i.b.stand 1 i.id i.price i.qty={((i.b.leadF i.id 1).queueF 1 i.price).1 with a:=(((i.b.leadF i.id 1).queueF 1 i.price).1.a.push ((i.b.leadF i.id 1).queueF 1 i.price).2 i.id i.qty (i.b.leads 1 i.price)).1,at_:=nX i.id ⟨1,i.price,(((i.b.leadF i.id 1).queueF 1 i.price).1.a.push ((i.b.leadF i.id 1).queueF 1 i.price).2 i.id i.qty (i.b.leads 1 i.price)).2.1⟩ ((i.b.leadF i.id 1).queueF 1 i.price).1.at_}:=by
   simp only[Book.stand,hled]
  refine⟨⟨i.b,i.id⟩,rfl,trivial,rfl,rfl,rfl,rfl,rfl,rfl,rfl,rfl,rfl,hsm,fun _ _=>⟨⟨i.b.leadF i.id 1,i.price⟩,trivial,rfl,rfl,rfl,rfl,rfl,rfl,rfl,rfl,rfl,rfl,hf1,fun _ _=>⟨trivial,?_⟩⟩⟩
  refine⟨⟨((i.b.leadF i.id 1).queueF 1 i.price).1.a,((i.b.leadF i.id 1).queueF 1 i.price).2,i.id,i.qty,i.b.leads 1 i.price⟩,rfl,rfl,rfl,rfl,rfl,p7 hf1.1 1 i.price,fun _ _=>⟨jT _ _,(),?_⟩⟩
  dsimp only
  rw[hst,plc]
  (repeat'(first|exact rfl|exact trivial|assumption|apply And.intro|refine fun(_:Unit) (_:True)=>?_|refine Exists.intro () ?_|omega|(dsimp only;omega)))
 ·have hled:i.b.led i.id 1 i.price=i.b:=by rw[Book.led,ySe (by rw[g];decide)]
  have hst:i.b.stand 1 i.id i.price i.qty={(i.b.queueF 1 i.price).1 with a:=((i.b.queueF 1 i.price).1.a.push (i.b.queueF 1 i.price).2 i.id i.qty (i.b.leads 1 i.price)).1,at_:=nX i.id ⟨1,i.price,((i.b.queueF 1 i.price).1.a.push (i.b.queueF 1 i.price).2 i.id i.qty (i.b.leads 1 i.price)).2.1⟩ (i.b.queueF 1 i.price).1.at_}:=by
   simp only[Book.stand,hled]
  refine⟨⟨i.b,i.price⟩,trivial,rfl,rfl,rfl,rfl,rfl,rfl,rfl,rfl,rfl,rfl,hfit,fun _ _=>⟨trivial,?_⟩⟩
  refine⟨⟨(i.b.queueF 1 i.price).1.a,(i.b.queueF 1 i.price).2,i.id,i.qty,i.b.leads 1 i.price⟩,rfl,rfl,rfl,rfl,rfl,p7 hfit.1 1 i.price,fun _ _=>⟨jT _ _,(),?_⟩⟩
  dsimp only
  rw[hst,plc]
  (repeat'(first|exact rfl|exact trivial|assumption|apply And.intro|refine fun(_:Unit) (_:True)=>?_|refine Exists.intro () ?_|omega|(dsimp only;omega)))
theorem yCf:badd1C.ok Tryz.prog 118:=okw mixed (gokc zFa (gokc bY (gokc yCk (gokc z5z (gokc zUj gok0))))) 0 (fun _=>yHu) (fun _=>[]) [0] Tryz.func118 yNe
theorem yNq (i:BaI) (h:badd2C.cnd i):yCy i:=by
 have hfit:i.b.fit:=h
 have hsm:=zOj hfit
 unfold yCy vP zEr mH zEd zL yP nP nE yJ tM eF tK pQ nF dI
 have plc:∀(b:Book) (x:Int),jQ (Value.int IntKind.i64 i.id) [D.v (.int .i64 2),D.v (.int .i64 i.price),D.v (.int .i64 x)] (atE b.at_)=atE (nX i.id ⟨2,i.price,x⟩ b.at_):=fun b x=>zRz i.id ⟨2,i.price,x⟩ b.at_
 refine⟨jT _ _,(pget i.b.at_ i.id).isSome,_,_,_,zQf _ _,2,rfl,trivial,fun _ _=> ?_⟩
 refine Cv.cnd.mk (fun c=>absurd c (by decide)) fun _=> ?_
 refine zK (fun c=> ?_) (fun c=>zK (fun d=> ?_) (fun d=> ?_))
 ·have ha:i.b.addF 2 i.id i.price i.qty=(i.b,24):=by rw[Book.addF,ySf (.inl c)]
  rw[ha];(repeat'(first|exact rfl|exact trivial|assumption|apply And.intro|refine fun(_:Unit) (_:True)=>?_|refine Exists.intro () ?_|omega|(dsimp only;omega)))
 ·have ha:i.b.addF 2 i.id i.price i.qty=(i.b,24):=by rw[Book.addF,ySf (.inr d)]
  rw[ha];(repeat'(first|exact rfl|exact trivial|assumption|apply And.intro|refine fun(_:Unit) (_:True)=>?_|refine Exists.intro () ?_|omega|(dsimp only;omega)))
 have hq:¬(i.qty<1∨1000000<i.qty):=by omega
 refine Cv.cnd.mk (fun e=> ?_) (fun e=> ?_)
 ·have ha:i.b.addF 2 i.id i.price i.qty=(i.b,25):=by rw[Book.addF,ySe hq,ySf e]
  rw[ha];(repeat'(first|exact rfl|exact trivial|assumption|apply And.intro|refine fun(_:Unit) (_:True)=>?_|refine Exists.intro () ?_|omega|(dsimp only;omega)))
 have hlen:(atE i.b.at_).length=i.b.at_.length:=by simp[atE]
 rw[hlen]
 refine zK (fun f=> ?_) (fun f=> ?_)
 ·have ha:i.b.addF 2 i.id i.price i.qty=(i.b,13):=by rw[Book.addF,ySe hq,ySe (by rw[e];decide),ySf (by omega)]
  rw[ha];(repeat'(first|exact rfl|exact trivial|assumption|apply And.intro|refine fun(_:Unit) (_:True)=>?_|refine Exists.intro () ?_|omega|(dsimp only;omega)))
 have ha:i.b.addF 2 i.id i.price i.qty=(i.b.stand 2 i.id i.price i.qty,0):=by rw[Book.addF,ySe hq,ySe (by rw[e];decide),ySe (by omega)]
 rw[ha]
 simp only[ySh]
 refine⟨true,fun x=>x=i.b.leads 2 i.price,Cv.cnd.mk (fun g=>⟨true,rfl,?_,by(repeat'(first|exact trivial|exact rfl|apply And.intro))⟩) (fun g=> ?_),fun x hx=> ?_⟩
 ·have:i.b.sells=[]:=yTn (by have:(i.b.sells.length:Int)=0:=(by simpa using g);omega)
  rw[Book.leads,m8,this]
 ·obtain⟨r,l,hl⟩:∃r l,i.b.sells=r::l:=by
   cases hb:i.b.sells with
   |nil=>rw[hb]at g;exact absurd g (by decide)
   |cons r l=>exact⟨r,l,rfl⟩
  refine⟨⟨by omega,by rw[hl,ySx];omega⟩,r.price,elA (x:=r) (by rw[hl];rfl) (by simp[zC]) rfl,⟨2,i.price,r.price⟩,rfl,rfl,rfl,trivial,fun _ _=>⟨_,rfl,?_,by(repeat'(first|exact trivial|exact rfl|apply And.intro))⟩⟩
  rw[Book.leads,m8,hl]
 subst hx
 refine Cv.cnd.mk (fun g=> ?_) (fun g=> ?_)
 ·have hled:i.b.led i.id 2 i.price=i.b.leadF i.id 2:=by rw[Book.led,ySf g]
  have hf1:=zOs hfit i.id 2
  have hst:i.b.stand 2 i.id i.price i.qty={((i.b.leadF i.id 2).queueF 2 i.price).1 with a:=(((i.b.leadF i.id 2).queueF 2 i.price).1.a.push ((i.b.leadF i.id 2).queueF 2 i.price).2 i.id i.qty (i.b.leads 2 i.price)).1,at_:=nX i.id ⟨2,i.price,(((i.b.leadF i.id 2).queueF 2 i.price).1.a.push ((i.b.leadF i.id 2).queueF 2 i.price).2 i.id i.qty (i.b.leads 2 i.price)).2.1⟩ ((i.b.leadF i.id 2).queueF 2 i.price).1.at_}:=by
   simp only[Book.stand,hled]
  refine⟨⟨i.b,i.id⟩,rfl,trivial,rfl,rfl,rfl,rfl,rfl,rfl,rfl,rfl,rfl,hsm,fun _ _=>⟨⟨i.b.leadF i.id 2,i.price⟩,trivial,rfl,rfl,rfl,rfl,rfl,rfl,rfl,rfl,rfl,rfl,hf1,fun _ _=>⟨trivial,?_⟩⟩⟩
  refine⟨⟨((i.b.leadF i.id 2).queueF 2 i.price).1.a,((i.b.leadF i.id 2).queueF 2 i.price).2,i.id,i.qty,i.b.leads 2 i.price⟩,rfl,rfl,rfl,rfl,rfl,p7 hf1.1 2 i.price,fun _ _=>⟨jT _ _,(),?_⟩⟩
  dsimp only
  rw[hst,plc]
  (repeat'(first|exact rfl|exact trivial|assumption|apply And.intro|refine fun(_:Unit) (_:True)=>?_|refine Exists.intro () ?_|omega|(dsimp only;omega)))
 ·have hled:i.b.led i.id 2 i.price=i.b:=by rw[Book.led,ySe (by rw[g];decide)]
  have hst:i.b.stand 2 i.id i.price i.qty={(i.b.queueF 2 i.price).1 with a:=((i.b.queueF 2 i.price).1.a.push (i.b.queueF 2 i.price).2 i.id i.qty (i.b.leads 2 i.price)).1,at_:=nX i.id ⟨2,i.price,((i.b.queueF 2 i.price).1.a.push (i.b.queueF 2 i.price).2 i.id i.qty (i.b.leads 2 i.price)).2.1⟩ (i.b.queueF 2 i.price).1.at_}:=by
   simp only[Book.stand,hled]
  refine⟨⟨i.b,i.price⟩,trivial,rfl,rfl,rfl,rfl,rfl,rfl,rfl,rfl,rfl,rfl,hfit,fun _ _=>⟨trivial,?_⟩⟩
  refine⟨⟨(i.b.queueF 2 i.price).1.a,(i.b.queueF 2 i.price).2,i.id,i.qty,i.b.leads 2 i.price⟩,rfl,rfl,rfl,rfl,rfl,p7 hfit.1 2 i.price,fun _ _=>⟨jT _ _,(),?_⟩⟩
  dsimp only
  rw[hst,plc]
  (repeat'(first|exact rfl|exact trivial|assumption|apply And.intro|refine fun(_:Unit) (_:True)=>?_|refine Exists.intro () ?_|omega|(dsimp only;omega)))
theorem yBz:badd2C.ok Tryz.prog 118:=okw mixed (gokc zFa (gokc bY (gokc yDp (gokc z6v (gokc zUj gok0))))) 0 (fun _=>yHu) (fun _=>[]) [0] Tryz.func118 yNq
theorem yFy:baddC.ok Tryz.prog 118:=fun j=>match j with
 |⟨i,false⟩=>yCf i
 |⟨i,true⟩=>yBz i
theorem yQn (i:SaI) (h:saddC.cnd i):yIv i:=by
 obtain⟨hp,hbl,hb⟩:i.s.fit:=h
 unfold yIv zKs sM mW zEg zEt x7 dI
 simp only[zLo]
 have hml:(zY i.s.wh).length=i.s.wh.length:=by simp[zY]
 rw[hml]
 have out (e:i.inst<0∨i.s.books.length≤i.inst):MSt.addF i=(i.s,20):=by rw[MSt.addF,ySf e]
 refine⟨kJ _ _,(kP i.s.wh i.id).isSome,_,lR _ _,zK (fun c=>Cv.cnd.mk (fun d=> ?_) (fun d=> ?_)) (fun c=> ?_)⟩
 ·have d:¬i.inst<(i.s.books.length:Int):=by simpa using d
  rw[out (.inr (by omega))];(repeat'(first|exact rfl|exact trivial|assumption|apply And.intro|refine fun(_:Unit) (_:True)=>?_|refine Exists.intro () ?_|omega|(dsimp only;omega)))
 ·have d:i.inst<(i.s.books.length:Int):=by simpa using d
  have hn:¬(i.inst<0∨(i.s.books.length:Int)≤i.inst):=by omega
  refine Cv.cnd.mk (fun e=> ?_) (fun e=>zK (fun f=> ?_) (fun f=> ?_))
  ·rw[MSt.addF,ySe hn,ySf e];(repeat'(first|exact rfl|exact trivial|assumption|apply And.intro|refine fun(_:Unit) (_:True)=>?_|refine Exists.intro () ?_|omega|(dsimp only;omega)))
  ·rw[MSt.addF,ySe hn,ySe (by rw[e];decide),ySf (by omega)];(repeat'(first|exact rfl|exact trivial|assumption|apply And.intro|refine fun(_:Unit) (_:True)=>?_|refine Exists.intro () ?_|omega|(dsimp only;omega)))
  ·refine⟨⟨i.s.p,i.inst,i.price⟩,rfl,rfl,rfl,rfl,rfl,rfl,rfl,rfl,rfl,rfl,rfl,rfl,rfl,hp,fun _ _=>Cv.cnd.mk (fun g=> ?_) (fun g=> ?_)⟩
   ·have g:i.s.p.price i.inst i.price≠0:=by simpa using g
    rw[MSt.addF,ySe hn,ySe (by rw[e];decide),ySe (by omega),ySf g];(repeat'(first|exact rfl|exact trivial|assumption|apply And.intro|refine fun(_:Unit) (_:True)=>?_|refine Exists.intro () ?_|omega|(dsimp only;omega)))
   ·have g:i.s.p.price i.inst i.price=0:=by simpa using g
    obtain⟨x,hx⟩:=z6 (l:=i.s.books) (i:=i.inst.toNat) (by omega)
    have hba:i.s.bookAt i.inst=x:=zI hx
    have ha:MSt.addF i=({i.s with books:=i.s.books.set i.inst.toNat (x.addF (zB i.sd) i.id i.price i.qty).1,wh:=if(x.addF (zB i.sd) i.id i.price i.qty).2=0 then g8 i.id i.inst i.s.wh else i.s.wh},(x.addF (zB i.sd) i.id i.price i.qty).2):=by
     rw[MSt.addF,ySe hn,ySe (by rw[e];decide),ySe (by omega),ySe (by simp[g])]
     simp only[hba]
    refine⟨⟨by omega,by omega⟩,by omega,x,hx,⟨⟨x,i.id,i.price,i.qty⟩,i.sd⟩,rfl,rfl,rfl,rfl,rfl,hb x (ySo hx),fun _ _=>⟨(x.addF (zB i.sd) i.id i.price i.qty).1,rfl,trivial,by omega,Cv.cnd.mk (fun z=>⟨kJ _ _,?_⟩) (fun z=> ?_)⟩⟩
    ·have z:(x.addF (zB i.sd) i.id i.price i.qty).2=0:=by simpa using z
     rw[ha,z]
     simp only[if_true]
     (repeat'(first|exact rfl|exact trivial|assumption|apply And.intro|refine fun(_:Unit) (_:True)=>?_|refine Exists.intro () ?_|omega|(dsimp only;omega)))
    ·have z:¬(x.addF (zB i.sd) i.id i.price i.qty).2=0:=by simpa using z
     rw[ha,ySe z]
     (repeat'(first|exact rfl|exact trivial|assumption|apply And.intro|refine fun(_:Unit) (_:True)=>?_|refine Exists.intro () ?_|omega|(dsimp only;omega)))
 ·rw[out (.inl (by omega))];(repeat'(first|exact rfl|exact trivial|assumption|apply And.intro|refine fun(_:Unit) (_:True)=>?_|refine Exists.intro () ?_|omega|(dsimp only;omega)))
theorem yEk:saddC.ok Tryz.prog 98:=okw mixed (gokc rY (gokc yFy gok0)) 1 (fun _=>[]) (fun _=>[]) [0] Tryz.func98 yQn
open Go Cv Go.Proofs
def r3prodC:Con:=con1 (List UInt8) (fun s=>[sV s]) (fun _=>[]) (fun s=>s.length≤1099511627776) (fun s=>yR (j6 s)) (fun _=>[])
def yGv (s:List UInt8):List SAnn:=[{ι:=Nat×Nat,slots:=fun x=>[(3,zA x.2),(7,.nm 0 0)],rows:=fun x=>[.iter (sb s) x.1]}]
def yFs:List (Nat×SAnn):=[(20,bj 29)]
def r5checkC:Con:=con1 Prd (fun p=>[prdV p]) (fun _=>[]) Prd.small (fun p=>zA p.check) (fun _=>[])
def z9a:List SAnn:=[{ι:=Nat,slots:=fun j=>[(3,zA j)],rows:=fun _=>[]},{ι:=Nat,slots:=fun j=>[(4,zA j)],rows:=fun _=>[]},{ι:=Nat,slots:=fun j=>[(5,zA j)],rows:=fun _=>[]}]
def z7u:List (Nat×SAnn):=[(12,bj 19),(32,bj 58),(40,bj 90),(68,bj 136),(96,bj 168),(104,bj 176),(112,bj 204)]
def r5countC:Con:=con1 Prd (fun p=>[prdV p]) (fun _=>[]) Prd.small (fun p=>zA p.count) (fun _=>[])
def r5legsC:Con:=con1 f9 (fun i=>[prdV i.p,zA i.n]) (fun _=>[]) (fun i=>i.p.small) (fun i=> .tup [zA (i.p.legs i.n).1,zA (i.p.legs i.n).2.1,yR (i.p.legs i.n).2.2]) (fun _=>[])
def yGj (i:f9):List SAnn:=[{ι:=Nat,slots:=fun m=>[(8,zA (yG i.p.months.length m)),(9,zA m)],rows:=fun _=>[]},
 {ι:=Nat×Nat,slots:=fun m=>[(8,zA ((yG i.p.months.length m.1+m.2:Nat):Int)),(9,zA m.1),(10,zA ((m.1+1+m.2:Nat):Int))],rows:=fun _=>[]}]
def kN (x:Prd):Int:=2+zH x.months.length 0 3
def yH (x:Prd):Int:=1+zH x.tick 0 9
def jL (n:Nat):List Int:=(List.range n).map fun(i:Nat)=>10*(i:Int)+3
def kG (t:Int) (n:Nat):List Int:=(List.range n).map fun(i:Nat)=>t*(10+(i:Int))
def qU (x:Prd):Prd:=⟨[206,169],jL (kN x).toNat,yH x,-20*yH x,100*yH x,yH x*(5+zH x.wide 0 60),1+zH x.rule 0 2,zH x.top 0 9,1+zH x.least 0 4,zH x.part 0 100,kG (yH x) (kN x).toNat⟩
@[reducible] def Prd.raw (x:Prd):Prop:=yY x.tick∧yY x.wide∧yY x.rule∧yY x.top∧yY x.least∧yY x.part∧x.months.length≤9223372036854775807
def kprodC:Con:=con1 Prd (fun x=>[prdV x]) (fun _=>[]) Prd.raw (fun x=>prdV (qU x)) (fun _=>[])
def yRi (x:Prd) (w:Int) (j:Nat):List AObj:=[.cells [sV [206,169],.own 1,zA (yH x),zA (-20*yH x),zA (100*yH x),zA w,zA (1+zH x.rule 0 2),zA (zH x.top 0 9),zA (1+zH x.least 0 4),zA (zH x.part 0 100),.own 2] 29,.own 3 1 (iE (jL j)),.own 2 1 (iE (kG (yH x) j))]
def yPw (x:Prd):List AObj:=[.cells [sV [206,169],.d (.v (.slice none 0 0)),zA (yH x),zA (-20*yH x),zA (100*yH x),zA 0,zA (1+zH x.rule 0 2),zA (zH x.top 0 9),zA (1+zH x.least 0 4),zA (zH x.part 0 100),.d (.v (.slice none 0 0))] 29]
def yMq (x:Prd):List SAnn:=[{ι:=Nat,slots:=fun j=>[(5,.nm 0 0),(6,zA j)],rows:=fun j=>yRi x (yH x*(5+zH x.wide 0 60)) j}]
def yJy (x:Prd):List (Nat×SAnn):=[(12,{ι:=Unit,slots:=fun _=>[(5,.nm 0 0)],slots0:=fun _=>[],rows0:=fun _=>[],rows:=fun _=>yPw x})]
open Go Cv Go.Proofs
def aE (a:Bool→Prop) (b:Bool) (c:List UInt8) (d:Nat×Nat):Prop:=a b∧Sx.AObj.iter (sb c) (d.fst+(Utf8.decode (sb c) d.fst).snd)=Sx.AObj.iter (sb c) (d.fst+(Utf8.decode (sb c) d.fst).snd)
def qA (a:List UInt8) (b:Nat×Nat):=(↑(Utf8.decode (sb a) b.fst).fst:Int)
def sR (a:List UInt8) (b:Nat×Nat) (c:Bool→Prop):Prop:=∃(d:Bool),d=!(qA a b) !=930∧aE c d a b
def cA (a:Bool→Prop) (b:List UInt8) (c:Nat×Nat):Prop:=∃(d:Bool),d=!false∧aE a d b c
def z4f (s:List UInt8):Prop:=
 ∃(a:Nat×Nat),(↑a.snd:Int)=0∧sb s=sb s∧a.fst=0∧∃(b:Nat×Nat→Prop),∃(c:Nat×Nat→Nat),b a∧∀(d:Nat×Nat),b d→cnd (d.fst.blt (sb s).size) (∃(e:Bool),∃(f:Bool→Prop),cnd (decide ((qA s d)≥65)) (cnd (decide ((qA s d)≤90)) (∃(g:Bool),g=!true∧aE f g s d) (cnd (decide ((qA s d)≥913)) (cnd (decide ((qA s d)≤937)) (sR s d f) (cA f s d)) (cA f s d))) (cnd (decide ((qA s d)≥913)) (cnd (decide ((qA s d)≤937)) (sR s d f) (cA f s d)) (cA f s d))∧∀(g:Bool),f g→cnd g (∃(h:Unit),j6 s=false∧True) (fW d s b c)) (cnd (decide ((↑d.snd:Int)≥1)) (∃(e:Unit),j6 s=decide ((↑d.snd:Int)≤4)∧True) (∃(e:Unit),j6 s=false∧True))
def mZ (a:Prd):Prop:=Sx.AObj.cells [V.d (uG a),V.own 0,V.d (dI a.tick),V.d (dI a.low),V.d (dI a.high),V.d (dI a.wide),V.d (dI a.rule),V.d (dI a.top),V.d (dI a.least),V.d (dI a.part),V.own ((0:Nat)+(1:Nat))] 29=Sx.AObj.cells [V.d (uG a),V.own 0,V.d (dI a.tick),V.d (dI a.low),V.d (dI a.high),V.d (dI a.wide),V.d (dI a.rule),V.d (dI a.top),V.d (dI a.least),V.d (dI a.part),V.own ((0:Nat)+(1:Nat))] 29∧cY a
def rR (a:Nat) (b:Nat→Prop) (c:Nat→Nat) (d:Prd):Prop:=∃(e:Nat),(↑e:Int)=IntKind.i64.wrap ((↑a:Int)+1)∧b e∧c e<c a∧mZ d
def sL (a:Bool→Prop) (b:Prd) (c:Nat) (d:Nat→Prop) (e:Nat→Nat):Prop:=∀(f:Bool),a f→cnd f (∃(g:Unit),b.check=1∧True) (rR c d e b)
def kI (a:Bool→Prop) (b:Bool) (c:Prd):Prop:=a b∧mZ c
def yX (a:Bool→Prop) (b:Prd):Prop:=∃(c:Bool),c=true∧kI a c b
def zVd (p:Prd):Prop:=
 ∃(a:List UInt8),sb a=sb p.code∧a.length≤1099511627776∧∀(b:Unit),True→cnd (!j6 a) (∃(c:Unit),p.check=12∧True) (∃(c:Bool),∃(d:Bool→Prop),cnd (decide ((xH p)<2)) (yX d p) (∃(e:Bool),e=decide ((xH p)>6)∧kI d e p)∧∀(e:Bool),d e→cnd e (∃(f:Unit),p.check=1∧True) (∃(f:Nat),(↑f:Int)=0∧∃(g:Nat→Prop),∃(h:Nat→Nat),g f∧∀(j:Nat),g j→cnd (decide ((↑j:Int)<(xH p))) (∃(k:Bool),∃(l:Bool→Prop),((0≤(↑j:Int)∧(↑j:Int)<(xH p))∧∃(m:Int),zF (iE p.months) (↑j:Int).toNat 0 1=some [dI m]∧cnd (decide (m<0)) (yX l p) ((0≤(↑j:Int)∧(↑j:Int)<(xH p))∧∃(n:Int),zF (iE p.months) (↑j:Int).toNat 0 1=some [dI n]∧cnd (decide (n>1199)) (yX l p) (cnd (decide ((↑j:Int)>0)) ((0≤IntKind.i64.wrap ((↑j:Int)-1)∧IntKind.i64.wrap ((↑j:Int)-1)<(xH p))∧∃(q:Int),zF (iE p.months) (IntKind.i64.wrap ((↑j:Int)-1)).toNat 0 1=some [dI q]∧(0≤(↑j:Int)∧(↑j:Int)<(xH p))∧∃(r:Int),zF (iE p.months) (↑j:Int).toNat 0 1=some [dI r]∧∃(s:Bool),s=decide (q≥r)∧kI l s p) (∃(q:Bool),q=false∧kI l q p))))∧sL l p j g h) (∃(k:Bool),∃(l:Bool→Prop),cnd (decide (p.tick<1)) (yX l p) (cnd (decide (p.tick>1000)) (yX l p) (IntKind.i64=IntKind.i64∧p.tick≠0∧cnd (p.low.tmod p.tick !=0) (yX l p) (IntKind.i64=IntKind.i64∧p.tick≠0∧cnd (p.high.tmod p.tick !=0) (yX l p) (IntKind.i64=IntKind.i64∧p.tick≠0∧∃(m:Bool),m=(p.wide.tmod p.tick !=0)∧kI l m p))))∧∀(m:Bool),l m→cnd m (∃(n:Unit),p.check=22∧True) (∃(n:Nat),(↑n:Int)=0∧∃(q:Nat→Prop),∃(r:Nat→Nat),q n∧∀(s:Nat),q s→cnd (decide ((↑s:Int)<(wE p))) ((0≤(↑s:Int)∧(↑s:Int)<(wE p))∧∃(t:Int),zF (iE p.settle) (↑s:Int).toNat 0 1=some [dI t]∧IntKind.i64=IntKind.i64∧p.tick≠0∧cnd (t.tmod p.tick !=0) (∃(u:Unit),p.check=22∧True) (rR s q r p)) (∃(t:Bool),∃(u:Bool→Prop),cnd (decide (p.low<(-1000000))) (yX u p) (cnd (decide (p.low≥p.high)) (yX u p) (cnd (decide (p.high>1000000)) (yX u p) (cnd (decide (p.wide<0)) (yX u p) (∃(v:Bool),v=decide (p.wide>IntKind.i64.wrap (p.high-p.low))∧kI u v p))))∧∀(v:Bool),u v→cnd v (∃(w:Unit),p.check=23∧True) (cnd ((wE p) !=(xH p)) (∃(w:Unit),p.check=1∧True) (∃(w:Nat),(↑w:Int)=0∧∃(x:Nat→Prop),∃(y:Nat→Nat),x w∧∀(z:Nat),x z→cnd (decide ((↑z:Int)<(wE p))) (∃(a_1:Bool),∃(a_2:Bool→Prop),((0≤(↑z:Int)∧(↑z:Int)<(wE p))∧∃(a_3:Int),zF (iE p.settle) (↑z:Int).toNat 0 1=some [dI a_3]∧cnd (decide (a_3<p.low)) (yX a_2 p) ((0≤(↑z:Int)∧(↑z:Int)<(wE p))∧∃(a_4:Int),zF (iE p.settle) (↑z:Int).toNat 0 1=some [dI a_4]∧∃(a_5:Bool),a_5=decide (a_4>p.high)∧kI a_2 a_5 p))∧sL a_2 p z x y) (∃(a_1:Bool),∃(a_2:Bool→Prop),cnd (decide (p.rule<1)) (yX a_2 p) (∃(a_3:Bool),a_3=decide (p.rule>3)∧kI a_2 a_3 p)∧∀(a_3:Bool),a_2 a_3→cnd a_3 (∃(a_4:Unit),p.check=31∧True) (∃(a_4:Bool),∃(a_5:Bool→Prop),cnd (decide (p.top<0)) (yX a_5 p) (cnd (decide (p.top>1000000)) (yX a_5 p) (cnd (decide (p.least<1)) (yX a_5 p) (cnd (decide (p.least>1000)) (yX a_5 p) (cnd (decide (p.part<0)) (yX a_5 p) (∃(a_6:Bool),a_6=decide (p.part>100)∧kI a_5 a_6 p)))))∧∀(a_6:Bool),a_5 a_6→cnd a_6 (∃(a_7:Unit),p.check=24∧True) (∃(a_7:Unit),p.check=0∧True))))))))))
def zXj (p:Prd):Prop:=
 ∃(a:Prd),pF a p
def gY (a:f9) (b:Nat×Nat):=(↑(yG a.p.months.length b.fst+b.snd):Int)
def z2e (i:f9):Prop:=
 ∃(a:Prd),sb a.code=sb i.p.code∧iE a.months=iE i.p.months∧a.tick=i.p.tick∧a.low=i.p.low∧a.high=i.p.high∧a.wide=i.p.wide∧a.rule=i.p.rule∧a.top=i.p.top∧a.least=i.p.least∧a.part=i.p.part∧iE a.settle=iE i.p.settle∧(zS a)∧∀(b:Unit),True→cnd (a.check !=0) (gX i) (cnd (decide (i.n<0)) (gX i) (cnd (decide (i.n<(wN i))) (eG i) (∃(c:Nat),(uN i c)=(wN i)∧(↑c:Int)=0∧∃(d:Nat→Prop),∃(e:Nat→Nat),d c∧∀(f:Nat),d f→cnd (decide ((↑f:Int)<(wN i))) (∃(g:Nat×Nat),(gY i g)=(uN i f)∧(↑g.fst:Int)=(↑f:Int)∧(↑(g.fst+1+g.snd):Int)=IntKind.i64.wrap ((↑f:Int)+1)∧∃(h:Nat×Nat→Prop),∃(j:Nat×Nat→Nat),h g∧∀(k:Nat×Nat),h k→cnd (decide ((↑(k.fst+1+k.snd):Int)<(wN i))) (cnd ((gY i k)==i.n) (∃(l:Unit),(i.p.legs i.n).fst=(↑k.fst:Int)∧(i.p.legs i.n).snd.fst=(↑(k.fst+1+k.snd):Int)∧(i.p.legs i.n).snd.snd=true∧True) (∃(l:Nat×Nat),(gY i l)=IntKind.i64.wrap ((gY i k)+1)∧(↑l.fst:Int)=(↑k.fst:Int)∧(↑(l.fst+1+l.snd):Int)=IntKind.i64.wrap ((↑(k.fst+1+k.snd):Int)+1)∧h l∧j l<j k∧pI i)) (∃(l:Nat),(uN i l)=(gY i k)∧(↑l:Int)=IntKind.i64.wrap ((↑k.fst:Int)+1)∧zBt d l e f i)) (gX i))))
def xD (a:WiI):Prop:=((-9223372036854775808)≤a.n∧a.n≤9223372036854775807)∧(-1000000)≤a.lo∧a.lo≤a.hi∧a.hi≤1000000
def x5 (a:WiI):=(1+zH a.n a.lo a.hi)
def dC:=(D.v (Value.string (ByteArray.mk #[])))
def zDu (a:Prd):Prop:=Sx.AObj.cells (Sx.V.agg [V.d dC,V.d (D.v (Value.slice none 0 0)),V.d (dI 0),V.d (dI 0),V.d (dI 0),V.d (dI 0),V.d (dI 0),V.d (dI 0),V.d (dI 0),V.d (dI 0),V.d (D.v (Value.slice none 0 0))]).cl 29=Sx.AObj.cells (Sx.V.agg [V.d dC,V.d (D.v (Value.slice none 0 0)),V.d (dI 0),V.d (dI 0),V.d (dI 0),V.d (dI 0),V.d (dI 0),V.d (dI 0),V.d (dI 0),V.d (dI 0),V.d (D.v (Value.slice none 0 0))]).cl 29∧mZ a
def zFd (a:Prd) (b:WiI) (c:WiI) (d:WiI) (e:WiI) (f:Unit→Prop):Prop:=∃(g:WiI),g.n=a.part∧g.lo=0∧g.hi=100∧(xD g)∧∀(h:Unit),True→∃(j:Unit),sb [(206:UInt8),(169:UInt8)]=ByteArray.mk #[(206:UInt8),(169:UInt8)]∧True∧yH a=IntKind.i64.wrap (x5 b)∧(-20)*yH a=IntKind.i64.wrap ((-20)*IntKind.i64.wrap (x5 b))∧100*yH a=IntKind.i64.wrap (100*IntKind.i64.wrap (x5 b))∧(0:Int)=(0:Int)∧1+zH a.rule 0 2=IntKind.i64.wrap (x5 c)∧zH a.top 0 9=zH d.n d.lo d.hi∧1+zH a.least 0 4=IntKind.i64.wrap (x5 e)∧zH a.part 0 100=zH g.n g.lo g.hi∧True∧f j∧zDu a
def zFm (a:Prd) (b:WiI) (c:WiI) (d:WiI) (e:WiI) (f:Unit→Prop):Prop:=a.part=a.part∧zFd a b c d e f
def zFz (a:Prd) (b:WiI) (c:WiI) (d:WiI) (e:Unit→Prop):Prop:=a.part=a.part∧a.least=a.least∧∃(f:WiI),f.n=a.least∧f.lo=0∧f.hi=4∧(xD f)∧∀(g:Unit),True→zFm a b c d f e
def zEa (a:Prd) (b:WiI) (c:WiI) (d:Unit→Prop):Prop:=a.part=a.part∧a.least=a.least∧a.top=a.top∧∃(e:WiI),e.n=a.top∧e.lo=0∧e.hi=9∧(xD e)∧∀(f:Unit),True→zFz a b c e d
def z9h (x:Prd):Prop:=
 ∃(a:WiI),a.n=(xH x)∧a.lo=0∧a.hi=3∧(xD a)∧∀(b:Unit),True→∃(c:WiI),c.n=x.tick∧c.lo=0∧c.hi=9∧(xD c)∧∀(d:Unit),True→∃(e:Unit),∃(f:Unit→Prop),((∃(g:WiI),g.n=x.rule∧g.lo=0∧g.hi=2∧(xD g)∧∀(h:Unit),True→x.part=x.part∧x.least=x.least∧x.top=x.top∧(∃(j:WiI),j.n=x.top∧j.lo=0∧j.hi=9∧(xD j)∧∀(k:Unit),True→x.part=x.part∧x.least=x.least∧(∃(l:WiI),l.n=x.least∧l.lo=0∧l.hi=4∧(xD l)∧∀(m:Unit),True→x.part=x.part∧(zFd x c g j l f)∧zFm x c g j l f)∧zFz x c g j f)∧zEa x c g f)∧x.part=x.part∧x.least=x.least∧x.top=x.top∧x.rule=x.rule∧∃(g:WiI),g.n=x.rule∧g.lo=0∧g.hi=2∧(xD g)∧∀(h:Unit),True→zEa x c g f)∧∀(g:Unit),f g→∃(h:WiI),h.n=x.wide∧h.lo=0∧h.hi=60∧(xD h)∧∀(j:Unit),True→∃(k:Nat),(↑k:Int)=0∧sb [(206:UInt8),(169:UInt8)]=sb [(206:UInt8),(169:UInt8)]∧yH x=yH x∧(-20)*yH x=(-20)*yH x∧100*yH x=100*yH x∧yH x*(5+zH x.wide 0 60)=IntKind.i64.wrap (IntKind.i64.wrap (x5 c)*IntKind.i64.wrap (5+zH h.n h.lo h.hi))∧1+zH x.rule 0 (2:Int)=(1:Int)+zH x.rule 0 2∧zH x.top 0 9=zH x.top 0 (9:Int)∧(1:Int)+zH x.least 0 (4:Int)=(1:Int)+zH x.least 0 4∧zH x.part 0 100=zH x.part 0 100∧iE (jL k)=[]∧iE (kG (yH x) k)=[]∧∃(l:Nat→Prop),∃(m:Nat→Nat),l k∧∀(n:Nat),l n→cnd (decide ((↑n:Int)<IntKind.i64.wrap (2+zH a.n a.lo a.hi))) (((iE (jL n)).length+1)*(8:Nat)≤(70368744177664:Nat)∧((iE (kG (yH x) n)).length+1)*(8:Nat)≤(70368744177664:Nat)∧∃(p:Nat),(↑p:Int)=IntKind.i64.wrap ((↑n:Int)+1)∧sb [(206:UInt8),(169:UInt8)]=sb [(206:UInt8),(169:UInt8)]∧yH x=yH x∧(-20)*yH x=(-20)*yH x∧100*yH x=100*yH x∧yH x*(5+zH x.wide 0 60)=yH x*(5+zH x.wide 0 60)∧1+zH x.rule 0 (2:Int)=(1:Int)+zH x.rule 0 2∧zH x.top 0 9=zH x.top 0 (9:Int)∧(1:Int)+zH x.least 0 (4:Int)=(1:Int)+zH x.least 0 4∧zH x.part 0 100=zH x.part 0 100∧iE (jL p)=iE (jL n)++[[dI (IntKind.i64.wrap (IntKind.i64.wrap (10*(↑n:Int))+3))]]∧iE (kG (yH x) p)=iE (kG (yH x) n)++[[dI (IntKind.i64.wrap (IntKind.i64.wrap (x5 c)*IntKind.i64.wrap (10+(↑n:Int))))]]∧l p∧m p<m n∧zDu x) (∃(p:Unit),sb [(206:UInt8),(169:UInt8)]=sb [(206:UInt8),(169:UInt8)]∧iE (jL (kN x).toNat)=iE (jL n)∧yH x=yH x∧(-20)*yH x=(-20)*yH x∧100*yH x=100*yH x∧yH x*(5+zH x.wide 0 60)=yH x*(5+zH x.wide 0 60)∧1+zH x.rule 0 (2:Int)=(1:Int)+zH x.rule 0 2∧zH x.top 0 9=zH x.top 0 (9:Int)∧(1:Int)+zH x.least 0 (4:Int)=(1:Int)+zH x.least 0 4∧zH x.part 0 100=zH x.part 0 100∧iE (kG (yH x) (kN x).toNat)=iE (kG (yH x) n)∧True)
open Go Cv Go.Proofs
theorem yDw (s:List UInt8) (h:r3prodC.cnd s):z4f s:=by
 have h:s.length≤1099511627776:=h
 have hr:=zFr s
 unfold z4f cA sR qA aE fW
 refine⟨(0,0),rfl,rfl,rfl,fun x=>x.1≤s.length∧x.2+(gF s x.1).length=(kW s).length∧(kW s).all u0=((gF s x.1).all fun y=>u0 y.2),fun x=>s.length-x.1,⟨by omega,by rw[kW,ySh];simp,by rw[kW,List.all_map];rfl⟩,?_⟩
 rintro⟨p,n⟩ ⟨h1,h2,h3⟩
 dsimp only at h1 h2 h3 ⊢
 refine Cv.cnd.mk (fun hp=> ?_) (fun hp=> ?_)
 ·have hp:p<s.length:=by simpa[yVi]using hp
  have hw:=bV s hp
  rw[j8 hp,ySx]at h2
  rw[j8 hp,List.all_cons]at h3
  generalize hc:(Utf8.decode (sb s) p).1=c at h2 h3 ⊢
  generalize hww:(Utf8.decode (sb s) p).2=w at h2 h3 hw ⊢
  dsimp only at h3
  have g0:∀b:Bool,(b=true→u0 c=true)→(b=false→u0 c=false)→b=u0 c:=fun b e1 e2=>by cases b<;>simp_all
  refine⟨true,fun b=>b= !u0 c,?_,fun b hb=> ?_⟩
  ·refine zK (fun c1=>zK (fun c2=>⟨_,rfl,?_,by(repeat'(first|exact trivial|exact rfl|apply And.intro))⟩) (fun c2=>zK (fun c3=>zK (fun c4=>⟨_,rfl,?_,by(repeat'(first|exact trivial|exact rfl|apply And.intro))⟩) (fun c4=>⟨_,rfl,?_,by(repeat'(first|exact trivial|exact rfl|apply And.intro))⟩)) (fun c3=>⟨_,rfl,?_,by(repeat'(first|exact trivial|exact rfl|apply And.intro))⟩))) (fun c1=>zK (fun c3=>zK (fun c4=>⟨_,rfl,?_,by(repeat'(first|exact trivial|exact rfl|apply And.intro))⟩) (fun c4=>⟨_,rfl,?_,by(repeat'(first|exact trivial|exact rfl|apply And.intro))⟩)) (fun c3=>⟨_,rfl,?_,by(repeat'(first|exact trivial|exact rfl|apply And.intro))⟩))
   all_goals congr 1
   all_goals refine g0 _ (fun e=> ?_) (fun e=> ?_)
   all_goals first|(simp[u0]at*;done)|(simp[u0]at*;omega)
  ·subst hb
   refine Cv.cnd.mk (fun e=>⟨(),?_,trivial⟩) (fun e=>⟨(p+w,n+1),?_,rfl,rfl,⟨hw.2,by(first|omega|(dsimp only;omega)),?_⟩,by(first|omega|(dsimp only;omega)),trivial⟩)
   ·have e:u0 c=false:=by simpa using e
    rw[j6,h3,e];rfl
   ·rw[w64 (by omega)];rfl
   ·have e:u0 c=true:=by simpa using e
    rw[h3,e];rfl
 ·have hp:s.length≤p:=by have:=z1q hp;simpa using this
  rw[fU hp]at h2 h3
  have h3:(kW s).all u0=true:=h3
  have hn:n=(kW s).length:=by simpa using h2
  have hne:(s=[])↔(kW s).length=0:=by
   constructor
   ·intro e;subst e;rfl
   ·intro e
    cases s with
    |nil=>rfl
    |cons b l=>
     rw[kW,ySh,j8 (by simp)]at e
     simp at e
  refine zK (fun c=>⟨(),?_,trivial⟩) (fun c=>⟨(),?_,trivial⟩)
  ·have:¬s=[]:=by rw[hne];omega
   rw[j6,h3,ySw this,hn]
   simp only[yTm]
   congr 1
   simp only[eq_iff_iff];omega
  ·have:s=[]:=by rw[hne];omega
   rw[j6,this];rfl
theorem z4m:r3prodC.ok Tryz.prog 101:=okw mixed gok0 0 (fun _=>yFs) (fun s=>yGv s) [] Tryz.func101 yDw
theorem nG:∀(l:List Int) (a:Int),l.foldl min a≤a∧∀x∈l,l.foldl min a≤x
 |[],a=>⟨yWb _,by simp⟩
 |b::l,a=>by
  obtain⟨h1,h2⟩:=nG l (min a b)
  rw[yWl]
  refine⟨by omega,fun x hx=> ?_⟩
  rcases ySy.1 hx with rfl|hx
  ·omega
  ·exact h2 x hx
theorem pE:∀(l:List Int) (a:Int),a≤l.foldl max a∧∀x∈l,x≤l.foldl max a
 |[],a=>⟨yWb _,by simp⟩
 |b::l,a=>by
  obtain⟨h1,h2⟩:=pE l (max a b)
  rw[yWl]
  refine⟨by omega,fun x hx=> ?_⟩
  rcases ySy.1 hx with rfl|hx
  ·omega
  ·exact h2 x hx
theorem lB:∀(l:List Int) (a:Int),l.foldl min a=a∨l.foldl min a∈l
 |[],a=> .inl rfl
 |b::l,a=>by
  rw[yWl]
  rcases lB l (min a b)with h|h
  ·rcases Int.le_total a b with e|e
   ·left;rw[h];omega
   ·right;rw[h,show min a b=b by omega];exact ySk
  ·exact .inr (ySl _ h)
theorem lA:∀(l:List Int) (a:Int),l.foldl max a=a∨l.foldl max a∈l
 |[],a=> .inl rfl
 |b::l,a=>by
  rw[yWl]
  rcases lA l (max a b)with h|h
  ·rcases Int.le_total a b with e|e
   ·right;rw[h,show max a b=b by omega];exact ySk
   ·left;rw[h];omega
  ·exact .inr (ySl _ h)
theorem z2f {l:List Int} {x:Int} (h:x∈l):pB l≤x:=by
 cases l with
 |nil=>cases h
 |cons a l=>
  rw[pB,List.tail_cons,List.headD_cons]
  rcases ySy.1 h with rfl|h
  ·exact(nG l x).1
  ·exact(nG l a).2 x h
theorem z3n {l:List Int} {x:Int} (h:x∈l):x≤rI l:=by
 cases l with
 |nil=>cases h
 |cons a l=>
  rw[rI,List.tail_cons,List.headD_cons]
  rcases ySy.1 h with rfl|h
  ·exact(pE l x).1
  ·exact(pE l a).2 x h
theorem zUv {l:List Int} (h:l≠[]):pB l∈l:=by
 cases l with
 |nil=>exact absurd rfl h
 |cons a l=>
  rw[pB,List.tail_cons,List.headD_cons]
  rcases lB l a with h|h
  ·rw[h];exact ySk
  ·exact ySl _ h
theorem zXe {l:List Int} (h:l≠[]):rI l∈l:=by
 cases l with
 |nil=>exact absurd rfl h
 |cons a l=>
  rw[rI,List.tail_cons,List.headD_cons]
  rcases lA l a with h|h
  ·rw[h];exact ySk
  ·exact ySl _ h
theorem z8w (p:Prd) (h:r5checkC.cnd p):zVd p:=by
 obtain⟨h1,h2,h3⟩:p.small:=h
 unfold zVd yX kI sL rR mZ uG cY xH wE dI
 simp only[yW]
 refine⟨p.code,rfl,h1,fun _ _=>Cv.cnd.mk (fun c1=>⟨(),by rw[Prd.check,ySf c1],trivial⟩) fun c1=> ?_⟩
 have c1:j6 p.code=true:=by simpa using c1
 have e1:p.check=if !xJ p.months then 1 else if !qM p then 22 else if qN p then 23 else if xM p then 1 else if kF p then 31 else if x3 p then 24 else 0:=by
  rw[Prd.check,ySe (by simp[c1])]
 refine⟨true,fun b=>b=(decide (p.months.length<2)||decide (p.months.length>6)),zK (fun c=>⟨true,rfl,?_,by(repeat'(first|exact trivial|exact rfl|apply And.intro))⟩) (fun c=>⟨_,rfl,?_,by(repeat'(first|exact trivial|exact rfl|apply And.intro))⟩),fun b hb=> ?_⟩
 ·rw[ySw (show p.months.length<2 by omega)];rfl
 ·rw[ySp (show ¬p.months.length<2 by omega),yVn]
  congr 1;simp only[eq_iff_iff];omega
 subst hb
 refine Cv.cnd.mk (fun c2=> ?_) (fun c2=> ?_)
 ·have:xJ p.months=false:=by
   simp only[yVo,yTj]at c2
   rw[xJ]
   rcases c2 with c2|c2
   ·rw[ySp (show ¬2≤p.months.length by omega)];simp
   ·rw[ySp (show ¬p.months.length≤6 by omega)];simp
  exact⟨(),by rw[e1,ySf (by rw[this];rfl)],trivial⟩
 have c2:2≤p.months.length∧p.months.length≤6:=by
  simp only[yWj,decide_eq_false_iff_not]at c2;omega
 have em:xJ p.months=(List.range p.months.length).all (qS p.months):=by
  rw[xJ,ySw c2.1,ySw c2.2];simp
 refine⟨0,rfl,fun j=>j≤p.months.length∧∀k<j,qS p.months k=true,fun j=>p.months.length-j,⟨by omega,fun k hk=>by omega⟩,?_⟩
 rintro j ⟨g1,g2⟩
 refine zK (fun hj=> ?_) (fun hj=> ?_)
 ·obtain⟨m,hm⟩:=z6 (l:=p.months) (i:=j) (by omega)
  have hmj:p.months.getD j 0=m:=zI hm
  refine⟨true,fun b=>b= !qS p.months j,⟨⟨by omega,by omega⟩,m,elI hm,zK (fun c=>⟨true,rfl,?_,by(repeat'(first|exact trivial|exact rfl|apply And.intro))⟩) (fun c=>⟨⟨by omega,by omega⟩,m,elI hm,zK (fun d=>⟨true,rfl,?_,by(repeat'(first|exact trivial|exact rfl|apply And.intro))⟩) (fun d=>zK (fun e=> ?_) (fun e=>⟨false,rfl,?_,by(repeat'(first|exact trivial|exact rfl|apply And.intro))⟩))⟩)⟩,fun b hb=> ?_⟩
  ·rw[qS,hmj,ySp (show ¬0≤m by omega)];rfl
  ·rw[qS,hmj,ySp (show ¬m≤1199 by omega)];simp
  ·obtain⟨m',hm'⟩:=z6 (l:=p.months) (i:=j-1) (by omega)
   rw[w64 (by omega),show((j:Int)-1).toNat=j-1 by omega]
   refine⟨⟨by omega,by omega⟩,m',elI hm',⟨by omega,by omega⟩,m,elI hm,_,rfl,?_,by(repeat'(first|exact trivial|exact rfl|apply And.intro))⟩
   rw[qS,hmj,zI hm',ySw (show 0≤m by omega),ySw (show m≤1199 by omega),ySp (show ¬j=0 by omega)]
   simp only[yTm,yVn]
   by_cases hlt:m'<m
   ·rw[ySw hlt,ySp (by omega)];rfl
   ·rw[ySp hlt,ySw (by omega)];rfl
  ·rw[qS,hmj,ySw (show 0≤m by omega),ySw (show m≤1199 by omega),ySw (show j=0 by omega)];rfl
  ·subst hb
   refine Cv.cnd.mk (fun c=>⟨(),?_,trivial⟩) (fun c=>⟨j+1,by rw[w64 (by omega)];rfl,⟨by omega,fun k hk=> ?_⟩,by(first|omega|(dsimp only;omega)),by(repeat'(first|exact trivial|exact rfl|apply And.intro))⟩)
   ·have c:qS p.months j=false:=by simpa using c
    rw[e1,ySf (by rw[em,zOv (k:=j) (by omega) c];rfl)]
   ·have c:qS p.months j=true:=by simpa using c
    rcases yUr k j with h|h
    ·exact g2 k h
    ·obtain rfl:k=j:=by omega
     exact c
 have em:xJ p.months=true:=by rw[em];exact zTv fun k hk=>g2 k (by omega)
 have e2:p.check=if !qM p then 22 else if qN p then 23 else if xM p then 1 else if kF p then 31 else if x3 p then 24 else 0:=by
  rw[e1,ySe (by simp[em])]
 have et:qM p=((decide (1≤p.tick) && decide (p.tick≤1000) && !qQ p.tick p.low && !qQ p.tick p.high && !qQ p.tick p.wide) && !p.settle.any (qQ p.tick)):=rfl
 refine⟨true,fun b=>b= !(decide (1≤p.tick) && decide (p.tick≤1000) && !qQ p.tick p.low && !qQ p.tick p.high && !qQ p.tick p.wide),zK (fun d1=>⟨true,rfl,?_,by(repeat'(first|exact trivial|exact rfl|apply And.intro))⟩) (fun d1=>zK (fun d2=>⟨true,rfl,?_,by(repeat'(first|exact trivial|exact rfl|apply And.intro))⟩) (fun d2=>⟨trivial,by omega,Cv.cnd.mk (fun d3=>⟨true,rfl,?_,by(repeat'(first|exact trivial|exact rfl|apply And.intro))⟩) (fun d3=>⟨trivial,by omega,Cv.cnd.mk (fun d4=>⟨true,rfl,?_,by(repeat'(first|exact trivial|exact rfl|apply And.intro))⟩) (fun d4=>⟨trivial,by omega,_,rfl,?_,by(repeat'(first|exact trivial|exact rfl|apply And.intro))⟩)⟩)⟩)),fun b hb=> ?_⟩
 ·rw[ySp (show ¬1≤p.tick by omega)];rfl
 ·rw[ySp (show ¬p.tick≤1000 by omega)];simp
 ·have d3:qQ p.tick p.low=true:=d3
  rw[d3];simp
 ·have d4:qQ p.tick p.high=true:=d4
  rw[d4];simp
 ·have d3:qQ p.tick p.low=false:=d3
  have d4:qQ p.tick p.high=false:=d4
  rw[d3,d4,ySw (show 1≤p.tick by omega),ySw (show p.tick≤1000 by omega)]
  show qQ p.tick p.wide=_
  simp
 subst hb
 refine Cv.cnd.mk (fun c3=> ?_) (fun c3=> ?_)
 ·have c3:(decide (1≤p.tick) && decide (p.tick≤1000) && !qQ p.tick p.low && !qQ p.tick p.high && !qQ p.tick p.wide)=false:=by
   rw[yXh]at c3
   exact c3
  exact⟨(),by rw[e2,ySf (by rw[et,c3];rfl)],trivial⟩
 have c3:(decide (1≤p.tick) && decide (p.tick≤1000) && !qQ p.tick p.low && !qQ p.tick p.high && !qQ p.tick p.wide)=true:=by simpa using c3
 have ht1:1≤p.tick:=by
  simp only[ySs,yTj]at c3;exact c3.1.1.1.1
 rw[c3,yTm]at et
 refine⟨0,rfl,fun j=>j≤p.settle.length∧∀k<j,∀x,p.settle[k]? =some x→qQ p.tick x=false,fun j=>p.settle.length-j,⟨by omega,fun k hk=>by omega⟩,?_⟩
 rintro j ⟨g1,g2⟩
 refine zK (fun hj=> ?_) (fun hj=> ?_)
 ·obtain⟨m,hm⟩:=z6 (l:=p.settle) (i:=j) (by omega)
  refine⟨⟨by omega,by omega⟩,m,elI hm,trivial,by omega,Cv.cnd.mk (fun c=>⟨(),?_,trivial⟩) (fun c=>⟨j+1,by rw[w64 (by omega)];rfl,⟨by omega,fun k hk x hx=> ?_⟩,by(first|omega|(dsimp only;omega)),by(repeat'(first|exact trivial|exact rfl|apply And.intro))⟩)⟩
  ·have c:qQ p.tick m=true:=c
   have:p.settle.any (qQ p.tick)=true:=by rw[yYe];exact⟨m,ySo hm,c⟩
   rw[e2,ySf (by rw[et,this];rfl)]
  ·rcases yUr k j with h|h
   ·exact g2 k h x hx
   ·obtain rfl:k=j:=by omega
    rw[hm]at hx;cases hx;exact c
 have et:qM p=true:=by
  rw[et]
  have:p.settle.any (qQ p.tick)=false:=by
   rw[yXj]
   intro x hx
   obtain⟨k,hk⟩:=yXe hx
   rw[g2 k (by have:=(ySg.1 hk).1;omega) x hk];simp
  rw[this];rfl
 have e3:p.check=if qN p then 23 else if xM p then 1 else if kF p then 31 else if x3 p then 24 else 0:=by
  rw[e2,ySe (by simp[et])]
 refine⟨true,fun b=>b=qN p,zK (fun d1=>⟨true,rfl,?_,by(repeat'(first|exact trivial|exact rfl|apply And.intro))⟩) (fun d1=>zK (fun d2=>⟨true,rfl,?_,by(repeat'(first|exact trivial|exact rfl|apply And.intro))⟩) (fun d2=>zK (fun d3=>⟨true,rfl,?_,by(repeat'(first|exact trivial|exact rfl|apply And.intro))⟩) (fun d3=>zK (fun d4=>⟨true,rfl,?_,by(repeat'(first|exact trivial|exact rfl|apply And.intro))⟩) (fun d4=>⟨_,rfl,?_,by(repeat'(first|exact trivial|exact rfl|apply And.intro))⟩)))),fun b hb=> ?_⟩
 ·simp[qN,d1]
 ·simp[qN,d2]
 ·simp[qN,d3]
 ·simp[qN,d4]
 ·rw[w64 (by omega)];simp[qN,d1,d2,d3,d4]
 subst hb
 refine Cv.cnd.mk (fun c4=>⟨(),by rw[e3,ySf c4],trivial⟩) (fun c4=> ?_)
 have e4:p.check=if xM p then 1 else if kF p then 31 else if x3 p then 24 else 0:=by
  rw[e3,ySe (by simp[c4])]
 refine Cv.cnd.mk (fun d6=>⟨(),?_,trivial⟩) (fun d6=> ?_)
 ·have d6:¬(p.settle.length:Int)=p.months.length:=by simpa using d6
  rw[e4,ySf (by simp[xM];omega)]
 have d6:p.settle.length=p.months.length:=by
  have:(p.settle.length:Int)=p.months.length:=by simpa using d6
  omega
 have hne:p.settle≠[]:=by intro e;rw[e]at d6;simp at d6;omega
 refine⟨0,rfl,fun j=>j≤p.settle.length∧∀k<j,∀x,p.settle[k]? =some x→p.low≤x∧x≤p.high,fun j=>p.settle.length-j,⟨by omega,fun k hk=>by omega⟩,?_⟩
 rintro j ⟨g3,g4⟩
 refine zK (fun hj=> ?_) (fun hj=> ?_)
 ·obtain⟨m,hm⟩:=z6 (l:=p.settle) (i:=j) (by omega)
  have hmm:=ySo hm
  refine⟨true,fun b=>b=(decide (m<p.low)||decide (m>p.high)),⟨⟨by omega,by omega⟩,m,elI hm,zK (fun c=>⟨true,rfl,?_,by(repeat'(first|exact trivial|exact rfl|apply And.intro))⟩) (fun c=>⟨⟨by omega,by omega⟩,m,elI hm,_,rfl,?_,by(repeat'(first|exact trivial|exact rfl|apply And.intro))⟩)⟩,fun b hb=> ?_⟩
  ·rw[ySw c];rfl
  ·rw[ySp c,yVn]
  ·subst hb
   refine Cv.cnd.mk (fun c=>⟨(),?_,trivial⟩) (fun c=>⟨j+1,by rw[w64 (by omega)];rfl,⟨by omega,fun k hk x hx=> ?_⟩,by(first|omega|(dsimp only;omega)),by(repeat'(first|exact trivial|exact rfl|apply And.intro))⟩)
   ·have l1:=z2f hmm
    have l2:=z3n hmm
    rw[e4,ySf (by
     simp only[yVo,yTj]at c
     simp only[xM,yVo,yTj]
     rcases c with c|c
     ·left;right;omega
     ·right;omega)]
   ·rcases yUr k j with h|h
    ·exact g4 k h x hx
    ·obtain rfl:k=j:=by omega
     rw[hm]at hx;cases hx
     simp only[yWj,decide_eq_false_iff_not]at c
     omega
 have hset:xM p=false:=by
  have all:∀x∈p.settle,p.low≤x∧x≤p.high:=fun x hx=>by
   obtain⟨k,hk⟩:=yXe hx
   exact g4 k (by have:=(ySg.1 hk).1;omega) x hk
  have a1:=all _ (zUv hne)
  have a2:=all _ (zXe hne)
  simp only[xM,yWj,decide_eq_false_iff_not]
  omega
 have e5:p.check=if kF p then 31 else if x3 p then 24 else 0:=by
  rw[e4,ySe (by simp[hset])]
 refine⟨true,fun b=>b=kF p,zK (fun d1=>⟨true,rfl,?_,by(repeat'(first|exact trivial|exact rfl|apply And.intro))⟩) (fun d1=>⟨_,rfl,?_,by(repeat'(first|exact trivial|exact rfl|apply And.intro))⟩),fun b hb=> ?_⟩
 ·simp[kF,d1]
 ·simp[kF,d1]
 subst hb
 refine Cv.cnd.mk (fun c6=>⟨(),by rw[e5,ySf c6],trivial⟩) (fun c6=> ?_)
 have e6:p.check=if x3 p then 24 else 0:=by rw[e5,ySe (by simp[c6])]
 refine⟨true,fun b=>b=x3 p,zK (fun d1=>⟨true,rfl,?_,by(repeat'(first|exact trivial|exact rfl|apply And.intro))⟩) (fun d1=>zK (fun d2=>⟨true,rfl,?_,by(repeat'(first|exact trivial|exact rfl|apply And.intro))⟩) (fun d2=>zK (fun d3=>⟨true,rfl,?_,by(repeat'(first|exact trivial|exact rfl|apply And.intro))⟩) (fun d3=>zK (fun d4=>⟨true,rfl,?_,by(repeat'(first|exact trivial|exact rfl|apply And.intro))⟩) (fun d4=>zK (fun d5=>⟨true,rfl,?_,by(repeat'(first|exact trivial|exact rfl|apply And.intro))⟩) (fun d5=>⟨_,rfl,?_,by(repeat'(first|exact trivial|exact rfl|apply And.intro))⟩))))),fun b hb=> ?_⟩
 ·simp[x3,d1]
 ·simp[x3,d2]
 ·simp[x3,d3]
 ·simp[x3,d4]
 ·simp[x3,d5]
 ·simp[x3,d1,d2,d3,d4,d5]
 subst hb
 exact Cv.cnd.mk (fun c7=>⟨(),by rw[e6,ySf c7],trivial⟩) (fun c7=>⟨(),by rw[e6,ySe (by simp[c7])],trivial⟩)
theorem zKp:r5checkC.ok Tryz.prog 77:=okw mixed (gokc z4m gok0) 0 (fun _=>z7u) (fun _=>z9a) [] Tryz.func77 z8w
theorem gS {p:Prd} (h:p.check=0):p.count=p.months.length+p.months.length*(p.months.length-1) / 2:=by rw[Prd.count,ySf h]
theorem zId {p:Prd} (h:p.check≠0):p.count=0:=by rw[Prd.count,ySe h]
theorem z7j (p:Prd) (h:r5countC.cnd p):zXj p:=by
 have hs:p.small:=h
 unfold zXj pF xH zS
 simp only[yW]
 refine⟨p,rfl,rfl,rfl,rfl,rfl,rfl,rfl,rfl,rfl,rfl,rfl,hs,fun _ _=>Cv.cnd.mk (fun c=>⟨(),?_,trivial⟩) (fun c=>⟨trivial,by decide,(),?_,trivial⟩)⟩
 ·rw[zId (by simpa using c)];rfl
 ·have c:p.check=0:=by simpa using c
  have m6:=(qG c).m6
  have m2:=(qG c).m2
  rw[gS c]
  generalize p.months.length=n at*
  have:n=2∨n=3∨n=4∨n=5∨n=6:=by omega
  rcases this with rfl|rfl|rfl|rfl|rfl<;>decide
theorem zZr:r5countC.ok Tryz.prog 46:=okw mixed (gokc zKp gok0) 0 (fun _=>[]) (fun _=>[]) [] Tryz.func46 z7j
theorem zTu:∀n≤6,∀a<n,∀b<n-1-a,kA n (yG n a+b) n 0=((a:Int),((a+1+b:Nat):Int),true)∧yG n a+b<n+n*(n-1) / 2∧n≤yG n a+b:=by decide
theorem z5c:∀n≤6,yG n n=n+n*(n-1) / 2:=by decide
theorem z4d {p:Prd} (h:p.check=0) {a b:Nat} (ha:a<p.months.length) (hb:b<p.months.length-1-a):p.legs ((yG p.months.length a+b:Nat):Int)=((a:Int),((a+1+b:Nat):Int),true):=by
 obtain⟨h1,h2,h3⟩:=zTu _ (qG h).m6 a ha b hb
 rw[Prd.legs,ySe (by rw[gS h];omega),ySe (by omega),ySt]
 exact h1
theorem yFa (i:f9) (h:r5legsC.cnd i):z2e i:=by
 have hs:i.p.small:=h
 unfold z2e gY zBt pI wN uN eG gX zS dI
 simp only[yW]
 refine⟨i.p,rfl,rfl,rfl,rfl,rfl,rfl,rfl,rfl,rfl,rfl,rfl,hs,fun _ _=>Cv.cnd.mk (fun c=> ?_) (fun c=>zK (fun c1=> ?_) (fun c1=>zK (fun c2=> ?_) (fun c2=> ?_)))⟩
 ·rw[Prd.legs,ySf (by rw[zId (by simpa using c)];omega)];(repeat'(first|exact rfl|exact trivial|assumption|apply And.intro|refine fun(_:Unit) (_:True)=>?_|refine Exists.intro () ?_|omega|(dsimp only;omega)))
 ·rw[Prd.legs,ySf (.inl c1)];(repeat'(first|exact rfl|exact trivial|assumption|apply And.intro|refine fun(_:Unit) (_:True)=>?_|refine Exists.intro () ?_|omega|(dsimp only;omega)))
 ·have c:i.p.check=0:=by simpa using c
  rw[Prd.legs,ySe (by rw[gS c];omega),ySf c2];(repeat'(first|exact rfl|exact trivial|assumption|apply And.intro|refine fun(_:Unit) (_:True)=>?_|refine Exists.intro () ?_|omega|(dsimp only;omega)))
 ·have c:i.p.check=0:=by simpa using c
  have m6:=(qG c).m6
  obtain⟨k,hk⟩:∃k:Nat,i.n=k:=⟨i.n.toNat,by omega⟩
  have sp:=fun(a b:Nat) ha hb=>z4d (p:=i.p) c (a:=a) (b:=b) ha hb
  have fe:=z5c _ m6
  have out:i.p.count≤k→i.p.legs (k:Int)=(0,0,false):=fun e=>by rw[Prd.legs,ySf (by omega)]
  rw[gS c,← fe]at out
  rw[hk]at c2 ⊢
  generalize hn:i.p.months.length=n at*
  refine⟨0,rfl,rfl,fun m=>m≤n∧yG n m≤k,fun m=>n-m,⟨by omega,by show n≤k;omega⟩,?_⟩
  rintro m ⟨g1,g2⟩
  have hf:=zIs m6 g1
  refine zK (fun c4=> ?_) (fun c4=> ?_)
  ·refine⟨(m,0),rfl,rfl,by rw[w64 (by omega)];simp,fun x=>x.1=m∧x.2≤n-1-m∧yG n m+x.2≤k,fun x=>n-1-m-x.2,⟨rfl,by(first|omega|(dsimp only;omega)),by(first|omega|(dsimp only;omega))⟩,?_⟩
   rintro⟨a,b⟩ ⟨g3,g4,g5⟩
   dsimp only at g3 g4 g5 ⊢
   subst g3
   refine zK (fun c5=>Cv.cnd.mk (fun e=> ?_) (fun e=> ?_)) (fun c5=> ?_)
   ·have e:((yG n a+b:Nat):Int)=(k:Int):=by simpa using e
    have:=sp a b (by omega) (by omega)
    rw[e]at this
    rw[this];(repeat'(first|exact rfl|exact trivial|assumption|apply And.intro|refine fun(_:Unit) (_:True)=>?_|refine Exists.intro () ?_|omega|(dsimp only;omega)))
   ·have e:¬((yG n a+b:Nat):Int)=(k:Int):=by simpa using e
    refine⟨(a,b+1),?_,rfl,?_,⟨rfl,by(first|omega|(dsimp only;omega)),by(first|omega|(dsimp only;omega))⟩,by(first|omega|(dsimp only;omega)),by(repeat'(first|exact trivial|exact rfl|apply And.intro))⟩
    ·rw[w64 (by omega)];dsimp only;omega
    ·rw[w64 (by omega)];dsimp only;omega
   ·refine⟨a+1,?_,by rw[w64 (by omega)];rfl,⟨by omega,?_⟩,by(first|omega|(dsimp only;omega)),by(repeat'(first|exact trivial|exact rfl|apply And.intro))⟩
    ·rw[yG];omega
    ·rw[yG];omega
  ·obtain rfl:m=n:=by omega
   rw[out g2];(repeat'(first|exact rfl|exact trivial|assumption|apply And.intro|refine fun(_:Unit) (_:True)=>?_|refine Exists.intro () ?_|omega|(dsimp only;omega)))
theorem z5n:r5legsC.ok Tryz.prog 47:=okw mixed (gokc zKp gok0) 0 (fun _=>[]) (fun i=>yGj i) [] Tryz.func47 yFa
theorem zVm {p:Prd} (h:p.check=0) {i:Int} (h0:0≤i) (h1:i<p.count):(p.legs i).2.2=decide ((p.months.length:Int)≤i):=by
 by_cases hl:i<p.months.length
 ·rw[Prd.legs,ySe (by omega),ySf hl,ySp (by omega)]
 ·have m6:=(qG h).m6
  rw[ySw (by omega),Prd.legs,ySe (by omega),ySe hl]
  rw[gS h]at h1
  obtain⟨k,rfl⟩:∃k:Nat,i=k:=⟨i.toNat,by omega⟩
  have fin:∀n≤6,∀k<n+n*(n-1) / 2,n≤k→(kA n k n 0).2.2=true:=by decide
  exact fin _ m6 k (by omega) (by omega)
theorem zWh (x:Prd):1≤yH x∧yH x≤10:=by
 have:=xK (n:=x.tick) (lo:=0) (hi:=9) (by omega)
 rw[yH];omega
theorem yBa (x:Prd):2≤kN x∧kN x≤5:=by
 have:=xK (n:=(x.months.length:Int)) (lo:=0) (hi:=3) (by omega)
 rw[kN];omega
theorem zLv {a b m n:Int} (ha:0≤a∧a≤m) (hb:0≤b∧b≤n):0≤a*b∧a*b≤m*n:=by
 refine⟨yYm ha.1 hb.1,?_⟩
 exact Int.le_trans (Int.mul_le_mul_of_nonneg_right ha.2 hb.1) (yXk hb.2 (by omega))
theorem zTb (j:Nat):iE (jL (j+1))=iE (jL j)++[[D.v (.int .i64 (10*(j:Int)+3))]]:=by
 rw[jL,yXf,ySr,iE,ySr];rfl
theorem zQt (t:Int) (j:Nat):iE (kG t (j+1))=iE (kG t j)++[[D.v (.int .i64 (t*(10+(j:Int))))]]:=by
 rw[kG,yXf,ySr,iE,ySr];rfl
theorem rT (j:Nat):(jL j).length=j:=by simp[jL]
theorem aO (t:Int) (j:Nat):(kG t j).length=j:=by simp[kG]
theorem yLb (x:Prd) (h:kprodC.cnd x):z9h x:=by
 obtain⟨h1,h2,h3,h4,h5,h6,h7⟩:x.raw:=h
 have hw: -1000000≤(0:Int):=by decide
 have bt:=xK (n:=x.tick) (lo:=0) (hi:=9) (by omega)
 have bw:=xK (n:=x.wide) (lo:=0) (hi:=60) (by omega)
 have br:=xK (n:=x.rule) (lo:=0) (hi:=2) (by omega)
 have bl:=xK (n:=x.least) (lo:=0) (hi:=4) (by omega)
 have bn:=xK (n:=(x.months.length:Int)) (lo:=0) (hi:=3) (by omega)
 have kt:=zWh x
 have kn:=yBa x
 have w1:IntKind.i64.wrap (1+zH x.tick 0 9)=yH x:=w64 (by omega)
 have w2:IntKind.i64.wrap (-20*IntKind.i64.wrap (1+zH x.tick 0 9))= -20*yH x:=by rw[w1];exact w64 (by omega)
 have w3:IntKind.i64.wrap (100*IntKind.i64.wrap (1+zH x.tick 0 9))=100*yH x:=by rw[w1];exact w64 (by omega)
 have w4:IntKind.i64.wrap (1+zH x.rule 0 2)=1+zH x.rule 0 2:=w64 (by omega)
 have w5:IntKind.i64.wrap (1+zH x.least 0 4)=1+zH x.least 0 4:=w64 (by omega)
 have w6:IntKind.i64.wrap (2+zH x.months.length 0 3)=kN x:=w64 (by omega)
 have mb:=zLv (a:=yH x) (b:=5+zH x.wide 0 60) (m:=10) (n:=65) (by omega) (by omega)
 have w7:IntKind.i64.wrap (IntKind.i64.wrap (1+zH x.tick 0 9)*IntKind.i64.wrap (5+zH x.wide 0 60))=yH x*(5+zH x.wide 0 60):=by
  rw[w1,w64 (x:=5+zH x.wide 0 60) (by omega)];exact w64 (by omega)
 unfold z9h zEa zFz zFm zFd zDu mZ uG cY dC x5 xD xH dI
 simp only[yW]
 refine⟨⟨x.months.length,0,3⟩,rfl,rfl,rfl,⟨⟨by dsimp only;omega,by dsimp only;omega⟩,by dsimp only;omega,by dsimp only;omega,by dsimp only;omega⟩,fun _ _=>⟨⟨x.tick,0,9⟩,rfl,rfl,rfl,⟨h1,by dsimp only;omega,by dsimp only;omega,by dsimp only;omega⟩,fun _ _=> ?_⟩⟩
 dsimp only
 refine⟨(),fun _=>True,?_,fun _ _=> ?_⟩
 ·repeat'(first|exact trivial|exact rfl|exact w1.symm|exact w2.symm|exact w3.symm|exact w4.symm|exact w5.symm|apply And.intro|refine⟨⟨x.rule,0,2⟩,rfl,rfl,rfl,⟨h3,by dsimp only;omega,by dsimp only;omega,by dsimp only;omega⟩,fun _ _=> ?_⟩|refine⟨⟨x.top,0,9⟩,rfl,rfl,rfl,⟨h4,by dsimp only;omega,by dsimp only;omega,by dsimp only;omega⟩,fun _ _=> ?_⟩|refine⟨⟨x.least,0,4⟩,rfl,rfl,rfl,⟨h5,by dsimp only;omega,by dsimp only;omega,by dsimp only;omega⟩,fun _ _=> ?_⟩|refine⟨⟨x.part,0,100⟩,rfl,rfl,rfl,⟨h6,by dsimp only;omega,by dsimp only;omega,by dsimp only;omega⟩,fun _ _=> ?_⟩|refine⟨(),?_⟩)
 ·refine⟨⟨x.wide,0,60⟩,rfl,rfl,rfl,⟨h2,by dsimp only;omega,by dsimp only;omega,by dsimp only;omega⟩,fun _ _=> ?_⟩
  dsimp only
  rw[w7,w6]
  refine⟨0,by(first|exact rfl|exact trivial),by(first|exact rfl|exact trivial),by(first|exact rfl|exact trivial),by(first|exact rfl|exact trivial),by(first|exact rfl|exact trivial),by(first|exact rfl|exact trivial),by(first|exact rfl|exact trivial),by(first|exact rfl|exact trivial),by(first|exact rfl|exact trivial),by(first|exact rfl|exact trivial),by(first|exact rfl|exact trivial),by(first|exact rfl|exact trivial),fun j=>j≤(kN x).toNat,fun j=>(kN x).toNat-j,by omega,?_⟩
  intro j hj
  rw[rT,aO]
  refine zK (fun c=>⟨by omega,by omega,j+1,by rw[w64 (by omega)];rfl,by(first|exact rfl|exact trivial),by(first|exact rfl|exact trivial),by(first|exact rfl|exact trivial),by(first|exact rfl|exact trivial),by(first|exact rfl|exact trivial),by(first|exact rfl|exact trivial),by(first|exact rfl|exact trivial),by(first|exact rfl|exact trivial),by(first|exact rfl|exact trivial),?_,?_,by(first|omega|(dsimp only;omega)),by(first|omega|(dsimp only;omega)),by(repeat'(first|exact trivial|exact rfl|apply And.intro))⟩) (fun c=>⟨(),?_⟩)
  ·rw[zTb,w64 (x:=10*(j:Int)) (by omega),w64 (by omega)]
  ·have mj:=zLv (a:=yH x) (b:=10+(j:Int)) (m:=10) (n:=20) (by omega) (by omega)
   rw[zQt,w1,w64 (x:=10+(j:Int)) (by omega),w64 (by omega)]
  ·have e:(kN x).toNat=j:=by omega
   rw[e];(repeat'(first|exact trivial|exact rfl|apply And.intro))
theorem kprod_ok:kprodC.ok Tryz.prog 20:=okw mixed (gokc zOr gok0) 0 (fun x=>yJy x) (fun x=>yMq x) [] Tryz.func20 yLb
open Go Cv Go.Proofs
structure Cmd where
 kind:Int
 id:Int
 inst:Int
 side:Int
 price:Int
 qty:Int
 least:Int
 time:Int
 label:List UInt8
 deriving DecidableEq
@[reducible] def Cmd.cells (c:Cmd):List V:=[zA c.kind,zA c.id,zA c.inst,zA c.side,zA c.price,zA c.qty,zA c.least,zA c.time,sV c.label]
@[reducible] def zNi (c:Cmd):V:= .agg c.cells
def cmdE (c:Cmd):List D:=[.v (.int .i64 c.kind),.v (.int .i64 c.id),.v (.int .i64 c.inst),.v (.int .i64 c.side),.v (.int .i64 c.price),.v (.int .i64 c.qty),.v (.int .i64 c.least),.v (.int .i64 c.time),.v (.string (sb c.label))]
@[reducible] def Cmd.raw (c:Cmd):Prop:=yY c.kind∧yY c.id∧yY c.inst∧yY c.side∧yY c.price∧yY c.qty∧yY c.least∧yY c.time
structure TmI where
 p:Prd
 c:Cmd
 i:Int
def aU (c:Cmd):Int:=if 4<1+zH c.kind 0 8 then 1 else 1+zH c.kind 0 8
def xG (t:TmI):Cmd:=⟨aU t.c,1+zH t.c.id 0 30,zH t.c.inst 0 (t.p.count-1),1+zH t.c.side 0 1,t.p.tick*zH t.c.price 0 9,1+zH t.c.qty 0 11,0,0,[]⟩
def aQ (c:Cmd):Int:=if c.time.tmod 5=3 then 3 else if c.time.tmod 5=2 then 2 else 1
def tV (c:Cmd) (q:Int):Int:=if c.least.tmod 4=1 then zH c.least 0 q else 0
def qY (t:TmI):Cmd:=
 let h:=xG t
 if h.kind=1 then{h with id:=t.i+1,time:=aQ t.c,least:=tV t.c h.qty,price:=if(t.p.legs h.inst).2.2=true then h.price-4*t.p.tick else h.price+8*t.p.tick}
 else{h with price:=if h.kind=4 then h.price+5*t.p.tick else h.price,side:=0,inst:=0}
def tameC:Con:=con1 TmI (fun t=>[prdV t.p,zNi t.c,zA t.i]) (fun _=>[]) (fun t=>t.p.check=0∧t.p.small∧t.c.raw∧0≤t.i∧t.i≤1000000) (fun t=>zNi (qY t)) (fun _=>[])
def cj (k:Nat):Nat×SAnn:=(k,{ι:=Cmd,slots:=fun _=>[(7,.nm 0 0)],slots0:=fun _=>[(7,.nm 0 0)],rows0:=fun c=>[.cells c.cells 35],rows:=fun c=>[.cells c.cells 35]})
def yOt:List (Nat×SAnn):=[cj 14,cj 54,cj 62,cj 70]
end Sx
