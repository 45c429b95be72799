/- Texts of ours, one behind the other: a walk that the kernel reckons, and contracts of functions. No condition. -/
import Derived.Laws.AppendOwn
import Derived.Lib.AppendZerosOnto
import Derived.Lib.Overlaps
import Derived.Test.YtpgpnnncaidcjaaGreatA5
namespace Sx
set_option linter.unusedSimpArgs false
set_option linter.unusedVariables false
open Go Go.RowKit Cv
theorem eO {P:Program} {dT sT ty e sz by_:Nat} {z:Array Value} (hi:uT P dT=some (e,sz,by_,z)) {w:World} {g o dLen dCap b so sLen sCap n:Nat} {cur src:List Value} {T T':TypeId} {fr:Nat×Nat}
 (hg:w.heap[g]? =some (.cells cur.toArray T (0,0))) (hs:w.heap[b]? =some (.cells src.toArray T' fr)) (hn:Nat.min sLen dLen=n) (h1:so+n*sz≤src.length) (h2:o+n*sz≤cur.length)
 (hone:∀v∈(src.drop so).take (n*sz),v.oneC=true):
 gG P (Builtin.copy_ #[dT,sT] ty #[.slice (some ⟨g,o,none⟩) dLen dCap,.slice (some ⟨b,so,none⟩) sLen sCap]) w (.int .i64 n) (World.setB w g (.cells (spl cur o ((src.drop so).take (n*sz))).toArray T (0,0))):=by
 obtain⟨i,zv,q1,q2,rfl,rfl,q5,rfl⟩:=jE hi
 have hl:((src.drop so).take (n*i.size)).length=n*i.size:=by rw[yTi,yTm];omega
 have hst:=jW (P:=P) ((src.drop so).take (n*i.size)) 0 o cur w hg (by rw[hl];omega) hone
 simp only[yWr]at hst
 unfold gG Builtin.copy_
 simp only[yUi,yUq,yUc,bind,pure,run_bind,Sem.bind,Sem.run,Cv.run_underlying q1,Cv.run_sizeOf q2,Builtin.lenOf,hn,Builtin.firstCells,uW hs h1,hst]
 rfl
theorem Hp.apart {k:Ko} {w:World} {b c:Nat} {o o':Obj} {L:List HP} (H:Hp k w (pt b o::pt c o'::L)):b≠c:=by
 obtain⟨hk,hs,hh⟩:=H
 cases hh with
 |cons ha hsub hd hr=>
  cases hr with
  |cons hb hsub2 hd2 hr2=>
   intro e
   subst e
   have:=hd _ ySp b
   rw[show _=one b o from ha,show _=one b o' from hb]at this
   simp[one]at this
def yNs (P:Program) (tS tI sz fO fR:Nat) (s:Option Addr) (sn sk:Nat) (i:Int) (v:Option Addr) (vn vk:Nat) (w:World) (R:Ending→World→Prop):Prop:=
slN s sn sk (some i) none sz fun a1 na1 ka1=>
cnd (((vn:Int):Int)==0) (
R (.returned (.slice s sn sk)) w) (
cnd ((i:Int)==(sn:Int)) (
∃(a2:Option Addr) (na2 ka2:Nat),∃w3:World,gG P (Builtin.append_ #[tS,tS] tS #[.slice s sn sk,.slice v vn vk]) w (.slice a2 na2 ka2) w3∧
R (.returned (.slice a2 na2 ka2)) w3) (
cnd (decide ((IntKind.i64.wrap ((sn:Int)+(vn:Int)):Int)>(sk:Int))) (
slN s sn sk none (some i) sz fun a4 na4 ka4=>
∃(a5:Option Addr) (na5 ka5:Nat),∃w6:World,gG P (Builtin.append_ #[tS,tI] tS #[.slice a4 na4 ka4,.int .i64 (IntKind.i64.wrap (IntKind.i64.wrap ((sn:Int)+(vn:Int))-i))]) w (.slice a5 na5 ka5) w6∧
slN a5 na5 ka5 (some i) none sz fun a7 na7 ka7=>
∃x8:Int,∃w9:World,gG P (Builtin.copy_ #[tS,tS] tI #[.slice a7 na7 ka7,.slice v vn vk]) w6 (.int .i64 x8) w9∧
z3c w9 fun w10=>
slN a5 na5 ka5 (some (IntKind.i64.wrap (i+(vn:Int)))) none sz fun a11 na11 ka11=>
slN s sn sk (some i) none sz fun a12 na12 ka12=>
∃x13:Int,∃w14:World,gG P (Builtin.copy_ #[tS,tS] tI #[.slice a11 na11 ka11,.slice a12 na12 ka12]) w10 (.int .i64 x13) w14∧
R (.returned (.slice a5 na5 ka5)) w14) (
slN s sn sk none (some (IntKind.i64.wrap ((sn:Int)+(vn:Int)))) sz fun a15 na15 ka15=>
slN a15 na15 ka15 (some (IntKind.i64.wrap (i+(vn:Int)))) none sz fun a16 na16 ka16=>
∃c17:Bool,∃w18:World,Cv.Ext P fO #[.slice v vn vk,.slice a16 na16 ka16] w (.bool c17) w18∧
cnd (!c17) (
z3c w18 fun w19=>
slN a15 na15 ka15 (some (IntKind.i64.wrap (i+(vn:Int)))) none sz fun a20 na20 ka20=>
slN a15 na15 ka15 (some i) none sz fun a21 na21 ka21=>
∃x22:Int,∃w23:World,gG P (Builtin.copy_ #[tS,tS] tI #[.slice a20 na20 ka20,.slice a21 na21 ka21]) w19 (.int .i64 x22) w23∧
slN a15 na15 ka15 (some i) none sz fun a24 na24 ka24=>
∃x25:Int,∃w26:World,gG P (Builtin.copy_ #[tS,tS] tI #[.slice a24 na24 ka24,.slice v vn vk]) w23 (.int .i64 x25) w26∧
R (.returned (.slice a15 na15 ka15)) w26) (
slN a15 na15 ka15 (some (sn:Int)) none sz fun a27 na27 ka27=>
∃x28:Int,∃w29:World,gG P (Builtin.copy_ #[tS,tS] tI #[.slice a27 na27 ka27,.slice v vn vk]) w18 (.int .i64 x28) w29∧
slN a15 na15 ka15 (some i) none sz fun a30 na30 ka30=>
Calls P fR #[.slice a30 na30 ka30,.int .i64 (vn:Int)] w29 fun e32 w31=>e32= .returned (.tuple #[])∧
R (.returned (.slice a15 na15 ka15)) w31))))
theorem z6w {α:Type} {l m:Nat} {xs r ys:List α} (hl:l≤xs.length) (hy:ys.length=m) (hr:m≤r.length):
 ((xs++r).take (l+m)++xs.drop l++(xs++r).drop (l+m+(xs.drop l).length)).take l++ys++((xs++r).take (l+m)++xs.drop l++(xs++r).drop (l+m+(xs.drop l).length)).drop (l+ys.length)=(xs.take l++ys++xs.drop l)++r.drop m:=by
 have e1:(xs++r).drop (l+m+(xs.drop l).length)=r.drop m:=by
  rw[yTm,show l+m+(xs.length-l)=xs.length+m by omega,yXu]
  simp
 have e2:((xs++r).take (l+m)++xs.drop l++r.drop m).take l=xs.take l:=by
  rw[ySw,yTt (by rw[yTi,ySr];omega),List.take_take,yYk (by omega),yTt hl]
 have e3:((xs++r).take (l+m)++xs.drop l++r.drop m).drop (l+ys.length)=xs.drop l++r.drop m:=by
  have:((xs++r).take (l+m)).length=l+m:=by rw[yTi,ySr];omega
  rw[ySw,hy,yXu,this,yXz,yVv,yVt (by omega),yUy]
 rw[e1,e2,e3]
 simp
theorem zSm (A Z Y:List Value):spl (A++Z) A.length Y=A++Y++Z.drop Y.length:=by
 simp only[spl]
 rw[List.take_left,yXu]
 simp
theorem zGe {b o n c i:Nat} (h:c≠i):(if c=i then(some ⟨b,o,none⟩:Option Addr)else(some ⟨b,o,none⟩:Option Addr).map (·.add n))=some ⟨b,o+n,none⟩:=by
 rw[ySj h,yUp,uS]
def zSo (P:Program) (fO:Nat):Prop:=∀(w:World) (va sb so la ca lb cb:Nat) (c c':Array Value) (T T':TypeId),va≠sb→w.heap[va]?=some (.cells c T (0,0))→w.heap[sb]?=some (.cells c' T' (0,0))→c'.size≠0→
 Cv.Ext P fO #[.slice (some ⟨va,0,none⟩) la ca,.slice (some ⟨sb,so,none⟩) lb cb] w (.bool false) w
theorem yFg {P : Program} {fO tS tB e sz by_ : Nat} {z : Array Value} {fn : Func} (hf : P.funcs[fO]? = some fn) (hname : (fn.name == "runtime.NumGoroutine") = false) (hb : fn.body.isNone = true) (hn : Extern.findNext fn = none) (he : Extern.find fn = some (Extern.SlicesOverlaps.overlaps #[tS, tS] #[tB]))
 (hi:uT P tS=some (e,sz,by_,z)):zSo P fO:=by
 obtain⟨i,zv,q1,q2,rfl,rfl,q5,rfl⟩:=jE hi
 intro w va sb so la ca lb cb c c' T T' hne h1 h2 h3
 unfold Cv.Ext
 rw[run_callFunc_extern hf hname hb hn he,Lib.run_overlaps_apart w tS tB e q1 i.size (fun w=>Cv.run_sizeOf q2 w) ⟨va,0,none⟩ ⟨sb,so,none⟩ la ca lb cb hne T T' c.size c'.size (by simp[World.shape?,h1]) (by simp[World.shape?,h2]) h3 (by simp[World.frozen?,h1]) (by simp[World.frozen?,h1])]
 rfl
theorem yRq {P:Program} {tS tI e sz by_ fO fR:Nat} {z:Array Value} (hi:uT P tS=some (e,sz,by_,z)) (hz:z.size=sz) (hby:0<by_) (hsz:0<sz) (h2:z0k P tS=true) (hti:P.underlying tI=some (.int .i64)) (hov:zSo P fO)
 {k:Ko} {w:World} {L:List HP} {s v:Option Addr} {sn sk vn vk i:Nat} {xs ys:List Value} (H:Hp k w (slO e sz s sn sk xs::slO e sz v vn vk ys::L)) (h1:∀u∈xs,u.oneC=true) (hy:∀u∈ys,u.oneC=true) (hin:i≤sn) (hv:0<vn)
 (hb:(sn+vn)*by_≤70368744177664):
 yNs P tS tI sz fO fR s sn sk i v vn vk w fun en w'=>∃a kk,en= .returned (.slice a (sn+vn) kk)∧Hp k w' (slO e sz a (sn+vn) kk (xs.take (i*sz)++ys++xs.drop (i*sz))::slO e sz v vn vk ys::L):=by
 obtain⟨hxl,hnk⟩:=H.len
 obtain⟨hyl,hvk⟩:=H.swap.len
 have hnm:sn+vn≤70368744177664:=yVg (Nat.le_mul_of_pos_right _ hby) hb
 have w1:IntKind.i64.wrap ((sn:Int)+(vn:Int))=((sn+vn:Nat):Int):=by rw[Cv.wrap_i64 (by omega) (by omega)];simp
 have w2:IntKind.i64.wrap ((i:Int)+(vn:Int))=((i+vn:Nat):Int):=by rw[Cv.wrap_i64 (by omega) (by omega)];simp
 have w3:IntKind.i64.wrap (((sn+vn:Nat):Int)-(i:Int))=((sn+vn-i:Nat):Int):=by rw[Cv.wrap_i64 (by omega) (by omega)];omega
 have hle:i*sz≤xs.length:=by rw[hxl];exact yUr _ hin
 have htl:(xs.take (i*sz)).length=i*sz:=by rw[yTi];omega
 have hdl:(xs.drop (i*sz)).length=(sn-i)*sz:=by rw[yTm,hxl,Nat.sub_mul]
 have hsum:(i+vn)*sz=i*sz+vn*sz:=yVj _ _ _
 have hsum2:(sn+vn)*sz=i*sz+vn*sz+(sn-i)*sz:=by rw[← yVj,← yVj];congr 1;omega
 have hfin:(xs.take (i*sz)++ys++xs.drop (i*sz)).length=(sn+vn)*sz:=by
  rw[ySr,ySr,htl,hyl,hdl,hsum2]
 unfold yNs
 simp only[slN,w1,w2,w3,ySy]
 refine⟨⟨by omega,by omega,hnk⟩,Cv.cnd.mk (fun c=>absurd c (by simp;omega)) fun _=>Cv.cnd.mk (fun c=> ?_) fun c=>Cv.cnd.mk (fun hc=> ?_) fun hc=> ?_⟩
 ·have c:i=sn:=by have:(i:Int)=(sn:Int):=by simpa using c
                  omega
  subst c
  obtain⟨a',c',w',r1,r2⟩:=H.append (rt:=tS) hi h2 (x:= .slice v vn vk) (m:=vn) (ys:=ys) (.inl ⟨v,vk,rfl,H.swap.satR⟩) hy hz hby hb
  refine⟨a',_,c',w',r1,a',c',rfl,?_⟩
  rw[yTe (by omega),yVt (by omega),yTl]
  exact r2
 ·have c:i<sn:=by have:¬(i:Int)=(sn:Int):=by simpa using c
                  omega
  have hc:sk<sn+vn:=by have:=yVh hc;omega
  obtain⟨inf,zv,q1,q2,q3,q4,q5,q6⟩:=jE hi
  subst q3 q4 q6
  rcases H.slcases with⟨_,e0,_⟩|⟨b,r,rfl,g1,g2,g3,H0⟩
  ·omega
  rcases H0.swap.slcases with⟨_,e0,_⟩|⟨vb,rv,rfl,g4,g5,g6,H1⟩
  ·omega
  have hold:(Builtin.firstCells inf.size i (.slice (some ⟨b,0,none⟩) i sk)).run P w.drew= .ok (xs.take (i*inf.size)).toArray w.drew:=by
   have hbk:=(H1.drew).swap.get
   have:=uW (P:=P) (o:=0) (n:=i*inf.size) hbk (by rw[ySr];omega)
   unfold Builtin.firstCells
   rw[this,yVv,yTt hle]
  have hfit2:=zJd (need:=sn+vn) (cap:=sk) (by omega)
  have hfit3:=yUr inf.bytes hfit2
  have e2:2*(sn+vn)*inf.bytes=2*((sn+vn)*inf.bytes):=by rw[Nat.mul_assoc]
  have hkb:(sn+vn-i)*inf.bytes≤(sn+vn)*inf.bytes:=yUr _ (by omega)
  have hgr:=Lib.run_append_grow_zeros (P:=P) w tS tI tS e inf zv .i64 .i64 q1 hti q2 q5 (some ⟨b,0,none⟩) i sk (xs.take (i*inf.size)) hold (sn+vn-i) (by omega) hsz (by omega) (by omega) (by omega) (by rw[show i+(sn+vn-i)=sn+vn by omega];omega)
  rw[show i+(sn+vn-i)=sn+vn by omega]at hgr
  have hG:sn+vn≤grownCap w (sn+vn) sk e:=grownCap_ge w (sn+vn) sk e
  generalize grownCap w (sn+vn) sk e=G at hgr hG
  have harr:(xs.take (i*inf.size)).toArray++Builtin.zeroCells zv.cells (sn+vn-i)++Builtin.zeroCells zv.cells (G-(sn+vn))=(xs.take (i*inf.size)++((Builtin.zeroCells zv.cells (sn+vn-i)).toList++(Builtin.zeroCells zv.cells (G-(sn+vn))).toList)).toArray:=by
   apply Array.ext';simp
  rw[harr]at hgr
  have hZl:((Builtin.zeroCells zv.cells (sn+vn-i)).toList++(Builtin.zeroCells zv.cells (G-(sn+vn))).toList).length=(sn+vn-i)*inf.size+(G-(sn+vn))*inf.size:=by
   rw[ySr,yXp,yXp,size_zeroCells,size_zeroCells,hz]
  generalize (Builtin.zeroCells zv.cells (sn+vn-i)).toList++(Builtin.zeroCells zv.cells (G-(sn+vn))).toList=Z at hgr hZl
  have hZ2:(sn+vn-i)*inf.size=vn*inf.size+(sn-i)*inf.size:=by rw[← yVj];congr 1;omega
  have H2:=(H1.drew).new (.cells (xs.take (i*inf.size)++Z).toArray e)
  have hB:w.drew.heap.size=w.heap.size:=rfl
  rw[hB]at H2
  have hc1:=eO (P:=P) (sT:=tS) (ty:=tI) hi (g:=w.heap.size) (o:=0+i*inf.size) (dLen:=sn+vn-i) (dCap:=G-i) (b:=vb) (so:=0) (sLen:=vn) (sCap:=vk) (n:=vn) H2.get H2.swap.get (yYk (by omega)) (by rw[ySr];omega) (by rw[ySr,htl,hZl];omega) (by
   rw[yVv,yTt (by omega),yTe (by omega)];exact hy)
  rw[yVv,yTt (by omega),yTe (show ys.length≤vn*inf.size by omega),yTn]at hc1
  have es1:spl (xs.take (i*inf.size)++Z) (i*inf.size) ys=xs.take (i*inf.size)++ys++Z.drop ys.length:=by
   have:=zSm (xs.take (i*inf.size)) Z ys
   rwa [htl]at this
  rw[es1]at hc1
  have H3:=(H2.upd (.cells (xs.take (i*inf.size)++ys++Z.drop ys.length).toArray e)).drew
  have hg4:(xs++r).drop (i*inf.size)=xs.drop (i*inf.size)++r:=yVf hle
  have hc2:=eO (P:=P) (sT:=tS) (ty:=tI) hi (g:=w.heap.size) (o:=0+(i+vn)*inf.size) (dLen:=sn+vn-(i+vn)) (dCap:=G-(i+vn)) (b:=b) (so:=0+i*inf.size) (sLen:=sn-i) (sCap:=sk-i) (n:=sn-i) H3.get H3.swap.drop.swap.get (yYk (by omega)) (by rw[ySr,hxl,yTn,← yVj];exact yVg (yUr _ (by omega)) (Nat.le_add_right _ _)) (by
   rw[ySr,ySr,htl,hyl,yTm,hZl];omega) (by
   rw[yTn,hg4,yTt (by omega),yTe (by omega)]
   exact fun u hu=>h1 u (yWc hu))
  rw[yTn,yTn,hg4,yTt (by omega),yTe (show(xs.drop (i*inf.size)).length≤(sn-i)*inf.size by omega)]at hc2
  have es2:spl (xs.take (i*inf.size)++ys++Z.drop ys.length) ((i+vn)*inf.size) (xs.drop (i*inf.size))=xs.take (i*inf.size)++ys++xs.drop (i*inf.size)++(Z.drop ys.length).drop (xs.drop (i*inf.size)).length:=by
   have:=zSm (xs.take (i*inf.size)++ys) (Z.drop ys.length) (xs.drop (i*inf.size))
   rwa [show(xs.take (i*inf.size)++ys).length=(i+vn)*inf.size by rw[ySr,htl,hyl,hsum]]at this
  rw[es2]at hc2
  refine⟨⟨by omega,by omega⟩,_,_,_,_,hgr,?_⟩
  rw[zGe (show G≠i by omega),yTn]
  refine⟨⟨by omega,by omega,hG⟩,_,_,hc1,?_⟩
  rintro _ rfl
  rw[zGe (show G≠i+vn by omega),zGe (show sk≠i by omega),yTn,yTn]
  refine⟨⟨by omega,by omega,hG⟩,⟨by omega,by omega,hnk⟩,_,_,hc2,_,_,rfl,?_⟩
  have H4:=H3.upd (.cells (xs.take (i*inf.size)++ys++xs.drop (i*inf.size)++(Z.drop ys.length).drop (xs.drop (i*inf.size)).length).toArray e)
  have H5:=H4.slmk (n:=sn+vn) (c:=G) (sz:=inf.size) hfin (by
   rw[ySr,hfin,yTm,yTm,hZl,hyl,hdl]
   have:G*inf.size=(sn+vn)*inf.size+(G-(sn+vn))*inf.size:=by rw[← yVj];congr 1;omega
   omega) hG
  have H6:=H5.swap.slmk (n:=vn) (c:=vk) (sz:=inf.size) g4 g5 g6
  exact(H6.swap.perm (List.Perm.trans ((List.Perm.swap _ _ _).cons _) (List.Perm.swap _ _ _))).drop
 ·have c:i<sn:=by have:¬(i:Int)=(sn:Int):=by simpa using c
                  omega
  have hc:sn+vn≤sk:=by have:=yWb hc;omega
  rcases H.slcases with⟨_,e0,_⟩|⟨b,r,rfl,g1,g2,g3,H0⟩
  ·omega
  rcases H0.swap.slcases with⟨_,e0,_⟩|⟨vb,rv,rfl,g4,g5,g6,H1⟩
  ·omega
  have hrl:vn*sz≤r.length:=by
   have e1:(sn+vn)*sz≤sk*sz:=yUr _ hc
   rw[ySr,g1]at g2
   rw[yVj]at e1
   omega
  have H2:=H1.swap
  have hne:vb≠b:=Hp.apart H1
  have hg4:(xs++r).drop (i*sz)=xs.drop (i*sz)++r:=yVf hle
  have hex:=hov w vb b (0+(i+vn)*sz) vn vk (sn+vn-(i+vn)) (sk-(i+vn)) (ys++rv).toArray (xs++r).toArray e e hne H1.get H2.get (by
   rw[yWo,ySr,g1]
   have:=Nat.mul_pos (show 0<sn by omega) hsz
   omega)
  have H3:=H2.drew
  have hc1:=eO (P:=P) (sT:=tS) (ty:=tI) hi (g:=b) (o:=0+(i+vn)*sz) (dLen:=sn+vn-(i+vn)) (dCap:=sk-(i+vn)) (b:=b) (so:=0+i*sz) (sLen:=sn+vn-i) (sCap:=sk-i) (n:=sn-i) H3.get H3.get (by rw[show sn+vn-(i+vn)=sn-i by omega];exact Nat.min_eq_right (by omega)) (by
   rw[ySr,g1,yTn,← yVj];exact yVg (yUr _ (by omega)) (Nat.le_add_right _ _)) (by
   rw[ySr,g1,yTn,← yVj,show i+vn+(sn-i)=sn+vn by omega,yVj];omega) (by
   rw[yTn,hg4,yTt (by omega),yTe (by omega)]
   exact fun u hu=>h1 u (yWc hu))
  rw[yTn,yTn,hg4,yTt (by omega),yTe (show(xs.drop (i*sz)).length≤(sn-i)*sz by omega)]at hc1
  have H4:=H3.upd (.cells (spl (xs++r) ((i+vn)*sz) (xs.drop (i*sz))).toArray e)
  have hcl:(spl (xs++r) ((i+vn)*sz) (xs.drop (i*sz))).length=(xs++r).length:=by
   simp only[spl,ySr,yTi,hdl]
   rw[yTm,ySr,g1,hsum]
   have:sn*sz=i*sz+(sn-i)*sz:=by rw[← yVj];congr 1;omega
   omega
  have hc2:=eO (P:=P) (sT:=tS) (ty:=tI) hi (g:=b) (o:=0+i*sz) (dLen:=sn+vn-i) (dCap:=sk-i) (b:=vb) (so:=0) (sLen:=vn) (sCap:=vk) (n:=vn) H4.get H4.swap.get (yYk (by omega)) (by rw[ySr];omega) (by
   rw[hcl,ySr,yTn];omega) (by
   rw[yVv,yTt (by omega),yTe (by omega)];exact hy)
  rw[yVv,yTt (by omega),yTe (show ys.length≤vn*sz by omega),yTn]at hc2
  have es:spl (spl (xs++r) ((i+vn)*sz) (xs.drop (i*sz))) (i*sz) ys=(xs.take (i*sz)++ys++xs.drop (i*sz))++r.drop (vn*sz):=by
   have:=z6w (l:=i*sz) (m:=vn*sz) (xs:=xs) (r:=r) (ys:=ys) hle hyl hrl
   simp only[spl,hsum]
   exact this
  rw[es]at hc2
  refine⟨⟨by omega,by omega⟩,⟨by omega,by omega,by omega⟩,false,w,?_,Cv.cnd.mk (fun _=> ?_) (fun c=>absurd c (by decide))⟩
  ·rw[zGe (show sk≠i+vn by omega)];exact hex
  rintro _ rfl
  rw[zGe (show sk≠i+vn by omega),zGe (show sk≠i by omega),yTn,yTn]
  refine⟨⟨by omega,by omega,by omega⟩,⟨by omega,by omega,by omega⟩,_,_,hc1,⟨by omega,by omega,by omega⟩,_,_,hc2,_,_,rfl,?_⟩
  have H5:=H4.upd (.cells (xs.take (i*sz)++ys++xs.drop (i*sz)++r.drop (vn*sz)).toArray e)
  have H6:=H5.slmk (n:=sn+vn) (c:=sk) (sz:=sz) hfin (by
   rw[ySr,hfin,yTm,← g2,ySr,g1,yVj]
   omega) hc
  exact(H6.swap.slmk (n:=vn) (c:=vk) (sz:=sz) g4 g5 g6).swap
structure z6q where
 els:List (List D)
 el:List D
 i:Nat
def yGd (e sz by_:Nat):Con where
 ι:=z6q
 pat:=fun i=>[.own 0,.d (.v (.int .i64 i.i)),.own 1]
 pre:=fun i=>[.own e sz i.els,.own e sz [i.el]]
 cnd:=fun i=>i.i≤i.els.length∧(i.els.length+1)*by_≤70368744177664
 alts:=fun i=>[{o:=Unit,res:=fun _=> .own 2,post:=fun _=>[.gone,.gone,.own e sz (i.els.take i.i++i.el::i.els.drop i.i)],rel:=fun _=>True}]
theorem insX_ok {P:Program} (hm:P.follows .mixedOrders=true) {tS tI e sz by_ fI fO fR:Nat} {z:Array Value} {fn:Func} {c:Code} (hf:P.funcs[fI]? =some fn) (hb:fn.body=some c) (hbd:uB P fI=true) (hok:okC fn.ntmps c=true) (hfx:okF [] c=true) (hsz3:Nat.ble 3 fn.ntmps=true)
 (hi:uT P tS=some (e,sz,by_,z)) (hz:z.size=sz) (hby:0<by_) (hsz:0<sz) (h2:z0k P tS=true) (hti:P.underlying tI=some (.int .i64)) (hov:zSo P fO)
 (heq:∀(s:Option Addr) (sn sk:Nat) (i:Int) (v:Option Addr) (vn vk:Nat) (w:World) (R:Ending→World→Prop),yNs P tS tI sz fO fR s sn sk i v vn vk w R=cwp P [] c (zTj P fn R) (uN [.slice s sn sk,.int .i64 i,.slice v vn vk]) w):
 (yGd e sz by_).ok P fI:=by
 intro i hc k L E w ys R hv
 obtain⟨c1,c2⟩:i.i≤i.els.length∧(i.els.length+1)*by_≤70368744177664:=hc
 simp only[yGd,VRL,VR,DR]at hv
 obtain⟨y0,_,rfl,⟨l0,e0,_⟩,y1,_,rfl,⟨rfl,_⟩,y2,_,rfl,⟨l2,e2,_⟩,rfl⟩:=hv
 obtain⟨s,sk,xs,sub0,g1,hxs,hu,H⟩:=R.ownOpen (n:=0) (t:=e) (sz:=sz) (els:=i.els) rfl
 rw[e0]at g1;cases g1
 have hk2:∃v vk zs,y2= .slice v 1 vk∧DRL E.F i.el zs∧i.el.length=sz∧Hp k w (slO e sz s i.els.length sk xs::slO e sz v 1 vk zs::fz E.F::L):=by
  obtain⟨hk,hs,hh⟩:=H
  cases hh with
  |cons ha hsub hd hr=>
   simp only[yGd,gF,uH,ySs,yWh,yTy,yUy]at hr
   cases hr with
   |cons hb2 hsub2 hd2 hr2=>
    rcases hb2 with⟨q,_⟩|⟨⟨hv2,sub2⟩,q1,q2⟩
    ·cases q
    ·simp only at q1
     rw[e2]at q1;cases q1
     simp only[rowHP]at q2
     obtain⟨a,kk,zs,rfl,q3,q4,q5⟩:=q2
     simp only[yUw,List.flatten_nil,yTl]at q3
     exact⟨a,kk,zs,rfl,q3,q4 _ ySp,hk,_,.cons ha hsub hd (.cons q5 hsub2 hd2 hr2)⟩
 obtain⟨v,vk,zs,rfl,hzs,hel,H2⟩:=hk2
 have hv:=yRq (fR:=fR) (fO:=fO) hi hz hby hsz h2 hti hov (i:=i.i) H2 hxs.one hzs.one c1 (by omega) c2
 have hcall:=zHd (args:=[.slice s i.els.length sk,.int .i64 i.i,.slice v 1 vk]) hm hf hb [] hok hfx hsz3 (heq s i.els.length sk i.i v 1 vk w _) hv
 refine zAt hbd (hcall.mono ?_)
 rintro en w' ⟨a,kk,rfl,H3⟩
 have H4:Hp k w' (slO e sz a (i.els.take i.i++i.el::i.els.drop i.i).length kk (xs.take (i.i*sz)++zs++xs.drop (i.i*sz))::(([]:List (Nat×AObj)).map (rHP E)++fz E.F::L)):=by
  have:(i.els.take i.i++i.el::i.els.drop i.i).length=i.els.length+1:=by
   rw[ySr,yTc,yTi,yTm];omega
  rw[this]
  exact H3.swap.drop
 obtain⟨E',r1,r2,r3⟩:=bM (nx:=2) R.nx (by
  rw[List.flatten_append,yUw,← m4 i.i hu,← mS i.i hu,← ySw]
  exact((hxs.take _).append hzs).append (hxs.drop _)) (fun x hx=>by
   rcases yTp.1 hx with hx|hx
   ·exact hu x (yYe hx)
   ·rcases yTb.1 hx with rfl|hx
    ·exact hel
    ·exact hu x (yWc hx)) H4
 have hl:(i.els.take i.i++i.el::i.els.drop i.i).length=i.els.length+1:=by
  rw[ySr,yTc,yTi,yTm];omega
 rw[hl]at r3
 refine⟨_,rfl,_,yUk.2 rfl,(),trivial,E',r1,r3,⟨r2.nx,?_⟩⟩
 have q1:=((@hP k w' True _).2 ⟨trivial,r2.hp⟩).imp (B:=rHP E' (1,.gone)) fun x hx=> .inl ⟨rfl,hx.2⟩
 have q2:=((@hP k w' True _).2 ⟨trivial,q1⟩).imp (B:=rHP E' (0,.gone)) fun x hx=> .inl ⟨rfl,hx.2⟩
 exact q2
set_option maxRecDepth 100000
open Go Cv Go.Proofs
def bbetterC:Con:=con1 I3' (fun i=>[zA i.side,zA i.x,zA i.y]) (fun _=>[]) (fun _=>True) (fun i=>yP (btr i.side i.x i.y)) (fun _=>[])
@[reducible] def yOq (s:Slot):V:= .agg [yP s.used,zA s.n,zA s.id,zA s.qty,yP s.top,zA s.queue,zA s.ahead,zA s.back]
def pushFC:Con:=con1 Slot (fun s=>[yOq s]) (fun _=>[]) (fun _=>True) (fun s=>yP (!s.used)) (fun _=>[])
def kP (l:List Slot):Int:=zGj (l.findIdx? fun s=> !s.used)
def idxSlotC:Con:=con1 (List Slot) (fun _=>[.own 0,.fn 146 [] []]) (fun l=>[.own 193 8 (l.map zR)]) (fun l=>l.length≤1000000) (fun l=>zA (kP l)) (fun l=>[.own 193 8 (l.map zR)])
def z8k (l:List Slot):List SAnn:=[{ι:=Nat,slots:=fun j=>[(8,zA j)],rows:=fun _=>[]}]
def bJ:fF:=⟨-1,-1,0,0⟩
def Arena.openQ (a:Arena):Arena:={a with queues:=a.queues++[bJ]}
def aopenC:Con:=con1 Arena (fun _=>[.nm 0 0]) (fun a=>[jM a]) (fun a=>a.queues.length≤1000000) (fun a=>zA a.queues.length) (fun a=>[jM a.openQ])
structure z4k where
 a:Arena
 n:Int
 t:Bool
def Arena.usedAt (a:Arena) (n:Int):Bool:=decide (0≤n) && (decide (n<a.slots.length) && (a.slots.getD n.toNat slot0).used)
def Arena.topF (a:Arena) (n:Int) (t:Bool):Arena:=if a.usedAt n=true then{a with slots:=a.slots.modify n.toNat fun s=>{s with top:=t}}else a
def atopC:Con:=con1 z4k (fun i=>[.nm 0 0,zA i.n,yP i.t]) (fun i=>[jM i.a]) (fun i=>i.a.slots.length≤1000000) (fun i=>zA (if i.a.usedAt i.n=true then 0 else 26)) (fun i=>[jM (i.a.topF i.n i.t)])
structure PuI where
 a:Arena
 n:Int
 id:Int
 qty:Int
 top:Bool
def Arena.put (a:Arena) (n id qty:Int) (top:Bool):Arena:=
 let q:=a.queues.getD n.toNat bJ
 let k:=kP a.slots
 let sl:=a.slots.set k.toNat ⟨true,k,id,qty,top,n,q.last,-1⟩
 ⟨if q.last= -1 then sl else sl.modify q.last.toNat fun s=>{s with back:=k},a.queues.set n.toNat ⟨if q.last= -1 then k else q.first,k,IntKind.i64.wrap (q.total+qty),IntKind.i64.wrap (q.count+1)⟩,IntKind.i64.wrap (a.free-1)⟩
def Arena.push (a:Arena) (n id qty:Int) (top:Bool):Arena×Int×Int:=
 if n<0∨a.queues.length≤n then(a,0,26)else if qty<1∨1000000<qty then(a,0,24)else if a.free=0 then(a,0,13)else(a.put n id qty top,kP a.slots,0)
def Arena.fit (a:Arena):Prop:=a.slots.length≤1000000∧(a.free≠0→∃s∈a.slots,s.used=false)∧∀q∈a.queues,q.last= -1∨(0≤q.last∧q.last<a.slots.length)
def apushC:Con:=con1 PuI (fun i=>[.nm 0 0,zA i.n,zA i.id,zA i.qty,yP i.top]) (fun i=>[jM i.a]) (fun i=>i.a.fit) (fun i=> .tup [zA (i.a.push i.n i.id i.qty i.top).2.1,zA (i.a.push i.n i.id i.qty i.top).2.2]) (fun i=>[jM (i.a.push i.n i.id i.qty i.top).1])
@[reducible] def zGs (b:Book):List AObj:=[zT b 0,zT b 1,zT b 2,zT b 3,zT b 4,zT b 5]
structure BkP where
 b:Book
 price:Int
def zY (s:Int) (l:List xM) (price:Int):Nat:=(l.takeWhile fun r=>btr s r.price price).length
def kR (s:Int) (l:List xM) (price:Int):Bool:=match l[zY s l price]? with
 |some r=>decide (r.price=price)
 |none=>false
def Book.rungs (b:Book) (s:Int):List xM:=if s=1 then b.buys else b.sells
def z9d (s:Int):Con:=con1 BkP (fun i=>[.nm 0 0,zA s,zA i.price]) (fun i=>zGs i.b) (fun i=>i.b.small) (fun i=> .tup [zA (zY s (i.b.rungs s) i.price),yP (kR s (i.b.rungs s) i.price)]) (fun i=>zGs i.b)
def find1C:Con:=z9d 1
def find2C:Con:=z9d 2
def yIn:List SAnn:=[{ι:=Nat,slots:=fun j=>[(9,zA j)],rows:=fun _=>[]}]
def pget (l:List (Int×Place)) (k:Int):Option Place:=(l.find? fun x=>decide (x.1=k)).map (·.2)
def pL (k:Int) (v:Place):List (Int×Place)→List (Int×Place)
 |[]=>[(k,v)]
 |(a,b)::l=>if k=a then(a,v)::l else(a,b)::pL k v l
structure LdI where
 b:Book
 id:Int
def Book.hasF (b:Book) (s:Int):Bool:=if s=1 then b.has1 else b.has2
def Book.topI (b:Book) (s:Int):Int:=if s=1 then b.top1 else b.top2
def Book.untop (b:Book) (s:Int):Arena:=if b.hasF s=true then(match pget b.at_ (b.topI s)with
 |some o=>if o.side=s then b.a.topF o.slot false else b.a
 |none=>b.a)else b.a
def Book.leadF (b:Book) (id s:Int):Book:=if s=1 then{b with a:=b.untop s,top1:=id,has1:=true}else{b with a:=b.untop s,top2:=id,has2:=true}
def yAp (s:Int):Con:=con1 LdI (fun i=>[.nm 0 0,zA i.id,zA s]) (fun i=>zGs i.b) (fun i=>i.b.small) (fun _=>zWa) (fun i=>zGs (i.b.leadF i.id s))
def lead1C:Con:=yAp 1
def lead2C:Con:=yAp 2
def Book.newQ (b:Book):Int×List Int×Arena:=if b.spare.length=0 then(b.a.queues.length,b.spare,b.a.openQ)else(b.spare.getD (b.spare.length-1) 0,b.spare.take (b.spare.length-1),b.a)
def Book.ins (b:Book) (s price:Int):List xM:=(b.rungs s).take (zY s (b.rungs s) price)++⟨price,b.newQ.1⟩::(b.rungs s).drop (zY s (b.rungs s) price)
def Book.queueF (b:Book) (s price:Int):Book×Int:=
 if kR s (b.rungs s) price=true then(b,((b.rungs s).getD (zY s (b.rungs s) price) ⟨0,0⟩).queue)
 else(if s=1 then{b with a:=b.newQ.2.2,buys:=b.ins s price,spare:=b.newQ.2.1}else{b with a:=b.newQ.2.2,sells:=b.ins s price,spare:=b.newQ.2.1},b.newQ.1)
def yEl (b:Book):AObj:= .cells [.nm 1 0,.own 6,.own 3,.mp 4,zA b.top1,zA b.top2,.own 7,yP b.has1,yP b.has2] 144
def yEh (b:Book):AObj:= .cells [.nm 1 0,.own 2,.own 6,.mp 4,zA b.top1,zA b.top2,.own 7,yP b.has1,yP b.has2] 144
@[reducible] def yLg (b:Book):List AObj:=[yEl b,zT b 1,.gone,zT b 3,zT b 4,.gone,zT b 2,zT b 5]
@[reducible] def yNc (b:Book):List AObj:=[yEh b,zT b 1,zT b 2,.gone,zT b 4,.gone,zT b 3,zT b 5]
@[reducible] def Book.fit (b:Book):Prop:=b.a.fit∧b.a.queues.length≤100000∧b.buys.length≤100000∧b.sells.length≤100000∧b.spare.length≤100000
def queue1C:Con:=con1 BkP (fun i=>[.nm 0 0,zA 1,zA i.price]) (fun i=>zGs i.b) (fun i=>i.b.fit) (fun i=>zA (i.b.queueF 1 i.price).2) (fun i=>yLg (i.b.queueF 1 i.price).1)
def queue2C:Con:=con1 BkP (fun i=>[.nm 0 0,zA 2,zA i.price]) (fun i=>zGs i.b) (fun i=>i.b.fit) (fun i=>zA (i.b.queueF 2 i.price).2) (fun i=>yNc (i.b.queueF 2 i.price).1)
def insRC:Con:=yGd 147 2 16
open Go Cv Go.Proofs
def zVf (i:I3'):Prop:=
 cnd (i.side==1) (∃(a:Unit),btr i.side i.x i.y=decide (i.x>i.y)∧True) (∃(a:Unit),btr i.side i.x i.y=decide (i.x<i.y)∧True)
def z7s (s:Slot):Prop:=
 ∃(a:Unit),(!s.used)=!s.used∧True
def zVg (l:List Slot):Prop:=
 ∃(a:Nat),(↑a:Int)=0∧∃(b:Nat→Prop),∃(c:Nat→Nat),b a∧∀(d:Nat),b d→cnd (decide ((↑d:Int)<(↑(List.map zR l).length:Int))) ((0≤(↑d:Int)∧(↑d:Int)<(↑(List.map zR l).length:Int))∧∃(e:Bool),∃(f:Int),∃(g:Int),∃(h:Int),∃(j:Bool),∃(k:Int),∃(m:Int),∃(n:Int),zF (List.map zR l) (↑d:Int).toNat 0 8=some [D.v (.bool e),dI f,dI g,dI h,D.v (.bool j),dI k,dI m,dI n]∧∃(p:Slot),p.used=e∧p.n=f∧p.id=g∧p.qty=h∧p.top=j∧p.queue=k∧p.ahead=m∧p.back=n∧True∧∀(q:Unit),True→cnd (!p.used) (∃(r:Unit),kP l=(↑d:Int)∧List.map zR l=List.map zR l∧True) (∃(r:Nat),(↑r:Int)=IntKind.i64.wrap ((↑d:Int)+1)∧b r∧c r<c d∧AObj.own 193 8 (List.map zR l)=AObj.own 193 8 (List.map zR l))) (∃(e:Unit),kP l=(-1)∧List.map zR l=List.map zR l∧True)
def yAi (a:Arena):Prop:=
 ((List.map zO a.queues).length+1)*(32:Nat)≤(70368744177664:Nat)∧∃(b:Unit),(↑a.queues.length:Int)=IntKind.i64.wrap ((↑(List.map zO a.queues++[[dI (-1),dI (-1),dI 0,dI 0]]).length:Int)-1)∧a.free=a.free∧List.map zR a.slots=List.map zR a.slots∧List.map zO (a.queues++[bJ])=List.map zO a.queues++[[dI (-1),dI (-1),dI 0,dI 0]]∧True
def tF (a:z4k):Prop:=∃(b:Unit),(if a.a.usedAt a.n=true then(0:Int)else(26:Int))=26∧(a.a.topF a.n a.t).free=a.a.free∧List.map zR (a.a.topF a.n a.t).slots=List.map zR a.a.slots∧List.map zO (a.a.topF a.n a.t).queues=List.map zO a.a.queues∧True
def yHw (i:z4k):Prop:=
 cnd (decide (i.n<0)) (tF i) (cnd (decide (i.n≥(↑(List.map zR i.a.slots).length:Int))) (tF i) ((0≤i.n∧i.n<(↑(List.map zR i.a.slots).length:Int))∧∃(a:Bool),zF (List.map zR i.a.slots) i.n.toNat ((0:Nat)+(0:Nat)) 1=some [D.v (.bool a)]∧cnd (!a) (tF i) ((0≤i.n∧i.n<(↑(List.map zR i.a.slots).length:Int))∧i.n.toNat<(List.map zR i.a.slots).length∧∃(b:Unit),(if i.a.usedAt i.n=true then(0:Int)else(26:Int))=0∧(i.a.topF i.n i.t).free=i.a.free∧List.map zR (i.a.topF i.n i.t).slots=yB (List.map zR i.a.slots) i.n.toNat ((0:Nat)+(1:Nat)+3) [D.v (.bool i.t)]∧List.map zO (i.a.topF i.n i.t).queues=List.map zO i.a.queues∧True)))
def yL (a:PuI):=(a.a.push a.n a.id a.qty a.top)
def nU (a:PuI):Prop:=(yL a).fst.free=a.a.free∧List.map zR (yL a).fst.slots=List.map zR a.a.slots∧List.map zO (yL a).fst.queues=List.map zO a.a.queues∧True
def zAp (a:PuI):Prop:=∃(b:Unit),(yL a).snd.fst=0∧(yL a).snd.snd=26∧nU a
def lT (a:PuI):Prop:=∃(b:Unit),(yL a).snd.fst=0∧(yL a).snd.snd=24∧nU a
def pO (a:PuI) (b:List Slot):=(yB (yB (List.map zO a.a.queues) a.n.toNat ((0:Nat)+(0:Nat)) [dI (kP b)]) a.n.toNat ((0:Nat)+(1:Nat)) [dI (kP b)])
def nN (a:PuI) (b:List Slot) (c:Int):=(yB (pO a b) a.n.toNat ((0:Nat)+(2:Nat)) [dI (IntKind.i64.wrap (c+a.qty))])
def pC (a:PuI) (b:List Slot):=(yB (List.map zO a.a.queues) a.n.toNat ((0:Nat)+(1:Nat)) [dI (kP b)])
def pQ (a:PuI) (b:List Slot) (c:Int):=(yB (pC a b) a.n.toNat ((0:Nat)+(2:Nat)) [dI (IntKind.i64.wrap (c+a.qty))])
def yCh (i:PuI):Prop:=
 cnd (decide (i.n≥0)) (cnd (!decide (i.n<(↑(List.map zO i.a.queues).length:Int))) (zAp i) (cnd (decide (i.qty<1)) (lT i) (cnd (decide (i.qty>1000000)) (lT i) (cnd (i.a.free==0) (∃(a:Unit),(yL i).snd.fst=0∧(yL i).snd.snd=13∧nU i) (∃(a:List Slot),List.map zR a=List.map zR i.a.slots∧a.length≤1000000∧∀(b:Unit),True→(0≤i.n∧i.n<(↑(List.map zO i.a.queues).length:Int))∧∃(c:Int),zF (List.map zO i.a.queues) i.n.toNat ((0:Nat)+(1:Nat)) 1=some [dI c]∧(0≤kP a∧kP a<(↑(List.map zR a).length:Int))∧(kP a).toNat<(List.map zR a).length∧∃(d:Int),zF (List.map zO i.a.queues) i.n.toNat ((0:Nat)+(1:Nat)) 1=some [dI d]∧cnd (d==(-1)) (i.n.toNat<(List.map zO i.a.queues).length∧i.n.toNat<(yB (List.map zO i.a.queues) i.n.toNat ((0:Nat)+(0:Nat)) [dI (kP a)]).length∧∃(e:Int),zF (pO i a) i.n.toNat ((0:Nat)+(2:Nat)) 1=some [dI e]∧i.n.toNat<(pO i a).length∧∃(f:Int),zF (nN i a e) i.n.toNat ((0:Nat)+(3:Nat)) 1=some [dI f]∧i.n.toNat<(nN i a e).length∧∃(g:Unit),(yL i).snd.fst=kP a∧(yL i).snd.snd=0∧(yL i).fst.free=IntKind.i64.wrap (i.a.free-1)∧List.map zR (yL i).fst.slots=yB (List.map zR a) (kP a).toNat 0 [D.v (.bool true),dI (kP a),dI i.id,dI i.qty,D.v (.bool i.top),dI i.n,dI c,dI (-1)]∧List.map zO (yL i).fst.queues=yB (nN i a e) i.n.toNat ((0:Nat)+(3:Nat)) [dI (IntKind.i64.wrap (f+1))]∧True) (∃(e:Int),zF (List.map zO i.a.queues) i.n.toNat ((0:Nat)+(1:Nat)) 1=some [dI e]∧(0≤e∧e<(↑(yB (List.map zR a) (kP a).toNat 0 [D.v (.bool true),dI (kP a),dI i.id,dI i.qty,D.v (.bool i.top),dI i.n,dI c,dI (-1)]).length:Int))∧e.toNat<(yB (List.map zR a) (kP a).toNat 0 [D.v (.bool true),dI (kP a),dI i.id,dI i.qty,D.v (.bool i.top),dI i.n,dI c,dI (-1)]).length∧i.n.toNat<(List.map zO i.a.queues).length∧∃(f:Int),zF (pC i a) i.n.toNat ((0:Nat)+(2:Nat)) 1=some [dI f]∧i.n.toNat<(pC i a).length∧∃(g:Int),zF (pQ i a f) i.n.toNat ((0:Nat)+(3:Nat)) 1=some [dI g]∧i.n.toNat<(pQ i a f).length∧∃(h:Unit),(yL i).snd.fst=kP a∧(yL i).snd.snd=0∧(yL i).fst.free=IntKind.i64.wrap (i.a.free-1)∧List.map zR (yL i).fst.slots=yB (yB (List.map zR a) (kP a).toNat 0 [D.v (.bool true),dI (kP a),dI i.id,dI i.qty,D.v (.bool i.top),dI i.n,dI c,dI (-1)]) e.toNat ((0:Nat)+(7:Nat)) [dI (kP a)]∧List.map zO (yL i).fst.queues=yB (pQ i a f) i.n.toNat ((0:Nat)+(3:Nat)) [dI (IntKind.i64.wrap (g+1))]∧True)))))) (zAp i)
def xW (a:BkP):=(↑(zY 1 (a.b.rungs 1) a.price):Int)
def vS (a:BkP):=(↑(List.map zC a.b.buys).length:Int)
def fV (a:BkP):Prop:=a.b.top1=a.b.top1∧a.b.top2=a.b.top2∧a.b.has1=a.b.has1∧a.b.has2=a.b.has2∧AObj.adt Arena 3 zG a.b.a=zT a.b 1∧List.map zC a.b.buys=List.map zC a.b.buys∧List.map zC a.b.sells=List.map zC a.b.sells∧atE a.b.at_=atE a.b.at_∧iE a.b.spare=iE a.b.spare∧True
def zDy (a:Nat) (b:BkP):Prop:=(0≤(↑a:Int)∧(↑a:Int)<(vS b))∧∃(c:Int),zF (List.map zC b.b.buys) (↑a:Int).toNat ((0:Nat)+(0:Nat)) 1=some [dI c]∧∃(d:Unit),(xW b)=(↑a:Int)∧kR 1 (b.b.rungs 1) b.price=(c==b.price)∧fV b
def zAg (a:BkP) (b:Nat):Prop:=∃(c:Unit),(xW a)=(↑b:Int)∧kR 1 (a.b.rungs 1) a.price=false∧fV a
def pE (a:Nat) (b:Nat→Prop) (c:Nat→Nat) (d:BkP):Prop:=∃(e:Nat),(↑e:Int)=IntKind.i64.wrap ((↑a:Int)+1)∧b e∧c e<c a∧zT d.b 0=zT d.b 0∧zT d.b 1=zT d.b 1∧zT d.b 2=zT d.b 2∧zT d.b 3=zT d.b 3∧zT d.b 4=zT d.b 4∧zT d.b 5=zT d.b 5
def nF (a:Nat) (b:BkP):=(decide ((↑a:Int)<(vS b)))
def yCy (i:BkP):Prop:=
 ∃(a:Nat),(↑a:Int)=0∧∃(b:Nat→Prop),∃(c:Nat→Nat),b a∧∀(d:Nat),b d→cnd (nF d i) ((0≤(↑d:Int)∧(↑d:Int)<(vS i))∧∃(e:Int),zF (List.map zC i.b.buys) (↑d:Int).toNat ((0:Nat)+(0:Nat)) 1=some [dI e]∧∃(f:I3'),f.side=1∧f.x=e∧f.y=i.price∧True∧∀(g:Unit),True→cnd (btr f.side f.x f.y) (pE d b c i) (cnd (nF d i) (zDy d i) (zAg i d))) (cnd (nF d i) (zDy d i) (zAg i d))
def xY (a:BkP):=(↑(zY 2 (a.b.rungs 2) a.price):Int)
def vP (a:BkP):=(↑(List.map zC a.b.sells).length:Int)
def zDt (a:Nat) (b:BkP):Prop:=(0≤(↑a:Int)∧(↑a:Int)<(vP b))∧∃(c:Int),zF (List.map zC b.b.sells) (↑a:Int).toNat ((0:Nat)+(0:Nat)) 1=some [dI c]∧∃(d:Unit),(xY b)=(↑a:Int)∧kR 2 (b.b.rungs 2) b.price=(c==b.price)∧fV b
def lI (a:BkP) (b:Nat):Prop:=∃(c:Unit),(xY a)=(↑b:Int)∧kR 2 (a.b.rungs 2) a.price=false∧fV a
def nH (a:Nat) (b:BkP):=(decide ((↑a:Int)<(vP b)))
def z9r (i:BkP):Prop:=
 ∃(a:Nat),(↑a:Int)=0∧∃(b:Nat→Prop),∃(c:Nat→Nat),b a∧∀(d:Nat),b d→cnd (nH d i) ((0≤(↑d:Int)∧(↑d:Int)<(vP i))∧∃(e:Int),zF (List.map zC i.b.sells) (↑d:Int).toNat ((0:Nat)+(0:Nat)) 1=some [dI e]∧∃(f:I3'),f.side=2∧f.x=e∧f.y=i.price∧True∧∀(g:Unit),True→cnd (btr f.side f.x f.y) (pE d b c i) (cnd (nH d i) (zDt d i) (lI i d))) (cnd (nH d i) (zDt d i) (lI i d))
def dA (a:LdI):Prop:=List.map zC a.b.buys=List.map zC a.b.buys∧List.map zC a.b.sells=List.map zC a.b.sells∧atE a.b.at_=atE a.b.at_∧iE a.b.spare=iE a.b.spare∧True
def pN (a:LdI):Prop:=∃(b:Unit),a.id=a.id∧a.b.top2=a.b.top2∧true=true∧a.b.has2=a.b.has2∧AObj.adt Arena 3 zG (a.b.untop 1)=zT a.b 1∧dA a
def zAa (a:LdI) (b:Int) (c:Int) (d:Int) (e:Bool):Prop:=j8 (Value.int IntKind.i64 a.b.top1) (atE a.b.at_)=some [dI b,dI c,dI d]∧e=true∨j8 (Value.int IntKind.i64 a.b.top1) (atE a.b.at_)=none∧[dI b,dI c,dI d]=[dI 0,dI 0,dI 0]∧e=false
def lA (a:LdI):Prop:=∀(b:Value×List D),b∈atE a.b.at_→like (Value.int IntKind.i64 a.b.top1) b.fst=true
def yDf (i:LdI):Prop:=
 cnd i.b.has1 ((lA i)∧∃(a:Bool),∃(b:Int),∃(c:Int),∃(d:Int),(zAa i b c d a)∧((lA i)∧∃(e:Bool),∃(f:Int),∃(g:Int),∃(h:Int),(zAa i f g h e)∧(f=b∧g=c∧h=d∧True)∧e=a∧True)∧i.b.top1=i.b.top1∧True∧cnd a (cnd (b==1) (∃(e:z4k),e.n=d∧e.t=false∧AObj.adt Arena 3 zG e.a=zT i.b 1∧e.a.slots.length≤1000000∧∀(f:Unit),True→∃(g:Unit),i.id=i.id∧i.b.top2=i.b.top2∧true=true∧i.b.has2=i.b.has2∧AObj.adt Arena 3 zG (i.b.untop 1)=AObj.adt Arena 3 zG (e.a.topF e.n e.t)∧dA i) (pN i)) (pN i)) (pN i)
def pR (a:LdI):Prop:=∃(b:Unit),a.b.top1=a.b.top1∧a.id=a.id∧a.b.has1=a.b.has1∧true=true∧AObj.adt Arena 3 zG (a.b.untop 2)=zT a.b 1∧dA a
def lU (a:LdI) (b:Int) (c:Int) (d:Int) (e:Bool):Prop:=j8 (Value.int IntKind.i64 a.b.top2) (atE a.b.at_)=some [dI b,dI c,dI d]∧e=true∨j8 (Value.int IntKind.i64 a.b.top2) (atE a.b.at_)=none∧[dI b,dI c,dI d]=[dI 0,dI 0,dI 0]∧e=false
def zAn (a:LdI):Prop:=∀(b:Value×List D),b∈atE a.b.at_→like (Value.int IntKind.i64 a.b.top2) b.fst=true
def yCu (i:LdI):Prop:=
 cnd i.b.has2 ((zAn i)∧∃(a:Bool),∃(b:Int),∃(c:Int),∃(d:Int),(lU i b c d a)∧((zAn i)∧∃(e:Bool),∃(f:Int),∃(g:Int),∃(h:Int),(lU i f g h e)∧(f=b∧g=c∧h=d∧True)∧e=a∧True)∧i.b.top2=i.b.top2∧True∧cnd a (cnd (b==2) (∃(e:z4k),e.n=d∧e.t=false∧AObj.adt Arena 3 zG e.a=zT i.b 1∧e.a.slots.length≤1000000∧∀(f:Unit),True→∃(g:Unit),i.b.top1=i.b.top1∧i.id=i.id∧i.b.has1=i.b.has1∧true=true∧AObj.adt Arena 3 zG (i.b.untop 2)=AObj.adt Arena 3 zG (e.a.topF e.n e.t)∧dA i) (pR i)) (pR i)) (pR i)
def qD (a:BkP):Prop:=(a.b.a.slots.length≤1000000∧a.b.a.queues.length≤1000000)∧a.b.buys.length≤1000000∧a.b.sells.length≤1000000∧a.b.spare.length≤1000000
def gS (a:BkP):Prop:=0≤(xW a)∧(xW a)<(vS a)
def vW (a:BkP):=((↑(iE a.b.spare).length:Int)-1)
def aR (a:BkP):Prop:=0≤IntKind.i64.wrap (vW a)∧IntKind.i64.wrap (vW a)≤(↑(iE a.b.spare).length:Int)
def aL (a:BkP):Prop:=0≤IntKind.i64.wrap (vW a)∧IntKind.i64.wrap (vW a)<(↑(iE a.b.spare).length:Int)
def gN (a:z6q):Prop:=a.i≤a.els.length∧(a.els.length+1)*(16:Nat)≤(70368744177664:Nat)
def gY (a:BkP):=(IntKind.i64.wrap (vW a))
def zM (a:BkP):=(a.b.queueF 1 a.price)
def z3h (i:BkP):Prop:=
 ∃(a:BkP),(1:Int)=(1:Int)∧a.price=i.price∧a.b.top1=i.b.top1∧a.b.top2=i.b.top2∧a.b.has1=i.b.has1∧a.b.has2=i.b.has2∧AObj.adt Arena 3 zG a.b.a=zT i.b 1∧List.map zC a.b.buys=List.map zC i.b.buys∧List.map zC a.b.sells=List.map zC i.b.sells∧atE a.b.at_=atE i.b.at_∧iE a.b.spare=iE i.b.spare∧(qD a)∧∀(b:Unit),True→cnd (kR 1 (a.b.rungs 1) a.price) ((gS a)∧∃(c:Int),zF (List.map zC a.b.buys) (xW a).toNat ((0:Nat)+(1:Nat)) 1=some [dI c]∧∃(d:Unit),(zM i).snd=c∧(zM i).fst.top1=a.b.top1∧(zM i).fst.top2=a.b.top2∧(zM i).fst.has1=a.b.has1∧(zM i).fst.has2=a.b.has2∧AObj.adt Arena 3 zG (zM i).fst.a=AObj.adt Arena 3 zG a.b.a∧List.map zC (zM i).fst.sells=List.map zC a.b.sells∧atE (zM i).fst.at_=atE a.b.at_∧List.map zC (zM i).fst.buys=List.map zC a.b.buys∧iE (zM i).fst.spare=iE a.b.spare∧True) (cnd (decide ((↑(iE a.b.spare).length:Int)>0)) ((aL a)∧∃(c:Int),zF (iE a.b.spare) (gY a).toNat 0 1=some [dI c]∧(aR a)∧True∧∃(d:z6q),(↑d.i:Int)=(xW a)∧d.els=List.map zC a.b.buys∧[d.el]=[[dI i.price,dI c]]∧(gN d)∧∀(e:Unit),True→∃(f:Unit),(zM i).snd=c∧(zM i).fst.top1=a.b.top1∧(zM i).fst.top2=a.b.top2∧(zM i).fst.has1=a.b.has1∧(zM i).fst.has2=a.b.has2∧AObj.adt Arena 3 zG (zM i).fst.a=AObj.adt Arena 3 zG a.b.a∧List.map zC (zM i).fst.sells=List.map zC a.b.sells∧atE (zM i).fst.at_=atE a.b.at_∧List.map zC (zM i).fst.buys=List.take d.i d.els++d.el::List.drop d.i d.els∧iE (zM i).fst.spare=List.take (gY a).toNat (iE a.b.spare)∧True) (∃(c:Arena),AObj.adt Arena 3 zG c=AObj.adt Arena 3 zG a.b.a∧c.queues.length≤1000000∧∀(d:Unit),True→True∧∃(e:z6q),(↑e.i:Int)=(xW a)∧e.els=List.map zC a.b.buys∧[e.el]=[[dI i.price,dI (↑c.queues.length:Int)]]∧(gN e)∧∀(f:Unit),True→∃(g:Unit),(zM i).snd=(↑c.queues.length:Int)∧(zM i).fst.top1=a.b.top1∧(zM i).fst.top2=a.b.top2∧(zM i).fst.has1=a.b.has1∧(zM i).fst.has2=a.b.has2∧AObj.adt Arena 3 zG (zM i).fst.a=AObj.adt Arena 3 zG c.openQ∧List.map zC (zM i).fst.sells=List.map zC a.b.sells∧atE (zM i).fst.at_=atE a.b.at_∧List.map zC (zM i).fst.buys=List.take e.i e.els++e.el::List.drop e.i e.els∧iE (zM i).fst.spare=iE a.b.spare∧True))
def gP (a:BkP):Prop:=0≤(xY a)∧(xY a)<(vP a)
def zN (a:BkP):=(a.b.queueF 2 a.price)
def z3i (i:BkP):Prop:=
 ∃(a:BkP),(2:Int)=(2:Int)∧a.price=i.price∧a.b.top1=i.b.top1∧a.b.top2=i.b.top2∧a.b.has1=i.b.has1∧a.b.has2=i.b.has2∧AObj.adt Arena 3 zG a.b.a=zT i.b 1∧List.map zC a.b.buys=List.map zC i.b.buys∧List.map zC a.b.sells=List.map zC i.b.sells∧atE a.b.at_=atE i.b.at_∧iE a.b.spare=iE i.b.spare∧(qD a)∧∀(b:Unit),True→cnd (kR 2 (a.b.rungs 2) a.price) ((gP a)∧∃(c:Int),zF (List.map zC a.b.sells) (xY a).toNat ((0:Nat)+(1:Nat)) 1=some [dI c]∧∃(d:Unit),(zN i).snd=c∧(zN i).fst.top1=a.b.top1∧(zN i).fst.top2=a.b.top2∧(zN i).fst.has1=a.b.has1∧(zN i).fst.has2=a.b.has2∧AObj.adt Arena 3 zG (zN i).fst.a=AObj.adt Arena 3 zG a.b.a∧List.map zC (zN i).fst.buys=List.map zC a.b.buys∧atE (zN i).fst.at_=atE a.b.at_∧List.map zC (zN i).fst.sells=List.map zC a.b.sells∧iE (zN i).fst.spare=iE a.b.spare∧True) (cnd (decide ((↑(iE a.b.spare).length:Int)>0)) ((aL a)∧∃(c:Int),zF (iE a.b.spare) (gY a).toNat 0 1=some [dI c]∧(aR a)∧True∧∃(d:z6q),(↑d.i:Int)=(xY a)∧d.els=List.map zC a.b.sells∧[d.el]=[[dI i.price,dI c]]∧(gN d)∧∀(e:Unit),True→∃(f:Unit),(zN i).snd=c∧(zN i).fst.top1=a.b.top1∧(zN i).fst.top2=a.b.top2∧(zN i).fst.has1=a.b.has1∧(zN i).fst.has2=a.b.has2∧AObj.adt Arena 3 zG (zN i).fst.a=AObj.adt Arena 3 zG a.b.a∧List.map zC (zN i).fst.buys=List.map zC a.b.buys∧atE (zN i).fst.at_=atE a.b.at_∧List.map zC (zN i).fst.sells=List.take d.i d.els++d.el::List.drop d.i d.els∧iE (zN i).fst.spare=List.take (gY a).toNat (iE a.b.spare)∧True) (∃(c:Arena),AObj.adt Arena 3 zG c=AObj.adt Arena 3 zG a.b.a∧c.queues.length≤1000000∧∀(d:Unit),True→True∧∃(e:z6q),(↑e.i:Int)=(xY a)∧e.els=List.map zC a.b.sells∧[e.el]=[[dI i.price,dI (↑c.queues.length:Int)]]∧(gN e)∧∀(f:Unit),True→∃(g:Unit),(zN i).snd=(↑c.queues.length:Int)∧(zN i).fst.top1=a.b.top1∧(zN i).fst.top2=a.b.top2∧(zN i).fst.has1=a.b.has1∧(zN i).fst.has2=a.b.has2∧AObj.adt Arena 3 zG (zN i).fst.a=AObj.adt Arena 3 zG c.openQ∧List.map zC (zN i).fst.buys=List.map zC a.b.buys∧atE (zN i).fst.at_=atE a.b.at_∧List.map zC (zN i).fst.sells=List.take e.i e.els++e.el::List.drop e.i e.els∧iE (zN i).fst.spare=iE a.b.spare∧True))
open Go Cv Go.Proofs
theorem bT:bbetterC.ok Tryz.prog 111:=okw (V:=zVf) mixed gok0 0 (fun _=>[]) (fun _=>[]) [] Tryz.func111 fun(i:I3') _=>by
 unfold zVf
 refine Cv.cnd.mk (fun c=> ?_) (fun c=> ?_)
 ·have c:i.side=1:=by simpa using c
  rw[btr,ySk c];(repeat'(first|exact rfl|exact trivial|assumption|apply And.intro|refine fun(_:Unit) (_:True)=>?_|refine Exists.intro () ?_|omega|(dsimp only;omega)))
 ·have c:¬i.side=1:=by simpa using c
  rw[btr,ySj c];(repeat'(first|exact rfl|exact trivial|assumption|apply And.intro|refine fun(_:Unit) (_:True)=>?_|refine Exists.intro () ?_|omega|(dsimp only;omega)))
theorem z9c:pushFC.ok Tryz.prog 146:=okw (V:=z7s) mixed gok0 0 (fun _=>[]) (fun _=>[]) [] Tryz.func146 fun(s:Slot) _=>by
 unfold z7s;(repeat'(first|exact rfl|exact trivial|assumption|apply And.intro|refine fun(_:Unit) (_:True)=>?_|refine Exists.intro () ?_|omega|(dsimp only;omega)))
theorem yRt {l:List Slot} {k:Nat} {s:Slot} (h:l[k]? =some s):zF (l.map zR) k 0 8=some [D.v (.bool s.used),.v (.int .i64 s.n),.v (.int .i64 s.id),.v (.int .i64 s.qty),.v (.bool s.top),.v (.int .i64 s.queue),.v (.int .i64 s.ahead),.v (.int .i64 s.back)]:=elA h (by simp[zR]) rfl
theorem z9e (l:List Slot) (h:idxSlotC.cnd l):zVg l:=by
 have h:l.length≤1000000:=h
 unfold zVg dI
 simp only[ySm]
 refine⟨0,rfl,fun j=>j≤l.length∧∀k<j,∀x,l[k]? =some x→(!x.used)=false,fun j=>l.length-j,⟨by omega,fun k hk=>by omega⟩,?_⟩
 rintro j ⟨h3,h4⟩
 refine zL (fun hj=> ?_) (fun hj=> ?_)
 ·obtain⟨s,hs⟩:=z9 (l:=l) (i:=j) (by omega)
  refine⟨⟨by omega,by omega⟩,s.used,s.n,s.id,s.qty,s.top,s.queue,s.ahead,s.back,yRt hs,s,rfl,rfl,rfl,rfl,rfl,rfl,rfl,rfl,trivial,fun _ _=>Cv.cnd.mk (fun e=> ?_) (fun e=> ?_)⟩
  ·rw[kP,zFk hs e h4];(repeat'(first|exact rfl|exact trivial|assumption|apply And.intro|refine fun(_:Unit) (_:True)=>?_|refine Exists.intro () ?_|omega|(dsimp only;omega)))
  ·refine⟨j+1,by rw[w64 (by omega)];rfl,⟨by omega,fun k hk x hx=> ?_⟩,by(first|omega|(dsimp only;omega)),by(repeat'(first|exact trivial|exact rfl|apply And.intro))⟩
   rcases yUu k j with hk'|hk'
   ·exact h4 k hk' x hx
   ·obtain rfl:k=j:=by omega
    rw[hs]at hx;cases hx;exact e
 ·rw[kP,zDz fun k x hx=>h4 k (by have:=(ySl.1 hx).1;omega) x hx];(repeat'(first|exact rfl|exact trivial|assumption|apply And.intro|refine fun(_:Unit) (_:True)=>?_|refine Exists.intro () ?_|omega|(dsimp only;omega)))
theorem zZh:idxSlotC.ok Tryz.prog 145:=okw mixed (gokc z9c gok0) 0 (fun _=>[]) (fun l=>z8k l) [] Tryz.func145 z9e
theorem zWe:aopenC.ok Tryz.prog 147:=okw (V:=yAi) mixed gok0 0 (fun _=>[]) (fun _=>[]) [0] Tryz.func147 fun(a:Arena) h=>by
 have h:a.queues.length≤1000000:=h
 unfold yAi dI
 rw[ySr,ySm,w64 (by simp only[yTc,yVe];omega)]
 refine⟨by omega,(),?_,rfl,rfl,?_,trivial⟩
 ·simp
 ·rw[ySv];rfl
theorem dR {α:Type} {f:α→α}:∀{l:List α} {i:Nat} {x:α},l[i]? =some x→l.modify i f=l.set i (f x)
 |[],i,x,h=>by simp at h
 |a::l,0,x,h=>by simp at h;subst h;rfl
 |a::l,i+1,x,h=>by
  simp only[yUc]at h
  simp only[yWy,yWi,dR h]
theorem yK {α:Type} {f:α→List D} {l:List α} {i g:Nat} {x y:α} {ds:List D} (hi:l[i]? =some x) (hh:(f x).take g++(ds++(f x).drop (g+ds.length))=f y):yB (l.map f) i g ds=(l.set i y).map f:=by
 have hlt:=(ySl.1 hi).1
 rw[yB,dR (by rw[yUd,hi];rfl),hh,List.map_set]
theorem vZ {α:Type} {l:List α} {i:Nat} {x y:α} (hi:l[i]? =some x):(l.set i y)[i]? =some y:=List.getElem?_set_self (ySl.1 hi).1
theorem zH {α:Type} {l:List α} {i:Nat} {x d:α} (h:l[i]? =some x):l.getD i d=x:=by rw[ySn,h];rfl
theorem yOy (i:z4k) (h:atopC.cnd i):yHw i:=by
 have h:i.a.slots.length≤1000000:=h
 unfold yHw tF
 simp only[ySm]
 have no (e:i.a.usedAt i.n=false):i.a.topF i.n i.t=i.a:=by rw[Arena.topF,ySj (by rw[e];decide)]
 refine zL (fun c=> ?_) (fun c=>zL (fun d=> ?_) (fun d=> ?_))
 ·have e:i.a.usedAt i.n=false:=by rw[Arena.usedAt,ySu (by omega),yUe]
  rw[no e,e];(repeat'(first|exact rfl|exact trivial|assumption|apply And.intro|refine fun(_:Unit) (_:True)=>?_|refine Exists.intro () ?_|omega|(dsimp only;omega)))
 ·have e:i.a.usedAt i.n=false:=by rw[Arena.usedAt,ySu (show ¬i.n<(i.a.slots.length:Int)by omega),yUe,yXa]
  rw[no e,e];(repeat'(first|exact rfl|exact trivial|assumption|apply And.intro|refine fun(_:Unit) (_:True)=>?_|refine Exists.intro () ?_|omega|(dsimp only;omega)))
 ·obtain⟨s,hs⟩:=z9 (l:=i.a.slots) (i:=i.n.toNat) (by omega)
  have eu:i.a.usedAt i.n=s.used:=by rw[Arena.usedAt,yTd (show 0≤i.n by omega),yTd (show i.n<(i.a.slots.length:Int)by omega),zH hs];simp
  refine⟨⟨by omega,by omega⟩,s.used,elA hs (by simp[zR]) rfl,Cv.cnd.mk (fun u=> ?_) (fun u=> ?_)⟩
  ·have e:i.a.usedAt i.n=false:=by rw[eu];simpa using u
   rw[no e,e];(repeat'(first|exact rfl|exact trivial|assumption|apply And.intro|refine fun(_:Unit) (_:True)=>?_|refine Exists.intro () ?_|omega|(dsimp only;omega)))
  ·have e:i.a.usedAt i.n=true:=by rw[eu];simpa using u
   have et:i.a.topF i.n i.t={i.a with slots:=i.a.slots.set i.n.toNat {s with top:=i.t}}:=by
    rw[Arena.topF,ySk e,dR hs]
   rw[et,e,yK hs (y:={s with top:=i.t}) rfl]
   refine⟨⟨by omega,by omega⟩,by omega,(),rfl,rfl,rfl,rfl,trivial⟩
theorem z1w:atopC.ok Tryz.prog 144:=okw mixed gok0 1 (fun _=>[]) (fun _=>[]) [0] Tryz.func144 yOy
theorem yDl {l:List Slot} (h:∃s∈l,s.used=false):∃k:Nat,kP l=k∧k<l.length:=by
 obtain⟨s,hs,hu⟩:=h
 cases hf:l.findIdx? fun s=> !s.used with
 |none=>
  rw[yXe]at hf
  have:=hf s hs
  rw[hu]at this;cases this
 |some k=>
  rw[yVo]at hf
  exact⟨k,by rw[kP,show(l.findIdx? fun s=> !s.used)=some k by rw[yVo];exact hf];rfl,hf.1⟩
theorem yKo (i:PuI) (h:apushC.cnd i):yCh i:=by
 obtain⟨h1,h2,h3⟩:i.a.fit:=h
 unfold yCh pQ pC nN pO lT zAp nU yL dI
 simp only[ySm]
 have out (e:i.n<0∨i.a.queues.length≤i.n):i.a.push i.n i.id i.qty i.top=(i.a,0,26):=by rw[Arena.push,ySk e]
 refine zL (fun c=>Cv.cnd.mk (fun d=> ?_) (fun d=> ?_)) (fun c=> ?_)
 ·have d:¬i.n<(i.a.queues.length:Int):=by simpa using d
  rw[out (.inr (by omega))];(repeat'(first|exact rfl|exact trivial|assumption|apply And.intro|refine fun(_:Unit) (_:True)=>?_|refine Exists.intro () ?_|omega|(dsimp only;omega)))
 ·have d:i.n<(i.a.queues.length:Int):=by simpa using d
  have hn:¬(i.n<0∨(i.a.queues.length:Int)≤i.n):=by omega
  refine zL (fun q1=> ?_) (fun q1=>zL (fun q2=> ?_) (fun q2=>Cv.cnd.mk (fun fr=> ?_) (fun fr=> ?_)))
  ·rw[Arena.push,ySj hn,ySk (.inl q1)];(repeat'(first|exact rfl|exact trivial|assumption|apply And.intro|refine fun(_:Unit) (_:True)=>?_|refine Exists.intro () ?_|omega|(dsimp only;omega)))
  ·rw[Arena.push,ySj hn,ySk (.inr q2)];(repeat'(first|exact rfl|exact trivial|assumption|apply And.intro|refine fun(_:Unit) (_:True)=>?_|refine Exists.intro () ?_|omega|(dsimp only;omega)))
  ·rw[Arena.push,ySj hn,ySj (by omega),ySk (by simpa using fr)];(repeat'(first|exact rfl|exact trivial|assumption|apply And.intro|refine fun(_:Unit) (_:True)=>?_|refine Exists.intro () ?_|omega|(dsimp only;omega)))
  ·have fr:i.a.free≠0:=by simpa using fr
   have ep:i.a.push i.n i.id i.qty i.top=(i.a.put i.n i.id i.qty i.top,kP i.a.slots,0):=by rw[Arena.push,ySj hn,ySj (by omega),ySj fr]
   obtain⟨k,hk,hkl⟩:=yDl (h2 fr)
   obtain⟨q,hq⟩:=z9 (l:=i.a.queues) (i:=i.n.toNat) (by omega)
   have hqm:=ySt hq
   have hl:=h3 q hqm
   obtain⟨s,hs⟩:=z9 hkl
   refine⟨i.a.slots,rfl,h1,fun _ _=>⟨⟨by omega,by omega⟩,q.last,elA hq (by simp[zO]) rfl,⟨by omega,by omega⟩,by rw[hk];exact hkl,q.last,elA hq (by simp[zO]) rfl,?_⟩⟩
   rw[ep]
   have eput:i.a.put i.n i.id i.qty i.top=⟨if q.last= -1 then i.a.slots.set k ⟨true,k,i.id,i.qty,i.top,i.n,q.last,-1⟩else(i.a.slots.set k ⟨true,k,i.id,i.qty,i.top,i.n,q.last,-1⟩).modify q.last.toNat fun s=>{s with back:=k},i.a.queues.set i.n.toNat ⟨if q.last= -1 then k else q.first,k,IntKind.i64.wrap (q.total+i.qty),IntKind.i64.wrap (q.count+1)⟩,IntKind.i64.wrap (i.a.free-1)⟩:=by
    simp only[Arena.put,zH hq,hk,ySy]
   rw[eput,hk]
   simp only[ySy]
   have es:yB (List.map zR i.a.slots) k 0 [D.v (.bool true),D.v (.int .i64 k),D.v (.int .i64 i.id),D.v (.int .i64 i.qty),D.v (.bool i.top),D.v (.int .i64 i.n),D.v (.int .i64 q.last),D.v (.int .i64 (-1))]=List.map zR (i.a.slots.set k ⟨true,k,i.id,i.qty,i.top,i.n,q.last,-1⟩):=yK hs rfl
   rw[es]
   refine Cv.cnd.mk (fun e=> ?_) (fun e=> ?_)
   ·have e:q.last= -1:=by simpa using e
    have e1:yB (List.map zO i.a.queues) i.n.toNat (0+0) [D.v (.int .i64 k)]=List.map zO (i.a.queues.set i.n.toNat {q with first:=k}):=yK hq rfl
    have g1:=vZ (y:={q with first:=(k:Int)}) hq
    have e2:yB (List.map zO (i.a.queues.set i.n.toNat {q with first:=k})) i.n.toNat (0+1) [D.v (.int .i64 k)]=List.map zO (i.a.queues.set i.n.toNat {q with first:=k,last:=k}):=by
     rw[yK g1 (y:={q with first:=(k:Int),last:=(k:Int)}) rfl,yWt]
    have g2:=vZ (y:={q with first:=(k:Int),last:=(k:Int)}) hq
    have e3:yB (List.map zO (i.a.queues.set i.n.toNat {q with first:=k,last:=k})) i.n.toNat (0+2) [D.v (.int .i64 (IntKind.i64.wrap (q.total+i.qty)))]=List.map zO (i.a.queues.set i.n.toNat {q with first:=k,last:=k,total:=IntKind.i64.wrap (q.total+i.qty)}):=by
     rw[yK g2 (y:={q with first:=(k:Int),last:=(k:Int),total:=IntKind.i64.wrap (q.total+i.qty)}) rfl,yWt]
    have g3:=vZ (y:={q with first:=(k:Int),last:=(k:Int),total:=IntKind.i64.wrap (q.total+i.qty)}) hq
    have e4:yB (List.map zO (i.a.queues.set i.n.toNat {q with first:=k,last:=k,total:=IntKind.i64.wrap (q.total+i.qty)})) i.n.toNat (0+3) [D.v (.int .i64 (IntKind.i64.wrap (q.count+1)))]=List.map zO (i.a.queues.set i.n.toNat ⟨k,k,IntKind.i64.wrap (q.total+i.qty),IntKind.i64.wrap (q.count+1)⟩):=by
     rw[yK g3 (y:=⟨k,k,IntKind.i64.wrap (q.total+i.qty),IntKind.i64.wrap (q.count+1)⟩) rfl,yWt]
    rw[e1,e2]
    simp only[ySk e]
    refine⟨by omega,by simp only[ySm,yTq];omega,q.total,elA g2 (by simp[zO]) rfl,by simp only[ySm,yTq];omega,q.count,?_,by rw[e3];simp only[ySm,yTq];omega,(),?_⟩
    ·rw[e3];exact elA g3 (by simp[zO]) rfl
    ·rw[e3,e4];(repeat'(first|exact rfl|exact trivial|assumption|apply And.intro|refine fun(_:Unit) (_:True)=>?_|refine Exists.intro () ?_|omega|(dsimp only;omega)))
   ·have e:¬q.last= -1:=by simpa using e
    have hl:0≤q.last∧q.last<i.a.slots.length:=hl.resolve_left e
    have e2:yB (List.map zO i.a.queues) i.n.toNat (0+1) [D.v (.int .i64 k)]=List.map zO (i.a.queues.set i.n.toNat {q with last:=k}):=yK hq rfl
    have g2:=vZ (y:={q with last:=(k:Int)}) hq
    have e3:yB (List.map zO (i.a.queues.set i.n.toNat {q with last:=k})) i.n.toNat (0+2) [D.v (.int .i64 (IntKind.i64.wrap (q.total+i.qty)))]=List.map zO (i.a.queues.set i.n.toNat {q with last:=k,total:=IntKind.i64.wrap (q.total+i.qty)}):=by
     rw[yK g2 (y:={q with last:=(k:Int),total:=IntKind.i64.wrap (q.total+i.qty)}) rfl,yWt]
    have g3:=vZ (y:={q with last:=(k:Int),total:=IntKind.i64.wrap (q.total+i.qty)}) hq
    have e4:yB (List.map zO (i.a.queues.set i.n.toNat {q with last:=k,total:=IntKind.i64.wrap (q.total+i.qty)})) i.n.toNat (0+3) [D.v (.int .i64 (IntKind.i64.wrap (q.count+1)))]=List.map zO (i.a.queues.set i.n.toNat ⟨q.first,k,IntKind.i64.wrap (q.total+i.qty),IntKind.i64.wrap (q.count+1)⟩):=by
     rw[yK g3 (y:=⟨q.first,k,IntKind.i64.wrap (q.total+i.qty),IntKind.i64.wrap (q.count+1)⟩) rfl,yWt]
    obtain⟨s2,hs2⟩:=z9 (l:=i.a.slots.set k ⟨true,k,i.id,i.qty,i.top,i.n,q.last,-1⟩) (i:=q.last.toNat) (by rw[yTq];omega)
    have e5:yB (List.map zR (i.a.slots.set k ⟨true,k,i.id,i.qty,i.top,i.n,q.last,-1⟩)) q.last.toNat (0+7) [D.v (.int .i64 k)]=List.map zR ((i.a.slots.set k ⟨true,k,i.id,i.qty,i.top,i.n,q.last,-1⟩).modify q.last.toNat fun s=>{s with back:=k}):=by
     rw[yK hs2 (y:={s2 with back:=(k:Int)}) rfl,dR hs2]
    rw[e2]
    simp only[ySj e]
    refine⟨q.last,elA hq (by simp[zO]) rfl,⟨by omega,by simp only[ySm,yTq];omega⟩,by simp only[ySm,yTq];omega,by omega,q.total,elA g2 (by simp[zO]) rfl,by simp only[ySm,yTq];omega,q.count,?_,by rw[e3];simp only[ySm,yTq];omega,(),?_⟩
    ·rw[e3];exact elA g3 (by simp[zO]) rfl
    ·rw[e3,e4,e5];(repeat'(first|exact rfl|exact trivial|assumption|apply And.intro|refine fun(_:Unit) (_:True)=>?_|refine Exists.intro () ?_|omega|(dsimp only;omega)))
 ·rw[out (.inl (by omega))];(repeat'(first|exact rfl|exact trivial|assumption|apply And.intro|refine fun(_:Unit) (_:True)=>?_|refine Exists.intro () ?_|omega|(dsimp only;omega)))
theorem zUh:apushC.ok Tryz.prog 136:=okw mixed (gokc zZh gok0) 1 (fun _=>[]) (fun _=>[]) [0] Tryz.func136 yKo
theorem mN {s price:Int}:∀{l:List xM} {j:Nat},j≤l.length→(∀k<j,∀r,l[k]? =some r→btr s r.price price=true)→(∀r,l[j]? =some r→btr s r.price price=false)→zY s l price=j
 |[],j,hj,_,_=>by
  obtain rfl:j=0:=by simpa using hj
  rfl
 |r::l,0,_,_,he=>by
  have:=he r rfl
  rw[zY,List.takeWhile_cons,this];rfl
 |r::l,j+1,hj,h,he=>by
  have h0:=h 0 (by omega) r rfl
  have ih:=mN (l:=l) (j:=j) (by simpa using hj) (fun k hk x hx=>h (k+1) (by omega) x (by simpa using hx)) (fun x hx=>he x (by simpa using hx))
  rw[zY]at ih ⊢
  rw[List.takeWhile_cons,h0,ySk rfl,yTc,ih]
theorem zBn (s price:Int) (l:List xM):zY s l price≤l.length:=(List.takeWhile_sublist _).length_le
theorem p8 (b:Book):b.rungs 1=b.buys:=rfl
theorem nT (b:Book):b.rungs 2=b.sells:=rfl
theorem yMn (i:BkP) (h:find1C.cnd i):yCy i:=by
 obtain⟨_,h1,h2,_⟩:i.b.small:=h
 unfold yCy zDy nF vS pE zAg fV xW dI
 simp only[ySm,p8]
 refine⟨0,rfl,fun j=>j≤i.b.buys.length∧∀k<j,∀r,i.b.buys[k]? =some r→btr 1 r.price i.price=true,fun j=>i.b.buys.length-j,⟨by omega,fun k hk=>by omega⟩,?_⟩
 rintro j ⟨h3,h4⟩
 refine zL (fun hj=> ?_) (fun hj=> ?_)
 ·obtain⟨r,hr⟩:=z9 (l:=i.b.buys) (i:=j) (by omega)
  refine⟨⟨by omega,by omega⟩,r.price,elA hr (by simp[zC]) rfl,⟨1,r.price,i.price⟩,rfl,rfl,rfl,trivial,fun _ _=> ?_⟩
  dsimp only
  refine Cv.cnd.mk (fun e=>⟨j+1,by rw[w64 (by omega)];rfl,⟨by omega,fun k hk x hx=> ?_⟩,by(first|omega|(dsimp only;omega)),by(repeat'(first|exact trivial|exact rfl|apply And.intro))⟩) (fun e=>zL (fun _=> ?_) (fun c=>absurd hj c))
  ·rcases yUu k j with hk'|hk'
   ·exact h4 k hk' x hx
   ·obtain rfl:k=j:=by omega
    rw[hr]at hx;cases hx;exact e
  ·have en:zY 1 i.b.buys i.price=j:=mN h3 h4 fun x hx=>by rw[hr]at hx;cases hx;exact e
   have eb:kR 1 i.b.buys i.price=(r.price==i.price):=by rw[kR,en,hr];exact(zMp _ _).symm
   refine⟨⟨by omega,by omega⟩,r.price,elA hr (by simp[zC]) rfl,(),by rw[en],eb,?_⟩
   (repeat'(first|exact trivial|exact rfl|apply And.intro))
 ·have en:zY 1 i.b.buys i.price=j:=mN h3 h4 fun x hx=>by have:=(ySl.1 hx).1;omega
  have eb:kR 1 i.b.buys i.price=false:=by rw[kR,en,yTh (by omega)]
  refine zL (fun c=>absurd c hj) (fun _=>⟨(),by rw[en],eb,?_⟩)
  (repeat'(first|exact trivial|exact rfl|apply And.intro))
theorem zMd:find1C.ok Tryz.prog 126:=okw mixed (gokc bT gok0) 0 (fun _=>[]) (fun _=>yIn) [] Tryz.func126 yMn
theorem jS (l:List (Int×Place)) (k:Int):∀(p:Value×List D),p∈atE l→like (Value.int IntKind.i64 k) p.1=true:=by
 intro p hp
 obtain⟨x,_,rfl⟩:=yTk.1 hp
 rfl
theorem tN (k:Int):∀l:List (Int×Place),j8 (Value.int IntKind.i64 k) (atE l)=(pget l k).map zYq
 |[]=>rfl
 |(a,v)::l=>by
  have ih:=tN k l
  show(bif (keq .i64 .i64 && decide (k=a))then _ else j8 _ (atE l))=_
  by_cases h:k=a
  ·subst h;simp[pget,keq]
  ·have h':¬a=k:=fun e=>h e.symm
   rw[show(keq .i64 .i64 && decide (k=a))=false by simp[h],cond_false,ih]
   simp[pget,yYl,h']
def zEo:Place:=⟨0,0,0⟩
theorem zOc (l:List (Int×Place)) (k:Int):j8 (Value.int IntKind.i64 k) (atE l)=some [D.v (.int .i64 ((pget l k).getD zEo).side),D.v (.int .i64 ((pget l k).getD zEo).price),D.v (.int .i64 ((pget l k).getD zEo).slot)]∧(pget l k).isSome=true∨j8 (Value.int IntKind.i64 k) (atE l)=none∧[D.v (.int .i64 ((pget l k).getD zEo).side),D.v (.int .i64 ((pget l k).getD zEo).price),D.v (.int .i64 ((pget l k).getD zEo).slot)]=[D.v (.int .i64 0),D.v (.int .i64 0),D.v (.int .i64 0)]∧(pget l k).isSome=false:=by
 rw[tN]
 cases pget l k with
 |none=>exact .inr ⟨rfl,rfl,rfl⟩
 |some v=>exact .inl ⟨rfl,rfl⟩
theorem zRs (k:Int) (v:Place):∀l,jL (Value.int IntKind.i64 k) (zYq v) (atE l)=atE (pL k v l)
 |[]=>rfl
 |(a,b)::l=>by
  have ih:=zRs k v l
  show(bif (keq .i64 .i64 && decide (k=a))then _ else _::jL _ _ (atE l))=_
  rw[ih,pL]
  by_cases h:k=a
  ·subst h;simp[keq,atE]
  ·simp[h,atE]
theorem yJl (i:LdI) (h:lead1C.cnd i):yDf i:=by
 obtain⟨⟨ha,_⟩,h1,h2,_⟩:i.b.small:=h
 unfold yDf lA zAa pN dA dI
 have no (e:i.b.untop 1=i.b.a):AObj.adt Arena 3 zG (i.b.untop 1)=zT i.b 1:=by rw[e];rfl
 refine Cv.cnd.mk (fun c=> ?_) (fun c=>⟨(),?_⟩)
 ·have c:i.b.hasF 1=true:=c
  refine⟨jS _ _,(pget i.b.at_ i.b.top1).isSome,_,_,_,zOc _ _,⟨jS _ _,(pget i.b.at_ i.b.top1).isSome,_,_,_,zOc _ _,⟨rfl,rfl,rfl,trivial⟩,rfl,trivial⟩,rfl,trivial,Cv.cnd.mk (fun d=>Cv.cnd.mk (fun e=> ?_) (fun e=>⟨(),?_⟩)) (fun d=>⟨(),?_⟩)⟩
  ·obtain⟨o,ho⟩:=yXk.1 d
   have e:o.side=1:=by rw[ho]at e;simpa using e
   have eu:i.b.untop 1=i.b.a.topF o.slot false:=by
    have ht:pget i.b.at_ (i.b.topI 1)=some o:=ho
    rw[Book.untop,ySk c,ht];dsimp only;rw[ySk e]
   refine⟨⟨i.b.a,o.slot,false⟩,by rw[ho];rfl,rfl,rfl,ha,fun _ _=>⟨(),?_⟩⟩
   rw[eu];(repeat'(first|exact trivial|exact rfl|apply And.intro))
  ·obtain⟨o,ho⟩:=yXk.1 d
   have e:¬o.side=1:=by rw[ho]at e;simpa using e
   have ht:pget i.b.at_ (i.b.topI 1)=some o:=ho
   rw[no (by rw[Book.untop,ySk c,ht];dsimp only;rw[ySj e])];(repeat'(first|exact trivial|exact rfl|apply And.intro))
  ·have ht:pget i.b.at_ (i.b.topI 1)=none:=by
    show pget i.b.at_ i.b.top1=none
    simpa using d
   rw[no (by rw[Book.untop,ySk c,ht])];(repeat'(first|exact trivial|exact rfl|apply And.intro))
 ·have c:¬i.b.hasF 1=true:=by rw[show i.b.hasF 1=i.b.has1 from rfl,c];decide
  rw[no (by rw[Book.untop,ySj c])];(repeat'(first|exact trivial|exact rfl|apply And.intro))
theorem z7r:lead1C.ok Tryz.prog 135:=okw mixed (gokc z1w gok0) 0 (fun _=>[]) (fun _=>[]) [] Tryz.func135 yJl
theorem zWl {s price:Int} {l:List xM} (h:kR s l price=true):∃r,l[zY s l price]? =some r:=by
 rw[kR]at h
 split at h
 ·rename_i r hr;exact⟨r,hr⟩
 ·cases h
theorem yFv (i:BkP) (h:queue1C.cnd i):z3h i:=by
 obtain⟨⟨ha,_⟩,ha',h1,h2,h3⟩:i.b.fit:=h
 have hle:=zBn 1 i.price i.b.buys
 unfold z3h zM gY gN aL aR vW gS vS qD xW dI
 refine⟨i,rfl,rfl,rfl,rfl,rfl,rfl,rfl,rfl,rfl,rfl,rfl,⟨⟨ha,by omega⟩,by omega,by omega,by omega⟩,fun _ _=> ?_⟩
 simp only[ySm,yX,p8]
 refine Cv.cnd.mk (fun c=> ?_) (fun c=> ?_)
 ·obtain⟨r,hr⟩:=zWl c
  have hlt:=(ySl.1 hr).1
  have e:i.b.queueF 1 i.price=(i.b,r.queue):=by rw[Book.queueF,ySk (by rw[p8];exact c),p8,zH hr]
  rw[e]
  refine⟨⟨by omega,by omega⟩,r.queue,elA (by simpa using hr) (by simp[zC]) rfl,(),?_⟩
  (repeat'(first|exact trivial|exact rfl|apply And.intro))
 ·have e:i.b.queueF 1 i.price=({i.b with a:=i.b.newQ.2.2,buys:=i.b.ins 1 i.price,spare:=i.b.newQ.2.1},i.b.newQ.1):=by
   rw[Book.queueF,ySj (by rw[p8,c];decide),ySk rfl]
  have hins:List.map zC (i.b.ins 1 i.price)=List.take (zY 1 i.b.buys i.price) (List.map zC i.b.buys)++zC ⟨i.price,i.b.newQ.1⟩::List.drop (zY 1 i.b.buys i.price) (List.map zC i.b.buys):=by
   rw[Book.ins,p8,ySv,ySs,yWu,yYc]
  rw[e]
  refine zL (fun d=> ?_) (fun d=> ?_)
  ·have w:IntKind.i64.wrap ((i.b.spare.length:Int)-1)=((i.b.spare.length-1:Nat):Int):=by rw[w64 (by omega)];omega
   rw[w]
   simp only[ySy]
   obtain⟨q,hq⟩:=z9 (l:=i.b.spare) (i:=i.b.spare.length-1) (by omega)
   have eq:i.b.newQ=(q,i.b.spare.take (i.b.spare.length-1),i.b.a):=by rw[Book.newQ,ySj (by omega),zH hq]
   rw[eq]at hins ⊢
   refine⟨⟨by omega,by omega⟩,q,elI hq,⟨by omega,by omega⟩,trivial,⟨i.b.buys.map zC,zC ⟨i.price,q⟩,zY 1 i.b.buys i.price⟩,rfl,rfl,rfl,⟨by rw[ySm];exact hle,by rw[ySm];omega⟩,fun _ _=>⟨(),?_⟩⟩
   have hs:iE (i.b.spare.take (i.b.spare.length-1))=(iE i.b.spare).take (i.b.spare.length-1):=by simp only[iE,yWu]
   (repeat'(first|exact rfl|exact trivial|assumption|apply And.intro|refine fun(_:Unit) (_:True)=>?_|refine Exists.intro () ?_|omega|(dsimp only;omega)))
  ·have eq:i.b.newQ=((i.b.a.queues.length:Int),i.b.spare,i.b.a.openQ):=by rw[Book.newQ,ySk (by omega)]
   rw[eq]at hins ⊢
   refine⟨i.b.a,rfl,by omega,fun _ _=>⟨trivial,⟨i.b.buys.map zC,zC ⟨i.price,i.b.a.queues.length⟩,zY 1 i.b.buys i.price⟩,rfl,rfl,rfl,⟨by rw[ySm];exact hle,by rw[ySm];omega⟩,fun _ _=>⟨(),?_⟩⟩⟩
   (repeat'(first|exact rfl|exact trivial|assumption|apply And.intro|refine fun(_:Unit) (_:True)=>?_|refine Exists.intro () ?_|omega|(dsimp only;omega)))
theorem zDl:uT Tryz.prog 139=some (147,2,16,#[.int .i64 0,.int .i64 0]):=by kernel_rfl
theorem z2o:insRC.ok Tryz.prog 148:=
 insX_ok (tS:=139) (tI:=3) (fO:=152) (fR:=153) (z:= #[.int .i64 0,.int .i64 0]) mixed Tryz.func148 rfl (by kernel_rfl) (by kernel_rfl) (by kernel_rfl) (by kernel_rfl) zDl rfl (by decide) (by decide) (by kernel_rfl) Tryz.underlying3
  (yFg (tS:=139) (tB:=4) Tryz.func152 (by kernel_rfl) (by kernel_rfl) (by kernel_rfl) (by kernel_rfl) zDl) (fun s sn sk i v vn vk w R=>by kernel_rfl)
theorem z6t:queue1C.ok Tryz.prog 137:=okw mixed (gokc zMd (gokc zWe (gokc z2o gok0))) 0 (fun _=>[]) (fun _=>[]) [] Tryz.func137 yFv
theorem yMb (i:BkP) (h:find2C.cnd i):z9r i:=by
 obtain⟨_,h1,h2,_⟩:i.b.small:=h
 unfold z9r zDt nH vP lI xY fV pE dI
 simp only[ySm,nT]
 refine⟨0,rfl,fun j=>j≤i.b.sells.length∧∀k<j,∀r,i.b.sells[k]? =some r→btr 2 r.price i.price=true,fun j=>i.b.sells.length-j,⟨by omega,fun k hk=>by omega⟩,?_⟩
 rintro j ⟨h3,h4⟩
 refine zL (fun hj=> ?_) (fun hj=> ?_)
 ·obtain⟨r,hr⟩:=z9 (l:=i.b.sells) (i:=j) (by omega)
  refine⟨⟨by omega,by omega⟩,r.price,elA hr (by simp[zC]) rfl,⟨2,r.price,i.price⟩,rfl,rfl,rfl,trivial,fun _ _=> ?_⟩
  dsimp only
  refine Cv.cnd.mk (fun e=>⟨j+1,by rw[w64 (by omega)];rfl,⟨by omega,fun k hk x hx=> ?_⟩,by(first|omega|(dsimp only;omega)),by(repeat'(first|exact trivial|exact rfl|apply And.intro))⟩) (fun e=>zL (fun _=> ?_) (fun c=>absurd hj c))
  ·rcases yUu k j with hk'|hk'
   ·exact h4 k hk' x hx
   ·obtain rfl:k=j:=by omega
    rw[hr]at hx;cases hx;exact e
  ·have en:zY 2 i.b.sells i.price=j:=mN h3 h4 fun x hx=>by rw[hr]at hx;cases hx;exact e
   have eb:kR 2 i.b.sells i.price=(r.price==i.price):=by rw[kR,en,hr];exact(zMp _ _).symm
   refine⟨⟨by omega,by omega⟩,r.price,elA hr (by simp[zC]) rfl,(),by rw[en],eb,?_⟩
   (repeat'(first|exact trivial|exact rfl|apply And.intro))
 ·have en:zY 2 i.b.sells i.price=j:=mN h3 h4 fun x hx=>by have:=(ySl.1 hx).1;omega
  have eb:kR 2 i.b.sells i.price=false:=by rw[kR,en,yTh (by omega)]
  refine zL (fun c=>absurd c hj) (fun _=>⟨(),by rw[en],eb,?_⟩)
  (repeat'(first|exact trivial|exact rfl|apply And.intro))
theorem zNa:find2C.ok Tryz.prog 126:=okw mixed (gokc bT gok0) 0 (fun _=>[]) (fun _=>yIn) [] Tryz.func126 yMb
theorem yMs (i:LdI) (h:lead2C.cnd i):yCu i:=by
 obtain⟨⟨ha,_⟩,h1,h2,_⟩:i.b.small:=h
 unfold yCu zAn lU pR dA dI
 have no (e:i.b.untop 2=i.b.a):AObj.adt Arena 3 zG (i.b.untop 2)=zT i.b 1:=by rw[e];rfl
 refine Cv.cnd.mk (fun c=> ?_) (fun c=>⟨(),?_⟩)
 ·have c:i.b.hasF 2=true:=c
  refine⟨jS _ _,(pget i.b.at_ i.b.top2).isSome,_,_,_,zOc _ _,⟨jS _ _,(pget i.b.at_ i.b.top2).isSome,_,_,_,zOc _ _,⟨rfl,rfl,rfl,trivial⟩,rfl,trivial⟩,rfl,trivial,Cv.cnd.mk (fun d=>Cv.cnd.mk (fun e=> ?_) (fun e=>⟨(),?_⟩)) (fun d=>⟨(),?_⟩)⟩
  ·obtain⟨o,ho⟩:=yXk.1 d
   have e:o.side=2:=by rw[ho]at e;simpa using e
   have eu:i.b.untop 2=i.b.a.topF o.slot false:=by
    have ht:pget i.b.at_ (i.b.topI 2)=some o:=ho
    rw[Book.untop,ySk c,ht];dsimp only;rw[ySk e]
   refine⟨⟨i.b.a,o.slot,false⟩,by rw[ho];rfl,rfl,rfl,ha,fun _ _=>⟨(),?_⟩⟩
   rw[eu];(repeat'(first|exact trivial|exact rfl|apply And.intro))
  ·obtain⟨o,ho⟩:=yXk.1 d
   have e:¬o.side=2:=by rw[ho]at e;simpa using e
   have ht:pget i.b.at_ (i.b.topI 2)=some o:=ho
   rw[no (by rw[Book.untop,ySk c,ht];dsimp only;rw[ySj e])];(repeat'(first|exact trivial|exact rfl|apply And.intro))
  ·have ht:pget i.b.at_ (i.b.topI 2)=none:=by
    show pget i.b.at_ i.b.top2=none
    simpa using d
   rw[no (by rw[Book.untop,ySk c,ht])];(repeat'(first|exact trivial|exact rfl|apply And.intro))
 ·have c:¬i.b.hasF 2=true:=by rw[show i.b.hasF 2=i.b.has2 from rfl,c];decide
  rw[no (by rw[Book.untop,ySj c])];(repeat'(first|exact trivial|exact rfl|apply And.intro))
theorem z7e:lead2C.ok Tryz.prog 135:=okw mixed (gokc z1w gok0) 0 (fun _=>[]) (fun _=>[]) [] Tryz.func135 yMs
theorem yEt (i:BkP) (h:queue2C.cnd i):z3i i:=by
 obtain⟨⟨ha,_⟩,ha',h1,h2,h3⟩:i.b.fit:=h
 have hle:=zBn 2 i.price i.b.sells
 unfold z3i zN gP vP gY gN aL aR vW qD xY dI
 refine⟨i,rfl,rfl,rfl,rfl,rfl,rfl,rfl,rfl,rfl,rfl,rfl,⟨⟨ha,by omega⟩,by omega,by omega,by omega⟩,fun _ _=> ?_⟩
 simp only[ySm,yX,nT]
 refine Cv.cnd.mk (fun c=> ?_) (fun c=> ?_)
 ·obtain⟨r,hr⟩:=zWl c
  have hlt:=(ySl.1 hr).1
  have e:i.b.queueF 2 i.price=(i.b,r.queue):=by rw[Book.queueF,ySk (by rw[nT];exact c),nT,zH hr]
  rw[e]
  refine⟨⟨by omega,by omega⟩,r.queue,elA (by simpa using hr) (by simp[zC]) rfl,(),?_⟩
  (repeat'(first|exact trivial|exact rfl|apply And.intro))
 ·have e:i.b.queueF 2 i.price=({i.b with a:=i.b.newQ.2.2,sells:=i.b.ins 2 i.price,spare:=i.b.newQ.2.1},i.b.newQ.1):=by
   rw[Book.queueF,ySj (by rw[nT,c];decide),ySj (by decide)]
  have hins:List.map zC (i.b.ins 2 i.price)=List.take (zY 2 i.b.sells i.price) (List.map zC i.b.sells)++zC ⟨i.price,i.b.newQ.1⟩::List.drop (zY 2 i.b.sells i.price) (List.map zC i.b.sells):=by
   rw[Book.ins,nT,ySv,ySs,yWu,yYc]
  rw[e]
  refine zL (fun d=> ?_) (fun d=> ?_)
  ·have w:IntKind.i64.wrap ((i.b.spare.length:Int)-1)=((i.b.spare.length-1:Nat):Int):=by rw[w64 (by omega)];omega
   rw[w]
   simp only[ySy]
   obtain⟨q,hq⟩:=z9 (l:=i.b.spare) (i:=i.b.spare.length-1) (by omega)
   have eq:i.b.newQ=(q,i.b.spare.take (i.b.spare.length-1),i.b.a):=by rw[Book.newQ,ySj (by omega),zH hq]
   rw[eq]at hins ⊢
   refine⟨⟨by omega,by omega⟩,q,elI hq,⟨by omega,by omega⟩,trivial,⟨i.b.sells.map zC,zC ⟨i.price,q⟩,zY 2 i.b.sells i.price⟩,rfl,rfl,rfl,⟨by rw[ySm];exact hle,by rw[ySm];omega⟩,fun _ _=>⟨(),?_⟩⟩
   have hs:iE (i.b.spare.take (i.b.spare.length-1))=(iE i.b.spare).take (i.b.spare.length-1):=by simp only[iE,yWu]
   (repeat'(first|exact rfl|exact trivial|assumption|apply And.intro|refine fun(_:Unit) (_:True)=>?_|refine Exists.intro () ?_|omega|(dsimp only;omega)))
  ·have eq:i.b.newQ=((i.b.a.queues.length:Int),i.b.spare,i.b.a.openQ):=by rw[Book.newQ,ySk (by omega)]
   rw[eq]at hins ⊢
   refine⟨i.b.a,rfl,by omega,fun _ _=>⟨trivial,⟨i.b.sells.map zC,zC ⟨i.price,i.b.a.queues.length⟩,zY 2 i.b.sells i.price⟩,rfl,rfl,rfl,⟨by rw[ySm];exact hle,by rw[ySm];omega⟩,fun _ _=>⟨(),?_⟩⟩⟩
   (repeat'(first|exact rfl|exact trivial|assumption|apply And.intro|refine fun(_:Unit) (_:True)=>?_|refine Exists.intro () ?_|omega|(dsimp only;omega)))
theorem z4p:queue2C.ok Tryz.prog 137:=okw mixed (gokc zNa (gokc zWe (gokc z2o gok0))) 0 (fun _=>[]) (fun _=>[]) [] Tryz.func137 yEt
open Go Cv Go.Proofs
structure BaI where
 b:Book
 id:Int
 price:Int
 qty:Int
def Book.leads (b:Book) (s price:Int):Bool:=match b.rungs s with
 |[]=>true
 |r::_=>btr s price r.price
def Book.led (b:Book) (id s price:Int):Book:=if b.leads s price=true then b.leadF id s else b
def Book.stand (b:Book) (s id price qty:Int):Book:=
 let b2:=(b.led id s price).queueF s price
 let x:=b2.1.a.push b2.2 id qty (b.leads s price)
 {b2.1 with a:=x.1,at_:=pL id ⟨s,price,x.2.1⟩ b2.1.at_}
def Book.addF (b:Book) (s id price qty:Int):Book×Int:=
 if qty<1∨1000000<qty then(b,24)else if(pget b.at_ id).isSome=true then(b,25)else if 250≤b.at_.length then(b,13)else(b.stand s id price qty,0)
def z8h (s:Int):Con:=con1 BaI (fun i=>[.nm 0 0,zA i.id,zA s,zA i.price,zA i.qty]) (fun i=>[yD i.b]) (fun i=>i.b.fit) (fun i=>zA (i.b.addF s i.id i.price i.qty).2) (fun i=>[yD (i.b.addF s i.id i.price i.qty).1])
def yJd:List (Nat×SAnn):=[(44,bj 14)]
def badd1C:Con:=z8h 1
def badd2C:Con:=z8h 2
structure BaJ where
 i:BaI
 s:Bool
def baddC:Con:=con1 BaJ (fun j=>[.nm 0 0,zA j.i.id,zA (zB j.s),zA j.i.price,zA j.i.qty]) (fun j=>[yD j.i.b]) (fun j=>j.i.b.fit) (fun j=>zA (j.i.b.addF (zB j.s) j.i.id j.i.price j.i.qty).2) (fun j=>[yD (j.i.b.addF (zB j.s) j.i.id j.i.price j.i.qty).1])
structure SaI where
 s:MSt
 inst:Int
 id:Int
 sd:Bool
 price:Int
 qty:Int
def MSt.bookAt (s:MSt) (n:Int):Book:=s.books.getD n.toNat book0
def MSt.addF (i:SaI):MSt×Int:=
 if i.inst<0∨i.s.books.length≤i.inst then(i.s,20)else if(qK i.s.wh i.id).isSome=true then(i.s,25)else if 250≤i.s.wh.length then(i.s,13)else if i.s.p.price i.inst i.price≠0 then(i.s,i.s.p.price i.inst i.price)
 else
  let x:=(i.s.bookAt i.inst).addF (zB i.sd) i.id i.price i.qty
  ({i.s with books:=i.s.books.set i.inst.toNat x.1,wh:=if x.2=0 then fA i.id i.inst i.s.wh else i.s.wh},x.2)
@[reducible] def MSt.fit (s:MSt):Prop:=s.p.small∧s.books.length≤1000000∧∀b∈s.books,b.fit
def saddC:Con:=con1 SaI (fun i=>[.nm 0 0,zA i.inst,zA i.id,zA (zB i.sd),zA i.price,zA i.qty]) (fun i=>[zE i.s]) (fun i=>i.s.fit) (fun i=>zA (MSt.addF i).2) (fun i=>[zE (MSt.addF i).1])
open Go Cv Go.Proofs
def nQ (a:BkP):Prop:=(a.b.a.slots.length≤1000000∧(a.b.a.free≠0→∃(b:Slot),b∈a.b.a.slots∧b.used=false)∧∀(b:fF),b∈a.b.a.queues→b.last=(-1)∨0≤b.last∧b.last<(↑a.b.a.slots.length:Int))∧a.b.a.queues.length≤100000∧a.b.buys.length≤100000∧a.b.sells.length≤100000∧a.b.spare.length≤100000
def nW (a:PuI):Prop:=a.a.slots.length≤1000000∧(a.a.free≠0→∃(b:Slot),b∈a.a.slots∧b.used=false)∧∀(b:fF),b∈a.a.queues→b.last=(-1)∨0≤b.last∧b.last<(↑a.a.slots.length:Int)
def yR (a:BaI):=(a.b.addF 1 a.id a.price a.qty)
def zEq (a:BkP) (b:BaI) (c:Bool):Prop:=(nQ a)∧∀(d:Unit),True→True∧∃(e:PuI),e.n=(zM a).snd∧e.id=b.id∧e.qty=b.qty∧e.top=c∧AObj.adt Arena 3 zG e.a=AObj.adt Arena 3 zG (zM a).fst.a∧(nW e)∧∀(f:Unit),True→(∀(g:Value×List D),g∈atE (zM a).fst.at_→like (Value.int IntKind.i64 b.id) g.fst=true)∧∃(g:Unit),(yR b).snd=0∧(yR b).fst.top1=(zM a).fst.top1∧(yR b).fst.top2=(zM a).fst.top2∧(yR b).fst.has1=(zM a).fst.has1∧(yR b).fst.has2=(zM a).fst.has2∧AObj.adt Arena 3 zG (yR b).fst.a=AObj.adt Arena 3 zG (yL e).fst∧List.map zC (yR b).fst.buys=List.map zC (zM a).fst.buys∧List.map zC (yR b).fst.sells=List.map zC (zM a).fst.sells∧atE (yR b).fst.at_=jL (Value.int IntKind.i64 b.id) [dI 1,dI b.price,dI ((yL e).snd.fst)] (atE (zM a).fst.at_)∧iE (yR b).fst.spare=iE (zM a).fst.spare∧True
def eC (a:Bool→Prop) (b:Bool) (c:Int) (d:Int) (e:Int) (f:BaI):Prop:=a b∧Sx.AObj.cells [V.d (dI c),V.d (dI d),V.d (dI e)] 165=Sx.AObj.cells [V.d (dI c),V.d (dI d),V.d (dI e)] 165∧Sx.AObj.cells (gC (jB 0 1 6) [V.nm 1 0,V.own 2,V.own 3,V.mp 4,zA f.b.top1,zA f.b.top2,V.own 5,yP f.b.has1,yP f.b.has2]) (144:TypeId)=Sx.AObj.cells (gC (jB 0 1 6) [V.nm 1 0,V.own 2,V.own 3,V.mp 4,zA f.b.top1,zA f.b.top2,V.own 5,yP f.b.has1,yP f.b.has2]) (144:TypeId)∧AObj.adt Arena 3 zG f.b.a=AObj.adt Arena 3 zG f.b.a∧AObj.own 147 2 (List.map zC f.b.buys)=AObj.own 147 2 (List.map zC f.b.buys)∧AObj.own 147 2 (List.map zC f.b.sells)=AObj.own 147 2 (List.map zC f.b.sells)∧Sx.AObj.map (atE f.b.at_)=Sx.AObj.map (atE f.b.at_)∧AObj.own 3 1 (iE f.b.spare)=AObj.own 3 1 (iE f.b.spare)
def tX (a:I3') (b:BaI) (c:Int) (d:Bool→Prop) (e:Int) (f:Int) (g:Int):Prop:=a.x=b.price∧a.y=c∧True∧∀(h:Unit),True→∃(j:Bool),j=btr a.side a.x a.y∧eC d j e f g b
def tP (a:Bool→Prop) (b:Int) (c:Int) (d:Int) (e:BaI):Prop:=∃(f:Bool),f=true∧eC a f b c d e
def a8 (a:BaI):Prop:=(yR a).fst.top1=a.b.top1∧(yR a).fst.top2=a.b.top2∧(yR a).fst.has1=a.b.has1∧(yR a).fst.has2=a.b.has2∧AObj.adt Arena 3 zG (yR a).fst.a=AObj.adt Arena 3 zG a.b.a∧List.map zC (yR a).fst.buys=List.map zC a.b.buys∧List.map zC (yR a).fst.sells=List.map zC a.b.sells∧atE (yR a).fst.at_=atE a.b.at_∧iE (yR a).fst.spare=iE a.b.spare∧True
def zFw (a:BaI):Prop:=∃(b:Unit),(yR a).snd=24∧a8 a
def nB (a:BaI) (b:Int) (c:Int) (d:Int) (e:Bool):Prop:=j8 (Value.int IntKind.i64 a.id) (atE a.b.at_)=some [dI b,dI c,dI d]∧e=true∨j8 (Value.int IntKind.i64 a.id) (atE a.b.at_)=none∧[dI b,dI c,dI d]=[dI 0,dI 0,dI 0]∧e=false
def pA (a:LdI):Prop:=(a.b.a.slots.length≤1000000∧a.b.a.queues.length≤1000000)∧a.b.buys.length≤1000000∧a.b.sells.length≤1000000∧a.b.spare.length≤1000000
def yAe (i:BaI):Prop:=
 (∀(a:Value×List D),a∈atE i.b.at_→like (Value.int IntKind.i64 i.id) a.fst=true)∧∃(a:Bool),∃(b:Int),∃(c:Int),∃(d:Int),(nB i b c d a)∧∃(e:Int),e=1∧True∧∀(f:Unit),True→cnd (!(vJ e)) (∃(g:Unit),(yR i).snd=21∧a8 i) (cnd (decide (i.qty<1)) (zFw i) (cnd (decide (i.qty>1000000)) (zFw i) (cnd a (∃(g:Unit),(yR i).snd=25∧a8 i) (cnd (decide ((↑(atE i.b.at_).length:Int)≥250)) (∃(g:Unit),(yR i).snd=13∧a8 i) (∃(g:Bool),∃(h:Bool→Prop),cnd ((↑(List.map zC i.b.buys).length:Int)==0) (tP h b c d i) (((0:Int)≤(0:Int)∧0<(↑(List.map zC i.b.buys).length:Int))∧∃(j:Int),zF (List.map zC i.b.buys) (Int.toNat 0) ((0:Nat)+(0:Nat)) 1=some [dI j]∧∃(k:I3'),k.side=1∧tX k i j h b c d)∧∀(j:Bool),h j→cnd j (∃(k:LdI),k.id=i.id∧(1:Int)=(1:Int)∧k.b.top1=i.b.top1∧k.b.top2=i.b.top2∧k.b.has1=i.b.has1∧k.b.has2=i.b.has2∧AObj.adt Arena 3 zG k.b.a=AObj.adt Arena 3 zG i.b.a∧List.map zC k.b.buys=List.map zC i.b.buys∧List.map zC k.b.sells=List.map zC i.b.sells∧atE k.b.at_=atE i.b.at_∧iE k.b.spare=iE i.b.spare∧(pA k)∧∀(l:Unit),True→∃(m:BkP),(1:Int)=(1:Int)∧m.price=i.price∧m.b.top1=k.id∧m.b.top2=k.b.top2∧m.b.has1=true∧m.b.has2=k.b.has2∧AObj.adt Arena 3 zG m.b.a=AObj.adt Arena 3 zG (k.b.untop 1)∧List.map zC m.b.buys=List.map zC k.b.buys∧List.map zC m.b.sells=List.map zC k.b.sells∧atE m.b.at_=atE k.b.at_∧iE m.b.spare=iE k.b.spare∧zEq m i j) (∃(k:BkP),(1:Int)=(1:Int)∧k.price=i.price∧k.b.top1=i.b.top1∧k.b.top2=i.b.top2∧k.b.has1=i.b.has1∧k.b.has2=i.b.has2∧AObj.adt Arena 3 zG k.b.a=AObj.adt Arena 3 zG i.b.a∧List.map zC k.b.buys=List.map zC i.b.buys∧List.map zC k.b.sells=List.map zC i.b.sells∧atE k.b.at_=atE i.b.at_∧iE k.b.spare=iE i.b.spare∧zEq k i j))))))
def yQ (a:BaI):=(a.b.addF 2 a.id a.price a.qty)
def zDs (a:BkP) (b:BaI) (c:Bool):Prop:=(nQ a)∧∀(d:Unit),True→True∧∃(e:PuI),e.n=(zN a).snd∧e.id=b.id∧e.qty=b.qty∧e.top=c∧AObj.adt Arena 3 zG e.a=AObj.adt Arena 3 zG (zN a).fst.a∧(nW e)∧∀(f:Unit),True→(∀(g:Value×List D),g∈atE (zN a).fst.at_→like (Value.int IntKind.i64 b.id) g.fst=true)∧∃(g:Unit),(yQ b).snd=0∧(yQ b).fst.top1=(zN a).fst.top1∧(yQ b).fst.top2=(zN a).fst.top2∧(yQ b).fst.has1=(zN a).fst.has1∧(yQ b).fst.has2=(zN a).fst.has2∧AObj.adt Arena 3 zG (yQ b).fst.a=AObj.adt Arena 3 zG (yL e).fst∧List.map zC (yQ b).fst.buys=List.map zC (zN a).fst.buys∧List.map zC (yQ b).fst.sells=List.map zC (zN a).fst.sells∧atE (yQ b).fst.at_=jL (Value.int IntKind.i64 b.id) [dI 2,dI b.price,dI ((yL e).snd.fst)] (atE (zN a).fst.at_)∧iE (yQ b).fst.spare=iE (zN a).fst.spare∧True
def mD (a:BaI):Prop:=(yQ a).fst.top1=a.b.top1∧(yQ a).fst.top2=a.b.top2∧(yQ a).fst.has1=a.b.has1∧(yQ a).fst.has2=a.b.has2∧AObj.adt Arena 3 zG (yQ a).fst.a=AObj.adt Arena 3 zG a.b.a∧List.map zC (yQ a).fst.buys=List.map zC a.b.buys∧List.map zC (yQ a).fst.sells=List.map zC a.b.sells∧atE (yQ a).fst.at_=atE a.b.at_∧iE (yQ a).fst.spare=iE a.b.spare∧True
def zDw (a:BaI):Prop:=∃(b:Unit),(yQ a).snd=24∧mD a
def z9o (i:BaI):Prop:=
 (∀(a:Value×List D),a∈atE i.b.at_→like (Value.int IntKind.i64 i.id) a.fst=true)∧∃(a:Bool),∃(b:Int),∃(c:Int),∃(d:Int),(nB i b c d a)∧∃(e:Int),e=2∧True∧∀(f:Unit),True→cnd (!(vJ e)) (∃(g:Unit),(yQ i).snd=21∧mD i) (cnd (decide (i.qty<1)) (zDw i) (cnd (decide (i.qty>1000000)) (zDw i) (cnd a (∃(g:Unit),(yQ i).snd=25∧mD i) (cnd (decide ((↑(atE i.b.at_).length:Int)≥250)) (∃(g:Unit),(yQ i).snd=13∧mD i) (∃(g:Bool),∃(h:Bool→Prop),cnd ((↑(List.map zC i.b.sells).length:Int)==0) (tP h b c d i) (((0:Int)≤(0:Int)∧0<(↑(List.map zC i.b.sells).length:Int))∧∃(j:Int),zF (List.map zC i.b.sells) (Int.toNat 0) ((0:Nat)+(0:Nat)) 1=some [dI j]∧∃(k:I3'),k.side=2∧tX k i j h b c d)∧∀(j:Bool),h j→cnd j (∃(k:LdI),k.id=i.id∧(2:Int)=(2:Int)∧k.b.top1=i.b.top1∧k.b.top2=i.b.top2∧k.b.has1=i.b.has1∧k.b.has2=i.b.has2∧AObj.adt Arena 3 zG k.b.a=AObj.adt Arena 3 zG i.b.a∧List.map zC k.b.buys=List.map zC i.b.buys∧List.map zC k.b.sells=List.map zC i.b.sells∧atE k.b.at_=atE i.b.at_∧iE k.b.spare=iE i.b.spare∧(pA k)∧∀(l:Unit),True→∃(m:BkP),(2:Int)=(2:Int)∧m.price=i.price∧m.b.top1=k.b.top1∧m.b.top2=k.id∧m.b.has1=k.b.has1∧m.b.has2=true∧AObj.adt Arena 3 zG m.b.a=AObj.adt Arena 3 zG (k.b.untop 2)∧List.map zC m.b.buys=List.map zC k.b.buys∧List.map zC m.b.sells=List.map zC k.b.sells∧atE m.b.at_=atE k.b.at_∧iE m.b.spare=iE k.b.spare∧zDs m i j) (∃(k:BkP),(2:Int)=(2:Int)∧k.price=i.price∧k.b.top1=i.b.top1∧k.b.top2=i.b.top2∧k.b.has1=i.b.has1∧k.b.has2=i.b.has2∧AObj.adt Arena 3 zG k.b.a=AObj.adt Arena 3 zG i.b.a∧List.map zC k.b.buys=List.map zC i.b.buys∧List.map zC k.b.sells=List.map zC i.b.sells∧atE k.b.at_=atE i.b.at_∧iE k.b.spare=iE i.b.spare∧zDs k i j))))))
def zEh (a:SaI):Prop:=AObj.fro 1 (iE (MSt.addF a).fst.p.months)=AObj.fro 1 (iE a.s.p.months)∧AObj.fro 1 (iE (MSt.addF a).fst.p.settle)=AObj.fro 1 (iE a.s.p.settle)∧True
def zFs (a:SaI):Prop:=zV (MSt.addF a).fst.wh=zV a.s.wh∧zEh a
def rM (a:SaI):Prop:=sb (MSt.addF a).fst.p.code=sb a.s.p.code∧(MSt.addF a).fst.p.tick=a.s.p.tick∧(MSt.addF a).fst.p.low=a.s.p.low∧(MSt.addF a).fst.p.high=a.s.p.high∧(MSt.addF a).fst.p.wide=a.s.p.wide∧(MSt.addF a).fst.p.rule=a.s.p.rule∧(MSt.addF a).fst.p.top=a.s.p.top∧(MSt.addF a).fst.p.least=a.s.p.least∧(MSt.addF a).fst.p.part=a.s.p.part∧AObj.objs 102 Book 6 zT (MSt.addF a).fst.books none=AObj.objs 102 Book 6 zT a.s.books none∧zFs a
def zLf (a:SaI):Prop:=∃(b:Unit),(MSt.addF a).snd=20∧rM a
def mY (a:BaJ):=(a.i.b.addF (zB a.s) a.i.id a.i.price a.i.qty)
def yJc (i:SaI):Prop:=
 (∀(a:Value×List D),a∈zV i.s.wh→like (Value.int IntKind.i64 i.id) a.fst=true)∧∃(a:Bool),∃(b:Int),(j8 (Value.int IntKind.i64 i.id) (zV i.s.wh)=some [dI b]∧a=true∨j8 (Value.int IntKind.i64 i.id) (zV i.s.wh)=none∧[dI b]=[dI 0]∧a=false)∧cnd (decide (i.inst≥0)) (cnd (!decide (i.inst<(↑i.s.books.length:Int))) (zLf i) (cnd a (∃(c:Unit),(MSt.addF i).snd=25∧rM i) (cnd (decide ((↑(zV i.s.wh).length:Int)≥250)) (∃(c:Unit),(MSt.addF i).snd=13∧rM i) (∃(c:rC),sb c.p.code=sb i.s.p.code∧iE c.p.months=iE i.s.p.months∧c.p.tick=i.s.p.tick∧c.p.low=i.s.p.low∧c.p.high=i.s.p.high∧c.p.wide=i.s.p.wide∧c.p.rule=i.s.p.rule∧c.p.top=i.s.p.top∧c.p.least=i.s.p.least∧c.p.part=i.s.p.part∧iE c.p.settle=iE i.s.p.settle∧c.a=i.inst∧c.b=i.price∧(x9 c)∧∀(d:Unit),True→cnd (c.p.price c.a c.b !=0) (∃(e:Unit),(MSt.addF i).snd=c.p.price c.a c.b∧rM i) ((0≤i.inst∧i.inst<(↑i.s.books.length:Int))∧i.inst.toNat<i.s.books.length∧∃(e:Book),i.s.books[i.inst.toNat]?=some e∧∃(f:BaJ),f.i.id=i.id∧zB f.s=zB i.sd∧f.i.price=i.price∧f.i.qty=i.qty∧yD f.i.b=yD e∧((f.i.b.a.slots.length≤1000000∧(f.i.b.a.free≠0→∃(g:Slot),g∈f.i.b.a.slots∧g.used=false)∧∀(g:fF),g∈f.i.b.a.queues→g.last=(-1)∨0≤g.last∧g.last<(↑f.i.b.a.slots.length:Int))∧f.i.b.a.queues.length≤100000∧f.i.b.buys.length≤100000∧f.i.b.sells.length≤100000∧f.i.b.spare.length≤100000)∧∀(g:Unit),True→∃(h:Book),yD (mY f).fst=yD h∧i.inst.toNat=i.inst.toNat∧i.inst.toNat<i.s.books.length∧cnd ((mY f).snd==0) ((∀(j:Value×List D),j∈zV i.s.wh→like (Value.int IntKind.i64 i.id) j.fst=true)∧∃(j:Unit),(MSt.addF i).snd=(mY f).snd∧sb (MSt.addF i).fst.p.code=sb i.s.p.code∧(MSt.addF i).fst.p.tick=i.s.p.tick∧(MSt.addF i).fst.p.low=i.s.p.low∧(MSt.addF i).fst.p.high=i.s.p.high∧(MSt.addF i).fst.p.wide=i.s.p.wide∧(MSt.addF i).fst.p.rule=i.s.p.rule∧(MSt.addF i).fst.p.top=i.s.p.top∧(MSt.addF i).fst.p.least=i.s.p.least∧(MSt.addF i).fst.p.part=i.s.p.part∧AObj.objs 102 Book 6 zT (MSt.addF i).fst.books none=AObj.objs 102 Book 6 zT (i.s.books.set i.inst.toNat h) none∧zV (MSt.addF i).fst.wh=jL (Value.int IntKind.i64 i.id) [dI i.inst] (zV i.s.wh)∧zEh i) (∃(j:Unit),(MSt.addF i).snd=(mY f).snd∧sb (MSt.addF i).fst.p.code=sb i.s.p.code∧(MSt.addF i).fst.p.tick=i.s.p.tick∧(MSt.addF i).fst.p.low=i.s.p.low∧(MSt.addF i).fst.p.high=i.s.p.high∧(MSt.addF i).fst.p.wide=i.s.p.wide∧(MSt.addF i).fst.p.rule=i.s.p.rule∧(MSt.addF i).fst.p.top=i.s.p.top∧(MSt.addF i).fst.p.least=i.s.p.least∧(MSt.addF i).fst.p.part=i.s.p.part∧AObj.objs 102 Book 6 zT (MSt.addF i).fst.books none=AObj.objs 102 Book 6 zT (i.s.books.set i.inst.toNat h) none∧zFs i)))))) (zLf i)
open Go Cv Go.Proofs
theorem zIm {α:Type} {f:α→α} {Q:α→Prop} (hf:∀x,Q x→Q (f x)):∀{l:List α} (i:Nat),(∃x∈l,Q x)→∃x∈l.modify i f,Q x
 |[],i,⟨x,hx,_⟩=>by cases hx
 |a::l,0,⟨x,hx,q⟩=>by
  rcases yTb.1 hx with rfl|hx
  ·exact⟨f x,ySp,hf x q⟩
  ·exact⟨x,ySq _ hx,q⟩
 |a::l,i+1,⟨x,hx,q⟩=>by
  rw[yWy]
  rcases yTb.1 hx with rfl|hx
  ·exact⟨x,ySp,q⟩
  ·obtain⟨y,hy,hq⟩:=zIm hf (l:=l) i ⟨x,hx,q⟩
   exact⟨y,ySq _ hy,hq⟩
theorem z8j {a:Arena} (h:a.fit) (n:Int) (t:Bool):(a.topF n t).fit:=by
 obtain⟨h1,h2,h3⟩:=h
 rw[Arena.topF]
 split
 ·refine⟨by simpa using h1,fun hf=> ?_,by simpa using h3⟩
  exact zIm (f:=fun s:Slot=>{s with top:=t}) (Q:=fun s=>s.used=false) (fun x hx=>hx) _ (h2 hf)
 ·exact⟨h1,h2,h3⟩
theorem z5x {b:Book} (h:b.a.fit) (s:Int):(b.untop s).fit:=by
 rw[Book.untop]
 repeat' split
 all_goals first|exact h|exact z8j h _ _
theorem z4t {a:Arena} (h:a.fit):a.openQ.fit:=by
 obtain⟨h1,h2,h3⟩:=h
 refine⟨h1,h2,fun q hq=> ?_⟩
 rcases yTp.1 hq with hq|hq
 ·exact h3 q hq
 ·rw[yUk.1 hq];exact .inl rfl
theorem zVt {b:Book} (h:b.a.fit):b.newQ.2.2.fit:=by
 rw[Book.newQ]
 split
 ·exact z4t h
 ·exact h
theorem nG {b:Book} (h:b.a.fit) (s p:Int):(b.queueF s p).1.a.fit:=by
 rw[Book.queueF]
 repeat' split
 ·exact h
 ·exact zVt h
 ·exact zVt h
theorem z4q (b:Book) (s:Int):(b.untop s).slots.length=b.a.slots.length∧(b.untop s).queues=b.a.queues:=by
 have ht:∀n t,(b.a.topF n t).slots.length=b.a.slots.length∧(b.a.topF n t).queues=b.a.queues:=by
  intro n t
  rw[Arena.topF]
  split
  ·exact⟨by simp,rfl⟩
  ·exact⟨rfl,rfl⟩
 rw[Book.untop]
 repeat' split
 all_goals first|exact⟨rfl,rfl⟩|exact ht _ _
theorem zPn {b:Book} (h:b.fit) (id s:Int):(b.leadF id s).fit:=by
 obtain⟨h1,h2,h3,h4,h5⟩:=h
 have hl:=z4q b s
 rw[Book.leadF]
 split
 all_goals exact⟨z5x h1 s,by rw[hl.2];exact h2,h3,h4,h5⟩
theorem zPg {b:Book} (h:b.fit):b.small:=by
 obtain⟨⟨h1,_⟩,h2,h3,h4,h5⟩:=h
 exact⟨⟨h1,by omega⟩,by omega,by omega,by omega⟩
theorem yNa (i:BaI) (h:badd1C.cnd i):yAe i:=by
 have hfit:i.b.fit:=h
 have hsm:=zPg hfit
 unfold yAe vJ zFw a8 tP tX eC zEq zM yR nW nQ yL pA nB dI
 have plc:∀(b:Book) (x:Int),jL (Value.int IntKind.i64 i.id) [D.v (.int .i64 1),D.v (.int .i64 i.price),D.v (.int .i64 x)] (atE b.at_)=atE (pL i.id ⟨1,i.price,x⟩ b.at_):=fun b x=>zRs i.id ⟨1,i.price,x⟩ b.at_
 refine⟨jS _ _,(pget i.b.at_ i.id).isSome,_,_,_,zOc _ _,1,rfl,trivial,fun _ _=> ?_⟩
 refine Cv.cnd.mk (fun c=>absurd c (by decide)) fun _=> ?_
 refine zL (fun c=> ?_) (fun c=>zL (fun d=> ?_) (fun d=> ?_))
 ·have ha:i.b.addF 1 i.id i.price i.qty=(i.b,24):=by rw[Book.addF,ySk (.inl c)]
  rw[ha];(repeat'(first|exact rfl|exact trivial|assumption|apply And.intro|refine fun(_:Unit) (_:True)=>?_|refine Exists.intro () ?_|omega|(dsimp only;omega)))
 ·have ha:i.b.addF 1 i.id i.price i.qty=(i.b,24):=by rw[Book.addF,ySk (.inr d)]
  rw[ha];(repeat'(first|exact rfl|exact trivial|assumption|apply And.intro|refine fun(_:Unit) (_:True)=>?_|refine Exists.intro () ?_|omega|(dsimp only;omega)))
 have hq:¬(i.qty<1∨1000000<i.qty):=by omega
 refine Cv.cnd.mk (fun e=> ?_) (fun e=> ?_)
 ·have ha:i.b.addF 1 i.id i.price i.qty=(i.b,25):=by rw[Book.addF,ySj hq,ySk e]
  rw[ha];(repeat'(first|exact rfl|exact trivial|assumption|apply And.intro|refine fun(_:Unit) (_:True)=>?_|refine Exists.intro () ?_|omega|(dsimp only;omega)))
 have hlen:(atE i.b.at_).length=i.b.at_.length:=by simp[atE]
 rw[hlen]
 refine zL (fun f=> ?_) (fun f=> ?_)
 ·have ha:i.b.addF 1 i.id i.price i.qty=(i.b,13):=by rw[Book.addF,ySj hq,ySj (by rw[e];decide),ySk (by omega)]
  rw[ha];(repeat'(first|exact rfl|exact trivial|assumption|apply And.intro|refine fun(_:Unit) (_:True)=>?_|refine Exists.intro () ?_|omega|(dsimp only;omega)))
 have ha:i.b.addF 1 i.id i.price i.qty=(i.b.stand 1 i.id i.price i.qty,0):=by rw[Book.addF,ySj hq,ySj (by rw[e];decide),ySj (by omega)]
 rw[ha]
 simp only[ySm]
 refine⟨true,fun x=>x=i.b.leads 1 i.price,Cv.cnd.mk (fun g=>⟨true,rfl,?_,by(repeat'(first|exact trivial|exact rfl|apply And.intro))⟩) (fun g=> ?_),fun x hx=> ?_⟩
 ·have:i.b.buys=[]:=yTs (by have:(i.b.buys.length:Int)=0:=(by simpa using g);omega)
  rw[Book.leads,p8,this]
 ·obtain⟨r,l,hl⟩:∃r l,i.b.buys=r::l:=by
   cases hb:i.b.buys with
   |nil=>rw[hb]at g;exact absurd g (by decide)
   |cons r l=>exact⟨r,l,rfl⟩
  refine⟨⟨by omega,by rw[hl,yTc];omega⟩,r.price,elA (x:=r) (by rw[hl];rfl) (by simp[zC]) rfl,⟨1,i.price,r.price⟩,rfl,rfl,rfl,trivial,fun _ _=>⟨_,rfl,?_,by(repeat'(first|exact trivial|exact rfl|apply And.intro))⟩⟩
  rw[Book.leads,p8,hl]
 subst hx
 refine Cv.cnd.mk (fun g=> ?_) (fun g=> ?_)
 ·have hled:i.b.led i.id 1 i.price=i.b.leadF i.id 1:=by rw[Book.led,ySk g]
  have hf1:=zPn hfit i.id 1
  have hst:i.b.stand 1 i.id i.price i.qty={((i.b.leadF i.id 1).queueF 1 i.price).1 with a:=(((i.b.leadF i.id 1).queueF 1 i.price).1.a.push ((i.b.leadF i.id 1).queueF 1 i.price).2 i.id i.qty (i.b.leads 1 i.price)).1,at_:=pL i.id ⟨1,i.price,(((i.b.leadF i.id 1).queueF 1 i.price).1.a.push ((i.b.leadF i.id 1).queueF 1 i.price).2 i.id i.qty (i.b.leads 1 i.price)).2.1⟩ ((i.b.leadF i.id 1).queueF 1 i.price).1.at_}:=by
   simp only[Book.stand,hled]
  refine⟨⟨i.b,i.id⟩,rfl,trivial,rfl,rfl,rfl,rfl,rfl,rfl,rfl,rfl,rfl,hsm,fun _ _=>⟨⟨i.b.leadF i.id 1,i.price⟩,trivial,rfl,rfl,rfl,rfl,rfl,rfl,rfl,rfl,rfl,rfl,hf1,fun _ _=>⟨trivial,?_⟩⟩⟩
  refine⟨⟨((i.b.leadF i.id 1).queueF 1 i.price).1.a,((i.b.leadF i.id 1).queueF 1 i.price).2,i.id,i.qty,i.b.leads 1 i.price⟩,rfl,rfl,rfl,rfl,rfl,nG hf1.1 1 i.price,fun _ _=>⟨jS _ _,(),?_⟩⟩
  dsimp only
  rw[hst,plc]
  (repeat'(first|exact rfl|exact trivial|assumption|apply And.intro|refine fun(_:Unit) (_:True)=>?_|refine Exists.intro () ?_|omega|(dsimp only;omega)))
 ·have hled:i.b.led i.id 1 i.price=i.b:=by rw[Book.led,ySj (by rw[g];decide)]
  have hst:i.b.stand 1 i.id i.price i.qty={(i.b.queueF 1 i.price).1 with a:=((i.b.queueF 1 i.price).1.a.push (i.b.queueF 1 i.price).2 i.id i.qty (i.b.leads 1 i.price)).1,at_:=pL i.id ⟨1,i.price,((i.b.queueF 1 i.price).1.a.push (i.b.queueF 1 i.price).2 i.id i.qty (i.b.leads 1 i.price)).2.1⟩ (i.b.queueF 1 i.price).1.at_}:=by
   simp only[Book.stand,hled]
  refine⟨⟨i.b,i.price⟩,trivial,rfl,rfl,rfl,rfl,rfl,rfl,rfl,rfl,rfl,rfl,hfit,fun _ _=>⟨trivial,?_⟩⟩
  refine⟨⟨(i.b.queueF 1 i.price).1.a,(i.b.queueF 1 i.price).2,i.id,i.qty,i.b.leads 1 i.price⟩,rfl,rfl,rfl,rfl,rfl,nG hfit.1 1 i.price,fun _ _=>⟨jS _ _,(),?_⟩⟩
  dsimp only
  rw[hst,plc]
  (repeat'(first|exact rfl|exact trivial|assumption|apply And.intro|refine fun(_:Unit) (_:True)=>?_|refine Exists.intro () ?_|omega|(dsimp only;omega)))
theorem yCr:badd1C.ok Tryz.prog 118:=okw mixed (gokc zFc (gokc bT (gokc z7r (gokc z6t (gokc zUh gok0))))) 0 (fun _=>yJd) (fun _=>[]) [0] Tryz.func118 yNa
theorem yJq (i:BaI) (h:badd2C.cnd i):z9o i:=by
 have hfit:i.b.fit:=h
 have hsm:=zPg hfit
 unfold z9o vJ zDw mD zDs zN yQ nW nQ yL tP tX eC pA nB dI
 have plc:∀(b:Book) (x:Int),jL (Value.int IntKind.i64 i.id) [D.v (.int .i64 2),D.v (.int .i64 i.price),D.v (.int .i64 x)] (atE b.at_)=atE (pL i.id ⟨2,i.price,x⟩ b.at_):=fun b x=>zRs i.id ⟨2,i.price,x⟩ b.at_
 refine⟨jS _ _,(pget i.b.at_ i.id).isSome,_,_,_,zOc _ _,2,rfl,trivial,fun _ _=> ?_⟩
 refine Cv.cnd.mk (fun c=>absurd c (by decide)) fun _=> ?_
 refine zL (fun c=> ?_) (fun c=>zL (fun d=> ?_) (fun d=> ?_))
 ·have ha:i.b.addF 2 i.id i.price i.qty=(i.b,24):=by rw[Book.addF,ySk (.inl c)]
  rw[ha];(repeat'(first|exact rfl|exact trivial|assumption|apply And.intro|refine fun(_:Unit) (_:True)=>?_|refine Exists.intro () ?_|omega|(dsimp only;omega)))
 ·have ha:i.b.addF 2 i.id i.price i.qty=(i.b,24):=by rw[Book.addF,ySk (.inr d)]
  rw[ha];(repeat'(first|exact rfl|exact trivial|assumption|apply And.intro|refine fun(_:Unit) (_:True)=>?_|refine Exists.intro () ?_|omega|(dsimp only;omega)))
 have hq:¬(i.qty<1∨1000000<i.qty):=by omega
 refine Cv.cnd.mk (fun e=> ?_) (fun e=> ?_)
 ·have ha:i.b.addF 2 i.id i.price i.qty=(i.b,25):=by rw[Book.addF,ySj hq,ySk e]
  rw[ha];(repeat'(first|exact rfl|exact trivial|assumption|apply And.intro|refine fun(_:Unit) (_:True)=>?_|refine Exists.intro () ?_|omega|(dsimp only;omega)))
 have hlen:(atE i.b.at_).length=i.b.at_.length:=by simp[atE]
 rw[hlen]
 refine zL (fun f=> ?_) (fun f=> ?_)
 ·have ha:i.b.addF 2 i.id i.price i.qty=(i.b,13):=by rw[Book.addF,ySj hq,ySj (by rw[e];decide),ySk (by omega)]
  rw[ha];(repeat'(first|exact rfl|exact trivial|assumption|apply And.intro|refine fun(_:Unit) (_:True)=>?_|refine Exists.intro () ?_|omega|(dsimp only;omega)))
 have ha:i.b.addF 2 i.id i.price i.qty=(i.b.stand 2 i.id i.price i.qty,0):=by rw[Book.addF,ySj hq,ySj (by rw[e];decide),ySj (by omega)]
 rw[ha]
 simp only[ySm]
 refine⟨true,fun x=>x=i.b.leads 2 i.price,Cv.cnd.mk (fun g=>⟨true,rfl,?_,by(repeat'(first|exact trivial|exact rfl|apply And.intro))⟩) (fun g=> ?_),fun x hx=> ?_⟩
 ·have:i.b.sells=[]:=yTs (by have:(i.b.sells.length:Int)=0:=(by simpa using g);omega)
  rw[Book.leads,nT,this]
 ·obtain⟨r,l,hl⟩:∃r l,i.b.sells=r::l:=by
   cases hb:i.b.sells with
   |nil=>rw[hb]at g;exact absurd g (by decide)
   |cons r l=>exact⟨r,l,rfl⟩
  refine⟨⟨by omega,by rw[hl,yTc];omega⟩,r.price,elA (x:=r) (by rw[hl];rfl) (by simp[zC]) rfl,⟨2,i.price,r.price⟩,rfl,rfl,rfl,trivial,fun _ _=>⟨_,rfl,?_,by(repeat'(first|exact trivial|exact rfl|apply And.intro))⟩⟩
  rw[Book.leads,nT,hl]
 subst hx
 refine Cv.cnd.mk (fun g=> ?_) (fun g=> ?_)
 ·have hled:i.b.led i.id 2 i.price=i.b.leadF i.id 2:=by rw[Book.led,ySk g]
  have hf1:=zPn hfit i.id 2
  have hst:i.b.stand 2 i.id i.price i.qty={((i.b.leadF i.id 2).queueF 2 i.price).1 with a:=(((i.b.leadF i.id 2).queueF 2 i.price).1.a.push ((i.b.leadF i.id 2).queueF 2 i.price).2 i.id i.qty (i.b.leads 2 i.price)).1,at_:=pL i.id ⟨2,i.price,(((i.b.leadF i.id 2).queueF 2 i.price).1.a.push ((i.b.leadF i.id 2).queueF 2 i.price).2 i.id i.qty (i.b.leads 2 i.price)).2.1⟩ ((i.b.leadF i.id 2).queueF 2 i.price).1.at_}:=by
   simp only[Book.stand,hled]
  refine⟨⟨i.b,i.id⟩,rfl,trivial,rfl,rfl,rfl,rfl,rfl,rfl,rfl,rfl,rfl,hsm,fun _ _=>⟨⟨i.b.leadF i.id 2,i.price⟩,trivial,rfl,rfl,rfl,rfl,rfl,rfl,rfl,rfl,rfl,rfl,hf1,fun _ _=>⟨trivial,?_⟩⟩⟩
  refine⟨⟨((i.b.leadF i.id 2).queueF 2 i.price).1.a,((i.b.leadF i.id 2).queueF 2 i.price).2,i.id,i.qty,i.b.leads 2 i.price⟩,rfl,rfl,rfl,rfl,rfl,nG hf1.1 2 i.price,fun _ _=>⟨jS _ _,(),?_⟩⟩
  dsimp only
  rw[hst,plc]
  (repeat'(first|exact rfl|exact trivial|assumption|apply And.intro|refine fun(_:Unit) (_:True)=>?_|refine Exists.intro () ?_|omega|(dsimp only;omega)))
 ·have hled:i.b.led i.id 2 i.price=i.b:=by rw[Book.led,ySj (by rw[g];decide)]
  have hst:i.b.stand 2 i.id i.price i.qty={(i.b.queueF 2 i.price).1 with a:=((i.b.queueF 2 i.price).1.a.push (i.b.queueF 2 i.price).2 i.id i.qty (i.b.leads 2 i.price)).1,at_:=pL i.id ⟨2,i.price,((i.b.queueF 2 i.price).1.a.push (i.b.queueF 2 i.price).2 i.id i.qty (i.b.leads 2 i.price)).2.1⟩ (i.b.queueF 2 i.price).1.at_}:=by
   simp only[Book.stand,hled]
  refine⟨⟨i.b,i.price⟩,trivial,rfl,rfl,rfl,rfl,rfl,rfl,rfl,rfl,rfl,rfl,hfit,fun _ _=>⟨trivial,?_⟩⟩
  refine⟨⟨(i.b.queueF 2 i.price).1.a,(i.b.queueF 2 i.price).2,i.id,i.qty,i.b.leads 2 i.price⟩,rfl,rfl,rfl,rfl,rfl,nG hfit.1 2 i.price,fun _ _=>⟨jS _ _,(),?_⟩⟩
  dsimp only
  rw[hst,plc]
  (repeat'(first|exact rfl|exact trivial|assumption|apply And.intro|refine fun(_:Unit) (_:True)=>?_|refine Exists.intro () ?_|omega|(dsimp only;omega)))
theorem yCa:badd2C.ok Tryz.prog 118:=okw mixed (gokc zFc (gokc bT (gokc z7e (gokc z4p (gokc zUh gok0))))) 0 (fun _=>yJd) (fun _=>[]) [0] Tryz.func118 yJq
theorem yHo:baddC.ok Tryz.prog 118:=fun j=>match j with
 |⟨i,false⟩=>yCr i
 |⟨i,true⟩=>yCa i
theorem yQv (i:SaI) (h:saddC.cnd i):yJc i:=by
 obtain⟨hp,hbl,hb⟩:i.s.fit:=h
 unfold yJc zLf rM mY zFs zEh x9 dI
 simp only[zIr]
 have hml:(zV i.s.wh).length=i.s.wh.length:=by simp[zV]
 rw[hml]
 have out (e:i.inst<0∨i.s.books.length≤i.inst):MSt.addF i=(i.s,20):=by rw[MSt.addF,ySk e]
 refine⟨kL _ _,(qK i.s.wh i.id).isSome,_,zAq _ _,zL (fun c=>Cv.cnd.mk (fun d=> ?_) (fun d=> ?_)) (fun c=> ?_)⟩
 ·have d:¬i.inst<(i.s.books.length:Int):=by simpa using d
  rw[out (.inr (by omega))];(repeat'(first|exact rfl|exact trivial|assumption|apply And.intro|refine fun(_:Unit) (_:True)=>?_|refine Exists.intro () ?_|omega|(dsimp only;omega)))
 ·have d:i.inst<(i.s.books.length:Int):=by simpa using d
  have hn:¬(i.inst<0∨(i.s.books.length:Int)≤i.inst):=by omega
  refine Cv.cnd.mk (fun e=> ?_) (fun e=>zL (fun f=> ?_) (fun f=> ?_))
  ·rw[MSt.addF,ySj hn,ySk e];(repeat'(first|exact rfl|exact trivial|assumption|apply And.intro|refine fun(_:Unit) (_:True)=>?_|refine Exists.intro () ?_|omega|(dsimp only;omega)))
  ·rw[MSt.addF,ySj hn,ySj (by rw[e];decide),ySk (by omega)];(repeat'(first|exact rfl|exact trivial|assumption|apply And.intro|refine fun(_:Unit) (_:True)=>?_|refine Exists.intro () ?_|omega|(dsimp only;omega)))
  ·refine⟨⟨i.s.p,i.inst,i.price⟩,rfl,rfl,rfl,rfl,rfl,rfl,rfl,rfl,rfl,rfl,rfl,rfl,rfl,hp,fun _ _=>Cv.cnd.mk (fun g=> ?_) (fun g=> ?_)⟩
   ·have g:i.s.p.price i.inst i.price≠0:=by simpa using g
    rw[MSt.addF,ySj hn,ySj (by rw[e];decide),ySj (by omega),ySk g];(repeat'(first|exact rfl|exact trivial|assumption|apply And.intro|refine fun(_:Unit) (_:True)=>?_|refine Exists.intro () ?_|omega|(dsimp only;omega)))
   ·have g:i.s.p.price i.inst i.price=0:=by simpa using g
    obtain⟨x,hx⟩:=z9 (l:=i.s.books) (i:=i.inst.toNat) (by omega)
    have hba:i.s.bookAt i.inst=x:=zH hx
    have ha:MSt.addF i=({i.s with books:=i.s.books.set i.inst.toNat (x.addF (zB i.sd) i.id i.price i.qty).1,wh:=if(x.addF (zB i.sd) i.id i.price i.qty).2=0 then fA i.id i.inst i.s.wh else i.s.wh},(x.addF (zB i.sd) i.id i.price i.qty).2):=by
     rw[MSt.addF,ySj hn,ySj (by rw[e];decide),ySj (by omega),ySj (by simp[g])]
     simp only[hba]
    refine⟨⟨by omega,by omega⟩,by omega,x,hx,⟨⟨x,i.id,i.price,i.qty⟩,i.sd⟩,rfl,rfl,rfl,rfl,rfl,hb x (ySt hx),fun _ _=>⟨(x.addF (zB i.sd) i.id i.price i.qty).1,rfl,trivial,by omega,Cv.cnd.mk (fun z=>⟨kL _ _,?_⟩) (fun z=> ?_)⟩⟩
    ·have z:(x.addF (zB i.sd) i.id i.price i.qty).2=0:=by simpa using z
     rw[ha,z]
     simp only[if_true]
     (repeat'(first|exact rfl|exact trivial|assumption|apply And.intro|refine fun(_:Unit) (_:True)=>?_|refine Exists.intro () ?_|omega|(dsimp only;omega)))
    ·have z:¬(x.addF (zB i.sd) i.id i.price i.qty).2=0:=by simpa using z
     rw[ha,ySj z]
     (repeat'(first|exact rfl|exact trivial|assumption|apply And.intro|refine fun(_:Unit) (_:True)=>?_|refine Exists.intro () ?_|omega|(dsimp only;omega)))
 ·rw[out (.inl (by omega))];(repeat'(first|exact rfl|exact trivial|assumption|apply And.intro|refine fun(_:Unit) (_:True)=>?_|refine Exists.intro () ?_|omega|(dsimp only;omega)))
theorem yHk:saddC.ok Tryz.prog 98:=okw mixed (gokc sQ (gokc yHo gok0)) 1 (fun _=>[]) (fun _=>[]) [0] Tryz.func98 yQv
open Go Cv Go.Proofs
def r3prodC:Con:=con1 (List UInt8) (fun s=>[sV s]) (fun _=>[]) (fun s=>s.length≤1099511627776) (fun s=>yP (jY s)) (fun _=>[])
def yFs (s:List UInt8):List SAnn:=[{ι:=Nat×Nat,slots:=fun x=>[(3,zA x.2),(7,.nm 0 0)],rows:=fun x=>[.iter (sb s) x.1]}]
def yHc:List (Nat×SAnn):=[(20,bj 29)]
def r5checkC:Con:=con1 Prd (fun p=>[prdV p]) (fun _=>[]) Prd.small (fun p=>zA p.check) (fun _=>[])
def yAm:List SAnn:=[{ι:=Nat,slots:=fun j=>[(3,zA j)],rows:=fun _=>[]},{ι:=Nat,slots:=fun j=>[(4,zA j)],rows:=fun _=>[]},{ι:=Nat,slots:=fun j=>[(5,zA j)],rows:=fun _=>[]}]
def yAh:List (Nat×SAnn):=[(12,bj 19),(32,bj 58),(40,bj 90),(68,bj 136),(96,bj 168),(104,bj 176),(112,bj 204)]
def r5countC:Con:=con1 Prd (fun p=>[prdV p]) (fun _=>[]) Prd.small (fun p=>zA p.count) (fun _=>[])
def r5legsC:Con:=con1 dP (fun i=>[prdV i.p,zA i.n]) (fun _=>[]) (fun i=>i.p.small) (fun i=> .tup [zA (i.p.legs i.n).1,zA (i.p.legs i.n).2.1,yP (i.p.legs i.n).2.2]) (fun _=>[])
def yEe (i:dP):List SAnn:=[{ι:=Nat,slots:=fun m=>[(8,zA (yI i.p.months.length m)),(9,zA m)],rows:=fun _=>[]},
 {ι:=Nat×Nat,slots:=fun m=>[(8,zA ((yI i.p.months.length m.1+m.2:Nat):Int)),(9,zA m.1),(10,zA ((m.1+1+m.2:Nat):Int))],rows:=fun _=>[]}]
def kN (x:Prd):Int:=2+zJ x.months.length 0 3
def yJ (x:Prd):Int:=1+zJ x.tick 0 9
def jK (n:Nat):List Int:=(List.range n).map fun(i:Nat)=>10*(i:Int)+3
def kH (t:Int) (n:Nat):List Int:=(List.range n).map fun(i:Nat)=>t*(10+(i:Int))
def x0 (x:Prd):Prd:=⟨[206,169],jK (kN x).toNat,yJ x,-20*yJ x,100*yJ x,yJ x*(5+zJ x.wide 0 60),1+zJ x.rule 0 2,zJ x.top 0 9,1+zJ x.least 0 4,zJ x.part 0 100,kH (yJ x) (kN x).toNat⟩
@[reducible] def Prd.raw (x:Prd):Prop:=yZ x.tick∧yZ x.wide∧yZ x.rule∧yZ x.top∧yZ x.least∧yZ x.part∧x.months.length≤9223372036854775807
def kprodC:Con:=con1 Prd (fun x=>[prdV x]) (fun _=>[]) Prd.raw (fun x=>prdV (x0 x)) (fun _=>[])
def yRw (x:Prd) (w:Int) (j:Nat):List AObj:=[.cells [sV [206,169],.own 1,zA (yJ x),zA (-20*yJ x),zA (100*yJ x),zA w,zA (1+zJ x.rule 0 2),zA (zJ x.top 0 9),zA (1+zJ x.least 0 4),zA (zJ x.part 0 100),.own 2] 29,.own 3 1 (iE (jK j)),.own 2 1 (iE (kH (yJ x) j))]
def yPc (x:Prd):List AObj:=[.cells [sV [206,169],.d (.v (.slice none 0 0)),zA (yJ x),zA (-20*yJ x),zA (100*yJ x),zA 0,zA (1+zJ x.rule 0 2),zA (zJ x.top 0 9),zA (1+zJ x.least 0 4),zA (zJ x.part 0 100),.d (.v (.slice none 0 0))] 29]
def yNv (x:Prd):List SAnn:=[{ι:=Nat,slots:=fun j=>[(5,.nm 0 0),(6,zA j)],rows:=fun j=>yRw x (yJ x*(5+zJ x.wide 0 60)) j}]
def yMo (x:Prd):List (Nat×SAnn):=[(12,{ι:=Unit,slots:=fun _=>[(5,.nm 0 0)],slots0:=fun _=>[],rows0:=fun _=>[],rows:=fun _=>yPc x})]
open Go Cv Go.Proofs
def aM (a:Bool→Prop) (b:Bool) (c:List UInt8) (d:Nat×Nat):Prop:=a b∧Sx.AObj.iter (sb c) (d.fst+(Utf8.decode (sb c) d.fst).snd)=Sx.AObj.iter (sb c) (d.fst+(Utf8.decode (sb c) d.fst).snd)
def qE (a:List UInt8) (b:Nat×Nat):=(↑(Utf8.decode (sb a) b.fst).fst:Int)
def rT (a:List UInt8) (b:Nat×Nat) (c:Bool→Prop):Prop:=∃(d:Bool),d=!(qE a b) !=930∧aM c d a b
def cF (a:Bool→Prop) (b:List UInt8) (c:Nat×Nat):Prop:=∃(d:Bool),d=!false∧aM a d b c
def z3o (s:List UInt8):Prop:=
 ∃(a:Nat×Nat),(↑a.snd:Int)=0∧sb s=sb s∧a.fst=0∧∃(b:Nat×Nat→Prop),∃(c:Nat×Nat→Nat),b a∧∀(d:Nat×Nat),b d→cnd (d.fst.blt (sb s).size) (∃(e:Bool),∃(f:Bool→Prop),cnd (decide ((qE s d)≥65)) (cnd (decide ((qE s d)≤90)) (∃(g:Bool),g=!true∧aM f g s d) (cnd (decide ((qE s d)≥913)) (cnd (decide ((qE s d)≤937)) (rT s d f) (cF f s d)) (cF f s d))) (cnd (decide ((qE s d)≥913)) (cnd (decide ((qE s d)≤937)) (rT s d f) (cF f s d)) (cF f s d))∧∀(g:Bool),f g→cnd g (∃(h:Unit),jY s=false∧True) (dN d s b c)) (cnd (decide ((↑d.snd:Int)≥1)) (∃(e:Unit),jY s=decide ((↑d.snd:Int)≤4)∧True) (∃(e:Unit),jY s=false∧True))
def mQ (a:Prd):Prop:=Sx.AObj.cells [V.d (v9 a),V.own 0,V.d (dI a.tick),V.d (dI a.low),V.d (dI a.high),V.d (dI a.wide),V.d (dI a.rule),V.d (dI a.top),V.d (dI a.least),V.d (dI a.part),V.own ((0:Nat)+(1:Nat))] 29=Sx.AObj.cells [V.d (v9 a),V.own 0,V.d (dI a.tick),V.d (dI a.low),V.d (dI a.high),V.d (dI a.wide),V.d (dI a.rule),V.d (dI a.top),V.d (dI a.least),V.d (dI a.part),V.own ((0:Nat)+(1:Nat))] 29∧bE a
def rV (a:Nat) (b:Nat→Prop) (c:Nat→Nat) (d:Prd):Prop:=∃(e:Nat),(↑e:Int)=IntKind.i64.wrap ((↑a:Int)+1)∧b e∧c e<c a∧mQ d
def rH (a:Bool→Prop) (b:Prd) (c:Nat) (d:Nat→Prop) (e:Nat→Nat):Prop:=∀(f:Bool),a f→cnd f (∃(g:Unit),b.check=1∧True) (rV c d e b)
def kI (a:Bool→Prop) (b:Bool) (c:Prd):Prop:=a b∧mQ c
def yW (a:Bool→Prop) (b:Prd):Prop:=∃(c:Bool),c=true∧kI a c b
def zVw (p:Prd):Prop:=
 ∃(a:List UInt8),sb a=sb p.code∧a.length≤1099511627776∧∀(b:Unit),True→cnd (!jY a) (∃(c:Unit),p.check=12∧True) (∃(c:Bool),∃(d:Bool→Prop),cnd (decide ((xI p)<2)) (yW d p) (∃(e:Bool),e=decide ((xI p)>6)∧kI d e p)∧∀(e:Bool),d e→cnd e (∃(f:Unit),p.check=1∧True) (∃(f:Nat),(↑f:Int)=0∧∃(g:Nat→Prop),∃(h:Nat→Nat),g f∧∀(j:Nat),g j→cnd (decide ((↑j:Int)<(xI p))) (∃(k:Bool),∃(l:Bool→Prop),((0≤(↑j:Int)∧(↑j:Int)<(xI p))∧∃(m:Int),zF (iE p.months) (↑j:Int).toNat 0 1=some [dI m]∧cnd (decide (m<0)) (yW l p) ((0≤(↑j:Int)∧(↑j:Int)<(xI p))∧∃(n:Int),zF (iE p.months) (↑j:Int).toNat 0 1=some [dI n]∧cnd (decide (n>1199)) (yW l p) (cnd (decide ((↑j:Int)>0)) ((0≤IntKind.i64.wrap ((↑j:Int)-1)∧IntKind.i64.wrap ((↑j:Int)-1)<(xI p))∧∃(q:Int),zF (iE p.months) (IntKind.i64.wrap ((↑j:Int)-1)).toNat 0 1=some [dI q]∧(0≤(↑j:Int)∧(↑j:Int)<(xI p))∧∃(r:Int),zF (iE p.months) (↑j:Int).toNat 0 1=some [dI r]∧∃(s:Bool),s=decide (q≥r)∧kI l s p) (∃(q:Bool),q=false∧kI l q p))))∧rH l p j g h) (∃(k:Bool),∃(l:Bool→Prop),cnd (decide (p.tick<1)) (yW l p) (cnd (decide (p.tick>1000)) (yW l p) (IntKind.i64=IntKind.i64∧p.tick≠0∧cnd (p.low.tmod p.tick !=0) (yW l p) (IntKind.i64=IntKind.i64∧p.tick≠0∧cnd (p.high.tmod p.tick !=0) (yW l p) (IntKind.i64=IntKind.i64∧p.tick≠0∧∃(m:Bool),m=(p.wide.tmod p.tick !=0)∧kI l m p))))∧∀(m:Bool),l m→cnd m (∃(n:Unit),p.check=22∧True) (∃(n:Nat),(↑n:Int)=0∧∃(q:Nat→Prop),∃(r:Nat→Nat),q n∧∀(s:Nat),q s→cnd (decide ((↑s:Int)<(wD p))) ((0≤(↑s:Int)∧(↑s:Int)<(wD p))∧∃(t:Int),zF (iE p.settle) (↑s:Int).toNat 0 1=some [dI t]∧IntKind.i64=IntKind.i64∧p.tick≠0∧cnd (t.tmod p.tick !=0) (∃(u:Unit),p.check=22∧True) (rV s q r p)) (∃(t:Bool),∃(u:Bool→Prop),cnd (decide (p.low<(-1000000))) (yW u p) (cnd (decide (p.low≥p.high)) (yW u p) (cnd (decide (p.high>1000000)) (yW u p) (cnd (decide (p.wide<0)) (yW u p) (∃(v:Bool),v=decide (p.wide>IntKind.i64.wrap (p.high-p.low))∧kI u v p))))∧∀(v:Bool),u v→cnd v (∃(w:Unit),p.check=23∧True) (cnd ((wD p) !=(xI p)) (∃(w:Unit),p.check=1∧True) (∃(w:Nat),(↑w:Int)=0∧∃(x:Nat→Prop),∃(y:Nat→Nat),x w∧∀(z:Nat),x z→cnd (decide ((↑z:Int)<(wD p))) (∃(a_1:Bool),∃(a_2:Bool→Prop),((0≤(↑z:Int)∧(↑z:Int)<(wD p))∧∃(a_3:Int),zF (iE p.settle) (↑z:Int).toNat 0 1=some [dI a_3]∧cnd (decide (a_3<p.low)) (yW a_2 p) ((0≤(↑z:Int)∧(↑z:Int)<(wD p))∧∃(a_4:Int),zF (iE p.settle) (↑z:Int).toNat 0 1=some [dI a_4]∧∃(a_5:Bool),a_5=decide (a_4>p.high)∧kI a_2 a_5 p))∧rH a_2 p z x y) (∃(a_1:Bool),∃(a_2:Bool→Prop),cnd (decide (p.rule<1)) (yW a_2 p) (∃(a_3:Bool),a_3=decide (p.rule>3)∧kI a_2 a_3 p)∧∀(a_3:Bool),a_2 a_3→cnd a_3 (∃(a_4:Unit),p.check=31∧True) (∃(a_4:Bool),∃(a_5:Bool→Prop),cnd (decide (p.top<0)) (yW a_5 p) (cnd (decide (p.top>1000000)) (yW a_5 p) (cnd (decide (p.least<1)) (yW a_5 p) (cnd (decide (p.least>1000)) (yW a_5 p) (cnd (decide (p.part<0)) (yW a_5 p) (∃(a_6:Bool),a_6=decide (p.part>100)∧kI a_5 a_6 p)))))∧∀(a_6:Bool),a_5 a_6→cnd a_6 (∃(a_7:Unit),p.check=24∧True) (∃(a_7:Unit),p.check=0∧True))))))))))
def zUb (p:Prd):Prop:=
 ∃(a:Prd),pZ a p
def gK (a:dP) (b:Nat×Nat):=(↑(yI a.p.months.length b.fst+b.snd):Int)
def z3z (i:dP):Prop:=
 ∃(a:Prd),sb a.code=sb i.p.code∧iE a.months=iE i.p.months∧a.tick=i.p.tick∧a.low=i.p.low∧a.high=i.p.high∧a.wide=i.p.wide∧a.rule=i.p.rule∧a.top=i.p.top∧a.least=i.p.least∧a.part=i.p.part∧iE a.settle=iE i.p.settle∧(zS a)∧∀(b:Unit),True→cnd (a.check !=0) (gT i) (cnd (decide (i.n<0)) (gT i) (cnd (decide (i.n<(wN i))) (tA i) (∃(c:Nat),(uG i c)=(wN i)∧(↑c:Int)=0∧∃(d:Nat→Prop),∃(e:Nat→Nat),d c∧∀(f:Nat),d f→cnd (decide ((↑f:Int)<(wN i))) (∃(g:Nat×Nat),(gK i g)=(uG i f)∧(↑g.fst:Int)=(↑f:Int)∧(↑(g.fst+1+g.snd):Int)=IntKind.i64.wrap ((↑f:Int)+1)∧∃(h:Nat×Nat→Prop),∃(j:Nat×Nat→Nat),h g∧∀(k:Nat×Nat),h k→cnd (decide ((↑(k.fst+1+k.snd):Int)<(wN i))) (cnd ((gK i k)==i.n) (∃(l:Unit),(i.p.legs i.n).fst=(↑k.fst:Int)∧(i.p.legs i.n).snd.fst=(↑(k.fst+1+k.snd):Int)∧(i.p.legs i.n).snd.snd=true∧True) (∃(l:Nat×Nat),(gK i l)=IntKind.i64.wrap ((gK i k)+1)∧(↑l.fst:Int)=(↑k.fst:Int)∧(↑(l.fst+1+l.snd):Int)=IntKind.i64.wrap ((↑(k.fst+1+k.snd):Int)+1)∧h l∧j l<j k∧nK i)) (∃(l:Nat),(uG i l)=(gK i k)∧(↑l:Int)=IntKind.i64.wrap ((↑k.fst:Int)+1)∧zDe d l e f i)) (gT i))))
def xB (a:WiI):Prop:=((-9223372036854775808)≤a.n∧a.n≤9223372036854775807)∧(-1000000)≤a.lo∧a.lo≤a.hi∧a.hi≤1000000
def x4 (a:WiI):=(1+zJ a.n a.lo a.hi)
def dF:=(D.v (Value.string (ByteArray.mk #[])))
def zDr (a:Prd):Prop:=Sx.AObj.cells (Sx.V.agg [V.d dF,V.d (D.v (Value.slice none 0 0)),V.d (dI 0),V.d (dI 0),V.d (dI 0),V.d (dI 0),V.d (dI 0),V.d (dI 0),V.d (dI 0),V.d (dI 0),V.d (D.v (Value.slice none 0 0))]).cl 29=Sx.AObj.cells (Sx.V.agg [V.d dF,V.d (D.v (Value.slice none 0 0)),V.d (dI 0),V.d (dI 0),V.d (dI 0),V.d (dI 0),V.d (dI 0),V.d (dI 0),V.d (dI 0),V.d (dI 0),V.d (D.v (Value.slice none 0 0))]).cl 29∧mQ a
def zGd (a:Prd) (b:WiI) (c:WiI) (d:WiI) (e:WiI) (f:Unit→Prop):Prop:=∃(g:WiI),g.n=a.part∧g.lo=0∧g.hi=100∧(xB g)∧∀(h:Unit),True→∃(j:Unit),sb [(206:UInt8),(169:UInt8)]=ByteArray.mk #[(206:UInt8),(169:UInt8)]∧True∧yJ a=IntKind.i64.wrap (x4 b)∧(-20)*yJ a=IntKind.i64.wrap ((-20)*IntKind.i64.wrap (x4 b))∧100*yJ a=IntKind.i64.wrap (100*IntKind.i64.wrap (x4 b))∧(0:Int)=(0:Int)∧1+zJ a.rule 0 2=IntKind.i64.wrap (x4 c)∧zJ a.top 0 9=zJ d.n d.lo d.hi∧1+zJ a.least 0 4=IntKind.i64.wrap (x4 e)∧zJ a.part 0 100=zJ g.n g.lo g.hi∧True∧f j∧zDr a
def zDv (a:Prd) (b:WiI) (c:WiI) (d:WiI) (e:WiI) (f:Unit→Prop):Prop:=a.part=a.part∧zGd a b c d e f
def zDj (a:Prd) (b:WiI) (c:WiI) (d:WiI) (e:Unit→Prop):Prop:=a.part=a.part∧a.least=a.least∧∃(f:WiI),f.n=a.least∧f.lo=0∧f.hi=4∧(xB f)∧∀(g:Unit),True→zDv a b c d f e
def zDq (a:Prd) (b:WiI) (c:WiI) (d:Unit→Prop):Prop:=a.part=a.part∧a.least=a.least∧a.top=a.top∧∃(e:WiI),e.n=a.top∧e.lo=0∧e.hi=9∧(xB e)∧∀(f:Unit),True→zDj a b c e d
def z8p (x:Prd):Prop:=
 ∃(a:WiI),a.n=(xI x)∧a.lo=0∧a.hi=3∧(xB a)∧∀(b:Unit),True→∃(c:WiI),c.n=x.tick∧c.lo=0∧c.hi=9∧(xB c)∧∀(d:Unit),True→∃(e:Unit),∃(f:Unit→Prop),((∃(g:WiI),g.n=x.rule∧g.lo=0∧g.hi=2∧(xB g)∧∀(h:Unit),True→x.part=x.part∧x.least=x.least∧x.top=x.top∧(∃(j:WiI),j.n=x.top∧j.lo=0∧j.hi=9∧(xB j)∧∀(k:Unit),True→x.part=x.part∧x.least=x.least∧(∃(l:WiI),l.n=x.least∧l.lo=0∧l.hi=4∧(xB l)∧∀(m:Unit),True→x.part=x.part∧(zGd x c g j l f)∧zDv x c g j l f)∧zDj x c g j f)∧zDq x c g f)∧x.part=x.part∧x.least=x.least∧x.top=x.top∧x.rule=x.rule∧∃(g:WiI),g.n=x.rule∧g.lo=0∧g.hi=2∧(xB g)∧∀(h:Unit),True→zDq x c g f)∧∀(g:Unit),f g→∃(h:WiI),h.n=x.wide∧h.lo=0∧h.hi=60∧(xB h)∧∀(j:Unit),True→∃(k:Nat),(↑k:Int)=0∧sb [(206:UInt8),(169:UInt8)]=sb [(206:UInt8),(169:UInt8)]∧yJ x=yJ x∧(-20)*yJ x=(-20)*yJ x∧100*yJ x=100*yJ x∧yJ x*(5+zJ x.wide 0 60)=IntKind.i64.wrap (IntKind.i64.wrap (x4 c)*IntKind.i64.wrap (5+zJ h.n h.lo h.hi))∧1+zJ x.rule 0 (2:Int)=(1:Int)+zJ x.rule 0 2∧zJ x.top 0 9=zJ x.top 0 (9:Int)∧(1:Int)+zJ x.least 0 (4:Int)=(1:Int)+zJ x.least 0 4∧zJ x.part 0 100=zJ x.part 0 100∧iE (jK k)=[]∧iE (kH (yJ x) k)=[]∧∃(l:Nat→Prop),∃(m:Nat→Nat),l k∧∀(n:Nat),l n→cnd (decide ((↑n:Int)<IntKind.i64.wrap (2+zJ a.n a.lo a.hi))) (((iE (jK n)).length+1)*(8:Nat)≤(70368744177664:Nat)∧((iE (kH (yJ x) n)).length+1)*(8:Nat)≤(70368744177664:Nat)∧∃(p:Nat),(↑p:Int)=IntKind.i64.wrap ((↑n:Int)+1)∧sb [(206:UInt8),(169:UInt8)]=sb [(206:UInt8),(169:UInt8)]∧yJ x=yJ x∧(-20)*yJ x=(-20)*yJ x∧100*yJ x=100*yJ x∧yJ x*(5+zJ x.wide 0 60)=yJ x*(5+zJ x.wide 0 60)∧1+zJ x.rule 0 (2:Int)=(1:Int)+zJ x.rule 0 2∧zJ x.top 0 9=zJ x.top 0 (9:Int)∧(1:Int)+zJ x.least 0 (4:Int)=(1:Int)+zJ x.least 0 4∧zJ x.part 0 100=zJ x.part 0 100∧iE (jK p)=iE (jK n)++[[dI (IntKind.i64.wrap (IntKind.i64.wrap (10*(↑n:Int))+3))]]∧iE (kH (yJ x) p)=iE (kH (yJ x) n)++[[dI (IntKind.i64.wrap (IntKind.i64.wrap (x4 c)*IntKind.i64.wrap (10+(↑n:Int))))]]∧l p∧m p<m n∧zDr x) (∃(p:Unit),sb [(206:UInt8),(169:UInt8)]=sb [(206:UInt8),(169:UInt8)]∧iE (jK (kN x).toNat)=iE (jK n)∧yJ x=yJ x∧(-20)*yJ x=(-20)*yJ x∧100*yJ x=100*yJ x∧yJ x*(5+zJ x.wide 0 60)=yJ x*(5+zJ x.wide 0 60)∧1+zJ x.rule 0 (2:Int)=(1:Int)+zJ x.rule 0 2∧zJ x.top 0 9=zJ x.top 0 (9:Int)∧(1:Int)+zJ x.least 0 (4:Int)=(1:Int)+zJ x.least 0 4∧zJ x.part 0 100=zJ x.part 0 100∧iE (kH (yJ x) (kN x).toNat)=iE (kH (yJ x) n)∧True)
open Go Cv Go.Proofs
theorem yFh (s:List UInt8) (h:r3prodC.cnd s):z3o s:=by
 have h:s.length≤1099511627776:=h
 have hr:=zFq s
 unfold z3o cF rT qE aM dN
 refine⟨(0,0),rfl,rfl,rfl,fun x=>x.1≤s.length∧x.2+(gH s x.1).length=(kX s).length∧(kX s).all u7=((gH s x.1).all fun y=>u7 y.2),fun x=>s.length-x.1,⟨by omega,by rw[kX,ySm];simp,by rw[kX,List.all_map];rfl⟩,?_⟩
 rintro⟨p,n⟩ ⟨h1,h2,h3⟩
 dsimp only at h1 h2 h3 ⊢
 refine Cv.cnd.mk (fun hp=> ?_) (fun hp=> ?_)
 ·have hp:p<s.length:=by simpa[yVn]using hp
  have hw:=b8 s hp
  rw[j9 hp,yTc]at h2
  rw[j9 hp,List.all_cons]at h3
  generalize hc:(Utf8.decode (sb s) p).1=c at h2 h3 ⊢
  generalize hww:(Utf8.decode (sb s) p).2=w at h2 h3 hw ⊢
  dsimp only at h3
  have g0:∀b:Bool,(b=true→u7 c=true)→(b=false→u7 c=false)→b=u7 c:=fun b e1 e2=>by cases b<;>simp_all
  refine⟨true,fun b=>b= !u7 c,?_,fun b hb=> ?_⟩
  ·refine zL (fun c1=>zL (fun c2=>⟨_,rfl,?_,by(repeat'(first|exact trivial|exact rfl|apply And.intro))⟩) (fun c2=>zL (fun c3=>zL (fun c4=>⟨_,rfl,?_,by(repeat'(first|exact trivial|exact rfl|apply And.intro))⟩) (fun c4=>⟨_,rfl,?_,by(repeat'(first|exact trivial|exact rfl|apply And.intro))⟩)) (fun c3=>⟨_,rfl,?_,by(repeat'(first|exact trivial|exact rfl|apply And.intro))⟩))) (fun c1=>zL (fun c3=>zL (fun c4=>⟨_,rfl,?_,by(repeat'(first|exact trivial|exact rfl|apply And.intro))⟩) (fun c4=>⟨_,rfl,?_,by(repeat'(first|exact trivial|exact rfl|apply And.intro))⟩)) (fun c3=>⟨_,rfl,?_,by(repeat'(first|exact trivial|exact rfl|apply And.intro))⟩))
   all_goals congr 1
   all_goals refine g0 _ (fun e=> ?_) (fun e=> ?_)
   all_goals first|(simp[u7]at*;done)|(simp[u7]at*;omega)
  ·subst hb
   refine Cv.cnd.mk (fun e=>⟨(),?_,trivial⟩) (fun e=>⟨(p+w,n+1),?_,rfl,rfl,⟨hw.2,by(first|omega|(dsimp only;omega)),?_⟩,by(first|omega|(dsimp only;omega)),trivial⟩)
   ·have e:u7 c=false:=by simpa using e
    rw[jY,h3,e];rfl
   ·rw[w64 (by omega)];rfl
   ·have e:u7 c=true:=by simpa using e
    rw[h3,e];rfl
 ·have hp:s.length≤p:=by have:=z2w hp;simpa using this
  rw[dC hp]at h2 h3
  have h3:(kX s).all u7=true:=h3
  have hn:n=(kX s).length:=by simpa using h2
  have hne:(s=[])↔(kX s).length=0:=by
   constructor
   ·intro e;subst e;rfl
   ·intro e
    cases s with
    |nil=>rfl
    |cons b l=>
     rw[kX,ySm,j9 (by simp)]at e
     simp at e
  refine zL (fun c=>⟨(),?_,trivial⟩) (fun c=>⟨(),?_,trivial⟩)
  ·have:¬s=[]:=by rw[hne];omega
   rw[jY,h3,yTd this,hn]
   simp only[yTr]
   congr 1
   simp only[eq_iff_iff];omega
  ·have:s=[]:=by rw[hne];omega
   rw[jY,this];rfl
theorem z5k:r3prodC.ok Tryz.prog 101:=okw mixed gok0 0 (fun _=>yHc) (fun s=>yFs s) [] Tryz.func101 yFh
theorem pI:∀(l:List Int) (a:Int),l.foldl min a≤a∧∀x∈l,l.foldl min a≤x
 |[],a=>⟨yWf _,by simp⟩
 |b::l,a=>by
  obtain⟨h1,h2⟩:=pI l (min a b)
  rw[yVz]
  refine⟨by omega,fun x hx=> ?_⟩
  rcases yTb.1 hx with rfl|hx
  ·omega
  ·exact h2 x hx
theorem m8:∀(l:List Int) (a:Int),a≤l.foldl max a∧∀x∈l,x≤l.foldl max a
 |[],a=>⟨yWf _,by simp⟩
 |b::l,a=>by
  obtain⟨h1,h2⟩:=m8 l (max a b)
  rw[yVz]
  refine⟨by omega,fun x hx=> ?_⟩
  rcases yTb.1 hx with rfl|hx
  ·omega
  ·exact h2 x hx
theorem eY:∀(l:List Int) (a:Int),l.foldl min a=a∨l.foldl min a∈l
 |[],a=> .inl rfl
 |b::l,a=>by
  rw[yVz]
  rcases eY l (min a b)with h|h
  ·rcases Int.le_total a b with e|e
   ·left;rw[h];omega
   ·right;rw[h,show min a b=b by omega];exact ySp
  ·exact .inr (ySq _ h)
theorem eX:∀(l:List Int) (a:Int),l.foldl max a=a∨l.foldl max a∈l
 |[],a=> .inl rfl
 |b::l,a=>by
  rw[yVz]
  rcases eX l (max a b)with h|h
  ·rcases Int.le_total a b with e|e
   ·right;rw[h,show max a b=b by omega];exact ySp
   ·left;rw[h];omega
  ·exact .inr (ySq _ h)
theorem z4c {l:List Int} {x:Int} (h:x∈l):pK l≤x:=by
 cases l with
 |nil=>cases h
 |cons a l=>
  rw[pK,List.tail_cons,List.headD_cons]
  rcases yTb.1 h with rfl|h
  ·exact(pI l x).1
  ·exact(pI l a).2 x h
theorem z3b {l:List Int} {x:Int} (h:x∈l):x≤rE l:=by
 cases l with
 |nil=>cases h
 |cons a l=>
  rw[rE,List.tail_cons,List.headD_cons]
  rcases yTb.1 h with rfl|h
  ·exact(m8 l x).1
  ·exact(m8 l a).2 x h
theorem zUo {l:List Int} (h:l≠[]):pK l∈l:=by
 cases l with
 |nil=>exact absurd rfl h
 |cons a l=>
  rw[pK,List.tail_cons,List.headD_cons]
  rcases eY l a with h|h
  ·rw[h];exact ySp
  ·exact ySq _ h
theorem zUy {l:List Int} (h:l≠[]):rE l∈l:=by
 cases l with
 |nil=>exact absurd rfl h
 |cons a l=>
  rw[rE,List.tail_cons,List.headD_cons]
  rcases eX l a with h|h
  ·rw[h];exact ySp
  ·exact ySq _ h
theorem z8n (p:Prd) (h:r5checkC.cnd p):zVw p:=by
 obtain⟨h1,h2,h3⟩:p.small:=h
 unfold zVw yW kI rH rV mQ v9 bE xI wD dI
 simp only[yX]
 refine⟨p.code,rfl,h1,fun _ _=>Cv.cnd.mk (fun c1=>⟨(),by rw[Prd.check,ySk c1],trivial⟩) fun c1=> ?_⟩
 have c1:jY p.code=true:=by simpa using c1
 have e1:p.check=if !xJ p.months then 1 else if !qQ p then 22 else if qN p then 23 else if xL p then 1 else if kG p then 31 else if x5 p then 24 else 0:=by
  rw[Prd.check,ySj (by simp[c1])]
 refine⟨true,fun b=>b=(decide (p.months.length<2)||decide (p.months.length>6)),zL (fun c=>⟨true,rfl,?_,by(repeat'(first|exact trivial|exact rfl|apply And.intro))⟩) (fun c=>⟨_,rfl,?_,by(repeat'(first|exact trivial|exact rfl|apply And.intro))⟩),fun b hb=> ?_⟩
 ·rw[yTd (show p.months.length<2 by omega)];rfl
 ·rw[ySu (show ¬p.months.length<2 by omega),yVs]
  congr 1;simp only[eq_iff_iff];omega
 subst hb
 refine Cv.cnd.mk (fun c2=> ?_) (fun c2=> ?_)
 ·have:xJ p.months=false:=by
   simp only[yVy,yTo]at c2
   rw[xJ]
   rcases c2 with c2|c2
   ·rw[ySu (show ¬2≤p.months.length by omega)];simp
   ·rw[ySu (show ¬p.months.length≤6 by omega)];simp
  exact⟨(),by rw[e1,ySk (by rw[this];rfl)],trivial⟩
 have c2:2≤p.months.length∧p.months.length≤6:=by
  simp only[yWn,decide_eq_false_iff_not]at c2;omega
 have em:xJ p.months=(List.range p.months.length).all (qU p.months):=by
  rw[xJ,yTd c2.1,yTd c2.2];simp
 refine⟨0,rfl,fun j=>j≤p.months.length∧∀k<j,qU p.months k=true,fun j=>p.months.length-j,⟨by omega,fun k hk=>by omega⟩,?_⟩
 rintro j ⟨g1,g2⟩
 refine zL (fun hj=> ?_) (fun hj=> ?_)
 ·obtain⟨m,hm⟩:=z9 (l:=p.months) (i:=j) (by omega)
  have hmj:p.months.getD j 0=m:=zH hm
  refine⟨true,fun b=>b= !qU p.months j,⟨⟨by omega,by omega⟩,m,elI hm,zL (fun c=>⟨true,rfl,?_,by(repeat'(first|exact trivial|exact rfl|apply And.intro))⟩) (fun c=>⟨⟨by omega,by omega⟩,m,elI hm,zL (fun d=>⟨true,rfl,?_,by(repeat'(first|exact trivial|exact rfl|apply And.intro))⟩) (fun d=>zL (fun e=> ?_) (fun e=>⟨false,rfl,?_,by(repeat'(first|exact trivial|exact rfl|apply And.intro))⟩))⟩)⟩,fun b hb=> ?_⟩
  ·rw[qU,hmj,ySu (show ¬0≤m by omega)];rfl
  ·rw[qU,hmj,ySu (show ¬m≤1199 by omega)];simp
  ·obtain⟨m',hm'⟩:=z9 (l:=p.months) (i:=j-1) (by omega)
   rw[w64 (by omega),show((j:Int)-1).toNat=j-1 by omega]
   refine⟨⟨by omega,by omega⟩,m',elI hm',⟨by omega,by omega⟩,m,elI hm,_,rfl,?_,by(repeat'(first|exact trivial|exact rfl|apply And.intro))⟩
   rw[qU,hmj,zH hm',yTd (show 0≤m by omega),yTd (show m≤1199 by omega),ySu (show ¬j=0 by omega)]
   simp only[yTr,yVs]
   by_cases hlt:m'<m
   ·rw[yTd hlt,ySu (by omega)];rfl
   ·rw[ySu hlt,yTd (by omega)];rfl
  ·rw[qU,hmj,yTd (show 0≤m by omega),yTd (show m≤1199 by omega),yTd (show j=0 by omega)];rfl
  ·subst hb
   refine Cv.cnd.mk (fun c=>⟨(),?_,trivial⟩) (fun c=>⟨j+1,by rw[w64 (by omega)];rfl,⟨by omega,fun k hk=> ?_⟩,by(first|omega|(dsimp only;omega)),by(repeat'(first|exact trivial|exact rfl|apply And.intro))⟩)
   ·have c:qU p.months j=false:=by simpa using c
    rw[e1,ySk (by rw[em,zQh (k:=j) (by omega) c];rfl)]
   ·have c:qU p.months j=true:=by simpa using c
    rcases yUu k j with h|h
    ·exact g2 k h
    ·obtain rfl:k=j:=by omega
     exact c
 have em:xJ p.months=true:=by rw[em];exact zWi fun k hk=>g2 k (by omega)
 have e2:p.check=if !qQ p then 22 else if qN p then 23 else if xL p then 1 else if kG p then 31 else if x5 p then 24 else 0:=by
  rw[e1,ySj (by simp[em])]
 have et:qQ p=((decide (1≤p.tick) && decide (p.tick≤1000) && !qS p.tick p.low && !qS p.tick p.high && !qS p.tick p.wide) && !p.settle.any (qS p.tick)):=rfl
 refine⟨true,fun b=>b= !(decide (1≤p.tick) && decide (p.tick≤1000) && !qS p.tick p.low && !qS p.tick p.high && !qS p.tick p.wide),zL (fun d1=>⟨true,rfl,?_,by(repeat'(first|exact trivial|exact rfl|apply And.intro))⟩) (fun d1=>zL (fun d2=>⟨true,rfl,?_,by(repeat'(first|exact trivial|exact rfl|apply And.intro))⟩) (fun d2=>⟨trivial,by omega,Cv.cnd.mk (fun d3=>⟨true,rfl,?_,by(repeat'(first|exact trivial|exact rfl|apply And.intro))⟩) (fun d3=>⟨trivial,by omega,Cv.cnd.mk (fun d4=>⟨true,rfl,?_,by(repeat'(first|exact trivial|exact rfl|apply And.intro))⟩) (fun d4=>⟨trivial,by omega,_,rfl,?_,by(repeat'(first|exact trivial|exact rfl|apply And.intro))⟩)⟩)⟩)),fun b hb=> ?_⟩
 ·rw[ySu (show ¬1≤p.tick by omega)];rfl
 ·rw[ySu (show ¬p.tick≤1000 by omega)];simp
 ·have d3:qS p.tick p.low=true:=d3
  rw[d3];simp
 ·have d4:qS p.tick p.high=true:=d4
  rw[d4];simp
 ·have d3:qS p.tick p.low=false:=d3
  have d4:qS p.tick p.high=false:=d4
  rw[d3,d4,yTd (show 1≤p.tick by omega),yTd (show p.tick≤1000 by omega)]
  show qS p.tick p.wide=_
  simp
 subst hb
 refine Cv.cnd.mk (fun c3=> ?_) (fun c3=> ?_)
 ·have c3:(decide (1≤p.tick) && decide (p.tick≤1000) && !qS p.tick p.low && !qS p.tick p.high && !qS p.tick p.wide)=false:=by
   rw[yXl]at c3
   exact c3
  exact⟨(),by rw[e2,ySk (by rw[et,c3];rfl)],trivial⟩
 have c3:(decide (1≤p.tick) && decide (p.tick≤1000) && !qS p.tick p.low && !qS p.tick p.high && !qS p.tick p.wide)=true:=by simpa using c3
 have ht1:1≤p.tick:=by
  simp only[ySx,yTo]at c3;exact c3.1.1.1.1
 rw[c3,yTr]at et
 refine⟨0,rfl,fun j=>j≤p.settle.length∧∀k<j,∀x,p.settle[k]? =some x→qS p.tick x=false,fun j=>p.settle.length-j,⟨by omega,fun k hk=>by omega⟩,?_⟩
 rintro j ⟨g1,g2⟩
 refine zL (fun hj=> ?_) (fun hj=> ?_)
 ·obtain⟨m,hm⟩:=z9 (l:=p.settle) (i:=j) (by omega)
  refine⟨⟨by omega,by omega⟩,m,elI hm,trivial,by omega,Cv.cnd.mk (fun c=>⟨(),?_,trivial⟩) (fun c=>⟨j+1,by rw[w64 (by omega)];rfl,⟨by omega,fun k hk x hx=> ?_⟩,by(first|omega|(dsimp only;omega)),by(repeat'(first|exact trivial|exact rfl|apply And.intro))⟩)⟩
  ·have c:qS p.tick m=true:=c
   have:p.settle.any (qS p.tick)=true:=by rw[yYh];exact⟨m,ySt hm,c⟩
   rw[e2,ySk (by rw[et,this];rfl)]
  ·rcases yUu k j with h|h
   ·exact g2 k h x hx
   ·obtain rfl:k=j:=by omega
    rw[hm]at hx;cases hx;exact c
 have et:qQ p=true:=by
  rw[et]
  have:p.settle.any (qS p.tick)=false:=by
   rw[yXn]
   intro x hx
   obtain⟨k,hk⟩:=yXi hx
   rw[g2 k (by have:=(ySl.1 hk).1;omega) x hk];simp
  rw[this];rfl
 have e3:p.check=if qN p then 23 else if xL p then 1 else if kG p then 31 else if x5 p then 24 else 0:=by
  rw[e2,ySj (by simp[et])]
 refine⟨true,fun b=>b=qN p,zL (fun d1=>⟨true,rfl,?_,by(repeat'(first|exact trivial|exact rfl|apply And.intro))⟩) (fun d1=>zL (fun d2=>⟨true,rfl,?_,by(repeat'(first|exact trivial|exact rfl|apply And.intro))⟩) (fun d2=>zL (fun d3=>⟨true,rfl,?_,by(repeat'(first|exact trivial|exact rfl|apply And.intro))⟩) (fun d3=>zL (fun d4=>⟨true,rfl,?_,by(repeat'(first|exact trivial|exact rfl|apply And.intro))⟩) (fun d4=>⟨_,rfl,?_,by(repeat'(first|exact trivial|exact rfl|apply And.intro))⟩)))),fun b hb=> ?_⟩
 ·simp[qN,d1]
 ·simp[qN,d2]
 ·simp[qN,d3]
 ·simp[qN,d4]
 ·rw[w64 (by omega)];simp[qN,d1,d2,d3,d4]
 subst hb
 refine Cv.cnd.mk (fun c4=>⟨(),by rw[e3,ySk c4],trivial⟩) (fun c4=> ?_)
 have e4:p.check=if xL p then 1 else if kG p then 31 else if x5 p then 24 else 0:=by
  rw[e3,ySj (by simp[c4])]
 refine Cv.cnd.mk (fun d6=>⟨(),?_,trivial⟩) (fun d6=> ?_)
 ·have d6:¬(p.settle.length:Int)=p.months.length:=by simpa using d6
  rw[e4,ySk (by simp[xL];omega)]
 have d6:p.settle.length=p.months.length:=by
  have:(p.settle.length:Int)=p.months.length:=by simpa using d6
  omega
 have hne:p.settle≠[]:=by intro e;rw[e]at d6;simp at d6;omega
 refine⟨0,rfl,fun j=>j≤p.settle.length∧∀k<j,∀x,p.settle[k]? =some x→p.low≤x∧x≤p.high,fun j=>p.settle.length-j,⟨by omega,fun k hk=>by omega⟩,?_⟩
 rintro j ⟨g3,g4⟩
 refine zL (fun hj=> ?_) (fun hj=> ?_)
 ·obtain⟨m,hm⟩:=z9 (l:=p.settle) (i:=j) (by omega)
  have hmm:=ySt hm
  refine⟨true,fun b=>b=(decide (m<p.low)||decide (m>p.high)),⟨⟨by omega,by omega⟩,m,elI hm,zL (fun c=>⟨true,rfl,?_,by(repeat'(first|exact trivial|exact rfl|apply And.intro))⟩) (fun c=>⟨⟨by omega,by omega⟩,m,elI hm,_,rfl,?_,by(repeat'(first|exact trivial|exact rfl|apply And.intro))⟩)⟩,fun b hb=> ?_⟩
  ·rw[yTd c];rfl
  ·rw[ySu c,yVs]
  ·subst hb
   refine Cv.cnd.mk (fun c=>⟨(),?_,trivial⟩) (fun c=>⟨j+1,by rw[w64 (by omega)];rfl,⟨by omega,fun k hk x hx=> ?_⟩,by(first|omega|(dsimp only;omega)),by(repeat'(first|exact trivial|exact rfl|apply And.intro))⟩)
   ·have l1:=z4c hmm
    have l2:=z3b hmm
    rw[e4,ySk (by
     simp only[yVy,yTo]at c
     simp only[xL,yVy,yTo]
     rcases c with c|c
     ·left;right;omega
     ·right;omega)]
   ·rcases yUu k j with h|h
    ·exact g4 k h x hx
    ·obtain rfl:k=j:=by omega
     rw[hm]at hx;cases hx
     simp only[yWn,decide_eq_false_iff_not]at c
     omega
 have hset:xL p=false:=by
  have all:∀x∈p.settle,p.low≤x∧x≤p.high:=fun x hx=>by
   obtain⟨k,hk⟩:=yXi hx
   exact g4 k (by have:=(ySl.1 hk).1;omega) x hk
  have a1:=all _ (zUo hne)
  have a2:=all _ (zUy hne)
  simp only[xL,yWn,decide_eq_false_iff_not]
  omega
 have e5:p.check=if kG p then 31 else if x5 p then 24 else 0:=by
  rw[e4,ySj (by simp[hset])]
 refine⟨true,fun b=>b=kG p,zL (fun d1=>⟨true,rfl,?_,by(repeat'(first|exact trivial|exact rfl|apply And.intro))⟩) (fun d1=>⟨_,rfl,?_,by(repeat'(first|exact trivial|exact rfl|apply And.intro))⟩),fun b hb=> ?_⟩
 ·simp[kG,d1]
 ·simp[kG,d1]
 subst hb
 refine Cv.cnd.mk (fun c6=>⟨(),by rw[e5,ySk c6],trivial⟩) (fun c6=> ?_)
 have e6:p.check=if x5 p then 24 else 0:=by rw[e5,ySj (by simp[c6])]
 refine⟨true,fun b=>b=x5 p,zL (fun d1=>⟨true,rfl,?_,by(repeat'(first|exact trivial|exact rfl|apply And.intro))⟩) (fun d1=>zL (fun d2=>⟨true,rfl,?_,by(repeat'(first|exact trivial|exact rfl|apply And.intro))⟩) (fun d2=>zL (fun d3=>⟨true,rfl,?_,by(repeat'(first|exact trivial|exact rfl|apply And.intro))⟩) (fun d3=>zL (fun d4=>⟨true,rfl,?_,by(repeat'(first|exact trivial|exact rfl|apply And.intro))⟩) (fun d4=>zL (fun d5=>⟨true,rfl,?_,by(repeat'(first|exact trivial|exact rfl|apply And.intro))⟩) (fun d5=>⟨_,rfl,?_,by(repeat'(first|exact trivial|exact rfl|apply And.intro))⟩))))),fun b hb=> ?_⟩
 ·simp[x5,d1]
 ·simp[x5,d2]
 ·simp[x5,d3]
 ·simp[x5,d4]
 ·simp[x5,d5]
 ·simp[x5,d1,d2,d3,d4,d5]
 subst hb
 exact Cv.cnd.mk (fun c7=>⟨(),by rw[e6,ySk c7],trivial⟩) (fun c7=>⟨(),by rw[e6,ySj (by simp[c7])],trivial⟩)
theorem zJn:r5checkC.ok Tryz.prog 77:=okw mixed (gokc z5k gok0) 0 (fun _=>yAh) (fun _=>yAm) [] Tryz.func77 z8n
theorem gJ {p:Prd} (h:p.check=0):p.count=p.months.length+p.months.length*(p.months.length-1) / 2:=by rw[Prd.count,ySk h]
theorem zKt {p:Prd} (h:p.check≠0):p.count=0:=by rw[Prd.count,ySj h]
theorem z8a (p:Prd) (h:r5countC.cnd p):zUb p:=by
 have hs:p.small:=h
 unfold zUb pZ xI zS
 simp only[yX]
 refine⟨p,rfl,rfl,rfl,rfl,rfl,rfl,rfl,rfl,rfl,rfl,rfl,hs,fun _ _=>Cv.cnd.mk (fun c=>⟨(),?_,trivial⟩) (fun c=>⟨trivial,by decide,(),?_,trivial⟩)⟩
 ·rw[zKt (by simpa using c)];rfl
 ·have c:p.check=0:=by simpa using c
  have m6:=(qM c).m6
  have m2:=(qM c).m2
  rw[gJ c]
  generalize p.months.length=n at*
  have:n=2∨n=3∨n=4∨n=5∨n=6:=by omega
  rcases this with rfl|rfl|rfl|rfl|rfl<;>decide
theorem z0a:r5countC.ok Tryz.prog 46:=okw mixed (gokc zJn gok0) 0 (fun _=>[]) (fun _=>[]) [] Tryz.func46 z8a
theorem zXd:∀n≤6,∀a<n,∀b<n-1-a,kF n (yI n a+b) n 0=((a:Int),((a+1+b:Nat):Int),true)∧yI n a+b<n+n*(n-1) / 2∧n≤yI n a+b:=by decide
theorem z5z:∀n≤6,yI n n=n+n*(n-1) / 2:=by decide
theorem z1h {p:Prd} (h:p.check=0) {a b:Nat} (ha:a<p.months.length) (hb:b<p.months.length-1-a):p.legs ((yI p.months.length a+b:Nat):Int)=((a:Int),((a+1+b:Nat):Int),true):=by
 obtain⟨h1,h2,h3⟩:=zXd _ (qM h).m6 a ha b hb
 rw[Prd.legs,ySj (by rw[gJ h];omega),ySj (by omega),ySy]
 exact h1
theorem yEn (i:dP) (h:r5legsC.cnd i):z3z i:=by
 have hs:i.p.small:=h
 unfold z3z gK zDe nK wN uG tA gT zS dI
 simp only[yX]
 refine⟨i.p,rfl,rfl,rfl,rfl,rfl,rfl,rfl,rfl,rfl,rfl,rfl,hs,fun _ _=>Cv.cnd.mk (fun c=> ?_) (fun c=>zL (fun c1=> ?_) (fun c1=>zL (fun c2=> ?_) (fun c2=> ?_)))⟩
 ·rw[Prd.legs,ySk (by rw[zKt (by simpa using c)];omega)];(repeat'(first|exact rfl|exact trivial|assumption|apply And.intro|refine fun(_:Unit) (_:True)=>?_|refine Exists.intro () ?_|omega|(dsimp only;omega)))
 ·rw[Prd.legs,ySk (.inl c1)];(repeat'(first|exact rfl|exact trivial|assumption|apply And.intro|refine fun(_:Unit) (_:True)=>?_|refine Exists.intro () ?_|omega|(dsimp only;omega)))
 ·have c:i.p.check=0:=by simpa using c
  rw[Prd.legs,ySj (by rw[gJ c];omega),ySk c2];(repeat'(first|exact rfl|exact trivial|assumption|apply And.intro|refine fun(_:Unit) (_:True)=>?_|refine Exists.intro () ?_|omega|(dsimp only;omega)))
 ·have c:i.p.check=0:=by simpa using c
  have m6:=(qM c).m6
  obtain⟨k,hk⟩:∃k:Nat,i.n=k:=⟨i.n.toNat,by omega⟩
  have sp:=fun(a b:Nat) ha hb=>z1h (p:=i.p) c (a:=a) (b:=b) ha hb
  have fe:=z5z _ m6
  have out:i.p.count≤k→i.p.legs (k:Int)=(0,0,false):=fun e=>by rw[Prd.legs,ySk (by omega)]
  rw[gJ c,← fe]at out
  rw[hk]at c2 ⊢
  generalize hn:i.p.months.length=n at*
  refine⟨0,rfl,rfl,fun m=>m≤n∧yI n m≤k,fun m=>n-m,⟨by omega,by show n≤k;omega⟩,?_⟩
  rintro m ⟨g1,g2⟩
  have hf:=zJw m6 g1
  refine zL (fun c4=> ?_) (fun c4=> ?_)
  ·refine⟨(m,0),rfl,rfl,by rw[w64 (by omega)];simp,fun x=>x.1=m∧x.2≤n-1-m∧yI n m+x.2≤k,fun x=>n-1-m-x.2,⟨rfl,by(first|omega|(dsimp only;omega)),by(first|omega|(dsimp only;omega))⟩,?_⟩
   rintro⟨a,b⟩ ⟨g3,g4,g5⟩
   dsimp only at g3 g4 g5 ⊢
   subst g3
   refine zL (fun c5=>Cv.cnd.mk (fun e=> ?_) (fun e=> ?_)) (fun c5=> ?_)
   ·have e:((yI n a+b:Nat):Int)=(k:Int):=by simpa using e
    have:=sp a b (by omega) (by omega)
    rw[e]at this
    rw[this];(repeat'(first|exact rfl|exact trivial|assumption|apply And.intro|refine fun(_:Unit) (_:True)=>?_|refine Exists.intro () ?_|omega|(dsimp only;omega)))
   ·have e:¬((yI n a+b:Nat):Int)=(k:Int):=by simpa using e
    refine⟨(a,b+1),?_,rfl,?_,⟨rfl,by(first|omega|(dsimp only;omega)),by(first|omega|(dsimp only;omega))⟩,by(first|omega|(dsimp only;omega)),by(repeat'(first|exact trivial|exact rfl|apply And.intro))⟩
    ·rw[w64 (by omega)];dsimp only;omega
    ·rw[w64 (by omega)];dsimp only;omega
   ·refine⟨a+1,?_,by rw[w64 (by omega)];rfl,⟨by omega,?_⟩,by(first|omega|(dsimp only;omega)),by(repeat'(first|exact trivial|exact rfl|apply And.intro))⟩
    ·rw[yI];omega
    ·rw[yI];omega
  ·obtain rfl:m=n:=by omega
   rw[out g2];(repeat'(first|exact rfl|exact trivial|assumption|apply And.intro|refine fun(_:Unit) (_:True)=>?_|refine Exists.intro () ?_|omega|(dsimp only;omega)))
theorem z6a:r5legsC.ok Tryz.prog 47:=okw mixed (gokc zJn gok0) 0 (fun _=>[]) (fun i=>yEe i) [] Tryz.func47 yEn
theorem zHa {p:Prd} (h:p.check=0) {i:Int} (h0:0≤i) (h1:i<p.count):(p.legs i).2.2=decide ((p.months.length:Int)≤i):=by
 by_cases hl:i<p.months.length
 ·rw[Prd.legs,ySj (by omega),ySk hl,ySu (by omega)]
 ·have m6:=(qM h).m6
  rw[yTd (by omega),Prd.legs,ySj (by omega),ySj hl]
  rw[gJ h]at h1
  obtain⟨k,rfl⟩:∃k:Nat,i=k:=⟨i.toNat,by omega⟩
  have fin:∀n≤6,∀k<n+n*(n-1) / 2,n≤k→(kF n k n 0).2.2=true:=by decide
  exact fin _ m6 k (by omega) (by omega)
theorem zVi (x:Prd):1≤yJ x∧yJ x≤10:=by
 have:=xO (n:=x.tick) (lo:=0) (hi:=9) (by omega)
 rw[yJ];omega
theorem yCq (x:Prd):2≤kN x∧kN x≤5:=by
 have:=xO (n:=(x.months.length:Int)) (lo:=0) (hi:=3) (by omega)
 rw[kN];omega
theorem zKs {a b m n:Int} (ha:0≤a∧a≤m) (hb:0≤b∧b≤n):0≤a*b∧a*b≤m*n:=by
 refine⟨yYn ha.1 hb.1,?_⟩
 exact Int.le_trans (Int.mul_le_mul_of_nonneg_right ha.2 hb.1) (yXo hb.2 (by omega))
theorem zQz (j:Nat):iE (jK (j+1))=iE (jK j)++[[D.v (.int .i64 (10*(j:Int)+3))]]:=by
 rw[jK,yXj,ySv,iE,ySv];rfl
theorem zSw (t:Int) (j:Nat):iE (kH t (j+1))=iE (kH t j)++[[D.v (.int .i64 (t*(10+(j:Int))))]]:=by
 rw[kH,yXj,ySv,iE,ySv];rfl
theorem rX (j:Nat):(jK j).length=j:=by simp[jK]
theorem aK (t:Int) (j:Nat):(kH t j).length=j:=by simp[kH]
theorem yJx (x:Prd) (h:kprodC.cnd x):z8p x:=by
 obtain⟨h1,h2,h3,h4,h5,h6,h7⟩:x.raw:=h
 have hw: -1000000≤(0:Int):=by decide
 have bt:=xO (n:=x.tick) (lo:=0) (hi:=9) (by omega)
 have bw:=xO (n:=x.wide) (lo:=0) (hi:=60) (by omega)
 have br:=xO (n:=x.rule) (lo:=0) (hi:=2) (by omega)
 have bl:=xO (n:=x.least) (lo:=0) (hi:=4) (by omega)
 have bn:=xO (n:=(x.months.length:Int)) (lo:=0) (hi:=3) (by omega)
 have kt:=zVi x
 have kn:=yCq x
 have w1:IntKind.i64.wrap (1+zJ x.tick 0 9)=yJ x:=w64 (by omega)
 have w2:IntKind.i64.wrap (-20*IntKind.i64.wrap (1+zJ x.tick 0 9))= -20*yJ x:=by rw[w1];exact w64 (by omega)
 have w3:IntKind.i64.wrap (100*IntKind.i64.wrap (1+zJ x.tick 0 9))=100*yJ x:=by rw[w1];exact w64 (by omega)
 have w4:IntKind.i64.wrap (1+zJ x.rule 0 2)=1+zJ x.rule 0 2:=w64 (by omega)
 have w5:IntKind.i64.wrap (1+zJ x.least 0 4)=1+zJ x.least 0 4:=w64 (by omega)
 have w6:IntKind.i64.wrap (2+zJ x.months.length 0 3)=kN x:=w64 (by omega)
 have mb:=zKs (a:=yJ x) (b:=5+zJ x.wide 0 60) (m:=10) (n:=65) (by omega) (by omega)
 have w7:IntKind.i64.wrap (IntKind.i64.wrap (1+zJ x.tick 0 9)*IntKind.i64.wrap (5+zJ x.wide 0 60))=yJ x*(5+zJ x.wide 0 60):=by
  rw[w1,w64 (x:=5+zJ x.wide 0 60) (by omega)];exact w64 (by omega)
 unfold z8p zDq zDj zDv zGd zDr mQ v9 bE dF x4 xB xI dI
 simp only[yX]
 refine⟨⟨x.months.length,0,3⟩,rfl,rfl,rfl,⟨⟨by dsimp only;omega,by dsimp only;omega⟩,by dsimp only;omega,by dsimp only;omega,by dsimp only;omega⟩,fun _ _=>⟨⟨x.tick,0,9⟩,rfl,rfl,rfl,⟨h1,by dsimp only;omega,by dsimp only;omega,by dsimp only;omega⟩,fun _ _=> ?_⟩⟩
 dsimp only
 refine⟨(),fun _=>True,?_,fun _ _=> ?_⟩
 ·repeat'(first|exact trivial|exact rfl|exact w1.symm|exact w2.symm|exact w3.symm|exact w4.symm|exact w5.symm|apply And.intro|refine⟨⟨x.rule,0,2⟩,rfl,rfl,rfl,⟨h3,by dsimp only;omega,by dsimp only;omega,by dsimp only;omega⟩,fun _ _=> ?_⟩|refine⟨⟨x.top,0,9⟩,rfl,rfl,rfl,⟨h4,by dsimp only;omega,by dsimp only;omega,by dsimp only;omega⟩,fun _ _=> ?_⟩|refine⟨⟨x.least,0,4⟩,rfl,rfl,rfl,⟨h5,by dsimp only;omega,by dsimp only;omega,by dsimp only;omega⟩,fun _ _=> ?_⟩|refine⟨⟨x.part,0,100⟩,rfl,rfl,rfl,⟨h6,by dsimp only;omega,by dsimp only;omega,by dsimp only;omega⟩,fun _ _=> ?_⟩|refine⟨(),?_⟩)
 ·refine⟨⟨x.wide,0,60⟩,rfl,rfl,rfl,⟨h2,by dsimp only;omega,by dsimp only;omega,by dsimp only;omega⟩,fun _ _=> ?_⟩
  dsimp only
  rw[w7,w6]
  refine⟨0,by(first|exact rfl|exact trivial),by(first|exact rfl|exact trivial),by(first|exact rfl|exact trivial),by(first|exact rfl|exact trivial),by(first|exact rfl|exact trivial),by(first|exact rfl|exact trivial),by(first|exact rfl|exact trivial),by(first|exact rfl|exact trivial),by(first|exact rfl|exact trivial),by(first|exact rfl|exact trivial),by(first|exact rfl|exact trivial),by(first|exact rfl|exact trivial),fun j=>j≤(kN x).toNat,fun j=>(kN x).toNat-j,by omega,?_⟩
  intro j hj
  rw[rX,aK]
  refine zL (fun c=>⟨by omega,by omega,j+1,by rw[w64 (by omega)];rfl,by(first|exact rfl|exact trivial),by(first|exact rfl|exact trivial),by(first|exact rfl|exact trivial),by(first|exact rfl|exact trivial),by(first|exact rfl|exact trivial),by(first|exact rfl|exact trivial),by(first|exact rfl|exact trivial),by(first|exact rfl|exact trivial),by(first|exact rfl|exact trivial),?_,?_,by(first|omega|(dsimp only;omega)),by(first|omega|(dsimp only;omega)),by(repeat'(first|exact trivial|exact rfl|apply And.intro))⟩) (fun c=>⟨(),?_⟩)
  ·rw[zQz,w64 (x:=10*(j:Int)) (by omega),w64 (by omega)]
  ·have mj:=zKs (a:=yJ x) (b:=10+(j:Int)) (m:=10) (n:=20) (by omega) (by omega)
   rw[zSw,w1,w64 (x:=10+(j:Int)) (by omega),w64 (by omega)]
  ·have e:(kN x).toNat=j:=by omega
   rw[e];(repeat'(first|exact trivial|exact rfl|apply And.intro))
theorem kprod_ok:kprodC.ok Tryz.prog 20:=okw mixed (gokc zPo gok0) 0 (fun x=>yMo x) (fun x=>yNv x) [] Tryz.func20 yJx
open Go Cv Go.Proofs
structure Cmd where
 kind:Int
 id:Int
 inst:Int
 side:Int
 price:Int
 qty:Int
 least:Int
 time:Int
 label:List UInt8
 deriving DecidableEq
@[reducible] def Cmd.cells (c:Cmd):List V:=[zA c.kind,zA c.id,zA c.inst,zA c.side,zA c.price,zA c.qty,zA c.least,zA c.time,sV c.label]
@[reducible] def zNj (c:Cmd):V:= .agg c.cells
def cmdE (c:Cmd):List D:=[.v (.int .i64 c.kind),.v (.int .i64 c.id),.v (.int .i64 c.inst),.v (.int .i64 c.side),.v (.int .i64 c.price),.v (.int .i64 c.qty),.v (.int .i64 c.least),.v (.int .i64 c.time),.v (.string (sb c.label))]
@[reducible] def Cmd.raw (c:Cmd):Prop:=yZ c.kind∧yZ c.id∧yZ c.inst∧yZ c.side∧yZ c.price∧yZ c.qty∧yZ c.least∧yZ c.time
structure TmI where
 p:Prd
 c:Cmd
 i:Int
def aV (c:Cmd):Int:=if 4<1+zJ c.kind 0 8 then 1 else 1+zJ c.kind 0 8
def xH (t:TmI):Cmd:=⟨aV t.c,1+zJ t.c.id 0 30,zJ t.c.inst 0 (t.p.count-1),1+zJ t.c.side 0 1,t.p.tick*zJ t.c.price 0 9,1+zJ t.c.qty 0 11,0,0,[]⟩
def aX (c:Cmd):Int:=if c.time.tmod 5=3 then 3 else if c.time.tmod 5=2 then 2 else 1
def tC (c:Cmd) (q:Int):Int:=if c.least.tmod 4=1 then zJ c.least 0 q else 0
def qZ (t:TmI):Cmd:=
 let h:=xH t
 if h.kind=1 then{h with id:=t.i+1,time:=aX t.c,least:=tC t.c h.qty,price:=if(t.p.legs h.inst).2.2=true then h.price-4*t.p.tick else h.price+8*t.p.tick}
 else{h with price:=if h.kind=4 then h.price+5*t.p.tick else h.price,side:=0,inst:=0}
def tameC:Con:=con1 TmI (fun t=>[prdV t.p,zNj t.c,zA t.i]) (fun _=>[]) (fun t=>t.p.check=0∧t.p.small∧t.c.raw∧0≤t.i∧t.i≤1000000) (fun t=>zNj (qZ t)) (fun _=>[])
def cj (k:Nat):Nat×SAnn:=(k,{ι:=Cmd,slots:=fun _=>[(7,.nm 0 0)],slots0:=fun _=>[(7,.nm 0 0)],rows0:=fun c=>[.cells c.cells 35],rows:=fun c=>[.cells c.cells 35]})
def yQm:List (Nat×SAnn):=[cj 14,cj 54,cj 62,cj 70]
structure AbI where
 x:Prd
 l:List Cmd
def Top.pr (t:Top) (s:Nat):Int:=if s=0 then t.p1 else t.p2
def Top.hs (t:Top) (s:Nat):Bool:=if s=0 then t.has1 else t.has2
def zIf (T:List Top) (k:Nat):Bool:=(T.getD k top0).has1 && ((T.getD k top0).has2 && decide ((T.getD k top0).p1≥(T.getD k top0).p2))
def z0i (p:Prd) (T:List Top) (k s:Nat):Bool:=
 let a:=T.getD (p.legs k).1.toNat top0
 let b:=T.getD (p.legs k).2.1.toNat top0
 let c:=T.getD k top0
 a.hs s && b.hs (1-s) && c.hs (1-s) && (if s=0 then decide (a.pr s-b.pr (1-s)≥c.pr (1-s))else decide (a.pr s-b.pr (1-s)≤c.pr (1-s))) &&
  (decide (p.price k (a.pr s-b.pr (1-s))=0)||decide (p.price (p.legs k).1 (c.pr (1-s)+b.pr (1-s))=0)||decide (p.price (p.legs k).2.1 (a.pr s-c.pr (1-s))=0))
def lY (p:Prd) (T:List Top) (k:Nat):Bool:=(p.legs k).2.2 && (z0i p T k 0||z0i p T k 1)
end Sx
