/- Texts of ours. No condition. -/
import Derived.Laws.AppendOwn
import Derived.Lib.AppendZerosOnto
import Derived.Lib.Overlaps
import Derived.Test.YtaafldgiafcgfaaGreatC5
set_option linter.all false
open List renaming map->aa,take->ab,drop->ac
open Go.IntKind renaming i64->ae
open Sx.AObj renaming adt->af,own->ag,cells->aj,objs->ak,fro->am,map->ao
open And renaming intro->ap
open Go.Builtin renaming zeroCells->aq,copy_->ar,firstCells->au,append_->av
open Bool renaming true->aw,false->ax
open Option renaming some->ay,none->az
open Go.Value renaming int->ba
open Exists renaming intro->bc
open Go renaming Value->be,World->bg,Program->bo,Addr->bu,size_zeroCells->bv,TypeId->bz
namespace Sx
set_option maxRecDepth 100000
open Go Cv Go.Proofs
def dR (l:List (Int×Int)) (k:Int):∀(p:be×List D),p∈yO l->like (ba ae k) p.1=aw:=λp hp=>yIw l k p hp
def zWq (k v:Int):∀l,uH (ba ae k) [D.v (.int .i64 v)] (yO l)=yO (z0e k v l)
 |[]=>rfl
 |(a,b)::l=>by
  have ih:=zWq k v l;show(bif (keq .i64 .i64 && decide (k=a))then _ else _::uH _ _ (yO l))=_;rw[ih,z0e];by_cases h:k=a
  ·subst h;simp[keq,yO]
  ·simp[h,yO]
def z1e (k:Int):∀l,zBi (ba ae k) (yO l)=yO (z1f k l)
 |[]=>rfl
 |(a,b)::l=>by
  have ih:=z1e k l;show(bif (keq .i64 .i64 && decide (k=a))then yO l else _::zBi _ (yO l))=_;rw[ih,z1f];by_cases h:k=a
  ·subst h;simp[keq]
  ·simp[h,yO]
def yUp (l:List (Int×Int)) (k:Int):kK (ba ae k) (yO l)=ay [D.v (.int .i64 ((zDh l k).getD 0))]/\(zDh l k).isSome=aw\/kK (ba ae k) (yO l)=az/\[D.v (.int .i64 ((zDh l k).getD 0))]=[D.v (.int .i64 0)]/\(zDh l k).isSome=ax:=by
 rw[pL];cases zDh l k with
 |none=>exact .inr ⟨rfl,rfl,rfl⟩
 |some v=>exact .inl ⟨rfl,rfl⟩
def zWy (a b:Int):(a==b)=decide (a=b):=by
 by_cases h:a=b
 ·subst h;simp
 ·simp[h]
def zZi (n:Int):(dA n).small:=⟨by simp[dA],by simp[dA],by simp[dA]⟩
def yS {n lo hi:Int} (h:lo<=hi):lo<=zF n lo hi/\zF n lo hi<=hi:=by
 rw[zF];have h1:=xBb n (show hi-lo+1≠0 by omega);have h2:=xBc n (show 0<hi-lo+1 by omega);omega
open Go Go.RowKit Cv
def zAi {P:bo} {dT sT ty e sz by_:Nat} {z:Array be} (hi:vP P dT=ay (e,sz,by_,z)) {w:bg} {g o dLen dCap b so sLen sCap n:Nat} {cur src:List be} {T T':bz} {fr:Nat×Nat}
 (hg:w.heap[g]? =ay (.cells cur.toArray T (0,0))) (hs:w.heap[b]? =ay (.cells src.toArray T' fr)) (hn:Nat.min sLen dLen=n) (h1:so+n*sz<=src.length) (h2:o+n*sz<=cur.length)
 (hone:∀v∈(src.drop so).take (n*sz),v.oneC=aw):
 u0 P (ar #[dT,sT] ty #[.slice (ay ⟨g,o,az⟩) dLen dCap,.slice (ay ⟨b,so,az⟩) sLen sCap]) w (.int .i64 n) (World.setB w g (.cells (spl cur o ((src.drop so).take (n*sz))).toArray T (0,0))):=by
 obtain⟨i,zv,q1,q2,rfl,rfl,q5,rfl⟩:=kH hi;have hl:((src.drop so).take (n*i.size)).length=n*i.size:=by rw[y5t,y5z];omega
 have hst:=wA (P:=P) ((src.drop so).take (n*i.size)) 0 o cur w hg (by rw[hl];omega) hone;simp only[y9n]at hst;unfold u0 ar;simp only[y7d,y7m,y7b,bind,pure,run_bind,Sem.bind,Sem.run,Cv.run_underlying q1,Cv.run_sizeOf q2,Builtin.lenOf,hn,au,u7 hs h1,hst];rfl
def Hp.apart {k:Ko} {w:bg} {b c:Nat} {o o':Obj} {L:List HP} (H:Hp k w (pt b o::pt c o'::L)):b≠c:=by
 obtain⟨hk,hs,hh⟩:=H;cases hh with
 |cons ha hsub hd hr=>
  cases hr with
  |cons hb hsub2 hd2 hr2=>
   intro e;subst e;have:=hd _ y5h b;rw[show _=one b o from ha,show _=one b o' from hb]at this;simp[one]at this
def yVw (P:bo) (tS tI sz fO fR:Nat) (s:Option bu) (sn sk:Nat) (i:Int) (v:Option bu) (vn vk:Nat) (w:bg) (R:Ending->bg->Prop):Prop:=
slN s sn sk (ay i) az sz λa1 na1 ka1=>
cnd (((vn:Int):Int)==0) (
R (.returned (.slice s sn sk)) w) (
cnd ((i:Int)==(sn:Int)) (
∃(a2:Option bu) (na2 ka2:Nat),∃w3:bg,u0 P (av #[tS,tS] tS #[.slice s sn sk,.slice v vn vk]) w (.slice a2 na2 ka2) w3/\
R (.returned (.slice a2 na2 ka2)) w3) (
cnd (decide ((ae.wrap ((sn:Int)+(vn:Int)):Int)>(sk:Int))) (
slN s sn sk az (ay i) sz λa4 na4 ka4=>
∃(a5:Option bu) (na5 ka5:Nat),∃w6:bg,u0 P (av #[tS,tI] tS #[.slice a4 na4 ka4,.int .i64 (ae.wrap (ae.wrap ((sn:Int)+(vn:Int))-i))]) w (.slice a5 na5 ka5) w6/\
slN a5 na5 ka5 (ay i) az sz λa7 na7 ka7=>
∃x8:Int,∃w9:bg,u0 P (ar #[tS,tS] tI #[.slice a7 na7 ka7,.slice v vn vk]) w6 (.int .i64 x8) w9/\
z8a w9 λw10=>
slN a5 na5 ka5 (ay (ae.wrap (i+(vn:Int)))) az sz λa11 na11 ka11=>
slN s sn sk (ay i) az sz λa12 na12 ka12=>
∃x13:Int,∃w14:bg,u0 P (ar #[tS,tS] tI #[.slice a11 na11 ka11,.slice a12 na12 ka12]) w10 (.int .i64 x13) w14/\
R (.returned (.slice a5 na5 ka5)) w14) (
slN s sn sk az (ay (ae.wrap ((sn:Int)+(vn:Int)))) sz λa15 na15 ka15=>
slN a15 na15 ka15 (ay (ae.wrap (i+(vn:Int)))) az sz λa16 na16 ka16=>
∃c17:Bool,∃w18:bg,Cv.Ext P fO #[.slice v vn vk,.slice a16 na16 ka16] w (.bool c17) w18/\
cnd (!c17) (
z8a w18 λw19=>
slN a15 na15 ka15 (ay (ae.wrap (i+(vn:Int)))) az sz λa20 na20 ka20=>
slN a15 na15 ka15 (ay i) az sz λa21 na21 ka21=>
∃x22:Int,∃w23:bg,u0 P (ar #[tS,tS] tI #[.slice a20 na20 ka20,.slice a21 na21 ka21]) w19 (.int .i64 x22) w23/\
slN a15 na15 ka15 (ay i) az sz λa24 na24 ka24=>
∃x25:Int,∃w26:bg,u0 P (ar #[tS,tS] tI #[.slice a24 na24 ka24,.slice v vn vk]) w23 (.int .i64 x25) w26/\
R (.returned (.slice a15 na15 ka15)) w26) (
slN a15 na15 ka15 (ay (sn:Int)) az sz λa27 na27 ka27=>
∃x28:Int,∃w29:bg,u0 P (ar #[tS,tS] tI #[.slice a27 na27 ka27,.slice v vn vk]) w18 (.int .i64 x28) w29/\
slN a15 na15 ka15 (ay i) az sz λa30 na30 ka30=>
Calls P fR #[.slice a30 na30 ka30,.int .i64 (vn:Int)] w29 λe32 w31=>e32= .returned (.tuple #[])/\
R (.returned (.slice a15 na15 ka15)) w31))))
def yBv {α:Type} {l m:Nat} {xs r ys:List α} (hl:l<=xs.length) (hy:ys.length=m) (hr:m<=r.length):
 ((xs++r).take (l+m)++xs.drop l++(xs++r).drop (l+m+(xs.drop l).length)).take l++ys++((xs++r).take (l+m)++xs.drop l++(xs++r).drop (l+m+(xs.drop l).length)).drop (l+ys.length)=(xs.take l++ys++xs.drop l)++r.drop m:=by
 have e1:(xs++r).drop (l+m+(xs.drop l).length)=r.drop m:=by
  rw[y5z,show l+m+(xs.length-l)=xs.length+m by omega,xAe];simp
 have e2:((xs++r).take (l+m)++xs.drop l++r.drop m).take l=xs.take l:=by
  rw[y5i,y5y (by rw[y5t,y5a];omega),xBi,y8u (by omega),y5y hl]
 have e3:((xs++r).take (l+m)++xs.drop l++r.drop m).drop (l+ys.length)=xs.drop l++r.drop m:=by
  have:((xs++r).take (l+m)).length=l+m:=by rw[y5t,y5a];omega
  rw[y5i,hy,xAe,this,xAp,y8q,y8j (by omega),y7v]
 rw[e1,e2,e3];simp
def zVq (A Z Y:List be):spl (A++Z) A.length Y=A++Y++Z.drop Y.length:=by
 simp only[spl];rw[xBj,xAe];simp
def zHh {b o n c i:Nat} (h:c≠i):(if c=i then(ay ⟨b,o,az⟩:Option bu)else(ay ⟨b,o,az⟩:Option bu).map (·.add n))=ay ⟨b,o+n,az⟩:=by
 rw[y5b h,y7e,vU]
def zTl (P:bo) (fO:Nat):Prop:=∀(w:bg) (va sb so la ca lb cb:Nat) (c c':Array be) (T T':bz),va≠sb->w.heap[va]?=ay (.cells c T (0,0))->w.heap[sb]?=ay (.cells c' T' (0,0))->c'.size≠0->
 Cv.Ext P fO #[.slice (ay ⟨va,0,az⟩) la ca,.slice (ay ⟨sb,so,az⟩) lb cb] w (.bool ax) w
def yMx {P : Program} {fO tS tB e sz by_ : Nat} {z : Array Value} {fn : Func} (hf : P.funcs[fO]? = some fn) (hname : (fn.name == "runtime.NumGoroutine") = false) (hb : fn.body.isNone = true) (hn : Extern.findNext fn = none) (he : Extern.find fn = some (Extern.SlicesOverlaps.overlaps #[tS, tS] #[tB]))
 (hi:vP P tS=ay (e,sz,by_,z)):zTl P fO:=by
 obtain⟨i,zv,q1,q2,rfl,rfl,q5,rfl⟩:=kH hi;intro w va sb so la ca lb cb c c' T T' hne h1 h2 h3;unfold Cv.Ext;rw[run_callFunc_extern hf hname hb hn he,Lib.run_overlaps_apart w tS tB e q1 i.size (λw=>Cv.run_sizeOf q2 w) ⟨va,0,az⟩ ⟨sb,so,az⟩ la ca lb cb hne T T' c.size c'.size (by simp[World.shape?,h1]) (by simp[World.shape?,h2]) h3 (by simp[World.frozen?,h1]) (by simp[World.frozen?,h1])];rfl
def y3m {P:bo} {tS tI e sz by_ fO fR:Nat} {z:Array be} (hi:vP P tS=ay (e,sz,by_,z)) (hz:z.size=sz) (hby:0<by_) (hsz:0<sz) (h2:z2y P tS=aw) (hti:P.underlying tI=ay (.int .i64)) (hov:zTl P fO)
 {k:Ko} {w:bg} {L:List HP} {s v:Option bu} {sn sk vn vk i:Nat} {xs ys:List be} (H:Hp k w (slO e sz s sn sk xs::slO e sz v vn vk ys::L)) (h1:∀u∈xs,u.oneC=aw) (hy:∀u∈ys,u.oneC=aw) (hin:i<=sn) (hv:0<vn)
 (hb:(sn+vn)*by_<=140737488355328):
 yVw P tS tI sz fO fR s sn sk i v vn vk w λen w'=>∃a kk,en= .returned (.slice a (sn+vn) kk)/\Hp k w' (slO e sz a (sn+vn) kk (xs.take (i*sz)++ys++xs.drop (i*sz))::slO e sz v vn vk ys::L):=by
 obtain⟨hxl,hnk⟩:=H.len;obtain⟨hyl,hvk⟩:=H.swap.len;have hnm:sn+vn<=140737488355328:=y7w (Nat.le_mul_of_pos_right _ hby) hb;have w1:ae.wrap ((sn:Int)+(vn:Int))=((sn+vn:Nat):Int):=by rw[Cv.wrap_i64 (by omega) (by omega)];simp
 have w2:ae.wrap ((i:Int)+(vn:Int))=((i+vn:Nat):Int):=by rw[Cv.wrap_i64 (by omega) (by omega)];simp
 have w3:ae.wrap (((sn+vn:Nat):Int)-(i:Int))=((sn+vn-i:Nat):Int):=by rw[Cv.wrap_i64 (by omega) (by omega)];omega
 have hle:i*sz<=xs.length:=by rw[hxl];exact y6o _ hin
 have htl:(xs.take (i*sz)).length=i*sz:=by rw[y5t];omega
 have hdl:(xs.drop (i*sz)).length=(sn-i)*sz:=by rw[y5z,hxl,Nat.sub_mul]
 have hsum:(i+vn)*sz=i*sz+vn*sz:=y8e _ _ _;have hsum2:(sn+vn)*sz=i*sz+vn*sz+(sn-i)*sz:=by rw[<- y8e,<- y8e];congr 1;omega
 have hfin:(xs.take (i*sz)++ys++xs.drop (i*sz)).length=(sn+vn)*sz:=by
  rw[y5a,y5a,htl,hyl,hdl,hsum2]
 unfold yVw;simp only[slN,w1,w2,w3,y5u];refine⟨⟨by omega,by omega,hnk⟩,Cv.cnd.mk (λc=>absurd c (by simp;omega)) λ_=>Cv.cnd.mk (λc=> ?_) λc=>Cv.cnd.mk (λhc=> ?_) λhc=> ?_⟩
 ·have c:i=sn:=by have:(i:Int)=(sn:Int):=by simpa using c
                  omega
  subst c;obtain⟨a',c',w',r1,r2⟩:=H.append (rt:=tS) hi h2 (x:= .slice v vn vk) (m:=vn) (ys:=ys) (.inl ⟨v,vk,rfl,H.swap.satR⟩) hy hz hby hb;refine⟨a',_,c',w',r1,a',c',rfl,?_⟩;rw[y5n (by omega),y8j (by omega),y6a];exact r2
 ·have c:i<sn:=by have:¬(i:Int)=(sn:Int):=by simpa using c
                  omega
  have hc:sk<sn+vn:=by have:=y6b hc;omega
  obtain⟨inf,zv,q1,q2,q3,q4,q5,q6⟩:=kH hi;subst q3 q4 q6;rcases H.slcases with⟨_,e0,_⟩|⟨b,r,rfl,g1,g2,g3,H0⟩
  ·omega
  rcases H0.swap.slcases with⟨_,e0,_⟩|⟨vb,rv,rfl,g4,g5,g6,H1⟩
  ·omega
  have hold:(au inf.size i (.slice (ay ⟨b,0,az⟩) i sk)).run P w.drew= .ok (xs.take (i*inf.size)).toArray w.drew:=by
   have hbk:=(H1.drew).swap.get;have:=u7 (P:=P) (o:=0) (n:=i*inf.size) hbk (by rw[y5a];omega);unfold au;rw[this,y8q,y5y hle]
  have hfit2:=zNh (need:=sn+vn) (cap:=sk) (by omega);have hfit3:=y6o inf.bytes hfit2;have e2:2*(sn+vn)*inf.bytes=2*((sn+vn)*inf.bytes):=by rw[Nat.mul_assoc]
  have hkb:(sn+vn-i)*inf.bytes<=(sn+vn)*inf.bytes:=y6o _ (by omega);have hgr:=Lib.run_append_grow_zeros (P:=P) w tS tI tS e inf zv .i64 .i64 q1 hti q2 q5 (ay ⟨b,0,az⟩) i sk (xs.take (i*inf.size)) hold (sn+vn-i) (by omega) hsz (by omega) (by omega) (by omega) (by rw[show i+(sn+vn-i)=sn+vn by omega];omega);rw[show i+(sn+vn-i)=sn+vn by omega]at hgr;have hG:sn+vn<=grownCap w (sn+vn) sk e:=grownCap_ge w (sn+vn) sk e;generalize grownCap w (sn+vn) sk e=G at hgr hG;have harr:(xs.take (i*inf.size)).toArray++aq zv.cells (sn+vn-i)++aq zv.cells (G-(sn+vn))=(xs.take (i*inf.size)++((aq zv.cells (sn+vn-i)).toList++(aq zv.cells (G-(sn+vn))).toList)).toArray:=by
   apply Array.ext';simp
  rw[harr]at hgr;have hZl:((aq zv.cells (sn+vn-i)).toList++(aq zv.cells (G-(sn+vn))).toList).length=(sn+vn-i)*inf.size+(G-(sn+vn))*inf.size:=by
   rw[y5a,y9b,y9b,bv,bv,hz]
  generalize (aq zv.cells (sn+vn-i)).toList++(aq zv.cells (G-(sn+vn))).toList=Z at hgr hZl;have hZ2:(sn+vn-i)*inf.size=vn*inf.size+(sn-i)*inf.size:=by rw[<- y8e];congr 1;omega
  have H2:=(H1.drew).new (.cells (xs.take (i*inf.size)++Z).toArray e);have hB:w.drew.heap.size=w.heap.size:=rfl;rw[hB]at H2;have hc1:=zAi (P:=P) (sT:=tS) (ty:=tI) hi (g:=w.heap.size) (o:=0+i*inf.size) (dLen:=sn+vn-i) (dCap:=G-i) (b:=vb) (so:=0) (sLen:=vn) (sCap:=vk) (n:=vn) H2.get H2.swap.get (y8u (by omega)) (by rw[y5a];omega) (by rw[y5a,htl,hZl];omega) (by
   rw[y8q,y5y (by omega),y5n (by omega)];exact hy)
  rw[y8q,y5y (by omega),y5n (show ys.length<=vn*inf.size by omega),y6c]at hc1;have es1:spl (xs.take (i*inf.size)++Z) (i*inf.size) ys=xs.take (i*inf.size)++ys++Z.drop ys.length:=by
   have:=zVq (xs.take (i*inf.size)) Z ys;rwa [htl]at this
  rw[es1]at hc1;have H3:=(H2.upd (.cells (xs.take (i*inf.size)++ys++Z.drop ys.length).toArray e)).drew;have hg4:(xs++r).drop (i*inf.size)=xs.drop (i*inf.size)++r:=y7t hle;have hc2:=zAi (P:=P) (sT:=tS) (ty:=tI) hi (g:=w.heap.size) (o:=0+(i+vn)*inf.size) (dLen:=sn+vn-(i+vn)) (dCap:=G-(i+vn)) (b:=b) (so:=0+i*inf.size) (sLen:=sn-i) (sCap:=sk-i) (n:=sn-i) H3.get H3.swap.drop.swap.get (y8u (by omega)) (by rw[y5a,hxl,y6c,<- y8e];exact y7w (y6o _ (by omega)) (Nat.le_add_right _ _)) (by
   rw[y5a,y5a,htl,hyl,y5z,hZl];omega) (by
   rw[y6c,hg4,y5y (by omega),y5n (by omega)];exactλu hu=>h1 u (y8y hu))
  rw[y6c,y6c,hg4,y5y (by omega),y5n (show(xs.drop (i*inf.size)).length<=(sn-i)*inf.size by omega)]at hc2;have es2:spl (xs.take (i*inf.size)++ys++Z.drop ys.length) ((i+vn)*inf.size) (xs.drop (i*inf.size))=xs.take (i*inf.size)++ys++xs.drop (i*inf.size)++(Z.drop ys.length).drop (xs.drop (i*inf.size)).length:=by
   have:=zVq (xs.take (i*inf.size)++ys) (Z.drop ys.length) (xs.drop (i*inf.size));rwa [show(xs.take (i*inf.size)++ys).length=(i+vn)*inf.size by rw[y5a,htl,hyl,hsum]]at this
  rw[es2]at hc2;refine⟨⟨by omega,by omega⟩,_,_,_,_,hgr,?_⟩;rw[zHh (show G≠i by omega),y6c];refine⟨⟨by omega,by omega,hG⟩,_,_,hc1,?_⟩;rintro _ rfl;rw[zHh (show G≠i+vn by omega),zHh (show sk≠i by omega),y6c,y6c];refine⟨⟨by omega,by omega,hG⟩,⟨by omega,by omega,hnk⟩,_,_,hc2,_,_,rfl,?_⟩;have H4:=H3.upd (.cells (xs.take (i*inf.size)++ys++xs.drop (i*inf.size)++(Z.drop ys.length).drop (xs.drop (i*inf.size)).length).toArray e);have H5:=H4.slmk (n:=sn+vn) (c:=G) (sz:=inf.size) hfin (by
   rw[y5a,hfin,y5z,y5z,hZl,hyl,hdl];have:G*inf.size=(sn+vn)*inf.size+(G-(sn+vn))*inf.size:=by rw[<- y8e];congr 1;omega
   omega) hG
  have H6:=H5.swap.slmk (n:=vn) (c:=vk) (sz:=inf.size) g4 g5 g6;exact(H6.swap.perm (List.Perm.trans ((List.Perm.swap _ _ _).cons _) (List.Perm.swap _ _ _))).drop
 ·have c:i<sn:=by have:¬(i:Int)=(sn:Int):=by simpa using c
                  omega
  have hc:sn+vn<=sk:=by have:=y9t hc;omega
  rcases H.slcases with⟨_,e0,_⟩|⟨b,r,rfl,g1,g2,g3,H0⟩
  ·omega
  rcases H0.swap.slcases with⟨_,e0,_⟩|⟨vb,rv,rfl,g4,g5,g6,H1⟩
  ·omega
  have hrl:vn*sz<=r.length:=by
   have e1:(sn+vn)*sz<=sk*sz:=y6o _ hc;rw[y5a,g1]at g2;rw[y8e]at e1;omega
  have H2:=H1.swap;have hne:vb≠b:=Hp.apart H1;have hg4:(xs++r).drop (i*sz)=xs.drop (i*sz)++r:=y7t hle;have hex:=hov w vb b (0+(i+vn)*sz) vn vk (sn+vn-(i+vn)) (sk-(i+vn)) (ys++rv).toArray (xs++r).toArray e e hne H1.get H2.get (by
   rw[y9j,y5a,g1];have:=Nat.mul_pos (show 0<sn by omega) hsz;omega)
  have H3:=H2.drew;have hc1:=zAi (P:=P) (sT:=tS) (ty:=tI) hi (g:=b) (o:=0+(i+vn)*sz) (dLen:=sn+vn-(i+vn)) (dCap:=sk-(i+vn)) (b:=b) (so:=0+i*sz) (sLen:=sn+vn-i) (sCap:=sk-i) (n:=sn-i) H3.get H3.get (by rw[show sn+vn-(i+vn)=sn-i by omega];exact Nat.min_eq_right (by omega)) (by
   rw[y5a,g1,y6c,<- y8e];exact y7w (y6o _ (by omega)) (Nat.le_add_right _ _)) (by
   rw[y5a,g1,y6c,<- y8e,show i+vn+(sn-i)=sn+vn by omega,y8e];omega) (by
   rw[y6c,hg4,y5y (by omega),y5n (by omega)];exactλu hu=>h1 u (y8y hu))
  rw[y6c,y6c,hg4,y5y (by omega),y5n (show(xs.drop (i*sz)).length<=(sn-i)*sz by omega)]at hc1;have H4:=H3.upd (.cells (spl (xs++r) ((i+vn)*sz) (xs.drop (i*sz))).toArray e);have hcl:(spl (xs++r) ((i+vn)*sz) (xs.drop (i*sz))).length=(xs++r).length:=by
   simp only[spl,y5a,y5t,hdl];rw[y5z,y5a,g1,hsum];have:sn*sz=i*sz+(sn-i)*sz:=by rw[<- y8e];congr 1;omega
   omega
  have hc2:=zAi (P:=P) (sT:=tS) (ty:=tI) hi (g:=b) (o:=0+i*sz) (dLen:=sn+vn-i) (dCap:=sk-i) (b:=vb) (so:=0) (sLen:=vn) (sCap:=vk) (n:=vn) H4.get H4.swap.get (y8u (by omega)) (by rw[y5a];omega) (by
   rw[hcl,y5a,y6c];omega) (by
   rw[y8q,y5y (by omega),y5n (by omega)];exact hy)
  rw[y8q,y5y (by omega),y5n (show ys.length<=vn*sz by omega),y6c]at hc2;have es:spl (spl (xs++r) ((i+vn)*sz) (xs.drop (i*sz))) (i*sz) ys=(xs.take (i*sz)++ys++xs.drop (i*sz))++r.drop (vn*sz):=by
   have:=yBv (l:=i*sz) (m:=vn*sz) (xs:=xs) (r:=r) (ys:=ys) hle hyl hrl;simp only[spl,hsum];exact this
  rw[es]at hc2;refine⟨⟨by omega,by omega⟩,⟨by omega,by omega,by omega⟩,ax,w,?_,Cv.cnd.mk (λ_=> ?_) (λc=>absurd c (by decide))⟩
  ·rw[zHh (show sk≠i+vn by omega)];exact hex
  rintro _ rfl;rw[zHh (show sk≠i+vn by omega),zHh (show sk≠i by omega),y6c,y6c];refine⟨⟨by omega,by omega,by omega⟩,⟨by omega,by omega,by omega⟩,_,_,hc1,⟨by omega,by omega,by omega⟩,_,_,hc2,_,_,rfl,?_⟩;have H5:=H4.upd (.cells (xs.take (i*sz)++ys++xs.drop (i*sz)++r.drop (vn*sz)).toArray e);have H6:=H5.slmk (n:=sn+vn) (c:=sk) (sz:=sz) hfin (by
   rw[y5a,hfin,y5z,<- g2,y5a,g1,y8e];omega) hc
  exact(H6.swap.slmk (n:=vn) (c:=vk) (sz:=sz) g4 g5 g6).swap
structure yAj where
 els:List (List D)
 el:List D
 i:Nat
def yOg (e sz by_:Nat):Con where
 ι:=yAj
 pat:=λi=>[.own 0,.d (.v (.int .i64 i.i)),.own 1]
 pre:=λi=>[.own e sz i.els,.own e sz [i.el]]
 cnd:=λi=>i.i<=i.els.length/\(i.els.length+1)*by_<=140737488355328
 alts:=λi=>[{o:=Unit,res:=λ_=> .own 2,post:=λ_=>[.gone,.gone,.own e sz (i.els.take i.i++i.el::i.els.drop i.i)],rel:=λ_=>True}]
def insX_ok {P:bo} (hm:P.follows .mixedOrders=aw) {tS tI e sz by_ fI fO fR:Nat} {z:Array be} {fn:Func} {c:Code} (hf:P.funcs[fI]? =ay fn) (hb:fn.body=ay c) (hbd:uP P fI=aw) (hok:okC fn.ntmps c=aw) (hfx:okF [] c=aw) (hsz3:Nat.ble 3 fn.ntmps=aw)
 (hi:vP P tS=ay (e,sz,by_,z)) (hz:z.size=sz) (hby:0<by_) (hsz:0<sz) (h2:z2y P tS=aw) (hti:P.underlying tI=ay (.int .i64)) (hov:zTl P fO)
 (heq:∀(s:Option bu) (sn sk:Nat) (i:Int) (v:Option bu) (vn vk:Nat) (w:bg) (R:Ending->bg->Prop),yVw P tS tI sz fO fR s sn sk i v vn vk w R=cwp P [] c (zVo P fn R) (uO [.slice s sn sk,.int .i64 i,.slice v vn vk]) w):
 (yOg e sz by_).ok P fI:=by
 intro i hc k L E w ys R hv;obtain⟨c1,c2⟩:i.i<=i.els.length/\(i.els.length+1)*by_<=140737488355328:=hc;simp only[yOg,VRL,VR,DR]at hv;obtain⟨y0,_,rfl,⟨l0,e0,_⟩,y1,_,rfl,⟨rfl,_⟩,y2,_,rfl,⟨l2,e2,_⟩,rfl⟩:=hv;obtain⟨s,sk,xs,sub0,g1,hxs,hu,H⟩:=R.ownOpen (n:=0) (t:=e) (sz:=sz) (els:=i.els) rfl;rw[e0]at g1;cases g1;have hk2:∃v vk zs,y2= .slice v 1 vk/\DRL E.F i.el zs/\i.el.length=sz/\Hp k w (slO e sz s i.els.length sk xs::slO e sz v 1 vk zs::fz E.F::L):=by
  obtain⟨hk,hs,hh⟩:=H;cases hh with
  |cons ha hsub hd hr=>
   simp only[yOg,uV,wX,y5p,y8t,y6t,y7v]at hr;cases hr with
   |cons hb2 hsub2 hd2 hr2=>
    rcases hb2 with⟨q,_⟩|⟨⟨hv2,sub2⟩,q1,q2⟩
    ·cases q
    ·simp only at q1;rw[e2]at q1;cases q1;simp only[rowHP]at q2;obtain⟨a,kk,zs,rfl,q3,q4,q5⟩:=q2;simp only[y7o,List.flatten_nil,y6a]at q3;exact⟨a,kk,zs,rfl,q3,q4 _ y5h,hk,_,.cons ha hsub hd (.cons q5 hsub2 hd2 hr2)⟩
 obtain⟨v,vk,zs,rfl,hzs,hel,H2⟩:=hk2;have hv:=y3m (fR:=fR) (fO:=fO) hi hz hby hsz h2 hti hov (i:=i.i) H2 hxs.one hzs.one c1 (by omega) c2;have hcall:=zJs (args:=[.slice s i.els.length sk,.int .i64 i.i,.slice v 1 vk]) hm hf hb [] hok hfx hsz3 (heq s i.els.length sk i.i v 1 vk w _) hv;refine mD hbd (hcall.mono ?_);rintro en w' ⟨a,kk,rfl,H3⟩;have H4:Hp k w' (slO e sz a (i.els.take i.i++i.el::i.els.drop i.i).length kk (xs.take (i.i*sz)++zs++xs.drop (i.i*sz))::(([]:List (Nat×AObj)).map (rHP E)++fz E.F::L)):=by
  have:(i.els.take i.i++i.el::i.els.drop i.i).length=i.els.length+1:=by
   rw[y5a,y5g,y5t,y5z];omega
  rw[this];exact H3.swap.drop
 obtain⟨E',r1,r2,r3⟩:=cR (nx:=2) R.nx (by
  rw[xAb,y7o,<- pD i.i hu,<- nT i.i hu,<- y5i];exact((hxs.take _).append hzs).append (hxs.drop _)) (λx hx=>by
   rcases y6f.1 hx with hx|hx
   ·exact hu x (y8x hx)
   ·rcases y5w.1 hx with rfl|hx
    ·exact hel
    ·exact hu x (y8y hx)) H4
 have hl:(i.els.take i.i++i.el::i.els.drop i.i).length=i.els.length+1:=by
  rw[y5a,y5g,y5t,y5z];omega
 rw[hl]at r3;refine⟨_,rfl,_,y6r.2 rfl,(),trivial,E',r1,r3,⟨r2.nx,?_⟩⟩;have q1:=((@uA k w' True _).2 ⟨trivial,r2.hp⟩).imp (B:=rHP E' (1,.gone)) λx hx=> .inl ⟨rfl,hx.2⟩
 have q2:=((@uA k w' True _).2 ⟨trivial,q1⟩).imp (B:=rHP E' (0,.gone)) λx hx=> .inl ⟨rfl,hx.2⟩
 exact q2
def bbetterC:Con:=con1 I3' (λi=>[zA i.side,zA i.x,zA i.y]) (λ_=>[]) (λ_=>True) (λi=>yP (btr i.side i.x i.y)) (λ_=>[])
@[reducible] def yZv (s:Slot):V:= .agg [yP s.used,zA s.n,zA s.id,zA s.qty,yP s.top,zA s.queue,zA s.ahead,zA s.back]
def pushFC:Con:=con1 Slot (λs=>[yZv s]) (λ_=>[]) (λ_=>True) (λs=>yP (!s.used)) (λ_=>[])
def kZ (l:List Slot):Int:=zJk (l.findIdx? λs=> !s.used)
def idxSlotC:Con:=con1 (List Slot) (λ_=>[.own 0,.fn 217 [] []]) (λl=>[.own 273 8 (l.map zR)]) (λl=>l.length<=1000000) (λl=>zA (kZ l)) (λl=>[.own 273 8 (l.map zR)])
def yJa (l:List Slot):List SAnn:=[{ι:=Nat,slots:=λj=>[(8,zA j)],rows:=λ_=>[]}]
def aH:cJ:=⟨-1,-1,0,0⟩
def Arena.openQ (a:Arena):Arena:={a with queues:=a.queues++[aH]}
def aopenC:Con:=con1 Arena (λ_=>[.nm 0 0]) (λa=>[jU a]) (λa=>a.queues.length<=1000000) (λa=>zA a.queues.length) (λa=>[jU a.openQ])
structure z9u where
 a:Arena
 n:Int
 t:Bool
def Arena.usedAt (a:Arena) (n:Int):Bool:=decide (0<=n) && (decide (n<a.slots.length) && (a.slots.getD n.toNat slot0).used)
def Arena.topF (a:Arena) (n:Int) (t:Bool):Arena:=if a.usedAt n=aw then{a with slots:=a.slots.modify n.toNat λs=>{s with top:=t}}else a
def atopC:Con:=con1 z9u (λi=>[.nm 0 0,zA i.n,yP i.t]) (λi=>[jU i.a]) (λi=>i.a.slots.length<=1000000) (λi=>zA (if i.a.usedAt i.n=aw then 0 else 26)) (λi=>[jU (i.a.topF i.n i.t)])
structure PuI where
 a:Arena
 n:Int
 id:Int
 qty:Int
 top:Bool
def Arena.put (a:Arena) (n id qty:Int) (top:Bool):Arena:=
 let q:=a.queues.getD n.toNat aH
 let k:=kZ a.slots
 let sl:=a.slots.set k.toNat ⟨aw,k,id,qty,top,n,q.last,-1⟩
 ⟨if q.last= -1 then sl else sl.modify q.last.toNat λs=>{s with back:=k},a.queues.set n.toNat ⟨if q.last= -1 then k else q.first,k,ae.wrap (q.total+qty),ae.wrap (q.count+1)⟩,ae.wrap (a.free-1)⟩
def Arena.push (a:Arena) (n id qty:Int) (top:Bool):Arena×Int×Int:=
 if n<0\/a.queues.length<=n then(a,0,26)else if qty<1\/1000000<qty then(a,0,24)else if a.free=0 then(a,0,13)else(a.put n id qty top,kZ a.slots,0)
def Arena.fit (a:Arena):Prop:=a.slots.length<=1000000/\(a.free≠0->∃s∈a.slots,s.used=ax)/\∀q∈a.queues,q.last= -1\/(0<=q.last/\q.last<a.slots.length)
def apushC:Con:=con1 PuI (λi=>[.nm 0 0,zA i.n,zA i.id,zA i.qty,yP i.top]) (λi=>[jU i.a]) (λi=>i.a.fit) (λi=> .tup [zA (i.a.push i.n i.id i.qty i.top).2.1,zA (i.a.push i.n i.id i.qty i.top).2.2]) (λi=>[jU (i.a.push i.n i.id i.qty i.top).1])
@[reducible] def zJh (b:Book):List AObj:=[zP b 0,zP b 1,zP b 2,zP b 3,zP b 4,zP b 5]
structure BkP where
 b:Book
 price:Int
def zZ (s:Int) (l:List xL) (price:Int):Nat:=(l.takeWhile λr=>btr s r.price price).length
def kR (s:Int) (l:List xL) (price:Int):Bool:=match l[zZ s l price]? with
 |some r=>decide (r.price=price)
 |none=>ax
def Book.rungs (b:Book) (s:Int):List xL:=if s=1 then b.buys else b.sells
def yDv (s:Int):Con:=con1 BkP (λi=>[.nm 0 0,zA s,zA i.price]) (λi=>zJh i.b) (λi=>i.b.small) (λi=> .tup [zA (zZ s (i.b.rungs s) i.price),yP (kR s (i.b.rungs s) i.price)]) (λi=>zJh i.b)
def find1C:Con:=yDv 1
def find2C:Con:=yDv 2
def yQn:List SAnn:=[{ι:=Nat,slots:=λj=>[(9,zA j)],rows:=λ_=>[]}]
def pget (l:List (Int×Place)) (k:Int):Option Place:=(l.find? λx=>decide (x.1=k)).map (·.2)
def rJ (k:Int) (v:Place):List (Int×Place)->List (Int×Place)
 |[]=>[(k,v)]
 |(a,b)::l=>if k=a then(a,v)::l else(a,b)::rJ k v l
structure LdI where
 b:Book
 id:Int
def Book.hasF (b:Book) (s:Int):Bool:=if s=1 then b.has1 else b.has2
def Book.topI (b:Book) (s:Int):Int:=if s=1 then b.top1 else b.top2
def Book.untop (b:Book) (s:Int):Arena:=if b.hasF s=aw then(match pget b.at_ (b.topI s)with
 |some o=>if o.side=s then b.a.topF o.slot ax else b.a
 |none=>b.a)else b.a
def Book.leadF (b:Book) (id s:Int):Book:=if s=1 then{b with a:=b.untop s,top1:=id,has1:=aw}else{b with a:=b.untop s,top2:=id,has2:=aw}
def yFe (s:Int):Con:=con1 LdI (λi=>[.nm 0 0,zA i.id,zA s]) (λi=>zJh i.b) (λi=>i.b.small) (λ_=>mG) (λi=>zJh (i.b.leadF i.id s))
def lead1C:Con:=yFe 1
def lead2C:Con:=yFe 2
def Book.newQ (b:Book):Int×List Int×Arena:=if b.spare.length=0 then(b.a.queues.length,b.spare,b.a.openQ)else(b.spare.getD (b.spare.length-1) 0,b.spare.take (b.spare.length-1),b.a)
def Book.ins (b:Book) (s price:Int):List xL:=(b.rungs s).take (zZ s (b.rungs s) price)++⟨price,b.newQ.1⟩::(b.rungs s).drop (zZ s (b.rungs s) price)
def Book.queueF (b:Book) (s price:Int):Book×Int:=
 if kR s (b.rungs s) price=aw then(b,((b.rungs s).getD (zZ s (b.rungs s) price) ⟨0,0⟩).queue)
 else(if s=1 then{b with a:=b.newQ.2.2,buys:=b.ins s price,spare:=b.newQ.2.1}else{b with a:=b.newQ.2.2,sells:=b.ins s price,spare:=b.newQ.2.1},b.newQ.1)
def yNd (b:Book):AObj:= .cells [.nm 1 0,.own 6,.own 3,.mp 4,zA b.top1,zA b.top2,.own 7,yP b.has1,yP b.has2] 245
def yLr (b:Book):AObj:= .cells [.nm 1 0,.own 2,.own 6,.mp 4,zA b.top1,zA b.top2,.own 7,yP b.has1,yP b.has2] 245
@[reducible] def yVk (b:Book):List AObj:=[yNd b,zP b 1,.gone,zP b 3,zP b 4,.gone,zP b 2,zP b 5]
@[reducible] def yWm (b:Book):List AObj:=[yLr b,zP b 1,zP b 2,.gone,zP b 4,.gone,zP b 3,zP b 5]
@[reducible] def Book.fit (b:Book):Prop:=b.a.fit/\b.a.queues.length<=100000/\b.buys.length<=100000/\b.sells.length<=100000/\b.spare.length<=100000
def queue1C:Con:=con1 BkP (λi=>[.nm 0 0,zA 1,zA i.price]) (λi=>zJh i.b) (λi=>i.b.fit) (λi=>zA (i.b.queueF 1 i.price).2) (λi=>yVk (i.b.queueF 1 i.price).1)
def queue2C:Con:=con1 BkP (λi=>[.nm 0 0,zA 2,zA i.price]) (λi=>zJh i.b) (λi=>i.b.fit) (λi=>zA (i.b.queueF 2 i.price).2) (λi=>yWm (i.b.queueF 2 i.price).1)
def insRC:Con:=yOg 255 2 16
def zXv (i:I3'):Prop:=
 cnd (i.side==1) (∃(a:Unit),btr i.side i.x i.y=decide (i.x>i.y)/\True) (∃(a:Unit),btr i.side i.x i.y=decide (i.x<i.y)/\True)
def yEp (s:Slot):Prop:=
 ∃(a:Unit),(!s.used)=!s.used/\True
def zZs (l:List Slot):Prop:=
 ∃(a:Nat),(↑a:Int)=0/\∃(b:Nat->Prop),∃(c:Nat->Nat),b a/\∀(d:Nat),b d->cnd (decide ((↑d:Int)<(↑(aa zR l).length:Int))) ((0<=(↑d:Int)/\(↑d:Int)<(↑(aa zR l).length:Int))/\∃(e:Bool),∃(f:Int),∃(g:Int),∃(h:Int),∃(j:Bool),∃(k:Int),∃(m:Int),∃(n:Int),zE (aa zR l) (↑d:Int).toNat 0 8=ay [D.v (.bool e),dI f,dI g,dI h,D.v (.bool j),dI k,dI m,dI n]/\∃(p:Slot),p.used=e/\p.n=f/\p.id=g/\p.qty=h/\p.top=j/\p.queue=k/\p.ahead=m/\p.back=n/\True/\∀(q:Unit),True->cnd (!p.used) (∃(r:Unit),kZ l=(↑d:Int)/\dh (aa zR l)/\True) (∃(r:Nat),(↑r:Int)=ae.wrap ((↑d:Int)+1)/\b r/\c r<c d/\dh (ag 273 8 (aa zR l)))) (∃(e:Unit),kZ l=(-1)/\dh (aa zR l)/\True)
def yCx (a:Arena):Prop:=
 ((aa zO a.queues).length+1)*(32:Nat)<=(140737488355328:Nat)/\∃(b:Unit),(↑a.queues.length:Int)=ae.wrap ((↑(aa zO a.queues++[[dI (-1),dI (-1),dI 0,dI 0]]).length:Int)-1)/\dh a.free/\dh (aa zR a.slots)/\aa zO (a.queues++[aH])=aa zO a.queues++[[dI (-1),dI (-1),dI 0,dI 0]]/\True
def zAc (a:z9u):Prop:=∃(b:Unit),(if a.a.usedAt a.n=aw then(0:Int)else(26:Int))=26/\(a.a.topF a.n a.t).free=a.a.free/\aa zR (a.a.topF a.n a.t).slots=aa zR a.a.slots/\aa zO (a.a.topF a.n a.t).queues=aa zO a.a.queues/\True
def yRe (i:z9u):Prop:=
 cnd (decide (i.n<0)) (zAc i) (cnd (decide (i.n>=(↑(aa zR i.a.slots).length:Int))) (zAc i) ((0<=i.n/\i.n<(↑(aa zR i.a.slots).length:Int))/\∃(a:Bool),zE (aa zR i.a.slots) i.n.toNat 0 1=ay [D.v (.bool a)]/\cnd (!a) (zAc i) ((0<=i.n/\i.n<(↑(aa zR i.a.slots).length:Int))/\i.n.toNat<(aa zR i.a.slots).length/\∃(b:Unit),(if i.a.usedAt i.n=aw then(0:Int)else(26:Int))=0/\(i.a.topF i.n i.t).free=i.a.free/\aa zR (i.a.topF i.n i.t).slots=zX (aa zR i.a.slots) i.n.toNat 4 [D.v (.bool i.t)]/\aa zO (i.a.topF i.n i.t).queues=aa zO i.a.queues/\True)))
def yI (a:PuI):=(a.a.push a.n a.id a.qty a.top)
def tA (a:PuI):Prop:=(yI a).fst.free=a.a.free/\aa zR (yI a).fst.slots=aa zR a.a.slots/\aa zO (yI a).fst.queues=aa zO a.a.queues/\True
def zCq (a:PuI):Prop:=∃(b:Unit),(yI a).snd.fst=0/\(yI a).snd.snd=26/\tA a
def zBz (a:PuI):Prop:=∃(b:Unit),(yI a).snd.fst=0/\(yI a).snd.snd=24/\tA a
def sZ (a:PuI) (b:List Slot):=(zX (zX (aa zO a.a.queues) a.n.toNat 0 [dI (kZ b)]) a.n.toNat 1 [dI (kZ b)])
def rO (a:PuI) (b:List Slot) (c:Int):=(zX (sZ a b) a.n.toNat 2 [dI (ae.wrap (c+a.qty))])
def tC (a:PuI) (b:List Slot):=(zX (aa zO a.a.queues) a.n.toNat 1 [dI (kZ b)])
def sW (a:PuI) (b:List Slot) (c:Int):=(zX (tC a b) a.n.toNat 2 [dI (ae.wrap (c+a.qty))])
def yFg (i:PuI):Prop:=
 cnd (decide (i.n>=0)) (cnd (!decide (i.n<(↑(aa zO i.a.queues).length:Int))) (zCq i) (cnd (decide (i.qty<1)) (zBz i) (cnd (decide (i.qty>1000000)) (zBz i) (cnd (i.a.free==0) (∃(a:Unit),(yI i).snd.fst=0/\(yI i).snd.snd=13/\tA i) (∃(a:List Slot),aa zR a=aa zR i.a.slots/\a.length<=1000000/\∀(b:Unit),True->(0<=i.n/\i.n<(↑(aa zO i.a.queues).length:Int))/\∃(c:Int),zE (aa zO i.a.queues) i.n.toNat 1 1=ay [dI c]/\(0<=kZ a/\kZ a<(↑(aa zR a).length:Int))/\(kZ a).toNat<(aa zR a).length/\∃(d:Int),zE (aa zO i.a.queues) i.n.toNat 1 1=ay [dI d]/\cnd (d==(-1)) (i.n.toNat<(aa zO i.a.queues).length/\i.n.toNat<(zX (aa zO i.a.queues) i.n.toNat 0 [dI (kZ a)]).length/\∃(e:Int),zE (sZ i a) i.n.toNat 2 1=ay [dI e]/\i.n.toNat<(sZ i a).length/\∃(f:Int),zE (rO i a e) i.n.toNat 3 1=ay [dI f]/\i.n.toNat<(rO i a e).length/\∃(g:Unit),(yI i).snd.fst=kZ a/\(yI i).snd.snd=0/\(yI i).fst.free=ae.wrap (i.a.free-1)/\aa zR (yI i).fst.slots=zX (aa zR a) (kZ a).toNat 0 [D.v (.bool aw),dI (kZ a),dI i.id,dI i.qty,D.v (.bool i.top),dI i.n,dI c,dI (-1)]/\aa zO (yI i).fst.queues=zX (rO i a e) i.n.toNat 3 [dI (ae.wrap (f+1))]/\True) (∃(e:Int),zE (aa zO i.a.queues) i.n.toNat 1 1=ay [dI e]/\(0<=e/\e<(↑(zX (aa zR a) (kZ a).toNat 0 [D.v (.bool aw),dI (kZ a),dI i.id,dI i.qty,D.v (.bool i.top),dI i.n,dI c,dI (-1)]).length:Int))/\e.toNat<(zX (aa zR a) (kZ a).toNat 0 [D.v (.bool aw),dI (kZ a),dI i.id,dI i.qty,D.v (.bool i.top),dI i.n,dI c,dI (-1)]).length/\i.n.toNat<(aa zO i.a.queues).length/\∃(f:Int),zE (tC i a) i.n.toNat 2 1=ay [dI f]/\i.n.toNat<(tC i a).length/\∃(g:Int),zE (sW i a f) i.n.toNat 3 1=ay [dI g]/\i.n.toNat<(sW i a f).length/\∃(h:Unit),(yI i).snd.fst=kZ a/\(yI i).snd.snd=0/\(yI i).fst.free=ae.wrap (i.a.free-1)/\aa zR (yI i).fst.slots=zX (zX (aa zR a) (kZ a).toNat 0 [D.v (.bool aw),dI (kZ a),dI i.id,dI i.qty,D.v (.bool i.top),dI i.n,dI c,dI (-1)]) e.toNat 7 [dI (kZ a)]/\aa zO (yI i).fst.queues=zX (sW i a f) i.n.toNat 3 [dI (ae.wrap (g+1))]/\True)))))) (zCq i)
def xU (a:BkP):=(↑(zZ 1 (a.b.rungs 1) a.price):Int)
def vT (a:BkP):=(↑(aa zB a.b.buys).length:Int)
def dG (a:BkP):Prop:=a.b.top1=a.b.top1/\dh a.b.top2/\dh a.b.has1/\dh a.b.has2/\af Arena 3 zG a.b.a=zP a.b 1/\dh (aa zB a.b.buys)/\dh (aa zB a.b.sells)/\dh (atE a.b.at_)/\dh (iE a.b.spare)/\True
def zIz (a:Nat) (b:BkP):Prop:=(0<=(↑a:Int)/\(↑a:Int)<(vT b))/\∃(c:Int),zE (aa zB b.b.buys) (↑a:Int).toNat 0 1=ay [dI c]/\∃(d:Unit),(xU b)=(↑a:Int)/\kR 1 (b.b.rungs 1) b.price=(c==b.price)/\dG b
def zCd (a:BkP) (b:Nat):Prop:=∃(c:Unit),(xU a)=(↑b:Int)/\kR 1 (a.b.rungs 1) a.price=ax/\dG a
def sF (a:Nat) (b:Nat->Prop) (c:Nat->Nat) (d:BkP):Prop:=∃(e:Nat),(↑e:Int)=ae.wrap ((↑a:Int)+1)/\b e/\c e<c a/\dh (zP d.b 0)/\dh (zP d.b 1)/\dh (zP d.b 2)/\dh (zP d.b 3)/\dh (zP d.b 4)/\dh (zP d.b 5)
def rI (a:Nat) (b:BkP):=(decide ((↑a:Int)<(vT b)))
def yHm (i:BkP):Prop:=
 ∃(a:Nat),(↑a:Int)=0/\∃(b:Nat->Prop),∃(c:Nat->Nat),b a/\∀(d:Nat),b d->cnd (rI d i) ((0<=(↑d:Int)/\(↑d:Int)<(vT i))/\∃(e:Int),zE (aa zB i.b.buys) (↑d:Int).toNat 0 1=ay [dI e]/\∃(f:I3'),f.side=1/\f.x=e/\f.y=i.price/\True/\∀(g:Unit),True->cnd (btr f.side f.x f.y) (sF d b c i) (cnd (rI d i) (zIz d i) (zCd i d))) (cnd (rI d i) (zIz d i) (zCd i d))
def xV (a:BkP):=(↑(zZ 2 (a.b.rungs 2) a.price):Int)
def vV (a:BkP):=(↑(aa zB a.b.sells).length:Int)
def zIw (a:Nat) (b:BkP):Prop:=(0<=(↑a:Int)/\(↑a:Int)<(vV b))/\∃(c:Int),zE (aa zB b.b.sells) (↑a:Int).toNat 0 1=ay [dI c]/\∃(d:Unit),(xV b)=(↑a:Int)/\kR 2 (b.b.rungs 2) b.price=(c==b.price)/\dG b
def zCf (a:BkP) (b:Nat):Prop:=∃(c:Unit),(xV a)=(↑b:Int)/\kR 2 (a.b.rungs 2) a.price=ax/\dG a
def sM (a:Nat) (b:BkP):=(decide ((↑a:Int)<(vV b)))
def yGi (i:BkP):Prop:=
 ∃(a:Nat),(↑a:Int)=0/\∃(b:Nat->Prop),∃(c:Nat->Nat),b a/\∀(d:Nat),b d->cnd (sM d i) ((0<=(↑d:Int)/\(↑d:Int)<(vV i))/\∃(e:Int),zE (aa zB i.b.sells) (↑d:Int).toNat 0 1=ay [dI e]/\∃(f:I3'),f.side=2/\f.x=e/\f.y=i.price/\True/\∀(g:Unit),True->cnd (btr f.side f.x f.y) (sF d b c i) (cnd (sM d i) (zIw d i) (zCf i d))) (cnd (sM d i) (zIw d i) (zCf i d))
def dY (a:LdI):Prop:=aa zB a.b.buys=aa zB a.b.buys/\dh (aa zB a.b.sells)/\dh (atE a.b.at_)/\dh (iE a.b.spare)/\True
def sQ (a:LdI):Prop:=∃(b:Unit),dh a.id/\dh a.b.top2/\aw=aw/\dh a.b.has2/\af Arena 3 zG (a.b.untop 1)=zP a.b 1/\dY a
def zCi (a:LdI) (b:Int) (c:Int) (d:Int) (e:Bool):Prop:=kK (ba ae a.b.top1) (atE a.b.at_)=ay [dI b,dI c,dI d]/\e=aw\/kK (ba ae a.b.top1) (atE a.b.at_)=az/\[dI b,dI c,dI d]=[dI 0,dI 0,dI 0]/\e=ax
def zDc (a:LdI):Prop:=∀(b:be×List D),b∈atE a.b.at_->like (ba ae a.b.top1) b.fst=aw
def yHu (i:LdI):Prop:=
 cnd i.b.has1 ((zDc i)/\∃(a:Bool),∃(b:Int),∃(c:Int),∃(d:Int),(zCi i b c d a)/\((zDc i)/\∃(e:Bool),∃(f:Int),∃(g:Int),∃(h:Int),(zCi i f g h e)/\(f=b/\g=c/\h=d/\True)/\e=a/\True)/\dh i.b.top1/\True/\cnd a (cnd (b==1) (∃(e:z9u),e.n=d/\e.t=ax/\af Arena 3 zG e.a=zP i.b 1/\e.a.slots.length<=1000000/\∀(f:Unit),True->∃(g:Unit),dh i.id/\dh i.b.top2/\aw=aw/\dh i.b.has2/\af Arena 3 zG (i.b.untop 1)=af Arena 3 zG (e.a.topF e.n e.t)/\dY i) (sQ i)) (sQ i)) (sQ i)
def rK (a:LdI):Prop:=∃(b:Unit),dh a.b.top1/\dh a.id/\dh a.b.has1/\aw=aw/\af Arena 3 zG (a.b.untop 2)=zP a.b 1/\dY a
def zDm (a:LdI) (b:Int) (c:Int) (d:Int) (e:Bool):Prop:=kK (ba ae a.b.top2) (atE a.b.at_)=ay [dI b,dI c,dI d]/\e=aw\/kK (ba ae a.b.top2) (atE a.b.at_)=az/\[dI b,dI c,dI d]=[dI 0,dI 0,dI 0]/\e=ax
def zDl (a:LdI):Prop:=∀(b:be×List D),b∈atE a.b.at_->like (ba ae a.b.top2) b.fst=aw
def yHq (i:LdI):Prop:=
 cnd i.b.has2 ((zDl i)/\∃(a:Bool),∃(b:Int),∃(c:Int),∃(d:Int),(zDm i b c d a)/\((zDl i)/\∃(e:Bool),∃(f:Int),∃(g:Int),∃(h:Int),(zDm i f g h e)/\(f=b/\g=c/\h=d/\True)/\e=a/\True)/\dh i.b.top2/\True/\cnd a (cnd (b==2) (∃(e:z9u),e.n=d/\e.t=ax/\af Arena 3 zG e.a=zP i.b 1/\e.a.slots.length<=1000000/\∀(f:Unit),True->∃(g:Unit),dh i.b.top1/\dh i.id/\dh i.b.has1/\aw=aw/\af Arena 3 zG (i.b.untop 2)=af Arena 3 zG (e.a.topF e.n e.t)/\dY i) (rK i)) (rK i)) (rK i)
def qD (a:BkP):Prop:=(a.b.a.slots.length<=1000000/\a.b.a.queues.length<=1000000)/\a.b.buys.length<=1000000/\a.b.sells.length<=1000000/\a.b.spare.length<=1000000
def gW (a:BkP):Prop:=0<=(xU a)/\(xU a)<(vT a)
def vX (a:BkP):=((↑(iE a.b.spare).length:Int)-1)
def mQ (a:BkP):Prop:=0<=ae.wrap (vX a)/\ae.wrap (vX a)<=(↑(iE a.b.spare).length:Int)
def mO (a:BkP):Prop:=0<=ae.wrap (vX a)/\ae.wrap (vX a)<(↑(iE a.b.spare).length:Int)
def g9 (a:yAj):Prop:=a.i<=a.els.length/\(a.els.length+1)*(16:Nat)<=(140737488355328:Nat)
def gR (a:BkP):=(ae.wrap (vX a))
def zN (a:BkP):=(a.b.queueF 1 a.price)
def z5p (i:BkP):Prop:=
 ∃(a:BkP),dh ((1:Int))/\a.price=i.price/\a.b.top1=i.b.top1/\a.b.top2=i.b.top2/\a.b.has1=i.b.has1/\a.b.has2=i.b.has2/\af Arena 3 zG a.b.a=zP i.b 1/\aa zB a.b.buys=aa zB i.b.buys/\aa zB a.b.sells=aa zB i.b.sells/\atE a.b.at_=atE i.b.at_/\iE a.b.spare=iE i.b.spare/\(qD a)/\∀(b:Unit),True->cnd (kR 1 (a.b.rungs 1) a.price) ((gW a)/\∃(c:Int),zE (aa zB a.b.buys) (xU a).toNat 1 1=ay [dI c]/\∃(d:Unit),(zN i).snd=c/\(zN i).fst.top1=a.b.top1/\(zN i).fst.top2=a.b.top2/\(zN i).fst.has1=a.b.has1/\(zN i).fst.has2=a.b.has2/\af Arena 3 zG (zN i).fst.a=af Arena 3 zG a.b.a/\aa zB (zN i).fst.sells=aa zB a.b.sells/\atE (zN i).fst.at_=atE a.b.at_/\aa zB (zN i).fst.buys=aa zB a.b.buys/\iE (zN i).fst.spare=iE a.b.spare/\True) (cnd (decide ((↑(iE a.b.spare).length:Int)>0)) ((mO a)/\∃(c:Int),zE (iE a.b.spare) (gR a).toNat 0 1=ay [dI c]/\(mQ a)/\True/\∃(d:yAj),(↑d.i:Int)=(xU a)/\d.els=aa zB a.b.buys/\[d.el]=[[dI i.price,dI c]]/\(g9 d)/\∀(e:Unit),True->∃(f:Unit),(zN i).snd=c/\(zN i).fst.top1=a.b.top1/\(zN i).fst.top2=a.b.top2/\(zN i).fst.has1=a.b.has1/\(zN i).fst.has2=a.b.has2/\af Arena 3 zG (zN i).fst.a=af Arena 3 zG a.b.a/\aa zB (zN i).fst.sells=aa zB a.b.sells/\atE (zN i).fst.at_=atE a.b.at_/\aa zB (zN i).fst.buys=ab d.i d.els++d.el::ac d.i d.els/\iE (zN i).fst.spare=ab (gR a).toNat (iE a.b.spare)/\True) (∃(c:Arena),af Arena 3 zG c=af Arena 3 zG a.b.a/\c.queues.length<=1000000/\∀(d:Unit),True->True/\∃(e:yAj),(↑e.i:Int)=(xU a)/\e.els=aa zB a.b.buys/\[e.el]=[[dI i.price,dI (↑c.queues.length:Int)]]/\(g9 e)/\∀(f:Unit),True->∃(g:Unit),(zN i).snd=(↑c.queues.length:Int)/\(zN i).fst.top1=a.b.top1/\(zN i).fst.top2=a.b.top2/\(zN i).fst.has1=a.b.has1/\(zN i).fst.has2=a.b.has2/\af Arena 3 zG (zN i).fst.a=af Arena 3 zG c.openQ/\aa zB (zN i).fst.sells=aa zB a.b.sells/\atE (zN i).fst.at_=atE a.b.at_/\aa zB (zN i).fst.buys=ab e.i e.els++e.el::ac e.i e.els/\iE (zN i).fst.spare=iE a.b.spare/\True))
def gT (a:BkP):Prop:=0<=(xV a)/\(xV a)<(vV a)
def zM (a:BkP):=(a.b.queueF 2 a.price)
def z6q (i:BkP):Prop:=
 ∃(a:BkP),dh ((2:Int))/\a.price=i.price/\a.b.top1=i.b.top1/\a.b.top2=i.b.top2/\a.b.has1=i.b.has1/\a.b.has2=i.b.has2/\af Arena 3 zG a.b.a=zP i.b 1/\aa zB a.b.buys=aa zB i.b.buys/\aa zB a.b.sells=aa zB i.b.sells/\atE a.b.at_=atE i.b.at_/\iE a.b.spare=iE i.b.spare/\(qD a)/\∀(b:Unit),True->cnd (kR 2 (a.b.rungs 2) a.price) ((gT a)/\∃(c:Int),zE (aa zB a.b.sells) (xV a).toNat 1 1=ay [dI c]/\∃(d:Unit),(zM i).snd=c/\(zM i).fst.top1=a.b.top1/\(zM i).fst.top2=a.b.top2/\(zM i).fst.has1=a.b.has1/\(zM i).fst.has2=a.b.has2/\af Arena 3 zG (zM i).fst.a=af Arena 3 zG a.b.a/\aa zB (zM i).fst.buys=aa zB a.b.buys/\atE (zM i).fst.at_=atE a.b.at_/\aa zB (zM i).fst.sells=aa zB a.b.sells/\iE (zM i).fst.spare=iE a.b.spare/\True) (cnd (decide ((↑(iE a.b.spare).length:Int)>0)) ((mO a)/\∃(c:Int),zE (iE a.b.spare) (gR a).toNat 0 1=ay [dI c]/\(mQ a)/\True/\∃(d:yAj),(↑d.i:Int)=(xV a)/\d.els=aa zB a.b.sells/\[d.el]=[[dI i.price,dI c]]/\(g9 d)/\∀(e:Unit),True->∃(f:Unit),(zM i).snd=c/\(zM i).fst.top1=a.b.top1/\(zM i).fst.top2=a.b.top2/\(zM i).fst.has1=a.b.has1/\(zM i).fst.has2=a.b.has2/\af Arena 3 zG (zM i).fst.a=af Arena 3 zG a.b.a/\aa zB (zM i).fst.buys=aa zB a.b.buys/\atE (zM i).fst.at_=atE a.b.at_/\aa zB (zM i).fst.sells=ab d.i d.els++d.el::ac d.i d.els/\iE (zM i).fst.spare=ab (gR a).toNat (iE a.b.spare)/\True) (∃(c:Arena),af Arena 3 zG c=af Arena 3 zG a.b.a/\c.queues.length<=1000000/\∀(d:Unit),True->True/\∃(e:yAj),(↑e.i:Int)=(xV a)/\e.els=aa zB a.b.sells/\[e.el]=[[dI i.price,dI (↑c.queues.length:Int)]]/\(g9 e)/\∀(f:Unit),True->∃(g:Unit),(zM i).snd=(↑c.queues.length:Int)/\(zM i).fst.top1=a.b.top1/\(zM i).fst.top2=a.b.top2/\(zM i).fst.has1=a.b.has1/\(zM i).fst.has2=a.b.has2/\af Arena 3 zG (zM i).fst.a=af Arena 3 zG c.openQ/\aa zB (zM i).fst.buys=aa zB a.b.buys/\atE (zM i).fst.at_=atE a.b.at_/\aa zB (zM i).fst.sells=ab e.i e.els++e.el::ac e.i e.els/\iE (zM i).fst.spare=iE a.b.spare/\True))
def aW:bbetterC.ok Tryz.prog 150:=okw (V:=zXv) mixed gok0 0 (λ_=>[]) (λ_=>[]) [] Tryz.func150 λ(i:I3') _=>by
 unfold zXv;refine Cv.cnd.mk (λc=> ?_) (λc=> ?_)
 ·have c:i.side=1:=by simpa using c
  rw[btr,y5d c];(repeat'(first|exact rfl|exact trivial|assumption|apply ap|refineλ(_:Unit) (_:True)=>?_|refine bc () ?_|omega|(dsimp only;omega)))
 ·have c:¬i.side=1:=by simpa using c
  rw[btr,y5b c];(repeat'(first|exact rfl|exact trivial|assumption|apply ap|refineλ(_:Unit) (_:True)=>?_|refine bc () ?_|omega|(dsimp only;omega)))
def yEa:pushFC.ok Tryz.prog 217:=okw (V:=yEp) mixed gok0 0 (λ_=>[]) (λ_=>[]) [] Tryz.func217 λ(s:Slot) _=>by
 unfold yEp;(repeat'(first|exact rfl|exact trivial|assumption|apply ap|refineλ(_:Unit) (_:True)=>?_|refine bc () ?_|omega|(dsimp only;omega)))
def y3x {l:List Slot} {k:Nat} {s:Slot} (h:l[k]? =ay s):zE (l.map zR) k 0 8=ay [D.v (.bool s.used),.v (.int .i64 s.n),.v (.int .i64 s.id),.v (.int .i64 s.qty),.v (.bool s.top),.v (.int .i64 s.queue),.v (.int .i64 s.ahead),.v (.int .i64 s.back)]:=elA h (by simp[zR]) rfl
def yEj (l:List Slot) (h:idxSlotC.cnd l):zZs l:=by
 have h:l.length<=1000000:=h;unfold zZs dI;simp only[y5c];refine⟨0,rfl,λj=>j<=l.length/\∀k<j,∀x,l[k]? =ay x->(!x.used)=ax,λj=>l.length-j,⟨by omega,λk hk=>by omega⟩,?_⟩;rintro j ⟨h3,h4⟩;refine zI (λhj=> ?_) (λhj=> ?_)
 ·obtain⟨s,hs⟩:=yC (l:=l) (i:=j) (by omega);refine⟨⟨by omega,by omega⟩,s.used,s.n,s.id,s.qty,s.top,s.queue,s.ahead,s.back,y3x hs,s,rfl,rfl,rfl,rfl,rfl,rfl,rfl,rfl,trivial,λ_ _=>Cv.cnd.mk (λe=> ?_) (λe=> ?_)⟩
  ·rw[kZ,zIq hs e h4];(repeat'(first|exact rfl|exact trivial|assumption|apply ap|refineλ(_:Unit) (_:True)=>?_|refine bc () ?_|omega|(dsimp only;omega)))
  ·refine⟨j+1,by rw[w64 (by omega)];rfl,⟨by omega,λk hk x hx=> ?_⟩,by(first|omega|(dsimp only;omega)),by(repeat'(first|exact trivial|exact rfl|apply ap))⟩;rcases y7k k j with hk'|hk'
   ·exact h4 k hk' x hx
   ·obtain rfl:k=j:=by omega
    rw[hs]at hx;cases hx;exact e
 ·rw[kZ,zHr λk x hx=>h4 k (by have:=(y5f.1 hx).1;omega) x hx];(repeat'(first|exact rfl|exact trivial|assumption|apply ap|refineλ(_:Unit) (_:True)=>?_|refine bc () ?_|omega|(dsimp only;omega)))
def z4l:idxSlotC.ok Tryz.prog 216:=okw mixed (gokc yEa gok0) 0 (λ_=>[]) (λl=>yJa l) [] Tryz.func216 yEj
def z0z:aopenC.ok Tryz.prog 218:=okw (V:=yCx) mixed gok0 0 (λ_=>[]) (λ_=>[]) [0] Tryz.func218 λ(a:Arena) h=>by
 have h:a.queues.length<=1000000:=h;unfold yCx dI;rw[y5a,y5c,w64 (by simp only[y5g,y6v];omega)];refine⟨by omega,(),?_,rfl,rfl,?_,trivial⟩
 ·simp
 ·rw[y5l];rfl
def cE {α:Type} {f:α->α}:∀{l:List α} {i:Nat} {x:α},l[i]? =ay x->l.modify i f=l.set i (f x)
 |[],i,x,h=>by simp at h
 |a::l,0,x,h=>by simp at h;subst h;rfl
 |a::l,i+1,x,h=>by
  simp only[y7b]at h;simp only[xAl,xBa,cE h]
def yH {α:Type} {f:α->List D} {l:List α} {i g:Nat} {x y:α} {ds:List D} (hi:l[i]? =ay x) (hh:(f x).take g++(ds++(f x).drop (g+ds.length))=f y):zX (l.map f) i g ds=(l.set i y).map f:=by
 have hlt:=(y5f.1 hi).1;rw[zX,cE (by rw[y6q,hi];rfl),hh,List.map_set]
def uL {α:Type} {l:List α} {i:Nat} {x y:α} (hi:l[i]? =ay x):(l.set i y)[i]? =ay y:=List.getElem?_set_self (y5f.1 hi).1
def zU {α:Type} {l:List α} {i:Nat} {x d:α} (h:l[i]? =ay x):l.getD i d=x:=by rw[y5k,h];rfl
def y1u (i:z9u) (h:atopC.cnd i):yRe i:=by
 have h:i.a.slots.length<=1000000:=h;unfold yRe zAc;simp only[y5c];have no (e:i.a.usedAt i.n=ax):i.a.topF i.n i.t=i.a:=by rw[Arena.topF,y5b (by rw[e];decide)]
 refine zI (λc=> ?_) (λc=>zI (λd=> ?_) (λd=> ?_))
 ·have e:i.a.usedAt i.n=ax:=by rw[Arena.usedAt,y5q (by omega),y8m]
  rw[no e,e];(repeat'(first|exact rfl|exact trivial|assumption|apply ap|refineλ(_:Unit) (_:True)=>?_|refine bc () ?_|omega|(dsimp only;omega)))
 ·have e:i.a.usedAt i.n=ax:=by rw[Arena.usedAt,y5q (show ¬i.n<(i.a.slots.length:Int)by omega),y8m,xAf]
  rw[no e,e];(repeat'(first|exact rfl|exact trivial|assumption|apply ap|refineλ(_:Unit) (_:True)=>?_|refine bc () ?_|omega|(dsimp only;omega)))
 ·obtain⟨s,hs⟩:=yC (l:=i.a.slots) (i:=i.n.toNat) (by omega);have eu:i.a.usedAt i.n=s.used:=by rw[Arena.usedAt,y5s (show 0<=i.n by omega),y5s (show i.n<(i.a.slots.length:Int)by omega),zU hs];simp
  refine⟨⟨by omega,by omega⟩,s.used,elA hs (by simp[zR]) rfl,Cv.cnd.mk (λu=> ?_) (λu=> ?_)⟩
  ·have e:i.a.usedAt i.n=ax:=by rw[eu];simpa using u
   rw[no e,e];(repeat'(first|exact rfl|exact trivial|assumption|apply ap|refineλ(_:Unit) (_:True)=>?_|refine bc () ?_|omega|(dsimp only;omega)))
  ·have e:i.a.usedAt i.n=aw:=by rw[eu];simpa using u
   have et:i.a.topF i.n i.t={i.a with slots:=i.a.slots.set i.n.toNat {s with top:=i.t}}:=by
    rw[Arena.topF,y5d e,cE hs]
   rw[et,e,yH hs (y:={s with top:=i.t}) rfl];refine⟨⟨by omega,by omega⟩,by omega,(),rfl,rfl,rfl,rfl,trivial⟩
def z5t:atopC.ok Tryz.prog 215:=okw mixed gok0 1 (λ_=>[]) (λ_=>[]) [0] Tryz.func215 y1u
def yEh {l:List Slot} (h:∃s∈l,s.used=ax):∃k:Nat,kZ l=k/\k<l.length:=by
 obtain⟨s,hs,hu⟩:=h;cases hf:l.findIdx? λs=> !s.used with
 |none=>
  rw[y9v]at hf;have:=hf s hs;rw[hu]at this;cases this
 |some k=>
  rw[y8k]at hf;exact⟨k,by rw[kZ,show(l.findIdx? λs=> !s.used)=ay k by rw[y8k];exact hf];rfl,hf.1⟩
def yTu (i:PuI) (h:apushC.cnd i):yFg i:=by
 obtain⟨h1,h2,h3⟩:i.a.fit:=h;unfold yFg sW tC rO sZ zBz zCq tA yI dI;simp only[y5c];have out (e:i.n<0\/i.a.queues.length<=i.n):i.a.push i.n i.id i.qty i.top=(i.a,0,26):=by rw[Arena.push,y5d e]
 refine zI (λc=>Cv.cnd.mk (λd=> ?_) (λd=> ?_)) (λc=> ?_)
 ·have d:¬i.n<(i.a.queues.length:Int):=by simpa using d
  rw[out (.inr (by omega))];(repeat'(first|exact rfl|exact trivial|assumption|apply ap|refineλ(_:Unit) (_:True)=>?_|refine bc () ?_|omega|(dsimp only;omega)))
 ·have d:i.n<(i.a.queues.length:Int):=by simpa using d
  have hn:¬(i.n<0\/(i.a.queues.length:Int)<=i.n):=by omega
  refine zI (λq1=> ?_) (λq1=>zI (λq2=> ?_) (λq2=>Cv.cnd.mk (λfr=> ?_) (λfr=> ?_)))
  ·rw[Arena.push,y5b hn,y5d (.inl q1)];(repeat'(first|exact rfl|exact trivial|assumption|apply ap|refineλ(_:Unit) (_:True)=>?_|refine bc () ?_|omega|(dsimp only;omega)))
  ·rw[Arena.push,y5b hn,y5d (.inr q2)];(repeat'(first|exact rfl|exact trivial|assumption|apply ap|refineλ(_:Unit) (_:True)=>?_|refine bc () ?_|omega|(dsimp only;omega)))
  ·rw[Arena.push,y5b hn,y5b (by omega),y5d (by simpa using fr)];(repeat'(first|exact rfl|exact trivial|assumption|apply ap|refineλ(_:Unit) (_:True)=>?_|refine bc () ?_|omega|(dsimp only;omega)))
  ·have fr:i.a.free≠0:=by simpa using fr
   have ep:i.a.push i.n i.id i.qty i.top=(i.a.put i.n i.id i.qty i.top,kZ i.a.slots,0):=by rw[Arena.push,y5b hn,y5b (by omega),y5b fr]
   obtain⟨k,hk,hkl⟩:=yEh (h2 fr);obtain⟨q,hq⟩:=yC (l:=i.a.queues) (i:=i.n.toNat) (by omega);have hqm:=y5m hq;have hl:=h3 q hqm;obtain⟨s,hs⟩:=yC hkl;refine⟨i.a.slots,rfl,h1,λ_ _=>⟨⟨by omega,by omega⟩,q.last,elA hq (by simp[zO]) rfl,⟨by omega,by omega⟩,by rw[hk];exact hkl,q.last,elA hq (by simp[zO]) rfl,?_⟩⟩;rw[ep];have eput:i.a.put i.n i.id i.qty i.top=⟨if q.last= -1 then i.a.slots.set k ⟨aw,k,i.id,i.qty,i.top,i.n,q.last,-1⟩else(i.a.slots.set k ⟨aw,k,i.id,i.qty,i.top,i.n,q.last,-1⟩).modify q.last.toNat λs=>{s with back:=k},i.a.queues.set i.n.toNat ⟨if q.last= -1 then k else q.first,k,ae.wrap (q.total+i.qty),ae.wrap (q.count+1)⟩,ae.wrap (i.a.free-1)⟩:=by
    simp only[Arena.put,zU hq,hk,y5u]
   rw[eput,hk];simp only[y5u];have es:zX (aa zR i.a.slots) k 0 [D.v (.bool aw),D.v (.int .i64 k),D.v (.int .i64 i.id),D.v (.int .i64 i.qty),D.v (.bool i.top),D.v (.int .i64 i.n),D.v (.int .i64 q.last),D.v (.int .i64 (-1))]=aa zR (i.a.slots.set k ⟨aw,k,i.id,i.qty,i.top,i.n,q.last,-1⟩):=yH hs rfl;rw[es];refine Cv.cnd.mk (λe=> ?_) (λe=> ?_)
   ·have e:q.last= -1:=by simpa using e
    have e1:zX (aa zO i.a.queues) i.n.toNat (0+0) [D.v (.int .i64 k)]=aa zO (i.a.queues.set i.n.toNat {q with first:=k}):=yH hq rfl;have g1:=uL (y:={q with first:=(k:Int)}) hq;have e2:zX (aa zO (i.a.queues.set i.n.toNat {q with first:=k})) i.n.toNat (0+1) [D.v (.int .i64 k)]=aa zO (i.a.queues.set i.n.toNat {q with first:=k,last:=k}):=by
     rw[yH g1 (y:={q with first:=(k:Int),last:=(k:Int)}) rfl,y9f]
    have g2:=uL (y:={q with first:=(k:Int),last:=(k:Int)}) hq;have e3:zX (aa zO (i.a.queues.set i.n.toNat {q with first:=k,last:=k})) i.n.toNat (0+2) [D.v (.int .i64 (ae.wrap (q.total+i.qty)))]=aa zO (i.a.queues.set i.n.toNat {q with first:=k,last:=k,total:=ae.wrap (q.total+i.qty)}):=by
     rw[yH g2 (y:={q with first:=(k:Int),last:=(k:Int),total:=ae.wrap (q.total+i.qty)}) rfl,y9f]
    have g3:=uL (y:={q with first:=(k:Int),last:=(k:Int),total:=ae.wrap (q.total+i.qty)}) hq;have e4:zX (aa zO (i.a.queues.set i.n.toNat {q with first:=k,last:=k,total:=ae.wrap (q.total+i.qty)})) i.n.toNat (0+3) [D.v (.int .i64 (ae.wrap (q.count+1)))]=aa zO (i.a.queues.set i.n.toNat ⟨k,k,ae.wrap (q.total+i.qty),ae.wrap (q.count+1)⟩):=by
     rw[yH g3 (y:=⟨k,k,ae.wrap (q.total+i.qty),ae.wrap (q.count+1)⟩) rfl,y9f]
    rw[e1,e2];simp only[y5d e];refine⟨by omega,by simp only[y5c,y6j];omega,q.total,elA g2 (by simp[zO]) rfl,by simp only[y5c,y6j];omega,q.count,?_,by rw[e3];simp only[y5c,y6j];omega,(),?_⟩
    ·rw[e3];exact elA g3 (by simp[zO]) rfl
    ·rw[e3,e4];(repeat'(first|exact rfl|exact trivial|assumption|apply ap|refineλ(_:Unit) (_:True)=>?_|refine bc () ?_|omega|(dsimp only;omega)))
   ·have e:¬q.last= -1:=by simpa using e
    have hl:0<=q.last/\q.last<i.a.slots.length:=hl.resolve_left e;have e2:zX (aa zO i.a.queues) i.n.toNat (0+1) [D.v (.int .i64 k)]=aa zO (i.a.queues.set i.n.toNat {q with last:=k}):=yH hq rfl;have g2:=uL (y:={q with last:=(k:Int)}) hq;have e3:zX (aa zO (i.a.queues.set i.n.toNat {q with last:=k})) i.n.toNat (0+2) [D.v (.int .i64 (ae.wrap (q.total+i.qty)))]=aa zO (i.a.queues.set i.n.toNat {q with last:=k,total:=ae.wrap (q.total+i.qty)}):=by
     rw[yH g2 (y:={q with last:=(k:Int),total:=ae.wrap (q.total+i.qty)}) rfl,y9f]
    have g3:=uL (y:={q with last:=(k:Int),total:=ae.wrap (q.total+i.qty)}) hq;have e4:zX (aa zO (i.a.queues.set i.n.toNat {q with last:=k,total:=ae.wrap (q.total+i.qty)})) i.n.toNat (0+3) [D.v (.int .i64 (ae.wrap (q.count+1)))]=aa zO (i.a.queues.set i.n.toNat ⟨q.first,k,ae.wrap (q.total+i.qty),ae.wrap (q.count+1)⟩):=by
     rw[yH g3 (y:=⟨q.first,k,ae.wrap (q.total+i.qty),ae.wrap (q.count+1)⟩) rfl,y9f]
    obtain⟨s2,hs2⟩:=yC (l:=i.a.slots.set k ⟨aw,k,i.id,i.qty,i.top,i.n,q.last,-1⟩) (i:=q.last.toNat) (by rw[y6j];omega);have e5:zX (aa zR (i.a.slots.set k ⟨aw,k,i.id,i.qty,i.top,i.n,q.last,-1⟩)) q.last.toNat (0+7) [D.v (.int .i64 k)]=aa zR ((i.a.slots.set k ⟨aw,k,i.id,i.qty,i.top,i.n,q.last,-1⟩).modify q.last.toNat λs=>{s with back:=k}):=by
     rw[yH hs2 (y:={s2 with back:=(k:Int)}) rfl,cE hs2]
    rw[e2];simp only[y5b e];refine⟨q.last,elA hq (by simp[zO]) rfl,⟨by omega,by simp only[y5c,y6j];omega⟩,by simp only[y5c,y6j];omega,by omega,q.total,elA g2 (by simp[zO]) rfl,by simp only[y5c,y6j];omega,q.count,?_,by rw[e3];simp only[y5c,y6j];omega,(),?_⟩
    ·rw[e3];exact elA g3 (by simp[zO]) rfl
    ·rw[e3,e4,e5];(repeat'(first|exact rfl|exact trivial|assumption|apply ap|refineλ(_:Unit) (_:True)=>?_|refine bc () ?_|omega|(dsimp only;omega)))
 ·rw[out (.inl (by omega))];(repeat'(first|exact rfl|exact trivial|assumption|apply ap|refineλ(_:Unit) (_:True)=>?_|refine bc () ?_|omega|(dsimp only;omega)))
def z0v:apushC.ok Tryz.prog 204:=okw mixed (gokc z4l gok0) 1 (λ_=>[]) (λ_=>[]) [0] Tryz.func204 yTu
def pU {s price:Int}:∀{l:List xL} {j:Nat},j<=l.length->(∀k<j,∀r,l[k]? =ay r->btr s r.price price=aw)->(∀r,l[j]? =ay r->btr s r.price price=ax)->zZ s l price=j
 |[],j,hj,_,_=>by
  obtain rfl:j=0:=by simpa using hj
  rfl
 |r::l,0,_,_,he=>by
  have:=he r rfl;rw[zZ,List.takeWhile_cons,this];rfl
 |r::l,j+1,hj,h,he=>by
  have h0:=h 0 (by omega) r rfl;have ih:=pU (l:=l) (j:=j) (by simpa using hj) (λk hk x hx=>h (k+1) (by omega) x (by simpa using hx)) (λx hx=>he x (by simpa using hx));rw[zZ]at ih ⊢;rw[List.takeWhile_cons,h0,y5d rfl,y5g,ih]
def zFn (s price:Int) (l:List xL):zZ s l price<=l.length:=(List.takeWhile_sublist _).length_le
def rT (b:Book):b.rungs 1=b.buys:=rfl
def rC (b:Book):b.rungs 2=b.sells:=rfl
def yVx (i:BkP) (h:find1C.cnd i):yHm i:=by
 obtain⟨_,h1,h2,_⟩:i.b.small:=h;unfold yHm zIz rI vT sF zCd dG xU dI;simp only[y5c,rT];refine⟨0,rfl,λj=>j<=i.b.buys.length/\∀k<j,∀r,i.b.buys[k]? =ay r->btr 1 r.price i.price=aw,λj=>i.b.buys.length-j,⟨by omega,λk hk=>by omega⟩,?_⟩;rintro j ⟨h3,h4⟩;refine zI (λhj=> ?_) (λhj=> ?_)
 ·obtain⟨r,hr⟩:=yC (l:=i.b.buys) (i:=j) (by omega);refine⟨⟨by omega,by omega⟩,r.price,elA hr (by simp[zB]) rfl,⟨1,r.price,i.price⟩,rfl,rfl,rfl,trivial,λ_ _=> ?_⟩;dsimp only;refine Cv.cnd.mk (λe=>⟨j+1,by rw[w64 (by omega)];rfl,⟨by omega,λk hk x hx=> ?_⟩,by(first|omega|(dsimp only;omega)),by(repeat'(first|exact trivial|exact rfl|apply ap))⟩) (λe=>zI (λ_=> ?_) (λc=>absurd hj c))
  ·rcases y7k k j with hk'|hk'
   ·exact h4 k hk' x hx
   ·obtain rfl:k=j:=by omega
    rw[hr]at hx;cases hx;exact e
  ·have en:zZ 1 i.b.buys i.price=j:=pU h3 h4 λx hx=>by rw[hr]at hx;cases hx;exact e
   have eb:kR 1 i.b.buys i.price=(r.price==i.price):=by rw[kR,en,hr];exact(zWy _ _).symm
   refine⟨⟨by omega,by omega⟩,r.price,elA hr (by simp[zB]) rfl,(),by rw[en],eb,?_⟩
   (repeat'(first|exact trivial|exact rfl|apply ap))
 ·have en:zZ 1 i.b.buys i.price=j:=pU h3 h4 λx hx=>by have:=(y5f.1 hx).1;omega
  have eb:kR 1 i.b.buys i.price=ax:=by rw[kR,en,y6h (by omega)]
  refine zI (λc=>absurd c hj) (λ_=>⟨(),by rw[en],eb,?_⟩)
  (repeat'(first|exact trivial|exact rfl|apply ap))
def zNt:find1C.ok Tryz.prog 207:=okw mixed (gokc aW gok0) 0 (λ_=>[]) (λ_=>yQn) [] Tryz.func207 yVx
def jZ (l:List (Int×Place)) (k:Int):∀(p:be×List D),p∈atE l->like (ba ae k) p.1=aw:=by
 intro p hp;obtain⟨x,_,rfl⟩:=y6n.1 hp;rfl
def zBb (k:Int):∀l:List (Int×Place),kK (ba ae k) (atE l)=(pget l k).map z1s
 |[]=>rfl
 |(a,v)::l=>by
  have ih:=zBb k l;show(bif (keq .i64 .i64 && decide (k=a))then _ else kK _ (atE l))=_;by_cases h:k=a
  ·subst h;simp[pget,keq]
  ·have h':¬a=k:=λe=>h e.symm
   rw[show(keq .i64 .i64 && decide (k=a))=ax by simp[h],cond_false,ih];simp[pget,xBe,h']
def zHn:Place:=⟨0,0,0⟩
def zQz (l:List (Int×Place)) (k:Int):kK (ba ae k) (atE l)=ay [D.v (.int .i64 ((pget l k).getD zHn).side),D.v (.int .i64 ((pget l k).getD zHn).price),D.v (.int .i64 ((pget l k).getD zHn).slot)]/\(pget l k).isSome=aw\/kK (ba ae k) (atE l)=az/\[D.v (.int .i64 ((pget l k).getD zHn).side),D.v (.int .i64 ((pget l k).getD zHn).price),D.v (.int .i64 ((pget l k).getD zHn).slot)]=[D.v (.int .i64 0),D.v (.int .i64 0),D.v (.int .i64 0)]/\(pget l k).isSome=ax:=by
 rw[zBb];cases pget l k with
 |none=>exact .inr ⟨rfl,rfl,rfl⟩
 |some v=>exact .inl ⟨rfl,rfl⟩
def zWc (k:Int) (v:Place):∀l,uH (ba ae k) (z1s v) (atE l)=atE (rJ k v l)
 |[]=>rfl
 |(a,b)::l=>by
  have ih:=zWc k v l;show(bif (keq .i64 .i64 && decide (k=a))then _ else _::uH _ _ (atE l))=_;rw[ih,rJ];by_cases h:k=a
  ·subst h;simp[keq,atE]
  ·simp[h,atE]
def yVz (i:LdI) (h:lead1C.cnd i):yHu i:=by
 obtain⟨⟨ha,_⟩,h1,h2,_⟩:i.b.small:=h;unfold yHu zDc zCi sQ dY dI;have no (e:i.b.untop 1=i.b.a):af Arena 3 zG (i.b.untop 1)=zP i.b 1:=by rw[e];rfl
 refine Cv.cnd.mk (λc=> ?_) (λc=>⟨(),?_⟩)
 ·have c:i.b.hasF 1=aw:=c;refine⟨jZ _ _,(pget i.b.at_ i.b.top1).isSome,_,_,_,zQz _ _,⟨jZ _ _,(pget i.b.at_ i.b.top1).isSome,_,_,_,zQz _ _,⟨rfl,rfl,rfl,trivial⟩,rfl,trivial⟩,rfl,trivial,Cv.cnd.mk (λd=>Cv.cnd.mk (λe=> ?_) (λe=>⟨(),?_⟩)) (λd=>⟨(),?_⟩)⟩
  ·obtain⟨o,ho⟩:=xAs.1 d;have e:o.side=1:=by rw[ho]at e;simpa using e
   have eu:i.b.untop 1=i.b.a.topF o.slot ax:=by
    have ht:pget i.b.at_ (i.b.topI 1)=ay o:=ho;rw[Book.untop,y5d c,ht];dsimp only;rw[y5d e]
   refine⟨⟨i.b.a,o.slot,ax⟩,by rw[ho];rfl,rfl,rfl,ha,λ_ _=>⟨(),?_⟩⟩;rw[eu];(repeat'(first|exact trivial|exact rfl|apply ap))
  ·obtain⟨o,ho⟩:=xAs.1 d;have e:¬o.side=1:=by rw[ho]at e;simpa using e
   have ht:pget i.b.at_ (i.b.topI 1)=ay o:=ho;rw[no (by rw[Book.untop,y5d c,ht];dsimp only;rw[y5b e])];(repeat'(first|exact trivial|exact rfl|apply ap))
  ·have ht:pget i.b.at_ (i.b.topI 1)=az:=by
    show pget i.b.at_ i.b.top1=az;simpa using d
   rw[no (by rw[Book.untop,y5d c,ht])];(repeat'(first|exact trivial|exact rfl|apply ap))
 ·have c:¬i.b.hasF 1=aw:=by rw[show i.b.hasF 1=i.b.has1 from rfl,c];decide
  rw[no (by rw[Book.untop,y5b c])];(repeat'(first|exact trivial|exact rfl|apply ap))
def yKn:lead1C.ok Tryz.prog 203:=okw mixed (gokc z5t gok0) 0 (λ_=>[]) (λ_=>[]) [] Tryz.func203 yVz
def zXn {s price:Int} {l:List xL} (h:kR s l price=aw):∃r,l[zZ s l price]? =ay r:=by
 rw[kR]at h;split at h
 ·rename_i r hr;exact⟨r,hr⟩
 ·cases h
def yMc (i:BkP) (h:queue1C.cnd i):z5p i:=by
 obtain⟨⟨ha,_⟩,ha',h1,h2,h3⟩:i.b.fit:=h;have hle:=zFn 1 i.price i.b.buys;unfold z5p zN gR g9 mO mQ vX gW vT qD xU dI;refine⟨i,rfl,rfl,rfl,rfl,rfl,rfl,rfl,rfl,rfl,rfl,rfl,⟨⟨ha,by omega⟩,by omega,by omega,by omega⟩,λ_ _=> ?_⟩;simp only[y5c,yZ,rT];refine Cv.cnd.mk (λc=> ?_) (λc=> ?_)
 ·obtain⟨r,hr⟩:=zXn c;have hlt:=(y5f.1 hr).1;have e:i.b.queueF 1 i.price=(i.b,r.queue):=by rw[Book.queueF,y5d (by rw[rT];exact c),rT,zU hr]
  rw[e];refine⟨⟨by omega,by omega⟩,r.queue,elA (by simpa using hr) (by simp[zB]) rfl,(),?_⟩
  (repeat'(first|exact trivial|exact rfl|apply ap))
 ·have e:i.b.queueF 1 i.price=({i.b with a:=i.b.newQ.2.2,buys:=i.b.ins 1 i.price,spare:=i.b.newQ.2.1},i.b.newQ.1):=by
   rw[Book.queueF,y5b (by rw[rT,c];decide),y5d rfl]
  have hins:aa zB (i.b.ins 1 i.price)=ab (zZ 1 i.b.buys i.price) (aa zB i.b.buys)++zB ⟨i.price,i.b.newQ.1⟩::ac (zZ 1 i.b.buys i.price) (aa zB i.b.buys):=by
   rw[Book.ins,rT,y5l,y5p,y9p,xAm]
  rw[e];refine zI (λd=> ?_) (λd=> ?_)
  ·have w:ae.wrap ((i.b.spare.length:Int)-1)=((i.b.spare.length-1:Nat):Int):=by rw[w64 (by omega)];omega
   rw[w];simp only[y5u];obtain⟨q,hq⟩:=yC (l:=i.b.spare) (i:=i.b.spare.length-1) (by omega);have eq:i.b.newQ=(q,i.b.spare.take (i.b.spare.length-1),i.b.a):=by rw[Book.newQ,y5b (by omega),zU hq]
   rw[eq]at hins ⊢;refine⟨⟨by omega,by omega⟩,q,elI hq,⟨by omega,by omega⟩,trivial,⟨i.b.buys.map zB,zB ⟨i.price,q⟩,zZ 1 i.b.buys i.price⟩,rfl,rfl,rfl,⟨by rw[y5c];exact hle,by rw[y5c];omega⟩,λ_ _=>⟨(),?_⟩⟩;have hs:iE (i.b.spare.take (i.b.spare.length-1))=(iE i.b.spare).take (i.b.spare.length-1):=by simp only[iE,y9p]
   (repeat'(first|exact rfl|exact trivial|assumption|apply ap|refineλ(_:Unit) (_:True)=>?_|refine bc () ?_|omega|(dsimp only;omega)))
  ·have eq:i.b.newQ=((i.b.a.queues.length:Int),i.b.spare,i.b.a.openQ):=by rw[Book.newQ,y5d (by omega)]
   rw[eq]at hins ⊢;refine⟨i.b.a,rfl,by omega,λ_ _=>⟨trivial,⟨i.b.buys.map zB,zB ⟨i.price,i.b.a.queues.length⟩,zZ 1 i.b.buys i.price⟩,rfl,rfl,rfl,⟨by rw[y5c];exact hle,by rw[y5c];omega⟩,λ_ _=>⟨(),?_⟩⟩⟩
   (repeat'(first|exact rfl|exact trivial|assumption|apply ap|refineλ(_:Unit) (_:True)=>?_|refine bc () ?_|omega|(dsimp only;omega)))
def zHx:vP Tryz.prog 241=ay (255,2,16,#[.int .i64 0,.int .i64 0]):=by kernel_rfl
def z8y:insRC.ok Tryz.prog 219:=
 insX_ok (tS:=241) (tI:=3) (fO:=224) (fR:=225) (z:= #[.int .i64 0,.int .i64 0]) mixed Tryz.func219 rfl (by kernel_rfl) (by kernel_rfl) (by kernel_rfl) (by kernel_rfl) zHx rfl (by decide) (by decide) (by kernel_rfl) Tryz.underlying3
  (yMx (tS:=241) (tB:=4) Tryz.func224 (by kernel_rfl) (by kernel_rfl) (by kernel_rfl) (by kernel_rfl) zHx) (λs sn sk i v vn vk w R=>by kernel_rfl)
def yCd:queue1C.ok Tryz.prog 205:=okw mixed (gokc zNt (gokc z0z (gokc z8y gok0))) 0 (λ_=>[]) (λ_=>[]) [] Tryz.func205 yMc
def yVs (i:BkP) (h:find2C.cnd i):yGi i:=by
 obtain⟨_,h1,h2,_⟩:i.b.small:=h;unfold yGi zIw sM vV zCf xV dG sF dI;simp only[y5c,rC];refine⟨0,rfl,λj=>j<=i.b.sells.length/\∀k<j,∀r,i.b.sells[k]? =ay r->btr 2 r.price i.price=aw,λj=>i.b.sells.length-j,⟨by omega,λk hk=>by omega⟩,?_⟩;rintro j ⟨h3,h4⟩;refine zI (λhj=> ?_) (λhj=> ?_)
 ·obtain⟨r,hr⟩:=yC (l:=i.b.sells) (i:=j) (by omega);refine⟨⟨by omega,by omega⟩,r.price,elA hr (by simp[zB]) rfl,⟨2,r.price,i.price⟩,rfl,rfl,rfl,trivial,λ_ _=> ?_⟩;dsimp only;refine Cv.cnd.mk (λe=>⟨j+1,by rw[w64 (by omega)];rfl,⟨by omega,λk hk x hx=> ?_⟩,by(first|omega|(dsimp only;omega)),by(repeat'(first|exact trivial|exact rfl|apply ap))⟩) (λe=>zI (λ_=> ?_) (λc=>absurd hj c))
  ·rcases y7k k j with hk'|hk'
   ·exact h4 k hk' x hx
   ·obtain rfl:k=j:=by omega
    rw[hr]at hx;cases hx;exact e
  ·have en:zZ 2 i.b.sells i.price=j:=pU h3 h4 λx hx=>by rw[hr]at hx;cases hx;exact e
   have eb:kR 2 i.b.sells i.price=(r.price==i.price):=by rw[kR,en,hr];exact(zWy _ _).symm
   refine⟨⟨by omega,by omega⟩,r.price,elA hr (by simp[zB]) rfl,(),by rw[en],eb,?_⟩
   (repeat'(first|exact trivial|exact rfl|apply ap))
 ·have en:zZ 2 i.b.sells i.price=j:=pU h3 h4 λx hx=>by have:=(y5f.1 hx).1;omega
  have eb:kR 2 i.b.sells i.price=ax:=by rw[kR,en,y6h (by omega)]
  refine zI (λc=>absurd c hj) (λ_=>⟨(),by rw[en],eb,?_⟩)
  (repeat'(first|exact trivial|exact rfl|apply ap))
def zMr:find2C.ok Tryz.prog 207:=okw mixed (gokc aW gok0) 0 (λ_=>[]) (λ_=>yQn) [] Tryz.func207 yVs
def ySe (i:LdI) (h:lead2C.cnd i):yHq i:=by
 obtain⟨⟨ha,_⟩,h1,h2,_⟩:i.b.small:=h;unfold yHq zDl zDm rK dY dI;have no (e:i.b.untop 2=i.b.a):af Arena 3 zG (i.b.untop 2)=zP i.b 1:=by rw[e];rfl
 refine Cv.cnd.mk (λc=> ?_) (λc=>⟨(),?_⟩)
 ·have c:i.b.hasF 2=aw:=c;refine⟨jZ _ _,(pget i.b.at_ i.b.top2).isSome,_,_,_,zQz _ _,⟨jZ _ _,(pget i.b.at_ i.b.top2).isSome,_,_,_,zQz _ _,⟨rfl,rfl,rfl,trivial⟩,rfl,trivial⟩,rfl,trivial,Cv.cnd.mk (λd=>Cv.cnd.mk (λe=> ?_) (λe=>⟨(),?_⟩)) (λd=>⟨(),?_⟩)⟩
  ·obtain⟨o,ho⟩:=xAs.1 d;have e:o.side=2:=by rw[ho]at e;simpa using e
   have eu:i.b.untop 2=i.b.a.topF o.slot ax:=by
    have ht:pget i.b.at_ (i.b.topI 2)=ay o:=ho;rw[Book.untop,y5d c,ht];dsimp only;rw[y5d e]
   refine⟨⟨i.b.a,o.slot,ax⟩,by rw[ho];rfl,rfl,rfl,ha,λ_ _=>⟨(),?_⟩⟩;rw[eu];(repeat'(first|exact trivial|exact rfl|apply ap))
  ·obtain⟨o,ho⟩:=xAs.1 d;have e:¬o.side=2:=by rw[ho]at e;simpa using e
   have ht:pget i.b.at_ (i.b.topI 2)=ay o:=ho;rw[no (by rw[Book.untop,y5d c,ht];dsimp only;rw[y5b e])];(repeat'(first|exact trivial|exact rfl|apply ap))
  ·have ht:pget i.b.at_ (i.b.topI 2)=az:=by
    show pget i.b.at_ i.b.top2=az;simpa using d
   rw[no (by rw[Book.untop,y5d c,ht])];(repeat'(first|exact trivial|exact rfl|apply ap))
 ·have c:¬i.b.hasF 2=aw:=by rw[show i.b.hasF 2=i.b.has2 from rfl,c];decide
  rw[no (by rw[Book.untop,y5b c])];(repeat'(first|exact trivial|exact rfl|apply ap))
def yJw:lead2C.ok Tryz.prog 203:=okw mixed (gokc z5t gok0) 0 (λ_=>[]) (λ_=>[]) [] Tryz.func203 ySe
def yNx (i:BkP) (h:queue2C.cnd i):z6q i:=by
 obtain⟨⟨ha,_⟩,ha',h1,h2,h3⟩:i.b.fit:=h;have hle:=zFn 2 i.price i.b.sells;unfold z6q zM gT vV gR g9 mO mQ vX qD xV dI;refine⟨i,rfl,rfl,rfl,rfl,rfl,rfl,rfl,rfl,rfl,rfl,rfl,⟨⟨ha,by omega⟩,by omega,by omega,by omega⟩,λ_ _=> ?_⟩;simp only[y5c,yZ,rC];refine Cv.cnd.mk (λc=> ?_) (λc=> ?_)
 ·obtain⟨r,hr⟩:=zXn c;have hlt:=(y5f.1 hr).1;have e:i.b.queueF 2 i.price=(i.b,r.queue):=by rw[Book.queueF,y5d (by rw[rC];exact c),rC,zU hr]
  rw[e];refine⟨⟨by omega,by omega⟩,r.queue,elA (by simpa using hr) (by simp[zB]) rfl,(),?_⟩
  (repeat'(first|exact trivial|exact rfl|apply ap))
 ·have e:i.b.queueF 2 i.price=({i.b with a:=i.b.newQ.2.2,sells:=i.b.ins 2 i.price,spare:=i.b.newQ.2.1},i.b.newQ.1):=by
   rw[Book.queueF,y5b (by rw[rC,c];decide),y5b (by decide)]
  have hins:aa zB (i.b.ins 2 i.price)=ab (zZ 2 i.b.sells i.price) (aa zB i.b.sells)++zB ⟨i.price,i.b.newQ.1⟩::ac (zZ 2 i.b.sells i.price) (aa zB i.b.sells):=by
   rw[Book.ins,rC,y5l,y5p,y9p,xAm]
  rw[e];refine zI (λd=> ?_) (λd=> ?_)
  ·have w:ae.wrap ((i.b.spare.length:Int)-1)=((i.b.spare.length-1:Nat):Int):=by rw[w64 (by omega)];omega
   rw[w];simp only[y5u];obtain⟨q,hq⟩:=yC (l:=i.b.spare) (i:=i.b.spare.length-1) (by omega);have eq:i.b.newQ=(q,i.b.spare.take (i.b.spare.length-1),i.b.a):=by rw[Book.newQ,y5b (by omega),zU hq]
   rw[eq]at hins ⊢;refine⟨⟨by omega,by omega⟩,q,elI hq,⟨by omega,by omega⟩,trivial,⟨i.b.sells.map zB,zB ⟨i.price,q⟩,zZ 2 i.b.sells i.price⟩,rfl,rfl,rfl,⟨by rw[y5c];exact hle,by rw[y5c];omega⟩,λ_ _=>⟨(),?_⟩⟩;have hs:iE (i.b.spare.take (i.b.spare.length-1))=(iE i.b.spare).take (i.b.spare.length-1):=by simp only[iE,y9p]
   (repeat'(first|exact rfl|exact trivial|assumption|apply ap|refineλ(_:Unit) (_:True)=>?_|refine bc () ?_|omega|(dsimp only;omega)))
  ·have eq:i.b.newQ=((i.b.a.queues.length:Int),i.b.spare,i.b.a.openQ):=by rw[Book.newQ,y5d (by omega)]
   rw[eq]at hins ⊢;refine⟨i.b.a,rfl,by omega,λ_ _=>⟨trivial,⟨i.b.sells.map zB,zB ⟨i.price,i.b.a.queues.length⟩,zZ 2 i.b.sells i.price⟩,rfl,rfl,rfl,⟨by rw[y5c];exact hle,by rw[y5c];omega⟩,λ_ _=>⟨(),?_⟩⟩⟩
   (repeat'(first|exact rfl|exact trivial|assumption|apply ap|refineλ(_:Unit) (_:True)=>?_|refine bc () ?_|omega|(dsimp only;omega)))
def yBx:queue2C.ok Tryz.prog 205:=okw mixed (gokc zMr (gokc z0z (gokc z8y gok0))) 0 (λ_=>[]) (λ_=>[]) [] Tryz.func205 yNx
structure BaI where
 b:Book
 id:Int
 price:Int
 qty:Int
def Book.leads (b:Book) (s price:Int):Bool:=match b.rungs s with
 |[]=>aw
 |r::_=>btr s price r.price
def Book.led (b:Book) (id s price:Int):Book:=if b.leads s price=aw then b.leadF id s else b
def Book.stand (b:Book) (s id price qty:Int):Book:=
 let b2:=(b.led id s price).queueF s price
 let x:=b2.1.a.push b2.2 id qty (b.leads s price)
 {b2.1 with a:=x.1,at_:=rJ id ⟨s,price,x.2.1⟩ b2.1.at_}
def Book.addF (b:Book) (s id price qty:Int):Book×Int:=
 if qty<1\/1000000<qty then(b,24)else if(pget b.at_ id).isSome=aw then(b,25)else if 250<=b.at_.length then(b,13)else(b.stand s id price qty,0)
def yJj (s:Int):Con:=con1 BaI (λi=>[.nm 0 0,zA i.id,zA s,zA i.price,zA i.qty]) (λi=>[z8 i.b]) (λi=>i.b.fit) (λi=>zA (i.b.addF s i.id i.price i.qty).2) (λi=>[z8 (i.b.addF s i.id i.price i.qty).1])
def yRd:List (Nat×SAnn):=[(44,bj 14)]
def badd1C:Con:=yJj 1
def badd2C:Con:=yJj 2
structure BaJ where
 i:BaI
 s:Bool
def baddC:Con:=con1 BaJ (λj=>[.nm 0 0,zA j.i.id,zA (zC j.s),zA j.i.price,zA j.i.qty]) (λj=>[z8 j.i.b]) (λj=>j.i.b.fit) (λj=>zA (j.i.b.addF (zC j.s) j.i.id j.i.price j.i.qty).2) (λj=>[z8 (j.i.b.addF (zC j.s) j.i.id j.i.price j.i.qty).1])
structure SaI where
 s:MSt
 inst:Int
 id:Int
 sd:Bool
 price:Int
 qty:Int
def MSt.bookAt (s:MSt) (n:Int):Book:=s.books.getD n.toNat book0
def MSt.addF (i:SaI):MSt×Int:=
 if i.inst<0\/i.s.books.length<=i.inst then(i.s,20)else if(zDh i.s.wh i.id).isSome=aw then(i.s,25)else if 250<=i.s.wh.length then(i.s,13)else if i.s.p.price i.inst i.price≠0 then(i.s,i.s.p.price i.inst i.price)
 else
  let x:=(i.s.bookAt i.inst).addF (zC i.sd) i.id i.price i.qty
  ({i.s with books:=i.s.books.set i.inst.toNat x.1,wh:=if x.2=0 then z0e i.id i.inst i.s.wh else i.s.wh},x.2)
@[reducible] def MSt.fit (s:MSt):Prop:=s.p.small/\s.books.length<=1000000/\∀b∈s.books,b.fit
def saddC:Con:=con1 SaI (λi=>[.nm 0 0,zA i.inst,zA i.id,zA (zC i.sd),zA i.price,zA i.qty]) (λi=>[zD i.s]) (λi=>i.s.fit) (λi=>zA (MSt.addF i).2) (λi=>[zD (MSt.addF i).1])
def rU (a:BkP):Prop:=(a.b.a.slots.length<=1000000/\(a.b.a.free≠0->∃(b:Slot),b∈a.b.a.slots/\b.used=ax)/\∀(b:cJ),b∈a.b.a.queues->b.last=(-1)\/0<=b.last/\b.last<(↑a.b.a.slots.length:Int))/\a.b.a.queues.length<=100000/\a.b.buys.length<=100000/\a.b.sells.length<=100000/\a.b.spare.length<=100000
def rW (a:PuI):Prop:=a.a.slots.length<=1000000/\(a.a.free≠0->∃(b:Slot),b∈a.a.slots/\b.used=ax)/\∀(b:cJ),b∈a.a.queues->b.last=(-1)\/0<=b.last/\b.last<(↑a.a.slots.length:Int)
def yM (a:BaI):=(a.b.addF 1 a.id a.price a.qty)
def zJe (a:BkP) (b:BaI) (c:Bool):Prop:=(rU a)/\∀(d:Unit),True->True/\∃(e:PuI),e.n=(zN a).snd/\e.id=b.id/\e.qty=b.qty/\e.top=c/\af Arena 3 zG e.a=af Arena 3 zG (zN a).fst.a/\(rW e)/\∀(f:Unit),True->(∀(g:be×List D),g∈atE (zN a).fst.at_->like (ba ae b.id) g.fst=aw)/\∃(g:Unit),(yM b).snd=0/\(yM b).fst.top1=(zN a).fst.top1/\(yM b).fst.top2=(zN a).fst.top2/\(yM b).fst.has1=(zN a).fst.has1/\(yM b).fst.has2=(zN a).fst.has2/\af Arena 3 zG (yM b).fst.a=af Arena 3 zG (yI e).fst/\aa zB (yM b).fst.buys=aa zB (zN a).fst.buys/\aa zB (yM b).fst.sells=aa zB (zN a).fst.sells/\atE (yM b).fst.at_=uH (ba ae b.id) [dI 1,dI b.price,dI ((yI e).snd.fst)] (atE (zN a).fst.at_)/\iE (yM b).fst.spare=iE (zN a).fst.spare/\True
def zAt (a:Bool->Prop) (b:Bool) (c:Int) (d:Int) (e:Int) (f:BaI):Prop:=a b/\dh (aj [V.d (dI c),V.d (dI d),V.d (dI e)] 238)/\dh (aj [V.nm 1 0,V.own 2,V.own 3,V.mp 4,V.d (dI f.b.top1),V.d (dI f.b.top2),V.own 5,V.d (D.v (.bool f.b.has1)),V.d (D.v (.bool f.b.has2))] (245:bz))/\dh (af Arena 3 zG f.b.a)/\dh (ag 255 2 (aa zB f.b.buys))/\dh (ag 255 2 (aa zB f.b.sells))/\dh (ao (atE f.b.at_))/\dh (ag 3 1 (iE f.b.spare))
def zAf (a:I3') (b:BaI) (c:Int) (d:Bool->Prop) (e:Int) (f:Int) (g:Int):Prop:=a.x=b.price/\a.y=c/\True/\∀(h:Unit),True->∃(j:Bool),j=btr a.side a.x a.y/\zAt d j e f g b
def zAh (a:Bool->Prop) (b:Int) (c:Int) (d:Int) (e:BaI):Prop:=∃(f:Bool),f=aw/\zAt a f b c d e
def nD (a:BaI):Prop:=(yM a).fst.top1=a.b.top1/\(yM a).fst.top2=a.b.top2/\(yM a).fst.has1=a.b.has1/\(yM a).fst.has2=a.b.has2/\af Arena 3 zG (yM a).fst.a=af Arena 3 zG a.b.a/\aa zB (yM a).fst.buys=aa zB a.b.buys/\aa zB (yM a).fst.sells=aa zB a.b.sells/\atE (yM a).fst.at_=atE a.b.at_/\iE (yM a).fst.spare=iE a.b.spare/\True
def zIe (a:BaI):Prop:=∃(b:Unit),(yM a).snd=24/\nD a
def rR (a:BaI) (b:Int) (c:Int) (d:Int) (e:Bool):Prop:=kK (ba ae a.id) (atE a.b.at_)=ay [dI b,dI c,dI d]/\e=aw\/kK (ba ae a.id) (atE a.b.at_)=az/\[dI b,dI c,dI d]=[dI 0,dI 0,dI 0]/\e=ax
def rM (a:LdI):Prop:=(a.b.a.slots.length<=1000000/\a.b.a.queues.length<=1000000)/\a.b.buys.length<=1000000/\a.b.sells.length<=1000000/\a.b.spare.length<=1000000
def qU (a:Int):=(!(decide (a=1)||decide (a=2)))
def yKq (i:BaI):Prop:=
 (∀(a:be×List D),a∈atE i.b.at_->like (ba ae i.id) a.fst=aw)/\∃(a:Bool),∃(b:Int),∃(c:Int),∃(d:Int),(rR i b c d a)/\∃(e:Int),e=1/\True/\∀(f:Unit),True->cnd (qU e) (∃(g:Unit),(yM i).snd=21/\nD i) (cnd (decide (i.qty<1)) (zIe i) (cnd (decide (i.qty>1000000)) (zIe i) (cnd a (∃(g:Unit),(yM i).snd=25/\nD i) (cnd (decide ((↑(atE i.b.at_).length:Int)>=250)) (∃(g:Unit),(yM i).snd=13/\nD i) (∃(g:Bool),∃(h:Bool->Prop),cnd ((↑(aa zB i.b.buys).length:Int)==0) (zAh h b c d i) (((0:Int)<=(0:Int)/\0<(↑(aa zB i.b.buys).length:Int))/\∃(j:Int),zE (aa zB i.b.buys) (Int.toNat 0) 0 1=ay [dI j]/\∃(k:I3'),k.side=1/\zAf k i j h b c d)/\∀(j:Bool),h j->cnd j (∃(k:LdI),k.id=i.id/\dh ((1:Int))/\k.b.top1=i.b.top1/\k.b.top2=i.b.top2/\k.b.has1=i.b.has1/\k.b.has2=i.b.has2/\af Arena 3 zG k.b.a=af Arena 3 zG i.b.a/\aa zB k.b.buys=aa zB i.b.buys/\aa zB k.b.sells=aa zB i.b.sells/\atE k.b.at_=atE i.b.at_/\iE k.b.spare=iE i.b.spare/\(rM k)/\∀(l:Unit),True->∃(m:BkP),dh ((1:Int))/\m.price=i.price/\m.b.top1=k.id/\m.b.top2=k.b.top2/\m.b.has1=aw/\m.b.has2=k.b.has2/\af Arena 3 zG m.b.a=af Arena 3 zG (k.b.untop 1)/\aa zB m.b.buys=aa zB k.b.buys/\aa zB m.b.sells=aa zB k.b.sells/\atE m.b.at_=atE k.b.at_/\iE m.b.spare=iE k.b.spare/\zJe m i j) (∃(k:BkP),dh ((1:Int))/\k.price=i.price/\k.b.top1=i.b.top1/\k.b.top2=i.b.top2/\k.b.has1=i.b.has1/\k.b.has2=i.b.has2/\af Arena 3 zG k.b.a=af Arena 3 zG i.b.a/\aa zB k.b.buys=aa zB i.b.buys/\aa zB k.b.sells=aa zB i.b.sells/\atE k.b.at_=atE i.b.at_/\iE k.b.spare=iE i.b.spare/\zJe k i j))))))
def yL (a:BaI):=(a.b.addF 2 a.id a.price a.qty)
def zGg (a:BkP) (b:BaI) (c:Bool):Prop:=(rU a)/\∀(d:Unit),True->True/\∃(e:PuI),e.n=(zM a).snd/\e.id=b.id/\e.qty=b.qty/\e.top=c/\af Arena 3 zG e.a=af Arena 3 zG (zM a).fst.a/\(rW e)/\∀(f:Unit),True->(∀(g:be×List D),g∈atE (zM a).fst.at_->like (ba ae b.id) g.fst=aw)/\∃(g:Unit),(yL b).snd=0/\(yL b).fst.top1=(zM a).fst.top1/\(yL b).fst.top2=(zM a).fst.top2/\(yL b).fst.has1=(zM a).fst.has1/\(yL b).fst.has2=(zM a).fst.has2/\af Arena 3 zG (yL b).fst.a=af Arena 3 zG (yI e).fst/\aa zB (yL b).fst.buys=aa zB (zM a).fst.buys/\aa zB (yL b).fst.sells=aa zB (zM a).fst.sells/\atE (yL b).fst.at_=uH (ba ae b.id) [dI 2,dI b.price,dI ((yI e).snd.fst)] (atE (zM a).fst.at_)/\iE (yL b).fst.spare=iE (zM a).fst.spare/\True
def nH (a:BaI):Prop:=(yL a).fst.top1=a.b.top1/\(yL a).fst.top2=a.b.top2/\(yL a).fst.has1=a.b.has1/\(yL a).fst.has2=a.b.has2/\af Arena 3 zG (yL a).fst.a=af Arena 3 zG a.b.a/\aa zB (yL a).fst.buys=aa zB a.b.buys/\aa zB (yL a).fst.sells=aa zB a.b.sells/\atE (yL a).fst.at_=atE a.b.at_/\iE (yL a).fst.spare=iE a.b.spare/\True
def zHi (a:BaI):Prop:=∃(b:Unit),(yL a).snd=24/\nH a
def yIv (i:BaI):Prop:=
 (∀(a:be×List D),a∈atE i.b.at_->like (ba ae i.id) a.fst=aw)/\∃(a:Bool),∃(b:Int),∃(c:Int),∃(d:Int),(rR i b c d a)/\∃(e:Int),e=2/\True/\∀(f:Unit),True->cnd (qU e) (∃(g:Unit),(yL i).snd=21/\nH i) (cnd (decide (i.qty<1)) (zHi i) (cnd (decide (i.qty>1000000)) (zHi i) (cnd a (∃(g:Unit),(yL i).snd=25/\nH i) (cnd (decide ((↑(atE i.b.at_).length:Int)>=250)) (∃(g:Unit),(yL i).snd=13/\nH i) (∃(g:Bool),∃(h:Bool->Prop),cnd ((↑(aa zB i.b.sells).length:Int)==0) (zAh h b c d i) (((0:Int)<=(0:Int)/\0<(↑(aa zB i.b.sells).length:Int))/\∃(j:Int),zE (aa zB i.b.sells) (Int.toNat 0) 0 1=ay [dI j]/\∃(k:I3'),k.side=2/\zAf k i j h b c d)/\∀(j:Bool),h j->cnd j (∃(k:LdI),k.id=i.id/\dh ((2:Int))/\k.b.top1=i.b.top1/\k.b.top2=i.b.top2/\k.b.has1=i.b.has1/\k.b.has2=i.b.has2/\af Arena 3 zG k.b.a=af Arena 3 zG i.b.a/\aa zB k.b.buys=aa zB i.b.buys/\aa zB k.b.sells=aa zB i.b.sells/\atE k.b.at_=atE i.b.at_/\iE k.b.spare=iE i.b.spare/\(rM k)/\∀(l:Unit),True->∃(m:BkP),dh ((2:Int))/\m.price=i.price/\m.b.top1=k.b.top1/\m.b.top2=k.id/\m.b.has1=k.b.has1/\m.b.has2=aw/\af Arena 3 zG m.b.a=af Arena 3 zG (k.b.untop 2)/\aa zB m.b.buys=aa zB k.b.buys/\aa zB m.b.sells=aa zB k.b.sells/\atE m.b.at_=atE k.b.at_/\iE m.b.spare=iE k.b.spare/\zGg m i j) (∃(k:BkP),dh ((2:Int))/\k.price=i.price/\k.b.top1=i.b.top1/\k.b.top2=i.b.top2/\k.b.has1=i.b.has1/\k.b.has2=i.b.has2/\af Arena 3 zG k.b.a=af Arena 3 zG i.b.a/\aa zB k.b.buys=aa zB i.b.buys/\aa zB k.b.sells=aa zB i.b.sells/\atE k.b.at_=atE i.b.at_/\iE k.b.spare=iE i.b.spare/\zGg k i j))))))
def zGj (a:SaI):Prop:=am 1 (iE (MSt.addF a).fst.p.months)=am 1 (iE a.s.p.months)/\am 1 (iE (MSt.addF a).fst.p.settle)=am 1 (iE a.s.p.settle)/\True
def zIa (a:SaI):Prop:=yO (MSt.addF a).fst.wh=yO a.s.wh/\zGj a
def eT (a:SaI):Prop:=sb (MSt.addF a).fst.p.code=sb a.s.p.code/\(MSt.addF a).fst.p.tick=a.s.p.tick/\(MSt.addF a).fst.p.low=a.s.p.low/\(MSt.addF a).fst.p.high=a.s.p.high/\(MSt.addF a).fst.p.wide=a.s.p.wide/\(MSt.addF a).fst.p.rule=a.s.p.rule/\(MSt.addF a).fst.p.top=a.s.p.top/\(MSt.addF a).fst.p.least=a.s.p.least/\(MSt.addF a).fst.p.part=a.s.p.part/\ak 197 Book 6 zP (MSt.addF a).fst.books az=ak 197 Book 6 zP a.s.books az/\zIa a
def zOs (a:SaI):Prop:=∃(b:Unit),(MSt.addF a).snd=20/\eT a
def pK (a:BaJ):=(a.i.b.addF (zC a.s) a.i.id a.i.price a.i.qty)
def yQo (i:SaI):Prop:=
 (∀(a:be×List D),a∈yO i.s.wh->like (ba ae i.id) a.fst=aw)/\∃(a:Bool),∃(b:Int),(kK (ba ae i.id) (yO i.s.wh)=ay [dI b]/\a=aw\/kK (ba ae i.id) (yO i.s.wh)=az/\[dI b]=[dI 0]/\a=ax)/\cnd (decide (i.inst>=0)) (cnd (!decide (i.inst<(↑i.s.books.length:Int))) (zOs i) (cnd a (∃(c:Unit),(MSt.addF i).snd=25/\eT i) (cnd (decide ((↑(yO i.s.wh).length:Int)>=250)) (∃(c:Unit),(MSt.addF i).snd=13/\eT i) (∃(c:tJ),sb c.p.code=sb i.s.p.code/\iE c.p.months=iE i.s.p.months/\c.p.tick=i.s.p.tick/\c.p.low=i.s.p.low/\c.p.high=i.s.p.high/\c.p.wide=i.s.p.wide/\c.p.rule=i.s.p.rule/\c.p.top=i.s.p.top/\c.p.least=i.s.p.least/\c.p.part=i.s.p.part/\iE c.p.settle=iE i.s.p.settle/\c.a=i.inst/\c.b=i.price/\(qB c)/\∀(d:Unit),True->cnd (c.p.price c.a c.b !=0) (∃(e:Unit),(MSt.addF i).snd=c.p.price c.a c.b/\eT i) ((0<=i.inst/\i.inst<(↑i.s.books.length:Int))/\i.inst.toNat<i.s.books.length/\∃(e:Book),i.s.books[i.inst.toNat]?=ay e/\∃(f:BaJ),f.i.id=i.id/\zC f.s=zC i.sd/\f.i.price=i.price/\f.i.qty=i.qty/\z8 f.i.b=z8 e/\((f.i.b.a.slots.length<=1000000/\(f.i.b.a.free≠0->∃(g:Slot),g∈f.i.b.a.slots/\g.used=ax)/\∀(g:cJ),g∈f.i.b.a.queues->g.last=(-1)\/0<=g.last/\g.last<(↑f.i.b.a.slots.length:Int))/\f.i.b.a.queues.length<=100000/\f.i.b.buys.length<=100000/\f.i.b.sells.length<=100000/\f.i.b.spare.length<=100000)/\∀(g:Unit),True->∃(h:Book),z8 (pK f).fst=z8 h/\dh i.inst.toNat/\i.inst.toNat<i.s.books.length/\cnd ((pK f).snd==0) ((∀(j:be×List D),j∈yO i.s.wh->like (ba ae i.id) j.fst=aw)/\∃(j:Unit),(MSt.addF i).snd=(pK f).snd/\sb (MSt.addF i).fst.p.code=sb i.s.p.code/\(MSt.addF i).fst.p.tick=i.s.p.tick/\(MSt.addF i).fst.p.low=i.s.p.low/\(MSt.addF i).fst.p.high=i.s.p.high/\(MSt.addF i).fst.p.wide=i.s.p.wide/\(MSt.addF i).fst.p.rule=i.s.p.rule/\(MSt.addF i).fst.p.top=i.s.p.top/\(MSt.addF i).fst.p.least=i.s.p.least/\(MSt.addF i).fst.p.part=i.s.p.part/\ak 197 Book 6 zP (MSt.addF i).fst.books az=ak 197 Book 6 zP (i.s.books.set i.inst.toNat h) az/\yO (MSt.addF i).fst.wh=uH (ba ae i.id) [dI i.inst] (yO i.s.wh)/\zGj i) (∃(j:Unit),(MSt.addF i).snd=(pK f).snd/\sb (MSt.addF i).fst.p.code=sb i.s.p.code/\(MSt.addF i).fst.p.tick=i.s.p.tick/\(MSt.addF i).fst.p.low=i.s.p.low/\(MSt.addF i).fst.p.high=i.s.p.high/\(MSt.addF i).fst.p.wide=i.s.p.wide/\(MSt.addF i).fst.p.rule=i.s.p.rule/\(MSt.addF i).fst.p.top=i.s.p.top/\(MSt.addF i).fst.p.least=i.s.p.least/\(MSt.addF i).fst.p.part=i.s.p.part/\ak 197 Book 6 zP (MSt.addF i).fst.books az=ak 197 Book 6 zP (i.s.books.set i.inst.toNat h) az/\zIa i)))))) (zOs i)
end Sx
