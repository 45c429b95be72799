/- Texts of ours. No condition. -/
import Derived.Laws.AppendOwn
import Derived.Lib.AppendZerosOnto
import Derived.Lib.Overlaps
import Derived.Test.YtaafldgiafcgfaaGreatE5
set_option linter.all false
open List renaming map->aa,take->ab,drop->ac
open Go.IntKind renaming i64->ae
open Sx.AObj renaming adt->af,own->ag,cells->aj,objs->ak,fro->am,map->ao
open And renaming intro->ap
open Go.Builtin renaming zeroCells->aq,copy_->ar,firstCells->au,append_->av
open Bool renaming true->aw,false->ax
open Option renaming some->ay,none->az
open Go.Value renaming int->ba
open Exists renaming intro->bc
open Go renaming Value->be,World->bg,Program->bo,Addr->bu,size_zeroCells->bv,TypeId->bz
namespace Sx
set_option maxRecDepth 100000
open Go Cv Go.Proofs
def dU (l:List (Int×Int)) (k:Int):∀(p:be×List D),p∈yR l->like (ba ae k) p.1=aw:=λp hp=>yGs l k p hp
def zXk (k v:Int):∀l,uH (ba ae k) [D.v (.int .i64 v)] (yR l)=yR (z1g k v l)
 |[]=>rfl
 |(a,b)::l=>by
  have ih:=zXk k v l;show(bif (keq .i64 .i64 && decide (k=a))then _ else _::uH _ _ (yR l))=_;rw[ih,z1g];by_cases h:k=a
  ·subst h;simp[keq,yR]
  ·simp[h,yR]
def z1b (k:Int):∀l,zBi (ba ae k) (yR l)=yR (z5q k l)
 |[]=>rfl
 |(a,b)::l=>by
  have ih:=z1b k l;show(bif (keq .i64 .i64 && decide (k=a))then yR l else _::zBi _ (yR l))=_;rw[ih,z5q];by_cases h:k=a
  ·subst h;simp[keq]
  ·simp[h,yR]
def yVo (l:List (Int×Int)) (k:Int):kC (ba ae k) (yR l)=ay [D.v (.int .i64 ((zDm l k).getD 0))]/\(zDm l k).isSome=aw\/kC (ba ae k) (yR l)=az/\[D.v (.int .i64 ((zDm l k).getD 0))]=[D.v (.int .i64 0)]/\(zDm l k).isSome=ax:=by
 rw[pB];cases zDm l k with
 |none=>exact .inr ⟨rfl,rfl,rfl⟩
 |some v=>exact .inl ⟨rfl,rfl⟩
def z1x (a b:Int):(a==b)=decide (a=b):=by
 by_cases h:a=b
 ·subst h;simp
 ·simp[h]
def z1q (n:Int):(f8 n).small:=⟨by simp[f8],by simp[f8],by simp[f8]⟩
def yT {n lo hi:Int} (h:lo<=hi):lo<=zF n lo hi/\zF n lo hi<=hi:=by
 rw[zF];have h1:=xCa n (show hi-lo+1≠0 by omega);have h2:=xCb n (show 0<hi-lo+1 by omega);omega
open Go Go.RowKit Cv
def zAq {P:bo} {dT sT ty e sz by_:Nat} {z:Array be} (hi:vT P dT=ay (e,sz,by_,z)) {w:bg} {g o dLen dCap b so sLen sCap n:Nat} {cur src:List be} {T T':bz} {fr:Nat×Nat}
 (hg:w.heap[g]? =ay (.cells cur.toArray T (0,0))) (hs:w.heap[b]? =ay (.cells src.toArray T' fr)) (hn:Nat.min sLen dLen=n) (h1:so+n*sz<=src.length) (h2:o+n*sz<=cur.length)
 (hone:∀v∈(src.drop so).take (n*sz),v.oneC=aw):
 u9 P (ar #[dT,sT] ty #[.slice (ay ⟨g,o,az⟩) dLen dCap,.slice (ay ⟨b,so,az⟩) sLen sCap]) w (.int .i64 n) (World.setB w g (.cells (spl cur o ((src.drop so).take (n*sz))).toArray T (0,0))):=by
 obtain⟨i,zv,q1,q2,rfl,rfl,q5,rfl⟩:=kM hi;have hl:((src.drop so).take (n*i.size)).length=n*i.size:=by rw[y6t,y6u];omega
 have hst:=wI (P:=P) ((src.drop so).take (n*i.size)) 0 o cur w hg (by rw[hl];omega) hone;simp only[xAh]at hst;unfold u9 ar;simp only[y7z,y8j,y7x,bind,pure,run_bind,Sem.bind,Sem.run,Cv.run_underlying q1,Cv.run_sizeOf q2,Builtin.lenOf,hn,au,hZ hs h1,hst];rfl
def Hp.apart {k:Ko} {w:bg} {b c:Nat} {o o':Obj} {L:List HP} (H:Hp k w (pt b o::pt c o'::L)):b≠c:=by
 obtain⟨hk,hs,hh⟩:=H;cases hh with
 |cons ha hsub hd hr=>
  cases hr with
  |cons hb hsub2 hd2 hr2=>
   intro e;subst e;have:=hd _ y6e b;rw[show _=one b o from ha,show _=one b o' from hb]at this;simp[one]at this
def yYc (P:bo) (tS tI sz fO fR:Nat) (s:Option bu) (sn sk:Nat) (i:Int) (v:Option bu) (vn vk:Nat) (w:bg) (R:Ending->bg->Prop):Prop:=
slN s sn sk (ay i) az sz λa1 na1 ka1=>
cnd (((vn:Int):Int)==0) (
R (.returned (.slice s sn sk)) w) (
cnd ((i:Int)==(sn:Int)) (
∃(a2:Option bu) (na2 ka2:Nat),∃w3:bg,u9 P (av #[tS,tS] tS #[.slice s sn sk,.slice v vn vk]) w (.slice a2 na2 ka2) w3/\
R (.returned (.slice a2 na2 ka2)) w3) (
cnd (decide ((ae.wrap ((sn:Int)+(vn:Int)):Int)>(sk:Int))) (
slN s sn sk az (ay i) sz λa4 na4 ka4=>
∃(a5:Option bu) (na5 ka5:Nat),∃w6:bg,u9 P (av #[tS,tI] tS #[.slice a4 na4 ka4,.int .i64 (ae.wrap (ae.wrap ((sn:Int)+(vn:Int))-i))]) w (.slice a5 na5 ka5) w6/\
slN a5 na5 ka5 (ay i) az sz λa7 na7 ka7=>
∃x8:Int,∃w9:bg,u9 P (ar #[tS,tS] tI #[.slice a7 na7 ka7,.slice v vn vk]) w6 (.int .i64 x8) w9/\
z8y w9 λw10=>
slN a5 na5 ka5 (ay (ae.wrap (i+(vn:Int)))) az sz λa11 na11 ka11=>
slN s sn sk (ay i) az sz λa12 na12 ka12=>
∃x13:Int,∃w14:bg,u9 P (ar #[tS,tS] tI #[.slice a11 na11 ka11,.slice a12 na12 ka12]) w10 (.int .i64 x13) w14/\
R (.returned (.slice a5 na5 ka5)) w14) (
slN s sn sk az (ay (ae.wrap ((sn:Int)+(vn:Int)))) sz λa15 na15 ka15=>
slN a15 na15 ka15 (ay (ae.wrap (i+(vn:Int)))) az sz λa16 na16 ka16=>
∃c17:Bool,∃w18:bg,Cv.Ext P fO #[.slice v vn vk,.slice a16 na16 ka16] w (.bool c17) w18/\
cnd (!c17) (
z8y w18 λw19=>
slN a15 na15 ka15 (ay (ae.wrap (i+(vn:Int)))) az sz λa20 na20 ka20=>
slN a15 na15 ka15 (ay i) az sz λa21 na21 ka21=>
∃x22:Int,∃w23:bg,u9 P (ar #[tS,tS] tI #[.slice a20 na20 ka20,.slice a21 na21 ka21]) w19 (.int .i64 x22) w23/\
slN a15 na15 ka15 (ay i) az sz λa24 na24 ka24=>
∃x25:Int,∃w26:bg,u9 P (ar #[tS,tS] tI #[.slice a24 na24 ka24,.slice v vn vk]) w23 (.int .i64 x25) w26/\
R (.returned (.slice a15 na15 ka15)) w26) (
slN a15 na15 ka15 (ay (sn:Int)) az sz λa27 na27 ka27=>
∃x28:Int,∃w29:bg,u9 P (ar #[tS,tS] tI #[.slice a27 na27 ka27,.slice v vn vk]) w18 (.int .i64 x28) w29/\
slN a15 na15 ka15 (ay i) az sz λa30 na30 ka30=>
Calls P fR #[.slice a30 na30 ka30,.int .i64 (vn:Int)] w29 λe32 w31=>e32= .returned (.tuple #[])/\
R (.returned (.slice a15 na15 ka15)) w31))))
def yDb {α:Type} {l m:Nat} {xs r ys:List α} (hl:l<=xs.length) (hy:ys.length=m) (hr:m<=r.length):
 ((xs++r).take (l+m)++xs.drop l++(xs++r).drop (l+m+(xs.drop l).length)).take l++ys++((xs++r).take (l+m)++xs.drop l++(xs++r).drop (l+m+(xs.drop l).length)).drop (l+ys.length)=(xs.take l++ys++xs.drop l)++r.drop m:=by
 have e1:(xs++r).drop (l+m+(xs.drop l).length)=r.drop m:=by
  rw[y6u,show l+m+(xs.length-l)=xs.length+m by omega,xBb];simp
 have e2:((xs++r).take (l+m)++xs.drop l++r.drop m).take l=xs.take l:=by
  rw[y6f,y7a (by rw[y6t,y5y];omega),List.take_take,y9x (by omega),y7a hl]
 have e3:((xs++r).take (l+m)++xs.drop l++r.drop m).drop (l+ys.length)=xs.drop l++r.drop m:=by
  have:((xs++r).take (l+m)).length=l+m:=by rw[y6t,y5y];omega
  rw[y6f,hy,xBb,this,xBo,y9n,y9g (by omega),y8s]
 rw[e1,e2,e3];simp
def zWy (A Z Y:List be):spl (A++Z) A.length Y=A++Y++Z.drop Y.length:=by
 simp only[spl];rw[xCg,xBb];simp
def zHq {b o n c i:Nat} (h:c≠i):(if c=i then(ay ⟨b,o,az⟩:Option bu)else(ay ⟨b,o,az⟩:Option bu).map (·.add n))=ay ⟨b,o+n,az⟩:=by
 rw[y5x h,y8b,vY]
def zWr (P:bo) (fO:Nat):Prop:=∀(w:bg) (va sb so la ca lb cb:Nat) (c c':Array be) (T T':bz),va≠sb->w.heap[va]?=ay (.cells c T (0,0))->w.heap[sb]?=ay (.cells c' T' (0,0))->c'.size≠0->
 Cv.Ext P fO #[.slice (ay ⟨va,0,az⟩) la ca,.slice (ay ⟨sb,so,az⟩) lb cb] w (.bool ax) w
def yMg {P : Program} {fO tS tB e sz by_ : Nat} {z : Array Value} {fn : Func} (hf : P.funcs[fO]? = some fn) (hname : (fn.name == "runtime.NumGoroutine") = false) (hb : fn.body.isNone = true) (hn : Extern.findNext fn = none) (he : Extern.find fn = some (Extern.SlicesOverlaps.overlaps #[tS, tS] #[tB]))
 (hi:vT P tS=ay (e,sz,by_,z)):zWr P fO:=by
 obtain⟨i,zv,q1,q2,rfl,rfl,q5,rfl⟩:=kM hi;intro w va sb so la ca lb cb c c' T T' hne h1 h2 h3;unfold Cv.Ext;rw[run_callFunc_extern hf hname hb hn he,Lib.run_overlaps_apart w tS tB e q1 i.size (λw=>Cv.run_sizeOf q2 w) ⟨va,0,az⟩ ⟨sb,so,az⟩ la ca lb cb hne T T' c.size c'.size (by simp[World.shape?,h1]) (by simp[World.shape?,h2]) h3 (by simp[World.frozen?,h1]) (by simp[World.frozen?,h1])];rfl
def y3m {P:bo} {tS tI e sz by_ fO fR:Nat} {z:Array be} (hi:vT P tS=ay (e,sz,by_,z)) (hz:z.size=sz) (hby:0<by_) (hsz:0<sz) (h2:z4j P tS=aw) (hti:P.underlying tI=ay (.int .i64)) (hov:zWr P fO)
 {k:Ko} {w:bg} {L:List HP} {s v:Option bu} {sn sk vn vk i:Nat} {xs ys:List be} (H:Hp k w (slO e sz s sn sk xs::slO e sz v vn vk ys::L)) (h1:∀u∈xs,u.oneC=aw) (hy:∀u∈ys,u.oneC=aw) (hin:i<=sn) (hv:0<vn)
 (hb:(sn+vn)*by_<=140737488355328):
 yYc P tS tI sz fO fR s sn sk i v vn vk w λen w'=>∃a kk,en= .returned (.slice a (sn+vn) kk)/\Hp k w' (slO e sz a (sn+vn) kk (xs.take (i*sz)++ys++xs.drop (i*sz))::slO e sz v vn vk ys::L):=by
 obtain⟨hxl,hnk⟩:=H.len;obtain⟨hyl,hvk⟩:=H.swap.len;have hnm:sn+vn<=140737488355328:=y8u (Nat.le_mul_of_pos_right _ hby) hb;have w1:ae.wrap ((sn:Int)+(vn:Int))=((sn+vn:Nat):Int):=by rw[Cv.wrap_i64 (by omega) (by omega)];simp
 have w2:ae.wrap ((i:Int)+(vn:Int))=((i+vn:Nat):Int):=by rw[Cv.wrap_i64 (by omega) (by omega)];simp
 have w3:ae.wrap (((sn+vn:Nat):Int)-(i:Int))=((sn+vn-i:Nat):Int):=by rw[Cv.wrap_i64 (by omega) (by omega)];omega
 have hle:i*sz<=xs.length:=by rw[hxl];exact y7l _ hin
 have htl:(xs.take (i*sz)).length=i*sz:=by rw[y6t];omega
 have hdl:(xs.drop (i*sz)).length=(sn-i)*sz:=by rw[y6u,hxl,Nat.sub_mul]
 have hsum:(i+vn)*sz=i*sz+vn*sz:=y9a _ _ _;have hsum2:(sn+vn)*sz=i*sz+vn*sz+(sn-i)*sz:=by rw[<- y9a,<- y9a];congr 1;omega
 have hfin:(xs.take (i*sz)++ys++xs.drop (i*sz)).length=(sn+vn)*sz:=by
  rw[y5y,y5y,htl,hyl,hdl,hsum2]
 unfold yYc;simp only[slN,w1,w2,w3,y6r];refine⟨⟨oM,oM,hnk⟩,Cv.cnd.mk (λc=>absurd c (by simp;omega)) λ_=>Cv.cnd.mk (λc=> ?_) λc=>Cv.cnd.mk (λhc=> ?_) λhc=> ?_⟩
 ·have c:i=sn:=by have:(i:Int)=(sn:Int):=by simpa using c
                  omega
  subst c;obtain⟨a',c',w',r1,r2⟩:=H.append (rt:=tS) hi h2 (x:= .slice v vn vk) (m:=vn) (ys:=ys) (.inl ⟨v,vk,rfl,H.swap.satR⟩) hy hz hby hb;refine⟨a',_,c',w',r1,a',c',rfl,?_⟩;rw[y6k (by omega),y9g (by omega),y6w];exact r2
 ·have c:i<sn:=by have:¬(i:Int)=(sn:Int):=by simpa using c
                  omega
  have hc:sk<sn+vn:=by have:=y7f hc;omega
  obtain⟨inf,zv,q1,q2,q3,q4,q5,q6⟩:=kM hi;subst q3 q4 q6;rcases H.slcases with⟨_,e0,_⟩|⟨b,r,rfl,g1,g2,g3,H0⟩
  ·omega
  rcases H0.swap.slcases with⟨_,e0,_⟩|⟨vb,rv,rfl,g4,g5,g6,H1⟩
  ·omega
  have hold:(au inf.size i (.slice (ay ⟨b,0,az⟩) i sk)).run P w.drew= .ok (xs.take (i*inf.size)).toArray w.drew:=by
   have hbk:=(H1.drew).swap.get;have:=hZ (P:=P) (o:=0) (n:=i*inf.size) hbk (by rw[y5y];omega);unfold au;rw[this,y9n,y7a hle]
  have hfit2:=zOu (need:=sn+vn) (cap:=sk) oM;have hfit3:=y7l inf.bytes hfit2;have e2:2*(sn+vn)*inf.bytes=2*((sn+vn)*inf.bytes):=by rw[Nat.mul_assoc]
  have hkb:(sn+vn-i)*inf.bytes<=(sn+vn)*inf.bytes:=y7l _ oM;have hgr:=Lib.run_append_grow_zeros (P:=P) w tS tI tS e inf zv .i64 .i64 q1 hti q2 q5 (ay ⟨b,0,az⟩) i sk (xs.take (i*inf.size)) hold (sn+vn-i) oM hsz oM oM oM (by rw[show i+(sn+vn-i)=sn+vn by omega];omega);rw[show i+(sn+vn-i)=sn+vn by omega]at hgr;have hG:sn+vn<=grownCap w (sn+vn) sk e:=grownCap_ge w (sn+vn) sk e;generalize grownCap w (sn+vn) sk e=G at hgr hG;have harr:(xs.take (i*inf.size)).toArray++aq zv.cells (sn+vn-i)++aq zv.cells (G-(sn+vn))=(xs.take (i*inf.size)++((aq zv.cells (sn+vn-i)).toList++(aq zv.cells (G-(sn+vn))).toList)).toArray:=by
   apply Array.ext';simp
  rw[harr]at hgr;have hZl:((aq zv.cells (sn+vn-i)).toList++(aq zv.cells (G-(sn+vn))).toList).length=(sn+vn-i)*inf.size+(G-(sn+vn))*inf.size:=by
   rw[y5y,y9w,y9w,bv,bv,hz]
  generalize (aq zv.cells (sn+vn-i)).toList++(aq zv.cells (G-(sn+vn))).toList=Z at hgr hZl;have hZ2:(sn+vn-i)*inf.size=vn*inf.size+(sn-i)*inf.size:=by rw[<- y9a];congr 1;omega
  have H2:=(H1.drew).new (.cells (xs.take (i*inf.size)++Z).toArray e);have hB:w.drew.heap.size=w.heap.size:=rfl;rw[hB]at H2;have hc1:=zAq (P:=P) (sT:=tS) (ty:=tI) hi (g:=w.heap.size) (o:=0+i*inf.size) (dLen:=sn+vn-i) (dCap:=G-i) (b:=vb) (so:=0) (sLen:=vn) (sCap:=vk) (n:=vn) H2.get H2.swap.get (y9x oM) (by rw[y5y];omega) (by rw[y5y,htl,hZl];omega) (by
   rw[y9n,y7a (by omega),y6k (by omega)];exact hy)
  rw[y9n,y7a (by omega),y6k (show ys.length<=vn*inf.size by omega),y6x]at hc1;have es1:spl (xs.take (i*inf.size)++Z) (i*inf.size) ys=xs.take (i*inf.size)++ys++Z.drop ys.length:=by
   have:=zWy (xs.take (i*inf.size)) Z ys;rwa [htl]at this
  rw[es1]at hc1;have H3:=(H2.upd (.cells (xs.take (i*inf.size)++ys++Z.drop ys.length).toArray e)).drew;have hg4:(xs++r).drop (i*inf.size)=xs.drop (i*inf.size)++r:=y8q hle;have hc2:=zAq (P:=P) (sT:=tS) (ty:=tI) hi (g:=w.heap.size) (o:=0+(i+vn)*inf.size) (dLen:=sn+vn-(i+vn)) (dCap:=G-(i+vn)) (b:=b) (so:=0+i*inf.size) (sLen:=sn-i) (sCap:=sk-i) (n:=sn-i) H3.get H3.swap.drop.swap.get (y9x oM) (by rw[y5y,hxl,y6x,<- y9a];exact y8u (y7l _ oM) (Nat.le_add_right _ _)) (by
   rw[y5y,y5y,htl,hyl,y6u,hZl];omega) (by
   rw[y6x,hg4,y7a (by omega),y6k (by omega)];exactλu hu=>h1 u (y9t hu))
  rw[y6x,y6x,hg4,y7a (by omega),y6k (show(xs.drop (i*inf.size)).length<=(sn-i)*inf.size by omega)]at hc2;have es2:spl (xs.take (i*inf.size)++ys++Z.drop ys.length) ((i+vn)*inf.size) (xs.drop (i*inf.size))=xs.take (i*inf.size)++ys++xs.drop (i*inf.size)++(Z.drop ys.length).drop (xs.drop (i*inf.size)).length:=by
   have:=zWy (xs.take (i*inf.size)++ys) (Z.drop ys.length) (xs.drop (i*inf.size));rwa [show(xs.take (i*inf.size)++ys).length=(i+vn)*inf.size by rw[y5y,htl,hyl,hsum]]at this
  rw[es2]at hc2;refine⟨⟨oM,oM⟩,_,_,_,_,hgr,?_⟩;rw[zHq (show G≠i by omega),y6x];refine⟨⟨oM,oM,hG⟩,_,_,hc1,?_⟩;rintro _ rfl;rw[zHq (show G≠i+vn by omega),zHq (show sk≠i by omega),y6x,y6x];refine⟨⟨oM,oM,hG⟩,⟨oM,oM,hnk⟩,_,_,hc2,_,_,rfl,?_⟩;have H4:=H3.upd (.cells (xs.take (i*inf.size)++ys++xs.drop (i*inf.size)++(Z.drop ys.length).drop (xs.drop (i*inf.size)).length).toArray e);have H5:=H4.slmk (n:=sn+vn) (c:=G) (sz:=inf.size) hfin (by
   rw[y5y,hfin,y6u,y6u,hZl,hyl,hdl];have:G*inf.size=(sn+vn)*inf.size+(G-(sn+vn))*inf.size:=by rw[<- y9a];congr 1;omega
   omega) hG
  have H6:=H5.swap.slmk (n:=vn) (c:=vk) (sz:=inf.size) g4 g5 g6;exact(H6.swap.perm (List.Perm.trans ((List.Perm.swap _ _ _).cons _) (List.Perm.swap _ _ _))).drop
 ·have c:i<sn:=by have:¬(i:Int)=(sn:Int):=by simpa using c
                  omega
  have hc:sn+vn<=sk:=by have:=xAn hc;omega
  rcases H.slcases with⟨_,e0,_⟩|⟨b,r,rfl,g1,g2,g3,H0⟩
  ·omega
  rcases H0.swap.slcases with⟨_,e0,_⟩|⟨vb,rv,rfl,g4,g5,g6,H1⟩
  ·omega
  have hrl:vn*sz<=r.length:=by
   have e1:(sn+vn)*sz<=sk*sz:=y7l _ hc;rw[y5y,g1]at g2;rw[y9a]at e1;omega
  have H2:=H1.swap;have hne:vb≠b:=Hp.apart H1;have hg4:(xs++r).drop (i*sz)=xs.drop (i*sz)++r:=y8q hle;have hex:=hov w vb b (0+(i+vn)*sz) vn vk (sn+vn-(i+vn)) (sk-(i+vn)) (ys++rv).toArray (xs++r).toArray e e hne H1.get H2.get (by
   rw[xAe,y5y,g1];have:=Nat.mul_pos (show 0<sn by omega) hsz;omega)
  have H3:=H2.drew;have hc1:=zAq (P:=P) (sT:=tS) (ty:=tI) hi (g:=b) (o:=0+(i+vn)*sz) (dLen:=sn+vn-(i+vn)) (dCap:=sk-(i+vn)) (b:=b) (so:=0+i*sz) (sLen:=sn+vn-i) (sCap:=sk-i) (n:=sn-i) H3.get H3.get (by rw[show sn+vn-(i+vn)=sn-i by omega];exact Nat.min_eq_right oM) (by
   rw[y5y,g1,y6x,<- y9a];exact y8u (y7l _ oM) (Nat.le_add_right _ _)) (by
   rw[y5y,g1,y6x,<- y9a,show i+vn+(sn-i)=sn+vn by omega,y9a];omega) (by
   rw[y6x,hg4,y7a (by omega),y6k (by omega)];exactλu hu=>h1 u (y9t hu))
  rw[y6x,y6x,hg4,y7a (by omega),y6k (show(xs.drop (i*sz)).length<=(sn-i)*sz by omega)]at hc1;have H4:=H3.upd (.cells (spl (xs++r) ((i+vn)*sz) (xs.drop (i*sz))).toArray e);have hcl:(spl (xs++r) ((i+vn)*sz) (xs.drop (i*sz))).length=(xs++r).length:=by
   simp only[spl,y5y,y6t,hdl];rw[y6u,y5y,g1,hsum];have:sn*sz=i*sz+(sn-i)*sz:=by rw[<- y9a];congr 1;omega
   omega
  have hc2:=zAq (P:=P) (sT:=tS) (ty:=tI) hi (g:=b) (o:=0+i*sz) (dLen:=sn+vn-i) (dCap:=sk-i) (b:=vb) (so:=0) (sLen:=vn) (sCap:=vk) (n:=vn) H4.get H4.swap.get (y9x oM) (by rw[y5y];omega) (by
   rw[hcl,y5y,y6x];omega) (by
   rw[y9n,y7a (by omega),y6k (by omega)];exact hy)
  rw[y9n,y7a (by omega),y6k (show ys.length<=vn*sz by omega),y6x]at hc2;have es:spl (spl (xs++r) ((i+vn)*sz) (xs.drop (i*sz))) (i*sz) ys=(xs.take (i*sz)++ys++xs.drop (i*sz))++r.drop (vn*sz):=by
   have:=yDb (l:=i*sz) (m:=vn*sz) (xs:=xs) (r:=r) (ys:=ys) hle hyl hrl;simp only[spl,hsum];exact this
  rw[es]at hc2;refine⟨⟨oM,oM⟩,⟨oM,oM,oM⟩,ax,w,?_,Cv.cnd.mk (λ_=> ?_) (λc=>absurd c Z8)⟩
  ·rw[zHq (show sk≠i+vn by omega)];exact hex
  rintro _ rfl;rw[zHq (show sk≠i+vn by omega),zHq (show sk≠i by omega),y6x,y6x];refine⟨⟨oM,oM,oM⟩,⟨oM,oM,oM⟩,_,_,hc1,⟨oM,oM,oM⟩,_,_,hc2,_,_,rfl,?_⟩;have H5:=H4.upd (.cells (xs.take (i*sz)++ys++xs.drop (i*sz)++r.drop (vn*sz)).toArray e);have H6:=H5.slmk (n:=sn+vn) (c:=sk) (sz:=sz) hfin (by
   rw[y5y,hfin,y6u,<- g2,y5y,g1,y9a];omega) hc
  exact(H6.swap.slmk (n:=vn) (c:=vk) (sz:=sz) g4 g5 g6).swap
structure yCv where
 els:List (List D)
 el:List D
 i:Nat
def yMb (e sz by_:Nat):Con where
 ι:=yCv
 pat:=λi=>[.own 0,.d (.v (.int .i64 i.i)),.own 1]
 pre:=λi=>[.own e sz i.els,.own e sz [i.el]]
 cnd:=λi=>i.i<=i.els.length/\(i.els.length+1)*by_<=140737488355328
 alts:=λi=>[{o:=Unit,res:=λ_=> .own 2,post:=λ_=>[.gone,.gone,.own e sz (i.els.take i.i++i.el::i.els.drop i.i)],rel:=λ_=>True}]
def insX_ok {P:bo} (hm:P.follows .mixedOrders=aw) {tS tI e sz by_ fI fO fR:Nat} {z:Array be} {fn:Func} {c:Code} (hf:P.funcs[fI]? =ay fn) (hb:fn.body=ay c) (hbd:uG P fI=aw) (hok:okC fn.ntmps c=aw) (hfx:okF [] c=aw) (hsz3:Nat.ble 3 fn.ntmps=aw)
 (hi:vT P tS=ay (e,sz,by_,z)) (hz:z.size=sz) (hby:0<by_) (hsz:0<sz) (h2:z4j P tS=aw) (hti:P.underlying tI=ay (.int .i64)) (hov:zWr P fO)
 (heq:∀(s:Option bu) (sn sk:Nat) (i:Int) (v:Option bu) (vn vk:Nat) (w:bg) (R:Ending->bg->Prop),yYc P tS tI sz fO fR s sn sk i v vn vk w R=cwp P [] c (zWu P fn R) (uJ [.slice s sn sk,.int .i64 i,.slice v vn vk]) w):
 (yMb e sz by_).ok P fI:=by
 intro i hc k L E w ys R hv;obtain⟨c1,c2⟩:i.i<=i.els.length/\(i.els.length+1)*by_<=140737488355328:=hc;simp only[yMb,VRL,VR,DR]at hv;obtain⟨y0,_,rfl,⟨l0,e0,_⟩,y1,_,rfl,⟨rfl,_⟩,y2,_,rfl,⟨l2,e2,_⟩,rfl⟩:=hv;obtain⟨s,sk,xs,sub0,g1,hxs,hu,H⟩:=R.ownOpen (n:=0) (t:=e) (sz:=sz) (els:=i.els) rfl;rw[e0]at g1;cases g1;have hk2:∃v vk zs,y2= .slice v 1 vk/\DRL E.F i.el zs/\i.el.length=sz/\Hp k w (slO e sz s i.els.length sk xs::slO e sz v 1 vk zs::fz E.F::L):=by
  obtain⟨hk,hs,hh⟩:=H;cases hh with
  |cons ha hsub hd hr=>
   simp only[yMb,u6,vC,y6m,y9q,y7o,y8s]at hr;cases hr with
   |cons hb2 hsub2 hd2 hr2=>
    rcases hb2 with⟨q,_⟩|⟨⟨hv2,sub2⟩,q1,q2⟩
    ·cases q
    ·simp only at q1;rw[e2]at q1;cases q1;simp only[rowHP]at q2;obtain⟨a,kk,zs,rfl,q3,q4,q5⟩:=q2;simp only[y8l,List.flatten_nil,y6w]at q3;exact⟨a,kk,zs,rfl,q3,q4 _ y6e,hk,_,.cons ha hsub hd (.cons q5 hsub2 hd2 hr2)⟩
 obtain⟨v,vk,zs,rfl,hzs,hel,H2⟩:=hk2;have hv:=y3m (fR:=fR) (fO:=fO) hi hz hby hsz h2 hti hov (i:=i.i) H2 hxs.one hzs.one c1 oM c2;have hcall:=zJt (args:=[.slice s i.els.length sk,.int .i64 i.i,.slice v 1 vk]) hm hf hb [] hok hfx hsz3 (heq s i.els.length sk i.i v 1 vk w _) hv;refine aC hbd (hcall.mono ?_);rintro en w' ⟨a,kk,rfl,H3⟩;have H4:Hp k w' (slO e sz a (i.els.take i.i++i.el::i.els.drop i.i).length kk (xs.take (i.i*sz)++zs++xs.drop (i.i*sz))::(([]:List (Nat×AObj)).map (rHP E)++fz E.F::L)):=by
  have:(i.els.take i.i++i.el::i.els.drop i.i).length=i.els.length+1:=by
   rw[y5y,y6d,y6t,y6u];omega
  rw[this];exact H3.swap.drop
 obtain⟨E',r1,r2,r3⟩:=cO (nx:=2) R.nx (by
  rw[xAy,y8l,<- pC i.i hu,<- nG i.i hu,<- y6f];exact((hxs.take _).append hzs).append (hxs.drop _)) (λx hx=>by
   rcases y7d.1 hx with hx|hx
   ·exact hu x (xAs hx)
   ·rcases y6q.1 hx with rfl|hx
    ·exact hel
    ·exact hu x (y9t hx)) H4
 have hl:(i.els.take i.i++i.el::i.els.drop i.i).length=i.els.length+1:=by
  rw[y5y,y6d,y6t,y6u];omega
 rw[hl]at r3;refine⟨_,rfl,_,y7q.2 rfl,(),trivial,E',r1,r3,⟨r2.nx,?_⟩⟩;have q1:=((@uV k w' True _).2 ⟨trivial,r2.hp⟩).imp (B:=rHP E' (1,.gone)) λx hx=> .inl ⟨rfl,hx.2⟩
 have q2:=((@uV k w' True _).2 ⟨trivial,q1⟩).imp (B:=rHP E' (0,.gone)) λx hx=> .inl ⟨rfl,hx.2⟩
 exact q2
def bbetterC:Con:=con1 I3' (λi=>[zA i.side,zA i.x,zA i.y]) (λ_=>[]) (λ_=>True) (λi=>yP (btr i.side i.x i.y)) (λ_=>[])
@[reducible] def yZp (s:Slot):V:= .agg [yP s.used,zA s.n,zA s.id,zA s.qty,yP s.top,zA s.queue,zA s.ahead,zA s.back]
def pushFC:Con:=con1 Slot (λs=>[yZp s]) (λ_=>[]) (λ_=>True) (λs=>yP (!s.used)) (λ_=>[])
def kQ (l:List Slot):Int:=zJu (l.findIdx? λs=> !s.used)
def idxSlotC:Con:=con1 (List Slot) (λ_=>[.own 0,.fn 217 [] []]) (λl=>[.own 273 8 (l.map zS)]) (λl=>l.length<=1000000) (λl=>zA (kQ l)) (λl=>[.own 273 8 (l.map zS)])
def yEf (l:List Slot):List SAnn:=[{ι:=Nat,slots:=λj=>[(8,zA j)],rows:=λ_=>[]}]
def aB:cQ:=⟨-1,-1,0,0⟩
def Arena.openQ (a:Arena):Arena:={a with queues:=a.queues++[aB]}
def aopenC:Con:=con1 Arena (λ_=>[.nm 0 0]) (λa=>[jV a]) (λa=>a.queues.length<=1000000) (λa=>zA a.queues.length) (λa=>[jV a.openQ])
structure yBw where
 a:Arena
 n:Int
 t:Bool
def Arena.usedAt (a:Arena) (n:Int):Bool:=decide (0<=n) && (decide (n<a.slots.length) && (a.slots.getD n.toNat slot0).used)
def Arena.topF (a:Arena) (n:Int) (t:Bool):Arena:=if a.usedAt n=aw then{a with slots:=a.slots.modify n.toNat λs=>{s with top:=t}}else a
def atopC:Con:=con1 yBw (λi=>[.nm 0 0,zA i.n,yP i.t]) (λi=>[jV i.a]) (λi=>i.a.slots.length<=1000000) (λi=>zA (if i.a.usedAt i.n=aw then 0 else 26)) (λi=>[jV (i.a.topF i.n i.t)])
structure PuI where
 a:Arena
 n:Int
 id:Int
 qty:Int
 top:Bool
def Arena.put (a:Arena) (n id qty:Int) (top:Bool):Arena:=
 let q:=a.queues.getD n.toNat aB
 let k:=kQ a.slots
 let sl:=a.slots.set k.toNat ⟨aw,k,id,qty,top,n,q.last,-1⟩
 ⟨if q.last= -1 then sl else sl.modify q.last.toNat λs=>{s with back:=k},a.queues.set n.toNat ⟨if q.last= -1 then k else q.first,k,ae.wrap (q.total+qty),ae.wrap (q.count+1)⟩,ae.wrap (a.free-1)⟩
def Arena.push (a:Arena) (n id qty:Int) (top:Bool):Arena×Int×Int:=
 if n<0\/a.queues.length<=n then(a,0,26)else if qty<1\/1000000<qty then(a,0,24)else if a.free=0 then(a,0,13)else(a.put n id qty top,kQ a.slots,0)
def Arena.fit (a:Arena):Prop:=a.slots.length<=1000000/\(a.free≠0->∃s∈a.slots,s.used=ax)/\∀q∈a.queues,q.last= -1\/(0<=q.last/\q.last<a.slots.length)
def apushC:Con:=con1 PuI (λi=>[.nm 0 0,zA i.n,zA i.id,zA i.qty,yP i.top]) (λi=>[jV i.a]) (λi=>i.a.fit) (λi=> .tup [zA (i.a.push i.n i.id i.qty i.top).2.1,zA (i.a.push i.n i.id i.qty i.top).2.2]) (λi=>[jV (i.a.push i.n i.id i.qty i.top).1])
@[reducible] def zJp (b:Book):List AObj:=[zR b 0,zR b 1,zR b 2,zR b 3,zR b 4,zR b 5]
structure BkP where
 b:Book
 price:Int
def zZ (s:Int) (l:List xK) (price:Int):Nat:=(l.takeWhile λr=>btr s r.price price).length
def kP (s:Int) (l:List xK) (price:Int):Bool:=match l[zZ s l price]? with
 |some r=>decide (r.price=price)
 |none=>ax
def Book.rungs (b:Book) (s:Int):List xK:=if s=1 then b.buys else b.sells
def yJs (s:Int):Con:=con1 BkP (λi=>[.nm 0 0,zA s,zA i.price]) (λi=>zJp i.b) (λi=>i.b.small) (λi=> .tup [zA (zZ s (i.b.rungs s) i.price),yP (kP s (i.b.rungs s) i.price)]) (λi=>zJp i.b)
def find1C:Con:=yJs 1
def find2C:Con:=yJs 2
def ySf:List SAnn:=[{ι:=Nat,slots:=λj=>[(9,zA j)],rows:=λ_=>[]}]
def pget (l:List (Int×Place)) (k:Int):Option Place:=(l.find? λx=>decide (x.1=k)).map (·.2)
def sD (k:Int) (v:Place):List (Int×Place)->List (Int×Place)
 |[]=>[(k,v)]
 |(a,b)::l=>if k=a then(a,v)::l else(a,b)::sD k v l
structure LdI where
 b:Book
 id:Int
def Book.hasF (b:Book) (s:Int):Bool:=if s=1 then b.has1 else b.has2
def Book.topI (b:Book) (s:Int):Int:=if s=1 then b.top1 else b.top2
def Book.untop (b:Book) (s:Int):Arena:=if b.hasF s=aw then(match pget b.at_ (b.topI s)with
 |some o=>if o.side=s then b.a.topF o.slot ax else b.a
 |none=>b.a)else b.a
def Book.leadF (b:Book) (id s:Int):Book:=if s=1 then{b with a:=b.untop s,top1:=id,has1:=aw}else{b with a:=b.untop s,top2:=id,has2:=aw}
def yIh (s:Int):Con:=con1 LdI (λi=>[.nm 0 0,zA i.id,zA s]) (λi=>zJp i.b) (λi=>i.b.small) (λ_=>tH) (λi=>zJp (i.b.leadF i.id s))
def lead1C:Con:=yIh 1
def lead2C:Con:=yIh 2
def Book.newQ (b:Book):Int×List Int×Arena:=if b.spare.length=0 then(b.a.queues.length,b.spare,b.a.openQ)else(b.spare.getD (b.spare.length-1) 0,b.spare.take (b.spare.length-1),b.a)
def Book.ins (b:Book) (s price:Int):List xK:=(b.rungs s).take (zZ s (b.rungs s) price)++⟨price,b.newQ.1⟩::(b.rungs s).drop (zZ s (b.rungs s) price)
def Book.queueF (b:Book) (s price:Int):Book×Int:=
 if kP s (b.rungs s) price=aw then(b,((b.rungs s).getD (zZ s (b.rungs s) price) ⟨0,0⟩).queue)
 else(if s=1 then{b with a:=b.newQ.2.2,buys:=b.ins s price,spare:=b.newQ.2.1}else{b with a:=b.newQ.2.2,sells:=b.ins s price,spare:=b.newQ.2.1},b.newQ.1)
def yMo (b:Book):AObj:= .cells [.nm 1 0,.own 6,.own 3,.mp 4,zA b.top1,zA b.top2,.own 7,yP b.has1,yP b.has2] 245
def yPb (b:Book):AObj:= .cells [.nm 1 0,.own 2,.own 6,.mp 4,zA b.top1,zA b.top2,.own 7,yP b.has1,yP b.has2] 245
@[reducible] def yXy (b:Book):List AObj:=[yMo b,zR b 1,.gone,zR b 3,zR b 4,.gone,zR b 2,zR b 5]
@[reducible] def yVk (b:Book):List AObj:=[yPb b,zR b 1,zR b 2,.gone,zR b 4,.gone,zR b 3,zR b 5]
@[reducible] def Book.fit (b:Book):Prop:=b.a.fit/\b.a.queues.length<=100000/\b.buys.length<=100000/\b.sells.length<=100000/\b.spare.length<=100000
def queue1C:Con:=con1 BkP (λi=>[.nm 0 0,zA 1,zA i.price]) (λi=>zJp i.b) (λi=>i.b.fit) (λi=>zA (i.b.queueF 1 i.price).2) (λi=>yXy (i.b.queueF 1 i.price).1)
def queue2C:Con:=con1 BkP (λi=>[.nm 0 0,zA 2,zA i.price]) (λi=>zJp i.b) (λi=>i.b.fit) (λi=>zA (i.b.queueF 2 i.price).2) (λi=>yVk (i.b.queueF 2 i.price).1)
def insRC:Con:=yMb 255 2 16
def z0c (i:I3'):Prop:=
 cnd (i.side==1) (∃(a:Unit),btr i.side i.x i.y=decide (i.x>i.y)/\True) (∃(a:Unit),btr i.side i.x i.y=decide (i.x<i.y)/\True)
def yJh (s:Slot):Prop:=
 ∃(a:Unit),(!s.used)=!s.used/\True
def zYs (l:List Slot):Prop:=
 ∃(a:Nat),(↑a:Int)=0/\∃(b:Nat->Prop),∃(c:Nat->Nat),b a/\∀(d:Nat),b d->cnd (decide ((↑d:Int)<(↑(aa zS l).length:Int))) ((0<=(↑d:Int)/\(↑d:Int)<(↑(aa zS l).length:Int))/\∃(e:Bool),∃(f:Int),∃(g:Int),∃(h:Int),∃(j:Bool),∃(k:Int),∃(m:Int),∃(n:Int),zE (aa zS l) (↑d:Int).toNat 0 8=ay [D.v (.bool e),dI f,dI g,dI h,D.v (.bool j),dI k,dI m,dI n]/\∃(p:Slot),p.used=e/\p.n=f/\p.id=g/\p.qty=h/\p.top=j/\p.queue=k/\p.ahead=m/\p.back=n/\True/\∀(q:Unit),True->cnd (!p.used) (∃(r:Unit),kQ l=(↑d:Int)/\dh (aa zS l)/\True) (∃(r:Nat),(↑r:Int)=ae.wrap ((↑d:Int)+1)/\b r/\c r<c d/\dh (ag 273 8 (aa zS l)))) (∃(e:Unit),kQ l=(-1)/\dh (aa zS l)/\True)
def yFt (a:Arena):Prop:=
 ((aa zP a.queues).length+1)*(32:Nat)<=(140737488355328:Nat)/\∃(b:Unit),(↑a.queues.length:Int)=ae.wrap ((↑(aa zP a.queues++[[dI (-1),dI (-1),dI 0,dI 0]]).length:Int)-1)/\dh a.free/\dh (aa zS a.slots)/\aa zP (a.queues++[aB])=aa zP a.queues++[[dI (-1),dI (-1),dI 0,dI 0]]/\True
def zAa (a:yBw):Prop:=∃(b:Unit),(if a.a.usedAt a.n=aw then(0:Int)else(26:Int))=26/\(a.a.topF a.n a.t).free=a.a.free/\aa zS (a.a.topF a.n a.t).slots=aa zS a.a.slots/\aa zP (a.a.topF a.n a.t).queues=aa zP a.a.queues/\True
def ySr (i:yBw):Prop:=
 cnd (decide (i.n<0)) (zAa i) (cnd (decide (i.n>=(↑(aa zS i.a.slots).length:Int))) (zAa i) ((0<=i.n/\i.n<(↑(aa zS i.a.slots).length:Int))/\∃(a:Bool),zE (aa zS i.a.slots) i.n.toNat 0 1=ay [D.v (.bool a)]/\cnd (!a) (zAa i) ((0<=i.n/\i.n<(↑(aa zS i.a.slots).length:Int))/\i.n.toNat<(aa zS i.a.slots).length/\∃(b:Unit),(if i.a.usedAt i.n=aw then(0:Int)else(26:Int))=0/\(i.a.topF i.n i.t).free=i.a.free/\aa zS (i.a.topF i.n i.t).slots=zX (aa zS i.a.slots) i.n.toNat 4 [D.v (.bool i.t)]/\aa zP (i.a.topF i.n i.t).queues=aa zP i.a.queues/\True)))
def yJ (a:PuI):=(a.a.push a.n a.id a.qty a.top)
def sI (a:PuI):Prop:=(yJ a).fst.free=a.a.free/\aa zS (yJ a).fst.slots=aa zS a.a.slots/\aa zP (yJ a).fst.queues=aa zP a.a.queues/\True
def zDg (a:PuI):Prop:=∃(b:Unit),(yJ a).snd.fst=0/\(yJ a).snd.snd=26/\sI a
def zBr (a:PuI):Prop:=∃(b:Unit),(yJ a).snd.fst=0/\(yJ a).snd.snd=24/\sI a
def rL (a:PuI) (b:List Slot):=(zX (zX (aa zP a.a.queues) a.n.toNat 0 [dI (kQ b)]) a.n.toNat 1 [dI (kQ b)])
def pZ (a:PuI) (b:List Slot) (c:Int):=(zX (rL a b) a.n.toNat 2 [dI (ae.wrap (c+a.qty))])
def sN (a:PuI) (b:List Slot):=(zX (aa zP a.a.queues) a.n.toNat 1 [dI (kQ b)])
def sY (a:PuI) (b:List Slot) (c:Int):=(zX (sN a b) a.n.toNat 2 [dI (ae.wrap (c+a.qty))])
def yJj (i:PuI):Prop:=
 cnd (decide (i.n>=0)) (cnd (!decide (i.n<(↑(aa zP i.a.queues).length:Int))) (zDg i) (cnd (decide (i.qty<1)) (zBr i) (cnd (decide (i.qty>1000000)) (zBr i) (cnd (i.a.free==0) (∃(a:Unit),(yJ i).snd.fst=0/\(yJ i).snd.snd=13/\sI i) (∃(a:List Slot),aa zS a=aa zS i.a.slots/\a.length<=1000000/\∀(b:Unit),True->(0<=i.n/\i.n<(↑(aa zP i.a.queues).length:Int))/\∃(c:Int),zE (aa zP i.a.queues) i.n.toNat 1 1=ay [dI c]/\(0<=kQ a/\kQ a<(↑(aa zS a).length:Int))/\(kQ a).toNat<(aa zS a).length/\∃(d:Int),zE (aa zP i.a.queues) i.n.toNat 1 1=ay [dI d]/\cnd (d==(-1)) (i.n.toNat<(aa zP i.a.queues).length/\i.n.toNat<(zX (aa zP i.a.queues) i.n.toNat 0 [dI (kQ a)]).length/\∃(e:Int),zE (rL i a) i.n.toNat 2 1=ay [dI e]/\i.n.toNat<(rL i a).length/\∃(f:Int),zE (pZ i a e) i.n.toNat 3 1=ay [dI f]/\i.n.toNat<(pZ i a e).length/\∃(g:Unit),(yJ i).snd.fst=kQ a/\(yJ i).snd.snd=0/\(yJ i).fst.free=ae.wrap (i.a.free-1)/\aa zS (yJ i).fst.slots=zX (aa zS a) (kQ a).toNat 0 [D.v (.bool aw),dI (kQ a),dI i.id,dI i.qty,D.v (.bool i.top),dI i.n,dI c,dI (-1)]/\aa zP (yJ i).fst.queues=zX (pZ i a e) i.n.toNat 3 [dI (ae.wrap (f+1))]/\True) (∃(e:Int),zE (aa zP i.a.queues) i.n.toNat 1 1=ay [dI e]/\(0<=e/\e<(↑(zX (aa zS a) (kQ a).toNat 0 [D.v (.bool aw),dI (kQ a),dI i.id,dI i.qty,D.v (.bool i.top),dI i.n,dI c,dI (-1)]).length:Int))/\e.toNat<(zX (aa zS a) (kQ a).toNat 0 [D.v (.bool aw),dI (kQ a),dI i.id,dI i.qty,D.v (.bool i.top),dI i.n,dI c,dI (-1)]).length/\i.n.toNat<(aa zP i.a.queues).length/\∃(f:Int),zE (sN i a) i.n.toNat 2 1=ay [dI f]/\i.n.toNat<(sN i a).length/\∃(g:Int),zE (sY i a f) i.n.toNat 3 1=ay [dI g]/\i.n.toNat<(sY i a f).length/\∃(h:Unit),(yJ i).snd.fst=kQ a/\(yJ i).snd.snd=0/\(yJ i).fst.free=ae.wrap (i.a.free-1)/\aa zS (yJ i).fst.slots=zX (zX (aa zS a) (kQ a).toNat 0 [D.v (.bool aw),dI (kQ a),dI i.id,dI i.qty,D.v (.bool i.top),dI i.n,dI c,dI (-1)]) e.toNat 7 [dI (kQ a)]/\aa zP (yJ i).fst.queues=zX (sY i a f) i.n.toNat 3 [dI (ae.wrap (g+1))]/\True)))))) (zDg i)
def xU (a:BkP):=(↑(zZ 1 (a.b.rungs 1) a.price):Int)
def uE (a:BkP):=(↑(aa zB a.b.buys).length:Int)
def dW (a:BkP):Prop:=a.b.top1=a.b.top1/\dh a.b.top2/\dh a.b.has1/\dh a.b.has2/\af Arena 3 zG a.b.a=zR a.b 1/\dh (aa zB a.b.buys)/\dh (aa zB a.b.sells)/\dh (atE a.b.at_)/\dh (iE a.b.spare)/\True
def zHd (a:Nat) (b:BkP):Prop:=(0<=(↑a:Int)/\(↑a:Int)<(uE b))/\∃(c:Int),zE (aa zB b.b.buys) (↑a:Int).toNat 0 1=ay [dI c]/\∃(d:Unit),(xU b)=(↑a:Int)/\kP 1 (b.b.rungs 1) b.price=(c==b.price)/\dW b
def zDf (a:BkP) (b:Nat):Prop:=∃(c:Unit),(xU a)=(↑b:Int)/\kP 1 (a.b.rungs 1) a.price=ax/\dW a
def sR (a:Nat) (b:Nat->Prop) (c:Nat->Nat) (d:BkP):Prop:=∃(e:Nat),(↑e:Int)=ae.wrap ((↑a:Int)+1)/\b e/\c e<c a/\dh (zR d.b 0)/\dh (zR d.b 1)/\dh (zR d.b 2)/\dh (zR d.b 3)/\dh (zR d.b 4)/\dh (zR d.b 5)
def pX (a:Nat) (b:BkP):=(decide ((↑a:Int)<(uE b)))
def yKj (i:BkP):Prop:=
 ∃(a:Nat),(↑a:Int)=0/\∃(b:Nat->Prop),∃(c:Nat->Nat),b a/\∀(d:Nat),b d->cnd (pX d i) ((0<=(↑d:Int)/\(↑d:Int)<(uE i))/\∃(e:Int),zE (aa zB i.b.buys) (↑d:Int).toNat 0 1=ay [dI e]/\∃(f:I3'),f.side=1/\f.x=e/\f.y=i.price/\True/\∀(g:Unit),True->cnd (btr f.side f.x f.y) (sR d b c i) (cnd (pX d i) (zHd d i) (zDf i d))) (cnd (pX d i) (zHd d i) (zDf i d))
def xS (a:BkP):=(↑(zZ 2 (a.b.rungs 2) a.price):Int)
def v8 (a:BkP):=(↑(aa zB a.b.sells).length:Int)
def zGu (a:Nat) (b:BkP):Prop:=(0<=(↑a:Int)/\(↑a:Int)<(v8 b))/\∃(c:Int),zE (aa zB b.b.sells) (↑a:Int).toNat 0 1=ay [dI c]/\∃(d:Unit),(xS b)=(↑a:Int)/\kP 2 (b.b.rungs 2) b.price=(c==b.price)/\dW b
def zCy (a:BkP) (b:Nat):Prop:=∃(c:Unit),(xS a)=(↑b:Int)/\kP 2 (a.b.rungs 2) a.price=ax/\dW a
def sG (a:Nat) (b:BkP):=(decide ((↑a:Int)<(v8 b)))
def yDv (i:BkP):Prop:=
 ∃(a:Nat),(↑a:Int)=0/\∃(b:Nat->Prop),∃(c:Nat->Nat),b a/\∀(d:Nat),b d->cnd (sG d i) ((0<=(↑d:Int)/\(↑d:Int)<(v8 i))/\∃(e:Int),zE (aa zB i.b.sells) (↑d:Int).toNat 0 1=ay [dI e]/\∃(f:I3'),f.side=2/\f.x=e/\f.y=i.price/\True/\∀(g:Unit),True->cnd (btr f.side f.x f.y) (sR d b c i) (cnd (sG d i) (zGu d i) (zCy i d))) (cnd (sG d i) (zGu d i) (zCy i d))
def dR (a:LdI):Prop:=aa zB a.b.buys=aa zB a.b.buys/\dh (aa zB a.b.sells)/\dh (atE a.b.at_)/\dh (iE a.b.spare)/\True
def rH (a:LdI):Prop:=∃(b:Unit),dh a.id/\dh a.b.top2/\aw=aw/\dh a.b.has2/\af Arena 3 zG (a.b.untop 1)=zR a.b 1/\dR a
def zCw (a:LdI) (b:Int) (c:Int) (d:Int) (e:Bool):Prop:=kC (ba ae a.b.top1) (atE a.b.at_)=ay [dI b,dI c,dI d]/\e=aw\/kC (ba ae a.b.top1) (atE a.b.at_)=az/\[dI b,dI c,dI d]=[dI 0,dI 0,dI 0]/\e=ax
def zCv (a:LdI):Prop:=∀(b:be×List D),b∈atE a.b.at_->like (ba ae a.b.top1) b.fst=aw
def yFm (i:LdI):Prop:=
 cnd i.b.has1 ((zCv i)/\∃(a:Bool),∃(b:Int),∃(c:Int),∃(d:Int),(zCw i b c d a)/\((zCv i)/\∃(e:Bool),∃(f:Int),∃(g:Int),∃(h:Int),(zCw i f g h e)/\(f=b/\g=c/\h=d/\True)/\e=a/\True)/\dh i.b.top1/\True/\cnd a (cnd (b==1) (∃(e:yBw),e.n=d/\e.t=ax/\af Arena 3 zG e.a=zR i.b 1/\e.a.slots.length<=1000000/\∀(f:Unit),True->∃(g:Unit),dh i.id/\dh i.b.top2/\aw=aw/\dh i.b.has2/\af Arena 3 zG (i.b.untop 1)=af Arena 3 zG (e.a.topF e.n e.t)/\dR i) (rH i)) (rH i)) (rH i)
def rG (a:LdI):Prop:=∃(b:Unit),dh a.b.top1/\dh a.id/\dh a.b.has1/\aw=aw/\af Arena 3 zG (a.b.untop 2)=zR a.b 1/\dR a
def zCn (a:LdI) (b:Int) (c:Int) (d:Int) (e:Bool):Prop:=kC (ba ae a.b.top2) (atE a.b.at_)=ay [dI b,dI c,dI d]/\e=aw\/kC (ba ae a.b.top2) (atE a.b.at_)=az/\[dI b,dI c,dI d]=[dI 0,dI 0,dI 0]/\e=ax
def zCp (a:LdI):Prop:=∀(b:be×List D),b∈atE a.b.at_->like (ba ae a.b.top2) b.fst=aw
def yKz (i:LdI):Prop:=
 cnd i.b.has2 ((zCp i)/\∃(a:Bool),∃(b:Int),∃(c:Int),∃(d:Int),(zCn i b c d a)/\((zCp i)/\∃(e:Bool),∃(f:Int),∃(g:Int),∃(h:Int),(zCn i f g h e)/\(f=b/\g=c/\h=d/\True)/\e=a/\True)/\dh i.b.top2/\True/\cnd a (cnd (b==2) (∃(e:yBw),e.n=d/\e.t=ax/\af Arena 3 zG e.a=zR i.b 1/\e.a.slots.length<=1000000/\∀(f:Unit),True->∃(g:Unit),dh i.b.top1/\dh i.id/\dh i.b.has1/\aw=aw/\af Arena 3 zG (i.b.untop 2)=af Arena 3 zG (e.a.topF e.n e.t)/\dR i) (rG i)) (rG i)) (rG i)
def qB (a:BkP):Prop:=(a.b.a.slots.length<=1000000/\a.b.a.queues.length<=1000000)/\a.b.buys.length<=1000000/\a.b.sells.length<=1000000/\a.b.spare.length<=1000000
def g7 (a:BkP):Prop:=0<=(xU a)/\(xU a)<(uE a)
def vZ (a:BkP):=((↑(iE a.b.spare).length:Int)-1)
def mP (a:BkP):Prop:=0<=ae.wrap (vZ a)/\ae.wrap (vZ a)<=(↑(iE a.b.spare).length:Int)
def mQ (a:BkP):Prop:=0<=ae.wrap (vZ a)/\ae.wrap (vZ a)<(↑(iE a.b.spare).length:Int)
def gX (a:yCv):Prop:=a.i<=a.els.length/\(a.els.length+1)*(16:Nat)<=(140737488355328:Nat)
def fE (a:BkP):=(ae.wrap (vZ a))
def zN (a:BkP):=(a.b.queueF 1 a.price)
def z6g (i:BkP):Prop:=
 ∃(a:BkP),dh ((1:Int))/\a.price=i.price/\a.b.top1=i.b.top1/\a.b.top2=i.b.top2/\a.b.has1=i.b.has1/\a.b.has2=i.b.has2/\af Arena 3 zG a.b.a=zR i.b 1/\aa zB a.b.buys=aa zB i.b.buys/\aa zB a.b.sells=aa zB i.b.sells/\atE a.b.at_=atE i.b.at_/\iE a.b.spare=iE i.b.spare/\(qB a)/\∀(b:Unit),True->cnd (kP 1 (a.b.rungs 1) a.price) ((g7 a)/\∃(c:Int),zE (aa zB a.b.buys) (xU a).toNat 1 1=ay [dI c]/\∃(d:Unit),(zN i).snd=c/\(zN i).fst.top1=a.b.top1/\(zN i).fst.top2=a.b.top2/\(zN i).fst.has1=a.b.has1/\(zN i).fst.has2=a.b.has2/\af Arena 3 zG (zN i).fst.a=af Arena 3 zG a.b.a/\aa zB (zN i).fst.sells=aa zB a.b.sells/\atE (zN i).fst.at_=atE a.b.at_/\aa zB (zN i).fst.buys=aa zB a.b.buys/\iE (zN i).fst.spare=iE a.b.spare/\True) (cnd (decide ((↑(iE a.b.spare).length:Int)>0)) ((mQ a)/\∃(c:Int),zE (iE a.b.spare) (fE a).toNat 0 1=ay [dI c]/\(mP a)/\True/\∃(d:yCv),(↑d.i:Int)=(xU a)/\d.els=aa zB a.b.buys/\[d.el]=[[dI i.price,dI c]]/\(gX d)/\∀(e:Unit),True->∃(f:Unit),(zN i).snd=c/\(zN i).fst.top1=a.b.top1/\(zN i).fst.top2=a.b.top2/\(zN i).fst.has1=a.b.has1/\(zN i).fst.has2=a.b.has2/\af Arena 3 zG (zN i).fst.a=af Arena 3 zG a.b.a/\aa zB (zN i).fst.sells=aa zB a.b.sells/\atE (zN i).fst.at_=atE a.b.at_/\aa zB (zN i).fst.buys=ab d.i d.els++d.el::ac d.i d.els/\iE (zN i).fst.spare=ab (fE a).toNat (iE a.b.spare)/\True) (∃(c:Arena),af Arena 3 zG c=af Arena 3 zG a.b.a/\c.queues.length<=1000000/\∀(d:Unit),True->True/\∃(e:yCv),(↑e.i:Int)=(xU a)/\e.els=aa zB a.b.buys/\[e.el]=[[dI i.price,dI (↑c.queues.length:Int)]]/\(gX e)/\∀(f:Unit),True->∃(g:Unit),(zN i).snd=(↑c.queues.length:Int)/\(zN i).fst.top1=a.b.top1/\(zN i).fst.top2=a.b.top2/\(zN i).fst.has1=a.b.has1/\(zN i).fst.has2=a.b.has2/\af Arena 3 zG (zN i).fst.a=af Arena 3 zG c.openQ/\aa zB (zN i).fst.sells=aa zB a.b.sells/\atE (zN i).fst.at_=atE a.b.at_/\aa zB (zN i).fst.buys=ab e.i e.els++e.el::ac e.i e.els/\iE (zN i).fst.spare=iE a.b.spare/\True))
def fG (a:BkP):Prop:=0<=(xS a)/\(xS a)<(v8 a)
def zO (a:BkP):=(a.b.queueF 2 a.price)
def z8k (i:BkP):Prop:=
 ∃(a:BkP),dh ((2:Int))/\a.price=i.price/\a.b.top1=i.b.top1/\a.b.top2=i.b.top2/\a.b.has1=i.b.has1/\a.b.has2=i.b.has2/\af Arena 3 zG a.b.a=zR i.b 1/\aa zB a.b.buys=aa zB i.b.buys/\aa zB a.b.sells=aa zB i.b.sells/\atE a.b.at_=atE i.b.at_/\iE a.b.spare=iE i.b.spare/\(qB a)/\∀(b:Unit),True->cnd (kP 2 (a.b.rungs 2) a.price) ((fG a)/\∃(c:Int),zE (aa zB a.b.sells) (xS a).toNat 1 1=ay [dI c]/\∃(d:Unit),(zO i).snd=c/\(zO i).fst.top1=a.b.top1/\(zO i).fst.top2=a.b.top2/\(zO i).fst.has1=a.b.has1/\(zO i).fst.has2=a.b.has2/\af Arena 3 zG (zO i).fst.a=af Arena 3 zG a.b.a/\aa zB (zO i).fst.buys=aa zB a.b.buys/\atE (zO i).fst.at_=atE a.b.at_/\aa zB (zO i).fst.sells=aa zB a.b.sells/\iE (zO i).fst.spare=iE a.b.spare/\True) (cnd (decide ((↑(iE a.b.spare).length:Int)>0)) ((mQ a)/\∃(c:Int),zE (iE a.b.spare) (fE a).toNat 0 1=ay [dI c]/\(mP a)/\True/\∃(d:yCv),(↑d.i:Int)=(xS a)/\d.els=aa zB a.b.sells/\[d.el]=[[dI i.price,dI c]]/\(gX d)/\∀(e:Unit),True->∃(f:Unit),(zO i).snd=c/\(zO i).fst.top1=a.b.top1/\(zO i).fst.top2=a.b.top2/\(zO i).fst.has1=a.b.has1/\(zO i).fst.has2=a.b.has2/\af Arena 3 zG (zO i).fst.a=af Arena 3 zG a.b.a/\aa zB (zO i).fst.buys=aa zB a.b.buys/\atE (zO i).fst.at_=atE a.b.at_/\aa zB (zO i).fst.sells=ab d.i d.els++d.el::ac d.i d.els/\iE (zO i).fst.spare=ab (fE a).toNat (iE a.b.spare)/\True) (∃(c:Arena),af Arena 3 zG c=af Arena 3 zG a.b.a/\c.queues.length<=1000000/\∀(d:Unit),True->True/\∃(e:yCv),(↑e.i:Int)=(xS a)/\e.els=aa zB a.b.sells/\[e.el]=[[dI i.price,dI (↑c.queues.length:Int)]]/\(gX e)/\∀(f:Unit),True->∃(g:Unit),(zO i).snd=(↑c.queues.length:Int)/\(zO i).fst.top1=a.b.top1/\(zO i).fst.top2=a.b.top2/\(zO i).fst.has1=a.b.has1/\(zO i).fst.has2=a.b.has2/\af Arena 3 zG (zO i).fst.a=af Arena 3 zG c.openQ/\aa zB (zO i).fst.buys=aa zB a.b.buys/\atE (zO i).fst.at_=atE a.b.at_/\aa zB (zO i).fst.sells=ab e.i e.els++e.el::ac e.i e.els/\iE (zO i).fst.spare=iE a.b.spare/\True))
def mM:bbetterC.ok Tryz.prog 150:=okw (V:=z0c) mixed gok0 0 (λ_=>[]) (λ_=>[]) [] Tryz.func150 λ(i:I3') _=>by
 unfold z0c;refine Cv.cnd.mk (λc=> ?_) (λc=> ?_)
 ·have c:i.side=1:=by simpa using c
  rw[btr,y6a c];exact kp
 ·have c:¬i.side=1:=by simpa using c
  rw[btr,y5x c];exact kp
def yFg:pushFC.ok Tryz.prog 217:=okw (V:=yJh) mixed gok0 0 (λ_=>[]) (λ_=>[]) [] Tryz.func217 λ(s:Slot) _=>by
 unfold yJh;exact kp
def y3z {l:List Slot} {k:Nat} {s:Slot} (h:l[k]? =ay s):zE (l.map zS) k 0 8=ay [D.v (.bool s.used),.v (.int .i64 s.n),.v (.int .i64 s.id),.v (.int .i64 s.qty),.v (.bool s.top),.v (.int .i64 s.queue),.v (.int .i64 s.ahead),.v (.int .i64 s.back)]:=elA h (by simp[zS]) rfl
def yFb (l:List Slot) (h:idxSlotC.cnd l):zYs l:=by
 have h:l.length<=1000000:=h;unfold zYs dI;simp only[y5z];refine⟨0,rfl,λj=>j<=l.length/\∀k<j,∀x,l[k]? =ay x->(!x.used)=ax,λj=>l.length-j,⟨oM,λk hk=>by omega⟩,?_⟩;rintro j ⟨h3,h4⟩;refine zI (λhj=> ?_) (λhj=> ?_)
 ·obtain⟨s,hs⟩:=yC (l:=l) (i:=j) oM;refine⟨⟨oM,oM⟩,s.used,s.n,s.id,s.qty,s.top,s.queue,s.ahead,s.back,y3z hs,s,rF7 ⟨rfl,trivial,λ_ _=>Cv.cnd.mk (λe=> ?_) (λe=> ?_)⟩⟩
  ·rw[kQ,zHs hs e h4];exact kp
  ·refine⟨j+1,by rw[w64 (by omega)];rfl,⟨oM,λk hk x hx=> ?_⟩,by(first|omega|(dsimp only;omega)),k0q⟩;rcases y8h k j with hk'|hk'
   ·exact h4 k hk' x hx
   ·obtain rfl:k=j:=by omega
    rw[hs]at hx;cases hx;exact e
 ·rw[kQ,zIp λk x hx=>h4 k (by have:=(y6c.1 hx).1;omega) x hx];exact kp
def z4x:idxSlotC.ok Tryz.prog 216:=okw mixed (gokc yFg gok0) 0 (λ_=>[]) (λl=>yEf l) [] Tryz.func216 yFb
def z0g:aopenC.ok Tryz.prog 218:=okw (V:=yFt) mixed gok0 0 (λ_=>[]) (λ_=>[]) [0] Tryz.func218 λ(a:Arena) h=>by
 have h:a.queues.length<=1000000:=h;unfold yFt dI;rw[y5y,y5z,w64 (by simp only[y6d,y7s];omega)];refine⟨oM,(),?_,rfl,rfl,?_,trivial⟩
 ·simp
 ·rw[y6i];rfl
def cB {α:Type} {f:α->α}:∀{l:List α} {i:Nat} {x:α},l[i]? =ay x->l.modify i f=l.set i (f x)
 |[],i,x,h=>by simp at h
 |a::l,0,x,h=>by simp at h;subst h;rfl
 |a::l,i+1,x,h=>by
  simp only[y7x]at h;simp only[xBi,xBz,cB h]
def yH {α:Type} {f:α->List D} {l:List α} {i g:Nat} {x y:α} {ds:List D} (hi:l[i]? =ay x) (hh:(f x).take g++(ds++(f x).drop (g+ds.length))=f y):zX (l.map f) i g ds=(l.set i y).map f:=by
 have hlt:=(y6c.1 hi).1;rw[zX,cB (by rw[y7p,hi];rfl),hh,List.map_set]
def uM {α:Type} {l:List α} {i:Nat} {x y:α} (hi:l[i]? =ay x):(l.set i y)[i]? =ay y:=List.getElem?_set_self (y6c.1 hi).1
def zT {α:Type} {l:List α} {i:Nat} {x d:α} (h:l[i]? =ay x):l.getD i d=x:=by rw[y6h,h];rfl
def y1w (i:yBw) (h:atopC.cnd i):ySr i:=by
 have h:i.a.slots.length<=1000000:=h;unfold ySr zAa;simp only[y5z];have no (e:i.a.usedAt i.n=ax):i.a.topF i.n i.t=i.a:=by rw[Arena.topF,y5x (by rw[e];decide)]
 refine zI (λc=> ?_) (λc=>zI (λd=> ?_) (λd=> ?_))
 ·have e:i.a.usedAt i.n=ax:=by rw[Arena.usedAt,y6n (by omega),y9k]
  rw[no e,e];exact kp
 ·have e:i.a.usedAt i.n=ax:=by rw[Arena.usedAt,y6n (show ¬i.n<(i.a.slots.length:Int)by omega),y9k,xBc]
  rw[no e,e];exact kp
 ·obtain⟨s,hs⟩:=yC (l:=i.a.slots) (i:=i.n.toNat) oM;have eu:i.a.usedAt i.n=s.used:=by rw[Arena.usedAt,y6p (show 0<=i.n by omega),y6p (show i.n<(i.a.slots.length:Int)by omega),zT hs];simp
  refine⟨⟨oM,oM⟩,s.used,elA hs (by simp[zS]) rfl,Cv.cnd.mk (λu=> ?_) (λu=> ?_)⟩
  ·have e:i.a.usedAt i.n=ax:=by rw[eu];simpa using u
   rw[no e,e];exact kp
  ·have e:i.a.usedAt i.n=aw:=by rw[eu];simpa using u
   have et:i.a.topF i.n i.t={i.a with slots:=i.a.slots.set i.n.toNat {s with top:=i.t}}:=by
    rw[Arena.topF,y6a e,cB hs]
   rw[et,e,yH hs (y:={s with top:=i.t}) rfl];refine⟨⟨oM,oM⟩,oM,(),rF4 trivial⟩
def z9s:atopC.ok Tryz.prog 215:=okw mixed gok0 1 (λ_=>[]) (λ_=>[]) [0] Tryz.func215 y1w
def yKc {l:List Slot} (h:∃s∈l,s.used=ax):∃k:Nat,kQ l=k/\k<l.length:=by
 obtain⟨s,hs,hu⟩:=h;cases hf:l.findIdx? λs=> !s.used with
 |none=>
  rw[xAp]at hf;have:=hf s hs;rw[hu]at this;cases this
 |some k=>
  rw[y9h]at hf;exact⟨k,by rw[kQ,show(l.findIdx? λs=> !s.used)=ay k by rw[y9h];exact hf];rfl,hf.1⟩
def yVb (i:PuI) (h:apushC.cnd i):yJj i:=by
 obtain⟨h1,h2,h3⟩:i.a.fit:=h;unfold yJj sY sN pZ rL zBr zDg sI yJ dI;simp only[y5z];have out (e:i.n<0\/i.a.queues.length<=i.n):i.a.push i.n i.id i.qty i.top=(i.a,0,26):=by rw[Arena.push,y6a e]
 refine zI (λc=>Cv.cnd.mk (λd=> ?_) (λd=> ?_)) (λc=> ?_)
 ·have d:¬i.n<(i.a.queues.length:Int):=by simpa using d
  rw[out (.inr (by omega))];exact kp
 ·have d:i.n<(i.a.queues.length:Int):=by simpa using d
  have hn:¬(i.n<0\/(i.a.queues.length:Int)<=i.n):=by omega
  refine zI (λq1=> ?_) (λq1=>zI (λq2=> ?_) (λq2=>Cv.cnd.mk (λfr=> ?_) (λfr=> ?_)))
  ·rw[Arena.push,y5x hn,y6a (.inl q1)];exact kp
  ·rw[Arena.push,y5x hn,y6a (.inr q2)];exact kp
  ·rw[Arena.push,y5x hn,y5x (by omega),y6a (by simpa using fr)];exact kp
  ·have fr:i.a.free≠0:=by simpa using fr
   have ep:i.a.push i.n i.id i.qty i.top=(i.a.put i.n i.id i.qty i.top,kQ i.a.slots,0):=by rw[Arena.push,y5x hn,y5x (by omega),y5x fr]
   obtain⟨k,hk,hkl⟩:=yKc (h2 fr);obtain⟨q,hq⟩:=yC (l:=i.a.queues) (i:=i.n.toNat) oM;have hqm:=y6j hq;have hl:=h3 q hqm;obtain⟨s,hs⟩:=yC hkl;refine⟨i.a.slots,rfl,h1,λ_ _=>⟨⟨oM,oM⟩,q.last,elA hq (by simp[zP]) rfl,⟨oM,oM⟩,by rw[hk];exact hkl,q.last,elA hq (by simp[zP]) rfl,?_⟩⟩;rw[ep];have eput:i.a.put i.n i.id i.qty i.top=⟨if q.last= -1 then i.a.slots.set k ⟨aw,k,i.id,i.qty,i.top,i.n,q.last,-1⟩else(i.a.slots.set k ⟨aw,k,i.id,i.qty,i.top,i.n,q.last,-1⟩).modify q.last.toNat λs=>{s with back:=k},i.a.queues.set i.n.toNat ⟨if q.last= -1 then k else q.first,k,ae.wrap (q.total+i.qty),ae.wrap (q.count+1)⟩,ae.wrap (i.a.free-1)⟩:=by
    simp only[Arena.put,zT hq,hk,y6r]
   rw[eput,hk];simp only[y6r];have es:zX (aa zS i.a.slots) k 0 [D.v (.bool aw),D.v (.int .i64 k),D.v (.int .i64 i.id),D.v (.int .i64 i.qty),D.v (.bool i.top),D.v (.int .i64 i.n),D.v (.int .i64 q.last),D.v (.int .i64 (-1))]=aa zS (i.a.slots.set k ⟨aw,k,i.id,i.qty,i.top,i.n,q.last,-1⟩):=yH hs rfl;rw[es];refine Cv.cnd.mk (λe=> ?_) (λe=> ?_)
   ·have e:q.last= -1:=by simpa using e
    have e1:zX (aa zP i.a.queues) i.n.toNat (0+0) [D.v (.int .i64 k)]=aa zP (i.a.queues.set i.n.toNat {q with first:=k}):=yH hq rfl;have g1:=uM (y:={q with first:=(k:Int)}) hq;have e2:zX (aa zP (i.a.queues.set i.n.toNat {q with first:=k})) i.n.toNat (0+1) [D.v (.int .i64 k)]=aa zP (i.a.queues.set i.n.toNat {q with first:=k,last:=k}):=by
     rw[yH g1 (y:={q with first:=(k:Int),last:=(k:Int)}) rfl,xAa]
    have g2:=uM (y:={q with first:=(k:Int),last:=(k:Int)}) hq;have e3:zX (aa zP (i.a.queues.set i.n.toNat {q with first:=k,last:=k})) i.n.toNat (0+2) [D.v (.int .i64 (ae.wrap (q.total+i.qty)))]=aa zP (i.a.queues.set i.n.toNat {q with first:=k,last:=k,total:=ae.wrap (q.total+i.qty)}):=by
     rw[yH g2 (y:={q with first:=(k:Int),last:=(k:Int),total:=ae.wrap (q.total+i.qty)}) rfl,xAa]
    have g3:=uM (y:={q with first:=(k:Int),last:=(k:Int),total:=ae.wrap (q.total+i.qty)}) hq;have e4:zX (aa zP (i.a.queues.set i.n.toNat {q with first:=k,last:=k,total:=ae.wrap (q.total+i.qty)})) i.n.toNat (0+3) [D.v (.int .i64 (ae.wrap (q.count+1)))]=aa zP (i.a.queues.set i.n.toNat ⟨k,k,ae.wrap (q.total+i.qty),ae.wrap (q.count+1)⟩):=by
     rw[yH g3 (y:=⟨k,k,ae.wrap (q.total+i.qty),ae.wrap (q.count+1)⟩) rfl,xAa]
    rw[e1,e2];simp only[y6a e];refine⟨oM,by simp only[y5z,y7g];omega,q.total,elA g2 (by simp[zP]) rfl,by simp only[y5z,y7g];omega,q.count,?_,by rw[e3];simp only[y5z,y7g];omega,(),?_⟩
    ·rw[e3];exact elA g3 (by simp[zP]) rfl
    ·rw[e3,e4];exact kp
   ·have e:¬q.last= -1:=by simpa using e
    have hl:0<=q.last/\q.last<i.a.slots.length:=hl.resolve_left e;have e2:zX (aa zP i.a.queues) i.n.toNat (0+1) [D.v (.int .i64 k)]=aa zP (i.a.queues.set i.n.toNat {q with last:=k}):=yH hq rfl;have g2:=uM (y:={q with last:=(k:Int)}) hq;have e3:zX (aa zP (i.a.queues.set i.n.toNat {q with last:=k})) i.n.toNat (0+2) [D.v (.int .i64 (ae.wrap (q.total+i.qty)))]=aa zP (i.a.queues.set i.n.toNat {q with last:=k,total:=ae.wrap (q.total+i.qty)}):=by
     rw[yH g2 (y:={q with last:=(k:Int),total:=ae.wrap (q.total+i.qty)}) rfl,xAa]
    have g3:=uM (y:={q with last:=(k:Int),total:=ae.wrap (q.total+i.qty)}) hq;have e4:zX (aa zP (i.a.queues.set i.n.toNat {q with last:=k,total:=ae.wrap (q.total+i.qty)})) i.n.toNat (0+3) [D.v (.int .i64 (ae.wrap (q.count+1)))]=aa zP (i.a.queues.set i.n.toNat ⟨q.first,k,ae.wrap (q.total+i.qty),ae.wrap (q.count+1)⟩):=by
     rw[yH g3 (y:=⟨q.first,k,ae.wrap (q.total+i.qty),ae.wrap (q.count+1)⟩) rfl,xAa]
    obtain⟨s2,hs2⟩:=yC (l:=i.a.slots.set k ⟨aw,k,i.id,i.qty,i.top,i.n,q.last,-1⟩) (i:=q.last.toNat) (by rw[y7g];omega);have e5:zX (aa zS (i.a.slots.set k ⟨aw,k,i.id,i.qty,i.top,i.n,q.last,-1⟩)) q.last.toNat (0+7) [D.v (.int .i64 k)]=aa zS ((i.a.slots.set k ⟨aw,k,i.id,i.qty,i.top,i.n,q.last,-1⟩).modify q.last.toNat λs=>{s with back:=k}):=by
     rw[yH hs2 (y:={s2 with back:=(k:Int)}) rfl,cB hs2]
    rw[e2];simp only[y5x e];refine⟨q.last,elA hq (by simp[zP]) rfl,⟨oM,by simp only[y5z,y7g];omega⟩,by simp only[y5z,y7g];omega,oM,q.total,elA g2 (by simp[zP]) rfl,by simp only[y5z,y7g];omega,q.count,?_,by rw[e3];simp only[y5z,y7g];omega,(),?_⟩
    ·rw[e3];exact elA g3 (by simp[zP]) rfl
    ·rw[e3,e4,e5];exact kp
 ·rw[out (.inl (by omega))];exact kp
def zZj:apushC.ok Tryz.prog 204:=okw mixed (gokc z4x gok0) 1 (λ_=>[]) (λ_=>[]) [0] Tryz.func204 yVb
def nO {s price:Int}:∀{l:List xK} {j:Nat},j<=l.length->(∀k<j,∀r,l[k]? =ay r->btr s r.price price=aw)->(∀r,l[j]? =ay r->btr s r.price price=ax)->zZ s l price=j
 |[],j,hj,_,_=>by
  obtain rfl:j=0:=by simpa using hj
  rfl
 |r::l,0,_,_,he=>by
  have:=he r rfl;rw[zZ,List.takeWhile_cons,this];rfl
 |r::l,j+1,hj,h,he=>by
  have h0:=h 0 oM r rfl;have ih:=nO (l:=l) (j:=j) (by simpa using hj) (λk hk x hx=>h (k+1) oM x (by simpa using hx)) (λx hx=>he x (by simpa using hx));rw[zZ]at ih ⊢;rw[List.takeWhile_cons,h0,y6a rfl,y6d,ih]
def zDw (s price:Int) (l:List xK):zZ s l price<=l.length:=(List.takeWhile_sublist _).length_le
def r9 (b:Book):b.rungs 1=b.buys:=rfl
def pY (b:Book):b.rungs 2=b.sells:=rfl
def yYo (i:BkP) (h:find1C.cnd i):yKj i:=by
 obtain⟨_,h1,h2,_⟩:i.b.small:=h;unfold yKj zHd pX uE sR zDf dW xU dI;simp only[y5z,r9];refine⟨0,rfl,λj=>j<=i.b.buys.length/\∀k<j,∀r,i.b.buys[k]? =ay r->btr 1 r.price i.price=aw,λj=>i.b.buys.length-j,⟨oM,λk hk=>by omega⟩,?_⟩;rintro j ⟨h3,h4⟩;refine zI (λhj=> ?_) (λhj=> ?_)
 ·obtain⟨r,hr⟩:=yC (l:=i.b.buys) (i:=j) oM;refine⟨⟨oM,oM⟩,r.price,elA hr (by simp[zB]) rfl,⟨1,r.price,i.price⟩,rfl,rfl,rfl,trivial,λ_ _=> ?_⟩;dsimp only;refine Cv.cnd.mk (λe=>⟨j+1,by rw[w64 (by omega)];rfl,⟨oM,λk hk x hx=> ?_⟩,by(first|omega|(dsimp only;omega)),k0q⟩) (λe=>zI (λ_=> ?_) (λc=>absurd hj c))
  ·rcases y8h k j with hk'|hk'
   ·exact h4 k hk' x hx
   ·obtain rfl:k=j:=by omega
    rw[hr]at hx;cases hx;exact e
  ·have en:zZ 1 i.b.buys i.price=j:=nO h3 h4 λx hx=>by rw[hr]at hx;cases hx;exact e
   have eb:kP 1 i.b.buys i.price=(r.price==i.price):=by rw[kP,en,hr];exact(z1x _ _).symm
   refine⟨⟨oM,oM⟩,r.price,elA hr (by simp[zB]) rfl,(),by rw[en],eb,?_⟩
   (repeat'(first|exact trivial|exact rfl|apply ap))
 ·have en:zZ 1 i.b.buys i.price=j:=nO h3 h4 λx hx=>by have:=(y6c.1 hx).1;omega
  have eb:kP 1 i.b.buys i.price=ax:=by rw[kP,en,y7c (by omega)]
  refine zI (λc=>absurd c hj) (λ_=>⟨(),by rw[en],eb,?_⟩)
  (repeat'(first|exact trivial|exact rfl|apply ap))
def zMy:find1C.ok Tryz.prog 207:=okw mixed (gokc mM gok0) 0 (λ_=>[]) (λ_=>ySf) [] Tryz.func207 yYo
def j7 (l:List (Int×Place)) (k:Int):∀(p:be×List D),p∈atE l->like (ba ae k) p.1=aw:=by
 intro p hp;obtain⟨x,_,rfl⟩:=y7j.1 hp;rfl
def zAn (k:Int):∀l:List (Int×Place),kC (ba ae k) (atE l)=(pget l k).map z3l
 |[]=>rfl
 |(a,v)::l=>by
  have ih:=zAn k l;show(bif (keq .i64 .i64 && decide (k=a))then _ else kC _ (atE l))=_;by_cases h:k=a
  ·subst h;simp[pget,keq]
  ·have h':¬a=k:=λe=>h e.symm
   rw[show(keq .i64 .i64 && decide (k=a))=ax by simp[h],cond_false,ih];simp[pget,xCd,h']
def zJj:Place:=⟨0,0,0⟩
def zTw (l:List (Int×Place)) (k:Int):kC (ba ae k) (atE l)=ay [D.v (.int .i64 ((pget l k).getD zJj).side),D.v (.int .i64 ((pget l k).getD zJj).price),D.v (.int .i64 ((pget l k).getD zJj).slot)]/\(pget l k).isSome=aw\/kC (ba ae k) (atE l)=az/\[D.v (.int .i64 ((pget l k).getD zJj).side),D.v (.int .i64 ((pget l k).getD zJj).price),D.v (.int .i64 ((pget l k).getD zJj).slot)]=[D.v (.int .i64 0),D.v (.int .i64 0),D.v (.int .i64 0)]/\(pget l k).isSome=ax:=by
 rw[zAn];cases pget l k with
 |none=>exact .inr ⟨rfl,rfl,rfl⟩
 |some v=>exact .inl ⟨rfl,rfl⟩
def zUm (k:Int) (v:Place):∀l,uH (ba ae k) (z3l v) (atE l)=atE (sD k v l)
 |[]=>rfl
 |(a,b)::l=>by
  have ih:=zUm k v l;show(bif (keq .i64 .i64 && decide (k=a))then _ else _::uH _ _ (atE l))=_;rw[ih,sD];by_cases h:k=a
  ·subst h;simp[keq,atE]
  ·simp[h,atE]
def yVm (i:LdI) (h:lead1C.cnd i):yFm i:=by
 obtain⟨⟨ha,_⟩,h1,h2,_⟩:i.b.small:=h;unfold yFm zCv zCw rH dR dI;have no (e:i.b.untop 1=i.b.a):af Arena 3 zG (i.b.untop 1)=zR i.b 1:=by rw[e];rfl
 refine Cv.cnd.mk (λc=> ?_) (λc=>⟨(),?_⟩)
 ·have c:i.b.hasF 1=aw:=c;refine⟨j7 _ _,(pget i.b.at_ i.b.top1).isSome,_,_,_,zTw _ _,⟨j7 _ _,(pget i.b.at_ i.b.top1).isSome,_,_,_,zTw _ _,(rF3 trivial),rfl,trivial⟩,rfl,trivial,Cv.cnd.mk (λd=>Cv.cnd.mk (λe=> ?_) (λe=>⟨(),?_⟩)) (λd=>⟨(),?_⟩)⟩
  ·obtain⟨o,ho⟩:=xBr.1 d;have e:o.side=1:=by rw[ho]at e;simpa using e
   have eu:i.b.untop 1=i.b.a.topF o.slot ax:=by
    have ht:pget i.b.at_ (i.b.topI 1)=ay o:=ho;rw[Book.untop,y6a c,ht];dsimp only;rw[y6a e]
   refine⟨⟨i.b.a,o.slot,ax⟩,by rw[ho];rfl,rfl,rfl,ha,λ_ _=>⟨(),?_⟩⟩;rw[eu];(repeat'(first|exact trivial|exact rfl|apply ap))
  ·obtain⟨o,ho⟩:=xBr.1 d;have e:¬o.side=1:=by rw[ho]at e;simpa using e
   have ht:pget i.b.at_ (i.b.topI 1)=ay o:=ho;rw[no (by rw[Book.untop,y6a c,ht];dsimp only;rw[y5x e])];(repeat'(first|exact trivial|exact rfl|apply ap))
  ·have ht:pget i.b.at_ (i.b.topI 1)=az:=by
    show pget i.b.at_ i.b.top1=az;simpa using d
   rw[no (by rw[Book.untop,y6a c,ht])];(repeat'(first|exact trivial|exact rfl|apply ap))
 ·have c:¬i.b.hasF 1=aw:=by rw[show i.b.hasF 1=i.b.has1 from rfl,c];decide
  rw[no (by rw[Book.untop,y5x c])];(repeat'(first|exact trivial|exact rfl|apply ap))
def yLi:lead1C.ok Tryz.prog 203:=okw mixed (gokc z9s gok0) 0 (λ_=>[]) (λ_=>[]) [] Tryz.func203 yVm
def z0a {s price:Int} {l:List xK} (h:kP s l price=aw):∃r,l[zZ s l price]? =ay r:=by
 rw[kP]at h;split at h
 ·rename_i r hr;exact⟨r,hr⟩
 ·cases h
def yMn (i:BkP) (h:queue1C.cnd i):z6g i:=by
 obtain⟨⟨ha,_⟩,ha',h1,h2,h3⟩:i.b.fit:=h;have hle:=zDw 1 i.price i.b.buys;unfold z6g zN fE gX mQ mP vZ g7 uE qB xU dI;refine⟨i,rF7 (rF3 ⟨rfl,⟨⟨ha,oM⟩,oM,oM,oM⟩,λ_ _=> ?_⟩)⟩;simp only[y5z,yY,r9];refine Cv.cnd.mk (λc=> ?_) (λc=> ?_)
 ·obtain⟨r,hr⟩:=z0a c;have hlt:=(y6c.1 hr).1;have e:i.b.queueF 1 i.price=(i.b,r.queue):=by rw[Book.queueF,y6a (by rw[r9];exact c),r9,zT hr]
  rw[e];refine⟨⟨oM,oM⟩,r.queue,elA (by simpa using hr) (by simp[zB]) rfl,(),?_⟩
  (repeat'(first|exact trivial|exact rfl|apply ap))
 ·have e:i.b.queueF 1 i.price=({i.b with a:=i.b.newQ.2.2,buys:=i.b.ins 1 i.price,spare:=i.b.newQ.2.1},i.b.newQ.1):=by
   rw[Book.queueF,y5x (by rw[r9,c];decide),y6a rfl]
  have hins:aa zB (i.b.ins 1 i.price)=ab (zZ 1 i.b.buys i.price) (aa zB i.b.buys)++zB ⟨i.price,i.b.newQ.1⟩::ac (zZ 1 i.b.buys i.price) (aa zB i.b.buys):=by
   rw[Book.ins,r9,y6i,y6m,xAj,xBk]
  rw[e];refine zI (λd=> ?_) (λd=> ?_)
  ·have w:ae.wrap ((i.b.spare.length:Int)-1)=((i.b.spare.length-1:Nat):Int):=by rw[w64 (by omega)];omega
   rw[w];simp only[y6r];obtain⟨q,hq⟩:=yC (l:=i.b.spare) (i:=i.b.spare.length-1) oM;have eq:i.b.newQ=(q,i.b.spare.take (i.b.spare.length-1),i.b.a):=by rw[Book.newQ,y5x (by omega),zT hq]
   rw[eq]at hins ⊢;refine⟨⟨oM,oM⟩,q,elI hq,⟨oM,oM⟩,trivial,⟨i.b.buys.map zB,zB ⟨i.price,q⟩,zZ 1 i.b.buys i.price⟩,rfl,rfl,rfl,⟨by rw[y5z];exact hle,by rw[y5z];omega⟩,λ_ _=>⟨(),?_⟩⟩;have hs:iE (i.b.spare.take (i.b.spare.length-1))=(iE i.b.spare).take (i.b.spare.length-1):=by simp only[iE,xAj]
   exact kp
  ·have eq:i.b.newQ=((i.b.a.queues.length:Int),i.b.spare,i.b.a.openQ):=by rw[Book.newQ,y6a (by omega)]
   rw[eq]at hins ⊢;refine⟨i.b.a,rfl,oM,λ_ _=>⟨trivial,⟨i.b.buys.map zB,zB ⟨i.price,i.b.a.queues.length⟩,zZ 1 i.b.buys i.price⟩,rfl,rfl,rfl,⟨by rw[y5z];exact hle,by rw[y5z];omega⟩,λ_ _=>⟨(),?_⟩⟩⟩
   exact kp
def zHa:vT Tryz.prog 241=ay (255,2,16,#[.int .i64 0,.int .i64 0]):=by kernel_rfl
def z7h:insRC.ok Tryz.prog 219:=
 insX_ok (tS:=241) (tI:=3) (fO:=224) (fR:=225) (z:= #[.int .i64 0,.int .i64 0]) mixed Tryz.func219 rfl (by kernel_rfl) (by kernel_rfl) (by kernel_rfl) (by kernel_rfl) zHa rfl Z8 Z8 (by kernel_rfl) Tryz.underlying3
  (yMg (tS:=241) (tB:=4) Tryz.func224 (by kernel_rfl) (by kernel_rfl) (by kernel_rfl) (by kernel_rfl) zHa) (λs sn sk i v vn vk w R=>by kernel_rfl)
def yDm:queue1C.ok Tryz.prog 205:=okw mixed (gokc zMy (gokc z0g (gokc z7h gok0))) 0 (λ_=>[]) (λ_=>[]) [] Tryz.func205 yMn
def yTm (i:BkP) (h:find2C.cnd i):yDv i:=by
 obtain⟨_,h1,h2,_⟩:i.b.small:=h;unfold yDv zGu sG v8 zCy xS dW sR dI;simp only[y5z,pY];refine⟨0,rfl,λj=>j<=i.b.sells.length/\∀k<j,∀r,i.b.sells[k]? =ay r->btr 2 r.price i.price=aw,λj=>i.b.sells.length-j,⟨oM,λk hk=>by omega⟩,?_⟩;rintro j ⟨h3,h4⟩;refine zI (λhj=> ?_) (λhj=> ?_)
 ·obtain⟨r,hr⟩:=yC (l:=i.b.sells) (i:=j) oM;refine⟨⟨oM,oM⟩,r.price,elA hr (by simp[zB]) rfl,⟨2,r.price,i.price⟩,rfl,rfl,rfl,trivial,λ_ _=> ?_⟩;dsimp only;refine Cv.cnd.mk (λe=>⟨j+1,by rw[w64 (by omega)];rfl,⟨oM,λk hk x hx=> ?_⟩,by(first|omega|(dsimp only;omega)),k0q⟩) (λe=>zI (λ_=> ?_) (λc=>absurd hj c))
  ·rcases y8h k j with hk'|hk'
   ·exact h4 k hk' x hx
   ·obtain rfl:k=j:=by omega
    rw[hr]at hx;cases hx;exact e
  ·have en:zZ 2 i.b.sells i.price=j:=nO h3 h4 λx hx=>by rw[hr]at hx;cases hx;exact e
   have eb:kP 2 i.b.sells i.price=(r.price==i.price):=by rw[kP,en,hr];exact(z1x _ _).symm
   refine⟨⟨oM,oM⟩,r.price,elA hr (by simp[zB]) rfl,(),by rw[en],eb,?_⟩
   (repeat'(first|exact trivial|exact rfl|apply ap))
 ·have en:zZ 2 i.b.sells i.price=j:=nO h3 h4 λx hx=>by have:=(y6c.1 hx).1;omega
  have eb:kP 2 i.b.sells i.price=ax:=by rw[kP,en,y7c (by omega)]
  refine zI (λc=>absurd c hj) (λ_=>⟨(),by rw[en],eb,?_⟩)
  (repeat'(first|exact trivial|exact rfl|apply ap))
def zOg:find2C.ok Tryz.prog 207:=okw mixed (gokc mM gok0) 0 (λ_=>[]) (λ_=>ySf) [] Tryz.func207 yTm
def yXi (i:LdI) (h:lead2C.cnd i):yKz i:=by
 obtain⟨⟨ha,_⟩,h1,h2,_⟩:i.b.small:=h;unfold yKz zCp zCn rG dR dI;have no (e:i.b.untop 2=i.b.a):af Arena 3 zG (i.b.untop 2)=zR i.b 1:=by rw[e];rfl
 refine Cv.cnd.mk (λc=> ?_) (λc=>⟨(),?_⟩)
 ·have c:i.b.hasF 2=aw:=c;refine⟨j7 _ _,(pget i.b.at_ i.b.top2).isSome,_,_,_,zTw _ _,⟨j7 _ _,(pget i.b.at_ i.b.top2).isSome,_,_,_,zTw _ _,(rF3 trivial),rfl,trivial⟩,rfl,trivial,Cv.cnd.mk (λd=>Cv.cnd.mk (λe=> ?_) (λe=>⟨(),?_⟩)) (λd=>⟨(),?_⟩)⟩
  ·obtain⟨o,ho⟩:=xBr.1 d;have e:o.side=2:=by rw[ho]at e;simpa using e
   have eu:i.b.untop 2=i.b.a.topF o.slot ax:=by
    have ht:pget i.b.at_ (i.b.topI 2)=ay o:=ho;rw[Book.untop,y6a c,ht];dsimp only;rw[y6a e]
   refine⟨⟨i.b.a,o.slot,ax⟩,by rw[ho];rfl,rfl,rfl,ha,λ_ _=>⟨(),?_⟩⟩;rw[eu];(repeat'(first|exact trivial|exact rfl|apply ap))
  ·obtain⟨o,ho⟩:=xBr.1 d;have e:¬o.side=2:=by rw[ho]at e;simpa using e
   have ht:pget i.b.at_ (i.b.topI 2)=ay o:=ho;rw[no (by rw[Book.untop,y6a c,ht];dsimp only;rw[y5x e])];(repeat'(first|exact trivial|exact rfl|apply ap))
  ·have ht:pget i.b.at_ (i.b.topI 2)=az:=by
    show pget i.b.at_ i.b.top2=az;simpa using d
   rw[no (by rw[Book.untop,y6a c,ht])];(repeat'(first|exact trivial|exact rfl|apply ap))
 ·have c:¬i.b.hasF 2=aw:=by rw[show i.b.hasF 2=i.b.has2 from rfl,c];decide
  rw[no (by rw[Book.untop,y5x c])];(repeat'(first|exact trivial|exact rfl|apply ap))
def yFy:lead2C.ok Tryz.prog 203:=okw mixed (gokc z9s gok0) 0 (λ_=>[]) (λ_=>[]) [] Tryz.func203 yXi
def yMf (i:BkP) (h:queue2C.cnd i):z8k i:=by
 obtain⟨⟨ha,_⟩,ha',h1,h2,h3⟩:i.b.fit:=h;have hle:=zDw 2 i.price i.b.sells;unfold z8k zO fG v8 fE gX mQ mP vZ qB xS dI;refine⟨i,rF7 (rF3 ⟨rfl,⟨⟨ha,oM⟩,oM,oM,oM⟩,λ_ _=> ?_⟩)⟩;simp only[y5z,yY,pY];refine Cv.cnd.mk (λc=> ?_) (λc=> ?_)
 ·obtain⟨r,hr⟩:=z0a c;have hlt:=(y6c.1 hr).1;have e:i.b.queueF 2 i.price=(i.b,r.queue):=by rw[Book.queueF,y6a (by rw[pY];exact c),pY,zT hr]
  rw[e];refine⟨⟨oM,oM⟩,r.queue,elA (by simpa using hr) (by simp[zB]) rfl,(),?_⟩
  (repeat'(first|exact trivial|exact rfl|apply ap))
 ·have e:i.b.queueF 2 i.price=({i.b with a:=i.b.newQ.2.2,sells:=i.b.ins 2 i.price,spare:=i.b.newQ.2.1},i.b.newQ.1):=by
   rw[Book.queueF,y5x (by rw[pY,c];decide),y5x (by decide)]
  have hins:aa zB (i.b.ins 2 i.price)=ab (zZ 2 i.b.sells i.price) (aa zB i.b.sells)++zB ⟨i.price,i.b.newQ.1⟩::ac (zZ 2 i.b.sells i.price) (aa zB i.b.sells):=by
   rw[Book.ins,pY,y6i,y6m,xAj,xBk]
  rw[e];refine zI (λd=> ?_) (λd=> ?_)
  ·have w:ae.wrap ((i.b.spare.length:Int)-1)=((i.b.spare.length-1:Nat):Int):=by rw[w64 (by omega)];omega
   rw[w];simp only[y6r];obtain⟨q,hq⟩:=yC (l:=i.b.spare) (i:=i.b.spare.length-1) oM;have eq:i.b.newQ=(q,i.b.spare.take (i.b.spare.length-1),i.b.a):=by rw[Book.newQ,y5x (by omega),zT hq]
   rw[eq]at hins ⊢;refine⟨⟨oM,oM⟩,q,elI hq,⟨oM,oM⟩,trivial,⟨i.b.sells.map zB,zB ⟨i.price,q⟩,zZ 2 i.b.sells i.price⟩,rfl,rfl,rfl,⟨by rw[y5z];exact hle,by rw[y5z];omega⟩,λ_ _=>⟨(),?_⟩⟩;have hs:iE (i.b.spare.take (i.b.spare.length-1))=(iE i.b.spare).take (i.b.spare.length-1):=by simp only[iE,xAj]
   exact kp
  ·have eq:i.b.newQ=((i.b.a.queues.length:Int),i.b.spare,i.b.a.openQ):=by rw[Book.newQ,y6a (by omega)]
   rw[eq]at hins ⊢;refine⟨i.b.a,rfl,oM,λ_ _=>⟨trivial,⟨i.b.sells.map zB,zB ⟨i.price,i.b.a.queues.length⟩,zZ 2 i.b.sells i.price⟩,rfl,rfl,rfl,⟨by rw[y5z];exact hle,by rw[y5z];omega⟩,λ_ _=>⟨(),?_⟩⟩⟩
   exact kp
def yCi:queue2C.ok Tryz.prog 205:=okw mixed (gokc zOg (gokc z0g (gokc z7h gok0))) 0 (λ_=>[]) (λ_=>[]) [] Tryz.func205 yMf
structure BaI where
 b:Book
 id:Int
 price:Int
 qty:Int
def Book.leads (b:Book) (s price:Int):Bool:=match b.rungs s with
 |[]=>aw
 |r::_=>btr s price r.price
def Book.led (b:Book) (id s price:Int):Book:=if b.leads s price=aw then b.leadF id s else b
def Book.stand (b:Book) (s id price qty:Int):Book:=
 let b2:=(b.led id s price).queueF s price
 let x:=b2.1.a.push b2.2 id qty (b.leads s price)
 {b2.1 with a:=x.1,at_:=sD id ⟨s,price,x.2.1⟩ b2.1.at_}
def Book.addF (b:Book) (s id price qty:Int):Book×Int:=
 if qty<1\/1000000<qty then(b,24)else if(pget b.at_ id).isSome=aw then(b,25)else if 250<=b.at_.length then(b,13)else(b.stand s id price qty,0)
def yIp (s:Int):Con:=con1 BaI (λi=>[.nm 0 0,zA i.id,zA s,zA i.price,zA i.qty]) (λi=>[yA i.b]) (λi=>i.b.fit) (λi=>zA (i.b.addF s i.id i.price i.qty).2) (λi=>[yA (i.b.addF s i.id i.price i.qty).1])
def yRp:List (Nat×SAnn):=[(44,bj 14)]
def badd1C:Con:=yIp 1
def badd2C:Con:=yIp 2
structure BaJ where
 i:BaI
 s:Bool
def baddC:Con:=con1 BaJ (λj=>[.nm 0 0,zA j.i.id,zA (zC j.s),zA j.i.price,zA j.i.qty]) (λj=>[yA j.i.b]) (λj=>j.i.b.fit) (λj=>zA (j.i.b.addF (zC j.s) j.i.id j.i.price j.i.qty).2) (λj=>[yA (j.i.b.addF (zC j.s) j.i.id j.i.price j.i.qty).1])
structure SaI where
 s:MSt
 inst:Int
 id:Int
 sd:Bool
 price:Int
 qty:Int
def MSt.bookAt (s:MSt) (n:Int):Book:=s.books.getD n.toNat book0
def MSt.addF (i:SaI):MSt×Int:=
 if i.inst<0\/i.s.books.length<=i.inst then(i.s,20)else if(zDm i.s.wh i.id).isSome=aw then(i.s,25)else if 250<=i.s.wh.length then(i.s,13)else if i.s.p.price i.inst i.price≠0 then(i.s,i.s.p.price i.inst i.price)
 else
  let x:=(i.s.bookAt i.inst).addF (zC i.sd) i.id i.price i.qty
  ({i.s with books:=i.s.books.set i.inst.toNat x.1,wh:=if x.2=0 then z1g i.id i.inst i.s.wh else i.s.wh},x.2)
@[reducible] def MSt.fit (s:MSt):Prop:=s.p.small/\s.books.length<=1000000/\∀b∈s.books,b.fit
def saddC:Con:=con1 SaI (λi=>[.nm 0 0,zA i.inst,zA i.id,zA (zC i.sd),zA i.price,zA i.qty]) (λi=>[zD i.s]) (λi=>i.s.fit) (λi=>zA (MSt.addF i).2) (λi=>[zD (MSt.addF i).1])
def sP (a:BkP):Prop:=(a.b.a.slots.length<=1000000/\(a.b.a.free≠0->∃(b:Slot),b∈a.b.a.slots/\b.used=ax)/\∀(b:cQ),b∈a.b.a.queues->b.last=(-1)\/0<=b.last/\b.last<(↑a.b.a.slots.length:Int))/\a.b.a.queues.length<=100000/\a.b.buys.length<=100000/\a.b.sells.length<=100000/\a.b.spare.length<=100000
def sZ (a:PuI):Prop:=a.a.slots.length<=1000000/\(a.a.free≠0->∃(b:Slot),b∈a.a.slots/\b.used=ax)/\∀(b:cQ),b∈a.a.queues->b.last=(-1)\/0<=b.last/\b.last<(↑a.a.slots.length:Int)
def yO (a:BaI):=(a.b.addF 1 a.id a.price a.qty)
def zHe (a:BkP) (b:BaI) (c:Bool):Prop:=(sP a)/\∀(d:Unit),True->True/\∃(e:PuI),e.n=(zN a).snd/\e.id=b.id/\e.qty=b.qty/\e.top=c/\af Arena 3 zG e.a=af Arena 3 zG (zN a).fst.a/\(sZ e)/\∀(f:Unit),True->(∀(g:be×List D),g∈atE (zN a).fst.at_->like (ba ae b.id) g.fst=aw)/\∃(g:Unit),(yO b).snd=0/\(yO b).fst.top1=(zN a).fst.top1/\(yO b).fst.top2=(zN a).fst.top2/\(yO b).fst.has1=(zN a).fst.has1/\(yO b).fst.has2=(zN a).fst.has2/\af Arena 3 zG (yO b).fst.a=af Arena 3 zG (yJ e).fst/\aa zB (yO b).fst.buys=aa zB (zN a).fst.buys/\aa zB (yO b).fst.sells=aa zB (zN a).fst.sells/\atE (yO b).fst.at_=uH (ba ae b.id) [dI 1,dI b.price,dI ((yJ e).snd.fst)] (atE (zN a).fst.at_)/\iE (yO b).fst.spare=iE (zN a).fst.spare/\True
def zBb (a:Bool->Prop) (b:Bool) (c:Int) (d:Int) (e:Int) (f:BaI):Prop:=a b/\dh (aj [V.d (dI c),V.d (dI d),V.d (dI e)] 238)/\dh (aj [V.nm 1 0,V.own 2,V.own 3,V.mp 4,V.d (dI f.b.top1),V.d (dI f.b.top2),V.own 5,V.d (D.v (.bool f.b.has1)),V.d (D.v (.bool f.b.has2))] (245:bz))/\dh (af Arena 3 zG f.b.a)/\dh (ag 255 2 (aa zB f.b.buys))/\dh (ag 255 2 (aa zB f.b.sells))/\dh (ao (atE f.b.at_))/\dh (ag 3 1 (iE f.b.spare))
def l7 (a:I3') (b:BaI) (c:Int) (d:Bool->Prop) (e:Int) (f:Int) (g:Int):Prop:=a.x=b.price/\a.y=c/\True/\∀(h:Unit),True->∃(j:Bool),j=btr a.side a.x a.y/\zBb d j e f g b
def lO (a:Bool->Prop) (b:Int) (c:Int) (d:Int) (e:BaI):Prop:=∃(f:Bool),f=aw/\zBb a f b c d e
def pS (a:BaI):Prop:=(yO a).fst.top1=a.b.top1/\(yO a).fst.top2=a.b.top2/\(yO a).fst.has1=a.b.has1/\(yO a).fst.has2=a.b.has2/\af Arena 3 zG (yO a).fst.a=af Arena 3 zG a.b.a/\aa zB (yO a).fst.buys=aa zB a.b.buys/\aa zB (yO a).fst.sells=aa zB a.b.sells/\atE (yO a).fst.at_=atE a.b.at_/\iE (yO a).fst.spare=iE a.b.spare/\True
def zGy (a:BaI):Prop:=∃(b:Unit),(yO a).snd=24/\pS a
def sS (a:BaI) (b:Int) (c:Int) (d:Int) (e:Bool):Prop:=kC (ba ae a.id) (atE a.b.at_)=ay [dI b,dI c,dI d]/\e=aw\/kC (ba ae a.id) (atE a.b.at_)=az/\[dI b,dI c,dI d]=[dI 0,dI 0,dI 0]/\e=ax
def rF (a:LdI):Prop:=(a.b.a.slots.length<=1000000/\a.b.a.queues.length<=1000000)/\a.b.buys.length<=1000000/\a.b.sells.length<=1000000/\a.b.spare.length<=1000000
def kA (a:Int):=(!(decide (a=1)||decide (a=2)))
def yKo (i:BaI):Prop:=
 (∀(a:be×List D),a∈atE i.b.at_->like (ba ae i.id) a.fst=aw)/\∃(a:Bool),∃(b:Int),∃(c:Int),∃(d:Int),(sS i b c d a)/\∃(e:Int),e=1/\True/\∀(f:Unit),True->cnd (kA e) (∃(g:Unit),(yO i).snd=21/\pS i) (cnd (decide (i.qty<1)) (zGy i) (cnd (decide (i.qty>1000000)) (zGy i) (cnd a (∃(g:Unit),(yO i).snd=25/\pS i) (cnd (decide ((↑(atE i.b.at_).length:Int)>=250)) (∃(g:Unit),(yO i).snd=13/\pS i) (∃(g:Bool),∃(h:Bool->Prop),cnd ((↑(aa zB i.b.buys).length:Int)==0) (lO h b c d i) (((0:Int)<=(0:Int)/\0<(↑(aa zB i.b.buys).length:Int))/\∃(j:Int),zE (aa zB i.b.buys) (Int.toNat 0) 0 1=ay [dI j]/\∃(k:I3'),k.side=1/\l7 k i j h b c d)/\∀(j:Bool),h j->cnd j (∃(k:LdI),k.id=i.id/\dh ((1:Int))/\k.b.top1=i.b.top1/\k.b.top2=i.b.top2/\k.b.has1=i.b.has1/\k.b.has2=i.b.has2/\af Arena 3 zG k.b.a=af Arena 3 zG i.b.a/\aa zB k.b.buys=aa zB i.b.buys/\aa zB k.b.sells=aa zB i.b.sells/\atE k.b.at_=atE i.b.at_/\iE k.b.spare=iE i.b.spare/\(rF k)/\∀(l:Unit),True->∃(m:BkP),dh ((1:Int))/\m.price=i.price/\m.b.top1=k.id/\m.b.top2=k.b.top2/\m.b.has1=aw/\m.b.has2=k.b.has2/\af Arena 3 zG m.b.a=af Arena 3 zG (k.b.untop 1)/\aa zB m.b.buys=aa zB k.b.buys/\aa zB m.b.sells=aa zB k.b.sells/\atE m.b.at_=atE k.b.at_/\iE m.b.spare=iE k.b.spare/\zHe m i j) (∃(k:BkP),dh ((1:Int))/\k.price=i.price/\k.b.top1=i.b.top1/\k.b.top2=i.b.top2/\k.b.has1=i.b.has1/\k.b.has2=i.b.has2/\af Arena 3 zG k.b.a=af Arena 3 zG i.b.a/\aa zB k.b.buys=aa zB i.b.buys/\aa zB k.b.sells=aa zB i.b.sells/\atE k.b.at_=atE i.b.at_/\iE k.b.spare=iE i.b.spare/\zHe k i j))))))
def yN (a:BaI):=(a.b.addF 2 a.id a.price a.qty)
def zHu (a:BkP) (b:BaI) (c:Bool):Prop:=(sP a)/\∀(d:Unit),True->True/\∃(e:PuI),e.n=(zO a).snd/\e.id=b.id/\e.qty=b.qty/\e.top=c/\af Arena 3 zG e.a=af Arena 3 zG (zO a).fst.a/\(sZ e)/\∀(f:Unit),True->(∀(g:be×List D),g∈atE (zO a).fst.at_->like (ba ae b.id) g.fst=aw)/\∃(g:Unit),(yN b).snd=0/\(yN b).fst.top1=(zO a).fst.top1/\(yN b).fst.top2=(zO a).fst.top2/\(yN b).fst.has1=(zO a).fst.has1/\(yN b).fst.has2=(zO a).fst.has2/\af Arena 3 zG (yN b).fst.a=af Arena 3 zG (yJ e).fst/\aa zB (yN b).fst.buys=aa zB (zO a).fst.buys/\aa zB (yN b).fst.sells=aa zB (zO a).fst.sells/\atE (yN b).fst.at_=uH (ba ae b.id) [dI 2,dI b.price,dI ((yJ e).snd.fst)] (atE (zO a).fst.at_)/\iE (yN b).fst.spare=iE (zO a).fst.spare/\True
def nN (a:BaI):Prop:=(yN a).fst.top1=a.b.top1/\(yN a).fst.top2=a.b.top2/\(yN a).fst.has1=a.b.has1/\(yN a).fst.has2=a.b.has2/\af Arena 3 zG (yN a).fst.a=af Arena 3 zG a.b.a/\aa zB (yN a).fst.buys=aa zB a.b.buys/\aa zB (yN a).fst.sells=aa zB a.b.sells/\atE (yN a).fst.at_=atE a.b.at_/\iE (yN a).fst.spare=iE a.b.spare/\True
def zJf (a:BaI):Prop:=∃(b:Unit),(yN a).snd=24/\nN a
def yIr (i:BaI):Prop:=
 (∀(a:be×List D),a∈atE i.b.at_->like (ba ae i.id) a.fst=aw)/\∃(a:Bool),∃(b:Int),∃(c:Int),∃(d:Int),(sS i b c d a)/\∃(e:Int),e=2/\True/\∀(f:Unit),True->cnd (kA e) (∃(g:Unit),(yN i).snd=21/\nN i) (cnd (decide (i.qty<1)) (zJf i) (cnd (decide (i.qty>1000000)) (zJf i) (cnd a (∃(g:Unit),(yN i).snd=25/\nN i) (cnd (decide ((↑(atE i.b.at_).length:Int)>=250)) (∃(g:Unit),(yN i).snd=13/\nN i) (∃(g:Bool),∃(h:Bool->Prop),cnd ((↑(aa zB i.b.sells).length:Int)==0) (lO h b c d i) (((0:Int)<=(0:Int)/\0<(↑(aa zB i.b.sells).length:Int))/\∃(j:Int),zE (aa zB i.b.sells) (Int.toNat 0) 0 1=ay [dI j]/\∃(k:I3'),k.side=2/\l7 k i j h b c d)/\∀(j:Bool),h j->cnd j (∃(k:LdI),k.id=i.id/\dh ((2:Int))/\k.b.top1=i.b.top1/\k.b.top2=i.b.top2/\k.b.has1=i.b.has1/\k.b.has2=i.b.has2/\af Arena 3 zG k.b.a=af Arena 3 zG i.b.a/\aa zB k.b.buys=aa zB i.b.buys/\aa zB k.b.sells=aa zB i.b.sells/\atE k.b.at_=atE i.b.at_/\iE k.b.spare=iE i.b.spare/\(rF k)/\∀(l:Unit),True->∃(m:BkP),dh ((2:Int))/\m.price=i.price/\m.b.top1=k.b.top1/\m.b.top2=k.id/\m.b.has1=k.b.has1/\m.b.has2=aw/\af Arena 3 zG m.b.a=af Arena 3 zG (k.b.untop 2)/\aa zB m.b.buys=aa zB k.b.buys/\aa zB m.b.sells=aa zB k.b.sells/\atE m.b.at_=atE k.b.at_/\iE m.b.spare=iE k.b.spare/\zHu m i j) (∃(k:BkP),dh ((2:Int))/\k.price=i.price/\k.b.top1=i.b.top1/\k.b.top2=i.b.top2/\k.b.has1=i.b.has1/\k.b.has2=i.b.has2/\af Arena 3 zG k.b.a=af Arena 3 zG i.b.a/\aa zB k.b.buys=aa zB i.b.buys/\aa zB k.b.sells=aa zB i.b.sells/\atE k.b.at_=atE i.b.at_/\iE k.b.spare=iE i.b.spare/\zHu k i j))))))
def zHx (a:SaI):Prop:=am 1 (iE (MSt.addF a).fst.p.months)=am 1 (iE a.s.p.months)/\am 1 (iE (MSt.addF a).fst.p.settle)=am 1 (iE a.s.p.settle)/\True
def zJk (a:SaI):Prop:=yR (MSt.addF a).fst.wh=yR a.s.wh/\zHx a
def eA (a:SaI):Prop:=sb (MSt.addF a).fst.p.code=sb a.s.p.code/\(MSt.addF a).fst.p.tick=a.s.p.tick/\(MSt.addF a).fst.p.low=a.s.p.low/\(MSt.addF a).fst.p.high=a.s.p.high/\(MSt.addF a).fst.p.wide=a.s.p.wide/\(MSt.addF a).fst.p.rule=a.s.p.rule/\(MSt.addF a).fst.p.top=a.s.p.top/\(MSt.addF a).fst.p.least=a.s.p.least/\(MSt.addF a).fst.p.part=a.s.p.part/\ak 197 Book 6 zR (MSt.addF a).fst.books az=ak 197 Book 6 zR a.s.books az/\zJk a
def zPy (a:SaI):Prop:=∃(b:Unit),(MSt.addF a).snd=20/\eA a
def pK (a:BaJ):=(a.i.b.addF (zC a.s) a.i.id a.i.price a.i.qty)
def ySm (i:SaI):Prop:=
 (∀(a:be×List D),a∈yR i.s.wh->like (ba ae i.id) a.fst=aw)/\∃(a:Bool),∃(b:Int),(kC (ba ae i.id) (yR i.s.wh)=ay [dI b]/\a=aw\/kC (ba ae i.id) (yR i.s.wh)=az/\[dI b]=[dI 0]/\a=ax)/\cnd (decide (i.inst>=0)) (cnd (!decide (i.inst<(↑i.s.books.length:Int))) (zPy i) (cnd a (∃(c:Unit),(MSt.addF i).snd=25/\eA i) (cnd (decide ((↑(yR i.s.wh).length:Int)>=250)) (∃(c:Unit),(MSt.addF i).snd=13/\eA i) (∃(c:tP),sb c.p.code=sb i.s.p.code/\iE c.p.months=iE i.s.p.months/\c.p.tick=i.s.p.tick/\c.p.low=i.s.p.low/\c.p.high=i.s.p.high/\c.p.wide=i.s.p.wide/\c.p.rule=i.s.p.rule/\c.p.top=i.s.p.top/\c.p.least=i.s.p.least/\c.p.part=i.s.p.part/\iE c.p.settle=iE i.s.p.settle/\c.a=i.inst/\c.b=i.price/\(qA c)/\∀(d:Unit),True->cnd (c.p.price c.a c.b !=0) (∃(e:Unit),(MSt.addF i).snd=c.p.price c.a c.b/\eA i) ((0<=i.inst/\i.inst<(↑i.s.books.length:Int))/\i.inst.toNat<i.s.books.length/\∃(e:Book),i.s.books[i.inst.toNat]?=ay e/\∃(f:BaJ),f.i.id=i.id/\zC f.s=zC i.sd/\f.i.price=i.price/\f.i.qty=i.qty/\yA f.i.b=yA e/\((f.i.b.a.slots.length<=1000000/\(f.i.b.a.free≠0->∃(g:Slot),g∈f.i.b.a.slots/\g.used=ax)/\∀(g:cQ),g∈f.i.b.a.queues->g.last=(-1)\/0<=g.last/\g.last<(↑f.i.b.a.slots.length:Int))/\f.i.b.a.queues.length<=100000/\f.i.b.buys.length<=100000/\f.i.b.sells.length<=100000/\f.i.b.spare.length<=100000)/\∀(g:Unit),True->∃(h:Book),yA (pK f).fst=yA h/\dh i.inst.toNat/\i.inst.toNat<i.s.books.length/\cnd ((pK f).snd==0) ((∀(j:be×List D),j∈yR i.s.wh->like (ba ae i.id) j.fst=aw)/\∃(j:Unit),(MSt.addF i).snd=(pK f).snd/\sb (MSt.addF i).fst.p.code=sb i.s.p.code/\(MSt.addF i).fst.p.tick=i.s.p.tick/\(MSt.addF i).fst.p.low=i.s.p.low/\(MSt.addF i).fst.p.high=i.s.p.high/\(MSt.addF i).fst.p.wide=i.s.p.wide/\(MSt.addF i).fst.p.rule=i.s.p.rule/\(MSt.addF i).fst.p.top=i.s.p.top/\(MSt.addF i).fst.p.least=i.s.p.least/\(MSt.addF i).fst.p.part=i.s.p.part/\ak 197 Book 6 zR (MSt.addF i).fst.books az=ak 197 Book 6 zR (i.s.books.set i.inst.toNat h) az/\yR (MSt.addF i).fst.wh=uH (ba ae i.id) [dI i.inst] (yR i.s.wh)/\zHx i) (∃(j:Unit),(MSt.addF i).snd=(pK f).snd/\sb (MSt.addF i).fst.p.code=sb i.s.p.code/\(MSt.addF i).fst.p.tick=i.s.p.tick/\(MSt.addF i).fst.p.low=i.s.p.low/\(MSt.addF i).fst.p.high=i.s.p.high/\(MSt.addF i).fst.p.wide=i.s.p.wide/\(MSt.addF i).fst.p.rule=i.s.p.rule/\(MSt.addF i).fst.p.top=i.s.p.top/\(MSt.addF i).fst.p.least=i.s.p.least/\(MSt.addF i).fst.p.part=i.s.p.part/\ak 197 Book 6 zR (MSt.addF i).fst.books az=ak 197 Book 6 zR (i.s.books.set i.inst.toNat h) az/\zJk i)))))) (zPy i)
end Sx
