/- Texts of ours. No condition. -/
import Derived.Laws.AppendOwn
import Derived.Lib.AppendZerosOnto
import Derived.Lib.Overlaps
import Derived.Test.YtaafldgiafcgfaaGreatD5
set_option linter.all false
open List renaming map->aa,take->ab,drop->ac
open Go.IntKind renaming i64->ae
open Sx.AObj renaming adt->af,own->ag,cells->aj,objs->ak,fro->am,map->ao
open And renaming intro->ap
open Go.Builtin renaming zeroCells->aq,copy_->ar,firstCells->au,append_->av
open Bool renaming true->aw,false->ax
open Option renaming some->ay,none->az
open Go.Value renaming int->ba
open Exists renaming intro->bc
open Go renaming Value->be,World->bg,Program->bo,Addr->bp,size_zeroCells->br,TypeId->bt
namespace Sx
set_option maxRecDepth 100000
open Go Cv Go.Proofs
def fD (l:List (Int×Int)) (k:Int):∀(p:be×List D),p∈yM l->like (ba ae k) p.1=aw:=λp hp=>yCb l k p hp
def zWo (k v:Int):∀l,vF (ba ae k) [D.v (.int .i64 v)] (yM l)=yM (zXj k v l)
 |[]=>rfl
 |(a,b)::l=>by
  have ih:=zWo k v l;show(bif (keq .i64 .i64 && decide (k=a))then _ else _::vF _ _ (yM l))=_;rw[ih,zXj];by_cases h:k=a
  ·subst h;simp[keq,yM]
  ·simp[h,yM]
def zVt (k:Int):∀l,lV (ba ae k) (yM l)=yM (z1z k l)
 |[]=>rfl
 |(a,b)::l=>by
  have ih:=zVt k l;show(bif (keq .i64 .i64 && decide (k=a))then yM l else _::lV _ (yM l))=_;rw[ih,z1z];by_cases h:k=a
  ·subst h;simp[keq]
  ·simp[h,yM]
def yQz (l:List (Int×Int)) (k:Int):qQ (ba ae k) (yM l)=ay [D.v (.int .i64 ((zBh l k).getD 0))]/\(zBh l k).isSome=aw\/qQ (ba ae k) (yM l)=az/\[D.v (.int .i64 ((zBh l k).getD 0))]=[D.v (.int .i64 0)]/\(zBh l k).isSome=ax:=by
 rw[mO];cases zBh l k with
 |none=>exact .inr ⟨rfl,rfl,rfl⟩
 |some v=>exact .inl ⟨rfl,rfl⟩
def zWk (a b:Int):(a==b)=decide (a=b):=by
 by_cases h:a=b
 ·subst h;simp
 ·simp[h]
def zHr:(three 1).check=0:=by decide+kernel
def zHv (n:Int):(three n).small:=⟨by simp[three],by simp[three],by simp[three]⟩
open Go Go.RowKit Cv
def eE {P:bo} {dT sT ty e sz by_:Nat} {z:Array be} (hi:wS P dT=ay (e,sz,by_,z)) {w:bg} {g o dLen dCap b so sLen sCap n:Nat} {cur src:List be} {T T':bt} {fr:Nat×Nat}
 (hg:w.heap[g]? =ay (.cells cur.toArray T (0,0))) (hs:w.heap[b]? =ay (.cells src.toArray T' fr)) (hn:Nat.min sLen dLen=n) (h1:so+n*sz<=src.length) (h2:o+n*sz<=cur.length)
 (hone:∀v∈(src.drop so).take (n*sz),v.oneC=aw):
 uE P (ar #[dT,sT] ty #[.slice (ay ⟨g,o,az⟩) dLen dCap,.slice (ay ⟨b,so,az⟩) sLen sCap]) w (.int .i64 n) (World.setB w g (.cells (spl cur o ((src.drop so).take (n*sz))).toArray T (0,0))):=by
 obtain⟨i,zv,q1,q2,rfl,rfl,q5,rfl⟩:=qO hi;have hl:((src.drop so).take (n*i.size)).length=n*i.size:=by rw[y1q,y1w];omega
 have hst:=jF (P:=P) ((src.drop so).take (n*i.size)) 0 o cur w hg (by rw[hl];omega) hone;simp only[y5o]at hst;unfold uE ar;simp only[y2y,y3h,y2w,bind,pure,run_bind,Sem.bind,Sem.run,Cv.run_underlying q1,Cv.run_sizeOf q2,Builtin.lenOf,hn,au,uG hs h1,hst];rfl
def Hp.apart {k:Ko} {w:bg} {b c:Nat} {o o':Obj} {L:List HP} (H:Hp k w (pt b o::pt c o'::L)):b≠c:=by
 obtain⟨hk,hs,hh⟩:=H;cases hh with
 |cons ha hsub hd hr=>
  cases hr with
  |cons hb hsub2 hd2 hr2=>
   intro e;subst e;have:=hd _ y1f b;rw[show _=one b o from ha,show _=one b o' from hb]at this;simp[one]at this
def yTl (P:bo) (tS tI sz fO fR:Nat) (s:Option bp) (sn sk:Nat) (i:Int) (v:Option bp) (vn vk:Nat) (w:bg) (R:Ending->bg->Prop):Prop:=
slN s sn sk (ay i) az sz λa1 na1 ka1=>
cnd (((vn:Int):Int)==0) (
R (.returned (.slice s sn sk)) w) (
cnd ((i:Int)==(sn:Int)) (
∃(a2:Option bp) (na2 ka2:Nat),∃w3:bg,uE P (av #[tS,tS] tS #[.slice s sn sk,.slice v vn vk]) w (.slice a2 na2 ka2) w3/\
R (.returned (.slice a2 na2 ka2)) w3) (
cnd (decide ((ae.wrap ((sn:Int)+(vn:Int)):Int)>(sk:Int))) (
slN s sn sk az (ay i) sz λa4 na4 ka4=>
∃(a5:Option bp) (na5 ka5:Nat),∃w6:bg,uE P (av #[tS,tI] tS #[.slice a4 na4 ka4,.int .i64 (ae.wrap (ae.wrap ((sn:Int)+(vn:Int))-i))]) w (.slice a5 na5 ka5) w6/\
slN a5 na5 ka5 (ay i) az sz λa7 na7 ka7=>
∃x8:Int,∃w9:bg,uE P (ar #[tS,tS] tI #[.slice a7 na7 ka7,.slice v vn vk]) w6 (.int .i64 x8) w9/\
z3s w9 λw10=>
slN a5 na5 ka5 (ay (ae.wrap (i+(vn:Int)))) az sz λa11 na11 ka11=>
slN s sn sk (ay i) az sz λa12 na12 ka12=>
∃x13:Int,∃w14:bg,uE P (ar #[tS,tS] tI #[.slice a11 na11 ka11,.slice a12 na12 ka12]) w10 (.int .i64 x13) w14/\
R (.returned (.slice a5 na5 ka5)) w14) (
slN s sn sk az (ay (ae.wrap ((sn:Int)+(vn:Int)))) sz λa15 na15 ka15=>
slN a15 na15 ka15 (ay (ae.wrap (i+(vn:Int)))) az sz λa16 na16 ka16=>
∃c17:Bool,∃w18:bg,Cv.Ext P fO #[.slice v vn vk,.slice a16 na16 ka16] w (.bool c17) w18/\
cnd (!c17) (
z3s w18 λw19=>
slN a15 na15 ka15 (ay (ae.wrap (i+(vn:Int)))) az sz λa20 na20 ka20=>
slN a15 na15 ka15 (ay i) az sz λa21 na21 ka21=>
∃x22:Int,∃w23:bg,uE P (ar #[tS,tS] tI #[.slice a20 na20 ka20,.slice a21 na21 ka21]) w19 (.int .i64 x22) w23/\
slN a15 na15 ka15 (ay i) az sz λa24 na24 ka24=>
∃x25:Int,∃w26:bg,uE P (ar #[tS,tS] tI #[.slice a24 na24 ka24,.slice v vn vk]) w23 (.int .i64 x25) w26/\
R (.returned (.slice a15 na15 ka15)) w26) (
slN a15 na15 ka15 (ay (sn:Int)) az sz λa27 na27 ka27=>
∃x28:Int,∃w29:bg,uE P (ar #[tS,tS] tI #[.slice a27 na27 ka27,.slice v vn vk]) w18 (.int .i64 x28) w29/\
slN a15 na15 ka15 (ay i) az sz λa30 na30 ka30=>
Calls P fR #[.slice a30 na30 ka30,.int .i64 (vn:Int)] w29 λe32 w31=>e32= .returned (.tuple #[])/\
R (.returned (.slice a15 na15 ka15)) w31))))
def z9q {α:Type} {l m:Nat} {xs r ys:List α} (hl:l<=xs.length) (hy:ys.length=m) (hr:m<=r.length):
 ((xs++r).take (l+m)++xs.drop l++(xs++r).drop (l+m+(xs.drop l).length)).take l++ys++((xs++r).take (l+m)++xs.drop l++(xs++r).drop (l+m+(xs.drop l).length)).drop (l+ys.length)=(xs.take l++ys++xs.drop l)++r.drop m:=by
 have e1:(xs++r).drop (l+m+(xs.drop l).length)=r.drop m:=by
  rw[y1w,show l+m+(xs.length-l)=xs.length+m by omega,y5v];simp
 have e2:((xs++r).take (l+m)++xs.drop l++r.drop m).take l=xs.take l:=by
  rw[y1e,y2b (by rw[y1q,y0x];omega),List.take_take,y4u (by omega),y2b hl]
 have e3:((xs++r).take (l+m)++xs.drop l++r.drop m).drop (l+ys.length)=xs.drop l++r.drop m:=by
  have:((xs++r).take (l+m)).length=l+m:=by rw[y1q,y0x];omega
  rw[y1e,hy,y5v,this,y6g,y4r,y4j (by omega),y3k]
 rw[e1,e2,e3];simp
def zSj (A Z Y:List be):spl (A++Z) A.length Y=A++Y++Z.drop Y.length:=by
 simp only[spl];rw[y6u,y5v];simp
def zGi {b o n c i:Nat} (h:c≠i):(if c=i then(ay ⟨b,o,az⟩:Option bp)else(ay ⟨b,o,az⟩:Option bp).map (·.add n))=ay ⟨b,o+n,az⟩:=by
 rw[y0y h,y3b,wO]
def zRu (P:bo) (fO:Nat):Prop:=∀(w:bg) (va sb so la ca lb cb:Nat) (c c':Array be) (T T':bt),va≠sb->w.heap[va]?=ay (.cells c T (0,0))->w.heap[sb]?=ay (.cells c' T' (0,0))->c'.size≠0->
 Cv.Ext P fO #[.slice (ay ⟨va,0,az⟩) la ca,.slice (ay ⟨sb,so,az⟩) lb cb] w (.bool ax) w
def yLe {P : Program} {fO tS tB e sz by_ : Nat} {z : Array Value} {fn : Func} (hf : P.funcs[fO]? = some fn) (hname : (fn.name == "runtime.NumGoroutine") = false) (hb : fn.body.isNone = true) (hn : Extern.findNext fn = none) (he : Extern.find fn = some (Extern.SlicesOverlaps.overlaps #[tS, tS] #[tB]))
 (hi:wS P tS=ay (e,sz,by_,z)):zRu P fO:=by
 obtain⟨i,zv,q1,q2,rfl,rfl,q5,rfl⟩:=qO hi;intro w va sb so la ca lb cb c c' T T' hne h1 h2 h3;unfold Cv.Ext;rw[run_callFunc_extern hf hname hb hn he,Lib.run_overlaps_apart w tS tB e q1 i.size (λw=>Cv.run_sizeOf q2 w) ⟨va,0,az⟩ ⟨sb,so,az⟩ la ca lb cb hne T T' c.size c'.size (by simp[World.shape?,h1]) (by simp[World.shape?,h2]) h3 (by simp[World.frozen?,h1]) (by simp[World.frozen?,h1])];rfl
def yZx {P:bo} {tS tI e sz by_ fO fR:Nat} {z:Array be} (hi:wS P tS=ay (e,sz,by_,z)) (hz:z.size=sz) (hby:0<by_) (hsz:0<sz) (h2:zZt P tS=aw) (hti:P.underlying tI=ay (.int .i64)) (hov:zRu P fO)
 {k:Ko} {w:bg} {L:List HP} {s v:Option bp} {sn sk vn vk i:Nat} {xs ys:List be} (H:Hp k w (slO e sz s sn sk xs::slO e sz v vn vk ys::L)) (h1:∀u∈xs,u.oneC=aw) (hy:∀u∈ys,u.oneC=aw) (hin:i<=sn) (hv:0<vn)
 (hb:(sn+vn)*by_<=140737488355328):
 yTl P tS tI sz fO fR s sn sk i v vn vk w λen w'=>∃a kk,en= .returned (.slice a (sn+vn) kk)/\Hp k w' (slO e sz a (sn+vn) kk (xs.take (i*sz)++ys++xs.drop (i*sz))::slO e sz v vn vk ys::L):=by
 obtain⟨hxl,hnk⟩:=H.len;obtain⟨hyl,hvk⟩:=H.swap.len;have hnm:sn+vn<=140737488355328:=y3u (Nat.le_mul_of_pos_right _ hby) hb;have w1:ae.wrap ((sn:Int)+(vn:Int))=((sn+vn:Nat):Int):=by rw[Cv.wrap_i64 (by omega) (by omega)];simp
 have w2:ae.wrap ((i:Int)+(vn:Int))=((i+vn:Nat):Int):=by rw[Cv.wrap_i64 (by omega) (by omega)];simp
 have w3:ae.wrap (((sn+vn:Nat):Int)-(i:Int))=((sn+vn-i:Nat):Int):=by rw[Cv.wrap_i64 (by omega) (by omega)];omega
 have hle:i*sz<=xs.length:=by rw[hxl];exact y2k _ hin
 have htl:(xs.take (i*sz)).length=i*sz:=by rw[y1q];omega
 have hdl:(xs.drop (i*sz)).length=(sn-i)*sz:=by rw[y1w,hxl,Nat.sub_mul]
 have hsum:(i+vn)*sz=i*sz+vn*sz:=y3y _ _ _;have hsum2:(sn+vn)*sz=i*sz+vn*sz+(sn-i)*sz:=by rw[<- y3y,<- y3y];congr 1;omega
 have hfin:(xs.take (i*sz)++ys++xs.drop (i*sz)).length=(sn+vn)*sz:=by
  rw[y0x,y0x,htl,hyl,hdl,hsum2]
 unfold yTl;simp only[slN,w1,w2,w3,y1o];refine⟨⟨oM,oM,hnk⟩,Cv.cnd.mk (λc=>absurd c (by simp;omega)) λ_=>Cv.cnd.mk (λc=> ?_) λc=>Cv.cnd.mk (λhc=> ?_) λhc=> ?_⟩
 ·have c:i=sn:=by have:(i:Int)=(sn:Int):=by simpa using c
                  omega
  subst c;obtain⟨a',c',w',r1,r2⟩:=H.append (rt:=tS) hi h2 (x:= .slice v vn vk) (m:=vn) (ys:=ys) (.inl ⟨v,vk,rfl,H.swap.satR⟩) hy hz hby hb;refine⟨a',_,c',w',r1,a',c',rfl,?_⟩;rw[y1k (by omega),y4j (by omega),y1t];exact r2
 ·have c:i<sn:=by have:¬(i:Int)=(sn:Int):=by simpa using c
                  omega
  have hc:sk<sn+vn:=by have:=y1y hc;omega
  obtain⟨inf,zv,q1,q2,q3,q4,q5,q6⟩:=qO hi;subst q3 q4 q6;rcases H.slcases with⟨_,e0,_⟩|⟨b,r,rfl,g1,g2,g3,H0⟩
  ·omega
  rcases H0.swap.slcases with⟨_,e0,_⟩|⟨vb,rv,rfl,g4,g5,g6,H1⟩
  ·omega
  have hold:(au inf.size i (.slice (ay ⟨b,0,az⟩) i sk)).run P w.drew= .ok (xs.take (i*inf.size)).toArray w.drew:=by
   have hbk:=(H1.drew).swap.get;have:=uG (P:=P) (o:=0) (n:=i*inf.size) hbk (by rw[y0x];omega);unfold au;rw[this,y4r,y2b hle]
  have hfit2:=zKr (need:=sn+vn) (cap:=sk) oM;have hfit3:=y2k inf.bytes hfit2;have e2:2*(sn+vn)*inf.bytes=2*((sn+vn)*inf.bytes):=by rw[Nat.mul_assoc]
  have hkb:(sn+vn-i)*inf.bytes<=(sn+vn)*inf.bytes:=y2k _ oM;have hgr:=Lib.run_append_grow_zeros (P:=P) w tS tI tS e inf zv .i64 .i64 q1 hti q2 q5 (ay ⟨b,0,az⟩) i sk (xs.take (i*inf.size)) hold (sn+vn-i) oM hsz oM oM oM (by rw[show i+(sn+vn-i)=sn+vn by omega];omega);rw[show i+(sn+vn-i)=sn+vn by omega]at hgr;have hG:sn+vn<=grownCap w (sn+vn) sk e:=grownCap_ge w (sn+vn) sk e;generalize grownCap w (sn+vn) sk e=G at hgr hG;have harr:(xs.take (i*inf.size)).toArray++aq zv.cells (sn+vn-i)++aq zv.cells (G-(sn+vn))=(xs.take (i*inf.size)++((aq zv.cells (sn+vn-i)).toList++(aq zv.cells (G-(sn+vn))).toList)).toArray:=by
   apply Array.ext';simp
  rw[harr]at hgr;have hZl:((aq zv.cells (sn+vn-i)).toList++(aq zv.cells (G-(sn+vn))).toList).length=(sn+vn-i)*inf.size+(G-(sn+vn))*inf.size:=by
   rw[y0x,y4t,y4t,br,br,hz]
  generalize (aq zv.cells (sn+vn-i)).toList++(aq zv.cells (G-(sn+vn))).toList=Z at hgr hZl;have hZ2:(sn+vn-i)*inf.size=vn*inf.size+(sn-i)*inf.size:=by rw[<- y3y];congr 1;omega
  have H2:=(H1.drew).new (.cells (xs.take (i*inf.size)++Z).toArray e);have hB:w.drew.heap.size=w.heap.size:=rfl;rw[hB]at H2;have hc1:=eE (P:=P) (sT:=tS) (ty:=tI) hi (g:=w.heap.size) (o:=0+i*inf.size) (dLen:=sn+vn-i) (dCap:=G-i) (b:=vb) (so:=0) (sLen:=vn) (sCap:=vk) (n:=vn) H2.get H2.swap.get (y4u oM) (by rw[y0x];omega) (by rw[y0x,htl,hZl];omega) (by
   rw[y4r,y2b (by omega),y1k (by omega)];exact hy)
  rw[y4r,y2b (by omega),y1k (show ys.length<=vn*inf.size by omega),y1x]at hc1;have es1:spl (xs.take (i*inf.size)++Z) (i*inf.size) ys=xs.take (i*inf.size)++ys++Z.drop ys.length:=by
   have:=zSj (xs.take (i*inf.size)) Z ys;rwa [htl]at this
  rw[es1]at hc1;have H3:=(H2.upd (.cells (xs.take (i*inf.size)++ys++Z.drop ys.length).toArray e)).drew;have hg4:(xs++r).drop (i*inf.size)=xs.drop (i*inf.size)++r:=y3n hle;have hc2:=eE (P:=P) (sT:=tS) (ty:=tI) hi (g:=w.heap.size) (o:=0+(i+vn)*inf.size) (dLen:=sn+vn-(i+vn)) (dCap:=G-(i+vn)) (b:=b) (so:=0+i*inf.size) (sLen:=sn-i) (sCap:=sk-i) (n:=sn-i) H3.get H3.swap.drop.swap.get (y4u oM) (by rw[y0x,hxl,y1x,<- y3y];exact y3u (y2k _ oM) (Nat.le_add_right _ _)) (by
   rw[y0x,y0x,htl,hyl,y1w,hZl];omega) (by
   rw[y1x,hg4,y2b (by omega),y1k (by omega)];exactλu hu=>h1 u (y4o hu))
  rw[y1x,y1x,hg4,y2b (by omega),y1k (show(xs.drop (i*inf.size)).length<=(sn-i)*inf.size by omega)]at hc2;have es2:spl (xs.take (i*inf.size)++ys++Z.drop ys.length) ((i+vn)*inf.size) (xs.drop (i*inf.size))=xs.take (i*inf.size)++ys++xs.drop (i*inf.size)++(Z.drop ys.length).drop (xs.drop (i*inf.size)).length:=by
   have:=zSj (xs.take (i*inf.size)++ys) (Z.drop ys.length) (xs.drop (i*inf.size));rwa [show(xs.take (i*inf.size)++ys).length=(i+vn)*inf.size by rw[y0x,htl,hyl,hsum]]at this
  rw[es2]at hc2;refine⟨⟨oM,oM⟩,_,_,_,_,hgr,?_⟩;rw[zGi (show G≠i by omega),y1x];refine⟨⟨oM,oM,hG⟩,_,_,hc1,?_⟩;rintro _ rfl;rw[zGi (show G≠i+vn by omega),zGi (show sk≠i by omega),y1x,y1x];refine⟨⟨oM,oM,hG⟩,⟨oM,oM,hnk⟩,_,_,hc2,_,_,rfl,?_⟩;have H4:=H3.upd (.cells (xs.take (i*inf.size)++ys++xs.drop (i*inf.size)++(Z.drop ys.length).drop (xs.drop (i*inf.size)).length).toArray e);have H5:=H4.slmk (n:=sn+vn) (c:=G) (sz:=inf.size) hfin (by
   rw[y0x,hfin,y1w,y1w,hZl,hyl,hdl];have:G*inf.size=(sn+vn)*inf.size+(G-(sn+vn))*inf.size:=by rw[<- y3y];congr 1;omega
   omega) hG
  have H6:=H5.swap.slmk (n:=vn) (c:=vk) (sz:=inf.size) g4 g5 g6;exact(H6.swap.perm (List.Perm.trans ((List.Perm.swap _ _ _).cons _) (List.Perm.swap _ _ _))).drop
 ·have c:i<sn:=by have:¬(i:Int)=(sn:Int):=by simpa using c
                  omega
  have hc:sn+vn<=sk:=by have:=y5j hc;omega
  rcases H.slcases with⟨_,e0,_⟩|⟨b,r,rfl,g1,g2,g3,H0⟩
  ·omega
  rcases H0.swap.slcases with⟨_,e0,_⟩|⟨vb,rv,rfl,g4,g5,g6,H1⟩
  ·omega
  have hrl:vn*sz<=r.length:=by
   have e1:(sn+vn)*sz<=sk*sz:=y2k _ hc;rw[y0x,g1]at g2;rw[y3y]at e1;omega
  have H2:=H1.swap;have hne:vb≠b:=Hp.apart H1;have hg4:(xs++r).drop (i*sz)=xs.drop (i*sz)++r:=y3n hle;have hex:=hov w vb b (0+(i+vn)*sz) vn vk (sn+vn-(i+vn)) (sk-(i+vn)) (ys++rv).toArray (xs++r).toArray e e hne H1.get H2.get (by
   rw[y5b,y0x,g1];have:=Nat.mul_pos (show 0<sn by omega) hsz;omega)
  have H3:=H2.drew;have hc1:=eE (P:=P) (sT:=tS) (ty:=tI) hi (g:=b) (o:=0+(i+vn)*sz) (dLen:=sn+vn-(i+vn)) (dCap:=sk-(i+vn)) (b:=b) (so:=0+i*sz) (sLen:=sn+vn-i) (sCap:=sk-i) (n:=sn-i) H3.get H3.get (by rw[show sn+vn-(i+vn)=sn-i by omega];exact Nat.min_eq_right oM) (by
   rw[y0x,g1,y1x,<- y3y];exact y3u (y2k _ oM) (Nat.le_add_right _ _)) (by
   rw[y0x,g1,y1x,<- y3y,show i+vn+(sn-i)=sn+vn by omega,y3y];omega) (by
   rw[y1x,hg4,y2b (by omega),y1k (by omega)];exactλu hu=>h1 u (y4o hu))
  rw[y1x,y1x,hg4,y2b (by omega),y1k (show(xs.drop (i*sz)).length<=(sn-i)*sz by omega)]at hc1;have H4:=H3.upd (.cells (spl (xs++r) ((i+vn)*sz) (xs.drop (i*sz))).toArray e);have hcl:(spl (xs++r) ((i+vn)*sz) (xs.drop (i*sz))).length=(xs++r).length:=by
   simp only[spl,y0x,y1q,hdl];rw[y1w,y0x,g1,hsum];have:sn*sz=i*sz+(sn-i)*sz:=by rw[<- y3y];congr 1;omega
   omega
  have hc2:=eE (P:=P) (sT:=tS) (ty:=tI) hi (g:=b) (o:=0+i*sz) (dLen:=sn+vn-i) (dCap:=sk-i) (b:=vb) (so:=0) (sLen:=vn) (sCap:=vk) (n:=vn) H4.get H4.swap.get (y4u oM) (by rw[y0x];omega) (by
   rw[hcl,y0x,y1x];omega) (by
   rw[y4r,y2b (by omega),y1k (by omega)];exact hy)
  rw[y4r,y2b (by omega),y1k (show ys.length<=vn*sz by omega),y1x]at hc2;have es:spl (spl (xs++r) ((i+vn)*sz) (xs.drop (i*sz))) (i*sz) ys=(xs.take (i*sz)++ys++xs.drop (i*sz))++r.drop (vn*sz):=by
   have:=z9q (l:=i*sz) (m:=vn*sz) (xs:=xs) (r:=r) (ys:=ys) hle hyl hrl;simp only[spl,hsum];exact this
  rw[es]at hc2;refine⟨⟨oM,oM⟩,⟨oM,oM,oM⟩,ax,w,?_,Cv.cnd.mk (λ_=> ?_) (λc=>absurd c Z8)⟩
  ·rw[zGi (show sk≠i+vn by omega)];exact hex
  rintro _ rfl;rw[zGi (show sk≠i+vn by omega),zGi (show sk≠i by omega),y1x,y1x];refine⟨⟨oM,oM,oM⟩,⟨oM,oM,oM⟩,_,_,hc1,⟨oM,oM,oM⟩,_,_,hc2,_,_,rfl,?_⟩;have H5:=H4.upd (.cells (xs.take (i*sz)++ys++xs.drop (i*sz)++r.drop (vn*sz)).toArray e);have H6:=H5.slmk (n:=sn+vn) (c:=sk) (sz:=sz) hfin (by
   rw[y0x,hfin,y1w,<- g2,y0x,g1,y3y];omega) hc
  exact(H6.swap.slmk (n:=vn) (c:=vk) (sz:=sz) g4 g5 g6).swap
structure z8r where
 els:List (List D)
 el:List D
 i:Nat
def yHt (e sz by_:Nat):Con where
 ι:=z8r
 pat:=λi=>[.own 0,.d (.v (.int .i64 i.i)),.own 1]
 pre:=λi=>[.own e sz i.els,.own e sz [i.el]]
 cnd:=λi=>i.i<=i.els.length/\(i.els.length+1)*by_<=140737488355328
 alts:=λi=>[{o:=Unit,res:=λ_=> .own 2,post:=λ_=>[.gone,.gone,.own e sz (i.els.take i.i++i.el::i.els.drop i.i)],rel:=λ_=>True}]
def insX_ok {P:bo} (hm:P.follows .mixedOrders=aw) {tS tI e sz by_ fI fO fR:Nat} {z:Array be} {fn:Func} {c:Code} (hf:P.funcs[fI]? =ay fn) (hb:fn.body=ay c) (hbd:vI P fI=aw) (hok:okC fn.ntmps c=aw) (hfx:okF [] c=aw) (hsz3:Nat.ble 3 fn.ntmps=aw)
 (hi:wS P tS=ay (e,sz,by_,z)) (hz:z.size=sz) (hby:0<by_) (hsz:0<sz) (h2:zZt P tS=aw) (hti:P.underlying tI=ay (.int .i64)) (hov:zRu P fO)
 (heq:∀(s:Option bp) (sn sk:Nat) (i:Int) (v:Option bp) (vn vk:Nat) (w:bg) (R:Ending->bg->Prop),yTl P tS tI sz fO fR s sn sk i v vn vk w R=cwp P [] c (zRp P fn R) (vK [.slice s sn sk,.int .i64 i,.slice v vn vk]) w):
 (yHt e sz by_).ok P fI:=by
 intro i hc k L E w ys R hv;obtain⟨c1,c2⟩:i.i<=i.els.length/\(i.els.length+1)*by_<=140737488355328:=hc;simp only[yHt,VRL,VR,DR]at hv;obtain⟨y0,_,rfl,⟨l0,e0,_⟩,y1,_,rfl,⟨rfl,_⟩,y2,_,rfl,⟨l2,e2,_⟩,rfl⟩:=hv;obtain⟨s,sk,xs,sub0,g1,hxs,hu,H⟩:=R.ownOpen (n:=0) (t:=e) (sz:=sz) (els:=i.els) rfl;rw[e0]at g1;cases g1;have hk2:∃v vk zs,y2= .slice v 1 vk/\DRL E.F i.el zs/\i.el.length=sz/\Hp k w (slO e sz s i.els.length sk xs::slO e sz v 1 vk zs::fz E.F::L):=by
  obtain⟨hk,hs,hh⟩:=H;cases hh with
  |cons ha hsub hd hr=>
   simp only[yHt,vZ,wA,y1m,y4q,y2p,y3k]at hr;cases hr with
   |cons hb2 hsub2 hd2 hr2=>
    rcases hb2 with⟨q,_⟩|⟨⟨hv2,sub2⟩,q1,q2⟩
    ·cases q
    ·simp only at q1;rw[e2]at q1;cases q1;simp only[rowHP]at q2;obtain⟨a,kk,zs,rfl,q3,q4,q5⟩:=q2;simp only[y3o,List.flatten_nil,y1t]at q3;exact⟨a,kk,zs,rfl,q3,q4 _ y1f,hk,_,.cons ha hsub hd (.cons q5 hsub2 hd2 hr2)⟩
 obtain⟨v,vk,zs,rfl,hzs,hel,H2⟩:=hk2;have hv:=yZx (fR:=fR) (fO:=fO) hi hz hby hsz h2 hti hov (i:=i.i) H2 hxs.one hzs.one c1 oM c2;have hcall:=zHh (args:=[.slice s i.els.length sk,.int .i64 i.i,.slice v 1 vk]) hm hf hb [] hok hfx hsz3 (heq s i.els.length sk i.i v 1 vk w _) hv;refine bL hbd (hcall.mono ?_);rintro en w' ⟨a,kk,rfl,H3⟩;have H4:Hp k w' (slO e sz a (i.els.take i.i++i.el::i.els.drop i.i).length kk (xs.take (i.i*sz)++zs++xs.drop (i.i*sz))::(([]:List (Nat×AObj)).map (rHP E)++fz E.F::L)):=by
  have:(i.els.take i.i++i.el::i.els.drop i.i).length=i.els.length+1:=by
   rw[y0x,y1d,y1q,y1w];omega
  rw[this];exact H3.swap.drop
 obtain⟨E',r1,r2,r3⟩:=dH (nx:=2) R.nx (by
  rw[y5t,y3o,<- nG i.i hu,<- nI i.i hu,<- y1e];exact((hxs.take _).append hzs).append (hxs.drop _)) (λx hx=>by
   rcases y2f.1 hx with hx|hx
   ·exact hu x (y5p hx)
   ·rcases y1r.1 hx with rfl|hx
    ·exact hel
    ·exact hu x (y4o hx)) H4
 have hl:(i.els.take i.i++i.el::i.els.drop i.i).length=i.els.length+1:=by
  rw[y0x,y1d,y1q,y1w];omega
 rw[hl]at r3;refine⟨_,rfl,_,y2l.2 rfl,(),trivial,E',r1,r3,⟨r2.nx,?_⟩⟩;have q1:=((@vR k w' True _).2 ⟨trivial,r2.hp⟩).imp (B:=rHP E' (1,.gone)) λx hx=> .inl ⟨rfl,hx.2⟩
 have q2:=((@vR k w' True _).2 ⟨trivial,q1⟩).imp (B:=rHP E' (0,.gone)) λx hx=> .inl ⟨rfl,hx.2⟩
 exact q2
def bbetterC:Con:=zR I3' (λi=>[zA i.side,zA i.x,zA i.y]) (λ_=>[]) (λ_=>True) (λi=>yT (btr i.side i.x i.y)) (λ_=>[])
@[reducible] def yWn (s:Slot):V:= .agg [yT s.used,zA s.n,zA s.id,zA s.qty,yT s.top,zA s.queue,zA s.ahead,zA s.back]
def pushFC:Con:=zR Slot (λs=>[yWn s]) (λ_=>[]) (λ_=>True) (λs=>yT (!s.used)) (λ_=>[])
def qT (l:List Slot):Int:=zHi (l.findIdx? λs=> !s.used)
def idxSlotC:Con:=zR (List Slot) (λ_=>[.own 0,.fn 217 [] []]) (λl=>[.own 273 8 (l.map zQ)]) (λl=>l.length<=1000000) (λl=>zA (qT l)) (λl=>[.own 273 8 (l.map zQ)])
def yEc (l:List Slot):List SAnn:=[{ι:=Nat,slots:=λj=>[(8,zA j)],rows:=λ_=>[]}]
def aH:dO:=⟨-1,-1,0,0⟩
def Arena.openQ (a:Arena):Arena:={a with queues:=a.queues++[aH]}
def aopenC:Con:=zR Arena (λ_=>[.nm 0 0]) (λa=>[kY a]) (λa=>a.queues.length<=1000000) (λa=>zA a.queues.length) (λa=>[kY a.openQ])
structure z6u where
 a:Arena
 n:Int
 t:Bool
def Arena.usedAt (a:Arena) (n:Int):Bool:=decide (0<=n) && (decide (n<a.slots.length) && (a.slots.getD n.toNat slot0).used)
def Arena.topF (a:Arena) (n:Int) (t:Bool):Arena:=if a.usedAt n=aw then{a with slots:=a.slots.modify n.toNat λs=>{s with top:=t}}else a
def atopC:Con:=zR z6u (λi=>[.nm 0 0,zA i.n,yT i.t]) (λi=>[kY i.a]) (λi=>i.a.slots.length<=1000000) (λi=>zA (if i.a.usedAt i.n=aw then 0 else 26)) (λi=>[kY (i.a.topF i.n i.t)])
structure PuI where
 a:Arena
 n:Int
 id:Int
 qty:Int
 top:Bool
def Arena.put (a:Arena) (n id qty:Int) (top:Bool):Arena:=
 let q:=a.queues.getD n.toNat aH
 let k:=qT a.slots
 let sl:=a.slots.set k.toNat ⟨aw,k,id,qty,top,n,q.last,-1⟩
 ⟨if q.last= -1 then sl else sl.modify q.last.toNat λs=>{s with back:=k},a.queues.set n.toNat ⟨if q.last= -1 then k else q.first,k,ae.wrap (q.total+qty),ae.wrap (q.count+1)⟩,ae.wrap (a.free-1)⟩
def Arena.push (a:Arena) (n id qty:Int) (top:Bool):Arena×Int×Int:=
 if n<0\/a.queues.length<=n then(a,0,26)else if qty<1\/1000000<qty then(a,0,24)else if a.free=0 then(a,0,13)else(a.put n id qty top,qT a.slots,0)
def Arena.fit (a:Arena):Prop:=a.slots.length<=1000000/\(a.free≠0->∃s∈a.slots,s.used=ax)/\∀q∈a.queues,q.last= -1\/(0<=q.last/\q.last<a.slots.length)
def apushC:Con:=zR PuI (λi=>[.nm 0 0,zA i.n,zA i.id,zA i.qty,yT i.top]) (λi=>[kY i.a]) (λi=>i.a.fit) (λi=> .tup [zA (i.a.push i.n i.id i.qty i.top).2.1,zA (i.a.push i.n i.id i.qty i.top).2.2]) (λi=>[kY (i.a.push i.n i.id i.qty i.top).1])
@[reducible] def zHz (b:Book):List AObj:=[zO b 0,zO b 1,zO b 2,zO b 3,zO b 4,zO b 5]
structure BkP where
 b:Book
 price:Int
def zY (s:Int) (l:List xC) (price:Int):Nat:=(l.takeWhile λr=>btr s r.price price).length
def qU (s:Int) (l:List xC) (price:Int):Bool:=match l[zY s l price]? with
 |some r=>decide (r.price=price)
 |none=>ax
def Book.rungs (b:Book) (s:Int):List xC:=if s=1 then b.buys else b.sells
def yEo (s:Int):Con:=zR BkP (λi=>[.nm 0 0,zA s,zA i.price]) (λi=>zHz i.b) (λi=>i.b.small) (λi=> .tup [zA (zY s (i.b.rungs s) i.price),yT (qU s (i.b.rungs s) i.price)]) (λi=>zHz i.b)
def find1C:Con:=yEo 1
def find2C:Con:=yEo 2
def yLz:List SAnn:=[{ι:=Nat,slots:=λj=>[(9,zA j)],rows:=λ_=>[]}]
def pget (l:List (Int×Place)) (k:Int):Option Place:=(l.find? λx=>decide (x.1=k)).map (·.2)
def n9 (k:Int) (v:Place):List (Int×Place)->List (Int×Place)
 |[]=>[(k,v)]
 |(a,b)::l=>if k=a then(a,v)::l else(a,b)::n9 k v l
structure LdI where
 b:Book
 id:Int
def Book.hasF (b:Book) (s:Int):Bool:=if s=1 then b.has1 else b.has2
def Book.topI (b:Book) (s:Int):Int:=if s=1 then b.top1 else b.top2
def Book.untop (b:Book) (s:Int):Arena:=if b.hasF s=aw then(match pget b.at_ (b.topI s)with
 |some o=>if o.side=s then b.a.topF o.slot ax else b.a
 |none=>b.a)else b.a
def Book.leadF (b:Book) (id s:Int):Book:=if s=1 then{b with a:=b.untop s,top1:=id,has1:=aw}else{b with a:=b.untop s,top2:=id,has2:=aw}
def yBk (s:Int):Con:=zR LdI (λi=>[.nm 0 0,zA i.id,zA s]) (λi=>zHz i.b) (λi=>i.b.small) (λ_=>aU) (λi=>zHz (i.b.leadF i.id s))
def lead1C:Con:=yBk 1
def lead2C:Con:=yBk 2
def Book.newQ (b:Book):Int×List Int×Arena:=if b.spare.length=0 then(b.a.queues.length,b.spare,b.a.openQ)else(b.spare.getD (b.spare.length-1) 0,b.spare.take (b.spare.length-1),b.a)
def Book.ins (b:Book) (s price:Int):List xC:=(b.rungs s).take (zY s (b.rungs s) price)++⟨price,b.newQ.1⟩::(b.rungs s).drop (zY s (b.rungs s) price)
def Book.queueF (b:Book) (s price:Int):Book×Int:=
 if qU s (b.rungs s) price=aw then(b,((b.rungs s).getD (zY s (b.rungs s) price) ⟨0,0⟩).queue)
 else(if s=1 then{b with a:=b.newQ.2.2,buys:=b.ins s price,spare:=b.newQ.2.1}else{b with a:=b.newQ.2.2,sells:=b.ins s price,spare:=b.newQ.2.1},b.newQ.1)
def yKg (b:Book):AObj:= .cells [.nm 1 0,.own 6,.own 3,.mp 4,zA b.top1,zA b.top2,.own 7,yT b.has1,yT b.has2] 245
def yIo (b:Book):AObj:= .cells [.nm 1 0,.own 2,.own 6,.mp 4,zA b.top1,zA b.top2,.own 7,yT b.has1,yT b.has2] 245
@[reducible] def yOs (b:Book):List AObj:=[yKg b,zO b 1,.gone,zO b 3,zO b 4,.gone,zO b 2,zO b 5]
@[reducible] def ySw (b:Book):List AObj:=[yIo b,zO b 1,zO b 2,.gone,zO b 4,.gone,zO b 3,zO b 5]
@[reducible] def Book.fit (b:Book):Prop:=b.a.fit/\b.a.queues.length<=100000/\b.buys.length<=100000/\b.sells.length<=100000/\b.spare.length<=100000
def queue1C:Con:=zR BkP (λi=>[.nm 0 0,zA 1,zA i.price]) (λi=>zHz i.b) (λi=>i.b.fit) (λi=>zA (i.b.queueF 1 i.price).2) (λi=>yOs (i.b.queueF 1 i.price).1)
def queue2C:Con:=zR BkP (λi=>[.nm 0 0,zA 2,zA i.price]) (λi=>zHz i.b) (λi=>i.b.fit) (λi=>zA (i.b.queueF 2 i.price).2) (λi=>ySw (i.b.queueF 2 i.price).1)
def insRC:Con:=yHt 255 2 16
def zYr (i:I3'):Prop:=
 cnd (i.side==1) (∃(a:Unit),btr i.side i.x i.y=decide (i.x>i.y)/\True) (∃(a:Unit),btr i.side i.x i.y=decide (i.x<i.y)/\True)
def yBb (s:Slot):Prop:=
 ∃(a:Unit),(!s.used)=!s.used/\True
def zYj (l:List Slot):Prop:=
 ∃(a:Nat),(↑a:Int)=0/\∃(b:Nat->Prop),∃(c:Nat->Nat),b a/\∀(d:Nat),b d->cnd (decide ((↑d:Int)<(↑(aa zQ l).length:Int))) ((0<=(↑d:Int)/\(↑d:Int)<(↑(aa zQ l).length:Int))/\∃(e:Bool),∃(f:Int),∃(g:Int),∃(h:Int),∃(j:Bool),∃(k:Int),∃(m:Int),∃(n:Int),zE (aa zQ l) (↑d:Int).toNat 0 8=ay [D.v (.bool e),dI f,dI g,dI h,D.v (.bool j),dI k,dI m,dI n]/\∃(p:Slot),p.used=e/\p.n=f/\p.id=g/\p.qty=h/\p.top=j/\p.queue=k/\p.ahead=m/\p.back=n/\True/\∀(q:Unit),True->cnd (!p.used) (∃(r:Unit),qT l=(↑d:Int)/\da (aa zQ l)/\True) (∃(r:Nat),(↑r:Int)=ae.wrap ((↑d:Int)+1)/\b r/\c r<c d/\da (ag 273 8 (aa zQ l)))) (∃(e:Unit),qT l=(-1)/\da (aa zQ l)/\True)
def yCx (a:Arena):Prop:=
 ((aa zN a.queues).length+1)*(32:Nat)<=(140737488355328:Nat)/\∃(b:Unit),(↑a.queues.length:Int)=ae.wrap ((↑(aa zN a.queues++[[dI (-1),dI (-1),dI 0,dI 0]]).length:Int)-1)/\da a.free/\da (aa zQ a.slots)/\aa zN (a.queues++[aH])=aa zN a.queues++[[dI (-1),dI (-1),dI 0,dI 0]]/\True
def eT (a:z6u):Prop:=∃(b:Unit),(if a.a.usedAt a.n=aw then(0:Int)else(26:Int))=26/\(a.a.topF a.n a.t).free=a.a.free/\aa zQ (a.a.topF a.n a.t).slots=aa zQ a.a.slots/\aa zN (a.a.topF a.n a.t).queues=aa zN a.a.queues/\True
def yNq (i:z6u):Prop:=
 cnd (decide (i.n<0)) (eT i) (cnd (decide (i.n>=(↑(aa zQ i.a.slots).length:Int))) (eT i) ((0<=i.n/\i.n<(↑(aa zQ i.a.slots).length:Int))/\∃(a:Bool),zE (aa zQ i.a.slots) i.n.toNat 0 1=ay [D.v (.bool a)]/\cnd (!a) (eT i) ((0<=i.n/\i.n<(↑(aa zQ i.a.slots).length:Int))/\i.n.toNat<(aa zQ i.a.slots).length/\∃(b:Unit),(if i.a.usedAt i.n=aw then(0:Int)else(26:Int))=0/\(i.a.topF i.n i.t).free=i.a.free/\aa zQ (i.a.topF i.n i.t).slots=zW (aa zQ i.a.slots) i.n.toNat 4 [D.v (.bool i.t)]/\aa zN (i.a.topF i.n i.t).queues=aa zN i.a.queues/\True)))
def yH (a:PuI):=(a.a.push a.n a.id a.qty a.top)
def rB (a:PuI):Prop:=(yH a).fst.free=a.a.free/\aa zQ (yH a).fst.slots=aa zQ a.a.slots/\aa zN (yH a).fst.queues=aa zN a.a.queues/\True
def zBk (a:PuI):Prop:=∃(b:Unit),(yH a).snd.fst=0/\(yH a).snd.snd=26/\rB a
def zBd (a:PuI):Prop:=∃(b:Unit),(yH a).snd.fst=0/\(yH a).snd.snd=24/\rB a
def nW (a:PuI) (b:List Slot):=(zW (zW (aa zN a.a.queues) a.n.toNat 0 [dI (qT b)]) a.n.toNat 1 [dI (qT b)])
def pO (a:PuI) (b:List Slot) (c:Int):=(zW (nW a b) a.n.toNat 2 [dI (ae.wrap (c+a.qty))])
def pG (a:PuI) (b:List Slot):=(zW (aa zN a.a.queues) a.n.toNat 1 [dI (qT b)])
def pL (a:PuI) (b:List Slot) (c:Int):=(zW (pG a b) a.n.toNat 2 [dI (ae.wrap (c+a.qty))])
def yCa (i:PuI):Prop:=
 cnd (decide (i.n>=0)) (cnd (!decide (i.n<(↑(aa zN i.a.queues).length:Int))) (zBk i) (cnd (decide (i.qty<1)) (zBd i) (cnd (decide (i.qty>1000000)) (zBd i) (cnd (i.a.free==0) (∃(a:Unit),(yH i).snd.fst=0/\(yH i).snd.snd=13/\rB i) (∃(a:List Slot),aa zQ a=aa zQ i.a.slots/\a.length<=1000000/\∀(b:Unit),True->(0<=i.n/\i.n<(↑(aa zN i.a.queues).length:Int))/\∃(c:Int),zE (aa zN i.a.queues) i.n.toNat 1 1=ay [dI c]/\(0<=qT a/\qT a<(↑(aa zQ a).length:Int))/\(qT a).toNat<(aa zQ a).length/\∃(d:Int),zE (aa zN i.a.queues) i.n.toNat 1 1=ay [dI d]/\cnd (d==(-1)) (i.n.toNat<(aa zN i.a.queues).length/\i.n.toNat<(zW (aa zN i.a.queues) i.n.toNat 0 [dI (qT a)]).length/\∃(e:Int),zE (nW i a) i.n.toNat 2 1=ay [dI e]/\i.n.toNat<(nW i a).length/\∃(f:Int),zE (pO i a e) i.n.toNat 3 1=ay [dI f]/\i.n.toNat<(pO i a e).length/\∃(g:Unit),(yH i).snd.fst=qT a/\(yH i).snd.snd=0/\(yH i).fst.free=ae.wrap (i.a.free-1)/\aa zQ (yH i).fst.slots=zW (aa zQ a) (qT a).toNat 0 [D.v (.bool aw),dI (qT a),dI i.id,dI i.qty,D.v (.bool i.top),dI i.n,dI c,dI (-1)]/\aa zN (yH i).fst.queues=zW (pO i a e) i.n.toNat 3 [dI (ae.wrap (f+1))]/\True) (∃(e:Int),zE (aa zN i.a.queues) i.n.toNat 1 1=ay [dI e]/\(0<=e/\e<(↑(zW (aa zQ a) (qT a).toNat 0 [D.v (.bool aw),dI (qT a),dI i.id,dI i.qty,D.v (.bool i.top),dI i.n,dI c,dI (-1)]).length:Int))/\e.toNat<(zW (aa zQ a) (qT a).toNat 0 [D.v (.bool aw),dI (qT a),dI i.id,dI i.qty,D.v (.bool i.top),dI i.n,dI c,dI (-1)]).length/\i.n.toNat<(aa zN i.a.queues).length/\∃(f:Int),zE (pG i a) i.n.toNat 2 1=ay [dI f]/\i.n.toNat<(pG i a).length/\∃(g:Int),zE (pL i a f) i.n.toNat 3 1=ay [dI g]/\i.n.toNat<(pL i a f).length/\∃(h:Unit),(yH i).snd.fst=qT a/\(yH i).snd.snd=0/\(yH i).fst.free=ae.wrap (i.a.free-1)/\aa zQ (yH i).fst.slots=zW (zW (aa zQ a) (qT a).toNat 0 [D.v (.bool aw),dI (qT a),dI i.id,dI i.qty,D.v (.bool i.top),dI i.n,dI c,dI (-1)]) e.toNat 7 [dI (qT a)]/\aa zN (yH i).fst.queues=zW (pL i a f) i.n.toNat 3 [dI (ae.wrap (g+1))]/\True)))))) (zBk i)
def xM (a:BkP):=(↑(zY 1 (a.b.rungs 1) a.price):Int)
def wV (a:BkP):=(↑(aa zB a.b.buys).length:Int)
def fW (a:BkP):Prop:=a.b.top1=a.b.top1/\da a.b.top2/\da a.b.has1/\da a.b.has2/\af Arena 3 zF a.b.a=zO a.b 1/\da (aa zB a.b.buys)/\da (aa zB a.b.sells)/\da (atE a.b.at_)/\da (iE a.b.spare)/\True
def zGd (a:Nat) (b:BkP):Prop:=(0<=(↑a:Int)/\(↑a:Int)<(wV b))/\∃(c:Int),zE (aa zB b.b.buys) (↑a:Int).toNat 0 1=ay [dI c]/\∃(d:Unit),(xM b)=(↑a:Int)/\qU 1 (b.b.rungs 1) b.price=(c==b.price)/\fW b
def zBx (a:BkP) (b:Nat):Prop:=∃(c:Unit),(xM a)=(↑b:Int)/\qU 1 (a.b.rungs 1) a.price=ax/\fW a
def pY (a:Nat) (b:Nat->Prop) (c:Nat->Nat) (d:BkP):Prop:=∃(e:Nat),(↑e:Int)=ae.wrap ((↑a:Int)+1)/\b e/\c e<c a/\da (zO d.b 0)/\da (zO d.b 1)/\da (zO d.b 2)/\da (zO d.b 3)/\da (zO d.b 4)/\da (zO d.b 5)
def nT (a:Nat) (b:BkP):=(decide ((↑a:Int)<(wV b)))
def yFm (i:BkP):Prop:=
 ∃(a:Nat),(↑a:Int)=0/\∃(b:Nat->Prop),∃(c:Nat->Nat),b a/\∀(d:Nat),b d->cnd (nT d i) ((0<=(↑d:Int)/\(↑d:Int)<(wV i))/\∃(e:Int),zE (aa zB i.b.buys) (↑d:Int).toNat 0 1=ay [dI e]/\∃(f:I3'),f.side=1/\f.x=e/\f.y=i.price/\True/\∀(g:Unit),True->cnd (btr f.side f.x f.y) (pY d b c i) (cnd (nT d i) (zGd d i) (zBx i d))) (cnd (nT d i) (zGd d i) (zBx i d))
def xL (a:BkP):=(↑(zY 2 (a.b.rungs 2) a.price):Int)
def wY (a:BkP):=(↑(aa zB a.b.sells).length:Int)
def zGr (a:Nat) (b:BkP):Prop:=(0<=(↑a:Int)/\(↑a:Int)<(wY b))/\∃(c:Int),zE (aa zB b.b.sells) (↑a:Int).toNat 0 1=ay [dI c]/\∃(d:Unit),(xL b)=(↑a:Int)/\qU 2 (b.b.rungs 2) b.price=(c==b.price)/\fW b
def zBj (a:BkP) (b:Nat):Prop:=∃(c:Unit),(xL a)=(↑b:Int)/\qU 2 (a.b.rungs 2) a.price=ax/\fW a
def pN (a:Nat) (b:BkP):=(decide ((↑a:Int)<(wY b)))
def yGc (i:BkP):Prop:=
 ∃(a:Nat),(↑a:Int)=0/\∃(b:Nat->Prop),∃(c:Nat->Nat),b a/\∀(d:Nat),b d->cnd (pN d i) ((0<=(↑d:Int)/\(↑d:Int)<(wY i))/\∃(e:Int),zE (aa zB i.b.sells) (↑d:Int).toNat 0 1=ay [dI e]/\∃(f:I3'),f.side=2/\f.x=e/\f.y=i.price/\True/\∀(g:Unit),True->cnd (btr f.side f.x f.y) (pY d b c i) (cnd (pN d i) (zGr d i) (zBj i d))) (cnd (pN d i) (zGr d i) (zBj i d))
def fJ (a:LdI):Prop:=aa zB a.b.buys=aa zB a.b.buys/\da (aa zB a.b.sells)/\da (atE a.b.at_)/\da (iE a.b.spare)/\True
def nU (a:LdI):Prop:=∃(b:Unit),da a.id/\da a.b.top2/\aw=aw/\da a.b.has2/\af Arena 3 zF (a.b.untop 1)=zO a.b 1/\fJ a
def zAl (a:LdI) (b:Int) (c:Int) (d:Int) (e:Bool):Prop:=qQ (ba ae a.b.top1) (atE a.b.at_)=ay [dI b,dI c,dI d]/\e=aw\/qQ (ba ae a.b.top1) (atE a.b.at_)=az/\[dI b,dI c,dI d]=[dI 0,dI 0,dI 0]/\e=ax
def zAj (a:LdI):Prop:=∀(b:be×List D),b∈atE a.b.at_->like (ba ae a.b.top1) b.fst=aw
def yCj (i:LdI):Prop:=
 cnd i.b.has1 ((zAj i)/\∃(a:Bool),∃(b:Int),∃(c:Int),∃(d:Int),(zAl i b c d a)/\((zAj i)/\∃(e:Bool),∃(f:Int),∃(g:Int),∃(h:Int),(zAl i f g h e)/\(f=b/\g=c/\h=d/\True)/\e=a/\True)/\da i.b.top1/\True/\cnd a (cnd (b==1) (∃(e:z6u),e.n=d/\e.t=ax/\af Arena 3 zF e.a=zO i.b 1/\e.a.slots.length<=1000000/\∀(f:Unit),True->∃(g:Unit),da i.id/\da i.b.top2/\aw=aw/\da i.b.has2/\af Arena 3 zF (i.b.untop 1)=af Arena 3 zF (e.a.topF e.n e.t)/\fJ i) (nU i)) (nU i)) (nU i)
def rD (a:LdI):Prop:=∃(b:Unit),da a.b.top1/\da a.id/\da a.b.has1/\aw=aw/\af Arena 3 zF (a.b.untop 2)=zO a.b 1/\fJ a
def zBb (a:LdI) (b:Int) (c:Int) (d:Int) (e:Bool):Prop:=qQ (ba ae a.b.top2) (atE a.b.at_)=ay [dI b,dI c,dI d]/\e=aw\/qQ (ba ae a.b.top2) (atE a.b.at_)=az/\[dI b,dI c,dI d]=[dI 0,dI 0,dI 0]/\e=ax
def zAa (a:LdI):Prop:=∀(b:be×List D),b∈atE a.b.at_->like (ba ae a.b.top2) b.fst=aw
def yAt (i:LdI):Prop:=
 cnd i.b.has2 ((zAa i)/\∃(a:Bool),∃(b:Int),∃(c:Int),∃(d:Int),(zBb i b c d a)/\((zAa i)/\∃(e:Bool),∃(f:Int),∃(g:Int),∃(h:Int),(zBb i f g h e)/\(f=b/\g=c/\h=d/\True)/\e=a/\True)/\da i.b.top2/\True/\cnd a (cnd (b==2) (∃(e:z6u),e.n=d/\e.t=ax/\af Arena 3 zF e.a=zO i.b 1/\e.a.slots.length<=1000000/\∀(f:Unit),True->∃(g:Unit),da i.b.top1/\da i.id/\da i.b.has1/\aw=aw/\af Arena 3 zF (i.b.untop 2)=af Arena 3 zF (e.a.topF e.n e.t)/\fJ i) (rD i)) (rD i)) (rD i)
def xW (a:BkP):Prop:=(a.b.a.slots.length<=1000000/\a.b.a.queues.length<=1000000)/\a.b.buys.length<=1000000/\a.b.sells.length<=1000000/\a.b.spare.length<=1000000
def uX (a:BkP):Prop:=0<=(xM a)/\(xM a)<(wV a)
def wX (a:BkP):=((↑(iE a.b.spare).length:Int)-1)
def aS (a:BkP):Prop:=0<=ae.wrap (wX a)/\ae.wrap (wX a)<=(↑(iE a.b.spare).length:Int)
def aZ (a:BkP):Prop:=0<=ae.wrap (wX a)/\ae.wrap (wX a)<(↑(iE a.b.spare).length:Int)
def u7 (a:z8r):Prop:=a.i<=a.els.length/\(a.els.length+1)*(16:Nat)<=(140737488355328:Nat)
def gD (a:BkP):=(ae.wrap (wX a))
def zM (a:BkP):=(a.b.queueF 1 a.price)
def z3e (i:BkP):Prop:=
 ∃(a:BkP),da ((1:Int))/\a.price=i.price/\a.b.top1=i.b.top1/\a.b.top2=i.b.top2/\a.b.has1=i.b.has1/\a.b.has2=i.b.has2/\af Arena 3 zF a.b.a=zO i.b 1/\aa zB a.b.buys=aa zB i.b.buys/\aa zB a.b.sells=aa zB i.b.sells/\atE a.b.at_=atE i.b.at_/\iE a.b.spare=iE i.b.spare/\(xW a)/\∀(b:Unit),True->cnd (qU 1 (a.b.rungs 1) a.price) ((uX a)/\∃(c:Int),zE (aa zB a.b.buys) (xM a).toNat 1 1=ay [dI c]/\∃(d:Unit),(zM i).snd=c/\(zM i).fst.top1=a.b.top1/\(zM i).fst.top2=a.b.top2/\(zM i).fst.has1=a.b.has1/\(zM i).fst.has2=a.b.has2/\af Arena 3 zF (zM i).fst.a=af Arena 3 zF a.b.a/\aa zB (zM i).fst.sells=aa zB a.b.sells/\atE (zM i).fst.at_=atE a.b.at_/\aa zB (zM i).fst.buys=aa zB a.b.buys/\iE (zM i).fst.spare=iE a.b.spare/\True) (cnd (decide ((↑(iE a.b.spare).length:Int)>0)) ((aZ a)/\∃(c:Int),zE (iE a.b.spare) (gD a).toNat 0 1=ay [dI c]/\(aS a)/\True/\∃(d:z8r),(↑d.i:Int)=(xM a)/\d.els=aa zB a.b.buys/\[d.el]=[[dI i.price,dI c]]/\(u7 d)/\∀(e:Unit),True->∃(f:Unit),(zM i).snd=c/\(zM i).fst.top1=a.b.top1/\(zM i).fst.top2=a.b.top2/\(zM i).fst.has1=a.b.has1/\(zM i).fst.has2=a.b.has2/\af Arena 3 zF (zM i).fst.a=af Arena 3 zF a.b.a/\aa zB (zM i).fst.sells=aa zB a.b.sells/\atE (zM i).fst.at_=atE a.b.at_/\aa zB (zM i).fst.buys=ab d.i d.els++d.el::ac d.i d.els/\iE (zM i).fst.spare=ab (gD a).toNat (iE a.b.spare)/\True) (∃(c:Arena),af Arena 3 zF c=af Arena 3 zF a.b.a/\c.queues.length<=1000000/\∀(d:Unit),True->True/\∃(e:z8r),(↑e.i:Int)=(xM a)/\e.els=aa zB a.b.buys/\[e.el]=[[dI i.price,dI (↑c.queues.length:Int)]]/\(u7 e)/\∀(f:Unit),True->∃(g:Unit),(zM i).snd=(↑c.queues.length:Int)/\(zM i).fst.top1=a.b.top1/\(zM i).fst.top2=a.b.top2/\(zM i).fst.has1=a.b.has1/\(zM i).fst.has2=a.b.has2/\af Arena 3 zF (zM i).fst.a=af Arena 3 zF c.openQ/\aa zB (zM i).fst.sells=aa zB a.b.sells/\atE (zM i).fst.at_=atE a.b.at_/\aa zB (zM i).fst.buys=ab e.i e.els++e.el::ac e.i e.els/\iE (zM i).fst.spare=iE a.b.spare/\True))
def hP (a:BkP):Prop:=0<=(xL a)/\(xL a)<(wY a)
def zL (a:BkP):=(a.b.queueF 2 a.price)
def z2x (i:BkP):Prop:=
 ∃(a:BkP),da ((2:Int))/\a.price=i.price/\a.b.top1=i.b.top1/\a.b.top2=i.b.top2/\a.b.has1=i.b.has1/\a.b.has2=i.b.has2/\af Arena 3 zF a.b.a=zO i.b 1/\aa zB a.b.buys=aa zB i.b.buys/\aa zB a.b.sells=aa zB i.b.sells/\atE a.b.at_=atE i.b.at_/\iE a.b.spare=iE i.b.spare/\(xW a)/\∀(b:Unit),True->cnd (qU 2 (a.b.rungs 2) a.price) ((hP a)/\∃(c:Int),zE (aa zB a.b.sells) (xL a).toNat 1 1=ay [dI c]/\∃(d:Unit),(zL i).snd=c/\(zL i).fst.top1=a.b.top1/\(zL i).fst.top2=a.b.top2/\(zL i).fst.has1=a.b.has1/\(zL i).fst.has2=a.b.has2/\af Arena 3 zF (zL i).fst.a=af Arena 3 zF a.b.a/\aa zB (zL i).fst.buys=aa zB a.b.buys/\atE (zL i).fst.at_=atE a.b.at_/\aa zB (zL i).fst.sells=aa zB a.b.sells/\iE (zL i).fst.spare=iE a.b.spare/\True) (cnd (decide ((↑(iE a.b.spare).length:Int)>0)) ((aZ a)/\∃(c:Int),zE (iE a.b.spare) (gD a).toNat 0 1=ay [dI c]/\(aS a)/\True/\∃(d:z8r),(↑d.i:Int)=(xL a)/\d.els=aa zB a.b.sells/\[d.el]=[[dI i.price,dI c]]/\(u7 d)/\∀(e:Unit),True->∃(f:Unit),(zL i).snd=c/\(zL i).fst.top1=a.b.top1/\(zL i).fst.top2=a.b.top2/\(zL i).fst.has1=a.b.has1/\(zL i).fst.has2=a.b.has2/\af Arena 3 zF (zL i).fst.a=af Arena 3 zF a.b.a/\aa zB (zL i).fst.buys=aa zB a.b.buys/\atE (zL i).fst.at_=atE a.b.at_/\aa zB (zL i).fst.sells=ab d.i d.els++d.el::ac d.i d.els/\iE (zL i).fst.spare=ab (gD a).toNat (iE a.b.spare)/\True) (∃(c:Arena),af Arena 3 zF c=af Arena 3 zF a.b.a/\c.queues.length<=1000000/\∀(d:Unit),True->True/\∃(e:z8r),(↑e.i:Int)=(xL a)/\e.els=aa zB a.b.sells/\[e.el]=[[dI i.price,dI (↑c.queues.length:Int)]]/\(u7 e)/\∀(f:Unit),True->∃(g:Unit),(zL i).snd=(↑c.queues.length:Int)/\(zL i).fst.top1=a.b.top1/\(zL i).fst.top2=a.b.top2/\(zL i).fst.has1=a.b.has1/\(zL i).fst.has2=a.b.has2/\af Arena 3 zF (zL i).fst.a=af Arena 3 zF c.openQ/\aa zB (zL i).fst.buys=aa zB a.b.buys/\atE (zL i).fst.at_=atE a.b.at_/\aa zB (zL i).fst.sells=ab e.i e.els++e.el::ac e.i e.els/\iE (zL i).fst.spare=iE a.b.spare/\True))
def aM:bbetterC.ok Tryz.prog 150:=okw (V:=zYr) mixed gok0 0 (λ_=>[]) (λ_=>[]) [] Tryz.func150 λ(i:I3') _=>by
 unfold zYr;refine Cv.cnd.mk (λc=> ?_) (λc=> ?_)
 ·have c:i.side=1:=by simpa using c
  rw[btr,y1a c];exact kp
 ·have c:¬i.side=1:=by simpa using c
  rw[btr,y0y c];exact kp
def yBw:pushFC.ok Tryz.prog 217:=okw (V:=yBb) mixed gok0 0 (λ_=>[]) (λ_=>[]) [] Tryz.func217 λ(s:Slot) _=>by
 unfold yBb;exact kp
def y0o {l:List Slot} {k:Nat} {s:Slot} (h:l[k]? =ay s):zE (l.map zQ) k 0 8=ay [D.v (.bool s.used),.v (.int .i64 s.n),.v (.int .i64 s.id),.v (.int .i64 s.qty),.v (.bool s.top),.v (.int .i64 s.queue),.v (.int .i64 s.ahead),.v (.int .i64 s.back)]:=elA h (by simp[zQ]) rfl
def yGr (l:List Slot) (h:idxSlotC.cnd l):zYj l:=by
 have h:l.length<=1000000:=h;unfold zYj dI;simp only[y0z];refine⟨0,rfl,λj=>j<=l.length/\∀k<j,∀x,l[k]? =ay x->(!x.used)=ax,λj=>l.length-j,⟨oM,λk hk=>by omega⟩,?_⟩;rintro j ⟨h3,h4⟩;refine zH (λhj=> ?_) (λhj=> ?_)
 ·obtain⟨s,hs⟩:=yE (l:=l) (i:=j) oM;refine⟨⟨oM,oM⟩,s.used,s.n,s.id,s.qty,s.top,s.queue,s.ahead,s.back,y0o hs,s,rF7 ⟨rfl,trivial,λ_ _=>Cv.cnd.mk (λe=> ?_) (λe=> ?_)⟩⟩
  ·rw[qT,zFe hs e h4];exact kp
  ·refine⟨j+1,by rw[w64 (by omega)];rfl,⟨oM,λk hk x hx=> ?_⟩,by(first|omega|(dsimp only;omega)),k0q⟩;rcases y3q k j with hk'|hk'
   ·exact h4 k hk' x hx
   ·obtain rfl:k=j:=by omega
    rw[hs]at hx;cases hx;exact e
 ·rw[qT,zFw λk x hx=>h4 k (by have:=(y1c.1 hx).1;omega) x hx];exact kp
def zZr:idxSlotC.ok Tryz.prog 216:=okw mixed (gokc yBw gok0) 0 (λ_=>[]) (λl=>yEc l) [] Tryz.func216 yGr
def zUo:aopenC.ok Tryz.prog 218:=okw (V:=yCx) mixed gok0 0 (λ_=>[]) (λ_=>[]) [0] Tryz.func218 λ(a:Arena) h=>by
 have h:a.queues.length<=1000000:=h;unfold yCx dI;rw[y0x,y0z,w64 (by simp only[y1d,y2r];omega)];refine⟨oM,(),?_,rfl,rfl,?_,trivial⟩
 ·simp
 ·rw[y1i];rfl
def f7 {α:Type} {f:α->α}:∀{l:List α} {i:Nat} {x:α},l[i]? =ay x->l.modify i f=l.set i (f x)
 |[],i,x,h=>by simp at h
 |a::l,0,x,h=>by simp at h;subst h;rfl
 |a::l,i+1,x,h=>by
  simp only[y2w]at h;simp only[y6c,y6p,f7 h]
def yG {α:Type} {f:α->List D} {l:List α} {i g:Nat} {x y:α} {ds:List D} (hi:l[i]? =ay x) (hh:(f x).take g++(ds++(f x).drop (g+ds.length))=f y):zW (l.map f) i g ds=(l.set i y).map f:=by
 have hlt:=(y1c.1 hi).1;rw[zW,f7 (by rw[y2n,hi];rfl),hh,List.map_set]
def vH {α:Type} {l:List α} {i:Nat} {x y:α} (hi:l[i]? =ay x):(l.set i y)[i]? =ay y:=List.getElem?_set_self (y1c.1 hi).1
def zV {α:Type} {l:List α} {i:Nat} {x d:α} (h:l[i]? =ay x):l.getD i d=x:=by rw[y1h,h];rfl
def yYn (i:z6u) (h:atopC.cnd i):yNq i:=by
 have h:i.a.slots.length<=1000000:=h;unfold yNq eT;simp only[y0z];have no (e:i.a.usedAt i.n=ax):i.a.topF i.n i.t=i.a:=by rw[Arena.topF,y0y (by rw[e];decide)]
 refine zH (λc=> ?_) (λc=>zH (λd=> ?_) (λd=> ?_))
 ·have e:i.a.usedAt i.n=ax:=by rw[Arena.usedAt,y1s (by omega),y4g]
  rw[no e,e];exact kp
 ·have e:i.a.usedAt i.n=ax:=by rw[Arena.usedAt,y1s (show ¬i.n<(i.a.slots.length:Int)by omega),y4g,y5x]
  rw[no e,e];exact kp
 ·obtain⟨s,hs⟩:=yE (l:=i.a.slots) (i:=i.n.toNat) oM;have eu:i.a.usedAt i.n=s.used:=by rw[Arena.usedAt,y1v (show 0<=i.n by omega),y1v (show i.n<(i.a.slots.length:Int)by omega),zV hs];simp
  refine⟨⟨oM,oM⟩,s.used,elA hs (by simp[zQ]) rfl,Cv.cnd.mk (λu=> ?_) (λu=> ?_)⟩
  ·have e:i.a.usedAt i.n=ax:=by rw[eu];simpa using u
   rw[no e,e];exact kp
  ·have e:i.a.usedAt i.n=aw:=by rw[eu];simpa using u
   have et:i.a.topF i.n i.t={i.a with slots:=i.a.slots.set i.n.toNat {s with top:=i.t}}:=by
    rw[Arena.topF,y1a e,f7 hs]
   rw[et,e,yG hs (y:={s with top:=i.t}) rfl];refine⟨⟨oM,oM⟩,oM,(),rF4 trivial⟩
def z6f:atopC.ok Tryz.prog 215:=okw mixed gok0 1 (λ_=>[]) (λ_=>[]) [0] Tryz.func215 yYn
def yAm {l:List Slot} (h:∃s∈l,s.used=ax):∃k:Nat,qT l=k/\k<l.length:=by
 obtain⟨s,hs,hu⟩:=h;cases hf:l.findIdx? λs=> !s.used with
 |none=>
  rw[y5l]at hf;have:=hf s hs;rw[hu]at this;cases this
 |some k=>
  rw[y4e]at hf;exact⟨k,by rw[qT,show(l.findIdx? λs=> !s.used)=ay k by rw[y4e];exact hf];rfl,hf.1⟩
def yPm (i:PuI) (h:apushC.cnd i):yCa i:=by
 obtain⟨h1,h2,h3⟩:i.a.fit:=h;unfold yCa pL pG pO nW zBd zBk rB yH dI;simp only[y0z];have out (e:i.n<0\/i.a.queues.length<=i.n):i.a.push i.n i.id i.qty i.top=(i.a,0,26):=by rw[Arena.push,y1a e]
 refine zH (λc=>Cv.cnd.mk (λd=> ?_) (λd=> ?_)) (λc=> ?_)
 ·have d:¬i.n<(i.a.queues.length:Int):=by simpa using d
  rw[out (.inr (by omega))];exact kp
 ·have d:i.n<(i.a.queues.length:Int):=by simpa using d
  have hn:¬(i.n<0\/(i.a.queues.length:Int)<=i.n):=by omega
  refine zH (λq1=> ?_) (λq1=>zH (λq2=> ?_) (λq2=>Cv.cnd.mk (λfr=> ?_) (λfr=> ?_)))
  ·rw[Arena.push,y0y hn,y1a (.inl q1)];exact kp
  ·rw[Arena.push,y0y hn,y1a (.inr q2)];exact kp
  ·rw[Arena.push,y0y hn,y0y (by omega),y1a (by simpa using fr)];exact kp
  ·have fr:i.a.free≠0:=by simpa using fr
   have ep:i.a.push i.n i.id i.qty i.top=(i.a.put i.n i.id i.qty i.top,qT i.a.slots,0):=by rw[Arena.push,y0y hn,y0y (by omega),y0y fr]
   obtain⟨k,hk,hkl⟩:=yAm (h2 fr);obtain⟨q,hq⟩:=yE (l:=i.a.queues) (i:=i.n.toNat) oM;have hqm:=y1j hq;have hl:=h3 q hqm;obtain⟨s,hs⟩:=yE hkl;refine⟨i.a.slots,rfl,h1,λ_ _=>⟨⟨oM,oM⟩,q.last,elA hq (by simp[zN]) rfl,⟨oM,oM⟩,by rw[hk];exact hkl,q.last,elA hq (by simp[zN]) rfl,?_⟩⟩;rw[ep];have eput:i.a.put i.n i.id i.qty i.top=⟨if q.last= -1 then i.a.slots.set k ⟨aw,k,i.id,i.qty,i.top,i.n,q.last,-1⟩else(i.a.slots.set k ⟨aw,k,i.id,i.qty,i.top,i.n,q.last,-1⟩).modify q.last.toNat λs=>{s with back:=k},i.a.queues.set i.n.toNat ⟨if q.last= -1 then k else q.first,k,ae.wrap (q.total+i.qty),ae.wrap (q.count+1)⟩,ae.wrap (i.a.free-1)⟩:=by
    simp only[Arena.put,zV hq,hk,y1o]
   rw[eput,hk];simp only[y1o];have es:zW (aa zQ i.a.slots) k 0 [D.v (.bool aw),D.v (.int .i64 k),D.v (.int .i64 i.id),D.v (.int .i64 i.qty),D.v (.bool i.top),D.v (.int .i64 i.n),D.v (.int .i64 q.last),D.v (.int .i64 (-1))]=aa zQ (i.a.slots.set k ⟨aw,k,i.id,i.qty,i.top,i.n,q.last,-1⟩):=yG hs rfl;rw[es];refine Cv.cnd.mk (λe=> ?_) (λe=> ?_)
   ·have e:q.last= -1:=by simpa using e
    have e1:zW (aa zN i.a.queues) i.n.toNat (0+0) [D.v (.int .i64 k)]=aa zN (i.a.queues.set i.n.toNat {q with first:=k}):=yG hq rfl;have g1:=vH (y:={q with first:=(k:Int)}) hq;have e2:zW (aa zN (i.a.queues.set i.n.toNat {q with first:=k})) i.n.toNat (0+1) [D.v (.int .i64 k)]=aa zN (i.a.queues.set i.n.toNat {q with first:=k,last:=k}):=by
     rw[yG g1 (y:={q with first:=(k:Int),last:=(k:Int)}) rfl,y4x]
    have g2:=vH (y:={q with first:=(k:Int),last:=(k:Int)}) hq;have e3:zW (aa zN (i.a.queues.set i.n.toNat {q with first:=k,last:=k})) i.n.toNat (0+2) [D.v (.int .i64 (ae.wrap (q.total+i.qty)))]=aa zN (i.a.queues.set i.n.toNat {q with first:=k,last:=k,total:=ae.wrap (q.total+i.qty)}):=by
     rw[yG g2 (y:={q with first:=(k:Int),last:=(k:Int),total:=ae.wrap (q.total+i.qty)}) rfl,y4x]
    have g3:=vH (y:={q with first:=(k:Int),last:=(k:Int),total:=ae.wrap (q.total+i.qty)}) hq;have e4:zW (aa zN (i.a.queues.set i.n.toNat {q with first:=k,last:=k,total:=ae.wrap (q.total+i.qty)})) i.n.toNat (0+3) [D.v (.int .i64 (ae.wrap (q.count+1)))]=aa zN (i.a.queues.set i.n.toNat ⟨k,k,ae.wrap (q.total+i.qty),ae.wrap (q.count+1)⟩):=by
     rw[yG g3 (y:=⟨k,k,ae.wrap (q.total+i.qty),ae.wrap (q.count+1)⟩) rfl,y4x]
    rw[e1,e2];simp only[y1a e];refine⟨oM,by simp only[y0z,y2d];omega,q.total,elA g2 (by simp[zN]) rfl,by simp only[y0z,y2d];omega,q.count,?_,by rw[e3];simp only[y0z,y2d];omega,(),?_⟩
    ·rw[e3];exact elA g3 (by simp[zN]) rfl
    ·rw[e3,e4];exact kp
   ·have e:¬q.last= -1:=by simpa using e
    have hl:0<=q.last/\q.last<i.a.slots.length:=hl.resolve_left e;have e2:zW (aa zN i.a.queues) i.n.toNat (0+1) [D.v (.int .i64 k)]=aa zN (i.a.queues.set i.n.toNat {q with last:=k}):=yG hq rfl;have g2:=vH (y:={q with last:=(k:Int)}) hq;have e3:zW (aa zN (i.a.queues.set i.n.toNat {q with last:=k})) i.n.toNat (0+2) [D.v (.int .i64 (ae.wrap (q.total+i.qty)))]=aa zN (i.a.queues.set i.n.toNat {q with last:=k,total:=ae.wrap (q.total+i.qty)}):=by
     rw[yG g2 (y:={q with last:=(k:Int),total:=ae.wrap (q.total+i.qty)}) rfl,y4x]
    have g3:=vH (y:={q with last:=(k:Int),total:=ae.wrap (q.total+i.qty)}) hq;have e4:zW (aa zN (i.a.queues.set i.n.toNat {q with last:=k,total:=ae.wrap (q.total+i.qty)})) i.n.toNat (0+3) [D.v (.int .i64 (ae.wrap (q.count+1)))]=aa zN (i.a.queues.set i.n.toNat ⟨q.first,k,ae.wrap (q.total+i.qty),ae.wrap (q.count+1)⟩):=by
     rw[yG g3 (y:=⟨q.first,k,ae.wrap (q.total+i.qty),ae.wrap (q.count+1)⟩) rfl,y4x]
    obtain⟨s2,hs2⟩:=yE (l:=i.a.slots.set k ⟨aw,k,i.id,i.qty,i.top,i.n,q.last,-1⟩) (i:=q.last.toNat) (by rw[y2d];omega);have e5:zW (aa zQ (i.a.slots.set k ⟨aw,k,i.id,i.qty,i.top,i.n,q.last,-1⟩)) q.last.toNat (0+7) [D.v (.int .i64 k)]=aa zQ ((i.a.slots.set k ⟨aw,k,i.id,i.qty,i.top,i.n,q.last,-1⟩).modify q.last.toNat λs=>{s with back:=k}):=by
     rw[yG hs2 (y:={s2 with back:=(k:Int)}) rfl,f7 hs2]
    rw[e2];simp only[y0y e];refine⟨q.last,elA hq (by simp[zN]) rfl,⟨oM,by simp only[y0z,y2d];omega⟩,by simp only[y0z,y2d];omega,oM,q.total,elA g2 (by simp[zN]) rfl,by simp only[y0z,y2d];omega,q.count,?_,by rw[e3];simp only[y0z,y2d];omega,(),?_⟩
    ·rw[e3];exact elA g3 (by simp[zN]) rfl
    ·rw[e3,e4,e5];exact kp
 ·rw[out (.inl (by omega))];exact kp
def zXo:apushC.ok Tryz.prog 204:=okw mixed (gokc zZr gok0) 1 (λ_=>[]) (λ_=>[]) [0] Tryz.func204 yPm
def nH {s price:Int}:∀{l:List xC} {j:Nat},j<=l.length->(∀k<j,∀r,l[k]? =ay r->btr s r.price price=aw)->(∀r,l[j]? =ay r->btr s r.price price=ax)->zY s l price=j
 |[],j,hj,_,_=>by
  obtain rfl:j=0:=by simpa using hj
  rfl
 |r::l,0,_,_,he=>by
  have:=he r rfl;rw[zY,List.takeWhile_cons,this];rfl
 |r::l,j+1,hj,h,he=>by
  have h0:=h 0 oM r rfl;have ih:=nH (l:=l) (j:=j) (by simpa using hj) (λk hk x hx=>h (k+1) oM x (by simpa using hx)) (λx hx=>he x (by simpa using hx));rw[zY]at ih ⊢;rw[List.takeWhile_cons,h0,y1a rfl,y1d,ih]
def zCm (s price:Int) (l:List xC):zY s l price<=l.length:=(List.takeWhile_sublist _).length_le
def rL (b:Book):b.rungs 1=b.buys:=rfl
def rJ (b:Book):b.rungs 2=b.sells:=rfl
def yOy (i:BkP) (h:find1C.cnd i):yFm i:=by
 obtain⟨_,h1,h2,_⟩:i.b.small:=h;unfold yFm zGd nT wV pY zBx fW xM dI;simp only[y0z,rL];refine⟨0,rfl,λj=>j<=i.b.buys.length/\∀k<j,∀r,i.b.buys[k]? =ay r->btr 1 r.price i.price=aw,λj=>i.b.buys.length-j,⟨oM,λk hk=>by omega⟩,?_⟩;rintro j ⟨h3,h4⟩;refine zH (λhj=> ?_) (λhj=> ?_)
 ·obtain⟨r,hr⟩:=yE (l:=i.b.buys) (i:=j) oM;refine⟨⟨oM,oM⟩,r.price,elA hr (by simp[zB]) rfl,⟨1,r.price,i.price⟩,rfl,rfl,rfl,trivial,λ_ _=> ?_⟩;dsimp only;refine Cv.cnd.mk (λe=>⟨j+1,by rw[w64 (by omega)];rfl,⟨oM,λk hk x hx=> ?_⟩,by(first|omega|(dsimp only;omega)),k0q⟩) (λe=>zH (λ_=> ?_) (λc=>absurd hj c))
  ·rcases y3q k j with hk'|hk'
   ·exact h4 k hk' x hx
   ·obtain rfl:k=j:=by omega
    rw[hr]at hx;cases hx;exact e
  ·have en:zY 1 i.b.buys i.price=j:=nH h3 h4 λx hx=>by rw[hr]at hx;cases hx;exact e
   have eb:qU 1 i.b.buys i.price=(r.price==i.price):=by rw[qU,en,hr];exact(zWk _ _).symm
   refine⟨⟨oM,oM⟩,r.price,elA hr (by simp[zB]) rfl,(),by rw[en],eb,?_⟩
   (repeat'(first|exact trivial|exact rfl|apply ap))
 ·have en:zY 1 i.b.buys i.price=j:=nH h3 h4 λx hx=>by have:=(y1c.1 hx).1;omega
  have eb:qU 1 i.b.buys i.price=ax:=by rw[qU,en,y2i (by omega)]
  refine zH (λc=>absurd c hj) (λ_=>⟨(),by rw[en],eb,?_⟩)
  (repeat'(first|exact trivial|exact rfl|apply ap))
def zLg:find1C.ok Tryz.prog 207:=okw mixed (gokc aM gok0) 0 (λ_=>[]) (λ_=>yLz) [] Tryz.func207 yOy
def k0 (l:List (Int×Place)) (k:Int):∀(p:be×List D),p∈atE l->like (ba ae k) p.1=aw:=by
 intro p hp;obtain⟨x,_,rfl⟩:=y2m.1 hp;rfl
def eO (k:Int):∀l:List (Int×Place),qQ (ba ae k) (atE l)=(pget l k).map z0z
 |[]=>rfl
 |(a,v)::l=>by
  have ih:=eO k l;show(bif (keq .i64 .i64 && decide (k=a))then _ else qQ _ (atE l))=_;by_cases h:k=a
  ·subst h;simp[pget,keq]
  ·have h':¬a=k:=λe=>h e.symm
   rw[show(keq .i64 .i64 && decide (k=a))=ax by simp[h],cond_false,ih];simp[pget,y6s,h']
def zFc:Place:=⟨0,0,0⟩
def zQw (l:List (Int×Place)) (k:Int):qQ (ba ae k) (atE l)=ay [D.v (.int .i64 ((pget l k).getD zFc).side),D.v (.int .i64 ((pget l k).getD zFc).price),D.v (.int .i64 ((pget l k).getD zFc).slot)]/\(pget l k).isSome=aw\/qQ (ba ae k) (atE l)=az/\[D.v (.int .i64 ((pget l k).getD zFc).side),D.v (.int .i64 ((pget l k).getD zFc).price),D.v (.int .i64 ((pget l k).getD zFc).slot)]=[D.v (.int .i64 0),D.v (.int .i64 0),D.v (.int .i64 0)]/\(pget l k).isSome=ax:=by
 rw[eO];cases pget l k with
 |none=>exact .inr ⟨rfl,rfl,rfl⟩
 |some v=>exact .inl ⟨rfl,rfl⟩
def zSr (k:Int) (v:Place):∀l,vF (ba ae k) (z0z v) (atE l)=atE (n9 k v l)
 |[]=>rfl
 |(a,b)::l=>by
  have ih:=zSr k v l;show(bif (keq .i64 .i64 && decide (k=a))then _ else _::vF _ _ (atE l))=_;rw[ih,n9];by_cases h:k=a
  ·subst h;simp[keq,atE]
  ·simp[h,atE]
def yUa (i:LdI) (h:lead1C.cnd i):yCj i:=by
 obtain⟨⟨ha,_⟩,h1,h2,_⟩:i.b.small:=h;unfold yCj zAj zAl nU fJ dI;have no (e:i.b.untop 1=i.b.a):af Arena 3 zF (i.b.untop 1)=zO i.b 1:=by rw[e];rfl
 refine Cv.cnd.mk (λc=> ?_) (λc=>⟨(),?_⟩)
 ·have c:i.b.hasF 1=aw:=c;refine⟨k0 _ _,(pget i.b.at_ i.b.top1).isSome,_,_,_,zQw _ _,⟨k0 _ _,(pget i.b.at_ i.b.top1).isSome,_,_,_,zQw _ _,(rF3 trivial),rfl,trivial⟩,rfl,trivial,Cv.cnd.mk (λd=>Cv.cnd.mk (λe=> ?_) (λe=>⟨(),?_⟩)) (λd=>⟨(),?_⟩)⟩
  ·obtain⟨o,ho⟩:=y6i.1 d;have e:o.side=1:=by rw[ho]at e;simpa using e
   have eu:i.b.untop 1=i.b.a.topF o.slot ax:=by
    have ht:pget i.b.at_ (i.b.topI 1)=ay o:=ho;rw[Book.untop,y1a c,ht];dsimp only;rw[y1a e]
   refine⟨⟨i.b.a,o.slot,ax⟩,by rw[ho];rfl,rfl,rfl,ha,λ_ _=>⟨(),?_⟩⟩;rw[eu];(repeat'(first|exact trivial|exact rfl|apply ap))
  ·obtain⟨o,ho⟩:=y6i.1 d;have e:¬o.side=1:=by rw[ho]at e;simpa using e
   have ht:pget i.b.at_ (i.b.topI 1)=ay o:=ho;rw[no (by rw[Book.untop,y1a c,ht];dsimp only;rw[y0y e])];(repeat'(first|exact trivial|exact rfl|apply ap))
  ·have ht:pget i.b.at_ (i.b.topI 1)=az:=by
    show pget i.b.at_ i.b.top1=az;simpa using d
   rw[no (by rw[Book.untop,y1a c,ht])];(repeat'(first|exact trivial|exact rfl|apply ap))
 ·have c:¬i.b.hasF 1=aw:=by rw[show i.b.hasF 1=i.b.has1 from rfl,c];decide
  rw[no (by rw[Book.untop,y0y c])];(repeat'(first|exact trivial|exact rfl|apply ap))
def yDa:lead1C.ok Tryz.prog 203:=okw mixed (gokc z6f gok0) 0 (λ_=>[]) (λ_=>[]) [] Tryz.func203 yUa
def zYk {s price:Int} {l:List xC} (h:qU s l price=aw):∃r,l[zY s l price]? =ay r:=by
 rw[qU]at h;split at h
 ·rename_i r hr;exact⟨r,hr⟩
 ·cases h
def yHw (i:BkP) (h:queue1C.cnd i):z3e i:=by
 obtain⟨⟨ha,_⟩,ha',h1,h2,h3⟩:i.b.fit:=h;have hle:=zCm 1 i.price i.b.buys;unfold z3e zM gD u7 aZ aS wX uX wV xW xM dI;refine⟨i,rF7 (rF3 ⟨rfl,⟨⟨ha,oM⟩,oM,oM,oM⟩,λ_ _=> ?_⟩)⟩;simp only[y0z,y3,rL];refine Cv.cnd.mk (λc=> ?_) (λc=> ?_)
 ·obtain⟨r,hr⟩:=zYk c;have hlt:=(y1c.1 hr).1;have e:i.b.queueF 1 i.price=(i.b,r.queue):=by rw[Book.queueF,y1a (by rw[rL];exact c),rL,zV hr]
  rw[e];refine⟨⟨oM,oM⟩,r.queue,elA (by simpa using hr) (by simp[zB]) rfl,(),?_⟩
  (repeat'(first|exact trivial|exact rfl|apply ap))
 ·have e:i.b.queueF 1 i.price=({i.b with a:=i.b.newQ.2.2,buys:=i.b.ins 1 i.price,spare:=i.b.newQ.2.1},i.b.newQ.1):=by
   rw[Book.queueF,y0y (by rw[rL,c];decide),y1a rfl]
  have hins:aa zB (i.b.ins 1 i.price)=ab (zY 1 i.b.buys i.price) (aa zB i.b.buys)++zB ⟨i.price,i.b.newQ.1⟩::ac (zY 1 i.b.buys i.price) (aa zB i.b.buys):=by
   rw[Book.ins,rL,y1i,y1m,y5g,y6d]
  rw[e];refine zH (λd=> ?_) (λd=> ?_)
  ·have w:ae.wrap ((i.b.spare.length:Int)-1)=((i.b.spare.length-1:Nat):Int):=by rw[w64 (by omega)];omega
   rw[w];simp only[y1o];obtain⟨q,hq⟩:=yE (l:=i.b.spare) (i:=i.b.spare.length-1) oM;have eq:i.b.newQ=(q,i.b.spare.take (i.b.spare.length-1),i.b.a):=by rw[Book.newQ,y0y (by omega),zV hq]
   rw[eq]at hins ⊢;refine⟨⟨oM,oM⟩,q,elI hq,⟨oM,oM⟩,trivial,⟨i.b.buys.map zB,zB ⟨i.price,q⟩,zY 1 i.b.buys i.price⟩,rfl,rfl,rfl,⟨by rw[y0z];exact hle,by rw[y0z];omega⟩,λ_ _=>⟨(),?_⟩⟩;have hs:iE (i.b.spare.take (i.b.spare.length-1))=(iE i.b.spare).take (i.b.spare.length-1):=by simp only[iE,y5g]
   exact kp
  ·have eq:i.b.newQ=((i.b.a.queues.length:Int),i.b.spare,i.b.a.openQ):=by rw[Book.newQ,y1a (by omega)]
   rw[eq]at hins ⊢;refine⟨i.b.a,rfl,oM,λ_ _=>⟨trivial,⟨i.b.buys.map zB,zB ⟨i.price,i.b.a.queues.length⟩,zY 1 i.b.buys i.price⟩,rfl,rfl,rfl,⟨by rw[y0z];exact hle,by rw[y0z];omega⟩,λ_ _=>⟨(),?_⟩⟩⟩
   exact kp
def zFm:wS Tryz.prog 241=ay (255,2,16,#[.int .i64 0,.int .i64 0]):=by kernel_rfl
def z6h:insRC.ok Tryz.prog 219:=
 insX_ok (tS:=241) (tI:=3) (fO:=224) (fR:=225) (z:= #[.int .i64 0,.int .i64 0]) mixed Tryz.func219 rfl (by kernel_rfl) (by kernel_rfl) (by kernel_rfl) (by kernel_rfl) zFm rfl Z8 Z8 (by kernel_rfl) Tryz.underlying3
  (yLe (tS:=241) (tB:=4) Tryz.func224 (by kernel_rfl) (by kernel_rfl) (by kernel_rfl) (by kernel_rfl) zFm) (λs sn sk i v vn vk w R=>by kernel_rfl)
def z8q:queue1C.ok Tryz.prog 205:=okw mixed (gokc zLg (gokc zUo (gokc z6h gok0))) 0 (λ_=>[]) (λ_=>[]) [] Tryz.func205 yHw
def yQe (i:BkP) (h:find2C.cnd i):yGc i:=by
 obtain⟨_,h1,h2,_⟩:i.b.small:=h;unfold yGc zGr pN wY zBj xL fW pY dI;simp only[y0z,rJ];refine⟨0,rfl,λj=>j<=i.b.sells.length/\∀k<j,∀r,i.b.sells[k]? =ay r->btr 2 r.price i.price=aw,λj=>i.b.sells.length-j,⟨oM,λk hk=>by omega⟩,?_⟩;rintro j ⟨h3,h4⟩;refine zH (λhj=> ?_) (λhj=> ?_)
 ·obtain⟨r,hr⟩:=yE (l:=i.b.sells) (i:=j) oM;refine⟨⟨oM,oM⟩,r.price,elA hr (by simp[zB]) rfl,⟨2,r.price,i.price⟩,rfl,rfl,rfl,trivial,λ_ _=> ?_⟩;dsimp only;refine Cv.cnd.mk (λe=>⟨j+1,by rw[w64 (by omega)];rfl,⟨oM,λk hk x hx=> ?_⟩,by(first|omega|(dsimp only;omega)),k0q⟩) (λe=>zH (λ_=> ?_) (λc=>absurd hj c))
  ·rcases y3q k j with hk'|hk'
   ·exact h4 k hk' x hx
   ·obtain rfl:k=j:=by omega
    rw[hr]at hx;cases hx;exact e
  ·have en:zY 2 i.b.sells i.price=j:=nH h3 h4 λx hx=>by rw[hr]at hx;cases hx;exact e
   have eb:qU 2 i.b.sells i.price=(r.price==i.price):=by rw[qU,en,hr];exact(zWk _ _).symm
   refine⟨⟨oM,oM⟩,r.price,elA hr (by simp[zB]) rfl,(),by rw[en],eb,?_⟩
   (repeat'(first|exact trivial|exact rfl|apply ap))
 ·have en:zY 2 i.b.sells i.price=j:=nH h3 h4 λx hx=>by have:=(y1c.1 hx).1;omega
  have eb:qU 2 i.b.sells i.price=ax:=by rw[qU,en,y2i (by omega)]
  refine zH (λc=>absurd c hj) (λ_=>⟨(),by rw[en],eb,?_⟩)
  (repeat'(first|exact trivial|exact rfl|apply ap))
def zNr:find2C.ok Tryz.prog 207:=okw mixed (gokc aM gok0) 0 (λ_=>[]) (λ_=>yLz) [] Tryz.func207 yQe
def ySu (i:LdI) (h:lead2C.cnd i):yAt i:=by
 obtain⟨⟨ha,_⟩,h1,h2,_⟩:i.b.small:=h;unfold yAt zAa zBb rD fJ dI;have no (e:i.b.untop 2=i.b.a):af Arena 3 zF (i.b.untop 2)=zO i.b 1:=by rw[e];rfl
 refine Cv.cnd.mk (λc=> ?_) (λc=>⟨(),?_⟩)
 ·have c:i.b.hasF 2=aw:=c;refine⟨k0 _ _,(pget i.b.at_ i.b.top2).isSome,_,_,_,zQw _ _,⟨k0 _ _,(pget i.b.at_ i.b.top2).isSome,_,_,_,zQw _ _,(rF3 trivial),rfl,trivial⟩,rfl,trivial,Cv.cnd.mk (λd=>Cv.cnd.mk (λe=> ?_) (λe=>⟨(),?_⟩)) (λd=>⟨(),?_⟩)⟩
  ·obtain⟨o,ho⟩:=y6i.1 d;have e:o.side=2:=by rw[ho]at e;simpa using e
   have eu:i.b.untop 2=i.b.a.topF o.slot ax:=by
    have ht:pget i.b.at_ (i.b.topI 2)=ay o:=ho;rw[Book.untop,y1a c,ht];dsimp only;rw[y1a e]
   refine⟨⟨i.b.a,o.slot,ax⟩,by rw[ho];rfl,rfl,rfl,ha,λ_ _=>⟨(),?_⟩⟩;rw[eu];(repeat'(first|exact trivial|exact rfl|apply ap))
  ·obtain⟨o,ho⟩:=y6i.1 d;have e:¬o.side=2:=by rw[ho]at e;simpa using e
   have ht:pget i.b.at_ (i.b.topI 2)=ay o:=ho;rw[no (by rw[Book.untop,y1a c,ht];dsimp only;rw[y0y e])];(repeat'(first|exact trivial|exact rfl|apply ap))
  ·have ht:pget i.b.at_ (i.b.topI 2)=az:=by
    show pget i.b.at_ i.b.top2=az;simpa using d
   rw[no (by rw[Book.untop,y1a c,ht])];(repeat'(first|exact trivial|exact rfl|apply ap))
 ·have c:¬i.b.hasF 2=aw:=by rw[show i.b.hasF 2=i.b.has2 from rfl,c];decide
  rw[no (by rw[Book.untop,y0y c])];(repeat'(first|exact trivial|exact rfl|apply ap))
def yFk:lead2C.ok Tryz.prog 203:=okw mixed (gokc z6f gok0) 0 (λ_=>[]) (λ_=>[]) [] Tryz.func203 ySu
def yIy (i:BkP) (h:queue2C.cnd i):z2x i:=by
 obtain⟨⟨ha,_⟩,ha',h1,h2,h3⟩:i.b.fit:=h;have hle:=zCm 2 i.price i.b.sells;unfold z2x zL hP wY gD u7 aZ aS wX xW xL dI;refine⟨i,rF7 (rF3 ⟨rfl,⟨⟨ha,oM⟩,oM,oM,oM⟩,λ_ _=> ?_⟩)⟩;simp only[y0z,y3,rJ];refine Cv.cnd.mk (λc=> ?_) (λc=> ?_)
 ·obtain⟨r,hr⟩:=zYk c;have hlt:=(y1c.1 hr).1;have e:i.b.queueF 2 i.price=(i.b,r.queue):=by rw[Book.queueF,y1a (by rw[rJ];exact c),rJ,zV hr]
  rw[e];refine⟨⟨oM,oM⟩,r.queue,elA (by simpa using hr) (by simp[zB]) rfl,(),?_⟩
  (repeat'(first|exact trivial|exact rfl|apply ap))
 ·have e:i.b.queueF 2 i.price=({i.b with a:=i.b.newQ.2.2,sells:=i.b.ins 2 i.price,spare:=i.b.newQ.2.1},i.b.newQ.1):=by
   rw[Book.queueF,y0y (by rw[rJ,c];decide),y0y (by decide)]
  have hins:aa zB (i.b.ins 2 i.price)=ab (zY 2 i.b.sells i.price) (aa zB i.b.sells)++zB ⟨i.price,i.b.newQ.1⟩::ac (zY 2 i.b.sells i.price) (aa zB i.b.sells):=by
   rw[Book.ins,rJ,y1i,y1m,y5g,y6d]
  rw[e];refine zH (λd=> ?_) (λd=> ?_)
  ·have w:ae.wrap ((i.b.spare.length:Int)-1)=((i.b.spare.length-1:Nat):Int):=by rw[w64 (by omega)];omega
   rw[w];simp only[y1o];obtain⟨q,hq⟩:=yE (l:=i.b.spare) (i:=i.b.spare.length-1) oM;have eq:i.b.newQ=(q,i.b.spare.take (i.b.spare.length-1),i.b.a):=by rw[Book.newQ,y0y (by omega),zV hq]
   rw[eq]at hins ⊢;refine⟨⟨oM,oM⟩,q,elI hq,⟨oM,oM⟩,trivial,⟨i.b.sells.map zB,zB ⟨i.price,q⟩,zY 2 i.b.sells i.price⟩,rfl,rfl,rfl,⟨by rw[y0z];exact hle,by rw[y0z];omega⟩,λ_ _=>⟨(),?_⟩⟩;have hs:iE (i.b.spare.take (i.b.spare.length-1))=(iE i.b.spare).take (i.b.spare.length-1):=by simp only[iE,y5g]
   exact kp
  ·have eq:i.b.newQ=((i.b.a.queues.length:Int),i.b.spare,i.b.a.openQ):=by rw[Book.newQ,y1a (by omega)]
   rw[eq]at hins ⊢;refine⟨i.b.a,rfl,oM,λ_ _=>⟨trivial,⟨i.b.sells.map zB,zB ⟨i.price,i.b.a.queues.length⟩,zY 2 i.b.sells i.price⟩,rfl,rfl,rfl,⟨by rw[y0z];exact hle,by rw[y0z];omega⟩,λ_ _=>⟨(),?_⟩⟩⟩
   exact kp
def z9d:queue2C.ok Tryz.prog 205:=okw mixed (gokc zNr (gokc zUo (gokc z6h gok0))) 0 (λ_=>[]) (λ_=>[]) [] Tryz.func205 yIy
structure BaI where
 b:Book
 id:Int
 price:Int
 qty:Int
def Book.leads (b:Book) (s price:Int):Bool:=match b.rungs s with
 |[]=>aw
 |r::_=>btr s price r.price
def Book.led (b:Book) (id s price:Int):Book:=if b.leads s price=aw then b.leadF id s else b
def Book.stand (b:Book) (s id price qty:Int):Book:=
 let b2:=(b.led id s price).queueF s price
 let x:=b2.1.a.push b2.2 id qty (b.leads s price)
 {b2.1 with a:=x.1,at_:=n9 id ⟨s,price,x.2.1⟩ b2.1.at_}
def Book.addF (b:Book) (s id price qty:Int):Book×Int:=
 if qty<1\/1000000<qty then(b,24)else if(pget b.at_ id).isSome=aw then(b,25)else if 250<=b.at_.length then(b,13)else(b.stand s id price qty,0)
def yAz (s:Int):Con:=zR BaI (λi=>[.nm 0 0,zA i.id,zA s,zA i.price,zA i.qty]) (λi=>[z6 i.b]) (λi=>i.b.fit) (λi=>zA (i.b.addF s i.id i.price i.qty).2) (λi=>[z6 (i.b.addF s i.id i.price i.qty).1])
def yNj:List (Nat×SAnn):=[(44,bj 14)]
def badd1C:Con:=yAz 1
def badd2C:Con:=yAz 2
structure BaJ where
 i:BaI
 s:Bool
def baddC:Con:=zR BaJ (λj=>[.nm 0 0,zA j.i.id,zA (zC j.s),zA j.i.price,zA j.i.qty]) (λj=>[z6 j.i.b]) (λj=>j.i.b.fit) (λj=>zA (j.i.b.addF (zC j.s) j.i.id j.i.price j.i.qty).2) (λj=>[z6 (j.i.b.addF (zC j.s) j.i.id j.i.price j.i.qty).1])
structure SaI where
 s:MSt
 inst:Int
 id:Int
 sd:Bool
 price:Int
 qty:Int
def MSt.bookAt (s:MSt) (n:Int):Book:=s.books.getD n.toNat book0
def MSt.addF (i:SaI):MSt×Int:=
 if i.inst<0\/i.s.books.length<=i.inst then(i.s,20)else if(zBh i.s.wh i.id).isSome=aw then(i.s,25)else if 250<=i.s.wh.length then(i.s,13)else if i.s.p.price i.inst i.price≠0 then(i.s,i.s.p.price i.inst i.price)
 else
  let x:=(i.s.bookAt i.inst).addF (zC i.sd) i.id i.price i.qty
  ({i.s with books:=i.s.books.set i.inst.toNat x.1,wh:=if x.2=0 then zXj i.id i.inst i.s.wh else i.s.wh},x.2)
@[reducible] def MSt.fit (s:MSt):Prop:=s.p.small/\s.books.length<=1000000/\∀b∈s.books,b.fit
def saddC:Con:=zR SaI (λi=>[.nm 0 0,zA i.inst,zA i.id,zA (zC i.sd),zA i.price,zA i.qty]) (λi=>[zD i.s]) (λi=>i.s.fit) (λi=>zA (MSt.addF i).2) (λi=>[zD (MSt.addF i).1])
def n8 (a:BkP):Prop:=(a.b.a.slots.length<=1000000/\(a.b.a.free≠0->∃(b:Slot),b∈a.b.a.slots/\b.used=ax)/\∀(b:dO),b∈a.b.a.queues->b.last=(-1)\/0<=b.last/\b.last<(↑a.b.a.slots.length:Int))/\a.b.a.queues.length<=100000/\a.b.buys.length<=100000/\a.b.sells.length<=100000/\a.b.spare.length<=100000
def rQ (a:PuI):Prop:=a.a.slots.length<=1000000/\(a.a.free≠0->∃(b:Slot),b∈a.a.slots/\b.used=ax)/\∀(b:dO),b∈a.a.queues->b.last=(-1)\/0<=b.last/\b.last<(↑a.a.slots.length:Int)
def yJ (a:BaI):=(a.b.addF 1 a.id a.price a.qty)
def zGa (a:BkP) (b:BaI) (c:Bool):Prop:=(n8 a)/\∀(d:Unit),True->True/\∃(e:PuI),e.n=(zM a).snd/\e.id=b.id/\e.qty=b.qty/\e.top=c/\af Arena 3 zF e.a=af Arena 3 zF (zM a).fst.a/\(rQ e)/\∀(f:Unit),True->(∀(g:be×List D),g∈atE (zM a).fst.at_->like (ba ae b.id) g.fst=aw)/\∃(g:Unit),(yJ b).snd=0/\(yJ b).fst.top1=(zM a).fst.top1/\(yJ b).fst.top2=(zM a).fst.top2/\(yJ b).fst.has1=(zM a).fst.has1/\(yJ b).fst.has2=(zM a).fst.has2/\af Arena 3 zF (yJ b).fst.a=af Arena 3 zF (yH e).fst/\aa zB (yJ b).fst.buys=aa zB (zM a).fst.buys/\aa zB (yJ b).fst.sells=aa zB (zM a).fst.sells/\atE (yJ b).fst.at_=vF (ba ae b.id) [dI 1,dI b.price,dI ((yH e).snd.fst)] (atE (zM a).fst.at_)/\iE (yJ b).fst.spare=iE (zM a).fst.spare/\True
def eV (a:Bool->Prop) (b:Bool) (c:Int) (d:Int) (e:Int) (f:BaI):Prop:=a b/\da (aj [V.d (dI c),V.d (dI d),V.d (dI e)] 238)/\da (aj [V.nm 1 0,V.own 2,V.own 3,V.mp 4,V.d (dI f.b.top1),V.d (dI f.b.top2),V.own 5,V.d (D.v (.bool f.b.has1)),V.d (D.v (.bool f.b.has2))] (245:bt))/\da (af Arena 3 zF f.b.a)/\da (ag 255 2 (aa zB f.b.buys))/\da (ag 255 2 (aa zB f.b.sells))/\da (ao (atE f.b.at_))/\da (ag 3 1 (iE f.b.spare))
def lJ (a:I3') (b:BaI) (c:Int) (d:Bool->Prop) (e:Int) (f:Int) (g:Int):Prop:=a.x=b.price/\a.y=c/\True/\∀(h:Unit),True->∃(j:Bool),j=btr a.side a.x a.y/\eV d j e f g b
def lN (a:Bool->Prop) (b:Int) (c:Int) (d:Int) (e:BaI):Prop:=∃(f:Bool),f=aw/\eV a f b c d e
def mN (a:BaI):Prop:=(yJ a).fst.top1=a.b.top1/\(yJ a).fst.top2=a.b.top2/\(yJ a).fst.has1=a.b.has1/\(yJ a).fst.has2=a.b.has2/\af Arena 3 zF (yJ a).fst.a=af Arena 3 zF a.b.a/\aa zB (yJ a).fst.buys=aa zB a.b.buys/\aa zB (yJ a).fst.sells=aa zB a.b.sells/\atE (yJ a).fst.at_=atE a.b.at_/\iE (yJ a).fst.spare=iE a.b.spare/\True
def zEs (a:BaI):Prop:=∃(b:Unit),(yJ a).snd=24/\mN a
def rP (a:BaI) (b:Int) (c:Int) (d:Int) (e:Bool):Prop:=qQ (ba ae a.id) (atE a.b.at_)=ay [dI b,dI c,dI d]/\e=aw\/qQ (ba ae a.id) (atE a.b.at_)=az/\[dI b,dI c,dI d]=[dI 0,dI 0,dI 0]/\e=ax
def pF (a:LdI):Prop:=(a.b.a.slots.length<=1000000/\a.b.a.queues.length<=1000000)/\a.b.buys.length<=1000000/\a.b.sells.length<=1000000/\a.b.spare.length<=1000000
def qG (a:Int):=(!(decide (a=1)||decide (a=2)))
def yAs (i:BaI):Prop:=
 (∀(a:be×List D),a∈atE i.b.at_->like (ba ae i.id) a.fst=aw)/\∃(a:Bool),∃(b:Int),∃(c:Int),∃(d:Int),(rP i b c d a)/\∃(e:Int),e=1/\True/\∀(f:Unit),True->cnd (qG e) (∃(g:Unit),(yJ i).snd=21/\mN i) (cnd (decide (i.qty<1)) (zEs i) (cnd (decide (i.qty>1000000)) (zEs i) (cnd a (∃(g:Unit),(yJ i).snd=25/\mN i) (cnd (decide ((↑(atE i.b.at_).length:Int)>=250)) (∃(g:Unit),(yJ i).snd=13/\mN i) (∃(g:Bool),∃(h:Bool->Prop),cnd ((↑(aa zB i.b.buys).length:Int)==0) (lN h b c d i) (((0:Int)<=(0:Int)/\0<(↑(aa zB i.b.buys).length:Int))/\∃(j:Int),zE (aa zB i.b.buys) (Int.toNat 0) 0 1=ay [dI j]/\∃(k:I3'),k.side=1/\lJ k i j h b c d)/\∀(j:Bool),h j->cnd j (∃(k:LdI),k.id=i.id/\da ((1:Int))/\k.b.top1=i.b.top1/\k.b.top2=i.b.top2/\k.b.has1=i.b.has1/\k.b.has2=i.b.has2/\af Arena 3 zF k.b.a=af Arena 3 zF i.b.a/\aa zB k.b.buys=aa zB i.b.buys/\aa zB k.b.sells=aa zB i.b.sells/\atE k.b.at_=atE i.b.at_/\iE k.b.spare=iE i.b.spare/\(pF k)/\∀(l:Unit),True->∃(m:BkP),da ((1:Int))/\m.price=i.price/\m.b.top1=k.id/\m.b.top2=k.b.top2/\m.b.has1=aw/\m.b.has2=k.b.has2/\af Arena 3 zF m.b.a=af Arena 3 zF (k.b.untop 1)/\aa zB m.b.buys=aa zB k.b.buys/\aa zB m.b.sells=aa zB k.b.sells/\atE m.b.at_=atE k.b.at_/\iE m.b.spare=iE k.b.spare/\zGa m i j) (∃(k:BkP),da ((1:Int))/\k.price=i.price/\k.b.top1=i.b.top1/\k.b.top2=i.b.top2/\k.b.has1=i.b.has1/\k.b.has2=i.b.has2/\af Arena 3 zF k.b.a=af Arena 3 zF i.b.a/\aa zB k.b.buys=aa zB i.b.buys/\aa zB k.b.sells=aa zB i.b.sells/\atE k.b.at_=atE i.b.at_/\iE k.b.spare=iE i.b.spare/\zGa k i j))))))
def yK (a:BaI):=(a.b.addF 2 a.id a.price a.qty)
def zGj (a:BkP) (b:BaI) (c:Bool):Prop:=(n8 a)/\∀(d:Unit),True->True/\∃(e:PuI),e.n=(zL a).snd/\e.id=b.id/\e.qty=b.qty/\e.top=c/\af Arena 3 zF e.a=af Arena 3 zF (zL a).fst.a/\(rQ e)/\∀(f:Unit),True->(∀(g:be×List D),g∈atE (zL a).fst.at_->like (ba ae b.id) g.fst=aw)/\∃(g:Unit),(yK b).snd=0/\(yK b).fst.top1=(zL a).fst.top1/\(yK b).fst.top2=(zL a).fst.top2/\(yK b).fst.has1=(zL a).fst.has1/\(yK b).fst.has2=(zL a).fst.has2/\af Arena 3 zF (yK b).fst.a=af Arena 3 zF (yH e).fst/\aa zB (yK b).fst.buys=aa zB (zL a).fst.buys/\aa zB (yK b).fst.sells=aa zB (zL a).fst.sells/\atE (yK b).fst.at_=vF (ba ae b.id) [dI 2,dI b.price,dI ((yH e).snd.fst)] (atE (zL a).fst.at_)/\iE (yK b).fst.spare=iE (zL a).fst.spare/\True
def m3 (a:BaI):Prop:=(yK a).fst.top1=a.b.top1/\(yK a).fst.top2=a.b.top2/\(yK a).fst.has1=a.b.has1/\(yK a).fst.has2=a.b.has2/\af Arena 3 zF (yK a).fst.a=af Arena 3 zF a.b.a/\aa zB (yK a).fst.buys=aa zB a.b.buys/\aa zB (yK a).fst.sells=aa zB a.b.sells/\atE (yK a).fst.at_=atE a.b.at_/\iE (yK a).fst.spare=iE a.b.spare/\True
def zFz (a:BaI):Prop:=∃(b:Unit),(yK a).snd=24/\m3 a
def yDl (i:BaI):Prop:=
 (∀(a:be×List D),a∈atE i.b.at_->like (ba ae i.id) a.fst=aw)/\∃(a:Bool),∃(b:Int),∃(c:Int),∃(d:Int),(rP i b c d a)/\∃(e:Int),e=2/\True/\∀(f:Unit),True->cnd (qG e) (∃(g:Unit),(yK i).snd=21/\m3 i) (cnd (decide (i.qty<1)) (zFz i) (cnd (decide (i.qty>1000000)) (zFz i) (cnd a (∃(g:Unit),(yK i).snd=25/\m3 i) (cnd (decide ((↑(atE i.b.at_).length:Int)>=250)) (∃(g:Unit),(yK i).snd=13/\m3 i) (∃(g:Bool),∃(h:Bool->Prop),cnd ((↑(aa zB i.b.sells).length:Int)==0) (lN h b c d i) (((0:Int)<=(0:Int)/\0<(↑(aa zB i.b.sells).length:Int))/\∃(j:Int),zE (aa zB i.b.sells) (Int.toNat 0) 0 1=ay [dI j]/\∃(k:I3'),k.side=2/\lJ k i j h b c d)/\∀(j:Bool),h j->cnd j (∃(k:LdI),k.id=i.id/\da ((2:Int))/\k.b.top1=i.b.top1/\k.b.top2=i.b.top2/\k.b.has1=i.b.has1/\k.b.has2=i.b.has2/\af Arena 3 zF k.b.a=af Arena 3 zF i.b.a/\aa zB k.b.buys=aa zB i.b.buys/\aa zB k.b.sells=aa zB i.b.sells/\atE k.b.at_=atE i.b.at_/\iE k.b.spare=iE i.b.spare/\(pF k)/\∀(l:Unit),True->∃(m:BkP),da ((2:Int))/\m.price=i.price/\m.b.top1=k.b.top1/\m.b.top2=k.id/\m.b.has1=k.b.has1/\m.b.has2=aw/\af Arena 3 zF m.b.a=af Arena 3 zF (k.b.untop 2)/\aa zB m.b.buys=aa zB k.b.buys/\aa zB m.b.sells=aa zB k.b.sells/\atE m.b.at_=atE k.b.at_/\iE m.b.spare=iE k.b.spare/\zGj m i j) (∃(k:BkP),da ((2:Int))/\k.price=i.price/\k.b.top1=i.b.top1/\k.b.top2=i.b.top2/\k.b.has1=i.b.has1/\k.b.has2=i.b.has2/\af Arena 3 zF k.b.a=af Arena 3 zF i.b.a/\aa zB k.b.buys=aa zB i.b.buys/\aa zB k.b.sells=aa zB i.b.sells/\atE k.b.at_=atE i.b.at_/\iE k.b.spare=iE i.b.spare/\zGj k i j))))))
def zEi (a:SaI):Prop:=am 1 (iE (MSt.addF a).fst.p.months)=am 1 (iE a.s.p.months)/\am 1 (iE (MSt.addF a).fst.p.settle)=am 1 (iE a.s.p.settle)/\True
def zEx (a:SaI):Prop:=yM (MSt.addF a).fst.wh=yM a.s.wh/\zEi a
def tC (a:SaI):Prop:=sb (MSt.addF a).fst.p.code=sb a.s.p.code/\(MSt.addF a).fst.p.tick=a.s.p.tick/\(MSt.addF a).fst.p.low=a.s.p.low/\(MSt.addF a).fst.p.high=a.s.p.high/\(MSt.addF a).fst.p.wide=a.s.p.wide/\(MSt.addF a).fst.p.rule=a.s.p.rule/\(MSt.addF a).fst.p.top=a.s.p.top/\(MSt.addF a).fst.p.least=a.s.p.least/\(MSt.addF a).fst.p.part=a.s.p.part/\ak 197 Book 6 zO (MSt.addF a).fst.books az=ak 197 Book 6 zO a.s.books az/\zEx a
def zKf (a:SaI):Prop:=∃(b:Unit),(MSt.addF a).snd=20/\tC a
def mM (a:BaJ):=(a.i.b.addF (zC a.s) a.i.id a.i.price a.i.qty)
def yMg (i:SaI):Prop:=
 (∀(a:be×List D),a∈yM i.s.wh->like (ba ae i.id) a.fst=aw)/\∃(a:Bool),∃(b:Int),(qQ (ba ae i.id) (yM i.s.wh)=ay [dI b]/\a=aw\/qQ (ba ae i.id) (yM i.s.wh)=az/\[dI b]=[dI 0]/\a=ax)/\cnd (decide (i.inst>=0)) (cnd (!decide (i.inst<(↑i.s.books.length:Int))) (zKf i) (cnd a (∃(c:Unit),(MSt.addF i).snd=25/\tC i) (cnd (decide ((↑(yM i.s.wh).length:Int)>=250)) (∃(c:Unit),(MSt.addF i).snd=13/\tC i) (∃(c:rZ),sb c.p.code=sb i.s.p.code/\iE c.p.months=iE i.s.p.months/\c.p.tick=i.s.p.tick/\c.p.low=i.s.p.low/\c.p.high=i.s.p.high/\c.p.wide=i.s.p.wide/\c.p.rule=i.s.p.rule/\c.p.top=i.s.p.top/\c.p.least=i.s.p.least/\c.p.part=i.s.p.part/\iE c.p.settle=iE i.s.p.settle/\c.a=i.inst/\c.b=i.price/\(xS c)/\∀(d:Unit),True->cnd (c.p.price c.a c.b !=0) (∃(e:Unit),(MSt.addF i).snd=c.p.price c.a c.b/\tC i) ((0<=i.inst/\i.inst<(↑i.s.books.length:Int))/\i.inst.toNat<i.s.books.length/\∃(e:Book),i.s.books[i.inst.toNat]?=ay e/\∃(f:BaJ),f.i.id=i.id/\zC f.s=zC i.sd/\f.i.price=i.price/\f.i.qty=i.qty/\z6 f.i.b=z6 e/\((f.i.b.a.slots.length<=1000000/\(f.i.b.a.free≠0->∃(g:Slot),g∈f.i.b.a.slots/\g.used=ax)/\∀(g:dO),g∈f.i.b.a.queues->g.last=(-1)\/0<=g.last/\g.last<(↑f.i.b.a.slots.length:Int))/\f.i.b.a.queues.length<=100000/\f.i.b.buys.length<=100000/\f.i.b.sells.length<=100000/\f.i.b.spare.length<=100000)/\∀(g:Unit),True->∃(h:Book),z6 (mM f).fst=z6 h/\da i.inst.toNat/\i.inst.toNat<i.s.books.length/\cnd ((mM f).snd==0) ((∀(j:be×List D),j∈yM i.s.wh->like (ba ae i.id) j.fst=aw)/\∃(j:Unit),(MSt.addF i).snd=(mM f).snd/\sb (MSt.addF i).fst.p.code=sb i.s.p.code/\(MSt.addF i).fst.p.tick=i.s.p.tick/\(MSt.addF i).fst.p.low=i.s.p.low/\(MSt.addF i).fst.p.high=i.s.p.high/\(MSt.addF i).fst.p.wide=i.s.p.wide/\(MSt.addF i).fst.p.rule=i.s.p.rule/\(MSt.addF i).fst.p.top=i.s.p.top/\(MSt.addF i).fst.p.least=i.s.p.least/\(MSt.addF i).fst.p.part=i.s.p.part/\ak 197 Book 6 zO (MSt.addF i).fst.books az=ak 197 Book 6 zO (i.s.books.set i.inst.toNat h) az/\yM (MSt.addF i).fst.wh=vF (ba ae i.id) [dI i.inst] (yM i.s.wh)/\zEi i) (∃(j:Unit),(MSt.addF i).snd=(mM f).snd/\sb (MSt.addF i).fst.p.code=sb i.s.p.code/\(MSt.addF i).fst.p.tick=i.s.p.tick/\(MSt.addF i).fst.p.low=i.s.p.low/\(MSt.addF i).fst.p.high=i.s.p.high/\(MSt.addF i).fst.p.wide=i.s.p.wide/\(MSt.addF i).fst.p.rule=i.s.p.rule/\(MSt.addF i).fst.p.top=i.s.p.top/\(MSt.addF i).fst.p.least=i.s.p.least/\(MSt.addF i).fst.p.part=i.s.p.part/\ak 197 Book 6 zO (MSt.addF i).fst.books az=ak 197 Book 6 zO (i.s.books.set i.inst.toNat h) az/\zEx i)))))) (zKf i)
end Sx
