/- Texts of ours. No condition. -/
import Derived.Laws.AppendOwn
import Derived.Lib.AppendZerosOnto
import Derived.Lib.Overlaps
import Derived.Test.YtgmmlhddihaocaaGreatS5
set_option linter.all false
open List renaming map->aa,take->ab,drop->ac
open Go.IntKind renaming i64->ae
open Sx.fi renaming qw->af,own->ag,cells->aj,jz->ak,jc->am,map->ao
open And renaming intro->ap
open Go.Builtin renaming zeroCells->aq,copy_->ar,firstCells->au,append_->av
open Bool renaming true->aw,false->ax
open Option renaming some->ay,none->az
open Go.Value renaming int->ba
open Exists renaming intro->bc
open Go renaming Value->be,World->bg,Program->bo,Addr->bu,size_zeroCells->bv,TypeId->bz
namespace Sx
set_option maxRecDepth 100000
open Go Cv Go.Proofs
def cN (l:List (Int×Int)) (k:Int):∀(p:be×List D),p∈yS l->ma (ba ae k) p.1=aw:=λp hp=>yOc l k p hp
def zZi (k v:Int):∀l,u9 (ba ae k) [D.v (.int .i64 v)] (yS l)=yS (IT k v l)
 |[]=>rfl
 |(a,b)::l=>by
  have ih:=zZi k v l;show(bif (wj .i64 .i64 && decide (k=a))then _ else _::u9 _ _ (yS l))=_;rw[ih,IT];by_cases h:k=a
  ·subst h;simp[wj,yS]
  ·simp[h,yS]
def z3o (k:Int):∀l,BI (ba ae k) (yS l)=yS (KH k l)
 |[]=>rfl
 |(a,b)::l=>by
  have ih:=z3o k l;show(bif (wj .i64 .i64 && decide (k=a))then yS l else _::BI _ (yS l))=_;rw[ih,KH];by_cases h:k=a
  ·subst h;simp[wj]
  ·simp[h,yS]
def yZe (l:List (Int×Int)) (k:Int):kR (ba ae k) (yS l)=ay [D.v (.int .i64 ((BY l k).getD 0))]/\(BY l k).isSome=aw\/kR (ba ae k) (yS l)=az/\[D.v (.int .i64 ((BY l k).getD 0))]=[D.v (.int .i64 0)]/\(BY l k).isSome=ax:=by
 rw[rD];cases BY l k with
 |none=>exact .inr ⟨rfl,rfl,rfl⟩
 |some v=>exact .inl ⟨rfl,rfl⟩
def z1o (a b:Int):(a==b)=decide (a=b):=by
 by_cases h:a=b
 ·subst h;simp
 ·simp[h]
def z3n (n:Int):(dP n).small:=⟨by simp[dP],by simp[dP],by simp[dP]⟩
def yW {n lo hi:Int} (h:lo<=hi):lo<=zG n lo hi/\zG n lo hi<=hi:=by
 rw[zG];have h1:=MY n (show hi-lo+1≠0 by omega);have h2:=ON n (show 0<hi-lo+1 by omega);omega
open Go Go.RowKit Cv
def TH {P:bo} {dT sT ty e sz oB:Nat} {z:Array be} (hi:vT P dT=ay (e,sz,oB,z)) {w:bg} {g o dLen dCap b so sLen sCap n:Nat} {cur src:List be} {T T':bz} {fr:Nat×Nat}
 (hg:w.heap[g]? =ay (.cells cur.toArray T (0,0))) (hs:w.heap[b]? =ay (.cells src.toArray T' fr)) (hn:Nat.min sLen dLen=n) (h1:so+n*sz<=src.length) (h2:o+n*sz<=cur.length)
 (DT:∀v∈(src.drop so).take (n*sz),v.og=aw):
 gH P (ar #[dT,sT] ty #[.slice (ay ⟨g,o,az⟩) dLen dCap,.slice (ay ⟨b,so,az⟩) sLen sCap]) w (.int .i64 n) (World.iX w g (.cells (kj cur o ((src.drop so).take (n*sz))).toArray T (0,0))):=by
 obtain⟨i,zv,q1,q2,rfl,rfl,q5,rfl⟩:=kP hi;have hl:((src.drop so).take (n*i.size)).length=n*i.size:=by rw[om,pd];omega
 have ln:=wI (P:=P) ((src.drop so).take (n*i.size)) 0 o cur w hg (by rw[hl];omega) DT;simp only[EJ]at ln;unfold gH ar;simp only[AO,CK,A1,bind,pure,run_bind,Sem.bind,Sem.run,Cv.run_underlying q1,Cv.run_sizeOf q2,Builtin.lenOf,hn,au,gN hs h1,ln];rfl
def Hp.apart {k:Ko} {w:bg} {b c:Nat} {o o':Obj} {L:List HP} (H:Hp k w (pt b o::pt c o'::L)):b≠c:=by
 obtain⟨hk,hs,hh⟩:=H;cases hh with
 |cons ha iY hd hr=>
  cases hr with
  |cons hb JY zq xf=>
   intro e;subst e;have:=hd _ jm b;rw[show _=one b o from ha,show _=one b o' from hb]at this;simp[one]at this
def yWo (P:bo) (tS tI sz fO fR:Nat) (s:Option bu) (sn sk:Nat) (i:Int) (v:Option bu) (vn vk:Nat) (w:bg) (R:Ending->bg->Prop):Prop:=
tn s sn sk (ay i) az sz λa1 na1 ka1=>
dq (((vn:Int):Int)==0) (
R (.returned (.slice s sn sk)) w) (
dq ((i:Int)==(sn:Int)) (
∃(a2:Option bu) (na2 ka2:Nat),∃w3:bg,gH P (av #[tS,tS] tS #[.slice s sn sk,.slice v vn vk]) w (.slice a2 na2 ka2) w3/\
R (.returned (.slice a2 na2 ka2)) w3) (
dq (decide ((ae.wrap ((sn:Int)+(vn:Int)):Int)>(sk:Int))) (
tn s sn sk az (ay i) sz λa4 na4 ka4=>
∃(a5:Option bu) (HB Je:Nat),∃w6:bg,gH P (av #[tS,tI] tS #[.slice a4 na4 ka4,.int .i64 (ae.wrap (ae.wrap ((sn:Int)+(vn:Int))-i))]) w (.slice a5 HB Je) w6/\
tn a5 HB Je (ay i) az sz λa7 na7 ka7=>
∃x8:Int,∃w9:bg,gH P (ar #[tS,tS] tI #[.slice a7 na7 ka7,.slice v vn vk]) w6 (.int .i64 x8) w9/\
Ue w9 λw10=>
tn a5 HB Je (ay (ae.wrap (i+(vn:Int)))) az sz λa11 aak aax=>
tn s sn sk (ay i) az sz λa12 aaj aaw=>
∃x13:Int,∃w14:bg,gH P (ar #[tS,tS] tI #[.slice a11 aak aax,.slice a12 aaj aaw]) w10 (.int .i64 x13) w14/\
R (.returned (.slice a5 HB Je)) w14) (
tn s sn sk az (ay (ae.wrap ((sn:Int)+(vn:Int)))) sz λJv Bd Be=>
tn Jv Bd Be (ay (ae.wrap (i+(vn:Int)))) az sz λa16 aai aav=>
∃c17:Bool,∃w18:bg,Cv.Ext P fO #[.slice v vn vk,.slice a16 aai aav] w (.bool c17) w18/\
dq (!c17) (
Ue w18 λw19=>
tn Jv Bd Be (ay (ae.wrap (i+(vn:Int)))) az sz λa20 aah aau=>
tn Jv Bd Be (ay i) az sz λa21 aag aat=>
∃x22:Int,∃w23:bg,gH P (ar #[tS,tS] tI #[.slice a20 aah aau,.slice a21 aag aat]) w19 (.int .i64 x22) w23/\
tn Jv Bd Be (ay i) az sz λa24 aaf aas=>
∃x25:Int,∃w26:bg,gH P (ar #[tS,tS] tI #[.slice a24 aaf aas,.slice v vn vk]) w23 (.int .i64 x25) w26/\
R (.returned (.slice Jv Bd Be)) w26) (
tn Jv Bd Be (ay (sn:Int)) az sz λa27 aae aar=>
∃x28:Int,∃w29:bg,gH P (ar #[tS,tS] tI #[.slice a27 aae aar,.slice v vn vk]) w18 (.int .i64 x28) w29/\
tn Jv Bd Be (ay i) az sz λa30 aad aaq=>
Calls P fR #[.slice a30 aad aaq,.int .i64 (vn:Int)] w29 λe32 w31=>e32= .returned (.tuple #[])/\
R (.returned (.slice Jv Bd Be)) w31))))
def yDl {α:Type} {l m:Nat} {xs r ys:List α} (hl:l<=xs.length) (hy:ys.length=m) (hr:m<=r.length):
 ((xs++r).take (l+m)++xs.drop l++(xs++r).drop (l+m+(xs.drop l).length)).take l++ys++((xs++r).take (l+m)++xs.drop l++(xs++r).drop (l+m+(xs.drop l).length)).drop (l+ys.length)=(xs.take l++ys++xs.drop l)++r.drop m:=by
 have e1:(xs++r).drop (l+m+(xs.drop l).length)=r.drop m:=by
  rw[pd,show l+m+(xs.length-l)=xs.length+m by omega,KQ];simp
 have e2:((xs++r).take (l+m)++xs.drop l++r.drop m).take l=xs.take l:=by
  rw[jh,xk (by rw[om,iv];omega),List.take_take,GD (by omega),xk hl]
 have e3:((xs++r).take (l+m)++xs.drop l++r.drop m).drop (l+ys.length)=xs.drop l++r.drop m:=by
  have:((xs++r).take (l+m)).length=l+m:=by rw[om,iv];omega
  rw[jh,hy,KQ,this,I0,DA,Hz (by omega),xj]
 rw[e1,e2,e3];simp
def V0 (A Z Y:List be):kj (A++Z) A.length Y=A++Y++Z.drop Y.length:=by
 simp only[kj];rw[KM,KQ];simp
def Mo {b o n c i:Nat} (h:c≠i):(if c=i then(ay ⟨b,o,az⟩:Option bu)else(ay ⟨b,o,az⟩:Option bu).map (·.add n))=ay ⟨b,o+n,az⟩:=by
 rw[fb h,we,uD]
def V9 (P:bo) (fO:Nat):Prop:=∀(w:bg) (va sb so la ca lb cb:Nat) (c c':Array be) (T T':bz),va≠sb->w.heap[va]?=ay (.cells c T (0,0))->w.heap[sb]?=ay (.cells c' T' (0,0))->c'.size≠0->
 Cv.Ext P fO #[.slice (ay ⟨va,0,az⟩) la ca,.slice (ay ⟨sb,so,az⟩) lb cb] w (.bool ax) w
def yBx {P : Program} {fO tS tB e sz oB : Nat} {z : Array Value} {fn : Func} (hf : P.funcs[fO]? = some fn) (Br : (fn.name == "runtime.NumGoroutine") = false) (hb : fn.body.isNone = true) (hn : Extern.findNext fn = none) (he : Extern.find fn = some (Extern.SlicesOverlaps.overlaps #[tS, tS] #[tB]))
 (hi:vT P tS=ay (e,sz,oB,z)):V9 P fO:=by
 obtain⟨i,zv,q1,q2,rfl,rfl,q5,rfl⟩:=kP hi;intro w va sb so la ca lb cb c c' T T' ji h1 h2 h3;unfold Cv.Ext;rw[run_callFunc_extern hf Br hb hn he,Lib.run_overlaps_apart w tS tB e q1 i.size (λw=>Cv.run_sizeOf q2 w) ⟨va,0,az⟩ ⟨sb,so,az⟩ la ca lb cb ji T T' c.size c'.size (by simp[World.shape?,h1]) (by simp[World.shape?,h2]) h3 (by simp[World.frozen?,h1]) (by simp[World.frozen?,h1])];rfl
def y7s {P:bo} {tS tI e sz oB fO fR:Nat} {z:Array be} (hi:vT P tS=ay (e,sz,oB,z)) (hz:z.size=sz) (Em:0<oB) (oZ:0<sz) (h2:KF P tS=aw) (HG:P.underlying tI=ay (.int .i64)) (hov:V9 P fO)
 {k:Ko} {w:bg} {L:List HP} {s v:Option bu} {sn sk vn vk i:Nat} {xs ys:List be} (H:Hp k w (oq e sz s sn sk xs::oq e sz v vn vk ys::L)) (h1:∀u∈xs,u.og=aw) (hy:∀u∈ys,u.og=aw) (vt:i<=sn) (hv:0<vn)
 (hb:(sn+vn)*oB<=140737488355328):
 yWo P tS tI sz fO fR s sn sk i v vn vk w λen w'=>∃a kk,en= .returned (.slice a (sn+vn) kk)/\Hp k w' (oq e sz a (sn+vn) kk (xs.take (i*sz)++ys++xs.drop (i*sz))::oq e sz v vn vk ys::L):=by
 obtain⟨xd,HJ⟩:=H.len;obtain⟨CP,hvk⟩:=H.swap.len;have hnm:sn+vn<=140737488355328:=xi (Nat.le_mul_of_pos_right _ Em) hb;have w1:ae.wrap ((sn:Int)+(vn:Int))=((sn+vn:Nat):Int):=by rw[Cv.wrap_i64 (by omega) (by omega)];simp
 have w2:ae.wrap ((i:Int)+(vn:Int))=((i+vn:Nat):Int):=by rw[Cv.wrap_i64 (by omega) (by omega)];simp
 have w3:ae.wrap (((sn+vn:Nat):Int)-(i:Int))=((sn+vn-i:Nat):Int):=by rw[Cv.wrap_i64 (by omega) (by omega)];omega
 have hle:i*sz<=xs.length:=by rw[xd];exact wz _ vt
 have HF:(xs.take (i*sz)).length=i*sz:=by rw[om];omega
 have GW:(xs.drop (i*sz)).length=(sn-i)*sz:=by rw[pd,xd,Nat.sub_mul]
 have Cm:(i+vn)*sz=i*sz+vn*sz:=zi _ _ _;have JX:(sn+vn)*sz=i*sz+vn*sz+(sn-i)*sz:=by rw[<- zi,<- zi];congr 1;omega
 have Ik:(xs.take (i*sz)++ys++xs.drop (i*sz)).length=(sn+vn)*sz:=by
  rw[iv,iv,HF,CP,GW,JX]
 unfold yWo;simp only[tn,w1,w2,w3,oF];refine⟨⟨oM,oM,HJ⟩,Cv.dq.mk (λc=>absurd c (by simp;omega)) λ_=>Cv.dq.mk (λc=> ?_) λc=>Cv.dq.mk (λhc=> ?_) λhc=> ?_⟩
 ·have c:i=sn:=by have:(i:Int)=(sn:Int):=by simpa using c
                  omega
  subst c;obtain⟨a',c',w',r1,r2⟩:=H.append (rt:=tS) hi h2 (x:= .slice v vn vk) (m:=vn) (ys:=ys) (.inl ⟨v,vk,rfl,H.swap.Ib⟩) hy hz Em hb;refine⟨a',_,c',w',r1,a',c',rfl,?_⟩;rw[oh (by omega),Hz (by omega),oU];exact r2
 ·have c:i<sn:=by have:¬(i:Int)=(sn:Int):=by simpa using c
                  omega
  have hc:sk<sn+vn:=by have:=oV hc;omega
  obtain⟨inf,zv,q1,q2,q3,q4,q5,q6⟩:=kP hi;subst q3 q4 q6;rcases H.oC with⟨_,e0,_⟩|⟨b,r,rfl,g1,g2,g3,H0⟩
  ·omega
  rcases H0.swap.oC with⟨_,e0,_⟩|⟨vb,rv,rfl,g4,g5,g6,H1⟩
  ·omega
  have hold:(au inf.size i (.slice (ay ⟨b,0,az⟩) i sk)).run P w.drew= .ok (xs.take (i*inf.size)).toArray w.drew:=by
   have hbk:=(H1.drew).swap.get;have:=gN (P:=P) (o:=0) (n:=i*inf.size) hbk (by rw[iv];omega);unfold au;rw[this,DA,xk hle]
  have RQ:=zOk (need:=sn+vn) (cap:=sk) oM;have abc:=wz inf.bytes RQ;have e2:2*(sn+vn)*inf.bytes=2*((sn+vn)*inf.bytes):=by rw[Nat.mul_assoc]
  have hkb:(sn+vn-i)*inf.bytes<=(sn+vn)*inf.bytes:=wz _ oM;have PB:=Lib.run_append_grow_zeros (P:=P) w tS tI tS e inf zv .i64 .i64 q1 HG q2 q5 (ay ⟨b,0,az⟩) i sk (xs.take (i*inf.size)) hold (sn+vn-i) oM oZ oM oM oM (by rw[show i+(sn+vn-i)=sn+vn by omega];omega);rw[show i+(sn+vn-i)=sn+vn by omega]at PB;have hG:sn+vn<=grownCap w (sn+vn) sk e:=grownCap_ge w (sn+vn) sk e;generalize grownCap w (sn+vn) sk e=G at PB hG;have Fh:(xs.take (i*inf.size)).toArray++aq zv.cells (sn+vn-i)++aq zv.cells (G-(sn+vn))=(xs.take (i*inf.size)++((aq zv.cells (sn+vn-i)).toList++(aq zv.cells (G-(sn+vn))).toList)).toArray:=by
   apply Array.ext';simp
  rw[Fh]at PB;have Vn:((aq zv.cells (sn+vn-i)).toList++(aq zv.cells (G-(sn+vn))).toList).length=(sn+vn-i)*inf.size+(G-(sn+vn))*inf.size:=by
   rw[iv,Ja,Ja,bv,bv,hz]
  generalize (aq zv.cells (sn+vn-i)).toList++(aq zv.cells (G-(sn+vn))).toList=Z at PB Vn;have hZ2:(sn+vn-i)*inf.size=vn*inf.size+(sn-i)*inf.size:=by rw[<- zi];congr 1;omega
  have H2:=(H1.drew).new (.cells (xs.take (i*inf.size)++Z).toArray e);have hB:w.drew.heap.size=w.heap.size:=rfl;rw[hB]at H2;have Cd:=TH (P:=P) (sT:=tS) (ty:=tI) hi (g:=w.heap.size) (o:=0+i*inf.size) (dLen:=sn+vn-i) (dCap:=G-i) (b:=vb) (so:=0) (sLen:=vn) (sCap:=vk) (n:=vn) H2.get H2.swap.get (GD oM) (by rw[iv];omega) (by rw[iv,HF,Vn];omega) (by
   rw[DA,xk (by omega),oh (by omega)];exact hy)
  rw[DA,xk (by omega),oh (show ys.length<=vn*inf.size by omega),oa]at Cd;have es1:kj (xs.take (i*inf.size)++Z) (i*inf.size) ys=xs.take (i*inf.size)++ys++Z.drop ys.length:=by
   have:=V0 (xs.take (i*inf.size)) Z ys;rwa [HF]at this
  rw[es1]at Cd;have H3:=(H2.yt (.cells (xs.take (i*inf.size)++ys++Z.drop ys.length).toArray e)).drew;have PD:(xs++r).drop (i*inf.size)=xs.drop (i*inf.size)++r:=EN hle;have BP:=TH (P:=P) (sT:=tS) (ty:=tI) hi (g:=w.heap.size) (o:=0+(i+vn)*inf.size) (dLen:=sn+vn-(i+vn)) (dCap:=G-(i+vn)) (b:=b) (so:=0+i*inf.size) (sLen:=sn-i) (sCap:=sk-i) (n:=sn-i) H3.get H3.swap.drop.swap.get (GD oM) (by rw[iv,xd,oa,<- zi];exact xi (wz _ oM) (Nat.le_add_right _ _)) (by
   rw[iv,iv,HF,CP,pd,Vn];omega) (by
   rw[oa,PD,xk (by omega),oh (by omega)];exactλu hu=>h1 u (Jb hu))
  rw[oa,oa,PD,xk (by omega),oh (show(xs.drop (i*inf.size)).length<=(sn-i)*inf.size by omega)]at BP;have es2:kj (xs.take (i*inf.size)++ys++Z.drop ys.length) ((i+vn)*inf.size) (xs.drop (i*inf.size))=xs.take (i*inf.size)++ys++xs.drop (i*inf.size)++(Z.drop ys.length).drop (xs.drop (i*inf.size)).length:=by
   have:=V0 (xs.take (i*inf.size)++ys) (Z.drop ys.length) (xs.drop (i*inf.size));rwa [show(xs.take (i*inf.size)++ys).length=(i+vn)*inf.size by rw[iv,HF,CP,Cm]]at this
  rw[es2]at BP;refine⟨⟨oM,oM⟩,_,_,_,_,PB,?_⟩;rw[Mo (show G≠i by omega),oa];refine⟨⟨oM,oM,hG⟩,_,_,Cd,?_⟩;rintro _ rfl;rw[Mo (show G≠i+vn by omega),Mo (show sk≠i by omega),oa,oa];refine⟨⟨oM,oM,hG⟩,⟨oM,oM,HJ⟩,_,_,BP,_,_,rfl,?_⟩;have H4:=H3.yt (.cells (xs.take (i*inf.size)++ys++xs.drop (i*inf.size)++(Z.drop ys.length).drop (xs.drop (i*inf.size)).length).toArray e);have H5:=H4.As (n:=sn+vn) (c:=G) (sz:=inf.size) Ik (by
   rw[iv,Ik,pd,pd,Vn,CP,GW];have:G*inf.size=(sn+vn)*inf.size+(G-(sn+vn))*inf.size:=by rw[<- zi];congr 1;omega
   omega) hG
  have H6:=H5.swap.As (n:=vn) (c:=vk) (sz:=inf.size) g4 g5 g6;exact(H6.swap.perm (List.Perm.trans ((List.Perm.swap _ _ _).cons _) (List.Perm.swap _ _ _))).drop
 ·have c:i<sn:=by have:¬(i:Int)=(sn:Int):=by simpa using c
                  omega
  have hc:sn+vn<=sk:=by have:=KS hc;omega
  rcases H.oC with⟨_,e0,_⟩|⟨b,r,rfl,g1,g2,g3,H0⟩
  ·omega
  rcases H0.swap.oC with⟨_,e0,_⟩|⟨vb,rv,rfl,g4,g5,g6,H1⟩
  ·omega
  have DH:vn*sz<=r.length:=by
   have e1:(sn+vn)*sz<=sk*sz:=wz _ hc;rw[iv,g1]at g2;rw[zi]at e1;omega
  have H2:=H1.swap;have ji:vb≠b:=Hp.apart H1;have PD:(xs++r).drop (i*sz)=xs.drop (i*sz)++r:=EN hle;have hex:=hov w vb b (0+(i+vn)*sz) vn vk (sn+vn-(i+vn)) (sk-(i+vn)) (ys++rv).toArray (xs++r).toArray e e ji H1.get H2.get (by
   rw[I8,iv,g1];have:=Nat.mul_pos (show 0<sn by omega) oZ;omega)
  have H3:=H2.drew;have Cd:=TH (P:=P) (sT:=tS) (ty:=tI) hi (g:=b) (o:=0+(i+vn)*sz) (dLen:=sn+vn-(i+vn)) (dCap:=sk-(i+vn)) (b:=b) (so:=0+i*sz) (sLen:=sn+vn-i) (sCap:=sk-i) (n:=sn-i) H3.get H3.get (by rw[show sn+vn-(i+vn)=sn-i by omega];exact Nat.min_eq_right oM) (by
   rw[iv,g1,oa,<- zi];exact xi (wz _ oM) (Nat.le_add_right _ _)) (by
   rw[iv,g1,oa,<- zi,show i+vn+(sn-i)=sn+vn by omega,zi];omega) (by
   rw[oa,PD,xk (by omega),oh (by omega)];exactλu hu=>h1 u (Jb hu))
  rw[oa,oa,PD,xk (by omega),oh (show(xs.drop (i*sz)).length<=(sn-i)*sz by omega)]at Cd;have H4:=H3.yt (.cells (kj (xs++r) ((i+vn)*sz) (xs.drop (i*sz))).toArray e);have wm:(kj (xs++r) ((i+vn)*sz) (xs.drop (i*sz))).length=(xs++r).length:=by
   simp only[kj,iv,om,GW];rw[pd,iv,g1,Cm];have:sn*sz=i*sz+(sn-i)*sz:=by rw[<- zi];congr 1;omega
   omega
  have BP:=TH (P:=P) (sT:=tS) (ty:=tI) hi (g:=b) (o:=0+i*sz) (dLen:=sn+vn-i) (dCap:=sk-i) (b:=vb) (so:=0) (sLen:=vn) (sCap:=vk) (n:=vn) H4.get H4.swap.get (GD oM) (by rw[iv];omega) (by
   rw[wm,iv,oa];omega) (by
   rw[DA,xk (by omega),oh (by omega)];exact hy)
  rw[DA,xk (by omega),oh (show ys.length<=vn*sz by omega),oa]at BP;have es:kj (kj (xs++r) ((i+vn)*sz) (xs.drop (i*sz))) (i*sz) ys=(xs.take (i*sz)++ys++xs.drop (i*sz))++r.drop (vn*sz):=by
   have:=yDl (l:=i*sz) (m:=vn*sz) (xs:=xs) (r:=r) (ys:=ys) hle CP DH;simp only[kj,Cm];exact this
  rw[es]at BP;refine⟨⟨oM,oM⟩,⟨oM,oM,oM⟩,ax,w,?_,Cv.dq.mk (λ_=> ?_) (λc=>absurd c Z8)⟩
  ·rw[Mo (show sk≠i+vn by omega)];exact hex
  rintro _ rfl;rw[Mo (show sk≠i+vn by omega),Mo (show sk≠i by omega),oa,oa];refine⟨⟨oM,oM,oM⟩,⟨oM,oM,oM⟩,_,_,Cd,⟨oM,oM,oM⟩,_,_,BP,_,_,rfl,?_⟩;have H5:=H4.yt (.cells (xs.take (i*sz)++ys++xs.drop (i*sz)++r.drop (vn*sz)).toArray e);have H6:=H5.As (n:=sn+vn) (c:=sk) (sz:=sz) Ik (by
   rw[iv,Ik,pd,<- g2,iv,g1,zi];omega) hc
  exact(H6.swap.As (n:=vn) (c:=vk) (sz:=sz) g4 g5 g6).swap
structure Ky where
 ez:List (List D)
 el:List D
 i:Nat
def OL (e sz oB:Nat):gi where
 ι:=Ky
 pat:=λi=>[.own 0,.d (.v (.int .i64 i.i)),.own 1]
 pre:=λi=>[.own e sz i.ez,.own e sz [i.el]]
 dq:=λi=>i.i<=i.ez.length/\(i.ez.length+1)*oB<=140737488355328
 alts:=λi=>[{o:=Unit,res:=λ_=> .own 2,post:=λ_=>[.gone,.gone,.own e sz (i.ez.take i.i++i.el::i.ez.drop i.i)],rel:=λ_=>True}]
def Dr {P:bo} (hm:P.follows .mixedOrders=aw) {tS tI e sz oB fI fO fR:Nat} {z:Array be} {fn:Func} {c:Code} (hf:P.funcs[fI]? =ay fn) (hb:fn.body=ay c) (BQ:hZ P fI=aw) (oS:xb fn.ntmps c=aw) (K5:okF [] c=aw) (Lm:Nat.ble 3 fn.ntmps=aw)
 (hi:vT P tS=ay (e,sz,oB,z)) (hz:z.size=sz) (Em:0<oB) (oZ:0<sz) (h2:KF P tS=aw) (HG:P.underlying tI=ay (.int .i64)) (hov:V9 P fO)
 (heq:∀(s:Option bu) (sn sk:Nat) (i:Int) (v:Option bu) (vn vk:Nat) (w:bg) (R:Ending->bg->Prop),yWo P tS tI sz fO fR s sn sk i v vn vk w R=Et P [] c (Sk P fn R) (hJ [.slice s sn sk,.int .i64 i,.slice v vn vk]) w):
 (OL e sz oB).ok P fI:=by
 intro i hc k L E w ys R hv;obtain⟨c1,c2⟩:i.i<=i.ez.length/\(i.ez.length+1)*oB<=140737488355328:=hc;simp only[OL,gw,VR,DR]at hv;obtain⟨y0,_,rfl,⟨l0,e0,_⟩,y1,_,rfl,⟨rfl,_⟩,y2,_,rfl,⟨l2,e2,_⟩,rfl⟩:=hv;obtain⟨s,sk,xs,aaa,g1,vp,hu,H⟩:=R.si (n:=0) (t:=e) (sz:=sz) (ez:=i.ez) rfl;rw[e0]at g1;cases g1;have rn:∃v vk zs,y2= .slice v 1 vk/\iF E.F i.el zs/\i.el.length=sz/\Hp k w (oq e sz s i.ez.length sk xs::oq e sz v 1 vk zs::fz E.F::L):=by
  obtain⟨hk,hs,hh⟩:=H;cases hh with
  |cons ha iY hd hr=>
   simp only[OL,gF,vK,jx,CG,uc,xj]at hr;cases hr with
   |cons nh JY zq xf=>
    rcases nh with⟨q,_⟩|⟨⟨K0,sx⟩,q1,q2⟩
    ·cases q
    ·simp only at q1;rw[e2]at q1;cases q1;simp only[fm]at q2;obtain⟨a,kk,zs,rfl,q3,q4,q5⟩:=q2;simp only[AM,List.flatten_nil,oU]at q3;exact⟨a,kk,zs,rfl,q3,q4 _ jm,hk,_,.cons ha iY hd (.cons q5 JY zq xf)⟩
 obtain⟨v,vk,zs,rfl,Nk,oT,H2⟩:=rn;have hv:=y7s (fR:=fR) (fO:=fO) hi hz Em oZ h2 HG hov (i:=i.i) H2 vp.one Nk.one c1 oM c2;have vz:=zLz (args:=[.slice s i.ez.length sk,.int .i64 i.i,.slice v 1 vk]) hm hf hb [] oS K5 Lm (heq s i.ez.length sk i.i v 1 vk w _) hv;refine mT BQ (vz.mono ?_);rintro en w' ⟨a,kk,rfl,H3⟩;have H4:Hp k w' (oq e sz a (i.ez.take i.i++i.el::i.ez.drop i.i).length kk (xs.take (i.i*sz)++zs++xs.drop (i.i*sz))::(([]:List (Nat×fi)).map (gz E)++fz E.F::L)):=by
  have:(i.ez.take i.i++i.el::i.ez.drop i.i).length=i.ez.length+1:=by
   rw[iv,iJ,om,pd];omega
  rw[this];exact H3.swap.drop
 obtain⟨E',r1,r2,r3⟩:=bH (nx:=2) R.nx (by
  rw[M4,AM,<- sC i.i hu,<- r9 i.i hu,<- jh];exact((vp.take _).append Nk).append (vp.drop _)) (λx hx=>by
   rcases pz.1 hx with hx|hx
   ·exact hu x (M6 hx)
   ·rcases mn.1 hx with rfl|hx
    ·exact oT
    ·exact hu x (Jb hx)) H4
 have hl:(i.ez.take i.i++i.el::i.ez.drop i.i).length=i.ez.length+1:=by
  rw[iv,iJ,om,pd];omega
 rw[hl]at r3;refine⟨_,rfl,_,vm.2 rfl,(),trivial,E',r1,r3,⟨r2.nx,?_⟩⟩;have q1:=((@h9 k w' True _).2 ⟨trivial,r2.hp⟩).imp (B:=gz E' (1,.gone)) λx hx=> .inl ⟨rfl,hx.2⟩
 have q2:=((@h9 k w' True _).2 ⟨trivial,q1⟩).imp (B:=gz E' (0,.gone)) λx hx=> .inl ⟨rfl,hx.2⟩
 exact q2
def Gn:gi:=fp DM (λi=>[zA i.side,zA i.x,zA i.y]) (λ_=>[]) (λ_=>True) (λi=>yN (ki i.side i.x i.y)) (λ_=>[])
@[reducible] def y4i (s:Slot):V:= .agg [yN s.used,zA s.n,zA s.id,zA s.dr,yN s.top,zA s.queue,zA s.ahead,zA s.back]
def LQ:gi:=fp Slot (λs=>[y4i s]) (λ_=>[]) (λ_=>True) (λs=>yN (!s.used)) (λ_=>[])
def jC (l:List Slot):Int:=IK (l.findIdx? λs=> !s.used)
def BB:gi:=fp (List Slot) (λ_=>[.own 0,.fn 255 [] []]) (λl=>[.own 314 8 (l.map zR)]) (λl=>l.length<=1000000) (λl=>zA (jC l)) (λl=>[.own 314 8 (l.map zR)])
def yLe (l:List Slot):List gp:=[{ι:=Nat,dv:=λj=>[(8,zA j)],rows:=λ_=>[]}]
def mA:bL:=⟨-1,-1,0,0⟩
def du.rr (a:du):du:={a with dz:=a.dz++[mA]}
def Mb:gi:=fp du (λ_=>[.nm 0 0]) (λa=>[wB a]) (λa=>a.dz.length<=1000000) (λa=>zA a.dz.length) (λa=>[wB a.rr])
structure MU where
 a:du
 n:Int
 t:Bool
def du.iz (a:du) (n:Int):Bool:=decide (0<=n) && (decide (n<a.dv.length) && (a.dv.getD n.toNat iH).used)
def du.mi (a:du) (n:Int) (t:Bool):du:=if a.iz n=aw then{a with dv:=a.dv.modify n.toNat λs=>{s with top:=t}}else a
def Kc:gi:=fp MU (λi=>[.nm 0 0,zA i.n,yN i.t]) (λi=>[wB i.a]) (λi=>i.a.dv.length<=1000000) (λi=>zA (if i.a.iz i.n=aw then 0 else 26)) (λi=>[wB (i.a.mi i.n i.t)])
structure C0 where
 a:du
 n:Int
 id:Int
 dr:Int
 top:Bool
def du.put (a:du) (n id dr:Int) (top:Bool):du:=
 let q:=a.dz.getD n.toNat mA
 let k:=jC a.dv
 let sl:=a.dv.set k.toNat ⟨aw,k,id,dr,top,n,q.last,-1⟩
 ⟨if q.last= -1 then sl else sl.modify q.last.toNat λs=>{s with back:=k},a.dz.set n.toNat ⟨if q.last= -1 then k else q.first,k,ae.wrap (q.total+dr),ae.wrap (q.count+1)⟩,ae.wrap (a.free-1)⟩
def du.push (a:du) (n id dr:Int) (top:Bool):du×Int×Int:=
 if n<0\/a.dz.length<=n then(a,0,26)else if dr<1\/1000000<dr then(a,0,24)else if a.free=0 then(a,0,13)else(a.put n id dr top,jC a.dv,0)
def du.fit (a:du):Prop:=a.dv.length<=1000000/\(a.free≠0->∃s∈a.dv,s.used=ax)/\∀q∈a.dz,q.last= -1\/(0<=q.last/\q.last<a.dv.length)
def Ga:gi:=fp C0 (λi=>[.nm 0 0,zA i.n,zA i.id,zA i.dr,yN i.top]) (λi=>[wB i.a]) (λi=>i.a.fit) (λi=> .ja [zA (i.a.push i.n i.id i.dr i.top).2.1,zA (i.a.push i.n i.id i.dr i.top).2.2]) (λi=>[wB (i.a.push i.n i.id i.dr i.top).1])
@[reducible] def IL (b:dp):List fi:=[zQ b 0,zQ b 1,zQ b 2,zQ b 3,zQ b 4,zQ b 5]
structure oO where
 b:dp
 dk:Int
def zZ (s:Int) (l:List xM) (dk:Int):Nat:=(l.takeWhile λr=>ki s r.dk dk).length
def kT (s:Int) (l:List xM) (dk:Int):Bool:=match l[zZ s l dk]? with
 |some r=>decide (r.dk=dk)
 |none=>ax
def dp.eg (b:dp) (s:Int):List xM:=if s=1 then b.fc else b.dw
def yNn (s:Int):gi:=fp oO (λi=>[.nm 0 0,zA s,zA i.dk]) (λi=>IL i.b) (λi=>i.b.small) (λi=> .ja [zA (zZ s (i.b.eg s) i.dk),yN (kT s (i.b.eg s) i.dk)]) (λi=>IL i.b)
def FV:gi:=yNn 1
def FU:gi:=yNn 2
def yVp:List gp:=[{ι:=Nat,dv:=λj=>[(9,zA j)],rows:=λ_=>[]}]
def kr (l:List (Int×Place)) (k:Int):Option Place:=(l.find? λx=>decide (x.1=k)).map (·.2)
def eN (k:Int) (v:Place):List (Int×Place)->List (Int×Place)
 |[]=>[(k,v)]
 |(a,b)::l=>if k=a then(a,v)::l else(a,b)::eN k v l
structure Ci where
 b:dp
 id:Int
def dp.mq (b:dp) (s:Int):Bool:=if s=1 then b.fv else b.fw
def dp.iZ (b:dp) (s:Int):Int:=if s=1 then b.gm else b.gn
def dp.iU (b:dp) (s:Int):du:=if b.mq s=aw then(match kr b.at_ (b.iZ s)with
 |some o=>if o.side=s then b.a.mi o.slot ax else b.a
 |none=>b.a)else b.a
def dp.jf (b:dp) (id s:Int):dp:=if s=1 then{b with a:=b.iU s,gm:=id,fv:=aw}else{b with a:=b.iU s,gn:=id,fw:=aw}
def yJq (s:Int):gi:=fp Ci (λi=>[.nm 0 0,zA i.id,zA s]) (λi=>IL i.b) (λi=>i.b.small) (λ_=>bN) (λi=>IL (i.b.jf i.id s))
def FQ:gi:=yJq 1
def FP:gi:=yJq 2
def dp.iQ (b:dp):Int×List Int×du:=if b.spare.length=0 then(b.a.dz.length,b.spare,b.a.rr)else(b.spare.getD (b.spare.length-1) 0,b.spare.take (b.spare.length-1),b.a)
def dp.ins (b:dp) (s dk:Int):List xM:=(b.eg s).take (zZ s (b.eg s) dk)++⟨dk,b.iQ.1⟩::(b.eg s).drop (zZ s (b.eg s) dk)
def dp.ga (b:dp) (s dk:Int):dp×Int:=
 if kT s (b.eg s) dk=aw then(b,((b.eg s).getD (zZ s (b.eg s) dk) ⟨0,0⟩).queue)
 else(if s=1 then{b with a:=b.iQ.2.2,fc:=b.ins s dk,spare:=b.iQ.2.1}else{b with a:=b.iQ.2.2,dw:=b.ins s dk,spare:=b.iQ.2.1},b.iQ.1)
def yPy (b:dp):fi:= .cells [.nm 1 0,.own 6,.own 3,.mp 4,zA b.gm,zA b.gn,.own 7,yN b.fv,yN b.fw] 273
def ySe (b:dp):fi:= .cells [.nm 1 0,.own 2,.own 6,.mp 4,zA b.gm,zA b.gn,.own 7,yN b.fv,yN b.fw] 273
@[reducible] def yYk (b:dp):List fi:=[yPy b,zQ b 1,.gone,zQ b 3,zQ b 4,.gone,zQ b 2,zQ b 5]
@[reducible] def y0m (b:dp):List fi:=[ySe b,zQ b 1,zQ b 2,.gone,zQ b 4,.gone,zQ b 3,zQ b 5]
@[reducible] def dp.fit (b:dp):Prop:=b.a.fit/\b.a.dz.length<=100000/\b.fc.length<=100000/\b.dw.length<=100000/\b.spare.length<=100000
def Di:gi:=fp oO (λi=>[.nm 0 0,zA 1,zA i.dk]) (λi=>IL i.b) (λi=>i.b.fit) (λi=>zA (i.b.ga 1 i.dk).2) (λi=>yYk (i.b.ga 1 i.dk).1)
def Dh:gi:=fp oO (λi=>[.nm 0 0,zA 2,zA i.dk]) (λi=>IL i.b) (λi=>i.b.fit) (λi=>zA (i.b.ga 2 i.dk).2) (λi=>y0m (i.b.ga 2 i.dk).1)
def Ry:gi:=OL 276 2 16
def z2g (i:DM):Prop:=
 dq (i.side==1) (∃(a:Unit),ki i.side i.x i.y=decide (i.x>i.y)/\True) (∃(a:Unit),ki i.side i.x i.y=decide (i.x<i.y)/\True)
def yMa (s:Slot):Prop:=
 ∃(a:Unit),(!s.used)=!s.used/\True
def z2f (l:List Slot):Prop:=
 ∃(a:Nat),(↑a:Int)=0/\∃(b:Nat->Prop),∃(c:Nat->Nat),b a/\∀(d:Nat),b d->dq (decide ((↑d:Int)<(↑(aa zR l).length:Int))) ((0<=(↑d:Int)/\(↑d:Int)<(↑(aa zR l).length:Int))/\∃(e:Bool),∃(f:Int),∃(g:Int),∃(h:Int),∃(j:Bool),∃(k:Int),∃(m:Int),∃(n:Int),zD (aa zR l) (↑d:Int).toNat 0 8=ay [D.v (.bool e),dI f,dI g,dI h,D.v (.bool j),dI k,dI m,dI n]/\∃(p:Slot),p.used=e/\p.n=f/\p.id=g/\p.dr=h/\p.top=j/\p.queue=k/\p.ahead=m/\p.back=n/\True/\∀(q:Unit),True->dq (!p.used) (∃(r:Unit),jC l=(↑d:Int)/\dj (aa zR l)/\True) (∃(r:Nat),(↑r:Int)=ae.wrap ((↑d:Int)+1)/\b r/\c r<c d/\dj (ag 314 8 (aa zR l)))) (∃(e:Unit),jC l=(-1)/\dj (aa zR l)/\True)
def yMt (a:du):Prop:=
 ((aa zP a.dz).length+1)*(32:Nat)<=(140737488355328:Nat)/\∃(b:Unit),(↑a.dz.length:Int)=ae.wrap ((↑(aa zP a.dz++[[dI (-1),dI (-1),dI 0,dI 0]]).length:Int)-1)/\dj a.free/\dj (aa zR a.dv)/\aa zP (a.dz++[mA])=aa zP a.dz++[[dI (-1),dI (-1),dI 0,dI 0]]/\True
def TX (a:MU):Prop:=∃(b:Unit),(if a.a.iz a.n=aw then(0:Int)else(26:Int))=26/\(a.a.mi a.n a.t).free=a.a.free/\aa zR (a.a.mi a.n a.t).dv=aa zR a.a.dv/\aa zP (a.a.mi a.n a.t).dz=aa zP a.a.dz/\True
def yUw (i:MU):Prop:=
 dq (decide (i.n<0)) (TX i) (dq (decide (i.n>=(↑(aa zR i.a.dv).length:Int))) (TX i) ((0<=i.n/\i.n<(↑(aa zR i.a.dv).length:Int))/\∃(a:Bool),zD (aa zR i.a.dv) i.n.toNat 0 1=ay [D.v (.bool a)]/\dq (!a) (TX i) ((0<=i.n/\i.n<(↑(aa zR i.a.dv).length:Int))/\i.n.toNat<(aa zR i.a.dv).length/\∃(b:Unit),(if i.a.iz i.n=aw then(0:Int)else(26:Int))=0/\(i.a.mi i.n i.t).free=i.a.free/\aa zR (i.a.mi i.n i.t).dv=zV (aa zR i.a.dv) i.n.toNat 4 [D.v (.bool i.t)]/\aa zP (i.a.mi i.n i.t).dz=aa zP i.a.dz/\True)))
def yJ (a:C0):=(a.a.push a.n a.id a.dr a.top)
def tU (a:C0):Prop:=(yJ a).fst.free=a.a.free/\aa zR (yJ a).fst.dv=aa zR a.a.dv/\aa zP (yJ a).fst.dz=aa zP a.a.dz/\True
def YD (a:C0):Prop:=∃(b:Unit),(yJ a).snd.fst=0/\(yJ a).snd.snd=26/\tU a
def YJ (a:C0):Prop:=∃(b:Unit),(yJ a).snd.fst=0/\(yJ a).snd.snd=24/\tU a
def sU (a:C0) (b:List Slot):=(zV (zV (aa zP a.a.dz) a.n.toNat 0 [dI (jC b)]) a.n.toNat 1 [dI (jC b)])
def sS (a:C0) (b:List Slot) (c:Int):=(zV (sU a b) a.n.toNat 2 [dI (ae.wrap (c+a.dr))])
def tW (a:C0) (b:List Slot):=(zV (aa zP a.a.dz) a.n.toNat 1 [dI (jC b)])
def sQ (a:C0) (b:List Slot) (c:Int):=(zV (tW a b) a.n.toNat 2 [dI (ae.wrap (c+a.dr))])
def yNr (i:C0):Prop:=
 dq (decide (i.n>=0)) (dq (!decide (i.n<(↑(aa zP i.a.dz).length:Int))) (YD i) (dq (decide (i.dr<1)) (YJ i) (dq (decide (i.dr>1000000)) (YJ i) (dq (i.a.free==0) (∃(a:Unit),(yJ i).snd.fst=0/\(yJ i).snd.snd=13/\tU i) (∃(a:List Slot),aa zR a=aa zR i.a.dv/\a.length<=1000000/\∀(b:Unit),True->(0<=i.n/\i.n<(↑(aa zP i.a.dz).length:Int))/\∃(c:Int),zD (aa zP i.a.dz) i.n.toNat 1 1=ay [dI c]/\(0<=jC a/\jC a<(↑(aa zR a).length:Int))/\(jC a).toNat<(aa zR a).length/\∃(d:Int),zD (aa zP i.a.dz) i.n.toNat 1 1=ay [dI d]/\dq (d==(-1)) (i.n.toNat<(aa zP i.a.dz).length/\i.n.toNat<(zV (aa zP i.a.dz) i.n.toNat 0 [dI (jC a)]).length/\∃(e:Int),zD (sU i a) i.n.toNat 2 1=ay [dI e]/\i.n.toNat<(sU i a).length/\∃(f:Int),zD (sS i a e) i.n.toNat 3 1=ay [dI f]/\i.n.toNat<(sS i a e).length/\∃(g:Unit),(yJ i).snd.fst=jC a/\(yJ i).snd.snd=0/\(yJ i).fst.free=ae.wrap (i.a.free-1)/\aa zR (yJ i).fst.dv=zV (aa zR a) (jC a).toNat 0 [D.v (.bool aw),dI (jC a),dI i.id,dI i.dr,D.v (.bool i.top),dI i.n,dI c,dI (-1)]/\aa zP (yJ i).fst.dz=zV (sS i a e) i.n.toNat 3 [dI (ae.wrap (f+1))]/\True) (∃(e:Int),zD (aa zP i.a.dz) i.n.toNat 1 1=ay [dI e]/\(0<=e/\e<(↑(zV (aa zR a) (jC a).toNat 0 [D.v (.bool aw),dI (jC a),dI i.id,dI i.dr,D.v (.bool i.top),dI i.n,dI c,dI (-1)]).length:Int))/\e.toNat<(zV (aa zR a) (jC a).toNat 0 [D.v (.bool aw),dI (jC a),dI i.id,dI i.dr,D.v (.bool i.top),dI i.n,dI c,dI (-1)]).length/\i.n.toNat<(aa zP i.a.dz).length/\∃(f:Int),zD (tW i a) i.n.toNat 2 1=ay [dI f]/\i.n.toNat<(tW i a).length/\∃(g:Int),zD (sQ i a f) i.n.toNat 3 1=ay [dI g]/\i.n.toNat<(sQ i a f).length/\∃(h:Unit),(yJ i).snd.fst=jC a/\(yJ i).snd.snd=0/\(yJ i).fst.free=ae.wrap (i.a.free-1)/\aa zR (yJ i).fst.dv=zV (zV (aa zR a) (jC a).toNat 0 [D.v (.bool aw),dI (jC a),dI i.id,dI i.dr,D.v (.bool i.top),dI i.n,dI c,dI (-1)]) e.toNat 7 [dI (jC a)]/\aa zP (yJ i).fst.dz=zV (sQ i a f) i.n.toNat 3 [dI (ae.wrap (g+1))]/\True)))))) (YD i)
def xX (a:oO):=(↑(zZ 1 (a.b.eg 1) a.dk):Int)
def uQ (a:oO):=(↑(aa zB a.b.fc).length:Int)
def cG (a:oO):Prop:=a.b.gm=a.b.gm/\dj a.b.gn/\dj a.b.fv/\dj a.b.fw/\af du 3 zF a.b.a=zQ a.b 1/\dj (aa zB a.b.fc)/\dj (aa zB a.b.dw)/\dj (iK a.b.at_)/\dj (iE a.b.spare)/\True
def Zb (a:Nat) (b:oO):Prop:=(0<=(↑a:Int)/\(↑a:Int)<(uQ b))/\∃(c:Int),zD (aa zB b.b.fc) (↑a:Int).toNat 0 1=ay [dI c]/\∃(d:Unit),(xX b)=(↑a:Int)/\kT 1 (b.b.eg 1) b.dk=(c==b.dk)/\cG b
def YP (a:oO) (b:Nat):Prop:=∃(c:Unit),(xX a)=(↑b:Int)/\kT 1 (a.b.eg 1) a.dk=ax/\cG a
def sE (a:Nat) (b:Nat->Prop) (c:Nat->Nat) (d:oO):Prop:=∃(e:Nat),(↑e:Int)=ae.wrap ((↑a:Int)+1)/\b e/\c e<c a/\dj (zQ d.b 0)/\dj (zQ d.b 1)/\dj (zQ d.b 2)/\dj (zQ d.b 3)/\dj (zQ d.b 4)/\dj (zQ d.b 5)
def tM (a:Nat) (b:oO):=(decide ((↑a:Int)<(uQ b)))
def yKv (i:oO):Prop:=
 ∃(a:Nat),(↑a:Int)=0/\∃(b:Nat->Prop),∃(c:Nat->Nat),b a/\∀(d:Nat),b d->dq (tM d i) ((0<=(↑d:Int)/\(↑d:Int)<(uQ i))/\∃(e:Int),zD (aa zB i.b.fc) (↑d:Int).toNat 0 1=ay [dI e]/\∃(f:DM),f.side=1/\f.x=e/\f.y=i.dk/\True/\∀(g:Unit),True->dq (ki f.side f.x f.y) (sE d b c i) (dq (tM d i) (Zb d i) (YP i d))) (dq (tM d i) (Zb d i) (YP i d))
def xY (a:oO):=(↑(zZ 2 (a.b.eg 2) a.dk):Int)
def uF (a:oO):=(↑(aa zB a.b.dw).length:Int)
def Y2 (a:Nat) (b:oO):Prop:=(0<=(↑a:Int)/\(↑a:Int)<(uF b))/\∃(c:Int),zD (aa zB b.b.dw) (↑a:Int).toNat 0 1=ay [dI c]/\∃(d:Unit),(xY b)=(↑a:Int)/\kT 2 (b.b.eg 2) b.dk=(c==b.dk)/\cG b
def YN (a:oO) (b:Nat):Prop:=∃(c:Unit),(xY a)=(↑b:Int)/\kT 2 (a.b.eg 2) a.dk=ax/\cG a
def sO (a:Nat) (b:oO):=(decide ((↑a:Int)<(uF b)))
def yJv (i:oO):Prop:=
 ∃(a:Nat),(↑a:Int)=0/\∃(b:Nat->Prop),∃(c:Nat->Nat),b a/\∀(d:Nat),b d->dq (sO d i) ((0<=(↑d:Int)/\(↑d:Int)<(uF i))/\∃(e:Int),zD (aa zB i.b.dw) (↑d:Int).toNat 0 1=ay [dI e]/\∃(f:DM),f.side=2/\f.x=e/\f.y=i.dk/\True/\∀(g:Unit),True->dq (ki f.side f.x f.y) (sE d b c i) (dq (sO d i) (Y2 d i) (YN i d))) (dq (sO d i) (Y2 d i) (YN i d))
def dW (a:Ci):Prop:=aa zB a.b.fc=aa zB a.b.fc/\dj (aa zB a.b.dw)/\dj (iK a.b.at_)/\dj (iE a.b.spare)/\True
def eD (a:Ci):Prop:=∃(b:Unit),dj a.id/\dj a.b.gn/\aw=aw/\dj a.b.fw/\af du 3 zF (a.b.iU 1)=zQ a.b 1/\dW a
def YI (a:Ci) (b:Int) (c:Int) (d:Int) (e:Bool):Prop:=kR (ba ae a.b.gm) (iK a.b.at_)=ay [dI b,dI c,dI d]/\e=aw\/kR (ba ae a.b.gm) (iK a.b.at_)=az/\[dI b,dI c,dI d]=[dI 0,dI 0,dI 0]/\e=ax
def Y' (a:Ci):Prop:=∀(b:be×List D),b∈iK a.b.at_->ma (ba ae a.b.gm) b.fst=aw
def yKe (i:Ci):Prop:=
 dq i.b.fv ((Y' i)/\∃(a:Bool),∃(b:Int),∃(c:Int),∃(d:Int),(YI i b c d a)/\((Y' i)/\∃(e:Bool),∃(f:Int),∃(g:Int),∃(h:Int),(YI i f g h e)/\(f=b/\g=c/\h=d/\True)/\e=a/\True)/\dj i.b.gm/\True/\dq a (dq (b==1) (∃(e:MU),e.n=d/\e.t=ax/\af du 3 zF e.a=zQ i.b 1/\e.a.dv.length<=1000000/\∀(f:Unit),True->∃(g:Unit),dj i.id/\dj i.b.gn/\aw=aw/\dj i.b.fw/\af du 3 zF (i.b.iU 1)=af du 3 zF (e.a.mi e.n e.t)/\dW i) (eD i)) (eD i)) (eD i)
def sI (a:Ci):Prop:=∃(b:Unit),dj a.b.gm/\dj a.id/\dj a.b.fv/\aw=aw/\af du 3 zF (a.b.iU 2)=zQ a.b 1/\dW a
def Y9 (a:Ci) (b:Int) (c:Int) (d:Int) (e:Bool):Prop:=kR (ba ae a.b.gn) (iK a.b.at_)=ay [dI b,dI c,dI d]/\e=aw\/kR (ba ae a.b.gn) (iK a.b.at_)=az/\[dI b,dI c,dI d]=[dI 0,dI 0,dI 0]/\e=ax
def YO (a:Ci):Prop:=∀(b:be×List D),b∈iK a.b.at_->ma (ba ae a.b.gn) b.fst=aw
def yLx (i:Ci):Prop:=
 dq i.b.fw ((YO i)/\∃(a:Bool),∃(b:Int),∃(c:Int),∃(d:Int),(Y9 i b c d a)/\((YO i)/\∃(e:Bool),∃(f:Int),∃(g:Int),∃(h:Int),(Y9 i f g h e)/\(f=b/\g=c/\h=d/\True)/\e=a/\True)/\dj i.b.gn/\True/\dq a (dq (b==2) (∃(e:MU),e.n=d/\e.t=ax/\af du 3 zF e.a=zQ i.b 1/\e.a.dv.length<=1000000/\∀(f:Unit),True->∃(g:Unit),dj i.b.gm/\dj i.id/\dj i.b.fv/\aw=aw/\af du 3 zF (i.b.iU 2)=af du 3 zF (e.a.mi e.n e.t)/\dW i) (sI i)) (sI i)) (sI i)
def qH (a:oO):Prop:=(a.b.a.dv.length<=1000000/\a.b.a.dz.length<=1000000)/\a.b.fc.length<=1000000/\a.b.dw.length<=1000000/\a.b.spare.length<=1000000
def fU (a:oO):Prop:=0<=(xX a)/\(xX a)<(uQ a)
def uH (a:oO):=((↑(iE a.b.spare).length:Int)-1)
def nV (a:oO):Prop:=0<=ae.wrap (uH a)/\ae.wrap (uH a)<=(↑(iE a.b.spare).length:Int)
def nT (a:oO):Prop:=0<=ae.wrap (uH a)/\ae.wrap (uH a)<(↑(iE a.b.spare).length:Int)
def fF (a:Ky):Prop:=a.i<=a.ez.length/\(a.ez.length+1)*(16:Nat)<=(140737488355328:Nat)
def g9 (a:oO):=(ae.wrap (uH a))
def zO (a:oO):=(a.b.ga 1 a.dk)
def z8j (i:oO):Prop:=
 ∃(a:oO),dj ((1:Int))/\a.dk=i.dk/\a.b.gm=i.b.gm/\a.b.gn=i.b.gn/\a.b.fv=i.b.fv/\a.b.fw=i.b.fw/\af du 3 zF a.b.a=zQ i.b 1/\aa zB a.b.fc=aa zB i.b.fc/\aa zB a.b.dw=aa zB i.b.dw/\iK a.b.at_=iK i.b.at_/\iE a.b.spare=iE i.b.spare/\(qH a)/\∀(b:Unit),True->dq (kT 1 (a.b.eg 1) a.dk) ((fU a)/\∃(c:Int),zD (aa zB a.b.fc) (xX a).toNat 1 1=ay [dI c]/\∃(d:Unit),(zO i).snd=c/\(zO i).fst.gm=a.b.gm/\(zO i).fst.gn=a.b.gn/\(zO i).fst.fv=a.b.fv/\(zO i).fst.fw=a.b.fw/\af du 3 zF (zO i).fst.a=af du 3 zF a.b.a/\aa zB (zO i).fst.dw=aa zB a.b.dw/\iK (zO i).fst.at_=iK a.b.at_/\aa zB (zO i).fst.fc=aa zB a.b.fc/\iE (zO i).fst.spare=iE a.b.spare/\True) (dq (decide ((↑(iE a.b.spare).length:Int)>0)) ((nT a)/\∃(c:Int),zD (iE a.b.spare) (g9 a).toNat 0 1=ay [dI c]/\(nV a)/\True/\∃(d:Ky),(↑d.i:Int)=(xX a)/\d.ez=aa zB a.b.fc/\[d.el]=[[dI i.dk,dI c]]/\(fF d)/\∀(e:Unit),True->∃(f:Unit),(zO i).snd=c/\(zO i).fst.gm=a.b.gm/\(zO i).fst.gn=a.b.gn/\(zO i).fst.fv=a.b.fv/\(zO i).fst.fw=a.b.fw/\af du 3 zF (zO i).fst.a=af du 3 zF a.b.a/\aa zB (zO i).fst.dw=aa zB a.b.dw/\iK (zO i).fst.at_=iK a.b.at_/\aa zB (zO i).fst.fc=ab d.i d.ez++d.el::ac d.i d.ez/\iE (zO i).fst.spare=ab (g9 a).toNat (iE a.b.spare)/\True) (∃(c:du),af du 3 zF c=af du 3 zF a.b.a/\c.dz.length<=1000000/\∀(d:Unit),True->True/\∃(e:Ky),(↑e.i:Int)=(xX a)/\e.ez=aa zB a.b.fc/\[e.el]=[[dI i.dk,dI (↑c.dz.length:Int)]]/\(fF e)/\∀(f:Unit),True->∃(g:Unit),(zO i).snd=(↑c.dz.length:Int)/\(zO i).fst.gm=a.b.gm/\(zO i).fst.gn=a.b.gn/\(zO i).fst.fv=a.b.fv/\(zO i).fst.fw=a.b.fw/\af du 3 zF (zO i).fst.a=af du 3 zF c.rr/\aa zB (zO i).fst.dw=aa zB a.b.dw/\iK (zO i).fst.at_=iK a.b.at_/\aa zB (zO i).fst.fc=ab e.i e.ez++e.el::ac e.i e.ez/\iE (zO i).fst.spare=iE a.b.spare/\True))
def fP (a:oO):Prop:=0<=(xY a)/\(xY a)<(uF a)
def zN (a:oO):=(a.b.ga 2 a.dk)
def z8y (i:oO):Prop:=
 ∃(a:oO),dj ((2:Int))/\a.dk=i.dk/\a.b.gm=i.b.gm/\a.b.gn=i.b.gn/\a.b.fv=i.b.fv/\a.b.fw=i.b.fw/\af du 3 zF a.b.a=zQ i.b 1/\aa zB a.b.fc=aa zB i.b.fc/\aa zB a.b.dw=aa zB i.b.dw/\iK a.b.at_=iK i.b.at_/\iE a.b.spare=iE i.b.spare/\(qH a)/\∀(b:Unit),True->dq (kT 2 (a.b.eg 2) a.dk) ((fP a)/\∃(c:Int),zD (aa zB a.b.dw) (xY a).toNat 1 1=ay [dI c]/\∃(d:Unit),(zN i).snd=c/\(zN i).fst.gm=a.b.gm/\(zN i).fst.gn=a.b.gn/\(zN i).fst.fv=a.b.fv/\(zN i).fst.fw=a.b.fw/\af du 3 zF (zN i).fst.a=af du 3 zF a.b.a/\aa zB (zN i).fst.fc=aa zB a.b.fc/\iK (zN i).fst.at_=iK a.b.at_/\aa zB (zN i).fst.dw=aa zB a.b.dw/\iE (zN i).fst.spare=iE a.b.spare/\True) (dq (decide ((↑(iE a.b.spare).length:Int)>0)) ((nT a)/\∃(c:Int),zD (iE a.b.spare) (g9 a).toNat 0 1=ay [dI c]/\(nV a)/\True/\∃(d:Ky),(↑d.i:Int)=(xY a)/\d.ez=aa zB a.b.dw/\[d.el]=[[dI i.dk,dI c]]/\(fF d)/\∀(e:Unit),True->∃(f:Unit),(zN i).snd=c/\(zN i).fst.gm=a.b.gm/\(zN i).fst.gn=a.b.gn/\(zN i).fst.fv=a.b.fv/\(zN i).fst.fw=a.b.fw/\af du 3 zF (zN i).fst.a=af du 3 zF a.b.a/\aa zB (zN i).fst.fc=aa zB a.b.fc/\iK (zN i).fst.at_=iK a.b.at_/\aa zB (zN i).fst.dw=ab d.i d.ez++d.el::ac d.i d.ez/\iE (zN i).fst.spare=ab (g9 a).toNat (iE a.b.spare)/\True) (∃(c:du),af du 3 zF c=af du 3 zF a.b.a/\c.dz.length<=1000000/\∀(d:Unit),True->True/\∃(e:Ky),(↑e.i:Int)=(xY a)/\e.ez=aa zB a.b.dw/\[e.el]=[[dI i.dk,dI (↑c.dz.length:Int)]]/\(fF e)/\∀(f:Unit),True->∃(g:Unit),(zN i).snd=(↑c.dz.length:Int)/\(zN i).fst.gm=a.b.gm/\(zN i).fst.gn=a.b.gn/\(zN i).fst.fv=a.b.fv/\(zN i).fst.fw=a.b.fw/\af du 3 zF (zN i).fst.a=af du 3 zF c.rr/\aa zB (zN i).fst.fc=aa zB a.b.fc/\iK (zN i).fst.at_=iK a.b.at_/\aa zB (zN i).fst.dw=ab e.i e.ez++e.el::ac e.i e.ez/\iE (zN i).fst.spare=iE a.b.spare/\True))
def mV:Gn.ok Tryz.prog 187:=ib (V:=z2g) mixed fj 0 (λ_=>[]) (λ_=>[]) [] Tryz.func187 λ(i:DM) _=>by
 unfold z2g;refine Cv.dq.mk (λc=> ?_) (λc=> ?_)
 ·have c:i.side=1:=by simpa using c
  rw[ki,fh c];exact kp
 ·have c:¬i.side=1:=by simpa using c
  rw[ki,fb c];exact kp
def yNk:LQ.ok Tryz.prog 255:=ib (V:=yMa) mixed fj 0 (λ_=>[]) (λ_=>[]) [] Tryz.func255 λ(s:Slot) _=>by
 unfold yMa;exact kp
def y8v {l:List Slot} {k:Nat} {s:Slot} (h:l[k]? =ay s):zD (l.map zR) k 0 8=ay [D.v (.bool s.used),.v (.int .i64 s.n),.v (.int .i64 s.id),.v (.int .i64 s.dr),.v (.bool s.top),.v (.int .i64 s.queue),.v (.int .i64 s.ahead),.v (.int .i64 s.back)]:=ju h (by simp[zR]) rfl
def yMz (l:List Slot) (h:BB.dq l):z2f l:=by
 have h:l.length<=1000000:=h;unfold z2f dI;simp only[im];refine⟨0,rfl,λj=>j<=l.length/\∀k<j,∀x,l[k]? =ay x->(!x.used)=ax,λj=>l.length-j,⟨oM,λk hk=>by omega⟩,?_⟩;rintro j ⟨h3,h4⟩;refine zH (λhj=> ?_) (λhj=> ?_)
 ·obtain⟨s,hs⟩:=z6 (l:=l) (i:=j) oM;refine⟨⟨oM,oM⟩,s.used,s.n,s.id,s.dr,s.top,s.queue,s.ahead,s.back,y8v hs,s,oJ ⟨rfl,trivial,λ_ _=>Cv.dq.mk (λe=> ?_) (λe=> ?_)⟩⟩
  ·rw[jC,XE hs e h4];exact kp
  ·refine⟨j+1,by rw[iA (by omega)];rfl,⟨oM,λk hk x hx=> ?_⟩,by(first|omega|(dsimp only;omega)),gu⟩;rcases ur k j with rh|rh
   ·exact h4 k rh x hx
   ·obtain rfl:k=j:=by omega
    rw[hs]at hx;cases hx;exact e
 ·rw[jC,XT λk x hx=>h4 k (by have:=(jv.1 hx).1;omega) x hx];exact kp
def z7t:BB.ok Tryz.prog 254:=ib mixed (dx yNk fj) 0 (λ_=>[]) (λl=>yLe l) [] Tryz.func254 yMz
def zZw:Mb.ok Tryz.prog 256:=ib (V:=yMt) mixed fj 0 (λ_=>[]) (λ_=>[]) [0] Tryz.func256 λ(a:du) h=>by
 have h:a.dz.length<=1000000:=h;unfold yMt dI;rw[iv,im,iA (by simp only[iJ,ua];omega)];refine⟨oM,(),?_,rfl,rfl,?_,trivial⟩
 ·simp
 ·rw[jr];rfl
def cT {α:Type} {f:α->α}:∀{l:List α} {i:Nat} {x:α},l[i]? =ay x->l.modify i f=l.set i (f x)
 |[],i,x,h=>by simp at h
 |a::l,0,x,h=>by simp at h;subst h;rfl
 |a::l,i+1,x,h=>by
  simp only[A1]at h;simp only[OU,OO,cT h]
def yI {α:Type} {f:α->List D} {l:List α} {i g:Nat} {x y:α} {ds:List D} (hi:l[i]? =ay x) (hh:(f x).take g++(ds++(f x).drop (g+ds.length))=f y):zV (l.map f) i g ds=(l.set i y).map f:=by
 have gv:=(jv.1 hi).1;rw[zV,cT (by rw[vc,hi];rfl),hh,List.map_set]
def hU {α:Type} {l:List α} {i:Nat} {x y:α} (hi:l[i]? =ay x):(l.set i y)[i]? =ay y:=List.getElem?_set_self (jv.1 hi).1
def zT {α:Type} {l:List α} {i:Nat} {x d:α} (h:l[i]? =ay x):l.getD i d=x:=by rw[nk,h];rfl
def y5z (i:MU) (h:Kc.dq i):yUw i:=by
 have h:i.a.dv.length<=1000000:=h;unfold yUw TX;simp only[im];have no (e:i.a.iz i.n=ax):i.a.mi i.n i.t=i.a:=by rw[du.mi,fb (by rw[e];decide)]
 refine zH (λc=> ?_) (λc=>zH (λd=> ?_) (λd=> ?_))
 ·have e:i.a.iz i.n=ax:=by rw[du.iz,ku (by omega),CI]
  rw[no e,e];exact kp
 ·have e:i.a.iz i.n=ax:=by rw[du.iz,ku (show ¬i.n<(i.a.dv.length:Int)by omega),CI,I1]
  rw[no e,e];exact kp
 ·obtain⟨s,hs⟩:=z6 (l:=i.a.dv) (i:=i.n.toNat) oM;have eu:i.a.iz i.n=s.used:=by rw[du.iz,lg (show 0<=i.n by omega),lg (show i.n<(i.a.dv.length:Int)by omega),zT hs];simp
  refine⟨⟨oM,oM⟩,s.used,ju hs (by simp[zR]) rfl,Cv.dq.mk (λu=> ?_) (λu=> ?_)⟩
  ·have e:i.a.iz i.n=ax:=by rw[eu];simpa using u
   rw[no e,e];exact kp
  ·have e:i.a.iz i.n=aw:=by rw[eu];simpa using u
   have et:i.a.mi i.n i.t={i.a with dv:=i.a.dv.set i.n.toNat {s with top:=i.t}}:=by
    rw[du.mi,fh e,cT hs]
   rw[et,e,yI hs (y:={s with top:=i.t}) rfl];refine⟨⟨oM,oM⟩,oM,(),nn trivial⟩
def yCg:Kc.ok Tryz.prog 253:=ib mixed fj 1 (λ_=>[]) (λ_=>[]) [0] Tryz.func253 y5z
def yNi {l:List Slot} (h:∃s∈l,s.used=ax):∃k:Nat,jC l=k/\k<l.length:=by
 obtain⟨s,hs,hu⟩:=h;cases hf:l.findIdx? λs=> !s.used with
 |none=>
  rw[OY]at hf;have:=hf s hs;rw[hu]at this;cases this
 |some k=>
  rw[M7]at hf;exact⟨k,by rw[jC,show(l.findIdx? λs=> !s.used)=ay k by rw[M7];exact hf];rfl,hf.1⟩
def yZz (i:C0) (h:Ga.dq i):yNr i:=by
 obtain⟨h1,h2,h3⟩:i.a.fit:=h;unfold yNr sQ tW sS sU YJ YD tU yJ dI;simp only[im];have out (e:i.n<0\/i.a.dz.length<=i.n):i.a.push i.n i.id i.dr i.top=(i.a,0,26):=by rw[du.push,fh e]
 refine zH (λc=>Cv.dq.mk (λd=> ?_) (λd=> ?_)) (λc=> ?_)
 ·have d:¬i.n<(i.a.dz.length:Int):=by simpa using d
  rw[out (.inr (by omega))];exact kp
 ·have d:i.n<(i.a.dz.length:Int):=by simpa using d
  have hn:¬(i.n<0\/(i.a.dz.length:Int)<=i.n):=by omega
  refine zH (λq1=> ?_) (λq1=>zH (λq2=> ?_) (λq2=>Cv.dq.mk (λfr=> ?_) (λfr=> ?_)))
  ·rw[du.push,fb hn,fh (.inl q1)];exact kp
  ·rw[du.push,fb hn,fh (.inr q2)];exact kp
  ·rw[du.push,fb hn,fb (by omega),fh (by simpa using fr)];exact kp
  ·have fr:i.a.free≠0:=by simpa using fr
   have ep:i.a.push i.n i.id i.dr i.top=(i.a.put i.n i.id i.dr i.top,jC i.a.dv,0):=by rw[du.push,fb hn,fb (by omega),fb fr]
   obtain⟨k,hk,qj⟩:=yNi (h2 fr);obtain⟨q,hq⟩:=z6 (l:=i.a.dz) (i:=i.n.toNat) oM;have hqm:=lq hq;have hl:=h3 q hqm;obtain⟨s,hs⟩:=z6 qj;refine⟨i.a.dv,rfl,h1,λ_ _=>⟨⟨oM,oM⟩,q.last,ju hq (by simp[zP]) rfl,⟨oM,oM⟩,by rw[hk];exact qj,q.last,ju hq (by simp[zP]) rfl,?_⟩⟩;rw[ep];have aa6:i.a.put i.n i.id i.dr i.top=⟨if q.last= -1 then i.a.dv.set k ⟨aw,k,i.id,i.dr,i.top,i.n,q.last,-1⟩else(i.a.dv.set k ⟨aw,k,i.id,i.dr,i.top,i.n,q.last,-1⟩).modify q.last.toNat λs=>{s with back:=k},i.a.dz.set i.n.toNat ⟨if q.last= -1 then k else q.first,k,ae.wrap (q.total+i.dr),ae.wrap (q.count+1)⟩,ae.wrap (i.a.free-1)⟩:=by
    simp only[du.put,zT hq,hk,oF]
   rw[aa6,hk];simp only[oF];have es:zV (aa zR i.a.dv) k 0 [D.v (.bool aw),D.v (.int .i64 k),D.v (.int .i64 i.id),D.v (.int .i64 i.dr),D.v (.bool i.top),D.v (.int .i64 i.n),D.v (.int .i64 q.last),D.v (.int .i64 (-1))]=aa zR (i.a.dv.set k ⟨aw,k,i.id,i.dr,i.top,i.n,q.last,-1⟩):=yI hs rfl;rw[es];refine Cv.dq.mk (λe=> ?_) (λe=> ?_)
   ·have e:q.last= -1:=by simpa using e
    have e1:zV (aa zP i.a.dz) i.n.toNat (0+0) [D.v (.int .i64 k)]=aa zP (i.a.dz.set i.n.toNat {q with first:=k}):=yI hq rfl;have g1:=hU (y:={q with first:=(k:Int)}) hq;have e2:zV (aa zP (i.a.dz.set i.n.toNat {q with first:=k})) i.n.toNat (0+1) [D.v (.int .i64 k)]=aa zP (i.a.dz.set i.n.toNat {q with first:=k,last:=k}):=by
     rw[yI g1 (y:={q with first:=(k:Int),last:=(k:Int)}) rfl,Ea]
    have g2:=hU (y:={q with first:=(k:Int),last:=(k:Int)}) hq;have e3:zV (aa zP (i.a.dz.set i.n.toNat {q with first:=k,last:=k})) i.n.toNat (0+2) [D.v (.int .i64 (ae.wrap (q.total+i.dr)))]=aa zP (i.a.dz.set i.n.toNat {q with first:=k,last:=k,total:=ae.wrap (q.total+i.dr)}):=by
     rw[yI g2 (y:={q with first:=(k:Int),last:=(k:Int),total:=ae.wrap (q.total+i.dr)}) rfl,Ea]
    have g3:=hU (y:={q with first:=(k:Int),last:=(k:Int),total:=ae.wrap (q.total+i.dr)}) hq;have e4:zV (aa zP (i.a.dz.set i.n.toNat {q with first:=k,last:=k,total:=ae.wrap (q.total+i.dr)})) i.n.toNat (0+3) [D.v (.int .i64 (ae.wrap (q.count+1)))]=aa zP (i.a.dz.set i.n.toNat ⟨k,k,ae.wrap (q.total+i.dr),ae.wrap (q.count+1)⟩):=by
     rw[yI g3 (y:=⟨k,k,ae.wrap (q.total+i.dr),ae.wrap (q.count+1)⟩) rfl,Ea]
    rw[e1,e2];simp only[fh e];refine⟨oM,by simp only[im,qv];omega,q.total,ju g2 (by simp[zP]) rfl,by simp only[im,qv];omega,q.count,?_,by rw[e3];simp only[im,qv];omega,(),?_⟩
    ·rw[e3];exact ju g3 (by simp[zP]) rfl
    ·rw[e3,e4];exact kp
   ·have e:¬q.last= -1:=by simpa using e
    have hl:0<=q.last/\q.last<i.a.dv.length:=hl.resolve_left e;have e2:zV (aa zP i.a.dz) i.n.toNat (0+1) [D.v (.int .i64 k)]=aa zP (i.a.dz.set i.n.toNat {q with last:=k}):=yI hq rfl;have g2:=hU (y:={q with last:=(k:Int)}) hq;have e3:zV (aa zP (i.a.dz.set i.n.toNat {q with last:=k})) i.n.toNat (0+2) [D.v (.int .i64 (ae.wrap (q.total+i.dr)))]=aa zP (i.a.dz.set i.n.toNat {q with last:=k,total:=ae.wrap (q.total+i.dr)}):=by
     rw[yI g2 (y:={q with last:=(k:Int),total:=ae.wrap (q.total+i.dr)}) rfl,Ea]
    have g3:=hU (y:={q with last:=(k:Int),total:=ae.wrap (q.total+i.dr)}) hq;have e4:zV (aa zP (i.a.dz.set i.n.toNat {q with last:=k,total:=ae.wrap (q.total+i.dr)})) i.n.toNat (0+3) [D.v (.int .i64 (ae.wrap (q.count+1)))]=aa zP (i.a.dz.set i.n.toNat ⟨q.first,k,ae.wrap (q.total+i.dr),ae.wrap (q.count+1)⟩):=by
     rw[yI g3 (y:=⟨q.first,k,ae.wrap (q.total+i.dr),ae.wrap (q.count+1)⟩) rfl,Ea]
    obtain⟨s2,zp⟩:=z6 (l:=i.a.dv.set k ⟨aw,k,i.id,i.dr,i.top,i.n,q.last,-1⟩) (i:=q.last.toNat) (by rw[qv];omega);have e5:zV (aa zR (i.a.dv.set k ⟨aw,k,i.id,i.dr,i.top,i.n,q.last,-1⟩)) q.last.toNat (0+7) [D.v (.int .i64 k)]=aa zR ((i.a.dv.set k ⟨aw,k,i.id,i.dr,i.top,i.n,q.last,-1⟩).modify q.last.toNat λs=>{s with back:=k}):=by
     rw[yI zp (y:={s2 with back:=(k:Int)}) rfl,cT zp]
    rw[e2];simp only[fb e];refine⟨q.last,ju hq (by simp[zP]) rfl,⟨oM,by simp only[im,qv];omega⟩,by simp only[im,qv];omega,oM,q.total,ju g2 (by simp[zP]) rfl,by simp only[im,qv];omega,q.count,?_,by rw[e3];simp only[im,qv];omega,(),?_⟩
    ·rw[e3];exact ju g3 (by simp[zP]) rfl
    ·rw[e3,e4,e5];exact kp
 ·rw[out (.inl (by omega))];exact kp
def z0e:Ga.ok Tryz.prog 242:=ib mixed (dx z7t fj) 1 (λ_=>[]) (λ_=>[]) [0] Tryz.func242 yZz
def pZ {s dk:Int}:∀{l:List xM} {j:Nat},j<=l.length->(∀k<j,∀r,l[k]? =ay r->ki s r.dk dk=aw)->(∀r,l[j]? =ay r->ki s r.dk dk=ax)->zZ s l dk=j
 |[],j,hj,_,_=>by
  obtain rfl:j=0:=by simpa using hj
  rfl
 |r::l,0,_,_,he=>by
  have:=he r rfl;rw[zZ,List.takeWhile_cons,this];rfl
 |r::l,j+1,hj,h,he=>by
  have h0:=h 0 oM r rfl;have ih:=pZ (l:=l) (j:=j) (by simpa using hj) (λk hk x hx=>h (k+1) oM x (by simpa using hx)) (λx hx=>he x (by simpa using hx));rw[zZ]at ih ⊢;rw[List.takeWhile_cons,h0,fh rfl,iJ,ih]
def Tm (s dk:Int) (l:List xM):zZ s l dk<=l.length:=(List.takeWhile_sublist _).length_le
def sJ (b:dp):b.eg 1=b.fc:=rfl
def eO (b:dp):b.eg 2=b.dw:=rfl
def yZg (i:oO) (h:FV.dq i):yKv i:=by
 obtain⟨_,h1,h2,_⟩:i.b.small:=h;unfold yKv tM sE YP Zb cG uQ xX dI;simp only[im,sJ];refine⟨0,rfl,λj=>j<=i.b.fc.length/\∀k<j,∀r,i.b.fc[k]? =ay r->ki 1 r.dk i.dk=aw,λj=>i.b.fc.length-j,⟨oM,λk hk=>by omega⟩,?_⟩;rintro j ⟨h3,h4⟩;refine zH (λhj=> ?_) (λhj=> ?_)
 ·obtain⟨r,hr⟩:=z6 (l:=i.b.fc) (i:=j) oM;refine⟨⟨oM,oM⟩,r.dk,ju hr (by simp[zB]) rfl,⟨1,r.dk,i.dk⟩,rfl,rfl,rfl,trivial,λ_ _=> ?_⟩;dsimp only;refine Cv.dq.mk (λe=>⟨j+1,by rw[iA (by omega)];rfl,⟨oM,λk hk x hx=> ?_⟩,by(first|omega|(dsimp only;omega)),gu⟩) (λe=>zH (λ_=> ?_) (λc=>absurd hj c))
  ·rcases ur k j with rh|rh
   ·exact h4 k rh x hx
   ·obtain rfl:k=j:=by omega
    rw[hr]at hx;cases hx;exact e
  ·have en:zZ 1 i.b.fc i.dk=j:=pZ h3 h4 λx hx=>by rw[hr]at hx;cases hx;exact e
   have eb:kT 1 i.b.fc i.dk=(r.dk==i.dk):=by rw[kT,en,hr];exact(z1o _ _).symm
   refine⟨⟨oM,oM⟩,r.dk,ju hr (by simp[zB]) rfl,(),by rw[en],eb,?_⟩
   (repeat'(first|exact trivial|exact rfl|apply ap))
 ·have en:zZ 1 i.b.fc i.dk=j:=pZ h3 h4 λx hx=>by have:=(jv.1 hx).1;omega
  have eb:kT 1 i.b.fc i.dk=ax:=by rw[kT,en,ue (by omega)]
  refine zH (λc=>absurd c hj) (λ_=>⟨(),by rw[en],eb,?_⟩)
  (repeat'(first|exact trivial|exact rfl|apply ap))
def Wn:FV.ok Tryz.prog 245:=ib mixed (dx mV fj) 0 (λ_=>[]) (λ_=>yVp) [] Tryz.func245 yZg
def wF (l:List (Int×Place)) (k:Int):∀(p:be×List D),p∈iK l->ma (ba ae k) p.1=aw:=by
 intro p hp;obtain⟨x,_,rfl⟩:=pj.1 hp;rfl
def MF (k:Int):∀l:List (Int×Place),kR (ba ae k) (iK l)=(kr l k).map ZV
 |[]=>rfl
 |(a,v)::l=>by
  have ih:=MF k l;show(bif (wj .i64 .i64 && decide (k=a))then _ else kR _ (iK l))=_;by_cases h:k=a
  ·subst h;simp[kr,wj]
  ·have h':¬a=k:=λe=>h e.symm
   rw[show(wj .i64 .i64 && decide (k=a))=ax by simp[h],cond_false,ih];simp[kr,MX,h']
def Mr:Place:=⟨0,0,0⟩
def Mj (l:List (Int×Place)) (k:Int):kR (ba ae k) (iK l)=ay [D.v (.int .i64 ((kr l k).getD Mr).side),D.v (.int .i64 ((kr l k).getD Mr).dk),D.v (.int .i64 ((kr l k).getD Mr).slot)]/\(kr l k).isSome=aw\/kR (ba ae k) (iK l)=az/\[D.v (.int .i64 ((kr l k).getD Mr).side),D.v (.int .i64 ((kr l k).getD Mr).dk),D.v (.int .i64 ((kr l k).getD Mr).slot)]=[D.v (.int .i64 0),D.v (.int .i64 0),D.v (.int .i64 0)]/\(kr l k).isSome=ax:=by
 rw[MF];cases kr l k with
 |none=>exact .inr ⟨rfl,rfl,rfl⟩
 |some v=>exact .inl ⟨rfl,rfl⟩
def VT (k:Int) (v:Place):∀l,u9 (ba ae k) (ZV v) (iK l)=iK (eN k v l)
 |[]=>rfl
 |(a,b)::l=>by
  have ih:=VT k v l;show(bif (wj .i64 .i64 && decide (k=a))then _ else _::u9 _ _ (iK l))=_;rw[ih,eN];by_cases h:k=a
  ·subst h;simp[wj,iK]
  ·simp[h,iK]
def yXi (i:Ci) (h:FQ.dq i):yKe i:=by
 obtain⟨⟨ha,_⟩,h1,h2,_⟩:i.b.small:=h;unfold yKe Y' YI eD dW dI;have no (e:i.b.iU 1=i.b.a):af du 3 zF (i.b.iU 1)=zQ i.b 1:=by rw[e];rfl
 refine Cv.dq.mk (λc=> ?_) (λc=>⟨(),?_⟩)
 ·have c:i.b.mq 1=aw:=c;refine⟨wF _ _,(kr i.b.at_ i.b.gm).isSome,_,_,_,Mj _ _,⟨wF _ _,(kr i.b.at_ i.b.gm).isSome,_,_,_,Mj _ _,(iT trivial),rfl,trivial⟩,rfl,trivial,Cv.dq.mk (λd=>Cv.dq.mk (λe=> ?_) (λe=>⟨(),?_⟩)) (λd=>⟨(),?_⟩)⟩
  ·obtain⟨o,ho⟩:=UM.1 d;have e:o.side=1:=by rw[ho]at e;simpa using e
   have eu:i.b.iU 1=i.b.a.mi o.slot ax:=by
    have ht:kr i.b.at_ (i.b.iZ 1)=ay o:=ho;rw[dp.iU,fh c,ht];dsimp only;rw[fh e]
   refine⟨⟨i.b.a,o.slot,ax⟩,by rw[ho];rfl,rfl,rfl,ha,λ_ _=>⟨(),?_⟩⟩;rw[eu];(repeat'(first|exact trivial|exact rfl|apply ap))
  ·obtain⟨o,ho⟩:=UM.1 d;have e:¬o.side=1:=by rw[ho]at e;simpa using e
   have ht:kr i.b.at_ (i.b.iZ 1)=ay o:=ho;rw[no (by rw[dp.iU,fh c,ht];dsimp only;rw[fb e])];(repeat'(first|exact trivial|exact rfl|apply ap))
  ·have ht:kr i.b.at_ (i.b.iZ 1)=az:=by
    show kr i.b.at_ i.b.gm=az;simpa using d
   rw[no (by rw[dp.iU,fh c,ht])];(repeat'(first|exact trivial|exact rfl|apply ap))
 ·have c:¬i.b.mq 1=aw:=by rw[show i.b.mq 1=i.b.fv from rfl,c];decide
  rw[no (by rw[dp.iU,fb c])];(repeat'(first|exact trivial|exact rfl|apply ap))
def yLm:FQ.ok Tryz.prog 241:=ib mixed (dx yCg fj) 0 (λ_=>[]) (λ_=>[]) [] Tryz.func241 yXi
def z0q {s dk:Int} {l:List xM} (h:kT s l dk=aw):∃r,l[zZ s l dk]? =ay r:=by
 rw[kT]at h;split at h
 ·rename_i r hr;exact⟨r,hr⟩
 ·cases h
def yPo (i:oO) (h:Di.dq i):z8j i:=by
 obtain⟨⟨ha,_⟩,ha',h1,h2,h3⟩:i.b.fit:=h;have hle:=Tm 1 i.dk i.b.fc;unfold z8j zO g9 fF nT nV uH fU uQ qH xX dI;refine⟨i,oJ (iT ⟨rfl,⟨⟨ha,oM⟩,oM,oM,oM⟩,λ_ _=> ?_⟩)⟩;simp only[im,y4,sJ];refine Cv.dq.mk (λc=> ?_) (λc=> ?_)
 ·obtain⟨r,hr⟩:=z0q c;have gv:=(jv.1 hr).1;have e:i.b.ga 1 i.dk=(i.b,r.queue):=by rw[dp.ga,fh (by rw[sJ];exact c),sJ,zT hr]
  rw[e];refine⟨⟨oM,oM⟩,r.queue,ju (by simpa using hr) (by simp[zB]) rfl,(),?_⟩
  (repeat'(first|exact trivial|exact rfl|apply ap))
 ·have e:i.b.ga 1 i.dk=({i.b with a:=i.b.iQ.2.2,fc:=i.b.ins 1 i.dk,spare:=i.b.iQ.2.1},i.b.iQ.1):=by
   rw[dp.ga,fb (by rw[sJ,c];decide),fh rfl]
  have Bf:aa zB (i.b.ins 1 i.dk)=ab (zZ 1 i.b.fc i.dk) (aa zB i.b.fc)++zB ⟨i.dk,i.b.iQ.1⟩::ac (zZ 1 i.b.fc i.dk) (aa zB i.b.fc):=by
   rw[dp.ins,sJ,jr,jx,EK,Ht]
  rw[e];refine zH (λd=> ?_) (λd=> ?_)
  ·have w:ae.wrap ((i.b.spare.length:Int)-1)=((i.b.spare.length-1:Nat):Int):=by rw[iA (by omega)];omega
   rw[w];simp only[oF];obtain⟨q,hq⟩:=z6 (l:=i.b.spare) (i:=i.b.spare.length-1) oM;have eq:i.b.iQ=(q,i.b.spare.take (i.b.spare.length-1),i.b.a):=by rw[dp.iQ,fb (by omega),zT hq]
   rw[eq]at Bf ⊢;refine⟨⟨oM,oM⟩,q,rk hq,⟨oM,oM⟩,trivial,⟨i.b.fc.map zB,zB ⟨i.dk,q⟩,zZ 1 i.b.fc i.dk⟩,rfl,rfl,rfl,⟨by rw[im];exact hle,by rw[im];omega⟩,λ_ _=>⟨(),?_⟩⟩;have hs:iE (i.b.spare.take (i.b.spare.length-1))=(iE i.b.spare).take (i.b.spare.length-1):=by simp only[iE,EK]
   exact kp
  ·have eq:i.b.iQ=((i.b.a.dz.length:Int),i.b.spare,i.b.a.rr):=by rw[dp.iQ,fh (by omega)]
   rw[eq]at Bf ⊢;refine⟨i.b.a,rfl,oM,λ_ _=>⟨trivial,⟨i.b.fc.map zB,zB ⟨i.dk,i.b.a.dz.length⟩,zZ 1 i.b.fc i.dk⟩,rfl,rfl,rfl,⟨by rw[im];exact hle,by rw[im];omega⟩,λ_ _=>⟨(),?_⟩⟩⟩
   exact kp
def Yp:vT Tryz.prog 268=ay (276,2,16,#[.int .i64 0,.int .i64 0]):=by kernel_rfl
def z9p:Ry.ok Tryz.prog 257:=
 Dr (tS:=268) (tI:=3) (fO:=262) (fR:=263) (z:= #[.int .i64 0,.int .i64 0]) mixed Tryz.func257 rfl (by kernel_rfl) (by kernel_rfl) (by kernel_rfl) (by kernel_rfl) Yp rfl Z8 Z8 (by kernel_rfl) Tryz.underlying3
  (yBx (tS:=268) (tB:=4) Tryz.func262 (by kernel_rfl) (by kernel_rfl) (by kernel_rfl) (by kernel_rfl) Yp) (λs sn sk i v vn vk w R=>by kernel_rfl)
def yFj:Di.ok Tryz.prog 243:=ib mixed (dx Wn (dx zZw (dx z9p fj))) 0 (λ_=>[]) (λ_=>[]) [] Tryz.func243 yPo
def y1o (i:oO) (h:FU.dq i):yJv i:=by
 obtain⟨_,h1,h2,_⟩:i.b.small:=h;unfold yJv sO YN Y2 uF xY cG sE dI;simp only[im,eO];refine⟨0,rfl,λj=>j<=i.b.dw.length/\∀k<j,∀r,i.b.dw[k]? =ay r->ki 2 r.dk i.dk=aw,λj=>i.b.dw.length-j,⟨oM,λk hk=>by omega⟩,?_⟩;rintro j ⟨h3,h4⟩;refine zH (λhj=> ?_) (λhj=> ?_)
 ·obtain⟨r,hr⟩:=z6 (l:=i.b.dw) (i:=j) oM;refine⟨⟨oM,oM⟩,r.dk,ju hr (by simp[zB]) rfl,⟨2,r.dk,i.dk⟩,rfl,rfl,rfl,trivial,λ_ _=> ?_⟩;dsimp only;refine Cv.dq.mk (λe=>⟨j+1,by rw[iA (by omega)];rfl,⟨oM,λk hk x hx=> ?_⟩,by(first|omega|(dsimp only;omega)),gu⟩) (λe=>zH (λ_=> ?_) (λc=>absurd hj c))
  ·rcases ur k j with rh|rh
   ·exact h4 k rh x hx
   ·obtain rfl:k=j:=by omega
    rw[hr]at hx;cases hx;exact e
  ·have en:zZ 2 i.b.dw i.dk=j:=pZ h3 h4 λx hx=>by rw[hr]at hx;cases hx;exact e
   have eb:kT 2 i.b.dw i.dk=(r.dk==i.dk):=by rw[kT,en,hr];exact(z1o _ _).symm
   refine⟨⟨oM,oM⟩,r.dk,ju hr (by simp[zB]) rfl,(),by rw[en],eb,?_⟩
   (repeat'(first|exact trivial|exact rfl|apply ap))
 ·have en:zZ 2 i.b.dw i.dk=j:=pZ h3 h4 λx hx=>by have:=(jv.1 hx).1;omega
  have eb:kT 2 i.b.dw i.dk=ax:=by rw[kT,en,ue (by omega)]
  refine zH (λc=>absurd c hj) (λ_=>⟨(),by rw[en],eb,?_⟩)
  (repeat'(first|exact trivial|exact rfl|apply ap))
def Wq:FU.ok Tryz.prog 245:=ib mixed (dx mV fj) 0 (λ_=>[]) (λ_=>yVp) [] Tryz.func245 y1o
def y1f (i:Ci) (h:FP.dq i):yLx i:=by
 obtain⟨⟨ha,_⟩,h1,h2,_⟩:i.b.small:=h;unfold yLx YO Y9 sI dW dI;have no (e:i.b.iU 2=i.b.a):af du 3 zF (i.b.iU 2)=zQ i.b 1:=by rw[e];rfl
 refine Cv.dq.mk (λc=> ?_) (λc=>⟨(),?_⟩)
 ·have c:i.b.mq 2=aw:=c;refine⟨wF _ _,(kr i.b.at_ i.b.gn).isSome,_,_,_,Mj _ _,⟨wF _ _,(kr i.b.at_ i.b.gn).isSome,_,_,_,Mj _ _,(iT trivial),rfl,trivial⟩,rfl,trivial,Cv.dq.mk (λd=>Cv.dq.mk (λe=> ?_) (λe=>⟨(),?_⟩)) (λd=>⟨(),?_⟩)⟩
  ·obtain⟨o,ho⟩:=UM.1 d;have e:o.side=2:=by rw[ho]at e;simpa using e
   have eu:i.b.iU 2=i.b.a.mi o.slot ax:=by
    have ht:kr i.b.at_ (i.b.iZ 2)=ay o:=ho;rw[dp.iU,fh c,ht];dsimp only;rw[fh e]
   refine⟨⟨i.b.a,o.slot,ax⟩,by rw[ho];rfl,rfl,rfl,ha,λ_ _=>⟨(),?_⟩⟩;rw[eu];(repeat'(first|exact trivial|exact rfl|apply ap))
  ·obtain⟨o,ho⟩:=UM.1 d;have e:¬o.side=2:=by rw[ho]at e;simpa using e
   have ht:kr i.b.at_ (i.b.iZ 2)=ay o:=ho;rw[no (by rw[dp.iU,fh c,ht];dsimp only;rw[fb e])];(repeat'(first|exact trivial|exact rfl|apply ap))
  ·have ht:kr i.b.at_ (i.b.iZ 2)=az:=by
    show kr i.b.at_ i.b.gn=az;simpa using d
   rw[no (by rw[dp.iU,fh c,ht])];(repeat'(first|exact trivial|exact rfl|apply ap))
 ·have c:¬i.b.mq 2=aw:=by rw[show i.b.mq 2=i.b.fw from rfl,c];decide
  rw[no (by rw[dp.iU,fb c])];(repeat'(first|exact trivial|exact rfl|apply ap))
def yIv:FP.ok Tryz.prog 241:=ib mixed (dx yCg fj) 0 (λ_=>[]) (λ_=>[]) [] Tryz.func241 y1f
def ySc (i:oO) (h:Dh.dq i):z8y i:=by
 obtain⟨⟨ha,_⟩,ha',h1,h2,h3⟩:i.b.fit:=h;have hle:=Tm 2 i.dk i.b.dw;unfold z8y zN fP uF g9 fF nT nV uH qH xY dI;refine⟨i,oJ (iT ⟨rfl,⟨⟨ha,oM⟩,oM,oM,oM⟩,λ_ _=> ?_⟩)⟩;simp only[im,y4,eO];refine Cv.dq.mk (λc=> ?_) (λc=> ?_)
 ·obtain⟨r,hr⟩:=z0q c;have gv:=(jv.1 hr).1;have e:i.b.ga 2 i.dk=(i.b,r.queue):=by rw[dp.ga,fh (by rw[eO];exact c),eO,zT hr]
  rw[e];refine⟨⟨oM,oM⟩,r.queue,ju (by simpa using hr) (by simp[zB]) rfl,(),?_⟩
  (repeat'(first|exact trivial|exact rfl|apply ap))
 ·have e:i.b.ga 2 i.dk=({i.b with a:=i.b.iQ.2.2,dw:=i.b.ins 2 i.dk,spare:=i.b.iQ.2.1},i.b.iQ.1):=by
   rw[dp.ga,fb (by rw[eO,c];decide),fb (by decide)]
  have Bf:aa zB (i.b.ins 2 i.dk)=ab (zZ 2 i.b.dw i.dk) (aa zB i.b.dw)++zB ⟨i.dk,i.b.iQ.1⟩::ac (zZ 2 i.b.dw i.dk) (aa zB i.b.dw):=by
   rw[dp.ins,eO,jr,jx,EK,Ht]
  rw[e];refine zH (λd=> ?_) (λd=> ?_)
  ·have w:ae.wrap ((i.b.spare.length:Int)-1)=((i.b.spare.length-1:Nat):Int):=by rw[iA (by omega)];omega
   rw[w];simp only[oF];obtain⟨q,hq⟩:=z6 (l:=i.b.spare) (i:=i.b.spare.length-1) oM;have eq:i.b.iQ=(q,i.b.spare.take (i.b.spare.length-1),i.b.a):=by rw[dp.iQ,fb (by omega),zT hq]
   rw[eq]at Bf ⊢;refine⟨⟨oM,oM⟩,q,rk hq,⟨oM,oM⟩,trivial,⟨i.b.dw.map zB,zB ⟨i.dk,q⟩,zZ 2 i.b.dw i.dk⟩,rfl,rfl,rfl,⟨by rw[im];exact hle,by rw[im];omega⟩,λ_ _=>⟨(),?_⟩⟩;have hs:iE (i.b.spare.take (i.b.spare.length-1))=(iE i.b.spare).take (i.b.spare.length-1):=by simp only[iE,EK]
   exact kp
  ·have eq:i.b.iQ=((i.b.a.dz.length:Int),i.b.spare,i.b.a.rr):=by rw[dp.iQ,fh (by omega)]
   rw[eq]at Bf ⊢;refine⟨i.b.a,rfl,oM,λ_ _=>⟨trivial,⟨i.b.dw.map zB,zB ⟨i.dk,i.b.a.dz.length⟩,zZ 2 i.b.dw i.dk⟩,rfl,rfl,rfl,⟨by rw[im];exact hle,by rw[im];omega⟩,λ_ _=>⟨(),?_⟩⟩⟩
   exact kp
def yDy:Dh.ok Tryz.prog 243:=ib mixed (dx Wq (dx zZw (dx z9p fj))) 0 (λ_=>[]) (λ_=>[]) [] Tryz.func243 ySc
structure AW where
 b:dp
 id:Int
 dk:Int
 dr:Int
def dp.leads (b:dp) (s dk:Int):Bool:=match b.eg s with
 |[]=>aw
 |r::_=>ki s dk r.dk
def dp.qk (b:dp) (id s dk:Int):dp:=if b.leads s dk=aw then b.jf id s else b
def dp.ph (b:dp) (s id dk dr:Int):dp:=
 let b2:=(b.qk id s dk).ga s dk
 let x:=b2.1.a.push b2.2 id dr (b.leads s dk)
 {b2.1 with a:=x.1,at_:=eN id ⟨s,dk,x.2.1⟩ b2.1.at_}
def dp.ic (b:dp) (s id dk dr:Int):dp×Int:=
 if dr<1\/1000000<dr then(b,24)else if(kr b.at_ id).isSome=aw then(b,25)else if 250<=b.at_.length then(b,13)else(b.ph s id dk dr,0)
def yLh (s:Int):gi:=fp AW (λi=>[.nm 0 0,zA i.id,zA s,zA i.dk,zA i.dr]) (λi=>[yB i.b]) (λi=>i.b.fit) (λi=>zA (i.b.ic s i.id i.dk i.dr).2) (λi=>[yB (i.b.ic s i.id i.dk i.dr).1])
def yVs:List (Nat×gp):=[(44,bj 14)]
def F8:gi:=yLh 1
def F7:gi:=yLh 2
structure BaJ where
 i:AW
 s:Bool
def Se:gi:=fp BaJ (λj=>[.nm 0 0,zA j.i.id,zA (zC j.s),zA j.i.dk,zA j.i.dr]) (λj=>[yB j.i.b]) (λj=>j.i.b.fit) (λj=>zA (j.i.b.ic (zC j.s) j.i.id j.i.dk j.i.dr).2) (λj=>[yB (j.i.b.ic (zC j.s) j.i.id j.i.dk j.i.dr).1])
structure HU where
 s:gq
 inst:Int
 id:Int
 sd:Bool
 dk:Int
 dr:Int
def gq.AD (s:gq) (n:Int):dp:=s.ej.getD n.toNat mg
def gq.ic (i:HU):gq×Int:=
 if i.inst<0\/i.s.ej.length<=i.inst then(i.s,20)else if(BY i.s.wh i.id).isSome=aw then(i.s,25)else if 250<=i.s.wh.length then(i.s,13)else if i.s.p.dk i.inst i.dk≠0 then(i.s,i.s.p.dk i.inst i.dk)
 else
  let x:=(i.s.AD i.inst).ic (zC i.sd) i.id i.dk i.dr
  ({i.s with ej:=i.s.ej.set i.inst.toNat x.1,wh:=if x.2=0 then IT i.id i.inst i.s.wh else i.s.wh},x.2)
@[reducible] def gq.fit (s:gq):Prop:=s.p.small/\s.ej.length<=1000000/\∀b∈s.ej,b.fit
def JJ:gi:=fp HU (λi=>[.nm 0 0,zA i.inst,zA i.id,zA (zC i.sd),zA i.dk,zA i.dr]) (λi=>[zE i.s]) (λi=>i.s.fit) (λi=>zA (gq.ic i).2) (λi=>[zE (gq.ic i).1])
def sG (a:oO):Prop:=(a.b.a.dv.length<=1000000/\(a.b.a.free≠0->∃(b:Slot),b∈a.b.a.dv/\b.used=ax)/\∀(b:bL),b∈a.b.a.dz->b.last=(-1)\/0<=b.last/\b.last<(↑a.b.a.dv.length:Int))/\a.b.a.dz.length<=100000/\a.b.fc.length<=100000/\a.b.dw.length<=100000/\a.b.spare.length<=100000
def sZ (a:C0):Prop:=a.a.dv.length<=1000000/\(a.a.free≠0->∃(b:Slot),b∈a.a.dv/\b.used=ax)/\∀(b:bL),b∈a.a.dz->b.last=(-1)\/0<=b.last/\b.last<(↑a.a.dv.length:Int)
def yP (a:AW):=(a.b.ic 1 a.id a.dk a.dr)
def XX (a:oO) (b:AW) (c:Bool):Prop:=(sG a)/\∀(d:Unit),True->True/\∃(e:C0),e.n=(zO a).snd/\e.id=b.id/\e.dr=b.dr/\e.top=c/\af du 3 zF e.a=af du 3 zF (zO a).fst.a/\(sZ e)/\∀(f:Unit),True->(∀(g:be×List D),g∈iK (zO a).fst.at_->ma (ba ae b.id) g.fst=aw)/\∃(g:Unit),(yP b).snd=0/\(yP b).fst.gm=(zO a).fst.gm/\(yP b).fst.gn=(zO a).fst.gn/\(yP b).fst.fv=(zO a).fst.fv/\(yP b).fst.fw=(zO a).fst.fw/\af du 3 zF (yP b).fst.a=af du 3 zF (yJ e).fst/\aa zB (yP b).fst.fc=aa zB (zO a).fst.fc/\aa zB (yP b).fst.dw=aa zB (zO a).fst.dw/\iK (yP b).fst.at_=u9 (ba ae b.id) [dI 1,dI b.dk,dI ((yJ e).snd.fst)] (iK (zO a).fst.at_)/\iE (yP b).fst.spare=iE (zO a).fst.spare/\True
def Tx (a:Bool->Prop) (b:Bool) (c:Int) (d:Int) (e:Int) (f:AW):Prop:=a b/\dj (aj [V.d (dI c),V.d (dI d),V.d (dI e)] 286)/\dj (aj [V.nm 1 0,V.own 2,V.own 3,V.mp 4,V.d (dI f.b.gm),V.d (dI f.b.gn),V.own 5,V.d (D.v (.bool f.b.fv)),V.d (D.v (.bool f.b.fw))] (273:bz))/\dj (af du 3 zF f.b.a)/\dj (ag 276 2 (aa zB f.b.fc))/\dj (ag 276 2 (aa zB f.b.dw))/\dj (ao (iK f.b.at_))/\dj (ag 3 1 (iE f.b.spare))
def TM (a:DM) (b:AW) (c:Int) (d:Bool->Prop) (e:Int) (f:Int) (g:Int):Prop:=a.x=b.dk/\a.y=c/\True/\∀(h:Unit),True->∃(j:Bool),j=ki a.side a.x a.y/\Tx d j e f g b
def TJ (a:Bool->Prop) (b:Int) (c:Int) (d:Int) (e:AW):Prop:=∃(f:Bool),f=aw/\Tx a f b c d e
def nI (a:AW):Prop:=(yP a).fst.gm=a.b.gm/\(yP a).fst.gn=a.b.gn/\(yP a).fst.fv=a.b.fv/\(yP a).fst.fw=a.b.fw/\af du 3 zF (yP a).fst.a=af du 3 zF a.b.a/\aa zB (yP a).fst.fc=aa zB a.b.fc/\aa zB (yP a).fst.dw=aa zB a.b.dw/\iK (yP a).fst.at_=iK a.b.at_/\iE (yP a).fst.spare=iE a.b.spare/\True
def Yi (a:AW):Prop:=∃(b:Unit),(yP a).snd=24/\nI a
def tP (a:AW) (b:Int) (c:Int) (d:Int) (e:Bool):Prop:=kR (ba ae a.id) (iK a.b.at_)=ay [dI b,dI c,dI d]/\e=aw\/kR (ba ae a.id) (iK a.b.at_)=az/\[dI b,dI c,dI d]=[dI 0,dI 0,dI 0]/\e=ax
def eJ (a:Ci):Prop:=(a.b.a.dv.length<=1000000/\a.b.a.dz.length<=1000000)/\a.b.fc.length<=1000000/\a.b.dw.length<=1000000/\a.b.spare.length<=1000000
def kA (a:Int):=(!(decide (a=1)||decide (a=2)))
def yJl (i:AW):Prop:=
 (∀(a:be×List D),a∈iK i.b.at_->ma (ba ae i.id) a.fst=aw)/\∃(a:Bool),∃(b:Int),∃(c:Int),∃(d:Int),(tP i b c d a)/\∃(e:Int),e=1/\True/\∀(f:Unit),True->dq (kA e) (∃(g:Unit),(yP i).snd=21/\nI i) (dq (decide (i.dr<1)) (Yi i) (dq (decide (i.dr>1000000)) (Yi i) (dq a (∃(g:Unit),(yP i).snd=25/\nI i) (dq (decide ((↑(iK i.b.at_).length:Int)>=250)) (∃(g:Unit),(yP i).snd=13/\nI i) (∃(g:Bool),∃(h:Bool->Prop),dq ((↑(aa zB i.b.fc).length:Int)==0) (TJ h b c d i) (((0:Int)<=(0:Int)/\0<(↑(aa zB i.b.fc).length:Int))/\∃(j:Int),zD (aa zB i.b.fc) (Int.toNat 0) 0 1=ay [dI j]/\∃(k:DM),k.side=1/\TM k i j h b c d)/\∀(j:Bool),h j->dq j (∃(k:Ci),k.id=i.id/\dj ((1:Int))/\k.b.gm=i.b.gm/\k.b.gn=i.b.gn/\k.b.fv=i.b.fv/\k.b.fw=i.b.fw/\af du 3 zF k.b.a=af du 3 zF i.b.a/\aa zB k.b.fc=aa zB i.b.fc/\aa zB k.b.dw=aa zB i.b.dw/\iK k.b.at_=iK i.b.at_/\iE k.b.spare=iE i.b.spare/\(eJ k)/\∀(l:Unit),True->∃(m:oO),dj ((1:Int))/\m.dk=i.dk/\m.b.gm=k.id/\m.b.gn=k.b.gn/\m.b.fv=aw/\m.b.fw=k.b.fw/\af du 3 zF m.b.a=af du 3 zF (k.b.iU 1)/\aa zB m.b.fc=aa zB k.b.fc/\aa zB m.b.dw=aa zB k.b.dw/\iK m.b.at_=iK k.b.at_/\iE m.b.spare=iE k.b.spare/\XX m i j) (∃(k:oO),dj ((1:Int))/\k.dk=i.dk/\k.b.gm=i.b.gm/\k.b.gn=i.b.gn/\k.b.fv=i.b.fv/\k.b.fw=i.b.fw/\af du 3 zF k.b.a=af du 3 zF i.b.a/\aa zB k.b.fc=aa zB i.b.fc/\aa zB k.b.dw=aa zB i.b.dw/\iK k.b.at_=iK i.b.at_/\iE k.b.spare=iE i.b.spare/\XX k i j))))))
def yR (a:AW):=(a.b.ic 2 a.id a.dk a.dr)
def Yu (a:oO) (b:AW) (c:Bool):Prop:=(sG a)/\∀(d:Unit),True->True/\∃(e:C0),e.n=(zN a).snd/\e.id=b.id/\e.dr=b.dr/\e.top=c/\af du 3 zF e.a=af du 3 zF (zN a).fst.a/\(sZ e)/\∀(f:Unit),True->(∀(g:be×List D),g∈iK (zN a).fst.at_->ma (ba ae b.id) g.fst=aw)/\∃(g:Unit),(yR b).snd=0/\(yR b).fst.gm=(zN a).fst.gm/\(yR b).fst.gn=(zN a).fst.gn/\(yR b).fst.fv=(zN a).fst.fv/\(yR b).fst.fw=(zN a).fst.fw/\af du 3 zF (yR b).fst.a=af du 3 zF (yJ e).fst/\aa zB (yR b).fst.fc=aa zB (zN a).fst.fc/\aa zB (yR b).fst.dw=aa zB (zN a).fst.dw/\iK (yR b).fst.at_=u9 (ba ae b.id) [dI 2,dI b.dk,dI ((yJ e).snd.fst)] (iK (zN a).fst.at_)/\iE (yR b).fst.spare=iE (zN a).fst.spare/\True
def mS (a:AW):Prop:=(yR a).fst.gm=a.b.gm/\(yR a).fst.gn=a.b.gn/\(yR a).fst.fv=a.b.fv/\(yR a).fst.fw=a.b.fw/\af du 3 zF (yR a).fst.a=af du 3 zF a.b.a/\aa zB (yR a).fst.fc=aa zB a.b.fc/\aa zB (yR a).fst.dw=aa zB a.b.dw/\iK (yR a).fst.at_=iK a.b.at_/\iE (yR a).fst.spare=iE a.b.spare/\True
def X5 (a:AW):Prop:=∃(b:Unit),(yR a).snd=24/\mS a
def yGz (i:AW):Prop:=
 (∀(a:be×List D),a∈iK i.b.at_->ma (ba ae i.id) a.fst=aw)/\∃(a:Bool),∃(b:Int),∃(c:Int),∃(d:Int),(tP i b c d a)/\∃(e:Int),e=2/\True/\∀(f:Unit),True->dq (kA e) (∃(g:Unit),(yR i).snd=21/\mS i) (dq (decide (i.dr<1)) (X5 i) (dq (decide (i.dr>1000000)) (X5 i) (dq a (∃(g:Unit),(yR i).snd=25/\mS i) (dq (decide ((↑(iK i.b.at_).length:Int)>=250)) (∃(g:Unit),(yR i).snd=13/\mS i) (∃(g:Bool),∃(h:Bool->Prop),dq ((↑(aa zB i.b.dw).length:Int)==0) (TJ h b c d i) (((0:Int)<=(0:Int)/\0<(↑(aa zB i.b.dw).length:Int))/\∃(j:Int),zD (aa zB i.b.dw) (Int.toNat 0) 0 1=ay [dI j]/\∃(k:DM),k.side=2/\TM k i j h b c d)/\∀(j:Bool),h j->dq j (∃(k:Ci),k.id=i.id/\dj ((2:Int))/\k.b.gm=i.b.gm/\k.b.gn=i.b.gn/\k.b.fv=i.b.fv/\k.b.fw=i.b.fw/\af du 3 zF k.b.a=af du 3 zF i.b.a/\aa zB k.b.fc=aa zB i.b.fc/\aa zB k.b.dw=aa zB i.b.dw/\iK k.b.at_=iK i.b.at_/\iE k.b.spare=iE i.b.spare/\(eJ k)/\∀(l:Unit),True->∃(m:oO),dj ((2:Int))/\m.dk=i.dk/\m.b.gm=k.b.gm/\m.b.gn=k.id/\m.b.fv=k.b.fv/\m.b.fw=aw/\af du 3 zF m.b.a=af du 3 zF (k.b.iU 2)/\aa zB m.b.fc=aa zB k.b.fc/\aa zB m.b.dw=aa zB k.b.dw/\iK m.b.at_=iK k.b.at_/\iE m.b.spare=iE k.b.spare/\Yu m i j) (∃(k:oO),dj ((2:Int))/\k.dk=i.dk/\k.b.gm=i.b.gm/\k.b.gn=i.b.gn/\k.b.fv=i.b.fv/\k.b.fw=i.b.fw/\af du 3 zF k.b.a=af du 3 zF i.b.a/\aa zB k.b.fc=aa zB i.b.fc/\aa zB k.b.dw=aa zB i.b.dw/\iK k.b.at_=iK i.b.at_/\iE k.b.spare=iE i.b.spare/\Yu k i j))))))
def X3 (a:HU):Prop:=am 1 (iE (gq.ic a).fst.p.dm)=am 1 (iE a.s.p.dm)/\am 1 (iE (gq.ic a).fst.p.settle)=am 1 (iE a.s.p.settle)/\True
def Xs (a:HU):Prop:=yS (gq.ic a).fst.wh=yS a.s.wh/\X3 a
def pO (a:HU):Prop:=sb (gq.ic a).fst.p.code=sb a.s.p.code/\(gq.ic a).fst.p.tick=a.s.p.tick/\(gq.ic a).fst.p.low=a.s.p.low/\(gq.ic a).fst.p.high=a.s.p.high/\(gq.ic a).fst.p.wide=a.s.p.wide/\(gq.ic a).fst.p.dt=a.s.p.dt/\(gq.ic a).fst.p.top=a.s.p.top/\(gq.ic a).fst.p.least=a.s.p.least/\(gq.ic a).fst.p.part=a.s.p.part/\ak 211 dp 6 zQ (gq.ic a).fst.ej az=ak 211 dp 6 zQ a.s.ej az/\Xs a
def Xe (a:HU):Prop:=∃(b:Unit),(gq.ic a).snd=20/\pO a
def rA (a:BaJ):=(a.i.b.ic (zC a.s) a.i.id a.i.dk a.i.dr)
def yUs (i:HU):Prop:=
 (∀(a:be×List D),a∈yS i.s.wh->ma (ba ae i.id) a.fst=aw)/\∃(a:Bool),∃(b:Int),(kR (ba ae i.id) (yS i.s.wh)=ay [dI b]/\a=aw\/kR (ba ae i.id) (yS i.s.wh)=az/\[dI b]=[dI 0]/\a=ax)/\dq (decide (i.inst>=0)) (dq (!decide (i.inst<(↑i.s.ej.length:Int))) (Xe i) (dq a (∃(c:Unit),(gq.ic i).snd=25/\pO i) (dq (decide ((↑(yS i.s.wh).length:Int)>=250)) (∃(c:Unit),(gq.ic i).snd=13/\pO i) (∃(c:lB),sb c.p.code=sb i.s.p.code/\iE c.p.dm=iE i.s.p.dm/\c.p.tick=i.s.p.tick/\c.p.low=i.s.p.low/\c.p.high=i.s.p.high/\c.p.wide=i.s.p.wide/\c.p.dt=i.s.p.dt/\c.p.top=i.s.p.top/\c.p.least=i.s.p.least/\c.p.part=i.s.p.part/\iE c.p.settle=iE i.s.p.settle/\c.a=i.inst/\c.b=i.dk/\(qF c)/\∀(d:Unit),True->dq (c.p.dk c.a c.b !=0) (∃(e:Unit),(gq.ic i).snd=c.p.dk c.a c.b/\pO i) ((0<=i.inst/\i.inst<(↑i.s.ej.length:Int))/\i.inst.toNat<i.s.ej.length/\∃(e:dp),i.s.ej[i.inst.toNat]?=ay e/\∃(f:BaJ),f.i.id=i.id/\zC f.s=zC i.sd/\f.i.dk=i.dk/\f.i.dr=i.dr/\yB f.i.b=yB e/\((f.i.b.a.dv.length<=1000000/\(f.i.b.a.free≠0->∃(g:Slot),g∈f.i.b.a.dv/\g.used=ax)/\∀(g:bL),g∈f.i.b.a.dz->g.last=(-1)\/0<=g.last/\g.last<(↑f.i.b.a.dv.length:Int))/\f.i.b.a.dz.length<=100000/\f.i.b.fc.length<=100000/\f.i.b.dw.length<=100000/\f.i.b.spare.length<=100000)/\∀(g:Unit),True->∃(h:dp),yB (rA f).fst=yB h/\dj i.inst.toNat/\i.inst.toNat<i.s.ej.length/\dq ((rA f).snd==0) ((∀(j:be×List D),j∈yS i.s.wh->ma (ba ae i.id) j.fst=aw)/\∃(j:Unit),(gq.ic i).snd=(rA f).snd/\sb (gq.ic i).fst.p.code=sb i.s.p.code/\(gq.ic i).fst.p.tick=i.s.p.tick/\(gq.ic i).fst.p.low=i.s.p.low/\(gq.ic i).fst.p.high=i.s.p.high/\(gq.ic i).fst.p.wide=i.s.p.wide/\(gq.ic i).fst.p.dt=i.s.p.dt/\(gq.ic i).fst.p.top=i.s.p.top/\(gq.ic i).fst.p.least=i.s.p.least/\(gq.ic i).fst.p.part=i.s.p.part/\ak 211 dp 6 zQ (gq.ic i).fst.ej az=ak 211 dp 6 zQ (i.s.ej.set i.inst.toNat h) az/\yS (gq.ic i).fst.wh=u9 (ba ae i.id) [dI i.inst] (yS i.s.wh)/\X3 i) (∃(j:Unit),(gq.ic i).snd=(rA f).snd/\sb (gq.ic i).fst.p.code=sb i.s.p.code/\(gq.ic i).fst.p.tick=i.s.p.tick/\(gq.ic i).fst.p.low=i.s.p.low/\(gq.ic i).fst.p.high=i.s.p.high/\(gq.ic i).fst.p.wide=i.s.p.wide/\(gq.ic i).fst.p.dt=i.s.p.dt/\(gq.ic i).fst.p.top=i.s.p.top/\(gq.ic i).fst.p.least=i.s.p.least/\(gq.ic i).fst.p.part=i.s.p.part/\ak 211 dp 6 zQ (gq.ic i).fst.ej az=ak 211 dp 6 zQ (i.s.ej.set i.inst.toNat h) az/\Xs i)))))) (Xe i)
end Sx
