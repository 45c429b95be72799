/- Texts of ours. No condition. -/
import Derived.Laws.AppendOwn
import Derived.Lib.AppendZerosOnto
import Derived.Lib.Overlaps
import Derived.Test.YtgmmlhddihaocaaGreatC5
set_option linter.all false
open List renaming map->aa,take->ab,drop->ac
open Go.IntKind renaming i64->ae
open Sx.ff renaming qq->af,own->ag,cells->aj,jt->ak,ja->am,map->ao
open And renaming intro->ap
open Go.Builtin renaming zeroCells->aq,copy_->ar,firstCells->au,append_->av
open Bool renaming true->aw,false->ax
open Option renaming some->ay,none->az
open Go.Value renaming int->ba
open Exists renaming intro->bc
open Go renaming Value->be,World->bg,Program->bo,Addr->bu,size_zeroCells->bv,TypeId->bz
namespace Sx
set_option maxRecDepth 100000
open Go Cv Go.Proofs
def dO (l:List (Int×Int)) (k:Int):∀(p:be×List D),p∈yR l->lj (ba ae k) p.1=aw:=λp hp=>yJc l k p hp
def z2c (k v:Int):∀l,u6 (ba ae k) [D.v (.int .i64 v)] (yR l)=yR (IB k v l)
 |[]=>rfl
 |(a,b)::l=>by
  have ih:=z2c k v l;show(bif (vy .i64 .i64 && decide (k=a))then _ else _::u6 _ _ (yR l))=_;rw[ih,IB];by_cases h:k=a
  ·subst h;simp[vy,yR]
  ·simp[h,yR]
def zZf (k:Int):∀l,Bx (ba ae k) (yR l)=yR (Kw k l)
 |[]=>rfl
 |(a,b)::l=>by
  have ih:=zZf k l;show(bif (vy .i64 .i64 && decide (k=a))then yR l else _::Bx _ (yR l))=_;rw[ih,Kw];by_cases h:k=a
  ·subst h;simp[vy]
  ·simp[h,yR]
def yZi (l:List (Int×Int)) (k:Int):kO (ba ae k) (yR l)=ay [D.v (.int .i64 ((BQ l k).getD 0))]/\(BQ l k).isSome=aw\/kO (ba ae k) (yR l)=az/\[D.v (.int .i64 ((BQ l k).getD 0))]=[D.v (.int .i64 0)]/\(BQ l k).isSome=ax:=by
 rw[pA];cases BQ l k with
 |none=>exact .inr ⟨rfl,rfl,rfl⟩
 |some v=>exact .inl ⟨rfl,rfl⟩
def z2p (a b:Int):(a==b)=decide (a=b):=by
 by_cases h:a=b
 ·subst h;simp
 ·simp[h]
def zZr (n:Int):(dL n).small:=⟨by simp[dL],by simp[dL],by simp[dL]⟩
def yV {n lo hi:Int} (h:lo<=hi):lo<=zG n lo hi/\zG n lo hi<=hi:=by
 rw[zG];have h1:=MK n (show hi-lo+1≠0 by omega);have h2:=Ox n (show 0<hi-lo+1 by omega);omega
open Go Go.RowKit Cv
def Th {P:bo} {dT sT ty e sz ou:Nat} {z:Array be} (hi:vT P dT=ay (e,sz,ou,z)) {w:bg} {g o dLen dCap b so sLen sCap n:Nat} {cur src:List be} {T T':bz} {fr:Nat×Nat}
 (hg:w.heap[g]? =ay (.cells cur.toArray T (0,0))) (hs:w.heap[b]? =ay (.cells src.toArray T' fr)) (hn:Nat.min sLen dLen=n) (h1:so+n*sz<=src.length) (h2:o+n*sz<=cur.length)
 (DG:∀v∈(src.drop so).take (n*sz),v.nv=aw):
 gH P (ar #[dT,sT] ty #[.slice (ay ⟨g,o,az⟩) dLen dCap,.slice (ay ⟨b,so,az⟩) sLen sCap]) w (.int .i64 n) (World.iR w g (.cells (jz cur o ((src.drop so).take (n*sz))).toArray T (0,0))):=by
 obtain⟨i,zv,q1,q2,rfl,rfl,q5,rfl⟩:=kJ hi;have hl:((src.drop so).take (n*i.size)).length=n*i.size:=by rw[oe,oV];omega
 have ku:=wP (P:=P) ((src.drop so).take (n*i.size)) 0 o cur w hg (by rw[hl];omega) DG;simp only[Ey]at ku;unfold gH ar;simp only[AF,Cx,AS,bind,pure,run_bind,Sem.bind,Sem.run,Cv.run_underlying q1,Cv.run_sizeOf q2,Builtin.lenOf,hn,au,gN hs h1,ku];rfl
def Hp.apart {k:Ko} {w:bg} {b c:Nat} {o o':Obj} {L:List HP} (H:Hp k w (pt b o::pt c o'::L)):b≠c:=by
 obtain⟨hk,hs,hh⟩:=H;cases hh with
 |cons ha iS hd hr=>
  cases hr with
  |cons hb JK zi wu=>
   intro e;subst e;have:=hd _ ji b;rw[show _=one b o from ha,show _=one b o' from hb]at this;simp[one]at this
def ZG (P:bo) (tS tI sz fO fR:Nat) (s:Option bu) (sn sk:Nat) (i:Int) (v:Option bu) (vn vk:Nat) (w:bg) (R:Ending->bg->Prop):Prop:=
sy s sn sk (ay i) az sz λa1 na1 ka1=>
dp (((vn:Int):Int)==0) (
R (.returned (.slice s sn sk)) w) (
dp ((i:Int)==(sn:Int)) (
∃(a2:Option bu) (na2 ka2:Nat),∃w3:bg,gH P (av #[tS,tS] tS #[.slice s sn sk,.slice v vn vk]) w (.slice a2 na2 ka2) w3/\
R (.returned (.slice a2 na2 ka2)) w3) (
dp (decide ((ae.wrap ((sn:Int)+(vn:Int)):Int)>(sk:Int))) (
sy s sn sk az (ay i) sz λa4 na4 ka4=>
∃(a5:Option bu) (Hk IZ:Nat),∃w6:bg,gH P (av #[tS,tI] tS #[.slice a4 na4 ka4,.int .i64 (ae.wrap (ae.wrap ((sn:Int)+(vn:Int))-i))]) w (.slice a5 Hk IZ) w6/\
sy a5 Hk IZ (ay i) az sz λa7 na7 ka7=>
∃x8:Int,∃w9:bg,gH P (ar #[tS,tS] tI #[.slice a7 na7 ka7,.slice v vn vk]) w6 (.int .i64 x8) w9/\
T5 w9 λw10=>
sy a5 Hk IZ (ay (ae.wrap (i+(vn:Int)))) az sz λa11 aaj aaw=>
sy s sn sk (ay i) az sz λa12 aai aav=>
∃x13:Int,∃w14:bg,gH P (ar #[tS,tS] tI #[.slice a11 aaj aaw,.slice a12 aai aav]) w10 (.int .i64 x13) w14/\
R (.returned (.slice a5 Hk IZ)) w14) (
sy s sn sk az (ay (ae.wrap ((sn:Int)+(vn:Int)))) sz λJh A5 A6=>
sy Jh A5 A6 (ay (ae.wrap (i+(vn:Int)))) az sz λa16 aah aau=>
∃c17:Bool,∃w18:bg,Cv.Ext P fO #[.slice v vn vk,.slice a16 aah aau] w (.bool c17) w18/\
dp (!c17) (
T5 w18 λw19=>
sy Jh A5 A6 (ay (ae.wrap (i+(vn:Int)))) az sz λa20 aag aat=>
sy Jh A5 A6 (ay i) az sz λa21 aaf aas=>
∃x22:Int,∃w23:bg,gH P (ar #[tS,tS] tI #[.slice a20 aag aat,.slice a21 aaf aas]) w19 (.int .i64 x22) w23/\
sy Jh A5 A6 (ay i) az sz λa24 aae aar=>
∃x25:Int,∃w26:bg,gH P (ar #[tS,tS] tI #[.slice a24 aae aar,.slice v vn vk]) w23 (.int .i64 x25) w26/\
R (.returned (.slice Jh A5 A6)) w26) (
sy Jh A5 A6 (ay (sn:Int)) az sz λa27 aad aaq=>
∃x28:Int,∃w29:bg,gH P (ar #[tS,tS] tI #[.slice a27 aad aaq,.slice v vn vk]) w18 (.int .i64 x28) w29/\
sy Jh A5 A6 (ay i) az sz λa30 aac aap=>
Calls P fR #[.slice a30 aac aap,.int .i64 (vn:Int)] w29 λe32 w31=>e32= .returned (.tuple #[])/\
R (.returned (.slice Jh A5 A6)) w31))))
def yDw {α:Type} {l m:Nat} {xs r ys:List α} (hl:l<=xs.length) (hy:ys.length=m) (hr:m<=r.length):
 ((xs++r).take (l+m)++xs.drop l++(xs++r).drop (l+m+(xs.drop l).length)).take l++ys++((xs++r).take (l+m)++xs.drop l++(xs++r).drop (l+m+(xs.drop l).length)).drop (l+ys.length)=(xs.take l++ys++xs.drop l)++r.drop m:=by
 have e1:(xs++r).drop (l+m+(xs.drop l).length)=r.drop m:=by
  rw[oV,show l+m+(xs.length-l)=xs.length+m by omega,KB];simp
 have e2:((xs++r).take (l+m)++xs.drop l++r.drop m).take l=xs.take l:=by
  rw[jd,xq (by rw[oe,im];omega),List.take_take,Gu (by omega),xq hl]
 have e3:((xs++r).take (l+m)++xs.drop l++r.drop m).drop (l+ys.length)=xs.drop l++r.drop m:=by
  have:((xs++r).take (l+m)).length=l+m:=by rw[oe,im];omega
  rw[jd,hy,KB,this,II,Dn,Hh (by omega),yh]
 rw[e1,e2,e3];simp
def U1 (A Z Y:List be):jz (A++Z) A.length Y=A++Y++Z.drop Y.length:=by
 simp only[jz];rw[MH,KB];simp
def Ma {b o n c i:Nat} (h:c≠i):(if c=i then(ay ⟨b,o,az⟩:Option bu)else(ay ⟨b,o,az⟩:Option bu).map (·.add n))=ay ⟨b,o+n,az⟩:=by
 rw[ej h,vw,uD]
def Vz (P:bo) (fO:Nat):Prop:=∀(w:bg) (va sb so la ca lb cb:Nat) (c c':Array be) (T T':bz),va≠sb->w.heap[va]?=ay (.cells c T (0,0))->w.heap[sb]?=ay (.cells c' T' (0,0))->c'.size≠0->
 Cv.Ext P fO #[.slice (ay ⟨va,0,az⟩) la ca,.slice (ay ⟨sb,so,az⟩) lb cb] w (.bool ax) w
def z8h {P : Program} {fO tS tB e sz ou : Nat} {z : Array Value} {fn : Func} (hf : P.funcs[fO]? = some fn) (Bg : (fn.name == "runtime.NumGoroutine") = false) (hb : fn.body.isNone = true) (hn : Extern.findNext fn = none) (he : Extern.find fn = some (Extern.SlicesOverlaps.overlaps #[tS, tS] #[tB]))
 (hi:vT P tS=ay (e,sz,ou,z)):Vz P fO:=by
 obtain⟨i,zv,q1,q2,rfl,rfl,q5,rfl⟩:=kJ hi;intro w va sb so la ca lb cb c c' T T' je h1 h2 h3;unfold Cv.Ext;rw[run_callFunc_extern hf Bg hb hn he,Lib.run_overlaps_apart w tS tB e q1 i.size (λw=>Cv.run_sizeOf q2 w) ⟨va,0,az⟩ ⟨sb,so,az⟩ la ca lb cb je T T' c.size c'.size (by simp[World.shape?,h1]) (by simp[World.shape?,h2]) h3 (by simp[World.frozen?,h1]) (by simp[World.frozen?,h1])];rfl
def y8l {P:bo} {tS tI e sz ou fO fR:Nat} {z:Array be} (hi:vT P tS=ay (e,sz,ou,z)) (hz:z.size=sz) (Ea:0<ou) (oT:0<sz) (h2:Kg P tS=aw) (Hq:P.underlying tI=ay (.int .i64)) (hov:Vz P fO)
 {k:Ko} {w:bg} {L:List HP} {s v:Option bu} {sn sk vn vk i:Nat} {xs ys:List be} (H:Hp k w (oa e sz s sn sk xs::oa e sz v vn vk ys::L)) (h1:∀u∈xs,u.nv=aw) (hy:∀u∈ys,u.nv=aw) (vj:i<=sn) (hv:0<vn)
 (hb:(sn+vn)*ou<=140737488355328):
 ZG P tS tI sz fO fR s sn sk i v vn vk w λen w'=>∃a kk,en= .returned (.slice a (sn+vn) kk)/\Hp k w' (oa e sz a (sn+vn) kk (xs.take (i*sz)++ys++xs.drop (i*sz))::oa e sz v vn vk ys::L):=by
 obtain⟨AG,Hu⟩:=H.len;obtain⟨CD,hvk⟩:=H.swap.len;have hnm:sn+vn<=140737488355328:=xw (Nat.le_mul_of_pos_right _ Ea) hb;have w1:ae.wrap ((sn:Int)+(vn:Int))=((sn+vn:Nat):Int):=by rw[Cv.wrap_i64 (by omega) (by omega)];simp
 have w2:ae.wrap ((i:Int)+(vn:Int))=((i+vn:Nat):Int):=by rw[Cv.wrap_i64 (by omega) (by omega)];simp
 have w3:ae.wrap (((sn+vn:Nat):Int)-(i:Int))=((sn+vn-i:Nat):Int):=by rw[Cv.wrap_i64 (by omega) (by omega)];omega
 have hle:i*sz<=xs.length:=by rw[AG];exact wj _ vj
 have Ho:(xs.take (i*sz)).length=i*sz:=by rw[oe];omega
 have GK:(xs.drop (i*sz)).length=(sn-i)*sz:=by rw[oV,AG,Nat.sub_mul]
 have B9:(i+vn)*sz=i*sz+vn*sz:=zc _ _ _;have JJ:(sn+vn)*sz=i*sz+vn*sz+(sn-i)*sz:=by rw[<- zc,<- zc];congr 1;omega
 have HT:(xs.take (i*sz)++ys++xs.drop (i*sz)).length=(sn+vn)*sz:=by
  rw[im,im,Ho,CD,GK,JJ]
 unfold ZG;simp only[sy,w1,w2,w3,ow];refine⟨⟨oM,oM,Hu⟩,Cv.dp.mk (λc=>absurd c (by simp;omega)) λ_=>Cv.dp.mk (λc=> ?_) λc=>Cv.dp.mk (λhc=> ?_) λhc=> ?_⟩
 ·have c:i=sn:=by have:(i:Int)=(sn:Int):=by simpa using c
                  omega
  subst c;obtain⟨a',c',w',r1,r2⟩:=H.append (rt:=tS) hi h2 (x:= .slice v vn vk) (m:=vn) (ys:=ys) (.inl ⟨v,vk,rfl,H.swap.HL⟩) hy hz Ea hb;refine⟨a',_,c',w',r1,a',c',rfl,?_⟩;rw[og (by omega),Hh (by omega),oL];exact r2
 ·have c:i<sn:=by have:¬(i:Int)=(sn:Int):=by simpa using c
                  omega
  have hc:sk<sn+vn:=by have:=pj hc;omega
  obtain⟨inf,zv,q1,q2,q3,q4,q5,q6⟩:=kJ hi;subst q3 q4 q6;rcases H.ov with⟨_,e0,_⟩|⟨b,r,rfl,g1,g2,g3,H0⟩
  ·omega
  rcases H0.swap.ov with⟨_,e0,_⟩|⟨vb,rv,rfl,g4,g5,g6,H1⟩
  ·omega
  have hold:(au inf.size i (.slice (ay ⟨b,0,az⟩) i sk)).run P w.drew= .ok (xs.take (i*inf.size)).toArray w.drew:=by
   have hbk:=(H1.drew).swap.get;have:=gN (P:=P) (o:=0) (n:=i*inf.size) hbk (by rw[im];omega);unfold au;rw[this,Dn,xq hle]
  have Re:=zQp (need:=sn+vn) (cap:=sk) oM;have aa6:=wj inf.bytes Re;have e2:2*(sn+vn)*inf.bytes=2*((sn+vn)*inf.bytes):=by rw[Nat.mul_assoc]
  have hkb:(sn+vn-i)*inf.bytes<=(sn+vn)*inf.bytes:=wj _ oM;have Pf:=Lib.run_append_grow_zeros (P:=P) w tS tI tS e inf zv .i64 .i64 q1 Hq q2 q5 (ay ⟨b,0,az⟩) i sk (xs.take (i*inf.size)) hold (sn+vn-i) oM oT oM oM oM (by rw[show i+(sn+vn-i)=sn+vn by omega];omega);rw[show i+(sn+vn-i)=sn+vn by omega]at Pf;have hG:sn+vn<=grownCap w (sn+vn) sk e:=grownCap_ge w (sn+vn) sk e;generalize grownCap w (sn+vn) sk e=G at Pf hG;have E7:(xs.take (i*inf.size)).toArray++aq zv.cells (sn+vn-i)++aq zv.cells (G-(sn+vn))=(xs.take (i*inf.size)++((aq zv.cells (sn+vn-i)).toList++(aq zv.cells (G-(sn+vn))).toList)).toArray:=by
   apply Array.ext';simp
  rw[E7]at Pf;have UL:((aq zv.cells (sn+vn-i)).toList++(aq zv.cells (G-(sn+vn))).toList).length=(sn+vn-i)*inf.size+(G-(sn+vn))*inf.size:=by
   rw[im,IV,IV,bv,bv,hz]
  generalize (aq zv.cells (sn+vn-i)).toList++(aq zv.cells (G-(sn+vn))).toList=Z at Pf UL;have hZ2:(sn+vn-i)*inf.size=vn*inf.size+(sn-i)*inf.size:=by rw[<- zc];congr 1;omega
  have H2:=(H1.drew).new (.cells (xs.take (i*inf.size)++Z).toArray e);have hB:w.drew.heap.size=w.heap.size:=rfl;rw[hB]at H2;have B0:=Th (P:=P) (sT:=tS) (ty:=tI) hi (g:=w.heap.size) (o:=0+i*inf.size) (dLen:=sn+vn-i) (dCap:=G-i) (b:=vb) (so:=0) (sLen:=vn) (sCap:=vk) (n:=vn) H2.get H2.swap.get (Gu oM) (by rw[im];omega) (by rw[im,Ho,UL];omega) (by
   rw[Dn,xq (by omega),og (by omega)];exact hy)
  rw[Dn,xq (by omega),og (show ys.length<=vn*inf.size by omega),nw]at B0;have es1:jz (xs.take (i*inf.size)++Z) (i*inf.size) ys=xs.take (i*inf.size)++ys++Z.drop ys.length:=by
   have:=U1 (xs.take (i*inf.size)) Z ys;rwa [Ho]at this
  rw[es1]at B0;have H3:=(H2.yj (.cells (xs.take (i*inf.size)++ys++Z.drop ys.length).toArray e)).drew;have Ph:(xs++r).drop (i*inf.size)=xs.drop (i*inf.size)++r:=ED hle;have BE:=Th (P:=P) (sT:=tS) (ty:=tI) hi (g:=w.heap.size) (o:=0+(i+vn)*inf.size) (dLen:=sn+vn-(i+vn)) (dCap:=G-(i+vn)) (b:=b) (so:=0+i*inf.size) (sLen:=sn-i) (sCap:=sk-i) (n:=sn-i) H3.get H3.swap.drop.swap.get (Gu oM) (by rw[im,AG,nw,<- zc];exact xw (wj _ oM) (Nat.le_add_right _ _)) (by
   rw[im,im,Ho,CD,oV,UL];omega) (by
   rw[nw,Ph,xq (by omega),og (by omega)];exactλu hu=>h1 u (IW hu))
  rw[nw,nw,Ph,xq (by omega),og (show(xs.drop (i*inf.size)).length<=(sn-i)*inf.size by omega)]at BE;have es2:jz (xs.take (i*inf.size)++ys++Z.drop ys.length) ((i+vn)*inf.size) (xs.drop (i*inf.size))=xs.take (i*inf.size)++ys++xs.drop (i*inf.size)++(Z.drop ys.length).drop (xs.drop (i*inf.size)).length:=by
   have:=U1 (xs.take (i*inf.size)++ys) (Z.drop ys.length) (xs.drop (i*inf.size));rwa [show(xs.take (i*inf.size)++ys).length=(i+vn)*inf.size by rw[im,Ho,CD,B9]]at this
  rw[es2]at BE;refine⟨⟨oM,oM⟩,_,_,_,_,Pf,?_⟩;rw[Ma (show G≠i by omega),nw];refine⟨⟨oM,oM,hG⟩,_,_,B0,?_⟩;rintro _ rfl;rw[Ma (show G≠i+vn by omega),Ma (show sk≠i by omega),nw,nw];refine⟨⟨oM,oM,hG⟩,⟨oM,oM,Hu⟩,_,_,BE,_,_,rfl,?_⟩;have H4:=H3.yj (.cells (xs.take (i*inf.size)++ys++xs.drop (i*inf.size)++(Z.drop ys.length).drop (xs.drop (i*inf.size)).length).toArray e);have H5:=H4.Aj (n:=sn+vn) (c:=G) (sz:=inf.size) HT (by
   rw[im,HT,oV,oV,UL,CD,GK];have:G*inf.size=(sn+vn)*inf.size+(G-(sn+vn))*inf.size:=by rw[<- zc];congr 1;omega
   omega) hG
  have H6:=H5.swap.Aj (n:=vn) (c:=vk) (sz:=inf.size) g4 g5 g6;exact(H6.swap.perm (List.Perm.trans ((List.Perm.swap _ _ _).cons _) (List.Perm.swap _ _ _))).drop
 ·have c:i<sn:=by have:¬(i:Int)=(sn:Int):=by simpa using c
                  omega
  have hc:sn+vn<=sk:=by have:=KC hc;omega
  rcases H.ov with⟨_,e0,_⟩|⟨b,r,rfl,g1,g2,g3,H0⟩
  ·omega
  rcases H0.swap.ov with⟨_,e0,_⟩|⟨vb,rv,rfl,g4,g5,g6,H1⟩
  ·omega
  have Du:vn*sz<=r.length:=by
   have e1:(sn+vn)*sz<=sk*sz:=wj _ hc;rw[im,g1]at g2;rw[zc]at e1;omega
  have H2:=H1.swap;have je:vb≠b:=Hp.apart H1;have Ph:(xs++r).drop (i*sz)=xs.drop (i*sz)++r:=ED hle;have hex:=hov w vb b (0+(i+vn)*sz) vn vk (sn+vn-(i+vn)) (sk-(i+vn)) (ys++rv).toArray (xs++r).toArray e e je H1.get H2.get (by
   rw[IQ,im,g1];have:=Nat.mul_pos (show 0<sn by omega) oT;omega)
  have H3:=H2.drew;have B0:=Th (P:=P) (sT:=tS) (ty:=tI) hi (g:=b) (o:=0+(i+vn)*sz) (dLen:=sn+vn-(i+vn)) (dCap:=sk-(i+vn)) (b:=b) (so:=0+i*sz) (sLen:=sn+vn-i) (sCap:=sk-i) (n:=sn-i) H3.get H3.get (by rw[show sn+vn-(i+vn)=sn-i by omega];exact Nat.min_eq_right oM) (by
   rw[im,g1,nw,<- zc];exact xw (wj _ oM) (Nat.le_add_right _ _)) (by
   rw[im,g1,nw,<- zc,show i+vn+(sn-i)=sn+vn by omega,zc];omega) (by
   rw[nw,Ph,xq (by omega),og (by omega)];exactλu hu=>h1 u (IW hu))
  rw[nw,nw,Ph,xq (by omega),og (show(xs.drop (i*sz)).length<=(sn-i)*sz by omega)]at B0;have H4:=H3.yj (.cells (jz (xs++r) ((i+vn)*sz) (xs.drop (i*sz))).toArray e);have vz:(jz (xs++r) ((i+vn)*sz) (xs.drop (i*sz))).length=(xs++r).length:=by
   simp only[jz,im,oe,GK];rw[oV,im,g1,B9];have:sn*sz=i*sz+(sn-i)*sz:=by rw[<- zc];congr 1;omega
   omega
  have BE:=Th (P:=P) (sT:=tS) (ty:=tI) hi (g:=b) (o:=0+i*sz) (dLen:=sn+vn-i) (dCap:=sk-i) (b:=vb) (so:=0) (sLen:=vn) (sCap:=vk) (n:=vn) H4.get H4.swap.get (Gu oM) (by rw[im];omega) (by
   rw[vz,im,nw];omega) (by
   rw[Dn,xq (by omega),og (by omega)];exact hy)
  rw[Dn,xq (by omega),og (show ys.length<=vn*sz by omega),nw]at BE;have es:jz (jz (xs++r) ((i+vn)*sz) (xs.drop (i*sz))) (i*sz) ys=(xs.take (i*sz)++ys++xs.drop (i*sz))++r.drop (vn*sz):=by
   have:=yDw (l:=i*sz) (m:=vn*sz) (xs:=xs) (r:=r) (ys:=ys) hle CD Du;simp only[jz,B9];exact this
  rw[es]at BE;refine⟨⟨oM,oM⟩,⟨oM,oM,oM⟩,ax,w,?_,Cv.dp.mk (λ_=> ?_) (λc=>absurd c Z8)⟩
  ·rw[Ma (show sk≠i+vn by omega)];exact hex
  rintro _ rfl;rw[Ma (show sk≠i+vn by omega),Ma (show sk≠i by omega),nw,nw];refine⟨⟨oM,oM,oM⟩,⟨oM,oM,oM⟩,_,_,B0,⟨oM,oM,oM⟩,_,_,BE,_,_,rfl,?_⟩;have H5:=H4.yj (.cells (xs.take (i*sz)++ys++xs.drop (i*sz)++r.drop (vn*sz)).toArray e);have H6:=H5.Aj (n:=sn+vn) (c:=sk) (sz:=sz) HT (by
   rw[im,HT,oV,<- g2,im,g1,zc];omega) hc
  exact(H6.swap.Aj (n:=vn) (c:=vk) (sz:=sz) g4 g5 g6).swap
structure Km where
 eg:List (List D)
 el:List D
 i:Nat
def On (e sz ou:Nat):fy where
 ι:=Km
 pat:=λi=>[.own 0,.d (.v (.int .i64 i.i)),.own 1]
 pre:=λi=>[.own e sz i.eg,.own e sz [i.el]]
 dp:=λi=>i.i<=i.eg.length/\(i.eg.length+1)*ou<=140737488355328
 alts:=λi=>[{o:=Unit,res:=λ_=> .own 2,post:=λ_=>[.gone,.gone,.own e sz (i.eg.take i.i++i.el::i.eg.drop i.i)],rel:=λ_=>True}]
def Db {P:bo} (hm:P.follows .mixedOrders=aw) {tS tI e sz ou fI fO fR:Nat} {z:Array be} {fn:Func} {c:Code} (hf:P.funcs[fI]? =ay fn) (hb:fn.body=ay c) (BF:uP P fI=aw) (oK:wm fn.ntmps c=aw) (KO:okF [] c=aw) (K6:Nat.ble 3 fn.ntmps=aw)
 (hi:vT P tS=ay (e,sz,ou,z)) (hz:z.size=sz) (Ea:0<ou) (oT:0<sz) (h2:Kg P tS=aw) (Hq:P.underlying tI=ay (.int .i64)) (hov:Vz P fO)
 (heq:∀(s:Option bu) (sn sk:Nat) (i:Int) (v:Option bu) (vn vk:Nat) (w:bg) (R:Ending->bg->Prop),ZG P tS tI sz fO fR s sn sk i v vn vk w R=Ef P [] c (RG P fn R) (hJ [.slice s sn sk,.int .i64 i,.slice v vn vk]) w):
 (On e sz ou).ok P fI:=by
 intro i hc k L E w ys R hv;obtain⟨c1,c2⟩:i.i<=i.eg.length/\(i.eg.length+1)*ou<=140737488355328:=hc;simp only[On,gp,VR,DR]at hv;obtain⟨y0,_,rfl,⟨l0,e0,_⟩,y1,_,rfl,⟨rfl,_⟩,y2,_,rfl,⟨l2,e2,_⟩,rfl⟩:=hv;obtain⟨s,sk,xs,aaa,g1,vh,hu,H⟩:=R.rn (n:=0) (t:=e) (sz:=sz) (eg:=i.eg) rfl;rw[e0]at g1;cases g1;have ra:∃v vk zs,y2= .slice v 1 vk/\iz E.F i.el zs/\i.el.length=sz/\Hp k w (oa e sz s i.eg.length sk xs::oa e sz v 1 vk zs::fz E.F::L):=by
  obtain⟨hk,hs,hh⟩:=H;cases hh with
  |cons ha iS hd hr=>
   simp only[On,gC,vH,jo,Ct,tv,yh]at hr;cases hr with
   |cons mr JK zi wu=>
    rcases mr with⟨q,_⟩|⟨⟨KJ,rz⟩,q1,q2⟩
    ·cases q
    ·simp only at q1;rw[e2]at q1;cases q1;simp only[fi]at q2;obtain⟨a,kk,zs,rfl,q3,q4,q5⟩:=q2;simp only[AD,List.flatten_nil,oL]at q3;exact⟨a,kk,zs,rfl,q3,q4 _ ji,hk,_,.cons ha iS hd (.cons q5 JK zi wu)⟩
 obtain⟨v,vk,zs,rfl,M6,oR,H2⟩:=ra;have hv:=y8l (fR:=fR) (fO:=fO) hi hz Ea oT h2 Hq hov (i:=i.i) H2 vh.one M6.one c1 oM c2;have vt:=zLb (args:=[.slice s i.eg.length sk,.int .i64 i.i,.slice v 1 vk]) hm hf hb [] oK KO K6 (heq s i.eg.length sk i.i v 1 vk w _) hv;refine aZ BF (vt.mono ?_);rintro en w' ⟨a,kk,rfl,H3⟩;have H4:Hp k w' (oa e sz a (i.eg.take i.i++i.el::i.eg.drop i.i).length kk (xs.take (i.i*sz)++zs++xs.drop (i.i*sz))::(([]:List (Nat×ff)).map (gu E)++fz E.F::L)):=by
  have:(i.eg.take i.i++i.el::i.eg.drop i.i).length=i.eg.length+1:=by
   rw[im,iD,oe,oV];omega
  rw[this];exact H3.swap.drop
 obtain⟨E',r1,r2,r3⟩:=cY (nx:=2) R.nx (by
  rw[MP,AD,<- rN i.i hu,<- pE i.i hu,<- jd];exact((vh.take _).append M6).append (vh.drop _)) (λx hx=>by
   rcases pn.1 hx with hx|hx
   ·exact hu x (MS hx)
   ·rcases mf.1 hx with rfl|hx
    ·exact oR
    ·exact hu x (IW hx)) H4
 have hl:(i.eg.take i.i++i.el::i.eg.drop i.i).length=i.eg.length+1:=by
  rw[im,iD,oe,oV];omega
 rw[hl]at r3;refine⟨_,rfl,_,vf.2 rfl,(),trivial,E',r1,r3,⟨r2.nx,?_⟩⟩;have q1:=((@hP k w' True _).2 ⟨trivial,r2.hp⟩).imp (B:=gu E' (1,.gone)) λx hx=> .inl ⟨rfl,hx.2⟩
 have q2:=((@hP k w' True _).2 ⟨trivial,q1⟩).imp (B:=gu E' (0,.gone)) λx hx=> .inl ⟨rfl,hx.2⟩
 exact q2
def Gc:fy:=fj DA (λi=>[zA i.side,zA i.x,zA i.y]) (λ_=>[]) (λ_=>True) (λi=>yL (jy i.side i.x i.y)) (λ_=>[])
@[reducible] def y2g (s:Slot):V:= .agg [yL s.used,zA s.n,zA s.id,zA s.dq,yL s.top,zA s.queue,zA s.ahead,zA s.back]
def LA:fy:=fj Slot (λs=>[y2g s]) (λ_=>[]) (λ_=>True) (λs=>yL (!s.used)) (λ_=>[])
def kW (l:List Slot):Int:=Iu (l.findIdx? λs=> !s.used)
def Bq:fy:=fj (List Slot) (λ_=>[.own 0,.fn 255 [] []]) (λl=>[.own 314 8 (l.map zR)]) (λl=>l.length<=1000000) (λl=>zA (kW l)) (λl=>[.own 314 8 (l.map zR)])
def yNi (l:List Slot):List gj:=[{ι:=Nat,du:=λj=>[(8,zA j)],rows:=λ_=>[]}]
def mS:cV:=⟨-1,-1,0,0⟩
def dt.ri (a:dt):dt:={a with dx:=a.dx++[mS]}
def LW:fy:=fj dt (λ_=>[.nm 0 0]) (λa=>[j0 a]) (λa=>a.dx.length<=1000000) (λa=>zA a.dx.length) (λa=>[j0 a.ri])
structure MA where
 a:dt
 n:Int
 t:Bool
def dt.iw (a:dt) (n:Int):Bool:=decide (0<=n) && (decide (n<a.du.length) && (a.du.getD n.toNat iB).used)
def dt.mc (a:dt) (n:Int) (t:Bool):dt:=if a.iw n=aw then{a with du:=a.du.modify n.toNat λs=>{s with top:=t}}else a
def JZ:fy:=fj MA (λi=>[.nm 0 0,zA i.n,yL i.t]) (λi=>[j0 i.a]) (λi=>i.a.du.length<=1000000) (λi=>zA (if i.a.iw i.n=aw then 0 else 26)) (λi=>[j0 (i.a.mc i.n i.t)])
structure CO where
 a:dt
 n:Int
 id:Int
 dq:Int
 top:Bool
def dt.put (a:dt) (n id dq:Int) (top:Bool):dt:=
 let q:=a.dx.getD n.toNat mS
 let k:=kW a.du
 let sl:=a.du.set k.toNat ⟨aw,k,id,dq,top,n,q.last,-1⟩
 ⟨if q.last= -1 then sl else sl.modify q.last.toNat λs=>{s with back:=k},a.dx.set n.toNat ⟨if q.last= -1 then k else q.first,k,ae.wrap (q.total+dq),ae.wrap (q.count+1)⟩,ae.wrap (a.free-1)⟩
def dt.push (a:dt) (n id dq:Int) (top:Bool):dt×Int×Int:=
 if n<0\/a.dx.length<=n then(a,0,26)else if dq<1\/1000000<dq then(a,0,24)else if a.free=0 then(a,0,13)else(a.put n id dq top,kW a.du,0)
def dt.fit (a:dt):Prop:=a.du.length<=1000000/\(a.free≠0->∃s∈a.du,s.used=ax)/\∀q∈a.dx,q.last= -1\/(0<=q.last/\q.last<a.du.length)
def F1:fy:=fj CO (λi=>[.nm 0 0,zA i.n,zA i.id,zA i.dq,yL i.top]) (λi=>[j0 i.a]) (λi=>i.a.fit) (λi=> .iW [zA (i.a.push i.n i.id i.dq i.top).2.1,zA (i.a.push i.n i.id i.dq i.top).2.2]) (λi=>[j0 (i.a.push i.n i.id i.dq i.top).1])
@[reducible] def Is (b:dm):List ff:=[zQ b 0,zQ b 1,zQ b 2,zQ b 3,zQ b 4,zQ b 5]
structure oG where
 b:dm
 dj:Int
def zZ (s:Int) (l:List xL) (dj:Int):Nat:=(l.takeWhile λr=>jy s r.dj dj).length
def kP (s:Int) (l:List xL) (dj:Int):Bool:=match l[zZ s l dj]? with
 |some r=>decide (r.dj=dj)
 |none=>ax
def dm.dy (b:dm) (s:Int):List xL:=if s=1 then b.ez else b.dv
def yGz (s:Int):fy:=fj oG (λi=>[.nm 0 0,zA s,zA i.dj]) (λi=>Is i.b) (λi=>i.b.small) (λi=> .iW [zA (zZ s (i.b.dy s) i.dj),yL (kP s (i.b.dy s) i.dj)]) (λi=>Is i.b)
def FK:fy:=yGz 1
def FJ:fy:=yGz 2
def yUk:List gj:=[{ι:=Nat,du:=λj=>[(9,zA j)],rows:=λ_=>[]}]
def kf (l:List (Int×Place)) (k:Int):Option Place:=(l.find? λx=>decide (x.1=k)).map (·.2)
def tH (k:Int) (v:Place):List (Int×Place)->List (Int×Place)
 |[]=>[(k,v)]
 |(a,b)::l=>if k=a then(a,v)::l else(a,b)::tH k v l
structure B5 where
 b:dm
 id:Int
def dm.mh (b:dm) (s:Int):Bool:=if s=1 then b.fm else b.fp
def dm.iU (b:dm) (s:Int):Int:=if s=1 then b.gg else b.gh
def dm.iP (b:dm) (s:Int):dt:=if b.mh s=aw then(match kf b.at_ (b.iU s)with
 |some o=>if o.side=s then b.a.mc o.slot ax else b.a
 |none=>b.a)else b.a
def dm.jc (b:dm) (id s:Int):dm:=if s=1 then{b with a:=b.iP s,gg:=id,fm:=aw}else{b with a:=b.iP s,gh:=id,fp:=aw}
def yLq (s:Int):fy:=fj B5 (λi=>[.nm 0 0,zA i.id,zA s]) (λi=>Is i.b) (λi=>i.b.small) (λ_=>c9) (λi=>Is (i.b.jc i.id s))
def FG:fy:=yLq 1
def FF:fy:=yLq 2
def dm.iN (b:dm):Int×List Int×dt:=if b.spare.length=0 then(b.a.dx.length,b.spare,b.a.ri)else(b.spare.getD (b.spare.length-1) 0,b.spare.take (b.spare.length-1),b.a)
def dm.ins (b:dm) (s dj:Int):List xL:=(b.dy s).take (zZ s (b.dy s) dj)++⟨dj,b.iN.1⟩::(b.dy s).drop (zZ s (b.dy s) dj)
def dm.fu (b:dm) (s dj:Int):dm×Int:=
 if kP s (b.dy s) dj=aw then(b,((b.dy s).getD (zZ s (b.dy s) dj) ⟨0,0⟩).queue)
 else(if s=1 then{b with a:=b.iN.2.2,ez:=b.ins s dj,spare:=b.iN.2.1}else{b with a:=b.iN.2.2,dv:=b.ins s dj,spare:=b.iN.2.1},b.iN.1)
def yPl (b:dm):ff:= .cells [.nm 1 0,.own 6,.own 3,.mp 4,zA b.gg,zA b.gh,.own 7,yL b.fm,yL b.fp] 273
def yOl (b:dm):ff:= .cells [.nm 1 0,.own 2,.own 6,.mp 4,zA b.gg,zA b.gh,.own 7,yL b.fm,yL b.fp] 273
@[reducible] def yYn (b:dm):List ff:=[yPl b,zQ b 1,.gone,zQ b 3,zQ b 4,.gone,zQ b 2,zQ b 5]
@[reducible] def yVo (b:dm):List ff:=[yOl b,zQ b 1,zQ b 2,.gone,zQ b 4,.gone,zQ b 3,zQ b 5]
@[reducible] def dm.fit (b:dm):Prop:=b.a.fit/\b.a.dx.length<=100000/\b.ez.length<=100000/\b.dv.length<=100000/\b.spare.length<=100000
def C6:fy:=fj oG (λi=>[.nm 0 0,zA 1,zA i.dj]) (λi=>Is i.b) (λi=>i.b.fit) (λi=>zA (i.b.fu 1 i.dj).2) (λi=>yYn (i.b.fu 1 i.dj).1)
def C5:fy:=fj oG (λi=>[.nm 0 0,zA 2,zA i.dj]) (λi=>Is i.b) (λi=>i.b.fit) (λi=>zA (i.b.fu 2 i.dj).2) (λi=>yVo (i.b.fu 2 i.dj).1)
def QU:fy:=On 276 2 16
def z0m (i:DA):Prop:=
 dp (i.side==1) (∃(a:Unit),jy i.side i.x i.y=decide (i.x>i.y)/\True) (∃(a:Unit),jy i.side i.x i.y=decide (i.x<i.y)/\True)
def yLm (s:Slot):Prop:=
 ∃(a:Unit),(!s.used)=!s.used/\True
def z3k (l:List Slot):Prop:=
 ∃(a:Nat),(↑a:Int)=0/\∃(b:Nat->Prop),∃(c:Nat->Nat),b a/\∀(d:Nat),b d->dp (decide ((↑d:Int)<(↑(aa zR l).length:Int))) ((0<=(↑d:Int)/\(↑d:Int)<(↑(aa zR l).length:Int))/\∃(e:Bool),∃(f:Int),∃(g:Int),∃(h:Int),∃(j:Bool),∃(k:Int),∃(m:Int),∃(n:Int),zD (aa zR l) (↑d:Int).toNat 0 8=ay [D.v (.bool e),dI f,dI g,dI h,D.v (.bool j),dI k,dI m,dI n]/\∃(p:Slot),p.used=e/\p.n=f/\p.id=g/\p.dq=h/\p.top=j/\p.queue=k/\p.ahead=m/\p.back=n/\True/\∀(q:Unit),True->dp (!p.used) (∃(r:Unit),kW l=(↑d:Int)/\di (aa zR l)/\True) (∃(r:Nat),(↑r:Int)=ae.wrap ((↑d:Int)+1)/\b r/\c r<c d/\di (ag 314 8 (aa zR l)))) (∃(e:Unit),kW l=(-1)/\di (aa zR l)/\True)
def yLp (a:dt):Prop:=
 ((aa zP a.dx).length+1)*(32:Nat)<=(140737488355328:Nat)/\∃(b:Unit),(↑a.dx.length:Int)=ae.wrap ((↑(aa zP a.dx++[[dI (-1),dI (-1),dI 0,dI 0]]).length:Int)-1)/\di a.free/\di (aa zR a.du)/\aa zP (a.dx++[mS])=aa zP a.dx++[[dI (-1),dI (-1),dI 0,dI 0]]/\True
def S1 (a:MA):Prop:=∃(b:Unit),(if a.a.iw a.n=aw then(0:Int)else(26:Int))=26/\(a.a.mc a.n a.t).free=a.a.free/\aa zR (a.a.mc a.n a.t).du=aa zR a.a.du/\aa zP (a.a.mc a.n a.t).dx=aa zP a.a.dx/\True
def yTl (i:MA):Prop:=
 dp (decide (i.n<0)) (S1 i) (dp (decide (i.n>=(↑(aa zR i.a.du).length:Int))) (S1 i) ((0<=i.n/\i.n<(↑(aa zR i.a.du).length:Int))/\∃(a:Bool),zD (aa zR i.a.du) i.n.toNat 0 1=ay [D.v (.bool a)]/\dp (!a) (S1 i) ((0<=i.n/\i.n<(↑(aa zR i.a.du).length:Int))/\i.n.toNat<(aa zR i.a.du).length/\∃(b:Unit),(if i.a.iw i.n=aw then(0:Int)else(26:Int))=0/\(i.a.mc i.n i.t).free=i.a.free/\aa zR (i.a.mc i.n i.t).du=zV (aa zR i.a.du) i.n.toNat 4 [D.v (.bool i.t)]/\aa zP (i.a.mc i.n i.t).dx=aa zP i.a.dx/\True)))
def yJ (a:CO):=(a.a.push a.n a.id a.dq a.top)
def sO (a:CO):Prop:=(yJ a).fst.free=a.a.free/\aa zR (yJ a).fst.du=aa zR a.a.du/\aa zP (yJ a).fst.dx=aa zP a.a.dx/\True
def Ye (a:CO):Prop:=∃(b:Unit),(yJ a).snd.fst=0/\(yJ a).snd.snd=26/\sO a
def Yr (a:CO):Prop:=∃(b:Unit),(yJ a).snd.fst=0/\(yJ a).snd.snd=24/\sO a
def sM (a:CO) (b:List Slot):=(zV (zV (aa zP a.a.dx) a.n.toNat 0 [dI (kW b)]) a.n.toNat 1 [dI (kW b)])
def r9 (a:CO) (b:List Slot) (c:Int):=(zV (sM a b) a.n.toNat 2 [dI (ae.wrap (c+a.dq))])
def tR (a:CO) (b:List Slot):=(zV (aa zP a.a.dx) a.n.toNat 1 [dI (kW b)])
def sU (a:CO) (b:List Slot) (c:Int):=(zV (tR a b) a.n.toNat 2 [dI (ae.wrap (c+a.dq))])
def yIn (i:CO):Prop:=
 dp (decide (i.n>=0)) (dp (!decide (i.n<(↑(aa zP i.a.dx).length:Int))) (Ye i) (dp (decide (i.dq<1)) (Yr i) (dp (decide (i.dq>1000000)) (Yr i) (dp (i.a.free==0) (∃(a:Unit),(yJ i).snd.fst=0/\(yJ i).snd.snd=13/\sO i) (∃(a:List Slot),aa zR a=aa zR i.a.du/\a.length<=1000000/\∀(b:Unit),True->(0<=i.n/\i.n<(↑(aa zP i.a.dx).length:Int))/\∃(c:Int),zD (aa zP i.a.dx) i.n.toNat 1 1=ay [dI c]/\(0<=kW a/\kW a<(↑(aa zR a).length:Int))/\(kW a).toNat<(aa zR a).length/\∃(d:Int),zD (aa zP i.a.dx) i.n.toNat 1 1=ay [dI d]/\dp (d==(-1)) (i.n.toNat<(aa zP i.a.dx).length/\i.n.toNat<(zV (aa zP i.a.dx) i.n.toNat 0 [dI (kW a)]).length/\∃(e:Int),zD (sM i a) i.n.toNat 2 1=ay [dI e]/\i.n.toNat<(sM i a).length/\∃(f:Int),zD (r9 i a e) i.n.toNat 3 1=ay [dI f]/\i.n.toNat<(r9 i a e).length/\∃(g:Unit),(yJ i).snd.fst=kW a/\(yJ i).snd.snd=0/\(yJ i).fst.free=ae.wrap (i.a.free-1)/\aa zR (yJ i).fst.du=zV (aa zR a) (kW a).toNat 0 [D.v (.bool aw),dI (kW a),dI i.id,dI i.dq,D.v (.bool i.top),dI i.n,dI c,dI (-1)]/\aa zP (yJ i).fst.dx=zV (r9 i a e) i.n.toNat 3 [dI (ae.wrap (f+1))]/\True) (∃(e:Int),zD (aa zP i.a.dx) i.n.toNat 1 1=ay [dI e]/\(0<=e/\e<(↑(zV (aa zR a) (kW a).toNat 0 [D.v (.bool aw),dI (kW a),dI i.id,dI i.dq,D.v (.bool i.top),dI i.n,dI c,dI (-1)]).length:Int))/\e.toNat<(zV (aa zR a) (kW a).toNat 0 [D.v (.bool aw),dI (kW a),dI i.id,dI i.dq,D.v (.bool i.top),dI i.n,dI c,dI (-1)]).length/\i.n.toNat<(aa zP i.a.dx).length/\∃(f:Int),zD (tR i a) i.n.toNat 2 1=ay [dI f]/\i.n.toNat<(tR i a).length/\∃(g:Int),zD (sU i a f) i.n.toNat 3 1=ay [dI g]/\i.n.toNat<(sU i a f).length/\∃(h:Unit),(yJ i).snd.fst=kW a/\(yJ i).snd.snd=0/\(yJ i).fst.free=ae.wrap (i.a.free-1)/\aa zR (yJ i).fst.du=zV (zV (aa zR a) (kW a).toNat 0 [D.v (.bool aw),dI (kW a),dI i.id,dI i.dq,D.v (.bool i.top),dI i.n,dI c,dI (-1)]) e.toNat 7 [dI (kW a)]/\aa zP (yJ i).fst.dx=zV (sU i a f) i.n.toNat 3 [dI (ae.wrap (g+1))]/\True)))))) (Ye i)
def xW (a:oG):=(↑(zZ 1 (a.b.dy 1) a.dj):Int)
def uI (a:oG):=(↑(aa zB a.b.ez).length:Int)
def cM (a:oG):Prop:=a.b.gg=a.b.gg/\di a.b.gh/\di a.b.fm/\di a.b.fp/\af dt 3 zF a.b.a=zQ a.b 1/\di (aa zB a.b.ez)/\di (aa zB a.b.dv)/\di (iF a.b.at_)/\di (iE a.b.spare)/\True
def Yv (a:Nat) (b:oG):Prop:=(0<=(↑a:Int)/\(↑a:Int)<(uI b))/\∃(c:Int),zD (aa zB b.b.ez) (↑a:Int).toNat 0 1=ay [dI c]/\∃(d:Unit),(xW b)=(↑a:Int)/\kP 1 (b.b.dy 1) b.dj=(c==b.dj)/\cM b
def YE (a:oG) (b:Nat):Prop:=∃(c:Unit),(xW a)=(↑b:Int)/\kP 1 (a.b.dy 1) a.dj=ax/\cM a
def sP (a:Nat) (b:Nat->Prop) (c:Nat->Nat) (d:oG):Prop:=∃(e:Nat),(↑e:Int)=ae.wrap ((↑a:Int)+1)/\b e/\c e<c a/\di (zQ d.b 0)/\di (zQ d.b 1)/\di (zQ d.b 2)/\di (zQ d.b 3)/\di (zQ d.b 4)/\di (zQ d.b 5)
def tN (a:Nat) (b:oG):=(decide ((↑a:Int)<(uI b)))
def yJb (i:oG):Prop:=
 ∃(a:Nat),(↑a:Int)=0/\∃(b:Nat->Prop),∃(c:Nat->Nat),b a/\∀(d:Nat),b d->dp (tN d i) ((0<=(↑d:Int)/\(↑d:Int)<(uI i))/\∃(e:Int),zD (aa zB i.b.ez) (↑d:Int).toNat 0 1=ay [dI e]/\∃(f:DA),f.side=1/\f.x=e/\f.y=i.dj/\True/\∀(g:Unit),True->dp (jy f.side f.x f.y) (sP d b c i) (dp (tN d i) (Yv d i) (YE i d))) (dp (tN d i) (Yv d i) (YE i d))
def xU (a:oG):=(↑(zZ 2 (a.b.dy 2) a.dj):Int)
def uL (a:oG):=(↑(aa zB a.b.dv).length:Int)
def Yz (a:Nat) (b:oG):Prop:=(0<=(↑a:Int)/\(↑a:Int)<(uL b))/\∃(c:Int),zD (aa zB b.b.dv) (↑a:Int).toNat 0 1=ay [dI c]/\∃(d:Unit),(xU b)=(↑a:Int)/\kP 2 (b.b.dy 2) b.dj=(c==b.dj)/\cM b
def X7 (a:oG) (b:Nat):Prop:=∃(c:Unit),(xU a)=(↑b:Int)/\kP 2 (a.b.dy 2) a.dj=ax/\cM a
def sG (a:Nat) (b:oG):=(decide ((↑a:Int)<(uL b)))
def yJt (i:oG):Prop:=
 ∃(a:Nat),(↑a:Int)=0/\∃(b:Nat->Prop),∃(c:Nat->Nat),b a/\∀(d:Nat),b d->dp (sG d i) ((0<=(↑d:Int)/\(↑d:Int)<(uL i))/\∃(e:Int),zD (aa zB i.b.dv) (↑d:Int).toNat 0 1=ay [dI e]/\∃(f:DA),f.side=2/\f.x=e/\f.y=i.dj/\True/\∀(g:Unit),True->dp (jy f.side f.x f.y) (sP d b c i) (dp (sG d i) (Yz d i) (X7 i d))) (dp (sG d i) (Yz d i) (X7 i d))
def cB (a:B5):Prop:=aa zB a.b.ez=aa zB a.b.ez/\di (aa zB a.b.dv)/\di (iF a.b.at_)/\di (iE a.b.spare)/\True
def eH (a:B5):Prop:=∃(b:Unit),di a.id/\di a.b.gh/\aw=aw/\di a.b.fp/\af dt 3 zF (a.b.iP 1)=zQ a.b 1/\cB a
def X2 (a:B5) (b:Int) (c:Int) (d:Int) (e:Bool):Prop:=kO (ba ae a.b.gg) (iF a.b.at_)=ay [dI b,dI c,dI d]/\e=aw\/kO (ba ae a.b.gg) (iF a.b.at_)=az/\[dI b,dI c,dI d]=[dI 0,dI 0,dI 0]/\e=ax
def Yi (a:B5):Prop:=∀(b:be×List D),b∈iF a.b.at_->lj (ba ae a.b.gg) b.fst=aw
def yGc (i:B5):Prop:=
 dp i.b.fm ((Yi i)/\∃(a:Bool),∃(b:Int),∃(c:Int),∃(d:Int),(X2 i b c d a)/\((Yi i)/\∃(e:Bool),∃(f:Int),∃(g:Int),∃(h:Int),(X2 i f g h e)/\(f=b/\g=c/\h=d/\True)/\e=a/\True)/\di i.b.gg/\True/\dp a (dp (b==1) (∃(e:MA),e.n=d/\e.t=ax/\af dt 3 zF e.a=zQ i.b 1/\e.a.du.length<=1000000/\∀(f:Unit),True->∃(g:Unit),di i.id/\di i.b.gh/\aw=aw/\di i.b.fp/\af dt 3 zF (i.b.iP 1)=af dt 3 zF (e.a.mc e.n e.t)/\cB i) (eH i)) (eH i)) (eH i)
def sA (a:B5):Prop:=∃(b:Unit),di a.b.gg/\di a.id/\di a.b.fm/\aw=aw/\af dt 3 zF (a.b.iP 2)=zQ a.b 1/\cB a
def Yu (a:B5) (b:Int) (c:Int) (d:Int) (e:Bool):Prop:=kO (ba ae a.b.gh) (iF a.b.at_)=ay [dI b,dI c,dI d]/\e=aw\/kO (ba ae a.b.gh) (iF a.b.at_)=az/\[dI b,dI c,dI d]=[dI 0,dI 0,dI 0]/\e=ax
def Yw (a:B5):Prop:=∀(b:be×List D),b∈iF a.b.at_->lj (ba ae a.b.gh) b.fst=aw
def yLb (i:B5):Prop:=
 dp i.b.fp ((Yw i)/\∃(a:Bool),∃(b:Int),∃(c:Int),∃(d:Int),(Yu i b c d a)/\((Yw i)/\∃(e:Bool),∃(f:Int),∃(g:Int),∃(h:Int),(Yu i f g h e)/\(f=b/\g=c/\h=d/\True)/\e=a/\True)/\di i.b.gh/\True/\dp a (dp (b==2) (∃(e:MA),e.n=d/\e.t=ax/\af dt 3 zF e.a=zQ i.b 1/\e.a.du.length<=1000000/\∀(f:Unit),True->∃(g:Unit),di i.b.gg/\di i.id/\di i.b.fm/\aw=aw/\af dt 3 zF (i.b.iP 2)=af dt 3 zF (e.a.mc e.n e.t)/\cB i) (sA i)) (sA i)) (sA i)
def qF (a:oG):Prop:=(a.b.a.du.length<=1000000/\a.b.a.dx.length<=1000000)/\a.b.ez.length<=1000000/\a.b.dv.length<=1000000/\a.b.spare.length<=1000000
def fN (a:oG):Prop:=0<=(xW a)/\(xW a)<(uI a)
def uA (a:oG):=((↑(iE a.b.spare).length:Int)-1)
def nM (a:oG):Prop:=0<=ae.wrap (uA a)/\ae.wrap (uA a)<=(↑(iE a.b.spare).length:Int)
def nG (a:oG):Prop:=0<=ae.wrap (uA a)/\ae.wrap (uA a)<(↑(iE a.b.spare).length:Int)
def fU (a:Km):Prop:=a.i<=a.eg.length/\(a.eg.length+1)*(16:Nat)<=(140737488355328:Nat)
def fC (a:oG):=(ae.wrap (uA a))
def zN (a:oG):=(a.b.fu 1 a.dj)
def yBv (i:oG):Prop:=
 ∃(a:oG),di ((1:Int))/\a.dj=i.dj/\a.b.gg=i.b.gg/\a.b.gh=i.b.gh/\a.b.fm=i.b.fm/\a.b.fp=i.b.fp/\af dt 3 zF a.b.a=zQ i.b 1/\aa zB a.b.ez=aa zB i.b.ez/\aa zB a.b.dv=aa zB i.b.dv/\iF a.b.at_=iF i.b.at_/\iE a.b.spare=iE i.b.spare/\(qF a)/\∀(b:Unit),True->dp (kP 1 (a.b.dy 1) a.dj) ((fN a)/\∃(c:Int),zD (aa zB a.b.ez) (xW a).toNat 1 1=ay [dI c]/\∃(d:Unit),(zN i).snd=c/\(zN i).fst.gg=a.b.gg/\(zN i).fst.gh=a.b.gh/\(zN i).fst.fm=a.b.fm/\(zN i).fst.fp=a.b.fp/\af dt 3 zF (zN i).fst.a=af dt 3 zF a.b.a/\aa zB (zN i).fst.dv=aa zB a.b.dv/\iF (zN i).fst.at_=iF a.b.at_/\aa zB (zN i).fst.ez=aa zB a.b.ez/\iE (zN i).fst.spare=iE a.b.spare/\True) (dp (decide ((↑(iE a.b.spare).length:Int)>0)) ((nG a)/\∃(c:Int),zD (iE a.b.spare) (fC a).toNat 0 1=ay [dI c]/\(nM a)/\True/\∃(d:Km),(↑d.i:Int)=(xW a)/\d.eg=aa zB a.b.ez/\[d.el]=[[dI i.dj,dI c]]/\(fU d)/\∀(e:Unit),True->∃(f:Unit),(zN i).snd=c/\(zN i).fst.gg=a.b.gg/\(zN i).fst.gh=a.b.gh/\(zN i).fst.fm=a.b.fm/\(zN i).fst.fp=a.b.fp/\af dt 3 zF (zN i).fst.a=af dt 3 zF a.b.a/\aa zB (zN i).fst.dv=aa zB a.b.dv/\iF (zN i).fst.at_=iF a.b.at_/\aa zB (zN i).fst.ez=ab d.i d.eg++d.el::ac d.i d.eg/\iE (zN i).fst.spare=ab (fC a).toNat (iE a.b.spare)/\True) (∃(c:dt),af dt 3 zF c=af dt 3 zF a.b.a/\c.dx.length<=1000000/\∀(d:Unit),True->True/\∃(e:Km),(↑e.i:Int)=(xW a)/\e.eg=aa zB a.b.ez/\[e.el]=[[dI i.dj,dI (↑c.dx.length:Int)]]/\(fU e)/\∀(f:Unit),True->∃(g:Unit),(zN i).snd=(↑c.dx.length:Int)/\(zN i).fst.gg=a.b.gg/\(zN i).fst.gh=a.b.gh/\(zN i).fst.fm=a.b.fm/\(zN i).fst.fp=a.b.fp/\af dt 3 zF (zN i).fst.a=af dt 3 zF c.ri/\aa zB (zN i).fst.dv=aa zB a.b.dv/\iF (zN i).fst.at_=iF a.b.at_/\aa zB (zN i).fst.ez=ab e.i e.eg++e.el::ac e.i e.eg/\iE (zN i).fst.spare=iE a.b.spare/\True))
def g9 (a:oG):Prop:=0<=(xU a)/\(xU a)<(uL a)
def zO (a:oG):=(a.b.fu 2 a.dj)
def z8c (i:oG):Prop:=
 ∃(a:oG),di ((2:Int))/\a.dj=i.dj/\a.b.gg=i.b.gg/\a.b.gh=i.b.gh/\a.b.fm=i.b.fm/\a.b.fp=i.b.fp/\af dt 3 zF a.b.a=zQ i.b 1/\aa zB a.b.ez=aa zB i.b.ez/\aa zB a.b.dv=aa zB i.b.dv/\iF a.b.at_=iF i.b.at_/\iE a.b.spare=iE i.b.spare/\(qF a)/\∀(b:Unit),True->dp (kP 2 (a.b.dy 2) a.dj) ((g9 a)/\∃(c:Int),zD (aa zB a.b.dv) (xU a).toNat 1 1=ay [dI c]/\∃(d:Unit),(zO i).snd=c/\(zO i).fst.gg=a.b.gg/\(zO i).fst.gh=a.b.gh/\(zO i).fst.fm=a.b.fm/\(zO i).fst.fp=a.b.fp/\af dt 3 zF (zO i).fst.a=af dt 3 zF a.b.a/\aa zB (zO i).fst.ez=aa zB a.b.ez/\iF (zO i).fst.at_=iF a.b.at_/\aa zB (zO i).fst.dv=aa zB a.b.dv/\iE (zO i).fst.spare=iE a.b.spare/\True) (dp (decide ((↑(iE a.b.spare).length:Int)>0)) ((nG a)/\∃(c:Int),zD (iE a.b.spare) (fC a).toNat 0 1=ay [dI c]/\(nM a)/\True/\∃(d:Km),(↑d.i:Int)=(xU a)/\d.eg=aa zB a.b.dv/\[d.el]=[[dI i.dj,dI c]]/\(fU d)/\∀(e:Unit),True->∃(f:Unit),(zO i).snd=c/\(zO i).fst.gg=a.b.gg/\(zO i).fst.gh=a.b.gh/\(zO i).fst.fm=a.b.fm/\(zO i).fst.fp=a.b.fp/\af dt 3 zF (zO i).fst.a=af dt 3 zF a.b.a/\aa zB (zO i).fst.ez=aa zB a.b.ez/\iF (zO i).fst.at_=iF a.b.at_/\aa zB (zO i).fst.dv=ab d.i d.eg++d.el::ac d.i d.eg/\iE (zO i).fst.spare=ab (fC a).toNat (iE a.b.spare)/\True) (∃(c:dt),af dt 3 zF c=af dt 3 zF a.b.a/\c.dx.length<=1000000/\∀(d:Unit),True->True/\∃(e:Km),(↑e.i:Int)=(xU a)/\e.eg=aa zB a.b.dv/\[e.el]=[[dI i.dj,dI (↑c.dx.length:Int)]]/\(fU e)/\∀(f:Unit),True->∃(g:Unit),(zO i).snd=(↑c.dx.length:Int)/\(zO i).fst.gg=a.b.gg/\(zO i).fst.gh=a.b.gh/\(zO i).fst.fm=a.b.fm/\(zO i).fst.fp=a.b.fp/\af dt 3 zF (zO i).fst.a=af dt 3 zF c.ri/\aa zB (zO i).fst.ez=aa zB a.b.ez/\iF (zO i).fst.at_=iF a.b.at_/\aa zB (zO i).fst.dv=ab e.i e.eg++e.el::ac e.i e.eg/\iE (zO i).fst.spare=iE a.b.spare/\True))
def mP:Gc.ok Tryz.prog 187:=gw (V:=z0m) mixed fg 0 (λ_=>[]) (λ_=>[]) [] Tryz.func187 λ(i:DA) _=>by
 unfold z0m;refine Cv.dp.mk (λc=> ?_) (λc=> ?_)
 ·have c:i.side=1:=by simpa using c
  rw[jy,fc c];exact kp
 ·have c:¬i.side=1:=by simpa using c
  rw[jy,ej c];exact kp
def yFr:LA.ok Tryz.prog 255:=gw (V:=yLm) mixed fg 0 (λ_=>[]) (λ_=>[]) [] Tryz.func255 λ(s:Slot) _=>by
 unfold yLm;exact kp
def y8n {l:List Slot} {k:Nat} {s:Slot} (h:l[k]? =ay s):zD (l.map zR) k 0 8=ay [D.v (.bool s.used),.v (.int .i64 s.n),.v (.int .i64 s.id),.v (.int .i64 s.dq),.v (.bool s.top),.v (.int .i64 s.queue),.v (.int .i64 s.ahead),.v (.int .i64 s.back)]:=jq h (by simp[zR]) rfl
def yMu (l:List Slot) (h:Bq.dp l):z3k l:=by
 have h:l.length<=1000000:=h;unfold z3k dI;simp only[ia];refine⟨0,rfl,λj=>j<=l.length/\∀k<j,∀x,l[k]? =ay x->(!x.used)=ax,λj=>l.length-j,⟨oM,λk hk=>by omega⟩,?_⟩;rintro j ⟨h3,h4⟩;refine zH (λhj=> ?_) (λhj=> ?_)
 ·obtain⟨s,hs⟩:=z7 (l:=l) (i:=j) oM;refine⟨⟨oM,oM⟩,s.used,s.n,s.id,s.dq,s.top,s.queue,s.ahead,s.back,y8n hs,s,oA ⟨rfl,trivial,λ_ _=>Cv.dp.mk (λe=> ?_) (λe=> ?_)⟩⟩
  ·rw[kW,WW hs e h4];exact kp
  ·refine⟨j+1,by rw[ir (by omega)];rfl,⟨oM,λk hk x hx=> ?_⟩,by(first|omega|(dsimp only;omega)),gn⟩;rcases uo k j with qx|qx
   ·exact h4 k qx x hx
   ·obtain rfl:k=j:=by omega
    rw[hs]at hx;cases hx;exact e
 ·rw[kW,XK λk x hx=>h4 k (by have:=(jl.1 hx).1;omega) x hx];exact kp
def z5h:Bq.ok Tryz.prog 254:=gw mixed (dw yFr fg) 0 (λ_=>[]) (λl=>yNi l) [] Tryz.func254 yMu
def z1q:LW.ok Tryz.prog 256:=gw (V:=yLp) mixed fg 0 (λ_=>[]) (λ_=>[]) [0] Tryz.func256 λ(a:dt) h=>by
 have h:a.dx.length<=1000000:=h;unfold yLp dI;rw[im,ia,ir (by simp only[iD,tp];omega)];refine⟨oM,(),?_,rfl,rfl,?_,trivial⟩
 ·simp
 ·rw[jk];rfl
def cQ {α:Type} {f:α->α}:∀{l:List α} {i:Nat} {x:α},l[i]? =ay x->l.modify i f=l.set i (f x)
 |[],i,x,h=>by simp at h
 |a::l,0,x,h=>by simp at h;subst h;rfl
 |a::l,i+1,x,h=>by
  simp only[AS]at h;simp only[OE,Oy,cQ h]
def yI {α:Type} {f:α->List D} {l:List α} {i g:Nat} {x y:α} {ds:List D} (hi:l[i]? =ay x) (hh:(f x).take g++(ds++(f x).drop (g+ds.length))=f y):zV (l.map f) i g ds=(l.set i y).map f:=by
 have gr:=(jl.1 hi).1;rw[zV,cQ (by rw[uq,hi];rfl),hh,List.map_set]
def uW {α:Type} {l:List α} {i:Nat} {x y:α} (hi:l[i]? =ay x):(l.set i y)[i]? =ay y:=List.getElem?_set_self (jl.1 hi).1
def zT {α:Type} {l:List α} {i:Nat} {x d:α} (h:l[i]? =ay x):l.getD i d=x:=by rw[np,h];rfl
def y4h (i:MA) (h:JZ.dp i):yTl i:=by
 have h:i.a.du.length<=1000000:=h;unfold yTl S1;simp only[ia];have no (e:i.a.iw i.n=ax):i.a.mc i.n i.t=i.a:=by rw[dt.mc,ej (by rw[e];decide)]
 refine zH (λc=> ?_) (λc=>zH (λd=> ?_) (λd=> ?_))
 ·have e:i.a.iw i.n=ax:=by rw[dt.iw,kr (by omega),Cu]
  rw[no e,e];exact kp
 ·have e:i.a.iw i.n=ax:=by rw[dt.iw,kr (show ¬i.n<(i.a.du.length:Int)by omega),Cu,IJ]
  rw[no e,e];exact kp
 ·obtain⟨s,hs⟩:=z7 (l:=i.a.du) (i:=i.n.toNat) oM;have eu:i.a.iw i.n=s.used:=by rw[dt.iw,lg (show 0<=i.n by omega),lg (show i.n<(i.a.du.length:Int)by omega),zT hs];simp
  refine⟨⟨oM,oM⟩,s.used,jq hs (by simp[zR]) rfl,Cv.dp.mk (λu=> ?_) (λu=> ?_)⟩
  ·have e:i.a.iw i.n=ax:=by rw[eu];simpa using u
   rw[no e,e];exact kp
  ·have e:i.a.iw i.n=aw:=by rw[eu];simpa using u
   have et:i.a.mc i.n i.t={i.a with du:=i.a.du.set i.n.toNat {s with top:=i.t}}:=by
    rw[dt.mc,fc e,cQ hs]
   rw[et,e,yI hs (y:={s with top:=i.t}) rfl];refine⟨⟨oM,oM⟩,oM,(),nr trivial⟩
def yCe:JZ.ok Tryz.prog 253:=gw mixed fg 1 (λ_=>[]) (λ_=>[]) [0] Tryz.func253 y4h
def yMn {l:List Slot} (h:∃s∈l,s.used=ax):∃k:Nat,kW l=k/\k<l.length:=by
 obtain⟨s,hs,hu⟩:=h;cases hf:l.findIdx? λs=> !s.used with
 |none=>
  rw[OI]at hf;have:=hf s hs;rw[hu]at this;cases this
 |some k=>
  rw[MT]at hf;exact⟨k,by rw[kW,show(l.findIdx? λs=> !s.used)=ay k by rw[MT];exact hf];rfl,hf.1⟩
def yZg (i:CO) (h:F1.dp i):yIn i:=by
 obtain⟨h1,h2,h3⟩:i.a.fit:=h;unfold yIn sU tR r9 sM Yr Ye sO yJ dI;simp only[ia];have out (e:i.n<0\/i.a.dx.length<=i.n):i.a.push i.n i.id i.dq i.top=(i.a,0,26):=by rw[dt.push,fc e]
 refine zH (λc=>Cv.dp.mk (λd=> ?_) (λd=> ?_)) (λc=> ?_)
 ·have d:¬i.n<(i.a.dx.length:Int):=by simpa using d
  rw[out (.inr (by omega))];exact kp
 ·have d:i.n<(i.a.dx.length:Int):=by simpa using d
  have hn:¬(i.n<0\/(i.a.dx.length:Int)<=i.n):=by omega
  refine zH (λq1=> ?_) (λq1=>zH (λq2=> ?_) (λq2=>Cv.dp.mk (λfr=> ?_) (λfr=> ?_)))
  ·rw[dt.push,ej hn,fc (.inl q1)];exact kp
  ·rw[dt.push,ej hn,fc (.inr q2)];exact kp
  ·rw[dt.push,ej hn,ej (by omega),fc (by simpa using fr)];exact kp
  ·have fr:i.a.free≠0:=by simpa using fr
   have ep:i.a.push i.n i.id i.dq i.top=(i.a.put i.n i.id i.dq i.top,kW i.a.du,0):=by rw[dt.push,ej hn,ej (by omega),ej fr]
   obtain⟨k,hk,pf⟩:=yMn (h2 fr);obtain⟨q,hq⟩:=z7 (l:=i.a.dx) (i:=i.n.toNat) oM;have hqm:=lr hq;have hl:=h3 q hqm;obtain⟨s,hs⟩:=z7 pf;refine⟨i.a.du,rfl,h1,λ_ _=>⟨⟨oM,oM⟩,q.last,jq hq (by simp[zP]) rfl,⟨oM,oM⟩,by rw[hk];exact pf,q.last,jq hq (by simp[zP]) rfl,?_⟩⟩;rw[ep];have aa0:i.a.put i.n i.id i.dq i.top=⟨if q.last= -1 then i.a.du.set k ⟨aw,k,i.id,i.dq,i.top,i.n,q.last,-1⟩else(i.a.du.set k ⟨aw,k,i.id,i.dq,i.top,i.n,q.last,-1⟩).modify q.last.toNat λs=>{s with back:=k},i.a.dx.set i.n.toNat ⟨if q.last= -1 then k else q.first,k,ae.wrap (q.total+i.dq),ae.wrap (q.count+1)⟩,ae.wrap (i.a.free-1)⟩:=by
    simp only[dt.put,zT hq,hk,ow]
   rw[aa0,hk];simp only[ow];have es:zV (aa zR i.a.du) k 0 [D.v (.bool aw),D.v (.int .i64 k),D.v (.int .i64 i.id),D.v (.int .i64 i.dq),D.v (.bool i.top),D.v (.int .i64 i.n),D.v (.int .i64 q.last),D.v (.int .i64 (-1))]=aa zR (i.a.du.set k ⟨aw,k,i.id,i.dq,i.top,i.n,q.last,-1⟩):=yI hs rfl;rw[es];refine Cv.dp.mk (λe=> ?_) (λe=> ?_)
   ·have e:q.last= -1:=by simpa using e
    have e1:zV (aa zP i.a.dx) i.n.toNat (0+0) [D.v (.int .i64 k)]=aa zP (i.a.dx.set i.n.toNat {q with first:=k}):=yI hq rfl;have g1:=uW (y:={q with first:=(k:Int)}) hq;have e2:zV (aa zP (i.a.dx.set i.n.toNat {q with first:=k})) i.n.toNat (0+1) [D.v (.int .i64 k)]=aa zP (i.a.dx.set i.n.toNat {q with first:=k,last:=k}):=by
     rw[yI g1 (y:={q with first:=(k:Int),last:=(k:Int)}) rfl,DZ]
    have g2:=uW (y:={q with first:=(k:Int),last:=(k:Int)}) hq;have e3:zV (aa zP (i.a.dx.set i.n.toNat {q with first:=k,last:=k})) i.n.toNat (0+2) [D.v (.int .i64 (ae.wrap (q.total+i.dq)))]=aa zP (i.a.dx.set i.n.toNat {q with first:=k,last:=k,total:=ae.wrap (q.total+i.dq)}):=by
     rw[yI g2 (y:={q with first:=(k:Int),last:=(k:Int),total:=ae.wrap (q.total+i.dq)}) rfl,DZ]
    have g3:=uW (y:={q with first:=(k:Int),last:=(k:Int),total:=ae.wrap (q.total+i.dq)}) hq;have e4:zV (aa zP (i.a.dx.set i.n.toNat {q with first:=k,last:=k,total:=ae.wrap (q.total+i.dq)})) i.n.toNat (0+3) [D.v (.int .i64 (ae.wrap (q.count+1)))]=aa zP (i.a.dx.set i.n.toNat ⟨k,k,ae.wrap (q.total+i.dq),ae.wrap (q.count+1)⟩):=by
     rw[yI g3 (y:=⟨k,k,ae.wrap (q.total+i.dq),ae.wrap (q.count+1)⟩) rfl,DZ]
    rw[e1,e2];simp only[fc e];refine⟨oM,by simp only[ia,qp];omega,q.total,jq g2 (by simp[zP]) rfl,by simp only[ia,qp];omega,q.count,?_,by rw[e3];simp only[ia,qp];omega,(),?_⟩
    ·rw[e3];exact jq g3 (by simp[zP]) rfl
    ·rw[e3,e4];exact kp
   ·have e:¬q.last= -1:=by simpa using e
    have hl:0<=q.last/\q.last<i.a.du.length:=hl.resolve_left e;have e2:zV (aa zP i.a.dx) i.n.toNat (0+1) [D.v (.int .i64 k)]=aa zP (i.a.dx.set i.n.toNat {q with last:=k}):=yI hq rfl;have g2:=uW (y:={q with last:=(k:Int)}) hq;have e3:zV (aa zP (i.a.dx.set i.n.toNat {q with last:=k})) i.n.toNat (0+2) [D.v (.int .i64 (ae.wrap (q.total+i.dq)))]=aa zP (i.a.dx.set i.n.toNat {q with last:=k,total:=ae.wrap (q.total+i.dq)}):=by
     rw[yI g2 (y:={q with last:=(k:Int),total:=ae.wrap (q.total+i.dq)}) rfl,DZ]
    have g3:=uW (y:={q with last:=(k:Int),total:=ae.wrap (q.total+i.dq)}) hq;have e4:zV (aa zP (i.a.dx.set i.n.toNat {q with last:=k,total:=ae.wrap (q.total+i.dq)})) i.n.toNat (0+3) [D.v (.int .i64 (ae.wrap (q.count+1)))]=aa zP (i.a.dx.set i.n.toNat ⟨q.first,k,ae.wrap (q.total+i.dq),ae.wrap (q.count+1)⟩):=by
     rw[yI g3 (y:=⟨q.first,k,ae.wrap (q.total+i.dq),ae.wrap (q.count+1)⟩) rfl,DZ]
    obtain⟨s2,ye⟩:=z7 (l:=i.a.du.set k ⟨aw,k,i.id,i.dq,i.top,i.n,q.last,-1⟩) (i:=q.last.toNat) (by rw[qp];omega);have e5:zV (aa zR (i.a.du.set k ⟨aw,k,i.id,i.dq,i.top,i.n,q.last,-1⟩)) q.last.toNat (0+7) [D.v (.int .i64 k)]=aa zR ((i.a.du.set k ⟨aw,k,i.id,i.dq,i.top,i.n,q.last,-1⟩).modify q.last.toNat λs=>{s with back:=k}):=by
     rw[yI ye (y:={s2 with back:=(k:Int)}) rfl,cQ ye]
    rw[e2];simp only[ej e];refine⟨q.last,jq hq (by simp[zP]) rfl,⟨oM,by simp only[ia,qp];omega⟩,by simp only[ia,qp];omega,oM,q.total,jq g2 (by simp[zP]) rfl,by simp only[ia,qp];omega,q.count,?_,by rw[e3];simp only[ia,qp];omega,(),?_⟩
    ·rw[e3];exact jq g3 (by simp[zP]) rfl
    ·rw[e3,e4,e5];exact kp
 ·rw[out (.inl (by omega))];exact kp
def z1o:F1.ok Tryz.prog 242:=gw mixed (dw z5h fg) 1 (λ_=>[]) (λ_=>[]) [0] Tryz.func242 yZg
def pQ {s dj:Int}:∀{l:List xL} {j:Nat},j<=l.length->(∀k<j,∀r,l[k]? =ay r->jy s r.dj dj=aw)->(∀r,l[j]? =ay r->jy s r.dj dj=ax)->zZ s l dj=j
 |[],j,hj,_,_=>by
  obtain rfl:j=0:=by simpa using hj
  rfl
 |r::l,0,_,_,he=>by
  have:=he r rfl;rw[zZ,List.takeWhile_cons,this];rfl
 |r::l,j+1,hj,h,he=>by
  have h0:=h 0 oM r rfl;have ih:=pQ (l:=l) (j:=j) (by simpa using hj) (λk hk x hx=>h (k+1) oM x (by simpa using hx)) (λx hx=>he x (by simpa using hx));rw[zZ]at ih ⊢;rw[List.takeWhile_cons,h0,fc rfl,iD,ih]
def Sw (s dj:Int) (l:List xL):zZ s l dj<=l.length:=(List.takeWhile_sublist _).length_le
def eD (b:dm):b.dy 1=b.ez:=rfl
def sS (b:dm):b.dy 2=b.dv:=rfl
def yWb (i:oG) (h:FK.dp i):yJb i:=by
 obtain⟨_,h1,h2,_⟩:i.b.small:=h;unfold yJb tN sP YE Yv cM uI xW dI;simp only[ia,eD];refine⟨0,rfl,λj=>j<=i.b.ez.length/\∀k<j,∀r,i.b.ez[k]? =ay r->jy 1 r.dj i.dj=aw,λj=>i.b.ez.length-j,⟨oM,λk hk=>by omega⟩,?_⟩;rintro j ⟨h3,h4⟩;refine zH (λhj=> ?_) (λhj=> ?_)
 ·obtain⟨r,hr⟩:=z7 (l:=i.b.ez) (i:=j) oM;refine⟨⟨oM,oM⟩,r.dj,jq hr (by simp[zB]) rfl,⟨1,r.dj,i.dj⟩,rfl,rfl,rfl,trivial,λ_ _=> ?_⟩;dsimp only;refine Cv.dp.mk (λe=>⟨j+1,by rw[ir (by omega)];rfl,⟨oM,λk hk x hx=> ?_⟩,by(first|omega|(dsimp only;omega)),gn⟩) (λe=>zH (λ_=> ?_) (λc=>absurd hj c))
  ·rcases uo k j with qx|qx
   ·exact h4 k qx x hx
   ·obtain rfl:k=j:=by omega
    rw[hr]at hx;cases hx;exact e
  ·have en:zZ 1 i.b.ez i.dj=j:=pQ h3 h4 λx hx=>by rw[hr]at hx;cases hx;exact e
   have eb:kP 1 i.b.ez i.dj=(r.dj==i.dj):=by rw[kP,en,hr];exact(z2p _ _).symm
   refine⟨⟨oM,oM⟩,r.dj,jq hr (by simp[zB]) rfl,(),by rw[en],eb,?_⟩
   (repeat'(first|exact trivial|exact rfl|apply ap))
 ·have en:zZ 1 i.b.ez i.dj=j:=pQ h3 h4 λx hx=>by have:=(jl.1 hx).1;omega
  have eb:kP 1 i.b.ez i.dj=ax:=by rw[kP,en,tx (by omega)]
  refine zH (λc=>absurd c hj) (λ_=>⟨(),by rw[en],eb,?_⟩)
  (repeat'(first|exact trivial|exact rfl|apply ap))
def V8:FK.ok Tryz.prog 245:=gw mixed (dw mP fg) 0 (λ_=>[]) (λ_=>yUk) [] Tryz.func245 yWb
def wC (l:List (Int×Place)) (k:Int):∀(p:be×List D),p∈iF l->lj (ba ae k) p.1=aw:=by
 intro p hp;obtain⟨x,_,rfl⟩:=pk.1 hp;rfl
def Mf (k:Int):∀l:List (Int×Place),kO (ba ae k) (iF l)=(kf l k).map Y3
 |[]=>rfl
 |(a,v)::l=>by
  have ih:=Mf k l;show(bif (vy .i64 .i64 && decide (k=a))then _ else kO _ (iF l))=_;by_cases h:k=a
  ·subst h;simp[kf,vy]
  ·have h':¬a=k:=λe=>h e.symm
   rw[show(vy .i64 .i64 && decide (k=a))=ax by simp[h],cond_false,ih];simp[kf,MJ,h']
def Mc:Place:=⟨0,0,0⟩
def L8 (l:List (Int×Place)) (k:Int):kO (ba ae k) (iF l)=ay [D.v (.int .i64 ((kf l k).getD Mc).side),D.v (.int .i64 ((kf l k).getD Mc).dj),D.v (.int .i64 ((kf l k).getD Mc).slot)]/\(kf l k).isSome=aw\/kO (ba ae k) (iF l)=az/\[D.v (.int .i64 ((kf l k).getD Mc).side),D.v (.int .i64 ((kf l k).getD Mc).dj),D.v (.int .i64 ((kf l k).getD Mc).slot)]=[D.v (.int .i64 0),D.v (.int .i64 0),D.v (.int .i64 0)]/\(kf l k).isSome=ax:=by
 rw[Mf];cases kf l k with
 |none=>exact .inr ⟨rfl,rfl,rfl⟩
 |some v=>exact .inl ⟨rfl,rfl⟩
def Vl (k:Int) (v:Place):∀l,u6 (ba ae k) (Y3 v) (iF l)=iF (tH k v l)
 |[]=>rfl
 |(a,b)::l=>by
  have ih:=Vl k v l;show(bif (vy .i64 .i64 && decide (k=a))then _ else _::u6 _ _ (iF l))=_;rw[ih,tH];by_cases h:k=a
  ·subst h;simp[vy,iF]
  ·simp[h,iF]
def yZd (i:B5) (h:FG.dp i):yGc i:=by
 obtain⟨⟨ha,_⟩,h1,h2,_⟩:i.b.small:=h;unfold yGc Yi X2 eH cB dI;have no (e:i.b.iP 1=i.b.a):af dt 3 zF (i.b.iP 1)=zQ i.b 1:=by rw[e];rfl
 refine Cv.dp.mk (λc=> ?_) (λc=>⟨(),?_⟩)
 ·have c:i.b.mh 1=aw:=c;refine⟨wC _ _,(kf i.b.at_ i.b.gg).isSome,_,_,_,L8 _ _,⟨wC _ _,(kf i.b.at_ i.b.gg).isSome,_,_,_,L8 _ _,(iM trivial),rfl,trivial⟩,rfl,trivial,Cv.dp.mk (λd=>Cv.dp.mk (λe=> ?_) (λe=>⟨(),?_⟩)) (λd=>⟨(),?_⟩)⟩
  ·obtain⟨o,ho⟩:=T9.1 d;have e:o.side=1:=by rw[ho]at e;simpa using e
   have eu:i.b.iP 1=i.b.a.mc o.slot ax:=by
    have ht:kf i.b.at_ (i.b.iU 1)=ay o:=ho;rw[dm.iP,fc c,ht];dsimp only;rw[fc e]
   refine⟨⟨i.b.a,o.slot,ax⟩,by rw[ho];rfl,rfl,rfl,ha,λ_ _=>⟨(),?_⟩⟩;rw[eu];(repeat'(first|exact trivial|exact rfl|apply ap))
  ·obtain⟨o,ho⟩:=T9.1 d;have e:¬o.side=1:=by rw[ho]at e;simpa using e
   have ht:kf i.b.at_ (i.b.iU 1)=ay o:=ho;rw[no (by rw[dm.iP,fc c,ht];dsimp only;rw[ej e])];(repeat'(first|exact trivial|exact rfl|apply ap))
  ·have ht:kf i.b.at_ (i.b.iU 1)=az:=by
    show kf i.b.at_ i.b.gg=az;simpa using d
   rw[no (by rw[dm.iP,fc c,ht])];(repeat'(first|exact trivial|exact rfl|apply ap))
 ·have c:¬i.b.mh 1=aw:=by rw[show i.b.mh 1=i.b.fm from rfl,c];decide
  rw[no (by rw[dm.iP,ej c])];(repeat'(first|exact trivial|exact rfl|apply ap))
def yKo:FG.ok Tryz.prog 241:=gw mixed (dw yCe fg) 0 (λ_=>[]) (λ_=>[]) [] Tryz.func241 yZd
def zZs {s dj:Int} {l:List xL} (h:kP s l dj=aw):∃r,l[zZ s l dj]? =ay r:=by
 rw[kP]at h;split at h
 ·rename_i r hr;exact⟨r,hr⟩
 ·cases h
def ySh (i:oG) (h:C6.dp i):yBv i:=by
 obtain⟨⟨ha,_⟩,ha',h1,h2,h3⟩:i.b.fit:=h;have hle:=Sw 1 i.dj i.b.ez;unfold yBv zN fC fU nG nM uA fN uI qF xW dI;refine⟨i,oA (iM ⟨rfl,⟨⟨ha,oM⟩,oM,oM,oM⟩,λ_ _=> ?_⟩)⟩;simp only[ia,y4,eD];refine Cv.dp.mk (λc=> ?_) (λc=> ?_)
 ·obtain⟨r,hr⟩:=zZs c;have gr:=(jl.1 hr).1;have e:i.b.fu 1 i.dj=(i.b,r.queue):=by rw[dm.fu,fc (by rw[eD];exact c),eD,zT hr]
  rw[e];refine⟨⟨oM,oM⟩,r.queue,jq (by simpa using hr) (by simp[zB]) rfl,(),?_⟩
  (repeat'(first|exact trivial|exact rfl|apply ap))
 ·have e:i.b.fu 1 i.dj=({i.b with a:=i.b.iN.2.2,ez:=i.b.ins 1 i.dj,spare:=i.b.iN.2.1},i.b.iN.1):=by
   rw[dm.fu,ej (by rw[eD,c];decide),fc rfl]
  have A7:aa zB (i.b.ins 1 i.dj)=ab (zZ 1 i.b.ez i.dj) (aa zB i.b.ez)++zB ⟨i.dj,i.b.iN.1⟩::ac (zZ 1 i.b.ez i.dj) (aa zB i.b.ez):=by
   rw[dm.ins,eD,jk,jo,Ez,Hb]
  rw[e];refine zH (λd=> ?_) (λd=> ?_)
  ·have w:ae.wrap ((i.b.spare.length:Int)-1)=((i.b.spare.length-1:Nat):Int):=by rw[ir (by omega)];omega
   rw[w];simp only[ow];obtain⟨q,hq⟩:=z7 (l:=i.b.spare) (i:=i.b.spare.length-1) oM;have eq:i.b.iN=(q,i.b.spare.take (i.b.spare.length-1),i.b.a):=by rw[dm.iN,ej (by omega),zT hq]
   rw[eq]at A7 ⊢;refine⟨⟨oM,oM⟩,q,qz hq,⟨oM,oM⟩,trivial,⟨i.b.ez.map zB,zB ⟨i.dj,q⟩,zZ 1 i.b.ez i.dj⟩,rfl,rfl,rfl,⟨by rw[ia];exact hle,by rw[ia];omega⟩,λ_ _=>⟨(),?_⟩⟩;have hs:iE (i.b.spare.take (i.b.spare.length-1))=(iE i.b.spare).take (i.b.spare.length-1):=by simp only[iE,Ez]
   exact kp
  ·have eq:i.b.iN=((i.b.a.dx.length:Int),i.b.spare,i.b.a.ri):=by rw[dm.iN,fc (by omega)]
   rw[eq]at A7 ⊢;refine⟨i.b.a,rfl,oM,λ_ _=>⟨trivial,⟨i.b.ez.map zB,zB ⟨i.dj,i.b.a.dx.length⟩,zZ 1 i.b.ez i.dj⟩,rfl,rfl,rfl,⟨by rw[ia];exact hle,by rw[ia];omega⟩,λ_ _=>⟨(),?_⟩⟩⟩
   exact kp
def Xl:vT Tryz.prog 268=ay (276,2,16,#[.int .i64 0,.int .i64 0]):=by kernel_rfl
def z9c:QU.ok Tryz.prog 257:=
 Db (tS:=268) (tI:=3) (fO:=262) (fR:=263) (z:= #[.int .i64 0,.int .i64 0]) mixed Tryz.func257 rfl (by kernel_rfl) (by kernel_rfl) (by kernel_rfl) (by kernel_rfl) Xl rfl Z8 Z8 (by kernel_rfl) Tryz.underlying3
  (z8h (tS:=268) (tB:=4) Tryz.func262 (by kernel_rfl) (by kernel_rfl) (by kernel_rfl) (by kernel_rfl) Xl) (λs sn sk i v vn vk w R=>by kernel_rfl)
def yCg:C6.ok Tryz.prog 243:=gw mixed (dw V8 (dw z1q (dw z9c fg))) 0 (λ_=>[]) (λ_=>[]) [] Tryz.func243 ySh
def yZb (i:oG) (h:FJ.dp i):yJt i:=by
 obtain⟨_,h1,h2,_⟩:i.b.small:=h;unfold yJt sG X7 Yz uL xU cM sP dI;simp only[ia,sS];refine⟨0,rfl,λj=>j<=i.b.dv.length/\∀k<j,∀r,i.b.dv[k]? =ay r->jy 2 r.dj i.dj=aw,λj=>i.b.dv.length-j,⟨oM,λk hk=>by omega⟩,?_⟩;rintro j ⟨h3,h4⟩;refine zH (λhj=> ?_) (λhj=> ?_)
 ·obtain⟨r,hr⟩:=z7 (l:=i.b.dv) (i:=j) oM;refine⟨⟨oM,oM⟩,r.dj,jq hr (by simp[zB]) rfl,⟨2,r.dj,i.dj⟩,rfl,rfl,rfl,trivial,λ_ _=> ?_⟩;dsimp only;refine Cv.dp.mk (λe=>⟨j+1,by rw[ir (by omega)];rfl,⟨oM,λk hk x hx=> ?_⟩,by(first|omega|(dsimp only;omega)),gn⟩) (λe=>zH (λ_=> ?_) (λc=>absurd hj c))
  ·rcases uo k j with qx|qx
   ·exact h4 k qx x hx
   ·obtain rfl:k=j:=by omega
    rw[hr]at hx;cases hx;exact e
  ·have en:zZ 2 i.b.dv i.dj=j:=pQ h3 h4 λx hx=>by rw[hr]at hx;cases hx;exact e
   have eb:kP 2 i.b.dv i.dj=(r.dj==i.dj):=by rw[kP,en,hr];exact(z2p _ _).symm
   refine⟨⟨oM,oM⟩,r.dj,jq hr (by simp[zB]) rfl,(),by rw[en],eb,?_⟩
   (repeat'(first|exact trivial|exact rfl|apply ap))
 ·have en:zZ 2 i.b.dv i.dj=j:=pQ h3 h4 λx hx=>by have:=(jl.1 hx).1;omega
  have eb:kP 2 i.b.dv i.dj=ax:=by rw[kP,en,tx (by omega)]
  refine zH (λc=>absurd c hj) (λ_=>⟨(),by rw[en],eb,?_⟩)
  (repeat'(first|exact trivial|exact rfl|apply ap))
def VK:FJ.ok Tryz.prog 245:=gw mixed (dw mP fg) 0 (λ_=>[]) (λ_=>yUk) [] Tryz.func245 yZb
def yYl (i:B5) (h:FF.dp i):yLb i:=by
 obtain⟨⟨ha,_⟩,h1,h2,_⟩:i.b.small:=h;unfold yLb Yw Yu sA cB dI;have no (e:i.b.iP 2=i.b.a):af dt 3 zF (i.b.iP 2)=zQ i.b 1:=by rw[e];rfl
 refine Cv.dp.mk (λc=> ?_) (λc=>⟨(),?_⟩)
 ·have c:i.b.mh 2=aw:=c;refine⟨wC _ _,(kf i.b.at_ i.b.gh).isSome,_,_,_,L8 _ _,⟨wC _ _,(kf i.b.at_ i.b.gh).isSome,_,_,_,L8 _ _,(iM trivial),rfl,trivial⟩,rfl,trivial,Cv.dp.mk (λd=>Cv.dp.mk (λe=> ?_) (λe=>⟨(),?_⟩)) (λd=>⟨(),?_⟩)⟩
  ·obtain⟨o,ho⟩:=T9.1 d;have e:o.side=2:=by rw[ho]at e;simpa using e
   have eu:i.b.iP 2=i.b.a.mc o.slot ax:=by
    have ht:kf i.b.at_ (i.b.iU 2)=ay o:=ho;rw[dm.iP,fc c,ht];dsimp only;rw[fc e]
   refine⟨⟨i.b.a,o.slot,ax⟩,by rw[ho];rfl,rfl,rfl,ha,λ_ _=>⟨(),?_⟩⟩;rw[eu];(repeat'(first|exact trivial|exact rfl|apply ap))
  ·obtain⟨o,ho⟩:=T9.1 d;have e:¬o.side=2:=by rw[ho]at e;simpa using e
   have ht:kf i.b.at_ (i.b.iU 2)=ay o:=ho;rw[no (by rw[dm.iP,fc c,ht];dsimp only;rw[ej e])];(repeat'(first|exact trivial|exact rfl|apply ap))
  ·have ht:kf i.b.at_ (i.b.iU 2)=az:=by
    show kf i.b.at_ i.b.gh=az;simpa using d
   rw[no (by rw[dm.iP,fc c,ht])];(repeat'(first|exact trivial|exact rfl|apply ap))
 ·have c:¬i.b.mh 2=aw:=by rw[show i.b.mh 2=i.b.fp from rfl,c];decide
  rw[no (by rw[dm.iP,ej c])];(repeat'(first|exact trivial|exact rfl|apply ap))
def yGq:FF.ok Tryz.prog 241:=gw mixed (dw yCe fg) 0 (λ_=>[]) (λ_=>[]) [] Tryz.func241 yYl
def yPn (i:oG) (h:C5.dp i):z8c i:=by
 obtain⟨⟨ha,_⟩,ha',h1,h2,h3⟩:i.b.fit:=h;have hle:=Sw 2 i.dj i.b.dv;unfold z8c zO g9 uL fC fU nG nM uA qF xU dI;refine⟨i,oA (iM ⟨rfl,⟨⟨ha,oM⟩,oM,oM,oM⟩,λ_ _=> ?_⟩)⟩;simp only[ia,y4,sS];refine Cv.dp.mk (λc=> ?_) (λc=> ?_)
 ·obtain⟨r,hr⟩:=zZs c;have gr:=(jl.1 hr).1;have e:i.b.fu 2 i.dj=(i.b,r.queue):=by rw[dm.fu,fc (by rw[sS];exact c),sS,zT hr]
  rw[e];refine⟨⟨oM,oM⟩,r.queue,jq (by simpa using hr) (by simp[zB]) rfl,(),?_⟩
  (repeat'(first|exact trivial|exact rfl|apply ap))
 ·have e:i.b.fu 2 i.dj=({i.b with a:=i.b.iN.2.2,dv:=i.b.ins 2 i.dj,spare:=i.b.iN.2.1},i.b.iN.1):=by
   rw[dm.fu,ej (by rw[sS,c];decide),ej (by decide)]
  have A7:aa zB (i.b.ins 2 i.dj)=ab (zZ 2 i.b.dv i.dj) (aa zB i.b.dv)++zB ⟨i.dj,i.b.iN.1⟩::ac (zZ 2 i.b.dv i.dj) (aa zB i.b.dv):=by
   rw[dm.ins,sS,jk,jo,Ez,Hb]
  rw[e];refine zH (λd=> ?_) (λd=> ?_)
  ·have w:ae.wrap ((i.b.spare.length:Int)-1)=((i.b.spare.length-1:Nat):Int):=by rw[ir (by omega)];omega
   rw[w];simp only[ow];obtain⟨q,hq⟩:=z7 (l:=i.b.spare) (i:=i.b.spare.length-1) oM;have eq:i.b.iN=(q,i.b.spare.take (i.b.spare.length-1),i.b.a):=by rw[dm.iN,ej (by omega),zT hq]
   rw[eq]at A7 ⊢;refine⟨⟨oM,oM⟩,q,qz hq,⟨oM,oM⟩,trivial,⟨i.b.dv.map zB,zB ⟨i.dj,q⟩,zZ 2 i.b.dv i.dj⟩,rfl,rfl,rfl,⟨by rw[ia];exact hle,by rw[ia];omega⟩,λ_ _=>⟨(),?_⟩⟩;have hs:iE (i.b.spare.take (i.b.spare.length-1))=(iE i.b.spare).take (i.b.spare.length-1):=by simp only[iE,Ez]
   exact kp
  ·have eq:i.b.iN=((i.b.a.dx.length:Int),i.b.spare,i.b.a.ri):=by rw[dm.iN,fc (by omega)]
   rw[eq]at A7 ⊢;refine⟨i.b.a,rfl,oM,λ_ _=>⟨trivial,⟨i.b.dv.map zB,zB ⟨i.dj,i.b.a.dx.length⟩,zZ 2 i.b.dv i.dj⟩,rfl,rfl,rfl,⟨by rw[ia];exact hle,by rw[ia];omega⟩,λ_ _=>⟨(),?_⟩⟩⟩
   exact kp
def yCj:C5.ok Tryz.prog 243:=gw mixed (dw VK (dw z1q (dw z9c fg))) 0 (λ_=>[]) (λ_=>[]) [] Tryz.func243 yPn
structure AO where
 b:dm
 id:Int
 dj:Int
 dq:Int
def dm.leads (b:dm) (s dj:Int):Bool:=match b.dy s with
 |[]=>aw
 |r::_=>jy s dj r.dj
def dm.qf (b:dm) (id s dj:Int):dm:=if b.leads s dj=aw then b.jc id s else b
def dm.o6 (b:dm) (s id dj dq:Int):dm:=
 let b2:=(b.qf id s dj).fu s dj
 let x:=b2.1.a.push b2.2 id dq (b.leads s dj)
 {b2.1 with a:=x.1,at_:=tH id ⟨s,dj,x.2.1⟩ b2.1.at_}
def dm.gx (b:dm) (s id dj dq:Int):dm×Int:=
 if dq<1\/1000000<dq then(b,24)else if(kf b.at_ id).isSome=aw then(b,25)else if 250<=b.at_.length then(b,13)else(b.o6 s id dj dq,0)
def yLv (s:Int):fy:=fj AO (λi=>[.nm 0 0,zA i.id,zA s,zA i.dj,zA i.dq]) (λi=>[yA i.b]) (λi=>i.b.fit) (λi=>zA (i.b.gx s i.id i.dj i.dq).2) (λi=>[yA (i.b.gx s i.id i.dj i.dq).1])
def yTo:List (Nat×gj):=[(44,bj 14)]
def FY:fy:=yLv 1
def FX:fy:=yLv 2
structure BaJ where
 i:AO
 s:Bool
def Ru:fy:=fj BaJ (λj=>[.nm 0 0,zA j.i.id,zA (zC j.s),zA j.i.dj,zA j.i.dq]) (λj=>[yA j.i.b]) (λj=>j.i.b.fit) (λj=>zA (j.i.b.gx (zC j.s) j.i.id j.i.dj j.i.dq).2) (λj=>[yA (j.i.b.gx (zC j.s) j.i.id j.i.dj j.i.dq).1])
structure HC where
 s:gl
 inst:Int
 id:Int
 sd:Bool
 dj:Int
 dq:Int
def gl.At (s:gl) (n:Int):dm:=s.dz.getD n.toNat lz
def gl.gx (i:HC):gl×Int:=
 if i.inst<0\/i.s.dz.length<=i.inst then(i.s,20)else if(BQ i.s.wh i.id).isSome=aw then(i.s,25)else if 250<=i.s.wh.length then(i.s,13)else if i.s.p.dj i.inst i.dj≠0 then(i.s,i.s.p.dj i.inst i.dj)
 else
  let x:=(i.s.At i.inst).gx (zC i.sd) i.id i.dj i.dq
  ({i.s with dz:=i.s.dz.set i.inst.toNat x.1,wh:=if x.2=0 then IB i.id i.inst i.s.wh else i.s.wh},x.2)
@[reducible] def gl.fit (s:gl):Prop:=s.p.small/\s.dz.length<=1000000/\∀b∈s.dz,b.fit
def Jv:fy:=fj HC (λi=>[.nm 0 0,zA i.inst,zA i.id,zA (zC i.sd),zA i.dj,zA i.dq]) (λi=>[zE i.s]) (λi=>i.s.fit) (λi=>zA (gl.gx i).2) (λi=>[zE (gl.gx i).1])
def tA (a:oG):Prop:=(a.b.a.du.length<=1000000/\(a.b.a.free≠0->∃(b:Slot),b∈a.b.a.du/\b.used=ax)/\∀(b:cV),b∈a.b.a.dx->b.last=(-1)\/0<=b.last/\b.last<(↑a.b.a.du.length:Int))/\a.b.a.dx.length<=100000/\a.b.ez.length<=100000/\a.b.dv.length<=100000/\a.b.spare.length<=100000
def sX (a:CO):Prop:=a.a.du.length<=1000000/\(a.a.free≠0->∃(b:Slot),b∈a.a.du/\b.used=ax)/\∀(b:cV),b∈a.a.dx->b.last=(-1)\/0<=b.last/\b.last<(↑a.a.du.length:Int)
def yN (a:AO):=(a.b.gx 1 a.id a.dj a.dq)
def XL (a:oG) (b:AO) (c:Bool):Prop:=(tA a)/\∀(d:Unit),True->True/\∃(e:CO),e.n=(zN a).snd/\e.id=b.id/\e.dq=b.dq/\e.top=c/\af dt 3 zF e.a=af dt 3 zF (zN a).fst.a/\(sX e)/\∀(f:Unit),True->(∀(g:be×List D),g∈iF (zN a).fst.at_->lj (ba ae b.id) g.fst=aw)/\∃(g:Unit),(yN b).snd=0/\(yN b).fst.gg=(zN a).fst.gg/\(yN b).fst.gh=(zN a).fst.gh/\(yN b).fst.fm=(zN a).fst.fm/\(yN b).fst.fp=(zN a).fst.fp/\af dt 3 zF (yN b).fst.a=af dt 3 zF (yJ e).fst/\aa zB (yN b).fst.ez=aa zB (zN a).fst.ez/\aa zB (yN b).fst.dv=aa zB (zN a).fst.dv/\iF (yN b).fst.at_=u6 (ba ae b.id) [dI 1,dI b.dj,dI ((yJ e).snd.fst)] (iF (zN a).fst.at_)/\iE (yN b).fst.spare=iE (zN a).fst.spare/\True
def S4 (a:Bool->Prop) (b:Bool) (c:Int) (d:Int) (e:Int) (f:AO):Prop:=a b/\di (aj [V.d (dI c),V.d (dI d),V.d (dI e)] 286)/\di (aj [V.nm 1 0,V.own 2,V.own 3,V.mp 4,V.d (dI f.b.gg),V.d (dI f.b.gh),V.own 5,V.d (D.v (.bool f.b.fm)),V.d (D.v (.bool f.b.fp))] (273:bz))/\di (af dt 3 zF f.b.a)/\di (ag 276 2 (aa zB f.b.ez))/\di (ag 276 2 (aa zB f.b.dv))/\di (ao (iF f.b.at_))/\di (ag 3 1 (iE f.b.spare))
def Tf (a:DA) (b:AO) (c:Int) (d:Bool->Prop) (e:Int) (f:Int) (g:Int):Prop:=a.x=b.dj/\a.y=c/\True/\∀(h:Unit),True->∃(j:Bool),j=jy a.side a.x a.y/\S4 d j e f g b
def Tq (a:Bool->Prop) (b:Int) (c:Int) (d:Int) (e:AO):Prop:=∃(f:Bool),f=aw/\S4 a f b c d e
def rT (a:AO):Prop:=(yN a).fst.gg=a.b.gg/\(yN a).fst.gh=a.b.gh/\(yN a).fst.fm=a.b.fm/\(yN a).fst.fp=a.b.fp/\af dt 3 zF (yN a).fst.a=af dt 3 zF a.b.a/\aa zB (yN a).fst.ez=aa zB a.b.ez/\aa zB (yN a).fst.dv=aa zB a.b.dv/\iF (yN a).fst.at_=iF a.b.at_/\iE (yN a).fst.spare=iE a.b.spare/\True
def XG (a:AO):Prop:=∃(b:Unit),(yN a).snd=24/\rT a
def sZ (a:AO) (b:Int) (c:Int) (d:Int) (e:Bool):Prop:=kO (ba ae a.id) (iF a.b.at_)=ay [dI b,dI c,dI d]/\e=aw\/kO (ba ae a.id) (iF a.b.at_)=az/\[dI b,dI c,dI d]=[dI 0,dI 0,dI 0]/\e=ax
def sD (a:B5):Prop:=(a.b.a.du.length<=1000000/\a.b.a.dx.length<=1000000)/\a.b.ez.length<=1000000/\a.b.dv.length<=1000000/\a.b.spare.length<=1000000
def qY (a:Int):=(!(decide (a=1)||decide (a=2)))
def yMt (i:AO):Prop:=
 (∀(a:be×List D),a∈iF i.b.at_->lj (ba ae i.id) a.fst=aw)/\∃(a:Bool),∃(b:Int),∃(c:Int),∃(d:Int),(sZ i b c d a)/\∃(e:Int),e=1/\True/\∀(f:Unit),True->dp (qY e) (∃(g:Unit),(yN i).snd=21/\rT i) (dp (decide (i.dq<1)) (XG i) (dp (decide (i.dq>1000000)) (XG i) (dp a (∃(g:Unit),(yN i).snd=25/\rT i) (dp (decide ((↑(iF i.b.at_).length:Int)>=250)) (∃(g:Unit),(yN i).snd=13/\rT i) (∃(g:Bool),∃(h:Bool->Prop),dp ((↑(aa zB i.b.ez).length:Int)==0) (Tq h b c d i) (((0:Int)<=(0:Int)/\0<(↑(aa zB i.b.ez).length:Int))/\∃(j:Int),zD (aa zB i.b.ez) (Int.toNat 0) 0 1=ay [dI j]/\∃(k:DA),k.side=1/\Tf k i j h b c d)/\∀(j:Bool),h j->dp j (∃(k:B5),k.id=i.id/\di ((1:Int))/\k.b.gg=i.b.gg/\k.b.gh=i.b.gh/\k.b.fm=i.b.fm/\k.b.fp=i.b.fp/\af dt 3 zF k.b.a=af dt 3 zF i.b.a/\aa zB k.b.ez=aa zB i.b.ez/\aa zB k.b.dv=aa zB i.b.dv/\iF k.b.at_=iF i.b.at_/\iE k.b.spare=iE i.b.spare/\(sD k)/\∀(l:Unit),True->∃(m:oG),di ((1:Int))/\m.dj=i.dj/\m.b.gg=k.id/\m.b.gh=k.b.gh/\m.b.fm=aw/\m.b.fp=k.b.fp/\af dt 3 zF m.b.a=af dt 3 zF (k.b.iP 1)/\aa zB m.b.ez=aa zB k.b.ez/\aa zB m.b.dv=aa zB k.b.dv/\iF m.b.at_=iF k.b.at_/\iE m.b.spare=iE k.b.spare/\XL m i j) (∃(k:oG),di ((1:Int))/\k.dj=i.dj/\k.b.gg=i.b.gg/\k.b.gh=i.b.gh/\k.b.fm=i.b.fm/\k.b.fp=i.b.fp/\af dt 3 zF k.b.a=af dt 3 zF i.b.a/\aa zB k.b.ez=aa zB i.b.ez/\aa zB k.b.dv=aa zB i.b.dv/\iF k.b.at_=iF i.b.at_/\iE k.b.spare=iE i.b.spare/\XL k i j))))))
def yP (a:AO):=(a.b.gx 2 a.id a.dj a.dq)
def W0 (a:oG) (b:AO) (c:Bool):Prop:=(tA a)/\∀(d:Unit),True->True/\∃(e:CO),e.n=(zO a).snd/\e.id=b.id/\e.dq=b.dq/\e.top=c/\af dt 3 zF e.a=af dt 3 zF (zO a).fst.a/\(sX e)/\∀(f:Unit),True->(∀(g:be×List D),g∈iF (zO a).fst.at_->lj (ba ae b.id) g.fst=aw)/\∃(g:Unit),(yP b).snd=0/\(yP b).fst.gg=(zO a).fst.gg/\(yP b).fst.gh=(zO a).fst.gh/\(yP b).fst.fm=(zO a).fst.fm/\(yP b).fst.fp=(zO a).fst.fp/\af dt 3 zF (yP b).fst.a=af dt 3 zF (yJ e).fst/\aa zB (yP b).fst.ez=aa zB (zO a).fst.ez/\aa zB (yP b).fst.dv=aa zB (zO a).fst.dv/\iF (yP b).fst.at_=u6 (ba ae b.id) [dI 2,dI b.dj,dI ((yJ e).snd.fst)] (iF (zO a).fst.at_)/\iE (yP b).fst.spare=iE (zO a).fst.spare/\True
def rG (a:AO):Prop:=(yP a).fst.gg=a.b.gg/\(yP a).fst.gh=a.b.gh/\(yP a).fst.fm=a.b.fm/\(yP a).fst.fp=a.b.fp/\af dt 3 zF (yP a).fst.a=af dt 3 zF a.b.a/\aa zB (yP a).fst.ez=aa zB a.b.ez/\aa zB (yP a).fst.dv=aa zB a.b.dv/\iF (yP a).fst.at_=iF a.b.at_/\iE (yP a).fst.spare=iE a.b.spare/\True
def XS (a:AO):Prop:=∃(b:Unit),(yP a).snd=24/\rG a
def yHu (i:AO):Prop:=
 (∀(a:be×List D),a∈iF i.b.at_->lj (ba ae i.id) a.fst=aw)/\∃(a:Bool),∃(b:Int),∃(c:Int),∃(d:Int),(sZ i b c d a)/\∃(e:Int),e=2/\True/\∀(f:Unit),True->dp (qY e) (∃(g:Unit),(yP i).snd=21/\rG i) (dp (decide (i.dq<1)) (XS i) (dp (decide (i.dq>1000000)) (XS i) (dp a (∃(g:Unit),(yP i).snd=25/\rG i) (dp (decide ((↑(iF i.b.at_).length:Int)>=250)) (∃(g:Unit),(yP i).snd=13/\rG i) (∃(g:Bool),∃(h:Bool->Prop),dp ((↑(aa zB i.b.dv).length:Int)==0) (Tq h b c d i) (((0:Int)<=(0:Int)/\0<(↑(aa zB i.b.dv).length:Int))/\∃(j:Int),zD (aa zB i.b.dv) (Int.toNat 0) 0 1=ay [dI j]/\∃(k:DA),k.side=2/\Tf k i j h b c d)/\∀(j:Bool),h j->dp j (∃(k:B5),k.id=i.id/\di ((2:Int))/\k.b.gg=i.b.gg/\k.b.gh=i.b.gh/\k.b.fm=i.b.fm/\k.b.fp=i.b.fp/\af dt 3 zF k.b.a=af dt 3 zF i.b.a/\aa zB k.b.ez=aa zB i.b.ez/\aa zB k.b.dv=aa zB i.b.dv/\iF k.b.at_=iF i.b.at_/\iE k.b.spare=iE i.b.spare/\(sD k)/\∀(l:Unit),True->∃(m:oG),di ((2:Int))/\m.dj=i.dj/\m.b.gg=k.b.gg/\m.b.gh=k.id/\m.b.fm=k.b.fm/\m.b.fp=aw/\af dt 3 zF m.b.a=af dt 3 zF (k.b.iP 2)/\aa zB m.b.ez=aa zB k.b.ez/\aa zB m.b.dv=aa zB k.b.dv/\iF m.b.at_=iF k.b.at_/\iE m.b.spare=iE k.b.spare/\W0 m i j) (∃(k:oG),di ((2:Int))/\k.dj=i.dj/\k.b.gg=i.b.gg/\k.b.gh=i.b.gh/\k.b.fm=i.b.fm/\k.b.fp=i.b.fp/\af dt 3 zF k.b.a=af dt 3 zF i.b.a/\aa zB k.b.ez=aa zB i.b.ez/\aa zB k.b.dv=aa zB i.b.dv/\iF k.b.at_=iF i.b.at_/\iE k.b.spare=iE i.b.spare/\W0 k i j))))))
def Xq (a:HC):Prop:=am 1 (iE (gl.gx a).fst.p.dk)=am 1 (iE a.s.p.dk)/\am 1 (iE (gl.gx a).fst.p.settle)=am 1 (iE a.s.p.settle)/\True
def XM (a:HC):Prop:=yR (gl.gx a).fst.wh=yR a.s.wh/\Xq a
def lO (a:HC):Prop:=sb (gl.gx a).fst.p.code=sb a.s.p.code/\(gl.gx a).fst.p.tick=a.s.p.tick/\(gl.gx a).fst.p.low=a.s.p.low/\(gl.gx a).fst.p.high=a.s.p.high/\(gl.gx a).fst.p.wide=a.s.p.wide/\(gl.gx a).fst.p.dr=a.s.p.dr/\(gl.gx a).fst.p.top=a.s.p.top/\(gl.gx a).fst.p.least=a.s.p.least/\(gl.gx a).fst.p.part=a.s.p.part/\ak 211 dm 6 zQ (gl.gx a).fst.dz az=ak 211 dm 6 zQ a.s.dz az/\XM a
def Wb (a:HC):Prop:=∃(b:Unit),(gl.gx a).snd=20/\lO a
def pW (a:BaJ):=(a.i.b.gx (zC a.s) a.i.id a.i.dj a.i.dq)
def yUh (i:HC):Prop:=
 (∀(a:be×List D),a∈yR i.s.wh->lj (ba ae i.id) a.fst=aw)/\∃(a:Bool),∃(b:Int),(kO (ba ae i.id) (yR i.s.wh)=ay [dI b]/\a=aw\/kO (ba ae i.id) (yR i.s.wh)=az/\[dI b]=[dI 0]/\a=ax)/\dp (decide (i.inst>=0)) (dp (!decide (i.inst<(↑i.s.dz.length:Int))) (Wb i) (dp a (∃(c:Unit),(gl.gx i).snd=25/\lO i) (dp (decide ((↑(yR i.s.wh).length:Int)>=250)) (∃(c:Unit),(gl.gx i).snd=13/\lO i) (∃(c:eM),sb c.p.code=sb i.s.p.code/\iE c.p.dk=iE i.s.p.dk/\c.p.tick=i.s.p.tick/\c.p.low=i.s.p.low/\c.p.high=i.s.p.high/\c.p.wide=i.s.p.wide/\c.p.dr=i.s.p.dr/\c.p.top=i.s.p.top/\c.p.least=i.s.p.least/\c.p.part=i.s.p.part/\iE c.p.settle=iE i.s.p.settle/\c.a=i.inst/\c.b=i.dj/\(qC c)/\∀(d:Unit),True->dp (c.p.dj c.a c.b !=0) (∃(e:Unit),(gl.gx i).snd=c.p.dj c.a c.b/\lO i) ((0<=i.inst/\i.inst<(↑i.s.dz.length:Int))/\i.inst.toNat<i.s.dz.length/\∃(e:dm),i.s.dz[i.inst.toNat]?=ay e/\∃(f:BaJ),f.i.id=i.id/\zC f.s=zC i.sd/\f.i.dj=i.dj/\f.i.dq=i.dq/\yA f.i.b=yA e/\((f.i.b.a.du.length<=1000000/\(f.i.b.a.free≠0->∃(g:Slot),g∈f.i.b.a.du/\g.used=ax)/\∀(g:cV),g∈f.i.b.a.dx->g.last=(-1)\/0<=g.last/\g.last<(↑f.i.b.a.du.length:Int))/\f.i.b.a.dx.length<=100000/\f.i.b.ez.length<=100000/\f.i.b.dv.length<=100000/\f.i.b.spare.length<=100000)/\∀(g:Unit),True->∃(h:dm),yA (pW f).fst=yA h/\di i.inst.toNat/\i.inst.toNat<i.s.dz.length/\dp ((pW f).snd==0) ((∀(j:be×List D),j∈yR i.s.wh->lj (ba ae i.id) j.fst=aw)/\∃(j:Unit),(gl.gx i).snd=(pW f).snd/\sb (gl.gx i).fst.p.code=sb i.s.p.code/\(gl.gx i).fst.p.tick=i.s.p.tick/\(gl.gx i).fst.p.low=i.s.p.low/\(gl.gx i).fst.p.high=i.s.p.high/\(gl.gx i).fst.p.wide=i.s.p.wide/\(gl.gx i).fst.p.dr=i.s.p.dr/\(gl.gx i).fst.p.top=i.s.p.top/\(gl.gx i).fst.p.least=i.s.p.least/\(gl.gx i).fst.p.part=i.s.p.part/\ak 211 dm 6 zQ (gl.gx i).fst.dz az=ak 211 dm 6 zQ (i.s.dz.set i.inst.toNat h) az/\yR (gl.gx i).fst.wh=u6 (ba ae i.id) [dI i.inst] (yR i.s.wh)/\Xq i) (∃(j:Unit),(gl.gx i).snd=(pW f).snd/\sb (gl.gx i).fst.p.code=sb i.s.p.code/\(gl.gx i).fst.p.tick=i.s.p.tick/\(gl.gx i).fst.p.low=i.s.p.low/\(gl.gx i).fst.p.high=i.s.p.high/\(gl.gx i).fst.p.wide=i.s.p.wide/\(gl.gx i).fst.p.dr=i.s.p.dr/\(gl.gx i).fst.p.top=i.s.p.top/\(gl.gx i).fst.p.least=i.s.p.least/\(gl.gx i).fst.p.part=i.s.p.part/\ak 211 dm 6 zQ (gl.gx i).fst.dz az=ak 211 dm 6 zQ (i.s.dz.set i.inst.toNat h) az/\XM i)))))) (Wb i)
end Sx
