/- Texts of ours, one behind the other: a walk that the kernel reckons, and contracts of functions. No condition. -/
import Derived.Test.YtikngjpbkcbogaaGreatRows
import Derived.Test.YtikngjpbkcbogaaGreatM3
namespace Sx
set_option linter.unusedVariables false
open Go Cv Go.Proofs
theorem kp {P:Prop} (h:P:=by(repeat'(first|exact rfl|exact trivial|assumption|apply And.intro|refine fun(_:Unit) (_:True)=>?_|refine Exists.intro () ?_|omega|(dsimp only;omega)))):P:=h
theorem mixed:Tryz.prog.follows .mixedOrders=true:=by kernel_rfl
theorem okw {P:Program} {f:FuncId} {fn:Func} {C:Con} {G:List (Nat×Con)} {V:C.ι→Prop} (hm:P.follows .mixedOrders=true) (hG:GOk P G) (d:Nat) (J:C.ι→List (Nat×SAnn)) (an:C.ι→List SAnn) (op:List Nat) (hf:P.funcs[f]? =some fn) (h:∀i,C.cnd i→V i) (hb:fn.body=some (fn.body.getD .skip):=by kernel_rfl) (hbd:kX P f=true:=by kernel_rfl) (hok:okC fn.ntmps (fn.body.getD .skip)=true:=by kernel_rfl) (hsz:∀i,Nat.ble (C.pat i).length fn.ntmps=true:=by intro _;kernel_rfl) (e:∀i,V i=walk P G d (J i) (an i) op fn (fn.body.getD .skip) (C.pat i) (C.pre i) (C.alts i):=by intro _;kernel_rfl):C.ok P f:=cN hm G hG d J an op hf hb hbd hok hsz fun i hc=>Eq.mp (e i) (h i hc)
structure Lv where
 price:Int
 qty:Int
 count:Int
def lvV (l:Lv):V:= .agg [zE l.price,zE l.qty,zE l.count]
open Go Cv Go.Proofs
def sb (l:List UInt8):ByteArray:=⟨l.toArray⟩
@[reducible] def sV (l:List UInt8):V:= .d (.v (.string (sb l)))
def tP (l:List UInt8):Nat×Nat:=Utf8.decode (sb l) 0
def dO:Nat→Nat→List UInt8→List (Nat×Nat)
 |0,_,_=>[]
 |k+1,p,l=>match l with
  |[]=>[]
  |_=>(p,(tP l).1)::dO k (p+(tP l).2) (l.drop (tP l).2)
def wE (s:List UInt8) (p:Nat):List (Nat×Nat):=dO (s.length-p) p (s.drop p)
def jK (s:List UInt8):List Nat:=(wE s 0).map (·.2)
def countC:Con:=con1 (List UInt8) (fun s=>[sV s]) (fun _=>[]) (fun s=>s.length≤1099511627776) (fun s=>zE (jK s).length) (fun _=>[])
def z6a (s:List UInt8):List SAnn:=[{ι:=Nat×Nat,slots:=fun x=>[(3,zE x.2),(5,.nm 0 0)],rows:=fun x=>[.iter (sb s) x.1]}]
def jG (r:Nat):Bool:=(decide (65≤r) && decide (r≤90))||(decide (913≤r) && decide (r≤937) && decide (r≠930))
def qU (s:List UInt8):Bool:=(jK s).all jG && decide (s≠[]) && decide ((jK s).length≤4)
def symC:Con:=con1 (List UInt8) (fun s=>[sV s]) (fun _=>[]) (fun s=>s.length≤1099511627776) (fun s=>yJ (qU s)) (fun _=>[])
def yAg (s:List UInt8):List SAnn:=[{ι:=Nat,slots:=fun x=>[(7,.nm 0 0)],rows:=fun x=>[.iter (sb s) x]}]
def iE (l:List Int):List (List D):=l.map fun n=>[.v (.int .i64 n)]
@[reducible] def iV (l:List Int):V:=roV 1 (iE l)
structure Prd where
 code:List UInt8
 months:List Int
 tick:Int
 low:Int
 high:Int
 wide:Int
 rule:Int
 top:Int
 least:Int
 part:Int
 settle:List Int
 deriving DecidableEq
@[reducible] def Prd.cells (p:Prd):List V:=[sV p.code,iV p.months,zE p.tick,zE p.low,zE p.high,zE p.wide,zE p.rule,zE p.top,zE p.least,zE p.part,iV p.settle]
@[reducible] def prdV (p:Prd):V:= .agg p.cells
@[reducible] def Prd.small (p:Prd):Prop:=p.code.length≤1099511627776∧p.months.length≤1099511627776∧p.settle.length≤1099511627776
def xL (l:List Int) (k:Nat):Bool:=decide (0≤l.getD k 0) && decide (l.getD k 0≤1199) && (decide (k=0)||decide (l.getD (k-1) 0<l.getD k 0))
def yQ (l:List Int):Bool:=(List.range l.length).all (xL l) && decide (2≤l.length) && decide (l.length≤6)
def monthsC:Con:=con1 (List Int) (fun l=>[iV l]) (fun _=>[]) (fun l=>l.length≤1099511627776) (fun l=>yJ (yQ l)) (fun _=>[])
def z0g:List SAnn:=[{ι:=Nat,slots:=fun j=>[(7,zE j)],rows:=fun _=>[]}]
structure yAj where
 l:List Int
def gH (l:List Int):Int:=l.tail.foldl min (l.headD 0)
def g8 (l:List Int):Int:=l.tail.foldl max (l.headD 0)
def minC:Con:=con1 (List Int) (fun l=>[iV l]) (fun _=>[]) (fun l=>0<l.length∧l.length≤1099511627776) (fun l=>zE (gH l)) (fun _=>[])
def maxC:Con:=con1 (List Int) (fun l=>[iV l]) (fun _=>[]) (fun l=>0<l.length∧l.length≤1099511627776) (fun l=>zE (g8 l)) (fun _=>[])
def yAf (l:List Int):List SAnn:=[{ι:=Nat,slots:=fun j=>[(3,zE (gH (l.take j))),(4,zE j)],rows:=fun _=>[]}]
def yAc (l:List Int):List SAnn:=[{ι:=Nat,slots:=fun j=>[(3,zE (g8 (l.take j))),(4,zE j)],rows:=fun _=>[]}]
set_option maxRecDepth 100000
open Go Cv Go.Proofs
def zIu (s:List UInt8):Prop:=
 ∃(i0:Nat×Nat),(↑i0.snd:Int)=0∧sb s=sb s∧i0.fst=0∧∃(I:Nat×Nat→Prop),∃(μ:Nat×Nat→Nat),I i0∧∀(i:Nat×Nat),I i→cnd (i.fst.blt (sb s).size) (∃(i':Nat×Nat),(↑i'.snd:Int)=IntKind.i64.wrap ((↑i.snd:Int)+1)∧sb s=sb s∧i'.fst=i.fst+(Utf8.decode (sb s) i.fst).snd∧I i'∧μ i'<μ i∧True) (∃(o:Unit),(↑(jK s).length:Int)=(↑i.snd:Int)∧True)
theorem z1b (hG:GOk Tryz.prog ([])) (h:∀(s:List UInt8),countC.cnd s→zIu s):countC.ok Tryz.prog 85:=okw mixed hG 0 (fun _=>[]) (fun s=>z6a s) [] Tryz.func85 h
def z3x (s:List UInt8):Prop:=
 ∃(i0:Nat),sb s=sb s∧i0=0∧∃(I:Nat→Prop),∃(μ:Nat→Nat),I i0∧∀(i:Nat),I i→cnd (i.blt (sb s).size) (cnd (decide ((↑(Utf8.decode (sb s) i).fst:Int)≥65)) (cnd (decide ((↑(Utf8.decode (sb s) i).fst:Int)≤90)) (∃(i':Nat),sb s=sb s∧i'=i+(Utf8.decode (sb s) i).snd∧I i'∧μ i'<μ i∧True) (cnd (decide ((↑(Utf8.decode (sb s) i).fst:Int)≥913)) (cnd (decide ((↑(Utf8.decode (sb s) i).fst:Int)≤937)) (cnd (!(↑(Utf8.decode (sb s) i).fst:Int) !=930) (∃(o:Unit),qU s=false∧True) (∃(i':Nat),sb s=sb s∧i'=i+(Utf8.decode (sb s) i).snd∧I i'∧μ i'<μ i∧True)) (∃(o:Unit),qU s=false∧True)) (∃(o:Unit),qU s=false∧True))) (cnd (decide ((↑(Utf8.decode (sb s) i).fst:Int)≥913)) (cnd (decide ((↑(Utf8.decode (sb s) i).fst:Int)≤937)) (cnd (!(↑(Utf8.decode (sb s) i).fst:Int) !=930) (∃(o:Unit),qU s=false∧True) (∃(i':Nat),sb s=sb s∧i'=i+(Utf8.decode (sb s) i).snd∧I i'∧μ i'<μ i∧True)) (∃(o:Unit),qU s=false∧True)) (∃(o:Unit),qU s=false∧True))) (cnd (!(sb s).toList==(ByteArray.mk #[]).toList) (∃(i:List UInt8),sb i=sb s∧i.length≤1099511627776∧∀(o:Unit),True→∃(o:Unit),qU s=decide ((↑(jK i).length:Int)≤4)∧True) (∃(o:Unit),qU s=false∧True))
theorem z8l (hG:GOk Tryz.prog ([(85,countC)])) (h:∀(s:List UInt8),symC.cnd s→z3x s):symC.ok Tryz.prog 50:=okw mixed hG 0 (fun _=>[]) (fun s=>yAg s) [] Tryz.func50 h
def zCk (l:List Int):Prop:=
 ∃(i0:Nat),(↑i0:Int)=0∧∃(I:Nat→Prop),∃(μ:Nat→Nat),I i0∧∀(i:Nat),I i→cnd (decide ((↑i:Int)<(↑(iE l).length:Int))) ((0≤(↑i:Int)∧(↑i:Int)<(↑(iE l).length:Int))∧∃(n:Int),zJ (iE l) (↑i:Int).toNat 0 1=some [D.v (.int .i64 n)]∧cnd (decide (n<0)) (∃(o:Unit),yQ l=false∧True) (cnd (decide (n>1199)) (∃(o:Unit),yQ l=false∧True) (cnd (decide ((↑i:Int)>0)) ((0≤IntKind.i64.wrap ((↑i:Int)-1)∧IntKind.i64.wrap ((↑i:Int)-1)<(↑(iE l).length:Int))∧∃(n_1:Int),zJ (iE l) (IntKind.i64.wrap ((↑i:Int)-1)).toNat 0 1=some [D.v (.int .i64 n_1)]∧cnd (decide (n_1≥n)) (∃(o:Unit),yQ l=false∧True) (∃(i':Nat),(↑i':Int)=IntKind.i64.wrap ((↑i:Int)+1)∧I i'∧μ i'<μ i∧True)) (∃(i':Nat),(↑i':Int)=IntKind.i64.wrap ((↑i:Int)+1)∧I i'∧μ i'<μ i∧True)))) (cnd (decide ((↑(iE l).length:Int)≥2)) (∃(o:Unit),yQ l=decide ((↑(iE l).length:Int)≤6)∧True) (∃(o:Unit),yQ l=false∧True))
theorem zTe (hG:GOk Tryz.prog ([])) (h:∀(l:List Int),monthsC.cnd l→zCk l):monthsC.ok Tryz.prog 51:=okw mixed hG 0 (fun _=>[]) (fun _=>z0g) [] Tryz.func51 h
def z5w (l:List Int):Prop:=
 cnd (decide ((↑(iE l).length:Int)<1)) False (((0:Int)≤(0:Int)∧0<(↑(iE l).length:Int))∧∃(n:Int),zJ (iE l) (Int.toNat 0) 0 1=some [D.v (.int .i64 n)]∧∃(i0:Nat),gH (List.take i0 l)=n∧(↑i0:Int)=1∧∃(I:Nat→Prop),∃(μ:Nat→Nat),I i0∧∀(i:Nat),I i→cnd (decide ((↑i:Int)<(↑(iE l).length:Int))) ((0≤(↑i:Int)∧(↑i:Int)<(↑(iE l).length:Int))∧∃(n:Int),zJ (iE l) (↑i:Int).toNat 0 1=some [D.v (.int .i64 n)]∧∃(i':Nat),gH (List.take i' l)=min (gH (List.take i l)) n∧(↑i':Int)=IntKind.i64.wrap ((↑i:Int)+1)∧I i'∧μ i'<μ i∧True) (∃(o:Unit),gH l=gH (List.take i l)∧True))
theorem z8a (hG:GOk Tryz.prog ([])) (h:∀(l:List Int),minC.cnd l→z5w l):minC.ok Tryz.prog 53:=okw mixed hG 0 (fun _=>[]) (fun l=>yAf l) [] Tryz.func53 h
def z2r (l:List Int):Prop:=
 cnd (decide ((↑(iE l).length:Int)<1)) False (((0:Int)≤(0:Int)∧0<(↑(iE l).length:Int))∧∃(n:Int),zJ (iE l) (Int.toNat 0) 0 1=some [D.v (.int .i64 n)]∧∃(i0:Nat),g8 (List.take i0 l)=n∧(↑i0:Int)=1∧∃(I:Nat→Prop),∃(μ:Nat→Nat),I i0∧∀(i:Nat),I i→cnd (decide ((↑i:Int)<(↑(iE l).length:Int))) ((0≤(↑i:Int)∧(↑i:Int)<(↑(iE l).length:Int))∧∃(n:Int),zJ (iE l) (↑i:Int).toNat 0 1=some [D.v (.int .i64 n)]∧∃(i':Nat),(g8 (List.take i' l)=if n>g8 (List.take i l)then n else g8 (List.take i l))∧(↑i':Int)=IntKind.i64.wrap ((↑i:Int)+1)∧I i'∧μ i'<μ i∧True) (∃(o:Unit),g8 l=g8 (List.take i l)∧True))
theorem z7t (hG:GOk Tryz.prog ([])) (h:∀(l:List Int),maxC.cnd l→z2r l):maxC.ok Tryz.prog 54:=okw mixed hG 0 (fun _=>[]) (fun l=>yAc l) [] Tryz.func54 h
set_option linter.unusedSimpArgs false
open Go Cv Go.Proofs
@[simp] theorem zNe (s:List UInt8):(sb s).size=s.length:=by simp[sb,ByteArray.size]
theorem mH (s:List UInt8):(sb s).toList=s:=by rw[ByteArray.toList_eq];rfl
theorem z3s (s:List UInt8) (p k:Nat):(sb s).get! (p+k)=(sb (s.drop p)).get! (0+k):=by
 simp only[sb,ByteArray.get!,Nat.zero_add]
 simp only[List.getElem!_toArray,List.getElem!_eq_getElem?_getD,List.getElem?_drop]
theorem nF (s:List UInt8) (p:Nat):Utf8.decode (sb s) p=tP (s.drop p):=by
 have h (k:Nat):(decide (p+k<(sb s).size))=decide (0+k<(sb (s.drop p)).size):=by
  simp only[zNe,List.length_drop]
  by_cases h:p+k<s.length
  ·rw[decide_eq_true h,decide_eq_true (by omega)]
  ·rw[decide_eq_false h,decide_eq_false (by omega)]
 unfold tP Utf8.decode
 simp only[z3s s p,h]
theorem u7 (s:List UInt8) {p:Nat} (h:p<s.length):1≤(Utf8.decode (sb s) p).2∧p+(Utf8.decode (sb s) p).2≤s.length:=by
 unfold Utf8.decode
 simp only[zNe,Bool.and_eq_true,decide_eq_true_eq]
 split
 ·exact⟨by simp,by simp;omega⟩
 split
 ·rename_i h1
  split
  ·exact⟨by simp,by simp;omega⟩
  ·exact⟨by simp,by simp;omega⟩
 split
 ·rename_i h1
  split
  ·exact⟨by simp,by simp;omega⟩
  ·exact⟨by simp,by simp;omega⟩
 split
 ·rename_i h1
  split
  ·exact⟨by simp,by simp;omega⟩
  ·exact⟨by simp,by simp;omega⟩
 ·exact⟨by simp,by simp;omega⟩
theorem z5u {l:List UInt8} (h:l≠[]):1≤(tP l).2∧(tP l).2≤l.length:=by
 have:=u7 l (p:=0) (by cases l<;>simp_all)
 rw[tP];omega
theorem gO:∀(k:Nat) (p:Nat) (l:List UInt8),l.length≤k→dO k p l=dO l.length p l
 |0,p,l,h=>by
  have:l=[]:=List.eq_nil_of_length_eq_zero (by omega)
  subst this;rfl
 |k+1,p,[],h=>rfl
 |k+1,p,b::l,h=>by
  have hw:=z5u (l:=b::l) (by simp)
  have hl:((b::l).drop (tP (b::l)).2).length≤l.length:=by rw[List.length_drop,List.length_cons];omega
  rw[List.length_cons]
  simp only[dO]
  rw[gO k _ _ (by rw[List.length_cons]at h;omega),gO l.length _ _ hl]
theorem vR {s:List UInt8} {p:Nat} (h:s.length≤p):wE s p=[]:=by
 rw[wE,show s.length-p=0 by omega];rfl
theorem j1 {s:List UInt8} {p:Nat} (h:p<s.length):wE s p=(p,(Utf8.decode (sb s) p).1)::wE s (p+(Utf8.decode (sb s) p).2):=by
 obtain⟨k,hk⟩:∃k,s.length-p=k+1:=⟨s.length-p-1,by omega⟩
 have hw:=u7 s h
 obtain⟨b,l,hb⟩:∃b l,s.drop p=b::l:=by
  cases hd:s.drop p with
  |nil=>rw[List.drop_eq_nil_iff]at hd;omega
  |cons b l=>exact⟨b,l,rfl⟩
 have hlen:(b::l).length=s.length-p:=by rw[← hb,List.length_drop]
 rw[wE,hk,hb,nF,hb,wE]
 rw[nF,hb]at hw
 simp only[dO]
 have e:(b::l).drop (tP (b::l)).2=s.drop (p+(tP (b::l)).2):=by rw[← hb,List.drop_drop]
 rw[e,gO k _ _ (by rw[List.length_drop];omega),List.length_drop]
theorem p8 (s:List UInt8):∀(k p:Nat),s.length-p≤k→(wE s p).length≤s.length-p
 |0,p,h=>by rw[vR (by omega)];simp
 |k+1,p,h=>by
  by_cases hp:p<s.length
  ·have hw:=u7 s hp
   rw[j1 hp,List.length_cons]
   have:=p8 s k (p+(Utf8.decode (sb s) p).2) (by omega)
   omega
  ·rw[vR (by omega)];simp
theorem zAr (s:List UInt8):(jK s).length≤s.length:=by
 rw[jK,List.length_map]
 have:=p8 s s.length 0 (by omega)
 omega
theorem zVk {a b:Nat} (h:Nat.blt a b=false):b≤a:=by
 rcases Nat.lt_or_ge a b with h1|h1
 ·rw[show Nat.blt a b=true by rw[Nat.blt_eq];exact h1]at h;cases h
 ·exact h1
theorem zTf:(ByteArray.mk #[]).toList=[]:=mH []
theorem z6h (s:List UInt8) (h:countC.cnd s):zIu s:=by
 have h:s.length≤1099511627776:=h
 have hr:=zAr s
 unfold zIu
 refine⟨(0,0),rfl,rfl,rfl,fun x=>x.1≤s.length∧x.2+(wE s x.1).length=(jK s).length,fun x=>s.length-x.1,⟨by omega,by rw[jK,List.length_map];simp⟩,?_⟩
 rintro⟨p,n⟩ ⟨h1,h2⟩
 dsimp only at h1 h2 ⊢
 refine Cv.cnd.mk (fun hp=> ?_) (fun hp=> ?_)
 ·have hp:p<s.length:=by simpa[Nat.blt_eq]using hp
  have hw:=u7 s hp
  rw[j1 hp,List.length_cons]at h2
  refine⟨(p+(Utf8.decode (sb s) p).2,n+1),?_,rfl,rfl,⟨hw.2,by(first|omega|(dsimp only;omega))⟩,by(first|omega|(dsimp only;omega)),trivial⟩
  rw[w64 (by omega)];rfl
 ·have hp:s.length≤p:=by have:=zVk hp;simpa using this
  rw[vR hp]at h2
  exact⟨(),by rw[← h2];rfl,trivial⟩
theorem zRi:countC.ok Tryz.prog 85:=z1b gok0 z6h
theorem yAb (s:List UInt8) (h:symC.cnd s):z3x s:=by
 have h:s.length≤1099511627776:=h
 unfold z3x
 refine⟨0,rfl,rfl,fun p=>p≤s.length∧(jK s).all jG=(wE s p).all fun x=>jG x.2,fun p=>s.length-p,⟨by omega,by rw[jK,List.all_map];rfl⟩,?_⟩
 rintro p ⟨h1,h2⟩
 refine Cv.cnd.mk (fun hp=> ?_) (fun hp=> ?_)
 ·have hp:p<s.length:=by simpa[Nat.blt_eq]using hp
  have hw:=u7 s hp
  rw[j1 hp,List.all_cons]at h2
  generalize hc:(Utf8.decode (sb s) p).1=c at h2 ⊢
  generalize hww:(Utf8.decode (sb s) p).2=w at h2 hw ⊢
  dsimp only at h2
  have bad:jG c=false→∃(o:Unit),qU s=false∧True:=fun e=>⟨(),by rw[qU,h2,e];rfl,trivial⟩
  have good:jG c=true→∃i':Nat,sb s=sb s∧i'=p+w∧(i'≤s.length∧(jK s).all jG=(wE s i').all fun x=>jG x.2)∧s.length-i'<s.length-p∧True:=fun e=>⟨p+w,rfl,rfl,⟨hw.2,by rw[h2,e];rfl⟩,by omega,trivial⟩
  refine zS (fun c1=>zS (fun c2=> ?_) (fun c2=>zS (fun c3=>zS (fun c4=>Cv.cnd.mk (fun c5=> ?_) (fun c5=> ?_)) (fun c4=> ?_)) (fun c3=> ?_))) (fun c1=>zS (fun c3=>zS (fun c4=>Cv.cnd.mk (fun c5=> ?_) (fun c5=> ?_)) (fun c4=> ?_)) (fun c3=> ?_))
  all_goals first|(refine good ?_;simp[jG]at*;omega)|(refine bad ?_;simp[jG]at*;omega)
 ·have hp:s.length≤p:=by have:=zVk hp;simpa using this
  rw[vR hp]at h2
  have h2:(jK s).all jG=true:=h2
  refine Cv.cnd.mk (fun e=>⟨s,rfl,h,fun _ _=>⟨(),?_,trivial⟩⟩) (fun e=>⟨(),?_,trivial⟩)
  ·rw[mH,zTf]at e
   have:s≠[]:=by simpa using e
   rw[qU,h2,decide_eq_true this]
   simp only[Bool.true_and]
   congr 1
   simp only[eq_iff_iff];omega
  ·have:s=[]:=by
    rw[mH,zTf]at e
    simpa using e
   rw[qU,this];rfl
theorem z2j:symC.ok Tryz.prog 50:=z8l (gokc zRi gok0) yAb
@[simp] theorem yT (l:List Int):(iE l).length=l.length:=by simp[iE]
theorem elI {l:List Int} {k:Nat} {n:Int} (h:l[k]? =some n):zJ (iE l) k 0 1=some [D.v (.int .i64 n)]:=by
 simp[zJ,iE,h];rfl
theorem z9 {α:Type} {l:List α} {i:Nat} (h:i<l.length):∃x,l[i]? =some x:=⟨l[i],List.getElem?_eq_getElem h⟩
theorem lA {n k:Nat} {f:Nat→Bool} (hk:k<n) (h:f k=false):(List.range n).all f=false:=by
 cases hh:(List.range n).all f
 ·rfl
 ·rw[List.all_eq_true]at hh
  rw[hh k (by simpa using hk)]at h;cases h
theorem zFk {n:Nat} {f:Nat→Bool} (h:∀k<n,f k=true):(List.range n).all f=true:=by
 rw[List.all_eq_true];intro k hk;exact h k (by simpa using hk)
theorem zYa (l:List Int) (h:monthsC.cnd l):zCk l:=by
 have h:l.length≤1099511627776:=h
 unfold zCk
 simp only[yT]
 refine⟨0,rfl,fun j=>j≤l.length∧∀k<j,xL l k=true,fun j=>l.length-j,⟨by omega,fun k hk=>by omega⟩,?_⟩
 rintro j ⟨h1,h2⟩
 have bad:j<l.length→xL l j=false→∃(o:Unit),yQ l=false∧True:=fun hj e=>⟨(),by rw[yQ,lA hj e];rfl,trivial⟩
 have good:j<l.length→xL l j=true→∃i':Nat,(i':Int)=IntKind.i64.wrap ((j:Int)+1)∧(i'≤l.length∧∀k<i',xL l k=true)∧l.length-i'<l.length-j∧True:=fun hj e=>⟨j+1,by rw[w64 (by omega)];rfl,⟨by omega,fun k hk=>by
  rcases Nat.lt_or_ge k j with hk'|hk'
  ·exact h2 k hk'
  ·obtain rfl:k=j:=by omega
   exact e⟩,by omega,trivial⟩
 refine zS (fun hj=> ?_) (fun hj=> ?_)
 ·have hj:j<l.length:=by omega
  obtain⟨n,hn⟩:=z9 hj
  have hg:l.getD j 0=n:=by simp[hn]
  refine⟨⟨by omega,by omega⟩,n,elI hn,zS (fun c1=>bad hj (by simp[xL,hn];omega)) (fun c1=>zS (fun c2=>bad hj (by simp[xL,hn];omega)) (fun c2=>zS (fun c3=> ?_) (fun c3=>good hj ?_)))⟩
  ·have e:IntKind.i64.wrap ((j:Int)-1)=((j-1:Nat):Int):=by rw[w64 (by omega)];omega
   obtain⟨m,hm⟩:=z9 (l:=l) (i:=j-1) (by omega)
   rw[e]
   refine⟨⟨by omega,by omega⟩,m,elI hm,zS (fun c4=>bad hj ?_) (fun c4=>good hj ?_)⟩
   ·simp[xL,hn,hm];omega
   ·simp[xL,hn,hm];omega
  ·simp[xL,hn];omega
 ·have e:(List.range l.length).all (xL l)=true:=zFk fun k hk=>h2 k (by omega)
  refine zS (fun c=>⟨(),?_,trivial⟩) (fun c=>⟨(),?_,trivial⟩)
  ·rw[yQ,e,decide_eq_true (show 2≤l.length by omega)]
   simp;omega
  ·rw[yQ,decide_eq_false (show ¬2≤l.length by omega)];simp
theorem zOy:monthsC.ok Tryz.prog 51:=zTe gok0 zYa
theorem m3 {f:Int→Int→Int} {l:List Int} {j:Nat} {n:Int} (h:l[j+1]? =some n):(l.take (j+2)).tail.foldl f ((l.take (j+2)).headD 0)=f ((l.take (j+1)).tail.foldl f ((l.take (j+1)).headD 0)) n:=by
 cases l with
 |nil=>simp at h
 |cons a l=>
  simp only[List.getElem?_cons_succ]at h
  simp only[List.take_succ_cons,List.tail_cons,List.headD_cons]
  rw[List.take_add_one,h,List.foldl_append];rfl
theorem zGx {l:List Int} {n:Int} (h:l[0]? =some n) (f:Int→Int→Int):(l.take 1).tail.foldl f ((l.take 1).headD 0)=n:=by
 cases l with
 |nil=>simp at h
 |cons a l=>simpa using h
theorem z9e (l:List Int) (h:minC.cnd l):z5w l:=by
 obtain⟨h0,h⟩:0<l.length∧l.length≤1099511627776:=h
 unfold z5w
 simp only[yT]
 obtain⟨n,hn⟩:=z9 h0
 refine zS (fun c=>by omega) (fun c=>⟨⟨by omega,by omega⟩,n,elI hn,1,zGx hn min,rfl,fun j=>1≤j∧j≤l.length,fun j=>l.length-j,⟨by omega,by omega⟩,?_⟩)
 rintro j ⟨h1,h2⟩
 refine zS (fun hj=> ?_) (fun hj=>⟨(),?_,trivial⟩)
 ·obtain⟨m,hm⟩:=z9 (l:=l) (i:=j) (by omega)
  refine⟨⟨by omega,by omega⟩,m,elI hm,j+1,?_,?_,⟨by omega,by omega⟩,by(first|omega|(dsimp only;omega)),trivial⟩
  ·obtain⟨k,rfl⟩:∃k,j=k+1:=⟨j-1,by omega⟩
   first
    |(rw[gH,m3 hm,← gH];done)
    |(rw[gH,m3 hm,← gH];generalize gH (l.take (k+1))=x;split<;>omega)
  ·rw[w64 (by omega)];rfl
 ·rw[List.take_of_length_le (by omega)]
theorem z3o:minC.ok Tryz.prog 53:=z8a gok0 z9e
theorem z9p (l:List Int) (h:maxC.cnd l):z2r l:=by
 obtain⟨h0,h⟩:0<l.length∧l.length≤1099511627776:=h
 unfold z2r
 simp only[yT]
 obtain⟨n,hn⟩:=z9 h0
 refine zS (fun c=>by omega) (fun c=>⟨⟨by omega,by omega⟩,n,elI hn,1,zGx hn max,rfl,fun j=>1≤j∧j≤l.length,fun j=>l.length-j,⟨by omega,by omega⟩,?_⟩)
 rintro j ⟨h1,h2⟩
 refine zS (fun hj=> ?_) (fun hj=>⟨(),?_,trivial⟩)
 ·obtain⟨m,hm⟩:=z9 (l:=l) (i:=j) (by omega)
  refine⟨⟨by omega,by omega⟩,m,elI hm,j+1,?_,?_,⟨by omega,by omega⟩,by(first|omega|(dsimp only;omega)),trivial⟩
  ·obtain⟨k,rfl⟩:∃k,j=k+1:=⟨j-1,by omega⟩
   rw[g8,m3 hm,← g8]
   generalize g8 (l.take (k+1))=x
   split<;>omega
  ·rw[w64 (by omega)];rfl
 ·rw[List.take_of_length_le (by omega)]
theorem z2v:maxC.ok Tryz.prog 54:=z7t gok0 z9p
open Go Cv Go.Proofs
@[reducible] def Prd.row (p:Prd):AObj:= .cells p.cells 25
structure zEm where
 p:Prd
 n:Int
structure sD where
 p:Prd
 l:List Int
def xJ (t n:Int):Bool:=n.tmod t !=0
def offC:Con:=con1 zEm (fun i=>[zE i.n,.nm 0 0]) (fun i=>[i.p.row]) (fun i=>1≤i.p.tick) (fun i=>yJ (xJ i.p.tick i.n)) (fun i=>[i.p.row])
@[reducible] def z7p:V:= .fn 86 [] [.nm 0 0]
def nO (k:Option Nat):Int:=match k with
 |some k=>k
 |none=> -1
def idxC:Con:=con1 sD (fun i=>[iV i.l,z7p]) (fun i=>[i.p.row]) (fun i=>1≤i.p.tick∧i.l.length≤1099511627776) (fun i=>zE (nO (i.l.findIdx? (xJ i.p.tick)))) (fun i=>[i.p.row])
def z9i (i:sD):List SAnn:=[{ι:=Nat,slots:=fun j=>[(8,zE j)],rows:=fun _=>[]}]
def containsC:Con:=con1 sD (fun i=>[iV i.l,z7p]) (fun i=>[i.p.row]) (fun i=>1≤i.p.tick∧i.l.length≤1099511627776) (fun i=>yJ (i.l.any (xJ i.p.tick))) (fun i=>[i.p.row])
def xH (p:Prd):Bool:=decide (1≤p.tick) && decide (p.tick≤1000) && !xJ p.tick p.low && !xJ p.tick p.high && !xJ p.tick p.wide && !p.settle.any (xJ p.tick)
def ticksC:Con:=con1 Prd (fun p=>[prdV p]) (fun _=>[]) Prd.small (fun p=>yJ (xH p)) (fun _=>[])
def xI (p:Prd):Bool:=decide (p.low< -1000000)||decide (p.low≥p.high)||decide (p.high>1000000)||decide (p.wide<0)||decide (p.wide>p.high-p.low)
def yS (p:Prd):Bool:=decide (p.settle.length≠p.months.length)||decide (gH p.settle<p.low)||decide (g8 p.settle>p.high)
def xO (p:Prd):Bool:=decide (p.rule<1)||decide (p.rule>3)
def xB (p:Prd):Bool:=decide (p.top<0)||decide (p.top>1000000)||decide (p.least<1)||decide (p.least>1000)||decide (p.part<0)||decide (p.part>100)
def Prd.check (p:Prd):Int:=
 if !qU p.code then 12 else if !yQ p.months then 1 else if !xH p then 22 else if xI p then 23 else if yS p then 1 else if xO p then 31 else if xB p then 24 else 0
def checkC:Con:=con1 Prd (fun p=>[prdV p]) (fun _=>[]) Prd.small (fun p=>zE p.check) (fun _=>[])
def Prd.count (p:Prd):Nat:=if p.check=0 then p.months.length+p.months.length*(p.months.length-1) / 2 else 0
def pcountC:Con:=con1 Prd (fun p=>[prdV p]) (fun _=>[]) Prd.small (fun p=>zE p.count) (fun _=>[])
structure hU where
 p:Prd
 n:Int
def zX (n:Nat):Nat→Nat
 |0=>n
 |k+1=>zX n k+(n-1-k)
def xW (n inst:Nat):Nat→Nat→Int×Int×Bool
 |0,_=>(0,0,false)
 |k+1,m=>if inst<zX n m+(n-1-m)then(m,m+1+(inst-zX n m:Nat),true)else xW n inst k (m+1)
def Prd.legs (p:Prd) (i:Int):Int×Int×Bool:=
 if i<0∨(p.count:Int)≤i then(0,0,false)else if i<p.months.length then(i,i,false)else xW p.months.length i.toNat p.months.length 0
def legsC:Con:=con1 hU (fun i=>[prdV i.p,zE i.n]) (fun _=>[]) (fun i=>i.p.small) (fun i=> .tup [zE (i.p.legs i.n).1,zE (i.p.legs i.n).2.1,yJ (i.p.legs i.n).2.2]) (fun _=>[])
structure dY where
 p:Prd
 a:Int
 b:Int
def Prd.spread (p:Prd) (a b:Int):Int×Bool:=
 if p.check≠0∨a<0∨b≤a∨(p.months.length:Int)≤b then(0,false)else((zX p.months.length a.toNat:Int)+b-a-1,true)
def spreadC:Con:=con1 dY (fun i=>[prdV i.p,zE i.a,zE i.b]) (fun _=>[]) (fun i=>i.p.small) (fun i=> .tup [zE (i.p.spread i.a i.b).1,yJ (i.p.spread i.a i.b).2]) (fun _=>[])
def Prd.price (p:Prd) (i n:Int):Int:=
 if p.count=0 then 1 else if i<0∨(p.count:Int)≤i then 20 else if xJ p.tick n then 22 else
 if n<(if(p.months.length:Int)≤i then-p.wide else p.low)∨(if(p.months.length:Int)≤i then p.wide else p.high)<n then 23 else 0
def priceC:Con:=con1 dY (fun i=>[prdV i.p,zE i.a,zE i.b]) (fun _=>[]) (fun i=>i.p.small) (fun i=>zE (i.p.price i.a i.b)) (fun _=>[])
structure I2 where
 x:Int
 y:Int
@[reducible] def yI (n:Int):Prop:= -9223372036854775808≤n∧n≤9223372036854775807
def k8 (x y:Int):Int×Bool:=if yI (x+y)then(x+y,true)else(0,false)
def kW (x y:Int):Int×Bool:=if yI (x-y)then(x-y,true)else(0,false)
def addC:Con:=con1 I2 (fun i=>[zE i.x,zE i.y]) (fun _=>[]) (fun i=>yI i.x∧yI i.y) (fun i=> .tup [zE (k8 i.x i.y).1,yJ (k8 i.x i.y).2]) (fun _=>[])
def subC:Con:=con1 I2 (fun i=>[zE i.x,zE i.y]) (fun _=>[]) (fun i=>yI i.x∧yI i.y) (fun i=> .tup [zE (kW i.x i.y).1,yJ (kW i.x i.y).2]) (fun _=>[])
def z7h (i:hU):List SAnn:=[{ι:=Nat,slots:=fun m=>[(8,zE (zX i.p.months.length m)),(33,zE m)],rows:=fun _=>[]}]
def zZn (i:dY):List SAnn:=[{ι:=Nat,slots:=fun m=>[(9,zE (zX i.p.months.length m)),(33,zE m)],rows:=fun _=>[]}]
open Go Cv Go.Proofs
def z4s (i:zEm):Prop:=
 IntKind.i64=IntKind.i64∧i.p.tick≠0∧∃(o:Unit),xJ i.p.tick i.n=(i.n.tmod i.p.tick !=0)∧sb i.p.code=sb i.p.code∧iE i.p.months=iE i.p.months∧i.p.tick=i.p.tick∧i.p.low=i.p.low∧i.p.high=i.p.high∧i.p.wide=i.p.wide∧i.p.rule=i.p.rule∧i.p.top=i.p.top∧i.p.least=i.p.least∧i.p.part=i.p.part∧iE i.p.settle=iE i.p.settle∧True
theorem z7d (hG:GOk Tryz.prog ([])) (h:∀(i:zEm),offC.cnd i→z4s i):offC.ok Tryz.prog 86:=okw mixed hG 0 (fun _=>[]) (fun _=>[]) [] Tryz.func86 h
def z2o (i:sD):Prop:=
 ∃(i0:Nat),(↑i0:Int)=0∧∃(I:Nat→Prop),∃(μ:Nat→Nat),I i0∧∀(i_1:Nat),I i_1→cnd (decide ((↑i_1:Int)<(↑(iE i.l).length:Int))) ((0≤(↑i_1:Int)∧(↑i_1:Int)<(↑(iE i.l).length:Int))∧∃(n:Int),zJ (iE i.l) (↑i_1:Int).toNat 0 1=some [D.v (.int .i64 n)]∧∃(i_2:zEm),i_2.n=n∧sb i_2.p.code=sb i.p.code∧iE i_2.p.months=iE i.p.months∧i_2.p.tick=i.p.tick∧i_2.p.low=i.p.low∧i_2.p.high=i.p.high∧i_2.p.wide=i.p.wide∧i_2.p.rule=i.p.rule∧i_2.p.top=i.p.top∧i_2.p.least=i.p.least∧i_2.p.part=i.p.part∧iE i_2.p.settle=iE i.p.settle∧1≤i_2.p.tick∧∀(o:Unit),True→cnd (xJ i_2.p.tick i_2.n) (∃(o:Unit),nO (List.findIdx? (xJ i.p.tick) i.l)=(↑i_1:Int)∧sb i.p.code=sb i_2.p.code∧iE i.p.months=iE i_2.p.months∧i.p.tick=i_2.p.tick∧i.p.low=i_2.p.low∧i.p.high=i_2.p.high∧i.p.wide=i_2.p.wide∧i.p.rule=i_2.p.rule∧i.p.top=i_2.p.top∧i.p.least=i_2.p.least∧i.p.part=i_2.p.part∧iE i.p.settle=iE i_2.p.settle∧True) (∃(i':Nat),(↑i':Int)=IntKind.i64.wrap ((↑i_1:Int)+1)∧I i'∧μ i'<μ i_1∧Sx.AObj.cells (h9 (cB 1 ((1:Nat)+(0:Nat)) ((1:Nat)-(1:Nat)) [((0:Nat),(0:Nat))]) i_2.p.cells) (25:TypeId)=i.p.row)) (∃(o:Unit),nO (List.findIdx? (xJ i.p.tick) i.l)=(-1)∧sb i.p.code=sb i.p.code∧iE i.p.months=iE i.p.months∧i.p.tick=i.p.tick∧i.p.low=i.p.low∧i.p.high=i.p.high∧i.p.wide=i.p.wide∧i.p.rule=i.p.rule∧i.p.top=i.p.top∧i.p.least=i.p.least∧i.p.part=i.p.part∧iE i.p.settle=iE i.p.settle∧True)
theorem z8q (hG:GOk Tryz.prog ([(86,offC)])) (h:∀(i:sD),idxC.cnd i→z2o i):idxC.ok Tryz.prog 118:=okw mixed hG 0 (fun _=>[]) (fun i=>z9i i) [] Tryz.func118 h
def eY (i:sD):Prop:=
 ∃(i_1:sD),iE i_1.l=iE i.l∧sb i_1.p.code=sb i.p.code∧iE i_1.p.months=iE i.p.months∧i_1.p.tick=i.p.tick∧i_1.p.low=i.p.low∧i_1.p.high=i.p.high∧i_1.p.wide=i.p.wide∧i_1.p.rule=i.p.rule∧i_1.p.top=i.p.top∧i_1.p.least=i.p.least∧i_1.p.part=i.p.part∧iE i_1.p.settle=iE i.p.settle∧(1≤i_1.p.tick∧i_1.l.length≤1099511627776)∧∀(o:Unit),True→∃(o:Unit),i.l.any (xJ i.p.tick)=decide (nO (List.findIdx? (xJ i_1.p.tick) i_1.l)≥0)∧sb i.p.code=sb i_1.p.code∧iE i.p.months=iE i_1.p.months∧i.p.tick=i_1.p.tick∧i.p.low=i_1.p.low∧i.p.high=i_1.p.high∧i.p.wide=i_1.p.wide∧i.p.rule=i_1.p.rule∧i.p.top=i_1.p.top∧i.p.least=i_1.p.least∧i.p.part=i_1.p.part∧iE i.p.settle=iE i_1.p.settle∧True
theorem zIb (hG:GOk Tryz.prog ([(118,idxC)])) (h:∀(i:sD),containsC.cnd i→eY i):containsC.ok Tryz.prog 87:=okw mixed hG 0 (fun _=>[]) (fun _=>[]) [] Tryz.func87 h
def zKh (p:Prd):Prop:=
 cnd (decide (p.tick<1)) (∃(o:Unit),xH p=false∧True) (cnd (decide (p.tick>1000)) (∃(o:Unit),xH p=false∧True) (∃(i:zEm),i.n=p.low∧sb i.p.code=sb p.code∧iE i.p.months=iE p.months∧i.p.tick=p.tick∧i.p.low=p.low∧i.p.high=p.high∧i.p.wide=p.wide∧i.p.rule=p.rule∧i.p.top=p.top∧i.p.least=p.least∧i.p.part=p.part∧iE i.p.settle=iE p.settle∧1≤i.p.tick∧∀(o:Unit),True→cnd (!xJ i.p.tick i.n) (∃(i_1:zEm),i_1.n=i.p.high∧sb i_1.p.code=sb i.p.code∧iE i_1.p.months=iE i.p.months∧i_1.p.tick=i.p.tick∧i_1.p.low=i.p.low∧i_1.p.high=i.p.high∧i_1.p.wide=i.p.wide∧i_1.p.rule=i.p.rule∧i_1.p.top=i.p.top∧i_1.p.least=i.p.least∧i_1.p.part=i.p.part∧iE i_1.p.settle=iE i.p.settle∧1≤i_1.p.tick∧∀(o:Unit),True→cnd (!xJ i_1.p.tick i_1.n) (∃(i:zEm),i.n=i_1.p.wide∧sb i.p.code=sb i_1.p.code∧iE i.p.months=iE i_1.p.months∧i.p.tick=i_1.p.tick∧i.p.low=i_1.p.low∧i.p.high=i_1.p.high∧i.p.wide=i_1.p.wide∧i.p.rule=i_1.p.rule∧i.p.top=i_1.p.top∧i.p.least=i_1.p.least∧i.p.part=i_1.p.part∧iE i.p.settle=iE i_1.p.settle∧1≤i.p.tick∧∀(o:Unit),True→cnd (!xJ i.p.tick i.n) (∃(i_2:sD),iE i_2.l=iE i.p.settle∧sb i_2.p.code=sb i.p.code∧iE i_2.p.months=iE i.p.months∧i_2.p.tick=i.p.tick∧i_2.p.low=i.p.low∧i_2.p.high=i.p.high∧i_2.p.wide=i.p.wide∧i_2.p.rule=i.p.rule∧i_2.p.top=i.p.top∧i_2.p.least=i.p.least∧i_2.p.part=i.p.part∧iE i_2.p.settle=iE i.p.settle∧(1≤i_2.p.tick∧i_2.l.length≤1099511627776)∧∀(o:Unit),True→∃(o:Unit),xH p=!i_2.l.any (xJ i_2.p.tick)∧True) (∃(o:Unit),xH p=false∧True)) (∃(o:Unit),xH p=false∧True)) (∃(o:Unit),xH p=false∧True)))
theorem z0l (hG:GOk Tryz.prog ([(86,offC),(87,containsC)])) (h:∀(p:Prd),ticksC.cnd p→zKh p):ticksC.ok Tryz.prog 52:=okw mixed hG 0 (fun _=>[]) (fun _=>[]) [] Tryz.func52 h
def zIt (p:Prd):Prop:=
 ∃(i:List UInt8),sb i=sb p.code∧i.length≤1099511627776∧∀(o:Unit),True→cnd (!qU i) (∃(o:Unit),p.check=12∧True) (∃(i:List Int),iE i=iE p.months∧i.length≤1099511627776∧∀(o:Unit),True→cnd (!yQ i) (∃(o:Unit),p.check=1∧True) (∃(i:Prd),sb i.code=sb p.code∧iE i.months=iE p.months∧i.tick=p.tick∧i.low=p.low∧i.high=p.high∧i.wide=p.wide∧i.rule=p.rule∧i.top=p.top∧i.least=p.least∧i.part=p.part∧iE i.settle=iE p.settle∧(i.code.length≤1099511627776∧i.months.length≤1099511627776∧i.settle.length≤1099511627776)∧∀(o:Unit),True→cnd (!xH i) (∃(o:Unit),p.check=22∧True) (cnd (decide (p.low<(-1000000))) (∃(o:Unit),p.check=23∧True) (cnd (decide (p.low≥p.high)) (∃(o:Unit),p.check=23∧True) (cnd (decide (p.high>1000000)) (∃(o:Unit),p.check=23∧True) (cnd (decide (p.wide<0)) (∃(o:Unit),p.check=23∧True) (cnd (decide (p.wide>IntKind.i64.wrap (p.high-p.low))) (∃(o:Unit),p.check=23∧True) (cnd ((↑(iE p.settle).length:Int) !=(↑(iE p.months).length:Int)) (∃(o:Unit),p.check=1∧True) (∃(i:List Int),iE i=iE p.settle∧(0<i.length∧i.length≤1099511627776)∧∀(o:Unit),True→p.low=p.low∧cnd (decide (gH i<p.low)) (∃(o:Unit),p.check=1∧True) (∃(i:List Int),iE i=iE p.settle∧(0<i.length∧i.length≤1099511627776)∧∀(o:Unit),True→p.high=p.high∧cnd (decide (g8 i>p.high)) (∃(o:Unit),p.check=1∧True) (cnd (decide (p.rule<1)) (∃(o:Unit),p.check=31∧True) (cnd (decide (p.rule>3)) (∃(o:Unit),p.check=31∧True) (cnd (decide (p.top<0)) (∃(o:Unit),p.check=24∧True) (cnd (decide (p.top>1000000)) (∃(o:Unit),p.check=24∧True) (cnd (decide (p.least<1)) (∃(o:Unit),p.check=24∧True) (cnd (decide (p.least>1000)) (∃(o:Unit),p.check=24∧True) (cnd (decide (p.part<0)) (∃(o:Unit),p.check=24∧True) (cnd (decide (p.part>100)) (∃(o:Unit),p.check=24∧True) (∃(o:Unit),p.check=0∧True)))))))))))))))))))
theorem z0d (hG:GOk Tryz.prog ([(50,symC),(51,monthsC),(52,ticksC),(53,minC),(54,maxC)])) (h:∀(p:Prd),checkC.cnd p→zIt p):checkC.ok Tryz.prog 21:=okw mixed hG 0 (fun _=>[]) (fun _=>[]) [] Tryz.func21 h
def zKs (p:Prd):Prop:=
 ∃(i:Prd),sb i.code=sb p.code∧iE i.months=iE p.months∧i.tick=p.tick∧i.low=p.low∧i.high=p.high∧i.wide=p.wide∧i.rule=p.rule∧i.top=p.top∧i.least=p.least∧i.part=p.part∧iE i.settle=iE p.settle∧(i.code.length≤1099511627776∧i.months.length≤1099511627776∧i.settle.length≤1099511627776)∧∀(o:Unit),True→cnd (i.check !=0) (∃(o:Unit),(↑p.count:Int)=0∧True) (IntKind.i64=IntKind.i64∧(2:Int)≠(0:Int)∧∃(o:Unit),(↑p.count:Int)=IntKind.i64.wrap ((↑(iE p.months).length:Int)+IntKind.i64.wrap ((IntKind.i64.wrap ((↑(iE p.months).length:Int)*IntKind.i64.wrap ((↑(iE p.months).length:Int)-1))).tdiv 2))∧True)
theorem zVs (hG:GOk Tryz.prog ([(21,checkC)])) (h:∀(p:Prd),pcountC.cnd p→zKs p):pcountC.ok Tryz.prog 22:=okw mixed hG 0 (fun _=>[]) (fun _=>[]) [] Tryz.func22 h
@[reducible] def zLj (i:hU):AObj:=Sx.AObj.cells [V.d (D.v (Value.string (sb i.p.code))),V.own (0:Nat),V.d (D.v (.int .i64 i.p.tick)),V.d (D.v (.int .i64 i.p.low)),V.d (D.v (.int .i64 i.p.high)),V.d (D.v (.int .i64 i.p.wide)),V.d (D.v (.int .i64 i.p.rule)),V.d (D.v (.int .i64 i.p.top)),V.d (D.v (.int .i64 i.p.least)),V.d (D.v (.int .i64 i.p.part)),V.own ((0:Nat)+(1:Nat))] (25:Nat)
def z1s (i:hU):Prop:=
 ∃(i_1:Prd),sb i_1.code=sb i.p.code∧iE i_1.months=iE i.p.months∧i_1.tick=i.p.tick∧i_1.low=i.p.low∧i_1.high=i.p.high∧i_1.wide=i.p.wide∧i_1.rule=i.p.rule∧i_1.top=i.p.top∧i_1.least=i.p.least∧i_1.part=i.p.part∧iE i_1.settle=iE i.p.settle∧(i_1.code.length≤1099511627776∧i_1.months.length≤1099511627776∧i_1.settle.length≤1099511627776)∧∀(o:Unit),True→cnd (decide (i.n<0)) (∃(o:Unit),(i.p.legs i.n).fst=0∧(i.p.legs i.n).snd.fst=0∧(i.p.legs i.n).snd.snd=false∧True) (cnd (decide (i.n≥(↑i_1.count:Int))) (∃(o:Unit),(i.p.legs i.n).fst=0∧(i.p.legs i.n).snd.fst=0∧(i.p.legs i.n).snd.snd=false∧True) (cnd (decide (i.n<(↑(iE i.p.months).length:Int))) (∃(o:Unit),(i.p.legs i.n).fst=i.n∧(i.p.legs i.n).snd.fst=i.n∧(i.p.legs i.n).snd.snd=false∧True) (∃(i0:Nat),(↑(zX i.p.months.length i0):Int)=(↑(iE i.p.months).length:Int)∧(↑i0:Int)=0∧∃(I:Nat→Prop),∃(μ:Nat→Nat),I i0∧∀(i_2:Nat),I i_2→cnd (decide ((↑i_2:Int)<(↑(iE i.p.months).length:Int))) (cnd (decide (i.n<IntKind.i64.wrap ((↑(zX i.p.months.length i_2):Int)+IntKind.i64.wrap (IntKind.i64.wrap ((↑(iE i.p.months).length:Int)-1)-(↑i_2:Int))))) (∃(o:Unit),(i.p.legs i.n).fst=(↑i_2:Int)∧(i.p.legs i.n).snd.fst=IntKind.i64.wrap (IntKind.i64.wrap (IntKind.i64.wrap ((↑i_2:Int)+1)+i.n)-(↑(zX i.p.months.length i_2):Int))∧(i.p.legs i.n).snd.snd=true∧True) (∃(i':Nat),(↑(zX i.p.months.length i'):Int)=IntKind.i64.wrap ((↑(zX i.p.months.length i_2):Int)+IntKind.i64.wrap (IntKind.i64.wrap ((↑(iE i.p.months).length:Int)-1)-(↑i_2:Int)))∧(↑i':Int)=IntKind.i64.wrap ((↑i_2:Int)+1)∧I i'∧μ i'<μ i_2∧zLj i=zLj i∧AObj.fro 1 (iE i.p.settle)=AObj.fro 1 (iE i.p.settle)∧AObj.fro 1 (iE i.p.months)=AObj.fro 1 (iE i.p.months))) (∃(o:Unit),(i.p.legs i.n).fst=0∧(i.p.legs i.n).snd.fst=0∧(i.p.legs i.n).snd.snd=false∧True))))
theorem z4t (hG:GOk Tryz.prog ([(22,pcountC)])) (h:∀(i:hU),legsC.cnd i→z1s i):legsC.ok Tryz.prog 124:=okw mixed hG 0 (fun _=>[]) (fun i=>z7h i) [] Tryz.func124 h
@[reducible] def zAa (i:dY):AObj:=Sx.AObj.cells [V.d (D.v (Value.string (sb i.p.code))),V.own (0:Nat),V.d (D.v (.int .i64 i.p.tick)),V.d (D.v (.int .i64 i.p.low)),V.d (D.v (.int .i64 i.p.high)),V.d (D.v (.int .i64 i.p.wide)),V.d (D.v (.int .i64 i.p.rule)),V.d (D.v (.int .i64 i.p.top)),V.d (D.v (.int .i64 i.p.least)),V.d (D.v (.int .i64 i.p.part)),V.own ((0:Nat)+(1:Nat))] (25:Nat)
def zMj (i:dY):Prop:=
 ∃(i_1:Prd),sb i_1.code=sb i.p.code∧iE i_1.months=iE i.p.months∧i_1.tick=i.p.tick∧i_1.low=i.p.low∧i_1.high=i.p.high∧i_1.wide=i.p.wide∧i_1.rule=i.p.rule∧i_1.top=i.p.top∧i_1.least=i.p.least∧i_1.part=i.p.part∧iE i_1.settle=iE i.p.settle∧(i_1.code.length≤1099511627776∧i_1.months.length≤1099511627776∧i_1.settle.length≤1099511627776)∧∀(o:Unit),True→cnd (i_1.check !=0) (∃(o:Unit),(i.p.spread i.a i.b).fst=0∧(i.p.spread i.a i.b).snd=false∧True) (cnd (decide (i.a<0)) (∃(o:Unit),(i.p.spread i.a i.b).fst=0∧(i.p.spread i.a i.b).snd=false∧True) (cnd (decide (i.a≥i.b)) (∃(o:Unit),(i.p.spread i.a i.b).fst=0∧(i.p.spread i.a i.b).snd=false∧True) (cnd (decide (i.b≥(↑(iE i.p.months).length:Int))) (∃(o:Unit),(i.p.spread i.a i.b).fst=0∧(i.p.spread i.a i.b).snd=false∧True) (∃(i0:Nat),(↑(zX i.p.months.length i0):Int)=(↑(iE i.p.months).length:Int)∧(↑i0:Int)=0∧∃(I:Nat→Prop),∃(μ:Nat→Nat),I i0∧∀(i_2:Nat),I i_2→cnd (decide ((↑i_2:Int)<i.a)) (∃(i':Nat),(↑(zX i.p.months.length i'):Int)=IntKind.i64.wrap ((↑(zX i.p.months.length i_2):Int)+IntKind.i64.wrap (IntKind.i64.wrap ((↑(iE i.p.months).length:Int)-1)-(↑i_2:Int)))∧(↑i':Int)=IntKind.i64.wrap ((↑i_2:Int)+1)∧I i'∧μ i'<μ i_2∧zAa i=zAa i∧AObj.fro 1 (iE i.p.settle)=AObj.fro 1 (iE i.p.settle)∧AObj.fro 1 (iE i.p.months)=AObj.fro 1 (iE i.p.months)) (∃(o:Unit),(i.p.spread i.a i.b).fst=IntKind.i64.wrap (IntKind.i64.wrap (IntKind.i64.wrap ((↑(zX i.p.months.length i_2):Int)+i.b)-i.a)-1)∧(i.p.spread i.a i.b).snd=true∧True)))))
theorem zSj (hG:GOk Tryz.prog ([(21,checkC)])) (h:∀(i:dY),spreadC.cnd i→zMj i):spreadC.ok Tryz.prog 127:=okw mixed hG 0 (fun _=>[]) (fun i=>zZn i) [] Tryz.func127 h
def zUd (i:dY):Prop:=
 ∃(i_1:Prd),sb i_1.code=sb i.p.code∧iE i_1.months=iE i.p.months∧i_1.tick=i.p.tick∧i_1.low=i.p.low∧i_1.high=i.p.high∧i_1.wide=i.p.wide∧i_1.rule=i.p.rule∧i_1.top=i.p.top∧i_1.least=i.p.least∧i_1.part=i.p.part∧iE i_1.settle=iE i.p.settle∧(i_1.code.length≤1099511627776∧i_1.months.length≤1099511627776∧i_1.settle.length≤1099511627776)∧∀(o:Unit),True→cnd ((↑i_1.count:Int)==0) (∃(o:Unit),i.p.price i.a i.b=1∧True) (cnd (decide (i.a<0)) (∃(o:Unit),i.p.price i.a i.b=20∧True) (cnd (decide (i.a≥(↑i_1.count:Int))) (∃(o:Unit),i.p.price i.a i.b=20∧True) (IntKind.i64=IntKind.i64∧i.p.tick≠0∧cnd (i.b.tmod i.p.tick !=0) (∃(o:Unit),i.p.price i.a i.b=22∧True) (cnd (decide (i.a≥(↑(iE i.p.months).length:Int))) (cnd (decide (i.b<IntKind.i64.wrap (0-i.p.wide))) (∃(o:Unit),i.p.price i.a i.b=23∧True) (cnd (decide (i.b>i.p.wide)) (∃(o:Unit),i.p.price i.a i.b=23∧True) (∃(o:Unit),i.p.price i.a i.b=0∧True))) (cnd (decide (i.b<i.p.low)) (∃(o:Unit),i.p.price i.a i.b=23∧True) (cnd (decide (i.b>i.p.high)) (∃(o:Unit),i.p.price i.a i.b=23∧True) (∃(o:Unit),i.p.price i.a i.b=0∧True)))))))
theorem zZv (hG:GOk Tryz.prog ([(22,pcountC)])) (h:∀(i:dY),priceC.cnd i→zUd i):priceC.ok Tryz.prog 29:=okw mixed hG 0 (fun _=>[]) (fun _=>[]) [] Tryz.func29 h
def z3m (i:I2):Prop:=
 cnd (decide (i.x<0)==decide (i.y<0)) (cnd (!decide (IntKind.i64.wrap (i.x+i.y)<0)==decide (i.x<0)) (∃(o:Unit),(k8 i.x i.y).fst=0∧(k8 i.x i.y).snd=false∧True) (∃(o:Unit),(k8 i.x i.y).fst=IntKind.i64.wrap (i.x+i.y)∧(k8 i.x i.y).snd=true∧True)) (∃(o:Unit),(k8 i.x i.y).fst=IntKind.i64.wrap (i.x+i.y)∧(k8 i.x i.y).snd=true∧True)
theorem z8s (hG:GOk Tryz.prog ([])) (h:∀(i:I2),addC.cnd i→z3m i):addC.ok Tryz.prog 142:=okw mixed hG 0 (fun _=>[]) (fun _=>[]) [] Tryz.func142 h
def z6w (i:I2):Prop:=
 cnd (!decide (i.x<0)==decide (i.y<0)) (cnd (!decide (IntKind.i64.wrap (i.x-i.y)<0)==decide (i.x<0)) (∃(o:Unit),(kW i.x i.y).fst=0∧(kW i.x i.y).snd=false∧True) (∃(o:Unit),(kW i.x i.y).fst=IntKind.i64.wrap (i.x-i.y)∧(kW i.x i.y).snd=true∧True)) (∃(o:Unit),(kW i.x i.y).fst=IntKind.i64.wrap (i.x-i.y)∧(kW i.x i.y).snd=true∧True)
theorem z7n (hG:GOk Tryz.prog ([])) (h:∀(i:I2),subC.cnd i→z6w i):subC.ok Tryz.prog 143:=okw mixed hG 0 (fun _=>[]) (fun _=>[]) [] Tryz.func143 h
open Go Cv Go.Proofs
theorem z9l (i:zEm) (h:offC.cnd i):z4s i:=by
 have h:1≤i.p.tick:=h
 unfold z4s;exact kp
theorem zTg:offC.ok Tryz.prog 86:=z7d gok0 z9l
theorem mV {α:Type} {f:α→Bool} {l:List α} (h:∀(k:Nat) (x:α),l[k]? =some x→f x=false):l.findIdx? f=none:=by
 rw[List.findIdx?_eq_none_iff]
 intro x hx
 obtain⟨k,hk⟩:=List.getElem?_of_mem hx
 exact h k x hk
theorem mJ {α:Type} {f:α→Bool} {l:List α} {j:Nat} {x:α} (h1:l[j]? =some x) (h2:f x=true) (h:∀k<j,∀x:α,l[k]? =some x→f x=false):l.findIdx? f=some j:=by
 rw[List.findIdx?_eq_some_iff_getElem]
 obtain⟨hj,rfl⟩:=List.getElem?_eq_some_iff.1 h1
 exact⟨hj,h2,fun k hk=>by rw[h k hk _ (List.getElem?_eq_getElem (by omega))];simp⟩
theorem z9x (i:sD) (h:idxC.cnd i):z2o i:=by
 obtain⟨h1,h2⟩:1≤i.p.tick∧i.l.length≤1099511627776:=h
 unfold z2o
 simp only[yT]
 refine⟨0,rfl,fun j=>j≤i.l.length∧∀k<j,∀x,i.l[k]? =some x→xJ i.p.tick x=false,fun j=>i.l.length-j,⟨by omega,fun k hk=>by omega⟩,?_⟩
 rintro j ⟨h3,h4⟩
 refine zS (fun hj=> ?_) (fun hj=> ?_)
 ·obtain⟨n,hn⟩:=z9 (l:=i.l) (i:=j) (by omega)
  refine⟨⟨by omega,by omega⟩,n,elI hn,⟨i.p,n⟩,?_⟩
  (repeat'(first|exact rfl|exact trivial|assumption|apply And.intro|refine fun(_:Unit) (_:True)=>?_|refine Exists.intro () ?_|omega|(dsimp only;omega)))
  refine Cv.cnd.mk (fun e=> ?_) (fun e=> ?_)
  ·rw[mJ hn e h4];exact kp
  ·refine⟨j+1,by rw[w64 (by omega)];rfl,⟨by omega,fun k hk x hx=> ?_⟩,by(first|omega|(dsimp only;omega)),rfl⟩
   rcases Nat.lt_or_ge k j with hk'|hk'
   ·exact h4 k hk' x hx
   ·obtain rfl:k=j:=by omega
    rw[hn]at hx;cases hx;exact e
 ·rw[mV fun k x hx=>h4 k (by have:=(List.getElem?_eq_some_iff.1 hx).1;omega) x hx];exact kp
theorem z2b:idxC.ok Tryz.prog 118:=z8q (gokc zTg gok0) z9x
theorem zPc {l:List Int} {f:Int→Bool}:l.any f=decide (nO (l.findIdx? f)≥0):=by
 cases hf:l.findIdx? f with
 |none=>
  rw[List.findIdx?_eq_none_iff]at hf
  have:l.any f=false:=by rw[List.any_eq_false];intro x hx;simp[hf x hx]
  rw[this];rfl
 |some k=>
  rw[List.findIdx?_eq_some_iff_getElem]at hf
  obtain⟨hk,h1,_⟩:=hf
  have:l.any f=true:=by rw[List.any_eq_true];exact⟨_,List.getElem_mem hk,h1⟩
  rw[this,nO,decide_eq_true (by omega)]
theorem zNw (i:sD) (h:containsC.cnd i):eY i:=by
 have h':1≤i.p.tick∧i.l.length≤1099511627776:=h
 refine⟨i,?_⟩
 (repeat'(first|exact rfl|exact trivial|assumption|apply And.intro|refine fun(_:Unit) (_:True)=>?_|refine Exists.intro () ?_|omega|(dsimp only;omega)))
 exact zPc
theorem zEb:containsC.ok Tryz.prog 87:=zIb (gokc z2b gok0) zNw
theorem z5p (p:Prd) (h:ticksC.cnd p):zKh p:=by
 obtain⟨h1,h2,h3⟩:p.small:=h
 unfold zKh
 refine zS (fun c1=>⟨(),by rw[xH,decide_eq_false (by omega)];rfl,trivial⟩) (fun c1=>zS (fun c2=>⟨(),by rw[xH,decide_eq_false (show ¬p.tick≤1000 by omega)];simp,trivial⟩) (fun c2=>⟨⟨p,p.low⟩,?_⟩))
 have e1:xH p=(!xJ p.tick p.low && !xJ p.tick p.high && !xJ p.tick p.wide && !p.settle.any (xJ p.tick)):=by
  rw[xH,decide_eq_true (by omega),decide_eq_true (by omega)];rfl
 rw[e1]
 (repeat'(first|exact rfl|exact trivial|assumption|apply And.intro|refine fun(_:Unit) (_:True)=>?_|refine Exists.intro () ?_|omega|(dsimp only;omega)))
 refine Cv.cnd.mk (fun c3=>⟨⟨p,p.high⟩,?_⟩) (fun c3=>⟨(),?_,trivial⟩)
 ·dsimp only at c3
  (repeat'(first|exact rfl|exact trivial|assumption|apply And.intro|refine fun(_:Unit) (_:True)=>?_|refine Exists.intro () ?_|omega|(dsimp only;omega)))
  refine Cv.cnd.mk (fun c4=>⟨⟨p,p.wide⟩,?_⟩) (fun c4=>⟨(),?_,trivial⟩)
  ·dsimp only at c4
   (repeat'(first|exact rfl|exact trivial|assumption|apply And.intro|refine fun(_:Unit) (_:True)=>?_|refine Exists.intro () ?_|omega|(dsimp only;omega)))
   refine Cv.cnd.mk (fun c5=>⟨⟨p,p.settle⟩,?_⟩) (fun c5=>⟨(),?_,trivial⟩)
   ·dsimp only at c5
    (repeat'(first|exact rfl|exact trivial|assumption|apply And.intro|refine fun(_:Unit) (_:True)=>?_|refine Exists.intro () ?_|omega|(dsimp only;omega)))
    rw[c3,c4,c5];simp
   ·dsimp only at c5
    rw[c5];simp
  ·dsimp only at c4
   rw[c4];simp
 ·dsimp only at c3
  rw[c3];simp
theorem zRs:ticksC.ok Tryz.prog 52:=z0l (gokc zTg (gokc zEb gok0)) z5p
theorem z3l (p:Prd) (h:checkC.cnd p):zIt p:=by
 obtain⟨h1,h2,h3⟩:p.small:=h
 unfold zIt
 simp only[yT]
 refine⟨p.code,rfl,h1,fun _ _=>Cv.cnd.mk (fun c1=>⟨(),by rw[Prd.check,if_pos c1],trivial⟩) (fun c1=>⟨p.months,rfl,h2,fun _ _=>Cv.cnd.mk (fun c2=>⟨(),by rw[Prd.check,if_neg (by simp[c1]),if_pos c2],trivial⟩) (fun c2=>⟨p,?_⟩)⟩)⟩
 (repeat'(first|exact rfl|exact trivial|assumption|apply And.intro|refine fun(_:Unit) (_:True)=>?_|refine Exists.intro () ?_|omega|(dsimp only;omega)))
 refine Cv.cnd.mk (fun c3=>⟨(),by rw[Prd.check,if_neg (by simp[c1]),if_neg (by simp[c2]),if_pos c3],trivial⟩) (fun c3=> ?_)
 have e0:p.check=if xI p then 23 else if yS p then 1 else if xO p then 31 else if xB p then 24 else 0:=by
  rw[Prd.check,if_neg (by simp[c1]),if_neg (by simp[c2]),if_neg (by simp[c3])]
 have b (hb:xI p=true):∃(o:Unit),p.check=23∧True:=⟨(),by rw[e0,if_pos hb],trivial⟩
 refine zS (fun d1=>b (by simp[xI,d1])) fun d1=>zS (fun d2=>b (by simp[xI];omega)) fun d2=>zS (fun d3=>b (by simp[xI];omega)) fun d3=>zS (fun d4=>b (by simp[xI];omega)) fun d4=> ?_
 rw[w64 (by omega)]
 refine zS (fun d5=>b (by simp[xI];omega)) fun d5=> ?_
 have e1:p.check=if yS p then 1 else if xO p then 31 else if xB p then 24 else 0:=by
  rw[e0,if_neg (by simp[xI];omega)]
 have s (hb:yS p=true):∃(o:Unit),p.check=1∧True:=⟨(),by rw[e1,if_pos hb],trivial⟩
 have hm:2≤p.months.length:=by
  have c2:yQ p.months=true:=by simpa using c2
  simp[yQ]at c2;omega
 refine Cv.cnd.mk (fun d6=>s (by have d6:¬(p.settle.length:Int)=p.months.length:=(by simpa using d6);simp[yS];omega)) fun d6=> ?_
 have d6:p.settle.length=p.months.length:=by
  have:(p.settle.length:Int)=p.months.length:=by simpa using d6
  omega
 refine⟨p.settle,rfl,⟨by omega,by omega⟩,fun _ _=>⟨kp,zS (fun d7=>s (by simp[yS];left;right;omega)) fun d7=>⟨p.settle,rfl,⟨by omega,by omega⟩,fun _ _=>⟨kp,zS (fun d8=>s (by simp[yS];right;omega)) fun d8=> ?_⟩⟩⟩⟩
 have e2:p.check=if xO p then 31 else if xB p then 24 else 0:=by
  rw[e1,if_neg (by simp[yS];omega)]
 have r (hb:xO p=true):∃(o:Unit),p.check=31∧True:=⟨(),by rw[e2,if_pos hb],trivial⟩
 refine zS (fun d9=>r (by simp[xO];omega)) fun d9=>zS (fun d10=>r (by simp[xO];omega)) fun d10=> ?_
 have e3:p.check=if xB p then 24 else 0:=by
  rw[e2,if_neg (by simp[xO];omega)]
 have q (hb:xB p=true):∃(o:Unit),p.check=24∧True:=⟨(),by rw[e3,if_pos hb],trivial⟩
 refine zS (fun f1=>q (by simp[xB];omega)) fun f1=>zS (fun f2=>q (by simp[xB];omega)) fun f2=>zS (fun f3=>q (by simp[xB];omega)) fun f3=>zS (fun f4=>q (by simp[xB];omega)) fun f4=>zS (fun f5=>q (by simp[xB];omega)) fun f5=>zS (fun f6=>q (by simp[xB];omega)) fun f6=> ?_
 exact⟨(),by rw[e3,if_neg (by simp[xB];omega)],trivial⟩
theorem sZ:checkC.ok Tryz.prog 21:=z0d (gokc z2j (gokc zOy (gokc zRs (gokc z3o (gokc z2v gok0))))) z3l
structure Prd.Ok (p:Prd):Prop where
 sym:qU p.code=true
 months:yQ p.months=true
 ticks:xH p=true
 m2:2≤p.months.length
 m6:p.months.length≤6
 t1:1≤p.tick
 t2:p.tick≤1000
 b1: -1000000≤p.low
 b2:p.low<p.high
 b3:p.high≤1000000
 b4:0≤p.wide
 b5:p.wide≤p.high-p.low
 s1:p.settle.length=p.months.length
 s2:p.low≤gH p.settle
 s3:g8 p.settle≤p.high
 r1:1≤p.rule
 r2:p.rule≤3
 q1:0≤p.top
 q2:p.top≤1000000
 q3:1≤p.least
 q4:p.least≤1000
 q5:0≤p.part
 q6:p.part≤100
theorem xZ {p:Prd} (h:p.check=0):p.Ok:=by
 unfold Prd.check at h
 split at h<;>first|(exfalso;revert h;decide)|skip
 rename_i c1
 split at h<;>first|(exfalso;revert h;decide)|skip
 rename_i c2
 split at h<;>first|(exfalso;revert h;decide)|skip
 rename_i c3
 split at h<;>first|(exfalso;revert h;decide)|skip
 rename_i c4
 split at h<;>first|(exfalso;revert h;decide)|skip
 rename_i c5
 split at h<;>first|(exfalso;revert h;decide)|skip
 rename_i c6
 split at h<;>first|(exfalso;revert h;decide)|skip
 rename_i c7
 simp only[Bool.not_eq_true',Bool.not_eq_false,Bool.not_eq_true]at c1 c2 c3
 have m:=c2
 have t:=c3
 simp[yQ]at m
 simp[xH]at t
 simp[xI]at c4
 simp[yS]at c5
 simp[xO]at c6
 simp[xB]at c7
 exact⟨c1,c2,c3,by omega,by omega,by omega,by omega,by omega,by omega,by omega,by omega,by omega,by omega,by omega,by omega,by omega,by omega,by omega,by omega,by omega,by omega,by omega,by omega⟩
theorem zUi {n:Nat} (h:n≤6):n+n*(n-1) / 2≤21:=by
 have:∀n≤6,n+n*(n-1) / 2≤21:=by decide
 exact this n h
theorem zWv (p:Prd) (h:pcountC.cnd p):zKs p:=by
 obtain⟨h1,h2,h3⟩:p.small:=h
 refine⟨p,?_⟩
 simp only[yT]
 (repeat'(first|exact rfl|exact trivial|assumption|apply And.intro|refine fun(_:Unit) (_:True)=>?_|refine Exists.intro () ?_|omega|(dsimp only;omega)))
 refine Cv.cnd.mk (fun c=>⟨(),by rw[Prd.count,if_neg (by simpa using c)];rfl,trivial⟩) (fun c=> ?_)
 have c:p.check=0:=by simpa using c
 have ok:=xZ c
 refine⟨kp,by decide,(),?_,trivial⟩
 rw[Prd.count,if_pos c]
 obtain⟨n,hn⟩:∃n,p.months.length=n:=⟨_,rfl⟩
 have m2:=ok.m2
 have m6:=ok.m6
 rw[hn]at m2 m6 ⊢
 have:n=2∨n=3∨n=4∨n=5∨n=6:=by omega
 rcases this with rfl|rfl|rfl|rfl|rfl<;>rfl
theorem uM:pcountC.ok Tryz.prog 22:=zVs (gokc sZ gok0) zWv
theorem f7 {p:Prd} (h:p.count≠0):p.check=0:=by
 unfold Prd.count at h
 split at h
 ·assumption
 ·exact absurd rfl h
theorem jJ (p:Prd):p.count≤21:=by
 unfold Prd.count
 split
 ·rename_i h;exact zUi (xZ h).m6
 ·omega
theorem pU {n m:Nat} (h:n≤6) (hm:m≤n):zX n m≤21:=by
 have:∀n≤6,∀m≤n,zX n m≤21:=by decide
 exact this n h m hm
theorem z8p (i:hU) (h:legsC.cnd i):z1s i:=by
 obtain⟨h1,h2,h3⟩:i.p.small:=h
 refine⟨i.p,?_⟩
 simp only[yT]
 (repeat'(first|exact rfl|exact trivial|assumption|apply And.intro|refine fun(_:Unit) (_:True)=>?_|refine Exists.intro () ?_|omega|(dsimp only;omega)))
 refine zS (fun c1=> ?_) (fun c1=>zS (fun c2=> ?_) (fun c2=> ?_))
 ·rw[Prd.legs,if_pos (by omega)];exact kp
 ·rw[Prd.legs,if_pos (by omega)];exact kp
 have c2:¬i.n≥(i.p.count:Int):=c2
 have hc:=jJ i.p
 have ok:=xZ (f7 (p:=i.p) (by omega))
 have m6:=ok.m6
 refine zS (fun c3=> ?_) (fun c3=> ?_)
 ·rw[Prd.legs,if_neg (by omega),if_pos c3];exact kp
 have e0:i.p.legs i.n=xW i.p.months.length i.n.toNat i.p.months.length 0:=by
  rw[Prd.legs,if_neg (by omega),if_neg c3]
 rw[e0]
 generalize hn:i.p.months.length=n at c3 m6 ⊢
 obtain⟨k,hk⟩:∃k:Nat,i.n=k:=⟨i.n.toNat,by omega⟩
 rw[hk]at c2 c3 ⊢
 refine⟨0,rfl,rfl,fun m=>m≤n∧zX n m≤k∧xW n k n 0=xW n k (n-m) m,fun m=>n-m,⟨by omega,by show n≤k;omega,rfl⟩,?_⟩
 rintro m ⟨g1,g2,g3⟩
 have hf:=pU m6 g1
 refine zS (fun c4=> ?_) (fun c4=> ?_)
 ·obtain⟨r,hr⟩:∃r,n-m=r+1:=⟨n-m-1,by omega⟩
  have e1:(k:Int).toNat=k:=by omega
  rw[e1,g3,hr,w64 (x:=(n:Int)-1) (by omega),w64 (x:=(n:Int)-1-m) (by omega),w64 (x:=(zX n m:Int)+((n:Int)-1-m)) (by omega),w64 (x:=(m:Int)+1) (by omega)]
  rw[hr]at g3
  refine zS (fun c5=> ?_) (fun c5=> ?_)
  ·rw[w64 (x:=(m:Int)+1+k) (by omega),w64 (x:=(m:Int)+1+k-(zX n m:Int)) (by omega),xW,if_pos (by omega)]
   refine⟨(),rfl,?_,rfl,trivial⟩
   dsimp only;omega
  ·refine⟨m+1,?_,rfl,⟨by omega,?_,?_⟩,by(first|omega|(dsimp only;omega)),kp⟩
   ·rw[zX];omega
   ·rw[zX];omega
   ·rw[xW,if_neg (by omega),show n-(m+1)=r by omega]
 ·have e1:(k:Int).toNat=k:=by omega
  rw[e1,g3,show n-m=0 by omega]
  exact⟨(),rfl,rfl,rfl,trivial⟩
theorem zMo:legsC.ok Tryz.prog 124:=z4t (gokc uM gok0) z8p
theorem zXx (i:dY) (h:spreadC.cnd i):zMj i:=by
 obtain⟨h1,h2,h3⟩:i.p.small:=h
 refine⟨i.p,?_⟩
 simp only[yT]
 (repeat'(first|exact rfl|exact trivial|assumption|apply And.intro|refine fun(_:Unit) (_:True)=>?_|refine Exists.intro () ?_|omega|(dsimp only;omega)))
 have bad (hb:i.p.check≠0∨i.a<0∨i.b≤i.a∨(i.p.months.length:Int)≤i.b):∃(o:Unit),(i.p.spread i.a i.b).fst=0∧(i.p.spread i.a i.b).snd=false∧True:=⟨(),by rw[Prd.spread,if_pos hb],by rw[Prd.spread,if_pos hb],trivial⟩
 refine Cv.cnd.mk (fun c1=>bad (.inl (by simpa using c1))) fun c1=>zS (fun c2=>bad (by omega)) fun c2=>zS (fun c3=>bad (by omega)) fun c3=>zS (fun c4=>bad (by omega)) fun c4=> ?_
 have c1:i.p.check=0:=by simpa using c1
 have m6:=(xZ c1).m6
 rw[Prd.spread,if_neg (by omega)]
 generalize hn:i.p.months.length=n at c4 m6 ⊢
 obtain⟨a,ha⟩:∃k:Nat,i.a=k:=⟨i.a.toNat,by omega⟩
 rw[ha]at c3 ⊢
 refine⟨0,rfl,rfl,fun m=>m≤a,fun m=>a-m,by omega,?_⟩
 intro m hm
 have hm:m≤a:=hm
 have hf:=pU (m:=m) m6 (by omega)
 refine zS (fun c5=> ?_) (fun c5=> ?_)
 ·rw[w64 (x:=(n:Int)-1) (by omega),w64 (x:=(n:Int)-1-m) (by omega),w64 (x:=(zX n m:Int)+((n:Int)-1-m)) (by omega),w64 (x:=(m:Int)+1) (by omega)]
  refine⟨m+1,?_,rfl,by omega,by(first|omega|(dsimp only;omega)),kp⟩
  rw[zX];omega
 ·obtain rfl:m=a:=by omega
  rw[w64 (x:=(zX n m:Int)+i.b) (by omega),w64 (x:=(zX n m:Int)+i.b-m) (by omega),w64 (x:=(zX n m:Int)+i.b-m-1) (by omega)]
  exact⟨(),rfl,rfl,trivial⟩
theorem lS:spreadC.ok Tryz.prog 127:=zSj (gokc sZ gok0) zXx
theorem z3f (i:dY) (h:priceC.cnd i):zUd i:=by
 obtain⟨h1,h2,h3⟩:i.p.small:=h
 refine⟨i.p,?_⟩
 simp only[yT]
 (repeat'(first|exact rfl|exact trivial|assumption|apply And.intro|refine fun(_:Unit) (_:True)=>?_|refine Exists.intro () ?_|omega|(dsimp only;omega)))
 refine Cv.cnd.mk (fun c1=>⟨(),by rw[Prd.price,if_pos (by have:(i.p.count:Int)=0:=(by simpa using c1);omega)],trivial⟩) fun c1=> ?_
 have c1:i.p.count≠0:=by
  have:¬(i.p.count:Int)=0:=by simpa using c1
  omega
 have e0:i.p.price i.a i.b=if i.a<0∨(i.p.count:Int)≤i.a then 20 else if xJ i.p.tick i.b then 22 else
  if i.b<(if(i.p.months.length:Int)≤i.a then-i.p.wide else i.p.low)∨(if(i.p.months.length:Int)≤i.a then i.p.wide else i.p.high)<i.b then 23 else 0:=by rw[Prd.price,if_neg c1]
 rw[e0]
 have ok:=xZ (f7 c1)
 obtain⟨t1,b3,b1,b2,b4,b5⟩:=(⟨ok.t1,ok.b3,ok.b1,ok.b2,ok.b4,ok.b5⟩:_∧_∧_∧_∧_∧_)
 refine zS (fun c2=>⟨(),by rw[if_pos (.inl c2)],trivial⟩) fun c2=>zS (fun c3=>⟨(),by rw[if_pos (.inr c3)],trivial⟩) fun c3=>⟨kp,by omega,?_⟩
 have c3:¬i.a≥(i.p.count:Int):=c3
 rw[if_neg (by omega)]
 refine Cv.cnd.mk (fun c4=>⟨(),if_pos c4,trivial⟩) fun c4=> ?_
 rw[if_neg (by rw[xJ,c4];simp),w64 (x:=0-i.p.wide) (by omega)]
 refine zS (fun c5=> ?_) (fun c5=> ?_)
 ·have c5:(i.p.months.length:Int)≤i.a:=c5
  simp only[if_pos c5]
  refine zS (fun c6=>⟨(),if_pos (.inl (by omega)),trivial⟩) fun c6=>zS (fun c7=>⟨(),if_pos (.inr (by omega)),trivial⟩) fun c7=>⟨(),if_neg (by omega),trivial⟩
 ·have c5:¬(i.p.months.length:Int)≤i.a:=c5
  simp only[if_neg c5]
  refine zS (fun c6=>⟨(),if_pos (.inl (by omega)),trivial⟩) fun c6=>zS (fun c7=>⟨(),if_pos (.inr (by omega)),trivial⟩) fun c7=>⟨(),if_neg (by omega),trivial⟩
theorem zFb:priceC.ok Tryz.prog 29:=zZv (gokc uM gok0) z3f
theorem z1d (x:Int) (h: -18446744073709551616≤x∧x<18446744073709551616):(yI x∧IntKind.i64.wrap x=x)∨(9223372036854775807<x∧IntKind.i64.wrap x=x-18446744073709551616)∨(x< -9223372036854775808∧IntKind.i64.wrap x=x+18446744073709551616):=by
 have e:IntKind.i64.wrap x=if(decide (x % 18446744073709551616≥9223372036854775808))=true then x % 18446744073709551616-18446744073709551616 else x % 18446744073709551616:=by
  have:IntKind.i64.wrap x=if(true && decide (x % 18446744073709551616≥9223372036854775808))=true then x % 18446744073709551616-18446744073709551616 else x % 18446744073709551616:=rfl
  rw[this,Bool.true_and]
 have e:IntKind.i64.wrap x=(x+9223372036854775808) % 18446744073709551616-9223372036854775808:=by
  rw[e]
  by_cases h2:x % 18446744073709551616≥9223372036854775808
  ·rw[if_pos (decide_eq_true h2)];omega
  ·rw[if_neg (by simpa using h2)];omega
 rw[e]
 by_cases h1:yI x
 ·exact .inl ⟨h1,by unfold yI at h1;omega⟩
 ·unfold yI at h1
  omega
theorem yAa (i:I2) (h:addC.cnd i):z3m i:=by
 obtain⟨⟨x1,x2⟩,y1,y2⟩:yI i.x∧yI i.y:=h
 have hw:=z1d (i.x+i.y) (by omega)
 unfold z3m k8
 generalize IntKind.i64.wrap (i.x+i.y)=w at hw ⊢
 unfold yI at hw ⊢
 refine Cv.cnd.mk (fun c1=>Cv.cnd.mk (fun c2=> ?_) (fun c2=> ?_)) (fun c1=> ?_)
 all_goals(simp at*)
 ·rw[if_neg (by omega)];exact kp
 ·rw[if_pos (by omega)];refine⟨?_,rfl⟩;dsimp only;omega
 ·rw[if_pos (by omega)];refine⟨?_,rfl⟩;dsimp only;omega
theorem zCr:addC.ok Tryz.prog 142:=z8s gok0 yAa
theorem yAi (i:I2) (h:subC.cnd i):z6w i:=by
 obtain⟨⟨x1,x2⟩,y1,y2⟩:yI i.x∧yI i.y:=h
 have hw:=z1d (i.x-i.y) (by omega)
 unfold z6w kW
 generalize IntKind.i64.wrap (i.x-i.y)=w at hw ⊢
 unfold yI at hw ⊢
 refine Cv.cnd.mk (fun c1=>Cv.cnd.mk (fun c2=> ?_) (fun c2=> ?_)) (fun c1=> ?_)
 all_goals(simp at*)
 ·rw[if_neg (by omega)];exact kp
 ·rw[if_pos (by omega)];refine⟨?_,rfl⟩;dsimp only;omega
 ·rw[if_pos (by omega)];refine⟨?_,rfl⟩;dsimp only;omega
theorem zDh:subC.ok Tryz.prog 143:=z7n gok0 yAi
open Go Cv Go.Proofs
structure Slot where
 used:Bool
 n:Int
 id:Int
 qty:Int
 top:Bool
 queue:Int
 ahead:Int
 back:Int
 deriving DecidableEq
structure qB where
 first:Int
 last:Int
 total:Int
 count:Int
 deriving DecidableEq
structure Arena where
 slots:List Slot
 queues:List qB
 free:Int
 deriving DecidableEq
def zL (s:Slot):List D:=[.v (.bool s.used),.v (.int .i64 s.n),.v (.int .i64 s.id),.v (.int .i64 s.qty),.v (.bool s.top),.v (.int .i64 s.queue),.v (.int .i64 s.ahead),.v (.int .i64 s.back)]
def zG (q:qB):List D:=[.v (.int .i64 q.first),.v (.int .i64 q.last),.v (.int .i64 q.total),.v (.int .i64 q.count)]
def slot0:Slot:=⟨false,0,0,0,false,0,0,0⟩
def zC (a:Arena):Nat→AObj
 |0=> .cells [.own 1,.own 2,zE a.free] 184
 |1=> .own 195 8 (a.slots.map zL)
 |2=> .own 199 4 (a.queues.map zG)
 |_=> .gone
def qM (a:Arena):AObj:= .adt Arena 3 zC a
structure yU where
 price:Int
 queue:Int
 deriving DecidableEq
structure Place where
 side:Int
 price:Int
 slot:Int
 deriving DecidableEq
structure Book where
 a:Arena
 buys:List yU
 sells:List yU
 at_:List (Int×Place)
 top1:Int
 top2:Int
 spare:List Int
 has1:Bool
 has2:Bool
 deriving DecidableEq
def zA (r:yU):List D:=[.v (.int .i64 r.price),.v (.int .i64 r.queue)]
def zJn (p:Place):List D:=[.v (.int .i64 p.side),.v (.int .i64 p.price),.v (.int .i64 p.slot)]
def atE (l:List (Int×Place)):List (Value×List D):=l.map fun x=>(.int .i64 x.1,zJn x.2)
def zN (b:Book):Nat→AObj
 |0=> .cells [.nm 1 0,.own 2,.own 3,.mp 4,zE b.top1,zE b.top2,.own 5,yJ b.has1,yJ b.has2] 135
 |1=>qM b.a
 |2=> .own 141 2 (b.buys.map zA)
 |3=> .own 141 2 (b.sells.map zA)
 |4=> .map (atE b.at_)
 |5=> .own 3 1 (iE b.spare)
 |_=> .gone
def z8 (b:Book):AObj:= .adt Book 6 zN b
structure MSt where
 p:Prd
 books:List Book
 wh:List (Int×Int)
def yC (l:List (Int×Int)):List (Value×List D):=l.map fun x=>(.int .i64 x.1,[.v (.int .i64 x.2)])
def z6 (s:MSt):Nat→AObj
 |0=> .cells [sV s.p.code,.own 3,zE s.p.tick,zE s.p.low,zE s.p.high,zE s.p.wide,zE s.p.rule,zE s.p.top,zE s.p.least,zE s.p.part,.own 4,.own 1,.mp 2] 62
 |1=> .objs 64 Book 6 zN s.books none
 |2=> .map (yC s.wh)
 |3=> .fro 1 (iE s.p.months)
 |4=> .fro 1 (iE s.p.settle)
 |_=> .gone
def zT (s:MSt):AObj:= .adt MSt 5 z6 s
def tH (n:Nat):Arena:=⟨List.replicate n slot0,[],n⟩
def book0:Book:=⟨tH 250,[],[],[],0,0,[],false,false⟩
def newAC:Con:=con1 Nat (fun n=>[zE n]) (fun _=>[]) (fun n=>1≤n∧n≤4096) (fun _=> .tup [.nm 0 0,zE 0]) (fun n=>[qM (tH n)])
def newBC:Con:=con1 Unit (fun _=>[]) (fun _=>[]) (fun _=>True) (fun _=> .nm 0 0) (fun _=>[z8 book0])
def uF (p:Prd):MSt:=⟨p,List.replicate p.count book0,[]⟩
def newSC:Con where
 ι:=Prd
 pat:=fun p=>[prdV p]
 pre:=fun _=>[]
 cnd:=fun p=>p.small
 alts:=fun p=>[{o:=Unit,res:=fun _=> .tup [.nm 0 0,zE 0],post:=fun _=>[zT (uF p)],rel:=fun _=>p.check=0},{o:=Unit,res:=fun _=> .tup [.d (.v (.pointer none)),zE p.check],post:=fun _=>[],rel:=fun _=>p.check≠0}]
def z6z (p:Prd):List SAnn:=[{ι:=Nat,slots:=fun j=>[(5,.nm 0 0),(27,zE j)],rows:=fun j=>(List.range 5).map (z6 ⟨p,List.replicate j book0,[]⟩)}]
def clSlotC:Con:=con1 (List Slot) (fun _=>[.own 0]) (fun l=>[.own 195 8 (l.map zL)]) (fun l=>l.length≤1000000) (fun _=> .own 1) (fun l=>[.own 195 8 (l.map zL),.own 195 8 (l.map zL)])
def clQueueC:Con:=con1 (List qB) (fun _=>[.own 0]) (fun l=>[.own 199 4 (l.map zG)]) (fun l=>l.length≤1000000) (fun _=> .own 1) (fun l=>[.own 199 4 (l.map zG),.own 199 4 (l.map zG)])
def clRungC:Con:=con1 (List yU) (fun _=>[.own 0]) (fun l=>[.own 141 2 (l.map zA)]) (fun l=>l.length≤1000000) (fun _=> .own 1) (fun l=>[.own 141 2 (l.map zA),.own 141 2 (l.map zA)])
def clIntC:Con:=con1 (List Int) (fun _=>[.own 0]) (fun l=>[.own 3 1 (iE l)]) (fun l=>l.length≤1000000) (fun _=> .own 1) (fun l=>[.own 3 1 (iE l),.own 3 1 (iE l)])
def zUr (f:Nat):Con:=con1 (List (Value×List D)) (fun _=>[.mp 0]) (fun es=>[.map es]) (fun _=>True) (fun _=> .mp 1) (fun es=>[.map es,.map es])
def clAtC:Con:=zUr 0
def clWhC:Con:=zUr 1
@[reducible] def Arena.small (a:Arena):Prop:=a.slots.length≤1000000∧a.queues.length≤1000000
@[reducible] def Book.small (b:Book):Prop:=b.a.small∧b.buys.length≤1000000∧b.sells.length≤1000000∧b.spare.length≤1000000
@[reducible] def MSt.small (s:MSt):Prop:=s.books.length≤1000000∧∀b∈s.books,b.small
def copyAC:Con:=con1 Arena (fun _=>[.nm 0 0]) (fun a=>[qM a]) Arena.small (fun _=> .nm 1 0) (fun a=>[qM a,qM a])
def copyBC:Con:=con1 Book (fun _=>[.nm 0 0]) (fun b=>[z8 b]) Book.small (fun _=> .nm 1 0) (fun b=>[z8 b,z8 b])
def z2g:List SAnn:=[{ι:=Unit,slots:=fun _=>[],rows:=fun _=>[],un:=3}]
def copySC:Con:=con1 MSt (fun _=>[.nm 0 0]) (fun s=>[zT s]) MSt.small (fun _=> .nm 1 0) (fun s=>[zT s,zT s])
open Go Cv Go.Proofs
def zVu (n:Nat):Prop:=
 cnd (decide ((↑n:Int)<1)) (∃(o:Unit),False) (cnd (decide ((↑n:Int)>4096)) (∃(o:Unit),False) ((0≤(↑n:Int)∧(↑n:Int)≤(↑n:Int)∧(↑n:Int)≤9223372036854775807∧(↑(64:Nat):Int)*(↑n:Int)≤2 ^ (48:Nat))∧∃(o:Unit),(0:Int)=(0:Int)∧(↑n:Int)=(↑n:Int)∧List.map zL (List.replicate n slot0)=List.replicate (↑n:Int).toNat [D.v (.bool false),D.v (.int .i64 0),D.v (.int .i64 0),D.v (.int .i64 0),D.v (.bool false),D.v (.int .i64 0),D.v (.int .i64 0),D.v (.int .i64 0)]∧([]:List (List D))=[]∧True))
theorem z5s (hG:GOk Tryz.prog ([])) (h:∀(n:Nat),newAC.cnd n→zVu n):newAC.ok Tryz.prog 55:=okw mixed hG 0 (fun _=>[]) (fun _=>[]) [] Tryz.func55 h
def z7y (u:Unit):Prop:=
 ∃(i:Nat),(↑i:Int)=250∧(1≤i∧i≤4096)∧∀(o:Unit),True→∃(o:Unit),(0:Int)=(0:Int)∧(0:Int)=(0:Int)∧false=false∧false=false∧AObj.adt Arena 3 zC (tH 250)=AObj.adt Arena 3 zC (tH i)∧([]:List (List D))=[]∧([]:List (List D))=[]∧atE []=[]∧iE []=[]∧True
theorem z5q (hG:GOk Tryz.prog ([(55,newAC)])) (h:∀(u:Unit),newBC.cnd u→z7y u):newBC.ok Tryz.prog 23:=okw mixed hG 0 (fun _=>[]) (fun _=>[]) [] Tryz.func23 h
@[reducible] def zMg (p:Prd):AObj:=Sx.AObj.cells [V.d (D.v (Value.string (sb p.code))),V.own ((0:Nat)+(1:Nat)+(1:Nat)+(1:Nat)+((0:Nat)-(0:Nat))+(1:Nat)),V.d (D.v (.int .i64 p.tick)),V.d (D.v (.int .i64 p.low)),V.d (D.v (.int .i64 p.high)),V.d (D.v (.int .i64 p.wide)),V.d (D.v (.int .i64 p.rule)),V.d (D.v (.int .i64 p.top)),V.d (D.v (.int .i64 p.least)),V.d (D.v (.int .i64 p.part)),V.own ((0:Nat)+(1:Nat)+(1:Nat)+(1:Nat)+((0:Nat)-(0:Nat))+(1:Nat)+(1:Nat)+(1:Nat))] (25:Nat)
@[reducible] def pF (p:Prd):AObj:=Sx.AObj.cells [V.d (D.v (Value.string (sb p.code))),V.own ((0:Nat)+(1:Nat)+(1:Nat)+(1:Nat)+((0:Nat)-(0:Nat))+(1:Nat)+(1:Nat)),V.d (D.v (.int .i64 p.tick)),V.d (D.v (.int .i64 p.low)),V.d (D.v (.int .i64 p.high)),V.d (D.v (.int .i64 p.wide)),V.d (D.v (.int .i64 p.rule)),V.d (D.v (.int .i64 p.top)),V.d (D.v (.int .i64 p.least)),V.d (D.v (.int .i64 p.part)),V.own ((0:Nat)+(1:Nat)+(1:Nat)+(1:Nat)+((0:Nat)-(0:Nat))+(1:Nat)+(1:Nat)+(1:Nat))] (25:Nat)
def z1i (p:Prd):Prop:=
 ∃(i:Prd),sb i.code=sb p.code∧iE i.months=iE p.months∧i.tick=p.tick∧i.low=p.low∧i.high=p.high∧i.wide=p.wide∧i.rule=p.rule∧i.top=p.top∧i.least=p.least∧i.part=p.part∧iE i.settle=iE p.settle∧(i.code.length≤1099511627776∧i.months.length≤1099511627776∧i.settle.length≤1099511627776)∧∀(o:Unit),True→cnd (i.check !=0) ((∃(o:Unit),False)∨∃(o:Unit),True∧p.check=i.check∧(p.check=0→False)) ((True∧True∧((0+(iE p.months).length)*(8:Nat)≤(70368744177664:Nat)∧True∧True∧(0+(iE p.settle).length)*(8:Nat)≤(70368744177664:Nat)∧∃(i:Prd),sb i.code=sb p.code∧iE i.months=[]++iE p.months∧i.tick=p.tick∧i.low=p.low∧i.high=p.high∧i.wide=p.wide∧i.rule=p.rule∧i.top=p.top∧i.least=p.least∧i.part=p.part∧iE i.settle=[]++iE p.settle∧(i.code.length≤1099511627776∧i.months.length≤1099511627776∧i.settle.length≤1099511627776)∧∀(o:Unit),True→∃(i0:Nat),(↑i0:Int)=0∧sb p.code=sb p.code∧p.tick=p.tick∧p.low=p.low∧p.high=p.high∧p.wide=p.wide∧p.rule=p.rule∧p.top=p.top∧p.least=p.least∧p.part=p.part∧List.replicate i0 book0=[]∧(none:Option Nat)=none∧yC []=[]∧AObj.fro 1 (iE p.months)=AObj.fro 1 ([]++iE p.months)∧AObj.fro 1 (iE p.settle)=AObj.fro 1 ([]++iE p.settle)∧∃(I:Nat→Prop),∃(μ:Nat→Nat),I i0∧∀(i_1:Nat),I i_1→cnd (decide ((↑i_1:Int)<(↑i.count:Int))) (∃(i:Unit),True∧∀(o:Unit),True→True∧True∧∃(l1':List Book),AObj.objs 64 Book 6 zN (List.replicate i_1 book0) none=AObj.objs 64 Book 6 zN l1' none∧(l1'.length+1)*(8:Nat)≤(70368744177664:Nat)∧∃(i':Nat),(↑i':Int)=IntKind.i64.wrap ((↑i_1:Int)+1)∧sb p.code=sb p.code∧p.tick=p.tick∧p.low=p.low∧p.high=p.high∧p.wide=p.wide∧p.rule=p.rule∧p.top=p.top∧p.least=p.least∧p.part=p.part∧AObj.objs 64 Book 6 zN (List.replicate i' book0) none=AObj.objs 64 Book 6 zN (l1'++[book0]) none∧yC []=yC []∧AObj.fro 1 (iE p.months)=AObj.fro 1 (iE p.months)∧AObj.fro 1 (iE p.settle)=AObj.fro 1 (iE p.settle)∧I i'∧μ i'<μ i_1∧AObj.fro 1 ([]++iE p.settle)=AObj.fro 1 ([]++iE p.settle)∧AObj.fro 1 ([]++iE p.months)=AObj.fro 1 ([]++iE p.months)∧zMg p=zMg p∧AObj.fro 1 (iE p.settle)=AObj.fro 1 (iE p.settle)∧AObj.fro 1 (iE p.months)=AObj.fro 1 (iE p.months)) ((∃(o:Unit),(0:Int)=(0:Int)∧sb p.code=sb p.code∧p.tick=p.tick∧p.low=p.low∧p.high=p.high∧p.wide=p.wide∧p.rule=p.rule∧p.top=p.top∧p.least=p.least∧p.part=p.part∧AObj.objs 64 Book 6 zN (List.replicate p.count book0) none=AObj.objs 64 Book 6 zN (List.replicate i_1 book0) none∧yC []=yC []∧AObj.fro 1 (iE p.months)=AObj.fro 1 (iE p.months)∧AObj.fro 1 (iE p.settle)=AObj.fro 1 (iE p.settle)∧p.check=0)∨∃(o:Unit),False))∧True∧True∧(0+(iE p.months).length)*(8:Nat)≤(70368744177664:Nat)∧True∧(0+(iE p.settle).length)*(8:Nat)≤(70368744177664:Nat)∧∃(i:Prd),sb i.code=sb p.code∧iE i.months=[]++iE p.months∧i.tick=p.tick∧i.low=p.low∧i.high=p.high∧i.wide=p.wide∧i.rule=p.rule∧i.top=p.top∧i.least=p.least∧i.part=p.part∧iE i.settle=[]++iE p.settle∧(i.code.length≤1099511627776∧i.months.length≤1099511627776∧i.settle.length≤1099511627776)∧∀(o:Unit),True→∃(i0:Nat),(↑i0:Int)=0∧sb p.code=sb p.code∧p.tick=p.tick∧p.low=p.low∧p.high=p.high∧p.wide=p.wide∧p.rule=p.rule∧p.top=p.top∧p.least=p.least∧p.part=p.part∧List.replicate i0 book0=[]∧(none:Option Nat)=none∧yC []=[]∧AObj.fro 1 (iE p.months)=AObj.fro 1 ([]++iE p.months)∧AObj.fro 1 (iE p.settle)=AObj.fro 1 ([]++iE p.settle)∧∃(I:Nat→Prop),∃(μ:Nat→Nat),I i0∧∀(i_1:Nat),I i_1→cnd (decide ((↑i_1:Int)<(↑i.count:Int))) (∃(i:Unit),True∧∀(o:Unit),True→True∧True∧∃(l1':List Book),AObj.objs 64 Book 6 zN (List.replicate i_1 book0) none=AObj.objs 64 Book 6 zN l1' none∧(l1'.length+1)*(8:Nat)≤(70368744177664:Nat)∧∃(i':Nat),(↑i':Int)=IntKind.i64.wrap ((↑i_1:Int)+1)∧sb p.code=sb p.code∧p.tick=p.tick∧p.low=p.low∧p.high=p.high∧p.wide=p.wide∧p.rule=p.rule∧p.top=p.top∧p.least=p.least∧p.part=p.part∧AObj.objs 64 Book 6 zN (List.replicate i' book0) none=AObj.objs 64 Book 6 zN (l1'++[book0]) none∧yC []=yC []∧AObj.fro 1 (iE p.months)=AObj.fro 1 (iE p.months)∧AObj.fro 1 (iE p.settle)=AObj.fro 1 (iE p.settle)∧I i'∧μ i'<μ i_1∧AObj.fro 1 ([]++iE p.settle)=AObj.fro 1 ([]++iE p.settle)∧AObj.fro 1 ([]++iE p.months)=AObj.fro 1 ([]++iE p.months)∧pF p=pF p∧AObj.fro 1 (iE p.settle)=AObj.fro 1 (iE p.settle)∧AObj.fro 1 (iE p.months)=AObj.fro 1 (iE p.months)) ((∃(o:Unit),(0:Int)=(0:Int)∧sb p.code=sb p.code∧p.tick=p.tick∧p.low=p.low∧p.high=p.high∧p.wide=p.wide∧p.rule=p.rule∧p.top=p.top∧p.least=p.least∧p.part=p.part∧AObj.objs 64 Book 6 zN (List.replicate p.count book0) none=AObj.objs 64 Book 6 zN (List.replicate i_1 book0) none∧yC []=yC []∧AObj.fro 1 (iE p.months)=AObj.fro 1 (iE p.months)∧AObj.fro 1 (iE p.settle)=AObj.fro 1 (iE p.settle)∧p.check=0)∨∃(o:Unit),False))∧True∧True∧True∧True∧(0+(iE p.months).length)*(8:Nat)≤(70368744177664:Nat)∧True∧(0+(iE p.settle).length)*(8:Nat)≤(70368744177664:Nat)∧∃(i:Prd),sb i.code=sb p.code∧iE i.months=[]++iE p.months∧i.tick=p.tick∧i.low=p.low∧i.high=p.high∧i.wide=p.wide∧i.rule=p.rule∧i.top=p.top∧i.least=p.least∧i.part=p.part∧iE i.settle=[]++iE p.settle∧(i.code.length≤1099511627776∧i.months.length≤1099511627776∧i.settle.length≤1099511627776)∧∀(o:Unit),True→∃(i0:Nat),(↑i0:Int)=0∧sb p.code=sb p.code∧p.tick=p.tick∧p.low=p.low∧p.high=p.high∧p.wide=p.wide∧p.rule=p.rule∧p.top=p.top∧p.least=p.least∧p.part=p.part∧List.replicate i0 book0=[]∧(none:Option Nat)=none∧yC []=[]∧AObj.fro 1 (iE p.months)=AObj.fro 1 ([]++iE p.months)∧AObj.fro 1 (iE p.settle)=AObj.fro 1 ([]++iE p.settle)∧∃(I:Nat→Prop),∃(μ:Nat→Nat),I i0∧∀(i_1:Nat),I i_1→cnd (decide ((↑i_1:Int)<(↑i.count:Int))) (∃(i:Unit),True∧∀(o:Unit),True→True∧True∧∃(l1':List Book),AObj.objs 64 Book 6 zN (List.replicate i_1 book0) none=AObj.objs 64 Book 6 zN l1' none∧(l1'.length+1)*(8:Nat)≤(70368744177664:Nat)∧∃(i':Nat),(↑i':Int)=IntKind.i64.wrap ((↑i_1:Int)+1)∧sb p.code=sb p.code∧p.tick=p.tick∧p.low=p.low∧p.high=p.high∧p.wide=p.wide∧p.rule=p.rule∧p.top=p.top∧p.least=p.least∧p.part=p.part∧AObj.objs 64 Book 6 zN (List.replicate i' book0) none=AObj.objs 64 Book 6 zN (l1'++[book0]) none∧yC []=yC []∧AObj.fro 1 (iE p.months)=AObj.fro 1 (iE p.months)∧AObj.fro 1 (iE p.settle)=AObj.fro 1 (iE p.settle)∧I i'∧μ i'<μ i_1∧AObj.fro 1 ([]++iE p.settle)=AObj.fro 1 ([]++iE p.settle)∧AObj.fro 1 ([]++iE p.months)=AObj.fro 1 ([]++iE p.months)∧pF p=pF p∧AObj.fro 1 (iE p.settle)=AObj.fro 1 (iE p.settle)∧AObj.fro 1 (iE p.months)=AObj.fro 1 (iE p.months)) ((∃(o:Unit),(0:Int)=(0:Int)∧sb p.code=sb p.code∧p.tick=p.tick∧p.low=p.low∧p.high=p.high∧p.wide=p.wide∧p.rule=p.rule∧p.top=p.top∧p.least=p.least∧p.part=p.part∧AObj.objs 64 Book 6 zN (List.replicate p.count book0) none=AObj.objs 64 Book 6 zN (List.replicate i_1 book0) none∧yC []=yC []∧AObj.fro 1 (iE p.months)=AObj.fro 1 (iE p.months)∧AObj.fro 1 (iE p.settle)=AObj.fro 1 (iE p.settle)∧p.check=0)∨∃(o:Unit),False))
theorem z1y (hG:GOk Tryz.prog ([(21,checkC),(22,pcountC),(23,newBC)])) (h:∀(p:Prd),newSC.cnd p→z1i p):newSC.ok Tryz.prog 9:=okw mixed hG 0 (fun _=>[]) (fun p=>z6z p) [] Tryz.func9 h
def zZd (l:List Slot):Prop:=
 ∀(b:Bool),(b=true→List.map zL l=[])→cnd b (∃(o:Unit),List.map zL l=List.map zL l∧List.map zL l=[]∧True) ((0+(List.map zL l).length)*(64:Nat)≤(70368744177664:Nat)∧∃(o:Unit),List.map zL l=List.map zL l∧List.map zL l=[]++List.map zL l∧True)
theorem zVb (hG:GOk Tryz.prog ([])) (h:∀(l:List Slot),clSlotC.cnd l→zZd l):clSlotC.ok Tryz.prog 119:=okw mixed hG 0 (fun _=>[]) (fun _=>[]) [] Tryz.func119 h
def zVw (l:List qB):Prop:=
 ∀(b:Bool),(b=true→List.map zG l=[])→cnd b (∃(o:Unit),List.map zG l=List.map zG l∧List.map zG l=[]∧True) ((0+(List.map zG l).length)*(32:Nat)≤(70368744177664:Nat)∧∃(o:Unit),List.map zG l=List.map zG l∧List.map zG l=[]++List.map zG l∧True)
theorem zPj (hG:GOk Tryz.prog ([])) (h:∀(l:List qB),clQueueC.cnd l→zVw l):clQueueC.ok Tryz.prog 120:=okw mixed hG 0 (fun _=>[]) (fun _=>[]) [] Tryz.func120 h
def zYd (l:List yU):Prop:=
 ∀(b:Bool),(b=true→List.map zA l=[])→cnd b (∃(o:Unit),List.map zA l=List.map zA l∧List.map zA l=[]∧True) ((0+(List.map zA l).length)*(16:Nat)≤(70368744177664:Nat)∧∃(o:Unit),List.map zA l=List.map zA l∧List.map zA l=[]++List.map zA l∧True)
theorem zRq (hG:GOk Tryz.prog ([])) (h:∀(l:List yU),clRungC.cnd l→zYd l):clRungC.ok Tryz.prog 92:=okw mixed hG 0 (fun _=>[]) (fun _=>[]) [] Tryz.func92 h
def z5b (l:List Int):Prop:=
 ∀(b:Bool),(b=true→iE l=[])→cnd b (∃(o:Unit),iE l=iE l∧iE l=[]∧True) ((0+(iE l).length)*(8:Nat)≤(70368744177664:Nat)∧∃(o:Unit),iE l=iE l∧iE l=[]++iE l∧True)
theorem zYq (hG:GOk Tryz.prog ([])) (h:∀(l:List Int),clIntC.cnd l→z5b l):clIntC.ok Tryz.prog 91:=okw mixed hG 0 (fun _=>[]) (fun _=>[]) [] Tryz.func91 h
def zVg (es:List (Value×List D)):Prop:=
 ∃(i:List (Value×List D)),i=es∧True∧∀(o:Unit),True→∃(o:Unit),es=i∧es=i∧True
theorem z3v (es:List (Value×List D)):zVg es=walk Tryz.prog ([(88,vB 131)]) 0 ([]) ([]) [] Tryz.f90 (Tryz.f90.body.getD .skip) (clAtC.pat es) (clAtC.pre es) (clAtC.alts es):=by kernel_rfl
theorem z4k (hG:GOk Tryz.prog ([(88,vB 131)])) (h:∀(es:List (Value×List D)),clAtC.cnd es→zVg es):clAtC.ok Tryz.prog 90:=cN mixed ([(88,vB 131)]) hG 0 (fun(es:List (Value×List D))=>[]) (fun(es:List (Value×List D))=>[]) [] Tryz.func90 (by kernel_rfl) (by kernel_rfl) (by kernel_rfl) (fun _=>by kernel_rfl) (fun(es:List (Value×List D)) hc=>Eq.mp (z3v es) (h es hc))
def zVr (es:List (Value×List D)):Prop:=
 ∃(i:List (Value×List D)),i=es∧True∧∀(o:Unit),True→∃(o:Unit),es=i∧es=i∧True
theorem z4f (es:List (Value×List D)):zVr es=walk Tryz.prog ([(88,vB 59)]) 0 ([]) ([]) [] Tryz.f56 (Tryz.f56.body.getD .skip) (clWhC.pat es) (clWhC.pre es) (clWhC.alts es):=by kernel_rfl
theorem z3h (hG:GOk Tryz.prog ([(88,vB 59)])) (h:∀(es:List (Value×List D)),clWhC.cnd es→zVr es):clWhC.ok Tryz.prog 56:=cN mixed ([(88,vB 59)]) hG 0 (fun(es:List (Value×List D))=>[]) (fun(es:List (Value×List D))=>[]) [] Tryz.func56 (by kernel_rfl) (by kernel_rfl) (by kernel_rfl) (fun _=>by kernel_rfl) (fun(es:List (Value×List D)) hc=>Eq.mp (z4f es) (h es hc))
def z4l (a:Arena):Prop:=
 ∃(i:List Slot),List.map zL i=List.map zL a.slots∧i.length≤1000000∧∀(o:Unit),True→a.free=a.free∧True∧∃(i_1:List qB),List.map zG i_1=List.map zG a.queues∧i_1.length≤1000000∧∀(o:Unit),True→a.free=a.free∧∃(o:Unit),a.free=a.free∧List.map zL a.slots=List.map zL i∧List.map zG a.queues=List.map zG i_1∧a.free=a.free∧List.map zL a.slots=List.map zL i∧List.map zG a.queues=List.map zG i_1∧True
theorem zWt (hG:GOk Tryz.prog ([(119,clSlotC),(120,clQueueC)])) (h:∀(a:Arena),copyAC.cnd a→z4l a):copyAC.ok Tryz.prog 89:=okw mixed hG 0 (fun _=>[]) (fun _=>[]) [0] Tryz.func89 h
def z3u (b:Book):Prop:=
 ∃(i:Arena),AObj.adt Arena 3 zC i=AObj.adt Arena 3 zC b.a∧(i.slots.length≤1000000∧i.queues.length≤1000000)∧∀(o:Unit),True→True∧True∧∃(i_1:List (Value×List D)),i_1=atE b.at_∧True∧∀(o:Unit),True→True∧∃(i_2:List Int),iE i_2=iE b.spare∧i_2.length≤1000000∧∀(o:Unit),True→∃(i_3:List yU),List.map zA i_3=List.map zA b.buys∧i_3.length≤1000000∧∀(o:Unit),True→∃(i_4:List yU),List.map zA i_4=List.map zA b.sells∧i_4.length≤1000000∧∀(o:Unit),True→∃(o:Unit),b.top1=b.top1∧b.top2=b.top2∧b.has1=b.has1∧b.has2=b.has2∧AObj.adt Arena 3 zC b.a=AObj.adt Arena 3 zC i∧List.map zA b.buys=List.map zA i_3∧List.map zA b.sells=List.map zA i_4∧atE b.at_=i_1∧iE b.spare=iE i_2∧b.top1=b.top1∧b.top2=b.top2∧b.has1=b.has1∧b.has2=b.has2∧AObj.adt Arena 3 zC b.a=AObj.adt Arena 3 zC i∧List.map zA b.buys=List.map zA i_3∧List.map zA b.sells=List.map zA i_4∧atE b.at_=i_1∧iE b.spare=iE i_2∧True
theorem zXi (hG:GOk Tryz.prog ([(89,copyAC),(90,clAtC),(91,clIntC),(92,clRungC)])) (h:∀(b:Book),copyBC.cnd b→z3u b):copyBC.ok Tryz.prog 57:=okw mixed hG 0 (fun _=>[]) (fun _=>z2g) [0] Tryz.func57 h
open Go Cv Go.Proofs
theorem z7g (n:Nat) (h:newAC.cnd n):zVu n:=by
 obtain⟨h1,h2⟩:1≤n∧n≤4096:=h
 unfold zVu
 refine zS (fun c=>by omega) fun c=>zS (fun c=>by omega) fun c=> ?_
 refine⟨⟨by omega,by omega,by omega,?_⟩,?_⟩
 ·have:(2:Int) ^ (48:Nat)=281474976710656:=by decide
  rw[this];omega
 ·refine⟨(),rfl,rfl,?_,rfl,trivial⟩
  rw[List.map_replicate];rfl
theorem zXp:newAC.ok Tryz.prog 55:=z5s gok0 z7g
theorem z0r:newBC.ok Tryz.prog 23:=z5q (gokc zXp gok0) fun u _=>by
 refine⟨250,rfl,⟨by omega,by omega⟩,?_⟩;exact kp
theorem z8b (p:Prd) (h:newSC.cnd p):z1i p:=by
 have hs:p.small:=h
 obtain⟨h1,h2,h3⟩:p.small:=h
 refine⟨p,?_⟩
 simp only[yT]
 (repeat'(first|exact rfl|exact trivial|assumption|apply And.intro|refine fun(_:Unit) (_:True)=>?_|refine Exists.intro () ?_|omega|(dsimp only;omega)))
 refine Cv.cnd.mk (fun c=> .inr ⟨(),trivial,kp,by simpa using c⟩) fun c=> ?_
 have c:p.check=0:=by simpa using c
 have hc:=jJ p
 (repeat'(first|exact rfl|exact trivial|assumption|apply And.intro|refine fun(_:Unit) (_:True)=>?_|refine Exists.intro () ?_|omega|(dsimp only;omega)))
 all_goals(refine⟨p,?_⟩;(repeat'(first|exact rfl|exact trivial|assumption|apply And.intro|refine fun(_:Unit) (_:True)=>?_|refine Exists.intro () ?_|omega|(dsimp only;omega))))
 all_goals(refine⟨0,?_⟩;(repeat'(first|exact rfl|exact trivial|assumption|apply And.intro|refine fun(_:Unit) (_:True)=>?_|refine Exists.intro () ?_|omega|(dsimp only;omega))))
 all_goals(refine⟨fun j=>j≤p.count,fun j=>p.count-j,by omega,fun j hj=>zS (fun hlt=> ?_) (fun hlt=> ?_)⟩;all_goals dsimp only at hj hlt)
 all_goals first
  |(refine .inl ⟨(),?_⟩
    obtain rfl:j=p.count:=by omega
    (repeat'(first|exact rfl|exact trivial|assumption|apply And.intro|refine fun(_:Unit) (_:True)=>?_|refine Exists.intro () ?_|omega|(dsimp only;omega))))
  |(refine⟨(),trivial,fun _ _=>⟨trivial,trivial,List.replicate j book0,rfl,?_,j+1,?_⟩⟩
    ·rw[List.length_replicate];omega
    ·rw[w64 (by omega),← List.replicate_succ']
     (repeat'(first|exact rfl|exact trivial|assumption|apply And.intro|refine fun(_:Unit) (_:True)=>?_|refine Exists.intro () ?_|omega|(dsimp only;omega))))
theorem newS_ok:newSC.ok Tryz.prog 9:=z1y (gokc sZ (gokc uM (gokc z0r gok0))) z8b
theorem zOo:clSlotC.ok Tryz.prog 119:=zVb gok0 fun l h=>by
 have h:l.length≤1000000:=h
 exact fun b hb=>Cv.cnd.mk (fun e=>⟨(),rfl,hb e,trivial⟩) (fun _=>⟨by rw[Nat.zero_add,List.length_map];omega,(),rfl,rfl,trivial⟩)
theorem zHz:clQueueC.ok Tryz.prog 120:=zPj gok0 fun l h=>by
 have h:l.length≤1000000:=h
 exact fun b hb=>Cv.cnd.mk (fun e=>⟨(),rfl,hb e,trivial⟩) (fun _=>⟨by rw[Nat.zero_add,List.length_map];omega,(),rfl,rfl,trivial⟩)
theorem zPb:clRungC.ok Tryz.prog 92:=zRq gok0 fun l h=>by
 have h:l.length≤1000000:=h
 exact fun b hb=>Cv.cnd.mk (fun e=>⟨(),rfl,hb e,trivial⟩) (fun _=>⟨by rw[Nat.zero_add,List.length_map];omega,(),rfl,rfl,trivial⟩)
theorem zRx:clIntC.ok Tryz.prog 91:=zYq gok0 fun l h=>by
 have h:l.length≤1000000:=h
 exact fun b hb=>Cv.cnd.mk (fun e=>⟨(),rfl,hb e,trivial⟩) (fun _=>⟨by rw[Nat.zero_add,yT];omega,(),rfl,rfl,trivial⟩)
theorem zAc (t:Nat):(vB t).ok Tryz.prog 88:=zHh Tryz.func88 (by kernel_rfl) (by kernel_rfl) (by kernel_rfl) (by kernel_rfl) t
theorem zWw:clAtC.ok Tryz.prog 90:=z4k (gokc (zAc _) gok0) fun es _=>by
 unfold zVg
 refine⟨es,?_⟩;exact kp
theorem zWu:clWhC.ok Tryz.prog 56:=z3h (gokc (zAc _) gok0) fun es _=>by
 unfold zVr
 refine⟨es,?_⟩;exact kp
theorem zQu:copyAC.ok Tryz.prog 89:=zWt (gokc zOo (gokc zHz gok0)) fun a h=>by
 obtain⟨h1,h2⟩:a.small:=h
 refine⟨a.slots,?_⟩;(repeat'(first|exact rfl|exact trivial|assumption|apply And.intro|refine fun(_:Unit) (_:True)=>?_|refine Exists.intro () ?_|omega|(dsimp only;omega)))
 refine⟨a.queues,?_⟩;exact kp
theorem zRh:copyBC.ok Tryz.prog 57:=zXi (gokc zQu (gokc zWw (gokc zRx (gokc zPb gok0)))) fun b h=>by
 obtain⟨⟨h1,h1'⟩,h2,h3,h4⟩:b.small:=h
 refine⟨b.a,?_⟩;(repeat'(first|exact rfl|exact trivial|assumption|apply And.intro|refine fun(_:Unit) (_:True)=>?_|refine Exists.intro () ?_|omega|(dsimp only;omega)))
 refine⟨atE b.at_,?_⟩;(repeat'(first|exact rfl|exact trivial|assumption|apply And.intro|refine fun(_:Unit) (_:True)=>?_|refine Exists.intro () ?_|omega|(dsimp only;omega)))
 refine⟨b.spare,?_⟩;(repeat'(first|exact rfl|exact trivial|assumption|apply And.intro|refine fun(_:Unit) (_:True)=>?_|refine Exists.intro () ?_|omega|(dsimp only;omega)))
 refine⟨b.buys,?_⟩;(repeat'(first|exact rfl|exact trivial|assumption|apply And.intro|refine fun(_:Unit) (_:True)=>?_|refine Exists.intro () ?_|omega|(dsimp only;omega)))
 refine⟨b.sells,?_⟩;exact kp
open Go Cv Go.Proofs
structure ArN where
 a:Arena
 n:Int
def Arena.qAt (a:Arena) (n:Int):qB:=if 0≤n∧n<a.queues.length then a.queues.getD n.toNat ⟨0,0,0,0⟩else⟨0,0,0,0⟩
def atotalC:Con:=con1 ArN (fun i=>[.nm 0 0,zE i.n]) (fun i=>[qM i.a]) (fun i=>True) (fun i=>zE (i.a.qAt i.n).total) (fun i=>[qM i.a])
def acountC:Con:=con1 ArN (fun i=>[.nm 0 0,zE i.n]) (fun i=>[qM i.a]) (fun i=>True) (fun i=>zE (i.a.qAt i.n).count) (fun i=>[qM i.a])
def bisC:Con:=con1 Int (fun n=>[zE n]) (fun _=>[]) (fun _=>True) (fun n=>yJ (decide (n=1)||decide (n=2))) (fun _=>[])
structure BkR where
 b:Book
 r:yU
def Book.told (b:Book) (r:yU):Lv:=⟨r.price,(b.a.qAt r.queue).total,(b.a.qAt r.queue).count⟩
@[reducible] def Book.cntOk (b:Book):Prop:=∀q∈b.a.queues,yI q.count
def toldC:Con:=con1 BkR (fun i=>[.nm 0 0,.agg [zE i.r.price,zE i.r.queue]]) (fun i=>[z8 i.b]) (fun i=>i.b.cntOk) (fun i=>lvV (i.b.told i.r)) (fun i=>[z8 i.b])
def Book.best (b:Book) (l:List yU):Lv×Bool:=match l with
 |[]=>(⟨0,0,0⟩,false)
 |r::_=>(b.told r,true)
structure BkS where
 side:Bool
 b:Book
def Book.side (b:Book) (s:Bool):List yU:=if s then b.sells else b.buys
@[reducible] def zJd (b:Book) (l:List yU):V:= .tup [lvV (b.best l).1,yJ (b.best l).2]
def best1C:Con:=con1 Book (fun _=>[.nm 0 0,zE 1]) (fun b=>[z8 b]) Book.cntOk (fun b=>zJd b b.buys) (fun b=>[z8 b])
def best2C:Con:=con1 Book (fun _=>[.nm 0 0,zE 2]) (fun b=>[z8 b]) Book.cntOk (fun b=>zJd b b.sells) (fun b=>[z8 b])
def zB (s:Bool):Int:=if s then 2 else 1
def bestC:Con:=con1 BkS (fun i=>[.nm 0 0,zE (zB i.side)]) (fun i=>[z8 i.b]) (fun i=>i.b.cntOk) (fun i=>zJd i.b (i.b.side i.side)) (fun i=>[z8 i.b])
structure Top where
 has1:Bool
 has2:Bool
 p1:Int
 p2:Int
 q1:Int
 q2:Int
 deriving DecidableEq
def zQ (t:Top):List D:=[.v (.bool t.has1),.v (.bool t.has2),.v (.int .i64 t.p1),.v (.int .i64 t.p2),.v (.int .i64 t.q1),.v (.int .i64 t.q2)]
def top0:Top:=⟨false,false,0,0,0,0⟩
def Top.buy (t:Top) (x:Lv×Bool):Top:=if x.2 then{t with has1:=true,p1:=x.1.price,q1:=x.1.qty}else t
def Top.sell (t:Top) (x:Lv×Bool):Top:=if x.2 then{t with has2:=true,p2:=x.1.price,q2:=x.1.qty}else t
def Book.top (b:Book):Top:=(top0.buy (b.best b.buys)).sell (b.best b.sells)
def MSt.tops (s:MSt):List Top:=s.books.map Book.top
@[reducible] def MSt.cntOk (s:MSt):Prop:=s.books.length≤1000000∧∀b∈s.books,b.cntOk
def yG (s:MSt) (j:Nat) (x:Top):List Top:=(s.tops.take j)++x::List.replicate (s.books.length-j-1) top0
def kE (s:MSt) (j:Nat):List Top:=(s.tops.take j)++List.replicate (s.books.length-j) top0
def z7s (s:MSt):List SAnn:=[
 {ι:=Nat,slots:=fun j=>[(3,.own 0),(21,zE j)],rows:=fun j=>[.own 115 6 ((kE s j).map zQ)]},
 {ι:=Unit,slots:=fun _=>[],rows:=fun _=>[],un:=3}]
def z7l (s:MSt):List (Nat×SAnn):=[(15,{ι:=Nat×Top,slots:=fun x=>[(3,.own 0)],slots0:=fun x=>[(3,.own 0)],rows0:=fun x=>[.own 115 6 ((yG s x.1 x.2).map zQ)],rows:=fun x=>[.own 115 6 ((yG s x.1 x.2).map zQ)]})]
def z2c (s:MSt):List SAnn:=[{ι:=Nat,slots:=fun j=>[(3,.nm 0 0),(22,zE j)],rows:=fun j=>(List.range 5).map (z6 ⟨s.p,s.books.take j,s.wh⟩)}]
open Go Cv Go.Proofs
def zLx (i:ArN):Prop:=
 cnd (decide (i.n≥0)) (cnd (!decide (i.n<(↑(List.map zG i.a.queues).length:Int))) (∃(o:Unit),(i.a.qAt i.n).total=0∧i.a.free=i.a.free∧List.map zL i.a.slots=List.map zL i.a.slots∧List.map zG i.a.queues=List.map zG i.a.queues∧True) ((0≤i.n∧i.n<(↑(List.map zG i.a.queues).length:Int))∧∃(n:Int),zJ (List.map zG i.a.queues) i.n.toNat ((0:Nat)+(2:Nat)) 1=some [D.v (.int .i64 n)]∧∃(o:Unit),(i.a.qAt i.n).total=n∧i.a.free=i.a.free∧List.map zL i.a.slots=List.map zL i.a.slots∧List.map zG i.a.queues=List.map zG i.a.queues∧True)) (∃(o:Unit),(i.a.qAt i.n).total=0∧i.a.free=i.a.free∧List.map zL i.a.slots=List.map zL i.a.slots∧List.map zG i.a.queues=List.map zG i.a.queues∧True)
theorem zUq (hG:GOk Tryz.prog ([])) (h:∀(i:ArN),atotalC.cnd i→zLx i):atotalC.ok Tryz.prog 128:=okw mixed hG 1 (fun _=>[]) (fun _=>[]) [0] Tryz.func128 h
def zLz (i:ArN):Prop:=
 cnd (decide (i.n≥0)) (cnd (!decide (i.n<(↑(List.map zG i.a.queues).length:Int))) (∃(o:Unit),(i.a.qAt i.n).count=0∧i.a.free=i.a.free∧List.map zL i.a.slots=List.map zL i.a.slots∧List.map zG i.a.queues=List.map zG i.a.queues∧True) ((0≤i.n∧i.n<(↑(List.map zG i.a.queues).length:Int))∧∃(n:Int),zJ (List.map zG i.a.queues) i.n.toNat ((0:Nat)+(3:Nat)) 1=some [D.v (.int .i64 n)]∧∃(o:Unit),(i.a.qAt i.n).count=n∧i.a.free=i.a.free∧List.map zL i.a.slots=List.map zL i.a.slots∧List.map zG i.a.queues=List.map zG i.a.queues∧True)) (∃(o:Unit),(i.a.qAt i.n).count=0∧i.a.free=i.a.free∧List.map zL i.a.slots=List.map zL i.a.slots∧List.map zG i.a.queues=List.map zG i.a.queues∧True)
theorem zQn (hG:GOk Tryz.prog ([])) (h:∀(i:ArN),acountC.cnd i→zLz i):acountC.ok Tryz.prog 129:=okw mixed hG 1 (fun _=>[]) (fun _=>[]) [0] Tryz.func129 h
def z8i (n:Int):Prop:=
 cnd (n==1) (∃(o:Unit),(decide (n=1)||decide (n=2))=true∧True) (∃(o:Unit),(decide (n=1)||decide (n=2))=(n==2)∧True)
theorem z8m (hG:GOk Tryz.prog ([])) (h:∀(n:Int),bisC.cnd n→z8i n):bisC.ok Tryz.prog 59:=okw mixed hG 0 (fun _=>[]) (fun _=>[]) [] Tryz.func59 h
def z7w (i:BkR):Prop:=
 ∃(i_1:ArN),i_1.n=i.r.queue∧AObj.adt Arena 3 zC i_1.a=AObj.adt Arena 3 zC i.b.a∧True∧∀(o:Unit),True→i.r.queue=i.r.queue∧True∧i.r.price=i.r.price∧∃(i_2:ArN),i_2.n=i.r.queue∧AObj.adt Arena 3 zC i_2.a=AObj.adt Arena 3 zC i_1.a∧True∧∀(o:Unit),True→i.r.price=i.r.price∧∃(o:Unit),i.r.price=i.r.price∧(i.b.a.qAt i.r.queue).total=(i_1.a.qAt i_1.n).total∧(i.b.a.qAt i.r.queue).count=(i_2.a.qAt i_2.n).count∧i.b.top1=i.b.top1∧i.b.top2=i.b.top2∧i.b.has1=i.b.has1∧i.b.has2=i.b.has2∧AObj.adt Arena 3 zC i.b.a=AObj.adt Arena 3 zC i_2.a∧List.map zA i.b.buys=List.map zA i.b.buys∧List.map zA i.b.sells=List.map zA i.b.sells∧atE i.b.at_=atE i.b.at_∧iE i.b.spare=iE i.b.spare∧True
theorem z4b (hG:GOk Tryz.prog ([(128,atotalC),(129,acountC)])) (h:∀(i:BkR),toldC.cnd i→z7w i):toldC.ok Tryz.prog 103:=okw mixed hG 0 (fun _=>[]) (fun _=>[]) [0] Tryz.func103 h
def z2a (b:Book):Prop:=
 ∃(i:Int),i=1∧True∧∀(o:Unit),True→cnd (!(decide (i=1)||decide (i=2))) (∃(o:Unit),(b.best b.buys).fst.price=0∧(b.best b.buys).fst.qty=0∧(b.best b.buys).fst.count=0∧(b.best b.buys).snd=false∧b.top1=b.top1∧b.top2=b.top2∧b.has1=b.has1∧b.has2=b.has2∧AObj.adt Arena 3 zC b.a=AObj.adt Arena 3 zC b.a∧List.map zA b.buys=List.map zA b.buys∧List.map zA b.sells=List.map zA b.sells∧atE b.at_=atE b.at_∧iE b.spare=iE b.spare∧True) (cnd ((↑(List.map zA b.buys).length:Int)==0) (∃(o:Unit),(b.best b.buys).fst.price=0∧(b.best b.buys).fst.qty=0∧(b.best b.buys).fst.count=0∧(b.best b.buys).snd=false∧b.top1=b.top1∧b.top2=b.top2∧b.has1=b.has1∧b.has2=b.has2∧AObj.adt Arena 3 zC b.a=AObj.adt Arena 3 zC b.a∧List.map zA b.buys=List.map zA b.buys∧List.map zA b.sells=List.map zA b.sells∧atE b.at_=atE b.at_∧iE b.spare=iE b.spare∧True) (((0:Int)≤(0:Int)∧0<(↑(List.map zA b.buys).length:Int))∧∃(n:Int),∃(n_1:Int),zJ (List.map zA b.buys) (Int.toNat 0) 0 2=some [D.v (.int .i64 n),D.v (.int .i64 n_1)]∧∃(i:BkR),i.r.price=n∧i.r.queue=n_1∧i.b.top1=b.top1∧i.b.top2=b.top2∧i.b.has1=b.has1∧i.b.has2=b.has2∧AObj.adt Arena 3 zC i.b.a=AObj.adt Arena 3 zC b.a∧List.map zA i.b.buys=List.map zA b.buys∧List.map zA i.b.sells=List.map zA b.sells∧atE i.b.at_=atE b.at_∧iE i.b.spare=iE b.spare∧(∀(q:qB),q∈i.b.a.queues→(-9223372036854775808)≤q.count∧q.count≤9223372036854775807)∧∀(o:Unit),True→∃(o:Unit),(b.best b.buys).fst.price=i.r.price∧(b.best b.buys).fst.qty=(i.b.a.qAt i.r.queue).total∧(b.best b.buys).fst.count=(i.b.a.qAt i.r.queue).count∧(b.best b.buys).snd=true∧z8 b=z8 i.b∧True))
theorem zZw (hG:GOk Tryz.prog ([(59,bisC),(103,toldC)])) (h:∀(b:Book),best1C.cnd b→z2a b):best1C.ok Tryz.prog 66:=okw mixed hG 0 (fun _=>[]) (fun _=>[]) [0] Tryz.func66 h
def z2t (b:Book):Prop:=
 ∃(i:Int),i=2∧True∧∀(o:Unit),True→cnd (!(decide (i=1)||decide (i=2))) (∃(o:Unit),(b.best b.sells).fst.price=0∧(b.best b.sells).fst.qty=0∧(b.best b.sells).fst.count=0∧(b.best b.sells).snd=false∧b.top1=b.top1∧b.top2=b.top2∧b.has1=b.has1∧b.has2=b.has2∧AObj.adt Arena 3 zC b.a=AObj.adt Arena 3 zC b.a∧List.map zA b.buys=List.map zA b.buys∧List.map zA b.sells=List.map zA b.sells∧atE b.at_=atE b.at_∧iE b.spare=iE b.spare∧True) (cnd ((↑(List.map zA b.sells).length:Int)==0) (∃(o:Unit),(b.best b.sells).fst.price=0∧(b.best b.sells).fst.qty=0∧(b.best b.sells).fst.count=0∧(b.best b.sells).snd=false∧b.top1=b.top1∧b.top2=b.top2∧b.has1=b.has1∧b.has2=b.has2∧AObj.adt Arena 3 zC b.a=AObj.adt Arena 3 zC b.a∧List.map zA b.buys=List.map zA b.buys∧List.map zA b.sells=List.map zA b.sells∧atE b.at_=atE b.at_∧iE b.spare=iE b.spare∧True) (((0:Int)≤(0:Int)∧0<(↑(List.map zA b.sells).length:Int))∧∃(n:Int),∃(n_1:Int),zJ (List.map zA b.sells) (Int.toNat 0) 0 2=some [D.v (.int .i64 n),D.v (.int .i64 n_1)]∧∃(i:BkR),i.r.price=n∧i.r.queue=n_1∧i.b.top1=b.top1∧i.b.top2=b.top2∧i.b.has1=b.has1∧i.b.has2=b.has2∧AObj.adt Arena 3 zC i.b.a=AObj.adt Arena 3 zC b.a∧List.map zA i.b.buys=List.map zA b.buys∧List.map zA i.b.sells=List.map zA b.sells∧atE i.b.at_=atE b.at_∧iE i.b.spare=iE b.spare∧(∀(q:qB),q∈i.b.a.queues→(-9223372036854775808)≤q.count∧q.count≤9223372036854775807)∧∀(o:Unit),True→∃(o:Unit),(b.best b.sells).fst.price=i.r.price∧(b.best b.sells).fst.qty=(i.b.a.qAt i.r.queue).total∧(b.best b.sells).fst.count=(i.b.a.qAt i.r.queue).count∧(b.best b.sells).snd=true∧z8 b=z8 i.b∧True))
theorem z0v (hG:GOk Tryz.prog ([(59,bisC),(103,toldC)])) (h:∀(b:Book),best2C.cnd b→z2t b):best2C.ok Tryz.prog 66:=okw mixed hG 0 (fun _=>[]) (fun _=>[]) [0] Tryz.func66 h
@[reducible] def zHc (s:MSt):AObj:=Sx.AObj.cells (h9 (jA (0:Nat) (1:Nat) (5:Nat)) [sV s.p.code,V.own (3:Nat),zE s.p.tick,zE s.p.low,zE s.p.high,zE s.p.wide,zE s.p.rule,zE s.p.top,zE s.p.least,zE s.p.part,V.own (4:Nat),V.own (1:Nat),V.mp (2:Nat)]) (62:TypeId)
def z3w (s:MSt):Prop:=
 ∃(i:List (Value×List D)),i=yC s.wh∧True∧∀(o:Unit),True→(sb s.p.code=sb s.p.code∧True∧s.p.tick=s.p.tick∧s.p.low=s.p.low∧s.p.high=s.p.high∧s.p.wide=s.p.wide∧s.p.rule=s.p.rule∧s.p.top=s.p.top∧s.p.least=s.p.least∧s.p.part=s.p.part∧True∧True)∧∃(i0:Nat),(↑i0:Int)=0∧sb s.p.code=sb s.p.code∧s.p.tick=s.p.tick∧s.p.low=s.p.low∧s.p.high=s.p.high∧s.p.wide=s.p.wide∧s.p.rule=s.p.rule∧s.p.top=s.p.top∧s.p.least=s.p.least∧s.p.part=s.p.part∧List.take i0 s.books=[]∧(none:Option Nat)=none∧yC s.wh=i∧AObj.fro 1 (iE s.p.months)=AObj.fro 1 (iE s.p.months)∧AObj.fro 1 (iE s.p.settle)=AObj.fro 1 (iE s.p.settle)∧∃(I:Nat→Prop),∃(μ:Nat→Nat),I i0∧∀(i_1:Nat),I i_1→cnd (decide ((↑i_1:Int)<(↑s.books.length:Int))) ((0≤(↑i_1:Int)∧(↑i_1:Int)<(↑s.books.length:Int))∧(↑i_1:Int).toNat<s.books.length∧∃(x:Book),s.books[(↑i_1:Int).toNat]?=some x∧∃(i_2:Book),z8 i_2=z8 x∧((i_2.a.slots.length≤1000000∧i_2.a.queues.length≤1000000)∧i_2.buys.length≤1000000∧i_2.sells.length≤1000000∧i_2.spare.length≤1000000)∧∀(o:Unit),True→∃(x:Book),z8 i_2=z8 x∧(↑i_1:Int).toNat=(↑i_1:Int).toNat∧(↑i_1:Int).toNat<s.books.length∧True∧True∧∃(l1':List Book),AObj.objs 64 Book 6 zN (List.take i_1 s.books) none=AObj.objs 64 Book 6 zN l1' none∧(l1'.length+1)*(8:Nat)≤(70368744177664:Nat)∧∃(i':Nat),(↑i':Int)=IntKind.i64.wrap ((↑i_1:Int)+1)∧sb s.p.code=sb s.p.code∧s.p.tick=s.p.tick∧s.p.low=s.p.low∧s.p.high=s.p.high∧s.p.wide=s.p.wide∧s.p.rule=s.p.rule∧s.p.top=s.p.top∧s.p.least=s.p.least∧s.p.part=s.p.part∧AObj.objs 64 Book 6 zN (List.take i' s.books) none=AObj.objs 64 Book 6 zN (l1'++[i_2]) none∧yC s.wh=yC s.wh∧AObj.fro 1 (iE s.p.months)=AObj.fro 1 (iE s.p.months)∧AObj.fro 1 (iE s.p.settle)=AObj.fro 1 (iE s.p.settle)∧I i'∧μ i'<μ i_1∧Sx.AObj.map i=Sx.AObj.map i∧zHc s=zHc s∧AObj.objs 64 Book 6 zN (s.books.set (↑i_1:Int).toNat x) none=AObj.objs 64 Book 6 zN s.books none∧AObj.fro 1 (iE s.p.months)=AObj.fro 1 (iE s.p.months)∧AObj.fro 1 (iE s.p.settle)=AObj.fro 1 (iE s.p.settle)) (∃(o:Unit),sb s.p.code=sb s.p.code∧s.p.tick=s.p.tick∧s.p.low=s.p.low∧s.p.high=s.p.high∧s.p.wide=s.p.wide∧s.p.rule=s.p.rule∧s.p.top=s.p.top∧s.p.least=s.p.least∧s.p.part=s.p.part∧AObj.objs 64 Book 6 zN s.books none=AObj.objs 64 Book 6 zN s.books none∧yC s.wh=i∧AObj.fro 1 (iE s.p.months)=AObj.fro 1 (iE s.p.months)∧AObj.fro 1 (iE s.p.settle)=AObj.fro 1 (iE s.p.settle)∧sb s.p.code=sb s.p.code∧s.p.tick=s.p.tick∧s.p.low=s.p.low∧s.p.high=s.p.high∧s.p.wide=s.p.wide∧s.p.rule=s.p.rule∧s.p.top=s.p.top∧s.p.least=s.p.least∧s.p.part=s.p.part∧AObj.objs 64 Book 6 zN s.books none=AObj.objs 64 Book 6 zN (List.take i_1 s.books) none∧yC s.wh=yC s.wh∧AObj.fro 1 (iE s.p.months)=AObj.fro 1 (iE s.p.months)∧AObj.fro 1 (iE s.p.settle)=AObj.fro 1 (iE s.p.settle)∧True)
theorem zZf (hG:GOk Tryz.prog ([(56,clWhC),(57,copyBC)])) (h:∀(s:MSt),copySC.cnd s→z3w s):copySC.ok Tryz.prog 25:=okw mixed hG 0 (fun _=>[]) (fun s=>z2c s) [0] Tryz.func25 h
open Go Cv Go.Proofs
theorem elA {α:Type} {f:α→List D} {l:List α} {i g n:Nat} {x:α} {r:List D} (h:l[i]? =some x) (hn:g+n≤(f x).length) (hr:((f x).drop g).take n=r):zJ (l.map f) i g n=some r:=by
 unfold zJ
 rw[List.getElem?_map,h]
 simp only[Option.map_some,Nat.ble_eq_true_of_le hn,cond_true,hr]
theorem zDa {a:Arena} {n:Int} {q:qB} (h0:0≤n) (h:a.queues[n.toNat]? =some q):a.qAt n=q:=by
 have:=(List.getElem?_eq_some_iff.1 h).1
 rw[Arena.qAt,if_pos ⟨h0,by omega⟩,List.getD_eq_getElem?_getD,h];rfl
theorem pI {a:Arena} {n:Int} (h:¬(0≤n∧n<a.queues.length)):a.qAt n=⟨0,0,0,0⟩:=by rw[Arena.qAt,if_neg h]
theorem zOb:atotalC.ok Tryz.prog 128:=zUq gok0 fun i _=>by
 unfold zLx
 simp only[List.length_map]
 refine zS (fun c=>Cv.cnd.mk (fun d=> ?_) (fun d=> ?_)) (fun c=> ?_)
 ·have d:¬i.n<(i.a.queues.length:Int):=by simpa using d
  rw[pI (by omega)];exact kp
 ·have d:i.n<(i.a.queues.length:Int):=by simpa using d
  obtain⟨q,hq⟩:=z9 (l:=i.a.queues) (i:=i.n.toNat) (by omega)
  rw[zDa (by omega) hq]
  refine⟨⟨by omega,by omega⟩,q.total,elA hq (by simp[zG]) rfl,?_⟩;exact kp
 ·rw[pI (by omega)];exact kp
theorem mO:acountC.ok Tryz.prog 129:=zQn gok0 fun i _=>by
 unfold zLz
 simp only[List.length_map]
 refine zS (fun c=>Cv.cnd.mk (fun d=> ?_) (fun d=> ?_)) (fun c=> ?_)
 ·have d:¬i.n<(i.a.queues.length:Int):=by simpa using d
  rw[pI (by omega)];exact kp
 ·have d:i.n<(i.a.queues.length:Int):=by simpa using d
  obtain⟨q,hq⟩:=z9 (l:=i.a.queues) (i:=i.n.toNat) (by omega)
  rw[zDa (by omega) hq]
  refine⟨⟨by omega,by omega⟩,q.count,elA hq (by simp[zG]) rfl,?_⟩;exact kp
 ·rw[pI (by omega)];exact kp
theorem mS:bisC.ok Tryz.prog 59:=z8m gok0 fun n _=>by
 unfold z8i
 refine Cv.cnd.mk (fun c=>⟨(),?_,trivial⟩) (fun c=>⟨(),?_,trivial⟩)
 all_goals simp at c
 ·simp[c]
 ·by_cases h:n=2<;>simp[c,h]
theorem zNk:toldC.ok Tryz.prog 103:=z4b (gokc zOb (gokc mO gok0)) fun i h=>by
 refine⟨⟨i.b.a,i.r.queue⟩,?_⟩;(repeat'(first|exact rfl|exact trivial|assumption|apply And.intro|refine fun(_:Unit) (_:True)=>?_|refine Exists.intro () ?_|omega|(dsimp only;omega)))
 refine⟨⟨i.b.a,i.r.queue⟩,?_⟩;exact kp
theorem zRk:best1C.ok Tryz.prog 66:=zZw (gokc mS (gokc zNk gok0)) fun b h=>by
 have h:b.cntOk:=h
 refine⟨1,rfl,trivial,fun _ _=>Cv.cnd.mk (fun c=>absurd c (by decide)) fun _=> ?_⟩
 simp only[List.length_map]
 refine Cv.cnd.mk (fun c=> ?_) (fun c=> ?_)
 ·have hl:b.buys=[]:=List.eq_nil_of_length_eq_zero (by have:(b.buys.length:Int)=0:=(by simpa using c);omega)
  have e:b.best b.buys=(⟨0,0,0⟩,false):=by rw[hl];rfl
  rw[e];exact kp
 ·obtain⟨r,l,hl⟩:∃r l,b.buys=r::l:=by
   cases hb:b.buys with
   |nil=>rw[hb]at c;exact absurd c (by decide)
   |cons r l=>exact⟨r,l,rfl⟩
  have e:b.best b.buys=(b.told r,true):=by rw[hl];rfl
  rw[e]
  refine⟨⟨by omega,by rw[hl,List.length_cons];omega⟩,r.price,r.queue,elA (x:=r) (by rw[hl];rfl) (by simp[zA]) rfl,⟨b,r⟩,?_⟩
  exact kp
theorem zSk:best2C.ok Tryz.prog 66:=z0v (gokc mS (gokc zNk gok0)) fun b h=>by
 have h:b.cntOk:=h
 refine⟨2,rfl,trivial,fun _ _=>Cv.cnd.mk (fun c=>absurd c (by decide)) fun _=> ?_⟩
 simp only[List.length_map]
 refine Cv.cnd.mk (fun c=> ?_) (fun c=> ?_)
 ·have hl:b.sells=[]:=List.eq_nil_of_length_eq_zero (by have:(b.sells.length:Int)=0:=(by simpa using c);omega)
  have e:b.best b.sells=(⟨0,0,0⟩,false):=by rw[hl];rfl
  rw[e];exact kp
 ·obtain⟨r,l,hl⟩:∃r l,b.sells=r::l:=by
   cases hb:b.sells with
   |nil=>rw[hb]at c;exact absurd c (by decide)
   |cons r l=>exact⟨r,l,rfl⟩
  have e:b.best b.sells=(b.told r,true):=by rw[hl];rfl
  rw[e]
  refine⟨⟨by omega,by rw[hl,List.length_cons];omega⟩,r.price,r.queue,elA (x:=r) (by rw[hl];rfl) (by simp[zA]) rfl,⟨b,r⟩,?_⟩
  exact kp
theorem zCs:bestC.ok Tryz.prog 66:=fun i=>match i with
 |⟨false,b⟩=>zRk b
 |⟨true,b⟩=>zSk b
theorem sP {α:Type} (f:α→α) (x:α) (b:List α):∀a:List α,(a++x::b).modify a.length f=a++f x::b
 |[]=>rfl
 |y::a=>by
  show y::(a++x::b).modify a.length f=_
  rw[sP f x b a];rfl
theorem zAy {els:List (List D)} {a b:List (List D)} {x y ds:List D} {j f:Nat} (h:els=a++x::b) (hl:a.length=j) (hy:x.take f++(ds++x.drop (f+ds.length))=y):zK els j f ds=a++y::b:=by
 rw[zK,h,← hl,sP,hy]
theorem wG {s:MSt} {j:Nat} {x y:Top} {f:Nat} {ds:List D} (hj:j<s.books.length) (hy:(zQ x).take f++(ds++(zQ x).drop (f+ds.length))=zQ y):
 zK (List.map zQ (yG s j x)) j f ds=List.map zQ (yG s j y):=by
 rw[zAy (a:=(s.tops.take j).map zQ) (b:=(List.replicate (s.books.length-j-1) top0).map zQ) (by rw[yG,List.map_append,List.map_cons]) (by
  rw[List.length_map,List.length_take,MSt.tops,List.length_map];omega) hy,yG,List.map_append,List.map_cons]
theorem zIv {s:MSt} {j:Nat} {x:Top} (hj:j<s.books.length):(yG s j x).length=s.books.length:=by
 rw[yG,List.length_append,List.length_cons,List.length_take,MSt.tops,List.length_map,List.length_replicate];omega
theorem zFl {s:MSt} {j:Nat} (hj:j<s.books.length):yG s j top0=kE s j:=by
 rw[yG,kE]
 obtain⟨m,hm⟩:∃m,s.books.length-j=m+1:=⟨s.books.length-j-1,by omega⟩
 rw[hm,List.replicate_succ];rfl
theorem zDy {s:MSt} {j:Nat} {b:Book} (hb:s.books[j]? =some b):yG s j b.top=kE s (j+1):=by
 have hj:=(List.getElem?_eq_some_iff.1 hb).1
 rw[yG,kE,List.take_add_one,show s.tops[j]? =some b.top by rw[MSt.tops,List.getElem?_map,hb];rfl]
 simp only[Option.toList_some,List.append_assoc,List.cons_append,List.nil_append]
 rw[show s.books.length-j-1=s.books.length-(j+1)by omega]
theorem fN {α:Type} {l:List α} {j:Nat} {x:α} (h:l[j]? =some x):l.set j x=l:=by
 obtain⟨hj,rfl⟩:=List.getElem?_eq_some_iff.1 h
 exact List.set_getElem_self hj
theorem zTx:copySC.ok Tryz.prog 25:=zZf (gokc zWu (gokc zRh gok0)) fun s h=>by
 obtain⟨h1,h2⟩:s.small:=h
 refine⟨yC s.wh,?_⟩;(repeat'(first|exact rfl|exact trivial|assumption|apply And.intro|refine fun(_:Unit) (_:True)=>?_|refine Exists.intro () ?_|omega|(dsimp only;omega)))
 refine⟨0,?_⟩;(repeat'(first|exact rfl|exact trivial|assumption|apply And.intro|refine fun(_:Unit) (_:True)=>?_|refine Exists.intro () ?_|omega|(dsimp only;omega)))
 refine⟨fun j=>j≤s.books.length,fun j=>s.books.length-j,by omega,fun j hj=>zS (fun hlt=> ?_) (fun hlt=> ?_)⟩
 ·obtain⟨b,hb⟩:=z9 (l:=s.books) (i:=j) (by omega)
  have hs:=h2 b (List.mem_of_getElem? hb)
  simp only[Int.toNat_natCast]
  refine⟨⟨by omega,by omega⟩,by omega,b,hb,b,rfl,hs,fun _ _=>⟨b,rfl,kp,by omega,trivial,trivial,s.books.take j,rfl,?_,j+1,?_⟩⟩
  ·rw[List.length_take];omega
  ·rw[w64 (by omega),List.take_add_one,hb]
   (repeat'(first|exact rfl|exact trivial|assumption|apply And.intro|refine fun(_:Unit) (_:True)=>?_|refine Exists.intro () ?_|omega|(dsimp only;omega)))
   rw[fN hb]
 ·have hj:j≤s.books.length:=hj
  obtain rfl:j=s.books.length:=by omega
  rw[List.take_of_length_le (Nat.le_refl _)]
  exact kp
open Go Cv Go.Proofs
structure Leg where
 inst:Int
 side:Int
 deriving DecidableEq
structure Quote where
 price:Int
 qty:Int
 a:Leg
 b:Leg
 deriving DecidableEq
def zH (q:Quote):List D:=[.v (.int .i64 q.price),.v (.int .i64 q.qty),.v (.int .i64 q.a.inst),.v (.int .i64 q.a.side),.v (.int .i64 q.b.inst),.v (.int .i64 q.b.side)]
@[reducible] def zJk (q:Quote):V:= .agg [zE q.price,zE q.qty,zE q.a.inst,zE q.a.side,zE q.b.inst,zE q.b.side]
def z4p:Quote:=⟨0,0,⟨0,0⟩,⟨0,0⟩⟩
structure I3' where
 side:Int
 x:Int
 y:Int
def btr (side x y:Int):Bool:=if side=1 then decide (y<x)else decide (x<y)
def iotherC:Con:=con1 Int (fun n=>[zE n]) (fun _=>[]) (fun n=>n=1∨n=2) (fun n=>zE (3-n)) (fun _=>[])
def ibetterC:Con:=con1 I3' (fun i=>[zE i.side,zE i.x,zE i.y]) (fun _=>[]) (fun _=>True) (fun i=>yJ (btr i.side i.x i.y)) (fun _=>[])
structure CrI where
 x:Int
 y:Int
 b:Bool
def Top.has (t:Top) (s:Int):Bool:=if s=1 then t.has1 else t.has2
def Top.price (t:Top) (s:Int):Int:=if s=1 then t.p1 else t.p2
def Top.qty (t:Top) (s:Int):Int:=if s=1 then t.q1 else t.q2
def mkq (tops:List Top) (a b:Leg) (less:Bool):List Quote:=
 let x:=tops.getD a.inst.toNat top0
 let y:=tops.getD b.inst.toNat top0
 let r:=if less then kW (y.price b.side) (x.price a.side)else k8 (x.price a.side) (y.price b.side)
 if x.has a.side && y.has b.side && r.2 then[⟨r.1,min (x.qty a.side) (y.qty b.side),a,b⟩]else[]
structure MkI where
 tops:List Top
 out:List Quote
 a:Int
 b:Int
 less:Bool
@[reducible] def jC (l:List Top):Prop:=l.length≤1000000∧∀t∈l,yI t.p1∧yI t.p2
def MkU (x:List Top×List Quote):Nat→AObj
 |0=> .cells [.own 1,.own 2] 226
 |1=> .fro 6 (x.1.map zQ)
 |2=> .own 78 6 (x.2.map zH)
 |_=> .gone
@[reducible] def MkR (tops:List Top) (out:List Quote):List AObj:=[MkU (tops,out) 0,MkU (tops,out) 1,MkU (tops,out) 2]
@[reducible] def MkP (tops:List Top) (out:List Quote):List AObj:=[.cells [.own 1,.own 3] 226,MkU (tops,out) 1,.gone,MkU (tops,out) 2]
def mkC (sa sb:Int):Con:=con1 MkI (fun i=>[.nm 0 0,.agg [zE i.a,zE sa],.agg [zE i.b,zE sb],yJ i.less]) (fun i=>MkR i.tops i.out)
 (fun i=>0≤i.a∧i.a<i.tops.length∧0≤i.b∧i.b<i.tops.length∧jC i.tops∧i.out.length≤1000) (fun _=>zFs) (fun i=>MkP i.tops (i.out++mkq i.tops ⟨i.a,sa⟩ ⟨i.b,sb⟩ i.less))
def mk11:Con:=mkC 1 1
def mk12:Con:=mkC 1 2
def mk21:Con:=mkC 2 1
def mk22:Con:=mkC 2 2
open Go Cv Go.Proofs
def zYc (n:Int):Prop:=
 ∃(o:Unit),3-n=IntKind.i64.wrap (3-n)∧True
theorem zUa (hG:GOk Tryz.prog ([])) (h:∀(n:Int),iotherC.cnd n→zYc n):iotherC.ok Tryz.prog 125:=okw mixed hG 0 (fun _=>[]) (fun _=>[]) [] Tryz.func125 h
def zRu (i:I3'):Prop:=
 cnd (i.side==1) (∃(o:Unit),btr i.side i.x i.y=decide (i.x>i.y)∧True) (∃(o:Unit),btr i.side i.x i.y=decide (i.x<i.y)∧True)
theorem zPa (hG:GOk Tryz.prog ([])) (h:∀(i:I3'),ibetterC.cnd i→zRu i):ibetterC.ok Tryz.prog 101:=okw mixed hG 0 (fun _=>[]) (fun _=>[]) [] Tryz.func101 h
@[reducible] def zCv (i:MkI) (b:Bool) (n:Int) (n_2:Int) (n_4:Int) (n_6:Int):Prop:=∃(i_1:I2),i_1.x=n∧i_1.y=n_4∧(((-9223372036854775808)≤i_1.x∧i_1.x≤9223372036854775807)∧(-9223372036854775808)≤i_1.y∧i_1.y≤9223372036854775807)∧∀(o:Unit),True→cnd i.less (∃(i_2:I2),i_2.x=n_4∧i_2.y=n∧(((-9223372036854775808)≤i_2.x∧i_2.x≤9223372036854775807)∧(-9223372036854775808)≤i_2.y∧i_2.y≤9223372036854775807)∧∀(o:Unit),True→cnd (kW i_2.x i_2.y).snd (True∧((List.map zH i.out).length+1)*(48:Nat)≤(70368744177664:Nat)∧∃(o:Unit),AObj.fro 6 (List.map zQ i.tops)=MkU (i.tops,i.out) 1∧List.map zH (i.out++mkq i.tops (Leg.mk i.a 1) (Leg.mk i.b 1) i.less)=List.map zH i.out++[[D.v (.int .i64 (kW i_2.x i_2.y).fst),D.v (.int .i64 (min n_2 n_6)),D.v (.int .i64 i.a),D.v (.int .i64 1),D.v (.int .i64 i.b),D.v (.int .i64 1)]]∧True) (∃(o:Unit),AObj.fro 6 (List.map zQ i.tops)=MkU (i.tops,i.out) 1∧List.map zH (i.out++mkq i.tops (Leg.mk i.a 1) (Leg.mk i.b 1) i.less)=List.map zH i.out∧True)) (cnd (k8 i_1.x i_1.y).snd (True∧((List.map zH i.out).length+1)*(48:Nat)≤(70368744177664:Nat)∧∃(o:Unit),AObj.fro 6 (List.map zQ i.tops)=MkU (i.tops,i.out) 1∧List.map zH (i.out++mkq i.tops (Leg.mk i.a 1) (Leg.mk i.b 1) i.less)=List.map zH i.out++[[D.v (.int .i64 (k8 i_1.x i_1.y).fst),D.v (.int .i64 (min n_2 n_6)),D.v (.int .i64 i.a),D.v (.int .i64 1),D.v (.int .i64 i.b),D.v (.int .i64 1)]]∧True) (∃(o:Unit),AObj.fro 6 (List.map zQ i.tops)=MkU (i.tops,i.out) 1∧List.map zH (i.out++mkq i.tops (Leg.mk i.a 1) (Leg.mk i.b 1) i.less)=List.map zH i.out∧True))
@[reducible] def aB (i:MkI) (b:Bool):Prop:=∃(o:Unit),AObj.fro 6 (List.map zQ i.tops)=MkU (i.tops,i.out) 1∧List.map zH (i.out++mkq i.tops (Leg.mk i.a 1) (Leg.mk i.b 1) i.less)=List.map zH i.out∧True
def zVj (i:MkI):Prop:=
 (0≤i.a∧i.a<(↑(List.map zQ i.tops).length:Int))∧∃(b:Bool),∃(b_1:Bool),∃(n:Int),∃(n_1:Int),∃(n_2:Int),∃(n_3:Int),zJ (List.map zQ i.tops) i.a.toNat 0 6=some [D.v (.bool b),D.v (.bool b_1),D.v (.int .i64 n),D.v (.int .i64 n_1),D.v (.int .i64 n_2),D.v (.int .i64 n_3)]∧(0≤i.b∧i.b<(↑(List.map zQ i.tops).length:Int))∧∃(b_2:Bool),∃(b_3:Bool),∃(n_4:Int),∃(n_5:Int),∃(n_6:Int),∃(n_7:Int),zJ (List.map zQ i.tops) i.b.toNat 0 6=some [D.v (.bool b_2),D.v (.bool b_3),D.v (.int .i64 n_4),D.v (.int .i64 n_5),D.v (.int .i64 n_6),D.v (.int .i64 n_7)]∧(True∧((0≤i.b∧i.b<(↑(List.map zQ i.tops).length:Int))∧i.b.toNat=i.b.toNat)∧i.b=i.b∧True∧True∧((0≤i.a∧i.a<(↑(List.map zQ i.tops).length:Int))∧i.a.toNat=i.a.toNat)∧i.a=i.a∧True∧True∧((0≤i.b∧i.b<(↑(List.map zQ i.tops).length:Int))∧i.b.toNat=i.b.toNat)∧i.b=i.b∧True∧True∧((0≤i.a∧i.a<(↑(List.map zQ i.tops).length:Int))∧i.a.toNat=i.a.toNat)∧i.a=i.a∧True∧True∧((0≤i.b∧i.b<(↑(List.map zQ i.tops).length:Int))∧i.b.toNat=i.b.toNat)∧i.b=i.b∧True∧cnd (!b) (aB i b) (cnd (!b_2) (aB i b) (zCv i b n n_2 n_4 n_6)))∧True∧((0≤i.b∧i.b<(↑(List.map zQ i.tops).length:Int))∧i.b.toNat=i.b.toNat)∧i.b=i.b∧True∧True∧((0≤i.a∧i.a<(↑(List.map zQ i.tops).length:Int))∧i.a.toNat=i.a.toNat)∧i.a=i.a∧True∧True∧((0≤i.b∧i.b<(↑(List.map zQ i.tops).length:Int))∧i.b.toNat=i.b.toNat)∧i.b=i.b∧True∧True∧((0≤i.a∧i.a<(↑(List.map zQ i.tops).length:Int))∧i.a.toNat=i.a.toNat)∧i.a=i.a∧True∧True∧((0≤i.b∧i.b<(↑(List.map zQ i.tops).length:Int))∧i.b.toNat=i.b.toNat)∧i.b=i.b∧True∧cnd (!b) (aB i b) (cnd (!b_2) (aB i b) (zCv i b n n_2 n_4 n_6))
theorem z6p (hG:GOk Tryz.prog ([(142,addC),(143,subC)])) (h:∀(i:MkI),mk11.cnd i→zVj i):mk11.ok Tryz.prog 126:=okw mixed hG 0 (fun _=>[]) (fun _=>[]) [] Tryz.func126 h
@[reducible] def zDc (i:MkI) (b:Bool) (n:Int) (n_2:Int) (n_5:Int) (n_7:Int):Prop:=∃(i_1:I2),i_1.x=n∧i_1.y=n_5∧(((-9223372036854775808)≤i_1.x∧i_1.x≤9223372036854775807)∧(-9223372036854775808)≤i_1.y∧i_1.y≤9223372036854775807)∧∀(o:Unit),True→cnd i.less (∃(i_2:I2),i_2.x=n_5∧i_2.y=n∧(((-9223372036854775808)≤i_2.x∧i_2.x≤9223372036854775807)∧(-9223372036854775808)≤i_2.y∧i_2.y≤9223372036854775807)∧∀(o:Unit),True→cnd (kW i_2.x i_2.y).snd (True∧((List.map zH i.out).length+1)*(48:Nat)≤(70368744177664:Nat)∧∃(o:Unit),AObj.fro 6 (List.map zQ i.tops)=MkU (i.tops,i.out) 1∧List.map zH (i.out++mkq i.tops (Leg.mk i.a 1) (Leg.mk i.b 2) i.less)=List.map zH i.out++[[D.v (.int .i64 (kW i_2.x i_2.y).fst),D.v (.int .i64 (min n_2 n_7)),D.v (.int .i64 i.a),D.v (.int .i64 1),D.v (.int .i64 i.b),D.v (.int .i64 2)]]∧True) (∃(o:Unit),AObj.fro 6 (List.map zQ i.tops)=MkU (i.tops,i.out) 1∧List.map zH (i.out++mkq i.tops (Leg.mk i.a 1) (Leg.mk i.b 2) i.less)=List.map zH i.out∧True)) (cnd (k8 i_1.x i_1.y).snd (True∧((List.map zH i.out).length+1)*(48:Nat)≤(70368744177664:Nat)∧∃(o:Unit),AObj.fro 6 (List.map zQ i.tops)=MkU (i.tops,i.out) 1∧List.map zH (i.out++mkq i.tops (Leg.mk i.a 1) (Leg.mk i.b 2) i.less)=List.map zH i.out++[[D.v (.int .i64 (k8 i_1.x i_1.y).fst),D.v (.int .i64 (min n_2 n_7)),D.v (.int .i64 i.a),D.v (.int .i64 1),D.v (.int .i64 i.b),D.v (.int .i64 2)]]∧True) (∃(o:Unit),AObj.fro 6 (List.map zQ i.tops)=MkU (i.tops,i.out) 1∧List.map zH (i.out++mkq i.tops (Leg.mk i.a 1) (Leg.mk i.b 2) i.less)=List.map zH i.out∧True))
@[reducible] def b7 (i:MkI) (b:Bool):Prop:=∃(o:Unit),AObj.fro 6 (List.map zQ i.tops)=MkU (i.tops,i.out) 1∧List.map zH (i.out++mkq i.tops (Leg.mk i.a 1) (Leg.mk i.b 2) i.less)=List.map zH i.out∧True
def zUo (i:MkI):Prop:=
 (0≤i.a∧i.a<(↑(List.map zQ i.tops).length:Int))∧∃(b:Bool),∃(b_1:Bool),∃(n:Int),∃(n_1:Int),∃(n_2:Int),∃(n_3:Int),zJ (List.map zQ i.tops) i.a.toNat 0 6=some [D.v (.bool b),D.v (.bool b_1),D.v (.int .i64 n),D.v (.int .i64 n_1),D.v (.int .i64 n_2),D.v (.int .i64 n_3)]∧(0≤i.b∧i.b<(↑(List.map zQ i.tops).length:Int))∧∃(b_2:Bool),∃(b_3:Bool),∃(n_4:Int),∃(n_5:Int),∃(n_6:Int),∃(n_7:Int),zJ (List.map zQ i.tops) i.b.toNat 0 6=some [D.v (.bool b_2),D.v (.bool b_3),D.v (.int .i64 n_4),D.v (.int .i64 n_5),D.v (.int .i64 n_6),D.v (.int .i64 n_7)]∧(True∧((0≤i.b∧i.b<(↑(List.map zQ i.tops).length:Int))∧i.b.toNat=i.b.toNat)∧i.b=i.b∧True∧True∧((0≤i.a∧i.a<(↑(List.map zQ i.tops).length:Int))∧i.a.toNat=i.a.toNat)∧i.a=i.a∧True∧True∧((0≤i.b∧i.b<(↑(List.map zQ i.tops).length:Int))∧i.b.toNat=i.b.toNat)∧i.b=i.b∧True∧True∧((0≤i.a∧i.a<(↑(List.map zQ i.tops).length:Int))∧i.a.toNat=i.a.toNat)∧i.a=i.a∧True∧True∧((0≤i.b∧i.b<(↑(List.map zQ i.tops).length:Int))∧i.b.toNat=i.b.toNat)∧i.b=i.b∧True∧cnd (!b) (b7 i b) (cnd (!b_3) (b7 i b) (zDc i b n n_2 n_5 n_7)))∧True∧((0≤i.b∧i.b<(↑(List.map zQ i.tops).length:Int))∧i.b.toNat=i.b.toNat)∧i.b=i.b∧True∧True∧((0≤i.a∧i.a<(↑(List.map zQ i.tops).length:Int))∧i.a.toNat=i.a.toNat)∧i.a=i.a∧True∧True∧((0≤i.b∧i.b<(↑(List.map zQ i.tops).length:Int))∧i.b.toNat=i.b.toNat)∧i.b=i.b∧True∧True∧((0≤i.a∧i.a<(↑(List.map zQ i.tops).length:Int))∧i.a.toNat=i.a.toNat)∧i.a=i.a∧True∧True∧((0≤i.b∧i.b<(↑(List.map zQ i.tops).length:Int))∧i.b.toNat=i.b.toNat)∧i.b=i.b∧True∧cnd (!b) (b7 i b) (cnd (!b_3) (b7 i b) (zDc i b n n_2 n_5 n_7))
theorem z5o (hG:GOk Tryz.prog ([(142,addC),(143,subC)])) (h:∀(i:MkI),mk12.cnd i→zUo i):mk12.ok Tryz.prog 126:=okw mixed hG 0 (fun _=>[]) (fun _=>[]) [] Tryz.func126 h
@[reducible] def zBc (i:MkI) (b:Bool) (n:Int) (n_1:Int) (n_3:Int) (n_5:Int):Prop:=∃(i_1:I2),i_1.x=n_1∧i_1.y=n∧(((-9223372036854775808)≤i_1.x∧i_1.x≤9223372036854775807)∧(-9223372036854775808)≤i_1.y∧i_1.y≤9223372036854775807)∧∀(o:Unit),True→cnd i.less (∃(i_2:I2),i_2.x=n∧i_2.y=n_1∧(((-9223372036854775808)≤i_2.x∧i_2.x≤9223372036854775807)∧(-9223372036854775808)≤i_2.y∧i_2.y≤9223372036854775807)∧∀(o:Unit),True→cnd (kW i_2.x i_2.y).snd (True∧((List.map zH i.out).length+1)*(48:Nat)≤(70368744177664:Nat)∧∃(o:Unit),AObj.fro 6 (List.map zQ i.tops)=MkU (i.tops,i.out) 1∧List.map zH (i.out++mkq i.tops (Leg.mk i.a 2) (Leg.mk i.b 1) i.less)=List.map zH i.out++[[D.v (.int .i64 (kW i_2.x i_2.y).fst),D.v (.int .i64 (min n_3 n_5)),D.v (.int .i64 i.a),D.v (.int .i64 2),D.v (.int .i64 i.b),D.v (.int .i64 1)]]∧True) (∃(o:Unit),AObj.fro 6 (List.map zQ i.tops)=MkU (i.tops,i.out) 1∧List.map zH (i.out++mkq i.tops (Leg.mk i.a 2) (Leg.mk i.b 1) i.less)=List.map zH i.out∧True)) (cnd (k8 i_1.x i_1.y).snd (True∧((List.map zH i.out).length+1)*(48:Nat)≤(70368744177664:Nat)∧∃(o:Unit),AObj.fro 6 (List.map zQ i.tops)=MkU (i.tops,i.out) 1∧List.map zH (i.out++mkq i.tops (Leg.mk i.a 2) (Leg.mk i.b 1) i.less)=List.map zH i.out++[[D.v (.int .i64 (k8 i_1.x i_1.y).fst),D.v (.int .i64 (min n_3 n_5)),D.v (.int .i64 i.a),D.v (.int .i64 2),D.v (.int .i64 i.b),D.v (.int .i64 1)]]∧True) (∃(o:Unit),AObj.fro 6 (List.map zQ i.tops)=MkU (i.tops,i.out) 1∧List.map zH (i.out++mkq i.tops (Leg.mk i.a 2) (Leg.mk i.b 1) i.less)=List.map zH i.out∧True))
@[reducible] def a8 (i:MkI) (b:Bool):Prop:=∃(o:Unit),AObj.fro 6 (List.map zQ i.tops)=MkU (i.tops,i.out) 1∧List.map zH (i.out++mkq i.tops (Leg.mk i.a 2) (Leg.mk i.b 1) i.less)=List.map zH i.out∧True
def zQz (i:MkI):Prop:=
 (0≤i.a∧i.a<(↑(List.map zQ i.tops).length:Int))∧∃(b:Bool),∃(b_1:Bool),∃(n:Int),∃(n_1:Int),∃(n_2:Int),∃(n_3:Int),zJ (List.map zQ i.tops) i.a.toNat 0 6=some [D.v (.bool b),D.v (.bool b_1),D.v (.int .i64 n),D.v (.int .i64 n_1),D.v (.int .i64 n_2),D.v (.int .i64 n_3)]∧(0≤i.b∧i.b<(↑(List.map zQ i.tops).length:Int))∧∃(b:Bool),∃(b_2:Bool),∃(n:Int),∃(n_4:Int),∃(n_5:Int),∃(n_6:Int),zJ (List.map zQ i.tops) i.b.toNat 0 6=some [D.v (.bool b),D.v (.bool b_2),D.v (.int .i64 n),D.v (.int .i64 n_4),D.v (.int .i64 n_5),D.v (.int .i64 n_6)]∧(True∧((0≤i.b∧i.b<(↑(List.map zQ i.tops).length:Int))∧i.b.toNat=i.b.toNat)∧i.b=i.b∧True∧True∧((0≤i.a∧i.a<(↑(List.map zQ i.tops).length:Int))∧i.a.toNat=i.a.toNat)∧i.a=i.a∧True∧True∧((0≤i.b∧i.b<(↑(List.map zQ i.tops).length:Int))∧i.b.toNat=i.b.toNat)∧i.b=i.b∧True∧True∧((0≤i.a∧i.a<(↑(List.map zQ i.tops).length:Int))∧i.a.toNat=i.a.toNat)∧i.a=i.a∧True∧True∧((0≤i.b∧i.b<(↑(List.map zQ i.tops).length:Int))∧i.b.toNat=i.b.toNat)∧i.b=i.b∧True∧cnd (!b_1) (a8 i b) (cnd (!b) (a8 i b) (zBc i b n n_1 n_3 n_5)))∧True∧((0≤i.b∧i.b<(↑(List.map zQ i.tops).length:Int))∧i.b.toNat=i.b.toNat)∧i.b=i.b∧True∧True∧((0≤i.a∧i.a<(↑(List.map zQ i.tops).length:Int))∧i.a.toNat=i.a.toNat)∧i.a=i.a∧True∧True∧((0≤i.b∧i.b<(↑(List.map zQ i.tops).length:Int))∧i.b.toNat=i.b.toNat)∧i.b=i.b∧True∧True∧((0≤i.a∧i.a<(↑(List.map zQ i.tops).length:Int))∧i.a.toNat=i.a.toNat)∧i.a=i.a∧True∧True∧((0≤i.b∧i.b<(↑(List.map zQ i.tops).length:Int))∧i.b.toNat=i.b.toNat)∧i.b=i.b∧True∧cnd (!b_1) (a8 i b) (cnd (!b) (a8 i b) (zBc i b n n_1 n_3 n_5))
theorem z3i (hG:GOk Tryz.prog ([(142,addC),(143,subC)])) (h:∀(i:MkI),mk21.cnd i→zQz i):mk21.ok Tryz.prog 126:=okw mixed hG 0 (fun _=>[]) (fun _=>[]) [] Tryz.func126 h
@[reducible] def zCa (i:MkI) (b:Bool) (n_1:Int) (n_3:Int) (n_4:Int) (n_6:Int):Prop:=∃(i_1:I2),i_1.x=n_1∧i_1.y=n_4∧(((-9223372036854775808)≤i_1.x∧i_1.x≤9223372036854775807)∧(-9223372036854775808)≤i_1.y∧i_1.y≤9223372036854775807)∧∀(o:Unit),True→cnd i.less (∃(i_2:I2),i_2.x=n_4∧i_2.y=n_1∧(((-9223372036854775808)≤i_2.x∧i_2.x≤9223372036854775807)∧(-9223372036854775808)≤i_2.y∧i_2.y≤9223372036854775807)∧∀(o:Unit),True→cnd (kW i_2.x i_2.y).snd (True∧((List.map zH i.out).length+1)*(48:Nat)≤(70368744177664:Nat)∧∃(o:Unit),AObj.fro 6 (List.map zQ i.tops)=MkU (i.tops,i.out) 1∧List.map zH (i.out++mkq i.tops (Leg.mk i.a 2) (Leg.mk i.b 2) i.less)=List.map zH i.out++[[D.v (.int .i64 (kW i_2.x i_2.y).fst),D.v (.int .i64 (min n_3 n_6)),D.v (.int .i64 i.a),D.v (.int .i64 2),D.v (.int .i64 i.b),D.v (.int .i64 2)]]∧True) (∃(o:Unit),AObj.fro 6 (List.map zQ i.tops)=MkU (i.tops,i.out) 1∧List.map zH (i.out++mkq i.tops (Leg.mk i.a 2) (Leg.mk i.b 2) i.less)=List.map zH i.out∧True)) (cnd (k8 i_1.x i_1.y).snd (True∧((List.map zH i.out).length+1)*(48:Nat)≤(70368744177664:Nat)∧∃(o:Unit),AObj.fro 6 (List.map zQ i.tops)=MkU (i.tops,i.out) 1∧List.map zH (i.out++mkq i.tops (Leg.mk i.a 2) (Leg.mk i.b 2) i.less)=List.map zH i.out++[[D.v (.int .i64 (k8 i_1.x i_1.y).fst),D.v (.int .i64 (min n_3 n_6)),D.v (.int .i64 i.a),D.v (.int .i64 2),D.v (.int .i64 i.b),D.v (.int .i64 2)]]∧True) (∃(o:Unit),AObj.fro 6 (List.map zQ i.tops)=MkU (i.tops,i.out) 1∧List.map zH (i.out++mkq i.tops (Leg.mk i.a 2) (Leg.mk i.b 2) i.less)=List.map zH i.out∧True))
@[reducible] def aV (i:MkI) (b:Bool):Prop:=∃(o:Unit),AObj.fro 6 (List.map zQ i.tops)=MkU (i.tops,i.out) 1∧List.map zH (i.out++mkq i.tops (Leg.mk i.a 2) (Leg.mk i.b 2) i.less)=List.map zH i.out∧True
def zVl (i:MkI):Prop:=
 (0≤i.a∧i.a<(↑(List.map zQ i.tops).length:Int))∧∃(b:Bool),∃(b_1:Bool),∃(n:Int),∃(n_1:Int),∃(n_2:Int),∃(n_3:Int),zJ (List.map zQ i.tops) i.a.toNat 0 6=some [D.v (.bool b),D.v (.bool b_1),D.v (.int .i64 n),D.v (.int .i64 n_1),D.v (.int .i64 n_2),D.v (.int .i64 n_3)]∧(0≤i.b∧i.b<(↑(List.map zQ i.tops).length:Int))∧∃(b:Bool),∃(b_2:Bool),∃(n:Int),∃(n_4:Int),∃(n_5:Int),∃(n_6:Int),zJ (List.map zQ i.tops) i.b.toNat 0 6=some [D.v (.bool b),D.v (.bool b_2),D.v (.int .i64 n),D.v (.int .i64 n_4),D.v (.int .i64 n_5),D.v (.int .i64 n_6)]∧(True∧((0≤i.b∧i.b<(↑(List.map zQ i.tops).length:Int))∧i.b.toNat=i.b.toNat)∧i.b=i.b∧True∧True∧((0≤i.a∧i.a<(↑(List.map zQ i.tops).length:Int))∧i.a.toNat=i.a.toNat)∧i.a=i.a∧True∧True∧((0≤i.b∧i.b<(↑(List.map zQ i.tops).length:Int))∧i.b.toNat=i.b.toNat)∧i.b=i.b∧True∧True∧((0≤i.a∧i.a<(↑(List.map zQ i.tops).length:Int))∧i.a.toNat=i.a.toNat)∧i.a=i.a∧True∧True∧((0≤i.b∧i.b<(↑(List.map zQ i.tops).length:Int))∧i.b.toNat=i.b.toNat)∧i.b=i.b∧True∧cnd (!b_1) (aV i b) (cnd (!b_2) (aV i b) (zCa i b n_1 n_3 n_4 n_6)))∧True∧((0≤i.b∧i.b<(↑(List.map zQ i.tops).length:Int))∧i.b.toNat=i.b.toNat)∧i.b=i.b∧True∧True∧((0≤i.a∧i.a<(↑(List.map zQ i.tops).length:Int))∧i.a.toNat=i.a.toNat)∧i.a=i.a∧True∧True∧((0≤i.b∧i.b<(↑(List.map zQ i.tops).length:Int))∧i.b.toNat=i.b.toNat)∧i.b=i.b∧True∧True∧((0≤i.a∧i.a<(↑(List.map zQ i.tops).length:Int))∧i.a.toNat=i.a.toNat)∧i.a=i.a∧True∧True∧((0≤i.b∧i.b<(↑(List.map zQ i.tops).length:Int))∧i.b.toNat=i.b.toNat)∧i.b=i.b∧True∧cnd (!b_1) (aV i b) (cnd (!b_2) (aV i b) (zCa i b n_1 n_3 n_4 n_6))
theorem z3b (hG:GOk Tryz.prog ([(142,addC),(143,subC)])) (h:∀(i:MkI),mk22.cnd i→zVl i):mk22.ok Tryz.prog 126:=okw mixed hG 0 (fun _=>[]) (fun _=>[]) [] Tryz.func126 h
open Go Cv Go.Proofs
theorem zAi:iotherC.ok Tryz.prog 125:=zUa gok0 fun n h=>by
 have h:n=1∨n=2:=h
 refine⟨(),?_,trivial⟩
 rw[w64 (by omega)]
theorem zIj:ibetterC.ok Tryz.prog 101:=zPa gok0 fun i _=>by
 refine Cv.cnd.mk (fun e=>⟨(),?_,trivial⟩) (fun e=>⟨(),?_,trivial⟩)
 ·have e:i.side=1:=by simpa using e
  simp[btr,e]
 ·have e:i.side≠1:=by simpa using e
  simp[btr,e]
theorem zXs (a b:Int):(if b<a then b else a)=min a b:=by split<;>omega
theorem z6y (i:MkI) (h:mk11.cnd i):zVj i:=by
 obtain⟨a0,a1,b0,b1,⟨ht,hp⟩,ho⟩:0≤i.a∧i.a<i.tops.length∧0≤i.b∧i.b<i.tops.length∧jC i.tops∧i.out.length≤1000:=h
 obtain⟨x,hx⟩:=z9 (l:=i.tops) (i:=i.a.toNat) (by omega)
 obtain⟨y,hy⟩:=z9 (l:=i.tops) (i:=i.b.toNat) (by omega)
 obtain⟨⟨px1,px2⟩,px3,px4⟩:=hp x (List.mem_of_getElem? hx)
 obtain⟨⟨py1,py2⟩,py3,py4⟩:=hp y (List.mem_of_getElem? hy)
 have e0:mkq i.tops ⟨i.a,1⟩ ⟨i.b,1⟩ i.less=if x.has1 && y.has1 && (if i.less then kW y.p1 x.p1 else k8 x.p1 y.p1).2 then[⟨(if i.less then kW y.p1 x.p1 else k8 x.p1 y.p1).1,min x.q1 y.q1,⟨i.a,1⟩,⟨i.b,1⟩⟩]else[]:=by
  simp only[mkq,List.getD_eq_getElem?_getD,hx,hy,Option.getD_some];rfl
 unfold zVj zCv aB
 simp only[List.length_map]
 refine⟨⟨by omega,by omega⟩,x.has1,x.has2,x.p1,x.p2,x.q1,x.q2,elA hx (by simp[zQ]) rfl,⟨by omega,by omega⟩,y.has1,y.has2,y.p1,y.p2,y.q1,y.q2,elA hy (by simp[zQ]) rfl,?_⟩
 rw[e0]
 (repeat'(first|exact rfl|exact trivial|assumption|apply And.intro|refine fun(_:Unit) (_:True)=>?_|refine Exists.intro () ?_|omega|(dsimp only;omega)))
 all_goals
  refine Cv.cnd.mk (fun c1=> ?_) (fun c1=>Cv.cnd.mk (fun c2=> ?_) (fun c2=> ?_))
  ·have c1:x.has1=false:=by simpa using c1
   simp only[c1,Bool.false_and,Bool.false_eq_true,if_false,List.append_nil];exact kp
  ·have c2:y.has1=false:=by simpa using c2
   simp only[c2,Bool.and_false,Bool.false_and,Bool.false_eq_true,if_false,List.append_nil];exact kp
  ·have c1:x.has1=true:=by simpa using c1
   have c2:y.has1=true:=by simpa using c2
   simp only[c1,c2,Bool.true_and,zXs]
   refine⟨⟨x.p1,y.p1⟩,?_⟩
   (repeat'(first|exact rfl|exact trivial|assumption|apply And.intro|refine fun(_:Unit) (_:True)=>?_|refine Exists.intro () ?_|omega|(dsimp only;omega)))
   refine Cv.cnd.mk (fun c3=> ?_) (fun c3=> ?_)
   ·have c3:i.less=true:=c3
    simp only[c3,if_true]
    refine⟨⟨y.p1,x.p1⟩,?_⟩
    (repeat'(first|exact rfl|exact trivial|assumption|apply And.intro|refine fun(_:Unit) (_:True)=>?_|refine Exists.intro () ?_|omega|(dsimp only;omega)))
    refine Cv.cnd.mk (fun c4=> ?_) (fun c4=> ?_)
    ·have c4:(kW y.p1 x.p1).2=true:=c4
     simp only[c4,if_true,List.map_append];exact kp
    ·have c4:(kW y.p1 x.p1).2=false:=c4
     simp only[c4,Bool.false_eq_true,if_false,List.append_nil];exact kp
   ·have c3:i.less=false:=c3
    simp only[c3,Bool.false_eq_true,if_false]
    refine Cv.cnd.mk (fun c4=> ?_) (fun c4=> ?_)
    ·have c4:(k8 x.p1 y.p1).2=true:=c4
     simp only[c4,if_true,List.map_append];exact kp
    ·have c4:(k8 x.p1 y.p1).2=false:=c4
     simp only[c4,Bool.false_eq_true,if_false,List.append_nil];exact kp
theorem zYw:mk11.ok Tryz.prog 126:=z6p (gokc zCr (gokc zDh gok0)) z6y
theorem z8v (i:MkI) (h:mk12.cnd i):zUo i:=by
 obtain⟨a0,a1,b0,b1,⟨ht,hp⟩,ho⟩:0≤i.a∧i.a<i.tops.length∧0≤i.b∧i.b<i.tops.length∧jC i.tops∧i.out.length≤1000:=h
 obtain⟨x,hx⟩:=z9 (l:=i.tops) (i:=i.a.toNat) (by omega)
 obtain⟨y,hy⟩:=z9 (l:=i.tops) (i:=i.b.toNat) (by omega)
 obtain⟨⟨px1,px2⟩,px3,px4⟩:=hp x (List.mem_of_getElem? hx)
 obtain⟨⟨py1,py2⟩,py3,py4⟩:=hp y (List.mem_of_getElem? hy)
 have e0:mkq i.tops ⟨i.a,1⟩ ⟨i.b,2⟩ i.less=if x.has1 && y.has2 && (if i.less then kW y.p2 x.p1 else k8 x.p1 y.p2).2 then[⟨(if i.less then kW y.p2 x.p1 else k8 x.p1 y.p2).1,min x.q1 y.q2,⟨i.a,1⟩,⟨i.b,2⟩⟩]else[]:=by
  simp only[mkq,List.getD_eq_getElem?_getD,hx,hy,Option.getD_some];rfl
 unfold zUo zDc b7
 simp only[List.length_map]
 refine⟨⟨by omega,by omega⟩,x.has1,x.has2,x.p1,x.p2,x.q1,x.q2,elA hx (by simp[zQ]) rfl,⟨by omega,by omega⟩,y.has1,y.has2,y.p1,y.p2,y.q1,y.q2,elA hy (by simp[zQ]) rfl,?_⟩
 rw[e0]
 (repeat'(first|exact rfl|exact trivial|assumption|apply And.intro|refine fun(_:Unit) (_:True)=>?_|refine Exists.intro () ?_|omega|(dsimp only;omega)))
 all_goals
  refine Cv.cnd.mk (fun c1=> ?_) (fun c1=>Cv.cnd.mk (fun c2=> ?_) (fun c2=> ?_))
  ·have c1:x.has1=false:=by simpa using c1
   simp only[c1,Bool.false_and,Bool.false_eq_true,if_false,List.append_nil];exact kp
  ·have c2:y.has2=false:=by simpa using c2
   simp only[c2,Bool.and_false,Bool.false_and,Bool.false_eq_true,if_false,List.append_nil];exact kp
  ·have c1:x.has1=true:=by simpa using c1
   have c2:y.has2=true:=by simpa using c2
   simp only[c1,c2,Bool.true_and,zXs]
   refine⟨⟨x.p1,y.p2⟩,?_⟩
   (repeat'(first|exact rfl|exact trivial|assumption|apply And.intro|refine fun(_:Unit) (_:True)=>?_|refine Exists.intro () ?_|omega|(dsimp only;omega)))
   refine Cv.cnd.mk (fun c3=> ?_) (fun c3=> ?_)
   ·have c3:i.less=true:=c3
    simp only[c3,if_true]
    refine⟨⟨y.p2,x.p1⟩,?_⟩
    (repeat'(first|exact rfl|exact trivial|assumption|apply And.intro|refine fun(_:Unit) (_:True)=>?_|refine Exists.intro () ?_|omega|(dsimp only;omega)))
    refine Cv.cnd.mk (fun c4=> ?_) (fun c4=> ?_)
    ·have c4:(kW y.p2 x.p1).2=true:=c4
     simp only[c4,if_true,List.map_append];exact kp
    ·have c4:(kW y.p2 x.p1).2=false:=c4
     simp only[c4,Bool.false_eq_true,if_false,List.append_nil];exact kp
   ·have c3:i.less=false:=c3
    simp only[c3,Bool.false_eq_true,if_false]
    refine Cv.cnd.mk (fun c4=> ?_) (fun c4=> ?_)
    ·have c4:(k8 x.p1 y.p2).2=true:=c4
     simp only[c4,if_true,List.map_append];exact kp
    ·have c4:(k8 x.p1 y.p2).2=false:=c4
     simp only[c4,Bool.false_eq_true,if_false,List.append_nil];exact kp
theorem zXo:mk12.ok Tryz.prog 126:=z5o (gokc zCr (gokc zDh gok0)) z8v
theorem z8x (i:MkI) (h:mk21.cnd i):zQz i:=by
 obtain⟨a0,a1,b0,b1,⟨ht,hp⟩,ho⟩:0≤i.a∧i.a<i.tops.length∧0≤i.b∧i.b<i.tops.length∧jC i.tops∧i.out.length≤1000:=h
 obtain⟨x,hx⟩:=z9 (l:=i.tops) (i:=i.a.toNat) (by omega)
 obtain⟨y,hy⟩:=z9 (l:=i.tops) (i:=i.b.toNat) (by omega)
 obtain⟨⟨px1,px2⟩,px3,px4⟩:=hp x (List.mem_of_getElem? hx)
 obtain⟨⟨py1,py2⟩,py3,py4⟩:=hp y (List.mem_of_getElem? hy)
 have e0:mkq i.tops ⟨i.a,2⟩ ⟨i.b,1⟩ i.less=if x.has2 && y.has1 && (if i.less then kW y.p1 x.p2 else k8 x.p2 y.p1).2 then[⟨(if i.less then kW y.p1 x.p2 else k8 x.p2 y.p1).1,min x.q2 y.q1,⟨i.a,2⟩,⟨i.b,1⟩⟩]else[]:=by
  simp only[mkq,List.getD_eq_getElem?_getD,hx,hy,Option.getD_some];rfl
 unfold zQz zBc a8
 simp only[List.length_map]
 refine⟨⟨by omega,by omega⟩,x.has1,x.has2,x.p1,x.p2,x.q1,x.q2,elA hx (by simp[zQ]) rfl,⟨by omega,by omega⟩,y.has1,y.has2,y.p1,y.p2,y.q1,y.q2,elA hy (by simp[zQ]) rfl,?_⟩
 rw[e0]
 (repeat'(first|exact rfl|exact trivial|assumption|apply And.intro|refine fun(_:Unit) (_:True)=>?_|refine Exists.intro () ?_|omega|(dsimp only;omega)))
 all_goals
  refine Cv.cnd.mk (fun c1=> ?_) (fun c1=>Cv.cnd.mk (fun c2=> ?_) (fun c2=> ?_))
  ·have c1:x.has2=false:=by simpa using c1
   simp only[c1,Bool.false_and,Bool.false_eq_true,if_false,List.append_nil];exact kp
  ·have c2:y.has1=false:=by simpa using c2
   simp only[c2,Bool.and_false,Bool.false_and,Bool.false_eq_true,if_false,List.append_nil];exact kp
  ·have c1:x.has2=true:=by simpa using c1
   have c2:y.has1=true:=by simpa using c2
   simp only[c1,c2,Bool.true_and,zXs]
   refine⟨⟨x.p2,y.p1⟩,?_⟩
   (repeat'(first|exact rfl|exact trivial|assumption|apply And.intro|refine fun(_:Unit) (_:True)=>?_|refine Exists.intro () ?_|omega|(dsimp only;omega)))
   refine Cv.cnd.mk (fun c3=> ?_) (fun c3=> ?_)
   ·have c3:i.less=true:=c3
    simp only[c3,if_true]
    refine⟨⟨y.p1,x.p2⟩,?_⟩
    (repeat'(first|exact rfl|exact trivial|assumption|apply And.intro|refine fun(_:Unit) (_:True)=>?_|refine Exists.intro () ?_|omega|(dsimp only;omega)))
    refine Cv.cnd.mk (fun c4=> ?_) (fun c4=> ?_)
    ·have c4:(kW y.p1 x.p2).2=true:=c4
     simp only[c4,if_true,List.map_append];exact kp
    ·have c4:(kW y.p1 x.p2).2=false:=c4
     simp only[c4,Bool.false_eq_true,if_false,List.append_nil];exact kp
   ·have c3:i.less=false:=c3
    simp only[c3,Bool.false_eq_true,if_false]
    refine Cv.cnd.mk (fun c4=> ?_) (fun c4=> ?_)
    ·have c4:(k8 x.p2 y.p1).2=true:=c4
     simp only[c4,if_true,List.map_append];exact kp
    ·have c4:(k8 x.p2 y.p1).2=false:=c4
     simp only[c4,Bool.false_eq_true,if_false,List.append_nil];exact kp
theorem zXj:mk21.ok Tryz.prog 126:=z3i (gokc zCr (gokc zDh gok0)) z8x
theorem z7j (i:MkI) (h:mk22.cnd i):zVl i:=by
 obtain⟨a0,a1,b0,b1,⟨ht,hp⟩,ho⟩:0≤i.a∧i.a<i.tops.length∧0≤i.b∧i.b<i.tops.length∧jC i.tops∧i.out.length≤1000:=h
 obtain⟨x,hx⟩:=z9 (l:=i.tops) (i:=i.a.toNat) (by omega)
 obtain⟨y,hy⟩:=z9 (l:=i.tops) (i:=i.b.toNat) (by omega)
 obtain⟨⟨px1,px2⟩,px3,px4⟩:=hp x (List.mem_of_getElem? hx)
 obtain⟨⟨py1,py2⟩,py3,py4⟩:=hp y (List.mem_of_getElem? hy)
 have e0:mkq i.tops ⟨i.a,2⟩ ⟨i.b,2⟩ i.less=if x.has2 && y.has2 && (if i.less then kW y.p2 x.p2 else k8 x.p2 y.p2).2 then[⟨(if i.less then kW y.p2 x.p2 else k8 x.p2 y.p2).1,min x.q2 y.q2,⟨i.a,2⟩,⟨i.b,2⟩⟩]else[]:=by
  simp only[mkq,List.getD_eq_getElem?_getD,hx,hy,Option.getD_some];rfl
 unfold zVl zCa aV
 simp only[List.length_map]
 refine⟨⟨by omega,by omega⟩,x.has1,x.has2,x.p1,x.p2,x.q1,x.q2,elA hx (by simp[zQ]) rfl,⟨by omega,by omega⟩,y.has1,y.has2,y.p1,y.p2,y.q1,y.q2,elA hy (by simp[zQ]) rfl,?_⟩
 rw[e0]
 (repeat'(first|exact rfl|exact trivial|assumption|apply And.intro|refine fun(_:Unit) (_:True)=>?_|refine Exists.intro () ?_|omega|(dsimp only;omega)))
 all_goals
  refine Cv.cnd.mk (fun c1=> ?_) (fun c1=>Cv.cnd.mk (fun c2=> ?_) (fun c2=> ?_))
  ·have c1:x.has2=false:=by simpa using c1
   simp only[c1,Bool.false_and,Bool.false_eq_true,if_false,List.append_nil];exact kp
  ·have c2:y.has2=false:=by simpa using c2
   simp only[c2,Bool.and_false,Bool.false_and,Bool.false_eq_true,if_false,List.append_nil];exact kp
  ·have c1:x.has2=true:=by simpa using c1
   have c2:y.has2=true:=by simpa using c2
   simp only[c1,c2,Bool.true_and,zXs]
   refine⟨⟨x.p2,y.p2⟩,?_⟩
   (repeat'(first|exact rfl|exact trivial|assumption|apply And.intro|refine fun(_:Unit) (_:True)=>?_|refine Exists.intro () ?_|omega|(dsimp only;omega)))
   refine Cv.cnd.mk (fun c3=> ?_) (fun c3=> ?_)
   ·have c3:i.less=true:=c3
    simp only[c3,if_true]
    refine⟨⟨y.p2,x.p2⟩,?_⟩
    (repeat'(first|exact rfl|exact trivial|assumption|apply And.intro|refine fun(_:Unit) (_:True)=>?_|refine Exists.intro () ?_|omega|(dsimp only;omega)))
    refine Cv.cnd.mk (fun c4=> ?_) (fun c4=> ?_)
    ·have c4:(kW y.p2 x.p2).2=true:=c4
     simp only[c4,if_true,List.map_append];exact kp
    ·have c4:(kW y.p2 x.p2).2=false:=c4
     simp only[c4,Bool.false_eq_true,if_false,List.append_nil];exact kp
   ·have c3:i.less=false:=c3
    simp only[c3,Bool.false_eq_true,if_false]
    refine Cv.cnd.mk (fun c4=> ?_) (fun c4=> ?_)
    ·have c4:(k8 x.p2 y.p2).2=true:=c4
     simp only[c4,if_true,List.map_append];exact kp
    ·have c4:(k8 x.p2 y.p2).2=false:=c4
     simp only[c4,Bool.false_eq_true,if_false,List.append_nil];exact kp
theorem z0a:mk22.ok Tryz.prog 126:=z3b (gokc zCr (gokc zDh gok0)) z7j
open Go Cv Go.Proofs
structure MkJ where
 i:MkI
 sa:Bool
 sb:Bool
def mkAnyC:Con:=con1 MkJ (fun j=>[.nm 0 0,.agg [zE j.i.a,zE (zB j.sa)],.agg [zE j.i.b,zE (zB j.sb)],yJ j.i.less]) (fun j=>MkR j.i.tops j.i.out)
 (fun j=>0≤j.i.a∧j.i.a<j.i.tops.length∧0≤j.i.b∧j.i.b<j.i.tops.length∧jC j.i.tops∧j.i.out.length≤1000) (fun _=>zFs) (fun j=>MkP j.i.tops (j.i.out++mkq j.i.tops ⟨j.i.a,zB j.sa⟩ ⟨j.i.b,zB j.sb⟩ j.i.less))
theorem zEg:mkAnyC.ok Tryz.prog 126:=fun j=>match j with
 |⟨i,false,false⟩=>zYw i
 |⟨i,false,true⟩=>zXo i
 |⟨i,true,false⟩=>zXj i
 |⟨i,true,true⟩=>z0a i
structure uJ where
 p:Prd
 tops:List Top
 inst:Int
def y9 (i:uJ) (s:Int) (k:Nat):List Quote:=(List.range k).flatMap fun(k:Nat)=>mkq i.tops ⟨(i.p.spread i.inst (i.inst+1+k)).1,s⟩ ⟨i.inst+1+k,s⟩ false
def yY (i:uJ) (s:Int) (k:Nat):List Quote:=(List.range k).flatMap fun(k:Nat)=>mkq i.tops ⟨(i.p.spread k i.inst).1,3-s⟩ ⟨k,s⟩ true
def zW (i:uJ) (s:Int):List Quote:=mkq i.tops ⟨(i.p.legs i.inst).2.1,3-s⟩ ⟨(i.p.legs i.inst).1,s⟩ true
def xX (i:uJ) (s:Int) (q:Quote):Quote:={q with a:=⟨(i.p.legs i.inst).1,s⟩,b:=⟨(i.p.legs i.inst).2.1,3-s⟩}
def xF (i:uJ) (s:Int):List Quote:=
 if i.p.count=0∨(i.tops.length:Int)≠i.p.count∨i.inst<0∨(i.p.count:Int)≤i.inst then[]
 else if(i.p.legs i.inst).2.2 then(zW i s).map (xX i s)
 else y9 i s (i.p.months.length-(i.inst.toNat+1))++yY i s i.inst.toNat
def z1n (s:Int):Con:=con1 uJ (fun i=>[prdV i.p,roV 6 (i.tops.map zQ),zE i.inst,zE s]) (fun _=>[]) (fun i=>i.p.small∧jC i.tops) (fun _=> .own 0) (fun i=>[.own 78 6 ((xF i s).map zH)])
def all1C:Con:=z1n 1
def all2C:Con:=z1n 2
def z7x (i:uJ) (s:Int):List SAnn:=[
 {ι:=Nat,slots:=fun k=>[(10,.nm 0 0),(77,zE k)],rows:=fun k=>(List.range 3).map (MkU (i.tops,((zW i s).take k).map (xX i s)++(zW i s).drop k))},
 {ι:=Nat,slots:=fun k=>[(10,.nm 0 0),(17,zE (i.inst+1+k))],rows:=fun k=>MkR i.tops (y9 i s k)},
 {ι:=Nat,slots:=fun k=>[(10,.nm 0 0),(120,zE k)],rows:=fun k=>MkR i.tops (y9 i s (i.p.months.length-(i.inst.toNat+1))++yY i s k)}]
structure pB where
 i:uJ
 s:Bool
def allC:Con:=con1 pB (fun j=>[prdV j.i.p,roV 6 (j.i.tops.map zQ),zE j.i.inst,zE (zB j.s)]) (fun _=>[]) (fun j=>j.i.p.small∧jC j.i.tops) (fun _=> .own 0) (fun j=>[.own 78 6 ((xF j.i (zB j.s)).map zH)])
def xC (i:uJ) (s:Int):List Quote:=(xF i s).filter fun q=>decide (i.p.price i.inst q.price=0)
def quotesC:Con:=con1 pB (fun j=>[prdV j.i.p,roV 6 (j.i.tops.map zQ),zE j.i.inst,zE (zB j.s)]) (fun _=>[]) (fun j=>j.i.p.small∧jC j.i.tops) (fun _=> .own 0) (fun j=>[.own 78 6 ((xC j.i (zB j.s)).map zH)])
def zYo (j:pB):List SAnn:=[{ι:=Nat,slots:=fun k=>[(9,.own 0),(18,zE k)],rows:=fun k=>[.own 78 6 ((((xF j.i (zB j.s)).take k).filter fun q=>decide (j.i.p.price j.i.inst q.price=0)).map zH)]}]
structure BsI where
 l:List Quote
 s:Int
def zV (l:List Quote) (s:Int):Quote×Bool:=match l with
 |[]=>(z4p,false)
 |q::r=>(r.foldl (fun b q=>if btr s q.price b.price then q else b) q,true)
def bestQC:Con:=con1 BsI (fun i=>[roV 6 (i.l.map zH),zE i.s]) (fun _=>[]) (fun i=>(i.s=1∨i.s=2)∧i.l.length≤1000000) (fun i=> .tup [zJk (zV i.l i.s).1,yJ (zV i.l i.s).2]) (fun _=>[])
def z4q (i:BsI):List SAnn:=[{ι:=Nat,slots:=fun k=>[(6,.nm 0 0),(26,zE k)],rows:=fun k=>[.cells (zJk (zV (i.l.take (max k 1)) i.s).1).cl 78]}]
open Go Cv Go.Proofs
@[reducible] def zKr (i_2:hU) (i_3:Int):AObj:=Sx.AObj.cells [V.d (D.v (.int .i64 (i_2.p.legs i_2.n).snd.fst)),V.d (D.v (.int .i64 ((3:Int)-i_3)))] (75:Nat)
@[reducible] def zNl (i_2:hU):AObj:=Sx.AObj.cells [V.d (D.v (.int .i64 (i_2.p.legs i_2.n).fst)),V.d (D.v (.int .i64 1))] (75:Nat)
@[reducible] def dR (i:uJ):AObj:=Sx.AObj.cells [V.d (D.v (Value.string (sb i.p.code))),V.own (0:Nat),V.d (D.v (.int .i64 i.p.tick)),V.d (D.v (.int .i64 i.p.low)),V.d (D.v (.int .i64 i.p.high)),V.d (D.v (.int .i64 i.p.wide)),V.d (D.v (.int .i64 i.p.rule)),V.d (D.v (.int .i64 i.p.top)),V.d (D.v (.int .i64 i.p.least)),V.d (D.v (.int .i64 i.p.part)),V.own ((0:Nat)+(1:Nat))] (25:Nat)
def z1o (i:uJ):Prop:=
 ∃(i_1:Prd),sb i_1.code=sb i.p.code∧iE i_1.months=iE i.p.months∧i_1.tick=i.p.tick∧i_1.low=i.p.low∧i_1.high=i.p.high∧i_1.wide=i.p.wide∧i_1.rule=i.p.rule∧i_1.top=i.p.top∧i_1.least=i.p.least∧i_1.part=i.p.part∧iE i_1.settle=iE i.p.settle∧(i_1.code.length≤1099511627776∧i_1.months.length≤1099511627776∧i_1.settle.length≤1099511627776)∧∀(o:Unit),True→cnd ((↑i_1.count:Int)==0) (∃(o:Unit),List.map zH (xF i 1)=[]∧True) (cnd ((↑(List.map zQ i.tops).length:Int) !=(↑i_1.count:Int)) (∃(o:Unit),List.map zH (xF i 1)=[]∧True) (cnd (decide (i.inst<0)) (∃(o:Unit),List.map zH (xF i 1)=[]∧True) (cnd (decide (i.inst≥(↑i_1.count:Int))) (∃(o:Unit),List.map zH (xF i 1)=[]∧True) (∃(i_2:hU),sb i_2.p.code=sb i.p.code∧iE i_2.p.months=iE i.p.months∧i_2.p.tick=i.p.tick∧i_2.p.low=i.p.low∧i_2.p.high=i.p.high∧i_2.p.wide=i.p.wide∧i_2.p.rule=i.p.rule∧i_2.p.top=i.p.top∧i_2.p.least=i.p.least∧i_2.p.part=i.p.part∧iE i_2.p.settle=iE i.p.settle∧i_2.n=i.inst∧(i_2.p.code.length≤1099511627776∧i_2.p.months.length≤1099511627776∧i_2.p.settle.length≤1099511627776)∧∀(o:Unit),True→cnd (i_2.p.legs i_2.n).snd.snd (∃(i_3:Int),i_3=1∧(i_3=1∨i_3=2)∧∀(o:Unit),True→∃(i_4:MkJ),i_4.i.a=(i_2.p.legs i_2.n).snd.fst∧zB i_4.sa=3-i_3∧i_4.i.b=(i_2.p.legs i_2.n).fst∧zB i_4.sb=1∧i_4.i.less=true∧AObj.fro 6 (List.map zQ i_4.i.tops)=AObj.fro 6 (List.map zQ i.tops)∧List.map zH i_4.i.out=[]∧(0≤i_4.i.a∧i_4.i.a<(↑i_4.i.tops.length:Int)∧0≤i_4.i.b∧i_4.i.b<(↑i_4.i.tops.length:Int)∧(i_4.i.tops.length≤1000000∧∀(t:Top),t∈i_4.i.tops→((-9223372036854775808)≤t.p1∧t.p1≤9223372036854775807)∧(-9223372036854775808)≤t.p2∧t.p2≤9223372036854775807)∧i_4.i.out.length≤1000)∧∀(o:Unit),True→∃(i0:Nat),(↑i0:Int)=0∧AObj.fro 6 (List.map zQ i.tops)=AObj.fro 6 (List.map zQ i_4.i.tops)∧List.map zH (List.map (xX i 1) (List.take i0 (zW i 1))++List.drop i0 (zW i 1))=List.map zH (i_4.i.out++mkq i_4.i.tops (Leg.mk i_4.i.a (zB i_4.sa)) (Leg.mk i_4.i.b (zB i_4.sb)) i_4.i.less)∧∃(I:Nat→Prop),∃(μ:Nat→Nat),I i0∧∀(i_5:Nat),I i_5→cnd (decide ((↑i_5:Int)<(↑(List.map zH (i_4.i.out++mkq i_4.i.tops (Leg.mk i_4.i.a (zB i_4.sa)) (Leg.mk i_4.i.b (zB i_4.sb)) i_4.i.less)).length:Int))) ((0≤(↑i_5:Int)∧(↑i_5:Int)<(↑(List.map zH (List.map (xX i 1) (List.take i_5 (zW i 1))++List.drop i_5 (zW i 1))).length:Int))∧(↑i_5:Int).toNat<(List.map zH (List.map (xX i 1) (List.take i_5 (zW i 1))++List.drop i_5 (zW i 1))).length∧∃(i':Nat),(↑i':Int)=IntKind.i64.wrap ((↑i_5:Int)+1)∧AObj.fro 6 (List.map zQ i.tops)=AObj.fro 6 (List.map zQ i.tops)∧List.map zH (List.map (xX i 1) (List.take i' (zW i 1))++List.drop i' (zW i 1))=zK (List.map zH (List.map (xX i 1) (List.take i_5 (zW i 1))++List.drop i_5 (zW i 1))) (↑i_5:Int).toNat ((0:Nat)+(2:Nat)) [D.v (.int .i64 (i_2.p.legs i_2.n).fst),D.v (.int .i64 1),D.v (.int .i64 (i_2.p.legs i_2.n).snd.fst),D.v (.int .i64 (3-i_3))]∧I i'∧μ i'<μ i_5∧AObj.fro 6 (List.map zQ i_4.i.tops)=AObj.fro 6 (List.map zQ i_4.i.tops)∧zKr i_2 i_3=zKr i_2 i_3∧zNl i_2=zNl i_2∧AObj.fro 6 (List.map zQ i.tops)=AObj.fro 6 (List.map zQ i.tops)∧dR i=dR i∧AObj.fro 1 (iE i.p.settle)=AObj.fro 1 (iE i.p.settle)∧AObj.fro 1 (iE i.p.months)=AObj.fro 1 (iE i.p.months)) (∃(o:Unit),List.map zH (xF i 1)=List.map zH (List.map (xX i 1) (List.take i_5 (zW i 1))++List.drop i_5 (zW i 1))∧True)) (∃(i0:Nat),i.inst+1+(↑i0:Int)=IntKind.i64.wrap (i.inst+1)∧AObj.fro 6 (List.map zQ i.tops)=AObj.fro 6 (List.map zQ i.tops)∧List.map zH (y9 i 1 i0)=[]∧∃(I:Nat→Prop),∃(μ:Nat→Nat),I i0∧∀(i_3:Nat),I i_3→cnd (decide (i.inst+1+(↑i_3:Int)<(↑(iE i.p.months).length:Int))) (∃(i_4:dY),sb i_4.p.code=sb i.p.code∧iE i_4.p.months=iE i.p.months∧i_4.p.tick=i.p.tick∧i_4.p.low=i.p.low∧i_4.p.high=i.p.high∧i_4.p.wide=i.p.wide∧i_4.p.rule=i.p.rule∧i_4.p.top=i.p.top∧i_4.p.least=i.p.least∧i_4.p.part=i.p.part∧iE i_4.p.settle=iE i.p.settle∧i_4.a=i.inst∧i_4.b=i.inst+1+(↑i_3:Int)∧(i_4.p.code.length≤1099511627776∧i_4.p.months.length≤1099511627776∧i_4.p.settle.length≤1099511627776)∧∀(o:Unit),True→∃(i_5:MkJ),i_5.i.a=(i_4.p.spread i_4.a i_4.b).fst∧zB i_5.sa=1∧i_5.i.b=i.inst+1+(↑i_3:Int)∧zB i_5.sb=1∧i_5.i.less=false∧AObj.fro 6 (List.map zQ i_5.i.tops)=AObj.fro 6 (List.map zQ i.tops)∧List.map zH i_5.i.out=List.map zH (y9 i 1 i_3)∧(0≤i_5.i.a∧i_5.i.a<(↑i_5.i.tops.length:Int)∧0≤i_5.i.b∧i_5.i.b<(↑i_5.i.tops.length:Int)∧(i_5.i.tops.length≤1000000∧∀(t:Top),t∈i_5.i.tops→((-9223372036854775808)≤t.p1∧t.p1≤9223372036854775807)∧(-9223372036854775808)≤t.p2∧t.p2≤9223372036854775807)∧i_5.i.out.length≤1000)∧∀(o:Unit),True→∃(i':Nat),i.inst+1+(↑i':Int)=IntKind.i64.wrap (i.inst+1+(↑i_3:Int)+1)∧AObj.fro 6 (List.map zQ i.tops)=AObj.fro 6 (List.map zQ i_5.i.tops)∧List.map zH (y9 i 1 i')=List.map zH (i_5.i.out++mkq i_5.i.tops (Leg.mk i_5.i.a (zB i_5.sa)) (Leg.mk i_5.i.b (zB i_5.sb)) i_5.i.less)∧I i'∧μ i'<μ i_3∧AObj.fro 6 (List.map zQ i.tops)=AObj.fro 6 (List.map zQ i.tops)∧dR i=dR i∧AObj.fro 1 (iE i.p.settle)=AObj.fro 1 (iE i.p.settle)∧AObj.fro 1 (iE i.p.months)=AObj.fro 1 (iE i.p.months)) (∃(i0:Nat),(↑i0:Int)=0∧AObj.fro 6 (List.map zQ i.tops)=AObj.fro 6 (List.map zQ i.tops)∧List.map zH (y9 i 1 (i.p.months.length-(i.inst.toNat+1))++yY i 1 i0)=List.map zH (y9 i 1 i_3)∧∃(I:Nat→Prop),∃(μ:Nat→Nat),I i0∧∀(i_4:Nat),I i_4→cnd (decide ((↑i_4:Int)<i.inst)) (∃(i_5:dY),sb i_5.p.code=sb i.p.code∧iE i_5.p.months=iE i.p.months∧i_5.p.tick=i.p.tick∧i_5.p.low=i.p.low∧i_5.p.high=i.p.high∧i_5.p.wide=i.p.wide∧i_5.p.rule=i.p.rule∧i_5.p.top=i.p.top∧i_5.p.least=i.p.least∧i_5.p.part=i.p.part∧iE i_5.p.settle=iE i.p.settle∧i_5.a=(↑i_4:Int)∧i_5.b=i.inst∧(i_5.p.code.length≤1099511627776∧i_5.p.months.length≤1099511627776∧i_5.p.settle.length≤1099511627776)∧∀(o:Unit),True→∃(i_6:Int),i_6=1∧(i_6=1∨i_6=2)∧∀(o:Unit),True→∃(i_7:MkJ),i_7.i.a=(i_5.p.spread i_5.a i_5.b).fst∧zB i_7.sa=3-i_6∧i_7.i.b=(↑i_4:Int)∧zB i_7.sb=1∧i_7.i.less=true∧AObj.fro 6 (List.map zQ i_7.i.tops)=AObj.fro 6 (List.map zQ i.tops)∧List.map zH i_7.i.out=List.map zH (y9 i 1 (i.p.months.length-(i.inst.toNat+1))++yY i 1 i_4)∧(0≤i_7.i.a∧i_7.i.a<(↑i_7.i.tops.length:Int)∧0≤i_7.i.b∧i_7.i.b<(↑i_7.i.tops.length:Int)∧(i_7.i.tops.length≤1000000∧∀(t:Top),t∈i_7.i.tops→((-9223372036854775808)≤t.p1∧t.p1≤9223372036854775807)∧(-9223372036854775808)≤t.p2∧t.p2≤9223372036854775807)∧i_7.i.out.length≤1000)∧∀(o:Unit),True→∃(i':Nat),(↑i':Int)=IntKind.i64.wrap ((↑i_4:Int)+1)∧AObj.fro 6 (List.map zQ i.tops)=AObj.fro 6 (List.map zQ i_7.i.tops)∧List.map zH (y9 i 1 (i.p.months.length-(i.inst.toNat+1))++yY i 1 i')=List.map zH (i_7.i.out++mkq i_7.i.tops (Leg.mk i_7.i.a (zB i_7.sa)) (Leg.mk i_7.i.b (zB i_7.sb)) i_7.i.less)∧I i'∧μ i'<μ i_4∧AObj.fro 6 (List.map zQ i.tops)=AObj.fro 6 (List.map zQ i.tops)∧AObj.fro 6 (List.map zQ i.tops)=AObj.fro 6 (List.map zQ i.tops)∧dR i=dR i∧AObj.fro 1 (iE i.p.settle)=AObj.fro 1 (iE i.p.settle)∧AObj.fro 1 (iE i.p.months)=AObj.fro 1 (iE i.p.months)) (∃(o:Unit),List.map zH (xF i 1)=List.map zH (y9 i 1 (i.p.months.length-(i.inst.toNat+1))++yY i 1 i_4)∧True)))))))
theorem z5k (hG:GOk Tryz.prog ([(22,pcountC),(124,legsC),(127,spreadC),(125,iotherC),(126,mkAnyC)])) (h:∀(i:uJ),all1C.cnd i→z1o i):all1C.ok Tryz.prog 102:=okw mixed hG 0 (fun _=>[]) (fun i=>z7x i 1) [] Tryz.func102 h
@[reducible] def zMt (i_2:hU) (i_3:Int):AObj:=Sx.AObj.cells [V.d (D.v (.int .i64 (i_2.p.legs i_2.n).snd.fst)),V.d (D.v (.int .i64 ((3:Int)-i_3)))] (75:Nat)
@[reducible] def zLe (i_2:hU):AObj:=Sx.AObj.cells [V.d (D.v (.int .i64 (i_2.p.legs i_2.n).fst)),V.d (D.v (.int .i64 2))] (75:Nat)
@[reducible] def f9 (i:uJ):AObj:=Sx.AObj.cells [V.d (D.v (Value.string (sb i.p.code))),V.own (0:Nat),V.d (D.v (.int .i64 i.p.tick)),V.d (D.v (.int .i64 i.p.low)),V.d (D.v (.int .i64 i.p.high)),V.d (D.v (.int .i64 i.p.wide)),V.d (D.v (.int .i64 i.p.rule)),V.d (D.v (.int .i64 i.p.top)),V.d (D.v (.int .i64 i.p.least)),V.d (D.v (.int .i64 i.p.part)),V.own ((0:Nat)+(1:Nat))] (25:Nat)
def z1g (i:uJ):Prop:=
 ∃(i_1:Prd),sb i_1.code=sb i.p.code∧iE i_1.months=iE i.p.months∧i_1.tick=i.p.tick∧i_1.low=i.p.low∧i_1.high=i.p.high∧i_1.wide=i.p.wide∧i_1.rule=i.p.rule∧i_1.top=i.p.top∧i_1.least=i.p.least∧i_1.part=i.p.part∧iE i_1.settle=iE i.p.settle∧(i_1.code.length≤1099511627776∧i_1.months.length≤1099511627776∧i_1.settle.length≤1099511627776)∧∀(o:Unit),True→cnd ((↑i_1.count:Int)==0) (∃(o:Unit),List.map zH (xF i 2)=[]∧True) (cnd ((↑(List.map zQ i.tops).length:Int) !=(↑i_1.count:Int)) (∃(o:Unit),List.map zH (xF i 2)=[]∧True) (cnd (decide (i.inst<0)) (∃(o:Unit),List.map zH (xF i 2)=[]∧True) (cnd (decide (i.inst≥(↑i_1.count:Int))) (∃(o:Unit),List.map zH (xF i 2)=[]∧True) (∃(i_2:hU),sb i_2.p.code=sb i.p.code∧iE i_2.p.months=iE i.p.months∧i_2.p.tick=i.p.tick∧i_2.p.low=i.p.low∧i_2.p.high=i.p.high∧i_2.p.wide=i.p.wide∧i_2.p.rule=i.p.rule∧i_2.p.top=i.p.top∧i_2.p.least=i.p.least∧i_2.p.part=i.p.part∧iE i_2.p.settle=iE i.p.settle∧i_2.n=i.inst∧(i_2.p.code.length≤1099511627776∧i_2.p.months.length≤1099511627776∧i_2.p.settle.length≤1099511627776)∧∀(o:Unit),True→cnd (i_2.p.legs i_2.n).snd.snd (∃(i_3:Int),i_3=2∧(i_3=1∨i_3=2)∧∀(o:Unit),True→∃(i_4:MkJ),i_4.i.a=(i_2.p.legs i_2.n).snd.fst∧zB i_4.sa=3-i_3∧i_4.i.b=(i_2.p.legs i_2.n).fst∧zB i_4.sb=2∧i_4.i.less=true∧AObj.fro 6 (List.map zQ i_4.i.tops)=AObj.fro 6 (List.map zQ i.tops)∧List.map zH i_4.i.out=[]∧(0≤i_4.i.a∧i_4.i.a<(↑i_4.i.tops.length:Int)∧0≤i_4.i.b∧i_4.i.b<(↑i_4.i.tops.length:Int)∧(i_4.i.tops.length≤1000000∧∀(t:Top),t∈i_4.i.tops→((-9223372036854775808)≤t.p1∧t.p1≤9223372036854775807)∧(-9223372036854775808)≤t.p2∧t.p2≤9223372036854775807)∧i_4.i.out.length≤1000)∧∀(o:Unit),True→∃(i0:Nat),(↑i0:Int)=0∧AObj.fro 6 (List.map zQ i.tops)=AObj.fro 6 (List.map zQ i_4.i.tops)∧List.map zH (List.map (xX i 2) (List.take i0 (zW i 2))++List.drop i0 (zW i 2))=List.map zH (i_4.i.out++mkq i_4.i.tops (Leg.mk i_4.i.a (zB i_4.sa)) (Leg.mk i_4.i.b (zB i_4.sb)) i_4.i.less)∧∃(I:Nat→Prop),∃(μ:Nat→Nat),I i0∧∀(i_5:Nat),I i_5→cnd (decide ((↑i_5:Int)<(↑(List.map zH (i_4.i.out++mkq i_4.i.tops (Leg.mk i_4.i.a (zB i_4.sa)) (Leg.mk i_4.i.b (zB i_4.sb)) i_4.i.less)).length:Int))) ((0≤(↑i_5:Int)∧(↑i_5:Int)<(↑(List.map zH (List.map (xX i 2) (List.take i_5 (zW i 2))++List.drop i_5 (zW i 2))).length:Int))∧(↑i_5:Int).toNat<(List.map zH (List.map (xX i 2) (List.take i_5 (zW i 2))++List.drop i_5 (zW i 2))).length∧∃(i':Nat),(↑i':Int)=IntKind.i64.wrap ((↑i_5:Int)+1)∧AObj.fro 6 (List.map zQ i.tops)=AObj.fro 6 (List.map zQ i.tops)∧List.map zH (List.map (xX i 2) (List.take i' (zW i 2))++List.drop i' (zW i 2))=zK (List.map zH (List.map (xX i 2) (List.take i_5 (zW i 2))++List.drop i_5 (zW i 2))) (↑i_5:Int).toNat ((0:Nat)+(2:Nat)) [D.v (.int .i64 (i_2.p.legs i_2.n).fst),D.v (.int .i64 2),D.v (.int .i64 (i_2.p.legs i_2.n).snd.fst),D.v (.int .i64 (3-i_3))]∧I i'∧μ i'<μ i_5∧AObj.fro 6 (List.map zQ i_4.i.tops)=AObj.fro 6 (List.map zQ i_4.i.tops)∧zMt i_2 i_3=zMt i_2 i_3∧zLe i_2=zLe i_2∧AObj.fro 6 (List.map zQ i.tops)=AObj.fro 6 (List.map zQ i.tops)∧f9 i=f9 i∧AObj.fro 1 (iE i.p.settle)=AObj.fro 1 (iE i.p.settle)∧AObj.fro 1 (iE i.p.months)=AObj.fro 1 (iE i.p.months)) (∃(o:Unit),List.map zH (xF i 2)=List.map zH (List.map (xX i 2) (List.take i_5 (zW i 2))++List.drop i_5 (zW i 2))∧True)) (∃(i0:Nat),i.inst+1+(↑i0:Int)=IntKind.i64.wrap (i.inst+1)∧AObj.fro 6 (List.map zQ i.tops)=AObj.fro 6 (List.map zQ i.tops)∧List.map zH (y9 i 2 i0)=[]∧∃(I:Nat→Prop),∃(μ:Nat→Nat),I i0∧∀(i_3:Nat),I i_3→cnd (decide (i.inst+1+(↑i_3:Int)<(↑(iE i.p.months).length:Int))) (∃(i_4:dY),sb i_4.p.code=sb i.p.code∧iE i_4.p.months=iE i.p.months∧i_4.p.tick=i.p.tick∧i_4.p.low=i.p.low∧i_4.p.high=i.p.high∧i_4.p.wide=i.p.wide∧i_4.p.rule=i.p.rule∧i_4.p.top=i.p.top∧i_4.p.least=i.p.least∧i_4.p.part=i.p.part∧iE i_4.p.settle=iE i.p.settle∧i_4.a=i.inst∧i_4.b=i.inst+1+(↑i_3:Int)∧(i_4.p.code.length≤1099511627776∧i_4.p.months.length≤1099511627776∧i_4.p.settle.length≤1099511627776)∧∀(o:Unit),True→∃(i_5:MkJ),i_5.i.a=(i_4.p.spread i_4.a i_4.b).fst∧zB i_5.sa=2∧i_5.i.b=i.inst+1+(↑i_3:Int)∧zB i_5.sb=2∧i_5.i.less=false∧AObj.fro 6 (List.map zQ i_5.i.tops)=AObj.fro 6 (List.map zQ i.tops)∧List.map zH i_5.i.out=List.map zH (y9 i 2 i_3)∧(0≤i_5.i.a∧i_5.i.a<(↑i_5.i.tops.length:Int)∧0≤i_5.i.b∧i_5.i.b<(↑i_5.i.tops.length:Int)∧(i_5.i.tops.length≤1000000∧∀(t:Top),t∈i_5.i.tops→((-9223372036854775808)≤t.p1∧t.p1≤9223372036854775807)∧(-9223372036854775808)≤t.p2∧t.p2≤9223372036854775807)∧i_5.i.out.length≤1000)∧∀(o:Unit),True→∃(i':Nat),i.inst+1+(↑i':Int)=IntKind.i64.wrap (i.inst+1+(↑i_3:Int)+1)∧AObj.fro 6 (List.map zQ i.tops)=AObj.fro 6 (List.map zQ i_5.i.tops)∧List.map zH (y9 i 2 i')=List.map zH (i_5.i.out++mkq i_5.i.tops (Leg.mk i_5.i.a (zB i_5.sa)) (Leg.mk i_5.i.b (zB i_5.sb)) i_5.i.less)∧I i'∧μ i'<μ i_3∧AObj.fro 6 (List.map zQ i.tops)=AObj.fro 6 (List.map zQ i.tops)∧f9 i=f9 i∧AObj.fro 1 (iE i.p.settle)=AObj.fro 1 (iE i.p.settle)∧AObj.fro 1 (iE i.p.months)=AObj.fro 1 (iE i.p.months)) (∃(i0:Nat),(↑i0:Int)=0∧AObj.fro 6 (List.map zQ i.tops)=AObj.fro 6 (List.map zQ i.tops)∧List.map zH (y9 i 2 (i.p.months.length-(i.inst.toNat+1))++yY i 2 i0)=List.map zH (y9 i 2 i_3)∧∃(I:Nat→Prop),∃(μ:Nat→Nat),I i0∧∀(i_4:Nat),I i_4→cnd (decide ((↑i_4:Int)<i.inst)) (∃(i_5:dY),sb i_5.p.code=sb i.p.code∧iE i_5.p.months=iE i.p.months∧i_5.p.tick=i.p.tick∧i_5.p.low=i.p.low∧i_5.p.high=i.p.high∧i_5.p.wide=i.p.wide∧i_5.p.rule=i.p.rule∧i_5.p.top=i.p.top∧i_5.p.least=i.p.least∧i_5.p.part=i.p.part∧iE i_5.p.settle=iE i.p.settle∧i_5.a=(↑i_4:Int)∧i_5.b=i.inst∧(i_5.p.code.length≤1099511627776∧i_5.p.months.length≤1099511627776∧i_5.p.settle.length≤1099511627776)∧∀(o:Unit),True→∃(i_6:Int),i_6=2∧(i_6=1∨i_6=2)∧∀(o:Unit),True→∃(i_7:MkJ),i_7.i.a=(i_5.p.spread i_5.a i_5.b).fst∧zB i_7.sa=3-i_6∧i_7.i.b=(↑i_4:Int)∧zB i_7.sb=2∧i_7.i.less=true∧AObj.fro 6 (List.map zQ i_7.i.tops)=AObj.fro 6 (List.map zQ i.tops)∧List.map zH i_7.i.out=List.map zH (y9 i 2 (i.p.months.length-(i.inst.toNat+1))++yY i 2 i_4)∧(0≤i_7.i.a∧i_7.i.a<(↑i_7.i.tops.length:Int)∧0≤i_7.i.b∧i_7.i.b<(↑i_7.i.tops.length:Int)∧(i_7.i.tops.length≤1000000∧∀(t:Top),t∈i_7.i.tops→((-9223372036854775808)≤t.p1∧t.p1≤9223372036854775807)∧(-9223372036854775808)≤t.p2∧t.p2≤9223372036854775807)∧i_7.i.out.length≤1000)∧∀(o:Unit),True→∃(i':Nat),(↑i':Int)=IntKind.i64.wrap ((↑i_4:Int)+1)∧AObj.fro 6 (List.map zQ i.tops)=AObj.fro 6 (List.map zQ i_7.i.tops)∧List.map zH (y9 i 2 (i.p.months.length-(i.inst.toNat+1))++yY i 2 i')=List.map zH (i_7.i.out++mkq i_7.i.tops (Leg.mk i_7.i.a (zB i_7.sa)) (Leg.mk i_7.i.b (zB i_7.sb)) i_7.i.less)∧I i'∧μ i'<μ i_4∧AObj.fro 6 (List.map zQ i.tops)=AObj.fro 6 (List.map zQ i.tops)∧AObj.fro 6 (List.map zQ i.tops)=AObj.fro 6 (List.map zQ i.tops)∧f9 i=f9 i∧AObj.fro 1 (iE i.p.settle)=AObj.fro 1 (iE i.p.settle)∧AObj.fro 1 (iE i.p.months)=AObj.fro 1 (iE i.p.months)) (∃(o:Unit),List.map zH (xF i 2)=List.map zH (y9 i 2 (i.p.months.length-(i.inst.toNat+1))++yY i 2 i_4)∧True)))))))
theorem z3g (hG:GOk Tryz.prog ([(22,pcountC),(124,legsC),(127,spreadC),(125,iotherC),(126,mkAnyC)])) (h:∀(i:uJ),all2C.cnd i→z1g i):all2C.ok Tryz.prog 102:=okw mixed hG 0 (fun _=>[]) (fun i=>z7x i 2) [] Tryz.func102 h
@[reducible] def dI (j:pB) (i:pB):AObj:=Sx.AObj.cells [V.d (D.v (Value.string (sb j.i.p.code))),V.own (0:Nat),V.d (D.v (.int .i64 j.i.p.tick)),V.d (D.v (.int .i64 j.i.p.low)),V.d (D.v (.int .i64 j.i.p.high)),V.d (D.v (.int .i64 j.i.p.wide)),V.d (D.v (.int .i64 j.i.p.rule)),V.d (D.v (.int .i64 j.i.p.top)),V.d (D.v (.int .i64 j.i.p.least)),V.d (D.v (.int .i64 j.i.p.part)),V.own ((0:Nat)+(1:Nat))] (25:Nat)
def zLo (j:pB):Prop:=
 ∃(i:pB),sb i.i.p.code=sb j.i.p.code∧iE i.i.p.months=iE j.i.p.months∧i.i.p.tick=j.i.p.tick∧i.i.p.low=j.i.p.low∧i.i.p.high=j.i.p.high∧i.i.p.wide=j.i.p.wide∧i.i.p.rule=j.i.p.rule∧i.i.p.top=j.i.p.top∧i.i.p.least=j.i.p.least∧i.i.p.part=j.i.p.part∧iE i.i.p.settle=iE j.i.p.settle∧List.map zQ i.i.tops=List.map zQ j.i.tops∧i.i.inst=j.i.inst∧zB i.s=zB j.s∧((i.i.p.code.length≤1099511627776∧i.i.p.months.length≤1099511627776∧i.i.p.settle.length≤1099511627776)∧i.i.tops.length≤1000000∧∀(t:Top),t∈i.i.tops→((-9223372036854775808)≤t.p1∧t.p1≤9223372036854775807)∧(-9223372036854775808)≤t.p2∧t.p2≤9223372036854775807)∧∀(o:Unit),True→∃(i0:Nat),(↑i0:Int)=0∧List.map zH (List.filter (fun(q:Sx.Quote) ↦ decide (j.i.p.price j.i.inst q.price=0)) (List.take i0 (xF j.i (zB j.s))))=[]∧∃(I:Nat→Prop),∃(μ:Nat→Nat),I i0∧∀(i_1:Nat),I i_1→cnd (decide ((↑i_1:Int)<(↑(List.map zH (xF i.i (zB i.s))).length:Int))) ((0≤(↑i_1:Int)∧(↑i_1:Int)<(↑(List.map zH (xF i.i (zB i.s))).length:Int))∧∃(n:Int),∃(n_1:Int),∃(n_2:Int),∃(n_3:Int),∃(n_4:Int),∃(n_5:Int),zJ (List.map zH (xF i.i (zB i.s))) (↑i_1:Int).toNat 0 6=some [D.v (.int .i64 n),D.v (.int .i64 n_1),D.v (.int .i64 n_2),D.v (.int .i64 n_3),D.v (.int .i64 n_4),D.v (.int .i64 n_5)]∧∃(i_2:dY),sb i_2.p.code=sb j.i.p.code∧iE i_2.p.months=iE j.i.p.months∧i_2.p.tick=j.i.p.tick∧i_2.p.low=j.i.p.low∧i_2.p.high=j.i.p.high∧i_2.p.wide=j.i.p.wide∧i_2.p.rule=j.i.p.rule∧i_2.p.top=j.i.p.top∧i_2.p.least=j.i.p.least∧i_2.p.part=j.i.p.part∧iE i_2.p.settle=iE j.i.p.settle∧i_2.a=j.i.inst∧i_2.b=n∧(i_2.p.code.length≤1099511627776∧i_2.p.months.length≤1099511627776∧i_2.p.settle.length≤1099511627776)∧∀(o:Unit),True→cnd (i_2.p.price i_2.a i_2.b==0) (((List.map zH (List.filter (fun(q:Sx.Quote) ↦ decide (j.i.p.price j.i.inst q.price=0)) (List.take i_1 (xF j.i (zB j.s))))).length+1)*(48:Nat)≤(70368744177664:Nat)∧∃(i':Nat),(↑i':Int)=IntKind.i64.wrap ((↑i_1:Int)+1)∧List.map zH (List.filter (fun(q:Sx.Quote) ↦ decide (j.i.p.price j.i.inst q.price=0)) (List.take i' (xF j.i (zB j.s))))=List.map zH (List.filter (fun(q:Sx.Quote) ↦ decide (j.i.p.price j.i.inst q.price=0)) (List.take i_1 (xF j.i (zB j.s))))++[[D.v (.int .i64 n),D.v (.int .i64 n_1),D.v (.int .i64 n_2),D.v (.int .i64 n_3),D.v (.int .i64 n_4),D.v (.int .i64 n_5)]]∧I i'∧μ i'<μ i_1∧AObj.own 78 6 (List.map zH (xF i.i (zB i.s)))=AObj.own 78 6 (List.map zH (xF i.i (zB i.s)))∧dI j i=dI j i∧AObj.fro 1 (iE j.i.p.settle)=AObj.fro 1 (iE j.i.p.settle)∧AObj.fro 1 (iE j.i.p.months)=AObj.fro 1 (iE j.i.p.months)) (∃(i':Nat),(↑i':Int)=IntKind.i64.wrap ((↑i_1:Int)+1)∧List.map zH (List.filter (fun(q:Sx.Quote) ↦ decide (j.i.p.price j.i.inst q.price=0)) (List.take i' (xF j.i (zB j.s))))=List.map zH (List.filter (fun(q:Sx.Quote) ↦ decide (j.i.p.price j.i.inst q.price=0)) (List.take i_1 (xF j.i (zB j.s))))∧I i'∧μ i'<μ i_1∧AObj.own 78 6 (List.map zH (xF i.i (zB i.s)))=AObj.own 78 6 (List.map zH (xF i.i (zB i.s)))∧dI j i=dI j i∧AObj.fro 1 (iE j.i.p.settle)=AObj.fro 1 (iE j.i.p.settle)∧AObj.fro 1 (iE j.i.p.months)=AObj.fro 1 (iE j.i.p.months))) (∃(o:Unit),List.map zH (xC j.i (zB j.s))=List.map zH (List.filter (fun(q:Sx.Quote) ↦ decide (j.i.p.price j.i.inst q.price=0)) (List.take i_1 (xF j.i (zB j.s))))∧True)
theorem zQt (hG:GOk Tryz.prog ([(102,allC),(29,priceC)])) (h:∀(j:pB),quotesC.cnd j→zLo j):quotesC.ok Tryz.prog 65:=okw mixed hG 0 (fun _=>[]) (fun j=>zYo j) [] Tryz.func65 h
@[reducible] def bX:AObj:=Sx.AObj.cells (Sx.V.agg [V.d (D.v (.int .i64 0)),V.d (D.v (.int .i64 0)),V.d (D.v (.int .i64 0)),V.d (D.v (.int .i64 0)),V.d (D.v (.int .i64 0)),V.d (D.v (.int .i64 0))]).cl (78:Nat)
@[reducible] def sQ (i:BsI):Prop:=∃(n:Int),∃(n_1:Int),∃(n_2:Int),∃(n_3:Int),∃(n_4:Int),∃(n_5:Int),zJ (List.map zH i.l) (Int.toNat 0) 0 6=some [D.v (.int .i64 n),D.v (.int .i64 n_1),D.v (.int .i64 n_2),D.v (.int .i64 n_3),D.v (.int .i64 n_4),D.v (.int .i64 n_5)]∧∃(i0:Nat),(↑i0:Int)=0∧(zV (List.take (max i0 1) i.l) i.s).fst.price=n∧(zV (List.take (max i0 1) i.l) i.s).fst.qty=n_1∧(zV (List.take (max i0 1) i.l) i.s).fst.a.inst=n_2∧(zV (List.take (max i0 1) i.l) i.s).fst.a.side=n_3∧(zV (List.take (max i0 1) i.l) i.s).fst.b.inst=n_4∧(zV (List.take (max i0 1) i.l) i.s).fst.b.side=n_5∧∃(I:Nat→Prop),∃(μ:Nat→Nat),I i0∧∀(i_1:Nat),I i_1→cnd (decide ((↑i_1:Int)<(↑(List.map zH i.l).length:Int))) ((0≤(↑i_1:Int)∧(↑i_1:Int)<(↑(List.map zH i.l).length:Int))∧∃(n:Int),∃(n_6:Int),∃(n_7:Int),∃(n_8:Int),∃(n_9:Int),∃(n_10:Int),zJ (List.map zH i.l) (↑i_1:Int).toNat 0 6=some [D.v (.int .i64 n),D.v (.int .i64 n_6),D.v (.int .i64 n_7),D.v (.int .i64 n_8),D.v (.int .i64 n_9),D.v (.int .i64 n_10)]∧∃(i_2:I3'),i_2.side=i.s∧i_2.x=n∧i_2.y=(zV (List.take (max i_1 1) i.l) i.s).fst.price∧True∧∀(o:Unit),True→cnd (btr i_2.side i_2.x i_2.y) (∃(i':Nat),(↑i':Int)=IntKind.i64.wrap ((↑i_1:Int)+1)∧(zV (List.take (max i' 1) i.l) i.s).fst.price=n∧(zV (List.take (max i' 1) i.l) i.s).fst.qty=n_6∧(zV (List.take (max i' 1) i.l) i.s).fst.a.inst=n_7∧(zV (List.take (max i' 1) i.l) i.s).fst.a.side=n_8∧(zV (List.take (max i' 1) i.l) i.s).fst.b.inst=n_9∧(zV (List.take (max i' 1) i.l) i.s).fst.b.side=n_10∧I i'∧μ i'<μ i_1∧bX=bX) (∃(i':Nat),(↑i':Int)=IntKind.i64.wrap ((↑i_1:Int)+1)∧(zV (List.take (max i' 1) i.l) i.s).fst.price=(zV (List.take (max i_1 1) i.l) i.s).fst.price∧(zV (List.take (max i' 1) i.l) i.s).fst.qty=(zV (List.take (max i_1 1) i.l) i.s).fst.qty∧(zV (List.take (max i' 1) i.l) i.s).fst.a.inst=(zV (List.take (max i_1 1) i.l) i.s).fst.a.inst∧(zV (List.take (max i' 1) i.l) i.s).fst.a.side=(zV (List.take (max i_1 1) i.l) i.s).fst.a.side∧(zV (List.take (max i' 1) i.l) i.s).fst.b.inst=(zV (List.take (max i_1 1) i.l) i.s).fst.b.inst∧(zV (List.take (max i' 1) i.l) i.s).fst.b.side=(zV (List.take (max i_1 1) i.l) i.s).fst.b.side∧I i'∧μ i'<μ i_1∧bX=bX)) (∃(o:Unit),(zV i.l i.s).fst.price=(zV (List.take (max i_1 1) i.l) i.s).fst.price∧(zV i.l i.s).fst.qty=(zV (List.take (max i_1 1) i.l) i.s).fst.qty∧(zV i.l i.s).fst.a.inst=(zV (List.take (max i_1 1) i.l) i.s).fst.a.inst∧(zV i.l i.s).fst.a.side=(zV (List.take (max i_1 1) i.l) i.s).fst.a.side∧(zV i.l i.s).fst.b.inst=(zV (List.take (max i_1 1) i.l) i.s).fst.b.inst∧(zV i.l i.s).fst.b.side=(zV (List.take (max i_1 1) i.l) i.s).fst.b.side∧(zV i.l i.s).snd=true∧True)
@[reducible] def rB (i:BsI):Prop:=∃(o:Unit),(zV i.l i.s).fst.price=0∧(zV i.l i.s).fst.qty=0∧(zV i.l i.s).fst.a.inst=0∧(zV i.l i.s).fst.a.side=0∧(zV i.l i.s).fst.b.inst=0∧(zV i.l i.s).fst.b.side=0∧(zV i.l i.s).snd=false∧True
def zIm (i:BsI):Prop:=
 cnd ((↑(List.map zH i.l).length:Int)==0) (rB i) (cnd (i.s !=1) (cnd (i.s !=2) (rB i) (((0:Int)≤(0:Int)∧0<(↑(List.map zH i.l).length:Int))∧sQ i)) (((0:Int)≤(0:Int)∧0<(↑(List.map zH i.l).length:Int))∧sQ i))
theorem zZo (hG:GOk Tryz.prog ([(101,ibetterC)])) (h:∀(i:BsI),bestQC.cnd i→zIm i):bestQC.ok Tryz.prog 64:=okw mixed hG 0 (fun _=>[]) (fun i=>z4q i) [] Tryz.func64 h
end Sx
