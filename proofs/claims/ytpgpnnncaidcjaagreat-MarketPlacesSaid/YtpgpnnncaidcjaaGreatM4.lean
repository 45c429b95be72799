/- Texts of ours, one behind the other: a walk that the kernel reckons, and contracts of functions. No condition. -/
import Derived.Test.YtpgpnnncaidcjaaGreatRows
import Derived.Test.YtpgpnnncaidcjaaGreatM3
namespace Sx
set_option linter.unusedVariables false
open Go Cv Go.Proofs
theorem kp {P:Prop} (h:P:=by(repeat'(first|exact rfl|exact trivial|assumption|apply And.intro|refine fun(_:Unit) (_:True)=>?_|refine Exists.intro () ?_|omega|(dsimp only;omega)))):P:=h
theorem mixed:Tryz.prog.follows .mixedOrders=true:=by kernel_rfl
theorem okw {P:Program} {f:FuncId} {fn:Func} {C:Con} {G:List (Nat×Con)} {V:C.ι→Prop} (hm:P.follows .mixedOrders=true) (hG:GOk P G) (d:Nat) (J:C.ι→List (Nat×SAnn)) (an:C.ι→List SAnn) (op:List Nat) (hf:P.funcs[f]? =some fn) (h:∀i,C.cnd i→V i) (hb:fn.body=some (fn.body.getD .skip):=by kernel_rfl) (hbd:kX P f=true:=by kernel_rfl) (hok:okC fn.ntmps (fn.body.getD .skip)=true:=by kernel_rfl) (hsz:∀i,Nat.ble (C.pat i).length fn.ntmps=true:=by intro _;kernel_rfl) (e:∀i,V i=walk P G d (J i) (an i) op fn (fn.body.getD .skip) (C.pat i) (C.pre i) (C.alts i):=by intro _;kernel_rfl):C.ok P f:=c8 hm G hG d J an op hf hb hbd hok hsz fun i hc=>Eq.mp (e i) (h i hc)
structure Lv where
 price:Int
 qty:Int
 count:Int
def lvV (l:Lv):V:= .agg [zC l.price,zC l.qty,zC l.count]
open Go Cv Go.Proofs
def sb (l:List UInt8):ByteArray:=⟨l.toArray⟩
@[reducible] def sV (l:List UInt8):V:= .d (.v (.string (sb l)))
def rK (l:List UInt8):Nat×Nat:=Utf8.decode (sb l) 0
def dL:Nat→Nat→List UInt8→List (Nat×Nat)
 |0,_,_=>[]
 |k+1,p,l=>match l with
  |[]=>[]
  |_=>(p,(rK l).1)::dL k (p+(rK l).2) (l.drop (rK l).2)
def wI (s:List UInt8) (p:Nat):List (Nat×Nat):=dL (s.length-p) p (s.drop p)
def k8 (s:List UInt8):List Nat:=(wI s 0).map (·.2)
def countC:Con:=con1 (List UInt8) (fun s=>[sV s]) (fun _=>[]) (fun s=>s.length≤1099511627776) (fun s=>zC (k8 s).length) (fun _=>[])
def z6v (s:List UInt8):List SAnn:=[{ι:=Nat×Nat,slots:=fun x=>[(3,zC x.2),(5,.nm 0 0)],rows:=fun x=>[.iter (sb s) x.1]}]
def cP (r:Nat):Bool:=(decide (65≤r) && decide (r≤90))||(decide (913≤r) && decide (r≤937) && decide (r≠930))
def vD (s:List UInt8):Bool:=(k8 s).all cP && decide (s≠[]) && decide ((k8 s).length≤4)
def symC:Con:=con1 (List UInt8) (fun s=>[sV s]) (fun _=>[]) (fun s=>s.length≤1099511627776) (fun s=>yJ (vD s)) (fun _=>[])
def yDd (s:List UInt8):List SAnn:=[{ι:=Nat,slots:=fun x=>[(7,.nm 0 0)],rows:=fun x=>[.iter (sb s) x]}]
def iE (l:List Int):List (List D):=l.map fun n=>[.v (.int .i64 n)]
@[reducible] def iV (l:List Int):V:=roV 1 (iE l)
structure Prd where
 code:List UInt8
 months:List Int
 tick:Int
 low:Int
 high:Int
 wide:Int
 rule:Int
 top:Int
 least:Int
 part:Int
 settle:List Int
 deriving DecidableEq
@[reducible] def Prd.cells (p:Prd):List V:=[sV p.code,iV p.months,zC p.tick,zC p.low,zC p.high,zC p.wide,zC p.rule,zC p.top,zC p.least,zC p.part,iV p.settle]
@[reducible] def aT (p:Prd):V:= .agg p.cells
@[reducible] def Prd.small (p:Prd):Prop:=p.code.length≤1099511627776∧p.months.length≤1099511627776∧p.settle.length≤1099511627776
def wC (l:List Int) (k:Nat):Bool:=decide (0≤l.getD k 0) && decide (l.getD k 0≤1199) && (decide (k=0)||decide (l.getD (k-1) 0<l.getD k 0))
def xK (l:List Int):Bool:=(List.range l.length).all (wC l) && decide (2≤l.length) && decide (l.length≤6)
def monthsC:Con:=con1 (List Int) (fun l=>[iV l]) (fun _=>[]) (fun l=>l.length≤1099511627776) (fun l=>yJ (xK l)) (fun _=>[])
def z2p:List SAnn:=[{ι:=Nat,slots:=fun j=>[(7,zC j)],rows:=fun _=>[]}]
structure yEj where
 l:List Int
def fX (l:List Int):Int:=l.tail.foldl min (l.headD 0)
def cL (l:List Int):Int:=l.tail.foldl max (l.headD 0)
def minC:Con:=con1 (List Int) (fun l=>[iV l]) (fun _=>[]) (fun l=>0<l.length∧l.length≤1099511627776) (fun l=>zC (fX l)) (fun _=>[])
def maxC:Con:=con1 (List Int) (fun l=>[iV l]) (fun _=>[]) (fun l=>0<l.length∧l.length≤1099511627776) (fun l=>zC (cL l)) (fun _=>[])
def yEe (l:List Int):List SAnn:=[{ι:=Nat,slots:=fun j=>[(3,zC (fX (l.take j))),(4,zC j)],rows:=fun _=>[]}]
def yDx (l:List Int):List SAnn:=[{ι:=Nat,slots:=fun j=>[(3,zC (cL (l.take j))),(4,zC j)],rows:=fun _=>[]}]
set_option maxRecDepth 100000
open Go Cv Go.Proofs
def zJu (s:List UInt8):Prop:=
 ∃(i0:Nat×Nat),(↑i0.snd:Int)=0∧sb s=sb s∧i0.fst=0∧∃(I:Nat×Nat→Prop),∃(μ:Nat×Nat→Nat),I i0∧∀(i:Nat×Nat),I i→cnd (i.fst.blt (sb s).size) (∃(i':Nat×Nat),(↑i'.snd:Int)=IntKind.i64.wrap ((↑i.snd:Int)+1)∧sb s=sb s∧i'.fst=i.fst+(Utf8.decode (sb s) i.fst).snd∧I i'∧μ i'<μ i∧True) (∃(o:Unit),(↑(k8 s).length:Int)=(↑i.snd:Int)∧True)
theorem z0t (hG:GOk Tryz.prog ([])) (h:∀(s:List UInt8),countC.cnd s→zJu s):countC.ok Tryz.prog 108:=okw mixed hG 0 (fun _=>[]) (fun s=>z6v s) [] Tryz.func108 h
def z7a (s:List UInt8):Prop:=
 ∃(i0:Nat),sb s=sb s∧i0=0∧∃(I:Nat→Prop),∃(μ:Nat→Nat),I i0∧∀(i:Nat),I i→cnd (i.blt (sb s).size) (cnd (decide ((↑(Utf8.decode (sb s) i).fst:Int)≥65)) (cnd (decide ((↑(Utf8.decode (sb s) i).fst:Int)≤90)) (∃(i':Nat),sb s=sb s∧i'=i+(Utf8.decode (sb s) i).snd∧I i'∧μ i'<μ i∧True) (cnd (decide ((↑(Utf8.decode (sb s) i).fst:Int)≥913)) (cnd (decide ((↑(Utf8.decode (sb s) i).fst:Int)≤937)) (cnd (!(↑(Utf8.decode (sb s) i).fst:Int) !=930) (∃(o:Unit),vD s=false∧True) (∃(i':Nat),sb s=sb s∧i'=i+(Utf8.decode (sb s) i).snd∧I i'∧μ i'<μ i∧True)) (∃(o:Unit),vD s=false∧True)) (∃(o:Unit),vD s=false∧True))) (cnd (decide ((↑(Utf8.decode (sb s) i).fst:Int)≥913)) (cnd (decide ((↑(Utf8.decode (sb s) i).fst:Int)≤937)) (cnd (!(↑(Utf8.decode (sb s) i).fst:Int) !=930) (∃(o:Unit),vD s=false∧True) (∃(i':Nat),sb s=sb s∧i'=i+(Utf8.decode (sb s) i).snd∧I i'∧μ i'<μ i∧True)) (∃(o:Unit),vD s=false∧True)) (∃(o:Unit),vD s=false∧True))) (cnd (!(sb s).toList==(ByteArray.mk #[]).toList) (∃(i:List UInt8),sb i=sb s∧i.length≤1099511627776∧∀(o:Unit),True→∃(o:Unit),vD s=decide ((↑(k8 i).length:Int)≤4)∧True) (∃(o:Unit),vD s=false∧True))
theorem yAs (hG:GOk Tryz.prog ([(108,countC)])) (h:∀(s:List UInt8),symC.cnd s→z7a s):symC.ok Tryz.prog 82:=okw mixed hG 0 (fun _=>[]) (fun s=>yDd s) [] Tryz.func82 h
def zDa (l:List Int):Prop:=
 ∃(i0:Nat),(↑i0:Int)=0∧∃(I:Nat→Prop),∃(μ:Nat→Nat),I i0∧∀(i:Nat),I i→cnd (decide ((↑i:Int)<(↑(iE l).length:Int))) ((0≤(↑i:Int)∧(↑i:Int)<(↑(iE l).length:Int))∧∃(n:Int),zI (iE l) (↑i:Int).toNat 0 1=some [D.v (.int .i64 n)]∧cnd (decide (n<0)) (∃(o:Unit),xK l=false∧True) (cnd (decide (n>1199)) (∃(o:Unit),xK l=false∧True) (cnd (decide ((↑i:Int)>0)) ((0≤IntKind.i64.wrap ((↑i:Int)-1)∧IntKind.i64.wrap ((↑i:Int)-1)<(↑(iE l).length:Int))∧∃(n_1:Int),zI (iE l) (IntKind.i64.wrap ((↑i:Int)-1)).toNat 0 1=some [D.v (.int .i64 n_1)]∧cnd (decide (n_1≥n)) (∃(o:Unit),xK l=false∧True) (∃(i':Nat),(↑i':Int)=IntKind.i64.wrap ((↑i:Int)+1)∧I i'∧μ i'<μ i∧True)) (∃(i':Nat),(↑i':Int)=IntKind.i64.wrap ((↑i:Int)+1)∧I i'∧μ i'<μ i∧True)))) (cnd (decide ((↑(iE l).length:Int)≥2)) (∃(o:Unit),xK l=decide ((↑(iE l).length:Int)≤6)∧True) (∃(o:Unit),xK l=false∧True))
theorem zWy (hG:GOk Tryz.prog ([])) (h:∀(l:List Int),monthsC.cnd l→zDa l):monthsC.ok Tryz.prog 83:=okw mixed hG 0 (fun _=>[]) (fun _=>z2p) [] Tryz.func83 h
def z8w (l:List Int):Prop:=
 cnd (decide ((↑(iE l).length:Int)<1)) False (((0:Int)≤(0:Int)∧0<(↑(iE l).length:Int))∧∃(n:Int),zI (iE l) (Int.toNat 0) 0 1=some [D.v (.int .i64 n)]∧∃(i0:Nat),fX (List.take i0 l)=n∧(↑i0:Int)=1∧∃(I:Nat→Prop),∃(μ:Nat→Nat),I i0∧∀(i:Nat),I i→cnd (decide ((↑i:Int)<(↑(iE l).length:Int))) ((0≤(↑i:Int)∧(↑i:Int)<(↑(iE l).length:Int))∧∃(n:Int),zI (iE l) (↑i:Int).toNat 0 1=some [D.v (.int .i64 n)]∧∃(i':Nat),fX (List.take i' l)=min (fX (List.take i l)) n∧(↑i':Int)=IntKind.i64.wrap ((↑i:Int)+1)∧I i'∧μ i'<μ i∧True) (∃(o:Unit),fX l=fX (List.take i l)∧True))
theorem yCq (hG:GOk Tryz.prog ([])) (h:∀(l:List Int),minC.cnd l→z8w l):minC.ok Tryz.prog 85:=okw mixed hG 0 (fun _=>[]) (fun l=>yEe l) [] Tryz.func85 h
def z7k (l:List Int):Prop:=
 cnd (decide ((↑(iE l).length:Int)<1)) False (((0:Int)≤(0:Int)∧0<(↑(iE l).length:Int))∧∃(n:Int),zI (iE l) (Int.toNat 0) 0 1=some [D.v (.int .i64 n)]∧∃(i0:Nat),cL (List.take i0 l)=n∧(↑i0:Int)=1∧∃(I:Nat→Prop),∃(μ:Nat→Nat),I i0∧∀(i:Nat),I i→cnd (decide ((↑i:Int)<(↑(iE l).length:Int))) ((0≤(↑i:Int)∧(↑i:Int)<(↑(iE l).length:Int))∧∃(n:Int),zI (iE l) (↑i:Int).toNat 0 1=some [D.v (.int .i64 n)]∧∃(i':Nat),(cL (List.take i' l)=if n>cL (List.take i l)then n else cL (List.take i l))∧(↑i':Int)=IntKind.i64.wrap ((↑i:Int)+1)∧I i'∧μ i'<μ i∧True) (∃(o:Unit),cL l=cL (List.take i l)∧True))
theorem yBr (hG:GOk Tryz.prog ([])) (h:∀(l:List Int),maxC.cnd l→z7k l):maxC.ok Tryz.prog 86:=okw mixed hG 0 (fun _=>[]) (fun l=>yDx l) [] Tryz.func86 h
set_option linter.unusedSimpArgs false
open Go Cv Go.Proofs
@[simp] theorem zNf (s:List UInt8):(sb s).size=s.length:=by simp[sb,ByteArray.size]
theorem uV (s:List UInt8):(sb s).toList=s:=by rw[ByteArray.toList_eq];rfl
theorem z4q (s:List UInt8) (p k:Nat):(sb s).get! (p+k)=(sb (s.drop p)).get! (0+k):=by
 simp only[sb,ByteArray.get!,Nat.zero_add]
 simp only[List.getElem!_toArray,List.getElem!_eq_getElem?_getD,List.getElem?_drop]
theorem nN (s:List UInt8) (p:Nat):Utf8.decode (sb s) p=rK (s.drop p):=by
 have h (k:Nat):(decide (p+k<(sb s).size))=decide (0+k<(sb (s.drop p)).size):=by
  simp only[zNf,List.length_drop]
  by_cases h:p+k<s.length
  ·rw[decide_eq_true h,decide_eq_true (by omega)]
  ·rw[decide_eq_false h,decide_eq_false (by omega)]
 unfold rK Utf8.decode
 simp only[z4q s p,h]
theorem u0 (s:List UInt8) {p:Nat} (h:p<s.length):1≤(Utf8.decode (sb s) p).2∧p+(Utf8.decode (sb s) p).2≤s.length:=by
 unfold Utf8.decode
 simp only[zNf,Bool.and_eq_true,decide_eq_true_eq]
 split
 ·exact⟨by simp,by simp;omega⟩
 split
 ·rename_i h1
  split
  ·exact⟨by simp,by simp;omega⟩
  ·exact⟨by simp,by simp;omega⟩
 split
 ·rename_i h1
  split
  ·exact⟨by simp,by simp;omega⟩
  ·exact⟨by simp,by simp;omega⟩
 split
 ·rename_i h1
  split
  ·exact⟨by simp,by simp;omega⟩
  ·exact⟨by simp,by simp;omega⟩
 ·exact⟨by simp,by simp;omega⟩
theorem z9i {l:List UInt8} (h:l≠[]):1≤(rK l).2∧(rK l).2≤l.length:=by
 have:=u0 l (p:=0) (by cases l<;>simp_all)
 rw[rK];omega
theorem gN:∀(k:Nat) (p:Nat) (l:List UInt8),l.length≤k→dL k p l=dL l.length p l
 |0,p,l,h=>by
  have:l=[]:=List.eq_nil_of_length_eq_zero (by omega)
  subst this;rfl
 |k+1,p,[],h=>rfl
 |k+1,p,b::l,h=>by
  have hw:=z9i (l:=b::l) (by simp)
  have hl:((b::l).drop (rK (b::l)).2).length≤l.length:=by rw[List.length_drop,List.length_cons];omega
  rw[List.length_cons]
  simp only[dL]
  rw[gN k _ _ (by rw[List.length_cons]at h;omega),gN l.length _ _ hl]
theorem v7 {s:List UInt8} {p:Nat} (h:s.length≤p):wI s p=[]:=by
 rw[wI,show s.length-p=0 by omega];rfl
theorem vA {s:List UInt8} {p:Nat} (h:p<s.length):wI s p=(p,(Utf8.decode (sb s) p).1)::wI s (p+(Utf8.decode (sb s) p).2):=by
 obtain⟨k,hk⟩:∃k,s.length-p=k+1:=⟨s.length-p-1,by omega⟩
 have hw:=u0 s h
 obtain⟨b,l,hb⟩:∃b l,s.drop p=b::l:=by
  cases hd:s.drop p with
  |nil=>rw[List.drop_eq_nil_iff]at hd;omega
  |cons b l=>exact⟨b,l,rfl⟩
 have hlen:(b::l).length=s.length-p:=by rw[← hb,List.length_drop]
 rw[wI,hk,hb,nN,hb,wI]
 rw[nN,hb]at hw
 simp only[dL]
 have e:(b::l).drop (rK (b::l)).2=s.drop (p+(rK (b::l)).2):=by rw[← hb,List.drop_drop]
 rw[e,gN k _ _ (by rw[List.length_drop];omega),List.length_drop]
theorem sB (s:List UInt8):∀(k p:Nat),s.length-p≤k→(wI s p).length≤s.length-p
 |0,p,h=>by rw[v7 (by omega)];simp
 |k+1,p,h=>by
  by_cases hp:p<s.length
  ·have hw:=u0 s hp
   rw[vA hp,List.length_cons]
   have:=sB s k (p+(Utf8.decode (sb s) p).2) (by omega)
   omega
  ·rw[v7 (by omega)];simp
theorem lX (s:List UInt8):(k8 s).length≤s.length:=by
 rw[k8,List.length_map]
 have:=sB s s.length 0 (by omega)
 omega
theorem zTr {a b:Nat} (h:Nat.blt a b=false):b≤a:=by
 rcases Nat.lt_or_ge a b with h1|h1
 ·rw[show Nat.blt a b=true by rw[Nat.blt_eq];exact h1]at h;cases h
 ·exact h1
theorem zXh:(ByteArray.mk #[]).toList=[]:=uV []
theorem z9p (s:List UInt8) (h:countC.cnd s):zJu s:=by
 have h:s.length≤1099511627776:=h
 have hr:=lX s
 unfold zJu
 refine⟨(0,0),rfl,rfl,rfl,fun x=>x.1≤s.length∧x.2+(wI s x.1).length=(k8 s).length,fun x=>s.length-x.1,⟨by omega,by rw[k8,List.length_map];simp⟩,?_⟩
 rintro⟨p,n⟩ ⟨h1,h2⟩
 dsimp only at h1 h2 ⊢
 refine Cv.cnd.mk (fun hp=> ?_) (fun hp=> ?_)
 ·have hp:p<s.length:=by simpa[Nat.blt_eq]using hp
  have hw:=u0 s hp
  rw[vA hp,List.length_cons]at h2
  refine⟨(p+(Utf8.decode (sb s) p).2,n+1),?_,rfl,rfl,⟨hw.2,by(first|omega|(dsimp only;omega))⟩,by(first|omega|(dsimp only;omega)),trivial⟩
  rw[w64 (by omega)];rfl
 ·have hp:s.length≤p:=by have:=zTr hp;simpa using this
  rw[v7 hp]at h2
  exact⟨(),by rw[← h2];rfl,trivial⟩
theorem zUu:countC.ok Tryz.prog 108:=z0t gok0 z9p
theorem yDh (s:List UInt8) (h:symC.cnd s):z7a s:=by
 have h:s.length≤1099511627776:=h
 unfold z7a
 refine⟨0,rfl,rfl,fun p=>p≤s.length∧(k8 s).all cP=(wI s p).all fun x=>cP x.2,fun p=>s.length-p,⟨by omega,by rw[k8,List.all_map];rfl⟩,?_⟩
 rintro p ⟨h1,h2⟩
 refine Cv.cnd.mk (fun hp=> ?_) (fun hp=> ?_)
 ·have hp:p<s.length:=by simpa[Nat.blt_eq]using hp
  have hw:=u0 s hp
  rw[vA hp,List.all_cons]at h2
  generalize hc:(Utf8.decode (sb s) p).1=c at h2 ⊢
  generalize hww:(Utf8.decode (sb s) p).2=w at h2 hw ⊢
  dsimp only at h2
  have bad:cP c=false→∃(o:Unit),vD s=false∧True:=fun e=>⟨(),by rw[vD,h2,e];rfl,trivial⟩
  have good:cP c=true→∃i':Nat,sb s=sb s∧i'=p+w∧(i'≤s.length∧(k8 s).all cP=(wI s i').all fun x=>cP x.2)∧s.length-i'<s.length-p∧True:=fun e=>⟨p+w,rfl,rfl,⟨hw.2,by rw[h2,e];rfl⟩,by omega,trivial⟩
  refine zU (fun c1=>zU (fun c2=> ?_) (fun c2=>zU (fun c3=>zU (fun c4=>Cv.cnd.mk (fun c5=> ?_) (fun c5=> ?_)) (fun c4=> ?_)) (fun c3=> ?_))) (fun c1=>zU (fun c3=>zU (fun c4=>Cv.cnd.mk (fun c5=> ?_) (fun c5=> ?_)) (fun c4=> ?_)) (fun c3=> ?_))
  all_goals first|(refine good ?_;simp[cP]at*;omega)|(refine bad ?_;simp[cP]at*;omega)
 ·have hp:s.length≤p:=by have:=zTr hp;simpa using this
  rw[v7 hp]at h2
  have h2:(k8 s).all cP=true:=h2
  refine Cv.cnd.mk (fun e=>⟨s,rfl,h,fun _ _=>⟨(),?_,trivial⟩⟩) (fun e=>⟨(),?_,trivial⟩)
  ·rw[uV,zXh]at e
   have:s≠[]:=by simpa using e
   rw[vD,h2,decide_eq_true this]
   simp only[Bool.true_and]
   congr 1
   simp only[eq_iff_iff];omega
  ·have:s=[]:=by
    rw[uV,zXh]at e
    simpa using e
   rw[vD,this];rfl
theorem z8t:symC.ok Tryz.prog 82:=yAs (gokc zUu gok0) yDh
@[simp] theorem yR (l:List Int):(iE l).length=l.length:=by simp[iE]
theorem elI {l:List Int} {k:Nat} {n:Int} (h:l[k]? =some n):zI (iE l) k 0 1=some [D.v (.int .i64 n)]:=by
 simp[zI,iE,h];rfl
theorem yD {α:Type} {l:List α} {i:Nat} (h:i<l.length):∃x,l[i]? =some x:=⟨l[i],List.getElem?_eq_getElem h⟩
theorem zRs {n k:Nat} {f:Nat→Bool} (hk:k<n) (h:f k=false):(List.range n).all f=false:=by
 cases hh:(List.range n).all f
 ·rfl
 ·rw[List.all_eq_true]at hh
  rw[hh k (by simpa using hk)]at h;cases h
theorem zTp {n:Nat} {f:Nat→Bool} (h:∀k<n,f k=true):(List.range n).all f=true:=by
 rw[List.all_eq_true];intro k hk;exact h k (by simpa using hk)
theorem zZi (l:List Int) (h:monthsC.cnd l):zDa l:=by
 have h:l.length≤1099511627776:=h
 unfold zDa
 simp only[yR]
 refine⟨0,rfl,fun j=>j≤l.length∧∀k<j,wC l k=true,fun j=>l.length-j,⟨by omega,fun k hk=>by omega⟩,?_⟩
 rintro j ⟨h1,h2⟩
 have bad:j<l.length→wC l j=false→∃(o:Unit),xK l=false∧True:=fun hj e=>⟨(),by rw[xK,zRs hj e];rfl,trivial⟩
 have good:j<l.length→wC l j=true→∃i':Nat,(i':Int)=IntKind.i64.wrap ((j:Int)+1)∧(i'≤l.length∧∀k<i',wC l k=true)∧l.length-i'<l.length-j∧True:=fun hj e=>⟨j+1,by rw[w64 (by omega)];rfl,⟨by omega,fun k hk=>by
  rcases Nat.lt_or_ge k j with hk'|hk'
  ·exact h2 k hk'
  ·obtain rfl:k=j:=by omega
   exact e⟩,by omega,trivial⟩
 refine zU (fun hj=> ?_) (fun hj=> ?_)
 ·have hj:j<l.length:=by omega
  obtain⟨n,hn⟩:=yD hj
  have hg:l.getD j 0=n:=by simp[hn]
  refine⟨⟨by omega,by omega⟩,n,elI hn,zU (fun c1=>bad hj (by simp[wC,hn];omega)) (fun c1=>zU (fun c2=>bad hj (by simp[wC,hn];omega)) (fun c2=>zU (fun c3=> ?_) (fun c3=>good hj ?_)))⟩
  ·have e:IntKind.i64.wrap ((j:Int)-1)=((j-1:Nat):Int):=by rw[w64 (by omega)];omega
   obtain⟨m,hm⟩:=yD (l:=l) (i:=j-1) (by omega)
   rw[e]
   refine⟨⟨by omega,by omega⟩,m,elI hm,zU (fun c4=>bad hj ?_) (fun c4=>good hj ?_)⟩
   ·simp[wC,hn,hm];omega
   ·simp[wC,hn,hm];omega
  ·simp[wC,hn];omega
 ·have e:(List.range l.length).all (wC l)=true:=zTp fun k hk=>h2 k (by omega)
  refine zU (fun c=>⟨(),?_,trivial⟩) (fun c=>⟨(),?_,trivial⟩)
  ·rw[xK,e,decide_eq_true (show 2≤l.length by omega)]
   simp;omega
  ·rw[xK,decide_eq_false (show ¬2≤l.length by omega)];simp
theorem zQy:monthsC.ok Tryz.prog 83:=zWy gok0 zZi
theorem nF {f:Int→Int→Int} {l:List Int} {j:Nat} {n:Int} (h:l[j+1]? =some n):(l.take (j+2)).tail.foldl f ((l.take (j+2)).headD 0)=f ((l.take (j+1)).tail.foldl f ((l.take (j+1)).headD 0)) n:=by
 cases l with
 |nil=>simp at h
 |cons a l=>
  simp only[List.getElem?_cons_succ]at h
  simp only[List.take_succ_cons,List.tail_cons,List.headD_cons]
  rw[List.take_add_one,h,List.foldl_append];rfl
theorem zEi {l:List Int} {n:Int} (h:l[0]? =some n) (f:Int→Int→Int):(l.take 1).tail.foldl f ((l.take 1).headD 0)=n:=by
 cases l with
 |nil=>simp at h
 |cons a l=>simpa using h
theorem yDu (l:List Int) (h:minC.cnd l):z8w l:=by
 obtain⟨h0,h⟩:0<l.length∧l.length≤1099511627776:=h
 unfold z8w
 simp only[yR]
 obtain⟨n,hn⟩:=yD h0
 refine zU (fun c=>by omega) (fun c=>⟨⟨by omega,by omega⟩,n,elI hn,1,zEi hn min,rfl,fun j=>1≤j∧j≤l.length,fun j=>l.length-j,⟨by omega,by omega⟩,?_⟩)
 rintro j ⟨h1,h2⟩
 refine zU (fun hj=> ?_) (fun hj=>⟨(),?_,trivial⟩)
 ·obtain⟨m,hm⟩:=yD (l:=l) (i:=j) (by omega)
  refine⟨⟨by omega,by omega⟩,m,elI hm,j+1,?_,?_,⟨by omega,by omega⟩,by(first|omega|(dsimp only;omega)),trivial⟩
  ·obtain⟨k,rfl⟩:∃k,j=k+1:=⟨j-1,by omega⟩
   first
    |(rw[fX,nF hm,← fX];done)
    |(rw[fX,nF hm,← fX];generalize fX (l.take (k+1))=x;split<;>omega)
  ·rw[w64 (by omega)];rfl
 ·rw[List.take_of_length_le (by omega)]
theorem z7p:minC.ok Tryz.prog 85:=yCq gok0 yDu
theorem yDi (l:List Int) (h:maxC.cnd l):z7k l:=by
 obtain⟨h0,h⟩:0<l.length∧l.length≤1099511627776:=h
 unfold z7k
 simp only[yR]
 obtain⟨n,hn⟩:=yD h0
 refine zU (fun c=>by omega) (fun c=>⟨⟨by omega,by omega⟩,n,elI hn,1,zEi hn max,rfl,fun j=>1≤j∧j≤l.length,fun j=>l.length-j,⟨by omega,by omega⟩,?_⟩)
 rintro j ⟨h1,h2⟩
 refine zU (fun hj=> ?_) (fun hj=>⟨(),?_,trivial⟩)
 ·obtain⟨m,hm⟩:=yD (l:=l) (i:=j) (by omega)
  refine⟨⟨by omega,by omega⟩,m,elI hm,j+1,?_,?_,⟨by omega,by omega⟩,by(first|omega|(dsimp only;omega)),trivial⟩
  ·obtain⟨k,rfl⟩:∃k,j=k+1:=⟨j-1,by omega⟩
   rw[cL,nF hm,← cL]
   generalize cL (l.take (k+1))=x
   split<;>omega
  ·rw[w64 (by omega)];rfl
 ·rw[List.take_of_length_le (by omega)]
theorem z9u:maxC.ok Tryz.prog 86:=yBr gok0 yDi
open Go Cv Go.Proofs
@[reducible] def Prd.row (p:Prd):AObj:= .cells p.cells 29
structure zFg where
 p:Prd
 n:Int
structure eN where
 p:Prd
 l:List Int
def wZ (t n:Int):Bool:=n.tmod t !=0
def offC:Con:=con1 zFg (fun i=>[zC i.n,.nm 0 0]) (fun i=>[i.p.row]) (fun i=>1≤i.p.tick) (fun i=>yJ (wZ i.p.tick i.n)) (fun i=>[i.p.row])
@[reducible] def yBf:V:= .fn 109 [] [.nm 0 0]
def nO (k:Option Nat):Int:=match k with
 |some k=>k
 |none=> -1
def idxC:Con:=con1 eN (fun i=>[iV i.l,yBf]) (fun i=>[i.p.row]) (fun i=>1≤i.p.tick∧i.l.length≤1099511627776) (fun i=>zC (nO (i.l.findIdx? (wZ i.p.tick)))) (fun i=>[i.p.row])
def yDp (i:eN):List SAnn:=[{ι:=Nat,slots:=fun j=>[(8,zC j)],rows:=fun _=>[]}]
def containsC:Con:=con1 eN (fun i=>[iV i.l,yBf]) (fun i=>[i.p.row]) (fun i=>1≤i.p.tick∧i.l.length≤1099511627776) (fun i=>yJ (i.l.any (wZ i.p.tick))) (fun i=>[i.p.row])
def qU (p:Prd):Bool:=decide (1≤p.tick) && decide (p.tick≤1000) && !wZ p.tick p.low && !wZ p.tick p.high && !wZ p.tick p.wide && !p.settle.any (wZ p.tick)
def ticksC:Con:=con1 Prd (fun p=>[aT p]) (fun _=>[]) Prd.small (fun p=>yJ (qU p)) (fun _=>[])
def wS (p:Prd):Bool:=decide (p.low< -1000000)||decide (p.low≥p.high)||decide (p.high>1000000)||decide (p.wide<0)||decide (p.wide>p.high-p.low)
def kZ (p:Prd):Bool:=decide (p.settle.length≠p.months.length)||decide (fX p.settle<p.low)||decide (cL p.settle>p.high)
def vE (p:Prd):Bool:=decide (p.rule<1)||decide (p.rule>3)
def wD (p:Prd):Bool:=decide (p.top<0)||decide (p.top>1000000)||decide (p.least<1)||decide (p.least>1000)||decide (p.part<0)||decide (p.part>100)
def Prd.check (p:Prd):Int:=
 if !vD p.code then 12 else if !xK p.months then 1 else if !qU p then 22 else if wS p then 23 else if kZ p then 1 else if vE p then 31 else if wD p then 24 else 0
def checkC:Con:=con1 Prd (fun p=>[aT p]) (fun _=>[]) Prd.small (fun p=>zC p.check) (fun _=>[])
def Prd.count (p:Prd):Nat:=if p.check=0 then p.months.length+p.months.length*(p.months.length-1) / 2 else 0
def pcountC:Con:=con1 Prd (fun p=>[aT p]) (fun _=>[]) Prd.small (fun p=>zC p.count) (fun _=>[])
structure fG where
 p:Prd
 n:Int
def yU (n:Nat):Nat→Nat
 |0=>n
 |k+1=>yU n k+(n-1-k)
def x6 (n inst:Nat):Nat→Nat→Int×Int×Bool
 |0,_=>(0,0,false)
 |k+1,m=>if inst<yU n m+(n-1-m)then(m,m+1+(inst-yU n m:Nat),true)else x6 n inst k (m+1)
def Prd.legs (p:Prd) (i:Int):Int×Int×Bool:=
 if i<0∨(p.count:Int)≤i then(0,0,false)else if i<p.months.length then(i,i,false)else x6 p.months.length i.toNat p.months.length 0
def legsC:Con:=con1 fG (fun i=>[aT i.p,zC i.n]) (fun _=>[]) (fun i=>i.p.small) (fun i=> .tup [zC (i.p.legs i.n).1,zC (i.p.legs i.n).2.1,yJ (i.p.legs i.n).2.2]) (fun _=>[])
structure gK where
 p:Prd
 a:Int
 b:Int
def Prd.spread (p:Prd) (a b:Int):Int×Bool:=
 if p.check≠0∨a<0∨b≤a∨(p.months.length:Int)≤b then(0,false)else((yU p.months.length a.toNat:Int)+b-a-1,true)
def spreadC:Con:=con1 gK (fun i=>[aT i.p,zC i.a,zC i.b]) (fun _=>[]) (fun i=>i.p.small) (fun i=> .tup [zC (i.p.spread i.a i.b).1,yJ (i.p.spread i.a i.b).2]) (fun _=>[])
def Prd.price (p:Prd) (i n:Int):Int:=
 if p.count=0 then 1 else if i<0∨(p.count:Int)≤i then 20 else if wZ p.tick n then 22 else
 if n<(if(p.months.length:Int)≤i then-p.wide else p.low)∨(if(p.months.length:Int)≤i then p.wide else p.high)<n then 23 else 0
def priceC:Con:=con1 gK (fun i=>[aT i.p,zC i.a,zC i.b]) (fun _=>[]) (fun i=>i.p.small) (fun i=>zC (i.p.price i.a i.b)) (fun _=>[])
structure I2 where
 x:Int
 y:Int
@[reducible] def yI (n:Int):Prop:= -9223372036854775808≤n∧n≤9223372036854775807
def kQ (x y:Int):Int×Bool:=if yI (x+y)then(x+y,true)else(0,false)
def kU (x y:Int):Int×Bool:=if yI (x-y)then(x-y,true)else(0,false)
def addC:Con:=con1 I2 (fun i=>[zC i.x,zC i.y]) (fun _=>[]) (fun i=>yI i.x∧yI i.y) (fun i=> .tup [zC (kQ i.x i.y).1,yJ (kQ i.x i.y).2]) (fun _=>[])
def subC:Con:=con1 I2 (fun i=>[zC i.x,zC i.y]) (fun _=>[]) (fun i=>yI i.x∧yI i.y) (fun i=> .tup [zC (kU i.x i.y).1,yJ (kU i.x i.y).2]) (fun _=>[])
def yBm (i:fG):List SAnn:=[{ι:=Nat,slots:=fun m=>[(8,zC (yU i.p.months.length m)),(33,zC m)],rows:=fun _=>[]}]
def z3t (i:gK):List SAnn:=[{ι:=Nat,slots:=fun m=>[(9,zC (yU i.p.months.length m)),(33,zC m)],rows:=fun _=>[]}]
open Go Cv Go.Proofs
def z9w (i:zFg):Prop:=
 IntKind.i64=IntKind.i64∧i.p.tick≠0∧∃(o:Unit),wZ i.p.tick i.n=(i.n.tmod i.p.tick !=0)∧sb i.p.code=sb i.p.code∧iE i.p.months=iE i.p.months∧i.p.tick=i.p.tick∧i.p.low=i.p.low∧i.p.high=i.p.high∧i.p.wide=i.p.wide∧i.p.rule=i.p.rule∧i.p.top=i.p.top∧i.p.least=i.p.least∧i.p.part=i.p.part∧iE i.p.settle=iE i.p.settle∧True
theorem yCr (hG:GOk Tryz.prog ([])) (h:∀(i:zFg),offC.cnd i→z9w i):offC.ok Tryz.prog 109:=okw mixed hG 0 (fun _=>[]) (fun _=>[]) [] Tryz.func109 h
def z8l (i:eN):Prop:=
 ∃(i0:Nat),(↑i0:Int)=0∧∃(I:Nat→Prop),∃(μ:Nat→Nat),I i0∧∀(i_1:Nat),I i_1→cnd (decide ((↑i_1:Int)<(↑(iE i.l).length:Int))) ((0≤(↑i_1:Int)∧(↑i_1:Int)<(↑(iE i.l).length:Int))∧∃(n:Int),zI (iE i.l) (↑i_1:Int).toNat 0 1=some [D.v (.int .i64 n)]∧∃(i_2:zFg),i_2.n=n∧sb i_2.p.code=sb i.p.code∧iE i_2.p.months=iE i.p.months∧i_2.p.tick=i.p.tick∧i_2.p.low=i.p.low∧i_2.p.high=i.p.high∧i_2.p.wide=i.p.wide∧i_2.p.rule=i.p.rule∧i_2.p.top=i.p.top∧i_2.p.least=i.p.least∧i_2.p.part=i.p.part∧iE i_2.p.settle=iE i.p.settle∧1≤i_2.p.tick∧∀(o:Unit),True→cnd (wZ i_2.p.tick i_2.n) (∃(o:Unit),nO (List.findIdx? (wZ i.p.tick) i.l)=(↑i_1:Int)∧sb i.p.code=sb i_2.p.code∧iE i.p.months=iE i_2.p.months∧i.p.tick=i_2.p.tick∧i.p.low=i_2.p.low∧i.p.high=i_2.p.high∧i.p.wide=i_2.p.wide∧i.p.rule=i_2.p.rule∧i.p.top=i_2.p.top∧i.p.least=i_2.p.least∧i.p.part=i_2.p.part∧iE i.p.settle=iE i_2.p.settle∧True) (∃(i':Nat),(↑i':Int)=IntKind.i64.wrap ((↑i_1:Int)+1)∧I i'∧μ i'<μ i_1∧Sx.AObj.cells (uR (uI 1 ((1:Nat)+(0:Nat)) ((1:Nat)-(1:Nat)) [((0:Nat),(0:Nat))]) i_2.p.cells) (29:TypeId)=i.p.row)) (∃(o:Unit),nO (List.findIdx? (wZ i.p.tick) i.l)=(-1)∧sb i.p.code=sb i.p.code∧iE i.p.months=iE i.p.months∧i.p.tick=i.p.tick∧i.p.low=i.p.low∧i.p.high=i.p.high∧i.p.wide=i.p.wide∧i.p.rule=i.p.rule∧i.p.top=i.p.top∧i.p.least=i.p.least∧i.p.part=i.p.part∧iE i.p.settle=iE i.p.settle∧True)
theorem yBa (hG:GOk Tryz.prog ([(109,offC)])) (h:∀(i:eN),idxC.cnd i→z8l i):idxC.ok Tryz.prog 125:=okw mixed hG 0 (fun _=>[]) (fun i=>yDp i) [] Tryz.func125 h
def zBk (i:eN):Prop:=
 ∃(i_1:eN),iE i_1.l=iE i.l∧sb i_1.p.code=sb i.p.code∧iE i_1.p.months=iE i.p.months∧i_1.p.tick=i.p.tick∧i_1.p.low=i.p.low∧i_1.p.high=i.p.high∧i_1.p.wide=i.p.wide∧i_1.p.rule=i.p.rule∧i_1.p.top=i.p.top∧i_1.p.least=i.p.least∧i_1.p.part=i.p.part∧iE i_1.p.settle=iE i.p.settle∧(1≤i_1.p.tick∧i_1.l.length≤1099511627776)∧∀(o:Unit),True→∃(o:Unit),i.l.any (wZ i.p.tick)=decide (nO (List.findIdx? (wZ i_1.p.tick) i_1.l)≥0)∧sb i.p.code=sb i_1.p.code∧iE i.p.months=iE i_1.p.months∧i.p.tick=i_1.p.tick∧i.p.low=i_1.p.low∧i.p.high=i_1.p.high∧i.p.wide=i_1.p.wide∧i.p.rule=i_1.p.rule∧i.p.top=i_1.p.top∧i.p.least=i_1.p.least∧i.p.part=i_1.p.part∧iE i.p.settle=iE i_1.p.settle∧True
theorem zKc (hG:GOk Tryz.prog ([(125,idxC)])) (h:∀(i:eN),containsC.cnd i→zBk i):containsC.ok Tryz.prog 110:=okw mixed hG 0 (fun _=>[]) (fun _=>[]) [] Tryz.func110 h
def zLk (p:Prd):Prop:=
 cnd (decide (p.tick<1)) (∃(o:Unit),qU p=false∧True) (cnd (decide (p.tick>1000)) (∃(o:Unit),qU p=false∧True) (∃(i:zFg),i.n=p.low∧sb i.p.code=sb p.code∧iE i.p.months=iE p.months∧i.p.tick=p.tick∧i.p.low=p.low∧i.p.high=p.high∧i.p.wide=p.wide∧i.p.rule=p.rule∧i.p.top=p.top∧i.p.least=p.least∧i.p.part=p.part∧iE i.p.settle=iE p.settle∧1≤i.p.tick∧∀(o:Unit),True→cnd (!wZ i.p.tick i.n) (∃(i_1:zFg),i_1.n=i.p.high∧sb i_1.p.code=sb i.p.code∧iE i_1.p.months=iE i.p.months∧i_1.p.tick=i.p.tick∧i_1.p.low=i.p.low∧i_1.p.high=i.p.high∧i_1.p.wide=i.p.wide∧i_1.p.rule=i.p.rule∧i_1.p.top=i.p.top∧i_1.p.least=i.p.least∧i_1.p.part=i.p.part∧iE i_1.p.settle=iE i.p.settle∧1≤i_1.p.tick∧∀(o:Unit),True→cnd (!wZ i_1.p.tick i_1.n) (∃(i:zFg),i.n=i_1.p.wide∧sb i.p.code=sb i_1.p.code∧iE i.p.months=iE i_1.p.months∧i.p.tick=i_1.p.tick∧i.p.low=i_1.p.low∧i.p.high=i_1.p.high∧i.p.wide=i_1.p.wide∧i.p.rule=i_1.p.rule∧i.p.top=i_1.p.top∧i.p.least=i_1.p.least∧i.p.part=i_1.p.part∧iE i.p.settle=iE i_1.p.settle∧1≤i.p.tick∧∀(o:Unit),True→cnd (!wZ i.p.tick i.n) (∃(i_2:eN),iE i_2.l=iE i.p.settle∧sb i_2.p.code=sb i.p.code∧iE i_2.p.months=iE i.p.months∧i_2.p.tick=i.p.tick∧i_2.p.low=i.p.low∧i_2.p.high=i.p.high∧i_2.p.wide=i.p.wide∧i_2.p.rule=i.p.rule∧i_2.p.top=i.p.top∧i_2.p.least=i.p.least∧i_2.p.part=i.p.part∧iE i_2.p.settle=iE i.p.settle∧(1≤i_2.p.tick∧i_2.l.length≤1099511627776)∧∀(o:Unit),True→∃(o:Unit),qU p=!i_2.l.any (wZ i_2.p.tick)∧True) (∃(o:Unit),qU p=false∧True)) (∃(o:Unit),qU p=false∧True)) (∃(o:Unit),qU p=false∧True)))
theorem zYy (hG:GOk Tryz.prog ([(109,offC),(110,containsC)])) (h:∀(p:Prd),ticksC.cnd p→zLk p):ticksC.ok Tryz.prog 84:=okw mixed hG 0 (fun _=>[]) (fun _=>[]) [] Tryz.func84 h
def zKy (p:Prd):Prop:=
 ∃(i:List UInt8),sb i=sb p.code∧i.length≤1099511627776∧∀(o:Unit),True→cnd (!vD i) (∃(o:Unit),p.check=12∧True) (∃(i:List Int),iE i=iE p.months∧i.length≤1099511627776∧∀(o:Unit),True→cnd (!xK i) (∃(o:Unit),p.check=1∧True) (∃(i:Prd),sb i.code=sb p.code∧iE i.months=iE p.months∧i.tick=p.tick∧i.low=p.low∧i.high=p.high∧i.wide=p.wide∧i.rule=p.rule∧i.top=p.top∧i.least=p.least∧i.part=p.part∧iE i.settle=iE p.settle∧(i.code.length≤1099511627776∧i.months.length≤1099511627776∧i.settle.length≤1099511627776)∧∀(o:Unit),True→cnd (!qU i) (∃(o:Unit),p.check=22∧True) (cnd (decide (p.low<(-1000000))) (∃(o:Unit),p.check=23∧True) (cnd (decide (p.low≥p.high)) (∃(o:Unit),p.check=23∧True) (cnd (decide (p.high>1000000)) (∃(o:Unit),p.check=23∧True) (cnd (decide (p.wide<0)) (∃(o:Unit),p.check=23∧True) (cnd (decide (p.wide>IntKind.i64.wrap (p.high-p.low))) (∃(o:Unit),p.check=23∧True) (cnd ((↑(iE p.settle).length:Int) !=(↑(iE p.months).length:Int)) (∃(o:Unit),p.check=1∧True) (∃(i:List Int),iE i=iE p.settle∧(0<i.length∧i.length≤1099511627776)∧∀(o:Unit),True→p.low=p.low∧cnd (decide (fX i<p.low)) (∃(o:Unit),p.check=1∧True) (∃(i:List Int),iE i=iE p.settle∧(0<i.length∧i.length≤1099511627776)∧∀(o:Unit),True→p.high=p.high∧cnd (decide (cL i>p.high)) (∃(o:Unit),p.check=1∧True) (cnd (decide (p.rule<1)) (∃(o:Unit),p.check=31∧True) (cnd (decide (p.rule>3)) (∃(o:Unit),p.check=31∧True) (cnd (decide (p.top<0)) (∃(o:Unit),p.check=24∧True) (cnd (decide (p.top>1000000)) (∃(o:Unit),p.check=24∧True) (cnd (decide (p.least<1)) (∃(o:Unit),p.check=24∧True) (cnd (decide (p.least>1000)) (∃(o:Unit),p.check=24∧True) (cnd (decide (p.part<0)) (∃(o:Unit),p.check=24∧True) (cnd (decide (p.part>100)) (∃(o:Unit),p.check=24∧True) (∃(o:Unit),p.check=0∧True)))))))))))))))))))
theorem zYu (hG:GOk Tryz.prog ([(82,symC),(83,monthsC),(84,ticksC),(85,minC),(86,maxC)])) (h:∀(p:Prd),checkC.cnd p→zKy p):checkC.ok Tryz.prog 50:=okw mixed hG 0 (fun _=>[]) (fun _=>[]) [] Tryz.func50 h
def zMm (p:Prd):Prop:=
 ∃(i:Prd),sb i.code=sb p.code∧iE i.months=iE p.months∧i.tick=p.tick∧i.low=p.low∧i.high=p.high∧i.wide=p.wide∧i.rule=p.rule∧i.top=p.top∧i.least=p.least∧i.part=p.part∧iE i.settle=iE p.settle∧(i.code.length≤1099511627776∧i.months.length≤1099511627776∧i.settle.length≤1099511627776)∧∀(o:Unit),True→cnd (i.check !=0) (∃(o:Unit),(↑p.count:Int)=0∧True) (IntKind.i64=IntKind.i64∧(2:Int)≠(0:Int)∧∃(o:Unit),(↑p.count:Int)=IntKind.i64.wrap ((↑(iE p.months).length:Int)+IntKind.i64.wrap ((IntKind.i64.wrap ((↑(iE p.months).length:Int)*IntKind.i64.wrap ((↑(iE p.months).length:Int)-1))).tdiv 2))∧True)
theorem zVt (hG:GOk Tryz.prog ([(50,checkC)])) (h:∀(p:Prd),pcountC.cnd p→zMm p):pcountC.ok Tryz.prog 24:=okw mixed hG 0 (fun _=>[]) (fun _=>[]) [] Tryz.func24 h
@[reducible] def zMf (i:fG):AObj:=Sx.AObj.cells [V.d (D.v (Value.string (sb i.p.code))),V.own (0:Nat),V.d (D.v (.int .i64 i.p.tick)),V.d (D.v (.int .i64 i.p.low)),V.d (D.v (.int .i64 i.p.high)),V.d (D.v (.int .i64 i.p.wide)),V.d (D.v (.int .i64 i.p.rule)),V.d (D.v (.int .i64 i.p.top)),V.d (D.v (.int .i64 i.p.least)),V.d (D.v (.int .i64 i.p.part)),V.own ((0:Nat)+(1:Nat))] (29:Nat)
def z4n (i:fG):Prop:=
 ∃(i_1:Prd),sb i_1.code=sb i.p.code∧iE i_1.months=iE i.p.months∧i_1.tick=i.p.tick∧i_1.low=i.p.low∧i_1.high=i.p.high∧i_1.wide=i.p.wide∧i_1.rule=i.p.rule∧i_1.top=i.p.top∧i_1.least=i.p.least∧i_1.part=i.p.part∧iE i_1.settle=iE i.p.settle∧(i_1.code.length≤1099511627776∧i_1.months.length≤1099511627776∧i_1.settle.length≤1099511627776)∧∀(o:Unit),True→cnd (decide (i.n<0)) (∃(o:Unit),(i.p.legs i.n).fst=0∧(i.p.legs i.n).snd.fst=0∧(i.p.legs i.n).snd.snd=false∧True) (cnd (decide (i.n≥(↑i_1.count:Int))) (∃(o:Unit),(i.p.legs i.n).fst=0∧(i.p.legs i.n).snd.fst=0∧(i.p.legs i.n).snd.snd=false∧True) (cnd (decide (i.n<(↑(iE i.p.months).length:Int))) (∃(o:Unit),(i.p.legs i.n).fst=i.n∧(i.p.legs i.n).snd.fst=i.n∧(i.p.legs i.n).snd.snd=false∧True) (∃(i0:Nat),(↑(yU i.p.months.length i0):Int)=(↑(iE i.p.months).length:Int)∧(↑i0:Int)=0∧∃(I:Nat→Prop),∃(μ:Nat→Nat),I i0∧∀(i_2:Nat),I i_2→cnd (decide ((↑i_2:Int)<(↑(iE i.p.months).length:Int))) (cnd (decide (i.n<IntKind.i64.wrap ((↑(yU i.p.months.length i_2):Int)+IntKind.i64.wrap (IntKind.i64.wrap ((↑(iE i.p.months).length:Int)-1)-(↑i_2:Int))))) (∃(o:Unit),(i.p.legs i.n).fst=(↑i_2:Int)∧(i.p.legs i.n).snd.fst=IntKind.i64.wrap (IntKind.i64.wrap (IntKind.i64.wrap ((↑i_2:Int)+1)+i.n)-(↑(yU i.p.months.length i_2):Int))∧(i.p.legs i.n).snd.snd=true∧True) (∃(i':Nat),(↑(yU i.p.months.length i'):Int)=IntKind.i64.wrap ((↑(yU i.p.months.length i_2):Int)+IntKind.i64.wrap (IntKind.i64.wrap ((↑(iE i.p.months).length:Int)-1)-(↑i_2:Int)))∧(↑i':Int)=IntKind.i64.wrap ((↑i_2:Int)+1)∧I i'∧μ i'<μ i_2∧zMf i=zMf i∧AObj.fro 1 (iE i.p.settle)=AObj.fro 1 (iE i.p.settle)∧AObj.fro 1 (iE i.p.months)=AObj.fro 1 (iE i.p.months))) (∃(o:Unit),(i.p.legs i.n).fst=0∧(i.p.legs i.n).snd.fst=0∧(i.p.legs i.n).snd.snd=false∧True))))
theorem z8p (hG:GOk Tryz.prog ([(24,pcountC)])) (h:∀(i:fG),legsC.cnd i→z4n i):legsC.ok Tryz.prog 51:=okw mixed hG 0 (fun _=>[]) (fun i=>yBm i) [] Tryz.func51 h
@[reducible] def zAn (i:gK):AObj:=Sx.AObj.cells [V.d (D.v (Value.string (sb i.p.code))),V.own (0:Nat),V.d (D.v (.int .i64 i.p.tick)),V.d (D.v (.int .i64 i.p.low)),V.d (D.v (.int .i64 i.p.high)),V.d (D.v (.int .i64 i.p.wide)),V.d (D.v (.int .i64 i.p.rule)),V.d (D.v (.int .i64 i.p.top)),V.d (D.v (.int .i64 i.p.least)),V.d (D.v (.int .i64 i.p.part)),V.own ((0:Nat)+(1:Nat))] (29:Nat)
def zOo (i:gK):Prop:=
 ∃(i_1:Prd),sb i_1.code=sb i.p.code∧iE i_1.months=iE i.p.months∧i_1.tick=i.p.tick∧i_1.low=i.p.low∧i_1.high=i.p.high∧i_1.wide=i.p.wide∧i_1.rule=i.p.rule∧i_1.top=i.p.top∧i_1.least=i.p.least∧i_1.part=i.p.part∧iE i_1.settle=iE i.p.settle∧(i_1.code.length≤1099511627776∧i_1.months.length≤1099511627776∧i_1.settle.length≤1099511627776)∧∀(o:Unit),True→cnd (i_1.check !=0) (∃(o:Unit),(i.p.spread i.a i.b).fst=0∧(i.p.spread i.a i.b).snd=false∧True) (cnd (decide (i.a<0)) (∃(o:Unit),(i.p.spread i.a i.b).fst=0∧(i.p.spread i.a i.b).snd=false∧True) (cnd (decide (i.a≥i.b)) (∃(o:Unit),(i.p.spread i.a i.b).fst=0∧(i.p.spread i.a i.b).snd=false∧True) (cnd (decide (i.b≥(↑(iE i.p.months).length:Int))) (∃(o:Unit),(i.p.spread i.a i.b).fst=0∧(i.p.spread i.a i.b).snd=false∧True) (∃(i0:Nat),(↑(yU i.p.months.length i0):Int)=(↑(iE i.p.months).length:Int)∧(↑i0:Int)=0∧∃(I:Nat→Prop),∃(μ:Nat→Nat),I i0∧∀(i_2:Nat),I i_2→cnd (decide ((↑i_2:Int)<i.a)) (∃(i':Nat),(↑(yU i.p.months.length i'):Int)=IntKind.i64.wrap ((↑(yU i.p.months.length i_2):Int)+IntKind.i64.wrap (IntKind.i64.wrap ((↑(iE i.p.months).length:Int)-1)-(↑i_2:Int)))∧(↑i':Int)=IntKind.i64.wrap ((↑i_2:Int)+1)∧I i'∧μ i'<μ i_2∧zAn i=zAn i∧AObj.fro 1 (iE i.p.settle)=AObj.fro 1 (iE i.p.settle)∧AObj.fro 1 (iE i.p.months)=AObj.fro 1 (iE i.p.months)) (∃(o:Unit),(i.p.spread i.a i.b).fst=IntKind.i64.wrap (IntKind.i64.wrap (IntKind.i64.wrap ((↑(yU i.p.months.length i_2):Int)+i.b)-i.a)-1)∧(i.p.spread i.a i.b).snd=true∧True)))))
theorem zVu (hG:GOk Tryz.prog ([(50,checkC)])) (h:∀(i:gK),spreadC.cnd i→zOo i):spreadC.ok Tryz.prog 54:=okw mixed hG 0 (fun _=>[]) (fun i=>z3t i) [] Tryz.func54 h
def zTx (i:gK):Prop:=
 ∃(i_1:Prd),sb i_1.code=sb i.p.code∧iE i_1.months=iE i.p.months∧i_1.tick=i.p.tick∧i_1.low=i.p.low∧i_1.high=i.p.high∧i_1.wide=i.p.wide∧i_1.rule=i.p.rule∧i_1.top=i.p.top∧i_1.least=i.p.least∧i_1.part=i.p.part∧iE i_1.settle=iE i.p.settle∧(i_1.code.length≤1099511627776∧i_1.months.length≤1099511627776∧i_1.settle.length≤1099511627776)∧∀(o:Unit),True→cnd ((↑i_1.count:Int)==0) (∃(o:Unit),i.p.price i.a i.b=1∧True) (cnd (decide (i.a<0)) (∃(o:Unit),i.p.price i.a i.b=20∧True) (cnd (decide (i.a≥(↑i_1.count:Int))) (∃(o:Unit),i.p.price i.a i.b=20∧True) (IntKind.i64=IntKind.i64∧i.p.tick≠0∧cnd (i.b.tmod i.p.tick !=0) (∃(o:Unit),i.p.price i.a i.b=22∧True) (cnd (decide (i.a≥(↑(iE i.p.months).length:Int))) (cnd (decide (i.b<IntKind.i64.wrap (0-i.p.wide))) (∃(o:Unit),i.p.price i.a i.b=23∧True) (cnd (decide (i.b>i.p.wide)) (∃(o:Unit),i.p.price i.a i.b=23∧True) (∃(o:Unit),i.p.price i.a i.b=0∧True))) (cnd (decide (i.b<i.p.low)) (∃(o:Unit),i.p.price i.a i.b=23∧True) (cnd (decide (i.b>i.p.high)) (∃(o:Unit),i.p.price i.a i.b=23∧True) (∃(o:Unit),i.p.price i.a i.b=0∧True)))))))
theorem z1y (hG:GOk Tryz.prog ([(24,pcountC)])) (h:∀(i:gK),priceC.cnd i→zTx i):priceC.ok Tryz.prog 72:=okw mixed hG 0 (fun _=>[]) (fun _=>[]) [] Tryz.func72 h
def z9x (i:I2):Prop:=
 cnd (decide (i.x<0)==decide (i.y<0)) (cnd (!decide (IntKind.i64.wrap (i.x+i.y)<0)==decide (i.x<0)) (∃(o:Unit),(kQ i.x i.y).fst=0∧(kQ i.x i.y).snd=false∧True) (∃(o:Unit),(kQ i.x i.y).fst=IntKind.i64.wrap (i.x+i.y)∧(kQ i.x i.y).snd=true∧True)) (∃(o:Unit),(kQ i.x i.y).fst=IntKind.i64.wrap (i.x+i.y)∧(kQ i.x i.y).snd=true∧True)
theorem yAw (hG:GOk Tryz.prog ([])) (h:∀(i:I2),addC.cnd i→z9x i):addC.ok Tryz.prog 87:=okw mixed hG 0 (fun _=>[]) (fun _=>[]) [] Tryz.func87 h
def z4s (i:I2):Prop:=
 cnd (!decide (i.x<0)==decide (i.y<0)) (cnd (!decide (IntKind.i64.wrap (i.x-i.y)<0)==decide (i.x<0)) (∃(o:Unit),(kU i.x i.y).fst=0∧(kU i.x i.y).snd=false∧True) (∃(o:Unit),(kU i.x i.y).fst=IntKind.i64.wrap (i.x-i.y)∧(kU i.x i.y).snd=true∧True)) (∃(o:Unit),(kU i.x i.y).fst=IntKind.i64.wrap (i.x-i.y)∧(kU i.x i.y).snd=true∧True)
theorem yCm (hG:GOk Tryz.prog ([])) (h:∀(i:I2),subC.cnd i→z4s i):subC.ok Tryz.prog 88:=okw mixed hG 0 (fun _=>[]) (fun _=>[]) [] Tryz.func88 h
open Go Cv Go.Proofs
theorem yDw (i:zFg) (h:offC.cnd i):z9w i:=by
 have h:1≤i.p.tick:=h
 unfold z9w;exact kp
theorem zYf:offC.ok Tryz.prog 109:=yCr gok0 yDw
theorem mY {α:Type} {f:α→Bool} {l:List α} (h:∀(k:Nat) (x:α),l[k]? =some x→f x=false):l.findIdx? f=none:=by
 rw[List.findIdx?_eq_none_iff]
 intro x hx
 obtain⟨k,hk⟩:=List.getElem?_of_mem hx
 exact h k x hk
theorem nC {α:Type} {f:α→Bool} {l:List α} {j:Nat} {x:α} (h1:l[j]? =some x) (h2:f x=true) (h:∀k<j,∀x:α,l[k]? =some x→f x=false):l.findIdx? f=some j:=by
 rw[List.findIdx?_eq_some_iff_getElem]
 obtain⟨hj,rfl⟩:=List.getElem?_eq_some_iff.1 h1
 exact⟨hj,h2,fun k hk=>by rw[h k hk _ (List.getElem?_eq_getElem (by omega))];simp⟩
theorem yDz (i:eN) (h:idxC.cnd i):z8l i:=by
 obtain⟨h1,h2⟩:1≤i.p.tick∧i.l.length≤1099511627776:=h
 unfold z8l
 simp only[yR]
 refine⟨0,rfl,fun j=>j≤i.l.length∧∀k<j,∀x,i.l[k]? =some x→wZ i.p.tick x=false,fun j=>i.l.length-j,⟨by omega,fun k hk=>by omega⟩,?_⟩
 rintro j ⟨h3,h4⟩
 refine zU (fun hj=> ?_) (fun hj=> ?_)
 ·obtain⟨n,hn⟩:=yD (l:=i.l) (i:=j) (by omega)
  refine⟨⟨by omega,by omega⟩,n,elI hn,⟨i.p,n⟩,?_⟩
  (repeat'(first|exact rfl|exact trivial|assumption|apply And.intro|refine fun(_:Unit) (_:True)=>?_|refine Exists.intro () ?_|omega|(dsimp only;omega)))
  refine Cv.cnd.mk (fun e=> ?_) (fun e=> ?_)
  ·rw[nC hn e h4];exact kp
  ·refine⟨j+1,by rw[w64 (by omega)];rfl,⟨by omega,fun k hk x hx=> ?_⟩,by(first|omega|(dsimp only;omega)),rfl⟩
   rcases Nat.lt_or_ge k j with hk'|hk'
   ·exact h4 k hk' x hx
   ·obtain rfl:k=j:=by omega
    rw[hn]at hx;cases hx;exact e
 ·rw[mY fun k x hx=>h4 k (by have:=(List.getElem?_eq_some_iff.1 hx).1;omega) x hx];exact kp
theorem z9m:idxC.ok Tryz.prog 125:=yBa (gokc zYf gok0) yDz
theorem zRo {l:List Int} {f:Int→Bool}:l.any f=decide (nO (l.findIdx? f)≥0):=by
 cases hf:l.findIdx? f with
 |none=>
  rw[List.findIdx?_eq_none_iff]at hf
  have:l.any f=false:=by rw[List.any_eq_false];intro x hx;simp[hf x hx]
  rw[this];rfl
 |some k=>
  rw[List.findIdx?_eq_some_iff_getElem]at hf
  obtain⟨hk,h1,_⟩:=hf
  have:l.any f=true:=by rw[List.any_eq_true];exact⟨_,List.getElem_mem hk,h1⟩
  rw[this,nO,decide_eq_true (by omega)]
theorem zQl (i:eN) (h:containsC.cnd i):zBk i:=by
 have h':1≤i.p.tick∧i.l.length≤1099511627776:=h
 refine⟨i,?_⟩
 (repeat'(first|exact rfl|exact trivial|assumption|apply And.intro|refine fun(_:Unit) (_:True)=>?_|refine Exists.intro () ?_|omega|(dsimp only;omega)))
 exact zRo
theorem zEv:containsC.ok Tryz.prog 110:=zKc (gokc z9m gok0) zQl
theorem z7u (p:Prd) (h:ticksC.cnd p):zLk p:=by
 obtain⟨h1,h2,h3⟩:p.small:=h
 unfold zLk
 refine zU (fun c1=>⟨(),by rw[qU,decide_eq_false (by omega)];rfl,trivial⟩) (fun c1=>zU (fun c2=>⟨(),by rw[qU,decide_eq_false (show ¬p.tick≤1000 by omega)];simp,trivial⟩) (fun c2=>⟨⟨p,p.low⟩,?_⟩))
 have e1:qU p=(!wZ p.tick p.low && !wZ p.tick p.high && !wZ p.tick p.wide && !p.settle.any (wZ p.tick)):=by
  rw[qU,decide_eq_true (by omega),decide_eq_true (by omega)];rfl
 rw[e1]
 (repeat'(first|exact rfl|exact trivial|assumption|apply And.intro|refine fun(_:Unit) (_:True)=>?_|refine Exists.intro () ?_|omega|(dsimp only;omega)))
 refine Cv.cnd.mk (fun c3=>⟨⟨p,p.high⟩,?_⟩) (fun c3=>⟨(),?_,trivial⟩)
 ·dsimp only at c3
  (repeat'(first|exact rfl|exact trivial|assumption|apply And.intro|refine fun(_:Unit) (_:True)=>?_|refine Exists.intro () ?_|omega|(dsimp only;omega)))
  refine Cv.cnd.mk (fun c4=>⟨⟨p,p.wide⟩,?_⟩) (fun c4=>⟨(),?_,trivial⟩)
  ·dsimp only at c4
   (repeat'(first|exact rfl|exact trivial|assumption|apply And.intro|refine fun(_:Unit) (_:True)=>?_|refine Exists.intro () ?_|omega|(dsimp only;omega)))
   refine Cv.cnd.mk (fun c5=>⟨⟨p,p.settle⟩,?_⟩) (fun c5=>⟨(),?_,trivial⟩)
   ·dsimp only at c5
    (repeat'(first|exact rfl|exact trivial|assumption|apply And.intro|refine fun(_:Unit) (_:True)=>?_|refine Exists.intro () ?_|omega|(dsimp only;omega)))
    rw[c3,c4,c5];simp
   ·dsimp only at c5
    rw[c5];simp
  ·dsimp only at c4
   rw[c4];simp
 ·dsimp only at c3
  rw[c3];simp
theorem zXn:ticksC.ok Tryz.prog 84:=zYy (gokc zYf (gokc zEv gok0)) z7u
theorem z9s (p:Prd) (h:checkC.cnd p):zKy p:=by
 obtain⟨h1,h2,h3⟩:p.small:=h
 unfold zKy
 simp only[yR]
 refine⟨p.code,rfl,h1,fun _ _=>Cv.cnd.mk (fun c1=>⟨(),by rw[Prd.check,if_pos c1],trivial⟩) (fun c1=>⟨p.months,rfl,h2,fun _ _=>Cv.cnd.mk (fun c2=>⟨(),by rw[Prd.check,if_neg (by simp[c1]),if_pos c2],trivial⟩) (fun c2=>⟨p,?_⟩)⟩)⟩
 (repeat'(first|exact rfl|exact trivial|assumption|apply And.intro|refine fun(_:Unit) (_:True)=>?_|refine Exists.intro () ?_|omega|(dsimp only;omega)))
 refine Cv.cnd.mk (fun c3=>⟨(),by rw[Prd.check,if_neg (by simp[c1]),if_neg (by simp[c2]),if_pos c3],trivial⟩) (fun c3=> ?_)
 have e0:p.check=if wS p then 23 else if kZ p then 1 else if vE p then 31 else if wD p then 24 else 0:=by
  rw[Prd.check,if_neg (by simp[c1]),if_neg (by simp[c2]),if_neg (by simp[c3])]
 have b (hb:wS p=true):∃(o:Unit),p.check=23∧True:=⟨(),by rw[e0,if_pos hb],trivial⟩
 refine zU (fun d1=>b (by simp[wS,d1])) fun d1=>zU (fun d2=>b (by simp[wS];omega)) fun d2=>zU (fun d3=>b (by simp[wS];omega)) fun d3=>zU (fun d4=>b (by simp[wS];omega)) fun d4=> ?_
 rw[w64 (by omega)]
 refine zU (fun d5=>b (by simp[wS];omega)) fun d5=> ?_
 have e1:p.check=if kZ p then 1 else if vE p then 31 else if wD p then 24 else 0:=by
  rw[e0,if_neg (by simp[wS];omega)]
 have s (hb:kZ p=true):∃(o:Unit),p.check=1∧True:=⟨(),by rw[e1,if_pos hb],trivial⟩
 have hm:2≤p.months.length:=by
  have c2:xK p.months=true:=by simpa using c2
  simp[xK]at c2;omega
 refine Cv.cnd.mk (fun d6=>s (by have d6:¬(p.settle.length:Int)=p.months.length:=(by simpa using d6);simp[kZ];omega)) fun d6=> ?_
 have d6:p.settle.length=p.months.length:=by
  have:(p.settle.length:Int)=p.months.length:=by simpa using d6
  omega
 refine⟨p.settle,rfl,⟨by omega,by omega⟩,fun _ _=>⟨kp,zU (fun d7=>s (by simp[kZ];left;right;omega)) fun d7=>⟨p.settle,rfl,⟨by omega,by omega⟩,fun _ _=>⟨kp,zU (fun d8=>s (by simp[kZ];right;omega)) fun d8=> ?_⟩⟩⟩⟩
 have e2:p.check=if vE p then 31 else if wD p then 24 else 0:=by
  rw[e1,if_neg (by simp[kZ];omega)]
 have r (hb:vE p=true):∃(o:Unit),p.check=31∧True:=⟨(),by rw[e2,if_pos hb],trivial⟩
 refine zU (fun d9=>r (by simp[vE];omega)) fun d9=>zU (fun d10=>r (by simp[vE];omega)) fun d10=> ?_
 have e3:p.check=if wD p then 24 else 0:=by
  rw[e2,if_neg (by simp[vE];omega)]
 have q (hb:wD p=true):∃(o:Unit),p.check=24∧True:=⟨(),by rw[e3,if_pos hb],trivial⟩
 refine zU (fun f1=>q (by simp[wD];omega)) fun f1=>zU (fun f2=>q (by simp[wD];omega)) fun f2=>zU (fun f3=>q (by simp[wD];omega)) fun f3=>zU (fun f4=>q (by simp[wD];omega)) fun f4=>zU (fun f5=>q (by simp[wD];omega)) fun f5=>zU (fun f6=>q (by simp[wD];omega)) fun f6=> ?_
 exact⟨(),by rw[e3,if_neg (by simp[wD];omega)],trivial⟩
theorem mJ:checkC.ok Tryz.prog 50:=zYu (gokc z8t (gokc zQy (gokc zXn (gokc z7p (gokc z9u gok0))))) z9s
structure Prd.Ok (p:Prd):Prop where
 sym:vD p.code=true
 months:xK p.months=true
 ticks:qU p=true
 m2:2≤p.months.length
 m6:p.months.length≤6
 t1:1≤p.tick
 t2:p.tick≤1000
 b1: -1000000≤p.low
 b2:p.low<p.high
 b3:p.high≤1000000
 b4:0≤p.wide
 b5:p.wide≤p.high-p.low
 s1:p.settle.length=p.months.length
 s2:p.low≤fX p.settle
 s3:cL p.settle≤p.high
 r1:1≤p.rule
 r2:p.rule≤3
 q1:0≤p.top
 q2:p.top≤1000000
 q3:1≤p.least
 q4:p.least≤1000
 q5:0≤p.part
 q6:p.part≤100
theorem jB {p:Prd} (h:p.check=0):p.Ok:=by
 unfold Prd.check at h
 split at h<;>first|(exfalso;revert h;decide)|skip
 rename_i c1
 split at h<;>first|(exfalso;revert h;decide)|skip
 rename_i c2
 split at h<;>first|(exfalso;revert h;decide)|skip
 rename_i c3
 split at h<;>first|(exfalso;revert h;decide)|skip
 rename_i c4
 split at h<;>first|(exfalso;revert h;decide)|skip
 rename_i c5
 split at h<;>first|(exfalso;revert h;decide)|skip
 rename_i c6
 split at h<;>first|(exfalso;revert h;decide)|skip
 rename_i c7
 simp only[Bool.not_eq_true',Bool.not_eq_false,Bool.not_eq_true]at c1 c2 c3
 have m:=c2
 have t:=c3
 simp[xK]at m
 simp[qU]at t
 simp[wS]at c4
 simp[kZ]at c5
 simp[vE]at c6
 simp[wD]at c7
 exact⟨c1,c2,c3,by omega,by omega,by omega,by omega,by omega,by omega,by omega,by omega,by omega,by omega,by omega,by omega,by omega,by omega,by omega,by omega,by omega,by omega,by omega,by omega⟩
theorem zWk {n:Nat} (h:n≤6):n+n*(n-1) / 2≤21:=by
 have:∀n≤6,n+n*(n-1) / 2≤21:=by decide
 exact this n h
theorem z3r (p:Prd) (h:pcountC.cnd p):zMm p:=by
 obtain⟨h1,h2,h3⟩:p.small:=h
 refine⟨p,?_⟩
 simp only[yR]
 (repeat'(first|exact rfl|exact trivial|assumption|apply And.intro|refine fun(_:Unit) (_:True)=>?_|refine Exists.intro () ?_|omega|(dsimp only;omega)))
 refine Cv.cnd.mk (fun c=>⟨(),by rw[Prd.count,if_neg (by simpa using c)];rfl,trivial⟩) (fun c=> ?_)
 have c:p.check=0:=by simpa using c
 have ok:=jB c
 refine⟨kp,by decide,(),?_,trivial⟩
 rw[Prd.count,if_pos c]
 obtain⟨n,hn⟩:∃n,p.months.length=n:=⟨_,rfl⟩
 have m2:=ok.m2
 have m6:=ok.m6
 rw[hn]at m2 m6 ⊢
 have:n=2∨n=3∨n=4∨n=5∨n=6:=by omega
 rcases this with rfl|rfl|rfl|rfl|rfl<;>rfl
theorem uY:pcountC.ok Tryz.prog 24:=zVt (gokc mJ gok0) z3r
theorem dB {p:Prd} (h:p.count≠0):p.check=0:=by
 unfold Prd.count at h
 split at h
 ·assumption
 ·exact absurd rfl h
theorem xJ (p:Prd):p.count≤21:=by
 unfold Prd.count
 split
 ·rename_i h;exact zWk (jB h).m6
 ·omega
theorem zFz {n m:Nat} (h:n≤6) (hm:m≤n):yU n m≤21:=by
 have:∀n≤6,∀m≤n,yU n m≤21:=by decide
 exact this n h m hm
theorem yCk (i:fG) (h:legsC.cnd i):z4n i:=by
 obtain⟨h1,h2,h3⟩:i.p.small:=h
 refine⟨i.p,?_⟩
 simp only[yR]
 (repeat'(first|exact rfl|exact trivial|assumption|apply And.intro|refine fun(_:Unit) (_:True)=>?_|refine Exists.intro () ?_|omega|(dsimp only;omega)))
 refine zU (fun c1=> ?_) (fun c1=>zU (fun c2=> ?_) (fun c2=> ?_))
 ·rw[Prd.legs,if_pos (by omega)];exact kp
 ·rw[Prd.legs,if_pos (by omega)];exact kp
 have c2:¬i.n≥(i.p.count:Int):=c2
 have hc:=xJ i.p
 have ok:=jB (dB (p:=i.p) (by omega))
 have m6:=ok.m6
 refine zU (fun c3=> ?_) (fun c3=> ?_)
 ·rw[Prd.legs,if_neg (by omega),if_pos c3];exact kp
 have e0:i.p.legs i.n=x6 i.p.months.length i.n.toNat i.p.months.length 0:=by
  rw[Prd.legs,if_neg (by omega),if_neg c3]
 rw[e0]
 generalize hn:i.p.months.length=n at c3 m6 ⊢
 obtain⟨k,hk⟩:∃k:Nat,i.n=k:=⟨i.n.toNat,by omega⟩
 rw[hk]at c2 c3 ⊢
 refine⟨0,rfl,rfl,fun m=>m≤n∧yU n m≤k∧x6 n k n 0=x6 n k (n-m) m,fun m=>n-m,⟨by omega,by show n≤k;omega,rfl⟩,?_⟩
 rintro m ⟨g1,g2,g3⟩
 have hf:=zFz m6 g1
 refine zU (fun c4=> ?_) (fun c4=> ?_)
 ·obtain⟨r,hr⟩:∃r,n-m=r+1:=⟨n-m-1,by omega⟩
  have e1:(k:Int).toNat=k:=by omega
  rw[e1,g3,hr,w64 (x:=(n:Int)-1) (by omega),w64 (x:=(n:Int)-1-m) (by omega),w64 (x:=(yU n m:Int)+((n:Int)-1-m)) (by omega),w64 (x:=(m:Int)+1) (by omega)]
  rw[hr]at g3
  refine zU (fun c5=> ?_) (fun c5=> ?_)
  ·rw[w64 (x:=(m:Int)+1+k) (by omega),w64 (x:=(m:Int)+1+k-(yU n m:Int)) (by omega),x6,if_pos (by omega)]
   refine⟨(),rfl,?_,rfl,trivial⟩
   dsimp only;omega
  ·refine⟨m+1,?_,rfl,⟨by omega,?_,?_⟩,by(first|omega|(dsimp only;omega)),kp⟩
   ·rw[yU];omega
   ·rw[yU];omega
   ·rw[x6,if_neg (by omega),show n-(m+1)=r by omega]
 ·have e1:(k:Int).toNat=k:=by omega
  rw[e1,g3,show n-m=0 by omega]
  exact⟨(),rfl,rfl,rfl,trivial⟩
theorem dS:legsC.ok Tryz.prog 51:=z8p (gokc uY gok0) yCk
theorem z2f (i:gK) (h:spreadC.cnd i):zOo i:=by
 obtain⟨h1,h2,h3⟩:i.p.small:=h
 refine⟨i.p,?_⟩
 simp only[yR]
 (repeat'(first|exact rfl|exact trivial|assumption|apply And.intro|refine fun(_:Unit) (_:True)=>?_|refine Exists.intro () ?_|omega|(dsimp only;omega)))
 have bad (hb:i.p.check≠0∨i.a<0∨i.b≤i.a∨(i.p.months.length:Int)≤i.b):∃(o:Unit),(i.p.spread i.a i.b).fst=0∧(i.p.spread i.a i.b).snd=false∧True:=⟨(),by rw[Prd.spread,if_pos hb],by rw[Prd.spread,if_pos hb],trivial⟩
 refine Cv.cnd.mk (fun c1=>bad (.inl (by simpa using c1))) fun c1=>zU (fun c2=>bad (by omega)) fun c2=>zU (fun c3=>bad (by omega)) fun c3=>zU (fun c4=>bad (by omega)) fun c4=> ?_
 have c1:i.p.check=0:=by simpa using c1
 have m6:=(jB c1).m6
 rw[Prd.spread,if_neg (by omega)]
 generalize hn:i.p.months.length=n at c4 m6 ⊢
 obtain⟨a,ha⟩:∃k:Nat,i.a=k:=⟨i.a.toNat,by omega⟩
 rw[ha]at c3 ⊢
 refine⟨0,rfl,rfl,fun m=>m≤a,fun m=>a-m,by omega,?_⟩
 intro m hm
 have hm:m≤a:=hm
 have hf:=zFz (m:=m) m6 (by omega)
 refine zU (fun c5=> ?_) (fun c5=> ?_)
 ·rw[w64 (x:=(n:Int)-1) (by omega),w64 (x:=(n:Int)-1-m) (by omega),w64 (x:=(yU n m:Int)+((n:Int)-1-m)) (by omega),w64 (x:=(m:Int)+1) (by omega)]
  refine⟨m+1,?_,rfl,by omega,by(first|omega|(dsimp only;omega)),kp⟩
  rw[yU];omega
 ·obtain rfl:m=a:=by omega
  rw[w64 (x:=(yU n m:Int)+i.b) (by omega),w64 (x:=(yU n m:Int)+i.b-m) (by omega),w64 (x:=(yU n m:Int)+i.b-m-1) (by omega)]
  exact⟨(),rfl,rfl,trivial⟩
theorem zBn:spreadC.ok Tryz.prog 54:=zVu (gokc mJ gok0) z2f
theorem z6f (i:gK) (h:priceC.cnd i):zTx i:=by
 obtain⟨h1,h2,h3⟩:i.p.small:=h
 refine⟨i.p,?_⟩
 simp only[yR]
 (repeat'(first|exact rfl|exact trivial|assumption|apply And.intro|refine fun(_:Unit) (_:True)=>?_|refine Exists.intro () ?_|omega|(dsimp only;omega)))
 refine Cv.cnd.mk (fun c1=>⟨(),by rw[Prd.price,if_pos (by have:(i.p.count:Int)=0:=(by simpa using c1);omega)],trivial⟩) fun c1=> ?_
 have c1:i.p.count≠0:=by
  have:¬(i.p.count:Int)=0:=by simpa using c1
  omega
 have e0:i.p.price i.a i.b=if i.a<0∨(i.p.count:Int)≤i.a then 20 else if wZ i.p.tick i.b then 22 else
  if i.b<(if(i.p.months.length:Int)≤i.a then-i.p.wide else i.p.low)∨(if(i.p.months.length:Int)≤i.a then i.p.wide else i.p.high)<i.b then 23 else 0:=by rw[Prd.price,if_neg c1]
 rw[e0]
 have ok:=jB (dB c1)
 obtain⟨t1,b3,b1,b2,b4,b5⟩:=(⟨ok.t1,ok.b3,ok.b1,ok.b2,ok.b4,ok.b5⟩:_∧_∧_∧_∧_∧_)
 refine zU (fun c2=>⟨(),by rw[if_pos (.inl c2)],trivial⟩) fun c2=>zU (fun c3=>⟨(),by rw[if_pos (.inr c3)],trivial⟩) fun c3=>⟨kp,by omega,?_⟩
 have c3:¬i.a≥(i.p.count:Int):=c3
 rw[if_neg (by omega)]
 refine Cv.cnd.mk (fun c4=>⟨(),if_pos c4,trivial⟩) fun c4=> ?_
 rw[if_neg (by rw[wZ,c4];simp),w64 (x:=0-i.p.wide) (by omega)]
 refine zU (fun c5=> ?_) (fun c5=> ?_)
 ·have c5:(i.p.months.length:Int)≤i.a:=c5
  simp only[if_pos c5]
  refine zU (fun c6=>⟨(),if_pos (.inl (by omega)),trivial⟩) fun c6=>zU (fun c7=>⟨(),if_pos (.inr (by omega)),trivial⟩) fun c7=>⟨(),if_neg (by omega),trivial⟩
 ·have c5:¬(i.p.months.length:Int)≤i.a:=c5
  simp only[if_neg c5]
  refine zU (fun c6=>⟨(),if_pos (.inl (by omega)),trivial⟩) fun c6=>zU (fun c7=>⟨(),if_pos (.inr (by omega)),trivial⟩) fun c7=>⟨(),if_neg (by omega),trivial⟩
theorem fY:priceC.ok Tryz.prog 72:=z1y (gokc uY gok0) z6f
theorem z3u (x:Int) (h: -18446744073709551616≤x∧x<18446744073709551616):(yI x∧IntKind.i64.wrap x=x)∨(9223372036854775807<x∧IntKind.i64.wrap x=x-18446744073709551616)∨(x< -9223372036854775808∧IntKind.i64.wrap x=x+18446744073709551616):=by
 have e:IntKind.i64.wrap x=if(decide (x % 18446744073709551616≥9223372036854775808))=true then x % 18446744073709551616-18446744073709551616 else x % 18446744073709551616:=by
  have:IntKind.i64.wrap x=if(true && decide (x % 18446744073709551616≥9223372036854775808))=true then x % 18446744073709551616-18446744073709551616 else x % 18446744073709551616:=rfl
  rw[this,Bool.true_and]
 have e:IntKind.i64.wrap x=(x+9223372036854775808) % 18446744073709551616-9223372036854775808:=by
  rw[e]
  by_cases h2:x % 18446744073709551616≥9223372036854775808
  ·rw[if_pos (decide_eq_true h2)];omega
  ·rw[if_neg (by simpa using h2)];omega
 rw[e]
 by_cases h1:yI x
 ·exact .inl ⟨h1,by unfold yI at h1;omega⟩
 ·unfold yI at h1
  omega
theorem yCx (i:I2) (h:addC.cnd i):z9x i:=by
 obtain⟨⟨x1,x2⟩,y1,y2⟩:yI i.x∧yI i.y:=h
 have hw:=z3u (i.x+i.y) (by omega)
 unfold z9x kQ
 generalize IntKind.i64.wrap (i.x+i.y)=w at hw ⊢
 unfold yI at hw ⊢
 refine Cv.cnd.mk (fun c1=>Cv.cnd.mk (fun c2=> ?_) (fun c2=> ?_)) (fun c1=> ?_)
 all_goals(simp at*)
 ·rw[if_neg (by omega)];exact kp
 ·rw[if_pos (by omega)];refine⟨?_,rfl⟩;dsimp only;omega
 ·rw[if_pos (by omega)];refine⟨?_,rfl⟩;dsimp only;omega
theorem zDo:addC.ok Tryz.prog 87:=yAw gok0 yCx
theorem yEf (i:I2) (h:subC.cnd i):z4s i:=by
 obtain⟨⟨x1,x2⟩,y1,y2⟩:yI i.x∧yI i.y:=h
 have hw:=z3u (i.x-i.y) (by omega)
 unfold z4s kU
 generalize IntKind.i64.wrap (i.x-i.y)=w at hw ⊢
 unfold yI at hw ⊢
 refine Cv.cnd.mk (fun c1=>Cv.cnd.mk (fun c2=> ?_) (fun c2=> ?_)) (fun c1=> ?_)
 all_goals(simp at*)
 ·rw[if_neg (by omega)];exact kp
 ·rw[if_pos (by omega)];refine⟨?_,rfl⟩;dsimp only;omega
 ·rw[if_pos (by omega)];refine⟨?_,rfl⟩;dsimp only;omega
theorem zDy:subC.ok Tryz.prog 88:=yCm gok0 yEf
open Go Cv Go.Proofs
structure Slot where
 used:Bool
 n:Int
 id:Int
 qty:Int
 top:Bool
 queue:Int
 ahead:Int
 back:Int
 deriving DecidableEq
structure x3 where
 first:Int
 last:Int
 total:Int
 count:Int
 deriving DecidableEq
structure Arena where
 slots:List Slot
 queues:List x3
 free:Int
 deriving DecidableEq
def zL (s:Slot):List D:=[.v (.bool s.used),.v (.int .i64 s.n),.v (.int .i64 s.id),.v (.int .i64 s.qty),.v (.bool s.top),.v (.int .i64 s.queue),.v (.int .i64 s.ahead),.v (.int .i64 s.back)]
def zH (q:x3):List D:=[.v (.int .i64 q.first),.v (.int .i64 q.last),.v (.int .i64 q.total),.v (.int .i64 q.count)]
def slot0:Slot:=⟨false,0,0,0,false,0,0,0⟩
def zD (a:Arena):Nat→AObj
 |0=> .cells [.own 1,.own 2,zC a.free] 185
 |1=> .own 193 8 (a.slots.map zL)
 |2=> .own 199 4 (a.queues.map zH)
 |_=> .gone
def qA (a:Arena):AObj:= .adt Arena 3 zD a
structure yX where
 price:Int
 queue:Int
 deriving DecidableEq
structure Place where
 side:Int
 price:Int
 slot:Int
 deriving DecidableEq
structure Book where
 a:Arena
 buys:List yX
 sells:List yX
 at_:List (Int×Place)
 top1:Int
 top2:Int
 spare:List Int
 has1:Bool
 has2:Bool
 deriving DecidableEq
def zA (r:yX):List D:=[.v (.int .i64 r.price),.v (.int .i64 r.queue)]
def zLn (p:Place):List D:=[.v (.int .i64 p.side),.v (.int .i64 p.price),.v (.int .i64 p.slot)]
def atE (l:List (Int×Place)):List (Value×List D):=l.map fun x=>(.int .i64 x.1,zLn x.2)
def zM (b:Book):Nat→AObj
 |0=> .cells [.nm 1 0,.own 2,.own 3,.mp 4,zC b.top1,zC b.top2,.own 5,yJ b.has1,yJ b.has2] 144
 |1=>qA b.a
 |2=> .own 147 2 (b.buys.map zA)
 |3=> .own 147 2 (b.sells.map zA)
 |4=> .map (atE b.at_)
 |5=> .own 3 1 (iE b.spare)
 |_=> .gone
def yA (b:Book):AObj:= .adt Book 6 zM b
structure MSt where
 p:Prd
 books:List Book
 wh:List (Int×Int)
def yB (l:List (Int×Int)):List (Value×List D):=l.map fun x=>(.int .i64 x.1,[.v (.int .i64 x.2)])
def z8 (s:MSt):Nat→AObj
 |0=> .cells [sV s.p.code,.own 3,zC s.p.tick,zC s.p.low,zC s.p.high,zC s.p.wide,zC s.p.rule,zC s.p.top,zC s.p.least,zC s.p.part,.own 4,.own 1,.mp 2] 101
 |1=> .objs 102 Book 6 zM s.books none
 |2=> .map (yB s.wh)
 |3=> .fro 1 (iE s.p.months)
 |4=> .fro 1 (iE s.p.settle)
 |_=> .gone
def zE (s:MSt):AObj:= .adt MSt 5 z8 s
def pX (n:Nat):Arena:=⟨List.replicate n slot0,[],n⟩
def book0:Book:=⟨pX 250,[],[],[],0,0,[],false,false⟩
def newAC:Con:=con1 Nat (fun n=>[zC n]) (fun _=>[]) (fun n=>1≤n∧n≤4096) (fun _=> .tup [.nm 0 0,zC 0]) (fun n=>[qA (pX n)])
def newBC:Con:=con1 Unit (fun _=>[]) (fun _=>[]) (fun _=>True) (fun _=> .nm 0 0) (fun _=>[yA book0])
def wJ (p:Prd):MSt:=⟨p,List.replicate p.count book0,[]⟩
def newSC:Con where
 ι:=Prd
 pat:=fun p=>[aT p]
 pre:=fun _=>[]
 cnd:=fun p=>p.small
 alts:=fun p=>[{o:=Unit,res:=fun _=> .tup [.nm 0 0,zC 0],post:=fun _=>[zE (wJ p)],rel:=fun _=>p.check=0},{o:=Unit,res:=fun _=> .tup [.d (.v (.pointer none)),zC p.check],post:=fun _=>[],rel:=fun _=>p.check≠0}]
def yBu (p:Prd):List SAnn:=[{ι:=Nat,slots:=fun j=>[(5,.nm 0 0),(27,zC j)],rows:=fun j=>(List.range 5).map (z8 ⟨p,List.replicate j book0,[]⟩)}]
def clSlotC:Con:=con1 (List Slot) (fun _=>[.own 0]) (fun l=>[.own 193 8 (l.map zL)]) (fun l=>l.length≤1000000) (fun _=> .own 1) (fun l=>[.own 193 8 (l.map zL),.own 193 8 (l.map zL)])
def clQueueC:Con:=con1 (List x3) (fun _=>[.own 0]) (fun l=>[.own 199 4 (l.map zH)]) (fun l=>l.length≤1000000) (fun _=> .own 1) (fun l=>[.own 199 4 (l.map zH),.own 199 4 (l.map zH)])
def clRungC:Con:=con1 (List yX) (fun _=>[.own 0]) (fun l=>[.own 147 2 (l.map zA)]) (fun l=>l.length≤1000000) (fun _=> .own 1) (fun l=>[.own 147 2 (l.map zA),.own 147 2 (l.map zA)])
def clIntC:Con:=con1 (List Int) (fun _=>[.own 0]) (fun l=>[.own 3 1 (iE l)]) (fun l=>l.length≤1000000) (fun _=> .own 1) (fun l=>[.own 3 1 (iE l),.own 3 1 (iE l)])
def zYm (f:Nat):Con:=con1 (List (Value×List D)) (fun _=>[.mp 0]) (fun es=>[.map es]) (fun _=>True) (fun _=> .mp 1) (fun es=>[.map es,.map es])
def clAtC:Con:=zYm 0
def clWhC:Con:=zYm 1
@[reducible] def Arena.small (a:Arena):Prop:=a.slots.length≤1000000∧a.queues.length≤1000000
@[reducible] def Book.small (b:Book):Prop:=b.a.small∧b.buys.length≤1000000∧b.sells.length≤1000000∧b.spare.length≤1000000
@[reducible] def MSt.small (s:MSt):Prop:=s.books.length≤1000000∧∀b∈s.books,b.small
def copyAC:Con:=con1 Arena (fun _=>[.nm 0 0]) (fun a=>[qA a]) Arena.small (fun _=> .nm 1 0) (fun a=>[qA a,qA a])
def copyBC:Con:=con1 Book (fun _=>[.nm 0 0]) (fun b=>[yA b]) Book.small (fun _=> .nm 1 0) (fun b=>[yA b,yA b])
def z5w:List SAnn:=[{ι:=Unit,slots:=fun _=>[],rows:=fun _=>[],un:=3}]
def copySC:Con:=con1 MSt (fun _=>[.nm 0 0]) (fun s=>[zE s]) MSt.small (fun _=> .nm 1 0) (fun s=>[zE s,zE s])
open Go Cv Go.Proofs
def zVv (n:Nat):Prop:=
 cnd (decide ((↑n:Int)<1)) (∃(o:Unit),False) (cnd (decide ((↑n:Int)>4096)) (∃(o:Unit),False) ((0≤(↑n:Int)∧(↑n:Int)≤(↑n:Int)∧(↑n:Int)≤9223372036854775807∧(↑(64:Nat):Int)*(↑n:Int)≤2 ^ (48:Nat))∧∃(o:Unit),(0:Int)=(0:Int)∧(↑n:Int)=(↑n:Int)∧List.map zL (List.replicate n slot0)=List.replicate (↑n:Int).toNat [D.v (.bool false),D.v (.int .i64 0),D.v (.int .i64 0),D.v (.int .i64 0),D.v (.bool false),D.v (.int .i64 0),D.v (.int .i64 0),D.v (.int .i64 0)]∧([]:List (List D))=[]∧True))
theorem z5d (hG:GOk Tryz.prog ([])) (h:∀(n:Nat),newAC.cnd n→zVv n):newAC.ok Tryz.prog 95:=okw mixed hG 0 (fun _=>[]) (fun _=>[]) [] Tryz.func95 h
def yCj (u:Unit):Prop:=
 ∃(i:Nat),(↑i:Int)=250∧(1≤i∧i≤4096)∧∀(o:Unit),True→∃(o:Unit),(0:Int)=(0:Int)∧(0:Int)=(0:Int)∧false=false∧false=false∧AObj.adt Arena 3 zD (pX 250)=AObj.adt Arena 3 zD (pX i)∧([]:List (List D))=[]∧([]:List (List D))=[]∧atE []=[]∧iE []=[]∧True
theorem z6c (hG:GOk Tryz.prog ([(95,newAC)])) (h:∀(u:Unit),newBC.cnd u→yCj u):newBC.ok Tryz.prog 68:=okw mixed hG 0 (fun _=>[]) (fun _=>[]) [] Tryz.func68 h
@[reducible] def zMd (p:Prd):AObj:=Sx.AObj.cells [V.d (D.v (Value.string (sb p.code))),V.own ((0:Nat)+(1:Nat)+(1:Nat)+(1:Nat)+((0:Nat)-(0:Nat))+(1:Nat)),V.d (D.v (.int .i64 p.tick)),V.d (D.v (.int .i64 p.low)),V.d (D.v (.int .i64 p.high)),V.d (D.v (.int .i64 p.wide)),V.d (D.v (.int .i64 p.rule)),V.d (D.v (.int .i64 p.top)),V.d (D.v (.int .i64 p.least)),V.d (D.v (.int .i64 p.part)),V.own ((0:Nat)+(1:Nat)+(1:Nat)+(1:Nat)+((0:Nat)-(0:Nat))+(1:Nat)+(1:Nat)+(1:Nat))] (29:Nat)
@[reducible] def pQ (p:Prd):AObj:=Sx.AObj.cells [V.d (D.v (Value.string (sb p.code))),V.own ((0:Nat)+(1:Nat)+(1:Nat)+(1:Nat)+((0:Nat)-(0:Nat))+(1:Nat)+(1:Nat)),V.d (D.v (.int .i64 p.tick)),V.d (D.v (.int .i64 p.low)),V.d (D.v (.int .i64 p.high)),V.d (D.v (.int .i64 p.wide)),V.d (D.v (.int .i64 p.rule)),V.d (D.v (.int .i64 p.top)),V.d (D.v (.int .i64 p.least)),V.d (D.v (.int .i64 p.part)),V.own ((0:Nat)+(1:Nat)+(1:Nat)+(1:Nat)+((0:Nat)-(0:Nat))+(1:Nat)+(1:Nat)+(1:Nat))] (29:Nat)
def z3x (p:Prd):Prop:=
 ∃(i:Prd),sb i.code=sb p.code∧iE i.months=iE p.months∧i.tick=p.tick∧i.low=p.low∧i.high=p.high∧i.wide=p.wide∧i.rule=p.rule∧i.top=p.top∧i.least=p.least∧i.part=p.part∧iE i.settle=iE p.settle∧(i.code.length≤1099511627776∧i.months.length≤1099511627776∧i.settle.length≤1099511627776)∧∀(o:Unit),True→cnd (i.check !=0) ((∃(o:Unit),False)∨∃(o:Unit),True∧p.check=i.check∧(p.check=0→False)) ((True∧True∧((0+(iE p.months).length)*(8:Nat)≤(70368744177664:Nat)∧True∧True∧(0+(iE p.settle).length)*(8:Nat)≤(70368744177664:Nat)∧∃(i:Prd),sb i.code=sb p.code∧iE i.months=[]++iE p.months∧i.tick=p.tick∧i.low=p.low∧i.high=p.high∧i.wide=p.wide∧i.rule=p.rule∧i.top=p.top∧i.least=p.least∧i.part=p.part∧iE i.settle=[]++iE p.settle∧(i.code.length≤1099511627776∧i.months.length≤1099511627776∧i.settle.length≤1099511627776)∧∀(o:Unit),True→∃(i0:Nat),(↑i0:Int)=0∧sb p.code=sb p.code∧p.tick=p.tick∧p.low=p.low∧p.high=p.high∧p.wide=p.wide∧p.rule=p.rule∧p.top=p.top∧p.least=p.least∧p.part=p.part∧List.replicate i0 book0=[]∧(none:Option Nat)=none∧yB []=[]∧AObj.fro 1 (iE p.months)=AObj.fro 1 ([]++iE p.months)∧AObj.fro 1 (iE p.settle)=AObj.fro 1 ([]++iE p.settle)∧∃(I:Nat→Prop),∃(μ:Nat→Nat),I i0∧∀(i_1:Nat),I i_1→cnd (decide ((↑i_1:Int)<(↑i.count:Int))) (∃(i:Unit),True∧∀(o:Unit),True→True∧True∧∃(l1':List Book),AObj.objs 102 Book 6 zM (List.replicate i_1 book0) none=AObj.objs 102 Book 6 zM l1' none∧(l1'.length+1)*(8:Nat)≤(70368744177664:Nat)∧∃(i':Nat),(↑i':Int)=IntKind.i64.wrap ((↑i_1:Int)+1)∧sb p.code=sb p.code∧p.tick=p.tick∧p.low=p.low∧p.high=p.high∧p.wide=p.wide∧p.rule=p.rule∧p.top=p.top∧p.least=p.least∧p.part=p.part∧AObj.objs 102 Book 6 zM (List.replicate i' book0) none=AObj.objs 102 Book 6 zM (l1'++[book0]) none∧yB []=yB []∧AObj.fro 1 (iE p.months)=AObj.fro 1 (iE p.months)∧AObj.fro 1 (iE p.settle)=AObj.fro 1 (iE p.settle)∧I i'∧μ i'<μ i_1∧AObj.fro 1 ([]++iE p.settle)=AObj.fro 1 ([]++iE p.settle)∧AObj.fro 1 ([]++iE p.months)=AObj.fro 1 ([]++iE p.months)∧zMd p=zMd p∧AObj.fro 1 (iE p.settle)=AObj.fro 1 (iE p.settle)∧AObj.fro 1 (iE p.months)=AObj.fro 1 (iE p.months)) ((∃(o:Unit),(0:Int)=(0:Int)∧sb p.code=sb p.code∧p.tick=p.tick∧p.low=p.low∧p.high=p.high∧p.wide=p.wide∧p.rule=p.rule∧p.top=p.top∧p.least=p.least∧p.part=p.part∧AObj.objs 102 Book 6 zM (List.replicate p.count book0) none=AObj.objs 102 Book 6 zM (List.replicate i_1 book0) none∧yB []=yB []∧AObj.fro 1 (iE p.months)=AObj.fro 1 (iE p.months)∧AObj.fro 1 (iE p.settle)=AObj.fro 1 (iE p.settle)∧p.check=0)∨∃(o:Unit),False))∧True∧True∧(0+(iE p.months).length)*(8:Nat)≤(70368744177664:Nat)∧True∧(0+(iE p.settle).length)*(8:Nat)≤(70368744177664:Nat)∧∃(i:Prd),sb i.code=sb p.code∧iE i.months=[]++iE p.months∧i.tick=p.tick∧i.low=p.low∧i.high=p.high∧i.wide=p.wide∧i.rule=p.rule∧i.top=p.top∧i.least=p.least∧i.part=p.part∧iE i.settle=[]++iE p.settle∧(i.code.length≤1099511627776∧i.months.length≤1099511627776∧i.settle.length≤1099511627776)∧∀(o:Unit),True→∃(i0:Nat),(↑i0:Int)=0∧sb p.code=sb p.code∧p.tick=p.tick∧p.low=p.low∧p.high=p.high∧p.wide=p.wide∧p.rule=p.rule∧p.top=p.top∧p.least=p.least∧p.part=p.part∧List.replicate i0 book0=[]∧(none:Option Nat)=none∧yB []=[]∧AObj.fro 1 (iE p.months)=AObj.fro 1 ([]++iE p.months)∧AObj.fro 1 (iE p.settle)=AObj.fro 1 ([]++iE p.settle)∧∃(I:Nat→Prop),∃(μ:Nat→Nat),I i0∧∀(i_1:Nat),I i_1→cnd (decide ((↑i_1:Int)<(↑i.count:Int))) (∃(i:Unit),True∧∀(o:Unit),True→True∧True∧∃(l1':List Book),AObj.objs 102 Book 6 zM (List.replicate i_1 book0) none=AObj.objs 102 Book 6 zM l1' none∧(l1'.length+1)*(8:Nat)≤(70368744177664:Nat)∧∃(i':Nat),(↑i':Int)=IntKind.i64.wrap ((↑i_1:Int)+1)∧sb p.code=sb p.code∧p.tick=p.tick∧p.low=p.low∧p.high=p.high∧p.wide=p.wide∧p.rule=p.rule∧p.top=p.top∧p.least=p.least∧p.part=p.part∧AObj.objs 102 Book 6 zM (List.replicate i' book0) none=AObj.objs 102 Book 6 zM (l1'++[book0]) none∧yB []=yB []∧AObj.fro 1 (iE p.months)=AObj.fro 1 (iE p.months)∧AObj.fro 1 (iE p.settle)=AObj.fro 1 (iE p.settle)∧I i'∧μ i'<μ i_1∧AObj.fro 1 ([]++iE p.settle)=AObj.fro 1 ([]++iE p.settle)∧AObj.fro 1 ([]++iE p.months)=AObj.fro 1 ([]++iE p.months)∧pQ p=pQ p∧AObj.fro 1 (iE p.settle)=AObj.fro 1 (iE p.settle)∧AObj.fro 1 (iE p.months)=AObj.fro 1 (iE p.months)) ((∃(o:Unit),(0:Int)=(0:Int)∧sb p.code=sb p.code∧p.tick=p.tick∧p.low=p.low∧p.high=p.high∧p.wide=p.wide∧p.rule=p.rule∧p.top=p.top∧p.least=p.least∧p.part=p.part∧AObj.objs 102 Book 6 zM (List.replicate p.count book0) none=AObj.objs 102 Book 6 zM (List.replicate i_1 book0) none∧yB []=yB []∧AObj.fro 1 (iE p.months)=AObj.fro 1 (iE p.months)∧AObj.fro 1 (iE p.settle)=AObj.fro 1 (iE p.settle)∧p.check=0)∨∃(o:Unit),False))∧True∧True∧True∧True∧(0+(iE p.months).length)*(8:Nat)≤(70368744177664:Nat)∧True∧(0+(iE p.settle).length)*(8:Nat)≤(70368744177664:Nat)∧∃(i:Prd),sb i.code=sb p.code∧iE i.months=[]++iE p.months∧i.tick=p.tick∧i.low=p.low∧i.high=p.high∧i.wide=p.wide∧i.rule=p.rule∧i.top=p.top∧i.least=p.least∧i.part=p.part∧iE i.settle=[]++iE p.settle∧(i.code.length≤1099511627776∧i.months.length≤1099511627776∧i.settle.length≤1099511627776)∧∀(o:Unit),True→∃(i0:Nat),(↑i0:Int)=0∧sb p.code=sb p.code∧p.tick=p.tick∧p.low=p.low∧p.high=p.high∧p.wide=p.wide∧p.rule=p.rule∧p.top=p.top∧p.least=p.least∧p.part=p.part∧List.replicate i0 book0=[]∧(none:Option Nat)=none∧yB []=[]∧AObj.fro 1 (iE p.months)=AObj.fro 1 ([]++iE p.months)∧AObj.fro 1 (iE p.settle)=AObj.fro 1 ([]++iE p.settle)∧∃(I:Nat→Prop),∃(μ:Nat→Nat),I i0∧∀(i_1:Nat),I i_1→cnd (decide ((↑i_1:Int)<(↑i.count:Int))) (∃(i:Unit),True∧∀(o:Unit),True→True∧True∧∃(l1':List Book),AObj.objs 102 Book 6 zM (List.replicate i_1 book0) none=AObj.objs 102 Book 6 zM l1' none∧(l1'.length+1)*(8:Nat)≤(70368744177664:Nat)∧∃(i':Nat),(↑i':Int)=IntKind.i64.wrap ((↑i_1:Int)+1)∧sb p.code=sb p.code∧p.tick=p.tick∧p.low=p.low∧p.high=p.high∧p.wide=p.wide∧p.rule=p.rule∧p.top=p.top∧p.least=p.least∧p.part=p.part∧AObj.objs 102 Book 6 zM (List.replicate i' book0) none=AObj.objs 102 Book 6 zM (l1'++[book0]) none∧yB []=yB []∧AObj.fro 1 (iE p.months)=AObj.fro 1 (iE p.months)∧AObj.fro 1 (iE p.settle)=AObj.fro 1 (iE p.settle)∧I i'∧μ i'<μ i_1∧AObj.fro 1 ([]++iE p.settle)=AObj.fro 1 ([]++iE p.settle)∧AObj.fro 1 ([]++iE p.months)=AObj.fro 1 ([]++iE p.months)∧pQ p=pQ p∧AObj.fro 1 (iE p.settle)=AObj.fro 1 (iE p.settle)∧AObj.fro 1 (iE p.months)=AObj.fro 1 (iE p.months)) ((∃(o:Unit),(0:Int)=(0:Int)∧sb p.code=sb p.code∧p.tick=p.tick∧p.low=p.low∧p.high=p.high∧p.wide=p.wide∧p.rule=p.rule∧p.top=p.top∧p.least=p.least∧p.part=p.part∧AObj.objs 102 Book 6 zM (List.replicate p.count book0) none=AObj.objs 102 Book 6 zM (List.replicate i_1 book0) none∧yB []=yB []∧AObj.fro 1 (iE p.months)=AObj.fro 1 (iE p.months)∧AObj.fro 1 (iE p.settle)=AObj.fro 1 (iE p.settle)∧p.check=0)∨∃(o:Unit),False))
theorem z7v (hG:GOk Tryz.prog ([(50,checkC),(24,pcountC),(68,newBC)])) (h:∀(p:Prd),newSC.cnd p→z3x p):newSC.ok Tryz.prog 37:=okw mixed hG 0 (fun _=>[]) (fun p=>yBu p) [] Tryz.func37 h
def z2z (l:List Slot):Prop:=
 ∀(b:Bool),(b=true→List.map zL l=[])→cnd b (∃(o:Unit),List.map zL l=List.map zL l∧List.map zL l=[]∧True) ((0+(List.map zL l).length)*(64:Nat)≤(70368744177664:Nat)∧∃(o:Unit),List.map zL l=List.map zL l∧List.map zL l=[]++List.map zL l∧True)
theorem zYl (hG:GOk Tryz.prog ([])) (h:∀(l:List Slot),clSlotC.cnd l→z2z l):clSlotC.ok Tryz.prog 122:=okw mixed hG 0 (fun _=>[]) (fun _=>[]) [] Tryz.func122 h
def zTt (l:List x3):Prop:=
 ∀(b:Bool),(b=true→List.map zH l=[])→cnd b (∃(o:Unit),List.map zH l=List.map zH l∧List.map zH l=[]∧True) ((0+(List.map zH l).length)*(32:Nat)≤(70368744177664:Nat)∧∃(o:Unit),List.map zH l=List.map zH l∧List.map zH l=[]++List.map zH l∧True)
theorem zRq (hG:GOk Tryz.prog ([])) (h:∀(l:List x3),clQueueC.cnd l→zTt l):clQueueC.ok Tryz.prog 123:=okw mixed hG 0 (fun _=>[]) (fun _=>[]) [] Tryz.func123 h
def z2n (l:List yX):Prop:=
 ∀(b:Bool),(b=true→List.map zA l=[])→cnd b (∃(o:Unit),List.map zA l=List.map zA l∧List.map zA l=[]∧True) ((0+(List.map zA l).length)*(16:Nat)≤(70368744177664:Nat)∧∃(o:Unit),List.map zA l=List.map zA l∧List.map zA l=[]++List.map zA l∧True)
theorem zVk (hG:GOk Tryz.prog ([])) (h:∀(l:List yX),clRungC.cnd l→z2n l):clRungC.ok Tryz.prog 105:=okw mixed hG 0 (fun _=>[]) (fun _=>[]) [] Tryz.func105 h
def z5o (l:List Int):Prop:=
 ∀(b:Bool),(b=true→iE l=[])→cnd b (∃(o:Unit),iE l=iE l∧iE l=[]∧True) ((0+(iE l).length)*(8:Nat)≤(70368744177664:Nat)∧∃(o:Unit),iE l=iE l∧iE l=[]++iE l∧True)
theorem z0s (hG:GOk Tryz.prog ([])) (h:∀(l:List Int),clIntC.cnd l→z5o l):clIntC.ok Tryz.prog 58:=okw mixed hG 0 (fun _=>[]) (fun _=>[]) [] Tryz.func58 h
def zVw (es:List (Value×List D)):Prop:=
 ∃(i:List (Value×List D)),i=es∧True∧∀(o:Unit),True→∃(o:Unit),es=i∧es=i∧True
theorem z4x (es:List (Value×List D)):zVw es=walk Tryz.prog ([(102,vK 142)]) 0 ([]) ([]) [] Tryz.f104 (Tryz.f104.body.getD .skip) (clAtC.pat es) (clAtC.pre es) (clAtC.alts es):=by kernel_rfl
theorem z6x (hG:GOk Tryz.prog ([(102,vK 142)])) (h:∀(es:List (Value×List D)),clAtC.cnd es→zVw es):clAtC.ok Tryz.prog 104:=c8 mixed ([(102,vK 142)]) hG 0 (fun(es:List (Value×List D))=>[]) (fun(es:List (Value×List D))=>[]) [] Tryz.func104 (by kernel_rfl) (by kernel_rfl) (by kernel_rfl) (fun _=>by kernel_rfl) (fun(es:List (Value×List D)) hc=>Eq.mp (z4x es) (h es hc))
def zWz (es:List (Value×List D)):Prop:=
 ∃(i:List (Value×List D)),i=es∧True∧∀(o:Unit),True→∃(o:Unit),es=i∧es=i∧True
theorem z6g (es:List (Value×List D)):zWz es=walk Tryz.prog ([(102,vK 99)]) 0 ([]) ([]) [] Tryz.f78 (Tryz.f78.body.getD .skip) (clWhC.pat es) (clWhC.pre es) (clWhC.alts es):=by kernel_rfl
theorem z8c (hG:GOk Tryz.prog ([(102,vK 99)])) (h:∀(es:List (Value×List D)),clWhC.cnd es→zWz es):clWhC.ok Tryz.prog 78:=c8 mixed ([(102,vK 99)]) hG 0 (fun(es:List (Value×List D))=>[]) (fun(es:List (Value×List D))=>[]) [] Tryz.func78 (by kernel_rfl) (by kernel_rfl) (by kernel_rfl) (fun _=>by kernel_rfl) (fun(es:List (Value×List D)) hc=>Eq.mp (z6g es) (h es hc))
def z7r (a:Arena):Prop:=
 ∃(i:List Slot),List.map zL i=List.map zL a.slots∧i.length≤1000000∧∀(o:Unit),True→a.free=a.free∧True∧∃(i_1:List x3),List.map zH i_1=List.map zH a.queues∧i_1.length≤1000000∧∀(o:Unit),True→a.free=a.free∧∃(o:Unit),a.free=a.free∧List.map zL a.slots=List.map zL i∧List.map zH a.queues=List.map zH i_1∧a.free=a.free∧List.map zL a.slots=List.map zL i∧List.map zH a.queues=List.map zH i_1∧True
theorem z1n (hG:GOk Tryz.prog ([(122,clSlotC),(123,clQueueC)])) (h:∀(a:Arena),copyAC.cnd a→z7r a):copyAC.ok Tryz.prog 103:=okw mixed hG 0 (fun _=>[]) (fun _=>[]) [0] Tryz.func103 h
def z9q (b:Book):Prop:=
 ∃(i:Arena),AObj.adt Arena 3 zD i=AObj.adt Arena 3 zD b.a∧(i.slots.length≤1000000∧i.queues.length≤1000000)∧∀(o:Unit),True→True∧True∧∃(i_1:List (Value×List D)),i_1=atE b.at_∧True∧∀(o:Unit),True→True∧∃(i_2:List Int),iE i_2=iE b.spare∧i_2.length≤1000000∧∀(o:Unit),True→∃(i_3:List yX),List.map zA i_3=List.map zA b.buys∧i_3.length≤1000000∧∀(o:Unit),True→∃(i_4:List yX),List.map zA i_4=List.map zA b.sells∧i_4.length≤1000000∧∀(o:Unit),True→∃(o:Unit),b.top1=b.top1∧b.top2=b.top2∧b.has1=b.has1∧b.has2=b.has2∧AObj.adt Arena 3 zD b.a=AObj.adt Arena 3 zD i∧List.map zA b.buys=List.map zA i_3∧List.map zA b.sells=List.map zA i_4∧atE b.at_=i_1∧iE b.spare=iE i_2∧b.top1=b.top1∧b.top2=b.top2∧b.has1=b.has1∧b.has2=b.has2∧AObj.adt Arena 3 zD b.a=AObj.adt Arena 3 zD i∧List.map zA b.buys=List.map zA i_3∧List.map zA b.sells=List.map zA i_4∧atE b.at_=i_1∧iE b.spare=iE i_2∧True
theorem z2i (hG:GOk Tryz.prog ([(103,copyAC),(104,clAtC),(58,clIntC),(105,clRungC)])) (h:∀(b:Book),copyBC.cnd b→z9q b):copyBC.ok Tryz.prog 79:=okw mixed hG 0 (fun _=>[]) (fun _=>z5w) [0] Tryz.func79 h
open Go Cv Go.Proofs
theorem yAi (n:Nat) (h:newAC.cnd n):zVv n:=by
 obtain⟨h1,h2⟩:1≤n∧n≤4096:=h
 unfold zVv
 refine zU (fun c=>by omega) fun c=>zU (fun c=>by omega) fun c=> ?_
 refine⟨⟨by omega,by omega,by omega,?_⟩,?_⟩
 ·have:(2:Int) ^ (48:Nat)=281474976710656:=by decide
  rw[this];omega
 ·refine⟨(),rfl,rfl,?_,rfl,trivial⟩
  rw[List.map_replicate];rfl
theorem z1v:newAC.ok Tryz.prog 95:=z5d gok0 yAi
theorem z3i:newBC.ok Tryz.prog 68:=z6c (gokc z1v gok0) fun u _=>by
 refine⟨250,rfl,⟨by omega,by omega⟩,?_⟩;exact kp
theorem yBz (p:Prd) (h:newSC.cnd p):z3x p:=by
 have hs:p.small:=h
 obtain⟨h1,h2,h3⟩:p.small:=h
 refine⟨p,?_⟩
 simp only[yR]
 (repeat'(first|exact rfl|exact trivial|assumption|apply And.intro|refine fun(_:Unit) (_:True)=>?_|refine Exists.intro () ?_|omega|(dsimp only;omega)))
 refine Cv.cnd.mk (fun c=> .inr ⟨(),trivial,kp,by simpa using c⟩) fun c=> ?_
 have c:p.check=0:=by simpa using c
 have hc:=xJ p
 (repeat'(first|exact rfl|exact trivial|assumption|apply And.intro|refine fun(_:Unit) (_:True)=>?_|refine Exists.intro () ?_|omega|(dsimp only;omega)))
 all_goals(refine⟨p,?_⟩;(repeat'(first|exact rfl|exact trivial|assumption|apply And.intro|refine fun(_:Unit) (_:True)=>?_|refine Exists.intro () ?_|omega|(dsimp only;omega))))
 all_goals(refine⟨0,?_⟩;(repeat'(first|exact rfl|exact trivial|assumption|apply And.intro|refine fun(_:Unit) (_:True)=>?_|refine Exists.intro () ?_|omega|(dsimp only;omega))))
 all_goals(refine⟨fun j=>j≤p.count,fun j=>p.count-j,by omega,fun j hj=>zU (fun hlt=> ?_) (fun hlt=> ?_)⟩;all_goals dsimp only at hj hlt)
 all_goals first
  |(refine .inl ⟨(),?_⟩
    obtain rfl:j=p.count:=by omega
    (repeat'(first|exact rfl|exact trivial|assumption|apply And.intro|refine fun(_:Unit) (_:True)=>?_|refine Exists.intro () ?_|omega|(dsimp only;omega))))
  |(refine⟨(),trivial,fun _ _=>⟨trivial,trivial,List.replicate j book0,rfl,?_,j+1,?_⟩⟩
    ·rw[List.length_replicate];omega
    ·rw[w64 (by omega),← List.replicate_succ']
     (repeat'(first|exact rfl|exact trivial|assumption|apply And.intro|refine fun(_:Unit) (_:True)=>?_|refine Exists.intro () ?_|omega|(dsimp only;omega))))
theorem zZz:newSC.ok Tryz.prog 37:=z7v (gokc mJ (gokc uY (gokc z3i gok0))) yBz
theorem zRv:clSlotC.ok Tryz.prog 122:=zYl gok0 fun l h=>by
 have h:l.length≤1000000:=h
 exact fun b hb=>Cv.cnd.mk (fun e=>⟨(),rfl,hb e,trivial⟩) (fun _=>⟨by rw[Nat.zero_add,List.length_map];omega,(),rfl,rfl,trivial⟩)
theorem zMb:clQueueC.ok Tryz.prog 123:=zRq gok0 fun l h=>by
 have h:l.length≤1000000:=h
 exact fun b hb=>Cv.cnd.mk (fun e=>⟨(),rfl,hb e,trivial⟩) (fun _=>⟨by rw[Nat.zero_add,List.length_map];omega,(),rfl,rfl,trivial⟩)
theorem zQm:clRungC.ok Tryz.prog 105:=zVk gok0 fun l h=>by
 have h:l.length≤1000000:=h
 exact fun b hb=>Cv.cnd.mk (fun e=>⟨(),rfl,hb e,trivial⟩) (fun _=>⟨by rw[Nat.zero_add,List.length_map];omega,(),rfl,rfl,trivial⟩)
theorem zWa:clIntC.ok Tryz.prog 58:=z0s gok0 fun l h=>by
 have h:l.length≤1000000:=h
 exact fun b hb=>Cv.cnd.mk (fun e=>⟨(),rfl,hb e,trivial⟩) (fun _=>⟨by rw[Nat.zero_add,yR];omega,(),rfl,rfl,trivial⟩)
theorem lU (t:Nat):(vK t).ok Tryz.prog 102:=zJb Tryz.func102 (by kernel_rfl) (by kernel_rfl) (by kernel_rfl) (by kernel_rfl) t
theorem z0h:clAtC.ok Tryz.prog 104:=z6x (gokc (lU _) gok0) fun es _=>by
 unfold zVw
 refine⟨es,?_⟩;exact kp
theorem z1q:clWhC.ok Tryz.prog 78:=z8c (gokc (lU _) gok0) fun es _=>by
 unfold zWz
 refine⟨es,?_⟩;exact kp
theorem zYd:copyAC.ok Tryz.prog 103:=z1n (gokc zRv (gokc zMb gok0)) fun a h=>by
 obtain⟨h1,h2⟩:a.small:=h
 refine⟨a.slots,?_⟩;(repeat'(first|exact rfl|exact trivial|assumption|apply And.intro|refine fun(_:Unit) (_:True)=>?_|refine Exists.intro () ?_|omega|(dsimp only;omega)))
 refine⟨a.queues,?_⟩;exact kp
theorem zWl:copyBC.ok Tryz.prog 79:=z2i (gokc zYd (gokc z0h (gokc zWa (gokc zQm gok0)))) fun b h=>by
 obtain⟨⟨h1,h1'⟩,h2,h3,h4⟩:b.small:=h
 refine⟨b.a,?_⟩;(repeat'(first|exact rfl|exact trivial|assumption|apply And.intro|refine fun(_:Unit) (_:True)=>?_|refine Exists.intro () ?_|omega|(dsimp only;omega)))
 refine⟨atE b.at_,?_⟩;(repeat'(first|exact rfl|exact trivial|assumption|apply And.intro|refine fun(_:Unit) (_:True)=>?_|refine Exists.intro () ?_|omega|(dsimp only;omega)))
 refine⟨b.spare,?_⟩;(repeat'(first|exact rfl|exact trivial|assumption|apply And.intro|refine fun(_:Unit) (_:True)=>?_|refine Exists.intro () ?_|omega|(dsimp only;omega)))
 refine⟨b.buys,?_⟩;(repeat'(first|exact rfl|exact trivial|assumption|apply And.intro|refine fun(_:Unit) (_:True)=>?_|refine Exists.intro () ?_|omega|(dsimp only;omega)))
 refine⟨b.sells,?_⟩;exact kp
open Go Cv Go.Proofs
structure ArN where
 a:Arena
 n:Int
def Arena.qAt (a:Arena) (n:Int):x3:=if 0≤n∧n<a.queues.length then a.queues.getD n.toNat ⟨0,0,0,0⟩else⟨0,0,0,0⟩
def atotalC:Con:=con1 ArN (fun i=>[.nm 0 0,zC i.n]) (fun i=>[qA i.a]) (fun i=>True) (fun i=>zC (i.a.qAt i.n).total) (fun i=>[qA i.a])
def acountC:Con:=con1 ArN (fun i=>[.nm 0 0,zC i.n]) (fun i=>[qA i.a]) (fun i=>True) (fun i=>zC (i.a.qAt i.n).count) (fun i=>[qA i.a])
def bisC:Con:=con1 Int (fun n=>[zC n]) (fun _=>[]) (fun _=>True) (fun n=>yJ (decide (n=1)||decide (n=2))) (fun _=>[])
structure BkR where
 b:Book
 r:yX
def Book.told (b:Book) (r:yX):Lv:=⟨r.price,(b.a.qAt r.queue).total,(b.a.qAt r.queue).count⟩
@[reducible] def Book.cntOk (b:Book):Prop:=∀q∈b.a.queues,yI q.count
def toldC:Con:=con1 BkR (fun i=>[.nm 0 0,.agg [zC i.r.price,zC i.r.queue]]) (fun i=>[yA i.b]) (fun i=>i.b.cntOk) (fun i=>lvV (i.b.told i.r)) (fun i=>[yA i.b])
def Book.best (b:Book) (l:List yX):Lv×Bool:=match l with
 |[]=>(⟨0,0,0⟩,false)
 |r::_=>(b.told r,true)
structure BkS where
 side:Bool
 b:Book
def Book.side (b:Book) (s:Bool):List yX:=if s then b.sells else b.buys
@[reducible] def zIr (b:Book) (l:List yX):V:= .tup [lvV (b.best l).1,yJ (b.best l).2]
def best1C:Con:=con1 Book (fun _=>[.nm 0 0,zC 1]) (fun b=>[yA b]) Book.cntOk (fun b=>zIr b b.buys) (fun b=>[yA b])
def best2C:Con:=con1 Book (fun _=>[.nm 0 0,zC 2]) (fun b=>[yA b]) Book.cntOk (fun b=>zIr b b.sells) (fun b=>[yA b])
def zB (s:Bool):Int:=if s then 2 else 1
def bestC:Con:=con1 BkS (fun i=>[.nm 0 0,zC (zB i.side)]) (fun i=>[yA i.b]) (fun i=>i.b.cntOk) (fun i=>zIr i.b (i.b.side i.side)) (fun i=>[yA i.b])
structure Top where
 has1:Bool
 has2:Bool
 p1:Int
 p2:Int
 q1:Int
 q2:Int
 deriving DecidableEq
def zQ (t:Top):List D:=[.v (.bool t.has1),.v (.bool t.has2),.v (.int .i64 t.p1),.v (.int .i64 t.p2),.v (.int .i64 t.q1),.v (.int .i64 t.q2)]
def top0:Top:=⟨false,false,0,0,0,0⟩
def Top.buy (t:Top) (x:Lv×Bool):Top:=if x.2 then{t with has1:=true,p1:=x.1.price,q1:=x.1.qty}else t
def Top.sell (t:Top) (x:Lv×Bool):Top:=if x.2 then{t with has2:=true,p2:=x.1.price,q2:=x.1.qty}else t
def Book.top (b:Book):Top:=(top0.buy (b.best b.buys)).sell (b.best b.sells)
def MSt.tops (s:MSt):List Top:=s.books.map Book.top
@[reducible] def MSt.cntOk (s:MSt):Prop:=s.books.length≤1000000∧∀b∈s.books,b.cntOk
def yK (s:MSt) (j:Nat) (x:Top):List Top:=(s.tops.take j)++x::List.replicate (s.books.length-j-1) top0
def qX (s:MSt) (j:Nat):List Top:=(s.tops.take j)++List.replicate (s.books.length-j) top0
def yCl (s:MSt):List SAnn:=[
 {ι:=Nat,slots:=fun j=>[(3,.own 0),(21,zC j)],rows:=fun j=>[.own 55 6 ((qX s j).map zQ)]},
 {ι:=Unit,slots:=fun _=>[],rows:=fun _=>[],un:=3}]
def yCh (s:MSt):List (Nat×SAnn):=[(15,{ι:=Nat×Top,slots:=fun x=>[(3,.own 0)],slots0:=fun x=>[(3,.own 0)],rows0:=fun x=>[.own 55 6 ((yK s x.1 x.2).map zQ)],rows:=fun x=>[.own 55 6 ((yK s x.1 x.2).map zQ)]})]
def z8y (s:MSt):List SAnn:=[{ι:=Nat,slots:=fun j=>[(3,.nm 0 0),(22,zC j)],rows:=fun j=>(List.range 5).map (z8 ⟨s.p,s.books.take j,s.wh⟩)}]
open Go Cv Go.Proofs
def zNv (i:ArN):Prop:=
 cnd (decide (i.n≥0)) (cnd (!decide (i.n<(↑(List.map zH i.a.queues).length:Int))) (∃(o:Unit),(i.a.qAt i.n).total=0∧i.a.free=i.a.free∧List.map zL i.a.slots=List.map zL i.a.slots∧List.map zH i.a.queues=List.map zH i.a.queues∧True) ((0≤i.n∧i.n<(↑(List.map zH i.a.queues).length:Int))∧∃(n:Int),zI (List.map zH i.a.queues) i.n.toNat ((0:Nat)+(2:Nat)) 1=some [D.v (.int .i64 n)]∧∃(o:Unit),(i.a.qAt i.n).total=n∧i.a.free=i.a.free∧List.map zL i.a.slots=List.map zL i.a.slots∧List.map zH i.a.queues=List.map zH i.a.queues∧True)) (∃(o:Unit),(i.a.qAt i.n).total=0∧i.a.free=i.a.free∧List.map zL i.a.slots=List.map zL i.a.slots∧List.map zH i.a.queues=List.map zH i.a.queues∧True)
theorem zYp (hG:GOk Tryz.prog ([])) (h:∀(i:ArN),atotalC.cnd i→zNv i):atotalC.ok Tryz.prog 106:=okw mixed hG 1 (fun _=>[]) (fun _=>[]) [0] Tryz.func106 h
def zMi (i:ArN):Prop:=
 cnd (decide (i.n≥0)) (cnd (!decide (i.n<(↑(List.map zH i.a.queues).length:Int))) (∃(o:Unit),(i.a.qAt i.n).count=0∧i.a.free=i.a.free∧List.map zL i.a.slots=List.map zL i.a.slots∧List.map zH i.a.queues=List.map zH i.a.queues∧True) ((0≤i.n∧i.n<(↑(List.map zH i.a.queues).length:Int))∧∃(n:Int),zI (List.map zH i.a.queues) i.n.toNat ((0:Nat)+(3:Nat)) 1=some [D.v (.int .i64 n)]∧∃(o:Unit),(i.a.qAt i.n).count=n∧i.a.free=i.a.free∧List.map zL i.a.slots=List.map zL i.a.slots∧List.map zH i.a.queues=List.map zH i.a.queues∧True)) (∃(o:Unit),(i.a.qAt i.n).count=0∧i.a.free=i.a.free∧List.map zL i.a.slots=List.map zL i.a.slots∧List.map zH i.a.queues=List.map zH i.a.queues∧True)
theorem zWx (hG:GOk Tryz.prog ([])) (h:∀(i:ArN),acountC.cnd i→zMi i):acountC.ok Tryz.prog 107:=okw mixed hG 1 (fun _=>[]) (fun _=>[]) [0] Tryz.func107 h
def yBg (n:Int):Prop:=
 cnd (n==1) (∃(o:Unit),(decide (n=1)||decide (n=2))=true∧True) (∃(o:Unit),(decide (n=1)||decide (n=2))=(n==2)∧True)
theorem yCv (hG:GOk Tryz.prog ([])) (h:∀(n:Int),bisC.cnd n→yBg n):bisC.ok Tryz.prog 80:=okw mixed hG 0 (fun _=>[]) (fun _=>[]) [] Tryz.func80 h
def yBx (i:BkR):Prop:=
 ∃(i_1:ArN),i_1.n=i.r.queue∧AObj.adt Arena 3 zD i_1.a=AObj.adt Arena 3 zD i.b.a∧True∧∀(o:Unit),True→i.r.queue=i.r.queue∧True∧i.r.price=i.r.price∧∃(i_2:ArN),i_2.n=i.r.queue∧AObj.adt Arena 3 zD i_2.a=AObj.adt Arena 3 zD i_1.a∧True∧∀(o:Unit),True→i.r.price=i.r.price∧∃(o:Unit),i.r.price=i.r.price∧(i.b.a.qAt i.r.queue).total=(i_1.a.qAt i_1.n).total∧(i.b.a.qAt i.r.queue).count=(i_2.a.qAt i_2.n).count∧i.b.top1=i.b.top1∧i.b.top2=i.b.top2∧i.b.has1=i.b.has1∧i.b.has2=i.b.has2∧AObj.adt Arena 3 zD i.b.a=AObj.adt Arena 3 zD i_2.a∧List.map zA i.b.buys=List.map zA i.b.buys∧List.map zA i.b.sells=List.map zA i.b.sells∧atE i.b.at_=atE i.b.at_∧iE i.b.spare=iE i.b.spare∧True
theorem z7f (hG:GOk Tryz.prog ([(106,atotalC),(107,acountC)])) (h:∀(i:BkR),toldC.cnd i→yBx i):toldC.ok Tryz.prog 81:=okw mixed hG 0 (fun _=>[]) (fun _=>[]) [0] Tryz.func81 h
def z5u (b:Book):Prop:=
 ∃(i:Int),i=1∧True∧∀(o:Unit),True→cnd (!(decide (i=1)||decide (i=2))) (∃(o:Unit),(b.best b.buys).fst.price=0∧(b.best b.buys).fst.qty=0∧(b.best b.buys).fst.count=0∧(b.best b.buys).snd=false∧b.top1=b.top1∧b.top2=b.top2∧b.has1=b.has1∧b.has2=b.has2∧AObj.adt Arena 3 zD b.a=AObj.adt Arena 3 zD b.a∧List.map zA b.buys=List.map zA b.buys∧List.map zA b.sells=List.map zA b.sells∧atE b.at_=atE b.at_∧iE b.spare=iE b.spare∧True) (cnd ((↑(List.map zA b.buys).length:Int)==0) (∃(o:Unit),(b.best b.buys).fst.price=0∧(b.best b.buys).fst.qty=0∧(b.best b.buys).fst.count=0∧(b.best b.buys).snd=false∧b.top1=b.top1∧b.top2=b.top2∧b.has1=b.has1∧b.has2=b.has2∧AObj.adt Arena 3 zD b.a=AObj.adt Arena 3 zD b.a∧List.map zA b.buys=List.map zA b.buys∧List.map zA b.sells=List.map zA b.sells∧atE b.at_=atE b.at_∧iE b.spare=iE b.spare∧True) (((0:Int)≤(0:Int)∧0<(↑(List.map zA b.buys).length:Int))∧∃(n:Int),∃(n_1:Int),zI (List.map zA b.buys) (Int.toNat 0) 0 2=some [D.v (.int .i64 n),D.v (.int .i64 n_1)]∧∃(i:BkR),i.r.price=n∧i.r.queue=n_1∧i.b.top1=b.top1∧i.b.top2=b.top2∧i.b.has1=b.has1∧i.b.has2=b.has2∧AObj.adt Arena 3 zD i.b.a=AObj.adt Arena 3 zD b.a∧List.map zA i.b.buys=List.map zA b.buys∧List.map zA i.b.sells=List.map zA b.sells∧atE i.b.at_=atE b.at_∧iE i.b.spare=iE b.spare∧(∀(q:x3),q∈i.b.a.queues→(-9223372036854775808)≤q.count∧q.count≤9223372036854775807)∧∀(o:Unit),True→∃(o:Unit),(b.best b.buys).fst.price=i.r.price∧(b.best b.buys).fst.qty=(i.b.a.qAt i.r.queue).total∧(b.best b.buys).fst.count=(i.b.a.qAt i.r.queue).count∧(b.best b.buys).snd=true∧yA b=yA i.b∧True))
theorem z1k (hG:GOk Tryz.prog ([(80,bisC),(81,toldC)])) (h:∀(b:Book),best1C.cnd b→z5u b):best1C.ok Tryz.prog 49:=okw mixed hG 0 (fun _=>[]) (fun _=>[]) [0] Tryz.func49 h
def z9d (b:Book):Prop:=
 ∃(i:Int),i=2∧True∧∀(o:Unit),True→cnd (!(decide (i=1)||decide (i=2))) (∃(o:Unit),(b.best b.sells).fst.price=0∧(b.best b.sells).fst.qty=0∧(b.best b.sells).fst.count=0∧(b.best b.sells).snd=false∧b.top1=b.top1∧b.top2=b.top2∧b.has1=b.has1∧b.has2=b.has2∧AObj.adt Arena 3 zD b.a=AObj.adt Arena 3 zD b.a∧List.map zA b.buys=List.map zA b.buys∧List.map zA b.sells=List.map zA b.sells∧atE b.at_=atE b.at_∧iE b.spare=iE b.spare∧True) (cnd ((↑(List.map zA b.sells).length:Int)==0) (∃(o:Unit),(b.best b.sells).fst.price=0∧(b.best b.sells).fst.qty=0∧(b.best b.sells).fst.count=0∧(b.best b.sells).snd=false∧b.top1=b.top1∧b.top2=b.top2∧b.has1=b.has1∧b.has2=b.has2∧AObj.adt Arena 3 zD b.a=AObj.adt Arena 3 zD b.a∧List.map zA b.buys=List.map zA b.buys∧List.map zA b.sells=List.map zA b.sells∧atE b.at_=atE b.at_∧iE b.spare=iE b.spare∧True) (((0:Int)≤(0:Int)∧0<(↑(List.map zA b.sells).length:Int))∧∃(n:Int),∃(n_1:Int),zI (List.map zA b.sells) (Int.toNat 0) 0 2=some [D.v (.int .i64 n),D.v (.int .i64 n_1)]∧∃(i:BkR),i.r.price=n∧i.r.queue=n_1∧i.b.top1=b.top1∧i.b.top2=b.top2∧i.b.has1=b.has1∧i.b.has2=b.has2∧AObj.adt Arena 3 zD i.b.a=AObj.adt Arena 3 zD b.a∧List.map zA i.b.buys=List.map zA b.buys∧List.map zA i.b.sells=List.map zA b.sells∧atE i.b.at_=atE b.at_∧iE i.b.spare=iE b.spare∧(∀(q:x3),q∈i.b.a.queues→(-9223372036854775808)≤q.count∧q.count≤9223372036854775807)∧∀(o:Unit),True→∃(o:Unit),(b.best b.sells).fst.price=i.r.price∧(b.best b.sells).fst.qty=(i.b.a.qAt i.r.queue).total∧(b.best b.sells).fst.count=(i.b.a.qAt i.r.queue).count∧(b.best b.sells).snd=true∧yA b=yA i.b∧True))
theorem z1e (hG:GOk Tryz.prog ([(80,bisC),(81,toldC)])) (h:∀(b:Book),best2C.cnd b→z9d b):best2C.ok Tryz.prog 49:=okw mixed hG 0 (fun _=>[]) (fun _=>[]) [0] Tryz.func49 h
@[reducible] def zEj (s:MSt):AObj:=Sx.AObj.cells (uR (k7 (0:Nat) (1:Nat) (5:Nat)) [sV s.p.code,V.own (3:Nat),zC s.p.tick,zC s.p.low,zC s.p.high,zC s.p.wide,zC s.p.rule,zC s.p.top,zC s.p.least,zC s.p.part,V.own (4:Nat),V.own (1:Nat),V.mp (2:Nat)]) (101:TypeId)
def z9h (s:MSt):Prop:=
 ∃(i:List (Value×List D)),i=yB s.wh∧True∧∀(o:Unit),True→(sb s.p.code=sb s.p.code∧True∧s.p.tick=s.p.tick∧s.p.low=s.p.low∧s.p.high=s.p.high∧s.p.wide=s.p.wide∧s.p.rule=s.p.rule∧s.p.top=s.p.top∧s.p.least=s.p.least∧s.p.part=s.p.part∧True∧True)∧∃(i0:Nat),(↑i0:Int)=0∧sb s.p.code=sb s.p.code∧s.p.tick=s.p.tick∧s.p.low=s.p.low∧s.p.high=s.p.high∧s.p.wide=s.p.wide∧s.p.rule=s.p.rule∧s.p.top=s.p.top∧s.p.least=s.p.least∧s.p.part=s.p.part∧List.take i0 s.books=[]∧(none:Option Nat)=none∧yB s.wh=i∧AObj.fro 1 (iE s.p.months)=AObj.fro 1 (iE s.p.months)∧AObj.fro 1 (iE s.p.settle)=AObj.fro 1 (iE s.p.settle)∧∃(I:Nat→Prop),∃(μ:Nat→Nat),I i0∧∀(i_1:Nat),I i_1→cnd (decide ((↑i_1:Int)<(↑s.books.length:Int))) ((0≤(↑i_1:Int)∧(↑i_1:Int)<(↑s.books.length:Int))∧(↑i_1:Int).toNat<s.books.length∧∃(x:Book),s.books[(↑i_1:Int).toNat]?=some x∧∃(i_2:Book),yA i_2=yA x∧((i_2.a.slots.length≤1000000∧i_2.a.queues.length≤1000000)∧i_2.buys.length≤1000000∧i_2.sells.length≤1000000∧i_2.spare.length≤1000000)∧∀(o:Unit),True→∃(x:Book),yA i_2=yA x∧(↑i_1:Int).toNat=(↑i_1:Int).toNat∧(↑i_1:Int).toNat<s.books.length∧True∧True∧∃(l1':List Book),AObj.objs 102 Book 6 zM (List.take i_1 s.books) none=AObj.objs 102 Book 6 zM l1' none∧(l1'.length+1)*(8:Nat)≤(70368744177664:Nat)∧∃(i':Nat),(↑i':Int)=IntKind.i64.wrap ((↑i_1:Int)+1)∧sb s.p.code=sb s.p.code∧s.p.tick=s.p.tick∧s.p.low=s.p.low∧s.p.high=s.p.high∧s.p.wide=s.p.wide∧s.p.rule=s.p.rule∧s.p.top=s.p.top∧s.p.least=s.p.least∧s.p.part=s.p.part∧AObj.objs 102 Book 6 zM (List.take i' s.books) none=AObj.objs 102 Book 6 zM (l1'++[i_2]) none∧yB s.wh=yB s.wh∧AObj.fro 1 (iE s.p.months)=AObj.fro 1 (iE s.p.months)∧AObj.fro 1 (iE s.p.settle)=AObj.fro 1 (iE s.p.settle)∧I i'∧μ i'<μ i_1∧Sx.AObj.map i=Sx.AObj.map i∧zEj s=zEj s∧AObj.objs 102 Book 6 zM (s.books.set (↑i_1:Int).toNat x) none=AObj.objs 102 Book 6 zM s.books none∧AObj.fro 1 (iE s.p.months)=AObj.fro 1 (iE s.p.months)∧AObj.fro 1 (iE s.p.settle)=AObj.fro 1 (iE s.p.settle)) (∃(o:Unit),sb s.p.code=sb s.p.code∧s.p.tick=s.p.tick∧s.p.low=s.p.low∧s.p.high=s.p.high∧s.p.wide=s.p.wide∧s.p.rule=s.p.rule∧s.p.top=s.p.top∧s.p.least=s.p.least∧s.p.part=s.p.part∧AObj.objs 102 Book 6 zM s.books none=AObj.objs 102 Book 6 zM s.books none∧yB s.wh=i∧AObj.fro 1 (iE s.p.months)=AObj.fro 1 (iE s.p.months)∧AObj.fro 1 (iE s.p.settle)=AObj.fro 1 (iE s.p.settle)∧sb s.p.code=sb s.p.code∧s.p.tick=s.p.tick∧s.p.low=s.p.low∧s.p.high=s.p.high∧s.p.wide=s.p.wide∧s.p.rule=s.p.rule∧s.p.top=s.p.top∧s.p.least=s.p.least∧s.p.part=s.p.part∧AObj.objs 102 Book 6 zM s.books none=AObj.objs 102 Book 6 zM (List.take i_1 s.books) none∧yB s.wh=yB s.wh∧AObj.fro 1 (iE s.p.months)=AObj.fro 1 (iE s.p.months)∧AObj.fro 1 (iE s.p.settle)=AObj.fro 1 (iE s.p.settle)∧True)
theorem z2g (hG:GOk Tryz.prog ([(78,clWhC),(79,copyBC)])) (h:∀(s:MSt),copySC.cnd s→z9h s):copySC.ok Tryz.prog 48:=okw mixed hG 0 (fun _=>[]) (fun s=>z8y s) [0] Tryz.func48 h
open Go Cv Go.Proofs
theorem elA {α:Type} {f:α→List D} {l:List α} {i g n:Nat} {x:α} {r:List D} (h:l[i]? =some x) (hn:g+n≤(f x).length) (hr:((f x).drop g).take n=r):zI (l.map f) i g n=some r:=by
 unfold zI
 rw[List.getElem?_map,h]
 simp only[Option.map_some,Nat.ble_eq_true_of_le hn,cond_true,hr]
theorem zEc {a:Arena} {n:Int} {q:x3} (h0:0≤n) (h:a.queues[n.toNat]? =some q):a.qAt n=q:=by
 have:=(List.getElem?_eq_some_iff.1 h).1
 rw[Arena.qAt,if_pos ⟨h0,by omega⟩,List.getD_eq_getElem?_getD,h];rfl
theorem pU {a:Arena} {n:Int} (h:¬(0≤n∧n<a.queues.length)):a.qAt n=⟨0,0,0,0⟩:=by rw[Arena.qAt,if_neg h]
theorem zPx:atotalC.ok Tryz.prog 106:=zYp gok0 fun i _=>by
 unfold zNv
 simp only[List.length_map]
 refine zU (fun c=>Cv.cnd.mk (fun d=> ?_) (fun d=> ?_)) (fun c=> ?_)
 ·have d:¬i.n<(i.a.queues.length:Int):=by simpa using d
  rw[pU (by omega)];exact kp
 ·have d:i.n<(i.a.queues.length:Int):=by simpa using d
  obtain⟨q,hq⟩:=yD (l:=i.a.queues) (i:=i.n.toNat) (by omega)
  rw[zEc (by omega) hq]
  refine⟨⟨by omega,by omega⟩,q.total,elA hq (by simp[zH]) rfl,?_⟩;exact kp
 ·rw[pU (by omega)];exact kp
theorem mZ:acountC.ok Tryz.prog 107:=zWx gok0 fun i _=>by
 unfold zMi
 simp only[List.length_map]
 refine zU (fun c=>Cv.cnd.mk (fun d=> ?_) (fun d=> ?_)) (fun c=> ?_)
 ·have d:¬i.n<(i.a.queues.length:Int):=by simpa using d
  rw[pU (by omega)];exact kp
 ·have d:i.n<(i.a.queues.length:Int):=by simpa using d
  obtain⟨q,hq⟩:=yD (l:=i.a.queues) (i:=i.n.toNat) (by omega)
  rw[zEc (by omega) hq]
  refine⟨⟨by omega,by omega⟩,q.count,elA hq (by simp[zH]) rfl,?_⟩;exact kp
 ·rw[pU (by omega)];exact kp
theorem mT:bisC.ok Tryz.prog 80:=yCv gok0 fun n _=>by
 unfold yBg
 refine Cv.cnd.mk (fun c=>⟨(),?_,trivial⟩) (fun c=>⟨(),?_,trivial⟩)
 all_goals simp at c
 ·simp[c]
 ·by_cases h:n=2<;>simp[c,h]
theorem zPe:toldC.ok Tryz.prog 81:=z7f (gokc zPx (gokc mZ gok0)) fun i h=>by
 refine⟨⟨i.b.a,i.r.queue⟩,?_⟩;(repeat'(first|exact rfl|exact trivial|assumption|apply And.intro|refine fun(_:Unit) (_:True)=>?_|refine Exists.intro () ?_|omega|(dsimp only;omega)))
 refine⟨⟨i.b.a,i.r.queue⟩,?_⟩;exact kp
theorem zUq:best1C.ok Tryz.prog 49:=z1k (gokc mT (gokc zPe gok0)) fun b h=>by
 have h:b.cntOk:=h
 refine⟨1,rfl,trivial,fun _ _=>Cv.cnd.mk (fun c=>absurd c (by decide)) fun _=> ?_⟩
 simp only[List.length_map]
 refine Cv.cnd.mk (fun c=> ?_) (fun c=> ?_)
 ·have hl:b.buys=[]:=List.eq_nil_of_length_eq_zero (by have:(b.buys.length:Int)=0:=(by simpa using c);omega)
  have e:b.best b.buys=(⟨0,0,0⟩,false):=by rw[hl];rfl
  rw[e];exact kp
 ·obtain⟨r,l,hl⟩:∃r l,b.buys=r::l:=by
   cases hb:b.buys with
   |nil=>rw[hb]at c;exact absurd c (by decide)
   |cons r l=>exact⟨r,l,rfl⟩
  have e:b.best b.buys=(b.told r,true):=by rw[hl];rfl
  rw[e]
  refine⟨⟨by omega,by rw[hl,List.length_cons];omega⟩,r.price,r.queue,elA (x:=r) (by rw[hl];rfl) (by simp[zA]) rfl,⟨b,r⟩,?_⟩
  exact kp
theorem zYg:best2C.ok Tryz.prog 49:=z1e (gokc mT (gokc zPe gok0)) fun b h=>by
 have h:b.cntOk:=h
 refine⟨2,rfl,trivial,fun _ _=>Cv.cnd.mk (fun c=>absurd c (by decide)) fun _=> ?_⟩
 simp only[List.length_map]
 refine Cv.cnd.mk (fun c=> ?_) (fun c=> ?_)
 ·have hl:b.sells=[]:=List.eq_nil_of_length_eq_zero (by have:(b.sells.length:Int)=0:=(by simpa using c);omega)
  have e:b.best b.sells=(⟨0,0,0⟩,false):=by rw[hl];rfl
  rw[e];exact kp
 ·obtain⟨r,l,hl⟩:∃r l,b.sells=r::l:=by
   cases hb:b.sells with
   |nil=>rw[hb]at c;exact absurd c (by decide)
   |cons r l=>exact⟨r,l,rfl⟩
  have e:b.best b.sells=(b.told r,true):=by rw[hl];rfl
  rw[e]
  refine⟨⟨by omega,by rw[hl,List.length_cons];omega⟩,r.price,r.queue,elA (x:=r) (by rw[hl];rfl) (by simp[zA]) rfl,⟨b,r⟩,?_⟩
  exact kp
theorem zEe:bestC.ok Tryz.prog 49:=fun i=>match i with
 |⟨false,b⟩=>zUq b
 |⟨true,b⟩=>zYg b
theorem tG {α:Type} (f:α→α) (x:α) (b:List α):∀a:List α,(a++x::b).modify a.length f=a++f x::b
 |[]=>rfl
 |y::a=>by
  show y::(a++x::b).modify a.length f=_
  rw[tG f x b a];rfl
theorem lN {els:List (List D)} {a b:List (List D)} {x y ds:List D} {j f:Nat} (h:els=a++x::b) (hl:a.length=j) (hy:x.take f++(ds++x.drop (f+ds.length))=y):zK els j f ds=a++y::b:=by
 rw[zK,h,← hl,tG,hy]
theorem wL {s:MSt} {j:Nat} {x y:Top} {f:Nat} {ds:List D} (hj:j<s.books.length) (hy:(zQ x).take f++(ds++(zQ x).drop (f+ds.length))=zQ y):
 zK (List.map zQ (yK s j x)) j f ds=List.map zQ (yK s j y):=by
 rw[lN (a:=(s.tops.take j).map zQ) (b:=(List.replicate (s.books.length-j-1) top0).map zQ) (by rw[yK,List.map_append,List.map_cons]) (by
  rw[List.length_map,List.length_take,MSt.tops,List.length_map];omega) hy,yK,List.map_append,List.map_cons]
theorem zLa {s:MSt} {j:Nat} {x:Top} (hj:j<s.books.length):(yK s j x).length=s.books.length:=by
 rw[yK,List.length_append,List.length_cons,List.length_take,MSt.tops,List.length_map,List.length_replicate];omega
theorem zFq {s:MSt} {j:Nat} (hj:j<s.books.length):yK s j top0=qX s j:=by
 rw[yK,qX]
 obtain⟨m,hm⟩:∃m,s.books.length-j=m+1:=⟨s.books.length-j-1,by omega⟩
 rw[hm,List.replicate_succ];rfl
theorem zEz {s:MSt} {j:Nat} {b:Book} (hb:s.books[j]? =some b):yK s j b.top=qX s (j+1):=by
 have hj:=(List.getElem?_eq_some_iff.1 hb).1
 rw[yK,qX,List.take_add_one,show s.tops[j]? =some b.top by rw[MSt.tops,List.getElem?_map,hb];rfl]
 simp only[Option.toList_some,List.append_assoc,List.cons_append,List.nil_append]
 rw[show s.books.length-j-1=s.books.length-(j+1)by omega]
theorem fH {α:Type} {l:List α} {j:Nat} {x:α} (h:l[j]? =some x):l.set j x=l:=by
 obtain⟨hj,rfl⟩:=List.getElem?_eq_some_iff.1 h
 exact List.set_getElem_self hj
theorem rL:copySC.ok Tryz.prog 48:=z2g (gokc z1q (gokc zWl gok0)) fun s h=>by
 obtain⟨h1,h2⟩:s.small:=h
 refine⟨yB s.wh,?_⟩;(repeat'(first|exact rfl|exact trivial|assumption|apply And.intro|refine fun(_:Unit) (_:True)=>?_|refine Exists.intro () ?_|omega|(dsimp only;omega)))
 refine⟨0,?_⟩;(repeat'(first|exact rfl|exact trivial|assumption|apply And.intro|refine fun(_:Unit) (_:True)=>?_|refine Exists.intro () ?_|omega|(dsimp only;omega)))
 refine⟨fun j=>j≤s.books.length,fun j=>s.books.length-j,by omega,fun j hj=>zU (fun hlt=> ?_) (fun hlt=> ?_)⟩
 ·obtain⟨b,hb⟩:=yD (l:=s.books) (i:=j) (by omega)
  have hs:=h2 b (List.mem_of_getElem? hb)
  simp only[Int.toNat_natCast]
  refine⟨⟨by omega,by omega⟩,by omega,b,hb,b,rfl,hs,fun _ _=>⟨b,rfl,kp,by omega,trivial,trivial,s.books.take j,rfl,?_,j+1,?_⟩⟩
  ·rw[List.length_take];omega
  ·rw[w64 (by omega),List.take_add_one,hb]
   (repeat'(first|exact rfl|exact trivial|assumption|apply And.intro|refine fun(_:Unit) (_:True)=>?_|refine Exists.intro () ?_|omega|(dsimp only;omega)))
   rw[fH hb]
 ·have hj:j≤s.books.length:=hj
  obtain rfl:j=s.books.length:=by omega
  rw[List.take_of_length_le (Nat.le_refl _)]
  exact kp
open Go Cv Go.Proofs
structure Leg where
 inst:Int
 side:Int
 deriving DecidableEq
structure Quote where
 price:Int
 qty:Int
 a:Leg
 b:Leg
 deriving DecidableEq
def zG (q:Quote):List D:=[.v (.int .i64 q.price),.v (.int .i64 q.qty),.v (.int .i64 q.a.inst),.v (.int .i64 q.a.side),.v (.int .i64 q.b.inst),.v (.int .i64 q.b.side)]
@[reducible] def zKr (q:Quote):V:= .agg [zC q.price,zC q.qty,zC q.a.inst,zC q.a.side,zC q.b.inst,zC q.b.side]
def z8f:Quote:=⟨0,0,⟨0,0⟩,⟨0,0⟩⟩
structure I3' where
 side:Int
 x:Int
 y:Int
def btr (side x y:Int):Bool:=if side=1 then decide (y<x)else decide (x<y)
def iotherC:Con:=con1 Int (fun n=>[zC n]) (fun _=>[]) (fun n=>n=1∨n=2) (fun n=>zC (3-n)) (fun _=>[])
def ibetterC:Con:=con1 I3' (fun i=>[zC i.side,zC i.x,zC i.y]) (fun _=>[]) (fun _=>True) (fun i=>yJ (btr i.side i.x i.y)) (fun _=>[])
structure CrI where
 x:Int
 y:Int
 b:Bool
def Top.has (t:Top) (s:Int):Bool:=if s=1 then t.has1 else t.has2
def Top.price (t:Top) (s:Int):Int:=if s=1 then t.p1 else t.p2
def Top.qty (t:Top) (s:Int):Int:=if s=1 then t.q1 else t.q2
def mkq (tops:List Top) (a b:Leg) (less:Bool):List Quote:=
 let x:=tops.getD a.inst.toNat top0
 let y:=tops.getD b.inst.toNat top0
 let r:=if less then kU (y.price b.side) (x.price a.side)else kQ (x.price a.side) (y.price b.side)
 if x.has a.side && y.has b.side && r.2 then[⟨r.1,min (x.qty a.side) (y.qty b.side),a,b⟩]else[]
structure MkI where
 tops:List Top
 out:List Quote
 a:Int
 b:Int
 less:Bool
@[reducible] def kJ (l:List Top):Prop:=l.length≤1000000∧∀t∈l,yI t.p1∧yI t.p2
def MkU (x:List Top×List Quote):Nat→AObj
 |0=> .cells [.own 1,.own 2] 110
 |1=> .fro 6 (x.1.map zQ)
 |2=> .own 62 6 (x.2.map zG)
 |_=> .gone
@[reducible] def MkR (tops:List Top) (out:List Quote):List AObj:=[MkU (tops,out) 0,MkU (tops,out) 1,MkU (tops,out) 2]
@[reducible] def MkP (tops:List Top) (out:List Quote):List AObj:=[.cells [.own 1,.own 3] 110,MkU (tops,out) 1,.gone,MkU (tops,out) 2]
def mkC (sa sb:Int):Con:=con1 MkI (fun i=>[.nm 0 0,.agg [zC i.a,zC sa],.agg [zC i.b,zC sb],yJ i.less]) (fun i=>MkR i.tops i.out)
 (fun i=>0≤i.a∧i.a<i.tops.length∧0≤i.b∧i.b<i.tops.length∧kJ i.tops∧i.out.length≤1000) (fun _=>zEn) (fun i=>MkP i.tops (i.out++mkq i.tops ⟨i.a,sa⟩ ⟨i.b,sb⟩ i.less))
def mk11:Con:=mkC 1 1
def mk12:Con:=mkC 1 2
def mk21:Con:=mkC 2 1
def mk22:Con:=mkC 2 2
open Go Cv Go.Proofs
def z0e (n:Int):Prop:=
 ∃(o:Unit),3-n=IntKind.i64.wrap (3-n)∧True
theorem zVx (hG:GOk Tryz.prog ([])) (h:∀(n:Int),iotherC.cnd n→z0e n):iotherC.ok Tryz.prog 52:=okw mixed hG 0 (fun _=>[]) (fun _=>[]) [] Tryz.func52 h
def zUz (i:I3'):Prop:=
 cnd (i.side==1) (∃(o:Unit),btr i.side i.x i.y=decide (i.x>i.y)∧True) (∃(o:Unit),btr i.side i.x i.y=decide (i.x<i.y)∧True)
theorem zQf (hG:GOk Tryz.prog ([])) (h:∀(i:I3'),ibetterC.cnd i→zUz i):ibetterC.ok Tryz.prog 94:=okw mixed hG 0 (fun _=>[]) (fun _=>[]) [] Tryz.func94 h
@[reducible] def zDe (i:MkI) (b:Bool) (n:Int) (n_2:Int) (n_4:Int) (n_6:Int):Prop:=∃(i_1:I2),i_1.x=n∧i_1.y=n_4∧(((-9223372036854775808)≤i_1.x∧i_1.x≤9223372036854775807)∧(-9223372036854775808)≤i_1.y∧i_1.y≤9223372036854775807)∧∀(o:Unit),True→cnd i.less (∃(i_2:I2),i_2.x=n_4∧i_2.y=n∧(((-9223372036854775808)≤i_2.x∧i_2.x≤9223372036854775807)∧(-9223372036854775808)≤i_2.y∧i_2.y≤9223372036854775807)∧∀(o:Unit),True→cnd (kU i_2.x i_2.y).snd (True∧((List.map zG i.out).length+1)*(48:Nat)≤(70368744177664:Nat)∧∃(o:Unit),AObj.fro 6 (List.map zQ i.tops)=MkU (i.tops,i.out) 1∧List.map zG (i.out++mkq i.tops (Leg.mk i.a 1) (Leg.mk i.b 1) i.less)=List.map zG i.out++[[D.v (.int .i64 (kU i_2.x i_2.y).fst),D.v (.int .i64 (min n_2 n_6)),D.v (.int .i64 i.a),D.v (.int .i64 1),D.v (.int .i64 i.b),D.v (.int .i64 1)]]∧True) (∃(o:Unit),AObj.fro 6 (List.map zQ i.tops)=MkU (i.tops,i.out) 1∧List.map zG (i.out++mkq i.tops (Leg.mk i.a 1) (Leg.mk i.b 1) i.less)=List.map zG i.out∧True)) (cnd (kQ i_1.x i_1.y).snd (True∧((List.map zG i.out).length+1)*(48:Nat)≤(70368744177664:Nat)∧∃(o:Unit),AObj.fro 6 (List.map zQ i.tops)=MkU (i.tops,i.out) 1∧List.map zG (i.out++mkq i.tops (Leg.mk i.a 1) (Leg.mk i.b 1) i.less)=List.map zG i.out++[[D.v (.int .i64 (kQ i_1.x i_1.y).fst),D.v (.int .i64 (min n_2 n_6)),D.v (.int .i64 i.a),D.v (.int .i64 1),D.v (.int .i64 i.b),D.v (.int .i64 1)]]∧True) (∃(o:Unit),AObj.fro 6 (List.map zQ i.tops)=MkU (i.tops,i.out) 1∧List.map zG (i.out++mkq i.tops (Leg.mk i.a 1) (Leg.mk i.b 1) i.less)=List.map zG i.out∧True))
@[reducible] def aX (i:MkI) (b:Bool):Prop:=∃(o:Unit),AObj.fro 6 (List.map zQ i.tops)=MkU (i.tops,i.out) 1∧List.map zG (i.out++mkq i.tops (Leg.mk i.a 1) (Leg.mk i.b 1) i.less)=List.map zG i.out∧True
def zUn (i:MkI):Prop:=
 (0≤i.a∧i.a<(↑(List.map zQ i.tops).length:Int))∧∃(b:Bool),∃(b_1:Bool),∃(n:Int),∃(n_1:Int),∃(n_2:Int),∃(n_3:Int),zI (List.map zQ i.tops) i.a.toNat 0 6=some [D.v (.bool b),D.v (.bool b_1),D.v (.int .i64 n),D.v (.int .i64 n_1),D.v (.int .i64 n_2),D.v (.int .i64 n_3)]∧(0≤i.b∧i.b<(↑(List.map zQ i.tops).length:Int))∧∃(b_2:Bool),∃(b_3:Bool),∃(n_4:Int),∃(n_5:Int),∃(n_6:Int),∃(n_7:Int),zI (List.map zQ i.tops) i.b.toNat 0 6=some [D.v (.bool b_2),D.v (.bool b_3),D.v (.int .i64 n_4),D.v (.int .i64 n_5),D.v (.int .i64 n_6),D.v (.int .i64 n_7)]∧(True∧((0≤i.b∧i.b<(↑(List.map zQ i.tops).length:Int))∧i.b.toNat=i.b.toNat)∧i.b=i.b∧True∧True∧((0≤i.a∧i.a<(↑(List.map zQ i.tops).length:Int))∧i.a.toNat=i.a.toNat)∧i.a=i.a∧True∧True∧((0≤i.b∧i.b<(↑(List.map zQ i.tops).length:Int))∧i.b.toNat=i.b.toNat)∧i.b=i.b∧True∧True∧((0≤i.a∧i.a<(↑(List.map zQ i.tops).length:Int))∧i.a.toNat=i.a.toNat)∧i.a=i.a∧True∧True∧((0≤i.b∧i.b<(↑(List.map zQ i.tops).length:Int))∧i.b.toNat=i.b.toNat)∧i.b=i.b∧True∧cnd (!b) (aX i b) (cnd (!b_2) (aX i b) (zDe i b n n_2 n_4 n_6)))∧True∧((0≤i.b∧i.b<(↑(List.map zQ i.tops).length:Int))∧i.b.toNat=i.b.toNat)∧i.b=i.b∧True∧True∧((0≤i.a∧i.a<(↑(List.map zQ i.tops).length:Int))∧i.a.toNat=i.a.toNat)∧i.a=i.a∧True∧True∧((0≤i.b∧i.b<(↑(List.map zQ i.tops).length:Int))∧i.b.toNat=i.b.toNat)∧i.b=i.b∧True∧True∧((0≤i.a∧i.a<(↑(List.map zQ i.tops).length:Int))∧i.a.toNat=i.a.toNat)∧i.a=i.a∧True∧True∧((0≤i.b∧i.b<(↑(List.map zQ i.tops).length:Int))∧i.b.toNat=i.b.toNat)∧i.b=i.b∧True∧cnd (!b) (aX i b) (cnd (!b_2) (aX i b) (zDe i b n n_2 n_4 n_6))
theorem z8s (hG:GOk Tryz.prog ([(87,addC),(88,subC)])) (h:∀(i:MkI),mk11.cnd i→zUn i):mk11.ok Tryz.prog 53:=okw mixed hG 0 (fun _=>[]) (fun _=>[]) [] Tryz.func53 h
@[reducible] def zCj (i:MkI) (b:Bool) (n:Int) (n_2:Int) (n_5:Int) (n_7:Int):Prop:=∃(i_1:I2),i_1.x=n∧i_1.y=n_5∧(((-9223372036854775808)≤i_1.x∧i_1.x≤9223372036854775807)∧(-9223372036854775808)≤i_1.y∧i_1.y≤9223372036854775807)∧∀(o:Unit),True→cnd i.less (∃(i_2:I2),i_2.x=n_5∧i_2.y=n∧(((-9223372036854775808)≤i_2.x∧i_2.x≤9223372036854775807)∧(-9223372036854775808)≤i_2.y∧i_2.y≤9223372036854775807)∧∀(o:Unit),True→cnd (kU i_2.x i_2.y).snd (True∧((List.map zG i.out).length+1)*(48:Nat)≤(70368744177664:Nat)∧∃(o:Unit),AObj.fro 6 (List.map zQ i.tops)=MkU (i.tops,i.out) 1∧List.map zG (i.out++mkq i.tops (Leg.mk i.a 1) (Leg.mk i.b 2) i.less)=List.map zG i.out++[[D.v (.int .i64 (kU i_2.x i_2.y).fst),D.v (.int .i64 (min n_2 n_7)),D.v (.int .i64 i.a),D.v (.int .i64 1),D.v (.int .i64 i.b),D.v (.int .i64 2)]]∧True) (∃(o:Unit),AObj.fro 6 (List.map zQ i.tops)=MkU (i.tops,i.out) 1∧List.map zG (i.out++mkq i.tops (Leg.mk i.a 1) (Leg.mk i.b 2) i.less)=List.map zG i.out∧True)) (cnd (kQ i_1.x i_1.y).snd (True∧((List.map zG i.out).length+1)*(48:Nat)≤(70368744177664:Nat)∧∃(o:Unit),AObj.fro 6 (List.map zQ i.tops)=MkU (i.tops,i.out) 1∧List.map zG (i.out++mkq i.tops (Leg.mk i.a 1) (Leg.mk i.b 2) i.less)=List.map zG i.out++[[D.v (.int .i64 (kQ i_1.x i_1.y).fst),D.v (.int .i64 (min n_2 n_7)),D.v (.int .i64 i.a),D.v (.int .i64 1),D.v (.int .i64 i.b),D.v (.int .i64 2)]]∧True) (∃(o:Unit),AObj.fro 6 (List.map zQ i.tops)=MkU (i.tops,i.out) 1∧List.map zG (i.out++mkq i.tops (Leg.mk i.a 1) (Leg.mk i.b 2) i.less)=List.map zG i.out∧True))
@[reducible] def bT (i:MkI) (b:Bool):Prop:=∃(o:Unit),AObj.fro 6 (List.map zQ i.tops)=MkU (i.tops,i.out) 1∧List.map zG (i.out++mkq i.tops (Leg.mk i.a 1) (Leg.mk i.b 2) i.less)=List.map zG i.out∧True
def zVq (i:MkI):Prop:=
 (0≤i.a∧i.a<(↑(List.map zQ i.tops).length:Int))∧∃(b:Bool),∃(b_1:Bool),∃(n:Int),∃(n_1:Int),∃(n_2:Int),∃(n_3:Int),zI (List.map zQ i.tops) i.a.toNat 0 6=some [D.v (.bool b),D.v (.bool b_1),D.v (.int .i64 n),D.v (.int .i64 n_1),D.v (.int .i64 n_2),D.v (.int .i64 n_3)]∧(0≤i.b∧i.b<(↑(List.map zQ i.tops).length:Int))∧∃(b_2:Bool),∃(b_3:Bool),∃(n_4:Int),∃(n_5:Int),∃(n_6:Int),∃(n_7:Int),zI (List.map zQ i.tops) i.b.toNat 0 6=some [D.v (.bool b_2),D.v (.bool b_3),D.v (.int .i64 n_4),D.v (.int .i64 n_5),D.v (.int .i64 n_6),D.v (.int .i64 n_7)]∧(True∧((0≤i.b∧i.b<(↑(List.map zQ i.tops).length:Int))∧i.b.toNat=i.b.toNat)∧i.b=i.b∧True∧True∧((0≤i.a∧i.a<(↑(List.map zQ i.tops).length:Int))∧i.a.toNat=i.a.toNat)∧i.a=i.a∧True∧True∧((0≤i.b∧i.b<(↑(List.map zQ i.tops).length:Int))∧i.b.toNat=i.b.toNat)∧i.b=i.b∧True∧True∧((0≤i.a∧i.a<(↑(List.map zQ i.tops).length:Int))∧i.a.toNat=i.a.toNat)∧i.a=i.a∧True∧True∧((0≤i.b∧i.b<(↑(List.map zQ i.tops).length:Int))∧i.b.toNat=i.b.toNat)∧i.b=i.b∧True∧cnd (!b) (bT i b) (cnd (!b_3) (bT i b) (zCj i b n n_2 n_5 n_7)))∧True∧((0≤i.b∧i.b<(↑(List.map zQ i.tops).length:Int))∧i.b.toNat=i.b.toNat)∧i.b=i.b∧True∧True∧((0≤i.a∧i.a<(↑(List.map zQ i.tops).length:Int))∧i.a.toNat=i.a.toNat)∧i.a=i.a∧True∧True∧((0≤i.b∧i.b<(↑(List.map zQ i.tops).length:Int))∧i.b.toNat=i.b.toNat)∧i.b=i.b∧True∧True∧((0≤i.a∧i.a<(↑(List.map zQ i.tops).length:Int))∧i.a.toNat=i.a.toNat)∧i.a=i.a∧True∧True∧((0≤i.b∧i.b<(↑(List.map zQ i.tops).length:Int))∧i.b.toNat=i.b.toNat)∧i.b=i.b∧True∧cnd (!b) (bT i b) (cnd (!b_3) (bT i b) (zCj i b n n_2 n_5 n_7))
theorem z8d (hG:GOk Tryz.prog ([(87,addC),(88,subC)])) (h:∀(i:MkI),mk12.cnd i→zVq i):mk12.ok Tryz.prog 53:=okw mixed hG 0 (fun _=>[]) (fun _=>[]) [] Tryz.func53 h
@[reducible] def zDp (i:MkI) (b:Bool) (n:Int) (n_1:Int) (n_3:Int) (n_5:Int):Prop:=∃(i_1:I2),i_1.x=n_1∧i_1.y=n∧(((-9223372036854775808)≤i_1.x∧i_1.x≤9223372036854775807)∧(-9223372036854775808)≤i_1.y∧i_1.y≤9223372036854775807)∧∀(o:Unit),True→cnd i.less (∃(i_2:I2),i_2.x=n∧i_2.y=n_1∧(((-9223372036854775808)≤i_2.x∧i_2.x≤9223372036854775807)∧(-9223372036854775808)≤i_2.y∧i_2.y≤9223372036854775807)∧∀(o:Unit),True→cnd (kU i_2.x i_2.y).snd (True∧((List.map zG i.out).length+1)*(48:Nat)≤(70368744177664:Nat)∧∃(o:Unit),AObj.fro 6 (List.map zQ i.tops)=MkU (i.tops,i.out) 1∧List.map zG (i.out++mkq i.tops (Leg.mk i.a 2) (Leg.mk i.b 1) i.less)=List.map zG i.out++[[D.v (.int .i64 (kU i_2.x i_2.y).fst),D.v (.int .i64 (min n_3 n_5)),D.v (.int .i64 i.a),D.v (.int .i64 2),D.v (.int .i64 i.b),D.v (.int .i64 1)]]∧True) (∃(o:Unit),AObj.fro 6 (List.map zQ i.tops)=MkU (i.tops,i.out) 1∧List.map zG (i.out++mkq i.tops (Leg.mk i.a 2) (Leg.mk i.b 1) i.less)=List.map zG i.out∧True)) (cnd (kQ i_1.x i_1.y).snd (True∧((List.map zG i.out).length+1)*(48:Nat)≤(70368744177664:Nat)∧∃(o:Unit),AObj.fro 6 (List.map zQ i.tops)=MkU (i.tops,i.out) 1∧List.map zG (i.out++mkq i.tops (Leg.mk i.a 2) (Leg.mk i.b 1) i.less)=List.map zG i.out++[[D.v (.int .i64 (kQ i_1.x i_1.y).fst),D.v (.int .i64 (min n_3 n_5)),D.v (.int .i64 i.a),D.v (.int .i64 2),D.v (.int .i64 i.b),D.v (.int .i64 1)]]∧True) (∃(o:Unit),AObj.fro 6 (List.map zQ i.tops)=MkU (i.tops,i.out) 1∧List.map zG (i.out++mkq i.tops (Leg.mk i.a 2) (Leg.mk i.b 1) i.less)=List.map zG i.out∧True))
@[reducible] def aO (i:MkI) (b:Bool):Prop:=∃(o:Unit),AObj.fro 6 (List.map zQ i.tops)=MkU (i.tops,i.out) 1∧List.map zG (i.out++mkq i.tops (Leg.mk i.a 2) (Leg.mk i.b 1) i.less)=List.map zG i.out∧True
def zTj (i:MkI):Prop:=
 (0≤i.a∧i.a<(↑(List.map zQ i.tops).length:Int))∧∃(b:Bool),∃(b_1:Bool),∃(n:Int),∃(n_1:Int),∃(n_2:Int),∃(n_3:Int),zI (List.map zQ i.tops) i.a.toNat 0 6=some [D.v (.bool b),D.v (.bool b_1),D.v (.int .i64 n),D.v (.int .i64 n_1),D.v (.int .i64 n_2),D.v (.int .i64 n_3)]∧(0≤i.b∧i.b<(↑(List.map zQ i.tops).length:Int))∧∃(b:Bool),∃(b_2:Bool),∃(n:Int),∃(n_4:Int),∃(n_5:Int),∃(n_6:Int),zI (List.map zQ i.tops) i.b.toNat 0 6=some [D.v (.bool b),D.v (.bool b_2),D.v (.int .i64 n),D.v (.int .i64 n_4),D.v (.int .i64 n_5),D.v (.int .i64 n_6)]∧(True∧((0≤i.b∧i.b<(↑(List.map zQ i.tops).length:Int))∧i.b.toNat=i.b.toNat)∧i.b=i.b∧True∧True∧((0≤i.a∧i.a<(↑(List.map zQ i.tops).length:Int))∧i.a.toNat=i.a.toNat)∧i.a=i.a∧True∧True∧((0≤i.b∧i.b<(↑(List.map zQ i.tops).length:Int))∧i.b.toNat=i.b.toNat)∧i.b=i.b∧True∧True∧((0≤i.a∧i.a<(↑(List.map zQ i.tops).length:Int))∧i.a.toNat=i.a.toNat)∧i.a=i.a∧True∧True∧((0≤i.b∧i.b<(↑(List.map zQ i.tops).length:Int))∧i.b.toNat=i.b.toNat)∧i.b=i.b∧True∧cnd (!b_1) (aO i b) (cnd (!b) (aO i b) (zDp i b n n_1 n_3 n_5)))∧True∧((0≤i.b∧i.b<(↑(List.map zQ i.tops).length:Int))∧i.b.toNat=i.b.toNat)∧i.b=i.b∧True∧True∧((0≤i.a∧i.a<(↑(List.map zQ i.tops).length:Int))∧i.a.toNat=i.a.toNat)∧i.a=i.a∧True∧True∧((0≤i.b∧i.b<(↑(List.map zQ i.tops).length:Int))∧i.b.toNat=i.b.toNat)∧i.b=i.b∧True∧True∧((0≤i.a∧i.a<(↑(List.map zQ i.tops).length:Int))∧i.a.toNat=i.a.toNat)∧i.a=i.a∧True∧True∧((0≤i.b∧i.b<(↑(List.map zQ i.tops).length:Int))∧i.b.toNat=i.b.toNat)∧i.b=i.b∧True∧cnd (!b_1) (aO i b) (cnd (!b) (aO i b) (zDp i b n n_1 n_3 n_5))
theorem z6z (hG:GOk Tryz.prog ([(87,addC),(88,subC)])) (h:∀(i:MkI),mk21.cnd i→zTj i):mk21.ok Tryz.prog 53:=okw mixed hG 0 (fun _=>[]) (fun _=>[]) [] Tryz.func53 h
@[reducible] def zCe (i:MkI) (b:Bool) (n_1:Int) (n_3:Int) (n_4:Int) (n_6:Int):Prop:=∃(i_1:I2),i_1.x=n_1∧i_1.y=n_4∧(((-9223372036854775808)≤i_1.x∧i_1.x≤9223372036854775807)∧(-9223372036854775808)≤i_1.y∧i_1.y≤9223372036854775807)∧∀(o:Unit),True→cnd i.less (∃(i_2:I2),i_2.x=n_4∧i_2.y=n_1∧(((-9223372036854775808)≤i_2.x∧i_2.x≤9223372036854775807)∧(-9223372036854775808)≤i_2.y∧i_2.y≤9223372036854775807)∧∀(o:Unit),True→cnd (kU i_2.x i_2.y).snd (True∧((List.map zG i.out).length+1)*(48:Nat)≤(70368744177664:Nat)∧∃(o:Unit),AObj.fro 6 (List.map zQ i.tops)=MkU (i.tops,i.out) 1∧List.map zG (i.out++mkq i.tops (Leg.mk i.a 2) (Leg.mk i.b 2) i.less)=List.map zG i.out++[[D.v (.int .i64 (kU i_2.x i_2.y).fst),D.v (.int .i64 (min n_3 n_6)),D.v (.int .i64 i.a),D.v (.int .i64 2),D.v (.int .i64 i.b),D.v (.int .i64 2)]]∧True) (∃(o:Unit),AObj.fro 6 (List.map zQ i.tops)=MkU (i.tops,i.out) 1∧List.map zG (i.out++mkq i.tops (Leg.mk i.a 2) (Leg.mk i.b 2) i.less)=List.map zG i.out∧True)) (cnd (kQ i_1.x i_1.y).snd (True∧((List.map zG i.out).length+1)*(48:Nat)≤(70368744177664:Nat)∧∃(o:Unit),AObj.fro 6 (List.map zQ i.tops)=MkU (i.tops,i.out) 1∧List.map zG (i.out++mkq i.tops (Leg.mk i.a 2) (Leg.mk i.b 2) i.less)=List.map zG i.out++[[D.v (.int .i64 (kQ i_1.x i_1.y).fst),D.v (.int .i64 (min n_3 n_6)),D.v (.int .i64 i.a),D.v (.int .i64 2),D.v (.int .i64 i.b),D.v (.int .i64 2)]]∧True) (∃(o:Unit),AObj.fro 6 (List.map zQ i.tops)=MkU (i.tops,i.out) 1∧List.map zG (i.out++mkq i.tops (Leg.mk i.a 2) (Leg.mk i.b 2) i.less)=List.map zG i.out∧True))
@[reducible] def aS (i:MkI) (b:Bool):Prop:=∃(o:Unit),AObj.fro 6 (List.map zQ i.tops)=MkU (i.tops,i.out) 1∧List.map zG (i.out++mkq i.tops (Leg.mk i.a 2) (Leg.mk i.b 2) i.less)=List.map zG i.out∧True
def zSj (i:MkI):Prop:=
 (0≤i.a∧i.a<(↑(List.map zQ i.tops).length:Int))∧∃(b:Bool),∃(b_1:Bool),∃(n:Int),∃(n_1:Int),∃(n_2:Int),∃(n_3:Int),zI (List.map zQ i.tops) i.a.toNat 0 6=some [D.v (.bool b),D.v (.bool b_1),D.v (.int .i64 n),D.v (.int .i64 n_1),D.v (.int .i64 n_2),D.v (.int .i64 n_3)]∧(0≤i.b∧i.b<(↑(List.map zQ i.tops).length:Int))∧∃(b:Bool),∃(b_2:Bool),∃(n:Int),∃(n_4:Int),∃(n_5:Int),∃(n_6:Int),zI (List.map zQ i.tops) i.b.toNat 0 6=some [D.v (.bool b),D.v (.bool b_2),D.v (.int .i64 n),D.v (.int .i64 n_4),D.v (.int .i64 n_5),D.v (.int .i64 n_6)]∧(True∧((0≤i.b∧i.b<(↑(List.map zQ i.tops).length:Int))∧i.b.toNat=i.b.toNat)∧i.b=i.b∧True∧True∧((0≤i.a∧i.a<(↑(List.map zQ i.tops).length:Int))∧i.a.toNat=i.a.toNat)∧i.a=i.a∧True∧True∧((0≤i.b∧i.b<(↑(List.map zQ i.tops).length:Int))∧i.b.toNat=i.b.toNat)∧i.b=i.b∧True∧True∧((0≤i.a∧i.a<(↑(List.map zQ i.tops).length:Int))∧i.a.toNat=i.a.toNat)∧i.a=i.a∧True∧True∧((0≤i.b∧i.b<(↑(List.map zQ i.tops).length:Int))∧i.b.toNat=i.b.toNat)∧i.b=i.b∧True∧cnd (!b_1) (aS i b) (cnd (!b_2) (aS i b) (zCe i b n_1 n_3 n_4 n_6)))∧True∧((0≤i.b∧i.b<(↑(List.map zQ i.tops).length:Int))∧i.b.toNat=i.b.toNat)∧i.b=i.b∧True∧True∧((0≤i.a∧i.a<(↑(List.map zQ i.tops).length:Int))∧i.a.toNat=i.a.toNat)∧i.a=i.a∧True∧True∧((0≤i.b∧i.b<(↑(List.map zQ i.tops).length:Int))∧i.b.toNat=i.b.toNat)∧i.b=i.b∧True∧True∧((0≤i.a∧i.a<(↑(List.map zQ i.tops).length:Int))∧i.a.toNat=i.a.toNat)∧i.a=i.a∧True∧True∧((0≤i.b∧i.b<(↑(List.map zQ i.tops).length:Int))∧i.b.toNat=i.b.toNat)∧i.b=i.b∧True∧cnd (!b_1) (aS i b) (cnd (!b_2) (aS i b) (zCe i b n_1 n_3 n_4 n_6))
theorem z9k (hG:GOk Tryz.prog ([(87,addC),(88,subC)])) (h:∀(i:MkI),mk22.cnd i→zSj i):mk22.ok Tryz.prog 53:=okw mixed hG 0 (fun _=>[]) (fun _=>[]) [] Tryz.func53 h
open Go Cv Go.Proofs
theorem zAb:iotherC.ok Tryz.prog 52:=zVx gok0 fun n h=>by
 have h:n=1∨n=2:=h
 refine⟨(),?_,trivial⟩
 rw[w64 (by omega)]
theorem zJr:ibetterC.ok Tryz.prog 94:=zQf gok0 fun i _=>by
 refine Cv.cnd.mk (fun e=>⟨(),?_,trivial⟩) (fun e=>⟨(),?_,trivial⟩)
 ·have e:i.side=1:=by simpa using e
  simp[btr,e]
 ·have e:i.side≠1:=by simpa using e
  simp[btr,e]
theorem z2c (a b:Int):(if b<a then b else a)=min a b:=by split<;>omega
theorem yAv (i:MkI) (h:mk11.cnd i):zUn i:=by
 obtain⟨a0,a1,b0,b1,⟨ht,hp⟩,ho⟩:0≤i.a∧i.a<i.tops.length∧0≤i.b∧i.b<i.tops.length∧kJ i.tops∧i.out.length≤1000:=h
 obtain⟨x,hx⟩:=yD (l:=i.tops) (i:=i.a.toNat) (by omega)
 obtain⟨y,hy⟩:=yD (l:=i.tops) (i:=i.b.toNat) (by omega)
 obtain⟨⟨px1,px2⟩,px3,px4⟩:=hp x (List.mem_of_getElem? hx)
 obtain⟨⟨py1,py2⟩,py3,py4⟩:=hp y (List.mem_of_getElem? hy)
 have e0:mkq i.tops ⟨i.a,1⟩ ⟨i.b,1⟩ i.less=if x.has1 && y.has1 && (if i.less then kU y.p1 x.p1 else kQ x.p1 y.p1).2 then[⟨(if i.less then kU y.p1 x.p1 else kQ x.p1 y.p1).1,min x.q1 y.q1,⟨i.a,1⟩,⟨i.b,1⟩⟩]else[]:=by
  simp only[mkq,List.getD_eq_getElem?_getD,hx,hy,Option.getD_some];rfl
 unfold zUn zDe aX
 simp only[List.length_map]
 refine⟨⟨by omega,by omega⟩,x.has1,x.has2,x.p1,x.p2,x.q1,x.q2,elA hx (by simp[zQ]) rfl,⟨by omega,by omega⟩,y.has1,y.has2,y.p1,y.p2,y.q1,y.q2,elA hy (by simp[zQ]) rfl,?_⟩
 rw[e0]
 (repeat'(first|exact rfl|exact trivial|assumption|apply And.intro|refine fun(_:Unit) (_:True)=>?_|refine Exists.intro () ?_|omega|(dsimp only;omega)))
 all_goals
  refine Cv.cnd.mk (fun c1=> ?_) (fun c1=>Cv.cnd.mk (fun c2=> ?_) (fun c2=> ?_))
  ·have c1:x.has1=false:=by simpa using c1
   simp only[c1,Bool.false_and,Bool.false_eq_true,if_false,List.append_nil];exact kp
  ·have c2:y.has1=false:=by simpa using c2
   simp only[c2,Bool.and_false,Bool.false_and,Bool.false_eq_true,if_false,List.append_nil];exact kp
  ·have c1:x.has1=true:=by simpa using c1
   have c2:y.has1=true:=by simpa using c2
   simp only[c1,c2,Bool.true_and,z2c]
   refine⟨⟨x.p1,y.p1⟩,?_⟩
   (repeat'(first|exact rfl|exact trivial|assumption|apply And.intro|refine fun(_:Unit) (_:True)=>?_|refine Exists.intro () ?_|omega|(dsimp only;omega)))
   refine Cv.cnd.mk (fun c3=> ?_) (fun c3=> ?_)
   ·have c3:i.less=true:=c3
    simp only[c3,if_true]
    refine⟨⟨y.p1,x.p1⟩,?_⟩
    (repeat'(first|exact rfl|exact trivial|assumption|apply And.intro|refine fun(_:Unit) (_:True)=>?_|refine Exists.intro () ?_|omega|(dsimp only;omega)))
    refine Cv.cnd.mk (fun c4=> ?_) (fun c4=> ?_)
    ·have c4:(kU y.p1 x.p1).2=true:=c4
     simp only[c4,if_true,List.map_append];exact kp
    ·have c4:(kU y.p1 x.p1).2=false:=c4
     simp only[c4,Bool.false_eq_true,if_false,List.append_nil];exact kp
   ·have c3:i.less=false:=c3
    simp only[c3,Bool.false_eq_true,if_false]
    refine Cv.cnd.mk (fun c4=> ?_) (fun c4=> ?_)
    ·have c4:(kQ x.p1 y.p1).2=true:=c4
     simp only[c4,if_true,List.map_append];exact kp
    ·have c4:(kQ x.p1 y.p1).2=false:=c4
     simp only[c4,Bool.false_eq_true,if_false,List.append_nil];exact kp
theorem zZh:mk11.ok Tryz.prog 53:=z8s (gokc zDo (gokc zDy gok0)) yAv
theorem yCt (i:MkI) (h:mk12.cnd i):zVq i:=by
 obtain⟨a0,a1,b0,b1,⟨ht,hp⟩,ho⟩:0≤i.a∧i.a<i.tops.length∧0≤i.b∧i.b<i.tops.length∧kJ i.tops∧i.out.length≤1000:=h
 obtain⟨x,hx⟩:=yD (l:=i.tops) (i:=i.a.toNat) (by omega)
 obtain⟨y,hy⟩:=yD (l:=i.tops) (i:=i.b.toNat) (by omega)
 obtain⟨⟨px1,px2⟩,px3,px4⟩:=hp x (List.mem_of_getElem? hx)
 obtain⟨⟨py1,py2⟩,py3,py4⟩:=hp y (List.mem_of_getElem? hy)
 have e0:mkq i.tops ⟨i.a,1⟩ ⟨i.b,2⟩ i.less=if x.has1 && y.has2 && (if i.less then kU y.p2 x.p1 else kQ x.p1 y.p2).2 then[⟨(if i.less then kU y.p2 x.p1 else kQ x.p1 y.p2).1,min x.q1 y.q2,⟨i.a,1⟩,⟨i.b,2⟩⟩]else[]:=by
  simp only[mkq,List.getD_eq_getElem?_getD,hx,hy,Option.getD_some];rfl
 unfold zVq zCj bT
 simp only[List.length_map]
 refine⟨⟨by omega,by omega⟩,x.has1,x.has2,x.p1,x.p2,x.q1,x.q2,elA hx (by simp[zQ]) rfl,⟨by omega,by omega⟩,y.has1,y.has2,y.p1,y.p2,y.q1,y.q2,elA hy (by simp[zQ]) rfl,?_⟩
 rw[e0]
 (repeat'(first|exact rfl|exact trivial|assumption|apply And.intro|refine fun(_:Unit) (_:True)=>?_|refine Exists.intro () ?_|omega|(dsimp only;omega)))
 all_goals
  refine Cv.cnd.mk (fun c1=> ?_) (fun c1=>Cv.cnd.mk (fun c2=> ?_) (fun c2=> ?_))
  ·have c1:x.has1=false:=by simpa using c1
   simp only[c1,Bool.false_and,Bool.false_eq_true,if_false,List.append_nil];exact kp
  ·have c2:y.has2=false:=by simpa using c2
   simp only[c2,Bool.and_false,Bool.false_and,Bool.false_eq_true,if_false,List.append_nil];exact kp
  ·have c1:x.has1=true:=by simpa using c1
   have c2:y.has2=true:=by simpa using c2
   simp only[c1,c2,Bool.true_and,z2c]
   refine⟨⟨x.p1,y.p2⟩,?_⟩
   (repeat'(first|exact rfl|exact trivial|assumption|apply And.intro|refine fun(_:Unit) (_:True)=>?_|refine Exists.intro () ?_|omega|(dsimp only;omega)))
   refine Cv.cnd.mk (fun c3=> ?_) (fun c3=> ?_)
   ·have c3:i.less=true:=c3
    simp only[c3,if_true]
    refine⟨⟨y.p2,x.p1⟩,?_⟩
    (repeat'(first|exact rfl|exact trivial|assumption|apply And.intro|refine fun(_:Unit) (_:True)=>?_|refine Exists.intro () ?_|omega|(dsimp only;omega)))
    refine Cv.cnd.mk (fun c4=> ?_) (fun c4=> ?_)
    ·have c4:(kU y.p2 x.p1).2=true:=c4
     simp only[c4,if_true,List.map_append];exact kp
    ·have c4:(kU y.p2 x.p1).2=false:=c4
     simp only[c4,Bool.false_eq_true,if_false,List.append_nil];exact kp
   ·have c3:i.less=false:=c3
    simp only[c3,Bool.false_eq_true,if_false]
    refine Cv.cnd.mk (fun c4=> ?_) (fun c4=> ?_)
    ·have c4:(kQ x.p1 y.p2).2=true:=c4
     simp only[c4,if_true,List.map_append];exact kp
    ·have c4:(kQ x.p1 y.p2).2=false:=c4
     simp only[c4,Bool.false_eq_true,if_false,List.append_nil];exact kp
theorem zZj:mk12.ok Tryz.prog 53:=z8d (gokc zDo (gokc zDy gok0)) yCt
theorem yBi (i:MkI) (h:mk21.cnd i):zTj i:=by
 obtain⟨a0,a1,b0,b1,⟨ht,hp⟩,ho⟩:0≤i.a∧i.a<i.tops.length∧0≤i.b∧i.b<i.tops.length∧kJ i.tops∧i.out.length≤1000:=h
 obtain⟨x,hx⟩:=yD (l:=i.tops) (i:=i.a.toNat) (by omega)
 obtain⟨y,hy⟩:=yD (l:=i.tops) (i:=i.b.toNat) (by omega)
 obtain⟨⟨px1,px2⟩,px3,px4⟩:=hp x (List.mem_of_getElem? hx)
 obtain⟨⟨py1,py2⟩,py3,py4⟩:=hp y (List.mem_of_getElem? hy)
 have e0:mkq i.tops ⟨i.a,2⟩ ⟨i.b,1⟩ i.less=if x.has2 && y.has1 && (if i.less then kU y.p1 x.p2 else kQ x.p2 y.p1).2 then[⟨(if i.less then kU y.p1 x.p2 else kQ x.p2 y.p1).1,min x.q2 y.q1,⟨i.a,2⟩,⟨i.b,1⟩⟩]else[]:=by
  simp only[mkq,List.getD_eq_getElem?_getD,hx,hy,Option.getD_some];rfl
 unfold zTj zDp aO
 simp only[List.length_map]
 refine⟨⟨by omega,by omega⟩,x.has1,x.has2,x.p1,x.p2,x.q1,x.q2,elA hx (by simp[zQ]) rfl,⟨by omega,by omega⟩,y.has1,y.has2,y.p1,y.p2,y.q1,y.q2,elA hy (by simp[zQ]) rfl,?_⟩
 rw[e0]
 (repeat'(first|exact rfl|exact trivial|assumption|apply And.intro|refine fun(_:Unit) (_:True)=>?_|refine Exists.intro () ?_|omega|(dsimp only;omega)))
 all_goals
  refine Cv.cnd.mk (fun c1=> ?_) (fun c1=>Cv.cnd.mk (fun c2=> ?_) (fun c2=> ?_))
  ·have c1:x.has2=false:=by simpa using c1
   simp only[c1,Bool.false_and,Bool.false_eq_true,if_false,List.append_nil];exact kp
  ·have c2:y.has1=false:=by simpa using c2
   simp only[c2,Bool.and_false,Bool.false_and,Bool.false_eq_true,if_false,List.append_nil];exact kp
  ·have c1:x.has2=true:=by simpa using c1
   have c2:y.has1=true:=by simpa using c2
   simp only[c1,c2,Bool.true_and,z2c]
   refine⟨⟨x.p2,y.p1⟩,?_⟩
   (repeat'(first|exact rfl|exact trivial|assumption|apply And.intro|refine fun(_:Unit) (_:True)=>?_|refine Exists.intro () ?_|omega|(dsimp only;omega)))
   refine Cv.cnd.mk (fun c3=> ?_) (fun c3=> ?_)
   ·have c3:i.less=true:=c3
    simp only[c3,if_true]
    refine⟨⟨y.p1,x.p2⟩,?_⟩
    (repeat'(first|exact rfl|exact trivial|assumption|apply And.intro|refine fun(_:Unit) (_:True)=>?_|refine Exists.intro () ?_|omega|(dsimp only;omega)))
    refine Cv.cnd.mk (fun c4=> ?_) (fun c4=> ?_)
    ·have c4:(kU y.p1 x.p2).2=true:=c4
     simp only[c4,if_true,List.map_append];exact kp
    ·have c4:(kU y.p1 x.p2).2=false:=c4
     simp only[c4,Bool.false_eq_true,if_false,List.append_nil];exact kp
   ·have c3:i.less=false:=c3
    simp only[c3,Bool.false_eq_true,if_false]
    refine Cv.cnd.mk (fun c4=> ?_) (fun c4=> ?_)
    ·have c4:(kQ x.p2 y.p1).2=true:=c4
     simp only[c4,if_true,List.map_append];exact kp
    ·have c4:(kQ x.p2 y.p1).2=false:=c4
     simp only[c4,Bool.false_eq_true,if_false,List.append_nil];exact kp
theorem z3f:mk21.ok Tryz.prog 53:=z6z (gokc zDo (gokc zDy gok0)) yBi
theorem yAm (i:MkI) (h:mk22.cnd i):zSj i:=by
 obtain⟨a0,a1,b0,b1,⟨ht,hp⟩,ho⟩:0≤i.a∧i.a<i.tops.length∧0≤i.b∧i.b<i.tops.length∧kJ i.tops∧i.out.length≤1000:=h
 obtain⟨x,hx⟩:=yD (l:=i.tops) (i:=i.a.toNat) (by omega)
 obtain⟨y,hy⟩:=yD (l:=i.tops) (i:=i.b.toNat) (by omega)
 obtain⟨⟨px1,px2⟩,px3,px4⟩:=hp x (List.mem_of_getElem? hx)
 obtain⟨⟨py1,py2⟩,py3,py4⟩:=hp y (List.mem_of_getElem? hy)
 have e0:mkq i.tops ⟨i.a,2⟩ ⟨i.b,2⟩ i.less=if x.has2 && y.has2 && (if i.less then kU y.p2 x.p2 else kQ x.p2 y.p2).2 then[⟨(if i.less then kU y.p2 x.p2 else kQ x.p2 y.p2).1,min x.q2 y.q2,⟨i.a,2⟩,⟨i.b,2⟩⟩]else[]:=by
  simp only[mkq,List.getD_eq_getElem?_getD,hx,hy,Option.getD_some];rfl
 unfold zSj zCe aS
 simp only[List.length_map]
 refine⟨⟨by omega,by omega⟩,x.has1,x.has2,x.p1,x.p2,x.q1,x.q2,elA hx (by simp[zQ]) rfl,⟨by omega,by omega⟩,y.has1,y.has2,y.p1,y.p2,y.q1,y.q2,elA hy (by simp[zQ]) rfl,?_⟩
 rw[e0]
 (repeat'(first|exact rfl|exact trivial|assumption|apply And.intro|refine fun(_:Unit) (_:True)=>?_|refine Exists.intro () ?_|omega|(dsimp only;omega)))
 all_goals
  refine Cv.cnd.mk (fun c1=> ?_) (fun c1=>Cv.cnd.mk (fun c2=> ?_) (fun c2=> ?_))
  ·have c1:x.has2=false:=by simpa using c1
   simp only[c1,Bool.false_and,Bool.false_eq_true,if_false,List.append_nil];exact kp
  ·have c2:y.has2=false:=by simpa using c2
   simp only[c2,Bool.and_false,Bool.false_and,Bool.false_eq_true,if_false,List.append_nil];exact kp
  ·have c1:x.has2=true:=by simpa using c1
   have c2:y.has2=true:=by simpa using c2
   simp only[c1,c2,Bool.true_and,z2c]
   refine⟨⟨x.p2,y.p2⟩,?_⟩
   (repeat'(first|exact rfl|exact trivial|assumption|apply And.intro|refine fun(_:Unit) (_:True)=>?_|refine Exists.intro () ?_|omega|(dsimp only;omega)))
   refine Cv.cnd.mk (fun c3=> ?_) (fun c3=> ?_)
   ·have c3:i.less=true:=c3
    simp only[c3,if_true]
    refine⟨⟨y.p2,x.p2⟩,?_⟩
    (repeat'(first|exact rfl|exact trivial|assumption|apply And.intro|refine fun(_:Unit) (_:True)=>?_|refine Exists.intro () ?_|omega|(dsimp only;omega)))
    refine Cv.cnd.mk (fun c4=> ?_) (fun c4=> ?_)
    ·have c4:(kU y.p2 x.p2).2=true:=c4
     simp only[c4,if_true,List.map_append];exact kp
    ·have c4:(kU y.p2 x.p2).2=false:=c4
     simp only[c4,Bool.false_eq_true,if_false,List.append_nil];exact kp
   ·have c3:i.less=false:=c3
    simp only[c3,Bool.false_eq_true,if_false]
    refine Cv.cnd.mk (fun c4=> ?_) (fun c4=> ?_)
    ·have c4:(kQ x.p2 y.p2).2=true:=c4
     simp only[c4,if_true,List.map_append];exact kp
    ·have c4:(kQ x.p2 y.p2).2=false:=c4
     simp only[c4,Bool.false_eq_true,if_false,List.append_nil];exact kp
theorem z1x:mk22.ok Tryz.prog 53:=z9k (gokc zDo (gokc zDy gok0)) yAm
open Go Cv Go.Proofs
structure MkJ where
 i:MkI
 sa:Bool
 sb:Bool
def mkAnyC:Con:=con1 MkJ (fun j=>[.nm 0 0,.agg [zC j.i.a,zC (zB j.sa)],.agg [zC j.i.b,zC (zB j.sb)],yJ j.i.less]) (fun j=>MkR j.i.tops j.i.out)
 (fun j=>0≤j.i.a∧j.i.a<j.i.tops.length∧0≤j.i.b∧j.i.b<j.i.tops.length∧kJ j.i.tops∧j.i.out.length≤1000) (fun _=>zEn) (fun j=>MkP j.i.tops (j.i.out++mkq j.i.tops ⟨j.i.a,zB j.sa⟩ ⟨j.i.b,zB j.sb⟩ j.i.less))
theorem zEq:mkAnyC.ok Tryz.prog 53:=fun j=>match j with
 |⟨i,false,false⟩=>zZh i
 |⟨i,false,true⟩=>zZj i
 |⟨i,true,false⟩=>z3f i
 |⟨i,true,true⟩=>z1x i
structure uP where
 p:Prd
 tops:List Top
 inst:Int
def xA (i:uP) (s:Int) (k:Nat):List Quote:=(List.range k).flatMap fun(k:Nat)=>mkq i.tops ⟨(i.p.spread i.inst (i.inst+1+k)).1,s⟩ ⟨i.inst+1+k,s⟩ false
def y7 (i:uP) (s:Int) (k:Nat):List Quote:=(List.range k).flatMap fun(k:Nat)=>mkq i.tops ⟨(i.p.spread k i.inst).1,3-s⟩ ⟨k,s⟩ true
def zZ (i:uP) (s:Int):List Quote:=mkq i.tops ⟨(i.p.legs i.inst).2.1,3-s⟩ ⟨(i.p.legs i.inst).1,s⟩ true
def qO (i:uP) (s:Int) (q:Quote):Quote:={q with a:=⟨(i.p.legs i.inst).1,s⟩,b:=⟨(i.p.legs i.inst).2.1,3-s⟩}
def y6 (i:uP) (s:Int):List Quote:=
 if i.p.count=0∨(i.tops.length:Int)≠i.p.count∨i.inst<0∨(i.p.count:Int)≤i.inst then[]
 else if(i.p.legs i.inst).2.2 then(zZ i s).map (qO i s)
 else xA i s (i.p.months.length-(i.inst.toNat+1))++y7 i s i.inst.toNat
def z4a (s:Int):Con:=con1 uP (fun i=>[aT i.p,roV 6 (i.tops.map zQ),zC i.inst,zC s]) (fun _=>[]) (fun i=>i.p.small∧kJ i.tops) (fun _=> .own 0) (fun i=>[.own 62 6 ((y6 i s).map zG)])
def all1C:Con:=z4a 1
def all2C:Con:=z4a 2
def yBy (i:uP) (s:Int):List SAnn:=[
 {ι:=Nat,slots:=fun k=>[(10,.nm 0 0),(77,zC k)],rows:=fun k=>(List.range 3).map (MkU (i.tops,((zZ i s).take k).map (qO i s)++(zZ i s).drop k))},
 {ι:=Nat,slots:=fun k=>[(10,.nm 0 0),(17,zC (i.inst+1+k))],rows:=fun k=>MkR i.tops (xA i s k)},
 {ι:=Nat,slots:=fun k=>[(10,.nm 0 0),(120,zC k)],rows:=fun k=>MkR i.tops (xA i s (i.p.months.length-(i.inst.toNat+1))++y7 i s k)}]
structure aM where
 i:uP
 s:Bool
def allC:Con:=con1 aM (fun j=>[aT j.i.p,roV 6 (j.i.tops.map zQ),zC j.i.inst,zC (zB j.s)]) (fun _=>[]) (fun j=>j.i.p.small∧kJ j.i.tops) (fun _=> .own 0) (fun j=>[.own 62 6 ((y6 j.i (zB j.s)).map zG)])
def xS (i:uP) (s:Int):List Quote:=(y6 i s).filter fun q=>decide (i.p.price i.inst q.price=0)
def quotesC:Con:=con1 aM (fun j=>[aT j.i.p,roV 6 (j.i.tops.map zQ),zC j.i.inst,zC (zB j.s)]) (fun _=>[]) (fun j=>j.i.p.small∧kJ j.i.tops) (fun _=> .own 0) (fun j=>[.own 62 6 ((xS j.i (zB j.s)).map zG)])
def z0p (j:aM):List SAnn:=[{ι:=Nat,slots:=fun k=>[(9,.own 0),(18,zC k)],rows:=fun k=>[.own 62 6 ((((y6 j.i (zB j.s)).take k).filter fun q=>decide (j.i.p.price j.i.inst q.price=0)).map zG)]}]
structure BsI where
 l:List Quote
 s:Int
def zV (l:List Quote) (s:Int):Quote×Bool:=match l with
 |[]=>(z8f,false)
 |q::r=>(r.foldl (fun b q=>if btr s q.price b.price then q else b) q,true)
def bestQC:Con:=con1 BsI (fun i=>[roV 6 (i.l.map zG),zC i.s]) (fun _=>[]) (fun i=>(i.s=1∨i.s=2)∧i.l.length≤1000000) (fun i=> .tup [zKr (zV i.l i.s).1,yJ (zV i.l i.s).2]) (fun _=>[])
def z6e (i:BsI):List SAnn:=[{ι:=Nat,slots:=fun k=>[(6,.nm 0 0),(26,zC k)],rows:=fun k=>[.cells (zKr (zV (i.l.take (max k 1)) i.s).1).cl 62]}]
open Go Cv Go.Proofs
@[reducible] def zMq (i_2:fG) (i_3:Int):AObj:=Sx.AObj.cells [V.d (D.v (.int .i64 (i_2.p.legs i_2.n).snd.fst)),V.d (D.v (.int .i64 ((3:Int)-i_3)))] (59:Nat)
@[reducible] def zMe (i_2:fG):AObj:=Sx.AObj.cells [V.d (D.v (.int .i64 (i_2.p.legs i_2.n).fst)),V.d (D.v (.int .i64 1))] (59:Nat)
@[reducible] def dV (i:uP):AObj:=Sx.AObj.cells [V.d (D.v (Value.string (sb i.p.code))),V.own (0:Nat),V.d (D.v (.int .i64 i.p.tick)),V.d (D.v (.int .i64 i.p.low)),V.d (D.v (.int .i64 i.p.high)),V.d (D.v (.int .i64 i.p.wide)),V.d (D.v (.int .i64 i.p.rule)),V.d (D.v (.int .i64 i.p.top)),V.d (D.v (.int .i64 i.p.least)),V.d (D.v (.int .i64 i.p.part)),V.own ((0:Nat)+(1:Nat))] (29:Nat)
def z4g (i:uP):Prop:=
 ∃(i_1:Prd),sb i_1.code=sb i.p.code∧iE i_1.months=iE i.p.months∧i_1.tick=i.p.tick∧i_1.low=i.p.low∧i_1.high=i.p.high∧i_1.wide=i.p.wide∧i_1.rule=i.p.rule∧i_1.top=i.p.top∧i_1.least=i.p.least∧i_1.part=i.p.part∧iE i_1.settle=iE i.p.settle∧(i_1.code.length≤1099511627776∧i_1.months.length≤1099511627776∧i_1.settle.length≤1099511627776)∧∀(o:Unit),True→cnd ((↑i_1.count:Int)==0) (∃(o:Unit),List.map zG (y6 i 1)=[]∧True) (cnd ((↑(List.map zQ i.tops).length:Int) !=(↑i_1.count:Int)) (∃(o:Unit),List.map zG (y6 i 1)=[]∧True) (cnd (decide (i.inst<0)) (∃(o:Unit),List.map zG (y6 i 1)=[]∧True) (cnd (decide (i.inst≥(↑i_1.count:Int))) (∃(o:Unit),List.map zG (y6 i 1)=[]∧True) (∃(i_2:fG),sb i_2.p.code=sb i.p.code∧iE i_2.p.months=iE i.p.months∧i_2.p.tick=i.p.tick∧i_2.p.low=i.p.low∧i_2.p.high=i.p.high∧i_2.p.wide=i.p.wide∧i_2.p.rule=i.p.rule∧i_2.p.top=i.p.top∧i_2.p.least=i.p.least∧i_2.p.part=i.p.part∧iE i_2.p.settle=iE i.p.settle∧i_2.n=i.inst∧(i_2.p.code.length≤1099511627776∧i_2.p.months.length≤1099511627776∧i_2.p.settle.length≤1099511627776)∧∀(o:Unit),True→cnd (i_2.p.legs i_2.n).snd.snd (∃(i_3:Int),i_3=1∧(i_3=1∨i_3=2)∧∀(o:Unit),True→∃(i_4:MkJ),i_4.i.a=(i_2.p.legs i_2.n).snd.fst∧zB i_4.sa=3-i_3∧i_4.i.b=(i_2.p.legs i_2.n).fst∧zB i_4.sb=1∧i_4.i.less=true∧AObj.fro 6 (List.map zQ i_4.i.tops)=AObj.fro 6 (List.map zQ i.tops)∧List.map zG i_4.i.out=[]∧(0≤i_4.i.a∧i_4.i.a<(↑i_4.i.tops.length:Int)∧0≤i_4.i.b∧i_4.i.b<(↑i_4.i.tops.length:Int)∧(i_4.i.tops.length≤1000000∧∀(t:Top),t∈i_4.i.tops→((-9223372036854775808)≤t.p1∧t.p1≤9223372036854775807)∧(-9223372036854775808)≤t.p2∧t.p2≤9223372036854775807)∧i_4.i.out.length≤1000)∧∀(o:Unit),True→∃(i0:Nat),(↑i0:Int)=0∧AObj.fro 6 (List.map zQ i.tops)=AObj.fro 6 (List.map zQ i_4.i.tops)∧List.map zG (List.map (qO i 1) (List.take i0 (zZ i 1))++List.drop i0 (zZ i 1))=List.map zG (i_4.i.out++mkq i_4.i.tops (Leg.mk i_4.i.a (zB i_4.sa)) (Leg.mk i_4.i.b (zB i_4.sb)) i_4.i.less)∧∃(I:Nat→Prop),∃(μ:Nat→Nat),I i0∧∀(i_5:Nat),I i_5→cnd (decide ((↑i_5:Int)<(↑(List.map zG (i_4.i.out++mkq i_4.i.tops (Leg.mk i_4.i.a (zB i_4.sa)) (Leg.mk i_4.i.b (zB i_4.sb)) i_4.i.less)).length:Int))) ((0≤(↑i_5:Int)∧(↑i_5:Int)<(↑(List.map zG (List.map (qO i 1) (List.take i_5 (zZ i 1))++List.drop i_5 (zZ i 1))).length:Int))∧(↑i_5:Int).toNat<(List.map zG (List.map (qO i 1) (List.take i_5 (zZ i 1))++List.drop i_5 (zZ i 1))).length∧∃(i':Nat),(↑i':Int)=IntKind.i64.wrap ((↑i_5:Int)+1)∧AObj.fro 6 (List.map zQ i.tops)=AObj.fro 6 (List.map zQ i.tops)∧List.map zG (List.map (qO i 1) (List.take i' (zZ i 1))++List.drop i' (zZ i 1))=zK (List.map zG (List.map (qO i 1) (List.take i_5 (zZ i 1))++List.drop i_5 (zZ i 1))) (↑i_5:Int).toNat ((0:Nat)+(2:Nat)) [D.v (.int .i64 (i_2.p.legs i_2.n).fst),D.v (.int .i64 1),D.v (.int .i64 (i_2.p.legs i_2.n).snd.fst),D.v (.int .i64 (3-i_3))]∧I i'∧μ i'<μ i_5∧AObj.fro 6 (List.map zQ i_4.i.tops)=AObj.fro 6 (List.map zQ i_4.i.tops)∧zMq i_2 i_3=zMq i_2 i_3∧zMe i_2=zMe i_2∧AObj.fro 6 (List.map zQ i.tops)=AObj.fro 6 (List.map zQ i.tops)∧dV i=dV i∧AObj.fro 1 (iE i.p.settle)=AObj.fro 1 (iE i.p.settle)∧AObj.fro 1 (iE i.p.months)=AObj.fro 1 (iE i.p.months)) (∃(o:Unit),List.map zG (y6 i 1)=List.map zG (List.map (qO i 1) (List.take i_5 (zZ i 1))++List.drop i_5 (zZ i 1))∧True)) (∃(i0:Nat),i.inst+1+(↑i0:Int)=IntKind.i64.wrap (i.inst+1)∧AObj.fro 6 (List.map zQ i.tops)=AObj.fro 6 (List.map zQ i.tops)∧List.map zG (xA i 1 i0)=[]∧∃(I:Nat→Prop),∃(μ:Nat→Nat),I i0∧∀(i_3:Nat),I i_3→cnd (decide (i.inst+1+(↑i_3:Int)<(↑(iE i.p.months).length:Int))) (∃(i_4:gK),sb i_4.p.code=sb i.p.code∧iE i_4.p.months=iE i.p.months∧i_4.p.tick=i.p.tick∧i_4.p.low=i.p.low∧i_4.p.high=i.p.high∧i_4.p.wide=i.p.wide∧i_4.p.rule=i.p.rule∧i_4.p.top=i.p.top∧i_4.p.least=i.p.least∧i_4.p.part=i.p.part∧iE i_4.p.settle=iE i.p.settle∧i_4.a=i.inst∧i_4.b=i.inst+1+(↑i_3:Int)∧(i_4.p.code.length≤1099511627776∧i_4.p.months.length≤1099511627776∧i_4.p.settle.length≤1099511627776)∧∀(o:Unit),True→∃(i_5:MkJ),i_5.i.a=(i_4.p.spread i_4.a i_4.b).fst∧zB i_5.sa=1∧i_5.i.b=i.inst+1+(↑i_3:Int)∧zB i_5.sb=1∧i_5.i.less=false∧AObj.fro 6 (List.map zQ i_5.i.tops)=AObj.fro 6 (List.map zQ i.tops)∧List.map zG i_5.i.out=List.map zG (xA i 1 i_3)∧(0≤i_5.i.a∧i_5.i.a<(↑i_5.i.tops.length:Int)∧0≤i_5.i.b∧i_5.i.b<(↑i_5.i.tops.length:Int)∧(i_5.i.tops.length≤1000000∧∀(t:Top),t∈i_5.i.tops→((-9223372036854775808)≤t.p1∧t.p1≤9223372036854775807)∧(-9223372036854775808)≤t.p2∧t.p2≤9223372036854775807)∧i_5.i.out.length≤1000)∧∀(o:Unit),True→∃(i':Nat),i.inst+1+(↑i':Int)=IntKind.i64.wrap (i.inst+1+(↑i_3:Int)+1)∧AObj.fro 6 (List.map zQ i.tops)=AObj.fro 6 (List.map zQ i_5.i.tops)∧List.map zG (xA i 1 i')=List.map zG (i_5.i.out++mkq i_5.i.tops (Leg.mk i_5.i.a (zB i_5.sa)) (Leg.mk i_5.i.b (zB i_5.sb)) i_5.i.less)∧I i'∧μ i'<μ i_3∧AObj.fro 6 (List.map zQ i.tops)=AObj.fro 6 (List.map zQ i.tops)∧dV i=dV i∧AObj.fro 1 (iE i.p.settle)=AObj.fro 1 (iE i.p.settle)∧AObj.fro 1 (iE i.p.months)=AObj.fro 1 (iE i.p.months)) (∃(i0:Nat),(↑i0:Int)=0∧AObj.fro 6 (List.map zQ i.tops)=AObj.fro 6 (List.map zQ i.tops)∧List.map zG (xA i 1 (i.p.months.length-(i.inst.toNat+1))++y7 i 1 i0)=List.map zG (xA i 1 i_3)∧∃(I:Nat→Prop),∃(μ:Nat→Nat),I i0∧∀(i_4:Nat),I i_4→cnd (decide ((↑i_4:Int)<i.inst)) (∃(i_5:gK),sb i_5.p.code=sb i.p.code∧iE i_5.p.months=iE i.p.months∧i_5.p.tick=i.p.tick∧i_5.p.low=i.p.low∧i_5.p.high=i.p.high∧i_5.p.wide=i.p.wide∧i_5.p.rule=i.p.rule∧i_5.p.top=i.p.top∧i_5.p.least=i.p.least∧i_5.p.part=i.p.part∧iE i_5.p.settle=iE i.p.settle∧i_5.a=(↑i_4:Int)∧i_5.b=i.inst∧(i_5.p.code.length≤1099511627776∧i_5.p.months.length≤1099511627776∧i_5.p.settle.length≤1099511627776)∧∀(o:Unit),True→∃(i_6:Int),i_6=1∧(i_6=1∨i_6=2)∧∀(o:Unit),True→∃(i_7:MkJ),i_7.i.a=(i_5.p.spread i_5.a i_5.b).fst∧zB i_7.sa=3-i_6∧i_7.i.b=(↑i_4:Int)∧zB i_7.sb=1∧i_7.i.less=true∧AObj.fro 6 (List.map zQ i_7.i.tops)=AObj.fro 6 (List.map zQ i.tops)∧List.map zG i_7.i.out=List.map zG (xA i 1 (i.p.months.length-(i.inst.toNat+1))++y7 i 1 i_4)∧(0≤i_7.i.a∧i_7.i.a<(↑i_7.i.tops.length:Int)∧0≤i_7.i.b∧i_7.i.b<(↑i_7.i.tops.length:Int)∧(i_7.i.tops.length≤1000000∧∀(t:Top),t∈i_7.i.tops→((-9223372036854775808)≤t.p1∧t.p1≤9223372036854775807)∧(-9223372036854775808)≤t.p2∧t.p2≤9223372036854775807)∧i_7.i.out.length≤1000)∧∀(o:Unit),True→∃(i':Nat),(↑i':Int)=IntKind.i64.wrap ((↑i_4:Int)+1)∧AObj.fro 6 (List.map zQ i.tops)=AObj.fro 6 (List.map zQ i_7.i.tops)∧List.map zG (xA i 1 (i.p.months.length-(i.inst.toNat+1))++y7 i 1 i')=List.map zG (i_7.i.out++mkq i_7.i.tops (Leg.mk i_7.i.a (zB i_7.sa)) (Leg.mk i_7.i.b (zB i_7.sb)) i_7.i.less)∧I i'∧μ i'<μ i_4∧AObj.fro 6 (List.map zQ i.tops)=AObj.fro 6 (List.map zQ i.tops)∧AObj.fro 6 (List.map zQ i.tops)=AObj.fro 6 (List.map zQ i.tops)∧dV i=dV i∧AObj.fro 1 (iE i.p.settle)=AObj.fro 1 (iE i.p.settle)∧AObj.fro 1 (iE i.p.months)=AObj.fro 1 (iE i.p.months)) (∃(o:Unit),List.map zG (y6 i 1)=List.map zG (xA i 1 (i.p.months.length-(i.inst.toNat+1))++y7 i 1 i_4)∧True)))))))
theorem z9g (hG:GOk Tryz.prog ([(24,pcountC),(51,legsC),(54,spreadC),(52,iotherC),(53,mkAnyC)])) (h:∀(i:uP),all1C.cnd i→z4g i):all1C.ok Tryz.prog 25:=okw mixed hG 0 (fun _=>[]) (fun i=>yBy i 1) [] Tryz.func25 h
@[reducible] def zNy (i_2:fG) (i_3:Int):AObj:=Sx.AObj.cells [V.d (D.v (.int .i64 (i_2.p.legs i_2.n).snd.fst)),V.d (D.v (.int .i64 ((3:Int)-i_3)))] (59:Nat)
@[reducible] def zOi (i_2:fG):AObj:=Sx.AObj.cells [V.d (D.v (.int .i64 (i_2.p.legs i_2.n).fst)),V.d (D.v (.int .i64 2))] (59:Nat)
@[reducible] def cC (i:uP):AObj:=Sx.AObj.cells [V.d (D.v (Value.string (sb i.p.code))),V.own (0:Nat),V.d (D.v (.int .i64 i.p.tick)),V.d (D.v (.int .i64 i.p.low)),V.d (D.v (.int .i64 i.p.high)),V.d (D.v (.int .i64 i.p.wide)),V.d (D.v (.int .i64 i.p.rule)),V.d (D.v (.int .i64 i.p.top)),V.d (D.v (.int .i64 i.p.least)),V.d (D.v (.int .i64 i.p.part)),V.own ((0:Nat)+(1:Nat))] (29:Nat)
def z3w (i:uP):Prop:=
 ∃(i_1:Prd),sb i_1.code=sb i.p.code∧iE i_1.months=iE i.p.months∧i_1.tick=i.p.tick∧i_1.low=i.p.low∧i_1.high=i.p.high∧i_1.wide=i.p.wide∧i_1.rule=i.p.rule∧i_1.top=i.p.top∧i_1.least=i.p.least∧i_1.part=i.p.part∧iE i_1.settle=iE i.p.settle∧(i_1.code.length≤1099511627776∧i_1.months.length≤1099511627776∧i_1.settle.length≤1099511627776)∧∀(o:Unit),True→cnd ((↑i_1.count:Int)==0) (∃(o:Unit),List.map zG (y6 i 2)=[]∧True) (cnd ((↑(List.map zQ i.tops).length:Int) !=(↑i_1.count:Int)) (∃(o:Unit),List.map zG (y6 i 2)=[]∧True) (cnd (decide (i.inst<0)) (∃(o:Unit),List.map zG (y6 i 2)=[]∧True) (cnd (decide (i.inst≥(↑i_1.count:Int))) (∃(o:Unit),List.map zG (y6 i 2)=[]∧True) (∃(i_2:fG),sb i_2.p.code=sb i.p.code∧iE i_2.p.months=iE i.p.months∧i_2.p.tick=i.p.tick∧i_2.p.low=i.p.low∧i_2.p.high=i.p.high∧i_2.p.wide=i.p.wide∧i_2.p.rule=i.p.rule∧i_2.p.top=i.p.top∧i_2.p.least=i.p.least∧i_2.p.part=i.p.part∧iE i_2.p.settle=iE i.p.settle∧i_2.n=i.inst∧(i_2.p.code.length≤1099511627776∧i_2.p.months.length≤1099511627776∧i_2.p.settle.length≤1099511627776)∧∀(o:Unit),True→cnd (i_2.p.legs i_2.n).snd.snd (∃(i_3:Int),i_3=2∧(i_3=1∨i_3=2)∧∀(o:Unit),True→∃(i_4:MkJ),i_4.i.a=(i_2.p.legs i_2.n).snd.fst∧zB i_4.sa=3-i_3∧i_4.i.b=(i_2.p.legs i_2.n).fst∧zB i_4.sb=2∧i_4.i.less=true∧AObj.fro 6 (List.map zQ i_4.i.tops)=AObj.fro 6 (List.map zQ i.tops)∧List.map zG i_4.i.out=[]∧(0≤i_4.i.a∧i_4.i.a<(↑i_4.i.tops.length:Int)∧0≤i_4.i.b∧i_4.i.b<(↑i_4.i.tops.length:Int)∧(i_4.i.tops.length≤1000000∧∀(t:Top),t∈i_4.i.tops→((-9223372036854775808)≤t.p1∧t.p1≤9223372036854775807)∧(-9223372036854775808)≤t.p2∧t.p2≤9223372036854775807)∧i_4.i.out.length≤1000)∧∀(o:Unit),True→∃(i0:Nat),(↑i0:Int)=0∧AObj.fro 6 (List.map zQ i.tops)=AObj.fro 6 (List.map zQ i_4.i.tops)∧List.map zG (List.map (qO i 2) (List.take i0 (zZ i 2))++List.drop i0 (zZ i 2))=List.map zG (i_4.i.out++mkq i_4.i.tops (Leg.mk i_4.i.a (zB i_4.sa)) (Leg.mk i_4.i.b (zB i_4.sb)) i_4.i.less)∧∃(I:Nat→Prop),∃(μ:Nat→Nat),I i0∧∀(i_5:Nat),I i_5→cnd (decide ((↑i_5:Int)<(↑(List.map zG (i_4.i.out++mkq i_4.i.tops (Leg.mk i_4.i.a (zB i_4.sa)) (Leg.mk i_4.i.b (zB i_4.sb)) i_4.i.less)).length:Int))) ((0≤(↑i_5:Int)∧(↑i_5:Int)<(↑(List.map zG (List.map (qO i 2) (List.take i_5 (zZ i 2))++List.drop i_5 (zZ i 2))).length:Int))∧(↑i_5:Int).toNat<(List.map zG (List.map (qO i 2) (List.take i_5 (zZ i 2))++List.drop i_5 (zZ i 2))).length∧∃(i':Nat),(↑i':Int)=IntKind.i64.wrap ((↑i_5:Int)+1)∧AObj.fro 6 (List.map zQ i.tops)=AObj.fro 6 (List.map zQ i.tops)∧List.map zG (List.map (qO i 2) (List.take i' (zZ i 2))++List.drop i' (zZ i 2))=zK (List.map zG (List.map (qO i 2) (List.take i_5 (zZ i 2))++List.drop i_5 (zZ i 2))) (↑i_5:Int).toNat ((0:Nat)+(2:Nat)) [D.v (.int .i64 (i_2.p.legs i_2.n).fst),D.v (.int .i64 2),D.v (.int .i64 (i_2.p.legs i_2.n).snd.fst),D.v (.int .i64 (3-i_3))]∧I i'∧μ i'<μ i_5∧AObj.fro 6 (List.map zQ i_4.i.tops)=AObj.fro 6 (List.map zQ i_4.i.tops)∧zNy i_2 i_3=zNy i_2 i_3∧zOi i_2=zOi i_2∧AObj.fro 6 (List.map zQ i.tops)=AObj.fro 6 (List.map zQ i.tops)∧cC i=cC i∧AObj.fro 1 (iE i.p.settle)=AObj.fro 1 (iE i.p.settle)∧AObj.fro 1 (iE i.p.months)=AObj.fro 1 (iE i.p.months)) (∃(o:Unit),List.map zG (y6 i 2)=List.map zG (List.map (qO i 2) (List.take i_5 (zZ i 2))++List.drop i_5 (zZ i 2))∧True)) (∃(i0:Nat),i.inst+1+(↑i0:Int)=IntKind.i64.wrap (i.inst+1)∧AObj.fro 6 (List.map zQ i.tops)=AObj.fro 6 (List.map zQ i.tops)∧List.map zG (xA i 2 i0)=[]∧∃(I:Nat→Prop),∃(μ:Nat→Nat),I i0∧∀(i_3:Nat),I i_3→cnd (decide (i.inst+1+(↑i_3:Int)<(↑(iE i.p.months).length:Int))) (∃(i_4:gK),sb i_4.p.code=sb i.p.code∧iE i_4.p.months=iE i.p.months∧i_4.p.tick=i.p.tick∧i_4.p.low=i.p.low∧i_4.p.high=i.p.high∧i_4.p.wide=i.p.wide∧i_4.p.rule=i.p.rule∧i_4.p.top=i.p.top∧i_4.p.least=i.p.least∧i_4.p.part=i.p.part∧iE i_4.p.settle=iE i.p.settle∧i_4.a=i.inst∧i_4.b=i.inst+1+(↑i_3:Int)∧(i_4.p.code.length≤1099511627776∧i_4.p.months.length≤1099511627776∧i_4.p.settle.length≤1099511627776)∧∀(o:Unit),True→∃(i_5:MkJ),i_5.i.a=(i_4.p.spread i_4.a i_4.b).fst∧zB i_5.sa=2∧i_5.i.b=i.inst+1+(↑i_3:Int)∧zB i_5.sb=2∧i_5.i.less=false∧AObj.fro 6 (List.map zQ i_5.i.tops)=AObj.fro 6 (List.map zQ i.tops)∧List.map zG i_5.i.out=List.map zG (xA i 2 i_3)∧(0≤i_5.i.a∧i_5.i.a<(↑i_5.i.tops.length:Int)∧0≤i_5.i.b∧i_5.i.b<(↑i_5.i.tops.length:Int)∧(i_5.i.tops.length≤1000000∧∀(t:Top),t∈i_5.i.tops→((-9223372036854775808)≤t.p1∧t.p1≤9223372036854775807)∧(-9223372036854775808)≤t.p2∧t.p2≤9223372036854775807)∧i_5.i.out.length≤1000)∧∀(o:Unit),True→∃(i':Nat),i.inst+1+(↑i':Int)=IntKind.i64.wrap (i.inst+1+(↑i_3:Int)+1)∧AObj.fro 6 (List.map zQ i.tops)=AObj.fro 6 (List.map zQ i_5.i.tops)∧List.map zG (xA i 2 i')=List.map zG (i_5.i.out++mkq i_5.i.tops (Leg.mk i_5.i.a (zB i_5.sa)) (Leg.mk i_5.i.b (zB i_5.sb)) i_5.i.less)∧I i'∧μ i'<μ i_3∧AObj.fro 6 (List.map zQ i.tops)=AObj.fro 6 (List.map zQ i.tops)∧cC i=cC i∧AObj.fro 1 (iE i.p.settle)=AObj.fro 1 (iE i.p.settle)∧AObj.fro 1 (iE i.p.months)=AObj.fro 1 (iE i.p.months)) (∃(i0:Nat),(↑i0:Int)=0∧AObj.fro 6 (List.map zQ i.tops)=AObj.fro 6 (List.map zQ i.tops)∧List.map zG (xA i 2 (i.p.months.length-(i.inst.toNat+1))++y7 i 2 i0)=List.map zG (xA i 2 i_3)∧∃(I:Nat→Prop),∃(μ:Nat→Nat),I i0∧∀(i_4:Nat),I i_4→cnd (decide ((↑i_4:Int)<i.inst)) (∃(i_5:gK),sb i_5.p.code=sb i.p.code∧iE i_5.p.months=iE i.p.months∧i_5.p.tick=i.p.tick∧i_5.p.low=i.p.low∧i_5.p.high=i.p.high∧i_5.p.wide=i.p.wide∧i_5.p.rule=i.p.rule∧i_5.p.top=i.p.top∧i_5.p.least=i.p.least∧i_5.p.part=i.p.part∧iE i_5.p.settle=iE i.p.settle∧i_5.a=(↑i_4:Int)∧i_5.b=i.inst∧(i_5.p.code.length≤1099511627776∧i_5.p.months.length≤1099511627776∧i_5.p.settle.length≤1099511627776)∧∀(o:Unit),True→∃(i_6:Int),i_6=2∧(i_6=1∨i_6=2)∧∀(o:Unit),True→∃(i_7:MkJ),i_7.i.a=(i_5.p.spread i_5.a i_5.b).fst∧zB i_7.sa=3-i_6∧i_7.i.b=(↑i_4:Int)∧zB i_7.sb=2∧i_7.i.less=true∧AObj.fro 6 (List.map zQ i_7.i.tops)=AObj.fro 6 (List.map zQ i.tops)∧List.map zG i_7.i.out=List.map zG (xA i 2 (i.p.months.length-(i.inst.toNat+1))++y7 i 2 i_4)∧(0≤i_7.i.a∧i_7.i.a<(↑i_7.i.tops.length:Int)∧0≤i_7.i.b∧i_7.i.b<(↑i_7.i.tops.length:Int)∧(i_7.i.tops.length≤1000000∧∀(t:Top),t∈i_7.i.tops→((-9223372036854775808)≤t.p1∧t.p1≤9223372036854775807)∧(-9223372036854775808)≤t.p2∧t.p2≤9223372036854775807)∧i_7.i.out.length≤1000)∧∀(o:Unit),True→∃(i':Nat),(↑i':Int)=IntKind.i64.wrap ((↑i_4:Int)+1)∧AObj.fro 6 (List.map zQ i.tops)=AObj.fro 6 (List.map zQ i_7.i.tops)∧List.map zG (xA i 2 (i.p.months.length-(i.inst.toNat+1))++y7 i 2 i')=List.map zG (i_7.i.out++mkq i_7.i.tops (Leg.mk i_7.i.a (zB i_7.sa)) (Leg.mk i_7.i.b (zB i_7.sb)) i_7.i.less)∧I i'∧μ i'<μ i_4∧AObj.fro 6 (List.map zQ i.tops)=AObj.fro 6 (List.map zQ i.tops)∧AObj.fro 6 (List.map zQ i.tops)=AObj.fro 6 (List.map zQ i.tops)∧cC i=cC i∧AObj.fro 1 (iE i.p.settle)=AObj.fro 1 (iE i.p.settle)∧AObj.fro 1 (iE i.p.months)=AObj.fro 1 (iE i.p.months)) (∃(o:Unit),List.map zG (y6 i 2)=List.map zG (xA i 2 (i.p.months.length-(i.inst.toNat+1))++y7 i 2 i_4)∧True)))))))
theorem z8n (hG:GOk Tryz.prog ([(24,pcountC),(51,legsC),(54,spreadC),(52,iotherC),(53,mkAnyC)])) (h:∀(i:uP),all2C.cnd i→z3w i):all2C.ok Tryz.prog 25:=okw mixed hG 0 (fun _=>[]) (fun i=>yBy i 2) [] Tryz.func25 h
@[reducible] def dU (j:aM) (i:aM):AObj:=Sx.AObj.cells [V.d (D.v (Value.string (sb j.i.p.code))),V.own (0:Nat),V.d (D.v (.int .i64 j.i.p.tick)),V.d (D.v (.int .i64 j.i.p.low)),V.d (D.v (.int .i64 j.i.p.high)),V.d (D.v (.int .i64 j.i.p.wide)),V.d (D.v (.int .i64 j.i.p.rule)),V.d (D.v (.int .i64 j.i.p.top)),V.d (D.v (.int .i64 j.i.p.least)),V.d (D.v (.int .i64 j.i.p.part)),V.own ((0:Nat)+(1:Nat))] (29:Nat)
def zMp (j:aM):Prop:=
 ∃(i:aM),sb i.i.p.code=sb j.i.p.code∧iE i.i.p.months=iE j.i.p.months∧i.i.p.tick=j.i.p.tick∧i.i.p.low=j.i.p.low∧i.i.p.high=j.i.p.high∧i.i.p.wide=j.i.p.wide∧i.i.p.rule=j.i.p.rule∧i.i.p.top=j.i.p.top∧i.i.p.least=j.i.p.least∧i.i.p.part=j.i.p.part∧iE i.i.p.settle=iE j.i.p.settle∧List.map zQ i.i.tops=List.map zQ j.i.tops∧i.i.inst=j.i.inst∧zB i.s=zB j.s∧((i.i.p.code.length≤1099511627776∧i.i.p.months.length≤1099511627776∧i.i.p.settle.length≤1099511627776)∧i.i.tops.length≤1000000∧∀(t:Top),t∈i.i.tops→((-9223372036854775808)≤t.p1∧t.p1≤9223372036854775807)∧(-9223372036854775808)≤t.p2∧t.p2≤9223372036854775807)∧∀(o:Unit),True→∃(i0:Nat),(↑i0:Int)=0∧List.map zG (List.filter (fun(q:Sx.Quote) ↦ decide (j.i.p.price j.i.inst q.price=0)) (List.take i0 (y6 j.i (zB j.s))))=[]∧∃(I:Nat→Prop),∃(μ:Nat→Nat),I i0∧∀(i_1:Nat),I i_1→cnd (decide ((↑i_1:Int)<(↑(List.map zG (y6 i.i (zB i.s))).length:Int))) ((0≤(↑i_1:Int)∧(↑i_1:Int)<(↑(List.map zG (y6 i.i (zB i.s))).length:Int))∧∃(n:Int),∃(n_1:Int),∃(n_2:Int),∃(n_3:Int),∃(n_4:Int),∃(n_5:Int),zI (List.map zG (y6 i.i (zB i.s))) (↑i_1:Int).toNat 0 6=some [D.v (.int .i64 n),D.v (.int .i64 n_1),D.v (.int .i64 n_2),D.v (.int .i64 n_3),D.v (.int .i64 n_4),D.v (.int .i64 n_5)]∧∃(i_2:gK),sb i_2.p.code=sb j.i.p.code∧iE i_2.p.months=iE j.i.p.months∧i_2.p.tick=j.i.p.tick∧i_2.p.low=j.i.p.low∧i_2.p.high=j.i.p.high∧i_2.p.wide=j.i.p.wide∧i_2.p.rule=j.i.p.rule∧i_2.p.top=j.i.p.top∧i_2.p.least=j.i.p.least∧i_2.p.part=j.i.p.part∧iE i_2.p.settle=iE j.i.p.settle∧i_2.a=j.i.inst∧i_2.b=n∧(i_2.p.code.length≤1099511627776∧i_2.p.months.length≤1099511627776∧i_2.p.settle.length≤1099511627776)∧∀(o:Unit),True→cnd (i_2.p.price i_2.a i_2.b==0) (((List.map zG (List.filter (fun(q:Sx.Quote) ↦ decide (j.i.p.price j.i.inst q.price=0)) (List.take i_1 (y6 j.i (zB j.s))))).length+1)*(48:Nat)≤(70368744177664:Nat)∧∃(i':Nat),(↑i':Int)=IntKind.i64.wrap ((↑i_1:Int)+1)∧List.map zG (List.filter (fun(q:Sx.Quote) ↦ decide (j.i.p.price j.i.inst q.price=0)) (List.take i' (y6 j.i (zB j.s))))=List.map zG (List.filter (fun(q:Sx.Quote) ↦ decide (j.i.p.price j.i.inst q.price=0)) (List.take i_1 (y6 j.i (zB j.s))))++[[D.v (.int .i64 n),D.v (.int .i64 n_1),D.v (.int .i64 n_2),D.v (.int .i64 n_3),D.v (.int .i64 n_4),D.v (.int .i64 n_5)]]∧I i'∧μ i'<μ i_1∧AObj.own 62 6 (List.map zG (y6 i.i (zB i.s)))=AObj.own 62 6 (List.map zG (y6 i.i (zB i.s)))∧dU j i=dU j i∧AObj.fro 1 (iE j.i.p.settle)=AObj.fro 1 (iE j.i.p.settle)∧AObj.fro 1 (iE j.i.p.months)=AObj.fro 1 (iE j.i.p.months)) (∃(i':Nat),(↑i':Int)=IntKind.i64.wrap ((↑i_1:Int)+1)∧List.map zG (List.filter (fun(q:Sx.Quote) ↦ decide (j.i.p.price j.i.inst q.price=0)) (List.take i' (y6 j.i (zB j.s))))=List.map zG (List.filter (fun(q:Sx.Quote) ↦ decide (j.i.p.price j.i.inst q.price=0)) (List.take i_1 (y6 j.i (zB j.s))))∧I i'∧μ i'<μ i_1∧AObj.own 62 6 (List.map zG (y6 i.i (zB i.s)))=AObj.own 62 6 (List.map zG (y6 i.i (zB i.s)))∧dU j i=dU j i∧AObj.fro 1 (iE j.i.p.settle)=AObj.fro 1 (iE j.i.p.settle)∧AObj.fro 1 (iE j.i.p.months)=AObj.fro 1 (iE j.i.p.months))) (∃(o:Unit),List.map zG (xS j.i (zB j.s))=List.map zG (List.filter (fun(q:Sx.Quote) ↦ decide (j.i.p.price j.i.inst q.price=0)) (List.take i_1 (y6 j.i (zB j.s))))∧True)
theorem zWf (hG:GOk Tryz.prog ([(25,allC),(72,priceC)])) (h:∀(j:aM),quotesC.cnd j→zMp j):quotesC.ok Tryz.prog 67:=okw mixed hG 0 (fun _=>[]) (fun j=>z0p j) [] Tryz.func67 h
@[reducible] def aQ:AObj:=Sx.AObj.cells (Sx.V.agg [V.d (D.v (.int .i64 0)),V.d (D.v (.int .i64 0)),V.d (D.v (.int .i64 0)),V.d (D.v (.int .i64 0)),V.d (D.v (.int .i64 0)),V.d (D.v (.int .i64 0))]).cl (62:Nat)
@[reducible] def tU (i:BsI):Prop:=∃(n:Int),∃(n_1:Int),∃(n_2:Int),∃(n_3:Int),∃(n_4:Int),∃(n_5:Int),zI (List.map zG i.l) (Int.toNat 0) 0 6=some [D.v (.int .i64 n),D.v (.int .i64 n_1),D.v (.int .i64 n_2),D.v (.int .i64 n_3),D.v (.int .i64 n_4),D.v (.int .i64 n_5)]∧∃(i0:Nat),(↑i0:Int)=0∧(zV (List.take (max i0 1) i.l) i.s).fst.price=n∧(zV (List.take (max i0 1) i.l) i.s).fst.qty=n_1∧(zV (List.take (max i0 1) i.l) i.s).fst.a.inst=n_2∧(zV (List.take (max i0 1) i.l) i.s).fst.a.side=n_3∧(zV (List.take (max i0 1) i.l) i.s).fst.b.inst=n_4∧(zV (List.take (max i0 1) i.l) i.s).fst.b.side=n_5∧∃(I:Nat→Prop),∃(μ:Nat→Nat),I i0∧∀(i_1:Nat),I i_1→cnd (decide ((↑i_1:Int)<(↑(List.map zG i.l).length:Int))) ((0≤(↑i_1:Int)∧(↑i_1:Int)<(↑(List.map zG i.l).length:Int))∧∃(n:Int),∃(n_6:Int),∃(n_7:Int),∃(n_8:Int),∃(n_9:Int),∃(n_10:Int),zI (List.map zG i.l) (↑i_1:Int).toNat 0 6=some [D.v (.int .i64 n),D.v (.int .i64 n_6),D.v (.int .i64 n_7),D.v (.int .i64 n_8),D.v (.int .i64 n_9),D.v (.int .i64 n_10)]∧∃(i_2:I3'),i_2.side=i.s∧i_2.x=n∧i_2.y=(zV (List.take (max i_1 1) i.l) i.s).fst.price∧True∧∀(o:Unit),True→cnd (btr i_2.side i_2.x i_2.y) (∃(i':Nat),(↑i':Int)=IntKind.i64.wrap ((↑i_1:Int)+1)∧(zV (List.take (max i' 1) i.l) i.s).fst.price=n∧(zV (List.take (max i' 1) i.l) i.s).fst.qty=n_6∧(zV (List.take (max i' 1) i.l) i.s).fst.a.inst=n_7∧(zV (List.take (max i' 1) i.l) i.s).fst.a.side=n_8∧(zV (List.take (max i' 1) i.l) i.s).fst.b.inst=n_9∧(zV (List.take (max i' 1) i.l) i.s).fst.b.side=n_10∧I i'∧μ i'<μ i_1∧aQ=aQ) (∃(i':Nat),(↑i':Int)=IntKind.i64.wrap ((↑i_1:Int)+1)∧(zV (List.take (max i' 1) i.l) i.s).fst.price=(zV (List.take (max i_1 1) i.l) i.s).fst.price∧(zV (List.take (max i' 1) i.l) i.s).fst.qty=(zV (List.take (max i_1 1) i.l) i.s).fst.qty∧(zV (List.take (max i' 1) i.l) i.s).fst.a.inst=(zV (List.take (max i_1 1) i.l) i.s).fst.a.inst∧(zV (List.take (max i' 1) i.l) i.s).fst.a.side=(zV (List.take (max i_1 1) i.l) i.s).fst.a.side∧(zV (List.take (max i' 1) i.l) i.s).fst.b.inst=(zV (List.take (max i_1 1) i.l) i.s).fst.b.inst∧(zV (List.take (max i' 1) i.l) i.s).fst.b.side=(zV (List.take (max i_1 1) i.l) i.s).fst.b.side∧I i'∧μ i'<μ i_1∧aQ=aQ)) (∃(o:Unit),(zV i.l i.s).fst.price=(zV (List.take (max i_1 1) i.l) i.s).fst.price∧(zV i.l i.s).fst.qty=(zV (List.take (max i_1 1) i.l) i.s).fst.qty∧(zV i.l i.s).fst.a.inst=(zV (List.take (max i_1 1) i.l) i.s).fst.a.inst∧(zV i.l i.s).fst.a.side=(zV (List.take (max i_1 1) i.l) i.s).fst.a.side∧(zV i.l i.s).fst.b.inst=(zV (List.take (max i_1 1) i.l) i.s).fst.b.inst∧(zV i.l i.s).fst.b.side=(zV (List.take (max i_1 1) i.l) i.s).fst.b.side∧(zV i.l i.s).snd=true∧True)
@[reducible] def tL (i:BsI):Prop:=∃(o:Unit),(zV i.l i.s).fst.price=0∧(zV i.l i.s).fst.qty=0∧(zV i.l i.s).fst.a.inst=0∧(zV i.l i.s).fst.a.side=0∧(zV i.l i.s).fst.b.inst=0∧(zV i.l i.s).fst.b.side=0∧(zV i.l i.s).snd=false∧True
def zKl (i:BsI):Prop:=
 cnd ((↑(List.map zG i.l).length:Int)==0) (tL i) (cnd (i.s !=1) (cnd (i.s !=2) (tL i) (((0:Int)≤(0:Int)∧0<(↑(List.map zG i.l).length:Int))∧tU i)) (((0:Int)≤(0:Int)∧0<(↑(List.map zG i.l).length:Int))∧tU i))
theorem z3l (hG:GOk Tryz.prog ([(94,ibetterC)])) (h:∀(i:BsI),bestQC.cnd i→zKl i):bestQC.ok Tryz.prog 66:=okw mixed hG 0 (fun _=>[]) (fun i=>z6e i) [] Tryz.func66 h
end Sx
