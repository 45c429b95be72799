/- Texts of ours, one behind the other: a walk that the kernel reckons, and contracts of functions. No condition. -/
import Derived.Test.YtpgpnnncaidcjaaGreatRows
import Derived.Test.YtpgpnnncaidcjaaGreatM3
namespace Sx
set_option linter.unusedVariables false
open Go Cv Go.Proofs
theorem kp {P:Prop} (h:P:=by(repeat'(first|exact rfl|exact trivial|assumption|apply And.intro|refine fun(_:Unit) (_:True)=>?_|refine Exists.intro () ?_|omega|(dsimp only;omega)))):P:=h
theorem mixed:Tryz.prog.follows .mixedOrders=true:=by kernel_rfl
theorem okw {P:Program} {f:FuncId} {fn:Func} {C:Con} {G:List (Nat×Con)} {V:C.ι→Prop} (hm:P.follows .mixedOrders=true) (hG:GOk P G) (d:Nat) (J:C.ι→List (Nat×SAnn)) (an:C.ι→List SAnn) (op:List Nat) (hf:P.funcs[f]? =some fn) (h:∀i,C.cnd i→V i) (hb:fn.body=some (fn.body.getD .skip):=by kernel_rfl) (hbd:jI P f=true:=by kernel_rfl) (hok:okC fn.ntmps (fn.body.getD .skip)=true:=by kernel_rfl) (hsz:∀i,Nat.ble (C.pat i).length fn.ntmps=true:=by intro _;kernel_rfl) (e:∀i,V i=walk P G d (J i) (an i) op fn (fn.body.getD .skip) (C.pat i) (C.pre i) (C.alts i):=by intro _;kernel_rfl):C.ok P f:=bU hm G hG d J an op hf hb hbd hok hsz fun i hc=>Eq.mp (e i) (h i hc)
structure Lv where
 price:Int
 qty:Int
 count:Int
def lvV (l:Lv):V:= .agg [zC l.price,zC l.qty,zC l.count]
open Go Cv Go.Proofs
def sb (l:List UInt8):ByteArray:=⟨l.toArray⟩
@[reducible] def sV (l:List UInt8):V:= .d (.v (.string (sb l)))
def eF (l:List UInt8):Nat×Nat:=Utf8.decode (sb l) 0
def cU:Nat→Nat→List UInt8→List (Nat×Nat)
 |0,_,_=>[]
 |k+1,p,l=>match l with
  |[]=>[]
  |_=>(p,(eF l).1)::cU k (p+(eF l).2) (l.drop (eF l).2)
def j6 (s:List UInt8) (p:Nat):List (Nat×Nat):=cU (s.length-p) p (s.drop p)
def x9 (s:List UInt8):List Nat:=(j6 s 0).map (·.2)
def countC:Con:=con1 (List UInt8) (fun s=>[sV s]) (fun _=>[]) (fun s=>s.length≤1099511627776) (fun s=>zC (x9 s).length) (fun _=>[])
def yAz (s:List UInt8):List SAnn:=[{ι:=Nat×Nat,slots:=fun x=>[(3,zC x.2),(5,.nm 0 0)],rows:=fun x=>[.iter (sb s) x.1]}]
def jU (r:Nat):Bool:=(decide (65≤r) && decide (r≤90))||(decide (913≤r) && decide (r≤937) && decide (r≠930))
def qG (s:List UInt8):Bool:=(x9 s).all jU && decide (s≠[]) && decide ((x9 s).length≤4)
def symC:Con:=con1 (List UInt8) (fun s=>[sV s]) (fun _=>[]) (fun s=>s.length≤1099511627776) (fun s=>yL (qG s)) (fun _=>[])
def yEz (s:List UInt8):List SAnn:=[{ι:=Nat,slots:=fun x=>[(7,.nm 0 0)],rows:=fun x=>[.iter (sb s) x]}]
def iE (l:List Int):List (List D):=l.map fun n=>[.v (.int .i64 n)]
@[reducible] def iV (l:List Int):V:=roV 1 (iE l)
structure Prd where
 code:List UInt8
 months:List Int
 tick:Int
 low:Int
 high:Int
 wide:Int
 rule:Int
 top:Int
 least:Int
 part:Int
 settle:List Int
 deriving DecidableEq
@[reducible] def Prd.cells (p:Prd):List V:=[sV p.code,iV p.months,zC p.tick,zC p.low,zC p.high,zC p.wide,zC p.rule,zC p.top,zC p.least,zC p.part,iV p.settle]
@[reducible] def prdV (p:Prd):V:= .agg p.cells
@[reducible] def Prd.small (p:Prd):Prop:=p.code.length≤1099511627776∧p.months.length≤1099511627776∧p.settle.length≤1099511627776
def xV (l:List Int) (k:Nat):Bool:=decide (0≤l.getD k 0) && decide (l.getD k 0≤1199) && (decide (k=0)||decide (l.getD (k-1) 0<l.getD k 0))
def yS (l:List Int):Bool:=(List.range l.length).all (xV l) && decide (2≤l.length) && decide (l.length≤6)
def monthsC:Con:=con1 (List Int) (fun l=>[iV l]) (fun _=>[]) (fun l=>l.length≤1099511627776) (fun l=>yL (yS l)) (fun _=>[])
def z0f:List SAnn:=[{ι:=Nat,slots:=fun j=>[(7,zC j)],rows:=fun _=>[]}]
structure yFn where
 l:List Int
def fU (l:List Int):Int:=l.tail.foldl min (l.headD 0)
def fY (l:List Int):Int:=l.tail.foldl max (l.headD 0)
def minC:Con:=con1 (List Int) (fun l=>[iV l]) (fun _=>[]) (fun l=>0<l.length∧l.length≤1099511627776) (fun l=>zC (fU l)) (fun _=>[])
def maxC:Con:=con1 (List Int) (fun l=>[iV l]) (fun _=>[]) (fun l=>0<l.length∧l.length≤1099511627776) (fun l=>zC (fY l)) (fun _=>[])
def yFl (l:List Int):List SAnn:=[{ι:=Nat,slots:=fun j=>[(3,zC (fU (l.take j))),(4,zC j)],rows:=fun _=>[]}]
def yDx (l:List Int):List SAnn:=[{ι:=Nat,slots:=fun j=>[(3,zC (fY (l.take j))),(4,zC j)],rows:=fun _=>[]}]
set_option maxRecDepth 100000
open Go Cv Go.Proofs
def zMx (s:List UInt8):Prop:=
 ∃(i0:Nat×Nat),(↑i0.snd:Int)=0∧sb s=sb s∧i0.fst=0∧∃(I:Nat×Nat→Prop),∃(μ:Nat×Nat→Nat),I i0∧∀(i:Nat×Nat),I i→cnd (i.fst.blt (sb s).size) (∃(i':Nat×Nat),(↑i'.snd:Int)=IntKind.i64.wrap ((↑i.snd:Int)+1)∧sb s=sb s∧i'.fst=i.fst+(Utf8.decode (sb s) i.fst).snd∧I i'∧μ i'<μ i∧True) (∃(o:Unit),(↑(x9 s).length:Int)=(↑i.snd:Int)∧True)
theorem z0x (hG:GOk Tryz.prog ([])) (h:∀(s:List UInt8),countC.cnd s→zMx s):countC.ok Tryz.prog 108:=okw mixed hG 0 (fun _=>[]) (fun s=>yAz s) [] Tryz.func108 h
def z7w (s:List UInt8):Prop:=
 ∃(i0:Nat),sb s=sb s∧i0=0∧∃(I:Nat→Prop),∃(μ:Nat→Nat),I i0∧∀(i:Nat),I i→cnd (i.blt (sb s).size) (cnd (decide ((↑(Utf8.decode (sb s) i).fst:Int)≥65)) (cnd (decide ((↑(Utf8.decode (sb s) i).fst:Int)≤90)) (∃(i':Nat),sb s=sb s∧i'=i+(Utf8.decode (sb s) i).snd∧I i'∧μ i'<μ i∧True) (cnd (decide ((↑(Utf8.decode (sb s) i).fst:Int)≥913)) (cnd (decide ((↑(Utf8.decode (sb s) i).fst:Int)≤937)) (cnd (!(↑(Utf8.decode (sb s) i).fst:Int) !=930) (∃(o:Unit),qG s=false∧True) (∃(i':Nat),sb s=sb s∧i'=i+(Utf8.decode (sb s) i).snd∧I i'∧μ i'<μ i∧True)) (∃(o:Unit),qG s=false∧True)) (∃(o:Unit),qG s=false∧True))) (cnd (decide ((↑(Utf8.decode (sb s) i).fst:Int)≥913)) (cnd (decide ((↑(Utf8.decode (sb s) i).fst:Int)≤937)) (cnd (!(↑(Utf8.decode (sb s) i).fst:Int) !=930) (∃(o:Unit),qG s=false∧True) (∃(i':Nat),sb s=sb s∧i'=i+(Utf8.decode (sb s) i).snd∧I i'∧μ i'<μ i∧True)) (∃(o:Unit),qG s=false∧True)) (∃(o:Unit),qG s=false∧True))) (cnd (!(sb s).toList==(ByteArray.mk #[]).toList) (∃(i:List UInt8),sb i=sb s∧i.length≤1099511627776∧∀(o:Unit),True→∃(o:Unit),qG s=decide ((↑(x9 i).length:Int)≤4)∧True) (∃(o:Unit),qG s=false∧True))
theorem yCk (hG:GOk Tryz.prog ([(108,countC)])) (h:∀(s:List UInt8),symC.cnd s→z7w s):symC.ok Tryz.prog 82:=okw mixed hG 0 (fun _=>[]) (fun s=>yEz s) [] Tryz.func82 h
def zEt (l:List Int):Prop:=
 ∃(i0:Nat),(↑i0:Int)=0∧∃(I:Nat→Prop),∃(μ:Nat→Nat),I i0∧∀(i:Nat),I i→cnd (decide ((↑i:Int)<(↑(iE l).length:Int))) ((0≤(↑i:Int)∧(↑i:Int)<(↑(iE l).length:Int))∧∃(n:Int),zI (iE l) (↑i:Int).toNat 0 1=some [D.v (.int .i64 n)]∧cnd (decide (n<0)) (∃(o:Unit),yS l=false∧True) (cnd (decide (n>1199)) (∃(o:Unit),yS l=false∧True) (cnd (decide ((↑i:Int)>0)) ((0≤IntKind.i64.wrap ((↑i:Int)-1)∧IntKind.i64.wrap ((↑i:Int)-1)<(↑(iE l).length:Int))∧∃(n_1:Int),zI (iE l) (IntKind.i64.wrap ((↑i:Int)-1)).toNat 0 1=some [D.v (.int .i64 n_1)]∧cnd (decide (n_1≥n)) (∃(o:Unit),yS l=false∧True) (∃(i':Nat),(↑i':Int)=IntKind.i64.wrap ((↑i:Int)+1)∧I i'∧μ i'<μ i∧True)) (∃(i':Nat),(↑i':Int)=IntKind.i64.wrap ((↑i:Int)+1)∧I i'∧μ i'<μ i∧True)))) (cnd (decide ((↑(iE l).length:Int)≥2)) (∃(o:Unit),yS l=decide ((↑(iE l).length:Int)≤6)∧True) (∃(o:Unit),yS l=false∧True))
theorem zWa (hG:GOk Tryz.prog ([])) (h:∀(l:List Int),monthsC.cnd l→zEt l):monthsC.ok Tryz.prog 83:=okw mixed hG 0 (fun _=>[]) (fun _=>z0f) [] Tryz.func83 h
def z8e (l:List Int):Prop:=
 cnd (decide ((↑(iE l).length:Int)<1)) False (((0:Int)≤(0:Int)∧0<(↑(iE l).length:Int))∧∃(n:Int),zI (iE l) (Int.toNat 0) 0 1=some [D.v (.int .i64 n)]∧∃(i0:Nat),fU (List.take i0 l)=n∧(↑i0:Int)=1∧∃(I:Nat→Prop),∃(μ:Nat→Nat),I i0∧∀(i:Nat),I i→cnd (decide ((↑i:Int)<(↑(iE l).length:Int))) ((0≤(↑i:Int)∧(↑i:Int)<(↑(iE l).length:Int))∧∃(n:Int),zI (iE l) (↑i:Int).toNat 0 1=some [D.v (.int .i64 n)]∧∃(i':Nat),fU (List.take i' l)=min (fU (List.take i l)) n∧(↑i':Int)=IntKind.i64.wrap ((↑i:Int)+1)∧I i'∧μ i'<μ i∧True) (∃(o:Unit),fU l=fU (List.take i l)∧True))
theorem yDa (hG:GOk Tryz.prog ([])) (h:∀(l:List Int),minC.cnd l→z8e l):minC.ok Tryz.prog 85:=okw mixed hG 0 (fun _=>[]) (fun l=>yFl l) [] Tryz.func85 h
def z8m (l:List Int):Prop:=
 cnd (decide ((↑(iE l).length:Int)<1)) False (((0:Int)≤(0:Int)∧0<(↑(iE l).length:Int))∧∃(n:Int),zI (iE l) (Int.toNat 0) 0 1=some [D.v (.int .i64 n)]∧∃(i0:Nat),fY (List.take i0 l)=n∧(↑i0:Int)=1∧∃(I:Nat→Prop),∃(μ:Nat→Nat),I i0∧∀(i:Nat),I i→cnd (decide ((↑i:Int)<(↑(iE l).length:Int))) ((0≤(↑i:Int)∧(↑i:Int)<(↑(iE l).length:Int))∧∃(n:Int),zI (iE l) (↑i:Int).toNat 0 1=some [D.v (.int .i64 n)]∧∃(i':Nat),(fY (List.take i' l)=if n>fY (List.take i l)then n else fY (List.take i l))∧(↑i':Int)=IntKind.i64.wrap ((↑i:Int)+1)∧I i'∧μ i'<μ i∧True) (∃(o:Unit),fY l=fY (List.take i l)∧True))
theorem yDh (hG:GOk Tryz.prog ([])) (h:∀(l:List Int),maxC.cnd l→z8m l):maxC.ok Tryz.prog 86:=okw mixed hG 0 (fun _=>[]) (fun l=>yDx l) [] Tryz.func86 h
set_option linter.unusedSimpArgs false
open Go Cv Go.Proofs
@[simp] theorem zPd (s:List UInt8):(sb s).size=s.length:=by simp[sb,ByteArray.size]
theorem gK (s:List UInt8):(sb s).toList=s:=by rw[ByteArray.toList_eq];rfl
theorem z6k (s:List UInt8) (p k:Nat):(sb s).get! (p+k)=(sb (s.drop p)).get! (0+k):=by
 simp only[sb,ByteArray.get!,Nat.zero_add]
 simp only[List.getElem!_toArray,List.getElem!_eq_getElem?_getD,List.getElem?_drop]
theorem pE (s:List UInt8) (p:Nat):Utf8.decode (sb s) p=eF (s.drop p):=by
 have h (k:Nat):(decide (p+k<(sb s).size))=decide (0+k<(sb (s.drop p)).size):=by
  simp only[zPd,List.length_drop]
  by_cases h:p+k<s.length
  ·rw[decide_eq_true h,decide_eq_true (by omega)]
  ·rw[decide_eq_false h,decide_eq_false (by omega)]
 unfold eF Utf8.decode
 simp only[z6k s p,h]
theorem uO (s:List UInt8) {p:Nat} (h:p<s.length):1≤(Utf8.decode (sb s) p).2∧p+(Utf8.decode (sb s) p).2≤s.length:=by
 unfold Utf8.decode
 simp only[zPd,Bool.and_eq_true,decide_eq_true_eq]
 split
 ·exact⟨by simp,by simp;omega⟩
 split
 ·rename_i h1
  split
  ·exact⟨by simp,by simp;omega⟩
  ·exact⟨by simp,by simp;omega⟩
 split
 ·rename_i h1
  split
  ·exact⟨by simp,by simp;omega⟩
  ·exact⟨by simp,by simp;omega⟩
 split
 ·rename_i h1
  split
  ·exact⟨by simp,by simp;omega⟩
  ·exact⟨by simp,by simp;omega⟩
 ·exact⟨by simp,by simp;omega⟩
theorem yBh {l:List UInt8} (h:l≠[]):1≤(eF l).2∧(eF l).2≤l.length:=by
 have:=uO l (p:=0) (by cases l<;>simp_all)
 rw[eF];omega
theorem fK:∀(k:Nat) (p:Nat) (l:List UInt8),l.length≤k→cU k p l=cU l.length p l
 |0,p,l,h=>by
  have:l=[]:=List.eq_nil_of_length_eq_zero (by omega)
  subst this;rfl
 |k+1,p,[],h=>rfl
 |k+1,p,b::l,h=>by
  have hw:=yBh (l:=b::l) (by simp)
  have hl:((b::l).drop (eF (b::l)).2).length≤l.length:=by rw[List.length_drop,List.length_cons];omega
  rw[List.length_cons]
  simp only[cU]
  rw[fK k _ _ (by rw[List.length_cons]at h;omega),fK l.length _ _ hl]
theorem wU {s:List UInt8} {p:Nat} (h:s.length≤p):j6 s p=[]:=by
 rw[j6,show s.length-p=0 by omega];rfl
theorem kG {s:List UInt8} {p:Nat} (h:p<s.length):j6 s p=(p,(Utf8.decode (sb s) p).1)::j6 s (p+(Utf8.decode (sb s) p).2):=by
 obtain⟨k,hk⟩:∃k,s.length-p=k+1:=⟨s.length-p-1,by omega⟩
 have hw:=uO s h
 obtain⟨b,l,hb⟩:∃b l,s.drop p=b::l:=by
  cases hd:s.drop p with
  |nil=>rw[List.drop_eq_nil_iff]at hd;omega
  |cons b l=>exact⟨b,l,rfl⟩
 have hlen:(b::l).length=s.length-p:=by rw[← hb,List.length_drop]
 rw[j6,hk,hb,pE,hb,j6]
 rw[pE,hb]at hw
 simp only[cU]
 have e:(b::l).drop (eF (b::l)).2=s.drop (p+(eF (b::l)).2):=by rw[← hb,List.drop_drop]
 rw[e,fK k _ _ (by rw[List.length_drop];omega),List.length_drop]
theorem sL (s:List UInt8):∀(k p:Nat),s.length-p≤k→(j6 s p).length≤s.length-p
 |0,p,h=>by rw[wU (by omega)];simp
 |k+1,p,h=>by
  by_cases hp:p<s.length
  ·have hw:=uO s hp
   rw[kG hp,List.length_cons]
   have:=sL s k (p+(Utf8.decode (sb s) p).2) (by omega)
   omega
  ·rw[wU (by omega)];simp
theorem nC (s:List UInt8):(x9 s).length≤s.length:=by
 rw[x9,List.length_map]
 have:=sL s s.length 0 (by omega)
 omega
theorem zNj {a b:Nat} (h:Nat.blt a b=false):b≤a:=by
 rcases Nat.lt_or_ge a b with h1|h1
 ·rw[show Nat.blt a b=true by rw[Nat.blt_eq];exact h1]at h;cases h
 ·exact h1
theorem zVj:(ByteArray.mk #[]).toList=[]:=gK []
theorem z8z (s:List UInt8) (h:countC.cnd s):zMx s:=by
 have h:s.length≤1099511627776:=h
 have hr:=nC s
 unfold zMx
 refine⟨(0,0),rfl,rfl,rfl,fun x=>x.1≤s.length∧x.2+(j6 s x.1).length=(x9 s).length,fun x=>s.length-x.1,⟨by omega,by rw[x9,List.length_map];simp⟩,?_⟩
 rintro⟨p,n⟩ ⟨h1,h2⟩
 dsimp only at h1 h2 ⊢
 refine Cv.cnd.mk (fun hp=> ?_) (fun hp=> ?_)
 ·have hp:p<s.length:=by simpa[Nat.blt_eq]using hp
  have hw:=uO s hp
  rw[kG hp,List.length_cons]at h2
  refine⟨(p+(Utf8.decode (sb s) p).2,n+1),?_,rfl,rfl,⟨hw.2,by(first|omega|(dsimp only;omega))⟩,by(first|omega|(dsimp only;omega)),trivial⟩
  rw[w64 (by omega)];rfl
 ·have hp:s.length≤p:=by have:=zNj hp;simpa using this
  rw[wU hp]at h2
  exact⟨(),by rw[← h2];rfl,trivial⟩
theorem zYo:countC.ok Tryz.prog 108:=z0x gok0 z8z
theorem yFi (s:List UInt8) (h:symC.cnd s):z7w s:=by
 have h:s.length≤1099511627776:=h
 unfold z7w
 refine⟨0,rfl,rfl,fun p=>p≤s.length∧(x9 s).all jU=(j6 s p).all fun x=>jU x.2,fun p=>s.length-p,⟨by omega,by rw[x9,List.all_map];rfl⟩,?_⟩
 rintro p ⟨h1,h2⟩
 refine Cv.cnd.mk (fun hp=> ?_) (fun hp=> ?_)
 ·have hp:p<s.length:=by simpa[Nat.blt_eq]using hp
  have hw:=uO s hp
  rw[kG hp,List.all_cons]at h2
  generalize hc:(Utf8.decode (sb s) p).1=c at h2 ⊢
  generalize hww:(Utf8.decode (sb s) p).2=w at h2 hw ⊢
  dsimp only at h2
  have bad:jU c=false→∃(o:Unit),qG s=false∧True:=fun e=>⟨(),by rw[qG,h2,e];rfl,trivial⟩
  have good:jU c=true→∃i':Nat,sb s=sb s∧i'=p+w∧(i'≤s.length∧(x9 s).all jU=(j6 s i').all fun x=>jU x.2)∧s.length-i'<s.length-p∧True:=fun e=>⟨p+w,rfl,rfl,⟨hw.2,by rw[h2,e];rfl⟩,by omega,trivial⟩
  refine zP (fun c1=>zP (fun c2=> ?_) (fun c2=>zP (fun c3=>zP (fun c4=>Cv.cnd.mk (fun c5=> ?_) (fun c5=> ?_)) (fun c4=> ?_)) (fun c3=> ?_))) (fun c1=>zP (fun c3=>zP (fun c4=>Cv.cnd.mk (fun c5=> ?_) (fun c5=> ?_)) (fun c4=> ?_)) (fun c3=> ?_))
  all_goals first|(refine good ?_;simp[jU]at*;omega)|(refine bad ?_;simp[jU]at*;omega)
 ·have hp:s.length≤p:=by have:=zNj hp;simpa using this
  rw[wU hp]at h2
  have h2:(x9 s).all jU=true:=h2
  refine Cv.cnd.mk (fun e=>⟨s,rfl,h,fun _ _=>⟨(),?_,trivial⟩⟩) (fun e=>⟨(),?_,trivial⟩)
  ·rw[gK,zVj]at e
   have:s≠[]:=by simpa using e
   rw[qG,h2,decide_eq_true this]
   simp only[Bool.true_and]
   congr 1
   simp only[eq_iff_iff];omega
  ·have:s=[]:=by
    rw[gK,zVj]at e
    simpa using e
   rw[qG,this];rfl
theorem z6g:symC.ok Tryz.prog 82:=yCk (gokc zYo gok0) yFi
@[simp] theorem yY (l:List Int):(iE l).length=l.length:=by simp[iE]
theorem elI {l:List Int} {k:Nat} {n:Int} (h:l[k]? =some n):zI (iE l) k 0 1=some [D.v (.int .i64 n)]:=by
 simp[zI,iE,h];rfl
theorem yG {α:Type} {l:List α} {i:Nat} (h:i<l.length):∃x,l[i]? =some x:=⟨l[i],List.getElem?_eq_getElem h⟩
theorem zBi {n k:Nat} {f:Nat→Bool} (hk:k<n) (h:f k=false):(List.range n).all f=false:=by
 cases hh:(List.range n).all f
 ·rfl
 ·rw[List.all_eq_true]at hh
  rw[hh k (by simpa using hk)]at h;cases h
theorem zFp {n:Nat} {f:Nat→Bool} (h:∀k<n,f k=true):(List.range n).all f=true:=by
 rw[List.all_eq_true];intro k hk;exact h k (by simpa using hk)
theorem z0v (l:List Int) (h:monthsC.cnd l):zEt l:=by
 have h:l.length≤1099511627776:=h
 unfold zEt
 simp only[yY]
 refine⟨0,rfl,fun j=>j≤l.length∧∀k<j,xV l k=true,fun j=>l.length-j,⟨by omega,fun k hk=>by omega⟩,?_⟩
 rintro j ⟨h1,h2⟩
 have bad:j<l.length→xV l j=false→∃(o:Unit),yS l=false∧True:=fun hj e=>⟨(),by rw[yS,zBi hj e];rfl,trivial⟩
 have good:j<l.length→xV l j=true→∃i':Nat,(i':Int)=IntKind.i64.wrap ((j:Int)+1)∧(i'≤l.length∧∀k<i',xV l k=true)∧l.length-i'<l.length-j∧True:=fun hj e=>⟨j+1,by rw[w64 (by omega)];rfl,⟨by omega,fun k hk=>by
  rcases Nat.lt_or_ge k j with hk'|hk'
  ·exact h2 k hk'
  ·obtain rfl:k=j:=by omega
   exact e⟩,by omega,trivial⟩
 refine zP (fun hj=> ?_) (fun hj=> ?_)
 ·have hj:j<l.length:=by omega
  obtain⟨n,hn⟩:=yG hj
  have hg:l.getD j 0=n:=by simp[hn]
  refine⟨⟨by omega,by omega⟩,n,elI hn,zP (fun c1=>bad hj (by simp[xV,hn];omega)) (fun c1=>zP (fun c2=>bad hj (by simp[xV,hn];omega)) (fun c2=>zP (fun c3=> ?_) (fun c3=>good hj ?_)))⟩
  ·have e:IntKind.i64.wrap ((j:Int)-1)=((j-1:Nat):Int):=by rw[w64 (by omega)];omega
   obtain⟨m,hm⟩:=yG (l:=l) (i:=j-1) (by omega)
   rw[e]
   refine⟨⟨by omega,by omega⟩,m,elI hm,zP (fun c4=>bad hj ?_) (fun c4=>good hj ?_)⟩
   ·simp[xV,hn,hm];omega
   ·simp[xV,hn,hm];omega
  ·simp[xV,hn];omega
 ·have e:(List.range l.length).all (xV l)=true:=zFp fun k hk=>h2 k (by omega)
  refine zP (fun c=>⟨(),?_,trivial⟩) (fun c=>⟨(),?_,trivial⟩)
  ·rw[yS,e,decide_eq_true (show 2≤l.length by omega)]
   simp;omega
  ·rw[yS,decide_eq_false (show ¬2≤l.length by omega)];simp
theorem zSo:monthsC.ok Tryz.prog 83:=zWa gok0 z0v
theorem nF {f:Int→Int→Int} {l:List Int} {j:Nat} {n:Int} (h:l[j+1]? =some n):(l.take (j+2)).tail.foldl f ((l.take (j+2)).headD 0)=f ((l.take (j+1)).tail.foldl f ((l.take (j+1)).headD 0)) n:=by
 cases l with
 |nil=>simp at h
 |cons a l=>
  simp only[List.getElem?_cons_succ]at h
  simp only[List.take_succ_cons,List.tail_cons,List.headD_cons]
  rw[List.take_add_one,h,List.foldl_append];rfl
theorem zGt {l:List Int} {n:Int} (h:l[0]? =some n) (f:Int→Int→Int):(l.take 1).tail.foldl f ((l.take 1).headD 0)=n:=by
 cases l with
 |nil=>simp at h
 |cons a l=>simpa using h
theorem yEi (l:List Int) (h:minC.cnd l):z8e l:=by
 obtain⟨h0,h⟩:0<l.length∧l.length≤1099511627776:=h
 unfold z8e
 simp only[yY]
 obtain⟨n,hn⟩:=yG h0
 refine zP (fun c=>by omega) (fun c=>⟨⟨by omega,by omega⟩,n,elI hn,1,zGt hn min,rfl,fun j=>1≤j∧j≤l.length,fun j=>l.length-j,⟨by omega,by omega⟩,?_⟩)
 rintro j ⟨h1,h2⟩
 refine zP (fun hj=> ?_) (fun hj=>⟨(),?_,trivial⟩)
 ·obtain⟨m,hm⟩:=yG (l:=l) (i:=j) (by omega)
  refine⟨⟨by omega,by omega⟩,m,elI hm,j+1,?_,?_,⟨by omega,by omega⟩,by(first|omega|(dsimp only;omega)),trivial⟩
  ·obtain⟨k,rfl⟩:∃k,j=k+1:=⟨j-1,by omega⟩
   first
    |(rw[fU,nF hm,← fU];done)
    |(rw[fU,nF hm,← fU];generalize fU (l.take (k+1))=x;split<;>omega)
  ·rw[w64 (by omega)];rfl
 ·rw[List.take_of_length_le (by omega)]
theorem z6y:minC.ok Tryz.prog 85:=yDa gok0 yEi
theorem yEb (l:List Int) (h:maxC.cnd l):z8m l:=by
 obtain⟨h0,h⟩:0<l.length∧l.length≤1099511627776:=h
 unfold z8m
 simp only[yY]
 obtain⟨n,hn⟩:=yG h0
 refine zP (fun c=>by omega) (fun c=>⟨⟨by omega,by omega⟩,n,elI hn,1,zGt hn max,rfl,fun j=>1≤j∧j≤l.length,fun j=>l.length-j,⟨by omega,by omega⟩,?_⟩)
 rintro j ⟨h1,h2⟩
 refine zP (fun hj=> ?_) (fun hj=>⟨(),?_,trivial⟩)
 ·obtain⟨m,hm⟩:=yG (l:=l) (i:=j) (by omega)
  refine⟨⟨by omega,by omega⟩,m,elI hm,j+1,?_,?_,⟨by omega,by omega⟩,by(first|omega|(dsimp only;omega)),trivial⟩
  ·obtain⟨k,rfl⟩:∃k,j=k+1:=⟨j-1,by omega⟩
   rw[fY,nF hm,← fY]
   generalize fY (l.take (k+1))=x
   split<;>omega
  ·rw[w64 (by omega)];rfl
 ·rw[List.take_of_length_le (by omega)]
theorem yAl:maxC.ok Tryz.prog 86:=yDh gok0 yEb
open Go Cv Go.Proofs
@[reducible] def Prd.row (p:Prd):AObj:= .cells p.cells 29
structure zFs where
 p:Prd
 n:Int
structure sG where
 p:Prd
 l:List Int
def xF (t n:Int):Bool:=n.tmod t !=0
def offC:Con:=con1 zFs (fun i=>[zC i.n,.nm 0 0]) (fun i=>[i.p.row]) (fun i=>1≤i.p.tick) (fun i=>yL (xF i.p.tick i.n)) (fun i=>[i.p.row])
@[reducible] def yBu:V:= .fn 109 [] [.nm 0 0]
def pF (k:Option Nat):Int:=match k with
 |some k=>k
 |none=> -1
def idxC:Con:=con1 sG (fun i=>[iV i.l,yBu]) (fun i=>[i.p.row]) (fun i=>1≤i.p.tick∧i.l.length≤1099511627776) (fun i=>zC (pF (i.l.findIdx? (xF i.p.tick)))) (fun i=>[i.p.row])
def yEw (i:sG):List SAnn:=[{ι:=Nat,slots:=fun j=>[(8,zC j)],rows:=fun _=>[]}]
def containsC:Con:=con1 sG (fun i=>[iV i.l,yBu]) (fun i=>[i.p.row]) (fun i=>1≤i.p.tick∧i.l.length≤1099511627776) (fun i=>yL (i.l.any (xF i.p.tick))) (fun i=>[i.p.row])
def xD (p:Prd):Bool:=decide (1≤p.tick) && decide (p.tick≤1000) && !xF p.tick p.low && !xF p.tick p.high && !xF p.tick p.wide && !p.settle.any (xF p.tick)
def ticksC:Con:=con1 Prd (fun p=>[prdV p]) (fun _=>[]) Prd.small (fun p=>yL (xD p)) (fun _=>[])
def xE (p:Prd):Bool:=decide (p.low< -1000000)||decide (p.low≥p.high)||decide (p.high>1000000)||decide (p.wide<0)||decide (p.wide>p.high-p.low)
def yX (p:Prd):Bool:=decide (p.settle.length≠p.months.length)||decide (fU p.settle<p.low)||decide (fY p.settle>p.high)
def xP (p:Prd):Bool:=decide (p.rule<1)||decide (p.rule>3)
def y9 (p:Prd):Bool:=decide (p.top<0)||decide (p.top>1000000)||decide (p.least<1)||decide (p.least>1000)||decide (p.part<0)||decide (p.part>100)
def Prd.check (p:Prd):Int:=
 if !qG p.code then 12 else if !yS p.months then 1 else if !xD p then 22 else if xE p then 23 else if yX p then 1 else if xP p then 31 else if y9 p then 24 else 0
def checkC:Con:=con1 Prd (fun p=>[prdV p]) (fun _=>[]) Prd.small (fun p=>zC p.check) (fun _=>[])
def Prd.count (p:Prd):Nat:=if p.check=0 then p.months.length+p.months.length*(p.months.length-1) / 2 else 0
def pcountC:Con:=con1 Prd (fun p=>[prdV p]) (fun _=>[]) Prd.small (fun p=>zC p.count) (fun _=>[])
structure vU where
 p:Prd
 n:Int
def z7 (n:Nat):Nat→Nat
 |0=>n
 |k+1=>z7 n k+(n-1-k)
def x4 (n inst:Nat):Nat→Nat→Int×Int×Bool
 |0,_=>(0,0,false)
 |k+1,m=>if inst<z7 n m+(n-1-m)then(m,m+1+(inst-z7 n m:Nat),true)else x4 n inst k (m+1)
def Prd.legs (p:Prd) (i:Int):Int×Int×Bool:=
 if i<0∨(p.count:Int)≤i then(0,0,false)else if i<p.months.length then(i,i,false)else x4 p.months.length i.toNat p.months.length 0
def legsC:Con:=con1 vU (fun i=>[prdV i.p,zC i.n]) (fun _=>[]) (fun i=>i.p.small) (fun i=> .tup [zC (i.p.legs i.n).1,zC (i.p.legs i.n).2.1,yL (i.p.legs i.n).2.2]) (fun _=>[])
structure gX where
 p:Prd
 a:Int
 b:Int
def Prd.spread (p:Prd) (a b:Int):Int×Bool:=
 if p.check≠0∨a<0∨b≤a∨(p.months.length:Int)≤b then(0,false)else((z7 p.months.length a.toNat:Int)+b-a-1,true)
def spreadC:Con:=con1 gX (fun i=>[prdV i.p,zC i.a,zC i.b]) (fun _=>[]) (fun i=>i.p.small) (fun i=> .tup [zC (i.p.spread i.a i.b).1,yL (i.p.spread i.a i.b).2]) (fun _=>[])
def Prd.price (p:Prd) (i n:Int):Int:=
 if p.count=0 then 1 else if i<0∨(p.count:Int)≤i then 20 else if xF p.tick n then 22 else
 if n<(if(p.months.length:Int)≤i then-p.wide else p.low)∨(if(p.months.length:Int)≤i then p.wide else p.high)<n then 23 else 0
def priceC:Con:=con1 gX (fun i=>[prdV i.p,zC i.a,zC i.b]) (fun _=>[]) (fun i=>i.p.small) (fun i=>zC (i.p.price i.a i.b)) (fun _=>[])
structure I2 where
 x:Int
 y:Int
@[reducible] def yN (n:Int):Prop:= -9223372036854775808≤n∧n≤9223372036854775807
def jH (x y:Int):Int×Bool:=if yN (x+y)then(x+y,true)else(0,false)
def jJ (x y:Int):Int×Bool:=if yN (x-y)then(x-y,true)else(0,false)
def addC:Con:=con1 I2 (fun i=>[zC i.x,zC i.y]) (fun _=>[]) (fun i=>yN i.x∧yN i.y) (fun i=> .tup [zC (jH i.x i.y).1,yL (jH i.x i.y).2]) (fun _=>[])
def subC:Con:=con1 I2 (fun i=>[zC i.x,zC i.y]) (fun _=>[]) (fun i=>yN i.x∧yN i.y) (fun i=> .tup [zC (jJ i.x i.y).1,yL (jJ i.x i.y).2]) (fun _=>[])
def yBo (i:vU):List SAnn:=[{ι:=Nat,slots:=fun m=>[(8,zC (z7 i.p.months.length m)),(33,zC m)],rows:=fun _=>[]}]
def z3o (i:gX):List SAnn:=[{ι:=Nat,slots:=fun m=>[(9,zC (z7 i.p.months.length m)),(33,zC m)],rows:=fun _=>[]}]
open Go Cv Go.Proofs
def z8b (i:zFs):Prop:=
 IntKind.i64=IntKind.i64∧i.p.tick≠0∧∃(o:Unit),xF i.p.tick i.n=(i.n.tmod i.p.tick !=0)∧sb i.p.code=sb i.p.code∧iE i.p.months=iE i.p.months∧i.p.tick=i.p.tick∧i.p.low=i.p.low∧i.p.high=i.p.high∧i.p.wide=i.p.wide∧i.p.rule=i.p.rule∧i.p.top=i.p.top∧i.p.least=i.p.least∧i.p.part=i.p.part∧iE i.p.settle=iE i.p.settle∧True
theorem yCp (hG:GOk Tryz.prog ([])) (h:∀(i:zFs),offC.cnd i→z8b i):offC.ok Tryz.prog 109:=okw mixed hG 0 (fun _=>[]) (fun _=>[]) [] Tryz.func109 h
def yBi (i:sG):Prop:=
 ∃(i0:Nat),(↑i0:Int)=0∧∃(I:Nat→Prop),∃(μ:Nat→Nat),I i0∧∀(i_1:Nat),I i_1→cnd (decide ((↑i_1:Int)<(↑(iE i.l).length:Int))) ((0≤(↑i_1:Int)∧(↑i_1:Int)<(↑(iE i.l).length:Int))∧∃(n:Int),zI (iE i.l) (↑i_1:Int).toNat 0 1=some [D.v (.int .i64 n)]∧∃(i_2:zFs),i_2.n=n∧sb i_2.p.code=sb i.p.code∧iE i_2.p.months=iE i.p.months∧i_2.p.tick=i.p.tick∧i_2.p.low=i.p.low∧i_2.p.high=i.p.high∧i_2.p.wide=i.p.wide∧i_2.p.rule=i.p.rule∧i_2.p.top=i.p.top∧i_2.p.least=i.p.least∧i_2.p.part=i.p.part∧iE i_2.p.settle=iE i.p.settle∧1≤i_2.p.tick∧∀(o:Unit),True→cnd (xF i_2.p.tick i_2.n) (∃(o:Unit),pF (List.findIdx? (xF i.p.tick) i.l)=(↑i_1:Int)∧sb i.p.code=sb i_2.p.code∧iE i.p.months=iE i_2.p.months∧i.p.tick=i_2.p.tick∧i.p.low=i_2.p.low∧i.p.high=i_2.p.high∧i.p.wide=i_2.p.wide∧i.p.rule=i_2.p.rule∧i.p.top=i_2.p.top∧i.p.least=i_2.p.least∧i.p.part=i_2.p.part∧iE i.p.settle=iE i_2.p.settle∧True) (∃(i':Nat),(↑i':Int)=IntKind.i64.wrap ((↑i_1:Int)+1)∧I i'∧μ i'<μ i_1∧Sx.AObj.cells (uC (uX 1 ((1:Nat)+(0:Nat)) ((1:Nat)-(1:Nat)) [((0:Nat),(0:Nat))]) i_2.p.cells) (29:TypeId)=i.p.row)) (∃(o:Unit),pF (List.findIdx? (xF i.p.tick) i.l)=(-1)∧sb i.p.code=sb i.p.code∧iE i.p.months=iE i.p.months∧i.p.tick=i.p.tick∧i.p.low=i.p.low∧i.p.high=i.p.high∧i.p.wide=i.p.wide∧i.p.rule=i.p.rule∧i.p.top=i.p.top∧i.p.least=i.p.least∧i.p.part=i.p.part∧iE i.p.settle=iE i.p.settle∧True)
theorem yBs (hG:GOk Tryz.prog ([(109,offC)])) (h:∀(i:sG),idxC.cnd i→yBi i):idxC.ok Tryz.prog 125:=okw mixed hG 0 (fun _=>[]) (fun i=>yEw i) [] Tryz.func125 h
def zBg (i:sG):Prop:=
 ∃(i_1:sG),iE i_1.l=iE i.l∧sb i_1.p.code=sb i.p.code∧iE i_1.p.months=iE i.p.months∧i_1.p.tick=i.p.tick∧i_1.p.low=i.p.low∧i_1.p.high=i.p.high∧i_1.p.wide=i.p.wide∧i_1.p.rule=i.p.rule∧i_1.p.top=i.p.top∧i_1.p.least=i.p.least∧i_1.p.part=i.p.part∧iE i_1.p.settle=iE i.p.settle∧(1≤i_1.p.tick∧i_1.l.length≤1099511627776)∧∀(o:Unit),True→∃(o:Unit),i.l.any (xF i.p.tick)=decide (pF (List.findIdx? (xF i_1.p.tick) i_1.l)≥0)∧sb i.p.code=sb i_1.p.code∧iE i.p.months=iE i_1.p.months∧i.p.tick=i_1.p.tick∧i.p.low=i_1.p.low∧i.p.high=i_1.p.high∧i.p.wide=i_1.p.wide∧i.p.rule=i_1.p.rule∧i.p.top=i_1.p.top∧i.p.least=i_1.p.least∧i.p.part=i_1.p.part∧iE i.p.settle=iE i_1.p.settle∧True
theorem zLz (hG:GOk Tryz.prog ([(125,idxC)])) (h:∀(i:sG),containsC.cnd i→zBg i):containsC.ok Tryz.prog 110:=okw mixed hG 0 (fun _=>[]) (fun _=>[]) [] Tryz.func110 h
def zLa (p:Prd):Prop:=
 cnd (decide (p.tick<1)) (∃(o:Unit),xD p=false∧True) (cnd (decide (p.tick>1000)) (∃(o:Unit),xD p=false∧True) (∃(i:zFs),i.n=p.low∧sb i.p.code=sb p.code∧iE i.p.months=iE p.months∧i.p.tick=p.tick∧i.p.low=p.low∧i.p.high=p.high∧i.p.wide=p.wide∧i.p.rule=p.rule∧i.p.top=p.top∧i.p.least=p.least∧i.p.part=p.part∧iE i.p.settle=iE p.settle∧1≤i.p.tick∧∀(o:Unit),True→cnd (!xF i.p.tick i.n) (∃(i_1:zFs),i_1.n=i.p.high∧sb i_1.p.code=sb i.p.code∧iE i_1.p.months=iE i.p.months∧i_1.p.tick=i.p.tick∧i_1.p.low=i.p.low∧i_1.p.high=i.p.high∧i_1.p.wide=i.p.wide∧i_1.p.rule=i.p.rule∧i_1.p.top=i.p.top∧i_1.p.least=i.p.least∧i_1.p.part=i.p.part∧iE i_1.p.settle=iE i.p.settle∧1≤i_1.p.tick∧∀(o:Unit),True→cnd (!xF i_1.p.tick i_1.n) (∃(i:zFs),i.n=i_1.p.wide∧sb i.p.code=sb i_1.p.code∧iE i.p.months=iE i_1.p.months∧i.p.tick=i_1.p.tick∧i.p.low=i_1.p.low∧i.p.high=i_1.p.high∧i.p.wide=i_1.p.wide∧i.p.rule=i_1.p.rule∧i.p.top=i_1.p.top∧i.p.least=i_1.p.least∧i.p.part=i_1.p.part∧iE i.p.settle=iE i_1.p.settle∧1≤i.p.tick∧∀(o:Unit),True→cnd (!xF i.p.tick i.n) (∃(i_2:sG),iE i_2.l=iE i.p.settle∧sb i_2.p.code=sb i.p.code∧iE i_2.p.months=iE i.p.months∧i_2.p.tick=i.p.tick∧i_2.p.low=i.p.low∧i_2.p.high=i.p.high∧i_2.p.wide=i.p.wide∧i_2.p.rule=i.p.rule∧i_2.p.top=i.p.top∧i_2.p.least=i.p.least∧i_2.p.part=i.p.part∧iE i_2.p.settle=iE i.p.settle∧(1≤i_2.p.tick∧i_2.l.length≤1099511627776)∧∀(o:Unit),True→∃(o:Unit),xD p=!i_2.l.any (xF i_2.p.tick)∧True) (∃(o:Unit),xD p=false∧True)) (∃(o:Unit),xD p=false∧True)) (∃(o:Unit),xD p=false∧True)))
theorem z2p (hG:GOk Tryz.prog ([(109,offC),(110,containsC)])) (h:∀(p:Prd),ticksC.cnd p→zLa p):ticksC.ok Tryz.prog 84:=okw mixed hG 0 (fun _=>[]) (fun _=>[]) [] Tryz.func84 h
def zKb (p:Prd):Prop:=
 ∃(i:List UInt8),sb i=sb p.code∧i.length≤1099511627776∧∀(o:Unit),True→cnd (!qG i) (∃(o:Unit),p.check=12∧True) (∃(i:List Int),iE i=iE p.months∧i.length≤1099511627776∧∀(o:Unit),True→cnd (!yS i) (∃(o:Unit),p.check=1∧True) (∃(i:Prd),sb i.code=sb p.code∧iE i.months=iE p.months∧i.tick=p.tick∧i.low=p.low∧i.high=p.high∧i.wide=p.wide∧i.rule=p.rule∧i.top=p.top∧i.least=p.least∧i.part=p.part∧iE i.settle=iE p.settle∧(i.code.length≤1099511627776∧i.months.length≤1099511627776∧i.settle.length≤1099511627776)∧∀(o:Unit),True→cnd (!xD i) (∃(o:Unit),p.check=22∧True) (cnd (decide (p.low<(-1000000))) (∃(o:Unit),p.check=23∧True) (cnd (decide (p.low≥p.high)) (∃(o:Unit),p.check=23∧True) (cnd (decide (p.high>1000000)) (∃(o:Unit),p.check=23∧True) (cnd (decide (p.wide<0)) (∃(o:Unit),p.check=23∧True) (cnd (decide (p.wide>IntKind.i64.wrap (p.high-p.low))) (∃(o:Unit),p.check=23∧True) (cnd ((↑(iE p.settle).length:Int) !=(↑(iE p.months).length:Int)) (∃(o:Unit),p.check=1∧True) (∃(i:List Int),iE i=iE p.settle∧(0<i.length∧i.length≤1099511627776)∧∀(o:Unit),True→p.low=p.low∧cnd (decide (fU i<p.low)) (∃(o:Unit),p.check=1∧True) (∃(i:List Int),iE i=iE p.settle∧(0<i.length∧i.length≤1099511627776)∧∀(o:Unit),True→p.high=p.high∧cnd (decide (fY i>p.high)) (∃(o:Unit),p.check=1∧True) (cnd (decide (p.rule<1)) (∃(o:Unit),p.check=31∧True) (cnd (decide (p.rule>3)) (∃(o:Unit),p.check=31∧True) (cnd (decide (p.top<0)) (∃(o:Unit),p.check=24∧True) (cnd (decide (p.top>1000000)) (∃(o:Unit),p.check=24∧True) (cnd (decide (p.least<1)) (∃(o:Unit),p.check=24∧True) (cnd (decide (p.least>1000)) (∃(o:Unit),p.check=24∧True) (cnd (decide (p.part<0)) (∃(o:Unit),p.check=24∧True) (cnd (decide (p.part>100)) (∃(o:Unit),p.check=24∧True) (∃(o:Unit),p.check=0∧True)))))))))))))))))))
theorem z2d (hG:GOk Tryz.prog ([(82,symC),(83,monthsC),(84,ticksC),(85,minC),(86,maxC)])) (h:∀(p:Prd),checkC.cnd p→zKb p):checkC.ok Tryz.prog 50:=okw mixed hG 0 (fun _=>[]) (fun _=>[]) [] Tryz.func50 h
def zPw (p:Prd):Prop:=
 ∃(i:Prd),sb i.code=sb p.code∧iE i.months=iE p.months∧i.tick=p.tick∧i.low=p.low∧i.high=p.high∧i.wide=p.wide∧i.rule=p.rule∧i.top=p.top∧i.least=p.least∧i.part=p.part∧iE i.settle=iE p.settle∧(i.code.length≤1099511627776∧i.months.length≤1099511627776∧i.settle.length≤1099511627776)∧∀(o:Unit),True→cnd (i.check !=0) (∃(o:Unit),(↑p.count:Int)=0∧True) (IntKind.i64=IntKind.i64∧(2:Int)≠(0:Int)∧∃(o:Unit),(↑p.count:Int)=IntKind.i64.wrap ((↑(iE p.months).length:Int)+IntKind.i64.wrap ((IntKind.i64.wrap ((↑(iE p.months).length:Int)*IntKind.i64.wrap ((↑(iE p.months).length:Int)-1))).tdiv 2))∧True)
theorem zWk (hG:GOk Tryz.prog ([(50,checkC)])) (h:∀(p:Prd),pcountC.cnd p→zPw p):pcountC.ok Tryz.prog 24:=okw mixed hG 0 (fun _=>[]) (fun _=>[]) [] Tryz.func24 h
@[reducible] def zOl (i:vU):AObj:=Sx.AObj.cells [V.d (D.v (Value.string (sb i.p.code))),V.own (0:Nat),V.d (D.v (.int .i64 i.p.tick)),V.d (D.v (.int .i64 i.p.low)),V.d (D.v (.int .i64 i.p.high)),V.d (D.v (.int .i64 i.p.wide)),V.d (D.v (.int .i64 i.p.rule)),V.d (D.v (.int .i64 i.p.top)),V.d (D.v (.int .i64 i.p.least)),V.d (D.v (.int .i64 i.p.part)),V.own ((0:Nat)+(1:Nat))] (29:Nat)
def z5c (i:vU):Prop:=
 ∃(i_1:Prd),sb i_1.code=sb i.p.code∧iE i_1.months=iE i.p.months∧i_1.tick=i.p.tick∧i_1.low=i.p.low∧i_1.high=i.p.high∧i_1.wide=i.p.wide∧i_1.rule=i.p.rule∧i_1.top=i.p.top∧i_1.least=i.p.least∧i_1.part=i.p.part∧iE i_1.settle=iE i.p.settle∧(i_1.code.length≤1099511627776∧i_1.months.length≤1099511627776∧i_1.settle.length≤1099511627776)∧∀(o:Unit),True→cnd (decide (i.n<0)) (∃(o:Unit),(i.p.legs i.n).fst=0∧(i.p.legs i.n).snd.fst=0∧(i.p.legs i.n).snd.snd=false∧True) (cnd (decide (i.n≥(↑i_1.count:Int))) (∃(o:Unit),(i.p.legs i.n).fst=0∧(i.p.legs i.n).snd.fst=0∧(i.p.legs i.n).snd.snd=false∧True) (cnd (decide (i.n<(↑(iE i.p.months).length:Int))) (∃(o:Unit),(i.p.legs i.n).fst=i.n∧(i.p.legs i.n).snd.fst=i.n∧(i.p.legs i.n).snd.snd=false∧True) (∃(i0:Nat),(↑(z7 i.p.months.length i0):Int)=(↑(iE i.p.months).length:Int)∧(↑i0:Int)=0∧∃(I:Nat→Prop),∃(μ:Nat→Nat),I i0∧∀(i_2:Nat),I i_2→cnd (decide ((↑i_2:Int)<(↑(iE i.p.months).length:Int))) (cnd (decide (i.n<IntKind.i64.wrap ((↑(z7 i.p.months.length i_2):Int)+IntKind.i64.wrap (IntKind.i64.wrap ((↑(iE i.p.months).length:Int)-1)-(↑i_2:Int))))) (∃(o:Unit),(i.p.legs i.n).fst=(↑i_2:Int)∧(i.p.legs i.n).snd.fst=IntKind.i64.wrap (IntKind.i64.wrap (IntKind.i64.wrap ((↑i_2:Int)+1)+i.n)-(↑(z7 i.p.months.length i_2):Int))∧(i.p.legs i.n).snd.snd=true∧True) (∃(i':Nat),(↑(z7 i.p.months.length i'):Int)=IntKind.i64.wrap ((↑(z7 i.p.months.length i_2):Int)+IntKind.i64.wrap (IntKind.i64.wrap ((↑(iE i.p.months).length:Int)-1)-(↑i_2:Int)))∧(↑i':Int)=IntKind.i64.wrap ((↑i_2:Int)+1)∧I i'∧μ i'<μ i_2∧zOl i=zOl i∧AObj.fro 1 (iE i.p.settle)=AObj.fro 1 (iE i.p.settle)∧AObj.fro 1 (iE i.p.months)=AObj.fro 1 (iE i.p.months))) (∃(o:Unit),(i.p.legs i.n).fst=0∧(i.p.legs i.n).snd.fst=0∧(i.p.legs i.n).snd.snd=false∧True))))
theorem z8d (hG:GOk Tryz.prog ([(24,pcountC)])) (h:∀(i:vU),legsC.cnd i→z5c i):legsC.ok Tryz.prog 51:=okw mixed hG 0 (fun _=>[]) (fun i=>yBo i) [] Tryz.func51 h
@[reducible] def zBz (i:gX):AObj:=Sx.AObj.cells [V.d (D.v (Value.string (sb i.p.code))),V.own (0:Nat),V.d (D.v (.int .i64 i.p.tick)),V.d (D.v (.int .i64 i.p.low)),V.d (D.v (.int .i64 i.p.high)),V.d (D.v (.int .i64 i.p.wide)),V.d (D.v (.int .i64 i.p.rule)),V.d (D.v (.int .i64 i.p.top)),V.d (D.v (.int .i64 i.p.least)),V.d (D.v (.int .i64 i.p.part)),V.own ((0:Nat)+(1:Nat))] (29:Nat)
def zNk (i:gX):Prop:=
 ∃(i_1:Prd),sb i_1.code=sb i.p.code∧iE i_1.months=iE i.p.months∧i_1.tick=i.p.tick∧i_1.low=i.p.low∧i_1.high=i.p.high∧i_1.wide=i.p.wide∧i_1.rule=i.p.rule∧i_1.top=i.p.top∧i_1.least=i.p.least∧i_1.part=i.p.part∧iE i_1.settle=iE i.p.settle∧(i_1.code.length≤1099511627776∧i_1.months.length≤1099511627776∧i_1.settle.length≤1099511627776)∧∀(o:Unit),True→cnd (i_1.check !=0) (∃(o:Unit),(i.p.spread i.a i.b).fst=0∧(i.p.spread i.a i.b).snd=false∧True) (cnd (decide (i.a<0)) (∃(o:Unit),(i.p.spread i.a i.b).fst=0∧(i.p.spread i.a i.b).snd=false∧True) (cnd (decide (i.a≥i.b)) (∃(o:Unit),(i.p.spread i.a i.b).fst=0∧(i.p.spread i.a i.b).snd=false∧True) (cnd (decide (i.b≥(↑(iE i.p.months).length:Int))) (∃(o:Unit),(i.p.spread i.a i.b).fst=0∧(i.p.spread i.a i.b).snd=false∧True) (∃(i0:Nat),(↑(z7 i.p.months.length i0):Int)=(↑(iE i.p.months).length:Int)∧(↑i0:Int)=0∧∃(I:Nat→Prop),∃(μ:Nat→Nat),I i0∧∀(i_2:Nat),I i_2→cnd (decide ((↑i_2:Int)<i.a)) (∃(i':Nat),(↑(z7 i.p.months.length i'):Int)=IntKind.i64.wrap ((↑(z7 i.p.months.length i_2):Int)+IntKind.i64.wrap (IntKind.i64.wrap ((↑(iE i.p.months).length:Int)-1)-(↑i_2:Int)))∧(↑i':Int)=IntKind.i64.wrap ((↑i_2:Int)+1)∧I i'∧μ i'<μ i_2∧zBz i=zBz i∧AObj.fro 1 (iE i.p.settle)=AObj.fro 1 (iE i.p.settle)∧AObj.fro 1 (iE i.p.months)=AObj.fro 1 (iE i.p.months)) (∃(o:Unit),(i.p.spread i.a i.b).fst=IntKind.i64.wrap (IntKind.i64.wrap (IntKind.i64.wrap ((↑(z7 i.p.months.length i_2):Int)+i.b)-i.a)-1)∧(i.p.spread i.a i.b).snd=true∧True)))))
theorem zZj (hG:GOk Tryz.prog ([(50,checkC)])) (h:∀(i:gX),spreadC.cnd i→zNk i):spreadC.ok Tryz.prog 54:=okw mixed hG 0 (fun _=>[]) (fun i=>z3o i) [] Tryz.func54 h
def zUe (i:gX):Prop:=
 ∃(i_1:Prd),sb i_1.code=sb i.p.code∧iE i_1.months=iE i.p.months∧i_1.tick=i.p.tick∧i_1.low=i.p.low∧i_1.high=i.p.high∧i_1.wide=i.p.wide∧i_1.rule=i.p.rule∧i_1.top=i.p.top∧i_1.least=i.p.least∧i_1.part=i.p.part∧iE i_1.settle=iE i.p.settle∧(i_1.code.length≤1099511627776∧i_1.months.length≤1099511627776∧i_1.settle.length≤1099511627776)∧∀(o:Unit),True→cnd ((↑i_1.count:Int)==0) (∃(o:Unit),i.p.price i.a i.b=1∧True) (cnd (decide (i.a<0)) (∃(o:Unit),i.p.price i.a i.b=20∧True) (cnd (decide (i.a≥(↑i_1.count:Int))) (∃(o:Unit),i.p.price i.a i.b=20∧True) (IntKind.i64=IntKind.i64∧i.p.tick≠0∧cnd (i.b.tmod i.p.tick !=0) (∃(o:Unit),i.p.price i.a i.b=22∧True) (cnd (decide (i.a≥(↑(iE i.p.months).length:Int))) (cnd (decide (i.b<IntKind.i64.wrap (0-i.p.wide))) (∃(o:Unit),i.p.price i.a i.b=23∧True) (cnd (decide (i.b>i.p.wide)) (∃(o:Unit),i.p.price i.a i.b=23∧True) (∃(o:Unit),i.p.price i.a i.b=0∧True))) (cnd (decide (i.b<i.p.low)) (∃(o:Unit),i.p.price i.a i.b=23∧True) (cnd (decide (i.b>i.p.high)) (∃(o:Unit),i.p.price i.a i.b=23∧True) (∃(o:Unit),i.p.price i.a i.b=0∧True)))))))
theorem z2i (hG:GOk Tryz.prog ([(24,pcountC)])) (h:∀(i:gX),priceC.cnd i→zUe i):priceC.ok Tryz.prog 72:=okw mixed hG 0 (fun _=>[]) (fun _=>[]) [] Tryz.func72 h
def yAk (i:I2):Prop:=
 cnd (decide (i.x<0)==decide (i.y<0)) (cnd (!decide (IntKind.i64.wrap (i.x+i.y)<0)==decide (i.x<0)) (∃(o:Unit),(jH i.x i.y).fst=0∧(jH i.x i.y).snd=false∧True) (∃(o:Unit),(jH i.x i.y).fst=IntKind.i64.wrap (i.x+i.y)∧(jH i.x i.y).snd=true∧True)) (∃(o:Unit),(jH i.x i.y).fst=IntKind.i64.wrap (i.x+i.y)∧(jH i.x i.y).snd=true∧True)
theorem yDc (hG:GOk Tryz.prog ([])) (h:∀(i:I2),addC.cnd i→yAk i):addC.ok Tryz.prog 87:=okw mixed hG 0 (fun _=>[]) (fun _=>[]) [] Tryz.func87 h
def z6m (i:I2):Prop:=
 cnd (!decide (i.x<0)==decide (i.y<0)) (cnd (!decide (IntKind.i64.wrap (i.x-i.y)<0)==decide (i.x<0)) (∃(o:Unit),(jJ i.x i.y).fst=0∧(jJ i.x i.y).snd=false∧True) (∃(o:Unit),(jJ i.x i.y).fst=IntKind.i64.wrap (i.x-i.y)∧(jJ i.x i.y).snd=true∧True)) (∃(o:Unit),(jJ i.x i.y).fst=IntKind.i64.wrap (i.x-i.y)∧(jJ i.x i.y).snd=true∧True)
theorem yCn (hG:GOk Tryz.prog ([])) (h:∀(i:I2),subC.cnd i→z6m i):subC.ok Tryz.prog 88:=okw mixed hG 0 (fun _=>[]) (fun _=>[]) [] Tryz.func88 h
open Go Cv Go.Proofs
theorem yEd (i:zFs) (h:offC.cnd i):z8b i:=by
 have h:1≤i.p.tick:=h
 unfold z8b;exact kp
theorem zYd:offC.ok Tryz.prog 109:=yCp gok0 yEd
theorem nU {α:Type} {f:α→Bool} {l:List α} (h:∀(k:Nat) (x:α),l[k]? =some x→f x=false):l.findIdx? f=none:=by
 rw[List.findIdx?_eq_none_iff]
 intro x hx
 obtain⟨k,hk⟩:=List.getElem?_of_mem hx
 exact h k x hk
theorem nH {α:Type} {f:α→Bool} {l:List α} {j:Nat} {x:α} (h1:l[j]? =some x) (h2:f x=true) (h:∀k<j,∀x:α,l[k]? =some x→f x=false):l.findIdx? f=some j:=by
 rw[List.findIdx?_eq_some_iff_getElem]
 obtain⟨hj,rfl⟩:=List.getElem?_eq_some_iff.1 h1
 exact⟨hj,h2,fun k hk=>by rw[h k hk _ (List.getElem?_eq_getElem (by omega))];simp⟩
theorem yFh (i:sG) (h:idxC.cnd i):yBi i:=by
 obtain⟨h1,h2⟩:1≤i.p.tick∧i.l.length≤1099511627776:=h
 unfold yBi
 simp only[yY]
 refine⟨0,rfl,fun j=>j≤i.l.length∧∀k<j,∀x,i.l[k]? =some x→xF i.p.tick x=false,fun j=>i.l.length-j,⟨by omega,fun k hk=>by omega⟩,?_⟩
 rintro j ⟨h3,h4⟩
 refine zP (fun hj=> ?_) (fun hj=> ?_)
 ·obtain⟨n,hn⟩:=yG (l:=i.l) (i:=j) (by omega)
  refine⟨⟨by omega,by omega⟩,n,elI hn,⟨i.p,n⟩,?_⟩
  (repeat'(first|exact rfl|exact trivial|assumption|apply And.intro|refine fun(_:Unit) (_:True)=>?_|refine Exists.intro () ?_|omega|(dsimp only;omega)))
  refine Cv.cnd.mk (fun e=> ?_) (fun e=> ?_)
  ·rw[nH hn e h4];exact kp
  ·refine⟨j+1,by rw[w64 (by omega)];rfl,⟨by omega,fun k hk x hx=> ?_⟩,by(first|omega|(dsimp only;omega)),rfl⟩
   rcases Nat.lt_or_ge k j with hk'|hk'
   ·exact h4 k hk' x hx
   ·obtain rfl:k=j:=by omega
    rw[hn]at hx;cases hx;exact e
 ·rw[nU fun k x hx=>h4 k (by have:=(List.getElem?_eq_some_iff.1 hx).1;omega) x hx];exact kp
theorem z6f:idxC.ok Tryz.prog 125:=yBs (gokc zYd gok0) yFh
theorem zTk {l:List Int} {f:Int→Bool}:l.any f=decide (pF (l.findIdx? f)≥0):=by
 cases hf:l.findIdx? f with
 |none=>
  rw[List.findIdx?_eq_none_iff]at hf
  have:l.any f=false:=by rw[List.any_eq_false];intro x hx;simp[hf x hx]
  rw[this];rfl
 |some k=>
  rw[List.findIdx?_eq_some_iff_getElem]at hf
  obtain⟨hk,h1,_⟩:=hf
  have:l.any f=true:=by rw[List.any_eq_true];exact⟨_,List.getElem_mem hk,h1⟩
  rw[this,pF,decide_eq_true (by omega)]
theorem zQm (i:sG) (h:containsC.cnd i):zBg i:=by
 have h':1≤i.p.tick∧i.l.length≤1099511627776:=h
 refine⟨i,?_⟩
 (repeat'(first|exact rfl|exact trivial|assumption|apply And.intro|refine fun(_:Unit) (_:True)=>?_|refine Exists.intro () ?_|omega|(dsimp only;omega)))
 exact zTk
theorem zHv:containsC.ok Tryz.prog 110:=zLz (gokc z6f gok0) zQm
theorem z9m (p:Prd) (h:ticksC.cnd p):zLa p:=by
 obtain⟨h1,h2,h3⟩:p.small:=h
 unfold zLa
 refine zP (fun c1=>⟨(),by rw[xD,decide_eq_false (by omega)];rfl,trivial⟩) (fun c1=>zP (fun c2=>⟨(),by rw[xD,decide_eq_false (show ¬p.tick≤1000 by omega)];simp,trivial⟩) (fun c2=>⟨⟨p,p.low⟩,?_⟩))
 have e1:xD p=(!xF p.tick p.low && !xF p.tick p.high && !xF p.tick p.wide && !p.settle.any (xF p.tick)):=by
  rw[xD,decide_eq_true (by omega),decide_eq_true (by omega)];rfl
 rw[e1]
 (repeat'(first|exact rfl|exact trivial|assumption|apply And.intro|refine fun(_:Unit) (_:True)=>?_|refine Exists.intro () ?_|omega|(dsimp only;omega)))
 refine Cv.cnd.mk (fun c3=>⟨⟨p,p.high⟩,?_⟩) (fun c3=>⟨(),?_,trivial⟩)
 ·dsimp only at c3
  (repeat'(first|exact rfl|exact trivial|assumption|apply And.intro|refine fun(_:Unit) (_:True)=>?_|refine Exists.intro () ?_|omega|(dsimp only;omega)))
  refine Cv.cnd.mk (fun c4=>⟨⟨p,p.wide⟩,?_⟩) (fun c4=>⟨(),?_,trivial⟩)
  ·dsimp only at c4
   (repeat'(first|exact rfl|exact trivial|assumption|apply And.intro|refine fun(_:Unit) (_:True)=>?_|refine Exists.intro () ?_|omega|(dsimp only;omega)))
   refine Cv.cnd.mk (fun c5=>⟨⟨p,p.settle⟩,?_⟩) (fun c5=>⟨(),?_,trivial⟩)
   ·dsimp only at c5
    (repeat'(first|exact rfl|exact trivial|assumption|apply And.intro|refine fun(_:Unit) (_:True)=>?_|refine Exists.intro () ?_|omega|(dsimp only;omega)))
    rw[c3,c4,c5];simp
   ·dsimp only at c5
    rw[c5];simp
  ·dsimp only at c4
   rw[c4];simp
 ·dsimp only at c3
  rw[c3];simp
theorem zVx:ticksC.ok Tryz.prog 84:=z2p (gokc zYd (gokc zHv gok0)) z9m
theorem yBa (p:Prd) (h:checkC.cnd p):zKb p:=by
 obtain⟨h1,h2,h3⟩:p.small:=h
 unfold zKb
 simp only[yY]
 refine⟨p.code,rfl,h1,fun _ _=>Cv.cnd.mk (fun c1=>⟨(),by rw[Prd.check,if_pos c1],trivial⟩) (fun c1=>⟨p.months,rfl,h2,fun _ _=>Cv.cnd.mk (fun c2=>⟨(),by rw[Prd.check,if_neg (by simp[c1]),if_pos c2],trivial⟩) (fun c2=>⟨p,?_⟩)⟩)⟩
 (repeat'(first|exact rfl|exact trivial|assumption|apply And.intro|refine fun(_:Unit) (_:True)=>?_|refine Exists.intro () ?_|omega|(dsimp only;omega)))
 refine Cv.cnd.mk (fun c3=>⟨(),by rw[Prd.check,if_neg (by simp[c1]),if_neg (by simp[c2]),if_pos c3],trivial⟩) (fun c3=> ?_)
 have e0:p.check=if xE p then 23 else if yX p then 1 else if xP p then 31 else if y9 p then 24 else 0:=by
  rw[Prd.check,if_neg (by simp[c1]),if_neg (by simp[c2]),if_neg (by simp[c3])]
 have b (hb:xE p=true):∃(o:Unit),p.check=23∧True:=⟨(),by rw[e0,if_pos hb],trivial⟩
 refine zP (fun d1=>b (by simp[xE,d1])) fun d1=>zP (fun d2=>b (by simp[xE];omega)) fun d2=>zP (fun d3=>b (by simp[xE];omega)) fun d3=>zP (fun d4=>b (by simp[xE];omega)) fun d4=> ?_
 rw[w64 (by omega)]
 refine zP (fun d5=>b (by simp[xE];omega)) fun d5=> ?_
 have e1:p.check=if yX p then 1 else if xP p then 31 else if y9 p then 24 else 0:=by
  rw[e0,if_neg (by simp[xE];omega)]
 have s (hb:yX p=true):∃(o:Unit),p.check=1∧True:=⟨(),by rw[e1,if_pos hb],trivial⟩
 have hm:2≤p.months.length:=by
  have c2:yS p.months=true:=by simpa using c2
  simp[yS]at c2;omega
 refine Cv.cnd.mk (fun d6=>s (by have d6:¬(p.settle.length:Int)=p.months.length:=(by simpa using d6);simp[yX];omega)) fun d6=> ?_
 have d6:p.settle.length=p.months.length:=by
  have:(p.settle.length:Int)=p.months.length:=by simpa using d6
  omega
 refine⟨p.settle,rfl,⟨by omega,by omega⟩,fun _ _=>⟨kp,zP (fun d7=>s (by simp[yX];left;right;omega)) fun d7=>⟨p.settle,rfl,⟨by omega,by omega⟩,fun _ _=>⟨kp,zP (fun d8=>s (by simp[yX];right;omega)) fun d8=> ?_⟩⟩⟩⟩
 have e2:p.check=if xP p then 31 else if y9 p then 24 else 0:=by
  rw[e1,if_neg (by simp[yX];omega)]
 have r (hb:xP p=true):∃(o:Unit),p.check=31∧True:=⟨(),by rw[e2,if_pos hb],trivial⟩
 refine zP (fun d9=>r (by simp[xP];omega)) fun d9=>zP (fun d10=>r (by simp[xP];omega)) fun d10=> ?_
 have e3:p.check=if y9 p then 24 else 0:=by
  rw[e2,if_neg (by simp[xP];omega)]
 have q (hb:y9 p=true):∃(o:Unit),p.check=24∧True:=⟨(),by rw[e3,if_pos hb],trivial⟩
 refine zP (fun f1=>q (by simp[y9];omega)) fun f1=>zP (fun f2=>q (by simp[y9];omega)) fun f2=>zP (fun f3=>q (by simp[y9];omega)) fun f3=>zP (fun f4=>q (by simp[y9];omega)) fun f4=>zP (fun f5=>q (by simp[y9];omega)) fun f5=>zP (fun f6=>q (by simp[y9];omega)) fun f6=> ?_
 exact⟨(),by rw[e3,if_neg (by simp[y9];omega)],trivial⟩
theorem aL:checkC.ok Tryz.prog 50:=z2d (gokc z6g (gokc zSo (gokc zVx (gokc z6y (gokc yAl gok0))))) yBa
structure Prd.Ok (p:Prd):Prop where
 sym:qG p.code=true
 months:yS p.months=true
 ticks:xD p=true
 m2:2≤p.months.length
 m6:p.months.length≤6
 t1:1≤p.tick
 t2:p.tick≤1000
 b1: -1000000≤p.low
 b2:p.low<p.high
 b3:p.high≤1000000
 b4:0≤p.wide
 b5:p.wide≤p.high-p.low
 s1:p.settle.length=p.months.length
 s2:p.low≤fU p.settle
 s3:fY p.settle≤p.high
 r1:1≤p.rule
 r2:p.rule≤3
 q1:0≤p.top
 q2:p.top≤1000000
 q3:1≤p.least
 q4:p.least≤1000
 q5:0≤p.part
 q6:p.part≤100
theorem xY {p:Prd} (h:p.check=0):p.Ok:=by
 unfold Prd.check at h
 split at h<;>first|(exfalso;revert h;decide)|skip
 rename_i c1
 split at h<;>first|(exfalso;revert h;decide)|skip
 rename_i c2
 split at h<;>first|(exfalso;revert h;decide)|skip
 rename_i c3
 split at h<;>first|(exfalso;revert h;decide)|skip
 rename_i c4
 split at h<;>first|(exfalso;revert h;decide)|skip
 rename_i c5
 split at h<;>first|(exfalso;revert h;decide)|skip
 rename_i c6
 split at h<;>first|(exfalso;revert h;decide)|skip
 rename_i c7
 simp only[Bool.not_eq_true',Bool.not_eq_false,Bool.not_eq_true]at c1 c2 c3
 have m:=c2
 have t:=c3
 simp[yS]at m
 simp[xD]at t
 simp[xE]at c4
 simp[yX]at c5
 simp[xP]at c6
 simp[y9]at c7
 exact⟨c1,c2,c3,by omega,by omega,by omega,by omega,by omega,by omega,by omega,by omega,by omega,by omega,by omega,by omega,by omega,by omega,by omega,by omega,by omega,by omega,by omega,by omega⟩
theorem zXu {n:Nat} (h:n≤6):n+n*(n-1) / 2≤21:=by
 have:∀n≤6,n+n*(n-1) / 2≤21:=by decide
 exact this n h
theorem z4o (p:Prd) (h:pcountC.cnd p):zPw p:=by
 obtain⟨h1,h2,h3⟩:p.small:=h
 refine⟨p,?_⟩
 simp only[yY]
 (repeat'(first|exact rfl|exact trivial|assumption|apply And.intro|refine fun(_:Unit) (_:True)=>?_|refine Exists.intro () ?_|omega|(dsimp only;omega)))
 refine Cv.cnd.mk (fun c=>⟨(),by rw[Prd.count,if_neg (by simpa using c)];rfl,trivial⟩) (fun c=> ?_)
 have c:p.check=0:=by simpa using c
 have ok:=xY c
 refine⟨kp,by decide,(),?_,trivial⟩
 rw[Prd.count,if_pos c]
 obtain⟨n,hn⟩:∃n,p.months.length=n:=⟨_,rfl⟩
 have m2:=ok.m2
 have m6:=ok.m6
 rw[hn]at m2 m6 ⊢
 have:n=2∨n=3∨n=4∨n=5∨n=6:=by omega
 rcases this with rfl|rfl|rfl|rfl|rfl<;>rfl
theorem gM:pcountC.ok Tryz.prog 24:=zWk (gokc aL gok0) z4o
theorem cB {p:Prd} (h:p.count≠0):p.check=0:=by
 unfold Prd.count at h
 split at h
 ·assumption
 ·exact absurd rfl h
theorem xK (p:Prd):p.count≤21:=by
 unfold Prd.count
 split
 ·rename_i h;exact zXu (xY h).m6
 ·omega
theorem tZ {n m:Nat} (h:n≤6) (hm:m≤n):z7 n m≤21:=by
 have:∀n≤6,∀m≤n,z7 n m≤21:=by decide
 exact this n h m hm
theorem yCs (i:vU) (h:legsC.cnd i):z5c i:=by
 obtain⟨h1,h2,h3⟩:i.p.small:=h
 refine⟨i.p,?_⟩
 simp only[yY]
 (repeat'(first|exact rfl|exact trivial|assumption|apply And.intro|refine fun(_:Unit) (_:True)=>?_|refine Exists.intro () ?_|omega|(dsimp only;omega)))
 refine zP (fun c1=> ?_) (fun c1=>zP (fun c2=> ?_) (fun c2=> ?_))
 ·rw[Prd.legs,if_pos (by omega)];exact kp
 ·rw[Prd.legs,if_pos (by omega)];exact kp
 have c2:¬i.n≥(i.p.count:Int):=c2
 have hc:=xK i.p
 have ok:=xY (cB (p:=i.p) (by omega))
 have m6:=ok.m6
 refine zP (fun c3=> ?_) (fun c3=> ?_)
 ·rw[Prd.legs,if_neg (by omega),if_pos c3];exact kp
 have e0:i.p.legs i.n=x4 i.p.months.length i.n.toNat i.p.months.length 0:=by
  rw[Prd.legs,if_neg (by omega),if_neg c3]
 rw[e0]
 generalize hn:i.p.months.length=n at c3 m6 ⊢
 obtain⟨k,hk⟩:∃k:Nat,i.n=k:=⟨i.n.toNat,by omega⟩
 rw[hk]at c2 c3 ⊢
 refine⟨0,rfl,rfl,fun m=>m≤n∧z7 n m≤k∧x4 n k n 0=x4 n k (n-m) m,fun m=>n-m,⟨by omega,by show n≤k;omega,rfl⟩,?_⟩
 rintro m ⟨g1,g2,g3⟩
 have hf:=tZ m6 g1
 refine zP (fun c4=> ?_) (fun c4=> ?_)
 ·obtain⟨r,hr⟩:∃r,n-m=r+1:=⟨n-m-1,by omega⟩
  have e1:(k:Int).toNat=k:=by omega
  rw[e1,g3,hr,w64 (x:=(n:Int)-1) (by omega),w64 (x:=(n:Int)-1-m) (by omega),w64 (x:=(z7 n m:Int)+((n:Int)-1-m)) (by omega),w64 (x:=(m:Int)+1) (by omega)]
  rw[hr]at g3
  refine zP (fun c5=> ?_) (fun c5=> ?_)
  ·rw[w64 (x:=(m:Int)+1+k) (by omega),w64 (x:=(m:Int)+1+k-(z7 n m:Int)) (by omega),x4,if_pos (by omega)]
   refine⟨(),rfl,?_,rfl,trivial⟩
   dsimp only;omega
  ·refine⟨m+1,?_,rfl,⟨by omega,?_,?_⟩,by(first|omega|(dsimp only;omega)),kp⟩
   ·rw[z7];omega
   ·rw[z7];omega
   ·rw[x4,if_neg (by omega),show n-(m+1)=r by omega]
 ·have e1:(k:Int).toNat=k:=by omega
  rw[e1,g3,show n-m=0 by omega]
  exact⟨(),rfl,rfl,rfl,trivial⟩
theorem cX:legsC.ok Tryz.prog 51:=z8d (gokc gM gok0) yCs
theorem z3a (i:gX) (h:spreadC.cnd i):zNk i:=by
 obtain⟨h1,h2,h3⟩:i.p.small:=h
 refine⟨i.p,?_⟩
 simp only[yY]
 (repeat'(first|exact rfl|exact trivial|assumption|apply And.intro|refine fun(_:Unit) (_:True)=>?_|refine Exists.intro () ?_|omega|(dsimp only;omega)))
 have bad (hb:i.p.check≠0∨i.a<0∨i.b≤i.a∨(i.p.months.length:Int)≤i.b):∃(o:Unit),(i.p.spread i.a i.b).fst=0∧(i.p.spread i.a i.b).snd=false∧True:=⟨(),by rw[Prd.spread,if_pos hb],by rw[Prd.spread,if_pos hb],trivial⟩
 refine Cv.cnd.mk (fun c1=>bad (.inl (by simpa using c1))) fun c1=>zP (fun c2=>bad (by omega)) fun c2=>zP (fun c3=>bad (by omega)) fun c3=>zP (fun c4=>bad (by omega)) fun c4=> ?_
 have c1:i.p.check=0:=by simpa using c1
 have m6:=(xY c1).m6
 rw[Prd.spread,if_neg (by omega)]
 generalize hn:i.p.months.length=n at c4 m6 ⊢
 obtain⟨a,ha⟩:∃k:Nat,i.a=k:=⟨i.a.toNat,by omega⟩
 rw[ha]at c3 ⊢
 refine⟨0,rfl,rfl,fun m=>m≤a,fun m=>a-m,by omega,?_⟩
 intro m hm
 have hm:m≤a:=hm
 have hf:=tZ (m:=m) m6 (by omega)
 refine zP (fun c5=> ?_) (fun c5=> ?_)
 ·rw[w64 (x:=(n:Int)-1) (by omega),w64 (x:=(n:Int)-1-m) (by omega),w64 (x:=(z7 n m:Int)+((n:Int)-1-m)) (by omega),w64 (x:=(m:Int)+1) (by omega)]
  refine⟨m+1,?_,rfl,by omega,by(first|omega|(dsimp only;omega)),kp⟩
  rw[z7];omega
 ·obtain rfl:m=a:=by omega
  rw[w64 (x:=(z7 n m:Int)+i.b) (by omega),w64 (x:=(z7 n m:Int)+i.b-m) (by omega),w64 (x:=(z7 n m:Int)+i.b-m-1) (by omega)]
  exact⟨(),rfl,rfl,trivial⟩
theorem zBw:spreadC.ok Tryz.prog 54:=zZj (gokc aL gok0) z3a
theorem z9s (i:gX) (h:priceC.cnd i):zUe i:=by
 obtain⟨h1,h2,h3⟩:i.p.small:=h
 refine⟨i.p,?_⟩
 simp only[yY]
 (repeat'(first|exact rfl|exact trivial|assumption|apply And.intro|refine fun(_:Unit) (_:True)=>?_|refine Exists.intro () ?_|omega|(dsimp only;omega)))
 refine Cv.cnd.mk (fun c1=>⟨(),by rw[Prd.price,if_pos (by have:(i.p.count:Int)=0:=(by simpa using c1);omega)],trivial⟩) fun c1=> ?_
 have c1:i.p.count≠0:=by
  have:¬(i.p.count:Int)=0:=by simpa using c1
  omega
 have e0:i.p.price i.a i.b=if i.a<0∨(i.p.count:Int)≤i.a then 20 else if xF i.p.tick i.b then 22 else
  if i.b<(if(i.p.months.length:Int)≤i.a then-i.p.wide else i.p.low)∨(if(i.p.months.length:Int)≤i.a then i.p.wide else i.p.high)<i.b then 23 else 0:=by rw[Prd.price,if_neg c1]
 rw[e0]
 have ok:=xY (cB c1)
 obtain⟨t1,b3,b1,b2,b4,b5⟩:=(⟨ok.t1,ok.b3,ok.b1,ok.b2,ok.b4,ok.b5⟩:_∧_∧_∧_∧_∧_)
 refine zP (fun c2=>⟨(),by rw[if_pos (.inl c2)],trivial⟩) fun c2=>zP (fun c3=>⟨(),by rw[if_pos (.inr c3)],trivial⟩) fun c3=>⟨kp,by omega,?_⟩
 have c3:¬i.a≥(i.p.count:Int):=c3
 rw[if_neg (by omega)]
 refine Cv.cnd.mk (fun c4=>⟨(),if_pos c4,trivial⟩) fun c4=> ?_
 rw[if_neg (by rw[xF,c4];simp),w64 (x:=0-i.p.wide) (by omega)]
 refine zP (fun c5=> ?_) (fun c5=> ?_)
 ·have c5:(i.p.months.length:Int)≤i.a:=c5
  simp only[if_pos c5]
  refine zP (fun c6=>⟨(),if_pos (.inl (by omega)),trivial⟩) fun c6=>zP (fun c7=>⟨(),if_pos (.inr (by omega)),trivial⟩) fun c7=>⟨(),if_neg (by omega),trivial⟩
 ·have c5:¬(i.p.months.length:Int)≤i.a:=c5
  simp only[if_neg c5]
  refine zP (fun c6=>⟨(),if_pos (.inl (by omega)),trivial⟩) fun c6=>zP (fun c7=>⟨(),if_pos (.inr (by omega)),trivial⟩) fun c7=>⟨(),if_neg (by omega),trivial⟩
theorem dJ:priceC.ok Tryz.prog 72:=z2i (gokc gM gok0) z9s
theorem z5m (x:Int) (h: -18446744073709551616≤x∧x<18446744073709551616):(yN x∧IntKind.i64.wrap x=x)∨(9223372036854775807<x∧IntKind.i64.wrap x=x-18446744073709551616)∨(x< -9223372036854775808∧IntKind.i64.wrap x=x+18446744073709551616):=by
 have e:IntKind.i64.wrap x=if(decide (x % 18446744073709551616≥9223372036854775808))=true then x % 18446744073709551616-18446744073709551616 else x % 18446744073709551616:=by
  have:IntKind.i64.wrap x=if(true && decide (x % 18446744073709551616≥9223372036854775808))=true then x % 18446744073709551616-18446744073709551616 else x % 18446744073709551616:=rfl
  rw[this,Bool.true_and]
 have e:IntKind.i64.wrap x=(x+9223372036854775808) % 18446744073709551616-9223372036854775808:=by
  rw[e]
  by_cases h2:x % 18446744073709551616≥9223372036854775808
  ·rw[if_pos (decide_eq_true h2)];omega
  ·rw[if_neg (by simpa using h2)];omega
 rw[e]
 by_cases h1:yN x
 ·exact .inl ⟨h1,by unfold yN at h1;omega⟩
 ·unfold yN at h1
  omega
theorem yFd (i:I2) (h:addC.cnd i):yAk i:=by
 obtain⟨⟨x1,x2⟩,y1,y2⟩:yN i.x∧yN i.y:=h
 have hw:=z5m (i.x+i.y) (by omega)
 unfold yAk jH
 generalize IntKind.i64.wrap (i.x+i.y)=w at hw ⊢
 unfold yN at hw ⊢
 refine Cv.cnd.mk (fun c1=>Cv.cnd.mk (fun c2=> ?_) (fun c2=> ?_)) (fun c1=> ?_)
 all_goals(simp at*)
 ·rw[if_neg (by omega)];exact kp
 ·rw[if_pos (by omega)];refine⟨?_,rfl⟩;dsimp only;omega
 ·rw[if_pos (by omega)];refine⟨?_,rfl⟩;dsimp only;omega
theorem zEv:addC.ok Tryz.prog 87:=yDc gok0 yFd
theorem yFk (i:I2) (h:subC.cnd i):z6m i:=by
 obtain⟨⟨x1,x2⟩,y1,y2⟩:yN i.x∧yN i.y:=h
 have hw:=z5m (i.x-i.y) (by omega)
 unfold z6m jJ
 generalize IntKind.i64.wrap (i.x-i.y)=w at hw ⊢
 unfold yN at hw ⊢
 refine Cv.cnd.mk (fun c1=>Cv.cnd.mk (fun c2=> ?_) (fun c2=> ?_)) (fun c1=> ?_)
 all_goals(simp at*)
 ·rw[if_neg (by omega)];exact kp
 ·rw[if_pos (by omega)];refine⟨?_,rfl⟩;dsimp only;omega
 ·rw[if_pos (by omega)];refine⟨?_,rfl⟩;dsimp only;omega
theorem zDv:subC.ok Tryz.prog 88:=yCn gok0 yFk
open Go Cv Go.Proofs
structure Slot where
 used:Bool
 n:Int
 id:Int
 qty:Int
 top:Bool
 queue:Int
 ahead:Int
 back:Int
 deriving DecidableEq
structure qJ where
 first:Int
 last:Int
 total:Int
 count:Int
 deriving DecidableEq
structure Arena where
 slots:List Slot
 queues:List qJ
 free:Int
 deriving DecidableEq
def zK (s:Slot):List D:=[.v (.bool s.used),.v (.int .i64 s.n),.v (.int .i64 s.id),.v (.int .i64 s.qty),.v (.bool s.top),.v (.int .i64 s.queue),.v (.int .i64 s.ahead),.v (.int .i64 s.back)]
def zH (q:qJ):List D:=[.v (.int .i64 q.first),.v (.int .i64 q.last),.v (.int .i64 q.total),.v (.int .i64 q.count)]
def slot0:Slot:=⟨false,0,0,0,false,0,0,0⟩
def zD (a:Arena):Nat→AObj
 |0=> .cells [.own 1,.own 2,zC a.free] 185
 |1=> .own 193 8 (a.slots.map zK)
 |2=> .own 199 4 (a.queues.map zH)
 |_=> .gone
def qL (a:Arena):AObj:= .adt Arena 3 zD a
structure y4 where
 price:Int
 queue:Int
 deriving DecidableEq
structure Place where
 side:Int
 price:Int
 slot:Int
 deriving DecidableEq
structure Book where
 a:Arena
 buys:List y4
 sells:List y4
 at_:List (Int×Place)
 top1:Int
 top2:Int
 spare:List Int
 has1:Bool
 has2:Bool
 deriving DecidableEq
def zA (r:y4):List D:=[.v (.int .i64 r.price),.v (.int .i64 r.queue)]
def zMn (p:Place):List D:=[.v (.int .i64 p.side),.v (.int .i64 p.price),.v (.int .i64 p.slot)]
def atE (l:List (Int×Place)):List (Value×List D):=l.map fun x=>(.int .i64 x.1,zMn x.2)
def zM (b:Book):Nat→AObj
 |0=> .cells [.nm 1 0,.own 2,.own 3,.mp 4,zC b.top1,zC b.top2,.own 5,yL b.has1,yL b.has2] 144
 |1=>qL b.a
 |2=> .own 147 2 (b.buys.map zA)
 |3=> .own 147 2 (b.sells.map zA)
 |4=> .map (atE b.at_)
 |5=> .own 3 1 (iE b.spare)
 |_=> .gone
def yC (b:Book):AObj:= .adt Book 6 zM b
structure MSt where
 p:Prd
 books:List Book
 wh:List (Int×Int)
def yD (l:List (Int×Int)):List (Value×List D):=l.map fun x=>(.int .i64 x.1,[.v (.int .i64 x.2)])
def yB (s:MSt):Nat→AObj
 |0=> .cells [sV s.p.code,.own 3,zC s.p.tick,zC s.p.low,zC s.p.high,zC s.p.wide,zC s.p.rule,zC s.p.top,zC s.p.least,zC s.p.part,.own 4,.own 1,.mp 2] 101
 |1=> .objs 102 Book 6 zM s.books none
 |2=> .map (yD s.wh)
 |3=> .fro 1 (iE s.p.months)
 |4=> .fro 1 (iE s.p.settle)
 |_=> .gone
def zE (s:MSt):AObj:= .adt MSt 5 yB s
def rS (n:Nat):Arena:=⟨List.replicate n slot0,[],n⟩
def book0:Book:=⟨rS 250,[],[],[],0,0,[],false,false⟩
def newAC:Con:=con1 Nat (fun n=>[zC n]) (fun _=>[]) (fun n=>1≤n∧n≤4096) (fun _=> .tup [.nm 0 0,zC 0]) (fun n=>[qL (rS n)])
def newBC:Con:=con1 Unit (fun _=>[]) (fun _=>[]) (fun _=>True) (fun _=> .nm 0 0) (fun _=>[yC book0])
def wX (p:Prd):MSt:=⟨p,List.replicate p.count book0,[]⟩
def newSC:Con where
 ι:=Prd
 pat:=fun p=>[prdV p]
 pre:=fun _=>[]
 cnd:=fun p=>p.small
 alts:=fun p=>[{o:=Unit,res:=fun _=> .tup [.nm 0 0,zC 0],post:=fun _=>[zE (wX p)],rel:=fun _=>p.check=0},{o:=Unit,res:=fun _=> .tup [.d (.v (.pointer none)),zC p.check],post:=fun _=>[],rel:=fun _=>p.check≠0}]
def yCl (p:Prd):List SAnn:=[{ι:=Nat,slots:=fun j=>[(5,.nm 0 0),(27,zC j)],rows:=fun j=>(List.range 5).map (yB ⟨p,List.replicate j book0,[]⟩)}]
def clSlotC:Con:=con1 (List Slot) (fun _=>[.own 0]) (fun l=>[.own 193 8 (l.map zK)]) (fun l=>l.length≤1000000) (fun _=> .own 1) (fun l=>[.own 193 8 (l.map zK),.own 193 8 (l.map zK)])
def clQueueC:Con:=con1 (List qJ) (fun _=>[.own 0]) (fun l=>[.own 199 4 (l.map zH)]) (fun l=>l.length≤1000000) (fun _=> .own 1) (fun l=>[.own 199 4 (l.map zH),.own 199 4 (l.map zH)])
def clRungC:Con:=con1 (List y4) (fun _=>[.own 0]) (fun l=>[.own 147 2 (l.map zA)]) (fun l=>l.length≤1000000) (fun _=> .own 1) (fun l=>[.own 147 2 (l.map zA),.own 147 2 (l.map zA)])
def clIntC:Con:=con1 (List Int) (fun _=>[.own 0]) (fun l=>[.own 3 1 (iE l)]) (fun l=>l.length≤1000000) (fun _=> .own 1) (fun l=>[.own 3 1 (iE l),.own 3 1 (iE l)])
def zUt (f:Nat):Con:=con1 (List (Value×List D)) (fun _=>[.mp 0]) (fun es=>[.map es]) (fun _=>True) (fun _=> .mp 1) (fun es=>[.map es,.map es])
def clAtC:Con:=zUt 0
def clWhC:Con:=zUt 1
@[reducible] def Arena.small (a:Arena):Prop:=a.slots.length≤1000000∧a.queues.length≤1000000
@[reducible] def Book.small (b:Book):Prop:=b.a.small∧b.buys.length≤1000000∧b.sells.length≤1000000∧b.spare.length≤1000000
@[reducible] def MSt.small (s:MSt):Prop:=s.books.length≤1000000∧∀b∈s.books,b.small
def copyAC:Con:=con1 Arena (fun _=>[.nm 0 0]) (fun a=>[qL a]) Arena.small (fun _=> .nm 1 0) (fun a=>[qL a,qL a])
def copyBC:Con:=con1 Book (fun _=>[.nm 0 0]) (fun b=>[yC b]) Book.small (fun _=> .nm 1 0) (fun b=>[yC b,yC b])
def yAa:List SAnn:=[{ι:=Unit,slots:=fun _=>[],rows:=fun _=>[],un:=3}]
def copySC:Con:=con1 MSt (fun _=>[.nm 0 0]) (fun s=>[zE s]) MSt.small (fun _=> .nm 1 0) (fun s=>[zE s,zE s])
open Go Cv Go.Proofs
def zYg (n:Nat):Prop:=
 cnd (decide ((↑n:Int)<1)) (∃(o:Unit),False) (cnd (decide ((↑n:Int)>4096)) (∃(o:Unit),False) ((0≤(↑n:Int)∧(↑n:Int)≤(↑n:Int)∧(↑n:Int)≤9223372036854775807∧(↑(64:Nat):Int)*(↑n:Int)≤2 ^ (48:Nat))∧∃(o:Unit),(0:Int)=(0:Int)∧(↑n:Int)=(↑n:Int)∧List.map zK (List.replicate n slot0)=List.replicate (↑n:Int).toNat [D.v (.bool false),D.v (.int .i64 0),D.v (.int .i64 0),D.v (.int .i64 0),D.v (.bool false),D.v (.int .i64 0),D.v (.int .i64 0),D.v (.int .i64 0)]∧([]:List (List D))=[]∧True))
theorem z8y (hG:GOk Tryz.prog ([])) (h:∀(n:Nat),newAC.cnd n→zYg n):newAC.ok Tryz.prog 95:=okw mixed hG 0 (fun _=>[]) (fun _=>[]) [] Tryz.func95 h
def yCv (u:Unit):Prop:=
 ∃(i:Nat),(↑i:Int)=250∧(1≤i∧i≤4096)∧∀(o:Unit),True→∃(o:Unit),(0:Int)=(0:Int)∧(0:Int)=(0:Int)∧false=false∧false=false∧AObj.adt Arena 3 zD (rS 250)=AObj.adt Arena 3 zD (rS i)∧([]:List (List D))=[]∧([]:List (List D))=[]∧atE []=[]∧iE []=[]∧True
theorem z7f (hG:GOk Tryz.prog ([(95,newAC)])) (h:∀(u:Unit),newBC.cnd u→yCv u):newBC.ok Tryz.prog 68:=okw mixed hG 0 (fun _=>[]) (fun _=>[]) [] Tryz.func68 h
@[reducible] def zNr (p:Prd):AObj:=Sx.AObj.cells [V.d (D.v (Value.string (sb p.code))),V.own ((0:Nat)+(1:Nat)+(1:Nat)+(1:Nat)+((0:Nat)-(0:Nat))+(1:Nat)),V.d (D.v (.int .i64 p.tick)),V.d (D.v (.int .i64 p.low)),V.d (D.v (.int .i64 p.high)),V.d (D.v (.int .i64 p.wide)),V.d (D.v (.int .i64 p.rule)),V.d (D.v (.int .i64 p.top)),V.d (D.v (.int .i64 p.least)),V.d (D.v (.int .i64 p.part)),V.own ((0:Nat)+(1:Nat)+(1:Nat)+(1:Nat)+((0:Nat)-(0:Nat))+(1:Nat)+(1:Nat)+(1:Nat))] (29:Nat)
@[reducible] def rC (p:Prd):AObj:=Sx.AObj.cells [V.d (D.v (Value.string (sb p.code))),V.own ((0:Nat)+(1:Nat)+(1:Nat)+(1:Nat)+((0:Nat)-(0:Nat))+(1:Nat)+(1:Nat)),V.d (D.v (.int .i64 p.tick)),V.d (D.v (.int .i64 p.low)),V.d (D.v (.int .i64 p.high)),V.d (D.v (.int .i64 p.wide)),V.d (D.v (.int .i64 p.rule)),V.d (D.v (.int .i64 p.top)),V.d (D.v (.int .i64 p.least)),V.d (D.v (.int .i64 p.part)),V.own ((0:Nat)+(1:Nat)+(1:Nat)+(1:Nat)+((0:Nat)-(0:Nat))+(1:Nat)+(1:Nat)+(1:Nat))] (29:Nat)
def z4z (p:Prd):Prop:=
 ∃(i:Prd),sb i.code=sb p.code∧iE i.months=iE p.months∧i.tick=p.tick∧i.low=p.low∧i.high=p.high∧i.wide=p.wide∧i.rule=p.rule∧i.top=p.top∧i.least=p.least∧i.part=p.part∧iE i.settle=iE p.settle∧(i.code.length≤1099511627776∧i.months.length≤1099511627776∧i.settle.length≤1099511627776)∧∀(o:Unit),True→cnd (i.check !=0) ((∃(o:Unit),False)∨∃(o:Unit),True∧p.check=i.check∧(p.check=0→False)) ((True∧True∧((0+(iE p.months).length)*(8:Nat)≤(70368744177664:Nat)∧True∧True∧(0+(iE p.settle).length)*(8:Nat)≤(70368744177664:Nat)∧∃(i:Prd),sb i.code=sb p.code∧iE i.months=[]++iE p.months∧i.tick=p.tick∧i.low=p.low∧i.high=p.high∧i.wide=p.wide∧i.rule=p.rule∧i.top=p.top∧i.least=p.least∧i.part=p.part∧iE i.settle=[]++iE p.settle∧(i.code.length≤1099511627776∧i.months.length≤1099511627776∧i.settle.length≤1099511627776)∧∀(o:Unit),True→∃(i0:Nat),(↑i0:Int)=0∧sb p.code=sb p.code∧p.tick=p.tick∧p.low=p.low∧p.high=p.high∧p.wide=p.wide∧p.rule=p.rule∧p.top=p.top∧p.least=p.least∧p.part=p.part∧List.replicate i0 book0=[]∧(none:Option Nat)=none∧yD []=[]∧AObj.fro 1 (iE p.months)=AObj.fro 1 ([]++iE p.months)∧AObj.fro 1 (iE p.settle)=AObj.fro 1 ([]++iE p.settle)∧∃(I:Nat→Prop),∃(μ:Nat→Nat),I i0∧∀(i_1:Nat),I i_1→cnd (decide ((↑i_1:Int)<(↑i.count:Int))) (∃(i:Unit),True∧∀(o:Unit),True→True∧True∧∃(l1':List Book),AObj.objs 102 Book 6 zM (List.replicate i_1 book0) none=AObj.objs 102 Book 6 zM l1' none∧(l1'.length+1)*(8:Nat)≤(70368744177664:Nat)∧∃(i':Nat),(↑i':Int)=IntKind.i64.wrap ((↑i_1:Int)+1)∧sb p.code=sb p.code∧p.tick=p.tick∧p.low=p.low∧p.high=p.high∧p.wide=p.wide∧p.rule=p.rule∧p.top=p.top∧p.least=p.least∧p.part=p.part∧AObj.objs 102 Book 6 zM (List.replicate i' book0) none=AObj.objs 102 Book 6 zM (l1'++[book0]) none∧yD []=yD []∧AObj.fro 1 (iE p.months)=AObj.fro 1 (iE p.months)∧AObj.fro 1 (iE p.settle)=AObj.fro 1 (iE p.settle)∧I i'∧μ i'<μ i_1∧AObj.fro 1 ([]++iE p.settle)=AObj.fro 1 ([]++iE p.settle)∧AObj.fro 1 ([]++iE p.months)=AObj.fro 1 ([]++iE p.months)∧zNr p=zNr p∧AObj.fro 1 (iE p.settle)=AObj.fro 1 (iE p.settle)∧AObj.fro 1 (iE p.months)=AObj.fro 1 (iE p.months)) ((∃(o:Unit),(0:Int)=(0:Int)∧sb p.code=sb p.code∧p.tick=p.tick∧p.low=p.low∧p.high=p.high∧p.wide=p.wide∧p.rule=p.rule∧p.top=p.top∧p.least=p.least∧p.part=p.part∧AObj.objs 102 Book 6 zM (List.replicate p.count book0) none=AObj.objs 102 Book 6 zM (List.replicate i_1 book0) none∧yD []=yD []∧AObj.fro 1 (iE p.months)=AObj.fro 1 (iE p.months)∧AObj.fro 1 (iE p.settle)=AObj.fro 1 (iE p.settle)∧p.check=0)∨∃(o:Unit),False))∧True∧True∧(0+(iE p.months).length)*(8:Nat)≤(70368744177664:Nat)∧True∧(0+(iE p.settle).length)*(8:Nat)≤(70368744177664:Nat)∧∃(i:Prd),sb i.code=sb p.code∧iE i.months=[]++iE p.months∧i.tick=p.tick∧i.low=p.low∧i.high=p.high∧i.wide=p.wide∧i.rule=p.rule∧i.top=p.top∧i.least=p.least∧i.part=p.part∧iE i.settle=[]++iE p.settle∧(i.code.length≤1099511627776∧i.months.length≤1099511627776∧i.settle.length≤1099511627776)∧∀(o:Unit),True→∃(i0:Nat),(↑i0:Int)=0∧sb p.code=sb p.code∧p.tick=p.tick∧p.low=p.low∧p.high=p.high∧p.wide=p.wide∧p.rule=p.rule∧p.top=p.top∧p.least=p.least∧p.part=p.part∧List.replicate i0 book0=[]∧(none:Option Nat)=none∧yD []=[]∧AObj.fro 1 (iE p.months)=AObj.fro 1 ([]++iE p.months)∧AObj.fro 1 (iE p.settle)=AObj.fro 1 ([]++iE p.settle)∧∃(I:Nat→Prop),∃(μ:Nat→Nat),I i0∧∀(i_1:Nat),I i_1→cnd (decide ((↑i_1:Int)<(↑i.count:Int))) (∃(i:Unit),True∧∀(o:Unit),True→True∧True∧∃(l1':List Book),AObj.objs 102 Book 6 zM (List.replicate i_1 book0) none=AObj.objs 102 Book 6 zM l1' none∧(l1'.length+1)*(8:Nat)≤(70368744177664:Nat)∧∃(i':Nat),(↑i':Int)=IntKind.i64.wrap ((↑i_1:Int)+1)∧sb p.code=sb p.code∧p.tick=p.tick∧p.low=p.low∧p.high=p.high∧p.wide=p.wide∧p.rule=p.rule∧p.top=p.top∧p.least=p.least∧p.part=p.part∧AObj.objs 102 Book 6 zM (List.replicate i' book0) none=AObj.objs 102 Book 6 zM (l1'++[book0]) none∧yD []=yD []∧AObj.fro 1 (iE p.months)=AObj.fro 1 (iE p.months)∧AObj.fro 1 (iE p.settle)=AObj.fro 1 (iE p.settle)∧I i'∧μ i'<μ i_1∧AObj.fro 1 ([]++iE p.settle)=AObj.fro 1 ([]++iE p.settle)∧AObj.fro 1 ([]++iE p.months)=AObj.fro 1 ([]++iE p.months)∧rC p=rC p∧AObj.fro 1 (iE p.settle)=AObj.fro 1 (iE p.settle)∧AObj.fro 1 (iE p.months)=AObj.fro 1 (iE p.months)) ((∃(o:Unit),(0:Int)=(0:Int)∧sb p.code=sb p.code∧p.tick=p.tick∧p.low=p.low∧p.high=p.high∧p.wide=p.wide∧p.rule=p.rule∧p.top=p.top∧p.least=p.least∧p.part=p.part∧AObj.objs 102 Book 6 zM (List.replicate p.count book0) none=AObj.objs 102 Book 6 zM (List.replicate i_1 book0) none∧yD []=yD []∧AObj.fro 1 (iE p.months)=AObj.fro 1 (iE p.months)∧AObj.fro 1 (iE p.settle)=AObj.fro 1 (iE p.settle)∧p.check=0)∨∃(o:Unit),False))∧True∧True∧True∧True∧(0+(iE p.months).length)*(8:Nat)≤(70368744177664:Nat)∧True∧(0+(iE p.settle).length)*(8:Nat)≤(70368744177664:Nat)∧∃(i:Prd),sb i.code=sb p.code∧iE i.months=[]++iE p.months∧i.tick=p.tick∧i.low=p.low∧i.high=p.high∧i.wide=p.wide∧i.rule=p.rule∧i.top=p.top∧i.least=p.least∧i.part=p.part∧iE i.settle=[]++iE p.settle∧(i.code.length≤1099511627776∧i.months.length≤1099511627776∧i.settle.length≤1099511627776)∧∀(o:Unit),True→∃(i0:Nat),(↑i0:Int)=0∧sb p.code=sb p.code∧p.tick=p.tick∧p.low=p.low∧p.high=p.high∧p.wide=p.wide∧p.rule=p.rule∧p.top=p.top∧p.least=p.least∧p.part=p.part∧List.replicate i0 book0=[]∧(none:Option Nat)=none∧yD []=[]∧AObj.fro 1 (iE p.months)=AObj.fro 1 ([]++iE p.months)∧AObj.fro 1 (iE p.settle)=AObj.fro 1 ([]++iE p.settle)∧∃(I:Nat→Prop),∃(μ:Nat→Nat),I i0∧∀(i_1:Nat),I i_1→cnd (decide ((↑i_1:Int)<(↑i.count:Int))) (∃(i:Unit),True∧∀(o:Unit),True→True∧True∧∃(l1':List Book),AObj.objs 102 Book 6 zM (List.replicate i_1 book0) none=AObj.objs 102 Book 6 zM l1' none∧(l1'.length+1)*(8:Nat)≤(70368744177664:Nat)∧∃(i':Nat),(↑i':Int)=IntKind.i64.wrap ((↑i_1:Int)+1)∧sb p.code=sb p.code∧p.tick=p.tick∧p.low=p.low∧p.high=p.high∧p.wide=p.wide∧p.rule=p.rule∧p.top=p.top∧p.least=p.least∧p.part=p.part∧AObj.objs 102 Book 6 zM (List.replicate i' book0) none=AObj.objs 102 Book 6 zM (l1'++[book0]) none∧yD []=yD []∧AObj.fro 1 (iE p.months)=AObj.fro 1 (iE p.months)∧AObj.fro 1 (iE p.settle)=AObj.fro 1 (iE p.settle)∧I i'∧μ i'<μ i_1∧AObj.fro 1 ([]++iE p.settle)=AObj.fro 1 ([]++iE p.settle)∧AObj.fro 1 ([]++iE p.months)=AObj.fro 1 ([]++iE p.months)∧rC p=rC p∧AObj.fro 1 (iE p.settle)=AObj.fro 1 (iE p.settle)∧AObj.fro 1 (iE p.months)=AObj.fro 1 (iE p.months)) ((∃(o:Unit),(0:Int)=(0:Int)∧sb p.code=sb p.code∧p.tick=p.tick∧p.low=p.low∧p.high=p.high∧p.wide=p.wide∧p.rule=p.rule∧p.top=p.top∧p.least=p.least∧p.part=p.part∧AObj.objs 102 Book 6 zM (List.replicate p.count book0) none=AObj.objs 102 Book 6 zM (List.replicate i_1 book0) none∧yD []=yD []∧AObj.fro 1 (iE p.months)=AObj.fro 1 (iE p.months)∧AObj.fro 1 (iE p.settle)=AObj.fro 1 (iE p.settle)∧p.check=0)∨∃(o:Unit),False))
theorem yAi (hG:GOk Tryz.prog ([(50,checkC),(24,pcountC),(68,newBC)])) (h:∀(p:Prd),newSC.cnd p→z4z p):newSC.ok Tryz.prog 37:=okw mixed hG 0 (fun _=>[]) (fun p=>yCl p) [] Tryz.func37 h
def z2e (l:List Slot):Prop:=
 ∀(b:Bool),(b=true→List.map zK l=[])→cnd b (∃(o:Unit),List.map zK l=List.map zK l∧List.map zK l=[]∧True) ((0+(List.map zK l).length)*(64:Nat)≤(70368744177664:Nat)∧∃(o:Unit),List.map zK l=List.map zK l∧List.map zK l=[]++List.map zK l∧True)
theorem zUz (hG:GOk Tryz.prog ([])) (h:∀(l:List Slot),clSlotC.cnd l→z2e l):clSlotC.ok Tryz.prog 122:=okw mixed hG 0 (fun _=>[]) (fun _=>[]) [] Tryz.func122 h
def zUu (l:List qJ):Prop:=
 ∀(b:Bool),(b=true→List.map zH l=[])→cnd b (∃(o:Unit),List.map zH l=List.map zH l∧List.map zH l=[]∧True) ((0+(List.map zH l).length)*(32:Nat)≤(70368744177664:Nat)∧∃(o:Unit),List.map zH l=List.map zH l∧List.map zH l=[]++List.map zH l∧True)
theorem zRd (hG:GOk Tryz.prog ([])) (h:∀(l:List qJ),clQueueC.cnd l→zUu l):clQueueC.ok Tryz.prog 123:=okw mixed hG 0 (fun _=>[]) (fun _=>[]) [] Tryz.func123 h
def z0p (l:List y4):Prop:=
 ∀(b:Bool),(b=true→List.map zA l=[])→cnd b (∃(o:Unit),List.map zA l=List.map zA l∧List.map zA l=[]∧True) ((0+(List.map zA l).length)*(16:Nat)≤(70368744177664:Nat)∧∃(o:Unit),List.map zA l=List.map zA l∧List.map zA l=[]++List.map zA l∧True)
theorem zVv (hG:GOk Tryz.prog ([])) (h:∀(l:List y4),clRungC.cnd l→z0p l):clRungC.ok Tryz.prog 105:=okw mixed hG 0 (fun _=>[]) (fun _=>[]) [] Tryz.func105 h
def z9d (l:List Int):Prop:=
 ∀(b:Bool),(b=true→iE l=[])→cnd b (∃(o:Unit),iE l=iE l∧iE l=[]∧True) ((0+(iE l).length)*(8:Nat)≤(70368744177664:Nat)∧∃(o:Unit),iE l=iE l∧iE l=[]++iE l∧True)
theorem z0z (hG:GOk Tryz.prog ([])) (h:∀(l:List Int),clIntC.cnd l→z9d l):clIntC.ok Tryz.prog 58:=okw mixed hG 0 (fun _=>[]) (fun _=>[]) [] Tryz.func58 h
def zYw (es:List (Value×List D)):Prop:=
 ∃(i:List (Value×List D)),i=es∧True∧∀(o:Unit),True→∃(o:Unit),es=i∧es=i∧True
theorem z8q (es:List (Value×List D)):zYw es=walk Tryz.prog ([(102,vX 142)]) 0 ([]) ([]) [] Tryz.f104 (Tryz.f104.body.getD .skip) (clAtC.pat es) (clAtC.pre es) (clAtC.alts es):=by kernel_rfl
theorem yAc (hG:GOk Tryz.prog ([(102,vX 142)])) (h:∀(es:List (Value×List D)),clAtC.cnd es→zYw es):clAtC.ok Tryz.prog 104:=bU mixed ([(102,vX 142)]) hG 0 (fun(es:List (Value×List D))=>[]) (fun(es:List (Value×List D))=>[]) [] Tryz.func104 (by kernel_rfl) (by kernel_rfl) (by kernel_rfl) (fun _=>by kernel_rfl) (fun(es:List (Value×List D)) hc=>Eq.mp (z8q es) (h es hc))
def zTo (es:List (Value×List D)):Prop:=
 ∃(i:List (Value×List D)),i=es∧True∧∀(o:Unit),True→∃(o:Unit),es=i∧es=i∧True
theorem z9a (es:List (Value×List D)):zTo es=walk Tryz.prog ([(102,vX 99)]) 0 ([]) ([]) [] Tryz.f78 (Tryz.f78.body.getD .skip) (clWhC.pat es) (clWhC.pre es) (clWhC.alts es):=by kernel_rfl
theorem z7x (hG:GOk Tryz.prog ([(102,vX 99)])) (h:∀(es:List (Value×List D)),clWhC.cnd es→zTo es):clWhC.ok Tryz.prog 78:=bU mixed ([(102,vX 99)]) hG 0 (fun(es:List (Value×List D))=>[]) (fun(es:List (Value×List D))=>[]) [] Tryz.func78 (by kernel_rfl) (by kernel_rfl) (by kernel_rfl) (fun _=>by kernel_rfl) (fun(es:List (Value×List D)) hc=>Eq.mp (z9a es) (h es hc))
def z7l (a:Arena):Prop:=
 ∃(i:List Slot),List.map zK i=List.map zK a.slots∧i.length≤1000000∧∀(o:Unit),True→a.free=a.free∧True∧∃(i_1:List qJ),List.map zH i_1=List.map zH a.queues∧i_1.length≤1000000∧∀(o:Unit),True→a.free=a.free∧∃(o:Unit),a.free=a.free∧List.map zK a.slots=List.map zK i∧List.map zH a.queues=List.map zH i_1∧a.free=a.free∧List.map zK a.slots=List.map zK i∧List.map zH a.queues=List.map zH i_1∧True
theorem z0s (hG:GOk Tryz.prog ([(122,clSlotC),(123,clQueueC)])) (h:∀(a:Arena),copyAC.cnd a→z7l a):copyAC.ok Tryz.prog 103:=okw mixed hG 0 (fun _=>[]) (fun _=>[]) [0] Tryz.func103 h
def yBd (b:Book):Prop:=
 ∃(i:Arena),AObj.adt Arena 3 zD i=AObj.adt Arena 3 zD b.a∧(i.slots.length≤1000000∧i.queues.length≤1000000)∧∀(o:Unit),True→True∧True∧∃(i_1:List (Value×List D)),i_1=atE b.at_∧True∧∀(o:Unit),True→True∧∃(i_2:List Int),iE i_2=iE b.spare∧i_2.length≤1000000∧∀(o:Unit),True→∃(i_3:List y4),List.map zA i_3=List.map zA b.buys∧i_3.length≤1000000∧∀(o:Unit),True→∃(i_4:List y4),List.map zA i_4=List.map zA b.sells∧i_4.length≤1000000∧∀(o:Unit),True→∃(o:Unit),b.top1=b.top1∧b.top2=b.top2∧b.has1=b.has1∧b.has2=b.has2∧AObj.adt Arena 3 zD b.a=AObj.adt Arena 3 zD i∧List.map zA b.buys=List.map zA i_3∧List.map zA b.sells=List.map zA i_4∧atE b.at_=i_1∧iE b.spare=iE i_2∧b.top1=b.top1∧b.top2=b.top2∧b.has1=b.has1∧b.has2=b.has2∧AObj.adt Arena 3 zD b.a=AObj.adt Arena 3 zD i∧List.map zA b.buys=List.map zA i_3∧List.map zA b.sells=List.map zA i_4∧atE b.at_=i_1∧iE b.spare=iE i_2∧True
theorem z3y (hG:GOk Tryz.prog ([(103,copyAC),(104,clAtC),(58,clIntC),(105,clRungC)])) (h:∀(b:Book),copyBC.cnd b→yBd b):copyBC.ok Tryz.prog 79:=okw mixed hG 0 (fun _=>[]) (fun _=>yAa) [0] Tryz.func79 h
open Go Cv Go.Proofs
theorem yDe (n:Nat) (h:newAC.cnd n):zYg n:=by
 obtain⟨h1,h2⟩:1≤n∧n≤4096:=h
 unfold zYg
 refine zP (fun c=>by omega) fun c=>zP (fun c=>by omega) fun c=> ?_
 refine⟨⟨by omega,by omega,by omega,?_⟩,?_⟩
 ·have:(2:Int) ^ (48:Nat)=281474976710656:=by decide
  rw[this];omega
 ·refine⟨(),rfl,rfl,?_,rfl,trivial⟩
  rw[List.map_replicate];rfl
theorem z2n:newAC.ok Tryz.prog 95:=z8y gok0 yDe
theorem z1l:newBC.ok Tryz.prog 68:=z7f (gokc z2n gok0) fun u _=>by
 refine⟨250,rfl,⟨by omega,by omega⟩,?_⟩;exact kp
theorem yCr (p:Prd) (h:newSC.cnd p):z4z p:=by
 have hs:p.small:=h
 obtain⟨h1,h2,h3⟩:p.small:=h
 refine⟨p,?_⟩
 simp only[yY]
 (repeat'(first|exact rfl|exact trivial|assumption|apply And.intro|refine fun(_:Unit) (_:True)=>?_|refine Exists.intro () ?_|omega|(dsimp only;omega)))
 refine Cv.cnd.mk (fun c=> .inr ⟨(),trivial,kp,by simpa using c⟩) fun c=> ?_
 have c:p.check=0:=by simpa using c
 have hc:=xK p
 (repeat'(first|exact rfl|exact trivial|assumption|apply And.intro|refine fun(_:Unit) (_:True)=>?_|refine Exists.intro () ?_|omega|(dsimp only;omega)))
 all_goals(refine⟨p,?_⟩;(repeat'(first|exact rfl|exact trivial|assumption|apply And.intro|refine fun(_:Unit) (_:True)=>?_|refine Exists.intro () ?_|omega|(dsimp only;omega))))
 all_goals(refine⟨0,?_⟩;(repeat'(first|exact rfl|exact trivial|assumption|apply And.intro|refine fun(_:Unit) (_:True)=>?_|refine Exists.intro () ?_|omega|(dsimp only;omega))))
 all_goals(refine⟨fun j=>j≤p.count,fun j=>p.count-j,by omega,fun j hj=>zP (fun hlt=> ?_) (fun hlt=> ?_)⟩;all_goals dsimp only at hj hlt)
 all_goals first
  |(refine .inl ⟨(),?_⟩
    obtain rfl:j=p.count:=by omega
    (repeat'(first|exact rfl|exact trivial|assumption|apply And.intro|refine fun(_:Unit) (_:True)=>?_|refine Exists.intro () ?_|omega|(dsimp only;omega))))
  |(refine⟨(),trivial,fun _ _=>⟨trivial,trivial,List.replicate j book0,rfl,?_,j+1,?_⟩⟩
    ·rw[List.length_replicate];omega
    ·rw[w64 (by omega),← List.replicate_succ']
     (repeat'(first|exact rfl|exact trivial|assumption|apply And.intro|refine fun(_:Unit) (_:True)=>?_|refine Exists.intro () ?_|omega|(dsimp only;omega))))
theorem z2x:newSC.ok Tryz.prog 37:=yAi (gokc aL (gokc gM (gokc z1l gok0))) yCr
theorem zSi:clSlotC.ok Tryz.prog 122:=zUz gok0 fun l h=>by
 have h:l.length≤1000000:=h
 exact fun b hb=>Cv.cnd.mk (fun e=>⟨(),rfl,hb e,trivial⟩) (fun _=>⟨by rw[Nat.zero_add,List.length_map];omega,(),rfl,rfl,trivial⟩)
theorem zMp:clQueueC.ok Tryz.prog 123:=zRd gok0 fun l h=>by
 have h:l.length≤1000000:=h
 exact fun b hb=>Cv.cnd.mk (fun e=>⟨(),rfl,hb e,trivial⟩) (fun _=>⟨by rw[Nat.zero_add,List.length_map];omega,(),rfl,rfl,trivial⟩)
theorem zQl:clRungC.ok Tryz.prog 105:=zVv gok0 fun l h=>by
 have h:l.length≤1000000:=h
 exact fun b hb=>Cv.cnd.mk (fun e=>⟨(),rfl,hb e,trivial⟩) (fun _=>⟨by rw[Nat.zero_add,List.length_map];omega,(),rfl,rfl,trivial⟩)
theorem zYk:clIntC.ok Tryz.prog 58:=z0z gok0 fun l h=>by
 have h:l.length≤1000000:=h
 exact fun b hb=>Cv.cnd.mk (fun e=>⟨(),rfl,hb e,trivial⟩) (fun _=>⟨by rw[Nat.zero_add,yY];omega,(),rfl,rfl,trivial⟩)
theorem zCo (t:Nat):(vX t).ok Tryz.prog 102:=zKc Tryz.func102 (by kernel_rfl) (by kernel_rfl) (by kernel_rfl) (by kernel_rfl) t
theorem z3f:clAtC.ok Tryz.prog 104:=yAc (gokc (zCo _) gok0) fun es _=>by
 unfold zYw
 refine⟨es,?_⟩;exact kp
theorem z3w:clWhC.ok Tryz.prog 78:=z7x (gokc (zCo _) gok0) fun es _=>by
 unfold zTo
 refine⟨es,?_⟩;exact kp
theorem zXi:copyAC.ok Tryz.prog 103:=z0s (gokc zSi (gokc zMp gok0)) fun a h=>by
 obtain⟨h1,h2⟩:a.small:=h
 refine⟨a.slots,?_⟩;(repeat'(first|exact rfl|exact trivial|assumption|apply And.intro|refine fun(_:Unit) (_:True)=>?_|refine Exists.intro () ?_|omega|(dsimp only;omega)))
 refine⟨a.queues,?_⟩;exact kp
theorem zWh:copyBC.ok Tryz.prog 79:=z3y (gokc zXi (gokc z3f (gokc zYk (gokc zQl gok0)))) fun b h=>by
 obtain⟨⟨h1,h1'⟩,h2,h3,h4⟩:b.small:=h
 refine⟨b.a,?_⟩;(repeat'(first|exact rfl|exact trivial|assumption|apply And.intro|refine fun(_:Unit) (_:True)=>?_|refine Exists.intro () ?_|omega|(dsimp only;omega)))
 refine⟨atE b.at_,?_⟩;(repeat'(first|exact rfl|exact trivial|assumption|apply And.intro|refine fun(_:Unit) (_:True)=>?_|refine Exists.intro () ?_|omega|(dsimp only;omega)))
 refine⟨b.spare,?_⟩;(repeat'(first|exact rfl|exact trivial|assumption|apply And.intro|refine fun(_:Unit) (_:True)=>?_|refine Exists.intro () ?_|omega|(dsimp only;omega)))
 refine⟨b.buys,?_⟩;(repeat'(first|exact rfl|exact trivial|assumption|apply And.intro|refine fun(_:Unit) (_:True)=>?_|refine Exists.intro () ?_|omega|(dsimp only;omega)))
 refine⟨b.sells,?_⟩;exact kp
open Go Cv Go.Proofs
structure ArN where
 a:Arena
 n:Int
def Arena.qAt (a:Arena) (n:Int):qJ:=if 0≤n∧n<a.queues.length then a.queues.getD n.toNat ⟨0,0,0,0⟩else⟨0,0,0,0⟩
def atotalC:Con:=con1 ArN (fun i=>[.nm 0 0,zC i.n]) (fun i=>[qL i.a]) (fun i=>True) (fun i=>zC (i.a.qAt i.n).total) (fun i=>[qL i.a])
def acountC:Con:=con1 ArN (fun i=>[.nm 0 0,zC i.n]) (fun i=>[qL i.a]) (fun i=>True) (fun i=>zC (i.a.qAt i.n).count) (fun i=>[qL i.a])
def bisC:Con:=con1 Int (fun n=>[zC n]) (fun _=>[]) (fun _=>True) (fun n=>yL (decide (n=1)||decide (n=2))) (fun _=>[])
structure BkR where
 b:Book
 r:y4
def Book.told (b:Book) (r:y4):Lv:=⟨r.price,(b.a.qAt r.queue).total,(b.a.qAt r.queue).count⟩
@[reducible] def Book.cntOk (b:Book):Prop:=∀q∈b.a.queues,yN q.count
def toldC:Con:=con1 BkR (fun i=>[.nm 0 0,.agg [zC i.r.price,zC i.r.queue]]) (fun i=>[yC i.b]) (fun i=>i.b.cntOk) (fun i=>lvV (i.b.told i.r)) (fun i=>[yC i.b])
def Book.best (b:Book) (l:List y4):Lv×Bool:=match l with
 |[]=>(⟨0,0,0⟩,false)
 |r::_=>(b.told r,true)
structure BkS where
 side:Bool
 b:Book
def Book.side (b:Book) (s:Bool):List y4:=if s then b.sells else b.buys
@[reducible] def zKx (b:Book) (l:List y4):V:= .tup [lvV (b.best l).1,yL (b.best l).2]
def best1C:Con:=con1 Book (fun _=>[.nm 0 0,zC 1]) (fun b=>[yC b]) Book.cntOk (fun b=>zKx b b.buys) (fun b=>[yC b])
def best2C:Con:=con1 Book (fun _=>[.nm 0 0,zC 2]) (fun b=>[yC b]) Book.cntOk (fun b=>zKx b b.sells) (fun b=>[yC b])
def zB (s:Bool):Int:=if s then 2 else 1
def bestC:Con:=con1 BkS (fun i=>[.nm 0 0,zC (zB i.side)]) (fun i=>[yC i.b]) (fun i=>i.b.cntOk) (fun i=>zKx i.b (i.b.side i.side)) (fun i=>[yC i.b])
structure Top where
 has1:Bool
 has2:Bool
 p1:Int
 p2:Int
 q1:Int
 q2:Int
 deriving DecidableEq
def zR (t:Top):List D:=[.v (.bool t.has1),.v (.bool t.has2),.v (.int .i64 t.p1),.v (.int .i64 t.p2),.v (.int .i64 t.q1),.v (.int .i64 t.q2)]
def top0:Top:=⟨false,false,0,0,0,0⟩
def Top.buy (t:Top) (x:Lv×Bool):Top:=if x.2 then{t with has1:=true,p1:=x.1.price,q1:=x.1.qty}else t
def Top.sell (t:Top) (x:Lv×Bool):Top:=if x.2 then{t with has2:=true,p2:=x.1.price,q2:=x.1.qty}else t
def Book.top (b:Book):Top:=(top0.buy (b.best b.buys)).sell (b.best b.sells)
def MSt.tops (s:MSt):List Top:=s.books.map Book.top
@[reducible] def MSt.cntOk (s:MSt):Prop:=s.books.length≤1000000∧∀b∈s.books,b.cntOk
def yO (s:MSt) (j:Nat) (x:Top):List Top:=(s.tops.take j)++x::List.replicate (s.books.length-j-1) top0
def kO (s:MSt) (j:Nat):List Top:=(s.tops.take j)++List.replicate (s.books.length-j) top0
def yCy (s:MSt):List SAnn:=[
 {ι:=Nat,slots:=fun j=>[(3,.own 0),(21,zC j)],rows:=fun j=>[.own 55 6 ((kO s j).map zR)]},
 {ι:=Unit,slots:=fun _=>[],rows:=fun _=>[],un:=3}]
def yCw (s:MSt):List (Nat×SAnn):=[(15,{ι:=Nat×Top,slots:=fun x=>[(3,.own 0)],slots0:=fun x=>[(3,.own 0)],rows0:=fun x=>[.own 55 6 ((yO s x.1 x.2).map zR)],rows:=fun x=>[.own 55 6 ((yO s x.1 x.2).map zR)]})]
def yBc (s:MSt):List SAnn:=[{ι:=Nat,slots:=fun j=>[(3,.nm 0 0),(22,zC j)],rows:=fun j=>(List.range 5).map (yB ⟨s.p,s.books.take j,s.wh⟩)}]
open Go Cv Go.Proofs
def zQa (i:ArN):Prop:=
 cnd (decide (i.n≥0)) (cnd (!decide (i.n<(↑(List.map zH i.a.queues).length:Int))) (∃(o:Unit),(i.a.qAt i.n).total=0∧i.a.free=i.a.free∧List.map zK i.a.slots=List.map zK i.a.slots∧List.map zH i.a.queues=List.map zH i.a.queues∧True) ((0≤i.n∧i.n<(↑(List.map zH i.a.queues).length:Int))∧∃(n:Int),zI (List.map zH i.a.queues) i.n.toNat ((0:Nat)+(2:Nat)) 1=some [D.v (.int .i64 n)]∧∃(o:Unit),(i.a.qAt i.n).total=n∧i.a.free=i.a.free∧List.map zK i.a.slots=List.map zK i.a.slots∧List.map zH i.a.queues=List.map zH i.a.queues∧True)) (∃(o:Unit),(i.a.qAt i.n).total=0∧i.a.free=i.a.free∧List.map zK i.a.slots=List.map zK i.a.slots∧List.map zH i.a.queues=List.map zH i.a.queues∧True)
theorem zWp (hG:GOk Tryz.prog ([])) (h:∀(i:ArN),atotalC.cnd i→zQa i):atotalC.ok Tryz.prog 106:=okw mixed hG 1 (fun _=>[]) (fun _=>[]) [0] Tryz.func106 h
def zPa (i:ArN):Prop:=
 cnd (decide (i.n≥0)) (cnd (!decide (i.n<(↑(List.map zH i.a.queues).length:Int))) (∃(o:Unit),(i.a.qAt i.n).count=0∧i.a.free=i.a.free∧List.map zK i.a.slots=List.map zK i.a.slots∧List.map zH i.a.queues=List.map zH i.a.queues∧True) ((0≤i.n∧i.n<(↑(List.map zH i.a.queues).length:Int))∧∃(n:Int),zI (List.map zH i.a.queues) i.n.toNat ((0:Nat)+(3:Nat)) 1=some [D.v (.int .i64 n)]∧∃(o:Unit),(i.a.qAt i.n).count=n∧i.a.free=i.a.free∧List.map zK i.a.slots=List.map zK i.a.slots∧List.map zH i.a.queues=List.map zH i.a.queues∧True)) (∃(o:Unit),(i.a.qAt i.n).count=0∧i.a.free=i.a.free∧List.map zK i.a.slots=List.map zK i.a.slots∧List.map zH i.a.queues=List.map zH i.a.queues∧True)
theorem zZr (hG:GOk Tryz.prog ([])) (h:∀(i:ArN),acountC.cnd i→zPa i):acountC.ok Tryz.prog 107:=okw mixed hG 1 (fun _=>[]) (fun _=>[]) [0] Tryz.func107 h
def yCd (n:Int):Prop:=
 cnd (n==1) (∃(o:Unit),(decide (n=1)||decide (n=2))=true∧True) (∃(o:Unit),(decide (n=1)||decide (n=2))=(n==2)∧True)
theorem yBl (hG:GOk Tryz.prog ([])) (h:∀(n:Int),bisC.cnd n→yCd n):bisC.ok Tryz.prog 80:=okw mixed hG 0 (fun _=>[]) (fun _=>[]) [] Tryz.func80 h
def yCm (i:BkR):Prop:=
 ∃(i_1:ArN),i_1.n=i.r.queue∧AObj.adt Arena 3 zD i_1.a=AObj.adt Arena 3 zD i.b.a∧True∧∀(o:Unit),True→i.r.queue=i.r.queue∧True∧i.r.price=i.r.price∧∃(i_2:ArN),i_2.n=i.r.queue∧AObj.adt Arena 3 zD i_2.a=AObj.adt Arena 3 zD i_1.a∧True∧∀(o:Unit),True→i.r.price=i.r.price∧∃(o:Unit),i.r.price=i.r.price∧(i.b.a.qAt i.r.queue).total=(i_1.a.qAt i_1.n).total∧(i.b.a.qAt i.r.queue).count=(i_2.a.qAt i_2.n).count∧i.b.top1=i.b.top1∧i.b.top2=i.b.top2∧i.b.has1=i.b.has1∧i.b.has2=i.b.has2∧AObj.adt Arena 3 zD i.b.a=AObj.adt Arena 3 zD i_2.a∧List.map zA i.b.buys=List.map zA i.b.buys∧List.map zA i.b.sells=List.map zA i.b.sells∧atE i.b.at_=atE i.b.at_∧iE i.b.spare=iE i.b.spare∧True
theorem z7u (hG:GOk Tryz.prog ([(106,atotalC),(107,acountC)])) (h:∀(i:BkR),toldC.cnd i→yCm i):toldC.ok Tryz.prog 81:=okw mixed hG 0 (fun _=>[]) (fun _=>[]) [0] Tryz.func81 h
def z6o (b:Book):Prop:=
 ∃(i:Int),i=1∧True∧∀(o:Unit),True→cnd (!(decide (i=1)||decide (i=2))) (∃(o:Unit),(b.best b.buys).fst.price=0∧(b.best b.buys).fst.qty=0∧(b.best b.buys).fst.count=0∧(b.best b.buys).snd=false∧b.top1=b.top1∧b.top2=b.top2∧b.has1=b.has1∧b.has2=b.has2∧AObj.adt Arena 3 zD b.a=AObj.adt Arena 3 zD b.a∧List.map zA b.buys=List.map zA b.buys∧List.map zA b.sells=List.map zA b.sells∧atE b.at_=atE b.at_∧iE b.spare=iE b.spare∧True) (cnd ((↑(List.map zA b.buys).length:Int)==0) (∃(o:Unit),(b.best b.buys).fst.price=0∧(b.best b.buys).fst.qty=0∧(b.best b.buys).fst.count=0∧(b.best b.buys).snd=false∧b.top1=b.top1∧b.top2=b.top2∧b.has1=b.has1∧b.has2=b.has2∧AObj.adt Arena 3 zD b.a=AObj.adt Arena 3 zD b.a∧List.map zA b.buys=List.map zA b.buys∧List.map zA b.sells=List.map zA b.sells∧atE b.at_=atE b.at_∧iE b.spare=iE b.spare∧True) (((0:Int)≤(0:Int)∧0<(↑(List.map zA b.buys).length:Int))∧∃(n:Int),∃(n_1:Int),zI (List.map zA b.buys) (Int.toNat 0) 0 2=some [D.v (.int .i64 n),D.v (.int .i64 n_1)]∧∃(i:BkR),i.r.price=n∧i.r.queue=n_1∧i.b.top1=b.top1∧i.b.top2=b.top2∧i.b.has1=b.has1∧i.b.has2=b.has2∧AObj.adt Arena 3 zD i.b.a=AObj.adt Arena 3 zD b.a∧List.map zA i.b.buys=List.map zA b.buys∧List.map zA i.b.sells=List.map zA b.sells∧atE i.b.at_=atE b.at_∧iE i.b.spare=iE b.spare∧(∀(q:qJ),q∈i.b.a.queues→(-9223372036854775808)≤q.count∧q.count≤9223372036854775807)∧∀(o:Unit),True→∃(o:Unit),(b.best b.buys).fst.price=i.r.price∧(b.best b.buys).fst.qty=(i.b.a.qAt i.r.queue).total∧(b.best b.buys).fst.count=(i.b.a.qAt i.r.queue).count∧(b.best b.buys).snd=true∧yC b=yC i.b∧True))
theorem z4c (hG:GOk Tryz.prog ([(80,bisC),(81,toldC)])) (h:∀(b:Book),best1C.cnd b→z6o b):best1C.ok Tryz.prog 49:=okw mixed hG 0 (fun _=>[]) (fun _=>[]) [0] Tryz.func49 h
def z6j (b:Book):Prop:=
 ∃(i:Int),i=2∧True∧∀(o:Unit),True→cnd (!(decide (i=1)||decide (i=2))) (∃(o:Unit),(b.best b.sells).fst.price=0∧(b.best b.sells).fst.qty=0∧(b.best b.sells).fst.count=0∧(b.best b.sells).snd=false∧b.top1=b.top1∧b.top2=b.top2∧b.has1=b.has1∧b.has2=b.has2∧AObj.adt Arena 3 zD b.a=AObj.adt Arena 3 zD b.a∧List.map zA b.buys=List.map zA b.buys∧List.map zA b.sells=List.map zA b.sells∧atE b.at_=atE b.at_∧iE b.spare=iE b.spare∧True) (cnd ((↑(List.map zA b.sells).length:Int)==0) (∃(o:Unit),(b.best b.sells).fst.price=0∧(b.best b.sells).fst.qty=0∧(b.best b.sells).fst.count=0∧(b.best b.sells).snd=false∧b.top1=b.top1∧b.top2=b.top2∧b.has1=b.has1∧b.has2=b.has2∧AObj.adt Arena 3 zD b.a=AObj.adt Arena 3 zD b.a∧List.map zA b.buys=List.map zA b.buys∧List.map zA b.sells=List.map zA b.sells∧atE b.at_=atE b.at_∧iE b.spare=iE b.spare∧True) (((0:Int)≤(0:Int)∧0<(↑(List.map zA b.sells).length:Int))∧∃(n:Int),∃(n_1:Int),zI (List.map zA b.sells) (Int.toNat 0) 0 2=some [D.v (.int .i64 n),D.v (.int .i64 n_1)]∧∃(i:BkR),i.r.price=n∧i.r.queue=n_1∧i.b.top1=b.top1∧i.b.top2=b.top2∧i.b.has1=b.has1∧i.b.has2=b.has2∧AObj.adt Arena 3 zD i.b.a=AObj.adt Arena 3 zD b.a∧List.map zA i.b.buys=List.map zA b.buys∧List.map zA i.b.sells=List.map zA b.sells∧atE i.b.at_=atE b.at_∧iE i.b.spare=iE b.spare∧(∀(q:qJ),q∈i.b.a.queues→(-9223372036854775808)≤q.count∧q.count≤9223372036854775807)∧∀(o:Unit),True→∃(o:Unit),(b.best b.sells).fst.price=i.r.price∧(b.best b.sells).fst.qty=(i.b.a.qAt i.r.queue).total∧(b.best b.sells).fst.count=(i.b.a.qAt i.r.queue).count∧(b.best b.sells).snd=true∧yC b=yC i.b∧True))
theorem z0o (hG:GOk Tryz.prog ([(80,bisC),(81,toldC)])) (h:∀(b:Book),best2C.cnd b→z6j b):best2C.ok Tryz.prog 49:=okw mixed hG 0 (fun _=>[]) (fun _=>[]) [0] Tryz.func49 h
@[reducible] def zGz (s:MSt):AObj:=Sx.AObj.cells (uC (jL (0:Nat) (1:Nat) (5:Nat)) [sV s.p.code,V.own (3:Nat),zC s.p.tick,zC s.p.low,zC s.p.high,zC s.p.wide,zC s.p.rule,zC s.p.top,zC s.p.least,zC s.p.part,V.own (4:Nat),V.own (1:Nat),V.mp (2:Nat)]) (101:TypeId)
def z9i (s:MSt):Prop:=
 ∃(i:List (Value×List D)),i=yD s.wh∧True∧∀(o:Unit),True→(sb s.p.code=sb s.p.code∧True∧s.p.tick=s.p.tick∧s.p.low=s.p.low∧s.p.high=s.p.high∧s.p.wide=s.p.wide∧s.p.rule=s.p.rule∧s.p.top=s.p.top∧s.p.least=s.p.least∧s.p.part=s.p.part∧True∧True)∧∃(i0:Nat),(↑i0:Int)=0∧sb s.p.code=sb s.p.code∧s.p.tick=s.p.tick∧s.p.low=s.p.low∧s.p.high=s.p.high∧s.p.wide=s.p.wide∧s.p.rule=s.p.rule∧s.p.top=s.p.top∧s.p.least=s.p.least∧s.p.part=s.p.part∧List.take i0 s.books=[]∧(none:Option Nat)=none∧yD s.wh=i∧AObj.fro 1 (iE s.p.months)=AObj.fro 1 (iE s.p.months)∧AObj.fro 1 (iE s.p.settle)=AObj.fro 1 (iE s.p.settle)∧∃(I:Nat→Prop),∃(μ:Nat→Nat),I i0∧∀(i_1:Nat),I i_1→cnd (decide ((↑i_1:Int)<(↑s.books.length:Int))) ((0≤(↑i_1:Int)∧(↑i_1:Int)<(↑s.books.length:Int))∧(↑i_1:Int).toNat<s.books.length∧∃(x:Book),s.books[(↑i_1:Int).toNat]?=some x∧∃(i_2:Book),yC i_2=yC x∧((i_2.a.slots.length≤1000000∧i_2.a.queues.length≤1000000)∧i_2.buys.length≤1000000∧i_2.sells.length≤1000000∧i_2.spare.length≤1000000)∧∀(o:Unit),True→∃(x:Book),yC i_2=yC x∧(↑i_1:Int).toNat=(↑i_1:Int).toNat∧(↑i_1:Int).toNat<s.books.length∧True∧True∧∃(l1':List Book),AObj.objs 102 Book 6 zM (List.take i_1 s.books) none=AObj.objs 102 Book 6 zM l1' none∧(l1'.length+1)*(8:Nat)≤(70368744177664:Nat)∧∃(i':Nat),(↑i':Int)=IntKind.i64.wrap ((↑i_1:Int)+1)∧sb s.p.code=sb s.p.code∧s.p.tick=s.p.tick∧s.p.low=s.p.low∧s.p.high=s.p.high∧s.p.wide=s.p.wide∧s.p.rule=s.p.rule∧s.p.top=s.p.top∧s.p.least=s.p.least∧s.p.part=s.p.part∧AObj.objs 102 Book 6 zM (List.take i' s.books) none=AObj.objs 102 Book 6 zM (l1'++[i_2]) none∧yD s.wh=yD s.wh∧AObj.fro 1 (iE s.p.months)=AObj.fro 1 (iE s.p.months)∧AObj.fro 1 (iE s.p.settle)=AObj.fro 1 (iE s.p.settle)∧I i'∧μ i'<μ i_1∧Sx.AObj.map i=Sx.AObj.map i∧zGz s=zGz s∧AObj.objs 102 Book 6 zM (s.books.set (↑i_1:Int).toNat x) none=AObj.objs 102 Book 6 zM s.books none∧AObj.fro 1 (iE s.p.months)=AObj.fro 1 (iE s.p.months)∧AObj.fro 1 (iE s.p.settle)=AObj.fro 1 (iE s.p.settle)) (∃(o:Unit),sb s.p.code=sb s.p.code∧s.p.tick=s.p.tick∧s.p.low=s.p.low∧s.p.high=s.p.high∧s.p.wide=s.p.wide∧s.p.rule=s.p.rule∧s.p.top=s.p.top∧s.p.least=s.p.least∧s.p.part=s.p.part∧AObj.objs 102 Book 6 zM s.books none=AObj.objs 102 Book 6 zM s.books none∧yD s.wh=i∧AObj.fro 1 (iE s.p.months)=AObj.fro 1 (iE s.p.months)∧AObj.fro 1 (iE s.p.settle)=AObj.fro 1 (iE s.p.settle)∧sb s.p.code=sb s.p.code∧s.p.tick=s.p.tick∧s.p.low=s.p.low∧s.p.high=s.p.high∧s.p.wide=s.p.wide∧s.p.rule=s.p.rule∧s.p.top=s.p.top∧s.p.least=s.p.least∧s.p.part=s.p.part∧AObj.objs 102 Book 6 zM s.books none=AObj.objs 102 Book 6 zM (List.take i_1 s.books) none∧yD s.wh=yD s.wh∧AObj.fro 1 (iE s.p.months)=AObj.fro 1 (iE s.p.months)∧AObj.fro 1 (iE s.p.settle)=AObj.fro 1 (iE s.p.settle)∧True)
theorem z3u (hG:GOk Tryz.prog ([(78,clWhC),(79,copyBC)])) (h:∀(s:MSt),copySC.cnd s→z9i s):copySC.ok Tryz.prog 48:=okw mixed hG 0 (fun _=>[]) (fun s=>yBc s) [0] Tryz.func48 h
open Go Cv Go.Proofs
theorem elA {α:Type} {f:α→List D} {l:List α} {i g n:Nat} {x:α} {r:List D} (h:l[i]? =some x) (hn:g+n≤(f x).length) (hr:((f x).drop g).take n=r):zI (l.map f) i g n=some r:=by
 unfold zI
 rw[List.getElem?_map,h]
 simp only[Option.map_some,Nat.ble_eq_true_of_le hn,cond_true,hr]
theorem zCt {a:Arena} {n:Int} {q:qJ} (h0:0≤n) (h:a.queues[n.toNat]? =some q):a.qAt n=q:=by
 have:=(List.getElem?_eq_some_iff.1 h).1
 rw[Arena.qAt,if_pos ⟨h0,by omega⟩,List.getD_eq_getElem?_getD,h];rfl
theorem p8 {a:Arena} {n:Int} (h:¬(0≤n∧n<a.queues.length)):a.qAt n=⟨0,0,0,0⟩:=by rw[Arena.qAt,if_neg h]
theorem zQx:atotalC.ok Tryz.prog 106:=zWp gok0 fun i _=>by
 unfold zQa
 simp only[List.length_map]
 refine zP (fun c=>Cv.cnd.mk (fun d=> ?_) (fun d=> ?_)) (fun c=> ?_)
 ·have d:¬i.n<(i.a.queues.length:Int):=by simpa using d
  rw[p8 (by omega)];exact kp
 ·have d:i.n<(i.a.queues.length:Int):=by simpa using d
  obtain⟨q,hq⟩:=yG (l:=i.a.queues) (i:=i.n.toNat) (by omega)
  rw[zCt (by omega) hq]
  refine⟨⟨by omega,by omega⟩,q.total,elA hq (by simp[zH]) rfl,?_⟩;exact kp
 ·rw[p8 (by omega)];exact kp
theorem nI:acountC.ok Tryz.prog 107:=zZr gok0 fun i _=>by
 unfold zPa
 simp only[List.length_map]
 refine zP (fun c=>Cv.cnd.mk (fun d=> ?_) (fun d=> ?_)) (fun c=> ?_)
 ·have d:¬i.n<(i.a.queues.length:Int):=by simpa using d
  rw[p8 (by omega)];exact kp
 ·have d:i.n<(i.a.queues.length:Int):=by simpa using d
  obtain⟨q,hq⟩:=yG (l:=i.a.queues) (i:=i.n.toNat) (by omega)
  rw[zCt (by omega) hq]
  refine⟨⟨by omega,by omega⟩,q.count,elA hq (by simp[zH]) rfl,?_⟩;exact kp
 ·rw[p8 (by omega)];exact kp
theorem nA:bisC.ok Tryz.prog 80:=yBl gok0 fun n _=>by
 unfold yCd
 refine Cv.cnd.mk (fun c=>⟨(),?_,trivial⟩) (fun c=>⟨(),?_,trivial⟩)
 all_goals simp at c
 ·simp[c]
 ·by_cases h:n=2<;>simp[c,h]
theorem zQk:toldC.ok Tryz.prog 81:=z7u (gokc zQx (gokc nI gok0)) fun i h=>by
 refine⟨⟨i.b.a,i.r.queue⟩,?_⟩;(repeat'(first|exact rfl|exact trivial|assumption|apply And.intro|refine fun(_:Unit) (_:True)=>?_|refine Exists.intro () ?_|omega|(dsimp only;omega)))
 refine⟨⟨i.b.a,i.r.queue⟩,?_⟩;exact kp
theorem zYu:best1C.ok Tryz.prog 49:=z4c (gokc nA (gokc zQk gok0)) fun b h=>by
 have h:b.cntOk:=h
 refine⟨1,rfl,trivial,fun _ _=>Cv.cnd.mk (fun c=>absurd c (by decide)) fun _=> ?_⟩
 simp only[List.length_map]
 refine Cv.cnd.mk (fun c=> ?_) (fun c=> ?_)
 ·have hl:b.buys=[]:=List.eq_nil_of_length_eq_zero (by have:(b.buys.length:Int)=0:=(by simpa using c);omega)
  have e:b.best b.buys=(⟨0,0,0⟩,false):=by rw[hl];rfl
  rw[e];exact kp
 ·obtain⟨r,l,hl⟩:∃r l,b.buys=r::l:=by
   cases hb:b.buys with
   |nil=>rw[hb]at c;exact absurd c (by decide)
   |cons r l=>exact⟨r,l,rfl⟩
  have e:b.best b.buys=(b.told r,true):=by rw[hl];rfl
  rw[e]
  refine⟨⟨by omega,by rw[hl,List.length_cons];omega⟩,r.price,r.queue,elA (x:=r) (by rw[hl];rfl) (by simp[zA]) rfl,⟨b,r⟩,?_⟩
  exact kp
theorem zWs:best2C.ok Tryz.prog 49:=z0o (gokc nA (gokc zQk gok0)) fun b h=>by
 have h:b.cntOk:=h
 refine⟨2,rfl,trivial,fun _ _=>Cv.cnd.mk (fun c=>absurd c (by decide)) fun _=> ?_⟩
 simp only[List.length_map]
 refine Cv.cnd.mk (fun c=> ?_) (fun c=> ?_)
 ·have hl:b.sells=[]:=List.eq_nil_of_length_eq_zero (by have:(b.sells.length:Int)=0:=(by simpa using c);omega)
  have e:b.best b.sells=(⟨0,0,0⟩,false):=by rw[hl];rfl
  rw[e];exact kp
 ·obtain⟨r,l,hl⟩:∃r l,b.sells=r::l:=by
   cases hb:b.sells with
   |nil=>rw[hb]at c;exact absurd c (by decide)
   |cons r l=>exact⟨r,l,rfl⟩
  have e:b.best b.sells=(b.told r,true):=by rw[hl];rfl
  rw[e]
  refine⟨⟨by omega,by rw[hl,List.length_cons];omega⟩,r.price,r.queue,elA (x:=r) (by rw[hl];rfl) (by simp[zA]) rfl,⟨b,r⟩,?_⟩
  exact kp
theorem zDs:bestC.ok Tryz.prog 49:=fun i=>match i with
 |⟨false,b⟩=>zYu b
 |⟨true,b⟩=>zWs b
theorem rT {α:Type} (f:α→α) (x:α) (b:List α):∀a:List α,(a++x::b).modify a.length f=a++f x::b
 |[]=>rfl
 |y::a=>by
  show y::(a++x::b).modify a.length f=_
  rw[rT f x b a];rfl
theorem zAu {els:List (List D)} {a b:List (List D)} {x y ds:List D} {j f:Nat} (h:els=a++x::b) (hl:a.length=j) (hy:x.take f++(ds++x.drop (f+ds.length))=y):zJ els j f ds=a++y::b:=by
 rw[zJ,h,← hl,rT,hy]
theorem wY {s:MSt} {j:Nat} {x y:Top} {f:Nat} {ds:List D} (hj:j<s.books.length) (hy:(zR x).take f++(ds++(zR x).drop (f+ds.length))=zR y):
 zJ (List.map zR (yO s j x)) j f ds=List.map zR (yO s j y):=by
 rw[zAu (a:=(s.tops.take j).map zR) (b:=(List.replicate (s.books.length-j-1) top0).map zR) (by rw[yO,List.map_append,List.map_cons]) (by
  rw[List.length_map,List.length_take,MSt.tops,List.length_map];omega) hy,yO,List.map_append,List.map_cons]
theorem zKm {s:MSt} {j:Nat} {x:Top} (hj:j<s.books.length):(yO s j x).length=s.books.length:=by
 rw[yO,List.length_append,List.length_cons,List.length_take,MSt.tops,List.length_map,List.length_replicate];omega
theorem zFw {s:MSt} {j:Nat} (hj:j<s.books.length):yO s j top0=kO s j:=by
 rw[yO,kO]
 obtain⟨m,hm⟩:∃m,s.books.length-j=m+1:=⟨s.books.length-j-1,by omega⟩
 rw[hm,List.replicate_succ];rfl
theorem zIb {s:MSt} {j:Nat} {b:Book} (hb:s.books[j]? =some b):yO s j b.top=kO s (j+1):=by
 have hj:=(List.getElem?_eq_some_iff.1 hb).1
 rw[yO,kO,List.take_add_one,show s.tops[j]? =some b.top by rw[MSt.tops,List.getElem?_map,hb];rfl]
 simp only[Option.toList_some,List.append_assoc,List.cons_append,List.nil_append]
 rw[show s.books.length-j-1=s.books.length-(j+1)by omega]
theorem dH {α:Type} {l:List α} {j:Nat} {x:α} (h:l[j]? =some x):l.set j x=l:=by
 obtain⟨hj,rfl⟩:=List.getElem?_eq_some_iff.1 h
 exact List.set_getElem_self hj
theorem tT:copySC.ok Tryz.prog 48:=z3u (gokc z3w (gokc zWh gok0)) fun s h=>by
 obtain⟨h1,h2⟩:s.small:=h
 refine⟨yD s.wh,?_⟩;(repeat'(first|exact rfl|exact trivial|assumption|apply And.intro|refine fun(_:Unit) (_:True)=>?_|refine Exists.intro () ?_|omega|(dsimp only;omega)))
 refine⟨0,?_⟩;(repeat'(first|exact rfl|exact trivial|assumption|apply And.intro|refine fun(_:Unit) (_:True)=>?_|refine Exists.intro () ?_|omega|(dsimp only;omega)))
 refine⟨fun j=>j≤s.books.length,fun j=>s.books.length-j,by omega,fun j hj=>zP (fun hlt=> ?_) (fun hlt=> ?_)⟩
 ·obtain⟨b,hb⟩:=yG (l:=s.books) (i:=j) (by omega)
  have hs:=h2 b (List.mem_of_getElem? hb)
  simp only[Int.toNat_natCast]
  refine⟨⟨by omega,by omega⟩,by omega,b,hb,b,rfl,hs,fun _ _=>⟨b,rfl,kp,by omega,trivial,trivial,s.books.take j,rfl,?_,j+1,?_⟩⟩
  ·rw[List.length_take];omega
  ·rw[w64 (by omega),List.take_add_one,hb]
   (repeat'(first|exact rfl|exact trivial|assumption|apply And.intro|refine fun(_:Unit) (_:True)=>?_|refine Exists.intro () ?_|omega|(dsimp only;omega)))
   rw[dH hb]
 ·have hj:j≤s.books.length:=hj
  obtain rfl:j=s.books.length:=by omega
  rw[List.take_of_length_le (Nat.le_refl _)]
  exact kp
open Go Cv Go.Proofs
structure Leg where
 inst:Int
 side:Int
 deriving DecidableEq
structure Quote where
 price:Int
 qty:Int
 a:Leg
 b:Leg
 deriving DecidableEq
def zG (q:Quote):List D:=[.v (.int .i64 q.price),.v (.int .i64 q.qty),.v (.int .i64 q.a.inst),.v (.int .i64 q.a.side),.v (.int .i64 q.b.inst),.v (.int .i64 q.b.side)]
@[reducible] def zJo (q:Quote):V:= .agg [zC q.price,zC q.qty,zC q.a.inst,zC q.a.side,zC q.b.inst,zC q.b.side]
def z7o:Quote:=⟨0,0,⟨0,0⟩,⟨0,0⟩⟩
structure I3' where
 side:Int
 x:Int
 y:Int
def btr (side x y:Int):Bool:=if side=1 then decide (y<x)else decide (x<y)
def iotherC:Con:=con1 Int (fun n=>[zC n]) (fun _=>[]) (fun n=>n=1∨n=2) (fun n=>zC (3-n)) (fun _=>[])
def ibetterC:Con:=con1 I3' (fun i=>[zC i.side,zC i.x,zC i.y]) (fun _=>[]) (fun _=>True) (fun i=>yL (btr i.side i.x i.y)) (fun _=>[])
structure CrI where
 x:Int
 y:Int
 b:Bool
def Top.has (t:Top) (s:Int):Bool:=if s=1 then t.has1 else t.has2
def Top.price (t:Top) (s:Int):Int:=if s=1 then t.p1 else t.p2
def Top.qty (t:Top) (s:Int):Int:=if s=1 then t.q1 else t.q2
def mkq (tops:List Top) (a b:Leg) (less:Bool):List Quote:=
 let x:=tops.getD a.inst.toNat top0
 let y:=tops.getD b.inst.toNat top0
 let r:=if less then jJ (y.price b.side) (x.price a.side)else jH (x.price a.side) (y.price b.side)
 if x.has a.side && y.has b.side && r.2 then[⟨r.1,min (x.qty a.side) (y.qty b.side),a,b⟩]else[]
structure MkI where
 tops:List Top
 out:List Quote
 a:Int
 b:Int
 less:Bool
@[reducible] def k7 (l:List Top):Prop:=l.length≤1000000∧∀t∈l,yN t.p1∧yN t.p2
def MkU (x:List Top×List Quote):Nat→AObj
 |0=> .cells [.own 1,.own 2] 110
 |1=> .fro 6 (x.1.map zR)
 |2=> .own 62 6 (x.2.map zG)
 |_=> .gone
@[reducible] def MkR (tops:List Top) (out:List Quote):List AObj:=[MkU (tops,out) 0,MkU (tops,out) 1,MkU (tops,out) 2]
@[reducible] def MkP (tops:List Top) (out:List Quote):List AObj:=[.cells [.own 1,.own 3] 110,MkU (tops,out) 1,.gone,MkU (tops,out) 2]
def mkC (sa sb:Int):Con:=con1 MkI (fun i=>[.nm 0 0,.agg [zC i.a,zC sa],.agg [zC i.b,zC sb],yL i.less]) (fun i=>MkR i.tops i.out)
 (fun i=>0≤i.a∧i.a<i.tops.length∧0≤i.b∧i.b<i.tops.length∧k7 i.tops∧i.out.length≤1000) (fun _=>zFr) (fun i=>MkP i.tops (i.out++mkq i.tops ⟨i.a,sa⟩ ⟨i.b,sb⟩ i.less))
def mk11:Con:=mkC 1 1
def mk12:Con:=mkC 1 2
def mk21:Con:=mkC 2 1
def mk22:Con:=mkC 2 2
open Go Cv Go.Proofs
def z3t (n:Int):Prop:=
 ∃(o:Unit),3-n=IntKind.i64.wrap (3-n)∧True
theorem zXs (hG:GOk Tryz.prog ([])) (h:∀(n:Int),iotherC.cnd n→z3t n):iotherC.ok Tryz.prog 52:=okw mixed hG 0 (fun _=>[]) (fun _=>[]) [] Tryz.func52 h
def zWf (i:I3'):Prop:=
 cnd (i.side==1) (∃(o:Unit),btr i.side i.x i.y=decide (i.x>i.y)∧True) (∃(o:Unit),btr i.side i.x i.y=decide (i.x<i.y)∧True)
theorem zSm (hG:GOk Tryz.prog ([])) (h:∀(i:I3'),ibetterC.cnd i→zWf i):ibetterC.ok Tryz.prog 94:=okw mixed hG 0 (fun _=>[]) (fun _=>[]) [] Tryz.func94 h
@[reducible] def zFl (i:MkI) (b:Bool) (n:Int) (n_2:Int) (n_4:Int) (n_6:Int):Prop:=∃(i_1:I2),i_1.x=n∧i_1.y=n_4∧(((-9223372036854775808)≤i_1.x∧i_1.x≤9223372036854775807)∧(-9223372036854775808)≤i_1.y∧i_1.y≤9223372036854775807)∧∀(o:Unit),True→cnd i.less (∃(i_2:I2),i_2.x=n_4∧i_2.y=n∧(((-9223372036854775808)≤i_2.x∧i_2.x≤9223372036854775807)∧(-9223372036854775808)≤i_2.y∧i_2.y≤9223372036854775807)∧∀(o:Unit),True→cnd (jJ i_2.x i_2.y).snd (True∧((List.map zG i.out).length+1)*(48:Nat)≤(70368744177664:Nat)∧∃(o:Unit),AObj.fro 6 (List.map zR i.tops)=MkU (i.tops,i.out) 1∧List.map zG (i.out++mkq i.tops (Leg.mk i.a 1) (Leg.mk i.b 1) i.less)=List.map zG i.out++[[D.v (.int .i64 (jJ i_2.x i_2.y).fst),D.v (.int .i64 (min n_2 n_6)),D.v (.int .i64 i.a),D.v (.int .i64 1),D.v (.int .i64 i.b),D.v (.int .i64 1)]]∧True) (∃(o:Unit),AObj.fro 6 (List.map zR i.tops)=MkU (i.tops,i.out) 1∧List.map zG (i.out++mkq i.tops (Leg.mk i.a 1) (Leg.mk i.b 1) i.less)=List.map zG i.out∧True)) (cnd (jH i_1.x i_1.y).snd (True∧((List.map zG i.out).length+1)*(48:Nat)≤(70368744177664:Nat)∧∃(o:Unit),AObj.fro 6 (List.map zR i.tops)=MkU (i.tops,i.out) 1∧List.map zG (i.out++mkq i.tops (Leg.mk i.a 1) (Leg.mk i.b 1) i.less)=List.map zG i.out++[[D.v (.int .i64 (jH i_1.x i_1.y).fst),D.v (.int .i64 (min n_2 n_6)),D.v (.int .i64 i.a),D.v (.int .i64 1),D.v (.int .i64 i.b),D.v (.int .i64 1)]]∧True) (∃(o:Unit),AObj.fro 6 (List.map zR i.tops)=MkU (i.tops,i.out) 1∧List.map zG (i.out++mkq i.tops (Leg.mk i.a 1) (Leg.mk i.b 1) i.less)=List.map zG i.out∧True))
@[reducible] def aJ (i:MkI) (b:Bool):Prop:=∃(o:Unit),AObj.fro 6 (List.map zR i.tops)=MkU (i.tops,i.out) 1∧List.map zG (i.out++mkq i.tops (Leg.mk i.a 1) (Leg.mk i.b 1) i.less)=List.map zG i.out∧True
def zWv (i:MkI):Prop:=
 (0≤i.a∧i.a<(↑(List.map zR i.tops).length:Int))∧∃(b:Bool),∃(b_1:Bool),∃(n:Int),∃(n_1:Int),∃(n_2:Int),∃(n_3:Int),zI (List.map zR i.tops) i.a.toNat 0 6=some [D.v (.bool b),D.v (.bool b_1),D.v (.int .i64 n),D.v (.int .i64 n_1),D.v (.int .i64 n_2),D.v (.int .i64 n_3)]∧(0≤i.b∧i.b<(↑(List.map zR i.tops).length:Int))∧∃(b_2:Bool),∃(b_3:Bool),∃(n_4:Int),∃(n_5:Int),∃(n_6:Int),∃(n_7:Int),zI (List.map zR i.tops) i.b.toNat 0 6=some [D.v (.bool b_2),D.v (.bool b_3),D.v (.int .i64 n_4),D.v (.int .i64 n_5),D.v (.int .i64 n_6),D.v (.int .i64 n_7)]∧(True∧((0≤i.b∧i.b<(↑(List.map zR i.tops).length:Int))∧i.b.toNat=i.b.toNat)∧i.b=i.b∧True∧True∧((0≤i.a∧i.a<(↑(List.map zR i.tops).length:Int))∧i.a.toNat=i.a.toNat)∧i.a=i.a∧True∧True∧((0≤i.b∧i.b<(↑(List.map zR i.tops).length:Int))∧i.b.toNat=i.b.toNat)∧i.b=i.b∧True∧True∧((0≤i.a∧i.a<(↑(List.map zR i.tops).length:Int))∧i.a.toNat=i.a.toNat)∧i.a=i.a∧True∧True∧((0≤i.b∧i.b<(↑(List.map zR i.tops).length:Int))∧i.b.toNat=i.b.toNat)∧i.b=i.b∧True∧cnd (!b) (aJ i b) (cnd (!b_2) (aJ i b) (zFl i b n n_2 n_4 n_6)))∧True∧((0≤i.b∧i.b<(↑(List.map zR i.tops).length:Int))∧i.b.toNat=i.b.toNat)∧i.b=i.b∧True∧True∧((0≤i.a∧i.a<(↑(List.map zR i.tops).length:Int))∧i.a.toNat=i.a.toNat)∧i.a=i.a∧True∧True∧((0≤i.b∧i.b<(↑(List.map zR i.tops).length:Int))∧i.b.toNat=i.b.toNat)∧i.b=i.b∧True∧True∧((0≤i.a∧i.a<(↑(List.map zR i.tops).length:Int))∧i.a.toNat=i.a.toNat)∧i.a=i.a∧True∧True∧((0≤i.b∧i.b<(↑(List.map zR i.tops).length:Int))∧i.b.toNat=i.b.toNat)∧i.b=i.b∧True∧cnd (!b) (aJ i b) (cnd (!b_2) (aJ i b) (zFl i b n n_2 n_4 n_6))
theorem z9r (hG:GOk Tryz.prog ([(87,addC),(88,subC)])) (h:∀(i:MkI),mk11.cnd i→zWv i):mk11.ok Tryz.prog 53:=okw mixed hG 0 (fun _=>[]) (fun _=>[]) [] Tryz.func53 h
@[reducible] def zCu (i:MkI) (b:Bool) (n:Int) (n_2:Int) (n_5:Int) (n_7:Int):Prop:=∃(i_1:I2),i_1.x=n∧i_1.y=n_5∧(((-9223372036854775808)≤i_1.x∧i_1.x≤9223372036854775807)∧(-9223372036854775808)≤i_1.y∧i_1.y≤9223372036854775807)∧∀(o:Unit),True→cnd i.less (∃(i_2:I2),i_2.x=n_5∧i_2.y=n∧(((-9223372036854775808)≤i_2.x∧i_2.x≤9223372036854775807)∧(-9223372036854775808)≤i_2.y∧i_2.y≤9223372036854775807)∧∀(o:Unit),True→cnd (jJ i_2.x i_2.y).snd (True∧((List.map zG i.out).length+1)*(48:Nat)≤(70368744177664:Nat)∧∃(o:Unit),AObj.fro 6 (List.map zR i.tops)=MkU (i.tops,i.out) 1∧List.map zG (i.out++mkq i.tops (Leg.mk i.a 1) (Leg.mk i.b 2) i.less)=List.map zG i.out++[[D.v (.int .i64 (jJ i_2.x i_2.y).fst),D.v (.int .i64 (min n_2 n_7)),D.v (.int .i64 i.a),D.v (.int .i64 1),D.v (.int .i64 i.b),D.v (.int .i64 2)]]∧True) (∃(o:Unit),AObj.fro 6 (List.map zR i.tops)=MkU (i.tops,i.out) 1∧List.map zG (i.out++mkq i.tops (Leg.mk i.a 1) (Leg.mk i.b 2) i.less)=List.map zG i.out∧True)) (cnd (jH i_1.x i_1.y).snd (True∧((List.map zG i.out).length+1)*(48:Nat)≤(70368744177664:Nat)∧∃(o:Unit),AObj.fro 6 (List.map zR i.tops)=MkU (i.tops,i.out) 1∧List.map zG (i.out++mkq i.tops (Leg.mk i.a 1) (Leg.mk i.b 2) i.less)=List.map zG i.out++[[D.v (.int .i64 (jH i_1.x i_1.y).fst),D.v (.int .i64 (min n_2 n_7)),D.v (.int .i64 i.a),D.v (.int .i64 1),D.v (.int .i64 i.b),D.v (.int .i64 2)]]∧True) (∃(o:Unit),AObj.fro 6 (List.map zR i.tops)=MkU (i.tops,i.out) 1∧List.map zG (i.out++mkq i.tops (Leg.mk i.a 1) (Leg.mk i.b 2) i.less)=List.map zG i.out∧True))
@[reducible] def aT (i:MkI) (b:Bool):Prop:=∃(o:Unit),AObj.fro 6 (List.map zR i.tops)=MkU (i.tops,i.out) 1∧List.map zG (i.out++mkq i.tops (Leg.mk i.a 1) (Leg.mk i.b 2) i.less)=List.map zG i.out∧True
def zVh (i:MkI):Prop:=
 (0≤i.a∧i.a<(↑(List.map zR i.tops).length:Int))∧∃(b:Bool),∃(b_1:Bool),∃(n:Int),∃(n_1:Int),∃(n_2:Int),∃(n_3:Int),zI (List.map zR i.tops) i.a.toNat 0 6=some [D.v (.bool b),D.v (.bool b_1),D.v (.int .i64 n),D.v (.int .i64 n_1),D.v (.int .i64 n_2),D.v (.int .i64 n_3)]∧(0≤i.b∧i.b<(↑(List.map zR i.tops).length:Int))∧∃(b_2:Bool),∃(b_3:Bool),∃(n_4:Int),∃(n_5:Int),∃(n_6:Int),∃(n_7:Int),zI (List.map zR i.tops) i.b.toNat 0 6=some [D.v (.bool b_2),D.v (.bool b_3),D.v (.int .i64 n_4),D.v (.int .i64 n_5),D.v (.int .i64 n_6),D.v (.int .i64 n_7)]∧(True∧((0≤i.b∧i.b<(↑(List.map zR i.tops).length:Int))∧i.b.toNat=i.b.toNat)∧i.b=i.b∧True∧True∧((0≤i.a∧i.a<(↑(List.map zR i.tops).length:Int))∧i.a.toNat=i.a.toNat)∧i.a=i.a∧True∧True∧((0≤i.b∧i.b<(↑(List.map zR i.tops).length:Int))∧i.b.toNat=i.b.toNat)∧i.b=i.b∧True∧True∧((0≤i.a∧i.a<(↑(List.map zR i.tops).length:Int))∧i.a.toNat=i.a.toNat)∧i.a=i.a∧True∧True∧((0≤i.b∧i.b<(↑(List.map zR i.tops).length:Int))∧i.b.toNat=i.b.toNat)∧i.b=i.b∧True∧cnd (!b) (aT i b) (cnd (!b_3) (aT i b) (zCu i b n n_2 n_5 n_7)))∧True∧((0≤i.b∧i.b<(↑(List.map zR i.tops).length:Int))∧i.b.toNat=i.b.toNat)∧i.b=i.b∧True∧True∧((0≤i.a∧i.a<(↑(List.map zR i.tops).length:Int))∧i.a.toNat=i.a.toNat)∧i.a=i.a∧True∧True∧((0≤i.b∧i.b<(↑(List.map zR i.tops).length:Int))∧i.b.toNat=i.b.toNat)∧i.b=i.b∧True∧True∧((0≤i.a∧i.a<(↑(List.map zR i.tops).length:Int))∧i.a.toNat=i.a.toNat)∧i.a=i.a∧True∧True∧((0≤i.b∧i.b<(↑(List.map zR i.tops).length:Int))∧i.b.toNat=i.b.toNat)∧i.b=i.b∧True∧cnd (!b) (aT i b) (cnd (!b_3) (aT i b) (zCu i b n n_2 n_5 n_7))
theorem z7m (hG:GOk Tryz.prog ([(87,addC),(88,subC)])) (h:∀(i:MkI),mk12.cnd i→zVh i):mk12.ok Tryz.prog 53:=okw mixed hG 0 (fun _=>[]) (fun _=>[]) [] Tryz.func53 h
@[reducible] def zFk (i:MkI) (b:Bool) (n:Int) (n_1:Int) (n_3:Int) (n_5:Int):Prop:=∃(i_1:I2),i_1.x=n_1∧i_1.y=n∧(((-9223372036854775808)≤i_1.x∧i_1.x≤9223372036854775807)∧(-9223372036854775808)≤i_1.y∧i_1.y≤9223372036854775807)∧∀(o:Unit),True→cnd i.less (∃(i_2:I2),i_2.x=n∧i_2.y=n_1∧(((-9223372036854775808)≤i_2.x∧i_2.x≤9223372036854775807)∧(-9223372036854775808)≤i_2.y∧i_2.y≤9223372036854775807)∧∀(o:Unit),True→cnd (jJ i_2.x i_2.y).snd (True∧((List.map zG i.out).length+1)*(48:Nat)≤(70368744177664:Nat)∧∃(o:Unit),AObj.fro 6 (List.map zR i.tops)=MkU (i.tops,i.out) 1∧List.map zG (i.out++mkq i.tops (Leg.mk i.a 2) (Leg.mk i.b 1) i.less)=List.map zG i.out++[[D.v (.int .i64 (jJ i_2.x i_2.y).fst),D.v (.int .i64 (min n_3 n_5)),D.v (.int .i64 i.a),D.v (.int .i64 2),D.v (.int .i64 i.b),D.v (.int .i64 1)]]∧True) (∃(o:Unit),AObj.fro 6 (List.map zR i.tops)=MkU (i.tops,i.out) 1∧List.map zG (i.out++mkq i.tops (Leg.mk i.a 2) (Leg.mk i.b 1) i.less)=List.map zG i.out∧True)) (cnd (jH i_1.x i_1.y).snd (True∧((List.map zG i.out).length+1)*(48:Nat)≤(70368744177664:Nat)∧∃(o:Unit),AObj.fro 6 (List.map zR i.tops)=MkU (i.tops,i.out) 1∧List.map zG (i.out++mkq i.tops (Leg.mk i.a 2) (Leg.mk i.b 1) i.less)=List.map zG i.out++[[D.v (.int .i64 (jH i_1.x i_1.y).fst),D.v (.int .i64 (min n_3 n_5)),D.v (.int .i64 i.a),D.v (.int .i64 2),D.v (.int .i64 i.b),D.v (.int .i64 1)]]∧True) (∃(o:Unit),AObj.fro 6 (List.map zR i.tops)=MkU (i.tops,i.out) 1∧List.map zG (i.out++mkq i.tops (Leg.mk i.a 2) (Leg.mk i.b 1) i.less)=List.map zG i.out∧True))
@[reducible] def mD (i:MkI) (b:Bool):Prop:=∃(o:Unit),AObj.fro 6 (List.map zR i.tops)=MkU (i.tops,i.out) 1∧List.map zG (i.out++mkq i.tops (Leg.mk i.a 2) (Leg.mk i.b 1) i.less)=List.map zG i.out∧True
def zXp (i:MkI):Prop:=
 (0≤i.a∧i.a<(↑(List.map zR i.tops).length:Int))∧∃(b:Bool),∃(b_1:Bool),∃(n:Int),∃(n_1:Int),∃(n_2:Int),∃(n_3:Int),zI (List.map zR i.tops) i.a.toNat 0 6=some [D.v (.bool b),D.v (.bool b_1),D.v (.int .i64 n),D.v (.int .i64 n_1),D.v (.int .i64 n_2),D.v (.int .i64 n_3)]∧(0≤i.b∧i.b<(↑(List.map zR i.tops).length:Int))∧∃(b:Bool),∃(b_2:Bool),∃(n:Int),∃(n_4:Int),∃(n_5:Int),∃(n_6:Int),zI (List.map zR i.tops) i.b.toNat 0 6=some [D.v (.bool b),D.v (.bool b_2),D.v (.int .i64 n),D.v (.int .i64 n_4),D.v (.int .i64 n_5),D.v (.int .i64 n_6)]∧(True∧((0≤i.b∧i.b<(↑(List.map zR i.tops).length:Int))∧i.b.toNat=i.b.toNat)∧i.b=i.b∧True∧True∧((0≤i.a∧i.a<(↑(List.map zR i.tops).length:Int))∧i.a.toNat=i.a.toNat)∧i.a=i.a∧True∧True∧((0≤i.b∧i.b<(↑(List.map zR i.tops).length:Int))∧i.b.toNat=i.b.toNat)∧i.b=i.b∧True∧True∧((0≤i.a∧i.a<(↑(List.map zR i.tops).length:Int))∧i.a.toNat=i.a.toNat)∧i.a=i.a∧True∧True∧((0≤i.b∧i.b<(↑(List.map zR i.tops).length:Int))∧i.b.toNat=i.b.toNat)∧i.b=i.b∧True∧cnd (!b_1) (mD i b) (cnd (!b) (mD i b) (zFk i b n n_1 n_3 n_5)))∧True∧((0≤i.b∧i.b<(↑(List.map zR i.tops).length:Int))∧i.b.toNat=i.b.toNat)∧i.b=i.b∧True∧True∧((0≤i.a∧i.a<(↑(List.map zR i.tops).length:Int))∧i.a.toNat=i.a.toNat)∧i.a=i.a∧True∧True∧((0≤i.b∧i.b<(↑(List.map zR i.tops).length:Int))∧i.b.toNat=i.b.toNat)∧i.b=i.b∧True∧True∧((0≤i.a∧i.a<(↑(List.map zR i.tops).length:Int))∧i.a.toNat=i.a.toNat)∧i.a=i.a∧True∧True∧((0≤i.b∧i.b<(↑(List.map zR i.tops).length:Int))∧i.b.toNat=i.b.toNat)∧i.b=i.b∧True∧cnd (!b_1) (mD i b) (cnd (!b) (mD i b) (zFk i b n n_1 n_3 n_5))
theorem z8p (hG:GOk Tryz.prog ([(87,addC),(88,subC)])) (h:∀(i:MkI),mk21.cnd i→zXp i):mk21.ok Tryz.prog 53:=okw mixed hG 0 (fun _=>[]) (fun _=>[]) [] Tryz.func53 h
@[reducible] def zCz (i:MkI) (b:Bool) (n_1:Int) (n_3:Int) (n_4:Int) (n_6:Int):Prop:=∃(i_1:I2),i_1.x=n_1∧i_1.y=n_4∧(((-9223372036854775808)≤i_1.x∧i_1.x≤9223372036854775807)∧(-9223372036854775808)≤i_1.y∧i_1.y≤9223372036854775807)∧∀(o:Unit),True→cnd i.less (∃(i_2:I2),i_2.x=n_4∧i_2.y=n_1∧(((-9223372036854775808)≤i_2.x∧i_2.x≤9223372036854775807)∧(-9223372036854775808)≤i_2.y∧i_2.y≤9223372036854775807)∧∀(o:Unit),True→cnd (jJ i_2.x i_2.y).snd (True∧((List.map zG i.out).length+1)*(48:Nat)≤(70368744177664:Nat)∧∃(o:Unit),AObj.fro 6 (List.map zR i.tops)=MkU (i.tops,i.out) 1∧List.map zG (i.out++mkq i.tops (Leg.mk i.a 2) (Leg.mk i.b 2) i.less)=List.map zG i.out++[[D.v (.int .i64 (jJ i_2.x i_2.y).fst),D.v (.int .i64 (min n_3 n_6)),D.v (.int .i64 i.a),D.v (.int .i64 2),D.v (.int .i64 i.b),D.v (.int .i64 2)]]∧True) (∃(o:Unit),AObj.fro 6 (List.map zR i.tops)=MkU (i.tops,i.out) 1∧List.map zG (i.out++mkq i.tops (Leg.mk i.a 2) (Leg.mk i.b 2) i.less)=List.map zG i.out∧True)) (cnd (jH i_1.x i_1.y).snd (True∧((List.map zG i.out).length+1)*(48:Nat)≤(70368744177664:Nat)∧∃(o:Unit),AObj.fro 6 (List.map zR i.tops)=MkU (i.tops,i.out) 1∧List.map zG (i.out++mkq i.tops (Leg.mk i.a 2) (Leg.mk i.b 2) i.less)=List.map zG i.out++[[D.v (.int .i64 (jH i_1.x i_1.y).fst),D.v (.int .i64 (min n_3 n_6)),D.v (.int .i64 i.a),D.v (.int .i64 2),D.v (.int .i64 i.b),D.v (.int .i64 2)]]∧True) (∃(o:Unit),AObj.fro 6 (List.map zR i.tops)=MkU (i.tops,i.out) 1∧List.map zG (i.out++mkq i.tops (Leg.mk i.a 2) (Leg.mk i.b 2) i.less)=List.map zG i.out∧True))
@[reducible] def aZ (i:MkI) (b:Bool):Prop:=∃(o:Unit),AObj.fro 6 (List.map zR i.tops)=MkU (i.tops,i.out) 1∧List.map zG (i.out++mkq i.tops (Leg.mk i.a 2) (Leg.mk i.b 2) i.less)=List.map zG i.out∧True
def zUa (i:MkI):Prop:=
 (0≤i.a∧i.a<(↑(List.map zR i.tops).length:Int))∧∃(b:Bool),∃(b_1:Bool),∃(n:Int),∃(n_1:Int),∃(n_2:Int),∃(n_3:Int),zI (List.map zR i.tops) i.a.toNat 0 6=some [D.v (.bool b),D.v (.bool b_1),D.v (.int .i64 n),D.v (.int .i64 n_1),D.v (.int .i64 n_2),D.v (.int .i64 n_3)]∧(0≤i.b∧i.b<(↑(List.map zR i.tops).length:Int))∧∃(b:Bool),∃(b_2:Bool),∃(n:Int),∃(n_4:Int),∃(n_5:Int),∃(n_6:Int),zI (List.map zR i.tops) i.b.toNat 0 6=some [D.v (.bool b),D.v (.bool b_2),D.v (.int .i64 n),D.v (.int .i64 n_4),D.v (.int .i64 n_5),D.v (.int .i64 n_6)]∧(True∧((0≤i.b∧i.b<(↑(List.map zR i.tops).length:Int))∧i.b.toNat=i.b.toNat)∧i.b=i.b∧True∧True∧((0≤i.a∧i.a<(↑(List.map zR i.tops).length:Int))∧i.a.toNat=i.a.toNat)∧i.a=i.a∧True∧True∧((0≤i.b∧i.b<(↑(List.map zR i.tops).length:Int))∧i.b.toNat=i.b.toNat)∧i.b=i.b∧True∧True∧((0≤i.a∧i.a<(↑(List.map zR i.tops).length:Int))∧i.a.toNat=i.a.toNat)∧i.a=i.a∧True∧True∧((0≤i.b∧i.b<(↑(List.map zR i.tops).length:Int))∧i.b.toNat=i.b.toNat)∧i.b=i.b∧True∧cnd (!b_1) (aZ i b) (cnd (!b_2) (aZ i b) (zCz i b n_1 n_3 n_4 n_6)))∧True∧((0≤i.b∧i.b<(↑(List.map zR i.tops).length:Int))∧i.b.toNat=i.b.toNat)∧i.b=i.b∧True∧True∧((0≤i.a∧i.a<(↑(List.map zR i.tops).length:Int))∧i.a.toNat=i.a.toNat)∧i.a=i.a∧True∧True∧((0≤i.b∧i.b<(↑(List.map zR i.tops).length:Int))∧i.b.toNat=i.b.toNat)∧i.b=i.b∧True∧True∧((0≤i.a∧i.a<(↑(List.map zR i.tops).length:Int))∧i.a.toNat=i.a.toNat)∧i.a=i.a∧True∧True∧((0≤i.b∧i.b<(↑(List.map zR i.tops).length:Int))∧i.b.toNat=i.b.toNat)∧i.b=i.b∧True∧cnd (!b_1) (aZ i b) (cnd (!b_2) (aZ i b) (zCz i b n_1 n_3 n_4 n_6))
theorem z9z (hG:GOk Tryz.prog ([(87,addC),(88,subC)])) (h:∀(i:MkI),mk22.cnd i→zUa i):mk22.ok Tryz.prog 53:=okw mixed hG 0 (fun _=>[]) (fun _=>[]) [] Tryz.func53 h
open Go Cv Go.Proofs
theorem zAb:iotherC.ok Tryz.prog 52:=zXs gok0 fun n h=>by
 have h:n=1∨n=2:=h
 refine⟨(),?_,trivial⟩
 rw[w64 (by omega)]
theorem zJr:ibetterC.ok Tryz.prog 94:=zSm gok0 fun i _=>by
 refine Cv.cnd.mk (fun e=>⟨(),?_,trivial⟩) (fun e=>⟨(),?_,trivial⟩)
 ·have e:i.side=1:=by simpa using e
  simp[btr,e]
 ·have e:i.side≠1:=by simpa using e
  simp[btr,e]
theorem z3l (a b:Int):(if b<a then b else a)=min a b:=by split<;>omega
theorem yCi (i:MkI) (h:mk11.cnd i):zWv i:=by
 obtain⟨a0,a1,b0,b1,⟨ht,hp⟩,ho⟩:0≤i.a∧i.a<i.tops.length∧0≤i.b∧i.b<i.tops.length∧k7 i.tops∧i.out.length≤1000:=h
 obtain⟨x,hx⟩:=yG (l:=i.tops) (i:=i.a.toNat) (by omega)
 obtain⟨y,hy⟩:=yG (l:=i.tops) (i:=i.b.toNat) (by omega)
 obtain⟨⟨px1,px2⟩,px3,px4⟩:=hp x (List.mem_of_getElem? hx)
 obtain⟨⟨py1,py2⟩,py3,py4⟩:=hp y (List.mem_of_getElem? hy)
 have e0:mkq i.tops ⟨i.a,1⟩ ⟨i.b,1⟩ i.less=if x.has1 && y.has1 && (if i.less then jJ y.p1 x.p1 else jH x.p1 y.p1).2 then[⟨(if i.less then jJ y.p1 x.p1 else jH x.p1 y.p1).1,min x.q1 y.q1,⟨i.a,1⟩,⟨i.b,1⟩⟩]else[]:=by
  simp only[mkq,List.getD_eq_getElem?_getD,hx,hy,Option.getD_some];rfl
 unfold zWv zFl aJ
 simp only[List.length_map]
 refine⟨⟨by omega,by omega⟩,x.has1,x.has2,x.p1,x.p2,x.q1,x.q2,elA hx (by simp[zR]) rfl,⟨by omega,by omega⟩,y.has1,y.has2,y.p1,y.p2,y.q1,y.q2,elA hy (by simp[zR]) rfl,?_⟩
 rw[e0]
 (repeat'(first|exact rfl|exact trivial|assumption|apply And.intro|refine fun(_:Unit) (_:True)=>?_|refine Exists.intro () ?_|omega|(dsimp only;omega)))
 all_goals
  refine Cv.cnd.mk (fun c1=> ?_) (fun c1=>Cv.cnd.mk (fun c2=> ?_) (fun c2=> ?_))
  ·have c1:x.has1=false:=by simpa using c1
   simp only[c1,Bool.false_and,Bool.false_eq_true,if_false,List.append_nil];exact kp
  ·have c2:y.has1=false:=by simpa using c2
   simp only[c2,Bool.and_false,Bool.false_and,Bool.false_eq_true,if_false,List.append_nil];exact kp
  ·have c1:x.has1=true:=by simpa using c1
   have c2:y.has1=true:=by simpa using c2
   simp only[c1,c2,Bool.true_and,z3l]
   refine⟨⟨x.p1,y.p1⟩,?_⟩
   (repeat'(first|exact rfl|exact trivial|assumption|apply And.intro|refine fun(_:Unit) (_:True)=>?_|refine Exists.intro () ?_|omega|(dsimp only;omega)))
   refine Cv.cnd.mk (fun c3=> ?_) (fun c3=> ?_)
   ·have c3:i.less=true:=c3
    simp only[c3,if_true]
    refine⟨⟨y.p1,x.p1⟩,?_⟩
    (repeat'(first|exact rfl|exact trivial|assumption|apply And.intro|refine fun(_:Unit) (_:True)=>?_|refine Exists.intro () ?_|omega|(dsimp only;omega)))
    refine Cv.cnd.mk (fun c4=> ?_) (fun c4=> ?_)
    ·have c4:(jJ y.p1 x.p1).2=true:=c4
     simp only[c4,if_true,List.map_append];exact kp
    ·have c4:(jJ y.p1 x.p1).2=false:=c4
     simp only[c4,Bool.false_eq_true,if_false,List.append_nil];exact kp
   ·have c3:i.less=false:=c3
    simp only[c3,Bool.false_eq_true,if_false]
    refine Cv.cnd.mk (fun c4=> ?_) (fun c4=> ?_)
    ·have c4:(jH x.p1 y.p1).2=true:=c4
     simp only[c4,if_true,List.map_append];exact kp
    ·have c4:(jH x.p1 y.p1).2=false:=c4
     simp only[c4,Bool.false_eq_true,if_false,List.append_nil];exact kp
theorem z3n:mk11.ok Tryz.prog 53:=z9r (gokc zEv (gokc zDv gok0)) yCi
theorem yCe (i:MkI) (h:mk12.cnd i):zVh i:=by
 obtain⟨a0,a1,b0,b1,⟨ht,hp⟩,ho⟩:0≤i.a∧i.a<i.tops.length∧0≤i.b∧i.b<i.tops.length∧k7 i.tops∧i.out.length≤1000:=h
 obtain⟨x,hx⟩:=yG (l:=i.tops) (i:=i.a.toNat) (by omega)
 obtain⟨y,hy⟩:=yG (l:=i.tops) (i:=i.b.toNat) (by omega)
 obtain⟨⟨px1,px2⟩,px3,px4⟩:=hp x (List.mem_of_getElem? hx)
 obtain⟨⟨py1,py2⟩,py3,py4⟩:=hp y (List.mem_of_getElem? hy)
 have e0:mkq i.tops ⟨i.a,1⟩ ⟨i.b,2⟩ i.less=if x.has1 && y.has2 && (if i.less then jJ y.p2 x.p1 else jH x.p1 y.p2).2 then[⟨(if i.less then jJ y.p2 x.p1 else jH x.p1 y.p2).1,min x.q1 y.q2,⟨i.a,1⟩,⟨i.b,2⟩⟩]else[]:=by
  simp only[mkq,List.getD_eq_getElem?_getD,hx,hy,Option.getD_some];rfl
 unfold zVh zCu aT
 simp only[List.length_map]
 refine⟨⟨by omega,by omega⟩,x.has1,x.has2,x.p1,x.p2,x.q1,x.q2,elA hx (by simp[zR]) rfl,⟨by omega,by omega⟩,y.has1,y.has2,y.p1,y.p2,y.q1,y.q2,elA hy (by simp[zR]) rfl,?_⟩
 rw[e0]
 (repeat'(first|exact rfl|exact trivial|assumption|apply And.intro|refine fun(_:Unit) (_:True)=>?_|refine Exists.intro () ?_|omega|(dsimp only;omega)))
 all_goals
  refine Cv.cnd.mk (fun c1=> ?_) (fun c1=>Cv.cnd.mk (fun c2=> ?_) (fun c2=> ?_))
  ·have c1:x.has1=false:=by simpa using c1
   simp only[c1,Bool.false_and,Bool.false_eq_true,if_false,List.append_nil];exact kp
  ·have c2:y.has2=false:=by simpa using c2
   simp only[c2,Bool.and_false,Bool.false_and,Bool.false_eq_true,if_false,List.append_nil];exact kp
  ·have c1:x.has1=true:=by simpa using c1
   have c2:y.has2=true:=by simpa using c2
   simp only[c1,c2,Bool.true_and,z3l]
   refine⟨⟨x.p1,y.p2⟩,?_⟩
   (repeat'(first|exact rfl|exact trivial|assumption|apply And.intro|refine fun(_:Unit) (_:True)=>?_|refine Exists.intro () ?_|omega|(dsimp only;omega)))
   refine Cv.cnd.mk (fun c3=> ?_) (fun c3=> ?_)
   ·have c3:i.less=true:=c3
    simp only[c3,if_true]
    refine⟨⟨y.p2,x.p1⟩,?_⟩
    (repeat'(first|exact rfl|exact trivial|assumption|apply And.intro|refine fun(_:Unit) (_:True)=>?_|refine Exists.intro () ?_|omega|(dsimp only;omega)))
    refine Cv.cnd.mk (fun c4=> ?_) (fun c4=> ?_)
    ·have c4:(jJ y.p2 x.p1).2=true:=c4
     simp only[c4,if_true,List.map_append];exact kp
    ·have c4:(jJ y.p2 x.p1).2=false:=c4
     simp only[c4,Bool.false_eq_true,if_false,List.append_nil];exact kp
   ·have c3:i.less=false:=c3
    simp only[c3,Bool.false_eq_true,if_false]
    refine Cv.cnd.mk (fun c4=> ?_) (fun c4=> ?_)
    ·have c4:(jH x.p1 y.p2).2=true:=c4
     simp only[c4,if_true,List.map_append];exact kp
    ·have c4:(jH x.p1 y.p2).2=false:=c4
     simp only[c4,Bool.false_eq_true,if_false,List.append_nil];exact kp
theorem z4e:mk12.ok Tryz.prog 53:=z7m (gokc zEv (gokc zDv gok0)) yCe
theorem yDj (i:MkI) (h:mk21.cnd i):zXp i:=by
 obtain⟨a0,a1,b0,b1,⟨ht,hp⟩,ho⟩:0≤i.a∧i.a<i.tops.length∧0≤i.b∧i.b<i.tops.length∧k7 i.tops∧i.out.length≤1000:=h
 obtain⟨x,hx⟩:=yG (l:=i.tops) (i:=i.a.toNat) (by omega)
 obtain⟨y,hy⟩:=yG (l:=i.tops) (i:=i.b.toNat) (by omega)
 obtain⟨⟨px1,px2⟩,px3,px4⟩:=hp x (List.mem_of_getElem? hx)
 obtain⟨⟨py1,py2⟩,py3,py4⟩:=hp y (List.mem_of_getElem? hy)
 have e0:mkq i.tops ⟨i.a,2⟩ ⟨i.b,1⟩ i.less=if x.has2 && y.has1 && (if i.less then jJ y.p1 x.p2 else jH x.p2 y.p1).2 then[⟨(if i.less then jJ y.p1 x.p2 else jH x.p2 y.p1).1,min x.q2 y.q1,⟨i.a,2⟩,⟨i.b,1⟩⟩]else[]:=by
  simp only[mkq,List.getD_eq_getElem?_getD,hx,hy,Option.getD_some];rfl
 unfold zXp zFk mD
 simp only[List.length_map]
 refine⟨⟨by omega,by omega⟩,x.has1,x.has2,x.p1,x.p2,x.q1,x.q2,elA hx (by simp[zR]) rfl,⟨by omega,by omega⟩,y.has1,y.has2,y.p1,y.p2,y.q1,y.q2,elA hy (by simp[zR]) rfl,?_⟩
 rw[e0]
 (repeat'(first|exact rfl|exact trivial|assumption|apply And.intro|refine fun(_:Unit) (_:True)=>?_|refine Exists.intro () ?_|omega|(dsimp only;omega)))
 all_goals
  refine Cv.cnd.mk (fun c1=> ?_) (fun c1=>Cv.cnd.mk (fun c2=> ?_) (fun c2=> ?_))
  ·have c1:x.has2=false:=by simpa using c1
   simp only[c1,Bool.false_and,Bool.false_eq_true,if_false,List.append_nil];exact kp
  ·have c2:y.has1=false:=by simpa using c2
   simp only[c2,Bool.and_false,Bool.false_and,Bool.false_eq_true,if_false,List.append_nil];exact kp
  ·have c1:x.has2=true:=by simpa using c1
   have c2:y.has1=true:=by simpa using c2
   simp only[c1,c2,Bool.true_and,z3l]
   refine⟨⟨x.p2,y.p1⟩,?_⟩
   (repeat'(first|exact rfl|exact trivial|assumption|apply And.intro|refine fun(_:Unit) (_:True)=>?_|refine Exists.intro () ?_|omega|(dsimp only;omega)))
   refine Cv.cnd.mk (fun c3=> ?_) (fun c3=> ?_)
   ·have c3:i.less=true:=c3
    simp only[c3,if_true]
    refine⟨⟨y.p1,x.p2⟩,?_⟩
    (repeat'(first|exact rfl|exact trivial|assumption|apply And.intro|refine fun(_:Unit) (_:True)=>?_|refine Exists.intro () ?_|omega|(dsimp only;omega)))
    refine Cv.cnd.mk (fun c4=> ?_) (fun c4=> ?_)
    ·have c4:(jJ y.p1 x.p2).2=true:=c4
     simp only[c4,if_true,List.map_append];exact kp
    ·have c4:(jJ y.p1 x.p2).2=false:=c4
     simp only[c4,Bool.false_eq_true,if_false,List.append_nil];exact kp
   ·have c3:i.less=false:=c3
    simp only[c3,Bool.false_eq_true,if_false]
    refine Cv.cnd.mk (fun c4=> ?_) (fun c4=> ?_)
    ·have c4:(jH x.p2 y.p1).2=true:=c4
     simp only[c4,if_true,List.map_append];exact kp
    ·have c4:(jH x.p2 y.p1).2=false:=c4
     simp only[c4,Bool.false_eq_true,if_false,List.append_nil];exact kp
theorem z1f:mk21.ok Tryz.prog 53:=z8p (gokc zEv (gokc zDv gok0)) yDj
theorem yCj (i:MkI) (h:mk22.cnd i):zUa i:=by
 obtain⟨a0,a1,b0,b1,⟨ht,hp⟩,ho⟩:0≤i.a∧i.a<i.tops.length∧0≤i.b∧i.b<i.tops.length∧k7 i.tops∧i.out.length≤1000:=h
 obtain⟨x,hx⟩:=yG (l:=i.tops) (i:=i.a.toNat) (by omega)
 obtain⟨y,hy⟩:=yG (l:=i.tops) (i:=i.b.toNat) (by omega)
 obtain⟨⟨px1,px2⟩,px3,px4⟩:=hp x (List.mem_of_getElem? hx)
 obtain⟨⟨py1,py2⟩,py3,py4⟩:=hp y (List.mem_of_getElem? hy)
 have e0:mkq i.tops ⟨i.a,2⟩ ⟨i.b,2⟩ i.less=if x.has2 && y.has2 && (if i.less then jJ y.p2 x.p2 else jH x.p2 y.p2).2 then[⟨(if i.less then jJ y.p2 x.p2 else jH x.p2 y.p2).1,min x.q2 y.q2,⟨i.a,2⟩,⟨i.b,2⟩⟩]else[]:=by
  simp only[mkq,List.getD_eq_getElem?_getD,hx,hy,Option.getD_some];rfl
 unfold zUa zCz aZ
 simp only[List.length_map]
 refine⟨⟨by omega,by omega⟩,x.has1,x.has2,x.p1,x.p2,x.q1,x.q2,elA hx (by simp[zR]) rfl,⟨by omega,by omega⟩,y.has1,y.has2,y.p1,y.p2,y.q1,y.q2,elA hy (by simp[zR]) rfl,?_⟩
 rw[e0]
 (repeat'(first|exact rfl|exact trivial|assumption|apply And.intro|refine fun(_:Unit) (_:True)=>?_|refine Exists.intro () ?_|omega|(dsimp only;omega)))
 all_goals
  refine Cv.cnd.mk (fun c1=> ?_) (fun c1=>Cv.cnd.mk (fun c2=> ?_) (fun c2=> ?_))
  ·have c1:x.has2=false:=by simpa using c1
   simp only[c1,Bool.false_and,Bool.false_eq_true,if_false,List.append_nil];exact kp
  ·have c2:y.has2=false:=by simpa using c2
   simp only[c2,Bool.and_false,Bool.false_and,Bool.false_eq_true,if_false,List.append_nil];exact kp
  ·have c1:x.has2=true:=by simpa using c1
   have c2:y.has2=true:=by simpa using c2
   simp only[c1,c2,Bool.true_and,z3l]
   refine⟨⟨x.p2,y.p2⟩,?_⟩
   (repeat'(first|exact rfl|exact trivial|assumption|apply And.intro|refine fun(_:Unit) (_:True)=>?_|refine Exists.intro () ?_|omega|(dsimp only;omega)))
   refine Cv.cnd.mk (fun c3=> ?_) (fun c3=> ?_)
   ·have c3:i.less=true:=c3
    simp only[c3,if_true]
    refine⟨⟨y.p2,x.p2⟩,?_⟩
    (repeat'(first|exact rfl|exact trivial|assumption|apply And.intro|refine fun(_:Unit) (_:True)=>?_|refine Exists.intro () ?_|omega|(dsimp only;omega)))
    refine Cv.cnd.mk (fun c4=> ?_) (fun c4=> ?_)
    ·have c4:(jJ y.p2 x.p2).2=true:=c4
     simp only[c4,if_true,List.map_append];exact kp
    ·have c4:(jJ y.p2 x.p2).2=false:=c4
     simp only[c4,Bool.false_eq_true,if_false,List.append_nil];exact kp
   ·have c3:i.less=false:=c3
    simp only[c3,Bool.false_eq_true,if_false]
    refine Cv.cnd.mk (fun c4=> ?_) (fun c4=> ?_)
    ·have c4:(jH x.p2 y.p2).2=true:=c4
     simp only[c4,if_true,List.map_append];exact kp
    ·have c4:(jH x.p2 y.p2).2=false:=c4
     simp only[c4,Bool.false_eq_true,if_false,List.append_nil];exact kp
theorem z0l:mk22.ok Tryz.prog 53:=z9z (gokc zEv (gokc zDv gok0)) yCj
open Go Cv Go.Proofs
structure MkJ where
 i:MkI
 sa:Bool
 sb:Bool
def mkAnyC:Con:=con1 MkJ (fun j=>[.nm 0 0,.agg [zC j.i.a,zC (zB j.sa)],.agg [zC j.i.b,zC (zB j.sb)],yL j.i.less]) (fun j=>MkR j.i.tops j.i.out)
 (fun j=>0≤j.i.a∧j.i.a<j.i.tops.length∧0≤j.i.b∧j.i.b<j.i.tops.length∧k7 j.i.tops∧j.i.out.length≤1000) (fun _=>zFr) (fun j=>MkP j.i.tops (j.i.out++mkq j.i.tops ⟨j.i.a,zB j.sa⟩ ⟨j.i.b,zB j.sb⟩ j.i.less))
theorem zGx:mkAnyC.ok Tryz.prog 53:=fun j=>match j with
 |⟨i,false,false⟩=>z3n i
 |⟨i,false,true⟩=>z4e i
 |⟨i,true,false⟩=>z1f i
 |⟨i,true,true⟩=>z0l i
structure hP where
 p:Prd
 tops:List Top
 inst:Int
def xH (i:hP) (s:Int) (k:Nat):List Quote:=(List.range k).flatMap fun(k:Nat)=>mkq i.tops ⟨(i.p.spread i.inst (i.inst+1+k)).1,s⟩ ⟨i.inst+1+k,s⟩ false
def xC (i:hP) (s:Int) (k:Nat):List Quote:=(List.range k).flatMap fun(k:Nat)=>mkq i.tops ⟨(i.p.spread k i.inst).1,3-s⟩ ⟨k,s⟩ true
def zZ (i:hP) (s:Int):List Quote:=mkq i.tops ⟨(i.p.legs i.inst).2.1,3-s⟩ ⟨(i.p.legs i.inst).1,s⟩ true
def kH (i:hP) (s:Int) (q:Quote):Quote:={q with a:=⟨(i.p.legs i.inst).1,s⟩,b:=⟨(i.p.legs i.inst).2.1,3-s⟩}
def xG (i:hP) (s:Int):List Quote:=
 if i.p.count=0∨(i.tops.length:Int)≠i.p.count∨i.inst<0∨(i.p.count:Int)≤i.inst then[]
 else if(i.p.legs i.inst).2.2 then(zZ i s).map (kH i s)
 else xH i s (i.p.months.length-(i.inst.toNat+1))++xC i s i.inst.toNat
def z5i (s:Int):Con:=con1 hP (fun i=>[prdV i.p,roV 6 (i.tops.map zR),zC i.inst,zC s]) (fun _=>[]) (fun i=>i.p.small∧k7 i.tops) (fun _=> .own 0) (fun i=>[.own 62 6 ((xG i s).map zG)])
def all1C:Con:=z5i 1
def all2C:Con:=z5i 2
def yCh (i:hP) (s:Int):List SAnn:=[
 {ι:=Nat,slots:=fun k=>[(10,.nm 0 0),(77,zC k)],rows:=fun k=>(List.range 3).map (MkU (i.tops,((zZ i s).take k).map (kH i s)++(zZ i s).drop k))},
 {ι:=Nat,slots:=fun k=>[(10,.nm 0 0),(17,zC (i.inst+1+k))],rows:=fun k=>MkR i.tops (xH i s k)},
 {ι:=Nat,slots:=fun k=>[(10,.nm 0 0),(120,zC k)],rows:=fun k=>MkR i.tops (xH i s (i.p.months.length-(i.inst.toNat+1))++xC i s k)}]
structure aR where
 i:hP
 s:Bool
def allC:Con:=con1 aR (fun j=>[prdV j.i.p,roV 6 (j.i.tops.map zR),zC j.i.inst,zC (zB j.s)]) (fun _=>[]) (fun j=>j.i.p.small∧k7 j.i.tops) (fun _=> .own 0) (fun j=>[.own 62 6 ((xG j.i (zB j.s)).map zG)])
def kJ (i:hP) (s:Int):List Quote:=(xG i s).filter fun q=>decide (i.p.price i.inst q.price=0)
def quotesC:Con:=con1 aR (fun j=>[prdV j.i.p,roV 6 (j.i.tops.map zR),zC j.i.inst,zC (zB j.s)]) (fun _=>[]) (fun j=>j.i.p.small∧k7 j.i.tops) (fun _=> .own 0) (fun j=>[.own 62 6 ((kJ j.i (zB j.s)).map zG)])
def z3m (j:aR):List SAnn:=[{ι:=Nat,slots:=fun k=>[(9,.own 0),(18,zC k)],rows:=fun k=>[.own 62 6 ((((xG j.i (zB j.s)).take k).filter fun q=>decide (j.i.p.price j.i.inst q.price=0)).map zG)]}]
structure BsI where
 l:List Quote
 s:Int
def zX (l:List Quote) (s:Int):Quote×Bool:=match l with
 |[]=>(z7o,false)
 |q::r=>(r.foldl (fun b q=>if btr s q.price b.price then q else b) q,true)
def bestQC:Con:=con1 BsI (fun i=>[roV 6 (i.l.map zG),zC i.s]) (fun _=>[]) (fun i=>(i.s=1∨i.s=2)∧i.l.length≤1000000) (fun i=> .tup [zJo (zX i.l i.s).1,yL (zX i.l i.s).2]) (fun _=>[])
def z5y (i:BsI):List SAnn:=[{ι:=Nat,slots:=fun k=>[(6,.nm 0 0),(26,zC k)],rows:=fun k=>[.cells (zJo (zX (i.l.take (max k 1)) i.s).1).cl 62]}]
open Go Cv Go.Proofs
@[reducible] def zOf (i_2:vU) (i_3:Int):AObj:=Sx.AObj.cells [V.d (D.v (.int .i64 (i_2.p.legs i_2.n).snd.fst)),V.d (D.v (.int .i64 ((3:Int)-i_3)))] (59:Nat)
@[reducible] def zOq (i_2:vU):AObj:=Sx.AObj.cells [V.d (D.v (.int .i64 (i_2.p.legs i_2.n).fst)),V.d (D.v (.int .i64 1))] (59:Nat)
@[reducible] def cI (i:hP):AObj:=Sx.AObj.cells [V.d (D.v (Value.string (sb i.p.code))),V.own (0:Nat),V.d (D.v (.int .i64 i.p.tick)),V.d (D.v (.int .i64 i.p.low)),V.d (D.v (.int .i64 i.p.high)),V.d (D.v (.int .i64 i.p.wide)),V.d (D.v (.int .i64 i.p.rule)),V.d (D.v (.int .i64 i.p.top)),V.d (D.v (.int .i64 i.p.least)),V.d (D.v (.int .i64 i.p.part)),V.own ((0:Nat)+(1:Nat))] (29:Nat)
def z5k (i:hP):Prop:=
 ∃(i_1:Prd),sb i_1.code=sb i.p.code∧iE i_1.months=iE i.p.months∧i_1.tick=i.p.tick∧i_1.low=i.p.low∧i_1.high=i.p.high∧i_1.wide=i.p.wide∧i_1.rule=i.p.rule∧i_1.top=i.p.top∧i_1.least=i.p.least∧i_1.part=i.p.part∧iE i_1.settle=iE i.p.settle∧(i_1.code.length≤1099511627776∧i_1.months.length≤1099511627776∧i_1.settle.length≤1099511627776)∧∀(o:Unit),True→cnd ((↑i_1.count:Int)==0) (∃(o:Unit),List.map zG (xG i 1)=[]∧True) (cnd ((↑(List.map zR i.tops).length:Int) !=(↑i_1.count:Int)) (∃(o:Unit),List.map zG (xG i 1)=[]∧True) (cnd (decide (i.inst<0)) (∃(o:Unit),List.map zG (xG i 1)=[]∧True) (cnd (decide (i.inst≥(↑i_1.count:Int))) (∃(o:Unit),List.map zG (xG i 1)=[]∧True) (∃(i_2:vU),sb i_2.p.code=sb i.p.code∧iE i_2.p.months=iE i.p.months∧i_2.p.tick=i.p.tick∧i_2.p.low=i.p.low∧i_2.p.high=i.p.high∧i_2.p.wide=i.p.wide∧i_2.p.rule=i.p.rule∧i_2.p.top=i.p.top∧i_2.p.least=i.p.least∧i_2.p.part=i.p.part∧iE i_2.p.settle=iE i.p.settle∧i_2.n=i.inst∧(i_2.p.code.length≤1099511627776∧i_2.p.months.length≤1099511627776∧i_2.p.settle.length≤1099511627776)∧∀(o:Unit),True→cnd (i_2.p.legs i_2.n).snd.snd (∃(i_3:Int),i_3=1∧(i_3=1∨i_3=2)∧∀(o:Unit),True→∃(i_4:MkJ),i_4.i.a=(i_2.p.legs i_2.n).snd.fst∧zB i_4.sa=3-i_3∧i_4.i.b=(i_2.p.legs i_2.n).fst∧zB i_4.sb=1∧i_4.i.less=true∧AObj.fro 6 (List.map zR i_4.i.tops)=AObj.fro 6 (List.map zR i.tops)∧List.map zG i_4.i.out=[]∧(0≤i_4.i.a∧i_4.i.a<(↑i_4.i.tops.length:Int)∧0≤i_4.i.b∧i_4.i.b<(↑i_4.i.tops.length:Int)∧(i_4.i.tops.length≤1000000∧∀(t:Top),t∈i_4.i.tops→((-9223372036854775808)≤t.p1∧t.p1≤9223372036854775807)∧(-9223372036854775808)≤t.p2∧t.p2≤9223372036854775807)∧i_4.i.out.length≤1000)∧∀(o:Unit),True→∃(i0:Nat),(↑i0:Int)=0∧AObj.fro 6 (List.map zR i.tops)=AObj.fro 6 (List.map zR i_4.i.tops)∧List.map zG (List.map (kH i 1) (List.take i0 (zZ i 1))++List.drop i0 (zZ i 1))=List.map zG (i_4.i.out++mkq i_4.i.tops (Leg.mk i_4.i.a (zB i_4.sa)) (Leg.mk i_4.i.b (zB i_4.sb)) i_4.i.less)∧∃(I:Nat→Prop),∃(μ:Nat→Nat),I i0∧∀(i_5:Nat),I i_5→cnd (decide ((↑i_5:Int)<(↑(List.map zG (i_4.i.out++mkq i_4.i.tops (Leg.mk i_4.i.a (zB i_4.sa)) (Leg.mk i_4.i.b (zB i_4.sb)) i_4.i.less)).length:Int))) ((0≤(↑i_5:Int)∧(↑i_5:Int)<(↑(List.map zG (List.map (kH i 1) (List.take i_5 (zZ i 1))++List.drop i_5 (zZ i 1))).length:Int))∧(↑i_5:Int).toNat<(List.map zG (List.map (kH i 1) (List.take i_5 (zZ i 1))++List.drop i_5 (zZ i 1))).length∧∃(i':Nat),(↑i':Int)=IntKind.i64.wrap ((↑i_5:Int)+1)∧AObj.fro 6 (List.map zR i.tops)=AObj.fro 6 (List.map zR i.tops)∧List.map zG (List.map (kH i 1) (List.take i' (zZ i 1))++List.drop i' (zZ i 1))=zJ (List.map zG (List.map (kH i 1) (List.take i_5 (zZ i 1))++List.drop i_5 (zZ i 1))) (↑i_5:Int).toNat ((0:Nat)+(2:Nat)) [D.v (.int .i64 (i_2.p.legs i_2.n).fst),D.v (.int .i64 1),D.v (.int .i64 (i_2.p.legs i_2.n).snd.fst),D.v (.int .i64 (3-i_3))]∧I i'∧μ i'<μ i_5∧AObj.fro 6 (List.map zR i_4.i.tops)=AObj.fro 6 (List.map zR i_4.i.tops)∧zOf i_2 i_3=zOf i_2 i_3∧zOq i_2=zOq i_2∧AObj.fro 6 (List.map zR i.tops)=AObj.fro 6 (List.map zR i.tops)∧cI i=cI i∧AObj.fro 1 (iE i.p.settle)=AObj.fro 1 (iE i.p.settle)∧AObj.fro 1 (iE i.p.months)=AObj.fro 1 (iE i.p.months)) (∃(o:Unit),List.map zG (xG i 1)=List.map zG (List.map (kH i 1) (List.take i_5 (zZ i 1))++List.drop i_5 (zZ i 1))∧True)) (∃(i0:Nat),i.inst+1+(↑i0:Int)=IntKind.i64.wrap (i.inst+1)∧AObj.fro 6 (List.map zR i.tops)=AObj.fro 6 (List.map zR i.tops)∧List.map zG (xH i 1 i0)=[]∧∃(I:Nat→Prop),∃(μ:Nat→Nat),I i0∧∀(i_3:Nat),I i_3→cnd (decide (i.inst+1+(↑i_3:Int)<(↑(iE i.p.months).length:Int))) (∃(i_4:gX),sb i_4.p.code=sb i.p.code∧iE i_4.p.months=iE i.p.months∧i_4.p.tick=i.p.tick∧i_4.p.low=i.p.low∧i_4.p.high=i.p.high∧i_4.p.wide=i.p.wide∧i_4.p.rule=i.p.rule∧i_4.p.top=i.p.top∧i_4.p.least=i.p.least∧i_4.p.part=i.p.part∧iE i_4.p.settle=iE i.p.settle∧i_4.a=i.inst∧i_4.b=i.inst+1+(↑i_3:Int)∧(i_4.p.code.length≤1099511627776∧i_4.p.months.length≤1099511627776∧i_4.p.settle.length≤1099511627776)∧∀(o:Unit),True→∃(i_5:MkJ),i_5.i.a=(i_4.p.spread i_4.a i_4.b).fst∧zB i_5.sa=1∧i_5.i.b=i.inst+1+(↑i_3:Int)∧zB i_5.sb=1∧i_5.i.less=false∧AObj.fro 6 (List.map zR i_5.i.tops)=AObj.fro 6 (List.map zR i.tops)∧List.map zG i_5.i.out=List.map zG (xH i 1 i_3)∧(0≤i_5.i.a∧i_5.i.a<(↑i_5.i.tops.length:Int)∧0≤i_5.i.b∧i_5.i.b<(↑i_5.i.tops.length:Int)∧(i_5.i.tops.length≤1000000∧∀(t:Top),t∈i_5.i.tops→((-9223372036854775808)≤t.p1∧t.p1≤9223372036854775807)∧(-9223372036854775808)≤t.p2∧t.p2≤9223372036854775807)∧i_5.i.out.length≤1000)∧∀(o:Unit),True→∃(i':Nat),i.inst+1+(↑i':Int)=IntKind.i64.wrap (i.inst+1+(↑i_3:Int)+1)∧AObj.fro 6 (List.map zR i.tops)=AObj.fro 6 (List.map zR i_5.i.tops)∧List.map zG (xH i 1 i')=List.map zG (i_5.i.out++mkq i_5.i.tops (Leg.mk i_5.i.a (zB i_5.sa)) (Leg.mk i_5.i.b (zB i_5.sb)) i_5.i.less)∧I i'∧μ i'<μ i_3∧AObj.fro 6 (List.map zR i.tops)=AObj.fro 6 (List.map zR i.tops)∧cI i=cI i∧AObj.fro 1 (iE i.p.settle)=AObj.fro 1 (iE i.p.settle)∧AObj.fro 1 (iE i.p.months)=AObj.fro 1 (iE i.p.months)) (∃(i0:Nat),(↑i0:Int)=0∧AObj.fro 6 (List.map zR i.tops)=AObj.fro 6 (List.map zR i.tops)∧List.map zG (xH i 1 (i.p.months.length-(i.inst.toNat+1))++xC i 1 i0)=List.map zG (xH i 1 i_3)∧∃(I:Nat→Prop),∃(μ:Nat→Nat),I i0∧∀(i_4:Nat),I i_4→cnd (decide ((↑i_4:Int)<i.inst)) (∃(i_5:gX),sb i_5.p.code=sb i.p.code∧iE i_5.p.months=iE i.p.months∧i_5.p.tick=i.p.tick∧i_5.p.low=i.p.low∧i_5.p.high=i.p.high∧i_5.p.wide=i.p.wide∧i_5.p.rule=i.p.rule∧i_5.p.top=i.p.top∧i_5.p.least=i.p.least∧i_5.p.part=i.p.part∧iE i_5.p.settle=iE i.p.settle∧i_5.a=(↑i_4:Int)∧i_5.b=i.inst∧(i_5.p.code.length≤1099511627776∧i_5.p.months.length≤1099511627776∧i_5.p.settle.length≤1099511627776)∧∀(o:Unit),True→∃(i_6:Int),i_6=1∧(i_6=1∨i_6=2)∧∀(o:Unit),True→∃(i_7:MkJ),i_7.i.a=(i_5.p.spread i_5.a i_5.b).fst∧zB i_7.sa=3-i_6∧i_7.i.b=(↑i_4:Int)∧zB i_7.sb=1∧i_7.i.less=true∧AObj.fro 6 (List.map zR i_7.i.tops)=AObj.fro 6 (List.map zR i.tops)∧List.map zG i_7.i.out=List.map zG (xH i 1 (i.p.months.length-(i.inst.toNat+1))++xC i 1 i_4)∧(0≤i_7.i.a∧i_7.i.a<(↑i_7.i.tops.length:Int)∧0≤i_7.i.b∧i_7.i.b<(↑i_7.i.tops.length:Int)∧(i_7.i.tops.length≤1000000∧∀(t:Top),t∈i_7.i.tops→((-9223372036854775808)≤t.p1∧t.p1≤9223372036854775807)∧(-9223372036854775808)≤t.p2∧t.p2≤9223372036854775807)∧i_7.i.out.length≤1000)∧∀(o:Unit),True→∃(i':Nat),(↑i':Int)=IntKind.i64.wrap ((↑i_4:Int)+1)∧AObj.fro 6 (List.map zR i.tops)=AObj.fro 6 (List.map zR i_7.i.tops)∧List.map zG (xH i 1 (i.p.months.length-(i.inst.toNat+1))++xC i 1 i')=List.map zG (i_7.i.out++mkq i_7.i.tops (Leg.mk i_7.i.a (zB i_7.sa)) (Leg.mk i_7.i.b (zB i_7.sb)) i_7.i.less)∧I i'∧μ i'<μ i_4∧AObj.fro 6 (List.map zR i.tops)=AObj.fro 6 (List.map zR i.tops)∧AObj.fro 6 (List.map zR i.tops)=AObj.fro 6 (List.map zR i.tops)∧cI i=cI i∧AObj.fro 1 (iE i.p.settle)=AObj.fro 1 (iE i.p.settle)∧AObj.fro 1 (iE i.p.months)=AObj.fro 1 (iE i.p.months)) (∃(o:Unit),List.map zG (xG i 1)=List.map zG (xH i 1 (i.p.months.length-(i.inst.toNat+1))++xC i 1 i_4)∧True)))))))
theorem z9o (hG:GOk Tryz.prog ([(24,pcountC),(51,legsC),(54,spreadC),(52,iotherC),(53,mkAnyC)])) (h:∀(i:hP),all1C.cnd i→z5k i):all1C.ok Tryz.prog 25:=okw mixed hG 0 (fun _=>[]) (fun i=>yCh i 1) [] Tryz.func25 h
@[reducible] def zQb (i_2:vU) (i_3:Int):AObj:=Sx.AObj.cells [V.d (D.v (.int .i64 (i_2.p.legs i_2.n).snd.fst)),V.d (D.v (.int .i64 ((3:Int)-i_3)))] (59:Nat)
@[reducible] def zPx (i_2:vU):AObj:=Sx.AObj.cells [V.d (D.v (.int .i64 (i_2.p.legs i_2.n).fst)),V.d (D.v (.int .i64 2))] (59:Nat)
@[reducible] def cV (i:hP):AObj:=Sx.AObj.cells [V.d (D.v (Value.string (sb i.p.code))),V.own (0:Nat),V.d (D.v (.int .i64 i.p.tick)),V.d (D.v (.int .i64 i.p.low)),V.d (D.v (.int .i64 i.p.high)),V.d (D.v (.int .i64 i.p.wide)),V.d (D.v (.int .i64 i.p.rule)),V.d (D.v (.int .i64 i.p.top)),V.d (D.v (.int .i64 i.p.least)),V.d (D.v (.int .i64 i.p.part)),V.own ((0:Nat)+(1:Nat))] (29:Nat)
def z5d (i:hP):Prop:=
 ∃(i_1:Prd),sb i_1.code=sb i.p.code∧iE i_1.months=iE i.p.months∧i_1.tick=i.p.tick∧i_1.low=i.p.low∧i_1.high=i.p.high∧i_1.wide=i.p.wide∧i_1.rule=i.p.rule∧i_1.top=i.p.top∧i_1.least=i.p.least∧i_1.part=i.p.part∧iE i_1.settle=iE i.p.settle∧(i_1.code.length≤1099511627776∧i_1.months.length≤1099511627776∧i_1.settle.length≤1099511627776)∧∀(o:Unit),True→cnd ((↑i_1.count:Int)==0) (∃(o:Unit),List.map zG (xG i 2)=[]∧True) (cnd ((↑(List.map zR i.tops).length:Int) !=(↑i_1.count:Int)) (∃(o:Unit),List.map zG (xG i 2)=[]∧True) (cnd (decide (i.inst<0)) (∃(o:Unit),List.map zG (xG i 2)=[]∧True) (cnd (decide (i.inst≥(↑i_1.count:Int))) (∃(o:Unit),List.map zG (xG i 2)=[]∧True) (∃(i_2:vU),sb i_2.p.code=sb i.p.code∧iE i_2.p.months=iE i.p.months∧i_2.p.tick=i.p.tick∧i_2.p.low=i.p.low∧i_2.p.high=i.p.high∧i_2.p.wide=i.p.wide∧i_2.p.rule=i.p.rule∧i_2.p.top=i.p.top∧i_2.p.least=i.p.least∧i_2.p.part=i.p.part∧iE i_2.p.settle=iE i.p.settle∧i_2.n=i.inst∧(i_2.p.code.length≤1099511627776∧i_2.p.months.length≤1099511627776∧i_2.p.settle.length≤1099511627776)∧∀(o:Unit),True→cnd (i_2.p.legs i_2.n).snd.snd (∃(i_3:Int),i_3=2∧(i_3=1∨i_3=2)∧∀(o:Unit),True→∃(i_4:MkJ),i_4.i.a=(i_2.p.legs i_2.n).snd.fst∧zB i_4.sa=3-i_3∧i_4.i.b=(i_2.p.legs i_2.n).fst∧zB i_4.sb=2∧i_4.i.less=true∧AObj.fro 6 (List.map zR i_4.i.tops)=AObj.fro 6 (List.map zR i.tops)∧List.map zG i_4.i.out=[]∧(0≤i_4.i.a∧i_4.i.a<(↑i_4.i.tops.length:Int)∧0≤i_4.i.b∧i_4.i.b<(↑i_4.i.tops.length:Int)∧(i_4.i.tops.length≤1000000∧∀(t:Top),t∈i_4.i.tops→((-9223372036854775808)≤t.p1∧t.p1≤9223372036854775807)∧(-9223372036854775808)≤t.p2∧t.p2≤9223372036854775807)∧i_4.i.out.length≤1000)∧∀(o:Unit),True→∃(i0:Nat),(↑i0:Int)=0∧AObj.fro 6 (List.map zR i.tops)=AObj.fro 6 (List.map zR i_4.i.tops)∧List.map zG (List.map (kH i 2) (List.take i0 (zZ i 2))++List.drop i0 (zZ i 2))=List.map zG (i_4.i.out++mkq i_4.i.tops (Leg.mk i_4.i.a (zB i_4.sa)) (Leg.mk i_4.i.b (zB i_4.sb)) i_4.i.less)∧∃(I:Nat→Prop),∃(μ:Nat→Nat),I i0∧∀(i_5:Nat),I i_5→cnd (decide ((↑i_5:Int)<(↑(List.map zG (i_4.i.out++mkq i_4.i.tops (Leg.mk i_4.i.a (zB i_4.sa)) (Leg.mk i_4.i.b (zB i_4.sb)) i_4.i.less)).length:Int))) ((0≤(↑i_5:Int)∧(↑i_5:Int)<(↑(List.map zG (List.map (kH i 2) (List.take i_5 (zZ i 2))++List.drop i_5 (zZ i 2))).length:Int))∧(↑i_5:Int).toNat<(List.map zG (List.map (kH i 2) (List.take i_5 (zZ i 2))++List.drop i_5 (zZ i 2))).length∧∃(i':Nat),(↑i':Int)=IntKind.i64.wrap ((↑i_5:Int)+1)∧AObj.fro 6 (List.map zR i.tops)=AObj.fro 6 (List.map zR i.tops)∧List.map zG (List.map (kH i 2) (List.take i' (zZ i 2))++List.drop i' (zZ i 2))=zJ (List.map zG (List.map (kH i 2) (List.take i_5 (zZ i 2))++List.drop i_5 (zZ i 2))) (↑i_5:Int).toNat ((0:Nat)+(2:Nat)) [D.v (.int .i64 (i_2.p.legs i_2.n).fst),D.v (.int .i64 2),D.v (.int .i64 (i_2.p.legs i_2.n).snd.fst),D.v (.int .i64 (3-i_3))]∧I i'∧μ i'<μ i_5∧AObj.fro 6 (List.map zR i_4.i.tops)=AObj.fro 6 (List.map zR i_4.i.tops)∧zQb i_2 i_3=zQb i_2 i_3∧zPx i_2=zPx i_2∧AObj.fro 6 (List.map zR i.tops)=AObj.fro 6 (List.map zR i.tops)∧cV i=cV i∧AObj.fro 1 (iE i.p.settle)=AObj.fro 1 (iE i.p.settle)∧AObj.fro 1 (iE i.p.months)=AObj.fro 1 (iE i.p.months)) (∃(o:Unit),List.map zG (xG i 2)=List.map zG (List.map (kH i 2) (List.take i_5 (zZ i 2))++List.drop i_5 (zZ i 2))∧True)) (∃(i0:Nat),i.inst+1+(↑i0:Int)=IntKind.i64.wrap (i.inst+1)∧AObj.fro 6 (List.map zR i.tops)=AObj.fro 6 (List.map zR i.tops)∧List.map zG (xH i 2 i0)=[]∧∃(I:Nat→Prop),∃(μ:Nat→Nat),I i0∧∀(i_3:Nat),I i_3→cnd (decide (i.inst+1+(↑i_3:Int)<(↑(iE i.p.months).length:Int))) (∃(i_4:gX),sb i_4.p.code=sb i.p.code∧iE i_4.p.months=iE i.p.months∧i_4.p.tick=i.p.tick∧i_4.p.low=i.p.low∧i_4.p.high=i.p.high∧i_4.p.wide=i.p.wide∧i_4.p.rule=i.p.rule∧i_4.p.top=i.p.top∧i_4.p.least=i.p.least∧i_4.p.part=i.p.part∧iE i_4.p.settle=iE i.p.settle∧i_4.a=i.inst∧i_4.b=i.inst+1+(↑i_3:Int)∧(i_4.p.code.length≤1099511627776∧i_4.p.months.length≤1099511627776∧i_4.p.settle.length≤1099511627776)∧∀(o:Unit),True→∃(i_5:MkJ),i_5.i.a=(i_4.p.spread i_4.a i_4.b).fst∧zB i_5.sa=2∧i_5.i.b=i.inst+1+(↑i_3:Int)∧zB i_5.sb=2∧i_5.i.less=false∧AObj.fro 6 (List.map zR i_5.i.tops)=AObj.fro 6 (List.map zR i.tops)∧List.map zG i_5.i.out=List.map zG (xH i 2 i_3)∧(0≤i_5.i.a∧i_5.i.a<(↑i_5.i.tops.length:Int)∧0≤i_5.i.b∧i_5.i.b<(↑i_5.i.tops.length:Int)∧(i_5.i.tops.length≤1000000∧∀(t:Top),t∈i_5.i.tops→((-9223372036854775808)≤t.p1∧t.p1≤9223372036854775807)∧(-9223372036854775808)≤t.p2∧t.p2≤9223372036854775807)∧i_5.i.out.length≤1000)∧∀(o:Unit),True→∃(i':Nat),i.inst+1+(↑i':Int)=IntKind.i64.wrap (i.inst+1+(↑i_3:Int)+1)∧AObj.fro 6 (List.map zR i.tops)=AObj.fro 6 (List.map zR i_5.i.tops)∧List.map zG (xH i 2 i')=List.map zG (i_5.i.out++mkq i_5.i.tops (Leg.mk i_5.i.a (zB i_5.sa)) (Leg.mk i_5.i.b (zB i_5.sb)) i_5.i.less)∧I i'∧μ i'<μ i_3∧AObj.fro 6 (List.map zR i.tops)=AObj.fro 6 (List.map zR i.tops)∧cV i=cV i∧AObj.fro 1 (iE i.p.settle)=AObj.fro 1 (iE i.p.settle)∧AObj.fro 1 (iE i.p.months)=AObj.fro 1 (iE i.p.months)) (∃(i0:Nat),(↑i0:Int)=0∧AObj.fro 6 (List.map zR i.tops)=AObj.fro 6 (List.map zR i.tops)∧List.map zG (xH i 2 (i.p.months.length-(i.inst.toNat+1))++xC i 2 i0)=List.map zG (xH i 2 i_3)∧∃(I:Nat→Prop),∃(μ:Nat→Nat),I i0∧∀(i_4:Nat),I i_4→cnd (decide ((↑i_4:Int)<i.inst)) (∃(i_5:gX),sb i_5.p.code=sb i.p.code∧iE i_5.p.months=iE i.p.months∧i_5.p.tick=i.p.tick∧i_5.p.low=i.p.low∧i_5.p.high=i.p.high∧i_5.p.wide=i.p.wide∧i_5.p.rule=i.p.rule∧i_5.p.top=i.p.top∧i_5.p.least=i.p.least∧i_5.p.part=i.p.part∧iE i_5.p.settle=iE i.p.settle∧i_5.a=(↑i_4:Int)∧i_5.b=i.inst∧(i_5.p.code.length≤1099511627776∧i_5.p.months.length≤1099511627776∧i_5.p.settle.length≤1099511627776)∧∀(o:Unit),True→∃(i_6:Int),i_6=2∧(i_6=1∨i_6=2)∧∀(o:Unit),True→∃(i_7:MkJ),i_7.i.a=(i_5.p.spread i_5.a i_5.b).fst∧zB i_7.sa=3-i_6∧i_7.i.b=(↑i_4:Int)∧zB i_7.sb=2∧i_7.i.less=true∧AObj.fro 6 (List.map zR i_7.i.tops)=AObj.fro 6 (List.map zR i.tops)∧List.map zG i_7.i.out=List.map zG (xH i 2 (i.p.months.length-(i.inst.toNat+1))++xC i 2 i_4)∧(0≤i_7.i.a∧i_7.i.a<(↑i_7.i.tops.length:Int)∧0≤i_7.i.b∧i_7.i.b<(↑i_7.i.tops.length:Int)∧(i_7.i.tops.length≤1000000∧∀(t:Top),t∈i_7.i.tops→((-9223372036854775808)≤t.p1∧t.p1≤9223372036854775807)∧(-9223372036854775808)≤t.p2∧t.p2≤9223372036854775807)∧i_7.i.out.length≤1000)∧∀(o:Unit),True→∃(i':Nat),(↑i':Int)=IntKind.i64.wrap ((↑i_4:Int)+1)∧AObj.fro 6 (List.map zR i.tops)=AObj.fro 6 (List.map zR i_7.i.tops)∧List.map zG (xH i 2 (i.p.months.length-(i.inst.toNat+1))++xC i 2 i')=List.map zG (i_7.i.out++mkq i_7.i.tops (Leg.mk i_7.i.a (zB i_7.sa)) (Leg.mk i_7.i.b (zB i_7.sb)) i_7.i.less)∧I i'∧μ i'<μ i_4∧AObj.fro 6 (List.map zR i.tops)=AObj.fro 6 (List.map zR i.tops)∧AObj.fro 6 (List.map zR i.tops)=AObj.fro 6 (List.map zR i.tops)∧cV i=cV i∧AObj.fro 1 (iE i.p.settle)=AObj.fro 1 (iE i.p.settle)∧AObj.fro 1 (iE i.p.months)=AObj.fro 1 (iE i.p.months)) (∃(o:Unit),List.map zG (xG i 2)=List.map zG (xH i 2 (i.p.months.length-(i.inst.toNat+1))++xC i 2 i_4)∧True)))))))
theorem yBf (hG:GOk Tryz.prog ([(24,pcountC),(51,legsC),(54,spreadC),(52,iotherC),(53,mkAnyC)])) (h:∀(i:hP),all2C.cnd i→z5d i):all2C.ok Tryz.prog 25:=okw mixed hG 0 (fun _=>[]) (fun i=>yCh i 2) [] Tryz.func25 h
@[reducible] def cO (j:aR) (i:aR):AObj:=Sx.AObj.cells [V.d (D.v (Value.string (sb j.i.p.code))),V.own (0:Nat),V.d (D.v (.int .i64 j.i.p.tick)),V.d (D.v (.int .i64 j.i.p.low)),V.d (D.v (.int .i64 j.i.p.high)),V.d (D.v (.int .i64 j.i.p.wide)),V.d (D.v (.int .i64 j.i.p.rule)),V.d (D.v (.int .i64 j.i.p.top)),V.d (D.v (.int .i64 j.i.p.least)),V.d (D.v (.int .i64 j.i.p.part)),V.own ((0:Nat)+(1:Nat))] (29:Nat)
def zOj (j:aR):Prop:=
 ∃(i:aR),sb i.i.p.code=sb j.i.p.code∧iE i.i.p.months=iE j.i.p.months∧i.i.p.tick=j.i.p.tick∧i.i.p.low=j.i.p.low∧i.i.p.high=j.i.p.high∧i.i.p.wide=j.i.p.wide∧i.i.p.rule=j.i.p.rule∧i.i.p.top=j.i.p.top∧i.i.p.least=j.i.p.least∧i.i.p.part=j.i.p.part∧iE i.i.p.settle=iE j.i.p.settle∧List.map zR i.i.tops=List.map zR j.i.tops∧i.i.inst=j.i.inst∧zB i.s=zB j.s∧((i.i.p.code.length≤1099511627776∧i.i.p.months.length≤1099511627776∧i.i.p.settle.length≤1099511627776)∧i.i.tops.length≤1000000∧∀(t:Top),t∈i.i.tops→((-9223372036854775808)≤t.p1∧t.p1≤9223372036854775807)∧(-9223372036854775808)≤t.p2∧t.p2≤9223372036854775807)∧∀(o:Unit),True→∃(i0:Nat),(↑i0:Int)=0∧List.map zG (List.filter (fun(q:Sx.Quote) ↦ decide (j.i.p.price j.i.inst q.price=0)) (List.take i0 (xG j.i (zB j.s))))=[]∧∃(I:Nat→Prop),∃(μ:Nat→Nat),I i0∧∀(i_1:Nat),I i_1→cnd (decide ((↑i_1:Int)<(↑(List.map zG (xG i.i (zB i.s))).length:Int))) ((0≤(↑i_1:Int)∧(↑i_1:Int)<(↑(List.map zG (xG i.i (zB i.s))).length:Int))∧∃(n:Int),∃(n_1:Int),∃(n_2:Int),∃(n_3:Int),∃(n_4:Int),∃(n_5:Int),zI (List.map zG (xG i.i (zB i.s))) (↑i_1:Int).toNat 0 6=some [D.v (.int .i64 n),D.v (.int .i64 n_1),D.v (.int .i64 n_2),D.v (.int .i64 n_3),D.v (.int .i64 n_4),D.v (.int .i64 n_5)]∧∃(i_2:gX),sb i_2.p.code=sb j.i.p.code∧iE i_2.p.months=iE j.i.p.months∧i_2.p.tick=j.i.p.tick∧i_2.p.low=j.i.p.low∧i_2.p.high=j.i.p.high∧i_2.p.wide=j.i.p.wide∧i_2.p.rule=j.i.p.rule∧i_2.p.top=j.i.p.top∧i_2.p.least=j.i.p.least∧i_2.p.part=j.i.p.part∧iE i_2.p.settle=iE j.i.p.settle∧i_2.a=j.i.inst∧i_2.b=n∧(i_2.p.code.length≤1099511627776∧i_2.p.months.length≤1099511627776∧i_2.p.settle.length≤1099511627776)∧∀(o:Unit),True→cnd (i_2.p.price i_2.a i_2.b==0) (((List.map zG (List.filter (fun(q:Sx.Quote) ↦ decide (j.i.p.price j.i.inst q.price=0)) (List.take i_1 (xG j.i (zB j.s))))).length+1)*(48:Nat)≤(70368744177664:Nat)∧∃(i':Nat),(↑i':Int)=IntKind.i64.wrap ((↑i_1:Int)+1)∧List.map zG (List.filter (fun(q:Sx.Quote) ↦ decide (j.i.p.price j.i.inst q.price=0)) (List.take i' (xG j.i (zB j.s))))=List.map zG (List.filter (fun(q:Sx.Quote) ↦ decide (j.i.p.price j.i.inst q.price=0)) (List.take i_1 (xG j.i (zB j.s))))++[[D.v (.int .i64 n),D.v (.int .i64 n_1),D.v (.int .i64 n_2),D.v (.int .i64 n_3),D.v (.int .i64 n_4),D.v (.int .i64 n_5)]]∧I i'∧μ i'<μ i_1∧AObj.own 62 6 (List.map zG (xG i.i (zB i.s)))=AObj.own 62 6 (List.map zG (xG i.i (zB i.s)))∧cO j i=cO j i∧AObj.fro 1 (iE j.i.p.settle)=AObj.fro 1 (iE j.i.p.settle)∧AObj.fro 1 (iE j.i.p.months)=AObj.fro 1 (iE j.i.p.months)) (∃(i':Nat),(↑i':Int)=IntKind.i64.wrap ((↑i_1:Int)+1)∧List.map zG (List.filter (fun(q:Sx.Quote) ↦ decide (j.i.p.price j.i.inst q.price=0)) (List.take i' (xG j.i (zB j.s))))=List.map zG (List.filter (fun(q:Sx.Quote) ↦ decide (j.i.p.price j.i.inst q.price=0)) (List.take i_1 (xG j.i (zB j.s))))∧I i'∧μ i'<μ i_1∧AObj.own 62 6 (List.map zG (xG i.i (zB i.s)))=AObj.own 62 6 (List.map zG (xG i.i (zB i.s)))∧cO j i=cO j i∧AObj.fro 1 (iE j.i.p.settle)=AObj.fro 1 (iE j.i.p.settle)∧AObj.fro 1 (iE j.i.p.months)=AObj.fro 1 (iE j.i.p.months))) (∃(o:Unit),List.map zG (kJ j.i (zB j.s))=List.map zG (List.filter (fun(q:Sx.Quote) ↦ decide (j.i.p.price j.i.inst q.price=0)) (List.take i_1 (xG j.i (zB j.s))))∧True)
theorem zUq (hG:GOk Tryz.prog ([(25,allC),(72,priceC)])) (h:∀(j:aR),quotesC.cnd j→zOj j):quotesC.ok Tryz.prog 67:=okw mixed hG 0 (fun _=>[]) (fun j=>z3m j) [] Tryz.func67 h
@[reducible] def mF:AObj:=Sx.AObj.cells (Sx.V.agg [V.d (D.v (.int .i64 0)),V.d (D.v (.int .i64 0)),V.d (D.v (.int .i64 0)),V.d (D.v (.int .i64 0)),V.d (D.v (.int .i64 0)),V.d (D.v (.int .i64 0))]).cl (62:Nat)
@[reducible] def sW (i:BsI):Prop:=∃(n:Int),∃(n_1:Int),∃(n_2:Int),∃(n_3:Int),∃(n_4:Int),∃(n_5:Int),zI (List.map zG i.l) (Int.toNat 0) 0 6=some [D.v (.int .i64 n),D.v (.int .i64 n_1),D.v (.int .i64 n_2),D.v (.int .i64 n_3),D.v (.int .i64 n_4),D.v (.int .i64 n_5)]∧∃(i0:Nat),(↑i0:Int)=0∧(zX (List.take (max i0 1) i.l) i.s).fst.price=n∧(zX (List.take (max i0 1) i.l) i.s).fst.qty=n_1∧(zX (List.take (max i0 1) i.l) i.s).fst.a.inst=n_2∧(zX (List.take (max i0 1) i.l) i.s).fst.a.side=n_3∧(zX (List.take (max i0 1) i.l) i.s).fst.b.inst=n_4∧(zX (List.take (max i0 1) i.l) i.s).fst.b.side=n_5∧∃(I:Nat→Prop),∃(μ:Nat→Nat),I i0∧∀(i_1:Nat),I i_1→cnd (decide ((↑i_1:Int)<(↑(List.map zG i.l).length:Int))) ((0≤(↑i_1:Int)∧(↑i_1:Int)<(↑(List.map zG i.l).length:Int))∧∃(n:Int),∃(n_6:Int),∃(n_7:Int),∃(n_8:Int),∃(n_9:Int),∃(n_10:Int),zI (List.map zG i.l) (↑i_1:Int).toNat 0 6=some [D.v (.int .i64 n),D.v (.int .i64 n_6),D.v (.int .i64 n_7),D.v (.int .i64 n_8),D.v (.int .i64 n_9),D.v (.int .i64 n_10)]∧∃(i_2:I3'),i_2.side=i.s∧i_2.x=n∧i_2.y=(zX (List.take (max i_1 1) i.l) i.s).fst.price∧True∧∀(o:Unit),True→cnd (btr i_2.side i_2.x i_2.y) (∃(i':Nat),(↑i':Int)=IntKind.i64.wrap ((↑i_1:Int)+1)∧(zX (List.take (max i' 1) i.l) i.s).fst.price=n∧(zX (List.take (max i' 1) i.l) i.s).fst.qty=n_6∧(zX (List.take (max i' 1) i.l) i.s).fst.a.inst=n_7∧(zX (List.take (max i' 1) i.l) i.s).fst.a.side=n_8∧(zX (List.take (max i' 1) i.l) i.s).fst.b.inst=n_9∧(zX (List.take (max i' 1) i.l) i.s).fst.b.side=n_10∧I i'∧μ i'<μ i_1∧mF=mF) (∃(i':Nat),(↑i':Int)=IntKind.i64.wrap ((↑i_1:Int)+1)∧(zX (List.take (max i' 1) i.l) i.s).fst.price=(zX (List.take (max i_1 1) i.l) i.s).fst.price∧(zX (List.take (max i' 1) i.l) i.s).fst.qty=(zX (List.take (max i_1 1) i.l) i.s).fst.qty∧(zX (List.take (max i' 1) i.l) i.s).fst.a.inst=(zX (List.take (max i_1 1) i.l) i.s).fst.a.inst∧(zX (List.take (max i' 1) i.l) i.s).fst.a.side=(zX (List.take (max i_1 1) i.l) i.s).fst.a.side∧(zX (List.take (max i' 1) i.l) i.s).fst.b.inst=(zX (List.take (max i_1 1) i.l) i.s).fst.b.inst∧(zX (List.take (max i' 1) i.l) i.s).fst.b.side=(zX (List.take (max i_1 1) i.l) i.s).fst.b.side∧I i'∧μ i'<μ i_1∧mF=mF)) (∃(o:Unit),(zX i.l i.s).fst.price=(zX (List.take (max i_1 1) i.l) i.s).fst.price∧(zX i.l i.s).fst.qty=(zX (List.take (max i_1 1) i.l) i.s).fst.qty∧(zX i.l i.s).fst.a.inst=(zX (List.take (max i_1 1) i.l) i.s).fst.a.inst∧(zX i.l i.s).fst.a.side=(zX (List.take (max i_1 1) i.l) i.s).fst.a.side∧(zX i.l i.s).fst.b.inst=(zX (List.take (max i_1 1) i.l) i.s).fst.b.inst∧(zX i.l i.s).fst.b.side=(zX (List.take (max i_1 1) i.l) i.s).fst.b.side∧(zX i.l i.s).snd=true∧True)
@[reducible] def eV (i:BsI):Prop:=∃(o:Unit),(zX i.l i.s).fst.price=0∧(zX i.l i.s).fst.qty=0∧(zX i.l i.s).fst.a.inst=0∧(zX i.l i.s).fst.a.side=0∧(zX i.l i.s).fst.b.inst=0∧(zX i.l i.s).fst.b.side=0∧(zX i.l i.s).snd=false∧True
def zLo (i:BsI):Prop:=
 cnd ((↑(List.map zG i.l).length:Int)==0) (eV i) (cnd (i.s !=1) (cnd (i.s !=2) (eV i) (((0:Int)≤(0:Int)∧0<(↑(List.map zG i.l).length:Int))∧sW i)) (((0:Int)≤(0:Int)∧0<(↑(List.map zG i.l).length:Int))∧sW i))
theorem z4t (hG:GOk Tryz.prog ([(94,ibetterC)])) (h:∀(i:BsI),bestQC.cnd i→zLo i):bestQC.ok Tryz.prog 66:=okw mixed hG 0 (fun _=>[]) (fun i=>z5y i) [] Tryz.func66 h
end Sx
