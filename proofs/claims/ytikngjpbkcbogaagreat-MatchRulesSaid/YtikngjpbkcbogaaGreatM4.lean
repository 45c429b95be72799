/- Texts of ours, one behind the other: a walk that the kernel reckons, and contracts of functions. No condition. -/
import Derived.Test.YtikngjpbkcbogaaGreatRows
import Derived.Test.YtikngjpbkcbogaaGreatM3
namespace Sx
set_option linter.unusedVariables false
open Go Cv Go.Proofs
theorem kp {P:Prop} (h:P:=by(repeat'(first|exact rfl|exact trivial|assumption|apply And.intro|refine fun(_:Unit) (_:True)=>?_|refine Exists.intro () ?_|omega|(dsimp only;omega)))):P:=h
theorem mixed:Tryz.prog.follows .mixedOrders=true:=by kernel_rfl
theorem okw {P:Program} {f:FuncId} {fn:Func} {C:Con} {G:List (Nat×Con)} {V:C.ι→Prop} (hm:P.follows .mixedOrders=true) (hG:GOk P G) (d:Nat) (J:C.ι→List (Nat×SAnn)) (an:C.ι→List SAnn) (op:List Nat) (hf:P.funcs[f]? =some fn) (h:∀i,C.cnd i→V i) (hb:fn.body=some (fn.body.getD .skip):=by kernel_rfl) (hbd:k7 P f=true:=by kernel_rfl) (hok:okC fn.ntmps (fn.body.getD .skip)=true:=by kernel_rfl) (hsz:∀i,Nat.ble (C.pat i).length fn.ntmps=true:=by intro _;kernel_rfl) (e:∀i,V i=walk P G d (J i) (an i) op fn (fn.body.getD .skip) (C.pat i) (C.pre i) (C.alts i):=by intro _;kernel_rfl):C.ok P f:=cK hm G hG d J an op hf hb hbd hok hsz fun i hc=>Eq.mp (e i) (h i hc)
structure Lv where
 price:Int
 qty:Int
 count:Int
def lvV (l:Lv):V:= .agg [zE l.price,zE l.qty,zE l.count]
open Go Cv Go.Proofs
def sb (l:List UInt8):ByteArray:=⟨l.toArray⟩
@[reducible] def sV (l:List UInt8):V:= .d (.v (.string (sb l)))
def sF (l:List UInt8):Nat×Nat:=Utf8.decode (sb l) 0
def dX:Nat→Nat→List UInt8→List (Nat×Nat)
 |0,_,_=>[]
 |k+1,p,l=>match l with
  |[]=>[]
  |_=>(p,(sF l).1)::dX k (p+(sF l).2) (l.drop (sF l).2)
def wM (s:List UInt8) (p:Nat):List (Nat×Nat):=dX (s.length-p) p (s.drop p)
def jP (s:List UInt8):List Nat:=(wM s 0).map (·.2)
def countC:Con:=con1 (List UInt8) (fun s=>[sV s]) (fun _=>[]) (fun s=>s.length≤1099511627776) (fun s=>zE (jP s).length) (fun _=>[])
def z7l (s:List UInt8):List SAnn:=[{ι:=Nat×Nat,slots:=fun x=>[(3,zE x.2),(5,.nm 0 0)],rows:=fun x=>[.iter (sb s) x.1]}]
def jO (r:Nat):Bool:=(decide (65≤r) && decide (r≤90))||(decide (913≤r) && decide (r≤937) && decide (r≠930))
def qU (s:List UInt8):Bool:=(jP s).all jO && decide (s≠[]) && decide ((jP s).length≤4)
def symC:Con:=con1 (List UInt8) (fun s=>[sV s]) (fun _=>[]) (fun s=>s.length≤1099511627776) (fun s=>yN (qU s)) (fun _=>[])
def yAp (s:List UInt8):List SAnn:=[{ι:=Nat,slots:=fun x=>[(7,.nm 0 0)],rows:=fun x=>[.iter (sb s) x]}]
def iE (l:List Int):List (List D):=l.map fun n=>[.v (.int .i64 n)]
@[reducible] def iV (l:List Int):V:=roV 1 (iE l)
structure Prd where
 code:List UInt8
 months:List Int
 tick:Int
 low:Int
 high:Int
 wide:Int
 rule:Int
 top:Int
 least:Int
 part:Int
 settle:List Int
 deriving DecidableEq
@[reducible] def Prd.cells (p:Prd):List V:=[sV p.code,iV p.months,zE p.tick,zE p.low,zE p.high,zE p.wide,zE p.rule,zE p.top,zE p.least,zE p.part,iV p.settle]
@[reducible] def prdV (p:Prd):V:= .agg p.cells
@[reducible] def Prd.small (p:Prd):Prop:=p.code.length≤1099511627776∧p.months.length≤1099511627776∧p.settle.length≤1099511627776
def xP (l:List Int) (k:Nat):Bool:=decide (0≤l.getD k 0) && decide (l.getD k 0≤1199) && (decide (k=0)||decide (l.getD (k-1) 0<l.getD k 0))
def yU (l:List Int):Bool:=(List.range l.length).all (xP l) && decide (2≤l.length) && decide (l.length≤6)
def monthsC:Con:=con1 (List Int) (fun l=>[iV l]) (fun _=>[]) (fun l=>l.length≤1099511627776) (fun l=>yN (yU l)) (fun _=>[])
def z1a:List SAnn:=[{ι:=Nat,slots:=fun j=>[(7,zE j)],rows:=fun _=>[]}]
structure yBn where
 l:List Int
def gG (l:List Int):Int:=l.tail.foldl min (l.headD 0)
def g7 (l:List Int):Int:=l.tail.foldl max (l.headD 0)
def minC:Con:=con1 (List Int) (fun l=>[iV l]) (fun _=>[]) (fun l=>0<l.length∧l.length≤1099511627776) (fun l=>zE (gG l)) (fun _=>[])
def maxC:Con:=con1 (List Int) (fun l=>[iV l]) (fun _=>[]) (fun l=>0<l.length∧l.length≤1099511627776) (fun l=>zE (g7 l)) (fun _=>[])
def yBk (l:List Int):List SAnn:=[{ι:=Nat,slots:=fun j=>[(3,zE (gG (l.take j))),(4,zE j)],rows:=fun _=>[]}]
def yAz (l:List Int):List SAnn:=[{ι:=Nat,slots:=fun j=>[(3,zE (g7 (l.take j))),(4,zE j)],rows:=fun _=>[]}]
set_option maxRecDepth 100000
open Go Cv Go.Proofs
def zIg (s:List UInt8):Prop:=
 ∃(i0:Nat×Nat),(↑i0.snd:Int)=0∧sb s=sb s∧i0.fst=0∧∃(I:Nat×Nat→Prop),∃(μ:Nat×Nat→Nat),I i0∧∀(i:Nat×Nat),I i→cnd (i.fst.blt (sb s).size) (∃(i':Nat×Nat),(↑i'.snd:Int)=IntKind.i64.wrap ((↑i.snd:Int)+1)∧sb s=sb s∧i'.fst=i.fst+(Utf8.decode (sb s) i.fst).snd∧I i'∧μ i'<μ i∧True) (∃(o:Unit),(↑(jP s).length:Int)=(↑i.snd:Int)∧True)
theorem z0t (hG:GOk Tryz.prog ([])) (h:∀(s:List UInt8),countC.cnd s→zIg s):countC.ok Tryz.prog 85:=okw mixed hG 0 (fun _=>[]) (fun s=>z7l s) [] Tryz.func85 h
def z7a (s:List UInt8):Prop:=
 ∃(i0:Nat),sb s=sb s∧i0=0∧∃(I:Nat→Prop),∃(μ:Nat→Nat),I i0∧∀(i:Nat),I i→cnd (i.blt (sb s).size) (cnd (decide ((↑(Utf8.decode (sb s) i).fst:Int)≥65)) (cnd (decide ((↑(Utf8.decode (sb s) i).fst:Int)≤90)) (∃(i':Nat),sb s=sb s∧i'=i+(Utf8.decode (sb s) i).snd∧I i'∧μ i'<μ i∧True) (cnd (decide ((↑(Utf8.decode (sb s) i).fst:Int)≥913)) (cnd (decide ((↑(Utf8.decode (sb s) i).fst:Int)≤937)) (cnd (!(↑(Utf8.decode (sb s) i).fst:Int) !=930) (∃(o:Unit),qU s=false∧True) (∃(i':Nat),sb s=sb s∧i'=i+(Utf8.decode (sb s) i).snd∧I i'∧μ i'<μ i∧True)) (∃(o:Unit),qU s=false∧True)) (∃(o:Unit),qU s=false∧True))) (cnd (decide ((↑(Utf8.decode (sb s) i).fst:Int)≥913)) (cnd (decide ((↑(Utf8.decode (sb s) i).fst:Int)≤937)) (cnd (!(↑(Utf8.decode (sb s) i).fst:Int) !=930) (∃(o:Unit),qU s=false∧True) (∃(i':Nat),sb s=sb s∧i'=i+(Utf8.decode (sb s) i).snd∧I i'∧μ i'<μ i∧True)) (∃(o:Unit),qU s=false∧True)) (∃(o:Unit),qU s=false∧True))) (cnd (!(sb s).toList==(ByteArray.mk #[]).toList) (∃(i:List UInt8),sb i=sb s∧i.length≤1099511627776∧∀(o:Unit),True→∃(o:Unit),qU s=decide ((↑(jP i).length:Int)≤4)∧True) (∃(o:Unit),qU s=false∧True))
theorem z9q (hG:GOk Tryz.prog ([(85,countC)])) (h:∀(s:List UInt8),symC.cnd s→z7a s):symC.ok Tryz.prog 50:=okw mixed hG 0 (fun _=>[]) (fun s=>yAp s) [] Tryz.func50 h
def zDl (l:List Int):Prop:=
 ∃(i0:Nat),(↑i0:Int)=0∧∃(I:Nat→Prop),∃(μ:Nat→Nat),I i0∧∀(i:Nat),I i→cnd (decide ((↑i:Int)<(↑(iE l).length:Int))) ((0≤(↑i:Int)∧(↑i:Int)<(↑(iE l).length:Int))∧∃(n:Int),zI (iE l) (↑i:Int).toNat 0 1=some [D.v (.int .i64 n)]∧cnd (decide (n<0)) (∃(o:Unit),yU l=false∧True) (cnd (decide (n>1199)) (∃(o:Unit),yU l=false∧True) (cnd (decide ((↑i:Int)>0)) ((0≤IntKind.i64.wrap ((↑i:Int)-1)∧IntKind.i64.wrap ((↑i:Int)-1)<(↑(iE l).length:Int))∧∃(n_1:Int),zI (iE l) (IntKind.i64.wrap ((↑i:Int)-1)).toNat 0 1=some [D.v (.int .i64 n_1)]∧cnd (decide (n_1≥n)) (∃(o:Unit),yU l=false∧True) (∃(i':Nat),(↑i':Int)=IntKind.i64.wrap ((↑i:Int)+1)∧I i'∧μ i'<μ i∧True)) (∃(i':Nat),(↑i':Int)=IntKind.i64.wrap ((↑i:Int)+1)∧I i'∧μ i'<μ i∧True)))) (cnd (decide ((↑(iE l).length:Int)≥2)) (∃(o:Unit),yU l=decide ((↑(iE l).length:Int)≤6)∧True) (∃(o:Unit),yU l=false∧True))
theorem zWv (hG:GOk Tryz.prog ([])) (h:∀(l:List Int),monthsC.cnd l→zDl l):monthsC.ok Tryz.prog 51:=okw mixed hG 0 (fun _=>[]) (fun _=>z1a) [] Tryz.func51 h
def z4c (l:List Int):Prop:=
 cnd (decide ((↑(iE l).length:Int)<1)) False (((0:Int)≤(0:Int)∧0<(↑(iE l).length:Int))∧∃(n:Int),zI (iE l) (Int.toNat 0) 0 1=some [D.v (.int .i64 n)]∧∃(i0:Nat),gG (List.take i0 l)=n∧(↑i0:Int)=1∧∃(I:Nat→Prop),∃(μ:Nat→Nat),I i0∧∀(i:Nat),I i→cnd (decide ((↑i:Int)<(↑(iE l).length:Int))) ((0≤(↑i:Int)∧(↑i:Int)<(↑(iE l).length:Int))∧∃(n:Int),zI (iE l) (↑i:Int).toNat 0 1=some [D.v (.int .i64 n)]∧∃(i':Nat),gG (List.take i' l)=min (gG (List.take i l)) n∧(↑i':Int)=IntKind.i64.wrap ((↑i:Int)+1)∧I i'∧μ i'<μ i∧True) (∃(o:Unit),gG l=gG (List.take i l)∧True))
theorem z9p (hG:GOk Tryz.prog ([])) (h:∀(l:List Int),minC.cnd l→z4c l):minC.ok Tryz.prog 53:=okw mixed hG 0 (fun _=>[]) (fun l=>yBk l) [] Tryz.func53 h
def z5u (l:List Int):Prop:=
 cnd (decide ((↑(iE l).length:Int)<1)) False (((0:Int)≤(0:Int)∧0<(↑(iE l).length:Int))∧∃(n:Int),zI (iE l) (Int.toNat 0) 0 1=some [D.v (.int .i64 n)]∧∃(i0:Nat),g7 (List.take i0 l)=n∧(↑i0:Int)=1∧∃(I:Nat→Prop),∃(μ:Nat→Nat),I i0∧∀(i:Nat),I i→cnd (decide ((↑i:Int)<(↑(iE l).length:Int))) ((0≤(↑i:Int)∧(↑i:Int)<(↑(iE l).length:Int))∧∃(n:Int),zI (iE l) (↑i:Int).toNat 0 1=some [D.v (.int .i64 n)]∧∃(i':Nat),(g7 (List.take i' l)=if n>g7 (List.take i l)then n else g7 (List.take i l))∧(↑i':Int)=IntKind.i64.wrap ((↑i:Int)+1)∧I i'∧μ i'<μ i∧True) (∃(o:Unit),g7 l=g7 (List.take i l)∧True))
theorem z8f (hG:GOk Tryz.prog ([])) (h:∀(l:List Int),maxC.cnd l→z5u l):maxC.ok Tryz.prog 54:=okw mixed hG 0 (fun _=>[]) (fun l=>yAz l) [] Tryz.func54 h
set_option linter.unusedSimpArgs false
open Go Cv Go.Proofs
@[simp] theorem zOe (s:List UInt8):(sb s).size=s.length:=by simp[sb,ByteArray.size]
theorem mI (s:List UInt8):(sb s).toList=s:=by rw[ByteArray.toList_eq];rfl
theorem z7f (s:List UInt8) (p k:Nat):(sb s).get! (p+k)=(sb (s.drop p)).get! (0+k):=by
 simp only[sb,ByteArray.get!,Nat.zero_add]
 simp only[List.getElem!_toArray,List.getElem!_eq_getElem?_getD,List.getElem?_drop]
theorem nJ (s:List UInt8) (p:Nat):Utf8.decode (sb s) p=sF (s.drop p):=by
 have h (k:Nat):(decide (p+k<(sb s).size))=decide (0+k<(sb (s.drop p)).size):=by
  simp only[zOe,List.length_drop]
  by_cases h:p+k<s.length
  ·rw[decide_eq_true h,decide_eq_true (by omega)]
  ·rw[decide_eq_false h,decide_eq_false (by omega)]
 unfold sF Utf8.decode
 simp only[z7f s p,h]
theorem uS (s:List UInt8) {p:Nat} (h:p<s.length):1≤(Utf8.decode (sb s) p).2∧p+(Utf8.decode (sb s) p).2≤s.length:=by
 unfold Utf8.decode
 simp only[zOe,Bool.and_eq_true,decide_eq_true_eq]
 split
 ·exact⟨by simp,by simp;omega⟩
 split
 ·rename_i h1
  split
  ·exact⟨by simp,by simp;omega⟩
  ·exact⟨by simp,by simp;omega⟩
 split
 ·rename_i h1
  split
  ·exact⟨by simp,by simp;omega⟩
  ·exact⟨by simp,by simp;omega⟩
 split
 ·rename_i h1
  split
  ·exact⟨by simp,by simp;omega⟩
  ·exact⟨by simp,by simp;omega⟩
 ·exact⟨by simp,by simp;omega⟩
theorem z5o {l:List UInt8} (h:l≠[]):1≤(sF l).2∧(sF l).2≤l.length:=by
 have:=uS l (p:=0) (by cases l<;>simp_all)
 rw[sF];omega
theorem gF:∀(k:Nat) (p:Nat) (l:List UInt8),l.length≤k→dX k p l=dX l.length p l
 |0,p,l,h=>by
  have:l=[]:=List.eq_nil_of_length_eq_zero (by omega)
  subst this;rfl
 |k+1,p,[],h=>rfl
 |k+1,p,b::l,h=>by
  have hw:=z5o (l:=b::l) (by simp)
  have hl:((b::l).drop (sF (b::l)).2).length≤l.length:=by rw[List.length_drop,List.length_cons];omega
  rw[List.length_cons]
  simp only[dX]
  rw[gF k _ _ (by rw[List.length_cons]at h;omega),gF l.length _ _ hl]
theorem vK {s:List UInt8} {p:Nat} (h:s.length≤p):wM s p=[]:=by
 rw[wM,show s.length-p=0 by omega];rfl
theorem wA {s:List UInt8} {p:Nat} (h:p<s.length):wM s p=(p,(Utf8.decode (sb s) p).1)::wM s (p+(Utf8.decode (sb s) p).2):=by
 obtain⟨k,hk⟩:∃k,s.length-p=k+1:=⟨s.length-p-1,by omega⟩
 have hw:=uS s h
 obtain⟨b,l,hb⟩:∃b l,s.drop p=b::l:=by
  cases hd:s.drop p with
  |nil=>rw[List.drop_eq_nil_iff]at hd;omega
  |cons b l=>exact⟨b,l,rfl⟩
 have hlen:(b::l).length=s.length-p:=by rw[← hb,List.length_drop]
 rw[wM,hk,hb,nJ,hb,wM]
 rw[nJ,hb]at hw
 simp only[dX]
 have e:(b::l).drop (sF (b::l)).2=s.drop (p+(sF (b::l)).2):=by rw[← hb,List.drop_drop]
 rw[e,gF k _ _ (by rw[List.length_drop];omega),List.length_drop]
theorem rP (s:List UInt8):∀(k p:Nat),s.length-p≤k→(wM s p).length≤s.length-p
 |0,p,h=>by rw[vK (by omega)];simp
 |k+1,p,h=>by
  by_cases hp:p<s.length
  ·have hw:=uS s hp
   rw[wA hp,List.length_cons]
   have:=rP s k (p+(Utf8.decode (sb s) p).2) (by omega)
   omega
  ·rw[vK (by omega)];simp
theorem zAy (s:List UInt8):(jP s).length≤s.length:=by
 rw[jP,List.length_map]
 have:=rP s s.length 0 (by omega)
 omega
theorem zSo {a b:Nat} (h:Nat.blt a b=false):b≤a:=by
 rcases Nat.lt_or_ge a b with h1|h1
 ·rw[show Nat.blt a b=true by rw[Nat.blt_eq];exact h1]at h;cases h
 ·exact h1
theorem zXm:(ByteArray.mk #[]).toList=[]:=mI []
theorem z3k (s:List UInt8) (h:countC.cnd s):zIg s:=by
 have h:s.length≤1099511627776:=h
 have hr:=zAy s
 unfold zIg
 refine⟨(0,0),rfl,rfl,rfl,fun x=>x.1≤s.length∧x.2+(wM s x.1).length=(jP s).length,fun x=>s.length-x.1,⟨by omega,by rw[jP,List.length_map];simp⟩,?_⟩
 rintro⟨p,n⟩ ⟨h1,h2⟩
 dsimp only at h1 h2 ⊢
 refine Cv.cnd.mk (fun hp=> ?_) (fun hp=> ?_)
 ·have hp:p<s.length:=by simpa[Nat.blt_eq]using hp
  have hw:=uS s hp
  rw[wA hp,List.length_cons]at h2
  refine⟨(p+(Utf8.decode (sb s) p).2,n+1),?_,rfl,rfl,⟨hw.2,by(first|omega|(dsimp only;omega))⟩,by(first|omega|(dsimp only;omega)),trivial⟩
  rw[w64 (by omega)];rfl
 ·have hp:s.length≤p:=by have:=zSo hp;simpa using this
  rw[vK hp]at h2
  exact⟨(),by rw[← h2];rfl,trivial⟩
theorem zVh:countC.ok Tryz.prog 85:=z0t gok0 z3k
theorem yAy (s:List UInt8) (h:symC.cnd s):z7a s:=by
 have h:s.length≤1099511627776:=h
 unfold z7a
 refine⟨0,rfl,rfl,fun p=>p≤s.length∧(jP s).all jO=(wM s p).all fun x=>jO x.2,fun p=>s.length-p,⟨by omega,by rw[jP,List.all_map];rfl⟩,?_⟩
 rintro p ⟨h1,h2⟩
 refine Cv.cnd.mk (fun hp=> ?_) (fun hp=> ?_)
 ·have hp:p<s.length:=by simpa[Nat.blt_eq]using hp
  have hw:=uS s hp
  rw[wA hp,List.all_cons]at h2
  generalize hc:(Utf8.decode (sb s) p).1=c at h2 ⊢
  generalize hww:(Utf8.decode (sb s) p).2=w at h2 hw ⊢
  dsimp only at h2
  have bad:jO c=false→∃(o:Unit),qU s=false∧True:=fun e=>⟨(),by rw[qU,h2,e];rfl,trivial⟩
  have good:jO c=true→∃i':Nat,sb s=sb s∧i'=p+w∧(i'≤s.length∧(jP s).all jO=(wM s i').all fun x=>jO x.2)∧s.length-i'<s.length-p∧True:=fun e=>⟨p+w,rfl,rfl,⟨hw.2,by rw[h2,e];rfl⟩,by omega,trivial⟩
  refine zT (fun c1=>zT (fun c2=> ?_) (fun c2=>zT (fun c3=>zT (fun c4=>Cv.cnd.mk (fun c5=> ?_) (fun c5=> ?_)) (fun c4=> ?_)) (fun c3=> ?_))) (fun c1=>zT (fun c3=>zT (fun c4=>Cv.cnd.mk (fun c5=> ?_) (fun c5=> ?_)) (fun c4=> ?_)) (fun c3=> ?_))
  all_goals first|(refine good ?_;simp[jO]at*;omega)|(refine bad ?_;simp[jO]at*;omega)
 ·have hp:s.length≤p:=by have:=zSo hp;simpa using this
  rw[vK hp]at h2
  have h2:(jP s).all jO=true:=h2
  refine Cv.cnd.mk (fun e=>⟨s,rfl,h,fun _ _=>⟨(),?_,trivial⟩⟩) (fun e=>⟨(),?_,trivial⟩)
  ·rw[mI,zXm]at e
   have:s≠[]:=by simpa using e
   rw[qU,h2,decide_eq_true this]
   simp only[Bool.true_and]
   congr 1
   simp only[eq_iff_iff];omega
  ·have:s=[]:=by
    rw[mI,zXm]at e
    simpa using e
   rw[qU,this];rfl
theorem z4r:symC.ok Tryz.prog 50:=z9q (gokc zVh gok0) yAy
@[simp] theorem yX (l:List Int):(iE l).length=l.length:=by simp[iE]
theorem elI {l:List Int} {k:Nat} {n:Int} (h:l[k]? =some n):zI (iE l) k 0 1=some [D.v (.int .i64 n)]:=by
 simp[zI,iE,h];rfl
theorem z8 {α:Type} {l:List α} {i:Nat} (h:i<l.length):∃x,l[i]? =some x:=⟨l[i],List.getElem?_eq_getElem h⟩
theorem lI {n k:Nat} {f:Nat→Bool} (hk:k<n) (h:f k=false):(List.range n).all f=false:=by
 cases hh:(List.range n).all f
 ·rfl
 ·rw[List.all_eq_true]at hh
  rw[hh k (by simpa using hk)]at h;cases h
theorem zEg {n:Nat} {f:Nat→Bool} (h:∀k<n,f k=true):(List.range n).all f=true:=by
 rw[List.all_eq_true];intro k hk;exact h k (by simpa using hk)
theorem z0i (l:List Int) (h:monthsC.cnd l):zDl l:=by
 have h:l.length≤1099511627776:=h
 unfold zDl
 simp only[yX]
 refine⟨0,rfl,fun j=>j≤l.length∧∀k<j,xP l k=true,fun j=>l.length-j,⟨by omega,fun k hk=>by omega⟩,?_⟩
 rintro j ⟨h1,h2⟩
 have bad:j<l.length→xP l j=false→∃(o:Unit),yU l=false∧True:=fun hj e=>⟨(),by rw[yU,lI hj e];rfl,trivial⟩
 have good:j<l.length→xP l j=true→∃i':Nat,(i':Int)=IntKind.i64.wrap ((j:Int)+1)∧(i'≤l.length∧∀k<i',xP l k=true)∧l.length-i'<l.length-j∧True:=fun hj e=>⟨j+1,by rw[w64 (by omega)];rfl,⟨by omega,fun k hk=>by
  rcases Nat.lt_or_ge k j with hk'|hk'
  ·exact h2 k hk'
  ·obtain rfl:k=j:=by omega
   exact e⟩,by omega,trivial⟩
 refine zT (fun hj=> ?_) (fun hj=> ?_)
 ·have hj:j<l.length:=by omega
  obtain⟨n,hn⟩:=z8 hj
  have hg:l.getD j 0=n:=by simp[hn]
  refine⟨⟨by omega,by omega⟩,n,elI hn,zT (fun c1=>bad hj (by simp[xP,hn];omega)) (fun c1=>zT (fun c2=>bad hj (by simp[xP,hn];omega)) (fun c2=>zT (fun c3=> ?_) (fun c3=>good hj ?_)))⟩
  ·have e:IntKind.i64.wrap ((j:Int)-1)=((j-1:Nat):Int):=by rw[w64 (by omega)];omega
   obtain⟨m,hm⟩:=z8 (l:=l) (i:=j-1) (by omega)
   rw[e]
   refine⟨⟨by omega,by omega⟩,m,elI hm,zT (fun c4=>bad hj ?_) (fun c4=>good hj ?_)⟩
   ·simp[xP,hn,hm];omega
   ·simp[xP,hn,hm];omega
  ·simp[xP,hn];omega
 ·have e:(List.range l.length).all (xP l)=true:=zEg fun k hk=>h2 k (by omega)
  refine zT (fun c=>⟨(),?_,trivial⟩) (fun c=>⟨(),?_,trivial⟩)
  ·rw[yU,e,decide_eq_true (show 2≤l.length by omega)]
   simp;omega
  ·rw[yU,decide_eq_false (show ¬2≤l.length by omega)];simp
theorem zQf:monthsC.ok Tryz.prog 51:=zWv gok0 z0i
theorem m3 {f:Int→Int→Int} {l:List Int} {j:Nat} {n:Int} (h:l[j+1]? =some n):(l.take (j+2)).tail.foldl f ((l.take (j+2)).headD 0)=f ((l.take (j+1)).tail.foldl f ((l.take (j+1)).headD 0)) n:=by
 cases l with
 |nil=>simp at h
 |cons a l=>
  simp only[List.getElem?_cons_succ]at h
  simp only[List.take_succ_cons,List.tail_cons,List.headD_cons]
  rw[List.take_add_one,h,List.foldl_append];rfl
theorem zEy {l:List Int} {n:Int} (h:l[0]? =some n) (f:Int→Int→Int):(l.take 1).tail.foldl f ((l.take 1).headD 0)=n:=by
 cases l with
 |nil=>simp at h
 |cons a l=>simpa using h
theorem yAv (l:List Int) (h:minC.cnd l):z4c l:=by
 obtain⟨h0,h⟩:0<l.length∧l.length≤1099511627776:=h
 unfold z4c
 simp only[yX]
 obtain⟨n,hn⟩:=z8 h0
 refine zT (fun c=>by omega) (fun c=>⟨⟨by omega,by omega⟩,n,elI hn,1,zEy hn min,rfl,fun j=>1≤j∧j≤l.length,fun j=>l.length-j,⟨by omega,by omega⟩,?_⟩)
 rintro j ⟨h1,h2⟩
 refine zT (fun hj=> ?_) (fun hj=>⟨(),?_,trivial⟩)
 ·obtain⟨m,hm⟩:=z8 (l:=l) (i:=j) (by omega)
  refine⟨⟨by omega,by omega⟩,m,elI hm,j+1,?_,?_,⟨by omega,by omega⟩,by(first|omega|(dsimp only;omega)),trivial⟩
  ·obtain⟨k,rfl⟩:∃k,j=k+1:=⟨j-1,by omega⟩
   first
    |(rw[gG,m3 hm,← gG];done)
    |(rw[gG,m3 hm,← gG];generalize gG (l.take (k+1))=x;split<;>omega)
  ·rw[w64 (by omega)];rfl
 ·rw[List.take_of_length_le (by omega)]
theorem z5v:minC.ok Tryz.prog 53:=z9p gok0 yAv
theorem yBe (l:List Int) (h:maxC.cnd l):z5u l:=by
 obtain⟨h0,h⟩:0<l.length∧l.length≤1099511627776:=h
 unfold z5u
 simp only[yX]
 obtain⟨n,hn⟩:=z8 h0
 refine zT (fun c=>by omega) (fun c=>⟨⟨by omega,by omega⟩,n,elI hn,1,zEy hn max,rfl,fun j=>1≤j∧j≤l.length,fun j=>l.length-j,⟨by omega,by omega⟩,?_⟩)
 rintro j ⟨h1,h2⟩
 refine zT (fun hj=> ?_) (fun hj=>⟨(),?_,trivial⟩)
 ·obtain⟨m,hm⟩:=z8 (l:=l) (i:=j) (by omega)
  refine⟨⟨by omega,by omega⟩,m,elI hm,j+1,?_,?_,⟨by omega,by omega⟩,by(first|omega|(dsimp only;omega)),trivial⟩
  ·obtain⟨k,rfl⟩:∃k,j=k+1:=⟨j-1,by omega⟩
   rw[g7,m3 hm,← g7]
   generalize g7 (l.take (k+1))=x
   split<;>omega
  ·rw[w64 (by omega)];rfl
 ·rw[List.take_of_length_le (by omega)]
theorem z6q:maxC.ok Tryz.prog 54:=z8f gok0 yBe
open Go Cv Go.Proofs
@[reducible] def Prd.row (p:Prd):AObj:= .cells p.cells 25
structure zFi where
 p:Prd
 n:Int
structure eH where
 p:Prd
 l:List Int
def xO (t n:Int):Bool:=n.tmod t !=0
def offC:Con:=con1 zFi (fun i=>[zE i.n,.nm 0 0]) (fun i=>[i.p.row]) (fun i=>1≤i.p.tick) (fun i=>yN (xO i.p.tick i.n)) (fun i=>[i.p.row])
@[reducible] def z9v:V:= .fn 86 [] [.nm 0 0]
def m9 (k:Option Nat):Int:=match k with
 |some k=>k
 |none=> -1
def idxC:Con:=con1 eH (fun i=>[iV i.l,z9v]) (fun i=>[i.p.row]) (fun i=>1≤i.p.tick∧i.l.length≤1099511627776) (fun i=>zE (m9 (i.l.findIdx? (xO i.p.tick)))) (fun i=>[i.p.row])
def yAs (i:eH):List SAnn:=[{ι:=Nat,slots:=fun j=>[(8,zE j)],rows:=fun _=>[]}]
def containsC:Con:=con1 eH (fun i=>[iV i.l,z9v]) (fun i=>[i.p.row]) (fun i=>1≤i.p.tick∧i.l.length≤1099511627776) (fun i=>yN (i.l.any (xO i.p.tick))) (fun i=>[i.p.row])
def xK (p:Prd):Bool:=decide (1≤p.tick) && decide (p.tick≤1000) && !xO p.tick p.low && !xO p.tick p.high && !xO p.tick p.wide && !p.settle.any (xO p.tick)
def ticksC:Con:=con1 Prd (fun p=>[prdV p]) (fun _=>[]) Prd.small (fun p=>yN (xK p)) (fun _=>[])
def xL (p:Prd):Bool:=decide (p.low< -1000000)||decide (p.low≥p.high)||decide (p.high>1000000)||decide (p.wide<0)||decide (p.wide>p.high-p.low)
def yW (p:Prd):Bool:=decide (p.settle.length≠p.months.length)||decide (gG p.settle<p.low)||decide (g7 p.settle>p.high)
def xU (p:Prd):Bool:=decide (p.rule<1)||decide (p.rule>3)
def xE (p:Prd):Bool:=decide (p.top<0)||decide (p.top>1000000)||decide (p.least<1)||decide (p.least>1000)||decide (p.part<0)||decide (p.part>100)
def Prd.check (p:Prd):Int:=
 if !qU p.code then 12 else if !yU p.months then 1 else if !xK p then 22 else if xL p then 23 else if yW p then 1 else if xU p then 31 else if xE p then 24 else 0
def checkC:Con:=con1 Prd (fun p=>[prdV p]) (fun _=>[]) Prd.small (fun p=>zE p.check) (fun _=>[])
def Prd.count (p:Prd):Nat:=if p.check=0 then p.months.length+p.months.length*(p.months.length-1) / 2 else 0
def pcountC:Con:=con1 Prd (fun p=>[prdV p]) (fun _=>[]) Prd.small (fun p=>zE p.count) (fun _=>[])
structure h9 where
 p:Prd
 n:Int
def zZ (n:Nat):Nat→Nat
 |0=>n
 |k+1=>zZ n k+(n-1-k)
def xW (n inst:Nat):Nat→Nat→Int×Int×Bool
 |0,_=>(0,0,false)
 |k+1,m=>if inst<zZ n m+(n-1-m)then(m,m+1+(inst-zZ n m:Nat),true)else xW n inst k (m+1)
def Prd.legs (p:Prd) (i:Int):Int×Int×Bool:=
 if i<0∨(p.count:Int)≤i then(0,0,false)else if i<p.months.length then(i,i,false)else xW p.months.length i.toNat p.months.length 0
def legsC:Con:=con1 h9 (fun i=>[prdV i.p,zE i.n]) (fun _=>[]) (fun i=>i.p.small) (fun i=> .tup [zE (i.p.legs i.n).1,zE (i.p.legs i.n).2.1,yN (i.p.legs i.n).2.2]) (fun _=>[])
structure cA where
 p:Prd
 a:Int
 b:Int
def Prd.spread (p:Prd) (a b:Int):Int×Bool:=
 if p.check≠0∨a<0∨b≤a∨(p.months.length:Int)≤b then(0,false)else((zZ p.months.length a.toNat:Int)+b-a-1,true)
def spreadC:Con:=con1 cA (fun i=>[prdV i.p,zE i.a,zE i.b]) (fun _=>[]) (fun i=>i.p.small) (fun i=> .tup [zE (i.p.spread i.a i.b).1,yN (i.p.spread i.a i.b).2]) (fun _=>[])
def Prd.price (p:Prd) (i n:Int):Int:=
 if p.count=0 then 1 else if i<0∨(p.count:Int)≤i then 20 else if xO p.tick n then 22 else
 if n<(if(p.months.length:Int)≤i then-p.wide else p.low)∨(if(p.months.length:Int)≤i then p.wide else p.high)<n then 23 else 0
def priceC:Con:=con1 cA (fun i=>[prdV i.p,zE i.a,zE i.b]) (fun _=>[]) (fun i=>i.p.small) (fun i=>zE (i.p.price i.a i.b)) (fun _=>[])
structure I2 where
 x:Int
 y:Int
@[reducible] def yM (n:Int):Prop:= -9223372036854775808≤n∧n≤9223372036854775807
def jB (x y:Int):Int×Bool:=if yM (x+y)then(x+y,true)else(0,false)
def jF (x y:Int):Int×Bool:=if yM (x-y)then(x-y,true)else(0,false)
def addC:Con:=con1 I2 (fun i=>[zE i.x,zE i.y]) (fun _=>[]) (fun i=>yM i.x∧yM i.y) (fun i=> .tup [zE (jB i.x i.y).1,yN (jB i.x i.y).2]) (fun _=>[])
def subC:Con:=con1 I2 (fun i=>[zE i.x,zE i.y]) (fun _=>[]) (fun i=>yM i.x∧yM i.y) (fun i=> .tup [zE (jF i.x i.y).1,yN (jF i.x i.y).2]) (fun _=>[])
def z8z (i:h9):List SAnn:=[{ι:=Nat,slots:=fun m=>[(8,zE (zZ i.p.months.length m)),(33,zE m)],rows:=fun _=>[]}]
def zYn (i:cA):List SAnn:=[{ι:=Nat,slots:=fun m=>[(9,zE (zZ i.p.months.length m)),(33,zE m)],rows:=fun _=>[]}]
open Go Cv Go.Proofs
def z5p (i:zFi):Prop:=
 IntKind.i64=IntKind.i64∧i.p.tick≠0∧∃(o:Unit),xO i.p.tick i.n=(i.n.tmod i.p.tick !=0)∧sb i.p.code=sb i.p.code∧iE i.p.months=iE i.p.months∧i.p.tick=i.p.tick∧i.p.low=i.p.low∧i.p.high=i.p.high∧i.p.wide=i.p.wide∧i.p.rule=i.p.rule∧i.p.top=i.p.top∧i.p.least=i.p.least∧i.p.part=i.p.part∧iE i.p.settle=iE i.p.settle∧True
theorem z9c (hG:GOk Tryz.prog ([])) (h:∀(i:zFi),offC.cnd i→z5p i):offC.ok Tryz.prog 86:=okw mixed hG 0 (fun _=>[]) (fun _=>[]) [] Tryz.func86 h
def z7g (i:eH):Prop:=
 ∃(i0:Nat),(↑i0:Int)=0∧∃(I:Nat→Prop),∃(μ:Nat→Nat),I i0∧∀(i_1:Nat),I i_1→cnd (decide ((↑i_1:Int)<(↑(iE i.l).length:Int))) ((0≤(↑i_1:Int)∧(↑i_1:Int)<(↑(iE i.l).length:Int))∧∃(n:Int),zI (iE i.l) (↑i_1:Int).toNat 0 1=some [D.v (.int .i64 n)]∧∃(i_2:zFi),i_2.n=n∧sb i_2.p.code=sb i.p.code∧iE i_2.p.months=iE i.p.months∧i_2.p.tick=i.p.tick∧i_2.p.low=i.p.low∧i_2.p.high=i.p.high∧i_2.p.wide=i.p.wide∧i_2.p.rule=i.p.rule∧i_2.p.top=i.p.top∧i_2.p.least=i.p.least∧i_2.p.part=i.p.part∧iE i_2.p.settle=iE i.p.settle∧1≤i_2.p.tick∧∀(o:Unit),True→cnd (xO i_2.p.tick i_2.n) (∃(o:Unit),m9 (List.findIdx? (xO i.p.tick) i.l)=(↑i_1:Int)∧sb i.p.code=sb i_2.p.code∧iE i.p.months=iE i_2.p.months∧i.p.tick=i_2.p.tick∧i.p.low=i_2.p.low∧i.p.high=i_2.p.high∧i.p.wide=i_2.p.wide∧i.p.rule=i_2.p.rule∧i.p.top=i_2.p.top∧i.p.least=i_2.p.least∧i.p.part=i_2.p.part∧iE i.p.settle=iE i_2.p.settle∧True) (∃(i':Nat),(↑i':Int)=IntKind.i64.wrap ((↑i_1:Int)+1)∧I i'∧μ i'<μ i_1∧Sx.AObj.cells (gO (cD 1 ((1:Nat)+(0:Nat)) ((1:Nat)-(1:Nat)) [((0:Nat),(0:Nat))]) i_2.p.cells) (25:TypeId)=i.p.row)) (∃(o:Unit),m9 (List.findIdx? (xO i.p.tick) i.l)=(-1)∧sb i.p.code=sb i.p.code∧iE i.p.months=iE i.p.months∧i.p.tick=i.p.tick∧i.p.low=i.p.low∧i.p.high=i.p.high∧i.p.wide=i.p.wide∧i.p.rule=i.p.rule∧i.p.top=i.p.top∧i.p.least=i.p.least∧i.p.part=i.p.part∧iE i.p.settle=iE i.p.settle∧True)
theorem z9f (hG:GOk Tryz.prog ([(86,offC)])) (h:∀(i:eH),idxC.cnd i→z7g i):idxC.ok Tryz.prog 118:=okw mixed hG 0 (fun _=>[]) (fun i=>yAs i) [] Tryz.func118 h
def lM (i:eH):Prop:=
 ∃(i_1:eH),iE i_1.l=iE i.l∧sb i_1.p.code=sb i.p.code∧iE i_1.p.months=iE i.p.months∧i_1.p.tick=i.p.tick∧i_1.p.low=i.p.low∧i_1.p.high=i.p.high∧i_1.p.wide=i.p.wide∧i_1.p.rule=i.p.rule∧i_1.p.top=i.p.top∧i_1.p.least=i.p.least∧i_1.p.part=i.p.part∧iE i_1.p.settle=iE i.p.settle∧(1≤i_1.p.tick∧i_1.l.length≤1099511627776)∧∀(o:Unit),True→∃(o:Unit),i.l.any (xO i.p.tick)=decide (m9 (List.findIdx? (xO i_1.p.tick) i_1.l)≥0)∧sb i.p.code=sb i_1.p.code∧iE i.p.months=iE i_1.p.months∧i.p.tick=i_1.p.tick∧i.p.low=i_1.p.low∧i.p.high=i_1.p.high∧i.p.wide=i_1.p.wide∧i.p.rule=i_1.p.rule∧i.p.top=i_1.p.top∧i.p.least=i_1.p.least∧i.p.part=i_1.p.part∧iE i.p.settle=iE i_1.p.settle∧True
theorem zKn (hG:GOk Tryz.prog ([(118,idxC)])) (h:∀(i:eH),containsC.cnd i→lM i):containsC.ok Tryz.prog 87:=okw mixed hG 0 (fun _=>[]) (fun _=>[]) [] Tryz.func87 h
def zJz (p:Prd):Prop:=
 cnd (decide (p.tick<1)) (∃(o:Unit),xK p=false∧True) (cnd (decide (p.tick>1000)) (∃(o:Unit),xK p=false∧True) (∃(i:zFi),i.n=p.low∧sb i.p.code=sb p.code∧iE i.p.months=iE p.months∧i.p.tick=p.tick∧i.p.low=p.low∧i.p.high=p.high∧i.p.wide=p.wide∧i.p.rule=p.rule∧i.p.top=p.top∧i.p.least=p.least∧i.p.part=p.part∧iE i.p.settle=iE p.settle∧1≤i.p.tick∧∀(o:Unit),True→cnd (!xO i.p.tick i.n) (∃(i_1:zFi),i_1.n=i.p.high∧sb i_1.p.code=sb i.p.code∧iE i_1.p.months=iE i.p.months∧i_1.p.tick=i.p.tick∧i_1.p.low=i.p.low∧i_1.p.high=i.p.high∧i_1.p.wide=i.p.wide∧i_1.p.rule=i.p.rule∧i_1.p.top=i.p.top∧i_1.p.least=i.p.least∧i_1.p.part=i.p.part∧iE i_1.p.settle=iE i.p.settle∧1≤i_1.p.tick∧∀(o:Unit),True→cnd (!xO i_1.p.tick i_1.n) (∃(i:zFi),i.n=i_1.p.wide∧sb i.p.code=sb i_1.p.code∧iE i.p.months=iE i_1.p.months∧i.p.tick=i_1.p.tick∧i.p.low=i_1.p.low∧i.p.high=i_1.p.high∧i.p.wide=i_1.p.wide∧i.p.rule=i_1.p.rule∧i.p.top=i_1.p.top∧i.p.least=i_1.p.least∧i.p.part=i_1.p.part∧iE i.p.settle=iE i_1.p.settle∧1≤i.p.tick∧∀(o:Unit),True→cnd (!xO i.p.tick i.n) (∃(i_2:eH),iE i_2.l=iE i.p.settle∧sb i_2.p.code=sb i.p.code∧iE i_2.p.months=iE i.p.months∧i_2.p.tick=i.p.tick∧i_2.p.low=i.p.low∧i_2.p.high=i.p.high∧i_2.p.wide=i.p.wide∧i_2.p.rule=i.p.rule∧i_2.p.top=i.p.top∧i_2.p.least=i.p.least∧i_2.p.part=i.p.part∧iE i_2.p.settle=iE i.p.settle∧(1≤i_2.p.tick∧i_2.l.length≤1099511627776)∧∀(o:Unit),True→∃(o:Unit),xK p=!i_2.l.any (xO i_2.p.tick)∧True) (∃(o:Unit),xK p=false∧True)) (∃(o:Unit),xK p=false∧True)) (∃(o:Unit),xK p=false∧True)))
theorem z1m (hG:GOk Tryz.prog ([(86,offC),(87,containsC)])) (h:∀(p:Prd),ticksC.cnd p→zJz p):ticksC.ok Tryz.prog 52:=okw mixed hG 0 (fun _=>[]) (fun _=>[]) [] Tryz.func52 h
def zKx (p:Prd):Prop:=
 ∃(i:List UInt8),sb i=sb p.code∧i.length≤1099511627776∧∀(o:Unit),True→cnd (!qU i) (∃(o:Unit),p.check=12∧True) (∃(i:List Int),iE i=iE p.months∧i.length≤1099511627776∧∀(o:Unit),True→cnd (!yU i) (∃(o:Unit),p.check=1∧True) (∃(i:Prd),sb i.code=sb p.code∧iE i.months=iE p.months∧i.tick=p.tick∧i.low=p.low∧i.high=p.high∧i.wide=p.wide∧i.rule=p.rule∧i.top=p.top∧i.least=p.least∧i.part=p.part∧iE i.settle=iE p.settle∧(i.code.length≤1099511627776∧i.months.length≤1099511627776∧i.settle.length≤1099511627776)∧∀(o:Unit),True→cnd (!xK i) (∃(o:Unit),p.check=22∧True) (cnd (decide (p.low<(-1000000))) (∃(o:Unit),p.check=23∧True) (cnd (decide (p.low≥p.high)) (∃(o:Unit),p.check=23∧True) (cnd (decide (p.high>1000000)) (∃(o:Unit),p.check=23∧True) (cnd (decide (p.wide<0)) (∃(o:Unit),p.check=23∧True) (cnd (decide (p.wide>IntKind.i64.wrap (p.high-p.low))) (∃(o:Unit),p.check=23∧True) (cnd ((↑(iE p.settle).length:Int) !=(↑(iE p.months).length:Int)) (∃(o:Unit),p.check=1∧True) (∃(i:List Int),iE i=iE p.settle∧(0<i.length∧i.length≤1099511627776)∧∀(o:Unit),True→p.low=p.low∧cnd (decide (gG i<p.low)) (∃(o:Unit),p.check=1∧True) (∃(i:List Int),iE i=iE p.settle∧(0<i.length∧i.length≤1099511627776)∧∀(o:Unit),True→p.high=p.high∧cnd (decide (g7 i>p.high)) (∃(o:Unit),p.check=1∧True) (cnd (decide (p.rule<1)) (∃(o:Unit),p.check=31∧True) (cnd (decide (p.rule>3)) (∃(o:Unit),p.check=31∧True) (cnd (decide (p.top<0)) (∃(o:Unit),p.check=24∧True) (cnd (decide (p.top>1000000)) (∃(o:Unit),p.check=24∧True) (cnd (decide (p.least<1)) (∃(o:Unit),p.check=24∧True) (cnd (decide (p.least>1000)) (∃(o:Unit),p.check=24∧True) (cnd (decide (p.part<0)) (∃(o:Unit),p.check=24∧True) (cnd (decide (p.part>100)) (∃(o:Unit),p.check=24∧True) (∃(o:Unit),p.check=0∧True)))))))))))))))))))
theorem zYt (hG:GOk Tryz.prog ([(50,symC),(51,monthsC),(52,ticksC),(53,minC),(54,maxC)])) (h:∀(p:Prd),checkC.cnd p→zKx p):checkC.ok Tryz.prog 21:=okw mixed hG 0 (fun _=>[]) (fun _=>[]) [] Tryz.func21 h
def zNs (p:Prd):Prop:=
 ∃(i:Prd),sb i.code=sb p.code∧iE i.months=iE p.months∧i.tick=p.tick∧i.low=p.low∧i.high=p.high∧i.wide=p.wide∧i.rule=p.rule∧i.top=p.top∧i.least=p.least∧i.part=p.part∧iE i.settle=iE p.settle∧(i.code.length≤1099511627776∧i.months.length≤1099511627776∧i.settle.length≤1099511627776)∧∀(o:Unit),True→cnd (i.check !=0) (∃(o:Unit),(↑p.count:Int)=0∧True) (IntKind.i64=IntKind.i64∧(2:Int)≠(0:Int)∧∃(o:Unit),(↑p.count:Int)=IntKind.i64.wrap ((↑(iE p.months).length:Int)+IntKind.i64.wrap ((IntKind.i64.wrap ((↑(iE p.months).length:Int)*IntKind.i64.wrap ((↑(iE p.months).length:Int)-1))).tdiv 2))∧True)
theorem zTy (hG:GOk Tryz.prog ([(21,checkC)])) (h:∀(p:Prd),pcountC.cnd p→zNs p):pcountC.ok Tryz.prog 22:=okw mixed hG 0 (fun _=>[]) (fun _=>[]) [] Tryz.func22 h
@[reducible] def zNz (i:h9):AObj:=Sx.AObj.cells [V.d (D.v (Value.string (sb i.p.code))),V.own (0:Nat),V.d (D.v (.int .i64 i.p.tick)),V.d (D.v (.int .i64 i.p.low)),V.d (D.v (.int .i64 i.p.high)),V.d (D.v (.int .i64 i.p.wide)),V.d (D.v (.int .i64 i.p.rule)),V.d (D.v (.int .i64 i.p.top)),V.d (D.v (.int .i64 i.p.least)),V.d (D.v (.int .i64 i.p.part)),V.own ((0:Nat)+(1:Nat))] (25:Nat)
def z2f (i:h9):Prop:=
 ∃(i_1:Prd),sb i_1.code=sb i.p.code∧iE i_1.months=iE i.p.months∧i_1.tick=i.p.tick∧i_1.low=i.p.low∧i_1.high=i.p.high∧i_1.wide=i.p.wide∧i_1.rule=i.p.rule∧i_1.top=i.p.top∧i_1.least=i.p.least∧i_1.part=i.p.part∧iE i_1.settle=iE i.p.settle∧(i_1.code.length≤1099511627776∧i_1.months.length≤1099511627776∧i_1.settle.length≤1099511627776)∧∀(o:Unit),True→cnd (decide (i.n<0)) (∃(o:Unit),(i.p.legs i.n).fst=0∧(i.p.legs i.n).snd.fst=0∧(i.p.legs i.n).snd.snd=false∧True) (cnd (decide (i.n≥(↑i_1.count:Int))) (∃(o:Unit),(i.p.legs i.n).fst=0∧(i.p.legs i.n).snd.fst=0∧(i.p.legs i.n).snd.snd=false∧True) (cnd (decide (i.n<(↑(iE i.p.months).length:Int))) (∃(o:Unit),(i.p.legs i.n).fst=i.n∧(i.p.legs i.n).snd.fst=i.n∧(i.p.legs i.n).snd.snd=false∧True) (∃(i0:Nat),(↑(zZ i.p.months.length i0):Int)=(↑(iE i.p.months).length:Int)∧(↑i0:Int)=0∧∃(I:Nat→Prop),∃(μ:Nat→Nat),I i0∧∀(i_2:Nat),I i_2→cnd (decide ((↑i_2:Int)<(↑(iE i.p.months).length:Int))) (cnd (decide (i.n<IntKind.i64.wrap ((↑(zZ i.p.months.length i_2):Int)+IntKind.i64.wrap (IntKind.i64.wrap ((↑(iE i.p.months).length:Int)-1)-(↑i_2:Int))))) (∃(o:Unit),(i.p.legs i.n).fst=(↑i_2:Int)∧(i.p.legs i.n).snd.fst=IntKind.i64.wrap (IntKind.i64.wrap (IntKind.i64.wrap ((↑i_2:Int)+1)+i.n)-(↑(zZ i.p.months.length i_2):Int))∧(i.p.legs i.n).snd.snd=true∧True) (∃(i':Nat),(↑(zZ i.p.months.length i'):Int)=IntKind.i64.wrap ((↑(zZ i.p.months.length i_2):Int)+IntKind.i64.wrap (IntKind.i64.wrap ((↑(iE i.p.months).length:Int)-1)-(↑i_2:Int)))∧(↑i':Int)=IntKind.i64.wrap ((↑i_2:Int)+1)∧I i'∧μ i'<μ i_2∧zNz i=zNz i∧AObj.fro 1 (iE i.p.settle)=AObj.fro 1 (iE i.p.settle)∧AObj.fro 1 (iE i.p.months)=AObj.fro 1 (iE i.p.months))) (∃(o:Unit),(i.p.legs i.n).fst=0∧(i.p.legs i.n).snd.fst=0∧(i.p.legs i.n).snd.snd=false∧True))))
theorem z3i (hG:GOk Tryz.prog ([(22,pcountC)])) (h:∀(i:h9),legsC.cnd i→z2f i):legsC.ok Tryz.prog 124:=okw mixed hG 0 (fun _=>[]) (fun i=>z8z i) [] Tryz.func124 h
@[reducible] def zAk (i:cA):AObj:=Sx.AObj.cells [V.d (D.v (Value.string (sb i.p.code))),V.own (0:Nat),V.d (D.v (.int .i64 i.p.tick)),V.d (D.v (.int .i64 i.p.low)),V.d (D.v (.int .i64 i.p.high)),V.d (D.v (.int .i64 i.p.wide)),V.d (D.v (.int .i64 i.p.rule)),V.d (D.v (.int .i64 i.p.top)),V.d (D.v (.int .i64 i.p.least)),V.d (D.v (.int .i64 i.p.part)),V.own ((0:Nat)+(1:Nat))] (25:Nat)
def zMy (i:cA):Prop:=
 ∃(i_1:Prd),sb i_1.code=sb i.p.code∧iE i_1.months=iE i.p.months∧i_1.tick=i.p.tick∧i_1.low=i.p.low∧i_1.high=i.p.high∧i_1.wide=i.p.wide∧i_1.rule=i.p.rule∧i_1.top=i.p.top∧i_1.least=i.p.least∧i_1.part=i.p.part∧iE i_1.settle=iE i.p.settle∧(i_1.code.length≤1099511627776∧i_1.months.length≤1099511627776∧i_1.settle.length≤1099511627776)∧∀(o:Unit),True→cnd (i_1.check !=0) (∃(o:Unit),(i.p.spread i.a i.b).fst=0∧(i.p.spread i.a i.b).snd=false∧True) (cnd (decide (i.a<0)) (∃(o:Unit),(i.p.spread i.a i.b).fst=0∧(i.p.spread i.a i.b).snd=false∧True) (cnd (decide (i.a≥i.b)) (∃(o:Unit),(i.p.spread i.a i.b).fst=0∧(i.p.spread i.a i.b).snd=false∧True) (cnd (decide (i.b≥(↑(iE i.p.months).length:Int))) (∃(o:Unit),(i.p.spread i.a i.b).fst=0∧(i.p.spread i.a i.b).snd=false∧True) (∃(i0:Nat),(↑(zZ i.p.months.length i0):Int)=(↑(iE i.p.months).length:Int)∧(↑i0:Int)=0∧∃(I:Nat→Prop),∃(μ:Nat→Nat),I i0∧∀(i_2:Nat),I i_2→cnd (decide ((↑i_2:Int)<i.a)) (∃(i':Nat),(↑(zZ i.p.months.length i'):Int)=IntKind.i64.wrap ((↑(zZ i.p.months.length i_2):Int)+IntKind.i64.wrap (IntKind.i64.wrap ((↑(iE i.p.months).length:Int)-1)-(↑i_2:Int)))∧(↑i':Int)=IntKind.i64.wrap ((↑i_2:Int)+1)∧I i'∧μ i'<μ i_2∧zAk i=zAk i∧AObj.fro 1 (iE i.p.settle)=AObj.fro 1 (iE i.p.settle)∧AObj.fro 1 (iE i.p.months)=AObj.fro 1 (iE i.p.months)) (∃(o:Unit),(i.p.spread i.a i.b).fst=IntKind.i64.wrap (IntKind.i64.wrap (IntKind.i64.wrap ((↑(zZ i.p.months.length i_2):Int)+i.b)-i.a)-1)∧(i.p.spread i.a i.b).snd=true∧True)))))
theorem zUh (hG:GOk Tryz.prog ([(21,checkC)])) (h:∀(i:cA),spreadC.cnd i→zMy i):spreadC.ok Tryz.prog 127:=okw mixed hG 0 (fun _=>[]) (fun i=>zYn i) [] Tryz.func127 h
def zRg (i:cA):Prop:=
 ∃(i_1:Prd),sb i_1.code=sb i.p.code∧iE i_1.months=iE i.p.months∧i_1.tick=i.p.tick∧i_1.low=i.p.low∧i_1.high=i.p.high∧i_1.wide=i.p.wide∧i_1.rule=i.p.rule∧i_1.top=i.p.top∧i_1.least=i.p.least∧i_1.part=i.p.part∧iE i_1.settle=iE i.p.settle∧(i_1.code.length≤1099511627776∧i_1.months.length≤1099511627776∧i_1.settle.length≤1099511627776)∧∀(o:Unit),True→cnd ((↑i_1.count:Int)==0) (∃(o:Unit),i.p.price i.a i.b=1∧True) (cnd (decide (i.a<0)) (∃(o:Unit),i.p.price i.a i.b=20∧True) (cnd (decide (i.a≥(↑i_1.count:Int))) (∃(o:Unit),i.p.price i.a i.b=20∧True) (IntKind.i64=IntKind.i64∧i.p.tick≠0∧cnd (i.b.tmod i.p.tick !=0) (∃(o:Unit),i.p.price i.a i.b=22∧True) (cnd (decide (i.a≥(↑(iE i.p.months).length:Int))) (cnd (decide (i.b<IntKind.i64.wrap (0-i.p.wide))) (∃(o:Unit),i.p.price i.a i.b=23∧True) (cnd (decide (i.b>i.p.wide)) (∃(o:Unit),i.p.price i.a i.b=23∧True) (∃(o:Unit),i.p.price i.a i.b=0∧True))) (cnd (decide (i.b<i.p.low)) (∃(o:Unit),i.p.price i.a i.b=23∧True) (cnd (decide (i.b>i.p.high)) (∃(o:Unit),i.p.price i.a i.b=23∧True) (∃(o:Unit),i.p.price i.a i.b=0∧True)))))))
theorem z0b (hG:GOk Tryz.prog ([(22,pcountC)])) (h:∀(i:cA),priceC.cnd i→zRg i):priceC.ok Tryz.prog 29:=okw mixed hG 0 (fun _=>[]) (fun _=>[]) [] Tryz.func29 h
def z6t (i:I2):Prop:=
 cnd (decide (i.x<0)==decide (i.y<0)) (cnd (!decide (IntKind.i64.wrap (i.x+i.y)<0)==decide (i.x<0)) (∃(o:Unit),(jB i.x i.y).fst=0∧(jB i.x i.y).snd=false∧True) (∃(o:Unit),(jB i.x i.y).fst=IntKind.i64.wrap (i.x+i.y)∧(jB i.x i.y).snd=true∧True)) (∃(o:Unit),(jB i.x i.y).fst=IntKind.i64.wrap (i.x+i.y)∧(jB i.x i.y).snd=true∧True)
theorem z8o (hG:GOk Tryz.prog ([])) (h:∀(i:I2),addC.cnd i→z6t i):addC.ok Tryz.prog 142:=okw mixed hG 0 (fun _=>[]) (fun _=>[]) [] Tryz.func142 h
def z6h (i:I2):Prop:=
 cnd (!decide (i.x<0)==decide (i.y<0)) (cnd (!decide (IntKind.i64.wrap (i.x-i.y)<0)==decide (i.x<0)) (∃(o:Unit),(jF i.x i.y).fst=0∧(jF i.x i.y).snd=false∧True) (∃(o:Unit),(jF i.x i.y).fst=IntKind.i64.wrap (i.x-i.y)∧(jF i.x i.y).snd=true∧True)) (∃(o:Unit),(jF i.x i.y).fst=IntKind.i64.wrap (i.x-i.y)∧(jF i.x i.y).snd=true∧True)
theorem z9t (hG:GOk Tryz.prog ([])) (h:∀(i:I2),subC.cnd i→z6h i):subC.ok Tryz.prog 143:=okw mixed hG 0 (fun _=>[]) (fun _=>[]) [] Tryz.func143 h
open Go Cv Go.Proofs
theorem yBc (i:zFi) (h:offC.cnd i):z5p i:=by
 have h:1≤i.p.tick:=h
 unfold z5p;exact kp
theorem zSn:offC.ok Tryz.prog 86:=z9c gok0 yBc
theorem mN {α:Type} {f:α→Bool} {l:List α} (h:∀(k:Nat) (x:α),l[k]? =some x→f x=false):l.findIdx? f=none:=by
 rw[List.findIdx?_eq_none_iff]
 intro x hx
 obtain⟨k,hk⟩:=List.getElem?_of_mem hx
 exact h k x hk
theorem mS {α:Type} {f:α→Bool} {l:List α} {j:Nat} {x:α} (h1:l[j]? =some x) (h2:f x=true) (h:∀k<j,∀x:α,l[k]? =some x→f x=false):l.findIdx? f=some j:=by
 rw[List.findIdx?_eq_some_iff_getElem]
 obtain⟨hj,rfl⟩:=List.getElem?_eq_some_iff.1 h1
 exact⟨hj,h2,fun k hk=>by rw[h k hk _ (List.getElem?_eq_getElem (by omega))];simp⟩
theorem yAo (i:eH) (h:idxC.cnd i):z7g i:=by
 obtain⟨h1,h2⟩:1≤i.p.tick∧i.l.length≤1099511627776:=h
 unfold z7g
 simp only[yX]
 refine⟨0,rfl,fun j=>j≤i.l.length∧∀k<j,∀x,i.l[k]? =some x→xO i.p.tick x=false,fun j=>i.l.length-j,⟨by omega,fun k hk=>by omega⟩,?_⟩
 rintro j ⟨h3,h4⟩
 refine zT (fun hj=> ?_) (fun hj=> ?_)
 ·obtain⟨n,hn⟩:=z8 (l:=i.l) (i:=j) (by omega)
  refine⟨⟨by omega,by omega⟩,n,elI hn,⟨i.p,n⟩,?_⟩
  (repeat'(first|exact rfl|exact trivial|assumption|apply And.intro|refine fun(_:Unit) (_:True)=>?_|refine Exists.intro () ?_|omega|(dsimp only;omega)))
  refine Cv.cnd.mk (fun e=> ?_) (fun e=> ?_)
  ·rw[mS hn e h4];exact kp
  ·refine⟨j+1,by rw[w64 (by omega)];rfl,⟨by omega,fun k hk x hx=> ?_⟩,by(first|omega|(dsimp only;omega)),rfl⟩
   rcases Nat.lt_or_ge k j with hk'|hk'
   ·exact h4 k hk' x hx
   ·obtain rfl:k=j:=by omega
    rw[hn]at hx;cases hx;exact e
 ·rw[mN fun k x hx=>h4 k (by have:=(List.getElem?_eq_some_iff.1 hx).1;omega) x hx];exact kp
theorem z6g:idxC.ok Tryz.prog 118:=z9f (gokc zSn gok0) yAo
theorem zQa {l:List Int} {f:Int→Bool}:l.any f=decide (m9 (l.findIdx? f)≥0):=by
 cases hf:l.findIdx? f with
 |none=>
  rw[List.findIdx?_eq_none_iff]at hf
  have:l.any f=false:=by rw[List.any_eq_false];intro x hx;simp[hf x hx]
  rw[this];rfl
 |some k=>
  rw[List.findIdx?_eq_some_iff_getElem]at hf
  obtain⟨hk,h1,_⟩:=hf
  have:l.any f=true:=by rw[List.any_eq_true];exact⟨_,List.getElem_mem hk,h1⟩
  rw[this,m9,decide_eq_true (by omega)]
theorem zPk (i:eH) (h:containsC.cnd i):lM i:=by
 have h':1≤i.p.tick∧i.l.length≤1099511627776:=h
 refine⟨i,?_⟩
 (repeat'(first|exact rfl|exact trivial|assumption|apply And.intro|refine fun(_:Unit) (_:True)=>?_|refine Exists.intro () ?_|omega|(dsimp only;omega)))
 exact zQa
theorem zFy:containsC.ok Tryz.prog 87:=zKn (gokc z6g gok0) zPk
theorem z5a (p:Prd) (h:ticksC.cnd p):zJz p:=by
 obtain⟨h1,h2,h3⟩:p.small:=h
 unfold zJz
 refine zT (fun c1=>⟨(),by rw[xK,decide_eq_false (by omega)];rfl,trivial⟩) (fun c1=>zT (fun c2=>⟨(),by rw[xK,decide_eq_false (show ¬p.tick≤1000 by omega)];simp,trivial⟩) (fun c2=>⟨⟨p,p.low⟩,?_⟩))
 have e1:xK p=(!xO p.tick p.low && !xO p.tick p.high && !xO p.tick p.wide && !p.settle.any (xO p.tick)):=by
  rw[xK,decide_eq_true (by omega),decide_eq_true (by omega)];rfl
 rw[e1]
 (repeat'(first|exact rfl|exact trivial|assumption|apply And.intro|refine fun(_:Unit) (_:True)=>?_|refine Exists.intro () ?_|omega|(dsimp only;omega)))
 refine Cv.cnd.mk (fun c3=>⟨⟨p,p.high⟩,?_⟩) (fun c3=>⟨(),?_,trivial⟩)
 ·dsimp only at c3
  (repeat'(first|exact rfl|exact trivial|assumption|apply And.intro|refine fun(_:Unit) (_:True)=>?_|refine Exists.intro () ?_|omega|(dsimp only;omega)))
  refine Cv.cnd.mk (fun c4=>⟨⟨p,p.wide⟩,?_⟩) (fun c4=>⟨(),?_,trivial⟩)
  ·dsimp only at c4
   (repeat'(first|exact rfl|exact trivial|assumption|apply And.intro|refine fun(_:Unit) (_:True)=>?_|refine Exists.intro () ?_|omega|(dsimp only;omega)))
   refine Cv.cnd.mk (fun c5=>⟨⟨p,p.settle⟩,?_⟩) (fun c5=>⟨(),?_,trivial⟩)
   ·dsimp only at c5
    (repeat'(first|exact rfl|exact trivial|assumption|apply And.intro|refine fun(_:Unit) (_:True)=>?_|refine Exists.intro () ?_|omega|(dsimp only;omega)))
    rw[c3,c4,c5];simp
   ·dsimp only at c5
    rw[c5];simp
  ·dsimp only at c4
   rw[c4];simp
 ·dsimp only at c3
  rw[c3];simp
theorem zUl:ticksC.ok Tryz.prog 52:=z1m (gokc zSn (gokc zFy gok0)) z5a
theorem z6w (p:Prd) (h:checkC.cnd p):zKx p:=by
 obtain⟨h1,h2,h3⟩:p.small:=h
 unfold zKx
 simp only[yX]
 refine⟨p.code,rfl,h1,fun _ _=>Cv.cnd.mk (fun c1=>⟨(),by rw[Prd.check,if_pos c1],trivial⟩) (fun c1=>⟨p.months,rfl,h2,fun _ _=>Cv.cnd.mk (fun c2=>⟨(),by rw[Prd.check,if_neg (by simp[c1]),if_pos c2],trivial⟩) (fun c2=>⟨p,?_⟩)⟩)⟩
 (repeat'(first|exact rfl|exact trivial|assumption|apply And.intro|refine fun(_:Unit) (_:True)=>?_|refine Exists.intro () ?_|omega|(dsimp only;omega)))
 refine Cv.cnd.mk (fun c3=>⟨(),by rw[Prd.check,if_neg (by simp[c1]),if_neg (by simp[c2]),if_pos c3],trivial⟩) (fun c3=> ?_)
 have e0:p.check=if xL p then 23 else if yW p then 1 else if xU p then 31 else if xE p then 24 else 0:=by
  rw[Prd.check,if_neg (by simp[c1]),if_neg (by simp[c2]),if_neg (by simp[c3])]
 have b (hb:xL p=true):∃(o:Unit),p.check=23∧True:=⟨(),by rw[e0,if_pos hb],trivial⟩
 refine zT (fun d1=>b (by simp[xL,d1])) fun d1=>zT (fun d2=>b (by simp[xL];omega)) fun d2=>zT (fun d3=>b (by simp[xL];omega)) fun d3=>zT (fun d4=>b (by simp[xL];omega)) fun d4=> ?_
 rw[w64 (by omega)]
 refine zT (fun d5=>b (by simp[xL];omega)) fun d5=> ?_
 have e1:p.check=if yW p then 1 else if xU p then 31 else if xE p then 24 else 0:=by
  rw[e0,if_neg (by simp[xL];omega)]
 have s (hb:yW p=true):∃(o:Unit),p.check=1∧True:=⟨(),by rw[e1,if_pos hb],trivial⟩
 have hm:2≤p.months.length:=by
  have c2:yU p.months=true:=by simpa using c2
  simp[yU]at c2;omega
 refine Cv.cnd.mk (fun d6=>s (by have d6:¬(p.settle.length:Int)=p.months.length:=(by simpa using d6);simp[yW];omega)) fun d6=> ?_
 have d6:p.settle.length=p.months.length:=by
  have:(p.settle.length:Int)=p.months.length:=by simpa using d6
  omega
 refine⟨p.settle,rfl,⟨by omega,by omega⟩,fun _ _=>⟨kp,zT (fun d7=>s (by simp[yW];left;right;omega)) fun d7=>⟨p.settle,rfl,⟨by omega,by omega⟩,fun _ _=>⟨kp,zT (fun d8=>s (by simp[yW];right;omega)) fun d8=> ?_⟩⟩⟩⟩
 have e2:p.check=if xU p then 31 else if xE p then 24 else 0:=by
  rw[e1,if_neg (by simp[yW];omega)]
 have r (hb:xU p=true):∃(o:Unit),p.check=31∧True:=⟨(),by rw[e2,if_pos hb],trivial⟩
 refine zT (fun d9=>r (by simp[xU];omega)) fun d9=>zT (fun d10=>r (by simp[xU];omega)) fun d10=> ?_
 have e3:p.check=if xE p then 24 else 0:=by
  rw[e2,if_neg (by simp[xU];omega)]
 have q (hb:xE p=true):∃(o:Unit),p.check=24∧True:=⟨(),by rw[e3,if_pos hb],trivial⟩
 refine zT (fun f1=>q (by simp[xE];omega)) fun f1=>zT (fun f2=>q (by simp[xE];omega)) fun f2=>zT (fun f3=>q (by simp[xE];omega)) fun f3=>zT (fun f4=>q (by simp[xE];omega)) fun f4=>zT (fun f5=>q (by simp[xE];omega)) fun f5=>zT (fun f6=>q (by simp[xE];omega)) fun f6=> ?_
 exact⟨(),by rw[e3,if_neg (by simp[xE];omega)],trivial⟩
theorem tG:checkC.ok Tryz.prog 21:=zYt (gokc z4r (gokc zQf (gokc zUl (gokc z5v (gokc z6q gok0))))) z6w
structure Prd.Ok (p:Prd):Prop where
 sym:qU p.code=true
 months:yU p.months=true
 ticks:xK p=true
 m2:2≤p.months.length
 m6:p.months.length≤6
 t1:1≤p.tick
 t2:p.tick≤1000
 b1: -1000000≤p.low
 b2:p.low<p.high
 b3:p.high≤1000000
 b4:0≤p.wide
 b5:p.wide≤p.high-p.low
 s1:p.settle.length=p.months.length
 s2:p.low≤gG p.settle
 s3:g7 p.settle≤p.high
 r1:1≤p.rule
 r2:p.rule≤3
 q1:0≤p.top
 q2:p.top≤1000000
 q3:1≤p.least
 q4:p.least≤1000
 q5:0≤p.part
 q6:p.part≤100
theorem qB {p:Prd} (h:p.check=0):p.Ok:=by
 unfold Prd.check at h
 split at h<;>first|(exfalso;revert h;decide)|skip
 rename_i c1
 split at h<;>first|(exfalso;revert h;decide)|skip
 rename_i c2
 split at h<;>first|(exfalso;revert h;decide)|skip
 rename_i c3
 split at h<;>first|(exfalso;revert h;decide)|skip
 rename_i c4
 split at h<;>first|(exfalso;revert h;decide)|skip
 rename_i c5
 split at h<;>first|(exfalso;revert h;decide)|skip
 rename_i c6
 split at h<;>first|(exfalso;revert h;decide)|skip
 rename_i c7
 simp only[Bool.not_eq_true',Bool.not_eq_false,Bool.not_eq_true]at c1 c2 c3
 have m:=c2
 have t:=c3
 simp[yU]at m
 simp[xK]at t
 simp[xL]at c4
 simp[yW]at c5
 simp[xU]at c6
 simp[xE]at c7
 exact⟨c1,c2,c3,by omega,by omega,by omega,by omega,by omega,by omega,by omega,by omega,by omega,by omega,by omega,by omega,by omega,by omega,by omega,by omega,by omega,by omega,by omega,by omega⟩
theorem zXf {n:Nat} (h:n≤6):n+n*(n-1) / 2≤21:=by
 have:∀n≤6,n+n*(n-1) / 2≤21:=by decide
 exact this n h
theorem zXp (p:Prd) (h:pcountC.cnd p):zNs p:=by
 obtain⟨h1,h2,h3⟩:p.small:=h
 refine⟨p,?_⟩
 simp only[yX]
 (repeat'(first|exact rfl|exact trivial|assumption|apply And.intro|refine fun(_:Unit) (_:True)=>?_|refine Exists.intro () ?_|omega|(dsimp only;omega)))
 refine Cv.cnd.mk (fun c=>⟨(),by rw[Prd.count,if_neg (by simpa using c)];rfl,trivial⟩) (fun c=> ?_)
 have c:p.check=0:=by simpa using c
 have ok:=qB c
 refine⟨kp,by decide,(),?_,trivial⟩
 rw[Prd.count,if_pos c]
 obtain⟨n,hn⟩:∃n,p.months.length=n:=⟨_,rfl⟩
 have m2:=ok.m2
 have m6:=ok.m6
 rw[hn]at m2 m6 ⊢
 have:n=2∨n=3∨n=4∨n=5∨n=6:=by omega
 rcases this with rfl|rfl|rfl|rfl|rfl<;>rfl
theorem uX:pcountC.ok Tryz.prog 22:=zTy (gokc tG gok0) zXp
theorem fP {p:Prd} (h:p.count≠0):p.check=0:=by
 unfold Prd.count at h
 split at h
 ·assumption
 ·exact absurd rfl h
theorem jQ (p:Prd):p.count≤21:=by
 unfold Prd.count
 split
 ·rename_i h;exact zXf (qB h).m6
 ·omega
theorem tA {n m:Nat} (h:n≤6) (hm:m≤n):zZ n m≤21:=by
 have:∀n≤6,∀m≤n,zZ n m≤21:=by decide
 exact this n h m hm
theorem z9s (i:h9) (h:legsC.cnd i):z2f i:=by
 obtain⟨h1,h2,h3⟩:i.p.small:=h
 refine⟨i.p,?_⟩
 simp only[yX]
 (repeat'(first|exact rfl|exact trivial|assumption|apply And.intro|refine fun(_:Unit) (_:True)=>?_|refine Exists.intro () ?_|omega|(dsimp only;omega)))
 refine zT (fun c1=> ?_) (fun c1=>zT (fun c2=> ?_) (fun c2=> ?_))
 ·rw[Prd.legs,if_pos (by omega)];exact kp
 ·rw[Prd.legs,if_pos (by omega)];exact kp
 have c2:¬i.n≥(i.p.count:Int):=c2
 have hc:=jQ i.p
 have ok:=qB (fP (p:=i.p) (by omega))
 have m6:=ok.m6
 refine zT (fun c3=> ?_) (fun c3=> ?_)
 ·rw[Prd.legs,if_neg (by omega),if_pos c3];exact kp
 have e0:i.p.legs i.n=xW i.p.months.length i.n.toNat i.p.months.length 0:=by
  rw[Prd.legs,if_neg (by omega),if_neg c3]
 rw[e0]
 generalize hn:i.p.months.length=n at c3 m6 ⊢
 obtain⟨k,hk⟩:∃k:Nat,i.n=k:=⟨i.n.toNat,by omega⟩
 rw[hk]at c2 c3 ⊢
 refine⟨0,rfl,rfl,fun m=>m≤n∧zZ n m≤k∧xW n k n 0=xW n k (n-m) m,fun m=>n-m,⟨by omega,by show n≤k;omega,rfl⟩,?_⟩
 rintro m ⟨g1,g2,g3⟩
 have hf:=tA m6 g1
 refine zT (fun c4=> ?_) (fun c4=> ?_)
 ·obtain⟨r,hr⟩:∃r,n-m=r+1:=⟨n-m-1,by omega⟩
  have e1:(k:Int).toNat=k:=by omega
  rw[e1,g3,hr,w64 (x:=(n:Int)-1) (by omega),w64 (x:=(n:Int)-1-m) (by omega),w64 (x:=(zZ n m:Int)+((n:Int)-1-m)) (by omega),w64 (x:=(m:Int)+1) (by omega)]
  rw[hr]at g3
  refine zT (fun c5=> ?_) (fun c5=> ?_)
  ·rw[w64 (x:=(m:Int)+1+k) (by omega),w64 (x:=(m:Int)+1+k-(zZ n m:Int)) (by omega),xW,if_pos (by omega)]
   refine⟨(),rfl,?_,rfl,trivial⟩
   dsimp only;omega
  ·refine⟨m+1,?_,rfl,⟨by omega,?_,?_⟩,by(first|omega|(dsimp only;omega)),kp⟩
   ·rw[zZ];omega
   ·rw[zZ];omega
   ·rw[xW,if_neg (by omega),show n-(m+1)=r by omega]
 ·have e1:(k:Int).toNat=k:=by omega
  rw[e1,g3,show n-m=0 by omega]
  exact⟨(),rfl,rfl,rfl,trivial⟩
theorem zMo:legsC.ok Tryz.prog 124:=z3i (gokc uX gok0) z9s
theorem zZd (i:cA) (h:spreadC.cnd i):zMy i:=by
 obtain⟨h1,h2,h3⟩:i.p.small:=h
 refine⟨i.p,?_⟩
 simp only[yX]
 (repeat'(first|exact rfl|exact trivial|assumption|apply And.intro|refine fun(_:Unit) (_:True)=>?_|refine Exists.intro () ?_|omega|(dsimp only;omega)))
 have bad (hb:i.p.check≠0∨i.a<0∨i.b≤i.a∨(i.p.months.length:Int)≤i.b):∃(o:Unit),(i.p.spread i.a i.b).fst=0∧(i.p.spread i.a i.b).snd=false∧True:=⟨(),by rw[Prd.spread,if_pos hb],by rw[Prd.spread,if_pos hb],trivial⟩
 refine Cv.cnd.mk (fun c1=>bad (.inl (by simpa using c1))) fun c1=>zT (fun c2=>bad (by omega)) fun c2=>zT (fun c3=>bad (by omega)) fun c3=>zT (fun c4=>bad (by omega)) fun c4=> ?_
 have c1:i.p.check=0:=by simpa using c1
 have m6:=(qB c1).m6
 rw[Prd.spread,if_neg (by omega)]
 generalize hn:i.p.months.length=n at c4 m6 ⊢
 obtain⟨a,ha⟩:∃k:Nat,i.a=k:=⟨i.a.toNat,by omega⟩
 rw[ha]at c3 ⊢
 refine⟨0,rfl,rfl,fun m=>m≤a,fun m=>a-m,by omega,?_⟩
 intro m hm
 have hm:m≤a:=hm
 have hf:=tA (m:=m) m6 (by omega)
 refine zT (fun c5=> ?_) (fun c5=> ?_)
 ·rw[w64 (x:=(n:Int)-1) (by omega),w64 (x:=(n:Int)-1-m) (by omega),w64 (x:=(zZ n m:Int)+((n:Int)-1-m)) (by omega),w64 (x:=(m:Int)+1) (by omega)]
  refine⟨m+1,?_,rfl,by omega,by(first|omega|(dsimp only;omega)),kp⟩
  rw[zZ];omega
 ·obtain rfl:m=a:=by omega
  rw[w64 (x:=(zZ n m:Int)+i.b) (by omega),w64 (x:=(zZ n m:Int)+i.b-m) (by omega),w64 (x:=(zZ n m:Int)+i.b-m-1) (by omega)]
  exact⟨(),rfl,rfl,trivial⟩
theorem zAd:spreadC.ok Tryz.prog 127:=zUh (gokc tG gok0) zZd
theorem z4v (i:cA) (h:priceC.cnd i):zRg i:=by
 obtain⟨h1,h2,h3⟩:i.p.small:=h
 refine⟨i.p,?_⟩
 simp only[yX]
 (repeat'(first|exact rfl|exact trivial|assumption|apply And.intro|refine fun(_:Unit) (_:True)=>?_|refine Exists.intro () ?_|omega|(dsimp only;omega)))
 refine Cv.cnd.mk (fun c1=>⟨(),by rw[Prd.price,if_pos (by have:(i.p.count:Int)=0:=(by simpa using c1);omega)],trivial⟩) fun c1=> ?_
 have c1:i.p.count≠0:=by
  have:¬(i.p.count:Int)=0:=by simpa using c1
  omega
 have e0:i.p.price i.a i.b=if i.a<0∨(i.p.count:Int)≤i.a then 20 else if xO i.p.tick i.b then 22 else
  if i.b<(if(i.p.months.length:Int)≤i.a then-i.p.wide else i.p.low)∨(if(i.p.months.length:Int)≤i.a then i.p.wide else i.p.high)<i.b then 23 else 0:=by rw[Prd.price,if_neg c1]
 rw[e0]
 have ok:=qB (fP c1)
 obtain⟨t1,b3,b1,b2,b4,b5⟩:=(⟨ok.t1,ok.b3,ok.b1,ok.b2,ok.b4,ok.b5⟩:_∧_∧_∧_∧_∧_)
 refine zT (fun c2=>⟨(),by rw[if_pos (.inl c2)],trivial⟩) fun c2=>zT (fun c3=>⟨(),by rw[if_pos (.inr c3)],trivial⟩) fun c3=>⟨kp,by omega,?_⟩
 have c3:¬i.a≥(i.p.count:Int):=c3
 rw[if_neg (by omega)]
 refine Cv.cnd.mk (fun c4=>⟨(),if_pos c4,trivial⟩) fun c4=> ?_
 rw[if_neg (by rw[xO,c4];simp),w64 (x:=0-i.p.wide) (by omega)]
 refine zT (fun c5=> ?_) (fun c5=> ?_)
 ·have c5:(i.p.months.length:Int)≤i.a:=c5
  simp only[if_pos c5]
  refine zT (fun c6=>⟨(),if_pos (.inl (by omega)),trivial⟩) fun c6=>zT (fun c7=>⟨(),if_pos (.inr (by omega)),trivial⟩) fun c7=>⟨(),if_neg (by omega),trivial⟩
 ·have c5:¬(i.p.months.length:Int)≤i.a:=c5
  simp only[if_neg c5]
  refine zT (fun c6=>⟨(),if_pos (.inl (by omega)),trivial⟩) fun c6=>zT (fun c7=>⟨(),if_pos (.inr (by omega)),trivial⟩) fun c7=>⟨(),if_neg (by omega),trivial⟩
theorem zEk:priceC.ok Tryz.prog 29:=z0b (gokc uX gok0) z4v
theorem z2k (x:Int) (h: -18446744073709551616≤x∧x<18446744073709551616):(yM x∧IntKind.i64.wrap x=x)∨(9223372036854775807<x∧IntKind.i64.wrap x=x-18446744073709551616)∨(x< -9223372036854775808∧IntKind.i64.wrap x=x+18446744073709551616):=by
 have e:IntKind.i64.wrap x=if(decide (x % 18446744073709551616≥9223372036854775808))=true then x % 18446744073709551616-18446744073709551616 else x % 18446744073709551616:=by
  have:IntKind.i64.wrap x=if(true && decide (x % 18446744073709551616≥9223372036854775808))=true then x % 18446744073709551616-18446744073709551616 else x % 18446744073709551616:=rfl
  rw[this,Bool.true_and]
 have e:IntKind.i64.wrap x=(x+9223372036854775808) % 18446744073709551616-9223372036854775808:=by
  rw[e]
  by_cases h2:x % 18446744073709551616≥9223372036854775808
  ·rw[if_pos (decide_eq_true h2)];omega
  ·rw[if_neg (by simpa using h2)];omega
 rw[e]
 by_cases h1:yM x
 ·exact .inl ⟨h1,by unfold yM at h1;omega⟩
 ·unfold yM at h1
  omega
theorem yAt (i:I2) (h:addC.cnd i):z6t i:=by
 obtain⟨⟨x1,x2⟩,y1,y2⟩:yM i.x∧yM i.y:=h
 have hw:=z2k (i.x+i.y) (by omega)
 unfold z6t jB
 generalize IntKind.i64.wrap (i.x+i.y)=w at hw ⊢
 unfold yM at hw ⊢
 refine Cv.cnd.mk (fun c1=>Cv.cnd.mk (fun c2=> ?_) (fun c2=> ?_)) (fun c1=> ?_)
 all_goals(simp at*)
 ·rw[if_neg (by omega)];exact kp
 ·rw[if_pos (by omega)];refine⟨?_,rfl⟩;dsimp only;omega
 ·rw[if_pos (by omega)];refine⟨?_,rfl⟩;dsimp only;omega
theorem zBs:addC.ok Tryz.prog 142:=z8o gok0 yAt
theorem yAl (i:I2) (h:subC.cnd i):z6h i:=by
 obtain⟨⟨x1,x2⟩,y1,y2⟩:yM i.x∧yM i.y:=h
 have hw:=z2k (i.x-i.y) (by omega)
 unfold z6h jF
 generalize IntKind.i64.wrap (i.x-i.y)=w at hw ⊢
 unfold yM at hw ⊢
 refine Cv.cnd.mk (fun c1=>Cv.cnd.mk (fun c2=> ?_) (fun c2=> ?_)) (fun c1=> ?_)
 all_goals(simp at*)
 ·rw[if_neg (by omega)];exact kp
 ·rw[if_pos (by omega)];refine⟨?_,rfl⟩;dsimp only;omega
 ·rw[if_pos (by omega)];refine⟨?_,rfl⟩;dsimp only;omega
theorem zCj:subC.ok Tryz.prog 143:=z9t gok0 yAl
open Go Cv Go.Proofs
structure Slot where
 used:Bool
 n:Int
 id:Int
 qty:Int
 top:Bool
 queue:Int
 ahead:Int
 back:Int
 deriving DecidableEq
structure qG where
 first:Int
 last:Int
 total:Int
 count:Int
 deriving DecidableEq
structure Arena where
 slots:List Slot
 queues:List qG
 free:Int
 deriving DecidableEq
def zL (s:Slot):List D:=[.v (.bool s.used),.v (.int .i64 s.n),.v (.int .i64 s.id),.v (.int .i64 s.qty),.v (.bool s.top),.v (.int .i64 s.queue),.v (.int .i64 s.ahead),.v (.int .i64 s.back)]
def zF (q:qG):List D:=[.v (.int .i64 q.first),.v (.int .i64 q.last),.v (.int .i64 q.total),.v (.int .i64 q.count)]
def slot0:Slot:=⟨false,0,0,0,false,0,0,0⟩
def zC (a:Arena):Nat→AObj
 |0=> .cells [.own 1,.own 2,zE a.free] 184
 |1=> .own 195 8 (a.slots.map zL)
 |2=> .own 199 4 (a.queues.map zF)
 |_=> .gone
def qR (a:Arena):AObj:= .adt Arena 3 zC a
structure y7 where
 price:Int
 queue:Int
 deriving DecidableEq
structure Place where
 side:Int
 price:Int
 slot:Int
 deriving DecidableEq
structure Book where
 a:Arena
 buys:List y7
 sells:List y7
 at_:List (Int×Place)
 top1:Int
 top2:Int
 spare:List Int
 has1:Bool
 has2:Bool
 deriving DecidableEq
def zA (r:y7):List D:=[.v (.int .i64 r.price),.v (.int .i64 r.queue)]
def zKq (p:Place):List D:=[.v (.int .i64 p.side),.v (.int .i64 p.price),.v (.int .i64 p.slot)]
def atE (l:List (Int×Place)):List (Value×List D):=l.map fun x=>(.int .i64 x.1,zKq x.2)
def zN (b:Book):Nat→AObj
 |0=> .cells [.nm 1 0,.own 2,.own 3,.mp 4,zE b.top1,zE b.top2,.own 5,yN b.has1,yN b.has2] 135
 |1=>qR b.a
 |2=> .own 141 2 (b.buys.map zA)
 |3=> .own 141 2 (b.sells.map zA)
 |4=> .map (atE b.at_)
 |5=> .own 3 1 (iE b.spare)
 |_=> .gone
def yA (b:Book):AObj:= .adt Book 6 zN b
structure MSt where
 p:Prd
 books:List Book
 wh:List (Int×Int)
def yE (l:List (Int×Int)):List (Value×List D):=l.map fun x=>(.int .i64 x.1,[.v (.int .i64 x.2)])
def z7 (s:MSt):Nat→AObj
 |0=> .cells [sV s.p.code,.own 3,zE s.p.tick,zE s.p.low,zE s.p.high,zE s.p.wide,zE s.p.rule,zE s.p.top,zE s.p.least,zE s.p.part,.own 4,.own 1,.mp 2] 62
 |1=> .objs 64 Book 6 zN s.books none
 |2=> .map (yE s.wh)
 |3=> .fro 1 (iE s.p.months)
 |4=> .fro 1 (iE s.p.settle)
 |_=> .gone
def zJ (s:MSt):AObj:= .adt MSt 5 z7 s
def tO (n:Nat):Arena:=⟨List.replicate n slot0,[],n⟩
def book0:Book:=⟨tO 250,[],[],[],0,0,[],false,false⟩
def newAC:Con:=con1 Nat (fun n=>[zE n]) (fun _=>[]) (fun n=>1≤n∧n≤4096) (fun _=> .tup [.nm 0 0,zE 0]) (fun n=>[qR (tO n)])
def newBC:Con:=con1 Unit (fun _=>[]) (fun _=>[]) (fun _=>True) (fun _=> .nm 0 0) (fun _=>[yA book0])
def gX (p:Prd):MSt:=⟨p,List.replicate p.count book0,[]⟩
def newSC:Con where
 ι:=Prd
 pat:=fun p=>[prdV p]
 pre:=fun _=>[]
 cnd:=fun p=>p.small
 alts:=fun p=>[{o:=Unit,res:=fun _=> .tup [.nm 0 0,zE 0],post:=fun _=>[zJ (gX p)],rel:=fun _=>p.check=0},{o:=Unit,res:=fun _=> .tup [.d (.v (.pointer none)),zE p.check],post:=fun _=>[],rel:=fun _=>p.check≠0}]
def z9h (p:Prd):List SAnn:=[{ι:=Nat,slots:=fun j=>[(5,.nm 0 0),(27,zE j)],rows:=fun j=>(List.range 5).map (z7 ⟨p,List.replicate j book0,[]⟩)}]
def clSlotC:Con:=con1 (List Slot) (fun _=>[.own 0]) (fun l=>[.own 195 8 (l.map zL)]) (fun l=>l.length≤1000000) (fun _=> .own 1) (fun l=>[.own 195 8 (l.map zL),.own 195 8 (l.map zL)])
def clQueueC:Con:=con1 (List qG) (fun _=>[.own 0]) (fun l=>[.own 199 4 (l.map zF)]) (fun l=>l.length≤1000000) (fun _=> .own 1) (fun l=>[.own 199 4 (l.map zF),.own 199 4 (l.map zF)])
def clRungC:Con:=con1 (List y7) (fun _=>[.own 0]) (fun l=>[.own 141 2 (l.map zA)]) (fun l=>l.length≤1000000) (fun _=> .own 1) (fun l=>[.own 141 2 (l.map zA),.own 141 2 (l.map zA)])
def clIntC:Con:=con1 (List Int) (fun _=>[.own 0]) (fun l=>[.own 3 1 (iE l)]) (fun l=>l.length≤1000000) (fun _=> .own 1) (fun l=>[.own 3 1 (iE l),.own 3 1 (iE l)])
def zUb (f:Nat):Con:=con1 (List (Value×List D)) (fun _=>[.mp 0]) (fun es=>[.map es]) (fun _=>True) (fun _=> .mp 1) (fun es=>[.map es,.map es])
def clAtC:Con:=zUb 0
def clWhC:Con:=zUb 1
@[reducible] def Arena.small (a:Arena):Prop:=a.slots.length≤1000000∧a.queues.length≤1000000
@[reducible] def Book.small (b:Book):Prop:=b.a.small∧b.buys.length≤1000000∧b.sells.length≤1000000∧b.spare.length≤1000000
@[reducible] def MSt.small (s:MSt):Prop:=s.books.length≤1000000∧∀b∈s.books,b.small
def copyAC:Con:=con1 Arena (fun _=>[.nm 0 0]) (fun a=>[qR a]) Arena.small (fun _=> .nm 1 0) (fun a=>[qR a,qR a])
def copyBC:Con:=con1 Book (fun _=>[.nm 0 0]) (fun b=>[yA b]) Book.small (fun _=> .nm 1 0) (fun b=>[yA b,yA b])
def z5j:List SAnn:=[{ι:=Unit,slots:=fun _=>[],rows:=fun _=>[],un:=3}]
def copySC:Con:=con1 MSt (fun _=>[.nm 0 0]) (fun s=>[zJ s]) MSt.small (fun _=> .nm 1 0) (fun s=>[zJ s,zJ s])
open Go Cv Go.Proofs
def zRc (n:Nat):Prop:=
 cnd (decide ((↑n:Int)<1)) (∃(o:Unit),False) (cnd (decide ((↑n:Int)>4096)) (∃(o:Unit),False) ((0≤(↑n:Int)∧(↑n:Int)≤(↑n:Int)∧(↑n:Int)≤9223372036854775807∧(↑(64:Nat):Int)*(↑n:Int)≤2 ^ (48:Nat))∧∃(o:Unit),(0:Int)=(0:Int)∧(↑n:Int)=(↑n:Int)∧List.map zL (List.replicate n slot0)=List.replicate (↑n:Int).toNat [D.v (.bool false),D.v (.int .i64 0),D.v (.int .i64 0),D.v (.int .i64 0),D.v (.bool false),D.v (.int .i64 0),D.v (.int .i64 0),D.v (.int .i64 0)]∧([]:List (List D))=[]∧True))
theorem z7i (hG:GOk Tryz.prog ([])) (h:∀(n:Nat),newAC.cnd n→zRc n):newAC.ok Tryz.prog 55:=okw mixed hG 0 (fun _=>[]) (fun _=>[]) [] Tryz.func55 h
def z9l (u:Unit):Prop:=
 ∃(i:Nat),(↑i:Int)=250∧(1≤i∧i≤4096)∧∀(o:Unit),True→∃(o:Unit),(0:Int)=(0:Int)∧(0:Int)=(0:Int)∧false=false∧false=false∧AObj.adt Arena 3 zC (tO 250)=AObj.adt Arena 3 zC (tO i)∧([]:List (List D))=[]∧([]:List (List D))=[]∧atE []=[]∧iE []=[]∧True
theorem z3u (hG:GOk Tryz.prog ([(55,newAC)])) (h:∀(u:Unit),newBC.cnd u→z9l u):newBC.ok Tryz.prog 23:=okw mixed hG 0 (fun _=>[]) (fun _=>[]) [] Tryz.func23 h
@[reducible] def zNe (p:Prd):AObj:=Sx.AObj.cells [V.d (D.v (Value.string (sb p.code))),V.own ((0:Nat)+(1:Nat)+(1:Nat)+(1:Nat)+((0:Nat)-(0:Nat))+(1:Nat)),V.d (D.v (.int .i64 p.tick)),V.d (D.v (.int .i64 p.low)),V.d (D.v (.int .i64 p.high)),V.d (D.v (.int .i64 p.wide)),V.d (D.v (.int .i64 p.rule)),V.d (D.v (.int .i64 p.top)),V.d (D.v (.int .i64 p.least)),V.d (D.v (.int .i64 p.part)),V.own ((0:Nat)+(1:Nat)+(1:Nat)+(1:Nat)+((0:Nat)-(0:Nat))+(1:Nat)+(1:Nat)+(1:Nat))] (25:Nat)
@[reducible] def pG (p:Prd):AObj:=Sx.AObj.cells [V.d (D.v (Value.string (sb p.code))),V.own ((0:Nat)+(1:Nat)+(1:Nat)+(1:Nat)+((0:Nat)-(0:Nat))+(1:Nat)+(1:Nat)),V.d (D.v (.int .i64 p.tick)),V.d (D.v (.int .i64 p.low)),V.d (D.v (.int .i64 p.high)),V.d (D.v (.int .i64 p.wide)),V.d (D.v (.int .i64 p.rule)),V.d (D.v (.int .i64 p.top)),V.d (D.v (.int .i64 p.least)),V.d (D.v (.int .i64 p.part)),V.own ((0:Nat)+(1:Nat)+(1:Nat)+(1:Nat)+((0:Nat)-(0:Nat))+(1:Nat)+(1:Nat)+(1:Nat))] (25:Nat)
def z2p (p:Prd):Prop:=
 ∃(i:Prd),sb i.code=sb p.code∧iE i.months=iE p.months∧i.tick=p.tick∧i.low=p.low∧i.high=p.high∧i.wide=p.wide∧i.rule=p.rule∧i.top=p.top∧i.least=p.least∧i.part=p.part∧iE i.settle=iE p.settle∧(i.code.length≤1099511627776∧i.months.length≤1099511627776∧i.settle.length≤1099511627776)∧∀(o:Unit),True→cnd (i.check !=0) ((∃(o:Unit),False)∨∃(o:Unit),True∧p.check=i.check∧(p.check=0→False)) ((True∧True∧((0+(iE p.months).length)*(8:Nat)≤(70368744177664:Nat)∧True∧True∧(0+(iE p.settle).length)*(8:Nat)≤(70368744177664:Nat)∧∃(i:Prd),sb i.code=sb p.code∧iE i.months=[]++iE p.months∧i.tick=p.tick∧i.low=p.low∧i.high=p.high∧i.wide=p.wide∧i.rule=p.rule∧i.top=p.top∧i.least=p.least∧i.part=p.part∧iE i.settle=[]++iE p.settle∧(i.code.length≤1099511627776∧i.months.length≤1099511627776∧i.settle.length≤1099511627776)∧∀(o:Unit),True→∃(i0:Nat),(↑i0:Int)=0∧sb p.code=sb p.code∧p.tick=p.tick∧p.low=p.low∧p.high=p.high∧p.wide=p.wide∧p.rule=p.rule∧p.top=p.top∧p.least=p.least∧p.part=p.part∧List.replicate i0 book0=[]∧(none:Option Nat)=none∧yE []=[]∧AObj.fro 1 (iE p.months)=AObj.fro 1 ([]++iE p.months)∧AObj.fro 1 (iE p.settle)=AObj.fro 1 ([]++iE p.settle)∧∃(I:Nat→Prop),∃(μ:Nat→Nat),I i0∧∀(i_1:Nat),I i_1→cnd (decide ((↑i_1:Int)<(↑i.count:Int))) (∃(i:Unit),True∧∀(o:Unit),True→True∧True∧∃(l1':List Book),AObj.objs 64 Book 6 zN (List.replicate i_1 book0) none=AObj.objs 64 Book 6 zN l1' none∧(l1'.length+1)*(8:Nat)≤(70368744177664:Nat)∧∃(i':Nat),(↑i':Int)=IntKind.i64.wrap ((↑i_1:Int)+1)∧sb p.code=sb p.code∧p.tick=p.tick∧p.low=p.low∧p.high=p.high∧p.wide=p.wide∧p.rule=p.rule∧p.top=p.top∧p.least=p.least∧p.part=p.part∧AObj.objs 64 Book 6 zN (List.replicate i' book0) none=AObj.objs 64 Book 6 zN (l1'++[book0]) none∧yE []=yE []∧AObj.fro 1 (iE p.months)=AObj.fro 1 (iE p.months)∧AObj.fro 1 (iE p.settle)=AObj.fro 1 (iE p.settle)∧I i'∧μ i'<μ i_1∧AObj.fro 1 ([]++iE p.settle)=AObj.fro 1 ([]++iE p.settle)∧AObj.fro 1 ([]++iE p.months)=AObj.fro 1 ([]++iE p.months)∧zNe p=zNe p∧AObj.fro 1 (iE p.settle)=AObj.fro 1 (iE p.settle)∧AObj.fro 1 (iE p.months)=AObj.fro 1 (iE p.months)) ((∃(o:Unit),(0:Int)=(0:Int)∧sb p.code=sb p.code∧p.tick=p.tick∧p.low=p.low∧p.high=p.high∧p.wide=p.wide∧p.rule=p.rule∧p.top=p.top∧p.least=p.least∧p.part=p.part∧AObj.objs 64 Book 6 zN (List.replicate p.count book0) none=AObj.objs 64 Book 6 zN (List.replicate i_1 book0) none∧yE []=yE []∧AObj.fro 1 (iE p.months)=AObj.fro 1 (iE p.months)∧AObj.fro 1 (iE p.settle)=AObj.fro 1 (iE p.settle)∧p.check=0)∨∃(o:Unit),False))∧True∧True∧(0+(iE p.months).length)*(8:Nat)≤(70368744177664:Nat)∧True∧(0+(iE p.settle).length)*(8:Nat)≤(70368744177664:Nat)∧∃(i:Prd),sb i.code=sb p.code∧iE i.months=[]++iE p.months∧i.tick=p.tick∧i.low=p.low∧i.high=p.high∧i.wide=p.wide∧i.rule=p.rule∧i.top=p.top∧i.least=p.least∧i.part=p.part∧iE i.settle=[]++iE p.settle∧(i.code.length≤1099511627776∧i.months.length≤1099511627776∧i.settle.length≤1099511627776)∧∀(o:Unit),True→∃(i0:Nat),(↑i0:Int)=0∧sb p.code=sb p.code∧p.tick=p.tick∧p.low=p.low∧p.high=p.high∧p.wide=p.wide∧p.rule=p.rule∧p.top=p.top∧p.least=p.least∧p.part=p.part∧List.replicate i0 book0=[]∧(none:Option Nat)=none∧yE []=[]∧AObj.fro 1 (iE p.months)=AObj.fro 1 ([]++iE p.months)∧AObj.fro 1 (iE p.settle)=AObj.fro 1 ([]++iE p.settle)∧∃(I:Nat→Prop),∃(μ:Nat→Nat),I i0∧∀(i_1:Nat),I i_1→cnd (decide ((↑i_1:Int)<(↑i.count:Int))) (∃(i:Unit),True∧∀(o:Unit),True→True∧True∧∃(l1':List Book),AObj.objs 64 Book 6 zN (List.replicate i_1 book0) none=AObj.objs 64 Book 6 zN l1' none∧(l1'.length+1)*(8:Nat)≤(70368744177664:Nat)∧∃(i':Nat),(↑i':Int)=IntKind.i64.wrap ((↑i_1:Int)+1)∧sb p.code=sb p.code∧p.tick=p.tick∧p.low=p.low∧p.high=p.high∧p.wide=p.wide∧p.rule=p.rule∧p.top=p.top∧p.least=p.least∧p.part=p.part∧AObj.objs 64 Book 6 zN (List.replicate i' book0) none=AObj.objs 64 Book 6 zN (l1'++[book0]) none∧yE []=yE []∧AObj.fro 1 (iE p.months)=AObj.fro 1 (iE p.months)∧AObj.fro 1 (iE p.settle)=AObj.fro 1 (iE p.settle)∧I i'∧μ i'<μ i_1∧AObj.fro 1 ([]++iE p.settle)=AObj.fro 1 ([]++iE p.settle)∧AObj.fro 1 ([]++iE p.months)=AObj.fro 1 ([]++iE p.months)∧pG p=pG p∧AObj.fro 1 (iE p.settle)=AObj.fro 1 (iE p.settle)∧AObj.fro 1 (iE p.months)=AObj.fro 1 (iE p.months)) ((∃(o:Unit),(0:Int)=(0:Int)∧sb p.code=sb p.code∧p.tick=p.tick∧p.low=p.low∧p.high=p.high∧p.wide=p.wide∧p.rule=p.rule∧p.top=p.top∧p.least=p.least∧p.part=p.part∧AObj.objs 64 Book 6 zN (List.replicate p.count book0) none=AObj.objs 64 Book 6 zN (List.replicate i_1 book0) none∧yE []=yE []∧AObj.fro 1 (iE p.months)=AObj.fro 1 (iE p.months)∧AObj.fro 1 (iE p.settle)=AObj.fro 1 (iE p.settle)∧p.check=0)∨∃(o:Unit),False))∧True∧True∧True∧True∧(0+(iE p.months).length)*(8:Nat)≤(70368744177664:Nat)∧True∧(0+(iE p.settle).length)*(8:Nat)≤(70368744177664:Nat)∧∃(i:Prd),sb i.code=sb p.code∧iE i.months=[]++iE p.months∧i.tick=p.tick∧i.low=p.low∧i.high=p.high∧i.wide=p.wide∧i.rule=p.rule∧i.top=p.top∧i.least=p.least∧i.part=p.part∧iE i.settle=[]++iE p.settle∧(i.code.length≤1099511627776∧i.months.length≤1099511627776∧i.settle.length≤1099511627776)∧∀(o:Unit),True→∃(i0:Nat),(↑i0:Int)=0∧sb p.code=sb p.code∧p.tick=p.tick∧p.low=p.low∧p.high=p.high∧p.wide=p.wide∧p.rule=p.rule∧p.top=p.top∧p.least=p.least∧p.part=p.part∧List.replicate i0 book0=[]∧(none:Option Nat)=none∧yE []=[]∧AObj.fro 1 (iE p.months)=AObj.fro 1 ([]++iE p.months)∧AObj.fro 1 (iE p.settle)=AObj.fro 1 ([]++iE p.settle)∧∃(I:Nat→Prop),∃(μ:Nat→Nat),I i0∧∀(i_1:Nat),I i_1→cnd (decide ((↑i_1:Int)<(↑i.count:Int))) (∃(i:Unit),True∧∀(o:Unit),True→True∧True∧∃(l1':List Book),AObj.objs 64 Book 6 zN (List.replicate i_1 book0) none=AObj.objs 64 Book 6 zN l1' none∧(l1'.length+1)*(8:Nat)≤(70368744177664:Nat)∧∃(i':Nat),(↑i':Int)=IntKind.i64.wrap ((↑i_1:Int)+1)∧sb p.code=sb p.code∧p.tick=p.tick∧p.low=p.low∧p.high=p.high∧p.wide=p.wide∧p.rule=p.rule∧p.top=p.top∧p.least=p.least∧p.part=p.part∧AObj.objs 64 Book 6 zN (List.replicate i' book0) none=AObj.objs 64 Book 6 zN (l1'++[book0]) none∧yE []=yE []∧AObj.fro 1 (iE p.months)=AObj.fro 1 (iE p.months)∧AObj.fro 1 (iE p.settle)=AObj.fro 1 (iE p.settle)∧I i'∧μ i'<μ i_1∧AObj.fro 1 ([]++iE p.settle)=AObj.fro 1 ([]++iE p.settle)∧AObj.fro 1 ([]++iE p.months)=AObj.fro 1 ([]++iE p.months)∧pG p=pG p∧AObj.fro 1 (iE p.settle)=AObj.fro 1 (iE p.settle)∧AObj.fro 1 (iE p.months)=AObj.fro 1 (iE p.months)) ((∃(o:Unit),(0:Int)=(0:Int)∧sb p.code=sb p.code∧p.tick=p.tick∧p.low=p.low∧p.high=p.high∧p.wide=p.wide∧p.rule=p.rule∧p.top=p.top∧p.least=p.least∧p.part=p.part∧AObj.objs 64 Book 6 zN (List.replicate p.count book0) none=AObj.objs 64 Book 6 zN (List.replicate i_1 book0) none∧yE []=yE []∧AObj.fro 1 (iE p.months)=AObj.fro 1 (iE p.months)∧AObj.fro 1 (iE p.settle)=AObj.fro 1 (iE p.settle)∧p.check=0)∨∃(o:Unit),False))
theorem z4b (hG:GOk Tryz.prog ([(21,checkC),(22,pcountC),(23,newBC)])) (h:∀(p:Prd),newSC.cnd p→z2p p):newSC.ok Tryz.prog 9:=okw mixed hG 0 (fun _=>[]) (fun p=>z9h p) [] Tryz.func9 h
def z1s (l:List Slot):Prop:=
 ∀(b:Bool),(b=true→List.map zL l=[])→cnd b (∃(o:Unit),List.map zL l=List.map zL l∧List.map zL l=[]∧True) ((0+(List.map zL l).length)*(64:Nat)≤(70368744177664:Nat)∧∃(o:Unit),List.map zL l=List.map zL l∧List.map zL l=[]++List.map zL l∧True)
theorem zWf (hG:GOk Tryz.prog ([])) (h:∀(l:List Slot),clSlotC.cnd l→z1s l):clSlotC.ok Tryz.prog 119:=okw mixed hG 0 (fun _=>[]) (fun _=>[]) [] Tryz.func119 h
def zWk (l:List qG):Prop:=
 ∀(b:Bool),(b=true→List.map zF l=[])→cnd b (∃(o:Unit),List.map zF l=List.map zF l∧List.map zF l=[]∧True) ((0+(List.map zF l).length)*(32:Nat)≤(70368744177664:Nat)∧∃(o:Unit),List.map zF l=List.map zF l∧List.map zF l=[]++List.map zF l∧True)
theorem zPn (hG:GOk Tryz.prog ([])) (h:∀(l:List qG),clQueueC.cnd l→zWk l):clQueueC.ok Tryz.prog 120:=okw mixed hG 0 (fun _=>[]) (fun _=>[]) [] Tryz.func120 h
def zXo (l:List y7):Prop:=
 ∀(b:Bool),(b=true→List.map zA l=[])→cnd b (∃(o:Unit),List.map zA l=List.map zA l∧List.map zA l=[]∧True) ((0+(List.map zA l).length)*(16:Nat)≤(70368744177664:Nat)∧∃(o:Unit),List.map zA l=List.map zA l∧List.map zA l=[]++List.map zA l∧True)
theorem zXi (hG:GOk Tryz.prog ([])) (h:∀(l:List y7),clRungC.cnd l→zXo l):clRungC.ok Tryz.prog 92:=okw mixed hG 0 (fun _=>[]) (fun _=>[]) [] Tryz.func92 h
def z4g (l:List Int):Prop:=
 ∀(b:Bool),(b=true→iE l=[])→cnd b (∃(o:Unit),iE l=iE l∧iE l=[]∧True) ((0+(iE l).length)*(8:Nat)≤(70368744177664:Nat)∧∃(o:Unit),iE l=iE l∧iE l=[]++iE l∧True)
theorem z0c (hG:GOk Tryz.prog ([])) (h:∀(l:List Int),clIntC.cnd l→z4g l):clIntC.ok Tryz.prog 91:=okw mixed hG 0 (fun _=>[]) (fun _=>[]) [] Tryz.func91 h
def zTf (es:List (Value×List D)):Prop:=
 ∃(i:List (Value×List D)),i=es∧True∧∀(o:Unit),True→∃(o:Unit),es=i∧es=i∧True
theorem z6m (es:List (Value×List D)):zTf es=walk Tryz.prog ([(88,vG 131)]) 0 ([]) ([]) [] Tryz.f90 (Tryz.f90.body.getD .skip) (clAtC.pat es) (clAtC.pre es) (clAtC.alts es):=by kernel_rfl
theorem z5r (hG:GOk Tryz.prog ([(88,vG 131)])) (h:∀(es:List (Value×List D)),clAtC.cnd es→zTf es):clAtC.ok Tryz.prog 90:=cK mixed ([(88,vG 131)]) hG 0 (fun(es:List (Value×List D))=>[]) (fun(es:List (Value×List D))=>[]) [] Tryz.func90 (by kernel_rfl) (by kernel_rfl) (by kernel_rfl) (fun _=>by kernel_rfl) (fun(es:List (Value×List D)) hc=>Eq.mp (z6m es) (h es hc))
def zVx (es:List (Value×List D)):Prop:=
 ∃(i:List (Value×List D)),i=es∧True∧∀(o:Unit),True→∃(o:Unit),es=i∧es=i∧True
theorem z7r (es:List (Value×List D)):zVx es=walk Tryz.prog ([(88,vG 59)]) 0 ([]) ([]) [] Tryz.f56 (Tryz.f56.body.getD .skip) (clWhC.pat es) (clWhC.pre es) (clWhC.alts es):=by kernel_rfl
theorem z5t (hG:GOk Tryz.prog ([(88,vG 59)])) (h:∀(es:List (Value×List D)),clWhC.cnd es→zVx es):clWhC.ok Tryz.prog 56:=cK mixed ([(88,vG 59)]) hG 0 (fun(es:List (Value×List D))=>[]) (fun(es:List (Value×List D))=>[]) [] Tryz.func56 (by kernel_rfl) (by kernel_rfl) (by kernel_rfl) (fun _=>by kernel_rfl) (fun(es:List (Value×List D)) hc=>Eq.mp (z7r es) (h es hc))
def z5s (a:Arena):Prop:=
 ∃(i:List Slot),List.map zL i=List.map zL a.slots∧i.length≤1000000∧∀(o:Unit),True→a.free=a.free∧True∧∃(i_1:List qG),List.map zF i_1=List.map zF a.queues∧i_1.length≤1000000∧∀(o:Unit),True→a.free=a.free∧∃(o:Unit),a.free=a.free∧List.map zL a.slots=List.map zL i∧List.map zF a.queues=List.map zF i_1∧a.free=a.free∧List.map zL a.slots=List.map zL i∧List.map zF a.queues=List.map zF i_1∧True
theorem z0p (hG:GOk Tryz.prog ([(119,clSlotC),(120,clQueueC)])) (h:∀(a:Arena),copyAC.cnd a→z5s a):copyAC.ok Tryz.prog 89:=okw mixed hG 0 (fun _=>[]) (fun _=>[]) [0] Tryz.func89 h
def z3a (b:Book):Prop:=
 ∃(i:Arena),AObj.adt Arena 3 zC i=AObj.adt Arena 3 zC b.a∧(i.slots.length≤1000000∧i.queues.length≤1000000)∧∀(o:Unit),True→True∧True∧∃(i_1:List (Value×List D)),i_1=atE b.at_∧True∧∀(o:Unit),True→True∧∃(i_2:List Int),iE i_2=iE b.spare∧i_2.length≤1000000∧∀(o:Unit),True→∃(i_3:List y7),List.map zA i_3=List.map zA b.buys∧i_3.length≤1000000∧∀(o:Unit),True→∃(i_4:List y7),List.map zA i_4=List.map zA b.sells∧i_4.length≤1000000∧∀(o:Unit),True→∃(o:Unit),b.top1=b.top1∧b.top2=b.top2∧b.has1=b.has1∧b.has2=b.has2∧AObj.adt Arena 3 zC b.a=AObj.adt Arena 3 zC i∧List.map zA b.buys=List.map zA i_3∧List.map zA b.sells=List.map zA i_4∧atE b.at_=i_1∧iE b.spare=iE i_2∧b.top1=b.top1∧b.top2=b.top2∧b.has1=b.has1∧b.has2=b.has2∧AObj.adt Arena 3 zC b.a=AObj.adt Arena 3 zC i∧List.map zA b.buys=List.map zA i_3∧List.map zA b.sells=List.map zA i_4∧atE b.at_=i_1∧iE b.spare=iE i_2∧True
theorem zXx (hG:GOk Tryz.prog ([(89,copyAC),(90,clAtC),(91,clIntC),(92,clRungC)])) (h:∀(b:Book),copyBC.cnd b→z3a b):copyBC.ok Tryz.prog 57:=okw mixed hG 0 (fun _=>[]) (fun _=>z5j) [0] Tryz.func57 h
open Go Cv Go.Proofs
theorem z9k (n:Nat) (h:newAC.cnd n):zRc n:=by
 obtain⟨h1,h2⟩:1≤n∧n≤4096:=h
 unfold zRc
 refine zT (fun c=>by omega) fun c=>zT (fun c=>by omega) fun c=> ?_
 refine⟨⟨by omega,by omega,by omega,?_⟩,?_⟩
 ·have:(2:Int) ^ (48:Nat)=281474976710656:=by decide
  rw[this];omega
 ·refine⟨(),rfl,rfl,?_,rfl,trivial⟩
  rw[List.map_replicate];rfl
theorem z2b:newAC.ok Tryz.prog 55:=z7i gok0 z9k
theorem zXt:newBC.ok Tryz.prog 23:=z3u (gokc z2b gok0) fun u _=>by
 refine⟨250,rfl,⟨by omega,by omega⟩,?_⟩;exact kp
theorem z9u (p:Prd) (h:newSC.cnd p):z2p p:=by
 have hs:p.small:=h
 obtain⟨h1,h2,h3⟩:p.small:=h
 refine⟨p,?_⟩
 simp only[yX]
 (repeat'(first|exact rfl|exact trivial|assumption|apply And.intro|refine fun(_:Unit) (_:True)=>?_|refine Exists.intro () ?_|omega|(dsimp only;omega)))
 refine Cv.cnd.mk (fun c=> .inr ⟨(),trivial,kp,by simpa using c⟩) fun c=> ?_
 have c:p.check=0:=by simpa using c
 have hc:=jQ p
 (repeat'(first|exact rfl|exact trivial|assumption|apply And.intro|refine fun(_:Unit) (_:True)=>?_|refine Exists.intro () ?_|omega|(dsimp only;omega)))
 all_goals(refine⟨p,?_⟩;(repeat'(first|exact rfl|exact trivial|assumption|apply And.intro|refine fun(_:Unit) (_:True)=>?_|refine Exists.intro () ?_|omega|(dsimp only;omega))))
 all_goals(refine⟨0,?_⟩;(repeat'(first|exact rfl|exact trivial|assumption|apply And.intro|refine fun(_:Unit) (_:True)=>?_|refine Exists.intro () ?_|omega|(dsimp only;omega))))
 all_goals(refine⟨fun j=>j≤p.count,fun j=>p.count-j,by omega,fun j hj=>zT (fun hlt=> ?_) (fun hlt=> ?_)⟩;all_goals dsimp only at hj hlt)
 all_goals first
  |(refine .inl ⟨(),?_⟩
    obtain rfl:j=p.count:=by omega
    (repeat'(first|exact rfl|exact trivial|assumption|apply And.intro|refine fun(_:Unit) (_:True)=>?_|refine Exists.intro () ?_|omega|(dsimp only;omega))))
  |(refine⟨(),trivial,fun _ _=>⟨trivial,trivial,List.replicate j book0,rfl,?_,j+1,?_⟩⟩
    ·rw[List.length_replicate];omega
    ·rw[w64 (by omega),← List.replicate_succ']
     (repeat'(first|exact rfl|exact trivial|assumption|apply And.intro|refine fun(_:Unit) (_:True)=>?_|refine Exists.intro () ?_|omega|(dsimp only;omega))))
theorem newS_ok:newSC.ok Tryz.prog 9:=z4b (gokc tG (gokc uX (gokc zXt gok0))) z9u
theorem zQy:clSlotC.ok Tryz.prog 119:=zWf gok0 fun l h=>by
 have h:l.length≤1000000:=h
 exact fun b hb=>Cv.cnd.mk (fun e=>⟨(),rfl,hb e,trivial⟩) (fun _=>⟨by rw[Nat.zero_add,List.length_map];omega,(),rfl,rfl,trivial⟩)
theorem zIa:clQueueC.ok Tryz.prog 120:=zPn gok0 fun l h=>by
 have h:l.length≤1000000:=h
 exact fun b hb=>Cv.cnd.mk (fun e=>⟨(),rfl,hb e,trivial⟩) (fun _=>⟨by rw[Nat.zero_add,List.length_map];omega,(),rfl,rfl,trivial⟩)
theorem zOu:clRungC.ok Tryz.prog 92:=zXi gok0 fun l h=>by
 have h:l.length≤1000000:=h
 exact fun b hb=>Cv.cnd.mk (fun e=>⟨(),rfl,hb e,trivial⟩) (fun _=>⟨by rw[Nat.zero_add,List.length_map];omega,(),rfl,rfl,trivial⟩)
theorem zRo:clIntC.ok Tryz.prog 91:=z0c gok0 fun l h=>by
 have h:l.length≤1000000:=h
 exact fun b hb=>Cv.cnd.mk (fun e=>⟨(),rfl,hb e,trivial⟩) (fun _=>⟨by rw[Nat.zero_add,yX];omega,(),rfl,rfl,trivial⟩)
theorem lB (t:Nat):(vG t).ok Tryz.prog 88:=zJa Tryz.func88 (by kernel_rfl) (by kernel_rfl) (by kernel_rfl) (by kernel_rfl) t
theorem zYw:clAtC.ok Tryz.prog 90:=z5r (gokc (lB _) gok0) fun es _=>by
 unfold zTf
 refine⟨es,?_⟩;exact kp
theorem zZu:clWhC.ok Tryz.prog 56:=z5t (gokc (lB _) gok0) fun es _=>by
 unfold zVx
 refine⟨es,?_⟩;exact kp
theorem zRt:copyAC.ok Tryz.prog 89:=z0p (gokc zQy (gokc zIa gok0)) fun a h=>by
 obtain⟨h1,h2⟩:a.small:=h
 refine⟨a.slots,?_⟩;(repeat'(first|exact rfl|exact trivial|assumption|apply And.intro|refine fun(_:Unit) (_:True)=>?_|refine Exists.intro () ?_|omega|(dsimp only;omega)))
 refine⟨a.queues,?_⟩;exact kp
theorem zRv:copyBC.ok Tryz.prog 57:=zXx (gokc zRt (gokc zYw (gokc zRo (gokc zOu gok0)))) fun b h=>by
 obtain⟨⟨h1,h1'⟩,h2,h3,h4⟩:b.small:=h
 refine⟨b.a,?_⟩;(repeat'(first|exact rfl|exact trivial|assumption|apply And.intro|refine fun(_:Unit) (_:True)=>?_|refine Exists.intro () ?_|omega|(dsimp only;omega)))
 refine⟨atE b.at_,?_⟩;(repeat'(first|exact rfl|exact trivial|assumption|apply And.intro|refine fun(_:Unit) (_:True)=>?_|refine Exists.intro () ?_|omega|(dsimp only;omega)))
 refine⟨b.spare,?_⟩;(repeat'(first|exact rfl|exact trivial|assumption|apply And.intro|refine fun(_:Unit) (_:True)=>?_|refine Exists.intro () ?_|omega|(dsimp only;omega)))
 refine⟨b.buys,?_⟩;(repeat'(first|exact rfl|exact trivial|assumption|apply And.intro|refine fun(_:Unit) (_:True)=>?_|refine Exists.intro () ?_|omega|(dsimp only;omega)))
 refine⟨b.sells,?_⟩;exact kp
open Go Cv Go.Proofs
structure ArN where
 a:Arena
 n:Int
def Arena.qAt (a:Arena) (n:Int):qG:=if 0≤n∧n<a.queues.length then a.queues.getD n.toNat ⟨0,0,0,0⟩else⟨0,0,0,0⟩
def atotalC:Con:=con1 ArN (fun i=>[.nm 0 0,zE i.n]) (fun i=>[qR i.a]) (fun i=>True) (fun i=>zE (i.a.qAt i.n).total) (fun i=>[qR i.a])
def acountC:Con:=con1 ArN (fun i=>[.nm 0 0,zE i.n]) (fun i=>[qR i.a]) (fun i=>True) (fun i=>zE (i.a.qAt i.n).count) (fun i=>[qR i.a])
def bisC:Con:=con1 Int (fun n=>[zE n]) (fun _=>[]) (fun _=>True) (fun n=>yN (decide (n=1)||decide (n=2))) (fun _=>[])
structure BkR where
 b:Book
 r:y7
def Book.told (b:Book) (r:y7):Lv:=⟨r.price,(b.a.qAt r.queue).total,(b.a.qAt r.queue).count⟩
@[reducible] def Book.cntOk (b:Book):Prop:=∀q∈b.a.queues,yM q.count
def toldC:Con:=con1 BkR (fun i=>[.nm 0 0,.agg [zE i.r.price,zE i.r.queue]]) (fun i=>[yA i.b]) (fun i=>i.b.cntOk) (fun i=>lvV (i.b.told i.r)) (fun i=>[yA i.b])
def Book.best (b:Book) (l:List y7):Lv×Bool:=match l with
 |[]=>(⟨0,0,0⟩,false)
 |r::_=>(b.told r,true)
structure BkS where
 side:Bool
 b:Book
def Book.side (b:Book) (s:Bool):List y7:=if s then b.sells else b.buys
@[reducible] def zKm (b:Book) (l:List y7):V:= .tup [lvV (b.best l).1,yN (b.best l).2]
def best1C:Con:=con1 Book (fun _=>[.nm 0 0,zE 1]) (fun b=>[yA b]) Book.cntOk (fun b=>zKm b b.buys) (fun b=>[yA b])
def best2C:Con:=con1 Book (fun _=>[.nm 0 0,zE 2]) (fun b=>[yA b]) Book.cntOk (fun b=>zKm b b.sells) (fun b=>[yA b])
def zB (s:Bool):Int:=if s then 2 else 1
def bestC:Con:=con1 BkS (fun i=>[.nm 0 0,zE (zB i.side)]) (fun i=>[yA i.b]) (fun i=>i.b.cntOk) (fun i=>zKm i.b (i.b.side i.side)) (fun i=>[yA i.b])
structure Top where
 has1:Bool
 has2:Bool
 p1:Int
 p2:Int
 q1:Int
 q2:Int
 deriving DecidableEq
def zR (t:Top):List D:=[.v (.bool t.has1),.v (.bool t.has2),.v (.int .i64 t.p1),.v (.int .i64 t.p2),.v (.int .i64 t.q1),.v (.int .i64 t.q2)]
def top0:Top:=⟨false,false,0,0,0,0⟩
def Top.buy (t:Top) (x:Lv×Bool):Top:=if x.2 then{t with has1:=true,p1:=x.1.price,q1:=x.1.qty}else t
def Top.sell (t:Top) (x:Lv×Bool):Top:=if x.2 then{t with has2:=true,p2:=x.1.price,q2:=x.1.qty}else t
def Book.top (b:Book):Top:=(top0.buy (b.best b.buys)).sell (b.best b.sells)
def MSt.tops (s:MSt):List Top:=s.books.map Book.top
@[reducible] def MSt.cntOk (s:MSt):Prop:=s.books.length≤1000000∧∀b∈s.books,b.cntOk
def yL (s:MSt) (j:Nat) (x:Top):List Top:=(s.tops.take j)++x::List.replicate (s.books.length-j-1) top0
def kH (s:MSt) (j:Nat):List Top:=(s.tops.take j)++List.replicate (s.books.length-j) top0
def z9n (s:MSt):List SAnn:=[
 {ι:=Nat,slots:=fun j=>[(3,.own 0),(21,zE j)],rows:=fun j=>[.own 115 6 ((kH s j).map zR)]},
 {ι:=Unit,slots:=fun _=>[],rows:=fun _=>[],un:=3}]
def z8q (s:MSt):List (Nat×SAnn):=[(15,{ι:=Nat×Top,slots:=fun x=>[(3,.own 0)],slots0:=fun x=>[(3,.own 0)],rows0:=fun x=>[.own 115 6 ((yL s x.1 x.2).map zR)],rows:=fun x=>[.own 115 6 ((yL s x.1 x.2).map zR)]})]
def z5n (s:MSt):List SAnn:=[{ι:=Nat,slots:=fun j=>[(3,.nm 0 0),(22,zE j)],rows:=fun j=>(List.range 5).map (z7 ⟨s.p,s.books.take j,s.wh⟩)}]
open Go Cv Go.Proofs
def zNb (i:ArN):Prop:=
 cnd (decide (i.n≥0)) (cnd (!decide (i.n<(↑(List.map zF i.a.queues).length:Int))) (∃(o:Unit),(i.a.qAt i.n).total=0∧i.a.free=i.a.free∧List.map zL i.a.slots=List.map zL i.a.slots∧List.map zF i.a.queues=List.map zF i.a.queues∧True) ((0≤i.n∧i.n<(↑(List.map zF i.a.queues).length:Int))∧∃(n:Int),zI (List.map zF i.a.queues) i.n.toNat ((0:Nat)+(2:Nat)) 1=some [D.v (.int .i64 n)]∧∃(o:Unit),(i.a.qAt i.n).total=n∧i.a.free=i.a.free∧List.map zL i.a.slots=List.map zL i.a.slots∧List.map zF i.a.queues=List.map zF i.a.queues∧True)) (∃(o:Unit),(i.a.qAt i.n).total=0∧i.a.free=i.a.free∧List.map zL i.a.slots=List.map zL i.a.slots∧List.map zF i.a.queues=List.map zF i.a.queues∧True)
theorem zXh (hG:GOk Tryz.prog ([])) (h:∀(i:ArN),atotalC.cnd i→zNb i):atotalC.ok Tryz.prog 128:=okw mixed hG 1 (fun _=>[]) (fun _=>[]) [0] Tryz.func128 h
def zNt (i:ArN):Prop:=
 cnd (decide (i.n≥0)) (cnd (!decide (i.n<(↑(List.map zF i.a.queues).length:Int))) (∃(o:Unit),(i.a.qAt i.n).count=0∧i.a.free=i.a.free∧List.map zL i.a.slots=List.map zL i.a.slots∧List.map zF i.a.queues=List.map zF i.a.queues∧True) ((0≤i.n∧i.n<(↑(List.map zF i.a.queues).length:Int))∧∃(n:Int),zI (List.map zF i.a.queues) i.n.toNat ((0:Nat)+(3:Nat)) 1=some [D.v (.int .i64 n)]∧∃(o:Unit),(i.a.qAt i.n).count=n∧i.a.free=i.a.free∧List.map zL i.a.slots=List.map zL i.a.slots∧List.map zF i.a.queues=List.map zF i.a.queues∧True)) (∃(o:Unit),(i.a.qAt i.n).count=0∧i.a.free=i.a.free∧List.map zL i.a.slots=List.map zL i.a.slots∧List.map zF i.a.queues=List.map zF i.a.queues∧True)
theorem zRd (hG:GOk Tryz.prog ([])) (h:∀(i:ArN),acountC.cnd i→zNt i):acountC.ok Tryz.prog 129:=okw mixed hG 1 (fun _=>[]) (fun _=>[]) [0] Tryz.func129 h
def z8m (n:Int):Prop:=
 cnd (n==1) (∃(o:Unit),(decide (n=1)||decide (n=2))=true∧True) (∃(o:Unit),(decide (n=1)||decide (n=2))=(n==2)∧True)
theorem z8s (hG:GOk Tryz.prog ([])) (h:∀(n:Int),bisC.cnd n→z8m n):bisC.ok Tryz.prog 59:=okw mixed hG 0 (fun _=>[]) (fun _=>[]) [] Tryz.func59 h
def yAd (i:BkR):Prop:=
 ∃(i_1:ArN),i_1.n=i.r.queue∧AObj.adt Arena 3 zC i_1.a=AObj.adt Arena 3 zC i.b.a∧True∧∀(o:Unit),True→i.r.queue=i.r.queue∧True∧i.r.price=i.r.price∧∃(i_2:ArN),i_2.n=i.r.queue∧AObj.adt Arena 3 zC i_2.a=AObj.adt Arena 3 zC i_1.a∧True∧∀(o:Unit),True→i.r.price=i.r.price∧∃(o:Unit),i.r.price=i.r.price∧(i.b.a.qAt i.r.queue).total=(i_1.a.qAt i_1.n).total∧(i.b.a.qAt i.r.queue).count=(i_2.a.qAt i_2.n).count∧i.b.top1=i.b.top1∧i.b.top2=i.b.top2∧i.b.has1=i.b.has1∧i.b.has2=i.b.has2∧AObj.adt Arena 3 zC i.b.a=AObj.adt Arena 3 zC i_2.a∧List.map zA i.b.buys=List.map zA i.b.buys∧List.map zA i.b.sells=List.map zA i.b.sells∧atE i.b.at_=atE i.b.at_∧iE i.b.spare=iE i.b.spare∧True
theorem z7v (hG:GOk Tryz.prog ([(128,atotalC),(129,acountC)])) (h:∀(i:BkR),toldC.cnd i→yAd i):toldC.ok Tryz.prog 103:=okw mixed hG 0 (fun _=>[]) (fun _=>[]) [0] Tryz.func103 h
def z4q (b:Book):Prop:=
 ∃(i:Int),i=1∧True∧∀(o:Unit),True→cnd (!(decide (i=1)||decide (i=2))) (∃(o:Unit),(b.best b.buys).fst.price=0∧(b.best b.buys).fst.qty=0∧(b.best b.buys).fst.count=0∧(b.best b.buys).snd=false∧b.top1=b.top1∧b.top2=b.top2∧b.has1=b.has1∧b.has2=b.has2∧AObj.adt Arena 3 zC b.a=AObj.adt Arena 3 zC b.a∧List.map zA b.buys=List.map zA b.buys∧List.map zA b.sells=List.map zA b.sells∧atE b.at_=atE b.at_∧iE b.spare=iE b.spare∧True) (cnd ((↑(List.map zA b.buys).length:Int)==0) (∃(o:Unit),(b.best b.buys).fst.price=0∧(b.best b.buys).fst.qty=0∧(b.best b.buys).fst.count=0∧(b.best b.buys).snd=false∧b.top1=b.top1∧b.top2=b.top2∧b.has1=b.has1∧b.has2=b.has2∧AObj.adt Arena 3 zC b.a=AObj.adt Arena 3 zC b.a∧List.map zA b.buys=List.map zA b.buys∧List.map zA b.sells=List.map zA b.sells∧atE b.at_=atE b.at_∧iE b.spare=iE b.spare∧True) (((0:Int)≤(0:Int)∧0<(↑(List.map zA b.buys).length:Int))∧∃(n:Int),∃(n_1:Int),zI (List.map zA b.buys) (Int.toNat 0) 0 2=some [D.v (.int .i64 n),D.v (.int .i64 n_1)]∧∃(i:BkR),i.r.price=n∧i.r.queue=n_1∧i.b.top1=b.top1∧i.b.top2=b.top2∧i.b.has1=b.has1∧i.b.has2=b.has2∧AObj.adt Arena 3 zC i.b.a=AObj.adt Arena 3 zC b.a∧List.map zA i.b.buys=List.map zA b.buys∧List.map zA i.b.sells=List.map zA b.sells∧atE i.b.at_=atE b.at_∧iE i.b.spare=iE b.spare∧(∀(q:qG),q∈i.b.a.queues→(-9223372036854775808)≤q.count∧q.count≤9223372036854775807)∧∀(o:Unit),True→∃(o:Unit),(b.best b.buys).fst.price=i.r.price∧(b.best b.buys).fst.qty=(i.b.a.qAt i.r.queue).total∧(b.best b.buys).fst.count=(i.b.a.qAt i.r.queue).count∧(b.best b.buys).snd=true∧yA b=yA i.b∧True))
theorem z1g (hG:GOk Tryz.prog ([(59,bisC),(103,toldC)])) (h:∀(b:Book),best1C.cnd b→z4q b):best1C.ok Tryz.prog 66:=okw mixed hG 0 (fun _=>[]) (fun _=>[]) [0] Tryz.func66 h
def z5e (b:Book):Prop:=
 ∃(i:Int),i=2∧True∧∀(o:Unit),True→cnd (!(decide (i=1)||decide (i=2))) (∃(o:Unit),(b.best b.sells).fst.price=0∧(b.best b.sells).fst.qty=0∧(b.best b.sells).fst.count=0∧(b.best b.sells).snd=false∧b.top1=b.top1∧b.top2=b.top2∧b.has1=b.has1∧b.has2=b.has2∧AObj.adt Arena 3 zC b.a=AObj.adt Arena 3 zC b.a∧List.map zA b.buys=List.map zA b.buys∧List.map zA b.sells=List.map zA b.sells∧atE b.at_=atE b.at_∧iE b.spare=iE b.spare∧True) (cnd ((↑(List.map zA b.sells).length:Int)==0) (∃(o:Unit),(b.best b.sells).fst.price=0∧(b.best b.sells).fst.qty=0∧(b.best b.sells).fst.count=0∧(b.best b.sells).snd=false∧b.top1=b.top1∧b.top2=b.top2∧b.has1=b.has1∧b.has2=b.has2∧AObj.adt Arena 3 zC b.a=AObj.adt Arena 3 zC b.a∧List.map zA b.buys=List.map zA b.buys∧List.map zA b.sells=List.map zA b.sells∧atE b.at_=atE b.at_∧iE b.spare=iE b.spare∧True) (((0:Int)≤(0:Int)∧0<(↑(List.map zA b.sells).length:Int))∧∃(n:Int),∃(n_1:Int),zI (List.map zA b.sells) (Int.toNat 0) 0 2=some [D.v (.int .i64 n),D.v (.int .i64 n_1)]∧∃(i:BkR),i.r.price=n∧i.r.queue=n_1∧i.b.top1=b.top1∧i.b.top2=b.top2∧i.b.has1=b.has1∧i.b.has2=b.has2∧AObj.adt Arena 3 zC i.b.a=AObj.adt Arena 3 zC b.a∧List.map zA i.b.buys=List.map zA b.buys∧List.map zA i.b.sells=List.map zA b.sells∧atE i.b.at_=atE b.at_∧iE i.b.spare=iE b.spare∧(∀(q:qG),q∈i.b.a.queues→(-9223372036854775808)≤q.count∧q.count≤9223372036854775807)∧∀(o:Unit),True→∃(o:Unit),(b.best b.sells).fst.price=i.r.price∧(b.best b.sells).fst.qty=(i.b.a.qAt i.r.queue).total∧(b.best b.sells).fst.count=(i.b.a.qAt i.r.queue).count∧(b.best b.sells).snd=true∧yA b=yA i.b∧True))
theorem zYi (hG:GOk Tryz.prog ([(59,bisC),(103,toldC)])) (h:∀(b:Book),best2C.cnd b→z5e b):best2C.ok Tryz.prog 66:=okw mixed hG 0 (fun _=>[]) (fun _=>[]) [0] Tryz.func66 h
@[reducible] def zHq (s:MSt):AObj:=Sx.AObj.cells (gO (jH (0:Nat) (1:Nat) (5:Nat)) [sV s.p.code,V.own (3:Nat),zE s.p.tick,zE s.p.low,zE s.p.high,zE s.p.wide,zE s.p.rule,zE s.p.top,zE s.p.least,zE s.p.part,V.own (4:Nat),V.own (1:Nat),V.mp (2:Nat)]) (62:TypeId)
def z5i (s:MSt):Prop:=
 ∃(i:List (Value×List D)),i=yE s.wh∧True∧∀(o:Unit),True→(sb s.p.code=sb s.p.code∧True∧s.p.tick=s.p.tick∧s.p.low=s.p.low∧s.p.high=s.p.high∧s.p.wide=s.p.wide∧s.p.rule=s.p.rule∧s.p.top=s.p.top∧s.p.least=s.p.least∧s.p.part=s.p.part∧True∧True)∧∃(i0:Nat),(↑i0:Int)=0∧sb s.p.code=sb s.p.code∧s.p.tick=s.p.tick∧s.p.low=s.p.low∧s.p.high=s.p.high∧s.p.wide=s.p.wide∧s.p.rule=s.p.rule∧s.p.top=s.p.top∧s.p.least=s.p.least∧s.p.part=s.p.part∧List.take i0 s.books=[]∧(none:Option Nat)=none∧yE s.wh=i∧AObj.fro 1 (iE s.p.months)=AObj.fro 1 (iE s.p.months)∧AObj.fro 1 (iE s.p.settle)=AObj.fro 1 (iE s.p.settle)∧∃(I:Nat→Prop),∃(μ:Nat→Nat),I i0∧∀(i_1:Nat),I i_1→cnd (decide ((↑i_1:Int)<(↑s.books.length:Int))) ((0≤(↑i_1:Int)∧(↑i_1:Int)<(↑s.books.length:Int))∧(↑i_1:Int).toNat<s.books.length∧∃(x:Book),s.books[(↑i_1:Int).toNat]?=some x∧∃(i_2:Book),yA i_2=yA x∧((i_2.a.slots.length≤1000000∧i_2.a.queues.length≤1000000)∧i_2.buys.length≤1000000∧i_2.sells.length≤1000000∧i_2.spare.length≤1000000)∧∀(o:Unit),True→∃(x:Book),yA i_2=yA x∧(↑i_1:Int).toNat=(↑i_1:Int).toNat∧(↑i_1:Int).toNat<s.books.length∧True∧True∧∃(l1':List Book),AObj.objs 64 Book 6 zN (List.take i_1 s.books) none=AObj.objs 64 Book 6 zN l1' none∧(l1'.length+1)*(8:Nat)≤(70368744177664:Nat)∧∃(i':Nat),(↑i':Int)=IntKind.i64.wrap ((↑i_1:Int)+1)∧sb s.p.code=sb s.p.code∧s.p.tick=s.p.tick∧s.p.low=s.p.low∧s.p.high=s.p.high∧s.p.wide=s.p.wide∧s.p.rule=s.p.rule∧s.p.top=s.p.top∧s.p.least=s.p.least∧s.p.part=s.p.part∧AObj.objs 64 Book 6 zN (List.take i' s.books) none=AObj.objs 64 Book 6 zN (l1'++[i_2]) none∧yE s.wh=yE s.wh∧AObj.fro 1 (iE s.p.months)=AObj.fro 1 (iE s.p.months)∧AObj.fro 1 (iE s.p.settle)=AObj.fro 1 (iE s.p.settle)∧I i'∧μ i'<μ i_1∧Sx.AObj.map i=Sx.AObj.map i∧zHq s=zHq s∧AObj.objs 64 Book 6 zN (s.books.set (↑i_1:Int).toNat x) none=AObj.objs 64 Book 6 zN s.books none∧AObj.fro 1 (iE s.p.months)=AObj.fro 1 (iE s.p.months)∧AObj.fro 1 (iE s.p.settle)=AObj.fro 1 (iE s.p.settle)) (∃(o:Unit),sb s.p.code=sb s.p.code∧s.p.tick=s.p.tick∧s.p.low=s.p.low∧s.p.high=s.p.high∧s.p.wide=s.p.wide∧s.p.rule=s.p.rule∧s.p.top=s.p.top∧s.p.least=s.p.least∧s.p.part=s.p.part∧AObj.objs 64 Book 6 zN s.books none=AObj.objs 64 Book 6 zN s.books none∧yE s.wh=i∧AObj.fro 1 (iE s.p.months)=AObj.fro 1 (iE s.p.months)∧AObj.fro 1 (iE s.p.settle)=AObj.fro 1 (iE s.p.settle)∧sb s.p.code=sb s.p.code∧s.p.tick=s.p.tick∧s.p.low=s.p.low∧s.p.high=s.p.high∧s.p.wide=s.p.wide∧s.p.rule=s.p.rule∧s.p.top=s.p.top∧s.p.least=s.p.least∧s.p.part=s.p.part∧AObj.objs 64 Book 6 zN s.books none=AObj.objs 64 Book 6 zN (List.take i_1 s.books) none∧yE s.wh=yE s.wh∧AObj.fro 1 (iE s.p.months)=AObj.fro 1 (iE s.p.months)∧AObj.fro 1 (iE s.p.settle)=AObj.fro 1 (iE s.p.settle)∧True)
theorem zXr (hG:GOk Tryz.prog ([(56,clWhC),(57,copyBC)])) (h:∀(s:MSt),copySC.cnd s→z5i s):copySC.ok Tryz.prog 25:=okw mixed hG 0 (fun _=>[]) (fun s=>z5n s) [0] Tryz.func25 h
open Go Cv Go.Proofs
theorem elA {α:Type} {f:α→List D} {l:List α} {i g n:Nat} {x:α} {r:List D} (h:l[i]? =some x) (hn:g+n≤(f x).length) (hr:((f x).drop g).take n=r):zI (l.map f) i g n=some r:=by
 unfold zI
 rw[List.getElem?_map,h]
 simp only[Option.map_some,Nat.ble_eq_true_of_le hn,cond_true,hr]
theorem zCd {a:Arena} {n:Int} {q:qG} (h0:0≤n) (h:a.queues[n.toNat]? =some q):a.qAt n=q:=by
 have:=(List.getElem?_eq_some_iff.1 h).1
 rw[Arena.qAt,if_pos ⟨h0,by omega⟩,List.getD_eq_getElem?_getD,h];rfl
theorem pP {a:Arena} {n:Int} (h:¬(0≤n∧n<a.queues.length)):a.qAt n=⟨0,0,0,0⟩:=by rw[Arena.qAt,if_neg h]
theorem zQr:atotalC.ok Tryz.prog 128:=zXh gok0 fun i _=>by
 unfold zNb
 simp only[List.length_map]
 refine zT (fun c=>Cv.cnd.mk (fun d=> ?_) (fun d=> ?_)) (fun c=> ?_)
 ·have d:¬i.n<(i.a.queues.length:Int):=by simpa using d
  rw[pP (by omega)];exact kp
 ·have d:i.n<(i.a.queues.length:Int):=by simpa using d
  obtain⟨q,hq⟩:=z8 (l:=i.a.queues) (i:=i.n.toNat) (by omega)
  rw[zCd (by omega) hq]
  refine⟨⟨by omega,by omega⟩,q.total,elA hq (by simp[zF]) rfl,?_⟩;exact kp
 ·rw[pP (by omega)];exact kp
theorem mF:acountC.ok Tryz.prog 129:=zRd gok0 fun i _=>by
 unfold zNt
 simp only[List.length_map]
 refine zT (fun c=>Cv.cnd.mk (fun d=> ?_) (fun d=> ?_)) (fun c=> ?_)
 ·have d:¬i.n<(i.a.queues.length:Int):=by simpa using d
  rw[pP (by omega)];exact kp
 ·have d:i.n<(i.a.queues.length:Int):=by simpa using d
  obtain⟨q,hq⟩:=z8 (l:=i.a.queues) (i:=i.n.toNat) (by omega)
  rw[zCd (by omega) hq]
  refine⟨⟨by omega,by omega⟩,q.count,elA hq (by simp[zF]) rfl,?_⟩;exact kp
 ·rw[pP (by omega)];exact kp
theorem mX:bisC.ok Tryz.prog 59:=z8s gok0 fun n _=>by
 unfold z8m
 refine Cv.cnd.mk (fun c=>⟨(),?_,trivial⟩) (fun c=>⟨(),?_,trivial⟩)
 all_goals simp at c
 ·simp[c]
 ·by_cases h:n=2<;>simp[c,h]
theorem zLu:toldC.ok Tryz.prog 103:=z7v (gokc zQr (gokc mF gok0)) fun i h=>by
 refine⟨⟨i.b.a,i.r.queue⟩,?_⟩;(repeat'(first|exact rfl|exact trivial|assumption|apply And.intro|refine fun(_:Unit) (_:True)=>?_|refine Exists.intro () ?_|omega|(dsimp only;omega)))
 refine⟨⟨i.b.a,i.r.queue⟩,?_⟩;exact kp
theorem zWj:best1C.ok Tryz.prog 66:=z1g (gokc mX (gokc zLu gok0)) fun b h=>by
 have h:b.cntOk:=h
 refine⟨1,rfl,trivial,fun _ _=>Cv.cnd.mk (fun c=>absurd c (by decide)) fun _=> ?_⟩
 simp only[List.length_map]
 refine Cv.cnd.mk (fun c=> ?_) (fun c=> ?_)
 ·have hl:b.buys=[]:=List.eq_nil_of_length_eq_zero (by have:(b.buys.length:Int)=0:=(by simpa using c);omega)
  have e:b.best b.buys=(⟨0,0,0⟩,false):=by rw[hl];rfl
  rw[e];exact kp
 ·obtain⟨r,l,hl⟩:∃r l,b.buys=r::l:=by
   cases hb:b.buys with
   |nil=>rw[hb]at c;exact absurd c (by decide)
   |cons r l=>exact⟨r,l,rfl⟩
  have e:b.best b.buys=(b.told r,true):=by rw[hl];rfl
  rw[e]
  refine⟨⟨by omega,by rw[hl,List.length_cons];omega⟩,r.price,r.queue,elA (x:=r) (by rw[hl];rfl) (by simp[zA]) rfl,⟨b,r⟩,?_⟩
  exact kp
theorem zSr:best2C.ok Tryz.prog 66:=zYi (gokc mX (gokc zLu gok0)) fun b h=>by
 have h:b.cntOk:=h
 refine⟨2,rfl,trivial,fun _ _=>Cv.cnd.mk (fun c=>absurd c (by decide)) fun _=> ?_⟩
 simp only[List.length_map]
 refine Cv.cnd.mk (fun c=> ?_) (fun c=> ?_)
 ·have hl:b.sells=[]:=List.eq_nil_of_length_eq_zero (by have:(b.sells.length:Int)=0:=(by simpa using c);omega)
  have e:b.best b.sells=(⟨0,0,0⟩,false):=by rw[hl];rfl
  rw[e];exact kp
 ·obtain⟨r,l,hl⟩:∃r l,b.sells=r::l:=by
   cases hb:b.sells with
   |nil=>rw[hb]at c;exact absurd c (by decide)
   |cons r l=>exact⟨r,l,rfl⟩
  have e:b.best b.sells=(b.told r,true):=by rw[hl];rfl
  rw[e]
  refine⟨⟨by omega,by rw[hl,List.length_cons];omega⟩,r.price,r.queue,elA (x:=r) (by rw[hl];rfl) (by simp[zA]) rfl,⟨b,r⟩,?_⟩
  exact kp
theorem zBl:bestC.ok Tryz.prog 66:=fun i=>match i with
 |⟨false,b⟩=>zWj b
 |⟨true,b⟩=>zSr b
theorem eF {α:Type} (f:α→α) (x:α) (b:List α):∀a:List α,(a++x::b).modify a.length f=a++f x::b
 |[]=>rfl
 |y::a=>by
  show y::(a++x::b).modify a.length f=_
  rw[eF f x b a];rfl
theorem zAt {els:List (List D)} {a b:List (List D)} {x y ds:List D} {j f:Nat} (h:els=a++x::b) (hl:a.length=j) (hy:x.take f++(ds++x.drop (f+ds.length))=y):zK els j f ds=a++y::b:=by
 rw[zK,h,← hl,eF,hy]
theorem wJ {s:MSt} {j:Nat} {x y:Top} {f:Nat} {ds:List D} (hj:j<s.books.length) (hy:(zR x).take f++(ds++(zR x).drop (f+ds.length))=zR y):
 zK (List.map zR (yL s j x)) j f ds=List.map zR (yL s j y):=by
 rw[zAt (a:=(s.tops.take j).map zR) (b:=(List.replicate (s.books.length-j-1) top0).map zR) (by rw[yL,List.map_append,List.map_cons]) (by
  rw[List.length_map,List.length_take,MSt.tops,List.length_map];omega) hy,yL,List.map_append,List.map_cons]
theorem zJd {s:MSt} {j:Nat} {x:Top} (hj:j<s.books.length):(yL s j x).length=s.books.length:=by
 rw[yL,List.length_append,List.length_cons,List.length_take,MSt.tops,List.length_map,List.length_replicate];omega
theorem zHn {s:MSt} {j:Nat} (hj:j<s.books.length):yL s j top0=kH s j:=by
 rw[yL,kH]
 obtain⟨m,hm⟩:∃m,s.books.length-j=m+1:=⟨s.books.length-j-1,by omega⟩
 rw[hm,List.replicate_succ];rfl
theorem zGi {s:MSt} {j:Nat} {b:Book} (hb:s.books[j]? =some b):yL s j b.top=kH s (j+1):=by
 have hj:=(List.getElem?_eq_some_iff.1 hb).1
 rw[yL,kH,List.take_add_one,show s.tops[j]? =some b.top by rw[MSt.tops,List.getElem?_map,hb];rfl]
 simp only[Option.toList_some,List.append_assoc,List.cons_append,List.nil_append]
 rw[show s.books.length-j-1=s.books.length-(j+1)by omega]
theorem f7 {α:Type} {l:List α} {j:Nat} {x:α} (h:l[j]? =some x):l.set j x=l:=by
 obtain⟨hj,rfl⟩:=List.getElem?_eq_some_iff.1 h
 exact List.set_getElem_self hj
theorem zRm:copySC.ok Tryz.prog 25:=zXr (gokc zZu (gokc zRv gok0)) fun s h=>by
 obtain⟨h1,h2⟩:s.small:=h
 refine⟨yE s.wh,?_⟩;(repeat'(first|exact rfl|exact trivial|assumption|apply And.intro|refine fun(_:Unit) (_:True)=>?_|refine Exists.intro () ?_|omega|(dsimp only;omega)))
 refine⟨0,?_⟩;(repeat'(first|exact rfl|exact trivial|assumption|apply And.intro|refine fun(_:Unit) (_:True)=>?_|refine Exists.intro () ?_|omega|(dsimp only;omega)))
 refine⟨fun j=>j≤s.books.length,fun j=>s.books.length-j,by omega,fun j hj=>zT (fun hlt=> ?_) (fun hlt=> ?_)⟩
 ·obtain⟨b,hb⟩:=z8 (l:=s.books) (i:=j) (by omega)
  have hs:=h2 b (List.mem_of_getElem? hb)
  simp only[Int.toNat_natCast]
  refine⟨⟨by omega,by omega⟩,by omega,b,hb,b,rfl,hs,fun _ _=>⟨b,rfl,kp,by omega,trivial,trivial,s.books.take j,rfl,?_,j+1,?_⟩⟩
  ·rw[List.length_take];omega
  ·rw[w64 (by omega),List.take_add_one,hb]
   (repeat'(first|exact rfl|exact trivial|assumption|apply And.intro|refine fun(_:Unit) (_:True)=>?_|refine Exists.intro () ?_|omega|(dsimp only;omega)))
   rw[f7 hb]
 ·have hj:j≤s.books.length:=hj
  obtain rfl:j=s.books.length:=by omega
  rw[List.take_of_length_le (Nat.le_refl _)]
  exact kp
open Go Cv Go.Proofs
structure Leg where
 inst:Int
 side:Int
 deriving DecidableEq
structure Quote where
 price:Int
 qty:Int
 a:Leg
 b:Leg
 deriving DecidableEq
def zG (q:Quote):List D:=[.v (.int .i64 q.price),.v (.int .i64 q.qty),.v (.int .i64 q.a.inst),.v (.int .i64 q.a.side),.v (.int .i64 q.b.inst),.v (.int .i64 q.b.side)]
@[reducible] def zKi (q:Quote):V:= .agg [zE q.price,zE q.qty,zE q.a.inst,zE q.a.side,zE q.b.inst,zE q.b.side]
def z7u:Quote:=⟨0,0,⟨0,0⟩,⟨0,0⟩⟩
structure I3' where
 side:Int
 x:Int
 y:Int
def btr (side x y:Int):Bool:=if side=1 then decide (y<x)else decide (x<y)
def iotherC:Con:=con1 Int (fun n=>[zE n]) (fun _=>[]) (fun n=>n=1∨n=2) (fun n=>zE (3-n)) (fun _=>[])
def ibetterC:Con:=con1 I3' (fun i=>[zE i.side,zE i.x,zE i.y]) (fun _=>[]) (fun _=>True) (fun i=>yN (btr i.side i.x i.y)) (fun _=>[])
structure CrI where
 x:Int
 y:Int
 b:Bool
def Top.has (t:Top) (s:Int):Bool:=if s=1 then t.has1 else t.has2
def Top.price (t:Top) (s:Int):Int:=if s=1 then t.p1 else t.p2
def Top.qty (t:Top) (s:Int):Int:=if s=1 then t.q1 else t.q2
def mkq (tops:List Top) (a b:Leg) (less:Bool):List Quote:=
 let x:=tops.getD a.inst.toNat top0
 let y:=tops.getD b.inst.toNat top0
 let r:=if less then jF (y.price b.side) (x.price a.side)else jB (x.price a.side) (y.price b.side)
 if x.has a.side && y.has b.side && r.2 then[⟨r.1,min (x.qty a.side) (y.qty b.side),a,b⟩]else[]
structure MkI where
 tops:List Top
 out:List Quote
 a:Int
 b:Int
 less:Bool
@[reducible] def jJ (l:List Top):Prop:=l.length≤1000000∧∀t∈l,yM t.p1∧yM t.p2
def MkU (x:List Top×List Quote):Nat→AObj
 |0=> .cells [.own 1,.own 2] 226
 |1=> .fro 6 (x.1.map zR)
 |2=> .own 78 6 (x.2.map zG)
 |_=> .gone
@[reducible] def MkR (tops:List Top) (out:List Quote):List AObj:=[MkU (tops,out) 0,MkU (tops,out) 1,MkU (tops,out) 2]
@[reducible] def MkP (tops:List Top) (out:List Quote):List AObj:=[.cells [.own 1,.own 3] 226,MkU (tops,out) 1,.gone,MkU (tops,out) 2]
def mkC (sa sb:Int):Con:=con1 MkI (fun i=>[.nm 0 0,.agg [zE i.a,zE sa],.agg [zE i.b,zE sb],yN i.less]) (fun i=>MkR i.tops i.out)
 (fun i=>0≤i.a∧i.a<i.tops.length∧0≤i.b∧i.b<i.tops.length∧jJ i.tops∧i.out.length≤1000) (fun _=>zGt) (fun i=>MkP i.tops (i.out++mkq i.tops ⟨i.a,sa⟩ ⟨i.b,sb⟩ i.less))
def mk11:Con:=mkC 1 1
def mk12:Con:=mkC 1 2
def mk21:Con:=mkC 2 1
def mk22:Con:=mkC 2 2
open Go Cv Go.Proofs
def zXs (n:Int):Prop:=
 ∃(o:Unit),3-n=IntKind.i64.wrap (3-n)∧True
theorem zWp (hG:GOk Tryz.prog ([])) (h:∀(n:Int),iotherC.cnd n→zXs n):iotherC.ok Tryz.prog 125:=okw mixed hG 0 (fun _=>[]) (fun _=>[]) [] Tryz.func125 h
def zXb (i:I3'):Prop:=
 cnd (i.side==1) (∃(o:Unit),btr i.side i.x i.y=decide (i.x>i.y)∧True) (∃(o:Unit),btr i.side i.x i.y=decide (i.x<i.y)∧True)
theorem zQn (hG:GOk Tryz.prog ([])) (h:∀(i:I3'),ibetterC.cnd i→zXb i):ibetterC.ok Tryz.prog 101:=okw mixed hG 0 (fun _=>[]) (fun _=>[]) [] Tryz.func101 h
@[reducible] def zDy (i:MkI) (b:Bool) (n:Int) (n_2:Int) (n_4:Int) (n_6:Int):Prop:=∃(i_1:I2),i_1.x=n∧i_1.y=n_4∧(((-9223372036854775808)≤i_1.x∧i_1.x≤9223372036854775807)∧(-9223372036854775808)≤i_1.y∧i_1.y≤9223372036854775807)∧∀(o:Unit),True→cnd i.less (∃(i_2:I2),i_2.x=n_4∧i_2.y=n∧(((-9223372036854775808)≤i_2.x∧i_2.x≤9223372036854775807)∧(-9223372036854775808)≤i_2.y∧i_2.y≤9223372036854775807)∧∀(o:Unit),True→cnd (jF i_2.x i_2.y).snd (True∧((List.map zG i.out).length+1)*(48:Nat)≤(70368744177664:Nat)∧∃(o:Unit),AObj.fro 6 (List.map zR i.tops)=MkU (i.tops,i.out) 1∧List.map zG (i.out++mkq i.tops (Leg.mk i.a 1) (Leg.mk i.b 1) i.less)=List.map zG i.out++[[D.v (.int .i64 (jF i_2.x i_2.y).fst),D.v (.int .i64 (min n_2 n_6)),D.v (.int .i64 i.a),D.v (.int .i64 1),D.v (.int .i64 i.b),D.v (.int .i64 1)]]∧True) (∃(o:Unit),AObj.fro 6 (List.map zR i.tops)=MkU (i.tops,i.out) 1∧List.map zG (i.out++mkq i.tops (Leg.mk i.a 1) (Leg.mk i.b 1) i.less)=List.map zG i.out∧True)) (cnd (jB i_1.x i_1.y).snd (True∧((List.map zG i.out).length+1)*(48:Nat)≤(70368744177664:Nat)∧∃(o:Unit),AObj.fro 6 (List.map zR i.tops)=MkU (i.tops,i.out) 1∧List.map zG (i.out++mkq i.tops (Leg.mk i.a 1) (Leg.mk i.b 1) i.less)=List.map zG i.out++[[D.v (.int .i64 (jB i_1.x i_1.y).fst),D.v (.int .i64 (min n_2 n_6)),D.v (.int .i64 i.a),D.v (.int .i64 1),D.v (.int .i64 i.b),D.v (.int .i64 1)]]∧True) (∃(o:Unit),AObj.fro 6 (List.map zR i.tops)=MkU (i.tops,i.out) 1∧List.map zG (i.out++mkq i.tops (Leg.mk i.a 1) (Leg.mk i.b 1) i.less)=List.map zG i.out∧True))
@[reducible] def bP (i:MkI) (b:Bool):Prop:=∃(o:Unit),AObj.fro 6 (List.map zR i.tops)=MkU (i.tops,i.out) 1∧List.map zG (i.out++mkq i.tops (Leg.mk i.a 1) (Leg.mk i.b 1) i.less)=List.map zG i.out∧True
def zVn (i:MkI):Prop:=
 (0≤i.a∧i.a<(↑(List.map zR i.tops).length:Int))∧∃(b:Bool),∃(b_1:Bool),∃(n:Int),∃(n_1:Int),∃(n_2:Int),∃(n_3:Int),zI (List.map zR i.tops) i.a.toNat 0 6=some [D.v (.bool b),D.v (.bool b_1),D.v (.int .i64 n),D.v (.int .i64 n_1),D.v (.int .i64 n_2),D.v (.int .i64 n_3)]∧(0≤i.b∧i.b<(↑(List.map zR i.tops).length:Int))∧∃(b_2:Bool),∃(b_3:Bool),∃(n_4:Int),∃(n_5:Int),∃(n_6:Int),∃(n_7:Int),zI (List.map zR i.tops) i.b.toNat 0 6=some [D.v (.bool b_2),D.v (.bool b_3),D.v (.int .i64 n_4),D.v (.int .i64 n_5),D.v (.int .i64 n_6),D.v (.int .i64 n_7)]∧(True∧((0≤i.b∧i.b<(↑(List.map zR i.tops).length:Int))∧i.b.toNat=i.b.toNat)∧i.b=i.b∧True∧True∧((0≤i.a∧i.a<(↑(List.map zR i.tops).length:Int))∧i.a.toNat=i.a.toNat)∧i.a=i.a∧True∧True∧((0≤i.b∧i.b<(↑(List.map zR i.tops).length:Int))∧i.b.toNat=i.b.toNat)∧i.b=i.b∧True∧True∧((0≤i.a∧i.a<(↑(List.map zR i.tops).length:Int))∧i.a.toNat=i.a.toNat)∧i.a=i.a∧True∧True∧((0≤i.b∧i.b<(↑(List.map zR i.tops).length:Int))∧i.b.toNat=i.b.toNat)∧i.b=i.b∧True∧cnd (!b) (bP i b) (cnd (!b_2) (bP i b) (zDy i b n n_2 n_4 n_6)))∧True∧((0≤i.b∧i.b<(↑(List.map zR i.tops).length:Int))∧i.b.toNat=i.b.toNat)∧i.b=i.b∧True∧True∧((0≤i.a∧i.a<(↑(List.map zR i.tops).length:Int))∧i.a.toNat=i.a.toNat)∧i.a=i.a∧True∧True∧((0≤i.b∧i.b<(↑(List.map zR i.tops).length:Int))∧i.b.toNat=i.b.toNat)∧i.b=i.b∧True∧True∧((0≤i.a∧i.a<(↑(List.map zR i.tops).length:Int))∧i.a.toNat=i.a.toNat)∧i.a=i.a∧True∧True∧((0≤i.b∧i.b<(↑(List.map zR i.tops).length:Int))∧i.b.toNat=i.b.toNat)∧i.b=i.b∧True∧cnd (!b) (bP i b) (cnd (!b_2) (bP i b) (zDy i b n n_2 n_4 n_6))
theorem z7p (hG:GOk Tryz.prog ([(142,addC),(143,subC)])) (h:∀(i:MkI),mk11.cnd i→zVn i):mk11.ok Tryz.prog 126:=okw mixed hG 0 (fun _=>[]) (fun _=>[]) [] Tryz.func126 h
@[reducible] def zCu (i:MkI) (b:Bool) (n:Int) (n_2:Int) (n_5:Int) (n_7:Int):Prop:=∃(i_1:I2),i_1.x=n∧i_1.y=n_5∧(((-9223372036854775808)≤i_1.x∧i_1.x≤9223372036854775807)∧(-9223372036854775808)≤i_1.y∧i_1.y≤9223372036854775807)∧∀(o:Unit),True→cnd i.less (∃(i_2:I2),i_2.x=n_5∧i_2.y=n∧(((-9223372036854775808)≤i_2.x∧i_2.x≤9223372036854775807)∧(-9223372036854775808)≤i_2.y∧i_2.y≤9223372036854775807)∧∀(o:Unit),True→cnd (jF i_2.x i_2.y).snd (True∧((List.map zG i.out).length+1)*(48:Nat)≤(70368744177664:Nat)∧∃(o:Unit),AObj.fro 6 (List.map zR i.tops)=MkU (i.tops,i.out) 1∧List.map zG (i.out++mkq i.tops (Leg.mk i.a 1) (Leg.mk i.b 2) i.less)=List.map zG i.out++[[D.v (.int .i64 (jF i_2.x i_2.y).fst),D.v (.int .i64 (min n_2 n_7)),D.v (.int .i64 i.a),D.v (.int .i64 1),D.v (.int .i64 i.b),D.v (.int .i64 2)]]∧True) (∃(o:Unit),AObj.fro 6 (List.map zR i.tops)=MkU (i.tops,i.out) 1∧List.map zG (i.out++mkq i.tops (Leg.mk i.a 1) (Leg.mk i.b 2) i.less)=List.map zG i.out∧True)) (cnd (jB i_1.x i_1.y).snd (True∧((List.map zG i.out).length+1)*(48:Nat)≤(70368744177664:Nat)∧∃(o:Unit),AObj.fro 6 (List.map zR i.tops)=MkU (i.tops,i.out) 1∧List.map zG (i.out++mkq i.tops (Leg.mk i.a 1) (Leg.mk i.b 2) i.less)=List.map zG i.out++[[D.v (.int .i64 (jB i_1.x i_1.y).fst),D.v (.int .i64 (min n_2 n_7)),D.v (.int .i64 i.a),D.v (.int .i64 1),D.v (.int .i64 i.b),D.v (.int .i64 2)]]∧True) (∃(o:Unit),AObj.fro 6 (List.map zR i.tops)=MkU (i.tops,i.out) 1∧List.map zG (i.out++mkq i.tops (Leg.mk i.a 1) (Leg.mk i.b 2) i.less)=List.map zG i.out∧True))
@[reducible] def aQ (i:MkI) (b:Bool):Prop:=∃(o:Unit),AObj.fro 6 (List.map zR i.tops)=MkU (i.tops,i.out) 1∧List.map zG (i.out++mkq i.tops (Leg.mk i.a 1) (Leg.mk i.b 2) i.less)=List.map zG i.out∧True
def zRr (i:MkI):Prop:=
 (0≤i.a∧i.a<(↑(List.map zR i.tops).length:Int))∧∃(b:Bool),∃(b_1:Bool),∃(n:Int),∃(n_1:Int),∃(n_2:Int),∃(n_3:Int),zI (List.map zR i.tops) i.a.toNat 0 6=some [D.v (.bool b),D.v (.bool b_1),D.v (.int .i64 n),D.v (.int .i64 n_1),D.v (.int .i64 n_2),D.v (.int .i64 n_3)]∧(0≤i.b∧i.b<(↑(List.map zR i.tops).length:Int))∧∃(b_2:Bool),∃(b_3:Bool),∃(n_4:Int),∃(n_5:Int),∃(n_6:Int),∃(n_7:Int),zI (List.map zR i.tops) i.b.toNat 0 6=some [D.v (.bool b_2),D.v (.bool b_3),D.v (.int .i64 n_4),D.v (.int .i64 n_5),D.v (.int .i64 n_6),D.v (.int .i64 n_7)]∧(True∧((0≤i.b∧i.b<(↑(List.map zR i.tops).length:Int))∧i.b.toNat=i.b.toNat)∧i.b=i.b∧True∧True∧((0≤i.a∧i.a<(↑(List.map zR i.tops).length:Int))∧i.a.toNat=i.a.toNat)∧i.a=i.a∧True∧True∧((0≤i.b∧i.b<(↑(List.map zR i.tops).length:Int))∧i.b.toNat=i.b.toNat)∧i.b=i.b∧True∧True∧((0≤i.a∧i.a<(↑(List.map zR i.tops).length:Int))∧i.a.toNat=i.a.toNat)∧i.a=i.a∧True∧True∧((0≤i.b∧i.b<(↑(List.map zR i.tops).length:Int))∧i.b.toNat=i.b.toNat)∧i.b=i.b∧True∧cnd (!b) (aQ i b) (cnd (!b_3) (aQ i b) (zCu i b n n_2 n_5 n_7)))∧True∧((0≤i.b∧i.b<(↑(List.map zR i.tops).length:Int))∧i.b.toNat=i.b.toNat)∧i.b=i.b∧True∧True∧((0≤i.a∧i.a<(↑(List.map zR i.tops).length:Int))∧i.a.toNat=i.a.toNat)∧i.a=i.a∧True∧True∧((0≤i.b∧i.b<(↑(List.map zR i.tops).length:Int))∧i.b.toNat=i.b.toNat)∧i.b=i.b∧True∧True∧((0≤i.a∧i.a<(↑(List.map zR i.tops).length:Int))∧i.a.toNat=i.a.toNat)∧i.a=i.a∧True∧True∧((0≤i.b∧i.b<(↑(List.map zR i.tops).length:Int))∧i.b.toNat=i.b.toNat)∧i.b=i.b∧True∧cnd (!b) (aQ i b) (cnd (!b_3) (aQ i b) (zCu i b n n_2 n_5 n_7))
theorem z5h (hG:GOk Tryz.prog ([(142,addC),(143,subC)])) (h:∀(i:MkI),mk12.cnd i→zRr i):mk12.ok Tryz.prog 126:=okw mixed hG 0 (fun _=>[]) (fun _=>[]) [] Tryz.func126 h
@[reducible] def zCr (i:MkI) (b:Bool) (n:Int) (n_1:Int) (n_3:Int) (n_5:Int):Prop:=∃(i_1:I2),i_1.x=n_1∧i_1.y=n∧(((-9223372036854775808)≤i_1.x∧i_1.x≤9223372036854775807)∧(-9223372036854775808)≤i_1.y∧i_1.y≤9223372036854775807)∧∀(o:Unit),True→cnd i.less (∃(i_2:I2),i_2.x=n∧i_2.y=n_1∧(((-9223372036854775808)≤i_2.x∧i_2.x≤9223372036854775807)∧(-9223372036854775808)≤i_2.y∧i_2.y≤9223372036854775807)∧∀(o:Unit),True→cnd (jF i_2.x i_2.y).snd (True∧((List.map zG i.out).length+1)*(48:Nat)≤(70368744177664:Nat)∧∃(o:Unit),AObj.fro 6 (List.map zR i.tops)=MkU (i.tops,i.out) 1∧List.map zG (i.out++mkq i.tops (Leg.mk i.a 2) (Leg.mk i.b 1) i.less)=List.map zG i.out++[[D.v (.int .i64 (jF i_2.x i_2.y).fst),D.v (.int .i64 (min n_3 n_5)),D.v (.int .i64 i.a),D.v (.int .i64 2),D.v (.int .i64 i.b),D.v (.int .i64 1)]]∧True) (∃(o:Unit),AObj.fro 6 (List.map zR i.tops)=MkU (i.tops,i.out) 1∧List.map zG (i.out++mkq i.tops (Leg.mk i.a 2) (Leg.mk i.b 1) i.less)=List.map zG i.out∧True)) (cnd (jB i_1.x i_1.y).snd (True∧((List.map zG i.out).length+1)*(48:Nat)≤(70368744177664:Nat)∧∃(o:Unit),AObj.fro 6 (List.map zR i.tops)=MkU (i.tops,i.out) 1∧List.map zG (i.out++mkq i.tops (Leg.mk i.a 2) (Leg.mk i.b 1) i.less)=List.map zG i.out++[[D.v (.int .i64 (jB i_1.x i_1.y).fst),D.v (.int .i64 (min n_3 n_5)),D.v (.int .i64 i.a),D.v (.int .i64 2),D.v (.int .i64 i.b),D.v (.int .i64 1)]]∧True) (∃(o:Unit),AObj.fro 6 (List.map zR i.tops)=MkU (i.tops,i.out) 1∧List.map zG (i.out++mkq i.tops (Leg.mk i.a 2) (Leg.mk i.b 1) i.less)=List.map zG i.out∧True))
@[reducible] def bJ (i:MkI) (b:Bool):Prop:=∃(o:Unit),AObj.fro 6 (List.map zR i.tops)=MkU (i.tops,i.out) 1∧List.map zG (i.out++mkq i.tops (Leg.mk i.a 2) (Leg.mk i.b 1) i.less)=List.map zG i.out∧True
def zTo (i:MkI):Prop:=
 (0≤i.a∧i.a<(↑(List.map zR i.tops).length:Int))∧∃(b:Bool),∃(b_1:Bool),∃(n:Int),∃(n_1:Int),∃(n_2:Int),∃(n_3:Int),zI (List.map zR i.tops) i.a.toNat 0 6=some [D.v (.bool b),D.v (.bool b_1),D.v (.int .i64 n),D.v (.int .i64 n_1),D.v (.int .i64 n_2),D.v (.int .i64 n_3)]∧(0≤i.b∧i.b<(↑(List.map zR i.tops).length:Int))∧∃(b:Bool),∃(b_2:Bool),∃(n:Int),∃(n_4:Int),∃(n_5:Int),∃(n_6:Int),zI (List.map zR i.tops) i.b.toNat 0 6=some [D.v (.bool b),D.v (.bool b_2),D.v (.int .i64 n),D.v (.int .i64 n_4),D.v (.int .i64 n_5),D.v (.int .i64 n_6)]∧(True∧((0≤i.b∧i.b<(↑(List.map zR i.tops).length:Int))∧i.b.toNat=i.b.toNat)∧i.b=i.b∧True∧True∧((0≤i.a∧i.a<(↑(List.map zR i.tops).length:Int))∧i.a.toNat=i.a.toNat)∧i.a=i.a∧True∧True∧((0≤i.b∧i.b<(↑(List.map zR i.tops).length:Int))∧i.b.toNat=i.b.toNat)∧i.b=i.b∧True∧True∧((0≤i.a∧i.a<(↑(List.map zR i.tops).length:Int))∧i.a.toNat=i.a.toNat)∧i.a=i.a∧True∧True∧((0≤i.b∧i.b<(↑(List.map zR i.tops).length:Int))∧i.b.toNat=i.b.toNat)∧i.b=i.b∧True∧cnd (!b_1) (bJ i b) (cnd (!b) (bJ i b) (zCr i b n n_1 n_3 n_5)))∧True∧((0≤i.b∧i.b<(↑(List.map zR i.tops).length:Int))∧i.b.toNat=i.b.toNat)∧i.b=i.b∧True∧True∧((0≤i.a∧i.a<(↑(List.map zR i.tops).length:Int))∧i.a.toNat=i.a.toNat)∧i.a=i.a∧True∧True∧((0≤i.b∧i.b<(↑(List.map zR i.tops).length:Int))∧i.b.toNat=i.b.toNat)∧i.b=i.b∧True∧True∧((0≤i.a∧i.a<(↑(List.map zR i.tops).length:Int))∧i.a.toNat=i.a.toNat)∧i.a=i.a∧True∧True∧((0≤i.b∧i.b<(↑(List.map zR i.tops).length:Int))∧i.b.toNat=i.b.toNat)∧i.b=i.b∧True∧cnd (!b_1) (bJ i b) (cnd (!b) (bJ i b) (zCr i b n n_1 n_3 n_5))
theorem z6e (hG:GOk Tryz.prog ([(142,addC),(143,subC)])) (h:∀(i:MkI),mk21.cnd i→zTo i):mk21.ok Tryz.prog 126:=okw mixed hG 0 (fun _=>[]) (fun _=>[]) [] Tryz.func126 h
@[reducible] def zBk (i:MkI) (b:Bool) (n_1:Int) (n_3:Int) (n_4:Int) (n_6:Int):Prop:=∃(i_1:I2),i_1.x=n_1∧i_1.y=n_4∧(((-9223372036854775808)≤i_1.x∧i_1.x≤9223372036854775807)∧(-9223372036854775808)≤i_1.y∧i_1.y≤9223372036854775807)∧∀(o:Unit),True→cnd i.less (∃(i_2:I2),i_2.x=n_4∧i_2.y=n_1∧(((-9223372036854775808)≤i_2.x∧i_2.x≤9223372036854775807)∧(-9223372036854775808)≤i_2.y∧i_2.y≤9223372036854775807)∧∀(o:Unit),True→cnd (jF i_2.x i_2.y).snd (True∧((List.map zG i.out).length+1)*(48:Nat)≤(70368744177664:Nat)∧∃(o:Unit),AObj.fro 6 (List.map zR i.tops)=MkU (i.tops,i.out) 1∧List.map zG (i.out++mkq i.tops (Leg.mk i.a 2) (Leg.mk i.b 2) i.less)=List.map zG i.out++[[D.v (.int .i64 (jF i_2.x i_2.y).fst),D.v (.int .i64 (min n_3 n_6)),D.v (.int .i64 i.a),D.v (.int .i64 2),D.v (.int .i64 i.b),D.v (.int .i64 2)]]∧True) (∃(o:Unit),AObj.fro 6 (List.map zR i.tops)=MkU (i.tops,i.out) 1∧List.map zG (i.out++mkq i.tops (Leg.mk i.a 2) (Leg.mk i.b 2) i.less)=List.map zG i.out∧True)) (cnd (jB i_1.x i_1.y).snd (True∧((List.map zG i.out).length+1)*(48:Nat)≤(70368744177664:Nat)∧∃(o:Unit),AObj.fro 6 (List.map zR i.tops)=MkU (i.tops,i.out) 1∧List.map zG (i.out++mkq i.tops (Leg.mk i.a 2) (Leg.mk i.b 2) i.less)=List.map zG i.out++[[D.v (.int .i64 (jB i_1.x i_1.y).fst),D.v (.int .i64 (min n_3 n_6)),D.v (.int .i64 i.a),D.v (.int .i64 2),D.v (.int .i64 i.b),D.v (.int .i64 2)]]∧True) (∃(o:Unit),AObj.fro 6 (List.map zR i.tops)=MkU (i.tops,i.out) 1∧List.map zG (i.out++mkq i.tops (Leg.mk i.a 2) (Leg.mk i.b 2) i.less)=List.map zG i.out∧True))
@[reducible] def bV (i:MkI) (b:Bool):Prop:=∃(o:Unit),AObj.fro 6 (List.map zR i.tops)=MkU (i.tops,i.out) 1∧List.map zG (i.out++mkq i.tops (Leg.mk i.a 2) (Leg.mk i.b 2) i.less)=List.map zG i.out∧True
def zWa (i:MkI):Prop:=
 (0≤i.a∧i.a<(↑(List.map zR i.tops).length:Int))∧∃(b:Bool),∃(b_1:Bool),∃(n:Int),∃(n_1:Int),∃(n_2:Int),∃(n_3:Int),zI (List.map zR i.tops) i.a.toNat 0 6=some [D.v (.bool b),D.v (.bool b_1),D.v (.int .i64 n),D.v (.int .i64 n_1),D.v (.int .i64 n_2),D.v (.int .i64 n_3)]∧(0≤i.b∧i.b<(↑(List.map zR i.tops).length:Int))∧∃(b:Bool),∃(b_2:Bool),∃(n:Int),∃(n_4:Int),∃(n_5:Int),∃(n_6:Int),zI (List.map zR i.tops) i.b.toNat 0 6=some [D.v (.bool b),D.v (.bool b_2),D.v (.int .i64 n),D.v (.int .i64 n_4),D.v (.int .i64 n_5),D.v (.int .i64 n_6)]∧(True∧((0≤i.b∧i.b<(↑(List.map zR i.tops).length:Int))∧i.b.toNat=i.b.toNat)∧i.b=i.b∧True∧True∧((0≤i.a∧i.a<(↑(List.map zR i.tops).length:Int))∧i.a.toNat=i.a.toNat)∧i.a=i.a∧True∧True∧((0≤i.b∧i.b<(↑(List.map zR i.tops).length:Int))∧i.b.toNat=i.b.toNat)∧i.b=i.b∧True∧True∧((0≤i.a∧i.a<(↑(List.map zR i.tops).length:Int))∧i.a.toNat=i.a.toNat)∧i.a=i.a∧True∧True∧((0≤i.b∧i.b<(↑(List.map zR i.tops).length:Int))∧i.b.toNat=i.b.toNat)∧i.b=i.b∧True∧cnd (!b_1) (bV i b) (cnd (!b_2) (bV i b) (zBk i b n_1 n_3 n_4 n_6)))∧True∧((0≤i.b∧i.b<(↑(List.map zR i.tops).length:Int))∧i.b.toNat=i.b.toNat)∧i.b=i.b∧True∧True∧((0≤i.a∧i.a<(↑(List.map zR i.tops).length:Int))∧i.a.toNat=i.a.toNat)∧i.a=i.a∧True∧True∧((0≤i.b∧i.b<(↑(List.map zR i.tops).length:Int))∧i.b.toNat=i.b.toNat)∧i.b=i.b∧True∧True∧((0≤i.a∧i.a<(↑(List.map zR i.tops).length:Int))∧i.a.toNat=i.a.toNat)∧i.a=i.a∧True∧True∧((0≤i.b∧i.b<(↑(List.map zR i.tops).length:Int))∧i.b.toNat=i.b.toNat)∧i.b=i.b∧True∧cnd (!b_1) (bV i b) (cnd (!b_2) (bV i b) (zBk i b n_1 n_3 n_4 n_6))
theorem z7w (hG:GOk Tryz.prog ([(142,addC),(143,subC)])) (h:∀(i:MkI),mk22.cnd i→zWa i):mk22.ok Tryz.prog 126:=okw mixed hG 0 (fun _=>[]) (fun _=>[]) [] Tryz.func126 h
open Go Cv Go.Proofs
theorem zAh:iotherC.ok Tryz.prog 125:=zWp gok0 fun n h=>by
 have h:n=1∨n=2:=h
 refine⟨(),?_,trivial⟩
 rw[w64 (by omega)]
theorem zJc:ibetterC.ok Tryz.prog 101:=zQn gok0 fun i _=>by
 refine Cv.cnd.mk (fun e=>⟨(),?_,trivial⟩) (fun e=>⟨(),?_,trivial⟩)
 ·have e:i.side=1:=by simpa using e
  simp[btr,e]
 ·have e:i.side≠1:=by simpa using e
  simp[btr,e]
theorem zZy (a b:Int):(if b<a then b else a)=min a b:=by split<;>omega
theorem z8k (i:MkI) (h:mk11.cnd i):zVn i:=by
 obtain⟨a0,a1,b0,b1,⟨ht,hp⟩,ho⟩:0≤i.a∧i.a<i.tops.length∧0≤i.b∧i.b<i.tops.length∧jJ i.tops∧i.out.length≤1000:=h
 obtain⟨x,hx⟩:=z8 (l:=i.tops) (i:=i.a.toNat) (by omega)
 obtain⟨y,hy⟩:=z8 (l:=i.tops) (i:=i.b.toNat) (by omega)
 obtain⟨⟨px1,px2⟩,px3,px4⟩:=hp x (List.mem_of_getElem? hx)
 obtain⟨⟨py1,py2⟩,py3,py4⟩:=hp y (List.mem_of_getElem? hy)
 have e0:mkq i.tops ⟨i.a,1⟩ ⟨i.b,1⟩ i.less=if x.has1 && y.has1 && (if i.less then jF y.p1 x.p1 else jB x.p1 y.p1).2 then[⟨(if i.less then jF y.p1 x.p1 else jB x.p1 y.p1).1,min x.q1 y.q1,⟨i.a,1⟩,⟨i.b,1⟩⟩]else[]:=by
  simp only[mkq,List.getD_eq_getElem?_getD,hx,hy,Option.getD_some];rfl
 unfold zVn zDy bP
 simp only[List.length_map]
 refine⟨⟨by omega,by omega⟩,x.has1,x.has2,x.p1,x.p2,x.q1,x.q2,elA hx (by simp[zR]) rfl,⟨by omega,by omega⟩,y.has1,y.has2,y.p1,y.p2,y.q1,y.q2,elA hy (by simp[zR]) rfl,?_⟩
 rw[e0]
 (repeat'(first|exact rfl|exact trivial|assumption|apply And.intro|refine fun(_:Unit) (_:True)=>?_|refine Exists.intro () ?_|omega|(dsimp only;omega)))
 all_goals
  refine Cv.cnd.mk (fun c1=> ?_) (fun c1=>Cv.cnd.mk (fun c2=> ?_) (fun c2=> ?_))
  ·have c1:x.has1=false:=by simpa using c1
   simp only[c1,Bool.false_and,Bool.false_eq_true,if_false,List.append_nil];exact kp
  ·have c2:y.has1=false:=by simpa using c2
   simp only[c2,Bool.and_false,Bool.false_and,Bool.false_eq_true,if_false,List.append_nil];exact kp
  ·have c1:x.has1=true:=by simpa using c1
   have c2:y.has1=true:=by simpa using c2
   simp only[c1,c2,Bool.true_and,zZy]
   refine⟨⟨x.p1,y.p1⟩,?_⟩
   (repeat'(first|exact rfl|exact trivial|assumption|apply And.intro|refine fun(_:Unit) (_:True)=>?_|refine Exists.intro () ?_|omega|(dsimp only;omega)))
   refine Cv.cnd.mk (fun c3=> ?_) (fun c3=> ?_)
   ·have c3:i.less=true:=c3
    simp only[c3,if_true]
    refine⟨⟨y.p1,x.p1⟩,?_⟩
    (repeat'(first|exact rfl|exact trivial|assumption|apply And.intro|refine fun(_:Unit) (_:True)=>?_|refine Exists.intro () ?_|omega|(dsimp only;omega)))
    refine Cv.cnd.mk (fun c4=> ?_) (fun c4=> ?_)
    ·have c4:(jF y.p1 x.p1).2=true:=c4
     simp only[c4,if_true,List.map_append];exact kp
    ·have c4:(jF y.p1 x.p1).2=false:=c4
     simp only[c4,Bool.false_eq_true,if_false,List.append_nil];exact kp
   ·have c3:i.less=false:=c3
    simp only[c3,Bool.false_eq_true,if_false]
    refine Cv.cnd.mk (fun c4=> ?_) (fun c4=> ?_)
    ·have c4:(jB x.p1 y.p1).2=true:=c4
     simp only[c4,if_true,List.map_append];exact kp
    ·have c4:(jB x.p1 y.p1).2=false:=c4
     simp only[c4,Bool.false_eq_true,if_false,List.append_nil];exact kp
theorem z1h:mk11.ok Tryz.prog 126:=z7p (gokc zBs (gokc zCj gok0)) z8k
theorem yAa (i:MkI) (h:mk12.cnd i):zRr i:=by
 obtain⟨a0,a1,b0,b1,⟨ht,hp⟩,ho⟩:0≤i.a∧i.a<i.tops.length∧0≤i.b∧i.b<i.tops.length∧jJ i.tops∧i.out.length≤1000:=h
 obtain⟨x,hx⟩:=z8 (l:=i.tops) (i:=i.a.toNat) (by omega)
 obtain⟨y,hy⟩:=z8 (l:=i.tops) (i:=i.b.toNat) (by omega)
 obtain⟨⟨px1,px2⟩,px3,px4⟩:=hp x (List.mem_of_getElem? hx)
 obtain⟨⟨py1,py2⟩,py3,py4⟩:=hp y (List.mem_of_getElem? hy)
 have e0:mkq i.tops ⟨i.a,1⟩ ⟨i.b,2⟩ i.less=if x.has1 && y.has2 && (if i.less then jF y.p2 x.p1 else jB x.p1 y.p2).2 then[⟨(if i.less then jF y.p2 x.p1 else jB x.p1 y.p2).1,min x.q1 y.q2,⟨i.a,1⟩,⟨i.b,2⟩⟩]else[]:=by
  simp only[mkq,List.getD_eq_getElem?_getD,hx,hy,Option.getD_some];rfl
 unfold zRr zCu aQ
 simp only[List.length_map]
 refine⟨⟨by omega,by omega⟩,x.has1,x.has2,x.p1,x.p2,x.q1,x.q2,elA hx (by simp[zR]) rfl,⟨by omega,by omega⟩,y.has1,y.has2,y.p1,y.p2,y.q1,y.q2,elA hy (by simp[zR]) rfl,?_⟩
 rw[e0]
 (repeat'(first|exact rfl|exact trivial|assumption|apply And.intro|refine fun(_:Unit) (_:True)=>?_|refine Exists.intro () ?_|omega|(dsimp only;omega)))
 all_goals
  refine Cv.cnd.mk (fun c1=> ?_) (fun c1=>Cv.cnd.mk (fun c2=> ?_) (fun c2=> ?_))
  ·have c1:x.has1=false:=by simpa using c1
   simp only[c1,Bool.false_and,Bool.false_eq_true,if_false,List.append_nil];exact kp
  ·have c2:y.has2=false:=by simpa using c2
   simp only[c2,Bool.and_false,Bool.false_and,Bool.false_eq_true,if_false,List.append_nil];exact kp
  ·have c1:x.has1=true:=by simpa using c1
   have c2:y.has2=true:=by simpa using c2
   simp only[c1,c2,Bool.true_and,zZy]
   refine⟨⟨x.p1,y.p2⟩,?_⟩
   (repeat'(first|exact rfl|exact trivial|assumption|apply And.intro|refine fun(_:Unit) (_:True)=>?_|refine Exists.intro () ?_|omega|(dsimp only;omega)))
   refine Cv.cnd.mk (fun c3=> ?_) (fun c3=> ?_)
   ·have c3:i.less=true:=c3
    simp only[c3,if_true]
    refine⟨⟨y.p2,x.p1⟩,?_⟩
    (repeat'(first|exact rfl|exact trivial|assumption|apply And.intro|refine fun(_:Unit) (_:True)=>?_|refine Exists.intro () ?_|omega|(dsimp only;omega)))
    refine Cv.cnd.mk (fun c4=> ?_) (fun c4=> ?_)
    ·have c4:(jF y.p2 x.p1).2=true:=c4
     simp only[c4,if_true,List.map_append];exact kp
    ·have c4:(jF y.p2 x.p1).2=false:=c4
     simp only[c4,Bool.false_eq_true,if_false,List.append_nil];exact kp
   ·have c3:i.less=false:=c3
    simp only[c3,Bool.false_eq_true,if_false]
    refine Cv.cnd.mk (fun c4=> ?_) (fun c4=> ?_)
    ·have c4:(jB x.p1 y.p2).2=true:=c4
     simp only[c4,if_true,List.map_append];exact kp
    ·have c4:(jB x.p1 y.p2).2=false:=c4
     simp only[c4,Bool.false_eq_true,if_false,List.append_nil];exact kp
theorem zYq:mk12.ok Tryz.prog 126:=z5h (gokc zBs (gokc zCj gok0)) yAa
theorem z8j (i:MkI) (h:mk21.cnd i):zTo i:=by
 obtain⟨a0,a1,b0,b1,⟨ht,hp⟩,ho⟩:0≤i.a∧i.a<i.tops.length∧0≤i.b∧i.b<i.tops.length∧jJ i.tops∧i.out.length≤1000:=h
 obtain⟨x,hx⟩:=z8 (l:=i.tops) (i:=i.a.toNat) (by omega)
 obtain⟨y,hy⟩:=z8 (l:=i.tops) (i:=i.b.toNat) (by omega)
 obtain⟨⟨px1,px2⟩,px3,px4⟩:=hp x (List.mem_of_getElem? hx)
 obtain⟨⟨py1,py2⟩,py3,py4⟩:=hp y (List.mem_of_getElem? hy)
 have e0:mkq i.tops ⟨i.a,2⟩ ⟨i.b,1⟩ i.less=if x.has2 && y.has1 && (if i.less then jF y.p1 x.p2 else jB x.p2 y.p1).2 then[⟨(if i.less then jF y.p1 x.p2 else jB x.p2 y.p1).1,min x.q2 y.q1,⟨i.a,2⟩,⟨i.b,1⟩⟩]else[]:=by
  simp only[mkq,List.getD_eq_getElem?_getD,hx,hy,Option.getD_some];rfl
 unfold zTo zCr bJ
 simp only[List.length_map]
 refine⟨⟨by omega,by omega⟩,x.has1,x.has2,x.p1,x.p2,x.q1,x.q2,elA hx (by simp[zR]) rfl,⟨by omega,by omega⟩,y.has1,y.has2,y.p1,y.p2,y.q1,y.q2,elA hy (by simp[zR]) rfl,?_⟩
 rw[e0]
 (repeat'(first|exact rfl|exact trivial|assumption|apply And.intro|refine fun(_:Unit) (_:True)=>?_|refine Exists.intro () ?_|omega|(dsimp only;omega)))
 all_goals
  refine Cv.cnd.mk (fun c1=> ?_) (fun c1=>Cv.cnd.mk (fun c2=> ?_) (fun c2=> ?_))
  ·have c1:x.has2=false:=by simpa using c1
   simp only[c1,Bool.false_and,Bool.false_eq_true,if_false,List.append_nil];exact kp
  ·have c2:y.has1=false:=by simpa using c2
   simp only[c2,Bool.and_false,Bool.false_and,Bool.false_eq_true,if_false,List.append_nil];exact kp
  ·have c1:x.has2=true:=by simpa using c1
   have c2:y.has1=true:=by simpa using c2
   simp only[c1,c2,Bool.true_and,zZy]
   refine⟨⟨x.p2,y.p1⟩,?_⟩
   (repeat'(first|exact rfl|exact trivial|assumption|apply And.intro|refine fun(_:Unit) (_:True)=>?_|refine Exists.intro () ?_|omega|(dsimp only;omega)))
   refine Cv.cnd.mk (fun c3=> ?_) (fun c3=> ?_)
   ·have c3:i.less=true:=c3
    simp only[c3,if_true]
    refine⟨⟨y.p1,x.p2⟩,?_⟩
    (repeat'(first|exact rfl|exact trivial|assumption|apply And.intro|refine fun(_:Unit) (_:True)=>?_|refine Exists.intro () ?_|omega|(dsimp only;omega)))
    refine Cv.cnd.mk (fun c4=> ?_) (fun c4=> ?_)
    ·have c4:(jF y.p1 x.p2).2=true:=c4
     simp only[c4,if_true,List.map_append];exact kp
    ·have c4:(jF y.p1 x.p2).2=false:=c4
     simp only[c4,Bool.false_eq_true,if_false,List.append_nil];exact kp
   ·have c3:i.less=false:=c3
    simp only[c3,Bool.false_eq_true,if_false]
    refine Cv.cnd.mk (fun c4=> ?_) (fun c4=> ?_)
    ·have c4:(jB x.p2 y.p1).2=true:=c4
     simp only[c4,if_true,List.map_append];exact kp
    ·have c4:(jB x.p2 y.p1).2=false:=c4
     simp only[c4,Bool.false_eq_true,if_false,List.append_nil];exact kp
theorem zYo:mk21.ok Tryz.prog 126:=z6e (gokc zBs (gokc zCj gok0)) z8j
theorem yAc (i:MkI) (h:mk22.cnd i):zWa i:=by
 obtain⟨a0,a1,b0,b1,⟨ht,hp⟩,ho⟩:0≤i.a∧i.a<i.tops.length∧0≤i.b∧i.b<i.tops.length∧jJ i.tops∧i.out.length≤1000:=h
 obtain⟨x,hx⟩:=z8 (l:=i.tops) (i:=i.a.toNat) (by omega)
 obtain⟨y,hy⟩:=z8 (l:=i.tops) (i:=i.b.toNat) (by omega)
 obtain⟨⟨px1,px2⟩,px3,px4⟩:=hp x (List.mem_of_getElem? hx)
 obtain⟨⟨py1,py2⟩,py3,py4⟩:=hp y (List.mem_of_getElem? hy)
 have e0:mkq i.tops ⟨i.a,2⟩ ⟨i.b,2⟩ i.less=if x.has2 && y.has2 && (if i.less then jF y.p2 x.p2 else jB x.p2 y.p2).2 then[⟨(if i.less then jF y.p2 x.p2 else jB x.p2 y.p2).1,min x.q2 y.q2,⟨i.a,2⟩,⟨i.b,2⟩⟩]else[]:=by
  simp only[mkq,List.getD_eq_getElem?_getD,hx,hy,Option.getD_some];rfl
 unfold zWa zBk bV
 simp only[List.length_map]
 refine⟨⟨by omega,by omega⟩,x.has1,x.has2,x.p1,x.p2,x.q1,x.q2,elA hx (by simp[zR]) rfl,⟨by omega,by omega⟩,y.has1,y.has2,y.p1,y.p2,y.q1,y.q2,elA hy (by simp[zR]) rfl,?_⟩
 rw[e0]
 (repeat'(first|exact rfl|exact trivial|assumption|apply And.intro|refine fun(_:Unit) (_:True)=>?_|refine Exists.intro () ?_|omega|(dsimp only;omega)))
 all_goals
  refine Cv.cnd.mk (fun c1=> ?_) (fun c1=>Cv.cnd.mk (fun c2=> ?_) (fun c2=> ?_))
  ·have c1:x.has2=false:=by simpa using c1
   simp only[c1,Bool.false_and,Bool.false_eq_true,if_false,List.append_nil];exact kp
  ·have c2:y.has2=false:=by simpa using c2
   simp only[c2,Bool.and_false,Bool.false_and,Bool.false_eq_true,if_false,List.append_nil];exact kp
  ·have c1:x.has2=true:=by simpa using c1
   have c2:y.has2=true:=by simpa using c2
   simp only[c1,c2,Bool.true_and,zZy]
   refine⟨⟨x.p2,y.p2⟩,?_⟩
   (repeat'(first|exact rfl|exact trivial|assumption|apply And.intro|refine fun(_:Unit) (_:True)=>?_|refine Exists.intro () ?_|omega|(dsimp only;omega)))
   refine Cv.cnd.mk (fun c3=> ?_) (fun c3=> ?_)
   ·have c3:i.less=true:=c3
    simp only[c3,if_true]
    refine⟨⟨y.p2,x.p2⟩,?_⟩
    (repeat'(first|exact rfl|exact trivial|assumption|apply And.intro|refine fun(_:Unit) (_:True)=>?_|refine Exists.intro () ?_|omega|(dsimp only;omega)))
    refine Cv.cnd.mk (fun c4=> ?_) (fun c4=> ?_)
    ·have c4:(jF y.p2 x.p2).2=true:=c4
     simp only[c4,if_true,List.map_append];exact kp
    ·have c4:(jF y.p2 x.p2).2=false:=c4
     simp only[c4,Bool.false_eq_true,if_false,List.append_nil];exact kp
   ·have c3:i.less=false:=c3
    simp only[c3,Bool.false_eq_true,if_false]
    refine Cv.cnd.mk (fun c4=> ?_) (fun c4=> ?_)
    ·have c4:(jB x.p2 y.p2).2=true:=c4
     simp only[c4,if_true,List.map_append];exact kp
    ·have c4:(jB x.p2 y.p2).2=false:=c4
     simp only[c4,Bool.false_eq_true,if_false,List.append_nil];exact kp
theorem zYm:mk22.ok Tryz.prog 126:=z7w (gokc zBs (gokc zCj gok0)) yAc
open Go Cv Go.Proofs
structure MkJ where
 i:MkI
 sa:Bool
 sb:Bool
def mkAnyC:Con:=con1 MkJ (fun j=>[.nm 0 0,.agg [zE j.i.a,zE (zB j.sa)],.agg [zE j.i.b,zE (zB j.sb)],yN j.i.less]) (fun j=>MkR j.i.tops j.i.out)
 (fun j=>0≤j.i.a∧j.i.a<j.i.tops.length∧0≤j.i.b∧j.i.b<j.i.tops.length∧jJ j.i.tops∧j.i.out.length≤1000) (fun _=>zGt) (fun j=>MkP j.i.tops (j.i.out++mkq j.i.tops ⟨j.i.a,zB j.sa⟩ ⟨j.i.b,zB j.sb⟩ j.i.less))
theorem zEi:mkAnyC.ok Tryz.prog 126:=fun j=>match j with
 |⟨i,false,false⟩=>z1h i
 |⟨i,false,true⟩=>zYq i
 |⟨i,true,false⟩=>zYo i
 |⟨i,true,true⟩=>zYm i
structure uL where
 p:Prd
 tops:List Top
 inst:Int
def xG (i:uL) (s:Int) (k:Nat):List Quote:=(List.range k).flatMap fun(k:Nat)=>mkq i.tops ⟨(i.p.spread i.inst (i.inst+1+k)).1,s⟩ ⟨i.inst+1+k,s⟩ false
def xF (i:uL) (s:Int) (k:Nat):List Quote:=(List.range k).flatMap fun(k:Nat)=>mkq i.tops ⟨(i.p.spread k i.inst).1,3-s⟩ ⟨k,s⟩ true
def zW (i:uL) (s:Int):List Quote:=mkq i.tops ⟨(i.p.legs i.inst).2.1,3-s⟩ ⟨(i.p.legs i.inst).1,s⟩ true
def kD (i:uL) (s:Int) (q:Quote):Quote:={q with a:=⟨(i.p.legs i.inst).1,s⟩,b:=⟨(i.p.legs i.inst).2.1,3-s⟩}
def xQ (i:uL) (s:Int):List Quote:=
 if i.p.count=0∨(i.tops.length:Int)≠i.p.count∨i.inst<0∨(i.p.count:Int)≤i.inst then[]
 else if(i.p.legs i.inst).2.2 then(zW i s).map (kD i s)
 else xG i s (i.p.months.length-(i.inst.toNat+1))++xF i s i.inst.toNat
def z2j (s:Int):Con:=con1 uL (fun i=>[prdV i.p,roV 6 (i.tops.map zR),zE i.inst,zE s]) (fun _=>[]) (fun i=>i.p.small∧jJ i.tops) (fun _=> .own 0) (fun i=>[.own 78 6 ((xQ i s).map zG)])
def all1C:Con:=z2j 1
def all2C:Con:=z2j 2
def z8p (i:uL) (s:Int):List SAnn:=[
 {ι:=Nat,slots:=fun k=>[(10,.nm 0 0),(77,zE k)],rows:=fun k=>(List.range 3).map (MkU (i.tops,((zW i s).take k).map (kD i s)++(zW i s).drop k))},
 {ι:=Nat,slots:=fun k=>[(10,.nm 0 0),(17,zE (i.inst+1+k))],rows:=fun k=>MkR i.tops (xG i s k)},
 {ι:=Nat,slots:=fun k=>[(10,.nm 0 0),(120,zE k)],rows:=fun k=>MkR i.tops (xG i s (i.p.months.length-(i.inst.toNat+1))++xF i s k)}]
structure pA where
 i:uL
 s:Bool
def allC:Con:=con1 pA (fun j=>[prdV j.i.p,roV 6 (j.i.tops.map zR),zE j.i.inst,zE (zB j.s)]) (fun _=>[]) (fun j=>j.i.p.small∧jJ j.i.tops) (fun _=> .own 0) (fun j=>[.own 78 6 ((xQ j.i (zB j.s)).map zG)])
def kE (i:uL) (s:Int):List Quote:=(xQ i s).filter fun q=>decide (i.p.price i.inst q.price=0)
def quotesC:Con:=con1 pA (fun j=>[prdV j.i.p,roV 6 (j.i.tops.map zR),zE j.i.inst,zE (zB j.s)]) (fun _=>[]) (fun j=>j.i.p.small∧jJ j.i.tops) (fun _=> .own 0) (fun j=>[.own 78 6 ((kE j.i (zB j.s)).map zG)])
def z0v (j:pA):List SAnn:=[{ι:=Nat,slots:=fun k=>[(9,.own 0),(18,zE k)],rows:=fun k=>[.own 78 6 ((((xQ j.i (zB j.s)).take k).filter fun q=>decide (j.i.p.price j.i.inst q.price=0)).map zG)]}]
structure BsI where
 l:List Quote
 s:Int
def zV (l:List Quote) (s:Int):Quote×Bool:=match l with
 |[]=>(z7u,false)
 |q::r=>(r.foldl (fun b q=>if btr s q.price b.price then q else b) q,true)
def bestQC:Con:=con1 BsI (fun i=>[roV 6 (i.l.map zG),zE i.s]) (fun _=>[]) (fun i=>(i.s=1∨i.s=2)∧i.l.length≤1000000) (fun i=> .tup [zKi (zV i.l i.s).1,yN (zV i.l i.s).2]) (fun _=>[])
def z4u (i:BsI):List SAnn:=[{ι:=Nat,slots:=fun k=>[(6,.nm 0 0),(26,zE k)],rows:=fun k=>[.cells (zKi (zV (i.l.take (max k 1)) i.s).1).cl 78]}]
open Go Cv Go.Proofs
@[reducible] def zNo (i_2:h9) (i_3:Int):AObj:=Sx.AObj.cells [V.d (D.v (.int .i64 (i_2.p.legs i_2.n).snd.fst)),V.d (D.v (.int .i64 ((3:Int)-i_3)))] (75:Nat)
@[reducible] def zMl (i_2:h9):AObj:=Sx.AObj.cells [V.d (D.v (.int .i64 (i_2.p.legs i_2.n).fst)),V.d (D.v (.int .i64 1))] (75:Nat)
@[reducible] def dS (i:uL):AObj:=Sx.AObj.cells [V.d (D.v (Value.string (sb i.p.code))),V.own (0:Nat),V.d (D.v (.int .i64 i.p.tick)),V.d (D.v (.int .i64 i.p.low)),V.d (D.v (.int .i64 i.p.high)),V.d (D.v (.int .i64 i.p.wide)),V.d (D.v (.int .i64 i.p.rule)),V.d (D.v (.int .i64 i.p.top)),V.d (D.v (.int .i64 i.p.least)),V.d (D.v (.int .i64 i.p.part)),V.own ((0:Nat)+(1:Nat))] (25:Nat)
def z2i (i:uL):Prop:=
 ∃(i_1:Prd),sb i_1.code=sb i.p.code∧iE i_1.months=iE i.p.months∧i_1.tick=i.p.tick∧i_1.low=i.p.low∧i_1.high=i.p.high∧i_1.wide=i.p.wide∧i_1.rule=i.p.rule∧i_1.top=i.p.top∧i_1.least=i.p.least∧i_1.part=i.p.part∧iE i_1.settle=iE i.p.settle∧(i_1.code.length≤1099511627776∧i_1.months.length≤1099511627776∧i_1.settle.length≤1099511627776)∧∀(o:Unit),True→cnd ((↑i_1.count:Int)==0) (∃(o:Unit),List.map zG (xQ i 1)=[]∧True) (cnd ((↑(List.map zR i.tops).length:Int) !=(↑i_1.count:Int)) (∃(o:Unit),List.map zG (xQ i 1)=[]∧True) (cnd (decide (i.inst<0)) (∃(o:Unit),List.map zG (xQ i 1)=[]∧True) (cnd (decide (i.inst≥(↑i_1.count:Int))) (∃(o:Unit),List.map zG (xQ i 1)=[]∧True) (∃(i_2:h9),sb i_2.p.code=sb i.p.code∧iE i_2.p.months=iE i.p.months∧i_2.p.tick=i.p.tick∧i_2.p.low=i.p.low∧i_2.p.high=i.p.high∧i_2.p.wide=i.p.wide∧i_2.p.rule=i.p.rule∧i_2.p.top=i.p.top∧i_2.p.least=i.p.least∧i_2.p.part=i.p.part∧iE i_2.p.settle=iE i.p.settle∧i_2.n=i.inst∧(i_2.p.code.length≤1099511627776∧i_2.p.months.length≤1099511627776∧i_2.p.settle.length≤1099511627776)∧∀(o:Unit),True→cnd (i_2.p.legs i_2.n).snd.snd (∃(i_3:Int),i_3=1∧(i_3=1∨i_3=2)∧∀(o:Unit),True→∃(i_4:MkJ),i_4.i.a=(i_2.p.legs i_2.n).snd.fst∧zB i_4.sa=3-i_3∧i_4.i.b=(i_2.p.legs i_2.n).fst∧zB i_4.sb=1∧i_4.i.less=true∧AObj.fro 6 (List.map zR i_4.i.tops)=AObj.fro 6 (List.map zR i.tops)∧List.map zG i_4.i.out=[]∧(0≤i_4.i.a∧i_4.i.a<(↑i_4.i.tops.length:Int)∧0≤i_4.i.b∧i_4.i.b<(↑i_4.i.tops.length:Int)∧(i_4.i.tops.length≤1000000∧∀(t:Top),t∈i_4.i.tops→((-9223372036854775808)≤t.p1∧t.p1≤9223372036854775807)∧(-9223372036854775808)≤t.p2∧t.p2≤9223372036854775807)∧i_4.i.out.length≤1000)∧∀(o:Unit),True→∃(i0:Nat),(↑i0:Int)=0∧AObj.fro 6 (List.map zR i.tops)=AObj.fro 6 (List.map zR i_4.i.tops)∧List.map zG (List.map (kD i 1) (List.take i0 (zW i 1))++List.drop i0 (zW i 1))=List.map zG (i_4.i.out++mkq i_4.i.tops (Leg.mk i_4.i.a (zB i_4.sa)) (Leg.mk i_4.i.b (zB i_4.sb)) i_4.i.less)∧∃(I:Nat→Prop),∃(μ:Nat→Nat),I i0∧∀(i_5:Nat),I i_5→cnd (decide ((↑i_5:Int)<(↑(List.map zG (i_4.i.out++mkq i_4.i.tops (Leg.mk i_4.i.a (zB i_4.sa)) (Leg.mk i_4.i.b (zB i_4.sb)) i_4.i.less)).length:Int))) ((0≤(↑i_5:Int)∧(↑i_5:Int)<(↑(List.map zG (List.map (kD i 1) (List.take i_5 (zW i 1))++List.drop i_5 (zW i 1))).length:Int))∧(↑i_5:Int).toNat<(List.map zG (List.map (kD i 1) (List.take i_5 (zW i 1))++List.drop i_5 (zW i 1))).length∧∃(i':Nat),(↑i':Int)=IntKind.i64.wrap ((↑i_5:Int)+1)∧AObj.fro 6 (List.map zR i.tops)=AObj.fro 6 (List.map zR i.tops)∧List.map zG (List.map (kD i 1) (List.take i' (zW i 1))++List.drop i' (zW i 1))=zK (List.map zG (List.map (kD i 1) (List.take i_5 (zW i 1))++List.drop i_5 (zW i 1))) (↑i_5:Int).toNat ((0:Nat)+(2:Nat)) [D.v (.int .i64 (i_2.p.legs i_2.n).fst),D.v (.int .i64 1),D.v (.int .i64 (i_2.p.legs i_2.n).snd.fst),D.v (.int .i64 (3-i_3))]∧I i'∧μ i'<μ i_5∧AObj.fro 6 (List.map zR i_4.i.tops)=AObj.fro 6 (List.map zR i_4.i.tops)∧zNo i_2 i_3=zNo i_2 i_3∧zMl i_2=zMl i_2∧AObj.fro 6 (List.map zR i.tops)=AObj.fro 6 (List.map zR i.tops)∧dS i=dS i∧AObj.fro 1 (iE i.p.settle)=AObj.fro 1 (iE i.p.settle)∧AObj.fro 1 (iE i.p.months)=AObj.fro 1 (iE i.p.months)) (∃(o:Unit),List.map zG (xQ i 1)=List.map zG (List.map (kD i 1) (List.take i_5 (zW i 1))++List.drop i_5 (zW i 1))∧True)) (∃(i0:Nat),i.inst+1+(↑i0:Int)=IntKind.i64.wrap (i.inst+1)∧AObj.fro 6 (List.map zR i.tops)=AObj.fro 6 (List.map zR i.tops)∧List.map zG (xG i 1 i0)=[]∧∃(I:Nat→Prop),∃(μ:Nat→Nat),I i0∧∀(i_3:Nat),I i_3→cnd (decide (i.inst+1+(↑i_3:Int)<(↑(iE i.p.months).length:Int))) (∃(i_4:cA),sb i_4.p.code=sb i.p.code∧iE i_4.p.months=iE i.p.months∧i_4.p.tick=i.p.tick∧i_4.p.low=i.p.low∧i_4.p.high=i.p.high∧i_4.p.wide=i.p.wide∧i_4.p.rule=i.p.rule∧i_4.p.top=i.p.top∧i_4.p.least=i.p.least∧i_4.p.part=i.p.part∧iE i_4.p.settle=iE i.p.settle∧i_4.a=i.inst∧i_4.b=i.inst+1+(↑i_3:Int)∧(i_4.p.code.length≤1099511627776∧i_4.p.months.length≤1099511627776∧i_4.p.settle.length≤1099511627776)∧∀(o:Unit),True→∃(i_5:MkJ),i_5.i.a=(i_4.p.spread i_4.a i_4.b).fst∧zB i_5.sa=1∧i_5.i.b=i.inst+1+(↑i_3:Int)∧zB i_5.sb=1∧i_5.i.less=false∧AObj.fro 6 (List.map zR i_5.i.tops)=AObj.fro 6 (List.map zR i.tops)∧List.map zG i_5.i.out=List.map zG (xG i 1 i_3)∧(0≤i_5.i.a∧i_5.i.a<(↑i_5.i.tops.length:Int)∧0≤i_5.i.b∧i_5.i.b<(↑i_5.i.tops.length:Int)∧(i_5.i.tops.length≤1000000∧∀(t:Top),t∈i_5.i.tops→((-9223372036854775808)≤t.p1∧t.p1≤9223372036854775807)∧(-9223372036854775808)≤t.p2∧t.p2≤9223372036854775807)∧i_5.i.out.length≤1000)∧∀(o:Unit),True→∃(i':Nat),i.inst+1+(↑i':Int)=IntKind.i64.wrap (i.inst+1+(↑i_3:Int)+1)∧AObj.fro 6 (List.map zR i.tops)=AObj.fro 6 (List.map zR i_5.i.tops)∧List.map zG (xG i 1 i')=List.map zG (i_5.i.out++mkq i_5.i.tops (Leg.mk i_5.i.a (zB i_5.sa)) (Leg.mk i_5.i.b (zB i_5.sb)) i_5.i.less)∧I i'∧μ i'<μ i_3∧AObj.fro 6 (List.map zR i.tops)=AObj.fro 6 (List.map zR i.tops)∧dS i=dS i∧AObj.fro 1 (iE i.p.settle)=AObj.fro 1 (iE i.p.settle)∧AObj.fro 1 (iE i.p.months)=AObj.fro 1 (iE i.p.months)) (∃(i0:Nat),(↑i0:Int)=0∧AObj.fro 6 (List.map zR i.tops)=AObj.fro 6 (List.map zR i.tops)∧List.map zG (xG i 1 (i.p.months.length-(i.inst.toNat+1))++xF i 1 i0)=List.map zG (xG i 1 i_3)∧∃(I:Nat→Prop),∃(μ:Nat→Nat),I i0∧∀(i_4:Nat),I i_4→cnd (decide ((↑i_4:Int)<i.inst)) (∃(i_5:cA),sb i_5.p.code=sb i.p.code∧iE i_5.p.months=iE i.p.months∧i_5.p.tick=i.p.tick∧i_5.p.low=i.p.low∧i_5.p.high=i.p.high∧i_5.p.wide=i.p.wide∧i_5.p.rule=i.p.rule∧i_5.p.top=i.p.top∧i_5.p.least=i.p.least∧i_5.p.part=i.p.part∧iE i_5.p.settle=iE i.p.settle∧i_5.a=(↑i_4:Int)∧i_5.b=i.inst∧(i_5.p.code.length≤1099511627776∧i_5.p.months.length≤1099511627776∧i_5.p.settle.length≤1099511627776)∧∀(o:Unit),True→∃(i_6:Int),i_6=1∧(i_6=1∨i_6=2)∧∀(o:Unit),True→∃(i_7:MkJ),i_7.i.a=(i_5.p.spread i_5.a i_5.b).fst∧zB i_7.sa=3-i_6∧i_7.i.b=(↑i_4:Int)∧zB i_7.sb=1∧i_7.i.less=true∧AObj.fro 6 (List.map zR i_7.i.tops)=AObj.fro 6 (List.map zR i.tops)∧List.map zG i_7.i.out=List.map zG (xG i 1 (i.p.months.length-(i.inst.toNat+1))++xF i 1 i_4)∧(0≤i_7.i.a∧i_7.i.a<(↑i_7.i.tops.length:Int)∧0≤i_7.i.b∧i_7.i.b<(↑i_7.i.tops.length:Int)∧(i_7.i.tops.length≤1000000∧∀(t:Top),t∈i_7.i.tops→((-9223372036854775808)≤t.p1∧t.p1≤9223372036854775807)∧(-9223372036854775808)≤t.p2∧t.p2≤9223372036854775807)∧i_7.i.out.length≤1000)∧∀(o:Unit),True→∃(i':Nat),(↑i':Int)=IntKind.i64.wrap ((↑i_4:Int)+1)∧AObj.fro 6 (List.map zR i.tops)=AObj.fro 6 (List.map zR i_7.i.tops)∧List.map zG (xG i 1 (i.p.months.length-(i.inst.toNat+1))++xF i 1 i')=List.map zG (i_7.i.out++mkq i_7.i.tops (Leg.mk i_7.i.a (zB i_7.sa)) (Leg.mk i_7.i.b (zB i_7.sb)) i_7.i.less)∧I i'∧μ i'<μ i_4∧AObj.fro 6 (List.map zR i.tops)=AObj.fro 6 (List.map zR i.tops)∧AObj.fro 6 (List.map zR i.tops)=AObj.fro 6 (List.map zR i.tops)∧dS i=dS i∧AObj.fro 1 (iE i.p.settle)=AObj.fro 1 (iE i.p.settle)∧AObj.fro 1 (iE i.p.months)=AObj.fro 1 (iE i.p.months)) (∃(o:Unit),List.map zG (xQ i 1)=List.map zG (xG i 1 (i.p.months.length-(i.inst.toNat+1))++xF i 1 i_4)∧True)))))))
theorem z7d (hG:GOk Tryz.prog ([(22,pcountC),(124,legsC),(127,spreadC),(125,iotherC),(126,mkAnyC)])) (h:∀(i:uL),all1C.cnd i→z2i i):all1C.ok Tryz.prog 102:=okw mixed hG 0 (fun _=>[]) (fun i=>z8p i 1) [] Tryz.func102 h
@[reducible] def zNd (i_2:h9) (i_3:Int):AObj:=Sx.AObj.cells [V.d (D.v (.int .i64 (i_2.p.legs i_2.n).snd.fst)),V.d (D.v (.int .i64 ((3:Int)-i_3)))] (75:Nat)
@[reducible] def zMa (i_2:h9):AObj:=Sx.AObj.cells [V.d (D.v (.int .i64 (i_2.p.legs i_2.n).fst)),V.d (D.v (.int .i64 2))] (75:Nat)
@[reducible] def dO (i:uL):AObj:=Sx.AObj.cells [V.d (D.v (Value.string (sb i.p.code))),V.own (0:Nat),V.d (D.v (.int .i64 i.p.tick)),V.d (D.v (.int .i64 i.p.low)),V.d (D.v (.int .i64 i.p.high)),V.d (D.v (.int .i64 i.p.wide)),V.d (D.v (.int .i64 i.p.rule)),V.d (D.v (.int .i64 i.p.top)),V.d (D.v (.int .i64 i.p.least)),V.d (D.v (.int .i64 i.p.part)),V.own ((0:Nat)+(1:Nat))] (25:Nat)
def z2h (i:uL):Prop:=
 ∃(i_1:Prd),sb i_1.code=sb i.p.code∧iE i_1.months=iE i.p.months∧i_1.tick=i.p.tick∧i_1.low=i.p.low∧i_1.high=i.p.high∧i_1.wide=i.p.wide∧i_1.rule=i.p.rule∧i_1.top=i.p.top∧i_1.least=i.p.least∧i_1.part=i.p.part∧iE i_1.settle=iE i.p.settle∧(i_1.code.length≤1099511627776∧i_1.months.length≤1099511627776∧i_1.settle.length≤1099511627776)∧∀(o:Unit),True→cnd ((↑i_1.count:Int)==0) (∃(o:Unit),List.map zG (xQ i 2)=[]∧True) (cnd ((↑(List.map zR i.tops).length:Int) !=(↑i_1.count:Int)) (∃(o:Unit),List.map zG (xQ i 2)=[]∧True) (cnd (decide (i.inst<0)) (∃(o:Unit),List.map zG (xQ i 2)=[]∧True) (cnd (decide (i.inst≥(↑i_1.count:Int))) (∃(o:Unit),List.map zG (xQ i 2)=[]∧True) (∃(i_2:h9),sb i_2.p.code=sb i.p.code∧iE i_2.p.months=iE i.p.months∧i_2.p.tick=i.p.tick∧i_2.p.low=i.p.low∧i_2.p.high=i.p.high∧i_2.p.wide=i.p.wide∧i_2.p.rule=i.p.rule∧i_2.p.top=i.p.top∧i_2.p.least=i.p.least∧i_2.p.part=i.p.part∧iE i_2.p.settle=iE i.p.settle∧i_2.n=i.inst∧(i_2.p.code.length≤1099511627776∧i_2.p.months.length≤1099511627776∧i_2.p.settle.length≤1099511627776)∧∀(o:Unit),True→cnd (i_2.p.legs i_2.n).snd.snd (∃(i_3:Int),i_3=2∧(i_3=1∨i_3=2)∧∀(o:Unit),True→∃(i_4:MkJ),i_4.i.a=(i_2.p.legs i_2.n).snd.fst∧zB i_4.sa=3-i_3∧i_4.i.b=(i_2.p.legs i_2.n).fst∧zB i_4.sb=2∧i_4.i.less=true∧AObj.fro 6 (List.map zR i_4.i.tops)=AObj.fro 6 (List.map zR i.tops)∧List.map zG i_4.i.out=[]∧(0≤i_4.i.a∧i_4.i.a<(↑i_4.i.tops.length:Int)∧0≤i_4.i.b∧i_4.i.b<(↑i_4.i.tops.length:Int)∧(i_4.i.tops.length≤1000000∧∀(t:Top),t∈i_4.i.tops→((-9223372036854775808)≤t.p1∧t.p1≤9223372036854775807)∧(-9223372036854775808)≤t.p2∧t.p2≤9223372036854775807)∧i_4.i.out.length≤1000)∧∀(o:Unit),True→∃(i0:Nat),(↑i0:Int)=0∧AObj.fro 6 (List.map zR i.tops)=AObj.fro 6 (List.map zR i_4.i.tops)∧List.map zG (List.map (kD i 2) (List.take i0 (zW i 2))++List.drop i0 (zW i 2))=List.map zG (i_4.i.out++mkq i_4.i.tops (Leg.mk i_4.i.a (zB i_4.sa)) (Leg.mk i_4.i.b (zB i_4.sb)) i_4.i.less)∧∃(I:Nat→Prop),∃(μ:Nat→Nat),I i0∧∀(i_5:Nat),I i_5→cnd (decide ((↑i_5:Int)<(↑(List.map zG (i_4.i.out++mkq i_4.i.tops (Leg.mk i_4.i.a (zB i_4.sa)) (Leg.mk i_4.i.b (zB i_4.sb)) i_4.i.less)).length:Int))) ((0≤(↑i_5:Int)∧(↑i_5:Int)<(↑(List.map zG (List.map (kD i 2) (List.take i_5 (zW i 2))++List.drop i_5 (zW i 2))).length:Int))∧(↑i_5:Int).toNat<(List.map zG (List.map (kD i 2) (List.take i_5 (zW i 2))++List.drop i_5 (zW i 2))).length∧∃(i':Nat),(↑i':Int)=IntKind.i64.wrap ((↑i_5:Int)+1)∧AObj.fro 6 (List.map zR i.tops)=AObj.fro 6 (List.map zR i.tops)∧List.map zG (List.map (kD i 2) (List.take i' (zW i 2))++List.drop i' (zW i 2))=zK (List.map zG (List.map (kD i 2) (List.take i_5 (zW i 2))++List.drop i_5 (zW i 2))) (↑i_5:Int).toNat ((0:Nat)+(2:Nat)) [D.v (.int .i64 (i_2.p.legs i_2.n).fst),D.v (.int .i64 2),D.v (.int .i64 (i_2.p.legs i_2.n).snd.fst),D.v (.int .i64 (3-i_3))]∧I i'∧μ i'<μ i_5∧AObj.fro 6 (List.map zR i_4.i.tops)=AObj.fro 6 (List.map zR i_4.i.tops)∧zNd i_2 i_3=zNd i_2 i_3∧zMa i_2=zMa i_2∧AObj.fro 6 (List.map zR i.tops)=AObj.fro 6 (List.map zR i.tops)∧dO i=dO i∧AObj.fro 1 (iE i.p.settle)=AObj.fro 1 (iE i.p.settle)∧AObj.fro 1 (iE i.p.months)=AObj.fro 1 (iE i.p.months)) (∃(o:Unit),List.map zG (xQ i 2)=List.map zG (List.map (kD i 2) (List.take i_5 (zW i 2))++List.drop i_5 (zW i 2))∧True)) (∃(i0:Nat),i.inst+1+(↑i0:Int)=IntKind.i64.wrap (i.inst+1)∧AObj.fro 6 (List.map zR i.tops)=AObj.fro 6 (List.map zR i.tops)∧List.map zG (xG i 2 i0)=[]∧∃(I:Nat→Prop),∃(μ:Nat→Nat),I i0∧∀(i_3:Nat),I i_3→cnd (decide (i.inst+1+(↑i_3:Int)<(↑(iE i.p.months).length:Int))) (∃(i_4:cA),sb i_4.p.code=sb i.p.code∧iE i_4.p.months=iE i.p.months∧i_4.p.tick=i.p.tick∧i_4.p.low=i.p.low∧i_4.p.high=i.p.high∧i_4.p.wide=i.p.wide∧i_4.p.rule=i.p.rule∧i_4.p.top=i.p.top∧i_4.p.least=i.p.least∧i_4.p.part=i.p.part∧iE i_4.p.settle=iE i.p.settle∧i_4.a=i.inst∧i_4.b=i.inst+1+(↑i_3:Int)∧(i_4.p.code.length≤1099511627776∧i_4.p.months.length≤1099511627776∧i_4.p.settle.length≤1099511627776)∧∀(o:Unit),True→∃(i_5:MkJ),i_5.i.a=(i_4.p.spread i_4.a i_4.b).fst∧zB i_5.sa=2∧i_5.i.b=i.inst+1+(↑i_3:Int)∧zB i_5.sb=2∧i_5.i.less=false∧AObj.fro 6 (List.map zR i_5.i.tops)=AObj.fro 6 (List.map zR i.tops)∧List.map zG i_5.i.out=List.map zG (xG i 2 i_3)∧(0≤i_5.i.a∧i_5.i.a<(↑i_5.i.tops.length:Int)∧0≤i_5.i.b∧i_5.i.b<(↑i_5.i.tops.length:Int)∧(i_5.i.tops.length≤1000000∧∀(t:Top),t∈i_5.i.tops→((-9223372036854775808)≤t.p1∧t.p1≤9223372036854775807)∧(-9223372036854775808)≤t.p2∧t.p2≤9223372036854775807)∧i_5.i.out.length≤1000)∧∀(o:Unit),True→∃(i':Nat),i.inst+1+(↑i':Int)=IntKind.i64.wrap (i.inst+1+(↑i_3:Int)+1)∧AObj.fro 6 (List.map zR i.tops)=AObj.fro 6 (List.map zR i_5.i.tops)∧List.map zG (xG i 2 i')=List.map zG (i_5.i.out++mkq i_5.i.tops (Leg.mk i_5.i.a (zB i_5.sa)) (Leg.mk i_5.i.b (zB i_5.sb)) i_5.i.less)∧I i'∧μ i'<μ i_3∧AObj.fro 6 (List.map zR i.tops)=AObj.fro 6 (List.map zR i.tops)∧dO i=dO i∧AObj.fro 1 (iE i.p.settle)=AObj.fro 1 (iE i.p.settle)∧AObj.fro 1 (iE i.p.months)=AObj.fro 1 (iE i.p.months)) (∃(i0:Nat),(↑i0:Int)=0∧AObj.fro 6 (List.map zR i.tops)=AObj.fro 6 (List.map zR i.tops)∧List.map zG (xG i 2 (i.p.months.length-(i.inst.toNat+1))++xF i 2 i0)=List.map zG (xG i 2 i_3)∧∃(I:Nat→Prop),∃(μ:Nat→Nat),I i0∧∀(i_4:Nat),I i_4→cnd (decide ((↑i_4:Int)<i.inst)) (∃(i_5:cA),sb i_5.p.code=sb i.p.code∧iE i_5.p.months=iE i.p.months∧i_5.p.tick=i.p.tick∧i_5.p.low=i.p.low∧i_5.p.high=i.p.high∧i_5.p.wide=i.p.wide∧i_5.p.rule=i.p.rule∧i_5.p.top=i.p.top∧i_5.p.least=i.p.least∧i_5.p.part=i.p.part∧iE i_5.p.settle=iE i.p.settle∧i_5.a=(↑i_4:Int)∧i_5.b=i.inst∧(i_5.p.code.length≤1099511627776∧i_5.p.months.length≤1099511627776∧i_5.p.settle.length≤1099511627776)∧∀(o:Unit),True→∃(i_6:Int),i_6=2∧(i_6=1∨i_6=2)∧∀(o:Unit),True→∃(i_7:MkJ),i_7.i.a=(i_5.p.spread i_5.a i_5.b).fst∧zB i_7.sa=3-i_6∧i_7.i.b=(↑i_4:Int)∧zB i_7.sb=2∧i_7.i.less=true∧AObj.fro 6 (List.map zR i_7.i.tops)=AObj.fro 6 (List.map zR i.tops)∧List.map zG i_7.i.out=List.map zG (xG i 2 (i.p.months.length-(i.inst.toNat+1))++xF i 2 i_4)∧(0≤i_7.i.a∧i_7.i.a<(↑i_7.i.tops.length:Int)∧0≤i_7.i.b∧i_7.i.b<(↑i_7.i.tops.length:Int)∧(i_7.i.tops.length≤1000000∧∀(t:Top),t∈i_7.i.tops→((-9223372036854775808)≤t.p1∧t.p1≤9223372036854775807)∧(-9223372036854775808)≤t.p2∧t.p2≤9223372036854775807)∧i_7.i.out.length≤1000)∧∀(o:Unit),True→∃(i':Nat),(↑i':Int)=IntKind.i64.wrap ((↑i_4:Int)+1)∧AObj.fro 6 (List.map zR i.tops)=AObj.fro 6 (List.map zR i_7.i.tops)∧List.map zG (xG i 2 (i.p.months.length-(i.inst.toNat+1))++xF i 2 i')=List.map zG (i_7.i.out++mkq i_7.i.tops (Leg.mk i_7.i.a (zB i_7.sa)) (Leg.mk i_7.i.b (zB i_7.sb)) i_7.i.less)∧I i'∧μ i'<μ i_4∧AObj.fro 6 (List.map zR i.tops)=AObj.fro 6 (List.map zR i.tops)∧AObj.fro 6 (List.map zR i.tops)=AObj.fro 6 (List.map zR i.tops)∧dO i=dO i∧AObj.fro 1 (iE i.p.settle)=AObj.fro 1 (iE i.p.settle)∧AObj.fro 1 (iE i.p.months)=AObj.fro 1 (iE i.p.months)) (∃(o:Unit),List.map zG (xQ i 2)=List.map zG (xG i 2 (i.p.months.length-(i.inst.toNat+1))++xF i 2 i_4)∧True)))))))
theorem z4h (hG:GOk Tryz.prog ([(22,pcountC),(124,legsC),(127,spreadC),(125,iotherC),(126,mkAnyC)])) (h:∀(i:uL),all2C.cnd i→z2h i):all2C.ok Tryz.prog 102:=okw mixed hG 0 (fun _=>[]) (fun i=>z8p i 2) [] Tryz.func102 h
@[reducible] def dG (j:pA) (i:pA):AObj:=Sx.AObj.cells [V.d (D.v (Value.string (sb j.i.p.code))),V.own (0:Nat),V.d (D.v (.int .i64 j.i.p.tick)),V.d (D.v (.int .i64 j.i.p.low)),V.d (D.v (.int .i64 j.i.p.high)),V.d (D.v (.int .i64 j.i.p.wide)),V.d (D.v (.int .i64 j.i.p.rule)),V.d (D.v (.int .i64 j.i.p.top)),V.d (D.v (.int .i64 j.i.p.least)),V.d (D.v (.int .i64 j.i.p.part)),V.own ((0:Nat)+(1:Nat))] (25:Nat)
def zNv (j:pA):Prop:=
 ∃(i:pA),sb i.i.p.code=sb j.i.p.code∧iE i.i.p.months=iE j.i.p.months∧i.i.p.tick=j.i.p.tick∧i.i.p.low=j.i.p.low∧i.i.p.high=j.i.p.high∧i.i.p.wide=j.i.p.wide∧i.i.p.rule=j.i.p.rule∧i.i.p.top=j.i.p.top∧i.i.p.least=j.i.p.least∧i.i.p.part=j.i.p.part∧iE i.i.p.settle=iE j.i.p.settle∧List.map zR i.i.tops=List.map zR j.i.tops∧i.i.inst=j.i.inst∧zB i.s=zB j.s∧((i.i.p.code.length≤1099511627776∧i.i.p.months.length≤1099511627776∧i.i.p.settle.length≤1099511627776)∧i.i.tops.length≤1000000∧∀(t:Top),t∈i.i.tops→((-9223372036854775808)≤t.p1∧t.p1≤9223372036854775807)∧(-9223372036854775808)≤t.p2∧t.p2≤9223372036854775807)∧∀(o:Unit),True→∃(i0:Nat),(↑i0:Int)=0∧List.map zG (List.filter (fun(q:Sx.Quote) ↦ decide (j.i.p.price j.i.inst q.price=0)) (List.take i0 (xQ j.i (zB j.s))))=[]∧∃(I:Nat→Prop),∃(μ:Nat→Nat),I i0∧∀(i_1:Nat),I i_1→cnd (decide ((↑i_1:Int)<(↑(List.map zG (xQ i.i (zB i.s))).length:Int))) ((0≤(↑i_1:Int)∧(↑i_1:Int)<(↑(List.map zG (xQ i.i (zB i.s))).length:Int))∧∃(n:Int),∃(n_1:Int),∃(n_2:Int),∃(n_3:Int),∃(n_4:Int),∃(n_5:Int),zI (List.map zG (xQ i.i (zB i.s))) (↑i_1:Int).toNat 0 6=some [D.v (.int .i64 n),D.v (.int .i64 n_1),D.v (.int .i64 n_2),D.v (.int .i64 n_3),D.v (.int .i64 n_4),D.v (.int .i64 n_5)]∧∃(i_2:cA),sb i_2.p.code=sb j.i.p.code∧iE i_2.p.months=iE j.i.p.months∧i_2.p.tick=j.i.p.tick∧i_2.p.low=j.i.p.low∧i_2.p.high=j.i.p.high∧i_2.p.wide=j.i.p.wide∧i_2.p.rule=j.i.p.rule∧i_2.p.top=j.i.p.top∧i_2.p.least=j.i.p.least∧i_2.p.part=j.i.p.part∧iE i_2.p.settle=iE j.i.p.settle∧i_2.a=j.i.inst∧i_2.b=n∧(i_2.p.code.length≤1099511627776∧i_2.p.months.length≤1099511627776∧i_2.p.settle.length≤1099511627776)∧∀(o:Unit),True→cnd (i_2.p.price i_2.a i_2.b==0) (((List.map zG (List.filter (fun(q:Sx.Quote) ↦ decide (j.i.p.price j.i.inst q.price=0)) (List.take i_1 (xQ j.i (zB j.s))))).length+1)*(48:Nat)≤(70368744177664:Nat)∧∃(i':Nat),(↑i':Int)=IntKind.i64.wrap ((↑i_1:Int)+1)∧List.map zG (List.filter (fun(q:Sx.Quote) ↦ decide (j.i.p.price j.i.inst q.price=0)) (List.take i' (xQ j.i (zB j.s))))=List.map zG (List.filter (fun(q:Sx.Quote) ↦ decide (j.i.p.price j.i.inst q.price=0)) (List.take i_1 (xQ j.i (zB j.s))))++[[D.v (.int .i64 n),D.v (.int .i64 n_1),D.v (.int .i64 n_2),D.v (.int .i64 n_3),D.v (.int .i64 n_4),D.v (.int .i64 n_5)]]∧I i'∧μ i'<μ i_1∧AObj.own 78 6 (List.map zG (xQ i.i (zB i.s)))=AObj.own 78 6 (List.map zG (xQ i.i (zB i.s)))∧dG j i=dG j i∧AObj.fro 1 (iE j.i.p.settle)=AObj.fro 1 (iE j.i.p.settle)∧AObj.fro 1 (iE j.i.p.months)=AObj.fro 1 (iE j.i.p.months)) (∃(i':Nat),(↑i':Int)=IntKind.i64.wrap ((↑i_1:Int)+1)∧List.map zG (List.filter (fun(q:Sx.Quote) ↦ decide (j.i.p.price j.i.inst q.price=0)) (List.take i' (xQ j.i (zB j.s))))=List.map zG (List.filter (fun(q:Sx.Quote) ↦ decide (j.i.p.price j.i.inst q.price=0)) (List.take i_1 (xQ j.i (zB j.s))))∧I i'∧μ i'<μ i_1∧AObj.own 78 6 (List.map zG (xQ i.i (zB i.s)))=AObj.own 78 6 (List.map zG (xQ i.i (zB i.s)))∧dG j i=dG j i∧AObj.fro 1 (iE j.i.p.settle)=AObj.fro 1 (iE j.i.p.settle)∧AObj.fro 1 (iE j.i.p.months)=AObj.fro 1 (iE j.i.p.months))) (∃(o:Unit),List.map zG (kE j.i (zB j.s))=List.map zG (List.filter (fun(q:Sx.Quote) ↦ decide (j.i.p.price j.i.inst q.price=0)) (List.take i_1 (xQ j.i (zB j.s))))∧True)
theorem zRq (hG:GOk Tryz.prog ([(102,allC),(29,priceC)])) (h:∀(j:pA),quotesC.cnd j→zNv j):quotesC.ok Tryz.prog 65:=okw mixed hG 0 (fun _=>[]) (fun j=>z0v j) [] Tryz.func65 h
@[reducible] def bR:AObj:=Sx.AObj.cells (Sx.V.agg [V.d (D.v (.int .i64 0)),V.d (D.v (.int .i64 0)),V.d (D.v (.int .i64 0)),V.d (D.v (.int .i64 0)),V.d (D.v (.int .i64 0)),V.d (D.v (.int .i64 0))]).cl (78:Nat)
@[reducible] def tX (i:BsI):Prop:=∃(n:Int),∃(n_1:Int),∃(n_2:Int),∃(n_3:Int),∃(n_4:Int),∃(n_5:Int),zI (List.map zG i.l) (Int.toNat 0) 0 6=some [D.v (.int .i64 n),D.v (.int .i64 n_1),D.v (.int .i64 n_2),D.v (.int .i64 n_3),D.v (.int .i64 n_4),D.v (.int .i64 n_5)]∧∃(i0:Nat),(↑i0:Int)=0∧(zV (List.take (max i0 1) i.l) i.s).fst.price=n∧(zV (List.take (max i0 1) i.l) i.s).fst.qty=n_1∧(zV (List.take (max i0 1) i.l) i.s).fst.a.inst=n_2∧(zV (List.take (max i0 1) i.l) i.s).fst.a.side=n_3∧(zV (List.take (max i0 1) i.l) i.s).fst.b.inst=n_4∧(zV (List.take (max i0 1) i.l) i.s).fst.b.side=n_5∧∃(I:Nat→Prop),∃(μ:Nat→Nat),I i0∧∀(i_1:Nat),I i_1→cnd (decide ((↑i_1:Int)<(↑(List.map zG i.l).length:Int))) ((0≤(↑i_1:Int)∧(↑i_1:Int)<(↑(List.map zG i.l).length:Int))∧∃(n:Int),∃(n_6:Int),∃(n_7:Int),∃(n_8:Int),∃(n_9:Int),∃(n_10:Int),zI (List.map zG i.l) (↑i_1:Int).toNat 0 6=some [D.v (.int .i64 n),D.v (.int .i64 n_6),D.v (.int .i64 n_7),D.v (.int .i64 n_8),D.v (.int .i64 n_9),D.v (.int .i64 n_10)]∧∃(i_2:I3'),i_2.side=i.s∧i_2.x=n∧i_2.y=(zV (List.take (max i_1 1) i.l) i.s).fst.price∧True∧∀(o:Unit),True→cnd (btr i_2.side i_2.x i_2.y) (∃(i':Nat),(↑i':Int)=IntKind.i64.wrap ((↑i_1:Int)+1)∧(zV (List.take (max i' 1) i.l) i.s).fst.price=n∧(zV (List.take (max i' 1) i.l) i.s).fst.qty=n_6∧(zV (List.take (max i' 1) i.l) i.s).fst.a.inst=n_7∧(zV (List.take (max i' 1) i.l) i.s).fst.a.side=n_8∧(zV (List.take (max i' 1) i.l) i.s).fst.b.inst=n_9∧(zV (List.take (max i' 1) i.l) i.s).fst.b.side=n_10∧I i'∧μ i'<μ i_1∧bR=bR) (∃(i':Nat),(↑i':Int)=IntKind.i64.wrap ((↑i_1:Int)+1)∧(zV (List.take (max i' 1) i.l) i.s).fst.price=(zV (List.take (max i_1 1) i.l) i.s).fst.price∧(zV (List.take (max i' 1) i.l) i.s).fst.qty=(zV (List.take (max i_1 1) i.l) i.s).fst.qty∧(zV (List.take (max i' 1) i.l) i.s).fst.a.inst=(zV (List.take (max i_1 1) i.l) i.s).fst.a.inst∧(zV (List.take (max i' 1) i.l) i.s).fst.a.side=(zV (List.take (max i_1 1) i.l) i.s).fst.a.side∧(zV (List.take (max i' 1) i.l) i.s).fst.b.inst=(zV (List.take (max i_1 1) i.l) i.s).fst.b.inst∧(zV (List.take (max i' 1) i.l) i.s).fst.b.side=(zV (List.take (max i_1 1) i.l) i.s).fst.b.side∧I i'∧μ i'<μ i_1∧bR=bR)) (∃(o:Unit),(zV i.l i.s).fst.price=(zV (List.take (max i_1 1) i.l) i.s).fst.price∧(zV i.l i.s).fst.qty=(zV (List.take (max i_1 1) i.l) i.s).fst.qty∧(zV i.l i.s).fst.a.inst=(zV (List.take (max i_1 1) i.l) i.s).fst.a.inst∧(zV i.l i.s).fst.a.side=(zV (List.take (max i_1 1) i.l) i.s).fst.a.side∧(zV i.l i.s).fst.b.inst=(zV (List.take (max i_1 1) i.l) i.s).fst.b.inst∧(zV i.l i.s).fst.b.side=(zV (List.take (max i_1 1) i.l) i.s).fst.b.side∧(zV i.l i.s).snd=true∧True)
@[reducible] def sO (i:BsI):Prop:=∃(o:Unit),(zV i.l i.s).fst.price=0∧(zV i.l i.s).fst.qty=0∧(zV i.l i.s).fst.a.inst=0∧(zV i.l i.s).fst.a.side=0∧(zV i.l i.s).fst.b.inst=0∧(zV i.l i.s).fst.b.side=0∧(zV i.l i.s).snd=false∧True
def zIy (i:BsI):Prop:=
 cnd ((↑(List.map zG i.l).length:Int)==0) (sO i) (cnd (i.s !=1) (cnd (i.s !=2) (sO i) (((0:Int)≤(0:Int)∧0<(↑(List.map zG i.l).length:Int))∧tX i)) (((0:Int)≤(0:Int)∧0<(↑(List.map zG i.l).length:Int))∧tX i))
theorem z0f (hG:GOk Tryz.prog ([(101,ibetterC)])) (h:∀(i:BsI),bestQC.cnd i→zIy i):bestQC.ok Tryz.prog 64:=okw mixed hG 0 (fun _=>[]) (fun i=>z4u i) [] Tryz.func64 h
end Sx
