/- Texts of ours, one behind the other: a walk that the kernel reckons, and contracts of functions. No condition. -/
import Derived.Test.YtpgpnnncaidcjaaGreatRows
import Derived.Test.YtpgpnnncaidcjaaGreatM3
namespace Sx
set_option linter.unusedVariables false
open Go Cv Go.Proofs
theorem kp {P:Prop} (h:P:=by(repeat'(first|exact rfl|exact trivial|assumption|apply And.intro|refine fun(_:Unit) (_:True)=>?_|refine Exists.intro () ?_|omega|(dsimp only;omega)))):P:=h
theorem mixed:Tryz.prog.follows .mixedOrders=true:=by kernel_rfl
theorem okw {P:Program} {f:FuncId} {fn:Func} {C:Con} {G:List (Nat×Con)} {V:C.ι→Prop} (hm:P.follows .mixedOrders=true) (hG:GOk P G) (d:Nat) (J:C.ι→List (Nat×SAnn)) (an:C.ι→List SAnn) (op:List Nat) (hf:P.funcs[f]? =some fn) (h:∀i,C.cnd i→V i) (hb:fn.body=some (fn.body.getD .skip):=by kernel_rfl) (hbd:jB P f=true:=by kernel_rfl) (hok:okC fn.ntmps (fn.body.getD .skip)=true:=by kernel_rfl) (hsz:∀i,Nat.ble (C.pat i).length fn.ntmps=true:=by intro _;kernel_rfl) (e:∀i,V i=walk P G d (J i) (an i) op fn (fn.body.getD .skip) (C.pat i) (C.pre i) (C.alts i):=by intro _;kernel_rfl):C.ok P f:=aD hm G hG d J an op hf hb hbd hok hsz fun i hc=>Eq.mp (e i) (h i hc)
structure Lv where
 price:Int
 qty:Int
 count:Int
def lvV (l:Lv):V:= .agg [zD l.price,zD l.qty,zD l.count]
open Go Cv Go.Proofs
def sb (l:List UInt8):ByteArray:=⟨l.toArray⟩
@[reducible] def sV (l:List UInt8):V:= .d (.v (.string (sb l)))
def rY (l:List UInt8):Nat×Nat:=Utf8.decode (sb l) 0
def cE:Nat→Nat→List UInt8→List (Nat×Nat)
 |0,_,_=>[]
 |k+1,p,l=>match l with
  |[]=>[]
  |_=>(p,(rY l).1)::cE k (p+(rY l).2) (l.drop (rY l).2)
def j8 (s:List UInt8) (p:Nat):List (Nat×Nat):=cE (s.length-p) p (s.drop p)
def x6 (s:List UInt8):List Nat:=(j8 s 0).map (·.2)
def countC:Con:=con1 (List UInt8) (fun s=>[sV s]) (fun _=>[]) (fun s=>s.length≤1099511627776) (fun s=>zD (x6 s).length) (fun _=>[])
def z7o (s:List UInt8):List SAnn:=[{ι:=Nat×Nat,slots:=fun x=>[(3,zD x.2),(5,.nm 0 0)],rows:=fun x=>[.iter (sb s) x.1]}]
def jU (r:Nat):Bool:=(decide (65≤r) && decide (r≤90))||(decide (913≤r) && decide (r≤937) && decide (r≠930))
def qW (s:List UInt8):Bool:=(x6 s).all jU && decide (s≠[]) && decide ((x6 s).length≤4)
def symC:Con:=con1 (List UInt8) (fun s=>[sV s]) (fun _=>[]) (fun s=>s.length≤1099511627776) (fun s=>yJ (qW s)) (fun _=>[])
def yEi (s:List UInt8):List SAnn:=[{ι:=Nat,slots:=fun x=>[(7,.nm 0 0)],rows:=fun x=>[.iter (sb s) x]}]
def iE (l:List Int):List (List D):=l.map fun n=>[.v (.int .i64 n)]
@[reducible] def iV (l:List Int):V:=roV 1 (iE l)
structure Prd where
 code:List UInt8
 months:List Int
 tick:Int
 low:Int
 high:Int
 wide:Int
 rule:Int
 top:Int
 least:Int
 part:Int
 settle:List Int
 deriving DecidableEq
@[reducible] def Prd.cells (p:Prd):List V:=[sV p.code,iV p.months,zD p.tick,zD p.low,zD p.high,zD p.wide,zD p.rule,zD p.top,zD p.least,zD p.part,iV p.settle]
@[reducible] def prdV (p:Prd):V:= .agg p.cells
@[reducible] def Prd.small (p:Prd):Prop:=p.code.length≤1099511627776∧p.months.length≤1099511627776∧p.settle.length≤1099511627776
def xU (l:List Int) (k:Nat):Bool:=decide (0≤l.getD k 0) && decide (l.getD k 0≤1199) && (decide (k=0)||decide (l.getD (k-1) 0<l.getD k 0))
def yV (l:List Int):Bool:=(List.range l.length).all (xU l) && decide (2≤l.length) && decide (l.length≤6)
def monthsC:Con:=con1 (List Int) (fun l=>[iV l]) (fun _=>[]) (fun l=>l.length≤1099511627776) (fun l=>yJ (yV l)) (fun _=>[])
def z4n:List SAnn:=[{ι:=Nat,slots:=fun j=>[(7,zD j)],rows:=fun _=>[]}]
structure yFx where
 l:List Int
def fL (l:List Int):Int:=l.tail.foldl min (l.headD 0)
def f0 (l:List Int):Int:=l.tail.foldl max (l.headD 0)
def minC:Con:=con1 (List Int) (fun l=>[iV l]) (fun _=>[]) (fun l=>0<l.length∧l.length≤1099511627776) (fun l=>zD (fL l)) (fun _=>[])
def maxC:Con:=con1 (List Int) (fun l=>[iV l]) (fun _=>[]) (fun l=>0<l.length∧l.length≤1099511627776) (fun l=>zD (f0 l)) (fun _=>[])
def yEq (l:List Int):List SAnn:=[{ι:=Nat,slots:=fun j=>[(3,zD (fL (l.take j))),(4,zD j)],rows:=fun _=>[]}]
def yEr (l:List Int):List SAnn:=[{ι:=Nat,slots:=fun j=>[(3,zD (f0 (l.take j))),(4,zD j)],rows:=fun _=>[]}]
set_option maxRecDepth 100000
open Go Cv Go.Proofs
def zKl (s:List UInt8):Prop:=
 ∃(i0:Nat×Nat),(↑i0.snd:Int)=0∧sb s=sb s∧i0.fst=0∧∃(I:Nat×Nat→Prop),∃(μ:Nat×Nat→Nat),I i0∧∀(i:Nat×Nat),I i→cnd (i.fst.blt (sb s).size) (∃(i':Nat×Nat),(↑i'.snd:Int)=IntKind.i64.wrap ((↑i.snd:Int)+1)∧sb s=sb s∧i'.fst=i.fst+(Utf8.decode (sb s) i.fst).snd∧I i'∧μ i'<μ i∧True) (∃(o:Unit),(↑(x6 s).length:Int)=(↑i.snd:Int)∧True)
theorem z1p (hG:GOk Tryz.prog ([])) (h:∀(s:List UInt8),countC.cnd s→zKl s):countC.ok Tryz.prog 108:=okw mixed hG 0 (fun _=>[]) (fun s=>z7o s) [] Tryz.func108 h
def z8q (s:List UInt8):Prop:=
 ∃(i0:Nat),sb s=sb s∧i0=0∧∃(I:Nat→Prop),∃(μ:Nat→Nat),I i0∧∀(i:Nat),I i→cnd (i.blt (sb s).size) (cnd (decide ((↑(Utf8.decode (sb s) i).fst:Int)≥65)) (cnd (decide ((↑(Utf8.decode (sb s) i).fst:Int)≤90)) (∃(i':Nat),sb s=sb s∧i'=i+(Utf8.decode (sb s) i).snd∧I i'∧μ i'<μ i∧True) (cnd (decide ((↑(Utf8.decode (sb s) i).fst:Int)≥913)) (cnd (decide ((↑(Utf8.decode (sb s) i).fst:Int)≤937)) (cnd (!(↑(Utf8.decode (sb s) i).fst:Int) !=930) (∃(o:Unit),qW s=false∧True) (∃(i':Nat),sb s=sb s∧i'=i+(Utf8.decode (sb s) i).snd∧I i'∧μ i'<μ i∧True)) (∃(o:Unit),qW s=false∧True)) (∃(o:Unit),qW s=false∧True))) (cnd (decide ((↑(Utf8.decode (sb s) i).fst:Int)≥913)) (cnd (decide ((↑(Utf8.decode (sb s) i).fst:Int)≤937)) (cnd (!(↑(Utf8.decode (sb s) i).fst:Int) !=930) (∃(o:Unit),qW s=false∧True) (∃(i':Nat),sb s=sb s∧i'=i+(Utf8.decode (sb s) i).snd∧I i'∧μ i'<μ i∧True)) (∃(o:Unit),qW s=false∧True)) (∃(o:Unit),qW s=false∧True))) (cnd (!(sb s).toList==(ByteArray.mk #[]).toList) (∃(i:List UInt8),sb i=sb s∧i.length≤1099511627776∧∀(o:Unit),True→∃(o:Unit),qW s=decide ((↑(x6 i).length:Int)≤4)∧True) (∃(o:Unit),qW s=false∧True))
theorem yBx (hG:GOk Tryz.prog ([(108,countC)])) (h:∀(s:List UInt8),symC.cnd s→z8q s):symC.ok Tryz.prog 82:=okw mixed hG 0 (fun _=>[]) (fun s=>yEi s) [] Tryz.func82 h
def zDd (l:List Int):Prop:=
 ∃(i0:Nat),(↑i0:Int)=0∧∃(I:Nat→Prop),∃(μ:Nat→Nat),I i0∧∀(i:Nat),I i→cnd (decide ((↑i:Int)<(↑(iE l).length:Int))) ((0≤(↑i:Int)∧(↑i:Int)<(↑(iE l).length:Int))∧∃(n:Int),zH (iE l) (↑i:Int).toNat 0 1=some [D.v (.int .i64 n)]∧cnd (decide (n<0)) (∃(o:Unit),yV l=false∧True) (cnd (decide (n>1199)) (∃(o:Unit),yV l=false∧True) (cnd (decide ((↑i:Int)>0)) ((0≤IntKind.i64.wrap ((↑i:Int)-1)∧IntKind.i64.wrap ((↑i:Int)-1)<(↑(iE l).length:Int))∧∃(n_1:Int),zH (iE l) (IntKind.i64.wrap ((↑i:Int)-1)).toNat 0 1=some [D.v (.int .i64 n_1)]∧cnd (decide (n_1≥n)) (∃(o:Unit),yV l=false∧True) (∃(i':Nat),(↑i':Int)=IntKind.i64.wrap ((↑i:Int)+1)∧I i'∧μ i'<μ i∧True)) (∃(i':Nat),(↑i':Int)=IntKind.i64.wrap ((↑i:Int)+1)∧I i'∧μ i'<μ i∧True)))) (cnd (decide ((↑(iE l).length:Int)≥2)) (∃(o:Unit),yV l=decide ((↑(iE l).length:Int)≤6)∧True) (∃(o:Unit),yV l=false∧True))
theorem zXi (hG:GOk Tryz.prog ([])) (h:∀(l:List Int),monthsC.cnd l→zDd l):monthsC.ok Tryz.prog 83:=okw mixed hG 0 (fun _=>[]) (fun _=>z4n) [] Tryz.func83 h
def z7k (l:List Int):Prop:=
 cnd (decide ((↑(iE l).length:Int)<1)) False (((0:Int)≤(0:Int)∧0<(↑(iE l).length:Int))∧∃(n:Int),zH (iE l) (Int.toNat 0) 0 1=some [D.v (.int .i64 n)]∧∃(i0:Nat),fL (List.take i0 l)=n∧(↑i0:Int)=1∧∃(I:Nat→Prop),∃(μ:Nat→Nat),I i0∧∀(i:Nat),I i→cnd (decide ((↑i:Int)<(↑(iE l).length:Int))) ((0≤(↑i:Int)∧(↑i:Int)<(↑(iE l).length:Int))∧∃(n:Int),zH (iE l) (↑i:Int).toNat 0 1=some [D.v (.int .i64 n)]∧∃(i':Nat),fL (List.take i' l)=min (fL (List.take i l)) n∧(↑i':Int)=IntKind.i64.wrap ((↑i:Int)+1)∧I i'∧μ i'<μ i∧True) (∃(o:Unit),fL l=fL (List.take i l)∧True))
theorem yBu (hG:GOk Tryz.prog ([])) (h:∀(l:List Int),minC.cnd l→z7k l):minC.ok Tryz.prog 85:=okw mixed hG 0 (fun _=>[]) (fun l=>yEq l) [] Tryz.func85 h
def z7y (l:List Int):Prop:=
 cnd (decide ((↑(iE l).length:Int)<1)) False (((0:Int)≤(0:Int)∧0<(↑(iE l).length:Int))∧∃(n:Int),zH (iE l) (Int.toNat 0) 0 1=some [D.v (.int .i64 n)]∧∃(i0:Nat),f0 (List.take i0 l)=n∧(↑i0:Int)=1∧∃(I:Nat→Prop),∃(μ:Nat→Nat),I i0∧∀(i:Nat),I i→cnd (decide ((↑i:Int)<(↑(iE l).length:Int))) ((0≤(↑i:Int)∧(↑i:Int)<(↑(iE l).length:Int))∧∃(n:Int),zH (iE l) (↑i:Int).toNat 0 1=some [D.v (.int .i64 n)]∧∃(i':Nat),(f0 (List.take i' l)=if n>f0 (List.take i l)then n else f0 (List.take i l))∧(↑i':Int)=IntKind.i64.wrap ((↑i:Int)+1)∧I i'∧μ i'<μ i∧True) (∃(o:Unit),f0 l=f0 (List.take i l)∧True))
theorem yCg (hG:GOk Tryz.prog ([])) (h:∀(l:List Int),maxC.cnd l→z7y l):maxC.ok Tryz.prog 86:=okw mixed hG 0 (fun _=>[]) (fun l=>yEr l) [] Tryz.func86 h
set_option linter.unusedSimpArgs false
open Go Cv Go.Proofs
@[simp] theorem sb_size (s:List UInt8):(sb s).size=s.length:=by simp[sb,ByteArray.size]
theorem gA (s:List UInt8):(sb s).toList=s:=by rw[ByteArray.toList_eq];rfl
theorem yBl (s:List UInt8) (p k:Nat):(sb s).get! (p+k)=(sb (s.drop p)).get! (0+k):=by
 simp only[sb,ByteArray.get!,Nat.zero_add]
 simp only[List.getElem!_toArray,List.getElem!_eq_getElem?_getD,List.getElem?_drop]
theorem pP (s:List UInt8) (p:Nat):Utf8.decode (sb s) p=rY (s.drop p):=by
 have h (k:Nat):(decide (p+k<(sb s).size))=decide (0+k<(sb (s.drop p)).size):=by
  simp only[sb_size,List.length_drop]
  by_cases h:p+k<s.length
  ·rw[decide_eq_true h,decide_eq_true (by omega)]
  ·rw[decide_eq_false h,decide_eq_false (by omega)]
 unfold rY Utf8.decode
 simp only[yBl s p,h]
theorem uE (s:List UInt8) {p:Nat} (h:p<s.length):1≤(Utf8.decode (sb s) p).2∧p+(Utf8.decode (sb s) p).2≤s.length:=by
 unfold Utf8.decode
 simp only[sb_size,Bool.and_eq_true,decide_eq_true_eq]
 split
 ·exact⟨by simp,by simp;omega⟩
 split
 ·rename_i h1
  split
  ·exact⟨by simp,by simp;omega⟩
  ·exact⟨by simp,by simp;omega⟩
 split
 ·rename_i h1
  split
  ·exact⟨by simp,by simp;omega⟩
  ·exact⟨by simp,by simp;omega⟩
 split
 ·rename_i h1
  split
  ·exact⟨by simp,by simp;omega⟩
  ·exact⟨by simp,by simp;omega⟩
 ·exact⟨by simp,by simp;omega⟩
theorem z6e {l:List UInt8} (h:l≠[]):1≤(rY l).2∧(rY l).2≤l.length:=by
 have:=uE l (p:=0) (by cases l<;>simp_all)
 rw[rY];omega
theorem gS:∀(k:Nat) (p:Nat) (l:List UInt8),l.length≤k→cE k p l=cE l.length p l
 |0,p,l,h=>by
  have:l=[]:=List.eq_nil_of_length_eq_zero (by omega)
  subst this;rfl
 |k+1,p,[],h=>rfl
 |k+1,p,b::l,h=>by
  have hw:=z6e (l:=b::l) (by simp)
  have hl:((b::l).drop (rY (b::l)).2).length≤l.length:=by rw[List.length_drop,List.length_cons];omega
  rw[List.length_cons]
  simp only[cE]
  rw[gS k _ _ (by rw[List.length_cons]at h;omega),gS l.length _ _ hl]
theorem wZ {s:List UInt8} {p:Nat} (h:s.length≤p):j8 s p=[]:=by
 rw[j8,show s.length-p=0 by omega];rfl
theorem qZ {s:List UInt8} {p:Nat} (h:p<s.length):j8 s p=(p,(Utf8.decode (sb s) p).1)::j8 s (p+(Utf8.decode (sb s) p).2):=by
 obtain⟨k,hk⟩:∃k,s.length-p=k+1:=⟨s.length-p-1,by omega⟩
 have hw:=uE s h
 obtain⟨b,l,hb⟩:∃b l,s.drop p=b::l:=by
  cases hd:s.drop p with
  |nil=>rw[List.drop_eq_nil_iff]at hd;omega
  |cons b l=>exact⟨b,l,rfl⟩
 have hlen:(b::l).length=s.length-p:=by rw[← hb,List.length_drop]
 rw[j8,hk,hb,pP,hb,j8]
 rw[pP,hb]at hw
 simp only[cE]
 have e:(b::l).drop (rY (b::l)).2=s.drop (p+(rY (b::l)).2):=by rw[← hb,List.drop_drop]
 rw[e,gS k _ _ (by rw[List.length_drop];omega),List.length_drop]
theorem tT (s:List UInt8):∀(k p:Nat),s.length-p≤k→(j8 s p).length≤s.length-p
 |0,p,h=>by rw[wZ (by omega)];simp
 |k+1,p,h=>by
  by_cases hp:p<s.length
  ·have hw:=uE s hp
   rw[qZ hp,List.length_cons]
   have:=tT s k (p+(Utf8.decode (sb s) p).2) (by omega)
   omega
  ·rw[wZ (by omega)];simp
theorem nQ (s:List UInt8):(x6 s).length≤s.length:=by
 rw[x6,List.length_map]
 have:=tT s s.length 0 (by omega)
 omega
theorem zPm {a b:Nat} (h:Nat.blt a b=false):b≤a:=by
 rcases Nat.lt_or_ge a b with h1|h1
 ·rw[show Nat.blt a b=true by rw[Nat.blt_eq];exact h1]at h;cases h
 ·exact h1
theorem zTo:(ByteArray.mk #[]).toList=[]:=gA []
theorem z9h (s:List UInt8) (h:countC.cnd s):zKl s:=by
 have h:s.length≤1099511627776:=h
 have hr:=nQ s
 unfold zKl
 refine⟨(0,0),rfl,rfl,rfl,fun x=>x.1≤s.length∧x.2+(j8 s x.1).length=(x6 s).length,fun x=>s.length-x.1,⟨by omega,by rw[x6,List.length_map];simp⟩,?_⟩
 rintro⟨p,n⟩ ⟨h1,h2⟩
 dsimp only at h1 h2 ⊢
 refine Cv.cnd.mk (fun hp=> ?_) (fun hp=> ?_)
 ·have hp:p<s.length:=by simpa[Nat.blt_eq]using hp
  have hw:=uE s hp
  rw[qZ hp,List.length_cons]at h2
  refine⟨(p+(Utf8.decode (sb s) p).2,n+1),?_,rfl,rfl,⟨hw.2,by(first|omega|(dsimp only;omega))⟩,by(first|omega|(dsimp only;omega)),trivial⟩
  rw[w64 (by omega)];rfl
 ·have hp:s.length≤p:=by have:=zPm hp;simpa using this
  rw[wZ hp]at h2
  exact⟨(),by rw[← h2];rfl,trivial⟩
theorem zVw:countC.ok Tryz.prog 108:=z1p gok0 z9h
theorem yEz (s:List UInt8) (h:symC.cnd s):z8q s:=by
 have h:s.length≤1099511627776:=h
 unfold z8q
 refine⟨0,rfl,rfl,fun p=>p≤s.length∧(x6 s).all jU=(j8 s p).all fun x=>jU x.2,fun p=>s.length-p,⟨by omega,by rw[x6,List.all_map];rfl⟩,?_⟩
 rintro p ⟨h1,h2⟩
 refine Cv.cnd.mk (fun hp=> ?_) (fun hp=> ?_)
 ·have hp:p<s.length:=by simpa[Nat.blt_eq]using hp
  have hw:=uE s hp
  rw[qZ hp,List.all_cons]at h2
  generalize hc:(Utf8.decode (sb s) p).1=c at h2 ⊢
  generalize hww:(Utf8.decode (sb s) p).2=w at h2 hw ⊢
  dsimp only at h2
  have bad:jU c=false→∃(o:Unit),qW s=false∧True:=fun e=>⟨(),by rw[qW,h2,e];rfl,trivial⟩
  have good:jU c=true→∃i':Nat,sb s=sb s∧i'=p+w∧(i'≤s.length∧(x6 s).all jU=(j8 s i').all fun x=>jU x.2)∧s.length-i'<s.length-p∧True:=fun e=>⟨p+w,rfl,rfl,⟨hw.2,by rw[h2,e];rfl⟩,by omega,trivial⟩
  refine zQ (fun c1=>zQ (fun c2=> ?_) (fun c2=>zQ (fun c3=>zQ (fun c4=>Cv.cnd.mk (fun c5=> ?_) (fun c5=> ?_)) (fun c4=> ?_)) (fun c3=> ?_))) (fun c1=>zQ (fun c3=>zQ (fun c4=>Cv.cnd.mk (fun c5=> ?_) (fun c5=> ?_)) (fun c4=> ?_)) (fun c3=> ?_))
  all_goals first|(refine good ?_;simp[jU]at*;omega)|(refine bad ?_;simp[jU]at*;omega)
 ·have hp:s.length≤p:=by have:=zPm hp;simpa using this
  rw[wZ hp]at h2
  have h2:(x6 s).all jU=true:=h2
  refine Cv.cnd.mk (fun e=>⟨s,rfl,h,fun _ _=>⟨(),?_,trivial⟩⟩) (fun e=>⟨(),?_,trivial⟩)
  ·rw[gA,zTo]at e
   have:s≠[]:=by simpa using e
   rw[qW,h2,decide_eq_true this]
   simp only[Bool.true_and]
   congr 1
   simp only[eq_iff_iff];omega
  ·have:s=[]:=by
    rw[gA,zTo]at e
    simpa using e
   rw[qW,this];rfl
theorem z9n:symC.ok Tryz.prog 82:=yBx (gokc zVw gok0) yEz
@[simp] theorem yW (l:List Int):(iE l).length=l.length:=by simp[iE]
theorem elI {l:List Int} {k:Nat} {n:Int} (h:l[k]? =some n):zH (iE l) k 0 1=some [D.v (.int .i64 n)]:=by
 simp[zH,iE,h];rfl
theorem yE {α:Type} {l:List α} {i:Nat} (h:i<l.length):∃x,l[i]? =some x:=⟨l[i],List.getElem?_eq_getElem h⟩
theorem zAm {n k:Nat} {f:Nat→Bool} (hk:k<n) (h:f k=false):(List.range n).all f=false:=by
 cases hh:(List.range n).all f
 ·rfl
 ·rw[List.all_eq_true]at hh
  rw[hh k (by simpa using hk)]at h;cases h
theorem zJq {n:Nat} {f:Nat→Bool} (h:∀k<n,f k=true):(List.range n).all f=true:=by
 rw[List.all_eq_true];intro k hk;exact h k (by simpa using hk)
theorem z0y (l:List Int) (h:monthsC.cnd l):zDd l:=by
 have h:l.length≤1099511627776:=h
 unfold zDd
 simp only[yW]
 refine⟨0,rfl,fun j=>j≤l.length∧∀k<j,xU l k=true,fun j=>l.length-j,⟨by omega,fun k hk=>by omega⟩,?_⟩
 rintro j ⟨h1,h2⟩
 have bad:j<l.length→xU l j=false→∃(o:Unit),yV l=false∧True:=fun hj e=>⟨(),by rw[yV,zAm hj e];rfl,trivial⟩
 have good:j<l.length→xU l j=true→∃i':Nat,(i':Int)=IntKind.i64.wrap ((j:Int)+1)∧(i'≤l.length∧∀k<i',xU l k=true)∧l.length-i'<l.length-j∧True:=fun hj e=>⟨j+1,by rw[w64 (by omega)];rfl,⟨by omega,fun k hk=>by
  rcases Nat.lt_or_ge k j with hk'|hk'
  ·exact h2 k hk'
  ·obtain rfl:k=j:=by omega
   exact e⟩,by omega,trivial⟩
 refine zQ (fun hj=> ?_) (fun hj=> ?_)
 ·have hj:j<l.length:=by omega
  obtain⟨n,hn⟩:=yE hj
  have hg:l.getD j 0=n:=by simp[hn]
  refine⟨⟨by omega,by omega⟩,n,elI hn,zQ (fun c1=>bad hj (by simp[xU,hn];omega)) (fun c1=>zQ (fun c2=>bad hj (by simp[xU,hn];omega)) (fun c2=>zQ (fun c3=> ?_) (fun c3=>good hj ?_)))⟩
  ·have e:IntKind.i64.wrap ((j:Int)-1)=((j-1:Nat):Int):=by rw[w64 (by omega)];omega
   obtain⟨m,hm⟩:=yE (l:=l) (i:=j-1) (by omega)
   rw[e]
   refine⟨⟨by omega,by omega⟩,m,elI hm,zQ (fun c4=>bad hj ?_) (fun c4=>good hj ?_)⟩
   ·simp[xU,hn,hm];omega
   ·simp[xU,hn,hm];omega
  ·simp[xU,hn];omega
 ·have e:(List.range l.length).all (xU l)=true:=zJq fun k hk=>h2 k (by omega)
  refine zQ (fun c=>⟨(),?_,trivial⟩) (fun c=>⟨(),?_,trivial⟩)
  ·rw[yV,e,decide_eq_true (show 2≤l.length by omega)]
   simp;omega
  ·rw[yV,decide_eq_false (show ¬2≤l.length by omega)];simp
theorem zQn:monthsC.ok Tryz.prog 83:=zXi gok0 z0y
theorem nH {f:Int→Int→Int} {l:List Int} {j:Nat} {n:Int} (h:l[j+1]? =some n):(l.take (j+2)).tail.foldl f ((l.take (j+2)).headD 0)=f ((l.take (j+1)).tail.foldl f ((l.take (j+1)).headD 0)) n:=by
 cases l with
 |nil=>simp at h
 |cons a l=>
  simp only[List.getElem?_cons_succ]at h
  simp only[List.take_succ_cons,List.tail_cons,List.headD_cons]
  rw[List.take_add_one,h,List.foldl_append];rfl
theorem zFy {l:List Int} {n:Int} (h:l[0]? =some n) (f:Int→Int→Int):(l.take 1).tail.foldl f ((l.take 1).headD 0)=n:=by
 cases l with
 |nil=>simp at h
 |cons a l=>simpa using h
theorem yFn (l:List Int) (h:minC.cnd l):z7k l:=by
 obtain⟨h0,h⟩:0<l.length∧l.length≤1099511627776:=h
 unfold z7k
 simp only[yW]
 obtain⟨n,hn⟩:=yE h0
 refine zQ (fun c=>by omega) (fun c=>⟨⟨by omega,by omega⟩,n,elI hn,1,zFy hn min,rfl,fun j=>1≤j∧j≤l.length,fun j=>l.length-j,⟨by omega,by omega⟩,?_⟩)
 rintro j ⟨h1,h2⟩
 refine zQ (fun hj=> ?_) (fun hj=>⟨(),?_,trivial⟩)
 ·obtain⟨m,hm⟩:=yE (l:=l) (i:=j) (by omega)
  refine⟨⟨by omega,by omega⟩,m,elI hm,j+1,?_,?_,⟨by omega,by omega⟩,by(first|omega|(dsimp only;omega)),trivial⟩
  ·obtain⟨k,rfl⟩:∃k,j=k+1:=⟨j-1,by omega⟩
   first
    |(rw[fL,nH hm,← fL];done)
    |(rw[fL,nH hm,← fL];generalize fL (l.take (k+1))=x;split<;>omega)
  ·rw[w64 (by omega)];rfl
 ·rw[List.take_of_length_le (by omega)]
theorem yBj:minC.ok Tryz.prog 85:=yBu gok0 yFn
theorem yEf (l:List Int) (h:maxC.cnd l):z7y l:=by
 obtain⟨h0,h⟩:0<l.length∧l.length≤1099511627776:=h
 unfold z7y
 simp only[yW]
 obtain⟨n,hn⟩:=yE h0
 refine zQ (fun c=>by omega) (fun c=>⟨⟨by omega,by omega⟩,n,elI hn,1,zFy hn max,rfl,fun j=>1≤j∧j≤l.length,fun j=>l.length-j,⟨by omega,by omega⟩,?_⟩)
 rintro j ⟨h1,h2⟩
 refine zQ (fun hj=> ?_) (fun hj=>⟨(),?_,trivial⟩)
 ·obtain⟨m,hm⟩:=yE (l:=l) (i:=j) (by omega)
  refine⟨⟨by omega,by omega⟩,m,elI hm,j+1,?_,?_,⟨by omega,by omega⟩,by(first|omega|(dsimp only;omega)),trivial⟩
  ·obtain⟨k,rfl⟩:∃k,j=k+1:=⟨j-1,by omega⟩
   rw[f0,nH hm,← f0]
   generalize f0 (l.take (k+1))=x
   split<;>omega
  ·rw[w64 (by omega)];rfl
 ·rw[List.take_of_length_le (by omega)]
theorem yBe:maxC.ok Tryz.prog 86:=yCg gok0 yEf
open Go Cv Go.Proofs
@[reducible] def Prd.row (p:Prd):AObj:= .cells p.cells 29
structure zGt where
 p:Prd
 n:Int
structure rP where
 p:Prd
 l:List Int
def xR (t n:Int):Bool:=n.tmod t !=0
def offC:Con:=con1 zGt (fun i=>[zD i.n,.nm 0 0]) (fun i=>[i.p.row]) (fun i=>1≤i.p.tick) (fun i=>yJ (xR i.p.tick i.n)) (fun i=>[i.p.row])
@[reducible] def yDw:V:= .fn 109 [] [.nm 0 0]
def pQ (k:Option Nat):Int:=match k with
 |some k=>k
 |none=> -1
def idxC:Con:=con1 rP (fun i=>[iV i.l,yDw]) (fun i=>[i.p.row]) (fun i=>1≤i.p.tick∧i.l.length≤1099511627776) (fun i=>zD (pQ (i.l.findIdx? (xR i.p.tick)))) (fun i=>[i.p.row])
def yFj (i:rP):List SAnn:=[{ι:=Nat,slots:=fun j=>[(8,zD j)],rows:=fun _=>[]}]
def containsC:Con:=con1 rP (fun i=>[iV i.l,yDw]) (fun i=>[i.p.row]) (fun i=>1≤i.p.tick∧i.l.length≤1099511627776) (fun i=>yJ (i.l.any (xR i.p.tick))) (fun i=>[i.p.row])
def xO (p:Prd):Bool:=decide (1≤p.tick) && decide (p.tick≤1000) && !xR p.tick p.low && !xR p.tick p.high && !xR p.tick p.wide && !p.settle.any (xR p.tick)
def ticksC:Con:=con1 Prd (fun p=>[prdV p]) (fun _=>[]) Prd.small (fun p=>yJ (xO p)) (fun _=>[])
def xP (p:Prd):Bool:=decide (p.low< -1000000)||decide (p.low≥p.high)||decide (p.high>1000000)||decide (p.wide<0)||decide (p.wide>p.high-p.low)
def yY (p:Prd):Bool:=decide (p.settle.length≠p.months.length)||decide (fL p.settle<p.low)||decide (f0 p.settle>p.high)
def xY (p:Prd):Bool:=decide (p.rule<1)||decide (p.rule>3)
def xB (p:Prd):Bool:=decide (p.top<0)||decide (p.top>1000000)||decide (p.least<1)||decide (p.least>1000)||decide (p.part<0)||decide (p.part>100)
def Prd.check (p:Prd):Int:=
 if !qW p.code then 12 else if !yV p.months then 1 else if !xO p then 22 else if xP p then 23 else if yY p then 1 else if xY p then 31 else if xB p then 24 else 0
def checkC:Con:=con1 Prd (fun p=>[prdV p]) (fun _=>[]) Prd.small (fun p=>zD p.check) (fun _=>[])
def Prd.count (p:Prd):Nat:=if p.check=0 then p.months.length+p.months.length*(p.months.length-1) / 2 else 0
def pcountC:Con:=con1 Prd (fun p=>[prdV p]) (fun _=>[]) Prd.small (fun p=>zD p.count) (fun _=>[])
structure vU where
 p:Prd
 n:Int
def z7 (n:Nat):Nat→Nat
 |0=>n
 |k+1=>z7 n k+(n-1-k)
def x4 (n inst:Nat):Nat→Nat→Int×Int×Bool
 |0,_=>(0,0,false)
 |k+1,m=>if inst<z7 n m+(n-1-m)then(m,m+1+(inst-z7 n m:Nat),true)else x4 n inst k (m+1)
def Prd.legs (p:Prd) (i:Int):Int×Int×Bool:=
 if i<0∨(p.count:Int)≤i then(0,0,false)else if i<p.months.length then(i,i,false)else x4 p.months.length i.toNat p.months.length 0
def legsC:Con:=con1 vU (fun i=>[prdV i.p,zD i.n]) (fun _=>[]) (fun i=>i.p.small) (fun i=> .tup [zD (i.p.legs i.n).1,zD (i.p.legs i.n).2.1,yJ (i.p.legs i.n).2.2]) (fun _=>[])
structure fH where
 p:Prd
 a:Int
 b:Int
def Prd.spread (p:Prd) (a b:Int):Int×Bool:=
 if p.check≠0∨a<0∨b≤a∨(p.months.length:Int)≤b then(0,false)else((z7 p.months.length a.toNat:Int)+b-a-1,true)
def spreadC:Con:=con1 fH (fun i=>[prdV i.p,zD i.a,zD i.b]) (fun _=>[]) (fun i=>i.p.small) (fun i=> .tup [zD (i.p.spread i.a i.b).1,yJ (i.p.spread i.a i.b).2]) (fun _=>[])
def Prd.price (p:Prd) (i n:Int):Int:=
 if p.count=0 then 1 else if i<0∨(p.count:Int)≤i then 20 else if xR p.tick n then 22 else
 if n<(if(p.months.length:Int)≤i then-p.wide else p.low)∨(if(p.months.length:Int)≤i then p.wide else p.high)<n then 23 else 0
def priceC:Con:=con1 fH (fun i=>[prdV i.p,zD i.a,zD i.b]) (fun _=>[]) (fun i=>i.p.small) (fun i=>zD (i.p.price i.a i.b)) (fun _=>[])
structure I2 where
 x:Int
 y:Int
@[reducible] def yL (n:Int):Prop:= -9223372036854775808≤n∧n≤9223372036854775807
def jJ (x y:Int):Int×Bool:=if yL (x+y)then(x+y,true)else(0,false)
def jE (x y:Int):Int×Bool:=if yL (x-y)then(x-y,true)else(0,false)
def addC:Con:=con1 I2 (fun i=>[zD i.x,zD i.y]) (fun _=>[]) (fun i=>yL i.x∧yL i.y) (fun i=> .tup [zD (jJ i.x i.y).1,yJ (jJ i.x i.y).2]) (fun _=>[])
def subC:Con:=con1 I2 (fun i=>[zD i.x,zD i.y]) (fun _=>[]) (fun i=>yL i.x∧yL i.y) (fun i=> .tup [zD (jE i.x i.y).1,yJ (jE i.x i.y).2]) (fun _=>[])
def yDn (i:vU):List SAnn:=[{ι:=Nat,slots:=fun m=>[(8,zD (z7 i.p.months.length m)),(33,zD m)],rows:=fun _=>[]}]
def z4j (i:fH):List SAnn:=[{ι:=Nat,slots:=fun m=>[(9,zD (z7 i.p.months.length m)),(33,zD m)],rows:=fun _=>[]}]
open Go Cv Go.Proofs
def yBg (i:zGt):Prop:=
 IntKind.i64=IntKind.i64∧i.p.tick≠0∧∃(o:Unit),xR i.p.tick i.n=(i.n.tmod i.p.tick !=0)∧sb i.p.code=sb i.p.code∧iE i.p.months=iE i.p.months∧i.p.tick=i.p.tick∧i.p.low=i.p.low∧i.p.high=i.p.high∧i.p.wide=i.p.wide∧i.p.rule=i.p.rule∧i.p.top=i.p.top∧i.p.least=i.p.least∧i.p.part=i.p.part∧iE i.p.settle=iE i.p.settle∧True
theorem yBr (hG:GOk Tryz.prog ([])) (h:∀(i:zGt),offC.cnd i→yBg i):offC.ok Tryz.prog 109:=okw mixed hG 0 (fun _=>[]) (fun _=>[]) [] Tryz.func109 h
def z7u (i:rP):Prop:=
 ∃(i0:Nat),(↑i0:Int)=0∧∃(I:Nat→Prop),∃(μ:Nat→Nat),I i0∧∀(i_1:Nat),I i_1→cnd (decide ((↑i_1:Int)<(↑(iE i.l).length:Int))) ((0≤(↑i_1:Int)∧(↑i_1:Int)<(↑(iE i.l).length:Int))∧∃(n:Int),zH (iE i.l) (↑i_1:Int).toNat 0 1=some [D.v (.int .i64 n)]∧∃(i_2:zGt),i_2.n=n∧sb i_2.p.code=sb i.p.code∧iE i_2.p.months=iE i.p.months∧i_2.p.tick=i.p.tick∧i_2.p.low=i.p.low∧i_2.p.high=i.p.high∧i_2.p.wide=i.p.wide∧i_2.p.rule=i.p.rule∧i_2.p.top=i.p.top∧i_2.p.least=i.p.least∧i_2.p.part=i.p.part∧iE i_2.p.settle=iE i.p.settle∧1≤i_2.p.tick∧∀(o:Unit),True→cnd (xR i_2.p.tick i_2.n) (∃(o:Unit),pQ (List.findIdx? (xR i.p.tick) i.l)=(↑i_1:Int)∧sb i.p.code=sb i_2.p.code∧iE i.p.months=iE i_2.p.months∧i.p.tick=i_2.p.tick∧i.p.low=i_2.p.low∧i.p.high=i_2.p.high∧i.p.wide=i_2.p.wide∧i.p.rule=i_2.p.rule∧i.p.top=i_2.p.top∧i.p.least=i_2.p.least∧i.p.part=i_2.p.part∧iE i.p.settle=iE i_2.p.settle∧True) (∃(i':Nat),(↑i':Int)=IntKind.i64.wrap ((↑i_1:Int)+1)∧I i'∧μ i'<μ i_1∧Sx.AObj.cells (uM (uX 1 ((1:Nat)+(0:Nat)) ((1:Nat)-(1:Nat)) [((0:Nat),(0:Nat))]) i_2.p.cells) (29:TypeId)=i.p.row)) (∃(o:Unit),pQ (List.findIdx? (xR i.p.tick) i.l)=(-1)∧sb i.p.code=sb i.p.code∧iE i.p.months=iE i.p.months∧i.p.tick=i.p.tick∧i.p.low=i.p.low∧i.p.high=i.p.high∧i.p.wide=i.p.wide∧i.p.rule=i.p.rule∧i.p.top=i.p.top∧i.p.least=i.p.least∧i.p.part=i.p.part∧iE i.p.settle=iE i.p.settle∧True)
theorem yCw (hG:GOk Tryz.prog ([(109,offC)])) (h:∀(i:rP),idxC.cnd i→z7u i):idxC.ok Tryz.prog 125:=okw mixed hG 0 (fun _=>[]) (fun i=>yFj i) [] Tryz.func125 h
def zCg (i:rP):Prop:=
 ∃(i_1:rP),iE i_1.l=iE i.l∧sb i_1.p.code=sb i.p.code∧iE i_1.p.months=iE i.p.months∧i_1.p.tick=i.p.tick∧i_1.p.low=i.p.low∧i_1.p.high=i.p.high∧i_1.p.wide=i.p.wide∧i_1.p.rule=i.p.rule∧i_1.p.top=i.p.top∧i_1.p.least=i.p.least∧i_1.p.part=i.p.part∧iE i_1.p.settle=iE i.p.settle∧(1≤i_1.p.tick∧i_1.l.length≤1099511627776)∧∀(o:Unit),True→∃(o:Unit),i.l.any (xR i.p.tick)=decide (pQ (List.findIdx? (xR i_1.p.tick) i_1.l)≥0)∧sb i.p.code=sb i_1.p.code∧iE i.p.months=iE i_1.p.months∧i.p.tick=i_1.p.tick∧i.p.low=i_1.p.low∧i.p.high=i_1.p.high∧i.p.wide=i_1.p.wide∧i.p.rule=i_1.p.rule∧i.p.top=i_1.p.top∧i.p.least=i_1.p.least∧i.p.part=i_1.p.part∧iE i.p.settle=iE i_1.p.settle∧True
theorem zMf (hG:GOk Tryz.prog ([(125,idxC)])) (h:∀(i:rP),containsC.cnd i→zCg i):containsC.ok Tryz.prog 110:=okw mixed hG 0 (fun _=>[]) (fun _=>[]) [] Tryz.func110 h
def zLw (p:Prd):Prop:=
 cnd (decide (p.tick<1)) (∃(o:Unit),xO p=false∧True) (cnd (decide (p.tick>1000)) (∃(o:Unit),xO p=false∧True) (∃(i:zGt),i.n=p.low∧sb i.p.code=sb p.code∧iE i.p.months=iE p.months∧i.p.tick=p.tick∧i.p.low=p.low∧i.p.high=p.high∧i.p.wide=p.wide∧i.p.rule=p.rule∧i.p.top=p.top∧i.p.least=p.least∧i.p.part=p.part∧iE i.p.settle=iE p.settle∧1≤i.p.tick∧∀(o:Unit),True→cnd (!xR i.p.tick i.n) (∃(i_1:zGt),i_1.n=i.p.high∧sb i_1.p.code=sb i.p.code∧iE i_1.p.months=iE i.p.months∧i_1.p.tick=i.p.tick∧i_1.p.low=i.p.low∧i_1.p.high=i.p.high∧i_1.p.wide=i.p.wide∧i_1.p.rule=i.p.rule∧i_1.p.top=i.p.top∧i_1.p.least=i.p.least∧i_1.p.part=i.p.part∧iE i_1.p.settle=iE i.p.settle∧1≤i_1.p.tick∧∀(o:Unit),True→cnd (!xR i_1.p.tick i_1.n) (∃(i:zGt),i.n=i_1.p.wide∧sb i.p.code=sb i_1.p.code∧iE i.p.months=iE i_1.p.months∧i.p.tick=i_1.p.tick∧i.p.low=i_1.p.low∧i.p.high=i_1.p.high∧i.p.wide=i_1.p.wide∧i.p.rule=i_1.p.rule∧i.p.top=i_1.p.top∧i.p.least=i_1.p.least∧i.p.part=i_1.p.part∧iE i.p.settle=iE i_1.p.settle∧1≤i.p.tick∧∀(o:Unit),True→cnd (!xR i.p.tick i.n) (∃(i_2:rP),iE i_2.l=iE i.p.settle∧sb i_2.p.code=sb i.p.code∧iE i_2.p.months=iE i.p.months∧i_2.p.tick=i.p.tick∧i_2.p.low=i.p.low∧i_2.p.high=i.p.high∧i_2.p.wide=i.p.wide∧i_2.p.rule=i.p.rule∧i_2.p.top=i.p.top∧i_2.p.least=i.p.least∧i_2.p.part=i.p.part∧iE i_2.p.settle=iE i.p.settle∧(1≤i_2.p.tick∧i_2.l.length≤1099511627776)∧∀(o:Unit),True→∃(o:Unit),xO p=!i_2.l.any (xR i_2.p.tick)∧True) (∃(o:Unit),xO p=false∧True)) (∃(o:Unit),xO p=false∧True)) (∃(o:Unit),xO p=false∧True)))
theorem z2b (hG:GOk Tryz.prog ([(109,offC),(110,containsC)])) (h:∀(p:Prd),ticksC.cnd p→zLw p):ticksC.ok Tryz.prog 84:=okw mixed hG 0 (fun _=>[]) (fun _=>[]) [] Tryz.func84 h
def zLa (p:Prd):Prop:=
 ∃(i:List UInt8),sb i=sb p.code∧i.length≤1099511627776∧∀(o:Unit),True→cnd (!qW i) (∃(o:Unit),p.check=12∧True) (∃(i:List Int),iE i=iE p.months∧i.length≤1099511627776∧∀(o:Unit),True→cnd (!yV i) (∃(o:Unit),p.check=1∧True) (∃(i:Prd),sb i.code=sb p.code∧iE i.months=iE p.months∧i.tick=p.tick∧i.low=p.low∧i.high=p.high∧i.wide=p.wide∧i.rule=p.rule∧i.top=p.top∧i.least=p.least∧i.part=p.part∧iE i.settle=iE p.settle∧(i.code.length≤1099511627776∧i.months.length≤1099511627776∧i.settle.length≤1099511627776)∧∀(o:Unit),True→cnd (!xO i) (∃(o:Unit),p.check=22∧True) (cnd (decide (p.low<(-1000000))) (∃(o:Unit),p.check=23∧True) (cnd (decide (p.low≥p.high)) (∃(o:Unit),p.check=23∧True) (cnd (decide (p.high>1000000)) (∃(o:Unit),p.check=23∧True) (cnd (decide (p.wide<0)) (∃(o:Unit),p.check=23∧True) (cnd (decide (p.wide>IntKind.i64.wrap (p.high-p.low))) (∃(o:Unit),p.check=23∧True) (cnd ((↑(iE p.settle).length:Int) !=(↑(iE p.months).length:Int)) (∃(o:Unit),p.check=1∧True) (∃(i:List Int),iE i=iE p.settle∧(0<i.length∧i.length≤1099511627776)∧∀(o:Unit),True→p.low=p.low∧cnd (decide (fL i<p.low)) (∃(o:Unit),p.check=1∧True) (∃(i:List Int),iE i=iE p.settle∧(0<i.length∧i.length≤1099511627776)∧∀(o:Unit),True→p.high=p.high∧cnd (decide (f0 i>p.high)) (∃(o:Unit),p.check=1∧True) (cnd (decide (p.rule<1)) (∃(o:Unit),p.check=31∧True) (cnd (decide (p.rule>3)) (∃(o:Unit),p.check=31∧True) (cnd (decide (p.top<0)) (∃(o:Unit),p.check=24∧True) (cnd (decide (p.top>1000000)) (∃(o:Unit),p.check=24∧True) (cnd (decide (p.least<1)) (∃(o:Unit),p.check=24∧True) (cnd (decide (p.least>1000)) (∃(o:Unit),p.check=24∧True) (cnd (decide (p.part<0)) (∃(o:Unit),p.check=24∧True) (cnd (decide (p.part>100)) (∃(o:Unit),p.check=24∧True) (∃(o:Unit),p.check=0∧True)))))))))))))))))))
theorem z0h (hG:GOk Tryz.prog ([(82,symC),(83,monthsC),(84,ticksC),(85,minC),(86,maxC)])) (h:∀(p:Prd),checkC.cnd p→zLa p):checkC.ok Tryz.prog 50:=okw mixed hG 0 (fun _=>[]) (fun _=>[]) [] Tryz.func50 h
def zOi (p:Prd):Prop:=
 ∃(i:Prd),sb i.code=sb p.code∧iE i.months=iE p.months∧i.tick=p.tick∧i.low=p.low∧i.high=p.high∧i.wide=p.wide∧i.rule=p.rule∧i.top=p.top∧i.least=p.least∧i.part=p.part∧iE i.settle=iE p.settle∧(i.code.length≤1099511627776∧i.months.length≤1099511627776∧i.settle.length≤1099511627776)∧∀(o:Unit),True→cnd (i.check !=0) (∃(o:Unit),(↑p.count:Int)=0∧True) (IntKind.i64=IntKind.i64∧(2:Int)≠(0:Int)∧∃(o:Unit),(↑p.count:Int)=IntKind.i64.wrap ((↑(iE p.months).length:Int)+IntKind.i64.wrap ((IntKind.i64.wrap ((↑(iE p.months).length:Int)*IntKind.i64.wrap ((↑(iE p.months).length:Int)-1))).tdiv 2))∧True)
theorem zUm (hG:GOk Tryz.prog ([(50,checkC)])) (h:∀(p:Prd),pcountC.cnd p→zOi p):pcountC.ok Tryz.prog 24:=okw mixed hG 0 (fun _=>[]) (fun _=>[]) [] Tryz.func24 h
@[reducible] def zPl (i:vU):AObj:=Sx.AObj.cells [V.d (D.v (Value.string (sb i.p.code))),V.own (0:Nat),V.d (D.v (.int .i64 i.p.tick)),V.d (D.v (.int .i64 i.p.low)),V.d (D.v (.int .i64 i.p.high)),V.d (D.v (.int .i64 i.p.wide)),V.d (D.v (.int .i64 i.p.rule)),V.d (D.v (.int .i64 i.p.top)),V.d (D.v (.int .i64 i.p.least)),V.d (D.v (.int .i64 i.p.part)),V.own ((0:Nat)+(1:Nat))] (29:Nat)
def z5j (i:vU):Prop:=
 ∃(i_1:Prd),sb i_1.code=sb i.p.code∧iE i_1.months=iE i.p.months∧i_1.tick=i.p.tick∧i_1.low=i.p.low∧i_1.high=i.p.high∧i_1.wide=i.p.wide∧i_1.rule=i.p.rule∧i_1.top=i.p.top∧i_1.least=i.p.least∧i_1.part=i.p.part∧iE i_1.settle=iE i.p.settle∧(i_1.code.length≤1099511627776∧i_1.months.length≤1099511627776∧i_1.settle.length≤1099511627776)∧∀(o:Unit),True→cnd (decide (i.n<0)) (∃(o:Unit),(i.p.legs i.n).fst=0∧(i.p.legs i.n).snd.fst=0∧(i.p.legs i.n).snd.snd=false∧True) (cnd (decide (i.n≥(↑i_1.count:Int))) (∃(o:Unit),(i.p.legs i.n).fst=0∧(i.p.legs i.n).snd.fst=0∧(i.p.legs i.n).snd.snd=false∧True) (cnd (decide (i.n<(↑(iE i.p.months).length:Int))) (∃(o:Unit),(i.p.legs i.n).fst=i.n∧(i.p.legs i.n).snd.fst=i.n∧(i.p.legs i.n).snd.snd=false∧True) (∃(i0:Nat),(↑(z7 i.p.months.length i0):Int)=(↑(iE i.p.months).length:Int)∧(↑i0:Int)=0∧∃(I:Nat→Prop),∃(μ:Nat→Nat),I i0∧∀(i_2:Nat),I i_2→cnd (decide ((↑i_2:Int)<(↑(iE i.p.months).length:Int))) (cnd (decide (i.n<IntKind.i64.wrap ((↑(z7 i.p.months.length i_2):Int)+IntKind.i64.wrap (IntKind.i64.wrap ((↑(iE i.p.months).length:Int)-1)-(↑i_2:Int))))) (∃(o:Unit),(i.p.legs i.n).fst=(↑i_2:Int)∧(i.p.legs i.n).snd.fst=IntKind.i64.wrap (IntKind.i64.wrap (IntKind.i64.wrap ((↑i_2:Int)+1)+i.n)-(↑(z7 i.p.months.length i_2):Int))∧(i.p.legs i.n).snd.snd=true∧True) (∃(i':Nat),(↑(z7 i.p.months.length i'):Int)=IntKind.i64.wrap ((↑(z7 i.p.months.length i_2):Int)+IntKind.i64.wrap (IntKind.i64.wrap ((↑(iE i.p.months).length:Int)-1)-(↑i_2:Int)))∧(↑i':Int)=IntKind.i64.wrap ((↑i_2:Int)+1)∧I i'∧μ i'<μ i_2∧zPl i=zPl i∧AObj.fro 1 (iE i.p.settle)=AObj.fro 1 (iE i.p.settle)∧AObj.fro 1 (iE i.p.months)=AObj.fro 1 (iE i.p.months))) (∃(o:Unit),(i.p.legs i.n).fst=0∧(i.p.legs i.n).snd.fst=0∧(i.p.legs i.n).snd.snd=false∧True))))
theorem z9r (hG:GOk Tryz.prog ([(24,pcountC)])) (h:∀(i:vU),legsC.cnd i→z5j i):legsC.ok Tryz.prog 51:=okw mixed hG 0 (fun _=>[]) (fun i=>yDn i) [] Tryz.func51 h
@[reducible] def zCa (i:fH):AObj:=Sx.AObj.cells [V.d (D.v (Value.string (sb i.p.code))),V.own (0:Nat),V.d (D.v (.int .i64 i.p.tick)),V.d (D.v (.int .i64 i.p.low)),V.d (D.v (.int .i64 i.p.high)),V.d (D.v (.int .i64 i.p.wide)),V.d (D.v (.int .i64 i.p.rule)),V.d (D.v (.int .i64 i.p.top)),V.d (D.v (.int .i64 i.p.least)),V.d (D.v (.int .i64 i.p.part)),V.own ((0:Nat)+(1:Nat))] (29:Nat)
def zOj (i:fH):Prop:=
 ∃(i_1:Prd),sb i_1.code=sb i.p.code∧iE i_1.months=iE i.p.months∧i_1.tick=i.p.tick∧i_1.low=i.p.low∧i_1.high=i.p.high∧i_1.wide=i.p.wide∧i_1.rule=i.p.rule∧i_1.top=i.p.top∧i_1.least=i.p.least∧i_1.part=i.p.part∧iE i_1.settle=iE i.p.settle∧(i_1.code.length≤1099511627776∧i_1.months.length≤1099511627776∧i_1.settle.length≤1099511627776)∧∀(o:Unit),True→cnd (i_1.check !=0) (∃(o:Unit),(i.p.spread i.a i.b).fst=0∧(i.p.spread i.a i.b).snd=false∧True) (cnd (decide (i.a<0)) (∃(o:Unit),(i.p.spread i.a i.b).fst=0∧(i.p.spread i.a i.b).snd=false∧True) (cnd (decide (i.a≥i.b)) (∃(o:Unit),(i.p.spread i.a i.b).fst=0∧(i.p.spread i.a i.b).snd=false∧True) (cnd (decide (i.b≥(↑(iE i.p.months).length:Int))) (∃(o:Unit),(i.p.spread i.a i.b).fst=0∧(i.p.spread i.a i.b).snd=false∧True) (∃(i0:Nat),(↑(z7 i.p.months.length i0):Int)=(↑(iE i.p.months).length:Int)∧(↑i0:Int)=0∧∃(I:Nat→Prop),∃(μ:Nat→Nat),I i0∧∀(i_2:Nat),I i_2→cnd (decide ((↑i_2:Int)<i.a)) (∃(i':Nat),(↑(z7 i.p.months.length i'):Int)=IntKind.i64.wrap ((↑(z7 i.p.months.length i_2):Int)+IntKind.i64.wrap (IntKind.i64.wrap ((↑(iE i.p.months).length:Int)-1)-(↑i_2:Int)))∧(↑i':Int)=IntKind.i64.wrap ((↑i_2:Int)+1)∧I i'∧μ i'<μ i_2∧zCa i=zCa i∧AObj.fro 1 (iE i.p.settle)=AObj.fro 1 (iE i.p.settle)∧AObj.fro 1 (iE i.p.months)=AObj.fro 1 (iE i.p.months)) (∃(o:Unit),(i.p.spread i.a i.b).fst=IntKind.i64.wrap (IntKind.i64.wrap (IntKind.i64.wrap ((↑(z7 i.p.months.length i_2):Int)+i.b)-i.a)-1)∧(i.p.spread i.a i.b).snd=true∧True)))))
theorem zWy (hG:GOk Tryz.prog ([(50,checkC)])) (h:∀(i:fH),spreadC.cnd i→zOj i):spreadC.ok Tryz.prog 54:=okw mixed hG 0 (fun _=>[]) (fun i=>z4j i) [] Tryz.func54 h
def zWf (i:fH):Prop:=
 ∃(i_1:Prd),sb i_1.code=sb i.p.code∧iE i_1.months=iE i.p.months∧i_1.tick=i.p.tick∧i_1.low=i.p.low∧i_1.high=i.p.high∧i_1.wide=i.p.wide∧i_1.rule=i.p.rule∧i_1.top=i.p.top∧i_1.least=i.p.least∧i_1.part=i.p.part∧iE i_1.settle=iE i.p.settle∧(i_1.code.length≤1099511627776∧i_1.months.length≤1099511627776∧i_1.settle.length≤1099511627776)∧∀(o:Unit),True→cnd ((↑i_1.count:Int)==0) (∃(o:Unit),i.p.price i.a i.b=1∧True) (cnd (decide (i.a<0)) (∃(o:Unit),i.p.price i.a i.b=20∧True) (cnd (decide (i.a≥(↑i_1.count:Int))) (∃(o:Unit),i.p.price i.a i.b=20∧True) (IntKind.i64=IntKind.i64∧i.p.tick≠0∧cnd (i.b.tmod i.p.tick !=0) (∃(o:Unit),i.p.price i.a i.b=22∧True) (cnd (decide (i.a≥(↑(iE i.p.months).length:Int))) (cnd (decide (i.b<IntKind.i64.wrap (0-i.p.wide))) (∃(o:Unit),i.p.price i.a i.b=23∧True) (cnd (decide (i.b>i.p.wide)) (∃(o:Unit),i.p.price i.a i.b=23∧True) (∃(o:Unit),i.p.price i.a i.b=0∧True))) (cnd (decide (i.b<i.p.low)) (∃(o:Unit),i.p.price i.a i.b=23∧True) (cnd (decide (i.b>i.p.high)) (∃(o:Unit),i.p.price i.a i.b=23∧True) (∃(o:Unit),i.p.price i.a i.b=0∧True)))))))
theorem z2a (hG:GOk Tryz.prog ([(24,pcountC)])) (h:∀(i:fH),priceC.cnd i→zWf i):priceC.ok Tryz.prog 72:=okw mixed hG 0 (fun _=>[]) (fun _=>[]) [] Tryz.func72 h
def z9b (i:I2):Prop:=
 cnd (decide (i.x<0)==decide (i.y<0)) (cnd (!decide (IntKind.i64.wrap (i.x+i.y)<0)==decide (i.x<0)) (∃(o:Unit),(jJ i.x i.y).fst=0∧(jJ i.x i.y).snd=false∧True) (∃(o:Unit),(jJ i.x i.y).fst=IntKind.i64.wrap (i.x+i.y)∧(jJ i.x i.y).snd=true∧True)) (∃(o:Unit),(jJ i.x i.y).fst=IntKind.i64.wrap (i.x+i.y)∧(jJ i.x i.y).snd=true∧True)
theorem yBy (hG:GOk Tryz.prog ([])) (h:∀(i:I2),addC.cnd i→z9b i):addC.ok Tryz.prog 87:=okw mixed hG 0 (fun _=>[]) (fun _=>[]) [] Tryz.func87 h
def z5y (i:I2):Prop:=
 cnd (!decide (i.x<0)==decide (i.y<0)) (cnd (!decide (IntKind.i64.wrap (i.x-i.y)<0)==decide (i.x<0)) (∃(o:Unit),(jE i.x i.y).fst=0∧(jE i.x i.y).snd=false∧True) (∃(o:Unit),(jE i.x i.y).fst=IntKind.i64.wrap (i.x-i.y)∧(jE i.x i.y).snd=true∧True)) (∃(o:Unit),(jE i.x i.y).fst=IntKind.i64.wrap (i.x-i.y)∧(jE i.x i.y).snd=true∧True)
theorem yEa (hG:GOk Tryz.prog ([])) (h:∀(i:I2),subC.cnd i→z5y i):subC.ok Tryz.prog 88:=okw mixed hG 0 (fun _=>[]) (fun _=>[]) [] Tryz.func88 h
open Go Cv Go.Proofs
theorem yEo (i:zGt) (h:offC.cnd i):yBg i:=by
 have h:1≤i.p.tick:=h
 unfold yBg;exact kp
theorem zVg:offC.ok Tryz.prog 109:=yBr gok0 yEo
theorem nR {α:Type} {f:α→Bool} {l:List α} (h:∀(k:Nat) (x:α),l[k]? =some x→f x=false):l.findIdx? f=none:=by
 rw[List.findIdx?_eq_none_iff]
 intro x hx
 obtain⟨k,hk⟩:=List.getElem?_of_mem hx
 exact h k x hk
theorem nC {α:Type} {f:α→Bool} {l:List α} {j:Nat} {x:α} (h1:l[j]? =some x) (h2:f x=true) (h:∀k<j,∀x:α,l[k]? =some x→f x=false):l.findIdx? f=some j:=by
 rw[List.findIdx?_eq_some_iff_getElem]
 obtain⟨hj,rfl⟩:=List.getElem?_eq_some_iff.1 h1
 exact⟨hj,h2,fun k hk=>by rw[h k hk _ (List.getElem?_eq_getElem (by omega))];simp⟩
theorem yFm (i:rP) (h:idxC.cnd i):z7u i:=by
 obtain⟨h1,h2⟩:1≤i.p.tick∧i.l.length≤1099511627776:=h
 unfold z7u
 simp only[yW]
 refine⟨0,rfl,fun j=>j≤i.l.length∧∀k<j,∀x,i.l[k]? =some x→xR i.p.tick x=false,fun j=>i.l.length-j,⟨by omega,fun k hk=>by omega⟩,?_⟩
 rintro j ⟨h3,h4⟩
 refine zQ (fun hj=> ?_) (fun hj=> ?_)
 ·obtain⟨n,hn⟩:=yE (l:=i.l) (i:=j) (by omega)
  refine⟨⟨by omega,by omega⟩,n,elI hn,⟨i.p,n⟩,?_⟩
  (repeat'(first|exact rfl|exact trivial|assumption|apply And.intro|refine fun(_:Unit) (_:True)=>?_|refine Exists.intro () ?_|omega|(dsimp only;omega)))
  refine Cv.cnd.mk (fun e=> ?_) (fun e=> ?_)
  ·rw[nC hn e h4];exact kp
  ·refine⟨j+1,by rw[w64 (by omega)];rfl,⟨by omega,fun k hk x hx=> ?_⟩,by(first|omega|(dsimp only;omega)),rfl⟩
   rcases Nat.lt_or_ge k j with hk'|hk'
   ·exact h4 k hk' x hx
   ·obtain rfl:k=j:=by omega
    rw[hn]at hx;cases hx;exact e
 ·rw[nR fun k x hx=>h4 k (by have:=(List.getElem?_eq_some_iff.1 hx).1;omega) x hx];exact kp
theorem z8m:idxC.ok Tryz.prog 125:=yCw (gokc zVg gok0) yFm
theorem zSz {l:List Int} {f:Int→Bool}:l.any f=decide (pQ (l.findIdx? f)≥0):=by
 cases hf:l.findIdx? f with
 |none=>
  rw[List.findIdx?_eq_none_iff]at hf
  have:l.any f=false:=by rw[List.any_eq_false];intro x hx;simp[hf x hx]
  rw[this];rfl
 |some k=>
  rw[List.findIdx?_eq_some_iff_getElem]at hf
  obtain⟨hk,h1,_⟩:=hf
  have:l.any f=true:=by rw[List.any_eq_true];exact⟨_,List.getElem_mem hk,h1⟩
  rw[this,pQ,decide_eq_true (by omega)]
theorem zSk (i:rP) (h:containsC.cnd i):zCg i:=by
 have h':1≤i.p.tick∧i.l.length≤1099511627776:=h
 refine⟨i,?_⟩
 (repeat'(first|exact rfl|exact trivial|assumption|apply And.intro|refine fun(_:Unit) (_:True)=>?_|refine Exists.intro () ?_|omega|(dsimp only;omega)))
 exact zSz
theorem zJg:containsC.ok Tryz.prog 110:=zMf (gokc z8m gok0) zSk
theorem z7i (p:Prd) (h:ticksC.cnd p):zLw p:=by
 obtain⟨h1,h2,h3⟩:p.small:=h
 unfold zLw
 refine zQ (fun c1=>⟨(),by rw[xO,decide_eq_false (by omega)];rfl,trivial⟩) (fun c1=>zQ (fun c2=>⟨(),by rw[xO,decide_eq_false (show ¬p.tick≤1000 by omega)];simp,trivial⟩) (fun c2=>⟨⟨p,p.low⟩,?_⟩))
 have e1:xO p=(!xR p.tick p.low && !xR p.tick p.high && !xR p.tick p.wide && !p.settle.any (xR p.tick)):=by
  rw[xO,decide_eq_true (by omega),decide_eq_true (by omega)];rfl
 rw[e1]
 (repeat'(first|exact rfl|exact trivial|assumption|apply And.intro|refine fun(_:Unit) (_:True)=>?_|refine Exists.intro () ?_|omega|(dsimp only;omega)))
 refine Cv.cnd.mk (fun c3=>⟨⟨p,p.high⟩,?_⟩) (fun c3=>⟨(),?_,trivial⟩)
 ·dsimp only at c3
  (repeat'(first|exact rfl|exact trivial|assumption|apply And.intro|refine fun(_:Unit) (_:True)=>?_|refine Exists.intro () ?_|omega|(dsimp only;omega)))
  refine Cv.cnd.mk (fun c4=>⟨⟨p,p.wide⟩,?_⟩) (fun c4=>⟨(),?_,trivial⟩)
  ·dsimp only at c4
   (repeat'(first|exact rfl|exact trivial|assumption|apply And.intro|refine fun(_:Unit) (_:True)=>?_|refine Exists.intro () ?_|omega|(dsimp only;omega)))
   refine Cv.cnd.mk (fun c5=>⟨⟨p,p.settle⟩,?_⟩) (fun c5=>⟨(),?_,trivial⟩)
   ·dsimp only at c5
    (repeat'(first|exact rfl|exact trivial|assumption|apply And.intro|refine fun(_:Unit) (_:True)=>?_|refine Exists.intro () ?_|omega|(dsimp only;omega)))
    rw[c3,c4,c5];simp
   ·dsimp only at c5
    rw[c5];simp
  ·dsimp only at c4
   rw[c4];simp
 ·dsimp only at c3
  rw[c3];simp
theorem zUy:ticksC.ok Tryz.prog 84:=z2b (gokc zVg (gokc zJg gok0)) z7i
theorem yAd (p:Prd) (h:checkC.cnd p):zLa p:=by
 obtain⟨h1,h2,h3⟩:p.small:=h
 unfold zLa
 simp only[yW]
 refine⟨p.code,rfl,h1,fun _ _=>Cv.cnd.mk (fun c1=>⟨(),by rw[Prd.check,if_pos c1],trivial⟩) (fun c1=>⟨p.months,rfl,h2,fun _ _=>Cv.cnd.mk (fun c2=>⟨(),by rw[Prd.check,if_neg (by simp[c1]),if_pos c2],trivial⟩) (fun c2=>⟨p,?_⟩)⟩)⟩
 (repeat'(first|exact rfl|exact trivial|assumption|apply And.intro|refine fun(_:Unit) (_:True)=>?_|refine Exists.intro () ?_|omega|(dsimp only;omega)))
 refine Cv.cnd.mk (fun c3=>⟨(),by rw[Prd.check,if_neg (by simp[c1]),if_neg (by simp[c2]),if_pos c3],trivial⟩) (fun c3=> ?_)
 have e0:p.check=if xP p then 23 else if yY p then 1 else if xY p then 31 else if xB p then 24 else 0:=by
  rw[Prd.check,if_neg (by simp[c1]),if_neg (by simp[c2]),if_neg (by simp[c3])]
 have b (hb:xP p=true):∃(o:Unit),p.check=23∧True:=⟨(),by rw[e0,if_pos hb],trivial⟩
 refine zQ (fun d1=>b (by simp[xP,d1])) fun d1=>zQ (fun d2=>b (by simp[xP];omega)) fun d2=>zQ (fun d3=>b (by simp[xP];omega)) fun d3=>zQ (fun d4=>b (by simp[xP];omega)) fun d4=> ?_
 rw[w64 (by omega)]
 refine zQ (fun d5=>b (by simp[xP];omega)) fun d5=> ?_
 have e1:p.check=if yY p then 1 else if xY p then 31 else if xB p then 24 else 0:=by
  rw[e0,if_neg (by simp[xP];omega)]
 have s (hb:yY p=true):∃(o:Unit),p.check=1∧True:=⟨(),by rw[e1,if_pos hb],trivial⟩
 have hm:2≤p.months.length:=by
  have c2:yV p.months=true:=by simpa using c2
  simp[yV]at c2;omega
 refine Cv.cnd.mk (fun d6=>s (by have d6:¬(p.settle.length:Int)=p.months.length:=(by simpa using d6);simp[yY];omega)) fun d6=> ?_
 have d6:p.settle.length=p.months.length:=by
  have:(p.settle.length:Int)=p.months.length:=by simpa using d6
  omega
 refine⟨p.settle,rfl,⟨by omega,by omega⟩,fun _ _=>⟨kp,zQ (fun d7=>s (by simp[yY];left;right;omega)) fun d7=>⟨p.settle,rfl,⟨by omega,by omega⟩,fun _ _=>⟨kp,zQ (fun d8=>s (by simp[yY];right;omega)) fun d8=> ?_⟩⟩⟩⟩
 have e2:p.check=if xY p then 31 else if xB p then 24 else 0:=by
  rw[e1,if_neg (by simp[yY];omega)]
 have r (hb:xY p=true):∃(o:Unit),p.check=31∧True:=⟨(),by rw[e2,if_pos hb],trivial⟩
 refine zQ (fun d9=>r (by simp[xY];omega)) fun d9=>zQ (fun d10=>r (by simp[xY];omega)) fun d10=> ?_
 have e3:p.check=if xB p then 24 else 0:=by
  rw[e2,if_neg (by simp[xY];omega)]
 have q (hb:xB p=true):∃(o:Unit),p.check=24∧True:=⟨(),by rw[e3,if_pos hb],trivial⟩
 refine zQ (fun f1=>q (by simp[xB];omega)) fun f1=>zQ (fun f2=>q (by simp[xB];omega)) fun f2=>zQ (fun f3=>q (by simp[xB];omega)) fun f3=>zQ (fun f4=>q (by simp[xB];omega)) fun f4=>zQ (fun f5=>q (by simp[xB];omega)) fun f5=>zQ (fun f6=>q (by simp[xB];omega)) fun f6=> ?_
 exact⟨(),by rw[e3,if_neg (by simp[xB];omega)],trivial⟩
theorem aH:checkC.ok Tryz.prog 50:=z0h (gokc z9n (gokc zQn (gokc zUy (gokc yBj (gokc yBe gok0))))) yAd
structure Prd.Ok (p:Prd):Prop where
 sym:qW p.code=true
 months:yV p.months=true
 ticks:xO p=true
 m2:2≤p.months.length
 m6:p.months.length≤6
 t1:1≤p.tick
 t2:p.tick≤1000
 b1: -1000000≤p.low
 b2:p.low<p.high
 b3:p.high≤1000000
 b4:0≤p.wide
 b5:p.wide≤p.high-p.low
 s1:p.settle.length=p.months.length
 s2:p.low≤fL p.settle
 s3:f0 p.settle≤p.high
 r1:1≤p.rule
 r2:p.rule≤3
 q1:0≤p.top
 q2:p.top≤1000000
 q3:1≤p.least
 q4:p.least≤1000
 q5:0≤p.part
 q6:p.part≤100
theorem qK {p:Prd} (h:p.check=0):p.Ok:=by
 unfold Prd.check at h
 split at h<;>first|(exfalso;revert h;decide)|skip
 rename_i c1
 split at h<;>first|(exfalso;revert h;decide)|skip
 rename_i c2
 split at h<;>first|(exfalso;revert h;decide)|skip
 rename_i c3
 split at h<;>first|(exfalso;revert h;decide)|skip
 rename_i c4
 split at h<;>first|(exfalso;revert h;decide)|skip
 rename_i c5
 split at h<;>first|(exfalso;revert h;decide)|skip
 rename_i c6
 split at h<;>first|(exfalso;revert h;decide)|skip
 rename_i c7
 simp only[Bool.not_eq_true',Bool.not_eq_false,Bool.not_eq_true]at c1 c2 c3
 have m:=c2
 have t:=c3
 simp[yV]at m
 simp[xO]at t
 simp[xP]at c4
 simp[yY]at c5
 simp[xY]at c6
 simp[xB]at c7
 exact⟨c1,c2,c3,by omega,by omega,by omega,by omega,by omega,by omega,by omega,by omega,by omega,by omega,by omega,by omega,by omega,by omega,by omega,by omega,by omega,by omega,by omega,by omega⟩
theorem zXy {n:Nat} (h:n≤6):n+n*(n-1) / 2≤21:=by
 have:∀n≤6,n+n*(n-1) / 2≤21:=by decide
 exact this n h
theorem z1k (p:Prd) (h:pcountC.cnd p):zOi p:=by
 obtain⟨h1,h2,h3⟩:p.small:=h
 refine⟨p,?_⟩
 simp only[yW]
 (repeat'(first|exact rfl|exact trivial|assumption|apply And.intro|refine fun(_:Unit) (_:True)=>?_|refine Exists.intro () ?_|omega|(dsimp only;omega)))
 refine Cv.cnd.mk (fun c=>⟨(),by rw[Prd.count,if_neg (by simpa using c)];rfl,trivial⟩) (fun c=> ?_)
 have c:p.check=0:=by simpa using c
 have ok:=qK c
 refine⟨kp,by decide,(),?_,trivial⟩
 rw[Prd.count,if_pos c]
 obtain⟨n,hn⟩:∃n,p.months.length=n:=⟨_,rfl⟩
 have m2:=ok.m2
 have m6:=ok.m6
 rw[hn]at m2 m6 ⊢
 have:n=2∨n=3∨n=4∨n=5∨n=6:=by omega
 rcases this with rfl|rfl|rfl|rfl|rfl<;>rfl
theorem gF:pcountC.ok Tryz.prog 24:=zUm (gokc aH gok0) z1k
theorem dP {p:Prd} (h:p.count≠0):p.check=0:=by
 unfold Prd.count at h
 split at h
 ·assumption
 ·exact absurd rfl h
theorem xH (p:Prd):p.count≤21:=by
 unfold Prd.count
 split
 ·rename_i h;exact zXy (qK h).m6
 ·omega
theorem sP {n m:Nat} (h:n≤6) (hm:m≤n):z7 n m≤21:=by
 have:∀n≤6,∀m≤n,z7 n m≤21:=by decide
 exact this n h m hm
theorem yEb (i:vU) (h:legsC.cnd i):z5j i:=by
 obtain⟨h1,h2,h3⟩:i.p.small:=h
 refine⟨i.p,?_⟩
 simp only[yW]
 (repeat'(first|exact rfl|exact trivial|assumption|apply And.intro|refine fun(_:Unit) (_:True)=>?_|refine Exists.intro () ?_|omega|(dsimp only;omega)))
 refine zQ (fun c1=> ?_) (fun c1=>zQ (fun c2=> ?_) (fun c2=> ?_))
 ·rw[Prd.legs,if_pos (by omega)];exact kp
 ·rw[Prd.legs,if_pos (by omega)];exact kp
 have c2:¬i.n≥(i.p.count:Int):=c2
 have hc:=xH i.p
 have ok:=qK (dP (p:=i.p) (by omega))
 have m6:=ok.m6
 refine zQ (fun c3=> ?_) (fun c3=> ?_)
 ·rw[Prd.legs,if_neg (by omega),if_pos c3];exact kp
 have e0:i.p.legs i.n=x4 i.p.months.length i.n.toNat i.p.months.length 0:=by
  rw[Prd.legs,if_neg (by omega),if_neg c3]
 rw[e0]
 generalize hn:i.p.months.length=n at c3 m6 ⊢
 obtain⟨k,hk⟩:∃k:Nat,i.n=k:=⟨i.n.toNat,by omega⟩
 rw[hk]at c2 c3 ⊢
 refine⟨0,rfl,rfl,fun m=>m≤n∧z7 n m≤k∧x4 n k n 0=x4 n k (n-m) m,fun m=>n-m,⟨by omega,by show n≤k;omega,rfl⟩,?_⟩
 rintro m ⟨g1,g2,g3⟩
 have hf:=sP m6 g1
 refine zQ (fun c4=> ?_) (fun c4=> ?_)
 ·obtain⟨r,hr⟩:∃r,n-m=r+1:=⟨n-m-1,by omega⟩
  have e1:(k:Int).toNat=k:=by omega
  rw[e1,g3,hr,w64 (x:=(n:Int)-1) (by omega),w64 (x:=(n:Int)-1-m) (by omega),w64 (x:=(z7 n m:Int)+((n:Int)-1-m)) (by omega),w64 (x:=(m:Int)+1) (by omega)]
  rw[hr]at g3
  refine zQ (fun c5=> ?_) (fun c5=> ?_)
  ·rw[w64 (x:=(m:Int)+1+k) (by omega),w64 (x:=(m:Int)+1+k-(z7 n m:Int)) (by omega),x4,if_pos (by omega)]
   refine⟨(),rfl,?_,rfl,trivial⟩
   dsimp only;omega
  ·refine⟨m+1,?_,rfl,⟨by omega,?_,?_⟩,by(first|omega|(dsimp only;omega)),kp⟩
   ·rw[z7];omega
   ·rw[z7];omega
   ·rw[x4,if_neg (by omega),show n-(m+1)=r by omega]
 ·have e1:(k:Int).toNat=k:=by omega
  rw[e1,g3,show n-m=0 by omega]
  exact⟨(),rfl,rfl,rfl,trivial⟩
theorem c0:legsC.ok Tryz.prog 51:=z9r (gokc gF gok0) yEb
theorem z1g (i:fH) (h:spreadC.cnd i):zOj i:=by
 obtain⟨h1,h2,h3⟩:i.p.small:=h
 refine⟨i.p,?_⟩
 simp only[yW]
 (repeat'(first|exact rfl|exact trivial|assumption|apply And.intro|refine fun(_:Unit) (_:True)=>?_|refine Exists.intro () ?_|omega|(dsimp only;omega)))
 have bad (hb:i.p.check≠0∨i.a<0∨i.b≤i.a∨(i.p.months.length:Int)≤i.b):∃(o:Unit),(i.p.spread i.a i.b).fst=0∧(i.p.spread i.a i.b).snd=false∧True:=⟨(),by rw[Prd.spread,if_pos hb],by rw[Prd.spread,if_pos hb],trivial⟩
 refine Cv.cnd.mk (fun c1=>bad (.inl (by simpa using c1))) fun c1=>zQ (fun c2=>bad (by omega)) fun c2=>zQ (fun c3=>bad (by omega)) fun c3=>zQ (fun c4=>bad (by omega)) fun c4=> ?_
 have c1:i.p.check=0:=by simpa using c1
 have m6:=(qK c1).m6
 rw[Prd.spread,if_neg (by omega)]
 generalize hn:i.p.months.length=n at c4 m6 ⊢
 obtain⟨a,ha⟩:∃k:Nat,i.a=k:=⟨i.a.toNat,by omega⟩
 rw[ha]at c3 ⊢
 refine⟨0,rfl,rfl,fun m=>m≤a,fun m=>a-m,by omega,?_⟩
 intro m hm
 have hm:m≤a:=hm
 have hf:=sP (m:=m) m6 (by omega)
 refine zQ (fun c5=> ?_) (fun c5=> ?_)
 ·rw[w64 (x:=(n:Int)-1) (by omega),w64 (x:=(n:Int)-1-m) (by omega),w64 (x:=(z7 n m:Int)+((n:Int)-1-m)) (by omega),w64 (x:=(m:Int)+1) (by omega)]
  refine⟨m+1,?_,rfl,by omega,by(first|omega|(dsimp only;omega)),kp⟩
  rw[z7];omega
 ·obtain rfl:m=a:=by omega
  rw[w64 (x:=(z7 n m:Int)+i.b) (by omega),w64 (x:=(z7 n m:Int)+i.b-m) (by omega),w64 (x:=(z7 n m:Int)+i.b-m-1) (by omega)]
  exact⟨(),rfl,rfl,trivial⟩
theorem zCk:spreadC.ok Tryz.prog 54:=zWy (gokc aH gok0) z1g
theorem z6x (i:fH) (h:priceC.cnd i):zWf i:=by
 obtain⟨h1,h2,h3⟩:i.p.small:=h
 refine⟨i.p,?_⟩
 simp only[yW]
 (repeat'(first|exact rfl|exact trivial|assumption|apply And.intro|refine fun(_:Unit) (_:True)=>?_|refine Exists.intro () ?_|omega|(dsimp only;omega)))
 refine Cv.cnd.mk (fun c1=>⟨(),by rw[Prd.price,if_pos (by have:(i.p.count:Int)=0:=(by simpa using c1);omega)],trivial⟩) fun c1=> ?_
 have c1:i.p.count≠0:=by
  have:¬(i.p.count:Int)=0:=by simpa using c1
  omega
 have e0:i.p.price i.a i.b=if i.a<0∨(i.p.count:Int)≤i.a then 20 else if xR i.p.tick i.b then 22 else
  if i.b<(if(i.p.months.length:Int)≤i.a then-i.p.wide else i.p.low)∨(if(i.p.months.length:Int)≤i.a then i.p.wide else i.p.high)<i.b then 23 else 0:=by rw[Prd.price,if_neg c1]
 rw[e0]
 have ok:=qK (dP c1)
 obtain⟨t1,b3,b1,b2,b4,b5⟩:=(⟨ok.t1,ok.b3,ok.b1,ok.b2,ok.b4,ok.b5⟩:_∧_∧_∧_∧_∧_)
 refine zQ (fun c2=>⟨(),by rw[if_pos (.inl c2)],trivial⟩) fun c2=>zQ (fun c3=>⟨(),by rw[if_pos (.inr c3)],trivial⟩) fun c3=>⟨kp,by omega,?_⟩
 have c3:¬i.a≥(i.p.count:Int):=c3
 rw[if_neg (by omega)]
 refine Cv.cnd.mk (fun c4=>⟨(),if_pos c4,trivial⟩) fun c4=> ?_
 rw[if_neg (by rw[xR,c4];simp),w64 (x:=0-i.p.wide) (by omega)]
 refine zQ (fun c5=> ?_) (fun c5=> ?_)
 ·have c5:(i.p.months.length:Int)≤i.a:=c5
  simp only[if_pos c5]
  refine zQ (fun c6=>⟨(),if_pos (.inl (by omega)),trivial⟩) fun c6=>zQ (fun c7=>⟨(),if_pos (.inr (by omega)),trivial⟩) fun c7=>⟨(),if_neg (by omega),trivial⟩
 ·have c5:¬(i.p.months.length:Int)≤i.a:=c5
  simp only[if_neg c5]
  refine zQ (fun c6=>⟨(),if_pos (.inl (by omega)),trivial⟩) fun c6=>zQ (fun c7=>⟨(),if_pos (.inr (by omega)),trivial⟩) fun c7=>⟨(),if_neg (by omega),trivial⟩
theorem dW:priceC.ok Tryz.prog 72:=z2a (gokc gF gok0) z6x
theorem z5t (x:Int) (h: -18446744073709551616≤x∧x<18446744073709551616):(yL x∧IntKind.i64.wrap x=x)∨(9223372036854775807<x∧IntKind.i64.wrap x=x-18446744073709551616)∨(x< -9223372036854775808∧IntKind.i64.wrap x=x+18446744073709551616):=by
 have e:IntKind.i64.wrap x=if(decide (x % 18446744073709551616≥9223372036854775808))=true then x % 18446744073709551616-18446744073709551616 else x % 18446744073709551616:=by
  have:IntKind.i64.wrap x=if(true && decide (x % 18446744073709551616≥9223372036854775808))=true then x % 18446744073709551616-18446744073709551616 else x % 18446744073709551616:=rfl
  rw[this,Bool.true_and]
 have e:IntKind.i64.wrap x=(x+9223372036854775808) % 18446744073709551616-9223372036854775808:=by
  rw[e]
  by_cases h2:x % 18446744073709551616≥9223372036854775808
  ·rw[if_pos (decide_eq_true h2)];omega
  ·rw[if_neg (by simpa using h2)];omega
 rw[e]
 by_cases h1:yL x
 ·exact .inl ⟨h1,by unfold yL at h1;omega⟩
 ·unfold yL at h1
  omega
theorem yEv (i:I2) (h:addC.cnd i):z9b i:=by
 obtain⟨⟨x1,x2⟩,y1,y2⟩:yL i.x∧yL i.y:=h
 have hw:=z5t (i.x+i.y) (by omega)
 unfold z9b jJ
 generalize IntKind.i64.wrap (i.x+i.y)=w at hw ⊢
 unfold yL at hw ⊢
 refine Cv.cnd.mk (fun c1=>Cv.cnd.mk (fun c2=> ?_) (fun c2=> ?_)) (fun c1=> ?_)
 all_goals(simp at*)
 ·rw[if_neg (by omega)];exact kp
 ·rw[if_pos (by omega)];refine⟨?_,rfl⟩;dsimp only;omega
 ·rw[if_pos (by omega)];refine⟨?_,rfl⟩;dsimp only;omega
theorem zEr:addC.ok Tryz.prog 87:=yBy gok0 yEv
theorem yEl (i:I2) (h:subC.cnd i):z5y i:=by
 obtain⟨⟨x1,x2⟩,y1,y2⟩:yL i.x∧yL i.y:=h
 have hw:=z5t (i.x-i.y) (by omega)
 unfold z5y jE
 generalize IntKind.i64.wrap (i.x-i.y)=w at hw ⊢
 unfold yL at hw ⊢
 refine Cv.cnd.mk (fun c1=>Cv.cnd.mk (fun c2=> ?_) (fun c2=> ?_)) (fun c1=> ?_)
 all_goals(simp at*)
 ·rw[if_neg (by omega)];exact kp
 ·rw[if_pos (by omega)];refine⟨?_,rfl⟩;dsimp only;omega
 ·rw[if_pos (by omega)];refine⟨?_,rfl⟩;dsimp only;omega
theorem zFh:subC.ok Tryz.prog 88:=yEa gok0 yEl
open Go Cv Go.Proofs
structure Slot where
 used:Bool
 n:Int
 id:Int
 qty:Int
 top:Bool
 queue:Int
 ahead:Int
 back:Int
 deriving DecidableEq
structure qC where
 first:Int
 last:Int
 total:Int
 count:Int
 deriving DecidableEq
structure Arena where
 slots:List Slot
 queues:List qC
 free:Int
 deriving DecidableEq
def zK (s:Slot):List D:=[.v (.bool s.used),.v (.int .i64 s.n),.v (.int .i64 s.id),.v (.int .i64 s.qty),.v (.bool s.top),.v (.int .i64 s.queue),.v (.int .i64 s.ahead),.v (.int .i64 s.back)]
def zG (q:qC):List D:=[.v (.int .i64 q.first),.v (.int .i64 q.last),.v (.int .i64 q.total),.v (.int .i64 q.count)]
def slot0:Slot:=⟨false,0,0,0,false,0,0,0⟩
def zE (a:Arena):Nat→AObj
 |0=> .cells [.own 1,.own 2,zD a.free] 185
 |1=> .own 193 8 (a.slots.map zK)
 |2=> .own 199 4 (a.queues.map zG)
 |_=> .gone
def qP (a:Arena):AObj:= .adt Arena 3 zE a
structure yZ where
 price:Int
 queue:Int
 deriving DecidableEq
structure Place where
 side:Int
 price:Int
 slot:Int
 deriving DecidableEq
structure Book where
 a:Arena
 buys:List yZ
 sells:List yZ
 at_:List (Int×Place)
 top1:Int
 top2:Int
 spare:List Int
 has1:Bool
 has2:Bool
 deriving DecidableEq
def zA (r:yZ):List D:=[.v (.int .i64 r.price),.v (.int .i64 r.queue)]
def zMy (p:Place):List D:=[.v (.int .i64 p.side),.v (.int .i64 p.price),.v (.int .i64 p.slot)]
def atE (l:List (Int×Place)):List (Value×List D):=l.map fun x=>(.int .i64 x.1,zMy x.2)
def zN (b:Book):Nat→AObj
 |0=> .cells [.nm 1 0,.own 2,.own 3,.mp 4,zD b.top1,zD b.top2,.own 5,yJ b.has1,yJ b.has2] 144
 |1=>qP b.a
 |2=> .own 147 2 (b.buys.map zA)
 |3=> .own 147 2 (b.sells.map zA)
 |4=> .map (atE b.at_)
 |5=> .own 3 1 (iE b.spare)
 |_=> .gone
def yC (b:Book):AObj:= .adt Book 6 zN b
structure MSt where
 p:Prd
 books:List Book
 wh:List (Int×Int)
def yA (l:List (Int×Int)):List (Value×List D):=l.map fun x=>(.int .i64 x.1,[.v (.int .i64 x.2)])
def yB (s:MSt):Nat→AObj
 |0=> .cells [sV s.p.code,.own 3,zD s.p.tick,zD s.p.low,zD s.p.high,zD s.p.wide,zD s.p.rule,zD s.p.top,zD s.p.least,zD s.p.part,.own 4,.own 1,.mp 2] 101
 |1=> .objs 102 Book 6 zN s.books none
 |2=> .map (yA s.wh)
 |3=> .fro 1 (iE s.p.months)
 |4=> .fro 1 (iE s.p.settle)
 |_=> .gone
def zC (s:MSt):AObj:= .adt MSt 5 yB s
def eG (n:Nat):Arena:=⟨List.replicate n slot0,[],n⟩
def book0:Book:=⟨eG 250,[],[],[],0,0,[],false,false⟩
def newAC:Con:=con1 Nat (fun n=>[zD n]) (fun _=>[]) (fun n=>1≤n∧n≤4096) (fun _=> .tup [.nm 0 0,zD 0]) (fun n=>[qP (eG n)])
def newBC:Con:=con1 Unit (fun _=>[]) (fun _=>[]) (fun _=>True) (fun _=> .nm 0 0) (fun _=>[yC book0])
def wH (p:Prd):MSt:=⟨p,List.replicate p.count book0,[]⟩
def newSC:Con where
 ι:=Prd
 pat:=fun p=>[prdV p]
 pre:=fun _=>[]
 cnd:=fun p=>p.small
 alts:=fun p=>[{o:=Unit,res:=fun _=> .tup [.nm 0 0,zD 0],post:=fun _=>[zC (wH p)],rel:=fun _=>p.check=0},{o:=Unit,res:=fun _=> .tup [.d (.v (.pointer none)),zD p.check],post:=fun _=>[],rel:=fun _=>p.check≠0}]
def yDk (p:Prd):List SAnn:=[{ι:=Nat,slots:=fun j=>[(5,.nm 0 0),(27,zD j)],rows:=fun j=>(List.range 5).map (yB ⟨p,List.replicate j book0,[]⟩)}]
def clSlotC:Con:=con1 (List Slot) (fun _=>[.own 0]) (fun l=>[.own 193 8 (l.map zK)]) (fun l=>l.length≤1000000) (fun _=> .own 1) (fun l=>[.own 193 8 (l.map zK),.own 193 8 (l.map zK)])
def clQueueC:Con:=con1 (List qC) (fun _=>[.own 0]) (fun l=>[.own 199 4 (l.map zG)]) (fun l=>l.length≤1000000) (fun _=> .own 1) (fun l=>[.own 199 4 (l.map zG),.own 199 4 (l.map zG)])
def clRungC:Con:=con1 (List yZ) (fun _=>[.own 0]) (fun l=>[.own 147 2 (l.map zA)]) (fun l=>l.length≤1000000) (fun _=> .own 1) (fun l=>[.own 147 2 (l.map zA),.own 147 2 (l.map zA)])
def clIntC:Con:=con1 (List Int) (fun _=>[.own 0]) (fun l=>[.own 3 1 (iE l)]) (fun l=>l.length≤1000000) (fun _=> .own 1) (fun l=>[.own 3 1 (iE l),.own 3 1 (iE l)])
def zXn (f:Nat):Con:=con1 (List (Value×List D)) (fun _=>[.mp 0]) (fun es=>[.map es]) (fun _=>True) (fun _=> .mp 1) (fun es=>[.map es,.map es])
def clAtC:Con:=zXn 0
def clWhC:Con:=zXn 1
@[reducible] def Arena.small (a:Arena):Prop:=a.slots.length≤1000000∧a.queues.length≤1000000
@[reducible] def Book.small (b:Book):Prop:=b.a.small∧b.buys.length≤1000000∧b.sells.length≤1000000∧b.spare.length≤1000000
@[reducible] def MSt.small (s:MSt):Prop:=s.books.length≤1000000∧∀b∈s.books,b.small
def copyAC:Con:=con1 Arena (fun _=>[.nm 0 0]) (fun a=>[qP a]) Arena.small (fun _=> .nm 1 0) (fun a=>[qP a,qP a])
def copyBC:Con:=con1 Book (fun _=>[.nm 0 0]) (fun b=>[yC b]) Book.small (fun _=> .nm 1 0) (fun b=>[yC b,yC b])
def yAp:List SAnn:=[{ι:=Unit,slots:=fun _=>[],rows:=fun _=>[],un:=3}]
def copySC:Con:=con1 MSt (fun _=>[.nm 0 0]) (fun s=>[zC s]) MSt.small (fun _=> .nm 1 0) (fun s=>[zC s,zC s])
open Go Cv Go.Proofs
def zYo (n:Nat):Prop:=
 cnd (decide ((↑n:Int)<1)) (∃(o:Unit),False) (cnd (decide ((↑n:Int)>4096)) (∃(o:Unit),False) ((0≤(↑n:Int)∧(↑n:Int)≤(↑n:Int)∧(↑n:Int)≤9223372036854775807∧(↑(64:Nat):Int)*(↑n:Int)≤2 ^ (48:Nat))∧∃(o:Unit),(0:Int)=(0:Int)∧(↑n:Int)=(↑n:Int)∧List.map zK (List.replicate n slot0)=List.replicate (↑n:Int).toNat [D.v (.bool false),D.v (.int .i64 0),D.v (.int .i64 0),D.v (.int .i64 0),D.v (.bool false),D.v (.int .i64 0),D.v (.int .i64 0),D.v (.int .i64 0)]∧([]:List (List D))=[]∧True))
theorem z7b (hG:GOk Tryz.prog ([])) (h:∀(n:Nat),newAC.cnd n→zYo n):newAC.ok Tryz.prog 95:=okw mixed hG 0 (fun _=>[]) (fun _=>[]) [] Tryz.func95 h
def yCd (u:Unit):Prop:=
 ∃(i:Nat),(↑i:Int)=250∧(1≤i∧i≤4096)∧∀(o:Unit),True→∃(o:Unit),(0:Int)=(0:Int)∧(0:Int)=(0:Int)∧false=false∧false=false∧AObj.adt Arena 3 zE (eG 250)=AObj.adt Arena 3 zE (eG i)∧([]:List (List D))=[]∧([]:List (List D))=[]∧atE []=[]∧iE []=[]∧True
theorem z9m (hG:GOk Tryz.prog ([(95,newAC)])) (h:∀(u:Unit),newBC.cnd u→yCd u):newBC.ok Tryz.prog 68:=okw mixed hG 0 (fun _=>[]) (fun _=>[]) [] Tryz.func68 h
@[reducible] def zOp (p:Prd):AObj:=Sx.AObj.cells [V.d (D.v (Value.string (sb p.code))),V.own ((0:Nat)+(1:Nat)+(1:Nat)+(1:Nat)+((0:Nat)-(0:Nat))+(1:Nat)),V.d (D.v (.int .i64 p.tick)),V.d (D.v (.int .i64 p.low)),V.d (D.v (.int .i64 p.high)),V.d (D.v (.int .i64 p.wide)),V.d (D.v (.int .i64 p.rule)),V.d (D.v (.int .i64 p.top)),V.d (D.v (.int .i64 p.least)),V.d (D.v (.int .i64 p.part)),V.own ((0:Nat)+(1:Nat)+(1:Nat)+(1:Nat)+((0:Nat)-(0:Nat))+(1:Nat)+(1:Nat)+(1:Nat))] (29:Nat)
@[reducible] def rO (p:Prd):AObj:=Sx.AObj.cells [V.d (D.v (Value.string (sb p.code))),V.own ((0:Nat)+(1:Nat)+(1:Nat)+(1:Nat)+((0:Nat)-(0:Nat))+(1:Nat)+(1:Nat)),V.d (D.v (.int .i64 p.tick)),V.d (D.v (.int .i64 p.low)),V.d (D.v (.int .i64 p.high)),V.d (D.v (.int .i64 p.wide)),V.d (D.v (.int .i64 p.rule)),V.d (D.v (.int .i64 p.top)),V.d (D.v (.int .i64 p.least)),V.d (D.v (.int .i64 p.part)),V.own ((0:Nat)+(1:Nat)+(1:Nat)+(1:Nat)+((0:Nat)-(0:Nat))+(1:Nat)+(1:Nat)+(1:Nat))] (29:Nat)
def z5r (p:Prd):Prop:=
 ∃(i:Prd),sb i.code=sb p.code∧iE i.months=iE p.months∧i.tick=p.tick∧i.low=p.low∧i.high=p.high∧i.wide=p.wide∧i.rule=p.rule∧i.top=p.top∧i.least=p.least∧i.part=p.part∧iE i.settle=iE p.settle∧(i.code.length≤1099511627776∧i.months.length≤1099511627776∧i.settle.length≤1099511627776)∧∀(o:Unit),True→cnd (i.check !=0) ((∃(o:Unit),False)∨∃(o:Unit),True∧p.check=i.check∧(p.check=0→False)) ((True∧True∧((0+(iE p.months).length)*(8:Nat)≤(70368744177664:Nat)∧True∧True∧(0+(iE p.settle).length)*(8:Nat)≤(70368744177664:Nat)∧∃(i:Prd),sb i.code=sb p.code∧iE i.months=[]++iE p.months∧i.tick=p.tick∧i.low=p.low∧i.high=p.high∧i.wide=p.wide∧i.rule=p.rule∧i.top=p.top∧i.least=p.least∧i.part=p.part∧iE i.settle=[]++iE p.settle∧(i.code.length≤1099511627776∧i.months.length≤1099511627776∧i.settle.length≤1099511627776)∧∀(o:Unit),True→∃(i0:Nat),(↑i0:Int)=0∧sb p.code=sb p.code∧p.tick=p.tick∧p.low=p.low∧p.high=p.high∧p.wide=p.wide∧p.rule=p.rule∧p.top=p.top∧p.least=p.least∧p.part=p.part∧List.replicate i0 book0=[]∧(none:Option Nat)=none∧yA []=[]∧AObj.fro 1 (iE p.months)=AObj.fro 1 ([]++iE p.months)∧AObj.fro 1 (iE p.settle)=AObj.fro 1 ([]++iE p.settle)∧∃(I:Nat→Prop),∃(μ:Nat→Nat),I i0∧∀(i_1:Nat),I i_1→cnd (decide ((↑i_1:Int)<(↑i.count:Int))) (∃(i:Unit),True∧∀(o:Unit),True→True∧True∧∃(l1':List Book),AObj.objs 102 Book 6 zN (List.replicate i_1 book0) none=AObj.objs 102 Book 6 zN l1' none∧(l1'.length+1)*(8:Nat)≤(70368744177664:Nat)∧∃(i':Nat),(↑i':Int)=IntKind.i64.wrap ((↑i_1:Int)+1)∧sb p.code=sb p.code∧p.tick=p.tick∧p.low=p.low∧p.high=p.high∧p.wide=p.wide∧p.rule=p.rule∧p.top=p.top∧p.least=p.least∧p.part=p.part∧AObj.objs 102 Book 6 zN (List.replicate i' book0) none=AObj.objs 102 Book 6 zN (l1'++[book0]) none∧yA []=yA []∧AObj.fro 1 (iE p.months)=AObj.fro 1 (iE p.months)∧AObj.fro 1 (iE p.settle)=AObj.fro 1 (iE p.settle)∧I i'∧μ i'<μ i_1∧AObj.fro 1 ([]++iE p.settle)=AObj.fro 1 ([]++iE p.settle)∧AObj.fro 1 ([]++iE p.months)=AObj.fro 1 ([]++iE p.months)∧zOp p=zOp p∧AObj.fro 1 (iE p.settle)=AObj.fro 1 (iE p.settle)∧AObj.fro 1 (iE p.months)=AObj.fro 1 (iE p.months)) ((∃(o:Unit),(0:Int)=(0:Int)∧sb p.code=sb p.code∧p.tick=p.tick∧p.low=p.low∧p.high=p.high∧p.wide=p.wide∧p.rule=p.rule∧p.top=p.top∧p.least=p.least∧p.part=p.part∧AObj.objs 102 Book 6 zN (List.replicate p.count book0) none=AObj.objs 102 Book 6 zN (List.replicate i_1 book0) none∧yA []=yA []∧AObj.fro 1 (iE p.months)=AObj.fro 1 (iE p.months)∧AObj.fro 1 (iE p.settle)=AObj.fro 1 (iE p.settle)∧p.check=0)∨∃(o:Unit),False))∧True∧True∧(0+(iE p.months).length)*(8:Nat)≤(70368744177664:Nat)∧True∧(0+(iE p.settle).length)*(8:Nat)≤(70368744177664:Nat)∧∃(i:Prd),sb i.code=sb p.code∧iE i.months=[]++iE p.months∧i.tick=p.tick∧i.low=p.low∧i.high=p.high∧i.wide=p.wide∧i.rule=p.rule∧i.top=p.top∧i.least=p.least∧i.part=p.part∧iE i.settle=[]++iE p.settle∧(i.code.length≤1099511627776∧i.months.length≤1099511627776∧i.settle.length≤1099511627776)∧∀(o:Unit),True→∃(i0:Nat),(↑i0:Int)=0∧sb p.code=sb p.code∧p.tick=p.tick∧p.low=p.low∧p.high=p.high∧p.wide=p.wide∧p.rule=p.rule∧p.top=p.top∧p.least=p.least∧p.part=p.part∧List.replicate i0 book0=[]∧(none:Option Nat)=none∧yA []=[]∧AObj.fro 1 (iE p.months)=AObj.fro 1 ([]++iE p.months)∧AObj.fro 1 (iE p.settle)=AObj.fro 1 ([]++iE p.settle)∧∃(I:Nat→Prop),∃(μ:Nat→Nat),I i0∧∀(i_1:Nat),I i_1→cnd (decide ((↑i_1:Int)<(↑i.count:Int))) (∃(i:Unit),True∧∀(o:Unit),True→True∧True∧∃(l1':List Book),AObj.objs 102 Book 6 zN (List.replicate i_1 book0) none=AObj.objs 102 Book 6 zN l1' none∧(l1'.length+1)*(8:Nat)≤(70368744177664:Nat)∧∃(i':Nat),(↑i':Int)=IntKind.i64.wrap ((↑i_1:Int)+1)∧sb p.code=sb p.code∧p.tick=p.tick∧p.low=p.low∧p.high=p.high∧p.wide=p.wide∧p.rule=p.rule∧p.top=p.top∧p.least=p.least∧p.part=p.part∧AObj.objs 102 Book 6 zN (List.replicate i' book0) none=AObj.objs 102 Book 6 zN (l1'++[book0]) none∧yA []=yA []∧AObj.fro 1 (iE p.months)=AObj.fro 1 (iE p.months)∧AObj.fro 1 (iE p.settle)=AObj.fro 1 (iE p.settle)∧I i'∧μ i'<μ i_1∧AObj.fro 1 ([]++iE p.settle)=AObj.fro 1 ([]++iE p.settle)∧AObj.fro 1 ([]++iE p.months)=AObj.fro 1 ([]++iE p.months)∧rO p=rO p∧AObj.fro 1 (iE p.settle)=AObj.fro 1 (iE p.settle)∧AObj.fro 1 (iE p.months)=AObj.fro 1 (iE p.months)) ((∃(o:Unit),(0:Int)=(0:Int)∧sb p.code=sb p.code∧p.tick=p.tick∧p.low=p.low∧p.high=p.high∧p.wide=p.wide∧p.rule=p.rule∧p.top=p.top∧p.least=p.least∧p.part=p.part∧AObj.objs 102 Book 6 zN (List.replicate p.count book0) none=AObj.objs 102 Book 6 zN (List.replicate i_1 book0) none∧yA []=yA []∧AObj.fro 1 (iE p.months)=AObj.fro 1 (iE p.months)∧AObj.fro 1 (iE p.settle)=AObj.fro 1 (iE p.settle)∧p.check=0)∨∃(o:Unit),False))∧True∧True∧True∧True∧(0+(iE p.months).length)*(8:Nat)≤(70368744177664:Nat)∧True∧(0+(iE p.settle).length)*(8:Nat)≤(70368744177664:Nat)∧∃(i:Prd),sb i.code=sb p.code∧iE i.months=[]++iE p.months∧i.tick=p.tick∧i.low=p.low∧i.high=p.high∧i.wide=p.wide∧i.rule=p.rule∧i.top=p.top∧i.least=p.least∧i.part=p.part∧iE i.settle=[]++iE p.settle∧(i.code.length≤1099511627776∧i.months.length≤1099511627776∧i.settle.length≤1099511627776)∧∀(o:Unit),True→∃(i0:Nat),(↑i0:Int)=0∧sb p.code=sb p.code∧p.tick=p.tick∧p.low=p.low∧p.high=p.high∧p.wide=p.wide∧p.rule=p.rule∧p.top=p.top∧p.least=p.least∧p.part=p.part∧List.replicate i0 book0=[]∧(none:Option Nat)=none∧yA []=[]∧AObj.fro 1 (iE p.months)=AObj.fro 1 ([]++iE p.months)∧AObj.fro 1 (iE p.settle)=AObj.fro 1 ([]++iE p.settle)∧∃(I:Nat→Prop),∃(μ:Nat→Nat),I i0∧∀(i_1:Nat),I i_1→cnd (decide ((↑i_1:Int)<(↑i.count:Int))) (∃(i:Unit),True∧∀(o:Unit),True→True∧True∧∃(l1':List Book),AObj.objs 102 Book 6 zN (List.replicate i_1 book0) none=AObj.objs 102 Book 6 zN l1' none∧(l1'.length+1)*(8:Nat)≤(70368744177664:Nat)∧∃(i':Nat),(↑i':Int)=IntKind.i64.wrap ((↑i_1:Int)+1)∧sb p.code=sb p.code∧p.tick=p.tick∧p.low=p.low∧p.high=p.high∧p.wide=p.wide∧p.rule=p.rule∧p.top=p.top∧p.least=p.least∧p.part=p.part∧AObj.objs 102 Book 6 zN (List.replicate i' book0) none=AObj.objs 102 Book 6 zN (l1'++[book0]) none∧yA []=yA []∧AObj.fro 1 (iE p.months)=AObj.fro 1 (iE p.months)∧AObj.fro 1 (iE p.settle)=AObj.fro 1 (iE p.settle)∧I i'∧μ i'<μ i_1∧AObj.fro 1 ([]++iE p.settle)=AObj.fro 1 ([]++iE p.settle)∧AObj.fro 1 ([]++iE p.months)=AObj.fro 1 ([]++iE p.months)∧rO p=rO p∧AObj.fro 1 (iE p.settle)=AObj.fro 1 (iE p.settle)∧AObj.fro 1 (iE p.months)=AObj.fro 1 (iE p.months)) ((∃(o:Unit),(0:Int)=(0:Int)∧sb p.code=sb p.code∧p.tick=p.tick∧p.low=p.low∧p.high=p.high∧p.wide=p.wide∧p.rule=p.rule∧p.top=p.top∧p.least=p.least∧p.part=p.part∧AObj.objs 102 Book 6 zN (List.replicate p.count book0) none=AObj.objs 102 Book 6 zN (List.replicate i_1 book0) none∧yA []=yA []∧AObj.fro 1 (iE p.months)=AObj.fro 1 (iE p.months)∧AObj.fro 1 (iE p.settle)=AObj.fro 1 (iE p.settle)∧p.check=0)∨∃(o:Unit),False))
theorem yAy (hG:GOk Tryz.prog ([(50,checkC),(24,pcountC),(68,newBC)])) (h:∀(p:Prd),newSC.cnd p→z5r p):newSC.ok Tryz.prog 37:=okw mixed hG 0 (fun _=>[]) (fun p=>yDk p) [] Tryz.func37 h
def z4c (l:List Slot):Prop:=
 ∀(b:Bool),(b=true→List.map zK l=[])→cnd b (∃(o:Unit),List.map zK l=List.map zK l∧List.map zK l=[]∧True) ((0+(List.map zK l).length)*(64:Nat)≤(70368744177664:Nat)∧∃(o:Unit),List.map zK l=List.map zK l∧List.map zK l=[]++List.map zK l∧True)
theorem zWc (hG:GOk Tryz.prog ([])) (h:∀(l:List Slot),clSlotC.cnd l→z4c l):clSlotC.ok Tryz.prog 122:=okw mixed hG 0 (fun _=>[]) (fun _=>[]) [] Tryz.func122 h
def zXb (l:List qC):Prop:=
 ∀(b:Bool),(b=true→List.map zG l=[])→cnd b (∃(o:Unit),List.map zG l=List.map zG l∧List.map zG l=[]∧True) ((0+(List.map zG l).length)*(32:Nat)≤(70368744177664:Nat)∧∃(o:Unit),List.map zG l=List.map zG l∧List.map zG l=[]++List.map zG l∧True)
theorem zQm (hG:GOk Tryz.prog ([])) (h:∀(l:List qC),clQueueC.cnd l→zXb l):clQueueC.ok Tryz.prog 123:=okw mixed hG 0 (fun _=>[]) (fun _=>[]) [] Tryz.func123 h
def z4p (l:List yZ):Prop:=
 ∀(b:Bool),(b=true→List.map zA l=[])→cnd b (∃(o:Unit),List.map zA l=List.map zA l∧List.map zA l=[]∧True) ((0+(List.map zA l).length)*(16:Nat)≤(70368744177664:Nat)∧∃(o:Unit),List.map zA l=List.map zA l∧List.map zA l=[]++List.map zA l∧True)
theorem zYl (hG:GOk Tryz.prog ([])) (h:∀(l:List yZ),clRungC.cnd l→z4p l):clRungC.ok Tryz.prog 105:=okw mixed hG 0 (fun _=>[]) (fun _=>[]) [] Tryz.func105 h
def yAj (l:List Int):Prop:=
 ∀(b:Bool),(b=true→iE l=[])→cnd b (∃(o:Unit),iE l=iE l∧iE l=[]∧True) ((0+(iE l).length)*(8:Nat)≤(70368744177664:Nat)∧∃(o:Unit),iE l=iE l∧iE l=[]++iE l∧True)
theorem z3t (hG:GOk Tryz.prog ([])) (h:∀(l:List Int),clIntC.cnd l→yAj l):clIntC.ok Tryz.prog 58:=okw mixed hG 0 (fun _=>[]) (fun _=>[]) [] Tryz.func58 h
def zVo (es:List (Value×List D)):Prop:=
 ∃(i:List (Value×List D)),i=es∧True∧∀(o:Unit),True→∃(o:Unit),es=i∧es=i∧True
theorem z6c (es:List (Value×List D)):zVo es=walk Tryz.prog ([(102,vT 142)]) 0 ([]) ([]) [] Tryz.f104 (Tryz.f104.body.getD .skip) (clAtC.pat es) (clAtC.pre es) (clAtC.alts es):=by kernel_rfl
theorem z7z (hG:GOk Tryz.prog ([(102,vT 142)])) (h:∀(es:List (Value×List D)),clAtC.cnd es→zVo es):clAtC.ok Tryz.prog 104:=aD mixed ([(102,vT 142)]) hG 0 (fun(es:List (Value×List D))=>[]) (fun(es:List (Value×List D))=>[]) [] Tryz.func104 (by kernel_rfl) (by kernel_rfl) (by kernel_rfl) (fun _=>by kernel_rfl) (fun(es:List (Value×List D)) hc=>Eq.mp (z6c es) (h es hc))
def zYb (es:List (Value×List D)):Prop:=
 ∃(i:List (Value×List D)),i=es∧True∧∀(o:Unit),True→∃(o:Unit),es=i∧es=i∧True
theorem z8w (es:List (Value×List D)):zYb es=walk Tryz.prog ([(102,vT 99)]) 0 ([]) ([]) [] Tryz.f78 (Tryz.f78.body.getD .skip) (clWhC.pat es) (clWhC.pre es) (clWhC.alts es):=by kernel_rfl
theorem z6k (hG:GOk Tryz.prog ([(102,vT 99)])) (h:∀(es:List (Value×List D)),clWhC.cnd es→zYb es):clWhC.ok Tryz.prog 78:=aD mixed ([(102,vT 99)]) hG 0 (fun(es:List (Value×List D))=>[]) (fun(es:List (Value×List D))=>[]) [] Tryz.func78 (by kernel_rfl) (by kernel_rfl) (by kernel_rfl) (fun _=>by kernel_rfl) (fun(es:List (Value×List D)) hc=>Eq.mp (z8w es) (h es hc))
def z6b (a:Arena):Prop:=
 ∃(i:List Slot),List.map zK i=List.map zK a.slots∧i.length≤1000000∧∀(o:Unit),True→a.free=a.free∧True∧∃(i_1:List qC),List.map zG i_1=List.map zG a.queues∧i_1.length≤1000000∧∀(o:Unit),True→a.free=a.free∧∃(o:Unit),a.free=a.free∧List.map zK a.slots=List.map zK i∧List.map zG a.queues=List.map zG i_1∧a.free=a.free∧List.map zK a.slots=List.map zK i∧List.map zG a.queues=List.map zG i_1∧True
theorem z0v (hG:GOk Tryz.prog ([(122,clSlotC),(123,clQueueC)])) (h:∀(a:Arena),copyAC.cnd a→z6b a):copyAC.ok Tryz.prog 103:=okw mixed hG 0 (fun _=>[]) (fun _=>[]) [0] Tryz.func103 h
def yAv (b:Book):Prop:=
 ∃(i:Arena),AObj.adt Arena 3 zE i=AObj.adt Arena 3 zE b.a∧(i.slots.length≤1000000∧i.queues.length≤1000000)∧∀(o:Unit),True→True∧True∧∃(i_1:List (Value×List D)),i_1=atE b.at_∧True∧∀(o:Unit),True→True∧∃(i_2:List Int),iE i_2=iE b.spare∧i_2.length≤1000000∧∀(o:Unit),True→∃(i_3:List yZ),List.map zA i_3=List.map zA b.buys∧i_3.length≤1000000∧∀(o:Unit),True→∃(i_4:List yZ),List.map zA i_4=List.map zA b.sells∧i_4.length≤1000000∧∀(o:Unit),True→∃(o:Unit),b.top1=b.top1∧b.top2=b.top2∧b.has1=b.has1∧b.has2=b.has2∧AObj.adt Arena 3 zE b.a=AObj.adt Arena 3 zE i∧List.map zA b.buys=List.map zA i_3∧List.map zA b.sells=List.map zA i_4∧atE b.at_=i_1∧iE b.spare=iE i_2∧b.top1=b.top1∧b.top2=b.top2∧b.has1=b.has1∧b.has2=b.has2∧AObj.adt Arena 3 zE b.a=AObj.adt Arena 3 zE i∧List.map zA b.buys=List.map zA i_3∧List.map zA b.sells=List.map zA i_4∧atE b.at_=i_1∧iE b.spare=iE i_2∧True
theorem z3k (hG:GOk Tryz.prog ([(103,copyAC),(104,clAtC),(58,clIntC),(105,clRungC)])) (h:∀(b:Book),copyBC.cnd b→yAv b):copyBC.ok Tryz.prog 79:=okw mixed hG 0 (fun _=>[]) (fun _=>yAp) [0] Tryz.func79 h
open Go Cv Go.Proofs
theorem yDd (n:Nat) (h:newAC.cnd n):zYo n:=by
 obtain⟨h1,h2⟩:1≤n∧n≤4096:=h
 unfold zYo
 refine zQ (fun c=>by omega) fun c=>zQ (fun c=>by omega) fun c=> ?_
 refine⟨⟨by omega,by omega,by omega,?_⟩,?_⟩
 ·have:(2:Int) ^ (48:Nat)=281474976710656:=by decide
  rw[this];omega
 ·refine⟨(),rfl,rfl,?_,rfl,trivial⟩
  rw[List.map_replicate];rfl
theorem z0e:newAC.ok Tryz.prog 95:=z7b gok0 yDd
theorem z2n:newBC.ok Tryz.prog 68:=z9m (gokc z0e gok0) fun u _=>by
 refine⟨250,rfl,⟨by omega,by omega⟩,?_⟩;exact kp
theorem yCx (p:Prd) (h:newSC.cnd p):z5r p:=by
 have hs:p.small:=h
 obtain⟨h1,h2,h3⟩:p.small:=h
 refine⟨p,?_⟩
 simp only[yW]
 (repeat'(first|exact rfl|exact trivial|assumption|apply And.intro|refine fun(_:Unit) (_:True)=>?_|refine Exists.intro () ?_|omega|(dsimp only;omega)))
 refine Cv.cnd.mk (fun c=> .inr ⟨(),trivial,kp,by simpa using c⟩) fun c=> ?_
 have c:p.check=0:=by simpa using c
 have hc:=xH p
 (repeat'(first|exact rfl|exact trivial|assumption|apply And.intro|refine fun(_:Unit) (_:True)=>?_|refine Exists.intro () ?_|omega|(dsimp only;omega)))
 all_goals(refine⟨p,?_⟩;(repeat'(first|exact rfl|exact trivial|assumption|apply And.intro|refine fun(_:Unit) (_:True)=>?_|refine Exists.intro () ?_|omega|(dsimp only;omega))))
 all_goals(refine⟨0,?_⟩;(repeat'(first|exact rfl|exact trivial|assumption|apply And.intro|refine fun(_:Unit) (_:True)=>?_|refine Exists.intro () ?_|omega|(dsimp only;omega))))
 all_goals(refine⟨fun j=>j≤p.count,fun j=>p.count-j,by omega,fun j hj=>zQ (fun hlt=> ?_) (fun hlt=> ?_)⟩;all_goals dsimp only at hj hlt)
 all_goals first
  |(refine .inl ⟨(),?_⟩
    obtain rfl:j=p.count:=by omega
    (repeat'(first|exact rfl|exact trivial|assumption|apply And.intro|refine fun(_:Unit) (_:True)=>?_|refine Exists.intro () ?_|omega|(dsimp only;omega))))
  |(refine⟨(),trivial,fun _ _=>⟨trivial,trivial,List.replicate j book0,rfl,?_,j+1,?_⟩⟩
    ·rw[List.length_replicate];omega
    ·rw[w64 (by omega),← List.replicate_succ']
     (repeat'(first|exact rfl|exact trivial|assumption|apply And.intro|refine fun(_:Unit) (_:True)=>?_|refine Exists.intro () ?_|omega|(dsimp only;omega))))
theorem z2h:newSC.ok Tryz.prog 37:=yAy (gokc aH (gokc gF (gokc z2n gok0))) yCx
theorem zQp:clSlotC.ok Tryz.prog 122:=zWc gok0 fun l h=>by
 have h:l.length≤1000000:=h
 exact fun b hb=>Cv.cnd.mk (fun e=>⟨(),rfl,hb e,trivial⟩) (fun _=>⟨by rw[Nat.zero_add,List.length_map];omega,(),rfl,rfl,trivial⟩)
theorem zMi:clQueueC.ok Tryz.prog 123:=zQm gok0 fun l h=>by
 have h:l.length≤1000000:=h
 exact fun b hb=>Cv.cnd.mk (fun e=>⟨(),rfl,hb e,trivial⟩) (fun _=>⟨by rw[Nat.zero_add,List.length_map];omega,(),rfl,rfl,trivial⟩)
theorem zRz:clRungC.ok Tryz.prog 105:=zYl gok0 fun l h=>by
 have h:l.length≤1000000:=h
 exact fun b hb=>Cv.cnd.mk (fun e=>⟨(),rfl,hb e,trivial⟩) (fun _=>⟨by rw[Nat.zero_add,List.length_map];omega,(),rfl,rfl,trivial⟩)
theorem zXz:clIntC.ok Tryz.prog 58:=z3t gok0 fun l h=>by
 have h:l.length≤1000000:=h
 exact fun b hb=>Cv.cnd.mk (fun e=>⟨(),rfl,hb e,trivial⟩) (fun _=>⟨by rw[Nat.zero_add,yW];omega,(),rfl,rfl,trivial⟩)
theorem zBs (t:Nat):(vT t).ok Tryz.prog 102:=zNc Tryz.func102 (by kernel_rfl) (by kernel_rfl) (by kernel_rfl) (by kernel_rfl) t
theorem z0w:clAtC.ok Tryz.prog 104:=z7z (gokc (zBs _) gok0) fun es _=>by
 unfold zVo
 refine⟨es,?_⟩;exact kp
theorem z0u:clWhC.ok Tryz.prog 78:=z6k (gokc (zBs _) gok0) fun es _=>by
 unfold zYb
 refine⟨es,?_⟩;exact kp
theorem zYc:copyAC.ok Tryz.prog 103:=z0v (gokc zQp (gokc zMi gok0)) fun a h=>by
 obtain⟨h1,h2⟩:a.small:=h
 refine⟨a.slots,?_⟩;(repeat'(first|exact rfl|exact trivial|assumption|apply And.intro|refine fun(_:Unit) (_:True)=>?_|refine Exists.intro () ?_|omega|(dsimp only;omega)))
 refine⟨a.queues,?_⟩;exact kp
theorem zWs:copyBC.ok Tryz.prog 79:=z3k (gokc zYc (gokc z0w (gokc zXz (gokc zRz gok0)))) fun b h=>by
 obtain⟨⟨h1,h1'⟩,h2,h3,h4⟩:b.small:=h
 refine⟨b.a,?_⟩;(repeat'(first|exact rfl|exact trivial|assumption|apply And.intro|refine fun(_:Unit) (_:True)=>?_|refine Exists.intro () ?_|omega|(dsimp only;omega)))
 refine⟨atE b.at_,?_⟩;(repeat'(first|exact rfl|exact trivial|assumption|apply And.intro|refine fun(_:Unit) (_:True)=>?_|refine Exists.intro () ?_|omega|(dsimp only;omega)))
 refine⟨b.spare,?_⟩;(repeat'(first|exact rfl|exact trivial|assumption|apply And.intro|refine fun(_:Unit) (_:True)=>?_|refine Exists.intro () ?_|omega|(dsimp only;omega)))
 refine⟨b.buys,?_⟩;(repeat'(first|exact rfl|exact trivial|assumption|apply And.intro|refine fun(_:Unit) (_:True)=>?_|refine Exists.intro () ?_|omega|(dsimp only;omega)))
 refine⟨b.sells,?_⟩;exact kp
open Go Cv Go.Proofs
structure ArN where
 a:Arena
 n:Int
def Arena.qAt (a:Arena) (n:Int):qC:=if 0≤n∧n<a.queues.length then a.queues.getD n.toNat ⟨0,0,0,0⟩else⟨0,0,0,0⟩
def atotalC:Con:=con1 ArN (fun i=>[.nm 0 0,zD i.n]) (fun i=>[qP i.a]) (fun i=>True) (fun i=>zD (i.a.qAt i.n).total) (fun i=>[qP i.a])
def acountC:Con:=con1 ArN (fun i=>[.nm 0 0,zD i.n]) (fun i=>[qP i.a]) (fun i=>True) (fun i=>zD (i.a.qAt i.n).count) (fun i=>[qP i.a])
def bisC:Con:=con1 Int (fun n=>[zD n]) (fun _=>[]) (fun _=>True) (fun n=>yJ (decide (n=1)||decide (n=2))) (fun _=>[])
structure BkR where
 b:Book
 r:yZ
def Book.told (b:Book) (r:yZ):Lv:=⟨r.price,(b.a.qAt r.queue).total,(b.a.qAt r.queue).count⟩
@[reducible] def Book.cntOk (b:Book):Prop:=∀q∈b.a.queues,yL q.count
def toldC:Con:=con1 BkR (fun i=>[.nm 0 0,.agg [zD i.r.price,zD i.r.queue]]) (fun i=>[yC i.b]) (fun i=>i.b.cntOk) (fun i=>lvV (i.b.told i.r)) (fun i=>[yC i.b])
def Book.best (b:Book) (l:List yZ):Lv×Bool:=match l with
 |[]=>(⟨0,0,0⟩,false)
 |r::_=>(b.told r,true)
structure BkS where
 side:Bool
 b:Book
def Book.side (b:Book) (s:Bool):List yZ:=if s then b.sells else b.buys
@[reducible] def zKk (b:Book) (l:List yZ):V:= .tup [lvV (b.best l).1,yJ (b.best l).2]
def best1C:Con:=con1 Book (fun _=>[.nm 0 0,zD 1]) (fun b=>[yC b]) Book.cntOk (fun b=>zKk b b.buys) (fun b=>[yC b])
def best2C:Con:=con1 Book (fun _=>[.nm 0 0,zD 2]) (fun b=>[yC b]) Book.cntOk (fun b=>zKk b b.sells) (fun b=>[yC b])
def zB (s:Bool):Int:=if s then 2 else 1
def bestC:Con:=con1 BkS (fun i=>[.nm 0 0,zD (zB i.side)]) (fun i=>[yC i.b]) (fun i=>i.b.cntOk) (fun i=>zKk i.b (i.b.side i.side)) (fun i=>[yC i.b])
structure Top where
 has1:Bool
 has2:Bool
 p1:Int
 p2:Int
 q1:Int
 q2:Int
 deriving DecidableEq
def zT (t:Top):List D:=[.v (.bool t.has1),.v (.bool t.has2),.v (.int .i64 t.p1),.v (.int .i64 t.p2),.v (.int .i64 t.q1),.v (.int .i64 t.q2)]
def top0:Top:=⟨false,false,0,0,0,0⟩
def Top.buy (t:Top) (x:Lv×Bool):Top:=if x.2 then{t with has1:=true,p1:=x.1.price,q1:=x.1.qty}else t
def Top.sell (t:Top) (x:Lv×Bool):Top:=if x.2 then{t with has2:=true,p2:=x.1.price,q2:=x.1.qty}else t
def Book.top (b:Book):Top:=(top0.buy (b.best b.buys)).sell (b.best b.sells)
def MSt.tops (s:MSt):List Top:=s.books.map Book.top
@[reducible] def MSt.cntOk (s:MSt):Prop:=s.books.length≤1000000∧∀b∈s.books,b.cntOk
def yM (s:MSt) (j:Nat) (x:Top):List Top:=(s.tops.take j)++x::List.replicate (s.books.length-j-1) top0
def kJ (s:MSt) (j:Nat):List Top:=(s.tops.take j)++List.replicate (s.books.length-j) top0
def yDe (s:MSt):List SAnn:=[
 {ι:=Nat,slots:=fun j=>[(3,.own 0),(21,zD j)],rows:=fun j=>[.own 55 6 ((kJ s j).map zT)]},
 {ι:=Unit,slots:=fun _=>[],rows:=fun _=>[],un:=3}]
def yCu (s:MSt):List (Nat×SAnn):=[(15,{ι:=Nat×Top,slots:=fun x=>[(3,.own 0)],slots0:=fun x=>[(3,.own 0)],rows0:=fun x=>[.own 55 6 ((yM s x.1 x.2).map zT)],rows:=fun x=>[.own 55 6 ((yM s x.1 x.2).map zT)]})]
def z6n (s:MSt):List SAnn:=[{ι:=Nat,slots:=fun j=>[(3,.nm 0 0),(22,zD j)],rows:=fun j=>(List.range 5).map (yB ⟨s.p,s.books.take j,s.wh⟩)}]
open Go Cv Go.Proofs
def zNq (i:ArN):Prop:=
 cnd (decide (i.n≥0)) (cnd (!decide (i.n<(↑(List.map zG i.a.queues).length:Int))) (∃(o:Unit),(i.a.qAt i.n).total=0∧i.a.free=i.a.free∧List.map zK i.a.slots=List.map zK i.a.slots∧List.map zG i.a.queues=List.map zG i.a.queues∧True) ((0≤i.n∧i.n<(↑(List.map zG i.a.queues).length:Int))∧∃(n:Int),zH (List.map zG i.a.queues) i.n.toNat ((0:Nat)+(2:Nat)) 1=some [D.v (.int .i64 n)]∧∃(o:Unit),(i.a.qAt i.n).total=n∧i.a.free=i.a.free∧List.map zK i.a.slots=List.map zK i.a.slots∧List.map zG i.a.queues=List.map zG i.a.queues∧True)) (∃(o:Unit),(i.a.qAt i.n).total=0∧i.a.free=i.a.free∧List.map zK i.a.slots=List.map zK i.a.slots∧List.map zG i.a.queues=List.map zG i.a.queues∧True)
theorem zVe (hG:GOk Tryz.prog ([])) (h:∀(i:ArN),atotalC.cnd i→zNq i):atotalC.ok Tryz.prog 106:=okw mixed hG 1 (fun _=>[]) (fun _=>[]) [0] Tryz.func106 h
def zNr (i:ArN):Prop:=
 cnd (decide (i.n≥0)) (cnd (!decide (i.n<(↑(List.map zG i.a.queues).length:Int))) (∃(o:Unit),(i.a.qAt i.n).count=0∧i.a.free=i.a.free∧List.map zK i.a.slots=List.map zK i.a.slots∧List.map zG i.a.queues=List.map zG i.a.queues∧True) ((0≤i.n∧i.n<(↑(List.map zG i.a.queues).length:Int))∧∃(n:Int),zH (List.map zG i.a.queues) i.n.toNat ((0:Nat)+(3:Nat)) 1=some [D.v (.int .i64 n)]∧∃(o:Unit),(i.a.qAt i.n).count=n∧i.a.free=i.a.free∧List.map zK i.a.slots=List.map zK i.a.slots∧List.map zG i.a.queues=List.map zG i.a.queues∧True)) (∃(o:Unit),(i.a.qAt i.n).count=0∧i.a.free=i.a.free∧List.map zK i.a.slots=List.map zK i.a.slots∧List.map zG i.a.queues=List.map zG i.a.queues∧True)
theorem zYa (hG:GOk Tryz.prog ([])) (h:∀(i:ArN),acountC.cnd i→zNr i):acountC.ok Tryz.prog 107:=okw mixed hG 1 (fun _=>[]) (fun _=>[]) [0] Tryz.func107 h
def yDb (n:Int):Prop:=
 cnd (n==1) (∃(o:Unit),(decide (n=1)||decide (n=2))=true∧True) (∃(o:Unit),(decide (n=1)||decide (n=2))=(n==2)∧True)
theorem yEc (hG:GOk Tryz.prog ([])) (h:∀(n:Int),bisC.cnd n→yDb n):bisC.ok Tryz.prog 80:=okw mixed hG 0 (fun _=>[]) (fun _=>[]) [] Tryz.func80 h
def yCb (i:BkR):Prop:=
 ∃(i_1:ArN),i_1.n=i.r.queue∧AObj.adt Arena 3 zE i_1.a=AObj.adt Arena 3 zE i.b.a∧True∧∀(o:Unit),True→i.r.queue=i.r.queue∧True∧i.r.price=i.r.price∧∃(i_2:ArN),i_2.n=i.r.queue∧AObj.adt Arena 3 zE i_2.a=AObj.adt Arena 3 zE i_1.a∧True∧∀(o:Unit),True→i.r.price=i.r.price∧∃(o:Unit),i.r.price=i.r.price∧(i.b.a.qAt i.r.queue).total=(i_1.a.qAt i_1.n).total∧(i.b.a.qAt i.r.queue).count=(i_2.a.qAt i_2.n).count∧i.b.top1=i.b.top1∧i.b.top2=i.b.top2∧i.b.has1=i.b.has1∧i.b.has2=i.b.has2∧AObj.adt Arena 3 zE i.b.a=AObj.adt Arena 3 zE i_2.a∧List.map zA i.b.buys=List.map zA i.b.buys∧List.map zA i.b.sells=List.map zA i.b.sells∧atE i.b.at_=atE i.b.at_∧iE i.b.spare=iE i.b.spare∧True
theorem yAr (hG:GOk Tryz.prog ([(106,atotalC),(107,acountC)])) (h:∀(i:BkR),toldC.cnd i→yCb i):toldC.ok Tryz.prog 81:=okw mixed hG 0 (fun _=>[]) (fun _=>[]) [0] Tryz.func81 h
def yAb (b:Book):Prop:=
 ∃(i:Int),i=1∧True∧∀(o:Unit),True→cnd (!(decide (i=1)||decide (i=2))) (∃(o:Unit),(b.best b.buys).fst.price=0∧(b.best b.buys).fst.qty=0∧(b.best b.buys).fst.count=0∧(b.best b.buys).snd=false∧b.top1=b.top1∧b.top2=b.top2∧b.has1=b.has1∧b.has2=b.has2∧AObj.adt Arena 3 zE b.a=AObj.adt Arena 3 zE b.a∧List.map zA b.buys=List.map zA b.buys∧List.map zA b.sells=List.map zA b.sells∧atE b.at_=atE b.at_∧iE b.spare=iE b.spare∧True) (cnd ((↑(List.map zA b.buys).length:Int)==0) (∃(o:Unit),(b.best b.buys).fst.price=0∧(b.best b.buys).fst.qty=0∧(b.best b.buys).fst.count=0∧(b.best b.buys).snd=false∧b.top1=b.top1∧b.top2=b.top2∧b.has1=b.has1∧b.has2=b.has2∧AObj.adt Arena 3 zE b.a=AObj.adt Arena 3 zE b.a∧List.map zA b.buys=List.map zA b.buys∧List.map zA b.sells=List.map zA b.sells∧atE b.at_=atE b.at_∧iE b.spare=iE b.spare∧True) (((0:Int)≤(0:Int)∧0<(↑(List.map zA b.buys).length:Int))∧∃(n:Int),∃(n_1:Int),zH (List.map zA b.buys) (Int.toNat 0) 0 2=some [D.v (.int .i64 n),D.v (.int .i64 n_1)]∧∃(i:BkR),i.r.price=n∧i.r.queue=n_1∧i.b.top1=b.top1∧i.b.top2=b.top2∧i.b.has1=b.has1∧i.b.has2=b.has2∧AObj.adt Arena 3 zE i.b.a=AObj.adt Arena 3 zE b.a∧List.map zA i.b.buys=List.map zA b.buys∧List.map zA i.b.sells=List.map zA b.sells∧atE i.b.at_=atE b.at_∧iE i.b.spare=iE b.spare∧(∀(q:qC),q∈i.b.a.queues→(-9223372036854775808)≤q.count∧q.count≤9223372036854775807)∧∀(o:Unit),True→∃(o:Unit),(b.best b.buys).fst.price=i.r.price∧(b.best b.buys).fst.qty=(i.b.a.qAt i.r.queue).total∧(b.best b.buys).fst.count=(i.b.a.qAt i.r.queue).count∧(b.best b.buys).snd=true∧yC b=yC i.b∧True))
theorem zZz (hG:GOk Tryz.prog ([(80,bisC),(81,toldC)])) (h:∀(b:Book),best1C.cnd b→yAb b):best1C.ok Tryz.prog 49:=okw mixed hG 0 (fun _=>[]) (fun _=>[]) [0] Tryz.func49 h
def yAe (b:Book):Prop:=
 ∃(i:Int),i=2∧True∧∀(o:Unit),True→cnd (!(decide (i=1)||decide (i=2))) (∃(o:Unit),(b.best b.sells).fst.price=0∧(b.best b.sells).fst.qty=0∧(b.best b.sells).fst.count=0∧(b.best b.sells).snd=false∧b.top1=b.top1∧b.top2=b.top2∧b.has1=b.has1∧b.has2=b.has2∧AObj.adt Arena 3 zE b.a=AObj.adt Arena 3 zE b.a∧List.map zA b.buys=List.map zA b.buys∧List.map zA b.sells=List.map zA b.sells∧atE b.at_=atE b.at_∧iE b.spare=iE b.spare∧True) (cnd ((↑(List.map zA b.sells).length:Int)==0) (∃(o:Unit),(b.best b.sells).fst.price=0∧(b.best b.sells).fst.qty=0∧(b.best b.sells).fst.count=0∧(b.best b.sells).snd=false∧b.top1=b.top1∧b.top2=b.top2∧b.has1=b.has1∧b.has2=b.has2∧AObj.adt Arena 3 zE b.a=AObj.adt Arena 3 zE b.a∧List.map zA b.buys=List.map zA b.buys∧List.map zA b.sells=List.map zA b.sells∧atE b.at_=atE b.at_∧iE b.spare=iE b.spare∧True) (((0:Int)≤(0:Int)∧0<(↑(List.map zA b.sells).length:Int))∧∃(n:Int),∃(n_1:Int),zH (List.map zA b.sells) (Int.toNat 0) 0 2=some [D.v (.int .i64 n),D.v (.int .i64 n_1)]∧∃(i:BkR),i.r.price=n∧i.r.queue=n_1∧i.b.top1=b.top1∧i.b.top2=b.top2∧i.b.has1=b.has1∧i.b.has2=b.has2∧AObj.adt Arena 3 zE i.b.a=AObj.adt Arena 3 zE b.a∧List.map zA i.b.buys=List.map zA b.buys∧List.map zA i.b.sells=List.map zA b.sells∧atE i.b.at_=atE b.at_∧iE i.b.spare=iE b.spare∧(∀(q:qC),q∈i.b.a.queues→(-9223372036854775808)≤q.count∧q.count≤9223372036854775807)∧∀(o:Unit),True→∃(o:Unit),(b.best b.sells).fst.price=i.r.price∧(b.best b.sells).fst.qty=(i.b.a.qAt i.r.queue).total∧(b.best b.sells).fst.count=(i.b.a.qAt i.r.queue).count∧(b.best b.sells).snd=true∧yC b=yC i.b∧True))
theorem z1w (hG:GOk Tryz.prog ([(80,bisC),(81,toldC)])) (h:∀(b:Book),best2C.cnd b→yAe b):best2C.ok Tryz.prog 49:=okw mixed hG 0 (fun _=>[]) (fun _=>[]) [0] Tryz.func49 h
@[reducible] def zGe (s:MSt):AObj:=Sx.AObj.cells (uM (jN (0:Nat) (1:Nat) (5:Nat)) [sV s.p.code,V.own (3:Nat),zD s.p.tick,zD s.p.low,zD s.p.high,zD s.p.wide,zD s.p.rule,zD s.p.top,zD s.p.least,zD s.p.part,V.own (4:Nat),V.own (1:Nat),V.mp (2:Nat)]) (101:TypeId)
def z7g (s:MSt):Prop:=
 ∃(i:List (Value×List D)),i=yA s.wh∧True∧∀(o:Unit),True→(sb s.p.code=sb s.p.code∧True∧s.p.tick=s.p.tick∧s.p.low=s.p.low∧s.p.high=s.p.high∧s.p.wide=s.p.wide∧s.p.rule=s.p.rule∧s.p.top=s.p.top∧s.p.least=s.p.least∧s.p.part=s.p.part∧True∧True)∧∃(i0:Nat),(↑i0:Int)=0∧sb s.p.code=sb s.p.code∧s.p.tick=s.p.tick∧s.p.low=s.p.low∧s.p.high=s.p.high∧s.p.wide=s.p.wide∧s.p.rule=s.p.rule∧s.p.top=s.p.top∧s.p.least=s.p.least∧s.p.part=s.p.part∧List.take i0 s.books=[]∧(none:Option Nat)=none∧yA s.wh=i∧AObj.fro 1 (iE s.p.months)=AObj.fro 1 (iE s.p.months)∧AObj.fro 1 (iE s.p.settle)=AObj.fro 1 (iE s.p.settle)∧∃(I:Nat→Prop),∃(μ:Nat→Nat),I i0∧∀(i_1:Nat),I i_1→cnd (decide ((↑i_1:Int)<(↑s.books.length:Int))) ((0≤(↑i_1:Int)∧(↑i_1:Int)<(↑s.books.length:Int))∧(↑i_1:Int).toNat<s.books.length∧∃(x:Book),s.books[(↑i_1:Int).toNat]?=some x∧∃(i_2:Book),yC i_2=yC x∧((i_2.a.slots.length≤1000000∧i_2.a.queues.length≤1000000)∧i_2.buys.length≤1000000∧i_2.sells.length≤1000000∧i_2.spare.length≤1000000)∧∀(o:Unit),True→∃(x:Book),yC i_2=yC x∧(↑i_1:Int).toNat=(↑i_1:Int).toNat∧(↑i_1:Int).toNat<s.books.length∧True∧True∧∃(l1':List Book),AObj.objs 102 Book 6 zN (List.take i_1 s.books) none=AObj.objs 102 Book 6 zN l1' none∧(l1'.length+1)*(8:Nat)≤(70368744177664:Nat)∧∃(i':Nat),(↑i':Int)=IntKind.i64.wrap ((↑i_1:Int)+1)∧sb s.p.code=sb s.p.code∧s.p.tick=s.p.tick∧s.p.low=s.p.low∧s.p.high=s.p.high∧s.p.wide=s.p.wide∧s.p.rule=s.p.rule∧s.p.top=s.p.top∧s.p.least=s.p.least∧s.p.part=s.p.part∧AObj.objs 102 Book 6 zN (List.take i' s.books) none=AObj.objs 102 Book 6 zN (l1'++[i_2]) none∧yA s.wh=yA s.wh∧AObj.fro 1 (iE s.p.months)=AObj.fro 1 (iE s.p.months)∧AObj.fro 1 (iE s.p.settle)=AObj.fro 1 (iE s.p.settle)∧I i'∧μ i'<μ i_1∧Sx.AObj.map i=Sx.AObj.map i∧zGe s=zGe s∧AObj.objs 102 Book 6 zN (s.books.set (↑i_1:Int).toNat x) none=AObj.objs 102 Book 6 zN s.books none∧AObj.fro 1 (iE s.p.months)=AObj.fro 1 (iE s.p.months)∧AObj.fro 1 (iE s.p.settle)=AObj.fro 1 (iE s.p.settle)) (∃(o:Unit),sb s.p.code=sb s.p.code∧s.p.tick=s.p.tick∧s.p.low=s.p.low∧s.p.high=s.p.high∧s.p.wide=s.p.wide∧s.p.rule=s.p.rule∧s.p.top=s.p.top∧s.p.least=s.p.least∧s.p.part=s.p.part∧AObj.objs 102 Book 6 zN s.books none=AObj.objs 102 Book 6 zN s.books none∧yA s.wh=i∧AObj.fro 1 (iE s.p.months)=AObj.fro 1 (iE s.p.months)∧AObj.fro 1 (iE s.p.settle)=AObj.fro 1 (iE s.p.settle)∧sb s.p.code=sb s.p.code∧s.p.tick=s.p.tick∧s.p.low=s.p.low∧s.p.high=s.p.high∧s.p.wide=s.p.wide∧s.p.rule=s.p.rule∧s.p.top=s.p.top∧s.p.least=s.p.least∧s.p.part=s.p.part∧AObj.objs 102 Book 6 zN s.books none=AObj.objs 102 Book 6 zN (List.take i_1 s.books) none∧yA s.wh=yA s.wh∧AObj.fro 1 (iE s.p.months)=AObj.fro 1 (iE s.p.months)∧AObj.fro 1 (iE s.p.settle)=AObj.fro 1 (iE s.p.settle)∧True)
theorem z0d (hG:GOk Tryz.prog ([(78,clWhC),(79,copyBC)])) (h:∀(s:MSt),copySC.cnd s→z7g s):copySC.ok Tryz.prog 48:=okw mixed hG 0 (fun _=>[]) (fun s=>z6n s) [0] Tryz.func48 h
open Go Cv Go.Proofs
theorem elA {α:Type} {f:α→List D} {l:List α} {i g n:Nat} {x:α} {r:List D} (h:l[i]? =some x) (hn:g+n≤(f x).length) (hr:((f x).drop g).take n=r):zH (l.map f) i g n=some r:=by
 unfold zH
 rw[List.getElem?_map,h]
 simp only[Option.map_some,Nat.ble_eq_true_of_le hn,cond_true,hr]
theorem zEf {a:Arena} {n:Int} {q:qC} (h0:0≤n) (h:a.queues[n.toNat]? =some q):a.qAt n=q:=by
 have:=(List.getElem?_eq_some_iff.1 h).1
 rw[Arena.qAt,if_pos ⟨h0,by omega⟩,List.getD_eq_getElem?_getD,h];rfl
theorem rA {a:Arena} {n:Int} (h:¬(0≤n∧n<a.queues.length)):a.qAt n=⟨0,0,0,0⟩:=by rw[Arena.qAt,if_neg h]
theorem zRp:atotalC.ok Tryz.prog 106:=zVe gok0 fun i _=>by
 unfold zNq
 simp only[List.length_map]
 refine zQ (fun c=>Cv.cnd.mk (fun d=> ?_) (fun d=> ?_)) (fun c=> ?_)
 ·have d:¬i.n<(i.a.queues.length:Int):=by simpa using d
  rw[rA (by omega)];exact kp
 ·have d:i.n<(i.a.queues.length:Int):=by simpa using d
  obtain⟨q,hq⟩:=yE (l:=i.a.queues) (i:=i.n.toNat) (by omega)
  rw[zEf (by omega) hq]
  refine⟨⟨by omega,by omega⟩,q.total,elA hq (by simp[zG]) rfl,?_⟩;exact kp
 ·rw[rA (by omega)];exact kp
theorem nS:acountC.ok Tryz.prog 107:=zYa gok0 fun i _=>by
 unfold zNr
 simp only[List.length_map]
 refine zQ (fun c=>Cv.cnd.mk (fun d=> ?_) (fun d=> ?_)) (fun c=> ?_)
 ·have d:¬i.n<(i.a.queues.length:Int):=by simpa using d
  rw[rA (by omega)];exact kp
 ·have d:i.n<(i.a.queues.length:Int):=by simpa using d
  obtain⟨q,hq⟩:=yE (l:=i.a.queues) (i:=i.n.toNat) (by omega)
  rw[zEf (by omega) hq]
  refine⟨⟨by omega,by omega⟩,q.count,elA hq (by simp[zG]) rfl,?_⟩;exact kp
 ·rw[rA (by omega)];exact kp
theorem nZ:bisC.ok Tryz.prog 80:=yEc gok0 fun n _=>by
 unfold yDb
 refine Cv.cnd.mk (fun c=>⟨(),?_,trivial⟩) (fun c=>⟨(),?_,trivial⟩)
 all_goals simp at c
 ·simp[c]
 ·by_cases h:n=2<;>simp[c,h]
theorem zQf:toldC.ok Tryz.prog 81:=yAr (gokc zRp (gokc nS gok0)) fun i h=>by
 refine⟨⟨i.b.a,i.r.queue⟩,?_⟩;(repeat'(first|exact rfl|exact trivial|assumption|apply And.intro|refine fun(_:Unit) (_:True)=>?_|refine Exists.intro () ?_|omega|(dsimp only;omega)))
 refine⟨⟨i.b.a,i.r.queue⟩,?_⟩;exact kp
theorem zXa:best1C.ok Tryz.prog 49:=zZz (gokc nZ (gokc zQf gok0)) fun b h=>by
 have h:b.cntOk:=h
 refine⟨1,rfl,trivial,fun _ _=>Cv.cnd.mk (fun c=>absurd c (by decide)) fun _=> ?_⟩
 simp only[List.length_map]
 refine Cv.cnd.mk (fun c=> ?_) (fun c=> ?_)
 ·have hl:b.buys=[]:=List.eq_nil_of_length_eq_zero (by have:(b.buys.length:Int)=0:=(by simpa using c);omega)
  have e:b.best b.buys=(⟨0,0,0⟩,false):=by rw[hl];rfl
  rw[e];exact kp
 ·obtain⟨r,l,hl⟩:∃r l,b.buys=r::l:=by
   cases hb:b.buys with
   |nil=>rw[hb]at c;exact absurd c (by decide)
   |cons r l=>exact⟨r,l,rfl⟩
  have e:b.best b.buys=(b.told r,true):=by rw[hl];rfl
  rw[e]
  refine⟨⟨by omega,by rw[hl,List.length_cons];omega⟩,r.price,r.queue,elA (x:=r) (by rw[hl];rfl) (by simp[zA]) rfl,⟨b,r⟩,?_⟩
  exact kp
theorem zUs:best2C.ok Tryz.prog 49:=z1w (gokc nZ (gokc zQf gok0)) fun b h=>by
 have h:b.cntOk:=h
 refine⟨2,rfl,trivial,fun _ _=>Cv.cnd.mk (fun c=>absurd c (by decide)) fun _=> ?_⟩
 simp only[List.length_map]
 refine Cv.cnd.mk (fun c=> ?_) (fun c=> ?_)
 ·have hl:b.sells=[]:=List.eq_nil_of_length_eq_zero (by have:(b.sells.length:Int)=0:=(by simpa using c);omega)
  have e:b.best b.sells=(⟨0,0,0⟩,false):=by rw[hl];rfl
  rw[e];exact kp
 ·obtain⟨r,l,hl⟩:∃r l,b.sells=r::l:=by
   cases hb:b.sells with
   |nil=>rw[hb]at c;exact absurd c (by decide)
   |cons r l=>exact⟨r,l,rfl⟩
  have e:b.best b.sells=(b.told r,true):=by rw[hl];rfl
  rw[e]
  refine⟨⟨by omega,by rw[hl,List.length_cons];omega⟩,r.price,r.queue,elA (x:=r) (by rw[hl];rfl) (by simp[zA]) rfl,⟨b,r⟩,?_⟩
  exact kp
theorem zDr:bestC.ok Tryz.prog 49:=fun i=>match i with
 |⟨false,b⟩=>zXa b
 |⟨true,b⟩=>zUs b
theorem eD {α:Type} (f:α→α) (x:α) (b:List α):∀a:List α,(a++x::b).modify a.length f=a++f x::b
 |[]=>rfl
 |y::a=>by
  show y::(a++x::b).modify a.length f=_
  rw[eD f x b a];rfl
theorem zAq {els:List (List D)} {a b:List (List D)} {x y ds:List D} {j f:Nat} (h:els=a++x::b) (hl:a.length=j) (hy:x.take f++(ds++x.drop (f+ds.length))=y):zJ els j f ds=a++y::b:=by
 rw[zJ,h,← hl,eD,hy]
theorem wS {s:MSt} {j:Nat} {x y:Top} {f:Nat} {ds:List D} (hj:j<s.books.length) (hy:(zT x).take f++(ds++(zT x).drop (f+ds.length))=zT y):
 zJ (List.map zT (yM s j x)) j f ds=List.map zT (yM s j y):=by
 rw[zAq (a:=(s.tops.take j).map zT) (b:=(List.replicate (s.books.length-j-1) top0).map zT) (by rw[yM,List.map_append,List.map_cons]) (by
  rw[List.length_map,List.length_take,MSt.tops,List.length_map];omega) hy,yM,List.map_append,List.map_cons]
theorem zKy {s:MSt} {j:Nat} {x:Top} (hj:j<s.books.length):(yM s j x).length=s.books.length:=by
 rw[yM,List.length_append,List.length_cons,List.length_take,MSt.tops,List.length_map,List.length_replicate];omega
theorem zHt {s:MSt} {j:Nat} (hj:j<s.books.length):yM s j top0=kJ s j:=by
 rw[yM,kJ]
 obtain⟨m,hm⟩:∃m,s.books.length-j=m+1:=⟨s.books.length-j-1,by omega⟩
 rw[hm,List.replicate_succ];rfl
theorem zJm {s:MSt} {j:Nat} {b:Book} (hb:s.books[j]? =some b):yM s j b.top=kJ s (j+1):=by
 have hj:=(List.getElem?_eq_some_iff.1 hb).1
 rw[yM,kJ,List.take_add_one,show s.tops[j]? =some b.top by rw[MSt.tops,List.getElem?_map,hb];rfl]
 simp only[Option.toList_some,List.append_assoc,List.cons_append,List.nil_append]
 rw[show s.books.length-j-1=s.books.length-(j+1)by omega]
theorem dM {α:Type} {l:List α} {j:Nat} {x:α} (h:l[j]? =some x):l.set j x=l:=by
 obtain⟨hj,rfl⟩:=List.getElem?_eq_some_iff.1 h
 exact List.set_getElem_self hj
theorem dZ:copySC.ok Tryz.prog 48:=z0d (gokc z0u (gokc zWs gok0)) fun s h=>by
 obtain⟨h1,h2⟩:s.small:=h
 refine⟨yA s.wh,?_⟩;(repeat'(first|exact rfl|exact trivial|assumption|apply And.intro|refine fun(_:Unit) (_:True)=>?_|refine Exists.intro () ?_|omega|(dsimp only;omega)))
 refine⟨0,?_⟩;(repeat'(first|exact rfl|exact trivial|assumption|apply And.intro|refine fun(_:Unit) (_:True)=>?_|refine Exists.intro () ?_|omega|(dsimp only;omega)))
 refine⟨fun j=>j≤s.books.length,fun j=>s.books.length-j,by omega,fun j hj=>zQ (fun hlt=> ?_) (fun hlt=> ?_)⟩
 ·obtain⟨b,hb⟩:=yE (l:=s.books) (i:=j) (by omega)
  have hs:=h2 b (List.mem_of_getElem? hb)
  simp only[Int.toNat_natCast]
  refine⟨⟨by omega,by omega⟩,by omega,b,hb,b,rfl,hs,fun _ _=>⟨b,rfl,kp,by omega,trivial,trivial,s.books.take j,rfl,?_,j+1,?_⟩⟩
  ·rw[List.length_take];omega
  ·rw[w64 (by omega),List.take_add_one,hb]
   (repeat'(first|exact rfl|exact trivial|assumption|apply And.intro|refine fun(_:Unit) (_:True)=>?_|refine Exists.intro () ?_|omega|(dsimp only;omega)))
   rw[dM hb]
 ·have hj:j≤s.books.length:=hj
  obtain rfl:j=s.books.length:=by omega
  rw[List.take_of_length_le (Nat.le_refl _)]
  exact kp
open Go Cv Go.Proofs
structure Leg where
 inst:Int
 side:Int
 deriving DecidableEq
structure Quote where
 price:Int
 qty:Int
 a:Leg
 b:Leg
 deriving DecidableEq
def zF (q:Quote):List D:=[.v (.int .i64 q.price),.v (.int .i64 q.qty),.v (.int .i64 q.a.inst),.v (.int .i64 q.a.side),.v (.int .i64 q.b.inst),.v (.int .i64 q.b.side)]
@[reducible] def zJy (q:Quote):V:= .agg [zD q.price,zD q.qty,zD q.a.inst,zD q.a.side,zD q.b.inst,zD q.b.side]
def z8h:Quote:=⟨0,0,⟨0,0⟩,⟨0,0⟩⟩
structure I3' where
 side:Int
 x:Int
 y:Int
def btr (side x y:Int):Bool:=if side=1 then decide (y<x)else decide (x<y)
def iotherC:Con:=con1 Int (fun n=>[zD n]) (fun _=>[]) (fun n=>n=1∨n=2) (fun n=>zD (3-n)) (fun _=>[])
def ibetterC:Con:=con1 I3' (fun i=>[zD i.side,zD i.x,zD i.y]) (fun _=>[]) (fun _=>True) (fun i=>yJ (btr i.side i.x i.y)) (fun _=>[])
structure CrI where
 x:Int
 y:Int
 b:Bool
def Top.has (t:Top) (s:Int):Bool:=if s=1 then t.has1 else t.has2
def Top.price (t:Top) (s:Int):Int:=if s=1 then t.p1 else t.p2
def Top.qty (t:Top) (s:Int):Int:=if s=1 then t.q1 else t.q2
def mkq (tops:List Top) (a b:Leg) (less:Bool):List Quote:=
 let x:=tops.getD a.inst.toNat top0
 let y:=tops.getD b.inst.toNat top0
 let r:=if less then jE (y.price b.side) (x.price a.side)else jJ (x.price a.side) (y.price b.side)
 if x.has a.side && y.has b.side && r.2 then[⟨r.1,min (x.qty a.side) (y.qty b.side),a,b⟩]else[]
structure MkI where
 tops:List Top
 out:List Quote
 a:Int
 b:Int
 less:Bool
@[reducible] def k8 (l:List Top):Prop:=l.length≤1000000∧∀t∈l,yL t.p1∧yL t.p2
def MkU (x:List Top×List Quote):Nat→AObj
 |0=> .cells [.own 1,.own 2] 110
 |1=> .fro 6 (x.1.map zT)
 |2=> .own 62 6 (x.2.map zF)
 |_=> .gone
@[reducible] def MkR (tops:List Top) (out:List Quote):List AObj:=[MkU (tops,out) 0,MkU (tops,out) 1,MkU (tops,out) 2]
@[reducible] def MkP (tops:List Top) (out:List Quote):List AObj:=[.cells [.own 1,.own 3] 110,MkU (tops,out) 1,.gone,MkU (tops,out) 2]
def mkC (sa sb:Int):Con:=con1 MkI (fun i=>[.nm 0 0,.agg [zD i.a,zD sa],.agg [zD i.b,zD sb],yJ i.less]) (fun i=>MkR i.tops i.out)
 (fun i=>0≤i.a∧i.a<i.tops.length∧0≤i.b∧i.b<i.tops.length∧k8 i.tops∧i.out.length≤1000) (fun _=>zHe) (fun i=>MkP i.tops (i.out++mkq i.tops ⟨i.a,sa⟩ ⟨i.b,sb⟩ i.less))
def mk11:Con:=mkC 1 1
def mk12:Con:=mkC 1 2
def mk21:Con:=mkC 2 1
def mk22:Con:=mkC 2 2
open Go Cv Go.Proofs
def z2y (n:Int):Prop:=
 ∃(o:Unit),3-n=IntKind.i64.wrap (3-n)∧True
theorem zUc (hG:GOk Tryz.prog ([])) (h:∀(n:Int),iotherC.cnd n→z2y n):iotherC.ok Tryz.prog 52:=okw mixed hG 0 (fun _=>[]) (fun _=>[]) [] Tryz.func52 h
def zVl (i:I3'):Prop:=
 cnd (i.side==1) (∃(o:Unit),btr i.side i.x i.y=decide (i.x>i.y)∧True) (∃(o:Unit),btr i.side i.x i.y=decide (i.x<i.y)∧True)
theorem zTj (hG:GOk Tryz.prog ([])) (h:∀(i:I3'),ibetterC.cnd i→zVl i):ibetterC.ok Tryz.prog 94:=okw mixed hG 0 (fun _=>[]) (fun _=>[]) [] Tryz.func94 h
@[reducible] def zDc (i:MkI) (b:Bool) (n:Int) (n_2:Int) (n_4:Int) (n_6:Int):Prop:=∃(i_1:I2),i_1.x=n∧i_1.y=n_4∧(((-9223372036854775808)≤i_1.x∧i_1.x≤9223372036854775807)∧(-9223372036854775808)≤i_1.y∧i_1.y≤9223372036854775807)∧∀(o:Unit),True→cnd i.less (∃(i_2:I2),i_2.x=n_4∧i_2.y=n∧(((-9223372036854775808)≤i_2.x∧i_2.x≤9223372036854775807)∧(-9223372036854775808)≤i_2.y∧i_2.y≤9223372036854775807)∧∀(o:Unit),True→cnd (jE i_2.x i_2.y).snd (True∧((List.map zF i.out).length+1)*(48:Nat)≤(70368744177664:Nat)∧∃(o:Unit),AObj.fro 6 (List.map zT i.tops)=MkU (i.tops,i.out) 1∧List.map zF (i.out++mkq i.tops (Leg.mk i.a 1) (Leg.mk i.b 1) i.less)=List.map zF i.out++[[D.v (.int .i64 (jE i_2.x i_2.y).fst),D.v (.int .i64 (min n_2 n_6)),D.v (.int .i64 i.a),D.v (.int .i64 1),D.v (.int .i64 i.b),D.v (.int .i64 1)]]∧True) (∃(o:Unit),AObj.fro 6 (List.map zT i.tops)=MkU (i.tops,i.out) 1∧List.map zF (i.out++mkq i.tops (Leg.mk i.a 1) (Leg.mk i.b 1) i.less)=List.map zF i.out∧True)) (cnd (jJ i_1.x i_1.y).snd (True∧((List.map zF i.out).length+1)*(48:Nat)≤(70368744177664:Nat)∧∃(o:Unit),AObj.fro 6 (List.map zT i.tops)=MkU (i.tops,i.out) 1∧List.map zF (i.out++mkq i.tops (Leg.mk i.a 1) (Leg.mk i.b 1) i.less)=List.map zF i.out++[[D.v (.int .i64 (jJ i_1.x i_1.y).fst),D.v (.int .i64 (min n_2 n_6)),D.v (.int .i64 i.a),D.v (.int .i64 1),D.v (.int .i64 i.b),D.v (.int .i64 1)]]∧True) (∃(o:Unit),AObj.fro 6 (List.map zT i.tops)=MkU (i.tops,i.out) 1∧List.map zF (i.out++mkq i.tops (Leg.mk i.a 1) (Leg.mk i.b 1) i.less)=List.map zF i.out∧True))
@[reducible] def aZ (i:MkI) (b:Bool):Prop:=∃(o:Unit),AObj.fro 6 (List.map zT i.tops)=MkU (i.tops,i.out) 1∧List.map zF (i.out++mkq i.tops (Leg.mk i.a 1) (Leg.mk i.b 1) i.less)=List.map zF i.out∧True
def zZc (i:MkI):Prop:=
 (0≤i.a∧i.a<(↑(List.map zT i.tops).length:Int))∧∃(b:Bool),∃(b_1:Bool),∃(n:Int),∃(n_1:Int),∃(n_2:Int),∃(n_3:Int),zH (List.map zT i.tops) i.a.toNat 0 6=some [D.v (.bool b),D.v (.bool b_1),D.v (.int .i64 n),D.v (.int .i64 n_1),D.v (.int .i64 n_2),D.v (.int .i64 n_3)]∧(0≤i.b∧i.b<(↑(List.map zT i.tops).length:Int))∧∃(b_2:Bool),∃(b_3:Bool),∃(n_4:Int),∃(n_5:Int),∃(n_6:Int),∃(n_7:Int),zH (List.map zT i.tops) i.b.toNat 0 6=some [D.v (.bool b_2),D.v (.bool b_3),D.v (.int .i64 n_4),D.v (.int .i64 n_5),D.v (.int .i64 n_6),D.v (.int .i64 n_7)]∧(True∧((0≤i.b∧i.b<(↑(List.map zT i.tops).length:Int))∧i.b.toNat=i.b.toNat)∧i.b=i.b∧True∧True∧((0≤i.a∧i.a<(↑(List.map zT i.tops).length:Int))∧i.a.toNat=i.a.toNat)∧i.a=i.a∧True∧True∧((0≤i.b∧i.b<(↑(List.map zT i.tops).length:Int))∧i.b.toNat=i.b.toNat)∧i.b=i.b∧True∧True∧((0≤i.a∧i.a<(↑(List.map zT i.tops).length:Int))∧i.a.toNat=i.a.toNat)∧i.a=i.a∧True∧True∧((0≤i.b∧i.b<(↑(List.map zT i.tops).length:Int))∧i.b.toNat=i.b.toNat)∧i.b=i.b∧True∧cnd (!b) (aZ i b) (cnd (!b_2) (aZ i b) (zDc i b n n_2 n_4 n_6)))∧True∧((0≤i.b∧i.b<(↑(List.map zT i.tops).length:Int))∧i.b.toNat=i.b.toNat)∧i.b=i.b∧True∧True∧((0≤i.a∧i.a<(↑(List.map zT i.tops).length:Int))∧i.a.toNat=i.a.toNat)∧i.a=i.a∧True∧True∧((0≤i.b∧i.b<(↑(List.map zT i.tops).length:Int))∧i.b.toNat=i.b.toNat)∧i.b=i.b∧True∧True∧((0≤i.a∧i.a<(↑(List.map zT i.tops).length:Int))∧i.a.toNat=i.a.toNat)∧i.a=i.a∧True∧True∧((0≤i.b∧i.b<(↑(List.map zT i.tops).length:Int))∧i.b.toNat=i.b.toNat)∧i.b=i.b∧True∧cnd (!b) (aZ i b) (cnd (!b_2) (aZ i b) (zDc i b n n_2 n_4 n_6))
theorem yAn (hG:GOk Tryz.prog ([(87,addC),(88,subC)])) (h:∀(i:MkI),mk11.cnd i→zZc i):mk11.ok Tryz.prog 53:=okw mixed hG 0 (fun _=>[]) (fun _=>[]) [] Tryz.func53 h
@[reducible] def zDk (i:MkI) (b:Bool) (n:Int) (n_2:Int) (n_5:Int) (n_7:Int):Prop:=∃(i_1:I2),i_1.x=n∧i_1.y=n_5∧(((-9223372036854775808)≤i_1.x∧i_1.x≤9223372036854775807)∧(-9223372036854775808)≤i_1.y∧i_1.y≤9223372036854775807)∧∀(o:Unit),True→cnd i.less (∃(i_2:I2),i_2.x=n_5∧i_2.y=n∧(((-9223372036854775808)≤i_2.x∧i_2.x≤9223372036854775807)∧(-9223372036854775808)≤i_2.y∧i_2.y≤9223372036854775807)∧∀(o:Unit),True→cnd (jE i_2.x i_2.y).snd (True∧((List.map zF i.out).length+1)*(48:Nat)≤(70368744177664:Nat)∧∃(o:Unit),AObj.fro 6 (List.map zT i.tops)=MkU (i.tops,i.out) 1∧List.map zF (i.out++mkq i.tops (Leg.mk i.a 1) (Leg.mk i.b 2) i.less)=List.map zF i.out++[[D.v (.int .i64 (jE i_2.x i_2.y).fst),D.v (.int .i64 (min n_2 n_7)),D.v (.int .i64 i.a),D.v (.int .i64 1),D.v (.int .i64 i.b),D.v (.int .i64 2)]]∧True) (∃(o:Unit),AObj.fro 6 (List.map zT i.tops)=MkU (i.tops,i.out) 1∧List.map zF (i.out++mkq i.tops (Leg.mk i.a 1) (Leg.mk i.b 2) i.less)=List.map zF i.out∧True)) (cnd (jJ i_1.x i_1.y).snd (True∧((List.map zF i.out).length+1)*(48:Nat)≤(70368744177664:Nat)∧∃(o:Unit),AObj.fro 6 (List.map zT i.tops)=MkU (i.tops,i.out) 1∧List.map zF (i.out++mkq i.tops (Leg.mk i.a 1) (Leg.mk i.b 2) i.less)=List.map zF i.out++[[D.v (.int .i64 (jJ i_1.x i_1.y).fst),D.v (.int .i64 (min n_2 n_7)),D.v (.int .i64 i.a),D.v (.int .i64 1),D.v (.int .i64 i.b),D.v (.int .i64 2)]]∧True) (∃(o:Unit),AObj.fro 6 (List.map zT i.tops)=MkU (i.tops,i.out) 1∧List.map zF (i.out++mkq i.tops (Leg.mk i.a 1) (Leg.mk i.b 2) i.less)=List.map zF i.out∧True))
@[reducible] def aL (i:MkI) (b:Bool):Prop:=∃(o:Unit),AObj.fro 6 (List.map zT i.tops)=MkU (i.tops,i.out) 1∧List.map zF (i.out++mkq i.tops (Leg.mk i.a 1) (Leg.mk i.b 2) i.less)=List.map zF i.out∧True
def zXw (i:MkI):Prop:=
 (0≤i.a∧i.a<(↑(List.map zT i.tops).length:Int))∧∃(b:Bool),∃(b_1:Bool),∃(n:Int),∃(n_1:Int),∃(n_2:Int),∃(n_3:Int),zH (List.map zT i.tops) i.a.toNat 0 6=some [D.v (.bool b),D.v (.bool b_1),D.v (.int .i64 n),D.v (.int .i64 n_1),D.v (.int .i64 n_2),D.v (.int .i64 n_3)]∧(0≤i.b∧i.b<(↑(List.map zT i.tops).length:Int))∧∃(b_2:Bool),∃(b_3:Bool),∃(n_4:Int),∃(n_5:Int),∃(n_6:Int),∃(n_7:Int),zH (List.map zT i.tops) i.b.toNat 0 6=some [D.v (.bool b_2),D.v (.bool b_3),D.v (.int .i64 n_4),D.v (.int .i64 n_5),D.v (.int .i64 n_6),D.v (.int .i64 n_7)]∧(True∧((0≤i.b∧i.b<(↑(List.map zT i.tops).length:Int))∧i.b.toNat=i.b.toNat)∧i.b=i.b∧True∧True∧((0≤i.a∧i.a<(↑(List.map zT i.tops).length:Int))∧i.a.toNat=i.a.toNat)∧i.a=i.a∧True∧True∧((0≤i.b∧i.b<(↑(List.map zT i.tops).length:Int))∧i.b.toNat=i.b.toNat)∧i.b=i.b∧True∧True∧((0≤i.a∧i.a<(↑(List.map zT i.tops).length:Int))∧i.a.toNat=i.a.toNat)∧i.a=i.a∧True∧True∧((0≤i.b∧i.b<(↑(List.map zT i.tops).length:Int))∧i.b.toNat=i.b.toNat)∧i.b=i.b∧True∧cnd (!b) (aL i b) (cnd (!b_3) (aL i b) (zDk i b n n_2 n_5 n_7)))∧True∧((0≤i.b∧i.b<(↑(List.map zT i.tops).length:Int))∧i.b.toNat=i.b.toNat)∧i.b=i.b∧True∧True∧((0≤i.a∧i.a<(↑(List.map zT i.tops).length:Int))∧i.a.toNat=i.a.toNat)∧i.a=i.a∧True∧True∧((0≤i.b∧i.b<(↑(List.map zT i.tops).length:Int))∧i.b.toNat=i.b.toNat)∧i.b=i.b∧True∧True∧((0≤i.a∧i.a<(↑(List.map zT i.tops).length:Int))∧i.a.toNat=i.a.toNat)∧i.a=i.a∧True∧True∧((0≤i.b∧i.b<(↑(List.map zT i.tops).length:Int))∧i.b.toNat=i.b.toNat)∧i.b=i.b∧True∧cnd (!b) (aL i b) (cnd (!b_3) (aL i b) (zDk i b n n_2 n_5 n_7))
theorem z8c (hG:GOk Tryz.prog ([(87,addC),(88,subC)])) (h:∀(i:MkI),mk12.cnd i→zXw i):mk12.ok Tryz.prog 53:=okw mixed hG 0 (fun _=>[]) (fun _=>[]) [] Tryz.func53 h
@[reducible] def zDn (i:MkI) (b:Bool) (n:Int) (n_1:Int) (n_3:Int) (n_5:Int):Prop:=∃(i_1:I2),i_1.x=n_1∧i_1.y=n∧(((-9223372036854775808)≤i_1.x∧i_1.x≤9223372036854775807)∧(-9223372036854775808)≤i_1.y∧i_1.y≤9223372036854775807)∧∀(o:Unit),True→cnd i.less (∃(i_2:I2),i_2.x=n∧i_2.y=n_1∧(((-9223372036854775808)≤i_2.x∧i_2.x≤9223372036854775807)∧(-9223372036854775808)≤i_2.y∧i_2.y≤9223372036854775807)∧∀(o:Unit),True→cnd (jE i_2.x i_2.y).snd (True∧((List.map zF i.out).length+1)*(48:Nat)≤(70368744177664:Nat)∧∃(o:Unit),AObj.fro 6 (List.map zT i.tops)=MkU (i.tops,i.out) 1∧List.map zF (i.out++mkq i.tops (Leg.mk i.a 2) (Leg.mk i.b 1) i.less)=List.map zF i.out++[[D.v (.int .i64 (jE i_2.x i_2.y).fst),D.v (.int .i64 (min n_3 n_5)),D.v (.int .i64 i.a),D.v (.int .i64 2),D.v (.int .i64 i.b),D.v (.int .i64 1)]]∧True) (∃(o:Unit),AObj.fro 6 (List.map zT i.tops)=MkU (i.tops,i.out) 1∧List.map zF (i.out++mkq i.tops (Leg.mk i.a 2) (Leg.mk i.b 1) i.less)=List.map zF i.out∧True)) (cnd (jJ i_1.x i_1.y).snd (True∧((List.map zF i.out).length+1)*(48:Nat)≤(70368744177664:Nat)∧∃(o:Unit),AObj.fro 6 (List.map zT i.tops)=MkU (i.tops,i.out) 1∧List.map zF (i.out++mkq i.tops (Leg.mk i.a 2) (Leg.mk i.b 1) i.less)=List.map zF i.out++[[D.v (.int .i64 (jJ i_1.x i_1.y).fst),D.v (.int .i64 (min n_3 n_5)),D.v (.int .i64 i.a),D.v (.int .i64 2),D.v (.int .i64 i.b),D.v (.int .i64 1)]]∧True) (∃(o:Unit),AObj.fro 6 (List.map zT i.tops)=MkU (i.tops,i.out) 1∧List.map zF (i.out++mkq i.tops (Leg.mk i.a 2) (Leg.mk i.b 1) i.less)=List.map zF i.out∧True))
@[reducible] def mT (i:MkI) (b:Bool):Prop:=∃(o:Unit),AObj.fro 6 (List.map zT i.tops)=MkU (i.tops,i.out) 1∧List.map zF (i.out++mkq i.tops (Leg.mk i.a 2) (Leg.mk i.b 1) i.less)=List.map zF i.out∧True
def zTq (i:MkI):Prop:=
 (0≤i.a∧i.a<(↑(List.map zT i.tops).length:Int))∧∃(b:Bool),∃(b_1:Bool),∃(n:Int),∃(n_1:Int),∃(n_2:Int),∃(n_3:Int),zH (List.map zT i.tops) i.a.toNat 0 6=some [D.v (.bool b),D.v (.bool b_1),D.v (.int .i64 n),D.v (.int .i64 n_1),D.v (.int .i64 n_2),D.v (.int .i64 n_3)]∧(0≤i.b∧i.b<(↑(List.map zT i.tops).length:Int))∧∃(b:Bool),∃(b_2:Bool),∃(n:Int),∃(n_4:Int),∃(n_5:Int),∃(n_6:Int),zH (List.map zT i.tops) i.b.toNat 0 6=some [D.v (.bool b),D.v (.bool b_2),D.v (.int .i64 n),D.v (.int .i64 n_4),D.v (.int .i64 n_5),D.v (.int .i64 n_6)]∧(True∧((0≤i.b∧i.b<(↑(List.map zT i.tops).length:Int))∧i.b.toNat=i.b.toNat)∧i.b=i.b∧True∧True∧((0≤i.a∧i.a<(↑(List.map zT i.tops).length:Int))∧i.a.toNat=i.a.toNat)∧i.a=i.a∧True∧True∧((0≤i.b∧i.b<(↑(List.map zT i.tops).length:Int))∧i.b.toNat=i.b.toNat)∧i.b=i.b∧True∧True∧((0≤i.a∧i.a<(↑(List.map zT i.tops).length:Int))∧i.a.toNat=i.a.toNat)∧i.a=i.a∧True∧True∧((0≤i.b∧i.b<(↑(List.map zT i.tops).length:Int))∧i.b.toNat=i.b.toNat)∧i.b=i.b∧True∧cnd (!b_1) (mT i b) (cnd (!b) (mT i b) (zDn i b n n_1 n_3 n_5)))∧True∧((0≤i.b∧i.b<(↑(List.map zT i.tops).length:Int))∧i.b.toNat=i.b.toNat)∧i.b=i.b∧True∧True∧((0≤i.a∧i.a<(↑(List.map zT i.tops).length:Int))∧i.a.toNat=i.a.toNat)∧i.a=i.a∧True∧True∧((0≤i.b∧i.b<(↑(List.map zT i.tops).length:Int))∧i.b.toNat=i.b.toNat)∧i.b=i.b∧True∧True∧((0≤i.a∧i.a<(↑(List.map zT i.tops).length:Int))∧i.a.toNat=i.a.toNat)∧i.a=i.a∧True∧True∧((0≤i.b∧i.b<(↑(List.map zT i.tops).length:Int))∧i.b.toNat=i.b.toNat)∧i.b=i.b∧True∧cnd (!b_1) (mT i b) (cnd (!b) (mT i b) (zDn i b n n_1 n_3 n_5))
theorem yBh (hG:GOk Tryz.prog ([(87,addC),(88,subC)])) (h:∀(i:MkI),mk21.cnd i→zTq i):mk21.ok Tryz.prog 53:=okw mixed hG 0 (fun _=>[]) (fun _=>[]) [] Tryz.func53 h
@[reducible] def zDe (i:MkI) (b:Bool) (n_1:Int) (n_3:Int) (n_4:Int) (n_6:Int):Prop:=∃(i_1:I2),i_1.x=n_1∧i_1.y=n_4∧(((-9223372036854775808)≤i_1.x∧i_1.x≤9223372036854775807)∧(-9223372036854775808)≤i_1.y∧i_1.y≤9223372036854775807)∧∀(o:Unit),True→cnd i.less (∃(i_2:I2),i_2.x=n_4∧i_2.y=n_1∧(((-9223372036854775808)≤i_2.x∧i_2.x≤9223372036854775807)∧(-9223372036854775808)≤i_2.y∧i_2.y≤9223372036854775807)∧∀(o:Unit),True→cnd (jE i_2.x i_2.y).snd (True∧((List.map zF i.out).length+1)*(48:Nat)≤(70368744177664:Nat)∧∃(o:Unit),AObj.fro 6 (List.map zT i.tops)=MkU (i.tops,i.out) 1∧List.map zF (i.out++mkq i.tops (Leg.mk i.a 2) (Leg.mk i.b 2) i.less)=List.map zF i.out++[[D.v (.int .i64 (jE i_2.x i_2.y).fst),D.v (.int .i64 (min n_3 n_6)),D.v (.int .i64 i.a),D.v (.int .i64 2),D.v (.int .i64 i.b),D.v (.int .i64 2)]]∧True) (∃(o:Unit),AObj.fro 6 (List.map zT i.tops)=MkU (i.tops,i.out) 1∧List.map zF (i.out++mkq i.tops (Leg.mk i.a 2) (Leg.mk i.b 2) i.less)=List.map zF i.out∧True)) (cnd (jJ i_1.x i_1.y).snd (True∧((List.map zF i.out).length+1)*(48:Nat)≤(70368744177664:Nat)∧∃(o:Unit),AObj.fro 6 (List.map zT i.tops)=MkU (i.tops,i.out) 1∧List.map zF (i.out++mkq i.tops (Leg.mk i.a 2) (Leg.mk i.b 2) i.less)=List.map zF i.out++[[D.v (.int .i64 (jJ i_1.x i_1.y).fst),D.v (.int .i64 (min n_3 n_6)),D.v (.int .i64 i.a),D.v (.int .i64 2),D.v (.int .i64 i.b),D.v (.int .i64 2)]]∧True) (∃(o:Unit),AObj.fro 6 (List.map zT i.tops)=MkU (i.tops,i.out) 1∧List.map zF (i.out++mkq i.tops (Leg.mk i.a 2) (Leg.mk i.b 2) i.less)=List.map zF i.out∧True))
@[reducible] def aY (i:MkI) (b:Bool):Prop:=∃(o:Unit),AObj.fro 6 (List.map zT i.tops)=MkU (i.tops,i.out) 1∧List.map zF (i.out++mkq i.tops (Leg.mk i.a 2) (Leg.mk i.b 2) i.less)=List.map zF i.out∧True
def zXp (i:MkI):Prop:=
 (0≤i.a∧i.a<(↑(List.map zT i.tops).length:Int))∧∃(b:Bool),∃(b_1:Bool),∃(n:Int),∃(n_1:Int),∃(n_2:Int),∃(n_3:Int),zH (List.map zT i.tops) i.a.toNat 0 6=some [D.v (.bool b),D.v (.bool b_1),D.v (.int .i64 n),D.v (.int .i64 n_1),D.v (.int .i64 n_2),D.v (.int .i64 n_3)]∧(0≤i.b∧i.b<(↑(List.map zT i.tops).length:Int))∧∃(b:Bool),∃(b_2:Bool),∃(n:Int),∃(n_4:Int),∃(n_5:Int),∃(n_6:Int),zH (List.map zT i.tops) i.b.toNat 0 6=some [D.v (.bool b),D.v (.bool b_2),D.v (.int .i64 n),D.v (.int .i64 n_4),D.v (.int .i64 n_5),D.v (.int .i64 n_6)]∧(True∧((0≤i.b∧i.b<(↑(List.map zT i.tops).length:Int))∧i.b.toNat=i.b.toNat)∧i.b=i.b∧True∧True∧((0≤i.a∧i.a<(↑(List.map zT i.tops).length:Int))∧i.a.toNat=i.a.toNat)∧i.a=i.a∧True∧True∧((0≤i.b∧i.b<(↑(List.map zT i.tops).length:Int))∧i.b.toNat=i.b.toNat)∧i.b=i.b∧True∧True∧((0≤i.a∧i.a<(↑(List.map zT i.tops).length:Int))∧i.a.toNat=i.a.toNat)∧i.a=i.a∧True∧True∧((0≤i.b∧i.b<(↑(List.map zT i.tops).length:Int))∧i.b.toNat=i.b.toNat)∧i.b=i.b∧True∧cnd (!b_1) (aY i b) (cnd (!b_2) (aY i b) (zDe i b n_1 n_3 n_4 n_6)))∧True∧((0≤i.b∧i.b<(↑(List.map zT i.tops).length:Int))∧i.b.toNat=i.b.toNat)∧i.b=i.b∧True∧True∧((0≤i.a∧i.a<(↑(List.map zT i.tops).length:Int))∧i.a.toNat=i.a.toNat)∧i.a=i.a∧True∧True∧((0≤i.b∧i.b<(↑(List.map zT i.tops).length:Int))∧i.b.toNat=i.b.toNat)∧i.b=i.b∧True∧True∧((0≤i.a∧i.a<(↑(List.map zT i.tops).length:Int))∧i.a.toNat=i.a.toNat)∧i.a=i.a∧True∧True∧((0≤i.b∧i.b<(↑(List.map zT i.tops).length:Int))∧i.b.toNat=i.b.toNat)∧i.b=i.b∧True∧cnd (!b_1) (aY i b) (cnd (!b_2) (aY i b) (zDe i b n_1 n_3 n_4 n_6))
theorem z8y (hG:GOk Tryz.prog ([(87,addC),(88,subC)])) (h:∀(i:MkI),mk22.cnd i→zXp i):mk22.ok Tryz.prog 53:=okw mixed hG 0 (fun _=>[]) (fun _=>[]) [] Tryz.func53 h
open Go Cv Go.Proofs
theorem zBa:iotherC.ok Tryz.prog 52:=zUc gok0 fun n h=>by
 have h:n=1∨n=2:=h
 refine⟨(),?_,trivial⟩
 rw[w64 (by omega)]
theorem zKp:ibetterC.ok Tryz.prog 94:=zTj gok0 fun i _=>by
 refine Cv.cnd.mk (fun e=>⟨(),?_,trivial⟩) (fun e=>⟨(),?_,trivial⟩)
 ·have e:i.side=1:=by simpa using e
  simp[btr,e]
 ·have e:i.side≠1:=by simpa using e
  simp[btr,e]
theorem z2k (a b:Int):(if b<a then b else a)=min a b:=by split<;>omega
theorem yDg (i:MkI) (h:mk11.cnd i):zZc i:=by
 obtain⟨a0,a1,b0,b1,⟨ht,hp⟩,ho⟩:0≤i.a∧i.a<i.tops.length∧0≤i.b∧i.b<i.tops.length∧k8 i.tops∧i.out.length≤1000:=h
 obtain⟨x,hx⟩:=yE (l:=i.tops) (i:=i.a.toNat) (by omega)
 obtain⟨y,hy⟩:=yE (l:=i.tops) (i:=i.b.toNat) (by omega)
 obtain⟨⟨px1,px2⟩,px3,px4⟩:=hp x (List.mem_of_getElem? hx)
 obtain⟨⟨py1,py2⟩,py3,py4⟩:=hp y (List.mem_of_getElem? hy)
 have e0:mkq i.tops ⟨i.a,1⟩ ⟨i.b,1⟩ i.less=if x.has1 && y.has1 && (if i.less then jE y.p1 x.p1 else jJ x.p1 y.p1).2 then[⟨(if i.less then jE y.p1 x.p1 else jJ x.p1 y.p1).1,min x.q1 y.q1,⟨i.a,1⟩,⟨i.b,1⟩⟩]else[]:=by
  simp only[mkq,List.getD_eq_getElem?_getD,hx,hy,Option.getD_some];rfl
 unfold zZc zDc aZ
 simp only[List.length_map]
 refine⟨⟨by omega,by omega⟩,x.has1,x.has2,x.p1,x.p2,x.q1,x.q2,elA hx (by simp[zT]) rfl,⟨by omega,by omega⟩,y.has1,y.has2,y.p1,y.p2,y.q1,y.q2,elA hy (by simp[zT]) rfl,?_⟩
 rw[e0]
 (repeat'(first|exact rfl|exact trivial|assumption|apply And.intro|refine fun(_:Unit) (_:True)=>?_|refine Exists.intro () ?_|omega|(dsimp only;omega)))
 all_goals
  refine Cv.cnd.mk (fun c1=> ?_) (fun c1=>Cv.cnd.mk (fun c2=> ?_) (fun c2=> ?_))
  ·have c1:x.has1=false:=by simpa using c1
   simp only[c1,Bool.false_and,Bool.false_eq_true,if_false,List.append_nil];exact kp
  ·have c2:y.has1=false:=by simpa using c2
   simp only[c2,Bool.and_false,Bool.false_and,Bool.false_eq_true,if_false,List.append_nil];exact kp
  ·have c1:x.has1=true:=by simpa using c1
   have c2:y.has1=true:=by simpa using c2
   simp only[c1,c2,Bool.true_and,z2k]
   refine⟨⟨x.p1,y.p1⟩,?_⟩
   (repeat'(first|exact rfl|exact trivial|assumption|apply And.intro|refine fun(_:Unit) (_:True)=>?_|refine Exists.intro () ?_|omega|(dsimp only;omega)))
   refine Cv.cnd.mk (fun c3=> ?_) (fun c3=> ?_)
   ·have c3:i.less=true:=c3
    simp only[c3,if_true]
    refine⟨⟨y.p1,x.p1⟩,?_⟩
    (repeat'(first|exact rfl|exact trivial|assumption|apply And.intro|refine fun(_:Unit) (_:True)=>?_|refine Exists.intro () ?_|omega|(dsimp only;omega)))
    refine Cv.cnd.mk (fun c4=> ?_) (fun c4=> ?_)
    ·have c4:(jE y.p1 x.p1).2=true:=c4
     simp only[c4,if_true,List.map_append];exact kp
    ·have c4:(jE y.p1 x.p1).2=false:=c4
     simp only[c4,Bool.false_eq_true,if_false,List.append_nil];exact kp
   ·have c3:i.less=false:=c3
    simp only[c3,Bool.false_eq_true,if_false]
    refine Cv.cnd.mk (fun c4=> ?_) (fun c4=> ?_)
    ·have c4:(jJ x.p1 y.p1).2=true:=c4
     simp only[c4,if_true,List.map_append];exact kp
    ·have c4:(jJ x.p1 y.p1).2=false:=c4
     simp only[c4,Bool.false_eq_true,if_false,List.append_nil];exact kp
theorem z0r:mk11.ok Tryz.prog 53:=yAn (gokc zEr (gokc zFh gok0)) yDg
theorem yCj (i:MkI) (h:mk12.cnd i):zXw i:=by
 obtain⟨a0,a1,b0,b1,⟨ht,hp⟩,ho⟩:0≤i.a∧i.a<i.tops.length∧0≤i.b∧i.b<i.tops.length∧k8 i.tops∧i.out.length≤1000:=h
 obtain⟨x,hx⟩:=yE (l:=i.tops) (i:=i.a.toNat) (by omega)
 obtain⟨y,hy⟩:=yE (l:=i.tops) (i:=i.b.toNat) (by omega)
 obtain⟨⟨px1,px2⟩,px3,px4⟩:=hp x (List.mem_of_getElem? hx)
 obtain⟨⟨py1,py2⟩,py3,py4⟩:=hp y (List.mem_of_getElem? hy)
 have e0:mkq i.tops ⟨i.a,1⟩ ⟨i.b,2⟩ i.less=if x.has1 && y.has2 && (if i.less then jE y.p2 x.p1 else jJ x.p1 y.p2).2 then[⟨(if i.less then jE y.p2 x.p1 else jJ x.p1 y.p2).1,min x.q1 y.q2,⟨i.a,1⟩,⟨i.b,2⟩⟩]else[]:=by
  simp only[mkq,List.getD_eq_getElem?_getD,hx,hy,Option.getD_some];rfl
 unfold zXw zDk aL
 simp only[List.length_map]
 refine⟨⟨by omega,by omega⟩,x.has1,x.has2,x.p1,x.p2,x.q1,x.q2,elA hx (by simp[zT]) rfl,⟨by omega,by omega⟩,y.has1,y.has2,y.p1,y.p2,y.q1,y.q2,elA hy (by simp[zT]) rfl,?_⟩
 rw[e0]
 (repeat'(first|exact rfl|exact trivial|assumption|apply And.intro|refine fun(_:Unit) (_:True)=>?_|refine Exists.intro () ?_|omega|(dsimp only;omega)))
 all_goals
  refine Cv.cnd.mk (fun c1=> ?_) (fun c1=>Cv.cnd.mk (fun c2=> ?_) (fun c2=> ?_))
  ·have c1:x.has1=false:=by simpa using c1
   simp only[c1,Bool.false_and,Bool.false_eq_true,if_false,List.append_nil];exact kp
  ·have c2:y.has2=false:=by simpa using c2
   simp only[c2,Bool.and_false,Bool.false_and,Bool.false_eq_true,if_false,List.append_nil];exact kp
  ·have c1:x.has1=true:=by simpa using c1
   have c2:y.has2=true:=by simpa using c2
   simp only[c1,c2,Bool.true_and,z2k]
   refine⟨⟨x.p1,y.p2⟩,?_⟩
   (repeat'(first|exact rfl|exact trivial|assumption|apply And.intro|refine fun(_:Unit) (_:True)=>?_|refine Exists.intro () ?_|omega|(dsimp only;omega)))
   refine Cv.cnd.mk (fun c3=> ?_) (fun c3=> ?_)
   ·have c3:i.less=true:=c3
    simp only[c3,if_true]
    refine⟨⟨y.p2,x.p1⟩,?_⟩
    (repeat'(first|exact rfl|exact trivial|assumption|apply And.intro|refine fun(_:Unit) (_:True)=>?_|refine Exists.intro () ?_|omega|(dsimp only;omega)))
    refine Cv.cnd.mk (fun c4=> ?_) (fun c4=> ?_)
    ·have c4:(jE y.p2 x.p1).2=true:=c4
     simp only[c4,if_true,List.map_append];exact kp
    ·have c4:(jE y.p2 x.p1).2=false:=c4
     simp only[c4,Bool.false_eq_true,if_false,List.append_nil];exact kp
   ·have c3:i.less=false:=c3
    simp only[c3,Bool.false_eq_true,if_false]
    refine Cv.cnd.mk (fun c4=> ?_) (fun c4=> ?_)
    ·have c4:(jJ x.p1 y.p2).2=true:=c4
     simp only[c4,if_true,List.map_append];exact kp
    ·have c4:(jJ x.p1 y.p2).2=false:=c4
     simp only[c4,Bool.false_eq_true,if_false,List.append_nil];exact kp
theorem z1o:mk12.ok Tryz.prog 53:=z8c (gokc zEr (gokc zFh gok0)) yCj
theorem yCv (i:MkI) (h:mk21.cnd i):zTq i:=by
 obtain⟨a0,a1,b0,b1,⟨ht,hp⟩,ho⟩:0≤i.a∧i.a<i.tops.length∧0≤i.b∧i.b<i.tops.length∧k8 i.tops∧i.out.length≤1000:=h
 obtain⟨x,hx⟩:=yE (l:=i.tops) (i:=i.a.toNat) (by omega)
 obtain⟨y,hy⟩:=yE (l:=i.tops) (i:=i.b.toNat) (by omega)
 obtain⟨⟨px1,px2⟩,px3,px4⟩:=hp x (List.mem_of_getElem? hx)
 obtain⟨⟨py1,py2⟩,py3,py4⟩:=hp y (List.mem_of_getElem? hy)
 have e0:mkq i.tops ⟨i.a,2⟩ ⟨i.b,1⟩ i.less=if x.has2 && y.has1 && (if i.less then jE y.p1 x.p2 else jJ x.p2 y.p1).2 then[⟨(if i.less then jE y.p1 x.p2 else jJ x.p2 y.p1).1,min x.q2 y.q1,⟨i.a,2⟩,⟨i.b,1⟩⟩]else[]:=by
  simp only[mkq,List.getD_eq_getElem?_getD,hx,hy,Option.getD_some];rfl
 unfold zTq zDn mT
 simp only[List.length_map]
 refine⟨⟨by omega,by omega⟩,x.has1,x.has2,x.p1,x.p2,x.q1,x.q2,elA hx (by simp[zT]) rfl,⟨by omega,by omega⟩,y.has1,y.has2,y.p1,y.p2,y.q1,y.q2,elA hy (by simp[zT]) rfl,?_⟩
 rw[e0]
 (repeat'(first|exact rfl|exact trivial|assumption|apply And.intro|refine fun(_:Unit) (_:True)=>?_|refine Exists.intro () ?_|omega|(dsimp only;omega)))
 all_goals
  refine Cv.cnd.mk (fun c1=> ?_) (fun c1=>Cv.cnd.mk (fun c2=> ?_) (fun c2=> ?_))
  ·have c1:x.has2=false:=by simpa using c1
   simp only[c1,Bool.false_and,Bool.false_eq_true,if_false,List.append_nil];exact kp
  ·have c2:y.has1=false:=by simpa using c2
   simp only[c2,Bool.and_false,Bool.false_and,Bool.false_eq_true,if_false,List.append_nil];exact kp
  ·have c1:x.has2=true:=by simpa using c1
   have c2:y.has1=true:=by simpa using c2
   simp only[c1,c2,Bool.true_and,z2k]
   refine⟨⟨x.p2,y.p1⟩,?_⟩
   (repeat'(first|exact rfl|exact trivial|assumption|apply And.intro|refine fun(_:Unit) (_:True)=>?_|refine Exists.intro () ?_|omega|(dsimp only;omega)))
   refine Cv.cnd.mk (fun c3=> ?_) (fun c3=> ?_)
   ·have c3:i.less=true:=c3
    simp only[c3,if_true]
    refine⟨⟨y.p1,x.p2⟩,?_⟩
    (repeat'(first|exact rfl|exact trivial|assumption|apply And.intro|refine fun(_:Unit) (_:True)=>?_|refine Exists.intro () ?_|omega|(dsimp only;omega)))
    refine Cv.cnd.mk (fun c4=> ?_) (fun c4=> ?_)
    ·have c4:(jE y.p1 x.p2).2=true:=c4
     simp only[c4,if_true,List.map_append];exact kp
    ·have c4:(jE y.p1 x.p2).2=false:=c4
     simp only[c4,Bool.false_eq_true,if_false,List.append_nil];exact kp
   ·have c3:i.less=false:=c3
    simp only[c3,Bool.false_eq_true,if_false]
    refine Cv.cnd.mk (fun c4=> ?_) (fun c4=> ?_)
    ·have c4:(jJ x.p2 y.p1).2=true:=c4
     simp only[c4,if_true,List.map_append];exact kp
    ·have c4:(jJ x.p2 y.p1).2=false:=c4
     simp only[c4,Bool.false_eq_true,if_false,List.append_nil];exact kp
theorem z4v:mk21.ok Tryz.prog 53:=yBh (gokc zEr (gokc zFh gok0)) yCv
theorem yBw (i:MkI) (h:mk22.cnd i):zXp i:=by
 obtain⟨a0,a1,b0,b1,⟨ht,hp⟩,ho⟩:0≤i.a∧i.a<i.tops.length∧0≤i.b∧i.b<i.tops.length∧k8 i.tops∧i.out.length≤1000:=h
 obtain⟨x,hx⟩:=yE (l:=i.tops) (i:=i.a.toNat) (by omega)
 obtain⟨y,hy⟩:=yE (l:=i.tops) (i:=i.b.toNat) (by omega)
 obtain⟨⟨px1,px2⟩,px3,px4⟩:=hp x (List.mem_of_getElem? hx)
 obtain⟨⟨py1,py2⟩,py3,py4⟩:=hp y (List.mem_of_getElem? hy)
 have e0:mkq i.tops ⟨i.a,2⟩ ⟨i.b,2⟩ i.less=if x.has2 && y.has2 && (if i.less then jE y.p2 x.p2 else jJ x.p2 y.p2).2 then[⟨(if i.less then jE y.p2 x.p2 else jJ x.p2 y.p2).1,min x.q2 y.q2,⟨i.a,2⟩,⟨i.b,2⟩⟩]else[]:=by
  simp only[mkq,List.getD_eq_getElem?_getD,hx,hy,Option.getD_some];rfl
 unfold zXp zDe aY
 simp only[List.length_map]
 refine⟨⟨by omega,by omega⟩,x.has1,x.has2,x.p1,x.p2,x.q1,x.q2,elA hx (by simp[zT]) rfl,⟨by omega,by omega⟩,y.has1,y.has2,y.p1,y.p2,y.q1,y.q2,elA hy (by simp[zT]) rfl,?_⟩
 rw[e0]
 (repeat'(first|exact rfl|exact trivial|assumption|apply And.intro|refine fun(_:Unit) (_:True)=>?_|refine Exists.intro () ?_|omega|(dsimp only;omega)))
 all_goals
  refine Cv.cnd.mk (fun c1=> ?_) (fun c1=>Cv.cnd.mk (fun c2=> ?_) (fun c2=> ?_))
  ·have c1:x.has2=false:=by simpa using c1
   simp only[c1,Bool.false_and,Bool.false_eq_true,if_false,List.append_nil];exact kp
  ·have c2:y.has2=false:=by simpa using c2
   simp only[c2,Bool.and_false,Bool.false_and,Bool.false_eq_true,if_false,List.append_nil];exact kp
  ·have c1:x.has2=true:=by simpa using c1
   have c2:y.has2=true:=by simpa using c2
   simp only[c1,c2,Bool.true_and,z2k]
   refine⟨⟨x.p2,y.p2⟩,?_⟩
   (repeat'(first|exact rfl|exact trivial|assumption|apply And.intro|refine fun(_:Unit) (_:True)=>?_|refine Exists.intro () ?_|omega|(dsimp only;omega)))
   refine Cv.cnd.mk (fun c3=> ?_) (fun c3=> ?_)
   ·have c3:i.less=true:=c3
    simp only[c3,if_true]
    refine⟨⟨y.p2,x.p2⟩,?_⟩
    (repeat'(first|exact rfl|exact trivial|assumption|apply And.intro|refine fun(_:Unit) (_:True)=>?_|refine Exists.intro () ?_|omega|(dsimp only;omega)))
    refine Cv.cnd.mk (fun c4=> ?_) (fun c4=> ?_)
    ·have c4:(jE y.p2 x.p2).2=true:=c4
     simp only[c4,if_true,List.map_append];exact kp
    ·have c4:(jE y.p2 x.p2).2=false:=c4
     simp only[c4,Bool.false_eq_true,if_false,List.append_nil];exact kp
   ·have c3:i.less=false:=c3
    simp only[c3,Bool.false_eq_true,if_false]
    refine Cv.cnd.mk (fun c4=> ?_) (fun c4=> ?_)
    ·have c4:(jJ x.p2 y.p2).2=true:=c4
     simp only[c4,if_true,List.map_append];exact kp
    ·have c4:(jJ x.p2 y.p2).2=false:=c4
     simp only[c4,Bool.false_eq_true,if_false,List.append_nil];exact kp
theorem z0s:mk22.ok Tryz.prog 53:=z8y (gokc zEr (gokc zFh gok0)) yBw
open Go Cv Go.Proofs
structure MkJ where
 i:MkI
 sa:Bool
 sb:Bool
def mkAnyC:Con:=con1 MkJ (fun j=>[.nm 0 0,.agg [zD j.i.a,zD (zB j.sa)],.agg [zD j.i.b,zD (zB j.sb)],yJ j.i.less]) (fun j=>MkR j.i.tops j.i.out)
 (fun j=>0≤j.i.a∧j.i.a<j.i.tops.length∧0≤j.i.b∧j.i.b<j.i.tops.length∧k8 j.i.tops∧j.i.out.length≤1000) (fun _=>zHe) (fun j=>MkP j.i.tops (j.i.out++mkq j.i.tops ⟨j.i.a,zB j.sa⟩ ⟨j.i.b,zB j.sb⟩ j.i.less))
theorem zJk:mkAnyC.ok Tryz.prog 53:=fun j=>match j with
 |⟨i,false,false⟩=>z0r i
 |⟨i,false,true⟩=>z1o i
 |⟨i,true,false⟩=>z4v i
 |⟨i,true,true⟩=>z0s i
structure u0 where
 p:Prd
 tops:List Top
 inst:Int
def xF (i:u0) (s:Int) (k:Nat):List Quote:=(List.range k).flatMap fun(k:Nat)=>mkq i.tops ⟨(i.p.spread i.inst (i.inst+1+k)).1,s⟩ ⟨i.inst+1+k,s⟩ false
def xC (i:u0) (s:Int) (k:Nat):List Quote:=(List.range k).flatMap fun(k:Nat)=>mkq i.tops ⟨(i.p.spread k i.inst).1,3-s⟩ ⟨k,s⟩ true
def zZ (i:u0) (s:Int):List Quote:=mkq i.tops ⟨(i.p.legs i.inst).2.1,3-s⟩ ⟨(i.p.legs i.inst).1,s⟩ true
def kA (i:u0) (s:Int) (q:Quote):Quote:={q with a:=⟨(i.p.legs i.inst).1,s⟩,b:=⟨(i.p.legs i.inst).2.1,3-s⟩}
def xE (i:u0) (s:Int):List Quote:=
 if i.p.count=0∨(i.tops.length:Int)≠i.p.count∨i.inst<0∨(i.p.count:Int)≤i.inst then[]
 else if(i.p.legs i.inst).2.2 then(zZ i s).map (kA i s)
 else xF i s (i.p.months.length-(i.inst.toNat+1))++xC i s i.inst.toNat
def z5e (s:Int):Con:=con1 u0 (fun i=>[prdV i.p,roV 6 (i.tops.map zT),zD i.inst,zD s]) (fun _=>[]) (fun i=>i.p.small∧k8 i.tops) (fun _=> .own 0) (fun i=>[.own 62 6 ((xE i s).map zF)])
def all1C:Con:=z5e 1
def all2C:Con:=z5e 2
def yDr (i:u0) (s:Int):List SAnn:=[
 {ι:=Nat,slots:=fun k=>[(10,.nm 0 0),(77,zD k)],rows:=fun k=>(List.range 3).map (MkU (i.tops,((zZ i s).take k).map (kA i s)++(zZ i s).drop k))},
 {ι:=Nat,slots:=fun k=>[(10,.nm 0 0),(17,zD (i.inst+1+k))],rows:=fun k=>MkR i.tops (xF i s k)},
 {ι:=Nat,slots:=fun k=>[(10,.nm 0 0),(120,zD k)],rows:=fun k=>MkR i.tops (xF i s (i.p.months.length-(i.inst.toNat+1))++xC i s k)}]
structure mQ where
 i:u0
 s:Bool
def allC:Con:=con1 mQ (fun j=>[prdV j.i.p,roV 6 (j.i.tops.map zT),zD j.i.inst,zD (zB j.s)]) (fun _=>[]) (fun j=>j.i.p.small∧k8 j.i.tops) (fun _=> .own 0) (fun j=>[.own 62 6 ((xE j.i (zB j.s)).map zF)])
def kH (i:u0) (s:Int):List Quote:=(xE i s).filter fun q=>decide (i.p.price i.inst q.price=0)
def quotesC:Con:=con1 mQ (fun j=>[prdV j.i.p,roV 6 (j.i.tops.map zT),zD j.i.inst,zD (zB j.s)]) (fun _=>[]) (fun j=>j.i.p.small∧k8 j.i.tops) (fun _=> .own 0) (fun j=>[.own 62 6 ((kH j.i (zB j.s)).map zF)])
def z1n (j:mQ):List SAnn:=[{ι:=Nat,slots:=fun k=>[(9,.own 0),(18,zD k)],rows:=fun k=>[.own 62 6 ((((xE j.i (zB j.s)).take k).filter fun q=>decide (j.i.p.price j.i.inst q.price=0)).map zF)]}]
structure BsI where
 l:List Quote
 s:Int
def zX (l:List Quote) (s:Int):Quote×Bool:=match l with
 |[]=>(z8h,false)
 |q::r=>(r.foldl (fun b q=>if btr s q.price b.price then q else b) q,true)
def bestQC:Con:=con1 BsI (fun i=>[roV 6 (i.l.map zF),zD i.s]) (fun _=>[]) (fun i=>(i.s=1∨i.s=2)∧i.l.length≤1000000) (fun i=> .tup [zJy (zX i.l i.s).1,yJ (zX i.l i.s).2]) (fun _=>[])
def yAt (i:BsI):List SAnn:=[{ι:=Nat,slots:=fun k=>[(6,.nm 0 0),(26,zD k)],rows:=fun k=>[.cells (zJy (zX (i.l.take (max k 1)) i.s).1).cl 62]}]
open Go Cv Go.Proofs
@[reducible] def zPc (i_2:vU) (i_3:Int):AObj:=Sx.AObj.cells [V.d (D.v (.int .i64 (i_2.p.legs i_2.n).snd.fst)),V.d (D.v (.int .i64 ((3:Int)-i_3)))] (59:Nat)
@[reducible] def zQk (i_2:vU):AObj:=Sx.AObj.cells [V.d (D.v (.int .i64 (i_2.p.legs i_2.n).fst)),V.d (D.v (.int .i64 1))] (59:Nat)
@[reducible] def cV (i:u0):AObj:=Sx.AObj.cells [V.d (D.v (Value.string (sb i.p.code))),V.own (0:Nat),V.d (D.v (.int .i64 i.p.tick)),V.d (D.v (.int .i64 i.p.low)),V.d (D.v (.int .i64 i.p.high)),V.d (D.v (.int .i64 i.p.wide)),V.d (D.v (.int .i64 i.p.rule)),V.d (D.v (.int .i64 i.p.top)),V.d (D.v (.int .i64 i.p.least)),V.d (D.v (.int .i64 i.p.part)),V.own ((0:Nat)+(1:Nat))] (29:Nat)
def z5q (i:u0):Prop:=
 ∃(i_1:Prd),sb i_1.code=sb i.p.code∧iE i_1.months=iE i.p.months∧i_1.tick=i.p.tick∧i_1.low=i.p.low∧i_1.high=i.p.high∧i_1.wide=i.p.wide∧i_1.rule=i.p.rule∧i_1.top=i.p.top∧i_1.least=i.p.least∧i_1.part=i.p.part∧iE i_1.settle=iE i.p.settle∧(i_1.code.length≤1099511627776∧i_1.months.length≤1099511627776∧i_1.settle.length≤1099511627776)∧∀(o:Unit),True→cnd ((↑i_1.count:Int)==0) (∃(o:Unit),List.map zF (xE i 1)=[]∧True) (cnd ((↑(List.map zT i.tops).length:Int) !=(↑i_1.count:Int)) (∃(o:Unit),List.map zF (xE i 1)=[]∧True) (cnd (decide (i.inst<0)) (∃(o:Unit),List.map zF (xE i 1)=[]∧True) (cnd (decide (i.inst≥(↑i_1.count:Int))) (∃(o:Unit),List.map zF (xE i 1)=[]∧True) (∃(i_2:vU),sb i_2.p.code=sb i.p.code∧iE i_2.p.months=iE i.p.months∧i_2.p.tick=i.p.tick∧i_2.p.low=i.p.low∧i_2.p.high=i.p.high∧i_2.p.wide=i.p.wide∧i_2.p.rule=i.p.rule∧i_2.p.top=i.p.top∧i_2.p.least=i.p.least∧i_2.p.part=i.p.part∧iE i_2.p.settle=iE i.p.settle∧i_2.n=i.inst∧(i_2.p.code.length≤1099511627776∧i_2.p.months.length≤1099511627776∧i_2.p.settle.length≤1099511627776)∧∀(o:Unit),True→cnd (i_2.p.legs i_2.n).snd.snd (∃(i_3:Int),i_3=1∧(i_3=1∨i_3=2)∧∀(o:Unit),True→∃(i_4:MkJ),i_4.i.a=(i_2.p.legs i_2.n).snd.fst∧zB i_4.sa=3-i_3∧i_4.i.b=(i_2.p.legs i_2.n).fst∧zB i_4.sb=1∧i_4.i.less=true∧AObj.fro 6 (List.map zT i_4.i.tops)=AObj.fro 6 (List.map zT i.tops)∧List.map zF i_4.i.out=[]∧(0≤i_4.i.a∧i_4.i.a<(↑i_4.i.tops.length:Int)∧0≤i_4.i.b∧i_4.i.b<(↑i_4.i.tops.length:Int)∧(i_4.i.tops.length≤1000000∧∀(t:Top),t∈i_4.i.tops→((-9223372036854775808)≤t.p1∧t.p1≤9223372036854775807)∧(-9223372036854775808)≤t.p2∧t.p2≤9223372036854775807)∧i_4.i.out.length≤1000)∧∀(o:Unit),True→∃(i0:Nat),(↑i0:Int)=0∧AObj.fro 6 (List.map zT i.tops)=AObj.fro 6 (List.map zT i_4.i.tops)∧List.map zF (List.map (kA i 1) (List.take i0 (zZ i 1))++List.drop i0 (zZ i 1))=List.map zF (i_4.i.out++mkq i_4.i.tops (Leg.mk i_4.i.a (zB i_4.sa)) (Leg.mk i_4.i.b (zB i_4.sb)) i_4.i.less)∧∃(I:Nat→Prop),∃(μ:Nat→Nat),I i0∧∀(i_5:Nat),I i_5→cnd (decide ((↑i_5:Int)<(↑(List.map zF (i_4.i.out++mkq i_4.i.tops (Leg.mk i_4.i.a (zB i_4.sa)) (Leg.mk i_4.i.b (zB i_4.sb)) i_4.i.less)).length:Int))) ((0≤(↑i_5:Int)∧(↑i_5:Int)<(↑(List.map zF (List.map (kA i 1) (List.take i_5 (zZ i 1))++List.drop i_5 (zZ i 1))).length:Int))∧(↑i_5:Int).toNat<(List.map zF (List.map (kA i 1) (List.take i_5 (zZ i 1))++List.drop i_5 (zZ i 1))).length∧∃(i':Nat),(↑i':Int)=IntKind.i64.wrap ((↑i_5:Int)+1)∧AObj.fro 6 (List.map zT i.tops)=AObj.fro 6 (List.map zT i.tops)∧List.map zF (List.map (kA i 1) (List.take i' (zZ i 1))++List.drop i' (zZ i 1))=zJ (List.map zF (List.map (kA i 1) (List.take i_5 (zZ i 1))++List.drop i_5 (zZ i 1))) (↑i_5:Int).toNat ((0:Nat)+(2:Nat)) [D.v (.int .i64 (i_2.p.legs i_2.n).fst),D.v (.int .i64 1),D.v (.int .i64 (i_2.p.legs i_2.n).snd.fst),D.v (.int .i64 (3-i_3))]∧I i'∧μ i'<μ i_5∧AObj.fro 6 (List.map zT i_4.i.tops)=AObj.fro 6 (List.map zT i_4.i.tops)∧zPc i_2 i_3=zPc i_2 i_3∧zQk i_2=zQk i_2∧AObj.fro 6 (List.map zT i.tops)=AObj.fro 6 (List.map zT i.tops)∧cV i=cV i∧AObj.fro 1 (iE i.p.settle)=AObj.fro 1 (iE i.p.settle)∧AObj.fro 1 (iE i.p.months)=AObj.fro 1 (iE i.p.months)) (∃(o:Unit),List.map zF (xE i 1)=List.map zF (List.map (kA i 1) (List.take i_5 (zZ i 1))++List.drop i_5 (zZ i 1))∧True)) (∃(i0:Nat),i.inst+1+(↑i0:Int)=IntKind.i64.wrap (i.inst+1)∧AObj.fro 6 (List.map zT i.tops)=AObj.fro 6 (List.map zT i.tops)∧List.map zF (xF i 1 i0)=[]∧∃(I:Nat→Prop),∃(μ:Nat→Nat),I i0∧∀(i_3:Nat),I i_3→cnd (decide (i.inst+1+(↑i_3:Int)<(↑(iE i.p.months).length:Int))) (∃(i_4:fH),sb i_4.p.code=sb i.p.code∧iE i_4.p.months=iE i.p.months∧i_4.p.tick=i.p.tick∧i_4.p.low=i.p.low∧i_4.p.high=i.p.high∧i_4.p.wide=i.p.wide∧i_4.p.rule=i.p.rule∧i_4.p.top=i.p.top∧i_4.p.least=i.p.least∧i_4.p.part=i.p.part∧iE i_4.p.settle=iE i.p.settle∧i_4.a=i.inst∧i_4.b=i.inst+1+(↑i_3:Int)∧(i_4.p.code.length≤1099511627776∧i_4.p.months.length≤1099511627776∧i_4.p.settle.length≤1099511627776)∧∀(o:Unit),True→∃(i_5:MkJ),i_5.i.a=(i_4.p.spread i_4.a i_4.b).fst∧zB i_5.sa=1∧i_5.i.b=i.inst+1+(↑i_3:Int)∧zB i_5.sb=1∧i_5.i.less=false∧AObj.fro 6 (List.map zT i_5.i.tops)=AObj.fro 6 (List.map zT i.tops)∧List.map zF i_5.i.out=List.map zF (xF i 1 i_3)∧(0≤i_5.i.a∧i_5.i.a<(↑i_5.i.tops.length:Int)∧0≤i_5.i.b∧i_5.i.b<(↑i_5.i.tops.length:Int)∧(i_5.i.tops.length≤1000000∧∀(t:Top),t∈i_5.i.tops→((-9223372036854775808)≤t.p1∧t.p1≤9223372036854775807)∧(-9223372036854775808)≤t.p2∧t.p2≤9223372036854775807)∧i_5.i.out.length≤1000)∧∀(o:Unit),True→∃(i':Nat),i.inst+1+(↑i':Int)=IntKind.i64.wrap (i.inst+1+(↑i_3:Int)+1)∧AObj.fro 6 (List.map zT i.tops)=AObj.fro 6 (List.map zT i_5.i.tops)∧List.map zF (xF i 1 i')=List.map zF (i_5.i.out++mkq i_5.i.tops (Leg.mk i_5.i.a (zB i_5.sa)) (Leg.mk i_5.i.b (zB i_5.sb)) i_5.i.less)∧I i'∧μ i'<μ i_3∧AObj.fro 6 (List.map zT i.tops)=AObj.fro 6 (List.map zT i.tops)∧cV i=cV i∧AObj.fro 1 (iE i.p.settle)=AObj.fro 1 (iE i.p.settle)∧AObj.fro 1 (iE i.p.months)=AObj.fro 1 (iE i.p.months)) (∃(i0:Nat),(↑i0:Int)=0∧AObj.fro 6 (List.map zT i.tops)=AObj.fro 6 (List.map zT i.tops)∧List.map zF (xF i 1 (i.p.months.length-(i.inst.toNat+1))++xC i 1 i0)=List.map zF (xF i 1 i_3)∧∃(I:Nat→Prop),∃(μ:Nat→Nat),I i0∧∀(i_4:Nat),I i_4→cnd (decide ((↑i_4:Int)<i.inst)) (∃(i_5:fH),sb i_5.p.code=sb i.p.code∧iE i_5.p.months=iE i.p.months∧i_5.p.tick=i.p.tick∧i_5.p.low=i.p.low∧i_5.p.high=i.p.high∧i_5.p.wide=i.p.wide∧i_5.p.rule=i.p.rule∧i_5.p.top=i.p.top∧i_5.p.least=i.p.least∧i_5.p.part=i.p.part∧iE i_5.p.settle=iE i.p.settle∧i_5.a=(↑i_4:Int)∧i_5.b=i.inst∧(i_5.p.code.length≤1099511627776∧i_5.p.months.length≤1099511627776∧i_5.p.settle.length≤1099511627776)∧∀(o:Unit),True→∃(i_6:Int),i_6=1∧(i_6=1∨i_6=2)∧∀(o:Unit),True→∃(i_7:MkJ),i_7.i.a=(i_5.p.spread i_5.a i_5.b).fst∧zB i_7.sa=3-i_6∧i_7.i.b=(↑i_4:Int)∧zB i_7.sb=1∧i_7.i.less=true∧AObj.fro 6 (List.map zT i_7.i.tops)=AObj.fro 6 (List.map zT i.tops)∧List.map zF i_7.i.out=List.map zF (xF i 1 (i.p.months.length-(i.inst.toNat+1))++xC i 1 i_4)∧(0≤i_7.i.a∧i_7.i.a<(↑i_7.i.tops.length:Int)∧0≤i_7.i.b∧i_7.i.b<(↑i_7.i.tops.length:Int)∧(i_7.i.tops.length≤1000000∧∀(t:Top),t∈i_7.i.tops→((-9223372036854775808)≤t.p1∧t.p1≤9223372036854775807)∧(-9223372036854775808)≤t.p2∧t.p2≤9223372036854775807)∧i_7.i.out.length≤1000)∧∀(o:Unit),True→∃(i':Nat),(↑i':Int)=IntKind.i64.wrap ((↑i_4:Int)+1)∧AObj.fro 6 (List.map zT i.tops)=AObj.fro 6 (List.map zT i_7.i.tops)∧List.map zF (xF i 1 (i.p.months.length-(i.inst.toNat+1))++xC i 1 i')=List.map zF (i_7.i.out++mkq i_7.i.tops (Leg.mk i_7.i.a (zB i_7.sa)) (Leg.mk i_7.i.b (zB i_7.sb)) i_7.i.less)∧I i'∧μ i'<μ i_4∧AObj.fro 6 (List.map zT i.tops)=AObj.fro 6 (List.map zT i.tops)∧AObj.fro 6 (List.map zT i.tops)=AObj.fro 6 (List.map zT i.tops)∧cV i=cV i∧AObj.fro 1 (iE i.p.settle)=AObj.fro 1 (iE i.p.settle)∧AObj.fro 1 (iE i.p.months)=AObj.fro 1 (iE i.p.months)) (∃(o:Unit),List.map zF (xE i 1)=List.map zF (xF i 1 (i.p.months.length-(i.inst.toNat+1))++xC i 1 i_4)∧True)))))))
theorem z8b (hG:GOk Tryz.prog ([(24,pcountC),(51,legsC),(54,spreadC),(52,iotherC),(53,mkAnyC)])) (h:∀(i:u0),all1C.cnd i→z5q i):all1C.ok Tryz.prog 25:=okw mixed hG 0 (fun _=>[]) (fun i=>yDr i 1) [] Tryz.func25 h
@[reducible] def zOd (i_2:vU) (i_3:Int):AObj:=Sx.AObj.cells [V.d (D.v (.int .i64 (i_2.p.legs i_2.n).snd.fst)),V.d (D.v (.int .i64 ((3:Int)-i_3)))] (59:Nat)
@[reducible] def zOm (i_2:vU):AObj:=Sx.AObj.cells [V.d (D.v (.int .i64 (i_2.p.legs i_2.n).fst)),V.d (D.v (.int .i64 2))] (59:Nat)
@[reducible] def cZ (i:u0):AObj:=Sx.AObj.cells [V.d (D.v (Value.string (sb i.p.code))),V.own (0:Nat),V.d (D.v (.int .i64 i.p.tick)),V.d (D.v (.int .i64 i.p.low)),V.d (D.v (.int .i64 i.p.high)),V.d (D.v (.int .i64 i.p.wide)),V.d (D.v (.int .i64 i.p.rule)),V.d (D.v (.int .i64 i.p.top)),V.d (D.v (.int .i64 i.p.least)),V.d (D.v (.int .i64 i.p.part)),V.own ((0:Nat)+(1:Nat))] (29:Nat)
def z5p (i:u0):Prop:=
 ∃(i_1:Prd),sb i_1.code=sb i.p.code∧iE i_1.months=iE i.p.months∧i_1.tick=i.p.tick∧i_1.low=i.p.low∧i_1.high=i.p.high∧i_1.wide=i.p.wide∧i_1.rule=i.p.rule∧i_1.top=i.p.top∧i_1.least=i.p.least∧i_1.part=i.p.part∧iE i_1.settle=iE i.p.settle∧(i_1.code.length≤1099511627776∧i_1.months.length≤1099511627776∧i_1.settle.length≤1099511627776)∧∀(o:Unit),True→cnd ((↑i_1.count:Int)==0) (∃(o:Unit),List.map zF (xE i 2)=[]∧True) (cnd ((↑(List.map zT i.tops).length:Int) !=(↑i_1.count:Int)) (∃(o:Unit),List.map zF (xE i 2)=[]∧True) (cnd (decide (i.inst<0)) (∃(o:Unit),List.map zF (xE i 2)=[]∧True) (cnd (decide (i.inst≥(↑i_1.count:Int))) (∃(o:Unit),List.map zF (xE i 2)=[]∧True) (∃(i_2:vU),sb i_2.p.code=sb i.p.code∧iE i_2.p.months=iE i.p.months∧i_2.p.tick=i.p.tick∧i_2.p.low=i.p.low∧i_2.p.high=i.p.high∧i_2.p.wide=i.p.wide∧i_2.p.rule=i.p.rule∧i_2.p.top=i.p.top∧i_2.p.least=i.p.least∧i_2.p.part=i.p.part∧iE i_2.p.settle=iE i.p.settle∧i_2.n=i.inst∧(i_2.p.code.length≤1099511627776∧i_2.p.months.length≤1099511627776∧i_2.p.settle.length≤1099511627776)∧∀(o:Unit),True→cnd (i_2.p.legs i_2.n).snd.snd (∃(i_3:Int),i_3=2∧(i_3=1∨i_3=2)∧∀(o:Unit),True→∃(i_4:MkJ),i_4.i.a=(i_2.p.legs i_2.n).snd.fst∧zB i_4.sa=3-i_3∧i_4.i.b=(i_2.p.legs i_2.n).fst∧zB i_4.sb=2∧i_4.i.less=true∧AObj.fro 6 (List.map zT i_4.i.tops)=AObj.fro 6 (List.map zT i.tops)∧List.map zF i_4.i.out=[]∧(0≤i_4.i.a∧i_4.i.a<(↑i_4.i.tops.length:Int)∧0≤i_4.i.b∧i_4.i.b<(↑i_4.i.tops.length:Int)∧(i_4.i.tops.length≤1000000∧∀(t:Top),t∈i_4.i.tops→((-9223372036854775808)≤t.p1∧t.p1≤9223372036854775807)∧(-9223372036854775808)≤t.p2∧t.p2≤9223372036854775807)∧i_4.i.out.length≤1000)∧∀(o:Unit),True→∃(i0:Nat),(↑i0:Int)=0∧AObj.fro 6 (List.map zT i.tops)=AObj.fro 6 (List.map zT i_4.i.tops)∧List.map zF (List.map (kA i 2) (List.take i0 (zZ i 2))++List.drop i0 (zZ i 2))=List.map zF (i_4.i.out++mkq i_4.i.tops (Leg.mk i_4.i.a (zB i_4.sa)) (Leg.mk i_4.i.b (zB i_4.sb)) i_4.i.less)∧∃(I:Nat→Prop),∃(μ:Nat→Nat),I i0∧∀(i_5:Nat),I i_5→cnd (decide ((↑i_5:Int)<(↑(List.map zF (i_4.i.out++mkq i_4.i.tops (Leg.mk i_4.i.a (zB i_4.sa)) (Leg.mk i_4.i.b (zB i_4.sb)) i_4.i.less)).length:Int))) ((0≤(↑i_5:Int)∧(↑i_5:Int)<(↑(List.map zF (List.map (kA i 2) (List.take i_5 (zZ i 2))++List.drop i_5 (zZ i 2))).length:Int))∧(↑i_5:Int).toNat<(List.map zF (List.map (kA i 2) (List.take i_5 (zZ i 2))++List.drop i_5 (zZ i 2))).length∧∃(i':Nat),(↑i':Int)=IntKind.i64.wrap ((↑i_5:Int)+1)∧AObj.fro 6 (List.map zT i.tops)=AObj.fro 6 (List.map zT i.tops)∧List.map zF (List.map (kA i 2) (List.take i' (zZ i 2))++List.drop i' (zZ i 2))=zJ (List.map zF (List.map (kA i 2) (List.take i_5 (zZ i 2))++List.drop i_5 (zZ i 2))) (↑i_5:Int).toNat ((0:Nat)+(2:Nat)) [D.v (.int .i64 (i_2.p.legs i_2.n).fst),D.v (.int .i64 2),D.v (.int .i64 (i_2.p.legs i_2.n).snd.fst),D.v (.int .i64 (3-i_3))]∧I i'∧μ i'<μ i_5∧AObj.fro 6 (List.map zT i_4.i.tops)=AObj.fro 6 (List.map zT i_4.i.tops)∧zOd i_2 i_3=zOd i_2 i_3∧zOm i_2=zOm i_2∧AObj.fro 6 (List.map zT i.tops)=AObj.fro 6 (List.map zT i.tops)∧cZ i=cZ i∧AObj.fro 1 (iE i.p.settle)=AObj.fro 1 (iE i.p.settle)∧AObj.fro 1 (iE i.p.months)=AObj.fro 1 (iE i.p.months)) (∃(o:Unit),List.map zF (xE i 2)=List.map zF (List.map (kA i 2) (List.take i_5 (zZ i 2))++List.drop i_5 (zZ i 2))∧True)) (∃(i0:Nat),i.inst+1+(↑i0:Int)=IntKind.i64.wrap (i.inst+1)∧AObj.fro 6 (List.map zT i.tops)=AObj.fro 6 (List.map zT i.tops)∧List.map zF (xF i 2 i0)=[]∧∃(I:Nat→Prop),∃(μ:Nat→Nat),I i0∧∀(i_3:Nat),I i_3→cnd (decide (i.inst+1+(↑i_3:Int)<(↑(iE i.p.months).length:Int))) (∃(i_4:fH),sb i_4.p.code=sb i.p.code∧iE i_4.p.months=iE i.p.months∧i_4.p.tick=i.p.tick∧i_4.p.low=i.p.low∧i_4.p.high=i.p.high∧i_4.p.wide=i.p.wide∧i_4.p.rule=i.p.rule∧i_4.p.top=i.p.top∧i_4.p.least=i.p.least∧i_4.p.part=i.p.part∧iE i_4.p.settle=iE i.p.settle∧i_4.a=i.inst∧i_4.b=i.inst+1+(↑i_3:Int)∧(i_4.p.code.length≤1099511627776∧i_4.p.months.length≤1099511627776∧i_4.p.settle.length≤1099511627776)∧∀(o:Unit),True→∃(i_5:MkJ),i_5.i.a=(i_4.p.spread i_4.a i_4.b).fst∧zB i_5.sa=2∧i_5.i.b=i.inst+1+(↑i_3:Int)∧zB i_5.sb=2∧i_5.i.less=false∧AObj.fro 6 (List.map zT i_5.i.tops)=AObj.fro 6 (List.map zT i.tops)∧List.map zF i_5.i.out=List.map zF (xF i 2 i_3)∧(0≤i_5.i.a∧i_5.i.a<(↑i_5.i.tops.length:Int)∧0≤i_5.i.b∧i_5.i.b<(↑i_5.i.tops.length:Int)∧(i_5.i.tops.length≤1000000∧∀(t:Top),t∈i_5.i.tops→((-9223372036854775808)≤t.p1∧t.p1≤9223372036854775807)∧(-9223372036854775808)≤t.p2∧t.p2≤9223372036854775807)∧i_5.i.out.length≤1000)∧∀(o:Unit),True→∃(i':Nat),i.inst+1+(↑i':Int)=IntKind.i64.wrap (i.inst+1+(↑i_3:Int)+1)∧AObj.fro 6 (List.map zT i.tops)=AObj.fro 6 (List.map zT i_5.i.tops)∧List.map zF (xF i 2 i')=List.map zF (i_5.i.out++mkq i_5.i.tops (Leg.mk i_5.i.a (zB i_5.sa)) (Leg.mk i_5.i.b (zB i_5.sb)) i_5.i.less)∧I i'∧μ i'<μ i_3∧AObj.fro 6 (List.map zT i.tops)=AObj.fro 6 (List.map zT i.tops)∧cZ i=cZ i∧AObj.fro 1 (iE i.p.settle)=AObj.fro 1 (iE i.p.settle)∧AObj.fro 1 (iE i.p.months)=AObj.fro 1 (iE i.p.months)) (∃(i0:Nat),(↑i0:Int)=0∧AObj.fro 6 (List.map zT i.tops)=AObj.fro 6 (List.map zT i.tops)∧List.map zF (xF i 2 (i.p.months.length-(i.inst.toNat+1))++xC i 2 i0)=List.map zF (xF i 2 i_3)∧∃(I:Nat→Prop),∃(μ:Nat→Nat),I i0∧∀(i_4:Nat),I i_4→cnd (decide ((↑i_4:Int)<i.inst)) (∃(i_5:fH),sb i_5.p.code=sb i.p.code∧iE i_5.p.months=iE i.p.months∧i_5.p.tick=i.p.tick∧i_5.p.low=i.p.low∧i_5.p.high=i.p.high∧i_5.p.wide=i.p.wide∧i_5.p.rule=i.p.rule∧i_5.p.top=i.p.top∧i_5.p.least=i.p.least∧i_5.p.part=i.p.part∧iE i_5.p.settle=iE i.p.settle∧i_5.a=(↑i_4:Int)∧i_5.b=i.inst∧(i_5.p.code.length≤1099511627776∧i_5.p.months.length≤1099511627776∧i_5.p.settle.length≤1099511627776)∧∀(o:Unit),True→∃(i_6:Int),i_6=2∧(i_6=1∨i_6=2)∧∀(o:Unit),True→∃(i_7:MkJ),i_7.i.a=(i_5.p.spread i_5.a i_5.b).fst∧zB i_7.sa=3-i_6∧i_7.i.b=(↑i_4:Int)∧zB i_7.sb=2∧i_7.i.less=true∧AObj.fro 6 (List.map zT i_7.i.tops)=AObj.fro 6 (List.map zT i.tops)∧List.map zF i_7.i.out=List.map zF (xF i 2 (i.p.months.length-(i.inst.toNat+1))++xC i 2 i_4)∧(0≤i_7.i.a∧i_7.i.a<(↑i_7.i.tops.length:Int)∧0≤i_7.i.b∧i_7.i.b<(↑i_7.i.tops.length:Int)∧(i_7.i.tops.length≤1000000∧∀(t:Top),t∈i_7.i.tops→((-9223372036854775808)≤t.p1∧t.p1≤9223372036854775807)∧(-9223372036854775808)≤t.p2∧t.p2≤9223372036854775807)∧i_7.i.out.length≤1000)∧∀(o:Unit),True→∃(i':Nat),(↑i':Int)=IntKind.i64.wrap ((↑i_4:Int)+1)∧AObj.fro 6 (List.map zT i.tops)=AObj.fro 6 (List.map zT i_7.i.tops)∧List.map zF (xF i 2 (i.p.months.length-(i.inst.toNat+1))++xC i 2 i')=List.map zF (i_7.i.out++mkq i_7.i.tops (Leg.mk i_7.i.a (zB i_7.sa)) (Leg.mk i_7.i.b (zB i_7.sb)) i_7.i.less)∧I i'∧μ i'<μ i_4∧AObj.fro 6 (List.map zT i.tops)=AObj.fro 6 (List.map zT i.tops)∧AObj.fro 6 (List.map zT i.tops)=AObj.fro 6 (List.map zT i.tops)∧cZ i=cZ i∧AObj.fro 1 (iE i.p.settle)=AObj.fro 1 (iE i.p.settle)∧AObj.fro 1 (iE i.p.months)=AObj.fro 1 (iE i.p.months)) (∃(o:Unit),List.map zF (xE i 2)=List.map zF (xF i 2 (i.p.months.length-(i.inst.toNat+1))++xC i 2 i_4)∧True)))))))
theorem yAo (hG:GOk Tryz.prog ([(24,pcountC),(51,legsC),(54,spreadC),(52,iotherC),(53,mkAnyC)])) (h:∀(i:u0),all2C.cnd i→z5p i):all2C.ok Tryz.prog 25:=okw mixed hG 0 (fun _=>[]) (fun i=>yDr i 2) [] Tryz.func25 h
@[reducible] def cL (j:mQ) (i:mQ):AObj:=Sx.AObj.cells [V.d (D.v (Value.string (sb j.i.p.code))),V.own (0:Nat),V.d (D.v (.int .i64 j.i.p.tick)),V.d (D.v (.int .i64 j.i.p.low)),V.d (D.v (.int .i64 j.i.p.high)),V.d (D.v (.int .i64 j.i.p.wide)),V.d (D.v (.int .i64 j.i.p.rule)),V.d (D.v (.int .i64 j.i.p.top)),V.d (D.v (.int .i64 j.i.p.least)),V.d (D.v (.int .i64 j.i.p.part)),V.own ((0:Nat)+(1:Nat))] (29:Nat)
def zOo (j:mQ):Prop:=
 ∃(i:mQ),sb i.i.p.code=sb j.i.p.code∧iE i.i.p.months=iE j.i.p.months∧i.i.p.tick=j.i.p.tick∧i.i.p.low=j.i.p.low∧i.i.p.high=j.i.p.high∧i.i.p.wide=j.i.p.wide∧i.i.p.rule=j.i.p.rule∧i.i.p.top=j.i.p.top∧i.i.p.least=j.i.p.least∧i.i.p.part=j.i.p.part∧iE i.i.p.settle=iE j.i.p.settle∧List.map zT i.i.tops=List.map zT j.i.tops∧i.i.inst=j.i.inst∧zB i.s=zB j.s∧((i.i.p.code.length≤1099511627776∧i.i.p.months.length≤1099511627776∧i.i.p.settle.length≤1099511627776)∧i.i.tops.length≤1000000∧∀(t:Top),t∈i.i.tops→((-9223372036854775808)≤t.p1∧t.p1≤9223372036854775807)∧(-9223372036854775808)≤t.p2∧t.p2≤9223372036854775807)∧∀(o:Unit),True→∃(i0:Nat),(↑i0:Int)=0∧List.map zF (List.filter (fun(q:Sx.Quote) ↦ decide (j.i.p.price j.i.inst q.price=0)) (List.take i0 (xE j.i (zB j.s))))=[]∧∃(I:Nat→Prop),∃(μ:Nat→Nat),I i0∧∀(i_1:Nat),I i_1→cnd (decide ((↑i_1:Int)<(↑(List.map zF (xE i.i (zB i.s))).length:Int))) ((0≤(↑i_1:Int)∧(↑i_1:Int)<(↑(List.map zF (xE i.i (zB i.s))).length:Int))∧∃(n:Int),∃(n_1:Int),∃(n_2:Int),∃(n_3:Int),∃(n_4:Int),∃(n_5:Int),zH (List.map zF (xE i.i (zB i.s))) (↑i_1:Int).toNat 0 6=some [D.v (.int .i64 n),D.v (.int .i64 n_1),D.v (.int .i64 n_2),D.v (.int .i64 n_3),D.v (.int .i64 n_4),D.v (.int .i64 n_5)]∧∃(i_2:fH),sb i_2.p.code=sb j.i.p.code∧iE i_2.p.months=iE j.i.p.months∧i_2.p.tick=j.i.p.tick∧i_2.p.low=j.i.p.low∧i_2.p.high=j.i.p.high∧i_2.p.wide=j.i.p.wide∧i_2.p.rule=j.i.p.rule∧i_2.p.top=j.i.p.top∧i_2.p.least=j.i.p.least∧i_2.p.part=j.i.p.part∧iE i_2.p.settle=iE j.i.p.settle∧i_2.a=j.i.inst∧i_2.b=n∧(i_2.p.code.length≤1099511627776∧i_2.p.months.length≤1099511627776∧i_2.p.settle.length≤1099511627776)∧∀(o:Unit),True→cnd (i_2.p.price i_2.a i_2.b==0) (((List.map zF (List.filter (fun(q:Sx.Quote) ↦ decide (j.i.p.price j.i.inst q.price=0)) (List.take i_1 (xE j.i (zB j.s))))).length+1)*(48:Nat)≤(70368744177664:Nat)∧∃(i':Nat),(↑i':Int)=IntKind.i64.wrap ((↑i_1:Int)+1)∧List.map zF (List.filter (fun(q:Sx.Quote) ↦ decide (j.i.p.price j.i.inst q.price=0)) (List.take i' (xE j.i (zB j.s))))=List.map zF (List.filter (fun(q:Sx.Quote) ↦ decide (j.i.p.price j.i.inst q.price=0)) (List.take i_1 (xE j.i (zB j.s))))++[[D.v (.int .i64 n),D.v (.int .i64 n_1),D.v (.int .i64 n_2),D.v (.int .i64 n_3),D.v (.int .i64 n_4),D.v (.int .i64 n_5)]]∧I i'∧μ i'<μ i_1∧AObj.own 62 6 (List.map zF (xE i.i (zB i.s)))=AObj.own 62 6 (List.map zF (xE i.i (zB i.s)))∧cL j i=cL j i∧AObj.fro 1 (iE j.i.p.settle)=AObj.fro 1 (iE j.i.p.settle)∧AObj.fro 1 (iE j.i.p.months)=AObj.fro 1 (iE j.i.p.months)) (∃(i':Nat),(↑i':Int)=IntKind.i64.wrap ((↑i_1:Int)+1)∧List.map zF (List.filter (fun(q:Sx.Quote) ↦ decide (j.i.p.price j.i.inst q.price=0)) (List.take i' (xE j.i (zB j.s))))=List.map zF (List.filter (fun(q:Sx.Quote) ↦ decide (j.i.p.price j.i.inst q.price=0)) (List.take i_1 (xE j.i (zB j.s))))∧I i'∧μ i'<μ i_1∧AObj.own 62 6 (List.map zF (xE i.i (zB i.s)))=AObj.own 62 6 (List.map zF (xE i.i (zB i.s)))∧cL j i=cL j i∧AObj.fro 1 (iE j.i.p.settle)=AObj.fro 1 (iE j.i.p.settle)∧AObj.fro 1 (iE j.i.p.months)=AObj.fro 1 (iE j.i.p.months))) (∃(o:Unit),List.map zF (kH j.i (zB j.s))=List.map zF (List.filter (fun(q:Sx.Quote) ↦ decide (j.i.p.price j.i.inst q.price=0)) (List.take i_1 (xE j.i (zB j.s))))∧True)
theorem zXe (hG:GOk Tryz.prog ([(25,allC),(72,priceC)])) (h:∀(j:mQ),quotesC.cnd j→zOo j):quotesC.ok Tryz.prog 67:=okw mixed hG 0 (fun _=>[]) (fun j=>z1n j) [] Tryz.func67 h
@[reducible] def mE:AObj:=Sx.AObj.cells (Sx.V.agg [V.d (D.v (.int .i64 0)),V.d (D.v (.int .i64 0)),V.d (D.v (.int .i64 0)),V.d (D.v (.int .i64 0)),V.d (D.v (.int .i64 0)),V.d (D.v (.int .i64 0))]).cl (62:Nat)
@[reducible] def tM (i:BsI):Prop:=∃(n:Int),∃(n_1:Int),∃(n_2:Int),∃(n_3:Int),∃(n_4:Int),∃(n_5:Int),zH (List.map zF i.l) (Int.toNat 0) 0 6=some [D.v (.int .i64 n),D.v (.int .i64 n_1),D.v (.int .i64 n_2),D.v (.int .i64 n_3),D.v (.int .i64 n_4),D.v (.int .i64 n_5)]∧∃(i0:Nat),(↑i0:Int)=0∧(zX (List.take (max i0 1) i.l) i.s).fst.price=n∧(zX (List.take (max i0 1) i.l) i.s).fst.qty=n_1∧(zX (List.take (max i0 1) i.l) i.s).fst.a.inst=n_2∧(zX (List.take (max i0 1) i.l) i.s).fst.a.side=n_3∧(zX (List.take (max i0 1) i.l) i.s).fst.b.inst=n_4∧(zX (List.take (max i0 1) i.l) i.s).fst.b.side=n_5∧∃(I:Nat→Prop),∃(μ:Nat→Nat),I i0∧∀(i_1:Nat),I i_1→cnd (decide ((↑i_1:Int)<(↑(List.map zF i.l).length:Int))) ((0≤(↑i_1:Int)∧(↑i_1:Int)<(↑(List.map zF i.l).length:Int))∧∃(n:Int),∃(n_6:Int),∃(n_7:Int),∃(n_8:Int),∃(n_9:Int),∃(n_10:Int),zH (List.map zF i.l) (↑i_1:Int).toNat 0 6=some [D.v (.int .i64 n),D.v (.int .i64 n_6),D.v (.int .i64 n_7),D.v (.int .i64 n_8),D.v (.int .i64 n_9),D.v (.int .i64 n_10)]∧∃(i_2:I3'),i_2.side=i.s∧i_2.x=n∧i_2.y=(zX (List.take (max i_1 1) i.l) i.s).fst.price∧True∧∀(o:Unit),True→cnd (btr i_2.side i_2.x i_2.y) (∃(i':Nat),(↑i':Int)=IntKind.i64.wrap ((↑i_1:Int)+1)∧(zX (List.take (max i' 1) i.l) i.s).fst.price=n∧(zX (List.take (max i' 1) i.l) i.s).fst.qty=n_6∧(zX (List.take (max i' 1) i.l) i.s).fst.a.inst=n_7∧(zX (List.take (max i' 1) i.l) i.s).fst.a.side=n_8∧(zX (List.take (max i' 1) i.l) i.s).fst.b.inst=n_9∧(zX (List.take (max i' 1) i.l) i.s).fst.b.side=n_10∧I i'∧μ i'<μ i_1∧mE=mE) (∃(i':Nat),(↑i':Int)=IntKind.i64.wrap ((↑i_1:Int)+1)∧(zX (List.take (max i' 1) i.l) i.s).fst.price=(zX (List.take (max i_1 1) i.l) i.s).fst.price∧(zX (List.take (max i' 1) i.l) i.s).fst.qty=(zX (List.take (max i_1 1) i.l) i.s).fst.qty∧(zX (List.take (max i' 1) i.l) i.s).fst.a.inst=(zX (List.take (max i_1 1) i.l) i.s).fst.a.inst∧(zX (List.take (max i' 1) i.l) i.s).fst.a.side=(zX (List.take (max i_1 1) i.l) i.s).fst.a.side∧(zX (List.take (max i' 1) i.l) i.s).fst.b.inst=(zX (List.take (max i_1 1) i.l) i.s).fst.b.inst∧(zX (List.take (max i' 1) i.l) i.s).fst.b.side=(zX (List.take (max i_1 1) i.l) i.s).fst.b.side∧I i'∧μ i'<μ i_1∧mE=mE)) (∃(o:Unit),(zX i.l i.s).fst.price=(zX (List.take (max i_1 1) i.l) i.s).fst.price∧(zX i.l i.s).fst.qty=(zX (List.take (max i_1 1) i.l) i.s).fst.qty∧(zX i.l i.s).fst.a.inst=(zX (List.take (max i_1 1) i.l) i.s).fst.a.inst∧(zX i.l i.s).fst.a.side=(zX (List.take (max i_1 1) i.l) i.s).fst.a.side∧(zX i.l i.s).fst.b.inst=(zX (List.take (max i_1 1) i.l) i.s).fst.b.inst∧(zX i.l i.s).fst.b.side=(zX (List.take (max i_1 1) i.l) i.s).fst.b.side∧(zX i.l i.s).snd=true∧True)
@[reducible] def lK (i:BsI):Prop:=∃(o:Unit),(zX i.l i.s).fst.price=0∧(zX i.l i.s).fst.qty=0∧(zX i.l i.s).fst.a.inst=0∧(zX i.l i.s).fst.a.side=0∧(zX i.l i.s).fst.b.inst=0∧(zX i.l i.s).fst.b.side=0∧(zX i.l i.s).snd=false∧True
def zLl (i:BsI):Prop:=
 cnd ((↑(List.map zF i.l).length:Int)==0) (lK i) (cnd (i.s !=1) (cnd (i.s !=2) (lK i) (((0:Int)≤(0:Int)∧0<(↑(List.map zF i.l).length:Int))∧tM i)) (((0:Int)≤(0:Int)∧0<(↑(List.map zF i.l).length:Int))∧tM i))
theorem z4h (hG:GOk Tryz.prog ([(94,ibetterC)])) (h:∀(i:BsI),bestQC.cnd i→zLl i):bestQC.ok Tryz.prog 66:=okw mixed hG 0 (fun _=>[]) (fun i=>yAt i) [] Tryz.func66 h
end Sx
