/- Texts of ours, one behind the other: a walk that the kernel reckons, and contracts of functions. No condition. -/
import Derived.Test.YtpgpnnncaidcjaaGreatRows
import Derived.Test.YtpgpnnncaidcjaaGreatM3
namespace Sx
set_option linter.unusedVariables false
open Go Cv Go.Proofs
theorem kp {P:Prop} (h:P:=by(repeat'(first|exact rfl|exact trivial|assumption|apply And.intro|refine fun(_:Unit) (_:True)=>?_|refine Exists.intro () ?_|omega|(dsimp only;omega)))):P:=h
theorem mixed:Tryz.prog.follows .mixedOrders=true:=by kernel_rfl
theorem okw {P:Program} {f:FuncId} {fn:Func} {C:Con} {G:List (Nat×Con)} {V:C.ι→Prop} (hm:P.follows .mixedOrders=true) (hG:GOk P G) (d:Nat) (J:C.ι→List (Nat×SAnn)) (an:C.ι→List SAnn) (op:List Nat) (hf:P.funcs[f]? =some fn) (h:∀i,C.cnd i→V i) (hb:fn.body=some (fn.body.getD .skip):=by kernel_rfl) (hbd:vM P f=true:=by kernel_rfl) (hok:okC fn.ntmps (fn.body.getD .skip)=true:=by kernel_rfl) (hsz:∀i,Nat.ble (C.pat i).length fn.ntmps=true:=by intro _;kernel_rfl) (e:∀i,V i=walk P G d (J i) (an i) op fn (fn.body.getD .skip) (C.pat i) (C.pre i) (C.alts i):=by intro _;kernel_rfl):C.ok P f:=sL hm G hG d J an op hf hb hbd hok hsz fun i hc=>Eq.mp (e i) (h i hc)
structure Lv where
 price:Int
 qty:Int
 count:Int
def lvV (l:Lv):V:= .agg [zB l.price,zB l.qty,zB l.count]
open Go Cv Go.Proofs
def sb (l:List UInt8):ByteArray:=⟨l.toArray⟩
@[reducible] def sV (l:List UInt8):V:= .d (.v (.string (sb l)))
def zFi (l:List UInt8):Nat×Nat:=Utf8.decode (sb l) 0
def pI:Nat→Nat→List UInt8→List (Nat×Nat)
 |0,_,_=>[]
 |k+1,p,l=>match l with
  |[]=>[]
  |_=>(p,(zFi l).1)::pI k (p+(zFi l).2) (l.drop (zFi l).2)
def uQ (s:List UInt8) (p:Nat):List (Nat×Nat):=pI (s.length-p) p (s.drop p)
def kO (s:List UInt8):List Nat:=(uQ s 0).map (·.2)
def countC:Con:=con1 (List UInt8) (fun s=>[sV s]) (fun _=>[]) (fun s=>s.length≤1099511627776) (fun s=>zB (kO s).length) (fun _=>[])
def yMt (s:List UInt8):List SAnn:=[{ι:=Nat×Nat,slots:=fun x=>[(3,zB x.2),(5,.nm 0 0)],rows:=fun x=>[.iter (sb s) x.1]}]
def uB (r:Nat):Bool:=(decide (65≤r) && decide (r≤90))||(decide (913≤r) && decide (r≤937) && decide (r≠930))
def wK (s:List UInt8):Bool:=(kO s).all uB && decide (s≠[]) && decide ((kO s).length≤4)
def symC:Con:=con1 (List UInt8) (fun s=>[sV s]) (fun _=>[]) (fun s=>s.length≤1099511627776) (fun s=>yO (wK s)) (fun _=>[])
def yQd (s:List UInt8):List SAnn:=[{ι:=Nat,slots:=fun x=>[(7,.nm 0 0)],rows:=fun x=>[.iter (sb s) x]}]
def iE (l:List Int):List (List D):=l.map fun n=>[.v (.int .i64 n)]
@[reducible] def iV (l:List Int):V:=roV 1 (iE l)
structure Prd where
 code:List UInt8
 months:List Int
 tick:Int
 low:Int
 high:Int
 wide:Int
 rule:Int
 top:Int
 least:Int
 part:Int
 settle:List Int
 deriving DecidableEq
@[reducible] def Prd.cells (p:Prd):List V:=[sV p.code,iV p.months,zB p.tick,zB p.low,zB p.high,zB p.wide,zB p.rule,zB p.top,zB p.least,zB p.part,iV p.settle]
@[reducible] def prdV (p:Prd):V:= .agg p.cells
@[reducible] def Prd.small (p:Prd):Prop:=p.code.length≤1099511627776∧p.months.length≤1099511627776∧p.settle.length≤1099511627776
def qT (l:List Int) (k:Nat):Bool:=decide (0≤l.getD k 0) && decide (l.getD k 0≤1199) && (decide (k=0)||decide (l.getD (k-1) 0<l.getD k 0))
def xI (l:List Int):Bool:=(List.range l.length).all (qT l) && decide (2≤l.length) && decide (l.length≤6)
def monthsC:Con:=con1 (List Int) (fun l=>[iV l]) (fun _=>[]) (fun l=>l.length≤1099511627776) (fun l=>yO (xI l)) (fun _=>[])
def yEa:List SAnn:=[{ι:=Nat,slots:=fun j=>[(7,zB j)],rows:=fun _=>[]}]
structure yRf where
 l:List Int
def a9 (l:List Int):Int:=l.tail.foldl min (l.headD 0)
def mW (l:List Int):Int:=l.tail.foldl max (l.headD 0)
def minC:Con:=con1 (List Int) (fun l=>[iV l]) (fun _=>[]) (fun l=>0<l.length∧l.length≤1099511627776) (fun l=>zB (a9 l)) (fun _=>[])
def maxC:Con:=con1 (List Int) (fun l=>[iV l]) (fun _=>[]) (fun l=>0<l.length∧l.length≤1099511627776) (fun l=>zB (mW l)) (fun _=>[])
def yQv (l:List Int):List SAnn:=[{ι:=Nat,slots:=fun j=>[(3,zB (a9 (l.take j))),(4,zB j)],rows:=fun _=>[]}]
def yPp (l:List Int):List SAnn:=[{ι:=Nat,slots:=fun j=>[(3,zB (mW (l.take j))),(4,zB j)],rows:=fun _=>[]}]
set_option maxRecDepth 100000
open Go Cv Go.Proofs
def gZ (a:Nat×Nat) (b:List UInt8) (c:Nat×Nat→Prop) (d:Nat×Nat→Nat):Prop:=∃(e:Nat×Nat),(↑e.snd:Int)=IntKind.i64.wrap ((↑a.snd:Int)+1)∧sb b=sb b∧e.fst=a.fst+(Utf8.decode (sb b) a.fst).snd∧c e∧d e<d a∧True
def zUe (s:List UInt8):Prop:=
 ∃(a:Nat×Nat),(↑a.snd:Int)=0∧sb s=sb s∧a.fst=0∧∃(b:Nat×Nat→Prop),∃(c:Nat×Nat→Nat),b a∧∀(d:Nat×Nat),b d→cnd (d.fst.blt (sb s).size) (gZ d s b c) (∃(e:Unit),(↑(kO s).length:Int)=(↑d.snd:Int)∧True)
theorem yCc (hG:GOk Tryz.prog ([])) (h:∀(s:List UInt8),countC.cnd s→zUe s):countC.ok Tryz.prog 108:=okw mixed hG 0 (fun _=>[]) (fun s=>yMt s) [] Tryz.func108 h
def c8 (a:List UInt8) (b:Nat):=(↑(Utf8.decode (sb a) b).fst:Int)
def zNr (a:List UInt8) (b:Nat) (c:Nat→Prop) (d:Nat→Nat):Prop:=cnd (decide ((c8 a b)≥913)) (cnd (decide ((c8 a b)≤937)) (cnd (!(c8 a b) !=930) (∃(e:Unit),wK a=false∧True) (∃(e:Nat),sb a=sb a∧e=b+(Utf8.decode (sb a) b).snd∧c e∧d e<d b∧True)) (∃(e:Unit),wK a=false∧True)) (∃(e:Unit),wK a=false∧True)
def yMd (s:List UInt8):Prop:=
 ∃(a:Nat),sb s=sb s∧a=0∧∃(b:Nat→Prop),∃(c:Nat→Nat),b a∧∀(d:Nat),b d→cnd (d.blt (sb s).size) (cnd (decide ((c8 s d)≥65)) (cnd (decide ((c8 s d)≤90)) (∃(e:Nat),sb s=sb s∧e=d+(Utf8.decode (sb s) d).snd∧b e∧c e<c d∧True) (zNr s d b c)) (zNr s d b c)) (cnd (!(sb s).toList==(ByteArray.mk #[]).toList) (∃(e:List UInt8),sb e=sb s∧e.length≤1099511627776∧∀(f:Unit),True→∃(g:Unit),wK s=decide ((↑(kO e).length:Int)≤4)∧True) (∃(e:Unit),wK s=false∧True))
theorem yPd (hG:GOk Tryz.prog ([(108,countC)])) (h:∀(s:List UInt8),symC.cnd s→yMd s):symC.ok Tryz.prog 82:=okw mixed hG 0 (fun _=>[]) (fun s=>yQd s) [] Tryz.func82 h
def wW (a:Nat) (b:Nat) (c:Nat→Prop) (d:Nat→Nat):Prop:=(↑a:Int)=IntKind.i64.wrap ((↑b:Int)+1)∧c a∧d a<d b∧True
def fQ (a:Nat) (b:Nat→Prop) (c:Nat→Nat):Prop:=∃(d:Nat),wW d a b c
def zMv (l:List Int):Prop:=
 ∃(a:Nat),(↑a:Int)=0∧∃(b:Nat→Prop),∃(c:Nat→Nat),b a∧∀(d:Nat),b d→cnd (decide ((↑d:Int)<(↑(iE l).length:Int))) ((0≤(↑d:Int)∧(↑d:Int)<(↑(iE l).length:Int))∧∃(e:Int),zF (iE l) (↑d:Int).toNat 0 1=some [D.v (.int .i64 e)]∧cnd (decide (e<0)) (∃(f:Unit),xI l=false∧True) (cnd (decide (e>1199)) (∃(f:Unit),xI l=false∧True) (cnd (decide ((↑d:Int)>0)) ((0≤IntKind.i64.wrap ((↑d:Int)-1)∧IntKind.i64.wrap ((↑d:Int)-1)<(↑(iE l).length:Int))∧∃(f:Int),zF (iE l) (IntKind.i64.wrap ((↑d:Int)-1)).toNat 0 1=some [D.v (.int .i64 f)]∧cnd (decide (f≥e)) (∃(g:Unit),xI l=false∧True) (fQ d b c)) (fQ d b c)))) (cnd (decide ((↑(iE l).length:Int)≥2)) (∃(e:Unit),xI l=decide ((↑(iE l).length:Int)≤6)∧True) (∃(e:Unit),xI l=false∧True))
theorem yAc (hG:GOk Tryz.prog ([])) (h:∀(l:List Int),monthsC.cnd l→zMv l):monthsC.ok Tryz.prog 83:=okw mixed hG 0 (fun _=>[]) (fun _=>yEa) [] Tryz.func83 h
def yJa (l:List Int):Prop:=
 cnd (decide ((↑(iE l).length:Int)<1)) False (((0:Int)≤(0:Int)∧0<(↑(iE l).length:Int))∧∃(a:Int),zF (iE l) (Int.toNat 0) 0 1=some [D.v (.int .i64 a)]∧∃(b:Nat),a9 (List.take b l)=a∧(↑b:Int)=1∧∃(c:Nat→Prop),∃(d:Nat→Nat),c b∧∀(e:Nat),c e→cnd (decide ((↑e:Int)<(↑(iE l).length:Int))) ((0≤(↑e:Int)∧(↑e:Int)<(↑(iE l).length:Int))∧∃(f:Int),zF (iE l) (↑e:Int).toNat 0 1=some [D.v (.int .i64 f)]∧∃(g:Nat),a9 (List.take g l)=min (a9 (List.take e l)) f∧wW g e c d) (∃(f:Unit),a9 l=a9 (List.take e l)∧True))
theorem yNl (hG:GOk Tryz.prog ([])) (h:∀(l:List Int),minC.cnd l→yJa l):minC.ok Tryz.prog 85:=okw mixed hG 0 (fun _=>[]) (fun l=>yQv l) [] Tryz.func85 h
def yIn (l:List Int):Prop:=
 cnd (decide ((↑(iE l).length:Int)<1)) False (((0:Int)≤(0:Int)∧0<(↑(iE l).length:Int))∧∃(a:Int),zF (iE l) (Int.toNat 0) 0 1=some [D.v (.int .i64 a)]∧∃(b:Nat),mW (List.take b l)=a∧(↑b:Int)=1∧∃(c:Nat→Prop),∃(d:Nat→Nat),c b∧∀(e:Nat),c e→cnd (decide ((↑e:Int)<(↑(iE l).length:Int))) ((0≤(↑e:Int)∧(↑e:Int)<(↑(iE l).length:Int))∧∃(f:Int),zF (iE l) (↑e:Int).toNat 0 1=some [D.v (.int .i64 f)]∧∃(g:Nat),(mW (List.take g l)=if f>mW (List.take e l)then f else mW (List.take e l))∧wW g e c d) (∃(f:Unit),mW l=mW (List.take e l)∧True))
theorem yPa (hG:GOk Tryz.prog ([])) (h:∀(l:List Int),maxC.cnd l→yIn l):maxC.ok Tryz.prog 86:=okw mixed hG 0 (fun _=>[]) (fun l=>yPp l) [] Tryz.func86 h
set_option linter.unusedSimpArgs false
open Go Cv Go.Proofs
@[simp] theorem z0m (s:List UInt8):(sb s).size=s.length:=by simp[sb,ByteArray.size]
theorem bX (s:List UInt8):(sb s).toList=s:=by rw[ByteArray.toList_eq];rfl
theorem yMg (s:List UInt8) (p k:Nat):(sb s).get! (p+k)=(sb (s.drop p)).get! (0+k):=by
 simp only[sb,ByteArray.get!,Nat.zero_add]
 simp only[List.getElem!_toArray,List.getElem!_eq_getElem?_getD,List.getElem?_drop]
theorem zDj (s:List UInt8) (p:Nat):Utf8.decode (sb s) p=zFi (s.drop p):=by
 have h (k:Nat):(decide (p+k<(sb s).size))=decide (0+k<(sb (s.drop p)).size):=by
  simp only[z0m,List.length_drop]
  by_cases h:p+k<s.length
  ·rw[decide_eq_true h,decide_eq_true (by omega)]
  ·rw[decide_eq_false h,decide_eq_false (by omega)]
 unfold zFi Utf8.decode
 simp only[yMg s p,h]
theorem dS (s:List UInt8) {p:Nat} (h:p<s.length):1≤(Utf8.decode (sb s) p).2∧p+(Utf8.decode (sb s) p).2≤s.length:=by
 unfold Utf8.decode
 simp only[z0m,Bool.and_eq_true,decide_eq_true_eq]
 split
 ·exact⟨by simp,by simp;omega⟩
 split
 ·rename_i h1
  split
  ·exact⟨by simp,by simp;omega⟩
  ·exact⟨by simp,by simp;omega⟩
 split
 ·rename_i h1
  split
  ·exact⟨by simp,by simp;omega⟩
  ·exact⟨by simp,by simp;omega⟩
 split
 ·rename_i h1
  split
  ·exact⟨by simp,by simp;omega⟩
  ·exact⟨by simp,by simp;omega⟩
 ·exact⟨by simp,by simp;omega⟩
theorem yLv {l:List UInt8} (h:l≠[]):1≤(zFi l).2∧(zFi l).2≤l.length:=by
 have:=dS l (p:=0) (by cases l<;>simp_all)
 rw[zFi];omega
theorem aR:∀(k:Nat) (p:Nat) (l:List UInt8),l.length≤k→pI k p l=pI l.length p l
 |0,p,l,h=>by
  have:l=[]:=List.eq_nil_of_length_eq_zero (by omega)
  subst this;rfl
 |k+1,p,[],h=>rfl
 |k+1,p,b::l,h=>by
  have hw:=yLv (l:=b::l) (by simp)
  have hl:((b::l).drop (zFi (b::l)).2).length≤l.length:=by rw[List.length_drop,List.length_cons];omega
  rw[List.length_cons]
  simp only[pI]
  rw[aR k _ _ (by rw[List.length_cons]at h;omega),aR l.length _ _ hl]
theorem fD {s:List UInt8} {p:Nat} (h:s.length≤p):uQ s p=[]:=by
 rw[uQ,show s.length-p=0 by omega];rfl
theorem jV {s:List UInt8} {p:Nat} (h:p<s.length):uQ s p=(p,(Utf8.decode (sb s) p).1)::uQ s (p+(Utf8.decode (sb s) p).2):=by
 obtain⟨k,hk⟩:∃k,s.length-p=k+1:=⟨s.length-p-1,by omega⟩
 have hw:=dS s h
 obtain⟨b,l,hb⟩:∃b l,s.drop p=b::l:=by
  cases hd:s.drop p with
  |nil=>rw[List.drop_eq_nil_iff]at hd;omega
  |cons b l=>exact⟨b,l,rfl⟩
 have hlen:(b::l).length=s.length-p:=by rw[← hb,List.length_drop]
 rw[uQ,hk,hb,zDj,hb,uQ]
 rw[zDj,hb]at hw
 simp only[pI]
 have e:(b::l).drop (zFi (b::l)).2=s.drop (p+(zFi (b::l)).2):=by rw[← hb,List.drop_drop]
 rw[e,aR k _ _ (by rw[List.length_drop];omega),List.length_drop]
theorem zHa (s:List UInt8):∀(k p:Nat),s.length-p≤k→(uQ s p).length≤s.length-p
 |0,p,h=>by rw[fD (by omega)];simp
 |k+1,p,h=>by
  by_cases hp:p<s.length
  ·have hw:=dS s hp
   rw[jV hp,List.length_cons]
   have:=zHa s k (p+(Utf8.decode (sb s) p).2) (by omega)
   omega
  ·rw[fD (by omega)];simp
theorem zBd (s:List UInt8):(kO s).length≤s.length:=by
 rw[kO,List.length_map]
 have:=zHa s s.length 0 (by omega)
 omega
theorem zYg {a b:Nat} (h:Nat.blt a b=false):b≤a:=by
 rcases Nat.lt_or_ge a b with h1|h1
 ·rw[show Nat.blt a b=true by rw[Nat.blt_eq];exact h1]at h;cases h
 ·exact h1
theorem z7b:(ByteArray.mk #[]).toList=[]:=bX []
theorem yKb (s:List UInt8) (h:countC.cnd s):zUe s:=by
 have h:s.length≤1099511627776:=h
 have hr:=zBd s
 unfold zUe gZ
 refine⟨(0,0),rfl,rfl,rfl,fun x=>x.1≤s.length∧x.2+(uQ s x.1).length=(kO s).length,fun x=>s.length-x.1,⟨by omega,by rw[kO,List.length_map];simp⟩,?_⟩
 rintro⟨p,n⟩ ⟨h1,h2⟩
 dsimp only at h1 h2 ⊢
 refine Cv.cnd.mk (fun hp=> ?_) (fun hp=> ?_)
 ·have hp:p<s.length:=by simpa[Nat.blt_eq]using hp
  have hw:=dS s hp
  rw[jV hp,List.length_cons]at h2
  refine⟨(p+(Utf8.decode (sb s) p).2,n+1),?_,rfl,rfl,⟨hw.2,by(first|omega|(dsimp only;omega))⟩,by(first|omega|(dsimp only;omega)),trivial⟩
  rw[w64 (by omega)];rfl
 ·have hp:s.length≤p:=by have:=zYg hp;simpa using this
  rw[fD hp]at h2
  exact⟨(),by rw[← h2];rfl,trivial⟩
theorem z5r:countC.ok Tryz.prog 108:=yCc gok0 yKb
theorem yQw (s:List UInt8) (h:symC.cnd s):yMd s:=by
 have h:s.length≤1099511627776:=h
 unfold yMd zNr c8
 refine⟨0,rfl,rfl,fun p=>p≤s.length∧(kO s).all uB=(uQ s p).all fun x=>uB x.2,fun p=>s.length-p,⟨by omega,by rw[kO,List.all_map];rfl⟩,?_⟩
 rintro p ⟨h1,h2⟩
 refine Cv.cnd.mk (fun hp=> ?_) (fun hp=> ?_)
 ·have hp:p<s.length:=by simpa[Nat.blt_eq]using hp
  have hw:=dS s hp
  rw[jV hp,List.all_cons]at h2
  generalize hc:(Utf8.decode (sb s) p).1=c at h2 ⊢
  generalize hww:(Utf8.decode (sb s) p).2=w at h2 hw ⊢
  dsimp only at h2
  have bad:uB c=false→∃(o:Unit),wK s=false∧True:=fun e=>⟨(),by rw[wK,h2,e];rfl,trivial⟩
  have good:uB c=true→∃i':Nat,sb s=sb s∧i'=p+w∧(i'≤s.length∧(kO s).all uB=(uQ s i').all fun x=>uB x.2)∧s.length-i'<s.length-p∧True:=fun e=>⟨p+w,rfl,rfl,⟨hw.2,by rw[h2,e];rfl⟩,by omega,trivial⟩
  refine zL (fun c1=>zL (fun c2=> ?_) (fun c2=>zL (fun c3=>zL (fun c4=>Cv.cnd.mk (fun c5=> ?_) (fun c5=> ?_)) (fun c4=> ?_)) (fun c3=> ?_))) (fun c1=>zL (fun c3=>zL (fun c4=>Cv.cnd.mk (fun c5=> ?_) (fun c5=> ?_)) (fun c4=> ?_)) (fun c3=> ?_))
  all_goals first|(refine good ?_;simp[uB]at*;omega)|(refine bad ?_;simp[uB]at*;omega)
 ·have hp:s.length≤p:=by have:=zYg hp;simpa using this
  rw[fD hp]at h2
  have h2:(kO s).all uB=true:=h2
  refine Cv.cnd.mk (fun e=>⟨s,rfl,h,fun _ _=>⟨(),?_,trivial⟩⟩) (fun e=>⟨(),?_,trivial⟩)
  ·rw[bX,z7b]at e
   have:s≠[]:=by simpa using e
   rw[wK,h2,decide_eq_true this]
   simp only[Bool.true_and]
   congr 1
   simp only[eq_iff_iff];omega
  ·have:s=[]:=by
    rw[bX,z7b]at e
    simpa using e
   rw[wK,this];rfl
theorem yKf:symC.ok Tryz.prog 82:=yPd (gokc z5r gok0) yQw
@[simp] theorem xH (l:List Int):(iE l).length=l.length:=by simp[iE]
theorem elI {l:List Int} {k:Nat} {n:Int} (h:l[k]? =some n):zF (iE l) k 0 1=some [D.v (.int .i64 n)]:=by
 simp[zF,iE,h];rfl
theorem z9 {α:Type} {l:List α} {i:Nat} (h:i<l.length):∃x,l[i]? =some x:=⟨l[i],List.getElem?_eq_getElem h⟩
theorem zKi {n k:Nat} {f:Nat→Bool} (hk:k<n) (h:f k=false):(List.range n).all f=false:=by
 cases hh:(List.range n).all f
 ·rfl
 ·rw[List.all_eq_true]at hh
  rw[hh k (by simpa using hk)]at h;cases h
theorem zQg {n:Nat} {f:Nat→Bool} (h:∀k<n,f k=true):(List.range n).all f=true:=by
 rw[List.all_eq_true];intro k hk;exact h k (by simpa using hk)
theorem yDs (l:List Int) (h:monthsC.cnd l):zMv l:=by
 have h:l.length≤1099511627776:=h
 unfold zMv fQ wW
 simp only[xH]
 refine⟨0,rfl,fun j=>j≤l.length∧∀k<j,qT l k=true,fun j=>l.length-j,⟨by omega,fun k hk=>by omega⟩,?_⟩
 rintro j ⟨h1,h2⟩
 have bad:j<l.length→qT l j=false→∃(o:Unit),xI l=false∧True:=fun hj e=>⟨(),by rw[xI,zKi hj e];rfl,trivial⟩
 have good:j<l.length→qT l j=true→∃i':Nat,(i':Int)=IntKind.i64.wrap ((j:Int)+1)∧(i'≤l.length∧∀k<i',qT l k=true)∧l.length-i'<l.length-j∧True:=fun hj e=>⟨j+1,by rw[w64 (by omega)];rfl,⟨by omega,fun k hk=>by
  rcases Nat.lt_or_ge k j with hk'|hk'
  ·exact h2 k hk'
  ·obtain rfl:k=j:=by omega
   exact e⟩,by omega,trivial⟩
 refine zL (fun hj=> ?_) (fun hj=> ?_)
 ·have hj:j<l.length:=by omega
  obtain⟨n,hn⟩:=z9 hj
  have hg:l.getD j 0=n:=by simp[hn]
  refine⟨⟨by omega,by omega⟩,n,elI hn,zL (fun c1=>bad hj (by simp[qT,hn];omega)) (fun c1=>zL (fun c2=>bad hj (by simp[qT,hn];omega)) (fun c2=>zL (fun c3=> ?_) (fun c3=>good hj ?_)))⟩
  ·have e:IntKind.i64.wrap ((j:Int)-1)=((j-1:Nat):Int):=by rw[w64 (by omega)];omega
   obtain⟨m,hm⟩:=z9 (l:=l) (i:=j-1) (by omega)
   rw[e]
   refine⟨⟨by omega,by omega⟩,m,elI hm,zL (fun c4=>bad hj ?_) (fun c4=>good hj ?_)⟩
   ·simp[qT,hn,hm];omega
   ·simp[qT,hn,hm];omega
  ·simp[qT,hn];omega
 ·have e:(List.range l.length).all (qT l)=true:=zQg fun k hk=>h2 k (by omega)
  refine zL (fun c=>⟨(),?_,trivial⟩) (fun c=>⟨(),?_,trivial⟩)
  ·rw[xI,e,decide_eq_true (show 2≤l.length by omega)]
   simp;omega
  ·rw[xI,decide_eq_false (show ¬2≤l.length by omega)];simp
theorem z3r:monthsC.ok Tryz.prog 83:=yAc gok0 yDs
theorem zCj {f:Int→Int→Int} {l:List Int} {j:Nat} {n:Int} (h:l[j+1]? =some n):(l.take (j+2)).tail.foldl f ((l.take (j+2)).headD 0)=f ((l.take (j+1)).tail.foldl f ((l.take (j+1)).headD 0)) n:=by
 cases l with
 |nil=>simp at h
 |cons a l=>
  simp only[List.getElem?_cons_succ]at h
  simp only[List.take_succ_cons,List.tail_cons,List.headD_cons]
  rw[List.take_add_one,h,List.foldl_append];rfl
theorem zPv {l:List Int} {n:Int} (h:l[0]? =some n) (f:Int→Int→Int):(l.take 1).tail.foldl f ((l.take 1).headD 0)=n:=by
 cases l with
 |nil=>simp at h
 |cons a l=>simpa using h
theorem yQh (l:List Int) (h:minC.cnd l):yJa l:=by
 obtain⟨h0,h⟩:0<l.length∧l.length≤1099511627776:=h
 unfold yJa wW
 simp only[xH]
 obtain⟨n,hn⟩:=z9 h0
 refine zL (fun c=>by omega) (fun c=>⟨⟨by omega,by omega⟩,n,elI hn,1,zPv hn min,rfl,fun j=>1≤j∧j≤l.length,fun j=>l.length-j,⟨by omega,by omega⟩,?_⟩)
 rintro j ⟨h1,h2⟩
 refine zL (fun hj=> ?_) (fun hj=>⟨(),?_,trivial⟩)
 ·obtain⟨m,hm⟩:=z9 (l:=l) (i:=j) (by omega)
  refine⟨⟨by omega,by omega⟩,m,elI hm,j+1,?_,?_,⟨by omega,by omega⟩,by(first|omega|(dsimp only;omega)),trivial⟩
  ·obtain⟨k,rfl⟩:∃k,j=k+1:=⟨j-1,by omega⟩
   first
    |(rw[a9,zCj hm,← a9];done)
    |(rw[a9,zCj hm,← a9];generalize a9 (l.take (k+1))=x;split<;>omega)
  ·rw[w64 (by omega)];rfl
 ·rw[List.take_of_length_le (by omega)]
theorem yMq:minC.ok Tryz.prog 85:=yNl gok0 yQh
theorem yPy (l:List Int) (h:maxC.cnd l):yIn l:=by
 obtain⟨h0,h⟩:0<l.length∧l.length≤1099511627776:=h
 unfold yIn wW
 simp only[xH]
 obtain⟨n,hn⟩:=z9 h0
 refine zL (fun c=>by omega) (fun c=>⟨⟨by omega,by omega⟩,n,elI hn,1,zPv hn max,rfl,fun j=>1≤j∧j≤l.length,fun j=>l.length-j,⟨by omega,by omega⟩,?_⟩)
 rintro j ⟨h1,h2⟩
 refine zL (fun hj=> ?_) (fun hj=>⟨(),?_,trivial⟩)
 ·obtain⟨m,hm⟩:=z9 (l:=l) (i:=j) (by omega)
  refine⟨⟨by omega,by omega⟩,m,elI hm,j+1,?_,?_,⟨by omega,by omega⟩,by(first|omega|(dsimp only;omega)),trivial⟩
  ·obtain⟨k,rfl⟩:∃k,j=k+1:=⟨j-1,by omega⟩
   rw[mW,zCj hm,← mW]
   generalize mW (l.take (k+1))=x
   split<;>omega
  ·rw[w64 (by omega)];rfl
 ·rw[List.take_of_length_le (by omega)]
theorem yLo:maxC.ok Tryz.prog 86:=yPa gok0 yPy
open Go Cv Go.Proofs
@[reducible] def Prd.row (p:Prd):AObj:= .cells p.cells 29
structure zTn where
 p:Prd
 n:Int
structure zFg where
 p:Prd
 l:List Int
def qQ (t n:Int):Bool:=n.tmod t !=0
def offC:Con:=con1 zTn (fun i=>[zB i.n,.nm 0 0]) (fun i=>[i.p.row]) (fun i=>1≤i.p.tick) (fun i=>yO (qQ i.p.tick i.n)) (fun i=>[i.p.row])
@[reducible] def yNj:V:= .fn 109 [] [.nm 0 0]
def zCq (k:Option Nat):Int:=match k with
 |some k=>k
 |none=> -1
def idxC:Con:=con1 zFg (fun i=>[iV i.l,yNj]) (fun i=>[i.p.row]) (fun i=>1≤i.p.tick∧i.l.length≤1099511627776) (fun i=>zB (zCq (i.l.findIdx? (qQ i.p.tick)))) (fun i=>[i.p.row])
def yRb (i:zFg):List SAnn:=[{ι:=Nat,slots:=fun j=>[(8,zB j)],rows:=fun _=>[]}]
def containsC:Con:=con1 zFg (fun i=>[iV i.l,yNj]) (fun i=>[i.p.row]) (fun i=>1≤i.p.tick∧i.l.length≤1099511627776) (fun i=>yO (i.l.any (qQ i.p.tick))) (fun i=>[i.p.row])
def qK (p:Prd):Bool:=decide (1≤p.tick) && decide (p.tick≤1000) && !qQ p.tick p.low && !qQ p.tick p.high && !qQ p.tick p.wide && !p.settle.any (qQ p.tick)
def ticksC:Con:=con1 Prd (fun p=>[prdV p]) (fun _=>[]) Prd.small (fun p=>yO (qK p)) (fun _=>[])
def qJ (p:Prd):Bool:=decide (p.low< -1000000)||decide (p.low≥p.high)||decide (p.high>1000000)||decide (p.wide<0)||decide (p.wide>p.high-p.low)
def xJ (p:Prd):Bool:=decide (p.settle.length≠p.months.length)||decide (a9 p.settle<p.low)||decide (mW p.settle>p.high)
def kC (p:Prd):Bool:=decide (p.rule<1)||decide (p.rule>3)
def xY (p:Prd):Bool:=decide (p.top<0)||decide (p.top>1000000)||decide (p.least<1)||decide (p.least>1000)||decide (p.part<0)||decide (p.part>100)
def Prd.check (p:Prd):Int:=
 if !wK p.code then 12 else if !xI p.months then 1 else if !qK p then 22 else if qJ p then 23 else if xJ p then 1 else if kC p then 31 else if xY p then 24 else 0
def checkC:Con:=con1 Prd (fun p=>[prdV p]) (fun _=>[]) Prd.small (fun p=>zB p.check) (fun _=>[])
def Prd.count (p:Prd):Nat:=if p.check=0 then p.months.length+p.months.length*(p.months.length-1) / 2 else 0
def pcountC:Con:=con1 Prd (fun p=>[prdV p]) (fun _=>[]) Prd.small (fun p=>zB p.count) (fun _=>[])
structure cG where
 p:Prd
 n:Int
def yA (n:Nat):Nat→Nat
 |0=>n
 |k+1=>yA n k+(n-1-k)
def kL (n inst:Nat):Nat→Nat→Int×Int×Bool
 |0,_=>(0,0,false)
 |k+1,m=>if inst<yA n m+(n-1-m)then(m,m+1+(inst-yA n m:Nat),true)else kL n inst k (m+1)
def Prd.legs (p:Prd) (i:Int):Int×Int×Bool:=
 if i<0∨(p.count:Int)≤i then(0,0,false)else if i<p.months.length then(i,i,false)else kL p.months.length i.toNat p.months.length 0
def legsC:Con:=con1 cG (fun i=>[prdV i.p,zB i.n]) (fun _=>[]) (fun i=>i.p.small) (fun i=> .tup [zB (i.p.legs i.n).1,zB (i.p.legs i.n).2.1,yO (i.p.legs i.n).2.2]) (fun _=>[])
structure mJ where
 p:Prd
 a:Int
 b:Int
def Prd.spread (p:Prd) (a b:Int):Int×Bool:=
 if p.check≠0∨a<0∨b≤a∨(p.months.length:Int)≤b then(0,false)else((yA p.months.length a.toNat:Int)+b-a-1,true)
def spreadC:Con:=con1 mJ (fun i=>[prdV i.p,zB i.a,zB i.b]) (fun _=>[]) (fun i=>i.p.small) (fun i=> .tup [zB (i.p.spread i.a i.b).1,yO (i.p.spread i.a i.b).2]) (fun _=>[])
def Prd.price (p:Prd) (i n:Int):Int:=
 if p.count=0 then 1 else if i<0∨(p.count:Int)≤i then 20 else if qQ p.tick n then 22 else
 if n<(if(p.months.length:Int)≤i then-p.wide else p.low)∨(if(p.months.length:Int)≤i then p.wide else p.high)<n then 23 else 0
def priceC:Con:=con1 mJ (fun i=>[prdV i.p,zB i.a,zB i.b]) (fun _=>[]) (fun i=>i.p.small) (fun i=>zB (i.p.price i.a i.b)) (fun _=>[])
structure I2 where
 x:Int
 y:Int
@[reducible] def yR (n:Int):Prop:= -9223372036854775808≤n∧n≤9223372036854775807
def uF (x y:Int):Int×Bool:=if yR (x+y)then(x+y,true)else(0,false)
def uA (x y:Int):Int×Bool:=if yR (x-y)then(x-y,true)else(0,false)
def addC:Con:=con1 I2 (fun i=>[zB i.x,zB i.y]) (fun _=>[]) (fun i=>yR i.x∧yR i.y) (fun i=> .tup [zB (uF i.x i.y).1,yO (uF i.x i.y).2]) (fun _=>[])
def subC:Con:=con1 I2 (fun i=>[zB i.x,zB i.y]) (fun _=>[]) (fun i=>yR i.x∧yR i.y) (fun i=> .tup [zB (uA i.x i.y).1,yO (uA i.x i.y).2]) (fun _=>[])
def yOw (i:cG):List SAnn:=[{ι:=Nat,slots:=fun m=>[(8,zB (yA i.p.months.length m)),(33,zB m)],rows:=fun _=>[]}]
def yCy (i:mJ):List SAnn:=[{ι:=Nat,slots:=fun m=>[(9,zB (yA i.p.months.length m)),(33,zB m)],rows:=fun _=>[]}]
open Go Cv Go.Proofs
def yIg (i:zTn):Prop:=
 IntKind.i64=IntKind.i64∧i.p.tick≠0∧∃(a:Unit),qQ i.p.tick i.n=(i.n.tmod i.p.tick !=0)∧sb i.p.code=sb i.p.code∧iE i.p.months=iE i.p.months∧i.p.tick=i.p.tick∧i.p.low=i.p.low∧i.p.high=i.p.high∧i.p.wide=i.p.wide∧i.p.rule=i.p.rule∧i.p.top=i.p.top∧i.p.least=i.p.least∧i.p.part=i.p.part∧iE i.p.settle=iE i.p.settle∧True
theorem yNt (hG:GOk Tryz.prog ([])) (h:∀(i:zTn),offC.cnd i→yIg i):offC.ok Tryz.prog 109:=okw mixed hG 0 (fun _=>[]) (fun _=>[]) [] Tryz.func109 h
def yHe (i:zFg):Prop:=
 ∃(a:Nat),(↑a:Int)=0∧∃(b:Nat→Prop),∃(c:Nat→Nat),b a∧∀(d:Nat),b d→cnd (decide ((↑d:Int)<(↑(iE i.l).length:Int))) ((0≤(↑d:Int)∧(↑d:Int)<(↑(iE i.l).length:Int))∧∃(e:Int),zF (iE i.l) (↑d:Int).toNat 0 1=some [D.v (.int .i64 e)]∧∃(f:zTn),f.n=e∧sb f.p.code=sb i.p.code∧iE f.p.months=iE i.p.months∧f.p.tick=i.p.tick∧f.p.low=i.p.low∧f.p.high=i.p.high∧f.p.wide=i.p.wide∧f.p.rule=i.p.rule∧f.p.top=i.p.top∧f.p.least=i.p.least∧f.p.part=i.p.part∧iE f.p.settle=iE i.p.settle∧1≤f.p.tick∧∀(g:Unit),True→cnd (qQ f.p.tick f.n) (∃(h:Unit),zCq (List.findIdx? (qQ i.p.tick) i.l)=(↑d:Int)∧sb i.p.code=sb f.p.code∧iE i.p.months=iE f.p.months∧i.p.tick=f.p.tick∧i.p.low=f.p.low∧i.p.high=f.p.high∧i.p.wide=f.p.wide∧i.p.rule=f.p.rule∧i.p.top=f.p.top∧i.p.least=f.p.least∧i.p.part=f.p.part∧iE i.p.settle=iE f.p.settle∧True) (∃(h:Nat),(↑h:Int)=IntKind.i64.wrap ((↑d:Int)+1)∧b h∧c h<c d∧Sx.AObj.cells (fZ (cD 1 ((1:Nat)+(0:Nat)) ((1:Nat)-(1:Nat)) [((0:Nat),(0:Nat))]) f.p.cells) (29:TypeId)=i.p.row)) (∃(e:Unit),zCq (List.findIdx? (qQ i.p.tick) i.l)=(-1)∧sb i.p.code=sb i.p.code∧iE i.p.months=iE i.p.months∧i.p.tick=i.p.tick∧i.p.low=i.p.low∧i.p.high=i.p.high∧i.p.wide=i.p.wide∧i.p.rule=i.p.rule∧i.p.top=i.p.top∧i.p.least=i.p.least∧i.p.part=i.p.part∧iE i.p.settle=iE i.p.settle∧True)
theorem yNr (hG:GOk Tryz.prog ([(109,offC)])) (h:∀(i:zFg),idxC.cnd i→yHe i):idxC.ok Tryz.prog 125:=okw mixed hG 0 (fun _=>[]) (fun i=>yRb i) [] Tryz.func125 h
def zLy (i:zFg):Prop:=
 ∃(i_1:zFg),iE i_1.l=iE i.l∧sb i_1.p.code=sb i.p.code∧iE i_1.p.months=iE i.p.months∧i_1.p.tick=i.p.tick∧i_1.p.low=i.p.low∧i_1.p.high=i.p.high∧i_1.p.wide=i.p.wide∧i_1.p.rule=i.p.rule∧i_1.p.top=i.p.top∧i_1.p.least=i.p.least∧i_1.p.part=i.p.part∧iE i_1.p.settle=iE i.p.settle∧(1≤i_1.p.tick∧i_1.l.length≤1099511627776)∧∀(o:Unit),True→∃(o:Unit),i.l.any (qQ i.p.tick)=decide (zCq (List.findIdx? (qQ i_1.p.tick) i_1.l)≥0)∧sb i.p.code=sb i_1.p.code∧iE i.p.months=iE i_1.p.months∧i.p.tick=i_1.p.tick∧i.p.low=i_1.p.low∧i.p.high=i_1.p.high∧i.p.wide=i_1.p.wide∧i.p.rule=i_1.p.rule∧i.p.top=i_1.p.top∧i.p.least=i_1.p.least∧i.p.part=i_1.p.part∧iE i.p.settle=iE i_1.p.settle∧True
theorem zUw (hG:GOk Tryz.prog ([(125,idxC)])) (h:∀(i:zFg),containsC.cnd i→zLy i):containsC.ok Tryz.prog 110:=okw mixed hG 0 (fun _=>[]) (fun _=>[]) [] Tryz.func110 h
def zXw (p:Prd):Prop:=
 cnd (decide (p.tick<1)) (∃(a:Unit),qK p=false∧True) (cnd (decide (p.tick>1000)) (∃(a:Unit),qK p=false∧True) (∃(a:zTn),a.n=p.low∧sb a.p.code=sb p.code∧iE a.p.months=iE p.months∧a.p.tick=p.tick∧a.p.low=p.low∧a.p.high=p.high∧a.p.wide=p.wide∧a.p.rule=p.rule∧a.p.top=p.top∧a.p.least=p.least∧a.p.part=p.part∧iE a.p.settle=iE p.settle∧1≤a.p.tick∧∀(b:Unit),True→cnd (!qQ a.p.tick a.n) (∃(c:zTn),c.n=a.p.high∧sb c.p.code=sb a.p.code∧iE c.p.months=iE a.p.months∧c.p.tick=a.p.tick∧c.p.low=a.p.low∧c.p.high=a.p.high∧c.p.wide=a.p.wide∧c.p.rule=a.p.rule∧c.p.top=a.p.top∧c.p.least=a.p.least∧c.p.part=a.p.part∧iE c.p.settle=iE a.p.settle∧1≤c.p.tick∧∀(d:Unit),True→cnd (!qQ c.p.tick c.n) (∃(e:zTn),e.n=c.p.wide∧sb e.p.code=sb c.p.code∧iE e.p.months=iE c.p.months∧e.p.tick=c.p.tick∧e.p.low=c.p.low∧e.p.high=c.p.high∧e.p.wide=c.p.wide∧e.p.rule=c.p.rule∧e.p.top=c.p.top∧e.p.least=c.p.least∧e.p.part=c.p.part∧iE e.p.settle=iE c.p.settle∧1≤e.p.tick∧∀(f:Unit),True→cnd (!qQ e.p.tick e.n) (∃(g:zFg),iE g.l=iE e.p.settle∧sb g.p.code=sb e.p.code∧iE g.p.months=iE e.p.months∧g.p.tick=e.p.tick∧g.p.low=e.p.low∧g.p.high=e.p.high∧g.p.wide=e.p.wide∧g.p.rule=e.p.rule∧g.p.top=e.p.top∧g.p.least=e.p.least∧g.p.part=e.p.part∧iE g.p.settle=iE e.p.settle∧(1≤g.p.tick∧g.l.length≤1099511627776)∧∀(h:Unit),True→∃(j:Unit),qK p=!g.l.any (qQ g.p.tick)∧True) (∃(g:Unit),qK p=false∧True)) (∃(e:Unit),qK p=false∧True)) (∃(c:Unit),qK p=false∧True)))
theorem yGb (hG:GOk Tryz.prog ([(109,offC),(110,containsC)])) (h:∀(p:Prd),ticksC.cnd p→zXw p):ticksC.ok Tryz.prog 84:=okw mixed hG 0 (fun _=>[]) (fun _=>[]) [] Tryz.func84 h
def xZ (a:Prd):Prop:=a.code.length≤1099511627776∧a.months.length≤1099511627776∧a.settle.length≤1099511627776
def jW (a:Prd):=(↑(iE a.settle).length:Int)
def xC (a:Prd):=(↑(iE a.months).length:Int)
def zUf (p:Prd):Prop:=
 ∃(a:List UInt8),sb a=sb p.code∧a.length≤1099511627776∧∀(b:Unit),True→cnd (!wK a) (∃(c:Unit),p.check=12∧True) (∃(c:List Int),iE c=iE p.months∧c.length≤1099511627776∧∀(d:Unit),True→cnd (!xI c) (∃(e:Unit),p.check=1∧True) (∃(e:Prd),sb e.code=sb p.code∧iE e.months=iE p.months∧e.tick=p.tick∧e.low=p.low∧e.high=p.high∧e.wide=p.wide∧e.rule=p.rule∧e.top=p.top∧e.least=p.least∧e.part=p.part∧iE e.settle=iE p.settle∧(xZ e)∧∀(f:Unit),True→cnd (!qK e) (∃(g:Unit),p.check=22∧True) (cnd (decide (p.low<(-1000000))) (∃(g:Unit),p.check=23∧True) (cnd (decide (p.low≥p.high)) (∃(g:Unit),p.check=23∧True) (cnd (decide (p.high>1000000)) (∃(g:Unit),p.check=23∧True) (cnd (decide (p.wide<0)) (∃(g:Unit),p.check=23∧True) (cnd (decide (p.wide>IntKind.i64.wrap (p.high-p.low))) (∃(g:Unit),p.check=23∧True) (cnd ((jW p) !=(xC p)) (∃(g:Unit),p.check=1∧True) (∃(g:List Int),iE g=iE p.settle∧(0<g.length∧g.length≤1099511627776)∧∀(h:Unit),True→p.low=p.low∧cnd (decide (a9 g<p.low)) (∃(j:Unit),p.check=1∧True) (∃(j:List Int),iE j=iE p.settle∧(0<j.length∧j.length≤1099511627776)∧∀(k:Unit),True→p.high=p.high∧cnd (decide (mW j>p.high)) (∃(l:Unit),p.check=1∧True) (cnd (decide (p.rule<1)) (∃(l:Unit),p.check=31∧True) (cnd (decide (p.rule>3)) (∃(l:Unit),p.check=31∧True) (cnd (decide (p.top<0)) (∃(l:Unit),p.check=24∧True) (cnd (decide (p.top>1000000)) (∃(l:Unit),p.check=24∧True) (cnd (decide (p.least<1)) (∃(l:Unit),p.check=24∧True) (cnd (decide (p.least>1000)) (∃(l:Unit),p.check=24∧True) (cnd (decide (p.part<0)) (∃(l:Unit),p.check=24∧True) (cnd (decide (p.part>100)) (∃(l:Unit),p.check=24∧True) (∃(l:Unit),p.check=0∧True)))))))))))))))))))
theorem yEh (hG:GOk Tryz.prog ([(82,symC),(83,monthsC),(84,ticksC),(85,minC),(86,maxC)])) (h:∀(p:Prd),checkC.cnd p→zUf p):checkC.ok Tryz.prog 50:=okw mixed hG 0 (fun _=>[]) (fun _=>[]) [] Tryz.func50 h
def zYn (p:Prd):Prop:=
 ∃(i:Prd),sb i.code=sb p.code∧iE i.months=iE p.months∧i.tick=p.tick∧i.low=p.low∧i.high=p.high∧i.wide=p.wide∧i.rule=p.rule∧i.top=p.top∧i.least=p.least∧i.part=p.part∧iE i.settle=iE p.settle∧(i.code.length≤1099511627776∧i.months.length≤1099511627776∧i.settle.length≤1099511627776)∧∀(o:Unit),True→cnd (i.check !=0) (∃(o:Unit),(↑p.count:Int)=0∧True) (IntKind.i64=IntKind.i64∧(2:Int)≠(0:Int)∧∃(o:Unit),(↑p.count:Int)=IntKind.i64.wrap ((↑(iE p.months).length:Int)+IntKind.i64.wrap ((IntKind.i64.wrap ((↑(iE p.months).length:Int)*IntKind.i64.wrap ((↑(iE p.months).length:Int)-1))).tdiv 2))∧True)
theorem z7u (hG:GOk Tryz.prog ([(50,checkC)])) (h:∀(p:Prd),pcountC.cnd p→zYn p):pcountC.ok Tryz.prog 24:=okw mixed hG 0 (fun _=>[]) (fun _=>[]) [] Tryz.func24 h
def yGv (i:cG):Prop:=
 ∃(i_1:Prd),sb i_1.code=sb i.p.code∧iE i_1.months=iE i.p.months∧i_1.tick=i.p.tick∧i_1.low=i.p.low∧i_1.high=i.p.high∧i_1.wide=i.p.wide∧i_1.rule=i.p.rule∧i_1.top=i.p.top∧i_1.least=i.p.least∧i_1.part=i.p.part∧iE i_1.settle=iE i.p.settle∧(i_1.code.length≤1099511627776∧i_1.months.length≤1099511627776∧i_1.settle.length≤1099511627776)∧∀(o:Unit),True→cnd (decide (i.n<0)) (∃(o:Unit),(i.p.legs i.n).fst=0∧(i.p.legs i.n).snd.fst=0∧(i.p.legs i.n).snd.snd=false∧True) (cnd (decide (i.n≥(↑i_1.count:Int))) (∃(o:Unit),(i.p.legs i.n).fst=0∧(i.p.legs i.n).snd.fst=0∧(i.p.legs i.n).snd.snd=false∧True) (cnd (decide (i.n<(↑(iE i.p.months).length:Int))) (∃(o:Unit),(i.p.legs i.n).fst=i.n∧(i.p.legs i.n).snd.fst=i.n∧(i.p.legs i.n).snd.snd=false∧True) (∃(i0:Nat),(↑(yA i.p.months.length i0):Int)=(↑(iE i.p.months).length:Int)∧(↑i0:Int)=0∧∃(I:Nat→Prop),∃(μ:Nat→Nat),I i0∧∀(i_2:Nat),I i_2→cnd (decide ((↑i_2:Int)<(↑(iE i.p.months).length:Int))) (cnd (decide (i.n<IntKind.i64.wrap ((↑(yA i.p.months.length i_2):Int)+IntKind.i64.wrap (IntKind.i64.wrap ((↑(iE i.p.months).length:Int)-1)-(↑i_2:Int))))) (∃(o:Unit),(i.p.legs i.n).fst=(↑i_2:Int)∧(i.p.legs i.n).snd.fst=IntKind.i64.wrap (IntKind.i64.wrap (IntKind.i64.wrap ((↑i_2:Int)+1)+i.n)-(↑(yA i.p.months.length i_2):Int))∧(i.p.legs i.n).snd.snd=true∧True) (∃(i':Nat),(↑(yA i.p.months.length i'):Int)=IntKind.i64.wrap ((↑(yA i.p.months.length i_2):Int)+IntKind.i64.wrap (IntKind.i64.wrap ((↑(iE i.p.months).length:Int)-1)-(↑i_2:Int)))∧(↑i':Int)=IntKind.i64.wrap ((↑i_2:Int)+1)∧I i'∧μ i'<μ i_2∧Sx.AObj.cells [V.d (D.v (Value.string (sb i.p.code))),V.own 0,V.d (D.v (.int .i64 i.p.tick)),V.d (D.v (.int .i64 i.p.low)),V.d (D.v (.int .i64 i.p.high)),V.d (D.v (.int .i64 i.p.wide)),V.d (D.v (.int .i64 i.p.rule)),V.d (D.v (.int .i64 i.p.top)),V.d (D.v (.int .i64 i.p.least)),V.d (D.v (.int .i64 i.p.part)),V.own ((0:Nat)+(1:Nat))] 29=Sx.AObj.cells [V.d (D.v (Value.string (sb i.p.code))),V.own 0,V.d (D.v (.int .i64 i.p.tick)),V.d (D.v (.int .i64 i.p.low)),V.d (D.v (.int .i64 i.p.high)),V.d (D.v (.int .i64 i.p.wide)),V.d (D.v (.int .i64 i.p.rule)),V.d (D.v (.int .i64 i.p.top)),V.d (D.v (.int .i64 i.p.least)),V.d (D.v (.int .i64 i.p.part)),V.own ((0:Nat)+(1:Nat))] 29∧AObj.fro 1 (iE i.p.settle)=AObj.fro 1 (iE i.p.settle)∧AObj.fro 1 (iE i.p.months)=AObj.fro 1 (iE i.p.months))) (∃(o:Unit),(i.p.legs i.n).fst=0∧(i.p.legs i.n).snd.fst=0∧(i.p.legs i.n).snd.snd=false∧True))))
theorem yKq (hG:GOk Tryz.prog ([(24,pcountC)])) (h:∀(i:cG),legsC.cnd i→yGv i):legsC.ok Tryz.prog 51:=okw mixed hG 0 (fun _=>[]) (fun i=>yOw i) [] Tryz.func51 h
def zZu (i:mJ):Prop:=
 ∃(i_1:Prd),sb i_1.code=sb i.p.code∧iE i_1.months=iE i.p.months∧i_1.tick=i.p.tick∧i_1.low=i.p.low∧i_1.high=i.p.high∧i_1.wide=i.p.wide∧i_1.rule=i.p.rule∧i_1.top=i.p.top∧i_1.least=i.p.least∧i_1.part=i.p.part∧iE i_1.settle=iE i.p.settle∧(i_1.code.length≤1099511627776∧i_1.months.length≤1099511627776∧i_1.settle.length≤1099511627776)∧∀(o:Unit),True→cnd (i_1.check !=0) (∃(o:Unit),(i.p.spread i.a i.b).fst=0∧(i.p.spread i.a i.b).snd=false∧True) (cnd (decide (i.a<0)) (∃(o:Unit),(i.p.spread i.a i.b).fst=0∧(i.p.spread i.a i.b).snd=false∧True) (cnd (decide (i.a≥i.b)) (∃(o:Unit),(i.p.spread i.a i.b).fst=0∧(i.p.spread i.a i.b).snd=false∧True) (cnd (decide (i.b≥(↑(iE i.p.months).length:Int))) (∃(o:Unit),(i.p.spread i.a i.b).fst=0∧(i.p.spread i.a i.b).snd=false∧True) (∃(i0:Nat),(↑(yA i.p.months.length i0):Int)=(↑(iE i.p.months).length:Int)∧(↑i0:Int)=0∧∃(I:Nat→Prop),∃(μ:Nat→Nat),I i0∧∀(i_2:Nat),I i_2→cnd (decide ((↑i_2:Int)<i.a)) (∃(i':Nat),(↑(yA i.p.months.length i'):Int)=IntKind.i64.wrap ((↑(yA i.p.months.length i_2):Int)+IntKind.i64.wrap (IntKind.i64.wrap ((↑(iE i.p.months).length:Int)-1)-(↑i_2:Int)))∧(↑i':Int)=IntKind.i64.wrap ((↑i_2:Int)+1)∧I i'∧μ i'<μ i_2∧Sx.AObj.cells [V.d (D.v (Value.string (sb i.p.code))),V.own 0,V.d (D.v (.int .i64 i.p.tick)),V.d (D.v (.int .i64 i.p.low)),V.d (D.v (.int .i64 i.p.high)),V.d (D.v (.int .i64 i.p.wide)),V.d (D.v (.int .i64 i.p.rule)),V.d (D.v (.int .i64 i.p.top)),V.d (D.v (.int .i64 i.p.least)),V.d (D.v (.int .i64 i.p.part)),V.own ((0:Nat)+(1:Nat))] 29=Sx.AObj.cells [V.d (D.v (Value.string (sb i.p.code))),V.own 0,V.d (D.v (.int .i64 i.p.tick)),V.d (D.v (.int .i64 i.p.low)),V.d (D.v (.int .i64 i.p.high)),V.d (D.v (.int .i64 i.p.wide)),V.d (D.v (.int .i64 i.p.rule)),V.d (D.v (.int .i64 i.p.top)),V.d (D.v (.int .i64 i.p.least)),V.d (D.v (.int .i64 i.p.part)),V.own ((0:Nat)+(1:Nat))] 29∧AObj.fro 1 (iE i.p.settle)=AObj.fro 1 (iE i.p.settle)∧AObj.fro 1 (iE i.p.months)=AObj.fro 1 (iE i.p.months)) (∃(o:Unit),(i.p.spread i.a i.b).fst=IntKind.i64.wrap (IntKind.i64.wrap (IntKind.i64.wrap ((↑(yA i.p.months.length i_2):Int)+i.b)-i.a)-1)∧(i.p.spread i.a i.b).snd=true∧True)))))
theorem z4j (hG:GOk Tryz.prog ([(50,checkC)])) (h:∀(i:mJ),spreadC.cnd i→zZu i):spreadC.ok Tryz.prog 54:=okw mixed hG 0 (fun _=>[]) (fun i=>yCy i) [] Tryz.func54 h
def z7l (i:mJ):Prop:=
 ∃(i_1:Prd),sb i_1.code=sb i.p.code∧iE i_1.months=iE i.p.months∧i_1.tick=i.p.tick∧i_1.low=i.p.low∧i_1.high=i.p.high∧i_1.wide=i.p.wide∧i_1.rule=i.p.rule∧i_1.top=i.p.top∧i_1.least=i.p.least∧i_1.part=i.p.part∧iE i_1.settle=iE i.p.settle∧(i_1.code.length≤1099511627776∧i_1.months.length≤1099511627776∧i_1.settle.length≤1099511627776)∧∀(o:Unit),True→cnd ((↑i_1.count:Int)==0) (∃(o:Unit),i.p.price i.a i.b=1∧True) (cnd (decide (i.a<0)) (∃(o:Unit),i.p.price i.a i.b=20∧True) (cnd (decide (i.a≥(↑i_1.count:Int))) (∃(o:Unit),i.p.price i.a i.b=20∧True) (IntKind.i64=IntKind.i64∧i.p.tick≠0∧cnd (i.b.tmod i.p.tick !=0) (∃(o:Unit),i.p.price i.a i.b=22∧True) (cnd (decide (i.a≥(↑(iE i.p.months).length:Int))) (cnd (decide (i.b<IntKind.i64.wrap (0-i.p.wide))) (∃(o:Unit),i.p.price i.a i.b=23∧True) (cnd (decide (i.b>i.p.wide)) (∃(o:Unit),i.p.price i.a i.b=23∧True) (∃(o:Unit),i.p.price i.a i.b=0∧True))) (cnd (decide (i.b<i.p.low)) (∃(o:Unit),i.p.price i.a i.b=23∧True) (cnd (decide (i.b>i.p.high)) (∃(o:Unit),i.p.price i.a i.b=23∧True) (∃(o:Unit),i.p.price i.a i.b=0∧True)))))))
theorem yCw (hG:GOk Tryz.prog ([(24,pcountC)])) (h:∀(i:mJ),priceC.cnd i→z7l i):priceC.ok Tryz.prog 72:=okw mixed hG 0 (fun _=>[]) (fun _=>[]) [] Tryz.func72 h
def zHh (a:I2):Prop:=∃(b:Unit),(uF a.x a.y).fst=IntKind.i64.wrap (a.x+a.y)∧(uF a.x a.y).snd=true∧True
def yJy (i:I2):Prop:=
 cnd (decide (i.x<0)==decide (i.y<0)) (cnd (!decide (IntKind.i64.wrap (i.x+i.y)<0)==decide (i.x<0)) (∃(a:Unit),(uF i.x i.y).fst=0∧(uF i.x i.y).snd=false∧True) (zHh i)) (zHh i)
theorem yPk (hG:GOk Tryz.prog ([])) (h:∀(i:I2),addC.cnd i→yJy i):addC.ok Tryz.prog 87:=okw mixed hG 0 (fun _=>[]) (fun _=>[]) [] Tryz.func87 h
def zHw (a:I2):Prop:=∃(b:Unit),(uA a.x a.y).fst=IntKind.i64.wrap (a.x-a.y)∧(uA a.x a.y).snd=true∧True
def yMp (i:I2):Prop:=
 cnd (!decide (i.x<0)==decide (i.y<0)) (cnd (!decide (IntKind.i64.wrap (i.x-i.y)<0)==decide (i.x<0)) (∃(a:Unit),(uA i.x i.y).fst=0∧(uA i.x i.y).snd=false∧True) (zHw i)) (zHw i)
theorem yOz (hG:GOk Tryz.prog ([])) (h:∀(i:I2),subC.cnd i→yMp i):subC.ok Tryz.prog 88:=okw mixed hG 0 (fun _=>[]) (fun _=>[]) [] Tryz.func88 h
open Go Cv Go.Proofs
theorem yQn (i:zTn) (h:offC.cnd i):yIg i:=by
 have h:1≤i.p.tick:=h
 unfold yIg;exact kp
theorem z6q:offC.ok Tryz.prog 109:=yNt gok0 yQn
theorem zBt {α:Type} {f:α→Bool} {l:List α} (h:∀(k:Nat) (x:α),l[k]? =some x→f x=false):l.findIdx? f=none:=by
 rw[List.findIdx?_eq_none_iff]
 intro x hx
 obtain⟨k,hk⟩:=List.getElem?_of_mem hx
 exact h k x hk
theorem zBs {α:Type} {f:α→Bool} {l:List α} {j:Nat} {x:α} (h1:l[j]? =some x) (h2:f x=true) (h:∀k<j,∀x:α,l[k]? =some x→f x=false):l.findIdx? f=some j:=by
 rw[List.findIdx?_eq_some_iff_getElem]
 obtain⟨hj,rfl⟩:=List.getElem?_eq_some_iff.1 h1
 exact⟨hj,h2,fun k hk=>by rw[h k hk _ (List.getElem?_eq_getElem (by omega))];simp⟩
theorem yPw (i:zFg) (h:idxC.cnd i):yHe i:=by
 obtain⟨h1,h2⟩:1≤i.p.tick∧i.l.length≤1099511627776:=h
 unfold yHe
 simp only[xH]
 refine⟨0,rfl,fun j=>j≤i.l.length∧∀k<j,∀x,i.l[k]? =some x→qQ i.p.tick x=false,fun j=>i.l.length-j,⟨by omega,fun k hk=>by omega⟩,?_⟩
 rintro j ⟨h3,h4⟩
 refine zL (fun hj=> ?_) (fun hj=> ?_)
 ·obtain⟨n,hn⟩:=z9 (l:=i.l) (i:=j) (by omega)
  refine⟨⟨by omega,by omega⟩,n,elI hn,⟨i.p,n⟩,?_⟩
  (repeat'(first|exact rfl|exact trivial|assumption|apply And.intro|refine fun(_:Unit) (_:True)=>?_|refine Exists.intro () ?_|omega|(dsimp only;omega)))
  refine Cv.cnd.mk (fun e=> ?_) (fun e=> ?_)
  ·rw[zBs hn e h4];exact kp
  ·refine⟨j+1,by rw[w64 (by omega)];rfl,⟨by omega,fun k hk x hx=> ?_⟩,by(first|omega|(dsimp only;omega)),rfl⟩
   rcases Nat.lt_or_ge k j with hk'|hk'
   ·exact h4 k hk' x hx
   ·obtain rfl:k=j:=by omega
    rw[hn]at hx;cases hx;exact e
 ·rw[zBt fun k x hx=>h4 k (by have:=(List.getElem?_eq_some_iff.1 hx).1;omega) x hx];exact kp
theorem yIj:idxC.ok Tryz.prog 125:=yNr (gokc z6q gok0) yPw
theorem z4c {l:List Int} {f:Int→Bool}:l.any f=decide (zCq (l.findIdx? f)≥0):=by
 cases hf:l.findIdx? f with
 |none=>
  rw[List.findIdx?_eq_none_iff]at hf
  have:l.any f=false:=by rw[List.any_eq_false];intro x hx;simp[hf x hx]
  rw[this];rfl
 |some k=>
  rw[List.findIdx?_eq_some_iff_getElem]at hf
  obtain⟨hk,h1,_⟩:=hf
  have:l.any f=true:=by rw[List.any_eq_true];exact⟨_,List.getElem_mem hk,h1⟩
  rw[this,zCq,decide_eq_true (by omega)]
theorem z2r (i:zFg) (h:containsC.cnd i):zLy i:=by
 have h':1≤i.p.tick∧i.l.length≤1099511627776:=h
 refine⟨i,?_⟩
 (repeat'(first|exact rfl|exact trivial|assumption|apply And.intro|refine fun(_:Unit) (_:True)=>?_|refine Exists.intro () ?_|omega|(dsimp only;omega)))
 exact z4c
theorem zSk:containsC.ok Tryz.prog 110:=zUw (gokc yIj gok0) z2r
theorem yMe (p:Prd) (h:ticksC.cnd p):zXw p:=by
 obtain⟨h1,h2,h3⟩:p.small:=h
 unfold zXw
 refine zL (fun c1=>⟨(),by rw[qK,decide_eq_false (by omega)];rfl,trivial⟩) (fun c1=>zL (fun c2=>⟨(),by rw[qK,decide_eq_false (show ¬p.tick≤1000 by omega)];simp,trivial⟩) (fun c2=>⟨⟨p,p.low⟩,?_⟩))
 have e1:qK p=(!qQ p.tick p.low && !qQ p.tick p.high && !qQ p.tick p.wide && !p.settle.any (qQ p.tick)):=by
  rw[qK,decide_eq_true (by omega),decide_eq_true (by omega)];rfl
 rw[e1]
 (repeat'(first|exact rfl|exact trivial|assumption|apply And.intro|refine fun(_:Unit) (_:True)=>?_|refine Exists.intro () ?_|omega|(dsimp only;omega)))
 refine Cv.cnd.mk (fun c3=>⟨⟨p,p.high⟩,?_⟩) (fun c3=>⟨(),?_,trivial⟩)
 ·dsimp only at c3
  (repeat'(first|exact rfl|exact trivial|assumption|apply And.intro|refine fun(_:Unit) (_:True)=>?_|refine Exists.intro () ?_|omega|(dsimp only;omega)))
  refine Cv.cnd.mk (fun c4=>⟨⟨p,p.wide⟩,?_⟩) (fun c4=>⟨(),?_,trivial⟩)
  ·dsimp only at c4
   (repeat'(first|exact rfl|exact trivial|assumption|apply And.intro|refine fun(_:Unit) (_:True)=>?_|refine Exists.intro () ?_|omega|(dsimp only;omega)))
   refine Cv.cnd.mk (fun c5=>⟨⟨p,p.settle⟩,?_⟩) (fun c5=>⟨(),?_,trivial⟩)
   ·dsimp only at c5
    (repeat'(first|exact rfl|exact trivial|assumption|apply And.intro|refine fun(_:Unit) (_:True)=>?_|refine Exists.intro () ?_|omega|(dsimp only;omega)))
    rw[c3,c4,c5];simp
   ·dsimp only at c5
    rw[c5];simp
  ·dsimp only at c4
   rw[c4];simp
 ·dsimp only at c3
  rw[c3];simp
theorem z8d:ticksC.ok Tryz.prog 84:=yGb (gokc z6q (gokc zSk gok0)) yMe
theorem yIb (p:Prd) (h:checkC.cnd p):zUf p:=by
 obtain⟨h1,h2,h3⟩:p.small:=h
 unfold zUf xC jW xZ
 simp only[xH]
 refine⟨p.code,rfl,h1,fun _ _=>Cv.cnd.mk (fun c1=>⟨(),by rw[Prd.check,if_pos c1],trivial⟩) (fun c1=>⟨p.months,rfl,h2,fun _ _=>Cv.cnd.mk (fun c2=>⟨(),by rw[Prd.check,if_neg (by simp[c1]),if_pos c2],trivial⟩) (fun c2=>⟨p,?_⟩)⟩)⟩
 (repeat'(first|exact rfl|exact trivial|assumption|apply And.intro|refine fun(_:Unit) (_:True)=>?_|refine Exists.intro () ?_|omega|(dsimp only;omega)))
 refine Cv.cnd.mk (fun c3=>⟨(),by rw[Prd.check,if_neg (by simp[c1]),if_neg (by simp[c2]),if_pos c3],trivial⟩) (fun c3=> ?_)
 have e0:p.check=if qJ p then 23 else if xJ p then 1 else if kC p then 31 else if xY p then 24 else 0:=by
  rw[Prd.check,if_neg (by simp[c1]),if_neg (by simp[c2]),if_neg (by simp[c3])]
 have b (hb:qJ p=true):∃(o:Unit),p.check=23∧True:=⟨(),by rw[e0,if_pos hb],trivial⟩
 refine zL (fun d1=>b (by simp[qJ,d1])) fun d1=>zL (fun d2=>b (by simp[qJ];omega)) fun d2=>zL (fun d3=>b (by simp[qJ];omega)) fun d3=>zL (fun d4=>b (by simp[qJ];omega)) fun d4=> ?_
 rw[w64 (by omega)]
 refine zL (fun d5=>b (by simp[qJ];omega)) fun d5=> ?_
 have e1:p.check=if xJ p then 1 else if kC p then 31 else if xY p then 24 else 0:=by
  rw[e0,if_neg (by simp[qJ];omega)]
 have s (hb:xJ p=true):∃(o:Unit),p.check=1∧True:=⟨(),by rw[e1,if_pos hb],trivial⟩
 have hm:2≤p.months.length:=by
  have c2:xI p.months=true:=by simpa using c2
  simp[xI]at c2;omega
 refine Cv.cnd.mk (fun d6=>s (by have d6:¬(p.settle.length:Int)=p.months.length:=(by simpa using d6);simp[xJ];omega)) fun d6=> ?_
 have d6:p.settle.length=p.months.length:=by
  have:(p.settle.length:Int)=p.months.length:=by simpa using d6
  omega
 refine⟨p.settle,rfl,⟨by omega,by omega⟩,fun _ _=>⟨kp,zL (fun d7=>s (by simp[xJ];left;right;omega)) fun d7=>⟨p.settle,rfl,⟨by omega,by omega⟩,fun _ _=>⟨kp,zL (fun d8=>s (by simp[xJ];right;omega)) fun d8=> ?_⟩⟩⟩⟩
 have e2:p.check=if kC p then 31 else if xY p then 24 else 0:=by
  rw[e1,if_neg (by simp[xJ];omega)]
 have r (hb:kC p=true):∃(o:Unit),p.check=31∧True:=⟨(),by rw[e2,if_pos hb],trivial⟩
 refine zL (fun d9=>r (by simp[kC];omega)) fun d9=>zL (fun d10=>r (by simp[kC];omega)) fun d10=> ?_
 have e3:p.check=if xY p then 24 else 0:=by
  rw[e2,if_neg (by simp[kC];omega)]
 have q (hb:xY p=true):∃(o:Unit),p.check=24∧True:=⟨(),by rw[e3,if_pos hb],trivial⟩
 refine zL (fun f1=>q (by simp[xY];omega)) fun f1=>zL (fun f2=>q (by simp[xY];omega)) fun f2=>zL (fun f3=>q (by simp[xY];omega)) fun f3=>zL (fun f4=>q (by simp[xY];omega)) fun f4=>zL (fun f5=>q (by simp[xY];omega)) fun f5=>zL (fun f6=>q (by simp[xY];omega)) fun f6=> ?_
 exact⟨(),by rw[e3,if_neg (by simp[xY];omega)],trivial⟩
theorem lV:checkC.ok Tryz.prog 50:=yEh (gokc yKf (gokc z3r (gokc z8d (gokc yMq (gokc yLo gok0))))) yIb
structure Prd.Ok (p:Prd):Prop where
 sym:wK p.code=true
 months:xI p.months=true
 ticks:qK p=true
 m2:2≤p.months.length
 m6:p.months.length≤6
 t1:1≤p.tick
 t2:p.tick≤1000
 b1: -1000000≤p.low
 b2:p.low<p.high
 b3:p.high≤1000000
 b4:0≤p.wide
 b5:p.wide≤p.high-p.low
 s1:p.settle.length=p.months.length
 s2:p.low≤a9 p.settle
 s3:mW p.settle≤p.high
 r1:1≤p.rule
 r2:p.rule≤3
 q1:0≤p.top
 q2:p.top≤1000000
 q3:1≤p.least
 q4:p.least≤1000
 q5:0≤p.part
 q6:p.part≤100
theorem kA {p:Prd} (h:p.check=0):p.Ok:=by
 unfold Prd.check at h
 split at h<;>first|(exfalso;revert h;decide)|skip
 rename_i c1
 split at h<;>first|(exfalso;revert h;decide)|skip
 rename_i c2
 split at h<;>first|(exfalso;revert h;decide)|skip
 rename_i c3
 split at h<;>first|(exfalso;revert h;decide)|skip
 rename_i c4
 split at h<;>first|(exfalso;revert h;decide)|skip
 rename_i c5
 split at h<;>first|(exfalso;revert h;decide)|skip
 rename_i c6
 split at h<;>first|(exfalso;revert h;decide)|skip
 rename_i c7
 simp only[Bool.not_eq_true',Bool.not_eq_false,Bool.not_eq_true]at c1 c2 c3
 have m:=c2
 have t:=c3
 simp[xI]at m
 simp[qK]at t
 simp[qJ]at c4
 simp[xJ]at c5
 simp[kC]at c6
 simp[xY]at c7
 exact⟨c1,c2,c3,by omega,by omega,by omega,by omega,by omega,by omega,by omega,by omega,by omega,by omega,by omega,by omega,by omega,by omega,by omega,by omega,by omega,by omega,by omega,by omega⟩
theorem z5b {n:Nat} (h:n≤6):n+n*(n-1) / 2≤21:=by
 have:∀n≤6,n+n*(n-1) / 2≤21:=by decide
 exact this n h
theorem yEz (p:Prd) (h:pcountC.cnd p):zYn p:=by
 obtain⟨h1,h2,h3⟩:p.small:=h
 refine⟨p,?_⟩
 simp only[xH]
 (repeat'(first|exact rfl|exact trivial|assumption|apply And.intro|refine fun(_:Unit) (_:True)=>?_|refine Exists.intro () ?_|omega|(dsimp only;omega)))
 refine Cv.cnd.mk (fun c=>⟨(),by rw[Prd.count,if_neg (by simpa using c)];rfl,trivial⟩) (fun c=> ?_)
 have c:p.check=0:=by simpa using c
 have ok:=kA c
 refine⟨kp,by decide,(),?_,trivial⟩
 rw[Prd.count,if_pos c]
 obtain⟨n,hn⟩:∃n,p.months.length=n:=⟨_,rfl⟩
 have m2:=ok.m2
 have m6:=ok.m6
 rw[hn]at m2 m6 ⊢
 have:n=2∨n=3∨n=4∨n=5∨n=6:=by omega
 rcases this with rfl|rfl|rfl|rfl|rfl<;>rfl
theorem b7:pcountC.ok Tryz.prog 24:=z7u (gokc lV gok0) yEz
theorem nJ {p:Prd} (h:p.count≠0):p.check=0:=by
 unfold Prd.count at h
 split at h
 ·assumption
 ·exact absurd rfl h
theorem x0 (p:Prd):p.count≤21:=by
 unfold Prd.count
 split
 ·rename_i h;exact z5b (kA h).m6
 ·omega
theorem zIu {n m:Nat} (h:n≤6) (hm:m≤n):yA n m≤21:=by
 have:∀n≤6,∀m≤n,yA n m≤21:=by decide
 exact this n h m hm
theorem yNy (i:cG) (h:legsC.cnd i):yGv i:=by
 obtain⟨h1,h2,h3⟩:i.p.small:=h
 refine⟨i.p,?_⟩
 simp only[xH]
 (repeat'(first|exact rfl|exact trivial|assumption|apply And.intro|refine fun(_:Unit) (_:True)=>?_|refine Exists.intro () ?_|omega|(dsimp only;omega)))
 refine zL (fun c1=> ?_) (fun c1=>zL (fun c2=> ?_) (fun c2=> ?_))
 ·rw[Prd.legs,if_pos (by omega)];exact kp
 ·rw[Prd.legs,if_pos (by omega)];exact kp
 have c2:¬i.n≥(i.p.count:Int):=c2
 have hc:=x0 i.p
 have ok:=kA (nJ (p:=i.p) (by omega))
 have m6:=ok.m6
 refine zL (fun c3=> ?_) (fun c3=> ?_)
 ·rw[Prd.legs,if_neg (by omega),if_pos c3];exact kp
 have e0:i.p.legs i.n=kL i.p.months.length i.n.toNat i.p.months.length 0:=by
  rw[Prd.legs,if_neg (by omega),if_neg c3]
 rw[e0]
 generalize hn:i.p.months.length=n at c3 m6 ⊢
 obtain⟨k,hk⟩:∃k:Nat,i.n=k:=⟨i.n.toNat,by omega⟩
 rw[hk]at c2 c3 ⊢
 refine⟨0,rfl,rfl,fun m=>m≤n∧yA n m≤k∧kL n k n 0=kL n k (n-m) m,fun m=>n-m,⟨by omega,by show n≤k;omega,rfl⟩,?_⟩
 rintro m ⟨g1,g2,g3⟩
 have hf:=zIu m6 g1
 refine zL (fun c4=> ?_) (fun c4=> ?_)
 ·obtain⟨r,hr⟩:∃r,n-m=r+1:=⟨n-m-1,by omega⟩
  have e1:(k:Int).toNat=k:=by omega
  rw[e1,g3,hr,w64 (x:=(n:Int)-1) (by omega),w64 (x:=(n:Int)-1-m) (by omega),w64 (x:=(yA n m:Int)+((n:Int)-1-m)) (by omega),w64 (x:=(m:Int)+1) (by omega)]
  rw[hr]at g3
  refine zL (fun c5=> ?_) (fun c5=> ?_)
  ·rw[w64 (x:=(m:Int)+1+k) (by omega),w64 (x:=(m:Int)+1+k-(yA n m:Int)) (by omega),kL,if_pos (by omega)]
   refine⟨(),rfl,?_,rfl,trivial⟩
   dsimp only;omega
  ·refine⟨m+1,?_,rfl,⟨by omega,?_,?_⟩,by(first|omega|(dsimp only;omega)),kp⟩
   ·rw[yA];omega
   ·rw[yA];omega
   ·rw[kL,if_neg (by omega),show n-(m+1)=r by omega]
 ·have e1:(k:Int).toNat=k:=by omega
  rw[e1,g3,show n-m=0 by omega]
  exact⟨(),rfl,rfl,rfl,trivial⟩
theorem pY:legsC.ok Tryz.prog 51:=yKq (gokc b7 gok0) yNy
theorem yDa (i:mJ) (h:spreadC.cnd i):zZu i:=by
 obtain⟨h1,h2,h3⟩:i.p.small:=h
 refine⟨i.p,?_⟩
 simp only[xH]
 (repeat'(first|exact rfl|exact trivial|assumption|apply And.intro|refine fun(_:Unit) (_:True)=>?_|refine Exists.intro () ?_|omega|(dsimp only;omega)))
 have bad (hb:i.p.check≠0∨i.a<0∨i.b≤i.a∨(i.p.months.length:Int)≤i.b):∃(o:Unit),(i.p.spread i.a i.b).fst=0∧(i.p.spread i.a i.b).snd=false∧True:=⟨(),by rw[Prd.spread,if_pos hb],by rw[Prd.spread,if_pos hb],trivial⟩
 refine Cv.cnd.mk (fun c1=>bad (.inl (by simpa using c1))) fun c1=>zL (fun c2=>bad (by omega)) fun c2=>zL (fun c3=>bad (by omega)) fun c3=>zL (fun c4=>bad (by omega)) fun c4=> ?_
 have c1:i.p.check=0:=by simpa using c1
 have m6:=(kA c1).m6
 rw[Prd.spread,if_neg (by omega)]
 generalize hn:i.p.months.length=n at c4 m6 ⊢
 obtain⟨a,ha⟩:∃k:Nat,i.a=k:=⟨i.a.toNat,by omega⟩
 rw[ha]at c3 ⊢
 refine⟨0,rfl,rfl,fun m=>m≤a,fun m=>a-m,by omega,?_⟩
 intro m hm
 have hm:m≤a:=hm
 have hf:=zIu (m:=m) m6 (by omega)
 refine zL (fun c5=> ?_) (fun c5=> ?_)
 ·rw[w64 (x:=(n:Int)-1) (by omega),w64 (x:=(n:Int)-1-m) (by omega),w64 (x:=(yA n m:Int)+((n:Int)-1-m)) (by omega),w64 (x:=(m:Int)+1) (by omega)]
  refine⟨m+1,?_,rfl,by omega,by(first|omega|(dsimp only;omega)),kp⟩
  rw[yA];omega
 ·obtain rfl:m=a:=by omega
  rw[w64 (x:=(yA n m:Int)+i.b) (by omega),w64 (x:=(yA n m:Int)+i.b-m) (by omega),w64 (x:=(yA n m:Int)+i.b-m-1) (by omega)]
  exact⟨(),rfl,rfl,trivial⟩
theorem zKx:spreadC.ok Tryz.prog 54:=z4j (gokc lV gok0) yDa
theorem yKv (i:mJ) (h:priceC.cnd i):z7l i:=by
 obtain⟨h1,h2,h3⟩:i.p.small:=h
 refine⟨i.p,?_⟩
 simp only[xH]
 (repeat'(first|exact rfl|exact trivial|assumption|apply And.intro|refine fun(_:Unit) (_:True)=>?_|refine Exists.intro () ?_|omega|(dsimp only;omega)))
 refine Cv.cnd.mk (fun c1=>⟨(),by rw[Prd.price,if_pos (by have:(i.p.count:Int)=0:=(by simpa using c1);omega)],trivial⟩) fun c1=> ?_
 have c1:i.p.count≠0:=by
  have:¬(i.p.count:Int)=0:=by simpa using c1
  omega
 have e0:i.p.price i.a i.b=if i.a<0∨(i.p.count:Int)≤i.a then 20 else if qQ i.p.tick i.b then 22 else
  if i.b<(if(i.p.months.length:Int)≤i.a then-i.p.wide else i.p.low)∨(if(i.p.months.length:Int)≤i.a then i.p.wide else i.p.high)<i.b then 23 else 0:=by rw[Prd.price,if_neg c1]
 rw[e0]
 have ok:=kA (nJ c1)
 obtain⟨t1,b3,b1,b2,b4,b5⟩:=(⟨ok.t1,ok.b3,ok.b1,ok.b2,ok.b4,ok.b5⟩:_∧_∧_∧_∧_∧_)
 refine zL (fun c2=>⟨(),by rw[if_pos (.inl c2)],trivial⟩) fun c2=>zL (fun c3=>⟨(),by rw[if_pos (.inr c3)],trivial⟩) fun c3=>⟨kp,by omega,?_⟩
 have c3:¬i.a≥(i.p.count:Int):=c3
 rw[if_neg (by omega)]
 refine Cv.cnd.mk (fun c4=>⟨(),if_pos c4,trivial⟩) fun c4=> ?_
 rw[if_neg (by rw[qQ,c4];simp),w64 (x:=0-i.p.wide) (by omega)]
 refine zL (fun c5=> ?_) (fun c5=> ?_)
 ·have c5:(i.p.months.length:Int)≤i.a:=c5
  simp only[if_pos c5]
  refine zL (fun c6=>⟨(),if_pos (.inl (by omega)),trivial⟩) fun c6=>zL (fun c7=>⟨(),if_pos (.inr (by omega)),trivial⟩) fun c7=>⟨(),if_neg (by omega),trivial⟩
 ·have c5:¬(i.p.months.length:Int)≤i.a:=c5
  simp only[if_neg c5]
  refine zL (fun c6=>⟨(),if_pos (.inl (by omega)),trivial⟩) fun c6=>zL (fun c7=>⟨(),if_pos (.inr (by omega)),trivial⟩) fun c7=>⟨(),if_neg (by omega),trivial⟩
theorem m8:priceC.ok Tryz.prog 72:=yCw (gokc b7 gok0) yKv
theorem yGw (x:Int) (h: -18446744073709551616≤x∧x<18446744073709551616):(yR x∧IntKind.i64.wrap x=x)∨(9223372036854775807<x∧IntKind.i64.wrap x=x-18446744073709551616)∨(x< -9223372036854775808∧IntKind.i64.wrap x=x+18446744073709551616):=by
 have e:IntKind.i64.wrap x=if(decide (x % 18446744073709551616≥9223372036854775808))=true then x % 18446744073709551616-18446744073709551616 else x % 18446744073709551616:=by
  have:IntKind.i64.wrap x=if(true && decide (x % 18446744073709551616≥9223372036854775808))=true then x % 18446744073709551616-18446744073709551616 else x % 18446744073709551616:=rfl
  rw[this,Bool.true_and]
 have e:IntKind.i64.wrap x=(x+9223372036854775808) % 18446744073709551616-9223372036854775808:=by
  rw[e]
  by_cases h2:x % 18446744073709551616≥9223372036854775808
  ·rw[if_pos (decide_eq_true h2)];omega
  ·rw[if_neg (by simpa using h2)];omega
 rw[e]
 by_cases h1:yR x
 ·exact .inl ⟨h1,by unfold yR at h1;omega⟩
 ·unfold yR at h1
  omega
theorem yQe (i:I2) (h:addC.cnd i):yJy i:=by
 obtain⟨⟨x1,x2⟩,y1,y2⟩:yR i.x∧yR i.y:=h
 have hw:=yGw (i.x+i.y) (by omega)
 unfold yJy zHh uF
 generalize IntKind.i64.wrap (i.x+i.y)=w at hw ⊢
 unfold yR at hw ⊢
 refine Cv.cnd.mk (fun c1=>Cv.cnd.mk (fun c2=> ?_) (fun c2=> ?_)) (fun c1=> ?_)
 all_goals(simp at*)
 ·rw[if_neg (by omega)];exact kp
 ·rw[if_pos (by omega)];refine⟨?_,rfl⟩;dsimp only;omega
 ·rw[if_pos (by omega)];refine⟨?_,rfl⟩;dsimp only;omega
theorem zMp:addC.ok Tryz.prog 87:=yPk gok0 yQe
theorem yQm (i:I2) (h:subC.cnd i):yMp i:=by
 obtain⟨⟨x1,x2⟩,y1,y2⟩:yR i.x∧yR i.y:=h
 have hw:=yGw (i.x-i.y) (by omega)
 unfold yMp zHw uA
 generalize IntKind.i64.wrap (i.x-i.y)=w at hw ⊢
 unfold yR at hw ⊢
 refine Cv.cnd.mk (fun c1=>Cv.cnd.mk (fun c2=> ?_) (fun c2=> ?_)) (fun c1=> ?_)
 all_goals(simp at*)
 ·rw[if_neg (by omega)];exact kp
 ·rw[if_pos (by omega)];refine⟨?_,rfl⟩;dsimp only;omega
 ·rw[if_pos (by omega)];refine⟨?_,rfl⟩;dsimp only;omega
theorem zOw:subC.ok Tryz.prog 88:=yOz gok0 yQm
open Go Cv Go.Proofs
structure Slot where
 used:Bool
 n:Int
 id:Int
 qty:Int
 top:Bool
 queue:Int
 ahead:Int
 back:Int
 deriving DecidableEq
structure fS where
 first:Int
 last:Int
 total:Int
 count:Int
 deriving DecidableEq
structure Arena where
 slots:List Slot
 queues:List fS
 free:Int
 deriving DecidableEq
def zR (s:Slot):List D:=[.v (.bool s.used),.v (.int .i64 s.n),.v (.int .i64 s.id),.v (.int .i64 s.qty),.v (.bool s.top),.v (.int .i64 s.queue),.v (.int .i64 s.ahead),.v (.int .i64 s.back)]
def zO (q:fS):List D:=[.v (.int .i64 q.first),.v (.int .i64 q.last),.v (.int .i64 q.total),.v (.int .i64 q.count)]
def slot0:Slot:=⟨false,0,0,0,false,0,0,0⟩
def zG (a:Arena):Nat→AObj
 |0=> .cells [.own 1,.own 2,zB a.free] 185
 |1=> .own 193 8 (a.slots.map zR)
 |2=> .own 199 4 (a.queues.map zO)
 |_=> .gone
def jE (a:Arena):AObj:= .adt Arena 3 zG a
structure xL where
 price:Int
 queue:Int
 deriving DecidableEq
structure Place where
 side:Int
 price:Int
 slot:Int
 deriving DecidableEq
structure Book where
 a:Arena
 buys:List xL
 sells:List xL
 at_:List (Int×Place)
 top1:Int
 top2:Int
 spare:List Int
 has1:Bool
 has2:Bool
 deriving DecidableEq
def zC (r:xL):List D:=[.v (.int .i64 r.price),.v (.int .i64 r.queue)]
def zXf (p:Place):List D:=[.v (.int .i64 p.side),.v (.int .i64 p.price),.v (.int .i64 p.slot)]
def atE (l:List (Int×Place)):List (Value×List D):=l.map fun x=>(.int .i64 x.1,zXf x.2)
def zS (b:Book):Nat→AObj
 |0=> .cells [.nm 1 0,.own 2,.own 3,.mp 4,zB b.top1,zB b.top2,.own 5,yO b.has1,yO b.has2] 144
 |1=>jE b.a
 |2=> .own 147 2 (b.buys.map zC)
 |3=> .own 147 2 (b.sells.map zC)
 |4=> .map (atE b.at_)
 |5=> .own 3 1 (iE b.spare)
 |_=> .gone
def yC (b:Book):AObj:= .adt Book 6 zS b
structure MSt where
 p:Prd
 books:List Book
 wh:List (Int×Int)
def yU (l:List (Int×Int)):List (Value×List D):=l.map fun x=>(.int .i64 x.1,[.v (.int .i64 x.2)])
def xR (s:MSt):Nat→AObj
 |0=> .cells [sV s.p.code,.own 3,zB s.p.tick,zB s.p.low,zB s.p.high,zB s.p.wide,zB s.p.rule,zB s.p.top,zB s.p.least,zB s.p.part,.own 4,.own 1,.mp 2] 101
 |1=> .objs 102 Book 6 zS s.books none
 |2=> .map (yU s.wh)
 |3=> .fro 1 (iE s.p.months)
 |4=> .fro 1 (iE s.p.settle)
 |_=> .gone
def zE (s:MSt):AObj:= .adt MSt 5 xR s
def zGy (n:Nat):Arena:=⟨List.replicate n slot0,[],n⟩
def book0:Book:=⟨zGy 250,[],[],[],0,0,[],false,false⟩
def newAC:Con:=con1 Nat (fun n=>[zB n]) (fun _=>[]) (fun n=>1≤n∧n≤4096) (fun _=> .tup [.nm 0 0,zB 0]) (fun n=>[jE (zGy n)])
def newBC:Con:=con1 Unit (fun _=>[]) (fun _=>[]) (fun _=>True) (fun _=> .nm 0 0) (fun _=>[yC book0])
def gX (p:Prd):MSt:=⟨p,List.replicate p.count book0,[]⟩
def newSC:Con where
 ι:=Prd
 pat:=fun p=>[prdV p]
 pre:=fun _=>[]
 cnd:=fun p=>p.small
 alts:=fun p=>[{o:=Unit,res:=fun _=> .tup [.nm 0 0,zB 0],post:=fun _=>[zE (gX p)],rel:=fun _=>p.check=0},{o:=Unit,res:=fun _=> .tup [.d (.v (.pointer none)),zB p.check],post:=fun _=>[],rel:=fun _=>p.check≠0}]
def yNo (p:Prd):List SAnn:=[{ι:=Nat,slots:=fun j=>[(5,.nm 0 0),(27,zB j)],rows:=fun j=>(List.range 5).map (xR ⟨p,List.replicate j book0,[]⟩)}]
def clSlotC:Con:=con1 (List Slot) (fun _=>[.own 0]) (fun l=>[.own 193 8 (l.map zR)]) (fun l=>l.length≤1000000) (fun _=> .own 1) (fun l=>[.own 193 8 (l.map zR),.own 193 8 (l.map zR)])
def clQueueC:Con:=con1 (List fS) (fun _=>[.own 0]) (fun l=>[.own 199 4 (l.map zO)]) (fun l=>l.length≤1000000) (fun _=> .own 1) (fun l=>[.own 199 4 (l.map zO),.own 199 4 (l.map zO)])
def clRungC:Con:=con1 (List xL) (fun _=>[.own 0]) (fun l=>[.own 147 2 (l.map zC)]) (fun l=>l.length≤1000000) (fun _=> .own 1) (fun l=>[.own 147 2 (l.map zC),.own 147 2 (l.map zC)])
def clIntC:Con:=con1 (List Int) (fun _=>[.own 0]) (fun l=>[.own 3 1 (iE l)]) (fun l=>l.length≤1000000) (fun _=> .own 1) (fun l=>[.own 3 1 (iE l),.own 3 1 (iE l)])
def z7h (f:Nat):Con:=con1 (List (Value×List D)) (fun _=>[.mp 0]) (fun es=>[.map es]) (fun _=>True) (fun _=> .mp 1) (fun es=>[.map es,.map es])
def clAtC:Con:=z7h 0
def clWhC:Con:=z7h 1
@[reducible] def Arena.small (a:Arena):Prop:=a.slots.length≤1000000∧a.queues.length≤1000000
@[reducible] def Book.small (b:Book):Prop:=b.a.small∧b.buys.length≤1000000∧b.sells.length≤1000000∧b.spare.length≤1000000
@[reducible] def MSt.small (s:MSt):Prop:=s.books.length≤1000000∧∀b∈s.books,b.small
def copyAC:Con:=con1 Arena (fun _=>[.nm 0 0]) (fun a=>[jE a]) Arena.small (fun _=> .nm 1 0) (fun a=>[jE a,jE a])
def copyBC:Con:=con1 Book (fun _=>[.nm 0 0]) (fun b=>[yC b]) Book.small (fun _=> .nm 1 0) (fun b=>[yC b,yC b])
def yMv:List SAnn:=[{ι:=Unit,slots:=fun _=>[],rows:=fun _=>[],un:=3}]
def copySC:Con:=con1 MSt (fun _=>[.nm 0 0]) (fun s=>[zE s]) MSt.small (fun _=> .nm 1 0) (fun s=>[zE s,zE s])
open Go Cv Go.Proofs
def z9k (n:Nat):Prop:=
 cnd (decide ((↑n:Int)<1)) (∃(a:Unit),False) (cnd (decide ((↑n:Int)>4096)) (∃(a:Unit),False) ((0≤(↑n:Int)∧(↑n:Int)≤(↑n:Int)∧(↑n:Int)≤9223372036854775807∧(↑(64:Nat):Int)*(↑n:Int)≤2 ^ (48:Nat))∧∃(a:Unit),(0:Int)=(0:Int)∧(↑n:Int)=(↑n:Int)∧List.map zR (List.replicate n slot0)=List.replicate (↑n:Int).toNat [D.v (.bool false),D.v (.int .i64 0),D.v (.int .i64 0),D.v (.int .i64 0),D.v (.bool false),D.v (.int .i64 0),D.v (.int .i64 0),D.v (.int .i64 0)]∧([]:List (List D))=[]∧True))
theorem yHi (hG:GOk Tryz.prog ([])) (h:∀(n:Nat),newAC.cnd n→z9k n):newAC.ok Tryz.prog 95:=okw mixed hG 0 (fun _=>[]) (fun _=>[]) [] Tryz.func95 h
def yOr (u:Unit):Prop:=
 ∃(i:Nat),(↑i:Int)=250∧(1≤i∧i≤4096)∧∀(o:Unit),True→∃(o:Unit),(0:Int)=(0:Int)∧(0:Int)=(0:Int)∧false=false∧false=false∧AObj.adt Arena 3 zG (zGy 250)=AObj.adt Arena 3 zG (zGy i)∧([]:List (List D))=[]∧([]:List (List D))=[]∧atE []=[]∧iE []=[]∧True
theorem yHb (hG:GOk Tryz.prog ([(95,newAC)])) (h:∀(u:Unit),newBC.cnd u→yOr u):newBC.ok Tryz.prog 68:=okw mixed hG 0 (fun _=>[]) (fun _=>[]) [] Tryz.func68 h
def yGz (p:Prd):Prop:=
 ∃(i:Prd),sb i.code=sb p.code∧iE i.months=iE p.months∧i.tick=p.tick∧i.low=p.low∧i.high=p.high∧i.wide=p.wide∧i.rule=p.rule∧i.top=p.top∧i.least=p.least∧i.part=p.part∧iE i.settle=iE p.settle∧(i.code.length≤1099511627776∧i.months.length≤1099511627776∧i.settle.length≤1099511627776)∧∀(o:Unit),True→cnd (i.check !=0) ((∃(o:Unit),False)∨∃(o:Unit),True∧p.check=i.check∧(p.check=0→False)) ((True∧True∧((0+(iE p.months).length)*(8:Nat)≤(70368744177664:Nat)∧True∧True∧(0+(iE p.settle).length)*(8:Nat)≤(70368744177664:Nat)∧∃(i:Prd),sb i.code=sb p.code∧iE i.months=[]++iE p.months∧i.tick=p.tick∧i.low=p.low∧i.high=p.high∧i.wide=p.wide∧i.rule=p.rule∧i.top=p.top∧i.least=p.least∧i.part=p.part∧iE i.settle=[]++iE p.settle∧(i.code.length≤1099511627776∧i.months.length≤1099511627776∧i.settle.length≤1099511627776)∧∀(o:Unit),True→∃(i0:Nat),(↑i0:Int)=0∧sb p.code=sb p.code∧p.tick=p.tick∧p.low=p.low∧p.high=p.high∧p.wide=p.wide∧p.rule=p.rule∧p.top=p.top∧p.least=p.least∧p.part=p.part∧List.replicate i0 book0=[]∧(none:Option Nat)=none∧yU []=[]∧AObj.fro 1 (iE p.months)=AObj.fro 1 ([]++iE p.months)∧AObj.fro 1 (iE p.settle)=AObj.fro 1 ([]++iE p.settle)∧∃(I:Nat→Prop),∃(μ:Nat→Nat),I i0∧∀(i_1:Nat),I i_1→cnd (decide ((↑i_1:Int)<(↑i.count:Int))) (∃(i:Unit),True∧∀(o:Unit),True→True∧True∧∃(l1':List Book),AObj.objs 102 Book 6 zS (List.replicate i_1 book0) none=AObj.objs 102 Book 6 zS l1' none∧(l1'.length+1)*(8:Nat)≤(70368744177664:Nat)∧∃(i':Nat),(↑i':Int)=IntKind.i64.wrap ((↑i_1:Int)+1)∧sb p.code=sb p.code∧p.tick=p.tick∧p.low=p.low∧p.high=p.high∧p.wide=p.wide∧p.rule=p.rule∧p.top=p.top∧p.least=p.least∧p.part=p.part∧AObj.objs 102 Book 6 zS (List.replicate i' book0) none=AObj.objs 102 Book 6 zS (l1'++[book0]) none∧yU []=yU []∧AObj.fro 1 (iE p.months)=AObj.fro 1 (iE p.months)∧AObj.fro 1 (iE p.settle)=AObj.fro 1 (iE p.settle)∧I i'∧μ i'<μ i_1∧AObj.fro 1 ([]++iE p.settle)=AObj.fro 1 ([]++iE p.settle)∧AObj.fro 1 ([]++iE p.months)=AObj.fro 1 ([]++iE p.months)∧Sx.AObj.cells [V.d (D.v (Value.string (sb p.code))),V.own ((0:Nat)+(1:Nat)+(1:Nat)+(1:Nat)+((0:Nat)-(0:Nat))+1),V.d (D.v (.int .i64 p.tick)),V.d (D.v (.int .i64 p.low)),V.d (D.v (.int .i64 p.high)),V.d (D.v (.int .i64 p.wide)),V.d (D.v (.int .i64 p.rule)),V.d (D.v (.int .i64 p.top)),V.d (D.v (.int .i64 p.least)),V.d (D.v (.int .i64 p.part)),V.own ((0:Nat)+(1:Nat)+(1:Nat)+(1:Nat)+((0:Nat)-(0:Nat))+(1:Nat)+(1:Nat)+1)] 29=Sx.AObj.cells [V.d (D.v (Value.string (sb p.code))),V.own ((0:Nat)+(1:Nat)+(1:Nat)+(1:Nat)+((0:Nat)-(0:Nat))+1),V.d (D.v (.int .i64 p.tick)),V.d (D.v (.int .i64 p.low)),V.d (D.v (.int .i64 p.high)),V.d (D.v (.int .i64 p.wide)),V.d (D.v (.int .i64 p.rule)),V.d (D.v (.int .i64 p.top)),V.d (D.v (.int .i64 p.least)),V.d (D.v (.int .i64 p.part)),V.own ((0:Nat)+(1:Nat)+(1:Nat)+(1:Nat)+((0:Nat)-(0:Nat))+(1:Nat)+(1:Nat)+1)] 29∧AObj.fro 1 (iE p.settle)=AObj.fro 1 (iE p.settle)∧AObj.fro 1 (iE p.months)=AObj.fro 1 (iE p.months)) ((∃(o:Unit),(0:Int)=(0:Int)∧sb p.code=sb p.code∧p.tick=p.tick∧p.low=p.low∧p.high=p.high∧p.wide=p.wide∧p.rule=p.rule∧p.top=p.top∧p.least=p.least∧p.part=p.part∧AObj.objs 102 Book 6 zS (List.replicate p.count book0) none=AObj.objs 102 Book 6 zS (List.replicate i_1 book0) none∧yU []=yU []∧AObj.fro 1 (iE p.months)=AObj.fro 1 (iE p.months)∧AObj.fro 1 (iE p.settle)=AObj.fro 1 (iE p.settle)∧p.check=0)∨∃(o:Unit),False))∧True∧True∧(0+(iE p.months).length)*(8:Nat)≤(70368744177664:Nat)∧True∧(0+(iE p.settle).length)*(8:Nat)≤(70368744177664:Nat)∧∃(i:Prd),sb i.code=sb p.code∧iE i.months=[]++iE p.months∧i.tick=p.tick∧i.low=p.low∧i.high=p.high∧i.wide=p.wide∧i.rule=p.rule∧i.top=p.top∧i.least=p.least∧i.part=p.part∧iE i.settle=[]++iE p.settle∧(i.code.length≤1099511627776∧i.months.length≤1099511627776∧i.settle.length≤1099511627776)∧∀(o:Unit),True→∃(i0:Nat),(↑i0:Int)=0∧sb p.code=sb p.code∧p.tick=p.tick∧p.low=p.low∧p.high=p.high∧p.wide=p.wide∧p.rule=p.rule∧p.top=p.top∧p.least=p.least∧p.part=p.part∧List.replicate i0 book0=[]∧(none:Option Nat)=none∧yU []=[]∧AObj.fro 1 (iE p.months)=AObj.fro 1 ([]++iE p.months)∧AObj.fro 1 (iE p.settle)=AObj.fro 1 ([]++iE p.settle)∧∃(I:Nat→Prop),∃(μ:Nat→Nat),I i0∧∀(i_1:Nat),I i_1→cnd (decide ((↑i_1:Int)<(↑i.count:Int))) (∃(i:Unit),True∧∀(o:Unit),True→True∧True∧∃(l1':List Book),AObj.objs 102 Book 6 zS (List.replicate i_1 book0) none=AObj.objs 102 Book 6 zS l1' none∧(l1'.length+1)*(8:Nat)≤(70368744177664:Nat)∧∃(i':Nat),(↑i':Int)=IntKind.i64.wrap ((↑i_1:Int)+1)∧sb p.code=sb p.code∧p.tick=p.tick∧p.low=p.low∧p.high=p.high∧p.wide=p.wide∧p.rule=p.rule∧p.top=p.top∧p.least=p.least∧p.part=p.part∧AObj.objs 102 Book 6 zS (List.replicate i' book0) none=AObj.objs 102 Book 6 zS (l1'++[book0]) none∧yU []=yU []∧AObj.fro 1 (iE p.months)=AObj.fro 1 (iE p.months)∧AObj.fro 1 (iE p.settle)=AObj.fro 1 (iE p.settle)∧I i'∧μ i'<μ i_1∧AObj.fro 1 ([]++iE p.settle)=AObj.fro 1 ([]++iE p.settle)∧AObj.fro 1 ([]++iE p.months)=AObj.fro 1 ([]++iE p.months)∧Sx.AObj.cells [V.d (D.v (Value.string (sb p.code))),V.own ((0:Nat)+(1:Nat)+(1:Nat)+(1:Nat)+((0:Nat)-(0:Nat))+(1:Nat)+(1:Nat)),V.d (D.v (.int .i64 p.tick)),V.d (D.v (.int .i64 p.low)),V.d (D.v (.int .i64 p.high)),V.d (D.v (.int .i64 p.wide)),V.d (D.v (.int .i64 p.rule)),V.d (D.v (.int .i64 p.top)),V.d (D.v (.int .i64 p.least)),V.d (D.v (.int .i64 p.part)),V.own ((0:Nat)+(1:Nat)+(1:Nat)+(1:Nat)+((0:Nat)-(0:Nat))+(1:Nat)+(1:Nat)+1)] 29=Sx.AObj.cells [V.d (D.v (Value.string (sb p.code))),V.own ((0:Nat)+(1:Nat)+(1:Nat)+(1:Nat)+((0:Nat)-(0:Nat))+(1:Nat)+(1:Nat)),V.d (D.v (.int .i64 p.tick)),V.d (D.v (.int .i64 p.low)),V.d (D.v (.int .i64 p.high)),V.d (D.v (.int .i64 p.wide)),V.d (D.v (.int .i64 p.rule)),V.d (D.v (.int .i64 p.top)),V.d (D.v (.int .i64 p.least)),V.d (D.v (.int .i64 p.part)),V.own ((0:Nat)+(1:Nat)+(1:Nat)+(1:Nat)+((0:Nat)-(0:Nat))+(1:Nat)+(1:Nat)+1)] 29∧AObj.fro 1 (iE p.settle)=AObj.fro 1 (iE p.settle)∧AObj.fro 1 (iE p.months)=AObj.fro 1 (iE p.months)) ((∃(o:Unit),(0:Int)=(0:Int)∧sb p.code=sb p.code∧p.tick=p.tick∧p.low=p.low∧p.high=p.high∧p.wide=p.wide∧p.rule=p.rule∧p.top=p.top∧p.least=p.least∧p.part=p.part∧AObj.objs 102 Book 6 zS (List.replicate p.count book0) none=AObj.objs 102 Book 6 zS (List.replicate i_1 book0) none∧yU []=yU []∧AObj.fro 1 (iE p.months)=AObj.fro 1 (iE p.months)∧AObj.fro 1 (iE p.settle)=AObj.fro 1 (iE p.settle)∧p.check=0)∨∃(o:Unit),False))∧True∧True∧True∧True∧(0+(iE p.months).length)*(8:Nat)≤(70368744177664:Nat)∧True∧(0+(iE p.settle).length)*(8:Nat)≤(70368744177664:Nat)∧∃(i:Prd),sb i.code=sb p.code∧iE i.months=[]++iE p.months∧i.tick=p.tick∧i.low=p.low∧i.high=p.high∧i.wide=p.wide∧i.rule=p.rule∧i.top=p.top∧i.least=p.least∧i.part=p.part∧iE i.settle=[]++iE p.settle∧(i.code.length≤1099511627776∧i.months.length≤1099511627776∧i.settle.length≤1099511627776)∧∀(o:Unit),True→∃(i0:Nat),(↑i0:Int)=0∧sb p.code=sb p.code∧p.tick=p.tick∧p.low=p.low∧p.high=p.high∧p.wide=p.wide∧p.rule=p.rule∧p.top=p.top∧p.least=p.least∧p.part=p.part∧List.replicate i0 book0=[]∧(none:Option Nat)=none∧yU []=[]∧AObj.fro 1 (iE p.months)=AObj.fro 1 ([]++iE p.months)∧AObj.fro 1 (iE p.settle)=AObj.fro 1 ([]++iE p.settle)∧∃(I:Nat→Prop),∃(μ:Nat→Nat),I i0∧∀(i_1:Nat),I i_1→cnd (decide ((↑i_1:Int)<(↑i.count:Int))) (∃(i:Unit),True∧∀(o:Unit),True→True∧True∧∃(l1':List Book),AObj.objs 102 Book 6 zS (List.replicate i_1 book0) none=AObj.objs 102 Book 6 zS l1' none∧(l1'.length+1)*(8:Nat)≤(70368744177664:Nat)∧∃(i':Nat),(↑i':Int)=IntKind.i64.wrap ((↑i_1:Int)+1)∧sb p.code=sb p.code∧p.tick=p.tick∧p.low=p.low∧p.high=p.high∧p.wide=p.wide∧p.rule=p.rule∧p.top=p.top∧p.least=p.least∧p.part=p.part∧AObj.objs 102 Book 6 zS (List.replicate i' book0) none=AObj.objs 102 Book 6 zS (l1'++[book0]) none∧yU []=yU []∧AObj.fro 1 (iE p.months)=AObj.fro 1 (iE p.months)∧AObj.fro 1 (iE p.settle)=AObj.fro 1 (iE p.settle)∧I i'∧μ i'<μ i_1∧AObj.fro 1 ([]++iE p.settle)=AObj.fro 1 ([]++iE p.settle)∧AObj.fro 1 ([]++iE p.months)=AObj.fro 1 ([]++iE p.months)∧Sx.AObj.cells [V.d (D.v (Value.string (sb p.code))),V.own ((0:Nat)+(1:Nat)+(1:Nat)+(1:Nat)+((0:Nat)-(0:Nat))+(1:Nat)+(1:Nat)),V.d (D.v (.int .i64 p.tick)),V.d (D.v (.int .i64 p.low)),V.d (D.v (.int .i64 p.high)),V.d (D.v (.int .i64 p.wide)),V.d (D.v (.int .i64 p.rule)),V.d (D.v (.int .i64 p.top)),V.d (D.v (.int .i64 p.least)),V.d (D.v (.int .i64 p.part)),V.own ((0:Nat)+(1:Nat)+(1:Nat)+(1:Nat)+((0:Nat)-(0:Nat))+(1:Nat)+(1:Nat)+1)] 29=Sx.AObj.cells [V.d (D.v (Value.string (sb p.code))),V.own ((0:Nat)+(1:Nat)+(1:Nat)+(1:Nat)+((0:Nat)-(0:Nat))+(1:Nat)+(1:Nat)),V.d (D.v (.int .i64 p.tick)),V.d (D.v (.int .i64 p.low)),V.d (D.v (.int .i64 p.high)),V.d (D.v (.int .i64 p.wide)),V.d (D.v (.int .i64 p.rule)),V.d (D.v (.int .i64 p.top)),V.d (D.v (.int .i64 p.least)),V.d (D.v (.int .i64 p.part)),V.own ((0:Nat)+(1:Nat)+(1:Nat)+(1:Nat)+((0:Nat)-(0:Nat))+(1:Nat)+(1:Nat)+1)] 29∧AObj.fro 1 (iE p.settle)=AObj.fro 1 (iE p.settle)∧AObj.fro 1 (iE p.months)=AObj.fro 1 (iE p.months)) ((∃(o:Unit),(0:Int)=(0:Int)∧sb p.code=sb p.code∧p.tick=p.tick∧p.low=p.low∧p.high=p.high∧p.wide=p.wide∧p.rule=p.rule∧p.top=p.top∧p.least=p.least∧p.part=p.part∧AObj.objs 102 Book 6 zS (List.replicate p.count book0) none=AObj.objs 102 Book 6 zS (List.replicate i_1 book0) none∧yU []=yU []∧AObj.fro 1 (iE p.months)=AObj.fro 1 (iE p.months)∧AObj.fro 1 (iE p.settle)=AObj.fro 1 (iE p.settle)∧p.check=0)∨∃(o:Unit),False))
theorem yKm (hG:GOk Tryz.prog ([(50,checkC),(24,pcountC),(68,newBC)])) (h:∀(p:Prd),newSC.cnd p→yGz p):newSC.ok Tryz.prog 37:=okw mixed hG 0 (fun _=>[]) (fun p=>yNo p) [] Tryz.func37 h
def yEv (l:List Slot):Prop:=
 ∀(b:Bool),(b=true→List.map zR l=[])→cnd b (∃(o:Unit),List.map zR l=List.map zR l∧List.map zR l=[]∧True) ((0+(List.map zR l).length)*(64:Nat)≤(70368744177664:Nat)∧∃(o:Unit),List.map zR l=List.map zR l∧List.map zR l=[]++List.map zR l∧True)
theorem z9w (hG:GOk Tryz.prog ([])) (h:∀(l:List Slot),clSlotC.cnd l→yEv l):clSlotC.ok Tryz.prog 122:=okw mixed hG 0 (fun _=>[]) (fun _=>[]) [] Tryz.func122 h
def z9a (l:List fS):Prop:=
 ∀(b:Bool),(b=true→List.map zO l=[])→cnd b (∃(o:Unit),List.map zO l=List.map zO l∧List.map zO l=[]∧True) ((0+(List.map zO l).length)*(32:Nat)≤(70368744177664:Nat)∧∃(o:Unit),List.map zO l=List.map zO l∧List.map zO l=[]++List.map zO l∧True)
theorem z2x (hG:GOk Tryz.prog ([])) (h:∀(l:List fS),clQueueC.cnd l→z9a l):clQueueC.ok Tryz.prog 123:=okw mixed hG 0 (fun _=>[]) (fun _=>[]) [] Tryz.func123 h
def yBs (l:List xL):Prop:=
 ∀(b:Bool),(b=true→List.map zC l=[])→cnd b (∃(o:Unit),List.map zC l=List.map zC l∧List.map zC l=[]∧True) ((0+(List.map zC l).length)*(16:Nat)≤(70368744177664:Nat)∧∃(o:Unit),List.map zC l=List.map zC l∧List.map zC l=[]++List.map zC l∧True)
theorem z8i (hG:GOk Tryz.prog ([])) (h:∀(l:List xL),clRungC.cnd l→yBs l):clRungC.ok Tryz.prog 105:=okw mixed hG 0 (fun _=>[]) (fun _=>[]) [] Tryz.func105 h
def yJq (l:List Int):Prop:=
 ∀(b:Bool),(b=true→iE l=[])→cnd b (∃(o:Unit),iE l=iE l∧iE l=[]∧True) ((0+(iE l).length)*(8:Nat)≤(70368744177664:Nat)∧∃(o:Unit),iE l=iE l∧iE l=[]++iE l∧True)
theorem yEf (hG:GOk Tryz.prog ([])) (h:∀(l:List Int),clIntC.cnd l→yJq l):clIntC.ok Tryz.prog 58:=okw mixed hG 0 (fun _=>[]) (fun _=>[]) [] Tryz.func58 h
def z8n (es:List (Value×List D)):Prop:=
 ∃(a:List (Value×List D)),a=es∧True∧∀(b:Unit),True→∃(c:Unit),es=a∧es=a∧True
theorem yIu (es:List (Value×List D)):z8n es=walk Tryz.prog ([(102,dC 142)]) 0 ([]) ([]) [] Tryz.f104 (Tryz.f104.body.getD .skip) (clAtC.pat es) (clAtC.pre es) (clAtC.alts es):=by kernel_rfl
theorem yKj (hG:GOk Tryz.prog ([(102,dC 142)])) (h:∀(es:List (Value×List D)),clAtC.cnd es→z8n es):clAtC.ok Tryz.prog 104:=sL mixed ([(102,dC 142)]) hG 0 (fun(es:List (Value×List D))=>[]) (fun(es:List (Value×List D))=>[]) [] Tryz.func104 (by kernel_rfl) (by kernel_rfl) (by kernel_rfl) (fun _=>by kernel_rfl) (fun(es:List (Value×List D)) hc=>Eq.mp (yIu es) (h es hc))
def yAn (es:List (Value×List D)):Prop:=
 ∃(a:List (Value×List D)),a=es∧True∧∀(b:Unit),True→∃(c:Unit),es=a∧es=a∧True
theorem yLm (es:List (Value×List D)):yAn es=walk Tryz.prog ([(102,dC 99)]) 0 ([]) ([]) [] Tryz.f78 (Tryz.f78.body.getD .skip) (clWhC.pat es) (clWhC.pre es) (clWhC.alts es):=by kernel_rfl
theorem yKc (hG:GOk Tryz.prog ([(102,dC 99)])) (h:∀(es:List (Value×List D)),clWhC.cnd es→yAn es):clWhC.ok Tryz.prog 78:=sL mixed ([(102,dC 99)]) hG 0 (fun(es:List (Value×List D))=>[]) (fun(es:List (Value×List D))=>[]) [] Tryz.func78 (by kernel_rfl) (by kernel_rfl) (by kernel_rfl) (fun _=>by kernel_rfl) (fun(es:List (Value×List D)) hc=>Eq.mp (yLm es) (h es hc))
def yIv (a:Arena):Prop:=
 ∃(i:List Slot),List.map zR i=List.map zR a.slots∧i.length≤1000000∧∀(o:Unit),True→a.free=a.free∧True∧∃(i_1:List fS),List.map zO i_1=List.map zO a.queues∧i_1.length≤1000000∧∀(o:Unit),True→a.free=a.free∧∃(o:Unit),a.free=a.free∧List.map zR a.slots=List.map zR i∧List.map zO a.queues=List.map zO i_1∧a.free=a.free∧List.map zR a.slots=List.map zR i∧List.map zO a.queues=List.map zO i_1∧True
theorem yBe (hG:GOk Tryz.prog ([(122,clSlotC),(123,clQueueC)])) (h:∀(a:Arena),copyAC.cnd a→yIv a):copyAC.ok Tryz.prog 103:=okw mixed hG 0 (fun _=>[]) (fun _=>[]) [0] Tryz.func103 h
def yIc (b:Book):Prop:=
 ∃(i:Arena),AObj.adt Arena 3 zG i=AObj.adt Arena 3 zG b.a∧(i.slots.length≤1000000∧i.queues.length≤1000000)∧∀(o:Unit),True→True∧True∧∃(i_1:List (Value×List D)),i_1=atE b.at_∧True∧∀(o:Unit),True→True∧∃(i_2:List Int),iE i_2=iE b.spare∧i_2.length≤1000000∧∀(o:Unit),True→∃(i_3:List xL),List.map zC i_3=List.map zC b.buys∧i_3.length≤1000000∧∀(o:Unit),True→∃(i_4:List xL),List.map zC i_4=List.map zC b.sells∧i_4.length≤1000000∧∀(o:Unit),True→∃(o:Unit),b.top1=b.top1∧b.top2=b.top2∧b.has1=b.has1∧b.has2=b.has2∧AObj.adt Arena 3 zG b.a=AObj.adt Arena 3 zG i∧List.map zC b.buys=List.map zC i_3∧List.map zC b.sells=List.map zC i_4∧atE b.at_=i_1∧iE b.spare=iE i_2∧b.top1=b.top1∧b.top2=b.top2∧b.has1=b.has1∧b.has2=b.has2∧AObj.adt Arena 3 zG b.a=AObj.adt Arena 3 zG i∧List.map zC b.buys=List.map zC i_3∧List.map zC b.sells=List.map zC i_4∧atE b.at_=i_1∧iE b.spare=iE i_2∧True
theorem yFu (hG:GOk Tryz.prog ([(103,copyAC),(104,clAtC),(58,clIntC),(105,clRungC)])) (h:∀(b:Book),copyBC.cnd b→yIc b):copyBC.ok Tryz.prog 79:=okw mixed hG 0 (fun _=>[]) (fun _=>yMv) [0] Tryz.func79 h
open Go Cv Go.Proofs
theorem yOg (n:Nat) (h:newAC.cnd n):z9k n:=by
 obtain⟨h1,h2⟩:1≤n∧n≤4096:=h
 unfold z9k
 refine zL (fun c=>by omega) fun c=>zL (fun c=>by omega) fun c=> ?_
 refine⟨⟨by omega,by omega,by omega,?_⟩,?_⟩
 ·have:(2:Int) ^ (48:Nat)=281474976710656:=by decide
  rw[this];omega
 ·refine⟨(),rfl,rfl,?_,rfl,trivial⟩
  rw[List.map_replicate];rfl
theorem yCx:newAC.ok Tryz.prog 95:=yHi gok0 yOg
theorem yFw:newBC.ok Tryz.prog 68:=yHb (gokc yCx gok0) fun u _=>by
 refine⟨250,rfl,⟨by omega,by omega⟩,?_⟩;exact kp
theorem yOq (p:Prd) (h:newSC.cnd p):yGz p:=by
 have hs:p.small:=h
 obtain⟨h1,h2,h3⟩:p.small:=h
 refine⟨p,?_⟩
 simp only[xH]
 (repeat'(first|exact rfl|exact trivial|assumption|apply And.intro|refine fun(_:Unit) (_:True)=>?_|refine Exists.intro () ?_|omega|(dsimp only;omega)))
 refine Cv.cnd.mk (fun c=> .inr ⟨(),trivial,kp,by simpa using c⟩) fun c=> ?_
 have c:p.check=0:=by simpa using c
 have hc:=x0 p
 (repeat'(first|exact rfl|exact trivial|assumption|apply And.intro|refine fun(_:Unit) (_:True)=>?_|refine Exists.intro () ?_|omega|(dsimp only;omega)))
 all_goals(refine⟨p,?_⟩;(repeat'(first|exact rfl|exact trivial|assumption|apply And.intro|refine fun(_:Unit) (_:True)=>?_|refine Exists.intro () ?_|omega|(dsimp only;omega))))
 all_goals(refine⟨0,?_⟩;(repeat'(first|exact rfl|exact trivial|assumption|apply And.intro|refine fun(_:Unit) (_:True)=>?_|refine Exists.intro () ?_|omega|(dsimp only;omega))))
 all_goals(refine⟨fun j=>j≤p.count,fun j=>p.count-j,by omega,fun j hj=>zL (fun hlt=> ?_) (fun hlt=> ?_)⟩;all_goals dsimp only at hj hlt)
 all_goals first
  |(refine .inl ⟨(),?_⟩
    obtain rfl:j=p.count:=by omega
    (repeat'(first|exact rfl|exact trivial|assumption|apply And.intro|refine fun(_:Unit) (_:True)=>?_|refine Exists.intro () ?_|omega|(dsimp only;omega))))
  |(refine⟨(),trivial,fun _ _=>⟨trivial,trivial,List.replicate j book0,rfl,?_,j+1,?_⟩⟩
    ·rw[List.length_replicate];omega
    ·rw[w64 (by omega),← List.replicate_succ']
     (repeat'(first|exact rfl|exact trivial|assumption|apply And.intro|refine fun(_:Unit) (_:True)=>?_|refine Exists.intro () ?_|omega|(dsimp only;omega))))
theorem yBa:newSC.ok Tryz.prog 37:=yKm (gokc lV (gokc b7 (gokc yFw gok0))) yOq
theorem z3j:clSlotC.ok Tryz.prog 122:=z9w gok0 fun l h=>by
 have h:l.length≤1000000:=h
 exact fun b hb=>Cv.cnd.mk (fun e=>⟨(),rfl,hb e,trivial⟩) (fun _=>⟨by rw[Nat.zero_add,List.length_map];omega,(),rfl,rfl,trivial⟩)
theorem zWi:clQueueC.ok Tryz.prog 123:=z2x gok0 fun l h=>by
 have h:l.length≤1000000:=h
 exact fun b hb=>Cv.cnd.mk (fun e=>⟨(),rfl,hb e,trivial⟩) (fun _=>⟨by rw[Nat.zero_add,List.length_map];omega,(),rfl,rfl,trivial⟩)
theorem z2l:clRungC.ok Tryz.prog 105:=z8i gok0 fun l h=>by
 have h:l.length≤1000000:=h
 exact fun b hb=>Cv.cnd.mk (fun e=>⟨(),rfl,hb e,trivial⟩) (fun _=>⟨by rw[Nat.zero_add,List.length_map];omega,(),rfl,rfl,trivial⟩)
theorem yAy:clIntC.ok Tryz.prog 58:=yEf gok0 fun l h=>by
 have h:l.length≤1000000:=h
 exact fun b hb=>Cv.cnd.mk (fun e=>⟨(),rfl,hb e,trivial⟩) (fun _=>⟨by rw[Nat.zero_add,xH];omega,(),rfl,rfl,trivial⟩)
theorem zKw (t:Nat):(dC t).ok Tryz.prog 102:=zUr Tryz.func102 (by kernel_rfl) (by kernel_rfl) (by kernel_rfl) (by kernel_rfl) t
theorem yCz:clAtC.ok Tryz.prog 104:=yKj (gokc (zKw _) gok0) fun es _=>by
 unfold z8n
 refine⟨es,?_⟩;exact kp
theorem yCn:clWhC.ok Tryz.prog 78:=yKc (gokc (zKw _) gok0) fun es _=>by
 unfold yAn
 refine⟨es,?_⟩;exact kp
theorem z9z:copyAC.ok Tryz.prog 103:=yBe (gokc z3j (gokc zWi gok0)) fun a h=>by
 obtain⟨h1,h2⟩:a.small:=h
 refine⟨a.slots,?_⟩;(repeat'(first|exact rfl|exact trivial|assumption|apply And.intro|refine fun(_:Unit) (_:True)=>?_|refine Exists.intro () ?_|omega|(dsimp only;omega)))
 refine⟨a.queues,?_⟩;exact kp
theorem z7x:copyBC.ok Tryz.prog 79:=yFu (gokc z9z (gokc yCz (gokc yAy (gokc z2l gok0)))) fun b h=>by
 obtain⟨⟨h1,h1'⟩,h2,h3,h4⟩:b.small:=h
 refine⟨b.a,?_⟩;(repeat'(first|exact rfl|exact trivial|assumption|apply And.intro|refine fun(_:Unit) (_:True)=>?_|refine Exists.intro () ?_|omega|(dsimp only;omega)))
 refine⟨atE b.at_,?_⟩;(repeat'(first|exact rfl|exact trivial|assumption|apply And.intro|refine fun(_:Unit) (_:True)=>?_|refine Exists.intro () ?_|omega|(dsimp only;omega)))
 refine⟨b.spare,?_⟩;(repeat'(first|exact rfl|exact trivial|assumption|apply And.intro|refine fun(_:Unit) (_:True)=>?_|refine Exists.intro () ?_|omega|(dsimp only;omega)))
 refine⟨b.buys,?_⟩;(repeat'(first|exact rfl|exact trivial|assumption|apply And.intro|refine fun(_:Unit) (_:True)=>?_|refine Exists.intro () ?_|omega|(dsimp only;omega)))
 refine⟨b.sells,?_⟩;exact kp
open Go Cv Go.Proofs
structure ArN where
 a:Arena
 n:Int
def Arena.qAt (a:Arena) (n:Int):fS:=if 0≤n∧n<a.queues.length then a.queues.getD n.toNat ⟨0,0,0,0⟩else⟨0,0,0,0⟩
def atotalC:Con:=con1 ArN (fun i=>[.nm 0 0,zB i.n]) (fun i=>[jE i.a]) (fun i=>True) (fun i=>zB (i.a.qAt i.n).total) (fun i=>[jE i.a])
def acountC:Con:=con1 ArN (fun i=>[.nm 0 0,zB i.n]) (fun i=>[jE i.a]) (fun i=>True) (fun i=>zB (i.a.qAt i.n).count) (fun i=>[jE i.a])
def bisC:Con:=con1 Int (fun n=>[zB n]) (fun _=>[]) (fun _=>True) (fun n=>yO (decide (n=1)||decide (n=2))) (fun _=>[])
structure BkR where
 b:Book
 r:xL
def Book.told (b:Book) (r:xL):Lv:=⟨r.price,(b.a.qAt r.queue).total,(b.a.qAt r.queue).count⟩
@[reducible] def Book.cntOk (b:Book):Prop:=∀q∈b.a.queues,yR q.count
def toldC:Con:=con1 BkR (fun i=>[.nm 0 0,.agg [zB i.r.price,zB i.r.queue]]) (fun i=>[yC i.b]) (fun i=>i.b.cntOk) (fun i=>lvV (i.b.told i.r)) (fun i=>[yC i.b])
def Book.best (b:Book) (l:List xL):Lv×Bool:=match l with
 |[]=>(⟨0,0,0⟩,false)
 |r::_=>(b.told r,true)
structure BkS where
 side:Bool
 b:Book
def Book.side (b:Book) (s:Bool):List xL:=if s then b.sells else b.buys
@[reducible] def zWr (b:Book) (l:List xL):V:= .tup [lvV (b.best l).1,yO (b.best l).2]
def best1C:Con:=con1 Book (fun _=>[.nm 0 0,zB 1]) (fun b=>[yC b]) Book.cntOk (fun b=>zWr b b.buys) (fun b=>[yC b])
def best2C:Con:=con1 Book (fun _=>[.nm 0 0,zB 2]) (fun b=>[yC b]) Book.cntOk (fun b=>zWr b b.sells) (fun b=>[yC b])
def zA (s:Bool):Int:=if s then 2 else 1
def bestC:Con:=con1 BkS (fun i=>[.nm 0 0,zB (zA i.side)]) (fun i=>[yC i.b]) (fun i=>i.b.cntOk) (fun i=>zWr i.b (i.b.side i.side)) (fun i=>[yC i.b])
structure Top where
 has1:Bool
 has2:Bool
 p1:Int
 p2:Int
 q1:Int
 q2:Int
 deriving DecidableEq
def z6 (t:Top):List D:=[.v (.bool t.has1),.v (.bool t.has2),.v (.int .i64 t.p1),.v (.int .i64 t.p2),.v (.int .i64 t.q1),.v (.int .i64 t.q2)]
def top0:Top:=⟨false,false,0,0,0,0⟩
def Top.buy (t:Top) (x:Lv×Bool):Top:=if x.2 then{t with has1:=true,p1:=x.1.price,q1:=x.1.qty}else t
def Top.sell (t:Top) (x:Lv×Bool):Top:=if x.2 then{t with has2:=true,p2:=x.1.price,q2:=x.1.qty}else t
def Book.top (b:Book):Top:=(top0.buy (b.best b.buys)).sell (b.best b.sells)
def MSt.tops (s:MSt):List Top:=s.books.map Book.top
@[reducible] def MSt.cntOk (s:MSt):Prop:=s.books.length≤1000000∧∀b∈s.books,b.cntOk
def kP (s:MSt) (j:Nat) (x:Top):List Top:=(s.tops.take j)++x::List.replicate (s.books.length-j-1) top0
def j8 (s:MSt) (j:Nat):List Top:=(s.tops.take j)++List.replicate (s.books.length-j) top0
def yOp (s:MSt):List SAnn:=[
 {ι:=Nat,slots:=fun j=>[(3,.own 0),(21,zB j)],rows:=fun j=>[.own 55 6 ((j8 s j).map z6)]},
 {ι:=Unit,slots:=fun _=>[],rows:=fun _=>[],un:=3}]
def yNk (s:MSt):List (Nat×SAnn):=[(15,{ι:=Nat×Top,slots:=fun x=>[(3,.own 0)],slots0:=fun x=>[(3,.own 0)],rows0:=fun x=>[.own 55 6 ((kP s x.1 x.2).map z6)],rows:=fun x=>[.own 55 6 ((kP s x.1 x.2).map z6)]})]
def yMc (s:MSt):List SAnn:=[{ι:=Nat,slots:=fun j=>[(3,.nm 0 0),(22,zB j)],rows:=fun j=>(List.range 5).map (xR ⟨s.p,s.books.take j,s.wh⟩)}]
open Go Cv Go.Proofs
def jA (a:ArN):Prop:=a.a.free=a.a.free∧List.map zR a.a.slots=List.map zR a.a.slots∧List.map zO a.a.queues=List.map zO a.a.queues∧True
def pG (a:ArN):Prop:=∃(b:Unit),(a.a.qAt a.n).total=0∧jA a
def uY (a:ArN):=(↑(List.map zO a.a.queues).length:Int)
def zYs (i:ArN):Prop:=
 cnd (decide (i.n≥0)) (cnd (!decide (i.n<(uY i))) (pG i) ((0≤i.n∧i.n<(uY i))∧∃(a:Int),zF (List.map zO i.a.queues) i.n.toNat ((0:Nat)+(2:Nat)) 1=some [D.v (.int .i64 a)]∧∃(b:Unit),(i.a.qAt i.n).total=a∧jA i)) (pG i)
theorem z5f (hG:GOk Tryz.prog ([])) (h:∀(i:ArN),atotalC.cnd i→zYs i):atotalC.ok Tryz.prog 106:=okw mixed hG 1 (fun _=>[]) (fun _=>[]) [0] Tryz.func106 h
def nD (a:ArN):Prop:=∃(b:Unit),(a.a.qAt a.n).count=0∧jA a
def z0h (i:ArN):Prop:=
 cnd (decide (i.n≥0)) (cnd (!decide (i.n<(uY i))) (nD i) ((0≤i.n∧i.n<(uY i))∧∃(a:Int),zF (List.map zO i.a.queues) i.n.toNat ((0:Nat)+(3:Nat)) 1=some [D.v (.int .i64 a)]∧∃(b:Unit),(i.a.qAt i.n).count=a∧jA i)) (nD i)
theorem z9t (hG:GOk Tryz.prog ([])) (h:∀(i:ArN),acountC.cnd i→z0h i):acountC.ok Tryz.prog 107:=okw mixed hG 1 (fun _=>[]) (fun _=>[]) [0] Tryz.func107 h
def vB (a:Int):=(decide (a=(1:Int))||decide (a=(2:Int)))
def yOm (n:Int):Prop:=
 cnd (n==1) (∃(a:Unit),(vB n)=true∧True) (∃(a:Unit),(vB n)=(n==2)∧True)
theorem yNc (hG:GOk Tryz.prog ([])) (h:∀(n:Int),bisC.cnd n→yOm n):bisC.ok Tryz.prog 80:=okw mixed hG 0 (fun _=>[]) (fun _=>[]) [] Tryz.func80 h
def yNv (i:BkR):Prop:=
 ∃(i_1:ArN),i_1.n=i.r.queue∧AObj.adt Arena 3 zG i_1.a=AObj.adt Arena 3 zG i.b.a∧True∧∀(o:Unit),True→i.r.queue=i.r.queue∧True∧i.r.price=i.r.price∧∃(i_2:ArN),i_2.n=i.r.queue∧AObj.adt Arena 3 zG i_2.a=AObj.adt Arena 3 zG i_1.a∧True∧∀(o:Unit),True→i.r.price=i.r.price∧∃(o:Unit),i.r.price=i.r.price∧(i.b.a.qAt i.r.queue).total=(i_1.a.qAt i_1.n).total∧(i.b.a.qAt i.r.queue).count=(i_2.a.qAt i_2.n).count∧i.b.top1=i.b.top1∧i.b.top2=i.b.top2∧i.b.has1=i.b.has1∧i.b.has2=i.b.has2∧AObj.adt Arena 3 zG i.b.a=AObj.adt Arena 3 zG i_2.a∧List.map zC i.b.buys=List.map zC i.b.buys∧List.map zC i.b.sells=List.map zC i.b.sells∧atE i.b.at_=atE i.b.at_∧iE i.b.spare=iE i.b.spare∧True
theorem yHf (hG:GOk Tryz.prog ([(106,atotalC),(107,acountC)])) (h:∀(i:BkR),toldC.cnd i→yNv i):toldC.ok Tryz.prog 81:=okw mixed hG 0 (fun _=>[]) (fun _=>[]) [0] Tryz.func81 h
def yKw (b:Book):Prop:=
 ∃(i:Int),i=1∧True∧∀(o:Unit),True→cnd (!(decide (i=1)||decide (i=2))) (∃(o:Unit),(b.best b.buys).fst.price=0∧(b.best b.buys).fst.qty=0∧(b.best b.buys).fst.count=0∧(b.best b.buys).snd=false∧b.top1=b.top1∧b.top2=b.top2∧b.has1=b.has1∧b.has2=b.has2∧AObj.adt Arena 3 zG b.a=AObj.adt Arena 3 zG b.a∧List.map zC b.buys=List.map zC b.buys∧List.map zC b.sells=List.map zC b.sells∧atE b.at_=atE b.at_∧iE b.spare=iE b.spare∧True) (cnd ((↑(List.map zC b.buys).length:Int)==0) (∃(o:Unit),(b.best b.buys).fst.price=0∧(b.best b.buys).fst.qty=0∧(b.best b.buys).fst.count=0∧(b.best b.buys).snd=false∧b.top1=b.top1∧b.top2=b.top2∧b.has1=b.has1∧b.has2=b.has2∧AObj.adt Arena 3 zG b.a=AObj.adt Arena 3 zG b.a∧List.map zC b.buys=List.map zC b.buys∧List.map zC b.sells=List.map zC b.sells∧atE b.at_=atE b.at_∧iE b.spare=iE b.spare∧True) (((0:Int)≤(0:Int)∧0<(↑(List.map zC b.buys).length:Int))∧∃(n:Int),∃(n_1:Int),zF (List.map zC b.buys) (Int.toNat 0) 0 2=some [D.v (.int .i64 n),D.v (.int .i64 n_1)]∧∃(i:BkR),i.r.price=n∧i.r.queue=n_1∧i.b.top1=b.top1∧i.b.top2=b.top2∧i.b.has1=b.has1∧i.b.has2=b.has2∧AObj.adt Arena 3 zG i.b.a=AObj.adt Arena 3 zG b.a∧List.map zC i.b.buys=List.map zC b.buys∧List.map zC i.b.sells=List.map zC b.sells∧atE i.b.at_=atE b.at_∧iE i.b.spare=iE b.spare∧(∀(q:fS),q∈i.b.a.queues→(-9223372036854775808)≤q.count∧q.count≤9223372036854775807)∧∀(o:Unit),True→∃(o:Unit),(b.best b.buys).fst.price=i.r.price∧(b.best b.buys).fst.qty=(i.b.a.qAt i.r.queue).total∧(b.best b.buys).fst.count=(i.b.a.qAt i.r.queue).count∧(b.best b.buys).snd=true∧yC b=yC i.b∧True))
theorem yDn (hG:GOk Tryz.prog ([(80,bisC),(81,toldC)])) (h:∀(b:Book),best1C.cnd b→yKw b):best1C.ok Tryz.prog 49:=okw mixed hG 0 (fun _=>[]) (fun _=>[]) [0] Tryz.func49 h
def yKa (b:Book):Prop:=
 ∃(i:Int),i=2∧True∧∀(o:Unit),True→cnd (!(decide (i=1)||decide (i=2))) (∃(o:Unit),(b.best b.sells).fst.price=0∧(b.best b.sells).fst.qty=0∧(b.best b.sells).fst.count=0∧(b.best b.sells).snd=false∧b.top1=b.top1∧b.top2=b.top2∧b.has1=b.has1∧b.has2=b.has2∧AObj.adt Arena 3 zG b.a=AObj.adt Arena 3 zG b.a∧List.map zC b.buys=List.map zC b.buys∧List.map zC b.sells=List.map zC b.sells∧atE b.at_=atE b.at_∧iE b.spare=iE b.spare∧True) (cnd ((↑(List.map zC b.sells).length:Int)==0) (∃(o:Unit),(b.best b.sells).fst.price=0∧(b.best b.sells).fst.qty=0∧(b.best b.sells).fst.count=0∧(b.best b.sells).snd=false∧b.top1=b.top1∧b.top2=b.top2∧b.has1=b.has1∧b.has2=b.has2∧AObj.adt Arena 3 zG b.a=AObj.adt Arena 3 zG b.a∧List.map zC b.buys=List.map zC b.buys∧List.map zC b.sells=List.map zC b.sells∧atE b.at_=atE b.at_∧iE b.spare=iE b.spare∧True) (((0:Int)≤(0:Int)∧0<(↑(List.map zC b.sells).length:Int))∧∃(n:Int),∃(n_1:Int),zF (List.map zC b.sells) (Int.toNat 0) 0 2=some [D.v (.int .i64 n),D.v (.int .i64 n_1)]∧∃(i:BkR),i.r.price=n∧i.r.queue=n_1∧i.b.top1=b.top1∧i.b.top2=b.top2∧i.b.has1=b.has1∧i.b.has2=b.has2∧AObj.adt Arena 3 zG i.b.a=AObj.adt Arena 3 zG b.a∧List.map zC i.b.buys=List.map zC b.buys∧List.map zC i.b.sells=List.map zC b.sells∧atE i.b.at_=atE b.at_∧iE i.b.spare=iE b.spare∧(∀(q:fS),q∈i.b.a.queues→(-9223372036854775808)≤q.count∧q.count≤9223372036854775807)∧∀(o:Unit),True→∃(o:Unit),(b.best b.sells).fst.price=i.r.price∧(b.best b.sells).fst.qty=(i.b.a.qAt i.r.queue).total∧(b.best b.sells).fst.count=(i.b.a.qAt i.r.queue).count∧(b.best b.sells).snd=true∧yC b=yC i.b∧True))
theorem yBi (hG:GOk Tryz.prog ([(80,bisC),(81,toldC)])) (h:∀(b:Book),best2C.cnd b→yKa b):best2C.ok Tryz.prog 49:=okw mixed hG 0 (fun _=>[]) (fun _=>[]) [0] Tryz.func49 h
def yLj (s:MSt):Prop:=
 ∃(i:List (Value×List D)),i=yU s.wh∧True∧∀(o:Unit),True→(sb s.p.code=sb s.p.code∧True∧s.p.tick=s.p.tick∧s.p.low=s.p.low∧s.p.high=s.p.high∧s.p.wide=s.p.wide∧s.p.rule=s.p.rule∧s.p.top=s.p.top∧s.p.least=s.p.least∧s.p.part=s.p.part∧True∧True)∧∃(i0:Nat),(↑i0:Int)=0∧sb s.p.code=sb s.p.code∧s.p.tick=s.p.tick∧s.p.low=s.p.low∧s.p.high=s.p.high∧s.p.wide=s.p.wide∧s.p.rule=s.p.rule∧s.p.top=s.p.top∧s.p.least=s.p.least∧s.p.part=s.p.part∧List.take i0 s.books=[]∧(none:Option Nat)=none∧yU s.wh=i∧AObj.fro 1 (iE s.p.months)=AObj.fro 1 (iE s.p.months)∧AObj.fro 1 (iE s.p.settle)=AObj.fro 1 (iE s.p.settle)∧∃(I:Nat→Prop),∃(μ:Nat→Nat),I i0∧∀(i_1:Nat),I i_1→cnd (decide ((↑i_1:Int)<(↑s.books.length:Int))) ((0≤(↑i_1:Int)∧(↑i_1:Int)<(↑s.books.length:Int))∧(↑i_1:Int).toNat<s.books.length∧∃(x:Book),s.books[(↑i_1:Int).toNat]?=some x∧∃(i_2:Book),yC i_2=yC x∧((i_2.a.slots.length≤1000000∧i_2.a.queues.length≤1000000)∧i_2.buys.length≤1000000∧i_2.sells.length≤1000000∧i_2.spare.length≤1000000)∧∀(o:Unit),True→∃(x:Book),yC i_2=yC x∧(↑i_1:Int).toNat=(↑i_1:Int).toNat∧(↑i_1:Int).toNat<s.books.length∧True∧True∧∃(l1':List Book),AObj.objs 102 Book 6 zS (List.take i_1 s.books) none=AObj.objs 102 Book 6 zS l1' none∧(l1'.length+1)*(8:Nat)≤(70368744177664:Nat)∧∃(i':Nat),(↑i':Int)=IntKind.i64.wrap ((↑i_1:Int)+1)∧sb s.p.code=sb s.p.code∧s.p.tick=s.p.tick∧s.p.low=s.p.low∧s.p.high=s.p.high∧s.p.wide=s.p.wide∧s.p.rule=s.p.rule∧s.p.top=s.p.top∧s.p.least=s.p.least∧s.p.part=s.p.part∧AObj.objs 102 Book 6 zS (List.take i' s.books) none=AObj.objs 102 Book 6 zS (l1'++[i_2]) none∧yU s.wh=yU s.wh∧AObj.fro 1 (iE s.p.months)=AObj.fro 1 (iE s.p.months)∧AObj.fro 1 (iE s.p.settle)=AObj.fro 1 (iE s.p.settle)∧I i'∧μ i'<μ i_1∧Sx.AObj.map i=Sx.AObj.map i∧Sx.AObj.cells (fZ (vF 0 1 5) [sV s.p.code,V.own 3,zB s.p.tick,zB s.p.low,zB s.p.high,zB s.p.wide,zB s.p.rule,zB s.p.top,zB s.p.least,zB s.p.part,V.own 4,V.own 1,V.mp 2]) (101:TypeId)=Sx.AObj.cells (fZ (vF 0 1 5) [sV s.p.code,V.own 3,zB s.p.tick,zB s.p.low,zB s.p.high,zB s.p.wide,zB s.p.rule,zB s.p.top,zB s.p.least,zB s.p.part,V.own 4,V.own 1,V.mp 2]) (101:TypeId)∧AObj.objs 102 Book 6 zS (s.books.set (↑i_1:Int).toNat x) none=AObj.objs 102 Book 6 zS s.books none∧AObj.fro 1 (iE s.p.months)=AObj.fro 1 (iE s.p.months)∧AObj.fro 1 (iE s.p.settle)=AObj.fro 1 (iE s.p.settle)) (∃(o:Unit),sb s.p.code=sb s.p.code∧s.p.tick=s.p.tick∧s.p.low=s.p.low∧s.p.high=s.p.high∧s.p.wide=s.p.wide∧s.p.rule=s.p.rule∧s.p.top=s.p.top∧s.p.least=s.p.least∧s.p.part=s.p.part∧AObj.objs 102 Book 6 zS s.books none=AObj.objs 102 Book 6 zS s.books none∧yU s.wh=i∧AObj.fro 1 (iE s.p.months)=AObj.fro 1 (iE s.p.months)∧AObj.fro 1 (iE s.p.settle)=AObj.fro 1 (iE s.p.settle)∧sb s.p.code=sb s.p.code∧s.p.tick=s.p.tick∧s.p.low=s.p.low∧s.p.high=s.p.high∧s.p.wide=s.p.wide∧s.p.rule=s.p.rule∧s.p.top=s.p.top∧s.p.least=s.p.least∧s.p.part=s.p.part∧AObj.objs 102 Book 6 zS s.books none=AObj.objs 102 Book 6 zS (List.take i_1 s.books) none∧yU s.wh=yU s.wh∧AObj.fro 1 (iE s.p.months)=AObj.fro 1 (iE s.p.months)∧AObj.fro 1 (iE s.p.settle)=AObj.fro 1 (iE s.p.settle)∧True)
theorem yEe (hG:GOk Tryz.prog ([(78,clWhC),(79,copyBC)])) (h:∀(s:MSt),copySC.cnd s→yLj s):copySC.ok Tryz.prog 48:=okw mixed hG 0 (fun _=>[]) (fun s=>yMc s) [0] Tryz.func48 h
open Go Cv Go.Proofs
theorem elA {α:Type} {f:α→List D} {l:List α} {i g n:Nat} {x:α} {r:List D} (h:l[i]? =some x) (hn:g+n≤(f x).length) (hr:((f x).drop g).take n=r):zF (l.map f) i g n=some r:=by
 unfold zF
 rw[List.getElem?_map,h]
 simp only[Option.map_some,Nat.ble_eq_true_of_le hn,cond_true,hr]
theorem zOk {a:Arena} {n:Int} {q:fS} (h0:0≤n) (h:a.queues[n.toNat]? =some q):a.qAt n=q:=by
 have:=(List.getElem?_eq_some_iff.1 h).1
 rw[Arena.qAt,if_pos ⟨h0,by omega⟩,List.getD_eq_getElem?_getD,h];rfl
theorem zEh {a:Arena} {n:Int} (h:¬(0≤n∧n<a.queues.length)):a.qAt n=⟨0,0,0,0⟩:=by rw[Arena.qAt,if_neg h]
theorem z1m:atotalC.ok Tryz.prog 106:=z5f gok0 fun i _=>by
 unfold zYs uY pG jA
 simp only[List.length_map]
 refine zL (fun c=>Cv.cnd.mk (fun d=> ?_) (fun d=> ?_)) (fun c=> ?_)
 ·have d:¬i.n<(i.a.queues.length:Int):=by simpa using d
  rw[zEh (by omega)];exact kp
 ·have d:i.n<(i.a.queues.length:Int):=by simpa using d
  obtain⟨q,hq⟩:=z9 (l:=i.a.queues) (i:=i.n.toNat) (by omega)
  rw[zOk (by omega) hq]
  refine⟨⟨by omega,by omega⟩,q.total,elA hq (by simp[zO]) rfl,?_⟩;exact kp
 ·rw[zEh (by omega)];exact kp
theorem zAi:acountC.ok Tryz.prog 107:=z9t gok0 fun i _=>by
 unfold z0h uY nD jA
 simp only[List.length_map]
 refine zL (fun c=>Cv.cnd.mk (fun d=> ?_) (fun d=> ?_)) (fun c=> ?_)
 ·have d:¬i.n<(i.a.queues.length:Int):=by simpa using d
  rw[zEh (by omega)];exact kp
 ·have d:i.n<(i.a.queues.length:Int):=by simpa using d
  obtain⟨q,hq⟩:=z9 (l:=i.a.queues) (i:=i.n.toNat) (by omega)
  rw[zOk (by omega) hq]
  refine⟨⟨by omega,by omega⟩,q.count,elA hq (by simp[zO]) rfl,?_⟩;exact kp
 ·rw[zEh (by omega)];exact kp
theorem zAt:bisC.ok Tryz.prog 80:=yNc gok0 fun n _=>by
 unfold yOm vB
 refine Cv.cnd.mk (fun c=>⟨(),?_,trivial⟩) (fun c=>⟨(),?_,trivial⟩)
 all_goals simp at c
 ·simp[c]
 ·by_cases h:n=2<;>simp[c,h]
theorem z0r:toldC.ok Tryz.prog 81:=yHf (gokc z1m (gokc zAi gok0)) fun i h=>by
 refine⟨⟨i.b.a,i.r.queue⟩,?_⟩;(repeat'(first|exact rfl|exact trivial|assumption|apply And.intro|refine fun(_:Unit) (_:True)=>?_|refine Exists.intro () ?_|omega|(dsimp only;omega)))
 refine⟨⟨i.b.a,i.r.queue⟩,?_⟩;exact kp
theorem z7n:best1C.ok Tryz.prog 49:=yDn (gokc zAt (gokc z0r gok0)) fun b h=>by
 have h:b.cntOk:=h
 refine⟨1,rfl,trivial,fun _ _=>Cv.cnd.mk (fun c=>absurd c (by decide)) fun _=> ?_⟩
 simp only[List.length_map]
 refine Cv.cnd.mk (fun c=> ?_) (fun c=> ?_)
 ·have hl:b.buys=[]:=List.eq_nil_of_length_eq_zero (by have:(b.buys.length:Int)=0:=(by simpa using c);omega)
  have e:b.best b.buys=(⟨0,0,0⟩,false):=by rw[hl];rfl
  rw[e];exact kp
 ·obtain⟨r,l,hl⟩:∃r l,b.buys=r::l:=by
   cases hb:b.buys with
   |nil=>rw[hb]at c;exact absurd c (by decide)
   |cons r l=>exact⟨r,l,rfl⟩
  have e:b.best b.buys=(b.told r,true):=by rw[hl];rfl
  rw[e]
  refine⟨⟨by omega,by rw[hl,List.length_cons];omega⟩,r.price,r.queue,elA (x:=r) (by rw[hl];rfl) (by simp[zC]) rfl,⟨b,r⟩,?_⟩
  exact kp
theorem z6u:best2C.ok Tryz.prog 49:=yBi (gokc zAt (gokc z0r gok0)) fun b h=>by
 have h:b.cntOk:=h
 refine⟨2,rfl,trivial,fun _ _=>Cv.cnd.mk (fun c=>absurd c (by decide)) fun _=> ?_⟩
 simp only[List.length_map]
 refine Cv.cnd.mk (fun c=> ?_) (fun c=> ?_)
 ·have hl:b.sells=[]:=List.eq_nil_of_length_eq_zero (by have:(b.sells.length:Int)=0:=(by simpa using c);omega)
  have e:b.best b.sells=(⟨0,0,0⟩,false):=by rw[hl];rfl
  rw[e];exact kp
 ·obtain⟨r,l,hl⟩:∃r l,b.sells=r::l:=by
   cases hb:b.sells with
   |nil=>rw[hb]at c;exact absurd c (by decide)
   |cons r l=>exact⟨r,l,rfl⟩
  have e:b.best b.sells=(b.told r,true):=by rw[hl];rfl
  rw[e]
  refine⟨⟨by omega,by rw[hl,List.length_cons];omega⟩,r.price,r.queue,elA (x:=r) (by rw[hl];rfl) (by simp[zC]) rfl,⟨b,r⟩,?_⟩
  exact kp
theorem zOo:bestC.ok Tryz.prog 49:=fun i=>match i with
 |⟨false,b⟩=>z7n b
 |⟨true,b⟩=>z6u b
theorem zGx {α:Type} (f:α→α) (x:α) (b:List α):∀a:List α,(a++x::b).modify a.length f=a++f x::b
 |[]=>rfl
 |y::a=>by
  show y::(a++x::b).modify a.length f=_
  rw[zGx f x b a];rfl
theorem zMg {els:List (List D)} {a b:List (List D)} {x y ds:List D} {j f:Nat} (h:els=a++x::b) (hl:a.length=j) (hy:x.take f++(ds++x.drop (f+ds.length))=y):yB els j f ds=a++y::b:=by
 rw[yB,h,← hl,zGx,hy]
theorem g9 {s:MSt} {j:Nat} {x y:Top} {f:Nat} {ds:List D} (hj:j<s.books.length) (hy:(z6 x).take f++(ds++(z6 x).drop (f+ds.length))=z6 y):
 yB (List.map z6 (kP s j x)) j f ds=List.map z6 (kP s j y):=by
 rw[zMg (a:=(s.tops.take j).map z6) (b:=(List.replicate (s.books.length-j-1) top0).map z6) (by rw[kP,List.map_append,List.map_cons]) (by
  rw[List.length_map,List.length_take,MSt.tops,List.length_map];omega) hy,kP,List.map_append,List.map_cons]
theorem zXo {s:MSt} {j:Nat} {x:Top} (hj:j<s.books.length):(kP s j x).length=s.books.length:=by
 rw[kP,List.length_append,List.length_cons,List.length_take,MSt.tops,List.length_map,List.length_replicate];omega
theorem zPw {s:MSt} {j:Nat} (hj:j<s.books.length):kP s j top0=j8 s j:=by
 rw[kP,j8]
 obtain⟨m,hm⟩:∃m,s.books.length-j=m+1:=⟨s.books.length-j-1,by omega⟩
 rw[hm,List.replicate_succ];rfl
theorem zRv {s:MSt} {j:Nat} {b:Book} (hb:s.books[j]? =some b):kP s j b.top=j8 s (j+1):=by
 have hj:=(List.getElem?_eq_some_iff.1 hb).1
 rw[kP,j8,List.take_add_one,show s.tops[j]? =some b.top by rw[MSt.tops,List.getElem?_map,hb];rfl]
 simp only[Option.toList_some,List.append_assoc,List.cons_append,List.nil_append]
 rw[show s.books.length-j-1=s.books.length-(j+1)by omega]
theorem m9 {α:Type} {l:List α} {j:Nat} {x:α} (h:l[j]? =some x):l.set j x=l:=by
 obtain⟨hj,rfl⟩:=List.getElem?_eq_some_iff.1 h
 exact List.set_getElem_self hj
theorem zIa:copySC.ok Tryz.prog 48:=yEe (gokc yCn (gokc z7x gok0)) fun s h=>by
 obtain⟨h1,h2⟩:s.small:=h
 refine⟨yU s.wh,?_⟩;(repeat'(first|exact rfl|exact trivial|assumption|apply And.intro|refine fun(_:Unit) (_:True)=>?_|refine Exists.intro () ?_|omega|(dsimp only;omega)))
 refine⟨0,?_⟩;(repeat'(first|exact rfl|exact trivial|assumption|apply And.intro|refine fun(_:Unit) (_:True)=>?_|refine Exists.intro () ?_|omega|(dsimp only;omega)))
 refine⟨fun j=>j≤s.books.length,fun j=>s.books.length-j,by omega,fun j hj=>zL (fun hlt=> ?_) (fun hlt=> ?_)⟩
 ·obtain⟨b,hb⟩:=z9 (l:=s.books) (i:=j) (by omega)
  have hs:=h2 b (List.mem_of_getElem? hb)
  simp only[Int.toNat_natCast]
  refine⟨⟨by omega,by omega⟩,by omega,b,hb,b,rfl,hs,fun _ _=>⟨b,rfl,kp,by omega,trivial,trivial,s.books.take j,rfl,?_,j+1,?_⟩⟩
  ·rw[List.length_take];omega
  ·rw[w64 (by omega),List.take_add_one,hb]
   (repeat'(first|exact rfl|exact trivial|assumption|apply And.intro|refine fun(_:Unit) (_:True)=>?_|refine Exists.intro () ?_|omega|(dsimp only;omega)))
   rw[m9 hb]
 ·have hj:j≤s.books.length:=hj
  obtain rfl:j=s.books.length:=by omega
  rw[List.take_of_length_le (Nat.le_refl _)]
  exact kp
open Go Cv Go.Proofs
structure Leg where
 inst:Int
 side:Int
 deriving DecidableEq
structure Quote where
 price:Int
 qty:Int
 a:Leg
 b:Leg
 deriving DecidableEq
def zH (q:Quote):List D:=[.v (.int .i64 q.price),.v (.int .i64 q.qty),.v (.int .i64 q.a.inst),.v (.int .i64 q.a.side),.v (.int .i64 q.b.inst),.v (.int .i64 q.b.side)]
@[reducible] def zUt (q:Quote):V:= .agg [zB q.price,zB q.qty,zB q.a.inst,zB q.a.side,zB q.b.inst,zB q.b.side]
def yMb:Quote:=⟨0,0,⟨0,0⟩,⟨0,0⟩⟩
structure I3' where
 side:Int
 x:Int
 y:Int
def btr (side x y:Int):Bool:=if side=1 then decide (y<x)else decide (x<y)
def iotherC:Con:=con1 Int (fun n=>[zB n]) (fun _=>[]) (fun n=>n=1∨n=2) (fun n=>zB (3-n)) (fun _=>[])
def ibetterC:Con:=con1 I3' (fun i=>[zB i.side,zB i.x,zB i.y]) (fun _=>[]) (fun _=>True) (fun i=>yO (btr i.side i.x i.y)) (fun _=>[])
structure CrI where
 x:Int
 y:Int
 b:Bool
def Top.has (t:Top) (s:Int):Bool:=if s=1 then t.has1 else t.has2
def Top.price (t:Top) (s:Int):Int:=if s=1 then t.p1 else t.p2
def Top.qty (t:Top) (s:Int):Int:=if s=1 then t.q1 else t.q2
def mkq (tops:List Top) (a b:Leg) (less:Bool):List Quote:=
 let x:=tops.getD a.inst.toNat top0
 let y:=tops.getD b.inst.toNat top0
 let r:=if less then uA (y.price b.side) (x.price a.side)else uF (x.price a.side) (y.price b.side)
 if x.has a.side && y.has b.side && r.2 then[⟨r.1,min (x.qty a.side) (y.qty b.side),a,b⟩]else[]
structure MkI where
 tops:List Top
 out:List Quote
 a:Int
 b:Int
 less:Bool
@[reducible] def wU (l:List Top):Prop:=l.length≤1000000∧∀t∈l,yR t.p1∧yR t.p2
def MkU (x:List Top×List Quote):Nat→AObj
 |0=> .cells [.own 1,.own 2] 110
 |1=> .fro 6 (x.1.map z6)
 |2=> .own 62 6 (x.2.map zH)
 |_=> .gone
@[reducible] def MkR (tops:List Top) (out:List Quote):List AObj:=[MkU (tops,out) 0,MkU (tops,out) 1,MkU (tops,out) 2]
@[reducible] def MkP (tops:List Top) (out:List Quote):List AObj:=[.cells [.own 1,.own 3] 110,MkU (tops,out) 1,.gone,MkU (tops,out) 2]
def mkC (sa sb:Int):Con:=con1 MkI (fun i=>[.nm 0 0,.agg [zB i.a,zB sa],.agg [zB i.b,zB sb],yO i.less]) (fun i=>MkR i.tops i.out)
 (fun i=>0≤i.a∧i.a<i.tops.length∧0≤i.b∧i.b<i.tops.length∧wU i.tops∧i.out.length≤1000) (fun _=>zQi) (fun i=>MkP i.tops (i.out++mkq i.tops ⟨i.a,sa⟩ ⟨i.b,sb⟩ i.less))
def mk11:Con:=mkC 1 1
def mk12:Con:=mkC 1 2
def mk21:Con:=mkC 2 1
def mk22:Con:=mkC 2 2
open Go Cv Go.Proofs
def yDt (n:Int):Prop:=
 ∃(o:Unit),3-n=IntKind.i64.wrap (3-n)∧True
theorem z7t (hG:GOk Tryz.prog ([])) (h:∀(n:Int),iotherC.cnd n→yDt n):iotherC.ok Tryz.prog 52:=okw mixed hG 0 (fun _=>[]) (fun _=>[]) [] Tryz.func52 h
def z7g (i:I3'):Prop:=
 cnd (i.side==1) (∃(o:Unit),btr i.side i.x i.y=decide (i.x>i.y)∧True) (∃(o:Unit),btr i.side i.x i.y=decide (i.x<i.y)∧True)
theorem z2n (hG:GOk Tryz.prog ([])) (h:∀(i:I3'),ibetterC.cnd i→z7g i):ibetterC.ok Tryz.prog 94:=okw mixed hG 0 (fun _=>[]) (fun _=>[]) [] Tryz.func94 h
def pL (a:MkI):=(a.out++mkq a.tops (Leg.mk a.a (1:Int)) (Leg.mk a.b (1:Int)) a.less)
def bL (a:MkI):Prop:=∃(b:Unit),AObj.fro 6 (List.map z6 a.tops)=MkU (a.tops,a.out) 1∧List.map zH (pL a)=List.map zH a.out∧True
def kV (a:I2):Prop:=((-9223372036854775808)≤a.x∧a.x≤9223372036854775807)∧(-9223372036854775808)≤a.y∧a.y≤9223372036854775807
def qU (a:MkI):=(↑(List.map z6 a.tops).length:Int)
def x9 (a:MkI):Prop:=(0≤a.b∧a.b<(qU a))∧a.b.toNat=a.b.toNat
def kT (a:MkI):Prop:=(0≤a.a∧a.a<(qU a))∧a.a.toNat=a.a.toNat
def kW (a:MkI):=((List.map zH a.out).length+(1:Nat))
def zJa (a:MkI) (b:Bool) (c:Bool) (d:Int) (e:Int) (f:Int) (g:Int):Prop:=True∧(x9 a)∧a.b=a.b∧True∧True∧(kT a)∧a.a=a.a∧True∧True∧(x9 a)∧a.b=a.b∧True∧True∧(kT a)∧a.a=a.a∧True∧True∧(x9 a)∧a.b=a.b∧True∧cnd (!b) (bL a) (cnd (!c) (bL a) (∃(h:I2),h.x=d∧h.y=e∧(kV h)∧∀(j:Unit),True→cnd a.less (∃(k:I2),k.x=e∧k.y=d∧(kV k)∧∀(l:Unit),True→cnd (uA k.x k.y).snd (True∧(kW a)*(48:Nat)≤(70368744177664:Nat)∧∃(m:Unit),AObj.fro 6 (List.map z6 a.tops)=MkU (a.tops,a.out) 1∧List.map zH (pL a)=List.map zH a.out++[[D.v (.int .i64 (uA k.x k.y).fst),D.v (.int .i64 (min f g)),D.v (.int .i64 a.a),D.v (.int .i64 1),D.v (.int .i64 a.b),D.v (.int .i64 1)]]∧True) (bL a)) (cnd (uF h.x h.y).snd (True∧(kW a)*(48:Nat)≤(70368744177664:Nat)∧∃(k:Unit),AObj.fro 6 (List.map z6 a.tops)=MkU (a.tops,a.out) 1∧List.map zH (pL a)=List.map zH a.out++[[D.v (.int .i64 (uF h.x h.y).fst),D.v (.int .i64 (min f g)),D.v (.int .i64 a.a),D.v (.int .i64 1),D.v (.int .i64 a.b),D.v (.int .i64 1)]]∧True) (bL a))))
def z9s (i:MkI):Prop:=
 (0≤i.a∧i.a<(qU i))∧∃(a:Bool),∃(b:Bool),∃(c:Int),∃(d:Int),∃(e:Int),∃(f:Int),zF (List.map z6 i.tops) i.a.toNat 0 6=some [D.v (.bool a),D.v (.bool b),D.v (.int .i64 c),D.v (.int .i64 d),D.v (.int .i64 e),D.v (.int .i64 f)]∧(0≤i.b∧i.b<(qU i))∧∃(g:Bool),∃(h:Bool),∃(j:Int),∃(k:Int),∃(l:Int),∃(m:Int),zF (List.map z6 i.tops) i.b.toNat 0 6=some [D.v (.bool g),D.v (.bool h),D.v (.int .i64 j),D.v (.int .i64 k),D.v (.int .i64 l),D.v (.int .i64 m)]∧(zJa i a g c j e l)∧zJa i a g c j e l
theorem yMh (hG:GOk Tryz.prog ([(87,addC),(88,subC)])) (h:∀(i:MkI),mk11.cnd i→z9s i):mk11.ok Tryz.prog 53:=okw mixed hG 0 (fun _=>[]) (fun _=>[]) [] Tryz.func53 h
def p8 (a:MkI):=(a.out++mkq a.tops (Leg.mk a.a (1:Int)) (Leg.mk a.b (2:Int)) a.less)
def bC (a:MkI):Prop:=∃(b:Unit),AObj.fro 6 (List.map z6 a.tops)=MkU (a.tops,a.out) 1∧List.map zH (p8 a)=List.map zH a.out∧True
def zFv (a:MkI) (b:Bool) (c:Bool) (d:Int) (e:Int) (f:Int) (g:Int):Prop:=True∧(x9 a)∧a.b=a.b∧True∧True∧(kT a)∧a.a=a.a∧True∧True∧(x9 a)∧a.b=a.b∧True∧True∧(kT a)∧a.a=a.a∧True∧True∧(x9 a)∧a.b=a.b∧True∧cnd (!b) (bC a) (cnd (!c) (bC a) (∃(h:I2),h.x=d∧h.y=e∧(kV h)∧∀(j:Unit),True→cnd a.less (∃(k:I2),k.x=e∧k.y=d∧(kV k)∧∀(l:Unit),True→cnd (uA k.x k.y).snd (True∧(kW a)*(48:Nat)≤(70368744177664:Nat)∧∃(m:Unit),AObj.fro 6 (List.map z6 a.tops)=MkU (a.tops,a.out) 1∧List.map zH (p8 a)=List.map zH a.out++[[D.v (.int .i64 (uA k.x k.y).fst),D.v (.int .i64 (min f g)),D.v (.int .i64 a.a),D.v (.int .i64 1),D.v (.int .i64 a.b),D.v (.int .i64 2)]]∧True) (bC a)) (cnd (uF h.x h.y).snd (True∧(kW a)*(48:Nat)≤(70368744177664:Nat)∧∃(k:Unit),AObj.fro 6 (List.map z6 a.tops)=MkU (a.tops,a.out) 1∧List.map zH (p8 a)=List.map zH a.out++[[D.v (.int .i64 (uF h.x h.y).fst),D.v (.int .i64 (min f g)),D.v (.int .i64 a.a),D.v (.int .i64 1),D.v (.int .i64 a.b),D.v (.int .i64 2)]]∧True) (bC a))))
def z6r (i:MkI):Prop:=
 (0≤i.a∧i.a<(qU i))∧∃(a:Bool),∃(b:Bool),∃(c:Int),∃(d:Int),∃(e:Int),∃(f:Int),zF (List.map z6 i.tops) i.a.toNat 0 6=some [D.v (.bool a),D.v (.bool b),D.v (.int .i64 c),D.v (.int .i64 d),D.v (.int .i64 e),D.v (.int .i64 f)]∧(0≤i.b∧i.b<(qU i))∧∃(g:Bool),∃(h:Bool),∃(j:Int),∃(k:Int),∃(l:Int),∃(m:Int),zF (List.map z6 i.tops) i.b.toNat 0 6=some [D.v (.bool g),D.v (.bool h),D.v (.int .i64 j),D.v (.int .i64 k),D.v (.int .i64 l),D.v (.int .i64 m)]∧(zFv i a h c k e m)∧zFv i a h c k e m
theorem yIl (hG:GOk Tryz.prog ([(87,addC),(88,subC)])) (h:∀(i:MkI),mk12.cnd i→z6r i):mk12.ok Tryz.prog 53:=okw mixed hG 0 (fun _=>[]) (fun _=>[]) [] Tryz.func53 h
def pP (a:MkI):=(a.out++mkq a.tops (Leg.mk a.a (2:Int)) (Leg.mk a.b (1:Int)) a.less)
def bP (a:MkI):Prop:=∃(b:Unit),AObj.fro 6 (List.map z6 a.tops)=MkU (a.tops,a.out) 1∧List.map zH (pP a)=List.map zH a.out∧True
def zNn (a:MkI) (b:Bool) (c:Bool) (d:Int) (e:Int) (f:Int) (g:Int):Prop:=True∧(x9 a)∧a.b=a.b∧True∧True∧(kT a)∧a.a=a.a∧True∧True∧(x9 a)∧a.b=a.b∧True∧True∧(kT a)∧a.a=a.a∧True∧True∧(x9 a)∧a.b=a.b∧True∧cnd (!b) (bP a) (cnd (!c) (bP a) (∃(h:I2),h.x=d∧h.y=e∧(kV h)∧∀(j:Unit),True→cnd a.less (∃(k:I2),k.x=e∧k.y=d∧(kV k)∧∀(l:Unit),True→cnd (uA k.x k.y).snd (True∧(kW a)*(48:Nat)≤(70368744177664:Nat)∧∃(m:Unit),AObj.fro 6 (List.map z6 a.tops)=MkU (a.tops,a.out) 1∧List.map zH (pP a)=List.map zH a.out++[[D.v (.int .i64 (uA k.x k.y).fst),D.v (.int .i64 (min f g)),D.v (.int .i64 a.a),D.v (.int .i64 2),D.v (.int .i64 a.b),D.v (.int .i64 1)]]∧True) (bP a)) (cnd (uF h.x h.y).snd (True∧(kW a)*(48:Nat)≤(70368744177664:Nat)∧∃(k:Unit),AObj.fro 6 (List.map z6 a.tops)=MkU (a.tops,a.out) 1∧List.map zH (pP a)=List.map zH a.out++[[D.v (.int .i64 (uF h.x h.y).fst),D.v (.int .i64 (min f g)),D.v (.int .i64 a.a),D.v (.int .i64 2),D.v (.int .i64 a.b),D.v (.int .i64 1)]]∧True) (bP a))))
def z6y (i:MkI):Prop:=
 (0≤i.a∧i.a<(qU i))∧∃(a:Bool),∃(b:Bool),∃(c:Int),∃(d:Int),∃(e:Int),∃(f:Int),zF (List.map z6 i.tops) i.a.toNat 0 6=some [D.v (.bool a),D.v (.bool b),D.v (.int .i64 c),D.v (.int .i64 d),D.v (.int .i64 e),D.v (.int .i64 f)]∧(0≤i.b∧i.b<(qU i))∧∃(g:Bool),∃(h:Bool),∃(j:Int),∃(k:Int),∃(l:Int),∃(m:Int),zF (List.map z6 i.tops) i.b.toNat 0 6=some [D.v (.bool g),D.v (.bool h),D.v (.int .i64 j),D.v (.int .i64 k),D.v (.int .i64 l),D.v (.int .i64 m)]∧(zNn i b g d j f l)∧zNn i b g d j f l
theorem yMw (hG:GOk Tryz.prog ([(87,addC),(88,subC)])) (h:∀(i:MkI),mk21.cnd i→z6y i):mk21.ok Tryz.prog 53:=okw mixed hG 0 (fun _=>[]) (fun _=>[]) [] Tryz.func53 h
def rH (a:MkI):=(a.out++mkq a.tops (Leg.mk a.a (2:Int)) (Leg.mk a.b (2:Int)) a.less)
def bH (a:MkI):Prop:=∃(b:Unit),AObj.fro 6 (List.map z6 a.tops)=MkU (a.tops,a.out) 1∧List.map zH (rH a)=List.map zH a.out∧True
def zOf (a:MkI) (b:Bool) (c:Bool) (d:Int) (e:Int) (f:Int) (g:Int):Prop:=True∧(x9 a)∧a.b=a.b∧True∧True∧(kT a)∧a.a=a.a∧True∧True∧(x9 a)∧a.b=a.b∧True∧True∧(kT a)∧a.a=a.a∧True∧True∧(x9 a)∧a.b=a.b∧True∧cnd (!b) (bH a) (cnd (!c) (bH a) (∃(h:I2),h.x=d∧h.y=e∧(kV h)∧∀(j:Unit),True→cnd a.less (∃(k:I2),k.x=e∧k.y=d∧(kV k)∧∀(l:Unit),True→cnd (uA k.x k.y).snd (True∧(kW a)*(48:Nat)≤(70368744177664:Nat)∧∃(m:Unit),AObj.fro 6 (List.map z6 a.tops)=MkU (a.tops,a.out) 1∧List.map zH (rH a)=List.map zH a.out++[[D.v (.int .i64 (uA k.x k.y).fst),D.v (.int .i64 (min f g)),D.v (.int .i64 a.a),D.v (.int .i64 2),D.v (.int .i64 a.b),D.v (.int .i64 2)]]∧True) (bH a)) (cnd (uF h.x h.y).snd (True∧(kW a)*(48:Nat)≤(70368744177664:Nat)∧∃(k:Unit),AObj.fro 6 (List.map z6 a.tops)=MkU (a.tops,a.out) 1∧List.map zH (rH a)=List.map zH a.out++[[D.v (.int .i64 (uF h.x h.y).fst),D.v (.int .i64 (min f g)),D.v (.int .i64 a.a),D.v (.int .i64 2),D.v (.int .i64 a.b),D.v (.int .i64 2)]]∧True) (bH a))))
def z8h (i:MkI):Prop:=
 (0≤i.a∧i.a<(qU i))∧∃(a:Bool),∃(b:Bool),∃(c:Int),∃(d:Int),∃(e:Int),∃(f:Int),zF (List.map z6 i.tops) i.a.toNat 0 6=some [D.v (.bool a),D.v (.bool b),D.v (.int .i64 c),D.v (.int .i64 d),D.v (.int .i64 e),D.v (.int .i64 f)]∧(0≤i.b∧i.b<(qU i))∧∃(g:Bool),∃(h:Bool),∃(j:Int),∃(k:Int),∃(l:Int),∃(m:Int),zF (List.map z6 i.tops) i.b.toNat 0 6=some [D.v (.bool g),D.v (.bool h),D.v (.int .i64 j),D.v (.int .i64 k),D.v (.int .i64 l),D.v (.int .i64 m)]∧(zOf i b h d k f m)∧zOf i b h d k f m
theorem yKe (hG:GOk Tryz.prog ([(87,addC),(88,subC)])) (h:∀(i:MkI),mk22.cnd i→z8h i):mk22.ok Tryz.prog 53:=okw mixed hG 0 (fun _=>[]) (fun _=>[]) [] Tryz.func53 h
open Go Cv Go.Proofs
theorem zJu:iotherC.ok Tryz.prog 52:=z7t gok0 fun n h=>by
 have h:n=1∨n=2:=h
 refine⟨(),?_,trivial⟩
 rw[w64 (by omega)]
theorem zVq:ibetterC.ok Tryz.prog 94:=z2n gok0 fun i _=>by
 refine Cv.cnd.mk (fun e=>⟨(),?_,trivial⟩) (fun e=>⟨(),?_,trivial⟩)
 ·have e:i.side=1:=by simpa using e
  simp[btr,e]
 ·have e:i.side≠1:=by simpa using e
  simp[btr,e]
theorem yCd (a b:Int):(if b<a then b else a)=min a b:=by split<;>omega
theorem yNs (i:MkI) (h:mk11.cnd i):z9s i:=by
 obtain⟨a0,a1,b0,b1,⟨ht,hp⟩,ho⟩:0≤i.a∧i.a<i.tops.length∧0≤i.b∧i.b<i.tops.length∧wU i.tops∧i.out.length≤1000:=h
 obtain⟨x,hx⟩:=z9 (l:=i.tops) (i:=i.a.toNat) (by omega)
 obtain⟨y,hy⟩:=z9 (l:=i.tops) (i:=i.b.toNat) (by omega)
 obtain⟨⟨px1,px2⟩,px3,px4⟩:=hp x (List.mem_of_getElem? hx)
 obtain⟨⟨py1,py2⟩,py3,py4⟩:=hp y (List.mem_of_getElem? hy)
 have e0:mkq i.tops ⟨i.a,1⟩ ⟨i.b,1⟩ i.less=if x.has1 && y.has1 && (if i.less then uA y.p1 x.p1 else uF x.p1 y.p1).2 then[⟨(if i.less then uA y.p1 x.p1 else uF x.p1 y.p1).1,min x.q1 y.q1,⟨i.a,1⟩,⟨i.b,1⟩⟩]else[]:=by
  simp only[mkq,List.getD_eq_getElem?_getD,hx,hy,Option.getD_some];rfl
 unfold z9s zJa kW kT x9 qU kV bL pL
 simp only[List.length_map]
 refine⟨⟨by omega,by omega⟩,x.has1,x.has2,x.p1,x.p2,x.q1,x.q2,elA hx (by simp[z6]) rfl,⟨by omega,by omega⟩,y.has1,y.has2,y.p1,y.p2,y.q1,y.q2,elA hy (by simp[z6]) rfl,?_⟩
 rw[e0]
 (repeat'(first|exact rfl|exact trivial|assumption|apply And.intro|refine fun(_:Unit) (_:True)=>?_|refine Exists.intro () ?_|omega|(dsimp only;omega)))
 all_goals
  refine Cv.cnd.mk (fun c1=> ?_) (fun c1=>Cv.cnd.mk (fun c2=> ?_) (fun c2=> ?_))
  ·have c1:x.has1=false:=by simpa using c1
   simp only[c1,Bool.false_and,Bool.false_eq_true,if_false,List.append_nil];exact kp
  ·have c2:y.has1=false:=by simpa using c2
   simp only[c2,Bool.and_false,Bool.false_and,Bool.false_eq_true,if_false,List.append_nil];exact kp
  ·have c1:x.has1=true:=by simpa using c1
   have c2:y.has1=true:=by simpa using c2
   simp only[c1,c2,Bool.true_and,yCd]
   refine⟨⟨x.p1,y.p1⟩,?_⟩
   (repeat'(first|exact rfl|exact trivial|assumption|apply And.intro|refine fun(_:Unit) (_:True)=>?_|refine Exists.intro () ?_|omega|(dsimp only;omega)))
   refine Cv.cnd.mk (fun c3=> ?_) (fun c3=> ?_)
   ·have c3:i.less=true:=c3
    simp only[c3,if_true]
    refine⟨⟨y.p1,x.p1⟩,?_⟩
    (repeat'(first|exact rfl|exact trivial|assumption|apply And.intro|refine fun(_:Unit) (_:True)=>?_|refine Exists.intro () ?_|omega|(dsimp only;omega)))
    refine Cv.cnd.mk (fun c4=> ?_) (fun c4=> ?_)
    ·have c4:(uA y.p1 x.p1).2=true:=c4
     simp only[c4,if_true,List.map_append];exact kp
    ·have c4:(uA y.p1 x.p1).2=false:=c4
     simp only[c4,Bool.false_eq_true,if_false,List.append_nil];exact kp
   ·have c3:i.less=false:=c3
    simp only[c3,Bool.false_eq_true,if_false]
    refine Cv.cnd.mk (fun c4=> ?_) (fun c4=> ?_)
    ·have c4:(uF x.p1 y.p1).2=true:=c4
     simp only[c4,if_true,List.map_append];exact kp
    ·have c4:(uF x.p1 y.p1).2=false:=c4
     simp only[c4,Bool.false_eq_true,if_false,List.append_nil];exact kp
theorem yDk:mk11.ok Tryz.prog 53:=yMh (gokc zMp (gokc zOw gok0)) yNs
theorem yOu (i:MkI) (h:mk12.cnd i):z6r i:=by
 obtain⟨a0,a1,b0,b1,⟨ht,hp⟩,ho⟩:0≤i.a∧i.a<i.tops.length∧0≤i.b∧i.b<i.tops.length∧wU i.tops∧i.out.length≤1000:=h
 obtain⟨x,hx⟩:=z9 (l:=i.tops) (i:=i.a.toNat) (by omega)
 obtain⟨y,hy⟩:=z9 (l:=i.tops) (i:=i.b.toNat) (by omega)
 obtain⟨⟨px1,px2⟩,px3,px4⟩:=hp x (List.mem_of_getElem? hx)
 obtain⟨⟨py1,py2⟩,py3,py4⟩:=hp y (List.mem_of_getElem? hy)
 have e0:mkq i.tops ⟨i.a,1⟩ ⟨i.b,2⟩ i.less=if x.has1 && y.has2 && (if i.less then uA y.p2 x.p1 else uF x.p1 y.p2).2 then[⟨(if i.less then uA y.p2 x.p1 else uF x.p1 y.p2).1,min x.q1 y.q2,⟨i.a,1⟩,⟨i.b,2⟩⟩]else[]:=by
  simp only[mkq,List.getD_eq_getElem?_getD,hx,hy,Option.getD_some];rfl
 unfold z6r zFv bC p8 kW kT x9 kV qU
 simp only[List.length_map]
 refine⟨⟨by omega,by omega⟩,x.has1,x.has2,x.p1,x.p2,x.q1,x.q2,elA hx (by simp[z6]) rfl,⟨by omega,by omega⟩,y.has1,y.has2,y.p1,y.p2,y.q1,y.q2,elA hy (by simp[z6]) rfl,?_⟩
 rw[e0]
 (repeat'(first|exact rfl|exact trivial|assumption|apply And.intro|refine fun(_:Unit) (_:True)=>?_|refine Exists.intro () ?_|omega|(dsimp only;omega)))
 all_goals
  refine Cv.cnd.mk (fun c1=> ?_) (fun c1=>Cv.cnd.mk (fun c2=> ?_) (fun c2=> ?_))
  ·have c1:x.has1=false:=by simpa using c1
   simp only[c1,Bool.false_and,Bool.false_eq_true,if_false,List.append_nil];exact kp
  ·have c2:y.has2=false:=by simpa using c2
   simp only[c2,Bool.and_false,Bool.false_and,Bool.false_eq_true,if_false,List.append_nil];exact kp
  ·have c1:x.has1=true:=by simpa using c1
   have c2:y.has2=true:=by simpa using c2
   simp only[c1,c2,Bool.true_and,yCd]
   refine⟨⟨x.p1,y.p2⟩,?_⟩
   (repeat'(first|exact rfl|exact trivial|assumption|apply And.intro|refine fun(_:Unit) (_:True)=>?_|refine Exists.intro () ?_|omega|(dsimp only;omega)))
   refine Cv.cnd.mk (fun c3=> ?_) (fun c3=> ?_)
   ·have c3:i.less=true:=c3
    simp only[c3,if_true]
    refine⟨⟨y.p2,x.p1⟩,?_⟩
    (repeat'(first|exact rfl|exact trivial|assumption|apply And.intro|refine fun(_:Unit) (_:True)=>?_|refine Exists.intro () ?_|omega|(dsimp only;omega)))
    refine Cv.cnd.mk (fun c4=> ?_) (fun c4=> ?_)
    ·have c4:(uA y.p2 x.p1).2=true:=c4
     simp only[c4,if_true,List.map_append];exact kp
    ·have c4:(uA y.p2 x.p1).2=false:=c4
     simp only[c4,Bool.false_eq_true,if_false,List.append_nil];exact kp
   ·have c3:i.less=false:=c3
    simp only[c3,Bool.false_eq_true,if_false]
    refine Cv.cnd.mk (fun c4=> ?_) (fun c4=> ?_)
    ·have c4:(uF x.p1 y.p2).2=true:=c4
     simp only[c4,if_true,List.map_append];exact kp
    ·have c4:(uF x.p1 y.p2).2=false:=c4
     simp only[c4,Bool.false_eq_true,if_false,List.append_nil];exact kp
theorem yEt:mk12.ok Tryz.prog 53:=yIl (gokc zMp (gokc zOw gok0)) yOu
theorem yOb (i:MkI) (h:mk21.cnd i):z6y i:=by
 obtain⟨a0,a1,b0,b1,⟨ht,hp⟩,ho⟩:0≤i.a∧i.a<i.tops.length∧0≤i.b∧i.b<i.tops.length∧wU i.tops∧i.out.length≤1000:=h
 obtain⟨x,hx⟩:=z9 (l:=i.tops) (i:=i.a.toNat) (by omega)
 obtain⟨y,hy⟩:=z9 (l:=i.tops) (i:=i.b.toNat) (by omega)
 obtain⟨⟨px1,px2⟩,px3,px4⟩:=hp x (List.mem_of_getElem? hx)
 obtain⟨⟨py1,py2⟩,py3,py4⟩:=hp y (List.mem_of_getElem? hy)
 have e0:mkq i.tops ⟨i.a,2⟩ ⟨i.b,1⟩ i.less=if x.has2 && y.has1 && (if i.less then uA y.p1 x.p2 else uF x.p2 y.p1).2 then[⟨(if i.less then uA y.p1 x.p2 else uF x.p2 y.p1).1,min x.q2 y.q1,⟨i.a,2⟩,⟨i.b,1⟩⟩]else[]:=by
  simp only[mkq,List.getD_eq_getElem?_getD,hx,hy,Option.getD_some];rfl
 unfold z6y zNn bP pP kW kT x9 kV qU
 simp only[List.length_map]
 refine⟨⟨by omega,by omega⟩,x.has1,x.has2,x.p1,x.p2,x.q1,x.q2,elA hx (by simp[z6]) rfl,⟨by omega,by omega⟩,y.has1,y.has2,y.p1,y.p2,y.q1,y.q2,elA hy (by simp[z6]) rfl,?_⟩
 rw[e0]
 (repeat'(first|exact rfl|exact trivial|assumption|apply And.intro|refine fun(_:Unit) (_:True)=>?_|refine Exists.intro () ?_|omega|(dsimp only;omega)))
 all_goals
  refine Cv.cnd.mk (fun c1=> ?_) (fun c1=>Cv.cnd.mk (fun c2=> ?_) (fun c2=> ?_))
  ·have c1:x.has2=false:=by simpa using c1
   simp only[c1,Bool.false_and,Bool.false_eq_true,if_false,List.append_nil];exact kp
  ·have c2:y.has1=false:=by simpa using c2
   simp only[c2,Bool.and_false,Bool.false_and,Bool.false_eq_true,if_false,List.append_nil];exact kp
  ·have c1:x.has2=true:=by simpa using c1
   have c2:y.has1=true:=by simpa using c2
   simp only[c1,c2,Bool.true_and,yCd]
   refine⟨⟨x.p2,y.p1⟩,?_⟩
   (repeat'(first|exact rfl|exact trivial|assumption|apply And.intro|refine fun(_:Unit) (_:True)=>?_|refine Exists.intro () ?_|omega|(dsimp only;omega)))
   refine Cv.cnd.mk (fun c3=> ?_) (fun c3=> ?_)
   ·have c3:i.less=true:=c3
    simp only[c3,if_true]
    refine⟨⟨y.p1,x.p2⟩,?_⟩
    (repeat'(first|exact rfl|exact trivial|assumption|apply And.intro|refine fun(_:Unit) (_:True)=>?_|refine Exists.intro () ?_|omega|(dsimp only;omega)))
    refine Cv.cnd.mk (fun c4=> ?_) (fun c4=> ?_)
    ·have c4:(uA y.p1 x.p2).2=true:=c4
     simp only[c4,if_true,List.map_append];exact kp
    ·have c4:(uA y.p1 x.p2).2=false:=c4
     simp only[c4,Bool.false_eq_true,if_false,List.append_nil];exact kp
   ·have c3:i.less=false:=c3
    simp only[c3,Bool.false_eq_true,if_false]
    refine Cv.cnd.mk (fun c4=> ?_) (fun c4=> ?_)
    ·have c4:(uF x.p2 y.p1).2=true:=c4
     simp only[c4,if_true,List.map_append];exact kp
    ·have c4:(uF x.p2 y.p1).2=false:=c4
     simp only[c4,Bool.false_eq_true,if_false,List.append_nil];exact kp
theorem yBv:mk21.ok Tryz.prog 53:=yMw (gokc zMp (gokc zOw gok0)) yOb
theorem yOx (i:MkI) (h:mk22.cnd i):z8h i:=by
 obtain⟨a0,a1,b0,b1,⟨ht,hp⟩,ho⟩:0≤i.a∧i.a<i.tops.length∧0≤i.b∧i.b<i.tops.length∧wU i.tops∧i.out.length≤1000:=h
 obtain⟨x,hx⟩:=z9 (l:=i.tops) (i:=i.a.toNat) (by omega)
 obtain⟨y,hy⟩:=z9 (l:=i.tops) (i:=i.b.toNat) (by omega)
 obtain⟨⟨px1,px2⟩,px3,px4⟩:=hp x (List.mem_of_getElem? hx)
 obtain⟨⟨py1,py2⟩,py3,py4⟩:=hp y (List.mem_of_getElem? hy)
 have e0:mkq i.tops ⟨i.a,2⟩ ⟨i.b,2⟩ i.less=if x.has2 && y.has2 && (if i.less then uA y.p2 x.p2 else uF x.p2 y.p2).2 then[⟨(if i.less then uA y.p2 x.p2 else uF x.p2 y.p2).1,min x.q2 y.q2,⟨i.a,2⟩,⟨i.b,2⟩⟩]else[]:=by
  simp only[mkq,List.getD_eq_getElem?_getD,hx,hy,Option.getD_some];rfl
 unfold z8h zOf bH rH kW kT x9 kV qU
 simp only[List.length_map]
 refine⟨⟨by omega,by omega⟩,x.has1,x.has2,x.p1,x.p2,x.q1,x.q2,elA hx (by simp[z6]) rfl,⟨by omega,by omega⟩,y.has1,y.has2,y.p1,y.p2,y.q1,y.q2,elA hy (by simp[z6]) rfl,?_⟩
 rw[e0]
 (repeat'(first|exact rfl|exact trivial|assumption|apply And.intro|refine fun(_:Unit) (_:True)=>?_|refine Exists.intro () ?_|omega|(dsimp only;omega)))
 all_goals
  refine Cv.cnd.mk (fun c1=> ?_) (fun c1=>Cv.cnd.mk (fun c2=> ?_) (fun c2=> ?_))
  ·have c1:x.has2=false:=by simpa using c1
   simp only[c1,Bool.false_and,Bool.false_eq_true,if_false,List.append_nil];exact kp
  ·have c2:y.has2=false:=by simpa using c2
   simp only[c2,Bool.and_false,Bool.false_and,Bool.false_eq_true,if_false,List.append_nil];exact kp
  ·have c1:x.has2=true:=by simpa using c1
   have c2:y.has2=true:=by simpa using c2
   simp only[c1,c2,Bool.true_and,yCd]
   refine⟨⟨x.p2,y.p2⟩,?_⟩
   (repeat'(first|exact rfl|exact trivial|assumption|apply And.intro|refine fun(_:Unit) (_:True)=>?_|refine Exists.intro () ?_|omega|(dsimp only;omega)))
   refine Cv.cnd.mk (fun c3=> ?_) (fun c3=> ?_)
   ·have c3:i.less=true:=c3
    simp only[c3,if_true]
    refine⟨⟨y.p2,x.p2⟩,?_⟩
    (repeat'(first|exact rfl|exact trivial|assumption|apply And.intro|refine fun(_:Unit) (_:True)=>?_|refine Exists.intro () ?_|omega|(dsimp only;omega)))
    refine Cv.cnd.mk (fun c4=> ?_) (fun c4=> ?_)
    ·have c4:(uA y.p2 x.p2).2=true:=c4
     simp only[c4,if_true,List.map_append];exact kp
    ·have c4:(uA y.p2 x.p2).2=false:=c4
     simp only[c4,Bool.false_eq_true,if_false,List.append_nil];exact kp
   ·have c3:i.less=false:=c3
    simp only[c3,Bool.false_eq_true,if_false]
    refine Cv.cnd.mk (fun c4=> ?_) (fun c4=> ?_)
    ·have c4:(uF x.p2 y.p2).2=true:=c4
     simp only[c4,if_true,List.map_append];exact kp
    ·have c4:(uF x.p2 y.p2).2=false:=c4
     simp only[c4,Bool.false_eq_true,if_false,List.append_nil];exact kp
theorem yFx:mk22.ok Tryz.prog 53:=yKe (gokc zMp (gokc zOw gok0)) yOx
open Go Cv Go.Proofs
structure MkJ where
 i:MkI
 sa:Bool
 sb:Bool
def mkAnyC:Con:=con1 MkJ (fun j=>[.nm 0 0,.agg [zB j.i.a,zB (zA j.sa)],.agg [zB j.i.b,zB (zA j.sb)],yO j.i.less]) (fun j=>MkR j.i.tops j.i.out)
 (fun j=>0≤j.i.a∧j.i.a<j.i.tops.length∧0≤j.i.b∧j.i.b<j.i.tops.length∧wU j.i.tops∧j.i.out.length≤1000) (fun _=>zQi) (fun j=>MkP j.i.tops (j.i.out++mkq j.i.tops ⟨j.i.a,zA j.sa⟩ ⟨j.i.b,zA j.sb⟩ j.i.less))
theorem zSw:mkAnyC.ok Tryz.prog 53:=fun j=>match j with
 |⟨i,false,false⟩=>yDk i
 |⟨i,false,true⟩=>yEt i
 |⟨i,true,false⟩=>yBv i
 |⟨i,true,true⟩=>yFx i
structure mK where
 p:Prd
 tops:List Top
 inst:Int
def qD (i:mK) (s:Int) (k:Nat):List Quote:=(List.range k).flatMap fun(k:Nat)=>mkq i.tops ⟨(i.p.spread i.inst (i.inst+1+k)).1,s⟩ ⟨i.inst+1+k,s⟩ false
def xX (i:mK) (s:Int) (k:Nat):List Quote:=(List.range k).flatMap fun(k:Nat)=>mkq i.tops ⟨(i.p.spread k i.inst).1,3-s⟩ ⟨k,s⟩ true
def zU (i:mK) (s:Int):List Quote:=mkq i.tops ⟨(i.p.legs i.inst).2.1,3-s⟩ ⟨(i.p.legs i.inst).1,s⟩ true
def jN (i:mK) (s:Int) (q:Quote):Quote:={q with a:=⟨(i.p.legs i.inst).1,s⟩,b:=⟨(i.p.legs i.inst).2.1,3-s⟩}
def qC (i:mK) (s:Int):List Quote:=
 if i.p.count=0∨(i.tops.length:Int)≠i.p.count∨i.inst<0∨(i.p.count:Int)≤i.inst then[]
 else if(i.p.legs i.inst).2.2 then(zU i s).map (jN i s)
 else qD i s (i.p.months.length-(i.inst.toNat+1))++xX i s i.inst.toNat
def yGq (s:Int):Con:=con1 mK (fun i=>[prdV i.p,roV 6 (i.tops.map z6),zB i.inst,zB s]) (fun _=>[]) (fun i=>i.p.small∧wU i.tops) (fun _=> .own 0) (fun i=>[.own 62 6 ((qC i s).map zH)])
def all1C:Con:=yGq 1
def all2C:Con:=yGq 2
def yNm (i:mK) (s:Int):List SAnn:=[
 {ι:=Nat,slots:=fun k=>[(10,.nm 0 0),(77,zB k)],rows:=fun k=>(List.range 3).map (MkU (i.tops,((zU i s).take k).map (jN i s)++(zU i s).drop k))},
 {ι:=Nat,slots:=fun k=>[(10,.nm 0 0),(17,zB (i.inst+1+k))],rows:=fun k=>MkR i.tops (qD i s k)},
 {ι:=Nat,slots:=fun k=>[(10,.nm 0 0),(120,zB k)],rows:=fun k=>MkR i.tops (qD i s (i.p.months.length-(i.inst.toNat+1))++xX i s k)}]
structure zBj where
 i:mK
 s:Bool
def allC:Con:=con1 zBj (fun j=>[prdV j.i.p,roV 6 (j.i.tops.map z6),zB j.i.inst,zB (zA j.s)]) (fun _=>[]) (fun j=>j.i.p.small∧wU j.i.tops) (fun _=> .own 0) (fun j=>[.own 62 6 ((qC j.i (zA j.s)).map zH)])
def wJ (i:mK) (s:Int):List Quote:=(qC i s).filter fun q=>decide (i.p.price i.inst q.price=0)
def quotesC:Con:=con1 zBj (fun j=>[prdV j.i.p,roV 6 (j.i.tops.map z6),zB j.i.inst,zB (zA j.s)]) (fun _=>[]) (fun j=>j.i.p.small∧wU j.i.tops) (fun _=> .own 0) (fun j=>[.own 62 6 ((wJ j.i (zA j.s)).map zH)])
def yEn (j:zBj):List SAnn:=[{ι:=Nat,slots:=fun k=>[(9,.own 0),(18,zB k)],rows:=fun k=>[.own 62 6 ((((qC j.i (zA j.s)).take k).filter fun q=>decide (j.i.p.price j.i.inst q.price=0)).map zH)]}]
structure BsI where
 l:List Quote
 s:Int
def y7 (l:List Quote) (s:Int):Quote×Bool:=match l with
 |[]=>(yMb,false)
 |q::r=>(r.foldl (fun b q=>if btr s q.price b.price then q else b) q,true)
def bestQC:Con:=con1 BsI (fun i=>[roV 6 (i.l.map zH),zB i.s]) (fun _=>[]) (fun i=>(i.s=1∨i.s=2)∧i.l.length≤1000000) (fun i=> .tup [zUt (y7 i.l i.s).1,yO (y7 i.l i.s).2]) (fun _=>[])
def yKs (i:BsI):List SAnn:=[{ι:=Nat,slots:=fun k=>[(6,.nm 0 0),(26,zB k)],rows:=fun k=>[.cells (zUt (y7 (i.l.take (max k 1)) i.s).1).cl 62]}]
open Go Cv Go.Proofs
def yGm (i:mK):Prop:=
 ∃(i_1:Prd),sb i_1.code=sb i.p.code∧iE i_1.months=iE i.p.months∧i_1.tick=i.p.tick∧i_1.low=i.p.low∧i_1.high=i.p.high∧i_1.wide=i.p.wide∧i_1.rule=i.p.rule∧i_1.top=i.p.top∧i_1.least=i.p.least∧i_1.part=i.p.part∧iE i_1.settle=iE i.p.settle∧(i_1.code.length≤1099511627776∧i_1.months.length≤1099511627776∧i_1.settle.length≤1099511627776)∧∀(o:Unit),True→cnd ((↑i_1.count:Int)==0) (∃(o:Unit),List.map zH (qC i 1)=[]∧True) (cnd ((↑(List.map z6 i.tops).length:Int) !=(↑i_1.count:Int)) (∃(o:Unit),List.map zH (qC i 1)=[]∧True) (cnd (decide (i.inst<0)) (∃(o:Unit),List.map zH (qC i 1)=[]∧True) (cnd (decide (i.inst≥(↑i_1.count:Int))) (∃(o:Unit),List.map zH (qC i 1)=[]∧True) (∃(i_2:cG),sb i_2.p.code=sb i.p.code∧iE i_2.p.months=iE i.p.months∧i_2.p.tick=i.p.tick∧i_2.p.low=i.p.low∧i_2.p.high=i.p.high∧i_2.p.wide=i.p.wide∧i_2.p.rule=i.p.rule∧i_2.p.top=i.p.top∧i_2.p.least=i.p.least∧i_2.p.part=i.p.part∧iE i_2.p.settle=iE i.p.settle∧i_2.n=i.inst∧(i_2.p.code.length≤1099511627776∧i_2.p.months.length≤1099511627776∧i_2.p.settle.length≤1099511627776)∧∀(o:Unit),True→cnd (i_2.p.legs i_2.n).snd.snd (∃(i_3:Int),i_3=1∧(i_3=1∨i_3=2)∧∀(o:Unit),True→∃(i_4:MkJ),i_4.i.a=(i_2.p.legs i_2.n).snd.fst∧zA i_4.sa=3-i_3∧i_4.i.b=(i_2.p.legs i_2.n).fst∧zA i_4.sb=1∧i_4.i.less=true∧AObj.fro 6 (List.map z6 i_4.i.tops)=AObj.fro 6 (List.map z6 i.tops)∧List.map zH i_4.i.out=[]∧(0≤i_4.i.a∧i_4.i.a<(↑i_4.i.tops.length:Int)∧0≤i_4.i.b∧i_4.i.b<(↑i_4.i.tops.length:Int)∧(i_4.i.tops.length≤1000000∧∀(t:Top),t∈i_4.i.tops→((-9223372036854775808)≤t.p1∧t.p1≤9223372036854775807)∧(-9223372036854775808)≤t.p2∧t.p2≤9223372036854775807)∧i_4.i.out.length≤1000)∧∀(o:Unit),True→∃(i0:Nat),(↑i0:Int)=0∧AObj.fro 6 (List.map z6 i.tops)=AObj.fro 6 (List.map z6 i_4.i.tops)∧List.map zH (List.map (jN i 1) (List.take i0 (zU i 1))++List.drop i0 (zU i 1))=List.map zH (i_4.i.out++mkq i_4.i.tops (Leg.mk i_4.i.a (zA i_4.sa)) (Leg.mk i_4.i.b (zA i_4.sb)) i_4.i.less)∧∃(I:Nat→Prop),∃(μ:Nat→Nat),I i0∧∀(i_5:Nat),I i_5→cnd (decide ((↑i_5:Int)<(↑(List.map zH (i_4.i.out++mkq i_4.i.tops (Leg.mk i_4.i.a (zA i_4.sa)) (Leg.mk i_4.i.b (zA i_4.sb)) i_4.i.less)).length:Int))) ((0≤(↑i_5:Int)∧(↑i_5:Int)<(↑(List.map zH (List.map (jN i 1) (List.take i_5 (zU i 1))++List.drop i_5 (zU i 1))).length:Int))∧(↑i_5:Int).toNat<(List.map zH (List.map (jN i 1) (List.take i_5 (zU i 1))++List.drop i_5 (zU i 1))).length∧∃(i':Nat),(↑i':Int)=IntKind.i64.wrap ((↑i_5:Int)+1)∧AObj.fro 6 (List.map z6 i.tops)=AObj.fro 6 (List.map z6 i.tops)∧List.map zH (List.map (jN i 1) (List.take i' (zU i 1))++List.drop i' (zU i 1))=yB (List.map zH (List.map (jN i 1) (List.take i_5 (zU i 1))++List.drop i_5 (zU i 1))) (↑i_5:Int).toNat ((0:Nat)+(2:Nat)) [D.v (.int .i64 (i_2.p.legs i_2.n).fst),D.v (.int .i64 1),D.v (.int .i64 (i_2.p.legs i_2.n).snd.fst),D.v (.int .i64 (3-i_3))]∧I i'∧μ i'<μ i_5∧AObj.fro 6 (List.map z6 i_4.i.tops)=AObj.fro 6 (List.map z6 i_4.i.tops)∧Sx.AObj.cells [V.d (D.v (.int .i64 (i_2.p.legs i_2.n).snd.fst)),V.d (D.v (.int .i64 (3-i_3)))] 59=Sx.AObj.cells [V.d (D.v (.int .i64 (i_2.p.legs i_2.n).snd.fst)),V.d (D.v (.int .i64 (3-i_3)))] 59∧Sx.AObj.cells [V.d (D.v (.int .i64 (i_2.p.legs i_2.n).fst)),V.d (D.v (.int .i64 1))] 59=Sx.AObj.cells [V.d (D.v (.int .i64 (i_2.p.legs i_2.n).fst)),V.d (D.v (.int .i64 1))] 59∧AObj.fro 6 (List.map z6 i.tops)=AObj.fro 6 (List.map z6 i.tops)∧Sx.AObj.cells [V.d (D.v (Value.string (sb i.p.code))),V.own 0,V.d (D.v (.int .i64 i.p.tick)),V.d (D.v (.int .i64 i.p.low)),V.d (D.v (.int .i64 i.p.high)),V.d (D.v (.int .i64 i.p.wide)),V.d (D.v (.int .i64 i.p.rule)),V.d (D.v (.int .i64 i.p.top)),V.d (D.v (.int .i64 i.p.least)),V.d (D.v (.int .i64 i.p.part)),V.own ((0:Nat)+(1:Nat))] 29=Sx.AObj.cells [V.d (D.v (Value.string (sb i.p.code))),V.own 0,V.d (D.v (.int .i64 i.p.tick)),V.d (D.v (.int .i64 i.p.low)),V.d (D.v (.int .i64 i.p.high)),V.d (D.v (.int .i64 i.p.wide)),V.d (D.v (.int .i64 i.p.rule)),V.d (D.v (.int .i64 i.p.top)),V.d (D.v (.int .i64 i.p.least)),V.d (D.v (.int .i64 i.p.part)),V.own ((0:Nat)+(1:Nat))] 29∧AObj.fro 1 (iE i.p.settle)=AObj.fro 1 (iE i.p.settle)∧AObj.fro 1 (iE i.p.months)=AObj.fro 1 (iE i.p.months)) (∃(o:Unit),List.map zH (qC i 1)=List.map zH (List.map (jN i 1) (List.take i_5 (zU i 1))++List.drop i_5 (zU i 1))∧True)) (∃(i0:Nat),i.inst+1+(↑i0:Int)=IntKind.i64.wrap (i.inst+1)∧AObj.fro 6 (List.map z6 i.tops)=AObj.fro 6 (List.map z6 i.tops)∧List.map zH (qD i 1 i0)=[]∧∃(I:Nat→Prop),∃(μ:Nat→Nat),I i0∧∀(i_3:Nat),I i_3→cnd (decide (i.inst+1+(↑i_3:Int)<(↑(iE i.p.months).length:Int))) (∃(i_4:mJ),sb i_4.p.code=sb i.p.code∧iE i_4.p.months=iE i.p.months∧i_4.p.tick=i.p.tick∧i_4.p.low=i.p.low∧i_4.p.high=i.p.high∧i_4.p.wide=i.p.wide∧i_4.p.rule=i.p.rule∧i_4.p.top=i.p.top∧i_4.p.least=i.p.least∧i_4.p.part=i.p.part∧iE i_4.p.settle=iE i.p.settle∧i_4.a=i.inst∧i_4.b=i.inst+1+(↑i_3:Int)∧(i_4.p.code.length≤1099511627776∧i_4.p.months.length≤1099511627776∧i_4.p.settle.length≤1099511627776)∧∀(o:Unit),True→∃(i_5:MkJ),i_5.i.a=(i_4.p.spread i_4.a i_4.b).fst∧zA i_5.sa=1∧i_5.i.b=i.inst+1+(↑i_3:Int)∧zA i_5.sb=1∧i_5.i.less=false∧AObj.fro 6 (List.map z6 i_5.i.tops)=AObj.fro 6 (List.map z6 i.tops)∧List.map zH i_5.i.out=List.map zH (qD i 1 i_3)∧(0≤i_5.i.a∧i_5.i.a<(↑i_5.i.tops.length:Int)∧0≤i_5.i.b∧i_5.i.b<(↑i_5.i.tops.length:Int)∧(i_5.i.tops.length≤1000000∧∀(t:Top),t∈i_5.i.tops→((-9223372036854775808)≤t.p1∧t.p1≤9223372036854775807)∧(-9223372036854775808)≤t.p2∧t.p2≤9223372036854775807)∧i_5.i.out.length≤1000)∧∀(o:Unit),True→∃(i':Nat),i.inst+1+(↑i':Int)=IntKind.i64.wrap (i.inst+1+(↑i_3:Int)+1)∧AObj.fro 6 (List.map z6 i.tops)=AObj.fro 6 (List.map z6 i_5.i.tops)∧List.map zH (qD i 1 i')=List.map zH (i_5.i.out++mkq i_5.i.tops (Leg.mk i_5.i.a (zA i_5.sa)) (Leg.mk i_5.i.b (zA i_5.sb)) i_5.i.less)∧I i'∧μ i'<μ i_3∧AObj.fro 6 (List.map z6 i.tops)=AObj.fro 6 (List.map z6 i.tops)∧Sx.AObj.cells [V.d (D.v (Value.string (sb i.p.code))),V.own 0,V.d (D.v (.int .i64 i.p.tick)),V.d (D.v (.int .i64 i.p.low)),V.d (D.v (.int .i64 i.p.high)),V.d (D.v (.int .i64 i.p.wide)),V.d (D.v (.int .i64 i.p.rule)),V.d (D.v (.int .i64 i.p.top)),V.d (D.v (.int .i64 i.p.least)),V.d (D.v (.int .i64 i.p.part)),V.own ((0:Nat)+(1:Nat))] 29=Sx.AObj.cells [V.d (D.v (Value.string (sb i.p.code))),V.own 0,V.d (D.v (.int .i64 i.p.tick)),V.d (D.v (.int .i64 i.p.low)),V.d (D.v (.int .i64 i.p.high)),V.d (D.v (.int .i64 i.p.wide)),V.d (D.v (.int .i64 i.p.rule)),V.d (D.v (.int .i64 i.p.top)),V.d (D.v (.int .i64 i.p.least)),V.d (D.v (.int .i64 i.p.part)),V.own ((0:Nat)+(1:Nat))] 29∧AObj.fro 1 (iE i.p.settle)=AObj.fro 1 (iE i.p.settle)∧AObj.fro 1 (iE i.p.months)=AObj.fro 1 (iE i.p.months)) (∃(i0:Nat),(↑i0:Int)=0∧AObj.fro 6 (List.map z6 i.tops)=AObj.fro 6 (List.map z6 i.tops)∧List.map zH (qD i 1 (i.p.months.length-(i.inst.toNat+1))++xX i 1 i0)=List.map zH (qD i 1 i_3)∧∃(I:Nat→Prop),∃(μ:Nat→Nat),I i0∧∀(i_4:Nat),I i_4→cnd (decide ((↑i_4:Int)<i.inst)) (∃(i_5:mJ),sb i_5.p.code=sb i.p.code∧iE i_5.p.months=iE i.p.months∧i_5.p.tick=i.p.tick∧i_5.p.low=i.p.low∧i_5.p.high=i.p.high∧i_5.p.wide=i.p.wide∧i_5.p.rule=i.p.rule∧i_5.p.top=i.p.top∧i_5.p.least=i.p.least∧i_5.p.part=i.p.part∧iE i_5.p.settle=iE i.p.settle∧i_5.a=(↑i_4:Int)∧i_5.b=i.inst∧(i_5.p.code.length≤1099511627776∧i_5.p.months.length≤1099511627776∧i_5.p.settle.length≤1099511627776)∧∀(o:Unit),True→∃(i_6:Int),i_6=1∧(i_6=1∨i_6=2)∧∀(o:Unit),True→∃(i_7:MkJ),i_7.i.a=(i_5.p.spread i_5.a i_5.b).fst∧zA i_7.sa=3-i_6∧i_7.i.b=(↑i_4:Int)∧zA i_7.sb=1∧i_7.i.less=true∧AObj.fro 6 (List.map z6 i_7.i.tops)=AObj.fro 6 (List.map z6 i.tops)∧List.map zH i_7.i.out=List.map zH (qD i 1 (i.p.months.length-(i.inst.toNat+1))++xX i 1 i_4)∧(0≤i_7.i.a∧i_7.i.a<(↑i_7.i.tops.length:Int)∧0≤i_7.i.b∧i_7.i.b<(↑i_7.i.tops.length:Int)∧(i_7.i.tops.length≤1000000∧∀(t:Top),t∈i_7.i.tops→((-9223372036854775808)≤t.p1∧t.p1≤9223372036854775807)∧(-9223372036854775808)≤t.p2∧t.p2≤9223372036854775807)∧i_7.i.out.length≤1000)∧∀(o:Unit),True→∃(i':Nat),(↑i':Int)=IntKind.i64.wrap ((↑i_4:Int)+1)∧AObj.fro 6 (List.map z6 i.tops)=AObj.fro 6 (List.map z6 i_7.i.tops)∧List.map zH (qD i 1 (i.p.months.length-(i.inst.toNat+1))++xX i 1 i')=List.map zH (i_7.i.out++mkq i_7.i.tops (Leg.mk i_7.i.a (zA i_7.sa)) (Leg.mk i_7.i.b (zA i_7.sb)) i_7.i.less)∧I i'∧μ i'<μ i_4∧AObj.fro 6 (List.map z6 i.tops)=AObj.fro 6 (List.map z6 i.tops)∧AObj.fro 6 (List.map z6 i.tops)=AObj.fro 6 (List.map z6 i.tops)∧Sx.AObj.cells [V.d (D.v (Value.string (sb i.p.code))),V.own 0,V.d (D.v (.int .i64 i.p.tick)),V.d (D.v (.int .i64 i.p.low)),V.d (D.v (.int .i64 i.p.high)),V.d (D.v (.int .i64 i.p.wide)),V.d (D.v (.int .i64 i.p.rule)),V.d (D.v (.int .i64 i.p.top)),V.d (D.v (.int .i64 i.p.least)),V.d (D.v (.int .i64 i.p.part)),V.own ((0:Nat)+(1:Nat))] 29=Sx.AObj.cells [V.d (D.v (Value.string (sb i.p.code))),V.own 0,V.d (D.v (.int .i64 i.p.tick)),V.d (D.v (.int .i64 i.p.low)),V.d (D.v (.int .i64 i.p.high)),V.d (D.v (.int .i64 i.p.wide)),V.d (D.v (.int .i64 i.p.rule)),V.d (D.v (.int .i64 i.p.top)),V.d (D.v (.int .i64 i.p.least)),V.d (D.v (.int .i64 i.p.part)),V.own ((0:Nat)+(1:Nat))] 29∧AObj.fro 1 (iE i.p.settle)=AObj.fro 1 (iE i.p.settle)∧AObj.fro 1 (iE i.p.months)=AObj.fro 1 (iE i.p.months)) (∃(o:Unit),List.map zH (qC i 1)=List.map zH (qD i 1 (i.p.months.length-(i.inst.toNat+1))++xX i 1 i_4)∧True)))))))
theorem yJd (hG:GOk Tryz.prog ([(24,pcountC),(51,legsC),(54,spreadC),(52,iotherC),(53,mkAnyC)])) (h:∀(i:mK),all1C.cnd i→yGm i):all1C.ok Tryz.prog 25:=okw mixed hG 0 (fun _=>[]) (fun i=>yNm i 1) [] Tryz.func25 h
def yGr (i:mK):Prop:=
 ∃(i_1:Prd),sb i_1.code=sb i.p.code∧iE i_1.months=iE i.p.months∧i_1.tick=i.p.tick∧i_1.low=i.p.low∧i_1.high=i.p.high∧i_1.wide=i.p.wide∧i_1.rule=i.p.rule∧i_1.top=i.p.top∧i_1.least=i.p.least∧i_1.part=i.p.part∧iE i_1.settle=iE i.p.settle∧(i_1.code.length≤1099511627776∧i_1.months.length≤1099511627776∧i_1.settle.length≤1099511627776)∧∀(o:Unit),True→cnd ((↑i_1.count:Int)==0) (∃(o:Unit),List.map zH (qC i 2)=[]∧True) (cnd ((↑(List.map z6 i.tops).length:Int) !=(↑i_1.count:Int)) (∃(o:Unit),List.map zH (qC i 2)=[]∧True) (cnd (decide (i.inst<0)) (∃(o:Unit),List.map zH (qC i 2)=[]∧True) (cnd (decide (i.inst≥(↑i_1.count:Int))) (∃(o:Unit),List.map zH (qC i 2)=[]∧True) (∃(i_2:cG),sb i_2.p.code=sb i.p.code∧iE i_2.p.months=iE i.p.months∧i_2.p.tick=i.p.tick∧i_2.p.low=i.p.low∧i_2.p.high=i.p.high∧i_2.p.wide=i.p.wide∧i_2.p.rule=i.p.rule∧i_2.p.top=i.p.top∧i_2.p.least=i.p.least∧i_2.p.part=i.p.part∧iE i_2.p.settle=iE i.p.settle∧i_2.n=i.inst∧(i_2.p.code.length≤1099511627776∧i_2.p.months.length≤1099511627776∧i_2.p.settle.length≤1099511627776)∧∀(o:Unit),True→cnd (i_2.p.legs i_2.n).snd.snd (∃(i_3:Int),i_3=2∧(i_3=1∨i_3=2)∧∀(o:Unit),True→∃(i_4:MkJ),i_4.i.a=(i_2.p.legs i_2.n).snd.fst∧zA i_4.sa=3-i_3∧i_4.i.b=(i_2.p.legs i_2.n).fst∧zA i_4.sb=2∧i_4.i.less=true∧AObj.fro 6 (List.map z6 i_4.i.tops)=AObj.fro 6 (List.map z6 i.tops)∧List.map zH i_4.i.out=[]∧(0≤i_4.i.a∧i_4.i.a<(↑i_4.i.tops.length:Int)∧0≤i_4.i.b∧i_4.i.b<(↑i_4.i.tops.length:Int)∧(i_4.i.tops.length≤1000000∧∀(t:Top),t∈i_4.i.tops→((-9223372036854775808)≤t.p1∧t.p1≤9223372036854775807)∧(-9223372036854775808)≤t.p2∧t.p2≤9223372036854775807)∧i_4.i.out.length≤1000)∧∀(o:Unit),True→∃(i0:Nat),(↑i0:Int)=0∧AObj.fro 6 (List.map z6 i.tops)=AObj.fro 6 (List.map z6 i_4.i.tops)∧List.map zH (List.map (jN i 2) (List.take i0 (zU i 2))++List.drop i0 (zU i 2))=List.map zH (i_4.i.out++mkq i_4.i.tops (Leg.mk i_4.i.a (zA i_4.sa)) (Leg.mk i_4.i.b (zA i_4.sb)) i_4.i.less)∧∃(I:Nat→Prop),∃(μ:Nat→Nat),I i0∧∀(i_5:Nat),I i_5→cnd (decide ((↑i_5:Int)<(↑(List.map zH (i_4.i.out++mkq i_4.i.tops (Leg.mk i_4.i.a (zA i_4.sa)) (Leg.mk i_4.i.b (zA i_4.sb)) i_4.i.less)).length:Int))) ((0≤(↑i_5:Int)∧(↑i_5:Int)<(↑(List.map zH (List.map (jN i 2) (List.take i_5 (zU i 2))++List.drop i_5 (zU i 2))).length:Int))∧(↑i_5:Int).toNat<(List.map zH (List.map (jN i 2) (List.take i_5 (zU i 2))++List.drop i_5 (zU i 2))).length∧∃(i':Nat),(↑i':Int)=IntKind.i64.wrap ((↑i_5:Int)+1)∧AObj.fro 6 (List.map z6 i.tops)=AObj.fro 6 (List.map z6 i.tops)∧List.map zH (List.map (jN i 2) (List.take i' (zU i 2))++List.drop i' (zU i 2))=yB (List.map zH (List.map (jN i 2) (List.take i_5 (zU i 2))++List.drop i_5 (zU i 2))) (↑i_5:Int).toNat ((0:Nat)+(2:Nat)) [D.v (.int .i64 (i_2.p.legs i_2.n).fst),D.v (.int .i64 2),D.v (.int .i64 (i_2.p.legs i_2.n).snd.fst),D.v (.int .i64 (3-i_3))]∧I i'∧μ i'<μ i_5∧AObj.fro 6 (List.map z6 i_4.i.tops)=AObj.fro 6 (List.map z6 i_4.i.tops)∧Sx.AObj.cells [V.d (D.v (.int .i64 (i_2.p.legs i_2.n).snd.fst)),V.d (D.v (.int .i64 (3-i_3)))] 59=Sx.AObj.cells [V.d (D.v (.int .i64 (i_2.p.legs i_2.n).snd.fst)),V.d (D.v (.int .i64 (3-i_3)))] 59∧Sx.AObj.cells [V.d (D.v (.int .i64 (i_2.p.legs i_2.n).fst)),V.d (D.v (.int .i64 2))] 59=Sx.AObj.cells [V.d (D.v (.int .i64 (i_2.p.legs i_2.n).fst)),V.d (D.v (.int .i64 2))] 59∧AObj.fro 6 (List.map z6 i.tops)=AObj.fro 6 (List.map z6 i.tops)∧Sx.AObj.cells [V.d (D.v (Value.string (sb i.p.code))),V.own 0,V.d (D.v (.int .i64 i.p.tick)),V.d (D.v (.int .i64 i.p.low)),V.d (D.v (.int .i64 i.p.high)),V.d (D.v (.int .i64 i.p.wide)),V.d (D.v (.int .i64 i.p.rule)),V.d (D.v (.int .i64 i.p.top)),V.d (D.v (.int .i64 i.p.least)),V.d (D.v (.int .i64 i.p.part)),V.own ((0:Nat)+(1:Nat))] 29=Sx.AObj.cells [V.d (D.v (Value.string (sb i.p.code))),V.own 0,V.d (D.v (.int .i64 i.p.tick)),V.d (D.v (.int .i64 i.p.low)),V.d (D.v (.int .i64 i.p.high)),V.d (D.v (.int .i64 i.p.wide)),V.d (D.v (.int .i64 i.p.rule)),V.d (D.v (.int .i64 i.p.top)),V.d (D.v (.int .i64 i.p.least)),V.d (D.v (.int .i64 i.p.part)),V.own ((0:Nat)+(1:Nat))] 29∧AObj.fro 1 (iE i.p.settle)=AObj.fro 1 (iE i.p.settle)∧AObj.fro 1 (iE i.p.months)=AObj.fro 1 (iE i.p.months)) (∃(o:Unit),List.map zH (qC i 2)=List.map zH (List.map (jN i 2) (List.take i_5 (zU i 2))++List.drop i_5 (zU i 2))∧True)) (∃(i0:Nat),i.inst+1+(↑i0:Int)=IntKind.i64.wrap (i.inst+1)∧AObj.fro 6 (List.map z6 i.tops)=AObj.fro 6 (List.map z6 i.tops)∧List.map zH (qD i 2 i0)=[]∧∃(I:Nat→Prop),∃(μ:Nat→Nat),I i0∧∀(i_3:Nat),I i_3→cnd (decide (i.inst+1+(↑i_3:Int)<(↑(iE i.p.months).length:Int))) (∃(i_4:mJ),sb i_4.p.code=sb i.p.code∧iE i_4.p.months=iE i.p.months∧i_4.p.tick=i.p.tick∧i_4.p.low=i.p.low∧i_4.p.high=i.p.high∧i_4.p.wide=i.p.wide∧i_4.p.rule=i.p.rule∧i_4.p.top=i.p.top∧i_4.p.least=i.p.least∧i_4.p.part=i.p.part∧iE i_4.p.settle=iE i.p.settle∧i_4.a=i.inst∧i_4.b=i.inst+1+(↑i_3:Int)∧(i_4.p.code.length≤1099511627776∧i_4.p.months.length≤1099511627776∧i_4.p.settle.length≤1099511627776)∧∀(o:Unit),True→∃(i_5:MkJ),i_5.i.a=(i_4.p.spread i_4.a i_4.b).fst∧zA i_5.sa=2∧i_5.i.b=i.inst+1+(↑i_3:Int)∧zA i_5.sb=2∧i_5.i.less=false∧AObj.fro 6 (List.map z6 i_5.i.tops)=AObj.fro 6 (List.map z6 i.tops)∧List.map zH i_5.i.out=List.map zH (qD i 2 i_3)∧(0≤i_5.i.a∧i_5.i.a<(↑i_5.i.tops.length:Int)∧0≤i_5.i.b∧i_5.i.b<(↑i_5.i.tops.length:Int)∧(i_5.i.tops.length≤1000000∧∀(t:Top),t∈i_5.i.tops→((-9223372036854775808)≤t.p1∧t.p1≤9223372036854775807)∧(-9223372036854775808)≤t.p2∧t.p2≤9223372036854775807)∧i_5.i.out.length≤1000)∧∀(o:Unit),True→∃(i':Nat),i.inst+1+(↑i':Int)=IntKind.i64.wrap (i.inst+1+(↑i_3:Int)+1)∧AObj.fro 6 (List.map z6 i.tops)=AObj.fro 6 (List.map z6 i_5.i.tops)∧List.map zH (qD i 2 i')=List.map zH (i_5.i.out++mkq i_5.i.tops (Leg.mk i_5.i.a (zA i_5.sa)) (Leg.mk i_5.i.b (zA i_5.sb)) i_5.i.less)∧I i'∧μ i'<μ i_3∧AObj.fro 6 (List.map z6 i.tops)=AObj.fro 6 (List.map z6 i.tops)∧Sx.AObj.cells [V.d (D.v (Value.string (sb i.p.code))),V.own 0,V.d (D.v (.int .i64 i.p.tick)),V.d (D.v (.int .i64 i.p.low)),V.d (D.v (.int .i64 i.p.high)),V.d (D.v (.int .i64 i.p.wide)),V.d (D.v (.int .i64 i.p.rule)),V.d (D.v (.int .i64 i.p.top)),V.d (D.v (.int .i64 i.p.least)),V.d (D.v (.int .i64 i.p.part)),V.own ((0:Nat)+(1:Nat))] 29=Sx.AObj.cells [V.d (D.v (Value.string (sb i.p.code))),V.own 0,V.d (D.v (.int .i64 i.p.tick)),V.d (D.v (.int .i64 i.p.low)),V.d (D.v (.int .i64 i.p.high)),V.d (D.v (.int .i64 i.p.wide)),V.d (D.v (.int .i64 i.p.rule)),V.d (D.v (.int .i64 i.p.top)),V.d (D.v (.int .i64 i.p.least)),V.d (D.v (.int .i64 i.p.part)),V.own ((0:Nat)+(1:Nat))] 29∧AObj.fro 1 (iE i.p.settle)=AObj.fro 1 (iE i.p.settle)∧AObj.fro 1 (iE i.p.months)=AObj.fro 1 (iE i.p.months)) (∃(i0:Nat),(↑i0:Int)=0∧AObj.fro 6 (List.map z6 i.tops)=AObj.fro 6 (List.map z6 i.tops)∧List.map zH (qD i 2 (i.p.months.length-(i.inst.toNat+1))++xX i 2 i0)=List.map zH (qD i 2 i_3)∧∃(I:Nat→Prop),∃(μ:Nat→Nat),I i0∧∀(i_4:Nat),I i_4→cnd (decide ((↑i_4:Int)<i.inst)) (∃(i_5:mJ),sb i_5.p.code=sb i.p.code∧iE i_5.p.months=iE i.p.months∧i_5.p.tick=i.p.tick∧i_5.p.low=i.p.low∧i_5.p.high=i.p.high∧i_5.p.wide=i.p.wide∧i_5.p.rule=i.p.rule∧i_5.p.top=i.p.top∧i_5.p.least=i.p.least∧i_5.p.part=i.p.part∧iE i_5.p.settle=iE i.p.settle∧i_5.a=(↑i_4:Int)∧i_5.b=i.inst∧(i_5.p.code.length≤1099511627776∧i_5.p.months.length≤1099511627776∧i_5.p.settle.length≤1099511627776)∧∀(o:Unit),True→∃(i_6:Int),i_6=2∧(i_6=1∨i_6=2)∧∀(o:Unit),True→∃(i_7:MkJ),i_7.i.a=(i_5.p.spread i_5.a i_5.b).fst∧zA i_7.sa=3-i_6∧i_7.i.b=(↑i_4:Int)∧zA i_7.sb=2∧i_7.i.less=true∧AObj.fro 6 (List.map z6 i_7.i.tops)=AObj.fro 6 (List.map z6 i.tops)∧List.map zH i_7.i.out=List.map zH (qD i 2 (i.p.months.length-(i.inst.toNat+1))++xX i 2 i_4)∧(0≤i_7.i.a∧i_7.i.a<(↑i_7.i.tops.length:Int)∧0≤i_7.i.b∧i_7.i.b<(↑i_7.i.tops.length:Int)∧(i_7.i.tops.length≤1000000∧∀(t:Top),t∈i_7.i.tops→((-9223372036854775808)≤t.p1∧t.p1≤9223372036854775807)∧(-9223372036854775808)≤t.p2∧t.p2≤9223372036854775807)∧i_7.i.out.length≤1000)∧∀(o:Unit),True→∃(i':Nat),(↑i':Int)=IntKind.i64.wrap ((↑i_4:Int)+1)∧AObj.fro 6 (List.map z6 i.tops)=AObj.fro 6 (List.map z6 i_7.i.tops)∧List.map zH (qD i 2 (i.p.months.length-(i.inst.toNat+1))++xX i 2 i')=List.map zH (i_7.i.out++mkq i_7.i.tops (Leg.mk i_7.i.a (zA i_7.sa)) (Leg.mk i_7.i.b (zA i_7.sb)) i_7.i.less)∧I i'∧μ i'<μ i_4∧AObj.fro 6 (List.map z6 i.tops)=AObj.fro 6 (List.map z6 i.tops)∧AObj.fro 6 (List.map z6 i.tops)=AObj.fro 6 (List.map z6 i.tops)∧Sx.AObj.cells [V.d (D.v (Value.string (sb i.p.code))),V.own 0,V.d (D.v (.int .i64 i.p.tick)),V.d (D.v (.int .i64 i.p.low)),V.d (D.v (.int .i64 i.p.high)),V.d (D.v (.int .i64 i.p.wide)),V.d (D.v (.int .i64 i.p.rule)),V.d (D.v (.int .i64 i.p.top)),V.d (D.v (.int .i64 i.p.least)),V.d (D.v (.int .i64 i.p.part)),V.own ((0:Nat)+(1:Nat))] 29=Sx.AObj.cells [V.d (D.v (Value.string (sb i.p.code))),V.own 0,V.d (D.v (.int .i64 i.p.tick)),V.d (D.v (.int .i64 i.p.low)),V.d (D.v (.int .i64 i.p.high)),V.d (D.v (.int .i64 i.p.wide)),V.d (D.v (.int .i64 i.p.rule)),V.d (D.v (.int .i64 i.p.top)),V.d (D.v (.int .i64 i.p.least)),V.d (D.v (.int .i64 i.p.part)),V.own ((0:Nat)+(1:Nat))] 29∧AObj.fro 1 (iE i.p.settle)=AObj.fro 1 (iE i.p.settle)∧AObj.fro 1 (iE i.p.months)=AObj.fro 1 (iE i.p.months)) (∃(o:Unit),List.map zH (qC i 2)=List.map zH (qD i 2 (i.p.months.length-(i.inst.toNat+1))++xX i 2 i_4)∧True)))))))
theorem yIy (hG:GOk Tryz.prog ([(24,pcountC),(51,legsC),(54,spreadC),(52,iotherC),(53,mkAnyC)])) (h:∀(i:mK),all2C.cnd i→yGr i):all2C.ok Tryz.prog 25:=okw mixed hG 0 (fun _=>[]) (fun i=>yNm i 2) [] Tryz.func25 h
def z0w (j:zBj):Prop:=
 ∃(i:zBj),sb i.i.p.code=sb j.i.p.code∧iE i.i.p.months=iE j.i.p.months∧i.i.p.tick=j.i.p.tick∧i.i.p.low=j.i.p.low∧i.i.p.high=j.i.p.high∧i.i.p.wide=j.i.p.wide∧i.i.p.rule=j.i.p.rule∧i.i.p.top=j.i.p.top∧i.i.p.least=j.i.p.least∧i.i.p.part=j.i.p.part∧iE i.i.p.settle=iE j.i.p.settle∧List.map z6 i.i.tops=List.map z6 j.i.tops∧i.i.inst=j.i.inst∧zA i.s=zA j.s∧((i.i.p.code.length≤1099511627776∧i.i.p.months.length≤1099511627776∧i.i.p.settle.length≤1099511627776)∧i.i.tops.length≤1000000∧∀(t:Top),t∈i.i.tops→((-9223372036854775808)≤t.p1∧t.p1≤9223372036854775807)∧(-9223372036854775808)≤t.p2∧t.p2≤9223372036854775807)∧∀(o:Unit),True→∃(i0:Nat),(↑i0:Int)=0∧List.map zH (List.filter (fun(q:Sx.Quote) ↦ decide (j.i.p.price j.i.inst q.price=0)) (List.take i0 (qC j.i (zA j.s))))=[]∧∃(I:Nat→Prop),∃(μ:Nat→Nat),I i0∧∀(i_1:Nat),I i_1→cnd (decide ((↑i_1:Int)<(↑(List.map zH (qC i.i (zA i.s))).length:Int))) ((0≤(↑i_1:Int)∧(↑i_1:Int)<(↑(List.map zH (qC i.i (zA i.s))).length:Int))∧∃(n:Int),∃(n_1:Int),∃(n_2:Int),∃(n_3:Int),∃(n_4:Int),∃(n_5:Int),zF (List.map zH (qC i.i (zA i.s))) (↑i_1:Int).toNat 0 6=some [D.v (.int .i64 n),D.v (.int .i64 n_1),D.v (.int .i64 n_2),D.v (.int .i64 n_3),D.v (.int .i64 n_4),D.v (.int .i64 n_5)]∧∃(i_2:mJ),sb i_2.p.code=sb j.i.p.code∧iE i_2.p.months=iE j.i.p.months∧i_2.p.tick=j.i.p.tick∧i_2.p.low=j.i.p.low∧i_2.p.high=j.i.p.high∧i_2.p.wide=j.i.p.wide∧i_2.p.rule=j.i.p.rule∧i_2.p.top=j.i.p.top∧i_2.p.least=j.i.p.least∧i_2.p.part=j.i.p.part∧iE i_2.p.settle=iE j.i.p.settle∧i_2.a=j.i.inst∧i_2.b=n∧(i_2.p.code.length≤1099511627776∧i_2.p.months.length≤1099511627776∧i_2.p.settle.length≤1099511627776)∧∀(o:Unit),True→cnd (i_2.p.price i_2.a i_2.b==0) (((List.map zH (List.filter (fun(q:Sx.Quote) ↦ decide (j.i.p.price j.i.inst q.price=0)) (List.take i_1 (qC j.i (zA j.s))))).length+1)*(48:Nat)≤(70368744177664:Nat)∧∃(i':Nat),(↑i':Int)=IntKind.i64.wrap ((↑i_1:Int)+1)∧List.map zH (List.filter (fun(q:Sx.Quote) ↦ decide (j.i.p.price j.i.inst q.price=0)) (List.take i' (qC j.i (zA j.s))))=List.map zH (List.filter (fun(q:Sx.Quote) ↦ decide (j.i.p.price j.i.inst q.price=0)) (List.take i_1 (qC j.i (zA j.s))))++[[D.v (.int .i64 n),D.v (.int .i64 n_1),D.v (.int .i64 n_2),D.v (.int .i64 n_3),D.v (.int .i64 n_4),D.v (.int .i64 n_5)]]∧I i'∧μ i'<μ i_1∧AObj.own 62 6 (List.map zH (qC i.i (zA i.s)))=AObj.own 62 6 (List.map zH (qC i.i (zA i.s)))∧Sx.AObj.cells [V.d (D.v (Value.string (sb j.i.p.code))),V.own 0,V.d (D.v (.int .i64 j.i.p.tick)),V.d (D.v (.int .i64 j.i.p.low)),V.d (D.v (.int .i64 j.i.p.high)),V.d (D.v (.int .i64 j.i.p.wide)),V.d (D.v (.int .i64 j.i.p.rule)),V.d (D.v (.int .i64 j.i.p.top)),V.d (D.v (.int .i64 j.i.p.least)),V.d (D.v (.int .i64 j.i.p.part)),V.own ((0:Nat)+(1:Nat))] 29=Sx.AObj.cells [V.d (D.v (Value.string (sb j.i.p.code))),V.own 0,V.d (D.v (.int .i64 j.i.p.tick)),V.d (D.v (.int .i64 j.i.p.low)),V.d (D.v (.int .i64 j.i.p.high)),V.d (D.v (.int .i64 j.i.p.wide)),V.d (D.v (.int .i64 j.i.p.rule)),V.d (D.v (.int .i64 j.i.p.top)),V.d (D.v (.int .i64 j.i.p.least)),V.d (D.v (.int .i64 j.i.p.part)),V.own ((0:Nat)+(1:Nat))] 29∧AObj.fro 1 (iE j.i.p.settle)=AObj.fro 1 (iE j.i.p.settle)∧AObj.fro 1 (iE j.i.p.months)=AObj.fro 1 (iE j.i.p.months)) (∃(i':Nat),(↑i':Int)=IntKind.i64.wrap ((↑i_1:Int)+1)∧List.map zH (List.filter (fun(q:Sx.Quote) ↦ decide (j.i.p.price j.i.inst q.price=0)) (List.take i' (qC j.i (zA j.s))))=List.map zH (List.filter (fun(q:Sx.Quote) ↦ decide (j.i.p.price j.i.inst q.price=0)) (List.take i_1 (qC j.i (zA j.s))))∧I i'∧μ i'<μ i_1∧AObj.own 62 6 (List.map zH (qC i.i (zA i.s)))=AObj.own 62 6 (List.map zH (qC i.i (zA i.s)))∧Sx.AObj.cells [V.d (D.v (Value.string (sb j.i.p.code))),V.own 0,V.d (D.v (.int .i64 j.i.p.tick)),V.d (D.v (.int .i64 j.i.p.low)),V.d (D.v (.int .i64 j.i.p.high)),V.d (D.v (.int .i64 j.i.p.wide)),V.d (D.v (.int .i64 j.i.p.rule)),V.d (D.v (.int .i64 j.i.p.top)),V.d (D.v (.int .i64 j.i.p.least)),V.d (D.v (.int .i64 j.i.p.part)),V.own ((0:Nat)+(1:Nat))] 29=Sx.AObj.cells [V.d (D.v (Value.string (sb j.i.p.code))),V.own 0,V.d (D.v (.int .i64 j.i.p.tick)),V.d (D.v (.int .i64 j.i.p.low)),V.d (D.v (.int .i64 j.i.p.high)),V.d (D.v (.int .i64 j.i.p.wide)),V.d (D.v (.int .i64 j.i.p.rule)),V.d (D.v (.int .i64 j.i.p.top)),V.d (D.v (.int .i64 j.i.p.least)),V.d (D.v (.int .i64 j.i.p.part)),V.own ((0:Nat)+(1:Nat))] 29∧AObj.fro 1 (iE j.i.p.settle)=AObj.fro 1 (iE j.i.p.settle)∧AObj.fro 1 (iE j.i.p.months)=AObj.fro 1 (iE j.i.p.months))) (∃(o:Unit),List.map zH (wJ j.i (zA j.s))=List.map zH (List.filter (fun(q:Sx.Quote) ↦ decide (j.i.p.price j.i.inst q.price=0)) (List.take i_1 (qC j.i (zA j.s))))∧True)
theorem z8s (hG:GOk Tryz.prog ([(25,allC),(72,priceC)])) (h:∀(j:zBj),quotesC.cnd j→z0w j):quotesC.ok Tryz.prog 67:=okw mixed hG 0 (fun _=>[]) (fun j=>yEn j) [] Tryz.func67 h
def zZ (a:Nat) (b:BsI):=(y7 (List.take (max a (1:Nat)) b.l) b.s)
def dM (a:BsI):=(↑(List.map zH a.l).length:Int)
def zBp (a:Nat→Prop) (b:Nat) (c:Nat→Nat) (d:Nat):Prop:=a b∧c b<c d∧Sx.AObj.cells (Sx.V.agg [V.d (D.v (.int .i64 0)),V.d (D.v (.int .i64 0)),V.d (D.v (.int .i64 0)),V.d (D.v (.int .i64 0)),V.d (D.v (.int .i64 0)),V.d (D.v (.int .i64 0))]).cl 62=Sx.AObj.cells (Sx.V.agg [V.d (D.v (.int .i64 0)),V.d (D.v (.int .i64 0)),V.d (D.v (.int .i64 0)),V.d (D.v (.int .i64 0)),V.d (D.v (.int .i64 0)),V.d (D.v (.int .i64 0))]).cl 62
def zFe (a:BsI):Prop:=((0:Int)≤(0:Int)∧0<(dM a))∧∃(b:Int),∃(c:Int),∃(d:Int),∃(e:Int),∃(f:Int),∃(g:Int),zF (List.map zH a.l) (Int.toNat 0) 0 6=some [D.v (.int .i64 b),D.v (.int .i64 c),D.v (.int .i64 d),D.v (.int .i64 e),D.v (.int .i64 f),D.v (.int .i64 g)]∧∃(h:Nat),(↑h:Int)=0∧(zZ h a).fst.price=b∧(zZ h a).fst.qty=c∧(zZ h a).fst.a.inst=d∧(zZ h a).fst.a.side=e∧(zZ h a).fst.b.inst=f∧(zZ h a).fst.b.side=g∧∃(j:Nat→Prop),∃(k:Nat→Nat),j h∧∀(l:Nat),j l→cnd (decide ((↑l:Int)<(dM a))) ((0≤(↑l:Int)∧(↑l:Int)<(dM a))∧∃(m:Int),∃(n:Int),∃(p:Int),∃(q:Int),∃(r:Int),∃(s:Int),zF (List.map zH a.l) (↑l:Int).toNat 0 6=some [D.v (.int .i64 m),D.v (.int .i64 n),D.v (.int .i64 p),D.v (.int .i64 q),D.v (.int .i64 r),D.v (.int .i64 s)]∧∃(t:I3'),t.side=a.s∧t.x=m∧t.y=(zZ l a).fst.price∧True∧∀(u:Unit),True→cnd (btr t.side t.x t.y) (∃(v:Nat),(↑v:Int)=IntKind.i64.wrap ((↑l:Int)+1)∧(zZ v a).fst.price=m∧(zZ v a).fst.qty=n∧(zZ v a).fst.a.inst=p∧(zZ v a).fst.a.side=q∧(zZ v a).fst.b.inst=r∧(zZ v a).fst.b.side=s∧zBp j v k l) (∃(v:Nat),(↑v:Int)=IntKind.i64.wrap ((↑l:Int)+1)∧(zZ v a).fst.price=(zZ l a).fst.price∧(zZ v a).fst.qty=(zZ l a).fst.qty∧(zZ v a).fst.a.inst=(zZ l a).fst.a.inst∧(zZ v a).fst.a.side=(zZ l a).fst.a.side∧(zZ v a).fst.b.inst=(zZ l a).fst.b.inst∧(zZ v a).fst.b.side=(zZ l a).fst.b.side∧zBp j v k l)) (∃(m:Unit),(y7 a.l a.s).fst.price=(zZ l a).fst.price∧(y7 a.l a.s).fst.qty=(zZ l a).fst.qty∧(y7 a.l a.s).fst.a.inst=(zZ l a).fst.a.inst∧(y7 a.l a.s).fst.a.side=(zZ l a).fst.a.side∧(y7 a.l a.s).fst.b.inst=(zZ l a).fst.b.inst∧(y7 a.l a.s).fst.b.side=(zZ l a).fst.b.side∧(y7 a.l a.s).snd=true∧True)
def eD (a:BsI):Prop:=∃(b:Unit),(y7 a.l a.s).fst.price=0∧(y7 a.l a.s).fst.qty=0∧(y7 a.l a.s).fst.a.inst=0∧(y7 a.l a.s).fst.a.side=0∧(y7 a.l a.s).fst.b.inst=0∧(y7 a.l a.s).fst.b.side=0∧(y7 a.l a.s).snd=false∧True
def zXd (i:BsI):Prop:=
 cnd ((dM i)==0) (eD i) (cnd (i.s !=1) (cnd (i.s !=2) (eD i) (zFe i)) (zFe i))
theorem yGf (hG:GOk Tryz.prog ([(94,ibetterC)])) (h:∀(i:BsI),bestQC.cnd i→zXd i):bestQC.ok Tryz.prog 66:=okw mixed hG 0 (fun _=>[]) (fun i=>yKs i) [] Tryz.func66 h
end Sx
