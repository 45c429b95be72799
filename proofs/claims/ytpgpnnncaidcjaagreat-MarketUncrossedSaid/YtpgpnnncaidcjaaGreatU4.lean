/- Texts of ours, one behind the other: a walk that the kernel reckons, and contracts of functions. No condition. -/
import Derived.Test.YtpgpnnncaidcjaaGreatRows
import Derived.Test.YtpgpnnncaidcjaaGreatU3
namespace Sx
set_option linter.unusedVariables false
open Go Cv Go.Proofs
theorem kp {P:Prop} (h:P:=by(repeat'(first|exact rfl|exact trivial|assumption|apply And.intro|refine fun(_:Unit) (_:True)=>?_|refine Exists.intro () ?_|omega|(dsimp only;omega)))):P:=h
theorem mixed:Tryz.prog.follows .mixedOrders=true:=by kernel_rfl
theorem okw {P:Program} {f:FuncId} {fn:Func} {C:Con} {G:List (Nat×Con)} {V:C.ι→Prop} (hm:P.follows .mixedOrders=true) (hG:GOk P G) (d:Nat) (J:C.ι→List (Nat×SAnn)) (an:C.ι→List SAnn) (op:List Nat) (hf:P.funcs[f]? =some fn) (h:∀i,C.cnd i→V i) (hb:fn.body=some (fn.body.getD .skip):=by kernel_rfl) (hbd:vJ P f=true:=by kernel_rfl) (hok:okC fn.ntmps (fn.body.getD .skip)=true:=by kernel_rfl) (hsz:∀i,Nat.ble (C.pat i).length fn.ntmps=true:=by intro _;kernel_rfl) (e:∀i,V i=walk P G d (J i) (an i) op fn (fn.body.getD .skip) (C.pat i) (C.pre i) (C.alts i):=by intro _;kernel_rfl):C.ok P f:=sR hm G hG d J an op hf hb hbd hok hsz fun i hc=>Eq.mp (e i) (h i hc)
structure Lv where
 price:Int
 qty:Int
 count:Int
def lvV (l:Lv):V:= .agg [zB l.price,zB l.qty,zB l.count]
open Go Cv Go.Proofs
def sb (l:List UInt8):ByteArray:=⟨l.toArray⟩
@[reducible] def sV (l:List UInt8):V:= .d (.v (.string (sb l)))
def zFn (l:List UInt8):Nat×Nat:=Utf8.decode (sb l) 0
def pN:Nat→Nat→List UInt8→List (Nat×Nat)
 |0,_,_=>[]
 |k+1,p,l=>match l with
  |[]=>[]
  |_=>(p,(zFn l).1)::pN k (p+(zFn l).2) (l.drop (zFn l).2)
def uM (s:List UInt8) (p:Nat):List (Nat×Nat):=pN (s.length-p) p (s.drop p)
def kP (s:List UInt8):List Nat:=(uM s 0).map (·.2)
def countC:Con:=con1 (List UInt8) (fun s=>[sV s]) (fun _=>[]) (fun s=>s.length≤1099511627776) (fun s=>zB (kP s).length) (fun _=>[])
def yJm (s:List UInt8):List SAnn:=[{ι:=Nat×Nat,slots:=fun x=>[(3,zB x.2),(5,.nm 0 0)],rows:=fun x=>[.iter (sb s) x.1]}]
def v7 (r:Nat):Bool:=(decide (65≤r) && decide (r≤90))||(decide (913≤r) && decide (r≤937) && decide (r≠930))
def wM (s:List UInt8):Bool:=(kP s).all v7 && decide (s≠[]) && decide ((kP s).length≤4)
def symC:Con:=con1 (List UInt8) (fun s=>[sV s]) (fun _=>[]) (fun s=>s.length≤1099511627776) (fun s=>yO (wM s)) (fun _=>[])
def yPk (s:List UInt8):List SAnn:=[{ι:=Nat,slots:=fun x=>[(7,.nm 0 0)],rows:=fun x=>[.iter (sb s) x]}]
def iE (l:List Int):List (List D):=l.map fun n=>[.v (.int .i64 n)]
@[reducible] def iV (l:List Int):V:=roV 1 (iE l)
structure Prd where
 code:List UInt8
 months:List Int
 tick:Int
 low:Int
 high:Int
 wide:Int
 rule:Int
 top:Int
 least:Int
 part:Int
 settle:List Int
 deriving DecidableEq
@[reducible] def Prd.cells (p:Prd):List V:=[sV p.code,iV p.months,zB p.tick,zB p.low,zB p.high,zB p.wide,zB p.rule,zB p.top,zB p.least,zB p.part,iV p.settle]
@[reducible] def prdV (p:Prd):V:= .agg p.cells
@[reducible] def Prd.small (p:Prd):Prop:=p.code.length≤1099511627776∧p.months.length≤1099511627776∧p.settle.length≤1099511627776
def qW (l:List Int) (k:Nat):Bool:=decide (0≤l.getD k 0) && decide (l.getD k 0≤1199) && (decide (k=0)||decide (l.getD (k-1) 0<l.getD k 0))
def xH (l:List Int):Bool:=(List.range l.length).all (qW l) && decide (2≤l.length) && decide (l.length≤6)
def monthsC:Con:=con1 (List Int) (fun l=>[iV l]) (fun _=>[]) (fun l=>l.length≤1099511627776) (fun l=>yO (xH l)) (fun _=>[])
def z9v:List SAnn:=[{ι:=Nat,slots:=fun j=>[(7,zB j)],rows:=fun _=>[]}]
structure yPw where
 l:List Int
def aL (l:List Int):Int:=l.tail.foldl min (l.headD 0)
def mV (l:List Int):Int:=l.tail.foldl max (l.headD 0)
def minC:Con:=con1 (List Int) (fun l=>[iV l]) (fun _=>[]) (fun l=>0<l.length∧l.length≤1099511627776) (fun l=>zB (aL l)) (fun _=>[])
def maxC:Con:=con1 (List Int) (fun l=>[iV l]) (fun _=>[]) (fun l=>0<l.length∧l.length≤1099511627776) (fun l=>zB (mV l)) (fun _=>[])
def yOe (l:List Int):List SAnn:=[{ι:=Nat,slots:=fun j=>[(3,zB (aL (l.take j))),(4,zB j)],rows:=fun _=>[]}]
def yPn (l:List Int):List SAnn:=[{ι:=Nat,slots:=fun j=>[(3,zB (mV (l.take j))),(4,zB j)],rows:=fun _=>[]}]
set_option maxRecDepth 100000
open Go Cv Go.Proofs
def gK (a:Nat×Nat) (b:List UInt8) (c:Nat×Nat→Prop) (d:Nat×Nat→Nat):Prop:=∃(e:Nat×Nat),(↑e.snd:Int)=IntKind.i64.wrap ((↑a.snd:Int)+1)∧sb b=sb b∧e.fst=a.fst+(Utf8.decode (sb b) a.fst).snd∧c e∧d e<d a∧True
def zUs (s:List UInt8):Prop:=
 ∃(a:Nat×Nat),(↑a.snd:Int)=0∧sb s=sb s∧a.fst=0∧∃(b:Nat×Nat→Prop),∃(c:Nat×Nat→Nat),b a∧∀(d:Nat×Nat),b d→cnd (d.fst.blt (sb s).size) (gK d s b c) (∃(e:Unit),(↑(kP s).length:Int)=(↑d.snd:Int)∧True)
theorem yDo (hG:GOk Tryz.prog ([])) (h:∀(s:List UInt8),countC.cnd s→zUs s):countC.ok Tryz.prog 108:=okw mixed hG 0 (fun _=>[]) (fun s=>yJm s) [] Tryz.func108 h
def bT (a:List UInt8) (b:Nat):=(↑(Utf8.decode (sb a) b).fst:Int)
def zOg (a:List UInt8) (b:Nat) (c:Nat→Prop) (d:Nat→Nat):Prop:=cnd (decide ((bT a b)≥913)) (cnd (decide ((bT a b)≤937)) (cnd (!(bT a b) !=930) (∃(e:Unit),wM a=false∧True) (∃(e:Nat),sb a=sb a∧e=b+(Utf8.decode (sb a) b).snd∧c e∧d e<d b∧True)) (∃(e:Unit),wM a=false∧True)) (∃(e:Unit),wM a=false∧True)
def yGu (s:List UInt8):Prop:=
 ∃(a:Nat),sb s=sb s∧a=0∧∃(b:Nat→Prop),∃(c:Nat→Nat),b a∧∀(d:Nat),b d→cnd (d.blt (sb s).size) (cnd (decide ((bT s d)≥65)) (cnd (decide ((bT s d)≤90)) (∃(e:Nat),sb s=sb s∧e=d+(Utf8.decode (sb s) d).snd∧b e∧c e<c d∧True) (zOg s d b c)) (zOg s d b c)) (cnd (!(sb s).toList==(ByteArray.mk #[]).toList) (∃(e:List UInt8),sb e=sb s∧e.length≤1099511627776∧∀(f:Unit),True→∃(g:Unit),wM s=decide ((↑(kP e).length:Int)≤4)∧True) (∃(e:Unit),wM s=false∧True))
theorem yMr (hG:GOk Tryz.prog ([(108,countC)])) (h:∀(s:List UInt8),symC.cnd s→yGu s):symC.ok Tryz.prog 82:=okw mixed hG 0 (fun _=>[]) (fun s=>yPk s) [] Tryz.func82 h
def wT (a:Nat) (b:Nat) (c:Nat→Prop) (d:Nat→Nat):Prop:=(↑a:Int)=IntKind.i64.wrap ((↑b:Int)+1)∧c a∧d a<d b∧True
def fB (a:Nat) (b:Nat→Prop) (c:Nat→Nat):Prop:=∃(d:Nat),wT d a b c
def zOa (l:List Int):Prop:=
 ∃(a:Nat),(↑a:Int)=0∧∃(b:Nat→Prop),∃(c:Nat→Nat),b a∧∀(d:Nat),b d→cnd (decide ((↑d:Int)<(↑(iE l).length:Int))) ((0≤(↑d:Int)∧(↑d:Int)<(↑(iE l).length:Int))∧∃(e:Int),zF (iE l) (↑d:Int).toNat 0 1=some [D.v (.int .i64 e)]∧cnd (decide (e<0)) (∃(f:Unit),xH l=false∧True) (cnd (decide (e>1199)) (∃(f:Unit),xH l=false∧True) (cnd (decide ((↑d:Int)>0)) ((0≤IntKind.i64.wrap ((↑d:Int)-1)∧IntKind.i64.wrap ((↑d:Int)-1)<(↑(iE l).length:Int))∧∃(f:Int),zF (iE l) (IntKind.i64.wrap ((↑d:Int)-1)).toNat 0 1=some [D.v (.int .i64 f)]∧cnd (decide (f≥e)) (∃(g:Unit),xH l=false∧True) (fB d b c)) (fB d b c)))) (cnd (decide ((↑(iE l).length:Int)≥2)) (∃(e:Unit),xH l=decide ((↑(iE l).length:Int)≤6)∧True) (∃(e:Unit),xH l=false∧True))
theorem z7m (hG:GOk Tryz.prog ([])) (h:∀(l:List Int),monthsC.cnd l→zOa l):monthsC.ok Tryz.prog 83:=okw mixed hG 0 (fun _=>[]) (fun _=>z9v) [] Tryz.func83 h
def yIz (l:List Int):Prop:=
 cnd (decide ((↑(iE l).length:Int)<1)) False (((0:Int)≤(0:Int)∧0<(↑(iE l).length:Int))∧∃(a:Int),zF (iE l) (Int.toNat 0) 0 1=some [D.v (.int .i64 a)]∧∃(b:Nat),aL (List.take b l)=a∧(↑b:Int)=1∧∃(c:Nat→Prop),∃(d:Nat→Nat),c b∧∀(e:Nat),c e→cnd (decide ((↑e:Int)<(↑(iE l).length:Int))) ((0≤(↑e:Int)∧(↑e:Int)<(↑(iE l).length:Int))∧∃(f:Int),zF (iE l) (↑e:Int).toNat 0 1=some [D.v (.int .i64 f)]∧∃(g:Nat),aL (List.take g l)=min (aL (List.take e l)) f∧wT g e c d) (∃(f:Unit),aL l=aL (List.take e l)∧True))
theorem yMq (hG:GOk Tryz.prog ([])) (h:∀(l:List Int),minC.cnd l→yIz l):minC.ok Tryz.prog 85:=okw mixed hG 0 (fun _=>[]) (fun l=>yOe l) [] Tryz.func85 h
def yFv (l:List Int):Prop:=
 cnd (decide ((↑(iE l).length:Int)<1)) False (((0:Int)≤(0:Int)∧0<(↑(iE l).length:Int))∧∃(a:Int),zF (iE l) (Int.toNat 0) 0 1=some [D.v (.int .i64 a)]∧∃(b:Nat),mV (List.take b l)=a∧(↑b:Int)=1∧∃(c:Nat→Prop),∃(d:Nat→Nat),c b∧∀(e:Nat),c e→cnd (decide ((↑e:Int)<(↑(iE l).length:Int))) ((0≤(↑e:Int)∧(↑e:Int)<(↑(iE l).length:Int))∧∃(f:Int),zF (iE l) (↑e:Int).toNat 0 1=some [D.v (.int .i64 f)]∧∃(g:Nat),(mV (List.take g l)=if f>mV (List.take e l)then f else mV (List.take e l))∧wT g e c d) (∃(f:Unit),mV l=mV (List.take e l)∧True))
theorem yMj (hG:GOk Tryz.prog ([])) (h:∀(l:List Int),maxC.cnd l→yFv l):maxC.ok Tryz.prog 86:=okw mixed hG 0 (fun _=>[]) (fun l=>yPn l) [] Tryz.func86 h
set_option linter.unusedSimpArgs false
open Go Cv Go.Proofs
@[simp] theorem zXd (s:List UInt8):(sb s).size=s.length:=by simp[sb,ByteArray.size]
theorem c8 (s:List UInt8):(sb s).toList=s:=by rw[ByteArray.toList_eq];rfl
theorem yGc (s:List UInt8) (p k:Nat):(sb s).get! (p+k)=(sb (s.drop p)).get! (0+k):=by
 simp only[sb,ByteArray.get!,Nat.zero_add]
 simp only[List.getElem!_toArray,List.getElem!_eq_getElem?_getD,List.getElem?_drop]
theorem zCp (s:List UInt8) (p:Nat):Utf8.decode (sb s) p=zFn (s.drop p):=by
 have h (k:Nat):(decide (p+k<(sb s).size))=decide (0+k<(sb (s.drop p)).size):=by
  simp only[zXd,List.length_drop]
  by_cases h:p+k<s.length
  ·rw[decide_eq_true h,decide_eq_true (by omega)]
  ·rw[decide_eq_false h,decide_eq_false (by omega)]
 unfold zFn Utf8.decode
 simp only[yGc s p,h]
theorem dI (s:List UInt8) {p:Nat} (h:p<s.length):1≤(Utf8.decode (sb s) p).2∧p+(Utf8.decode (sb s) p).2≤s.length:=by
 unfold Utf8.decode
 simp only[zXd,Bool.and_eq_true,decide_eq_true_eq]
 split
 ·exact⟨by simp,by simp;omega⟩
 split
 ·rename_i h1
  split
  ·exact⟨by simp,by simp;omega⟩
  ·exact⟨by simp,by simp;omega⟩
 split
 ·rename_i h1
  split
  ·exact⟨by simp,by simp;omega⟩
  ·exact⟨by simp,by simp;omega⟩
 split
 ·rename_i h1
  split
  ·exact⟨by simp,by simp;omega⟩
  ·exact⟨by simp,by simp;omega⟩
 ·exact⟨by simp,by simp;omega⟩
theorem yHg {l:List UInt8} (h:l≠[]):1≤(zFn l).2∧(zFn l).2≤l.length:=by
 have:=dI l (p:=0) (by cases l<;>simp_all)
 rw[zFn];omega
theorem aK:∀(k:Nat) (p:Nat) (l:List UInt8),l.length≤k→pN k p l=pN l.length p l
 |0,p,l,h=>by
  have:l=[]:=List.eq_nil_of_length_eq_zero (by omega)
  subst this;rfl
 |k+1,p,[],h=>rfl
 |k+1,p,b::l,h=>by
  have hw:=yHg (l:=b::l) (by simp)
  have hl:((b::l).drop (zFn (b::l)).2).length≤l.length:=by rw[List.length_drop,List.length_cons];omega
  rw[List.length_cons]
  simp only[pN]
  rw[aK k _ _ (by rw[List.length_cons]at h;omega),aK l.length _ _ hl]
theorem gN {s:List UInt8} {p:Nat} (h:s.length≤p):uM s p=[]:=by
 rw[uM,show s.length-p=0 by omega];rfl
theorem jV {s:List UInt8} {p:Nat} (h:p<s.length):uM s p=(p,(Utf8.decode (sb s) p).1)::uM s (p+(Utf8.decode (sb s) p).2):=by
 obtain⟨k,hk⟩:∃k,s.length-p=k+1:=⟨s.length-p-1,by omega⟩
 have hw:=dI s h
 obtain⟨b,l,hb⟩:∃b l,s.drop p=b::l:=by
  cases hd:s.drop p with
  |nil=>rw[List.drop_eq_nil_iff]at hd;omega
  |cons b l=>exact⟨b,l,rfl⟩
 have hlen:(b::l).length=s.length-p:=by rw[← hb,List.length_drop]
 rw[uM,hk,hb,zCp,hb,uM]
 rw[zCp,hb]at hw
 simp only[pN]
 have e:(b::l).drop (zFn (b::l)).2=s.drop (p+(zFn (b::l)).2):=by rw[← hb,List.drop_drop]
 rw[e,aK k _ _ (by rw[List.length_drop];omega),List.length_drop]
theorem zFi (s:List UInt8):∀(k p:Nat),s.length-p≤k→(uM s p).length≤s.length-p
 |0,p,h=>by rw[gN (by omega)];simp
 |k+1,p,h=>by
  by_cases hp:p<s.length
  ·have hw:=dI s hp
   rw[jV hp,List.length_cons]
   have:=zFi s k (p+(Utf8.decode (sb s) p).2) (by omega)
   omega
  ·rw[gN (by omega)];simp
theorem zBb (s:List UInt8):(kP s).length≤s.length:=by
 rw[kP,List.length_map]
 have:=zFi s s.length 0 (by omega)
 omega
theorem zYx {a b:Nat} (h:Nat.blt a b=false):b≤a:=by
 rcases Nat.lt_or_ge a b with h1|h1
 ·rw[show Nat.blt a b=true by rw[Nat.blt_eq];exact h1]at h;cases h
 ·exact h1
theorem z5n:(ByteArray.mk #[]).toList=[]:=c8 []
theorem yLi (s:List UInt8) (h:countC.cnd s):zUs s:=by
 have h:s.length≤1099511627776:=h
 have hr:=zBb s
 unfold zUs gK
 refine⟨(0,0),rfl,rfl,rfl,fun x=>x.1≤s.length∧x.2+(uM s x.1).length=(kP s).length,fun x=>s.length-x.1,⟨by omega,by rw[kP,List.length_map];simp⟩,?_⟩
 rintro⟨p,n⟩ ⟨h1,h2⟩
 dsimp only at h1 h2 ⊢
 refine Cv.cnd.mk (fun hp=> ?_) (fun hp=> ?_)
 ·have hp:p<s.length:=by simpa[Nat.blt_eq]using hp
  have hw:=dI s hp
  rw[jV hp,List.length_cons]at h2
  refine⟨(p+(Utf8.decode (sb s) p).2,n+1),?_,rfl,rfl,⟨hw.2,by(first|omega|(dsimp only;omega))⟩,by(first|omega|(dsimp only;omega)),trivial⟩
  rw[w64 (by omega)];rfl
 ·have hp:s.length≤p:=by have:=zYx hp;simpa using this
  rw[gN hp]at h2
  exact⟨(),by rw[← h2];rfl,trivial⟩
theorem z7i:countC.ok Tryz.prog 108:=yDo gok0 yLi
theorem yPd (s:List UInt8) (h:symC.cnd s):yGu s:=by
 have h:s.length≤1099511627776:=h
 unfold yGu zOg bT
 refine⟨0,rfl,rfl,fun p=>p≤s.length∧(kP s).all v7=(uM s p).all fun x=>v7 x.2,fun p=>s.length-p,⟨by omega,by rw[kP,List.all_map];rfl⟩,?_⟩
 rintro p ⟨h1,h2⟩
 refine Cv.cnd.mk (fun hp=> ?_) (fun hp=> ?_)
 ·have hp:p<s.length:=by simpa[Nat.blt_eq]using hp
  have hw:=dI s hp
  rw[jV hp,List.all_cons]at h2
  generalize hc:(Utf8.decode (sb s) p).1=c at h2 ⊢
  generalize hww:(Utf8.decode (sb s) p).2=w at h2 hw ⊢
  dsimp only at h2
  have bad:v7 c=false→∃(o:Unit),wM s=false∧True:=fun e=>⟨(),by rw[wM,h2,e];rfl,trivial⟩
  have good:v7 c=true→∃i':Nat,sb s=sb s∧i'=p+w∧(i'≤s.length∧(kP s).all v7=(uM s i').all fun x=>v7 x.2)∧s.length-i'<s.length-p∧True:=fun e=>⟨p+w,rfl,rfl,⟨hw.2,by rw[h2,e];rfl⟩,by omega,trivial⟩
  refine zK (fun c1=>zK (fun c2=> ?_) (fun c2=>zK (fun c3=>zK (fun c4=>Cv.cnd.mk (fun c5=> ?_) (fun c5=> ?_)) (fun c4=> ?_)) (fun c3=> ?_))) (fun c1=>zK (fun c3=>zK (fun c4=>Cv.cnd.mk (fun c5=> ?_) (fun c5=> ?_)) (fun c4=> ?_)) (fun c3=> ?_))
  all_goals first|(refine good ?_;simp[v7]at*;omega)|(refine bad ?_;simp[v7]at*;omega)
 ·have hp:s.length≤p:=by have:=zYx hp;simpa using this
  rw[gN hp]at h2
  have h2:(kP s).all v7=true:=h2
  refine Cv.cnd.mk (fun e=>⟨s,rfl,h,fun _ _=>⟨(),?_,trivial⟩⟩) (fun e=>⟨(),?_,trivial⟩)
  ·rw[c8,z5n]at e
   have:s≠[]:=by simpa using e
   rw[wM,h2,decide_eq_true this]
   simp only[Bool.true_and]
   congr 1
   simp only[eq_iff_iff];omega
  ·have:s=[]:=by
    rw[c8,z5n]at e
    simpa using e
   rw[wM,this];rfl
theorem yJy:symC.ok Tryz.prog 82:=yMr (gokc z7i gok0) yPd
@[simp] theorem xI (l:List Int):(iE l).length=l.length:=by simp[iE]
theorem elI {l:List Int} {k:Nat} {n:Int} (h:l[k]? =some n):zF (iE l) k 0 1=some [D.v (.int .i64 n)]:=by
 simp[zF,iE,h];rfl
theorem yA {α:Type} {l:List α} {i:Nat} (h:i<l.length):∃x,l[i]? =some x:=⟨l[i],List.getElem?_eq_getElem h⟩
theorem zJb {n k:Nat} {f:Nat→Bool} (hk:k<n) (h:f k=false):(List.range n).all f=false:=by
 cases hh:(List.range n).all f
 ·rfl
 ·rw[List.all_eq_true]at hh
  rw[hh k (by simpa using hk)]at h;cases h
theorem zPj {n:Nat} {f:Nat→Bool} (h:∀k<n,f k=true):(List.range n).all f=true:=by
 rw[List.all_eq_true];intro k hk;exact h k (by simpa using hk)
theorem z9z (l:List Int) (h:monthsC.cnd l):zOa l:=by
 have h:l.length≤1099511627776:=h
 unfold zOa fB wT
 simp only[xI]
 refine⟨0,rfl,fun j=>j≤l.length∧∀k<j,qW l k=true,fun j=>l.length-j,⟨by omega,fun k hk=>by omega⟩,?_⟩
 rintro j ⟨h1,h2⟩
 have bad:j<l.length→qW l j=false→∃(o:Unit),xH l=false∧True:=fun hj e=>⟨(),by rw[xH,zJb hj e];rfl,trivial⟩
 have good:j<l.length→qW l j=true→∃i':Nat,(i':Int)=IntKind.i64.wrap ((j:Int)+1)∧(i'≤l.length∧∀k<i',qW l k=true)∧l.length-i'<l.length-j∧True:=fun hj e=>⟨j+1,by rw[w64 (by omega)];rfl,⟨by omega,fun k hk=>by
  rcases Nat.lt_or_ge k j with hk'|hk'
  ·exact h2 k hk'
  ·obtain rfl:k=j:=by omega
   exact e⟩,by omega,trivial⟩
 refine zK (fun hj=> ?_) (fun hj=> ?_)
 ·have hj:j<l.length:=by omega
  obtain⟨n,hn⟩:=yA hj
  have hg:l.getD j 0=n:=by simp[hn]
  refine⟨⟨by omega,by omega⟩,n,elI hn,zK (fun c1=>bad hj (by simp[qW,hn];omega)) (fun c1=>zK (fun c2=>bad hj (by simp[qW,hn];omega)) (fun c2=>zK (fun c3=> ?_) (fun c3=>good hj ?_)))⟩
  ·have e:IntKind.i64.wrap ((j:Int)-1)=((j-1:Nat):Int):=by rw[w64 (by omega)];omega
   obtain⟨m,hm⟩:=yA (l:=l) (i:=j-1) (by omega)
   rw[e]
   refine⟨⟨by omega,by omega⟩,m,elI hm,zK (fun c4=>bad hj ?_) (fun c4=>good hj ?_)⟩
   ·simp[qW,hn,hm];omega
   ·simp[qW,hn,hm];omega
  ·simp[qW,hn];omega
 ·have e:(List.range l.length).all (qW l)=true:=zPj fun k hk=>h2 k (by omega)
  refine zK (fun c=>⟨(),?_,trivial⟩) (fun c=>⟨(),?_,trivial⟩)
  ·rw[xH,e,decide_eq_true (show 2≤l.length by omega)]
   simp;omega
  ·rw[xH,decide_eq_false (show ¬2≤l.length by omega)];simp
theorem z2m:monthsC.ok Tryz.prog 83:=z7m gok0 z9z
theorem zBy {f:Int→Int→Int} {l:List Int} {j:Nat} {n:Int} (h:l[j+1]? =some n):(l.take (j+2)).tail.foldl f ((l.take (j+2)).headD 0)=f ((l.take (j+1)).tail.foldl f ((l.take (j+1)).headD 0)) n:=by
 cases l with
 |nil=>simp at h
 |cons a l=>
  simp only[List.getElem?_cons_succ]at h
  simp only[List.take_succ_cons,List.tail_cons,List.headD_cons]
  rw[List.take_add_one,h,List.foldl_append];rfl
theorem zRs {l:List Int} {n:Int} (h:l[0]? =some n) (f:Int→Int→Int):(l.take 1).tail.foldl f ((l.take 1).headD 0)=n:=by
 cases l with
 |nil=>simp at h
 |cons a l=>simpa using h
theorem yPb (l:List Int) (h:minC.cnd l):yIz l:=by
 obtain⟨h0,h⟩:0<l.length∧l.length≤1099511627776:=h
 unfold yIz wT
 simp only[xI]
 obtain⟨n,hn⟩:=yA h0
 refine zK (fun c=>by omega) (fun c=>⟨⟨by omega,by omega⟩,n,elI hn,1,zRs hn min,rfl,fun j=>1≤j∧j≤l.length,fun j=>l.length-j,⟨by omega,by omega⟩,?_⟩)
 rintro j ⟨h1,h2⟩
 refine zK (fun hj=> ?_) (fun hj=>⟨(),?_,trivial⟩)
 ·obtain⟨m,hm⟩:=yA (l:=l) (i:=j) (by omega)
  refine⟨⟨by omega,by omega⟩,m,elI hm,j+1,?_,?_,⟨by omega,by omega⟩,by(first|omega|(dsimp only;omega)),trivial⟩
  ·obtain⟨k,rfl⟩:∃k,j=k+1:=⟨j-1,by omega⟩
   first
    |(rw[aL,zBy hm,← aL];done)
    |(rw[aL,zBy hm,← aL];generalize aL (l.take (k+1))=x;split<;>omega)
  ·rw[w64 (by omega)];rfl
 ·rw[List.take_of_length_le (by omega)]
theorem yHd:minC.ok Tryz.prog 85:=yMq gok0 yPb
theorem yOf (l:List Int) (h:maxC.cnd l):yFv l:=by
 obtain⟨h0,h⟩:0<l.length∧l.length≤1099511627776:=h
 unfold yFv wT
 simp only[xI]
 obtain⟨n,hn⟩:=yA h0
 refine zK (fun c=>by omega) (fun c=>⟨⟨by omega,by omega⟩,n,elI hn,1,zRs hn max,rfl,fun j=>1≤j∧j≤l.length,fun j=>l.length-j,⟨by omega,by omega⟩,?_⟩)
 rintro j ⟨h1,h2⟩
 refine zK (fun hj=> ?_) (fun hj=>⟨(),?_,trivial⟩)
 ·obtain⟨m,hm⟩:=yA (l:=l) (i:=j) (by omega)
  refine⟨⟨by omega,by omega⟩,m,elI hm,j+1,?_,?_,⟨by omega,by omega⟩,by(first|omega|(dsimp only;omega)),trivial⟩
  ·obtain⟨k,rfl⟩:∃k,j=k+1:=⟨j-1,by omega⟩
   rw[mV,zBy hm,← mV]
   generalize mV (l.take (k+1))=x
   split<;>omega
  ·rw[w64 (by omega)];rfl
 ·rw[List.take_of_length_le (by omega)]
theorem yLm:maxC.ok Tryz.prog 86:=yMj gok0 yOf
open Go Cv Go.Proofs
@[reducible] def Prd.row (p:Prd):AObj:= .cells p.cells 29
structure zRv where
 p:Prd
 n:Int
structure zHf where
 p:Prd
 l:List Int
def qR (t n:Int):Bool:=n.tmod t !=0
def offC:Con:=con1 zRv (fun i=>[zB i.n,.nm 0 0]) (fun i=>[i.p.row]) (fun i=>1≤i.p.tick) (fun i=>yO (qR i.p.tick i.n)) (fun i=>[i.p.row])
@[reducible] def yNe:V:= .fn 109 [] [.nm 0 0]
def zCt (k:Option Nat):Int:=match k with
 |some k=>k
 |none=> -1
def idxC:Con:=con1 zHf (fun i=>[iV i.l,yNe]) (fun i=>[i.p.row]) (fun i=>1≤i.p.tick∧i.l.length≤1099511627776) (fun i=>zB (zCt (i.l.findIdx? (qR i.p.tick)))) (fun i=>[i.p.row])
def yOn (i:zHf):List SAnn:=[{ι:=Nat,slots:=fun j=>[(8,zB j)],rows:=fun _=>[]}]
def containsC:Con:=con1 zHf (fun i=>[iV i.l,yNe]) (fun i=>[i.p.row]) (fun i=>1≤i.p.tick∧i.l.length≤1099511627776) (fun i=>yO (i.l.any (qR i.p.tick))) (fun i=>[i.p.row])
def qQ (p:Prd):Bool:=decide (1≤p.tick) && decide (p.tick≤1000) && !qR p.tick p.low && !qR p.tick p.high && !qR p.tick p.wide && !p.settle.any (qR p.tick)
def ticksC:Con:=con1 Prd (fun p=>[prdV p]) (fun _=>[]) Prd.small (fun p=>yO (qQ p)) (fun _=>[])
def qP (p:Prd):Bool:=decide (p.low< -1000000)||decide (p.low≥p.high)||decide (p.high>1000000)||decide (p.wide<0)||decide (p.wide>p.high-p.low)
def xK (p:Prd):Bool:=decide (p.settle.length≠p.months.length)||decide (aL p.settle<p.low)||decide (mV p.settle>p.high)
def kE (p:Prd):Bool:=decide (p.rule<1)||decide (p.rule>3)
def qC (p:Prd):Bool:=decide (p.top<0)||decide (p.top>1000000)||decide (p.least<1)||decide (p.least>1000)||decide (p.part<0)||decide (p.part>100)
def Prd.check (p:Prd):Int:=
 if !wM p.code then 12 else if !xH p.months then 1 else if !qQ p then 22 else if qP p then 23 else if xK p then 1 else if kE p then 31 else if qC p then 24 else 0
def checkC:Con:=con1 Prd (fun p=>[prdV p]) (fun _=>[]) Prd.small (fun p=>zB p.check) (fun _=>[])
def Prd.count (p:Prd):Nat:=if p.check=0 then p.months.length+p.months.length*(p.months.length-1) / 2 else 0
def pcountC:Con:=con1 Prd (fun p=>[prdV p]) (fun _=>[]) Prd.small (fun p=>zB p.count) (fun _=>[])
structure cF where
 p:Prd
 n:Int
def z8 (n:Nat):Nat→Nat
 |0=>n
 |k+1=>z8 n k+(n-1-k)
def kA (n inst:Nat):Nat→Nat→Int×Int×Bool
 |0,_=>(0,0,false)
 |k+1,m=>if inst<z8 n m+(n-1-m)then(m,m+1+(inst-z8 n m:Nat),true)else kA n inst k (m+1)
def Prd.legs (p:Prd) (i:Int):Int×Int×Bool:=
 if i<0∨(p.count:Int)≤i then(0,0,false)else if i<p.months.length then(i,i,false)else kA p.months.length i.toNat p.months.length 0
def legsC:Con:=con1 cF (fun i=>[prdV i.p,zB i.n]) (fun _=>[]) (fun i=>i.p.small) (fun i=> .tup [zB (i.p.legs i.n).1,zB (i.p.legs i.n).2.1,yO (i.p.legs i.n).2.2]) (fun _=>[])
structure b9 where
 p:Prd
 a:Int
 b:Int
def Prd.spread (p:Prd) (a b:Int):Int×Bool:=
 if p.check≠0∨a<0∨b≤a∨(p.months.length:Int)≤b then(0,false)else((z8 p.months.length a.toNat:Int)+b-a-1,true)
def spreadC:Con:=con1 b9 (fun i=>[prdV i.p,zB i.a,zB i.b]) (fun _=>[]) (fun i=>i.p.small) (fun i=> .tup [zB (i.p.spread i.a i.b).1,yO (i.p.spread i.a i.b).2]) (fun _=>[])
def Prd.price (p:Prd) (i n:Int):Int:=
 if p.count=0 then 1 else if i<0∨(p.count:Int)≤i then 20 else if qR p.tick n then 22 else
 if n<(if(p.months.length:Int)≤i then-p.wide else p.low)∨(if(p.months.length:Int)≤i then p.wide else p.high)<n then 23 else 0
def priceC:Con:=con1 b9 (fun i=>[prdV i.p,zB i.a,zB i.b]) (fun _=>[]) (fun i=>i.p.small) (fun i=>zB (i.p.price i.a i.b)) (fun _=>[])
structure I2 where
 x:Int
 y:Int
@[reducible] def yQ (n:Int):Prop:= -9223372036854775808≤n∧n≤9223372036854775807
def vH (x y:Int):Int×Bool:=if yQ (x+y)then(x+y,true)else(0,false)
def vN (x y:Int):Int×Bool:=if yQ (x-y)then(x-y,true)else(0,false)
def addC:Con:=con1 I2 (fun i=>[zB i.x,zB i.y]) (fun _=>[]) (fun i=>yQ i.x∧yQ i.y) (fun i=> .tup [zB (vH i.x i.y).1,yO (vH i.x i.y).2]) (fun _=>[])
def subC:Con:=con1 I2 (fun i=>[zB i.x,zB i.y]) (fun _=>[]) (fun i=>yQ i.x∧yQ i.y) (fun i=> .tup [zB (vN i.x i.y).1,yO (vN i.x i.y).2]) (fun _=>[])
def yMm (i:cF):List SAnn:=[{ι:=Nat,slots:=fun m=>[(8,zB (z8 i.p.months.length m)),(33,zB m)],rows:=fun _=>[]}]
def yEo (i:b9):List SAnn:=[{ι:=Nat,slots:=fun m=>[(9,zB (z8 i.p.months.length m)),(33,zB m)],rows:=fun _=>[]}]
open Go Cv Go.Proofs
def yJf (i:zRv):Prop:=
 IntKind.i64=IntKind.i64∧i.p.tick≠0∧∃(a:Unit),qR i.p.tick i.n=(i.n.tmod i.p.tick !=0)∧sb i.p.code=sb i.p.code∧iE i.p.months=iE i.p.months∧i.p.tick=i.p.tick∧i.p.low=i.p.low∧i.p.high=i.p.high∧i.p.wide=i.p.wide∧i.p.rule=i.p.rule∧i.p.top=i.p.top∧i.p.least=i.p.least∧i.p.part=i.p.part∧iE i.p.settle=iE i.p.settle∧True
theorem yMl (hG:GOk Tryz.prog ([])) (h:∀(i:zRv),offC.cnd i→yJf i):offC.ok Tryz.prog 109:=okw mixed hG 0 (fun _=>[]) (fun _=>[]) [] Tryz.func109 h
def yGt (i:zHf):Prop:=
 ∃(a:Nat),(↑a:Int)=0∧∃(b:Nat→Prop),∃(c:Nat→Nat),b a∧∀(d:Nat),b d→cnd (decide ((↑d:Int)<(↑(iE i.l).length:Int))) ((0≤(↑d:Int)∧(↑d:Int)<(↑(iE i.l).length:Int))∧∃(e:Int),zF (iE i.l) (↑d:Int).toNat 0 1=some [D.v (.int .i64 e)]∧∃(f:zRv),f.n=e∧sb f.p.code=sb i.p.code∧iE f.p.months=iE i.p.months∧f.p.tick=i.p.tick∧f.p.low=i.p.low∧f.p.high=i.p.high∧f.p.wide=i.p.wide∧f.p.rule=i.p.rule∧f.p.top=i.p.top∧f.p.least=i.p.least∧f.p.part=i.p.part∧iE f.p.settle=iE i.p.settle∧1≤f.p.tick∧∀(g:Unit),True→cnd (qR f.p.tick f.n) (∃(h:Unit),zCt (List.findIdx? (qR i.p.tick) i.l)=(↑d:Int)∧sb i.p.code=sb f.p.code∧iE i.p.months=iE f.p.months∧i.p.tick=f.p.tick∧i.p.low=f.p.low∧i.p.high=f.p.high∧i.p.wide=f.p.wide∧i.p.rule=f.p.rule∧i.p.top=f.p.top∧i.p.least=f.p.least∧i.p.part=f.p.part∧iE i.p.settle=iE f.p.settle∧True) (∃(h:Nat),(↑h:Int)=IntKind.i64.wrap ((↑d:Int)+1)∧b h∧c h<c d∧Sx.AObj.cells (hZ (dP 1 ((1:Nat)+(0:Nat)) ((1:Nat)-(1:Nat)) [((0:Nat),(0:Nat))]) f.p.cells) (29:TypeId)=i.p.row)) (∃(e:Unit),zCt (List.findIdx? (qR i.p.tick) i.l)=(-1)∧sb i.p.code=sb i.p.code∧iE i.p.months=iE i.p.months∧i.p.tick=i.p.tick∧i.p.low=i.p.low∧i.p.high=i.p.high∧i.p.wide=i.p.wide∧i.p.rule=i.p.rule∧i.p.top=i.p.top∧i.p.least=i.p.least∧i.p.part=i.p.part∧iE i.p.settle=iE i.p.settle∧True)
theorem yLx (hG:GOk Tryz.prog ([(109,offC)])) (h:∀(i:zHf),idxC.cnd i→yGt i):idxC.ok Tryz.prog 125:=okw mixed hG 0 (fun _=>[]) (fun i=>yOn i) [] Tryz.func125 h
def zLk (i:zHf):Prop:=
 ∃(i_1:zHf),iE i_1.l=iE i.l∧sb i_1.p.code=sb i.p.code∧iE i_1.p.months=iE i.p.months∧i_1.p.tick=i.p.tick∧i_1.p.low=i.p.low∧i_1.p.high=i.p.high∧i_1.p.wide=i.p.wide∧i_1.p.rule=i.p.rule∧i_1.p.top=i.p.top∧i_1.p.least=i.p.least∧i_1.p.part=i.p.part∧iE i_1.p.settle=iE i.p.settle∧(1≤i_1.p.tick∧i_1.l.length≤1099511627776)∧∀(o:Unit),True→∃(o:Unit),i.l.any (qR i.p.tick)=decide (zCt (List.findIdx? (qR i_1.p.tick) i_1.l)≥0)∧sb i.p.code=sb i_1.p.code∧iE i.p.months=iE i_1.p.months∧i.p.tick=i_1.p.tick∧i.p.low=i_1.p.low∧i.p.high=i_1.p.high∧i.p.wide=i_1.p.wide∧i.p.rule=i_1.p.rule∧i.p.top=i_1.p.top∧i.p.least=i_1.p.least∧i.p.part=i_1.p.part∧iE i.p.settle=iE i_1.p.settle∧True
theorem zVz (hG:GOk Tryz.prog ([(125,idxC)])) (h:∀(i:zHf),containsC.cnd i→zLk i):containsC.ok Tryz.prog 110:=okw mixed hG 0 (fun _=>[]) (fun _=>[]) [] Tryz.func110 h
def zWt (p:Prd):Prop:=
 cnd (decide (p.tick<1)) (∃(a:Unit),qQ p=false∧True) (cnd (decide (p.tick>1000)) (∃(a:Unit),qQ p=false∧True) (∃(a:zRv),a.n=p.low∧sb a.p.code=sb p.code∧iE a.p.months=iE p.months∧a.p.tick=p.tick∧a.p.low=p.low∧a.p.high=p.high∧a.p.wide=p.wide∧a.p.rule=p.rule∧a.p.top=p.top∧a.p.least=p.least∧a.p.part=p.part∧iE a.p.settle=iE p.settle∧1≤a.p.tick∧∀(b:Unit),True→cnd (!qR a.p.tick a.n) (∃(c:zRv),c.n=a.p.high∧sb c.p.code=sb a.p.code∧iE c.p.months=iE a.p.months∧c.p.tick=a.p.tick∧c.p.low=a.p.low∧c.p.high=a.p.high∧c.p.wide=a.p.wide∧c.p.rule=a.p.rule∧c.p.top=a.p.top∧c.p.least=a.p.least∧c.p.part=a.p.part∧iE c.p.settle=iE a.p.settle∧1≤c.p.tick∧∀(d:Unit),True→cnd (!qR c.p.tick c.n) (∃(e:zRv),e.n=c.p.wide∧sb e.p.code=sb c.p.code∧iE e.p.months=iE c.p.months∧e.p.tick=c.p.tick∧e.p.low=c.p.low∧e.p.high=c.p.high∧e.p.wide=c.p.wide∧e.p.rule=c.p.rule∧e.p.top=c.p.top∧e.p.least=c.p.least∧e.p.part=c.p.part∧iE e.p.settle=iE c.p.settle∧1≤e.p.tick∧∀(f:Unit),True→cnd (!qR e.p.tick e.n) (∃(g:zHf),iE g.l=iE e.p.settle∧sb g.p.code=sb e.p.code∧iE g.p.months=iE e.p.months∧g.p.tick=e.p.tick∧g.p.low=e.p.low∧g.p.high=e.p.high∧g.p.wide=e.p.wide∧g.p.rule=e.p.rule∧g.p.top=e.p.top∧g.p.least=e.p.least∧g.p.part=e.p.part∧iE g.p.settle=iE e.p.settle∧(1≤g.p.tick∧g.l.length≤1099511627776)∧∀(h:Unit),True→∃(j:Unit),qQ p=!g.l.any (qR g.p.tick)∧True) (∃(g:Unit),qQ p=false∧True)) (∃(e:Unit),qQ p=false∧True)) (∃(c:Unit),qQ p=false∧True)))
theorem yCr (hG:GOk Tryz.prog ([(109,offC),(110,containsC)])) (h:∀(p:Prd),ticksC.cnd p→zWt p):ticksC.ok Tryz.prog 84:=okw mixed hG 0 (fun _=>[]) (fun _=>[]) [] Tryz.func84 h
def xZ (a:Prd):Prop:=a.code.length≤1099511627776∧a.months.length≤1099511627776∧a.settle.length≤1099511627776
def jY (a:Prd):=(↑(iE a.settle).length:Int)
def xJ (a:Prd):=(↑(iE a.months).length:Int)
def zTs (p:Prd):Prop:=
 ∃(a:List UInt8),sb a=sb p.code∧a.length≤1099511627776∧∀(b:Unit),True→cnd (!wM a) (∃(c:Unit),p.check=12∧True) (∃(c:List Int),iE c=iE p.months∧c.length≤1099511627776∧∀(d:Unit),True→cnd (!xH c) (∃(e:Unit),p.check=1∧True) (∃(e:Prd),sb e.code=sb p.code∧iE e.months=iE p.months∧e.tick=p.tick∧e.low=p.low∧e.high=p.high∧e.wide=p.wide∧e.rule=p.rule∧e.top=p.top∧e.least=p.least∧e.part=p.part∧iE e.settle=iE p.settle∧(xZ e)∧∀(f:Unit),True→cnd (!qQ e) (∃(g:Unit),p.check=22∧True) (cnd (decide (p.low<(-1000000))) (∃(g:Unit),p.check=23∧True) (cnd (decide (p.low≥p.high)) (∃(g:Unit),p.check=23∧True) (cnd (decide (p.high>1000000)) (∃(g:Unit),p.check=23∧True) (cnd (decide (p.wide<0)) (∃(g:Unit),p.check=23∧True) (cnd (decide (p.wide>IntKind.i64.wrap (p.high-p.low))) (∃(g:Unit),p.check=23∧True) (cnd ((jY p) !=(xJ p)) (∃(g:Unit),p.check=1∧True) (∃(g:List Int),iE g=iE p.settle∧(0<g.length∧g.length≤1099511627776)∧∀(h:Unit),True→p.low=p.low∧cnd (decide (aL g<p.low)) (∃(j:Unit),p.check=1∧True) (∃(j:List Int),iE j=iE p.settle∧(0<j.length∧j.length≤1099511627776)∧∀(k:Unit),True→p.high=p.high∧cnd (decide (mV j>p.high)) (∃(l:Unit),p.check=1∧True) (cnd (decide (p.rule<1)) (∃(l:Unit),p.check=31∧True) (cnd (decide (p.rule>3)) (∃(l:Unit),p.check=31∧True) (cnd (decide (p.top<0)) (∃(l:Unit),p.check=24∧True) (cnd (decide (p.top>1000000)) (∃(l:Unit),p.check=24∧True) (cnd (decide (p.least<1)) (∃(l:Unit),p.check=24∧True) (cnd (decide (p.least>1000)) (∃(l:Unit),p.check=24∧True) (cnd (decide (p.part<0)) (∃(l:Unit),p.check=24∧True) (cnd (decide (p.part>100)) (∃(l:Unit),p.check=24∧True) (∃(l:Unit),p.check=0∧True)))))))))))))))))))
theorem yDq (hG:GOk Tryz.prog ([(82,symC),(83,monthsC),(84,ticksC),(85,minC),(86,maxC)])) (h:∀(p:Prd),checkC.cnd p→zTs p):checkC.ok Tryz.prog 50:=okw mixed hG 0 (fun _=>[]) (fun _=>[]) [] Tryz.func50 h
def zZo (p:Prd):Prop:=
 ∃(i:Prd),sb i.code=sb p.code∧iE i.months=iE p.months∧i.tick=p.tick∧i.low=p.low∧i.high=p.high∧i.wide=p.wide∧i.rule=p.rule∧i.top=p.top∧i.least=p.least∧i.part=p.part∧iE i.settle=iE p.settle∧(i.code.length≤1099511627776∧i.months.length≤1099511627776∧i.settle.length≤1099511627776)∧∀(o:Unit),True→cnd (i.check !=0) (∃(o:Unit),(↑p.count:Int)=0∧True) (IntKind.i64=IntKind.i64∧(2:Int)≠(0:Int)∧∃(o:Unit),(↑p.count:Int)=IntKind.i64.wrap ((↑(iE p.months).length:Int)+IntKind.i64.wrap ((IntKind.i64.wrap ((↑(iE p.months).length:Int)*IntKind.i64.wrap ((↑(iE p.months).length:Int)-1))).tdiv 2))∧True)
theorem z9e (hG:GOk Tryz.prog ([(50,checkC)])) (h:∀(p:Prd),pcountC.cnd p→zZo p):pcountC.ok Tryz.prog 24:=okw mixed hG 0 (fun _=>[]) (fun _=>[]) [] Tryz.func24 h
def yFm (i:cF):Prop:=
 ∃(i_1:Prd),sb i_1.code=sb i.p.code∧iE i_1.months=iE i.p.months∧i_1.tick=i.p.tick∧i_1.low=i.p.low∧i_1.high=i.p.high∧i_1.wide=i.p.wide∧i_1.rule=i.p.rule∧i_1.top=i.p.top∧i_1.least=i.p.least∧i_1.part=i.p.part∧iE i_1.settle=iE i.p.settle∧(i_1.code.length≤1099511627776∧i_1.months.length≤1099511627776∧i_1.settle.length≤1099511627776)∧∀(o:Unit),True→cnd (decide (i.n<0)) (∃(o:Unit),(i.p.legs i.n).fst=0∧(i.p.legs i.n).snd.fst=0∧(i.p.legs i.n).snd.snd=false∧True) (cnd (decide (i.n≥(↑i_1.count:Int))) (∃(o:Unit),(i.p.legs i.n).fst=0∧(i.p.legs i.n).snd.fst=0∧(i.p.legs i.n).snd.snd=false∧True) (cnd (decide (i.n<(↑(iE i.p.months).length:Int))) (∃(o:Unit),(i.p.legs i.n).fst=i.n∧(i.p.legs i.n).snd.fst=i.n∧(i.p.legs i.n).snd.snd=false∧True) (∃(i0:Nat),(↑(z8 i.p.months.length i0):Int)=(↑(iE i.p.months).length:Int)∧(↑i0:Int)=0∧∃(I:Nat→Prop),∃(μ:Nat→Nat),I i0∧∀(i_2:Nat),I i_2→cnd (decide ((↑i_2:Int)<(↑(iE i.p.months).length:Int))) (cnd (decide (i.n<IntKind.i64.wrap ((↑(z8 i.p.months.length i_2):Int)+IntKind.i64.wrap (IntKind.i64.wrap ((↑(iE i.p.months).length:Int)-1)-(↑i_2:Int))))) (∃(o:Unit),(i.p.legs i.n).fst=(↑i_2:Int)∧(i.p.legs i.n).snd.fst=IntKind.i64.wrap (IntKind.i64.wrap (IntKind.i64.wrap ((↑i_2:Int)+1)+i.n)-(↑(z8 i.p.months.length i_2):Int))∧(i.p.legs i.n).snd.snd=true∧True) (∃(i':Nat),(↑(z8 i.p.months.length i'):Int)=IntKind.i64.wrap ((↑(z8 i.p.months.length i_2):Int)+IntKind.i64.wrap (IntKind.i64.wrap ((↑(iE i.p.months).length:Int)-1)-(↑i_2:Int)))∧(↑i':Int)=IntKind.i64.wrap ((↑i_2:Int)+1)∧I i'∧μ i'<μ i_2∧Sx.AObj.cells [V.d (D.v (Value.string (sb i.p.code))),V.own 0,V.d (D.v (.int .i64 i.p.tick)),V.d (D.v (.int .i64 i.p.low)),V.d (D.v (.int .i64 i.p.high)),V.d (D.v (.int .i64 i.p.wide)),V.d (D.v (.int .i64 i.p.rule)),V.d (D.v (.int .i64 i.p.top)),V.d (D.v (.int .i64 i.p.least)),V.d (D.v (.int .i64 i.p.part)),V.own ((0:Nat)+(1:Nat))] 29=Sx.AObj.cells [V.d (D.v (Value.string (sb i.p.code))),V.own 0,V.d (D.v (.int .i64 i.p.tick)),V.d (D.v (.int .i64 i.p.low)),V.d (D.v (.int .i64 i.p.high)),V.d (D.v (.int .i64 i.p.wide)),V.d (D.v (.int .i64 i.p.rule)),V.d (D.v (.int .i64 i.p.top)),V.d (D.v (.int .i64 i.p.least)),V.d (D.v (.int .i64 i.p.part)),V.own ((0:Nat)+(1:Nat))] 29∧AObj.fro 1 (iE i.p.settle)=AObj.fro 1 (iE i.p.settle)∧AObj.fro 1 (iE i.p.months)=AObj.fro 1 (iE i.p.months))) (∃(o:Unit),(i.p.legs i.n).fst=0∧(i.p.legs i.n).snd.fst=0∧(i.p.legs i.n).snd.snd=false∧True))))
theorem yJr (hG:GOk Tryz.prog ([(24,pcountC)])) (h:∀(i:cF),legsC.cnd i→yFm i):legsC.ok Tryz.prog 51:=okw mixed hG 0 (fun _=>[]) (fun i=>yMm i) [] Tryz.func51 h
def zXe (i:b9):Prop:=
 ∃(i_1:Prd),sb i_1.code=sb i.p.code∧iE i_1.months=iE i.p.months∧i_1.tick=i.p.tick∧i_1.low=i.p.low∧i_1.high=i.p.high∧i_1.wide=i.p.wide∧i_1.rule=i.p.rule∧i_1.top=i.p.top∧i_1.least=i.p.least∧i_1.part=i.p.part∧iE i_1.settle=iE i.p.settle∧(i_1.code.length≤1099511627776∧i_1.months.length≤1099511627776∧i_1.settle.length≤1099511627776)∧∀(o:Unit),True→cnd (i_1.check !=0) (∃(o:Unit),(i.p.spread i.a i.b).fst=0∧(i.p.spread i.a i.b).snd=false∧True) (cnd (decide (i.a<0)) (∃(o:Unit),(i.p.spread i.a i.b).fst=0∧(i.p.spread i.a i.b).snd=false∧True) (cnd (decide (i.a≥i.b)) (∃(o:Unit),(i.p.spread i.a i.b).fst=0∧(i.p.spread i.a i.b).snd=false∧True) (cnd (decide (i.b≥(↑(iE i.p.months).length:Int))) (∃(o:Unit),(i.p.spread i.a i.b).fst=0∧(i.p.spread i.a i.b).snd=false∧True) (∃(i0:Nat),(↑(z8 i.p.months.length i0):Int)=(↑(iE i.p.months).length:Int)∧(↑i0:Int)=0∧∃(I:Nat→Prop),∃(μ:Nat→Nat),I i0∧∀(i_2:Nat),I i_2→cnd (decide ((↑i_2:Int)<i.a)) (∃(i':Nat),(↑(z8 i.p.months.length i'):Int)=IntKind.i64.wrap ((↑(z8 i.p.months.length i_2):Int)+IntKind.i64.wrap (IntKind.i64.wrap ((↑(iE i.p.months).length:Int)-1)-(↑i_2:Int)))∧(↑i':Int)=IntKind.i64.wrap ((↑i_2:Int)+1)∧I i'∧μ i'<μ i_2∧Sx.AObj.cells [V.d (D.v (Value.string (sb i.p.code))),V.own 0,V.d (D.v (.int .i64 i.p.tick)),V.d (D.v (.int .i64 i.p.low)),V.d (D.v (.int .i64 i.p.high)),V.d (D.v (.int .i64 i.p.wide)),V.d (D.v (.int .i64 i.p.rule)),V.d (D.v (.int .i64 i.p.top)),V.d (D.v (.int .i64 i.p.least)),V.d (D.v (.int .i64 i.p.part)),V.own ((0:Nat)+(1:Nat))] 29=Sx.AObj.cells [V.d (D.v (Value.string (sb i.p.code))),V.own 0,V.d (D.v (.int .i64 i.p.tick)),V.d (D.v (.int .i64 i.p.low)),V.d (D.v (.int .i64 i.p.high)),V.d (D.v (.int .i64 i.p.wide)),V.d (D.v (.int .i64 i.p.rule)),V.d (D.v (.int .i64 i.p.top)),V.d (D.v (.int .i64 i.p.least)),V.d (D.v (.int .i64 i.p.part)),V.own ((0:Nat)+(1:Nat))] 29∧AObj.fro 1 (iE i.p.settle)=AObj.fro 1 (iE i.p.settle)∧AObj.fro 1 (iE i.p.months)=AObj.fro 1 (iE i.p.months)) (∃(o:Unit),(i.p.spread i.a i.b).fst=IntKind.i64.wrap (IntKind.i64.wrap (IntKind.i64.wrap ((↑(z8 i.p.months.length i_2):Int)+i.b)-i.a)-1)∧(i.p.spread i.a i.b).snd=true∧True)))))
theorem z7x (hG:GOk Tryz.prog ([(50,checkC)])) (h:∀(i:b9),spreadC.cnd i→zXe i):spreadC.ok Tryz.prog 54:=okw mixed hG 0 (fun _=>[]) (fun i=>yEo i) [] Tryz.func54 h
def z8b (i:b9):Prop:=
 ∃(i_1:Prd),sb i_1.code=sb i.p.code∧iE i_1.months=iE i.p.months∧i_1.tick=i.p.tick∧i_1.low=i.p.low∧i_1.high=i.p.high∧i_1.wide=i.p.wide∧i_1.rule=i.p.rule∧i_1.top=i.p.top∧i_1.least=i.p.least∧i_1.part=i.p.part∧iE i_1.settle=iE i.p.settle∧(i_1.code.length≤1099511627776∧i_1.months.length≤1099511627776∧i_1.settle.length≤1099511627776)∧∀(o:Unit),True→cnd ((↑i_1.count:Int)==0) (∃(o:Unit),i.p.price i.a i.b=1∧True) (cnd (decide (i.a<0)) (∃(o:Unit),i.p.price i.a i.b=20∧True) (cnd (decide (i.a≥(↑i_1.count:Int))) (∃(o:Unit),i.p.price i.a i.b=20∧True) (IntKind.i64=IntKind.i64∧i.p.tick≠0∧cnd (i.b.tmod i.p.tick !=0) (∃(o:Unit),i.p.price i.a i.b=22∧True) (cnd (decide (i.a≥(↑(iE i.p.months).length:Int))) (cnd (decide (i.b<IntKind.i64.wrap (0-i.p.wide))) (∃(o:Unit),i.p.price i.a i.b=23∧True) (cnd (decide (i.b>i.p.wide)) (∃(o:Unit),i.p.price i.a i.b=23∧True) (∃(o:Unit),i.p.price i.a i.b=0∧True))) (cnd (decide (i.b<i.p.low)) (∃(o:Unit),i.p.price i.a i.b=23∧True) (cnd (decide (i.b>i.p.high)) (∃(o:Unit),i.p.price i.a i.b=23∧True) (∃(o:Unit),i.p.price i.a i.b=0∧True)))))))
theorem z9x (hG:GOk Tryz.prog ([(24,pcountC)])) (h:∀(i:b9),priceC.cnd i→z8b i):priceC.ok Tryz.prog 72:=okw mixed hG 0 (fun _=>[]) (fun _=>[]) [] Tryz.func72 h
def zHi (a:I2):Prop:=∃(b:Unit),(vH a.x a.y).fst=IntKind.i64.wrap (a.x+a.y)∧(vH a.x a.y).snd=true∧True
def yKe (i:I2):Prop:=
 cnd (decide (i.x<0)==decide (i.y<0)) (cnd (!decide (IntKind.i64.wrap (i.x+i.y)<0)==decide (i.x<0)) (∃(a:Unit),(vH i.x i.y).fst=0∧(vH i.x i.y).snd=false∧True) (zHi i)) (zHi i)
theorem yMy (hG:GOk Tryz.prog ([])) (h:∀(i:I2),addC.cnd i→yKe i):addC.ok Tryz.prog 87:=okw mixed hG 0 (fun _=>[]) (fun _=>[]) [] Tryz.func87 h
def zIb (a:I2):Prop:=∃(b:Unit),(vN a.x a.y).fst=IntKind.i64.wrap (a.x-a.y)∧(vN a.x a.y).snd=true∧True
def yHr (i:I2):Prop:=
 cnd (!decide (i.x<0)==decide (i.y<0)) (cnd (!decide (IntKind.i64.wrap (i.x-i.y)<0)==decide (i.x<0)) (∃(a:Unit),(vN i.x i.y).fst=0∧(vN i.x i.y).snd=false∧True) (zIb i)) (zIb i)
theorem yNh (hG:GOk Tryz.prog ([])) (h:∀(i:I2),subC.cnd i→yHr i):subC.ok Tryz.prog 88:=okw mixed hG 0 (fun _=>[]) (fun _=>[]) [] Tryz.func88 h
open Go Cv Go.Proofs
theorem yOp (i:zRv) (h:offC.cnd i):yJf i:=by
 have h:1≤i.p.tick:=h
 unfold yJf;exact kp
theorem z4j:offC.ok Tryz.prog 109:=yMl gok0 yOp
theorem zBg {α:Type} {f:α→Bool} {l:List α} (h:∀(k:Nat) (x:α),l[k]? =some x→f x=false):l.findIdx? f=none:=by
 rw[List.findIdx?_eq_none_iff]
 intro x hx
 obtain⟨k,hk⟩:=List.getElem?_of_mem hx
 exact h k x hk
theorem zAk {α:Type} {f:α→Bool} {l:List α} {j:Nat} {x:α} (h1:l[j]? =some x) (h2:f x=true) (h:∀k<j,∀x:α,l[k]? =some x→f x=false):l.findIdx? f=some j:=by
 rw[List.findIdx?_eq_some_iff_getElem]
 obtain⟨hj,rfl⟩:=List.getElem?_eq_some_iff.1 h1
 exact⟨hj,h2,fun k hk=>by rw[h k hk _ (List.getElem?_eq_getElem (by omega))];simp⟩
theorem yPe (i:zHf) (h:idxC.cnd i):yGt i:=by
 obtain⟨h1,h2⟩:1≤i.p.tick∧i.l.length≤1099511627776:=h
 unfold yGt
 simp only[xI]
 refine⟨0,rfl,fun j=>j≤i.l.length∧∀k<j,∀x,i.l[k]? =some x→qR i.p.tick x=false,fun j=>i.l.length-j,⟨by omega,fun k hk=>by omega⟩,?_⟩
 rintro j ⟨h3,h4⟩
 refine zK (fun hj=> ?_) (fun hj=> ?_)
 ·obtain⟨n,hn⟩:=yA (l:=i.l) (i:=j) (by omega)
  refine⟨⟨by omega,by omega⟩,n,elI hn,⟨i.p,n⟩,?_⟩
  (repeat'(first|exact rfl|exact trivial|assumption|apply And.intro|refine fun(_:Unit) (_:True)=>?_|refine Exists.intro () ?_|omega|(dsimp only;omega)))
  refine Cv.cnd.mk (fun e=> ?_) (fun e=> ?_)
  ·rw[zAk hn e h4];exact kp
  ·refine⟨j+1,by rw[w64 (by omega)];rfl,⟨by omega,fun k hk x hx=> ?_⟩,by(first|omega|(dsimp only;omega)),rfl⟩
   rcases Nat.lt_or_ge k j with hk'|hk'
   ·exact h4 k hk' x hx
   ·obtain rfl:k=j:=by omega
    rw[hn]at hx;cases hx;exact e
 ·rw[zBg fun k x hx=>h4 k (by have:=(List.getElem?_eq_some_iff.1 hx).1;omega) x hx];exact kp
theorem yKm:idxC.ok Tryz.prog 125:=yLx (gokc z4j gok0) yPe
theorem z0b {l:List Int} {f:Int→Bool}:l.any f=decide (zCt (l.findIdx? f)≥0):=by
 cases hf:l.findIdx? f with
 |none=>
  rw[List.findIdx?_eq_none_iff]at hf
  have:l.any f=false:=by rw[List.any_eq_false];intro x hx;simp[hf x hx]
  rw[this];rfl
 |some k=>
  rw[List.findIdx?_eq_some_iff_getElem]at hf
  obtain⟨hk,h1,_⟩:=hf
  have:l.any f=true:=by rw[List.any_eq_true];exact⟨_,List.getElem_mem hk,h1⟩
  rw[this,zCt,decide_eq_true (by omega)]
theorem z1h (i:zHf) (h:containsC.cnd i):zLk i:=by
 have h':1≤i.p.tick∧i.l.length≤1099511627776:=h
 refine⟨i,?_⟩
 (repeat'(first|exact rfl|exact trivial|assumption|apply And.intro|refine fun(_:Unit) (_:True)=>?_|refine Exists.intro () ?_|omega|(dsimp only;omega)))
 exact z0b
theorem zOs:containsC.ok Tryz.prog 110:=zVz (gokc yKm gok0) z1h
theorem yIp (p:Prd) (h:ticksC.cnd p):zWt p:=by
 obtain⟨h1,h2,h3⟩:p.small:=h
 unfold zWt
 refine zK (fun c1=>⟨(),by rw[qQ,decide_eq_false (by omega)];rfl,trivial⟩) (fun c1=>zK (fun c2=>⟨(),by rw[qQ,decide_eq_false (show ¬p.tick≤1000 by omega)];simp,trivial⟩) (fun c2=>⟨⟨p,p.low⟩,?_⟩))
 have e1:qQ p=(!qR p.tick p.low && !qR p.tick p.high && !qR p.tick p.wide && !p.settle.any (qR p.tick)):=by
  rw[qQ,decide_eq_true (by omega),decide_eq_true (by omega)];rfl
 rw[e1]
 (repeat'(first|exact rfl|exact trivial|assumption|apply And.intro|refine fun(_:Unit) (_:True)=>?_|refine Exists.intro () ?_|omega|(dsimp only;omega)))
 refine Cv.cnd.mk (fun c3=>⟨⟨p,p.high⟩,?_⟩) (fun c3=>⟨(),?_,trivial⟩)
 ·dsimp only at c3
  (repeat'(first|exact rfl|exact trivial|assumption|apply And.intro|refine fun(_:Unit) (_:True)=>?_|refine Exists.intro () ?_|omega|(dsimp only;omega)))
  refine Cv.cnd.mk (fun c4=>⟨⟨p,p.wide⟩,?_⟩) (fun c4=>⟨(),?_,trivial⟩)
  ·dsimp only at c4
   (repeat'(first|exact rfl|exact trivial|assumption|apply And.intro|refine fun(_:Unit) (_:True)=>?_|refine Exists.intro () ?_|omega|(dsimp only;omega)))
   refine Cv.cnd.mk (fun c5=>⟨⟨p,p.settle⟩,?_⟩) (fun c5=>⟨(),?_,trivial⟩)
   ·dsimp only at c5
    (repeat'(first|exact rfl|exact trivial|assumption|apply And.intro|refine fun(_:Unit) (_:True)=>?_|refine Exists.intro () ?_|omega|(dsimp only;omega)))
    rw[c3,c4,c5];simp
   ·dsimp only at c5
    rw[c5];simp
  ·dsimp only at c4
   rw[c4];simp
 ·dsimp only at c3
  rw[c3];simp
theorem z5u:ticksC.ok Tryz.prog 84:=yCr (gokc z4j (gokc zOs gok0)) yIp
theorem yGe (p:Prd) (h:checkC.cnd p):zTs p:=by
 obtain⟨h1,h2,h3⟩:p.small:=h
 unfold zTs xJ jY xZ
 simp only[xI]
 refine⟨p.code,rfl,h1,fun _ _=>Cv.cnd.mk (fun c1=>⟨(),by rw[Prd.check,if_pos c1],trivial⟩) (fun c1=>⟨p.months,rfl,h2,fun _ _=>Cv.cnd.mk (fun c2=>⟨(),by rw[Prd.check,if_neg (by simp[c1]),if_pos c2],trivial⟩) (fun c2=>⟨p,?_⟩)⟩)⟩
 (repeat'(first|exact rfl|exact trivial|assumption|apply And.intro|refine fun(_:Unit) (_:True)=>?_|refine Exists.intro () ?_|omega|(dsimp only;omega)))
 refine Cv.cnd.mk (fun c3=>⟨(),by rw[Prd.check,if_neg (by simp[c1]),if_neg (by simp[c2]),if_pos c3],trivial⟩) (fun c3=> ?_)
 have e0:p.check=if qP p then 23 else if xK p then 1 else if kE p then 31 else if qC p then 24 else 0:=by
  rw[Prd.check,if_neg (by simp[c1]),if_neg (by simp[c2]),if_neg (by simp[c3])]
 have b (hb:qP p=true):∃(o:Unit),p.check=23∧True:=⟨(),by rw[e0,if_pos hb],trivial⟩
 refine zK (fun d1=>b (by simp[qP,d1])) fun d1=>zK (fun d2=>b (by simp[qP];omega)) fun d2=>zK (fun d3=>b (by simp[qP];omega)) fun d3=>zK (fun d4=>b (by simp[qP];omega)) fun d4=> ?_
 rw[w64 (by omega)]
 refine zK (fun d5=>b (by simp[qP];omega)) fun d5=> ?_
 have e1:p.check=if xK p then 1 else if kE p then 31 else if qC p then 24 else 0:=by
  rw[e0,if_neg (by simp[qP];omega)]
 have s (hb:xK p=true):∃(o:Unit),p.check=1∧True:=⟨(),by rw[e1,if_pos hb],trivial⟩
 have hm:2≤p.months.length:=by
  have c2:xH p.months=true:=by simpa using c2
  simp[xH]at c2;omega
 refine Cv.cnd.mk (fun d6=>s (by have d6:¬(p.settle.length:Int)=p.months.length:=(by simpa using d6);simp[xK];omega)) fun d6=> ?_
 have d6:p.settle.length=p.months.length:=by
  have:(p.settle.length:Int)=p.months.length:=by simpa using d6
  omega
 refine⟨p.settle,rfl,⟨by omega,by omega⟩,fun _ _=>⟨kp,zK (fun d7=>s (by simp[xK];left;right;omega)) fun d7=>⟨p.settle,rfl,⟨by omega,by omega⟩,fun _ _=>⟨kp,zK (fun d8=>s (by simp[xK];right;omega)) fun d8=> ?_⟩⟩⟩⟩
 have e2:p.check=if kE p then 31 else if qC p then 24 else 0:=by
  rw[e1,if_neg (by simp[xK];omega)]
 have r (hb:kE p=true):∃(o:Unit),p.check=31∧True:=⟨(),by rw[e2,if_pos hb],trivial⟩
 refine zK (fun d9=>r (by simp[kE];omega)) fun d9=>zK (fun d10=>r (by simp[kE];omega)) fun d10=> ?_
 have e3:p.check=if qC p then 24 else 0:=by
  rw[e2,if_neg (by simp[kE];omega)]
 have q (hb:qC p=true):∃(o:Unit),p.check=24∧True:=⟨(),by rw[e3,if_pos hb],trivial⟩
 refine zK (fun f1=>q (by simp[qC];omega)) fun f1=>zK (fun f2=>q (by simp[qC];omega)) fun f2=>zK (fun f3=>q (by simp[qC];omega)) fun f3=>zK (fun f4=>q (by simp[qC];omega)) fun f4=>zK (fun f5=>q (by simp[qC];omega)) fun f5=>zK (fun f6=>q (by simp[qC];omega)) fun f6=> ?_
 exact⟨(),by rw[e3,if_neg (by simp[qC];omega)],trivial⟩
theorem eG:checkC.ok Tryz.prog 50:=yDq (gokc yJy (gokc z2m (gokc z5u (gokc yHd (gokc yLm gok0))))) yGe
structure Prd.Ok (p:Prd):Prop where
 sym:wM p.code=true
 months:xH p.months=true
 ticks:qQ p=true
 m2:2≤p.months.length
 m6:p.months.length≤6
 t1:1≤p.tick
 t2:p.tick≤1000
 b1: -1000000≤p.low
 b2:p.low<p.high
 b3:p.high≤1000000
 b4:0≤p.wide
 b5:p.wide≤p.high-p.low
 s1:p.settle.length=p.months.length
 s2:p.low≤aL p.settle
 s3:mV p.settle≤p.high
 r1:1≤p.rule
 r2:p.rule≤3
 q1:0≤p.top
 q2:p.top≤1000000
 q3:1≤p.least
 q4:p.least≤1000
 q5:0≤p.part
 q6:p.part≤100
theorem qY {p:Prd} (h:p.check=0):p.Ok:=by
 unfold Prd.check at h
 split at h<;>first|(exfalso;revert h;decide)|skip
 rename_i c1
 split at h<;>first|(exfalso;revert h;decide)|skip
 rename_i c2
 split at h<;>first|(exfalso;revert h;decide)|skip
 rename_i c3
 split at h<;>first|(exfalso;revert h;decide)|skip
 rename_i c4
 split at h<;>first|(exfalso;revert h;decide)|skip
 rename_i c5
 split at h<;>first|(exfalso;revert h;decide)|skip
 rename_i c6
 split at h<;>first|(exfalso;revert h;decide)|skip
 rename_i c7
 simp only[Bool.not_eq_true',Bool.not_eq_false,Bool.not_eq_true]at c1 c2 c3
 have m:=c2
 have t:=c3
 simp[xH]at m
 simp[qQ]at t
 simp[qP]at c4
 simp[xK]at c5
 simp[kE]at c6
 simp[qC]at c7
 exact⟨c1,c2,c3,by omega,by omega,by omega,by omega,by omega,by omega,by omega,by omega,by omega,by omega,by omega,by omega,by omega,by omega,by omega,by omega,by omega,by omega,by omega,by omega⟩
theorem z5w {n:Nat} (h:n≤6):n+n*(n-1) / 2≤21:=by
 have:∀n≤6,n+n*(n-1) / 2≤21:=by decide
 exact this n h
theorem yEl (p:Prd) (h:pcountC.cnd p):zZo p:=by
 obtain⟨h1,h2,h3⟩:p.small:=h
 refine⟨p,?_⟩
 simp only[xI]
 (repeat'(first|exact rfl|exact trivial|assumption|apply And.intro|refine fun(_:Unit) (_:True)=>?_|refine Exists.intro () ?_|omega|(dsimp only;omega)))
 refine Cv.cnd.mk (fun c=>⟨(),by rw[Prd.count,if_neg (by simpa using c)];rfl,trivial⟩) (fun c=> ?_)
 have c:p.check=0:=by simpa using c
 have ok:=qY c
 refine⟨kp,by decide,(),?_,trivial⟩
 rw[Prd.count,if_pos c]
 obtain⟨n,hn⟩:∃n,p.months.length=n:=⟨_,rfl⟩
 have m2:=ok.m2
 have m6:=ok.m6
 rw[hn]at m2 m6 ⊢
 have:n=2∨n=3∨n=4∨n=5∨n=6:=by omega
 rcases this with rfl|rfl|rfl|rfl|rfl<;>rfl
theorem pcount_ok:pcountC.ok Tryz.prog 24:=z9e (gokc eG gok0) yEl
theorem nO {p:Prd} (h:p.count≠0):p.check=0:=by
 unfold Prd.count at h
 split at h
 ·assumption
 ·exact absurd rfl h
theorem qG (p:Prd):p.count≤21:=by
 unfold Prd.count
 split
 ·rename_i h;exact z5w (qY h).m6
 ·omega
theorem zIk {n m:Nat} (h:n≤6) (hm:m≤n):z8 n m≤21:=by
 have:∀n≤6,∀m≤n,z8 n m≤21:=by decide
 exact this n h m hm
theorem yLy (i:cF) (h:legsC.cnd i):yFm i:=by
 obtain⟨h1,h2,h3⟩:i.p.small:=h
 refine⟨i.p,?_⟩
 simp only[xI]
 (repeat'(first|exact rfl|exact trivial|assumption|apply And.intro|refine fun(_:Unit) (_:True)=>?_|refine Exists.intro () ?_|omega|(dsimp only;omega)))
 refine zK (fun c1=> ?_) (fun c1=>zK (fun c2=> ?_) (fun c2=> ?_))
 ·rw[Prd.legs,if_pos (by omega)];exact kp
 ·rw[Prd.legs,if_pos (by omega)];exact kp
 have c2:¬i.n≥(i.p.count:Int):=c2
 have hc:=qG i.p
 have ok:=qY (nO (p:=i.p) (by omega))
 have m6:=ok.m6
 refine zK (fun c3=> ?_) (fun c3=> ?_)
 ·rw[Prd.legs,if_neg (by omega),if_pos c3];exact kp
 have e0:i.p.legs i.n=kA i.p.months.length i.n.toNat i.p.months.length 0:=by
  rw[Prd.legs,if_neg (by omega),if_neg c3]
 rw[e0]
 generalize hn:i.p.months.length=n at c3 m6 ⊢
 obtain⟨k,hk⟩:∃k:Nat,i.n=k:=⟨i.n.toNat,by omega⟩
 rw[hk]at c2 c3 ⊢
 refine⟨0,rfl,rfl,fun m=>m≤n∧z8 n m≤k∧kA n k n 0=kA n k (n-m) m,fun m=>n-m,⟨by omega,by show n≤k;omega,rfl⟩,?_⟩
 rintro m ⟨g1,g2,g3⟩
 have hf:=zIk m6 g1
 refine zK (fun c4=> ?_) (fun c4=> ?_)
 ·obtain⟨r,hr⟩:∃r,n-m=r+1:=⟨n-m-1,by omega⟩
  have e1:(k:Int).toNat=k:=by omega
  rw[e1,g3,hr,w64 (x:=(n:Int)-1) (by omega),w64 (x:=(n:Int)-1-m) (by omega),w64 (x:=(z8 n m:Int)+((n:Int)-1-m)) (by omega),w64 (x:=(m:Int)+1) (by omega)]
  rw[hr]at g3
  refine zK (fun c5=> ?_) (fun c5=> ?_)
  ·rw[w64 (x:=(m:Int)+1+k) (by omega),w64 (x:=(m:Int)+1+k-(z8 n m:Int)) (by omega),kA,if_pos (by omega)]
   refine⟨(),rfl,?_,rfl,trivial⟩
   dsimp only;omega
  ·refine⟨m+1,?_,rfl,⟨by omega,?_,?_⟩,by(first|omega|(dsimp only;omega)),kp⟩
   ·rw[z8];omega
   ·rw[z8];omega
   ·rw[kA,if_neg (by omega),show n-(m+1)=r by omega]
 ·have e1:(k:Int).toNat=k:=by omega
  rw[e1,g3,show n-m=0 by omega]
  exact⟨(),rfl,rfl,rfl,trivial⟩
theorem pR:legsC.ok Tryz.prog 51:=yJr (gokc pcount_ok gok0) yLy
theorem yCv (i:b9) (h:spreadC.cnd i):zXe i:=by
 obtain⟨h1,h2,h3⟩:i.p.small:=h
 refine⟨i.p,?_⟩
 simp only[xI]
 (repeat'(first|exact rfl|exact trivial|assumption|apply And.intro|refine fun(_:Unit) (_:True)=>?_|refine Exists.intro () ?_|omega|(dsimp only;omega)))
 have bad (hb:i.p.check≠0∨i.a<0∨i.b≤i.a∨(i.p.months.length:Int)≤i.b):∃(o:Unit),(i.p.spread i.a i.b).fst=0∧(i.p.spread i.a i.b).snd=false∧True:=⟨(),by rw[Prd.spread,if_pos hb],by rw[Prd.spread,if_pos hb],trivial⟩
 refine Cv.cnd.mk (fun c1=>bad (.inl (by simpa using c1))) fun c1=>zK (fun c2=>bad (by omega)) fun c2=>zK (fun c3=>bad (by omega)) fun c3=>zK (fun c4=>bad (by omega)) fun c4=> ?_
 have c1:i.p.check=0:=by simpa using c1
 have m6:=(qY c1).m6
 rw[Prd.spread,if_neg (by omega)]
 generalize hn:i.p.months.length=n at c4 m6 ⊢
 obtain⟨a,ha⟩:∃k:Nat,i.a=k:=⟨i.a.toNat,by omega⟩
 rw[ha]at c3 ⊢
 refine⟨0,rfl,rfl,fun m=>m≤a,fun m=>a-m,by omega,?_⟩
 intro m hm
 have hm:m≤a:=hm
 have hf:=zIk (m:=m) m6 (by omega)
 refine zK (fun c5=> ?_) (fun c5=> ?_)
 ·rw[w64 (x:=(n:Int)-1) (by omega),w64 (x:=(n:Int)-1-m) (by omega),w64 (x:=(z8 n m:Int)+((n:Int)-1-m)) (by omega),w64 (x:=(m:Int)+1) (by omega)]
  refine⟨m+1,?_,rfl,by omega,by(first|omega|(dsimp only;omega)),kp⟩
  rw[z8];omega
 ·obtain rfl:m=a:=by omega
  rw[w64 (x:=(z8 n m:Int)+i.b) (by omega),w64 (x:=(z8 n m:Int)+i.b-m) (by omega),w64 (x:=(z8 n m:Int)+i.b-m-1) (by omega)]
  exact⟨(),rfl,rfl,trivial⟩
theorem zKr:spreadC.ok Tryz.prog 54:=z7x (gokc eG gok0) yCv
theorem yLn (i:b9) (h:priceC.cnd i):z8b i:=by
 obtain⟨h1,h2,h3⟩:i.p.small:=h
 refine⟨i.p,?_⟩
 simp only[xI]
 (repeat'(first|exact rfl|exact trivial|assumption|apply And.intro|refine fun(_:Unit) (_:True)=>?_|refine Exists.intro () ?_|omega|(dsimp only;omega)))
 refine Cv.cnd.mk (fun c1=>⟨(),by rw[Prd.price,if_pos (by have:(i.p.count:Int)=0:=(by simpa using c1);omega)],trivial⟩) fun c1=> ?_
 have c1:i.p.count≠0:=by
  have:¬(i.p.count:Int)=0:=by simpa using c1
  omega
 have e0:i.p.price i.a i.b=if i.a<0∨(i.p.count:Int)≤i.a then 20 else if qR i.p.tick i.b then 22 else
  if i.b<(if(i.p.months.length:Int)≤i.a then-i.p.wide else i.p.low)∨(if(i.p.months.length:Int)≤i.a then i.p.wide else i.p.high)<i.b then 23 else 0:=by rw[Prd.price,if_neg c1]
 rw[e0]
 have ok:=qY (nO c1)
 obtain⟨t1,b3,b1,b2,b4,b5⟩:=(⟨ok.t1,ok.b3,ok.b1,ok.b2,ok.b4,ok.b5⟩:_∧_∧_∧_∧_∧_)
 refine zK (fun c2=>⟨(),by rw[if_pos (.inl c2)],trivial⟩) fun c2=>zK (fun c3=>⟨(),by rw[if_pos (.inr c3)],trivial⟩) fun c3=>⟨kp,by omega,?_⟩
 have c3:¬i.a≥(i.p.count:Int):=c3
 rw[if_neg (by omega)]
 refine Cv.cnd.mk (fun c4=>⟨(),if_pos c4,trivial⟩) fun c4=> ?_
 rw[if_neg (by rw[qR,c4];simp),w64 (x:=0-i.p.wide) (by omega)]
 refine zK (fun c5=> ?_) (fun c5=> ?_)
 ·have c5:(i.p.months.length:Int)≤i.a:=c5
  simp only[if_pos c5]
  refine zK (fun c6=>⟨(),if_pos (.inl (by omega)),trivial⟩) fun c6=>zK (fun c7=>⟨(),if_pos (.inr (by omega)),trivial⟩) fun c7=>⟨(),if_neg (by omega),trivial⟩
 ·have c5:¬(i.p.months.length:Int)≤i.a:=c5
  simp only[if_neg c5]
  refine zK (fun c6=>⟨(),if_pos (.inl (by omega)),trivial⟩) fun c6=>zK (fun c7=>⟨(),if_pos (.inr (by omega)),trivial⟩) fun c7=>⟨(),if_neg (by omega),trivial⟩
theorem nP:priceC.ok Tryz.prog 72:=z9x (gokc pcount_ok gok0) yLn
theorem yFc (x:Int) (h: -18446744073709551616≤x∧x<18446744073709551616):(yQ x∧IntKind.i64.wrap x=x)∨(9223372036854775807<x∧IntKind.i64.wrap x=x-18446744073709551616)∨(x< -9223372036854775808∧IntKind.i64.wrap x=x+18446744073709551616):=by
 have e:IntKind.i64.wrap x=if(decide (x % 18446744073709551616≥9223372036854775808))=true then x % 18446744073709551616-18446744073709551616 else x % 18446744073709551616:=by
  have:IntKind.i64.wrap x=if(true && decide (x % 18446744073709551616≥9223372036854775808))=true then x % 18446744073709551616-18446744073709551616 else x % 18446744073709551616:=rfl
  rw[this,Bool.true_and]
 have e:IntKind.i64.wrap x=(x+9223372036854775808) % 18446744073709551616-9223372036854775808:=by
  rw[e]
  by_cases h2:x % 18446744073709551616≥9223372036854775808
  ·rw[if_pos (decide_eq_true h2)];omega
  ·rw[if_neg (by simpa using h2)];omega
 rw[e]
 by_cases h1:yQ x
 ·exact .inl ⟨h1,by unfold yQ at h1;omega⟩
 ·unfold yQ at h1
  omega
theorem yOg (i:I2) (h:addC.cnd i):yKe i:=by
 obtain⟨⟨x1,x2⟩,y1,y2⟩:yQ i.x∧yQ i.y:=h
 have hw:=yFc (i.x+i.y) (by omega)
 unfold yKe zHi vH
 generalize IntKind.i64.wrap (i.x+i.y)=w at hw ⊢
 unfold yQ at hw ⊢
 refine Cv.cnd.mk (fun c1=>Cv.cnd.mk (fun c2=> ?_) (fun c2=> ?_)) (fun c1=> ?_)
 all_goals(simp at*)
 ·rw[if_neg (by omega)];exact kp
 ·rw[if_pos (by omega)];refine⟨?_,rfl⟩;dsimp only;omega
 ·rw[if_pos (by omega)];refine⟨?_,rfl⟩;dsimp only;omega
theorem zNi:addC.ok Tryz.prog 87:=yMy gok0 yOg
theorem yPc (i:I2) (h:subC.cnd i):yHr i:=by
 obtain⟨⟨x1,x2⟩,y1,y2⟩:yQ i.x∧yQ i.y:=h
 have hw:=yFc (i.x-i.y) (by omega)
 unfold yHr zIb vN
 generalize IntKind.i64.wrap (i.x-i.y)=w at hw ⊢
 unfold yQ at hw ⊢
 refine Cv.cnd.mk (fun c1=>Cv.cnd.mk (fun c2=> ?_) (fun c2=> ?_)) (fun c1=> ?_)
 all_goals(simp at*)
 ·rw[if_neg (by omega)];exact kp
 ·rw[if_pos (by omega)];refine⟨?_,rfl⟩;dsimp only;omega
 ·rw[if_pos (by omega)];refine⟨?_,rfl⟩;dsimp only;omega
theorem zMj:subC.ok Tryz.prog 88:=yNh gok0 yPc
open Go Cv Go.Proofs
structure Slot where
 used:Bool
 n:Int
 id:Int
 qty:Int
 top:Bool
 queue:Int
 ahead:Int
 back:Int
 deriving DecidableEq
structure fJ where
 first:Int
 last:Int
 total:Int
 count:Int
 deriving DecidableEq
structure Arena where
 slots:List Slot
 queues:List fJ
 free:Int
 deriving DecidableEq
def zR (s:Slot):List D:=[.v (.bool s.used),.v (.int .i64 s.n),.v (.int .i64 s.id),.v (.int .i64 s.qty),.v (.bool s.top),.v (.int .i64 s.queue),.v (.int .i64 s.ahead),.v (.int .i64 s.back)]
def zN (q:fJ):List D:=[.v (.int .i64 q.first),.v (.int .i64 q.last),.v (.int .i64 q.total),.v (.int .i64 q.count)]
def slot0:Slot:=⟨false,0,0,0,false,0,0,0⟩
def zG (a:Arena):Nat→AObj
 |0=> .cells [.own 1,.own 2,zB a.free] 185
 |1=> .own 193 8 (a.slots.map zR)
 |2=> .own 199 4 (a.queues.map zN)
 |_=> .gone
def jD (a:Arena):AObj:= .adt Arena 3 zG a
structure xL where
 price:Int
 queue:Int
 deriving DecidableEq
structure Place where
 side:Int
 price:Int
 slot:Int
 deriving DecidableEq
structure Book where
 a:Arena
 buys:List xL
 sells:List xL
 at_:List (Int×Place)
 top1:Int
 top2:Int
 spare:List Int
 has1:Bool
 has2:Bool
 deriving DecidableEq
def zC (r:xL):List D:=[.v (.int .i64 r.price),.v (.int .i64 r.queue)]
def zWb (p:Place):List D:=[.v (.int .i64 p.side),.v (.int .i64 p.price),.v (.int .i64 p.slot)]
def atE (l:List (Int×Place)):List (Value×List D):=l.map fun x=>(.int .i64 x.1,zWb x.2)
def zQ (b:Book):Nat→AObj
 |0=> .cells [.nm 1 0,.own 2,.own 3,.mp 4,zB b.top1,zB b.top2,.own 5,yO b.has1,yO b.has2] 144
 |1=>jD b.a
 |2=> .own 147 2 (b.buys.map zC)
 |3=> .own 147 2 (b.sells.map zC)
 |4=> .map (atE b.at_)
 |5=> .own 3 1 (iE b.spare)
 |_=> .gone
def yB (b:Book):AObj:= .adt Book 6 zQ b
structure MSt where
 p:Prd
 books:List Book
 wh:List (Int×Int)
def yR (l:List (Int×Int)):List (Value×List D):=l.map fun x=>(.int .i64 x.1,[.v (.int .i64 x.2)])
def xR (s:MSt):Nat→AObj
 |0=> .cells [sV s.p.code,.own 3,zB s.p.tick,zB s.p.low,zB s.p.high,zB s.p.wide,zB s.p.rule,zB s.p.top,zB s.p.least,zB s.p.part,.own 4,.own 1,.mp 2] 101
 |1=> .objs 102 Book 6 zQ s.books none
 |2=> .map (yR s.wh)
 |3=> .fro 1 (iE s.p.months)
 |4=> .fro 1 (iE s.p.settle)
 |_=> .gone
def zE (s:MSt):AObj:= .adt MSt 5 xR s
def zHj (n:Nat):Arena:=⟨List.replicate n slot0,[],n⟩
def book0:Book:=⟨zHj 250,[],[],[],0,0,[],false,false⟩
def newAC:Con:=con1 Nat (fun n=>[zB n]) (fun _=>[]) (fun n=>1≤n∧n≤4096) (fun _=> .tup [.nm 0 0,zB 0]) (fun n=>[jD (zHj n)])
def newBC:Con:=con1 Unit (fun _=>[]) (fun _=>[]) (fun _=>True) (fun _=> .nm 0 0) (fun _=>[yB book0])
def gJ (p:Prd):MSt:=⟨p,List.replicate p.count book0,[]⟩
def newSC:Con where
 ι:=Prd
 pat:=fun p=>[prdV p]
 pre:=fun _=>[]
 cnd:=fun p=>p.small
 alts:=fun p=>[{o:=Unit,res:=fun _=> .tup [.nm 0 0,zB 0],post:=fun _=>[zE (gJ p)],rel:=fun _=>p.check=0},{o:=Unit,res:=fun _=> .tup [.d (.v (.pointer none)),zB p.check],post:=fun _=>[],rel:=fun _=>p.check≠0}]
def yNq (p:Prd):List SAnn:=[{ι:=Nat,slots:=fun j=>[(5,.nm 0 0),(27,zB j)],rows:=fun j=>(List.range 5).map (xR ⟨p,List.replicate j book0,[]⟩)}]
def clSlotC:Con:=con1 (List Slot) (fun _=>[.own 0]) (fun l=>[.own 193 8 (l.map zR)]) (fun l=>l.length≤1000000) (fun _=> .own 1) (fun l=>[.own 193 8 (l.map zR),.own 193 8 (l.map zR)])
def clQueueC:Con:=con1 (List fJ) (fun _=>[.own 0]) (fun l=>[.own 199 4 (l.map zN)]) (fun l=>l.length≤1000000) (fun _=> .own 1) (fun l=>[.own 199 4 (l.map zN),.own 199 4 (l.map zN)])
def clRungC:Con:=con1 (List xL) (fun _=>[.own 0]) (fun l=>[.own 147 2 (l.map zC)]) (fun l=>l.length≤1000000) (fun _=> .own 1) (fun l=>[.own 147 2 (l.map zC),.own 147 2 (l.map zC)])
def clIntC:Con:=con1 (List Int) (fun _=>[.own 0]) (fun l=>[.own 3 1 (iE l)]) (fun l=>l.length≤1000000) (fun _=> .own 1) (fun l=>[.own 3 1 (iE l),.own 3 1 (iE l)])
def z6y (f:Nat):Con:=con1 (List (Value×List D)) (fun _=>[.mp 0]) (fun es=>[.map es]) (fun _=>True) (fun _=> .mp 1) (fun es=>[.map es,.map es])
def clAtC:Con:=z6y 0
def clWhC:Con:=z6y 1
@[reducible] def Arena.small (a:Arena):Prop:=a.slots.length≤1000000∧a.queues.length≤1000000
@[reducible] def Book.small (b:Book):Prop:=b.a.small∧b.buys.length≤1000000∧b.sells.length≤1000000∧b.spare.length≤1000000
@[reducible] def MSt.small (s:MSt):Prop:=s.books.length≤1000000∧∀b∈s.books,b.small
def copyAC:Con:=con1 Arena (fun _=>[.nm 0 0]) (fun a=>[jD a]) Arena.small (fun _=> .nm 1 0) (fun a=>[jD a,jD a])
def copyBC:Con:=con1 Book (fun _=>[.nm 0 0]) (fun b=>[yB b]) Book.small (fun _=> .nm 1 0) (fun b=>[yB b,yB b])
def yKt:List SAnn:=[{ι:=Unit,slots:=fun _=>[],rows:=fun _=>[],un:=3}]
def copySC:Con:=con1 MSt (fun _=>[.nm 0 0]) (fun s=>[zE s]) MSt.small (fun _=> .nm 1 0) (fun s=>[zE s,zE s])
open Go Cv Go.Proofs
def z4v (n:Nat):Prop:=
 cnd (decide ((↑n:Int)<1)) (∃(a:Unit),False) (cnd (decide ((↑n:Int)>4096)) (∃(a:Unit),False) ((0≤(↑n:Int)∧(↑n:Int)≤(↑n:Int)∧(↑n:Int)≤9223372036854775807∧(↑(64:Nat):Int)*(↑n:Int)≤2 ^ (48:Nat))∧∃(a:Unit),(0:Int)=(0:Int)∧(↑n:Int)=(↑n:Int)∧List.map zR (List.replicate n slot0)=List.replicate (↑n:Int).toNat [D.v (.bool false),D.v (.int .i64 0),D.v (.int .i64 0),D.v (.int .i64 0),D.v (.bool false),D.v (.int .i64 0),D.v (.int .i64 0),D.v (.int .i64 0)]∧([]:List (List D))=[]∧True))
theorem yKg (hG:GOk Tryz.prog ([])) (h:∀(n:Nat),newAC.cnd n→z4v n):newAC.ok Tryz.prog 95:=okw mixed hG 0 (fun _=>[]) (fun _=>[]) [] Tryz.func95 h
def yMf (u:Unit):Prop:=
 ∃(i:Nat),(↑i:Int)=250∧(1≤i∧i≤4096)∧∀(o:Unit),True→∃(o:Unit),(0:Int)=(0:Int)∧(0:Int)=(0:Int)∧false=false∧false=false∧AObj.adt Arena 3 zG (zHj 250)=AObj.adt Arena 3 zG (zHj i)∧([]:List (List D))=[]∧([]:List (List D))=[]∧atE []=[]∧iE []=[]∧True
theorem yHl (hG:GOk Tryz.prog ([(95,newAC)])) (h:∀(u:Unit),newBC.cnd u→yMf u):newBC.ok Tryz.prog 68:=okw mixed hG 0 (fun _=>[]) (fun _=>[]) [] Tryz.func68 h
def yEy (p:Prd):Prop:=
 ∃(i:Prd),sb i.code=sb p.code∧iE i.months=iE p.months∧i.tick=p.tick∧i.low=p.low∧i.high=p.high∧i.wide=p.wide∧i.rule=p.rule∧i.top=p.top∧i.least=p.least∧i.part=p.part∧iE i.settle=iE p.settle∧(i.code.length≤1099511627776∧i.months.length≤1099511627776∧i.settle.length≤1099511627776)∧∀(o:Unit),True→cnd (i.check !=0) ((∃(o:Unit),False)∨∃(o:Unit),True∧p.check=i.check∧(p.check=0→False)) ((True∧True∧((0+(iE p.months).length)*(8:Nat)≤(70368744177664:Nat)∧True∧True∧(0+(iE p.settle).length)*(8:Nat)≤(70368744177664:Nat)∧∃(i:Prd),sb i.code=sb p.code∧iE i.months=[]++iE p.months∧i.tick=p.tick∧i.low=p.low∧i.high=p.high∧i.wide=p.wide∧i.rule=p.rule∧i.top=p.top∧i.least=p.least∧i.part=p.part∧iE i.settle=[]++iE p.settle∧(i.code.length≤1099511627776∧i.months.length≤1099511627776∧i.settle.length≤1099511627776)∧∀(o:Unit),True→∃(i0:Nat),(↑i0:Int)=0∧sb p.code=sb p.code∧p.tick=p.tick∧p.low=p.low∧p.high=p.high∧p.wide=p.wide∧p.rule=p.rule∧p.top=p.top∧p.least=p.least∧p.part=p.part∧List.replicate i0 book0=[]∧(none:Option Nat)=none∧yR []=[]∧AObj.fro 1 (iE p.months)=AObj.fro 1 ([]++iE p.months)∧AObj.fro 1 (iE p.settle)=AObj.fro 1 ([]++iE p.settle)∧∃(I:Nat→Prop),∃(μ:Nat→Nat),I i0∧∀(i_1:Nat),I i_1→cnd (decide ((↑i_1:Int)<(↑i.count:Int))) (∃(i:Unit),True∧∀(o:Unit),True→True∧True∧∃(l1':List Book),AObj.objs 102 Book 6 zQ (List.replicate i_1 book0) none=AObj.objs 102 Book 6 zQ l1' none∧(l1'.length+1)*(8:Nat)≤(70368744177664:Nat)∧∃(i':Nat),(↑i':Int)=IntKind.i64.wrap ((↑i_1:Int)+1)∧sb p.code=sb p.code∧p.tick=p.tick∧p.low=p.low∧p.high=p.high∧p.wide=p.wide∧p.rule=p.rule∧p.top=p.top∧p.least=p.least∧p.part=p.part∧AObj.objs 102 Book 6 zQ (List.replicate i' book0) none=AObj.objs 102 Book 6 zQ (l1'++[book0]) none∧yR []=yR []∧AObj.fro 1 (iE p.months)=AObj.fro 1 (iE p.months)∧AObj.fro 1 (iE p.settle)=AObj.fro 1 (iE p.settle)∧I i'∧μ i'<μ i_1∧AObj.fro 1 ([]++iE p.settle)=AObj.fro 1 ([]++iE p.settle)∧AObj.fro 1 ([]++iE p.months)=AObj.fro 1 ([]++iE p.months)∧Sx.AObj.cells [V.d (D.v (Value.string (sb p.code))),V.own ((0:Nat)+(1:Nat)+(1:Nat)+(1:Nat)+((0:Nat)-(0:Nat))+1),V.d (D.v (.int .i64 p.tick)),V.d (D.v (.int .i64 p.low)),V.d (D.v (.int .i64 p.high)),V.d (D.v (.int .i64 p.wide)),V.d (D.v (.int .i64 p.rule)),V.d (D.v (.int .i64 p.top)),V.d (D.v (.int .i64 p.least)),V.d (D.v (.int .i64 p.part)),V.own ((0:Nat)+(1:Nat)+(1:Nat)+(1:Nat)+((0:Nat)-(0:Nat))+(1:Nat)+(1:Nat)+1)] 29=Sx.AObj.cells [V.d (D.v (Value.string (sb p.code))),V.own ((0:Nat)+(1:Nat)+(1:Nat)+(1:Nat)+((0:Nat)-(0:Nat))+1),V.d (D.v (.int .i64 p.tick)),V.d (D.v (.int .i64 p.low)),V.d (D.v (.int .i64 p.high)),V.d (D.v (.int .i64 p.wide)),V.d (D.v (.int .i64 p.rule)),V.d (D.v (.int .i64 p.top)),V.d (D.v (.int .i64 p.least)),V.d (D.v (.int .i64 p.part)),V.own ((0:Nat)+(1:Nat)+(1:Nat)+(1:Nat)+((0:Nat)-(0:Nat))+(1:Nat)+(1:Nat)+1)] 29∧AObj.fro 1 (iE p.settle)=AObj.fro 1 (iE p.settle)∧AObj.fro 1 (iE p.months)=AObj.fro 1 (iE p.months)) ((∃(o:Unit),(0:Int)=(0:Int)∧sb p.code=sb p.code∧p.tick=p.tick∧p.low=p.low∧p.high=p.high∧p.wide=p.wide∧p.rule=p.rule∧p.top=p.top∧p.least=p.least∧p.part=p.part∧AObj.objs 102 Book 6 zQ (List.replicate p.count book0) none=AObj.objs 102 Book 6 zQ (List.replicate i_1 book0) none∧yR []=yR []∧AObj.fro 1 (iE p.months)=AObj.fro 1 (iE p.months)∧AObj.fro 1 (iE p.settle)=AObj.fro 1 (iE p.settle)∧p.check=0)∨∃(o:Unit),False))∧True∧True∧(0+(iE p.months).length)*(8:Nat)≤(70368744177664:Nat)∧True∧(0+(iE p.settle).length)*(8:Nat)≤(70368744177664:Nat)∧∃(i:Prd),sb i.code=sb p.code∧iE i.months=[]++iE p.months∧i.tick=p.tick∧i.low=p.low∧i.high=p.high∧i.wide=p.wide∧i.rule=p.rule∧i.top=p.top∧i.least=p.least∧i.part=p.part∧iE i.settle=[]++iE p.settle∧(i.code.length≤1099511627776∧i.months.length≤1099511627776∧i.settle.length≤1099511627776)∧∀(o:Unit),True→∃(i0:Nat),(↑i0:Int)=0∧sb p.code=sb p.code∧p.tick=p.tick∧p.low=p.low∧p.high=p.high∧p.wide=p.wide∧p.rule=p.rule∧p.top=p.top∧p.least=p.least∧p.part=p.part∧List.replicate i0 book0=[]∧(none:Option Nat)=none∧yR []=[]∧AObj.fro 1 (iE p.months)=AObj.fro 1 ([]++iE p.months)∧AObj.fro 1 (iE p.settle)=AObj.fro 1 ([]++iE p.settle)∧∃(I:Nat→Prop),∃(μ:Nat→Nat),I i0∧∀(i_1:Nat),I i_1→cnd (decide ((↑i_1:Int)<(↑i.count:Int))) (∃(i:Unit),True∧∀(o:Unit),True→True∧True∧∃(l1':List Book),AObj.objs 102 Book 6 zQ (List.replicate i_1 book0) none=AObj.objs 102 Book 6 zQ l1' none∧(l1'.length+1)*(8:Nat)≤(70368744177664:Nat)∧∃(i':Nat),(↑i':Int)=IntKind.i64.wrap ((↑i_1:Int)+1)∧sb p.code=sb p.code∧p.tick=p.tick∧p.low=p.low∧p.high=p.high∧p.wide=p.wide∧p.rule=p.rule∧p.top=p.top∧p.least=p.least∧p.part=p.part∧AObj.objs 102 Book 6 zQ (List.replicate i' book0) none=AObj.objs 102 Book 6 zQ (l1'++[book0]) none∧yR []=yR []∧AObj.fro 1 (iE p.months)=AObj.fro 1 (iE p.months)∧AObj.fro 1 (iE p.settle)=AObj.fro 1 (iE p.settle)∧I i'∧μ i'<μ i_1∧AObj.fro 1 ([]++iE p.settle)=AObj.fro 1 ([]++iE p.settle)∧AObj.fro 1 ([]++iE p.months)=AObj.fro 1 ([]++iE p.months)∧Sx.AObj.cells [V.d (D.v (Value.string (sb p.code))),V.own ((0:Nat)+(1:Nat)+(1:Nat)+(1:Nat)+((0:Nat)-(0:Nat))+(1:Nat)+(1:Nat)),V.d (D.v (.int .i64 p.tick)),V.d (D.v (.int .i64 p.low)),V.d (D.v (.int .i64 p.high)),V.d (D.v (.int .i64 p.wide)),V.d (D.v (.int .i64 p.rule)),V.d (D.v (.int .i64 p.top)),V.d (D.v (.int .i64 p.least)),V.d (D.v (.int .i64 p.part)),V.own ((0:Nat)+(1:Nat)+(1:Nat)+(1:Nat)+((0:Nat)-(0:Nat))+(1:Nat)+(1:Nat)+1)] 29=Sx.AObj.cells [V.d (D.v (Value.string (sb p.code))),V.own ((0:Nat)+(1:Nat)+(1:Nat)+(1:Nat)+((0:Nat)-(0:Nat))+(1:Nat)+(1:Nat)),V.d (D.v (.int .i64 p.tick)),V.d (D.v (.int .i64 p.low)),V.d (D.v (.int .i64 p.high)),V.d (D.v (.int .i64 p.wide)),V.d (D.v (.int .i64 p.rule)),V.d (D.v (.int .i64 p.top)),V.d (D.v (.int .i64 p.least)),V.d (D.v (.int .i64 p.part)),V.own ((0:Nat)+(1:Nat)+(1:Nat)+(1:Nat)+((0:Nat)-(0:Nat))+(1:Nat)+(1:Nat)+1)] 29∧AObj.fro 1 (iE p.settle)=AObj.fro 1 (iE p.settle)∧AObj.fro 1 (iE p.months)=AObj.fro 1 (iE p.months)) ((∃(o:Unit),(0:Int)=(0:Int)∧sb p.code=sb p.code∧p.tick=p.tick∧p.low=p.low∧p.high=p.high∧p.wide=p.wide∧p.rule=p.rule∧p.top=p.top∧p.least=p.least∧p.part=p.part∧AObj.objs 102 Book 6 zQ (List.replicate p.count book0) none=AObj.objs 102 Book 6 zQ (List.replicate i_1 book0) none∧yR []=yR []∧AObj.fro 1 (iE p.months)=AObj.fro 1 (iE p.months)∧AObj.fro 1 (iE p.settle)=AObj.fro 1 (iE p.settle)∧p.check=0)∨∃(o:Unit),False))∧True∧True∧True∧True∧(0+(iE p.months).length)*(8:Nat)≤(70368744177664:Nat)∧True∧(0+(iE p.settle).length)*(8:Nat)≤(70368744177664:Nat)∧∃(i:Prd),sb i.code=sb p.code∧iE i.months=[]++iE p.months∧i.tick=p.tick∧i.low=p.low∧i.high=p.high∧i.wide=p.wide∧i.rule=p.rule∧i.top=p.top∧i.least=p.least∧i.part=p.part∧iE i.settle=[]++iE p.settle∧(i.code.length≤1099511627776∧i.months.length≤1099511627776∧i.settle.length≤1099511627776)∧∀(o:Unit),True→∃(i0:Nat),(↑i0:Int)=0∧sb p.code=sb p.code∧p.tick=p.tick∧p.low=p.low∧p.high=p.high∧p.wide=p.wide∧p.rule=p.rule∧p.top=p.top∧p.least=p.least∧p.part=p.part∧List.replicate i0 book0=[]∧(none:Option Nat)=none∧yR []=[]∧AObj.fro 1 (iE p.months)=AObj.fro 1 ([]++iE p.months)∧AObj.fro 1 (iE p.settle)=AObj.fro 1 ([]++iE p.settle)∧∃(I:Nat→Prop),∃(μ:Nat→Nat),I i0∧∀(i_1:Nat),I i_1→cnd (decide ((↑i_1:Int)<(↑i.count:Int))) (∃(i:Unit),True∧∀(o:Unit),True→True∧True∧∃(l1':List Book),AObj.objs 102 Book 6 zQ (List.replicate i_1 book0) none=AObj.objs 102 Book 6 zQ l1' none∧(l1'.length+1)*(8:Nat)≤(70368744177664:Nat)∧∃(i':Nat),(↑i':Int)=IntKind.i64.wrap ((↑i_1:Int)+1)∧sb p.code=sb p.code∧p.tick=p.tick∧p.low=p.low∧p.high=p.high∧p.wide=p.wide∧p.rule=p.rule∧p.top=p.top∧p.least=p.least∧p.part=p.part∧AObj.objs 102 Book 6 zQ (List.replicate i' book0) none=AObj.objs 102 Book 6 zQ (l1'++[book0]) none∧yR []=yR []∧AObj.fro 1 (iE p.months)=AObj.fro 1 (iE p.months)∧AObj.fro 1 (iE p.settle)=AObj.fro 1 (iE p.settle)∧I i'∧μ i'<μ i_1∧AObj.fro 1 ([]++iE p.settle)=AObj.fro 1 ([]++iE p.settle)∧AObj.fro 1 ([]++iE p.months)=AObj.fro 1 ([]++iE p.months)∧Sx.AObj.cells [V.d (D.v (Value.string (sb p.code))),V.own ((0:Nat)+(1:Nat)+(1:Nat)+(1:Nat)+((0:Nat)-(0:Nat))+(1:Nat)+(1:Nat)),V.d (D.v (.int .i64 p.tick)),V.d (D.v (.int .i64 p.low)),V.d (D.v (.int .i64 p.high)),V.d (D.v (.int .i64 p.wide)),V.d (D.v (.int .i64 p.rule)),V.d (D.v (.int .i64 p.top)),V.d (D.v (.int .i64 p.least)),V.d (D.v (.int .i64 p.part)),V.own ((0:Nat)+(1:Nat)+(1:Nat)+(1:Nat)+((0:Nat)-(0:Nat))+(1:Nat)+(1:Nat)+1)] 29=Sx.AObj.cells [V.d (D.v (Value.string (sb p.code))),V.own ((0:Nat)+(1:Nat)+(1:Nat)+(1:Nat)+((0:Nat)-(0:Nat))+(1:Nat)+(1:Nat)),V.d (D.v (.int .i64 p.tick)),V.d (D.v (.int .i64 p.low)),V.d (D.v (.int .i64 p.high)),V.d (D.v (.int .i64 p.wide)),V.d (D.v (.int .i64 p.rule)),V.d (D.v (.int .i64 p.top)),V.d (D.v (.int .i64 p.least)),V.d (D.v (.int .i64 p.part)),V.own ((0:Nat)+(1:Nat)+(1:Nat)+(1:Nat)+((0:Nat)-(0:Nat))+(1:Nat)+(1:Nat)+1)] 29∧AObj.fro 1 (iE p.settle)=AObj.fro 1 (iE p.settle)∧AObj.fro 1 (iE p.months)=AObj.fro 1 (iE p.months)) ((∃(o:Unit),(0:Int)=(0:Int)∧sb p.code=sb p.code∧p.tick=p.tick∧p.low=p.low∧p.high=p.high∧p.wide=p.wide∧p.rule=p.rule∧p.top=p.top∧p.least=p.least∧p.part=p.part∧AObj.objs 102 Book 6 zQ (List.replicate p.count book0) none=AObj.objs 102 Book 6 zQ (List.replicate i_1 book0) none∧yR []=yR []∧AObj.fro 1 (iE p.months)=AObj.fro 1 (iE p.months)∧AObj.fro 1 (iE p.settle)=AObj.fro 1 (iE p.settle)∧p.check=0)∨∃(o:Unit),False))
theorem yKu (hG:GOk Tryz.prog ([(50,checkC),(24,pcountC),(68,newBC)])) (h:∀(p:Prd),newSC.cnd p→yEy p):newSC.ok Tryz.prog 37:=okw mixed hG 0 (fun _=>[]) (fun p=>yNq p) [] Tryz.func37 h
def yDr (l:List Slot):Prop:=
 ∀(b:Bool),(b=true→List.map zR l=[])→cnd b (∃(o:Unit),List.map zR l=List.map zR l∧List.map zR l=[]∧True) ((0+(List.map zR l).length)*(64:Nat)≤(70368744177664:Nat)∧∃(o:Unit),List.map zR l=List.map zR l∧List.map zR l=[]++List.map zR l∧True)
theorem z8p (hG:GOk Tryz.prog ([])) (h:∀(l:List Slot),clSlotC.cnd l→yDr l):clSlotC.ok Tryz.prog 122:=okw mixed hG 0 (fun _=>[]) (fun _=>[]) [] Tryz.func122 h
def z7q (l:List fJ):Prop:=
 ∀(b:Bool),(b=true→List.map zN l=[])→cnd b (∃(o:Unit),List.map zN l=List.map zN l∧List.map zN l=[]∧True) ((0+(List.map zN l).length)*(32:Nat)≤(70368744177664:Nat)∧∃(o:Unit),List.map zN l=List.map zN l∧List.map zN l=[]++List.map zN l∧True)
theorem z0x (hG:GOk Tryz.prog ([])) (h:∀(l:List fJ),clQueueC.cnd l→z7q l):clQueueC.ok Tryz.prog 123:=okw mixed hG 0 (fun _=>[]) (fun _=>[]) [] Tryz.func123 h
def yAi (l:List xL):Prop:=
 ∀(b:Bool),(b=true→List.map zC l=[])→cnd b (∃(o:Unit),List.map zC l=List.map zC l∧List.map zC l=[]∧True) ((0+(List.map zC l).length)*(16:Nat)≤(70368744177664:Nat)∧∃(o:Unit),List.map zC l=List.map zC l∧List.map zC l=[]++List.map zC l∧True)
theorem z7z (hG:GOk Tryz.prog ([])) (h:∀(l:List xL),clRungC.cnd l→yAi l):clRungC.ok Tryz.prog 105:=okw mixed hG 0 (fun _=>[]) (fun _=>[]) [] Tryz.func105 h
def yHh (l:List Int):Prop:=
 ∀(b:Bool),(b=true→iE l=[])→cnd b (∃(o:Unit),iE l=iE l∧iE l=[]∧True) ((0+(iE l).length)*(8:Nat)≤(70368744177664:Nat)∧∃(o:Unit),iE l=iE l∧iE l=[]++iE l∧True)
theorem yEb (hG:GOk Tryz.prog ([])) (h:∀(l:List Int),clIntC.cnd l→yHh l):clIntC.ok Tryz.prog 58:=okw mixed hG 0 (fun _=>[]) (fun _=>[]) [] Tryz.func58 h
def z6e (es:List (Value×List D)):Prop:=
 ∃(a:List (Value×List D)),a=es∧True∧∀(b:Unit),True→∃(c:Unit),es=a∧es=a∧True
theorem yId (es:List (Value×List D)):z6e es=walk Tryz.prog ([(102,fQ 142)]) 0 ([]) ([]) [] Tryz.f104 (Tryz.f104.body.getD .skip) (clAtC.pat es) (clAtC.pre es) (clAtC.alts es):=by kernel_rfl
theorem yKj (hG:GOk Tryz.prog ([(102,fQ 142)])) (h:∀(es:List (Value×List D)),clAtC.cnd es→z6e es):clAtC.ok Tryz.prog 104:=sR mixed ([(102,fQ 142)]) hG 0 (fun(es:List (Value×List D))=>[]) (fun(es:List (Value×List D))=>[]) [] Tryz.func104 (by kernel_rfl) (by kernel_rfl) (by kernel_rfl) (fun _=>by kernel_rfl) (fun(es:List (Value×List D)) hc=>Eq.mp (yId es) (h es hc))
def z5a (es:List (Value×List D)):Prop:=
 ∃(a:List (Value×List D)),a=es∧True∧∀(b:Unit),True→∃(c:Unit),es=a∧es=a∧True
theorem yJu (es:List (Value×List D)):z5a es=walk Tryz.prog ([(102,fQ 99)]) 0 ([]) ([]) [] Tryz.f78 (Tryz.f78.body.getD .skip) (clWhC.pat es) (clWhC.pre es) (clWhC.alts es):=by kernel_rfl
theorem yIx (hG:GOk Tryz.prog ([(102,fQ 99)])) (h:∀(es:List (Value×List D)),clWhC.cnd es→z5a es):clWhC.ok Tryz.prog 78:=sR mixed ([(102,fQ 99)]) hG 0 (fun(es:List (Value×List D))=>[]) (fun(es:List (Value×List D))=>[]) [] Tryz.func78 (by kernel_rfl) (by kernel_rfl) (by kernel_rfl) (fun _=>by kernel_rfl) (fun(es:List (Value×List D)) hc=>Eq.mp (yJu es) (h es hc))
def yJg (a:Arena):Prop:=
 ∃(i:List Slot),List.map zR i=List.map zR a.slots∧i.length≤1000000∧∀(o:Unit),True→a.free=a.free∧True∧∃(i_1:List fJ),List.map zN i_1=List.map zN a.queues∧i_1.length≤1000000∧∀(o:Unit),True→a.free=a.free∧∃(o:Unit),a.free=a.free∧List.map zR a.slots=List.map zR i∧List.map zN a.queues=List.map zN i_1∧a.free=a.free∧List.map zR a.slots=List.map zR i∧List.map zN a.queues=List.map zN i_1∧True
theorem yDh (hG:GOk Tryz.prog ([(122,clSlotC),(123,clQueueC)])) (h:∀(a:Arena),copyAC.cnd a→yJg a):copyAC.ok Tryz.prog 103:=okw mixed hG 0 (fun _=>[]) (fun _=>[]) [0] Tryz.func103 h
def yHi (b:Book):Prop:=
 ∃(i:Arena),AObj.adt Arena 3 zG i=AObj.adt Arena 3 zG b.a∧(i.slots.length≤1000000∧i.queues.length≤1000000)∧∀(o:Unit),True→True∧True∧∃(i_1:List (Value×List D)),i_1=atE b.at_∧True∧∀(o:Unit),True→True∧∃(i_2:List Int),iE i_2=iE b.spare∧i_2.length≤1000000∧∀(o:Unit),True→∃(i_3:List xL),List.map zC i_3=List.map zC b.buys∧i_3.length≤1000000∧∀(o:Unit),True→∃(i_4:List xL),List.map zC i_4=List.map zC b.sells∧i_4.length≤1000000∧∀(o:Unit),True→∃(o:Unit),b.top1=b.top1∧b.top2=b.top2∧b.has1=b.has1∧b.has2=b.has2∧AObj.adt Arena 3 zG b.a=AObj.adt Arena 3 zG i∧List.map zC b.buys=List.map zC i_3∧List.map zC b.sells=List.map zC i_4∧atE b.at_=i_1∧iE b.spare=iE i_2∧b.top1=b.top1∧b.top2=b.top2∧b.has1=b.has1∧b.has2=b.has2∧AObj.adt Arena 3 zG b.a=AObj.adt Arena 3 zG i∧List.map zC b.buys=List.map zC i_3∧List.map zC b.sells=List.map zC i_4∧atE b.at_=i_1∧iE b.spare=iE i_2∧True
theorem yAx (hG:GOk Tryz.prog ([(103,copyAC),(104,clAtC),(58,clIntC),(105,clRungC)])) (h:∀(b:Book),copyBC.cnd b→yHi b):copyBC.ok Tryz.prog 79:=okw mixed hG 0 (fun _=>[]) (fun _=>yKt) [0] Tryz.func79 h
open Go Cv Go.Proofs
theorem yNk (n:Nat) (h:newAC.cnd n):z4v n:=by
 obtain⟨h1,h2⟩:1≤n∧n≤4096:=h
 unfold z4v
 refine zK (fun c=>by omega) fun c=>zK (fun c=>by omega) fun c=> ?_
 refine⟨⟨by omega,by omega,by omega,?_⟩,?_⟩
 ·have:(2:Int) ^ (48:Nat)=281474976710656:=by decide
  rw[this];omega
 ·refine⟨(),rfl,rfl,?_,rfl,trivial⟩
  rw[List.map_replicate];rfl
theorem yCe:newAC.ok Tryz.prog 95:=yKg gok0 yNk
theorem yEh:newBC.ok Tryz.prog 68:=yHl (gokc yCe gok0) fun u _=>by
 refine⟨250,rfl,⟨by omega,by omega⟩,?_⟩;exact kp
theorem yLs (p:Prd) (h:newSC.cnd p):yEy p:=by
 have hs:p.small:=h
 obtain⟨h1,h2,h3⟩:p.small:=h
 refine⟨p,?_⟩
 simp only[xI]
 (repeat'(first|exact rfl|exact trivial|assumption|apply And.intro|refine fun(_:Unit) (_:True)=>?_|refine Exists.intro () ?_|omega|(dsimp only;omega)))
 refine Cv.cnd.mk (fun c=> .inr ⟨(),trivial,kp,by simpa using c⟩) fun c=> ?_
 have c:p.check=0:=by simpa using c
 have hc:=qG p
 (repeat'(first|exact rfl|exact trivial|assumption|apply And.intro|refine fun(_:Unit) (_:True)=>?_|refine Exists.intro () ?_|omega|(dsimp only;omega)))
 all_goals(refine⟨p,?_⟩;(repeat'(first|exact rfl|exact trivial|assumption|apply And.intro|refine fun(_:Unit) (_:True)=>?_|refine Exists.intro () ?_|omega|(dsimp only;omega))))
 all_goals(refine⟨0,?_⟩;(repeat'(first|exact rfl|exact trivial|assumption|apply And.intro|refine fun(_:Unit) (_:True)=>?_|refine Exists.intro () ?_|omega|(dsimp only;omega))))
 all_goals(refine⟨fun j=>j≤p.count,fun j=>p.count-j,by omega,fun j hj=>zK (fun hlt=> ?_) (fun hlt=> ?_)⟩;all_goals dsimp only at hj hlt)
 all_goals first
  |(refine .inl ⟨(),?_⟩
    obtain rfl:j=p.count:=by omega
    (repeat'(first|exact rfl|exact trivial|assumption|apply And.intro|refine fun(_:Unit) (_:True)=>?_|refine Exists.intro () ?_|omega|(dsimp only;omega))))
  |(refine⟨(),trivial,fun _ _=>⟨trivial,trivial,List.replicate j book0,rfl,?_,j+1,?_⟩⟩
    ·rw[List.length_replicate];omega
    ·rw[w64 (by omega),← List.replicate_succ']
     (repeat'(first|exact rfl|exact trivial|assumption|apply And.intro|refine fun(_:Unit) (_:True)=>?_|refine Exists.intro () ?_|omega|(dsimp only;omega))))
theorem yBp:newSC.ok Tryz.prog 37:=yKu (gokc eG (gokc pcount_ok (gokc yEh gok0))) yLs
theorem z2j:clSlotC.ok Tryz.prog 122:=z8p gok0 fun l h=>by
 have h:l.length≤1000000:=h
 exact fun b hb=>Cv.cnd.mk (fun e=>⟨(),rfl,hb e,trivial⟩) (fun _=>⟨by rw[Nat.zero_add,List.length_map];omega,(),rfl,rfl,trivial⟩)
theorem zWa:clQueueC.ok Tryz.prog 123:=z0x gok0 fun l h=>by
 have h:l.length≤1000000:=h
 exact fun b hb=>Cv.cnd.mk (fun e=>⟨(),rfl,hb e,trivial⟩) (fun _=>⟨by rw[Nat.zero_add,List.length_map];omega,(),rfl,rfl,trivial⟩)
theorem z0w:clRungC.ok Tryz.prog 105:=z7z gok0 fun l h=>by
 have h:l.length≤1000000:=h
 exact fun b hb=>Cv.cnd.mk (fun e=>⟨(),rfl,hb e,trivial⟩) (fun _=>⟨by rw[Nat.zero_add,List.length_map];omega,(),rfl,rfl,trivial⟩)
theorem z6m:clIntC.ok Tryz.prog 58:=yEb gok0 fun l h=>by
 have h:l.length≤1000000:=h
 exact fun b hb=>Cv.cnd.mk (fun e=>⟨(),rfl,hb e,trivial⟩) (fun _=>⟨by rw[Nat.zero_add,xI];omega,(),rfl,rfl,trivial⟩)
theorem zKd (t:Nat):(fQ t).ok Tryz.prog 102:=zWu Tryz.func102 (by kernel_rfl) (by kernel_rfl) (by kernel_rfl) (by kernel_rfl) t
theorem yBb:clAtC.ok Tryz.prog 104:=yKj (gokc (zKd _) gok0) fun es _=>by
 unfold z6e
 refine⟨es,?_⟩;exact kp
theorem yDi:clWhC.ok Tryz.prog 78:=yIx (gokc (zKd _) gok0) fun es _=>by
 unfold z5a
 refine⟨es,?_⟩;exact kp
theorem z3l:copyAC.ok Tryz.prog 103:=yDh (gokc z2j (gokc zWa gok0)) fun a h=>by
 obtain⟨h1,h2⟩:a.small:=h
 refine⟨a.slots,?_⟩;(repeat'(first|exact rfl|exact trivial|assumption|apply And.intro|refine fun(_:Unit) (_:True)=>?_|refine Exists.intro () ?_|omega|(dsimp only;omega)))
 refine⟨a.queues,?_⟩;exact kp
theorem z5o:copyBC.ok Tryz.prog 79:=yAx (gokc z3l (gokc yBb (gokc z6m (gokc z0w gok0)))) fun b h=>by
 obtain⟨⟨h1,h1'⟩,h2,h3,h4⟩:b.small:=h
 refine⟨b.a,?_⟩;(repeat'(first|exact rfl|exact trivial|assumption|apply And.intro|refine fun(_:Unit) (_:True)=>?_|refine Exists.intro () ?_|omega|(dsimp only;omega)))
 refine⟨atE b.at_,?_⟩;(repeat'(first|exact rfl|exact trivial|assumption|apply And.intro|refine fun(_:Unit) (_:True)=>?_|refine Exists.intro () ?_|omega|(dsimp only;omega)))
 refine⟨b.spare,?_⟩;(repeat'(first|exact rfl|exact trivial|assumption|apply And.intro|refine fun(_:Unit) (_:True)=>?_|refine Exists.intro () ?_|omega|(dsimp only;omega)))
 refine⟨b.buys,?_⟩;(repeat'(first|exact rfl|exact trivial|assumption|apply And.intro|refine fun(_:Unit) (_:True)=>?_|refine Exists.intro () ?_|omega|(dsimp only;omega)))
 refine⟨b.sells,?_⟩;exact kp
open Go Cv Go.Proofs
structure ArN where
 a:Arena
 n:Int
def Arena.qAt (a:Arena) (n:Int):fJ:=if 0≤n∧n<a.queues.length then a.queues.getD n.toNat ⟨0,0,0,0⟩else⟨0,0,0,0⟩
def atotalC:Con:=con1 ArN (fun i=>[.nm 0 0,zB i.n]) (fun i=>[jD i.a]) (fun i=>True) (fun i=>zB (i.a.qAt i.n).total) (fun i=>[jD i.a])
def acountC:Con:=con1 ArN (fun i=>[.nm 0 0,zB i.n]) (fun i=>[jD i.a]) (fun i=>True) (fun i=>zB (i.a.qAt i.n).count) (fun i=>[jD i.a])
def bisC:Con:=con1 Int (fun n=>[zB n]) (fun _=>[]) (fun _=>True) (fun n=>yO (decide (n=1)||decide (n=2))) (fun _=>[])
structure BkR where
 b:Book
 r:xL
def Book.told (b:Book) (r:xL):Lv:=⟨r.price,(b.a.qAt r.queue).total,(b.a.qAt r.queue).count⟩
@[reducible] def Book.cntOk (b:Book):Prop:=∀q∈b.a.queues,yQ q.count
def toldC:Con:=con1 BkR (fun i=>[.nm 0 0,.agg [zB i.r.price,zB i.r.queue]]) (fun i=>[yB i.b]) (fun i=>i.b.cntOk) (fun i=>lvV (i.b.told i.r)) (fun i=>[yB i.b])
def Book.best (b:Book) (l:List xL):Lv×Bool:=match l with
 |[]=>(⟨0,0,0⟩,false)
 |r::_=>(b.told r,true)
structure BkS where
 side:Bool
 b:Book
def Book.side (b:Book) (s:Bool):List xL:=if s then b.sells else b.buys
@[reducible] def zVe (b:Book) (l:List xL):V:= .tup [lvV (b.best l).1,yO (b.best l).2]
def best1C:Con:=con1 Book (fun _=>[.nm 0 0,zB 1]) (fun b=>[yB b]) Book.cntOk (fun b=>zVe b b.buys) (fun b=>[yB b])
def best2C:Con:=con1 Book (fun _=>[.nm 0 0,zB 2]) (fun b=>[yB b]) Book.cntOk (fun b=>zVe b b.sells) (fun b=>[yB b])
def zA (s:Bool):Int:=if s then 2 else 1
def bestC:Con:=con1 BkS (fun i=>[.nm 0 0,zB (zA i.side)]) (fun i=>[yB i.b]) (fun i=>i.b.cntOk) (fun i=>zVe i.b (i.b.side i.side)) (fun i=>[yB i.b])
structure Top where
 has1:Bool
 has2:Bool
 p1:Int
 p2:Int
 q1:Int
 q2:Int
 deriving DecidableEq
def zT (t:Top):List D:=[.v (.bool t.has1),.v (.bool t.has2),.v (.int .i64 t.p1),.v (.int .i64 t.p2),.v (.int .i64 t.q1),.v (.int .i64 t.q2)]
def top0:Top:=⟨false,false,0,0,0,0⟩
def Top.buy (t:Top) (x:Lv×Bool):Top:=if x.2 then{t with has1:=true,p1:=x.1.price,q1:=x.1.qty}else t
def Top.sell (t:Top) (x:Lv×Bool):Top:=if x.2 then{t with has2:=true,p2:=x.1.price,q2:=x.1.qty}else t
def Book.top (b:Book):Top:=(top0.buy (b.best b.buys)).sell (b.best b.sells)
def MSt.tops (s:MSt):List Top:=s.books.map Book.top
@[reducible] def MSt.cntOk (s:MSt):Prop:=s.books.length≤1000000∧∀b∈s.books,b.cntOk
def topsC:Con:=con1 MSt (fun _=>[.nm 0 0]) (fun s=>[zE s]) MSt.cntOk (fun s=> .own 1) (fun s=>[zE s,.own 55 6 (s.tops.map zT)])
def xX (s:MSt) (j:Nat) (x:Top):List Top:=(s.tops.take j)++x::List.replicate (s.books.length-j-1) top0
def qA (s:MSt) (j:Nat):List Top:=(s.tops.take j)++List.replicate (s.books.length-j) top0
def yFf (s:MSt):List SAnn:=[
 {ι:=Nat,slots:=fun j=>[(3,.own 0),(21,zB j)],rows:=fun j=>[.own 55 6 ((qA s j).map zT)]},
 {ι:=Unit,slots:=fun _=>[],rows:=fun _=>[],un:=3}]
def yFb (s:MSt):List (Nat×SAnn):=[(15,{ι:=Nat×Top,slots:=fun x=>[(3,.own 0)],slots0:=fun x=>[(3,.own 0)],rows0:=fun x=>[.own 55 6 ((xX s x.1 x.2).map zT)],rows:=fun x=>[.own 55 6 ((xX s x.1 x.2).map zT)]})]
def yGb (s:MSt):List SAnn:=[{ι:=Nat,slots:=fun j=>[(3,.nm 0 0),(22,zB j)],rows:=fun j=>(List.range 5).map (xR ⟨s.p,s.books.take j,s.wh⟩)}]
open Go Cv Go.Proofs
def jA (a:ArN):Prop:=a.a.free=a.a.free∧List.map zR a.a.slots=List.map zR a.a.slots∧List.map zN a.a.queues=List.map zN a.a.queues∧True
def nC (a:ArN):Prop:=∃(b:Unit),(a.a.qAt a.n).total=0∧jA a
def uR (a:ArN):=(↑(List.map zN a.a.queues).length:Int)
def zXh (i:ArN):Prop:=
 cnd (decide (i.n≥0)) (cnd (!decide (i.n<(uR i))) (nC i) ((0≤i.n∧i.n<(uR i))∧∃(a:Int),zF (List.map zN i.a.queues) i.n.toNat ((0:Nat)+(2:Nat)) 1=some [D.v (.int .i64 a)]∧∃(b:Unit),(i.a.qAt i.n).total=a∧jA i)) (nC i)
theorem z3g (hG:GOk Tryz.prog ([])) (h:∀(i:ArN),atotalC.cnd i→zXh i):atotalC.ok Tryz.prog 106:=okw mixed hG 1 (fun _=>[]) (fun _=>[]) [0] Tryz.func106 h
def m8 (a:ArN):Prop:=∃(b:Unit),(a.a.qAt a.n).count=0∧jA a
def zZf (i:ArN):Prop:=
 cnd (decide (i.n≥0)) (cnd (!decide (i.n<(uR i))) (m8 i) ((0≤i.n∧i.n<(uR i))∧∃(a:Int),zF (List.map zN i.a.queues) i.n.toNat ((0:Nat)+(3:Nat)) 1=some [D.v (.int .i64 a)]∧∃(b:Unit),(i.a.qAt i.n).count=a∧jA i)) (m8 i)
theorem z7a (hG:GOk Tryz.prog ([])) (h:∀(i:ArN),acountC.cnd i→zZf i):acountC.ok Tryz.prog 107:=okw mixed hG 1 (fun _=>[]) (fun _=>[]) [0] Tryz.func107 h
def vB (a:Int):=(decide (a=(1:Int))||decide (a=(2:Int)))
def yNo (n:Int):Prop:=
 cnd (n==1) (∃(a:Unit),(vB n)=true∧True) (∃(a:Unit),(vB n)=(n==2)∧True)
theorem yMd (hG:GOk Tryz.prog ([])) (h:∀(n:Int),bisC.cnd n→yNo n):bisC.ok Tryz.prog 80:=okw mixed hG 0 (fun _=>[]) (fun _=>[]) [] Tryz.func80 h
def yOc (i:BkR):Prop:=
 ∃(i_1:ArN),i_1.n=i.r.queue∧AObj.adt Arena 3 zG i_1.a=AObj.adt Arena 3 zG i.b.a∧True∧∀(o:Unit),True→i.r.queue=i.r.queue∧True∧i.r.price=i.r.price∧∃(i_2:ArN),i_2.n=i.r.queue∧AObj.adt Arena 3 zG i_2.a=AObj.adt Arena 3 zG i_1.a∧True∧∀(o:Unit),True→i.r.price=i.r.price∧∃(o:Unit),i.r.price=i.r.price∧(i.b.a.qAt i.r.queue).total=(i_1.a.qAt i_1.n).total∧(i.b.a.qAt i.r.queue).count=(i_2.a.qAt i_2.n).count∧i.b.top1=i.b.top1∧i.b.top2=i.b.top2∧i.b.has1=i.b.has1∧i.b.has2=i.b.has2∧AObj.adt Arena 3 zG i.b.a=AObj.adt Arena 3 zG i_2.a∧List.map zC i.b.buys=List.map zC i.b.buys∧List.map zC i.b.sells=List.map zC i.b.sells∧atE i.b.at_=atE i.b.at_∧iE i.b.spare=iE i.b.spare∧True
theorem yKy (hG:GOk Tryz.prog ([(106,atotalC),(107,acountC)])) (h:∀(i:BkR),toldC.cnd i→yOc i):toldC.ok Tryz.prog 81:=okw mixed hG 0 (fun _=>[]) (fun _=>[]) [0] Tryz.func81 h
def yJh (b:Book):Prop:=
 ∃(i:Int),i=1∧True∧∀(o:Unit),True→cnd (!(decide (i=1)||decide (i=2))) (∃(o:Unit),(b.best b.buys).fst.price=0∧(b.best b.buys).fst.qty=0∧(b.best b.buys).fst.count=0∧(b.best b.buys).snd=false∧b.top1=b.top1∧b.top2=b.top2∧b.has1=b.has1∧b.has2=b.has2∧AObj.adt Arena 3 zG b.a=AObj.adt Arena 3 zG b.a∧List.map zC b.buys=List.map zC b.buys∧List.map zC b.sells=List.map zC b.sells∧atE b.at_=atE b.at_∧iE b.spare=iE b.spare∧True) (cnd ((↑(List.map zC b.buys).length:Int)==0) (∃(o:Unit),(b.best b.buys).fst.price=0∧(b.best b.buys).fst.qty=0∧(b.best b.buys).fst.count=0∧(b.best b.buys).snd=false∧b.top1=b.top1∧b.top2=b.top2∧b.has1=b.has1∧b.has2=b.has2∧AObj.adt Arena 3 zG b.a=AObj.adt Arena 3 zG b.a∧List.map zC b.buys=List.map zC b.buys∧List.map zC b.sells=List.map zC b.sells∧atE b.at_=atE b.at_∧iE b.spare=iE b.spare∧True) (((0:Int)≤(0:Int)∧0<(↑(List.map zC b.buys).length:Int))∧∃(n:Int),∃(n_1:Int),zF (List.map zC b.buys) (Int.toNat 0) 0 2=some [D.v (.int .i64 n),D.v (.int .i64 n_1)]∧∃(i:BkR),i.r.price=n∧i.r.queue=n_1∧i.b.top1=b.top1∧i.b.top2=b.top2∧i.b.has1=b.has1∧i.b.has2=b.has2∧AObj.adt Arena 3 zG i.b.a=AObj.adt Arena 3 zG b.a∧List.map zC i.b.buys=List.map zC b.buys∧List.map zC i.b.sells=List.map zC b.sells∧atE i.b.at_=atE b.at_∧iE i.b.spare=iE b.spare∧(∀(q:fJ),q∈i.b.a.queues→(-9223372036854775808)≤q.count∧q.count≤9223372036854775807)∧∀(o:Unit),True→∃(o:Unit),(b.best b.buys).fst.price=i.r.price∧(b.best b.buys).fst.qty=(i.b.a.qAt i.r.queue).total∧(b.best b.buys).fst.count=(i.b.a.qAt i.r.queue).count∧(b.best b.buys).snd=true∧yB b=yB i.b∧True))
theorem yAa (hG:GOk Tryz.prog ([(80,bisC),(81,toldC)])) (h:∀(b:Book),best1C.cnd b→yJh b):best1C.ok Tryz.prog 49:=okw mixed hG 0 (fun _=>[]) (fun _=>[]) [0] Tryz.func49 h
def yJi (b:Book):Prop:=
 ∃(i:Int),i=2∧True∧∀(o:Unit),True→cnd (!(decide (i=1)||decide (i=2))) (∃(o:Unit),(b.best b.sells).fst.price=0∧(b.best b.sells).fst.qty=0∧(b.best b.sells).fst.count=0∧(b.best b.sells).snd=false∧b.top1=b.top1∧b.top2=b.top2∧b.has1=b.has1∧b.has2=b.has2∧AObj.adt Arena 3 zG b.a=AObj.adt Arena 3 zG b.a∧List.map zC b.buys=List.map zC b.buys∧List.map zC b.sells=List.map zC b.sells∧atE b.at_=atE b.at_∧iE b.spare=iE b.spare∧True) (cnd ((↑(List.map zC b.sells).length:Int)==0) (∃(o:Unit),(b.best b.sells).fst.price=0∧(b.best b.sells).fst.qty=0∧(b.best b.sells).fst.count=0∧(b.best b.sells).snd=false∧b.top1=b.top1∧b.top2=b.top2∧b.has1=b.has1∧b.has2=b.has2∧AObj.adt Arena 3 zG b.a=AObj.adt Arena 3 zG b.a∧List.map zC b.buys=List.map zC b.buys∧List.map zC b.sells=List.map zC b.sells∧atE b.at_=atE b.at_∧iE b.spare=iE b.spare∧True) (((0:Int)≤(0:Int)∧0<(↑(List.map zC b.sells).length:Int))∧∃(n:Int),∃(n_1:Int),zF (List.map zC b.sells) (Int.toNat 0) 0 2=some [D.v (.int .i64 n),D.v (.int .i64 n_1)]∧∃(i:BkR),i.r.price=n∧i.r.queue=n_1∧i.b.top1=b.top1∧i.b.top2=b.top2∧i.b.has1=b.has1∧i.b.has2=b.has2∧AObj.adt Arena 3 zG i.b.a=AObj.adt Arena 3 zG b.a∧List.map zC i.b.buys=List.map zC b.buys∧List.map zC i.b.sells=List.map zC b.sells∧atE i.b.at_=atE b.at_∧iE i.b.spare=iE b.spare∧(∀(q:fJ),q∈i.b.a.queues→(-9223372036854775808)≤q.count∧q.count≤9223372036854775807)∧∀(o:Unit),True→∃(o:Unit),(b.best b.sells).fst.price=i.r.price∧(b.best b.sells).fst.qty=(i.b.a.qAt i.r.queue).total∧(b.best b.sells).fst.count=(i.b.a.qAt i.r.queue).count∧(b.best b.sells).snd=true∧yB b=yB i.b∧True))
theorem yCt (hG:GOk Tryz.prog ([(80,bisC),(81,toldC)])) (h:∀(b:Book),best2C.cnd b→yJi b):best2C.ok Tryz.prog 49:=okw mixed hG 0 (fun _=>[]) (fun _=>[]) [0] Tryz.func49 h
def zAl (a:MSt):Prop:=Sx.AObj.map (yR a.wh)=Sx.AObj.map (yR a.wh)∧AObj.fro 1 (iE a.p.months)=AObj.fro 1 (iE a.p.months)∧AObj.fro 1 (iE a.p.settle)=AObj.fro 1 (iE a.p.settle)
def eI (a:Nat×Top→Prop) (b:Nat×Top) (c:MSt) (d:Nat) (e:Book):Prop:=a b∧AObj.own 3 1 [[D.v (.int .i64 1)],[D.v (.int .i64 2)]]=AObj.own 3 1 [[D.v (.int .i64 1)],[D.v (.int .i64 2)]]∧Sx.AObj.cells (hZ (jP 0 1 5) [sV c.p.code,V.own 3,zB c.p.tick,zB c.p.low,zB c.p.high,zB c.p.wide,zB c.p.rule,zB c.p.top,zB c.p.least,zB c.p.part,V.own 4,V.own 1,V.mp 2]) (101:TypeId)=Sx.AObj.cells (hZ (jP 0 1 5) [sV c.p.code,V.own 3,zB c.p.tick,zB c.p.low,zB c.p.high,zB c.p.wide,zB c.p.rule,zB c.p.top,zB c.p.least,zB c.p.part,V.own 4,V.own 1,V.mp 2]) (101:TypeId)∧AObj.objs 102 Book 6 zQ (c.books.set (↑d:Int).toNat e) none=AObj.objs 102 Book 6 zQ c.books none∧zAl c
def zIi (a:MSt) (b:Nat×Top) (c:Nat×Top→Prop) (d:Nat) (e:Book):Prop:=∃(f:Nat×Top),List.map zT (xX a f.fst f.snd)=List.map zT (xX a b.fst b.snd)∧eI c f a d e
def vQ (a:MSt) (b:Nat×Top):=(List.map zT (xX a b.fst b.snd))
def f9 (a:MSt) (b:Nat×Top) (c:Nat):=(yC (vQ a b) (↑c:Int).toNat ((0:Nat)+(0:Nat)+(nat_lit 0+nat_lit 1) % ((2:Int) ^ IntKind.i64.bits).natAbs*(1:Nat)) [D.v (.bool true)])
def zS (a:BkS):=(a.b.best (a.b.side a.side))
def cE (a:MSt) (b:Nat×Top) (c:Nat) (d:BkS):=(yC (f9 a b c) (↑c:Int).toNat ((0:Nat)+(2:Nat)+(nat_lit 0+nat_lit 1) % ((2:Int) ^ IntKind.i64.bits).natAbs*(1:Nat)) [D.v (.int .i64 (zS d).fst.price)])
def eH (a:Nat) (b:MSt) (c:Nat×Top) (d:BkS):Prop:=(0≤(↑a:Int)∧(↑a:Int)<(↑(cE b c a d).length:Int))∧(↑a:Int).toNat=(↑a:Int).toNat
def dC (a:MSt) (b:Nat×Top) (c:Nat):=(yC (vQ a b) (↑c:Int).toNat ((0:Nat)+(0:Nat)+nat_lit 0*(1:Nat)) [D.v (.bool true)])
def gH (a:MSt) (b:Nat×Top) (c:Nat) (d:BkS):=(yC (dC a b c) (↑c:Int).toNat ((0:Nat)+(2:Nat)+nat_lit 0*(1:Nat)) [D.v (.int .i64 (zS d).fst.price)])
def e7 (a:Nat) (b:MSt) (c:Nat×Top) (d:BkS):Prop:=(0≤(↑a:Int)∧(↑a:Int)<(↑(gH b c a d).length:Int))∧(↑a:Int).toNat=(↑a:Int).toNat
def f0 (a:Nat) (b:MSt) (c:Nat×Top):Prop:=(0≤(↑a:Int)∧(↑a:Int)<(↑(f9 b c a).length:Int))∧(↑a:Int).toNat=(↑a:Int).toNat
def dA (a:Nat) (b:MSt) (c:Nat×Top):Prop:=(0≤(↑a:Int)∧(↑a:Int)<(↑(dC b c a).length:Int))∧(↑a:Int).toNat=(↑a:Int).toNat
def rI (a:MSt):Prop:=0≤(↑a.books.length:Int)∧(↑a.books.length:Int)≤(↑a.books.length:Int)∧(↑a.books.length:Int)≤9223372036854775807∧(↑(40:Nat):Int)*(↑a.books.length:Int)≤2 ^ (48:Nat)
def wF (a:BkS):Prop:=∀(b:fJ),b∈a.b.a.queues→(-9223372036854775808)≤b.count∧b.count≤9223372036854775807
def qU (a:Nat) (b:MSt) (c:Nat×Top):Prop:=0≤(↑a:Int)∧(↑a:Int)<(↑(vQ b c).length:Int)
def z3h (s:MSt):Prop:=
 (rI s)∧∃(a:Nat),(↑a:Int)=0∧List.map zT (qA s a)=List.replicate (↑s.books.length:Int).toNat [D.v (.bool false),D.v (.bool false),D.v (.int .i64 0),D.v (.int .i64 0),D.v (.int .i64 0),D.v (.int .i64 0)]∧∃(b:Nat→Prop),∃(c:Nat→Nat),b a∧∀(d:Nat),b d→cnd (decide ((↑d:Int)<(↑s.books.length:Int))) ((0≤(↑d:Int)∧(↑d:Int)<(↑s.books.length:Int))∧(↑d:Int).toNat<s.books.length∧∃(e:Nat×Top),List.map zT (xX s e.fst e.snd)=List.map zT (qA s d)∧∃(f:Nat×Top→Prop),(((0:Int)≤(0:Int)∧0<(↑(2:Nat):Int))∧∃(g:Int),zF [[D.v (.int .i64 1)],[D.v (.int .i64 2)]] (Int.toNat 0) 0 1=some [D.v (.int .i64 g)]∧∃(h:Book),s.books[(↑d:Int).toNat]?=some h∧∃(j:BkS),zA j.side=g∧yB j.b=yB h∧(wF j)∧∀(k:Unit),True→∃(l:Book),yB j.b=yB l∧(↑d:Int).toNat=(↑d:Int).toNat∧(↑d:Int).toNat<s.books.length∧cnd (zS j).snd ((qU d s e)∧(qU d s e)∧(qU d s e)∧(↑d:Int).toNat<(vQ s e).length∧(dA d s e)∧(dA d s e)∧(zS j).fst.qty=(zS j).fst.qty∧(zS j).fst.price=(zS j).fst.price∧(↑d:Int).toNat<(dC s e d).length∧(e7 d s e j)∧(zS j).fst.qty=(zS j).fst.qty∧(↑d:Int).toNat<(gH s e d j).length∧∃(m:Nat×Top),List.map zT (xX s m.fst m.snd)=yC (gH s e d j) (↑d:Int).toNat ((0:Nat)+(4:Nat)+nat_lit 0*1) [D.v (.int .i64 (zS j).fst.qty)]∧eI f m s d l) (zIi s e f d l))∧∀(g:Nat×Top),f g→∃(h:Nat×Top),List.map zT (xX s h.fst h.snd)=List.map zT (xX s g.fst g.snd)∧∃(j:Nat×Top→Prop),((0≤IntKind.i64.wrap ((0:Int)+(1:Int))∧IntKind.i64.wrap ((0:Int)+(1:Int))<(↑(2:Nat):Int))∧∃(k:Int),zF [[D.v (.int .i64 1)],[D.v (.int .i64 2)]] (IntKind.i64.wrap ((0:Int)+(1:Int))).toNat 0 1=some [D.v (.int .i64 k)]∧∃(l:Book),s.books[(↑d:Int).toNat]?=some l∧∃(m:BkS),zA m.side=k∧yB m.b=yB l∧(wF m)∧∀(n:Unit),True→∃(p:Book),yB m.b=yB p∧(↑d:Int).toNat=(↑d:Int).toNat∧(↑d:Int).toNat<s.books.length∧cnd (zS m).snd ((qU d s h)∧(qU d s h)∧(qU d s h)∧(↑d:Int).toNat<(vQ s h).length∧(f0 d s h)∧(f0 d s h)∧(zS m).fst.qty=(zS m).fst.qty∧(zS m).fst.price=(zS m).fst.price∧(↑d:Int).toNat<(f9 s h d).length∧(eH d s h m)∧(zS m).fst.qty=(zS m).fst.qty∧(↑d:Int).toNat<(cE s h d m).length∧∃(q:Nat×Top),List.map zT (xX s q.fst q.snd)=yC (cE s h d m) (↑d:Int).toNat ((0:Nat)+(4:Nat)+(nat_lit 0+nat_lit 1) % ((2:Int) ^ IntKind.i64.bits).natAbs*1) [D.v (.int .i64 (zS m).fst.qty)]∧eI j q s d p) (zIi s h j d p))∧∀(k:Nat×Top),j k→∃(l:Nat),(↑l:Int)=IntKind.i64.wrap ((↑d:Int)+1)∧List.map zT (qA s l)=List.map zT (xX s k.fst k.snd)∧b l∧c l<c d∧Sx.AObj.cells (hZ (jP 0 1 5) [sV s.p.code,V.own 3,zB s.p.tick,zB s.p.low,zB s.p.high,zB s.p.wide,zB s.p.rule,zB s.p.top,zB s.p.least,zB s.p.part,V.own 4,V.own 1,V.mp 2]) (101:TypeId)=Sx.AObj.cells (hZ (jP 0 1 5) [sV s.p.code,V.own 3,zB s.p.tick,zB s.p.low,zB s.p.high,zB s.p.wide,zB s.p.rule,zB s.p.top,zB s.p.least,zB s.p.part,V.own 4,V.own 1,V.mp 2]) (101:TypeId)∧AObj.objs 102 Book 6 zQ s.books none=AObj.objs 102 Book 6 zQ s.books none∧zAl s) (∃(e:Unit),sb s.p.code=sb s.p.code∧s.p.tick=s.p.tick∧s.p.low=s.p.low∧s.p.high=s.p.high∧s.p.wide=s.p.wide∧s.p.rule=s.p.rule∧s.p.top=s.p.top∧s.p.least=s.p.least∧s.p.part=s.p.part∧AObj.objs 102 Book 6 zQ s.books none=AObj.objs 102 Book 6 zQ s.books none∧yR s.wh=yR s.wh∧AObj.fro 1 (iE s.p.months)=AObj.fro 1 (iE s.p.months)∧AObj.fro 1 (iE s.p.settle)=AObj.fro 1 (iE s.p.settle)∧List.map zT s.tops=List.map zT (qA s d)∧True)
theorem yIa (hG:GOk Tryz.prog ([(49,bestC)])) (h:∀(s:MSt),topsC.cnd s→z3h s):topsC.ok Tryz.prog 23:=okw mixed hG 0 (fun s=>yFb s) (fun s=>yFf s) [0] Tryz.func23 h
def yKp (s:MSt):Prop:=
 ∃(i:List (Value×List D)),i=yR s.wh∧True∧∀(o:Unit),True→(sb s.p.code=sb s.p.code∧True∧s.p.tick=s.p.tick∧s.p.low=s.p.low∧s.p.high=s.p.high∧s.p.wide=s.p.wide∧s.p.rule=s.p.rule∧s.p.top=s.p.top∧s.p.least=s.p.least∧s.p.part=s.p.part∧True∧True)∧∃(i0:Nat),(↑i0:Int)=0∧sb s.p.code=sb s.p.code∧s.p.tick=s.p.tick∧s.p.low=s.p.low∧s.p.high=s.p.high∧s.p.wide=s.p.wide∧s.p.rule=s.p.rule∧s.p.top=s.p.top∧s.p.least=s.p.least∧s.p.part=s.p.part∧List.take i0 s.books=[]∧(none:Option Nat)=none∧yR s.wh=i∧AObj.fro 1 (iE s.p.months)=AObj.fro 1 (iE s.p.months)∧AObj.fro 1 (iE s.p.settle)=AObj.fro 1 (iE s.p.settle)∧∃(I:Nat→Prop),∃(μ:Nat→Nat),I i0∧∀(i_1:Nat),I i_1→cnd (decide ((↑i_1:Int)<(↑s.books.length:Int))) ((0≤(↑i_1:Int)∧(↑i_1:Int)<(↑s.books.length:Int))∧(↑i_1:Int).toNat<s.books.length∧∃(x:Book),s.books[(↑i_1:Int).toNat]?=some x∧∃(i_2:Book),yB i_2=yB x∧((i_2.a.slots.length≤1000000∧i_2.a.queues.length≤1000000)∧i_2.buys.length≤1000000∧i_2.sells.length≤1000000∧i_2.spare.length≤1000000)∧∀(o:Unit),True→∃(x:Book),yB i_2=yB x∧(↑i_1:Int).toNat=(↑i_1:Int).toNat∧(↑i_1:Int).toNat<s.books.length∧True∧True∧∃(l1':List Book),AObj.objs 102 Book 6 zQ (List.take i_1 s.books) none=AObj.objs 102 Book 6 zQ l1' none∧(l1'.length+1)*(8:Nat)≤(70368744177664:Nat)∧∃(i':Nat),(↑i':Int)=IntKind.i64.wrap ((↑i_1:Int)+1)∧sb s.p.code=sb s.p.code∧s.p.tick=s.p.tick∧s.p.low=s.p.low∧s.p.high=s.p.high∧s.p.wide=s.p.wide∧s.p.rule=s.p.rule∧s.p.top=s.p.top∧s.p.least=s.p.least∧s.p.part=s.p.part∧AObj.objs 102 Book 6 zQ (List.take i' s.books) none=AObj.objs 102 Book 6 zQ (l1'++[i_2]) none∧yR s.wh=yR s.wh∧AObj.fro 1 (iE s.p.months)=AObj.fro 1 (iE s.p.months)∧AObj.fro 1 (iE s.p.settle)=AObj.fro 1 (iE s.p.settle)∧I i'∧μ i'<μ i_1∧Sx.AObj.map i=Sx.AObj.map i∧Sx.AObj.cells (hZ (jP 0 1 5) [sV s.p.code,V.own 3,zB s.p.tick,zB s.p.low,zB s.p.high,zB s.p.wide,zB s.p.rule,zB s.p.top,zB s.p.least,zB s.p.part,V.own 4,V.own 1,V.mp 2]) (101:TypeId)=Sx.AObj.cells (hZ (jP 0 1 5) [sV s.p.code,V.own 3,zB s.p.tick,zB s.p.low,zB s.p.high,zB s.p.wide,zB s.p.rule,zB s.p.top,zB s.p.least,zB s.p.part,V.own 4,V.own 1,V.mp 2]) (101:TypeId)∧AObj.objs 102 Book 6 zQ (s.books.set (↑i_1:Int).toNat x) none=AObj.objs 102 Book 6 zQ s.books none∧AObj.fro 1 (iE s.p.months)=AObj.fro 1 (iE s.p.months)∧AObj.fro 1 (iE s.p.settle)=AObj.fro 1 (iE s.p.settle)) (∃(o:Unit),sb s.p.code=sb s.p.code∧s.p.tick=s.p.tick∧s.p.low=s.p.low∧s.p.high=s.p.high∧s.p.wide=s.p.wide∧s.p.rule=s.p.rule∧s.p.top=s.p.top∧s.p.least=s.p.least∧s.p.part=s.p.part∧AObj.objs 102 Book 6 zQ s.books none=AObj.objs 102 Book 6 zQ s.books none∧yR s.wh=i∧AObj.fro 1 (iE s.p.months)=AObj.fro 1 (iE s.p.months)∧AObj.fro 1 (iE s.p.settle)=AObj.fro 1 (iE s.p.settle)∧sb s.p.code=sb s.p.code∧s.p.tick=s.p.tick∧s.p.low=s.p.low∧s.p.high=s.p.high∧s.p.wide=s.p.wide∧s.p.rule=s.p.rule∧s.p.top=s.p.top∧s.p.least=s.p.least∧s.p.part=s.p.part∧AObj.objs 102 Book 6 zQ s.books none=AObj.objs 102 Book 6 zQ (List.take i_1 s.books) none∧yR s.wh=yR s.wh∧AObj.fro 1 (iE s.p.months)=AObj.fro 1 (iE s.p.months)∧AObj.fro 1 (iE s.p.settle)=AObj.fro 1 (iE s.p.settle)∧True)
theorem yBz (hG:GOk Tryz.prog ([(78,clWhC),(79,copyBC)])) (h:∀(s:MSt),copySC.cnd s→yKp s):copySC.ok Tryz.prog 48:=okw mixed hG 0 (fun _=>[]) (fun s=>yGb s) [0] Tryz.func48 h
open Go Cv Go.Proofs
theorem elA {α:Type} {f:α→List D} {l:List α} {i g n:Nat} {x:α} {r:List D} (h:l[i]? =some x) (hn:g+n≤(f x).length) (hr:((f x).drop g).take n=r):zF (l.map f) i g n=some r:=by
 unfold zF
 rw[List.getElem?_map,h]
 simp only[Option.map_some,Nat.ble_eq_true_of_le hn,cond_true,hr]
theorem zNj {a:Arena} {n:Int} {q:fJ} (h0:0≤n) (h:a.queues[n.toNat]? =some q):a.qAt n=q:=by
 have:=(List.getElem?_eq_some_iff.1 h).1
 rw[Arena.qAt,if_pos ⟨h0,by omega⟩,List.getD_eq_getElem?_getD,h];rfl
theorem zDo {a:Arena} {n:Int} (h:¬(0≤n∧n<a.queues.length)):a.qAt n=⟨0,0,0,0⟩:=by rw[Arena.qAt,if_neg h]
theorem z3a:atotalC.ok Tryz.prog 106:=z3g gok0 fun i _=>by
 unfold zXh uR nC jA
 simp only[List.length_map]
 refine zK (fun c=>Cv.cnd.mk (fun d=> ?_) (fun d=> ?_)) (fun c=> ?_)
 ·have d:¬i.n<(i.a.queues.length:Int):=by simpa using d
  rw[zDo (by omega)];exact kp
 ·have d:i.n<(i.a.queues.length:Int):=by simpa using d
  obtain⟨q,hq⟩:=yA (l:=i.a.queues) (i:=i.n.toNat) (by omega)
  rw[zNj (by omega) hq]
  refine⟨⟨by omega,by omega⟩,q.total,elA hq (by simp[zN]) rfl,?_⟩;exact kp
 ·rw[zDo (by omega)];exact kp
theorem l9:acountC.ok Tryz.prog 107:=z7a gok0 fun i _=>by
 unfold zZf uR m8 jA
 simp only[List.length_map]
 refine zK (fun c=>Cv.cnd.mk (fun d=> ?_) (fun d=> ?_)) (fun c=> ?_)
 ·have d:¬i.n<(i.a.queues.length:Int):=by simpa using d
  rw[zDo (by omega)];exact kp
 ·have d:i.n<(i.a.queues.length:Int):=by simpa using d
  obtain⟨q,hq⟩:=yA (l:=i.a.queues) (i:=i.n.toNat) (by omega)
  rw[zNj (by omega) hq]
  refine⟨⟨by omega,by omega⟩,q.count,elA hq (by simp[zN]) rfl,?_⟩;exact kp
 ·rw[zDo (by omega)];exact kp
theorem zAu:bisC.ok Tryz.prog 80:=yMd gok0 fun n _=>by
 unfold yNo vB
 refine Cv.cnd.mk (fun c=>⟨(),?_,trivial⟩) (fun c=>⟨(),?_,trivial⟩)
 all_goals simp at c
 ·simp[c]
 ·by_cases h:n=2<;>simp[c,h]
theorem zZa:toldC.ok Tryz.prog 81:=yKy (gokc z3a (gokc l9 gok0)) fun i h=>by
 refine⟨⟨i.b.a,i.r.queue⟩,?_⟩;(repeat'(first|exact rfl|exact trivial|assumption|apply And.intro|refine fun(_:Unit) (_:True)=>?_|refine Exists.intro () ?_|omega|(dsimp only;omega)))
 refine⟨⟨i.b.a,i.r.queue⟩,?_⟩;exact kp
theorem z5h:best1C.ok Tryz.prog 49:=yAa (gokc zAu (gokc zZa gok0)) fun b h=>by
 have h:b.cntOk:=h
 refine⟨1,rfl,trivial,fun _ _=>Cv.cnd.mk (fun c=>absurd c (by decide)) fun _=> ?_⟩
 simp only[List.length_map]
 refine Cv.cnd.mk (fun c=> ?_) (fun c=> ?_)
 ·have hl:b.buys=[]:=List.eq_nil_of_length_eq_zero (by have:(b.buys.length:Int)=0:=(by simpa using c);omega)
  have e:b.best b.buys=(⟨0,0,0⟩,false):=by rw[hl];rfl
  rw[e];exact kp
 ·obtain⟨r,l,hl⟩:∃r l,b.buys=r::l:=by
   cases hb:b.buys with
   |nil=>rw[hb]at c;exact absurd c (by decide)
   |cons r l=>exact⟨r,l,rfl⟩
  have e:b.best b.buys=(b.told r,true):=by rw[hl];rfl
  rw[e]
  refine⟨⟨by omega,by rw[hl,List.length_cons];omega⟩,r.price,r.queue,elA (x:=r) (by rw[hl];rfl) (by simp[zC]) rfl,⟨b,r⟩,?_⟩
  exact kp
theorem z7w:best2C.ok Tryz.prog 49:=yCt (gokc zAu (gokc zZa gok0)) fun b h=>by
 have h:b.cntOk:=h
 refine⟨2,rfl,trivial,fun _ _=>Cv.cnd.mk (fun c=>absurd c (by decide)) fun _=> ?_⟩
 simp only[List.length_map]
 refine Cv.cnd.mk (fun c=> ?_) (fun c=> ?_)
 ·have hl:b.sells=[]:=List.eq_nil_of_length_eq_zero (by have:(b.sells.length:Int)=0:=(by simpa using c);omega)
  have e:b.best b.sells=(⟨0,0,0⟩,false):=by rw[hl];rfl
  rw[e];exact kp
 ·obtain⟨r,l,hl⟩:∃r l,b.sells=r::l:=by
   cases hb:b.sells with
   |nil=>rw[hb]at c;exact absurd c (by decide)
   |cons r l=>exact⟨r,l,rfl⟩
  have e:b.best b.sells=(b.told r,true):=by rw[hl];rfl
  rw[e]
  refine⟨⟨by omega,by rw[hl,List.length_cons];omega⟩,r.price,r.queue,elA (x:=r) (by rw[hl];rfl) (by simp[zC]) rfl,⟨b,r⟩,?_⟩
  exact kp
theorem zDq:bestC.ok Tryz.prog 49:=fun i=>match i with
 |⟨false,b⟩=>z5h b
 |⟨true,b⟩=>z7w b
theorem zGr {α:Type} (f:α→α) (x:α) (b:List α):∀a:List α,(a++x::b).modify a.length f=a++f x::b
 |[]=>rfl
 |y::a=>by
  show y::(a++x::b).modify a.length f=_
  rw[zGr f x b a];rfl
theorem zKs {els:List (List D)} {a b:List (List D)} {x y ds:List D} {j f:Nat} (h:els=a++x::b) (hl:a.length=j) (hy:x.take f++(ds++x.drop (f+ds.length))=y):yC els j f ds=a++y::b:=by
 rw[yC,h,← hl,zGr,hy]
theorem qZ {s:MSt} {j:Nat} {x y:Top} {f:Nat} {ds:List D} (hj:j<s.books.length) (hy:(zT x).take f++(ds++(zT x).drop (f+ds.length))=zT y):
 yC (List.map zT (xX s j x)) j f ds=List.map zT (xX s j y):=by
 rw[zKs (a:=(s.tops.take j).map zT) (b:=(List.replicate (s.books.length-j-1) top0).map zT) (by rw[xX,List.map_append,List.map_cons]) (by
  rw[List.length_map,List.length_take,MSt.tops,List.length_map];omega) hy,xX,List.map_append,List.map_cons]
theorem zEx {s:MSt} {j:Nat} {x:Top} (hj:j<s.books.length):(xX s j x).length=s.books.length:=by
 rw[xX,List.length_append,List.length_cons,List.length_take,MSt.tops,List.length_map,List.length_replicate];omega
theorem zCy {s:MSt} {j:Nat} (hj:j<s.books.length):xX s j top0=qA s j:=by
 rw[xX,qA]
 obtain⟨m,hm⟩:∃m,s.books.length-j=m+1:=⟨s.books.length-j-1,by omega⟩
 rw[hm,List.replicate_succ];rfl
theorem zCr {s:MSt} {j:Nat} {b:Book} (hb:s.books[j]? =some b):xX s j b.top=qA s (j+1):=by
 have hj:=(List.getElem?_eq_some_iff.1 hb).1
 rw[xX,qA,List.take_add_one,show s.tops[j]? =some b.top by rw[MSt.tops,List.getElem?_map,hb];rfl]
 simp only[Option.toList_some,List.append_assoc,List.cons_append,List.nil_append]
 rw[show s.books.length-j-1=s.books.length-(j+1)by omega]
theorem hP {α:Type} {l:List α} {j:Nat} {x:α} (h:l[j]? =some x):l.set j x=l:=by
 obtain⟨hj,rfl⟩:=List.getElem?_eq_some_iff.1 h
 exact List.set_getElem_self hj
theorem yMc (s:MSt) (h:topsC.cnd s):z3h s:=by
 obtain⟨h1,h2⟩:s.cntOk:=h
 unfold z3h e7 eH cE zIi eI qU wF zAl rI dA gH zS dC f0 f9 vQ
 have p48:(2:Int) ^ (48:Nat)=281474976710656:=by decide
 refine⟨⟨by omega,by omega,by omega,by rw[p48];omega⟩,0,rfl,?_,fun j=>j≤s.books.length,fun j=>s.books.length-j,by omega,fun j hj=>zK (fun hlt=> ?_) (fun hlt=> ?_)⟩
 ·rw[qA,List.map_append,List.map_replicate];rfl
 ·have hj':j<s.books.length:=by omega
  obtain⟨b,hb⟩:=yA hj'
  have hc:=h2 b (List.mem_of_getElem? hb)
  simp only[Int.toNat_natCast]
  have ha:∀x,(List.map zT (xX s j x)).length=s.books.length:=fun x=>by rw[List.length_map,zEx hj']
  have w1:IntKind.i64.wrap (0+1)=1:=by decide
  have w2:(0+1) % ((2:Int) ^ IntKind.i64.bits).natAbs=1:=by decide
  refine⟨⟨by omega,by omega⟩,by omega,(j,top0),by rw[zCy hj'],fun x=>x=(j,top0.buy (b.best b.buys)),⟨⟨by decide,by decide⟩,1,rfl,b,hb,⟨false,b⟩,rfl,rfl,hc,fun _ _=>⟨b,rfl,kp,by omega,?_⟩⟩,?_⟩
  ·refine Cv.cnd.mk (fun c=> ?_) (fun c=> ?_)
   ·have c:(b.best b.buys).2=true:=c
    have e1:=qZ (s:=s) hj' (x:=top0) (y:={top0 with has1:=true}) (f:=0+0+0*1) (ds:=[D.v (.bool true)]) rfl
    have e2:=qZ (s:=s) hj' (x:={top0 with has1:=true}) (y:={top0 with has1:=true,p1:=(b.best b.buys).1.price}) (f:=0+2+0*1) (ds:=[D.v (.int .i64 (b.best b.buys).1.price)]) rfl
    have e3:=qZ (s:=s) hj' (x:={top0 with has1:=true,p1:=(b.best b.buys).1.price}) (y:={top0 with has1:=true,p1:=(b.best b.buys).1.price,q1:=(b.best b.buys).1.qty}) (f:=0+4+0*1) (ds:=[D.v (.int .i64 (b.best b.buys).1.qty)]) rfl
    dsimp only
    simp only[show b.side false=b.buys from rfl,e1,e2,e3,ha]
    (repeat'(first|exact rfl|exact trivial|assumption|apply And.intro|refine fun(_:Unit) (_:True)=>?_|refine Exists.intro () ?_|omega|(dsimp only;omega)))
    refine⟨(j,{top0 with has1:=true,p1:=(b.best b.buys).1.price,q1:=(b.best b.buys).1.qty}),rfl,?_,?_⟩
    ·rw[Top.buy,if_pos c]
    ·(repeat'(first|exact rfl|exact trivial|assumption|apply And.intro|refine fun(_:Unit) (_:True)=>?_|refine Exists.intro () ?_|omega|(dsimp only;omega)))
     rw[hP hb]
   ·have c:(b.best b.buys).2=false:=c
    refine⟨(j,top0),rfl,?_,?_⟩
    ·rw[Top.buy,if_neg (by rw[c];simp)]
    ·(repeat'(first|exact rfl|exact trivial|assumption|apply And.intro|refine fun(_:Unit) (_:True)=>?_|refine Exists.intro () ?_|omega|(dsimp only;omega)))
     rw[hP hb]
  ·rintro _ rfl
   rw[w1]
   generalize hx:top0.buy (b.best b.buys)=x
   have hx2:b.top=x.sell (b.best b.sells):=by rw[Book.top,hx]
   refine⟨(j,x),rfl,fun y=>y=(j,b.top),⟨⟨by decide,by decide⟩,2,rfl,b,hb,⟨true,b⟩,rfl,rfl,hc,fun _ _=>⟨b,rfl,kp,by omega,?_⟩⟩,?_⟩
   ·refine Cv.cnd.mk (fun c=> ?_) (fun c=> ?_)
    ·have c:(b.best b.sells).2=true:=c
     have e1:=qZ (s:=s) hj' (x:=x) (y:={x with has2:=true}) (f:=0+0+1*1) (ds:=[D.v (.bool true)]) rfl
     have e2:=qZ (s:=s) hj' (x:={x with has2:=true}) (y:={x with has2:=true,p2:=(b.best b.sells).1.price}) (f:=0+2+1*1) (ds:=[D.v (.int .i64 (b.best b.sells).1.price)]) rfl
     have e3:=qZ (s:=s) hj' (x:={x with has2:=true,p2:=(b.best b.sells).1.price}) (y:={x with has2:=true,p2:=(b.best b.sells).1.price,q2:=(b.best b.sells).1.qty}) (f:=0+4+1*1) (ds:=[D.v (.int .i64 (b.best b.sells).1.qty)]) rfl
     dsimp only
     simp only[w2,show b.side true=b.sells from rfl,e1,e2,e3,ha]
     (repeat'(first|exact rfl|exact trivial|assumption|apply And.intro|refine fun(_:Unit) (_:True)=>?_|refine Exists.intro () ?_|omega|(dsimp only;omega)))
     refine⟨(j,{x with has2:=true,p2:=(b.best b.sells).1.price,q2:=(b.best b.sells).1.qty}),rfl,?_,?_⟩
     ·rw[hx2,Top.sell,if_pos c]
     ·(repeat'(first|exact rfl|exact trivial|assumption|apply And.intro|refine fun(_:Unit) (_:True)=>?_|refine Exists.intro () ?_|omega|(dsimp only;omega)))
      rw[hP hb]
    ·have c:(b.best b.sells).2=false:=c
     refine⟨(j,x),rfl,?_,?_⟩
     ·rw[hx2,Top.sell,if_neg (by rw[c];simp)]
     ·(repeat'(first|exact rfl|exact trivial|assumption|apply And.intro|refine fun(_:Unit) (_:True)=>?_|refine Exists.intro () ?_|omega|(dsimp only;omega)))
      rw[hP hb]
   ·rintro _ rfl
    refine⟨j+1,by rw[w64 (by omega)];rfl,?_⟩
    refine⟨by dsimp only;rw[zCr hb],?_⟩
    exact kp
 ·have hj:j≤s.books.length:=hj
  obtain rfl:j=s.books.length:=by omega
  have e:qA s s.books.length=s.tops:=by
   rw[qA,Nat.sub_self,List.replicate_zero,List.append_nil,List.take_of_length_le (by rw[MSt.tops,List.length_map];omega)]
  rw[e]
  exact kp
theorem tops_ok:topsC.ok Tryz.prog 23:=yIa (gokc zDq gok0) yMc
theorem lO:copySC.ok Tryz.prog 48:=yBz (gokc yDi (gokc z5o gok0)) fun s h=>by
 obtain⟨h1,h2⟩:s.small:=h
 refine⟨yR s.wh,?_⟩;(repeat'(first|exact rfl|exact trivial|assumption|apply And.intro|refine fun(_:Unit) (_:True)=>?_|refine Exists.intro () ?_|omega|(dsimp only;omega)))
 refine⟨0,?_⟩;(repeat'(first|exact rfl|exact trivial|assumption|apply And.intro|refine fun(_:Unit) (_:True)=>?_|refine Exists.intro () ?_|omega|(dsimp only;omega)))
 refine⟨fun j=>j≤s.books.length,fun j=>s.books.length-j,by omega,fun j hj=>zK (fun hlt=> ?_) (fun hlt=> ?_)⟩
 ·obtain⟨b,hb⟩:=yA (l:=s.books) (i:=j) (by omega)
  have hs:=h2 b (List.mem_of_getElem? hb)
  simp only[Int.toNat_natCast]
  refine⟨⟨by omega,by omega⟩,by omega,b,hb,b,rfl,hs,fun _ _=>⟨b,rfl,kp,by omega,trivial,trivial,s.books.take j,rfl,?_,j+1,?_⟩⟩
  ·rw[List.length_take];omega
  ·rw[w64 (by omega),List.take_add_one,hb]
   (repeat'(first|exact rfl|exact trivial|assumption|apply And.intro|refine fun(_:Unit) (_:True)=>?_|refine Exists.intro () ?_|omega|(dsimp only;omega)))
   rw[hP hb]
 ·have hj:j≤s.books.length:=hj
  obtain rfl:j=s.books.length:=by omega
  rw[List.take_of_length_le (Nat.le_refl _)]
  exact kp
open Go Cv Go.Proofs
structure Leg where
 inst:Int
 side:Int
 deriving DecidableEq
structure Quote where
 price:Int
 qty:Int
 a:Leg
 b:Leg
 deriving DecidableEq
def zH (q:Quote):List D:=[.v (.int .i64 q.price),.v (.int .i64 q.qty),.v (.int .i64 q.a.inst),.v (.int .i64 q.a.side),.v (.int .i64 q.b.inst),.v (.int .i64 q.b.side)]
@[reducible] def zWp (q:Quote):V:= .agg [zB q.price,zB q.qty,zB q.a.inst,zB q.a.side,zB q.b.inst,zB q.b.side]
def yKc:Quote:=⟨0,0,⟨0,0⟩,⟨0,0⟩⟩
structure I3' where
 side:Int
 x:Int
 y:Int
def btr (side x y:Int):Bool:=if side=1 then decide (y<x)else decide (x<y)
def iotherC:Con:=con1 Int (fun n=>[zB n]) (fun _=>[]) (fun n=>n=1∨n=2) (fun n=>zB (3-n)) (fun _=>[])
def ibetterC:Con:=con1 I3' (fun i=>[zB i.side,zB i.x,zB i.y]) (fun _=>[]) (fun _=>True) (fun i=>yO (btr i.side i.x i.y)) (fun _=>[])
structure CrI where
 x:Int
 y:Int
 b:Bool
def Top.has (t:Top) (s:Int):Bool:=if s=1 then t.has1 else t.has2
def Top.price (t:Top) (s:Int):Int:=if s=1 then t.p1 else t.p2
def Top.qty (t:Top) (s:Int):Int:=if s=1 then t.q1 else t.q2
def mkq (tops:List Top) (a b:Leg) (less:Bool):List Quote:=
 let x:=tops.getD a.inst.toNat top0
 let y:=tops.getD b.inst.toNat top0
 let r:=if less then vN (y.price b.side) (x.price a.side)else vH (x.price a.side) (y.price b.side)
 if x.has a.side && y.has b.side && r.2 then[⟨r.1,min (x.qty a.side) (y.qty b.side),a,b⟩]else[]
structure MkI where
 tops:List Top
 out:List Quote
 a:Int
 b:Int
 less:Bool
@[reducible] def wY (l:List Top):Prop:=l.length≤1000000∧∀t∈l,yQ t.p1∧yQ t.p2
def MkU (x:List Top×List Quote):Nat→AObj
 |0=> .cells [.own 1,.own 2] 110
 |1=> .fro 6 (x.1.map zT)
 |2=> .own 62 6 (x.2.map zH)
 |_=> .gone
@[reducible] def MkR (tops:List Top) (out:List Quote):List AObj:=[MkU (tops,out) 0,MkU (tops,out) 1,MkU (tops,out) 2]
@[reducible] def MkP (tops:List Top) (out:List Quote):List AObj:=[.cells [.own 1,.own 3] 110,MkU (tops,out) 1,.gone,MkU (tops,out) 2]
def mkC (sa sb:Int):Con:=con1 MkI (fun i=>[.nm 0 0,.agg [zB i.a,zB sa],.agg [zB i.b,zB sb],yO i.less]) (fun i=>MkR i.tops i.out)
 (fun i=>0≤i.a∧i.a<i.tops.length∧0≤i.b∧i.b<i.tops.length∧wY i.tops∧i.out.length≤1000) (fun _=>zQh) (fun i=>MkP i.tops (i.out++mkq i.tops ⟨i.a,sa⟩ ⟨i.b,sb⟩ i.less))
def mk11:Con:=mkC 1 1
def mk12:Con:=mkC 1 2
def mk21:Con:=mkC 2 1
def mk22:Con:=mkC 2 2
open Go Cv Go.Proofs
def yDy (n:Int):Prop:=
 ∃(o:Unit),3-n=IntKind.i64.wrap (3-n)∧True
theorem z4w (hG:GOk Tryz.prog ([])) (h:∀(n:Int),iotherC.cnd n→yDy n):iotherC.ok Tryz.prog 52:=okw mixed hG 0 (fun _=>[]) (fun _=>[]) [] Tryz.func52 h
def z4l (i:I3'):Prop:=
 cnd (i.side==1) (∃(o:Unit),btr i.side i.x i.y=decide (i.x>i.y)∧True) (∃(o:Unit),btr i.side i.x i.y=decide (i.x<i.y)∧True)
theorem z2v (hG:GOk Tryz.prog ([])) (h:∀(i:I3'),ibetterC.cnd i→z4l i):ibetterC.ok Tryz.prog 94:=okw mixed hG 0 (fun _=>[]) (fun _=>[]) [] Tryz.func94 h
def rO (a:MkI):=(a.out++mkq a.tops (Leg.mk a.a (1:Int)) (Leg.mk a.b (1:Int)) a.less)
def bQ (a:MkI):Prop:=∃(b:Unit),AObj.fro 6 (List.map zT a.tops)=MkU (a.tops,a.out) 1∧List.map zH (rO a)=List.map zH a.out∧True
def kT (a:I2):Prop:=((-9223372036854775808)≤a.x∧a.x≤9223372036854775807)∧(-9223372036854775808)≤a.y∧a.y≤9223372036854775807
def qV (a:MkI):=(↑(List.map zT a.tops).length:Int)
def qD (a:MkI):Prop:=(0≤a.b∧a.b<(qV a))∧a.b.toNat=a.b.toNat
def kU (a:MkI):Prop:=(0≤a.a∧a.a<(qV a))∧a.a.toNat=a.a.toNat
def kV (a:MkI):=((List.map zH a.out).length+(1:Nat))
def zFh (a:MkI) (b:Bool) (c:Bool) (d:Int) (e:Int) (f:Int) (g:Int):Prop:=True∧(qD a)∧a.b=a.b∧True∧True∧(kU a)∧a.a=a.a∧True∧True∧(qD a)∧a.b=a.b∧True∧True∧(kU a)∧a.a=a.a∧True∧True∧(qD a)∧a.b=a.b∧True∧cnd (!b) (bQ a) (cnd (!c) (bQ a) (∃(h:I2),h.x=d∧h.y=e∧(kT h)∧∀(j:Unit),True→cnd a.less (∃(k:I2),k.x=e∧k.y=d∧(kT k)∧∀(l:Unit),True→cnd (vN k.x k.y).snd (True∧(kV a)*(48:Nat)≤(70368744177664:Nat)∧∃(m:Unit),AObj.fro 6 (List.map zT a.tops)=MkU (a.tops,a.out) 1∧List.map zH (rO a)=List.map zH a.out++[[D.v (.int .i64 (vN k.x k.y).fst),D.v (.int .i64 (min f g)),D.v (.int .i64 a.a),D.v (.int .i64 1),D.v (.int .i64 a.b),D.v (.int .i64 1)]]∧True) (bQ a)) (cnd (vH h.x h.y).snd (True∧(kV a)*(48:Nat)≤(70368744177664:Nat)∧∃(k:Unit),AObj.fro 6 (List.map zT a.tops)=MkU (a.tops,a.out) 1∧List.map zH (rO a)=List.map zH a.out++[[D.v (.int .i64 (vH h.x h.y).fst),D.v (.int .i64 (min f g)),D.v (.int .i64 a.a),D.v (.int .i64 1),D.v (.int .i64 a.b),D.v (.int .i64 1)]]∧True) (bQ a))))
def z4m (i:MkI):Prop:=
 (0≤i.a∧i.a<(qV i))∧∃(a:Bool),∃(b:Bool),∃(c:Int),∃(d:Int),∃(e:Int),∃(f:Int),zF (List.map zT i.tops) i.a.toNat 0 6=some [D.v (.bool a),D.v (.bool b),D.v (.int .i64 c),D.v (.int .i64 d),D.v (.int .i64 e),D.v (.int .i64 f)]∧(0≤i.b∧i.b<(qV i))∧∃(g:Bool),∃(h:Bool),∃(j:Int),∃(k:Int),∃(l:Int),∃(m:Int),zF (List.map zT i.tops) i.b.toNat 0 6=some [D.v (.bool g),D.v (.bool h),D.v (.int .i64 j),D.v (.int .i64 k),D.v (.int .i64 l),D.v (.int .i64 m)]∧(zFh i a g c j e l)∧zFh i a g c j e l
theorem yFy (hG:GOk Tryz.prog ([(87,addC),(88,subC)])) (h:∀(i:MkI),mk11.cnd i→z4m i):mk11.ok Tryz.prog 53:=okw mixed hG 0 (fun _=>[]) (fun _=>[]) [] Tryz.func53 h
def rJ (a:MkI):=(a.out++mkq a.tops (Leg.mk a.a (1:Int)) (Leg.mk a.b (2:Int)) a.less)
def bK (a:MkI):Prop:=∃(b:Unit),AObj.fro 6 (List.map zT a.tops)=MkU (a.tops,a.out) 1∧List.map zH (rJ a)=List.map zH a.out∧True
def zHl (a:MkI) (b:Bool) (c:Bool) (d:Int) (e:Int) (f:Int) (g:Int):Prop:=True∧(qD a)∧a.b=a.b∧True∧True∧(kU a)∧a.a=a.a∧True∧True∧(qD a)∧a.b=a.b∧True∧True∧(kU a)∧a.a=a.a∧True∧True∧(qD a)∧a.b=a.b∧True∧cnd (!b) (bK a) (cnd (!c) (bK a) (∃(h:I2),h.x=d∧h.y=e∧(kT h)∧∀(j:Unit),True→cnd a.less (∃(k:I2),k.x=e∧k.y=d∧(kT k)∧∀(l:Unit),True→cnd (vN k.x k.y).snd (True∧(kV a)*(48:Nat)≤(70368744177664:Nat)∧∃(m:Unit),AObj.fro 6 (List.map zT a.tops)=MkU (a.tops,a.out) 1∧List.map zH (rJ a)=List.map zH a.out++[[D.v (.int .i64 (vN k.x k.y).fst),D.v (.int .i64 (min f g)),D.v (.int .i64 a.a),D.v (.int .i64 1),D.v (.int .i64 a.b),D.v (.int .i64 2)]]∧True) (bK a)) (cnd (vH h.x h.y).snd (True∧(kV a)*(48:Nat)≤(70368744177664:Nat)∧∃(k:Unit),AObj.fro 6 (List.map zT a.tops)=MkU (a.tops,a.out) 1∧List.map zH (rJ a)=List.map zH a.out++[[D.v (.int .i64 (vH h.x h.y).fst),D.v (.int .i64 (min f g)),D.v (.int .i64 a.a),D.v (.int .i64 1),D.v (.int .i64 a.b),D.v (.int .i64 2)]]∧True) (bK a))))
def z4z (i:MkI):Prop:=
 (0≤i.a∧i.a<(qV i))∧∃(a:Bool),∃(b:Bool),∃(c:Int),∃(d:Int),∃(e:Int),∃(f:Int),zF (List.map zT i.tops) i.a.toNat 0 6=some [D.v (.bool a),D.v (.bool b),D.v (.int .i64 c),D.v (.int .i64 d),D.v (.int .i64 e),D.v (.int .i64 f)]∧(0≤i.b∧i.b<(qV i))∧∃(g:Bool),∃(h:Bool),∃(j:Int),∃(k:Int),∃(l:Int),∃(m:Int),zF (List.map zT i.tops) i.b.toNat 0 6=some [D.v (.bool g),D.v (.bool h),D.v (.int .i64 j),D.v (.int .i64 k),D.v (.int .i64 l),D.v (.int .i64 m)]∧(zHl i a h c k e m)∧zHl i a h c k e m
theorem yGq (hG:GOk Tryz.prog ([(87,addC),(88,subC)])) (h:∀(i:MkI),mk12.cnd i→z4z i):mk12.ok Tryz.prog 53:=okw mixed hG 0 (fun _=>[]) (fun _=>[]) [] Tryz.func53 h
def rB (a:MkI):=(a.out++mkq a.tops (Leg.mk a.a (2:Int)) (Leg.mk a.b (1:Int)) a.less)
def bX (a:MkI):Prop:=∃(b:Unit),AObj.fro 6 (List.map zT a.tops)=MkU (a.tops,a.out) 1∧List.map zH (rB a)=List.map zH a.out∧True
def zNv (a:MkI) (b:Bool) (c:Bool) (d:Int) (e:Int) (f:Int) (g:Int):Prop:=True∧(qD a)∧a.b=a.b∧True∧True∧(kU a)∧a.a=a.a∧True∧True∧(qD a)∧a.b=a.b∧True∧True∧(kU a)∧a.a=a.a∧True∧True∧(qD a)∧a.b=a.b∧True∧cnd (!b) (bX a) (cnd (!c) (bX a) (∃(h:I2),h.x=d∧h.y=e∧(kT h)∧∀(j:Unit),True→cnd a.less (∃(k:I2),k.x=e∧k.y=d∧(kT k)∧∀(l:Unit),True→cnd (vN k.x k.y).snd (True∧(kV a)*(48:Nat)≤(70368744177664:Nat)∧∃(m:Unit),AObj.fro 6 (List.map zT a.tops)=MkU (a.tops,a.out) 1∧List.map zH (rB a)=List.map zH a.out++[[D.v (.int .i64 (vN k.x k.y).fst),D.v (.int .i64 (min f g)),D.v (.int .i64 a.a),D.v (.int .i64 2),D.v (.int .i64 a.b),D.v (.int .i64 1)]]∧True) (bX a)) (cnd (vH h.x h.y).snd (True∧(kV a)*(48:Nat)≤(70368744177664:Nat)∧∃(k:Unit),AObj.fro 6 (List.map zT a.tops)=MkU (a.tops,a.out) 1∧List.map zH (rB a)=List.map zH a.out++[[D.v (.int .i64 (vH h.x h.y).fst),D.v (.int .i64 (min f g)),D.v (.int .i64 a.a),D.v (.int .i64 2),D.v (.int .i64 a.b),D.v (.int .i64 1)]]∧True) (bX a))))
def z9r (i:MkI):Prop:=
 (0≤i.a∧i.a<(qV i))∧∃(a:Bool),∃(b:Bool),∃(c:Int),∃(d:Int),∃(e:Int),∃(f:Int),zF (List.map zT i.tops) i.a.toNat 0 6=some [D.v (.bool a),D.v (.bool b),D.v (.int .i64 c),D.v (.int .i64 d),D.v (.int .i64 e),D.v (.int .i64 f)]∧(0≤i.b∧i.b<(qV i))∧∃(g:Bool),∃(h:Bool),∃(j:Int),∃(k:Int),∃(l:Int),∃(m:Int),zF (List.map zT i.tops) i.b.toNat 0 6=some [D.v (.bool g),D.v (.bool h),D.v (.int .i64 j),D.v (.int .i64 k),D.v (.int .i64 l),D.v (.int .i64 m)]∧(zNv i b g d j f l)∧zNv i b g d j f l
theorem yFt (hG:GOk Tryz.prog ([(87,addC),(88,subC)])) (h:∀(i:MkI),mk21.cnd i→z9r i):mk21.ok Tryz.prog 53:=okw mixed hG 0 (fun _=>[]) (fun _=>[]) [] Tryz.func53 h
def pX (a:MkI):=(a.out++mkq a.tops (Leg.mk a.a (2:Int)) (Leg.mk a.b (2:Int)) a.less)
def bN (a:MkI):Prop:=∃(b:Unit),AObj.fro 6 (List.map zT a.tops)=MkU (a.tops,a.out) 1∧List.map zH (pX a)=List.map zH a.out∧True
def zNe (a:MkI) (b:Bool) (c:Bool) (d:Int) (e:Int) (f:Int) (g:Int):Prop:=True∧(qD a)∧a.b=a.b∧True∧True∧(kU a)∧a.a=a.a∧True∧True∧(qD a)∧a.b=a.b∧True∧True∧(kU a)∧a.a=a.a∧True∧True∧(qD a)∧a.b=a.b∧True∧cnd (!b) (bN a) (cnd (!c) (bN a) (∃(h:I2),h.x=d∧h.y=e∧(kT h)∧∀(j:Unit),True→cnd a.less (∃(k:I2),k.x=e∧k.y=d∧(kT k)∧∀(l:Unit),True→cnd (vN k.x k.y).snd (True∧(kV a)*(48:Nat)≤(70368744177664:Nat)∧∃(m:Unit),AObj.fro 6 (List.map zT a.tops)=MkU (a.tops,a.out) 1∧List.map zH (pX a)=List.map zH a.out++[[D.v (.int .i64 (vN k.x k.y).fst),D.v (.int .i64 (min f g)),D.v (.int .i64 a.a),D.v (.int .i64 2),D.v (.int .i64 a.b),D.v (.int .i64 2)]]∧True) (bN a)) (cnd (vH h.x h.y).snd (True∧(kV a)*(48:Nat)≤(70368744177664:Nat)∧∃(k:Unit),AObj.fro 6 (List.map zT a.tops)=MkU (a.tops,a.out) 1∧List.map zH (pX a)=List.map zH a.out++[[D.v (.int .i64 (vH h.x h.y).fst),D.v (.int .i64 (min f g)),D.v (.int .i64 a.a),D.v (.int .i64 2),D.v (.int .i64 a.b),D.v (.int .i64 2)]]∧True) (bN a))))
def z4a (i:MkI):Prop:=
 (0≤i.a∧i.a<(qV i))∧∃(a:Bool),∃(b:Bool),∃(c:Int),∃(d:Int),∃(e:Int),∃(f:Int),zF (List.map zT i.tops) i.a.toNat 0 6=some [D.v (.bool a),D.v (.bool b),D.v (.int .i64 c),D.v (.int .i64 d),D.v (.int .i64 e),D.v (.int .i64 f)]∧(0≤i.b∧i.b<(qV i))∧∃(g:Bool),∃(h:Bool),∃(j:Int),∃(k:Int),∃(l:Int),∃(m:Int),zF (List.map zT i.tops) i.b.toNat 0 6=some [D.v (.bool g),D.v (.bool h),D.v (.int .i64 j),D.v (.int .i64 k),D.v (.int .i64 l),D.v (.int .i64 m)]∧(zNe i b h d k f m)∧zNe i b h d k f m
theorem yJl (hG:GOk Tryz.prog ([(87,addC),(88,subC)])) (h:∀(i:MkI),mk22.cnd i→z4a i):mk22.ok Tryz.prog 53:=okw mixed hG 0 (fun _=>[]) (fun _=>[]) [] Tryz.func53 h
open Go Cv Go.Proofs
theorem zJc:iotherC.ok Tryz.prog 52:=z4w gok0 fun n h=>by
 have h:n=1∨n=2:=h
 refine⟨(),?_,trivial⟩
 rw[w64 (by omega)]
theorem zUu:ibetterC.ok Tryz.prog 94:=z2v gok0 fun i _=>by
 refine Cv.cnd.mk (fun e=>⟨(),?_,trivial⟩) (fun e=>⟨(),?_,trivial⟩)
 ·have e:i.side=1:=by simpa using e
  simp[btr,e]
 ·have e:i.side≠1:=by simpa using e
  simp[btr,e]
theorem yAq (a b:Int):(if b<a then b else a)=min a b:=by split<;>omega
theorem yMp (i:MkI) (h:mk11.cnd i):z4m i:=by
 obtain⟨a0,a1,b0,b1,⟨ht,hp⟩,ho⟩:0≤i.a∧i.a<i.tops.length∧0≤i.b∧i.b<i.tops.length∧wY i.tops∧i.out.length≤1000:=h
 obtain⟨x,hx⟩:=yA (l:=i.tops) (i:=i.a.toNat) (by omega)
 obtain⟨y,hy⟩:=yA (l:=i.tops) (i:=i.b.toNat) (by omega)
 obtain⟨⟨px1,px2⟩,px3,px4⟩:=hp x (List.mem_of_getElem? hx)
 obtain⟨⟨py1,py2⟩,py3,py4⟩:=hp y (List.mem_of_getElem? hy)
 have e0:mkq i.tops ⟨i.a,1⟩ ⟨i.b,1⟩ i.less=if x.has1 && y.has1 && (if i.less then vN y.p1 x.p1 else vH x.p1 y.p1).2 then[⟨(if i.less then vN y.p1 x.p1 else vH x.p1 y.p1).1,min x.q1 y.q1,⟨i.a,1⟩,⟨i.b,1⟩⟩]else[]:=by
  simp only[mkq,List.getD_eq_getElem?_getD,hx,hy,Option.getD_some];rfl
 unfold z4m zFh kV kU qD qV kT bQ rO
 simp only[List.length_map]
 refine⟨⟨by omega,by omega⟩,x.has1,x.has2,x.p1,x.p2,x.q1,x.q2,elA hx (by simp[zT]) rfl,⟨by omega,by omega⟩,y.has1,y.has2,y.p1,y.p2,y.q1,y.q2,elA hy (by simp[zT]) rfl,?_⟩
 rw[e0]
 (repeat'(first|exact rfl|exact trivial|assumption|apply And.intro|refine fun(_:Unit) (_:True)=>?_|refine Exists.intro () ?_|omega|(dsimp only;omega)))
 all_goals
  refine Cv.cnd.mk (fun c1=> ?_) (fun c1=>Cv.cnd.mk (fun c2=> ?_) (fun c2=> ?_))
  ·have c1:x.has1=false:=by simpa using c1
   simp only[c1,Bool.false_and,Bool.false_eq_true,if_false,List.append_nil];exact kp
  ·have c2:y.has1=false:=by simpa using c2
   simp only[c2,Bool.and_false,Bool.false_and,Bool.false_eq_true,if_false,List.append_nil];exact kp
  ·have c1:x.has1=true:=by simpa using c1
   have c2:y.has1=true:=by simpa using c2
   simp only[c1,c2,Bool.true_and,yAq]
   refine⟨⟨x.p1,y.p1⟩,?_⟩
   (repeat'(first|exact rfl|exact trivial|assumption|apply And.intro|refine fun(_:Unit) (_:True)=>?_|refine Exists.intro () ?_|omega|(dsimp only;omega)))
   refine Cv.cnd.mk (fun c3=> ?_) (fun c3=> ?_)
   ·have c3:i.less=true:=c3
    simp only[c3,if_true]
    refine⟨⟨y.p1,x.p1⟩,?_⟩
    (repeat'(first|exact rfl|exact trivial|assumption|apply And.intro|refine fun(_:Unit) (_:True)=>?_|refine Exists.intro () ?_|omega|(dsimp only;omega)))
    refine Cv.cnd.mk (fun c4=> ?_) (fun c4=> ?_)
    ·have c4:(vN y.p1 x.p1).2=true:=c4
     simp only[c4,if_true,List.map_append];exact kp
    ·have c4:(vN y.p1 x.p1).2=false:=c4
     simp only[c4,Bool.false_eq_true,if_false,List.append_nil];exact kp
   ·have c3:i.less=false:=c3
    simp only[c3,Bool.false_eq_true,if_false]
    refine Cv.cnd.mk (fun c4=> ?_) (fun c4=> ?_)
    ·have c4:(vH x.p1 y.p1).2=true:=c4
     simp only[c4,if_true,List.map_append];exact kp
    ·have c4:(vH x.p1 y.p1).2=false:=c4
     simp only[c4,Bool.false_eq_true,if_false,List.append_nil];exact kp
theorem yCy:mk11.ok Tryz.prog 53:=yFy (gokc zNi (gokc zMj gok0)) yMp
theorem yNs (i:MkI) (h:mk12.cnd i):z4z i:=by
 obtain⟨a0,a1,b0,b1,⟨ht,hp⟩,ho⟩:0≤i.a∧i.a<i.tops.length∧0≤i.b∧i.b<i.tops.length∧wY i.tops∧i.out.length≤1000:=h
 obtain⟨x,hx⟩:=yA (l:=i.tops) (i:=i.a.toNat) (by omega)
 obtain⟨y,hy⟩:=yA (l:=i.tops) (i:=i.b.toNat) (by omega)
 obtain⟨⟨px1,px2⟩,px3,px4⟩:=hp x (List.mem_of_getElem? hx)
 obtain⟨⟨py1,py2⟩,py3,py4⟩:=hp y (List.mem_of_getElem? hy)
 have e0:mkq i.tops ⟨i.a,1⟩ ⟨i.b,2⟩ i.less=if x.has1 && y.has2 && (if i.less then vN y.p2 x.p1 else vH x.p1 y.p2).2 then[⟨(if i.less then vN y.p2 x.p1 else vH x.p1 y.p2).1,min x.q1 y.q2,⟨i.a,1⟩,⟨i.b,2⟩⟩]else[]:=by
  simp only[mkq,List.getD_eq_getElem?_getD,hx,hy,Option.getD_some];rfl
 unfold z4z zHl bK rJ kV kU qD kT qV
 simp only[List.length_map]
 refine⟨⟨by omega,by omega⟩,x.has1,x.has2,x.p1,x.p2,x.q1,x.q2,elA hx (by simp[zT]) rfl,⟨by omega,by omega⟩,y.has1,y.has2,y.p1,y.p2,y.q1,y.q2,elA hy (by simp[zT]) rfl,?_⟩
 rw[e0]
 (repeat'(first|exact rfl|exact trivial|assumption|apply And.intro|refine fun(_:Unit) (_:True)=>?_|refine Exists.intro () ?_|omega|(dsimp only;omega)))
 all_goals
  refine Cv.cnd.mk (fun c1=> ?_) (fun c1=>Cv.cnd.mk (fun c2=> ?_) (fun c2=> ?_))
  ·have c1:x.has1=false:=by simpa using c1
   simp only[c1,Bool.false_and,Bool.false_eq_true,if_false,List.append_nil];exact kp
  ·have c2:y.has2=false:=by simpa using c2
   simp only[c2,Bool.and_false,Bool.false_and,Bool.false_eq_true,if_false,List.append_nil];exact kp
  ·have c1:x.has1=true:=by simpa using c1
   have c2:y.has2=true:=by simpa using c2
   simp only[c1,c2,Bool.true_and,yAq]
   refine⟨⟨x.p1,y.p2⟩,?_⟩
   (repeat'(first|exact rfl|exact trivial|assumption|apply And.intro|refine fun(_:Unit) (_:True)=>?_|refine Exists.intro () ?_|omega|(dsimp only;omega)))
   refine Cv.cnd.mk (fun c3=> ?_) (fun c3=> ?_)
   ·have c3:i.less=true:=c3
    simp only[c3,if_true]
    refine⟨⟨y.p2,x.p1⟩,?_⟩
    (repeat'(first|exact rfl|exact trivial|assumption|apply And.intro|refine fun(_:Unit) (_:True)=>?_|refine Exists.intro () ?_|omega|(dsimp only;omega)))
    refine Cv.cnd.mk (fun c4=> ?_) (fun c4=> ?_)
    ·have c4:(vN y.p2 x.p1).2=true:=c4
     simp only[c4,if_true,List.map_append];exact kp
    ·have c4:(vN y.p2 x.p1).2=false:=c4
     simp only[c4,Bool.false_eq_true,if_false,List.append_nil];exact kp
   ·have c3:i.less=false:=c3
    simp only[c3,Bool.false_eq_true,if_false]
    refine Cv.cnd.mk (fun c4=> ?_) (fun c4=> ?_)
    ·have c4:(vH x.p1 y.p2).2=true:=c4
     simp only[c4,if_true,List.map_append];exact kp
    ·have c4:(vH x.p1 y.p2).2=false:=c4
     simp only[c4,Bool.false_eq_true,if_false,List.append_nil];exact kp
theorem yEs:mk12.ok Tryz.prog 53:=yGq (gokc zNi (gokc zMj gok0)) yNs
theorem yMh (i:MkI) (h:mk21.cnd i):z9r i:=by
 obtain⟨a0,a1,b0,b1,⟨ht,hp⟩,ho⟩:0≤i.a∧i.a<i.tops.length∧0≤i.b∧i.b<i.tops.length∧wY i.tops∧i.out.length≤1000:=h
 obtain⟨x,hx⟩:=yA (l:=i.tops) (i:=i.a.toNat) (by omega)
 obtain⟨y,hy⟩:=yA (l:=i.tops) (i:=i.b.toNat) (by omega)
 obtain⟨⟨px1,px2⟩,px3,px4⟩:=hp x (List.mem_of_getElem? hx)
 obtain⟨⟨py1,py2⟩,py3,py4⟩:=hp y (List.mem_of_getElem? hy)
 have e0:mkq i.tops ⟨i.a,2⟩ ⟨i.b,1⟩ i.less=if x.has2 && y.has1 && (if i.less then vN y.p1 x.p2 else vH x.p2 y.p1).2 then[⟨(if i.less then vN y.p1 x.p2 else vH x.p2 y.p1).1,min x.q2 y.q1,⟨i.a,2⟩,⟨i.b,1⟩⟩]else[]:=by
  simp only[mkq,List.getD_eq_getElem?_getD,hx,hy,Option.getD_some];rfl
 unfold z9r zNv bX rB kV kU qD kT qV
 simp only[List.length_map]
 refine⟨⟨by omega,by omega⟩,x.has1,x.has2,x.p1,x.p2,x.q1,x.q2,elA hx (by simp[zT]) rfl,⟨by omega,by omega⟩,y.has1,y.has2,y.p1,y.p2,y.q1,y.q2,elA hy (by simp[zT]) rfl,?_⟩
 rw[e0]
 (repeat'(first|exact rfl|exact trivial|assumption|apply And.intro|refine fun(_:Unit) (_:True)=>?_|refine Exists.intro () ?_|omega|(dsimp only;omega)))
 all_goals
  refine Cv.cnd.mk (fun c1=> ?_) (fun c1=>Cv.cnd.mk (fun c2=> ?_) (fun c2=> ?_))
  ·have c1:x.has2=false:=by simpa using c1
   simp only[c1,Bool.false_and,Bool.false_eq_true,if_false,List.append_nil];exact kp
  ·have c2:y.has1=false:=by simpa using c2
   simp only[c2,Bool.and_false,Bool.false_and,Bool.false_eq_true,if_false,List.append_nil];exact kp
  ·have c1:x.has2=true:=by simpa using c1
   have c2:y.has1=true:=by simpa using c2
   simp only[c1,c2,Bool.true_and,yAq]
   refine⟨⟨x.p2,y.p1⟩,?_⟩
   (repeat'(first|exact rfl|exact trivial|assumption|apply And.intro|refine fun(_:Unit) (_:True)=>?_|refine Exists.intro () ?_|omega|(dsimp only;omega)))
   refine Cv.cnd.mk (fun c3=> ?_) (fun c3=> ?_)
   ·have c3:i.less=true:=c3
    simp only[c3,if_true]
    refine⟨⟨y.p1,x.p2⟩,?_⟩
    (repeat'(first|exact rfl|exact trivial|assumption|apply And.intro|refine fun(_:Unit) (_:True)=>?_|refine Exists.intro () ?_|omega|(dsimp only;omega)))
    refine Cv.cnd.mk (fun c4=> ?_) (fun c4=> ?_)
    ·have c4:(vN y.p1 x.p2).2=true:=c4
     simp only[c4,if_true,List.map_append];exact kp
    ·have c4:(vN y.p1 x.p2).2=false:=c4
     simp only[c4,Bool.false_eq_true,if_false,List.append_nil];exact kp
   ·have c3:i.less=false:=c3
    simp only[c3,Bool.false_eq_true,if_false]
    refine Cv.cnd.mk (fun c4=> ?_) (fun c4=> ?_)
    ·have c4:(vH x.p2 y.p1).2=true:=c4
     simp only[c4,if_true,List.map_append];exact kp
    ·have c4:(vH x.p2 y.p1).2=false:=c4
     simp only[c4,Bool.false_eq_true,if_false,List.append_nil];exact kp
theorem yCc:mk21.ok Tryz.prog 53:=yFt (gokc zNi (gokc zMj gok0)) yMh
theorem yMo (i:MkI) (h:mk22.cnd i):z4a i:=by
 obtain⟨a0,a1,b0,b1,⟨ht,hp⟩,ho⟩:0≤i.a∧i.a<i.tops.length∧0≤i.b∧i.b<i.tops.length∧wY i.tops∧i.out.length≤1000:=h
 obtain⟨x,hx⟩:=yA (l:=i.tops) (i:=i.a.toNat) (by omega)
 obtain⟨y,hy⟩:=yA (l:=i.tops) (i:=i.b.toNat) (by omega)
 obtain⟨⟨px1,px2⟩,px3,px4⟩:=hp x (List.mem_of_getElem? hx)
 obtain⟨⟨py1,py2⟩,py3,py4⟩:=hp y (List.mem_of_getElem? hy)
 have e0:mkq i.tops ⟨i.a,2⟩ ⟨i.b,2⟩ i.less=if x.has2 && y.has2 && (if i.less then vN y.p2 x.p2 else vH x.p2 y.p2).2 then[⟨(if i.less then vN y.p2 x.p2 else vH x.p2 y.p2).1,min x.q2 y.q2,⟨i.a,2⟩,⟨i.b,2⟩⟩]else[]:=by
  simp only[mkq,List.getD_eq_getElem?_getD,hx,hy,Option.getD_some];rfl
 unfold z4a zNe bN pX kV kU qD kT qV
 simp only[List.length_map]
 refine⟨⟨by omega,by omega⟩,x.has1,x.has2,x.p1,x.p2,x.q1,x.q2,elA hx (by simp[zT]) rfl,⟨by omega,by omega⟩,y.has1,y.has2,y.p1,y.p2,y.q1,y.q2,elA hy (by simp[zT]) rfl,?_⟩
 rw[e0]
 (repeat'(first|exact rfl|exact trivial|assumption|apply And.intro|refine fun(_:Unit) (_:True)=>?_|refine Exists.intro () ?_|omega|(dsimp only;omega)))
 all_goals
  refine Cv.cnd.mk (fun c1=> ?_) (fun c1=>Cv.cnd.mk (fun c2=> ?_) (fun c2=> ?_))
  ·have c1:x.has2=false:=by simpa using c1
   simp only[c1,Bool.false_and,Bool.false_eq_true,if_false,List.append_nil];exact kp
  ·have c2:y.has2=false:=by simpa using c2
   simp only[c2,Bool.and_false,Bool.false_and,Bool.false_eq_true,if_false,List.append_nil];exact kp
  ·have c1:x.has2=true:=by simpa using c1
   have c2:y.has2=true:=by simpa using c2
   simp only[c1,c2,Bool.true_and,yAq]
   refine⟨⟨x.p2,y.p2⟩,?_⟩
   (repeat'(first|exact rfl|exact trivial|assumption|apply And.intro|refine fun(_:Unit) (_:True)=>?_|refine Exists.intro () ?_|omega|(dsimp only;omega)))
   refine Cv.cnd.mk (fun c3=> ?_) (fun c3=> ?_)
   ·have c3:i.less=true:=c3
    simp only[c3,if_true]
    refine⟨⟨y.p2,x.p2⟩,?_⟩
    (repeat'(first|exact rfl|exact trivial|assumption|apply And.intro|refine fun(_:Unit) (_:True)=>?_|refine Exists.intro () ?_|omega|(dsimp only;omega)))
    refine Cv.cnd.mk (fun c4=> ?_) (fun c4=> ?_)
    ·have c4:(vN y.p2 x.p2).2=true:=c4
     simp only[c4,if_true,List.map_append];exact kp
    ·have c4:(vN y.p2 x.p2).2=false:=c4
     simp only[c4,Bool.false_eq_true,if_false,List.append_nil];exact kp
   ·have c3:i.less=false:=c3
    simp only[c3,Bool.false_eq_true,if_false]
    refine Cv.cnd.mk (fun c4=> ?_) (fun c4=> ?_)
    ·have c4:(vH x.p2 y.p2).2=true:=c4
     simp only[c4,if_true,List.map_append];exact kp
    ·have c4:(vH x.p2 y.p2).2=false:=c4
     simp only[c4,Bool.false_eq_true,if_false,List.append_nil];exact kp
theorem yCa:mk22.ok Tryz.prog 53:=yJl (gokc zNi (gokc zMj gok0)) yMo
open Go Cv Go.Proofs
structure MkJ where
 i:MkI
 sa:Bool
 sb:Bool
def mkAnyC:Con:=con1 MkJ (fun j=>[.nm 0 0,.agg [zB j.i.a,zB (zA j.sa)],.agg [zB j.i.b,zB (zA j.sb)],yO j.i.less]) (fun j=>MkR j.i.tops j.i.out)
 (fun j=>0≤j.i.a∧j.i.a<j.i.tops.length∧0≤j.i.b∧j.i.b<j.i.tops.length∧wY j.i.tops∧j.i.out.length≤1000) (fun _=>zQh) (fun j=>MkP j.i.tops (j.i.out++mkq j.i.tops ⟨j.i.a,zA j.sa⟩ ⟨j.i.b,zA j.sb⟩ j.i.less))
theorem zSq:mkAnyC.ok Tryz.prog 53:=fun j=>match j with
 |⟨i,false,false⟩=>yCy i
 |⟨i,false,true⟩=>yEs i
 |⟨i,true,false⟩=>yCc i
 |⟨i,true,true⟩=>yCa i
structure mA where
 p:Prd
 tops:List Top
 inst:Int
def x0 (i:mA) (s:Int) (k:Nat):List Quote:=(List.range k).flatMap fun(k:Nat)=>mkq i.tops ⟨(i.p.spread i.inst (i.inst+1+k)).1,s⟩ ⟨i.inst+1+k,s⟩ false
def xM (i:mA) (s:Int) (k:Nat):List Quote:=(List.range k).flatMap fun(k:Nat)=>mkq i.tops ⟨(i.p.spread k i.inst).1,3-s⟩ ⟨k,s⟩ true
def zU (i:mA) (s:Int):List Quote:=mkq i.tops ⟨(i.p.legs i.inst).2.1,3-s⟩ ⟨(i.p.legs i.inst).1,s⟩ true
def jO (i:mA) (s:Int) (q:Quote):Quote:={q with a:=⟨(i.p.legs i.inst).1,s⟩,b:=⟨(i.p.legs i.inst).2.1,3-s⟩}
def xG (i:mA) (s:Int):List Quote:=
 if i.p.count=0∨(i.tops.length:Int)≠i.p.count∨i.inst<0∨(i.p.count:Int)≤i.inst then[]
 else if(i.p.legs i.inst).2.2 then(zU i s).map (jO i s)
 else x0 i s (i.p.months.length-(i.inst.toNat+1))++xM i s i.inst.toNat
def yFd (s:Int):Con:=con1 mA (fun i=>[prdV i.p,roV 6 (i.tops.map zT),zB i.inst,zB s]) (fun _=>[]) (fun i=>i.p.small∧wY i.tops) (fun _=> .own 0) (fun i=>[.own 62 6 ((xG i s).map zH)])
def all1C:Con:=yFd 1
def all2C:Con:=yFd 2
def yNx (i:mA) (s:Int):List SAnn:=[
 {ι:=Nat,slots:=fun k=>[(10,.nm 0 0),(77,zB k)],rows:=fun k=>(List.range 3).map (MkU (i.tops,((zU i s).take k).map (jO i s)++(zU i s).drop k))},
 {ι:=Nat,slots:=fun k=>[(10,.nm 0 0),(17,zB (i.inst+1+k))],rows:=fun k=>MkR i.tops (x0 i s k)},
 {ι:=Nat,slots:=fun k=>[(10,.nm 0 0),(120,zB k)],rows:=fun k=>MkR i.tops (x0 i s (i.p.months.length-(i.inst.toNat+1))++xM i s k)}]
structure fM where
 i:mA
 s:Bool
def allC:Con:=con1 fM (fun j=>[prdV j.i.p,roV 6 (j.i.tops.map zT),zB j.i.inst,zB (zA j.s)]) (fun _=>[]) (fun j=>j.i.p.small∧wY j.i.tops) (fun _=> .own 0) (fun j=>[.own 62 6 ((xG j.i (zA j.s)).map zH)])
def j6 (i:mA) (s:Int):List Quote:=(xG i s).filter fun q=>decide (i.p.price i.inst q.price=0)
def quotesC:Con:=con1 fM (fun j=>[prdV j.i.p,roV 6 (j.i.tops.map zT),zB j.i.inst,zB (zA j.s)]) (fun _=>[]) (fun j=>j.i.p.small∧wY j.i.tops) (fun _=> .own 0) (fun j=>[.own 62 6 ((j6 j.i (zA j.s)).map zH)])
def yBr (j:fM):List SAnn:=[{ι:=Nat,slots:=fun k=>[(9,.own 0),(18,zB k)],rows:=fun k=>[.own 62 6 ((((xG j.i (zA j.s)).take k).filter fun q=>decide (j.i.p.price j.i.inst q.price=0)).map zH)]}]
structure BsI where
 l:List Quote
 s:Int
def yW (l:List Quote) (s:Int):Quote×Bool:=match l with
 |[]=>(yKc,false)
 |q::r=>(r.foldl (fun b q=>if btr s q.price b.price then q else b) q,true)
def bestQC:Con:=con1 BsI (fun i=>[roV 6 (i.l.map zH),zB i.s]) (fun _=>[]) (fun i=>(i.s=1∨i.s=2)∧i.l.length≤1000000) (fun i=> .tup [zWp (yW i.l i.s).1,yO (yW i.l i.s).2]) (fun _=>[])
def yKn (i:BsI):List SAnn:=[{ι:=Nat,slots:=fun k=>[(6,.nm 0 0),(26,zB k)],rows:=fun k=>[.cells (zWp (yW (i.l.take (max k 1)) i.s).1).cl 62]}]
open Go Cv Go.Proofs
def yEz (i:mA):Prop:=
 ∃(i_1:Prd),sb i_1.code=sb i.p.code∧iE i_1.months=iE i.p.months∧i_1.tick=i.p.tick∧i_1.low=i.p.low∧i_1.high=i.p.high∧i_1.wide=i.p.wide∧i_1.rule=i.p.rule∧i_1.top=i.p.top∧i_1.least=i.p.least∧i_1.part=i.p.part∧iE i_1.settle=iE i.p.settle∧(i_1.code.length≤1099511627776∧i_1.months.length≤1099511627776∧i_1.settle.length≤1099511627776)∧∀(o:Unit),True→cnd ((↑i_1.count:Int)==0) (∃(o:Unit),List.map zH (xG i 1)=[]∧True) (cnd ((↑(List.map zT i.tops).length:Int) !=(↑i_1.count:Int)) (∃(o:Unit),List.map zH (xG i 1)=[]∧True) (cnd (decide (i.inst<0)) (∃(o:Unit),List.map zH (xG i 1)=[]∧True) (cnd (decide (i.inst≥(↑i_1.count:Int))) (∃(o:Unit),List.map zH (xG i 1)=[]∧True) (∃(i_2:cF),sb i_2.p.code=sb i.p.code∧iE i_2.p.months=iE i.p.months∧i_2.p.tick=i.p.tick∧i_2.p.low=i.p.low∧i_2.p.high=i.p.high∧i_2.p.wide=i.p.wide∧i_2.p.rule=i.p.rule∧i_2.p.top=i.p.top∧i_2.p.least=i.p.least∧i_2.p.part=i.p.part∧iE i_2.p.settle=iE i.p.settle∧i_2.n=i.inst∧(i_2.p.code.length≤1099511627776∧i_2.p.months.length≤1099511627776∧i_2.p.settle.length≤1099511627776)∧∀(o:Unit),True→cnd (i_2.p.legs i_2.n).snd.snd (∃(i_3:Int),i_3=1∧(i_3=1∨i_3=2)∧∀(o:Unit),True→∃(i_4:MkJ),i_4.i.a=(i_2.p.legs i_2.n).snd.fst∧zA i_4.sa=3-i_3∧i_4.i.b=(i_2.p.legs i_2.n).fst∧zA i_4.sb=1∧i_4.i.less=true∧AObj.fro 6 (List.map zT i_4.i.tops)=AObj.fro 6 (List.map zT i.tops)∧List.map zH i_4.i.out=[]∧(0≤i_4.i.a∧i_4.i.a<(↑i_4.i.tops.length:Int)∧0≤i_4.i.b∧i_4.i.b<(↑i_4.i.tops.length:Int)∧(i_4.i.tops.length≤1000000∧∀(t:Top),t∈i_4.i.tops→((-9223372036854775808)≤t.p1∧t.p1≤9223372036854775807)∧(-9223372036854775808)≤t.p2∧t.p2≤9223372036854775807)∧i_4.i.out.length≤1000)∧∀(o:Unit),True→∃(i0:Nat),(↑i0:Int)=0∧AObj.fro 6 (List.map zT i.tops)=AObj.fro 6 (List.map zT i_4.i.tops)∧List.map zH (List.map (jO i 1) (List.take i0 (zU i 1))++List.drop i0 (zU i 1))=List.map zH (i_4.i.out++mkq i_4.i.tops (Leg.mk i_4.i.a (zA i_4.sa)) (Leg.mk i_4.i.b (zA i_4.sb)) i_4.i.less)∧∃(I:Nat→Prop),∃(μ:Nat→Nat),I i0∧∀(i_5:Nat),I i_5→cnd (decide ((↑i_5:Int)<(↑(List.map zH (i_4.i.out++mkq i_4.i.tops (Leg.mk i_4.i.a (zA i_4.sa)) (Leg.mk i_4.i.b (zA i_4.sb)) i_4.i.less)).length:Int))) ((0≤(↑i_5:Int)∧(↑i_5:Int)<(↑(List.map zH (List.map (jO i 1) (List.take i_5 (zU i 1))++List.drop i_5 (zU i 1))).length:Int))∧(↑i_5:Int).toNat<(List.map zH (List.map (jO i 1) (List.take i_5 (zU i 1))++List.drop i_5 (zU i 1))).length∧∃(i':Nat),(↑i':Int)=IntKind.i64.wrap ((↑i_5:Int)+1)∧AObj.fro 6 (List.map zT i.tops)=AObj.fro 6 (List.map zT i.tops)∧List.map zH (List.map (jO i 1) (List.take i' (zU i 1))++List.drop i' (zU i 1))=yC (List.map zH (List.map (jO i 1) (List.take i_5 (zU i 1))++List.drop i_5 (zU i 1))) (↑i_5:Int).toNat ((0:Nat)+(2:Nat)) [D.v (.int .i64 (i_2.p.legs i_2.n).fst),D.v (.int .i64 1),D.v (.int .i64 (i_2.p.legs i_2.n).snd.fst),D.v (.int .i64 (3-i_3))]∧I i'∧μ i'<μ i_5∧AObj.fro 6 (List.map zT i_4.i.tops)=AObj.fro 6 (List.map zT i_4.i.tops)∧Sx.AObj.cells [V.d (D.v (.int .i64 (i_2.p.legs i_2.n).snd.fst)),V.d (D.v (.int .i64 (3-i_3)))] 59=Sx.AObj.cells [V.d (D.v (.int .i64 (i_2.p.legs i_2.n).snd.fst)),V.d (D.v (.int .i64 (3-i_3)))] 59∧Sx.AObj.cells [V.d (D.v (.int .i64 (i_2.p.legs i_2.n).fst)),V.d (D.v (.int .i64 1))] 59=Sx.AObj.cells [V.d (D.v (.int .i64 (i_2.p.legs i_2.n).fst)),V.d (D.v (.int .i64 1))] 59∧AObj.fro 6 (List.map zT i.tops)=AObj.fro 6 (List.map zT i.tops)∧Sx.AObj.cells [V.d (D.v (Value.string (sb i.p.code))),V.own 0,V.d (D.v (.int .i64 i.p.tick)),V.d (D.v (.int .i64 i.p.low)),V.d (D.v (.int .i64 i.p.high)),V.d (D.v (.int .i64 i.p.wide)),V.d (D.v (.int .i64 i.p.rule)),V.d (D.v (.int .i64 i.p.top)),V.d (D.v (.int .i64 i.p.least)),V.d (D.v (.int .i64 i.p.part)),V.own ((0:Nat)+(1:Nat))] 29=Sx.AObj.cells [V.d (D.v (Value.string (sb i.p.code))),V.own 0,V.d (D.v (.int .i64 i.p.tick)),V.d (D.v (.int .i64 i.p.low)),V.d (D.v (.int .i64 i.p.high)),V.d (D.v (.int .i64 i.p.wide)),V.d (D.v (.int .i64 i.p.rule)),V.d (D.v (.int .i64 i.p.top)),V.d (D.v (.int .i64 i.p.least)),V.d (D.v (.int .i64 i.p.part)),V.own ((0:Nat)+(1:Nat))] 29∧AObj.fro 1 (iE i.p.settle)=AObj.fro 1 (iE i.p.settle)∧AObj.fro 1 (iE i.p.months)=AObj.fro 1 (iE i.p.months)) (∃(o:Unit),List.map zH (xG i 1)=List.map zH (List.map (jO i 1) (List.take i_5 (zU i 1))++List.drop i_5 (zU i 1))∧True)) (∃(i0:Nat),i.inst+1+(↑i0:Int)=IntKind.i64.wrap (i.inst+1)∧AObj.fro 6 (List.map zT i.tops)=AObj.fro 6 (List.map zT i.tops)∧List.map zH (x0 i 1 i0)=[]∧∃(I:Nat→Prop),∃(μ:Nat→Nat),I i0∧∀(i_3:Nat),I i_3→cnd (decide (i.inst+1+(↑i_3:Int)<(↑(iE i.p.months).length:Int))) (∃(i_4:b9),sb i_4.p.code=sb i.p.code∧iE i_4.p.months=iE i.p.months∧i_4.p.tick=i.p.tick∧i_4.p.low=i.p.low∧i_4.p.high=i.p.high∧i_4.p.wide=i.p.wide∧i_4.p.rule=i.p.rule∧i_4.p.top=i.p.top∧i_4.p.least=i.p.least∧i_4.p.part=i.p.part∧iE i_4.p.settle=iE i.p.settle∧i_4.a=i.inst∧i_4.b=i.inst+1+(↑i_3:Int)∧(i_4.p.code.length≤1099511627776∧i_4.p.months.length≤1099511627776∧i_4.p.settle.length≤1099511627776)∧∀(o:Unit),True→∃(i_5:MkJ),i_5.i.a=(i_4.p.spread i_4.a i_4.b).fst∧zA i_5.sa=1∧i_5.i.b=i.inst+1+(↑i_3:Int)∧zA i_5.sb=1∧i_5.i.less=false∧AObj.fro 6 (List.map zT i_5.i.tops)=AObj.fro 6 (List.map zT i.tops)∧List.map zH i_5.i.out=List.map zH (x0 i 1 i_3)∧(0≤i_5.i.a∧i_5.i.a<(↑i_5.i.tops.length:Int)∧0≤i_5.i.b∧i_5.i.b<(↑i_5.i.tops.length:Int)∧(i_5.i.tops.length≤1000000∧∀(t:Top),t∈i_5.i.tops→((-9223372036854775808)≤t.p1∧t.p1≤9223372036854775807)∧(-9223372036854775808)≤t.p2∧t.p2≤9223372036854775807)∧i_5.i.out.length≤1000)∧∀(o:Unit),True→∃(i':Nat),i.inst+1+(↑i':Int)=IntKind.i64.wrap (i.inst+1+(↑i_3:Int)+1)∧AObj.fro 6 (List.map zT i.tops)=AObj.fro 6 (List.map zT i_5.i.tops)∧List.map zH (x0 i 1 i')=List.map zH (i_5.i.out++mkq i_5.i.tops (Leg.mk i_5.i.a (zA i_5.sa)) (Leg.mk i_5.i.b (zA i_5.sb)) i_5.i.less)∧I i'∧μ i'<μ i_3∧AObj.fro 6 (List.map zT i.tops)=AObj.fro 6 (List.map zT i.tops)∧Sx.AObj.cells [V.d (D.v (Value.string (sb i.p.code))),V.own 0,V.d (D.v (.int .i64 i.p.tick)),V.d (D.v (.int .i64 i.p.low)),V.d (D.v (.int .i64 i.p.high)),V.d (D.v (.int .i64 i.p.wide)),V.d (D.v (.int .i64 i.p.rule)),V.d (D.v (.int .i64 i.p.top)),V.d (D.v (.int .i64 i.p.least)),V.d (D.v (.int .i64 i.p.part)),V.own ((0:Nat)+(1:Nat))] 29=Sx.AObj.cells [V.d (D.v (Value.string (sb i.p.code))),V.own 0,V.d (D.v (.int .i64 i.p.tick)),V.d (D.v (.int .i64 i.p.low)),V.d (D.v (.int .i64 i.p.high)),V.d (D.v (.int .i64 i.p.wide)),V.d (D.v (.int .i64 i.p.rule)),V.d (D.v (.int .i64 i.p.top)),V.d (D.v (.int .i64 i.p.least)),V.d (D.v (.int .i64 i.p.part)),V.own ((0:Nat)+(1:Nat))] 29∧AObj.fro 1 (iE i.p.settle)=AObj.fro 1 (iE i.p.settle)∧AObj.fro 1 (iE i.p.months)=AObj.fro 1 (iE i.p.months)) (∃(i0:Nat),(↑i0:Int)=0∧AObj.fro 6 (List.map zT i.tops)=AObj.fro 6 (List.map zT i.tops)∧List.map zH (x0 i 1 (i.p.months.length-(i.inst.toNat+1))++xM i 1 i0)=List.map zH (x0 i 1 i_3)∧∃(I:Nat→Prop),∃(μ:Nat→Nat),I i0∧∀(i_4:Nat),I i_4→cnd (decide ((↑i_4:Int)<i.inst)) (∃(i_5:b9),sb i_5.p.code=sb i.p.code∧iE i_5.p.months=iE i.p.months∧i_5.p.tick=i.p.tick∧i_5.p.low=i.p.low∧i_5.p.high=i.p.high∧i_5.p.wide=i.p.wide∧i_5.p.rule=i.p.rule∧i_5.p.top=i.p.top∧i_5.p.least=i.p.least∧i_5.p.part=i.p.part∧iE i_5.p.settle=iE i.p.settle∧i_5.a=(↑i_4:Int)∧i_5.b=i.inst∧(i_5.p.code.length≤1099511627776∧i_5.p.months.length≤1099511627776∧i_5.p.settle.length≤1099511627776)∧∀(o:Unit),True→∃(i_6:Int),i_6=1∧(i_6=1∨i_6=2)∧∀(o:Unit),True→∃(i_7:MkJ),i_7.i.a=(i_5.p.spread i_5.a i_5.b).fst∧zA i_7.sa=3-i_6∧i_7.i.b=(↑i_4:Int)∧zA i_7.sb=1∧i_7.i.less=true∧AObj.fro 6 (List.map zT i_7.i.tops)=AObj.fro 6 (List.map zT i.tops)∧List.map zH i_7.i.out=List.map zH (x0 i 1 (i.p.months.length-(i.inst.toNat+1))++xM i 1 i_4)∧(0≤i_7.i.a∧i_7.i.a<(↑i_7.i.tops.length:Int)∧0≤i_7.i.b∧i_7.i.b<(↑i_7.i.tops.length:Int)∧(i_7.i.tops.length≤1000000∧∀(t:Top),t∈i_7.i.tops→((-9223372036854775808)≤t.p1∧t.p1≤9223372036854775807)∧(-9223372036854775808)≤t.p2∧t.p2≤9223372036854775807)∧i_7.i.out.length≤1000)∧∀(o:Unit),True→∃(i':Nat),(↑i':Int)=IntKind.i64.wrap ((↑i_4:Int)+1)∧AObj.fro 6 (List.map zT i.tops)=AObj.fro 6 (List.map zT i_7.i.tops)∧List.map zH (x0 i 1 (i.p.months.length-(i.inst.toNat+1))++xM i 1 i')=List.map zH (i_7.i.out++mkq i_7.i.tops (Leg.mk i_7.i.a (zA i_7.sa)) (Leg.mk i_7.i.b (zA i_7.sb)) i_7.i.less)∧I i'∧μ i'<μ i_4∧AObj.fro 6 (List.map zT i.tops)=AObj.fro 6 (List.map zT i.tops)∧AObj.fro 6 (List.map zT i.tops)=AObj.fro 6 (List.map zT i.tops)∧Sx.AObj.cells [V.d (D.v (Value.string (sb i.p.code))),V.own 0,V.d (D.v (.int .i64 i.p.tick)),V.d (D.v (.int .i64 i.p.low)),V.d (D.v (.int .i64 i.p.high)),V.d (D.v (.int .i64 i.p.wide)),V.d (D.v (.int .i64 i.p.rule)),V.d (D.v (.int .i64 i.p.top)),V.d (D.v (.int .i64 i.p.least)),V.d (D.v (.int .i64 i.p.part)),V.own ((0:Nat)+(1:Nat))] 29=Sx.AObj.cells [V.d (D.v (Value.string (sb i.p.code))),V.own 0,V.d (D.v (.int .i64 i.p.tick)),V.d (D.v (.int .i64 i.p.low)),V.d (D.v (.int .i64 i.p.high)),V.d (D.v (.int .i64 i.p.wide)),V.d (D.v (.int .i64 i.p.rule)),V.d (D.v (.int .i64 i.p.top)),V.d (D.v (.int .i64 i.p.least)),V.d (D.v (.int .i64 i.p.part)),V.own ((0:Nat)+(1:Nat))] 29∧AObj.fro 1 (iE i.p.settle)=AObj.fro 1 (iE i.p.settle)∧AObj.fro 1 (iE i.p.months)=AObj.fro 1 (iE i.p.months)) (∃(o:Unit),List.map zH (xG i 1)=List.map zH (x0 i 1 (i.p.months.length-(i.inst.toNat+1))++xM i 1 i_4)∧True)))))))
theorem yLp (hG:GOk Tryz.prog ([(24,pcountC),(51,legsC),(54,spreadC),(52,iotherC),(53,mkAnyC)])) (h:∀(i:mA),all1C.cnd i→yEz i):all1C.ok Tryz.prog 25:=okw mixed hG 0 (fun _=>[]) (fun i=>yNx i 1) [] Tryz.func25 h
def yFa (i:mA):Prop:=
 ∃(i_1:Prd),sb i_1.code=sb i.p.code∧iE i_1.months=iE i.p.months∧i_1.tick=i.p.tick∧i_1.low=i.p.low∧i_1.high=i.p.high∧i_1.wide=i.p.wide∧i_1.rule=i.p.rule∧i_1.top=i.p.top∧i_1.least=i.p.least∧i_1.part=i.p.part∧iE i_1.settle=iE i.p.settle∧(i_1.code.length≤1099511627776∧i_1.months.length≤1099511627776∧i_1.settle.length≤1099511627776)∧∀(o:Unit),True→cnd ((↑i_1.count:Int)==0) (∃(o:Unit),List.map zH (xG i 2)=[]∧True) (cnd ((↑(List.map zT i.tops).length:Int) !=(↑i_1.count:Int)) (∃(o:Unit),List.map zH (xG i 2)=[]∧True) (cnd (decide (i.inst<0)) (∃(o:Unit),List.map zH (xG i 2)=[]∧True) (cnd (decide (i.inst≥(↑i_1.count:Int))) (∃(o:Unit),List.map zH (xG i 2)=[]∧True) (∃(i_2:cF),sb i_2.p.code=sb i.p.code∧iE i_2.p.months=iE i.p.months∧i_2.p.tick=i.p.tick∧i_2.p.low=i.p.low∧i_2.p.high=i.p.high∧i_2.p.wide=i.p.wide∧i_2.p.rule=i.p.rule∧i_2.p.top=i.p.top∧i_2.p.least=i.p.least∧i_2.p.part=i.p.part∧iE i_2.p.settle=iE i.p.settle∧i_2.n=i.inst∧(i_2.p.code.length≤1099511627776∧i_2.p.months.length≤1099511627776∧i_2.p.settle.length≤1099511627776)∧∀(o:Unit),True→cnd (i_2.p.legs i_2.n).snd.snd (∃(i_3:Int),i_3=2∧(i_3=1∨i_3=2)∧∀(o:Unit),True→∃(i_4:MkJ),i_4.i.a=(i_2.p.legs i_2.n).snd.fst∧zA i_4.sa=3-i_3∧i_4.i.b=(i_2.p.legs i_2.n).fst∧zA i_4.sb=2∧i_4.i.less=true∧AObj.fro 6 (List.map zT i_4.i.tops)=AObj.fro 6 (List.map zT i.tops)∧List.map zH i_4.i.out=[]∧(0≤i_4.i.a∧i_4.i.a<(↑i_4.i.tops.length:Int)∧0≤i_4.i.b∧i_4.i.b<(↑i_4.i.tops.length:Int)∧(i_4.i.tops.length≤1000000∧∀(t:Top),t∈i_4.i.tops→((-9223372036854775808)≤t.p1∧t.p1≤9223372036854775807)∧(-9223372036854775808)≤t.p2∧t.p2≤9223372036854775807)∧i_4.i.out.length≤1000)∧∀(o:Unit),True→∃(i0:Nat),(↑i0:Int)=0∧AObj.fro 6 (List.map zT i.tops)=AObj.fro 6 (List.map zT i_4.i.tops)∧List.map zH (List.map (jO i 2) (List.take i0 (zU i 2))++List.drop i0 (zU i 2))=List.map zH (i_4.i.out++mkq i_4.i.tops (Leg.mk i_4.i.a (zA i_4.sa)) (Leg.mk i_4.i.b (zA i_4.sb)) i_4.i.less)∧∃(I:Nat→Prop),∃(μ:Nat→Nat),I i0∧∀(i_5:Nat),I i_5→cnd (decide ((↑i_5:Int)<(↑(List.map zH (i_4.i.out++mkq i_4.i.tops (Leg.mk i_4.i.a (zA i_4.sa)) (Leg.mk i_4.i.b (zA i_4.sb)) i_4.i.less)).length:Int))) ((0≤(↑i_5:Int)∧(↑i_5:Int)<(↑(List.map zH (List.map (jO i 2) (List.take i_5 (zU i 2))++List.drop i_5 (zU i 2))).length:Int))∧(↑i_5:Int).toNat<(List.map zH (List.map (jO i 2) (List.take i_5 (zU i 2))++List.drop i_5 (zU i 2))).length∧∃(i':Nat),(↑i':Int)=IntKind.i64.wrap ((↑i_5:Int)+1)∧AObj.fro 6 (List.map zT i.tops)=AObj.fro 6 (List.map zT i.tops)∧List.map zH (List.map (jO i 2) (List.take i' (zU i 2))++List.drop i' (zU i 2))=yC (List.map zH (List.map (jO i 2) (List.take i_5 (zU i 2))++List.drop i_5 (zU i 2))) (↑i_5:Int).toNat ((0:Nat)+(2:Nat)) [D.v (.int .i64 (i_2.p.legs i_2.n).fst),D.v (.int .i64 2),D.v (.int .i64 (i_2.p.legs i_2.n).snd.fst),D.v (.int .i64 (3-i_3))]∧I i'∧μ i'<μ i_5∧AObj.fro 6 (List.map zT i_4.i.tops)=AObj.fro 6 (List.map zT i_4.i.tops)∧Sx.AObj.cells [V.d (D.v (.int .i64 (i_2.p.legs i_2.n).snd.fst)),V.d (D.v (.int .i64 (3-i_3)))] 59=Sx.AObj.cells [V.d (D.v (.int .i64 (i_2.p.legs i_2.n).snd.fst)),V.d (D.v (.int .i64 (3-i_3)))] 59∧Sx.AObj.cells [V.d (D.v (.int .i64 (i_2.p.legs i_2.n).fst)),V.d (D.v (.int .i64 2))] 59=Sx.AObj.cells [V.d (D.v (.int .i64 (i_2.p.legs i_2.n).fst)),V.d (D.v (.int .i64 2))] 59∧AObj.fro 6 (List.map zT i.tops)=AObj.fro 6 (List.map zT i.tops)∧Sx.AObj.cells [V.d (D.v (Value.string (sb i.p.code))),V.own 0,V.d (D.v (.int .i64 i.p.tick)),V.d (D.v (.int .i64 i.p.low)),V.d (D.v (.int .i64 i.p.high)),V.d (D.v (.int .i64 i.p.wide)),V.d (D.v (.int .i64 i.p.rule)),V.d (D.v (.int .i64 i.p.top)),V.d (D.v (.int .i64 i.p.least)),V.d (D.v (.int .i64 i.p.part)),V.own ((0:Nat)+(1:Nat))] 29=Sx.AObj.cells [V.d (D.v (Value.string (sb i.p.code))),V.own 0,V.d (D.v (.int .i64 i.p.tick)),V.d (D.v (.int .i64 i.p.low)),V.d (D.v (.int .i64 i.p.high)),V.d (D.v (.int .i64 i.p.wide)),V.d (D.v (.int .i64 i.p.rule)),V.d (D.v (.int .i64 i.p.top)),V.d (D.v (.int .i64 i.p.least)),V.d (D.v (.int .i64 i.p.part)),V.own ((0:Nat)+(1:Nat))] 29∧AObj.fro 1 (iE i.p.settle)=AObj.fro 1 (iE i.p.settle)∧AObj.fro 1 (iE i.p.months)=AObj.fro 1 (iE i.p.months)) (∃(o:Unit),List.map zH (xG i 2)=List.map zH (List.map (jO i 2) (List.take i_5 (zU i 2))++List.drop i_5 (zU i 2))∧True)) (∃(i0:Nat),i.inst+1+(↑i0:Int)=IntKind.i64.wrap (i.inst+1)∧AObj.fro 6 (List.map zT i.tops)=AObj.fro 6 (List.map zT i.tops)∧List.map zH (x0 i 2 i0)=[]∧∃(I:Nat→Prop),∃(μ:Nat→Nat),I i0∧∀(i_3:Nat),I i_3→cnd (decide (i.inst+1+(↑i_3:Int)<(↑(iE i.p.months).length:Int))) (∃(i_4:b9),sb i_4.p.code=sb i.p.code∧iE i_4.p.months=iE i.p.months∧i_4.p.tick=i.p.tick∧i_4.p.low=i.p.low∧i_4.p.high=i.p.high∧i_4.p.wide=i.p.wide∧i_4.p.rule=i.p.rule∧i_4.p.top=i.p.top∧i_4.p.least=i.p.least∧i_4.p.part=i.p.part∧iE i_4.p.settle=iE i.p.settle∧i_4.a=i.inst∧i_4.b=i.inst+1+(↑i_3:Int)∧(i_4.p.code.length≤1099511627776∧i_4.p.months.length≤1099511627776∧i_4.p.settle.length≤1099511627776)∧∀(o:Unit),True→∃(i_5:MkJ),i_5.i.a=(i_4.p.spread i_4.a i_4.b).fst∧zA i_5.sa=2∧i_5.i.b=i.inst+1+(↑i_3:Int)∧zA i_5.sb=2∧i_5.i.less=false∧AObj.fro 6 (List.map zT i_5.i.tops)=AObj.fro 6 (List.map zT i.tops)∧List.map zH i_5.i.out=List.map zH (x0 i 2 i_3)∧(0≤i_5.i.a∧i_5.i.a<(↑i_5.i.tops.length:Int)∧0≤i_5.i.b∧i_5.i.b<(↑i_5.i.tops.length:Int)∧(i_5.i.tops.length≤1000000∧∀(t:Top),t∈i_5.i.tops→((-9223372036854775808)≤t.p1∧t.p1≤9223372036854775807)∧(-9223372036854775808)≤t.p2∧t.p2≤9223372036854775807)∧i_5.i.out.length≤1000)∧∀(o:Unit),True→∃(i':Nat),i.inst+1+(↑i':Int)=IntKind.i64.wrap (i.inst+1+(↑i_3:Int)+1)∧AObj.fro 6 (List.map zT i.tops)=AObj.fro 6 (List.map zT i_5.i.tops)∧List.map zH (x0 i 2 i')=List.map zH (i_5.i.out++mkq i_5.i.tops (Leg.mk i_5.i.a (zA i_5.sa)) (Leg.mk i_5.i.b (zA i_5.sb)) i_5.i.less)∧I i'∧μ i'<μ i_3∧AObj.fro 6 (List.map zT i.tops)=AObj.fro 6 (List.map zT i.tops)∧Sx.AObj.cells [V.d (D.v (Value.string (sb i.p.code))),V.own 0,V.d (D.v (.int .i64 i.p.tick)),V.d (D.v (.int .i64 i.p.low)),V.d (D.v (.int .i64 i.p.high)),V.d (D.v (.int .i64 i.p.wide)),V.d (D.v (.int .i64 i.p.rule)),V.d (D.v (.int .i64 i.p.top)),V.d (D.v (.int .i64 i.p.least)),V.d (D.v (.int .i64 i.p.part)),V.own ((0:Nat)+(1:Nat))] 29=Sx.AObj.cells [V.d (D.v (Value.string (sb i.p.code))),V.own 0,V.d (D.v (.int .i64 i.p.tick)),V.d (D.v (.int .i64 i.p.low)),V.d (D.v (.int .i64 i.p.high)),V.d (D.v (.int .i64 i.p.wide)),V.d (D.v (.int .i64 i.p.rule)),V.d (D.v (.int .i64 i.p.top)),V.d (D.v (.int .i64 i.p.least)),V.d (D.v (.int .i64 i.p.part)),V.own ((0:Nat)+(1:Nat))] 29∧AObj.fro 1 (iE i.p.settle)=AObj.fro 1 (iE i.p.settle)∧AObj.fro 1 (iE i.p.months)=AObj.fro 1 (iE i.p.months)) (∃(i0:Nat),(↑i0:Int)=0∧AObj.fro 6 (List.map zT i.tops)=AObj.fro 6 (List.map zT i.tops)∧List.map zH (x0 i 2 (i.p.months.length-(i.inst.toNat+1))++xM i 2 i0)=List.map zH (x0 i 2 i_3)∧∃(I:Nat→Prop),∃(μ:Nat→Nat),I i0∧∀(i_4:Nat),I i_4→cnd (decide ((↑i_4:Int)<i.inst)) (∃(i_5:b9),sb i_5.p.code=sb i.p.code∧iE i_5.p.months=iE i.p.months∧i_5.p.tick=i.p.tick∧i_5.p.low=i.p.low∧i_5.p.high=i.p.high∧i_5.p.wide=i.p.wide∧i_5.p.rule=i.p.rule∧i_5.p.top=i.p.top∧i_5.p.least=i.p.least∧i_5.p.part=i.p.part∧iE i_5.p.settle=iE i.p.settle∧i_5.a=(↑i_4:Int)∧i_5.b=i.inst∧(i_5.p.code.length≤1099511627776∧i_5.p.months.length≤1099511627776∧i_5.p.settle.length≤1099511627776)∧∀(o:Unit),True→∃(i_6:Int),i_6=2∧(i_6=1∨i_6=2)∧∀(o:Unit),True→∃(i_7:MkJ),i_7.i.a=(i_5.p.spread i_5.a i_5.b).fst∧zA i_7.sa=3-i_6∧i_7.i.b=(↑i_4:Int)∧zA i_7.sb=2∧i_7.i.less=true∧AObj.fro 6 (List.map zT i_7.i.tops)=AObj.fro 6 (List.map zT i.tops)∧List.map zH i_7.i.out=List.map zH (x0 i 2 (i.p.months.length-(i.inst.toNat+1))++xM i 2 i_4)∧(0≤i_7.i.a∧i_7.i.a<(↑i_7.i.tops.length:Int)∧0≤i_7.i.b∧i_7.i.b<(↑i_7.i.tops.length:Int)∧(i_7.i.tops.length≤1000000∧∀(t:Top),t∈i_7.i.tops→((-9223372036854775808)≤t.p1∧t.p1≤9223372036854775807)∧(-9223372036854775808)≤t.p2∧t.p2≤9223372036854775807)∧i_7.i.out.length≤1000)∧∀(o:Unit),True→∃(i':Nat),(↑i':Int)=IntKind.i64.wrap ((↑i_4:Int)+1)∧AObj.fro 6 (List.map zT i.tops)=AObj.fro 6 (List.map zT i_7.i.tops)∧List.map zH (x0 i 2 (i.p.months.length-(i.inst.toNat+1))++xM i 2 i')=List.map zH (i_7.i.out++mkq i_7.i.tops (Leg.mk i_7.i.a (zA i_7.sa)) (Leg.mk i_7.i.b (zA i_7.sb)) i_7.i.less)∧I i'∧μ i'<μ i_4∧AObj.fro 6 (List.map zT i.tops)=AObj.fro 6 (List.map zT i.tops)∧AObj.fro 6 (List.map zT i.tops)=AObj.fro 6 (List.map zT i.tops)∧Sx.AObj.cells [V.d (D.v (Value.string (sb i.p.code))),V.own 0,V.d (D.v (.int .i64 i.p.tick)),V.d (D.v (.int .i64 i.p.low)),V.d (D.v (.int .i64 i.p.high)),V.d (D.v (.int .i64 i.p.wide)),V.d (D.v (.int .i64 i.p.rule)),V.d (D.v (.int .i64 i.p.top)),V.d (D.v (.int .i64 i.p.least)),V.d (D.v (.int .i64 i.p.part)),V.own ((0:Nat)+(1:Nat))] 29=Sx.AObj.cells [V.d (D.v (Value.string (sb i.p.code))),V.own 0,V.d (D.v (.int .i64 i.p.tick)),V.d (D.v (.int .i64 i.p.low)),V.d (D.v (.int .i64 i.p.high)),V.d (D.v (.int .i64 i.p.wide)),V.d (D.v (.int .i64 i.p.rule)),V.d (D.v (.int .i64 i.p.top)),V.d (D.v (.int .i64 i.p.least)),V.d (D.v (.int .i64 i.p.part)),V.own ((0:Nat)+(1:Nat))] 29∧AObj.fro 1 (iE i.p.settle)=AObj.fro 1 (iE i.p.settle)∧AObj.fro 1 (iE i.p.months)=AObj.fro 1 (iE i.p.months)) (∃(o:Unit),List.map zH (xG i 2)=List.map zH (x0 i 2 (i.p.months.length-(i.inst.toNat+1))++xM i 2 i_4)∧True)))))))
theorem yLc (hG:GOk Tryz.prog ([(24,pcountC),(51,legsC),(54,spreadC),(52,iotherC),(53,mkAnyC)])) (h:∀(i:mA),all2C.cnd i→yFa i):all2C.ok Tryz.prog 25:=okw mixed hG 0 (fun _=>[]) (fun i=>yNx i 2) [] Tryz.func25 h
def zYb (j:fM):Prop:=
 ∃(i:fM),sb i.i.p.code=sb j.i.p.code∧iE i.i.p.months=iE j.i.p.months∧i.i.p.tick=j.i.p.tick∧i.i.p.low=j.i.p.low∧i.i.p.high=j.i.p.high∧i.i.p.wide=j.i.p.wide∧i.i.p.rule=j.i.p.rule∧i.i.p.top=j.i.p.top∧i.i.p.least=j.i.p.least∧i.i.p.part=j.i.p.part∧iE i.i.p.settle=iE j.i.p.settle∧List.map zT i.i.tops=List.map zT j.i.tops∧i.i.inst=j.i.inst∧zA i.s=zA j.s∧((i.i.p.code.length≤1099511627776∧i.i.p.months.length≤1099511627776∧i.i.p.settle.length≤1099511627776)∧i.i.tops.length≤1000000∧∀(t:Top),t∈i.i.tops→((-9223372036854775808)≤t.p1∧t.p1≤9223372036854775807)∧(-9223372036854775808)≤t.p2∧t.p2≤9223372036854775807)∧∀(o:Unit),True→∃(i0:Nat),(↑i0:Int)=0∧List.map zH (List.filter (fun(q:Sx.Quote) ↦ decide (j.i.p.price j.i.inst q.price=0)) (List.take i0 (xG j.i (zA j.s))))=[]∧∃(I:Nat→Prop),∃(μ:Nat→Nat),I i0∧∀(i_1:Nat),I i_1→cnd (decide ((↑i_1:Int)<(↑(List.map zH (xG i.i (zA i.s))).length:Int))) ((0≤(↑i_1:Int)∧(↑i_1:Int)<(↑(List.map zH (xG i.i (zA i.s))).length:Int))∧∃(n:Int),∃(n_1:Int),∃(n_2:Int),∃(n_3:Int),∃(n_4:Int),∃(n_5:Int),zF (List.map zH (xG i.i (zA i.s))) (↑i_1:Int).toNat 0 6=some [D.v (.int .i64 n),D.v (.int .i64 n_1),D.v (.int .i64 n_2),D.v (.int .i64 n_3),D.v (.int .i64 n_4),D.v (.int .i64 n_5)]∧∃(i_2:b9),sb i_2.p.code=sb j.i.p.code∧iE i_2.p.months=iE j.i.p.months∧i_2.p.tick=j.i.p.tick∧i_2.p.low=j.i.p.low∧i_2.p.high=j.i.p.high∧i_2.p.wide=j.i.p.wide∧i_2.p.rule=j.i.p.rule∧i_2.p.top=j.i.p.top∧i_2.p.least=j.i.p.least∧i_2.p.part=j.i.p.part∧iE i_2.p.settle=iE j.i.p.settle∧i_2.a=j.i.inst∧i_2.b=n∧(i_2.p.code.length≤1099511627776∧i_2.p.months.length≤1099511627776∧i_2.p.settle.length≤1099511627776)∧∀(o:Unit),True→cnd (i_2.p.price i_2.a i_2.b==0) (((List.map zH (List.filter (fun(q:Sx.Quote) ↦ decide (j.i.p.price j.i.inst q.price=0)) (List.take i_1 (xG j.i (zA j.s))))).length+1)*(48:Nat)≤(70368744177664:Nat)∧∃(i':Nat),(↑i':Int)=IntKind.i64.wrap ((↑i_1:Int)+1)∧List.map zH (List.filter (fun(q:Sx.Quote) ↦ decide (j.i.p.price j.i.inst q.price=0)) (List.take i' (xG j.i (zA j.s))))=List.map zH (List.filter (fun(q:Sx.Quote) ↦ decide (j.i.p.price j.i.inst q.price=0)) (List.take i_1 (xG j.i (zA j.s))))++[[D.v (.int .i64 n),D.v (.int .i64 n_1),D.v (.int .i64 n_2),D.v (.int .i64 n_3),D.v (.int .i64 n_4),D.v (.int .i64 n_5)]]∧I i'∧μ i'<μ i_1∧AObj.own 62 6 (List.map zH (xG i.i (zA i.s)))=AObj.own 62 6 (List.map zH (xG i.i (zA i.s)))∧Sx.AObj.cells [V.d (D.v (Value.string (sb j.i.p.code))),V.own 0,V.d (D.v (.int .i64 j.i.p.tick)),V.d (D.v (.int .i64 j.i.p.low)),V.d (D.v (.int .i64 j.i.p.high)),V.d (D.v (.int .i64 j.i.p.wide)),V.d (D.v (.int .i64 j.i.p.rule)),V.d (D.v (.int .i64 j.i.p.top)),V.d (D.v (.int .i64 j.i.p.least)),V.d (D.v (.int .i64 j.i.p.part)),V.own ((0:Nat)+(1:Nat))] 29=Sx.AObj.cells [V.d (D.v (Value.string (sb j.i.p.code))),V.own 0,V.d (D.v (.int .i64 j.i.p.tick)),V.d (D.v (.int .i64 j.i.p.low)),V.d (D.v (.int .i64 j.i.p.high)),V.d (D.v (.int .i64 j.i.p.wide)),V.d (D.v (.int .i64 j.i.p.rule)),V.d (D.v (.int .i64 j.i.p.top)),V.d (D.v (.int .i64 j.i.p.least)),V.d (D.v (.int .i64 j.i.p.part)),V.own ((0:Nat)+(1:Nat))] 29∧AObj.fro 1 (iE j.i.p.settle)=AObj.fro 1 (iE j.i.p.settle)∧AObj.fro 1 (iE j.i.p.months)=AObj.fro 1 (iE j.i.p.months)) (∃(i':Nat),(↑i':Int)=IntKind.i64.wrap ((↑i_1:Int)+1)∧List.map zH (List.filter (fun(q:Sx.Quote) ↦ decide (j.i.p.price j.i.inst q.price=0)) (List.take i' (xG j.i (zA j.s))))=List.map zH (List.filter (fun(q:Sx.Quote) ↦ decide (j.i.p.price j.i.inst q.price=0)) (List.take i_1 (xG j.i (zA j.s))))∧I i'∧μ i'<μ i_1∧AObj.own 62 6 (List.map zH (xG i.i (zA i.s)))=AObj.own 62 6 (List.map zH (xG i.i (zA i.s)))∧Sx.AObj.cells [V.d (D.v (Value.string (sb j.i.p.code))),V.own 0,V.d (D.v (.int .i64 j.i.p.tick)),V.d (D.v (.int .i64 j.i.p.low)),V.d (D.v (.int .i64 j.i.p.high)),V.d (D.v (.int .i64 j.i.p.wide)),V.d (D.v (.int .i64 j.i.p.rule)),V.d (D.v (.int .i64 j.i.p.top)),V.d (D.v (.int .i64 j.i.p.least)),V.d (D.v (.int .i64 j.i.p.part)),V.own ((0:Nat)+(1:Nat))] 29=Sx.AObj.cells [V.d (D.v (Value.string (sb j.i.p.code))),V.own 0,V.d (D.v (.int .i64 j.i.p.tick)),V.d (D.v (.int .i64 j.i.p.low)),V.d (D.v (.int .i64 j.i.p.high)),V.d (D.v (.int .i64 j.i.p.wide)),V.d (D.v (.int .i64 j.i.p.rule)),V.d (D.v (.int .i64 j.i.p.top)),V.d (D.v (.int .i64 j.i.p.least)),V.d (D.v (.int .i64 j.i.p.part)),V.own ((0:Nat)+(1:Nat))] 29∧AObj.fro 1 (iE j.i.p.settle)=AObj.fro 1 (iE j.i.p.settle)∧AObj.fro 1 (iE j.i.p.months)=AObj.fro 1 (iE j.i.p.months))) (∃(o:Unit),List.map zH (j6 j.i (zA j.s))=List.map zH (List.filter (fun(q:Sx.Quote) ↦ decide (j.i.p.price j.i.inst q.price=0)) (List.take i_1 (xG j.i (zA j.s))))∧True)
theorem z8z (hG:GOk Tryz.prog ([(25,allC),(72,priceC)])) (h:∀(j:fM),quotesC.cnd j→zYb j):quotesC.ok Tryz.prog 67:=okw mixed hG 0 (fun _=>[]) (fun j=>yBr j) [] Tryz.func67 h
def z5 (a:Nat) (b:BsI):=(yW (List.take (max a (1:Nat)) b.l) b.s)
def dE (a:BsI):=(↑(List.map zH a.l).length:Int)
def zAv (a:Nat→Prop) (b:Nat) (c:Nat→Nat) (d:Nat):Prop:=a b∧c b<c d∧Sx.AObj.cells (Sx.V.agg [V.d (D.v (.int .i64 0)),V.d (D.v (.int .i64 0)),V.d (D.v (.int .i64 0)),V.d (D.v (.int .i64 0)),V.d (D.v (.int .i64 0)),V.d (D.v (.int .i64 0))]).cl 62=Sx.AObj.cells (Sx.V.agg [V.d (D.v (.int .i64 0)),V.d (D.v (.int .i64 0)),V.d (D.v (.int .i64 0)),V.d (D.v (.int .i64 0)),V.d (D.v (.int .i64 0)),V.d (D.v (.int .i64 0))]).cl 62
def zGt (a:BsI):Prop:=((0:Int)≤(0:Int)∧0<(dE a))∧∃(b:Int),∃(c:Int),∃(d:Int),∃(e:Int),∃(f:Int),∃(g:Int),zF (List.map zH a.l) (Int.toNat 0) 0 6=some [D.v (.int .i64 b),D.v (.int .i64 c),D.v (.int .i64 d),D.v (.int .i64 e),D.v (.int .i64 f),D.v (.int .i64 g)]∧∃(h:Nat),(↑h:Int)=0∧(z5 h a).fst.price=b∧(z5 h a).fst.qty=c∧(z5 h a).fst.a.inst=d∧(z5 h a).fst.a.side=e∧(z5 h a).fst.b.inst=f∧(z5 h a).fst.b.side=g∧∃(j:Nat→Prop),∃(k:Nat→Nat),j h∧∀(l:Nat),j l→cnd (decide ((↑l:Int)<(dE a))) ((0≤(↑l:Int)∧(↑l:Int)<(dE a))∧∃(m:Int),∃(n:Int),∃(p:Int),∃(q:Int),∃(r:Int),∃(s:Int),zF (List.map zH a.l) (↑l:Int).toNat 0 6=some [D.v (.int .i64 m),D.v (.int .i64 n),D.v (.int .i64 p),D.v (.int .i64 q),D.v (.int .i64 r),D.v (.int .i64 s)]∧∃(t:I3'),t.side=a.s∧t.x=m∧t.y=(z5 l a).fst.price∧True∧∀(u:Unit),True→cnd (btr t.side t.x t.y) (∃(v:Nat),(↑v:Int)=IntKind.i64.wrap ((↑l:Int)+1)∧(z5 v a).fst.price=m∧(z5 v a).fst.qty=n∧(z5 v a).fst.a.inst=p∧(z5 v a).fst.a.side=q∧(z5 v a).fst.b.inst=r∧(z5 v a).fst.b.side=s∧zAv j v k l) (∃(v:Nat),(↑v:Int)=IntKind.i64.wrap ((↑l:Int)+1)∧(z5 v a).fst.price=(z5 l a).fst.price∧(z5 v a).fst.qty=(z5 l a).fst.qty∧(z5 v a).fst.a.inst=(z5 l a).fst.a.inst∧(z5 v a).fst.a.side=(z5 l a).fst.a.side∧(z5 v a).fst.b.inst=(z5 l a).fst.b.inst∧(z5 v a).fst.b.side=(z5 l a).fst.b.side∧zAv j v k l)) (∃(m:Unit),(yW a.l a.s).fst.price=(z5 l a).fst.price∧(yW a.l a.s).fst.qty=(z5 l a).fst.qty∧(yW a.l a.s).fst.a.inst=(z5 l a).fst.a.inst∧(yW a.l a.s).fst.a.side=(z5 l a).fst.a.side∧(yW a.l a.s).fst.b.inst=(z5 l a).fst.b.inst∧(yW a.l a.s).fst.b.side=(z5 l a).fst.b.side∧(yW a.l a.s).snd=true∧True)
def tC (a:BsI):Prop:=∃(b:Unit),(yW a.l a.s).fst.price=0∧(yW a.l a.s).fst.qty=0∧(yW a.l a.s).fst.a.inst=0∧(yW a.l a.s).fst.a.side=0∧(yW a.l a.s).fst.b.inst=0∧(yW a.l a.s).fst.b.side=0∧(yW a.l a.s).snd=false∧True
def zUg (i:BsI):Prop:=
 cnd ((dE i)==0) (tC i) (cnd (i.s !=1) (cnd (i.s !=2) (tC i) (zGt i)) (zGt i))
theorem yEa (hG:GOk Tryz.prog ([(94,ibetterC)])) (h:∀(i:BsI),bestQC.cnd i→zUg i):bestQC.ok Tryz.prog 66:=okw mixed hG 0 (fun _=>[]) (fun i=>yKn i) [] Tryz.func66 h
end Sx
