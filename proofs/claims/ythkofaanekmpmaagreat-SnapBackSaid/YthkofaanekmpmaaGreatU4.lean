/- Texts of ours, one behind the other: a walk that the kernel reckons, and contracts of functions. No condition. -/
import Derived.Test.YthkofaanekmpmaaGreatRows
import Derived.Test.YthkofaanekmpmaaGreatU3
namespace Sx
set_option linter.unusedVariables false
open Go Cv Go.Proofs
theorem kp {P:Prop} (h:P:=by(repeat'(first|exact rfl|exact trivial|assumption|apply And.intro|refine fun(_:Unit) (_:True)=>?_|refine Exists.intro () ?_|omega|(dsimp only;omega)))):P:=h
theorem k0q {P:Prop} (h:P:=by(repeat'(first|exact trivial|exact rfl|apply And.intro))):P:=h
theorem mixed:Tryz.prog.follows .mixedOrders=true:=by kernel_rfl
theorem okw {P:Program} {f:FuncId} {fn:Func} {C:Con} {G:List (Nat×Con)} {V:C.ι→Prop} (hm:P.follows .mixedOrders=true) (hG:GOk P G) (d:Nat) (J:C.ι→List (Nat×SAnn)) (an:C.ι→List SAnn) (op:List Nat) (hf:P.funcs[f]? =some fn) (h:∀i,C.cnd i→V i) (hb:fn.body=some (fn.body.getD .skip):=by kernel_rfl) (hbd:uB P f=true:=by kernel_rfl) (hok:okC fn.ntmps (fn.body.getD .skip)=true:=by kernel_rfl) (hsz:∀i,Nat.ble (C.pat i).length fn.ntmps=true:=by intro _;kernel_rfl) (e:∀i,V i=walk P G d (J i) (an i) op fn (fn.body.getD .skip) (C.pat i) (C.pre i) (C.alts i):=by intro _;kernel_rfl):C.ok P f:=c9 hm G hG d J an op hf hb hbd hok hsz fun i hc=>Eq.mp (e i) (h i hc)
structure Lv where
 price:Int
 qty:Int
 count:Int
def lvE (l:Lv):List D:=[.v (.int .i64 l.price),.v (.int .i64 l.qty),.v (.int .i64 l.count)]
def lvV (l:Lv):V:= .agg [zA l.price,zA l.qty,zA l.count]
open Go Cv Go.Proofs
def sb (l:List UInt8):ByteArray:=⟨l.toArray⟩
@[reducible] def sV (l:List UInt8):V:= .d (.v (.string (sb l)))
def zJa (l:List UInt8):Nat×Nat:=Utf8.decode (sb l) 0
def tP:Nat→Nat→List UInt8→List (Nat×Nat)
 |0,_,_=>[]
 |k+1,p,l=>match l with
  |[]=>[]
  |_=>(p,(zJa l).1)::tP k (p+(zJa l).2) (l.drop (zJa l).2)
def uX (s:List UInt8) (p:Nat):List (Nat×Nat):=tP (s.length-p) p (s.drop p)
def kQ (s:List UInt8):List Nat:=(uX s 0).map (·.2)
def countC:Con:=con1 (List UInt8) (fun s=>[sV s]) (fun _=>[]) (fun s=>s.length≤1099511627776) (fun s=>zA (kQ s).length) (fun _=>[])
def yNw (s:List UInt8):List SAnn:=[{ι:=Nat×Nat,slots:=fun x=>[(3,zA x.2),(5,.nm 0 0)],rows:=fun x=>[.iter (sb s) x.1]}]
def uP (r:Nat):Bool:=(decide (65≤r) && decide (r≤90))||(decide (913≤r) && decide (r≤937) && decide (r≠930))
def j7 (s:List UInt8):Bool:=(kQ s).all uP && decide (s≠[]) && decide ((kQ s).length≤4)
def symC:Con:=con1 (List UInt8) (fun s=>[sV s]) (fun _=>[]) (fun s=>s.length≤1099511627776) (fun s=>yF (j7 s)) (fun _=>[])
def yVk (s:List UInt8):List SAnn:=[{ι:=Nat,slots:=fun x=>[(7,.nm 0 0)],rows:=fun x=>[.iter (sb s) x]}]
def iE (l:List Int):List (List D):=l.map fun n=>[.v (.int .i64 n)]
@[reducible] def iV (l:List Int):V:=roV 1 (iE l)
structure Prd where
 code:List UInt8
 months:List Int
 tick:Int
 low:Int
 high:Int
 wide:Int
 rule:Int
 top:Int
 least:Int
 part:Int
 settle:List Int
 deriving DecidableEq
@[reducible] def Prd.cells (p:Prd):List V:=[sV p.code,iV p.months,zA p.tick,zA p.low,zA p.high,zA p.wide,zA p.rule,zA p.top,zA p.least,zA p.part,iV p.settle]
@[reducible] def prdV (p:Prd):V:= .agg p.cells
@[reducible] def Prd.small (p:Prd):Prop:=p.code.length≤1099511627776∧p.months.length≤1099511627776∧p.settle.length≤1099511627776
def qP (l:List Int) (k:Nat):Bool:=decide (0≤l.getD k 0) && decide (l.getD k 0≤1199) && (decide (k=0)||decide (l.getD (k-1) 0<l.getD k 0))
def xD (l:List Int):Bool:=(List.range l.length).all (qP l) && decide (2≤l.length) && decide (l.length≤6)
def monthsC:Con:=con1 (List Int) (fun l=>[iV l]) (fun _=>[]) (fun l=>l.length≤1099511627776) (fun l=>yF (xD l)) (fun _=>[])
def yIe:List SAnn:=[{ι:=Nat,slots:=fun j=>[(7,zA j)],rows:=fun _=>[]}]
def m5 (l:List Int):Int:=l.tail.foldl min (l.headD 0)
def rC (l:List Int):Int:=l.tail.foldl max (l.headD 0)
def minC:Con:=con1 (List Int) (fun l=>[iV l]) (fun _=>[]) (fun l=>0<l.length∧l.length≤1099511627776) (fun l=>zA (m5 l)) (fun _=>[])
def maxC:Con:=con1 (List Int) (fun l=>[iV l]) (fun _=>[]) (fun l=>0<l.length∧l.length≤1099511627776) (fun l=>zA (rC l)) (fun _=>[])
def yUp (l:List Int):List SAnn:=[{ι:=Nat,slots:=fun j=>[(3,zA (m5 (l.take j))),(4,zA j)],rows:=fun _=>[]}]
def yVj (l:List Int):List SAnn:=[{ι:=Nat,slots:=fun j=>[(3,zA (rC (l.take j))),(4,zA j)],rows:=fun _=>[]}]
set_option maxRecDepth 100000
open Go Cv Go.Proofs
@[reducible] def dI (n:Int):D:= .v (.int .i64 n)
def fF (a:Nat×Nat) (b:List UInt8) (c:Nat×Nat→Prop) (d:Nat×Nat→Nat):Prop:=∃(e:Nat×Nat),(↑e.snd:Int)=IntKind.i64.wrap ((↑a.snd:Int)+1)∧sb b=sb b∧e.fst=a.fst+(Utf8.decode (sb b) a.fst).snd∧c e∧d e<d a∧True
def z8f (s:List UInt8):Prop:=
 ∃(a:Nat×Nat),(↑a.snd:Int)=0∧sb s=sb s∧a.fst=0∧∃(b:Nat×Nat→Prop),∃(c:Nat×Nat→Nat),b a∧∀(d:Nat×Nat),b d→cnd (d.fst.blt (sb s).size) (fF d s b c) (∃(e:Unit),(↑(kQ s).length:Int)=(↑d.snd:Int)∧True)
def zBu (a:List UInt8) (b:Nat) (c:Nat→Prop) (d:Nat→Nat):Prop:=∃(e:Nat),sb a=sb a∧e=b+(Utf8.decode (sb a) b).snd∧c e∧d e<d b∧True
def gL (a:List UInt8) (b:Nat):=(↑(Utf8.decode (sb a) b).fst:Int)
def yQh (s:List UInt8):Prop:=
 ∃(a:Nat),sb s=sb s∧a=0∧∃(b:Nat→Prop),∃(c:Nat→Nat),b a∧∀(d:Nat),b d→cnd (d.blt (sb s).size) (cnd (decide ((gL s d)≥65)) (cnd (decide ((gL s d)≤90)) (zBu s d b c) (cnd (decide ((gL s d)≥913)) (cnd (decide ((gL s d)≤937)) (cnd (!(gL s d) !=930) (∃(e:Unit),j7 s=false∧True) (zBu s d b c)) (∃(e:Unit),j7 s=false∧True)) (∃(e:Unit),j7 s=false∧True))) (cnd (decide ((gL s d)≥913)) (cnd (decide ((gL s d)≤937)) (cnd (!(gL s d) !=930) (∃(e:Unit),j7 s=false∧True) (zBu s d b c)) (∃(e:Unit),j7 s=false∧True)) (∃(e:Unit),j7 s=false∧True))) (cnd (!(sb s).toList==(ByteArray.mk #[]).toList) (∃(e:List UInt8),sb e=sb s∧e.length≤1099511627776∧∀(f:Unit),True→∃(g:Unit),j7 s=decide ((↑(kQ e).length:Int)≤4)∧True) (∃(e:Unit),j7 s=false∧True))
def kI (a:Nat) (b:Nat) (c:Nat→Prop) (d:Nat→Nat):Prop:=(↑a:Int)=IntKind.i64.wrap ((↑b:Int)+1)∧c a∧d a<d b∧True
def jB (a:Nat) (b:Nat→Prop) (c:Nat→Nat):Prop:=∃(d:Nat),kI d a b c
def z0o (l:List Int):Prop:=
 ∃(a:Nat),(↑a:Int)=0∧∃(b:Nat→Prop),∃(c:Nat→Nat),b a∧∀(d:Nat),b d→cnd (decide ((↑d:Int)<(↑(iE l).length:Int))) ((0≤(↑d:Int)∧(↑d:Int)<(↑(iE l).length:Int))∧∃(e:Int),zE (iE l) (↑d:Int).toNat 0 1=some [dI e]∧cnd (decide (e<0)) (∃(f:Unit),xD l=false∧True) (cnd (decide (e>1199)) (∃(f:Unit),xD l=false∧True) (cnd (decide ((↑d:Int)>0)) ((0≤IntKind.i64.wrap ((↑d:Int)-1)∧IntKind.i64.wrap ((↑d:Int)-1)<(↑(iE l).length:Int))∧∃(f:Int),zE (iE l) (IntKind.i64.wrap ((↑d:Int)-1)).toNat 0 1=some [dI f]∧cnd (decide (f≥e)) (∃(g:Unit),xD l=false∧True) (jB d b c)) (jB d b c)))) (cnd (decide ((↑(iE l).length:Int)≥2)) (∃(e:Unit),xD l=decide ((↑(iE l).length:Int)≤6)∧True) (∃(e:Unit),xD l=false∧True))
def ySo (l:List Int):Prop:=
 cnd (decide ((↑(iE l).length:Int)<1)) False (((0:Int)≤(0:Int)∧0<(↑(iE l).length:Int))∧∃(a:Int),zE (iE l) (Int.toNat 0) 0 1=some [dI a]∧∃(b:Nat),m5 (List.take b l)=a∧(↑b:Int)=1∧∃(c:Nat→Prop),∃(d:Nat→Nat),c b∧∀(e:Nat),c e→cnd (decide ((↑e:Int)<(↑(iE l).length:Int))) ((0≤(↑e:Int)∧(↑e:Int)<(↑(iE l).length:Int))∧∃(f:Int),zE (iE l) (↑e:Int).toNat 0 1=some [dI f]∧∃(g:Nat),m5 (List.take g l)=min (m5 (List.take e l)) f∧kI g e c d) (∃(f:Unit),m5 l=m5 (List.take e l)∧True))
def yQs (l:List Int):Prop:=
 cnd (decide ((↑(iE l).length:Int)<1)) False (((0:Int)≤(0:Int)∧0<(↑(iE l).length:Int))∧∃(a:Int),zE (iE l) (Int.toNat 0) 0 1=some [dI a]∧∃(b:Nat),rC (List.take b l)=a∧(↑b:Int)=1∧∃(c:Nat→Prop),∃(d:Nat→Nat),c b∧∀(e:Nat),c e→cnd (decide ((↑e:Int)<(↑(iE l).length:Int))) ((0≤(↑e:Int)∧(↑e:Int)<(↑(iE l).length:Int))∧∃(f:Int),zE (iE l) (↑e:Int).toNat 0 1=some [dI f]∧∃(g:Nat),(rC (List.take g l)=if f>rC (List.take e l)then f else rC (List.take e l))∧kI g e c d) (∃(f:Unit),rC l=rC (List.take e l)∧True))
set_option linter.unusedSimpArgs false
open Go Cv Go.Proofs
@[simp] theorem z3u (s:List UInt8):(sb s).size=s.length:=by simp[sb,ByteArray.size]
theorem mN (s:List UInt8):(sb s).toList=s:=by rw[ByteArray.toList_eq];rfl
theorem yLo (s:List UInt8) (p k:Nat):(sb s).get! (p+k)=(sb (s.drop p)).get! (0+k):=by
 simp only[sb,ByteArray.get!,yXk]
 simp only[List.getElem!_toArray,List.getElem!_eq_getElem?_getD,yYt]
theorem zGj (s:List UInt8) (p:Nat):Utf8.decode (sb s) p=zJa (s.drop p):=by
 have h (k:Nat):(decide (p+k<(sb s).size))=decide (0+k<(sb (s.drop p)).size):=by
  simp only[z3u,yXg]
  by_cases h:p+k<s.length
  ·rw[yXc h,yXc (by omega)]
  ·rw[yWx h,yWx (by omega)]
 unfold zJa Utf8.decode
 simp only[yLo s p,h]
theorem cT (s:List UInt8) {p:Nat} (h:p<s.length):1≤(Utf8.decode (sb s) p).2∧p+(Utf8.decode (sb s) p).2≤s.length:=by
 unfold Utf8.decode
 simp only[z3u,yWw,yYe]
 split
 ·exact⟨by simp,by simp;omega⟩
 split
 ·rename_i h1
  split
  ·exact⟨by simp,by simp;omega⟩
  ·exact⟨by simp,by simp;omega⟩
 split
 ·rename_i h1
  split
  ·exact⟨by simp,by simp;omega⟩
  ·exact⟨by simp,by simp;omega⟩
 split
 ·rename_i h1
  split
  ·exact⟨by simp,by simp;omega⟩
  ·exact⟨by simp,by simp;omega⟩
 ·exact⟨by simp,by simp;omega⟩
theorem yMq {l:List UInt8} (h:l≠[]):1≤(zJa l).2∧(zJa l).2≤l.length:=by
 have:=cT l (p:=0) (by cases l<;>simp_all)
 rw[zJa];omega
theorem nK:∀(k:Nat) (p:Nat) (l:List UInt8),l.length≤k→tP k p l=tP l.length p l
 |0,p,l,h=>by
  have:l=[]:=yXn (by omega)
  subst this;rfl
 |k+1,p,[],h=>rfl
 |k+1,p,b::l,h=>by
  have hw:=yMq (l:=b::l) (by simp)
  have hl:((b::l).drop (zJa (b::l)).2).length≤l.length:=by rw[yXg,yWr];omega
  rw[yWr]
  simp only[tP]
  rw[nK k _ _ (by rw[yWr]at h;omega),nK l.length _ _ hl]
theorem fJ {s:List UInt8} {p:Nat} (h:s.length≤p):uX s p=[]:=by
 rw[uX,show s.length-p=0 by omega];rfl
theorem wE {s:List UInt8} {p:Nat} (h:p<s.length):uX s p=(p,(Utf8.decode (sb s) p).1)::uX s (p+(Utf8.decode (sb s) p).2):=by
 obtain⟨k,hk⟩:∃k,s.length-p=k+1:=⟨s.length-p-1,by omega⟩
 have hw:=cT s h
 obtain⟨b,l,hb⟩:∃b l,s.drop p=b::l:=by
  cases hd:s.drop p with
  |nil=>rw[List.drop_eq_nil_iff]at hd;omega
  |cons b l=>exact⟨b,l,rfl⟩
 have hlen:(b::l).length=s.length-p:=by rw[← hb,yXg]
 rw[uX,hk,hb,zGj,hb,uX]
 rw[zGj,hb]at hw
 simp only[tP]
 have e:(b::l).drop (zJa (b::l)).2=s.drop (p+(zJa (b::l)).2):=by rw[← hb,yZv]
 rw[e,nK k _ _ (by rw[yXg];omega),yXg]
theorem zLy (s:List UInt8):∀(k p:Nat),s.length-p≤k→(uX s p).length≤s.length-p
 |0,p,h=>by rw[fJ (by omega)];simp
 |k+1,p,h=>by
  by_cases hp:p<s.length
  ·have hw:=cT s hp
   rw[wE hp,yWr]
   have:=zLy s k (p+(Utf8.decode (sb s) p).2) (by omega)
   omega
  ·rw[fJ (by omega)];simp
theorem zEq (s:List UInt8):(kQ s).length≤s.length:=by
 rw[kQ,yWk]
 have:=zLy s s.length 0 (by omega)
 omega
theorem z3x {a b:Nat} (h:Nat.blt a b=false):b≤a:=by
 rcases yYy a b with h1|h1
 ·rw[show Nat.blt a b=true by rw[yZj];exact h1]at h;cases h
 ·exact h1
theorem z9x:(ByteArray.mk #[]).toList=[]:=mN []
theorem yNd (s:List UInt8) (h:countC.cnd s):z8f s:=by
 have h:s.length≤1099511627776:=h
 have hr:=zEq s
 unfold z8f fF
 refine⟨(0,0),rfl,rfl,rfl,fun x=>x.1≤s.length∧x.2+(uX s x.1).length=(kQ s).length,fun x=>s.length-x.1,⟨by omega,by rw[kQ,yWk];simp⟩,?_⟩
 rintro⟨p,n⟩ ⟨h1,h2⟩
 dsimp only at h1 h2 ⊢
 refine Cv.cnd.mk (fun hp=> ?_) (fun hp=> ?_)
 ·have hp:p<s.length:=by simpa[yZj]using hp
  have hw:=cT s hp
  rw[wE hp,yWr]at h2
  refine⟨(p+(Utf8.decode (sb s) p).2,n+1),?_,rfl,rfl,⟨hw.2,by(first|omega|(dsimp only;omega))⟩,by(first|omega|(dsimp only;omega)),trivial⟩
  rw[w64 (by omega)];rfl
 ·have hp:s.length≤p:=by have:=z3x hp;simpa using this
  rw[fJ hp]at h2
  exact⟨(),by rw[← h2];rfl,trivial⟩
theorem yEd:countC.ok Tryz.prog 190:=okw mixed gok0 0 (fun _=>[]) (fun s=>yNw s) [] Tryz.func190 yNd
theorem yVd (s:List UInt8) (h:symC.cnd s):yQh s:=by
 have h:s.length≤1099511627776:=h
 unfold yQh gL zBu
 refine⟨0,rfl,rfl,fun p=>p≤s.length∧(kQ s).all uP=(uX s p).all fun x=>uP x.2,fun p=>s.length-p,⟨by omega,by rw[kQ,List.all_map];rfl⟩,?_⟩
 rintro p ⟨h1,h2⟩
 refine Cv.cnd.mk (fun hp=> ?_) (fun hp=> ?_)
 ·have hp:p<s.length:=by simpa[yZj]using hp
  have hw:=cT s hp
  rw[wE hp,List.all_cons]at h2
  generalize hc:(Utf8.decode (sb s) p).1=c at h2 ⊢
  generalize hww:(Utf8.decode (sb s) p).2=w at h2 hw ⊢
  dsimp only at h2
  have bad:uP c=false→∃(o:Unit),j7 s=false∧True:=fun e=>⟨(),by rw[j7,h2,e];rfl,trivial⟩
  have good:uP c=true→∃i':Nat,sb s=sb s∧i'=p+w∧(i'≤s.length∧(kQ s).all uP=(uX s i').all fun x=>uP x.2)∧s.length-i'<s.length-p∧True:=fun e=>⟨p+w,rfl,rfl,⟨hw.2,by rw[h2,e];rfl⟩,by omega,trivial⟩
  refine zI (fun c1=>zI (fun c2=> ?_) (fun c2=>zI (fun c3=>zI (fun c4=>Cv.cnd.mk (fun c5=> ?_) (fun c5=> ?_)) (fun c4=> ?_)) (fun c3=> ?_))) (fun c1=>zI (fun c3=>zI (fun c4=>Cv.cnd.mk (fun c5=> ?_) (fun c5=> ?_)) (fun c4=> ?_)) (fun c3=> ?_))
  all_goals first|(refine good ?_;simp[uP]at*;omega)|(refine bad ?_;simp[uP]at*;omega)
 ·have hp:s.length≤p:=by have:=z3x hp;simpa using this
  rw[fJ hp]at h2
  have h2:(kQ s).all uP=true:=h2
  refine Cv.cnd.mk (fun e=>⟨s,rfl,h,fun _ _=>⟨(),?_,trivial⟩⟩) (fun e=>⟨(),?_,trivial⟩)
  ·rw[mN,z9x]at e
   have:s≠[]:=by simpa using e
   rw[j7,h2,yXc this]
   simp only[yZe]
   congr 1
   simp only[eq_iff_iff];omega
  ·have:s=[]:=by
    rw[mN,z9x]at e
    simpa using e
   rw[j7,this];rfl
theorem yNb:symC.ok Tryz.prog 151:=okw mixed (gokc yEd gok0) 0 (fun _=>[]) (fun s=>yVk s) [] Tryz.func151 yVd
@[simp] theorem xF (l:List Int):(iE l).length=l.length:=by simp[iE]
theorem elI {l:List Int} {k:Nat} {n:Int} (h:l[k]? =some n):zE (iE l) k 0 1=some [D.v (.int .i64 n)]:=by
 simp[zE,iE,h];rfl
theorem yD {α:Type} {l:List α} {i:Nat} (h:i<l.length):∃x,l[i]? =some x:=⟨l[i],yXj h⟩
theorem zOt {n k:Nat} {f:Nat→Bool} (hk:k<n) (h:f k=false):(List.range n).all f=false:=by
 cases hh:(List.range n).all f
 ·rfl
 ·rw[yZn]at hh
  rw[hh k (by simpa using hk)]at h;cases h
theorem zUh {n:Nat} {f:Nat→Bool} (h:∀k<n,f k=true):(List.range n).all f=true:=by
 rw[yZn];intro k hk;exact h k (by simpa using hk)
theorem yIa (l:List Int) (h:monthsC.cnd l):z0o l:=by
 have h:l.length≤1099511627776:=h
 unfold z0o jB kI dI
 simp only[xF]
 refine⟨0,rfl,fun j=>j≤l.length∧∀k<j,qP l k=true,fun j=>l.length-j,⟨by omega,fun k hk=>by omega⟩,?_⟩
 rintro j ⟨h1,h2⟩
 have bad:j<l.length→qP l j=false→∃(o:Unit),xD l=false∧True:=fun hj e=>⟨(),by rw[xD,zOt hj e];rfl,trivial⟩
 have good:j<l.length→qP l j=true→∃i':Nat,(i':Int)=IntKind.i64.wrap ((j:Int)+1)∧(i'≤l.length∧∀k<i',qP l k=true)∧l.length-i'<l.length-j∧True:=fun hj e=>⟨j+1,by rw[w64 (by omega)];rfl,⟨by omega,fun k hk=>by
  rcases yYy k j with hk'|hk'
  ·exact h2 k hk'
  ·obtain rfl:k=j:=by omega
   exact e⟩,by omega,trivial⟩
 refine zI (fun hj=> ?_) (fun hj=> ?_)
 ·have hj:j<l.length:=by omega
  obtain⟨n,hn⟩:=yD hj
  have hg:l.getD j 0=n:=by simp[hn]
  refine⟨⟨by omega,by omega⟩,n,elI hn,zI (fun c1=>bad hj (by simp[qP,hn];omega)) (fun c1=>zI (fun c2=>bad hj (by simp[qP,hn];omega)) (fun c2=>zI (fun c3=> ?_) (fun c3=>good hj ?_)))⟩
  ·have e:IntKind.i64.wrap ((j:Int)-1)=((j-1:Nat):Int):=by rw[w64 (by omega)];omega
   obtain⟨m,hm⟩:=yD (l:=l) (i:=j-1) (by omega)
   rw[e]
   refine⟨⟨by omega,by omega⟩,m,elI hm,zI (fun c4=>bad hj ?_) (fun c4=>good hj ?_)⟩
   ·simp[qP,hn,hm];omega
   ·simp[qP,hn,hm];omega
  ·simp[qP,hn];omega
 ·have e:(List.range l.length).all (qP l)=true:=zUh fun k hk=>h2 k (by omega)
  refine zI (fun c=>⟨(),?_,trivial⟩) (fun c=>⟨(),?_,trivial⟩)
  ·rw[xD,e,yXc (show 2≤l.length by omega)]
   simp;omega
  ·rw[xD,yWx (show ¬2≤l.length by omega)];simp
theorem z6i:monthsC.ok Tryz.prog 152:=okw mixed gok0 0 (fun _=>[]) (fun _=>yIe) [] Tryz.func152 yIa
theorem zEw {f:Int→Int→Int} {l:List Int} {j:Nat} {n:Int} (h:l[j+1]? =some n):(l.take (j+2)).tail.foldl f ((l.take (j+2)).headD 0)=f ((l.take (j+1)).tail.foldl f ((l.take (j+1)).headD 0)) n:=by
 cases l with
 |nil=>simp at h
 |cons a l=>
  simp only[yYf]at h
  simp only[yXw,List.tail_cons,List.headD_cons]
  rw[yXt,h,y0r];rfl
theorem zTw {l:List Int} {n:Int} (h:l[0]? =some n) (f:Int→Int→Int):(l.take 1).tail.foldl f ((l.take 1).headD 0)=n:=by
 cases l with
 |nil=>simp at h
 |cons a l=>simpa using h
theorem yVl (l:List Int) (h:minC.cnd l):ySo l:=by
 obtain⟨h0,h⟩:0<l.length∧l.length≤1099511627776:=h
 unfold ySo kI dI
 simp only[xF]
 obtain⟨n,hn⟩:=yD h0
 refine zI (fun c=>by omega) (fun c=>⟨⟨by omega,by omega⟩,n,elI hn,1,zTw hn min,rfl,fun j=>1≤j∧j≤l.length,fun j=>l.length-j,⟨by omega,by omega⟩,?_⟩)
 rintro j ⟨h1,h2⟩
 refine zI (fun hj=> ?_) (fun hj=>⟨(),?_,trivial⟩)
 ·obtain⟨m,hm⟩:=yD (l:=l) (i:=j) (by omega)
  refine⟨⟨by omega,by omega⟩,m,elI hm,j+1,?_,?_,⟨by omega,by omega⟩,by(first|omega|(dsimp only;omega)),trivial⟩
  ·obtain⟨k,rfl⟩:∃k,j=k+1:=⟨j-1,by omega⟩
   first
    |(rw[m5,zEw hm,← m5];done)
    |(rw[m5,zEw hm,← m5];generalize m5 (l.take (k+1))=x;split<;>omega)
  ·rw[w64 (by omega)];rfl
 ·rw[yWu (by omega)]
theorem yLs:minC.ok Tryz.prog 154:=okw mixed gok0 0 (fun _=>[]) (fun l=>yUp l) [] Tryz.func154 yVl
theorem yVu (l:List Int) (h:maxC.cnd l):yQs l:=by
 obtain⟨h0,h⟩:0<l.length∧l.length≤1099511627776:=h
 unfold yQs kI dI
 simp only[xF]
 obtain⟨n,hn⟩:=yD h0
 refine zI (fun c=>by omega) (fun c=>⟨⟨by omega,by omega⟩,n,elI hn,1,zTw hn max,rfl,fun j=>1≤j∧j≤l.length,fun j=>l.length-j,⟨by omega,by omega⟩,?_⟩)
 rintro j ⟨h1,h2⟩
 refine zI (fun hj=> ?_) (fun hj=>⟨(),?_,trivial⟩)
 ·obtain⟨m,hm⟩:=yD (l:=l) (i:=j) (by omega)
  refine⟨⟨by omega,by omega⟩,m,elI hm,j+1,?_,?_,⟨by omega,by omega⟩,by(first|omega|(dsimp only;omega)),trivial⟩
  ·obtain⟨k,rfl⟩:∃k,j=k+1:=⟨j-1,by omega⟩
   rw[rC,zEw hm,← rC]
   generalize rC (l.take (k+1))=x
   split<;>omega
  ·rw[w64 (by omega)];rfl
 ·rw[yWu (by omega)]
theorem yLh:maxC.ok Tryz.prog 155:=okw mixed gok0 0 (fun _=>[]) (fun l=>yVj l) [] Tryz.func155 yVu
open Go Cv Go.Proofs
@[reducible] def Prd.row (p:Prd):AObj:= .cells p.cells 25
structure zZx where
 p:Prd
 n:Int
structure zQj where
 p:Prd
 l:List Int
def qH (t n:Int):Bool:=n.tmod t !=0
def offC:Con:=con1 zZx (fun i=>[zA i.n,.nm 0 0]) (fun i=>[i.p.row]) (fun i=>1≤i.p.tick) (fun i=>yF (qH i.p.tick i.n)) (fun i=>[i.p.row])
@[reducible] def yTz:V:= .fn 191 [] [.nm 0 0]
def zFw (k:Option Nat):Int:=match k with
 |some k=>k
 |none=> -1
def idxC:Con:=con1 zQj (fun i=>[iV i.l,yTz]) (fun i=>[i.p.row]) (fun i=>1≤i.p.tick∧i.l.length≤1099511627776) (fun i=>zA (zFw (i.l.findIdx? (qH i.p.tick)))) (fun i=>[i.p.row])
def yUj (i:zQj):List SAnn:=[{ι:=Nat,slots:=fun j=>[(8,zA j)],rows:=fun _=>[]}]
def containsC:Con:=con1 zQj (fun i=>[iV i.l,yTz]) (fun i=>[i.p.row]) (fun i=>1≤i.p.tick∧i.l.length≤1099511627776) (fun i=>yF (i.l.any (qH i.p.tick))) (fun i=>[i.p.row])
def qD (p:Prd):Bool:=decide (1≤p.tick) && decide (p.tick≤1000) && !qH p.tick p.low && !qH p.tick p.high && !qH p.tick p.wide && !p.settle.any (qH p.tick)
def ticksC:Con:=con1 Prd (fun p=>[prdV p]) (fun _=>[]) Prd.small (fun p=>yF (qD p)) (fun _=>[])
def qE (p:Prd):Bool:=decide (p.low< -1000000)||decide (p.low≥p.high)||decide (p.high>1000000)||decide (p.wide<0)||decide (p.wide>p.high-p.low)
def xG (p:Prd):Bool:=decide (p.settle.length≠p.months.length)||decide (m5 p.settle<p.low)||decide (rC p.settle>p.high)
def qY (p:Prd):Bool:=decide (p.rule<1)||decide (p.rule>3)
def xV (p:Prd):Bool:=decide (p.top<0)||decide (p.top>1000000)||decide (p.least<1)||decide (p.least>1000)||decide (p.part<0)||decide (p.part>100)
def Prd.check (p:Prd):Int:=
 if !j7 p.code then 12 else if !xD p.months then 1 else if !qD p then 22 else if qE p then 23 else if xG p then 1 else if qY p then 31 else if xV p then 24 else 0
def checkC:Con:=con1 Prd (fun p=>[prdV p]) (fun _=>[]) Prd.small (fun p=>zA p.check) (fun _=>[])
def Prd.count (p:Prd):Nat:=if p.check=0 then p.months.length+p.months.length*(p.months.length-1) / 2 else 0
def pcountC:Con:=con1 Prd (fun p=>[prdV p]) (fun _=>[]) Prd.small (fun p=>zA p.count) (fun _=>[])
structure dC where
 p:Prd
 n:Int
def yL (n:Nat):Nat→Nat
 |0=>n
 |k+1=>yL n k+(n-1-k)
def kL (n inst:Nat):Nat→Nat→Int×Int×Bool
 |0,_=>(0,0,false)
 |k+1,m=>if inst<yL n m+(n-1-m)then(m,m+1+(inst-yL n m:Nat),true)else kL n inst k (m+1)
def Prd.legs (p:Prd) (i:Int):Int×Int×Bool:=
 if i<0∨(p.count:Int)≤i then(0,0,false)else if i<p.months.length then(i,i,false)else kL p.months.length i.toNat p.months.length 0
def legsC:Con:=con1 dC (fun i=>[prdV i.p,zA i.n]) (fun _=>[]) (fun i=>i.p.small) (fun i=> .tup [zA (i.p.legs i.n).1,zA (i.p.legs i.n).2.1,yF (i.p.legs i.n).2.2]) (fun _=>[])
structure pY where
 p:Prd
 a:Int
 b:Int
def Prd.spread (p:Prd) (a b:Int):Int×Bool:=
 if p.check≠0∨a<0∨b≤a∨(p.months.length:Int)≤b then(0,false)else((yL p.months.length a.toNat:Int)+b-a-1,true)
def spreadC:Con:=con1 pY (fun i=>[prdV i.p,zA i.a,zA i.b]) (fun _=>[]) (fun i=>i.p.small) (fun i=> .tup [zA (i.p.spread i.a i.b).1,yF (i.p.spread i.a i.b).2]) (fun _=>[])
def Prd.price (p:Prd) (i n:Int):Int:=
 if p.count=0 then 1 else if i<0∨(p.count:Int)≤i then 20 else if qH p.tick n then 22 else
 if n<(if(p.months.length:Int)≤i then-p.wide else p.low)∨(if(p.months.length:Int)≤i then p.wide else p.high)<n then 23 else 0
def priceC:Con:=con1 pY (fun i=>[prdV i.p,zA i.a,zA i.b]) (fun _=>[]) (fun i=>i.p.small) (fun i=>zA (i.p.price i.a i.b)) (fun _=>[])
structure I2 where
 x:Int
 y:Int
@[reducible] def yU (n:Int):Prop:= -9223372036854775808≤n∧n≤9223372036854775807
def uL (x y:Int):Int×Bool:=if yU (x+y)then(x+y,true)else(0,false)
def uJ (x y:Int):Int×Bool:=if yU (x-y)then(x-y,true)else(0,false)
def addC:Con:=con1 I2 (fun i=>[zA i.x,zA i.y]) (fun _=>[]) (fun i=>yU i.x∧yU i.y) (fun i=> .tup [zA (uL i.x i.y).1,yF (uL i.x i.y).2]) (fun _=>[])
def subC:Con:=con1 I2 (fun i=>[zA i.x,zA i.y]) (fun _=>[]) (fun i=>yU i.x∧yU i.y) (fun i=> .tup [zA (uJ i.x i.y).1,yF (uJ i.x i.y).2]) (fun _=>[])
def yTt (i:dC):List SAnn:=[{ι:=Nat,slots:=fun m=>[(8,zA (yL i.p.months.length m)),(33,zA m)],rows:=fun _=>[]}]
def yHb (i:pY):List SAnn:=[{ι:=Nat,slots:=fun m=>[(9,zA (yL i.p.months.length m)),(33,zA m)],rows:=fun _=>[]}]
open Go Cv Go.Proofs
def ySa (i:zZx):Prop:=
 IntKind.i64=IntKind.i64∧i.p.tick≠0∧∃(a:Unit),qH i.p.tick i.n=(i.n.tmod i.p.tick !=0)∧sb i.p.code=sb i.p.code∧iE i.p.months=iE i.p.months∧i.p.tick=i.p.tick∧i.p.low=i.p.low∧i.p.high=i.p.high∧i.p.wide=i.p.wide∧i.p.rule=i.p.rule∧i.p.top=i.p.top∧i.p.least=i.p.least∧i.p.part=i.p.part∧iE i.p.settle=iE i.p.settle∧True
def ySm (i:zQj):Prop:=
 ∃(a:Nat),(↑a:Int)=0∧∃(b:Nat→Prop),∃(c:Nat→Nat),b a∧∀(d:Nat),b d→cnd (decide ((↑d:Int)<(↑(iE i.l).length:Int))) ((0≤(↑d:Int)∧(↑d:Int)<(↑(iE i.l).length:Int))∧∃(e:Int),zE (iE i.l) (↑d:Int).toNat 0 1=some [dI e]∧∃(f:zZx),f.n=e∧sb f.p.code=sb i.p.code∧iE f.p.months=iE i.p.months∧f.p.tick=i.p.tick∧f.p.low=i.p.low∧f.p.high=i.p.high∧f.p.wide=i.p.wide∧f.p.rule=i.p.rule∧f.p.top=i.p.top∧f.p.least=i.p.least∧f.p.part=i.p.part∧iE f.p.settle=iE i.p.settle∧1≤f.p.tick∧∀(g:Unit),True→cnd (qH f.p.tick f.n) (∃(h:Unit),zFw (List.findIdx? (qH i.p.tick) i.l)=(↑d:Int)∧sb i.p.code=sb f.p.code∧iE i.p.months=iE f.p.months∧i.p.tick=f.p.tick∧i.p.low=f.p.low∧i.p.high=f.p.high∧i.p.wide=f.p.wide∧i.p.rule=f.p.rule∧i.p.top=f.p.top∧i.p.least=f.p.least∧i.p.part=f.p.part∧iE i.p.settle=iE f.p.settle∧True) (∃(h:Nat),(↑h:Int)=IntKind.i64.wrap ((↑d:Int)+1)∧b h∧c h<c d∧Sx.AObj.cells (gX (bJ 1 ((1:Nat)+(0:Nat)) ((1:Nat)-(1:Nat)) [((0:Nat),(0:Nat))]) f.p.cells) (25:TypeId)=i.p.row)) (∃(e:Unit),zFw (List.findIdx? (qH i.p.tick) i.l)=(-1)∧sb i.p.code=sb i.p.code∧iE i.p.months=iE i.p.months∧i.p.tick=i.p.tick∧i.p.low=i.p.low∧i.p.high=i.p.high∧i.p.wide=i.p.wide∧i.p.rule=i.p.rule∧i.p.top=i.p.top∧i.p.least=i.p.least∧i.p.part=i.p.part∧iE i.p.settle=iE i.p.settle∧True)
def zPm (i:zQj):Prop:=
 ∃(a:zQj),iE a.l=iE i.l∧sb a.p.code=sb i.p.code∧iE a.p.months=iE i.p.months∧a.p.tick=i.p.tick∧a.p.low=i.p.low∧a.p.high=i.p.high∧a.p.wide=i.p.wide∧a.p.rule=i.p.rule∧a.p.top=i.p.top∧a.p.least=i.p.least∧a.p.part=i.p.part∧iE a.p.settle=iE i.p.settle∧(1≤a.p.tick∧a.l.length≤1099511627776)∧∀(b:Unit),True→∃(c:Unit),i.l.any (qH i.p.tick)=decide (zFw (List.findIdx? (qH a.p.tick) a.l)≥0)∧sb i.p.code=sb a.p.code∧iE i.p.months=iE a.p.months∧i.p.tick=a.p.tick∧i.p.low=a.p.low∧i.p.high=a.p.high∧i.p.wide=a.p.wide∧i.p.rule=a.p.rule∧i.p.top=a.p.top∧i.p.least=a.p.least∧i.p.part=a.p.part∧iE i.p.settle=iE a.p.settle∧True
def yEb (p:Prd):Prop:=
 cnd (decide (p.tick<1)) (∃(a:Unit),qD p=false∧True) (cnd (decide (p.tick>1000)) (∃(a:Unit),qD p=false∧True) (∃(a:zZx),a.n=p.low∧sb a.p.code=sb p.code∧iE a.p.months=iE p.months∧a.p.tick=p.tick∧a.p.low=p.low∧a.p.high=p.high∧a.p.wide=p.wide∧a.p.rule=p.rule∧a.p.top=p.top∧a.p.least=p.least∧a.p.part=p.part∧iE a.p.settle=iE p.settle∧1≤a.p.tick∧∀(b:Unit),True→cnd (!qH a.p.tick a.n) (∃(c:zZx),c.n=a.p.high∧sb c.p.code=sb a.p.code∧iE c.p.months=iE a.p.months∧c.p.tick=a.p.tick∧c.p.low=a.p.low∧c.p.high=a.p.high∧c.p.wide=a.p.wide∧c.p.rule=a.p.rule∧c.p.top=a.p.top∧c.p.least=a.p.least∧c.p.part=a.p.part∧iE c.p.settle=iE a.p.settle∧1≤c.p.tick∧∀(d:Unit),True→cnd (!qH c.p.tick c.n) (∃(e:zZx),e.n=c.p.wide∧sb e.p.code=sb c.p.code∧iE e.p.months=iE c.p.months∧e.p.tick=c.p.tick∧e.p.low=c.p.low∧e.p.high=c.p.high∧e.p.wide=c.p.wide∧e.p.rule=c.p.rule∧e.p.top=c.p.top∧e.p.least=c.p.least∧e.p.part=c.p.part∧iE e.p.settle=iE c.p.settle∧1≤e.p.tick∧∀(f:Unit),True→cnd (!qH e.p.tick e.n) (∃(g:zQj),iE g.l=iE e.p.settle∧sb g.p.code=sb e.p.code∧iE g.p.months=iE e.p.months∧g.p.tick=e.p.tick∧g.p.low=e.p.low∧g.p.high=e.p.high∧g.p.wide=e.p.wide∧g.p.rule=e.p.rule∧g.p.top=e.p.top∧g.p.least=e.p.least∧g.p.part=e.p.part∧iE g.p.settle=iE e.p.settle∧(1≤g.p.tick∧g.l.length≤1099511627776)∧∀(h:Unit),True→∃(j:Unit),qD p=!g.l.any (qH g.p.tick)∧True) (∃(g:Unit),qD p=false∧True)) (∃(e:Unit),qD p=false∧True)) (∃(c:Unit),qD p=false∧True)))
def z7 (a:Prd):Prop:=a.code.length≤1099511627776∧a.months.length≤1099511627776∧a.settle.length≤1099511627776
def wM (a:Prd):=(↑(iE a.settle).length:Int)
def xB (a:Prd):=(↑(iE a.months).length:Int)
def z9i (p:Prd):Prop:=
 ∃(a:List UInt8),sb a=sb p.code∧a.length≤1099511627776∧∀(b:Unit),True→cnd (!j7 a) (∃(c:Unit),p.check=12∧True) (∃(c:List Int),iE c=iE p.months∧c.length≤1099511627776∧∀(d:Unit),True→cnd (!xD c) (∃(e:Unit),p.check=1∧True) (∃(e:Prd),sb e.code=sb p.code∧iE e.months=iE p.months∧e.tick=p.tick∧e.low=p.low∧e.high=p.high∧e.wide=p.wide∧e.rule=p.rule∧e.top=p.top∧e.least=p.least∧e.part=p.part∧iE e.settle=iE p.settle∧(z7 e)∧∀(f:Unit),True→cnd (!qD e) (∃(g:Unit),p.check=22∧True) (cnd (decide (p.low<(-1000000))) (∃(g:Unit),p.check=23∧True) (cnd (decide (p.low≥p.high)) (∃(g:Unit),p.check=23∧True) (cnd (decide (p.high>1000000)) (∃(g:Unit),p.check=23∧True) (cnd (decide (p.wide<0)) (∃(g:Unit),p.check=23∧True) (cnd (decide (p.wide>IntKind.i64.wrap (p.high-p.low))) (∃(g:Unit),p.check=23∧True) (cnd ((wM p) !=(xB p)) (∃(g:Unit),p.check=1∧True) (∃(g:List Int),iE g=iE p.settle∧(0<g.length∧g.length≤1099511627776)∧∀(h:Unit),True→p.low=p.low∧cnd (decide (m5 g<p.low)) (∃(j:Unit),p.check=1∧True) (∃(j:List Int),iE j=iE p.settle∧(0<j.length∧j.length≤1099511627776)∧∀(k:Unit),True→p.high=p.high∧cnd (decide (rC j>p.high)) (∃(l:Unit),p.check=1∧True) (cnd (decide (p.rule<1)) (∃(l:Unit),p.check=31∧True) (cnd (decide (p.rule>3)) (∃(l:Unit),p.check=31∧True) (cnd (decide (p.top<0)) (∃(l:Unit),p.check=24∧True) (cnd (decide (p.top>1000000)) (∃(l:Unit),p.check=24∧True) (cnd (decide (p.least<1)) (∃(l:Unit),p.check=24∧True) (cnd (decide (p.least>1000)) (∃(l:Unit),p.check=24∧True) (cnd (decide (p.part<0)) (∃(l:Unit),p.check=24∧True) (cnd (decide (p.part>100)) (∃(l:Unit),p.check=24∧True) (∃(l:Unit),p.check=0∧True)))))))))))))))))))
def mV (a:Prd) (b:Prd):Prop:=sb a.code=sb b.code∧iE a.months=iE b.months∧a.tick=b.tick∧a.low=b.low∧a.high=b.high∧a.wide=b.wide∧a.rule=b.rule∧a.top=b.top∧a.least=b.least∧a.part=b.part∧iE a.settle=iE b.settle∧(z7 a)∧∀(c:Unit),True→cnd (a.check !=0) (∃(d:Unit),(↑b.count:Int)=0∧True) (IntKind.i64=IntKind.i64∧(2:Int)≠(0:Int)∧∃(d:Unit),(↑b.count:Int)=IntKind.i64.wrap ((xB b)+IntKind.i64.wrap ((IntKind.i64.wrap ((xB b)*IntKind.i64.wrap ((xB b)-1))).tdiv 2))∧True)
def z1b (p:Prd):Prop:=
 ∃(a:Prd),mV a p
def nH (a:dC):Prop:=Sx.AObj.cells [V.d (D.v (Value.string (sb a.p.code))),V.own 0,V.d (dI a.p.tick),V.d (dI a.p.low),V.d (dI a.p.high),V.d (dI a.p.wide),V.d (dI a.p.rule),V.d (dI a.p.top),V.d (dI a.p.least),V.d (dI a.p.part),V.own ((0:Nat)+(1:Nat))] 25=Sx.AObj.cells [V.d (D.v (Value.string (sb a.p.code))),V.own 0,V.d (dI a.p.tick),V.d (dI a.p.low),V.d (dI a.p.high),V.d (dI a.p.wide),V.d (dI a.p.rule),V.d (dI a.p.top),V.d (dI a.p.least),V.d (dI a.p.part),V.own ((0:Nat)+(1:Nat))] 25∧AObj.fro 1 (iE a.p.settle)=AObj.fro 1 (iE a.p.settle)∧AObj.fro 1 (iE a.p.months)=AObj.fro 1 (iE a.p.months)
def zCh (a:Nat→Prop) (b:Nat) (c:Nat→Nat) (d:Nat) (e:dC):Prop:=a b∧c b<c d∧nH e
def v9 (a:dC) (b:Nat):=(↑(yL a.p.months.length b):Int)
def wQ (a:dC):=(↑(iE a.p.months).length:Int)
def zFd (a:dC) (b:Nat):=((v9 a b)+IntKind.i64.wrap (IntKind.i64.wrap ((wQ a)-1)-(↑b:Int)))
def hU (a:dC):Prop:=∃(b:Unit),(a.p.legs a.n).fst=0∧(a.p.legs a.n).snd.fst=0∧(a.p.legs a.n).snd.snd=false∧True
def eN (a:dC):Prop:=∃(b:Unit),(a.p.legs a.n).fst=a.n∧(a.p.legs a.n).snd.fst=a.n∧(a.p.legs a.n).snd.snd=false∧True
def yJl (i:dC):Prop:=
 ∃(a:Prd),sb a.code=sb i.p.code∧iE a.months=iE i.p.months∧a.tick=i.p.tick∧a.low=i.p.low∧a.high=i.p.high∧a.wide=i.p.wide∧a.rule=i.p.rule∧a.top=i.p.top∧a.least=i.p.least∧a.part=i.p.part∧iE a.settle=iE i.p.settle∧(z7 a)∧∀(b:Unit),True→cnd (decide (i.n<0)) (hU i) (cnd (decide (i.n≥(↑a.count:Int))) (hU i) (cnd (decide (i.n<(wQ i))) (eN i) (∃(c:Nat),(v9 i c)=(wQ i)∧(↑c:Int)=0∧∃(d:Nat→Prop),∃(e:Nat→Nat),d c∧∀(f:Nat),d f→cnd (decide ((↑f:Int)<(wQ i))) (cnd (decide (i.n<IntKind.i64.wrap (zFd i f))) (∃(g:Unit),(i.p.legs i.n).fst=(↑f:Int)∧(i.p.legs i.n).snd.fst=IntKind.i64.wrap (IntKind.i64.wrap (IntKind.i64.wrap ((↑f:Int)+1)+i.n)-(v9 i f))∧(i.p.legs i.n).snd.snd=true∧True) (∃(g:Nat),(v9 i g)=IntKind.i64.wrap (zFd i f)∧(↑g:Int)=IntKind.i64.wrap ((↑f:Int)+1)∧zCh d g e f i)) (hU i))))
def dB (a:pY):Prop:=∃(b:Unit),(a.p.spread a.a a.b).fst=0∧(a.p.spread a.a a.b).snd=false∧True
def z3a (i:pY):Prop:=
 ∃(a:Prd),sb a.code=sb i.p.code∧iE a.months=iE i.p.months∧a.tick=i.p.tick∧a.low=i.p.low∧a.high=i.p.high∧a.wide=i.p.wide∧a.rule=i.p.rule∧a.top=i.p.top∧a.least=i.p.least∧a.part=i.p.part∧iE a.settle=iE i.p.settle∧(z7 a)∧∀(b:Unit),True→cnd (a.check !=0) (dB i) (cnd (decide (i.a<0)) (dB i) (cnd (decide (i.a≥i.b)) (dB i) (cnd (decide (i.b≥(↑(iE i.p.months).length:Int))) (dB i) (∃(c:Nat),(↑(yL i.p.months.length c):Int)=(↑(iE i.p.months).length:Int)∧(↑c:Int)=0∧∃(d:Nat→Prop),∃(e:Nat→Nat),d c∧∀(f:Nat),d f→cnd (decide ((↑f:Int)<i.a)) (∃(g:Nat),(↑(yL i.p.months.length g):Int)=IntKind.i64.wrap ((↑(yL i.p.months.length f):Int)+IntKind.i64.wrap (IntKind.i64.wrap ((↑(iE i.p.months).length:Int)-1)-(↑f:Int)))∧(↑g:Int)=IntKind.i64.wrap ((↑f:Int)+1)∧d g∧e g<e f∧Sx.AObj.cells [V.d (D.v (Value.string (sb i.p.code))),V.own 0,V.d (dI i.p.tick),V.d (dI i.p.low),V.d (dI i.p.high),V.d (dI i.p.wide),V.d (dI i.p.rule),V.d (dI i.p.top),V.d (dI i.p.least),V.d (dI i.p.part),V.own ((0:Nat)+(1:Nat))] 25=Sx.AObj.cells [V.d (D.v (Value.string (sb i.p.code))),V.own 0,V.d (dI i.p.tick),V.d (dI i.p.low),V.d (dI i.p.high),V.d (dI i.p.wide),V.d (dI i.p.rule),V.d (dI i.p.top),V.d (dI i.p.least),V.d (dI i.p.part),V.own ((0:Nat)+(1:Nat))] 25∧AObj.fro 1 (iE i.p.settle)=AObj.fro 1 (iE i.p.settle)∧AObj.fro 1 (iE i.p.months)=AObj.fro 1 (iE i.p.months)) (∃(g:Unit),(i.p.spread i.a i.b).fst=IntKind.i64.wrap (IntKind.i64.wrap (IntKind.i64.wrap ((↑(yL i.p.months.length f):Int)+i.b)-i.a)-1)∧(i.p.spread i.a i.b).snd=true∧True)))))
def z7i (i:pY):Prop:=
 ∃(a:Prd),sb a.code=sb i.p.code∧iE a.months=iE i.p.months∧a.tick=i.p.tick∧a.low=i.p.low∧a.high=i.p.high∧a.wide=i.p.wide∧a.rule=i.p.rule∧a.top=i.p.top∧a.least=i.p.least∧a.part=i.p.part∧iE a.settle=iE i.p.settle∧(z7 a)∧∀(b:Unit),True→cnd ((↑a.count:Int)==0) (∃(c:Unit),i.p.price i.a i.b=1∧True) (cnd (decide (i.a<0)) (∃(c:Unit),i.p.price i.a i.b=20∧True) (cnd (decide (i.a≥(↑a.count:Int))) (∃(c:Unit),i.p.price i.a i.b=20∧True) (IntKind.i64=IntKind.i64∧i.p.tick≠0∧cnd (i.b.tmod i.p.tick !=0) (∃(c:Unit),i.p.price i.a i.b=22∧True) (cnd (decide (i.a≥(↑(iE i.p.months).length:Int))) (cnd (decide (i.b<IntKind.i64.wrap (0-i.p.wide))) (∃(c:Unit),i.p.price i.a i.b=23∧True) (cnd (decide (i.b>i.p.wide)) (∃(c:Unit),i.p.price i.a i.b=23∧True) (∃(c:Unit),i.p.price i.a i.b=0∧True))) (cnd (decide (i.b<i.p.low)) (∃(c:Unit),i.p.price i.a i.b=23∧True) (cnd (decide (i.b>i.p.high)) (∃(c:Unit),i.p.price i.a i.b=23∧True) (∃(c:Unit),i.p.price i.a i.b=0∧True)))))))
def zKo (a:I2):Prop:=∃(b:Unit),(uL a.x a.y).fst=IntKind.i64.wrap (a.x+a.y)∧(uL a.x a.y).snd=true∧True
def yQm (i:I2):Prop:=
 cnd (decide (i.x<0)==decide (i.y<0)) (cnd (!decide (IntKind.i64.wrap (i.x+i.y)<0)==decide (i.x<0)) (∃(a:Unit),(uL i.x i.y).fst=0∧(uL i.x i.y).snd=false∧True) (zKo i)) (zKo i)
def zIj (a:I2):Prop:=∃(b:Unit),(uJ a.x a.y).fst=IntKind.i64.wrap (a.x-a.y)∧(uJ a.x a.y).snd=true∧True
def yRr (i:I2):Prop:=
 cnd (!decide (i.x<0)==decide (i.y<0)) (cnd (!decide (IntKind.i64.wrap (i.x-i.y)<0)==decide (i.x<0)) (∃(a:Unit),(uJ i.x i.y).fst=0∧(uJ i.x i.y).snd=false∧True) (zIj i)) (zIj i)
open Go Cv Go.Proofs
theorem yUl (i:zZx) (h:offC.cnd i):ySa i:=by
 have h:1≤i.p.tick:=h
 unfold ySa;exact kp
theorem yBk:offC.ok Tryz.prog 191:=okw mixed gok0 0 (fun _=>[]) (fun _=>[]) [] Tryz.func191 yUl
theorem zEc {α:Type} {f:α→Bool} {l:List α} (h:∀(k:Nat) (x:α),l[k]? =some x→f x=false):l.findIdx? f=none:=by
 rw[y1c]
 intro x hx
 obtain⟨k,hk⟩:=y2d hx
 exact h k x hk
theorem zFc {α:Type} {f:α→Bool} {l:List α} {j:Nat} {x:α} (h1:l[j]? =some x) (h2:f x=true) (h:∀k<j,∀x:α,l[k]? =some x→f x=false):l.findIdx? f=some j:=by
 rw[yZo]
 obtain⟨hj,rfl⟩:=yWn.1 h1
 exact⟨hj,h2,fun k hk=>by rw[h k hk _ (yXj (by omega))];simp⟩
theorem yVe (i:zQj) (h:idxC.cnd i):ySm i:=by
 obtain⟨h1,h2⟩:1≤i.p.tick∧i.l.length≤1099511627776:=h
 unfold ySm dI
 simp only[xF]
 refine⟨0,rfl,fun j=>j≤i.l.length∧∀k<j,∀x,i.l[k]? =some x→qH i.p.tick x=false,fun j=>i.l.length-j,⟨by omega,fun k hk=>by omega⟩,?_⟩
 rintro j ⟨h3,h4⟩
 refine zI (fun hj=> ?_) (fun hj=> ?_)
 ·obtain⟨n,hn⟩:=yD (l:=i.l) (i:=j) (by omega)
  refine⟨⟨by omega,by omega⟩,n,elI hn,⟨i.p,n⟩,?_⟩
  (repeat'(first|exact rfl|exact trivial|assumption|apply And.intro|refine fun(_:Unit) (_:True)=>?_|refine Exists.intro () ?_|omega|(dsimp only;omega)))
  refine Cv.cnd.mk (fun e=> ?_) (fun e=> ?_)
  ·rw[zFc hn e h4];exact kp
  ·refine⟨j+1,by rw[w64 (by omega)];rfl,⟨by omega,fun k hk x hx=> ?_⟩,by(first|omega|(dsimp only;omega)),rfl⟩
   rcases yYy k j with hk'|hk'
   ·exact h4 k hk' x hx
   ·obtain rfl:k=j:=by omega
    rw[hn]at hx;cases hx;exact e
 ·rw[zEc fun k x hx=>h4 k (by have:=(yWn.1 hx).1;omega) x hx];exact kp
theorem yOj:idxC.ok Tryz.prog 227:=okw mixed (gokc yBk gok0) 0 (fun _=>[]) (fun i=>yUj i) [] Tryz.func227 yVe
theorem z4v {l:List Int} {f:Int→Bool}:l.any f=decide (zFw (l.findIdx? f)≥0):=by
 cases hf:l.findIdx? f with
 |none=>
  rw[y1c]at hf
  have:l.any f=false:=by rw[y2r];intro x hx;simp[hf x hx]
  rw[this];rfl
 |some k=>
  rw[yZo]at hf
  obtain⟨hk,h1,_⟩:=hf
  have:l.any f=true:=by rw[List.any_eq_true];exact⟨_,List.getElem_mem hk,h1⟩
  rw[this,zFw,yXc (by omega)]
theorem z5h (i:zQj) (h:containsC.cnd i):zPm i:=by
 unfold zPm
 have h':1≤i.p.tick∧i.l.length≤1099511627776:=h
 refine⟨i,?_⟩
 (repeat'(first|exact rfl|exact trivial|assumption|apply And.intro|refine fun(_:Unit) (_:True)=>?_|refine Exists.intro () ?_|omega|(dsimp only;omega)))
 exact z4v
theorem zTe:containsC.ok Tryz.prog 192:=okw mixed (gokc yOj gok0) 0 (fun _=>[]) (fun _=>[]) [] Tryz.func192 z5h
theorem yMr (p:Prd) (h:ticksC.cnd p):yEb p:=by
 obtain⟨h1,h2,h3⟩:p.small:=h
 unfold yEb
 refine zI (fun c1=>⟨(),by rw[qD,yWx (by omega)];rfl,trivial⟩) (fun c1=>zI (fun c2=>⟨(),by rw[qD,yWx (show ¬p.tick≤1000 by omega)];simp,trivial⟩) (fun c2=>⟨⟨p,p.low⟩,?_⟩))
 have e1:qD p=(!qH p.tick p.low && !qH p.tick p.high && !qH p.tick p.wide && !p.settle.any (qH p.tick)):=by
  rw[qD,yXc (by omega),yXc (by omega)];rfl
 rw[e1]
 (repeat'(first|exact rfl|exact trivial|assumption|apply And.intro|refine fun(_:Unit) (_:True)=>?_|refine Exists.intro () ?_|omega|(dsimp only;omega)))
 refine Cv.cnd.mk (fun c3=>⟨⟨p,p.high⟩,?_⟩) (fun c3=>⟨(),?_,trivial⟩)
 ·dsimp only at c3
  (repeat'(first|exact rfl|exact trivial|assumption|apply And.intro|refine fun(_:Unit) (_:True)=>?_|refine Exists.intro () ?_|omega|(dsimp only;omega)))
  refine Cv.cnd.mk (fun c4=>⟨⟨p,p.wide⟩,?_⟩) (fun c4=>⟨(),?_,trivial⟩)
  ·dsimp only at c4
   (repeat'(first|exact rfl|exact trivial|assumption|apply And.intro|refine fun(_:Unit) (_:True)=>?_|refine Exists.intro () ?_|omega|(dsimp only;omega)))
   refine Cv.cnd.mk (fun c5=>⟨⟨p,p.settle⟩,?_⟩) (fun c5=>⟨(),?_,trivial⟩)
   ·dsimp only at c5
    (repeat'(first|exact rfl|exact trivial|assumption|apply And.intro|refine fun(_:Unit) (_:True)=>?_|refine Exists.intro () ?_|omega|(dsimp only;omega)))
    rw[c3,c4,c5];simp
   ·dsimp only at c5
    rw[c5];simp
  ·dsimp only at c4
   rw[c4];simp
 ·dsimp only at c3
  rw[c3];simp
theorem yDr:ticksC.ok Tryz.prog 153:=okw mixed (gokc yBk (gokc zTe gok0)) 0 (fun _=>[]) (fun _=>[]) [] Tryz.func153 yMr
theorem yPa (p:Prd) (h:checkC.cnd p):z9i p:=by
 obtain⟨h1,h2,h3⟩:p.small:=h
 unfold z9i xB wM z7
 simp only[xF]
 refine⟨p.code,rfl,h1,fun _ _=>Cv.cnd.mk (fun c1=>⟨(),by rw[Prd.check,yWl c1],trivial⟩) (fun c1=>⟨p.months,rfl,h2,fun _ _=>Cv.cnd.mk (fun c2=>⟨(),by rw[Prd.check,yWj (by simp[c1]),yWl c2],trivial⟩) (fun c2=>⟨p,?_⟩)⟩)⟩
 (repeat'(first|exact rfl|exact trivial|assumption|apply And.intro|refine fun(_:Unit) (_:True)=>?_|refine Exists.intro () ?_|omega|(dsimp only;omega)))
 refine Cv.cnd.mk (fun c3=>⟨(),by rw[Prd.check,yWj (by simp[c1]),yWj (by simp[c2]),yWl c3],trivial⟩) (fun c3=> ?_)
 have e0:p.check=if qE p then 23 else if xG p then 1 else if qY p then 31 else if xV p then 24 else 0:=by
  rw[Prd.check,yWj (by simp[c1]),yWj (by simp[c2]),yWj (by simp[c3])]
 have b (hb:qE p=true):∃(o:Unit),p.check=23∧True:=⟨(),by rw[e0,yWl hb],trivial⟩
 refine zI (fun d1=>b (by simp[qE,d1])) fun d1=>zI (fun d2=>b (by simp[qE];omega)) fun d2=>zI (fun d3=>b (by simp[qE];omega)) fun d3=>zI (fun d4=>b (by simp[qE];omega)) fun d4=> ?_
 rw[w64 (by omega)]
 refine zI (fun d5=>b (by simp[qE];omega)) fun d5=> ?_
 have e1:p.check=if xG p then 1 else if qY p then 31 else if xV p then 24 else 0:=by
  rw[e0,yWj (by simp[qE];omega)]
 have s (hb:xG p=true):∃(o:Unit),p.check=1∧True:=⟨(),by rw[e1,yWl hb],trivial⟩
 have hm:2≤p.months.length:=by
  have c2:xD p.months=true:=by simpa using c2
  simp[xD]at c2;omega
 refine Cv.cnd.mk (fun d6=>s (by have d6:¬(p.settle.length:Int)=p.months.length:=(by simpa using d6);simp[xG];omega)) fun d6=> ?_
 have d6:p.settle.length=p.months.length:=by
  have:(p.settle.length:Int)=p.months.length:=by simpa using d6
  omega
 refine⟨p.settle,rfl,⟨by omega,by omega⟩,fun _ _=>⟨kp,zI (fun d7=>s (by simp[xG];left;right;omega)) fun d7=>⟨p.settle,rfl,⟨by omega,by omega⟩,fun _ _=>⟨kp,zI (fun d8=>s (by simp[xG];right;omega)) fun d8=> ?_⟩⟩⟩⟩
 have e2:p.check=if qY p then 31 else if xV p then 24 else 0:=by
  rw[e1,yWj (by simp[xG];omega)]
 have r (hb:qY p=true):∃(o:Unit),p.check=31∧True:=⟨(),by rw[e2,yWl hb],trivial⟩
 refine zI (fun d9=>r (by simp[qY];omega)) fun d9=>zI (fun d10=>r (by simp[qY];omega)) fun d10=> ?_
 have e3:p.check=if xV p then 24 else 0:=by
  rw[e2,yWj (by simp[qY];omega)]
 have q (hb:xV p=true):∃(o:Unit),p.check=24∧True:=⟨(),by rw[e3,yWl hb],trivial⟩
 refine zI (fun f1=>q (by simp[xV];omega)) fun f1=>zI (fun f2=>q (by simp[xV];omega)) fun f2=>zI (fun f3=>q (by simp[xV];omega)) fun f3=>zI (fun f4=>q (by simp[xV];omega)) fun f4=>zI (fun f5=>q (by simp[xV];omega)) fun f5=>zI (fun f6=>q (by simp[xV];omega)) fun f6=> ?_
 exact⟨(),by rw[e3,yWj (by simp[xV];omega)],trivial⟩
theorem sX:checkC.ok Tryz.prog 104:=okw mixed (gokc yNb (gokc z6i (gokc yDr (gokc yLs (gokc yLh gok0))))) 0 (fun _=>[]) (fun _=>[]) [] Tryz.func104 yPa
structure Prd.Ok (p:Prd):Prop where
 sym:j7 p.code=true
 months:xD p.months=true
 ticks:qD p=true
 m2:2≤p.months.length
 m6:p.months.length≤6
 t1:1≤p.tick
 t2:p.tick≤1000
 b1: -1000000≤p.low
 b2:p.low<p.high
 b3:p.high≤1000000
 b4:0≤p.wide
 b5:p.wide≤p.high-p.low
 s1:p.settle.length=p.months.length
 s2:p.low≤m5 p.settle
 s3:rC p.settle≤p.high
 r1:1≤p.rule
 r2:p.rule≤3
 q1:0≤p.top
 q2:p.top≤1000000
 q3:1≤p.least
 q4:p.least≤1000
 q5:0≤p.part
 q6:p.part≤100
theorem jP {p:Prd} (h:p.check=0):p.Ok:=by
 unfold Prd.check at h
 split at h<;>first|(exfalso;revert h;decide)|skip
 rename_i c1
 split at h<;>first|(exfalso;revert h;decide)|skip
 rename_i c2
 split at h<;>first|(exfalso;revert h;decide)|skip
 rename_i c3
 split at h<;>first|(exfalso;revert h;decide)|skip
 rename_i c4
 split at h<;>first|(exfalso;revert h;decide)|skip
 rename_i c5
 split at h<;>first|(exfalso;revert h;decide)|skip
 rename_i c6
 split at h<;>first|(exfalso;revert h;decide)|skip
 rename_i c7
 simp only[yZh,Bool.not_eq_false,Bool.not_eq_true]at c1 c2 c3
 have m:=c2
 have t:=c3
 simp[xD]at m
 simp[qD]at t
 simp[qE]at c4
 simp[xG]at c5
 simp[qY]at c6
 simp[xV]at c7
 exact⟨c1,c2,c3,by omega,by omega,by omega,by omega,by omega,by omega,by omega,by omega,by omega,by omega,by omega,by omega,by omega,by omega,by omega,by omega,by omega,by omega,by omega,by omega⟩
theorem z7z {n:Nat} (h:n≤6):n+n*(n-1) / 2≤21:=by
 have:∀n≤6,n+n*(n-1) / 2≤21:=by decide
 exact this n h
theorem yEw (p:Prd) (h:pcountC.cnd p):z1b p:=by
 unfold z1b mV xB z7
 obtain⟨h1,h2,h3⟩:p.small:=h
 refine⟨p,?_⟩
 simp only[xF]
 (repeat'(first|exact rfl|exact trivial|assumption|apply And.intro|refine fun(_:Unit) (_:True)=>?_|refine Exists.intro () ?_|omega|(dsimp only;omega)))
 refine Cv.cnd.mk (fun c=>⟨(),by rw[Prd.count,yWj (by simpa using c)];rfl,trivial⟩) (fun c=> ?_)
 have c:p.check=0:=by simpa using c
 have ok:=jP c
 refine⟨kp,by decide,(),?_,trivial⟩
 rw[Prd.count,yWl c]
 obtain⟨n,hn⟩:∃n,p.months.length=n:=⟨_,rfl⟩
 have m2:=ok.m2
 have m6:=ok.m6
 rw[hn]at m2 m6 ⊢
 have:n=2∨n=3∨n=4∨n=5∨n=6:=by omega
 rcases this with rfl|rfl|rfl|rfl|rfl<;>rfl
theorem cO:pcountC.ok Tryz.prog 106:=okw mixed (gokc sX gok0) 0 (fun _=>[]) (fun _=>[]) [] Tryz.func106 yEw
theorem sD {p:Prd} (h:p.count≠0):p.check=0:=by
 unfold Prd.count at h
 split at h
 ·assumption
 ·exact absurd rfl h
theorem x5 (p:Prd):p.count≤21:=by
 unfold Prd.count
 split
 ·rename_i h;exact z7z (jP h).m6
 ·omega
theorem zKw {n m:Nat} (h:n≤6) (hm:m≤n):yL n m≤21:=by
 have:∀n≤6,∀m≤n,yL n m≤21:=by decide
 exact this n h m hm
theorem ySn (i:dC) (h:legsC.cnd i):yJl i:=by
 unfold yJl zCh nH eN hU zFd wQ v9 z7 dI
 obtain⟨h1,h2,h3⟩:i.p.small:=h
 refine⟨i.p,?_⟩
 simp only[xF]
 (repeat'(first|exact rfl|exact trivial|assumption|apply And.intro|refine fun(_:Unit) (_:True)=>?_|refine Exists.intro () ?_|omega|(dsimp only;omega)))
 refine zI (fun c1=> ?_) (fun c1=>zI (fun c2=> ?_) (fun c2=> ?_))
 ·rw[Prd.legs,yWl (by omega)];exact kp
 ·rw[Prd.legs,yWl (by omega)];exact kp
 have c2:¬i.n≥(i.p.count:Int):=c2
 have hc:=x5 i.p
 have ok:=jP (sD (p:=i.p) (by omega))
 have m6:=ok.m6
 refine zI (fun c3=> ?_) (fun c3=> ?_)
 ·rw[Prd.legs,yWj (by omega),yWl c3];exact kp
 have e0:i.p.legs i.n=kL i.p.months.length i.n.toNat i.p.months.length 0:=by
  rw[Prd.legs,yWj (by omega),yWj c3]
 rw[e0]
 generalize hn:i.p.months.length=n at c3 m6 ⊢
 obtain⟨k,hk⟩:∃k:Nat,i.n=k:=⟨i.n.toNat,by omega⟩
 rw[hk]at c2 c3 ⊢
 refine⟨0,rfl,rfl,fun m=>m≤n∧yL n m≤k∧kL n k n 0=kL n k (n-m) m,fun m=>n-m,⟨by omega,by show n≤k;omega,rfl⟩,?_⟩
 rintro m ⟨g1,g2,g3⟩
 have hf:=zKw m6 g1
 refine zI (fun c4=> ?_) (fun c4=> ?_)
 ·obtain⟨r,hr⟩:∃r,n-m=r+1:=⟨n-m-1,by omega⟩
  have e1:(k:Int).toNat=k:=by omega
  rw[e1,g3,hr,w64 (x:=(n:Int)-1) (by omega),w64 (x:=(n:Int)-1-m) (by omega),w64 (x:=(yL n m:Int)+((n:Int)-1-m)) (by omega),w64 (x:=(m:Int)+1) (by omega)]
  rw[hr]at g3
  refine zI (fun c5=> ?_) (fun c5=> ?_)
  ·rw[w64 (x:=(m:Int)+1+k) (by omega),w64 (x:=(m:Int)+1+k-(yL n m:Int)) (by omega),kL,yWl (by omega)]
   refine⟨(),rfl,?_,rfl,trivial⟩
   dsimp only;omega
  ·refine⟨m+1,?_,rfl,⟨by omega,?_,?_⟩,by(first|omega|(dsimp only;omega)),kp⟩
   ·rw[yL];omega
   ·rw[yL];omega
   ·rw[kL,yWj (by omega),show n-(m+1)=r by omega]
 ·have e1:(k:Int).toNat=k:=by omega
  rw[e1,g3,show n-m=0 by omega]
  exact⟨(),rfl,rfl,rfl,trivial⟩
theorem tY:legsC.ok Tryz.prog 196:=okw mixed (gokc cO gok0) 0 (fun _=>[]) (fun i=>yTt i) [] Tryz.func196 ySn
theorem yEp (i:pY) (h:spreadC.cnd i):z3a i:=by
 unfold z3a dB z7 dI
 obtain⟨h1,h2,h3⟩:i.p.small:=h
 refine⟨i.p,?_⟩
 simp only[xF]
 (repeat'(first|exact rfl|exact trivial|assumption|apply And.intro|refine fun(_:Unit) (_:True)=>?_|refine Exists.intro () ?_|omega|(dsimp only;omega)))
 have bad (hb:i.p.check≠0∨i.a<0∨i.b≤i.a∨(i.p.months.length:Int)≤i.b):∃(o:Unit),(i.p.spread i.a i.b).fst=0∧(i.p.spread i.a i.b).snd=false∧True:=⟨(),by rw[Prd.spread,yWl hb],by rw[Prd.spread,yWl hb],trivial⟩
 refine Cv.cnd.mk (fun c1=>bad (.inl (by simpa using c1))) fun c1=>zI (fun c2=>bad (by omega)) fun c2=>zI (fun c3=>bad (by omega)) fun c3=>zI (fun c4=>bad (by omega)) fun c4=> ?_
 have c1:i.p.check=0:=by simpa using c1
 have m6:=(jP c1).m6
 rw[Prd.spread,yWj (by omega)]
 generalize hn:i.p.months.length=n at c4 m6 ⊢
 obtain⟨a,ha⟩:∃k:Nat,i.a=k:=⟨i.a.toNat,by omega⟩
 rw[ha]at c3 ⊢
 refine⟨0,rfl,rfl,fun m=>m≤a,fun m=>a-m,by omega,?_⟩
 intro m hm
 have hm:m≤a:=hm
 have hf:=zKw (m:=m) m6 (by omega)
 refine zI (fun c5=> ?_) (fun c5=> ?_)
 ·rw[w64 (x:=(n:Int)-1) (by omega),w64 (x:=(n:Int)-1-m) (by omega),w64 (x:=(yL n m:Int)+((n:Int)-1-m)) (by omega),w64 (x:=(m:Int)+1) (by omega)]
  refine⟨m+1,?_,rfl,by omega,by(first|omega|(dsimp only;omega)),kp⟩
  rw[yL];omega
 ·obtain rfl:m=a:=by omega
  rw[w64 (x:=(yL n m:Int)+i.b) (by omega),w64 (x:=(yL n m:Int)+i.b-m) (by omega),w64 (x:=(yL n m:Int)+i.b-m-1) (by omega)]
  exact⟨(),rfl,rfl,trivial⟩
theorem zPc:spreadC.ok Tryz.prog 199:=okw mixed (gokc sX gok0) 0 (fun _=>[]) (fun i=>yHb i) [] Tryz.func199 yEp
theorem yLm (i:pY) (h:priceC.cnd i):z7i i:=by
 unfold z7i z7
 obtain⟨h1,h2,h3⟩:i.p.small:=h
 refine⟨i.p,?_⟩
 simp only[xF]
 (repeat'(first|exact rfl|exact trivial|assumption|apply And.intro|refine fun(_:Unit) (_:True)=>?_|refine Exists.intro () ?_|omega|(dsimp only;omega)))
 refine Cv.cnd.mk (fun c1=>⟨(),by rw[Prd.price,yWl (by have:(i.p.count:Int)=0:=(by simpa using c1);omega)],trivial⟩) fun c1=> ?_
 have c1:i.p.count≠0:=by
  have:¬(i.p.count:Int)=0:=by simpa using c1
  omega
 have e0:i.p.price i.a i.b=if i.a<0∨(i.p.count:Int)≤i.a then 20 else if qH i.p.tick i.b then 22 else
  if i.b<(if(i.p.months.length:Int)≤i.a then-i.p.wide else i.p.low)∨(if(i.p.months.length:Int)≤i.a then i.p.wide else i.p.high)<i.b then 23 else 0:=by rw[Prd.price,yWj c1]
 rw[e0]
 have ok:=jP (sD c1)
 obtain⟨t1,b3,b1,b2,b4,b5⟩:=(⟨ok.t1,ok.b3,ok.b1,ok.b2,ok.b4,ok.b5⟩:_∧_∧_∧_∧_∧_)
 refine zI (fun c2=>⟨(),by rw[yWl (.inl c2)],trivial⟩) fun c2=>zI (fun c3=>⟨(),by rw[yWl (.inr c3)],trivial⟩) fun c3=>⟨kp,by omega,?_⟩
 have c3:¬i.a≥(i.p.count:Int):=c3
 rw[yWj (by omega)]
 refine Cv.cnd.mk (fun c4=>⟨(),yWl c4,trivial⟩) fun c4=> ?_
 rw[yWj (by rw[qH,c4];simp),w64 (x:=0-i.p.wide) (by omega)]
 refine zI (fun c5=> ?_) (fun c5=> ?_)
 ·have c5:(i.p.months.length:Int)≤i.a:=c5
  simp only[yWl c5]
  refine zI (fun c6=>⟨(),yWl (.inl (by omega)),trivial⟩) fun c6=>zI (fun c7=>⟨(),yWl (.inr (by omega)),trivial⟩) fun c7=>⟨(),yWj (by omega),trivial⟩
 ·have c5:¬(i.p.months.length:Int)≤i.a:=c5
  simp only[yWj c5]
  refine zI (fun c6=>⟨(),yWl (.inl (by omega)),trivial⟩) fun c6=>zI (fun c7=>⟨(),yWl (.inr (by omega)),trivial⟩) fun c7=>⟨(),yWj (by omega),trivial⟩
theorem rV:priceC.ok Tryz.prog 161:=okw mixed (gokc cO gok0) 0 (fun _=>[]) (fun _=>[]) [] Tryz.func161 yLm
theorem yKy (x:Int) (h: -18446744073709551616≤x∧x<18446744073709551616):(yU x∧IntKind.i64.wrap x=x)∨(9223372036854775807<x∧IntKind.i64.wrap x=x-18446744073709551616)∨(x< -9223372036854775808∧IntKind.i64.wrap x=x+18446744073709551616):=by
 have e:IntKind.i64.wrap x=if(decide (x % 18446744073709551616≥9223372036854775808))=true then x % 18446744073709551616-18446744073709551616 else x % 18446744073709551616:=by
  have:IntKind.i64.wrap x=if(true && decide (x % 18446744073709551616≥9223372036854775808))=true then x % 18446744073709551616-18446744073709551616 else x % 18446744073709551616:=rfl
  rw[this,yZe]
 have e:IntKind.i64.wrap x=(x+9223372036854775808) % 18446744073709551616-9223372036854775808:=by
  rw[e]
  by_cases h2:x % 18446744073709551616≥9223372036854775808
  ·rw[yWl (yXc h2)];omega
  ·rw[yWj (by simpa using h2)];omega
 rw[e]
 by_cases h1:yU x
 ·exact .inl ⟨h1,by unfold yU at h1;omega⟩
 ·unfold yU at h1
  omega
theorem yVh (i:I2) (h:addC.cnd i):yQm i:=by
 obtain⟨⟨x1,x2⟩,y1,y2⟩:yU i.x∧yU i.y:=h
 have hw:=yKy (i.x+i.y) (by omega)
 unfold yQm zKo uL
 generalize IntKind.i64.wrap (i.x+i.y)=w at hw ⊢
 unfold yU at hw ⊢
 refine Cv.cnd.mk (fun c1=>Cv.cnd.mk (fun c2=> ?_) (fun c2=> ?_)) (fun c1=> ?_)
 all_goals(simp at*)
 ·rw[yWj (by omega)];exact kp
 ·rw[yWl (by omega)];refine⟨?_,rfl⟩;dsimp only;omega
 ·rw[yWl (by omega)];refine⟨?_,rfl⟩;dsimp only;omega
theorem zRv:addC.ok Tryz.prog 230:=okw mixed gok0 0 (fun _=>[]) (fun _=>[]) [] Tryz.func230 yVh
theorem yUt (i:I2) (h:subC.cnd i):yRr i:=by
 obtain⟨⟨x1,x2⟩,y1,y2⟩:yU i.x∧yU i.y:=h
 have hw:=yKy (i.x-i.y) (by omega)
 unfold yRr zIj uJ
 generalize IntKind.i64.wrap (i.x-i.y)=w at hw ⊢
 unfold yU at hw ⊢
 refine Cv.cnd.mk (fun c1=>Cv.cnd.mk (fun c2=> ?_) (fun c2=> ?_)) (fun c1=> ?_)
 all_goals(simp at*)
 ·rw[yWj (by omega)];exact kp
 ·rw[yWl (by omega)];refine⟨?_,rfl⟩;dsimp only;omega
 ·rw[yWl (by omega)];refine⟨?_,rfl⟩;dsimp only;omega
theorem zQr:subC.ok Tryz.prog 231:=okw mixed gok0 0 (fun _=>[]) (fun _=>[]) [] Tryz.func231 yUt
open Go Cv Go.Proofs
structure Slot where
 used:Bool
 n:Int
 id:Int
 qty:Int
 top:Bool
 queue:Int
 ahead:Int
 back:Int
 deriving DecidableEq
structure dL where
 first:Int
 last:Int
 total:Int
 count:Int
 deriving DecidableEq
structure Arena where
 slots:List Slot
 queues:List dL
 free:Int
 deriving DecidableEq
def zP (s:Slot):List D:=[.v (.bool s.used),.v (.int .i64 s.n),.v (.int .i64 s.id),.v (.int .i64 s.qty),.v (.bool s.top),.v (.int .i64 s.queue),.v (.int .i64 s.ahead),.v (.int .i64 s.back)]
def zO (q:dL):List D:=[.v (.int .i64 q.first),.v (.int .i64 q.last),.v (.int .i64 q.total),.v (.int .i64 q.count)]
def slot0:Slot:=⟨false,0,0,0,false,0,0,0⟩
def zF (a:Arena):Nat→AObj
 |0=> .cells [.own 1,.own 2,zA a.free] 355
 |1=> .own 362 8 (a.slots.map zP)
 |2=> .own 365 4 (a.queues.map zO)
 |_=> .gone
def jL (a:Arena):AObj:= .adt Arena 3 zF a
structure xH where
 price:Int
 queue:Int
 deriving DecidableEq
structure Place where
 side:Int
 price:Int
 slot:Int
 deriving DecidableEq
structure Book where
 a:Arena
 buys:List xH
 sells:List xH
 at_:List (Int×Place)
 top1:Int
 top2:Int
 spare:List Int
 has1:Bool
 has2:Bool
 deriving DecidableEq
def zB (r:xH):List D:=[.v (.int .i64 r.price),.v (.int .i64 r.queue)]
def zZy (p:Place):List D:=[.v (.int .i64 p.side),.v (.int .i64 p.price),.v (.int .i64 p.slot)]
def atE (l:List (Int×Place)):List (Value×List D):=l.map fun x=>(.int .i64 x.1,zZy x.2)
def zQ (b:Book):Nat→AObj
 |0=> .cells [.nm 1 0,.own 2,.own 3,.mp 4,zA b.top1,zA b.top2,.own 5,yF b.has1,yF b.has2] 299
 |1=>jL b.a
 |2=> .own 304 2 (b.buys.map zB)
 |3=> .own 304 2 (b.sells.map zB)
 |4=> .map (atE b.at_)
 |5=> .own 3 1 (iE b.spare)
 |_=> .gone
def z5 (b:Book):AObj:= .adt Book 6 zQ b
structure MSt where
 p:Prd
 books:List Book
 wh:List (Int×Int)
def yW (l:List (Int×Int)):List (Value×List D):=l.map fun x=>(.int .i64 x.1,[.v (.int .i64 x.2)])
def xL (s:MSt):Nat→AObj
 |0=> .cells [sV s.p.code,.own 3,zA s.p.tick,zA s.p.low,zA s.p.high,zA s.p.wide,zA s.p.rule,zA s.p.top,zA s.p.least,zA s.p.part,.own 4,.own 1,.mp 2] 240
 |1=> .objs 241 Book 6 zQ s.books none
 |2=> .map (yW s.wh)
 |3=> .fro 1 (iE s.p.months)
 |4=> .fro 1 (iE s.p.settle)
 |_=> .gone
def zD (s:MSt):AObj:= .adt MSt 5 xL s
def zJp (n:Nat):Arena:=⟨List.replicate n slot0,[],n⟩
def book0:Book:=⟨zJp 250,[],[],[],0,0,[],false,false⟩
def newAC:Con:=con1 Nat (fun n=>[zA n]) (fun _=>[]) (fun n=>1≤n∧n≤4096) (fun _=> .tup [.nm 0 0,zA 0]) (fun n=>[jL (zJp n)])
def newBC:Con:=con1 Unit (fun _=>[]) (fun _=>[]) (fun _=>True) (fun _=> .nm 0 0) (fun _=>[z5 book0])
def sI (p:Prd):MSt:=⟨p,List.replicate p.count book0,[]⟩
def newSC:Con where
 ι:=Prd
 pat:=fun p=>[prdV p]
 pre:=fun _=>[]
 cnd:=fun p=>p.small
 alts:=fun p=>[{o:=Unit,res:=fun _=> .tup [.nm 0 0,zA 0],post:=fun _=>[zD (sI p)],rel:=fun _=>p.check=0},{o:=Unit,res:=fun _=> .tup [.d (.v (.pointer none)),zA p.check],post:=fun _=>[],rel:=fun _=>p.check≠0}]
def ySz (p:Prd):List SAnn:=[{ι:=Nat,slots:=fun j=>[(5,.nm 0 0),(27,zA j)],rows:=fun j=>(List.range 5).map (xL ⟨p,List.replicate j book0,[]⟩)}]
def clSlotC:Con:=con1 (List Slot) (fun _=>[.own 0]) (fun l=>[.own 362 8 (l.map zP)]) (fun l=>l.length≤1000000) (fun _=> .own 1) (fun l=>[.own 362 8 (l.map zP),.own 362 8 (l.map zP)])
def clQueueC:Con:=con1 (List dL) (fun _=>[.own 0]) (fun l=>[.own 365 4 (l.map zO)]) (fun l=>l.length≤1000000) (fun _=> .own 1) (fun l=>[.own 365 4 (l.map zO),.own 365 4 (l.map zO)])
def clRungC:Con:=con1 (List xH) (fun _=>[.own 0]) (fun l=>[.own 304 2 (l.map zB)]) (fun l=>l.length≤1000000) (fun _=> .own 1) (fun l=>[.own 304 2 (l.map zB),.own 304 2 (l.map zB)])
def clIntC:Con:=con1 (List Int) (fun _=>[.own 0]) (fun l=>[.own 3 1 (iE l)]) (fun l=>l.length≤1000000) (fun _=> .own 1) (fun l=>[.own 3 1 (iE l),.own 3 1 (iE l)])
def yBm (f:Nat):Con:=con1 (List (Value×List D)) (fun _=>[.mp 0]) (fun es=>[.map es]) (fun _=>True) (fun _=> .mp 1) (fun es=>[.map es,.map es])
def clAtC:Con:=yBm 0
def clWhC:Con:=yBm 1
@[reducible] def Arena.small (a:Arena):Prop:=a.slots.length≤1000000∧a.queues.length≤1000000
@[reducible] def Book.small (b:Book):Prop:=b.a.small∧b.buys.length≤1000000∧b.sells.length≤1000000∧b.spare.length≤1000000
@[reducible] def MSt.small (s:MSt):Prop:=s.books.length≤1000000∧∀b∈s.books,b.small
def copyAC:Con:=con1 Arena (fun _=>[.nm 0 0]) (fun a=>[jL a]) Arena.small (fun _=> .nm 1 0) (fun a=>[jL a,jL a])
def copyBC:Con:=con1 Book (fun _=>[.nm 0 0]) (fun b=>[z5 b]) Book.small (fun _=> .nm 1 0) (fun b=>[z5 b,z5 b])
def yOc:List SAnn:=[{ι:=Unit,slots:=fun _=>[],rows:=fun _=>[],un:=3}]
def copySC:Con:=con1 MSt (fun _=>[.nm 0 0]) (fun s=>[zD s]) MSt.small (fun _=> .nm 1 0) (fun s=>[zD s,zD s])
open Go Cv Go.Proofs
def yKm (n:Nat):Prop:=
 cnd (decide ((↑n:Int)<1)) (∃(a:Unit),False) (cnd (decide ((↑n:Int)>4096)) (∃(a:Unit),False) ((0≤(↑n:Int)∧(↑n:Int)≤(↑n:Int)∧(↑n:Int)≤9223372036854775807∧(↑(64:Nat):Int)*(↑n:Int)≤2 ^ (48:Nat))∧∃(a:Unit),(0:Int)=(0:Int)∧(↑n:Int)=(↑n:Int)∧List.map zP (List.replicate n slot0)=List.replicate (↑n:Int).toNat [D.v (.bool false),dI 0,dI 0,dI 0,D.v (.bool false),dI 0,dI 0,dI 0]∧([]:List (List D))=[]∧True))
def yRe (u:Unit):Prop:=
 ∃(i:Nat),(↑i:Int)=250∧(1≤i∧i≤4096)∧∀(o:Unit),True→∃(o:Unit),(0:Int)=(0:Int)∧(0:Int)=(0:Int)∧false=false∧false=false∧AObj.adt Arena 3 zF (zJp 250)=AObj.adt Arena 3 zF (zJp i)∧([]:List (List D))=[]∧([]:List (List D))=[]∧atE []=[]∧iE []=[]∧True
def cK (a:Prd):Prop:=AObj.fro 1 (iE a.settle)=AObj.fro 1 (iE a.settle)∧AObj.fro 1 (iE a.months)=AObj.fro 1 (iE a.months)
def vR (a:Prd):=(D.v (Value.string (sb a.code)))
def zJi (a:Prd) (b:Nat) (c:Unit):Prop:=(∃(d:Unit),(0:Int)=(0:Int)∧sb a.code=sb a.code∧a.tick=a.tick∧a.low=a.low∧a.high=a.high∧a.wide=a.wide∧a.rule=a.rule∧a.top=a.top∧a.least=a.least∧a.part=a.part∧AObj.objs 241 Book 6 zQ (List.replicate a.count book0) none=AObj.objs 241 Book 6 zQ (List.replicate b book0) none∧yW []=yW []∧AObj.fro 1 (iE a.months)=AObj.fro 1 (iE a.months)∧AObj.fro 1 (iE a.settle)=AObj.fro 1 (iE a.settle)∧a.check=0)∨∃(c:Unit),False
def zQp (a:Prd):Prop:=True∧True∧(0+(iE a.months).length)*(8:Nat)≤(140737488355328:Nat)∧True∧(0+(iE a.settle).length)*(8:Nat)≤(140737488355328:Nat)∧∃(b:Prd),sb b.code=sb a.code∧iE b.months=[]++iE a.months∧b.tick=a.tick∧b.low=a.low∧b.high=a.high∧b.wide=a.wide∧b.rule=a.rule∧b.top=a.top∧b.least=a.least∧b.part=a.part∧iE b.settle=[]++iE a.settle∧(z7 b)∧∀(c:Unit),True→∃(d:Nat),(↑d:Int)=0∧sb a.code=sb a.code∧a.tick=a.tick∧a.low=a.low∧a.high=a.high∧a.wide=a.wide∧a.rule=a.rule∧a.top=a.top∧a.least=a.least∧a.part=a.part∧List.replicate d book0=[]∧(none:Option Nat)=none∧yW []=[]∧AObj.fro 1 (iE a.months)=AObj.fro 1 ([]++iE a.months)∧AObj.fro 1 (iE a.settle)=AObj.fro 1 ([]++iE a.settle)∧∃(e:Nat→Prop),∃(f:Nat→Nat),e d∧∀(g:Nat),e g→cnd (decide ((↑g:Int)<(↑b.count:Int))) (∃(h:Unit),True∧∀(j:Unit),True→True∧True∧∃(k:List Book),AObj.objs 241 Book 6 zQ (List.replicate g book0) none=AObj.objs 241 Book 6 zQ k none∧(k.length+1)*(8:Nat)≤(140737488355328:Nat)∧∃(l:Nat),(↑l:Int)=IntKind.i64.wrap ((↑g:Int)+1)∧sb a.code=sb a.code∧a.tick=a.tick∧a.low=a.low∧a.high=a.high∧a.wide=a.wide∧a.rule=a.rule∧a.top=a.top∧a.least=a.least∧a.part=a.part∧AObj.objs 241 Book 6 zQ (List.replicate l book0) none=AObj.objs 241 Book 6 zQ (k++[book0]) none∧yW []=yW []∧AObj.fro 1 (iE a.months)=AObj.fro 1 (iE a.months)∧AObj.fro 1 (iE a.settle)=AObj.fro 1 (iE a.settle)∧e l∧f l<f g∧AObj.fro 1 ([]++iE a.settle)=AObj.fro 1 ([]++iE a.settle)∧AObj.fro 1 ([]++iE a.months)=AObj.fro 1 ([]++iE a.months)∧Sx.AObj.cells [V.d (vR a),V.own ((0:Nat)+(1:Nat)+(1:Nat)+(1:Nat)+((0:Nat)-(0:Nat))+(1:Nat)+(1:Nat)),V.d (dI a.tick),V.d (dI a.low),V.d (dI a.high),V.d (dI a.wide),V.d (dI a.rule),V.d (dI a.top),V.d (dI a.least),V.d (dI a.part),V.own ((0:Nat)+(1:Nat)+(1:Nat)+(1:Nat)+((0:Nat)-(0:Nat))+(1:Nat)+(1:Nat)+1)] 25=Sx.AObj.cells [V.d (vR a),V.own ((0:Nat)+(1:Nat)+(1:Nat)+(1:Nat)+((0:Nat)-(0:Nat))+(1:Nat)+(1:Nat)),V.d (dI a.tick),V.d (dI a.low),V.d (dI a.high),V.d (dI a.wide),V.d (dI a.rule),V.d (dI a.top),V.d (dI a.least),V.d (dI a.part),V.own ((0:Nat)+(1:Nat)+(1:Nat)+(1:Nat)+((0:Nat)-(0:Nat))+(1:Nat)+(1:Nat)+1)] 25∧cK a) (zJi a g c)
def yKq (p:Prd):Prop:=
 ∃(a:Prd),sb a.code=sb p.code∧iE a.months=iE p.months∧a.tick=p.tick∧a.low=p.low∧a.high=p.high∧a.wide=p.wide∧a.rule=p.rule∧a.top=p.top∧a.least=p.least∧a.part=p.part∧iE a.settle=iE p.settle∧(z7 a)∧∀(b:Unit),True→cnd (a.check !=0) ((∃(c:Unit),False)∨∃(b:Unit),True∧p.check=a.check∧(p.check=0→False)) ((True∧True∧((0+(iE p.months).length)*(8:Nat)≤(140737488355328:Nat)∧True∧True∧(0+(iE p.settle).length)*(8:Nat)≤(140737488355328:Nat)∧∃(c:Prd),sb c.code=sb p.code∧iE c.months=[]++iE p.months∧c.tick=p.tick∧c.low=p.low∧c.high=p.high∧c.wide=p.wide∧c.rule=p.rule∧c.top=p.top∧c.least=p.least∧c.part=p.part∧iE c.settle=[]++iE p.settle∧(z7 c)∧∀(d:Unit),True→∃(e:Nat),(↑e:Int)=0∧sb p.code=sb p.code∧p.tick=p.tick∧p.low=p.low∧p.high=p.high∧p.wide=p.wide∧p.rule=p.rule∧p.top=p.top∧p.least=p.least∧p.part=p.part∧List.replicate e book0=[]∧(none:Option Nat)=none∧yW []=[]∧AObj.fro 1 (iE p.months)=AObj.fro 1 ([]++iE p.months)∧AObj.fro 1 (iE p.settle)=AObj.fro 1 ([]++iE p.settle)∧∃(f:Nat→Prop),∃(g:Nat→Nat),f e∧∀(h:Nat),f h→cnd (decide ((↑h:Int)<(↑c.count:Int))) (∃(j:Unit),True∧∀(k:Unit),True→True∧True∧∃(l:List Book),AObj.objs 241 Book 6 zQ (List.replicate h book0) none=AObj.objs 241 Book 6 zQ l none∧(l.length+1)*(8:Nat)≤(140737488355328:Nat)∧∃(m:Nat),(↑m:Int)=IntKind.i64.wrap ((↑h:Int)+1)∧sb p.code=sb p.code∧p.tick=p.tick∧p.low=p.low∧p.high=p.high∧p.wide=p.wide∧p.rule=p.rule∧p.top=p.top∧p.least=p.least∧p.part=p.part∧AObj.objs 241 Book 6 zQ (List.replicate m book0) none=AObj.objs 241 Book 6 zQ (l++[book0]) none∧yW []=yW []∧AObj.fro 1 (iE p.months)=AObj.fro 1 (iE p.months)∧AObj.fro 1 (iE p.settle)=AObj.fro 1 (iE p.settle)∧f m∧g m<g h∧AObj.fro 1 ([]++iE p.settle)=AObj.fro 1 ([]++iE p.settle)∧AObj.fro 1 ([]++iE p.months)=AObj.fro 1 ([]++iE p.months)∧Sx.AObj.cells [V.d (vR p),V.own ((0:Nat)+(1:Nat)+(1:Nat)+(1:Nat)+((0:Nat)-(0:Nat))+1),V.d (dI p.tick),V.d (dI p.low),V.d (dI p.high),V.d (dI p.wide),V.d (dI p.rule),V.d (dI p.top),V.d (dI p.least),V.d (dI p.part),V.own ((0:Nat)+(1:Nat)+(1:Nat)+(1:Nat)+((0:Nat)-(0:Nat))+(1:Nat)+(1:Nat)+1)] 25=Sx.AObj.cells [V.d (vR p),V.own ((0:Nat)+(1:Nat)+(1:Nat)+(1:Nat)+((0:Nat)-(0:Nat))+1),V.d (dI p.tick),V.d (dI p.low),V.d (dI p.high),V.d (dI p.wide),V.d (dI p.rule),V.d (dI p.top),V.d (dI p.least),V.d (dI p.part),V.own ((0:Nat)+(1:Nat)+(1:Nat)+(1:Nat)+((0:Nat)-(0:Nat))+(1:Nat)+(1:Nat)+1)] 25∧cK p) (zJi p h d))∧zQp p)∧True∧True∧zQp p)
def yHe (l:List Slot):Prop:=
 ∀(b:Bool),(b=true→List.map zP l=[])→cnd b (∃(o:Unit),List.map zP l=List.map zP l∧List.map zP l=[]∧True) ((0+(List.map zP l).length)*(64:Nat)≤(140737488355328:Nat)∧∃(o:Unit),List.map zP l=List.map zP l∧List.map zP l=[]++List.map zP l∧True)
def z7n (l:List dL):Prop:=
 ∀(b:Bool),(b=true→List.map zO l=[])→cnd b (∃(o:Unit),List.map zO l=List.map zO l∧List.map zO l=[]∧True) ((0+(List.map zO l).length)*(32:Nat)≤(140737488355328:Nat)∧∃(o:Unit),List.map zO l=List.map zO l∧List.map zO l=[]++List.map zO l∧True)
def yHp (l:List xH):Prop:=
 ∀(b:Bool),(b=true→List.map zB l=[])→cnd b (∃(o:Unit),List.map zB l=List.map zB l∧List.map zB l=[]∧True) ((0+(List.map zB l).length)*(16:Nat)≤(140737488355328:Nat)∧∃(o:Unit),List.map zB l=List.map zB l∧List.map zB l=[]++List.map zB l∧True)
def yOl (l:List Int):Prop:=
 ∀(b:Bool),(b=true→iE l=[])→cnd b (∃(o:Unit),iE l=iE l∧iE l=[]∧True) ((0+(iE l).length)*(8:Nat)≤(140737488355328:Nat)∧∃(o:Unit),iE l=iE l∧iE l=[]++iE l∧True)
def z9v (es:List (Value×List D)):Prop:=
 ∃(a:List (Value×List D)),a=es∧True∧∀(b:Unit),True→∃(c:Unit),es=a∧es=a∧True
theorem yLf (es:List (Value×List D)):z9v es=walk Tryz.prog ([(186,dS 295)]) 0 ([]) ([]) [] Tryz.f201 (Tryz.f201.body.getD .skip) (clAtC.pat es) (clAtC.pre es) (clAtC.alts es):=by kernel_rfl
theorem yNk (hG:GOk Tryz.prog ([(186,dS 295)])) (h:∀(es:List (Value×List D)),clAtC.cnd es→z9v es):clAtC.ok Tryz.prog 201:=c9 mixed ([(186,dS 295)]) hG 0 (fun(es:List (Value×List D))=>[]) (fun(es:List (Value×List D))=>[]) [] Tryz.func201 (by kernel_rfl) (by kernel_rfl) (by kernel_rfl) (fun _=>by kernel_rfl) (fun(es:List (Value×List D)) hc=>Eq.mp (yLf es) (h es hc))
def yAa (es:List (Value×List D)):Prop:=
 ∃(a:List (Value×List D)),a=es∧True∧∀(b:Unit),True→∃(c:Unit),es=a∧es=a∧True
theorem yLj (es:List (Value×List D)):yAa es=walk Tryz.prog ([(186,dS 168)]) 0 ([]) ([]) [] Tryz.f146 (Tryz.f146.body.getD .skip) (clWhC.pat es) (clWhC.pre es) (clWhC.alts es):=by kernel_rfl
theorem yOn (hG:GOk Tryz.prog ([(186,dS 168)])) (h:∀(es:List (Value×List D)),clWhC.cnd es→yAa es):clWhC.ok Tryz.prog 146:=c9 mixed ([(186,dS 168)]) hG 0 (fun(es:List (Value×List D))=>[]) (fun(es:List (Value×List D))=>[]) [] Tryz.func146 (by kernel_rfl) (by kernel_rfl) (by kernel_rfl) (fun _=>by kernel_rfl) (fun(es:List (Value×List D)) hc=>Eq.mp (yLj es) (h es hc))
def yNv (a:Arena):Prop:=
 ∃(i:List Slot),List.map zP i=List.map zP a.slots∧i.length≤1000000∧∀(o:Unit),True→a.free=a.free∧True∧∃(i_1:List dL),List.map zO i_1=List.map zO a.queues∧i_1.length≤1000000∧∀(o:Unit),True→a.free=a.free∧∃(o:Unit),a.free=a.free∧List.map zP a.slots=List.map zP i∧List.map zO a.queues=List.map zO i_1∧a.free=a.free∧List.map zP a.slots=List.map zP i∧List.map zO a.queues=List.map zO i_1∧True
def yLy (b:Book):Prop:=
 ∃(i:Arena),AObj.adt Arena 3 zF i=AObj.adt Arena 3 zF b.a∧(i.slots.length≤1000000∧i.queues.length≤1000000)∧∀(o:Unit),True→True∧True∧∃(i_1:List (Value×List D)),i_1=atE b.at_∧True∧∀(o:Unit),True→True∧∃(i_2:List Int),iE i_2=iE b.spare∧i_2.length≤1000000∧∀(o:Unit),True→∃(i_3:List xH),List.map zB i_3=List.map zB b.buys∧i_3.length≤1000000∧∀(o:Unit),True→∃(i_4:List xH),List.map zB i_4=List.map zB b.sells∧i_4.length≤1000000∧∀(o:Unit),True→∃(o:Unit),b.top1=b.top1∧b.top2=b.top2∧b.has1=b.has1∧b.has2=b.has2∧AObj.adt Arena 3 zF b.a=AObj.adt Arena 3 zF i∧List.map zB b.buys=List.map zB i_3∧List.map zB b.sells=List.map zB i_4∧atE b.at_=i_1∧iE b.spare=iE i_2∧b.top1=b.top1∧b.top2=b.top2∧b.has1=b.has1∧b.has2=b.has2∧AObj.adt Arena 3 zF b.a=AObj.adt Arena 3 zF i∧List.map zB b.buys=List.map zB i_3∧List.map zB b.sells=List.map zB i_4∧atE b.at_=i_1∧iE b.spare=iE i_2∧True
open Go Cv Go.Proofs
theorem yQj (n:Nat) (h:newAC.cnd n):yKm n:=by
 obtain⟨h1,h2⟩:1≤n∧n≤4096:=h
 unfold yKm dI
 refine zI (fun c=>by omega) fun c=>zI (fun c=>by omega) fun c=> ?_
 refine⟨⟨by omega,by omega,by omega,?_⟩,?_⟩
 ·have:(2:Int) ^ (48:Nat)=281474976710656:=by decide
  rw[this];omega
 ·refine⟨(),rfl,rfl,?_,rfl,trivial⟩
  rw[List.map_replicate];rfl
theorem yGx:newAC.ok Tryz.prog 189:=okw mixed gok0 0 (fun _=>[]) (fun _=>[]) [] Tryz.func189 yQj
theorem yEy:newBC.ok Tryz.prog 150:=okw (V:=yRe) mixed (gokc yGx gok0) 0 (fun _=>[]) (fun _=>[]) [] Tryz.func150 fun(u:Unit) _=>by
 refine⟨250,rfl,⟨by omega,by omega⟩,?_⟩;exact kp
theorem ySi (p:Prd) (h:newSC.cnd p):yKq p:=by
 unfold yKq zQp zJi vR cK z7 dI
 have hs:p.small:=h
 obtain⟨h1,h2,h3⟩:p.small:=h
 refine⟨p,?_⟩
 simp only[xF]
 (repeat'(first|exact rfl|exact trivial|assumption|apply And.intro|refine fun(_:Unit) (_:True)=>?_|refine Exists.intro () ?_|omega|(dsimp only;omega)))
 refine Cv.cnd.mk (fun c=> .inr ⟨(),trivial,kp,by simpa using c⟩) fun c=> ?_
 have c:p.check=0:=by simpa using c
 have hc:=x5 p
 (repeat'(first|exact rfl|exact trivial|assumption|apply And.intro|refine fun(_:Unit) (_:True)=>?_|refine Exists.intro () ?_|omega|(dsimp only;omega)))
 all_goals(refine⟨p,?_⟩;(repeat'(first|exact rfl|exact trivial|assumption|apply And.intro|refine fun(_:Unit) (_:True)=>?_|refine Exists.intro () ?_|omega|(dsimp only;omega))))
 all_goals(refine⟨0,?_⟩;(repeat'(first|exact rfl|exact trivial|assumption|apply And.intro|refine fun(_:Unit) (_:True)=>?_|refine Exists.intro () ?_|omega|(dsimp only;omega))))
 all_goals(refine⟨fun j=>j≤p.count,fun j=>p.count-j,by omega,fun j hj=>zI (fun hlt=> ?_) (fun hlt=> ?_)⟩;all_goals dsimp only at hj hlt)
 all_goals first
  |(refine .inl ⟨(),?_⟩
    obtain rfl:j=p.count:=by omega
    (repeat'(first|exact rfl|exact trivial|assumption|apply And.intro|refine fun(_:Unit) (_:True)=>?_|refine Exists.intro () ?_|omega|(dsimp only;omega))))
  |(refine⟨(),trivial,fun _ _=>⟨trivial,trivial,List.replicate j book0,rfl,?_,j+1,?_⟩⟩
    ·rw[yZm];omega
    ·rw[w64 (by omega),← List.replicate_succ']
     (repeat'(first|exact rfl|exact trivial|assumption|apply And.intro|refine fun(_:Unit) (_:True)=>?_|refine Exists.intro () ?_|omega|(dsimp only;omega))))
theorem yGz:newSC.ok Tryz.prog 103:=okw mixed (gokc sX (gokc cO (gokc yEy gok0))) 0 (fun _=>[]) (fun p=>ySz p) [] Tryz.func103 ySi
theorem z6c:clSlotC.ok Tryz.prog 232:=okw (V:=yHe) mixed gok0 0 (fun _=>[]) (fun _=>[]) [] Tryz.func232 fun(l:List Slot) h=>by
 have h:l.length≤1000000:=h
 exact fun b hb=>Cv.cnd.mk (fun e=>⟨(),rfl,hb e,trivial⟩) (fun _=>⟨by rw[yXk,yWk];omega,(),rfl,rfl,trivial⟩)
theorem zYh:clQueueC.ok Tryz.prog 233:=okw (V:=z7n) mixed gok0 0 (fun _=>[]) (fun _=>[]) [] Tryz.func233 fun(l:List dL) h=>by
 have h:l.length≤1000000:=h
 exact fun b hb=>Cv.cnd.mk (fun e=>⟨(),rfl,hb e,trivial⟩) (fun _=>⟨by rw[yXk,yWk];omega,(),rfl,rfl,trivial⟩)
theorem z6r:clRungC.ok Tryz.prog 202:=okw (V:=yHp) mixed gok0 0 (fun _=>[]) (fun _=>[]) [] Tryz.func202 fun(l:List xH) h=>by
 have h:l.length≤1000000:=h
 exact fun b hb=>Cv.cnd.mk (fun e=>⟨(),rfl,hb e,trivial⟩) (fun _=>⟨by rw[yXk,yWk];omega,(),rfl,rfl,trivial⟩)
theorem z7o:clIntC.ok Tryz.prog 88:=okw (V:=yOl) mixed gok0 0 (fun _=>[]) (fun _=>[]) [] Tryz.func88 fun(l:List Int) h=>by
 have h:l.length≤1000000:=h
 exact fun b hb=>Cv.cnd.mk (fun e=>⟨(),rfl,hb e,trivial⟩) (fun _=>⟨by rw[yXk,xF];omega,(),rfl,rfl,trivial⟩)
theorem zNz (t:Nat):(dS t).ok Tryz.prog 186:=zZl Tryz.func186 (by kernel_rfl) (by kernel_rfl) (by kernel_rfl) (by kernel_rfl) t
theorem yEo:clAtC.ok Tryz.prog 201:=yNk (gokc (zNz _) gok0) fun es _=>by
 unfold z9v
 refine⟨es,?_⟩;exact kp
theorem yFr:clWhC.ok Tryz.prog 146:=yOn (gokc (zNz _) gok0) fun es _=>by
 unfold yAa
 refine⟨es,?_⟩;exact kp
theorem yCj:copyAC.ok Tryz.prog 200:=okw (V:=yNv) mixed (gokc z6c (gokc zYh gok0)) 0 (fun _=>[]) (fun _=>[]) [0] Tryz.func200 fun(a:Arena) h=>by
 obtain⟨h1,h2⟩:a.small:=h
 refine⟨a.slots,?_⟩;(repeat'(first|exact rfl|exact trivial|assumption|apply And.intro|refine fun(_:Unit) (_:True)=>?_|refine Exists.intro () ?_|omega|(dsimp only;omega)))
 refine⟨a.queues,?_⟩;exact kp
theorem z8j:copyBC.ok Tryz.prog 162:=okw (V:=yLy) mixed (gokc yCj (gokc yEo (gokc z7o (gokc z6r gok0)))) 0 (fun _=>[]) (fun _=>yOc) [0] Tryz.func162 fun(b:Book) h=>by
 obtain⟨⟨h1,h1'⟩,h2,h3,h4⟩:b.small:=h
 refine⟨b.a,?_⟩;(repeat'(first|exact rfl|exact trivial|assumption|apply And.intro|refine fun(_:Unit) (_:True)=>?_|refine Exists.intro () ?_|omega|(dsimp only;omega)))
 refine⟨atE b.at_,?_⟩;(repeat'(first|exact rfl|exact trivial|assumption|apply And.intro|refine fun(_:Unit) (_:True)=>?_|refine Exists.intro () ?_|omega|(dsimp only;omega)))
 refine⟨b.spare,?_⟩;(repeat'(first|exact rfl|exact trivial|assumption|apply And.intro|refine fun(_:Unit) (_:True)=>?_|refine Exists.intro () ?_|omega|(dsimp only;omega)))
 refine⟨b.buys,?_⟩;(repeat'(first|exact rfl|exact trivial|assumption|apply And.intro|refine fun(_:Unit) (_:True)=>?_|refine Exists.intro () ?_|omega|(dsimp only;omega)))
 refine⟨b.sells,?_⟩;exact kp
open Go Cv Go.Proofs
structure ArN where
 a:Arena
 n:Int
def Arena.qAt (a:Arena) (n:Int):dL:=if 0≤n∧n<a.queues.length then a.queues.getD n.toNat ⟨0,0,0,0⟩else⟨0,0,0,0⟩
def atotalC:Con:=con1 ArN (fun i=>[.nm 0 0,zA i.n]) (fun i=>[jL i.a]) (fun i=>True) (fun i=>zA (i.a.qAt i.n).total) (fun i=>[jL i.a])
def acountC:Con:=con1 ArN (fun i=>[.nm 0 0,zA i.n]) (fun i=>[jL i.a]) (fun i=>True) (fun i=>zA (i.a.qAt i.n).count) (fun i=>[jL i.a])
def bisC:Con:=con1 Int (fun n=>[zA n]) (fun _=>[]) (fun _=>True) (fun n=>yF (decide (n=1)||decide (n=2))) (fun _=>[])
structure BkR where
 b:Book
 r:xH
def Book.told (b:Book) (r:xH):Lv:=⟨r.price,(b.a.qAt r.queue).total,(b.a.qAt r.queue).count⟩
@[reducible] def Book.cntOk (b:Book):Prop:=∀q∈b.a.queues,yU q.count
def toldC:Con:=con1 BkR (fun i=>[.nm 0 0,.agg [zA i.r.price,zA i.r.queue]]) (fun i=>[z5 i.b]) (fun i=>i.b.cntOk) (fun i=>lvV (i.b.told i.r)) (fun i=>[z5 i.b])
def Book.best (b:Book) (l:List xH):Lv×Bool:=match l with
 |[]=>(⟨0,0,0⟩,false)
 |r::_=>(b.told r,true)
structure BkS where
 side:Bool
 b:Book
def Book.side (b:Book) (s:Bool):List xH:=if s then b.sells else b.buys
@[reducible] def zXq (b:Book) (l:List xH):V:= .tup [lvV (b.best l).1,yF (b.best l).2]
def best1C:Con:=con1 Book (fun _=>[.nm 0 0,zA 1]) (fun b=>[z5 b]) Book.cntOk (fun b=>zXq b b.buys) (fun b=>[z5 b])
def best2C:Con:=con1 Book (fun _=>[.nm 0 0,zA 2]) (fun b=>[z5 b]) Book.cntOk (fun b=>zXq b b.sells) (fun b=>[z5 b])
def zC (s:Bool):Int:=if s then 2 else 1
def bestC:Con:=con1 BkS (fun i=>[.nm 0 0,zA (zC i.side)]) (fun i=>[z5 i.b]) (fun i=>i.b.cntOk) (fun i=>zXq i.b (i.b.side i.side)) (fun i=>[z5 i.b])
structure Top where
 has1:Bool
 has2:Bool
 p1:Int
 p2:Int
 q1:Int
 q2:Int
 deriving DecidableEq
def zX (t:Top):List D:=[.v (.bool t.has1),.v (.bool t.has2),.v (.int .i64 t.p1),.v (.int .i64 t.p2),.v (.int .i64 t.q1),.v (.int .i64 t.q2)]
def top0:Top:=⟨false,false,0,0,0,0⟩
def Top.buy (t:Top) (x:Lv×Bool):Top:=if x.2 then{t with has1:=true,p1:=x.1.price,q1:=x.1.qty}else t
def Top.sell (t:Top) (x:Lv×Bool):Top:=if x.2 then{t with has2:=true,p2:=x.1.price,q2:=x.1.qty}else t
def Book.top (b:Book):Top:=(top0.buy (b.best b.buys)).sell (b.best b.sells)
def MSt.tops (s:MSt):List Top:=s.books.map Book.top
@[reducible] def MSt.cntOk (s:MSt):Prop:=s.books.length≤1000000∧∀b∈s.books,b.cntOk
def topsC:Con:=con1 MSt (fun _=>[.nm 0 0]) (fun s=>[zD s]) MSt.cntOk (fun s=> .own 1) (fun s=>[zD s,.own 252 6 (s.tops.map zX)])
def xN (s:MSt) (j:Nat) (x:Top):List Top:=(s.tops.take j)++x::List.replicate (s.books.length-j-1) top0
def xU (s:MSt) (j:Nat):List Top:=(s.tops.take j)++List.replicate (s.books.length-j) top0
def yKe (s:MSt):List SAnn:=[
 {ι:=Nat,slots:=fun j=>[(3,.own 0),(21,zA j)],rows:=fun j=>[.own 252 6 ((xU s j).map zX)]},
 {ι:=Unit,slots:=fun _=>[],rows:=fun _=>[],un:=3}]
def yKw (s:MSt):List (Nat×SAnn):=[(15,{ι:=Nat×Top,slots:=fun x=>[(3,.own 0)],slots0:=fun x=>[(3,.own 0)],rows0:=fun x=>[.own 252 6 ((xN s x.1 x.2).map zX)],rows:=fun x=>[.own 252 6 ((xN s x.1 x.2).map zX)]})]
def yPw (s:MSt):List SAnn:=[{ι:=Nat,slots:=fun j=>[(3,.nm 0 0),(22,zA j)],rows:=fun j=>(List.range 5).map (xL ⟨s.p,s.books.take j,s.wh⟩)}]
open Go Cv Go.Proofs
def jD (a:ArN):Prop:=a.a.free=a.a.free∧List.map zP a.a.slots=List.map zP a.a.slots∧List.map zO a.a.queues=List.map zO a.a.queues∧True
def tA (a:ArN):Prop:=∃(b:Unit),(a.a.qAt a.n).total=0∧jD a
def hP (a:ArN):=(↑(List.map zO a.a.queues).length:Int)
def z2y (i:ArN):Prop:=
 cnd (decide (i.n≥0)) (cnd (!decide (i.n<(hP i))) (tA i) ((0≤i.n∧i.n<(hP i))∧∃(a:Int),zE (List.map zO i.a.queues) i.n.toNat ((0:Nat)+(2:Nat)) 1=some [dI a]∧∃(b:Unit),(i.a.qAt i.n).total=a∧jD i)) (tA i)
def sG (a:ArN):Prop:=∃(b:Unit),(a.a.qAt a.n).count=0∧jD a
def z1e (i:ArN):Prop:=
 cnd (decide (i.n≥0)) (cnd (!decide (i.n<(hP i))) (sG i) ((0≤i.n∧i.n<(hP i))∧∃(a:Int),zE (List.map zO i.a.queues) i.n.toNat ((0:Nat)+(3:Nat)) 1=some [dI a]∧∃(b:Unit),(i.a.qAt i.n).count=a∧jD i)) (sG i)
def ySq (n:Int):Prop:=
 cnd (n==1) (∃(a:Unit),(decide (n=1)||decide (n=2))=true∧True) (∃(a:Unit),(decide (n=1)||decide (n=2))=(n==2)∧True)
def yTk (i:BkR):Prop:=
 ∃(i_1:ArN),i_1.n=i.r.queue∧AObj.adt Arena 3 zF i_1.a=AObj.adt Arena 3 zF i.b.a∧True∧∀(o:Unit),True→i.r.queue=i.r.queue∧True∧i.r.price=i.r.price∧∃(i_2:ArN),i_2.n=i.r.queue∧AObj.adt Arena 3 zF i_2.a=AObj.adt Arena 3 zF i_1.a∧True∧∀(o:Unit),True→i.r.price=i.r.price∧∃(o:Unit),i.r.price=i.r.price∧(i.b.a.qAt i.r.queue).total=(i_1.a.qAt i_1.n).total∧(i.b.a.qAt i.r.queue).count=(i_2.a.qAt i_2.n).count∧i.b.top1=i.b.top1∧i.b.top2=i.b.top2∧i.b.has1=i.b.has1∧i.b.has2=i.b.has2∧AObj.adt Arena 3 zF i.b.a=AObj.adt Arena 3 zF i_2.a∧List.map zB i.b.buys=List.map zB i.b.buys∧List.map zB i.b.sells=List.map zB i.b.sells∧atE i.b.at_=atE i.b.at_∧iE i.b.spare=iE i.b.spare∧True
def yNz (b:Book):Prop:=
 ∃(i:Int),i=1∧True∧∀(o:Unit),True→cnd (!(decide (i=1)||decide (i=2))) (∃(o:Unit),(b.best b.buys).fst.price=0∧(b.best b.buys).fst.qty=0∧(b.best b.buys).fst.count=0∧(b.best b.buys).snd=false∧b.top1=b.top1∧b.top2=b.top2∧b.has1=b.has1∧b.has2=b.has2∧AObj.adt Arena 3 zF b.a=AObj.adt Arena 3 zF b.a∧List.map zB b.buys=List.map zB b.buys∧List.map zB b.sells=List.map zB b.sells∧atE b.at_=atE b.at_∧iE b.spare=iE b.spare∧True) (cnd ((↑(List.map zB b.buys).length:Int)==0) (∃(o:Unit),(b.best b.buys).fst.price=0∧(b.best b.buys).fst.qty=0∧(b.best b.buys).fst.count=0∧(b.best b.buys).snd=false∧b.top1=b.top1∧b.top2=b.top2∧b.has1=b.has1∧b.has2=b.has2∧AObj.adt Arena 3 zF b.a=AObj.adt Arena 3 zF b.a∧List.map zB b.buys=List.map zB b.buys∧List.map zB b.sells=List.map zB b.sells∧atE b.at_=atE b.at_∧iE b.spare=iE b.spare∧True) (((0:Int)≤(0:Int)∧0<(↑(List.map zB b.buys).length:Int))∧∃(n:Int),∃(n_1:Int),zE (List.map zB b.buys) (Int.toNat 0) 0 2=some [D.v (.int .i64 n),D.v (.int .i64 n_1)]∧∃(i:BkR),i.r.price=n∧i.r.queue=n_1∧i.b.top1=b.top1∧i.b.top2=b.top2∧i.b.has1=b.has1∧i.b.has2=b.has2∧AObj.adt Arena 3 zF i.b.a=AObj.adt Arena 3 zF b.a∧List.map zB i.b.buys=List.map zB b.buys∧List.map zB i.b.sells=List.map zB b.sells∧atE i.b.at_=atE b.at_∧iE i.b.spare=iE b.spare∧(∀(q:dL),q∈i.b.a.queues→(-9223372036854775808)≤q.count∧q.count≤9223372036854775807)∧∀(o:Unit),True→∃(o:Unit),(b.best b.buys).fst.price=i.r.price∧(b.best b.buys).fst.qty=(i.b.a.qAt i.r.queue).total∧(b.best b.buys).fst.count=(i.b.a.qAt i.r.queue).count∧(b.best b.buys).snd=true∧z5 b=z5 i.b∧True))
def yPc (b:Book):Prop:=
 ∃(i:Int),i=2∧True∧∀(o:Unit),True→cnd (!(decide (i=1)||decide (i=2))) (∃(o:Unit),(b.best b.sells).fst.price=0∧(b.best b.sells).fst.qty=0∧(b.best b.sells).fst.count=0∧(b.best b.sells).snd=false∧b.top1=b.top1∧b.top2=b.top2∧b.has1=b.has1∧b.has2=b.has2∧AObj.adt Arena 3 zF b.a=AObj.adt Arena 3 zF b.a∧List.map zB b.buys=List.map zB b.buys∧List.map zB b.sells=List.map zB b.sells∧atE b.at_=atE b.at_∧iE b.spare=iE b.spare∧True) (cnd ((↑(List.map zB b.sells).length:Int)==0) (∃(o:Unit),(b.best b.sells).fst.price=0∧(b.best b.sells).fst.qty=0∧(b.best b.sells).fst.count=0∧(b.best b.sells).snd=false∧b.top1=b.top1∧b.top2=b.top2∧b.has1=b.has1∧b.has2=b.has2∧AObj.adt Arena 3 zF b.a=AObj.adt Arena 3 zF b.a∧List.map zB b.buys=List.map zB b.buys∧List.map zB b.sells=List.map zB b.sells∧atE b.at_=atE b.at_∧iE b.spare=iE b.spare∧True) (((0:Int)≤(0:Int)∧0<(↑(List.map zB b.sells).length:Int))∧∃(n:Int),∃(n_1:Int),zE (List.map zB b.sells) (Int.toNat 0) 0 2=some [D.v (.int .i64 n),D.v (.int .i64 n_1)]∧∃(i:BkR),i.r.price=n∧i.r.queue=n_1∧i.b.top1=b.top1∧i.b.top2=b.top2∧i.b.has1=b.has1∧i.b.has2=b.has2∧AObj.adt Arena 3 zF i.b.a=AObj.adt Arena 3 zF b.a∧List.map zB i.b.buys=List.map zB b.buys∧List.map zB i.b.sells=List.map zB b.sells∧atE i.b.at_=atE b.at_∧iE i.b.spare=iE b.spare∧(∀(q:dL),q∈i.b.a.queues→(-9223372036854775808)≤q.count∧q.count≤9223372036854775807)∧∀(o:Unit),True→∃(o:Unit),(b.best b.sells).fst.price=i.r.price∧(b.best b.sells).fst.qty=(i.b.a.qAt i.r.queue).total∧(b.best b.sells).fst.count=(i.b.a.qAt i.r.queue).count∧(b.best b.sells).snd=true∧z5 b=z5 i.b∧True))
def zDt (a:MSt):Prop:=Sx.AObj.map (yW a.wh)=Sx.AObj.map (yW a.wh)∧AObj.fro 1 (iE a.p.months)=AObj.fro 1 (iE a.p.months)∧AObj.fro 1 (iE a.p.settle)=AObj.fro 1 (iE a.p.settle)
def zBc (a:Nat×Top→Prop) (b:Nat×Top) (c:MSt) (d:Nat) (e:Book):Prop:=a b∧AObj.own 3 1 [[dI 1],[dI 2]]=AObj.own 3 1 [[dI 1],[dI 2]]∧Sx.AObj.cells (gX (jG 0 1 5) [sV c.p.code,V.own 3,zA c.p.tick,zA c.p.low,zA c.p.high,zA c.p.wide,zA c.p.rule,zA c.p.top,zA c.p.least,zA c.p.part,V.own 4,V.own 1,V.mp 2]) (240:TypeId)=Sx.AObj.cells (gX (jG 0 1 5) [sV c.p.code,V.own 3,zA c.p.tick,zA c.p.low,zA c.p.high,zA c.p.wide,zA c.p.rule,zA c.p.top,zA c.p.least,zA c.p.part,V.own 4,V.own 1,V.mp 2]) (240:TypeId)∧AObj.objs 241 Book 6 zQ (c.books.set (↑d:Int).toNat e) none=AObj.objs 241 Book 6 zQ c.books none∧zDt c
def zIx (a:MSt) (b:Nat×Top) (c:Nat×Top→Prop) (d:Nat) (e:Book):Prop:=∃(f:Nat×Top),List.map zX (xN a f.fst f.snd)=List.map zX (xN a b.fst b.snd)∧zBc c f a d e
def vS (a:MSt) (b:Nat×Top):=(List.map zX (xN a b.fst b.snd))
def cN (a:MSt) (b:Nat×Top) (c:Nat):=(zT (vS a b) (↑c:Int).toNat ((0:Nat)+(0:Nat)+(nat_lit 0+nat_lit 1) % ((2:Int) ^ IntKind.i64.bits).natAbs*1) [D.v (.bool true)])
def zU (a:BkS):=(a.b.best (a.b.side a.side))
def fC (a:BkS):=((zU a).fst.price)
def fH (a:MSt) (b:Nat×Top) (c:Nat) (d:BkS):=(zT (cN a b c) (↑c:Int).toNat ((0:Nat)+(2:Nat)+(nat_lit 0+nat_lit 1) % ((2:Int) ^ IntKind.i64.bits).natAbs*1) [dI (fC d)])
def zCf (a:Nat) (b:MSt) (c:Nat×Top) (d:BkS):Prop:=(0≤(↑a:Int)∧(↑a:Int)<(↑(fH b c a d).length:Int))∧(↑a:Int).toNat=(↑a:Int).toNat
def cH (a:MSt) (b:Nat×Top) (c:Nat):=(zT (vS a b) (↑c:Int).toNat ((0:Nat)+(0:Nat)+nat_lit 0*1) [D.v (.bool true)])
def fK (a:MSt) (b:Nat×Top) (c:Nat) (d:BkS):=(zT (cH a b c) (↑c:Int).toNat ((0:Nat)+(2:Nat)+nat_lit 0*1) [dI (fC d)])
def eB (a:Nat) (b:MSt) (c:Nat×Top) (d:BkS):Prop:=(0≤(↑a:Int)∧(↑a:Int)<(↑(fK b c a d).length:Int))∧(↑a:Int).toNat=(↑a:Int).toNat
def cL (a:Nat) (b:MSt) (c:Nat×Top):Prop:=(0≤(↑a:Int)∧(↑a:Int)<(↑(cN b c a).length:Int))∧(↑a:Int).toNat=(↑a:Int).toNat
def cI (a:Nat) (b:MSt) (c:Nat×Top):Prop:=(0≤(↑a:Int)∧(↑a:Int)<(↑(cH b c a).length:Int))∧(↑a:Int).toNat=(↑a:Int).toNat
def eY (a:MSt):Prop:=0≤(↑a.books.length:Int)∧(↑a.books.length:Int)≤(↑a.books.length:Int)∧(↑a.books.length:Int)≤9223372036854775807∧(↑(40:Nat):Int)*(↑a.books.length:Int)≤2 ^ (48:Nat)
def cC:Prop:=0≤IntKind.i64.wrap ((0:Int)+(1:Int))∧IntKind.i64.wrap ((0:Int)+(1:Int))<(↑(2:Nat):Int)
def wU (a:BkS):Prop:=∀(b:dL),b∈a.b.a.queues→(-9223372036854775808)≤b.count∧b.count≤9223372036854775807
def qN (a:Nat) (b:MSt) (c:Nat×Top):Prop:=0≤(↑a:Int)∧(↑a:Int)<(↑(vS b c).length:Int)
def vW (a:BkS):=((zU a).fst.qty)
def yKi (s:MSt):Prop:=
 (eY s)∧∃(a:Nat),(↑a:Int)=0∧List.map zX (xU s a)=List.replicate (↑s.books.length:Int).toNat [D.v (.bool false),D.v (.bool false),dI 0,dI 0,dI 0,dI 0]∧∃(b:Nat→Prop),∃(c:Nat→Nat),b a∧∀(d:Nat),b d→cnd (decide ((↑d:Int)<(↑s.books.length:Int))) ((0≤(↑d:Int)∧(↑d:Int)<(↑s.books.length:Int))∧(↑d:Int).toNat<s.books.length∧∃(e:Nat×Top),List.map zX (xN s e.fst e.snd)=List.map zX (xU s d)∧∃(f:Nat×Top→Prop),(((0:Int)≤(0:Int)∧0<(↑(2:Nat):Int))∧∃(g:Int),zE [[dI 1],[dI 2]] (Int.toNat 0) 0 1=some [dI g]∧∃(h:Book),s.books[(↑d:Int).toNat]?=some h∧∃(j:BkS),zC j.side=g∧z5 j.b=z5 h∧(wU j)∧∀(k:Unit),True→∃(l:Book),z5 j.b=z5 l∧(↑d:Int).toNat=(↑d:Int).toNat∧(↑d:Int).toNat<s.books.length∧cnd (zU j).snd ((qN d s e)∧(qN d s e)∧(qN d s e)∧(↑d:Int).toNat<(vS s e).length∧(cI d s e)∧(cI d s e)∧(zU j).fst.qty=(zU j).fst.qty∧(zU j).fst.price=(zU j).fst.price∧(↑d:Int).toNat<(cH s e d).length∧(eB d s e j)∧(zU j).fst.qty=(zU j).fst.qty∧(↑d:Int).toNat<(fK s e d j).length∧∃(m:Nat×Top),List.map zX (xN s m.fst m.snd)=zT (fK s e d j) (↑d:Int).toNat ((0:Nat)+(4:Nat)+nat_lit 0*1) [dI (vW j)]∧zBc f m s d l) (zIx s e f d l))∧∀(g:Nat×Top),f g→∃(h:Nat×Top),List.map zX (xN s h.fst h.snd)=List.map zX (xN s g.fst g.snd)∧∃(j:Nat×Top→Prop),((cC)∧∃(k:Int),zE [[dI 1],[dI 2]] (IntKind.i64.wrap ((0:Int)+(1:Int))).toNat 0 1=some [dI k]∧∃(l:Book),s.books[(↑d:Int).toNat]?=some l∧∃(m:BkS),zC m.side=k∧z5 m.b=z5 l∧(wU m)∧∀(n:Unit),True→∃(p:Book),z5 m.b=z5 p∧(↑d:Int).toNat=(↑d:Int).toNat∧(↑d:Int).toNat<s.books.length∧cnd (zU m).snd ((qN d s h)∧(qN d s h)∧(qN d s h)∧(↑d:Int).toNat<(vS s h).length∧(cL d s h)∧(cL d s h)∧(zU m).fst.qty=(zU m).fst.qty∧(zU m).fst.price=(zU m).fst.price∧(↑d:Int).toNat<(cN s h d).length∧(zCf d s h m)∧(zU m).fst.qty=(zU m).fst.qty∧(↑d:Int).toNat<(fH s h d m).length∧∃(q:Nat×Top),List.map zX (xN s q.fst q.snd)=zT (fH s h d m) (↑d:Int).toNat ((0:Nat)+(4:Nat)+(nat_lit 0+nat_lit 1) % ((2:Int) ^ IntKind.i64.bits).natAbs*1) [dI (vW m)]∧zBc j q s d p) (zIx s h j d p))∧∀(k:Nat×Top),j k→∃(l:Nat),(↑l:Int)=IntKind.i64.wrap ((↑d:Int)+1)∧List.map zX (xU s l)=List.map zX (xN s k.fst k.snd)∧b l∧c l<c d∧Sx.AObj.cells (gX (jG 0 1 5) [sV s.p.code,V.own 3,zA s.p.tick,zA s.p.low,zA s.p.high,zA s.p.wide,zA s.p.rule,zA s.p.top,zA s.p.least,zA s.p.part,V.own 4,V.own 1,V.mp 2]) (240:TypeId)=Sx.AObj.cells (gX (jG 0 1 5) [sV s.p.code,V.own 3,zA s.p.tick,zA s.p.low,zA s.p.high,zA s.p.wide,zA s.p.rule,zA s.p.top,zA s.p.least,zA s.p.part,V.own 4,V.own 1,V.mp 2]) (240:TypeId)∧AObj.objs 241 Book 6 zQ s.books none=AObj.objs 241 Book 6 zQ s.books none∧zDt s) (∃(e:Unit),sb s.p.code=sb s.p.code∧s.p.tick=s.p.tick∧s.p.low=s.p.low∧s.p.high=s.p.high∧s.p.wide=s.p.wide∧s.p.rule=s.p.rule∧s.p.top=s.p.top∧s.p.least=s.p.least∧s.p.part=s.p.part∧AObj.objs 241 Book 6 zQ s.books none=AObj.objs 241 Book 6 zQ s.books none∧yW s.wh=yW s.wh∧AObj.fro 1 (iE s.p.months)=AObj.fro 1 (iE s.p.months)∧AObj.fro 1 (iE s.p.settle)=AObj.fro 1 (iE s.p.settle)∧List.map zX s.tops=List.map zX (xU s d)∧True)
def yLi (s:MSt):Prop:=
 ∃(i:List (Value×List D)),i=yW s.wh∧True∧∀(o:Unit),True→(sb s.p.code=sb s.p.code∧True∧s.p.tick=s.p.tick∧s.p.low=s.p.low∧s.p.high=s.p.high∧s.p.wide=s.p.wide∧s.p.rule=s.p.rule∧s.p.top=s.p.top∧s.p.least=s.p.least∧s.p.part=s.p.part∧True∧True)∧∃(i0:Nat),(↑i0:Int)=0∧sb s.p.code=sb s.p.code∧s.p.tick=s.p.tick∧s.p.low=s.p.low∧s.p.high=s.p.high∧s.p.wide=s.p.wide∧s.p.rule=s.p.rule∧s.p.top=s.p.top∧s.p.least=s.p.least∧s.p.part=s.p.part∧List.take i0 s.books=[]∧(none:Option Nat)=none∧yW s.wh=i∧AObj.fro 1 (iE s.p.months)=AObj.fro 1 (iE s.p.months)∧AObj.fro 1 (iE s.p.settle)=AObj.fro 1 (iE s.p.settle)∧∃(I:Nat→Prop),∃(μ:Nat→Nat),I i0∧∀(i_1:Nat),I i_1→cnd (decide ((↑i_1:Int)<(↑s.books.length:Int))) ((0≤(↑i_1:Int)∧(↑i_1:Int)<(↑s.books.length:Int))∧(↑i_1:Int).toNat<s.books.length∧∃(x:Book),s.books[(↑i_1:Int).toNat]?=some x∧∃(i_2:Book),z5 i_2=z5 x∧((i_2.a.slots.length≤1000000∧i_2.a.queues.length≤1000000)∧i_2.buys.length≤1000000∧i_2.sells.length≤1000000∧i_2.spare.length≤1000000)∧∀(o:Unit),True→∃(x:Book),z5 i_2=z5 x∧(↑i_1:Int).toNat=(↑i_1:Int).toNat∧(↑i_1:Int).toNat<s.books.length∧True∧True∧∃(l1':List Book),AObj.objs 241 Book 6 zQ (List.take i_1 s.books) none=AObj.objs 241 Book 6 zQ l1' none∧(l1'.length+1)*(8:Nat)≤(140737488355328:Nat)∧∃(i':Nat),(↑i':Int)=IntKind.i64.wrap ((↑i_1:Int)+1)∧sb s.p.code=sb s.p.code∧s.p.tick=s.p.tick∧s.p.low=s.p.low∧s.p.high=s.p.high∧s.p.wide=s.p.wide∧s.p.rule=s.p.rule∧s.p.top=s.p.top∧s.p.least=s.p.least∧s.p.part=s.p.part∧AObj.objs 241 Book 6 zQ (List.take i' s.books) none=AObj.objs 241 Book 6 zQ (l1'++[i_2]) none∧yW s.wh=yW s.wh∧AObj.fro 1 (iE s.p.months)=AObj.fro 1 (iE s.p.months)∧AObj.fro 1 (iE s.p.settle)=AObj.fro 1 (iE s.p.settle)∧I i'∧μ i'<μ i_1∧Sx.AObj.map i=Sx.AObj.map i∧Sx.AObj.cells (gX (jG 0 1 5) [sV s.p.code,V.own 3,zA s.p.tick,zA s.p.low,zA s.p.high,zA s.p.wide,zA s.p.rule,zA s.p.top,zA s.p.least,zA s.p.part,V.own 4,V.own 1,V.mp 2]) (240:TypeId)=Sx.AObj.cells (gX (jG 0 1 5) [sV s.p.code,V.own 3,zA s.p.tick,zA s.p.low,zA s.p.high,zA s.p.wide,zA s.p.rule,zA s.p.top,zA s.p.least,zA s.p.part,V.own 4,V.own 1,V.mp 2]) (240:TypeId)∧AObj.objs 241 Book 6 zQ (s.books.set (↑i_1:Int).toNat x) none=AObj.objs 241 Book 6 zQ s.books none∧AObj.fro 1 (iE s.p.months)=AObj.fro 1 (iE s.p.months)∧AObj.fro 1 (iE s.p.settle)=AObj.fro 1 (iE s.p.settle)) (∃(o:Unit),sb s.p.code=sb s.p.code∧s.p.tick=s.p.tick∧s.p.low=s.p.low∧s.p.high=s.p.high∧s.p.wide=s.p.wide∧s.p.rule=s.p.rule∧s.p.top=s.p.top∧s.p.least=s.p.least∧s.p.part=s.p.part∧AObj.objs 241 Book 6 zQ s.books none=AObj.objs 241 Book 6 zQ s.books none∧yW s.wh=i∧AObj.fro 1 (iE s.p.months)=AObj.fro 1 (iE s.p.months)∧AObj.fro 1 (iE s.p.settle)=AObj.fro 1 (iE s.p.settle)∧sb s.p.code=sb s.p.code∧s.p.tick=s.p.tick∧s.p.low=s.p.low∧s.p.high=s.p.high∧s.p.wide=s.p.wide∧s.p.rule=s.p.rule∧s.p.top=s.p.top∧s.p.least=s.p.least∧s.p.part=s.p.part∧AObj.objs 241 Book 6 zQ s.books none=AObj.objs 241 Book 6 zQ (List.take i_1 s.books) none∧yW s.wh=yW s.wh∧AObj.fro 1 (iE s.p.months)=AObj.fro 1 (iE s.p.months)∧AObj.fro 1 (iE s.p.settle)=AObj.fro 1 (iE s.p.settle)∧True)
open Go Cv Go.Proofs
theorem elA {α:Type} {f:α→List D} {l:List α} {i g n:Nat} {x:α} {r:List D} (h:l[i]? =some x) (hn:g+n≤(f x).length) (hr:((f x).drop g).take n=r):zE (l.map f) i g n=some r:=by
 unfold zE
 rw[yXr,h]
 simp only[yYk,Nat.ble_eq_true_of_le hn,cond_true,hr]
theorem zSa {a:Arena} {n:Int} {q:dL} (h0:0≤n) (h:a.queues[n.toNat]? =some q):a.qAt n=q:=by
 have:=(yWn.1 h).1
 rw[Arena.qAt,yWl ⟨h0,by omega⟩,yWs,h];rfl
theorem zHg {a:Arena} {n:Int} (h:¬(0≤n∧n<a.queues.length)):a.qAt n=⟨0,0,0,0⟩:=by rw[Arena.qAt,yWj h]
theorem zFn:atotalC.ok Tryz.prog 228:=okw (V:=z2y) mixed gok0 1 (fun _=>[]) (fun _=>[]) [0] Tryz.func228 fun(i:ArN) _=>by
 unfold z2y hP tA jD dI
 simp only[yWk]
 refine zI (fun c=>Cv.cnd.mk (fun d=> ?_) (fun d=> ?_)) (fun c=> ?_)
 ·have d:¬i.n<(i.a.queues.length:Int):=by simpa using d
  rw[zHg (by omega)];exact kp
 ·have d:i.n<(i.a.queues.length:Int):=by simpa using d
  obtain⟨q,hq⟩:=yD (l:=i.a.queues) (i:=i.n.toNat) (by omega)
  rw[zSa (by omega) hq]
  refine⟨⟨by omega,by omega⟩,q.total,elA hq (by simp[zO]) rfl,?_⟩;exact kp
 ·rw[zHg (by omega)];exact kp
theorem mD:acountC.ok Tryz.prog 229:=okw (V:=z1e) mixed gok0 1 (fun _=>[]) (fun _=>[]) [0] Tryz.func229 fun(i:ArN) _=>by
 unfold z1e hP sG jD dI
 simp only[yWk]
 refine zI (fun c=>Cv.cnd.mk (fun d=> ?_) (fun d=> ?_)) (fun c=> ?_)
 ·have d:¬i.n<(i.a.queues.length:Int):=by simpa using d
  rw[zHg (by omega)];exact kp
 ·have d:i.n<(i.a.queues.length:Int):=by simpa using d
  obtain⟨q,hq⟩:=yD (l:=i.a.queues) (i:=i.n.toNat) (by omega)
  rw[zSa (by omega) hq]
  refine⟨⟨by omega,by omega⟩,q.count,elA hq (by simp[zO]) rfl,?_⟩;exact kp
 ·rw[zHg (by omega)];exact kp
theorem rQ:bisC.ok Tryz.prog 193:=okw (V:=ySq) mixed gok0 0 (fun _=>[]) (fun _=>[]) [] Tryz.func193 fun(n:Int) _=>by
 unfold ySq
 refine Cv.cnd.mk (fun c=>⟨(),?_,trivial⟩) (fun c=>⟨(),?_,trivial⟩)
 all_goals simp at c
 ·simp[c]
 ·by_cases h:n=2<;>simp[c,h]
theorem z2j:toldC.ok Tryz.prog 194:=okw (V:=yTk) mixed (gokc zFn (gokc mD gok0)) 0 (fun _=>[]) (fun _=>[]) [0] Tryz.func194 fun(i:BkR) h=>by
 refine⟨⟨i.b.a,i.r.queue⟩,?_⟩;(repeat'(first|exact rfl|exact trivial|assumption|apply And.intro|refine fun(_:Unit) (_:True)=>?_|refine Exists.intro () ?_|omega|(dsimp only;omega)))
 refine⟨⟨i.b.a,i.r.queue⟩,?_⟩;exact kp
theorem z7m:best1C.ok Tryz.prog 156:=okw (V:=yNz) mixed (gokc rQ (gokc z2j gok0)) 0 (fun _=>[]) (fun _=>[]) [0] Tryz.func156 fun(b:Book) h=>by
 have h:b.cntOk:=h
 refine⟨1,rfl,trivial,fun _ _=>Cv.cnd.mk (fun c=>absurd c (by decide)) fun _=> ?_⟩
 simp only[yWk]
 refine Cv.cnd.mk (fun c=> ?_) (fun c=> ?_)
 ·have hl:b.buys=[]:=yXn (by have:(b.buys.length:Int)=0:=(by simpa using c);omega)
  have e:b.best b.buys=(⟨0,0,0⟩,false):=by rw[hl];rfl
  rw[e];exact kp
 ·obtain⟨r,l,hl⟩:∃r l,b.buys=r::l:=by
   cases hb:b.buys with
   |nil=>rw[hb]at c;exact absurd c (by decide)
   |cons r l=>exact⟨r,l,rfl⟩
  have e:b.best b.buys=(b.told r,true):=by rw[hl];rfl
  rw[e]
  refine⟨⟨by omega,by rw[hl,yWr];omega⟩,r.price,r.queue,elA (x:=r) (by rw[hl];rfl) (by simp[zB]) rfl,⟨b,r⟩,?_⟩
  exact kp
theorem yBw:best2C.ok Tryz.prog 156:=okw (V:=yPc) mixed (gokc rQ (gokc z2j gok0)) 0 (fun _=>[]) (fun _=>[]) [0] Tryz.func156 fun(b:Book) h=>by
 have h:b.cntOk:=h
 refine⟨2,rfl,trivial,fun _ _=>Cv.cnd.mk (fun c=>absurd c (by decide)) fun _=> ?_⟩
 simp only[yWk]
 refine Cv.cnd.mk (fun c=> ?_) (fun c=> ?_)
 ·have hl:b.sells=[]:=yXn (by have:(b.sells.length:Int)=0:=(by simpa using c);omega)
  have e:b.best b.sells=(⟨0,0,0⟩,false):=by rw[hl];rfl
  rw[e];exact kp
 ·obtain⟨r,l,hl⟩:∃r l,b.sells=r::l:=by
   cases hb:b.sells with
   |nil=>rw[hb]at c;exact absurd c (by decide)
   |cons r l=>exact⟨r,l,rfl⟩
  have e:b.best b.sells=(b.told r,true):=by rw[hl];rfl
  rw[e]
  refine⟨⟨by omega,by rw[hl,yWr];omega⟩,r.price,r.queue,elA (x:=r) (by rw[hl];rfl) (by simp[zB]) rfl,⟨b,r⟩,?_⟩
  exact kp
theorem zHc:bestC.ok Tryz.prog 156:=fun i=>match i with
 |⟨false,b⟩=>z7m b
 |⟨true,b⟩=>yBw b
theorem zIr {α:Type} (f:α→α) (x:α) (b:List α):∀a:List α,(a++x::b).modify a.length f=a++f x::b
 |[]=>rfl
 |y::a=>by
  show y::(a++x::b).modify a.length f=_
  rw[zIr f x b a];rfl
theorem zPl {els:List (List D)} {a b:List (List D)} {x y ds:List D} {j f:Nat} (h:els=a++x::b) (hl:a.length=j) (hy:x.take f++(ds++x.drop (f+ds.length))=y):zT els j f ds=a++y::b:=by
 rw[zT,h,← hl,zIr,hy]
theorem qR {s:MSt} {j:Nat} {x y:Top} {f:Nat} {ds:List D} (hj:j<s.books.length) (hy:(zX x).take f++(ds++(zX x).drop (f+ds.length))=zX y):
 zT (List.map zX (xN s j x)) j f ds=List.map zX (xN s j y):=by
 rw[zPl (a:=(s.tops.take j).map zX) (b:=(List.replicate (s.books.length-j-1) top0).map zX) (by rw[xN,yWv,yWz]) (by
  rw[yWk,yXd,MSt.tops,yWk];omega) hy,xN,yWv,yWz]
theorem zLi {s:MSt} {j:Nat} {x:Top} (hj:j<s.books.length):(xN s j x).length=s.books.length:=by
 rw[xN,yWi,yWr,yXd,MSt.tops,yWk,yZm];omega
theorem zFt {s:MSt} {j:Nat} (hj:j<s.books.length):xN s j top0=xU s j:=by
 rw[xN,xU]
 obtain⟨m,hm⟩:∃m,s.books.length-j=m+1:=⟨s.books.length-j-1,by omega⟩
 rw[hm,y0s];rfl
theorem zGg {s:MSt} {j:Nat} {b:Book} (hb:s.books[j]? =some b):xN s j b.top=xU s (j+1):=by
 have hj:=(yWn.1 hb).1
 rw[xN,xU,yXt,show s.tops[j]? =some b.top by rw[MSt.tops,yXr,hb];rfl]
 simp only[y0c,yWo,yYd,yZa]
 rw[show s.books.length-j-1=s.books.length-(j+1)by omega]
theorem gM {α:Type} {l:List α} {j:Nat} {x:α} (h:l[j]? =some x):l.set j x=l:=by
 obtain⟨hj,rfl⟩:=yWn.1 h
 exact List.set_getElem_self hj
theorem ySp (s:MSt) (h:topsC.cnd s):yKi s:=by
 obtain⟨h1,h2⟩:s.cntOk:=h
 unfold yKi zCf zIx zBc vW qN wU cC zDt eY cI cL eB fK cH fH fC zU cN vS dI
 have p48:(2:Int) ^ (48:Nat)=281474976710656:=by decide
 refine⟨⟨by omega,by omega,by omega,by rw[p48];omega⟩,0,rfl,?_,fun j=>j≤s.books.length,fun j=>s.books.length-j,by omega,fun j hj=>zI (fun hlt=> ?_) (fun hlt=> ?_)⟩
 ·rw[xU,yWv,List.map_replicate];rfl
 ·have hj':j<s.books.length:=by omega
  obtain⟨b,hb⟩:=yD hj'
  have hc:=h2 b (yWt hb)
  simp only[yXa]
  have ha:∀x,(List.map zX (xN s j x)).length=s.books.length:=fun x=>by rw[yWk,zLi hj']
  have w1:IntKind.i64.wrap (0+1)=1:=by decide
  have w2:(0+1) % ((2:Int) ^ IntKind.i64.bits).natAbs=1:=by decide
  refine⟨⟨by omega,by omega⟩,by omega,(j,top0),by rw[zFt hj'],fun x=>x=(j,top0.buy (b.best b.buys)),⟨⟨by decide,by decide⟩,1,rfl,b,hb,⟨false,b⟩,rfl,rfl,hc,fun _ _=>⟨b,rfl,kp,by omega,?_⟩⟩,?_⟩
  ·refine Cv.cnd.mk (fun c=> ?_) (fun c=> ?_)
   ·have c:(b.best b.buys).2=true:=c
    have e1:=qR (s:=s) hj' (x:=top0) (y:={top0 with has1:=true}) (f:=0+0+0*1) (ds:=[D.v (.bool true)]) rfl
    have e2:=qR (s:=s) hj' (x:={top0 with has1:=true}) (y:={top0 with has1:=true,p1:=(b.best b.buys).1.price}) (f:=0+2+0*1) (ds:=[D.v (.int .i64 (b.best b.buys).1.price)]) rfl
    have e3:=qR (s:=s) hj' (x:={top0 with has1:=true,p1:=(b.best b.buys).1.price}) (y:={top0 with has1:=true,p1:=(b.best b.buys).1.price,q1:=(b.best b.buys).1.qty}) (f:=0+4+0*1) (ds:=[D.v (.int .i64 (b.best b.buys).1.qty)]) rfl
    dsimp only
    simp only[show b.side false=b.buys from rfl,e1,e2,e3,ha]
    (repeat'(first|exact rfl|exact trivial|assumption|apply And.intro|refine fun(_:Unit) (_:True)=>?_|refine Exists.intro () ?_|omega|(dsimp only;omega)))
    refine⟨(j,{top0 with has1:=true,p1:=(b.best b.buys).1.price,q1:=(b.best b.buys).1.qty}),rfl,?_,?_⟩
    ·rw[Top.buy,yWl c]
    ·(repeat'(first|exact rfl|exact trivial|assumption|apply And.intro|refine fun(_:Unit) (_:True)=>?_|refine Exists.intro () ?_|omega|(dsimp only;omega)))
     rw[gM hb]
   ·have c:(b.best b.buys).2=false:=c
    refine⟨(j,top0),rfl,?_,?_⟩
    ·rw[Top.buy,yWj (by rw[c];simp)]
    ·(repeat'(first|exact rfl|exact trivial|assumption|apply And.intro|refine fun(_:Unit) (_:True)=>?_|refine Exists.intro () ?_|omega|(dsimp only;omega)))
     rw[gM hb]
  ·rintro _ rfl
   rw[w1]
   generalize hx:top0.buy (b.best b.buys)=x
   have hx2:b.top=x.sell (b.best b.sells):=by rw[Book.top,hx]
   refine⟨(j,x),rfl,fun y=>y=(j,b.top),⟨⟨by decide,by decide⟩,2,rfl,b,hb,⟨true,b⟩,rfl,rfl,hc,fun _ _=>⟨b,rfl,kp,by omega,?_⟩⟩,?_⟩
   ·refine Cv.cnd.mk (fun c=> ?_) (fun c=> ?_)
    ·have c:(b.best b.sells).2=true:=c
     have e1:=qR (s:=s) hj' (x:=x) (y:={x with has2:=true}) (f:=0+0+1*1) (ds:=[D.v (.bool true)]) rfl
     have e2:=qR (s:=s) hj' (x:={x with has2:=true}) (y:={x with has2:=true,p2:=(b.best b.sells).1.price}) (f:=0+2+1*1) (ds:=[D.v (.int .i64 (b.best b.sells).1.price)]) rfl
     have e3:=qR (s:=s) hj' (x:={x with has2:=true,p2:=(b.best b.sells).1.price}) (y:={x with has2:=true,p2:=(b.best b.sells).1.price,q2:=(b.best b.sells).1.qty}) (f:=0+4+1*1) (ds:=[D.v (.int .i64 (b.best b.sells).1.qty)]) rfl
     dsimp only
     simp only[w2,show b.side true=b.sells from rfl,e1,e2,e3,ha]
     (repeat'(first|exact rfl|exact trivial|assumption|apply And.intro|refine fun(_:Unit) (_:True)=>?_|refine Exists.intro () ?_|omega|(dsimp only;omega)))
     refine⟨(j,{x with has2:=true,p2:=(b.best b.sells).1.price,q2:=(b.best b.sells).1.qty}),rfl,?_,?_⟩
     ·rw[hx2,Top.sell,yWl c]
     ·(repeat'(first|exact rfl|exact trivial|assumption|apply And.intro|refine fun(_:Unit) (_:True)=>?_|refine Exists.intro () ?_|omega|(dsimp only;omega)))
      rw[gM hb]
    ·have c:(b.best b.sells).2=false:=c
     refine⟨(j,x),rfl,?_,?_⟩
     ·rw[hx2,Top.sell,yWj (by rw[c];simp)]
     ·(repeat'(first|exact rfl|exact trivial|assumption|apply And.intro|refine fun(_:Unit) (_:True)=>?_|refine Exists.intro () ?_|omega|(dsimp only;omega)))
      rw[gM hb]
   ·rintro _ rfl
    refine⟨j+1,by rw[w64 (by omega)];rfl,?_⟩
    refine⟨by dsimp only;rw[zGg hb],?_⟩
    exact kp
 ·have hj:j≤s.books.length:=hj
  obtain rfl:j=s.books.length:=by omega
  have e:xU s s.books.length=s.tops:=by
   rw[xU,y2f,List.replicate_zero,yXi,yWu (by rw[MSt.tops,yWk];omega)]
  rw[e]
  exact kp
theorem yEk:topsC.ok Tryz.prog 105:=okw mixed (gokc zHc gok0) 0 (fun s=>yKw s) (fun s=>yKe s) [0] Tryz.func105 ySp
theorem zCz:copySC.ok Tryz.prog 110:=okw (V:=yLi) mixed (gokc yFr (gokc z8j gok0)) 0 (fun _=>[]) (fun s=>yPw s) [0] Tryz.func110 fun(s:MSt) h=>by
 obtain⟨h1,h2⟩:s.small:=h
 refine⟨yW s.wh,?_⟩;(repeat'(first|exact rfl|exact trivial|assumption|apply And.intro|refine fun(_:Unit) (_:True)=>?_|refine Exists.intro () ?_|omega|(dsimp only;omega)))
 refine⟨0,?_⟩;(repeat'(first|exact rfl|exact trivial|assumption|apply And.intro|refine fun(_:Unit) (_:True)=>?_|refine Exists.intro () ?_|omega|(dsimp only;omega)))
 refine⟨fun j=>j≤s.books.length,fun j=>s.books.length-j,by omega,fun j hj=>zI (fun hlt=> ?_) (fun hlt=> ?_)⟩
 ·obtain⟨b,hb⟩:=yD (l:=s.books) (i:=j) (by omega)
  have hs:=h2 b (yWt hb)
  simp only[yXa]
  refine⟨⟨by omega,by omega⟩,by omega,b,hb,b,rfl,hs,fun _ _=>⟨b,rfl,kp,by omega,trivial,trivial,s.books.take j,rfl,?_,j+1,?_⟩⟩
  ·rw[yXd];omega
  ·rw[w64 (by omega),yXt,hb]
   (repeat'(first|exact rfl|exact trivial|assumption|apply And.intro|refine fun(_:Unit) (_:True)=>?_|refine Exists.intro () ?_|omega|(dsimp only;omega)))
   rw[gM hb]
 ·have hj:j≤s.books.length:=hj
  obtain rfl:j=s.books.length:=by omega
  rw[yWu (yXl _)]
  exact kp
open Go Cv Go.Proofs
structure Leg where
 inst:Int
 side:Int
 deriving DecidableEq
structure Quote where
 price:Int
 qty:Int
 a:Leg
 b:Leg
 deriving DecidableEq
def zJ (q:Quote):List D:=[.v (.int .i64 q.price),.v (.int .i64 q.qty),.v (.int .i64 q.a.inst),.v (.int .i64 q.a.side),.v (.int .i64 q.b.inst),.v (.int .i64 q.b.side)]
@[reducible] def zPy (q:Quote):V:= .agg [zA q.price,zA q.qty,zA q.a.inst,zA q.a.side,zA q.b.inst,zA q.b.side]
def yOz:Quote:=⟨0,0,⟨0,0⟩,⟨0,0⟩⟩
structure I3' where
 side:Int
 x:Int
 y:Int
def btr (side x y:Int):Bool:=if side=1 then decide (y<x)else decide (x<y)
def iotherC:Con:=con1 Int (fun n=>[zA n]) (fun _=>[]) (fun n=>n=1∨n=2) (fun n=>zA (3-n)) (fun _=>[])
def ibetterC:Con:=con1 I3' (fun i=>[zA i.side,zA i.x,zA i.y]) (fun _=>[]) (fun _=>True) (fun i=>yF (btr i.side i.x i.y)) (fun _=>[])
def Top.has (t:Top) (s:Int):Bool:=if s=1 then t.has1 else t.has2
def Top.price (t:Top) (s:Int):Int:=if s=1 then t.p1 else t.p2
def Top.qty (t:Top) (s:Int):Int:=if s=1 then t.q1 else t.q2
def mkq (tops:List Top) (a b:Leg) (less:Bool):List Quote:=
 let x:=tops.getD a.inst.toNat top0
 let y:=tops.getD b.inst.toNat top0
 let r:=if less then uJ (y.price b.side) (x.price a.side)else uL (x.price a.side) (y.price b.side)
 if x.has a.side && y.has b.side && r.2 then[⟨r.1,min (x.qty a.side) (y.qty b.side),a,b⟩]else[]
structure MkI where
 tops:List Top
 out:List Quote
 a:Int
 b:Int
 less:Bool
@[reducible] def wY (l:List Top):Prop:=l.length≤1000000∧∀t∈l,yU t.p1∧yU t.p2
def MkU (x:List Top×List Quote):Nat→AObj
 |0=> .cells [.own 1,.own 2] 307
 |1=> .fro 6 (x.1.map zX)
 |2=> .own 259 6 (x.2.map zJ)
 |_=> .gone
@[reducible] def MkR (tops:List Top) (out:List Quote):List AObj:=[MkU (tops,out) 0,MkU (tops,out) 1,MkU (tops,out) 2]
@[reducible] def MkP (tops:List Top) (out:List Quote):List AObj:=[.cells [.own 1,.own 3] 307,MkU (tops,out) 1,.gone,MkU (tops,out) 2]
def mkC (sa sb:Int):Con:=con1 MkI (fun i=>[.nm 0 0,.agg [zA i.a,zA sa],.agg [zA i.b,zA sb],yF i.less]) (fun i=>MkR i.tops i.out)
 (fun i=>0≤i.a∧i.a<i.tops.length∧0≤i.b∧i.b<i.tops.length∧wY i.tops∧i.out.length≤1000) (fun _=>zBo) (fun i=>MkP i.tops (i.out++mkq i.tops ⟨i.a,sa⟩ ⟨i.b,sb⟩ i.less))
def mk11:Con:=mkC 1 1
def mk12:Con:=mkC 1 2
def mk21:Con:=mkC 2 1
def mk22:Con:=mkC 2 2
open Go Cv Go.Proofs
def yHx (n:Int):Prop:=
 ∃(o:Unit),3-n=IntKind.i64.wrap (3-n)∧True
def yCw (i:I3'):Prop:=
 cnd (i.side==1) (∃(o:Unit),btr i.side i.x i.y=decide (i.x>i.y)∧True) (∃(o:Unit),btr i.side i.x i.y=decide (i.x<i.y)∧True)
def eX (a:MkI):=(a.out++mkq a.tops (Leg.mk a.a 1) (Leg.mk a.b 1) a.less)
def aZ (a:MkI):Prop:=∃(b:Unit),AObj.fro 6 (List.map zX a.tops)=MkU (a.tops,a.out) 1∧List.map zJ (eX a)=List.map zJ a.out∧True
def kY (a:I2):Prop:=((-9223372036854775808)≤a.x∧a.x≤9223372036854775807)∧(-9223372036854775808)≤a.y∧a.y≤9223372036854775807
def qO (a:MkI):=(↑(List.map zX a.tops).length:Int)
def x0 (a:MkI):Prop:=(0≤a.b∧a.b<(qO a))∧a.b.toNat=a.b.toNat
def kV (a:MkI):Prop:=(0≤a.a∧a.a<(qO a))∧a.a.toNat=a.a.toNat
def kX (a:MkI):=((List.map zJ a.out).length+1)
def zLb (a:MkI) (b:Bool) (c:Bool) (d:Int) (e:Int) (f:Int) (g:Int):Prop:=True∧(x0 a)∧a.b=a.b∧True∧True∧(kV a)∧a.a=a.a∧True∧True∧(x0 a)∧a.b=a.b∧True∧True∧(kV a)∧a.a=a.a∧True∧True∧(x0 a)∧a.b=a.b∧True∧cnd (!b) (aZ a) (cnd (!c) (aZ a) (∃(h:I2),h.x=d∧h.y=e∧(kY h)∧∀(j:Unit),True→cnd a.less (∃(k:I2),k.x=e∧k.y=d∧(kY k)∧∀(l:Unit),True→cnd (uJ k.x k.y).snd (True∧(kX a)*(48:Nat)≤(140737488355328:Nat)∧∃(m:Unit),AObj.fro 6 (List.map zX a.tops)=MkU (a.tops,a.out) 1∧List.map zJ (eX a)=List.map zJ a.out++[[dI ((uJ k.x k.y).fst),dI (min f g),dI a.a,dI 1,dI a.b,dI 1]]∧True) (aZ a)) (cnd (uL h.x h.y).snd (True∧(kX a)*(48:Nat)≤(140737488355328:Nat)∧∃(k:Unit),AObj.fro 6 (List.map zX a.tops)=MkU (a.tops,a.out) 1∧List.map zJ (eX a)=List.map zJ a.out++[[dI ((uL h.x h.y).fst),dI (min f g),dI a.a,dI 1,dI a.b,dI 1]]∧True) (aZ a))))
def yKk (i:MkI):Prop:=
 (0≤i.a∧i.a<(qO i))∧∃(a:Bool),∃(b:Bool),∃(c:Int),∃(d:Int),∃(e:Int),∃(f:Int),zE (List.map zX i.tops) i.a.toNat 0 6=some [D.v (.bool a),D.v (.bool b),dI c,dI d,dI e,dI f]∧(0≤i.b∧i.b<(qO i))∧∃(g:Bool),∃(h:Bool),∃(j:Int),∃(k:Int),∃(l:Int),∃(m:Int),zE (List.map zX i.tops) i.b.toNat 0 6=some [D.v (.bool g),D.v (.bool h),dI j,dI k,dI l,dI m]∧(zLb i a g c j e l)∧zLb i a g c j e l
def tV (a:MkI):=(a.out++mkq a.tops (Leg.mk a.a 1) (Leg.mk a.b 2) a.less)
def aU (a:MkI):Prop:=∃(b:Unit),AObj.fro 6 (List.map zX a.tops)=MkU (a.tops,a.out) 1∧List.map zJ (tV a)=List.map zJ a.out∧True
def zIn (a:MkI) (b:Bool) (c:Bool) (d:Int) (e:Int) (f:Int) (g:Int):Prop:=True∧(x0 a)∧a.b=a.b∧True∧True∧(kV a)∧a.a=a.a∧True∧True∧(x0 a)∧a.b=a.b∧True∧True∧(kV a)∧a.a=a.a∧True∧True∧(x0 a)∧a.b=a.b∧True∧cnd (!b) (aU a) (cnd (!c) (aU a) (∃(h:I2),h.x=d∧h.y=e∧(kY h)∧∀(j:Unit),True→cnd a.less (∃(k:I2),k.x=e∧k.y=d∧(kY k)∧∀(l:Unit),True→cnd (uJ k.x k.y).snd (True∧(kX a)*(48:Nat)≤(140737488355328:Nat)∧∃(m:Unit),AObj.fro 6 (List.map zX a.tops)=MkU (a.tops,a.out) 1∧List.map zJ (tV a)=List.map zJ a.out++[[dI ((uJ k.x k.y).fst),dI (min f g),dI a.a,dI 1,dI a.b,dI 2]]∧True) (aU a)) (cnd (uL h.x h.y).snd (True∧(kX a)*(48:Nat)≤(140737488355328:Nat)∧∃(k:Unit),AObj.fro 6 (List.map zX a.tops)=MkU (a.tops,a.out) 1∧List.map zJ (tV a)=List.map zJ a.out++[[dI ((uL h.x h.y).fst),dI (min f g),dI a.a,dI 1,dI a.b,dI 2]]∧True) (aU a))))
def yKs (i:MkI):Prop:=
 (0≤i.a∧i.a<(qO i))∧∃(a:Bool),∃(b:Bool),∃(c:Int),∃(d:Int),∃(e:Int),∃(f:Int),zE (List.map zX i.tops) i.a.toNat 0 6=some [D.v (.bool a),D.v (.bool b),dI c,dI d,dI e,dI f]∧(0≤i.b∧i.b<(qO i))∧∃(g:Bool),∃(h:Bool),∃(j:Int),∃(k:Int),∃(l:Int),∃(m:Int),zE (List.map zX i.tops) i.b.toNat 0 6=some [D.v (.bool g),D.v (.bool h),dI j,dI k,dI l,dI m]∧(zIn i a h c k e m)∧zIn i a h c k e m
def tQ (a:MkI):=(a.out++mkq a.tops (Leg.mk a.a 2) (Leg.mk a.b 1) a.less)
def mI (a:MkI):Prop:=∃(b:Unit),AObj.fro 6 (List.map zX a.tops)=MkU (a.tops,a.out) 1∧List.map zJ (tQ a)=List.map zJ a.out∧True
def zIp (a:MkI) (b:Bool) (c:Bool) (d:Int) (e:Int) (f:Int) (g:Int):Prop:=True∧(x0 a)∧a.b=a.b∧True∧True∧(kV a)∧a.a=a.a∧True∧True∧(x0 a)∧a.b=a.b∧True∧True∧(kV a)∧a.a=a.a∧True∧True∧(x0 a)∧a.b=a.b∧True∧cnd (!b) (mI a) (cnd (!c) (mI a) (∃(h:I2),h.x=d∧h.y=e∧(kY h)∧∀(j:Unit),True→cnd a.less (∃(k:I2),k.x=e∧k.y=d∧(kY k)∧∀(l:Unit),True→cnd (uJ k.x k.y).snd (True∧(kX a)*(48:Nat)≤(140737488355328:Nat)∧∃(m:Unit),AObj.fro 6 (List.map zX a.tops)=MkU (a.tops,a.out) 1∧List.map zJ (tQ a)=List.map zJ a.out++[[dI ((uJ k.x k.y).fst),dI (min f g),dI a.a,dI 2,dI a.b,dI 1]]∧True) (mI a)) (cnd (uL h.x h.y).snd (True∧(kX a)*(48:Nat)≤(140737488355328:Nat)∧∃(k:Unit),AObj.fro 6 (List.map zX a.tops)=MkU (a.tops,a.out) 1∧List.map zJ (tQ a)=List.map zJ a.out++[[dI ((uL h.x h.y).fst),dI (min f g),dI a.a,dI 2,dI a.b,dI 1]]∧True) (mI a))))
def yKb (i:MkI):Prop:=
 (0≤i.a∧i.a<(qO i))∧∃(a:Bool),∃(b:Bool),∃(c:Int),∃(d:Int),∃(e:Int),∃(f:Int),zE (List.map zX i.tops) i.a.toNat 0 6=some [D.v (.bool a),D.v (.bool b),dI c,dI d,dI e,dI f]∧(0≤i.b∧i.b<(qO i))∧∃(g:Bool),∃(h:Bool),∃(j:Int),∃(k:Int),∃(l:Int),∃(m:Int),zE (List.map zX i.tops) i.b.toNat 0 6=some [D.v (.bool g),D.v (.bool h),dI j,dI k,dI l,dI m]∧(zIp i b g d j f l)∧zIp i b g d j f l
def eG (a:MkI):=(a.out++mkq a.tops (Leg.mk a.a 2) (Leg.mk a.b 2) a.less)
def mJ (a:MkI):Prop:=∃(b:Unit),AObj.fro 6 (List.map zX a.tops)=MkU (a.tops,a.out) 1∧List.map zJ (eG a)=List.map zJ a.out∧True
def zLa (a:MkI) (b:Bool) (c:Bool) (d:Int) (e:Int) (f:Int) (g:Int):Prop:=True∧(x0 a)∧a.b=a.b∧True∧True∧(kV a)∧a.a=a.a∧True∧True∧(x0 a)∧a.b=a.b∧True∧True∧(kV a)∧a.a=a.a∧True∧True∧(x0 a)∧a.b=a.b∧True∧cnd (!b) (mJ a) (cnd (!c) (mJ a) (∃(h:I2),h.x=d∧h.y=e∧(kY h)∧∀(j:Unit),True→cnd a.less (∃(k:I2),k.x=e∧k.y=d∧(kY k)∧∀(l:Unit),True→cnd (uJ k.x k.y).snd (True∧(kX a)*(48:Nat)≤(140737488355328:Nat)∧∃(m:Unit),AObj.fro 6 (List.map zX a.tops)=MkU (a.tops,a.out) 1∧List.map zJ (eG a)=List.map zJ a.out++[[dI ((uJ k.x k.y).fst),dI (min f g),dI a.a,dI 2,dI a.b,dI 2]]∧True) (mJ a)) (cnd (uL h.x h.y).snd (True∧(kX a)*(48:Nat)≤(140737488355328:Nat)∧∃(k:Unit),AObj.fro 6 (List.map zX a.tops)=MkU (a.tops,a.out) 1∧List.map zJ (eG a)=List.map zJ a.out++[[dI ((uL h.x h.y).fst),dI (min f g),dI a.a,dI 2,dI a.b,dI 2]]∧True) (mJ a))))
def yJm (i:MkI):Prop:=
 (0≤i.a∧i.a<(qO i))∧∃(a:Bool),∃(b:Bool),∃(c:Int),∃(d:Int),∃(e:Int),∃(f:Int),zE (List.map zX i.tops) i.a.toNat 0 6=some [D.v (.bool a),D.v (.bool b),dI c,dI d,dI e,dI f]∧(0≤i.b∧i.b<(qO i))∧∃(g:Bool),∃(h:Bool),∃(j:Int),∃(k:Int),∃(l:Int),∃(m:Int),zE (List.map zX i.tops) i.b.toNat 0 6=some [D.v (.bool g),D.v (.bool h),dI j,dI k,dI l,dI m]∧(zLa i b h d k f m)∧zLa i b h d k f m
open Go Cv Go.Proofs
theorem zNx:iotherC.ok Tryz.prog 197:=okw (V:=yHx) mixed gok0 0 (fun _=>[]) (fun _=>[]) [] Tryz.func197 fun(n:Int) h=>by
 have h:n=1∨n=2:=h
 refine⟨(),?_,trivial⟩
 rw[w64 (by omega)]
theorem zYg:ibetterC.ok Tryz.prog 195:=okw (V:=yCw) mixed gok0 0 (fun _=>[]) (fun _=>[]) [] Tryz.func195 fun(i:I3') _=>by
 refine Cv.cnd.mk (fun e=>⟨(),?_,trivial⟩) (fun e=>⟨(),?_,trivial⟩)
 ·have e:i.side=1:=by simpa using e
  simp[btr,e]
 ·have e:i.side≠1:=by simpa using e
  simp[btr,e]
theorem yIf (a b:Int):(if b<a then b else a)=min a b:=by split<;>omega
theorem yQu (i:MkI) (h:mk11.cnd i):yKk i:=by
 obtain⟨a0,a1,b0,b1,⟨ht,hp⟩,ho⟩:0≤i.a∧i.a<i.tops.length∧0≤i.b∧i.b<i.tops.length∧wY i.tops∧i.out.length≤1000:=h
 obtain⟨x,hx⟩:=yD (l:=i.tops) (i:=i.a.toNat) (by omega)
 obtain⟨y,hy⟩:=yD (l:=i.tops) (i:=i.b.toNat) (by omega)
 obtain⟨⟨px1,px2⟩,px3,px4⟩:=hp x (yWt hx)
 obtain⟨⟨py1,py2⟩,py3,py4⟩:=hp y (yWt hy)
 have e0:mkq i.tops ⟨i.a,1⟩ ⟨i.b,1⟩ i.less=if x.has1 && y.has1 && (if i.less then uJ y.p1 x.p1 else uL x.p1 y.p1).2 then[⟨(if i.less then uJ y.p1 x.p1 else uL x.p1 y.p1).1,min x.q1 y.q1,⟨i.a,1⟩,⟨i.b,1⟩⟩]else[]:=by
  simp only[mkq,yWs,hx,hy,yYq];rfl
 unfold yKk zLb kX kV x0 qO kY aZ eX dI
 simp only[yWk]
 refine⟨⟨by omega,by omega⟩,x.has1,x.has2,x.p1,x.p2,x.q1,x.q2,elA hx (by simp[zX]) rfl,⟨by omega,by omega⟩,y.has1,y.has2,y.p1,y.p2,y.q1,y.q2,elA hy (by simp[zX]) rfl,?_⟩
 rw[e0]
 (repeat'(first|exact rfl|exact trivial|assumption|apply And.intro|refine fun(_:Unit) (_:True)=>?_|refine Exists.intro () ?_|omega|(dsimp only;omega)))
 all_goals
  refine Cv.cnd.mk (fun c1=> ?_) (fun c1=>Cv.cnd.mk (fun c2=> ?_) (fun c2=> ?_))
  ·have c1:x.has1=false:=by simpa using c1
   simp only[c1,yZp,yXb,if_false,yXi];exact kp
  ·have c2:y.has1=false:=by simpa using c2
   simp only[c2,y1s,yZp,yXb,if_false,yXi];exact kp
  ·have c1:x.has1=true:=by simpa using c1
   have c2:y.has1=true:=by simpa using c2
   simp only[c1,c2,yZe,yIf]
   refine⟨⟨x.p1,y.p1⟩,?_⟩
   (repeat'(first|exact rfl|exact trivial|assumption|apply And.intro|refine fun(_:Unit) (_:True)=>?_|refine Exists.intro () ?_|omega|(dsimp only;omega)))
   refine Cv.cnd.mk (fun c3=> ?_) (fun c3=> ?_)
   ·have c3:i.less=true:=c3
    simp only[c3,if_true]
    refine⟨⟨y.p1,x.p1⟩,?_⟩
    (repeat'(first|exact rfl|exact trivial|assumption|apply And.intro|refine fun(_:Unit) (_:True)=>?_|refine Exists.intro () ?_|omega|(dsimp only;omega)))
    refine Cv.cnd.mk (fun c4=> ?_) (fun c4=> ?_)
    ·have c4:(uJ y.p1 x.p1).2=true:=c4
     simp only[c4,if_true,yWv];exact kp
    ·have c4:(uJ y.p1 x.p1).2=false:=c4
     simp only[c4,yXb,if_false,yXi];exact kp
   ·have c3:i.less=false:=c3
    simp only[c3,yXb,if_false]
    refine Cv.cnd.mk (fun c4=> ?_) (fun c4=> ?_)
    ·have c4:(uL x.p1 y.p1).2=true:=c4
     simp only[c4,if_true,yWv];exact kp
    ·have c4:(uL x.p1 y.p1).2=false:=c4
     simp only[c4,yXb,if_false,yXi];exact kp
theorem yHs:mk11.ok Tryz.prog 198:=okw mixed (gokc zRv (gokc zQr gok0)) 0 (fun _=>[]) (fun _=>[]) [] Tryz.func198 yQu
theorem yRx (i:MkI) (h:mk12.cnd i):yKs i:=by
 obtain⟨a0,a1,b0,b1,⟨ht,hp⟩,ho⟩:0≤i.a∧i.a<i.tops.length∧0≤i.b∧i.b<i.tops.length∧wY i.tops∧i.out.length≤1000:=h
 obtain⟨x,hx⟩:=yD (l:=i.tops) (i:=i.a.toNat) (by omega)
 obtain⟨y,hy⟩:=yD (l:=i.tops) (i:=i.b.toNat) (by omega)
 obtain⟨⟨px1,px2⟩,px3,px4⟩:=hp x (yWt hx)
 obtain⟨⟨py1,py2⟩,py3,py4⟩:=hp y (yWt hy)
 have e0:mkq i.tops ⟨i.a,1⟩ ⟨i.b,2⟩ i.less=if x.has1 && y.has2 && (if i.less then uJ y.p2 x.p1 else uL x.p1 y.p2).2 then[⟨(if i.less then uJ y.p2 x.p1 else uL x.p1 y.p2).1,min x.q1 y.q2,⟨i.a,1⟩,⟨i.b,2⟩⟩]else[]:=by
  simp only[mkq,yWs,hx,hy,yYq];rfl
 unfold yKs zIn aU tV kX kV x0 kY qO dI
 simp only[yWk]
 refine⟨⟨by omega,by omega⟩,x.has1,x.has2,x.p1,x.p2,x.q1,x.q2,elA hx (by simp[zX]) rfl,⟨by omega,by omega⟩,y.has1,y.has2,y.p1,y.p2,y.q1,y.q2,elA hy (by simp[zX]) rfl,?_⟩
 rw[e0]
 (repeat'(first|exact rfl|exact trivial|assumption|apply And.intro|refine fun(_:Unit) (_:True)=>?_|refine Exists.intro () ?_|omega|(dsimp only;omega)))
 all_goals
  refine Cv.cnd.mk (fun c1=> ?_) (fun c1=>Cv.cnd.mk (fun c2=> ?_) (fun c2=> ?_))
  ·have c1:x.has1=false:=by simpa using c1
   simp only[c1,yZp,yXb,if_false,yXi];exact kp
  ·have c2:y.has2=false:=by simpa using c2
   simp only[c2,y1s,yZp,yXb,if_false,yXi];exact kp
  ·have c1:x.has1=true:=by simpa using c1
   have c2:y.has2=true:=by simpa using c2
   simp only[c1,c2,yZe,yIf]
   refine⟨⟨x.p1,y.p2⟩,?_⟩
   (repeat'(first|exact rfl|exact trivial|assumption|apply And.intro|refine fun(_:Unit) (_:True)=>?_|refine Exists.intro () ?_|omega|(dsimp only;omega)))
   refine Cv.cnd.mk (fun c3=> ?_) (fun c3=> ?_)
   ·have c3:i.less=true:=c3
    simp only[c3,if_true]
    refine⟨⟨y.p2,x.p1⟩,?_⟩
    (repeat'(first|exact rfl|exact trivial|assumption|apply And.intro|refine fun(_:Unit) (_:True)=>?_|refine Exists.intro () ?_|omega|(dsimp only;omega)))
    refine Cv.cnd.mk (fun c4=> ?_) (fun c4=> ?_)
    ·have c4:(uJ y.p2 x.p1).2=true:=c4
     simp only[c4,if_true,yWv];exact kp
    ·have c4:(uJ y.p2 x.p1).2=false:=c4
     simp only[c4,yXb,if_false,yXi];exact kp
   ·have c3:i.less=false:=c3
    simp only[c3,yXb,if_false]
    refine Cv.cnd.mk (fun c4=> ?_) (fun c4=> ?_)
    ·have c4:(uL x.p1 y.p2).2=true:=c4
     simp only[c4,if_true,yWv];exact kp
    ·have c4:(uL x.p1 y.p2).2=false:=c4
     simp only[c4,yXb,if_false,yXi];exact kp
theorem yEv:mk12.ok Tryz.prog 198:=okw mixed (gokc zRv (gokc zQr gok0)) 0 (fun _=>[]) (fun _=>[]) [] Tryz.func198 yRx
theorem yRn (i:MkI) (h:mk21.cnd i):yKb i:=by
 obtain⟨a0,a1,b0,b1,⟨ht,hp⟩,ho⟩:0≤i.a∧i.a<i.tops.length∧0≤i.b∧i.b<i.tops.length∧wY i.tops∧i.out.length≤1000:=h
 obtain⟨x,hx⟩:=yD (l:=i.tops) (i:=i.a.toNat) (by omega)
 obtain⟨y,hy⟩:=yD (l:=i.tops) (i:=i.b.toNat) (by omega)
 obtain⟨⟨px1,px2⟩,px3,px4⟩:=hp x (yWt hx)
 obtain⟨⟨py1,py2⟩,py3,py4⟩:=hp y (yWt hy)
 have e0:mkq i.tops ⟨i.a,2⟩ ⟨i.b,1⟩ i.less=if x.has2 && y.has1 && (if i.less then uJ y.p1 x.p2 else uL x.p2 y.p1).2 then[⟨(if i.less then uJ y.p1 x.p2 else uL x.p2 y.p1).1,min x.q2 y.q1,⟨i.a,2⟩,⟨i.b,1⟩⟩]else[]:=by
  simp only[mkq,yWs,hx,hy,yYq];rfl
 unfold yKb zIp mI tQ kX kV x0 kY qO dI
 simp only[yWk]
 refine⟨⟨by omega,by omega⟩,x.has1,x.has2,x.p1,x.p2,x.q1,x.q2,elA hx (by simp[zX]) rfl,⟨by omega,by omega⟩,y.has1,y.has2,y.p1,y.p2,y.q1,y.q2,elA hy (by simp[zX]) rfl,?_⟩
 rw[e0]
 (repeat'(first|exact rfl|exact trivial|assumption|apply And.intro|refine fun(_:Unit) (_:True)=>?_|refine Exists.intro () ?_|omega|(dsimp only;omega)))
 all_goals
  refine Cv.cnd.mk (fun c1=> ?_) (fun c1=>Cv.cnd.mk (fun c2=> ?_) (fun c2=> ?_))
  ·have c1:x.has2=false:=by simpa using c1
   simp only[c1,yZp,yXb,if_false,yXi];exact kp
  ·have c2:y.has1=false:=by simpa using c2
   simp only[c2,y1s,yZp,yXb,if_false,yXi];exact kp
  ·have c1:x.has2=true:=by simpa using c1
   have c2:y.has1=true:=by simpa using c2
   simp only[c1,c2,yZe,yIf]
   refine⟨⟨x.p2,y.p1⟩,?_⟩
   (repeat'(first|exact rfl|exact trivial|assumption|apply And.intro|refine fun(_:Unit) (_:True)=>?_|refine Exists.intro () ?_|omega|(dsimp only;omega)))
   refine Cv.cnd.mk (fun c3=> ?_) (fun c3=> ?_)
   ·have c3:i.less=true:=c3
    simp only[c3,if_true]
    refine⟨⟨y.p1,x.p2⟩,?_⟩
    (repeat'(first|exact rfl|exact trivial|assumption|apply And.intro|refine fun(_:Unit) (_:True)=>?_|refine Exists.intro () ?_|omega|(dsimp only;omega)))
    refine Cv.cnd.mk (fun c4=> ?_) (fun c4=> ?_)
    ·have c4:(uJ y.p1 x.p2).2=true:=c4
     simp only[c4,if_true,yWv];exact kp
    ·have c4:(uJ y.p1 x.p2).2=false:=c4
     simp only[c4,yXb,if_false,yXi];exact kp
   ·have c3:i.less=false:=c3
    simp only[c3,yXb,if_false]
    refine Cv.cnd.mk (fun c4=> ?_) (fun c4=> ?_)
    ·have c4:(uL x.p2 y.p1).2=true:=c4
     simp only[c4,if_true,yWv];exact kp
    ·have c4:(uL x.p2 y.p1).2=false:=c4
     simp only[c4,yXb,if_false,yXi];exact kp
theorem yFp:mk21.ok Tryz.prog 198:=okw mixed (gokc zRv (gokc zQr gok0)) 0 (fun _=>[]) (fun _=>[]) [] Tryz.func198 yRn
theorem yRk (i:MkI) (h:mk22.cnd i):yJm i:=by
 obtain⟨a0,a1,b0,b1,⟨ht,hp⟩,ho⟩:0≤i.a∧i.a<i.tops.length∧0≤i.b∧i.b<i.tops.length∧wY i.tops∧i.out.length≤1000:=h
 obtain⟨x,hx⟩:=yD (l:=i.tops) (i:=i.a.toNat) (by omega)
 obtain⟨y,hy⟩:=yD (l:=i.tops) (i:=i.b.toNat) (by omega)
 obtain⟨⟨px1,px2⟩,px3,px4⟩:=hp x (yWt hx)
 obtain⟨⟨py1,py2⟩,py3,py4⟩:=hp y (yWt hy)
 have e0:mkq i.tops ⟨i.a,2⟩ ⟨i.b,2⟩ i.less=if x.has2 && y.has2 && (if i.less then uJ y.p2 x.p2 else uL x.p2 y.p2).2 then[⟨(if i.less then uJ y.p2 x.p2 else uL x.p2 y.p2).1,min x.q2 y.q2,⟨i.a,2⟩,⟨i.b,2⟩⟩]else[]:=by
  simp only[mkq,yWs,hx,hy,yYq];rfl
 unfold yJm zLa mJ eG kX kV x0 kY qO dI
 simp only[yWk]
 refine⟨⟨by omega,by omega⟩,x.has1,x.has2,x.p1,x.p2,x.q1,x.q2,elA hx (by simp[zX]) rfl,⟨by omega,by omega⟩,y.has1,y.has2,y.p1,y.p2,y.q1,y.q2,elA hy (by simp[zX]) rfl,?_⟩
 rw[e0]
 (repeat'(first|exact rfl|exact trivial|assumption|apply And.intro|refine fun(_:Unit) (_:True)=>?_|refine Exists.intro () ?_|omega|(dsimp only;omega)))
 all_goals
  refine Cv.cnd.mk (fun c1=> ?_) (fun c1=>Cv.cnd.mk (fun c2=> ?_) (fun c2=> ?_))
  ·have c1:x.has2=false:=by simpa using c1
   simp only[c1,yZp,yXb,if_false,yXi];exact kp
  ·have c2:y.has2=false:=by simpa using c2
   simp only[c2,y1s,yZp,yXb,if_false,yXi];exact kp
  ·have c1:x.has2=true:=by simpa using c1
   have c2:y.has2=true:=by simpa using c2
   simp only[c1,c2,yZe,yIf]
   refine⟨⟨x.p2,y.p2⟩,?_⟩
   (repeat'(first|exact rfl|exact trivial|assumption|apply And.intro|refine fun(_:Unit) (_:True)=>?_|refine Exists.intro () ?_|omega|(dsimp only;omega)))
   refine Cv.cnd.mk (fun c3=> ?_) (fun c3=> ?_)
   ·have c3:i.less=true:=c3
    simp only[c3,if_true]
    refine⟨⟨y.p2,x.p2⟩,?_⟩
    (repeat'(first|exact rfl|exact trivial|assumption|apply And.intro|refine fun(_:Unit) (_:True)=>?_|refine Exists.intro () ?_|omega|(dsimp only;omega)))
    refine Cv.cnd.mk (fun c4=> ?_) (fun c4=> ?_)
    ·have c4:(uJ y.p2 x.p2).2=true:=c4
     simp only[c4,if_true,yWv];exact kp
    ·have c4:(uJ y.p2 x.p2).2=false:=c4
     simp only[c4,yXb,if_false,yXi];exact kp
   ·have c3:i.less=false:=c3
    simp only[c3,yXb,if_false]
    refine Cv.cnd.mk (fun c4=> ?_) (fun c4=> ?_)
    ·have c4:(uL x.p2 y.p2).2=true:=c4
     simp only[c4,if_true,yWv];exact kp
    ·have c4:(uL x.p2 y.p2).2=false:=c4
     simp only[c4,yXb,if_false,yXi];exact kp
theorem yFm:mk22.ok Tryz.prog 198:=okw mixed (gokc zRv (gokc zQr gok0)) 0 (fun _=>[]) (fun _=>[]) [] Tryz.func198 yRk
open Go Cv Go.Proofs
structure MkJ where
 i:MkI
 sa:Bool
 sb:Bool
def mkAnyC:Con:=con1 MkJ (fun j=>[.nm 0 0,.agg [zA j.i.a,zA (zC j.sa)],.agg [zA j.i.b,zA (zC j.sb)],yF j.i.less]) (fun j=>MkR j.i.tops j.i.out)
 (fun j=>0≤j.i.a∧j.i.a<j.i.tops.length∧0≤j.i.b∧j.i.b<j.i.tops.length∧wY j.i.tops∧j.i.out.length≤1000) (fun _=>zBo) (fun j=>MkP j.i.tops (j.i.out++mkq j.i.tops ⟨j.i.a,zC j.sa⟩ ⟨j.i.b,zC j.sb⟩ j.i.less))
theorem zTj:mkAnyC.ok Tryz.prog 198:=fun j=>match j with
 |⟨i,false,false⟩=>yHs i
 |⟨i,false,true⟩=>yEv i
 |⟨i,true,false⟩=>yFp i
 |⟨i,true,true⟩=>yFm i
structure fN where
 p:Prd
 tops:List Top
 inst:Int
def kT (i:fN) (s:Int) (k:Nat):List Quote:=(List.range k).flatMap fun(k:Nat)=>mkq i.tops ⟨(i.p.spread i.inst (i.inst+1+k)).1,s⟩ ⟨i.inst+1+k,s⟩ false
def jW (i:fN) (s:Int) (k:Nat):List Quote:=(List.range k).flatMap fun(k:Nat)=>mkq i.tops ⟨(i.p.spread k i.inst).1,3-s⟩ ⟨k,s⟩ true
def yP (i:fN) (s:Int):List Quote:=mkq i.tops ⟨(i.p.legs i.inst).2.1,3-s⟩ ⟨(i.p.legs i.inst).1,s⟩ true
def dQ (i:fN) (s:Int) (q:Quote):Quote:={q with a:=⟨(i.p.legs i.inst).1,s⟩,b:=⟨(i.p.legs i.inst).2.1,3-s⟩}
def kB (i:fN) (s:Int):List Quote:=
 if i.p.count=0∨(i.tops.length:Int)≠i.p.count∨i.inst<0∨(i.p.count:Int)≤i.inst then[]
 else if(i.p.legs i.inst).2.2 then(yP i s).map (dQ i s)
 else kT i s (i.p.months.length-(i.inst.toNat+1))++jW i s i.inst.toNat
def yJf (s:Int):Con:=con1 fN (fun i=>[prdV i.p,roV 6 (i.tops.map zX),zA i.inst,zA s]) (fun _=>[]) (fun i=>i.p.small∧wY i.tops) (fun _=> .own 0) (fun i=>[.own 259 6 ((kB i s).map zJ)])
def all1C:Con:=yJf 1
def all2C:Con:=yJf 2
def yQv (i:fN) (s:Int):List SAnn:=[
 {ι:=Nat,slots:=fun k=>[(10,.nm 0 0),(77,zA k)],rows:=fun k=>(List.range 3).map (MkU (i.tops,((yP i s).take k).map (dQ i s)++(yP i s).drop k))},
 {ι:=Nat,slots:=fun k=>[(10,.nm 0 0),(17,zA (i.inst+1+k))],rows:=fun k=>MkR i.tops (kT i s k)},
 {ι:=Nat,slots:=fun k=>[(10,.nm 0 0),(120,zA k)],rows:=fun k=>MkR i.tops (kT i s (i.p.months.length-(i.inst.toNat+1))++jW i s k)}]
structure rS where
 i:fN
 s:Bool
def allC:Con:=con1 rS (fun j=>[prdV j.i.p,roV 6 (j.i.tops.map zX),zA j.i.inst,zA (zC j.s)]) (fun _=>[]) (fun j=>j.i.p.small∧wY j.i.tops) (fun _=> .own 0) (fun j=>[.own 259 6 ((kB j.i (zC j.s)).map zJ)])
def xR (i:fN) (s:Int):List Quote:=(kB i s).filter fun q=>decide (i.p.price i.inst q.price=0)
def quotesC:Con:=con1 rS (fun j=>[prdV j.i.p,roV 6 (j.i.tops.map zX),zA j.i.inst,zA (zC j.s)]) (fun _=>[]) (fun j=>j.i.p.small∧wY j.i.tops) (fun _=> .own 0) (fun j=>[.own 259 6 ((xR j.i (zC j.s)).map zJ)])
def yIb (j:rS):List SAnn:=[{ι:=Nat,slots:=fun k=>[(9,.own 0),(18,zA k)],rows:=fun k=>[.own 259 6 ((((kB j.i (zC j.s)).take k).filter fun q=>decide (j.i.p.price j.i.inst q.price=0)).map zJ)]}]
structure BsI where
 l:List Quote
 s:Int
def zS (l:List Quote) (s:Int):Quote×Bool:=match l with
 |[]=>(yOz,false)
 |q::r=>(r.foldl (fun b q=>if btr s q.price b.price then q else b) q,true)
def bestQC:Con:=con1 BsI (fun i=>[roV 6 (i.l.map zJ),zA i.s]) (fun _=>[]) (fun i=>(i.s=1∨i.s=2)∧i.l.length≤1000000) (fun i=> .tup [zPy (zS i.l i.s).1,yF (zS i.l i.s).2]) (fun _=>[])
def yNj (i:BsI):List SAnn:=[{ι:=Nat,slots:=fun k=>[(6,.nm 0 0),(26,zA k)],rows:=fun k=>[.cells (zPy (zS (i.l.take (max k 1)) i.s).1).cl 259]}]
open Go Cv Go.Proofs
def aN (a:fN):Prop:=AObj.fro 6 (List.map zX a.tops)=AObj.fro 6 (List.map zX a.tops)∧Sx.AObj.cells [V.d (D.v (Value.string (sb a.p.code))),V.own 0,V.d (dI a.p.tick),V.d (dI a.p.low),V.d (dI a.p.high),V.d (dI a.p.wide),V.d (dI a.p.rule),V.d (dI a.p.top),V.d (dI a.p.least),V.d (dI a.p.part),V.own ((0:Nat)+(1:Nat))] 25=Sx.AObj.cells [V.d (D.v (Value.string (sb a.p.code))),V.own 0,V.d (dI a.p.tick),V.d (dI a.p.low),V.d (dI a.p.high),V.d (dI a.p.wide),V.d (dI a.p.rule),V.d (dI a.p.top),V.d (dI a.p.least),V.d (dI a.p.part),V.own ((0:Nat)+(1:Nat))] 25∧AObj.fro 1 (iE a.p.settle)=AObj.fro 1 (iE a.p.settle)∧AObj.fro 1 (iE a.p.months)=AObj.fro 1 (iE a.p.months)
def zBa (a:Nat→Prop) (b:Nat) (c:Nat→Nat) (d:Nat) (e:fN):Prop:=a b∧c b<c d∧AObj.fro 6 (List.map zX e.tops)=AObj.fro 6 (List.map zX e.tops)∧aN e
def zDe (a:Nat→Prop) (b:Nat) (c:Nat→Nat) (d:Nat) (e:fN):Prop:=a b∧c b<c d∧aN e
def gC (a:Top):Prop:=((-9223372036854775808)≤a.p1∧a.p1≤9223372036854775807)∧(-9223372036854775808)≤a.p2∧a.p2≤9223372036854775807
def hD (a:MkJ):Prop:=0≤a.i.a∧a.i.a<(↑a.i.tops.length:Int)∧0≤a.i.b∧a.i.b<(↑a.i.tops.length:Int)∧(a.i.tops.length≤1000000∧∀(b:Top),b∈a.i.tops→gC b)∧a.i.out.length≤1000
def vY (a:MkJ):=(a.i.out++mkq a.i.tops (Leg.mk a.i.a (zC a.sa)) (Leg.mk a.i.b (zC a.sb)) a.i.less)
def eE (a:Nat) (b:MkJ):=(decide ((↑a:Int)<(↑(List.map zJ (vY b)).length:Int)))
def xZ (a:pY):Prop:=a.p.code.length≤1099511627776∧a.p.months.length≤1099511627776∧a.p.settle.length≤1099511627776
def kU (a:dC):Prop:=a.p.code.length≤1099511627776∧a.p.months.length≤1099511627776∧a.p.settle.length≤1099511627776
def a6 (a:fN) (b:Nat):=(List.map (dQ a 1) (List.take b (yP a 1))++List.drop b (yP a 1))
def tR (a:fN) (b:Nat):=(List.map zJ (a6 a b))
def mF (a:fN) (b:Nat):=(kT a 1 (a.p.months.length-(a.inst.toNat+1))++jW a 1 b)
def wT (a:dC):=((a.p.legs a.n).snd.fst)
def yKa (i:fN):Prop:=
 ∃(a:Prd),sb a.code=sb i.p.code∧iE a.months=iE i.p.months∧a.tick=i.p.tick∧a.low=i.p.low∧a.high=i.p.high∧a.wide=i.p.wide∧a.rule=i.p.rule∧a.top=i.p.top∧a.least=i.p.least∧a.part=i.p.part∧iE a.settle=iE i.p.settle∧(z7 a)∧∀(b:Unit),True→cnd ((↑a.count:Int)==0) (∃(c:Unit),List.map zJ (kB i 1)=[]∧True) (cnd ((↑(List.map zX i.tops).length:Int) !=(↑a.count:Int)) (∃(c:Unit),List.map zJ (kB i 1)=[]∧True) (cnd (decide (i.inst<0)) (∃(c:Unit),List.map zJ (kB i 1)=[]∧True) (cnd (decide (i.inst≥(↑a.count:Int))) (∃(c:Unit),List.map zJ (kB i 1)=[]∧True) (∃(c:dC),sb c.p.code=sb i.p.code∧iE c.p.months=iE i.p.months∧c.p.tick=i.p.tick∧c.p.low=i.p.low∧c.p.high=i.p.high∧c.p.wide=i.p.wide∧c.p.rule=i.p.rule∧c.p.top=i.p.top∧c.p.least=i.p.least∧c.p.part=i.p.part∧iE c.p.settle=iE i.p.settle∧c.n=i.inst∧(kU c)∧∀(d:Unit),True→cnd (c.p.legs c.n).snd.snd (∃(e:Int),e=1∧(e=1∨e=2)∧∀(f:Unit),True→∃(g:MkJ),g.i.a=(c.p.legs c.n).snd.fst∧zC g.sa=3-e∧g.i.b=(c.p.legs c.n).fst∧zC g.sb=1∧g.i.less=true∧AObj.fro 6 (List.map zX g.i.tops)=AObj.fro 6 (List.map zX i.tops)∧List.map zJ g.i.out=[]∧(hD g)∧∀(h:Unit),True→∃(j:Nat),(↑j:Int)=0∧AObj.fro 6 (List.map zX i.tops)=AObj.fro 6 (List.map zX g.i.tops)∧List.map zJ (a6 i j)=List.map zJ (vY g)∧∃(k:Nat→Prop),∃(l:Nat→Nat),k j∧∀(m:Nat),k m→cnd (eE m g) ((0≤(↑m:Int)∧(↑m:Int)<(↑(tR i m).length:Int))∧(↑m:Int).toNat<(tR i m).length∧∃(n:Nat),(↑n:Int)=IntKind.i64.wrap ((↑m:Int)+1)∧AObj.fro 6 (List.map zX i.tops)=AObj.fro 6 (List.map zX i.tops)∧List.map zJ (a6 i n)=zT (tR i m) (↑m:Int).toNat ((0:Nat)+(2:Nat)) [dI ((c.p.legs c.n).fst),dI 1,dI (wT c),dI (3-e)]∧k n∧l n<l m∧AObj.fro 6 (List.map zX g.i.tops)=AObj.fro 6 (List.map zX g.i.tops)∧Sx.AObj.cells [V.d (dI (wT c)),V.d (dI (3-e))] 256=Sx.AObj.cells [V.d (dI (wT c)),V.d (dI (3-e))] 256∧Sx.AObj.cells [V.d (dI ((c.p.legs c.n).fst)),V.d (dI 1)] 256=Sx.AObj.cells [V.d (dI ((c.p.legs c.n).fst)),V.d (dI 1)] 256∧aN i) (∃(n:Unit),List.map zJ (kB i 1)=List.map zJ (a6 i m)∧True)) (∃(e:Nat),i.inst+1+(↑e:Int)=IntKind.i64.wrap (i.inst+1)∧AObj.fro 6 (List.map zX i.tops)=AObj.fro 6 (List.map zX i.tops)∧List.map zJ (kT i 1 e)=[]∧∃(f:Nat→Prop),∃(g:Nat→Nat),f e∧∀(h:Nat),f h→cnd (decide (i.inst+1+(↑h:Int)<(↑(iE i.p.months).length:Int))) (∃(j:pY),sb j.p.code=sb i.p.code∧iE j.p.months=iE i.p.months∧j.p.tick=i.p.tick∧j.p.low=i.p.low∧j.p.high=i.p.high∧j.p.wide=i.p.wide∧j.p.rule=i.p.rule∧j.p.top=i.p.top∧j.p.least=i.p.least∧j.p.part=i.p.part∧iE j.p.settle=iE i.p.settle∧j.a=i.inst∧j.b=i.inst+1+(↑h:Int)∧(xZ j)∧∀(k:Unit),True→∃(l:MkJ),l.i.a=(j.p.spread j.a j.b).fst∧zC l.sa=1∧l.i.b=i.inst+1+(↑h:Int)∧zC l.sb=1∧l.i.less=false∧AObj.fro 6 (List.map zX l.i.tops)=AObj.fro 6 (List.map zX i.tops)∧List.map zJ l.i.out=List.map zJ (kT i 1 h)∧(hD l)∧∀(m:Unit),True→∃(n:Nat),i.inst+1+(↑n:Int)=IntKind.i64.wrap (i.inst+1+(↑h:Int)+1)∧AObj.fro 6 (List.map zX i.tops)=AObj.fro 6 (List.map zX l.i.tops)∧List.map zJ (kT i 1 n)=List.map zJ (vY l)∧zDe f n g h i) (∃(j:Nat),(↑j:Int)=0∧AObj.fro 6 (List.map zX i.tops)=AObj.fro 6 (List.map zX i.tops)∧List.map zJ (mF i j)=List.map zJ (kT i 1 h)∧∃(k:Nat→Prop),∃(l:Nat→Nat),k j∧∀(m:Nat),k m→cnd (decide ((↑m:Int)<i.inst)) (∃(n:pY),sb n.p.code=sb i.p.code∧iE n.p.months=iE i.p.months∧n.p.tick=i.p.tick∧n.p.low=i.p.low∧n.p.high=i.p.high∧n.p.wide=i.p.wide∧n.p.rule=i.p.rule∧n.p.top=i.p.top∧n.p.least=i.p.least∧n.p.part=i.p.part∧iE n.p.settle=iE i.p.settle∧n.a=(↑m:Int)∧n.b=i.inst∧(xZ n)∧∀(p:Unit),True→∃(q:Int),q=1∧(q=1∨q=2)∧∀(r:Unit),True→∃(s:MkJ),s.i.a=(n.p.spread n.a n.b).fst∧zC s.sa=3-q∧s.i.b=(↑m:Int)∧zC s.sb=1∧s.i.less=true∧AObj.fro 6 (List.map zX s.i.tops)=AObj.fro 6 (List.map zX i.tops)∧List.map zJ s.i.out=List.map zJ (mF i m)∧(hD s)∧∀(t:Unit),True→∃(u:Nat),(↑u:Int)=IntKind.i64.wrap ((↑m:Int)+1)∧AObj.fro 6 (List.map zX i.tops)=AObj.fro 6 (List.map zX s.i.tops)∧List.map zJ (mF i u)=List.map zJ (vY s)∧zBa k u l m i) (∃(n:Unit),List.map zJ (kB i 1)=List.map zJ (mF i m)∧True)))))))
def aV (a:fN) (b:Nat):=(List.map (dQ a 2) (List.take b (yP a 2))++List.drop b (yP a 2))
def eA (a:fN) (b:Nat):=(List.map zJ (aV a b))
def mB (a:fN) (b:Nat):=(kT a 2 (a.p.months.length-(a.inst.toNat+1))++jW a 2 b)
def yJn (i:fN):Prop:=
 ∃(a:Prd),sb a.code=sb i.p.code∧iE a.months=iE i.p.months∧a.tick=i.p.tick∧a.low=i.p.low∧a.high=i.p.high∧a.wide=i.p.wide∧a.rule=i.p.rule∧a.top=i.p.top∧a.least=i.p.least∧a.part=i.p.part∧iE a.settle=iE i.p.settle∧(z7 a)∧∀(b:Unit),True→cnd ((↑a.count:Int)==0) (∃(c:Unit),List.map zJ (kB i 2)=[]∧True) (cnd ((↑(List.map zX i.tops).length:Int) !=(↑a.count:Int)) (∃(c:Unit),List.map zJ (kB i 2)=[]∧True) (cnd (decide (i.inst<0)) (∃(c:Unit),List.map zJ (kB i 2)=[]∧True) (cnd (decide (i.inst≥(↑a.count:Int))) (∃(c:Unit),List.map zJ (kB i 2)=[]∧True) (∃(c:dC),sb c.p.code=sb i.p.code∧iE c.p.months=iE i.p.months∧c.p.tick=i.p.tick∧c.p.low=i.p.low∧c.p.high=i.p.high∧c.p.wide=i.p.wide∧c.p.rule=i.p.rule∧c.p.top=i.p.top∧c.p.least=i.p.least∧c.p.part=i.p.part∧iE c.p.settle=iE i.p.settle∧c.n=i.inst∧(kU c)∧∀(d:Unit),True→cnd (c.p.legs c.n).snd.snd (∃(e:Int),e=2∧(e=1∨e=2)∧∀(f:Unit),True→∃(g:MkJ),g.i.a=(c.p.legs c.n).snd.fst∧zC g.sa=3-e∧g.i.b=(c.p.legs c.n).fst∧zC g.sb=2∧g.i.less=true∧AObj.fro 6 (List.map zX g.i.tops)=AObj.fro 6 (List.map zX i.tops)∧List.map zJ g.i.out=[]∧(hD g)∧∀(h:Unit),True→∃(j:Nat),(↑j:Int)=0∧AObj.fro 6 (List.map zX i.tops)=AObj.fro 6 (List.map zX g.i.tops)∧List.map zJ (aV i j)=List.map zJ (vY g)∧∃(k:Nat→Prop),∃(l:Nat→Nat),k j∧∀(m:Nat),k m→cnd (eE m g) ((0≤(↑m:Int)∧(↑m:Int)<(↑(eA i m).length:Int))∧(↑m:Int).toNat<(eA i m).length∧∃(n:Nat),(↑n:Int)=IntKind.i64.wrap ((↑m:Int)+1)∧AObj.fro 6 (List.map zX i.tops)=AObj.fro 6 (List.map zX i.tops)∧List.map zJ (aV i n)=zT (eA i m) (↑m:Int).toNat ((0:Nat)+(2:Nat)) [dI ((c.p.legs c.n).fst),dI 2,dI (wT c),dI (3-e)]∧k n∧l n<l m∧AObj.fro 6 (List.map zX g.i.tops)=AObj.fro 6 (List.map zX g.i.tops)∧Sx.AObj.cells [V.d (dI (wT c)),V.d (dI (3-e))] 256=Sx.AObj.cells [V.d (dI (wT c)),V.d (dI (3-e))] 256∧Sx.AObj.cells [V.d (dI ((c.p.legs c.n).fst)),V.d (dI 2)] 256=Sx.AObj.cells [V.d (dI ((c.p.legs c.n).fst)),V.d (dI 2)] 256∧aN i) (∃(n:Unit),List.map zJ (kB i 2)=List.map zJ (aV i m)∧True)) (∃(e:Nat),i.inst+1+(↑e:Int)=IntKind.i64.wrap (i.inst+1)∧AObj.fro 6 (List.map zX i.tops)=AObj.fro 6 (List.map zX i.tops)∧List.map zJ (kT i 2 e)=[]∧∃(f:Nat→Prop),∃(g:Nat→Nat),f e∧∀(h:Nat),f h→cnd (decide (i.inst+1+(↑h:Int)<(↑(iE i.p.months).length:Int))) (∃(j:pY),sb j.p.code=sb i.p.code∧iE j.p.months=iE i.p.months∧j.p.tick=i.p.tick∧j.p.low=i.p.low∧j.p.high=i.p.high∧j.p.wide=i.p.wide∧j.p.rule=i.p.rule∧j.p.top=i.p.top∧j.p.least=i.p.least∧j.p.part=i.p.part∧iE j.p.settle=iE i.p.settle∧j.a=i.inst∧j.b=i.inst+1+(↑h:Int)∧(xZ j)∧∀(k:Unit),True→∃(l:MkJ),l.i.a=(j.p.spread j.a j.b).fst∧zC l.sa=2∧l.i.b=i.inst+1+(↑h:Int)∧zC l.sb=2∧l.i.less=false∧AObj.fro 6 (List.map zX l.i.tops)=AObj.fro 6 (List.map zX i.tops)∧List.map zJ l.i.out=List.map zJ (kT i 2 h)∧(hD l)∧∀(m:Unit),True→∃(n:Nat),i.inst+1+(↑n:Int)=IntKind.i64.wrap (i.inst+1+(↑h:Int)+1)∧AObj.fro 6 (List.map zX i.tops)=AObj.fro 6 (List.map zX l.i.tops)∧List.map zJ (kT i 2 n)=List.map zJ (vY l)∧zDe f n g h i) (∃(j:Nat),(↑j:Int)=0∧AObj.fro 6 (List.map zX i.tops)=AObj.fro 6 (List.map zX i.tops)∧List.map zJ (mB i j)=List.map zJ (kT i 2 h)∧∃(k:Nat→Prop),∃(l:Nat→Nat),k j∧∀(m:Nat),k m→cnd (decide ((↑m:Int)<i.inst)) (∃(n:pY),sb n.p.code=sb i.p.code∧iE n.p.months=iE i.p.months∧n.p.tick=i.p.tick∧n.p.low=i.p.low∧n.p.high=i.p.high∧n.p.wide=i.p.wide∧n.p.rule=i.p.rule∧n.p.top=i.p.top∧n.p.least=i.p.least∧n.p.part=i.p.part∧iE n.p.settle=iE i.p.settle∧n.a=(↑m:Int)∧n.b=i.inst∧(xZ n)∧∀(p:Unit),True→∃(q:Int),q=2∧(q=1∨q=2)∧∀(r:Unit),True→∃(s:MkJ),s.i.a=(n.p.spread n.a n.b).fst∧zC s.sa=3-q∧s.i.b=(↑m:Int)∧zC s.sb=2∧s.i.less=true∧AObj.fro 6 (List.map zX s.i.tops)=AObj.fro 6 (List.map zX i.tops)∧List.map zJ s.i.out=List.map zJ (mB i m)∧(hD s)∧∀(t:Unit),True→∃(u:Nat),(↑u:Int)=IntKind.i64.wrap ((↑m:Int)+1)∧AObj.fro 6 (List.map zX i.tops)=AObj.fro 6 (List.map zX s.i.tops)∧List.map zJ (mB i u)=List.map zJ (vY s)∧zBa k u l m i) (∃(n:Unit),List.map zJ (kB i 2)=List.map zJ (mB i m)∧True)))))))
def jH (a:rS):=(List.map zJ (kB a.i (zC a.s)))
def l8 (a:Nat→Prop) (b:Nat) (c:Nat→Nat) (d:Nat) (e:rS) (f:rS):Prop:=a b∧c b<c d∧AObj.own 259 6 (jH e)=AObj.own 259 6 (jH e)∧Sx.AObj.cells [V.d (D.v (Value.string (sb f.i.p.code))),V.own 0,V.d (dI f.i.p.tick),V.d (dI f.i.p.low),V.d (dI f.i.p.high),V.d (dI f.i.p.wide),V.d (dI f.i.p.rule),V.d (dI f.i.p.top),V.d (dI f.i.p.least),V.d (dI f.i.p.part),V.own ((0:Nat)+(1:Nat))] 25=Sx.AObj.cells [V.d (D.v (Value.string (sb f.i.p.code))),V.own 0,V.d (dI f.i.p.tick),V.d (dI f.i.p.low),V.d (dI f.i.p.high),V.d (dI f.i.p.wide),V.d (dI f.i.p.rule),V.d (dI f.i.p.top),V.d (dI f.i.p.least),V.d (dI f.i.p.part),V.own ((0:Nat)+(1:Nat))] 25∧AObj.fro 1 (iE f.i.p.settle)=AObj.fro 1 (iE f.i.p.settle)∧AObj.fro 1 (iE f.i.p.months)=AObj.fro 1 (iE f.i.p.months)
def kA (a:rS):Prop:=(a.i.p.code.length≤1099511627776∧a.i.p.months.length≤1099511627776∧a.i.p.settle.length≤1099511627776)∧a.i.tops.length≤1000000∧∀(b:Top),b∈a.i.tops→gC b
def gG (a:rS):=(↑(jH a).length:Int)
def z1r (j:rS):Prop:=
 ∃(a:rS),sb a.i.p.code=sb j.i.p.code∧iE a.i.p.months=iE j.i.p.months∧a.i.p.tick=j.i.p.tick∧a.i.p.low=j.i.p.low∧a.i.p.high=j.i.p.high∧a.i.p.wide=j.i.p.wide∧a.i.p.rule=j.i.p.rule∧a.i.p.top=j.i.p.top∧a.i.p.least=j.i.p.least∧a.i.p.part=j.i.p.part∧iE a.i.p.settle=iE j.i.p.settle∧List.map zX a.i.tops=List.map zX j.i.tops∧a.i.inst=j.i.inst∧zC a.s=zC j.s∧(kA a)∧∀(b:Unit),True→∃(c:Nat),(↑c:Int)=0∧List.map zJ (List.filter (fun(q:Sx.Quote) ↦ decide (j.i.p.price j.i.inst q.price=0)) (List.take c (kB j.i (zC j.s))))=[]∧∃(d:Nat→Prop),∃(e:Nat→Nat),d c∧∀(f:Nat),d f→cnd (decide ((↑f:Int)<(gG a))) ((0≤(↑f:Int)∧(↑f:Int)<(gG a))∧∃(g:Int),∃(h:Int),∃(k:Int),∃(l:Int),∃(m:Int),∃(n:Int),zE (jH a) (↑f:Int).toNat 0 6=some [dI g,dI h,dI k,dI l,dI m,dI n]∧∃(p:pY),sb p.p.code=sb j.i.p.code∧iE p.p.months=iE j.i.p.months∧p.p.tick=j.i.p.tick∧p.p.low=j.i.p.low∧p.p.high=j.i.p.high∧p.p.wide=j.i.p.wide∧p.p.rule=j.i.p.rule∧p.p.top=j.i.p.top∧p.p.least=j.i.p.least∧p.p.part=j.i.p.part∧iE p.p.settle=iE j.i.p.settle∧p.a=j.i.inst∧p.b=g∧(xZ p)∧∀(q:Unit),True→cnd (p.p.price p.a p.b==0) (((List.map zJ (List.filter (fun(q:Sx.Quote) ↦ decide (j.i.p.price j.i.inst q.price=0)) (List.take f (kB j.i (zC j.s))))).length+1)*(48:Nat)≤(140737488355328:Nat)∧∃(r:Nat),(↑r:Int)=IntKind.i64.wrap ((↑f:Int)+1)∧List.map zJ (List.filter (fun(q:Sx.Quote) ↦ decide (j.i.p.price j.i.inst q.price=0)) (List.take r (kB j.i (zC j.s))))=List.map zJ (List.filter (fun(q:Sx.Quote) ↦ decide (j.i.p.price j.i.inst q.price=0)) (List.take f (kB j.i (zC j.s))))++[[dI g,dI h,dI k,dI l,dI m,dI n]]∧l8 d r e f a j) (∃(r:Nat),(↑r:Int)=IntKind.i64.wrap ((↑f:Int)+1)∧List.map zJ (List.filter (fun(q:Sx.Quote) ↦ decide (j.i.p.price j.i.inst q.price=0)) (List.take r (kB j.i (zC j.s))))=List.map zJ (List.filter (fun(q:Sx.Quote) ↦ decide (j.i.p.price j.i.inst q.price=0)) (List.take f (kB j.i (zC j.s))))∧l8 d r e f a j)) (∃(g:Unit),List.map zJ (xR j.i (zC j.s))=List.map zJ (List.filter (fun(q:Sx.Quote) ↦ decide (j.i.p.price j.i.inst q.price=0)) (List.take f (kB j.i (zC j.s))))∧True)
def zAe (a:Nat→Prop) (b:Nat) (c:Nat→Nat) (d:Nat):Prop:=a b∧c b<c d∧Sx.AObj.cells (Sx.V.agg [V.d (dI 0),V.d (dI 0),V.d (dI 0),V.d (dI 0),V.d (dI 0),V.d (dI 0)]).cl 259=Sx.AObj.cells (Sx.V.agg [V.d (dI 0),V.d (dI 0),V.d (dI 0),V.d (dI 0),V.d (dI 0),V.d (dI 0)]).cl 259
def z9 (a:Nat) (b:BsI):=(zS (List.take (max a 1) b.l) b.s)
def vO (a:BsI):=(↑(List.map zJ a.l).length:Int)
def zIb (a:BsI):Prop:=((0:Int)≤(0:Int)∧0<(vO a))∧∃(b:Int),∃(c:Int),∃(d:Int),∃(e:Int),∃(f:Int),∃(g:Int),zE (List.map zJ a.l) (Int.toNat 0) 0 6=some [dI b,dI c,dI d,dI e,dI f,dI g]∧∃(h:Nat),(↑h:Int)=0∧(z9 h a).fst.price=b∧(z9 h a).fst.qty=c∧(z9 h a).fst.a.inst=d∧(z9 h a).fst.a.side=e∧(z9 h a).fst.b.inst=f∧(z9 h a).fst.b.side=g∧∃(j:Nat→Prop),∃(k:Nat→Nat),j h∧∀(l:Nat),j l→cnd (decide ((↑l:Int)<(vO a))) ((0≤(↑l:Int)∧(↑l:Int)<(vO a))∧∃(m:Int),∃(n:Int),∃(p:Int),∃(q:Int),∃(r:Int),∃(s:Int),zE (List.map zJ a.l) (↑l:Int).toNat 0 6=some [dI m,dI n,dI p,dI q,dI r,dI s]∧∃(t:I3'),t.side=a.s∧t.x=m∧t.y=(z9 l a).fst.price∧True∧∀(u:Unit),True→cnd (btr t.side t.x t.y) (∃(v:Nat),(↑v:Int)=IntKind.i64.wrap ((↑l:Int)+1)∧(z9 v a).fst.price=m∧(z9 v a).fst.qty=n∧(z9 v a).fst.a.inst=p∧(z9 v a).fst.a.side=q∧(z9 v a).fst.b.inst=r∧(z9 v a).fst.b.side=s∧zAe j v k l) (∃(v:Nat),(↑v:Int)=IntKind.i64.wrap ((↑l:Int)+1)∧(z9 v a).fst.price=(z9 l a).fst.price∧(z9 v a).fst.qty=(z9 l a).fst.qty∧(z9 v a).fst.a.inst=(z9 l a).fst.a.inst∧(z9 v a).fst.a.side=(z9 l a).fst.a.side∧(z9 v a).fst.b.inst=(z9 l a).fst.b.inst∧(z9 v a).fst.b.side=(z9 l a).fst.b.side∧zAe j v k l)) (∃(m:Unit),(zS a.l a.s).fst.price=(z9 l a).fst.price∧(zS a.l a.s).fst.qty=(z9 l a).fst.qty∧(zS a.l a.s).fst.a.inst=(z9 l a).fst.a.inst∧(zS a.l a.s).fst.a.side=(z9 l a).fst.a.side∧(zS a.l a.s).fst.b.inst=(z9 l a).fst.b.inst∧(zS a.l a.s).fst.b.side=(z9 l a).fst.b.side∧(zS a.l a.s).snd=true∧True)
def lM (a:BsI):Prop:=∃(b:Unit),(zS a.l a.s).fst.price=0∧(zS a.l a.s).fst.qty=0∧(zS a.l a.s).fst.a.inst=0∧(zS a.l a.s).fst.a.side=0∧(zS a.l a.s).fst.b.inst=0∧(zS a.l a.s).fst.b.side=0∧(zS a.l a.s).snd=false∧True
def z8q (i:BsI):Prop:=
 cnd ((vO i)==0) (lM i) (cnd (i.s !=1) (cnd (i.s !=2) (lM i) (zIb i)) (zIb i))
end Sx
