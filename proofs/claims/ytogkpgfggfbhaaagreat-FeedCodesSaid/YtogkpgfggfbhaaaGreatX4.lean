/- Texts of ours, one behind the other: a walk that the kernel reckons, and contracts of functions. No condition. -/
import Derived.Test.YtogkpgfggfbhaaaGreatRows
import Derived.Test.YtogkpgfggfbhaaaGreatX3
namespace Sx
set_option linter.unusedVariables false
open Go Cv Go.Proofs
theorem kp {P:Prop} (h:P:=by(repeat'(first|exact rfl|exact trivial|assumption|apply And.intro|refine fun(_:Unit) (_:True)=>?_|refine Exists.intro () ?_|omega|(dsimp only;omega)))):P:=h
theorem mixed:Tryz.prog.follows .mixedOrders=true:=by kernel_rfl
theorem okw {P:Program} {f:FuncId} {fn:Func} {C:Con} {G:List (Nat×Con)} {V:C.ι→Prop} (hm:P.follows .mixedOrders=true) (hG:GOk P G) (d:Nat) (J:C.ι→List (Nat×SAnn)) (an:C.ι→List SAnn) (op:List Nat) (hf:P.funcs[f]? =some fn) (h:∀i,C.cnd i→V i) (hb:fn.body=some (fn.body.getD .skip):=by kernel_rfl) (hbd:wB P f=true:=by kernel_rfl) (hok:okC fn.ntmps (fn.body.getD .skip)=true:=by kernel_rfl) (hsz:∀i,Nat.ble (C.pat i).length fn.ntmps=true:=by intro _;kernel_rfl) (e:∀i,V i=walk P G d (J i) (an i) op fn (fn.body.getD .skip) (C.pat i) (C.pre i) (C.alts i):=by intro _;kernel_rfl):C.ok P f:=dW hm G hG d J an op hf hb hbd hok hsz fun i hc=>Eq.mp (e i) (h i hc)
structure Lv where
 price:Int
 qty:Int
 count:Int
def lvE (l:Lv):List D:=[.v (.int .i64 l.price),.v (.int .i64 l.qty),.v (.int .i64 l.count)]
def lvV (l:Lv):V:= .agg [zA l.price,zA l.qty,zA l.count]
open Go Cv Go.Proofs
def sb (l:List UInt8):ByteArray:=⟨l.toArray⟩
@[reducible] def sV (l:List UInt8):V:= .d (.v (.string (sb l)))
def zGl (l:List UInt8):Nat×Nat:=Utf8.decode (sb l) 0
def pL:Nat→Nat→List UInt8→List (Nat×Nat)
 |0,_,_=>[]
 |k+1,p,l=>match l with
  |[]=>[]
  |_=>(p,(zGl l).1)::pL k (p+(zGl l).2) (l.drop (zGl l).2)
def hZ (s:List UInt8) (p:Nat):List (Nat×Nat):=pL (s.length-p) p (s.drop p)
def wR (s:List UInt8):List Nat:=(hZ s 0).map (·.2)
def countC:Con:=con1 (List UInt8) (fun s=>[sV s]) (fun _=>[]) (fun s=>s.length≤1099511627776) (fun s=>zA (wR s).length) (fun _=>[])
def yGt (s:List UInt8):List SAnn:=[{ι:=Nat×Nat,slots:=fun x=>[(3,zA x.2),(5,.nm 0 0)],rows:=fun x=>[.iter (sb s) x.1]}]
def sA (r:Nat):Bool:=(decide (65≤r) && decide (r≤90))||(decide (913≤r) && decide (r≤937) && decide (r≠930))
def gZ (s:List UInt8):Bool:=(wR s).all sA && decide (s≠[]) && decide ((wR s).length≤4)
def symC:Con:=con1 (List UInt8) (fun s=>[sV s]) (fun _=>[]) (fun s=>s.length≤1099511627776) (fun s=>yB (gZ s)) (fun _=>[])
def yNa (s:List UInt8):List SAnn:=[{ι:=Nat,slots:=fun x=>[(7,.nm 0 0)],rows:=fun x=>[.iter (sb s) x]}]
def iE (l:List Int):List (List D):=l.map fun n=>[.v (.int .i64 n)]
@[reducible] def iV (l:List Int):V:=roV 1 (iE l)
structure Prd where
 code:List UInt8
 months:List Int
 tick:Int
 low:Int
 high:Int
 wide:Int
 rule:Int
 top:Int
 least:Int
 part:Int
 settle:List Int
 deriving DecidableEq
@[reducible] def Prd.cells (p:Prd):List V:=[sV p.code,iV p.months,zA p.tick,zA p.low,zA p.high,zA p.wide,zA p.rule,zA p.top,zA p.least,zA p.part,iV p.settle]
@[reducible] def tA (p:Prd):V:= .agg p.cells
@[reducible] def Prd.small (p:Prd):Prop:=p.code.length≤1099511627776∧p.months.length≤1099511627776∧p.settle.length≤1099511627776
def uO (l:List Int) (k:Nat):Bool:=decide (0≤l.getD k 0) && decide (l.getD k 0≤1199) && (decide (k=0)||decide (l.getD (k-1) 0<l.getD k 0))
def x0 (l:List Int):Bool:=(List.range l.length).all (uO l) && decide (2≤l.length) && decide (l.length≤6)
def monthsC:Con:=con1 (List Int) (fun l=>[iV l]) (fun _=>[]) (fun l=>l.length≤1099511627776) (fun l=>yB (x0 l)) (fun _=>[])
def yAz:List SAnn:=[{ι:=Nat,slots:=fun j=>[(7,zA j)],rows:=fun _=>[]}]
def m9 (l:List Int):Int:=l.tail.foldl min (l.headD 0)
def rX (l:List Int):Int:=l.tail.foldl max (l.headD 0)
def minC:Con:=con1 (List Int) (fun l=>[iV l]) (fun _=>[]) (fun l=>0<l.length∧l.length≤1099511627776) (fun l=>zA (m9 l)) (fun _=>[])
def maxC:Con:=con1 (List Int) (fun l=>[iV l]) (fun _=>[]) (fun l=>0<l.length∧l.length≤1099511627776) (fun l=>zA (rX l)) (fun _=>[])
def yNs (l:List Int):List SAnn:=[{ι:=Nat,slots:=fun j=>[(3,zA (m9 (l.take j))),(4,zA j)],rows:=fun _=>[]}]
def yNe (l:List Int):List SAnn:=[{ι:=Nat,slots:=fun j=>[(3,zA (rX (l.take j))),(4,zA j)],rows:=fun _=>[]}]
set_option maxRecDepth 100000
open Go Cv Go.Proofs
@[reducible] def dI (n:Int):D:= .v (.int .i64 n)
def aM (a:Nat×Nat) (b:List UInt8) (c:Nat×Nat→Prop) (d:Nat×Nat→Nat):Prop:=∃(e:Nat×Nat),(↑e.snd:Int)=IntKind.i64.wrap ((↑a.snd:Int)+1)∧sb b=sb b∧e.fst=a.fst+(Utf8.decode (sb b) a.fst).snd∧c e∧d e<d a∧True
def z5y (s:List UInt8):Prop:=
 ∃(a:Nat×Nat),(↑a.snd:Int)=0∧sb s=sb s∧a.fst=0∧∃(b:Nat×Nat→Prop),∃(c:Nat×Nat→Nat),b a∧∀(d:Nat×Nat),b d→cnd (d.fst.blt (sb s).size) (aM d s b c) (∃(e:Unit),(↑(wR s).length:Int)=(↑d.snd:Int)∧True)
def zAc (a:List UInt8) (b:Nat) (c:Nat→Prop) (d:Nat→Nat):Prop:=∃(e:Nat),sb a=sb a∧e=b+(Utf8.decode (sb a) b).snd∧c e∧d e<d b∧True
def uP (a:List UInt8) (b:Nat):=(↑(Utf8.decode (sb a) b).fst:Int)
def yKl (s:List UInt8):Prop:=
 ∃(a:Nat),sb s=sb s∧a=0∧∃(b:Nat→Prop),∃(c:Nat→Nat),b a∧∀(d:Nat),b d→cnd (d.blt (sb s).size) (cnd (decide ((uP s d)≥65)) (cnd (decide ((uP s d)≤90)) (zAc s d b c) (cnd (decide ((uP s d)≥913)) (cnd (decide ((uP s d)≤937)) (cnd (!(uP s d) !=930) (∃(e:Unit),gZ s=false∧True) (zAc s d b c)) (∃(e:Unit),gZ s=false∧True)) (∃(e:Unit),gZ s=false∧True))) (cnd (decide ((uP s d)≥913)) (cnd (decide ((uP s d)≤937)) (cnd (!(uP s d) !=930) (∃(e:Unit),gZ s=false∧True) (zAc s d b c)) (∃(e:Unit),gZ s=false∧True)) (∃(e:Unit),gZ s=false∧True))) (cnd (!(sb s).toList==(ByteArray.mk #[]).toList) (∃(e:List UInt8),sb e=sb s∧e.length≤1099511627776∧∀(f:Unit),True→∃(g:Unit),gZ s=decide ((↑(wR e).length:Int)≤4)∧True) (∃(e:Unit),gZ s=false∧True))
def kM (a:Nat) (b:Nat) (c:Nat→Prop) (d:Nat→Nat):Prop:=(↑a:Int)=IntKind.i64.wrap ((↑b:Int)+1)∧c a∧d a<d b∧True
def qL (a:Nat) (b:Nat→Prop) (c:Nat→Nat):Prop:=∃(d:Nat),kM d a b c
def zXy (l:List Int):Prop:=
 ∃(a:Nat),(↑a:Int)=0∧∃(b:Nat→Prop),∃(c:Nat→Nat),b a∧∀(d:Nat),b d→cnd (decide ((↑d:Int)<(↑(iE l).length:Int))) ((0≤(↑d:Int)∧(↑d:Int)<(↑(iE l).length:Int))∧∃(e:Int),zF (iE l) (↑d:Int).toNat 0 1=some [dI e]∧cnd (decide (e<0)) (∃(f:Unit),x0 l=false∧True) (cnd (decide (e>1199)) (∃(f:Unit),x0 l=false∧True) (cnd (decide ((↑d:Int)>0)) ((0≤IntKind.i64.wrap ((↑d:Int)-1)∧IntKind.i64.wrap ((↑d:Int)-1)<(↑(iE l).length:Int))∧∃(f:Int),zF (iE l) (IntKind.i64.wrap ((↑d:Int)-1)).toNat 0 1=some [dI f]∧cnd (decide (f≥e)) (∃(g:Unit),x0 l=false∧True) (qL d b c)) (qL d b c)))) (cnd (decide ((↑(iE l).length:Int)≥2)) (∃(e:Unit),x0 l=decide ((↑(iE l).length:Int)≤6)∧True) (∃(e:Unit),x0 l=false∧True))
def yMl (l:List Int):Prop:=
 cnd (decide ((↑(iE l).length:Int)<1)) False (((0:Int)≤(0:Int)∧0<(↑(iE l).length:Int))∧∃(a:Int),zF (iE l) (Int.toNat 0) 0 1=some [dI a]∧∃(b:Nat),m9 (List.take b l)=a∧(↑b:Int)=1∧∃(c:Nat→Prop),∃(d:Nat→Nat),c b∧∀(e:Nat),c e→cnd (decide ((↑e:Int)<(↑(iE l).length:Int))) ((0≤(↑e:Int)∧(↑e:Int)<(↑(iE l).length:Int))∧∃(f:Int),zF (iE l) (↑e:Int).toNat 0 1=some [dI f]∧∃(g:Nat),m9 (List.take g l)=min (m9 (List.take e l)) f∧kM g e c d) (∃(f:Unit),m9 l=m9 (List.take e l)∧True))
def yKp (l:List Int):Prop:=
 cnd (decide ((↑(iE l).length:Int)<1)) False (((0:Int)≤(0:Int)∧0<(↑(iE l).length:Int))∧∃(a:Int),zF (iE l) (Int.toNat 0) 0 1=some [dI a]∧∃(b:Nat),rX (List.take b l)=a∧(↑b:Int)=1∧∃(c:Nat→Prop),∃(d:Nat→Nat),c b∧∀(e:Nat),c e→cnd (decide ((↑e:Int)<(↑(iE l).length:Int))) ((0≤(↑e:Int)∧(↑e:Int)<(↑(iE l).length:Int))∧∃(f:Int),zF (iE l) (↑e:Int).toNat 0 1=some [dI f]∧∃(g:Nat),(rX (List.take g l)=if f>rX (List.take e l)then f else rX (List.take e l))∧kM g e c d) (∃(f:Unit),rX l=rX (List.take e l)∧True))
set_option linter.unusedSimpArgs false
open Go Cv Go.Proofs
@[simp] theorem zXq (s:List UInt8):(sb s).size=s.length:=by simp[sb,ByteArray.size]
theorem cT (s:List UInt8):(sb s).toList=s:=by rw[ByteArray.toList_eq];rfl
theorem yHr (s:List UInt8) (p k:Nat):(sb s).get! (p+k)=(sb (s.drop p)).get! (0+k):=by
 simp only[sb,ByteArray.get!,yPr]
 simp only[List.getElem!_toArray,List.getElem!_eq_getElem?_getD,yRo]
theorem zDj (s:List UInt8) (p:Nat):Utf8.decode (sb s) p=zGl (s.drop p):=by
 have h (k:Nat):(decide (p+k<(sb s).size))=decide (0+k<(sb (s.drop p)).size):=by
  simp only[zXq,yPq]
  by_cases h:p+k<s.length
  ·rw[yPn h,yPn (by omega)]
  ·rw[yPm h,yPm (by omega)]
 unfold zGl Utf8.decode
 simp only[yHr s p,h]
theorem cY (s:List UInt8) {p:Nat} (h:p<s.length):1≤(Utf8.decode (sb s) p).2∧p+(Utf8.decode (sb s) p).2≤s.length:=by
 unfold Utf8.decode
 simp only[zXq,yPh,yRf]
 split
 ·exact⟨by simp,by simp;omega⟩
 split
 ·rename_i h1
  split
  ·exact⟨by simp,by simp;omega⟩
  ·exact⟨by simp,by simp;omega⟩
 split
 ·rename_i h1
  split
  ·exact⟨by simp,by simp;omega⟩
  ·exact⟨by simp,by simp;omega⟩
 split
 ·rename_i h1
  split
  ·exact⟨by simp,by simp;omega⟩
  ·exact⟨by simp,by simp;omega⟩
 ·exact⟨by simp,by simp;omega⟩
theorem yEv {l:List UInt8} (h:l≠[]):1≤(zGl l).2∧(zGl l).2≤l.length:=by
 have:=cY l (p:=0) (by cases l<;>simp_all)
 rw[zGl];omega
theorem aP:∀(k:Nat) (p:Nat) (l:List UInt8),l.length≤k→pL k p l=pL l.length p l
 |0,p,l,h=>by
  have:l=[]:=yPo (by omega)
  subst this;rfl
 |k+1,p,[],h=>rfl
 |k+1,p,b::l,h=>by
  have hw:=yEv (l:=b::l) (by simp)
  have hl:((b::l).drop (zGl (b::l)).2).length≤l.length:=by rw[yPq,yOy];omega
  rw[yOy]
  simp only[pL]
  rw[aP k _ _ (by rw[yOy]at h;omega),aP l.length _ _ hl]
theorem dC {s:List UInt8} {p:Nat} (h:s.length≤p):hZ s p=[]:=by
 rw[hZ,show s.length-p=0 by omega];rfl
theorem gR {s:List UInt8} {p:Nat} (h:p<s.length):hZ s p=(p,(Utf8.decode (sb s) p).1)::hZ s (p+(Utf8.decode (sb s) p).2):=by
 obtain⟨k,hk⟩:∃k,s.length-p=k+1:=⟨s.length-p-1,by omega⟩
 have hw:=cY s h
 obtain⟨b,l,hb⟩:∃b l,s.drop p=b::l:=by
  cases hd:s.drop p with
  |nil=>rw[List.drop_eq_nil_iff]at hd;omega
  |cons b l=>exact⟨b,l,rfl⟩
 have hlen:(b::l).length=s.length-p:=by rw[← hb,yPq]
 rw[hZ,hk,hb,zDj,hb,hZ]
 rw[zDj,hb]at hw
 simp only[pL]
 have e:(b::l).drop (zGl (b::l)).2=s.drop (p+(zGl (b::l)).2):=by rw[← hb,ySb]
 rw[e,aP k _ _ (by rw[yPq];omega),yPq]
theorem zHg (s:List UInt8):∀(k p:Nat),s.length-p≤k→(hZ s p).length≤s.length-p
 |0,p,h=>by rw[dC (by omega)];simp
 |k+1,p,h=>by
  by_cases hp:p<s.length
  ·have hw:=cY s hp
   rw[gR hp,yOy]
   have:=zHg s k (p+(Utf8.decode (sb s) p).2) (by omega)
   omega
  ·rw[dC (by omega)];simp
theorem zJw (s:List UInt8):(wR s).length≤s.length:=by
 rw[wR,yOs]
 have:=zHg s s.length 0 (by omega)
 omega
theorem z8c {a b:Nat} (h:Nat.blt a b=false):b≤a:=by
 rcases yRn a b with h1|h1
 ·rw[show Nat.blt a b=true by rw[yRt];exact h1]at h;cases h
 ·exact h1
theorem z7u:(ByteArray.mk #[]).toList=[]:=cT []
theorem yFx (s:List UInt8) (h:countC.cnd s):z5y s:=by
 have h:s.length≤1099511627776:=h
 have hr:=zJw s
 unfold z5y aM
 refine⟨(0,0),rfl,rfl,rfl,fun x=>x.1≤s.length∧x.2+(hZ s x.1).length=(wR s).length,fun x=>s.length-x.1,⟨by omega,by rw[wR,yOs];simp⟩,?_⟩
 rintro⟨p,n⟩ ⟨h1,h2⟩
 dsimp only at h1 h2 ⊢
 refine Cv.cnd.mk (fun hp=> ?_) (fun hp=> ?_)
 ·have hp:p<s.length:=by simpa[yRt]using hp
  have hw:=cY s hp
  rw[gR hp,yOy]at h2
  refine⟨(p+(Utf8.decode (sb s) p).2,n+1),?_,rfl,rfl,⟨hw.2,by(first|omega|(dsimp only;omega))⟩,by(first|omega|(dsimp only;omega)),trivial⟩
  rw[w64 (by omega)];rfl
 ·have hp:s.length≤p:=by have:=z8c hp;simpa using this
  rw[dC hp]at h2
  exact⟨(),by rw[← h2];rfl,trivial⟩
theorem z6x:countC.ok Tryz.prog 197:=okw mixed gok0 0 (fun _=>[]) (fun s=>yGt s) [] Tryz.func197 yFx
theorem yOd (s:List UInt8) (h:symC.cnd s):yKl s:=by
 have h:s.length≤1099511627776:=h
 unfold yKl uP zAc
 refine⟨0,rfl,rfl,fun p=>p≤s.length∧(wR s).all sA=(hZ s p).all fun x=>sA x.2,fun p=>s.length-p,⟨by omega,by rw[wR,List.all_map];rfl⟩,?_⟩
 rintro p ⟨h1,h2⟩
 refine Cv.cnd.mk (fun hp=> ?_) (fun hp=> ?_)
 ·have hp:p<s.length:=by simpa[yRt]using hp
  have hw:=cY s hp
  rw[gR hp,List.all_cons]at h2
  generalize hc:(Utf8.decode (sb s) p).1=c at h2 ⊢
  generalize hww:(Utf8.decode (sb s) p).2=w at h2 hw ⊢
  dsimp only at h2
  have bad:sA c=false→∃(o:Unit),gZ s=false∧True:=fun e=>⟨(),by rw[gZ,h2,e];rfl,trivial⟩
  have good:sA c=true→∃i':Nat,sb s=sb s∧i'=p+w∧(i'≤s.length∧(wR s).all sA=(hZ s i').all fun x=>sA x.2)∧s.length-i'<s.length-p∧True:=fun e=>⟨p+w,rfl,rfl,⟨hw.2,by rw[h2,e];rfl⟩,by omega,trivial⟩
  refine zI (fun c1=>zI (fun c2=> ?_) (fun c2=>zI (fun c3=>zI (fun c4=>Cv.cnd.mk (fun c5=> ?_) (fun c5=> ?_)) (fun c4=> ?_)) (fun c3=> ?_))) (fun c1=>zI (fun c3=>zI (fun c4=>Cv.cnd.mk (fun c5=> ?_) (fun c5=> ?_)) (fun c4=> ?_)) (fun c3=> ?_))
  all_goals first|(refine good ?_;simp[sA]at*;omega)|(refine bad ?_;simp[sA]at*;omega)
 ·have hp:s.length≤p:=by have:=z8c hp;simpa using this
  rw[dC hp]at h2
  have h2:(wR s).all sA=true:=h2
  refine Cv.cnd.mk (fun e=>⟨s,rfl,h,fun _ _=>⟨(),?_,trivial⟩⟩) (fun e=>⟨(),?_,trivial⟩)
  ·rw[cT,z7u]at e
   have:s≠[]:=by simpa using e
   rw[gZ,h2,yPn this]
   simp only[yRr]
   congr 1
   simp only[eq_iff_iff];omega
  ·have:s=[]:=by
    rw[cT,z7u]at e
    simpa using e
   rw[gZ,this];rfl
theorem yIw:symC.ok Tryz.prog 158:=okw mixed (gokc z6x gok0) 0 (fun _=>[]) (fun s=>yNa s) [] Tryz.func158 yOd
@[simp] theorem y6 (l:List Int):(iE l).length=l.length:=by simp[iE]
theorem elI {l:List Int} {k:Nat} {n:Int} (h:l[k]? =some n):zF (iE l) k 0 1=some [D.v (.int .i64 n)]:=by
 simp[zF,iE,h];rfl
theorem z8 {α:Type} {l:List α} {i:Nat} (h:i<l.length):∃x,l[i]? =some x:=⟨l[i],yPz h⟩
theorem z0i {n k:Nat} {f:Nat→Bool} (hk:k<n) (h:f k=false):(List.range n).all f=false:=by
 cases hh:(List.range n).all f
 ·rfl
 ·rw[yRq]at hh
  rw[hh k (by simpa using hk)]at h;cases h
theorem z5h {n:Nat} {f:Nat→Bool} (h:∀k<n,f k=true):(List.range n).all f=true:=by
 rw[yRq];intro k hk;exact h k (by simpa using hk)
theorem z8x (l:List Int) (h:monthsC.cnd l):zXy l:=by
 have h:l.length≤1099511627776:=h
 unfold zXy qL kM dI
 simp only[y6]
 refine⟨0,rfl,fun j=>j≤l.length∧∀k<j,uO l k=true,fun j=>l.length-j,⟨by omega,fun k hk=>by omega⟩,?_⟩
 rintro j ⟨h1,h2⟩
 have bad:j<l.length→uO l j=false→∃(o:Unit),x0 l=false∧True:=fun hj e=>⟨(),by rw[x0,z0i hj e];rfl,trivial⟩
 have good:j<l.length→uO l j=true→∃i':Nat,(i':Int)=IntKind.i64.wrap ((j:Int)+1)∧(i'≤l.length∧∀k<i',uO l k=true)∧l.length-i'<l.length-j∧True:=fun hj e=>⟨j+1,by rw[w64 (by omega)];rfl,⟨by omega,fun k hk=>by
  rcases yRn k j with hk'|hk'
  ·exact h2 k hk'
  ·obtain rfl:k=j:=by omega
   exact e⟩,by omega,trivial⟩
 refine zI (fun hj=> ?_) (fun hj=> ?_)
 ·have hj:j<l.length:=by omega
  obtain⟨n,hn⟩:=z8 hj
  have hg:l.getD j 0=n:=by simp[hn]
  refine⟨⟨by omega,by omega⟩,n,elI hn,zI (fun c1=>bad hj (by simp[uO,hn];omega)) (fun c1=>zI (fun c2=>bad hj (by simp[uO,hn];omega)) (fun c2=>zI (fun c3=> ?_) (fun c3=>good hj ?_)))⟩
  ·have e:IntKind.i64.wrap ((j:Int)-1)=((j-1:Nat):Int):=by rw[w64 (by omega)];omega
   obtain⟨m,hm⟩:=z8 (l:=l) (i:=j-1) (by omega)
   rw[e]
   refine⟨⟨by omega,by omega⟩,m,elI hm,zI (fun c4=>bad hj ?_) (fun c4=>good hj ?_)⟩
   ·simp[uO,hn,hm];omega
   ·simp[uO,hn,hm];omega
  ·simp[uO,hn];omega
 ·have e:(List.range l.length).all (uO l)=true:=z5h fun k hk=>h2 k (by omega)
  refine zI (fun c=>⟨(),?_,trivial⟩) (fun c=>⟨(),?_,trivial⟩)
  ·rw[x0,e,yPn (show 2≤l.length by omega)]
   simp;omega
  ·rw[x0,yPm (show ¬2≤l.length by omega)];simp
theorem z1b:monthsC.ok Tryz.prog 159:=okw mixed gok0 0 (fun _=>[]) (fun _=>yAz) [] Tryz.func159 z8x
theorem zBi {f:Int→Int→Int} {l:List Int} {j:Nat} {n:Int} (h:l[j+1]? =some n):(l.take (j+2)).tail.foldl f ((l.take (j+2)).headD 0)=f ((l.take (j+1)).tail.foldl f ((l.take (j+1)).headD 0)) n:=by
 cases l with
 |nil=>simp at h
 |cons a l=>
  simp only[yQj]at h
  simp only[yQa,List.tail_cons,List.headD_cons]
  rw[yQb,h,yUo];rfl
theorem zQs {l:List Int} {n:Int} (h:l[0]? =some n) (f:Int→Int→Int):(l.take 1).tail.foldl f ((l.take 1).headD 0)=n:=by
 cases l with
 |nil=>simp at h
 |cons a l=>simpa using h
theorem yNl (l:List Int) (h:minC.cnd l):yMl l:=by
 obtain⟨h0,h⟩:0<l.length∧l.length≤1099511627776:=h
 unfold yMl kM dI
 simp only[y6]
 obtain⟨n,hn⟩:=z8 h0
 refine zI (fun c=>by omega) (fun c=>⟨⟨by omega,by omega⟩,n,elI hn,1,zQs hn min,rfl,fun j=>1≤j∧j≤l.length,fun j=>l.length-j,⟨by omega,by omega⟩,?_⟩)
 rintro j ⟨h1,h2⟩
 refine zI (fun hj=> ?_) (fun hj=>⟨(),?_,trivial⟩)
 ·obtain⟨m,hm⟩:=z8 (l:=l) (i:=j) (by omega)
  refine⟨⟨by omega,by omega⟩,m,elI hm,j+1,?_,?_,⟨by omega,by omega⟩,by(first|omega|(dsimp only;omega)),trivial⟩
  ·obtain⟨k,rfl⟩:∃k,j=k+1:=⟨j-1,by omega⟩
   first
    |(rw[m9,zBi hm,← m9];done)
    |(rw[m9,zBi hm,← m9];generalize m9 (l.take (k+1))=x;split<;>omega)
  ·rw[w64 (by omega)];rfl
 ·rw[yPf (by omega)]
theorem yIv:minC.ok Tryz.prog 161:=okw mixed gok0 0 (fun _=>[]) (fun l=>yNs l) [] Tryz.func161 yNl
theorem yNv (l:List Int) (h:maxC.cnd l):yKp l:=by
 obtain⟨h0,h⟩:0<l.length∧l.length≤1099511627776:=h
 unfold yKp kM dI
 simp only[y6]
 obtain⟨n,hn⟩:=z8 h0
 refine zI (fun c=>by omega) (fun c=>⟨⟨by omega,by omega⟩,n,elI hn,1,zQs hn max,rfl,fun j=>1≤j∧j≤l.length,fun j=>l.length-j,⟨by omega,by omega⟩,?_⟩)
 rintro j ⟨h1,h2⟩
 refine zI (fun hj=> ?_) (fun hj=>⟨(),?_,trivial⟩)
 ·obtain⟨m,hm⟩:=z8 (l:=l) (i:=j) (by omega)
  refine⟨⟨by omega,by omega⟩,m,elI hm,j+1,?_,?_,⟨by omega,by omega⟩,by(first|omega|(dsimp only;omega)),trivial⟩
  ·obtain⟨k,rfl⟩:∃k,j=k+1:=⟨j-1,by omega⟩
   rw[rX,zBi hm,← rX]
   generalize rX (l.take (k+1))=x
   split<;>omega
  ·rw[w64 (by omega)];rfl
 ·rw[yPf (by omega)]
theorem yIl:maxC.ok Tryz.prog 162:=okw mixed gok0 0 (fun _=>[]) (fun l=>yNe l) [] Tryz.func162 yNv
open Go Cv Go.Proofs
@[reducible] def Prd.row (p:Prd):AObj:= .cells p.cells 26
structure zVf where
 p:Prd
 n:Int
structure zNs where
 p:Prd
 l:List Int
def gS (t n:Int):Bool:=n.tmod t !=0
def offC:Con:=con1 zVf (fun i=>[zA i.n,.nm 0 0]) (fun i=>[i.p.row]) (fun i=>1≤i.p.tick) (fun i=>yB (gS i.p.tick i.n)) (fun i=>[i.p.row])
@[reducible] def yLe:V:= .fn 198 [] [.nm 0 0]
def zCw (k:Option Nat):Int:=match k with
 |some k=>k
 |none=> -1
def idxC:Con:=con1 zNs (fun i=>[iV i.l,yLe]) (fun i=>[i.p.row]) (fun i=>1≤i.p.tick∧i.l.length≤1099511627776) (fun i=>zA (zCw (i.l.findIdx? (gS i.p.tick)))) (fun i=>[i.p.row])
def yNu (i:zNs):List SAnn:=[{ι:=Nat,slots:=fun j=>[(8,zA j)],rows:=fun _=>[]}]
def containsC:Con:=con1 zNs (fun i=>[iV i.l,yLe]) (fun i=>[i.p.row]) (fun i=>1≤i.p.tick∧i.l.length≤1099511627776) (fun i=>yB (i.l.any (gS i.p.tick))) (fun i=>[i.p.row])
def k0 (p:Prd):Bool:=decide (1≤p.tick) && decide (p.tick≤1000) && !gS p.tick p.low && !gS p.tick p.high && !gS p.tick p.wide && !p.settle.any (gS p.tick)
def ticksC:Con:=con1 Prd (fun p=>[tA p]) (fun _=>[]) Prd.small (fun p=>yB (k0 p)) (fun _=>[])
def gF (p:Prd):Bool:=decide (p.low< -1000000)||decide (p.low≥p.high)||decide (p.high>1000000)||decide (p.wide<0)||decide (p.wide>p.high-p.low)
def wG (p:Prd):Bool:=decide (p.settle.length≠p.months.length)||decide (m9 p.settle<p.low)||decide (rX p.settle>p.high)
def fB (p:Prd):Bool:=decide (p.rule<1)||decide (p.rule>3)
def uE (p:Prd):Bool:=decide (p.top<0)||decide (p.top>1000000)||decide (p.least<1)||decide (p.least>1000)||decide (p.part<0)||decide (p.part>100)
def Prd.check (p:Prd):Int:=
 if !gZ p.code then 12 else if !x0 p.months then 1 else if !k0 p then 22 else if gF p then 23 else if wG p then 1 else if fB p then 31 else if uE p then 24 else 0
def checkC:Con:=con1 Prd (fun p=>[tA p]) (fun _=>[]) Prd.small (fun p=>zA p.check) (fun _=>[])
def Prd.count (p:Prd):Nat:=if p.check=0 then p.months.length+p.months.length*(p.months.length-1) / 2 else 0
def pcountC:Con:=con1 Prd (fun p=>[tA p]) (fun _=>[]) Prd.small (fun p=>zA p.count) (fun _=>[])
structure tZ where
 p:Prd
 n:Int
def yY (n:Nat):Nat→Nat
 |0=>n
 |k+1=>yY n k+(n-1-k)
def qT (n inst:Nat):Nat→Nat→Int×Int×Bool
 |0,_=>(0,0,false)
 |k+1,m=>if inst<yY n m+(n-1-m)then(m,m+1+(inst-yY n m:Nat),true)else qT n inst k (m+1)
def Prd.legs (p:Prd) (i:Int):Int×Int×Bool:=
 if i<0∨(p.count:Int)≤i then(0,0,false)else if i<p.months.length then(i,i,false)else qT p.months.length i.toNat p.months.length 0
def legsC:Con:=con1 tZ (fun i=>[tA i.p,zA i.n]) (fun _=>[]) (fun i=>i.p.small) (fun i=> .tup [zA (i.p.legs i.n).1,zA (i.p.legs i.n).2.1,yB (i.p.legs i.n).2.2]) (fun _=>[])
structure mY where
 p:Prd
 a:Int
 b:Int
def Prd.spread (p:Prd) (a b:Int):Int×Bool:=
 if p.check≠0∨a<0∨b≤a∨(p.months.length:Int)≤b then(0,false)else((yY p.months.length a.toNat:Int)+b-a-1,true)
def spreadC:Con:=con1 mY (fun i=>[tA i.p,zA i.a,zA i.b]) (fun _=>[]) (fun i=>i.p.small) (fun i=> .tup [zA (i.p.spread i.a i.b).1,yB (i.p.spread i.a i.b).2]) (fun _=>[])
def Prd.price (p:Prd) (i n:Int):Int:=
 if p.count=0 then 1 else if i<0∨(p.count:Int)≤i then 20 else if gS p.tick n then 22 else
 if n<(if(p.months.length:Int)≤i then-p.wide else p.low)∨(if(p.months.length:Int)≤i then p.wide else p.high)<n then 23 else 0
def priceC:Con:=con1 mY (fun i=>[tA i.p,zA i.a,zA i.b]) (fun _=>[]) (fun i=>i.p.small) (fun i=>zA (i.p.price i.a i.b)) (fun _=>[])
structure I2 where
 x:Int
 y:Int
@[reducible] def i64r (n:Int):Prop:= -9223372036854775808≤n∧n≤9223372036854775807
def vB (x y:Int):Int×Bool:=if i64r (x+y)then(x+y,true)else(0,false)
def vC (x y:Int):Int×Bool:=if i64r (x-y)then(x-y,true)else(0,false)
def addC:Con:=con1 I2 (fun i=>[zA i.x,zA i.y]) (fun _=>[]) (fun i=>i64r i.x∧i64r i.y) (fun i=> .tup [zA (vB i.x i.y).1,yB (vB i.x i.y).2]) (fun _=>[])
def subC:Con:=con1 I2 (fun i=>[zA i.x,zA i.y]) (fun _=>[]) (fun i=>i64r i.x∧i64r i.y) (fun i=> .tup [zA (vC i.x i.y).1,yB (vC i.x i.y).2]) (fun _=>[])
def yJx (i:tZ):List SAnn:=[{ι:=Nat,slots:=fun m=>[(8,zA (yY i.p.months.length m)),(33,zA m)],rows:=fun _=>[]}]
def z9n (i:mY):List SAnn:=[{ι:=Nat,slots:=fun m=>[(9,zA (yY i.p.months.length m)),(33,zA m)],rows:=fun _=>[]}]
open Go Cv Go.Proofs
def yLv (i:zVf):Prop:=
 IntKind.i64=IntKind.i64∧i.p.tick≠0∧∃(a:Unit),gS i.p.tick i.n=(i.n.tmod i.p.tick !=0)∧sb i.p.code=sb i.p.code∧iE i.p.months=iE i.p.months∧i.p.tick=i.p.tick∧i.p.low=i.p.low∧i.p.high=i.p.high∧i.p.wide=i.p.wide∧i.p.rule=i.p.rule∧i.p.top=i.p.top∧i.p.least=i.p.least∧i.p.part=i.p.part∧iE i.p.settle=iE i.p.settle∧True
def yLi (i:zNs):Prop:=
 ∃(a:Nat),(↑a:Int)=0∧∃(b:Nat→Prop),∃(c:Nat→Nat),b a∧∀(d:Nat),b d→cnd (decide ((↑d:Int)<(↑(iE i.l).length:Int))) ((0≤(↑d:Int)∧(↑d:Int)<(↑(iE i.l).length:Int))∧∃(e:Int),zF (iE i.l) (↑d:Int).toNat 0 1=some [dI e]∧∃(f:zVf),f.n=e∧sb f.p.code=sb i.p.code∧iE f.p.months=iE i.p.months∧f.p.tick=i.p.tick∧f.p.low=i.p.low∧f.p.high=i.p.high∧f.p.wide=i.p.wide∧f.p.rule=i.p.rule∧f.p.top=i.p.top∧f.p.least=i.p.least∧f.p.part=i.p.part∧iE f.p.settle=iE i.p.settle∧1≤f.p.tick∧∀(g:Unit),True→cnd (gS f.p.tick f.n) (∃(h:Unit),zCw (List.findIdx? (gS i.p.tick) i.l)=(↑d:Int)∧sb i.p.code=sb f.p.code∧iE i.p.months=iE f.p.months∧i.p.tick=f.p.tick∧i.p.low=f.p.low∧i.p.high=f.p.high∧i.p.wide=f.p.wide∧i.p.rule=f.p.rule∧i.p.top=f.p.top∧i.p.least=f.p.least∧i.p.part=f.p.part∧iE i.p.settle=iE f.p.settle∧True) (∃(h:Nat),(↑h:Int)=IntKind.i64.wrap ((↑d:Int)+1)∧b h∧c h<c d∧Sx.AObj.cells (wT (dO 1 ((1:Nat)+(0:Nat)) ((1:Nat)-(1:Nat)) [((0:Nat),(0:Nat))]) f.p.cells) (26:TypeId)=i.p.row)) (∃(e:Unit),zCw (List.findIdx? (gS i.p.tick) i.l)=(-1)∧sb i.p.code=sb i.p.code∧iE i.p.months=iE i.p.months∧i.p.tick=i.p.tick∧i.p.low=i.p.low∧i.p.high=i.p.high∧i.p.wide=i.p.wide∧i.p.rule=i.p.rule∧i.p.top=i.p.top∧i.p.least=i.p.least∧i.p.part=i.p.part∧iE i.p.settle=iE i.p.settle∧True)
def zKh (i:zNs):Prop:=
 ∃(a:zNs),iE a.l=iE i.l∧sb a.p.code=sb i.p.code∧iE a.p.months=iE i.p.months∧a.p.tick=i.p.tick∧a.p.low=i.p.low∧a.p.high=i.p.high∧a.p.wide=i.p.wide∧a.p.rule=i.p.rule∧a.p.top=i.p.top∧a.p.least=i.p.least∧a.p.part=i.p.part∧iE a.p.settle=iE i.p.settle∧(1≤a.p.tick∧a.l.length≤1099511627776)∧∀(b:Unit),True→∃(c:Unit),i.l.any (gS i.p.tick)=decide (zCw (List.findIdx? (gS a.p.tick) a.l)≥0)∧sb i.p.code=sb a.p.code∧iE i.p.months=iE a.p.months∧i.p.tick=a.p.tick∧i.p.low=a.p.low∧i.p.high=a.p.high∧i.p.wide=a.p.wide∧i.p.rule=a.p.rule∧i.p.top=a.p.top∧i.p.least=a.p.least∧i.p.part=a.p.part∧iE i.p.settle=iE a.p.settle∧True
def z5d (p:Prd):Prop:=
 cnd (decide (p.tick<1)) (∃(a:Unit),k0 p=false∧True) (cnd (decide (p.tick>1000)) (∃(a:Unit),k0 p=false∧True) (∃(a:zVf),a.n=p.low∧sb a.p.code=sb p.code∧iE a.p.months=iE p.months∧a.p.tick=p.tick∧a.p.low=p.low∧a.p.high=p.high∧a.p.wide=p.wide∧a.p.rule=p.rule∧a.p.top=p.top∧a.p.least=p.least∧a.p.part=p.part∧iE a.p.settle=iE p.settle∧1≤a.p.tick∧∀(b:Unit),True→cnd (!gS a.p.tick a.n) (∃(c:zVf),c.n=a.p.high∧sb c.p.code=sb a.p.code∧iE c.p.months=iE a.p.months∧c.p.tick=a.p.tick∧c.p.low=a.p.low∧c.p.high=a.p.high∧c.p.wide=a.p.wide∧c.p.rule=a.p.rule∧c.p.top=a.p.top∧c.p.least=a.p.least∧c.p.part=a.p.part∧iE c.p.settle=iE a.p.settle∧1≤c.p.tick∧∀(d:Unit),True→cnd (!gS c.p.tick c.n) (∃(e:zVf),e.n=c.p.wide∧sb e.p.code=sb c.p.code∧iE e.p.months=iE c.p.months∧e.p.tick=c.p.tick∧e.p.low=c.p.low∧e.p.high=c.p.high∧e.p.wide=c.p.wide∧e.p.rule=c.p.rule∧e.p.top=c.p.top∧e.p.least=c.p.least∧e.p.part=c.p.part∧iE e.p.settle=iE c.p.settle∧1≤e.p.tick∧∀(f:Unit),True→cnd (!gS e.p.tick e.n) (∃(g:zNs),iE g.l=iE e.p.settle∧sb g.p.code=sb e.p.code∧iE g.p.months=iE e.p.months∧g.p.tick=e.p.tick∧g.p.low=e.p.low∧g.p.high=e.p.high∧g.p.wide=e.p.wide∧g.p.rule=e.p.rule∧g.p.top=e.p.top∧g.p.least=e.p.least∧g.p.part=e.p.part∧iE g.p.settle=iE e.p.settle∧(1≤g.p.tick∧g.l.length≤1099511627776)∧∀(h:Unit),True→∃(j:Unit),k0 p=!g.l.any (gS g.p.tick)∧True) (∃(g:Unit),k0 p=false∧True)) (∃(e:Unit),k0 p=false∧True)) (∃(c:Unit),k0 p=false∧True)))
def yC (a:Prd):Prop:=a.code.length≤1099511627776∧a.months.length≤1099511627776∧a.settle.length≤1099511627776
def z2t (p:Prd):Prop:=
 ∃(a:List UInt8),sb a=sb p.code∧a.length≤1099511627776∧∀(b:Unit),True→cnd (!gZ a) (∃(c:Unit),p.check=12∧True) (∃(c:List Int),iE c=iE p.months∧c.length≤1099511627776∧∀(d:Unit),True→cnd (!x0 c) (∃(e:Unit),p.check=1∧True) (∃(e:Prd),sb e.code=sb p.code∧iE e.months=iE p.months∧e.tick=p.tick∧e.low=p.low∧e.high=p.high∧e.wide=p.wide∧e.rule=p.rule∧e.top=p.top∧e.least=p.least∧e.part=p.part∧iE e.settle=iE p.settle∧(yC e)∧∀(f:Unit),True→cnd (!k0 e) (∃(g:Unit),p.check=22∧True) (cnd (decide (p.low<(-1000000))) (∃(g:Unit),p.check=23∧True) (cnd (decide (p.low≥p.high)) (∃(g:Unit),p.check=23∧True) (cnd (decide (p.high>1000000)) (∃(g:Unit),p.check=23∧True) (cnd (decide (p.wide<0)) (∃(g:Unit),p.check=23∧True) (cnd (decide (p.wide>IntKind.i64.wrap (p.high-p.low))) (∃(g:Unit),p.check=23∧True) (cnd ((↑(iE p.settle).length:Int) !=(↑(iE p.months).length:Int)) (∃(g:Unit),p.check=1∧True) (∃(g:List Int),iE g=iE p.settle∧(0<g.length∧g.length≤1099511627776)∧∀(h:Unit),True→p.low=p.low∧cnd (decide (m9 g<p.low)) (∃(j:Unit),p.check=1∧True) (∃(j:List Int),iE j=iE p.settle∧(0<j.length∧j.length≤1099511627776)∧∀(k:Unit),True→p.high=p.high∧cnd (decide (rX j>p.high)) (∃(l:Unit),p.check=1∧True) (cnd (decide (p.rule<1)) (∃(l:Unit),p.check=31∧True) (cnd (decide (p.rule>3)) (∃(l:Unit),p.check=31∧True) (cnd (decide (p.top<0)) (∃(l:Unit),p.check=24∧True) (cnd (decide (p.top>1000000)) (∃(l:Unit),p.check=24∧True) (cnd (decide (p.least<1)) (∃(l:Unit),p.check=24∧True) (cnd (decide (p.least>1000)) (∃(l:Unit),p.check=24∧True) (cnd (decide (p.part<0)) (∃(l:Unit),p.check=24∧True) (cnd (decide (p.part>100)) (∃(l:Unit),p.check=24∧True) (∃(l:Unit),p.check=0∧True)))))))))))))))))))
def zVx (p:Prd):Prop:=
 ∃(a:Prd),sb a.code=sb p.code∧iE a.months=iE p.months∧a.tick=p.tick∧a.low=p.low∧a.high=p.high∧a.wide=p.wide∧a.rule=p.rule∧a.top=p.top∧a.least=p.least∧a.part=p.part∧iE a.settle=iE p.settle∧(yC a)∧∀(b:Unit),True→cnd (a.check !=0) (∃(c:Unit),(↑p.count:Int)=0∧True) (IntKind.i64=IntKind.i64∧(2:Int)≠(0:Int)∧∃(c:Unit),(↑p.count:Int)=IntKind.i64.wrap ((↑(iE p.months).length:Int)+IntKind.i64.wrap ((IntKind.i64.wrap ((↑(iE p.months).length:Int)*IntKind.i64.wrap ((↑(iE p.months).length:Int)-1))).tdiv 2))∧True)
def zBs (a:tZ) (b:Nat):=((↑(yY a.p.months.length b):Int)+IntKind.i64.wrap (IntKind.i64.wrap ((↑(iE a.p.months).length:Int)-1)-(↑b:Int)))
def pK (a:tZ):Prop:=∃(b:Unit),(a.p.legs a.n).fst=0∧(a.p.legs a.n).snd.fst=0∧(a.p.legs a.n).snd.snd=false∧True
def yDb (i:tZ):Prop:=
 ∃(a:Prd),sb a.code=sb i.p.code∧iE a.months=iE i.p.months∧a.tick=i.p.tick∧a.low=i.p.low∧a.high=i.p.high∧a.wide=i.p.wide∧a.rule=i.p.rule∧a.top=i.p.top∧a.least=i.p.least∧a.part=i.p.part∧iE a.settle=iE i.p.settle∧(yC a)∧∀(b:Unit),True→cnd (decide (i.n<0)) (pK i) (cnd (decide (i.n≥(↑a.count:Int))) (pK i) (cnd (decide (i.n<(↑(iE i.p.months).length:Int))) (∃(c:Unit),(i.p.legs i.n).fst=i.n∧(i.p.legs i.n).snd.fst=i.n∧(i.p.legs i.n).snd.snd=false∧True) (∃(c:Nat),(↑(yY i.p.months.length c):Int)=(↑(iE i.p.months).length:Int)∧(↑c:Int)=0∧∃(d:Nat→Prop),∃(e:Nat→Nat),d c∧∀(f:Nat),d f→cnd (decide ((↑f:Int)<(↑(iE i.p.months).length:Int))) (cnd (decide (i.n<IntKind.i64.wrap (zBs i f))) (∃(g:Unit),(i.p.legs i.n).fst=(↑f:Int)∧(i.p.legs i.n).snd.fst=IntKind.i64.wrap (IntKind.i64.wrap (IntKind.i64.wrap ((↑f:Int)+1)+i.n)-(↑(yY i.p.months.length f):Int))∧(i.p.legs i.n).snd.snd=true∧True) (∃(g:Nat),(↑(yY i.p.months.length g):Int)=IntKind.i64.wrap (zBs i f)∧(↑g:Int)=IntKind.i64.wrap ((↑f:Int)+1)∧d g∧e g<e f∧Sx.AObj.cells [V.d (D.v (Value.string (sb i.p.code))),V.own 0,V.d (dI i.p.tick),V.d (dI i.p.low),V.d (dI i.p.high),V.d (dI i.p.wide),V.d (dI i.p.rule),V.d (dI i.p.top),V.d (dI i.p.least),V.d (dI i.p.part),V.own ((0:Nat)+(1:Nat))] 26=Sx.AObj.cells [V.d (D.v (Value.string (sb i.p.code))),V.own 0,V.d (dI i.p.tick),V.d (dI i.p.low),V.d (dI i.p.high),V.d (dI i.p.wide),V.d (dI i.p.rule),V.d (dI i.p.top),V.d (dI i.p.least),V.d (dI i.p.part),V.own ((0:Nat)+(1:Nat))] 26∧AObj.fro 1 (iE i.p.settle)=AObj.fro 1 (iE i.p.settle)∧AObj.fro 1 (iE i.p.months)=AObj.fro 1 (iE i.p.months))) (pK i))))
def gU (a:mY):Prop:=∃(b:Unit),(a.p.spread a.a a.b).fst=0∧(a.p.spread a.a a.b).snd=false∧True
def zVl (i:mY):Prop:=
 ∃(a:Prd),sb a.code=sb i.p.code∧iE a.months=iE i.p.months∧a.tick=i.p.tick∧a.low=i.p.low∧a.high=i.p.high∧a.wide=i.p.wide∧a.rule=i.p.rule∧a.top=i.p.top∧a.least=i.p.least∧a.part=i.p.part∧iE a.settle=iE i.p.settle∧(yC a)∧∀(b:Unit),True→cnd (a.check !=0) (gU i) (cnd (decide (i.a<0)) (gU i) (cnd (decide (i.a≥i.b)) (gU i) (cnd (decide (i.b≥(↑(iE i.p.months).length:Int))) (gU i) (∃(c:Nat),(↑(yY i.p.months.length c):Int)=(↑(iE i.p.months).length:Int)∧(↑c:Int)=0∧∃(d:Nat→Prop),∃(e:Nat→Nat),d c∧∀(f:Nat),d f→cnd (decide ((↑f:Int)<i.a)) (∃(g:Nat),(↑(yY i.p.months.length g):Int)=IntKind.i64.wrap ((↑(yY i.p.months.length f):Int)+IntKind.i64.wrap (IntKind.i64.wrap ((↑(iE i.p.months).length:Int)-1)-(↑f:Int)))∧(↑g:Int)=IntKind.i64.wrap ((↑f:Int)+1)∧d g∧e g<e f∧Sx.AObj.cells [V.d (D.v (Value.string (sb i.p.code))),V.own 0,V.d (dI i.p.tick),V.d (dI i.p.low),V.d (dI i.p.high),V.d (dI i.p.wide),V.d (dI i.p.rule),V.d (dI i.p.top),V.d (dI i.p.least),V.d (dI i.p.part),V.own ((0:Nat)+(1:Nat))] 26=Sx.AObj.cells [V.d (D.v (Value.string (sb i.p.code))),V.own 0,V.d (dI i.p.tick),V.d (dI i.p.low),V.d (dI i.p.high),V.d (dI i.p.wide),V.d (dI i.p.rule),V.d (dI i.p.top),V.d (dI i.p.least),V.d (dI i.p.part),V.own ((0:Nat)+(1:Nat))] 26∧AObj.fro 1 (iE i.p.settle)=AObj.fro 1 (iE i.p.settle)∧AObj.fro 1 (iE i.p.months)=AObj.fro 1 (iE i.p.months)) (∃(g:Unit),(i.p.spread i.a i.b).fst=IntKind.i64.wrap (IntKind.i64.wrap (IntKind.i64.wrap ((↑(yY i.p.months.length f):Int)+i.b)-i.a)-1)∧(i.p.spread i.a i.b).snd=true∧True)))))
def z6y (i:mY):Prop:=
 ∃(a:Prd),sb a.code=sb i.p.code∧iE a.months=iE i.p.months∧a.tick=i.p.tick∧a.low=i.p.low∧a.high=i.p.high∧a.wide=i.p.wide∧a.rule=i.p.rule∧a.top=i.p.top∧a.least=i.p.least∧a.part=i.p.part∧iE a.settle=iE i.p.settle∧(yC a)∧∀(b:Unit),True→cnd ((↑a.count:Int)==0) (∃(c:Unit),i.p.price i.a i.b=1∧True) (cnd (decide (i.a<0)) (∃(c:Unit),i.p.price i.a i.b=20∧True) (cnd (decide (i.a≥(↑a.count:Int))) (∃(c:Unit),i.p.price i.a i.b=20∧True) (IntKind.i64=IntKind.i64∧i.p.tick≠0∧cnd (i.b.tmod i.p.tick !=0) (∃(c:Unit),i.p.price i.a i.b=22∧True) (cnd (decide (i.a≥(↑(iE i.p.months).length:Int))) (cnd (decide (i.b<IntKind.i64.wrap (0-i.p.wide))) (∃(c:Unit),i.p.price i.a i.b=23∧True) (cnd (decide (i.b>i.p.wide)) (∃(c:Unit),i.p.price i.a i.b=23∧True) (∃(c:Unit),i.p.price i.a i.b=0∧True))) (cnd (decide (i.b<i.p.low)) (∃(c:Unit),i.p.price i.a i.b=23∧True) (cnd (decide (i.b>i.p.high)) (∃(c:Unit),i.p.price i.a i.b=23∧True) (∃(c:Unit),i.p.price i.a i.b=0∧True)))))))
def zGg (a:I2):Prop:=∃(b:Unit),(vB a.x a.y).fst=IntKind.i64.wrap (a.x+a.y)∧(vB a.x a.y).snd=true∧True
def yLk (i:I2):Prop:=
 cnd (decide (i.x<0)==decide (i.y<0)) (cnd (!decide (IntKind.i64.wrap (i.x+i.y)<0)==decide (i.x<0)) (∃(a:Unit),(vB i.x i.y).fst=0∧(vB i.x i.y).snd=false∧True) (zGg i)) (zGg i)
def zFa (a:I2):Prop:=∃(b:Unit),(vC a.x a.y).fst=IntKind.i64.wrap (a.x-a.y)∧(vC a.x a.y).snd=true∧True
def yLf (i:I2):Prop:=
 cnd (!decide (i.x<0)==decide (i.y<0)) (cnd (!decide (IntKind.i64.wrap (i.x-i.y)<0)==decide (i.x<0)) (∃(a:Unit),(vC i.x i.y).fst=0∧(vC i.x i.y).snd=false∧True) (zFa i)) (zFa i)
open Go Cv Go.Proofs
theorem yMv (i:zVf) (h:offC.cnd i):yLv i:=by
 have h:1≤i.p.tick:=h
 unfold yLv;exact kp
theorem z6w:offC.ok Tryz.prog 198:=okw mixed gok0 0 (fun _=>[]) (fun _=>[]) [] Tryz.func198 yMv
theorem zAx {α:Type} {f:α→Bool} {l:List α} (h:∀(k:Nat) (x:α),l[k]? =some x→f x=false):l.findIdx? f=none:=by
 rw[ySx]
 intro x hx
 obtain⟨k,hk⟩:=List.getElem?_of_mem hx
 exact h k x hk
theorem zAn {α:Type} {f:α→Bool} {l:List α} {j:Nat} {x:α} (h1:l[j]? =some x) (h2:f x=true) (h:∀k<j,∀x:α,l[k]? =some x→f x=false):l.findIdx? f=some j:=by
 rw[yRu]
 obtain⟨hj,rfl⟩:=yOt.1 h1
 exact⟨hj,h2,fun k hk=>by rw[h k hk _ (yPz (by omega))];simp⟩
theorem yOe (i:zNs) (h:idxC.cnd i):yLi i:=by
 obtain⟨h1,h2⟩:1≤i.p.tick∧i.l.length≤1099511627776:=h
 unfold yLi dI
 simp only[y6]
 refine⟨0,rfl,fun j=>j≤i.l.length∧∀k<j,∀x,i.l[k]? =some x→gS i.p.tick x=false,fun j=>i.l.length-j,⟨by omega,fun k hk=>by omega⟩,?_⟩
 rintro j ⟨h3,h4⟩
 refine zI (fun hj=> ?_) (fun hj=> ?_)
 ·obtain⟨n,hn⟩:=z8 (l:=i.l) (i:=j) (by omega)
  refine⟨⟨by omega,by omega⟩,n,elI hn,⟨i.p,n⟩,?_⟩
  (repeat'(first|exact rfl|exact trivial|assumption|apply And.intro|refine fun(_:Unit) (_:True)=>?_|refine Exists.intro () ?_|omega|(dsimp only;omega)))
  refine Cv.cnd.mk (fun e=> ?_) (fun e=> ?_)
  ·rw[zAn hn e h4];exact kp
  ·refine⟨j+1,by rw[w64 (by omega)];rfl,⟨by omega,fun k hk x hx=> ?_⟩,by(first|omega|(dsimp only;omega)),rfl⟩
   rcases yRn k j with hk'|hk'
   ·exact h4 k hk' x hx
   ·obtain rfl:k=j:=by omega
    rw[hn]at hx;cases hx;exact e
 ·rw[zAx fun k x hx=>h4 k (by have:=(yOt.1 hx).1;omega) x hx];exact kp
theorem yHo:idxC.ok Tryz.prog 231:=okw mixed (gokc z6w gok0) 0 (fun _=>[]) (fun i=>yNu i) [] Tryz.func231 yOe
theorem zZh {l:List Int} {f:Int→Bool}:l.any f=decide (zCw (l.findIdx? f)≥0):=by
 cases hf:l.findIdx? f with
 |none=>
  rw[ySx]at hf
  have:l.any f=false:=by rw[List.any_eq_false];intro x hx;simp[hf x hx]
  rw[this];rfl
 |some k=>
  rw[yRu]at hf
  obtain⟨hk,h1,_⟩:=hf
  have:l.any f=true:=by rw[List.any_eq_true];exact⟨_,List.getElem_mem hk,h1⟩
  rw[this,zCw,yPn (by omega)]
theorem zZl (i:zNs) (h:containsC.cnd i):zKh i:=by
 unfold zKh
 have h':1≤i.p.tick∧i.l.length≤1099511627776:=h
 refine⟨i,?_⟩
 (repeat'(first|exact rfl|exact trivial|assumption|apply And.intro|refine fun(_:Unit) (_:True)=>?_|refine Exists.intro () ?_|omega|(dsimp only;omega)))
 exact zZh
theorem zSf:containsC.ok Tryz.prog 199:=okw mixed (gokc yHo gok0) 0 (fun _=>[]) (fun _=>[]) [] Tryz.func199 zZl
theorem yGv (p:Prd) (h:ticksC.cnd p):z5d p:=by
 obtain⟨h1,h2,h3⟩:p.small:=h
 unfold z5d
 refine zI (fun c1=>⟨(),by rw[k0,yPm (by omega)];rfl,trivial⟩) (fun c1=>zI (fun c2=>⟨(),by rw[k0,yPm (show ¬p.tick≤1000 by omega)];simp,trivial⟩) (fun c2=>⟨⟨p,p.low⟩,?_⟩))
 have e1:k0 p=(!gS p.tick p.low && !gS p.tick p.high && !gS p.tick p.wide && !p.settle.any (gS p.tick)):=by
  rw[k0,yPn (by omega),yPn (by omega)];rfl
 rw[e1]
 (repeat'(first|exact rfl|exact trivial|assumption|apply And.intro|refine fun(_:Unit) (_:True)=>?_|refine Exists.intro () ?_|omega|(dsimp only;omega)))
 refine Cv.cnd.mk (fun c3=>⟨⟨p,p.high⟩,?_⟩) (fun c3=>⟨(),?_,trivial⟩)
 ·dsimp only at c3
  (repeat'(first|exact rfl|exact trivial|assumption|apply And.intro|refine fun(_:Unit) (_:True)=>?_|refine Exists.intro () ?_|omega|(dsimp only;omega)))
  refine Cv.cnd.mk (fun c4=>⟨⟨p,p.wide⟩,?_⟩) (fun c4=>⟨(),?_,trivial⟩)
  ·dsimp only at c4
   (repeat'(first|exact rfl|exact trivial|assumption|apply And.intro|refine fun(_:Unit) (_:True)=>?_|refine Exists.intro () ?_|omega|(dsimp only;omega)))
   refine Cv.cnd.mk (fun c5=>⟨⟨p,p.settle⟩,?_⟩) (fun c5=>⟨(),?_,trivial⟩)
   ·dsimp only at c5
    (repeat'(first|exact rfl|exact trivial|assumption|apply And.intro|refine fun(_:Unit) (_:True)=>?_|refine Exists.intro () ?_|omega|(dsimp only;omega)))
    rw[c3,c4,c5];simp
   ·dsimp only at c5
    rw[c5];simp
  ·dsimp only at c4
   rw[c4];simp
 ·dsimp only at c3
  rw[c3];simp
theorem z7b:ticksC.ok Tryz.prog 160:=okw mixed (gokc z6w (gokc zSf gok0)) 0 (fun _=>[]) (fun _=>[]) [] Tryz.func160 yGv
theorem yIi (p:Prd) (h:checkC.cnd p):z2t p:=by
 obtain⟨h1,h2,h3⟩:p.small:=h
 unfold z2t yC
 simp only[y6]
 refine⟨p.code,rfl,h1,fun _ _=>Cv.cnd.mk (fun c1=>⟨(),by rw[Prd.check,yOu c1],trivial⟩) (fun c1=>⟨p.months,rfl,h2,fun _ _=>Cv.cnd.mk (fun c2=>⟨(),by rw[Prd.check,yOr (by simp[c1]),yOu c2],trivial⟩) (fun c2=>⟨p,?_⟩)⟩)⟩
 (repeat'(first|exact rfl|exact trivial|assumption|apply And.intro|refine fun(_:Unit) (_:True)=>?_|refine Exists.intro () ?_|omega|(dsimp only;omega)))
 refine Cv.cnd.mk (fun c3=>⟨(),by rw[Prd.check,yOr (by simp[c1]),yOr (by simp[c2]),yOu c3],trivial⟩) (fun c3=> ?_)
 have e0:p.check=if gF p then 23 else if wG p then 1 else if fB p then 31 else if uE p then 24 else 0:=by
  rw[Prd.check,yOr (by simp[c1]),yOr (by simp[c2]),yOr (by simp[c3])]
 have b (hb:gF p=true):∃(o:Unit),p.check=23∧True:=⟨(),by rw[e0,yOu hb],trivial⟩
 refine zI (fun d1=>b (by simp[gF,d1])) fun d1=>zI (fun d2=>b (by simp[gF];omega)) fun d2=>zI (fun d3=>b (by simp[gF];omega)) fun d3=>zI (fun d4=>b (by simp[gF];omega)) fun d4=> ?_
 rw[w64 (by omega)]
 refine zI (fun d5=>b (by simp[gF];omega)) fun d5=> ?_
 have e1:p.check=if wG p then 1 else if fB p then 31 else if uE p then 24 else 0:=by
  rw[e0,yOr (by simp[gF];omega)]
 have s (hb:wG p=true):∃(o:Unit),p.check=1∧True:=⟨(),by rw[e1,yOu hb],trivial⟩
 have hm:2≤p.months.length:=by
  have c2:x0 p.months=true:=by simpa using c2
  simp[x0]at c2;omega
 refine Cv.cnd.mk (fun d6=>s (by have d6:¬(p.settle.length:Int)=p.months.length:=(by simpa using d6);simp[wG];omega)) fun d6=> ?_
 have d6:p.settle.length=p.months.length:=by
  have:(p.settle.length:Int)=p.months.length:=by simpa using d6
  omega
 refine⟨p.settle,rfl,⟨by omega,by omega⟩,fun _ _=>⟨kp,zI (fun d7=>s (by simp[wG];left;right;omega)) fun d7=>⟨p.settle,rfl,⟨by omega,by omega⟩,fun _ _=>⟨kp,zI (fun d8=>s (by simp[wG];right;omega)) fun d8=> ?_⟩⟩⟩⟩
 have e2:p.check=if fB p then 31 else if uE p then 24 else 0:=by
  rw[e1,yOr (by simp[wG];omega)]
 have r (hb:fB p=true):∃(o:Unit),p.check=31∧True:=⟨(),by rw[e2,yOu hb],trivial⟩
 refine zI (fun d9=>r (by simp[fB];omega)) fun d9=>zI (fun d10=>r (by simp[fB];omega)) fun d10=> ?_
 have e3:p.check=if uE p then 24 else 0:=by
  rw[e2,yOr (by simp[fB];omega)]
 have q (hb:uE p=true):∃(o:Unit),p.check=24∧True:=⟨(),by rw[e3,yOu hb],trivial⟩
 refine zI (fun f1=>q (by simp[uE];omega)) fun f1=>zI (fun f2=>q (by simp[uE];omega)) fun f2=>zI (fun f3=>q (by simp[uE];omega)) fun f3=>zI (fun f4=>q (by simp[uE];omega)) fun f4=>zI (fun f5=>q (by simp[uE];omega)) fun f5=>zI (fun f6=>q (by simp[uE];omega)) fun f6=> ?_
 exact⟨(),by rw[e3,yOr (by simp[uE];omega)],trivial⟩
theorem nG:checkC.ok Tryz.prog 114:=okw mixed (gokc yIw (gokc z1b (gokc z7b (gokc yIv (gokc yIl gok0))))) 0 (fun _=>[]) (fun _=>[]) [] Tryz.func114 yIi
structure Prd.Ok (p:Prd):Prop where
 sym:gZ p.code=true
 months:x0 p.months=true
 ticks:k0 p=true
 m2:2≤p.months.length
 m6:p.months.length≤6
 t1:1≤p.tick
 t2:p.tick≤1000
 b1: -1000000≤p.low
 b2:p.low<p.high
 b3:p.high≤1000000
 b4:0≤p.wide
 b5:p.wide≤p.high-p.low
 s1:p.settle.length=p.months.length
 s2:p.low≤m9 p.settle
 s3:rX p.settle≤p.high
 r1:1≤p.rule
 r2:p.rule≤3
 q1:0≤p.top
 q2:p.top≤1000000
 q3:1≤p.least
 q4:p.least≤1000
 q5:0≤p.part
 q6:p.part≤100
theorem wX {p:Prd} (h:p.check=0):p.Ok:=by
 unfold Prd.check at h
 split at h<;>first|(exfalso;revert h;decide)|skip
 rename_i c1
 split at h<;>first|(exfalso;revert h;decide)|skip
 rename_i c2
 split at h<;>first|(exfalso;revert h;decide)|skip
 rename_i c3
 split at h<;>first|(exfalso;revert h;decide)|skip
 rename_i c4
 split at h<;>first|(exfalso;revert h;decide)|skip
 rename_i c5
 split at h<;>first|(exfalso;revert h;decide)|skip
 rename_i c6
 split at h<;>first|(exfalso;revert h;decide)|skip
 rename_i c7
 simp only[yTc,Bool.not_eq_false,Bool.not_eq_true]at c1 c2 c3
 have m:=c2
 have t:=c3
 simp[x0]at m
 simp[k0]at t
 simp[gF]at c4
 simp[wG]at c5
 simp[fB]at c6
 simp[uE]at c7
 exact⟨c1,c2,c3,by omega,by omega,by omega,by omega,by omega,by omega,by omega,by omega,by omega,by omega,by omega,by omega,by omega,by omega,by omega,by omega,by omega,by omega,by omega,by omega⟩
theorem z4x {n:Nat} (h:n≤6):n+n*(n-1) / 2≤21:=by
 have:∀n≤6,n+n*(n-1) / 2≤21:=by decide
 exact this n h
theorem yBh (p:Prd) (h:pcountC.cnd p):zVx p:=by
 unfold zVx yC
 obtain⟨h1,h2,h3⟩:p.small:=h
 refine⟨p,?_⟩
 simp only[y6]
 (repeat'(first|exact rfl|exact trivial|assumption|apply And.intro|refine fun(_:Unit) (_:True)=>?_|refine Exists.intro () ?_|omega|(dsimp only;omega)))
 refine Cv.cnd.mk (fun c=>⟨(),by rw[Prd.count,yOr (by simpa using c)];rfl,trivial⟩) (fun c=> ?_)
 have c:p.check=0:=by simpa using c
 have ok:=wX c
 refine⟨kp,by decide,(),?_,trivial⟩
 rw[Prd.count,yOu c]
 obtain⟨n,hn⟩:∃n,p.months.length=n:=⟨_,rfl⟩
 have m2:=ok.m2
 have m6:=ok.m6
 rw[hn]at m2 m6 ⊢
 have:n=2∨n=3∨n=4∨n=5∨n=6:=by omega
 rcases this with rfl|rfl|rfl|rfl|rfl<;>rfl
theorem fH:pcountC.ok Tryz.prog 116:=okw mixed (gokc nG gok0) 0 (fun _=>[]) (fun _=>[]) [] Tryz.func116 yBh
theorem nQ {p:Prd} (h:p.count≠0):p.check=0:=by
 unfold Prd.count at h
 split at h
 ·assumption
 ·exact absurd rfl h
theorem xR (p:Prd):p.count≤21:=by
 unfold Prd.count
 split
 ·rename_i h;exact z4x (wX h).m6
 ·omega
theorem zOz {n m:Nat} (h:n≤6) (hm:m≤n):yY n m≤21:=by
 have:∀n≤6,∀m≤n,yY n m≤21:=by decide
 exact this n h m hm
theorem yJu (i:tZ) (h:legsC.cnd i):yDb i:=by
 unfold yDb pK zBs yC dI
 obtain⟨h1,h2,h3⟩:i.p.small:=h
 refine⟨i.p,?_⟩
 simp only[y6]
 (repeat'(first|exact rfl|exact trivial|assumption|apply And.intro|refine fun(_:Unit) (_:True)=>?_|refine Exists.intro () ?_|omega|(dsimp only;omega)))
 refine zI (fun c1=> ?_) (fun c1=>zI (fun c2=> ?_) (fun c2=> ?_))
 ·rw[Prd.legs,yOu (by omega)];exact kp
 ·rw[Prd.legs,yOu (by omega)];exact kp
 have c2:¬i.n≥(i.p.count:Int):=c2
 have hc:=xR i.p
 have ok:=wX (nQ (p:=i.p) (by omega))
 have m6:=ok.m6
 refine zI (fun c3=> ?_) (fun c3=> ?_)
 ·rw[Prd.legs,yOr (by omega),yOu c3];exact kp
 have e0:i.p.legs i.n=qT i.p.months.length i.n.toNat i.p.months.length 0:=by
  rw[Prd.legs,yOr (by omega),yOr c3]
 rw[e0]
 generalize hn:i.p.months.length=n at c3 m6 ⊢
 obtain⟨k,hk⟩:∃k:Nat,i.n=k:=⟨i.n.toNat,by omega⟩
 rw[hk]at c2 c3 ⊢
 refine⟨0,rfl,rfl,fun m=>m≤n∧yY n m≤k∧qT n k n 0=qT n k (n-m) m,fun m=>n-m,⟨by omega,by show n≤k;omega,rfl⟩,?_⟩
 rintro m ⟨g1,g2,g3⟩
 have hf:=zOz m6 g1
 refine zI (fun c4=> ?_) (fun c4=> ?_)
 ·obtain⟨r,hr⟩:∃r,n-m=r+1:=⟨n-m-1,by omega⟩
  have e1:(k:Int).toNat=k:=by omega
  rw[e1,g3,hr,w64 (x:=(n:Int)-1) (by omega),w64 (x:=(n:Int)-1-m) (by omega),w64 (x:=(yY n m:Int)+((n:Int)-1-m)) (by omega),w64 (x:=(m:Int)+1) (by omega)]
  rw[hr]at g3
  refine zI (fun c5=> ?_) (fun c5=> ?_)
  ·rw[w64 (x:=(m:Int)+1+k) (by omega),w64 (x:=(m:Int)+1+k-(yY n m:Int)) (by omega),qT,yOu (by omega)]
   refine⟨(),rfl,?_,rfl,trivial⟩
   dsimp only;omega
  ·refine⟨m+1,?_,rfl,⟨by omega,?_,?_⟩,by(first|omega|(dsimp only;omega)),kp⟩
   ·rw[yY];omega
   ·rw[yY];omega
   ·rw[qT,yOr (by omega),show n-(m+1)=r by omega]
 ·have e1:(k:Int).toNat=k:=by omega
  rw[e1,g3,show n-m=0 by omega]
  exact⟨(),rfl,rfl,rfl,trivial⟩
theorem pI:legsC.ok Tryz.prog 186:=okw mixed (gokc fH gok0) 0 (fun _=>[]) (fun i=>yJx i) [] Tryz.func186 yJu
theorem yAr (i:mY) (h:spreadC.cnd i):zVl i:=by
 unfold zVl gU yC dI
 obtain⟨h1,h2,h3⟩:i.p.small:=h
 refine⟨i.p,?_⟩
 simp only[y6]
 (repeat'(first|exact rfl|exact trivial|assumption|apply And.intro|refine fun(_:Unit) (_:True)=>?_|refine Exists.intro () ?_|omega|(dsimp only;omega)))
 have bad (hb:i.p.check≠0∨i.a<0∨i.b≤i.a∨(i.p.months.length:Int)≤i.b):∃(o:Unit),(i.p.spread i.a i.b).fst=0∧(i.p.spread i.a i.b).snd=false∧True:=⟨(),by rw[Prd.spread,yOu hb],by rw[Prd.spread,yOu hb],trivial⟩
 refine Cv.cnd.mk (fun c1=>bad (.inl (by simpa using c1))) fun c1=>zI (fun c2=>bad (by omega)) fun c2=>zI (fun c3=>bad (by omega)) fun c3=>zI (fun c4=>bad (by omega)) fun c4=> ?_
 have c1:i.p.check=0:=by simpa using c1
 have m6:=(wX c1).m6
 rw[Prd.spread,yOr (by omega)]
 generalize hn:i.p.months.length=n at c4 m6 ⊢
 obtain⟨a,ha⟩:∃k:Nat,i.a=k:=⟨i.a.toNat,by omega⟩
 rw[ha]at c3 ⊢
 refine⟨0,rfl,rfl,fun m=>m≤a,fun m=>a-m,by omega,?_⟩
 intro m hm
 have hm:m≤a:=hm
 have hf:=zOz (m:=m) m6 (by omega)
 refine zI (fun c5=> ?_) (fun c5=> ?_)
 ·rw[w64 (x:=(n:Int)-1) (by omega),w64 (x:=(n:Int)-1-m) (by omega),w64 (x:=(yY n m:Int)+((n:Int)-1-m)) (by omega),w64 (x:=(m:Int)+1) (by omega)]
  refine⟨m+1,?_,rfl,by omega,by(first|omega|(dsimp only;omega)),kp⟩
  rw[yY];omega
 ·obtain rfl:m=a:=by omega
  rw[w64 (x:=(yY n m:Int)+i.b) (by omega),w64 (x:=(yY n m:Int)+i.b-m) (by omega),w64 (x:=(yY n m:Int)+i.b-m-1) (by omega)]
  exact⟨(),rfl,rfl,trivial⟩
theorem zJk:spreadC.ok Tryz.prog 189:=okw mixed (gokc nG gok0) 0 (fun _=>[]) (fun i=>z9n i) [] Tryz.func189 yAr
theorem yIf (i:mY) (h:priceC.cnd i):z6y i:=by
 unfold z6y yC
 obtain⟨h1,h2,h3⟩:i.p.small:=h
 refine⟨i.p,?_⟩
 simp only[y6]
 (repeat'(first|exact rfl|exact trivial|assumption|apply And.intro|refine fun(_:Unit) (_:True)=>?_|refine Exists.intro () ?_|omega|(dsimp only;omega)))
 refine Cv.cnd.mk (fun c1=>⟨(),by rw[Prd.price,yOu (by have:(i.p.count:Int)=0:=(by simpa using c1);omega)],trivial⟩) fun c1=> ?_
 have c1:i.p.count≠0:=by
  have:¬(i.p.count:Int)=0:=by simpa using c1
  omega
 have e0:i.p.price i.a i.b=if i.a<0∨(i.p.count:Int)≤i.a then 20 else if gS i.p.tick i.b then 22 else
  if i.b<(if(i.p.months.length:Int)≤i.a then-i.p.wide else i.p.low)∨(if(i.p.months.length:Int)≤i.a then i.p.wide else i.p.high)<i.b then 23 else 0:=by rw[Prd.price,yOr c1]
 rw[e0]
 have ok:=wX (nQ c1)
 obtain⟨t1,b3,b1,b2,b4,b5⟩:=(⟨ok.t1,ok.b3,ok.b1,ok.b2,ok.b4,ok.b5⟩:_∧_∧_∧_∧_∧_)
 refine zI (fun c2=>⟨(),by rw[yOu (.inl c2)],trivial⟩) fun c2=>zI (fun c3=>⟨(),by rw[yOu (.inr c3)],trivial⟩) fun c3=>⟨kp,by omega,?_⟩
 have c3:¬i.a≥(i.p.count:Int):=c3
 rw[yOr (by omega)]
 refine Cv.cnd.mk (fun c4=>⟨(),yOu c4,trivial⟩) fun c4=> ?_
 rw[yOr (by rw[gS,c4];simp),w64 (x:=0-i.p.wide) (by omega)]
 refine zI (fun c5=> ?_) (fun c5=> ?_)
 ·have c5:(i.p.months.length:Int)≤i.a:=c5
  simp only[yOu c5]
  refine zI (fun c6=>⟨(),yOu (.inl (by omega)),trivial⟩) fun c6=>zI (fun c7=>⟨(),yOu (.inr (by omega)),trivial⟩) fun c7=>⟨(),yOr (by omega),trivial⟩
 ·have c5:¬(i.p.months.length:Int)≤i.a:=c5
  simp only[yOr c5]
  refine zI (fun c6=>⟨(),yOu (.inl (by omega)),trivial⟩) fun c6=>zI (fun c7=>⟨(),yOu (.inr (by omega)),trivial⟩) fun c7=>⟨(),yOr (by omega),trivial⟩
theorem nU:priceC.ok Tryz.prog 109:=okw mixed (gokc fH gok0) 0 (fun _=>[]) (fun _=>[]) [] Tryz.func109 yIf
theorem yDo (x:Int) (h: -18446744073709551616≤x∧x<18446744073709551616):(i64r x∧IntKind.i64.wrap x=x)∨(9223372036854775807<x∧IntKind.i64.wrap x=x-18446744073709551616)∨(x< -9223372036854775808∧IntKind.i64.wrap x=x+18446744073709551616):=by
 have e:IntKind.i64.wrap x=if(decide (x % 18446744073709551616≥9223372036854775808))=true then x % 18446744073709551616-18446744073709551616 else x % 18446744073709551616:=by
  have:IntKind.i64.wrap x=if(true && decide (x % 18446744073709551616≥9223372036854775808))=true then x % 18446744073709551616-18446744073709551616 else x % 18446744073709551616:=rfl
  rw[this,yRr]
 have e:IntKind.i64.wrap x=(x+9223372036854775808) % 18446744073709551616-9223372036854775808:=by
  rw[e]
  by_cases h2:x % 18446744073709551616≥9223372036854775808
  ·rw[yOu (yPn h2)];omega
  ·rw[yOr (by simpa using h2)];omega
 rw[e]
 by_cases h1:i64r x
 ·exact .inl ⟨h1,by unfold i64r at h1;omega⟩
 ·unfold i64r at h1
  omega
theorem yOh (i:I2) (h:addC.cnd i):yLk i:=by
 obtain⟨⟨x1,x2⟩,y1,y2⟩:i64r i.x∧i64r i.y:=h
 have hw:=yDo (i.x+i.y) (by omega)
 unfold yLk zGg vB
 generalize IntKind.i64.wrap (i.x+i.y)=w at hw ⊢
 unfold i64r at hw ⊢
 refine Cv.cnd.mk (fun c1=>Cv.cnd.mk (fun c2=> ?_) (fun c2=> ?_)) (fun c1=> ?_)
 all_goals(simp at*)
 ·rw[yOr (by omega)];exact kp
 ·rw[yOu (by omega)];refine⟨?_,rfl⟩;dsimp only;omega
 ·rw[yOu (by omega)];refine⟨?_,rfl⟩;dsimp only;omega
theorem zMz:addC.ok Tryz.prog 220:=okw mixed gok0 0 (fun _=>[]) (fun _=>[]) [] Tryz.func220 yOh
theorem yNk (i:I2) (h:subC.cnd i):yLf i:=by
 obtain⟨⟨x1,x2⟩,y1,y2⟩:i64r i.x∧i64r i.y:=h
 have hw:=yDo (i.x-i.y) (by omega)
 unfold yLf zFa vC
 generalize IntKind.i64.wrap (i.x-i.y)=w at hw ⊢
 unfold i64r at hw ⊢
 refine Cv.cnd.mk (fun c1=>Cv.cnd.mk (fun c2=> ?_) (fun c2=> ?_)) (fun c1=> ?_)
 all_goals(simp at*)
 ·rw[yOr (by omega)];exact kp
 ·rw[yOu (by omega)];refine⟨?_,rfl⟩;dsimp only;omega
 ·rw[yOu (by omega)];refine⟨?_,rfl⟩;dsimp only;omega
theorem zNb:subC.ok Tryz.prog 221:=okw mixed gok0 0 (fun _=>[]) (fun _=>[]) [] Tryz.func221 yNk
open Go Cv Go.Proofs
structure Slot where
 used:Bool
 n:Int
 id:Int
 qty:Int
 top:Bool
 queue:Int
 ahead:Int
 back:Int
 deriving DecidableEq
structure gM where
 first:Int
 last:Int
 total:Int
 count:Int
 deriving DecidableEq
structure Arena where
 slots:List Slot
 queues:List gM
 free:Int
 deriving DecidableEq
def zP (s:Slot):List D:=[.v (.bool s.used),.v (.int .i64 s.n),.v (.int .i64 s.id),.v (.int .i64 s.qty),.v (.bool s.top),.v (.int .i64 s.queue),.v (.int .i64 s.ahead),.v (.int .i64 s.back)]
def zM (q:gM):List D:=[.v (.int .i64 q.first),.v (.int .i64 q.last),.v (.int .i64 q.total),.v (.int .i64 q.count)]
def slot0:Slot:=⟨false,0,0,0,false,0,0,0⟩
def zE (a:Arena):Nat→AObj
 |0=> .cells [.own 1,.own 2,zA a.free] 350
 |1=> .own 305 8 (a.slots.map zP)
 |2=> .own 354 4 (a.queues.map zM)
 |_=> .gone
def qX (a:Arena):AObj:= .adt Arena 3 zE a
structure y3 where
 price:Int
 queue:Int
 deriving DecidableEq
structure Place where
 side:Int
 price:Int
 slot:Int
 deriving DecidableEq
structure Book where
 a:Arena
 buys:List y3
 sells:List y3
 at_:List (Int×Place)
 top1:Int
 top2:Int
 spare:List Int
 has1:Bool
 has2:Bool
 deriving DecidableEq
def zB (r:y3):List D:=[.v (.int .i64 r.price),.v (.int .i64 r.queue)]
def zTc (p:Place):List D:=[.v (.int .i64 p.side),.v (.int .i64 p.price),.v (.int .i64 p.slot)]
def atE (l:List (Int×Place)):List (Value×List D):=l.map fun x=>(.int .i64 x.1,zTc x.2)
def zO (b:Book):Nat→AObj
 |0=> .cells [.nm 1 0,.own 2,.own 3,.mp 4,zA b.top1,zA b.top2,.own 5,yB b.has1,yB b.has2] 244
 |1=>qX b.a
 |2=> .own 301 2 (b.buys.map zB)
 |3=> .own 301 2 (b.sells.map zB)
 |4=> .map (atE b.at_)
 |5=> .own 3 1 (iE b.spare)
 |_=> .gone
def zW (b:Book):AObj:= .adt Book 6 zO b
structure MSt where
 p:Prd
 books:List Book
 wh:List (Int×Int)
def yM (l:List (Int×Int)):List (Value×List D):=l.map fun x=>(.int .i64 x.1,[.v (.int .i64 x.2)])
def y7 (s:MSt):Nat→AObj
 |0=> .cells [sV s.p.code,.own 3,zA s.p.tick,zA s.p.low,zA s.p.high,zA s.p.wide,zA s.p.rule,zA s.p.top,zA s.p.least,zA s.p.part,.own 4,.own 1,.mp 2] 182
 |1=> .objs 184 Book 6 zO s.books none
 |2=> .map (yM s.wh)
 |3=> .fro 1 (iE s.p.months)
 |4=> .fro 1 (iE s.p.settle)
 |_=> .gone
def zD (s:MSt):AObj:= .adt MSt 5 y7 s
def zHt (n:Nat):Arena:=⟨List.replicate n slot0,[],n⟩
def book0:Book:=⟨zHt 250,[],[],[],0,0,[],false,false⟩
def newAC:Con:=con1 Nat (fun n=>[zA n]) (fun _=>[]) (fun n=>1≤n∧n≤4096) (fun _=> .tup [.nm 0 0,zA 0]) (fun n=>[qX (zHt n)])
def newBC:Con:=con1 Unit (fun _=>[]) (fun _=>[]) (fun _=>True) (fun _=> .nm 0 0) (fun _=>[zW book0])
def mH (p:Prd):MSt:=⟨p,List.replicate p.count book0,[]⟩
def newSC:Con where
 ι:=Prd
 pat:=fun p=>[tA p]
 pre:=fun _=>[]
 cnd:=fun p=>p.small
 alts:=fun p=>[{o:=Unit,res:=fun _=> .tup [.nm 0 0,zA 0],post:=fun _=>[zD (mH p)],rel:=fun _=>p.check=0},{o:=Unit,res:=fun _=> .tup [.d (.v (.pointer none)),zA p.check],post:=fun _=>[],rel:=fun _=>p.check≠0}]
def yLn (p:Prd):List SAnn:=[{ι:=Nat,slots:=fun j=>[(5,.nm 0 0),(27,zA j)],rows:=fun j=>(List.range 5).map (y7 ⟨p,List.replicate j book0,[]⟩)}]
def clSlotC:Con:=con1 (List Slot) (fun _=>[.own 0]) (fun l=>[.own 305 8 (l.map zP)]) (fun l=>l.length≤1000000) (fun _=> .own 1) (fun l=>[.own 305 8 (l.map zP),.own 305 8 (l.map zP)])
def clQueueC:Con:=con1 (List gM) (fun _=>[.own 0]) (fun l=>[.own 354 4 (l.map zM)]) (fun l=>l.length≤1000000) (fun _=> .own 1) (fun l=>[.own 354 4 (l.map zM),.own 354 4 (l.map zM)])
def clRungC:Con:=con1 (List y3) (fun _=>[.own 0]) (fun l=>[.own 301 2 (l.map zB)]) (fun l=>l.length≤1000000) (fun _=> .own 1) (fun l=>[.own 301 2 (l.map zB),.own 301 2 (l.map zB)])
def clIntC:Con:=con1 (List Int) (fun _=>[.own 0]) (fun l=>[.own 3 1 (iE l)]) (fun l=>l.length≤1000000) (fun _=> .own 1) (fun l=>[.own 3 1 (iE l),.own 3 1 (iE l)])
def z2q (f:Nat):Con:=con1 (List (Value×List D)) (fun _=>[.mp 0]) (fun es=>[.map es]) (fun _=>True) (fun _=> .mp 1) (fun es=>[.map es,.map es])
def clAtC:Con:=z2q 0
def clWhC:Con:=z2q 1
@[reducible] def Arena.small (a:Arena):Prop:=a.slots.length≤1000000∧a.queues.length≤1000000
@[reducible] def Book.small (b:Book):Prop:=b.a.small∧b.buys.length≤1000000∧b.sells.length≤1000000∧b.spare.length≤1000000
@[reducible] def MSt.small (s:MSt):Prop:=s.books.length≤1000000∧∀b∈s.books,b.small
def copyAC:Con:=con1 Arena (fun _=>[.nm 0 0]) (fun a=>[qX a]) Arena.small (fun _=> .nm 1 0) (fun a=>[qX a,qX a])
def copyBC:Con:=con1 Book (fun _=>[.nm 0 0]) (fun b=>[zW b]) Book.small (fun _=> .nm 1 0) (fun b=>[zW b,zW b])
def yHs:List SAnn:=[{ι:=Unit,slots:=fun _=>[],rows:=fun _=>[],un:=3}]
def copySC:Con:=con1 MSt (fun _=>[.nm 0 0]) (fun s=>[zD s]) MSt.small (fun _=> .nm 1 0) (fun s=>[zD s,zD s])
open Go Cv Go.Proofs
def yDg (n:Nat):Prop:=
 cnd (decide ((↑n:Int)<1)) (∃(a:Unit),False) (cnd (decide ((↑n:Int)>4096)) (∃(a:Unit),False) ((0≤(↑n:Int)∧(↑n:Int)≤(↑n:Int)∧(↑n:Int)≤9223372036854775807∧(↑(64:Nat):Int)*(↑n:Int)≤2 ^ (48:Nat))∧∃(a:Unit),(0:Int)=(0:Int)∧(↑n:Int)=(↑n:Int)∧List.map zP (List.replicate n slot0)=List.replicate (↑n:Int).toNat [D.v (.bool false),dI 0,dI 0,dI 0,D.v (.bool false),dI 0,dI 0,dI 0]∧([]:List (List D))=[]∧True))
def yLj (u:Unit):Prop:=
 ∃(i:Nat),(↑i:Int)=250∧(1≤i∧i≤4096)∧∀(o:Unit),True→∃(o:Unit),(0:Int)=(0:Int)∧(0:Int)=(0:Int)∧false=false∧false=false∧AObj.adt Arena 3 zE (zHt 250)=AObj.adt Arena 3 zE (zHt i)∧([]:List (List D))=[]∧([]:List (List D))=[]∧atE []=[]∧iE []=[]∧True
def zCl (a:Prd):Prop:=AObj.fro 1 (iE a.settle)=AObj.fro 1 (iE a.settle)∧AObj.fro 1 (iE a.months)=AObj.fro 1 (iE a.months)
def zGm (a:Prd) (b:Nat) (c:Unit):Prop:=(∃(d:Unit),(0:Int)=(0:Int)∧sb a.code=sb a.code∧a.tick=a.tick∧a.low=a.low∧a.high=a.high∧a.wide=a.wide∧a.rule=a.rule∧a.top=a.top∧a.least=a.least∧a.part=a.part∧AObj.objs 184 Book 6 zO (List.replicate a.count book0) none=AObj.objs 184 Book 6 zO (List.replicate b book0) none∧yM []=yM []∧AObj.fro 1 (iE a.months)=AObj.fro 1 (iE a.months)∧AObj.fro 1 (iE a.settle)=AObj.fro 1 (iE a.settle)∧a.check=0)∨∃(c:Unit),False
def zOi (a:Prd):Prop:=True∧True∧(0+(iE a.months).length)*(8:Nat)≤(140737488355328:Nat)∧True∧(0+(iE a.settle).length)*(8:Nat)≤(140737488355328:Nat)∧∃(b:Prd),sb b.code=sb a.code∧iE b.months=[]++iE a.months∧b.tick=a.tick∧b.low=a.low∧b.high=a.high∧b.wide=a.wide∧b.rule=a.rule∧b.top=a.top∧b.least=a.least∧b.part=a.part∧iE b.settle=[]++iE a.settle∧(yC b)∧∀(c:Unit),True→∃(d:Nat),(↑d:Int)=0∧sb a.code=sb a.code∧a.tick=a.tick∧a.low=a.low∧a.high=a.high∧a.wide=a.wide∧a.rule=a.rule∧a.top=a.top∧a.least=a.least∧a.part=a.part∧List.replicate d book0=[]∧(none:Option Nat)=none∧yM []=[]∧AObj.fro 1 (iE a.months)=AObj.fro 1 ([]++iE a.months)∧AObj.fro 1 (iE a.settle)=AObj.fro 1 ([]++iE a.settle)∧∃(e:Nat→Prop),∃(f:Nat→Nat),e d∧∀(g:Nat),e g→cnd (decide ((↑g:Int)<(↑b.count:Int))) (∃(h:Unit),True∧∀(j:Unit),True→True∧True∧∃(k:List Book),AObj.objs 184 Book 6 zO (List.replicate g book0) none=AObj.objs 184 Book 6 zO k none∧(k.length+1)*(8:Nat)≤(140737488355328:Nat)∧∃(l:Nat),(↑l:Int)=IntKind.i64.wrap ((↑g:Int)+1)∧sb a.code=sb a.code∧a.tick=a.tick∧a.low=a.low∧a.high=a.high∧a.wide=a.wide∧a.rule=a.rule∧a.top=a.top∧a.least=a.least∧a.part=a.part∧AObj.objs 184 Book 6 zO (List.replicate l book0) none=AObj.objs 184 Book 6 zO (k++[book0]) none∧yM []=yM []∧AObj.fro 1 (iE a.months)=AObj.fro 1 (iE a.months)∧AObj.fro 1 (iE a.settle)=AObj.fro 1 (iE a.settle)∧e l∧f l<f g∧AObj.fro 1 ([]++iE a.settle)=AObj.fro 1 ([]++iE a.settle)∧AObj.fro 1 ([]++iE a.months)=AObj.fro 1 ([]++iE a.months)∧Sx.AObj.cells [V.d (D.v (Value.string (sb a.code))),V.own ((0:Nat)+(1:Nat)+(1:Nat)+(1:Nat)+((0:Nat)-(0:Nat))+(1:Nat)+(1:Nat)),V.d (dI a.tick),V.d (dI a.low),V.d (dI a.high),V.d (dI a.wide),V.d (dI a.rule),V.d (dI a.top),V.d (dI a.least),V.d (dI a.part),V.own ((0:Nat)+(1:Nat)+(1:Nat)+(1:Nat)+((0:Nat)-(0:Nat))+(1:Nat)+(1:Nat)+1)] 26=Sx.AObj.cells [V.d (D.v (Value.string (sb a.code))),V.own ((0:Nat)+(1:Nat)+(1:Nat)+(1:Nat)+((0:Nat)-(0:Nat))+(1:Nat)+(1:Nat)),V.d (dI a.tick),V.d (dI a.low),V.d (dI a.high),V.d (dI a.wide),V.d (dI a.rule),V.d (dI a.top),V.d (dI a.least),V.d (dI a.part),V.own ((0:Nat)+(1:Nat)+(1:Nat)+(1:Nat)+((0:Nat)-(0:Nat))+(1:Nat)+(1:Nat)+1)] 26∧zCl a) (zGm a g c)
def yCy (p:Prd):Prop:=
 ∃(a:Prd),sb a.code=sb p.code∧iE a.months=iE p.months∧a.tick=p.tick∧a.low=p.low∧a.high=p.high∧a.wide=p.wide∧a.rule=p.rule∧a.top=p.top∧a.least=p.least∧a.part=p.part∧iE a.settle=iE p.settle∧(yC a)∧∀(b:Unit),True→cnd (a.check !=0) ((∃(c:Unit),False)∨∃(b:Unit),True∧p.check=a.check∧(p.check=0→False)) ((True∧True∧((0+(iE p.months).length)*(8:Nat)≤(140737488355328:Nat)∧True∧True∧(0+(iE p.settle).length)*(8:Nat)≤(140737488355328:Nat)∧∃(c:Prd),sb c.code=sb p.code∧iE c.months=[]++iE p.months∧c.tick=p.tick∧c.low=p.low∧c.high=p.high∧c.wide=p.wide∧c.rule=p.rule∧c.top=p.top∧c.least=p.least∧c.part=p.part∧iE c.settle=[]++iE p.settle∧(yC c)∧∀(d:Unit),True→∃(e:Nat),(↑e:Int)=0∧sb p.code=sb p.code∧p.tick=p.tick∧p.low=p.low∧p.high=p.high∧p.wide=p.wide∧p.rule=p.rule∧p.top=p.top∧p.least=p.least∧p.part=p.part∧List.replicate e book0=[]∧(none:Option Nat)=none∧yM []=[]∧AObj.fro 1 (iE p.months)=AObj.fro 1 ([]++iE p.months)∧AObj.fro 1 (iE p.settle)=AObj.fro 1 ([]++iE p.settle)∧∃(f:Nat→Prop),∃(g:Nat→Nat),f e∧∀(h:Nat),f h→cnd (decide ((↑h:Int)<(↑c.count:Int))) (∃(j:Unit),True∧∀(k:Unit),True→True∧True∧∃(l:List Book),AObj.objs 184 Book 6 zO (List.replicate h book0) none=AObj.objs 184 Book 6 zO l none∧(l.length+1)*(8:Nat)≤(140737488355328:Nat)∧∃(m:Nat),(↑m:Int)=IntKind.i64.wrap ((↑h:Int)+1)∧sb p.code=sb p.code∧p.tick=p.tick∧p.low=p.low∧p.high=p.high∧p.wide=p.wide∧p.rule=p.rule∧p.top=p.top∧p.least=p.least∧p.part=p.part∧AObj.objs 184 Book 6 zO (List.replicate m book0) none=AObj.objs 184 Book 6 zO (l++[book0]) none∧yM []=yM []∧AObj.fro 1 (iE p.months)=AObj.fro 1 (iE p.months)∧AObj.fro 1 (iE p.settle)=AObj.fro 1 (iE p.settle)∧f m∧g m<g h∧AObj.fro 1 ([]++iE p.settle)=AObj.fro 1 ([]++iE p.settle)∧AObj.fro 1 ([]++iE p.months)=AObj.fro 1 ([]++iE p.months)∧Sx.AObj.cells [V.d (D.v (Value.string (sb p.code))),V.own ((0:Nat)+(1:Nat)+(1:Nat)+(1:Nat)+((0:Nat)-(0:Nat))+1),V.d (dI p.tick),V.d (dI p.low),V.d (dI p.high),V.d (dI p.wide),V.d (dI p.rule),V.d (dI p.top),V.d (dI p.least),V.d (dI p.part),V.own ((0:Nat)+(1:Nat)+(1:Nat)+(1:Nat)+((0:Nat)-(0:Nat))+(1:Nat)+(1:Nat)+1)] 26=Sx.AObj.cells [V.d (D.v (Value.string (sb p.code))),V.own ((0:Nat)+(1:Nat)+(1:Nat)+(1:Nat)+((0:Nat)-(0:Nat))+1),V.d (dI p.tick),V.d (dI p.low),V.d (dI p.high),V.d (dI p.wide),V.d (dI p.rule),V.d (dI p.top),V.d (dI p.least),V.d (dI p.part),V.own ((0:Nat)+(1:Nat)+(1:Nat)+(1:Nat)+((0:Nat)-(0:Nat))+(1:Nat)+(1:Nat)+1)] 26∧zCl p) (zGm p h d))∧zOi p)∧True∧True∧zOi p)
def yBs (l:List Slot):Prop:=
 ∀(b:Bool),(b=true→List.map zP l=[])→cnd b (∃(o:Unit),List.map zP l=List.map zP l∧List.map zP l=[]∧True) ((0+(List.map zP l).length)*(64:Nat)≤(140737488355328:Nat)∧∃(o:Unit),List.map zP l=List.map zP l∧List.map zP l=[]++List.map zP l∧True)
def z2l (l:List gM):Prop:=
 ∀(b:Bool),(b=true→List.map zM l=[])→cnd b (∃(o:Unit),List.map zM l=List.map zM l∧List.map zM l=[]∧True) ((0+(List.map zM l).length)*(32:Nat)≤(140737488355328:Nat)∧∃(o:Unit),List.map zM l=List.map zM l∧List.map zM l=[]++List.map zM l∧True)
def z9b (l:List y3):Prop:=
 ∀(b:Bool),(b=true→List.map zB l=[])→cnd b (∃(o:Unit),List.map zB l=List.map zB l∧List.map zB l=[]∧True) ((0+(List.map zB l).length)*(16:Nat)≤(140737488355328:Nat)∧∃(o:Unit),List.map zB l=List.map zB l∧List.map zB l=[]++List.map zB l∧True)
def yGx (l:List Int):Prop:=
 ∀(b:Bool),(b=true→iE l=[])→cnd b (∃(o:Unit),iE l=iE l∧iE l=[]∧True) ((0+(iE l).length)*(8:Nat)≤(140737488355328:Nat)∧∃(o:Unit),iE l=iE l∧iE l=[]++iE l∧True)
def z3l (es:List (Value×List D)):Prop:=
 ∃(a:List (Value×List D)),a=es∧True∧∀(b:Unit),True→∃(c:Unit),es=a∧es=a∧True
theorem yGo (es:List (Value×List D)):z3l es=walk Tryz.prog ([(147,fE 240)]) 0 ([]) ([]) [] Tryz.f181 (Tryz.f181.body.getD .skip) (clAtC.pat es) (clAtC.pre es) (clAtC.alts es):=by kernel_rfl
theorem yGh (hG:GOk Tryz.prog ([(147,fE 240)])) (h:∀(es:List (Value×List D)),clAtC.cnd es→z3l es):clAtC.ok Tryz.prog 181:=dW mixed ([(147,fE 240)]) hG 0 (fun(es:List (Value×List D))=>[]) (fun(es:List (Value×List D))=>[]) [] Tryz.func181 (by kernel_rfl) (by kernel_rfl) (by kernel_rfl) (fun _=>by kernel_rfl) (fun(es:List (Value×List D)) hc=>Eq.mp (yGo es) (h es hc))
def z2n (es:List (Value×List D)):Prop:=
 ∃(a:List (Value×List D)),a=es∧True∧∀(b:Unit),True→∃(c:Unit),es=a∧es=a∧True
theorem yIy (es:List (Value×List D)):z2n es=walk Tryz.prog ([(147,fE 105)]) 0 ([]) ([]) [] Tryz.f145 (Tryz.f145.body.getD .skip) (clWhC.pat es) (clWhC.pre es) (clWhC.alts es):=by kernel_rfl
theorem yHh (hG:GOk Tryz.prog ([(147,fE 105)])) (h:∀(es:List (Value×List D)),clWhC.cnd es→z2n es):clWhC.ok Tryz.prog 145:=dW mixed ([(147,fE 105)]) hG 0 (fun(es:List (Value×List D))=>[]) (fun(es:List (Value×List D))=>[]) [] Tryz.func145 (by kernel_rfl) (by kernel_rfl) (by kernel_rfl) (fun _=>by kernel_rfl) (fun(es:List (Value×List D)) hc=>Eq.mp (yIy es) (h es hc))
def yGz (a:Arena):Prop:=
 ∃(i:List Slot),List.map zP i=List.map zP a.slots∧i.length≤1000000∧∀(o:Unit),True→a.free=a.free∧True∧∃(i_1:List gM),List.map zM i_1=List.map zM a.queues∧i_1.length≤1000000∧∀(o:Unit),True→a.free=a.free∧∃(o:Unit),a.free=a.free∧List.map zP a.slots=List.map zP i∧List.map zM a.queues=List.map zM i_1∧a.free=a.free∧List.map zP a.slots=List.map zP i∧List.map zM a.queues=List.map zM i_1∧True
def yIx (b:Book):Prop:=
 ∃(i:Arena),AObj.adt Arena 3 zE i=AObj.adt Arena 3 zE b.a∧(i.slots.length≤1000000∧i.queues.length≤1000000)∧∀(o:Unit),True→True∧True∧∃(i_1:List (Value×List D)),i_1=atE b.at_∧True∧∀(o:Unit),True→True∧∃(i_2:List Int),iE i_2=iE b.spare∧i_2.length≤1000000∧∀(o:Unit),True→∃(i_3:List y3),List.map zB i_3=List.map zB b.buys∧i_3.length≤1000000∧∀(o:Unit),True→∃(i_4:List y3),List.map zB i_4=List.map zB b.sells∧i_4.length≤1000000∧∀(o:Unit),True→∃(o:Unit),b.top1=b.top1∧b.top2=b.top2∧b.has1=b.has1∧b.has2=b.has2∧AObj.adt Arena 3 zE b.a=AObj.adt Arena 3 zE i∧List.map zB b.buys=List.map zB i_3∧List.map zB b.sells=List.map zB i_4∧atE b.at_=i_1∧iE b.spare=iE i_2∧b.top1=b.top1∧b.top2=b.top2∧b.has1=b.has1∧b.has2=b.has2∧AObj.adt Arena 3 zE b.a=AObj.adt Arena 3 zE i∧List.map zB b.buys=List.map zB i_3∧List.map zB b.sells=List.map zB i_4∧atE b.at_=i_1∧iE b.spare=iE i_2∧True
open Go Cv Go.Proofs
theorem yLt (n:Nat) (h:newAC.cnd n):yDg n:=by
 obtain⟨h1,h2⟩:1≤n∧n≤4096:=h
 unfold yDg dI
 refine zI (fun c=>by omega) fun c=>zI (fun c=>by omega) fun c=> ?_
 refine⟨⟨by omega,by omega,by omega,?_⟩,?_⟩
 ·have:(2:Int) ^ (48:Nat)=281474976710656:=by decide
  rw[this];omega
 ·refine⟨(),rfl,rfl,?_,rfl,trivial⟩
  rw[List.map_replicate];rfl
theorem yCf:newAC.ok Tryz.prog 179:=okw mixed gok0 0 (fun _=>[]) (fun _=>[]) [] Tryz.func179 yLt
theorem yAv:newBC.ok Tryz.prog 141:=okw (V:=yLj) mixed (gokc yCf gok0) 0 (fun _=>[]) (fun _=>[]) [] Tryz.func141 fun(u:Unit) _=>by
 refine⟨250,rfl,⟨by omega,by omega⟩,?_⟩;exact kp
theorem yLo (p:Prd) (h:newSC.cnd p):yCy p:=by
 unfold yCy zOi zGm zCl yC dI
 have hs:p.small:=h
 obtain⟨h1,h2,h3⟩:p.small:=h
 refine⟨p,?_⟩
 simp only[y6]
 (repeat'(first|exact rfl|exact trivial|assumption|apply And.intro|refine fun(_:Unit) (_:True)=>?_|refine Exists.intro () ?_|omega|(dsimp only;omega)))
 refine Cv.cnd.mk (fun c=> .inr ⟨(),trivial,kp,by simpa using c⟩) fun c=> ?_
 have c:p.check=0:=by simpa using c
 have hc:=xR p
 (repeat'(first|exact rfl|exact trivial|assumption|apply And.intro|refine fun(_:Unit) (_:True)=>?_|refine Exists.intro () ?_|omega|(dsimp only;omega)))
 all_goals(refine⟨p,?_⟩;(repeat'(first|exact rfl|exact trivial|assumption|apply And.intro|refine fun(_:Unit) (_:True)=>?_|refine Exists.intro () ?_|omega|(dsimp only;omega))))
 all_goals(refine⟨0,?_⟩;(repeat'(first|exact rfl|exact trivial|assumption|apply And.intro|refine fun(_:Unit) (_:True)=>?_|refine Exists.intro () ?_|omega|(dsimp only;omega))))
 all_goals(refine⟨fun j=>j≤p.count,fun j=>p.count-j,by omega,fun j hj=>zI (fun hlt=> ?_) (fun hlt=> ?_)⟩;all_goals dsimp only at hj hlt)
 all_goals first
  |(refine .inl ⟨(),?_⟩
    obtain rfl:j=p.count:=by omega
    (repeat'(first|exact rfl|exact trivial|assumption|apply And.intro|refine fun(_:Unit) (_:True)=>?_|refine Exists.intro () ?_|omega|(dsimp only;omega))))
  |(refine⟨(),trivial,fun _ _=>⟨trivial,trivial,List.replicate j book0,rfl,?_,j+1,?_⟩⟩
    ·rw[yRp];omega
    ·rw[w64 (by omega),← List.replicate_succ']
     (repeat'(first|exact rfl|exact trivial|assumption|apply And.intro|refine fun(_:Unit) (_:True)=>?_|refine Exists.intro () ?_|omega|(dsimp only;omega))))
theorem yBp:newSC.ok Tryz.prog 98:=okw mixed (gokc nG (gokc fH (gokc yAv gok0))) 0 (fun _=>[]) (fun p=>yLn p) [] Tryz.func98 yLo
theorem zYx:clSlotC.ok Tryz.prog 216:=okw (V:=yBs) mixed gok0 0 (fun _=>[]) (fun _=>[]) [] Tryz.func216 fun(l:List Slot) h=>by
 have h:l.length≤1000000:=h
 exact fun b hb=>Cv.cnd.mk (fun e=>⟨(),rfl,hb e,trivial⟩) (fun _=>⟨by rw[yPr,yOs];omega,(),rfl,rfl,trivial⟩)
theorem zUn:clQueueC.ok Tryz.prog 217:=okw (V:=z2l) mixed gok0 0 (fun _=>[]) (fun _=>[]) [] Tryz.func217 fun(l:List gM) h=>by
 have h:l.length≤1000000:=h
 exact fun b hb=>Cv.cnd.mk (fun e=>⟨(),rfl,hb e,trivial⟩) (fun _=>⟨by rw[yPr,yOs];omega,(),rfl,rfl,trivial⟩)
theorem z0h:clRungC.ok Tryz.prog 182:=okw (V:=z9b) mixed gok0 0 (fun _=>[]) (fun _=>[]) [] Tryz.func182 fun(l:List y3) h=>by
 have h:l.length≤1000000:=h
 exact fun b hb=>Cv.cnd.mk (fun e=>⟨(),rfl,hb e,trivial⟩) (fun _=>⟨by rw[yPr,yOs];omega,(),rfl,rfl,trivial⟩)
theorem z7s:clIntC.ok Tryz.prog 130:=okw (V:=yGx) mixed gok0 0 (fun _=>[]) (fun _=>[]) [] Tryz.func130 fun(l:List Int) h=>by
 have h:l.length≤1000000:=h
 exact fun b hb=>Cv.cnd.mk (fun e=>⟨(),rfl,hb e,trivial⟩) (fun _=>⟨by rw[yPr,y6];omega,(),rfl,rfl,trivial⟩)
theorem zKj (t:Nat):(fE t).ok Tryz.prog 147:=zUs Tryz.func147 (by kernel_rfl) (by kernel_rfl) (by kernel_rfl) (by kernel_rfl) t
theorem yBz:clAtC.ok Tryz.prog 181:=yGh (gokc (zKj _) gok0) fun es _=>by
 unfold z3l
 refine⟨es,?_⟩;exact kp
theorem yAa:clWhC.ok Tryz.prog 145:=yHh (gokc (zKj _) gok0) fun es _=>by
 unfold z2n
 refine⟨es,?_⟩;exact kp
theorem z3m:copyAC.ok Tryz.prog 180:=okw (V:=yGz) mixed (gokc zYx (gokc zUn gok0)) 0 (fun _=>[]) (fun _=>[]) [0] Tryz.func180 fun(a:Arena) h=>by
 obtain⟨h1,h2⟩:a.small:=h
 refine⟨a.slots,?_⟩;(repeat'(first|exact rfl|exact trivial|assumption|apply And.intro|refine fun(_:Unit) (_:True)=>?_|refine Exists.intro () ?_|omega|(dsimp only;omega)))
 refine⟨a.queues,?_⟩;exact kp
theorem z4g:copyBC.ok Tryz.prog 146:=okw (V:=yIx) mixed (gokc z3m (gokc yBz (gokc z7s (gokc z0h gok0)))) 0 (fun _=>[]) (fun _=>yHs) [0] Tryz.func146 fun(b:Book) h=>by
 obtain⟨⟨h1,h1'⟩,h2,h3,h4⟩:b.small:=h
 refine⟨b.a,?_⟩;(repeat'(first|exact rfl|exact trivial|assumption|apply And.intro|refine fun(_:Unit) (_:True)=>?_|refine Exists.intro () ?_|omega|(dsimp only;omega)))
 refine⟨atE b.at_,?_⟩;(repeat'(first|exact rfl|exact trivial|assumption|apply And.intro|refine fun(_:Unit) (_:True)=>?_|refine Exists.intro () ?_|omega|(dsimp only;omega)))
 refine⟨b.spare,?_⟩;(repeat'(first|exact rfl|exact trivial|assumption|apply And.intro|refine fun(_:Unit) (_:True)=>?_|refine Exists.intro () ?_|omega|(dsimp only;omega)))
 refine⟨b.buys,?_⟩;(repeat'(first|exact rfl|exact trivial|assumption|apply And.intro|refine fun(_:Unit) (_:True)=>?_|refine Exists.intro () ?_|omega|(dsimp only;omega)))
 refine⟨b.sells,?_⟩;exact kp
open Go Cv Go.Proofs
structure ArN where
 a:Arena
 n:Int
def Arena.qAt (a:Arena) (n:Int):gM:=if 0≤n∧n<a.queues.length then a.queues.getD n.toNat ⟨0,0,0,0⟩else⟨0,0,0,0⟩
def atotalC:Con:=con1 ArN (fun i=>[.nm 0 0,zA i.n]) (fun i=>[qX i.a]) (fun i=>True) (fun i=>zA (i.a.qAt i.n).total) (fun i=>[qX i.a])
def acountC:Con:=con1 ArN (fun i=>[.nm 0 0,zA i.n]) (fun i=>[qX i.a]) (fun i=>True) (fun i=>zA (i.a.qAt i.n).count) (fun i=>[qX i.a])
def bisC:Con:=con1 Int (fun n=>[zA n]) (fun _=>[]) (fun _=>True) (fun n=>yB (decide (n=1)||decide (n=2))) (fun _=>[])
structure BkR where
 b:Book
 r:y3
def Book.told (b:Book) (r:y3):Lv:=⟨r.price,(b.a.qAt r.queue).total,(b.a.qAt r.queue).count⟩
@[reducible] def Book.cntOk (b:Book):Prop:=∀q∈b.a.queues,i64r q.count
def toldC:Con:=con1 BkR (fun i=>[.nm 0 0,.agg [zA i.r.price,zA i.r.queue]]) (fun i=>[zW i.b]) (fun i=>i.b.cntOk) (fun i=>lvV (i.b.told i.r)) (fun i=>[zW i.b])
def Book.best (b:Book) (l:List y3):Lv×Bool:=match l with
 |[]=>(⟨0,0,0⟩,false)
 |r::_=>(b.told r,true)
structure BkS where
 side:Bool
 b:Book
def Book.side (b:Book) (s:Bool):List y3:=if s then b.sells else b.buys
@[reducible] def zTh (b:Book) (l:List y3):V:= .tup [lvV (b.best l).1,yB (b.best l).2]
def best1C:Con:=con1 Book (fun _=>[.nm 0 0,zA 1]) (fun b=>[zW b]) Book.cntOk (fun b=>zTh b b.buys) (fun b=>[zW b])
def best2C:Con:=con1 Book (fun _=>[.nm 0 0,zA 2]) (fun b=>[zW b]) Book.cntOk (fun b=>zTh b b.sells) (fun b=>[zW b])
def zC (s:Bool):Int:=if s then 2 else 1
def bestC:Con:=con1 BkS (fun i=>[.nm 0 0,zA (zC i.side)]) (fun i=>[zW i.b]) (fun i=>i.b.cntOk) (fun i=>zTh i.b (i.b.side i.side)) (fun i=>[zW i.b])
structure Top where
 has1:Bool
 has2:Bool
 p1:Int
 p2:Int
 q1:Int
 q2:Int
 deriving DecidableEq
def zU (t:Top):List D:=[.v (.bool t.has1),.v (.bool t.has2),.v (.int .i64 t.p1),.v (.int .i64 t.p2),.v (.int .i64 t.q1),.v (.int .i64 t.q2)]
def top0:Top:=⟨false,false,0,0,0,0⟩
def Top.buy (t:Top) (x:Lv×Bool):Top:=if x.2 then{t with has1:=true,p1:=x.1.price,q1:=x.1.qty}else t
def Top.sell (t:Top) (x:Lv×Bool):Top:=if x.2 then{t with has2:=true,p2:=x.1.price,q2:=x.1.qty}else t
def Book.top (b:Book):Top:=(top0.buy (b.best b.buys)).sell (b.best b.sells)
def MSt.tops (s:MSt):List Top:=s.books.map Book.top
@[reducible] def MSt.cntOk (s:MSt):Prop:=s.books.length≤1000000∧∀b∈s.books,b.cntOk
def topsC:Con:=con1 MSt (fun _=>[.nm 0 0]) (fun s=>[zD s]) MSt.cntOk (fun s=> .own 1) (fun s=>[zD s,.own 269 6 (s.tops.map zU)])
def y9 (s:MSt) (j:Nat) (x:Top):List Top:=(s.tops.take j)++x::List.replicate (s.books.length-j-1) top0
def xE (s:MSt) (j:Nat):List Top:=(s.tops.take j)++List.replicate (s.books.length-j) top0
def yDw (s:MSt):List SAnn:=[
 {ι:=Nat,slots:=fun j=>[(3,.own 0),(21,zA j)],rows:=fun j=>[.own 269 6 ((xE s j).map zU)]},
 {ι:=Unit,slots:=fun _=>[],rows:=fun _=>[],un:=3}]
def yEl (s:MSt):List (Nat×SAnn):=[(15,{ι:=Nat×Top,slots:=fun x=>[(3,.own 0)],slots0:=fun x=>[(3,.own 0)],rows0:=fun x=>[.own 269 6 ((y9 s x.1 x.2).map zU)],rows:=fun x=>[.own 269 6 ((y9 s x.1 x.2).map zU)]})]
def yGj (s:MSt):List SAnn:=[{ι:=Nat,slots:=fun j=>[(3,.nm 0 0),(22,zA j)],rows:=fun j=>(List.range 5).map (y7 ⟨s.p,s.books.take j,s.wh⟩)}]
open Go Cv Go.Proofs
def qM (a:ArN):Prop:=a.a.free=a.a.free∧List.map zP a.a.slots=List.map zP a.a.slots∧List.map zM a.a.queues=List.map zM a.a.queues∧True
def n7 (a:ArN):Prop:=∃(b:Unit),(a.a.qAt a.n).total=0∧qM a
def vU (a:ArN):=(↑(List.map zM a.a.queues).length:Int)
def zVj (i:ArN):Prop:=
 cnd (decide (i.n≥0)) (cnd (!decide (i.n<(vU i))) (n7 i) ((0≤i.n∧i.n<(vU i))∧∃(a:Int),zF (List.map zM i.a.queues) i.n.toNat ((0:Nat)+(2:Nat)) 1=some [dI a]∧∃(b:Unit),(i.a.qAt i.n).total=a∧qM i)) (n7 i)
def n6 (a:ArN):Prop:=∃(b:Unit),(a.a.qAt a.n).count=0∧qM a
def zYk (i:ArN):Prop:=
 cnd (decide (i.n≥0)) (cnd (!decide (i.n<(vU i))) (n6 i) ((0≤i.n∧i.n<(vU i))∧∃(a:Int),zF (List.map zM i.a.queues) i.n.toNat ((0:Nat)+(3:Nat)) 1=some [dI a]∧∃(b:Unit),(i.a.qAt i.n).count=a∧qM i)) (n6 i)
def yKg (n:Int):Prop:=
 cnd (n==1) (∃(a:Unit),(decide (n=1)||decide (n=2))=true∧True) (∃(a:Unit),(decide (n=1)||decide (n=2))=(n==2)∧True)
def yLp (i:BkR):Prop:=
 ∃(i_1:ArN),i_1.n=i.r.queue∧AObj.adt Arena 3 zE i_1.a=AObj.adt Arena 3 zE i.b.a∧True∧∀(o:Unit),True→i.r.queue=i.r.queue∧True∧i.r.price=i.r.price∧∃(i_2:ArN),i_2.n=i.r.queue∧AObj.adt Arena 3 zE i_2.a=AObj.adt Arena 3 zE i_1.a∧True∧∀(o:Unit),True→i.r.price=i.r.price∧∃(o:Unit),i.r.price=i.r.price∧(i.b.a.qAt i.r.queue).total=(i_1.a.qAt i_1.n).total∧(i.b.a.qAt i.r.queue).count=(i_2.a.qAt i_2.n).count∧i.b.top1=i.b.top1∧i.b.top2=i.b.top2∧i.b.has1=i.b.has1∧i.b.has2=i.b.has2∧AObj.adt Arena 3 zE i.b.a=AObj.adt Arena 3 zE i_2.a∧List.map zB i.b.buys=List.map zB i.b.buys∧List.map zB i.b.sells=List.map zB i.b.sells∧atE i.b.at_=atE i.b.at_∧iE i.b.spare=iE i.b.spare∧True
def yIr (b:Book):Prop:=
 ∃(i:Int),i=1∧True∧∀(o:Unit),True→cnd (!(decide (i=1)||decide (i=2))) (∃(o:Unit),(b.best b.buys).fst.price=0∧(b.best b.buys).fst.qty=0∧(b.best b.buys).fst.count=0∧(b.best b.buys).snd=false∧b.top1=b.top1∧b.top2=b.top2∧b.has1=b.has1∧b.has2=b.has2∧AObj.adt Arena 3 zE b.a=AObj.adt Arena 3 zE b.a∧List.map zB b.buys=List.map zB b.buys∧List.map zB b.sells=List.map zB b.sells∧atE b.at_=atE b.at_∧iE b.spare=iE b.spare∧True) (cnd ((↑(List.map zB b.buys).length:Int)==0) (∃(o:Unit),(b.best b.buys).fst.price=0∧(b.best b.buys).fst.qty=0∧(b.best b.buys).fst.count=0∧(b.best b.buys).snd=false∧b.top1=b.top1∧b.top2=b.top2∧b.has1=b.has1∧b.has2=b.has2∧AObj.adt Arena 3 zE b.a=AObj.adt Arena 3 zE b.a∧List.map zB b.buys=List.map zB b.buys∧List.map zB b.sells=List.map zB b.sells∧atE b.at_=atE b.at_∧iE b.spare=iE b.spare∧True) (((0:Int)≤(0:Int)∧0<(↑(List.map zB b.buys).length:Int))∧∃(n:Int),∃(n_1:Int),zF (List.map zB b.buys) (Int.toNat 0) 0 2=some [D.v (.int .i64 n),D.v (.int .i64 n_1)]∧∃(i:BkR),i.r.price=n∧i.r.queue=n_1∧i.b.top1=b.top1∧i.b.top2=b.top2∧i.b.has1=b.has1∧i.b.has2=b.has2∧AObj.adt Arena 3 zE i.b.a=AObj.adt Arena 3 zE b.a∧List.map zB i.b.buys=List.map zB b.buys∧List.map zB i.b.sells=List.map zB b.sells∧atE i.b.at_=atE b.at_∧iE i.b.spare=iE b.spare∧(∀(q:gM),q∈i.b.a.queues→(-9223372036854775808)≤q.count∧q.count≤9223372036854775807)∧∀(o:Unit),True→∃(o:Unit),(b.best b.buys).fst.price=i.r.price∧(b.best b.buys).fst.qty=(i.b.a.qAt i.r.queue).total∧(b.best b.buys).fst.count=(i.b.a.qAt i.r.queue).count∧(b.best b.buys).snd=true∧zW b=zW i.b∧True))
def yGw (b:Book):Prop:=
 ∃(i:Int),i=2∧True∧∀(o:Unit),True→cnd (!(decide (i=1)||decide (i=2))) (∃(o:Unit),(b.best b.sells).fst.price=0∧(b.best b.sells).fst.qty=0∧(b.best b.sells).fst.count=0∧(b.best b.sells).snd=false∧b.top1=b.top1∧b.top2=b.top2∧b.has1=b.has1∧b.has2=b.has2∧AObj.adt Arena 3 zE b.a=AObj.adt Arena 3 zE b.a∧List.map zB b.buys=List.map zB b.buys∧List.map zB b.sells=List.map zB b.sells∧atE b.at_=atE b.at_∧iE b.spare=iE b.spare∧True) (cnd ((↑(List.map zB b.sells).length:Int)==0) (∃(o:Unit),(b.best b.sells).fst.price=0∧(b.best b.sells).fst.qty=0∧(b.best b.sells).fst.count=0∧(b.best b.sells).snd=false∧b.top1=b.top1∧b.top2=b.top2∧b.has1=b.has1∧b.has2=b.has2∧AObj.adt Arena 3 zE b.a=AObj.adt Arena 3 zE b.a∧List.map zB b.buys=List.map zB b.buys∧List.map zB b.sells=List.map zB b.sells∧atE b.at_=atE b.at_∧iE b.spare=iE b.spare∧True) (((0:Int)≤(0:Int)∧0<(↑(List.map zB b.sells).length:Int))∧∃(n:Int),∃(n_1:Int),zF (List.map zB b.sells) (Int.toNat 0) 0 2=some [D.v (.int .i64 n),D.v (.int .i64 n_1)]∧∃(i:BkR),i.r.price=n∧i.r.queue=n_1∧i.b.top1=b.top1∧i.b.top2=b.top2∧i.b.has1=b.has1∧i.b.has2=b.has2∧AObj.adt Arena 3 zE i.b.a=AObj.adt Arena 3 zE b.a∧List.map zB i.b.buys=List.map zB b.buys∧List.map zB i.b.sells=List.map zB b.sells∧atE i.b.at_=atE b.at_∧iE i.b.spare=iE b.spare∧(∀(q:gM),q∈i.b.a.queues→(-9223372036854775808)≤q.count∧q.count≤9223372036854775807)∧∀(o:Unit),True→∃(o:Unit),(b.best b.sells).fst.price=i.r.price∧(b.best b.sells).fst.qty=(i.b.a.qAt i.r.queue).total∧(b.best b.sells).fst.count=(i.b.a.qAt i.r.queue).count∧(b.best b.sells).snd=true∧zW b=zW i.b∧True))
def zBa (a:MSt):Prop:=Sx.AObj.map (yM a.wh)=Sx.AObj.map (yM a.wh)∧AObj.fro 1 (iE a.p.months)=AObj.fro 1 (iE a.p.months)∧AObj.fro 1 (iE a.p.settle)=AObj.fro 1 (iE a.p.settle)
def eU (a:Nat×Top→Prop) (b:Nat×Top) (c:MSt) (d:Nat) (e:Book):Prop:=a b∧AObj.own 3 1 [[dI 1],[dI 2]]=AObj.own 3 1 [[dI 1],[dI 2]]∧Sx.AObj.cells (wT (qQ 0 1 5) [sV c.p.code,V.own 3,zA c.p.tick,zA c.p.low,zA c.p.high,zA c.p.wide,zA c.p.rule,zA c.p.top,zA c.p.least,zA c.p.part,V.own 4,V.own 1,V.mp 2]) (182:TypeId)=Sx.AObj.cells (wT (qQ 0 1 5) [sV c.p.code,V.own 3,zA c.p.tick,zA c.p.low,zA c.p.high,zA c.p.wide,zA c.p.rule,zA c.p.top,zA c.p.least,zA c.p.part,V.own 4,V.own 1,V.mp 2]) (182:TypeId)∧AObj.objs 184 Book 6 zO (c.books.set (↑d:Int).toNat e) none=AObj.objs 184 Book 6 zO c.books none∧zBa c
def zHd (a:MSt) (b:Nat×Top) (c:Nat×Top→Prop) (d:Nat) (e:Book):Prop:=∃(f:Nat×Top),List.map zU (y9 a f.fst f.snd)=List.map zU (y9 a b.fst b.snd)∧eU c f a d e
def wA (a:MSt) (b:Nat×Top):=(List.map zU (y9 a b.fst b.snd))
def fQ (a:MSt) (b:Nat×Top) (c:Nat):=(yA (wA a b) (↑c:Int).toNat ((0:Nat)+(0:Nat)+(nat_lit 0+nat_lit 1) % ((2:Int) ^ IntKind.i64.bits).natAbs*1) [D.v (.bool true)])
def zR (a:BkS):=(a.b.best (a.b.side a.side))
def gE (a:BkS):=((zR a).fst.price)
def dM (a:MSt) (b:Nat×Top) (c:Nat) (d:BkS):=(yA (fQ a b c) (↑c:Int).toNat ((0:Nat)+(2:Nat)+(nat_lit 0+nat_lit 1) % ((2:Int) ^ IntKind.i64.bits).natAbs*1) [dI (gE d)])
def lE (a:Nat) (b:MSt) (c:Nat×Top) (d:BkS):Prop:=(0≤(↑a:Int)∧(↑a:Int)<(↑(dM b c a d).length:Int))∧(↑a:Int).toNat=(↑a:Int).toNat
def fK (a:MSt) (b:Nat×Top) (c:Nat):=(yA (wA a b) (↑c:Int).toNat ((0:Nat)+(0:Nat)+nat_lit 0*1) [D.v (.bool true)])
def uW (a:MSt) (b:Nat×Top) (c:Nat) (d:BkS):=(yA (fK a b c) (↑c:Int).toNat ((0:Nat)+(2:Nat)+nat_lit 0*1) [dI (gE d)])
def eH (a:Nat) (b:MSt) (c:Nat×Top) (d:BkS):Prop:=(0≤(↑a:Int)∧(↑a:Int)<(↑(uW b c a d).length:Int))∧(↑a:Int).toNat=(↑a:Int).toNat
def fS (a:Nat) (b:MSt) (c:Nat×Top):Prop:=(0≤(↑a:Int)∧(↑a:Int)<(↑(fQ b c a).length:Int))∧(↑a:Int).toNat=(↑a:Int).toNat
def fL (a:Nat) (b:MSt) (c:Nat×Top):Prop:=(0≤(↑a:Int)∧(↑a:Int)<(↑(fK b c a).length:Int))∧(↑a:Int).toNat=(↑a:Int).toNat
def p7 (a:MSt):Prop:=0≤(↑a.books.length:Int)∧(↑a.books.length:Int)≤(↑a.books.length:Int)∧(↑a.books.length:Int)≤9223372036854775807∧(↑(40:Nat):Int)*(↑a.books.length:Int)≤2 ^ (48:Nat)
def vV:Prop:=0≤IntKind.i64.wrap ((0:Int)+(1:Int))∧IntKind.i64.wrap ((0:Int)+(1:Int))<(↑(2:Nat):Int)
def jM (a:BkS):Prop:=∀(b:gM),b∈a.b.a.queues→(-9223372036854775808)≤b.count∧b.count≤9223372036854775807
def xS (a:Nat) (b:MSt) (c:Nat×Top):Prop:=0≤(↑a:Int)∧(↑a:Int)<(↑(wA b c).length:Int)
def wD (a:BkS):=((zR a).fst.qty)
def yDn (s:MSt):Prop:=
 (p7 s)∧∃(a:Nat),(↑a:Int)=0∧List.map zU (xE s a)=List.replicate (↑s.books.length:Int).toNat [D.v (.bool false),D.v (.bool false),dI 0,dI 0,dI 0,dI 0]∧∃(b:Nat→Prop),∃(c:Nat→Nat),b a∧∀(d:Nat),b d→cnd (decide ((↑d:Int)<(↑s.books.length:Int))) ((0≤(↑d:Int)∧(↑d:Int)<(↑s.books.length:Int))∧(↑d:Int).toNat<s.books.length∧∃(e:Nat×Top),List.map zU (y9 s e.fst e.snd)=List.map zU (xE s d)∧∃(f:Nat×Top→Prop),(((0:Int)≤(0:Int)∧0<(↑(2:Nat):Int))∧∃(g:Int),zF [[dI 1],[dI 2]] (Int.toNat 0) 0 1=some [dI g]∧∃(h:Book),s.books[(↑d:Int).toNat]?=some h∧∃(j:BkS),zC j.side=g∧zW j.b=zW h∧(jM j)∧∀(k:Unit),True→∃(l:Book),zW j.b=zW l∧(↑d:Int).toNat=(↑d:Int).toNat∧(↑d:Int).toNat<s.books.length∧cnd (zR j).snd ((xS d s e)∧(xS d s e)∧(xS d s e)∧(↑d:Int).toNat<(wA s e).length∧(fL d s e)∧(fL d s e)∧(zR j).fst.qty=(zR j).fst.qty∧(zR j).fst.price=(zR j).fst.price∧(↑d:Int).toNat<(fK s e d).length∧(eH d s e j)∧(zR j).fst.qty=(zR j).fst.qty∧(↑d:Int).toNat<(uW s e d j).length∧∃(m:Nat×Top),List.map zU (y9 s m.fst m.snd)=yA (uW s e d j) (↑d:Int).toNat ((0:Nat)+(4:Nat)+nat_lit 0*1) [dI (wD j)]∧eU f m s d l) (zHd s e f d l))∧∀(g:Nat×Top),f g→∃(h:Nat×Top),List.map zU (y9 s h.fst h.snd)=List.map zU (y9 s g.fst g.snd)∧∃(j:Nat×Top→Prop),((vV)∧∃(k:Int),zF [[dI 1],[dI 2]] (IntKind.i64.wrap ((0:Int)+(1:Int))).toNat 0 1=some [dI k]∧∃(l:Book),s.books[(↑d:Int).toNat]?=some l∧∃(m:BkS),zC m.side=k∧zW m.b=zW l∧(jM m)∧∀(n:Unit),True→∃(p:Book),zW m.b=zW p∧(↑d:Int).toNat=(↑d:Int).toNat∧(↑d:Int).toNat<s.books.length∧cnd (zR m).snd ((xS d s h)∧(xS d s h)∧(xS d s h)∧(↑d:Int).toNat<(wA s h).length∧(fS d s h)∧(fS d s h)∧(zR m).fst.qty=(zR m).fst.qty∧(zR m).fst.price=(zR m).fst.price∧(↑d:Int).toNat<(fQ s h d).length∧(lE d s h m)∧(zR m).fst.qty=(zR m).fst.qty∧(↑d:Int).toNat<(dM s h d m).length∧∃(q:Nat×Top),List.map zU (y9 s q.fst q.snd)=yA (dM s h d m) (↑d:Int).toNat ((0:Nat)+(4:Nat)+(nat_lit 0+nat_lit 1) % ((2:Int) ^ IntKind.i64.bits).natAbs*1) [dI (wD m)]∧eU j q s d p) (zHd s h j d p))∧∀(k:Nat×Top),j k→∃(l:Nat),(↑l:Int)=IntKind.i64.wrap ((↑d:Int)+1)∧List.map zU (xE s l)=List.map zU (y9 s k.fst k.snd)∧b l∧c l<c d∧Sx.AObj.cells (wT (qQ 0 1 5) [sV s.p.code,V.own 3,zA s.p.tick,zA s.p.low,zA s.p.high,zA s.p.wide,zA s.p.rule,zA s.p.top,zA s.p.least,zA s.p.part,V.own 4,V.own 1,V.mp 2]) (182:TypeId)=Sx.AObj.cells (wT (qQ 0 1 5) [sV s.p.code,V.own 3,zA s.p.tick,zA s.p.low,zA s.p.high,zA s.p.wide,zA s.p.rule,zA s.p.top,zA s.p.least,zA s.p.part,V.own 4,V.own 1,V.mp 2]) (182:TypeId)∧AObj.objs 184 Book 6 zO s.books none=AObj.objs 184 Book 6 zO s.books none∧zBa s) (∃(e:Unit),sb s.p.code=sb s.p.code∧s.p.tick=s.p.tick∧s.p.low=s.p.low∧s.p.high=s.p.high∧s.p.wide=s.p.wide∧s.p.rule=s.p.rule∧s.p.top=s.p.top∧s.p.least=s.p.least∧s.p.part=s.p.part∧AObj.objs 184 Book 6 zO s.books none=AObj.objs 184 Book 6 zO s.books none∧yM s.wh=yM s.wh∧AObj.fro 1 (iE s.p.months)=AObj.fro 1 (iE s.p.months)∧AObj.fro 1 (iE s.p.settle)=AObj.fro 1 (iE s.p.settle)∧List.map zU s.tops=List.map zU (xE s d)∧True)
def yGa (s:MSt):Prop:=
 ∃(i:List (Value×List D)),i=yM s.wh∧True∧∀(o:Unit),True→(sb s.p.code=sb s.p.code∧True∧s.p.tick=s.p.tick∧s.p.low=s.p.low∧s.p.high=s.p.high∧s.p.wide=s.p.wide∧s.p.rule=s.p.rule∧s.p.top=s.p.top∧s.p.least=s.p.least∧s.p.part=s.p.part∧True∧True)∧∃(i0:Nat),(↑i0:Int)=0∧sb s.p.code=sb s.p.code∧s.p.tick=s.p.tick∧s.p.low=s.p.low∧s.p.high=s.p.high∧s.p.wide=s.p.wide∧s.p.rule=s.p.rule∧s.p.top=s.p.top∧s.p.least=s.p.least∧s.p.part=s.p.part∧List.take i0 s.books=[]∧(none:Option Nat)=none∧yM s.wh=i∧AObj.fro 1 (iE s.p.months)=AObj.fro 1 (iE s.p.months)∧AObj.fro 1 (iE s.p.settle)=AObj.fro 1 (iE s.p.settle)∧∃(I:Nat→Prop),∃(μ:Nat→Nat),I i0∧∀(i_1:Nat),I i_1→cnd (decide ((↑i_1:Int)<(↑s.books.length:Int))) ((0≤(↑i_1:Int)∧(↑i_1:Int)<(↑s.books.length:Int))∧(↑i_1:Int).toNat<s.books.length∧∃(x:Book),s.books[(↑i_1:Int).toNat]?=some x∧∃(i_2:Book),zW i_2=zW x∧((i_2.a.slots.length≤1000000∧i_2.a.queues.length≤1000000)∧i_2.buys.length≤1000000∧i_2.sells.length≤1000000∧i_2.spare.length≤1000000)∧∀(o:Unit),True→∃(x:Book),zW i_2=zW x∧(↑i_1:Int).toNat=(↑i_1:Int).toNat∧(↑i_1:Int).toNat<s.books.length∧True∧True∧∃(l1':List Book),AObj.objs 184 Book 6 zO (List.take i_1 s.books) none=AObj.objs 184 Book 6 zO l1' none∧(l1'.length+1)*(8:Nat)≤(140737488355328:Nat)∧∃(i':Nat),(↑i':Int)=IntKind.i64.wrap ((↑i_1:Int)+1)∧sb s.p.code=sb s.p.code∧s.p.tick=s.p.tick∧s.p.low=s.p.low∧s.p.high=s.p.high∧s.p.wide=s.p.wide∧s.p.rule=s.p.rule∧s.p.top=s.p.top∧s.p.least=s.p.least∧s.p.part=s.p.part∧AObj.objs 184 Book 6 zO (List.take i' s.books) none=AObj.objs 184 Book 6 zO (l1'++[i_2]) none∧yM s.wh=yM s.wh∧AObj.fro 1 (iE s.p.months)=AObj.fro 1 (iE s.p.months)∧AObj.fro 1 (iE s.p.settle)=AObj.fro 1 (iE s.p.settle)∧I i'∧μ i'<μ i_1∧Sx.AObj.map i=Sx.AObj.map i∧Sx.AObj.cells (wT (qQ 0 1 5) [sV s.p.code,V.own 3,zA s.p.tick,zA s.p.low,zA s.p.high,zA s.p.wide,zA s.p.rule,zA s.p.top,zA s.p.least,zA s.p.part,V.own 4,V.own 1,V.mp 2]) (182:TypeId)=Sx.AObj.cells (wT (qQ 0 1 5) [sV s.p.code,V.own 3,zA s.p.tick,zA s.p.low,zA s.p.high,zA s.p.wide,zA s.p.rule,zA s.p.top,zA s.p.least,zA s.p.part,V.own 4,V.own 1,V.mp 2]) (182:TypeId)∧AObj.objs 184 Book 6 zO (s.books.set (↑i_1:Int).toNat x) none=AObj.objs 184 Book 6 zO s.books none∧AObj.fro 1 (iE s.p.months)=AObj.fro 1 (iE s.p.months)∧AObj.fro 1 (iE s.p.settle)=AObj.fro 1 (iE s.p.settle)) (∃(o:Unit),sb s.p.code=sb s.p.code∧s.p.tick=s.p.tick∧s.p.low=s.p.low∧s.p.high=s.p.high∧s.p.wide=s.p.wide∧s.p.rule=s.p.rule∧s.p.top=s.p.top∧s.p.least=s.p.least∧s.p.part=s.p.part∧AObj.objs 184 Book 6 zO s.books none=AObj.objs 184 Book 6 zO s.books none∧yM s.wh=i∧AObj.fro 1 (iE s.p.months)=AObj.fro 1 (iE s.p.months)∧AObj.fro 1 (iE s.p.settle)=AObj.fro 1 (iE s.p.settle)∧sb s.p.code=sb s.p.code∧s.p.tick=s.p.tick∧s.p.low=s.p.low∧s.p.high=s.p.high∧s.p.wide=s.p.wide∧s.p.rule=s.p.rule∧s.p.top=s.p.top∧s.p.least=s.p.least∧s.p.part=s.p.part∧AObj.objs 184 Book 6 zO s.books none=AObj.objs 184 Book 6 zO (List.take i_1 s.books) none∧yM s.wh=yM s.wh∧AObj.fro 1 (iE s.p.months)=AObj.fro 1 (iE s.p.months)∧AObj.fro 1 (iE s.p.settle)=AObj.fro 1 (iE s.p.settle)∧True)
open Go Cv Go.Proofs
theorem elA {α:Type} {f:α→List D} {l:List α} {i g n:Nat} {x:α} {r:List D} (h:l[i]? =some x) (hn:g+n≤(f x).length) (hr:((f x).drop g).take n=r):zF (l.map f) i g n=some r:=by
 unfold zF
 rw[yQg,h]
 simp only[yQp,Nat.ble_eq_true_of_le hn,cond_true,hr]
theorem zNj {a:Arena} {n:Int} {q:gM} (h0:0≤n) (h:a.queues[n.toNat]? =some q):a.qAt n=q:=by
 have:=(yOt.1 h).1
 rw[Arena.qAt,yOu ⟨h0,by omega⟩,yPa,h];rfl
theorem zDs {a:Arena} {n:Int} (h:¬(0≤n∧n<a.queues.length)):a.qAt n=⟨0,0,0,0⟩:=by rw[Arena.qAt,yOr h]
theorem zBg:atotalC.ok Tryz.prog 232:=okw (V:=zVj) mixed gok0 1 (fun _=>[]) (fun _=>[]) [0] Tryz.func232 fun(i:ArN) _=>by
 unfold zVj vU n7 qM dI
 simp only[yOs]
 refine zI (fun c=>Cv.cnd.mk (fun d=> ?_) (fun d=> ?_)) (fun c=> ?_)
 ·have d:¬i.n<(i.a.queues.length:Int):=by simpa using d
  rw[zDs (by omega)];exact kp
 ·have d:i.n<(i.a.queues.length:Int):=by simpa using d
  obtain⟨q,hq⟩:=z8 (l:=i.a.queues) (i:=i.n.toNat) (by omega)
  rw[zNj (by omega) hq]
  refine⟨⟨by omega,by omega⟩,q.total,elA hq (by simp[zM]) rfl,?_⟩;exact kp
 ·rw[zDs (by omega)];exact kp
theorem cW:acountC.ok Tryz.prog 229:=okw (V:=zYk) mixed gok0 1 (fun _=>[]) (fun _=>[]) [0] Tryz.func229 fun(i:ArN) _=>by
 unfold zYk vU n6 qM dI
 simp only[yOs]
 refine zI (fun c=>Cv.cnd.mk (fun d=> ?_) (fun d=> ?_)) (fun c=> ?_)
 ·have d:¬i.n<(i.a.queues.length:Int):=by simpa using d
  rw[zDs (by omega)];exact kp
 ·have d:i.n<(i.a.queues.length:Int):=by simpa using d
  obtain⟨q,hq⟩:=z8 (l:=i.a.queues) (i:=i.n.toNat) (by omega)
  rw[zNj (by omega) hq]
  refine⟨⟨by omega,by omega⟩,q.count,elA hq (by simp[zM]) rfl,?_⟩;exact kp
 ·rw[zDs (by omega)];exact kp
theorem nX:bisC.ok Tryz.prog 200:=okw (V:=yKg) mixed gok0 0 (fun _=>[]) (fun _=>[]) [] Tryz.func200 fun(n:Int) _=>by
 unfold yKg
 refine Cv.cnd.mk (fun c=>⟨(),?_,trivial⟩) (fun c=>⟨(),?_,trivial⟩)
 all_goals simp at c
 ·simp[c]
 ·by_cases h:n=2<;>simp[c,h]
theorem zVp:toldC.ok Tryz.prog 201:=okw (V:=yLp) mixed (gokc zBg (gokc cW gok0)) 0 (fun _=>[]) (fun _=>[]) [0] Tryz.func201 fun(i:BkR) h=>by
 refine⟨⟨i.b.a,i.r.queue⟩,?_⟩;(repeat'(first|exact rfl|exact trivial|assumption|apply And.intro|refine fun(_:Unit) (_:True)=>?_|refine Exists.intro () ?_|omega|(dsimp only;omega)))
 refine⟨⟨i.b.a,i.r.queue⟩,?_⟩;exact kp
theorem z3x:best1C.ok Tryz.prog 163:=okw (V:=yIr) mixed (gokc nX (gokc zVp gok0)) 0 (fun _=>[]) (fun _=>[]) [0] Tryz.func163 fun(b:Book) h=>by
 have h:b.cntOk:=h
 refine⟨1,rfl,trivial,fun _ _=>Cv.cnd.mk (fun c=>absurd c (by decide)) fun _=> ?_⟩
 simp only[yOs]
 refine Cv.cnd.mk (fun c=> ?_) (fun c=> ?_)
 ·have hl:b.buys=[]:=yPo (by have:(b.buys.length:Int)=0:=(by simpa using c);omega)
  have e:b.best b.buys=(⟨0,0,0⟩,false):=by rw[hl];rfl
  rw[e];exact kp
 ·obtain⟨r,l,hl⟩:∃r l,b.buys=r::l:=by
   cases hb:b.buys with
   |nil=>rw[hb]at c;exact absurd c (by decide)
   |cons r l=>exact⟨r,l,rfl⟩
  have e:b.best b.buys=(b.told r,true):=by rw[hl];rfl
  rw[e]
  refine⟨⟨by omega,by rw[hl,yOy];omega⟩,r.price,r.queue,elA (x:=r) (by rw[hl];rfl) (by simp[zB]) rfl,⟨b,r⟩,?_⟩
  exact kp
theorem z4p:best2C.ok Tryz.prog 163:=okw (V:=yGw) mixed (gokc nX (gokc zVp gok0)) 0 (fun _=>[]) (fun _=>[]) [0] Tryz.func163 fun(b:Book) h=>by
 have h:b.cntOk:=h
 refine⟨2,rfl,trivial,fun _ _=>Cv.cnd.mk (fun c=>absurd c (by decide)) fun _=> ?_⟩
 simp only[yOs]
 refine Cv.cnd.mk (fun c=> ?_) (fun c=> ?_)
 ·have hl:b.sells=[]:=yPo (by have:(b.sells.length:Int)=0:=(by simpa using c);omega)
  have e:b.best b.sells=(⟨0,0,0⟩,false):=by rw[hl];rfl
  rw[e];exact kp
 ·obtain⟨r,l,hl⟩:∃r l,b.sells=r::l:=by
   cases hb:b.sells with
   |nil=>rw[hb]at c;exact absurd c (by decide)
   |cons r l=>exact⟨r,l,rfl⟩
  have e:b.best b.sells=(b.told r,true):=by rw[hl];rfl
  rw[e]
  refine⟨⟨by omega,by rw[hl,yOy];omega⟩,r.price,r.queue,elA (x:=r) (by rw[hl];rfl) (by simp[zB]) rfl,⟨b,r⟩,?_⟩
  exact kp
theorem zDy:bestC.ok Tryz.prog 163:=fun i=>match i with
 |⟨false,b⟩=>z3x b
 |⟨true,b⟩=>z4p b
theorem zHs {α:Type} (f:α→α) (x:α) (b:List α):∀a:List α,(a++x::b).modify a.length f=a++f x::b
 |[]=>rfl
 |y::a=>by
  show y::(a++x::b).modify a.length f=_
  rw[zHs f x b a];rfl
theorem zJs {els:List (List D)} {a b:List (List D)} {x y ds:List D} {j f:Nat} (h:els=a++x::b) (hl:a.length=j) (hy:x.take f++(ds++x.drop (f+ds.length))=y):yA els j f ds=a++y::b:=by
 rw[yA,h,← hl,zHs,hy]
theorem xY {s:MSt} {j:Nat} {x y:Top} {f:Nat} {ds:List D} (hj:j<s.books.length) (hy:(zU x).take f++(ds++(zU x).drop (f+ds.length))=zU y):
 yA (List.map zU (y9 s j x)) j f ds=List.map zU (y9 s j y):=by
 rw[zJs (a:=(s.tops.take j).map zU) (b:=(List.replicate (s.books.length-j-1) top0).map zU) (by rw[y9,yPc,yPd]) (by
  rw[yOs,yPl,MSt.tops,yOs];omega) hy,y9,yPc,yPd]
theorem zIj {s:MSt} {j:Nat} {x:Top} (hj:j<s.books.length):(y9 s j x).length=s.books.length:=by
 rw[y9,yOw,yOy,yPl,MSt.tops,yOs,yRp];omega
theorem zDc {s:MSt} {j:Nat} (hj:j<s.books.length):y9 s j top0=xE s j:=by
 rw[y9,xE]
 obtain⟨m,hm⟩:∃m,s.books.length-j=m+1:=⟨s.books.length-j-1,by omega⟩
 rw[hm,ySm];rfl
theorem zCx {s:MSt} {j:Nat} {b:Book} (hb:s.books[j]? =some b):y9 s j b.top=xE s (j+1):=by
 have hj:=(yOt.1 hb).1
 rw[y9,xE,yQb,show s.tops[j]? =some b.top by rw[MSt.tops,yQg,hb];rfl]
 simp only[yRy,yPb,yQe,yRc]
 rw[show s.books.length-j-1=s.books.length-(j+1)by omega]
theorem uH {α:Type} {l:List α} {j:Nat} {x:α} (h:l[j]? =some x):l.set j x=l:=by
 obtain⟨hj,rfl⟩:=yOt.1 h
 exact List.set_getElem_self hj
theorem yLh (s:MSt) (h:topsC.cnd s):yDn s:=by
 obtain⟨h1,h2⟩:s.cntOk:=h
 unfold yDn eH lE dM zHd eU wD xS jM vV zBa p7 fL uW gE zR fK fS fQ wA dI
 have p48:(2:Int) ^ (48:Nat)=281474976710656:=by decide
 refine⟨⟨by omega,by omega,by omega,by rw[p48];omega⟩,0,rfl,?_,fun j=>j≤s.books.length,fun j=>s.books.length-j,by omega,fun j hj=>zI (fun hlt=> ?_) (fun hlt=> ?_)⟩
 ·rw[xE,yPc,List.map_replicate];rfl
 ·have hj':j<s.books.length:=by omega
  obtain⟨b,hb⟩:=z8 hj'
  have hc:=h2 b (yPe hb)
  simp only[yPj]
  have ha:∀x,(List.map zU (y9 s j x)).length=s.books.length:=fun x=>by rw[yOs,zIj hj']
  have w1:IntKind.i64.wrap (0+1)=1:=by decide
  have w2:(0+1) % ((2:Int) ^ IntKind.i64.bits).natAbs=1:=by decide
  refine⟨⟨by omega,by omega⟩,by omega,(j,top0),by rw[zDc hj'],fun x=>x=(j,top0.buy (b.best b.buys)),⟨⟨by decide,by decide⟩,1,rfl,b,hb,⟨false,b⟩,rfl,rfl,hc,fun _ _=>⟨b,rfl,kp,by omega,?_⟩⟩,?_⟩
  ·refine Cv.cnd.mk (fun c=> ?_) (fun c=> ?_)
   ·have c:(b.best b.buys).2=true:=c
    have e1:=xY (s:=s) hj' (x:=top0) (y:={top0 with has1:=true}) (f:=0+0+0*1) (ds:=[D.v (.bool true)]) rfl
    have e2:=xY (s:=s) hj' (x:={top0 with has1:=true}) (y:={top0 with has1:=true,p1:=(b.best b.buys).1.price}) (f:=0+2+0*1) (ds:=[D.v (.int .i64 (b.best b.buys).1.price)]) rfl
    have e3:=xY (s:=s) hj' (x:={top0 with has1:=true,p1:=(b.best b.buys).1.price}) (y:={top0 with has1:=true,p1:=(b.best b.buys).1.price,q1:=(b.best b.buys).1.qty}) (f:=0+4+0*1) (ds:=[D.v (.int .i64 (b.best b.buys).1.qty)]) rfl
    dsimp only
    simp only[show b.side false=b.buys from rfl,e1,e2,e3,ha]
    (repeat'(first|exact rfl|exact trivial|assumption|apply And.intro|refine fun(_:Unit) (_:True)=>?_|refine Exists.intro () ?_|omega|(dsimp only;omega)))
    refine⟨(j,{top0 with has1:=true,p1:=(b.best b.buys).1.price,q1:=(b.best b.buys).1.qty}),rfl,?_,?_⟩
    ·rw[Top.buy,yOu c]
    ·(repeat'(first|exact rfl|exact trivial|assumption|apply And.intro|refine fun(_:Unit) (_:True)=>?_|refine Exists.intro () ?_|omega|(dsimp only;omega)))
     rw[uH hb]
   ·have c:(b.best b.buys).2=false:=c
    refine⟨(j,top0),rfl,?_,?_⟩
    ·rw[Top.buy,yOr (by rw[c];simp)]
    ·(repeat'(first|exact rfl|exact trivial|assumption|apply And.intro|refine fun(_:Unit) (_:True)=>?_|refine Exists.intro () ?_|omega|(dsimp only;omega)))
     rw[uH hb]
  ·rintro _ rfl
   rw[w1]
   generalize hx:top0.buy (b.best b.buys)=x
   have hx2:b.top=x.sell (b.best b.sells):=by rw[Book.top,hx]
   refine⟨(j,x),rfl,fun y=>y=(j,b.top),⟨⟨by decide,by decide⟩,2,rfl,b,hb,⟨true,b⟩,rfl,rfl,hc,fun _ _=>⟨b,rfl,kp,by omega,?_⟩⟩,?_⟩
   ·refine Cv.cnd.mk (fun c=> ?_) (fun c=> ?_)
    ·have c:(b.best b.sells).2=true:=c
     have e1:=xY (s:=s) hj' (x:=x) (y:={x with has2:=true}) (f:=0+0+1*1) (ds:=[D.v (.bool true)]) rfl
     have e2:=xY (s:=s) hj' (x:={x with has2:=true}) (y:={x with has2:=true,p2:=(b.best b.sells).1.price}) (f:=0+2+1*1) (ds:=[D.v (.int .i64 (b.best b.sells).1.price)]) rfl
     have e3:=xY (s:=s) hj' (x:={x with has2:=true,p2:=(b.best b.sells).1.price}) (y:={x with has2:=true,p2:=(b.best b.sells).1.price,q2:=(b.best b.sells).1.qty}) (f:=0+4+1*1) (ds:=[D.v (.int .i64 (b.best b.sells).1.qty)]) rfl
     dsimp only
     simp only[w2,show b.side true=b.sells from rfl,e1,e2,e3,ha]
     (repeat'(first|exact rfl|exact trivial|assumption|apply And.intro|refine fun(_:Unit) (_:True)=>?_|refine Exists.intro () ?_|omega|(dsimp only;omega)))
     refine⟨(j,{x with has2:=true,p2:=(b.best b.sells).1.price,q2:=(b.best b.sells).1.qty}),rfl,?_,?_⟩
     ·rw[hx2,Top.sell,yOu c]
     ·(repeat'(first|exact rfl|exact trivial|assumption|apply And.intro|refine fun(_:Unit) (_:True)=>?_|refine Exists.intro () ?_|omega|(dsimp only;omega)))
      rw[uH hb]
    ·have c:(b.best b.sells).2=false:=c
     refine⟨(j,x),rfl,?_,?_⟩
     ·rw[hx2,Top.sell,yOr (by rw[c];simp)]
     ·(repeat'(first|exact rfl|exact trivial|assumption|apply And.intro|refine fun(_:Unit) (_:True)=>?_|refine Exists.intro () ?_|omega|(dsimp only;omega)))
      rw[uH hb]
   ·rintro _ rfl
    refine⟨j+1,by rw[w64 (by omega)];rfl,?_⟩
    refine⟨by dsimp only;rw[zCx hb],?_⟩
    exact kp
 ·have hj:j≤s.books.length:=hj
  obtain rfl:j=s.books.length:=by omega
  have e:xE s s.books.length=s.tops:=by
   rw[xE,yTz,List.replicate_zero,yPp,yPf (by rw[MSt.tops,yOs];omega)]
  rw[e]
  exact kp
theorem yAu:topsC.ok Tryz.prog 115:=okw mixed (gokc zDy gok0) 0 (fun s=>yEl s) (fun s=>yDw s) [0] Tryz.func115 yLh
theorem eI:copySC.ok Tryz.prog 103:=okw (V:=yGa) mixed (gokc yAa (gokc z4g gok0)) 0 (fun _=>[]) (fun s=>yGj s) [0] Tryz.func103 fun(s:MSt) h=>by
 obtain⟨h1,h2⟩:s.small:=h
 refine⟨yM s.wh,?_⟩;(repeat'(first|exact rfl|exact trivial|assumption|apply And.intro|refine fun(_:Unit) (_:True)=>?_|refine Exists.intro () ?_|omega|(dsimp only;omega)))
 refine⟨0,?_⟩;(repeat'(first|exact rfl|exact trivial|assumption|apply And.intro|refine fun(_:Unit) (_:True)=>?_|refine Exists.intro () ?_|omega|(dsimp only;omega)))
 refine⟨fun j=>j≤s.books.length,fun j=>s.books.length-j,by omega,fun j hj=>zI (fun hlt=> ?_) (fun hlt=> ?_)⟩
 ·obtain⟨b,hb⟩:=z8 (l:=s.books) (i:=j) (by omega)
  have hs:=h2 b (yPe hb)
  simp only[yPj]
  refine⟨⟨by omega,by omega⟩,by omega,b,hb,b,rfl,hs,fun _ _=>⟨b,rfl,kp,by omega,trivial,trivial,s.books.take j,rfl,?_,j+1,?_⟩⟩
  ·rw[yPl];omega
  ·rw[w64 (by omega),yQb,hb]
   (repeat'(first|exact rfl|exact trivial|assumption|apply And.intro|refine fun(_:Unit) (_:True)=>?_|refine Exists.intro () ?_|omega|(dsimp only;omega)))
   rw[uH hb]
 ·have hj:j≤s.books.length:=hj
  obtain rfl:j=s.books.length:=by omega
  rw[yPf (yPy _)]
  exact kp
open Go Cv Go.Proofs
structure Leg where
 inst:Int
 side:Int
 deriving DecidableEq
structure Quote where
 price:Int
 qty:Int
 a:Leg
 b:Leg
 deriving DecidableEq
def zH (q:Quote):List D:=[.v (.int .i64 q.price),.v (.int .i64 q.qty),.v (.int .i64 q.a.inst),.v (.int .i64 q.a.side),.v (.int .i64 q.b.inst),.v (.int .i64 q.b.side)]
@[reducible] def zOl (q:Quote):V:= .agg [zA q.price,zA q.qty,zA q.a.inst,zA q.a.side,zA q.b.inst,zA q.b.side]
def yFe:Quote:=⟨0,0,⟨0,0⟩,⟨0,0⟩⟩
structure I3' where
 side:Int
 x:Int
 y:Int
def btr (side x y:Int):Bool:=if side=1 then decide (y<x)else decide (x<y)
def iotherC:Con:=con1 Int (fun n=>[zA n]) (fun _=>[]) (fun n=>n=1∨n=2) (fun n=>zA (3-n)) (fun _=>[])
def ibetterC:Con:=con1 I3' (fun i=>[zA i.side,zA i.x,zA i.y]) (fun _=>[]) (fun _=>True) (fun i=>yB (btr i.side i.x i.y)) (fun _=>[])
def Top.has (t:Top) (s:Int):Bool:=if s=1 then t.has1 else t.has2
def Top.price (t:Top) (s:Int):Int:=if s=1 then t.p1 else t.p2
def Top.qty (t:Top) (s:Int):Int:=if s=1 then t.q1 else t.q2
def mkq (tops:List Top) (a b:Leg) (less:Bool):List Quote:=
 let x:=tops.getD a.inst.toNat top0
 let y:=tops.getD b.inst.toNat top0
 let r:=if less then vC (y.price b.side) (x.price a.side)else vB (x.price a.side) (y.price b.side)
 if x.has a.side && y.has b.side && r.2 then[⟨r.1,min (x.qty a.side) (y.qty b.side),a,b⟩]else[]
structure MkI where
 tops:List Top
 out:List Quote
 a:Int
 b:Int
 less:Bool
@[reducible] def jN (l:List Top):Prop:=l.length≤1000000∧∀t∈l,i64r t.p1∧i64r t.p2
def MkU (x:List Top×List Quote):Nat→AObj
 |0=> .cells [.own 1,.own 2] 311
 |1=> .fro 6 (x.1.map zU)
 |2=> .own 257 6 (x.2.map zH)
 |_=> .gone
@[reducible] def MkR (tops:List Top) (out:List Quote):List AObj:=[MkU (tops,out) 0,MkU (tops,out) 1,MkU (tops,out) 2]
@[reducible] def MkP (tops:List Top) (out:List Quote):List AObj:=[.cells [.own 1,.own 3] 311,MkU (tops,out) 1,.gone,MkU (tops,out) 2]
def mkC (sa sb:Int):Con:=con1 MkI (fun i=>[.nm 0 0,.agg [zA i.a,zA sa],.agg [zA i.b,zA sb],yB i.less]) (fun i=>MkR i.tops i.out)
 (fun i=>0≤i.a∧i.a<i.tops.length∧0≤i.b∧i.b<i.tops.length∧jN i.tops∧i.out.length≤1000) (fun _=>eQ) (fun i=>MkP i.tops (i.out++mkq i.tops ⟨i.a,sa⟩ ⟨i.b,sb⟩ i.less))
def mk11:Con:=mkC 1 1
def mk12:Con:=mkC 1 2
def mk21:Con:=mkC 2 1
def mk22:Con:=mkC 2 2
open Go Cv Go.Proofs
def yAk (n:Int):Prop:=
 ∃(o:Unit),3-n=IntKind.i64.wrap (3-n)∧True
def z4a (i:I3'):Prop:=
 cnd (i.side==1) (∃(o:Unit),btr i.side i.x i.y=decide (i.x>i.y)∧True) (∃(o:Unit),btr i.side i.x i.y=decide (i.x<i.y)∧True)
def pN (a:MkI):=(a.out++mkq a.tops (Leg.mk a.a 1) (Leg.mk a.b 1) a.less)
def c9 (a:MkI):Prop:=∃(b:Unit),AObj.fro 6 (List.map zU a.tops)=MkU (a.tops,a.out) 1∧List.map zH (pN a)=List.map zH a.out∧True
def qJ (a:I2):Prop:=((-9223372036854775808)≤a.x∧a.x≤9223372036854775807)∧(-9223372036854775808)≤a.y∧a.y≤9223372036854775807
def xV (a:MkI):=(↑(List.map zU a.tops).length:Int)
def xG (a:MkI):Prop:=(0≤a.b∧a.b<(xV a))∧a.b.toNat=a.b.toNat
def qK (a:MkI):Prop:=(0≤a.a∧a.a<(xV a))∧a.a.toNat=a.a.toNat
def qI (a:MkI):=((List.map zH a.out).length+1)
def zHe (a:MkI) (b:Bool) (c:Bool) (d:Int) (e:Int) (f:Int) (g:Int):Prop:=True∧(xG a)∧a.b=a.b∧True∧True∧(qK a)∧a.a=a.a∧True∧True∧(xG a)∧a.b=a.b∧True∧True∧(qK a)∧a.a=a.a∧True∧True∧(xG a)∧a.b=a.b∧True∧cnd (!b) (c9 a) (cnd (!c) (c9 a) (∃(h:I2),h.x=d∧h.y=e∧(qJ h)∧∀(j:Unit),True→cnd a.less (∃(k:I2),k.x=e∧k.y=d∧(qJ k)∧∀(l:Unit),True→cnd (vC k.x k.y).snd (True∧(qI a)*(48:Nat)≤(140737488355328:Nat)∧∃(m:Unit),AObj.fro 6 (List.map zU a.tops)=MkU (a.tops,a.out) 1∧List.map zH (pN a)=List.map zH a.out++[[dI ((vC k.x k.y).fst),dI (min f g),dI a.a,dI 1,dI a.b,dI 1]]∧True) (c9 a)) (cnd (vB h.x h.y).snd (True∧(qI a)*(48:Nat)≤(140737488355328:Nat)∧∃(k:Unit),AObj.fro 6 (List.map zU a.tops)=MkU (a.tops,a.out) 1∧List.map zH (pN a)=List.map zH a.out++[[dI ((vB h.x h.y).fst),dI (min f g),dI a.a,dI 1,dI a.b,dI 1]]∧True) (c9 a))))
def yDv (i:MkI):Prop:=
 (0≤i.a∧i.a<(xV i))∧∃(a:Bool),∃(b:Bool),∃(c:Int),∃(d:Int),∃(e:Int),∃(f:Int),zF (List.map zU i.tops) i.a.toNat 0 6=some [D.v (.bool a),D.v (.bool b),dI c,dI d,dI e,dI f]∧(0≤i.b∧i.b<(xV i))∧∃(g:Bool),∃(h:Bool),∃(j:Int),∃(k:Int),∃(l:Int),∃(m:Int),zF (List.map zU i.tops) i.b.toNat 0 6=some [D.v (.bool g),D.v (.bool h),dI j,dI k,dI l,dI m]∧(zHe i a g c j e l)∧zHe i a g c j e l
def rD (a:MkI):=(a.out++mkq a.tops (Leg.mk a.a 1) (Leg.mk a.b 2) a.less)
def cV (a:MkI):Prop:=∃(b:Unit),AObj.fro 6 (List.map zU a.tops)=MkU (a.tops,a.out) 1∧List.map zH (rD a)=List.map zH a.out∧True
def zEn (a:MkI) (b:Bool) (c:Bool) (d:Int) (e:Int) (f:Int) (g:Int):Prop:=True∧(xG a)∧a.b=a.b∧True∧True∧(qK a)∧a.a=a.a∧True∧True∧(xG a)∧a.b=a.b∧True∧True∧(qK a)∧a.a=a.a∧True∧True∧(xG a)∧a.b=a.b∧True∧cnd (!b) (cV a) (cnd (!c) (cV a) (∃(h:I2),h.x=d∧h.y=e∧(qJ h)∧∀(j:Unit),True→cnd a.less (∃(k:I2),k.x=e∧k.y=d∧(qJ k)∧∀(l:Unit),True→cnd (vC k.x k.y).snd (True∧(qI a)*(48:Nat)≤(140737488355328:Nat)∧∃(m:Unit),AObj.fro 6 (List.map zU a.tops)=MkU (a.tops,a.out) 1∧List.map zH (rD a)=List.map zH a.out++[[dI ((vC k.x k.y).fst),dI (min f g),dI a.a,dI 1,dI a.b,dI 2]]∧True) (cV a)) (cnd (vB h.x h.y).snd (True∧(qI a)*(48:Nat)≤(140737488355328:Nat)∧∃(k:Unit),AObj.fro 6 (List.map zU a.tops)=MkU (a.tops,a.out) 1∧List.map zH (rD a)=List.map zH a.out++[[dI ((vB h.x h.y).fst),dI (min f g),dI a.a,dI 1,dI a.b,dI 2]]∧True) (cV a))))
def yDj (i:MkI):Prop:=
 (0≤i.a∧i.a<(xV i))∧∃(a:Bool),∃(b:Bool),∃(c:Int),∃(d:Int),∃(e:Int),∃(f:Int),zF (List.map zU i.tops) i.a.toNat 0 6=some [D.v (.bool a),D.v (.bool b),dI c,dI d,dI e,dI f]∧(0≤i.b∧i.b<(xV i))∧∃(g:Bool),∃(h:Bool),∃(j:Int),∃(k:Int),∃(l:Int),∃(m:Int),zF (List.map zU i.tops) i.b.toNat 0 6=some [D.v (.bool g),D.v (.bool h),dI j,dI k,dI l,dI m]∧(zEn i a h c k e m)∧zEn i a h c k e m
def pX (a:MkI):=(a.out++mkq a.tops (Leg.mk a.a 2) (Leg.mk a.b 1) a.less)
def cS (a:MkI):Prop:=∃(b:Unit),AObj.fro 6 (List.map zU a.tops)=MkU (a.tops,a.out) 1∧List.map zH (pX a)=List.map zH a.out∧True
def zGy (a:MkI) (b:Bool) (c:Bool) (d:Int) (e:Int) (f:Int) (g:Int):Prop:=True∧(xG a)∧a.b=a.b∧True∧True∧(qK a)∧a.a=a.a∧True∧True∧(xG a)∧a.b=a.b∧True∧True∧(qK a)∧a.a=a.a∧True∧True∧(xG a)∧a.b=a.b∧True∧cnd (!b) (cS a) (cnd (!c) (cS a) (∃(h:I2),h.x=d∧h.y=e∧(qJ h)∧∀(j:Unit),True→cnd a.less (∃(k:I2),k.x=e∧k.y=d∧(qJ k)∧∀(l:Unit),True→cnd (vC k.x k.y).snd (True∧(qI a)*(48:Nat)≤(140737488355328:Nat)∧∃(m:Unit),AObj.fro 6 (List.map zU a.tops)=MkU (a.tops,a.out) 1∧List.map zH (pX a)=List.map zH a.out++[[dI ((vC k.x k.y).fst),dI (min f g),dI a.a,dI 2,dI a.b,dI 1]]∧True) (cS a)) (cnd (vB h.x h.y).snd (True∧(qI a)*(48:Nat)≤(140737488355328:Nat)∧∃(k:Unit),AObj.fro 6 (List.map zU a.tops)=MkU (a.tops,a.out) 1∧List.map zH (pX a)=List.map zH a.out++[[dI ((vB h.x h.y).fst),dI (min f g),dI a.a,dI 2,dI a.b,dI 1]]∧True) (cS a))))
def yDi (i:MkI):Prop:=
 (0≤i.a∧i.a<(xV i))∧∃(a:Bool),∃(b:Bool),∃(c:Int),∃(d:Int),∃(e:Int),∃(f:Int),zF (List.map zU i.tops) i.a.toNat 0 6=some [D.v (.bool a),D.v (.bool b),dI c,dI d,dI e,dI f]∧(0≤i.b∧i.b<(xV i))∧∃(g:Bool),∃(h:Bool),∃(j:Int),∃(k:Int),∃(l:Int),∃(m:Int),zF (List.map zU i.tops) i.b.toNat 0 6=some [D.v (.bool g),D.v (.bool h),dI j,dI k,dI l,dI m]∧(zGy i b g d j f l)∧zGy i b g d j f l
def rS (a:MkI):=(a.out++mkq a.tops (Leg.mk a.a 2) (Leg.mk a.b 2) a.less)
def bQ (a:MkI):Prop:=∃(b:Unit),AObj.fro 6 (List.map zU a.tops)=MkU (a.tops,a.out) 1∧List.map zH (rS a)=List.map zH a.out∧True
def zHr (a:MkI) (b:Bool) (c:Bool) (d:Int) (e:Int) (f:Int) (g:Int):Prop:=True∧(xG a)∧a.b=a.b∧True∧True∧(qK a)∧a.a=a.a∧True∧True∧(xG a)∧a.b=a.b∧True∧True∧(qK a)∧a.a=a.a∧True∧True∧(xG a)∧a.b=a.b∧True∧cnd (!b) (bQ a) (cnd (!c) (bQ a) (∃(h:I2),h.x=d∧h.y=e∧(qJ h)∧∀(j:Unit),True→cnd a.less (∃(k:I2),k.x=e∧k.y=d∧(qJ k)∧∀(l:Unit),True→cnd (vC k.x k.y).snd (True∧(qI a)*(48:Nat)≤(140737488355328:Nat)∧∃(m:Unit),AObj.fro 6 (List.map zU a.tops)=MkU (a.tops,a.out) 1∧List.map zH (rS a)=List.map zH a.out++[[dI ((vC k.x k.y).fst),dI (min f g),dI a.a,dI 2,dI a.b,dI 2]]∧True) (bQ a)) (cnd (vB h.x h.y).snd (True∧(qI a)*(48:Nat)≤(140737488355328:Nat)∧∃(k:Unit),AObj.fro 6 (List.map zU a.tops)=MkU (a.tops,a.out) 1∧List.map zH (rS a)=List.map zH a.out++[[dI ((vB h.x h.y).fst),dI (min f g),dI a.a,dI 2,dI a.b,dI 2]]∧True) (bQ a))))
def yDa (i:MkI):Prop:=
 (0≤i.a∧i.a<(xV i))∧∃(a:Bool),∃(b:Bool),∃(c:Int),∃(d:Int),∃(e:Int),∃(f:Int),zF (List.map zU i.tops) i.a.toNat 0 6=some [D.v (.bool a),D.v (.bool b),dI c,dI d,dI e,dI f]∧(0≤i.b∧i.b<(xV i))∧∃(g:Bool),∃(h:Bool),∃(j:Int),∃(k:Int),∃(l:Int),∃(m:Int),zF (List.map zU i.tops) i.b.toNat 0 6=some [D.v (.bool g),D.v (.bool h),dI j,dI k,dI l,dI m]∧(zHr i b h d k f m)∧zHr i b h d k f m
open Go Cv Go.Proofs
theorem zLm:iotherC.ok Tryz.prog 187:=okw (V:=yAk) mixed gok0 0 (fun _=>[]) (fun _=>[]) [] Tryz.func187 fun(n:Int) h=>by
 have h:n=1∨n=2:=h
 refine⟨(),?_,trivial⟩
 rw[w64 (by omega)]
theorem zUj:ibetterC.ok Tryz.prog 202:=okw (V:=z4a) mixed gok0 0 (fun _=>[]) (fun _=>[]) [] Tryz.func202 fun(i:I3') _=>by
 refine Cv.cnd.mk (fun e=>⟨(),?_,trivial⟩) (fun e=>⟨(),?_,trivial⟩)
 ·have e:i.side=1:=by simpa using e
  simp[btr,e]
 ·have e:i.side≠1:=by simpa using e
  simp[btr,e]
theorem yAc (a b:Int):(if b<a then b else a)=min a b:=by split<;>omega
theorem yLy (i:MkI) (h:mk11.cnd i):yDv i:=by
 obtain⟨a0,a1,b0,b1,⟨ht,hp⟩,ho⟩:0≤i.a∧i.a<i.tops.length∧0≤i.b∧i.b<i.tops.length∧jN i.tops∧i.out.length≤1000:=h
 obtain⟨x,hx⟩:=z8 (l:=i.tops) (i:=i.a.toNat) (by omega)
 obtain⟨y,hy⟩:=z8 (l:=i.tops) (i:=i.b.toNat) (by omega)
 obtain⟨⟨px1,px2⟩,px3,px4⟩:=hp x (yPe hx)
 obtain⟨⟨py1,py2⟩,py3,py4⟩:=hp y (yPe hy)
 have e0:mkq i.tops ⟨i.a,1⟩ ⟨i.b,1⟩ i.less=if x.has1 && y.has1 && (if i.less then vC y.p1 x.p1 else vB x.p1 y.p1).2 then[⟨(if i.less then vC y.p1 x.p1 else vB x.p1 y.p1).1,min x.q1 y.q1,⟨i.a,1⟩,⟨i.b,1⟩⟩]else[]:=by
  simp only[mkq,yPa,hx,hy,yQt];rfl
 unfold yDv zHe qI qK xG xV qJ c9 pN dI
 simp only[yOs]
 refine⟨⟨by omega,by omega⟩,x.has1,x.has2,x.p1,x.p2,x.q1,x.q2,elA hx (by simp[zU]) rfl,⟨by omega,by omega⟩,y.has1,y.has2,y.p1,y.p2,y.q1,y.q2,elA hy (by simp[zU]) rfl,?_⟩
 rw[e0]
 (repeat'(first|exact rfl|exact trivial|assumption|apply And.intro|refine fun(_:Unit) (_:True)=>?_|refine Exists.intro () ?_|omega|(dsimp only;omega)))
 all_goals
  refine Cv.cnd.mk (fun c1=> ?_) (fun c1=>Cv.cnd.mk (fun c2=> ?_) (fun c2=> ?_))
  ·have c1:x.has1=false:=by simpa using c1
   simp only[c1,yRv,yPi,if_false,yPp];exact kp
  ·have c2:y.has1=false:=by simpa using c2
   simp only[c2,yTj,yRv,yPi,if_false,yPp];exact kp
  ·have c1:x.has1=true:=by simpa using c1
   have c2:y.has1=true:=by simpa using c2
   simp only[c1,c2,yRr,yAc]
   refine⟨⟨x.p1,y.p1⟩,?_⟩
   (repeat'(first|exact rfl|exact trivial|assumption|apply And.intro|refine fun(_:Unit) (_:True)=>?_|refine Exists.intro () ?_|omega|(dsimp only;omega)))
   refine Cv.cnd.mk (fun c3=> ?_) (fun c3=> ?_)
   ·have c3:i.less=true:=c3
    simp only[c3,if_true]
    refine⟨⟨y.p1,x.p1⟩,?_⟩
    (repeat'(first|exact rfl|exact trivial|assumption|apply And.intro|refine fun(_:Unit) (_:True)=>?_|refine Exists.intro () ?_|omega|(dsimp only;omega)))
    refine Cv.cnd.mk (fun c4=> ?_) (fun c4=> ?_)
    ·have c4:(vC y.p1 x.p1).2=true:=c4
     simp only[c4,if_true,yPc];exact kp
    ·have c4:(vC y.p1 x.p1).2=false:=c4
     simp only[c4,yPi,if_false,yPp];exact kp
   ·have c3:i.less=false:=c3
    simp only[c3,yPi,if_false]
    refine Cv.cnd.mk (fun c4=> ?_) (fun c4=> ?_)
    ·have c4:(vB x.p1 y.p1).2=true:=c4
     simp only[c4,if_true,yPc];exact kp
    ·have c4:(vB x.p1 y.p1).2=false:=c4
     simp only[c4,yPi,if_false,yPp];exact kp
theorem z8q:mk11.ok Tryz.prog 188:=okw mixed (gokc zMz (gokc zNb gok0)) 0 (fun _=>[]) (fun _=>[]) [] Tryz.func188 yLy
theorem yKe (i:MkI) (h:mk12.cnd i):yDj i:=by
 obtain⟨a0,a1,b0,b1,⟨ht,hp⟩,ho⟩:0≤i.a∧i.a<i.tops.length∧0≤i.b∧i.b<i.tops.length∧jN i.tops∧i.out.length≤1000:=h
 obtain⟨x,hx⟩:=z8 (l:=i.tops) (i:=i.a.toNat) (by omega)
 obtain⟨y,hy⟩:=z8 (l:=i.tops) (i:=i.b.toNat) (by omega)
 obtain⟨⟨px1,px2⟩,px3,px4⟩:=hp x (yPe hx)
 obtain⟨⟨py1,py2⟩,py3,py4⟩:=hp y (yPe hy)
 have e0:mkq i.tops ⟨i.a,1⟩ ⟨i.b,2⟩ i.less=if x.has1 && y.has2 && (if i.less then vC y.p2 x.p1 else vB x.p1 y.p2).2 then[⟨(if i.less then vC y.p2 x.p1 else vB x.p1 y.p2).1,min x.q1 y.q2,⟨i.a,1⟩,⟨i.b,2⟩⟩]else[]:=by
  simp only[mkq,yPa,hx,hy,yQt];rfl
 unfold yDj zEn cV rD qI qK xG qJ xV dI
 simp only[yOs]
 refine⟨⟨by omega,by omega⟩,x.has1,x.has2,x.p1,x.p2,x.q1,x.q2,elA hx (by simp[zU]) rfl,⟨by omega,by omega⟩,y.has1,y.has2,y.p1,y.p2,y.q1,y.q2,elA hy (by simp[zU]) rfl,?_⟩
 rw[e0]
 (repeat'(first|exact rfl|exact trivial|assumption|apply And.intro|refine fun(_:Unit) (_:True)=>?_|refine Exists.intro () ?_|omega|(dsimp only;omega)))
 all_goals
  refine Cv.cnd.mk (fun c1=> ?_) (fun c1=>Cv.cnd.mk (fun c2=> ?_) (fun c2=> ?_))
  ·have c1:x.has1=false:=by simpa using c1
   simp only[c1,yRv,yPi,if_false,yPp];exact kp
  ·have c2:y.has2=false:=by simpa using c2
   simp only[c2,yTj,yRv,yPi,if_false,yPp];exact kp
  ·have c1:x.has1=true:=by simpa using c1
   have c2:y.has2=true:=by simpa using c2
   simp only[c1,c2,yRr,yAc]
   refine⟨⟨x.p1,y.p2⟩,?_⟩
   (repeat'(first|exact rfl|exact trivial|assumption|apply And.intro|refine fun(_:Unit) (_:True)=>?_|refine Exists.intro () ?_|omega|(dsimp only;omega)))
   refine Cv.cnd.mk (fun c3=> ?_) (fun c3=> ?_)
   ·have c3:i.less=true:=c3
    simp only[c3,if_true]
    refine⟨⟨y.p2,x.p1⟩,?_⟩
    (repeat'(first|exact rfl|exact trivial|assumption|apply And.intro|refine fun(_:Unit) (_:True)=>?_|refine Exists.intro () ?_|omega|(dsimp only;omega)))
    refine Cv.cnd.mk (fun c4=> ?_) (fun c4=> ?_)
    ·have c4:(vC y.p2 x.p1).2=true:=c4
     simp only[c4,if_true,yPc];exact kp
    ·have c4:(vC y.p2 x.p1).2=false:=c4
     simp only[c4,yPi,if_false,yPp];exact kp
   ·have c3:i.less=false:=c3
    simp only[c3,yPi,if_false]
    refine Cv.cnd.mk (fun c4=> ?_) (fun c4=> ?_)
    ·have c4:(vB x.p1 y.p2).2=true:=c4
     simp only[c4,if_true,yPc];exact kp
    ·have c4:(vB x.p1 y.p2).2=false:=c4
     simp only[c4,yPi,if_false,yPp];exact kp
theorem yBt:mk12.ok Tryz.prog 188:=okw mixed (gokc zMz (gokc zNb gok0)) 0 (fun _=>[]) (fun _=>[]) [] Tryz.func188 yKe
theorem yKr (i:MkI) (h:mk21.cnd i):yDi i:=by
 obtain⟨a0,a1,b0,b1,⟨ht,hp⟩,ho⟩:0≤i.a∧i.a<i.tops.length∧0≤i.b∧i.b<i.tops.length∧jN i.tops∧i.out.length≤1000:=h
 obtain⟨x,hx⟩:=z8 (l:=i.tops) (i:=i.a.toNat) (by omega)
 obtain⟨y,hy⟩:=z8 (l:=i.tops) (i:=i.b.toNat) (by omega)
 obtain⟨⟨px1,px2⟩,px3,px4⟩:=hp x (yPe hx)
 obtain⟨⟨py1,py2⟩,py3,py4⟩:=hp y (yPe hy)
 have e0:mkq i.tops ⟨i.a,2⟩ ⟨i.b,1⟩ i.less=if x.has2 && y.has1 && (if i.less then vC y.p1 x.p2 else vB x.p2 y.p1).2 then[⟨(if i.less then vC y.p1 x.p2 else vB x.p2 y.p1).1,min x.q2 y.q1,⟨i.a,2⟩,⟨i.b,1⟩⟩]else[]:=by
  simp only[mkq,yPa,hx,hy,yQt];rfl
 unfold yDi zGy cS pX qI qK xG qJ xV dI
 simp only[yOs]
 refine⟨⟨by omega,by omega⟩,x.has1,x.has2,x.p1,x.p2,x.q1,x.q2,elA hx (by simp[zU]) rfl,⟨by omega,by omega⟩,y.has1,y.has2,y.p1,y.p2,y.q1,y.q2,elA hy (by simp[zU]) rfl,?_⟩
 rw[e0]
 (repeat'(first|exact rfl|exact trivial|assumption|apply And.intro|refine fun(_:Unit) (_:True)=>?_|refine Exists.intro () ?_|omega|(dsimp only;omega)))
 all_goals
  refine Cv.cnd.mk (fun c1=> ?_) (fun c1=>Cv.cnd.mk (fun c2=> ?_) (fun c2=> ?_))
  ·have c1:x.has2=false:=by simpa using c1
   simp only[c1,yRv,yPi,if_false,yPp];exact kp
  ·have c2:y.has1=false:=by simpa using c2
   simp only[c2,yTj,yRv,yPi,if_false,yPp];exact kp
  ·have c1:x.has2=true:=by simpa using c1
   have c2:y.has1=true:=by simpa using c2
   simp only[c1,c2,yRr,yAc]
   refine⟨⟨x.p2,y.p1⟩,?_⟩
   (repeat'(first|exact rfl|exact trivial|assumption|apply And.intro|refine fun(_:Unit) (_:True)=>?_|refine Exists.intro () ?_|omega|(dsimp only;omega)))
   refine Cv.cnd.mk (fun c3=> ?_) (fun c3=> ?_)
   ·have c3:i.less=true:=c3
    simp only[c3,if_true]
    refine⟨⟨y.p1,x.p2⟩,?_⟩
    (repeat'(first|exact rfl|exact trivial|assumption|apply And.intro|refine fun(_:Unit) (_:True)=>?_|refine Exists.intro () ?_|omega|(dsimp only;omega)))
    refine Cv.cnd.mk (fun c4=> ?_) (fun c4=> ?_)
    ·have c4:(vC y.p1 x.p2).2=true:=c4
     simp only[c4,if_true,yPc];exact kp
    ·have c4:(vC y.p1 x.p2).2=false:=c4
     simp only[c4,yPi,if_false,yPp];exact kp
   ·have c3:i.less=false:=c3
    simp only[c3,yPi,if_false]
    refine Cv.cnd.mk (fun c4=> ?_) (fun c4=> ?_)
    ·have c4:(vB x.p2 y.p1).2=true:=c4
     simp only[c4,if_true,yPc];exact kp
    ·have c4:(vB x.p2 y.p1).2=false:=c4
     simp only[c4,yPi,if_false,yPp];exact kp
theorem yAd:mk21.ok Tryz.prog 188:=okw mixed (gokc zMz (gokc zNb gok0)) 0 (fun _=>[]) (fun _=>[]) [] Tryz.func188 yKr
theorem yMp (i:MkI) (h:mk22.cnd i):yDa i:=by
 obtain⟨a0,a1,b0,b1,⟨ht,hp⟩,ho⟩:0≤i.a∧i.a<i.tops.length∧0≤i.b∧i.b<i.tops.length∧jN i.tops∧i.out.length≤1000:=h
 obtain⟨x,hx⟩:=z8 (l:=i.tops) (i:=i.a.toNat) (by omega)
 obtain⟨y,hy⟩:=z8 (l:=i.tops) (i:=i.b.toNat) (by omega)
 obtain⟨⟨px1,px2⟩,px3,px4⟩:=hp x (yPe hx)
 obtain⟨⟨py1,py2⟩,py3,py4⟩:=hp y (yPe hy)
 have e0:mkq i.tops ⟨i.a,2⟩ ⟨i.b,2⟩ i.less=if x.has2 && y.has2 && (if i.less then vC y.p2 x.p2 else vB x.p2 y.p2).2 then[⟨(if i.less then vC y.p2 x.p2 else vB x.p2 y.p2).1,min x.q2 y.q2,⟨i.a,2⟩,⟨i.b,2⟩⟩]else[]:=by
  simp only[mkq,yPa,hx,hy,yQt];rfl
 unfold yDa zHr bQ rS qI qK xG qJ xV dI
 simp only[yOs]
 refine⟨⟨by omega,by omega⟩,x.has1,x.has2,x.p1,x.p2,x.q1,x.q2,elA hx (by simp[zU]) rfl,⟨by omega,by omega⟩,y.has1,y.has2,y.p1,y.p2,y.q1,y.q2,elA hy (by simp[zU]) rfl,?_⟩
 rw[e0]
 (repeat'(first|exact rfl|exact trivial|assumption|apply And.intro|refine fun(_:Unit) (_:True)=>?_|refine Exists.intro () ?_|omega|(dsimp only;omega)))
 all_goals
  refine Cv.cnd.mk (fun c1=> ?_) (fun c1=>Cv.cnd.mk (fun c2=> ?_) (fun c2=> ?_))
  ·have c1:x.has2=false:=by simpa using c1
   simp only[c1,yRv,yPi,if_false,yPp];exact kp
  ·have c2:y.has2=false:=by simpa using c2
   simp only[c2,yTj,yRv,yPi,if_false,yPp];exact kp
  ·have c1:x.has2=true:=by simpa using c1
   have c2:y.has2=true:=by simpa using c2
   simp only[c1,c2,yRr,yAc]
   refine⟨⟨x.p2,y.p2⟩,?_⟩
   (repeat'(first|exact rfl|exact trivial|assumption|apply And.intro|refine fun(_:Unit) (_:True)=>?_|refine Exists.intro () ?_|omega|(dsimp only;omega)))
   refine Cv.cnd.mk (fun c3=> ?_) (fun c3=> ?_)
   ·have c3:i.less=true:=c3
    simp only[c3,if_true]
    refine⟨⟨y.p2,x.p2⟩,?_⟩
    (repeat'(first|exact rfl|exact trivial|assumption|apply And.intro|refine fun(_:Unit) (_:True)=>?_|refine Exists.intro () ?_|omega|(dsimp only;omega)))
    refine Cv.cnd.mk (fun c4=> ?_) (fun c4=> ?_)
    ·have c4:(vC y.p2 x.p2).2=true:=c4
     simp only[c4,if_true,yPc];exact kp
    ·have c4:(vC y.p2 x.p2).2=false:=c4
     simp only[c4,yPi,if_false,yPp];exact kp
   ·have c3:i.less=false:=c3
    simp only[c3,yPi,if_false]
    refine Cv.cnd.mk (fun c4=> ?_) (fun c4=> ?_)
    ·have c4:(vB x.p2 y.p2).2=true:=c4
     simp only[c4,if_true,yPc];exact kp
    ·have c4:(vB x.p2 y.p2).2=false:=c4
     simp only[c4,yPi,if_false,yPp];exact kp
theorem yCg:mk22.ok Tryz.prog 188:=okw mixed (gokc zMz (gokc zNb gok0)) 0 (fun _=>[]) (fun _=>[]) [] Tryz.func188 yMp
open Go Cv Go.Proofs
structure MkJ where
 i:MkI
 sa:Bool
 sb:Bool
def mkAnyC:Con:=con1 MkJ (fun j=>[.nm 0 0,.agg [zA j.i.a,zA (zC j.sa)],.agg [zA j.i.b,zA (zC j.sb)],yB j.i.less]) (fun j=>MkR j.i.tops j.i.out)
 (fun j=>0≤j.i.a∧j.i.a<j.i.tops.length∧0≤j.i.b∧j.i.b<j.i.tops.length∧jN j.i.tops∧j.i.out.length≤1000) (fun _=>eQ) (fun j=>MkP j.i.tops (j.i.out++mkq j.i.tops ⟨j.i.a,zC j.sa⟩ ⟨j.i.b,zC j.sb⟩ j.i.less))
theorem zPq:mkAnyC.ok Tryz.prog 188:=fun j=>match j with
 |⟨i,false,false⟩=>z8q i
 |⟨i,false,true⟩=>yBt i
 |⟨i,true,false⟩=>yAd i
 |⟨i,true,true⟩=>yCg i
structure hY where
 p:Prd
 tops:List Top
 inst:Int
def qG (i:hY) (s:Int) (k:Nat):List Quote:=(List.range k).flatMap fun(k:Nat)=>mkq i.tops ⟨(i.p.spread i.inst (i.inst+1+k)).1,s⟩ ⟨i.inst+1+k,s⟩ false
def kN (i:hY) (s:Int) (k:Nat):List Quote:=(List.range k).flatMap fun(k:Nat)=>mkq i.tops ⟨(i.p.spread k i.inst).1,3-s⟩ ⟨k,s⟩ true
def yI (i:hY) (s:Int):List Quote:=mkq i.tops ⟨(i.p.legs i.inst).2.1,3-s⟩ ⟨(i.p.legs i.inst).1,s⟩ true
def gX (i:hY) (s:Int) (q:Quote):Quote:={q with a:=⟨(i.p.legs i.inst).1,s⟩,b:=⟨(i.p.legs i.inst).2.1,3-s⟩}
def x5 (i:hY) (s:Int):List Quote:=
 if i.p.count=0∨(i.tops.length:Int)≠i.p.count∨i.inst<0∨(i.p.count:Int)≤i.inst then[]
 else if(i.p.legs i.inst).2.2 then(yI i s).map (gX i s)
 else qG i s (i.p.months.length-(i.inst.toNat+1))++kN i s i.inst.toNat
def yEk (s:Int):Con:=con1 hY (fun i=>[tA i.p,roV 6 (i.tops.map zU),zA i.inst,zA s]) (fun _=>[]) (fun i=>i.p.small∧jN i.tops) (fun _=> .own 0) (fun i=>[.own 257 6 ((x5 i s).map zH)])
def all1C:Con:=yEk 1
def all2C:Con:=yEk 2
def yLq (i:hY) (s:Int):List SAnn:=[
 {ι:=Nat,slots:=fun k=>[(10,.nm 0 0),(77,zA k)],rows:=fun k=>(List.range 3).map (MkU (i.tops,((yI i s).take k).map (gX i s)++(yI i s).drop k))},
 {ι:=Nat,slots:=fun k=>[(10,.nm 0 0),(17,zA (i.inst+1+k))],rows:=fun k=>MkR i.tops (qG i s k)},
 {ι:=Nat,slots:=fun k=>[(10,.nm 0 0),(120,zA k)],rows:=fun k=>MkR i.tops (qG i s (i.p.months.length-(i.inst.toNat+1))++kN i s k)}]
structure nK where
 i:hY
 s:Bool
def allC:Con:=con1 nK (fun j=>[tA j.i.p,roV 6 (j.i.tops.map zU),zA j.i.inst,zA (zC j.s)]) (fun _=>[]) (fun j=>j.i.p.small∧jN j.i.tops) (fun _=> .own 0) (fun j=>[.own 257 6 ((x5 j.i (zC j.s)).map zH)])
def xK (i:hY) (s:Int):List Quote:=(x5 i s).filter fun q=>decide (i.p.price i.inst q.price=0)
def quotesC:Con:=con1 nK (fun j=>[tA j.i.p,roV 6 (j.i.tops.map zU),zA j.i.inst,zA (zC j.s)]) (fun _=>[]) (fun j=>j.i.p.small∧jN j.i.tops) (fun _=> .own 0) (fun j=>[.own 257 6 ((xK j.i (zC j.s)).map zH)])
def z8s (j:nK):List SAnn:=[{ι:=Nat,slots:=fun k=>[(9,.own 0),(18,zA k)],rows:=fun k=>[.own 257 6 ((((x5 j.i (zC j.s)).take k).filter fun q=>decide (j.i.p.price j.i.inst q.price=0)).map zH)]}]
structure BsI where
 l:List Quote
 s:Int
def zT (l:List Quote) (s:Int):Quote×Bool:=match l with
 |[]=>(yFe,false)
 |q::r=>(r.foldl (fun b q=>if btr s q.price b.price then q else b) q,true)
def bestQC:Con:=con1 BsI (fun i=>[roV 6 (i.l.map zH),zA i.s]) (fun _=>[]) (fun i=>(i.s=1∨i.s=2)∧i.l.length≤1000000) (fun i=> .tup [zOl (zT i.l i.s).1,yB (zT i.l i.s).2]) (fun _=>[])
def yIz (i:BsI):List SAnn:=[{ι:=Nat,slots:=fun k=>[(6,.nm 0 0),(26,zA k)],rows:=fun k=>[.cells (zOl (zT (i.l.take (max k 1)) i.s).1).cl 257]}]
open Go Cv Go.Proofs
def bJ (a:hY):Prop:=AObj.fro 6 (List.map zU a.tops)=AObj.fro 6 (List.map zU a.tops)∧Sx.AObj.cells [V.d (D.v (Value.string (sb a.p.code))),V.own 0,V.d (dI a.p.tick),V.d (dI a.p.low),V.d (dI a.p.high),V.d (dI a.p.wide),V.d (dI a.p.rule),V.d (dI a.p.top),V.d (dI a.p.least),V.d (dI a.p.part),V.own ((0:Nat)+(1:Nat))] 26=Sx.AObj.cells [V.d (D.v (Value.string (sb a.p.code))),V.own 0,V.d (dI a.p.tick),V.d (dI a.p.low),V.d (dI a.p.high),V.d (dI a.p.wide),V.d (dI a.p.rule),V.d (dI a.p.top),V.d (dI a.p.least),V.d (dI a.p.part),V.own ((0:Nat)+(1:Nat))] 26∧AObj.fro 1 (iE a.p.settle)=AObj.fro 1 (iE a.p.settle)∧AObj.fro 1 (iE a.p.months)=AObj.fro 1 (iE a.p.months)
def lT (a:Nat→Prop) (b:Nat) (c:Nat→Nat) (d:Nat) (e:hY):Prop:=a b∧c b<c d∧AObj.fro 6 (List.map zU e.tops)=AObj.fro 6 (List.map zU e.tops)∧bJ e
def lQ (a:Nat→Prop) (b:Nat) (c:Nat→Nat) (d:Nat) (e:hY):Prop:=a b∧c b<c d∧bJ e
def vT (a:Top):Prop:=((-9223372036854775808)≤a.p1∧a.p1≤9223372036854775807)∧(-9223372036854775808)≤a.p2∧a.p2≤9223372036854775807
def gT (a:MkJ):Prop:=0≤a.i.a∧a.i.a<(↑a.i.tops.length:Int)∧0≤a.i.b∧a.i.b<(↑a.i.tops.length:Int)∧(a.i.tops.length≤1000000∧∀(b:Top),b∈a.i.tops→vT b)∧a.i.out.length≤1000
def wL (a:MkJ):=(a.i.out++mkq a.i.tops (Leg.mk a.i.a (zC a.sa)) (Leg.mk a.i.b (zC a.sb)) a.i.less)
def pZ (a:Nat) (b:MkJ):=(decide ((↑a:Int)<(↑(List.map zH (wL b)).length:Int)))
def xH (a:mY):Prop:=a.p.code.length≤1099511627776∧a.p.months.length≤1099511627776∧a.p.settle.length≤1099511627776
def jK (a:tZ):Prop:=a.p.code.length≤1099511627776∧a.p.months.length≤1099511627776∧a.p.settle.length≤1099511627776
def cP (a:hY) (b:Nat):=(List.map (gX a 1) (List.take b (yI a 1))++List.drop b (yI a 1))
def rO (a:hY) (b:Nat):=(List.map zH (cP a b))
def bH (a:hY) (b:Nat):=(qG a 1 (a.p.months.length-(a.inst.toNat+1))++kN a 1 b)
def jI (a:tZ):=((a.p.legs a.n).snd.fst)
def yDx (i:hY):Prop:=
 ∃(a:Prd),sb a.code=sb i.p.code∧iE a.months=iE i.p.months∧a.tick=i.p.tick∧a.low=i.p.low∧a.high=i.p.high∧a.wide=i.p.wide∧a.rule=i.p.rule∧a.top=i.p.top∧a.least=i.p.least∧a.part=i.p.part∧iE a.settle=iE i.p.settle∧(yC a)∧∀(b:Unit),True→cnd ((↑a.count:Int)==0) (∃(c:Unit),List.map zH (x5 i 1)=[]∧True) (cnd ((↑(List.map zU i.tops).length:Int) !=(↑a.count:Int)) (∃(c:Unit),List.map zH (x5 i 1)=[]∧True) (cnd (decide (i.inst<0)) (∃(c:Unit),List.map zH (x5 i 1)=[]∧True) (cnd (decide (i.inst≥(↑a.count:Int))) (∃(c:Unit),List.map zH (x5 i 1)=[]∧True) (∃(c:tZ),sb c.p.code=sb i.p.code∧iE c.p.months=iE i.p.months∧c.p.tick=i.p.tick∧c.p.low=i.p.low∧c.p.high=i.p.high∧c.p.wide=i.p.wide∧c.p.rule=i.p.rule∧c.p.top=i.p.top∧c.p.least=i.p.least∧c.p.part=i.p.part∧iE c.p.settle=iE i.p.settle∧c.n=i.inst∧(jK c)∧∀(d:Unit),True→cnd (c.p.legs c.n).snd.snd (∃(e:Int),e=1∧(e=1∨e=2)∧∀(f:Unit),True→∃(g:MkJ),g.i.a=(c.p.legs c.n).snd.fst∧zC g.sa=3-e∧g.i.b=(c.p.legs c.n).fst∧zC g.sb=1∧g.i.less=true∧AObj.fro 6 (List.map zU g.i.tops)=AObj.fro 6 (List.map zU i.tops)∧List.map zH g.i.out=[]∧(gT g)∧∀(h:Unit),True→∃(j:Nat),(↑j:Int)=0∧AObj.fro 6 (List.map zU i.tops)=AObj.fro 6 (List.map zU g.i.tops)∧List.map zH (cP i j)=List.map zH (wL g)∧∃(k:Nat→Prop),∃(l:Nat→Nat),k j∧∀(m:Nat),k m→cnd (pZ m g) ((0≤(↑m:Int)∧(↑m:Int)<(↑(rO i m).length:Int))∧(↑m:Int).toNat<(rO i m).length∧∃(n:Nat),(↑n:Int)=IntKind.i64.wrap ((↑m:Int)+1)∧AObj.fro 6 (List.map zU i.tops)=AObj.fro 6 (List.map zU i.tops)∧List.map zH (cP i n)=yA (rO i m) (↑m:Int).toNat ((0:Nat)+(2:Nat)) [dI ((c.p.legs c.n).fst),dI 1,dI (jI c),dI (3-e)]∧k n∧l n<l m∧AObj.fro 6 (List.map zU g.i.tops)=AObj.fro 6 (List.map zU g.i.tops)∧Sx.AObj.cells [V.d (dI (jI c)),V.d (dI (3-e))] 254=Sx.AObj.cells [V.d (dI (jI c)),V.d (dI (3-e))] 254∧Sx.AObj.cells [V.d (dI ((c.p.legs c.n).fst)),V.d (dI 1)] 254=Sx.AObj.cells [V.d (dI ((c.p.legs c.n).fst)),V.d (dI 1)] 254∧bJ i) (∃(n:Unit),List.map zH (x5 i 1)=List.map zH (cP i m)∧True)) (∃(e:Nat),i.inst+1+(↑e:Int)=IntKind.i64.wrap (i.inst+1)∧AObj.fro 6 (List.map zU i.tops)=AObj.fro 6 (List.map zU i.tops)∧List.map zH (qG i 1 e)=[]∧∃(f:Nat→Prop),∃(g:Nat→Nat),f e∧∀(h:Nat),f h→cnd (decide (i.inst+1+(↑h:Int)<(↑(iE i.p.months).length:Int))) (∃(j:mY),sb j.p.code=sb i.p.code∧iE j.p.months=iE i.p.months∧j.p.tick=i.p.tick∧j.p.low=i.p.low∧j.p.high=i.p.high∧j.p.wide=i.p.wide∧j.p.rule=i.p.rule∧j.p.top=i.p.top∧j.p.least=i.p.least∧j.p.part=i.p.part∧iE j.p.settle=iE i.p.settle∧j.a=i.inst∧j.b=i.inst+1+(↑h:Int)∧(xH j)∧∀(k:Unit),True→∃(l:MkJ),l.i.a=(j.p.spread j.a j.b).fst∧zC l.sa=1∧l.i.b=i.inst+1+(↑h:Int)∧zC l.sb=1∧l.i.less=false∧AObj.fro 6 (List.map zU l.i.tops)=AObj.fro 6 (List.map zU i.tops)∧List.map zH l.i.out=List.map zH (qG i 1 h)∧(gT l)∧∀(m:Unit),True→∃(n:Nat),i.inst+1+(↑n:Int)=IntKind.i64.wrap (i.inst+1+(↑h:Int)+1)∧AObj.fro 6 (List.map zU i.tops)=AObj.fro 6 (List.map zU l.i.tops)∧List.map zH (qG i 1 n)=List.map zH (wL l)∧lQ f n g h i) (∃(j:Nat),(↑j:Int)=0∧AObj.fro 6 (List.map zU i.tops)=AObj.fro 6 (List.map zU i.tops)∧List.map zH (bH i j)=List.map zH (qG i 1 h)∧∃(k:Nat→Prop),∃(l:Nat→Nat),k j∧∀(m:Nat),k m→cnd (decide ((↑m:Int)<i.inst)) (∃(n:mY),sb n.p.code=sb i.p.code∧iE n.p.months=iE i.p.months∧n.p.tick=i.p.tick∧n.p.low=i.p.low∧n.p.high=i.p.high∧n.p.wide=i.p.wide∧n.p.rule=i.p.rule∧n.p.top=i.p.top∧n.p.least=i.p.least∧n.p.part=i.p.part∧iE n.p.settle=iE i.p.settle∧n.a=(↑m:Int)∧n.b=i.inst∧(xH n)∧∀(p:Unit),True→∃(q:Int),q=1∧(q=1∨q=2)∧∀(r:Unit),True→∃(s:MkJ),s.i.a=(n.p.spread n.a n.b).fst∧zC s.sa=3-q∧s.i.b=(↑m:Int)∧zC s.sb=1∧s.i.less=true∧AObj.fro 6 (List.map zU s.i.tops)=AObj.fro 6 (List.map zU i.tops)∧List.map zH s.i.out=List.map zH (bH i m)∧(gT s)∧∀(t:Unit),True→∃(u:Nat),(↑u:Int)=IntKind.i64.wrap ((↑m:Int)+1)∧AObj.fro 6 (List.map zU i.tops)=AObj.fro 6 (List.map zU s.i.tops)∧List.map zH (bH i u)=List.map zH (wL s)∧lT k u l m i) (∃(n:Unit),List.map zH (x5 i 1)=List.map zH (bH i m)∧True)))))))
def cN (a:hY) (b:Nat):=(List.map (gX a 2) (List.take b (yI a 2))++List.drop b (yI a 2))
def rG (a:hY) (b:Nat):=(List.map zH (cN a b))
def c8 (a:hY) (b:Nat):=(qG a 2 (a.p.months.length-(a.inst.toNat+1))++kN a 2 b)
def yEn (i:hY):Prop:=
 ∃(a:Prd),sb a.code=sb i.p.code∧iE a.months=iE i.p.months∧a.tick=i.p.tick∧a.low=i.p.low∧a.high=i.p.high∧a.wide=i.p.wide∧a.rule=i.p.rule∧a.top=i.p.top∧a.least=i.p.least∧a.part=i.p.part∧iE a.settle=iE i.p.settle∧(yC a)∧∀(b:Unit),True→cnd ((↑a.count:Int)==0) (∃(c:Unit),List.map zH (x5 i 2)=[]∧True) (cnd ((↑(List.map zU i.tops).length:Int) !=(↑a.count:Int)) (∃(c:Unit),List.map zH (x5 i 2)=[]∧True) (cnd (decide (i.inst<0)) (∃(c:Unit),List.map zH (x5 i 2)=[]∧True) (cnd (decide (i.inst≥(↑a.count:Int))) (∃(c:Unit),List.map zH (x5 i 2)=[]∧True) (∃(c:tZ),sb c.p.code=sb i.p.code∧iE c.p.months=iE i.p.months∧c.p.tick=i.p.tick∧c.p.low=i.p.low∧c.p.high=i.p.high∧c.p.wide=i.p.wide∧c.p.rule=i.p.rule∧c.p.top=i.p.top∧c.p.least=i.p.least∧c.p.part=i.p.part∧iE c.p.settle=iE i.p.settle∧c.n=i.inst∧(jK c)∧∀(d:Unit),True→cnd (c.p.legs c.n).snd.snd (∃(e:Int),e=2∧(e=1∨e=2)∧∀(f:Unit),True→∃(g:MkJ),g.i.a=(c.p.legs c.n).snd.fst∧zC g.sa=3-e∧g.i.b=(c.p.legs c.n).fst∧zC g.sb=2∧g.i.less=true∧AObj.fro 6 (List.map zU g.i.tops)=AObj.fro 6 (List.map zU i.tops)∧List.map zH g.i.out=[]∧(gT g)∧∀(h:Unit),True→∃(j:Nat),(↑j:Int)=0∧AObj.fro 6 (List.map zU i.tops)=AObj.fro 6 (List.map zU g.i.tops)∧List.map zH (cN i j)=List.map zH (wL g)∧∃(k:Nat→Prop),∃(l:Nat→Nat),k j∧∀(m:Nat),k m→cnd (pZ m g) ((0≤(↑m:Int)∧(↑m:Int)<(↑(rG i m).length:Int))∧(↑m:Int).toNat<(rG i m).length∧∃(n:Nat),(↑n:Int)=IntKind.i64.wrap ((↑m:Int)+1)∧AObj.fro 6 (List.map zU i.tops)=AObj.fro 6 (List.map zU i.tops)∧List.map zH (cN i n)=yA (rG i m) (↑m:Int).toNat ((0:Nat)+(2:Nat)) [dI ((c.p.legs c.n).fst),dI 2,dI (jI c),dI (3-e)]∧k n∧l n<l m∧AObj.fro 6 (List.map zU g.i.tops)=AObj.fro 6 (List.map zU g.i.tops)∧Sx.AObj.cells [V.d (dI (jI c)),V.d (dI (3-e))] 254=Sx.AObj.cells [V.d (dI (jI c)),V.d (dI (3-e))] 254∧Sx.AObj.cells [V.d (dI ((c.p.legs c.n).fst)),V.d (dI 2)] 254=Sx.AObj.cells [V.d (dI ((c.p.legs c.n).fst)),V.d (dI 2)] 254∧bJ i) (∃(n:Unit),List.map zH (x5 i 2)=List.map zH (cN i m)∧True)) (∃(e:Nat),i.inst+1+(↑e:Int)=IntKind.i64.wrap (i.inst+1)∧AObj.fro 6 (List.map zU i.tops)=AObj.fro 6 (List.map zU i.tops)∧List.map zH (qG i 2 e)=[]∧∃(f:Nat→Prop),∃(g:Nat→Nat),f e∧∀(h:Nat),f h→cnd (decide (i.inst+1+(↑h:Int)<(↑(iE i.p.months).length:Int))) (∃(j:mY),sb j.p.code=sb i.p.code∧iE j.p.months=iE i.p.months∧j.p.tick=i.p.tick∧j.p.low=i.p.low∧j.p.high=i.p.high∧j.p.wide=i.p.wide∧j.p.rule=i.p.rule∧j.p.top=i.p.top∧j.p.least=i.p.least∧j.p.part=i.p.part∧iE j.p.settle=iE i.p.settle∧j.a=i.inst∧j.b=i.inst+1+(↑h:Int)∧(xH j)∧∀(k:Unit),True→∃(l:MkJ),l.i.a=(j.p.spread j.a j.b).fst∧zC l.sa=2∧l.i.b=i.inst+1+(↑h:Int)∧zC l.sb=2∧l.i.less=false∧AObj.fro 6 (List.map zU l.i.tops)=AObj.fro 6 (List.map zU i.tops)∧List.map zH l.i.out=List.map zH (qG i 2 h)∧(gT l)∧∀(m:Unit),True→∃(n:Nat),i.inst+1+(↑n:Int)=IntKind.i64.wrap (i.inst+1+(↑h:Int)+1)∧AObj.fro 6 (List.map zU i.tops)=AObj.fro 6 (List.map zU l.i.tops)∧List.map zH (qG i 2 n)=List.map zH (wL l)∧lQ f n g h i) (∃(j:Nat),(↑j:Int)=0∧AObj.fro 6 (List.map zU i.tops)=AObj.fro 6 (List.map zU i.tops)∧List.map zH (c8 i j)=List.map zH (qG i 2 h)∧∃(k:Nat→Prop),∃(l:Nat→Nat),k j∧∀(m:Nat),k m→cnd (decide ((↑m:Int)<i.inst)) (∃(n:mY),sb n.p.code=sb i.p.code∧iE n.p.months=iE i.p.months∧n.p.tick=i.p.tick∧n.p.low=i.p.low∧n.p.high=i.p.high∧n.p.wide=i.p.wide∧n.p.rule=i.p.rule∧n.p.top=i.p.top∧n.p.least=i.p.least∧n.p.part=i.p.part∧iE n.p.settle=iE i.p.settle∧n.a=(↑m:Int)∧n.b=i.inst∧(xH n)∧∀(p:Unit),True→∃(q:Int),q=2∧(q=1∨q=2)∧∀(r:Unit),True→∃(s:MkJ),s.i.a=(n.p.spread n.a n.b).fst∧zC s.sa=3-q∧s.i.b=(↑m:Int)∧zC s.sb=2∧s.i.less=true∧AObj.fro 6 (List.map zU s.i.tops)=AObj.fro 6 (List.map zU i.tops)∧List.map zH s.i.out=List.map zH (c8 i m)∧(gT s)∧∀(t:Unit),True→∃(u:Nat),(↑u:Int)=IntKind.i64.wrap ((↑m:Int)+1)∧AObj.fro 6 (List.map zU i.tops)=AObj.fro 6 (List.map zU s.i.tops)∧List.map zH (c8 i u)=List.map zH (wL s)∧lT k u l m i) (∃(n:Unit),List.map zH (x5 i 2)=List.map zH (c8 i m)∧True)))))))
def qU (a:nK):=(List.map zH (x5 a.i (zC a.s)))
def sO (a:Nat→Prop) (b:Nat) (c:Nat→Nat) (d:Nat) (e:nK) (f:nK):Prop:=a b∧c b<c d∧AObj.own 257 6 (qU e)=AObj.own 257 6 (qU e)∧Sx.AObj.cells [V.d (D.v (Value.string (sb f.i.p.code))),V.own 0,V.d (dI f.i.p.tick),V.d (dI f.i.p.low),V.d (dI f.i.p.high),V.d (dI f.i.p.wide),V.d (dI f.i.p.rule),V.d (dI f.i.p.top),V.d (dI f.i.p.least),V.d (dI f.i.p.part),V.own ((0:Nat)+(1:Nat))] 26=Sx.AObj.cells [V.d (D.v (Value.string (sb f.i.p.code))),V.own 0,V.d (dI f.i.p.tick),V.d (dI f.i.p.low),V.d (dI f.i.p.high),V.d (dI f.i.p.wide),V.d (dI f.i.p.rule),V.d (dI f.i.p.top),V.d (dI f.i.p.least),V.d (dI f.i.p.part),V.own ((0:Nat)+(1:Nat))] 26∧AObj.fro 1 (iE f.i.p.settle)=AObj.fro 1 (iE f.i.p.settle)∧AObj.fro 1 (iE f.i.p.months)=AObj.fro 1 (iE f.i.p.months)
def qZ (a:nK):Prop:=(a.i.p.code.length≤1099511627776∧a.i.p.months.length≤1099511627776∧a.i.p.settle.length≤1099511627776)∧a.i.tops.length≤1000000∧∀(b:Top),b∈a.i.tops→vT b
def uA (a:nK):=(↑(qU a).length:Int)
def zXt (j:nK):Prop:=
 ∃(a:nK),sb a.i.p.code=sb j.i.p.code∧iE a.i.p.months=iE j.i.p.months∧a.i.p.tick=j.i.p.tick∧a.i.p.low=j.i.p.low∧a.i.p.high=j.i.p.high∧a.i.p.wide=j.i.p.wide∧a.i.p.rule=j.i.p.rule∧a.i.p.top=j.i.p.top∧a.i.p.least=j.i.p.least∧a.i.p.part=j.i.p.part∧iE a.i.p.settle=iE j.i.p.settle∧List.map zU a.i.tops=List.map zU j.i.tops∧a.i.inst=j.i.inst∧zC a.s=zC j.s∧(qZ a)∧∀(b:Unit),True→∃(c:Nat),(↑c:Int)=0∧List.map zH (List.filter (fun(q:Sx.Quote) ↦ decide (j.i.p.price j.i.inst q.price=0)) (List.take c (x5 j.i (zC j.s))))=[]∧∃(d:Nat→Prop),∃(e:Nat→Nat),d c∧∀(f:Nat),d f→cnd (decide ((↑f:Int)<(uA a))) ((0≤(↑f:Int)∧(↑f:Int)<(uA a))∧∃(g:Int),∃(h:Int),∃(k:Int),∃(l:Int),∃(m:Int),∃(n:Int),zF (qU a) (↑f:Int).toNat 0 6=some [dI g,dI h,dI k,dI l,dI m,dI n]∧∃(p:mY),sb p.p.code=sb j.i.p.code∧iE p.p.months=iE j.i.p.months∧p.p.tick=j.i.p.tick∧p.p.low=j.i.p.low∧p.p.high=j.i.p.high∧p.p.wide=j.i.p.wide∧p.p.rule=j.i.p.rule∧p.p.top=j.i.p.top∧p.p.least=j.i.p.least∧p.p.part=j.i.p.part∧iE p.p.settle=iE j.i.p.settle∧p.a=j.i.inst∧p.b=g∧(xH p)∧∀(q:Unit),True→cnd (p.p.price p.a p.b==0) (((List.map zH (List.filter (fun(q:Sx.Quote) ↦ decide (j.i.p.price j.i.inst q.price=0)) (List.take f (x5 j.i (zC j.s))))).length+1)*(48:Nat)≤(140737488355328:Nat)∧∃(r:Nat),(↑r:Int)=IntKind.i64.wrap ((↑f:Int)+1)∧List.map zH (List.filter (fun(q:Sx.Quote) ↦ decide (j.i.p.price j.i.inst q.price=0)) (List.take r (x5 j.i (zC j.s))))=List.map zH (List.filter (fun(q:Sx.Quote) ↦ decide (j.i.p.price j.i.inst q.price=0)) (List.take f (x5 j.i (zC j.s))))++[[dI g,dI h,dI k,dI l,dI m,dI n]]∧sO d r e f a j) (∃(r:Nat),(↑r:Int)=IntKind.i64.wrap ((↑f:Int)+1)∧List.map zH (List.filter (fun(q:Sx.Quote) ↦ decide (j.i.p.price j.i.inst q.price=0)) (List.take r (x5 j.i (zC j.s))))=List.map zH (List.filter (fun(q:Sx.Quote) ↦ decide (j.i.p.price j.i.inst q.price=0)) (List.take f (x5 j.i (zC j.s))))∧sO d r e f a j)) (∃(g:Unit),List.map zH (xK j.i (zC j.s))=List.map zH (List.filter (fun(q:Sx.Quote) ↦ decide (j.i.p.price j.i.inst q.price=0)) (List.take f (x5 j.i (zC j.s))))∧True)
def tV (a:Nat→Prop) (b:Nat) (c:Nat→Nat) (d:Nat):Prop:=a b∧c b<c d∧Sx.AObj.cells (Sx.V.agg [V.d (dI 0),V.d (dI 0),V.d (dI 0),V.d (dI 0),V.d (dI 0),V.d (dI 0)]).cl 257=Sx.AObj.cells (Sx.V.agg [V.d (dI 0),V.d (dI 0),V.d (dI 0),V.d (dI 0),V.d (dI 0),V.d (dI 0)]).cl 257
def zZ (a:Nat) (b:BsI):=(zT (List.take (max a 1) b.l) b.s)
def jX (a:BsI):=(↑(List.map zH a.l).length:Int)
def zIn (a:BsI):Prop:=((0:Int)≤(0:Int)∧0<(jX a))∧∃(b:Int),∃(c:Int),∃(d:Int),∃(e:Int),∃(f:Int),∃(g:Int),zF (List.map zH a.l) (Int.toNat 0) 0 6=some [dI b,dI c,dI d,dI e,dI f,dI g]∧∃(h:Nat),(↑h:Int)=0∧(zZ h a).fst.price=b∧(zZ h a).fst.qty=c∧(zZ h a).fst.a.inst=d∧(zZ h a).fst.a.side=e∧(zZ h a).fst.b.inst=f∧(zZ h a).fst.b.side=g∧∃(j:Nat→Prop),∃(k:Nat→Nat),j h∧∀(l:Nat),j l→cnd (decide ((↑l:Int)<(jX a))) ((0≤(↑l:Int)∧(↑l:Int)<(jX a))∧∃(m:Int),∃(n:Int),∃(p:Int),∃(q:Int),∃(r:Int),∃(s:Int),zF (List.map zH a.l) (↑l:Int).toNat 0 6=some [dI m,dI n,dI p,dI q,dI r,dI s]∧∃(t:I3'),t.side=a.s∧t.x=m∧t.y=(zZ l a).fst.price∧True∧∀(u:Unit),True→cnd (btr t.side t.x t.y) (∃(v:Nat),(↑v:Int)=IntKind.i64.wrap ((↑l:Int)+1)∧(zZ v a).fst.price=m∧(zZ v a).fst.qty=n∧(zZ v a).fst.a.inst=p∧(zZ v a).fst.a.side=q∧(zZ v a).fst.b.inst=r∧(zZ v a).fst.b.side=s∧tV j v k l) (∃(v:Nat),(↑v:Int)=IntKind.i64.wrap ((↑l:Int)+1)∧(zZ v a).fst.price=(zZ l a).fst.price∧(zZ v a).fst.qty=(zZ l a).fst.qty∧(zZ v a).fst.a.inst=(zZ l a).fst.a.inst∧(zZ v a).fst.a.side=(zZ l a).fst.a.side∧(zZ v a).fst.b.inst=(zZ l a).fst.b.inst∧(zZ v a).fst.b.side=(zZ l a).fst.b.side∧tV j v k l)) (∃(m:Unit),(zT a.l a.s).fst.price=(zZ l a).fst.price∧(zT a.l a.s).fst.qty=(zZ l a).fst.qty∧(zT a.l a.s).fst.a.inst=(zZ l a).fst.a.inst∧(zT a.l a.s).fst.a.side=(zZ l a).fst.a.side∧(zT a.l a.s).fst.b.inst=(zZ l a).fst.b.inst∧(zT a.l a.s).fst.b.side=(zZ l a).fst.b.side∧(zT a.l a.s).snd=true∧True)
def sN (a:BsI):Prop:=∃(b:Unit),(zT a.l a.s).fst.price=0∧(zT a.l a.s).fst.qty=0∧(zT a.l a.s).fst.a.inst=0∧(zT a.l a.s).fst.a.side=0∧(zT a.l a.s).fst.b.inst=0∧(zT a.l a.s).fst.b.side=0∧(zT a.l a.s).snd=false∧True
def z5f (i:BsI):Prop:=
 cnd ((jX i)==0) (sN i) (cnd (i.s !=1) (cnd (i.s !=2) (sN i) (zIn i)) (zIn i))
end Sx
