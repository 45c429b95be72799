/- Texts of ours, one behind the other: a walk that the kernel reckons, and contracts of functions. No condition. -/
import Derived.Test.YthkofaanekmpmaaGreatRows
import Derived.Test.YthkofaanekmpmaaGreatX3
namespace Sx
set_option linter.unusedVariables false
open Go Cv Go.Proofs
theorem kp {P:Prop} (h:P:=by(repeat'(first|exact rfl|exact trivial|assumption|apply And.intro|refine fun(_:Unit) (_:True)=>?_|refine Exists.intro () ?_|omega|(dsimp only;omega)))):P:=h
theorem mixed:Tryz.prog.follows .mixedOrders=true:=by kernel_rfl
theorem okw {P:Program} {f:FuncId} {fn:Func} {C:Con} {G:List (Nat×Con)} {V:C.ι→Prop} (hm:P.follows .mixedOrders=true) (hG:GOk P G) (d:Nat) (J:C.ι→List (Nat×SAnn)) (an:C.ι→List SAnn) (op:List Nat) (hf:P.funcs[f]? =some fn) (h:∀i,C.cnd i→V i) (hb:fn.body=some (fn.body.getD .skip):=by kernel_rfl) (hbd:uG P f=true:=by kernel_rfl) (hok:okC fn.ntmps (fn.body.getD .skip)=true:=by kernel_rfl) (hsz:∀i,Nat.ble (C.pat i).length fn.ntmps=true:=by intro _;kernel_rfl) (e:∀i,V i=walk P G d (J i) (an i) op fn (fn.body.getD .skip) (C.pat i) (C.pre i) (C.alts i):=by intro _;kernel_rfl):C.ok P f:=bZ hm G hG d J an op hf hb hbd hok hsz fun i hc=>Eq.mp (e i) (h i hc)
structure Lv where
 price:Int
 qty:Int
 count:Int
def lvE (l:Lv):List D:=[.v (.int .i64 l.price),.v (.int .i64 l.qty),.v (.int .i64 l.count)]
def lvV (l:Lv):V:= .agg [zA l.price,zA l.qty,zA l.count]
open Go Cv Go.Proofs
def sb (l:List UInt8):ByteArray:=⟨l.toArray⟩
@[reducible] def sV (l:List UInt8):V:= .d (.v (.string (sb l)))
def zJa (l:List UInt8):Nat×Nat:=Utf8.decode (sb l) 0
def eN:Nat→Nat→List UInt8→List (Nat×Nat)
 |0,_,_=>[]
 |k+1,p,l=>match l with
  |[]=>[]
  |_=>(p,(zJa l).1)::eN k (p+(zJa l).2) (l.drop (zJa l).2)
def u9 (s:List UInt8) (p:Nat):List (Nat×Nat):=eN (s.length-p) p (s.drop p)
def kP (s:List UInt8):List Nat:=(u9 s 0).map (·.2)
def countC:Con:=con1 (List UInt8) (fun s=>[sV s]) (fun _=>[]) (fun s=>s.length≤1099511627776) (fun s=>zA (kP s).length) (fun _=>[])
def yNn (s:List UInt8):List SAnn:=[{ι:=Nat×Nat,slots:=fun x=>[(3,zA x.2),(5,.nm 0 0)],rows:=fun x=>[.iter (sb s) x.1]}]
def uR (r:Nat):Bool:=(decide (65≤r) && decide (r≤90))||(decide (913≤r) && decide (r≤937) && decide (r≠930))
def j5 (s:List UInt8):Bool:=(kP s).all uR && decide (s≠[]) && decide ((kP s).length≤4)
def symC:Con:=con1 (List UInt8) (fun s=>[sV s]) (fun _=>[]) (fun s=>s.length≤1099511627776) (fun s=>yG (j5 s)) (fun _=>[])
def yVy (s:List UInt8):List SAnn:=[{ι:=Nat,slots:=fun x=>[(7,.nm 0 0)],rows:=fun x=>[.iter (sb s) x]}]
def iE (l:List Int):List (List D):=l.map fun n=>[.v (.int .i64 n)]
@[reducible] def iV (l:List Int):V:=roV 1 (iE l)
structure Prd where
 code:List UInt8
 months:List Int
 tick:Int
 low:Int
 high:Int
 wide:Int
 rule:Int
 top:Int
 least:Int
 part:Int
 settle:List Int
 deriving DecidableEq
@[reducible] def Prd.cells (p:Prd):List V:=[sV p.code,iV p.months,zA p.tick,zA p.low,zA p.high,zA p.wide,zA p.rule,zA p.top,zA p.least,zA p.part,iV p.settle]
@[reducible] def prdV (p:Prd):V:= .agg p.cells
@[reducible] def Prd.small (p:Prd):Prop:=p.code.length≤1099511627776∧p.months.length≤1099511627776∧p.settle.length≤1099511627776
def qN (l:List Int) (k:Nat):Bool:=decide (0≤l.getD k 0) && decide (l.getD k 0≤1199) && (decide (k=0)||decide (l.getD (k-1) 0<l.getD k 0))
def xE (l:List Int):Bool:=(List.range l.length).all (qN l) && decide (2≤l.length) && decide (l.length≤6)
def monthsC:Con:=con1 (List Int) (fun l=>[iV l]) (fun _=>[]) (fun l=>l.length≤1099511627776) (fun l=>yG (xE l)) (fun _=>[])
def yHr:List SAnn:=[{ι:=Nat,slots:=fun j=>[(7,zA j)],rows:=fun _=>[]}]
def pY (l:List Int):Int:=l.tail.foldl min (l.headD 0)
def rW (l:List Int):Int:=l.tail.foldl max (l.headD 0)
def minC:Con:=con1 (List Int) (fun l=>[iV l]) (fun _=>[]) (fun l=>0<l.length∧l.length≤1099511627776) (fun l=>zA (pY l)) (fun _=>[])
def maxC:Con:=con1 (List Int) (fun l=>[iV l]) (fun _=>[]) (fun l=>0<l.length∧l.length≤1099511627776) (fun l=>zA (rW l)) (fun _=>[])
def yUw (l:List Int):List SAnn:=[{ι:=Nat,slots:=fun j=>[(3,zA (pY (l.take j))),(4,zA j)],rows:=fun _=>[]}]
def yWa (l:List Int):List SAnn:=[{ι:=Nat,slots:=fun j=>[(3,zA (rW (l.take j))),(4,zA j)],rows:=fun _=>[]}]
set_option maxRecDepth 100000
open Go Cv Go.Proofs
@[reducible] def dI (n:Int):D:= .v (.int .i64 n)
def fX (a:Nat×Nat) (b:List UInt8) (c:Nat×Nat→Prop) (d:Nat×Nat→Nat):Prop:=∃(e:Nat×Nat),(↑e.snd:Int)=IntKind.i64.wrap ((↑a.snd:Int)+1)∧sb b=sb b∧e.fst=a.fst+(Utf8.decode (sb b) a.fst).snd∧c e∧d e<d a∧True
def yAi (s:List UInt8):Prop:=
 ∃(a:Nat×Nat),(↑a.snd:Int)=0∧sb s=sb s∧a.fst=0∧∃(b:Nat×Nat→Prop),∃(c:Nat×Nat→Nat),b a∧∀(d:Nat×Nat),b d→cnd (d.fst.blt (sb s).size) (fX d s b c) (∃(e:Unit),(↑(kP s).length:Int)=(↑d.snd:Int)∧True)
def zDi (a:List UInt8) (b:Nat) (c:Nat→Prop) (d:Nat→Nat):Prop:=∃(e:Nat),sb a=sb a∧e=b+(Utf8.decode (sb a) b).snd∧c e∧d e<d b∧True
def fL (a:List UInt8) (b:Nat):=(↑(Utf8.decode (sb a) b).fst:Int)
def yRp (s:List UInt8):Prop:=
 ∃(a:Nat),sb s=sb s∧a=0∧∃(b:Nat→Prop),∃(c:Nat→Nat),b a∧∀(d:Nat),b d→cnd (d.blt (sb s).size) (cnd (decide ((fL s d)≥65)) (cnd (decide ((fL s d)≤90)) (zDi s d b c) (cnd (decide ((fL s d)≥913)) (cnd (decide ((fL s d)≤937)) (cnd (!(fL s d) !=930) (∃(e:Unit),j5 s=false∧True) (zDi s d b c)) (∃(e:Unit),j5 s=false∧True)) (∃(e:Unit),j5 s=false∧True))) (cnd (decide ((fL s d)≥913)) (cnd (decide ((fL s d)≤937)) (cnd (!(fL s d) !=930) (∃(e:Unit),j5 s=false∧True) (zDi s d b c)) (∃(e:Unit),j5 s=false∧True)) (∃(e:Unit),j5 s=false∧True))) (cnd (!(sb s).toList==(ByteArray.mk #[]).toList) (∃(e:List UInt8),sb e=sb s∧e.length≤1099511627776∧∀(f:Unit),True→∃(g:Unit),j5 s=decide ((↑(kP e).length:Int)≤4)∧True) (∃(e:Unit),j5 s=false∧True))
def wC (a:Nat) (b:Nat) (c:Nat→Prop) (d:Nat→Nat):Prop:=(↑a:Int)=IntKind.i64.wrap ((↑b:Int)+1)∧c a∧d a<d b∧True
def jK (a:Nat) (b:Nat→Prop) (c:Nat→Nat):Prop:=∃(d:Nat),wC d a b c
def z2z (l:List Int):Prop:=
 ∃(a:Nat),(↑a:Int)=0∧∃(b:Nat→Prop),∃(c:Nat→Nat),b a∧∀(d:Nat),b d→cnd (decide ((↑d:Int)<(↑(iE l).length:Int))) ((0≤(↑d:Int)∧(↑d:Int)<(↑(iE l).length:Int))∧∃(e:Int),zF (iE l) (↑d:Int).toNat 0 1=some [dI e]∧cnd (decide (e<0)) (∃(f:Unit),xE l=false∧True) (cnd (decide (e>1199)) (∃(f:Unit),xE l=false∧True) (cnd (decide ((↑d:Int)>0)) ((0≤IntKind.i64.wrap ((↑d:Int)-1)∧IntKind.i64.wrap ((↑d:Int)-1)<(↑(iE l).length:Int))∧∃(f:Int),zF (iE l) (IntKind.i64.wrap ((↑d:Int)-1)).toNat 0 1=some [dI f]∧cnd (decide (f≥e)) (∃(g:Unit),xE l=false∧True) (jK d b c)) (jK d b c)))) (cnd (decide ((↑(iE l).length:Int)≥2)) (∃(e:Unit),xE l=decide ((↑(iE l).length:Int)≤6)∧True) (∃(e:Unit),xE l=false∧True))
def yTk (l:List Int):Prop:=
 cnd (decide ((↑(iE l).length:Int)<1)) False (((0:Int)≤(0:Int)∧0<(↑(iE l).length:Int))∧∃(a:Int),zF (iE l) (Int.toNat 0) 0 1=some [dI a]∧∃(b:Nat),pY (List.take b l)=a∧(↑b:Int)=1∧∃(c:Nat→Prop),∃(d:Nat→Nat),c b∧∀(e:Nat),c e→cnd (decide ((↑e:Int)<(↑(iE l).length:Int))) ((0≤(↑e:Int)∧(↑e:Int)<(↑(iE l).length:Int))∧∃(f:Int),zF (iE l) (↑e:Int).toNat 0 1=some [dI f]∧∃(g:Nat),pY (List.take g l)=min (pY (List.take e l)) f∧wC g e c d) (∃(f:Unit),pY l=pY (List.take e l)∧True))
def yUa (l:List Int):Prop:=
 cnd (decide ((↑(iE l).length:Int)<1)) False (((0:Int)≤(0:Int)∧0<(↑(iE l).length:Int))∧∃(a:Int),zF (iE l) (Int.toNat 0) 0 1=some [dI a]∧∃(b:Nat),rW (List.take b l)=a∧(↑b:Int)=1∧∃(c:Nat→Prop),∃(d:Nat→Nat),c b∧∀(e:Nat),c e→cnd (decide ((↑e:Int)<(↑(iE l).length:Int))) ((0≤(↑e:Int)∧(↑e:Int)<(↑(iE l).length:Int))∧∃(f:Int),zF (iE l) (↑e:Int).toNat 0 1=some [dI f]∧∃(g:Nat),(rW (List.take g l)=if f>rW (List.take e l)then f else rW (List.take e l))∧wC g e c d) (∃(f:Unit),rW l=rW (List.take e l)∧True))
set_option linter.unusedSimpArgs false
open Go Cv Go.Proofs
@[simp] theorem z2s (s:List UInt8):(sb s).size=s.length:=by simp[sb,ByteArray.size]
theorem nI (s:List UInt8):(sb s).toList=s:=by rw[ByteArray.toList_eq];rfl
theorem yOo (s:List UInt8) (p k:Nat):(sb s).get! (p+k)=(sb (s.drop p)).get! (0+k):=by
 simp only[sb,ByteArray.get!,yXl]
 simp only[List.getElem!_toArray,List.getElem!_eq_getElem?_getD,yYy]
theorem zHm (s:List UInt8) (p:Nat):Utf8.decode (sb s) p=zJa (s.drop p):=by
 have h (k:Nat):(decide (p+k<(sb s).size))=decide (0+k<(sb (s.drop p)).size):=by
  simp only[z2s,yXk]
  by_cases h:p+k<s.length
  ·rw[yXb h,yXb (by omega)]
  ·rw[yWx h,yWx (by omega)]
 unfold zJa Utf8.decode
 simp only[yOo s p,h]
theorem bY (s:List UInt8) {p:Nat} (h:p<s.length):1≤(Utf8.decode (sb s) p).2∧p+(Utf8.decode (sb s) p).2≤s.length:=by
 unfold Utf8.decode
 simp only[z2s,yXa,yYm]
 split
 ·exact⟨by simp,by simp;omega⟩
 split
 ·rename_i h1
  split
  ·exact⟨by simp,by simp;omega⟩
  ·exact⟨by simp,by simp;omega⟩
 split
 ·rename_i h1
  split
  ·exact⟨by simp,by simp;omega⟩
  ·exact⟨by simp,by simp;omega⟩
 split
 ·rename_i h1
  split
  ·exact⟨by simp,by simp;omega⟩
  ·exact⟨by simp,by simp;omega⟩
 ·exact⟨by simp,by simp;omega⟩
theorem yMj {l:List UInt8} (h:l≠[]):1≤(zJa l).2∧(zJa l).2≤l.length:=by
 have:=bY l (p:=0) (by cases l<;>simp_all)
 rw[zJa];omega
theorem nY:∀(k:Nat) (p:Nat) (l:List UInt8),l.length≤k→eN k p l=eN l.length p l
 |0,p,l,h=>by
  have:l=[]:=yXn (by omega)
  subst this;rfl
 |k+1,p,[],h=>rfl
 |k+1,p,b::l,h=>by
  have hw:=yMj (l:=b::l) (by simp)
  have hl:((b::l).drop (zJa (b::l)).2).length≤l.length:=by rw[yXk,yWs];omega
  rw[yWs]
  simp only[eN]
  rw[nY k _ _ (by rw[yWs]at h;omega),nY l.length _ _ hl]
theorem fV {s:List UInt8} {p:Nat} (h:s.length≤p):u9 s p=[]:=by
 rw[u9,show s.length-p=0 by omega];rfl
theorem wI {s:List UInt8} {p:Nat} (h:p<s.length):u9 s p=(p,(Utf8.decode (sb s) p).1)::u9 s (p+(Utf8.decode (sb s) p).2):=by
 obtain⟨k,hk⟩:∃k,s.length-p=k+1:=⟨s.length-p-1,by omega⟩
 have hw:=bY s h
 obtain⟨b,l,hb⟩:∃b l,s.drop p=b::l:=by
  cases hd:s.drop p with
  |nil=>rw[List.drop_eq_nil_iff]at hd;omega
  |cons b l=>exact⟨b,l,rfl⟩
 have hlen:(b::l).length=s.length-p:=by rw[← hb,yXk]
 rw[u9,hk,hb,zHm,hb,u9]
 rw[zHm,hb]at hw
 simp only[eN]
 have e:(b::l).drop (zJa (b::l)).2=s.drop (p+(zJa (b::l)).2):=by rw[← hb,y0c]
 rw[e,nY k _ _ (by rw[yXk];omega),yXk]
theorem zLl (s:List UInt8):∀(k p:Nat),s.length-p≤k→(u9 s p).length≤s.length-p
 |0,p,h=>by rw[fV (by omega)];simp
 |k+1,p,h=>by
  by_cases hp:p<s.length
  ·have hw:=bY s hp
   rw[wI hp,yWs]
   have:=zLl s k (p+(Utf8.decode (sb s) p).2) (by omega)
   omega
  ·rw[fV (by omega)];simp
theorem zEs (s:List UInt8):(kP s).length≤s.length:=by
 rw[kP,yWm]
 have:=zLl s s.length 0 (by omega)
 omega
theorem z4n {a b:Nat} (h:Nat.blt a b=false):b≤a:=by
 rcases yZi a b with h1|h1
 ·rw[show Nat.blt a b=true by rw[yZs];exact h1]at h;cases h
 ·exact h1
theorem yFz:(ByteArray.mk #[]).toList=[]:=nI []
theorem yPk (s:List UInt8) (h:countC.cnd s):yAi s:=by
 have h:s.length≤1099511627776:=h
 have hr:=zEs s
 unfold yAi fX
 refine⟨(0,0),rfl,rfl,rfl,fun x=>x.1≤s.length∧x.2+(u9 s x.1).length=(kP s).length,fun x=>s.length-x.1,⟨by omega,by rw[kP,yWm];simp⟩,?_⟩
 rintro⟨p,n⟩ ⟨h1,h2⟩
 dsimp only at h1 h2 ⊢
 refine Cv.cnd.mk (fun hp=> ?_) (fun hp=> ?_)
 ·have hp:p<s.length:=by simpa[yZs]using hp
  have hw:=bY s hp
  rw[wI hp,yWs]at h2
  refine⟨(p+(Utf8.decode (sb s) p).2,n+1),?_,rfl,rfl,⟨hw.2,by(first|omega|(dsimp only;omega))⟩,by(first|omega|(dsimp only;omega)),trivial⟩
  rw[w64 (by omega)];rfl
 ·have hp:s.length≤p:=by have:=z4n hp;simpa using this
  rw[fV hp]at h2
  exact⟨(),by rw[← h2];rfl,trivial⟩
theorem yFn:countC.ok Tryz.prog 190:=okw mixed gok0 0 (fun _=>[]) (fun s=>yNn s) [] Tryz.func190 yPk
theorem yVh (s:List UInt8) (h:symC.cnd s):yRp s:=by
 have h:s.length≤1099511627776:=h
 unfold yRp fL zDi
 refine⟨0,rfl,rfl,fun p=>p≤s.length∧(kP s).all uR=(u9 s p).all fun x=>uR x.2,fun p=>s.length-p,⟨by omega,by rw[kP,List.all_map];rfl⟩,?_⟩
 rintro p ⟨h1,h2⟩
 refine Cv.cnd.mk (fun hp=> ?_) (fun hp=> ?_)
 ·have hp:p<s.length:=by simpa[yZs]using hp
  have hw:=bY s hp
  rw[wI hp,List.all_cons]at h2
  generalize hc:(Utf8.decode (sb s) p).1=c at h2 ⊢
  generalize hww:(Utf8.decode (sb s) p).2=w at h2 hw ⊢
  dsimp only at h2
  have bad:uR c=false→∃(o:Unit),j5 s=false∧True:=fun e=>⟨(),by rw[j5,h2,e];rfl,trivial⟩
  have good:uR c=true→∃i':Nat,sb s=sb s∧i'=p+w∧(i'≤s.length∧(kP s).all uR=(u9 s i').all fun x=>uR x.2)∧s.length-i'<s.length-p∧True:=fun e=>⟨p+w,rfl,rfl,⟨hw.2,by rw[h2,e];rfl⟩,by omega,trivial⟩
  refine zK (fun c1=>zK (fun c2=> ?_) (fun c2=>zK (fun c3=>zK (fun c4=>Cv.cnd.mk (fun c5=> ?_) (fun c5=> ?_)) (fun c4=> ?_)) (fun c3=> ?_))) (fun c1=>zK (fun c3=>zK (fun c4=>Cv.cnd.mk (fun c5=> ?_) (fun c5=> ?_)) (fun c4=> ?_)) (fun c3=> ?_))
  all_goals first|(refine good ?_;simp[uR]at*;omega)|(refine bad ?_;simp[uR]at*;omega)
 ·have hp:s.length≤p:=by have:=z4n hp;simpa using this
  rw[fV hp]at h2
  have h2:(kP s).all uR=true:=h2
  refine Cv.cnd.mk (fun e=>⟨s,rfl,h,fun _ _=>⟨(),?_,trivial⟩⟩) (fun e=>⟨(),?_,trivial⟩)
  ·rw[nI,yFz]at e
   have:s≠[]:=by simpa using e
   rw[j5,h2,yXb this]
   simp only[yZl]
   congr 1
   simp only[eq_iff_iff];omega
  ·have:s=[]:=by
    rw[nI,yFz]at e
    simpa using e
   rw[j5,this];rfl
theorem yQj:symC.ok Tryz.prog 151:=okw mixed (gokc yFn gok0) 0 (fun _=>[]) (fun s=>yVy s) [] Tryz.func151 yVh
@[simp] theorem xF (l:List Int):(iE l).length=l.length:=by simp[iE]
theorem elI {l:List Int} {k:Nat} {n:Int} (h:l[k]? =some n):zF (iE l) k 0 1=some [D.v (.int .i64 n)]:=by
 simp[zF,iE,h];rfl
theorem z6 {α:Type} {l:List α} {i:Nat} (h:i<l.length):∃x,l[i]? =some x:=⟨l[i],yXu h⟩
theorem zPh {n k:Nat} {f:Nat→Bool} (hk:k<n) (h:f k=false):(List.range n).all f=false:=by
 cases hh:(List.range n).all f
 ·rfl
 ·rw[yZu]at hh
  rw[hh k (by simpa using hk)]at h;cases h
theorem zWn {n:Nat} {f:Nat→Bool} (h:∀k<n,f k=true):(List.range n).all f=true:=by
 rw[yZu];intro k hk;exact h k (by simpa using hk)
theorem yJb (l:List Int) (h:monthsC.cnd l):z2z l:=by
 have h:l.length≤1099511627776:=h
 unfold z2z jK wC dI
 simp only[xF]
 refine⟨0,rfl,fun j=>j≤l.length∧∀k<j,qN l k=true,fun j=>l.length-j,⟨by omega,fun k hk=>by omega⟩,?_⟩
 rintro j ⟨h1,h2⟩
 have bad:j<l.length→qN l j=false→∃(o:Unit),xE l=false∧True:=fun hj e=>⟨(),by rw[xE,zPh hj e];rfl,trivial⟩
 have good:j<l.length→qN l j=true→∃i':Nat,(i':Int)=IntKind.i64.wrap ((j:Int)+1)∧(i'≤l.length∧∀k<i',qN l k=true)∧l.length-i'<l.length-j∧True:=fun hj e=>⟨j+1,by rw[w64 (by omega)];rfl,⟨by omega,fun k hk=>by
  rcases yZi k j with hk'|hk'
  ·exact h2 k hk'
  ·obtain rfl:k=j:=by omega
   exact e⟩,by omega,trivial⟩
 refine zK (fun hj=> ?_) (fun hj=> ?_)
 ·have hj:j<l.length:=by omega
  obtain⟨n,hn⟩:=z6 hj
  have hg:l.getD j 0=n:=by simp[hn]
  refine⟨⟨by omega,by omega⟩,n,elI hn,zK (fun c1=>bad hj (by simp[qN,hn];omega)) (fun c1=>zK (fun c2=>bad hj (by simp[qN,hn];omega)) (fun c2=>zK (fun c3=> ?_) (fun c3=>good hj ?_)))⟩
  ·have e:IntKind.i64.wrap ((j:Int)-1)=((j-1:Nat):Int):=by rw[w64 (by omega)];omega
   obtain⟨m,hm⟩:=z6 (l:=l) (i:=j-1) (by omega)
   rw[e]
   refine⟨⟨by omega,by omega⟩,m,elI hm,zK (fun c4=>bad hj ?_) (fun c4=>good hj ?_)⟩
   ·simp[qN,hn,hm];omega
   ·simp[qN,hn,hm];omega
  ·simp[qN,hn];omega
 ·have e:(List.range l.length).all (qN l)=true:=zWn fun k hk=>h2 k (by omega)
  refine zK (fun c=>⟨(),?_,trivial⟩) (fun c=>⟨(),?_,trivial⟩)
  ·rw[xE,e,yXb (show 2≤l.length by omega)]
   simp;omega
  ·rw[xE,yWx (show ¬2≤l.length by omega)];simp
theorem z5y:monthsC.ok Tryz.prog 152:=okw mixed gok0 0 (fun _=>[]) (fun _=>yHr) [] Tryz.func152 yJb
theorem zGa {f:Int→Int→Int} {l:List Int} {j:Nat} {n:Int} (h:l[j+1]? =some n):(l.take (j+2)).tail.foldl f ((l.take (j+2)).headD 0)=f ((l.take (j+1)).tail.foldl f ((l.take (j+1)).headD 0)) n:=by
 cases l with
 |nil=>simp at h
 |cons a l=>
  simp only[yYe]at h
  simp only[yXv,List.tail_cons,List.headD_cons]
  rw[yXw,h,y1l];rfl
theorem zYg {l:List Int} {n:Int} (h:l[0]? =some n) (f:Int→Int→Int):(l.take 1).tail.foldl f ((l.take 1).headD 0)=n:=by
 cases l with
 |nil=>simp at h
 |cons a l=>simpa using h
theorem yVt (l:List Int) (h:minC.cnd l):yTk l:=by
 obtain⟨h0,h⟩:0<l.length∧l.length≤1099511627776:=h
 unfold yTk wC dI
 simp only[xF]
 obtain⟨n,hn⟩:=z6 h0
 refine zK (fun c=>by omega) (fun c=>⟨⟨by omega,by omega⟩,n,elI hn,1,zYg hn min,rfl,fun j=>1≤j∧j≤l.length,fun j=>l.length-j,⟨by omega,by omega⟩,?_⟩)
 rintro j ⟨h1,h2⟩
 refine zK (fun hj=> ?_) (fun hj=>⟨(),?_,trivial⟩)
 ·obtain⟨m,hm⟩:=z6 (l:=l) (i:=j) (by omega)
  refine⟨⟨by omega,by omega⟩,m,elI hm,j+1,?_,?_,⟨by omega,by omega⟩,by(first|omega|(dsimp only;omega)),trivial⟩
  ·obtain⟨k,rfl⟩:∃k,j=k+1:=⟨j-1,by omega⟩
   first
    |(rw[pY,zGa hm,← pY];done)
    |(rw[pY,zGa hm,← pY];generalize pY (l.take (k+1))=x;split<;>omega)
  ·rw[w64 (by omega)];rfl
 ·rw[yXc (by omega)]
theorem yMs:minC.ok Tryz.prog 154:=okw mixed gok0 0 (fun _=>[]) (fun l=>yUw l) [] Tryz.func154 yVt
theorem yUz (l:List Int) (h:maxC.cnd l):yUa l:=by
 obtain⟨h0,h⟩:0<l.length∧l.length≤1099511627776:=h
 unfold yUa wC dI
 simp only[xF]
 obtain⟨n,hn⟩:=z6 h0
 refine zK (fun c=>by omega) (fun c=>⟨⟨by omega,by omega⟩,n,elI hn,1,zYg hn max,rfl,fun j=>1≤j∧j≤l.length,fun j=>l.length-j,⟨by omega,by omega⟩,?_⟩)
 rintro j ⟨h1,h2⟩
 refine zK (fun hj=> ?_) (fun hj=>⟨(),?_,trivial⟩)
 ·obtain⟨m,hm⟩:=z6 (l:=l) (i:=j) (by omega)
  refine⟨⟨by omega,by omega⟩,m,elI hm,j+1,?_,?_,⟨by omega,by omega⟩,by(first|omega|(dsimp only;omega)),trivial⟩
  ·obtain⟨k,rfl⟩:∃k,j=k+1:=⟨j-1,by omega⟩
   rw[rW,zGa hm,← rW]
   generalize rW (l.take (k+1))=x
   split<;>omega
  ·rw[w64 (by omega)];rfl
 ·rw[yXc (by omega)]
theorem yOl:maxC.ok Tryz.prog 155:=okw mixed gok0 0 (fun _=>[]) (fun l=>yWa l) [] Tryz.func155 yUz
open Go Cv Go.Proofs
@[reducible] def Prd.row (p:Prd):AObj:= .cells p.cells 25
structure zZf where
 p:Prd
 n:Int
structure zRp where
 p:Prd
 l:List Int
def qK (t n:Int):Bool:=n.tmod t !=0
def offC:Con:=con1 zZf (fun i=>[zA i.n,.nm 0 0]) (fun i=>[i.p.row]) (fun i=>1≤i.p.tick) (fun i=>yG (qK i.p.tick i.n)) (fun i=>[i.p.row])
@[reducible] def yTz:V:= .fn 191 [] [.nm 0 0]
def zHg (k:Option Nat):Int:=match k with
 |some k=>k
 |none=> -1
def idxC:Con:=con1 zRp (fun i=>[iV i.l,yTz]) (fun i=>[i.p.row]) (fun i=>1≤i.p.tick∧i.l.length≤1099511627776) (fun i=>zA (zHg (i.l.findIdx? (qK i.p.tick)))) (fun i=>[i.p.row])
def yWb (i:zRp):List SAnn:=[{ι:=Nat,slots:=fun j=>[(8,zA j)],rows:=fun _=>[]}]
def containsC:Con:=con1 zRp (fun i=>[iV i.l,yTz]) (fun i=>[i.p.row]) (fun i=>1≤i.p.tick∧i.l.length≤1099511627776) (fun i=>yG (i.l.any (qK i.p.tick))) (fun i=>[i.p.row])
def qJ (p:Prd):Bool:=decide (1≤p.tick) && decide (p.tick≤1000) && !qK p.tick p.low && !qK p.tick p.high && !qK p.tick p.wide && !p.settle.any (qK p.tick)
def ticksC:Con:=con1 Prd (fun p=>[prdV p]) (fun _=>[]) Prd.small (fun p=>yG (qJ p)) (fun _=>[])
def qC (p:Prd):Bool:=decide (p.low< -1000000)||decide (p.low≥p.high)||decide (p.high>1000000)||decide (p.wide<0)||decide (p.wide>p.high-p.low)
def xG (p:Prd):Bool:=decide (p.settle.length≠p.months.length)||decide (pY p.settle<p.low)||decide (rW p.settle>p.high)
def kA (p:Prd):Bool:=decide (p.rule<1)||decide (p.rule>3)
def xU (p:Prd):Bool:=decide (p.top<0)||decide (p.top>1000000)||decide (p.least<1)||decide (p.least>1000)||decide (p.part<0)||decide (p.part>100)
def Prd.check (p:Prd):Int:=
 if !j5 p.code then 12 else if !xE p.months then 1 else if !qJ p then 22 else if qC p then 23 else if xG p then 1 else if kA p then 31 else if xU p then 24 else 0
def checkC:Con:=con1 Prd (fun p=>[prdV p]) (fun _=>[]) Prd.small (fun p=>zA p.check) (fun _=>[])
def Prd.count (p:Prd):Nat:=if p.check=0 then p.months.length+p.months.length*(p.months.length-1) / 2 else 0
def pcountC:Con:=con1 Prd (fun p=>[prdV p]) (fun _=>[]) Prd.small (fun p=>zA p.count) (fun _=>[])
structure cI where
 p:Prd
 n:Int
def yK (n:Nat):Nat→Nat
 |0=>n
 |k+1=>yK n k+(n-1-k)
def kI (n inst:Nat):Nat→Nat→Int×Int×Bool
 |0,_=>(0,0,false)
 |k+1,m=>if inst<yK n m+(n-1-m)then(m,m+1+(inst-yK n m:Nat),true)else kI n inst k (m+1)
def Prd.legs (p:Prd) (i:Int):Int×Int×Bool:=
 if i<0∨(p.count:Int)≤i then(0,0,false)else if i<p.months.length then(i,i,false)else kI p.months.length i.toNat p.months.length 0
def legsC:Con:=con1 cI (fun i=>[prdV i.p,zA i.n]) (fun _=>[]) (fun i=>i.p.small) (fun i=> .tup [zA (i.p.legs i.n).1,zA (i.p.legs i.n).2.1,yG (i.p.legs i.n).2.2]) (fun _=>[])
structure r9 where
 p:Prd
 a:Int
 b:Int
def Prd.spread (p:Prd) (a b:Int):Int×Bool:=
 if p.check≠0∨a<0∨b≤a∨(p.months.length:Int)≤b then(0,false)else((yK p.months.length a.toNat:Int)+b-a-1,true)
def spreadC:Con:=con1 r9 (fun i=>[prdV i.p,zA i.a,zA i.b]) (fun _=>[]) (fun i=>i.p.small) (fun i=> .tup [zA (i.p.spread i.a i.b).1,yG (i.p.spread i.a i.b).2]) (fun _=>[])
def Prd.price (p:Prd) (i n:Int):Int:=
 if p.count=0 then 1 else if i<0∨(p.count:Int)≤i then 20 else if qK p.tick n then 22 else
 if n<(if(p.months.length:Int)≤i then-p.wide else p.low)∨(if(p.months.length:Int)≤i then p.wide else p.high)<n then 23 else 0
def priceC:Con:=con1 r9 (fun i=>[prdV i.p,zA i.a,zA i.b]) (fun _=>[]) (fun i=>i.p.small) (fun i=>zA (i.p.price i.a i.b)) (fun _=>[])
structure I2 where
 x:Int
 y:Int
@[reducible] def yV (n:Int):Prop:= -9223372036854775808≤n∧n≤9223372036854775807
def uY (x y:Int):Int×Bool:=if yV (x+y)then(x+y,true)else(0,false)
def uT (x y:Int):Int×Bool:=if yV (x-y)then(x-y,true)else(0,false)
def addC:Con:=con1 I2 (fun i=>[zA i.x,zA i.y]) (fun _=>[]) (fun i=>yV i.x∧yV i.y) (fun i=> .tup [zA (uY i.x i.y).1,yG (uY i.x i.y).2]) (fun _=>[])
def subC:Con:=con1 I2 (fun i=>[zA i.x,zA i.y]) (fun _=>[]) (fun i=>yV i.x∧yV i.y) (fun i=> .tup [zA (uT i.x i.y).1,yG (uT i.x i.y).2]) (fun _=>[])
def ySp (i:cI):List SAnn:=[{ι:=Nat,slots:=fun m=>[(8,zA (yK i.p.months.length m)),(33,zA m)],rows:=fun _=>[]}]
def yIi (i:r9):List SAnn:=[{ι:=Nat,slots:=fun m=>[(9,zA (yK i.p.months.length m)),(33,zA m)],rows:=fun _=>[]}]
open Go Cv Go.Proofs
def yTn (i:zZf):Prop:=
 IntKind.i64=IntKind.i64∧i.p.tick≠0∧∃(a:Unit),qK i.p.tick i.n=(i.n.tmod i.p.tick !=0)∧sb i.p.code=sb i.p.code∧iE i.p.months=iE i.p.months∧i.p.tick=i.p.tick∧i.p.low=i.p.low∧i.p.high=i.p.high∧i.p.wide=i.p.wide∧i.p.rule=i.p.rule∧i.p.top=i.p.top∧i.p.least=i.p.least∧i.p.part=i.p.part∧iE i.p.settle=iE i.p.settle∧True
def ySb (i:zRp):Prop:=
 ∃(a:Nat),(↑a:Int)=0∧∃(b:Nat→Prop),∃(c:Nat→Nat),b a∧∀(d:Nat),b d→cnd (decide ((↑d:Int)<(↑(iE i.l).length:Int))) ((0≤(↑d:Int)∧(↑d:Int)<(↑(iE i.l).length:Int))∧∃(e:Int),zF (iE i.l) (↑d:Int).toNat 0 1=some [dI e]∧∃(f:zZf),f.n=e∧sb f.p.code=sb i.p.code∧iE f.p.months=iE i.p.months∧f.p.tick=i.p.tick∧f.p.low=i.p.low∧f.p.high=i.p.high∧f.p.wide=i.p.wide∧f.p.rule=i.p.rule∧f.p.top=i.p.top∧f.p.least=i.p.least∧f.p.part=i.p.part∧iE f.p.settle=iE i.p.settle∧1≤f.p.tick∧∀(g:Unit),True→cnd (qK f.p.tick f.n) (∃(h:Unit),zHg (List.findIdx? (qK i.p.tick) i.l)=(↑d:Int)∧sb i.p.code=sb f.p.code∧iE i.p.months=iE f.p.months∧i.p.tick=f.p.tick∧i.p.low=f.p.low∧i.p.high=f.p.high∧i.p.wide=f.p.wide∧i.p.rule=f.p.rule∧i.p.top=f.p.top∧i.p.least=f.p.least∧i.p.part=f.p.part∧iE i.p.settle=iE f.p.settle∧True) (∃(h:Nat),(↑h:Int)=IntKind.i64.wrap ((↑d:Int)+1)∧b h∧c h<c d∧Sx.AObj.cells (vK (cM 1 ((1:Nat)+(0:Nat)) ((1:Nat)-(1:Nat)) [((0:Nat),(0:Nat))]) f.p.cells) (25:TypeId)=i.p.row)) (∃(e:Unit),zHg (List.findIdx? (qK i.p.tick) i.l)=(-1)∧sb i.p.code=sb i.p.code∧iE i.p.months=iE i.p.months∧i.p.tick=i.p.tick∧i.p.low=i.p.low∧i.p.high=i.p.high∧i.p.wide=i.p.wide∧i.p.rule=i.p.rule∧i.p.top=i.p.top∧i.p.least=i.p.least∧i.p.part=i.p.part∧iE i.p.settle=iE i.p.settle∧True)
def zPa (i:zRp):Prop:=
 ∃(a:zRp),iE a.l=iE i.l∧sb a.p.code=sb i.p.code∧iE a.p.months=iE i.p.months∧a.p.tick=i.p.tick∧a.p.low=i.p.low∧a.p.high=i.p.high∧a.p.wide=i.p.wide∧a.p.rule=i.p.rule∧a.p.top=i.p.top∧a.p.least=i.p.least∧a.p.part=i.p.part∧iE a.p.settle=iE i.p.settle∧(1≤a.p.tick∧a.l.length≤1099511627776)∧∀(b:Unit),True→∃(c:Unit),i.l.any (qK i.p.tick)=decide (zHg (List.findIdx? (qK a.p.tick) a.l)≥0)∧sb i.p.code=sb a.p.code∧iE i.p.months=iE a.p.months∧i.p.tick=a.p.tick∧i.p.low=a.p.low∧i.p.high=a.p.high∧i.p.wide=a.p.wide∧i.p.rule=a.p.rule∧i.p.top=a.p.top∧i.p.least=a.p.least∧i.p.part=a.p.part∧iE i.p.settle=iE a.p.settle∧True
def yBq (p:Prd):Prop:=
 cnd (decide (p.tick<1)) (∃(a:Unit),qJ p=false∧True) (cnd (decide (p.tick>1000)) (∃(a:Unit),qJ p=false∧True) (∃(a:zZf),a.n=p.low∧sb a.p.code=sb p.code∧iE a.p.months=iE p.months∧a.p.tick=p.tick∧a.p.low=p.low∧a.p.high=p.high∧a.p.wide=p.wide∧a.p.rule=p.rule∧a.p.top=p.top∧a.p.least=p.least∧a.p.part=p.part∧iE a.p.settle=iE p.settle∧1≤a.p.tick∧∀(b:Unit),True→cnd (!qK a.p.tick a.n) (∃(c:zZf),c.n=a.p.high∧sb c.p.code=sb a.p.code∧iE c.p.months=iE a.p.months∧c.p.tick=a.p.tick∧c.p.low=a.p.low∧c.p.high=a.p.high∧c.p.wide=a.p.wide∧c.p.rule=a.p.rule∧c.p.top=a.p.top∧c.p.least=a.p.least∧c.p.part=a.p.part∧iE c.p.settle=iE a.p.settle∧1≤c.p.tick∧∀(d:Unit),True→cnd (!qK c.p.tick c.n) (∃(e:zZf),e.n=c.p.wide∧sb e.p.code=sb c.p.code∧iE e.p.months=iE c.p.months∧e.p.tick=c.p.tick∧e.p.low=c.p.low∧e.p.high=c.p.high∧e.p.wide=c.p.wide∧e.p.rule=c.p.rule∧e.p.top=c.p.top∧e.p.least=c.p.least∧e.p.part=c.p.part∧iE e.p.settle=iE c.p.settle∧1≤e.p.tick∧∀(f:Unit),True→cnd (!qK e.p.tick e.n) (∃(g:zRp),iE g.l=iE e.p.settle∧sb g.p.code=sb e.p.code∧iE g.p.months=iE e.p.months∧g.p.tick=e.p.tick∧g.p.low=e.p.low∧g.p.high=e.p.high∧g.p.wide=e.p.wide∧g.p.rule=e.p.rule∧g.p.top=e.p.top∧g.p.least=e.p.least∧g.p.part=e.p.part∧iE g.p.settle=iE e.p.settle∧(1≤g.p.tick∧g.l.length≤1099511627776)∧∀(h:Unit),True→∃(j:Unit),qJ p=!g.l.any (qK g.p.tick)∧True) (∃(g:Unit),qJ p=false∧True)) (∃(e:Unit),qJ p=false∧True)) (∃(c:Unit),qJ p=false∧True)))
def zY (a:Prd):Prop:=a.code.length≤1099511627776∧a.months.length≤1099511627776∧a.settle.length≤1099511627776
def wP (a:Prd):=(↑(iE a.settle).length:Int)
def xB (a:Prd):=(↑(iE a.months).length:Int)
def z8l (p:Prd):Prop:=
 ∃(a:List UInt8),sb a=sb p.code∧a.length≤1099511627776∧∀(b:Unit),True→cnd (!j5 a) (∃(c:Unit),p.check=12∧True) (∃(c:List Int),iE c=iE p.months∧c.length≤1099511627776∧∀(d:Unit),True→cnd (!xE c) (∃(e:Unit),p.check=1∧True) (∃(e:Prd),sb e.code=sb p.code∧iE e.months=iE p.months∧e.tick=p.tick∧e.low=p.low∧e.high=p.high∧e.wide=p.wide∧e.rule=p.rule∧e.top=p.top∧e.least=p.least∧e.part=p.part∧iE e.settle=iE p.settle∧(zY e)∧∀(f:Unit),True→cnd (!qJ e) (∃(g:Unit),p.check=22∧True) (cnd (decide (p.low<(-1000000))) (∃(g:Unit),p.check=23∧True) (cnd (decide (p.low≥p.high)) (∃(g:Unit),p.check=23∧True) (cnd (decide (p.high>1000000)) (∃(g:Unit),p.check=23∧True) (cnd (decide (p.wide<0)) (∃(g:Unit),p.check=23∧True) (cnd (decide (p.wide>IntKind.i64.wrap (p.high-p.low))) (∃(g:Unit),p.check=23∧True) (cnd ((wP p) !=(xB p)) (∃(g:Unit),p.check=1∧True) (∃(g:List Int),iE g=iE p.settle∧(0<g.length∧g.length≤1099511627776)∧∀(h:Unit),True→p.low=p.low∧cnd (decide (pY g<p.low)) (∃(j:Unit),p.check=1∧True) (∃(j:List Int),iE j=iE p.settle∧(0<j.length∧j.length≤1099511627776)∧∀(k:Unit),True→p.high=p.high∧cnd (decide (rW j>p.high)) (∃(l:Unit),p.check=1∧True) (cnd (decide (p.rule<1)) (∃(l:Unit),p.check=31∧True) (cnd (decide (p.rule>3)) (∃(l:Unit),p.check=31∧True) (cnd (decide (p.top<0)) (∃(l:Unit),p.check=24∧True) (cnd (decide (p.top>1000000)) (∃(l:Unit),p.check=24∧True) (cnd (decide (p.least<1)) (∃(l:Unit),p.check=24∧True) (cnd (decide (p.least>1000)) (∃(l:Unit),p.check=24∧True) (cnd (decide (p.part<0)) (∃(l:Unit),p.check=24∧True) (cnd (decide (p.part>100)) (∃(l:Unit),p.check=24∧True) (∃(l:Unit),p.check=0∧True)))))))))))))))))))
def rN (a:Prd) (b:Prd):Prop:=sb a.code=sb b.code∧iE a.months=iE b.months∧a.tick=b.tick∧a.low=b.low∧a.high=b.high∧a.wide=b.wide∧a.rule=b.rule∧a.top=b.top∧a.least=b.least∧a.part=b.part∧iE a.settle=iE b.settle∧(zY a)∧∀(c:Unit),True→cnd (a.check !=0) (∃(d:Unit),(↑b.count:Int)=0∧True) (IntKind.i64=IntKind.i64∧(2:Int)≠(0:Int)∧∃(d:Unit),(↑b.count:Int)=IntKind.i64.wrap ((xB b)+IntKind.i64.wrap ((IntKind.i64.wrap ((xB b)*IntKind.i64.wrap ((xB b)-1))).tdiv 2))∧True)
def z1r (p:Prd):Prop:=
 ∃(a:Prd),rN a p
def rG (a:cI):Prop:=Sx.AObj.cells [V.d (D.v (Value.string (sb a.p.code))),V.own 0,V.d (dI a.p.tick),V.d (dI a.p.low),V.d (dI a.p.high),V.d (dI a.p.wide),V.d (dI a.p.rule),V.d (dI a.p.top),V.d (dI a.p.least),V.d (dI a.p.part),V.own ((0:Nat)+(1:Nat))] 25=Sx.AObj.cells [V.d (D.v (Value.string (sb a.p.code))),V.own 0,V.d (dI a.p.tick),V.d (dI a.p.low),V.d (dI a.p.high),V.d (dI a.p.wide),V.d (dI a.p.rule),V.d (dI a.p.top),V.d (dI a.p.least),V.d (dI a.p.part),V.own ((0:Nat)+(1:Nat))] 25∧AObj.fro 1 (iE a.p.settle)=AObj.fro 1 (iE a.p.settle)∧AObj.fro 1 (iE a.p.months)=AObj.fro 1 (iE a.p.months)
def zCz (a:Nat→Prop) (b:Nat) (c:Nat→Nat) (d:Nat) (e:cI):Prop:=a b∧c b<c d∧rG e
def v8 (a:cI) (b:Nat):=(↑(yK a.p.months.length b):Int)
def wW (a:cI):=(↑(iE a.p.months).length:Int)
def zEy (a:cI) (b:Nat):=((v8 a b)+IntKind.i64.wrap (IntKind.i64.wrap ((wW a)-1)-(↑b:Int)))
def gJ (a:cI):Prop:=∃(b:Unit),(a.p.legs a.n).fst=0∧(a.p.legs a.n).snd.fst=0∧(a.p.legs a.n).snd.snd=false∧True
def eG (a:cI):Prop:=∃(b:Unit),(a.p.legs a.n).fst=a.n∧(a.p.legs a.n).snd.fst=a.n∧(a.p.legs a.n).snd.snd=false∧True
def yKg (i:cI):Prop:=
 ∃(a:Prd),sb a.code=sb i.p.code∧iE a.months=iE i.p.months∧a.tick=i.p.tick∧a.low=i.p.low∧a.high=i.p.high∧a.wide=i.p.wide∧a.rule=i.p.rule∧a.top=i.p.top∧a.least=i.p.least∧a.part=i.p.part∧iE a.settle=iE i.p.settle∧(zY a)∧∀(b:Unit),True→cnd (decide (i.n<0)) (gJ i) (cnd (decide (i.n≥(↑a.count:Int))) (gJ i) (cnd (decide (i.n<(wW i))) (eG i) (∃(c:Nat),(v8 i c)=(wW i)∧(↑c:Int)=0∧∃(d:Nat→Prop),∃(e:Nat→Nat),d c∧∀(f:Nat),d f→cnd (decide ((↑f:Int)<(wW i))) (cnd (decide (i.n<IntKind.i64.wrap (zEy i f))) (∃(g:Unit),(i.p.legs i.n).fst=(↑f:Int)∧(i.p.legs i.n).snd.fst=IntKind.i64.wrap (IntKind.i64.wrap (IntKind.i64.wrap ((↑f:Int)+1)+i.n)-(v8 i f))∧(i.p.legs i.n).snd.snd=true∧True) (∃(g:Nat),(v8 i g)=IntKind.i64.wrap (zEy i f)∧(↑g:Int)=IntKind.i64.wrap ((↑f:Int)+1)∧zCz d g e f i)) (gJ i))))
def cJ (a:r9):Prop:=∃(b:Unit),(a.p.spread a.a a.b).fst=0∧(a.p.spread a.a a.b).snd=false∧True
def z3m (i:r9):Prop:=
 ∃(a:Prd),sb a.code=sb i.p.code∧iE a.months=iE i.p.months∧a.tick=i.p.tick∧a.low=i.p.low∧a.high=i.p.high∧a.wide=i.p.wide∧a.rule=i.p.rule∧a.top=i.p.top∧a.least=i.p.least∧a.part=i.p.part∧iE a.settle=iE i.p.settle∧(zY a)∧∀(b:Unit),True→cnd (a.check !=0) (cJ i) (cnd (decide (i.a<0)) (cJ i) (cnd (decide (i.a≥i.b)) (cJ i) (cnd (decide (i.b≥(↑(iE i.p.months).length:Int))) (cJ i) (∃(c:Nat),(↑(yK i.p.months.length c):Int)=(↑(iE i.p.months).length:Int)∧(↑c:Int)=0∧∃(d:Nat→Prop),∃(e:Nat→Nat),d c∧∀(f:Nat),d f→cnd (decide ((↑f:Int)<i.a)) (∃(g:Nat),(↑(yK i.p.months.length g):Int)=IntKind.i64.wrap ((↑(yK i.p.months.length f):Int)+IntKind.i64.wrap (IntKind.i64.wrap ((↑(iE i.p.months).length:Int)-1)-(↑f:Int)))∧(↑g:Int)=IntKind.i64.wrap ((↑f:Int)+1)∧d g∧e g<e f∧Sx.AObj.cells [V.d (D.v (Value.string (sb i.p.code))),V.own 0,V.d (dI i.p.tick),V.d (dI i.p.low),V.d (dI i.p.high),V.d (dI i.p.wide),V.d (dI i.p.rule),V.d (dI i.p.top),V.d (dI i.p.least),V.d (dI i.p.part),V.own ((0:Nat)+(1:Nat))] 25=Sx.AObj.cells [V.d (D.v (Value.string (sb i.p.code))),V.own 0,V.d (dI i.p.tick),V.d (dI i.p.low),V.d (dI i.p.high),V.d (dI i.p.wide),V.d (dI i.p.rule),V.d (dI i.p.top),V.d (dI i.p.least),V.d (dI i.p.part),V.own ((0:Nat)+(1:Nat))] 25∧AObj.fro 1 (iE i.p.settle)=AObj.fro 1 (iE i.p.settle)∧AObj.fro 1 (iE i.p.months)=AObj.fro 1 (iE i.p.months)) (∃(g:Unit),(i.p.spread i.a i.b).fst=IntKind.i64.wrap (IntKind.i64.wrap (IntKind.i64.wrap ((↑(yK i.p.months.length f):Int)+i.b)-i.a)-1)∧(i.p.spread i.a i.b).snd=true∧True)))))
def z9y (i:r9):Prop:=
 ∃(a:Prd),sb a.code=sb i.p.code∧iE a.months=iE i.p.months∧a.tick=i.p.tick∧a.low=i.p.low∧a.high=i.p.high∧a.wide=i.p.wide∧a.rule=i.p.rule∧a.top=i.p.top∧a.least=i.p.least∧a.part=i.p.part∧iE a.settle=iE i.p.settle∧(zY a)∧∀(b:Unit),True→cnd ((↑a.count:Int)==0) (∃(c:Unit),i.p.price i.a i.b=1∧True) (cnd (decide (i.a<0)) (∃(c:Unit),i.p.price i.a i.b=20∧True) (cnd (decide (i.a≥(↑a.count:Int))) (∃(c:Unit),i.p.price i.a i.b=20∧True) (IntKind.i64=IntKind.i64∧i.p.tick≠0∧cnd (i.b.tmod i.p.tick !=0) (∃(c:Unit),i.p.price i.a i.b=22∧True) (cnd (decide (i.a≥(↑(iE i.p.months).length:Int))) (cnd (decide (i.b<IntKind.i64.wrap (0-i.p.wide))) (∃(c:Unit),i.p.price i.a i.b=23∧True) (cnd (decide (i.b>i.p.wide)) (∃(c:Unit),i.p.price i.a i.b=23∧True) (∃(c:Unit),i.p.price i.a i.b=0∧True))) (cnd (decide (i.b<i.p.low)) (∃(c:Unit),i.p.price i.a i.b=23∧True) (cnd (decide (i.b>i.p.high)) (∃(c:Unit),i.p.price i.a i.b=23∧True) (∃(c:Unit),i.p.price i.a i.b=0∧True)))))))
def zMj (a:I2):Prop:=∃(b:Unit),(uY a.x a.y).fst=IntKind.i64.wrap (a.x+a.y)∧(uY a.x a.y).snd=true∧True
def ySs (i:I2):Prop:=
 cnd (decide (i.x<0)==decide (i.y<0)) (cnd (!decide (IntKind.i64.wrap (i.x+i.y)<0)==decide (i.x<0)) (∃(a:Unit),(uY i.x i.y).fst=0∧(uY i.x i.y).snd=false∧True) (zMj i)) (zMj i)
def zMe (a:I2):Prop:=∃(b:Unit),(uT a.x a.y).fst=IntKind.i64.wrap (a.x-a.y)∧(uT a.x a.y).snd=true∧True
def yTs (i:I2):Prop:=
 cnd (!decide (i.x<0)==decide (i.y<0)) (cnd (!decide (IntKind.i64.wrap (i.x-i.y)<0)==decide (i.x<0)) (∃(a:Unit),(uT i.x i.y).fst=0∧(uT i.x i.y).snd=false∧True) (zMe i)) (zMe i)
open Go Cv Go.Proofs
theorem yWc (i:zZf) (h:offC.cnd i):yTn i:=by
 have h:1≤i.p.tick:=h
 unfold yTn;exact kp
theorem yFx:offC.ok Tryz.prog 191:=okw mixed gok0 0 (fun _=>[]) (fun _=>[]) [] Tryz.func191 yWc
theorem zFm {α:Type} {f:α→Bool} {l:List α} (h:∀(k:Nat) (x:α),l[k]? =some x→f x=false):l.findIdx? f=none:=by
 rw[y0s]
 intro x hx
 obtain⟨k,hk⟩:=List.getElem?_of_mem hx
 exact h k x hk
theorem zFn {α:Type} {f:α→Bool} {l:List α} {j:Nat} {x:α} (h1:l[j]? =some x) (h2:f x=true) (h:∀k<j,∀x:α,l[k]? =some x→f x=false):l.findIdx? f=some j:=by
 rw[yZo]
 obtain⟨hj,rfl⟩:=yWn.1 h1
 exact⟨hj,h2,fun k hk=>by rw[h k hk _ (yXu (by omega))];simp⟩
theorem yUp (i:zRp) (h:idxC.cnd i):ySb i:=by
 obtain⟨h1,h2⟩:1≤i.p.tick∧i.l.length≤1099511627776:=h
 unfold ySb dI
 simp only[xF]
 refine⟨0,rfl,fun j=>j≤i.l.length∧∀k<j,∀x,i.l[k]? =some x→qK i.p.tick x=false,fun j=>i.l.length-j,⟨by omega,fun k hk=>by omega⟩,?_⟩
 rintro j ⟨h3,h4⟩
 refine zK (fun hj=> ?_) (fun hj=> ?_)
 ·obtain⟨n,hn⟩:=z6 (l:=i.l) (i:=j) (by omega)
  refine⟨⟨by omega,by omega⟩,n,elI hn,⟨i.p,n⟩,?_⟩
  (repeat'(first|exact rfl|exact trivial|assumption|apply And.intro|refine fun(_:Unit) (_:True)=>?_|refine Exists.intro () ?_|omega|(dsimp only;omega)))
  refine Cv.cnd.mk (fun e=> ?_) (fun e=> ?_)
  ·rw[zFn hn e h4];exact kp
  ·refine⟨j+1,by rw[w64 (by omega)];rfl,⟨by omega,fun k hk x hx=> ?_⟩,by(first|omega|(dsimp only;omega)),rfl⟩
   rcases yZi k j with hk'|hk'
   ·exact h4 k hk' x hx
   ·obtain rfl:k=j:=by omega
    rw[hn]at hx;cases hx;exact e
 ·rw[zFm fun k x hx=>h4 k (by have:=(yWn.1 hx).1;omega) x hx];exact kp
theorem yPq:idxC.ok Tryz.prog 227:=okw mixed (gokc yFx gok0) 0 (fun _=>[]) (fun i=>yWb i) [] Tryz.func227 yUp
theorem z6x {l:List Int} {f:Int→Bool}:l.any f=decide (zHg (l.findIdx? f)≥0):=by
 cases hf:l.findIdx? f with
 |none=>
  rw[y0s]at hf
  have:l.any f=false:=by rw[y2r];intro x hx;simp[hf x hx]
  rw[this];rfl
 |some k=>
  rw[yZo]at hf
  obtain⟨hk,h1,_⟩:=hf
  have:l.any f=true:=by rw[List.any_eq_true];exact⟨_,List.getElem_mem hk,h1⟩
  rw[this,zHg,yXb (by omega)]
theorem z8a (i:zRp) (h:containsC.cnd i):zPa i:=by
 unfold zPa
 have h':1≤i.p.tick∧i.l.length≤1099511627776:=h
 refine⟨i,?_⟩
 (repeat'(first|exact rfl|exact trivial|assumption|apply And.intro|refine fun(_:Unit) (_:True)=>?_|refine Exists.intro () ?_|omega|(dsimp only;omega)))
 exact z6x
theorem zXc:containsC.ok Tryz.prog 192:=okw mixed (gokc yPq gok0) 0 (fun _=>[]) (fun _=>[]) [] Tryz.func192 z8a
theorem yNb (p:Prd) (h:ticksC.cnd p):yBq p:=by
 obtain⟨h1,h2,h3⟩:p.small:=h
 unfold yBq
 refine zK (fun c1=>⟨(),by rw[qJ,yWx (by omega)];rfl,trivial⟩) (fun c1=>zK (fun c2=>⟨(),by rw[qJ,yWx (show ¬p.tick≤1000 by omega)];simp,trivial⟩) (fun c2=>⟨⟨p,p.low⟩,?_⟩))
 have e1:qJ p=(!qK p.tick p.low && !qK p.tick p.high && !qK p.tick p.wide && !p.settle.any (qK p.tick)):=by
  rw[qJ,yXb (by omega),yXb (by omega)];rfl
 rw[e1]
 (repeat'(first|exact rfl|exact trivial|assumption|apply And.intro|refine fun(_:Unit) (_:True)=>?_|refine Exists.intro () ?_|omega|(dsimp only;omega)))
 refine Cv.cnd.mk (fun c3=>⟨⟨p,p.high⟩,?_⟩) (fun c3=>⟨(),?_,trivial⟩)
 ·dsimp only at c3
  (repeat'(first|exact rfl|exact trivial|assumption|apply And.intro|refine fun(_:Unit) (_:True)=>?_|refine Exists.intro () ?_|omega|(dsimp only;omega)))
  refine Cv.cnd.mk (fun c4=>⟨⟨p,p.wide⟩,?_⟩) (fun c4=>⟨(),?_,trivial⟩)
  ·dsimp only at c4
   (repeat'(first|exact rfl|exact trivial|assumption|apply And.intro|refine fun(_:Unit) (_:True)=>?_|refine Exists.intro () ?_|omega|(dsimp only;omega)))
   refine Cv.cnd.mk (fun c5=>⟨⟨p,p.settle⟩,?_⟩) (fun c5=>⟨(),?_,trivial⟩)
   ·dsimp only at c5
    (repeat'(first|exact rfl|exact trivial|assumption|apply And.intro|refine fun(_:Unit) (_:True)=>?_|refine Exists.intro () ?_|omega|(dsimp only;omega)))
    rw[c3,c4,c5];simp
   ·dsimp only at c5
    rw[c5];simp
  ·dsimp only at c4
   rw[c4];simp
 ·dsimp only at c3
  rw[c3];simp
theorem yEf:ticksC.ok Tryz.prog 153:=okw mixed (gokc yFx (gokc zXc gok0)) 0 (fun _=>[]) (fun _=>[]) [] Tryz.func153 yNb
theorem yOz (p:Prd) (h:checkC.cnd p):z8l p:=by
 obtain⟨h1,h2,h3⟩:p.small:=h
 unfold z8l xB wP zY
 simp only[xF]
 refine⟨p.code,rfl,h1,fun _ _=>Cv.cnd.mk (fun c1=>⟨(),by rw[Prd.check,yWl c1],trivial⟩) (fun c1=>⟨p.months,rfl,h2,fun _ _=>Cv.cnd.mk (fun c2=>⟨(),by rw[Prd.check,yWk (by simp[c1]),yWl c2],trivial⟩) (fun c2=>⟨p,?_⟩)⟩)⟩
 (repeat'(first|exact rfl|exact trivial|assumption|apply And.intro|refine fun(_:Unit) (_:True)=>?_|refine Exists.intro () ?_|omega|(dsimp only;omega)))
 refine Cv.cnd.mk (fun c3=>⟨(),by rw[Prd.check,yWk (by simp[c1]),yWk (by simp[c2]),yWl c3],trivial⟩) (fun c3=> ?_)
 have e0:p.check=if qC p then 23 else if xG p then 1 else if kA p then 31 else if xU p then 24 else 0:=by
  rw[Prd.check,yWk (by simp[c1]),yWk (by simp[c2]),yWk (by simp[c3])]
 have b (hb:qC p=true):∃(o:Unit),p.check=23∧True:=⟨(),by rw[e0,yWl hb],trivial⟩
 refine zK (fun d1=>b (by simp[qC,d1])) fun d1=>zK (fun d2=>b (by simp[qC];omega)) fun d2=>zK (fun d3=>b (by simp[qC];omega)) fun d3=>zK (fun d4=>b (by simp[qC];omega)) fun d4=> ?_
 rw[w64 (by omega)]
 refine zK (fun d5=>b (by simp[qC];omega)) fun d5=> ?_
 have e1:p.check=if xG p then 1 else if kA p then 31 else if xU p then 24 else 0:=by
  rw[e0,yWk (by simp[qC];omega)]
 have s (hb:xG p=true):∃(o:Unit),p.check=1∧True:=⟨(),by rw[e1,yWl hb],trivial⟩
 have hm:2≤p.months.length:=by
  have c2:xE p.months=true:=by simpa using c2
  simp[xE]at c2;omega
 refine Cv.cnd.mk (fun d6=>s (by have d6:¬(p.settle.length:Int)=p.months.length:=(by simpa using d6);simp[xG];omega)) fun d6=> ?_
 have d6:p.settle.length=p.months.length:=by
  have:(p.settle.length:Int)=p.months.length:=by simpa using d6
  omega
 refine⟨p.settle,rfl,⟨by omega,by omega⟩,fun _ _=>⟨kp,zK (fun d7=>s (by simp[xG];left;right;omega)) fun d7=>⟨p.settle,rfl,⟨by omega,by omega⟩,fun _ _=>⟨kp,zK (fun d8=>s (by simp[xG];right;omega)) fun d8=> ?_⟩⟩⟩⟩
 have e2:p.check=if kA p then 31 else if xU p then 24 else 0:=by
  rw[e1,yWk (by simp[xG];omega)]
 have r (hb:kA p=true):∃(o:Unit),p.check=31∧True:=⟨(),by rw[e2,yWl hb],trivial⟩
 refine zK (fun d9=>r (by simp[kA];omega)) fun d9=>zK (fun d10=>r (by simp[kA];omega)) fun d10=> ?_
 have e3:p.check=if xU p then 24 else 0:=by
  rw[e2,yWk (by simp[kA];omega)]
 have q (hb:xU p=true):∃(o:Unit),p.check=24∧True:=⟨(),by rw[e3,yWl hb],trivial⟩
 refine zK (fun f1=>q (by simp[xU];omega)) fun f1=>zK (fun f2=>q (by simp[xU];omega)) fun f2=>zK (fun f3=>q (by simp[xU];omega)) fun f3=>zK (fun f4=>q (by simp[xU];omega)) fun f4=>zK (fun f5=>q (by simp[xU];omega)) fun f5=>zK (fun f6=>q (by simp[xU];omega)) fun f6=> ?_
 exact⟨(),by rw[e3,yWk (by simp[xU];omega)],trivial⟩
theorem sY:checkC.ok Tryz.prog 104:=okw mixed (gokc yQj (gokc z5y (gokc yEf (gokc yMs (gokc yOl gok0))))) 0 (fun _=>[]) (fun _=>[]) [] Tryz.func104 yOz
structure Prd.Ok (p:Prd):Prop where
 sym:j5 p.code=true
 months:xE p.months=true
 ticks:qJ p=true
 m2:2≤p.months.length
 m6:p.months.length≤6
 t1:1≤p.tick
 t2:p.tick≤1000
 b1: -1000000≤p.low
 b2:p.low<p.high
 b3:p.high≤1000000
 b4:0≤p.wide
 b5:p.wide≤p.high-p.low
 s1:p.settle.length=p.months.length
 s2:p.low≤pY p.settle
 s3:rW p.settle≤p.high
 r1:1≤p.rule
 r2:p.rule≤3
 q1:0≤p.top
 q2:p.top≤1000000
 q3:1≤p.least
 q4:p.least≤1000
 q5:0≤p.part
 q6:p.part≤100
theorem jM {p:Prd} (h:p.check=0):p.Ok:=by
 unfold Prd.check at h
 split at h<;>first|(exfalso;revert h;decide)|skip
 rename_i c1
 split at h<;>first|(exfalso;revert h;decide)|skip
 rename_i c2
 split at h<;>first|(exfalso;revert h;decide)|skip
 rename_i c3
 split at h<;>first|(exfalso;revert h;decide)|skip
 rename_i c4
 split at h<;>first|(exfalso;revert h;decide)|skip
 rename_i c5
 split at h<;>first|(exfalso;revert h;decide)|skip
 rename_i c6
 split at h<;>first|(exfalso;revert h;decide)|skip
 rename_i c7
 simp only[y0r,Bool.not_eq_false,Bool.not_eq_true]at c1 c2 c3
 have m:=c2
 have t:=c3
 simp[xE]at m
 simp[qJ]at t
 simp[qC]at c4
 simp[xG]at c5
 simp[kA]at c6
 simp[xU]at c7
 exact⟨c1,c2,c3,by omega,by omega,by omega,by omega,by omega,by omega,by omega,by omega,by omega,by omega,by omega,by omega,by omega,by omega,by omega,by omega,by omega,by omega,by omega,by omega⟩
theorem yDz {n:Nat} (h:n≤6):n+n*(n-1) / 2≤21:=by
 have:∀n≤6,n+n*(n-1) / 2≤21:=by decide
 exact this n h
theorem yIn (p:Prd) (h:pcountC.cnd p):z1r p:=by
 unfold z1r rN xB zY
 obtain⟨h1,h2,h3⟩:p.small:=h
 refine⟨p,?_⟩
 simp only[xF]
 (repeat'(first|exact rfl|exact trivial|assumption|apply And.intro|refine fun(_:Unit) (_:True)=>?_|refine Exists.intro () ?_|omega|(dsimp only;omega)))
 refine Cv.cnd.mk (fun c=>⟨(),by rw[Prd.count,yWk (by simpa using c)];rfl,trivial⟩) (fun c=> ?_)
 have c:p.check=0:=by simpa using c
 have ok:=jM c
 refine⟨kp,by decide,(),?_,trivial⟩
 rw[Prd.count,yWl c]
 obtain⟨n,hn⟩:∃n,p.months.length=n:=⟨_,rfl⟩
 have m2:=ok.m2
 have m6:=ok.m6
 rw[hn]at m2 m6 ⊢
 have:n=2∨n=3∨n=4∨n=5∨n=6:=by omega
 rcases this with rfl|rfl|rfl|rfl|rfl<;>rfl
theorem bI:pcountC.ok Tryz.prog 106:=okw mixed (gokc sY gok0) 0 (fun _=>[]) (fun _=>[]) [] Tryz.func106 yIn
theorem sK {p:Prd} (h:p.count≠0):p.check=0:=by
 unfold Prd.count at h
 split at h
 ·assumption
 ·exact absurd rfl h
theorem xS (p:Prd):p.count≤21:=by
 unfold Prd.count
 split
 ·rename_i h;exact yDz (jM h).m6
 ·omega
theorem zKa {n m:Nat} (h:n≤6) (hm:m≤n):yK n m≤21:=by
 have:∀n≤6,∀m≤n,yK n m≤21:=by decide
 exact this n h m hm
theorem yUl (i:cI) (h:legsC.cnd i):yKg i:=by
 unfold yKg zCz rG eG gJ zEy wW v8 zY dI
 obtain⟨h1,h2,h3⟩:i.p.small:=h
 refine⟨i.p,?_⟩
 simp only[xF]
 (repeat'(first|exact rfl|exact trivial|assumption|apply And.intro|refine fun(_:Unit) (_:True)=>?_|refine Exists.intro () ?_|omega|(dsimp only;omega)))
 refine zK (fun c1=> ?_) (fun c1=>zK (fun c2=> ?_) (fun c2=> ?_))
 ·rw[Prd.legs,yWl (by omega)];exact kp
 ·rw[Prd.legs,yWl (by omega)];exact kp
 have c2:¬i.n≥(i.p.count:Int):=c2
 have hc:=xS i.p
 have ok:=jM (sK (p:=i.p) (by omega))
 have m6:=ok.m6
 refine zK (fun c3=> ?_) (fun c3=> ?_)
 ·rw[Prd.legs,yWk (by omega),yWl c3];exact kp
 have e0:i.p.legs i.n=kI i.p.months.length i.n.toNat i.p.months.length 0:=by
  rw[Prd.legs,yWk (by omega),yWk c3]
 rw[e0]
 generalize hn:i.p.months.length=n at c3 m6 ⊢
 obtain⟨k,hk⟩:∃k:Nat,i.n=k:=⟨i.n.toNat,by omega⟩
 rw[hk]at c2 c3 ⊢
 refine⟨0,rfl,rfl,fun m=>m≤n∧yK n m≤k∧kI n k n 0=kI n k (n-m) m,fun m=>n-m,⟨by omega,by show n≤k;omega,rfl⟩,?_⟩
 rintro m ⟨g1,g2,g3⟩
 have hf:=zKa m6 g1
 refine zK (fun c4=> ?_) (fun c4=> ?_)
 ·obtain⟨r,hr⟩:∃r,n-m=r+1:=⟨n-m-1,by omega⟩
  have e1:(k:Int).toNat=k:=by omega
  rw[e1,g3,hr,w64 (x:=(n:Int)-1) (by omega),w64 (x:=(n:Int)-1-m) (by omega),w64 (x:=(yK n m:Int)+((n:Int)-1-m)) (by omega),w64 (x:=(m:Int)+1) (by omega)]
  rw[hr]at g3
  refine zK (fun c5=> ?_) (fun c5=> ?_)
  ·rw[w64 (x:=(m:Int)+1+k) (by omega),w64 (x:=(m:Int)+1+k-(yK n m:Int)) (by omega),kI,yWl (by omega)]
   refine⟨(),rfl,?_,rfl,trivial⟩
   dsimp only;omega
  ·refine⟨m+1,?_,rfl,⟨by omega,?_,?_⟩,by(first|omega|(dsimp only;omega)),kp⟩
   ·rw[yK];omega
   ·rw[yK];omega
   ·rw[kI,yWk (by omega),show n-(m+1)=r by omega]
 ·have e1:(k:Int).toNat=k:=by omega
  rw[e1,g3,show n-m=0 by omega]
  exact⟨(),rfl,rfl,rfl,trivial⟩
theorem eO:legsC.ok Tryz.prog 196:=okw mixed (gokc bI gok0) 0 (fun _=>[]) (fun i=>ySp i) [] Tryz.func196 yUl
theorem yJo (i:r9) (h:spreadC.cnd i):z3m i:=by
 unfold z3m cJ zY dI
 obtain⟨h1,h2,h3⟩:i.p.small:=h
 refine⟨i.p,?_⟩
 simp only[xF]
 (repeat'(first|exact rfl|exact trivial|assumption|apply And.intro|refine fun(_:Unit) (_:True)=>?_|refine Exists.intro () ?_|omega|(dsimp only;omega)))
 have bad (hb:i.p.check≠0∨i.a<0∨i.b≤i.a∨(i.p.months.length:Int)≤i.b):∃(o:Unit),(i.p.spread i.a i.b).fst=0∧(i.p.spread i.a i.b).snd=false∧True:=⟨(),by rw[Prd.spread,yWl hb],by rw[Prd.spread,yWl hb],trivial⟩
 refine Cv.cnd.mk (fun c1=>bad (.inl (by simpa using c1))) fun c1=>zK (fun c2=>bad (by omega)) fun c2=>zK (fun c3=>bad (by omega)) fun c3=>zK (fun c4=>bad (by omega)) fun c4=> ?_
 have c1:i.p.check=0:=by simpa using c1
 have m6:=(jM c1).m6
 rw[Prd.spread,yWk (by omega)]
 generalize hn:i.p.months.length=n at c4 m6 ⊢
 obtain⟨a,ha⟩:∃k:Nat,i.a=k:=⟨i.a.toNat,by omega⟩
 rw[ha]at c3 ⊢
 refine⟨0,rfl,rfl,fun m=>m≤a,fun m=>a-m,by omega,?_⟩
 intro m hm
 have hm:m≤a:=hm
 have hf:=zKa (m:=m) m6 (by omega)
 refine zK (fun c5=> ?_) (fun c5=> ?_)
 ·rw[w64 (x:=(n:Int)-1) (by omega),w64 (x:=(n:Int)-1-m) (by omega),w64 (x:=(yK n m:Int)+((n:Int)-1-m)) (by omega),w64 (x:=(m:Int)+1) (by omega)]
  refine⟨m+1,?_,rfl,by omega,by(first|omega|(dsimp only;omega)),kp⟩
  rw[yK];omega
 ·obtain rfl:m=a:=by omega
  rw[w64 (x:=(yK n m:Int)+i.b) (by omega),w64 (x:=(yK n m:Int)+i.b-m) (by omega),w64 (x:=(yK n m:Int)+i.b-m-1) (by omega)]
  exact⟨(),rfl,rfl,trivial⟩
theorem zQr:spreadC.ok Tryz.prog 199:=okw mixed (gokc sY gok0) 0 (fun _=>[]) (fun i=>yIi i) [] Tryz.func199 yJo
theorem yNx (i:r9) (h:priceC.cnd i):z9y i:=by
 unfold z9y zY
 obtain⟨h1,h2,h3⟩:i.p.small:=h
 refine⟨i.p,?_⟩
 simp only[xF]
 (repeat'(first|exact rfl|exact trivial|assumption|apply And.intro|refine fun(_:Unit) (_:True)=>?_|refine Exists.intro () ?_|omega|(dsimp only;omega)))
 refine Cv.cnd.mk (fun c1=>⟨(),by rw[Prd.price,yWl (by have:(i.p.count:Int)=0:=(by simpa using c1);omega)],trivial⟩) fun c1=> ?_
 have c1:i.p.count≠0:=by
  have:¬(i.p.count:Int)=0:=by simpa using c1
  omega
 have e0:i.p.price i.a i.b=if i.a<0∨(i.p.count:Int)≤i.a then 20 else if qK i.p.tick i.b then 22 else
  if i.b<(if(i.p.months.length:Int)≤i.a then-i.p.wide else i.p.low)∨(if(i.p.months.length:Int)≤i.a then i.p.wide else i.p.high)<i.b then 23 else 0:=by rw[Prd.price,yWk c1]
 rw[e0]
 have ok:=jM (sK c1)
 obtain⟨t1,b3,b1,b2,b4,b5⟩:=(⟨ok.t1,ok.b3,ok.b1,ok.b2,ok.b4,ok.b5⟩:_∧_∧_∧_∧_∧_)
 refine zK (fun c2=>⟨(),by rw[yWl (.inl c2)],trivial⟩) fun c2=>zK (fun c3=>⟨(),by rw[yWl (.inr c3)],trivial⟩) fun c3=>⟨kp,by omega,?_⟩
 have c3:¬i.a≥(i.p.count:Int):=c3
 rw[yWk (by omega)]
 refine Cv.cnd.mk (fun c4=>⟨(),yWl c4,trivial⟩) fun c4=> ?_
 rw[yWk (by rw[qK,c4];simp),w64 (x:=0-i.p.wide) (by omega)]
 refine zK (fun c5=> ?_) (fun c5=> ?_)
 ·have c5:(i.p.months.length:Int)≤i.a:=c5
  simp only[yWl c5]
  refine zK (fun c6=>⟨(),yWl (.inl (by omega)),trivial⟩) fun c6=>zK (fun c7=>⟨(),yWl (.inr (by omega)),trivial⟩) fun c7=>⟨(),yWk (by omega),trivial⟩
 ·have c5:¬(i.p.months.length:Int)≤i.a:=c5
  simp only[yWk c5]
  refine zK (fun c6=>⟨(),yWl (.inl (by omega)),trivial⟩) fun c6=>zK (fun c7=>⟨(),yWl (.inr (by omega)),trivial⟩) fun c7=>⟨(),yWk (by omega),trivial⟩
theorem sW:priceC.ok Tryz.prog 161:=okw mixed (gokc bI gok0) 0 (fun _=>[]) (fun _=>[]) [] Tryz.func161 yNx
theorem yKy (x:Int) (h: -18446744073709551616≤x∧x<18446744073709551616):(yV x∧IntKind.i64.wrap x=x)∨(9223372036854775807<x∧IntKind.i64.wrap x=x-18446744073709551616)∨(x< -9223372036854775808∧IntKind.i64.wrap x=x+18446744073709551616):=by
 have e:IntKind.i64.wrap x=if(decide (x % 18446744073709551616≥9223372036854775808))=true then x % 18446744073709551616-18446744073709551616 else x % 18446744073709551616:=by
  have:IntKind.i64.wrap x=if(true && decide (x % 18446744073709551616≥9223372036854775808))=true then x % 18446744073709551616-18446744073709551616 else x % 18446744073709551616:=rfl
  rw[this,yZl]
 have e:IntKind.i64.wrap x=(x+9223372036854775808) % 18446744073709551616-9223372036854775808:=by
  rw[e]
  by_cases h2:x % 18446744073709551616≥9223372036854775808
  ·rw[yWl (yXb h2)];omega
  ·rw[yWk (by simpa using h2)];omega
 rw[e]
 by_cases h1:yV x
 ·exact .inl ⟨h1,by unfold yV at h1;omega⟩
 ·unfold yV at h1
  omega
theorem yVa (i:I2) (h:addC.cnd i):ySs i:=by
 obtain⟨⟨x1,x2⟩,y1,y2⟩:yV i.x∧yV i.y:=h
 have hw:=yKy (i.x+i.y) (by omega)
 unfold ySs zMj uY
 generalize IntKind.i64.wrap (i.x+i.y)=w at hw ⊢
 unfold yV at hw ⊢
 refine Cv.cnd.mk (fun c1=>Cv.cnd.mk (fun c2=> ?_) (fun c2=> ?_)) (fun c1=> ?_)
 all_goals(simp at*)
 ·rw[yWk (by omega)];exact kp
 ·rw[yWl (by omega)];refine⟨?_,rfl⟩;dsimp only;omega
 ·rw[yWl (by omega)];refine⟨?_,rfl⟩;dsimp only;omega
theorem zRs:addC.ok Tryz.prog 230:=okw mixed gok0 0 (fun _=>[]) (fun _=>[]) [] Tryz.func230 yVa
theorem yUs (i:I2) (h:subC.cnd i):yTs i:=by
 obtain⟨⟨x1,x2⟩,y1,y2⟩:yV i.x∧yV i.y:=h
 have hw:=yKy (i.x-i.y) (by omega)
 unfold yTs zMe uT
 generalize IntKind.i64.wrap (i.x-i.y)=w at hw ⊢
 unfold yV at hw ⊢
 refine Cv.cnd.mk (fun c1=>Cv.cnd.mk (fun c2=> ?_) (fun c2=> ?_)) (fun c1=> ?_)
 all_goals(simp at*)
 ·rw[yWk (by omega)];exact kp
 ·rw[yWl (by omega)];refine⟨?_,rfl⟩;dsimp only;omega
 ·rw[yWl (by omega)];refine⟨?_,rfl⟩;dsimp only;omega
theorem zSe:subC.ok Tryz.prog 231:=okw mixed gok0 0 (fun _=>[]) (fun _=>[]) [] Tryz.func231 yUs
open Go Cv Go.Proofs
structure Slot where
 used:Bool
 n:Int
 id:Int
 qty:Int
 top:Bool
 queue:Int
 ahead:Int
 back:Int
 deriving DecidableEq
structure cF where
 first:Int
 last:Int
 total:Int
 count:Int
 deriving DecidableEq
structure Arena where
 slots:List Slot
 queues:List cF
 free:Int
 deriving DecidableEq
def zR (s:Slot):List D:=[.v (.bool s.used),.v (.int .i64 s.n),.v (.int .i64 s.id),.v (.int .i64 s.qty),.v (.bool s.top),.v (.int .i64 s.queue),.v (.int .i64 s.ahead),.v (.int .i64 s.back)]
def zQ (q:cF):List D:=[.v (.int .i64 q.first),.v (.int .i64 q.last),.v (.int .i64 q.total),.v (.int .i64 q.count)]
def slot0:Slot:=⟨false,0,0,0,false,0,0,0⟩
def zG (a:Arena):Nat→AObj
 |0=> .cells [.own 1,.own 2,zA a.free] 355
 |1=> .own 362 8 (a.slots.map zR)
 |2=> .own 365 4 (a.queues.map zQ)
 |_=> .gone
def jP (a:Arena):AObj:= .adt Arena 3 zG a
structure xH where
 price:Int
 queue:Int
 deriving DecidableEq
structure Place where
 side:Int
 price:Int
 slot:Int
 deriving DecidableEq
structure Book where
 a:Arena
 buys:List xH
 sells:List xH
 at_:List (Int×Place)
 top1:Int
 top2:Int
 spare:List Int
 has1:Bool
 has2:Bool
 deriving DecidableEq
def zC (r:xH):List D:=[.v (.int .i64 r.price),.v (.int .i64 r.queue)]
def z1f (p:Place):List D:=[.v (.int .i64 p.side),.v (.int .i64 p.price),.v (.int .i64 p.slot)]
def atE (l:List (Int×Place)):List (Value×List D):=l.map fun x=>(.int .i64 x.1,z1f x.2)
def zS (b:Book):Nat→AObj
 |0=> .cells [.nm 1 0,.own 2,.own 3,.mp 4,zA b.top1,zA b.top2,.own 5,yG b.has1,yG b.has2] 299
 |1=>jP b.a
 |2=> .own 304 2 (b.buys.map zC)
 |3=> .own 304 2 (b.sells.map zC)
 |4=> .map (atE b.at_)
 |5=> .own 3 1 (iE b.spare)
 |_=> .gone
def z8 (b:Book):AObj:= .adt Book 6 zS b
structure MSt where
 p:Prd
 books:List Book
 wh:List (Int×Int)
def yW (l:List (Int×Int)):List (Value×List D):=l.map fun x=>(.int .i64 x.1,[.v (.int .i64 x.2)])
def xM (s:MSt):Nat→AObj
 |0=> .cells [sV s.p.code,.own 3,zA s.p.tick,zA s.p.low,zA s.p.high,zA s.p.wide,zA s.p.rule,zA s.p.top,zA s.p.least,zA s.p.part,.own 4,.own 1,.mp 2] 240
 |1=> .objs 241 Book 6 zS s.books none
 |2=> .map (yW s.wh)
 |3=> .fro 1 (iE s.p.months)
 |4=> .fro 1 (iE s.p.settle)
 |_=> .gone
def zE (s:MSt):AObj:= .adt MSt 5 xM s
def zJf (n:Nat):Arena:=⟨List.replicate n slot0,[],n⟩
def book0:Book:=⟨zJf 250,[],[],[],0,0,[],false,false⟩
def newAC:Con:=con1 Nat (fun n=>[zA n]) (fun _=>[]) (fun n=>1≤n∧n≤4096) (fun _=> .tup [.nm 0 0,zA 0]) (fun n=>[jP (zJf n)])
def newBC:Con:=con1 Unit (fun _=>[]) (fun _=>[]) (fun _=>True) (fun _=> .nm 0 0) (fun _=>[z8 book0])
def a9 (p:Prd):MSt:=⟨p,List.replicate p.count book0,[]⟩
def newSC:Con where
 ι:=Prd
 pat:=fun p=>[prdV p]
 pre:=fun _=>[]
 cnd:=fun p=>p.small
 alts:=fun p=>[{o:=Unit,res:=fun _=> .tup [.nm 0 0,zA 0],post:=fun _=>[zE (a9 p)],rel:=fun _=>p.check=0},{o:=Unit,res:=fun _=> .tup [.d (.v (.pointer none)),zA p.check],post:=fun _=>[],rel:=fun _=>p.check≠0}]
def yTv (p:Prd):List SAnn:=[{ι:=Nat,slots:=fun j=>[(5,.nm 0 0),(27,zA j)],rows:=fun j=>(List.range 5).map (xM ⟨p,List.replicate j book0,[]⟩)}]
def clSlotC:Con:=con1 (List Slot) (fun _=>[.own 0]) (fun l=>[.own 362 8 (l.map zR)]) (fun l=>l.length≤1000000) (fun _=> .own 1) (fun l=>[.own 362 8 (l.map zR),.own 362 8 (l.map zR)])
def clQueueC:Con:=con1 (List cF) (fun _=>[.own 0]) (fun l=>[.own 365 4 (l.map zQ)]) (fun l=>l.length≤1000000) (fun _=> .own 1) (fun l=>[.own 365 4 (l.map zQ),.own 365 4 (l.map zQ)])
def clRungC:Con:=con1 (List xH) (fun _=>[.own 0]) (fun l=>[.own 304 2 (l.map zC)]) (fun l=>l.length≤1000000) (fun _=> .own 1) (fun l=>[.own 304 2 (l.map zC),.own 304 2 (l.map zC)])
def clIntC:Con:=con1 (List Int) (fun _=>[.own 0]) (fun l=>[.own 3 1 (iE l)]) (fun l=>l.length≤1000000) (fun _=> .own 1) (fun l=>[.own 3 1 (iE l),.own 3 1 (iE l)])
def yAp (f:Nat):Con:=con1 (List (Value×List D)) (fun _=>[.mp 0]) (fun es=>[.map es]) (fun _=>True) (fun _=> .mp 1) (fun es=>[.map es,.map es])
def clAtC:Con:=yAp 0
def clWhC:Con:=yAp 1
@[reducible] def Arena.small (a:Arena):Prop:=a.slots.length≤1000000∧a.queues.length≤1000000
@[reducible] def Book.small (b:Book):Prop:=b.a.small∧b.buys.length≤1000000∧b.sells.length≤1000000∧b.spare.length≤1000000
@[reducible] def MSt.small (s:MSt):Prop:=s.books.length≤1000000∧∀b∈s.books,b.small
def copyAC:Con:=con1 Arena (fun _=>[.nm 0 0]) (fun a=>[jP a]) Arena.small (fun _=> .nm 1 0) (fun a=>[jP a,jP a])
def copyBC:Con:=con1 Book (fun _=>[.nm 0 0]) (fun b=>[z8 b]) Book.small (fun _=> .nm 1 0) (fun b=>[z8 b,z8 b])
def yOy:List SAnn:=[{ι:=Unit,slots:=fun _=>[],rows:=fun _=>[],un:=3}]
def copySC:Con:=con1 MSt (fun _=>[.nm 0 0]) (fun s=>[zE s]) MSt.small (fun _=> .nm 1 0) (fun s=>[zE s,zE s])
open Go Cv Go.Proofs
def yKp (n:Nat):Prop:=
 cnd (decide ((↑n:Int)<1)) (∃(a:Unit),False) (cnd (decide ((↑n:Int)>4096)) (∃(a:Unit),False) ((0≤(↑n:Int)∧(↑n:Int)≤(↑n:Int)∧(↑n:Int)≤9223372036854775807∧(↑(64:Nat):Int)*(↑n:Int)≤2 ^ (48:Nat))∧∃(a:Unit),(0:Int)=(0:Int)∧(↑n:Int)=(↑n:Int)∧List.map zR (List.replicate n slot0)=List.replicate (↑n:Int).toNat [D.v (.bool false),dI 0,dI 0,dI 0,D.v (.bool false),dI 0,dI 0,dI 0]∧([]:List (List D))=[]∧True))
def yUf (u:Unit):Prop:=
 ∃(i:Nat),(↑i:Int)=250∧(1≤i∧i≤4096)∧∀(o:Unit),True→∃(o:Unit),(0:Int)=(0:Int)∧(0:Int)=(0:Int)∧false=false∧false=false∧AObj.adt Arena 3 zG (zJf 250)=AObj.adt Arena 3 zG (zJf i)∧([]:List (List D))=[]∧([]:List (List D))=[]∧atE []=[]∧iE []=[]∧True
def bD (a:Prd):Prop:=AObj.fro 1 (iE a.settle)=AObj.fro 1 (iE a.settle)∧AObj.fro 1 (iE a.months)=AObj.fro 1 (iE a.months)
def uE (a:Prd):=(D.v (Value.string (sb a.code)))
def zNq (a:Prd) (b:Nat) (c:Unit):Prop:=(∃(d:Unit),(0:Int)=(0:Int)∧sb a.code=sb a.code∧a.tick=a.tick∧a.low=a.low∧a.high=a.high∧a.wide=a.wide∧a.rule=a.rule∧a.top=a.top∧a.least=a.least∧a.part=a.part∧AObj.objs 241 Book 6 zS (List.replicate a.count book0) none=AObj.objs 241 Book 6 zS (List.replicate b book0) none∧yW []=yW []∧AObj.fro 1 (iE a.months)=AObj.fro 1 (iE a.months)∧AObj.fro 1 (iE a.settle)=AObj.fro 1 (iE a.settle)∧a.check=0)∨∃(c:Unit),False
def zMo (a:Prd):Prop:=True∧True∧(0+(iE a.months).length)*(8:Nat)≤(140737488355328:Nat)∧True∧(0+(iE a.settle).length)*(8:Nat)≤(140737488355328:Nat)∧∃(b:Prd),sb b.code=sb a.code∧iE b.months=[]++iE a.months∧b.tick=a.tick∧b.low=a.low∧b.high=a.high∧b.wide=a.wide∧b.rule=a.rule∧b.top=a.top∧b.least=a.least∧b.part=a.part∧iE b.settle=[]++iE a.settle∧(zY b)∧∀(c:Unit),True→∃(d:Nat),(↑d:Int)=0∧sb a.code=sb a.code∧a.tick=a.tick∧a.low=a.low∧a.high=a.high∧a.wide=a.wide∧a.rule=a.rule∧a.top=a.top∧a.least=a.least∧a.part=a.part∧List.replicate d book0=[]∧(none:Option Nat)=none∧yW []=[]∧AObj.fro 1 (iE a.months)=AObj.fro 1 ([]++iE a.months)∧AObj.fro 1 (iE a.settle)=AObj.fro 1 ([]++iE a.settle)∧∃(e:Nat→Prop),∃(f:Nat→Nat),e d∧∀(g:Nat),e g→cnd (decide ((↑g:Int)<(↑b.count:Int))) (∃(h:Unit),True∧∀(j:Unit),True→True∧True∧∃(k:List Book),AObj.objs 241 Book 6 zS (List.replicate g book0) none=AObj.objs 241 Book 6 zS k none∧(k.length+1)*(8:Nat)≤(140737488355328:Nat)∧∃(l:Nat),(↑l:Int)=IntKind.i64.wrap ((↑g:Int)+1)∧sb a.code=sb a.code∧a.tick=a.tick∧a.low=a.low∧a.high=a.high∧a.wide=a.wide∧a.rule=a.rule∧a.top=a.top∧a.least=a.least∧a.part=a.part∧AObj.objs 241 Book 6 zS (List.replicate l book0) none=AObj.objs 241 Book 6 zS (k++[book0]) none∧yW []=yW []∧AObj.fro 1 (iE a.months)=AObj.fro 1 (iE a.months)∧AObj.fro 1 (iE a.settle)=AObj.fro 1 (iE a.settle)∧e l∧f l<f g∧AObj.fro 1 ([]++iE a.settle)=AObj.fro 1 ([]++iE a.settle)∧AObj.fro 1 ([]++iE a.months)=AObj.fro 1 ([]++iE a.months)∧Sx.AObj.cells [V.d (uE a),V.own ((0:Nat)+(1:Nat)+(1:Nat)+(1:Nat)+((0:Nat)-(0:Nat))+(1:Nat)+(1:Nat)),V.d (dI a.tick),V.d (dI a.low),V.d (dI a.high),V.d (dI a.wide),V.d (dI a.rule),V.d (dI a.top),V.d (dI a.least),V.d (dI a.part),V.own ((0:Nat)+(1:Nat)+(1:Nat)+(1:Nat)+((0:Nat)-(0:Nat))+(1:Nat)+(1:Nat)+1)] 25=Sx.AObj.cells [V.d (uE a),V.own ((0:Nat)+(1:Nat)+(1:Nat)+(1:Nat)+((0:Nat)-(0:Nat))+(1:Nat)+(1:Nat)),V.d (dI a.tick),V.d (dI a.low),V.d (dI a.high),V.d (dI a.wide),V.d (dI a.rule),V.d (dI a.top),V.d (dI a.least),V.d (dI a.part),V.own ((0:Nat)+(1:Nat)+(1:Nat)+(1:Nat)+((0:Nat)-(0:Nat))+(1:Nat)+(1:Nat)+1)] 25∧bD a) (zNq a g c)
def yKr (p:Prd):Prop:=
 ∃(a:Prd),sb a.code=sb p.code∧iE a.months=iE p.months∧a.tick=p.tick∧a.low=p.low∧a.high=p.high∧a.wide=p.wide∧a.rule=p.rule∧a.top=p.top∧a.least=p.least∧a.part=p.part∧iE a.settle=iE p.settle∧(zY a)∧∀(b:Unit),True→cnd (a.check !=0) ((∃(c:Unit),False)∨∃(b:Unit),True∧p.check=a.check∧(p.check=0→False)) ((True∧True∧((0+(iE p.months).length)*(8:Nat)≤(140737488355328:Nat)∧True∧True∧(0+(iE p.settle).length)*(8:Nat)≤(140737488355328:Nat)∧∃(c:Prd),sb c.code=sb p.code∧iE c.months=[]++iE p.months∧c.tick=p.tick∧c.low=p.low∧c.high=p.high∧c.wide=p.wide∧c.rule=p.rule∧c.top=p.top∧c.least=p.least∧c.part=p.part∧iE c.settle=[]++iE p.settle∧(zY c)∧∀(d:Unit),True→∃(e:Nat),(↑e:Int)=0∧sb p.code=sb p.code∧p.tick=p.tick∧p.low=p.low∧p.high=p.high∧p.wide=p.wide∧p.rule=p.rule∧p.top=p.top∧p.least=p.least∧p.part=p.part∧List.replicate e book0=[]∧(none:Option Nat)=none∧yW []=[]∧AObj.fro 1 (iE p.months)=AObj.fro 1 ([]++iE p.months)∧AObj.fro 1 (iE p.settle)=AObj.fro 1 ([]++iE p.settle)∧∃(f:Nat→Prop),∃(g:Nat→Nat),f e∧∀(h:Nat),f h→cnd (decide ((↑h:Int)<(↑c.count:Int))) (∃(j:Unit),True∧∀(k:Unit),True→True∧True∧∃(l:List Book),AObj.objs 241 Book 6 zS (List.replicate h book0) none=AObj.objs 241 Book 6 zS l none∧(l.length+1)*(8:Nat)≤(140737488355328:Nat)∧∃(m:Nat),(↑m:Int)=IntKind.i64.wrap ((↑h:Int)+1)∧sb p.code=sb p.code∧p.tick=p.tick∧p.low=p.low∧p.high=p.high∧p.wide=p.wide∧p.rule=p.rule∧p.top=p.top∧p.least=p.least∧p.part=p.part∧AObj.objs 241 Book 6 zS (List.replicate m book0) none=AObj.objs 241 Book 6 zS (l++[book0]) none∧yW []=yW []∧AObj.fro 1 (iE p.months)=AObj.fro 1 (iE p.months)∧AObj.fro 1 (iE p.settle)=AObj.fro 1 (iE p.settle)∧f m∧g m<g h∧AObj.fro 1 ([]++iE p.settle)=AObj.fro 1 ([]++iE p.settle)∧AObj.fro 1 ([]++iE p.months)=AObj.fro 1 ([]++iE p.months)∧Sx.AObj.cells [V.d (uE p),V.own ((0:Nat)+(1:Nat)+(1:Nat)+(1:Nat)+((0:Nat)-(0:Nat))+1),V.d (dI p.tick),V.d (dI p.low),V.d (dI p.high),V.d (dI p.wide),V.d (dI p.rule),V.d (dI p.top),V.d (dI p.least),V.d (dI p.part),V.own ((0:Nat)+(1:Nat)+(1:Nat)+(1:Nat)+((0:Nat)-(0:Nat))+(1:Nat)+(1:Nat)+1)] 25=Sx.AObj.cells [V.d (uE p),V.own ((0:Nat)+(1:Nat)+(1:Nat)+(1:Nat)+((0:Nat)-(0:Nat))+1),V.d (dI p.tick),V.d (dI p.low),V.d (dI p.high),V.d (dI p.wide),V.d (dI p.rule),V.d (dI p.top),V.d (dI p.least),V.d (dI p.part),V.own ((0:Nat)+(1:Nat)+(1:Nat)+(1:Nat)+((0:Nat)-(0:Nat))+(1:Nat)+(1:Nat)+1)] 25∧bD p) (zNq p h d))∧zMo p)∧True∧True∧zMo p)
def yIm (l:List Slot):Prop:=
 ∀(b:Bool),(b=true→List.map zR l=[])→cnd b (∃(o:Unit),List.map zR l=List.map zR l∧List.map zR l=[]∧True) ((0+(List.map zR l).length)*(64:Nat)≤(140737488355328:Nat)∧∃(o:Unit),List.map zR l=List.map zR l∧List.map zR l=[]++List.map zR l∧True)
def yFf (l:List cF):Prop:=
 ∀(b:Bool),(b=true→List.map zQ l=[])→cnd b (∃(o:Unit),List.map zQ l=List.map zQ l∧List.map zQ l=[]∧True) ((0+(List.map zQ l).length)*(32:Nat)≤(140737488355328:Nat)∧∃(o:Unit),List.map zQ l=List.map zQ l∧List.map zQ l=[]++List.map zQ l∧True)
def yJx (l:List xH):Prop:=
 ∀(b:Bool),(b=true→List.map zC l=[])→cnd b (∃(o:Unit),List.map zC l=List.map zC l∧List.map zC l=[]∧True) ((0+(List.map zC l).length)*(16:Nat)≤(140737488355328:Nat)∧∃(o:Unit),List.map zC l=List.map zC l∧List.map zC l=[]++List.map zC l∧True)
def yPd (l:List Int):Prop:=
 ∀(b:Bool),(b=true→iE l=[])→cnd b (∃(o:Unit),iE l=iE l∧iE l=[]∧True) ((0+(iE l).length)*(8:Nat)≤(140737488355328:Nat)∧∃(o:Unit),iE l=iE l∧iE l=[]++iE l∧True)
def yEd (es:List (Value×List D)):Prop:=
 ∃(a:List (Value×List D)),a=es∧True∧∀(b:Unit),True→∃(c:Unit),es=a∧es=a∧True
theorem yMn (es:List (Value×List D)):yEd es=walk Tryz.prog ([(186,cP 295)]) 0 ([]) ([]) [] Tryz.f201 (Tryz.f201.body.getD .skip) (clAtC.pat es) (clAtC.pre es) (clAtC.alts es):=by kernel_rfl
theorem yPp (hG:GOk Tryz.prog ([(186,cP 295)])) (h:∀(es:List (Value×List D)),clAtC.cnd es→yEd es):clAtC.ok Tryz.prog 201:=bZ mixed ([(186,cP 295)]) hG 0 (fun(es:List (Value×List D))=>[]) (fun(es:List (Value×List D))=>[]) [] Tryz.func201 (by kernel_rfl) (by kernel_rfl) (by kernel_rfl) (fun _=>by kernel_rfl) (fun(es:List (Value×List D)) hc=>Eq.mp (yMn es) (h es hc))
def yGb (es:List (Value×List D)):Prop:=
 ∃(a:List (Value×List D)),a=es∧True∧∀(b:Unit),True→∃(c:Unit),es=a∧es=a∧True
theorem yNm (es:List (Value×List D)):yGb es=walk Tryz.prog ([(186,cP 168)]) 0 ([]) ([]) [] Tryz.f146 (Tryz.f146.body.getD .skip) (clWhC.pat es) (clWhC.pre es) (clWhC.alts es):=by kernel_rfl
theorem yOr (hG:GOk Tryz.prog ([(186,cP 168)])) (h:∀(es:List (Value×List D)),clWhC.cnd es→yGb es):clWhC.ok Tryz.prog 146:=bZ mixed ([(186,cP 168)]) hG 0 (fun(es:List (Value×List D))=>[]) (fun(es:List (Value×List D))=>[]) [] Tryz.func146 (by kernel_rfl) (by kernel_rfl) (by kernel_rfl) (fun _=>by kernel_rfl) (fun(es:List (Value×List D)) hc=>Eq.mp (yNm es) (h es hc))
def yNv (a:Arena):Prop:=
 ∃(i:List Slot),List.map zR i=List.map zR a.slots∧i.length≤1000000∧∀(o:Unit),True→a.free=a.free∧True∧∃(i_1:List cF),List.map zQ i_1=List.map zQ a.queues∧i_1.length≤1000000∧∀(o:Unit),True→a.free=a.free∧∃(o:Unit),a.free=a.free∧List.map zR a.slots=List.map zR i∧List.map zQ a.queues=List.map zQ i_1∧a.free=a.free∧List.map zR a.slots=List.map zR i∧List.map zQ a.queues=List.map zQ i_1∧True
def yOu (b:Book):Prop:=
 ∃(i:Arena),AObj.adt Arena 3 zG i=AObj.adt Arena 3 zG b.a∧(i.slots.length≤1000000∧i.queues.length≤1000000)∧∀(o:Unit),True→True∧True∧∃(i_1:List (Value×List D)),i_1=atE b.at_∧True∧∀(o:Unit),True→True∧∃(i_2:List Int),iE i_2=iE b.spare∧i_2.length≤1000000∧∀(o:Unit),True→∃(i_3:List xH),List.map zC i_3=List.map zC b.buys∧i_3.length≤1000000∧∀(o:Unit),True→∃(i_4:List xH),List.map zC i_4=List.map zC b.sells∧i_4.length≤1000000∧∀(o:Unit),True→∃(o:Unit),b.top1=b.top1∧b.top2=b.top2∧b.has1=b.has1∧b.has2=b.has2∧AObj.adt Arena 3 zG b.a=AObj.adt Arena 3 zG i∧List.map zC b.buys=List.map zC i_3∧List.map zC b.sells=List.map zC i_4∧atE b.at_=i_1∧iE b.spare=iE i_2∧b.top1=b.top1∧b.top2=b.top2∧b.has1=b.has1∧b.has2=b.has2∧AObj.adt Arena 3 zG b.a=AObj.adt Arena 3 zG i∧List.map zC b.buys=List.map zC i_3∧List.map zC b.sells=List.map zC i_4∧atE b.at_=i_1∧iE b.spare=iE i_2∧True
open Go Cv Go.Proofs
theorem yRv (n:Nat) (h:newAC.cnd n):yKp n:=by
 obtain⟨h1,h2⟩:1≤n∧n≤4096:=h
 unfold yKp dI
 refine zK (fun c=>by omega) fun c=>zK (fun c=>by omega) fun c=> ?_
 refine⟨⟨by omega,by omega,by omega,?_⟩,?_⟩
 ·have:(2:Int) ^ (48:Nat)=281474976710656:=by decide
  rw[this];omega
 ·refine⟨(),rfl,rfl,?_,rfl,trivial⟩
  rw[List.map_replicate];rfl
theorem yJg:newAC.ok Tryz.prog 189:=okw mixed gok0 0 (fun _=>[]) (fun _=>[]) [] Tryz.func189 yRv
theorem yGl:newBC.ok Tryz.prog 150:=okw (V:=yUf) mixed (gokc yJg gok0) 0 (fun _=>[]) (fun _=>[]) [] Tryz.func150 fun(u:Unit) _=>by
 refine⟨250,rfl,⟨by omega,by omega⟩,?_⟩;exact kp
theorem ySj (p:Prd) (h:newSC.cnd p):yKr p:=by
 unfold yKr zMo zNq uE bD zY dI
 have hs:p.small:=h
 obtain⟨h1,h2,h3⟩:p.small:=h
 refine⟨p,?_⟩
 simp only[xF]
 (repeat'(first|exact rfl|exact trivial|assumption|apply And.intro|refine fun(_:Unit) (_:True)=>?_|refine Exists.intro () ?_|omega|(dsimp only;omega)))
 refine Cv.cnd.mk (fun c=> .inr ⟨(),trivial,kp,by simpa using c⟩) fun c=> ?_
 have c:p.check=0:=by simpa using c
 have hc:=xS p
 (repeat'(first|exact rfl|exact trivial|assumption|apply And.intro|refine fun(_:Unit) (_:True)=>?_|refine Exists.intro () ?_|omega|(dsimp only;omega)))
 all_goals(refine⟨p,?_⟩;(repeat'(first|exact rfl|exact trivial|assumption|apply And.intro|refine fun(_:Unit) (_:True)=>?_|refine Exists.intro () ?_|omega|(dsimp only;omega))))
 all_goals(refine⟨0,?_⟩;(repeat'(first|exact rfl|exact trivial|assumption|apply And.intro|refine fun(_:Unit) (_:True)=>?_|refine Exists.intro () ?_|omega|(dsimp only;omega))))
 all_goals(refine⟨fun j=>j≤p.count,fun j=>p.count-j,by omega,fun j hj=>zK (fun hlt=> ?_) (fun hlt=> ?_)⟩;all_goals dsimp only at hj hlt)
 all_goals first
  |(refine .inl ⟨(),?_⟩
    obtain rfl:j=p.count:=by omega
    (repeat'(first|exact rfl|exact trivial|assumption|apply And.intro|refine fun(_:Unit) (_:True)=>?_|refine Exists.intro () ?_|omega|(dsimp only;omega))))
  |(refine⟨(),trivial,fun _ _=>⟨trivial,trivial,List.replicate j book0,rfl,?_,j+1,?_⟩⟩
    ·rw[yZt];omega
    ·rw[w64 (by omega),← List.replicate_succ']
     (repeat'(first|exact rfl|exact trivial|assumption|apply And.intro|refine fun(_:Unit) (_:True)=>?_|refine Exists.intro () ?_|omega|(dsimp only;omega))))
theorem yGq:newSC.ok Tryz.prog 103:=okw mixed (gokc sY (gokc bI (gokc yGl gok0))) 0 (fun _=>[]) (fun p=>yTv p) [] Tryz.func103 ySj
theorem z7n:clSlotC.ok Tryz.prog 232:=okw (V:=yIm) mixed gok0 0 (fun _=>[]) (fun _=>[]) [] Tryz.func232 fun(l:List Slot) h=>by
 have h:l.length≤1000000:=h
 exact fun b hb=>Cv.cnd.mk (fun e=>⟨(),rfl,hb e,trivial⟩) (fun _=>⟨by rw[yXl,yWm];omega,(),rfl,rfl,trivial⟩)
theorem zZg:clQueueC.ok Tryz.prog 233:=okw (V:=yFf) mixed gok0 0 (fun _=>[]) (fun _=>[]) [] Tryz.func233 fun(l:List cF) h=>by
 have h:l.length≤1000000:=h
 exact fun b hb=>Cv.cnd.mk (fun e=>⟨(),rfl,hb e,trivial⟩) (fun _=>⟨by rw[yXl,yWm];omega,(),rfl,rfl,trivial⟩)
theorem z6t:clRungC.ok Tryz.prog 202:=okw (V:=yJx) mixed gok0 0 (fun _=>[]) (fun _=>[]) [] Tryz.func202 fun(l:List xH) h=>by
 have h:l.length≤1000000:=h
 exact fun b hb=>Cv.cnd.mk (fun e=>⟨(),rfl,hb e,trivial⟩) (fun _=>⟨by rw[yXl,yWm];omega,(),rfl,rfl,trivial⟩)
theorem yCi:clIntC.ok Tryz.prog 88:=okw (V:=yPd) mixed gok0 0 (fun _=>[]) (fun _=>[]) [] Tryz.func88 fun(l:List Int) h=>by
 have h:l.length≤1000000:=h
 exact fun b hb=>Cv.cnd.mk (fun e=>⟨(),rfl,hb e,trivial⟩) (fun _=>⟨by rw[yXl,xF];omega,(),rfl,rfl,trivial⟩)
theorem zQo (t:Nat):(cP t).ok Tryz.prog 186:=zYo Tryz.func186 (by kernel_rfl) (by kernel_rfl) (by kernel_rfl) (by kernel_rfl) t
theorem yHp:clAtC.ok Tryz.prog 201:=yPp (gokc (zQo _) gok0) fun es _=>by
 unfold yEd
 refine⟨es,?_⟩;exact kp
theorem yIt:clWhC.ok Tryz.prog 146:=yOr (gokc (zQo _) gok0) fun es _=>by
 unfold yGb
 refine⟨es,?_⟩;exact kp
theorem yCo:copyAC.ok Tryz.prog 200:=okw (V:=yNv) mixed (gokc z7n (gokc zZg gok0)) 0 (fun _=>[]) (fun _=>[]) [0] Tryz.func200 fun(a:Arena) h=>by
 obtain⟨h1,h2⟩:a.small:=h
 refine⟨a.slots,?_⟩;(repeat'(first|exact rfl|exact trivial|assumption|apply And.intro|refine fun(_:Unit) (_:True)=>?_|refine Exists.intro () ?_|omega|(dsimp only;omega)))
 refine⟨a.queues,?_⟩;exact kp
theorem yBf:copyBC.ok Tryz.prog 162:=okw (V:=yOu) mixed (gokc yCo (gokc yHp (gokc yCi (gokc z6t gok0)))) 0 (fun _=>[]) (fun _=>yOy) [0] Tryz.func162 fun(b:Book) h=>by
 obtain⟨⟨h1,h1'⟩,h2,h3,h4⟩:b.small:=h
 refine⟨b.a,?_⟩;(repeat'(first|exact rfl|exact trivial|assumption|apply And.intro|refine fun(_:Unit) (_:True)=>?_|refine Exists.intro () ?_|omega|(dsimp only;omega)))
 refine⟨atE b.at_,?_⟩;(repeat'(first|exact rfl|exact trivial|assumption|apply And.intro|refine fun(_:Unit) (_:True)=>?_|refine Exists.intro () ?_|omega|(dsimp only;omega)))
 refine⟨b.spare,?_⟩;(repeat'(first|exact rfl|exact trivial|assumption|apply And.intro|refine fun(_:Unit) (_:True)=>?_|refine Exists.intro () ?_|omega|(dsimp only;omega)))
 refine⟨b.buys,?_⟩;(repeat'(first|exact rfl|exact trivial|assumption|apply And.intro|refine fun(_:Unit) (_:True)=>?_|refine Exists.intro () ?_|omega|(dsimp only;omega)))
 refine⟨b.sells,?_⟩;exact kp
open Go Cv Go.Proofs
structure ArN where
 a:Arena
 n:Int
def Arena.qAt (a:Arena) (n:Int):cF:=if 0≤n∧n<a.queues.length then a.queues.getD n.toNat ⟨0,0,0,0⟩else⟨0,0,0,0⟩
def atotalC:Con:=con1 ArN (fun i=>[.nm 0 0,zA i.n]) (fun i=>[jP i.a]) (fun i=>True) (fun i=>zA (i.a.qAt i.n).total) (fun i=>[jP i.a])
def acountC:Con:=con1 ArN (fun i=>[.nm 0 0,zA i.n]) (fun i=>[jP i.a]) (fun i=>True) (fun i=>zA (i.a.qAt i.n).count) (fun i=>[jP i.a])
def bisC:Con:=con1 Int (fun n=>[zA n]) (fun _=>[]) (fun _=>True) (fun n=>yG (decide (n=1)||decide (n=2))) (fun _=>[])
structure BkR where
 b:Book
 r:xH
def Book.told (b:Book) (r:xH):Lv:=⟨r.price,(b.a.qAt r.queue).total,(b.a.qAt r.queue).count⟩
@[reducible] def Book.cntOk (b:Book):Prop:=∀q∈b.a.queues,yV q.count
def toldC:Con:=con1 BkR (fun i=>[.nm 0 0,.agg [zA i.r.price,zA i.r.queue]]) (fun i=>[z8 i.b]) (fun i=>i.b.cntOk) (fun i=>lvV (i.b.told i.r)) (fun i=>[z8 i.b])
def Book.best (b:Book) (l:List xH):Lv×Bool:=match l with
 |[]=>(⟨0,0,0⟩,false)
 |r::_=>(b.told r,true)
structure BkS where
 side:Bool
 b:Book
def Book.side (b:Book) (s:Bool):List xH:=if s then b.sells else b.buys
@[reducible] def zYq (b:Book) (l:List xH):V:= .tup [lvV (b.best l).1,yG (b.best l).2]
def best1C:Con:=con1 Book (fun _=>[.nm 0 0,zA 1]) (fun b=>[z8 b]) Book.cntOk (fun b=>zYq b b.buys) (fun b=>[z8 b])
def best2C:Con:=con1 Book (fun _=>[.nm 0 0,zA 2]) (fun b=>[z8 b]) Book.cntOk (fun b=>zYq b b.sells) (fun b=>[z8 b])
def zD (s:Bool):Int:=if s then 2 else 1
def bestC:Con:=con1 BkS (fun i=>[.nm 0 0,zA (zD i.side)]) (fun i=>[z8 i.b]) (fun i=>i.b.cntOk) (fun i=>zYq i.b (i.b.side i.side)) (fun i=>[z8 i.b])
structure Top where
 has1:Bool
 has2:Bool
 p1:Int
 p2:Int
 q1:Int
 q2:Int
 deriving DecidableEq
def zX (t:Top):List D:=[.v (.bool t.has1),.v (.bool t.has2),.v (.int .i64 t.p1),.v (.int .i64 t.p2),.v (.int .i64 t.q1),.v (.int .i64 t.q2)]
def top0:Top:=⟨false,false,0,0,0,0⟩
def Top.buy (t:Top) (x:Lv×Bool):Top:=if x.2 then{t with has1:=true,p1:=x.1.price,q1:=x.1.qty}else t
def Top.sell (t:Top) (x:Lv×Bool):Top:=if x.2 then{t with has2:=true,p2:=x.1.price,q2:=x.1.qty}else t
def Book.top (b:Book):Top:=(top0.buy (b.best b.buys)).sell (b.best b.sells)
def MSt.tops (s:MSt):List Top:=s.books.map Book.top
@[reducible] def MSt.cntOk (s:MSt):Prop:=s.books.length≤1000000∧∀b∈s.books,b.cntOk
def topsC:Con:=con1 MSt (fun _=>[.nm 0 0]) (fun s=>[zE s]) MSt.cntOk (fun s=> .own 1) (fun s=>[zE s,.own 252 6 (s.tops.map zX)])
def xO (s:MSt) (j:Nat) (x:Top):List Top:=(s.tops.take j)++x::List.replicate (s.books.length-j-1) top0
def xY (s:MSt) (j:Nat):List Top:=(s.tops.take j)++List.replicate (s.books.length-j) top0
def yLv (s:MSt):List SAnn:=[
 {ι:=Nat,slots:=fun j=>[(3,.own 0),(21,zA j)],rows:=fun j=>[.own 252 6 ((xY s j).map zX)]},
 {ι:=Unit,slots:=fun _=>[],rows:=fun _=>[],un:=3}]
def yKw (s:MSt):List (Nat×SAnn):=[(15,{ι:=Nat×Top,slots:=fun x=>[(3,.own 0)],slots0:=fun x=>[(3,.own 0)],rows0:=fun x=>[.own 252 6 ((xO s x.1 x.2).map zX)],rows:=fun x=>[.own 252 6 ((xO s x.1 x.2).map zX)]})]
def yMi (s:MSt):List SAnn:=[{ι:=Nat,slots:=fun j=>[(3,.nm 0 0),(22,zA j)],rows:=fun j=>(List.range 5).map (xM ⟨s.p,s.books.take j,s.wh⟩)}]
open Go Cv Go.Proofs
def jE (a:ArN):Prop:=a.a.free=a.a.free∧List.map zR a.a.slots=List.map zR a.a.slots∧List.map zQ a.a.queues=List.map zQ a.a.queues∧True
def sZ (a:ArN):Prop:=∃(b:Unit),(a.a.qAt a.n).total=0∧jE a
def gP (a:ArN):=(↑(List.map zQ a.a.queues).length:Int)
def z3b (i:ArN):Prop:=
 cnd (decide (i.n≥0)) (cnd (!decide (i.n<(gP i))) (sZ i) ((0≤i.n∧i.n<(gP i))∧∃(a:Int),zF (List.map zQ i.a.queues) i.n.toNat ((0:Nat)+(2:Nat)) 1=some [dI a]∧∃(b:Unit),(i.a.qAt i.n).total=a∧jE i)) (sZ i)
def sX (a:ArN):Prop:=∃(b:Unit),(a.a.qAt a.n).count=0∧jE a
def z2b (i:ArN):Prop:=
 cnd (decide (i.n≥0)) (cnd (!decide (i.n<(gP i))) (sX i) ((0≤i.n∧i.n<(gP i))∧∃(a:Int),zF (List.map zQ i.a.queues) i.n.toNat ((0:Nat)+(3:Nat)) 1=some [dI a]∧∃(b:Unit),(i.a.qAt i.n).count=a∧jE i)) (sX i)
def yUk (n:Int):Prop:=
 cnd (n==1) (∃(a:Unit),(decide (n=1)||decide (n=2))=true∧True) (∃(a:Unit),(decide (n=1)||decide (n=2))=(n==2)∧True)
def yRk (i:BkR):Prop:=
 ∃(i_1:ArN),i_1.n=i.r.queue∧AObj.adt Arena 3 zG i_1.a=AObj.adt Arena 3 zG i.b.a∧True∧∀(o:Unit),True→i.r.queue=i.r.queue∧True∧i.r.price=i.r.price∧∃(i_2:ArN),i_2.n=i.r.queue∧AObj.adt Arena 3 zG i_2.a=AObj.adt Arena 3 zG i_1.a∧True∧∀(o:Unit),True→i.r.price=i.r.price∧∃(o:Unit),i.r.price=i.r.price∧(i.b.a.qAt i.r.queue).total=(i_1.a.qAt i_1.n).total∧(i.b.a.qAt i.r.queue).count=(i_2.a.qAt i_2.n).count∧i.b.top1=i.b.top1∧i.b.top2=i.b.top2∧i.b.has1=i.b.has1∧i.b.has2=i.b.has2∧AObj.adt Arena 3 zG i.b.a=AObj.adt Arena 3 zG i_2.a∧List.map zC i.b.buys=List.map zC i.b.buys∧List.map zC i.b.sells=List.map zC i.b.sells∧atE i.b.at_=atE i.b.at_∧iE i.b.spare=iE i.b.spare∧True
def yOn (b:Book):Prop:=
 ∃(i:Int),i=1∧True∧∀(o:Unit),True→cnd (!(decide (i=1)||decide (i=2))) (∃(o:Unit),(b.best b.buys).fst.price=0∧(b.best b.buys).fst.qty=0∧(b.best b.buys).fst.count=0∧(b.best b.buys).snd=false∧b.top1=b.top1∧b.top2=b.top2∧b.has1=b.has1∧b.has2=b.has2∧AObj.adt Arena 3 zG b.a=AObj.adt Arena 3 zG b.a∧List.map zC b.buys=List.map zC b.buys∧List.map zC b.sells=List.map zC b.sells∧atE b.at_=atE b.at_∧iE b.spare=iE b.spare∧True) (cnd ((↑(List.map zC b.buys).length:Int)==0) (∃(o:Unit),(b.best b.buys).fst.price=0∧(b.best b.buys).fst.qty=0∧(b.best b.buys).fst.count=0∧(b.best b.buys).snd=false∧b.top1=b.top1∧b.top2=b.top2∧b.has1=b.has1∧b.has2=b.has2∧AObj.adt Arena 3 zG b.a=AObj.adt Arena 3 zG b.a∧List.map zC b.buys=List.map zC b.buys∧List.map zC b.sells=List.map zC b.sells∧atE b.at_=atE b.at_∧iE b.spare=iE b.spare∧True) (((0:Int)≤(0:Int)∧0<(↑(List.map zC b.buys).length:Int))∧∃(n:Int),∃(n_1:Int),zF (List.map zC b.buys) (Int.toNat 0) 0 2=some [D.v (.int .i64 n),D.v (.int .i64 n_1)]∧∃(i:BkR),i.r.price=n∧i.r.queue=n_1∧i.b.top1=b.top1∧i.b.top2=b.top2∧i.b.has1=b.has1∧i.b.has2=b.has2∧AObj.adt Arena 3 zG i.b.a=AObj.adt Arena 3 zG b.a∧List.map zC i.b.buys=List.map zC b.buys∧List.map zC i.b.sells=List.map zC b.sells∧atE i.b.at_=atE b.at_∧iE i.b.spare=iE b.spare∧(∀(q:cF),q∈i.b.a.queues→(-9223372036854775808)≤q.count∧q.count≤9223372036854775807)∧∀(o:Unit),True→∃(o:Unit),(b.best b.buys).fst.price=i.r.price∧(b.best b.buys).fst.qty=(i.b.a.qAt i.r.queue).total∧(b.best b.buys).fst.count=(i.b.a.qAt i.r.queue).count∧(b.best b.buys).snd=true∧z8 b=z8 i.b∧True))
def yNz (b:Book):Prop:=
 ∃(i:Int),i=2∧True∧∀(o:Unit),True→cnd (!(decide (i=1)||decide (i=2))) (∃(o:Unit),(b.best b.sells).fst.price=0∧(b.best b.sells).fst.qty=0∧(b.best b.sells).fst.count=0∧(b.best b.sells).snd=false∧b.top1=b.top1∧b.top2=b.top2∧b.has1=b.has1∧b.has2=b.has2∧AObj.adt Arena 3 zG b.a=AObj.adt Arena 3 zG b.a∧List.map zC b.buys=List.map zC b.buys∧List.map zC b.sells=List.map zC b.sells∧atE b.at_=atE b.at_∧iE b.spare=iE b.spare∧True) (cnd ((↑(List.map zC b.sells).length:Int)==0) (∃(o:Unit),(b.best b.sells).fst.price=0∧(b.best b.sells).fst.qty=0∧(b.best b.sells).fst.count=0∧(b.best b.sells).snd=false∧b.top1=b.top1∧b.top2=b.top2∧b.has1=b.has1∧b.has2=b.has2∧AObj.adt Arena 3 zG b.a=AObj.adt Arena 3 zG b.a∧List.map zC b.buys=List.map zC b.buys∧List.map zC b.sells=List.map zC b.sells∧atE b.at_=atE b.at_∧iE b.spare=iE b.spare∧True) (((0:Int)≤(0:Int)∧0<(↑(List.map zC b.sells).length:Int))∧∃(n:Int),∃(n_1:Int),zF (List.map zC b.sells) (Int.toNat 0) 0 2=some [D.v (.int .i64 n),D.v (.int .i64 n_1)]∧∃(i:BkR),i.r.price=n∧i.r.queue=n_1∧i.b.top1=b.top1∧i.b.top2=b.top2∧i.b.has1=b.has1∧i.b.has2=b.has2∧AObj.adt Arena 3 zG i.b.a=AObj.adt Arena 3 zG b.a∧List.map zC i.b.buys=List.map zC b.buys∧List.map zC i.b.sells=List.map zC b.sells∧atE i.b.at_=atE b.at_∧iE i.b.spare=iE b.spare∧(∀(q:cF),q∈i.b.a.queues→(-9223372036854775808)≤q.count∧q.count≤9223372036854775807)∧∀(o:Unit),True→∃(o:Unit),(b.best b.sells).fst.price=i.r.price∧(b.best b.sells).fst.qty=(i.b.a.qAt i.r.queue).total∧(b.best b.sells).fst.count=(i.b.a.qAt i.r.queue).count∧(b.best b.sells).snd=true∧z8 b=z8 i.b∧True))
def zEw (a:MSt):Prop:=Sx.AObj.map (yW a.wh)=Sx.AObj.map (yW a.wh)∧AObj.fro 1 (iE a.p.months)=AObj.fro 1 (iE a.p.months)∧AObj.fro 1 (iE a.p.settle)=AObj.fro 1 (iE a.p.settle)
def zDa (a:Nat×Top→Prop) (b:Nat×Top) (c:MSt) (d:Nat) (e:Book):Prop:=a b∧AObj.own 3 1 [[dI 1],[dI 2]]=AObj.own 3 1 [[dI 1],[dI 2]]∧Sx.AObj.cells (vK (jB 0 1 5) [sV c.p.code,V.own 3,zA c.p.tick,zA c.p.low,zA c.p.high,zA c.p.wide,zA c.p.rule,zA c.p.top,zA c.p.least,zA c.p.part,V.own 4,V.own 1,V.mp 2]) (240:TypeId)=Sx.AObj.cells (vK (jB 0 1 5) [sV c.p.code,V.own 3,zA c.p.tick,zA c.p.low,zA c.p.high,zA c.p.wide,zA c.p.rule,zA c.p.top,zA c.p.least,zA c.p.part,V.own 4,V.own 1,V.mp 2]) (240:TypeId)∧AObj.objs 241 Book 6 zS (c.books.set (↑d:Int).toNat e) none=AObj.objs 241 Book 6 zS c.books none∧zEw c
def zKg (a:MSt) (b:Nat×Top) (c:Nat×Top→Prop) (d:Nat) (e:Book):Prop:=∃(f:Nat×Top),List.map zX (xO a f.fst f.snd)=List.map zX (xO a b.fst b.snd)∧zDa c f a d e
def v9 (a:MSt) (b:Nat×Top):=(List.map zX (xO a b.fst b.snd))
def Vtopst363:=((2:Int) ^ IntKind.i64.bits)
def bC (a:MSt) (b:Nat×Top) (c:Nat):=(zH (v9 a b) (↑c:Int).toNat ((0:Nat)+(0:Nat)+(nat_lit 0+nat_lit 1) % Vtopst363.natAbs*1) [D.v (.bool true)])
def zV (a:BkS):=(a.b.best (a.b.side a.side))
def dJ (a:BkS):=((zV a).fst.price)
def dP (a:MSt) (b:Nat×Top) (c:Nat) (d:BkS):=(zH (bC a b c) (↑c:Int).toNat ((0:Nat)+(2:Nat)+(nat_lit 0+nat_lit 1) % Vtopst363.natAbs*1) [dI (dJ d)])
def eM (a:Nat) (b:MSt) (c:Nat×Top) (d:BkS):Prop:=(0≤(↑a:Int)∧(↑a:Int)<(↑(dP b c a d).length:Int))∧(↑a:Int).toNat=(↑a:Int).toNat
def c8 (a:MSt) (b:Nat×Top) (c:Nat):=(zH (v9 a b) (↑c:Int).toNat ((0:Nat)+(0:Nat)+nat_lit 0*1) [D.v (.bool true)])
def dG (a:MSt) (b:Nat×Top) (c:Nat) (d:BkS):=(zH (c8 a b c) (↑c:Int).toNat ((0:Nat)+(2:Nat)+nat_lit 0*1) [dI (dJ d)])
def eF (a:Nat) (b:MSt) (c:Nat×Top) (d:BkS):Prop:=(0≤(↑a:Int)∧(↑a:Int)<(↑(dG b c a d).length:Int))∧(↑a:Int).toNat=(↑a:Int).toNat
def c9 (a:Nat) (b:MSt) (c:Nat×Top):Prop:=(0≤(↑a:Int)∧(↑a:Int)<(↑(bC b c a).length:Int))∧(↑a:Int).toNat=(↑a:Int).toNat
def bH (a:Nat) (b:MSt) (c:Nat×Top):Prop:=(0≤(↑a:Int)∧(↑a:Int)<(↑(c8 b c a).length:Int))∧(↑a:Int).toNat=(↑a:Int).toNat
def eU (a:MSt):Prop:=0≤(↑a.books.length:Int)∧(↑a.books.length:Int)≤(↑a.books.length:Int)∧(↑a.books.length:Int)≤9223372036854775807∧(↑(40:Nat):Int)*(↑a.books.length:Int)≤2 ^ (48:Nat)
def gZ:Prop:=0≤IntKind.i64.wrap ((0:Int)+(1:Int))∧IntKind.i64.wrap ((0:Int)+(1:Int))<(↑(2:Nat):Int)
def wZ (a:BkS):Prop:=∀(b:cF),b∈a.b.a.queues→(-9223372036854775808)≤b.count∧b.count≤9223372036854775807
def qM (a:Nat) (b:MSt) (c:Nat×Top):Prop:=0≤(↑a:Int)∧(↑a:Int)<(↑(v9 b c).length:Int)
def uI (a:BkS):=((zV a).fst.qty)
def yLj (s:MSt):Prop:=
 (eU s)∧∃(a:Nat),(↑a:Int)=0∧List.map zX (xY s a)=List.replicate (↑s.books.length:Int).toNat [D.v (.bool false),D.v (.bool false),dI 0,dI 0,dI 0,dI 0]∧∃(b:Nat→Prop),∃(c:Nat→Nat),b a∧∀(d:Nat),b d→cnd (decide ((↑d:Int)<(↑s.books.length:Int))) ((0≤(↑d:Int)∧(↑d:Int)<(↑s.books.length:Int))∧(↑d:Int).toNat<s.books.length∧∃(e:Nat×Top),List.map zX (xO s e.fst e.snd)=List.map zX (xY s d)∧∃(f:Nat×Top→Prop),(((0:Int)≤(0:Int)∧0<(↑(2:Nat):Int))∧∃(g:Int),zF [[dI 1],[dI 2]] (Int.toNat 0) 0 1=some [dI g]∧∃(h:Book),s.books[(↑d:Int).toNat]?=some h∧∃(j:BkS),zD j.side=g∧z8 j.b=z8 h∧(wZ j)∧∀(k:Unit),True→∃(l:Book),z8 j.b=z8 l∧(↑d:Int).toNat=(↑d:Int).toNat∧(↑d:Int).toNat<s.books.length∧cnd (zV j).snd ((qM d s e)∧(qM d s e)∧(qM d s e)∧(↑d:Int).toNat<(v9 s e).length∧(bH d s e)∧(bH d s e)∧(zV j).fst.qty=(zV j).fst.qty∧(zV j).fst.price=(zV j).fst.price∧(↑d:Int).toNat<(c8 s e d).length∧(eF d s e j)∧(zV j).fst.qty=(zV j).fst.qty∧(↑d:Int).toNat<(dG s e d j).length∧∃(m:Nat×Top),List.map zX (xO s m.fst m.snd)=zH (dG s e d j) (↑d:Int).toNat ((0:Nat)+(4:Nat)+nat_lit 0*1) [dI (uI j)]∧zDa f m s d l) (zKg s e f d l))∧∀(g:Nat×Top),f g→∃(h:Nat×Top),List.map zX (xO s h.fst h.snd)=List.map zX (xO s g.fst g.snd)∧∃(j:Nat×Top→Prop),((gZ)∧∃(k:Int),zF [[dI 1],[dI 2]] (IntKind.i64.wrap ((0:Int)+(1:Int))).toNat 0 1=some [dI k]∧∃(l:Book),s.books[(↑d:Int).toNat]?=some l∧∃(m:BkS),zD m.side=k∧z8 m.b=z8 l∧(wZ m)∧∀(n:Unit),True→∃(p:Book),z8 m.b=z8 p∧(↑d:Int).toNat=(↑d:Int).toNat∧(↑d:Int).toNat<s.books.length∧cnd (zV m).snd ((qM d s h)∧(qM d s h)∧(qM d s h)∧(↑d:Int).toNat<(v9 s h).length∧(c9 d s h)∧(c9 d s h)∧(zV m).fst.qty=(zV m).fst.qty∧(zV m).fst.price=(zV m).fst.price∧(↑d:Int).toNat<(bC s h d).length∧(eM d s h m)∧(zV m).fst.qty=(zV m).fst.qty∧(↑d:Int).toNat<(dP s h d m).length∧∃(q:Nat×Top),List.map zX (xO s q.fst q.snd)=zH (dP s h d m) (↑d:Int).toNat ((0:Nat)+(4:Nat)+(nat_lit 0+nat_lit 1) % Vtopst363.natAbs*1) [dI (uI m)]∧zDa j q s d p) (zKg s h j d p))∧∀(k:Nat×Top),j k→∃(l:Nat),(↑l:Int)=IntKind.i64.wrap ((↑d:Int)+1)∧List.map zX (xY s l)=List.map zX (xO s k.fst k.snd)∧b l∧c l<c d∧Sx.AObj.cells (vK (jB 0 1 5) [sV s.p.code,V.own 3,zA s.p.tick,zA s.p.low,zA s.p.high,zA s.p.wide,zA s.p.rule,zA s.p.top,zA s.p.least,zA s.p.part,V.own 4,V.own 1,V.mp 2]) (240:TypeId)=Sx.AObj.cells (vK (jB 0 1 5) [sV s.p.code,V.own 3,zA s.p.tick,zA s.p.low,zA s.p.high,zA s.p.wide,zA s.p.rule,zA s.p.top,zA s.p.least,zA s.p.part,V.own 4,V.own 1,V.mp 2]) (240:TypeId)∧AObj.objs 241 Book 6 zS s.books none=AObj.objs 241 Book 6 zS s.books none∧zEw s) (∃(e:Unit),sb s.p.code=sb s.p.code∧s.p.tick=s.p.tick∧s.p.low=s.p.low∧s.p.high=s.p.high∧s.p.wide=s.p.wide∧s.p.rule=s.p.rule∧s.p.top=s.p.top∧s.p.least=s.p.least∧s.p.part=s.p.part∧AObj.objs 241 Book 6 zS s.books none=AObj.objs 241 Book 6 zS s.books none∧yW s.wh=yW s.wh∧AObj.fro 1 (iE s.p.months)=AObj.fro 1 (iE s.p.months)∧AObj.fro 1 (iE s.p.settle)=AObj.fro 1 (iE s.p.settle)∧List.map zX s.tops=List.map zX (xY s d)∧True)
def yPw (s:MSt):Prop:=
 ∃(i:List (Value×List D)),i=yW s.wh∧True∧∀(o:Unit),True→(sb s.p.code=sb s.p.code∧True∧s.p.tick=s.p.tick∧s.p.low=s.p.low∧s.p.high=s.p.high∧s.p.wide=s.p.wide∧s.p.rule=s.p.rule∧s.p.top=s.p.top∧s.p.least=s.p.least∧s.p.part=s.p.part∧True∧True)∧∃(i0:Nat),(↑i0:Int)=0∧sb s.p.code=sb s.p.code∧s.p.tick=s.p.tick∧s.p.low=s.p.low∧s.p.high=s.p.high∧s.p.wide=s.p.wide∧s.p.rule=s.p.rule∧s.p.top=s.p.top∧s.p.least=s.p.least∧s.p.part=s.p.part∧List.take i0 s.books=[]∧(none:Option Nat)=none∧yW s.wh=i∧AObj.fro 1 (iE s.p.months)=AObj.fro 1 (iE s.p.months)∧AObj.fro 1 (iE s.p.settle)=AObj.fro 1 (iE s.p.settle)∧∃(I:Nat→Prop),∃(μ:Nat→Nat),I i0∧∀(i_1:Nat),I i_1→cnd (decide ((↑i_1:Int)<(↑s.books.length:Int))) ((0≤(↑i_1:Int)∧(↑i_1:Int)<(↑s.books.length:Int))∧(↑i_1:Int).toNat<s.books.length∧∃(x:Book),s.books[(↑i_1:Int).toNat]?=some x∧∃(i_2:Book),z8 i_2=z8 x∧((i_2.a.slots.length≤1000000∧i_2.a.queues.length≤1000000)∧i_2.buys.length≤1000000∧i_2.sells.length≤1000000∧i_2.spare.length≤1000000)∧∀(o:Unit),True→∃(x:Book),z8 i_2=z8 x∧(↑i_1:Int).toNat=(↑i_1:Int).toNat∧(↑i_1:Int).toNat<s.books.length∧True∧True∧∃(l1':List Book),AObj.objs 241 Book 6 zS (List.take i_1 s.books) none=AObj.objs 241 Book 6 zS l1' none∧(l1'.length+1)*(8:Nat)≤(140737488355328:Nat)∧∃(i':Nat),(↑i':Int)=IntKind.i64.wrap ((↑i_1:Int)+1)∧sb s.p.code=sb s.p.code∧s.p.tick=s.p.tick∧s.p.low=s.p.low∧s.p.high=s.p.high∧s.p.wide=s.p.wide∧s.p.rule=s.p.rule∧s.p.top=s.p.top∧s.p.least=s.p.least∧s.p.part=s.p.part∧AObj.objs 241 Book 6 zS (List.take i' s.books) none=AObj.objs 241 Book 6 zS (l1'++[i_2]) none∧yW s.wh=yW s.wh∧AObj.fro 1 (iE s.p.months)=AObj.fro 1 (iE s.p.months)∧AObj.fro 1 (iE s.p.settle)=AObj.fro 1 (iE s.p.settle)∧I i'∧μ i'<μ i_1∧Sx.AObj.map i=Sx.AObj.map i∧Sx.AObj.cells (vK (jB 0 1 5) [sV s.p.code,V.own 3,zA s.p.tick,zA s.p.low,zA s.p.high,zA s.p.wide,zA s.p.rule,zA s.p.top,zA s.p.least,zA s.p.part,V.own 4,V.own 1,V.mp 2]) (240:TypeId)=Sx.AObj.cells (vK (jB 0 1 5) [sV s.p.code,V.own 3,zA s.p.tick,zA s.p.low,zA s.p.high,zA s.p.wide,zA s.p.rule,zA s.p.top,zA s.p.least,zA s.p.part,V.own 4,V.own 1,V.mp 2]) (240:TypeId)∧AObj.objs 241 Book 6 zS (s.books.set (↑i_1:Int).toNat x) none=AObj.objs 241 Book 6 zS s.books none∧AObj.fro 1 (iE s.p.months)=AObj.fro 1 (iE s.p.months)∧AObj.fro 1 (iE s.p.settle)=AObj.fro 1 (iE s.p.settle)) (∃(o:Unit),sb s.p.code=sb s.p.code∧s.p.tick=s.p.tick∧s.p.low=s.p.low∧s.p.high=s.p.high∧s.p.wide=s.p.wide∧s.p.rule=s.p.rule∧s.p.top=s.p.top∧s.p.least=s.p.least∧s.p.part=s.p.part∧AObj.objs 241 Book 6 zS s.books none=AObj.objs 241 Book 6 zS s.books none∧yW s.wh=i∧AObj.fro 1 (iE s.p.months)=AObj.fro 1 (iE s.p.months)∧AObj.fro 1 (iE s.p.settle)=AObj.fro 1 (iE s.p.settle)∧sb s.p.code=sb s.p.code∧s.p.tick=s.p.tick∧s.p.low=s.p.low∧s.p.high=s.p.high∧s.p.wide=s.p.wide∧s.p.rule=s.p.rule∧s.p.top=s.p.top∧s.p.least=s.p.least∧s.p.part=s.p.part∧AObj.objs 241 Book 6 zS s.books none=AObj.objs 241 Book 6 zS (List.take i_1 s.books) none∧yW s.wh=yW s.wh∧AObj.fro 1 (iE s.p.months)=AObj.fro 1 (iE s.p.months)∧AObj.fro 1 (iE s.p.settle)=AObj.fro 1 (iE s.p.settle)∧True)
open Go Cv Go.Proofs
theorem elA {α:Type} {f:α→List D} {l:List α} {i g n:Nat} {x:α} {r:List D} (h:l[i]? =some x) (hn:g+n≤(f x).length) (hr:((f x).drop g).take n=r):zF (l.map f) i g n=some r:=by
 unfold zF
 rw[yXj,h]
 simp only[yYl,Nat.ble_eq_true_of_le hn,cond_true,hr]
theorem zUc {a:Arena} {n:Int} {q:cF} (h0:0≤n) (h:a.queues[n.toNat]? =some q):a.qAt n=q:=by
 have:=(yWn.1 h).1
 rw[Arena.qAt,yWl ⟨h0,by omega⟩,yWt,h];rfl
theorem zIv {a:Arena} {n:Int} (h:¬(0≤n∧n<a.queues.length)):a.qAt n=⟨0,0,0,0⟩:=by rw[Arena.qAt,yWk h]
theorem zFp:atotalC.ok Tryz.prog 228:=okw (V:=z3b) mixed gok0 1 (fun _=>[]) (fun _=>[]) [0] Tryz.func228 fun(i:ArN) _=>by
 unfold z3b gP sZ jE dI
 simp only[yWm]
 refine zK (fun c=>Cv.cnd.mk (fun d=> ?_) (fun d=> ?_)) (fun c=> ?_)
 ·have d:¬i.n<(i.a.queues.length:Int):=by simpa using d
  rw[zIv (by omega)];exact kp
 ·have d:i.n<(i.a.queues.length:Int):=by simpa using d
  obtain⟨q,hq⟩:=z6 (l:=i.a.queues) (i:=i.n.toNat) (by omega)
  rw[zUc (by omega) hq]
  refine⟨⟨by omega,by omega⟩,q.total,elA hq (by simp[zQ]) rfl,?_⟩;exact kp
 ·rw[zIv (by omega)];exact kp
theorem mO:acountC.ok Tryz.prog 229:=okw (V:=z2b) mixed gok0 1 (fun _=>[]) (fun _=>[]) [0] Tryz.func229 fun(i:ArN) _=>by
 unfold z2b gP sX jE dI
 simp only[yWm]
 refine zK (fun c=>Cv.cnd.mk (fun d=> ?_) (fun d=> ?_)) (fun c=> ?_)
 ·have d:¬i.n<(i.a.queues.length:Int):=by simpa using d
  rw[zIv (by omega)];exact kp
 ·have d:i.n<(i.a.queues.length:Int):=by simpa using d
  obtain⟨q,hq⟩:=z6 (l:=i.a.queues) (i:=i.n.toNat) (by omega)
  rw[zUc (by omega) hq]
  refine⟨⟨by omega,by omega⟩,q.count,elA hq (by simp[zQ]) rfl,?_⟩;exact kp
 ·rw[zIv (by omega)];exact kp
theorem tJ:bisC.ok Tryz.prog 193:=okw (V:=yUk) mixed gok0 0 (fun _=>[]) (fun _=>[]) [] Tryz.func193 fun(n:Int) _=>by
 unfold yUk
 refine Cv.cnd.mk (fun c=>⟨(),?_,trivial⟩) (fun c=>⟨(),?_,trivial⟩)
 all_goals simp at c
 ·simp[c]
 ·by_cases h:n=2<;>simp[c,h]
theorem z5m:toldC.ok Tryz.prog 194:=okw (V:=yRk) mixed (gokc zFp (gokc mO gok0)) 0 (fun _=>[]) (fun _=>[]) [0] Tryz.func194 fun(i:BkR) h=>by
 refine⟨⟨i.b.a,i.r.queue⟩,?_⟩;(repeat'(first|exact rfl|exact trivial|assumption|apply And.intro|refine fun(_:Unit) (_:True)=>?_|refine Exists.intro () ?_|omega|(dsimp only;omega)))
 refine⟨⟨i.b.a,i.r.queue⟩,?_⟩;exact kp
theorem yEl:best1C.ok Tryz.prog 156:=okw (V:=yOn) mixed (gokc tJ (gokc z5m gok0)) 0 (fun _=>[]) (fun _=>[]) [0] Tryz.func156 fun(b:Book) h=>by
 have h:b.cntOk:=h
 refine⟨1,rfl,trivial,fun _ _=>Cv.cnd.mk (fun c=>absurd c (by decide)) fun _=> ?_⟩
 simp only[yWm]
 refine Cv.cnd.mk (fun c=> ?_) (fun c=> ?_)
 ·have hl:b.buys=[]:=yXn (by have:(b.buys.length:Int)=0:=(by simpa using c);omega)
  have e:b.best b.buys=(⟨0,0,0⟩,false):=by rw[hl];rfl
  rw[e];exact kp
 ·obtain⟨r,l,hl⟩:∃r l,b.buys=r::l:=by
   cases hb:b.buys with
   |nil=>rw[hb]at c;exact absurd c (by decide)
   |cons r l=>exact⟨r,l,rfl⟩
  have e:b.best b.buys=(b.told r,true):=by rw[hl];rfl
  rw[e]
  refine⟨⟨by omega,by rw[hl,yWs];omega⟩,r.price,r.queue,elA (x:=r) (by rw[hl];rfl) (by simp[zC]) rfl,⟨b,r⟩,?_⟩
  exact kp
theorem yAg:best2C.ok Tryz.prog 156:=okw (V:=yNz) mixed (gokc tJ (gokc z5m gok0)) 0 (fun _=>[]) (fun _=>[]) [0] Tryz.func156 fun(b:Book) h=>by
 have h:b.cntOk:=h
 refine⟨2,rfl,trivial,fun _ _=>Cv.cnd.mk (fun c=>absurd c (by decide)) fun _=> ?_⟩
 simp only[yWm]
 refine Cv.cnd.mk (fun c=> ?_) (fun c=> ?_)
 ·have hl:b.sells=[]:=yXn (by have:(b.sells.length:Int)=0:=(by simpa using c);omega)
  have e:b.best b.sells=(⟨0,0,0⟩,false):=by rw[hl];rfl
  rw[e];exact kp
 ·obtain⟨r,l,hl⟩:∃r l,b.sells=r::l:=by
   cases hb:b.sells with
   |nil=>rw[hb]at c;exact absurd c (by decide)
   |cons r l=>exact⟨r,l,rfl⟩
  have e:b.best b.sells=(b.told r,true):=by rw[hl];rfl
  rw[e]
  refine⟨⟨by omega,by rw[hl,yWs];omega⟩,r.price,r.queue,elA (x:=r) (by rw[hl];rfl) (by simp[zC]) rfl,⟨b,r⟩,?_⟩
  exact kp
theorem zIr:bestC.ok Tryz.prog 156:=fun i=>match i with
 |⟨false,b⟩=>yEl b
 |⟨true,b⟩=>yAg b
theorem zMv {α:Type} (f:α→α) (x:α) (b:List α):∀a:List α,(a++x::b).modify a.length f=a++f x::b
 |[]=>rfl
 |y::a=>by
  show y::(a++x::b).modify a.length f=_
  rw[zMv f x b a];rfl
theorem zQa {els:List (List D)} {a b:List (List D)} {x y ds:List D} {j f:Nat} (h:els=a++x::b) (hl:a.length=j) (hy:x.take f++(ds++x.drop (f+ds.length))=y):zH els j f ds=a++y::b:=by
 rw[zH,h,← hl,zMv,hy]
theorem qT {s:MSt} {j:Nat} {x y:Top} {f:Nat} {ds:List D} (hj:j<s.books.length) (hy:(zX x).take f++(ds++(zX x).drop (f+ds.length))=zX y):
 zH (List.map zX (xO s j x)) j f ds=List.map zX (xO s j y):=by
 rw[zQa (a:=(s.tops.take j).map zX) (b:=(List.replicate (s.books.length-j-1) top0).map zX) (by rw[xO,yWw,yWy]) (by
  rw[yWm,yXg,MSt.tops,yWm];omega) hy,xO,yWw,yWy]
theorem zLc {s:MSt} {j:Nat} {x:Top} (hj:j<s.books.length):(xO s j x).length=s.books.length:=by
 rw[xO,yWp,yWs,yXg,MSt.tops,yWm,yZt];omega
theorem zHl {s:MSt} {j:Nat} (hj:j<s.books.length):xO s j top0=xY s j:=by
 rw[xO,xY]
 obtain⟨m,hm⟩:∃m,s.books.length-j=m+1:=⟨s.books.length-j-1,by omega⟩
 rw[hm,y0z];rfl
theorem zHb {s:MSt} {j:Nat} {b:Book} (hb:s.books[j]? =some b):xO s j b.top=xY s (j+1):=by
 have hj:=(yWn.1 hb).1
 rw[xO,xY,yXw,show s.tops[j]? =some b.top by rw[MSt.tops,yXj,hb];rfl]
 simp only[yZx,yWv,yYh,yYt]
 rw[show s.books.length-j-1=s.books.length-(j+1)by omega]
theorem fJ {α:Type} {l:List α} {j:Nat} {x:α} (h:l[j]? =some x):l.set j x=l:=by
 obtain⟨hj,rfl⟩:=yWn.1 h
 exact List.set_getElem_self hj
theorem ySh (s:MSt) (h:topsC.cnd s):yLj s:=by
 obtain⟨h1,h2⟩:s.cntOk:=h
 unfold yLj zKg zDa uI qM wZ gZ zEw eU bH c9 eF dG c8 eM dP dJ zV bC Vtopst363 v9 dI
 have p48:(2:Int) ^ (48:Nat)=281474976710656:=by decide
 refine⟨⟨by omega,by omega,by omega,by rw[p48];omega⟩,0,rfl,?_,fun j=>j≤s.books.length,fun j=>s.books.length-j,by omega,fun j hj=>zK (fun hlt=> ?_) (fun hlt=> ?_)⟩
 ·rw[xY,yWw,List.map_replicate];rfl
 ·have hj':j<s.books.length:=by omega
  obtain⟨b,hb⟩:=z6 hj'
  have hc:=h2 b (yWu hb)
  simp only[yXf]
  have ha:∀x,(List.map zX (xO s j x)).length=s.books.length:=fun x=>by rw[yWm,zLc hj']
  have w1:IntKind.i64.wrap (0+1)=1:=by decide
  have w2:(0+1) % ((2:Int) ^ IntKind.i64.bits).natAbs=1:=by decide
  refine⟨⟨by omega,by omega⟩,by omega,(j,top0),by rw[zHl hj'],fun x=>x=(j,top0.buy (b.best b.buys)),⟨⟨by decide,by decide⟩,1,rfl,b,hb,⟨false,b⟩,rfl,rfl,hc,fun _ _=>⟨b,rfl,kp,by omega,?_⟩⟩,?_⟩
  ·refine Cv.cnd.mk (fun c=> ?_) (fun c=> ?_)
   ·have c:(b.best b.buys).2=true:=c
    have e1:=qT (s:=s) hj' (x:=top0) (y:={top0 with has1:=true}) (f:=0+0+0*1) (ds:=[D.v (.bool true)]) rfl
    have e2:=qT (s:=s) hj' (x:={top0 with has1:=true}) (y:={top0 with has1:=true,p1:=(b.best b.buys).1.price}) (f:=0+2+0*1) (ds:=[D.v (.int .i64 (b.best b.buys).1.price)]) rfl
    have e3:=qT (s:=s) hj' (x:={top0 with has1:=true,p1:=(b.best b.buys).1.price}) (y:={top0 with has1:=true,p1:=(b.best b.buys).1.price,q1:=(b.best b.buys).1.qty}) (f:=0+4+0*1) (ds:=[D.v (.int .i64 (b.best b.buys).1.qty)]) rfl
    dsimp only
    simp only[show b.side false=b.buys from rfl,e1,e2,e3,ha]
    (repeat'(first|exact rfl|exact trivial|assumption|apply And.intro|refine fun(_:Unit) (_:True)=>?_|refine Exists.intro () ?_|omega|(dsimp only;omega)))
    refine⟨(j,{top0 with has1:=true,p1:=(b.best b.buys).1.price,q1:=(b.best b.buys).1.qty}),rfl,?_,?_⟩
    ·rw[Top.buy,yWl c]
    ·(repeat'(first|exact rfl|exact trivial|assumption|apply And.intro|refine fun(_:Unit) (_:True)=>?_|refine Exists.intro () ?_|omega|(dsimp only;omega)))
     rw[fJ hb]
   ·have c:(b.best b.buys).2=false:=c
    refine⟨(j,top0),rfl,?_,?_⟩
    ·rw[Top.buy,yWk (by rw[c];simp)]
    ·(repeat'(first|exact rfl|exact trivial|assumption|apply And.intro|refine fun(_:Unit) (_:True)=>?_|refine Exists.intro () ?_|omega|(dsimp only;omega)))
     rw[fJ hb]
  ·rintro _ rfl
   rw[w1]
   generalize hx:top0.buy (b.best b.buys)=x
   have hx2:b.top=x.sell (b.best b.sells):=by rw[Book.top,hx]
   refine⟨(j,x),rfl,fun y=>y=(j,b.top),⟨⟨by decide,by decide⟩,2,rfl,b,hb,⟨true,b⟩,rfl,rfl,hc,fun _ _=>⟨b,rfl,kp,by omega,?_⟩⟩,?_⟩
   ·refine Cv.cnd.mk (fun c=> ?_) (fun c=> ?_)
    ·have c:(b.best b.sells).2=true:=c
     have e1:=qT (s:=s) hj' (x:=x) (y:={x with has2:=true}) (f:=0+0+1*1) (ds:=[D.v (.bool true)]) rfl
     have e2:=qT (s:=s) hj' (x:={x with has2:=true}) (y:={x with has2:=true,p2:=(b.best b.sells).1.price}) (f:=0+2+1*1) (ds:=[D.v (.int .i64 (b.best b.sells).1.price)]) rfl
     have e3:=qT (s:=s) hj' (x:={x with has2:=true,p2:=(b.best b.sells).1.price}) (y:={x with has2:=true,p2:=(b.best b.sells).1.price,q2:=(b.best b.sells).1.qty}) (f:=0+4+1*1) (ds:=[D.v (.int .i64 (b.best b.sells).1.qty)]) rfl
     dsimp only
     simp only[w2,show b.side true=b.sells from rfl,e1,e2,e3,ha]
     (repeat'(first|exact rfl|exact trivial|assumption|apply And.intro|refine fun(_:Unit) (_:True)=>?_|refine Exists.intro () ?_|omega|(dsimp only;omega)))
     refine⟨(j,{x with has2:=true,p2:=(b.best b.sells).1.price,q2:=(b.best b.sells).1.qty}),rfl,?_,?_⟩
     ·rw[hx2,Top.sell,yWl c]
     ·(repeat'(first|exact rfl|exact trivial|assumption|apply And.intro|refine fun(_:Unit) (_:True)=>?_|refine Exists.intro () ?_|omega|(dsimp only;omega)))
      rw[fJ hb]
    ·have c:(b.best b.sells).2=false:=c
     refine⟨(j,x),rfl,?_,?_⟩
     ·rw[hx2,Top.sell,yWk (by rw[c];simp)]
     ·(repeat'(first|exact rfl|exact trivial|assumption|apply And.intro|refine fun(_:Unit) (_:True)=>?_|refine Exists.intro () ?_|omega|(dsimp only;omega)))
      rw[fJ hb]
   ·rintro _ rfl
    refine⟨j+1,by rw[w64 (by omega)];rfl,?_⟩
    refine⟨by dsimp only;rw[zHb hb],?_⟩
    exact kp
 ·have hj:j≤s.books.length:=hj
  obtain rfl:j=s.books.length:=by omega
  have e:xY s s.books.length=s.tops:=by
   rw[xY,y2d,List.replicate_zero,yXi,yXc (by rw[MSt.tops,yWm];omega)]
  rw[e]
  exact kp
theorem yHx:topsC.ok Tryz.prog 105:=okw mixed (gokc zIr gok0) 0 (fun s=>yKw s) (fun s=>yLv s) [0] Tryz.func105 ySh
theorem zCc:copySC.ok Tryz.prog 110:=okw (V:=yPw) mixed (gokc yIt (gokc yBf gok0)) 0 (fun _=>[]) (fun s=>yMi s) [0] Tryz.func110 fun(s:MSt) h=>by
 obtain⟨h1,h2⟩:s.small:=h
 refine⟨yW s.wh,?_⟩;(repeat'(first|exact rfl|exact trivial|assumption|apply And.intro|refine fun(_:Unit) (_:True)=>?_|refine Exists.intro () ?_|omega|(dsimp only;omega)))
 refine⟨0,?_⟩;(repeat'(first|exact rfl|exact trivial|assumption|apply And.intro|refine fun(_:Unit) (_:True)=>?_|refine Exists.intro () ?_|omega|(dsimp only;omega)))
 refine⟨fun j=>j≤s.books.length,fun j=>s.books.length-j,by omega,fun j hj=>zK (fun hlt=> ?_) (fun hlt=> ?_)⟩
 ·obtain⟨b,hb⟩:=z6 (l:=s.books) (i:=j) (by omega)
  have hs:=h2 b (yWu hb)
  simp only[yXf]
  refine⟨⟨by omega,by omega⟩,by omega,b,hb,b,rfl,hs,fun _ _=>⟨b,rfl,kp,by omega,trivial,trivial,s.books.take j,rfl,?_,j+1,?_⟩⟩
  ·rw[yXg];omega
  ·rw[w64 (by omega),yXw,hb]
   (repeat'(first|exact rfl|exact trivial|assumption|apply And.intro|refine fun(_:Unit) (_:True)=>?_|refine Exists.intro () ?_|omega|(dsimp only;omega)))
   rw[fJ hb]
 ·have hj:j≤s.books.length:=hj
  obtain rfl:j=s.books.length:=by omega
  rw[yXc (yXs _)]
  exact kp
open Go Cv Go.Proofs
structure Leg where
 inst:Int
 side:Int
 deriving DecidableEq
structure Quote where
 price:Int
 qty:Int
 a:Leg
 b:Leg
 deriving DecidableEq
def zL (q:Quote):List D:=[.v (.int .i64 q.price),.v (.int .i64 q.qty),.v (.int .i64 q.a.inst),.v (.int .i64 q.a.side),.v (.int .i64 q.b.inst),.v (.int .i64 q.b.side)]
@[reducible] def zRw (q:Quote):V:= .agg [zA q.price,zA q.qty,zA q.a.inst,zA q.a.side,zA q.b.inst,zA q.b.side]
def yRj:Quote:=⟨0,0,⟨0,0⟩,⟨0,0⟩⟩
structure I3' where
 side:Int
 x:Int
 y:Int
def btr (side x y:Int):Bool:=if side=1 then decide (y<x)else decide (x<y)
def iotherC:Con:=con1 Int (fun n=>[zA n]) (fun _=>[]) (fun n=>n=1∨n=2) (fun n=>zA (3-n)) (fun _=>[])
def ibetterC:Con:=con1 I3' (fun i=>[zA i.side,zA i.x,zA i.y]) (fun _=>[]) (fun _=>True) (fun i=>yG (btr i.side i.x i.y)) (fun _=>[])
def Top.has (t:Top) (s:Int):Bool:=if s=1 then t.has1 else t.has2
def Top.price (t:Top) (s:Int):Int:=if s=1 then t.p1 else t.p2
def Top.qty (t:Top) (s:Int):Int:=if s=1 then t.q1 else t.q2
def mkq (tops:List Top) (a b:Leg) (less:Bool):List Quote:=
 let x:=tops.getD a.inst.toNat top0
 let y:=tops.getD b.inst.toNat top0
 let r:=if less then uT (y.price b.side) (x.price a.side)else uY (x.price a.side) (y.price b.side)
 if x.has a.side && y.has b.side && r.2 then[⟨r.1,min (x.qty a.side) (y.qty b.side),a,b⟩]else[]
structure MkI where
 tops:List Top
 out:List Quote
 a:Int
 b:Int
 less:Bool
@[reducible] def vE (l:List Top):Prop:=l.length≤1000000∧∀t∈l,yV t.p1∧yV t.p2
def MkU (x:List Top×List Quote):Nat→AObj
 |0=> .cells [.own 1,.own 2] 307
 |1=> .fro 6 (x.1.map zX)
 |2=> .own 259 6 (x.2.map zL)
 |_=> .gone
@[reducible] def MkR (tops:List Top) (out:List Quote):List AObj:=[MkU (tops,out) 0,MkU (tops,out) 1,MkU (tops,out) 2]
@[reducible] def MkP (tops:List Top) (out:List Quote):List AObj:=[.cells [.own 1,.own 3] 307,MkU (tops,out) 1,.gone,MkU (tops,out) 2]
def mkC (sa sb:Int):Con:=con1 MkI (fun i=>[.nm 0 0,.agg [zA i.a,zA sa],.agg [zA i.b,zA sb],yG i.less]) (fun i=>MkR i.tops i.out)
 (fun i=>0≤i.a∧i.a<i.tops.length∧0≤i.b∧i.b<i.tops.length∧vE i.tops∧i.out.length≤1000) (fun _=>zLs) (fun i=>MkP i.tops (i.out++mkq i.tops ⟨i.a,sa⟩ ⟨i.b,sb⟩ i.less))
def mk11:Con:=mkC 1 1
def mk12:Con:=mkC 1 2
def mk21:Con:=mkC 2 1
def mk22:Con:=mkC 2 2
open Go Cv Go.Proofs
def yHh (n:Int):Prop:=
 ∃(o:Unit),3-n=IntKind.i64.wrap (3-n)∧True
def yAf (i:I3'):Prop:=
 cnd (i.side==1) (∃(o:Unit),btr i.side i.x i.y=decide (i.x>i.y)∧True) (∃(o:Unit),btr i.side i.x i.y=decide (i.x<i.y)∧True)
def lF (a:MkI):=(a.out++mkq a.tops (Leg.mk a.a 1) (Leg.mk a.b 1) a.less)
def nD (a:MkI):Prop:=∃(b:Unit),AObj.fro 6 (List.map zX a.tops)=MkU (a.tops,a.out) 1∧List.map zL (lF a)=List.map zL a.out∧True
def kX (a:I2):Prop:=((-9223372036854775808)≤a.x∧a.x≤9223372036854775807)∧(-9223372036854775808)≤a.y∧a.y≤9223372036854775807
def qO (a:MkI):=(↑(List.map zX a.tops).length:Int)
def xZ (a:MkI):Prop:=(0≤a.b∧a.b<(qO a))∧a.b.toNat=a.b.toNat
def kT (a:MkI):Prop:=(0≤a.a∧a.a<(qO a))∧a.a.toNat=a.a.toNat
def kV (a:MkI):=((List.map zL a.out).length+1)
def zJe (a:MkI) (b:Bool) (c:Bool) (d:Int) (e:Int) (f:Int) (g:Int):Prop:=True∧(xZ a)∧a.b=a.b∧True∧True∧(kT a)∧a.a=a.a∧True∧True∧(xZ a)∧a.b=a.b∧True∧True∧(kT a)∧a.a=a.a∧True∧True∧(xZ a)∧a.b=a.b∧True∧cnd (!b) (nD a) (cnd (!c) (nD a) (∃(h:I2),h.x=d∧h.y=e∧(kX h)∧∀(j:Unit),True→cnd a.less (∃(k:I2),k.x=e∧k.y=d∧(kX k)∧∀(l:Unit),True→cnd (uT k.x k.y).snd (True∧(kV a)*(48:Nat)≤(140737488355328:Nat)∧∃(m:Unit),AObj.fro 6 (List.map zX a.tops)=MkU (a.tops,a.out) 1∧List.map zL (lF a)=List.map zL a.out++[[dI ((uT k.x k.y).fst),dI (min f g),dI a.a,dI 1,dI a.b,dI 1]]∧True) (nD a)) (cnd (uY h.x h.y).snd (True∧(kV a)*(48:Nat)≤(140737488355328:Nat)∧∃(k:Unit),AObj.fro 6 (List.map zX a.tops)=MkU (a.tops,a.out) 1∧List.map zL (lF a)=List.map zL a.out++[[dI ((uY h.x h.y).fst),dI (min f g),dI a.a,dI 1,dI a.b,dI 1]]∧True) (nD a))))
def yLs (i:MkI):Prop:=
 (0≤i.a∧i.a<(qO i))∧∃(a:Bool),∃(b:Bool),∃(c:Int),∃(d:Int),∃(e:Int),∃(f:Int),zF (List.map zX i.tops) i.a.toNat 0 6=some [D.v (.bool a),D.v (.bool b),dI c,dI d,dI e,dI f]∧(0≤i.b∧i.b<(qO i))∧∃(g:Bool),∃(h:Bool),∃(j:Int),∃(k:Int),∃(l:Int),∃(m:Int),zF (List.map zX i.tops) i.b.toNat 0 6=some [D.v (.bool g),D.v (.bool h),dI j,dI k,dI l,dI m]∧(zJe i a g c j e l)∧zJe i a g c j e l
def tW (a:MkI):=(a.out++mkq a.tops (Leg.mk a.a 1) (Leg.mk a.b 2) a.less)
def nE (a:MkI):Prop:=∃(b:Unit),AObj.fro 6 (List.map zX a.tops)=MkU (a.tops,a.out) 1∧List.map zL (tW a)=List.map zL a.out∧True
def zKr (a:MkI) (b:Bool) (c:Bool) (d:Int) (e:Int) (f:Int) (g:Int):Prop:=True∧(xZ a)∧a.b=a.b∧True∧True∧(kT a)∧a.a=a.a∧True∧True∧(xZ a)∧a.b=a.b∧True∧True∧(kT a)∧a.a=a.a∧True∧True∧(xZ a)∧a.b=a.b∧True∧cnd (!b) (nE a) (cnd (!c) (nE a) (∃(h:I2),h.x=d∧h.y=e∧(kX h)∧∀(j:Unit),True→cnd a.less (∃(k:I2),k.x=e∧k.y=d∧(kX k)∧∀(l:Unit),True→cnd (uT k.x k.y).snd (True∧(kV a)*(48:Nat)≤(140737488355328:Nat)∧∃(m:Unit),AObj.fro 6 (List.map zX a.tops)=MkU (a.tops,a.out) 1∧List.map zL (tW a)=List.map zL a.out++[[dI ((uT k.x k.y).fst),dI (min f g),dI a.a,dI 1,dI a.b,dI 2]]∧True) (nE a)) (cnd (uY h.x h.y).snd (True∧(kV a)*(48:Nat)≤(140737488355328:Nat)∧∃(k:Unit),AObj.fro 6 (List.map zX a.tops)=MkU (a.tops,a.out) 1∧List.map zL (tW a)=List.map zL a.out++[[dI ((uY h.x h.y).fst),dI (min f g),dI a.a,dI 1,dI a.b,dI 2]]∧True) (nE a))))
def yLi (i:MkI):Prop:=
 (0≤i.a∧i.a<(qO i))∧∃(a:Bool),∃(b:Bool),∃(c:Int),∃(d:Int),∃(e:Int),∃(f:Int),zF (List.map zX i.tops) i.a.toNat 0 6=some [D.v (.bool a),D.v (.bool b),dI c,dI d,dI e,dI f]∧(0≤i.b∧i.b<(qO i))∧∃(g:Bool),∃(h:Bool),∃(j:Int),∃(k:Int),∃(l:Int),∃(m:Int),zF (List.map zX i.tops) i.b.toNat 0 6=some [D.v (.bool g),D.v (.bool h),dI j,dI k,dI l,dI m]∧(zKr i a h c k e m)∧zKr i a h c k e m
def lM (a:MkI):=(a.out++mkq a.tops (Leg.mk a.a 2) (Leg.mk a.b 1) a.less)
def mI (a:MkI):Prop:=∃(b:Unit),AObj.fro 6 (List.map zX a.tops)=MkU (a.tops,a.out) 1∧List.map zL (lM a)=List.map zL a.out∧True
def zJx (a:MkI) (b:Bool) (c:Bool) (d:Int) (e:Int) (f:Int) (g:Int):Prop:=True∧(xZ a)∧a.b=a.b∧True∧True∧(kT a)∧a.a=a.a∧True∧True∧(xZ a)∧a.b=a.b∧True∧True∧(kT a)∧a.a=a.a∧True∧True∧(xZ a)∧a.b=a.b∧True∧cnd (!b) (mI a) (cnd (!c) (mI a) (∃(h:I2),h.x=d∧h.y=e∧(kX h)∧∀(j:Unit),True→cnd a.less (∃(k:I2),k.x=e∧k.y=d∧(kX k)∧∀(l:Unit),True→cnd (uT k.x k.y).snd (True∧(kV a)*(48:Nat)≤(140737488355328:Nat)∧∃(m:Unit),AObj.fro 6 (List.map zX a.tops)=MkU (a.tops,a.out) 1∧List.map zL (lM a)=List.map zL a.out++[[dI ((uT k.x k.y).fst),dI (min f g),dI a.a,dI 2,dI a.b,dI 1]]∧True) (mI a)) (cnd (uY h.x h.y).snd (True∧(kV a)*(48:Nat)≤(140737488355328:Nat)∧∃(k:Unit),AObj.fro 6 (List.map zX a.tops)=MkU (a.tops,a.out) 1∧List.map zL (lM a)=List.map zL a.out++[[dI ((uY h.x h.y).fst),dI (min f g),dI a.a,dI 2,dI a.b,dI 1]]∧True) (mI a))))
def yLb (i:MkI):Prop:=
 (0≤i.a∧i.a<(qO i))∧∃(a:Bool),∃(b:Bool),∃(c:Int),∃(d:Int),∃(e:Int),∃(f:Int),zF (List.map zX i.tops) i.a.toNat 0 6=some [D.v (.bool a),D.v (.bool b),dI c,dI d,dI e,dI f]∧(0≤i.b∧i.b<(qO i))∧∃(g:Bool),∃(h:Bool),∃(j:Int),∃(k:Int),∃(l:Int),∃(m:Int),zF (List.map zX i.tops) i.b.toNat 0 6=some [D.v (.bool g),D.v (.bool h),dI j,dI k,dI l,dI m]∧(zJx i b g d j f l)∧zJx i b g d j f l
def tY (a:MkI):=(a.out++mkq a.tops (Leg.mk a.a 2) (Leg.mk a.b 2) a.less)
def mM (a:MkI):Prop:=∃(b:Unit),AObj.fro 6 (List.map zX a.tops)=MkU (a.tops,a.out) 1∧List.map zL (tY a)=List.map zL a.out∧True
def zMz (a:MkI) (b:Bool) (c:Bool) (d:Int) (e:Int) (f:Int) (g:Int):Prop:=True∧(xZ a)∧a.b=a.b∧True∧True∧(kT a)∧a.a=a.a∧True∧True∧(xZ a)∧a.b=a.b∧True∧True∧(kT a)∧a.a=a.a∧True∧True∧(xZ a)∧a.b=a.b∧True∧cnd (!b) (mM a) (cnd (!c) (mM a) (∃(h:I2),h.x=d∧h.y=e∧(kX h)∧∀(j:Unit),True→cnd a.less (∃(k:I2),k.x=e∧k.y=d∧(kX k)∧∀(l:Unit),True→cnd (uT k.x k.y).snd (True∧(kV a)*(48:Nat)≤(140737488355328:Nat)∧∃(m:Unit),AObj.fro 6 (List.map zX a.tops)=MkU (a.tops,a.out) 1∧List.map zL (tY a)=List.map zL a.out++[[dI ((uT k.x k.y).fst),dI (min f g),dI a.a,dI 2,dI a.b,dI 2]]∧True) (mM a)) (cnd (uY h.x h.y).snd (True∧(kV a)*(48:Nat)≤(140737488355328:Nat)∧∃(k:Unit),AObj.fro 6 (List.map zX a.tops)=MkU (a.tops,a.out) 1∧List.map zL (tY a)=List.map zL a.out++[[dI ((uY h.x h.y).fst),dI (min f g),dI a.a,dI 2,dI a.b,dI 2]]∧True) (mM a))))
def yKt (i:MkI):Prop:=
 (0≤i.a∧i.a<(qO i))∧∃(a:Bool),∃(b:Bool),∃(c:Int),∃(d:Int),∃(e:Int),∃(f:Int),zF (List.map zX i.tops) i.a.toNat 0 6=some [D.v (.bool a),D.v (.bool b),dI c,dI d,dI e,dI f]∧(0≤i.b∧i.b<(qO i))∧∃(g:Bool),∃(h:Bool),∃(j:Int),∃(k:Int),∃(l:Int),∃(m:Int),zF (List.map zX i.tops) i.b.toNat 0 6=some [D.v (.bool g),D.v (.bool h),dI j,dI k,dI l,dI m]∧(zMz i b h d k f m)∧zMz i b h d k f m
open Go Cv Go.Proofs
theorem zOm:iotherC.ok Tryz.prog 197:=okw (V:=yHh) mixed gok0 0 (fun _=>[]) (fun _=>[]) [] Tryz.func197 fun(n:Int) h=>by
 have h:n=1∨n=2:=h
 refine⟨(),?_,trivial⟩
 rw[w64 (by omega)]
theorem zZp:ibetterC.ok Tryz.prog 195:=okw (V:=yAf) mixed gok0 0 (fun _=>[]) (fun _=>[]) [] Tryz.func195 fun(i:I3') _=>by
 refine Cv.cnd.mk (fun e=>⟨(),?_,trivial⟩) (fun e=>⟨(),?_,trivial⟩)
 ·have e:i.side=1:=by simpa using e
  simp[btr,e]
 ·have e:i.side≠1:=by simpa using e
  simp[btr,e]
theorem yJm (a b:Int):(if b<a then b else a)=min a b:=by split<;>omega
theorem yRr (i:MkI) (h:mk11.cnd i):yLs i:=by
 obtain⟨a0,a1,b0,b1,⟨ht,hp⟩,ho⟩:0≤i.a∧i.a<i.tops.length∧0≤i.b∧i.b<i.tops.length∧vE i.tops∧i.out.length≤1000:=h
 obtain⟨x,hx⟩:=z6 (l:=i.tops) (i:=i.a.toNat) (by omega)
 obtain⟨y,hy⟩:=z6 (l:=i.tops) (i:=i.b.toNat) (by omega)
 obtain⟨⟨px1,px2⟩,px3,px4⟩:=hp x (yWu hx)
 obtain⟨⟨py1,py2⟩,py3,py4⟩:=hp y (yWu hy)
 have e0:mkq i.tops ⟨i.a,1⟩ ⟨i.b,1⟩ i.less=if x.has1 && y.has1 && (if i.less then uT y.p1 x.p1 else uY x.p1 y.p1).2 then[⟨(if i.less then uT y.p1 x.p1 else uY x.p1 y.p1).1,min x.q1 y.q1,⟨i.a,1⟩,⟨i.b,1⟩⟩]else[]:=by
  simp only[mkq,yWt,hx,hy,yYv];rfl
 unfold yLs zJe kV kT xZ qO kX nD lF dI
 simp only[yWm]
 refine⟨⟨by omega,by omega⟩,x.has1,x.has2,x.p1,x.p2,x.q1,x.q2,elA hx (by simp[zX]) rfl,⟨by omega,by omega⟩,y.has1,y.has2,y.p1,y.p2,y.q1,y.q2,elA hy (by simp[zX]) rfl,?_⟩
 rw[e0]
 (repeat'(first|exact rfl|exact trivial|assumption|apply And.intro|refine fun(_:Unit) (_:True)=>?_|refine Exists.intro () ?_|omega|(dsimp only;omega)))
 all_goals
  refine Cv.cnd.mk (fun c1=> ?_) (fun c1=>Cv.cnd.mk (fun c2=> ?_) (fun c2=> ?_))
  ·have c1:x.has1=false:=by simpa using c1
   simp only[c1,yZy,yXe,if_false,yXi];exact kp
  ·have c2:y.has1=false:=by simpa using c2
   simp only[c2,y1t,yZy,yXe,if_false,yXi];exact kp
  ·have c1:x.has1=true:=by simpa using c1
   have c2:y.has1=true:=by simpa using c2
   simp only[c1,c2,yZl,yJm]
   refine⟨⟨x.p1,y.p1⟩,?_⟩
   (repeat'(first|exact rfl|exact trivial|assumption|apply And.intro|refine fun(_:Unit) (_:True)=>?_|refine Exists.intro () ?_|omega|(dsimp only;omega)))
   refine Cv.cnd.mk (fun c3=> ?_) (fun c3=> ?_)
   ·have c3:i.less=true:=c3
    simp only[c3,if_true]
    refine⟨⟨y.p1,x.p1⟩,?_⟩
    (repeat'(first|exact rfl|exact trivial|assumption|apply And.intro|refine fun(_:Unit) (_:True)=>?_|refine Exists.intro () ?_|omega|(dsimp only;omega)))
    refine Cv.cnd.mk (fun c4=> ?_) (fun c4=> ?_)
    ·have c4:(uT y.p1 x.p1).2=true:=c4
     simp only[c4,if_true,yWw];exact kp
    ·have c4:(uT y.p1 x.p1).2=false:=c4
     simp only[c4,yXe,if_false,yXi];exact kp
   ·have c3:i.less=false:=c3
    simp only[c3,yXe,if_false]
    refine Cv.cnd.mk (fun c4=> ?_) (fun c4=> ?_)
    ·have c4:(uY x.p1 y.p1).2=true:=c4
     simp only[c4,if_true,yWw];exact kp
    ·have c4:(uY x.p1 y.p1).2=false:=c4
     simp only[c4,yXe,if_false,yXi];exact kp
theorem yHi:mk11.ok Tryz.prog 198:=okw mixed (gokc zRs (gokc zSe gok0)) 0 (fun _=>[]) (fun _=>[]) [] Tryz.func198 yRr
theorem yUb (i:MkI) (h:mk12.cnd i):yLi i:=by
 obtain⟨a0,a1,b0,b1,⟨ht,hp⟩,ho⟩:0≤i.a∧i.a<i.tops.length∧0≤i.b∧i.b<i.tops.length∧vE i.tops∧i.out.length≤1000:=h
 obtain⟨x,hx⟩:=z6 (l:=i.tops) (i:=i.a.toNat) (by omega)
 obtain⟨y,hy⟩:=z6 (l:=i.tops) (i:=i.b.toNat) (by omega)
 obtain⟨⟨px1,px2⟩,px3,px4⟩:=hp x (yWu hx)
 obtain⟨⟨py1,py2⟩,py3,py4⟩:=hp y (yWu hy)
 have e0:mkq i.tops ⟨i.a,1⟩ ⟨i.b,2⟩ i.less=if x.has1 && y.has2 && (if i.less then uT y.p2 x.p1 else uY x.p1 y.p2).2 then[⟨(if i.less then uT y.p2 x.p1 else uY x.p1 y.p2).1,min x.q1 y.q2,⟨i.a,1⟩,⟨i.b,2⟩⟩]else[]:=by
  simp only[mkq,yWt,hx,hy,yYv];rfl
 unfold yLi zKr nE tW kV kT xZ kX qO dI
 simp only[yWm]
 refine⟨⟨by omega,by omega⟩,x.has1,x.has2,x.p1,x.p2,x.q1,x.q2,elA hx (by simp[zX]) rfl,⟨by omega,by omega⟩,y.has1,y.has2,y.p1,y.p2,y.q1,y.q2,elA hy (by simp[zX]) rfl,?_⟩
 rw[e0]
 (repeat'(first|exact rfl|exact trivial|assumption|apply And.intro|refine fun(_:Unit) (_:True)=>?_|refine Exists.intro () ?_|omega|(dsimp only;omega)))
 all_goals
  refine Cv.cnd.mk (fun c1=> ?_) (fun c1=>Cv.cnd.mk (fun c2=> ?_) (fun c2=> ?_))
  ·have c1:x.has1=false:=by simpa using c1
   simp only[c1,yZy,yXe,if_false,yXi];exact kp
  ·have c2:y.has2=false:=by simpa using c2
   simp only[c2,y1t,yZy,yXe,if_false,yXi];exact kp
  ·have c1:x.has1=true:=by simpa using c1
   have c2:y.has2=true:=by simpa using c2
   simp only[c1,c2,yZl,yJm]
   refine⟨⟨x.p1,y.p2⟩,?_⟩
   (repeat'(first|exact rfl|exact trivial|assumption|apply And.intro|refine fun(_:Unit) (_:True)=>?_|refine Exists.intro () ?_|omega|(dsimp only;omega)))
   refine Cv.cnd.mk (fun c3=> ?_) (fun c3=> ?_)
   ·have c3:i.less=true:=c3
    simp only[c3,if_true]
    refine⟨⟨y.p2,x.p1⟩,?_⟩
    (repeat'(first|exact rfl|exact trivial|assumption|apply And.intro|refine fun(_:Unit) (_:True)=>?_|refine Exists.intro () ?_|omega|(dsimp only;omega)))
    refine Cv.cnd.mk (fun c4=> ?_) (fun c4=> ?_)
    ·have c4:(uT y.p2 x.p1).2=true:=c4
     simp only[c4,if_true,yWw];exact kp
    ·have c4:(uT y.p2 x.p1).2=false:=c4
     simp only[c4,yXe,if_false,yXi];exact kp
   ·have c3:i.less=false:=c3
    simp only[c3,yXe,if_false]
    refine Cv.cnd.mk (fun c4=> ?_) (fun c4=> ?_)
    ·have c4:(uY x.p1 y.p2).2=true:=c4
     simp only[c4,if_true,yWw];exact kp
    ·have c4:(uY x.p1 y.p2).2=false:=c4
     simp only[c4,yXe,if_false,yXi];exact kp
theorem yIk:mk12.ok Tryz.prog 198:=okw mixed (gokc zRs (gokc zSe gok0)) 0 (fun _=>[]) (fun _=>[]) [] Tryz.func198 yUb
theorem ySa (i:MkI) (h:mk21.cnd i):yLb i:=by
 obtain⟨a0,a1,b0,b1,⟨ht,hp⟩,ho⟩:0≤i.a∧i.a<i.tops.length∧0≤i.b∧i.b<i.tops.length∧vE i.tops∧i.out.length≤1000:=h
 obtain⟨x,hx⟩:=z6 (l:=i.tops) (i:=i.a.toNat) (by omega)
 obtain⟨y,hy⟩:=z6 (l:=i.tops) (i:=i.b.toNat) (by omega)
 obtain⟨⟨px1,px2⟩,px3,px4⟩:=hp x (yWu hx)
 obtain⟨⟨py1,py2⟩,py3,py4⟩:=hp y (yWu hy)
 have e0:mkq i.tops ⟨i.a,2⟩ ⟨i.b,1⟩ i.less=if x.has2 && y.has1 && (if i.less then uT y.p1 x.p2 else uY x.p2 y.p1).2 then[⟨(if i.less then uT y.p1 x.p2 else uY x.p2 y.p1).1,min x.q2 y.q1,⟨i.a,2⟩,⟨i.b,1⟩⟩]else[]:=by
  simp only[mkq,yWt,hx,hy,yYv];rfl
 unfold yLb zJx mI lM kV kT xZ kX qO dI
 simp only[yWm]
 refine⟨⟨by omega,by omega⟩,x.has1,x.has2,x.p1,x.p2,x.q1,x.q2,elA hx (by simp[zX]) rfl,⟨by omega,by omega⟩,y.has1,y.has2,y.p1,y.p2,y.q1,y.q2,elA hy (by simp[zX]) rfl,?_⟩
 rw[e0]
 (repeat'(first|exact rfl|exact trivial|assumption|apply And.intro|refine fun(_:Unit) (_:True)=>?_|refine Exists.intro () ?_|omega|(dsimp only;omega)))
 all_goals
  refine Cv.cnd.mk (fun c1=> ?_) (fun c1=>Cv.cnd.mk (fun c2=> ?_) (fun c2=> ?_))
  ·have c1:x.has2=false:=by simpa using c1
   simp only[c1,yZy,yXe,if_false,yXi];exact kp
  ·have c2:y.has1=false:=by simpa using c2
   simp only[c2,y1t,yZy,yXe,if_false,yXi];exact kp
  ·have c1:x.has2=true:=by simpa using c1
   have c2:y.has1=true:=by simpa using c2
   simp only[c1,c2,yZl,yJm]
   refine⟨⟨x.p2,y.p1⟩,?_⟩
   (repeat'(first|exact rfl|exact trivial|assumption|apply And.intro|refine fun(_:Unit) (_:True)=>?_|refine Exists.intro () ?_|omega|(dsimp only;omega)))
   refine Cv.cnd.mk (fun c3=> ?_) (fun c3=> ?_)
   ·have c3:i.less=true:=c3
    simp only[c3,if_true]
    refine⟨⟨y.p1,x.p2⟩,?_⟩
    (repeat'(first|exact rfl|exact trivial|assumption|apply And.intro|refine fun(_:Unit) (_:True)=>?_|refine Exists.intro () ?_|omega|(dsimp only;omega)))
    refine Cv.cnd.mk (fun c4=> ?_) (fun c4=> ?_)
    ·have c4:(uT y.p1 x.p2).2=true:=c4
     simp only[c4,if_true,yWw];exact kp
    ·have c4:(uT y.p1 x.p2).2=false:=c4
     simp only[c4,yXe,if_false,yXi];exact kp
   ·have c3:i.less=false:=c3
    simp only[c3,yXe,if_false]
    refine Cv.cnd.mk (fun c4=> ?_) (fun c4=> ?_)
    ·have c4:(uY x.p2 y.p1).2=true:=c4
     simp only[c4,if_true,yWw];exact kp
    ·have c4:(uY x.p2 y.p1).2=false:=c4
     simp only[c4,yXe,if_false,yXi];exact kp
theorem yGv:mk21.ok Tryz.prog 198:=okw mixed (gokc zRs (gokc zSe gok0)) 0 (fun _=>[]) (fun _=>[]) [] Tryz.func198 ySa
theorem yTj (i:MkI) (h:mk22.cnd i):yKt i:=by
 obtain⟨a0,a1,b0,b1,⟨ht,hp⟩,ho⟩:0≤i.a∧i.a<i.tops.length∧0≤i.b∧i.b<i.tops.length∧vE i.tops∧i.out.length≤1000:=h
 obtain⟨x,hx⟩:=z6 (l:=i.tops) (i:=i.a.toNat) (by omega)
 obtain⟨y,hy⟩:=z6 (l:=i.tops) (i:=i.b.toNat) (by omega)
 obtain⟨⟨px1,px2⟩,px3,px4⟩:=hp x (yWu hx)
 obtain⟨⟨py1,py2⟩,py3,py4⟩:=hp y (yWu hy)
 have e0:mkq i.tops ⟨i.a,2⟩ ⟨i.b,2⟩ i.less=if x.has2 && y.has2 && (if i.less then uT y.p2 x.p2 else uY x.p2 y.p2).2 then[⟨(if i.less then uT y.p2 x.p2 else uY x.p2 y.p2).1,min x.q2 y.q2,⟨i.a,2⟩,⟨i.b,2⟩⟩]else[]:=by
  simp only[mkq,yWt,hx,hy,yYv];rfl
 unfold yKt zMz mM tY kV kT xZ kX qO dI
 simp only[yWm]
 refine⟨⟨by omega,by omega⟩,x.has1,x.has2,x.p1,x.p2,x.q1,x.q2,elA hx (by simp[zX]) rfl,⟨by omega,by omega⟩,y.has1,y.has2,y.p1,y.p2,y.q1,y.q2,elA hy (by simp[zX]) rfl,?_⟩
 rw[e0]
 (repeat'(first|exact rfl|exact trivial|assumption|apply And.intro|refine fun(_:Unit) (_:True)=>?_|refine Exists.intro () ?_|omega|(dsimp only;omega)))
 all_goals
  refine Cv.cnd.mk (fun c1=> ?_) (fun c1=>Cv.cnd.mk (fun c2=> ?_) (fun c2=> ?_))
  ·have c1:x.has2=false:=by simpa using c1
   simp only[c1,yZy,yXe,if_false,yXi];exact kp
  ·have c2:y.has2=false:=by simpa using c2
   simp only[c2,y1t,yZy,yXe,if_false,yXi];exact kp
  ·have c1:x.has2=true:=by simpa using c1
   have c2:y.has2=true:=by simpa using c2
   simp only[c1,c2,yZl,yJm]
   refine⟨⟨x.p2,y.p2⟩,?_⟩
   (repeat'(first|exact rfl|exact trivial|assumption|apply And.intro|refine fun(_:Unit) (_:True)=>?_|refine Exists.intro () ?_|omega|(dsimp only;omega)))
   refine Cv.cnd.mk (fun c3=> ?_) (fun c3=> ?_)
   ·have c3:i.less=true:=c3
    simp only[c3,if_true]
    refine⟨⟨y.p2,x.p2⟩,?_⟩
    (repeat'(first|exact rfl|exact trivial|assumption|apply And.intro|refine fun(_:Unit) (_:True)=>?_|refine Exists.intro () ?_|omega|(dsimp only;omega)))
    refine Cv.cnd.mk (fun c4=> ?_) (fun c4=> ?_)
    ·have c4:(uT y.p2 x.p2).2=true:=c4
     simp only[c4,if_true,yWw];exact kp
    ·have c4:(uT y.p2 x.p2).2=false:=c4
     simp only[c4,yXe,if_false,yXi];exact kp
   ·have c3:i.less=false:=c3
    simp only[c3,yXe,if_false]
    refine Cv.cnd.mk (fun c4=> ?_) (fun c4=> ?_)
    ·have c4:(uY x.p2 y.p2).2=true:=c4
     simp only[c4,if_true,yWw];exact kp
    ·have c4:(uY x.p2 y.p2).2=false:=c4
     simp only[c4,yXe,if_false,yXi];exact kp
theorem yIf:mk22.ok Tryz.prog 198:=okw mixed (gokc zRs (gokc zSe gok0)) 0 (fun _=>[]) (fun _=>[]) [] Tryz.func198 yTj
open Go Cv Go.Proofs
structure MkJ where
 i:MkI
 sa:Bool
 sb:Bool
def mkAnyC:Con:=con1 MkJ (fun j=>[.nm 0 0,.agg [zA j.i.a,zA (zD j.sa)],.agg [zA j.i.b,zA (zD j.sb)],yG j.i.less]) (fun j=>MkR j.i.tops j.i.out)
 (fun j=>0≤j.i.a∧j.i.a<j.i.tops.length∧0≤j.i.b∧j.i.b<j.i.tops.length∧vE j.i.tops∧j.i.out.length≤1000) (fun _=>zLs) (fun j=>MkP j.i.tops (j.i.out++mkq j.i.tops ⟨j.i.a,zD j.sa⟩ ⟨j.i.b,zD j.sb⟩ j.i.less))
theorem zYd:mkAnyC.ok Tryz.prog 198:=fun j=>match j with
 |⟨i,false,false⟩=>yHi i
 |⟨i,false,true⟩=>yIk i
 |⟨i,true,false⟩=>yGv i
 |⟨i,true,true⟩=>yIf i
structure dB where
 p:Prd
 tops:List Top
 inst:Int
def kQ (i:dB) (s:Int) (k:Nat):List Quote:=(List.range k).flatMap fun(k:Nat)=>mkq i.tops ⟨(i.p.spread i.inst (i.inst+1+k)).1,s⟩ ⟨i.inst+1+k,s⟩ false
def j6 (i:dB) (s:Int) (k:Nat):List Quote:=(List.range k).flatMap fun(k:Nat)=>mkq i.tops ⟨(i.p.spread k i.inst).1,3-s⟩ ⟨k,s⟩ true
def yP (i:dB) (s:Int):List Quote:=mkq i.tops ⟨(i.p.legs i.inst).2.1,3-s⟩ ⟨(i.p.legs i.inst).1,s⟩ true
def cN (i:dB) (s:Int) (q:Quote):Quote:={q with a:=⟨(i.p.legs i.inst).1,s⟩,b:=⟨(i.p.legs i.inst).2.1,3-s⟩}
def kE (i:dB) (s:Int):List Quote:=
 if i.p.count=0∨(i.tops.length:Int)≠i.p.count∨i.inst<0∨(i.p.count:Int)≤i.inst then[]
 else if(i.p.legs i.inst).2.2 then(yP i s).map (cN i s)
 else kQ i s (i.p.months.length-(i.inst.toNat+1))++j6 i s i.inst.toNat
def yLn (s:Int):Con:=con1 dB (fun i=>[prdV i.p,roV 6 (i.tops.map zX),zA i.inst,zA s]) (fun _=>[]) (fun i=>i.p.small∧vE i.tops) (fun _=> .own 0) (fun i=>[.own 259 6 ((kE i s).map zL)])
def all1C:Con:=yLn 1
def all2C:Con:=yLn 2
def ySm (i:dB) (s:Int):List SAnn:=[
 {ι:=Nat,slots:=fun k=>[(10,.nm 0 0),(77,zA k)],rows:=fun k=>(List.range 3).map (MkU (i.tops,((yP i s).take k).map (cN i s)++(yP i s).drop k))},
 {ι:=Nat,slots:=fun k=>[(10,.nm 0 0),(17,zA (i.inst+1+k))],rows:=fun k=>MkR i.tops (kQ i s k)},
 {ι:=Nat,slots:=fun k=>[(10,.nm 0 0),(120,zA k)],rows:=fun k=>MkR i.tops (kQ i s (i.p.months.length-(i.inst.toNat+1))++j6 i s k)}]
structure tK where
 i:dB
 s:Bool
def allC:Con:=con1 tK (fun j=>[prdV j.i.p,roV 6 (j.i.tops.map zX),zA j.i.inst,zA (zD j.s)]) (fun _=>[]) (fun j=>j.i.p.small∧vE j.i.tops) (fun _=> .own 0) (fun j=>[.own 259 6 ((kE j.i (zD j.s)).map zL)])
def xR (i:dB) (s:Int):List Quote:=(kE i s).filter fun q=>decide (i.p.price i.inst q.price=0)
def quotesC:Con:=con1 tK (fun j=>[prdV j.i.p,roV 6 (j.i.tops.map zX),zA j.i.inst,zA (zD j.s)]) (fun _=>[]) (fun j=>j.i.p.small∧vE j.i.tops) (fun _=> .own 0) (fun j=>[.own 259 6 ((xR j.i (zD j.s)).map zL)])
def yHn (j:tK):List SAnn:=[{ι:=Nat,slots:=fun k=>[(9,.own 0),(18,zA k)],rows:=fun k=>[.own 259 6 ((((kE j.i (zD j.s)).take k).filter fun q=>decide (j.i.p.price j.i.inst q.price=0)).map zL)]}]
structure BsI where
 l:List Quote
 s:Int
def zU (l:List Quote) (s:Int):Quote×Bool:=match l with
 |[]=>(yRj,false)
 |q::r=>(r.foldl (fun b q=>if btr s q.price b.price then q else b) q,true)
def bestQC:Con:=con1 BsI (fun i=>[roV 6 (i.l.map zL),zA i.s]) (fun _=>[]) (fun i=>(i.s=1∨i.s=2)∧i.l.length≤1000000) (fun i=> .tup [zRw (zU i.l i.s).1,yG (zU i.l i.s).2]) (fun _=>[])
def yPo (i:BsI):List SAnn:=[{ι:=Nat,slots:=fun k=>[(6,.nm 0 0),(26,zA k)],rows:=fun k=>[.cells (zRw (zU (i.l.take (max k 1)) i.s).1).cl 259]}]
open Go Cv Go.Proofs
def mV (a:dB):Prop:=AObj.fro 6 (List.map zX a.tops)=AObj.fro 6 (List.map zX a.tops)∧Sx.AObj.cells [V.d (D.v (Value.string (sb a.p.code))),V.own 0,V.d (dI a.p.tick),V.d (dI a.p.low),V.d (dI a.p.high),V.d (dI a.p.wide),V.d (dI a.p.rule),V.d (dI a.p.top),V.d (dI a.p.least),V.d (dI a.p.part),V.own ((0:Nat)+(1:Nat))] 25=Sx.AObj.cells [V.d (D.v (Value.string (sb a.p.code))),V.own 0,V.d (dI a.p.tick),V.d (dI a.p.low),V.d (dI a.p.high),V.d (dI a.p.wide),V.d (dI a.p.rule),V.d (dI a.p.top),V.d (dI a.p.least),V.d (dI a.p.part),V.own ((0:Nat)+(1:Nat))] 25∧AObj.fro 1 (iE a.p.settle)=AObj.fro 1 (iE a.p.settle)∧AObj.fro 1 (iE a.p.months)=AObj.fro 1 (iE a.p.months)
def zDn (a:Nat→Prop) (b:Nat) (c:Nat→Nat) (d:Nat) (e:dB):Prop:=a b∧c b<c d∧AObj.fro 6 (List.map zX e.tops)=AObj.fro 6 (List.map zX e.tops)∧mV e
def zCx (a:Nat→Prop) (b:Nat) (c:Nat→Nat) (d:Nat) (e:dB):Prop:=a b∧c b<c d∧mV e
def gX (a:Top):Prop:=((-9223372036854775808)≤a.p1∧a.p1≤9223372036854775807)∧(-9223372036854775808)≤a.p2∧a.p2≤9223372036854775807
def g8 (a:MkJ):Prop:=0≤a.i.a∧a.i.a<(↑a.i.tops.length:Int)∧0≤a.i.b∧a.i.b<(↑a.i.tops.length:Int)∧(a.i.tops.length≤1000000∧∀(b:Top),b∈a.i.tops→gX b)∧a.i.out.length≤1000
def uC (a:MkJ):=(a.i.out++mkq a.i.tops (Leg.mk a.i.a (zD a.sa)) (Leg.mk a.i.b (zD a.sb)) a.i.less)
def eI (a:Nat) (b:MkJ):=(decide ((↑a:Int)<(↑(List.map zL (uC b)).length:Int)))
def x0 (a:r9):Prop:=a.p.code.length≤1099511627776∧a.p.months.length≤1099511627776∧a.p.settle.length≤1099511627776
def kU (a:cI):Prop:=a.p.code.length≤1099511627776∧a.p.months.length≤1099511627776∧a.p.settle.length≤1099511627776
def mR (a:dB) (b:Nat):=(List.map (cN a 1) (List.take b (yP a 1))++List.drop b (yP a 1))
def lD (a:dB) (b:Nat):=(List.map zL (mR a b))
def mU (a:dB) (b:Nat):=(kQ a 1 (a.p.months.length-(a.inst.toNat+1))++j6 a 1 b)
def vA (a:cI):=((a.p.legs a.n).snd.fst)
def yKl (i:dB):Prop:=
 ∃(a:Prd),sb a.code=sb i.p.code∧iE a.months=iE i.p.months∧a.tick=i.p.tick∧a.low=i.p.low∧a.high=i.p.high∧a.wide=i.p.wide∧a.rule=i.p.rule∧a.top=i.p.top∧a.least=i.p.least∧a.part=i.p.part∧iE a.settle=iE i.p.settle∧(zY a)∧∀(b:Unit),True→cnd ((↑a.count:Int)==0) (∃(c:Unit),List.map zL (kE i 1)=[]∧True) (cnd ((↑(List.map zX i.tops).length:Int) !=(↑a.count:Int)) (∃(c:Unit),List.map zL (kE i 1)=[]∧True) (cnd (decide (i.inst<0)) (∃(c:Unit),List.map zL (kE i 1)=[]∧True) (cnd (decide (i.inst≥(↑a.count:Int))) (∃(c:Unit),List.map zL (kE i 1)=[]∧True) (∃(c:cI),sb c.p.code=sb i.p.code∧iE c.p.months=iE i.p.months∧c.p.tick=i.p.tick∧c.p.low=i.p.low∧c.p.high=i.p.high∧c.p.wide=i.p.wide∧c.p.rule=i.p.rule∧c.p.top=i.p.top∧c.p.least=i.p.least∧c.p.part=i.p.part∧iE c.p.settle=iE i.p.settle∧c.n=i.inst∧(kU c)∧∀(d:Unit),True→cnd (c.p.legs c.n).snd.snd (∃(e:Int),e=1∧(e=1∨e=2)∧∀(f:Unit),True→∃(g:MkJ),g.i.a=(c.p.legs c.n).snd.fst∧zD g.sa=3-e∧g.i.b=(c.p.legs c.n).fst∧zD g.sb=1∧g.i.less=true∧AObj.fro 6 (List.map zX g.i.tops)=AObj.fro 6 (List.map zX i.tops)∧List.map zL g.i.out=[]∧(g8 g)∧∀(h:Unit),True→∃(j:Nat),(↑j:Int)=0∧AObj.fro 6 (List.map zX i.tops)=AObj.fro 6 (List.map zX g.i.tops)∧List.map zL (mR i j)=List.map zL (uC g)∧∃(k:Nat→Prop),∃(l:Nat→Nat),k j∧∀(m:Nat),k m→cnd (eI m g) ((0≤(↑m:Int)∧(↑m:Int)<(↑(lD i m).length:Int))∧(↑m:Int).toNat<(lD i m).length∧∃(n:Nat),(↑n:Int)=IntKind.i64.wrap ((↑m:Int)+1)∧AObj.fro 6 (List.map zX i.tops)=AObj.fro 6 (List.map zX i.tops)∧List.map zL (mR i n)=zH (lD i m) (↑m:Int).toNat ((0:Nat)+(2:Nat)) [dI ((c.p.legs c.n).fst),dI 1,dI (vA c),dI (3-e)]∧k n∧l n<l m∧AObj.fro 6 (List.map zX g.i.tops)=AObj.fro 6 (List.map zX g.i.tops)∧Sx.AObj.cells [V.d (dI (vA c)),V.d (dI (3-e))] 256=Sx.AObj.cells [V.d (dI (vA c)),V.d (dI (3-e))] 256∧Sx.AObj.cells [V.d (dI ((c.p.legs c.n).fst)),V.d (dI 1)] 256=Sx.AObj.cells [V.d (dI ((c.p.legs c.n).fst)),V.d (dI 1)] 256∧mV i) (∃(n:Unit),List.map zL (kE i 1)=List.map zL (mR i m)∧True)) (∃(e:Nat),i.inst+1+(↑e:Int)=IntKind.i64.wrap (i.inst+1)∧AObj.fro 6 (List.map zX i.tops)=AObj.fro 6 (List.map zX i.tops)∧List.map zL (kQ i 1 e)=[]∧∃(f:Nat→Prop),∃(g:Nat→Nat),f e∧∀(h:Nat),f h→cnd (decide (i.inst+1+(↑h:Int)<(↑(iE i.p.months).length:Int))) (∃(j:r9),sb j.p.code=sb i.p.code∧iE j.p.months=iE i.p.months∧j.p.tick=i.p.tick∧j.p.low=i.p.low∧j.p.high=i.p.high∧j.p.wide=i.p.wide∧j.p.rule=i.p.rule∧j.p.top=i.p.top∧j.p.least=i.p.least∧j.p.part=i.p.part∧iE j.p.settle=iE i.p.settle∧j.a=i.inst∧j.b=i.inst+1+(↑h:Int)∧(x0 j)∧∀(k:Unit),True→∃(l:MkJ),l.i.a=(j.p.spread j.a j.b).fst∧zD l.sa=1∧l.i.b=i.inst+1+(↑h:Int)∧zD l.sb=1∧l.i.less=false∧AObj.fro 6 (List.map zX l.i.tops)=AObj.fro 6 (List.map zX i.tops)∧List.map zL l.i.out=List.map zL (kQ i 1 h)∧(g8 l)∧∀(m:Unit),True→∃(n:Nat),i.inst+1+(↑n:Int)=IntKind.i64.wrap (i.inst+1+(↑h:Int)+1)∧AObj.fro 6 (List.map zX i.tops)=AObj.fro 6 (List.map zX l.i.tops)∧List.map zL (kQ i 1 n)=List.map zL (uC l)∧zCx f n g h i) (∃(j:Nat),(↑j:Int)=0∧AObj.fro 6 (List.map zX i.tops)=AObj.fro 6 (List.map zX i.tops)∧List.map zL (mU i j)=List.map zL (kQ i 1 h)∧∃(k:Nat→Prop),∃(l:Nat→Nat),k j∧∀(m:Nat),k m→cnd (decide ((↑m:Int)<i.inst)) (∃(n:r9),sb n.p.code=sb i.p.code∧iE n.p.months=iE i.p.months∧n.p.tick=i.p.tick∧n.p.low=i.p.low∧n.p.high=i.p.high∧n.p.wide=i.p.wide∧n.p.rule=i.p.rule∧n.p.top=i.p.top∧n.p.least=i.p.least∧n.p.part=i.p.part∧iE n.p.settle=iE i.p.settle∧n.a=(↑m:Int)∧n.b=i.inst∧(x0 n)∧∀(p:Unit),True→∃(q:Int),q=1∧(q=1∨q=2)∧∀(r:Unit),True→∃(s:MkJ),s.i.a=(n.p.spread n.a n.b).fst∧zD s.sa=3-q∧s.i.b=(↑m:Int)∧zD s.sb=1∧s.i.less=true∧AObj.fro 6 (List.map zX s.i.tops)=AObj.fro 6 (List.map zX i.tops)∧List.map zL s.i.out=List.map zL (mU i m)∧(g8 s)∧∀(t:Unit),True→∃(u:Nat),(↑u:Int)=IntKind.i64.wrap ((↑m:Int)+1)∧AObj.fro 6 (List.map zX i.tops)=AObj.fro 6 (List.map zX s.i.tops)∧List.map zL (mU i u)=List.map zL (uC s)∧zDn k u l m i) (∃(n:Unit),List.map zL (kE i 1)=List.map zL (mU i m)∧True)))))))
def mE (a:dB) (b:Nat):=(List.map (cN a 2) (List.take b (yP a 2))++List.drop b (yP a 2))
def eR (a:dB) (b:Nat):=(List.map zL (mE a b))
def nB (a:dB) (b:Nat):=(kQ a 2 (a.p.months.length-(a.inst.toNat+1))++j6 a 2 b)
def yKz (i:dB):Prop:=
 ∃(a:Prd),sb a.code=sb i.p.code∧iE a.months=iE i.p.months∧a.tick=i.p.tick∧a.low=i.p.low∧a.high=i.p.high∧a.wide=i.p.wide∧a.rule=i.p.rule∧a.top=i.p.top∧a.least=i.p.least∧a.part=i.p.part∧iE a.settle=iE i.p.settle∧(zY a)∧∀(b:Unit),True→cnd ((↑a.count:Int)==0) (∃(c:Unit),List.map zL (kE i 2)=[]∧True) (cnd ((↑(List.map zX i.tops).length:Int) !=(↑a.count:Int)) (∃(c:Unit),List.map zL (kE i 2)=[]∧True) (cnd (decide (i.inst<0)) (∃(c:Unit),List.map zL (kE i 2)=[]∧True) (cnd (decide (i.inst≥(↑a.count:Int))) (∃(c:Unit),List.map zL (kE i 2)=[]∧True) (∃(c:cI),sb c.p.code=sb i.p.code∧iE c.p.months=iE i.p.months∧c.p.tick=i.p.tick∧c.p.low=i.p.low∧c.p.high=i.p.high∧c.p.wide=i.p.wide∧c.p.rule=i.p.rule∧c.p.top=i.p.top∧c.p.least=i.p.least∧c.p.part=i.p.part∧iE c.p.settle=iE i.p.settle∧c.n=i.inst∧(kU c)∧∀(d:Unit),True→cnd (c.p.legs c.n).snd.snd (∃(e:Int),e=2∧(e=1∨e=2)∧∀(f:Unit),True→∃(g:MkJ),g.i.a=(c.p.legs c.n).snd.fst∧zD g.sa=3-e∧g.i.b=(c.p.legs c.n).fst∧zD g.sb=2∧g.i.less=true∧AObj.fro 6 (List.map zX g.i.tops)=AObj.fro 6 (List.map zX i.tops)∧List.map zL g.i.out=[]∧(g8 g)∧∀(h:Unit),True→∃(j:Nat),(↑j:Int)=0∧AObj.fro 6 (List.map zX i.tops)=AObj.fro 6 (List.map zX g.i.tops)∧List.map zL (mE i j)=List.map zL (uC g)∧∃(k:Nat→Prop),∃(l:Nat→Nat),k j∧∀(m:Nat),k m→cnd (eI m g) ((0≤(↑m:Int)∧(↑m:Int)<(↑(eR i m).length:Int))∧(↑m:Int).toNat<(eR i m).length∧∃(n:Nat),(↑n:Int)=IntKind.i64.wrap ((↑m:Int)+1)∧AObj.fro 6 (List.map zX i.tops)=AObj.fro 6 (List.map zX i.tops)∧List.map zL (mE i n)=zH (eR i m) (↑m:Int).toNat ((0:Nat)+(2:Nat)) [dI ((c.p.legs c.n).fst),dI 2,dI (vA c),dI (3-e)]∧k n∧l n<l m∧AObj.fro 6 (List.map zX g.i.tops)=AObj.fro 6 (List.map zX g.i.tops)∧Sx.AObj.cells [V.d (dI (vA c)),V.d (dI (3-e))] 256=Sx.AObj.cells [V.d (dI (vA c)),V.d (dI (3-e))] 256∧Sx.AObj.cells [V.d (dI ((c.p.legs c.n).fst)),V.d (dI 2)] 256=Sx.AObj.cells [V.d (dI ((c.p.legs c.n).fst)),V.d (dI 2)] 256∧mV i) (∃(n:Unit),List.map zL (kE i 2)=List.map zL (mE i m)∧True)) (∃(e:Nat),i.inst+1+(↑e:Int)=IntKind.i64.wrap (i.inst+1)∧AObj.fro 6 (List.map zX i.tops)=AObj.fro 6 (List.map zX i.tops)∧List.map zL (kQ i 2 e)=[]∧∃(f:Nat→Prop),∃(g:Nat→Nat),f e∧∀(h:Nat),f h→cnd (decide (i.inst+1+(↑h:Int)<(↑(iE i.p.months).length:Int))) (∃(j:r9),sb j.p.code=sb i.p.code∧iE j.p.months=iE i.p.months∧j.p.tick=i.p.tick∧j.p.low=i.p.low∧j.p.high=i.p.high∧j.p.wide=i.p.wide∧j.p.rule=i.p.rule∧j.p.top=i.p.top∧j.p.least=i.p.least∧j.p.part=i.p.part∧iE j.p.settle=iE i.p.settle∧j.a=i.inst∧j.b=i.inst+1+(↑h:Int)∧(x0 j)∧∀(k:Unit),True→∃(l:MkJ),l.i.a=(j.p.spread j.a j.b).fst∧zD l.sa=2∧l.i.b=i.inst+1+(↑h:Int)∧zD l.sb=2∧l.i.less=false∧AObj.fro 6 (List.map zX l.i.tops)=AObj.fro 6 (List.map zX i.tops)∧List.map zL l.i.out=List.map zL (kQ i 2 h)∧(g8 l)∧∀(m:Unit),True→∃(n:Nat),i.inst+1+(↑n:Int)=IntKind.i64.wrap (i.inst+1+(↑h:Int)+1)∧AObj.fro 6 (List.map zX i.tops)=AObj.fro 6 (List.map zX l.i.tops)∧List.map zL (kQ i 2 n)=List.map zL (uC l)∧zCx f n g h i) (∃(j:Nat),(↑j:Int)=0∧AObj.fro 6 (List.map zX i.tops)=AObj.fro 6 (List.map zX i.tops)∧List.map zL (nB i j)=List.map zL (kQ i 2 h)∧∃(k:Nat→Prop),∃(l:Nat→Nat),k j∧∀(m:Nat),k m→cnd (decide ((↑m:Int)<i.inst)) (∃(n:r9),sb n.p.code=sb i.p.code∧iE n.p.months=iE i.p.months∧n.p.tick=i.p.tick∧n.p.low=i.p.low∧n.p.high=i.p.high∧n.p.wide=i.p.wide∧n.p.rule=i.p.rule∧n.p.top=i.p.top∧n.p.least=i.p.least∧n.p.part=i.p.part∧iE n.p.settle=iE i.p.settle∧n.a=(↑m:Int)∧n.b=i.inst∧(x0 n)∧∀(p:Unit),True→∃(q:Int),q=2∧(q=1∨q=2)∧∀(r:Unit),True→∃(s:MkJ),s.i.a=(n.p.spread n.a n.b).fst∧zD s.sa=3-q∧s.i.b=(↑m:Int)∧zD s.sb=2∧s.i.less=true∧AObj.fro 6 (List.map zX s.i.tops)=AObj.fro 6 (List.map zX i.tops)∧List.map zL s.i.out=List.map zL (nB i m)∧(g8 s)∧∀(t:Unit),True→∃(u:Nat),(↑u:Int)=IntKind.i64.wrap ((↑m:Int)+1)∧AObj.fro 6 (List.map zX i.tops)=AObj.fro 6 (List.map zX s.i.tops)∧List.map zL (nB i u)=List.map zL (uC s)∧zDn k u l m i) (∃(n:Unit),List.map zL (kE i 2)=List.map zL (nB i m)∧True)))))))
def k0 (a:tK):=(List.map zL (kE a.i (zD a.s)))
def zAp (a:Nat→Prop) (b:Nat) (c:Nat→Nat) (d:Nat) (e:tK) (f:tK):Prop:=a b∧c b<c d∧AObj.own 259 6 (k0 e)=AObj.own 259 6 (k0 e)∧Sx.AObj.cells [V.d (D.v (Value.string (sb f.i.p.code))),V.own 0,V.d (dI f.i.p.tick),V.d (dI f.i.p.low),V.d (dI f.i.p.high),V.d (dI f.i.p.wide),V.d (dI f.i.p.rule),V.d (dI f.i.p.top),V.d (dI f.i.p.least),V.d (dI f.i.p.part),V.own ((0:Nat)+(1:Nat))] 25=Sx.AObj.cells [V.d (D.v (Value.string (sb f.i.p.code))),V.own 0,V.d (dI f.i.p.tick),V.d (dI f.i.p.low),V.d (dI f.i.p.high),V.d (dI f.i.p.wide),V.d (dI f.i.p.rule),V.d (dI f.i.p.top),V.d (dI f.i.p.least),V.d (dI f.i.p.part),V.own ((0:Nat)+(1:Nat))] 25∧AObj.fro 1 (iE f.i.p.settle)=AObj.fro 1 (iE f.i.p.settle)∧AObj.fro 1 (iE f.i.p.months)=AObj.fro 1 (iE f.i.p.months)
def kC (a:tK):Prop:=(a.i.p.code.length≤1099511627776∧a.i.p.months.length≤1099511627776∧a.i.p.settle.length≤1099511627776)∧a.i.tops.length≤1000000∧∀(b:Top),b∈a.i.tops→gX b
def gL (a:tK):=(↑(k0 a).length:Int)
def z5n (j:tK):Prop:=
 ∃(a:tK),sb a.i.p.code=sb j.i.p.code∧iE a.i.p.months=iE j.i.p.months∧a.i.p.tick=j.i.p.tick∧a.i.p.low=j.i.p.low∧a.i.p.high=j.i.p.high∧a.i.p.wide=j.i.p.wide∧a.i.p.rule=j.i.p.rule∧a.i.p.top=j.i.p.top∧a.i.p.least=j.i.p.least∧a.i.p.part=j.i.p.part∧iE a.i.p.settle=iE j.i.p.settle∧List.map zX a.i.tops=List.map zX j.i.tops∧a.i.inst=j.i.inst∧zD a.s=zD j.s∧(kC a)∧∀(b:Unit),True→∃(c:Nat),(↑c:Int)=0∧List.map zL (List.filter (fun(q:Sx.Quote) ↦ decide (j.i.p.price j.i.inst q.price=0)) (List.take c (kE j.i (zD j.s))))=[]∧∃(d:Nat→Prop),∃(e:Nat→Nat),d c∧∀(f:Nat),d f→cnd (decide ((↑f:Int)<(gL a))) ((0≤(↑f:Int)∧(↑f:Int)<(gL a))∧∃(g:Int),∃(h:Int),∃(k:Int),∃(l:Int),∃(m:Int),∃(n:Int),zF (k0 a) (↑f:Int).toNat 0 6=some [dI g,dI h,dI k,dI l,dI m,dI n]∧∃(p:r9),sb p.p.code=sb j.i.p.code∧iE p.p.months=iE j.i.p.months∧p.p.tick=j.i.p.tick∧p.p.low=j.i.p.low∧p.p.high=j.i.p.high∧p.p.wide=j.i.p.wide∧p.p.rule=j.i.p.rule∧p.p.top=j.i.p.top∧p.p.least=j.i.p.least∧p.p.part=j.i.p.part∧iE p.p.settle=iE j.i.p.settle∧p.a=j.i.inst∧p.b=g∧(x0 p)∧∀(q:Unit),True→cnd (p.p.price p.a p.b==0) (((List.map zL (List.filter (fun(q:Sx.Quote) ↦ decide (j.i.p.price j.i.inst q.price=0)) (List.take f (kE j.i (zD j.s))))).length+1)*(48:Nat)≤(140737488355328:Nat)∧∃(r:Nat),(↑r:Int)=IntKind.i64.wrap ((↑f:Int)+1)∧List.map zL (List.filter (fun(q:Sx.Quote) ↦ decide (j.i.p.price j.i.inst q.price=0)) (List.take r (kE j.i (zD j.s))))=List.map zL (List.filter (fun(q:Sx.Quote) ↦ decide (j.i.p.price j.i.inst q.price=0)) (List.take f (kE j.i (zD j.s))))++[[dI g,dI h,dI k,dI l,dI m,dI n]]∧zAp d r e f a j) (∃(r:Nat),(↑r:Int)=IntKind.i64.wrap ((↑f:Int)+1)∧List.map zL (List.filter (fun(q:Sx.Quote) ↦ decide (j.i.p.price j.i.inst q.price=0)) (List.take r (kE j.i (zD j.s))))=List.map zL (List.filter (fun(q:Sx.Quote) ↦ decide (j.i.p.price j.i.inst q.price=0)) (List.take f (kE j.i (zD j.s))))∧zAp d r e f a j)) (∃(g:Unit),List.map zL (xR j.i (zD j.s))=List.map zL (List.filter (fun(q:Sx.Quote) ↦ decide (j.i.p.price j.i.inst q.price=0)) (List.take f (kE j.i (zD j.s))))∧True)
def zBt (a:Nat→Prop) (b:Nat) (c:Nat→Nat) (d:Nat):Prop:=a b∧c b<c d∧Sx.AObj.cells (Sx.V.agg [V.d (dI 0),V.d (dI 0),V.d (dI 0),V.d (dI 0),V.d (dI 0),V.d (dI 0)]).cl 259=Sx.AObj.cells (Sx.V.agg [V.d (dI 0),V.d (dI 0),V.d (dI 0),V.d (dI 0),V.d (dI 0),V.d (dI 0)]).cl 259
def yC (a:Nat) (b:BsI):=(zU (List.take (max a 1) b.l) b.s)
def vQ (a:BsI):=(↑(List.map zL a.l).length:Int)
def zEh (a:BsI):Prop:=((0:Int)≤(0:Int)∧0<(vQ a))∧∃(b:Int),∃(c:Int),∃(d:Int),∃(e:Int),∃(f:Int),∃(g:Int),zF (List.map zL a.l) (Int.toNat 0) 0 6=some [dI b,dI c,dI d,dI e,dI f,dI g]∧∃(h:Nat),(↑h:Int)=0∧(yC h a).fst.price=b∧(yC h a).fst.qty=c∧(yC h a).fst.a.inst=d∧(yC h a).fst.a.side=e∧(yC h a).fst.b.inst=f∧(yC h a).fst.b.side=g∧∃(j:Nat→Prop),∃(k:Nat→Nat),j h∧∀(l:Nat),j l→cnd (decide ((↑l:Int)<(vQ a))) ((0≤(↑l:Int)∧(↑l:Int)<(vQ a))∧∃(m:Int),∃(n:Int),∃(p:Int),∃(q:Int),∃(r:Int),∃(s:Int),zF (List.map zL a.l) (↑l:Int).toNat 0 6=some [dI m,dI n,dI p,dI q,dI r,dI s]∧∃(t:I3'),t.side=a.s∧t.x=m∧t.y=(yC l a).fst.price∧True∧∀(u:Unit),True→cnd (btr t.side t.x t.y) (∃(v:Nat),(↑v:Int)=IntKind.i64.wrap ((↑l:Int)+1)∧(yC v a).fst.price=m∧(yC v a).fst.qty=n∧(yC v a).fst.a.inst=p∧(yC v a).fst.a.side=q∧(yC v a).fst.b.inst=r∧(yC v a).fst.b.side=s∧zBt j v k l) (∃(v:Nat),(↑v:Int)=IntKind.i64.wrap ((↑l:Int)+1)∧(yC v a).fst.price=(yC l a).fst.price∧(yC v a).fst.qty=(yC l a).fst.qty∧(yC v a).fst.a.inst=(yC l a).fst.a.inst∧(yC v a).fst.a.side=(yC l a).fst.a.side∧(yC v a).fst.b.inst=(yC l a).fst.b.inst∧(yC v a).fst.b.side=(yC l a).fst.b.side∧zBt j v k l)) (∃(m:Unit),(zU a.l a.s).fst.price=(yC l a).fst.price∧(zU a.l a.s).fst.qty=(yC l a).fst.qty∧(zU a.l a.s).fst.a.inst=(yC l a).fst.a.inst∧(zU a.l a.s).fst.a.side=(yC l a).fst.a.side∧(zU a.l a.s).fst.b.inst=(yC l a).fst.b.inst∧(zU a.l a.s).fst.b.side=(yC l a).fst.b.side∧(zU a.l a.s).snd=true∧True)
def zAl (a:BsI):Prop:=∃(b:Unit),(zU a.l a.s).fst.price=0∧(zU a.l a.s).fst.qty=0∧(zU a.l a.s).fst.a.inst=0∧(zU a.l a.s).fst.a.side=0∧(zU a.l a.s).fst.b.inst=0∧(zU a.l a.s).fst.b.side=0∧(zU a.l a.s).snd=false∧True
def yDs (i:BsI):Prop:=
 cnd ((vQ i)==0) (zAl i) (cnd (i.s !=1) (cnd (i.s !=2) (zAl i) (zEh i)) (zEh i))
end Sx
