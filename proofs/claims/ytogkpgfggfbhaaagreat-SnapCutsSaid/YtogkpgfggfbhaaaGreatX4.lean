/- Texts of ours, one behind the other: a walk that the kernel reckons, and contracts of functions. No condition. -/
import Derived.Test.YtogkpgfggfbhaaaGreatRows
import Derived.Test.YtogkpgfggfbhaaaGreatX3
namespace Sx
set_option linter.unusedVariables false
open Go Cv Go.Proofs
theorem kp {P:Prop} (h:P:=by(repeat'(first|exact rfl|exact trivial|assumption|apply And.intro|refine fun(_:Unit) (_:True)=>?_|refine Exists.intro () ?_|omega|(dsimp only;omega)))):P:=h
theorem mixed:Tryz.prog.follows .mixedOrders=true:=by kernel_rfl
theorem okw {P:Program} {f:FuncId} {fn:Func} {C:Con} {G:List (Nat×Con)} {V:C.ι→Prop} (hm:P.follows .mixedOrders=true) (hG:GOk P G) (d:Nat) (J:C.ι→List (Nat×SAnn)) (an:C.ι→List SAnn) (op:List Nat) (hf:P.funcs[f]? =some fn) (h:∀i,C.cnd i→V i) (hb:fn.body=some (fn.body.getD .skip):=by kernel_rfl) (hbd:uE P f=true:=by kernel_rfl) (hok:okC fn.ntmps (fn.body.getD .skip)=true:=by kernel_rfl) (hsz:∀i,Nat.ble (C.pat i).length fn.ntmps=true:=by intro _;kernel_rfl) (e:∀i,V i=walk P G d (J i) (an i) op fn (fn.body.getD .skip) (C.pat i) (C.pre i) (C.alts i):=by intro _;kernel_rfl):C.ok P f:=bD hm G hG d J an op hf hb hbd hok hsz fun i hc=>Eq.mp (e i) (h i hc)
structure Lv where
 price:Int
 qty:Int
 count:Int
def lvE (l:Lv):List D:=[.v (.int .i64 l.price),.v (.int .i64 l.qty),.v (.int .i64 l.count)]
def lvV (l:Lv):V:= .agg [zA l.price,zA l.qty,zA l.count]
open Go Cv Go.Proofs
def sb (l:List UInt8):ByteArray:=⟨l.toArray⟩
@[reducible] def sV (l:List UInt8):V:= .d (.v (.string (sb l)))
def zLo (l:List UInt8):Nat×Nat:=Utf8.decode (sb l) 0
def tW:Nat→Nat→List UInt8→List (Nat×Nat)
 |0,_,_=>[]
 |k+1,p,l=>match l with
  |[]=>[]
  |_=>(p,(zLo l).1)::tW k (p+(zLo l).2) (l.drop (zLo l).2)
def u0 (s:List UInt8) (p:Nat):List (Nat×Nat):=tW (s.length-p) p (s.drop p)
def kV (s:List UInt8):List Nat:=(u0 s 0).map (·.2)
def countC:Con:=con1 (List UInt8) (fun s=>[sV s]) (fun _=>[]) (fun s=>s.length≤1099511627776) (fun s=>zA (kV s).length) (fun _=>[])
def yLz (s:List UInt8):List SAnn:=[{ι:=Nat×Nat,slots:=fun x=>[(3,zA x.2),(5,.nm 0 0)],rows:=fun x=>[.iter (sb s) x.1]}]
def uL (r:Nat):Bool:=(decide (65≤r) && decide (r≤90))||(decide (913≤r) && decide (r≤937) && decide (r≠930))
def j5 (s:List UInt8):Bool:=(kV s).all uL && decide (s≠[]) && decide ((kV s).length≤4)
def symC:Con:=con1 (List UInt8) (fun s=>[sV s]) (fun _=>[]) (fun s=>s.length≤1099511627776) (fun s=>yF (j5 s)) (fun _=>[])
def yTf (s:List UInt8):List SAnn:=[{ι:=Nat,slots:=fun x=>[(7,.nm 0 0)],rows:=fun x=>[.iter (sb s) x]}]
def iE (l:List Int):List (List D):=l.map fun n=>[.v (.int .i64 n)]
@[reducible] def iV (l:List Int):V:=roV 1 (iE l)
structure Prd where
 code:List UInt8
 months:List Int
 tick:Int
 low:Int
 high:Int
 wide:Int
 rule:Int
 top:Int
 least:Int
 part:Int
 settle:List Int
 deriving DecidableEq
@[reducible] def Prd.cells (p:Prd):List V:=[sV p.code,iV p.months,zA p.tick,zA p.low,zA p.high,zA p.wide,zA p.rule,zA p.top,zA p.least,zA p.part,iV p.settle]
@[reducible] def prdV (p:Prd):V:= .agg p.cells
@[reducible] def Prd.small (p:Prd):Prop:=p.code.length≤1099511627776∧p.months.length≤1099511627776∧p.settle.length≤1099511627776
def qR (l:List Int) (k:Nat):Bool:=decide (0≤l.getD k 0) && decide (l.getD k 0≤1199) && (decide (k=0)||decide (l.getD (k-1) 0<l.getD k 0))
def xC (l:List Int):Bool:=(List.range l.length).all (qR l) && decide (2≤l.length) && decide (l.length≤6)
def monthsC:Con:=con1 (List Int) (fun l=>[iV l]) (fun _=>[]) (fun l=>l.length≤1099511627776) (fun l=>yF (xC l)) (fun _=>[])
def yGd:List SAnn:=[{ι:=Nat,slots:=fun j=>[(7,zA j)],rows:=fun _=>[]}]
def nT (l:List Int):Int:=l.tail.foldl min (l.headD 0)
def pZ (l:List Int):Int:=l.tail.foldl max (l.headD 0)
def minC:Con:=con1 (List Int) (fun l=>[iV l]) (fun _=>[]) (fun l=>0<l.length∧l.length≤1099511627776) (fun l=>zA (nT l)) (fun _=>[])
def maxC:Con:=con1 (List Int) (fun l=>[iV l]) (fun _=>[]) (fun l=>0<l.length∧l.length≤1099511627776) (fun l=>zA (pZ l)) (fun _=>[])
def yTb (l:List Int):List SAnn:=[{ι:=Nat,slots:=fun j=>[(3,zA (nT (l.take j))),(4,zA j)],rows:=fun _=>[]}]
def yTo (l:List Int):List SAnn:=[{ι:=Nat,slots:=fun j=>[(3,zA (pZ (l.take j))),(4,zA j)],rows:=fun _=>[]}]
set_option maxRecDepth 100000
open Go Cv Go.Proofs
@[reducible] def dI (n:Int):D:= .v (.int .i64 n)
def dA (a:Nat×Nat) (b:List UInt8) (c:Nat×Nat→Prop) (d:Nat×Nat→Nat):Prop:=∃(e:Nat×Nat),(↑e.snd:Int)=IntKind.i64.wrap ((↑a.snd:Int)+1)∧sb b=sb b∧e.fst=a.fst+(Utf8.decode (sb b) a.fst).snd∧c e∧d e<d a∧True
def yBs (s:List UInt8):Prop:=
 ∃(a:Nat×Nat),(↑a.snd:Int)=0∧sb s=sb s∧a.fst=0∧∃(b:Nat×Nat→Prop),∃(c:Nat×Nat→Nat),b a∧∀(d:Nat×Nat),b d→cnd (d.fst.blt (sb s).size) (dA d s b c) (∃(e:Unit),(↑(kV s).length:Int)=(↑d.snd:Int)∧True)
def zCn (a:List UInt8) (b:Nat) (c:Nat→Prop) (d:Nat→Nat):Prop:=∃(e:Nat),sb a=sb a∧e=b+(Utf8.decode (sb a) b).snd∧c e∧d e<d b∧True
def g8 (a:List UInt8) (b:Nat):=(↑(Utf8.decode (sb a) b).fst:Int)
def yRy (s:List UInt8):Prop:=
 ∃(a:Nat),sb s=sb s∧a=0∧∃(b:Nat→Prop),∃(c:Nat→Nat),b a∧∀(d:Nat),b d→cnd (d.blt (sb s).size) (cnd (decide ((g8 s d)≥65)) (cnd (decide ((g8 s d)≤90)) (zCn s d b c) (cnd (decide ((g8 s d)≥913)) (cnd (decide ((g8 s d)≤937)) (cnd (!(g8 s d) !=930) (∃(e:Unit),j5 s=false∧True) (zCn s d b c)) (∃(e:Unit),j5 s=false∧True)) (∃(e:Unit),j5 s=false∧True))) (cnd (decide ((g8 s d)≥913)) (cnd (decide ((g8 s d)≤937)) (cnd (!(g8 s d) !=930) (∃(e:Unit),j5 s=false∧True) (zCn s d b c)) (∃(e:Unit),j5 s=false∧True)) (∃(e:Unit),j5 s=false∧True))) (cnd (!(sb s).toList==(ByteArray.mk #[]).toList) (∃(e:List UInt8),sb e=sb s∧e.length≤1099511627776∧∀(f:Unit),True→∃(g:Unit),j5 s=decide ((↑(kV e).length:Int)≤4)∧True) (∃(e:Unit),j5 s=false∧True))
def kI (a:Nat) (b:Nat) (c:Nat→Prop) (d:Nat→Nat):Prop:=(↑a:Int)=IntKind.i64.wrap ((↑b:Int)+1)∧c a∧d a<d b∧True
def jL (a:Nat) (b:Nat→Prop) (c:Nat→Nat):Prop:=∃(d:Nat),kI d a b c
def z0z (l:List Int):Prop:=
 ∃(a:Nat),(↑a:Int)=0∧∃(b:Nat→Prop),∃(c:Nat→Nat),b a∧∀(d:Nat),b d→cnd (decide ((↑d:Int)<(↑(iE l).length:Int))) ((0≤(↑d:Int)∧(↑d:Int)<(↑(iE l).length:Int))∧∃(e:Int),zE (iE l) (↑d:Int).toNat 0 1=some [dI e]∧cnd (decide (e<0)) (∃(f:Unit),xC l=false∧True) (cnd (decide (e>1199)) (∃(f:Unit),xC l=false∧True) (cnd (decide ((↑d:Int)>0)) ((0≤IntKind.i64.wrap ((↑d:Int)-1)∧IntKind.i64.wrap ((↑d:Int)-1)<(↑(iE l).length:Int))∧∃(f:Int),zE (iE l) (IntKind.i64.wrap ((↑d:Int)-1)).toNat 0 1=some [dI f]∧cnd (decide (f≥e)) (∃(g:Unit),xC l=false∧True) (jL d b c)) (jL d b c)))) (cnd (decide ((↑(iE l).length:Int)≥2)) (∃(e:Unit),xC l=decide ((↑(iE l).length:Int)≤6)∧True) (∃(e:Unit),xC l=false∧True))
def yRc (l:List Int):Prop:=
 cnd (decide ((↑(iE l).length:Int)<1)) False (((0:Int)≤(0:Int)∧0<(↑(iE l).length:Int))∧∃(a:Int),zE (iE l) (Int.toNat 0) 0 1=some [dI a]∧∃(b:Nat),nT (List.take b l)=a∧(↑b:Int)=1∧∃(c:Nat→Prop),∃(d:Nat→Nat),c b∧∀(e:Nat),c e→cnd (decide ((↑e:Int)<(↑(iE l).length:Int))) ((0≤(↑e:Int)∧(↑e:Int)<(↑(iE l).length:Int))∧∃(f:Int),zE (iE l) (↑e:Int).toNat 0 1=some [dI f]∧∃(g:Nat),nT (List.take g l)=min (nT (List.take e l)) f∧kI g e c d) (∃(f:Unit),nT l=nT (List.take e l)∧True))
def yPh (l:List Int):Prop:=
 cnd (decide ((↑(iE l).length:Int)<1)) False (((0:Int)≤(0:Int)∧0<(↑(iE l).length:Int))∧∃(a:Int),zE (iE l) (Int.toNat 0) 0 1=some [dI a]∧∃(b:Nat),pZ (List.take b l)=a∧(↑b:Int)=1∧∃(c:Nat→Prop),∃(d:Nat→Nat),c b∧∀(e:Nat),c e→cnd (decide ((↑e:Int)<(↑(iE l).length:Int))) ((0≤(↑e:Int)∧(↑e:Int)<(↑(iE l).length:Int))∧∃(f:Int),zE (iE l) (↑e:Int).toNat 0 1=some [dI f]∧∃(g:Nat),(pZ (List.take g l)=if f>pZ (List.take e l)then f else pZ (List.take e l))∧kI g e c d) (∃(f:Unit),pZ l=pZ (List.take e l)∧True))
set_option linter.unusedSimpArgs false
open Go Cv Go.Proofs
@[simp] theorem z1d (s:List UInt8):(sb s).size=s.length:=by simp[sb,ByteArray.size]
theorem mJ (s:List UInt8):(sb s).toList=s:=by rw[ByteArray.toList_eq];rfl
theorem yLh (s:List UInt8) (p k:Nat):(sb s).get! (p+k)=(sb (s.drop p)).get! (0+k):=by
 simp only[sb,ByteArray.get!,yWi]
 simp only[List.getElem!_toArray,List.getElem!_eq_getElem?_getD,yYg]
theorem zFw (s:List UInt8) (p:Nat):Utf8.decode (sb s) p=zLo (s.drop p):=by
 have h (k:Nat):(decide (p+k<(sb s).size))=decide (0+k<(sb (s.drop p)).size):=by
  simp only[z1d,yWh]
  by_cases h:p+k<s.length
  ·rw[yWd h,yWd (by omega)]
  ·rw[yVw h,yVw (by omega)]
 unfold zLo Utf8.decode
 simp only[yLh s p,h]
theorem bN (s:List UInt8) {p:Nat} (h:p<s.length):1≤(Utf8.decode (sb s) p).2∧p+(Utf8.decode (sb s) p).2≤s.length:=by
 unfold Utf8.decode
 simp only[z1d,yVy,yXd]
 split
 ·exact⟨by simp,by simp;omega⟩
 split
 ·rename_i h1
  split
  ·exact⟨by simp,by simp;omega⟩
  ·exact⟨by simp,by simp;omega⟩
 split
 ·rename_i h1
  split
  ·exact⟨by simp,by simp;omega⟩
  ·exact⟨by simp,by simp;omega⟩
 split
 ·rename_i h1
  split
  ·exact⟨by simp,by simp;omega⟩
  ·exact⟨by simp,by simp;omega⟩
 ·exact⟨by simp,by simp;omega⟩
theorem yMz {l:List UInt8} (h:l≠[]):1≤(zLo l).2∧(zLo l).2≤l.length:=by
 have:=bN l (p:=0) (by cases l<;>simp_all)
 rw[zLo];omega
theorem nR:∀(k:Nat) (p:Nat) (l:List UInt8),l.length≤k→tW k p l=tW l.length p l
 |0,p,l,h=>by
  have:l=[]:=yWl (by omega)
  subst this;rfl
 |k+1,p,[],h=>rfl
 |k+1,p,b::l,h=>by
  have hw:=yMz (l:=b::l) (by simp)
  have hl:((b::l).drop (zLo (b::l)).2).length≤l.length:=by rw[yWh,yVt];omega
  rw[yVt]
  simp only[tW]
  rw[nR k _ _ (by rw[yVt]at h;omega),nR l.length _ _ hl]
theorem fF {s:List UInt8} {p:Nat} (h:s.length≤p):u0 s p=[]:=by
 rw[u0,show s.length-p=0 by omega];rfl
theorem j7 {s:List UInt8} {p:Nat} (h:p<s.length):u0 s p=(p,(Utf8.decode (sb s) p).1)::u0 s (p+(Utf8.decode (sb s) p).2):=by
 obtain⟨k,hk⟩:∃k,s.length-p=k+1:=⟨s.length-p-1,by omega⟩
 have hw:=bN s h
 obtain⟨b,l,hb⟩:∃b l,s.drop p=b::l:=by
  cases hd:s.drop p with
  |nil=>rw[List.drop_eq_nil_iff]at hd;omega
  |cons b l=>exact⟨b,l,rfl⟩
 have hlen:(b::l).length=s.length-p:=by rw[← hb,yWh]
 rw[u0,hk,hb,zFw,hb,u0]
 rw[zFw,hb]at hw
 simp only[tW]
 have e:(b::l).drop (zLo (b::l)).2=s.drop (p+(zLo (b::l)).2):=by rw[← hb,yYu]
 rw[e,nR k _ _ (by rw[yWh];omega),yWh]
theorem zKk (s:List UInt8):∀(k p:Nat),s.length-p≤k→(u0 s p).length≤s.length-p
 |0,p,h=>by rw[fF (by omega)];simp
 |k+1,p,h=>by
  by_cases hp:p<s.length
  ·have hw:=bN s hp
   rw[j7 hp,yVt]
   have:=zKk s k (p+(Utf8.decode (sb s) p).2) (by omega)
   omega
  ·rw[fF (by omega)];simp
theorem zEj (s:List UInt8):(kV s).length≤s.length:=by
 rw[kV,yVk]
 have:=zKk s s.length 0 (by omega)
 omega
theorem z0s {a b:Nat} (h:Nat.blt a b=false):b≤a:=by
 rcases yXv a b with h1|h1
 ·rw[show Nat.blt a b=true by rw[yYi];exact h1]at h;cases h
 ·exact h1
theorem z7z:(ByteArray.mk #[]).toList=[]:=mJ []
theorem yOj (s:List UInt8) (h:countC.cnd s):yBs s:=by
 have h:s.length≤1099511627776:=h
 have hr:=zEj s
 unfold yBs dA
 refine⟨(0,0),rfl,rfl,rfl,fun x=>x.1≤s.length∧x.2+(u0 s x.1).length=(kV s).length,fun x=>s.length-x.1,⟨by omega,by rw[kV,yVk];simp⟩,?_⟩
 rintro⟨p,n⟩ ⟨h1,h2⟩
 dsimp only at h1 h2 ⊢
 refine Cv.cnd.mk (fun hp=> ?_) (fun hp=> ?_)
 ·have hp:p<s.length:=by simpa[yYi]using hp
  have hw:=bN s hp
  rw[j7 hp,yVt]at h2
  refine⟨(p+(Utf8.decode (sb s) p).2,n+1),?_,rfl,rfl,⟨hw.2,by(first|omega|(dsimp only;omega))⟩,by(first|omega|(dsimp only;omega)),trivial⟩
  rw[w64 (by omega)];rfl
 ·have hp:s.length≤p:=by have:=z0s hp;simpa using this
  rw[fF hp]at h2
  exact⟨(),by rw[← h2];rfl,trivial⟩
theorem z9r:countC.ok Tryz.prog 197:=okw mixed gok0 0 (fun _=>[]) (fun s=>yLz s) [] Tryz.func197 yOj
theorem yUb (s:List UInt8) (h:symC.cnd s):yRy s:=by
 have h:s.length≤1099511627776:=h
 unfold yRy g8 zCn
 refine⟨0,rfl,rfl,fun p=>p≤s.length∧(kV s).all uL=(u0 s p).all fun x=>uL x.2,fun p=>s.length-p,⟨by omega,by rw[kV,List.all_map];rfl⟩,?_⟩
 rintro p ⟨h1,h2⟩
 refine Cv.cnd.mk (fun hp=> ?_) (fun hp=> ?_)
 ·have hp:p<s.length:=by simpa[yYi]using hp
  have hw:=bN s hp
  rw[j7 hp,List.all_cons]at h2
  generalize hc:(Utf8.decode (sb s) p).1=c at h2 ⊢
  generalize hww:(Utf8.decode (sb s) p).2=w at h2 hw ⊢
  dsimp only at h2
  have bad:uL c=false→∃(o:Unit),j5 s=false∧True:=fun e=>⟨(),by rw[j5,h2,e];rfl,trivial⟩
  have good:uL c=true→∃i':Nat,sb s=sb s∧i'=p+w∧(i'≤s.length∧(kV s).all uL=(u0 s i').all fun x=>uL x.2)∧s.length-i'<s.length-p∧True:=fun e=>⟨p+w,rfl,rfl,⟨hw.2,by rw[h2,e];rfl⟩,by omega,trivial⟩
  refine zJ (fun c1=>zJ (fun c2=> ?_) (fun c2=>zJ (fun c3=>zJ (fun c4=>Cv.cnd.mk (fun c5=> ?_) (fun c5=> ?_)) (fun c4=> ?_)) (fun c3=> ?_))) (fun c1=>zJ (fun c3=>zJ (fun c4=>Cv.cnd.mk (fun c5=> ?_) (fun c5=> ?_)) (fun c4=> ?_)) (fun c3=> ?_))
  all_goals first|(refine good ?_;simp[uL]at*;omega)|(refine bad ?_;simp[uL]at*;omega)
 ·have hp:s.length≤p:=by have:=z0s hp;simpa using this
  rw[fF hp]at h2
  have h2:(kV s).all uL=true:=h2
  refine Cv.cnd.mk (fun e=>⟨s,rfl,h,fun _ _=>⟨(),?_,trivial⟩⟩) (fun e=>⟨(),?_,trivial⟩)
  ·rw[mJ,z7z]at e
   have:s≠[]:=by simpa using e
   rw[j5,h2,yWd this]
   simp only[yYc]
   congr 1
   simp only[eq_iff_iff];omega
  ·have:s=[]:=by
    rw[mJ,z7z]at e
    simpa using e
   rw[j5,this];rfl
theorem yNs:symC.ok Tryz.prog 158:=okw mixed (gokc z9r gok0) 0 (fun _=>[]) (fun s=>yTf s) [] Tryz.func158 yUb
@[simp] theorem xD (l:List Int):(iE l).length=l.length:=by simp[iE]
theorem elI {l:List Int} {k:Nat} {n:Int} (h:l[k]? =some n):zE (iE l) k 0 1=some [D.v (.int .i64 n)]:=by
 simp[zE,iE,h];rfl
theorem yD {α:Type} {l:List α} {i:Nat} (h:i<l.length):∃x,l[i]? =some x:=⟨l[i],yWp h⟩
theorem zMh {n k:Nat} {f:Nat→Bool} (hk:k<n) (h:f k=false):(List.range n).all f=false:=by
 cases hh:(List.range n).all f
 ·rfl
 ·rw[yYk]at hh
  rw[hh k (by simpa using hk)]at h;cases h
theorem zUq {n:Nat} {f:Nat→Bool} (h:∀k<n,f k=true):(List.range n).all f=true:=by
 rw[yYk];intro k hk;exact h k (by simpa using hk)
theorem yGn (l:List Int) (h:monthsC.cnd l):z0z l:=by
 have h:l.length≤1099511627776:=h
 unfold z0z jL kI dI
 simp only[xD]
 refine⟨0,rfl,fun j=>j≤l.length∧∀k<j,qR l k=true,fun j=>l.length-j,⟨by omega,fun k hk=>by omega⟩,?_⟩
 rintro j ⟨h1,h2⟩
 have bad:j<l.length→qR l j=false→∃(o:Unit),xC l=false∧True:=fun hj e=>⟨(),by rw[xC,zMh hj e];rfl,trivial⟩
 have good:j<l.length→qR l j=true→∃i':Nat,(i':Int)=IntKind.i64.wrap ((j:Int)+1)∧(i'≤l.length∧∀k<i',qR l k=true)∧l.length-i'<l.length-j∧True:=fun hj e=>⟨j+1,by rw[w64 (by omega)];rfl,⟨by omega,fun k hk=>by
  rcases yXv k j with hk'|hk'
  ·exact h2 k hk'
  ·obtain rfl:k=j:=by omega
   exact e⟩,by omega,trivial⟩
 refine zJ (fun hj=> ?_) (fun hj=> ?_)
 ·have hj:j<l.length:=by omega
  obtain⟨n,hn⟩:=yD hj
  have hg:l.getD j 0=n:=by simp[hn]
  refine⟨⟨by omega,by omega⟩,n,elI hn,zJ (fun c1=>bad hj (by simp[qR,hn];omega)) (fun c1=>zJ (fun c2=>bad hj (by simp[qR,hn];omega)) (fun c2=>zJ (fun c3=> ?_) (fun c3=>good hj ?_)))⟩
  ·have e:IntKind.i64.wrap ((j:Int)-1)=((j-1:Nat):Int):=by rw[w64 (by omega)];omega
   obtain⟨m,hm⟩:=yD (l:=l) (i:=j-1) (by omega)
   rw[e]
   refine⟨⟨by omega,by omega⟩,m,elI hm,zJ (fun c4=>bad hj ?_) (fun c4=>good hj ?_)⟩
   ·simp[qR,hn,hm];omega
   ·simp[qR,hn,hm];omega
  ·simp[qR,hn];omega
 ·have e:(List.range l.length).all (qR l)=true:=zUq fun k hk=>h2 k (by omega)
  refine zJ (fun c=>⟨(),?_,trivial⟩) (fun c=>⟨(),?_,trivial⟩)
  ·rw[xC,e,yWd (show 2≤l.length by omega)]
   simp;omega
  ·rw[xC,yVw (show ¬2≤l.length by omega)];simp
theorem z6t:monthsC.ok Tryz.prog 159:=okw mixed gok0 0 (fun _=>[]) (fun _=>yGd) [] Tryz.func159 yGn
theorem zFh {f:Int→Int→Int} {l:List Int} {j:Nat} {n:Int} (h:l[j+1]? =some n):(l.take (j+2)).tail.foldl f ((l.take (j+2)).headD 0)=f ((l.take (j+1)).tail.foldl f ((l.take (j+1)).headD 0)) n:=by
 cases l with
 |nil=>simp at h
 |cons a l=>
  simp only[yXe]at h
  simp only[yWv,List.tail_cons,List.headD_cons]
  rw[yWs,h,y0t];rfl
theorem zTc {l:List Int} {n:Int} (h:l[0]? =some n) (f:Int→Int→Int):(l.take 1).tail.foldl f ((l.take 1).headD 0)=n:=by
 cases l with
 |nil=>simp at h
 |cons a l=>simpa using h
theorem yTe (l:List Int) (h:minC.cnd l):yRc l:=by
 obtain⟨h0,h⟩:0<l.length∧l.length≤1099511627776:=h
 unfold yRc kI dI
 simp only[xD]
 obtain⟨n,hn⟩:=yD h0
 refine zJ (fun c=>by omega) (fun c=>⟨⟨by omega,by omega⟩,n,elI hn,1,zTc hn min,rfl,fun j=>1≤j∧j≤l.length,fun j=>l.length-j,⟨by omega,by omega⟩,?_⟩)
 rintro j ⟨h1,h2⟩
 refine zJ (fun hj=> ?_) (fun hj=>⟨(),?_,trivial⟩)
 ·obtain⟨m,hm⟩:=yD (l:=l) (i:=j) (by omega)
  refine⟨⟨by omega,by omega⟩,m,elI hm,j+1,?_,?_,⟨by omega,by omega⟩,by(first|omega|(dsimp only;omega)),trivial⟩
  ·obtain⟨k,rfl⟩:∃k,j=k+1:=⟨j-1,by omega⟩
   first
    |(rw[nT,zFh hm,← nT];done)
    |(rw[nT,zFh hm,← nT];generalize nT (l.take (k+1))=x;split<;>omega)
  ·rw[w64 (by omega)];rfl
 ·rw[yVx (by omega)]
theorem yLp:minC.ok Tryz.prog 161:=okw mixed gok0 0 (fun _=>[]) (fun l=>yTb l) [] Tryz.func161 yTe
theorem yUi (l:List Int) (h:maxC.cnd l):yPh l:=by
 obtain⟨h0,h⟩:0<l.length∧l.length≤1099511627776:=h
 unfold yPh kI dI
 simp only[xD]
 obtain⟨n,hn⟩:=yD h0
 refine zJ (fun c=>by omega) (fun c=>⟨⟨by omega,by omega⟩,n,elI hn,1,zTc hn max,rfl,fun j=>1≤j∧j≤l.length,fun j=>l.length-j,⟨by omega,by omega⟩,?_⟩)
 rintro j ⟨h1,h2⟩
 refine zJ (fun hj=> ?_) (fun hj=>⟨(),?_,trivial⟩)
 ·obtain⟨m,hm⟩:=yD (l:=l) (i:=j) (by omega)
  refine⟨⟨by omega,by omega⟩,m,elI hm,j+1,?_,?_,⟨by omega,by omega⟩,by(first|omega|(dsimp only;omega)),trivial⟩
  ·obtain⟨k,rfl⟩:∃k,j=k+1:=⟨j-1,by omega⟩
   rw[pZ,zFh hm,← pZ]
   generalize pZ (l.take (k+1))=x
   split<;>omega
  ·rw[w64 (by omega)];rfl
 ·rw[yVx (by omega)]
theorem yLb:maxC.ok Tryz.prog 162:=okw mixed gok0 0 (fun _=>[]) (fun l=>yTo l) [] Tryz.func162 yUi
open Go Cv Go.Proofs
@[reducible] def Prd.row (p:Prd):AObj:= .cells p.cells 26
structure zWm where
 p:Prd
 n:Int
structure zRu where
 p:Prd
 l:List Int
def qM (t n:Int):Bool:=n.tmod t !=0
def offC:Con:=con1 zWm (fun i=>[zA i.n,.nm 0 0]) (fun i=>[i.p.row]) (fun i=>1≤i.p.tick) (fun i=>yF (qM i.p.tick i.n)) (fun i=>[i.p.row])
@[reducible] def yQy:V:= .fn 198 [] [.nm 0 0]
def zFn (k:Option Nat):Int:=match k with
 |some k=>k
 |none=> -1
def idxC:Con:=con1 zRu (fun i=>[iV i.l,yQy]) (fun i=>[i.p.row]) (fun i=>1≤i.p.tick∧i.l.length≤1099511627776) (fun i=>zA (zFn (i.l.findIdx? (qM i.p.tick)))) (fun i=>[i.p.row])
def yVa (i:zRu):List SAnn:=[{ι:=Nat,slots:=fun j=>[(8,zA j)],rows:=fun _=>[]}]
def containsC:Con:=con1 zRu (fun i=>[iV i.l,yQy]) (fun i=>[i.p.row]) (fun i=>1≤i.p.tick∧i.l.length≤1099511627776) (fun i=>yF (i.l.any (qM i.p.tick))) (fun i=>[i.p.row])
def qJ (p:Prd):Bool:=decide (1≤p.tick) && decide (p.tick≤1000) && !qM p.tick p.low && !qM p.tick p.high && !qM p.tick p.wide && !p.settle.any (qM p.tick)
def ticksC:Con:=con1 Prd (fun p=>[prdV p]) (fun _=>[]) Prd.small (fun p=>yF (qJ p)) (fun _=>[])
def qI (p:Prd):Bool:=decide (p.low< -1000000)||decide (p.low≥p.high)||decide (p.high>1000000)||decide (p.wide<0)||decide (p.wide>p.high-p.low)
def xE (p:Prd):Bool:=decide (p.settle.length≠p.months.length)||decide (nT p.settle<p.low)||decide (pZ p.settle>p.high)
def kD (p:Prd):Bool:=decide (p.rule<1)||decide (p.rule>3)
def x0 (p:Prd):Bool:=decide (p.top<0)||decide (p.top>1000000)||decide (p.least<1)||decide (p.least>1000)||decide (p.part<0)||decide (p.part>100)
def Prd.check (p:Prd):Int:=
 if !j5 p.code then 12 else if !xC p.months then 1 else if !qJ p then 22 else if qI p then 23 else if xE p then 1 else if kD p then 31 else if x0 p then 24 else 0
def checkC:Con:=con1 Prd (fun p=>[prdV p]) (fun _=>[]) Prd.small (fun p=>zA p.check) (fun _=>[])
def Prd.count (p:Prd):Nat:=if p.check=0 then p.months.length+p.months.length*(p.months.length-1) / 2 else 0
def pcountC:Con:=con1 Prd (fun p=>[prdV p]) (fun _=>[]) Prd.small (fun p=>zA p.count) (fun _=>[])
structure dK where
 p:Prd
 n:Int
def yK (n:Nat):Nat→Nat
 |0=>n
 |k+1=>yK n k+(n-1-k)
def kJ (n inst:Nat):Nat→Nat→Int×Int×Bool
 |0,_=>(0,0,false)
 |k+1,m=>if inst<yK n m+(n-1-m)then(m,m+1+(inst-yK n m:Nat),true)else kJ n inst k (m+1)
def Prd.legs (p:Prd) (i:Int):Int×Int×Bool:=
 if i<0∨(p.count:Int)≤i then(0,0,false)else if i<p.months.length then(i,i,false)else kJ p.months.length i.toNat p.months.length 0
def legsC:Con:=con1 dK (fun i=>[prdV i.p,zA i.n]) (fun _=>[]) (fun i=>i.p.small) (fun i=> .tup [zA (i.p.legs i.n).1,zA (i.p.legs i.n).2.1,yF (i.p.legs i.n).2.2]) (fun _=>[])
structure pY where
 p:Prd
 a:Int
 b:Int
def Prd.spread (p:Prd) (a b:Int):Int×Bool:=
 if p.check≠0∨a<0∨b≤a∨(p.months.length:Int)≤b then(0,false)else((yK p.months.length a.toNat:Int)+b-a-1,true)
def spreadC:Con:=con1 pY (fun i=>[prdV i.p,zA i.a,zA i.b]) (fun _=>[]) (fun i=>i.p.small) (fun i=> .tup [zA (i.p.spread i.a i.b).1,yF (i.p.spread i.a i.b).2]) (fun _=>[])
def Prd.price (p:Prd) (i n:Int):Int:=
 if p.count=0 then 1 else if i<0∨(p.count:Int)≤i then 20 else if qM p.tick n then 22 else
 if n<(if(p.months.length:Int)≤i then-p.wide else p.low)∨(if(p.months.length:Int)≤i then p.wide else p.high)<n then 23 else 0
def priceC:Con:=con1 pY (fun i=>[prdV i.p,zA i.a,zA i.b]) (fun _=>[]) (fun i=>i.p.small) (fun i=>zA (i.p.price i.a i.b)) (fun _=>[])
structure I2 where
 x:Int
 y:Int
@[reducible] def yO (n:Int):Prop:= -9223372036854775808≤n∧n≤9223372036854775807
def uR (x y:Int):Int×Bool:=if yO (x+y)then(x+y,true)else(0,false)
def uS (x y:Int):Int×Bool:=if yO (x-y)then(x-y,true)else(0,false)
def addC:Con:=con1 I2 (fun i=>[zA i.x,zA i.y]) (fun _=>[]) (fun i=>yO i.x∧yO i.y) (fun i=> .tup [zA (uR i.x i.y).1,yF (uR i.x i.y).2]) (fun _=>[])
def subC:Con:=con1 I2 (fun i=>[zA i.x,zA i.y]) (fun _=>[]) (fun i=>yO i.x∧yO i.y) (fun i=> .tup [zA (uS i.x i.y).1,yF (uS i.x i.y).2]) (fun _=>[])
def ySs (i:dK):List SAnn:=[{ι:=Nat,slots:=fun m=>[(8,zA (yK i.p.months.length m)),(33,zA m)],rows:=fun _=>[]}]
def yEa (i:pY):List SAnn:=[{ι:=Nat,slots:=fun m=>[(9,zA (yK i.p.months.length m)),(33,zA m)],rows:=fun _=>[]}]
open Go Cv Go.Proofs
def ySj (i:zWm):Prop:=
 IntKind.i64=IntKind.i64∧i.p.tick≠0∧∃(a:Unit),qM i.p.tick i.n=(i.n.tmod i.p.tick !=0)∧sb i.p.code=sb i.p.code∧iE i.p.months=iE i.p.months∧i.p.tick=i.p.tick∧i.p.low=i.p.low∧i.p.high=i.p.high∧i.p.wide=i.p.wide∧i.p.rule=i.p.rule∧i.p.top=i.p.top∧i.p.least=i.p.least∧i.p.part=i.p.part∧iE i.p.settle=iE i.p.settle∧True
def yQv (i:zRu):Prop:=
 ∃(a:Nat),(↑a:Int)=0∧∃(b:Nat→Prop),∃(c:Nat→Nat),b a∧∀(d:Nat),b d→cnd (decide ((↑d:Int)<(↑(iE i.l).length:Int))) ((0≤(↑d:Int)∧(↑d:Int)<(↑(iE i.l).length:Int))∧∃(e:Int),zE (iE i.l) (↑d:Int).toNat 0 1=some [dI e]∧∃(f:zWm),f.n=e∧sb f.p.code=sb i.p.code∧iE f.p.months=iE i.p.months∧f.p.tick=i.p.tick∧f.p.low=i.p.low∧f.p.high=i.p.high∧f.p.wide=i.p.wide∧f.p.rule=i.p.rule∧f.p.top=i.p.top∧f.p.least=i.p.least∧f.p.part=i.p.part∧iE f.p.settle=iE i.p.settle∧1≤f.p.tick∧∀(g:Unit),True→cnd (qM f.p.tick f.n) (∃(h:Unit),zFn (List.findIdx? (qM i.p.tick) i.l)=(↑d:Int)∧sb i.p.code=sb f.p.code∧iE i.p.months=iE f.p.months∧i.p.tick=f.p.tick∧i.p.low=f.p.low∧i.p.high=f.p.high∧i.p.wide=f.p.wide∧i.p.rule=f.p.rule∧i.p.top=f.p.top∧i.p.least=f.p.least∧i.p.part=f.p.part∧iE i.p.settle=iE f.p.settle∧True) (∃(h:Nat),(↑h:Int)=IntKind.i64.wrap ((↑d:Int)+1)∧b h∧c h<c d∧Sx.AObj.cells (gY (bQ 1 ((1:Nat)+(0:Nat)) ((1:Nat)-(1:Nat)) [((0:Nat),(0:Nat))]) f.p.cells) (26:TypeId)=i.p.row)) (∃(e:Unit),zFn (List.findIdx? (qM i.p.tick) i.l)=(-1)∧sb i.p.code=sb i.p.code∧iE i.p.months=iE i.p.months∧i.p.tick=i.p.tick∧i.p.low=i.p.low∧i.p.high=i.p.high∧i.p.wide=i.p.wide∧i.p.rule=i.p.rule∧i.p.top=i.p.top∧i.p.least=i.p.least∧i.p.part=i.p.part∧iE i.p.settle=iE i.p.settle∧True)
def zOj (i:zRu):Prop:=
 ∃(a:zRu),iE a.l=iE i.l∧sb a.p.code=sb i.p.code∧iE a.p.months=iE i.p.months∧a.p.tick=i.p.tick∧a.p.low=i.p.low∧a.p.high=i.p.high∧a.p.wide=i.p.wide∧a.p.rule=i.p.rule∧a.p.top=i.p.top∧a.p.least=i.p.least∧a.p.part=i.p.part∧iE a.p.settle=iE i.p.settle∧(1≤a.p.tick∧a.l.length≤1099511627776)∧∀(b:Unit),True→∃(c:Unit),i.l.any (qM i.p.tick)=decide (zFn (List.findIdx? (qM a.p.tick) a.l)≥0)∧sb i.p.code=sb a.p.code∧iE i.p.months=iE a.p.months∧i.p.tick=a.p.tick∧i.p.low=a.p.low∧i.p.high=a.p.high∧i.p.wide=a.p.wide∧i.p.rule=a.p.rule∧i.p.top=a.p.top∧i.p.least=a.p.least∧i.p.part=a.p.part∧iE i.p.settle=iE a.p.settle∧True
def z7y (p:Prd):Prop:=
 cnd (decide (p.tick<1)) (∃(a:Unit),qJ p=false∧True) (cnd (decide (p.tick>1000)) (∃(a:Unit),qJ p=false∧True) (∃(a:zWm),a.n=p.low∧sb a.p.code=sb p.code∧iE a.p.months=iE p.months∧a.p.tick=p.tick∧a.p.low=p.low∧a.p.high=p.high∧a.p.wide=p.wide∧a.p.rule=p.rule∧a.p.top=p.top∧a.p.least=p.least∧a.p.part=p.part∧iE a.p.settle=iE p.settle∧1≤a.p.tick∧∀(b:Unit),True→cnd (!qM a.p.tick a.n) (∃(c:zWm),c.n=a.p.high∧sb c.p.code=sb a.p.code∧iE c.p.months=iE a.p.months∧c.p.tick=a.p.tick∧c.p.low=a.p.low∧c.p.high=a.p.high∧c.p.wide=a.p.wide∧c.p.rule=a.p.rule∧c.p.top=a.p.top∧c.p.least=a.p.least∧c.p.part=a.p.part∧iE c.p.settle=iE a.p.settle∧1≤c.p.tick∧∀(d:Unit),True→cnd (!qM c.p.tick c.n) (∃(e:zWm),e.n=c.p.wide∧sb e.p.code=sb c.p.code∧iE e.p.months=iE c.p.months∧e.p.tick=c.p.tick∧e.p.low=c.p.low∧e.p.high=c.p.high∧e.p.wide=c.p.wide∧e.p.rule=c.p.rule∧e.p.top=c.p.top∧e.p.least=c.p.least∧e.p.part=c.p.part∧iE e.p.settle=iE c.p.settle∧1≤e.p.tick∧∀(f:Unit),True→cnd (!qM e.p.tick e.n) (∃(g:zRu),iE g.l=iE e.p.settle∧sb g.p.code=sb e.p.code∧iE g.p.months=iE e.p.months∧g.p.tick=e.p.tick∧g.p.low=e.p.low∧g.p.high=e.p.high∧g.p.wide=e.p.wide∧g.p.rule=e.p.rule∧g.p.top=e.p.top∧g.p.least=e.p.least∧g.p.part=e.p.part∧iE g.p.settle=iE e.p.settle∧(1≤g.p.tick∧g.l.length≤1099511627776)∧∀(h:Unit),True→∃(j:Unit),qJ p=!g.l.any (qM g.p.tick)∧True) (∃(g:Unit),qJ p=false∧True)) (∃(e:Unit),qJ p=false∧True)) (∃(c:Unit),qJ p=false∧True)))
def z7 (a:Prd):Prop:=a.code.length≤1099511627776∧a.months.length≤1099511627776∧a.settle.length≤1099511627776
def wK (a:Prd):=(↑(iE a.settle).length:Int)
def xA (a:Prd):=(↑(iE a.months).length:Int)
def yBm (p:Prd):Prop:=
 ∃(a:List UInt8),sb a=sb p.code∧a.length≤1099511627776∧∀(b:Unit),True→cnd (!j5 a) (∃(c:Unit),p.check=12∧True) (∃(c:List Int),iE c=iE p.months∧c.length≤1099511627776∧∀(d:Unit),True→cnd (!xC c) (∃(e:Unit),p.check=1∧True) (∃(e:Prd),sb e.code=sb p.code∧iE e.months=iE p.months∧e.tick=p.tick∧e.low=p.low∧e.high=p.high∧e.wide=p.wide∧e.rule=p.rule∧e.top=p.top∧e.least=p.least∧e.part=p.part∧iE e.settle=iE p.settle∧(z7 e)∧∀(f:Unit),True→cnd (!qJ e) (∃(g:Unit),p.check=22∧True) (cnd (decide (p.low<(-1000000))) (∃(g:Unit),p.check=23∧True) (cnd (decide (p.low≥p.high)) (∃(g:Unit),p.check=23∧True) (cnd (decide (p.high>1000000)) (∃(g:Unit),p.check=23∧True) (cnd (decide (p.wide<0)) (∃(g:Unit),p.check=23∧True) (cnd (decide (p.wide>IntKind.i64.wrap (p.high-p.low))) (∃(g:Unit),p.check=23∧True) (cnd ((wK p) !=(xA p)) (∃(g:Unit),p.check=1∧True) (∃(g:List Int),iE g=iE p.settle∧(0<g.length∧g.length≤1099511627776)∧∀(h:Unit),True→p.low=p.low∧cnd (decide (nT g<p.low)) (∃(j:Unit),p.check=1∧True) (∃(j:List Int),iE j=iE p.settle∧(0<j.length∧j.length≤1099511627776)∧∀(k:Unit),True→p.high=p.high∧cnd (decide (pZ j>p.high)) (∃(l:Unit),p.check=1∧True) (cnd (decide (p.rule<1)) (∃(l:Unit),p.check=31∧True) (cnd (decide (p.rule>3)) (∃(l:Unit),p.check=31∧True) (cnd (decide (p.top<0)) (∃(l:Unit),p.check=24∧True) (cnd (decide (p.top>1000000)) (∃(l:Unit),p.check=24∧True) (cnd (decide (p.least<1)) (∃(l:Unit),p.check=24∧True) (cnd (decide (p.least>1000)) (∃(l:Unit),p.check=24∧True) (cnd (decide (p.part<0)) (∃(l:Unit),p.check=24∧True) (cnd (decide (p.part>100)) (∃(l:Unit),p.check=24∧True) (∃(l:Unit),p.check=0∧True)))))))))))))))))))
def nO (a:Prd) (b:Prd):Prop:=sb a.code=sb b.code∧iE a.months=iE b.months∧a.tick=b.tick∧a.low=b.low∧a.high=b.high∧a.wide=b.wide∧a.rule=b.rule∧a.top=b.top∧a.least=b.least∧a.part=b.part∧iE a.settle=iE b.settle∧(z7 a)∧∀(c:Unit),True→cnd (a.check !=0) (∃(d:Unit),(↑b.count:Int)=0∧True) (IntKind.i64=IntKind.i64∧(2:Int)≠(0:Int)∧∃(d:Unit),(↑b.count:Int)=IntKind.i64.wrap ((xA b)+IntKind.i64.wrap ((IntKind.i64.wrap ((xA b)*IntKind.i64.wrap ((xA b)-1))).tdiv 2))∧True)
def z2r (p:Prd):Prop:=
 ∃(a:Prd),nO a p
def mS (a:dK):Prop:=Sx.AObj.cells [V.d (D.v (Value.string (sb a.p.code))),V.own 0,V.d (dI a.p.tick),V.d (dI a.p.low),V.d (dI a.p.high),V.d (dI a.p.wide),V.d (dI a.p.rule),V.d (dI a.p.top),V.d (dI a.p.least),V.d (dI a.p.part),V.own ((0:Nat)+(1:Nat))] 26=Sx.AObj.cells [V.d (D.v (Value.string (sb a.p.code))),V.own 0,V.d (dI a.p.tick),V.d (dI a.p.low),V.d (dI a.p.high),V.d (dI a.p.wide),V.d (dI a.p.rule),V.d (dI a.p.top),V.d (dI a.p.least),V.d (dI a.p.part),V.own ((0:Nat)+(1:Nat))] 26∧AObj.fro 1 (iE a.p.settle)=AObj.fro 1 (iE a.p.settle)∧AObj.fro 1 (iE a.p.months)=AObj.fro 1 (iE a.p.months)
def zAq (a:Nat→Prop) (b:Nat) (c:Nat→Nat) (d:Nat) (e:dK):Prop:=a b∧c b<c d∧mS e
def vW (a:dK) (b:Nat):=(↑(yK a.p.months.length b):Int)
def wS (a:dK):=(↑(iE a.p.months).length:Int)
def zEf (a:dK) (b:Nat):=((vW a b)+IntKind.i64.wrap (IntKind.i64.wrap ((wS a)-1)-(↑b:Int)))
def gG (a:dK):Prop:=∃(b:Unit),(a.p.legs a.n).fst=0∧(a.p.legs a.n).snd.fst=0∧(a.p.legs a.n).snd.snd=false∧True
def tX (a:dK):Prop:=∃(b:Unit),(a.p.legs a.n).fst=a.n∧(a.p.legs a.n).snd.fst=a.n∧(a.p.legs a.n).snd.snd=false∧True
def yIm (i:dK):Prop:=
 ∃(a:Prd),sb a.code=sb i.p.code∧iE a.months=iE i.p.months∧a.tick=i.p.tick∧a.low=i.p.low∧a.high=i.p.high∧a.wide=i.p.wide∧a.rule=i.p.rule∧a.top=i.p.top∧a.least=i.p.least∧a.part=i.p.part∧iE a.settle=iE i.p.settle∧(z7 a)∧∀(b:Unit),True→cnd (decide (i.n<0)) (gG i) (cnd (decide (i.n≥(↑a.count:Int))) (gG i) (cnd (decide (i.n<(wS i))) (tX i) (∃(c:Nat),(vW i c)=(wS i)∧(↑c:Int)=0∧∃(d:Nat→Prop),∃(e:Nat→Nat),d c∧∀(f:Nat),d f→cnd (decide ((↑f:Int)<(wS i))) (cnd (decide (i.n<IntKind.i64.wrap (zEf i f))) (∃(g:Unit),(i.p.legs i.n).fst=(↑f:Int)∧(i.p.legs i.n).snd.fst=IntKind.i64.wrap (IntKind.i64.wrap (IntKind.i64.wrap ((↑f:Int)+1)+i.n)-(vW i f))∧(i.p.legs i.n).snd.snd=true∧True) (∃(g:Nat),(vW i g)=IntKind.i64.wrap (zEf i f)∧(↑g:Int)=IntKind.i64.wrap ((↑f:Int)+1)∧zAq d g e f i)) (gG i))))
def dG (a:pY):Prop:=∃(b:Unit),(a.p.spread a.a a.b).fst=0∧(a.p.spread a.a a.b).snd=false∧True
def z3e (i:pY):Prop:=
 ∃(a:Prd),sb a.code=sb i.p.code∧iE a.months=iE i.p.months∧a.tick=i.p.tick∧a.low=i.p.low∧a.high=i.p.high∧a.wide=i.p.wide∧a.rule=i.p.rule∧a.top=i.p.top∧a.least=i.p.least∧a.part=i.p.part∧iE a.settle=iE i.p.settle∧(z7 a)∧∀(b:Unit),True→cnd (a.check !=0) (dG i) (cnd (decide (i.a<0)) (dG i) (cnd (decide (i.a≥i.b)) (dG i) (cnd (decide (i.b≥(↑(iE i.p.months).length:Int))) (dG i) (∃(c:Nat),(↑(yK i.p.months.length c):Int)=(↑(iE i.p.months).length:Int)∧(↑c:Int)=0∧∃(d:Nat→Prop),∃(e:Nat→Nat),d c∧∀(f:Nat),d f→cnd (decide ((↑f:Int)<i.a)) (∃(g:Nat),(↑(yK i.p.months.length g):Int)=IntKind.i64.wrap ((↑(yK i.p.months.length f):Int)+IntKind.i64.wrap (IntKind.i64.wrap ((↑(iE i.p.months).length:Int)-1)-(↑f:Int)))∧(↑g:Int)=IntKind.i64.wrap ((↑f:Int)+1)∧d g∧e g<e f∧Sx.AObj.cells [V.d (D.v (Value.string (sb i.p.code))),V.own 0,V.d (dI i.p.tick),V.d (dI i.p.low),V.d (dI i.p.high),V.d (dI i.p.wide),V.d (dI i.p.rule),V.d (dI i.p.top),V.d (dI i.p.least),V.d (dI i.p.part),V.own ((0:Nat)+(1:Nat))] 26=Sx.AObj.cells [V.d (D.v (Value.string (sb i.p.code))),V.own 0,V.d (dI i.p.tick),V.d (dI i.p.low),V.d (dI i.p.high),V.d (dI i.p.wide),V.d (dI i.p.rule),V.d (dI i.p.top),V.d (dI i.p.least),V.d (dI i.p.part),V.own ((0:Nat)+(1:Nat))] 26∧AObj.fro 1 (iE i.p.settle)=AObj.fro 1 (iE i.p.settle)∧AObj.fro 1 (iE i.p.months)=AObj.fro 1 (iE i.p.months)) (∃(g:Unit),(i.p.spread i.a i.b).fst=IntKind.i64.wrap (IntKind.i64.wrap (IntKind.i64.wrap ((↑(yK i.p.months.length f):Int)+i.b)-i.a)-1)∧(i.p.spread i.a i.b).snd=true∧True)))))
def yDi (i:pY):Prop:=
 ∃(a:Prd),sb a.code=sb i.p.code∧iE a.months=iE i.p.months∧a.tick=i.p.tick∧a.low=i.p.low∧a.high=i.p.high∧a.wide=i.p.wide∧a.rule=i.p.rule∧a.top=i.p.top∧a.least=i.p.least∧a.part=i.p.part∧iE a.settle=iE i.p.settle∧(z7 a)∧∀(b:Unit),True→cnd ((↑a.count:Int)==0) (∃(c:Unit),i.p.price i.a i.b=1∧True) (cnd (decide (i.a<0)) (∃(c:Unit),i.p.price i.a i.b=20∧True) (cnd (decide (i.a≥(↑a.count:Int))) (∃(c:Unit),i.p.price i.a i.b=20∧True) (IntKind.i64=IntKind.i64∧i.p.tick≠0∧cnd (i.b.tmod i.p.tick !=0) (∃(c:Unit),i.p.price i.a i.b=22∧True) (cnd (decide (i.a≥(↑(iE i.p.months).length:Int))) (cnd (decide (i.b<IntKind.i64.wrap (0-i.p.wide))) (∃(c:Unit),i.p.price i.a i.b=23∧True) (cnd (decide (i.b>i.p.wide)) (∃(c:Unit),i.p.price i.a i.b=23∧True) (∃(c:Unit),i.p.price i.a i.b=0∧True))) (cnd (decide (i.b<i.p.low)) (∃(c:Unit),i.p.price i.a i.b=23∧True) (cnd (decide (i.b>i.p.high)) (∃(c:Unit),i.p.price i.a i.b=23∧True) (∃(c:Unit),i.p.price i.a i.b=0∧True)))))))
def zJv (a:I2):Prop:=∃(b:Unit),(uR a.x a.y).fst=IntKind.i64.wrap (a.x+a.y)∧(uR a.x a.y).snd=true∧True
def yQt (i:I2):Prop:=
 cnd (decide (i.x<0)==decide (i.y<0)) (cnd (!decide (IntKind.i64.wrap (i.x+i.y)<0)==decide (i.x<0)) (∃(a:Unit),(uR i.x i.y).fst=0∧(uR i.x i.y).snd=false∧True) (zJv i)) (zJv i)
def zIf (a:I2):Prop:=∃(b:Unit),(uS a.x a.y).fst=IntKind.i64.wrap (a.x-a.y)∧(uS a.x a.y).snd=true∧True
def ySz (i:I2):Prop:=
 cnd (!decide (i.x<0)==decide (i.y<0)) (cnd (!decide (IntKind.i64.wrap (i.x-i.y)<0)==decide (i.x<0)) (∃(a:Unit),(uS i.x i.y).fst=0∧(uS i.x i.y).snd=false∧True) (zIf i)) (zIf i)
open Go Cv Go.Proofs
theorem yUs (i:zWm) (h:offC.cnd i):ySj i:=by
 have h:1≤i.p.tick:=h
 unfold ySj;exact kp
theorem z9b:offC.ok Tryz.prog 198:=okw mixed gok0 0 (fun _=>[]) (fun _=>[]) [] Tryz.func198 yUs
theorem zFc {α:Type} {f:α→Bool} {l:List α} (h:∀(k:Nat) (x:α),l[k]? =some x→f x=false):l.findIdx? f=none:=by
 rw[yZt]
 intro x hx
 obtain⟨k,hk⟩:=y0v hx
 exact h k x hk
theorem zDc {α:Type} {f:α→Bool} {l:List α} {j:Nat} {x:α} (h1:l[j]? =some x) (h2:f x=true) (h:∀k<j,∀x:α,l[k]? =some x→f x=false):l.findIdx? f=some j:=by
 rw[yYn]
 obtain⟨hj,rfl⟩:=yVn.1 h1
 exact⟨hj,h2,fun k hk=>by rw[h k hk _ (yWp (by omega))];simp⟩
theorem yTk (i:zRu) (h:idxC.cnd i):yQv i:=by
 obtain⟨h1,h2⟩:1≤i.p.tick∧i.l.length≤1099511627776:=h
 unfold yQv dI
 simp only[xD]
 refine⟨0,rfl,fun j=>j≤i.l.length∧∀k<j,∀x,i.l[k]? =some x→qM i.p.tick x=false,fun j=>i.l.length-j,⟨by omega,fun k hk=>by omega⟩,?_⟩
 rintro j ⟨h3,h4⟩
 refine zJ (fun hj=> ?_) (fun hj=> ?_)
 ·obtain⟨n,hn⟩:=yD (l:=i.l) (i:=j) (by omega)
  refine⟨⟨by omega,by omega⟩,n,elI hn,⟨i.p,n⟩,?_⟩
  (repeat'(first|exact rfl|exact trivial|assumption|apply And.intro|refine fun(_:Unit) (_:True)=>?_|refine Exists.intro () ?_|omega|(dsimp only;omega)))
  refine Cv.cnd.mk (fun e=> ?_) (fun e=> ?_)
  ·rw[zDc hn e h4];exact kp
  ·refine⟨j+1,by rw[w64 (by omega)];rfl,⟨by omega,fun k hk x hx=> ?_⟩,by(first|omega|(dsimp only;omega)),rfl⟩
   rcases yXv k j with hk'|hk'
   ·exact h4 k hk' x hx
   ·obtain rfl:k=j:=by omega
    rw[hn]at hx;cases hx;exact e
 ·rw[zFc fun k x hx=>h4 k (by have:=(yVn.1 hx).1;omega) x hx];exact kp
theorem yMu:idxC.ok Tryz.prog 231:=okw mixed (gokc z9b gok0) 0 (fun _=>[]) (fun i=>yVa i) [] Tryz.func231 yTk
theorem z4n {l:List Int} {f:Int→Bool}:l.any f=decide (zFn (l.findIdx? f)≥0):=by
 cases hf:l.findIdx? f with
 |none=>
  rw[yZt]at hf
  have:l.any f=false:=by rw[y1i];intro x hx;simp[hf x hx]
  rw[this];rfl
 |some k=>
  rw[yYn]at hf
  obtain⟨hk,h1,_⟩:=hf
  have:l.any f=true:=by rw[List.any_eq_true];exact⟨_,List.getElem_mem hk,h1⟩
  rw[this,zFn,yWd (by omega)]
theorem z4o (i:zRu) (h:containsC.cnd i):zOj i:=by
 unfold zOj
 have h':1≤i.p.tick∧i.l.length≤1099511627776:=h
 refine⟨i,?_⟩
 (repeat'(first|exact rfl|exact trivial|assumption|apply And.intro|refine fun(_:Unit) (_:True)=>?_|refine Exists.intro () ?_|omega|(dsimp only;omega)))
 exact z4n
theorem zVh:containsC.ok Tryz.prog 199:=okw mixed (gokc yMu gok0) 0 (fun _=>[]) (fun _=>[]) [] Tryz.func199 z4o
theorem yNj (p:Prd) (h:ticksC.cnd p):z7y p:=by
 obtain⟨h1,h2,h3⟩:p.small:=h
 unfold z7y
 refine zJ (fun c1=>⟨(),by rw[qJ,yVw (by omega)];rfl,trivial⟩) (fun c1=>zJ (fun c2=>⟨(),by rw[qJ,yVw (show ¬p.tick≤1000 by omega)];simp,trivial⟩) (fun c2=>⟨⟨p,p.low⟩,?_⟩))
 have e1:qJ p=(!qM p.tick p.low && !qM p.tick p.high && !qM p.tick p.wide && !p.settle.any (qM p.tick)):=by
  rw[qJ,yWd (by omega),yWd (by omega)];rfl
 rw[e1]
 (repeat'(first|exact rfl|exact trivial|assumption|apply And.intro|refine fun(_:Unit) (_:True)=>?_|refine Exists.intro () ?_|omega|(dsimp only;omega)))
 refine Cv.cnd.mk (fun c3=>⟨⟨p,p.high⟩,?_⟩) (fun c3=>⟨(),?_,trivial⟩)
 ·dsimp only at c3
  (repeat'(first|exact rfl|exact trivial|assumption|apply And.intro|refine fun(_:Unit) (_:True)=>?_|refine Exists.intro () ?_|omega|(dsimp only;omega)))
  refine Cv.cnd.mk (fun c4=>⟨⟨p,p.wide⟩,?_⟩) (fun c4=>⟨(),?_,trivial⟩)
  ·dsimp only at c4
   (repeat'(first|exact rfl|exact trivial|assumption|apply And.intro|refine fun(_:Unit) (_:True)=>?_|refine Exists.intro () ?_|omega|(dsimp only;omega)))
   refine Cv.cnd.mk (fun c5=>⟨⟨p,p.settle⟩,?_⟩) (fun c5=>⟨(),?_,trivial⟩)
   ·dsimp only at c5
    (repeat'(first|exact rfl|exact trivial|assumption|apply And.intro|refine fun(_:Unit) (_:True)=>?_|refine Exists.intro () ?_|omega|(dsimp only;omega)))
    rw[c3,c4,c5];simp
   ·dsimp only at c5
    rw[c5];simp
  ·dsimp only at c4
   rw[c4];simp
 ·dsimp only at c3
  rw[c3];simp
theorem z8z:ticksC.ok Tryz.prog 160:=okw mixed (gokc z9b (gokc zVh gok0)) 0 (fun _=>[]) (fun _=>[]) [] Tryz.func160 yNj
theorem yLm (p:Prd) (h:checkC.cnd p):yBm p:=by
 obtain⟨h1,h2,h3⟩:p.small:=h
 unfold yBm xA wK z7
 simp only[xD]
 refine⟨p.code,rfl,h1,fun _ _=>Cv.cnd.mk (fun c1=>⟨(),by rw[Prd.check,yVl c1],trivial⟩) (fun c1=>⟨p.months,rfl,h2,fun _ _=>Cv.cnd.mk (fun c2=>⟨(),by rw[Prd.check,yVj (by simp[c1]),yVl c2],trivial⟩) (fun c2=>⟨p,?_⟩)⟩)⟩
 (repeat'(first|exact rfl|exact trivial|assumption|apply And.intro|refine fun(_:Unit) (_:True)=>?_|refine Exists.intro () ?_|omega|(dsimp only;omega)))
 refine Cv.cnd.mk (fun c3=>⟨(),by rw[Prd.check,yVj (by simp[c1]),yVj (by simp[c2]),yVl c3],trivial⟩) (fun c3=> ?_)
 have e0:p.check=if qI p then 23 else if xE p then 1 else if kD p then 31 else if x0 p then 24 else 0:=by
  rw[Prd.check,yVj (by simp[c1]),yVj (by simp[c2]),yVj (by simp[c3])]
 have b (hb:qI p=true):∃(o:Unit),p.check=23∧True:=⟨(),by rw[e0,yVl hb],trivial⟩
 refine zJ (fun d1=>b (by simp[qI,d1])) fun d1=>zJ (fun d2=>b (by simp[qI];omega)) fun d2=>zJ (fun d3=>b (by simp[qI];omega)) fun d3=>zJ (fun d4=>b (by simp[qI];omega)) fun d4=> ?_
 rw[w64 (by omega)]
 refine zJ (fun d5=>b (by simp[qI];omega)) fun d5=> ?_
 have e1:p.check=if xE p then 1 else if kD p then 31 else if x0 p then 24 else 0:=by
  rw[e0,yVj (by simp[qI];omega)]
 have s (hb:xE p=true):∃(o:Unit),p.check=1∧True:=⟨(),by rw[e1,yVl hb],trivial⟩
 have hm:2≤p.months.length:=by
  have c2:xC p.months=true:=by simpa using c2
  simp[xC]at c2;omega
 refine Cv.cnd.mk (fun d6=>s (by have d6:¬(p.settle.length:Int)=p.months.length:=(by simpa using d6);simp[xE];omega)) fun d6=> ?_
 have d6:p.settle.length=p.months.length:=by
  have:(p.settle.length:Int)=p.months.length:=by simpa using d6
  omega
 refine⟨p.settle,rfl,⟨by omega,by omega⟩,fun _ _=>⟨kp,zJ (fun d7=>s (by simp[xE];left;right;omega)) fun d7=>⟨p.settle,rfl,⟨by omega,by omega⟩,fun _ _=>⟨kp,zJ (fun d8=>s (by simp[xE];right;omega)) fun d8=> ?_⟩⟩⟩⟩
 have e2:p.check=if kD p then 31 else if x0 p then 24 else 0:=by
  rw[e1,yVj (by simp[xE];omega)]
 have r (hb:kD p=true):∃(o:Unit),p.check=31∧True:=⟨(),by rw[e2,yVl hb],trivial⟩
 refine zJ (fun d9=>r (by simp[kD];omega)) fun d9=>zJ (fun d10=>r (by simp[kD];omega)) fun d10=> ?_
 have e3:p.check=if x0 p then 24 else 0:=by
  rw[e2,yVj (by simp[kD];omega)]
 have q (hb:x0 p=true):∃(o:Unit),p.check=24∧True:=⟨(),by rw[e3,yVl hb],trivial⟩
 refine zJ (fun f1=>q (by simp[x0];omega)) fun f1=>zJ (fun f2=>q (by simp[x0];omega)) fun f2=>zJ (fun f3=>q (by simp[x0];omega)) fun f3=>zJ (fun f4=>q (by simp[x0];omega)) fun f4=>zJ (fun f5=>q (by simp[x0];omega)) fun f5=>zJ (fun f6=>q (by simp[x0];omega)) fun f6=> ?_
 exact⟨(),by rw[e3,yVj (by simp[x0];omega)],trivial⟩
theorem rZ:checkC.ok Tryz.prog 114:=okw mixed (gokc yNs (gokc z6t (gokc z8z (gokc yLp (gokc yLb gok0))))) 0 (fun _=>[]) (fun _=>[]) [] Tryz.func114 yLm
structure Prd.Ok (p:Prd):Prop where
 sym:j5 p.code=true
 months:xC p.months=true
 ticks:qJ p=true
 m2:2≤p.months.length
 m6:p.months.length≤6
 t1:1≤p.tick
 t2:p.tick≤1000
 b1: -1000000≤p.low
 b2:p.low<p.high
 b3:p.high≤1000000
 b4:0≤p.wide
 b5:p.wide≤p.high-p.low
 s1:p.settle.length=p.months.length
 s2:p.low≤nT p.settle
 s3:pZ p.settle≤p.high
 r1:1≤p.rule
 r2:p.rule≤3
 q1:0≤p.top
 q2:p.top≤1000000
 q3:1≤p.least
 q4:p.least≤1000
 q5:0≤p.part
 q6:p.part≤100
theorem jO {p:Prd} (h:p.check=0):p.Ok:=by
 unfold Prd.check at h
 split at h<;>first|(exfalso;revert h;decide)|skip
 rename_i c1
 split at h<;>first|(exfalso;revert h;decide)|skip
 rename_i c2
 split at h<;>first|(exfalso;revert h;decide)|skip
 rename_i c3
 split at h<;>first|(exfalso;revert h;decide)|skip
 rename_i c4
 split at h<;>first|(exfalso;revert h;decide)|skip
 rename_i c5
 split at h<;>first|(exfalso;revert h;decide)|skip
 rename_i c6
 split at h<;>first|(exfalso;revert h;decide)|skip
 rename_i c7
 simp only[yYl,Bool.not_eq_false,Bool.not_eq_true]at c1 c2 c3
 have m:=c2
 have t:=c3
 simp[xC]at m
 simp[qJ]at t
 simp[qI]at c4
 simp[xE]at c5
 simp[kD]at c6
 simp[x0]at c7
 exact⟨c1,c2,c3,by omega,by omega,by omega,by omega,by omega,by omega,by omega,by omega,by omega,by omega,by omega,by omega,by omega,by omega,by omega,by omega,by omega,by omega,by omega,by omega⟩
theorem z9p {n:Nat} (h:n≤6):n+n*(n-1) / 2≤21:=by
 have:∀n≤6,n+n*(n-1) / 2≤21:=by decide
 exact this n h
theorem yIe (p:Prd) (h:pcountC.cnd p):z2r p:=by
 unfold z2r nO xA z7
 obtain⟨h1,h2,h3⟩:p.small:=h
 refine⟨p,?_⟩
 simp only[xD]
 (repeat'(first|exact rfl|exact trivial|assumption|apply And.intro|refine fun(_:Unit) (_:True)=>?_|refine Exists.intro () ?_|omega|(dsimp only;omega)))
 refine Cv.cnd.mk (fun c=>⟨(),by rw[Prd.count,yVj (by simpa using c)];rfl,trivial⟩) (fun c=> ?_)
 have c:p.check=0:=by simpa using c
 have ok:=jO c
 refine⟨kp,by decide,(),?_,trivial⟩
 rw[Prd.count,yVl c]
 obtain⟨n,hn⟩:∃n,p.months.length=n:=⟨_,rfl⟩
 have m2:=ok.m2
 have m6:=ok.m6
 rw[hn]at m2 m6 ⊢
 have:n=2∨n=3∨n=4∨n=5∨n=6:=by omega
 rcases this with rfl|rfl|rfl|rfl|rfl<;>rfl
theorem cS:pcountC.ok Tryz.prog 116:=okw mixed (gokc rZ gok0) 0 (fun _=>[]) (fun _=>[]) [] Tryz.func116 yIe
theorem sR {p:Prd} (h:p.count≠0):p.check=0:=by
 unfold Prd.count at h
 split at h
 ·assumption
 ·exact absurd rfl h
theorem xZ (p:Prd):p.count≤21:=by
 unfold Prd.count
 split
 ·rename_i h;exact z9p (jO h).m6
 ·omega
theorem zLt {n m:Nat} (h:n≤6) (hm:m≤n):yK n m≤21:=by
 have:∀n≤6,∀m≤n,yK n m≤21:=by decide
 exact this n h m hm
theorem ySd (i:dK) (h:legsC.cnd i):yIm i:=by
 unfold yIm zAq mS tX gG zEf wS vW z7 dI
 obtain⟨h1,h2,h3⟩:i.p.small:=h
 refine⟨i.p,?_⟩
 simp only[xD]
 (repeat'(first|exact rfl|exact trivial|assumption|apply And.intro|refine fun(_:Unit) (_:True)=>?_|refine Exists.intro () ?_|omega|(dsimp only;omega)))
 refine zJ (fun c1=> ?_) (fun c1=>zJ (fun c2=> ?_) (fun c2=> ?_))
 ·rw[Prd.legs,yVl (by omega)];exact kp
 ·rw[Prd.legs,yVl (by omega)];exact kp
 have c2:¬i.n≥(i.p.count:Int):=c2
 have hc:=xZ i.p
 have ok:=jO (sR (p:=i.p) (by omega))
 have m6:=ok.m6
 refine zJ (fun c3=> ?_) (fun c3=> ?_)
 ·rw[Prd.legs,yVj (by omega),yVl c3];exact kp
 have e0:i.p.legs i.n=kJ i.p.months.length i.n.toNat i.p.months.length 0:=by
  rw[Prd.legs,yVj (by omega),yVj c3]
 rw[e0]
 generalize hn:i.p.months.length=n at c3 m6 ⊢
 obtain⟨k,hk⟩:∃k:Nat,i.n=k:=⟨i.n.toNat,by omega⟩
 rw[hk]at c2 c3 ⊢
 refine⟨0,rfl,rfl,fun m=>m≤n∧yK n m≤k∧kJ n k n 0=kJ n k (n-m) m,fun m=>n-m,⟨by omega,by show n≤k;omega,rfl⟩,?_⟩
 rintro m ⟨g1,g2,g3⟩
 have hf:=zLt m6 g1
 refine zJ (fun c4=> ?_) (fun c4=> ?_)
 ·obtain⟨r,hr⟩:∃r,n-m=r+1:=⟨n-m-1,by omega⟩
  have e1:(k:Int).toNat=k:=by omega
  rw[e1,g3,hr,w64 (x:=(n:Int)-1) (by omega),w64 (x:=(n:Int)-1-m) (by omega),w64 (x:=(yK n m:Int)+((n:Int)-1-m)) (by omega),w64 (x:=(m:Int)+1) (by omega)]
  rw[hr]at g3
  refine zJ (fun c5=> ?_) (fun c5=> ?_)
  ·rw[w64 (x:=(m:Int)+1+k) (by omega),w64 (x:=(m:Int)+1+k-(yK n m:Int)) (by omega),kJ,yVl (by omega)]
   refine⟨(),rfl,?_,rfl,trivial⟩
   dsimp only;omega
  ·refine⟨m+1,?_,rfl,⟨by omega,?_,?_⟩,by(first|omega|(dsimp only;omega)),kp⟩
   ·rw[yK];omega
   ·rw[yK];omega
   ·rw[kJ,yVj (by omega),show n-(m+1)=r by omega]
 ·have e1:(k:Int).toNat=k:=by omega
  rw[e1,g3,show n-m=0 by omega]
  exact⟨(),rfl,rfl,rfl,trivial⟩
theorem sZ:legsC.ok Tryz.prog 186:=okw mixed (gokc cS gok0) 0 (fun _=>[]) (fun i=>ySs i) [] Tryz.func186 ySd
theorem yGa (i:pY) (h:spreadC.cnd i):z3e i:=by
 unfold z3e dG z7 dI
 obtain⟨h1,h2,h3⟩:i.p.small:=h
 refine⟨i.p,?_⟩
 simp only[xD]
 (repeat'(first|exact rfl|exact trivial|assumption|apply And.intro|refine fun(_:Unit) (_:True)=>?_|refine Exists.intro () ?_|omega|(dsimp only;omega)))
 have bad (hb:i.p.check≠0∨i.a<0∨i.b≤i.a∨(i.p.months.length:Int)≤i.b):∃(o:Unit),(i.p.spread i.a i.b).fst=0∧(i.p.spread i.a i.b).snd=false∧True:=⟨(),by rw[Prd.spread,yVl hb],by rw[Prd.spread,yVl hb],trivial⟩
 refine Cv.cnd.mk (fun c1=>bad (.inl (by simpa using c1))) fun c1=>zJ (fun c2=>bad (by omega)) fun c2=>zJ (fun c3=>bad (by omega)) fun c3=>zJ (fun c4=>bad (by omega)) fun c4=> ?_
 have c1:i.p.check=0:=by simpa using c1
 have m6:=(jO c1).m6
 rw[Prd.spread,yVj (by omega)]
 generalize hn:i.p.months.length=n at c4 m6 ⊢
 obtain⟨a,ha⟩:∃k:Nat,i.a=k:=⟨i.a.toNat,by omega⟩
 rw[ha]at c3 ⊢
 refine⟨0,rfl,rfl,fun m=>m≤a,fun m=>a-m,by omega,?_⟩
 intro m hm
 have hm:m≤a:=hm
 have hf:=zLt (m:=m) m6 (by omega)
 refine zJ (fun c5=> ?_) (fun c5=> ?_)
 ·rw[w64 (x:=(n:Int)-1) (by omega),w64 (x:=(n:Int)-1-m) (by omega),w64 (x:=(yK n m:Int)+((n:Int)-1-m)) (by omega),w64 (x:=(m:Int)+1) (by omega)]
  refine⟨m+1,?_,rfl,by omega,by(first|omega|(dsimp only;omega)),kp⟩
  rw[yK];omega
 ·obtain rfl:m=a:=by omega
  rw[w64 (x:=(yK n m:Int)+i.b) (by omega),w64 (x:=(yK n m:Int)+i.b-m) (by omega),w64 (x:=(yK n m:Int)+i.b-m-1) (by omega)]
  exact⟨(),rfl,rfl,trivial⟩
theorem zOs:spreadC.ok Tryz.prog 189:=okw mixed (gokc rZ gok0) 0 (fun _=>[]) (fun i=>yEa i) [] Tryz.func189 yGa
theorem yMi (i:pY) (h:priceC.cnd i):yDi i:=by
 unfold yDi z7
 obtain⟨h1,h2,h3⟩:i.p.small:=h
 refine⟨i.p,?_⟩
 simp only[xD]
 (repeat'(first|exact rfl|exact trivial|assumption|apply And.intro|refine fun(_:Unit) (_:True)=>?_|refine Exists.intro () ?_|omega|(dsimp only;omega)))
 refine Cv.cnd.mk (fun c1=>⟨(),by rw[Prd.price,yVl (by have:(i.p.count:Int)=0:=(by simpa using c1);omega)],trivial⟩) fun c1=> ?_
 have c1:i.p.count≠0:=by
  have:¬(i.p.count:Int)=0:=by simpa using c1
  omega
 have e0:i.p.price i.a i.b=if i.a<0∨(i.p.count:Int)≤i.a then 20 else if qM i.p.tick i.b then 22 else
  if i.b<(if(i.p.months.length:Int)≤i.a then-i.p.wide else i.p.low)∨(if(i.p.months.length:Int)≤i.a then i.p.wide else i.p.high)<i.b then 23 else 0:=by rw[Prd.price,yVj c1]
 rw[e0]
 have ok:=jO (sR c1)
 obtain⟨t1,b3,b1,b2,b4,b5⟩:=(⟨ok.t1,ok.b3,ok.b1,ok.b2,ok.b4,ok.b5⟩:_∧_∧_∧_∧_∧_)
 refine zJ (fun c2=>⟨(),by rw[yVl (.inl c2)],trivial⟩) fun c2=>zJ (fun c3=>⟨(),by rw[yVl (.inr c3)],trivial⟩) fun c3=>⟨kp,by omega,?_⟩
 have c3:¬i.a≥(i.p.count:Int):=c3
 rw[yVj (by omega)]
 refine Cv.cnd.mk (fun c4=>⟨(),yVl c4,trivial⟩) fun c4=> ?_
 rw[yVj (by rw[qM,c4];simp),w64 (x:=0-i.p.wide) (by omega)]
 refine zJ (fun c5=> ?_) (fun c5=> ?_)
 ·have c5:(i.p.months.length:Int)≤i.a:=c5
  simp only[yVl c5]
  refine zJ (fun c6=>⟨(),yVl (.inl (by omega)),trivial⟩) fun c6=>zJ (fun c7=>⟨(),yVl (.inr (by omega)),trivial⟩) fun c7=>⟨(),yVj (by omega),trivial⟩
 ·have c5:¬(i.p.months.length:Int)≤i.a:=c5
  simp only[yVj c5]
  refine zJ (fun c6=>⟨(),yVl (.inl (by omega)),trivial⟩) fun c6=>zJ (fun c7=>⟨(),yVl (.inr (by omega)),trivial⟩) fun c7=>⟨(),yVj (by omega),trivial⟩
theorem rV:priceC.ok Tryz.prog 109:=okw mixed (gokc cS gok0) 0 (fun _=>[]) (fun _=>[]) [] Tryz.func109 yMi
theorem yJb (x:Int) (h: -18446744073709551616≤x∧x<18446744073709551616):(yO x∧IntKind.i64.wrap x=x)∨(9223372036854775807<x∧IntKind.i64.wrap x=x-18446744073709551616)∨(x< -9223372036854775808∧IntKind.i64.wrap x=x+18446744073709551616):=by
 have e:IntKind.i64.wrap x=if(decide (x % 18446744073709551616≥9223372036854775808))=true then x % 18446744073709551616-18446744073709551616 else x % 18446744073709551616:=by
  have:IntKind.i64.wrap x=if(true && decide (x % 18446744073709551616≥9223372036854775808))=true then x % 18446744073709551616-18446744073709551616 else x % 18446744073709551616:=rfl
  rw[this,yYc]
 have e:IntKind.i64.wrap x=(x+9223372036854775808) % 18446744073709551616-9223372036854775808:=by
  rw[e]
  by_cases h2:x % 18446744073709551616≥9223372036854775808
  ·rw[yVl (yWd h2)];omega
  ·rw[yVj (by simpa using h2)];omega
 rw[e]
 by_cases h1:yO x
 ·exact .inl ⟨h1,by unfold yO at h1;omega⟩
 ·unfold yO at h1
  omega
theorem yTy (i:I2) (h:addC.cnd i):yQt i:=by
 obtain⟨⟨x1,x2⟩,y1,y2⟩:yO i.x∧yO i.y:=h
 have hw:=yJb (i.x+i.y) (by omega)
 unfold yQt zJv uR
 generalize IntKind.i64.wrap (i.x+i.y)=w at hw ⊢
 unfold yO at hw ⊢
 refine Cv.cnd.mk (fun c1=>Cv.cnd.mk (fun c2=> ?_) (fun c2=> ?_)) (fun c1=> ?_)
 all_goals(simp at*)
 ·rw[yVj (by omega)];exact kp
 ·rw[yVl (by omega)];refine⟨?_,rfl⟩;dsimp only;omega
 ·rw[yVl (by omega)];refine⟨?_,rfl⟩;dsimp only;omega
theorem zRq:addC.ok Tryz.prog 220:=okw mixed gok0 0 (fun _=>[]) (fun _=>[]) [] Tryz.func220 yTy
theorem yTg (i:I2) (h:subC.cnd i):ySz i:=by
 obtain⟨⟨x1,x2⟩,y1,y2⟩:yO i.x∧yO i.y:=h
 have hw:=yJb (i.x-i.y) (by omega)
 unfold ySz zIf uS
 generalize IntKind.i64.wrap (i.x-i.y)=w at hw ⊢
 unfold yO at hw ⊢
 refine Cv.cnd.mk (fun c1=>Cv.cnd.mk (fun c2=> ?_) (fun c2=> ?_)) (fun c1=> ?_)
 all_goals(simp at*)
 ·rw[yVj (by omega)];exact kp
 ·rw[yVl (by omega)];refine⟨?_,rfl⟩;dsimp only;omega
 ·rw[yVl (by omega)];refine⟨?_,rfl⟩;dsimp only;omega
theorem zQr:subC.ok Tryz.prog 221:=okw mixed gok0 0 (fun _=>[]) (fun _=>[]) [] Tryz.func221 yTg
open Go Cv Go.Proofs
structure Slot where
 used:Bool
 n:Int
 id:Int
 qty:Int
 top:Bool
 queue:Int
 ahead:Int
 back:Int
 deriving DecidableEq
structure dJ where
 first:Int
 last:Int
 total:Int
 count:Int
 deriving DecidableEq
structure Arena where
 slots:List Slot
 queues:List dJ
 free:Int
 deriving DecidableEq
def zR (s:Slot):List D:=[.v (.bool s.used),.v (.int .i64 s.n),.v (.int .i64 s.id),.v (.int .i64 s.qty),.v (.bool s.top),.v (.int .i64 s.queue),.v (.int .i64 s.ahead),.v (.int .i64 s.back)]
def zO (q:dJ):List D:=[.v (.int .i64 q.first),.v (.int .i64 q.last),.v (.int .i64 q.total),.v (.int .i64 q.count)]
def slot0:Slot:=⟨false,0,0,0,false,0,0,0⟩
def zG (a:Arena):Nat→AObj
 |0=> .cells [.own 1,.own 2,zA a.free] 350
 |1=> .own 305 8 (a.slots.map zR)
 |2=> .own 354 4 (a.queues.map zO)
 |_=> .gone
def jM (a:Arena):AObj:= .adt Arena 3 zG a
structure xF where
 price:Int
 queue:Int
 deriving DecidableEq
structure Place where
 side:Int
 price:Int
 slot:Int
 deriving DecidableEq
structure Book where
 a:Arena
 buys:List xF
 sells:List xF
 at_:List (Int×Place)
 top1:Int
 top2:Int
 spare:List Int
 has1:Bool
 has2:Bool
 deriving DecidableEq
def zB (r:xF):List D:=[.v (.int .i64 r.price),.v (.int .i64 r.queue)]
def zZj (p:Place):List D:=[.v (.int .i64 p.side),.v (.int .i64 p.price),.v (.int .i64 p.slot)]
def atE (l:List (Int×Place)):List (Value×List D):=l.map fun x=>(.int .i64 x.1,zZj x.2)
def zQ (b:Book):Nat→AObj
 |0=> .cells [.nm 1 0,.own 2,.own 3,.mp 4,zA b.top1,zA b.top2,.own 5,yF b.has1,yF b.has2] 244
 |1=>jM b.a
 |2=> .own 301 2 (b.buys.map zB)
 |3=> .own 301 2 (b.sells.map zB)
 |4=> .map (atE b.at_)
 |5=> .own 3 1 (iE b.spare)
 |_=> .gone
def zZ (b:Book):AObj:= .adt Book 6 zQ b
structure MSt where
 p:Prd
 books:List Book
 wh:List (Int×Int)
def yU (l:List (Int×Int)):List (Value×List D):=l.map fun x=>(.int .i64 x.1,[.v (.int .i64 x.2)])
def xK (s:MSt):Nat→AObj
 |0=> .cells [sV s.p.code,.own 3,zA s.p.tick,zA s.p.low,zA s.p.high,zA s.p.wide,zA s.p.rule,zA s.p.top,zA s.p.least,zA s.p.part,.own 4,.own 1,.mp 2] 182
 |1=> .objs 184 Book 6 zQ s.books none
 |2=> .map (yU s.wh)
 |3=> .fro 1 (iE s.p.months)
 |4=> .fro 1 (iE s.p.settle)
 |_=> .gone
def zD (s:MSt):AObj:= .adt MSt 5 xK s
def zJz (n:Nat):Arena:=⟨List.replicate n slot0,[],n⟩
def book0:Book:=⟨zJz 250,[],[],[],0,0,[],false,false⟩
def newAC:Con:=con1 Nat (fun n=>[zA n]) (fun _=>[]) (fun n=>1≤n∧n≤4096) (fun _=> .tup [.nm 0 0,zA 0]) (fun n=>[jM (zJz n)])
def newBC:Con:=con1 Unit (fun _=>[]) (fun _=>[]) (fun _=>True) (fun _=> .nm 0 0) (fun _=>[zZ book0])
def sC (p:Prd):MSt:=⟨p,List.replicate p.count book0,[]⟩
def newSC:Con where
 ι:=Prd
 pat:=fun p=>[prdV p]
 pre:=fun _=>[]
 cnd:=fun p=>p.small
 alts:=fun p=>[{o:=Unit,res:=fun _=> .tup [.nm 0 0,zA 0],post:=fun _=>[zD (sC p)],rel:=fun _=>p.check=0},{o:=Unit,res:=fun _=> .tup [.d (.v (.pointer none)),zA p.check],post:=fun _=>[],rel:=fun _=>p.check≠0}]
def yRm (p:Prd):List SAnn:=[{ι:=Nat,slots:=fun j=>[(5,.nm 0 0),(27,zA j)],rows:=fun j=>(List.range 5).map (xK ⟨p,List.replicate j book0,[]⟩)}]
def clSlotC:Con:=con1 (List Slot) (fun _=>[.own 0]) (fun l=>[.own 305 8 (l.map zR)]) (fun l=>l.length≤1000000) (fun _=> .own 1) (fun l=>[.own 305 8 (l.map zR),.own 305 8 (l.map zR)])
def clQueueC:Con:=con1 (List dJ) (fun _=>[.own 0]) (fun l=>[.own 354 4 (l.map zO)]) (fun l=>l.length≤1000000) (fun _=> .own 1) (fun l=>[.own 354 4 (l.map zO),.own 354 4 (l.map zO)])
def clRungC:Con:=con1 (List xF) (fun _=>[.own 0]) (fun l=>[.own 301 2 (l.map zB)]) (fun l=>l.length≤1000000) (fun _=> .own 1) (fun l=>[.own 301 2 (l.map zB),.own 301 2 (l.map zB)])
def clIntC:Con:=con1 (List Int) (fun _=>[.own 0]) (fun l=>[.own 3 1 (iE l)]) (fun l=>l.length≤1000000) (fun _=> .own 1) (fun l=>[.own 3 1 (iE l),.own 3 1 (iE l)])
def z9v (f:Nat):Con:=con1 (List (Value×List D)) (fun _=>[.mp 0]) (fun es=>[.map es]) (fun _=>True) (fun _=> .mp 1) (fun es=>[.map es,.map es])
def clAtC:Con:=z9v 0
def clWhC:Con:=z9v 1
@[reducible] def Arena.small (a:Arena):Prop:=a.slots.length≤1000000∧a.queues.length≤1000000
@[reducible] def Book.small (b:Book):Prop:=b.a.small∧b.buys.length≤1000000∧b.sells.length≤1000000∧b.spare.length≤1000000
@[reducible] def MSt.small (s:MSt):Prop:=s.books.length≤1000000∧∀b∈s.books,b.small
def copyAC:Con:=con1 Arena (fun _=>[.nm 0 0]) (fun a=>[jM a]) Arena.small (fun _=> .nm 1 0) (fun a=>[jM a,jM a])
def copyBC:Con:=con1 Book (fun _=>[.nm 0 0]) (fun b=>[zZ b]) Book.small (fun _=> .nm 1 0) (fun b=>[zZ b,zZ b])
def yKq:List SAnn:=[{ι:=Unit,slots:=fun _=>[],rows:=fun _=>[],un:=3}]
def copySC:Con:=con1 MSt (fun _=>[.nm 0 0]) (fun s=>[zD s]) MSt.small (fun _=> .nm 1 0) (fun s=>[zD s,zD s])
open Go Cv Go.Proofs
def yIy (n:Nat):Prop:=
 cnd (decide ((↑n:Int)<1)) (∃(a:Unit),False) (cnd (decide ((↑n:Int)>4096)) (∃(a:Unit),False) ((0≤(↑n:Int)∧(↑n:Int)≤(↑n:Int)∧(↑n:Int)≤9223372036854775807∧(↑(64:Nat):Int)*(↑n:Int)≤2 ^ (48:Nat))∧∃(a:Unit),(0:Int)=(0:Int)∧(↑n:Int)=(↑n:Int)∧List.map zR (List.replicate n slot0)=List.replicate (↑n:Int).toNat [D.v (.bool false),dI 0,dI 0,dI 0,D.v (.bool false),dI 0,dI 0,dI 0]∧([]:List (List D))=[]∧True))
def yRz (u:Unit):Prop:=
 ∃(i:Nat),(↑i:Int)=250∧(1≤i∧i≤4096)∧∀(o:Unit),True→∃(o:Unit),(0:Int)=(0:Int)∧(0:Int)=(0:Int)∧false=false∧false=false∧AObj.adt Arena 3 zG (zJz 250)=AObj.adt Arena 3 zG (zJz i)∧([]:List (List D))=[]∧([]:List (List D))=[]∧atE []=[]∧iE []=[]∧True
def zFb (a:Prd) (b:Nat) (c:Unit):Prop:=(∃(d:Unit),(0:Int)=(0:Int)∧sb a.code=sb a.code∧a.tick=a.tick∧a.low=a.low∧a.high=a.high∧a.wide=a.wide∧a.rule=a.rule∧a.top=a.top∧a.least=a.least∧a.part=a.part∧AObj.objs 184 Book 6 zQ (List.replicate a.count book0) none=AObj.objs 184 Book 6 zQ (List.replicate b book0) none∧yU []=yU []∧AObj.fro 1 (iE a.months)=AObj.fro 1 (iE a.months)∧AObj.fro 1 (iE a.settle)=AObj.fro 1 (iE a.settle)∧a.check=0)∨∃(c:Unit),False
def cE (a:Prd):Prop:=AObj.fro 1 (iE a.settle)=AObj.fro 1 (iE a.settle)∧AObj.fro 1 (iE a.months)=AObj.fro 1 (iE a.months)
def uF (a:Prd):=(D.v (Value.string (sb a.code)))
def zPz (a:Prd):Prop:=True∧True∧(0+(iE a.months).length)*(8:Nat)≤(140737488355328:Nat)∧True∧(0+(iE a.settle).length)*(8:Nat)≤(140737488355328:Nat)∧∃(b:Prd),sb b.code=sb a.code∧iE b.months=[]++iE a.months∧b.tick=a.tick∧b.low=a.low∧b.high=a.high∧b.wide=a.wide∧b.rule=a.rule∧b.top=a.top∧b.least=a.least∧b.part=a.part∧iE b.settle=[]++iE a.settle∧(z7 b)∧∀(c:Unit),True→∃(d:Nat),(↑d:Int)=0∧sb a.code=sb a.code∧a.tick=a.tick∧a.low=a.low∧a.high=a.high∧a.wide=a.wide∧a.rule=a.rule∧a.top=a.top∧a.least=a.least∧a.part=a.part∧List.replicate d book0=[]∧(none:Option Nat)=none∧yU []=[]∧AObj.fro 1 (iE a.months)=AObj.fro 1 ([]++iE a.months)∧AObj.fro 1 (iE a.settle)=AObj.fro 1 ([]++iE a.settle)∧∃(e:Nat→Prop),∃(f:Nat→Nat),e d∧∀(g:Nat),e g→cnd (decide ((↑g:Int)<(↑b.count:Int))) (∃(h:Unit),True∧∀(j:Unit),True→True∧True∧∃(k:List Book),AObj.objs 184 Book 6 zQ (List.replicate g book0) none=AObj.objs 184 Book 6 zQ k none∧(k.length+1)*(8:Nat)≤(140737488355328:Nat)∧∃(l:Nat),(↑l:Int)=IntKind.i64.wrap ((↑g:Int)+1)∧sb a.code=sb a.code∧a.tick=a.tick∧a.low=a.low∧a.high=a.high∧a.wide=a.wide∧a.rule=a.rule∧a.top=a.top∧a.least=a.least∧a.part=a.part∧AObj.objs 184 Book 6 zQ (List.replicate l book0) none=AObj.objs 184 Book 6 zQ (k++[book0]) none∧yU []=yU []∧AObj.fro 1 (iE a.months)=AObj.fro 1 (iE a.months)∧AObj.fro 1 (iE a.settle)=AObj.fro 1 (iE a.settle)∧e l∧f l<f g∧AObj.fro 1 ([]++iE a.settle)=AObj.fro 1 ([]++iE a.settle)∧AObj.fro 1 ([]++iE a.months)=AObj.fro 1 ([]++iE a.months)∧Sx.AObj.cells [V.d (uF a),V.own ((0:Nat)+(1:Nat)+(1:Nat)+(1:Nat)+((0:Nat)-(0:Nat))+(1:Nat)+(1:Nat)),V.d (dI a.tick),V.d (dI a.low),V.d (dI a.high),V.d (dI a.wide),V.d (dI a.rule),V.d (dI a.top),V.d (dI a.least),V.d (dI a.part),V.own ((0:Nat)+(1:Nat)+(1:Nat)+(1:Nat)+((0:Nat)-(0:Nat))+(1:Nat)+(1:Nat)+1)] 26=Sx.AObj.cells [V.d (uF a),V.own ((0:Nat)+(1:Nat)+(1:Nat)+(1:Nat)+((0:Nat)-(0:Nat))+(1:Nat)+(1:Nat)),V.d (dI a.tick),V.d (dI a.low),V.d (dI a.high),V.d (dI a.wide),V.d (dI a.rule),V.d (dI a.top),V.d (dI a.least),V.d (dI a.part),V.own ((0:Nat)+(1:Nat)+(1:Nat)+(1:Nat)+((0:Nat)-(0:Nat))+(1:Nat)+(1:Nat)+1)] 26∧cE a) (zFb a g c)
def yJz (p:Prd):Prop:=
 ∃(a:Prd),sb a.code=sb p.code∧iE a.months=iE p.months∧a.tick=p.tick∧a.low=p.low∧a.high=p.high∧a.wide=p.wide∧a.rule=p.rule∧a.top=p.top∧a.least=p.least∧a.part=p.part∧iE a.settle=iE p.settle∧(z7 a)∧∀(b:Unit),True→cnd (a.check !=0) ((∃(c:Unit),False)∨∃(b:Unit),True∧p.check=a.check∧(p.check=0→False)) ((True∧True∧((0+(iE p.months).length)*(8:Nat)≤(140737488355328:Nat)∧True∧True∧(0+(iE p.settle).length)*(8:Nat)≤(140737488355328:Nat)∧∃(c:Prd),sb c.code=sb p.code∧iE c.months=[]++iE p.months∧c.tick=p.tick∧c.low=p.low∧c.high=p.high∧c.wide=p.wide∧c.rule=p.rule∧c.top=p.top∧c.least=p.least∧c.part=p.part∧iE c.settle=[]++iE p.settle∧(z7 c)∧∀(d:Unit),True→∃(e:Nat),(↑e:Int)=0∧sb p.code=sb p.code∧p.tick=p.tick∧p.low=p.low∧p.high=p.high∧p.wide=p.wide∧p.rule=p.rule∧p.top=p.top∧p.least=p.least∧p.part=p.part∧List.replicate e book0=[]∧(none:Option Nat)=none∧yU []=[]∧AObj.fro 1 (iE p.months)=AObj.fro 1 ([]++iE p.months)∧AObj.fro 1 (iE p.settle)=AObj.fro 1 ([]++iE p.settle)∧∃(f:Nat→Prop),∃(g:Nat→Nat),f e∧∀(h:Nat),f h→cnd (decide ((↑h:Int)<(↑c.count:Int))) (∃(j:Unit),True∧∀(k:Unit),True→True∧True∧∃(l:List Book),AObj.objs 184 Book 6 zQ (List.replicate h book0) none=AObj.objs 184 Book 6 zQ l none∧(l.length+1)*(8:Nat)≤(140737488355328:Nat)∧∃(m:Nat),(↑m:Int)=IntKind.i64.wrap ((↑h:Int)+1)∧sb p.code=sb p.code∧p.tick=p.tick∧p.low=p.low∧p.high=p.high∧p.wide=p.wide∧p.rule=p.rule∧p.top=p.top∧p.least=p.least∧p.part=p.part∧AObj.objs 184 Book 6 zQ (List.replicate m book0) none=AObj.objs 184 Book 6 zQ (l++[book0]) none∧yU []=yU []∧AObj.fro 1 (iE p.months)=AObj.fro 1 (iE p.months)∧AObj.fro 1 (iE p.settle)=AObj.fro 1 (iE p.settle)∧f m∧g m<g h∧AObj.fro 1 ([]++iE p.settle)=AObj.fro 1 ([]++iE p.settle)∧AObj.fro 1 ([]++iE p.months)=AObj.fro 1 ([]++iE p.months)∧Sx.AObj.cells [V.d (uF p),V.own ((0:Nat)+(1:Nat)+(1:Nat)+(1:Nat)+((0:Nat)-(0:Nat))+1),V.d (dI p.tick),V.d (dI p.low),V.d (dI p.high),V.d (dI p.wide),V.d (dI p.rule),V.d (dI p.top),V.d (dI p.least),V.d (dI p.part),V.own ((0:Nat)+(1:Nat)+(1:Nat)+(1:Nat)+((0:Nat)-(0:Nat))+(1:Nat)+(1:Nat)+1)] 26=Sx.AObj.cells [V.d (uF p),V.own ((0:Nat)+(1:Nat)+(1:Nat)+(1:Nat)+((0:Nat)-(0:Nat))+1),V.d (dI p.tick),V.d (dI p.low),V.d (dI p.high),V.d (dI p.wide),V.d (dI p.rule),V.d (dI p.top),V.d (dI p.least),V.d (dI p.part),V.own ((0:Nat)+(1:Nat)+(1:Nat)+(1:Nat)+((0:Nat)-(0:Nat))+(1:Nat)+(1:Nat)+1)] 26∧cE p) (zFb p h d))∧zPz p)∧True∧True∧zPz p)
def yHa (l:List Slot):Prop:=
 ∀(b:Bool),(b=true→List.map zR l=[])→cnd b (∃(o:Unit),List.map zR l=List.map zR l∧List.map zR l=[]∧True) ((0+(List.map zR l).length)*(64:Nat)≤(140737488355328:Nat)∧∃(o:Unit),List.map zR l=List.map zR l∧List.map zR l=[]++List.map zR l∧True)
def yAn (l:List dJ):Prop:=
 ∀(b:Bool),(b=true→List.map zO l=[])→cnd b (∃(o:Unit),List.map zO l=List.map zO l∧List.map zO l=[]∧True) ((0+(List.map zO l).length)*(32:Nat)≤(140737488355328:Nat)∧∃(o:Unit),List.map zO l=List.map zO l∧List.map zO l=[]++List.map zO l∧True)
def yGo (l:List xF):Prop:=
 ∀(b:Bool),(b=true→List.map zB l=[])→cnd b (∃(o:Unit),List.map zB l=List.map zB l∧List.map zB l=[]∧True) ((0+(List.map zB l).length)*(16:Nat)≤(140737488355328:Nat)∧∃(o:Unit),List.map zB l=List.map zB l∧List.map zB l=[]++List.map zB l∧True)
def yNc (l:List Int):Prop:=
 ∀(b:Bool),(b=true→iE l=[])→cnd b (∃(o:Unit),iE l=iE l∧iE l=[]∧True) ((0+(iE l).length)*(8:Nat)≤(140737488355328:Nat)∧∃(o:Unit),iE l=iE l∧iE l=[]++iE l∧True)
def z8h (es:List (Value×List D)):Prop:=
 ∃(a:List (Value×List D)),a=es∧True∧∀(b:Unit),True→∃(c:Unit),es=a∧es=a∧True
theorem yMd (es:List (Value×List D)):z8h es=walk Tryz.prog ([(147,dZ 240)]) 0 ([]) ([]) [] Tryz.f181 (Tryz.f181.body.getD .skip) (clAtC.pat es) (clAtC.pre es) (clAtC.alts es):=by kernel_rfl
theorem yLw (hG:GOk Tryz.prog ([(147,dZ 240)])) (h:∀(es:List (Value×List D)),clAtC.cnd es→z8h es):clAtC.ok Tryz.prog 181:=bD mixed ([(147,dZ 240)]) hG 0 (fun(es:List (Value×List D))=>[]) (fun(es:List (Value×List D))=>[]) [] Tryz.func181 (by kernel_rfl) (by kernel_rfl) (by kernel_rfl) (fun _=>by kernel_rfl) (fun(es:List (Value×List D)) hc=>Eq.mp (yMd es) (h es hc))
def yCx (es:List (Value×List D)):Prop:=
 ∃(a:List (Value×List D)),a=es∧True∧∀(b:Unit),True→∃(c:Unit),es=a∧es=a∧True
theorem yKj (es:List (Value×List D)):yCx es=walk Tryz.prog ([(147,dZ 105)]) 0 ([]) ([]) [] Tryz.f145 (Tryz.f145.body.getD .skip) (clWhC.pat es) (clWhC.pre es) (clWhC.alts es):=by kernel_rfl
theorem yNk (hG:GOk Tryz.prog ([(147,dZ 105)])) (h:∀(es:List (Value×List D)),clWhC.cnd es→yCx es):clWhC.ok Tryz.prog 145:=bD mixed ([(147,dZ 105)]) hG 0 (fun(es:List (Value×List D))=>[]) (fun(es:List (Value×List D))=>[]) [] Tryz.func145 (by kernel_rfl) (by kernel_rfl) (by kernel_rfl) (fun _=>by kernel_rfl) (fun(es:List (Value×List D)) hc=>Eq.mp (yKj es) (h es hc))
def yNw (a:Arena):Prop:=
 ∃(i:List Slot),List.map zR i=List.map zR a.slots∧i.length≤1000000∧∀(o:Unit),True→a.free=a.free∧True∧∃(i_1:List dJ),List.map zO i_1=List.map zO a.queues∧i_1.length≤1000000∧∀(o:Unit),True→a.free=a.free∧∃(o:Unit),a.free=a.free∧List.map zR a.slots=List.map zR i∧List.map zO a.queues=List.map zO i_1∧a.free=a.free∧List.map zR a.slots=List.map zR i∧List.map zO a.queues=List.map zO i_1∧True
def yOm (b:Book):Prop:=
 ∃(i:Arena),AObj.adt Arena 3 zG i=AObj.adt Arena 3 zG b.a∧(i.slots.length≤1000000∧i.queues.length≤1000000)∧∀(o:Unit),True→True∧True∧∃(i_1:List (Value×List D)),i_1=atE b.at_∧True∧∀(o:Unit),True→True∧∃(i_2:List Int),iE i_2=iE b.spare∧i_2.length≤1000000∧∀(o:Unit),True→∃(i_3:List xF),List.map zB i_3=List.map zB b.buys∧i_3.length≤1000000∧∀(o:Unit),True→∃(i_4:List xF),List.map zB i_4=List.map zB b.sells∧i_4.length≤1000000∧∀(o:Unit),True→∃(o:Unit),b.top1=b.top1∧b.top2=b.top2∧b.has1=b.has1∧b.has2=b.has2∧AObj.adt Arena 3 zG b.a=AObj.adt Arena 3 zG i∧List.map zB b.buys=List.map zB i_3∧List.map zB b.sells=List.map zB i_4∧atE b.at_=i_1∧iE b.spare=iE i_2∧b.top1=b.top1∧b.top2=b.top2∧b.has1=b.has1∧b.has2=b.has2∧AObj.adt Arena 3 zG b.a=AObj.adt Arena 3 zG i∧List.map zB b.buys=List.map zB i_3∧List.map zB b.sells=List.map zB i_4∧atE b.at_=i_1∧iE b.spare=iE i_2∧True
open Go Cv Go.Proofs
theorem yQs (n:Nat) (h:newAC.cnd n):yIy n:=by
 obtain⟨h1,h2⟩:1≤n∧n≤4096:=h
 unfold yIy dI
 refine zJ (fun c=>by omega) fun c=>zJ (fun c=>by omega) fun c=> ?_
 refine⟨⟨by omega,by omega,by omega,?_⟩,?_⟩
 ·have:(2:Int) ^ (48:Nat)=281474976710656:=by decide
  rw[this];omega
 ·refine⟨(),rfl,rfl,?_,rfl,trivial⟩
  rw[List.map_replicate];rfl
theorem yEb:newAC.ok Tryz.prog 179:=okw mixed gok0 0 (fun _=>[]) (fun _=>[]) [] Tryz.func179 yQs
theorem yGi:newBC.ok Tryz.prog 141:=okw (V:=yRz) mixed (gokc yEb gok0) 0 (fun _=>[]) (fun _=>[]) [] Tryz.func141 fun(u:Unit) _=>by
 refine⟨250,rfl,⟨by omega,by omega⟩,?_⟩;exact kp
theorem yRi (p:Prd) (h:newSC.cnd p):yJz p:=by
 unfold yJz zPz uF cE zFb z7 dI
 have hs:p.small:=h
 obtain⟨h1,h2,h3⟩:p.small:=h
 refine⟨p,?_⟩
 simp only[xD]
 (repeat'(first|exact rfl|exact trivial|assumption|apply And.intro|refine fun(_:Unit) (_:True)=>?_|refine Exists.intro () ?_|omega|(dsimp only;omega)))
 refine Cv.cnd.mk (fun c=> .inr ⟨(),trivial,kp,by simpa using c⟩) fun c=> ?_
 have c:p.check=0:=by simpa using c
 have hc:=xZ p
 (repeat'(first|exact rfl|exact trivial|assumption|apply And.intro|refine fun(_:Unit) (_:True)=>?_|refine Exists.intro () ?_|omega|(dsimp only;omega)))
 all_goals(refine⟨p,?_⟩;(repeat'(first|exact rfl|exact trivial|assumption|apply And.intro|refine fun(_:Unit) (_:True)=>?_|refine Exists.intro () ?_|omega|(dsimp only;omega))))
 all_goals(refine⟨0,?_⟩;(repeat'(first|exact rfl|exact trivial|assumption|apply And.intro|refine fun(_:Unit) (_:True)=>?_|refine Exists.intro () ?_|omega|(dsimp only;omega))))
 all_goals(refine⟨fun j=>j≤p.count,fun j=>p.count-j,by omega,fun j hj=>zJ (fun hlt=> ?_) (fun hlt=> ?_)⟩;all_goals dsimp only at hj hlt)
 all_goals first
  |(refine .inl ⟨(),?_⟩
    obtain rfl:j=p.count:=by omega
    (repeat'(first|exact rfl|exact trivial|assumption|apply And.intro|refine fun(_:Unit) (_:True)=>?_|refine Exists.intro () ?_|omega|(dsimp only;omega))))
  |(refine⟨(),trivial,fun _ _=>⟨trivial,trivial,List.replicate j book0,rfl,?_,j+1,?_⟩⟩
    ·rw[yYj];omega
    ·rw[w64 (by omega),← List.replicate_succ']
     (repeat'(first|exact rfl|exact trivial|assumption|apply And.intro|refine fun(_:Unit) (_:True)=>?_|refine Exists.intro () ?_|omega|(dsimp only;omega))))
theorem yHj:newSC.ok Tryz.prog 98:=okw mixed (gokc rZ (gokc cS (gokc yGi gok0))) 0 (fun _=>[]) (fun p=>yRm p) [] Tryz.func98 yRi
theorem z5w:clSlotC.ok Tryz.prog 216:=okw (V:=yHa) mixed gok0 0 (fun _=>[]) (fun _=>[]) [] Tryz.func216 fun(l:List Slot) h=>by
 have h:l.length≤1000000:=h
 exact fun b hb=>Cv.cnd.mk (fun e=>⟨(),rfl,hb e,trivial⟩) (fun _=>⟨by rw[yWi,yVk];omega,(),rfl,rfl,trivial⟩)
theorem zYb:clQueueC.ok Tryz.prog 217:=okw (V:=yAn) mixed gok0 0 (fun _=>[]) (fun _=>[]) [] Tryz.func217 fun(l:List dJ) h=>by
 have h:l.length≤1000000:=h
 exact fun b hb=>Cv.cnd.mk (fun e=>⟨(),rfl,hb e,trivial⟩) (fun _=>⟨by rw[yWi,yVk];omega,(),rfl,rfl,trivial⟩)
theorem z6a:clRungC.ok Tryz.prog 182:=okw (V:=yGo) mixed gok0 0 (fun _=>[]) (fun _=>[]) [] Tryz.func182 fun(l:List xF) h=>by
 have h:l.length≤1000000:=h
 exact fun b hb=>Cv.cnd.mk (fun e=>⟨(),rfl,hb e,trivial⟩) (fun _=>⟨by rw[yWi,yVk];omega,(),rfl,rfl,trivial⟩)
theorem z7n:clIntC.ok Tryz.prog 130:=okw (V:=yNc) mixed gok0 0 (fun _=>[]) (fun _=>[]) [] Tryz.func130 fun(l:List Int) h=>by
 have h:l.length≤1000000:=h
 exact fun b hb=>Cv.cnd.mk (fun e=>⟨(),rfl,hb e,trivial⟩) (fun _=>⟨by rw[yWi,xD];omega,(),rfl,rfl,trivial⟩)
theorem zOi (t:Nat):(dZ t).ok Tryz.prog 147:=zXz Tryz.func147 (by kernel_rfl) (by kernel_rfl) (by kernel_rfl) (by kernel_rfl) t
theorem yHx:clAtC.ok Tryz.prog 181:=yLw (gokc (zOi _) gok0) fun es _=>by
 unfold z8h
 refine⟨es,?_⟩;exact kp
theorem yDv:clWhC.ok Tryz.prog 145:=yNk (gokc (zOi _) gok0) fun es _=>by
 unfold yCx
 refine⟨es,?_⟩;exact kp
theorem yCu:copyAC.ok Tryz.prog 180:=okw (V:=yNw) mixed (gokc z5w (gokc zYb gok0)) 0 (fun _=>[]) (fun _=>[]) [0] Tryz.func180 fun(a:Arena) h=>by
 obtain⟨h1,h2⟩:a.small:=h
 refine⟨a.slots,?_⟩;(repeat'(first|exact rfl|exact trivial|assumption|apply And.intro|refine fun(_:Unit) (_:True)=>?_|refine Exists.intro () ?_|omega|(dsimp only;omega)))
 refine⟨a.queues,?_⟩;exact kp
theorem z8x:copyBC.ok Tryz.prog 146:=okw (V:=yOm) mixed (gokc yCu (gokc yHx (gokc z7n (gokc z6a gok0)))) 0 (fun _=>[]) (fun _=>yKq) [0] Tryz.func146 fun(b:Book) h=>by
 obtain⟨⟨h1,h1'⟩,h2,h3,h4⟩:b.small:=h
 refine⟨b.a,?_⟩;(repeat'(first|exact rfl|exact trivial|assumption|apply And.intro|refine fun(_:Unit) (_:True)=>?_|refine Exists.intro () ?_|omega|(dsimp only;omega)))
 refine⟨atE b.at_,?_⟩;(repeat'(first|exact rfl|exact trivial|assumption|apply And.intro|refine fun(_:Unit) (_:True)=>?_|refine Exists.intro () ?_|omega|(dsimp only;omega)))
 refine⟨b.spare,?_⟩;(repeat'(first|exact rfl|exact trivial|assumption|apply And.intro|refine fun(_:Unit) (_:True)=>?_|refine Exists.intro () ?_|omega|(dsimp only;omega)))
 refine⟨b.buys,?_⟩;(repeat'(first|exact rfl|exact trivial|assumption|apply And.intro|refine fun(_:Unit) (_:True)=>?_|refine Exists.intro () ?_|omega|(dsimp only;omega)))
 refine⟨b.sells,?_⟩;exact kp
open Go Cv Go.Proofs
structure ArN where
 a:Arena
 n:Int
def Arena.qAt (a:Arena) (n:Int):dJ:=if 0≤n∧n<a.queues.length then a.queues.getD n.toNat ⟨0,0,0,0⟩else⟨0,0,0,0⟩
def atotalC:Con:=con1 ArN (fun i=>[.nm 0 0,zA i.n]) (fun i=>[jM i.a]) (fun i=>True) (fun i=>zA (i.a.qAt i.n).total) (fun i=>[jM i.a])
def acountC:Con:=con1 ArN (fun i=>[.nm 0 0,zA i.n]) (fun i=>[jM i.a]) (fun i=>True) (fun i=>zA (i.a.qAt i.n).count) (fun i=>[jM i.a])
def bisC:Con:=con1 Int (fun n=>[zA n]) (fun _=>[]) (fun _=>True) (fun n=>yF (decide (n=1)||decide (n=2))) (fun _=>[])
structure BkR where
 b:Book
 r:xF
def Book.told (b:Book) (r:xF):Lv:=⟨r.price,(b.a.qAt r.queue).total,(b.a.qAt r.queue).count⟩
@[reducible] def Book.cntOk (b:Book):Prop:=∀q∈b.a.queues,yO q.count
def toldC:Con:=con1 BkR (fun i=>[.nm 0 0,.agg [zA i.r.price,zA i.r.queue]]) (fun i=>[zZ i.b]) (fun i=>i.b.cntOk) (fun i=>lvV (i.b.told i.r)) (fun i=>[zZ i.b])
def Book.best (b:Book) (l:List xF):Lv×Bool:=match l with
 |[]=>(⟨0,0,0⟩,false)
 |r::_=>(b.told r,true)
structure BkS where
 side:Bool
 b:Book
def Book.side (b:Book) (s:Bool):List xF:=if s then b.sells else b.buys
@[reducible] def zZg (b:Book) (l:List xF):V:= .tup [lvV (b.best l).1,yF (b.best l).2]
def best1C:Con:=con1 Book (fun _=>[.nm 0 0,zA 1]) (fun b=>[zZ b]) Book.cntOk (fun b=>zZg b b.buys) (fun b=>[zZ b])
def best2C:Con:=con1 Book (fun _=>[.nm 0 0,zA 2]) (fun b=>[zZ b]) Book.cntOk (fun b=>zZg b b.sells) (fun b=>[zZ b])
def zC (s:Bool):Int:=if s then 2 else 1
def bestC:Con:=con1 BkS (fun i=>[.nm 0 0,zA (zC i.side)]) (fun i=>[zZ i.b]) (fun i=>i.b.cntOk) (fun i=>zZg i.b (i.b.side i.side)) (fun i=>[zZ i.b])
structure Top where
 has1:Bool
 has2:Bool
 p1:Int
 p2:Int
 q1:Int
 q2:Int
 deriving DecidableEq
def zY (t:Top):List D:=[.v (.bool t.has1),.v (.bool t.has2),.v (.int .i64 t.p1),.v (.int .i64 t.p2),.v (.int .i64 t.q1),.v (.int .i64 t.q2)]
def top0:Top:=⟨false,false,0,0,0,0⟩
def Top.buy (t:Top) (x:Lv×Bool):Top:=if x.2 then{t with has1:=true,p1:=x.1.price,q1:=x.1.qty}else t
def Top.sell (t:Top) (x:Lv×Bool):Top:=if x.2 then{t with has2:=true,p2:=x.1.price,q2:=x.1.qty}else t
def Book.top (b:Book):Top:=(top0.buy (b.best b.buys)).sell (b.best b.sells)
def MSt.tops (s:MSt):List Top:=s.books.map Book.top
@[reducible] def MSt.cntOk (s:MSt):Prop:=s.books.length≤1000000∧∀b∈s.books,b.cntOk
def topsC:Con:=con1 MSt (fun _=>[.nm 0 0]) (fun s=>[zD s]) MSt.cntOk (fun s=> .own 1) (fun s=>[zD s,.own 269 6 (s.tops.map zY)])
def xR (s:MSt) (j:Nat) (x:Top):List Top:=(s.tops.take j)++x::List.replicate (s.books.length-j-1) top0
def x3 (s:MSt) (j:Nat):List Top:=(s.tops.take j)++List.replicate (s.books.length-j) top0
def yKe (s:MSt):List SAnn:=[
 {ι:=Nat,slots:=fun j=>[(3,.own 0),(21,zA j)],rows:=fun j=>[.own 269 6 ((x3 s j).map zY)]},
 {ι:=Unit,slots:=fun _=>[],rows:=fun _=>[],un:=3}]
def yIv (s:MSt):List (Nat×SAnn):=[(15,{ι:=Nat×Top,slots:=fun x=>[(3,.own 0)],slots0:=fun x=>[(3,.own 0)],rows0:=fun x=>[.own 269 6 ((xR s x.1 x.2).map zY)],rows:=fun x=>[.own 269 6 ((xR s x.1 x.2).map zY)]})]
def yOv (s:MSt):List SAnn:=[{ι:=Nat,slots:=fun j=>[(3,.nm 0 0),(22,zA j)],rows:=fun j=>(List.range 5).map (xK ⟨s.p,s.books.take j,s.wh⟩)}]
open Go Cv Go.Proofs
def jI (a:ArN):Prop:=a.a.free=a.a.free∧List.map zR a.a.slots=List.map zR a.a.slots∧List.map zO a.a.queues=List.map zO a.a.queues∧True
def rN (a:ArN):Prop:=∃(b:Unit),(a.a.qAt a.n).total=0∧jI a
def gK (a:ArN):=(↑(List.map zO a.a.queues).length:Int)
def z3b (i:ArN):Prop:=
 cnd (decide (i.n≥0)) (cnd (!decide (i.n<(gK i))) (rN i) ((0≤i.n∧i.n<(gK i))∧∃(a:Int),zE (List.map zO i.a.queues) i.n.toNat ((0:Nat)+(2:Nat)) 1=some [dI a]∧∃(b:Unit),(i.a.qAt i.n).total=a∧jI i)) (rN i)
def rH (a:ArN):Prop:=∃(b:Unit),(a.a.qAt a.n).count=0∧jI a
def z1e (i:ArN):Prop:=
 cnd (decide (i.n≥0)) (cnd (!decide (i.n<(gK i))) (rH i) ((0≤i.n∧i.n<(gK i))∧∃(a:Int),zE (List.map zO i.a.queues) i.n.toNat ((0:Nat)+(3:Nat)) 1=some [dI a]∧∃(b:Unit),(i.a.qAt i.n).count=a∧jI i)) (rH i)
def yQz (n:Int):Prop:=
 cnd (n==1) (∃(a:Unit),(decide (n=1)||decide (n=2))=true∧True) (∃(a:Unit),(decide (n=1)||decide (n=2))=(n==2)∧True)
def yPz (i:BkR):Prop:=
 ∃(i_1:ArN),i_1.n=i.r.queue∧AObj.adt Arena 3 zG i_1.a=AObj.adt Arena 3 zG i.b.a∧True∧∀(o:Unit),True→i.r.queue=i.r.queue∧True∧i.r.price=i.r.price∧∃(i_2:ArN),i_2.n=i.r.queue∧AObj.adt Arena 3 zG i_2.a=AObj.adt Arena 3 zG i_1.a∧True∧∀(o:Unit),True→i.r.price=i.r.price∧∃(o:Unit),i.r.price=i.r.price∧(i.b.a.qAt i.r.queue).total=(i_1.a.qAt i_1.n).total∧(i.b.a.qAt i.r.queue).count=(i_2.a.qAt i_2.n).count∧i.b.top1=i.b.top1∧i.b.top2=i.b.top2∧i.b.has1=i.b.has1∧i.b.has2=i.b.has2∧AObj.adt Arena 3 zG i.b.a=AObj.adt Arena 3 zG i_2.a∧List.map zB i.b.buys=List.map zB i.b.buys∧List.map zB i.b.sells=List.map zB i.b.sells∧atE i.b.at_=atE i.b.at_∧iE i.b.spare=iE i.b.spare∧True
def yMs (b:Book):Prop:=
 ∃(i:Int),i=1∧True∧∀(o:Unit),True→cnd (!(decide (i=1)||decide (i=2))) (∃(o:Unit),(b.best b.buys).fst.price=0∧(b.best b.buys).fst.qty=0∧(b.best b.buys).fst.count=0∧(b.best b.buys).snd=false∧b.top1=b.top1∧b.top2=b.top2∧b.has1=b.has1∧b.has2=b.has2∧AObj.adt Arena 3 zG b.a=AObj.adt Arena 3 zG b.a∧List.map zB b.buys=List.map zB b.buys∧List.map zB b.sells=List.map zB b.sells∧atE b.at_=atE b.at_∧iE b.spare=iE b.spare∧True) (cnd ((↑(List.map zB b.buys).length:Int)==0) (∃(o:Unit),(b.best b.buys).fst.price=0∧(b.best b.buys).fst.qty=0∧(b.best b.buys).fst.count=0∧(b.best b.buys).snd=false∧b.top1=b.top1∧b.top2=b.top2∧b.has1=b.has1∧b.has2=b.has2∧AObj.adt Arena 3 zG b.a=AObj.adt Arena 3 zG b.a∧List.map zB b.buys=List.map zB b.buys∧List.map zB b.sells=List.map zB b.sells∧atE b.at_=atE b.at_∧iE b.spare=iE b.spare∧True) (((0:Int)≤(0:Int)∧0<(↑(List.map zB b.buys).length:Int))∧∃(n:Int),∃(n_1:Int),zE (List.map zB b.buys) (Int.toNat 0) 0 2=some [D.v (.int .i64 n),D.v (.int .i64 n_1)]∧∃(i:BkR),i.r.price=n∧i.r.queue=n_1∧i.b.top1=b.top1∧i.b.top2=b.top2∧i.b.has1=b.has1∧i.b.has2=b.has2∧AObj.adt Arena 3 zG i.b.a=AObj.adt Arena 3 zG b.a∧List.map zB i.b.buys=List.map zB b.buys∧List.map zB i.b.sells=List.map zB b.sells∧atE i.b.at_=atE b.at_∧iE i.b.spare=iE b.spare∧(∀(q:dJ),q∈i.b.a.queues→(-9223372036854775808)≤q.count∧q.count≤9223372036854775807)∧∀(o:Unit),True→∃(o:Unit),(b.best b.buys).fst.price=i.r.price∧(b.best b.buys).fst.qty=(i.b.a.qAt i.r.queue).total∧(b.best b.buys).fst.count=(i.b.a.qAt i.r.queue).count∧(b.best b.buys).snd=true∧zZ b=zZ i.b∧True))
def yOz (b:Book):Prop:=
 ∃(i:Int),i=2∧True∧∀(o:Unit),True→cnd (!(decide (i=1)||decide (i=2))) (∃(o:Unit),(b.best b.sells).fst.price=0∧(b.best b.sells).fst.qty=0∧(b.best b.sells).fst.count=0∧(b.best b.sells).snd=false∧b.top1=b.top1∧b.top2=b.top2∧b.has1=b.has1∧b.has2=b.has2∧AObj.adt Arena 3 zG b.a=AObj.adt Arena 3 zG b.a∧List.map zB b.buys=List.map zB b.buys∧List.map zB b.sells=List.map zB b.sells∧atE b.at_=atE b.at_∧iE b.spare=iE b.spare∧True) (cnd ((↑(List.map zB b.sells).length:Int)==0) (∃(o:Unit),(b.best b.sells).fst.price=0∧(b.best b.sells).fst.qty=0∧(b.best b.sells).fst.count=0∧(b.best b.sells).snd=false∧b.top1=b.top1∧b.top2=b.top2∧b.has1=b.has1∧b.has2=b.has2∧AObj.adt Arena 3 zG b.a=AObj.adt Arena 3 zG b.a∧List.map zB b.buys=List.map zB b.buys∧List.map zB b.sells=List.map zB b.sells∧atE b.at_=atE b.at_∧iE b.spare=iE b.spare∧True) (((0:Int)≤(0:Int)∧0<(↑(List.map zB b.sells).length:Int))∧∃(n:Int),∃(n_1:Int),zE (List.map zB b.sells) (Int.toNat 0) 0 2=some [D.v (.int .i64 n),D.v (.int .i64 n_1)]∧∃(i:BkR),i.r.price=n∧i.r.queue=n_1∧i.b.top1=b.top1∧i.b.top2=b.top2∧i.b.has1=b.has1∧i.b.has2=b.has2∧AObj.adt Arena 3 zG i.b.a=AObj.adt Arena 3 zG b.a∧List.map zB i.b.buys=List.map zB b.buys∧List.map zB i.b.sells=List.map zB b.sells∧atE i.b.at_=atE b.at_∧iE i.b.spare=iE b.spare∧(∀(q:dJ),q∈i.b.a.queues→(-9223372036854775808)≤q.count∧q.count≤9223372036854775807)∧∀(o:Unit),True→∃(o:Unit),(b.best b.sells).fst.price=i.r.price∧(b.best b.sells).fst.qty=(i.b.a.qAt i.r.queue).total∧(b.best b.sells).fst.count=(i.b.a.qAt i.r.queue).count∧(b.best b.sells).snd=true∧zZ b=zZ i.b∧True))
def zEx (a:MSt):Prop:=Sx.AObj.map (yU a.wh)=Sx.AObj.map (yU a.wh)∧AObj.fro 1 (iE a.p.months)=AObj.fro 1 (iE a.p.months)∧AObj.fro 1 (iE a.p.settle)=AObj.fro 1 (iE a.p.settle)
def zCa (a:Nat×Top→Prop) (b:Nat×Top) (c:MSt) (d:Nat) (e:Book):Prop:=a b∧AObj.own 3 1 [[dI 1],[dI 2]]=AObj.own 3 1 [[dI 1],[dI 2]]∧Sx.AObj.cells (gY (jH 0 1 5) [sV c.p.code,V.own 3,zA c.p.tick,zA c.p.low,zA c.p.high,zA c.p.wide,zA c.p.rule,zA c.p.top,zA c.p.least,zA c.p.part,V.own 4,V.own 1,V.mp 2]) (182:TypeId)=Sx.AObj.cells (gY (jH 0 1 5) [sV c.p.code,V.own 3,zA c.p.tick,zA c.p.low,zA c.p.high,zA c.p.wide,zA c.p.rule,zA c.p.top,zA c.p.least,zA c.p.part,V.own 4,V.own 1,V.mp 2]) (182:TypeId)∧AObj.objs 184 Book 6 zQ (c.books.set (↑d:Int).toNat e) none=AObj.objs 184 Book 6 zQ c.books none∧zEx c
def zJg (a:MSt) (b:Nat×Top) (c:Nat×Top→Prop) (d:Nat) (e:Book):Prop:=∃(f:Nat×Top),List.map zY (xR a f.fst f.snd)=List.map zY (xR a b.fst b.snd)∧zCa c f a d e
def v9 (a:MSt) (b:Nat×Top):=(List.map zY (xR a b.fst b.snd))
def cQ (a:MSt) (b:Nat×Top) (c:Nat):=(yH (v9 a b) (↑c:Int).toNat ((0:Nat)+(0:Nat)+(nat_lit 0+nat_lit 1) % ((2:Int) ^ IntKind.i64.bits).natAbs*1) [D.v (.bool true)])
def zV (a:BkS):=(a.b.best (a.b.side a.side))
def fP (a:BkS):=((zV a).fst.price)
def fE (a:MSt) (b:Nat×Top) (c:Nat) (d:BkS):=(yH (cQ a b c) (↑c:Int).toNat ((0:Nat)+(2:Nat)+(nat_lit 0+nat_lit 1) % ((2:Int) ^ IntKind.i64.bits).natAbs*1) [dI (fP d)])
def tU (a:Nat) (b:MSt) (c:Nat×Top) (d:BkS):Prop:=(0≤(↑a:Int)∧(↑a:Int)<(↑(fE b c a d).length:Int))∧(↑a:Int).toNat=(↑a:Int).toNat
def cM (a:MSt) (b:Nat×Top) (c:Nat):=(yH (v9 a b) (↑c:Int).toNat ((0:Nat)+(0:Nat)+nat_lit 0*1) [D.v (.bool true)])
def fL (a:MSt) (b:Nat×Top) (c:Nat) (d:BkS):=(yH (cM a b c) (↑c:Int).toNat ((0:Nat)+(2:Nat)+nat_lit 0*1) [dI (fP d)])
def tN (a:Nat) (b:MSt) (c:Nat×Top) (d:BkS):Prop:=(0≤(↑a:Int)∧(↑a:Int)<(↑(fL b c a d).length:Int))∧(↑a:Int).toNat=(↑a:Int).toNat
def cN (a:Nat) (b:MSt) (c:Nat×Top):Prop:=(0≤(↑a:Int)∧(↑a:Int)<(↑(cQ b c a).length:Int))∧(↑a:Int).toNat=(↑a:Int).toNat
def cI (a:Nat) (b:MSt) (c:Nat×Top):Prop:=(0≤(↑a:Int)∧(↑a:Int)<(↑(cM b c a).length:Int))∧(↑a:Int).toNat=(↑a:Int).toNat
def eK (a:MSt):Prop:=0≤(↑a.books.length:Int)∧(↑a.books.length:Int)≤(↑a.books.length:Int)∧(↑a.books.length:Int)≤9223372036854775807∧(↑(40:Nat):Int)*(↑a.books.length:Int)≤2 ^ (48:Nat)
def cL:Prop:=0≤IntKind.i64.wrap ((0:Int)+(1:Int))∧IntKind.i64.wrap ((0:Int)+(1:Int))<(↑(2:Nat):Int)
def wR (a:BkS):Prop:=∀(b:dJ),b∈a.b.a.queues→(-9223372036854775808)≤b.count∧b.count≤9223372036854775807
def qQ (a:Nat) (b:MSt) (c:Nat×Top):Prop:=0≤(↑a:Int)∧(↑a:Int)<(↑(v9 b c).length:Int)
def vT (a:BkS):=((zV a).fst.qty)
def yIk (s:MSt):Prop:=
 (eK s)∧∃(a:Nat),(↑a:Int)=0∧List.map zY (x3 s a)=List.replicate (↑s.books.length:Int).toNat [D.v (.bool false),D.v (.bool false),dI 0,dI 0,dI 0,dI 0]∧∃(b:Nat→Prop),∃(c:Nat→Nat),b a∧∀(d:Nat),b d→cnd (decide ((↑d:Int)<(↑s.books.length:Int))) ((0≤(↑d:Int)∧(↑d:Int)<(↑s.books.length:Int))∧(↑d:Int).toNat<s.books.length∧∃(e:Nat×Top),List.map zY (xR s e.fst e.snd)=List.map zY (x3 s d)∧∃(f:Nat×Top→Prop),(((0:Int)≤(0:Int)∧0<(↑(2:Nat):Int))∧∃(g:Int),zE [[dI 1],[dI 2]] (Int.toNat 0) 0 1=some [dI g]∧∃(h:Book),s.books[(↑d:Int).toNat]?=some h∧∃(j:BkS),zC j.side=g∧zZ j.b=zZ h∧(wR j)∧∀(k:Unit),True→∃(l:Book),zZ j.b=zZ l∧(↑d:Int).toNat=(↑d:Int).toNat∧(↑d:Int).toNat<s.books.length∧cnd (zV j).snd ((qQ d s e)∧(qQ d s e)∧(qQ d s e)∧(↑d:Int).toNat<(v9 s e).length∧(cI d s e)∧(cI d s e)∧(zV j).fst.qty=(zV j).fst.qty∧(zV j).fst.price=(zV j).fst.price∧(↑d:Int).toNat<(cM s e d).length∧(tN d s e j)∧(zV j).fst.qty=(zV j).fst.qty∧(↑d:Int).toNat<(fL s e d j).length∧∃(m:Nat×Top),List.map zY (xR s m.fst m.snd)=yH (fL s e d j) (↑d:Int).toNat ((0:Nat)+(4:Nat)+nat_lit 0*1) [dI (vT j)]∧zCa f m s d l) (zJg s e f d l))∧∀(g:Nat×Top),f g→∃(h:Nat×Top),List.map zY (xR s h.fst h.snd)=List.map zY (xR s g.fst g.snd)∧∃(j:Nat×Top→Prop),((cL)∧∃(k:Int),zE [[dI 1],[dI 2]] (IntKind.i64.wrap ((0:Int)+(1:Int))).toNat 0 1=some [dI k]∧∃(l:Book),s.books[(↑d:Int).toNat]?=some l∧∃(m:BkS),zC m.side=k∧zZ m.b=zZ l∧(wR m)∧∀(n:Unit),True→∃(p:Book),zZ m.b=zZ p∧(↑d:Int).toNat=(↑d:Int).toNat∧(↑d:Int).toNat<s.books.length∧cnd (zV m).snd ((qQ d s h)∧(qQ d s h)∧(qQ d s h)∧(↑d:Int).toNat<(v9 s h).length∧(cN d s h)∧(cN d s h)∧(zV m).fst.qty=(zV m).fst.qty∧(zV m).fst.price=(zV m).fst.price∧(↑d:Int).toNat<(cQ s h d).length∧(tU d s h m)∧(zV m).fst.qty=(zV m).fst.qty∧(↑d:Int).toNat<(fE s h d m).length∧∃(q:Nat×Top),List.map zY (xR s q.fst q.snd)=yH (fE s h d m) (↑d:Int).toNat ((0:Nat)+(4:Nat)+(nat_lit 0+nat_lit 1) % ((2:Int) ^ IntKind.i64.bits).natAbs*1) [dI (vT m)]∧zCa j q s d p) (zJg s h j d p))∧∀(k:Nat×Top),j k→∃(l:Nat),(↑l:Int)=IntKind.i64.wrap ((↑d:Int)+1)∧List.map zY (x3 s l)=List.map zY (xR s k.fst k.snd)∧b l∧c l<c d∧Sx.AObj.cells (gY (jH 0 1 5) [sV s.p.code,V.own 3,zA s.p.tick,zA s.p.low,zA s.p.high,zA s.p.wide,zA s.p.rule,zA s.p.top,zA s.p.least,zA s.p.part,V.own 4,V.own 1,V.mp 2]) (182:TypeId)=Sx.AObj.cells (gY (jH 0 1 5) [sV s.p.code,V.own 3,zA s.p.tick,zA s.p.low,zA s.p.high,zA s.p.wide,zA s.p.rule,zA s.p.top,zA s.p.least,zA s.p.part,V.own 4,V.own 1,V.mp 2]) (182:TypeId)∧AObj.objs 184 Book 6 zQ s.books none=AObj.objs 184 Book 6 zQ s.books none∧zEx s) (∃(e:Unit),sb s.p.code=sb s.p.code∧s.p.tick=s.p.tick∧s.p.low=s.p.low∧s.p.high=s.p.high∧s.p.wide=s.p.wide∧s.p.rule=s.p.rule∧s.p.top=s.p.top∧s.p.least=s.p.least∧s.p.part=s.p.part∧AObj.objs 184 Book 6 zQ s.books none=AObj.objs 184 Book 6 zQ s.books none∧yU s.wh=yU s.wh∧AObj.fro 1 (iE s.p.months)=AObj.fro 1 (iE s.p.months)∧AObj.fro 1 (iE s.p.settle)=AObj.fro 1 (iE s.p.settle)∧List.map zY s.tops=List.map zY (x3 s d)∧True)
def yLg (s:MSt):Prop:=
 ∃(i:List (Value×List D)),i=yU s.wh∧True∧∀(o:Unit),True→(sb s.p.code=sb s.p.code∧True∧s.p.tick=s.p.tick∧s.p.low=s.p.low∧s.p.high=s.p.high∧s.p.wide=s.p.wide∧s.p.rule=s.p.rule∧s.p.top=s.p.top∧s.p.least=s.p.least∧s.p.part=s.p.part∧True∧True)∧∃(i0:Nat),(↑i0:Int)=0∧sb s.p.code=sb s.p.code∧s.p.tick=s.p.tick∧s.p.low=s.p.low∧s.p.high=s.p.high∧s.p.wide=s.p.wide∧s.p.rule=s.p.rule∧s.p.top=s.p.top∧s.p.least=s.p.least∧s.p.part=s.p.part∧List.take i0 s.books=[]∧(none:Option Nat)=none∧yU s.wh=i∧AObj.fro 1 (iE s.p.months)=AObj.fro 1 (iE s.p.months)∧AObj.fro 1 (iE s.p.settle)=AObj.fro 1 (iE s.p.settle)∧∃(I:Nat→Prop),∃(μ:Nat→Nat),I i0∧∀(i_1:Nat),I i_1→cnd (decide ((↑i_1:Int)<(↑s.books.length:Int))) ((0≤(↑i_1:Int)∧(↑i_1:Int)<(↑s.books.length:Int))∧(↑i_1:Int).toNat<s.books.length∧∃(x:Book),s.books[(↑i_1:Int).toNat]?=some x∧∃(i_2:Book),zZ i_2=zZ x∧((i_2.a.slots.length≤1000000∧i_2.a.queues.length≤1000000)∧i_2.buys.length≤1000000∧i_2.sells.length≤1000000∧i_2.spare.length≤1000000)∧∀(o:Unit),True→∃(x:Book),zZ i_2=zZ x∧(↑i_1:Int).toNat=(↑i_1:Int).toNat∧(↑i_1:Int).toNat<s.books.length∧True∧True∧∃(l1':List Book),AObj.objs 184 Book 6 zQ (List.take i_1 s.books) none=AObj.objs 184 Book 6 zQ l1' none∧(l1'.length+1)*(8:Nat)≤(140737488355328:Nat)∧∃(i':Nat),(↑i':Int)=IntKind.i64.wrap ((↑i_1:Int)+1)∧sb s.p.code=sb s.p.code∧s.p.tick=s.p.tick∧s.p.low=s.p.low∧s.p.high=s.p.high∧s.p.wide=s.p.wide∧s.p.rule=s.p.rule∧s.p.top=s.p.top∧s.p.least=s.p.least∧s.p.part=s.p.part∧AObj.objs 184 Book 6 zQ (List.take i' s.books) none=AObj.objs 184 Book 6 zQ (l1'++[i_2]) none∧yU s.wh=yU s.wh∧AObj.fro 1 (iE s.p.months)=AObj.fro 1 (iE s.p.months)∧AObj.fro 1 (iE s.p.settle)=AObj.fro 1 (iE s.p.settle)∧I i'∧μ i'<μ i_1∧Sx.AObj.map i=Sx.AObj.map i∧Sx.AObj.cells (gY (jH 0 1 5) [sV s.p.code,V.own 3,zA s.p.tick,zA s.p.low,zA s.p.high,zA s.p.wide,zA s.p.rule,zA s.p.top,zA s.p.least,zA s.p.part,V.own 4,V.own 1,V.mp 2]) (182:TypeId)=Sx.AObj.cells (gY (jH 0 1 5) [sV s.p.code,V.own 3,zA s.p.tick,zA s.p.low,zA s.p.high,zA s.p.wide,zA s.p.rule,zA s.p.top,zA s.p.least,zA s.p.part,V.own 4,V.own 1,V.mp 2]) (182:TypeId)∧AObj.objs 184 Book 6 zQ (s.books.set (↑i_1:Int).toNat x) none=AObj.objs 184 Book 6 zQ s.books none∧AObj.fro 1 (iE s.p.months)=AObj.fro 1 (iE s.p.months)∧AObj.fro 1 (iE s.p.settle)=AObj.fro 1 (iE s.p.settle)) (∃(o:Unit),sb s.p.code=sb s.p.code∧s.p.tick=s.p.tick∧s.p.low=s.p.low∧s.p.high=s.p.high∧s.p.wide=s.p.wide∧s.p.rule=s.p.rule∧s.p.top=s.p.top∧s.p.least=s.p.least∧s.p.part=s.p.part∧AObj.objs 184 Book 6 zQ s.books none=AObj.objs 184 Book 6 zQ s.books none∧yU s.wh=i∧AObj.fro 1 (iE s.p.months)=AObj.fro 1 (iE s.p.months)∧AObj.fro 1 (iE s.p.settle)=AObj.fro 1 (iE s.p.settle)∧sb s.p.code=sb s.p.code∧s.p.tick=s.p.tick∧s.p.low=s.p.low∧s.p.high=s.p.high∧s.p.wide=s.p.wide∧s.p.rule=s.p.rule∧s.p.top=s.p.top∧s.p.least=s.p.least∧s.p.part=s.p.part∧AObj.objs 184 Book 6 zQ s.books none=AObj.objs 184 Book 6 zQ (List.take i_1 s.books) none∧yU s.wh=yU s.wh∧AObj.fro 1 (iE s.p.months)=AObj.fro 1 (iE s.p.months)∧AObj.fro 1 (iE s.p.settle)=AObj.fro 1 (iE s.p.settle)∧True)
open Go Cv Go.Proofs
theorem elA {α:Type} {f:α→List D} {l:List α} {i g n:Nat} {x:α} {r:List D} (h:l[i]? =some x) (hn:g+n≤(f x).length) (hr:((f x).drop g).take n=r):zE (l.map f) i g n=some r:=by
 unfold zE
 rw[yWt,h]
 simp only[yXi,Nat.ble_eq_true_of_le hn,cond_true,hr]
theorem zQi {a:Arena} {n:Int} {q:dJ} (h0:0≤n) (h:a.queues[n.toNat]? =some q):a.qAt n=q:=by
 have:=(yVn.1 h).1
 rw[Arena.qAt,yVl ⟨h0,by omega⟩,yVs,h];rfl
theorem zGw {a:Arena} {n:Int} (h:¬(0≤n∧n<a.queues.length)):a.qAt n=⟨0,0,0,0⟩:=by rw[Arena.qAt,yVj h]
theorem zEk:atotalC.ok Tryz.prog 232:=okw (V:=z3b) mixed gok0 1 (fun _=>[]) (fun _=>[]) [0] Tryz.func232 fun(i:ArN) _=>by
 unfold z3b gK rN jI dI
 simp only[yVk]
 refine zJ (fun c=>Cv.cnd.mk (fun d=> ?_) (fun d=> ?_)) (fun c=> ?_)
 ·have d:¬i.n<(i.a.queues.length:Int):=by simpa using d
  rw[zGw (by omega)];exact kp
 ·have d:i.n<(i.a.queues.length:Int):=by simpa using d
  obtain⟨q,hq⟩:=yD (l:=i.a.queues) (i:=i.n.toNat) (by omega)
  rw[zQi (by omega) hq]
  refine⟨⟨by omega,by omega⟩,q.total,elA hq (by simp[zO]) rfl,?_⟩;exact kp
 ·rw[zGw (by omega)];exact kp
theorem a6:acountC.ok Tryz.prog 229:=okw (V:=z1e) mixed gok0 1 (fun _=>[]) (fun _=>[]) [0] Tryz.func229 fun(i:ArN) _=>by
 unfold z1e gK rH jI dI
 simp only[yVk]
 refine zJ (fun c=>Cv.cnd.mk (fun d=> ?_) (fun d=> ?_)) (fun c=> ?_)
 ·have d:¬i.n<(i.a.queues.length:Int):=by simpa using d
  rw[zGw (by omega)];exact kp
 ·have d:i.n<(i.a.queues.length:Int):=by simpa using d
  obtain⟨q,hq⟩:=yD (l:=i.a.queues) (i:=i.n.toNat) (by omega)
  rw[zQi (by omega) hq]
  refine⟨⟨by omega,by omega⟩,q.count,elA hq (by simp[zO]) rfl,?_⟩;exact kp
 ·rw[zGw (by omega)];exact kp
theorem rB:bisC.ok Tryz.prog 200:=okw (V:=yQz) mixed gok0 0 (fun _=>[]) (fun _=>[]) [] Tryz.func200 fun(n:Int) _=>by
 unfold yQz
 refine Cv.cnd.mk (fun c=>⟨(),?_,trivial⟩) (fun c=>⟨(),?_,trivial⟩)
 all_goals simp at c
 ·simp[c]
 ·by_cases h:n=2<;>simp[c,h]
theorem z3r:toldC.ok Tryz.prog 201:=okw (V:=yPz) mixed (gokc zEk (gokc a6 gok0)) 0 (fun _=>[]) (fun _=>[]) [0] Tryz.func201 fun(i:BkR) h=>by
 refine⟨⟨i.b.a,i.r.queue⟩,?_⟩;(repeat'(first|exact rfl|exact trivial|assumption|apply And.intro|refine fun(_:Unit) (_:True)=>?_|refine Exists.intro () ?_|omega|(dsimp only;omega)))
 refine⟨⟨i.b.a,i.r.queue⟩,?_⟩;exact kp
theorem yDc:best1C.ok Tryz.prog 163:=okw (V:=yMs) mixed (gokc rB (gokc z3r gok0)) 0 (fun _=>[]) (fun _=>[]) [0] Tryz.func163 fun(b:Book) h=>by
 have h:b.cntOk:=h
 refine⟨1,rfl,trivial,fun _ _=>Cv.cnd.mk (fun c=>absurd c (by decide)) fun _=> ?_⟩
 simp only[yVk]
 refine Cv.cnd.mk (fun c=> ?_) (fun c=> ?_)
 ·have hl:b.buys=[]:=yWl (by have:(b.buys.length:Int)=0:=(by simpa using c);omega)
  have e:b.best b.buys=(⟨0,0,0⟩,false):=by rw[hl];rfl
  rw[e];exact kp
 ·obtain⟨r,l,hl⟩:∃r l,b.buys=r::l:=by
   cases hb:b.buys with
   |nil=>rw[hb]at c;exact absurd c (by decide)
   |cons r l=>exact⟨r,l,rfl⟩
  have e:b.best b.buys=(b.told r,true):=by rw[hl];rfl
  rw[e]
  refine⟨⟨by omega,by rw[hl,yVt];omega⟩,r.price,r.queue,elA (x:=r) (by rw[hl];rfl) (by simp[zB]) rfl,⟨b,r⟩,?_⟩
  exact kp
theorem yCm:best2C.ok Tryz.prog 163:=okw (V:=yOz) mixed (gokc rB (gokc z3r gok0)) 0 (fun _=>[]) (fun _=>[]) [0] Tryz.func163 fun(b:Book) h=>by
 have h:b.cntOk:=h
 refine⟨2,rfl,trivial,fun _ _=>Cv.cnd.mk (fun c=>absurd c (by decide)) fun _=> ?_⟩
 simp only[yVk]
 refine Cv.cnd.mk (fun c=> ?_) (fun c=> ?_)
 ·have hl:b.sells=[]:=yWl (by have:(b.sells.length:Int)=0:=(by simpa using c);omega)
  have e:b.best b.sells=(⟨0,0,0⟩,false):=by rw[hl];rfl
  rw[e];exact kp
 ·obtain⟨r,l,hl⟩:∃r l,b.sells=r::l:=by
   cases hb:b.sells with
   |nil=>rw[hb]at c;exact absurd c (by decide)
   |cons r l=>exact⟨r,l,rfl⟩
  have e:b.best b.sells=(b.told r,true):=by rw[hl];rfl
  rw[e]
  refine⟨⟨by omega,by rw[hl,yVt];omega⟩,r.price,r.queue,elA (x:=r) (by rw[hl];rfl) (by simp[zB]) rfl,⟨b,r⟩,?_⟩
  exact kp
theorem zGy:bestC.ok Tryz.prog 163:=fun i=>match i with
 |⟨false,b⟩=>yDc b
 |⟨true,b⟩=>yCm b
theorem zJp {α:Type} (f:α→α) (x:α) (b:List α):∀a:List α,(a++x::b).modify a.length f=a++f x::b
 |[]=>rfl
 |y::a=>by
  show y::(a++x::b).modify a.length f=_
  rw[zJp f x b a];rfl
theorem zNq {els:List (List D)} {a b:List (List D)} {x y ds:List D} {j f:Nat} (h:els=a++x::b) (hl:a.length=j) (hy:x.take f++(ds++x.drop (f+ds.length))=y):yH els j f ds=a++y::b:=by
 rw[yH,h,← hl,zJp,hy]
theorem qV {s:MSt} {j:Nat} {x y:Top} {f:Nat} {ds:List D} (hj:j<s.books.length) (hy:(zY x).take f++(ds++(zY x).drop (f+ds.length))=zY y):
 yH (List.map zY (xR s j x)) j f ds=List.map zY (xR s j y):=by
 rw[zNq (a:=(s.tops.take j).map zY) (b:=(List.replicate (s.books.length-j-1) top0).map zY) (by rw[xR,yVu,yVz]) (by
  rw[yVk,yWe,MSt.tops,yVk];omega) hy,xR,yVu,yVz]
theorem zHt {s:MSt} {j:Nat} {x:Top} (hj:j<s.books.length):(xR s j x).length=s.books.length:=by
 rw[xR,yVm,yVt,yWe,MSt.tops,yVk,yYj];omega
theorem zFq {s:MSt} {j:Nat} (hj:j<s.books.length):xR s j top0=x3 s j:=by
 rw[xR,x3]
 obtain⟨m,hm⟩:∃m,s.books.length-j=m+1:=⟨s.books.length-j-1,by omega⟩
 rw[hm,yZj];rfl
theorem zFo {s:MSt} {j:Nat} {b:Book} (hb:s.books[j]? =some b):xR s j b.top=x3 s (j+1):=by
 have hj:=(yVn.1 hb).1
 rw[xR,x3,yWs,show s.tops[j]? =some b.top by rw[MSt.tops,yWt,hb];rfl]
 simp only[yYw,yVq,yXb,yYa]
 rw[show s.books.length-j-1=s.books.length-(j+1)by omega]
theorem gZ {α:Type} {l:List α} {j:Nat} {x:α} (h:l[j]? =some x):l.set j x=l:=by
 obtain⟨hj,rfl⟩:=yVn.1 h
 exact List.set_getElem_self hj
theorem yPj (s:MSt) (h:topsC.cnd s):yIk s:=by
 obtain⟨h1,h2⟩:s.cntOk:=h
 unfold yIk zJg zCa vT qQ wR cL zEx eK cI cN tN fL cM tU fE fP zV cQ v9 dI
 have p48:(2:Int) ^ (48:Nat)=281474976710656:=by decide
 refine⟨⟨by omega,by omega,by omega,by rw[p48];omega⟩,0,rfl,?_,fun j=>j≤s.books.length,fun j=>s.books.length-j,by omega,fun j hj=>zJ (fun hlt=> ?_) (fun hlt=> ?_)⟩
 ·rw[x3,yVu,List.map_replicate];rfl
 ·have hj':j<s.books.length:=by omega
  obtain⟨b,hb⟩:=yD hj'
  have hc:=h2 b (yVv hb)
  simp only[yWb]
  have ha:∀x,(List.map zY (xR s j x)).length=s.books.length:=fun x=>by rw[yVk,zHt hj']
  have w1:IntKind.i64.wrap (0+1)=1:=by decide
  have w2:(0+1) % ((2:Int) ^ IntKind.i64.bits).natAbs=1:=by decide
  refine⟨⟨by omega,by omega⟩,by omega,(j,top0),by rw[zFq hj'],fun x=>x=(j,top0.buy (b.best b.buys)),⟨⟨by decide,by decide⟩,1,rfl,b,hb,⟨false,b⟩,rfl,rfl,hc,fun _ _=>⟨b,rfl,kp,by omega,?_⟩⟩,?_⟩
  ·refine Cv.cnd.mk (fun c=> ?_) (fun c=> ?_)
   ·have c:(b.best b.buys).2=true:=c
    have e1:=qV (s:=s) hj' (x:=top0) (y:={top0 with has1:=true}) (f:=0+0+0*1) (ds:=[D.v (.bool true)]) rfl
    have e2:=qV (s:=s) hj' (x:={top0 with has1:=true}) (y:={top0 with has1:=true,p1:=(b.best b.buys).1.price}) (f:=0+2+0*1) (ds:=[D.v (.int .i64 (b.best b.buys).1.price)]) rfl
    have e3:=qV (s:=s) hj' (x:={top0 with has1:=true,p1:=(b.best b.buys).1.price}) (y:={top0 with has1:=true,p1:=(b.best b.buys).1.price,q1:=(b.best b.buys).1.qty}) (f:=0+4+0*1) (ds:=[D.v (.int .i64 (b.best b.buys).1.qty)]) rfl
    dsimp only
    simp only[show b.side false=b.buys from rfl,e1,e2,e3,ha]
    (repeat'(first|exact rfl|exact trivial|assumption|apply And.intro|refine fun(_:Unit) (_:True)=>?_|refine Exists.intro () ?_|omega|(dsimp only;omega)))
    refine⟨(j,{top0 with has1:=true,p1:=(b.best b.buys).1.price,q1:=(b.best b.buys).1.qty}),rfl,?_,?_⟩
    ·rw[Top.buy,yVl c]
    ·(repeat'(first|exact rfl|exact trivial|assumption|apply And.intro|refine fun(_:Unit) (_:True)=>?_|refine Exists.intro () ?_|omega|(dsimp only;omega)))
     rw[gZ hb]
   ·have c:(b.best b.buys).2=false:=c
    refine⟨(j,top0),rfl,?_,?_⟩
    ·rw[Top.buy,yVj (by rw[c];simp)]
    ·(repeat'(first|exact rfl|exact trivial|assumption|apply And.intro|refine fun(_:Unit) (_:True)=>?_|refine Exists.intro () ?_|omega|(dsimp only;omega)))
     rw[gZ hb]
  ·rintro _ rfl
   rw[w1]
   generalize hx:top0.buy (b.best b.buys)=x
   have hx2:b.top=x.sell (b.best b.sells):=by rw[Book.top,hx]
   refine⟨(j,x),rfl,fun y=>y=(j,b.top),⟨⟨by decide,by decide⟩,2,rfl,b,hb,⟨true,b⟩,rfl,rfl,hc,fun _ _=>⟨b,rfl,kp,by omega,?_⟩⟩,?_⟩
   ·refine Cv.cnd.mk (fun c=> ?_) (fun c=> ?_)
    ·have c:(b.best b.sells).2=true:=c
     have e1:=qV (s:=s) hj' (x:=x) (y:={x with has2:=true}) (f:=0+0+1*1) (ds:=[D.v (.bool true)]) rfl
     have e2:=qV (s:=s) hj' (x:={x with has2:=true}) (y:={x with has2:=true,p2:=(b.best b.sells).1.price}) (f:=0+2+1*1) (ds:=[D.v (.int .i64 (b.best b.sells).1.price)]) rfl
     have e3:=qV (s:=s) hj' (x:={x with has2:=true,p2:=(b.best b.sells).1.price}) (y:={x with has2:=true,p2:=(b.best b.sells).1.price,q2:=(b.best b.sells).1.qty}) (f:=0+4+1*1) (ds:=[D.v (.int .i64 (b.best b.sells).1.qty)]) rfl
     dsimp only
     simp only[w2,show b.side true=b.sells from rfl,e1,e2,e3,ha]
     (repeat'(first|exact rfl|exact trivial|assumption|apply And.intro|refine fun(_:Unit) (_:True)=>?_|refine Exists.intro () ?_|omega|(dsimp only;omega)))
     refine⟨(j,{x with has2:=true,p2:=(b.best b.sells).1.price,q2:=(b.best b.sells).1.qty}),rfl,?_,?_⟩
     ·rw[hx2,Top.sell,yVl c]
     ·(repeat'(first|exact rfl|exact trivial|assumption|apply And.intro|refine fun(_:Unit) (_:True)=>?_|refine Exists.intro () ?_|omega|(dsimp only;omega)))
      rw[gZ hb]
    ·have c:(b.best b.sells).2=false:=c
     refine⟨(j,x),rfl,?_,?_⟩
     ·rw[hx2,Top.sell,yVj (by rw[c];simp)]
     ·(repeat'(first|exact rfl|exact trivial|assumption|apply And.intro|refine fun(_:Unit) (_:True)=>?_|refine Exists.intro () ?_|omega|(dsimp only;omega)))
      rw[gZ hb]
   ·rintro _ rfl
    refine⟨j+1,by rw[w64 (by omega)];rfl,?_⟩
    refine⟨by dsimp only;rw[zFo hb],?_⟩
    exact kp
 ·have hj:j≤s.books.length:=hj
  obtain rfl:j=s.books.length:=by omega
  have e:x3 s s.books.length=s.tops:=by
   rw[x3,y0w,List.replicate_zero,yWg,yVx (by rw[MSt.tops,yVk];omega)]
  rw[e]
  exact kp
theorem yEx:topsC.ok Tryz.prog 115:=okw mixed (gokc zGy gok0) 0 (fun s=>yIv s) (fun s=>yKe s) [0] Tryz.func115 yPj
theorem zCr:copySC.ok Tryz.prog 103:=okw (V:=yLg) mixed (gokc yDv (gokc z8x gok0)) 0 (fun _=>[]) (fun s=>yOv s) [0] Tryz.func103 fun(s:MSt) h=>by
 obtain⟨h1,h2⟩:s.small:=h
 refine⟨yU s.wh,?_⟩;(repeat'(first|exact rfl|exact trivial|assumption|apply And.intro|refine fun(_:Unit) (_:True)=>?_|refine Exists.intro () ?_|omega|(dsimp only;omega)))
 refine⟨0,?_⟩;(repeat'(first|exact rfl|exact trivial|assumption|apply And.intro|refine fun(_:Unit) (_:True)=>?_|refine Exists.intro () ?_|omega|(dsimp only;omega)))
 refine⟨fun j=>j≤s.books.length,fun j=>s.books.length-j,by omega,fun j hj=>zJ (fun hlt=> ?_) (fun hlt=> ?_)⟩
 ·obtain⟨b,hb⟩:=yD (l:=s.books) (i:=j) (by omega)
  have hs:=h2 b (yVv hb)
  simp only[yWb]
  refine⟨⟨by omega,by omega⟩,by omega,b,hb,b,rfl,hs,fun _ _=>⟨b,rfl,kp,by omega,trivial,trivial,s.books.take j,rfl,?_,j+1,?_⟩⟩
  ·rw[yWe];omega
  ·rw[w64 (by omega),yWs,hb]
   (repeat'(first|exact rfl|exact trivial|assumption|apply And.intro|refine fun(_:Unit) (_:True)=>?_|refine Exists.intro () ?_|omega|(dsimp only;omega)))
   rw[gZ hb]
 ·have hj:j≤s.books.length:=hj
  obtain rfl:j=s.books.length:=by omega
  rw[yVx (yWj _)]
  exact kp
open Go Cv Go.Proofs
structure Leg where
 inst:Int
 side:Int
 deriving DecidableEq
structure Quote where
 price:Int
 qty:Int
 a:Leg
 b:Leg
 deriving DecidableEq
def zK (q:Quote):List D:=[.v (.int .i64 q.price),.v (.int .i64 q.qty),.v (.int .i64 q.a.inst),.v (.int .i64 q.a.side),.v (.int .i64 q.b.inst),.v (.int .i64 q.b.side)]
@[reducible] def zQt (q:Quote):V:= .agg [zA q.price,zA q.qty,zA q.a.inst,zA q.a.side,zA q.b.inst,zA q.b.side]
def yOy:Quote:=⟨0,0,⟨0,0⟩,⟨0,0⟩⟩
structure I3' where
 side:Int
 x:Int
 y:Int
def btr (side x y:Int):Bool:=if side=1 then decide (y<x)else decide (x<y)
def iotherC:Con:=con1 Int (fun n=>[zA n]) (fun _=>[]) (fun n=>n=1∨n=2) (fun n=>zA (3-n)) (fun _=>[])
def ibetterC:Con:=con1 I3' (fun i=>[zA i.side,zA i.x,zA i.y]) (fun _=>[]) (fun _=>True) (fun i=>yF (btr i.side i.x i.y)) (fun _=>[])
def Top.has (t:Top) (s:Int):Bool:=if s=1 then t.has1 else t.has2
def Top.price (t:Top) (s:Int):Int:=if s=1 then t.p1 else t.p2
def Top.qty (t:Top) (s:Int):Int:=if s=1 then t.q1 else t.q2
def mkq (tops:List Top) (a b:Leg) (less:Bool):List Quote:=
 let x:=tops.getD a.inst.toNat top0
 let y:=tops.getD b.inst.toNat top0
 let r:=if less then uS (y.price b.side) (x.price a.side)else uR (x.price a.side) (y.price b.side)
 if x.has a.side && y.has b.side && r.2 then[⟨r.1,min (x.qty a.side) (y.qty b.side),a,b⟩]else[]
structure MkI where
 tops:List Top
 out:List Quote
 a:Int
 b:Int
 less:Bool
@[reducible] def wY (l:List Top):Prop:=l.length≤1000000∧∀t∈l,yO t.p1∧yO t.p2
def MkU (x:List Top×List Quote):Nat→AObj
 |0=> .cells [.own 1,.own 2] 311
 |1=> .fro 6 (x.1.map zY)
 |2=> .own 257 6 (x.2.map zK)
 |_=> .gone
@[reducible] def MkR (tops:List Top) (out:List Quote):List AObj:=[MkU (tops,out) 0,MkU (tops,out) 1,MkU (tops,out) 2]
@[reducible] def MkP (tops:List Top) (out:List Quote):List AObj:=[.cells [.own 1,.own 3] 311,MkU (tops,out) 1,.gone,MkU (tops,out) 2]
def mkC (sa sb:Int):Con:=con1 MkI (fun i=>[.nm 0 0,.agg [zA i.a,zA sa],.agg [zA i.b,zA sb],yF i.less]) (fun i=>MkR i.tops i.out)
 (fun i=>0≤i.a∧i.a<i.tops.length∧0≤i.b∧i.b<i.tops.length∧wY i.tops∧i.out.length≤1000) (fun _=>zCk) (fun i=>MkP i.tops (i.out++mkq i.tops ⟨i.a,sa⟩ ⟨i.b,sb⟩ i.less))
def mk11:Con:=mkC 1 1
def mk12:Con:=mkC 1 2
def mk21:Con:=mkC 2 1
def mk22:Con:=mkC 2 2
open Go Cv Go.Proofs
def yIc (n:Int):Prop:=
 ∃(o:Unit),3-n=IntKind.i64.wrap (3-n)∧True
def z8n (i:I3'):Prop:=
 cnd (i.side==1) (∃(o:Unit),btr i.side i.x i.y=decide (i.x>i.y)∧True) (∃(o:Unit),btr i.side i.x i.y=decide (i.x<i.y)∧True)
def tP (a:MkI):=(a.out++mkq a.tops (Leg.mk a.a 1) (Leg.mk a.b 1) a.less)
def aU (a:MkI):Prop:=∃(b:Unit),AObj.fro 6 (List.map zY a.tops)=MkU (a.tops,a.out) 1∧List.map zK (tP a)=List.map zK a.out∧True
def jA (a:I2):Prop:=((-9223372036854775808)≤a.x∧a.x≤9223372036854775807)∧(-9223372036854775808)≤a.y∧a.y≤9223372036854775807
def qT (a:MkI):=(↑(List.map zY a.tops).length:Int)
def x5 (a:MkI):Prop:=(0≤a.b∧a.b<(qT a))∧a.b.toNat=a.b.toNat
def kZ (a:MkI):Prop:=(0≤a.a∧a.a<(qT a))∧a.a.toNat=a.a.toNat
def jB (a:MkI):=((List.map zK a.out).length+1)
def zLn (a:MkI) (b:Bool) (c:Bool) (d:Int) (e:Int) (f:Int) (g:Int):Prop:=True∧(x5 a)∧a.b=a.b∧True∧True∧(kZ a)∧a.a=a.a∧True∧True∧(x5 a)∧a.b=a.b∧True∧True∧(kZ a)∧a.a=a.a∧True∧True∧(x5 a)∧a.b=a.b∧True∧cnd (!b) (aU a) (cnd (!c) (aU a) (∃(h:I2),h.x=d∧h.y=e∧(jA h)∧∀(j:Unit),True→cnd a.less (∃(k:I2),k.x=e∧k.y=d∧(jA k)∧∀(l:Unit),True→cnd (uS k.x k.y).snd (True∧(jB a)*(48:Nat)≤(140737488355328:Nat)∧∃(m:Unit),AObj.fro 6 (List.map zY a.tops)=MkU (a.tops,a.out) 1∧List.map zK (tP a)=List.map zK a.out++[[dI ((uS k.x k.y).fst),dI (min f g),dI a.a,dI 1,dI a.b,dI 1]]∧True) (aU a)) (cnd (uR h.x h.y).snd (True∧(jB a)*(48:Nat)≤(140737488355328:Nat)∧∃(k:Unit),AObj.fro 6 (List.map zY a.tops)=MkU (a.tops,a.out) 1∧List.map zK (tP a)=List.map zK a.out++[[dI ((uR h.x h.y).fst),dI (min f g),dI a.a,dI 1,dI a.b,dI 1]]∧True) (aU a))))
def yIu (i:MkI):Prop:=
 (0≤i.a∧i.a<(qT i))∧∃(a:Bool),∃(b:Bool),∃(c:Int),∃(d:Int),∃(e:Int),∃(f:Int),zE (List.map zY i.tops) i.a.toNat 0 6=some [D.v (.bool a),D.v (.bool b),dI c,dI d,dI e,dI f]∧(0≤i.b∧i.b<(qT i))∧∃(g:Bool),∃(h:Bool),∃(j:Int),∃(k:Int),∃(l:Int),∃(m:Int),zE (List.map zY i.tops) i.b.toNat 0 6=some [D.v (.bool g),D.v (.bool h),dI j,dI k,dI l,dI m]∧(zLn i a g c j e l)∧zLn i a g c j e l
def tH (a:MkI):=(a.out++mkq a.tops (Leg.mk a.a 1) (Leg.mk a.b 2) a.less)
def aX (a:MkI):Prop:=∃(b:Unit),AObj.fro 6 (List.map zY a.tops)=MkU (a.tops,a.out) 1∧List.map zK (tH a)=List.map zK a.out∧True
def zIl (a:MkI) (b:Bool) (c:Bool) (d:Int) (e:Int) (f:Int) (g:Int):Prop:=True∧(x5 a)∧a.b=a.b∧True∧True∧(kZ a)∧a.a=a.a∧True∧True∧(x5 a)∧a.b=a.b∧True∧True∧(kZ a)∧a.a=a.a∧True∧True∧(x5 a)∧a.b=a.b∧True∧cnd (!b) (aX a) (cnd (!c) (aX a) (∃(h:I2),h.x=d∧h.y=e∧(jA h)∧∀(j:Unit),True→cnd a.less (∃(k:I2),k.x=e∧k.y=d∧(jA k)∧∀(l:Unit),True→cnd (uS k.x k.y).snd (True∧(jB a)*(48:Nat)≤(140737488355328:Nat)∧∃(m:Unit),AObj.fro 6 (List.map zY a.tops)=MkU (a.tops,a.out) 1∧List.map zK (tH a)=List.map zK a.out++[[dI ((uS k.x k.y).fst),dI (min f g),dI a.a,dI 1,dI a.b,dI 2]]∧True) (aX a)) (cnd (uR h.x h.y).snd (True∧(jB a)*(48:Nat)≤(140737488355328:Nat)∧∃(k:Unit),AObj.fro 6 (List.map zY a.tops)=MkU (a.tops,a.out) 1∧List.map zK (tH a)=List.map zK a.out++[[dI ((uR h.x h.y).fst),dI (min f g),dI a.a,dI 1,dI a.b,dI 2]]∧True) (aX a))))
def yKg (i:MkI):Prop:=
 (0≤i.a∧i.a<(qT i))∧∃(a:Bool),∃(b:Bool),∃(c:Int),∃(d:Int),∃(e:Int),∃(f:Int),zE (List.map zY i.tops) i.a.toNat 0 6=some [D.v (.bool a),D.v (.bool b),dI c,dI d,dI e,dI f]∧(0≤i.b∧i.b<(qT i))∧∃(g:Bool),∃(h:Bool),∃(j:Int),∃(k:Int),∃(l:Int),∃(m:Int),zE (List.map zY i.tops) i.b.toNat 0 6=some [D.v (.bool g),D.v (.bool h),dI j,dI k,dI l,dI m]∧(zIl i a h c k e m)∧zIl i a h c k e m
def tT (a:MkI):=(a.out++mkq a.tops (Leg.mk a.a 2) (Leg.mk a.b 1) a.less)
def mP (a:MkI):Prop:=∃(b:Unit),AObj.fro 6 (List.map zY a.tops)=MkU (a.tops,a.out) 1∧List.map zK (tT a)=List.map zK a.out∧True
def zJw (a:MkI) (b:Bool) (c:Bool) (d:Int) (e:Int) (f:Int) (g:Int):Prop:=True∧(x5 a)∧a.b=a.b∧True∧True∧(kZ a)∧a.a=a.a∧True∧True∧(x5 a)∧a.b=a.b∧True∧True∧(kZ a)∧a.a=a.a∧True∧True∧(x5 a)∧a.b=a.b∧True∧cnd (!b) (mP a) (cnd (!c) (mP a) (∃(h:I2),h.x=d∧h.y=e∧(jA h)∧∀(j:Unit),True→cnd a.less (∃(k:I2),k.x=e∧k.y=d∧(jA k)∧∀(l:Unit),True→cnd (uS k.x k.y).snd (True∧(jB a)*(48:Nat)≤(140737488355328:Nat)∧∃(m:Unit),AObj.fro 6 (List.map zY a.tops)=MkU (a.tops,a.out) 1∧List.map zK (tT a)=List.map zK a.out++[[dI ((uS k.x k.y).fst),dI (min f g),dI a.a,dI 2,dI a.b,dI 1]]∧True) (mP a)) (cnd (uR h.x h.y).snd (True∧(jB a)*(48:Nat)≤(140737488355328:Nat)∧∃(k:Unit),AObj.fro 6 (List.map zY a.tops)=MkU (a.tops,a.out) 1∧List.map zK (tT a)=List.map zK a.out++[[dI ((uR h.x h.y).fst),dI (min f g),dI a.a,dI 2,dI a.b,dI 1]]∧True) (mP a))))
def yJd (i:MkI):Prop:=
 (0≤i.a∧i.a<(qT i))∧∃(a:Bool),∃(b:Bool),∃(c:Int),∃(d:Int),∃(e:Int),∃(f:Int),zE (List.map zY i.tops) i.a.toNat 0 6=some [D.v (.bool a),D.v (.bool b),dI c,dI d,dI e,dI f]∧(0≤i.b∧i.b<(qT i))∧∃(g:Bool),∃(h:Bool),∃(j:Int),∃(k:Int),∃(l:Int),∃(m:Int),zE (List.map zY i.tops) i.b.toNat 0 6=some [D.v (.bool g),D.v (.bool h),dI j,dI k,dI l,dI m]∧(zJw i b g d j f l)∧zJw i b g d j f l
def eI (a:MkI):=(a.out++mkq a.tops (Leg.mk a.a 2) (Leg.mk a.b 2) a.less)
def mE (a:MkI):Prop:=∃(b:Unit),AObj.fro 6 (List.map zY a.tops)=MkU (a.tops,a.out) 1∧List.map zK (eI a)=List.map zK a.out∧True
def zHv (a:MkI) (b:Bool) (c:Bool) (d:Int) (e:Int) (f:Int) (g:Int):Prop:=True∧(x5 a)∧a.b=a.b∧True∧True∧(kZ a)∧a.a=a.a∧True∧True∧(x5 a)∧a.b=a.b∧True∧True∧(kZ a)∧a.a=a.a∧True∧True∧(x5 a)∧a.b=a.b∧True∧cnd (!b) (mE a) (cnd (!c) (mE a) (∃(h:I2),h.x=d∧h.y=e∧(jA h)∧∀(j:Unit),True→cnd a.less (∃(k:I2),k.x=e∧k.y=d∧(jA k)∧∀(l:Unit),True→cnd (uS k.x k.y).snd (True∧(jB a)*(48:Nat)≤(140737488355328:Nat)∧∃(m:Unit),AObj.fro 6 (List.map zY a.tops)=MkU (a.tops,a.out) 1∧List.map zK (eI a)=List.map zK a.out++[[dI ((uS k.x k.y).fst),dI (min f g),dI a.a,dI 2,dI a.b,dI 2]]∧True) (mE a)) (cnd (uR h.x h.y).snd (True∧(jB a)*(48:Nat)≤(140737488355328:Nat)∧∃(k:Unit),AObj.fro 6 (List.map zY a.tops)=MkU (a.tops,a.out) 1∧List.map zK (eI a)=List.map zK a.out++[[dI ((uR h.x h.y).fst),dI (min f g),dI a.a,dI 2,dI a.b,dI 2]]∧True) (mE a))))
def yIi (i:MkI):Prop:=
 (0≤i.a∧i.a<(qT i))∧∃(a:Bool),∃(b:Bool),∃(c:Int),∃(d:Int),∃(e:Int),∃(f:Int),zE (List.map zY i.tops) i.a.toNat 0 6=some [D.v (.bool a),D.v (.bool b),dI c,dI d,dI e,dI f]∧(0≤i.b∧i.b<(qT i))∧∃(g:Bool),∃(h:Bool),∃(j:Int),∃(k:Int),∃(l:Int),∃(m:Int),zE (List.map zY i.tops) i.b.toNat 0 6=some [D.v (.bool g),D.v (.bool h),dI j,dI k,dI l,dI m]∧(zHv i b h d k f m)∧zHv i b h d k f m
open Go Cv Go.Proofs
theorem zMt:iotherC.ok Tryz.prog 187:=okw (V:=yIc) mixed gok0 0 (fun _=>[]) (fun _=>[]) [] Tryz.func187 fun(n:Int) h=>by
 have h:n=1∨n=2:=h
 refine⟨(),?_,trivial⟩
 rw[w64 (by omega)]
theorem zZe:ibetterC.ok Tryz.prog 202:=okw (V:=z8n) mixed gok0 0 (fun _=>[]) (fun _=>[]) [] Tryz.func202 fun(i:I3') _=>by
 refine Cv.cnd.mk (fun e=>⟨(),?_,trivial⟩) (fun e=>⟨(),?_,trivial⟩)
 ·have e:i.side=1:=by simpa using e
  simp[btr,e]
 ·have e:i.side≠1:=by simpa using e
  simp[btr,e]
theorem yGu (a b:Int):(if b<a then b else a)=min a b:=by split<;>omega
theorem yPs (i:MkI) (h:mk11.cnd i):yIu i:=by
 obtain⟨a0,a1,b0,b1,⟨ht,hp⟩,ho⟩:0≤i.a∧i.a<i.tops.length∧0≤i.b∧i.b<i.tops.length∧wY i.tops∧i.out.length≤1000:=h
 obtain⟨x,hx⟩:=yD (l:=i.tops) (i:=i.a.toNat) (by omega)
 obtain⟨y,hy⟩:=yD (l:=i.tops) (i:=i.b.toNat) (by omega)
 obtain⟨⟨px1,px2⟩,px3,px4⟩:=hp x (yVv hx)
 obtain⟨⟨py1,py2⟩,py3,py4⟩:=hp y (yVv hy)
 have e0:mkq i.tops ⟨i.a,1⟩ ⟨i.b,1⟩ i.less=if x.has1 && y.has1 && (if i.less then uS y.p1 x.p1 else uR x.p1 y.p1).2 then[⟨(if i.less then uS y.p1 x.p1 else uR x.p1 y.p1).1,min x.q1 y.q1,⟨i.a,1⟩,⟨i.b,1⟩⟩]else[]:=by
  simp only[mkq,yVs,hx,hy,yXo];rfl
 unfold yIu zLn jB kZ x5 qT jA aU tP dI
 simp only[yVk]
 refine⟨⟨by omega,by omega⟩,x.has1,x.has2,x.p1,x.p2,x.q1,x.q2,elA hx (by simp[zY]) rfl,⟨by omega,by omega⟩,y.has1,y.has2,y.p1,y.p2,y.q1,y.q2,elA hy (by simp[zY]) rfl,?_⟩
 rw[e0]
 (repeat'(first|exact rfl|exact trivial|assumption|apply And.intro|refine fun(_:Unit) (_:True)=>?_|refine Exists.intro () ?_|omega|(dsimp only;omega)))
 all_goals
  refine Cv.cnd.mk (fun c1=> ?_) (fun c1=>Cv.cnd.mk (fun c2=> ?_) (fun c2=> ?_))
  ·have c1:x.has1=false:=by simpa using c1
   simp only[c1,yYo,yWc,if_false,yWg];exact kp
  ·have c2:y.has1=false:=by simpa using c2
   simp only[c2,y0k,yYo,yWc,if_false,yWg];exact kp
  ·have c1:x.has1=true:=by simpa using c1
   have c2:y.has1=true:=by simpa using c2
   simp only[c1,c2,yYc,yGu]
   refine⟨⟨x.p1,y.p1⟩,?_⟩
   (repeat'(first|exact rfl|exact trivial|assumption|apply And.intro|refine fun(_:Unit) (_:True)=>?_|refine Exists.intro () ?_|omega|(dsimp only;omega)))
   refine Cv.cnd.mk (fun c3=> ?_) (fun c3=> ?_)
   ·have c3:i.less=true:=c3
    simp only[c3,if_true]
    refine⟨⟨y.p1,x.p1⟩,?_⟩
    (repeat'(first|exact rfl|exact trivial|assumption|apply And.intro|refine fun(_:Unit) (_:True)=>?_|refine Exists.intro () ?_|omega|(dsimp only;omega)))
    refine Cv.cnd.mk (fun c4=> ?_) (fun c4=> ?_)
    ·have c4:(uS y.p1 x.p1).2=true:=c4
     simp only[c4,if_true,yVu];exact kp
    ·have c4:(uS y.p1 x.p1).2=false:=c4
     simp only[c4,yWc,if_false,yWg];exact kp
   ·have c3:i.less=false:=c3
    simp only[c3,yWc,if_false]
    refine Cv.cnd.mk (fun c4=> ?_) (fun c4=> ?_)
    ·have c4:(uR x.p1 y.p1).2=true:=c4
     simp only[c4,if_true,yVu];exact kp
    ·have c4:(uR x.p1 y.p1).2=false:=c4
     simp only[c4,yWc,if_false,yWg];exact kp
theorem yFu:mk11.ok Tryz.prog 188:=okw mixed (gokc zRq (gokc zQr gok0)) 0 (fun _=>[]) (fun _=>[]) [] Tryz.func188 yPs
theorem yRl (i:MkI) (h:mk12.cnd i):yKg i:=by
 obtain⟨a0,a1,b0,b1,⟨ht,hp⟩,ho⟩:0≤i.a∧i.a<i.tops.length∧0≤i.b∧i.b<i.tops.length∧wY i.tops∧i.out.length≤1000:=h
 obtain⟨x,hx⟩:=yD (l:=i.tops) (i:=i.a.toNat) (by omega)
 obtain⟨y,hy⟩:=yD (l:=i.tops) (i:=i.b.toNat) (by omega)
 obtain⟨⟨px1,px2⟩,px3,px4⟩:=hp x (yVv hx)
 obtain⟨⟨py1,py2⟩,py3,py4⟩:=hp y (yVv hy)
 have e0:mkq i.tops ⟨i.a,1⟩ ⟨i.b,2⟩ i.less=if x.has1 && y.has2 && (if i.less then uS y.p2 x.p1 else uR x.p1 y.p2).2 then[⟨(if i.less then uS y.p2 x.p1 else uR x.p1 y.p2).1,min x.q1 y.q2,⟨i.a,1⟩,⟨i.b,2⟩⟩]else[]:=by
  simp only[mkq,yVs,hx,hy,yXo];rfl
 unfold yKg zIl aX tH jB kZ x5 jA qT dI
 simp only[yVk]
 refine⟨⟨by omega,by omega⟩,x.has1,x.has2,x.p1,x.p2,x.q1,x.q2,elA hx (by simp[zY]) rfl,⟨by omega,by omega⟩,y.has1,y.has2,y.p1,y.p2,y.q1,y.q2,elA hy (by simp[zY]) rfl,?_⟩
 rw[e0]
 (repeat'(first|exact rfl|exact trivial|assumption|apply And.intro|refine fun(_:Unit) (_:True)=>?_|refine Exists.intro () ?_|omega|(dsimp only;omega)))
 all_goals
  refine Cv.cnd.mk (fun c1=> ?_) (fun c1=>Cv.cnd.mk (fun c2=> ?_) (fun c2=> ?_))
  ·have c1:x.has1=false:=by simpa using c1
   simp only[c1,yYo,yWc,if_false,yWg];exact kp
  ·have c2:y.has2=false:=by simpa using c2
   simp only[c2,y0k,yYo,yWc,if_false,yWg];exact kp
  ·have c1:x.has1=true:=by simpa using c1
   have c2:y.has2=true:=by simpa using c2
   simp only[c1,c2,yYc,yGu]
   refine⟨⟨x.p1,y.p2⟩,?_⟩
   (repeat'(first|exact rfl|exact trivial|assumption|apply And.intro|refine fun(_:Unit) (_:True)=>?_|refine Exists.intro () ?_|omega|(dsimp only;omega)))
   refine Cv.cnd.mk (fun c3=> ?_) (fun c3=> ?_)
   ·have c3:i.less=true:=c3
    simp only[c3,if_true]
    refine⟨⟨y.p2,x.p1⟩,?_⟩
    (repeat'(first|exact rfl|exact trivial|assumption|apply And.intro|refine fun(_:Unit) (_:True)=>?_|refine Exists.intro () ?_|omega|(dsimp only;omega)))
    refine Cv.cnd.mk (fun c4=> ?_) (fun c4=> ?_)
    ·have c4:(uS y.p2 x.p1).2=true:=c4
     simp only[c4,if_true,yVu];exact kp
    ·have c4:(uS y.p2 x.p1).2=false:=c4
     simp only[c4,yWc,if_false,yWg];exact kp
   ·have c3:i.less=false:=c3
    simp only[c3,yWc,if_false]
    refine Cv.cnd.mk (fun c4=> ?_) (fun c4=> ?_)
    ·have c4:(uR x.p1 y.p2).2=true:=c4
     simp only[c4,if_true,yVu];exact kp
    ·have c4:(uR x.p1 y.p2).2=false:=c4
     simp only[c4,yWc,if_false,yWg];exact kp
theorem yHu:mk12.ok Tryz.prog 188:=okw mixed (gokc zRq (gokc zQr gok0)) 0 (fun _=>[]) (fun _=>[]) [] Tryz.func188 yRl
theorem yRk (i:MkI) (h:mk21.cnd i):yJd i:=by
 obtain⟨a0,a1,b0,b1,⟨ht,hp⟩,ho⟩:0≤i.a∧i.a<i.tops.length∧0≤i.b∧i.b<i.tops.length∧wY i.tops∧i.out.length≤1000:=h
 obtain⟨x,hx⟩:=yD (l:=i.tops) (i:=i.a.toNat) (by omega)
 obtain⟨y,hy⟩:=yD (l:=i.tops) (i:=i.b.toNat) (by omega)
 obtain⟨⟨px1,px2⟩,px3,px4⟩:=hp x (yVv hx)
 obtain⟨⟨py1,py2⟩,py3,py4⟩:=hp y (yVv hy)
 have e0:mkq i.tops ⟨i.a,2⟩ ⟨i.b,1⟩ i.less=if x.has2 && y.has1 && (if i.less then uS y.p1 x.p2 else uR x.p2 y.p1).2 then[⟨(if i.less then uS y.p1 x.p2 else uR x.p2 y.p1).1,min x.q2 y.q1,⟨i.a,2⟩,⟨i.b,1⟩⟩]else[]:=by
  simp only[mkq,yVs,hx,hy,yXo];rfl
 unfold yJd zJw mP tT jB kZ x5 jA qT dI
 simp only[yVk]
 refine⟨⟨by omega,by omega⟩,x.has1,x.has2,x.p1,x.p2,x.q1,x.q2,elA hx (by simp[zY]) rfl,⟨by omega,by omega⟩,y.has1,y.has2,y.p1,y.p2,y.q1,y.q2,elA hy (by simp[zY]) rfl,?_⟩
 rw[e0]
 (repeat'(first|exact rfl|exact trivial|assumption|apply And.intro|refine fun(_:Unit) (_:True)=>?_|refine Exists.intro () ?_|omega|(dsimp only;omega)))
 all_goals
  refine Cv.cnd.mk (fun c1=> ?_) (fun c1=>Cv.cnd.mk (fun c2=> ?_) (fun c2=> ?_))
  ·have c1:x.has2=false:=by simpa using c1
   simp only[c1,yYo,yWc,if_false,yWg];exact kp
  ·have c2:y.has1=false:=by simpa using c2
   simp only[c2,y0k,yYo,yWc,if_false,yWg];exact kp
  ·have c1:x.has2=true:=by simpa using c1
   have c2:y.has1=true:=by simpa using c2
   simp only[c1,c2,yYc,yGu]
   refine⟨⟨x.p2,y.p1⟩,?_⟩
   (repeat'(first|exact rfl|exact trivial|assumption|apply And.intro|refine fun(_:Unit) (_:True)=>?_|refine Exists.intro () ?_|omega|(dsimp only;omega)))
   refine Cv.cnd.mk (fun c3=> ?_) (fun c3=> ?_)
   ·have c3:i.less=true:=c3
    simp only[c3,if_true]
    refine⟨⟨y.p1,x.p2⟩,?_⟩
    (repeat'(first|exact rfl|exact trivial|assumption|apply And.intro|refine fun(_:Unit) (_:True)=>?_|refine Exists.intro () ?_|omega|(dsimp only;omega)))
    refine Cv.cnd.mk (fun c4=> ?_) (fun c4=> ?_)
    ·have c4:(uS y.p1 x.p2).2=true:=c4
     simp only[c4,if_true,yVu];exact kp
    ·have c4:(uS y.p1 x.p2).2=false:=c4
     simp only[c4,yWc,if_false,yWg];exact kp
   ·have c3:i.less=false:=c3
    simp only[c3,yWc,if_false]
    refine Cv.cnd.mk (fun c4=> ?_) (fun c4=> ?_)
    ·have c4:(uR x.p2 y.p1).2=true:=c4
     simp only[c4,if_true,yVu];exact kp
    ·have c4:(uR x.p2 y.p1).2=false:=c4
     simp only[c4,yWc,if_false,yWg];exact kp
theorem yFt:mk21.ok Tryz.prog 188:=okw mixed (gokc zRq (gokc zQr gok0)) 0 (fun _=>[]) (fun _=>[]) [] Tryz.func188 yRk
theorem yPt (i:MkI) (h:mk22.cnd i):yIi i:=by
 obtain⟨a0,a1,b0,b1,⟨ht,hp⟩,ho⟩:0≤i.a∧i.a<i.tops.length∧0≤i.b∧i.b<i.tops.length∧wY i.tops∧i.out.length≤1000:=h
 obtain⟨x,hx⟩:=yD (l:=i.tops) (i:=i.a.toNat) (by omega)
 obtain⟨y,hy⟩:=yD (l:=i.tops) (i:=i.b.toNat) (by omega)
 obtain⟨⟨px1,px2⟩,px3,px4⟩:=hp x (yVv hx)
 obtain⟨⟨py1,py2⟩,py3,py4⟩:=hp y (yVv hy)
 have e0:mkq i.tops ⟨i.a,2⟩ ⟨i.b,2⟩ i.less=if x.has2 && y.has2 && (if i.less then uS y.p2 x.p2 else uR x.p2 y.p2).2 then[⟨(if i.less then uS y.p2 x.p2 else uR x.p2 y.p2).1,min x.q2 y.q2,⟨i.a,2⟩,⟨i.b,2⟩⟩]else[]:=by
  simp only[mkq,yVs,hx,hy,yXo];rfl
 unfold yIi zHv mE eI jB kZ x5 jA qT dI
 simp only[yVk]
 refine⟨⟨by omega,by omega⟩,x.has1,x.has2,x.p1,x.p2,x.q1,x.q2,elA hx (by simp[zY]) rfl,⟨by omega,by omega⟩,y.has1,y.has2,y.p1,y.p2,y.q1,y.q2,elA hy (by simp[zY]) rfl,?_⟩
 rw[e0]
 (repeat'(first|exact rfl|exact trivial|assumption|apply And.intro|refine fun(_:Unit) (_:True)=>?_|refine Exists.intro () ?_|omega|(dsimp only;omega)))
 all_goals
  refine Cv.cnd.mk (fun c1=> ?_) (fun c1=>Cv.cnd.mk (fun c2=> ?_) (fun c2=> ?_))
  ·have c1:x.has2=false:=by simpa using c1
   simp only[c1,yYo,yWc,if_false,yWg];exact kp
  ·have c2:y.has2=false:=by simpa using c2
   simp only[c2,y0k,yYo,yWc,if_false,yWg];exact kp
  ·have c1:x.has2=true:=by simpa using c1
   have c2:y.has2=true:=by simpa using c2
   simp only[c1,c2,yYc,yGu]
   refine⟨⟨x.p2,y.p2⟩,?_⟩
   (repeat'(first|exact rfl|exact trivial|assumption|apply And.intro|refine fun(_:Unit) (_:True)=>?_|refine Exists.intro () ?_|omega|(dsimp only;omega)))
   refine Cv.cnd.mk (fun c3=> ?_) (fun c3=> ?_)
   ·have c3:i.less=true:=c3
    simp only[c3,if_true]
    refine⟨⟨y.p2,x.p2⟩,?_⟩
    (repeat'(first|exact rfl|exact trivial|assumption|apply And.intro|refine fun(_:Unit) (_:True)=>?_|refine Exists.intro () ?_|omega|(dsimp only;omega)))
    refine Cv.cnd.mk (fun c4=> ?_) (fun c4=> ?_)
    ·have c4:(uS y.p2 x.p2).2=true:=c4
     simp only[c4,if_true,yVu];exact kp
    ·have c4:(uS y.p2 x.p2).2=false:=c4
     simp only[c4,yWc,if_false,yWg];exact kp
   ·have c3:i.less=false:=c3
    simp only[c3,yWc,if_false]
    refine Cv.cnd.mk (fun c4=> ?_) (fun c4=> ?_)
    ·have c4:(uR x.p2 y.p2).2=true:=c4
     simp only[c4,if_true,yVu];exact kp
    ·have c4:(uR x.p2 y.p2).2=false:=c4
     simp only[c4,yWc,if_false,yWg];exact kp
theorem yEp:mk22.ok Tryz.prog 188:=okw mixed (gokc zRq (gokc zQr gok0)) 0 (fun _=>[]) (fun _=>[]) [] Tryz.func188 yPt
open Go Cv Go.Proofs
structure MkJ where
 i:MkI
 sa:Bool
 sb:Bool
def mkAnyC:Con:=con1 MkJ (fun j=>[.nm 0 0,.agg [zA j.i.a,zA (zC j.sa)],.agg [zA j.i.b,zA (zC j.sb)],yF j.i.less]) (fun j=>MkR j.i.tops j.i.out)
 (fun j=>0≤j.i.a∧j.i.a<j.i.tops.length∧0≤j.i.b∧j.i.b<j.i.tops.length∧wY j.i.tops∧j.i.out.length≤1000) (fun _=>zCk) (fun j=>MkP j.i.tops (j.i.out++mkq j.i.tops ⟨j.i.a,zC j.sa⟩ ⟨j.i.b,zC j.sb⟩ j.i.less))
theorem zSe:mkAnyC.ok Tryz.prog 188:=fun j=>match j with
 |⟨i,false,false⟩=>yFu i
 |⟨i,false,true⟩=>yHu i
 |⟨i,true,false⟩=>yFt i
 |⟨i,true,true⟩=>yEp i
structure fK where
 p:Prd
 tops:List Top
 inst:Int
def kX (i:fK) (s:Int) (k:Nat):List Quote:=(List.range k).flatMap fun(k:Nat)=>mkq i.tops ⟨(i.p.spread i.inst (i.inst+1+k)).1,s⟩ ⟨i.inst+1+k,s⟩ false
def jZ (i:fK) (s:Int) (k:Nat):List Quote:=(List.range k).flatMap fun(k:Nat)=>mkq i.tops ⟨(i.p.spread k i.inst).1,3-s⟩ ⟨k,s⟩ true
def yP (i:fK) (s:Int):List Quote:=mkq i.tops ⟨(i.p.legs i.inst).2.1,3-s⟩ ⟨(i.p.legs i.inst).1,s⟩ true
def dV (i:fK) (s:Int) (q:Quote):Quote:={q with a:=⟨(i.p.legs i.inst).1,s⟩,b:=⟨(i.p.legs i.inst).2.1,3-s⟩}
def kH (i:fK) (s:Int):List Quote:=
 if i.p.count=0∨(i.tops.length:Int)≠i.p.count∨i.inst<0∨(i.p.count:Int)≤i.inst then[]
 else if(i.p.legs i.inst).2.2 then(yP i s).map (dV i s)
 else kX i s (i.p.months.length-(i.inst.toNat+1))++jZ i s i.inst.toNat
def yJr (s:Int):Con:=con1 fK (fun i=>[prdV i.p,roV 6 (i.tops.map zY),zA i.inst,zA s]) (fun _=>[]) (fun i=>i.p.small∧wY i.tops) (fun _=> .own 0) (fun i=>[.own 257 6 ((kH i s).map zK)])
def all1C:Con:=yJr 1
def all2C:Con:=yJr 2
def yRe (i:fK) (s:Int):List SAnn:=[
 {ι:=Nat,slots:=fun k=>[(10,.nm 0 0),(77,zA k)],rows:=fun k=>(List.range 3).map (MkU (i.tops,((yP i s).take k).map (dV i s)++(yP i s).drop k))},
 {ι:=Nat,slots:=fun k=>[(10,.nm 0 0),(17,zA (i.inst+1+k))],rows:=fun k=>MkR i.tops (kX i s k)},
 {ι:=Nat,slots:=fun k=>[(10,.nm 0 0),(120,zA k)],rows:=fun k=>MkR i.tops (kX i s (i.p.months.length-(i.inst.toNat+1))++jZ i s k)}]
structure sO where
 i:fK
 s:Bool
def allC:Con:=con1 sO (fun j=>[prdV j.i.p,roV 6 (j.i.tops.map zY),zA j.i.inst,zA (zC j.s)]) (fun _=>[]) (fun j=>j.i.p.small∧wY j.i.tops) (fun _=> .own 0) (fun j=>[.own 257 6 ((kH j.i (zC j.s)).map zK)])
def xV (i:fK) (s:Int):List Quote:=(kH i s).filter fun q=>decide (i.p.price i.inst q.price=0)
def quotesC:Con:=con1 sO (fun j=>[prdV j.i.p,roV 6 (j.i.tops.map zY),zA j.i.inst,zA (zC j.s)]) (fun _=>[]) (fun j=>j.i.p.small∧wY j.i.tops) (fun _=> .own 0) (fun j=>[.own 257 6 ((xV j.i (zC j.s)).map zK)])
def yHn (j:sO):List SAnn:=[{ι:=Nat,slots:=fun k=>[(9,.own 0),(18,zA k)],rows:=fun k=>[.own 257 6 ((((kH j.i (zC j.s)).take k).filter fun q=>decide (j.i.p.price j.i.inst q.price=0)).map zK)]}]
structure BsI where
 l:List Quote
 s:Int
def zU (l:List Quote) (s:Int):Quote×Bool:=match l with
 |[]=>(yOy,false)
 |q::r=>(r.foldl (fun b q=>if btr s q.price b.price then q else b) q,true)
def bestQC:Con:=con1 BsI (fun i=>[roV 6 (i.l.map zK),zA i.s]) (fun _=>[]) (fun i=>(i.s=1∨i.s=2)∧i.l.length≤1000000) (fun i=> .tup [zQt (zU i.l i.s).1,yF (zU i.l i.s).2]) (fun _=>[])
def yOt (i:BsI):List SAnn:=[{ι:=Nat,slots:=fun k=>[(6,.nm 0 0),(26,zA k)],rows:=fun k=>[.cells (zQt (zU (i.l.take (max k 1)) i.s).1).cl 257]}]
open Go Cv Go.Proofs
def mN (a:fK):Prop:=AObj.fro 6 (List.map zY a.tops)=AObj.fro 6 (List.map zY a.tops)∧Sx.AObj.cells [V.d (D.v (Value.string (sb a.p.code))),V.own 0,V.d (dI a.p.tick),V.d (dI a.p.low),V.d (dI a.p.high),V.d (dI a.p.wide),V.d (dI a.p.rule),V.d (dI a.p.top),V.d (dI a.p.least),V.d (dI a.p.part),V.own ((0:Nat)+(1:Nat))] 26=Sx.AObj.cells [V.d (D.v (Value.string (sb a.p.code))),V.own 0,V.d (dI a.p.tick),V.d (dI a.p.low),V.d (dI a.p.high),V.d (dI a.p.wide),V.d (dI a.p.rule),V.d (dI a.p.top),V.d (dI a.p.least),V.d (dI a.p.part),V.own ((0:Nat)+(1:Nat))] 26∧AObj.fro 1 (iE a.p.settle)=AObj.fro 1 (iE a.p.settle)∧AObj.fro 1 (iE a.p.months)=AObj.fro 1 (iE a.p.months)
def zAx (a:Nat→Prop) (b:Nat) (c:Nat→Nat) (d:Nat) (e:fK):Prop:=a b∧c b<c d∧AObj.fro 6 (List.map zY e.tops)=AObj.fro 6 (List.map zY e.tops)∧mN e
def zCb (a:Nat→Prop) (b:Nat) (c:Nat→Nat) (d:Nat) (e:fK):Prop:=a b∧c b<c d∧mN e
def hZ (a:Top):Prop:=((-9223372036854775808)≤a.p1∧a.p1≤9223372036854775807)∧(-9223372036854775808)≤a.p2∧a.p2≤9223372036854775807
def gE (a:MkJ):Prop:=0≤a.i.a∧a.i.a<(↑a.i.tops.length:Int)∧0≤a.i.b∧a.i.b<(↑a.i.tops.length:Int)∧(a.i.tops.length≤1000000∧∀(b:Top),b∈a.i.tops→hZ b)∧a.i.out.length≤1000
def vX (a:MkJ):=(a.i.out++mkq a.i.tops (Leg.mk a.i.a (zC a.sa)) (Leg.mk a.i.b (zC a.sb)) a.i.less)
def tA (a:Nat) (b:MkJ):=(decide ((↑a:Int)<(↑(List.map zK (vX b)).length:Int)))
def x6 (a:pY):Prop:=a.p.code.length≤1099511627776∧a.p.months.length≤1099511627776∧a.p.settle.length≤1099511627776
def k0 (a:dK):Prop:=a.p.code.length≤1099511627776∧a.p.months.length≤1099511627776∧a.p.settle.length≤1099511627776
def mM (a:fK) (b:Nat):=(List.map (dV a 1) (List.take b (yP a 1))++List.drop b (yP a 1))
def tZ (a:fK) (b:Nat):=(List.map zK (mM a b))
def mK (a:fK) (b:Nat):=(kX a 1 (a.p.months.length-(a.inst.toNat+1))++jZ a 1 b)
def wU (a:dK):=((a.p.legs a.n).snd.fst)
def yIq (i:fK):Prop:=
 ∃(a:Prd),sb a.code=sb i.p.code∧iE a.months=iE i.p.months∧a.tick=i.p.tick∧a.low=i.p.low∧a.high=i.p.high∧a.wide=i.p.wide∧a.rule=i.p.rule∧a.top=i.p.top∧a.least=i.p.least∧a.part=i.p.part∧iE a.settle=iE i.p.settle∧(z7 a)∧∀(b:Unit),True→cnd ((↑a.count:Int)==0) (∃(c:Unit),List.map zK (kH i 1)=[]∧True) (cnd ((↑(List.map zY i.tops).length:Int) !=(↑a.count:Int)) (∃(c:Unit),List.map zK (kH i 1)=[]∧True) (cnd (decide (i.inst<0)) (∃(c:Unit),List.map zK (kH i 1)=[]∧True) (cnd (decide (i.inst≥(↑a.count:Int))) (∃(c:Unit),List.map zK (kH i 1)=[]∧True) (∃(c:dK),sb c.p.code=sb i.p.code∧iE c.p.months=iE i.p.months∧c.p.tick=i.p.tick∧c.p.low=i.p.low∧c.p.high=i.p.high∧c.p.wide=i.p.wide∧c.p.rule=i.p.rule∧c.p.top=i.p.top∧c.p.least=i.p.least∧c.p.part=i.p.part∧iE c.p.settle=iE i.p.settle∧c.n=i.inst∧(k0 c)∧∀(d:Unit),True→cnd (c.p.legs c.n).snd.snd (∃(e:Int),e=1∧(e=1∨e=2)∧∀(f:Unit),True→∃(g:MkJ),g.i.a=(c.p.legs c.n).snd.fst∧zC g.sa=3-e∧g.i.b=(c.p.legs c.n).fst∧zC g.sb=1∧g.i.less=true∧AObj.fro 6 (List.map zY g.i.tops)=AObj.fro 6 (List.map zY i.tops)∧List.map zK g.i.out=[]∧(gE g)∧∀(h:Unit),True→∃(j:Nat),(↑j:Int)=0∧AObj.fro 6 (List.map zY i.tops)=AObj.fro 6 (List.map zY g.i.tops)∧List.map zK (mM i j)=List.map zK (vX g)∧∃(k:Nat→Prop),∃(l:Nat→Nat),k j∧∀(m:Nat),k m→cnd (tA m g) ((0≤(↑m:Int)∧(↑m:Int)<(↑(tZ i m).length:Int))∧(↑m:Int).toNat<(tZ i m).length∧∃(n:Nat),(↑n:Int)=IntKind.i64.wrap ((↑m:Int)+1)∧AObj.fro 6 (List.map zY i.tops)=AObj.fro 6 (List.map zY i.tops)∧List.map zK (mM i n)=yH (tZ i m) (↑m:Int).toNat ((0:Nat)+(2:Nat)) [dI ((c.p.legs c.n).fst),dI 1,dI (wU c),dI (3-e)]∧k n∧l n<l m∧AObj.fro 6 (List.map zY g.i.tops)=AObj.fro 6 (List.map zY g.i.tops)∧Sx.AObj.cells [V.d (dI (wU c)),V.d (dI (3-e))] 254=Sx.AObj.cells [V.d (dI (wU c)),V.d (dI (3-e))] 254∧Sx.AObj.cells [V.d (dI ((c.p.legs c.n).fst)),V.d (dI 1)] 254=Sx.AObj.cells [V.d (dI ((c.p.legs c.n).fst)),V.d (dI 1)] 254∧mN i) (∃(n:Unit),List.map zK (kH i 1)=List.map zK (mM i m)∧True)) (∃(e:Nat),i.inst+1+(↑e:Int)=IntKind.i64.wrap (i.inst+1)∧AObj.fro 6 (List.map zY i.tops)=AObj.fro 6 (List.map zY i.tops)∧List.map zK (kX i 1 e)=[]∧∃(f:Nat→Prop),∃(g:Nat→Nat),f e∧∀(h:Nat),f h→cnd (decide (i.inst+1+(↑h:Int)<(↑(iE i.p.months).length:Int))) (∃(j:pY),sb j.p.code=sb i.p.code∧iE j.p.months=iE i.p.months∧j.p.tick=i.p.tick∧j.p.low=i.p.low∧j.p.high=i.p.high∧j.p.wide=i.p.wide∧j.p.rule=i.p.rule∧j.p.top=i.p.top∧j.p.least=i.p.least∧j.p.part=i.p.part∧iE j.p.settle=iE i.p.settle∧j.a=i.inst∧j.b=i.inst+1+(↑h:Int)∧(x6 j)∧∀(k:Unit),True→∃(l:MkJ),l.i.a=(j.p.spread j.a j.b).fst∧zC l.sa=1∧l.i.b=i.inst+1+(↑h:Int)∧zC l.sb=1∧l.i.less=false∧AObj.fro 6 (List.map zY l.i.tops)=AObj.fro 6 (List.map zY i.tops)∧List.map zK l.i.out=List.map zK (kX i 1 h)∧(gE l)∧∀(m:Unit),True→∃(n:Nat),i.inst+1+(↑n:Int)=IntKind.i64.wrap (i.inst+1+(↑h:Int)+1)∧AObj.fro 6 (List.map zY i.tops)=AObj.fro 6 (List.map zY l.i.tops)∧List.map zK (kX i 1 n)=List.map zK (vX l)∧zCb f n g h i) (∃(j:Nat),(↑j:Int)=0∧AObj.fro 6 (List.map zY i.tops)=AObj.fro 6 (List.map zY i.tops)∧List.map zK (mK i j)=List.map zK (kX i 1 h)∧∃(k:Nat→Prop),∃(l:Nat→Nat),k j∧∀(m:Nat),k m→cnd (decide ((↑m:Int)<i.inst)) (∃(n:pY),sb n.p.code=sb i.p.code∧iE n.p.months=iE i.p.months∧n.p.tick=i.p.tick∧n.p.low=i.p.low∧n.p.high=i.p.high∧n.p.wide=i.p.wide∧n.p.rule=i.p.rule∧n.p.top=i.p.top∧n.p.least=i.p.least∧n.p.part=i.p.part∧iE n.p.settle=iE i.p.settle∧n.a=(↑m:Int)∧n.b=i.inst∧(x6 n)∧∀(p:Unit),True→∃(q:Int),q=1∧(q=1∨q=2)∧∀(r:Unit),True→∃(s:MkJ),s.i.a=(n.p.spread n.a n.b).fst∧zC s.sa=3-q∧s.i.b=(↑m:Int)∧zC s.sb=1∧s.i.less=true∧AObj.fro 6 (List.map zY s.i.tops)=AObj.fro 6 (List.map zY i.tops)∧List.map zK s.i.out=List.map zK (mK i m)∧(gE s)∧∀(t:Unit),True→∃(u:Nat),(↑u:Int)=IntKind.i64.wrap ((↑m:Int)+1)∧AObj.fro 6 (List.map zY i.tops)=AObj.fro 6 (List.map zY s.i.tops)∧List.map zK (mK i u)=List.map zK (vX s)∧zAx k u l m i) (∃(n:Unit),List.map zK (kH i 1)=List.map zK (mK i m)∧True)))))))
def mR (a:fK) (b:Nat):=(List.map (dV a 2) (List.take b (yP a 2))++List.drop b (yP a 2))
def tV (a:fK) (b:Nat):=(List.map zK (mR a b))
def mA (a:fK) (b:Nat):=(kX a 2 (a.p.months.length-(a.inst.toNat+1))++jZ a 2 b)
def yKh (i:fK):Prop:=
 ∃(a:Prd),sb a.code=sb i.p.code∧iE a.months=iE i.p.months∧a.tick=i.p.tick∧a.low=i.p.low∧a.high=i.p.high∧a.wide=i.p.wide∧a.rule=i.p.rule∧a.top=i.p.top∧a.least=i.p.least∧a.part=i.p.part∧iE a.settle=iE i.p.settle∧(z7 a)∧∀(b:Unit),True→cnd ((↑a.count:Int)==0) (∃(c:Unit),List.map zK (kH i 2)=[]∧True) (cnd ((↑(List.map zY i.tops).length:Int) !=(↑a.count:Int)) (∃(c:Unit),List.map zK (kH i 2)=[]∧True) (cnd (decide (i.inst<0)) (∃(c:Unit),List.map zK (kH i 2)=[]∧True) (cnd (decide (i.inst≥(↑a.count:Int))) (∃(c:Unit),List.map zK (kH i 2)=[]∧True) (∃(c:dK),sb c.p.code=sb i.p.code∧iE c.p.months=iE i.p.months∧c.p.tick=i.p.tick∧c.p.low=i.p.low∧c.p.high=i.p.high∧c.p.wide=i.p.wide∧c.p.rule=i.p.rule∧c.p.top=i.p.top∧c.p.least=i.p.least∧c.p.part=i.p.part∧iE c.p.settle=iE i.p.settle∧c.n=i.inst∧(k0 c)∧∀(d:Unit),True→cnd (c.p.legs c.n).snd.snd (∃(e:Int),e=2∧(e=1∨e=2)∧∀(f:Unit),True→∃(g:MkJ),g.i.a=(c.p.legs c.n).snd.fst∧zC g.sa=3-e∧g.i.b=(c.p.legs c.n).fst∧zC g.sb=2∧g.i.less=true∧AObj.fro 6 (List.map zY g.i.tops)=AObj.fro 6 (List.map zY i.tops)∧List.map zK g.i.out=[]∧(gE g)∧∀(h:Unit),True→∃(j:Nat),(↑j:Int)=0∧AObj.fro 6 (List.map zY i.tops)=AObj.fro 6 (List.map zY g.i.tops)∧List.map zK (mR i j)=List.map zK (vX g)∧∃(k:Nat→Prop),∃(l:Nat→Nat),k j∧∀(m:Nat),k m→cnd (tA m g) ((0≤(↑m:Int)∧(↑m:Int)<(↑(tV i m).length:Int))∧(↑m:Int).toNat<(tV i m).length∧∃(n:Nat),(↑n:Int)=IntKind.i64.wrap ((↑m:Int)+1)∧AObj.fro 6 (List.map zY i.tops)=AObj.fro 6 (List.map zY i.tops)∧List.map zK (mR i n)=yH (tV i m) (↑m:Int).toNat ((0:Nat)+(2:Nat)) [dI ((c.p.legs c.n).fst),dI 2,dI (wU c),dI (3-e)]∧k n∧l n<l m∧AObj.fro 6 (List.map zY g.i.tops)=AObj.fro 6 (List.map zY g.i.tops)∧Sx.AObj.cells [V.d (dI (wU c)),V.d (dI (3-e))] 254=Sx.AObj.cells [V.d (dI (wU c)),V.d (dI (3-e))] 254∧Sx.AObj.cells [V.d (dI ((c.p.legs c.n).fst)),V.d (dI 2)] 254=Sx.AObj.cells [V.d (dI ((c.p.legs c.n).fst)),V.d (dI 2)] 254∧mN i) (∃(n:Unit),List.map zK (kH i 2)=List.map zK (mR i m)∧True)) (∃(e:Nat),i.inst+1+(↑e:Int)=IntKind.i64.wrap (i.inst+1)∧AObj.fro 6 (List.map zY i.tops)=AObj.fro 6 (List.map zY i.tops)∧List.map zK (kX i 2 e)=[]∧∃(f:Nat→Prop),∃(g:Nat→Nat),f e∧∀(h:Nat),f h→cnd (decide (i.inst+1+(↑h:Int)<(↑(iE i.p.months).length:Int))) (∃(j:pY),sb j.p.code=sb i.p.code∧iE j.p.months=iE i.p.months∧j.p.tick=i.p.tick∧j.p.low=i.p.low∧j.p.high=i.p.high∧j.p.wide=i.p.wide∧j.p.rule=i.p.rule∧j.p.top=i.p.top∧j.p.least=i.p.least∧j.p.part=i.p.part∧iE j.p.settle=iE i.p.settle∧j.a=i.inst∧j.b=i.inst+1+(↑h:Int)∧(x6 j)∧∀(k:Unit),True→∃(l:MkJ),l.i.a=(j.p.spread j.a j.b).fst∧zC l.sa=2∧l.i.b=i.inst+1+(↑h:Int)∧zC l.sb=2∧l.i.less=false∧AObj.fro 6 (List.map zY l.i.tops)=AObj.fro 6 (List.map zY i.tops)∧List.map zK l.i.out=List.map zK (kX i 2 h)∧(gE l)∧∀(m:Unit),True→∃(n:Nat),i.inst+1+(↑n:Int)=IntKind.i64.wrap (i.inst+1+(↑h:Int)+1)∧AObj.fro 6 (List.map zY i.tops)=AObj.fro 6 (List.map zY l.i.tops)∧List.map zK (kX i 2 n)=List.map zK (vX l)∧zCb f n g h i) (∃(j:Nat),(↑j:Int)=0∧AObj.fro 6 (List.map zY i.tops)=AObj.fro 6 (List.map zY i.tops)∧List.map zK (mA i j)=List.map zK (kX i 2 h)∧∃(k:Nat→Prop),∃(l:Nat→Nat),k j∧∀(m:Nat),k m→cnd (decide ((↑m:Int)<i.inst)) (∃(n:pY),sb n.p.code=sb i.p.code∧iE n.p.months=iE i.p.months∧n.p.tick=i.p.tick∧n.p.low=i.p.low∧n.p.high=i.p.high∧n.p.wide=i.p.wide∧n.p.rule=i.p.rule∧n.p.top=i.p.top∧n.p.least=i.p.least∧n.p.part=i.p.part∧iE n.p.settle=iE i.p.settle∧n.a=(↑m:Int)∧n.b=i.inst∧(x6 n)∧∀(p:Unit),True→∃(q:Int),q=2∧(q=1∨q=2)∧∀(r:Unit),True→∃(s:MkJ),s.i.a=(n.p.spread n.a n.b).fst∧zC s.sa=3-q∧s.i.b=(↑m:Int)∧zC s.sb=2∧s.i.less=true∧AObj.fro 6 (List.map zY s.i.tops)=AObj.fro 6 (List.map zY i.tops)∧List.map zK s.i.out=List.map zK (mA i m)∧(gE s)∧∀(t:Unit),True→∃(u:Nat),(↑u:Int)=IntKind.i64.wrap ((↑m:Int)+1)∧AObj.fro 6 (List.map zY i.tops)=AObj.fro 6 (List.map zY s.i.tops)∧List.map zK (mA i u)=List.map zK (vX s)∧zAx k u l m i) (∃(n:Unit),List.map zK (kH i 2)=List.map zK (mA i m)∧True)))))))
def jK (a:sO):=(List.map zK (kH a.i (zC a.s)))
def eW (a:Nat→Prop) (b:Nat) (c:Nat→Nat) (d:Nat) (e:sO) (f:sO):Prop:=a b∧c b<c d∧AObj.own 257 6 (jK e)=AObj.own 257 6 (jK e)∧Sx.AObj.cells [V.d (D.v (Value.string (sb f.i.p.code))),V.own 0,V.d (dI f.i.p.tick),V.d (dI f.i.p.low),V.d (dI f.i.p.high),V.d (dI f.i.p.wide),V.d (dI f.i.p.rule),V.d (dI f.i.p.top),V.d (dI f.i.p.least),V.d (dI f.i.p.part),V.own ((0:Nat)+(1:Nat))] 26=Sx.AObj.cells [V.d (D.v (Value.string (sb f.i.p.code))),V.own 0,V.d (dI f.i.p.tick),V.d (dI f.i.p.low),V.d (dI f.i.p.high),V.d (dI f.i.p.wide),V.d (dI f.i.p.rule),V.d (dI f.i.p.top),V.d (dI f.i.p.least),V.d (dI f.i.p.part),V.own ((0:Nat)+(1:Nat))] 26∧AObj.fro 1 (iE f.i.p.settle)=AObj.fro 1 (iE f.i.p.settle)∧AObj.fro 1 (iE f.i.p.months)=AObj.fro 1 (iE f.i.p.months)
def kF (a:sO):Prop:=(a.i.p.code.length≤1099511627776∧a.i.p.months.length≤1099511627776∧a.i.p.settle.length≤1099511627776)∧a.i.tops.length≤1000000∧∀(b:Top),b∈a.i.tops→hZ b
def gJ (a:sO):=(↑(jK a).length:Int)
def z3d (j:sO):Prop:=
 ∃(a:sO),sb a.i.p.code=sb j.i.p.code∧iE a.i.p.months=iE j.i.p.months∧a.i.p.tick=j.i.p.tick∧a.i.p.low=j.i.p.low∧a.i.p.high=j.i.p.high∧a.i.p.wide=j.i.p.wide∧a.i.p.rule=j.i.p.rule∧a.i.p.top=j.i.p.top∧a.i.p.least=j.i.p.least∧a.i.p.part=j.i.p.part∧iE a.i.p.settle=iE j.i.p.settle∧List.map zY a.i.tops=List.map zY j.i.tops∧a.i.inst=j.i.inst∧zC a.s=zC j.s∧(kF a)∧∀(b:Unit),True→∃(c:Nat),(↑c:Int)=0∧List.map zK (List.filter (fun(q:Sx.Quote) ↦ decide (j.i.p.price j.i.inst q.price=0)) (List.take c (kH j.i (zC j.s))))=[]∧∃(d:Nat→Prop),∃(e:Nat→Nat),d c∧∀(f:Nat),d f→cnd (decide ((↑f:Int)<(gJ a))) ((0≤(↑f:Int)∧(↑f:Int)<(gJ a))∧∃(g:Int),∃(h:Int),∃(k:Int),∃(l:Int),∃(m:Int),∃(n:Int),zE (jK a) (↑f:Int).toNat 0 6=some [dI g,dI h,dI k,dI l,dI m,dI n]∧∃(p:pY),sb p.p.code=sb j.i.p.code∧iE p.p.months=iE j.i.p.months∧p.p.tick=j.i.p.tick∧p.p.low=j.i.p.low∧p.p.high=j.i.p.high∧p.p.wide=j.i.p.wide∧p.p.rule=j.i.p.rule∧p.p.top=j.i.p.top∧p.p.least=j.i.p.least∧p.p.part=j.i.p.part∧iE p.p.settle=iE j.i.p.settle∧p.a=j.i.inst∧p.b=g∧(x6 p)∧∀(q:Unit),True→cnd (p.p.price p.a p.b==0) (((List.map zK (List.filter (fun(q:Sx.Quote) ↦ decide (j.i.p.price j.i.inst q.price=0)) (List.take f (kH j.i (zC j.s))))).length+1)*(48:Nat)≤(140737488355328:Nat)∧∃(r:Nat),(↑r:Int)=IntKind.i64.wrap ((↑f:Int)+1)∧List.map zK (List.filter (fun(q:Sx.Quote) ↦ decide (j.i.p.price j.i.inst q.price=0)) (List.take r (kH j.i (zC j.s))))=List.map zK (List.filter (fun(q:Sx.Quote) ↦ decide (j.i.p.price j.i.inst q.price=0)) (List.take f (kH j.i (zC j.s))))++[[dI g,dI h,dI k,dI l,dI m,dI n]]∧eW d r e f a j) (∃(r:Nat),(↑r:Int)=IntKind.i64.wrap ((↑f:Int)+1)∧List.map zK (List.filter (fun(q:Sx.Quote) ↦ decide (j.i.p.price j.i.inst q.price=0)) (List.take r (kH j.i (zC j.s))))=List.map zK (List.filter (fun(q:Sx.Quote) ↦ decide (j.i.p.price j.i.inst q.price=0)) (List.take f (kH j.i (zC j.s))))∧eW d r e f a j)) (∃(g:Unit),List.map zK (xV j.i (zC j.s))=List.map zK (List.filter (fun(q:Sx.Quote) ↦ decide (j.i.p.price j.i.inst q.price=0)) (List.take f (kH j.i (zC j.s))))∧True)
def l6 (a:Nat→Prop) (b:Nat) (c:Nat→Nat) (d:Nat):Prop:=a b∧c b<c d∧Sx.AObj.cells (Sx.V.agg [V.d (dI 0),V.d (dI 0),V.d (dI 0),V.d (dI 0),V.d (dI 0),V.d (dI 0)]).cl 257=Sx.AObj.cells (Sx.V.agg [V.d (dI 0),V.d (dI 0),V.d (dI 0),V.d (dI 0),V.d (dI 0),V.d (dI 0)]).cl 257
def z9 (a:Nat) (b:BsI):=(zU (List.take (max a 1) b.l) b.s)
def vH (a:BsI):=(↑(List.map zK a.l).length:Int)
def zKi (a:BsI):Prop:=((0:Int)≤(0:Int)∧0<(vH a))∧∃(b:Int),∃(c:Int),∃(d:Int),∃(e:Int),∃(f:Int),∃(g:Int),zE (List.map zK a.l) (Int.toNat 0) 0 6=some [dI b,dI c,dI d,dI e,dI f,dI g]∧∃(h:Nat),(↑h:Int)=0∧(z9 h a).fst.price=b∧(z9 h a).fst.qty=c∧(z9 h a).fst.a.inst=d∧(z9 h a).fst.a.side=e∧(z9 h a).fst.b.inst=f∧(z9 h a).fst.b.side=g∧∃(j:Nat→Prop),∃(k:Nat→Nat),j h∧∀(l:Nat),j l→cnd (decide ((↑l:Int)<(vH a))) ((0≤(↑l:Int)∧(↑l:Int)<(vH a))∧∃(m:Int),∃(n:Int),∃(p:Int),∃(q:Int),∃(r:Int),∃(s:Int),zE (List.map zK a.l) (↑l:Int).toNat 0 6=some [dI m,dI n,dI p,dI q,dI r,dI s]∧∃(t:I3'),t.side=a.s∧t.x=m∧t.y=(z9 l a).fst.price∧True∧∀(u:Unit),True→cnd (btr t.side t.x t.y) (∃(v:Nat),(↑v:Int)=IntKind.i64.wrap ((↑l:Int)+1)∧(z9 v a).fst.price=m∧(z9 v a).fst.qty=n∧(z9 v a).fst.a.inst=p∧(z9 v a).fst.a.side=q∧(z9 v a).fst.b.inst=r∧(z9 v a).fst.b.side=s∧l6 j v k l) (∃(v:Nat),(↑v:Int)=IntKind.i64.wrap ((↑l:Int)+1)∧(z9 v a).fst.price=(z9 l a).fst.price∧(z9 v a).fst.qty=(z9 l a).fst.qty∧(z9 v a).fst.a.inst=(z9 l a).fst.a.inst∧(z9 v a).fst.a.side=(z9 l a).fst.a.side∧(z9 v a).fst.b.inst=(z9 l a).fst.b.inst∧(z9 v a).fst.b.side=(z9 l a).fst.b.side∧l6 j v k l)) (∃(m:Unit),(zU a.l a.s).fst.price=(z9 l a).fst.price∧(zU a.l a.s).fst.qty=(z9 l a).fst.qty∧(zU a.l a.s).fst.a.inst=(z9 l a).fst.a.inst∧(zU a.l a.s).fst.a.side=(z9 l a).fst.a.side∧(zU a.l a.s).fst.b.inst=(z9 l a).fst.b.inst∧(zU a.l a.s).fst.b.side=(z9 l a).fst.b.side∧(zU a.l a.s).snd=true∧True)
def zAd (a:BsI):Prop:=∃(b:Unit),(zU a.l a.s).fst.price=0∧(zU a.l a.s).fst.qty=0∧(zU a.l a.s).fst.a.inst=0∧(zU a.l a.s).fst.a.side=0∧(zU a.l a.s).fst.b.inst=0∧(zU a.l a.s).fst.b.side=0∧(zU a.l a.s).snd=false∧True
def yDr (i:BsI):Prop:=
 cnd ((vH i)==0) (zAd i) (cnd (i.s !=1) (cnd (i.s !=2) (zAd i) (zKi i)) (zKi i))
end Sx
