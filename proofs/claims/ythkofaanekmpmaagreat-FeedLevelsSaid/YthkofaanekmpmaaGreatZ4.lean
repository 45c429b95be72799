/- Texts of ours, one behind the other: a walk that the kernel reckons, and contracts of functions. No condition. -/
import Derived.Test.YthkofaanekmpmaaGreatRows
import Derived.Test.YthkofaanekmpmaaGreatZ3
namespace Sx
set_option linter.unusedVariables false
open Go Cv Go.Proofs
theorem kp {P:Prop} (h:P:=by(repeat'(first|exact rfl|exact trivial|assumption|apply And.intro|refine fun(_:Unit) (_:True)=>?_|refine Exists.intro () ?_|omega|(dsimp only;omega)))):P:=h
theorem k0q {P:Prop} (h:P:=by(repeat'(first|exact trivial|exact rfl|apply And.intro))):P:=h
theorem mixed:Tryz.prog.follows .mixedOrders=true:=by kernel_rfl
theorem okw {P:Program} {f:FuncId} {fn:Func} {C:Con} {G:List (Nat×Con)} {V:C.ι→Prop} (hm:P.follows .mixedOrders=true) (hG:GOk P G) (d:Nat) (J:C.ι→List (Nat×SAnn)) (an:C.ι→List SAnn) (op:List Nat) (hf:P.funcs[f]? =some fn) (h:∀i,C.cnd i→V i) (hb:fn.body=some (fn.body.getD .skip):=by kernel_rfl) (hbd:vR P f=true:=by kernel_rfl) (hok:okC fn.ntmps (fn.body.getD .skip)=true:=by kernel_rfl) (hsz:∀i,Nat.ble (C.pat i).length fn.ntmps=true:=by intro _;kernel_rfl) (e:∀i,V i=walk P G d (J i) (an i) op fn (fn.body.getD .skip) (C.pat i) (C.pre i) (C.alts i):=by intro _;kernel_rfl):C.ok P f:=aA hm G hG d J an op hf hb hbd hok hsz fun i hc=>Eq.mp (e i) (h i hc)
structure Lv where
 price:Int
 qty:Int
 count:Int
def lvE (l:Lv):List D:=[.v (.int .i64 l.price),.v (.int .i64 l.qty),.v (.int .i64 l.count)]
def lvV (l:Lv):V:= .agg [zA l.price,zA l.qty,zA l.count]
open Go Cv Go.Proofs
def sb (l:List UInt8):ByteArray:=⟨l.toArray⟩
@[reducible] def sV (l:List UInt8):V:= .d (.v (.string (sb l)))
def zKk (l:List UInt8):Nat×Nat:=Utf8.decode (sb l) 0
def eG:Nat→Nat→List UInt8→List (Nat×Nat)
 |0,_,_=>[]
 |k+1,p,l=>match l with
  |[]=>[]
  |_=>(p,(zKk l).1)::eG k (p+(zKk l).2) (l.drop (zKk l).2)
def uV (s:List UInt8) (p:Nat):List (Nat×Nat):=eG (s.length-p) p (s.drop p)
def kF (s:List UInt8):List Nat:=(uV s 0).map (·.2)
def countC:Con:=con1 (List UInt8) (fun s=>[sV s]) (fun _=>[]) (fun s=>s.length≤1099511627776) (fun s=>zA (kF s).length) (fun _=>[])
def yOm (s:List UInt8):List SAnn:=[{ι:=Nat×Nat,slots:=fun x=>[(3,zA x.2),(5,.nm 0 0)],rows:=fun x=>[.iter (sb s) x.1]}]
def uQ (r:Nat):Bool:=(decide (65≤r) && decide (r≤90))||(decide (913≤r) && decide (r≤937) && decide (r≠930))
def jV (s:List UInt8):Bool:=(kF s).all uQ && decide (s≠[]) && decide ((kF s).length≤4)
def symC:Con:=con1 (List UInt8) (fun s=>[sV s]) (fun _=>[]) (fun s=>s.length≤1099511627776) (fun s=>z7 (jV s)) (fun _=>[])
def yWo (s:List UInt8):List SAnn:=[{ι:=Nat,slots:=fun x=>[(7,.nm 0 0)],rows:=fun x=>[.iter (sb s) x]}]
def iE (l:List Int):List (List D):=l.map fun n=>[.v (.int .i64 n)]
@[reducible] def iV (l:List Int):V:=roV 1 (iE l)
structure Prd where
 code:List UInt8
 months:List Int
 tick:Int
 low:Int
 high:Int
 wide:Int
 rule:Int
 top:Int
 least:Int
 part:Int
 settle:List Int
 deriving DecidableEq
@[reducible] def Prd.cells (p:Prd):List V:=[sV p.code,iV p.months,zA p.tick,zA p.low,zA p.high,zA p.wide,zA p.rule,zA p.top,zA p.least,zA p.part,iV p.settle]
@[reducible] def prdV (p:Prd):V:= .agg p.cells
@[reducible] def Prd.small (p:Prd):Prop:=p.code.length≤1099511627776∧p.months.length≤1099511627776∧p.settle.length≤1099511627776
def qE (l:List Int) (k:Nat):Bool:=decide (0≤l.getD k 0) && decide (l.getD k 0≤1199) && (decide (k=0)||decide (l.getD (k-1) 0<l.getD k 0))
def xB (l:List Int):Bool:=(List.range l.length).all (qE l) && decide (2≤l.length) && decide (l.length≤6)
def monthsC:Con:=con1 (List Int) (fun l=>[iV l]) (fun _=>[]) (fun l=>l.length≤1099511627776) (fun l=>z7 (xB l)) (fun _=>[])
def yIc:List SAnn:=[{ι:=Nat,slots:=fun j=>[(7,zA j)],rows:=fun _=>[]}]
def nM (l:List Int):Int:=l.tail.foldl min (l.headD 0)
def rN (l:List Int):Int:=l.tail.foldl max (l.headD 0)
def minC:Con:=con1 (List Int) (fun l=>[iV l]) (fun _=>[]) (fun l=>0<l.length∧l.length≤1099511627776) (fun l=>zA (nM l)) (fun _=>[])
def maxC:Con:=con1 (List Int) (fun l=>[iV l]) (fun _=>[]) (fun l=>0<l.length∧l.length≤1099511627776) (fun l=>zA (rN l)) (fun _=>[])
def yVq (l:List Int):List SAnn:=[{ι:=Nat,slots:=fun j=>[(3,zA (nM (l.take j))),(4,zA j)],rows:=fun _=>[]}]
def yVm (l:List Int):List SAnn:=[{ι:=Nat,slots:=fun j=>[(3,zA (rN (l.take j))),(4,zA j)],rows:=fun _=>[]}]
set_option maxRecDepth 100000
open Go Cv Go.Proofs
@[reducible] def dI (n:Int):D:= .v (.int .i64 n)
def fE (a:Nat×Nat) (b:List UInt8) (c:Nat×Nat→Prop) (d:Nat×Nat→Nat):Prop:=∃(e:Nat×Nat),(↑e.snd:Int)=IntKind.i64.wrap ((↑a.snd:Int)+1)∧sb b=sb b∧e.fst=a.fst+(Utf8.decode (sb b) a.fst).snd∧c e∧d e<d a∧True
def z9i (s:List UInt8):Prop:=
 ∃(a:Nat×Nat),(↑a.snd:Int)=0∧sb s=sb s∧a.fst=0∧∃(b:Nat×Nat→Prop),∃(c:Nat×Nat→Nat),b a∧∀(d:Nat×Nat),b d→cnd (d.fst.blt (sb s).size) (fE d s b c) (∃(e:Unit),(↑(kF s).length:Int)=(↑d.snd:Int)∧True)
def zDm (a:List UInt8) (b:Nat) (c:Nat→Prop) (d:Nat→Nat):Prop:=∃(e:Nat),sb a=sb a∧e=b+(Utf8.decode (sb a) b).snd∧c e∧d e<d b∧True
def gV (a:List UInt8) (b:Nat):=(↑(Utf8.decode (sb a) b).fst:Int)
def ySa (s:List UInt8):Prop:=
 ∃(a:Nat),sb s=sb s∧a=0∧∃(b:Nat→Prop),∃(c:Nat→Nat),b a∧∀(d:Nat),b d→cnd (d.blt (sb s).size) (cnd (decide ((gV s d)≥65)) (cnd (decide ((gV s d)≤90)) (zDm s d b c) (cnd (decide ((gV s d)≥913)) (cnd (decide ((gV s d)≤937)) (cnd (!(gV s d) !=930) (∃(e:Unit),jV s=false∧True) (zDm s d b c)) (∃(e:Unit),jV s=false∧True)) (∃(e:Unit),jV s=false∧True))) (cnd (decide ((gV s d)≥913)) (cnd (decide ((gV s d)≤937)) (cnd (!(gV s d) !=930) (∃(e:Unit),jV s=false∧True) (zDm s d b c)) (∃(e:Unit),jV s=false∧True)) (∃(e:Unit),jV s=false∧True))) (cnd (!(sb s).toList==(ByteArray.mk #[]).toList) (∃(e:List UInt8),sb e=sb s∧e.length≤1099511627776∧∀(f:Unit),True→∃(g:Unit),jV s=decide ((↑(kF e).length:Int)≤4)∧True) (∃(e:Unit),jV s=false∧True))
def jM (a:Nat) (b:Nat) (c:Nat→Prop) (d:Nat→Nat):Prop:=(↑a:Int)=IntKind.i64.wrap ((↑b:Int)+1)∧c a∧d a<d b∧True
def kV (a:Nat) (b:Nat→Prop) (c:Nat→Nat):Prop:=∃(d:Nat),jM d a b c
def z3w (l:List Int):Prop:=
 ∃(a:Nat),(↑a:Int)=0∧∃(b:Nat→Prop),∃(c:Nat→Nat),b a∧∀(d:Nat),b d→cnd (decide ((↑d:Int)<(↑(iE l).length:Int))) ((0≤(↑d:Int)∧(↑d:Int)<(↑(iE l).length:Int))∧∃(e:Int),zE (iE l) (↑d:Int).toNat 0 1=some [dI e]∧cnd (decide (e<0)) (∃(f:Unit),xB l=false∧True) (cnd (decide (e>1199)) (∃(f:Unit),xB l=false∧True) (cnd (decide ((↑d:Int)>0)) ((0≤IntKind.i64.wrap ((↑d:Int)-1)∧IntKind.i64.wrap ((↑d:Int)-1)<(↑(iE l).length:Int))∧∃(f:Int),zE (iE l) (IntKind.i64.wrap ((↑d:Int)-1)).toNat 0 1=some [dI f]∧cnd (decide (f≥e)) (∃(g:Unit),xB l=false∧True) (kV d b c)) (kV d b c)))) (cnd (decide ((↑(iE l).length:Int)≥2)) (∃(e:Unit),xB l=decide ((↑(iE l).length:Int)≤6)∧True) (∃(e:Unit),xB l=false∧True))
def yRy (l:List Int):Prop:=
 cnd (decide ((↑(iE l).length:Int)<1)) False (((0:Int)≤(0:Int)∧0<(↑(iE l).length:Int))∧∃(a:Int),zE (iE l) (Int.toNat 0) 0 1=some [dI a]∧∃(b:Nat),nM (List.take b l)=a∧(↑b:Int)=1∧∃(c:Nat→Prop),∃(d:Nat→Nat),c b∧∀(e:Nat),c e→cnd (decide ((↑e:Int)<(↑(iE l).length:Int))) ((0≤(↑e:Int)∧(↑e:Int)<(↑(iE l).length:Int))∧∃(f:Int),zE (iE l) (↑e:Int).toNat 0 1=some [dI f]∧∃(g:Nat),nM (List.take g l)=min (nM (List.take e l)) f∧jM g e c d) (∃(f:Unit),nM l=nM (List.take e l)∧True))
def ySl (l:List Int):Prop:=
 cnd (decide ((↑(iE l).length:Int)<1)) False (((0:Int)≤(0:Int)∧0<(↑(iE l).length:Int))∧∃(a:Int),zE (iE l) (Int.toNat 0) 0 1=some [dI a]∧∃(b:Nat),rN (List.take b l)=a∧(↑b:Int)=1∧∃(c:Nat→Prop),∃(d:Nat→Nat),c b∧∀(e:Nat),c e→cnd (decide ((↑e:Int)<(↑(iE l).length:Int))) ((0≤(↑e:Int)∧(↑e:Int)<(↑(iE l).length:Int))∧∃(f:Int),zE (iE l) (↑e:Int).toNat 0 1=some [dI f]∧∃(g:Nat),(rN (List.take g l)=if f>rN (List.take e l)then f else rN (List.take e l))∧jM g e c d) (∃(f:Unit),rN l=rN (List.take e l)∧True))
set_option linter.unusedSimpArgs false
open Go Cv Go.Proofs
@[simp] theorem z3k (s:List UInt8):(sb s).size=s.length:=by simp[sb,ByteArray.size]
theorem mF (s:List UInt8):(sb s).toList=s:=by rw[ByteArray.toList_eq];rfl
theorem yMj (s:List UInt8) (p k:Nat):(sb s).get! (p+k)=(sb (s.drop p)).get! (0+k):=by
 simp only[sb,ByteArray.get!,yXu]
 simp only[List.getElem!_toArray,List.getElem!_eq_getElem?_getD,yZe]
theorem zHc (s:List UInt8) (p:Nat):Utf8.decode (sb s) p=zKk (s.drop p):=by
 have h (k:Nat):(decide (p+k<(sb s).size))=decide (0+k<(sb (s.drop p)).size):=by
  simp only[z3k,yXr]
  by_cases h:p+k<s.length
  ·rw[yXi h,yXi (by omega)]
  ·rw[yXf h,yXf (by omega)]
 unfold zKk Utf8.decode
 simp only[yMj s p,h]
theorem bZ (s:List UInt8) {p:Nat} (h:p<s.length):1≤(Utf8.decode (sb s) p).2∧p+(Utf8.decode (sb s) p).2≤s.length:=by
 unfold Utf8.decode
 simp only[z3k,yXg,yYz]
 split
 ·exact⟨by simp,by simp;omega⟩
 split
 ·rename_i h1
  split
  ·exact⟨by simp,by simp;omega⟩
  ·exact⟨by simp,by simp;omega⟩
 split
 ·rename_i h1
  split
  ·exact⟨by simp,by simp;omega⟩
  ·exact⟨by simp,by simp;omega⟩
 split
 ·rename_i h1
  split
  ·exact⟨by simp,by simp;omega⟩
  ·exact⟨by simp,by simp;omega⟩
 ·exact⟨by simp,by simp;omega⟩
theorem yOz {l:List UInt8} (h:l≠[]):1≤(zKk l).2∧(zKk l).2≤l.length:=by
 have:=bZ l (p:=0) (by cases l<;>simp_all)
 rw[zKk];omega
theorem nZ:∀(k:Nat) (p:Nat) (l:List UInt8),l.length≤k→eG k p l=eG l.length p l
 |0,p,l,h=>by
  have:l=[]:=yXs (by omega)
  subst this;rfl
 |k+1,p,[],h=>rfl
 |k+1,p,b::l,h=>by
  have hw:=yOz (l:=b::l) (by simp)
  have hl:((b::l).drop (zKk (b::l)).2).length≤l.length:=by rw[yXr,yXa];omega
  rw[yXa]
  simp only[eG]
  rw[nZ k _ _ (by rw[yXa]at h;omega),nZ l.length _ _ hl]
theorem f7 {s:List UInt8} {p:Nat} (h:s.length≤p):uV s p=[]:=by
 rw[uV,show s.length-p=0 by omega];rfl
theorem j7 {s:List UInt8} {p:Nat} (h:p<s.length):uV s p=(p,(Utf8.decode (sb s) p).1)::uV s (p+(Utf8.decode (sb s) p).2):=by
 obtain⟨k,hk⟩:∃k,s.length-p=k+1:=⟨s.length-p-1,by omega⟩
 have hw:=bZ s h
 obtain⟨b,l,hb⟩:∃b l,s.drop p=b::l:=by
  cases hd:s.drop p with
  |nil=>rw[List.drop_eq_nil_iff]at hd;omega
  |cons b l=>exact⟨b,l,rfl⟩
 have hlen:(b::l).length=s.length-p:=by rw[← hb,yXr]
 rw[uV,hk,hb,zHc,hb,uV]
 rw[zHc,hb]at hw
 simp only[eG]
 have e:(b::l).drop (zKk (b::l)).2=s.drop (p+(zKk (b::l)).2):=by rw[← hb,y0h]
 rw[e,nZ k _ _ (by rw[yXr];omega),yXr]
theorem zLp (s:List UInt8):∀(k p:Nat),s.length-p≤k→(uV s p).length≤s.length-p
 |0,p,h=>by rw[f7 (by omega)];simp
 |k+1,p,h=>by
  by_cases hp:p<s.length
  ·have hw:=bZ s hp
   rw[j7 hp,yXa]
   have:=zLp s k (p+(Utf8.decode (sb s) p).2) (by omega)
   omega
  ·rw[f7 (by omega)];simp
theorem zFj (s:List UInt8):(kF s).length≤s.length:=by
 rw[kF,yWu]
 have:=zLp s s.length 0 (by omega)
 omega
theorem z5k {a b:Nat} (h:Nat.blt a b=false):b≤a:=by
 rcases yZq a b with h1|h1
 ·rw[show Nat.blt a b=true by rw[yZz];exact h1]at h;cases h
 ·exact h1
theorem yBv:(ByteArray.mk #[]).toList=[]:=mF []
theorem yOf (s:List UInt8) (h:countC.cnd s):z9i s:=by
 have h:s.length≤1099511627776:=h
 have hr:=zFj s
 unfold z9i fE
 refine⟨(0,0),rfl,rfl,rfl,fun x=>x.1≤s.length∧x.2+(uV s x.1).length=(kF s).length,fun x=>s.length-x.1,⟨by omega,by rw[kF,yWu];simp⟩,?_⟩
 rintro⟨p,n⟩ ⟨h1,h2⟩
 dsimp only at h1 h2 ⊢
 refine Cv.cnd.mk (fun hp=> ?_) (fun hp=> ?_)
 ·have hp:p<s.length:=by simpa[yZz]using hp
  have hw:=bZ s hp
  rw[j7 hp,yXa]at h2
  refine⟨(p+(Utf8.decode (sb s) p).2,n+1),?_,rfl,rfl,⟨hw.2,by(first|omega|(dsimp only;omega))⟩,by(first|omega|(dsimp only;omega)),trivial⟩
  rw[w64 (by omega)];rfl
 ·have hp:s.length≤p:=by have:=z5k hp;simpa using this
  rw[f7 hp]at h2
  exact⟨(),by rw[← h2];rfl,trivial⟩
theorem yBe:countC.ok Tryz.prog 190:=okw mixed gok0 0 (fun _=>[]) (fun s=>yOm s) [] Tryz.func190 yOf
theorem yWj (s:List UInt8) (h:symC.cnd s):ySa s:=by
 have h:s.length≤1099511627776:=h
 unfold ySa gV zDm
 refine⟨0,rfl,rfl,fun p=>p≤s.length∧(kF s).all uQ=(uV s p).all fun x=>uQ x.2,fun p=>s.length-p,⟨by omega,by rw[kF,List.all_map];rfl⟩,?_⟩
 rintro p ⟨h1,h2⟩
 refine Cv.cnd.mk (fun hp=> ?_) (fun hp=> ?_)
 ·have hp:p<s.length:=by simpa[yZz]using hp
  have hw:=bZ s hp
  rw[j7 hp,List.all_cons]at h2
  generalize hc:(Utf8.decode (sb s) p).1=c at h2 ⊢
  generalize hww:(Utf8.decode (sb s) p).2=w at h2 hw ⊢
  dsimp only at h2
  have bad:uQ c=false→∃(o:Unit),jV s=false∧True:=fun e=>⟨(),by rw[jV,h2,e];rfl,trivial⟩
  have good:uQ c=true→∃i':Nat,sb s=sb s∧i'=p+w∧(i'≤s.length∧(kF s).all uQ=(uV s i').all fun x=>uQ x.2)∧s.length-i'<s.length-p∧True:=fun e=>⟨p+w,rfl,rfl,⟨hw.2,by rw[h2,e];rfl⟩,by omega,trivial⟩
  refine zK (fun c1=>zK (fun c2=> ?_) (fun c2=>zK (fun c3=>zK (fun c4=>Cv.cnd.mk (fun c5=> ?_) (fun c5=> ?_)) (fun c4=> ?_)) (fun c3=> ?_))) (fun c1=>zK (fun c3=>zK (fun c4=>Cv.cnd.mk (fun c5=> ?_) (fun c5=> ?_)) (fun c4=> ?_)) (fun c3=> ?_))
  all_goals first|(refine good ?_;simp[uQ]at*;omega)|(refine bad ?_;simp[uQ]at*;omega)
 ·have hp:s.length≤p:=by have:=z5k hp;simpa using this
  rw[f7 hp]at h2
  have h2:(kF s).all uQ=true:=h2
  refine Cv.cnd.mk (fun e=>⟨s,rfl,h,fun _ _=>⟨(),?_,trivial⟩⟩) (fun e=>⟨(),?_,trivial⟩)
  ·rw[mF,yBv]at e
   have:s≠[]:=by simpa using e
   rw[jV,h2,yXi this]
   simp only[yYx]
   congr 1
   simp only[eq_iff_iff];omega
  ·have:s=[]:=by
    rw[mF,yBv]at e
    simpa using e
   rw[jV,this];rfl
theorem yPl:symC.ok Tryz.prog 151:=okw mixed (gokc yBe gok0) 0 (fun _=>[]) (fun s=>yWo s) [] Tryz.func151 yWj
@[simp] theorem xC (l:List Int):(iE l).length=l.length:=by simp[iE]
theorem elI {l:List Int} {k:Nat} {n:Int} (h:l[k]? =some n):zE (iE l) k 0 1=some [D.v (.int .i64 n)]:=by
 simp[zE,iE,h];rfl
theorem zW {α:Type} {l:List α} {i:Nat} (h:i<l.length):∃x,l[i]? =some x:=⟨l[i],yYe h⟩
theorem zOq {n k:Nat} {f:Nat→Bool} (hk:k<n) (h:f k=false):(List.range n).all f=false:=by
 cases hh:(List.range n).all f
 ·rfl
 ·rw[y0c]at hh
  rw[hh k (by simpa using hk)]at h;cases h
theorem zXr {n:Nat} {f:Nat→Bool} (h:∀k<n,f k=true):(List.range n).all f=true:=by
 rw[y0c];intro k hk;exact h k (by simpa using hk)
theorem yIi (l:List Int) (h:monthsC.cnd l):z3w l:=by
 have h:l.length≤1099511627776:=h
 unfold z3w kV jM dI
 simp only[xC]
 refine⟨0,rfl,fun j=>j≤l.length∧∀k<j,qE l k=true,fun j=>l.length-j,⟨by omega,fun k hk=>by omega⟩,?_⟩
 rintro j ⟨h1,h2⟩
 have bad:j<l.length→qE l j=false→∃(o:Unit),xB l=false∧True:=fun hj e=>⟨(),by rw[xB,zOq hj e];rfl,trivial⟩
 have good:j<l.length→qE l j=true→∃i':Nat,(i':Int)=IntKind.i64.wrap ((j:Int)+1)∧(i'≤l.length∧∀k<i',qE l k=true)∧l.length-i'<l.length-j∧True:=fun hj e=>⟨j+1,by rw[w64 (by omega)];rfl,⟨by omega,fun k hk=>by
  rcases yZq k j with hk'|hk'
  ·exact h2 k hk'
  ·obtain rfl:k=j:=by omega
   exact e⟩,by omega,trivial⟩
 refine zK (fun hj=> ?_) (fun hj=> ?_)
 ·have hj:j<l.length:=by omega
  obtain⟨n,hn⟩:=zW hj
  have hg:l.getD j 0=n:=by simp[hn]
  refine⟨⟨by omega,by omega⟩,n,elI hn,zK (fun c1=>bad hj (by simp[qE,hn];omega)) (fun c1=>zK (fun c2=>bad hj (by simp[qE,hn];omega)) (fun c2=>zK (fun c3=> ?_) (fun c3=>good hj ?_)))⟩
  ·have e:IntKind.i64.wrap ((j:Int)-1)=((j-1:Nat):Int):=by rw[w64 (by omega)];omega
   obtain⟨m,hm⟩:=zW (l:=l) (i:=j-1) (by omega)
   rw[e]
   refine⟨⟨by omega,by omega⟩,m,elI hm,zK (fun c4=>bad hj ?_) (fun c4=>good hj ?_)⟩
   ·simp[qE,hn,hm];omega
   ·simp[qE,hn,hm];omega
  ·simp[qE,hn];omega
 ·have e:(List.range l.length).all (qE l)=true:=zXr fun k hk=>h2 k (by omega)
  refine zK (fun c=>⟨(),?_,trivial⟩) (fun c=>⟨(),?_,trivial⟩)
  ·rw[xB,e,yXi (show 2≤l.length by omega)]
   simp;omega
  ·rw[xB,yXf (show ¬2≤l.length by omega)];simp
theorem z7m:monthsC.ok Tryz.prog 152:=okw mixed gok0 0 (fun _=>[]) (fun _=>yIc) [] Tryz.func152 yIi
theorem zGg {f:Int→Int→Int} {l:List Int} {j:Nat} {n:Int} (h:l[j+1]? =some n):(l.take (j+2)).tail.foldl f ((l.take (j+2)).headD 0)=f ((l.take (j+1)).tail.foldl f ((l.take (j+1)).headD 0)) n:=by
 cases l with
 |nil=>simp at h
 |cons a l=>
  simp only[yYp]at h
  simp only[yYd,List.tail_cons,List.headD_cons]
  rw[yXx,h,y2u];rfl
theorem zWf {l:List Int} {n:Int} (h:l[0]? =some n) (f:Int→Int→Int):(l.take 1).tail.foldl f ((l.take 1).headD 0)=n:=by
 cases l with
 |nil=>simp at h
 |cons a l=>simpa using h
theorem yVf (l:List Int) (h:minC.cnd l):yRy l:=by
 obtain⟨h0,h⟩:0<l.length∧l.length≤1099511627776:=h
 unfold yRy jM dI
 simp only[xC]
 obtain⟨n,hn⟩:=zW h0
 refine zK (fun c=>by omega) (fun c=>⟨⟨by omega,by omega⟩,n,elI hn,1,zWf hn min,rfl,fun j=>1≤j∧j≤l.length,fun j=>l.length-j,⟨by omega,by omega⟩,?_⟩)
 rintro j ⟨h1,h2⟩
 refine zK (fun hj=> ?_) (fun hj=>⟨(),?_,trivial⟩)
 ·obtain⟨m,hm⟩:=zW (l:=l) (i:=j) (by omega)
  refine⟨⟨by omega,by omega⟩,m,elI hm,j+1,?_,?_,⟨by omega,by omega⟩,by(first|omega|(dsimp only;omega)),trivial⟩
  ·obtain⟨k,rfl⟩:∃k,j=k+1:=⟨j-1,by omega⟩
   first
    |(rw[nM,zGg hm,← nM];done)
    |(rw[nM,zGg hm,← nM];generalize nM (l.take (k+1))=x;split<;>omega)
  ·rw[w64 (by omega)];rfl
 ·rw[yXk (by omega)]
theorem yMq:minC.ok Tryz.prog 154:=okw mixed gok0 0 (fun _=>[]) (fun l=>yVq l) [] Tryz.func154 yVf
theorem yWg (l:List Int) (h:maxC.cnd l):ySl l:=by
 obtain⟨h0,h⟩:0<l.length∧l.length≤1099511627776:=h
 unfold ySl jM dI
 simp only[xC]
 obtain⟨n,hn⟩:=zW h0
 refine zK (fun c=>by omega) (fun c=>⟨⟨by omega,by omega⟩,n,elI hn,1,zWf hn max,rfl,fun j=>1≤j∧j≤l.length,fun j=>l.length-j,⟨by omega,by omega⟩,?_⟩)
 rintro j ⟨h1,h2⟩
 refine zK (fun hj=> ?_) (fun hj=>⟨(),?_,trivial⟩)
 ·obtain⟨m,hm⟩:=zW (l:=l) (i:=j) (by omega)
  refine⟨⟨by omega,by omega⟩,m,elI hm,j+1,?_,?_,⟨by omega,by omega⟩,by(first|omega|(dsimp only;omega)),trivial⟩
  ·obtain⟨k,rfl⟩:∃k,j=k+1:=⟨j-1,by omega⟩
   rw[rN,zGg hm,← rN]
   generalize rN (l.take (k+1))=x
   split<;>omega
  ·rw[w64 (by omega)];rfl
 ·rw[yXk (by omega)]
theorem yMm:maxC.ok Tryz.prog 155:=okw mixed gok0 0 (fun _=>[]) (fun l=>yVm l) [] Tryz.func155 yWg
open Go Cv Go.Proofs
@[reducible] def Prd.row (p:Prd):AObj:= .cells p.cells 25
structure zYw where
 p:Prd
 n:Int
structure zSp where
 p:Prd
 l:List Int
def qC (t n:Int):Bool:=n.tmod t !=0
def offC:Con:=con1 zYw (fun i=>[zA i.n,.nm 0 0]) (fun i=>[i.p.row]) (fun i=>1≤i.p.tick) (fun i=>z7 (qC i.p.tick i.n)) (fun i=>[i.p.row])
@[reducible] def ySv:V:= .fn 191 [] [.nm 0 0]
def zHi (k:Option Nat):Int:=match k with
 |some k=>k
 |none=> -1
def idxC:Con:=con1 zSp (fun i=>[iV i.l,ySv]) (fun i=>[i.p.row]) (fun i=>1≤i.p.tick∧i.l.length≤1099511627776) (fun i=>zA (zHi (i.l.findIdx? (qC i.p.tick)))) (fun i=>[i.p.row])
def yVy (i:zSp):List SAnn:=[{ι:=Nat,slots:=fun j=>[(8,zA j)],rows:=fun _=>[]}]
def containsC:Con:=con1 zSp (fun i=>[iV i.l,ySv]) (fun i=>[i.p.row]) (fun i=>1≤i.p.tick∧i.l.length≤1099511627776) (fun i=>z7 (i.l.any (qC i.p.tick))) (fun i=>[i.p.row])
def x6 (p:Prd):Bool:=decide (1≤p.tick) && decide (p.tick≤1000) && !qC p.tick p.low && !qC p.tick p.high && !qC p.tick p.wide && !p.settle.any (qC p.tick)
def ticksC:Con:=con1 Prd (fun p=>[prdV p]) (fun _=>[]) Prd.small (fun p=>z7 (x6 p)) (fun _=>[])
def x9 (p:Prd):Bool:=decide (p.low< -1000000)||decide (p.low≥p.high)||decide (p.high>1000000)||decide (p.wide<0)||decide (p.wide>p.high-p.low)
def xD (p:Prd):Bool:=decide (p.settle.length≠p.months.length)||decide (nM p.settle<p.low)||decide (rN p.settle>p.high)
def qR (p:Prd):Bool:=decide (p.rule<1)||decide (p.rule>3)
def xQ (p:Prd):Bool:=decide (p.top<0)||decide (p.top>1000000)||decide (p.least<1)||decide (p.least>1000)||decide (p.part<0)||decide (p.part>100)
def Prd.check (p:Prd):Int:=
 if !jV p.code then 12 else if !xB p.months then 1 else if !x6 p then 22 else if x9 p then 23 else if xD p then 1 else if qR p then 31 else if xQ p then 24 else 0
def checkC:Con:=con1 Prd (fun p=>[prdV p]) (fun _=>[]) Prd.small (fun p=>zA p.check) (fun _=>[])
def Prd.count (p:Prd):Nat:=if p.check=0 then p.months.length+p.months.length*(p.months.length-1) / 2 else 0
def pcountC:Con:=con1 Prd (fun p=>[prdV p]) (fun _=>[]) Prd.small (fun p=>zA p.count) (fun _=>[])
structure dR where
 p:Prd
 n:Int
def yJ (n:Nat):Nat→Nat
 |0=>n
 |k+1=>yJ n k+(n-1-k)
def qW (n inst:Nat):Nat→Nat→Int×Int×Bool
 |0,_=>(0,0,false)
 |k+1,m=>if inst<yJ n m+(n-1-m)then(m,m+1+(inst-yJ n m:Nat),true)else qW n inst k (m+1)
def Prd.legs (p:Prd) (i:Int):Int×Int×Bool:=
 if i<0∨(p.count:Int)≤i then(0,0,false)else if i<p.months.length then(i,i,false)else qW p.months.length i.toNat p.months.length 0
def legsC:Con:=con1 dR (fun i=>[prdV i.p,zA i.n]) (fun _=>[]) (fun i=>i.p.small) (fun i=> .tup [zA (i.p.legs i.n).1,zA (i.p.legs i.n).2.1,z7 (i.p.legs i.n).2.2]) (fun _=>[])
structure rR where
 p:Prd
 a:Int
 b:Int
def Prd.spread (p:Prd) (a b:Int):Int×Bool:=
 if p.check≠0∨a<0∨b≤a∨(p.months.length:Int)≤b then(0,false)else((yJ p.months.length a.toNat:Int)+b-a-1,true)
def spreadC:Con:=con1 rR (fun i=>[prdV i.p,zA i.a,zA i.b]) (fun _=>[]) (fun i=>i.p.small) (fun i=> .tup [zA (i.p.spread i.a i.b).1,z7 (i.p.spread i.a i.b).2]) (fun _=>[])
def Prd.price (p:Prd) (i n:Int):Int:=
 if p.count=0 then 1 else if i<0∨(p.count:Int)≤i then 20 else if qC p.tick n then 22 else
 if n<(if(p.months.length:Int)≤i then-p.wide else p.low)∨(if(p.months.length:Int)≤i then p.wide else p.high)<n then 23 else 0
def priceC:Con:=con1 rR (fun i=>[prdV i.p,zA i.a,zA i.b]) (fun _=>[]) (fun i=>i.p.small) (fun i=>zA (i.p.price i.a i.b)) (fun _=>[])
structure I2 where
 x:Int
 y:Int
@[reducible] def i64r (n:Int):Prop:= -9223372036854775808≤n∧n≤9223372036854775807
def uM (x y:Int):Int×Bool:=if i64r (x+y)then(x+y,true)else(0,false)
def uN (x y:Int):Int×Bool:=if i64r (x-y)then(x-y,true)else(0,false)
def addC:Con:=con1 I2 (fun i=>[zA i.x,zA i.y]) (fun _=>[]) (fun i=>i64r i.x∧i64r i.y) (fun i=> .tup [zA (uM i.x i.y).1,z7 (uM i.x i.y).2]) (fun _=>[])
def subC:Con:=con1 I2 (fun i=>[zA i.x,zA i.y]) (fun _=>[]) (fun i=>i64r i.x∧i64r i.y) (fun i=> .tup [zA (uN i.x i.y).1,z7 (uN i.x i.y).2]) (fun _=>[])
def yRm (i:dR):List SAnn:=[{ι:=Nat,slots:=fun m=>[(8,zA (yJ i.p.months.length m)),(33,zA m)],rows:=fun _=>[]}]
def yIf (i:rR):List SAnn:=[{ι:=Nat,slots:=fun m=>[(9,zA (yJ i.p.months.length m)),(33,zA m)],rows:=fun _=>[]}]
open Go Cv Go.Proofs
def yTq (i:zYw):Prop:=
 IntKind.i64=IntKind.i64∧i.p.tick≠0∧∃(a:Unit),qC i.p.tick i.n=(i.n.tmod i.p.tick !=0)∧sb i.p.code=sb i.p.code∧iE i.p.months=iE i.p.months∧i.p.tick=i.p.tick∧i.p.low=i.p.low∧i.p.high=i.p.high∧i.p.wide=i.p.wide∧i.p.rule=i.p.rule∧i.p.top=i.p.top∧i.p.least=i.p.least∧i.p.part=i.p.part∧iE i.p.settle=iE i.p.settle∧True
def yRq (i:zSp):Prop:=
 ∃(a:Nat),(↑a:Int)=0∧∃(b:Nat→Prop),∃(c:Nat→Nat),b a∧∀(d:Nat),b d→cnd (decide ((↑d:Int)<(↑(iE i.l).length:Int))) ((0≤(↑d:Int)∧(↑d:Int)<(↑(iE i.l).length:Int))∧∃(e:Int),zE (iE i.l) (↑d:Int).toNat 0 1=some [dI e]∧∃(f:zYw),f.n=e∧sb f.p.code=sb i.p.code∧iE f.p.months=iE i.p.months∧f.p.tick=i.p.tick∧f.p.low=i.p.low∧f.p.high=i.p.high∧f.p.wide=i.p.wide∧f.p.rule=i.p.rule∧f.p.top=i.p.top∧f.p.least=i.p.least∧f.p.part=i.p.part∧iE f.p.settle=iE i.p.settle∧1≤f.p.tick∧∀(g:Unit),True→cnd (qC f.p.tick f.n) (∃(h:Unit),zHi (List.findIdx? (qC i.p.tick) i.l)=(↑d:Int)∧sb i.p.code=sb f.p.code∧iE i.p.months=iE f.p.months∧i.p.tick=f.p.tick∧i.p.low=f.p.low∧i.p.high=f.p.high∧i.p.wide=f.p.wide∧i.p.rule=f.p.rule∧i.p.top=f.p.top∧i.p.least=f.p.least∧i.p.part=f.p.part∧iE i.p.settle=iE f.p.settle∧True) (∃(h:Nat),(↑h:Int)=IntKind.i64.wrap ((↑d:Int)+1)∧b h∧c h<c d∧Sx.AObj.cells (jZ (dX 1 ((1:Nat)+(0:Nat)) ((1:Nat)-(1:Nat)) [((0:Nat),(0:Nat))]) f.p.cells) (25:TypeId)=i.p.row)) (∃(e:Unit),zHi (List.findIdx? (qC i.p.tick) i.l)=(-1)∧sb i.p.code=sb i.p.code∧iE i.p.months=iE i.p.months∧i.p.tick=i.p.tick∧i.p.low=i.p.low∧i.p.high=i.p.high∧i.p.wide=i.p.wide∧i.p.rule=i.p.rule∧i.p.top=i.p.top∧i.p.least=i.p.least∧i.p.part=i.p.part∧iE i.p.settle=iE i.p.settle∧True)
def zQr (i:zSp):Prop:=
 ∃(a:zSp),iE a.l=iE i.l∧sb a.p.code=sb i.p.code∧iE a.p.months=iE i.p.months∧a.p.tick=i.p.tick∧a.p.low=i.p.low∧a.p.high=i.p.high∧a.p.wide=i.p.wide∧a.p.rule=i.p.rule∧a.p.top=i.p.top∧a.p.least=i.p.least∧a.p.part=i.p.part∧iE a.p.settle=iE i.p.settle∧(1≤a.p.tick∧a.l.length≤1099511627776)∧∀(b:Unit),True→∃(c:Unit),i.l.any (qC i.p.tick)=decide (zHi (List.findIdx? (qC a.p.tick) a.l)≥0)∧sb i.p.code=sb a.p.code∧iE i.p.months=iE a.p.months∧i.p.tick=a.p.tick∧i.p.low=a.p.low∧i.p.high=a.p.high∧i.p.wide=a.p.wide∧i.p.rule=a.p.rule∧i.p.top=a.p.top∧i.p.least=a.p.least∧i.p.part=a.p.part∧iE i.p.settle=iE a.p.settle∧True
def yBb (p:Prd):Prop:=
 cnd (decide (p.tick<1)) (∃(a:Unit),x6 p=false∧True) (cnd (decide (p.tick>1000)) (∃(a:Unit),x6 p=false∧True) (∃(a:zYw),a.n=p.low∧sb a.p.code=sb p.code∧iE a.p.months=iE p.months∧a.p.tick=p.tick∧a.p.low=p.low∧a.p.high=p.high∧a.p.wide=p.wide∧a.p.rule=p.rule∧a.p.top=p.top∧a.p.least=p.least∧a.p.part=p.part∧iE a.p.settle=iE p.settle∧1≤a.p.tick∧∀(b:Unit),True→cnd (!qC a.p.tick a.n) (∃(c:zYw),c.n=a.p.high∧sb c.p.code=sb a.p.code∧iE c.p.months=iE a.p.months∧c.p.tick=a.p.tick∧c.p.low=a.p.low∧c.p.high=a.p.high∧c.p.wide=a.p.wide∧c.p.rule=a.p.rule∧c.p.top=a.p.top∧c.p.least=a.p.least∧c.p.part=a.p.part∧iE c.p.settle=iE a.p.settle∧1≤c.p.tick∧∀(d:Unit),True→cnd (!qC c.p.tick c.n) (∃(e:zYw),e.n=c.p.wide∧sb e.p.code=sb c.p.code∧iE e.p.months=iE c.p.months∧e.p.tick=c.p.tick∧e.p.low=c.p.low∧e.p.high=c.p.high∧e.p.wide=c.p.wide∧e.p.rule=c.p.rule∧e.p.top=c.p.top∧e.p.least=c.p.least∧e.p.part=c.p.part∧iE e.p.settle=iE c.p.settle∧1≤e.p.tick∧∀(f:Unit),True→cnd (!qC e.p.tick e.n) (∃(g:zSp),iE g.l=iE e.p.settle∧sb g.p.code=sb e.p.code∧iE g.p.months=iE e.p.months∧g.p.tick=e.p.tick∧g.p.low=e.p.low∧g.p.high=e.p.high∧g.p.wide=e.p.wide∧g.p.rule=e.p.rule∧g.p.top=e.p.top∧g.p.least=e.p.least∧g.p.part=e.p.part∧iE g.p.settle=iE e.p.settle∧(1≤g.p.tick∧g.l.length≤1099511627776)∧∀(h:Unit),True→∃(j:Unit),x6 p=!g.l.any (qC g.p.tick)∧True) (∃(g:Unit),x6 p=false∧True)) (∃(e:Unit),x6 p=false∧True)) (∃(c:Unit),x6 p=false∧True)))
def zY (a:Prd):Prop:=a.code.length≤1099511627776∧a.months.length≤1099511627776∧a.settle.length≤1099511627776
def wG (a:Prd):=(↑(iE a.settle).length:Int)
def y9 (a:Prd):=(↑(iE a.months).length:Int)
def z9u (p:Prd):Prop:=
 ∃(a:List UInt8),sb a=sb p.code∧a.length≤1099511627776∧∀(b:Unit),True→cnd (!jV a) (∃(c:Unit),p.check=12∧True) (∃(c:List Int),iE c=iE p.months∧c.length≤1099511627776∧∀(d:Unit),True→cnd (!xB c) (∃(e:Unit),p.check=1∧True) (∃(e:Prd),sb e.code=sb p.code∧iE e.months=iE p.months∧e.tick=p.tick∧e.low=p.low∧e.high=p.high∧e.wide=p.wide∧e.rule=p.rule∧e.top=p.top∧e.least=p.least∧e.part=p.part∧iE e.settle=iE p.settle∧(zY e)∧∀(f:Unit),True→cnd (!x6 e) (∃(g:Unit),p.check=22∧True) (cnd (decide (p.low<(-1000000))) (∃(g:Unit),p.check=23∧True) (cnd (decide (p.low≥p.high)) (∃(g:Unit),p.check=23∧True) (cnd (decide (p.high>1000000)) (∃(g:Unit),p.check=23∧True) (cnd (decide (p.wide<0)) (∃(g:Unit),p.check=23∧True) (cnd (decide (p.wide>IntKind.i64.wrap (p.high-p.low))) (∃(g:Unit),p.check=23∧True) (cnd ((wG p) !=(y9 p)) (∃(g:Unit),p.check=1∧True) (∃(g:List Int),iE g=iE p.settle∧(0<g.length∧g.length≤1099511627776)∧∀(h:Unit),True→p.low=p.low∧cnd (decide (nM g<p.low)) (∃(j:Unit),p.check=1∧True) (∃(j:List Int),iE j=iE p.settle∧(0<j.length∧j.length≤1099511627776)∧∀(k:Unit),True→p.high=p.high∧cnd (decide (rN j>p.high)) (∃(l:Unit),p.check=1∧True) (cnd (decide (p.rule<1)) (∃(l:Unit),p.check=31∧True) (cnd (decide (p.rule>3)) (∃(l:Unit),p.check=31∧True) (cnd (decide (p.top<0)) (∃(l:Unit),p.check=24∧True) (cnd (decide (p.top>1000000)) (∃(l:Unit),p.check=24∧True) (cnd (decide (p.least<1)) (∃(l:Unit),p.check=24∧True) (cnd (decide (p.least>1000)) (∃(l:Unit),p.check=24∧True) (cnd (decide (p.part<0)) (∃(l:Unit),p.check=24∧True) (cnd (decide (p.part>100)) (∃(l:Unit),p.check=24∧True) (∃(l:Unit),p.check=0∧True)))))))))))))))))))
def aN (a:Prd) (b:Prd):Prop:=sb a.code=sb b.code∧iE a.months=iE b.months∧a.tick=b.tick∧a.low=b.low∧a.high=b.high∧a.wide=b.wide∧a.rule=b.rule∧a.top=b.top∧a.least=b.least∧a.part=b.part∧iE a.settle=iE b.settle∧(zY a)∧∀(c:Unit),True→cnd (a.check !=0) (∃(d:Unit),(↑b.count:Int)=0∧True) (IntKind.i64=IntKind.i64∧(2:Int)≠(0:Int)∧∃(d:Unit),(↑b.count:Int)=IntKind.i64.wrap ((y9 b)+IntKind.i64.wrap ((IntKind.i64.wrap ((y9 b)*IntKind.i64.wrap ((y9 b)-1))).tdiv 2))∧True)
def z3l (p:Prd):Prop:=
 ∃(a:Prd),aN a p
def aP (a:dR):Prop:=Sx.AObj.cells [V.d (D.v (Value.string (sb a.p.code))),V.own 0,V.d (dI a.p.tick),V.d (dI a.p.low),V.d (dI a.p.high),V.d (dI a.p.wide),V.d (dI a.p.rule),V.d (dI a.p.top),V.d (dI a.p.least),V.d (dI a.p.part),V.own ((0:Nat)+(1:Nat))] 25=Sx.AObj.cells [V.d (D.v (Value.string (sb a.p.code))),V.own 0,V.d (dI a.p.tick),V.d (dI a.p.low),V.d (dI a.p.high),V.d (dI a.p.wide),V.d (dI a.p.rule),V.d (dI a.p.top),V.d (dI a.p.least),V.d (dI a.p.part),V.own ((0:Nat)+(1:Nat))] 25∧AObj.fro 1 (iE a.p.settle)=AObj.fro 1 (iE a.p.settle)∧AObj.fro 1 (iE a.p.months)=AObj.fro 1 (iE a.p.months)
def eI (a:Nat→Prop) (b:Nat) (c:Nat→Nat) (d:Nat) (e:dR):Prop:=a b∧c b<c d∧aP e
def uA (a:dR) (b:Nat):=(↑(yJ a.p.months.length b):Int)
def wP (a:dR):=(↑(iE a.p.months).length:Int)
def zFg (a:dR) (b:Nat):=((uA a b)+IntKind.i64.wrap (IntKind.i64.wrap ((wP a)-1)-(↑b:Int)))
def gC (a:dR):Prop:=∃(b:Unit),(a.p.legs a.n).fst=0∧(a.p.legs a.n).snd.fst=0∧(a.p.legs a.n).snd.snd=false∧True
def tX (a:dR):Prop:=∃(b:Unit),(a.p.legs a.n).fst=a.n∧(a.p.legs a.n).snd.fst=a.n∧(a.p.legs a.n).snd.snd=false∧True
def yLq (i:dR):Prop:=
 ∃(a:Prd),sb a.code=sb i.p.code∧iE a.months=iE i.p.months∧a.tick=i.p.tick∧a.low=i.p.low∧a.high=i.p.high∧a.wide=i.p.wide∧a.rule=i.p.rule∧a.top=i.p.top∧a.least=i.p.least∧a.part=i.p.part∧iE a.settle=iE i.p.settle∧(zY a)∧∀(b:Unit),True→cnd (decide (i.n<0)) (gC i) (cnd (decide (i.n≥(↑a.count:Int))) (gC i) (cnd (decide (i.n<(wP i))) (tX i) (∃(c:Nat),(uA i c)=(wP i)∧(↑c:Int)=0∧∃(d:Nat→Prop),∃(e:Nat→Nat),d c∧∀(f:Nat),d f→cnd (decide ((↑f:Int)<(wP i))) (cnd (decide (i.n<IntKind.i64.wrap (zFg i f))) (∃(g:Unit),(i.p.legs i.n).fst=(↑f:Int)∧(i.p.legs i.n).snd.fst=IntKind.i64.wrap (IntKind.i64.wrap (IntKind.i64.wrap ((↑f:Int)+1)+i.n)-(uA i f))∧(i.p.legs i.n).snd.snd=true∧True) (∃(g:Nat),(uA i g)=IntKind.i64.wrap (zFg i f)∧(↑g:Int)=IntKind.i64.wrap ((↑f:Int)+1)∧eI d g e f i)) (gC i))))
def dL (a:rR):Prop:=∃(b:Unit),(a.p.spread a.a a.b).fst=0∧(a.p.spread a.a a.b).snd=false∧True
def z4x (i:rR):Prop:=
 ∃(a:Prd),sb a.code=sb i.p.code∧iE a.months=iE i.p.months∧a.tick=i.p.tick∧a.low=i.p.low∧a.high=i.p.high∧a.wide=i.p.wide∧a.rule=i.p.rule∧a.top=i.p.top∧a.least=i.p.least∧a.part=i.p.part∧iE a.settle=iE i.p.settle∧(zY a)∧∀(b:Unit),True→cnd (a.check !=0) (dL i) (cnd (decide (i.a<0)) (dL i) (cnd (decide (i.a≥i.b)) (dL i) (cnd (decide (i.b≥(↑(iE i.p.months).length:Int))) (dL i) (∃(c:Nat),(↑(yJ i.p.months.length c):Int)=(↑(iE i.p.months).length:Int)∧(↑c:Int)=0∧∃(d:Nat→Prop),∃(e:Nat→Nat),d c∧∀(f:Nat),d f→cnd (decide ((↑f:Int)<i.a)) (∃(g:Nat),(↑(yJ i.p.months.length g):Int)=IntKind.i64.wrap ((↑(yJ i.p.months.length f):Int)+IntKind.i64.wrap (IntKind.i64.wrap ((↑(iE i.p.months).length:Int)-1)-(↑f:Int)))∧(↑g:Int)=IntKind.i64.wrap ((↑f:Int)+1)∧d g∧e g<e f∧Sx.AObj.cells [V.d (D.v (Value.string (sb i.p.code))),V.own 0,V.d (dI i.p.tick),V.d (dI i.p.low),V.d (dI i.p.high),V.d (dI i.p.wide),V.d (dI i.p.rule),V.d (dI i.p.top),V.d (dI i.p.least),V.d (dI i.p.part),V.own ((0:Nat)+(1:Nat))] 25=Sx.AObj.cells [V.d (D.v (Value.string (sb i.p.code))),V.own 0,V.d (dI i.p.tick),V.d (dI i.p.low),V.d (dI i.p.high),V.d (dI i.p.wide),V.d (dI i.p.rule),V.d (dI i.p.top),V.d (dI i.p.least),V.d (dI i.p.part),V.own ((0:Nat)+(1:Nat))] 25∧AObj.fro 1 (iE i.p.settle)=AObj.fro 1 (iE i.p.settle)∧AObj.fro 1 (iE i.p.months)=AObj.fro 1 (iE i.p.months)) (∃(g:Unit),(i.p.spread i.a i.b).fst=IntKind.i64.wrap (IntKind.i64.wrap (IntKind.i64.wrap ((↑(yJ i.p.months.length f):Int)+i.b)-i.a)-1)∧(i.p.spread i.a i.b).snd=true∧True)))))
def yEk (i:rR):Prop:=
 ∃(a:Prd),sb a.code=sb i.p.code∧iE a.months=iE i.p.months∧a.tick=i.p.tick∧a.low=i.p.low∧a.high=i.p.high∧a.wide=i.p.wide∧a.rule=i.p.rule∧a.top=i.p.top∧a.least=i.p.least∧a.part=i.p.part∧iE a.settle=iE i.p.settle∧(zY a)∧∀(b:Unit),True→cnd ((↑a.count:Int)==0) (∃(c:Unit),i.p.price i.a i.b=1∧True) (cnd (decide (i.a<0)) (∃(c:Unit),i.p.price i.a i.b=20∧True) (cnd (decide (i.a≥(↑a.count:Int))) (∃(c:Unit),i.p.price i.a i.b=20∧True) (IntKind.i64=IntKind.i64∧i.p.tick≠0∧cnd (i.b.tmod i.p.tick !=0) (∃(c:Unit),i.p.price i.a i.b=22∧True) (cnd (decide (i.a≥(↑(iE i.p.months).length:Int))) (cnd (decide (i.b<IntKind.i64.wrap (0-i.p.wide))) (∃(c:Unit),i.p.price i.a i.b=23∧True) (cnd (decide (i.b>i.p.wide)) (∃(c:Unit),i.p.price i.a i.b=23∧True) (∃(c:Unit),i.p.price i.a i.b=0∧True))) (cnd (decide (i.b<i.p.low)) (∃(c:Unit),i.p.price i.a i.b=23∧True) (cnd (decide (i.b>i.p.high)) (∃(c:Unit),i.p.price i.a i.b=23∧True) (∃(c:Unit),i.p.price i.a i.b=0∧True)))))))
def zLj (a:I2):Prop:=∃(b:Unit),(uM a.x a.y).fst=IntKind.i64.wrap (a.x+a.y)∧(uM a.x a.y).snd=true∧True
def yRw (i:I2):Prop:=
 cnd (decide (i.x<0)==decide (i.y<0)) (cnd (!decide (IntKind.i64.wrap (i.x+i.y)<0)==decide (i.x<0)) (∃(a:Unit),(uM i.x i.y).fst=0∧(uM i.x i.y).snd=false∧True) (zLj i)) (zLj i)
def zMn (a:I2):Prop:=∃(b:Unit),(uN a.x a.y).fst=IntKind.i64.wrap (a.x-a.y)∧(uN a.x a.y).snd=true∧True
def ySi (i:I2):Prop:=
 cnd (!decide (i.x<0)==decide (i.y<0)) (cnd (!decide (IntKind.i64.wrap (i.x-i.y)<0)==decide (i.x<0)) (∃(a:Unit),(uN i.x i.y).fst=0∧(uN i.x i.y).snd=false∧True) (zMn i)) (zMn i)
open Go Cv Go.Proofs
theorem yUt (i:zYw) (h:offC.cnd i):yTq i:=by
 have h:1≤i.p.tick:=h
 unfold yTq;exact kp
theorem yDh:offC.ok Tryz.prog 191:=okw mixed gok0 0 (fun _=>[]) (fun _=>[]) [] Tryz.func191 yUt
theorem zEw {α:Type} {f:α→Bool} {l:List α} (h:∀(k:Nat) (x:α),l[k]? =some x→f x=false):l.findIdx? f=none:=by
 rw[y0v]
 intro x hx
 obtain⟨k,hk⟩:=List.getElem?_of_mem hx
 exact h k x hk
theorem zGl {α:Type} {f:α→Bool} {l:List α} {j:Nat} {x:α} (h1:l[j]? =some x) (h2:f x=true) (h:∀k<j,∀x:α,l[k]? =some x→f x=false):l.findIdx? f=some j:=by
 rw[yZu]
 obtain⟨hj,rfl⟩:=yWv.1 h1
 exact⟨hj,h2,fun k hk=>by rw[h k hk _ (yYe (by omega))];simp⟩
theorem yVn (i:zSp) (h:idxC.cnd i):yRq i:=by
 obtain⟨h1,h2⟩:1≤i.p.tick∧i.l.length≤1099511627776:=h
 unfold yRq dI
 simp only[xC]
 refine⟨0,rfl,fun j=>j≤i.l.length∧∀k<j,∀x,i.l[k]? =some x→qC i.p.tick x=false,fun j=>i.l.length-j,⟨by omega,fun k hk=>by omega⟩,?_⟩
 rintro j ⟨h3,h4⟩
 refine zK (fun hj=> ?_) (fun hj=> ?_)
 ·obtain⟨n,hn⟩:=zW (l:=i.l) (i:=j) (by omega)
  refine⟨⟨by omega,by omega⟩,n,elI hn,⟨i.p,n⟩,?_⟩
  (repeat'(first|exact rfl|exact trivial|assumption|apply And.intro|refine fun(_:Unit) (_:True)=>?_|refine Exists.intro () ?_|omega|(dsimp only;omega)))
  refine Cv.cnd.mk (fun e=> ?_) (fun e=> ?_)
  ·rw[zGl hn e h4];exact kp
  ·refine⟨j+1,by rw[w64 (by omega)];rfl,⟨by omega,fun k hk x hx=> ?_⟩,by(first|omega|(dsimp only;omega)),rfl⟩
   rcases yZq k j with hk'|hk'
   ·exact h4 k hk' x hx
   ·obtain rfl:k=j:=by omega
    rw[hn]at hx;cases hx;exact e
 ·rw[zEw fun k x hx=>h4 k (by have:=(yWv.1 hx).1;omega) x hx];exact kp
theorem yQp:idxC.ok Tryz.prog 227:=okw mixed (gokc yDh gok0) 0 (fun _=>[]) (fun i=>yVy i) [] Tryz.func227 yVn
theorem z6j {l:List Int} {f:Int→Bool}:l.any f=decide (zHi (l.findIdx? f)≥0):=by
 cases hf:l.findIdx? f with
 |none=>
  rw[y0v]at hf
  have:l.any f=false:=by rw[y2v];intro x hx;simp[hf x hx]
  rw[this];rfl
 |some k=>
  rw[yZu]at hf
  obtain⟨hk,h1,_⟩:=hf
  have:l.any f=true:=by rw[List.any_eq_true];exact⟨_,List.getElem_mem hk,h1⟩
  rw[this,zHi,yXi (by omega)]
theorem z6t (i:zSp) (h:containsC.cnd i):zQr i:=by
 unfold zQr
 have h':1≤i.p.tick∧i.l.length≤1099511627776:=h
 refine⟨i,?_⟩
 (repeat'(first|exact rfl|exact trivial|assumption|apply And.intro|refine fun(_:Unit) (_:True)=>?_|refine Exists.intro () ?_|omega|(dsimp only;omega)))
 exact z6j
theorem zXi:containsC.ok Tryz.prog 192:=okw mixed (gokc yQp gok0) 0 (fun _=>[]) (fun _=>[]) [] Tryz.func192 z6t
theorem yNn (p:Prd) (h:ticksC.cnd p):yBb p:=by
 obtain⟨h1,h2,h3⟩:p.small:=h
 unfold yBb
 refine zK (fun c1=>⟨(),by rw[x6,yXf (by omega)];rfl,trivial⟩) (fun c1=>zK (fun c2=>⟨(),by rw[x6,yXf (show ¬p.tick≤1000 by omega)];simp,trivial⟩) (fun c2=>⟨⟨p,p.low⟩,?_⟩))
 have e1:x6 p=(!qC p.tick p.low && !qC p.tick p.high && !qC p.tick p.wide && !p.settle.any (qC p.tick)):=by
  rw[x6,yXi (by omega),yXi (by omega)];rfl
 rw[e1]
 (repeat'(first|exact rfl|exact trivial|assumption|apply And.intro|refine fun(_:Unit) (_:True)=>?_|refine Exists.intro () ?_|omega|(dsimp only;omega)))
 refine Cv.cnd.mk (fun c3=>⟨⟨p,p.high⟩,?_⟩) (fun c3=>⟨(),?_,trivial⟩)
 ·dsimp only at c3
  (repeat'(first|exact rfl|exact trivial|assumption|apply And.intro|refine fun(_:Unit) (_:True)=>?_|refine Exists.intro () ?_|omega|(dsimp only;omega)))
  refine Cv.cnd.mk (fun c4=>⟨⟨p,p.wide⟩,?_⟩) (fun c4=>⟨(),?_,trivial⟩)
  ·dsimp only at c4
   (repeat'(first|exact rfl|exact trivial|assumption|apply And.intro|refine fun(_:Unit) (_:True)=>?_|refine Exists.intro () ?_|omega|(dsimp only;omega)))
   refine Cv.cnd.mk (fun c5=>⟨⟨p,p.settle⟩,?_⟩) (fun c5=>⟨(),?_,trivial⟩)
   ·dsimp only at c5
    (repeat'(first|exact rfl|exact trivial|assumption|apply And.intro|refine fun(_:Unit) (_:True)=>?_|refine Exists.intro () ?_|omega|(dsimp only;omega)))
    rw[c3,c4,c5];simp
   ·dsimp only at c5
    rw[c5];simp
  ·dsimp only at c4
   rw[c4];simp
 ·dsimp only at c3
  rw[c3];simp
theorem z9b:ticksC.ok Tryz.prog 153:=okw mixed (gokc yDh (gokc zXi gok0)) 0 (fun _=>[]) (fun _=>[]) [] Tryz.func153 yNn
theorem yQv (p:Prd) (h:checkC.cnd p):z9u p:=by
 obtain⟨h1,h2,h3⟩:p.small:=h
 unfold z9u y9 wG zY
 simp only[xC]
 refine⟨p.code,rfl,h1,fun _ _=>Cv.cnd.mk (fun c1=>⟨(),by rw[Prd.check,yWt c1],trivial⟩) (fun c1=>⟨p.months,rfl,h2,fun _ _=>Cv.cnd.mk (fun c2=>⟨(),by rw[Prd.check,yWs (by simp[c1]),yWt c2],trivial⟩) (fun c2=>⟨p,?_⟩)⟩)⟩
 (repeat'(first|exact rfl|exact trivial|assumption|apply And.intro|refine fun(_:Unit) (_:True)=>?_|refine Exists.intro () ?_|omega|(dsimp only;omega)))
 refine Cv.cnd.mk (fun c3=>⟨(),by rw[Prd.check,yWs (by simp[c1]),yWs (by simp[c2]),yWt c3],trivial⟩) (fun c3=> ?_)
 have e0:p.check=if x9 p then 23 else if xD p then 1 else if qR p then 31 else if xQ p then 24 else 0:=by
  rw[Prd.check,yWs (by simp[c1]),yWs (by simp[c2]),yWs (by simp[c3])]
 have b (hb:x9 p=true):∃(o:Unit),p.check=23∧True:=⟨(),by rw[e0,yWt hb],trivial⟩
 refine zK (fun d1=>b (by simp[x9,d1])) fun d1=>zK (fun d2=>b (by simp[x9];omega)) fun d2=>zK (fun d3=>b (by simp[x9];omega)) fun d3=>zK (fun d4=>b (by simp[x9];omega)) fun d4=> ?_
 rw[w64 (by omega)]
 refine zK (fun d5=>b (by simp[x9];omega)) fun d5=> ?_
 have e1:p.check=if xD p then 1 else if qR p then 31 else if xQ p then 24 else 0:=by
  rw[e0,yWs (by simp[x9];omega)]
 have s (hb:xD p=true):∃(o:Unit),p.check=1∧True:=⟨(),by rw[e1,yWt hb],trivial⟩
 have hm:2≤p.months.length:=by
  have c2:xB p.months=true:=by simpa using c2
  simp[xB]at c2;omega
 refine Cv.cnd.mk (fun d6=>s (by have d6:¬(p.settle.length:Int)=p.months.length:=(by simpa using d6);simp[xD];omega)) fun d6=> ?_
 have d6:p.settle.length=p.months.length:=by
  have:(p.settle.length:Int)=p.months.length:=by simpa using d6
  omega
 refine⟨p.settle,rfl,⟨by omega,by omega⟩,fun _ _=>⟨kp,zK (fun d7=>s (by simp[xD];left;right;omega)) fun d7=>⟨p.settle,rfl,⟨by omega,by omega⟩,fun _ _=>⟨kp,zK (fun d8=>s (by simp[xD];right;omega)) fun d8=> ?_⟩⟩⟩⟩
 have e2:p.check=if qR p then 31 else if xQ p then 24 else 0:=by
  rw[e1,yWs (by simp[xD];omega)]
 have r (hb:qR p=true):∃(o:Unit),p.check=31∧True:=⟨(),by rw[e2,yWt hb],trivial⟩
 refine zK (fun d9=>r (by simp[qR];omega)) fun d9=>zK (fun d10=>r (by simp[qR];omega)) fun d10=> ?_
 have e3:p.check=if xQ p then 24 else 0:=by
  rw[e2,yWs (by simp[qR];omega)]
 have q (hb:xQ p=true):∃(o:Unit),p.check=24∧True:=⟨(),by rw[e3,yWt hb],trivial⟩
 refine zK (fun f1=>q (by simp[xQ];omega)) fun f1=>zK (fun f2=>q (by simp[xQ];omega)) fun f2=>zK (fun f3=>q (by simp[xQ];omega)) fun f3=>zK (fun f4=>q (by simp[xQ];omega)) fun f4=>zK (fun f5=>q (by simp[xQ];omega)) fun f5=>zK (fun f6=>q (by simp[xQ];omega)) fun f6=> ?_
 exact⟨(),by rw[e3,yWs (by simp[xQ];omega)],trivial⟩
theorem sS:checkC.ok Tryz.prog 104:=okw mixed (gokc yPl (gokc z7m (gokc z9b (gokc yMq (gokc yMm gok0))))) 0 (fun _=>[]) (fun _=>[]) [] Tryz.func104 yQv
structure Prd.Ok (p:Prd):Prop where
 sym:jV p.code=true
 months:xB p.months=true
 ticks:x6 p=true
 m2:2≤p.months.length
 m6:p.months.length≤6
 t1:1≤p.tick
 t2:p.tick≤1000
 b1: -1000000≤p.low
 b2:p.low<p.high
 b3:p.high≤1000000
 b4:0≤p.wide
 b5:p.wide≤p.high-p.low
 s1:p.settle.length=p.months.length
 s2:p.low≤nM p.settle
 s3:rN p.settle≤p.high
 r1:1≤p.rule
 r2:p.rule≤3
 q1:0≤p.top
 q2:p.top≤1000000
 q3:1≤p.least
 q4:p.least≤1000
 q5:0≤p.part
 q6:p.part≤100
theorem jI {p:Prd} (h:p.check=0):p.Ok:=by
 unfold Prd.check at h
 split at h<;>first|(exfalso;revert h;decide)|skip
 rename_i c1
 split at h<;>first|(exfalso;revert h;decide)|skip
 rename_i c2
 split at h<;>first|(exfalso;revert h;decide)|skip
 rename_i c3
 split at h<;>first|(exfalso;revert h;decide)|skip
 rename_i c4
 split at h<;>first|(exfalso;revert h;decide)|skip
 rename_i c5
 split at h<;>first|(exfalso;revert h;decide)|skip
 rename_i c6
 split at h<;>first|(exfalso;revert h;decide)|skip
 rename_i c7
 simp only[y0u,Bool.not_eq_false,Bool.not_eq_true]at c1 c2 c3
 have m:=c2
 have t:=c3
 simp[xB]at m
 simp[x6]at t
 simp[x9]at c4
 simp[xD]at c5
 simp[qR]at c6
 simp[xQ]at c7
 exact⟨c1,c2,c3,by omega,by omega,by omega,by omega,by omega,by omega,by omega,by omega,by omega,by omega,by omega,by omega,by omega,by omega,by omega,by omega,by omega,by omega,by omega,by omega⟩
theorem yFw {n:Nat} (h:n≤6):n+n*(n-1) / 2≤21:=by
 have:∀n≤6,n+n*(n-1) / 2≤21:=by decide
 exact this n h
theorem yJk (p:Prd) (h:pcountC.cnd p):z3l p:=by
 unfold z3l aN y9 zY
 obtain⟨h1,h2,h3⟩:p.small:=h
 refine⟨p,?_⟩
 simp only[xC]
 (repeat'(first|exact rfl|exact trivial|assumption|apply And.intro|refine fun(_:Unit) (_:True)=>?_|refine Exists.intro () ?_|omega|(dsimp only;omega)))
 refine Cv.cnd.mk (fun c=>⟨(),by rw[Prd.count,yWs (by simpa using c)];rfl,trivial⟩) (fun c=> ?_)
 have c:p.check=0:=by simpa using c
 have ok:=jI c
 refine⟨kp,by decide,(),?_,trivial⟩
 rw[Prd.count,yWt c]
 obtain⟨n,hn⟩:∃n,p.months.length=n:=⟨_,rfl⟩
 have m2:=ok.m2
 have m6:=ok.m6
 rw[hn]at m2 m6 ⊢
 have:n=2∨n=3∨n=4∨n=5∨n=6:=by omega
 rcases this with rfl|rfl|rfl|rfl|rfl<;>rfl
theorem cN:pcountC.ok Tryz.prog 106:=okw mixed (gokc sS gok0) 0 (fun _=>[]) (fun _=>[]) [] Tryz.func106 yJk
theorem sL {p:Prd} (h:p.count≠0):p.check=0:=by
 unfold Prd.count at h
 split at h
 ·assumption
 ·exact absurd rfl h
theorem xP (p:Prd):p.count≤21:=by
 unfold Prd.count
 split
 ·rename_i h;exact yFw (jI h).m6
 ·omega
theorem zKs {n m:Nat} (h:n≤6) (hm:m≤n):yJ n m≤21:=by
 have:∀n≤6,∀m≤n,yJ n m≤21:=by decide
 exact this n h m hm
theorem yUd (i:dR) (h:legsC.cnd i):yLq i:=by
 unfold yLq tX gC zFg wP uA eI aP zY dI
 obtain⟨h1,h2,h3⟩:i.p.small:=h
 refine⟨i.p,?_⟩
 simp only[xC]
 (repeat'(first|exact rfl|exact trivial|assumption|apply And.intro|refine fun(_:Unit) (_:True)=>?_|refine Exists.intro () ?_|omega|(dsimp only;omega)))
 refine zK (fun c1=> ?_) (fun c1=>zK (fun c2=> ?_) (fun c2=> ?_))
 ·rw[Prd.legs,yWt (by omega)];exact kp
 ·rw[Prd.legs,yWt (by omega)];exact kp
 have c2:¬i.n≥(i.p.count:Int):=c2
 have hc:=xP i.p
 have ok:=jI (sL (p:=i.p) (by omega))
 have m6:=ok.m6
 refine zK (fun c3=> ?_) (fun c3=> ?_)
 ·rw[Prd.legs,yWs (by omega),yWt c3];exact kp
 have e0:i.p.legs i.n=qW i.p.months.length i.n.toNat i.p.months.length 0:=by
  rw[Prd.legs,yWs (by omega),yWs c3]
 rw[e0]
 generalize hn:i.p.months.length=n at c3 m6 ⊢
 obtain⟨k,hk⟩:∃k:Nat,i.n=k:=⟨i.n.toNat,by omega⟩
 rw[hk]at c2 c3 ⊢
 refine⟨0,rfl,rfl,fun m=>m≤n∧yJ n m≤k∧qW n k n 0=qW n k (n-m) m,fun m=>n-m,⟨by omega,by show n≤k;omega,rfl⟩,?_⟩
 rintro m ⟨g1,g2,g3⟩
 have hf:=zKs m6 g1
 refine zK (fun c4=> ?_) (fun c4=> ?_)
 ·obtain⟨r,hr⟩:∃r,n-m=r+1:=⟨n-m-1,by omega⟩
  have e1:(k:Int).toNat=k:=by omega
  rw[e1,g3,hr,w64 (x:=(n:Int)-1) (by omega),w64 (x:=(n:Int)-1-m) (by omega),w64 (x:=(yJ n m:Int)+((n:Int)-1-m)) (by omega),w64 (x:=(m:Int)+1) (by omega)]
  rw[hr]at g3
  refine zK (fun c5=> ?_) (fun c5=> ?_)
  ·rw[w64 (x:=(m:Int)+1+k) (by omega),w64 (x:=(m:Int)+1+k-(yJ n m:Int)) (by omega),qW,yWt (by omega)]
   refine⟨(),rfl,?_,rfl,trivial⟩
   dsimp only;omega
  ·refine⟨m+1,?_,rfl,⟨by omega,?_,?_⟩,by(first|omega|(dsimp only;omega)),kp⟩
   ·rw[yJ];omega
   ·rw[yJ];omega
   ·rw[qW,yWs (by omega),show n-(m+1)=r by omega]
 ·have e1:(k:Int).toNat=k:=by omega
  rw[e1,g3,show n-m=0 by omega]
  exact⟨(),rfl,rfl,rfl,trivial⟩
theorem lE:legsC.ok Tryz.prog 196:=okw mixed (gokc cN gok0) 0 (fun _=>[]) (fun i=>yRm i) [] Tryz.func196 yUd
theorem yGv (i:rR) (h:spreadC.cnd i):z4x i:=by
 unfold z4x dL zY dI
 obtain⟨h1,h2,h3⟩:i.p.small:=h
 refine⟨i.p,?_⟩
 simp only[xC]
 (repeat'(first|exact rfl|exact trivial|assumption|apply And.intro|refine fun(_:Unit) (_:True)=>?_|refine Exists.intro () ?_|omega|(dsimp only;omega)))
 have bad (hb:i.p.check≠0∨i.a<0∨i.b≤i.a∨(i.p.months.length:Int)≤i.b):∃(o:Unit),(i.p.spread i.a i.b).fst=0∧(i.p.spread i.a i.b).snd=false∧True:=⟨(),by rw[Prd.spread,yWt hb],by rw[Prd.spread,yWt hb],trivial⟩
 refine Cv.cnd.mk (fun c1=>bad (.inl (by simpa using c1))) fun c1=>zK (fun c2=>bad (by omega)) fun c2=>zK (fun c3=>bad (by omega)) fun c3=>zK (fun c4=>bad (by omega)) fun c4=> ?_
 have c1:i.p.check=0:=by simpa using c1
 have m6:=(jI c1).m6
 rw[Prd.spread,yWs (by omega)]
 generalize hn:i.p.months.length=n at c4 m6 ⊢
 obtain⟨a,ha⟩:∃k:Nat,i.a=k:=⟨i.a.toNat,by omega⟩
 rw[ha]at c3 ⊢
 refine⟨0,rfl,rfl,fun m=>m≤a,fun m=>a-m,by omega,?_⟩
 intro m hm
 have hm:m≤a:=hm
 have hf:=zKs (m:=m) m6 (by omega)
 refine zK (fun c5=> ?_) (fun c5=> ?_)
 ·rw[w64 (x:=(n:Int)-1) (by omega),w64 (x:=(n:Int)-1-m) (by omega),w64 (x:=(yJ n m:Int)+((n:Int)-1-m)) (by omega),w64 (x:=(m:Int)+1) (by omega)]
  refine⟨m+1,?_,rfl,by omega,by(first|omega|(dsimp only;omega)),kp⟩
  rw[yJ];omega
 ·obtain rfl:m=a:=by omega
  rw[w64 (x:=(yJ n m:Int)+i.b) (by omega),w64 (x:=(yJ n m:Int)+i.b-m) (by omega),w64 (x:=(yJ n m:Int)+i.b-m-1) (by omega)]
  exact⟨(),rfl,rfl,trivial⟩
theorem zPf:spreadC.ok Tryz.prog 199:=okw mixed (gokc sS gok0) 0 (fun _=>[]) (fun i=>yIf i) [] Tryz.func199 yGv
theorem yNb (i:rR) (h:priceC.cnd i):yEk i:=by
 unfold yEk zY
 obtain⟨h1,h2,h3⟩:i.p.small:=h
 refine⟨i.p,?_⟩
 simp only[xC]
 (repeat'(first|exact rfl|exact trivial|assumption|apply And.intro|refine fun(_:Unit) (_:True)=>?_|refine Exists.intro () ?_|omega|(dsimp only;omega)))
 refine Cv.cnd.mk (fun c1=>⟨(),by rw[Prd.price,yWt (by have:(i.p.count:Int)=0:=(by simpa using c1);omega)],trivial⟩) fun c1=> ?_
 have c1:i.p.count≠0:=by
  have:¬(i.p.count:Int)=0:=by simpa using c1
  omega
 have e0:i.p.price i.a i.b=if i.a<0∨(i.p.count:Int)≤i.a then 20 else if qC i.p.tick i.b then 22 else
  if i.b<(if(i.p.months.length:Int)≤i.a then-i.p.wide else i.p.low)∨(if(i.p.months.length:Int)≤i.a then i.p.wide else i.p.high)<i.b then 23 else 0:=by rw[Prd.price,yWs c1]
 rw[e0]
 have ok:=jI (sL c1)
 obtain⟨t1,b3,b1,b2,b4,b5⟩:=(⟨ok.t1,ok.b3,ok.b1,ok.b2,ok.b4,ok.b5⟩:_∧_∧_∧_∧_∧_)
 refine zK (fun c2=>⟨(),by rw[yWt (.inl c2)],trivial⟩) fun c2=>zK (fun c3=>⟨(),by rw[yWt (.inr c3)],trivial⟩) fun c3=>⟨kp,by omega,?_⟩
 have c3:¬i.a≥(i.p.count:Int):=c3
 rw[yWs (by omega)]
 refine Cv.cnd.mk (fun c4=>⟨(),yWt c4,trivial⟩) fun c4=> ?_
 rw[yWs (by rw[qC,c4];simp),w64 (x:=0-i.p.wide) (by omega)]
 refine zK (fun c5=> ?_) (fun c5=> ?_)
 ·have c5:(i.p.months.length:Int)≤i.a:=c5
  simp only[yWt c5]
  refine zK (fun c6=>⟨(),yWt (.inl (by omega)),trivial⟩) fun c6=>zK (fun c7=>⟨(),yWt (.inr (by omega)),trivial⟩) fun c7=>⟨(),yWs (by omega),trivial⟩
 ·have c5:¬(i.p.months.length:Int)≤i.a:=c5
  simp only[yWs c5]
  refine zK (fun c6=>⟨(),yWt (.inl (by omega)),trivial⟩) fun c6=>zK (fun c7=>⟨(),yWt (.inr (by omega)),trivial⟩) fun c7=>⟨(),yWs (by omega),trivial⟩
theorem sD:priceC.ok Tryz.prog 161:=okw mixed (gokc cN gok0) 0 (fun _=>[]) (fun _=>[]) [] Tryz.func161 yNb
theorem yKm (x:Int) (h: -18446744073709551616≤x∧x<18446744073709551616):(i64r x∧IntKind.i64.wrap x=x)∨(9223372036854775807<x∧IntKind.i64.wrap x=x-18446744073709551616)∨(x< -9223372036854775808∧IntKind.i64.wrap x=x+18446744073709551616):=by
 have e:IntKind.i64.wrap x=if(decide (x % 18446744073709551616≥9223372036854775808))=true then x % 18446744073709551616-18446744073709551616 else x % 18446744073709551616:=by
  have:IntKind.i64.wrap x=if(true && decide (x % 18446744073709551616≥9223372036854775808))=true then x % 18446744073709551616-18446744073709551616 else x % 18446744073709551616:=rfl
  rw[this,yYx]
 have e:IntKind.i64.wrap x=(x+9223372036854775808) % 18446744073709551616-9223372036854775808:=by
  rw[e]
  by_cases h2:x % 18446744073709551616≥9223372036854775808
  ·rw[yWt (yXi h2)];omega
  ·rw[yWs (by simpa using h2)];omega
 rw[e]
 by_cases h1:i64r x
 ·exact .inl ⟨h1,by unfold i64r at h1;omega⟩
 ·unfold i64r at h1
  omega
theorem yVb (i:I2) (h:addC.cnd i):yRw i:=by
 obtain⟨⟨x1,x2⟩,y1,y2⟩:i64r i.x∧i64r i.y:=h
 have hw:=yKm (i.x+i.y) (by omega)
 unfold yRw zLj uM
 generalize IntKind.i64.wrap (i.x+i.y)=w at hw ⊢
 unfold i64r at hw ⊢
 refine Cv.cnd.mk (fun c1=>Cv.cnd.mk (fun c2=> ?_) (fun c2=> ?_)) (fun c1=> ?_)
 all_goals(simp at*)
 ·rw[yWs (by omega)];exact kp
 ·rw[yWt (by omega)];refine⟨?_,rfl⟩;dsimp only;omega
 ·rw[yWt (by omega)];refine⟨?_,rfl⟩;dsimp only;omega
theorem zTt:addC.ok Tryz.prog 230:=okw mixed gok0 0 (fun _=>[]) (fun _=>[]) [] Tryz.func230 yVb
theorem yVs (i:I2) (h:subC.cnd i):ySi i:=by
 obtain⟨⟨x1,x2⟩,y1,y2⟩:i64r i.x∧i64r i.y:=h
 have hw:=yKm (i.x-i.y) (by omega)
 unfold ySi zMn uN
 generalize IntKind.i64.wrap (i.x-i.y)=w at hw ⊢
 unfold i64r at hw ⊢
 refine Cv.cnd.mk (fun c1=>Cv.cnd.mk (fun c2=> ?_) (fun c2=> ?_)) (fun c1=> ?_)
 all_goals(simp at*)
 ·rw[yWs (by omega)];exact kp
 ·rw[yWt (by omega)];refine⟨?_,rfl⟩;dsimp only;omega
 ·rw[yWt (by omega)];refine⟨?_,rfl⟩;dsimp only;omega
theorem zRm:subC.ok Tryz.prog 231:=okw mixed gok0 0 (fun _=>[]) (fun _=>[]) [] Tryz.func231 yVs
open Go Cv Go.Proofs
structure Slot where
 used:Bool
 n:Int
 id:Int
 qty:Int
 top:Bool
 queue:Int
 ahead:Int
 back:Int
 deriving DecidableEq
structure dP where
 first:Int
 last:Int
 total:Int
 count:Int
 deriving DecidableEq
structure Arena where
 slots:List Slot
 queues:List dP
 free:Int
 deriving DecidableEq
def zR (s:Slot):List D:=[.v (.bool s.used),.v (.int .i64 s.n),.v (.int .i64 s.id),.v (.int .i64 s.qty),.v (.bool s.top),.v (.int .i64 s.queue),.v (.int .i64 s.ahead),.v (.int .i64 s.back)]
def zQ (q:dP):List D:=[.v (.int .i64 q.first),.v (.int .i64 q.last),.v (.int .i64 q.total),.v (.int .i64 q.count)]
def slot0:Slot:=⟨false,0,0,0,false,0,0,0⟩
def zG (a:Arena):Nat→AObj
 |0=> .cells [.own 1,.own 2,zA a.free] 355
 |1=> .own 362 8 (a.slots.map zR)
 |2=> .own 365 4 (a.queues.map zQ)
 |_=> .gone
def jJ (a:Arena):AObj:= .adt Arena 3 zG a
structure xE where
 price:Int
 queue:Int
 deriving DecidableEq
structure Place where
 side:Int
 price:Int
 slot:Int
 deriving DecidableEq
structure Book where
 a:Arena
 buys:List xE
 sells:List xE
 at_:List (Int×Place)
 top1:Int
 top2:Int
 spare:List Int
 has1:Bool
 has2:Bool
 deriving DecidableEq
def zB (r:xE):List D:=[.v (.int .i64 r.price),.v (.int .i64 r.queue)]
def zYr (p:Place):List D:=[.v (.int .i64 p.side),.v (.int .i64 p.price),.v (.int .i64 p.slot)]
def atE (l:List (Int×Place)):List (Value×List D):=l.map fun x=>(.int .i64 x.1,zYr x.2)
def zS (b:Book):Nat→AObj
 |0=> .cells [.nm 1 0,.own 2,.own 3,.mp 4,zA b.top1,zA b.top2,.own 5,z7 b.has1,z7 b.has2] 299
 |1=>jJ b.a
 |2=> .own 304 2 (b.buys.map zB)
 |3=> .own 304 2 (b.sells.map zB)
 |4=> .map (atE b.at_)
 |5=> .own 3 1 (iE b.spare)
 |_=> .gone
def z8 (b:Book):AObj:= .adt Book 6 zS b
structure MSt where
 p:Prd
 books:List Book
 wh:List (Int×Int)
def yU (l:List (Int×Int)):List (Value×List D):=l.map fun x=>(.int .i64 x.1,[.v (.int .i64 x.2)])
def xJ (s:MSt):Nat→AObj
 |0=> .cells [sV s.p.code,.own 3,zA s.p.tick,zA s.p.low,zA s.p.high,zA s.p.wide,zA s.p.rule,zA s.p.top,zA s.p.least,zA s.p.part,.own 4,.own 1,.mp 2] 240
 |1=> .objs 241 Book 6 zS s.books none
 |2=> .map (yU s.wh)
 |3=> .fro 1 (iE s.p.months)
 |4=> .fro 1 (iE s.p.settle)
 |_=> .gone
def zF (s:MSt):AObj:= .adt MSt 5 xJ s
def zLw (n:Nat):Arena:=⟨List.replicate n slot0,[],n⟩
def book0:Book:=⟨zLw 250,[],[],[],0,0,[],false,false⟩
def newAC:Con:=con1 Nat (fun n=>[zA n]) (fun _=>[]) (fun n=>1≤n∧n≤4096) (fun _=> .tup [.nm 0 0,zA 0]) (fun n=>[jJ (zLw n)])
def newBC:Con:=con1 Unit (fun _=>[]) (fun _=>[]) (fun _=>True) (fun _=> .nm 0 0) (fun _=>[z8 book0])
def aV (p:Prd):MSt:=⟨p,List.replicate p.count book0,[]⟩
def newSC:Con where
 ι:=Prd
 pat:=fun p=>[prdV p]
 pre:=fun _=>[]
 cnd:=fun p=>p.small
 alts:=fun p=>[{o:=Unit,res:=fun _=> .tup [.nm 0 0,zA 0],post:=fun _=>[zF (aV p)],rel:=fun _=>p.check=0},{o:=Unit,res:=fun _=> .tup [.d (.v (.pointer none)),zA p.check],post:=fun _=>[],rel:=fun _=>p.check≠0}]
def yTd (p:Prd):List SAnn:=[{ι:=Nat,slots:=fun j=>[(5,.nm 0 0),(27,zA j)],rows:=fun j=>(List.range 5).map (xJ ⟨p,List.replicate j book0,[]⟩)}]
def clSlotC:Con:=con1 (List Slot) (fun _=>[.own 0]) (fun l=>[.own 362 8 (l.map zR)]) (fun l=>l.length≤1000000) (fun _=> .own 1) (fun l=>[.own 362 8 (l.map zR),.own 362 8 (l.map zR)])
def clQueueC:Con:=con1 (List dP) (fun _=>[.own 0]) (fun l=>[.own 365 4 (l.map zQ)]) (fun l=>l.length≤1000000) (fun _=> .own 1) (fun l=>[.own 365 4 (l.map zQ),.own 365 4 (l.map zQ)])
def clRungC:Con:=con1 (List xE) (fun _=>[.own 0]) (fun l=>[.own 304 2 (l.map zB)]) (fun l=>l.length≤1000000) (fun _=> .own 1) (fun l=>[.own 304 2 (l.map zB),.own 304 2 (l.map zB)])
def clIntC:Con:=con1 (List Int) (fun _=>[.own 0]) (fun l=>[.own 3 1 (iE l)]) (fun l=>l.length≤1000000) (fun _=> .own 1) (fun l=>[.own 3 1 (iE l),.own 3 1 (iE l)])
def yDv (f:Nat):Con:=con1 (List (Value×List D)) (fun _=>[.mp 0]) (fun es=>[.map es]) (fun _=>True) (fun _=> .mp 1) (fun es=>[.map es,.map es])
def clAtC:Con:=yDv 0
def clWhC:Con:=yDv 1
@[reducible] def Arena.small (a:Arena):Prop:=a.slots.length≤1000000∧a.queues.length≤1000000
@[reducible] def Book.small (b:Book):Prop:=b.a.small∧b.buys.length≤1000000∧b.sells.length≤1000000∧b.spare.length≤1000000
@[reducible] def MSt.small (s:MSt):Prop:=s.books.length≤1000000∧∀b∈s.books,b.small
def copyAC:Con:=con1 Arena (fun _=>[.nm 0 0]) (fun a=>[jJ a]) Arena.small (fun _=> .nm 1 0) (fun a=>[jJ a,jJ a])
def copyBC:Con:=con1 Book (fun _=>[.nm 0 0]) (fun b=>[z8 b]) Book.small (fun _=> .nm 1 0) (fun b=>[z8 b,z8 b])
def yQd:List SAnn:=[{ι:=Unit,slots:=fun _=>[],rows:=fun _=>[],un:=3}]
def copySC:Con:=con1 MSt (fun _=>[.nm 0 0]) (fun s=>[zF s]) MSt.small (fun _=> .nm 1 0) (fun s=>[zF s,zF s])
open Go Cv Go.Proofs
def yLp (n:Nat):Prop:=
 cnd (decide ((↑n:Int)<1)) (∃(a:Unit),False) (cnd (decide ((↑n:Int)>4096)) (∃(a:Unit),False) ((0≤(↑n:Int)∧(↑n:Int)≤(↑n:Int)∧(↑n:Int)≤9223372036854775807∧(↑(64:Nat):Int)*(↑n:Int)≤2 ^ (48:Nat))∧∃(a:Unit),(0:Int)=(0:Int)∧(↑n:Int)=(↑n:Int)∧List.map zR (List.replicate n slot0)=List.replicate (↑n:Int).toNat [D.v (.bool false),dI 0,dI 0,dI 0,D.v (.bool false),dI 0,dI 0,dI 0]∧([]:List (List D))=[]∧True))
def yTg (u:Unit):Prop:=
 ∃(i:Nat),(↑i:Int)=250∧(1≤i∧i≤4096)∧∀(o:Unit),True→∃(o:Unit),(0:Int)=(0:Int)∧(0:Int)=(0:Int)∧false=false∧false=false∧AObj.adt Arena 3 zG (zLw 250)=AObj.adt Arena 3 zG (zLw i)∧([]:List (List D))=[]∧([]:List (List D))=[]∧atE []=[]∧iE []=[]∧True
def zFh (a:Prd) (b:Nat) (c:Unit):Prop:=(∃(d:Unit),(0:Int)=(0:Int)∧sb a.code=sb a.code∧a.tick=a.tick∧a.low=a.low∧a.high=a.high∧a.wide=a.wide∧a.rule=a.rule∧a.top=a.top∧a.least=a.least∧a.part=a.part∧AObj.objs 241 Book 6 zS (List.replicate a.count book0) none=AObj.objs 241 Book 6 zS (List.replicate b book0) none∧yU []=yU []∧AObj.fro 1 (iE a.months)=AObj.fro 1 (iE a.months)∧AObj.fro 1 (iE a.settle)=AObj.fro 1 (iE a.settle)∧a.check=0)∨∃(c:Unit),False
def cR (a:Prd):Prop:=AObj.fro 1 (iE a.settle)=AObj.fro 1 (iE a.settle)∧AObj.fro 1 (iE a.months)=AObj.fro 1 (iE a.months)
def v8 (a:Prd):=(D.v (Value.string (sb a.code)))
def zJh (a:Prd):Prop:=True∧True∧(0+(iE a.months).length)*(8:Nat)≤(140737488355328:Nat)∧True∧(0+(iE a.settle).length)*(8:Nat)≤(140737488355328:Nat)∧∃(b:Prd),sb b.code=sb a.code∧iE b.months=[]++iE a.months∧b.tick=a.tick∧b.low=a.low∧b.high=a.high∧b.wide=a.wide∧b.rule=a.rule∧b.top=a.top∧b.least=a.least∧b.part=a.part∧iE b.settle=[]++iE a.settle∧(zY b)∧∀(c:Unit),True→∃(d:Nat),(↑d:Int)=0∧sb a.code=sb a.code∧a.tick=a.tick∧a.low=a.low∧a.high=a.high∧a.wide=a.wide∧a.rule=a.rule∧a.top=a.top∧a.least=a.least∧a.part=a.part∧List.replicate d book0=[]∧(none:Option Nat)=none∧yU []=[]∧AObj.fro 1 (iE a.months)=AObj.fro 1 ([]++iE a.months)∧AObj.fro 1 (iE a.settle)=AObj.fro 1 ([]++iE a.settle)∧∃(e:Nat→Prop),∃(f:Nat→Nat),e d∧∀(g:Nat),e g→cnd (decide ((↑g:Int)<(↑b.count:Int))) (∃(h:Unit),True∧∀(j:Unit),True→True∧True∧∃(k:List Book),AObj.objs 241 Book 6 zS (List.replicate g book0) none=AObj.objs 241 Book 6 zS k none∧(k.length+1)*(8:Nat)≤(140737488355328:Nat)∧∃(l:Nat),(↑l:Int)=IntKind.i64.wrap ((↑g:Int)+1)∧sb a.code=sb a.code∧a.tick=a.tick∧a.low=a.low∧a.high=a.high∧a.wide=a.wide∧a.rule=a.rule∧a.top=a.top∧a.least=a.least∧a.part=a.part∧AObj.objs 241 Book 6 zS (List.replicate l book0) none=AObj.objs 241 Book 6 zS (k++[book0]) none∧yU []=yU []∧AObj.fro 1 (iE a.months)=AObj.fro 1 (iE a.months)∧AObj.fro 1 (iE a.settle)=AObj.fro 1 (iE a.settle)∧e l∧f l<f g∧AObj.fro 1 ([]++iE a.settle)=AObj.fro 1 ([]++iE a.settle)∧AObj.fro 1 ([]++iE a.months)=AObj.fro 1 ([]++iE a.months)∧Sx.AObj.cells [V.d (v8 a),V.own ((0:Nat)+(1:Nat)+(1:Nat)+(1:Nat)+((0:Nat)-(0:Nat))+(1:Nat)+(1:Nat)),V.d (dI a.tick),V.d (dI a.low),V.d (dI a.high),V.d (dI a.wide),V.d (dI a.rule),V.d (dI a.top),V.d (dI a.least),V.d (dI a.part),V.own ((0:Nat)+(1:Nat)+(1:Nat)+(1:Nat)+((0:Nat)-(0:Nat))+(1:Nat)+(1:Nat)+1)] 25=Sx.AObj.cells [V.d (v8 a),V.own ((0:Nat)+(1:Nat)+(1:Nat)+(1:Nat)+((0:Nat)-(0:Nat))+(1:Nat)+(1:Nat)),V.d (dI a.tick),V.d (dI a.low),V.d (dI a.high),V.d (dI a.wide),V.d (dI a.rule),V.d (dI a.top),V.d (dI a.least),V.d (dI a.part),V.own ((0:Nat)+(1:Nat)+(1:Nat)+(1:Nat)+((0:Nat)-(0:Nat))+(1:Nat)+(1:Nat)+1)] 25∧cR a) (zFh a g c)
def yKx (p:Prd):Prop:=
 ∃(a:Prd),sb a.code=sb p.code∧iE a.months=iE p.months∧a.tick=p.tick∧a.low=p.low∧a.high=p.high∧a.wide=p.wide∧a.rule=p.rule∧a.top=p.top∧a.least=p.least∧a.part=p.part∧iE a.settle=iE p.settle∧(zY a)∧∀(b:Unit),True→cnd (a.check !=0) ((∃(c:Unit),False)∨∃(b:Unit),True∧p.check=a.check∧(p.check=0→False)) ((True∧True∧((0+(iE p.months).length)*(8:Nat)≤(140737488355328:Nat)∧True∧True∧(0+(iE p.settle).length)*(8:Nat)≤(140737488355328:Nat)∧∃(c:Prd),sb c.code=sb p.code∧iE c.months=[]++iE p.months∧c.tick=p.tick∧c.low=p.low∧c.high=p.high∧c.wide=p.wide∧c.rule=p.rule∧c.top=p.top∧c.least=p.least∧c.part=p.part∧iE c.settle=[]++iE p.settle∧(zY c)∧∀(d:Unit),True→∃(e:Nat),(↑e:Int)=0∧sb p.code=sb p.code∧p.tick=p.tick∧p.low=p.low∧p.high=p.high∧p.wide=p.wide∧p.rule=p.rule∧p.top=p.top∧p.least=p.least∧p.part=p.part∧List.replicate e book0=[]∧(none:Option Nat)=none∧yU []=[]∧AObj.fro 1 (iE p.months)=AObj.fro 1 ([]++iE p.months)∧AObj.fro 1 (iE p.settle)=AObj.fro 1 ([]++iE p.settle)∧∃(f:Nat→Prop),∃(g:Nat→Nat),f e∧∀(h:Nat),f h→cnd (decide ((↑h:Int)<(↑c.count:Int))) (∃(j:Unit),True∧∀(k:Unit),True→True∧True∧∃(l:List Book),AObj.objs 241 Book 6 zS (List.replicate h book0) none=AObj.objs 241 Book 6 zS l none∧(l.length+1)*(8:Nat)≤(140737488355328:Nat)∧∃(m:Nat),(↑m:Int)=IntKind.i64.wrap ((↑h:Int)+1)∧sb p.code=sb p.code∧p.tick=p.tick∧p.low=p.low∧p.high=p.high∧p.wide=p.wide∧p.rule=p.rule∧p.top=p.top∧p.least=p.least∧p.part=p.part∧AObj.objs 241 Book 6 zS (List.replicate m book0) none=AObj.objs 241 Book 6 zS (l++[book0]) none∧yU []=yU []∧AObj.fro 1 (iE p.months)=AObj.fro 1 (iE p.months)∧AObj.fro 1 (iE p.settle)=AObj.fro 1 (iE p.settle)∧f m∧g m<g h∧AObj.fro 1 ([]++iE p.settle)=AObj.fro 1 ([]++iE p.settle)∧AObj.fro 1 ([]++iE p.months)=AObj.fro 1 ([]++iE p.months)∧Sx.AObj.cells [V.d (v8 p),V.own ((0:Nat)+(1:Nat)+(1:Nat)+(1:Nat)+((0:Nat)-(0:Nat))+1),V.d (dI p.tick),V.d (dI p.low),V.d (dI p.high),V.d (dI p.wide),V.d (dI p.rule),V.d (dI p.top),V.d (dI p.least),V.d (dI p.part),V.own ((0:Nat)+(1:Nat)+(1:Nat)+(1:Nat)+((0:Nat)-(0:Nat))+(1:Nat)+(1:Nat)+1)] 25=Sx.AObj.cells [V.d (v8 p),V.own ((0:Nat)+(1:Nat)+(1:Nat)+(1:Nat)+((0:Nat)-(0:Nat))+1),V.d (dI p.tick),V.d (dI p.low),V.d (dI p.high),V.d (dI p.wide),V.d (dI p.rule),V.d (dI p.top),V.d (dI p.least),V.d (dI p.part),V.own ((0:Nat)+(1:Nat)+(1:Nat)+(1:Nat)+((0:Nat)-(0:Nat))+(1:Nat)+(1:Nat)+1)] 25∧cR p) (zFh p h d))∧zJh p)∧True∧True∧zJh p)
def yIg (l:List Slot):Prop:=
 ∀(b:Bool),(b=true→List.map zR l=[])→cnd b (∃(o:Unit),List.map zR l=List.map zR l∧List.map zR l=[]∧True) ((0+(List.map zR l).length)*(64:Nat)≤(140737488355328:Nat)∧∃(o:Unit),List.map zR l=List.map zR l∧List.map zR l=[]++List.map zR l∧True)
def z9a (l:List dP):Prop:=
 ∀(b:Bool),(b=true→List.map zQ l=[])→cnd b (∃(o:Unit),List.map zQ l=List.map zQ l∧List.map zQ l=[]∧True) ((0+(List.map zQ l).length)*(32:Nat)≤(140737488355328:Nat)∧∃(o:Unit),List.map zQ l=List.map zQ l∧List.map zQ l=[]++List.map zQ l∧True)
def yJv (l:List xE):Prop:=
 ∀(b:Bool),(b=true→List.map zB l=[])→cnd b (∃(o:Unit),List.map zB l=List.map zB l∧List.map zB l=[]∧True) ((0+(List.map zB l).length)*(16:Nat)≤(140737488355328:Nat)∧∃(o:Unit),List.map zB l=List.map zB l∧List.map zB l=[]++List.map zB l∧True)
def yPy (l:List Int):Prop:=
 ∀(b:Bool),(b=true→iE l=[])→cnd b (∃(o:Unit),iE l=iE l∧iE l=[]∧True) ((0+(iE l).length)*(8:Nat)≤(140737488355328:Nat)∧∃(o:Unit),iE l=iE l∧iE l=[]++iE l∧True)
def yAl (es:List (Value×List D)):Prop:=
 ∃(a:List (Value×List D)),a=es∧True∧∀(b:Unit),True→∃(c:Unit),es=a∧es=a∧True
theorem yOi (es:List (Value×List D)):yAl es=walk Tryz.prog ([(186,cC 295)]) 0 ([]) ([]) [] Tryz.f201 (Tryz.f201.body.getD .skip) (clAtC.pat es) (clAtC.pre es) (clAtC.alts es):=by kernel_rfl
theorem yPg (hG:GOk Tryz.prog ([(186,cC 295)])) (h:∀(es:List (Value×List D)),clAtC.cnd es→yAl es):clAtC.ok Tryz.prog 201:=aA mixed ([(186,cC 295)]) hG 0 (fun(es:List (Value×List D))=>[]) (fun(es:List (Value×List D))=>[]) [] Tryz.func201 (by kernel_rfl) (by kernel_rfl) (by kernel_rfl) (fun _=>by kernel_rfl) (fun(es:List (Value×List D)) hc=>Eq.mp (yOi es) (h es hc))
def z9w (es:List (Value×List D)):Prop:=
 ∃(a:List (Value×List D)),a=es∧True∧∀(b:Unit),True→∃(c:Unit),es=a∧es=a∧True
theorem yMi (es:List (Value×List D)):z9w es=walk Tryz.prog ([(186,cC 168)]) 0 ([]) ([]) [] Tryz.f146 (Tryz.f146.body.getD .skip) (clWhC.pat es) (clWhC.pre es) (clWhC.alts es):=by kernel_rfl
theorem yPk (hG:GOk Tryz.prog ([(186,cC 168)])) (h:∀(es:List (Value×List D)),clWhC.cnd es→z9w es):clWhC.ok Tryz.prog 146:=aA mixed ([(186,cC 168)]) hG 0 (fun(es:List (Value×List D))=>[]) (fun(es:List (Value×List D))=>[]) [] Tryz.func146 (by kernel_rfl) (by kernel_rfl) (by kernel_rfl) (fun _=>by kernel_rfl) (fun(es:List (Value×List D)) hc=>Eq.mp (yMi es) (h es hc))
def yMg (a:Arena):Prop:=
 ∃(i:List Slot),List.map zR i=List.map zR a.slots∧i.length≤1000000∧∀(o:Unit),True→a.free=a.free∧True∧∃(i_1:List dP),List.map zQ i_1=List.map zQ a.queues∧i_1.length≤1000000∧∀(o:Unit),True→a.free=a.free∧∃(o:Unit),a.free=a.free∧List.map zR a.slots=List.map zR i∧List.map zQ a.queues=List.map zQ i_1∧a.free=a.free∧List.map zR a.slots=List.map zR i∧List.map zQ a.queues=List.map zQ i_1∧True
def yMv (b:Book):Prop:=
 ∃(i:Arena),AObj.adt Arena 3 zG i=AObj.adt Arena 3 zG b.a∧(i.slots.length≤1000000∧i.queues.length≤1000000)∧∀(o:Unit),True→True∧True∧∃(i_1:List (Value×List D)),i_1=atE b.at_∧True∧∀(o:Unit),True→True∧∃(i_2:List Int),iE i_2=iE b.spare∧i_2.length≤1000000∧∀(o:Unit),True→∃(i_3:List xE),List.map zB i_3=List.map zB b.buys∧i_3.length≤1000000∧∀(o:Unit),True→∃(i_4:List xE),List.map zB i_4=List.map zB b.sells∧i_4.length≤1000000∧∀(o:Unit),True→∃(o:Unit),b.top1=b.top1∧b.top2=b.top2∧b.has1=b.has1∧b.has2=b.has2∧AObj.adt Arena 3 zG b.a=AObj.adt Arena 3 zG i∧List.map zB b.buys=List.map zB i_3∧List.map zB b.sells=List.map zB i_4∧atE b.at_=i_1∧iE b.spare=iE i_2∧b.top1=b.top1∧b.top2=b.top2∧b.has1=b.has1∧b.has2=b.has2∧AObj.adt Arena 3 zG b.a=AObj.adt Arena 3 zG i∧List.map zB b.buys=List.map zB i_3∧List.map zB b.sells=List.map zB i_4∧atE b.at_=i_1∧iE b.spare=iE i_2∧True
open Go Cv Go.Proofs
theorem yUl (n:Nat) (h:newAC.cnd n):yLp n:=by
 obtain⟨h1,h2⟩:1≤n∧n≤4096:=h
 unfold yLp dI
 refine zK (fun c=>by omega) fun c=>zK (fun c=>by omega) fun c=> ?_
 refine⟨⟨by omega,by omega,by omega,?_⟩,?_⟩
 ·have:(2:Int) ^ (48:Nat)=281474976710656:=by decide
  rw[this];omega
 ·refine⟨(),rfl,rfl,?_,rfl,trivial⟩
  rw[List.map_replicate];rfl
theorem yIx:newAC.ok Tryz.prog 189:=okw mixed gok0 0 (fun _=>[]) (fun _=>[]) [] Tryz.func189 yUl
theorem yIp:newBC.ok Tryz.prog 150:=okw (V:=yTg) mixed (gokc yIx gok0) 0 (fun _=>[]) (fun _=>[]) [] Tryz.func150 fun(u:Unit) _=>by
 refine⟨250,rfl,⟨by omega,by omega⟩,?_⟩;exact kp
theorem ySs (p:Prd) (h:newSC.cnd p):yKx p:=by
 unfold yKx zJh v8 cR zFh zY dI
 have hs:p.small:=h
 obtain⟨h1,h2,h3⟩:p.small:=h
 refine⟨p,?_⟩
 simp only[xC]
 (repeat'(first|exact rfl|exact trivial|assumption|apply And.intro|refine fun(_:Unit) (_:True)=>?_|refine Exists.intro () ?_|omega|(dsimp only;omega)))
 refine Cv.cnd.mk (fun c=> .inr ⟨(),trivial,kp,by simpa using c⟩) fun c=> ?_
 have c:p.check=0:=by simpa using c
 have hc:=xP p
 (repeat'(first|exact rfl|exact trivial|assumption|apply And.intro|refine fun(_:Unit) (_:True)=>?_|refine Exists.intro () ?_|omega|(dsimp only;omega)))
 all_goals(refine⟨p,?_⟩;(repeat'(first|exact rfl|exact trivial|assumption|apply And.intro|refine fun(_:Unit) (_:True)=>?_|refine Exists.intro () ?_|omega|(dsimp only;omega))))
 all_goals(refine⟨0,?_⟩;(repeat'(first|exact rfl|exact trivial|assumption|apply And.intro|refine fun(_:Unit) (_:True)=>?_|refine Exists.intro () ?_|omega|(dsimp only;omega))))
 all_goals(refine⟨fun j=>j≤p.count,fun j=>p.count-j,by omega,fun j hj=>zK (fun hlt=> ?_) (fun hlt=> ?_)⟩;all_goals dsimp only at hj hlt)
 all_goals first
  |(refine .inl ⟨(),?_⟩
    obtain rfl:j=p.count:=by omega
    (repeat'(first|exact rfl|exact trivial|assumption|apply And.intro|refine fun(_:Unit) (_:True)=>?_|refine Exists.intro () ?_|omega|(dsimp only;omega))))
  |(refine⟨(),trivial,fun _ _=>⟨trivial,trivial,List.replicate j book0,rfl,?_,j+1,?_⟩⟩
    ·rw[y0a];omega
    ·rw[w64 (by omega),← List.replicate_succ']
     (repeat'(first|exact rfl|exact trivial|assumption|apply And.intro|refine fun(_:Unit) (_:True)=>?_|refine Exists.intro () ?_|omega|(dsimp only;omega))))
theorem yHn:newSC.ok Tryz.prog 103:=okw mixed (gokc sS (gokc cN (gokc yIp gok0))) 0 (fun _=>[]) (fun p=>yTd p) [] Tryz.func103 ySs
theorem z6v:clSlotC.ok Tryz.prog 232:=okw (V:=yIg) mixed gok0 0 (fun _=>[]) (fun _=>[]) [] Tryz.func232 fun(l:List Slot) h=>by
 have h:l.length≤1000000:=h
 exact fun b hb=>Cv.cnd.mk (fun e=>⟨(),rfl,hb e,trivial⟩) (fun _=>⟨by rw[yXu,yWu];omega,(),rfl,rfl,trivial⟩)
theorem z1d:clQueueC.ok Tryz.prog 233:=okw (V:=z9a) mixed gok0 0 (fun _=>[]) (fun _=>[]) [] Tryz.func233 fun(l:List dP) h=>by
 have h:l.length≤1000000:=h
 exact fun b hb=>Cv.cnd.mk (fun e=>⟨(),rfl,hb e,trivial⟩) (fun _=>⟨by rw[yXu,yWu];omega,(),rfl,rfl,trivial⟩)
theorem z6x:clRungC.ok Tryz.prog 202:=okw (V:=yJv) mixed gok0 0 (fun _=>[]) (fun _=>[]) [] Tryz.func202 fun(l:List xE) h=>by
 have h:l.length≤1000000:=h
 exact fun b hb=>Cv.cnd.mk (fun e=>⟨(),rfl,hb e,trivial⟩) (fun _=>⟨by rw[yXu,yWu];omega,(),rfl,rfl,trivial⟩)
theorem z8y:clIntC.ok Tryz.prog 88:=okw (V:=yPy) mixed gok0 0 (fun _=>[]) (fun _=>[]) [] Tryz.func88 fun(l:List Int) h=>by
 have h:l.length≤1000000:=h
 exact fun b hb=>Cv.cnd.mk (fun e=>⟨(),rfl,hb e,trivial⟩) (fun _=>⟨by rw[yXu,xC];omega,(),rfl,rfl,trivial⟩)
theorem zOr (t:Nat):(cC t).ok Tryz.prog 186:=z0y Tryz.func186 (by kernel_rfl) (by kernel_rfl) (by kernel_rfl) (by kernel_rfl) t
theorem yIm:clAtC.ok Tryz.prog 201:=yPg (gokc (zOr _) gok0) fun es _=>by
 unfold yAl
 refine⟨es,?_⟩;exact kp
theorem yHy:clWhC.ok Tryz.prog 146:=yPk (gokc (zOr _) gok0) fun es _=>by
 unfold z9w
 refine⟨es,?_⟩;exact kp
theorem yAm:copyAC.ok Tryz.prog 200:=okw (V:=yMg) mixed (gokc z6v (gokc z1d gok0)) 0 (fun _=>[]) (fun _=>[]) [0] Tryz.func200 fun(a:Arena) h=>by
 obtain⟨h1,h2⟩:a.small:=h
 refine⟨a.slots,?_⟩;(repeat'(first|exact rfl|exact trivial|assumption|apply And.intro|refine fun(_:Unit) (_:True)=>?_|refine Exists.intro () ?_|omega|(dsimp only;omega)))
 refine⟨a.queues,?_⟩;exact kp
theorem yBr:copyBC.ok Tryz.prog 162:=okw (V:=yMv) mixed (gokc yAm (gokc yIm (gokc z8y (gokc z6x gok0)))) 0 (fun _=>[]) (fun _=>yQd) [0] Tryz.func162 fun(b:Book) h=>by
 obtain⟨⟨h1,h1'⟩,h2,h3,h4⟩:b.small:=h
 refine⟨b.a,?_⟩;(repeat'(first|exact rfl|exact trivial|assumption|apply And.intro|refine fun(_:Unit) (_:True)=>?_|refine Exists.intro () ?_|omega|(dsimp only;omega)))
 refine⟨atE b.at_,?_⟩;(repeat'(first|exact rfl|exact trivial|assumption|apply And.intro|refine fun(_:Unit) (_:True)=>?_|refine Exists.intro () ?_|omega|(dsimp only;omega)))
 refine⟨b.spare,?_⟩;(repeat'(first|exact rfl|exact trivial|assumption|apply And.intro|refine fun(_:Unit) (_:True)=>?_|refine Exists.intro () ?_|omega|(dsimp only;omega)))
 refine⟨b.buys,?_⟩;(repeat'(first|exact rfl|exact trivial|assumption|apply And.intro|refine fun(_:Unit) (_:True)=>?_|refine Exists.intro () ?_|omega|(dsimp only;omega)))
 refine⟨b.sells,?_⟩;exact kp
open Go Cv Go.Proofs
structure ArN where
 a:Arena
 n:Int
def Arena.qAt (a:Arena) (n:Int):dP:=if 0≤n∧n<a.queues.length then a.queues.getD n.toNat ⟨0,0,0,0⟩else⟨0,0,0,0⟩
def atotalC:Con:=con1 ArN (fun i=>[.nm 0 0,zA i.n]) (fun i=>[jJ i.a]) (fun i=>True) (fun i=>zA (i.a.qAt i.n).total) (fun i=>[jJ i.a])
def acountC:Con:=con1 ArN (fun i=>[.nm 0 0,zA i.n]) (fun i=>[jJ i.a]) (fun i=>True) (fun i=>zA (i.a.qAt i.n).count) (fun i=>[jJ i.a])
def bisC:Con:=con1 Int (fun n=>[zA n]) (fun _=>[]) (fun _=>True) (fun n=>z7 (decide (n=1)||decide (n=2))) (fun _=>[])
structure BkR where
 b:Book
 r:xE
def Book.told (b:Book) (r:xE):Lv:=⟨r.price,(b.a.qAt r.queue).total,(b.a.qAt r.queue).count⟩
@[reducible] def Book.cntOk (b:Book):Prop:=∀q∈b.a.queues,i64r q.count
def toldC:Con:=con1 BkR (fun i=>[.nm 0 0,.agg [zA i.r.price,zA i.r.queue]]) (fun i=>[z8 i.b]) (fun i=>i.b.cntOk) (fun i=>lvV (i.b.told i.r)) (fun i=>[z8 i.b])
def Book.best (b:Book) (l:List xE):Lv×Bool:=match l with
 |[]=>(⟨0,0,0⟩,false)
 |r::_=>(b.told r,true)
structure BkS where
 side:Bool
 b:Book
def Book.side (b:Book) (s:Bool):List xE:=if s then b.sells else b.buys
@[reducible] def zZv (b:Book) (l:List xE):V:= .tup [lvV (b.best l).1,z7 (b.best l).2]
def best1C:Con:=con1 Book (fun _=>[.nm 0 0,zA 1]) (fun b=>[z8 b]) Book.cntOk (fun b=>zZv b b.buys) (fun b=>[z8 b])
def best2C:Con:=con1 Book (fun _=>[.nm 0 0,zA 2]) (fun b=>[z8 b]) Book.cntOk (fun b=>zZv b b.sells) (fun b=>[z8 b])
def zD (s:Bool):Int:=if s then 2 else 1
def bestC:Con:=con1 BkS (fun i=>[.nm 0 0,zA (zD i.side)]) (fun i=>[z8 i.b]) (fun i=>i.b.cntOk) (fun i=>zZv i.b (i.b.side i.side)) (fun i=>[z8 i.b])
structure Top where
 has1:Bool
 has2:Bool
 p1:Int
 p2:Int
 q1:Int
 q2:Int
 deriving DecidableEq
def zZ (t:Top):List D:=[.v (.bool t.has1),.v (.bool t.has2),.v (.int .i64 t.p1),.v (.int .i64 t.p2),.v (.int .i64 t.q1),.v (.int .i64 t.q2)]
def top0:Top:=⟨false,false,0,0,0,0⟩
def Top.buy (t:Top) (x:Lv×Bool):Top:=if x.2 then{t with has1:=true,p1:=x.1.price,q1:=x.1.qty}else t
def Top.sell (t:Top) (x:Lv×Bool):Top:=if x.2 then{t with has2:=true,p2:=x.1.price,q2:=x.1.qty}else t
def Book.top (b:Book):Top:=(top0.buy (b.best b.buys)).sell (b.best b.sells)
def MSt.tops (s:MSt):List Top:=s.books.map Book.top
@[reducible] def MSt.cntOk (s:MSt):Prop:=s.books.length≤1000000∧∀b∈s.books,b.cntOk
def topsC:Con:=con1 MSt (fun _=>[.nm 0 0]) (fun s=>[zF s]) MSt.cntOk (fun s=> .own 1) (fun s=>[zF s,.own 252 6 (s.tops.map zZ)])
def xL (s:MSt) (j:Nat) (x:Top):List Top:=(s.tops.take j)++x::List.replicate (s.books.length-j-1) top0
def xR (s:MSt) (j:Nat):List Top:=(s.tops.take j)++List.replicate (s.books.length-j) top0
def yKo (s:MSt):List SAnn:=[
 {ι:=Nat,slots:=fun j=>[(3,.own 0),(21,zA j)],rows:=fun j=>[.own 252 6 ((xR s j).map zZ)]},
 {ι:=Unit,slots:=fun _=>[],rows:=fun _=>[],un:=3}]
def yLu (s:MSt):List (Nat×SAnn):=[(15,{ι:=Nat×Top,slots:=fun x=>[(3,.own 0)],slots0:=fun x=>[(3,.own 0)],rows0:=fun x=>[.own 252 6 ((xL s x.1 x.2).map zZ)],rows:=fun x=>[.own 252 6 ((xL s x.1 x.2).map zZ)]})]
def yMs (s:MSt):List SAnn:=[{ι:=Nat,slots:=fun j=>[(3,.nm 0 0),(22,zA j)],rows:=fun j=>(List.range 5).map (xJ ⟨s.p,s.books.take j,s.wh⟩)}]
open Go Cv Go.Proofs
def kY (a:ArN):Prop:=a.a.free=a.a.free∧List.map zR a.a.slots=List.map zR a.a.slots∧List.map zQ a.a.queues=List.map zQ a.a.queues∧True
def sR (a:ArN):Prop:=∃(b:Unit),(a.a.qAt a.n).total=0∧kY a
def gH (a:ArN):=(↑(List.map zQ a.a.queues).length:Int)
def z5c (i:ArN):Prop:=
 cnd (decide (i.n≥0)) (cnd (!decide (i.n<(gH i))) (sR i) ((0≤i.n∧i.n<(gH i))∧∃(a:Int),zE (List.map zQ i.a.queues) i.n.toNat ((0:Nat)+(2:Nat)) 1=some [dI a]∧∃(b:Unit),(i.a.qAt i.n).total=a∧kY i)) (sR i)
def sF (a:ArN):Prop:=∃(b:Unit),(a.a.qAt a.n).count=0∧kY a
def z4y (i:ArN):Prop:=
 cnd (decide (i.n≥0)) (cnd (!decide (i.n<(gH i))) (sF i) ((0≤i.n∧i.n<(gH i))∧∃(a:Int),zE (List.map zQ i.a.queues) i.n.toNat ((0:Nat)+(3:Nat)) 1=some [dI a]∧∃(b:Unit),(i.a.qAt i.n).count=a∧kY i)) (sF i)
def yTz (n:Int):Prop:=
 cnd (n==1) (∃(a:Unit),(decide (n=1)||decide (n=2))=true∧True) (∃(a:Unit),(decide (n=1)||decide (n=2))=(n==2)∧True)
def yTi (i:BkR):Prop:=
 ∃(i_1:ArN),i_1.n=i.r.queue∧AObj.adt Arena 3 zG i_1.a=AObj.adt Arena 3 zG i.b.a∧True∧∀(o:Unit),True→i.r.queue=i.r.queue∧True∧i.r.price=i.r.price∧∃(i_2:ArN),i_2.n=i.r.queue∧AObj.adt Arena 3 zG i_2.a=AObj.adt Arena 3 zG i_1.a∧True∧∀(o:Unit),True→i.r.price=i.r.price∧∃(o:Unit),i.r.price=i.r.price∧(i.b.a.qAt i.r.queue).total=(i_1.a.qAt i_1.n).total∧(i.b.a.qAt i.r.queue).count=(i_2.a.qAt i_2.n).count∧i.b.top1=i.b.top1∧i.b.top2=i.b.top2∧i.b.has1=i.b.has1∧i.b.has2=i.b.has2∧AObj.adt Arena 3 zG i.b.a=AObj.adt Arena 3 zG i_2.a∧List.map zB i.b.buys=List.map zB i.b.buys∧List.map zB i.b.sells=List.map zB i.b.sells∧atE i.b.at_=atE i.b.at_∧iE i.b.spare=iE i.b.spare∧True
def yQy (b:Book):Prop:=
 ∃(i:Int),i=1∧True∧∀(o:Unit),True→cnd (!(decide (i=1)||decide (i=2))) (∃(o:Unit),(b.best b.buys).fst.price=0∧(b.best b.buys).fst.qty=0∧(b.best b.buys).fst.count=0∧(b.best b.buys).snd=false∧b.top1=b.top1∧b.top2=b.top2∧b.has1=b.has1∧b.has2=b.has2∧AObj.adt Arena 3 zG b.a=AObj.adt Arena 3 zG b.a∧List.map zB b.buys=List.map zB b.buys∧List.map zB b.sells=List.map zB b.sells∧atE b.at_=atE b.at_∧iE b.spare=iE b.spare∧True) (cnd ((↑(List.map zB b.buys).length:Int)==0) (∃(o:Unit),(b.best b.buys).fst.price=0∧(b.best b.buys).fst.qty=0∧(b.best b.buys).fst.count=0∧(b.best b.buys).snd=false∧b.top1=b.top1∧b.top2=b.top2∧b.has1=b.has1∧b.has2=b.has2∧AObj.adt Arena 3 zG b.a=AObj.adt Arena 3 zG b.a∧List.map zB b.buys=List.map zB b.buys∧List.map zB b.sells=List.map zB b.sells∧atE b.at_=atE b.at_∧iE b.spare=iE b.spare∧True) (((0:Int)≤(0:Int)∧0<(↑(List.map zB b.buys).length:Int))∧∃(n:Int),∃(n_1:Int),zE (List.map zB b.buys) (Int.toNat 0) 0 2=some [D.v (.int .i64 n),D.v (.int .i64 n_1)]∧∃(i:BkR),i.r.price=n∧i.r.queue=n_1∧i.b.top1=b.top1∧i.b.top2=b.top2∧i.b.has1=b.has1∧i.b.has2=b.has2∧AObj.adt Arena 3 zG i.b.a=AObj.adt Arena 3 zG b.a∧List.map zB i.b.buys=List.map zB b.buys∧List.map zB i.b.sells=List.map zB b.sells∧atE i.b.at_=atE b.at_∧iE i.b.spare=iE b.spare∧(∀(q:dP),q∈i.b.a.queues→(-9223372036854775808)≤q.count∧q.count≤9223372036854775807)∧∀(o:Unit),True→∃(o:Unit),(b.best b.buys).fst.price=i.r.price∧(b.best b.buys).fst.qty=(i.b.a.qAt i.r.queue).total∧(b.best b.buys).fst.count=(i.b.a.qAt i.r.queue).count∧(b.best b.buys).snd=true∧z8 b=z8 i.b∧True))
def yPw (b:Book):Prop:=
 ∃(i:Int),i=2∧True∧∀(o:Unit),True→cnd (!(decide (i=1)||decide (i=2))) (∃(o:Unit),(b.best b.sells).fst.price=0∧(b.best b.sells).fst.qty=0∧(b.best b.sells).fst.count=0∧(b.best b.sells).snd=false∧b.top1=b.top1∧b.top2=b.top2∧b.has1=b.has1∧b.has2=b.has2∧AObj.adt Arena 3 zG b.a=AObj.adt Arena 3 zG b.a∧List.map zB b.buys=List.map zB b.buys∧List.map zB b.sells=List.map zB b.sells∧atE b.at_=atE b.at_∧iE b.spare=iE b.spare∧True) (cnd ((↑(List.map zB b.sells).length:Int)==0) (∃(o:Unit),(b.best b.sells).fst.price=0∧(b.best b.sells).fst.qty=0∧(b.best b.sells).fst.count=0∧(b.best b.sells).snd=false∧b.top1=b.top1∧b.top2=b.top2∧b.has1=b.has1∧b.has2=b.has2∧AObj.adt Arena 3 zG b.a=AObj.adt Arena 3 zG b.a∧List.map zB b.buys=List.map zB b.buys∧List.map zB b.sells=List.map zB b.sells∧atE b.at_=atE b.at_∧iE b.spare=iE b.spare∧True) (((0:Int)≤(0:Int)∧0<(↑(List.map zB b.sells).length:Int))∧∃(n:Int),∃(n_1:Int),zE (List.map zB b.sells) (Int.toNat 0) 0 2=some [D.v (.int .i64 n),D.v (.int .i64 n_1)]∧∃(i:BkR),i.r.price=n∧i.r.queue=n_1∧i.b.top1=b.top1∧i.b.top2=b.top2∧i.b.has1=b.has1∧i.b.has2=b.has2∧AObj.adt Arena 3 zG i.b.a=AObj.adt Arena 3 zG b.a∧List.map zB i.b.buys=List.map zB b.buys∧List.map zB i.b.sells=List.map zB b.sells∧atE i.b.at_=atE b.at_∧iE i.b.spare=iE b.spare∧(∀(q:dP),q∈i.b.a.queues→(-9223372036854775808)≤q.count∧q.count≤9223372036854775807)∧∀(o:Unit),True→∃(o:Unit),(b.best b.sells).fst.price=i.r.price∧(b.best b.sells).fst.qty=(i.b.a.qAt i.r.queue).total∧(b.best b.sells).fst.count=(i.b.a.qAt i.r.queue).count∧(b.best b.sells).snd=true∧z8 b=z8 i.b∧True))
def zGf (a:MSt):Prop:=Sx.AObj.map (yU a.wh)=Sx.AObj.map (yU a.wh)∧AObj.fro 1 (iE a.p.months)=AObj.fro 1 (iE a.p.months)∧AObj.fro 1 (iE a.p.settle)=AObj.fro 1 (iE a.p.settle)
def zDh (a:Nat×Top→Prop) (b:Nat×Top) (c:MSt) (d:Nat) (e:Book):Prop:=a b∧AObj.own 3 1 [[dI 1],[dI 2]]=AObj.own 3 1 [[dI 1],[dI 2]]∧Sx.AObj.cells (jZ (jA 0 1 5) [sV c.p.code,V.own 3,zA c.p.tick,zA c.p.low,zA c.p.high,zA c.p.wide,zA c.p.rule,zA c.p.top,zA c.p.least,zA c.p.part,V.own 4,V.own 1,V.mp 2]) (240:TypeId)=Sx.AObj.cells (jZ (jA 0 1 5) [sV c.p.code,V.own 3,zA c.p.tick,zA c.p.low,zA c.p.high,zA c.p.wide,zA c.p.rule,zA c.p.top,zA c.p.least,zA c.p.part,V.own 4,V.own 1,V.mp 2]) (240:TypeId)∧AObj.objs 241 Book 6 zS (c.books.set (↑d:Int).toNat e) none=AObj.objs 241 Book 6 zS c.books none∧zGf c
def zMi (a:MSt) (b:Nat×Top) (c:Nat×Top→Prop) (d:Nat) (e:Book):Prop:=∃(f:Nat×Top),List.map zZ (xL a f.fst f.snd)=List.map zZ (xL a b.fst b.snd)∧zDh c f a d e
def vQ (a:MSt) (b:Nat×Top):=(List.map zZ (xL a b.fst b.snd))
def Vtopst403:=((2:Int) ^ IntKind.i64.bits)
def cQ (a:MSt) (b:Nat×Top) (c:Nat):=(zH (vQ a b) (↑c:Int).toNat ((0:Nat)+(0:Nat)+(nat_lit 0+nat_lit 1) % Vtopst403.natAbs*1) [D.v (.bool true)])
def zV (a:BkS):=(a.b.best (a.b.side a.side))
def f9 (a:BkS):=((zV a).fst.price)
def fT (a:MSt) (b:Nat×Top) (c:Nat) (d:BkS):=(zH (cQ a b c) (↑c:Int).toNat ((0:Nat)+(2:Nat)+(nat_lit 0+nat_lit 1) % Vtopst403.natAbs*1) [dI (f9 d)])
def eK (a:Nat) (b:MSt) (c:Nat×Top) (d:BkS):Prop:=(0≤(↑a:Int)∧(↑a:Int)<(↑(fT b c a d).length:Int))∧(↑a:Int).toNat=(↑a:Int).toNat
def cL (a:MSt) (b:Nat×Top) (c:Nat):=(zH (vQ a b) (↑c:Int).toNat ((0:Nat)+(0:Nat)+nat_lit 0*1) [D.v (.bool true)])
def fX (a:MSt) (b:Nat×Top) (c:Nat) (d:BkS):=(zH (cL a b c) (↑c:Int).toNat ((0:Nat)+(2:Nat)+nat_lit 0*1) [dI (f9 d)])
def tM (a:Nat) (b:MSt) (c:Nat×Top) (d:BkS):Prop:=(0≤(↑a:Int)∧(↑a:Int)<(↑(fX b c a d).length:Int))∧(↑a:Int).toNat=(↑a:Int).toNat
def cI (a:Nat) (b:MSt) (c:Nat×Top):Prop:=(0≤(↑a:Int)∧(↑a:Int)<(↑(cQ b c a).length:Int))∧(↑a:Int).toNat=(↑a:Int).toNat
def cT (a:Nat) (b:MSt) (c:Nat×Top):Prop:=(0≤(↑a:Int)∧(↑a:Int)<(↑(cL b c a).length:Int))∧(↑a:Int).toNat=(↑a:Int).toNat
def tU (a:MSt):Prop:=0≤(↑a.books.length:Int)∧(↑a.books.length:Int)≤(↑a.books.length:Int)∧(↑a.books.length:Int)≤9223372036854775807∧(↑(40:Nat):Int)*(↑a.books.length:Int)≤2 ^ (48:Nat)
def gM:Prop:=0≤IntKind.i64.wrap ((0:Int)+(1:Int))∧IntKind.i64.wrap ((0:Int)+(1:Int))<(↑(2:Nat):Int)
def wT (a:BkS):Prop:=∀(b:dP),b∈a.b.a.queues→(-9223372036854775808)≤b.count∧b.count≤9223372036854775807
def qI (a:Nat) (b:MSt) (c:Nat×Top):Prop:=0≤(↑a:Int)∧(↑a:Int)<(↑(vQ b c).length:Int)
def v7 (a:BkS):=((zV a).fst.qty)
def yLv (s:MSt):Prop:=
 (tU s)∧∃(a:Nat),(↑a:Int)=0∧List.map zZ (xR s a)=List.replicate (↑s.books.length:Int).toNat [D.v (.bool false),D.v (.bool false),dI 0,dI 0,dI 0,dI 0]∧∃(b:Nat→Prop),∃(c:Nat→Nat),b a∧∀(d:Nat),b d→cnd (decide ((↑d:Int)<(↑s.books.length:Int))) ((0≤(↑d:Int)∧(↑d:Int)<(↑s.books.length:Int))∧(↑d:Int).toNat<s.books.length∧∃(e:Nat×Top),List.map zZ (xL s e.fst e.snd)=List.map zZ (xR s d)∧∃(f:Nat×Top→Prop),(((0:Int)≤(0:Int)∧0<(↑(2:Nat):Int))∧∃(g:Int),zE [[dI 1],[dI 2]] (Int.toNat 0) 0 1=some [dI g]∧∃(h:Book),s.books[(↑d:Int).toNat]?=some h∧∃(j:BkS),zD j.side=g∧z8 j.b=z8 h∧(wT j)∧∀(k:Unit),True→∃(l:Book),z8 j.b=z8 l∧(↑d:Int).toNat=(↑d:Int).toNat∧(↑d:Int).toNat<s.books.length∧cnd (zV j).snd ((qI d s e)∧(qI d s e)∧(qI d s e)∧(↑d:Int).toNat<(vQ s e).length∧(cT d s e)∧(cT d s e)∧(zV j).fst.qty=(zV j).fst.qty∧(zV j).fst.price=(zV j).fst.price∧(↑d:Int).toNat<(cL s e d).length∧(tM d s e j)∧(zV j).fst.qty=(zV j).fst.qty∧(↑d:Int).toNat<(fX s e d j).length∧∃(m:Nat×Top),List.map zZ (xL s m.fst m.snd)=zH (fX s e d j) (↑d:Int).toNat ((0:Nat)+(4:Nat)+nat_lit 0*1) [dI (v7 j)]∧zDh f m s d l) (zMi s e f d l))∧∀(g:Nat×Top),f g→∃(h:Nat×Top),List.map zZ (xL s h.fst h.snd)=List.map zZ (xL s g.fst g.snd)∧∃(j:Nat×Top→Prop),((gM)∧∃(k:Int),zE [[dI 1],[dI 2]] (IntKind.i64.wrap ((0:Int)+(1:Int))).toNat 0 1=some [dI k]∧∃(l:Book),s.books[(↑d:Int).toNat]?=some l∧∃(m:BkS),zD m.side=k∧z8 m.b=z8 l∧(wT m)∧∀(n:Unit),True→∃(p:Book),z8 m.b=z8 p∧(↑d:Int).toNat=(↑d:Int).toNat∧(↑d:Int).toNat<s.books.length∧cnd (zV m).snd ((qI d s h)∧(qI d s h)∧(qI d s h)∧(↑d:Int).toNat<(vQ s h).length∧(cI d s h)∧(cI d s h)∧(zV m).fst.qty=(zV m).fst.qty∧(zV m).fst.price=(zV m).fst.price∧(↑d:Int).toNat<(cQ s h d).length∧(eK d s h m)∧(zV m).fst.qty=(zV m).fst.qty∧(↑d:Int).toNat<(fT s h d m).length∧∃(q:Nat×Top),List.map zZ (xL s q.fst q.snd)=zH (fT s h d m) (↑d:Int).toNat ((0:Nat)+(4:Nat)+(nat_lit 0+nat_lit 1) % Vtopst403.natAbs*1) [dI (v7 m)]∧zDh j q s d p) (zMi s h j d p))∧∀(k:Nat×Top),j k→∃(l:Nat),(↑l:Int)=IntKind.i64.wrap ((↑d:Int)+1)∧List.map zZ (xR s l)=List.map zZ (xL s k.fst k.snd)∧b l∧c l<c d∧Sx.AObj.cells (jZ (jA 0 1 5) [sV s.p.code,V.own 3,zA s.p.tick,zA s.p.low,zA s.p.high,zA s.p.wide,zA s.p.rule,zA s.p.top,zA s.p.least,zA s.p.part,V.own 4,V.own 1,V.mp 2]) (240:TypeId)=Sx.AObj.cells (jZ (jA 0 1 5) [sV s.p.code,V.own 3,zA s.p.tick,zA s.p.low,zA s.p.high,zA s.p.wide,zA s.p.rule,zA s.p.top,zA s.p.least,zA s.p.part,V.own 4,V.own 1,V.mp 2]) (240:TypeId)∧AObj.objs 241 Book 6 zS s.books none=AObj.objs 241 Book 6 zS s.books none∧zGf s) (∃(e:Unit),sb s.p.code=sb s.p.code∧s.p.tick=s.p.tick∧s.p.low=s.p.low∧s.p.high=s.p.high∧s.p.wide=s.p.wide∧s.p.rule=s.p.rule∧s.p.top=s.p.top∧s.p.least=s.p.least∧s.p.part=s.p.part∧AObj.objs 241 Book 6 zS s.books none=AObj.objs 241 Book 6 zS s.books none∧yU s.wh=yU s.wh∧AObj.fro 1 (iE s.p.months)=AObj.fro 1 (iE s.p.months)∧AObj.fro 1 (iE s.p.settle)=AObj.fro 1 (iE s.p.settle)∧List.map zZ s.tops=List.map zZ (xR s d)∧True)
def yOe (s:MSt):Prop:=
 ∃(i:List (Value×List D)),i=yU s.wh∧True∧∀(o:Unit),True→(sb s.p.code=sb s.p.code∧True∧s.p.tick=s.p.tick∧s.p.low=s.p.low∧s.p.high=s.p.high∧s.p.wide=s.p.wide∧s.p.rule=s.p.rule∧s.p.top=s.p.top∧s.p.least=s.p.least∧s.p.part=s.p.part∧True∧True)∧∃(i0:Nat),(↑i0:Int)=0∧sb s.p.code=sb s.p.code∧s.p.tick=s.p.tick∧s.p.low=s.p.low∧s.p.high=s.p.high∧s.p.wide=s.p.wide∧s.p.rule=s.p.rule∧s.p.top=s.p.top∧s.p.least=s.p.least∧s.p.part=s.p.part∧List.take i0 s.books=[]∧(none:Option Nat)=none∧yU s.wh=i∧AObj.fro 1 (iE s.p.months)=AObj.fro 1 (iE s.p.months)∧AObj.fro 1 (iE s.p.settle)=AObj.fro 1 (iE s.p.settle)∧∃(I:Nat→Prop),∃(μ:Nat→Nat),I i0∧∀(i_1:Nat),I i_1→cnd (decide ((↑i_1:Int)<(↑s.books.length:Int))) ((0≤(↑i_1:Int)∧(↑i_1:Int)<(↑s.books.length:Int))∧(↑i_1:Int).toNat<s.books.length∧∃(x:Book),s.books[(↑i_1:Int).toNat]?=some x∧∃(i_2:Book),z8 i_2=z8 x∧((i_2.a.slots.length≤1000000∧i_2.a.queues.length≤1000000)∧i_2.buys.length≤1000000∧i_2.sells.length≤1000000∧i_2.spare.length≤1000000)∧∀(o:Unit),True→∃(x:Book),z8 i_2=z8 x∧(↑i_1:Int).toNat=(↑i_1:Int).toNat∧(↑i_1:Int).toNat<s.books.length∧True∧True∧∃(l1':List Book),AObj.objs 241 Book 6 zS (List.take i_1 s.books) none=AObj.objs 241 Book 6 zS l1' none∧(l1'.length+1)*(8:Nat)≤(140737488355328:Nat)∧∃(i':Nat),(↑i':Int)=IntKind.i64.wrap ((↑i_1:Int)+1)∧sb s.p.code=sb s.p.code∧s.p.tick=s.p.tick∧s.p.low=s.p.low∧s.p.high=s.p.high∧s.p.wide=s.p.wide∧s.p.rule=s.p.rule∧s.p.top=s.p.top∧s.p.least=s.p.least∧s.p.part=s.p.part∧AObj.objs 241 Book 6 zS (List.take i' s.books) none=AObj.objs 241 Book 6 zS (l1'++[i_2]) none∧yU s.wh=yU s.wh∧AObj.fro 1 (iE s.p.months)=AObj.fro 1 (iE s.p.months)∧AObj.fro 1 (iE s.p.settle)=AObj.fro 1 (iE s.p.settle)∧I i'∧μ i'<μ i_1∧Sx.AObj.map i=Sx.AObj.map i∧Sx.AObj.cells (jZ (jA 0 1 5) [sV s.p.code,V.own 3,zA s.p.tick,zA s.p.low,zA s.p.high,zA s.p.wide,zA s.p.rule,zA s.p.top,zA s.p.least,zA s.p.part,V.own 4,V.own 1,V.mp 2]) (240:TypeId)=Sx.AObj.cells (jZ (jA 0 1 5) [sV s.p.code,V.own 3,zA s.p.tick,zA s.p.low,zA s.p.high,zA s.p.wide,zA s.p.rule,zA s.p.top,zA s.p.least,zA s.p.part,V.own 4,V.own 1,V.mp 2]) (240:TypeId)∧AObj.objs 241 Book 6 zS (s.books.set (↑i_1:Int).toNat x) none=AObj.objs 241 Book 6 zS s.books none∧AObj.fro 1 (iE s.p.months)=AObj.fro 1 (iE s.p.months)∧AObj.fro 1 (iE s.p.settle)=AObj.fro 1 (iE s.p.settle)) (∃(o:Unit),sb s.p.code=sb s.p.code∧s.p.tick=s.p.tick∧s.p.low=s.p.low∧s.p.high=s.p.high∧s.p.wide=s.p.wide∧s.p.rule=s.p.rule∧s.p.top=s.p.top∧s.p.least=s.p.least∧s.p.part=s.p.part∧AObj.objs 241 Book 6 zS s.books none=AObj.objs 241 Book 6 zS s.books none∧yU s.wh=i∧AObj.fro 1 (iE s.p.months)=AObj.fro 1 (iE s.p.months)∧AObj.fro 1 (iE s.p.settle)=AObj.fro 1 (iE s.p.settle)∧sb s.p.code=sb s.p.code∧s.p.tick=s.p.tick∧s.p.low=s.p.low∧s.p.high=s.p.high∧s.p.wide=s.p.wide∧s.p.rule=s.p.rule∧s.p.top=s.p.top∧s.p.least=s.p.least∧s.p.part=s.p.part∧AObj.objs 241 Book 6 zS s.books none=AObj.objs 241 Book 6 zS (List.take i_1 s.books) none∧yU s.wh=yU s.wh∧AObj.fro 1 (iE s.p.months)=AObj.fro 1 (iE s.p.months)∧AObj.fro 1 (iE s.p.settle)=AObj.fro 1 (iE s.p.settle)∧True)
open Go Cv Go.Proofs
theorem elA {α:Type} {f:α→List D} {l:List α} {i g n:Nat} {x:α} {r:List D} (h:l[i]? =some x) (hn:g+n≤(f x).length) (hr:((f x).drop g).take n=r):zE (l.map f) i g n=some r:=by
 unfold zE
 rw[yXq,h]
 simp only[yYu,Nat.ble_eq_true_of_le hn,cond_true,hr]
theorem zTo {a:Arena} {n:Int} {q:dP} (h0:0≤n) (h:a.queues[n.toNat]? =some q):a.qAt n=q:=by
 have:=(yWv.1 h).1
 rw[Arena.qAt,yWt ⟨h0,by omega⟩,yXb,h];rfl
theorem zIn {a:Arena} {n:Int} (h:¬(0≤n∧n<a.queues.length)):a.qAt n=⟨0,0,0,0⟩:=by rw[Arena.qAt,yWs h]
theorem zEv:atotalC.ok Tryz.prog 228:=okw (V:=z5c) mixed gok0 1 (fun _=>[]) (fun _=>[]) [0] Tryz.func228 fun(i:ArN) _=>by
 unfold z5c gH sR kY dI
 simp only[yWu]
 refine zK (fun c=>Cv.cnd.mk (fun d=> ?_) (fun d=> ?_)) (fun c=> ?_)
 ·have d:¬i.n<(i.a.queues.length:Int):=by simpa using d
  rw[zIn (by omega)];exact kp
 ·have d:i.n<(i.a.queues.length:Int):=by simpa using d
  obtain⟨q,hq⟩:=zW (l:=i.a.queues) (i:=i.n.toNat) (by omega)
  rw[zTo (by omega) hq]
  refine⟨⟨by omega,by omega⟩,q.total,elA hq (by simp[zQ]) rfl,?_⟩;exact kp
 ·rw[zIn (by omega)];exact kp
theorem mY:acountC.ok Tryz.prog 229:=okw (V:=z4y) mixed gok0 1 (fun _=>[]) (fun _=>[]) [0] Tryz.func229 fun(i:ArN) _=>by
 unfold z4y gH sF kY dI
 simp only[yWu]
 refine zK (fun c=>Cv.cnd.mk (fun d=> ?_) (fun d=> ?_)) (fun c=> ?_)
 ·have d:¬i.n<(i.a.queues.length:Int):=by simpa using d
  rw[zIn (by omega)];exact kp
 ·have d:i.n<(i.a.queues.length:Int):=by simpa using d
  obtain⟨q,hq⟩:=zW (l:=i.a.queues) (i:=i.n.toNat) (by omega)
  rw[zTo (by omega) hq]
  refine⟨⟨by omega,by omega⟩,q.count,elA hq (by simp[zQ]) rfl,?_⟩;exact kp
 ·rw[zIn (by omega)];exact kp
theorem sJ:bisC.ok Tryz.prog 193:=okw (V:=yTz) mixed gok0 0 (fun _=>[]) (fun _=>[]) [] Tryz.func193 fun(n:Int) _=>by
 unfold yTz
 refine Cv.cnd.mk (fun c=>⟨(),?_,trivial⟩) (fun c=>⟨(),?_,trivial⟩)
 all_goals simp at c
 ·simp[c]
 ·by_cases h:n=2<;>simp[c,h]
theorem z4o:toldC.ok Tryz.prog 194:=okw (V:=yTi) mixed (gokc zEv (gokc mY gok0)) 0 (fun _=>[]) (fun _=>[]) [0] Tryz.func194 fun(i:BkR) h=>by
 refine⟨⟨i.b.a,i.r.queue⟩,?_⟩;(repeat'(first|exact rfl|exact trivial|assumption|apply And.intro|refine fun(_:Unit) (_:True)=>?_|refine Exists.intro () ?_|omega|(dsimp only;omega)))
 refine⟨⟨i.b.a,i.r.queue⟩,?_⟩;exact kp
theorem yDl:best1C.ok Tryz.prog 156:=okw (V:=yQy) mixed (gokc sJ (gokc z4o gok0)) 0 (fun _=>[]) (fun _=>[]) [0] Tryz.func156 fun(b:Book) h=>by
 have h:b.cntOk:=h
 refine⟨1,rfl,trivial,fun _ _=>Cv.cnd.mk (fun c=>absurd c (by decide)) fun _=> ?_⟩
 simp only[yWu]
 refine Cv.cnd.mk (fun c=> ?_) (fun c=> ?_)
 ·have hl:b.buys=[]:=yXs (by have:(b.buys.length:Int)=0:=(by simpa using c);omega)
  have e:b.best b.buys=(⟨0,0,0⟩,false):=by rw[hl];rfl
  rw[e];exact kp
 ·obtain⟨r,l,hl⟩:∃r l,b.buys=r::l:=by
   cases hb:b.buys with
   |nil=>rw[hb]at c;exact absurd c (by decide)
   |cons r l=>exact⟨r,l,rfl⟩
  have e:b.best b.buys=(b.told r,true):=by rw[hl];rfl
  rw[e]
  refine⟨⟨by omega,by rw[hl,yXa];omega⟩,r.price,r.queue,elA (x:=r) (by rw[hl];rfl) (by simp[zB]) rfl,⟨b,r⟩,?_⟩
  exact kp
theorem yBs:best2C.ok Tryz.prog 156:=okw (V:=yPw) mixed (gokc sJ (gokc z4o gok0)) 0 (fun _=>[]) (fun _=>[]) [0] Tryz.func156 fun(b:Book) h=>by
 have h:b.cntOk:=h
 refine⟨2,rfl,trivial,fun _ _=>Cv.cnd.mk (fun c=>absurd c (by decide)) fun _=> ?_⟩
 simp only[yWu]
 refine Cv.cnd.mk (fun c=> ?_) (fun c=> ?_)
 ·have hl:b.sells=[]:=yXs (by have:(b.sells.length:Int)=0:=(by simpa using c);omega)
  have e:b.best b.sells=(⟨0,0,0⟩,false):=by rw[hl];rfl
  rw[e];exact kp
 ·obtain⟨r,l,hl⟩:∃r l,b.sells=r::l:=by
   cases hb:b.sells with
   |nil=>rw[hb]at c;exact absurd c (by decide)
   |cons r l=>exact⟨r,l,rfl⟩
  have e:b.best b.sells=(b.told r,true):=by rw[hl];rfl
  rw[e]
  refine⟨⟨by omega,by rw[hl,yXa];omega⟩,r.price,r.queue,elA (x:=r) (by rw[hl];rfl) (by simp[zB]) rfl,⟨b,r⟩,?_⟩
  exact kp
theorem zJa:bestC.ok Tryz.prog 156:=fun i=>match i with
 |⟨false,b⟩=>yDl b
 |⟨true,b⟩=>yBs b
theorem zKv {α:Type} (f:α→α) (x:α) (b:List α):∀a:List α,(a++x::b).modify a.length f=a++f x::b
 |[]=>rfl
 |y::a=>by
  show y::(a++x::b).modify a.length f=_
  rw[zKv f x b a];rfl
theorem zPu {els:List (List D)} {a b:List (List D)} {x y ds:List D} {j f:Nat} (h:els=a++x::b) (hl:a.length=j) (hy:x.take f++(ds++x.drop (f+ds.length))=y):zH els j f ds=a++y::b:=by
 rw[zH,h,← hl,zKv,hy]
theorem qJ {s:MSt} {j:Nat} {x y:Top} {f:Nat} {ds:List D} (hj:j<s.books.length) (hy:(zZ x).take f++(ds++(zZ x).drop (f+ds.length))=zZ y):
 zH (List.map zZ (xL s j x)) j f ds=List.map zZ (xL s j y):=by
 rw[zPu (a:=(s.tops.take j).map zZ) (b:=(List.replicate (s.books.length-j-1) top0).map zZ) (by rw[xL,yXe,yXh]) (by
  rw[yWu,yXo,MSt.tops,yWu];omega) hy,xL,yXe,yXh]
theorem zKw {s:MSt} {j:Nat} {x:Top} (hj:j<s.books.length):(xL s j x).length=s.books.length:=by
 rw[xL,yWx,yXa,yXo,MSt.tops,yWu,y0a];omega
theorem zHp {s:MSt} {j:Nat} (hj:j<s.books.length):xL s j top0=xR s j:=by
 rw[xL,xR]
 obtain⟨m,hm⟩:∃m,s.books.length-j=m+1:=⟨s.books.length-j-1,by omega⟩
 rw[hm,y1g];rfl
theorem zHk {s:MSt} {j:Nat} {b:Book} (hb:s.books[j]? =some b):xL s j b.top=xR s (j+1):=by
 have hj:=(yWv.1 hb).1
 rw[xL,xR,yXx,show s.tops[j]? =some b.top by rw[MSt.tops,yXq,hb];rfl]
 simp only[yZx,yXc,yYo,yZn]
 rw[show s.books.length-j-1=s.books.length-(j+1)by omega]
theorem gP {α:Type} {l:List α} {j:Nat} {x:α} (h:l[j]? =some x):l.set j x=l:=by
 obtain⟨hj,rfl⟩:=yWv.1 h
 exact List.set_getElem_self hj
theorem ySx (s:MSt) (h:topsC.cnd s):yLv s:=by
 obtain⟨h1,h2⟩:s.cntOk:=h
 unfold yLv zMi zDh v7 qI wT gM zGf tU cT cI tM fX cL eK fT f9 zV cQ Vtopst403 vQ dI
 have p48:(2:Int) ^ (48:Nat)=281474976710656:=by decide
 refine⟨⟨by omega,by omega,by omega,by rw[p48];omega⟩,0,rfl,?_,fun j=>j≤s.books.length,fun j=>s.books.length-j,by omega,fun j hj=>zK (fun hlt=> ?_) (fun hlt=> ?_)⟩
 ·rw[xR,yXe,List.map_replicate];rfl
 ·have hj':j<s.books.length:=by omega
  obtain⟨b,hb⟩:=zW hj'
  have hc:=h2 b (yXd hb)
  simp only[yXn]
  have ha:∀x,(List.map zZ (xL s j x)).length=s.books.length:=fun x=>by rw[yWu,zKw hj']
  have w1:IntKind.i64.wrap (0+1)=1:=by decide
  have w2:(0+1) % ((2:Int) ^ IntKind.i64.bits).natAbs=1:=by decide
  refine⟨⟨by omega,by omega⟩,by omega,(j,top0),by rw[zHp hj'],fun x=>x=(j,top0.buy (b.best b.buys)),⟨⟨by decide,by decide⟩,1,rfl,b,hb,⟨false,b⟩,rfl,rfl,hc,fun _ _=>⟨b,rfl,kp,by omega,?_⟩⟩,?_⟩
  ·refine Cv.cnd.mk (fun c=> ?_) (fun c=> ?_)
   ·have c:(b.best b.buys).2=true:=c
    have e1:=qJ (s:=s) hj' (x:=top0) (y:={top0 with has1:=true}) (f:=0+0+0*1) (ds:=[D.v (.bool true)]) rfl
    have e2:=qJ (s:=s) hj' (x:={top0 with has1:=true}) (y:={top0 with has1:=true,p1:=(b.best b.buys).1.price}) (f:=0+2+0*1) (ds:=[D.v (.int .i64 (b.best b.buys).1.price)]) rfl
    have e3:=qJ (s:=s) hj' (x:={top0 with has1:=true,p1:=(b.best b.buys).1.price}) (y:={top0 with has1:=true,p1:=(b.best b.buys).1.price,q1:=(b.best b.buys).1.qty}) (f:=0+4+0*1) (ds:=[D.v (.int .i64 (b.best b.buys).1.qty)]) rfl
    dsimp only
    simp only[show b.side false=b.buys from rfl,e1,e2,e3,ha]
    (repeat'(first|exact rfl|exact trivial|assumption|apply And.intro|refine fun(_:Unit) (_:True)=>?_|refine Exists.intro () ?_|omega|(dsimp only;omega)))
    refine⟨(j,{top0 with has1:=true,p1:=(b.best b.buys).1.price,q1:=(b.best b.buys).1.qty}),rfl,?_,?_⟩
    ·rw[Top.buy,yWt c]
    ·(repeat'(first|exact rfl|exact trivial|assumption|apply And.intro|refine fun(_:Unit) (_:True)=>?_|refine Exists.intro () ?_|omega|(dsimp only;omega)))
     rw[gP hb]
   ·have c:(b.best b.buys).2=false:=c
    refine⟨(j,top0),rfl,?_,?_⟩
    ·rw[Top.buy,yWs (by rw[c];simp)]
    ·(repeat'(first|exact rfl|exact trivial|assumption|apply And.intro|refine fun(_:Unit) (_:True)=>?_|refine Exists.intro () ?_|omega|(dsimp only;omega)))
     rw[gP hb]
  ·rintro _ rfl
   rw[w1]
   generalize hx:top0.buy (b.best b.buys)=x
   have hx2:b.top=x.sell (b.best b.sells):=by rw[Book.top,hx]
   refine⟨(j,x),rfl,fun y=>y=(j,b.top),⟨⟨by decide,by decide⟩,2,rfl,b,hb,⟨true,b⟩,rfl,rfl,hc,fun _ _=>⟨b,rfl,kp,by omega,?_⟩⟩,?_⟩
   ·refine Cv.cnd.mk (fun c=> ?_) (fun c=> ?_)
    ·have c:(b.best b.sells).2=true:=c
     have e1:=qJ (s:=s) hj' (x:=x) (y:={x with has2:=true}) (f:=0+0+1*1) (ds:=[D.v (.bool true)]) rfl
     have e2:=qJ (s:=s) hj' (x:={x with has2:=true}) (y:={x with has2:=true,p2:=(b.best b.sells).1.price}) (f:=0+2+1*1) (ds:=[D.v (.int .i64 (b.best b.sells).1.price)]) rfl
     have e3:=qJ (s:=s) hj' (x:={x with has2:=true,p2:=(b.best b.sells).1.price}) (y:={x with has2:=true,p2:=(b.best b.sells).1.price,q2:=(b.best b.sells).1.qty}) (f:=0+4+1*1) (ds:=[D.v (.int .i64 (b.best b.sells).1.qty)]) rfl
     dsimp only
     simp only[w2,show b.side true=b.sells from rfl,e1,e2,e3,ha]
     (repeat'(first|exact rfl|exact trivial|assumption|apply And.intro|refine fun(_:Unit) (_:True)=>?_|refine Exists.intro () ?_|omega|(dsimp only;omega)))
     refine⟨(j,{x with has2:=true,p2:=(b.best b.sells).1.price,q2:=(b.best b.sells).1.qty}),rfl,?_,?_⟩
     ·rw[hx2,Top.sell,yWt c]
     ·(repeat'(first|exact rfl|exact trivial|assumption|apply And.intro|refine fun(_:Unit) (_:True)=>?_|refine Exists.intro () ?_|omega|(dsimp only;omega)))
      rw[gP hb]
    ·have c:(b.best b.sells).2=false:=c
     refine⟨(j,x),rfl,?_,?_⟩
     ·rw[hx2,Top.sell,yWs (by rw[c];simp)]
     ·(repeat'(first|exact rfl|exact trivial|assumption|apply And.intro|refine fun(_:Unit) (_:True)=>?_|refine Exists.intro () ?_|omega|(dsimp only;omega)))
      rw[gP hb]
   ·rintro _ rfl
    refine⟨j+1,by rw[w64 (by omega)];rfl,?_⟩
    refine⟨by dsimp only;rw[zHk hb],?_⟩
    exact kp
 ·have hj:j≤s.books.length:=hj
  obtain rfl:j=s.books.length:=by omega
  have e:xR s s.books.length=s.tops:=by
   rw[xR,y2g,List.replicate_zero,yXp,yXk (by rw[MSt.tops,yWu];omega)]
  rw[e]
  exact kp
theorem yJr:topsC.ok Tryz.prog 105:=okw mixed (gokc zJa gok0) 0 (fun s=>yLu s) (fun s=>yKo s) [0] Tryz.func105 ySx
theorem zEf:copySC.ok Tryz.prog 110:=okw (V:=yOe) mixed (gokc yHy (gokc yBr gok0)) 0 (fun _=>[]) (fun s=>yMs s) [0] Tryz.func110 fun(s:MSt) h=>by
 obtain⟨h1,h2⟩:s.small:=h
 refine⟨yU s.wh,?_⟩;(repeat'(first|exact rfl|exact trivial|assumption|apply And.intro|refine fun(_:Unit) (_:True)=>?_|refine Exists.intro () ?_|omega|(dsimp only;omega)))
 refine⟨0,?_⟩;(repeat'(first|exact rfl|exact trivial|assumption|apply And.intro|refine fun(_:Unit) (_:True)=>?_|refine Exists.intro () ?_|omega|(dsimp only;omega)))
 refine⟨fun j=>j≤s.books.length,fun j=>s.books.length-j,by omega,fun j hj=>zK (fun hlt=> ?_) (fun hlt=> ?_)⟩
 ·obtain⟨b,hb⟩:=zW (l:=s.books) (i:=j) (by omega)
  have hs:=h2 b (yXd hb)
  simp only[yXn]
  refine⟨⟨by omega,by omega⟩,by omega,b,hb,b,rfl,hs,fun _ _=>⟨b,rfl,kp,by omega,trivial,trivial,s.books.take j,rfl,?_,j+1,?_⟩⟩
  ·rw[yXo];omega
  ·rw[w64 (by omega),yXx,hb]
   (repeat'(first|exact rfl|exact trivial|assumption|apply And.intro|refine fun(_:Unit) (_:True)=>?_|refine Exists.intro () ?_|omega|(dsimp only;omega)))
   rw[gP hb]
 ·have hj:j≤s.books.length:=hj
  obtain rfl:j=s.books.length:=by omega
  rw[yXk (yYa _)]
  exact kp
open Go Cv Go.Proofs
structure Leg where
 inst:Int
 side:Int
 deriving DecidableEq
structure Quote where
 price:Int
 qty:Int
 a:Leg
 b:Leg
 deriving DecidableEq
def zL (q:Quote):List D:=[.v (.int .i64 q.price),.v (.int .i64 q.qty),.v (.int .i64 q.a.inst),.v (.int .i64 q.a.side),.v (.int .i64 q.b.inst),.v (.int .i64 q.b.side)]
@[reducible] def zRw (q:Quote):V:= .agg [zA q.price,zA q.qty,zA q.a.inst,zA q.a.side,zA q.b.inst,zA q.b.side]
def yQi:Quote:=⟨0,0,⟨0,0⟩,⟨0,0⟩⟩
structure I3' where
 side:Int
 x:Int
 y:Int
def btr (side x y:Int):Bool:=if side=1 then decide (y<x)else decide (x<y)
def iotherC:Con:=con1 Int (fun n=>[zA n]) (fun _=>[]) (fun n=>n=1∨n=2) (fun n=>zA (3-n)) (fun _=>[])
def ibetterC:Con:=con1 I3' (fun i=>[zA i.side,zA i.x,zA i.y]) (fun _=>[]) (fun _=>True) (fun i=>z7 (btr i.side i.x i.y)) (fun _=>[])
def Top.has (t:Top) (s:Int):Bool:=if s=1 then t.has1 else t.has2
def Top.price (t:Top) (s:Int):Int:=if s=1 then t.p1 else t.p2
def Top.qty (t:Top) (s:Int):Int:=if s=1 then t.q1 else t.q2
def mkq (tops:List Top) (a b:Leg) (less:Bool):List Quote:=
 let x:=tops.getD a.inst.toNat top0
 let y:=tops.getD b.inst.toNat top0
 let r:=if less then uN (y.price b.side) (x.price a.side)else uM (x.price a.side) (y.price b.side)
 if x.has a.side && y.has b.side && r.2 then[⟨r.1,min (x.qty a.side) (y.qty b.side),a,b⟩]else[]
structure MkI where
 tops:List Top
 out:List Quote
 a:Int
 b:Int
 less:Bool
@[reducible] def wV (l:List Top):Prop:=l.length≤1000000∧∀t∈l,i64r t.p1∧i64r t.p2
def MkU (x:List Top×List Quote):Nat→AObj
 |0=> .cells [.own 1,.own 2] 307
 |1=> .fro 6 (x.1.map zZ)
 |2=> .own 259 6 (x.2.map zL)
 |_=> .gone
@[reducible] def MkR (tops:List Top) (out:List Quote):List AObj:=[MkU (tops,out) 0,MkU (tops,out) 1,MkU (tops,out) 2]
@[reducible] def MkP (tops:List Top) (out:List Quote):List AObj:=[.cells [.own 1,.own 3] 307,MkU (tops,out) 1,.gone,MkU (tops,out) 2]
def mkC (sa sb:Int):Con:=con1 MkI (fun i=>[.nm 0 0,.agg [zA i.a,zA sa],.agg [zA i.b,zA sb],z7 i.less]) (fun i=>MkR i.tops i.out)
 (fun i=>0≤i.a∧i.a<i.tops.length∧0≤i.b∧i.b<i.tops.length∧wV i.tops∧i.out.length≤1000) (fun _=>zLc) (fun i=>MkP i.tops (i.out++mkq i.tops ⟨i.a,sa⟩ ⟨i.b,sb⟩ i.less))
def mk11:Con:=mkC 1 1
def mk12:Con:=mkC 1 2
def mk21:Con:=mkC 2 1
def mk22:Con:=mkC 2 2
open Go Cv Go.Proofs
def yIt (n:Int):Prop:=
 ∃(o:Unit),3-n=IntKind.i64.wrap (3-n)∧True
def yAo (i:I3'):Prop:=
 cnd (i.side==1) (∃(o:Unit),btr i.side i.x i.y=decide (i.x>i.y)∧True) (∃(o:Unit),btr i.side i.x i.y=decide (i.x<i.y)∧True)
def tY (a:MkI):=(a.out++mkq a.tops (Leg.mk a.a 1) (Leg.mk a.b 1) a.less)
def mQ (a:MkI):Prop:=∃(b:Unit),AObj.fro 6 (List.map zZ a.tops)=MkU (a.tops,a.out) 1∧List.map zL (tY a)=List.map zL a.out∧True
def kO (a:I2):Prop:=((-9223372036854775808)≤a.x∧a.x≤9223372036854775807)∧(-9223372036854775808)≤a.y∧a.y≤9223372036854775807
def qD (a:MkI):=(↑(List.map zZ a.tops).length:Int)
def xV (a:MkI):Prop:=(0≤a.b∧a.b<(qD a))∧a.b.toNat=a.b.toNat
def kL (a:MkI):Prop:=(0≤a.a∧a.a<(qD a))∧a.a.toNat=a.a.toNat
def kP (a:MkI):=((List.map zL a.out).length+1)
def zMa (a:MkI) (b:Bool) (c:Bool) (d:Int) (e:Int) (f:Int) (g:Int):Prop:=True∧(xV a)∧a.b=a.b∧True∧True∧(kL a)∧a.a=a.a∧True∧True∧(xV a)∧a.b=a.b∧True∧True∧(kL a)∧a.a=a.a∧True∧True∧(xV a)∧a.b=a.b∧True∧cnd (!b) (mQ a) (cnd (!c) (mQ a) (∃(h:I2),h.x=d∧h.y=e∧(kO h)∧∀(j:Unit),True→cnd a.less (∃(k:I2),k.x=e∧k.y=d∧(kO k)∧∀(l:Unit),True→cnd (uN k.x k.y).snd (True∧(kP a)*(48:Nat)≤(140737488355328:Nat)∧∃(m:Unit),AObj.fro 6 (List.map zZ a.tops)=MkU (a.tops,a.out) 1∧List.map zL (tY a)=List.map zL a.out++[[dI ((uN k.x k.y).fst),dI (min f g),dI a.a,dI 1,dI a.b,dI 1]]∧True) (mQ a)) (cnd (uM h.x h.y).snd (True∧(kP a)*(48:Nat)≤(140737488355328:Nat)∧∃(k:Unit),AObj.fro 6 (List.map zZ a.tops)=MkU (a.tops,a.out) 1∧List.map zL (tY a)=List.map zL a.out++[[dI ((uM h.x h.y).fst),dI (min f g),dI a.a,dI 1,dI a.b,dI 1]]∧True) (mQ a))))
def yLr (i:MkI):Prop:=
 (0≤i.a∧i.a<(qD i))∧∃(a:Bool),∃(b:Bool),∃(c:Int),∃(d:Int),∃(e:Int),∃(f:Int),zE (List.map zZ i.tops) i.a.toNat 0 6=some [D.v (.bool a),D.v (.bool b),dI c,dI d,dI e,dI f]∧(0≤i.b∧i.b<(qD i))∧∃(g:Bool),∃(h:Bool),∃(j:Int),∃(k:Int),∃(l:Int),∃(m:Int),zE (List.map zZ i.tops) i.b.toNat 0 6=some [D.v (.bool g),D.v (.bool h),dI j,dI k,dI l,dI m]∧(zMa i a g c j e l)∧zMa i a g c j e l
def tW (a:MkI):=(a.out++mkq a.tops (Leg.mk a.a 1) (Leg.mk a.b 2) a.less)
def mH (a:MkI):Prop:=∃(b:Unit),AObj.fro 6 (List.map zZ a.tops)=MkU (a.tops,a.out) 1∧List.map zL (tW a)=List.map zL a.out∧True
def zNb (a:MkI) (b:Bool) (c:Bool) (d:Int) (e:Int) (f:Int) (g:Int):Prop:=True∧(xV a)∧a.b=a.b∧True∧True∧(kL a)∧a.a=a.a∧True∧True∧(xV a)∧a.b=a.b∧True∧True∧(kL a)∧a.a=a.a∧True∧True∧(xV a)∧a.b=a.b∧True∧cnd (!b) (mH a) (cnd (!c) (mH a) (∃(h:I2),h.x=d∧h.y=e∧(kO h)∧∀(j:Unit),True→cnd a.less (∃(k:I2),k.x=e∧k.y=d∧(kO k)∧∀(l:Unit),True→cnd (uN k.x k.y).snd (True∧(kP a)*(48:Nat)≤(140737488355328:Nat)∧∃(m:Unit),AObj.fro 6 (List.map zZ a.tops)=MkU (a.tops,a.out) 1∧List.map zL (tW a)=List.map zL a.out++[[dI ((uN k.x k.y).fst),dI (min f g),dI a.a,dI 1,dI a.b,dI 2]]∧True) (mH a)) (cnd (uM h.x h.y).snd (True∧(kP a)*(48:Nat)≤(140737488355328:Nat)∧∃(k:Unit),AObj.fro 6 (List.map zZ a.tops)=MkU (a.tops,a.out) 1∧List.map zL (tW a)=List.map zL a.out++[[dI ((uM h.x h.y).fst),dI (min f g),dI a.a,dI 1,dI a.b,dI 2]]∧True) (mH a))))
def yKf (i:MkI):Prop:=
 (0≤i.a∧i.a<(qD i))∧∃(a:Bool),∃(b:Bool),∃(c:Int),∃(d:Int),∃(e:Int),∃(f:Int),zE (List.map zZ i.tops) i.a.toNat 0 6=some [D.v (.bool a),D.v (.bool b),dI c,dI d,dI e,dI f]∧(0≤i.b∧i.b<(qD i))∧∃(g:Bool),∃(h:Bool),∃(j:Int),∃(k:Int),∃(l:Int),∃(m:Int),zE (List.map zZ i.tops) i.b.toNat 0 6=some [D.v (.bool g),D.v (.bool h),dI j,dI k,dI l,dI m]∧(zNb i a h c k e m)∧zNb i a h c k e m
def eN (a:MkI):=(a.out++mkq a.tops (Leg.mk a.a 2) (Leg.mk a.b 1) a.less)
def a9 (a:MkI):Prop:=∃(b:Unit),AObj.fro 6 (List.map zZ a.tops)=MkU (a.tops,a.out) 1∧List.map zL (eN a)=List.map zL a.out∧True
def zJg (a:MkI) (b:Bool) (c:Bool) (d:Int) (e:Int) (f:Int) (g:Int):Prop:=True∧(xV a)∧a.b=a.b∧True∧True∧(kL a)∧a.a=a.a∧True∧True∧(xV a)∧a.b=a.b∧True∧True∧(kL a)∧a.a=a.a∧True∧True∧(xV a)∧a.b=a.b∧True∧cnd (!b) (a9 a) (cnd (!c) (a9 a) (∃(h:I2),h.x=d∧h.y=e∧(kO h)∧∀(j:Unit),True→cnd a.less (∃(k:I2),k.x=e∧k.y=d∧(kO k)∧∀(l:Unit),True→cnd (uN k.x k.y).snd (True∧(kP a)*(48:Nat)≤(140737488355328:Nat)∧∃(m:Unit),AObj.fro 6 (List.map zZ a.tops)=MkU (a.tops,a.out) 1∧List.map zL (eN a)=List.map zL a.out++[[dI ((uN k.x k.y).fst),dI (min f g),dI a.a,dI 2,dI a.b,dI 1]]∧True) (a9 a)) (cnd (uM h.x h.y).snd (True∧(kP a)*(48:Nat)≤(140737488355328:Nat)∧∃(k:Unit),AObj.fro 6 (List.map zZ a.tops)=MkU (a.tops,a.out) 1∧List.map zL (eN a)=List.map zL a.out++[[dI ((uM h.x h.y).fst),dI (min f g),dI a.a,dI 2,dI a.b,dI 1]]∧True) (a9 a))))
def yKd (i:MkI):Prop:=
 (0≤i.a∧i.a<(qD i))∧∃(a:Bool),∃(b:Bool),∃(c:Int),∃(d:Int),∃(e:Int),∃(f:Int),zE (List.map zZ i.tops) i.a.toNat 0 6=some [D.v (.bool a),D.v (.bool b),dI c,dI d,dI e,dI f]∧(0≤i.b∧i.b<(qD i))∧∃(g:Bool),∃(h:Bool),∃(j:Int),∃(k:Int),∃(l:Int),∃(m:Int),zE (List.map zZ i.tops) i.b.toNat 0 6=some [D.v (.bool g),D.v (.bool h),dI j,dI k,dI l,dI m]∧(zJg i b g d j f l)∧zJg i b g d j f l
def eW (a:MkI):=(a.out++mkq a.tops (Leg.mk a.a 2) (Leg.mk a.b 2) a.less)
def mL (a:MkI):Prop:=∃(b:Unit),AObj.fro 6 (List.map zZ a.tops)=MkU (a.tops,a.out) 1∧List.map zL (eW a)=List.map zL a.out∧True
def zKx (a:MkI) (b:Bool) (c:Bool) (d:Int) (e:Int) (f:Int) (g:Int):Prop:=True∧(xV a)∧a.b=a.b∧True∧True∧(kL a)∧a.a=a.a∧True∧True∧(xV a)∧a.b=a.b∧True∧True∧(kL a)∧a.a=a.a∧True∧True∧(xV a)∧a.b=a.b∧True∧cnd (!b) (mL a) (cnd (!c) (mL a) (∃(h:I2),h.x=d∧h.y=e∧(kO h)∧∀(j:Unit),True→cnd a.less (∃(k:I2),k.x=e∧k.y=d∧(kO k)∧∀(l:Unit),True→cnd (uN k.x k.y).snd (True∧(kP a)*(48:Nat)≤(140737488355328:Nat)∧∃(m:Unit),AObj.fro 6 (List.map zZ a.tops)=MkU (a.tops,a.out) 1∧List.map zL (eW a)=List.map zL a.out++[[dI ((uN k.x k.y).fst),dI (min f g),dI a.a,dI 2,dI a.b,dI 2]]∧True) (mL a)) (cnd (uM h.x h.y).snd (True∧(kP a)*(48:Nat)≤(140737488355328:Nat)∧∃(k:Unit),AObj.fro 6 (List.map zZ a.tops)=MkU (a.tops,a.out) 1∧List.map zL (eW a)=List.map zL a.out++[[dI ((uM h.x h.y).fst),dI (min f g),dI a.a,dI 2,dI a.b,dI 2]]∧True) (mL a))))
def yKn (i:MkI):Prop:=
 (0≤i.a∧i.a<(qD i))∧∃(a:Bool),∃(b:Bool),∃(c:Int),∃(d:Int),∃(e:Int),∃(f:Int),zE (List.map zZ i.tops) i.a.toNat 0 6=some [D.v (.bool a),D.v (.bool b),dI c,dI d,dI e,dI f]∧(0≤i.b∧i.b<(qD i))∧∃(g:Bool),∃(h:Bool),∃(j:Int),∃(k:Int),∃(l:Int),∃(m:Int),zE (List.map zZ i.tops) i.b.toNat 0 6=some [D.v (.bool g),D.v (.bool h),dI j,dI k,dI l,dI m]∧(zKx i b h d k f m)∧zKx i b h d k f m
open Go Cv Go.Proofs
theorem zOm:iotherC.ok Tryz.prog 197:=okw (V:=yIt) mixed gok0 0 (fun _=>[]) (fun _=>[]) [] Tryz.func197 fun(n:Int) h=>by
 have h:n=1∨n=2:=h
 refine⟨(),?_,trivial⟩
 rw[w64 (by omega)]
theorem z0r:ibetterC.ok Tryz.prog 195:=okw (V:=yAo) mixed gok0 0 (fun _=>[]) (fun _=>[]) [] Tryz.func195 fun(i:I3') _=>by
 refine Cv.cnd.mk (fun e=>⟨(),?_,trivial⟩) (fun e=>⟨(),?_,trivial⟩)
 ·have e:i.side=1:=by simpa using e
  simp[btr,e]
 ·have e:i.side≠1:=by simpa using e
  simp[btr,e]
theorem yId (a b:Int):(if b<a then b else a)=min a b:=by split<;>omega
theorem ySg (i:MkI) (h:mk11.cnd i):yLr i:=by
 obtain⟨a0,a1,b0,b1,⟨ht,hp⟩,ho⟩:0≤i.a∧i.a<i.tops.length∧0≤i.b∧i.b<i.tops.length∧wV i.tops∧i.out.length≤1000:=h
 obtain⟨x,hx⟩:=zW (l:=i.tops) (i:=i.a.toNat) (by omega)
 obtain⟨y,hy⟩:=zW (l:=i.tops) (i:=i.b.toNat) (by omega)
 obtain⟨⟨px1,px2⟩,px3,px4⟩:=hp x (yXd hx)
 obtain⟨⟨py1,py2⟩,py3,py4⟩:=hp y (yXd hy)
 have e0:mkq i.tops ⟨i.a,1⟩ ⟨i.b,1⟩ i.less=if x.has1 && y.has1 && (if i.less then uN y.p1 x.p1 else uM x.p1 y.p1).2 then[⟨(if i.less then uN y.p1 x.p1 else uM x.p1 y.p1).1,min x.q1 y.q1,⟨i.a,1⟩,⟨i.b,1⟩⟩]else[]:=by
  simp only[mkq,yXb,hx,hy,yZb];rfl
 unfold yLr zMa kP kL xV kO mQ tY qD dI
 simp only[yWu]
 refine⟨⟨by omega,by omega⟩,x.has1,x.has2,x.p1,x.p2,x.q1,x.q2,elA hx (by simp[zZ]) rfl,⟨by omega,by omega⟩,y.has1,y.has2,y.p1,y.p2,y.q1,y.q2,elA hy (by simp[zZ]) rfl,?_⟩
 rw[e0]
 (repeat'(first|exact rfl|exact trivial|assumption|apply And.intro|refine fun(_:Unit) (_:True)=>?_|refine Exists.intro () ?_|omega|(dsimp only;omega)))
 all_goals
  refine Cv.cnd.mk (fun c1=> ?_) (fun c1=>Cv.cnd.mk (fun c2=> ?_) (fun c2=> ?_))
  ·have c1:x.has1=false:=by simpa using c1
   simp only[c1,y0g,yXm,if_false,yXp];exact kp
  ·have c2:y.has1=false:=by simpa using c2
   simp only[c2,y1z,y0g,yXm,if_false,yXp];exact kp
  ·have c1:x.has1=true:=by simpa using c1
   have c2:y.has1=true:=by simpa using c2
   simp only[c1,c2,yYx,yId]
   refine⟨⟨x.p1,y.p1⟩,?_⟩
   (repeat'(first|exact rfl|exact trivial|assumption|apply And.intro|refine fun(_:Unit) (_:True)=>?_|refine Exists.intro () ?_|omega|(dsimp only;omega)))
   refine Cv.cnd.mk (fun c3=> ?_) (fun c3=> ?_)
   ·have c3:i.less=true:=c3
    simp only[c3,if_true]
    refine⟨⟨y.p1,x.p1⟩,?_⟩
    (repeat'(first|exact rfl|exact trivial|assumption|apply And.intro|refine fun(_:Unit) (_:True)=>?_|refine Exists.intro () ?_|omega|(dsimp only;omega)))
    refine Cv.cnd.mk (fun c4=> ?_) (fun c4=> ?_)
    ·have c4:(uN y.p1 x.p1).2=true:=c4
     simp only[c4,if_true,yXe];exact kp
    ·have c4:(uN y.p1 x.p1).2=false:=c4
     simp only[c4,yXm,if_false,yXp];exact kp
   ·have c3:i.less=false:=c3
    simp only[c3,yXm,if_false]
    refine Cv.cnd.mk (fun c4=> ?_) (fun c4=> ?_)
    ·have c4:(uM x.p1 y.p1).2=true:=c4
     simp only[c4,if_true,yXe];exact kp
    ·have c4:(uM x.p1 y.p1).2=false:=c4
     simp only[c4,yXm,if_false,yXp];exact kp
theorem yIy:mk11.ok Tryz.prog 198:=okw mixed (gokc zTt (gokc zRm gok0)) 0 (fun _=>[]) (fun _=>[]) [] Tryz.func198 ySg
theorem yTn (i:MkI) (h:mk12.cnd i):yKf i:=by
 obtain⟨a0,a1,b0,b1,⟨ht,hp⟩,ho⟩:0≤i.a∧i.a<i.tops.length∧0≤i.b∧i.b<i.tops.length∧wV i.tops∧i.out.length≤1000:=h
 obtain⟨x,hx⟩:=zW (l:=i.tops) (i:=i.a.toNat) (by omega)
 obtain⟨y,hy⟩:=zW (l:=i.tops) (i:=i.b.toNat) (by omega)
 obtain⟨⟨px1,px2⟩,px3,px4⟩:=hp x (yXd hx)
 obtain⟨⟨py1,py2⟩,py3,py4⟩:=hp y (yXd hy)
 have e0:mkq i.tops ⟨i.a,1⟩ ⟨i.b,2⟩ i.less=if x.has1 && y.has2 && (if i.less then uN y.p2 x.p1 else uM x.p1 y.p2).2 then[⟨(if i.less then uN y.p2 x.p1 else uM x.p1 y.p2).1,min x.q1 y.q2,⟨i.a,1⟩,⟨i.b,2⟩⟩]else[]:=by
  simp only[mkq,yXb,hx,hy,yZb];rfl
 unfold yKf zNb mH tW kP kL xV kO qD dI
 simp only[yWu]
 refine⟨⟨by omega,by omega⟩,x.has1,x.has2,x.p1,x.p2,x.q1,x.q2,elA hx (by simp[zZ]) rfl,⟨by omega,by omega⟩,y.has1,y.has2,y.p1,y.p2,y.q1,y.q2,elA hy (by simp[zZ]) rfl,?_⟩
 rw[e0]
 (repeat'(first|exact rfl|exact trivial|assumption|apply And.intro|refine fun(_:Unit) (_:True)=>?_|refine Exists.intro () ?_|omega|(dsimp only;omega)))
 all_goals
  refine Cv.cnd.mk (fun c1=> ?_) (fun c1=>Cv.cnd.mk (fun c2=> ?_) (fun c2=> ?_))
  ·have c1:x.has1=false:=by simpa using c1
   simp only[c1,y0g,yXm,if_false,yXp];exact kp
  ·have c2:y.has2=false:=by simpa using c2
   simp only[c2,y1z,y0g,yXm,if_false,yXp];exact kp
  ·have c1:x.has1=true:=by simpa using c1
   have c2:y.has2=true:=by simpa using c2
   simp only[c1,c2,yYx,yId]
   refine⟨⟨x.p1,y.p2⟩,?_⟩
   (repeat'(first|exact rfl|exact trivial|assumption|apply And.intro|refine fun(_:Unit) (_:True)=>?_|refine Exists.intro () ?_|omega|(dsimp only;omega)))
   refine Cv.cnd.mk (fun c3=> ?_) (fun c3=> ?_)
   ·have c3:i.less=true:=c3
    simp only[c3,if_true]
    refine⟨⟨y.p2,x.p1⟩,?_⟩
    (repeat'(first|exact rfl|exact trivial|assumption|apply And.intro|refine fun(_:Unit) (_:True)=>?_|refine Exists.intro () ?_|omega|(dsimp only;omega)))
    refine Cv.cnd.mk (fun c4=> ?_) (fun c4=> ?_)
    ·have c4:(uN y.p2 x.p1).2=true:=c4
     simp only[c4,if_true,yXe];exact kp
    ·have c4:(uN y.p2 x.p1).2=false:=c4
     simp only[c4,yXm,if_false,yXp];exact kp
   ·have c3:i.less=false:=c3
    simp only[c3,yXm,if_false]
    refine Cv.cnd.mk (fun c4=> ?_) (fun c4=> ?_)
    ·have c4:(uM x.p1 y.p2).2=true:=c4
     simp only[c4,if_true,yXe];exact kp
    ·have c4:(uM x.p1 y.p2).2=false:=c4
     simp only[c4,yXm,if_false,yXp];exact kp
theorem yGm:mk12.ok Tryz.prog 198:=okw mixed (gokc zTt (gokc zRm gok0)) 0 (fun _=>[]) (fun _=>[]) [] Tryz.func198 yTn
theorem yTm (i:MkI) (h:mk21.cnd i):yKd i:=by
 obtain⟨a0,a1,b0,b1,⟨ht,hp⟩,ho⟩:0≤i.a∧i.a<i.tops.length∧0≤i.b∧i.b<i.tops.length∧wV i.tops∧i.out.length≤1000:=h
 obtain⟨x,hx⟩:=zW (l:=i.tops) (i:=i.a.toNat) (by omega)
 obtain⟨y,hy⟩:=zW (l:=i.tops) (i:=i.b.toNat) (by omega)
 obtain⟨⟨px1,px2⟩,px3,px4⟩:=hp x (yXd hx)
 obtain⟨⟨py1,py2⟩,py3,py4⟩:=hp y (yXd hy)
 have e0:mkq i.tops ⟨i.a,2⟩ ⟨i.b,1⟩ i.less=if x.has2 && y.has1 && (if i.less then uN y.p1 x.p2 else uM x.p2 y.p1).2 then[⟨(if i.less then uN y.p1 x.p2 else uM x.p2 y.p1).1,min x.q2 y.q1,⟨i.a,2⟩,⟨i.b,1⟩⟩]else[]:=by
  simp only[mkq,yXb,hx,hy,yZb];rfl
 unfold yKd zJg a9 eN kP kL xV kO qD dI
 simp only[yWu]
 refine⟨⟨by omega,by omega⟩,x.has1,x.has2,x.p1,x.p2,x.q1,x.q2,elA hx (by simp[zZ]) rfl,⟨by omega,by omega⟩,y.has1,y.has2,y.p1,y.p2,y.q1,y.q2,elA hy (by simp[zZ]) rfl,?_⟩
 rw[e0]
 (repeat'(first|exact rfl|exact trivial|assumption|apply And.intro|refine fun(_:Unit) (_:True)=>?_|refine Exists.intro () ?_|omega|(dsimp only;omega)))
 all_goals
  refine Cv.cnd.mk (fun c1=> ?_) (fun c1=>Cv.cnd.mk (fun c2=> ?_) (fun c2=> ?_))
  ·have c1:x.has2=false:=by simpa using c1
   simp only[c1,y0g,yXm,if_false,yXp];exact kp
  ·have c2:y.has1=false:=by simpa using c2
   simp only[c2,y1z,y0g,yXm,if_false,yXp];exact kp
  ·have c1:x.has2=true:=by simpa using c1
   have c2:y.has1=true:=by simpa using c2
   simp only[c1,c2,yYx,yId]
   refine⟨⟨x.p2,y.p1⟩,?_⟩
   (repeat'(first|exact rfl|exact trivial|assumption|apply And.intro|refine fun(_:Unit) (_:True)=>?_|refine Exists.intro () ?_|omega|(dsimp only;omega)))
   refine Cv.cnd.mk (fun c3=> ?_) (fun c3=> ?_)
   ·have c3:i.less=true:=c3
    simp only[c3,if_true]
    refine⟨⟨y.p1,x.p2⟩,?_⟩
    (repeat'(first|exact rfl|exact trivial|assumption|apply And.intro|refine fun(_:Unit) (_:True)=>?_|refine Exists.intro () ?_|omega|(dsimp only;omega)))
    refine Cv.cnd.mk (fun c4=> ?_) (fun c4=> ?_)
    ·have c4:(uN y.p1 x.p2).2=true:=c4
     simp only[c4,if_true,yXe];exact kp
    ·have c4:(uN y.p1 x.p2).2=false:=c4
     simp only[c4,yXm,if_false,yXp];exact kp
   ·have c3:i.less=false:=c3
    simp only[c3,yXm,if_false]
    refine Cv.cnd.mk (fun c4=> ?_) (fun c4=> ?_)
    ·have c4:(uM x.p2 y.p1).2=true:=c4
     simp only[c4,if_true,yXe];exact kp
    ·have c4:(uM x.p2 y.p1).2=false:=c4
     simp only[c4,yXm,if_false,yXp];exact kp
theorem yIk:mk21.ok Tryz.prog 198:=okw mixed (gokc zTt (gokc zRm gok0)) 0 (fun _=>[]) (fun _=>[]) [] Tryz.func198 yTm
theorem yRs (i:MkI) (h:mk22.cnd i):yKn i:=by
 obtain⟨a0,a1,b0,b1,⟨ht,hp⟩,ho⟩:0≤i.a∧i.a<i.tops.length∧0≤i.b∧i.b<i.tops.length∧wV i.tops∧i.out.length≤1000:=h
 obtain⟨x,hx⟩:=zW (l:=i.tops) (i:=i.a.toNat) (by omega)
 obtain⟨y,hy⟩:=zW (l:=i.tops) (i:=i.b.toNat) (by omega)
 obtain⟨⟨px1,px2⟩,px3,px4⟩:=hp x (yXd hx)
 obtain⟨⟨py1,py2⟩,py3,py4⟩:=hp y (yXd hy)
 have e0:mkq i.tops ⟨i.a,2⟩ ⟨i.b,2⟩ i.less=if x.has2 && y.has2 && (if i.less then uN y.p2 x.p2 else uM x.p2 y.p2).2 then[⟨(if i.less then uN y.p2 x.p2 else uM x.p2 y.p2).1,min x.q2 y.q2,⟨i.a,2⟩,⟨i.b,2⟩⟩]else[]:=by
  simp only[mkq,yXb,hx,hy,yZb];rfl
 unfold yKn zKx mL eW kP kL xV kO qD dI
 simp only[yWu]
 refine⟨⟨by omega,by omega⟩,x.has1,x.has2,x.p1,x.p2,x.q1,x.q2,elA hx (by simp[zZ]) rfl,⟨by omega,by omega⟩,y.has1,y.has2,y.p1,y.p2,y.q1,y.q2,elA hy (by simp[zZ]) rfl,?_⟩
 rw[e0]
 (repeat'(first|exact rfl|exact trivial|assumption|apply And.intro|refine fun(_:Unit) (_:True)=>?_|refine Exists.intro () ?_|omega|(dsimp only;omega)))
 all_goals
  refine Cv.cnd.mk (fun c1=> ?_) (fun c1=>Cv.cnd.mk (fun c2=> ?_) (fun c2=> ?_))
  ·have c1:x.has2=false:=by simpa using c1
   simp only[c1,y0g,yXm,if_false,yXp];exact kp
  ·have c2:y.has2=false:=by simpa using c2
   simp only[c2,y1z,y0g,yXm,if_false,yXp];exact kp
  ·have c1:x.has2=true:=by simpa using c1
   have c2:y.has2=true:=by simpa using c2
   simp only[c1,c2,yYx,yId]
   refine⟨⟨x.p2,y.p2⟩,?_⟩
   (repeat'(first|exact rfl|exact trivial|assumption|apply And.intro|refine fun(_:Unit) (_:True)=>?_|refine Exists.intro () ?_|omega|(dsimp only;omega)))
   refine Cv.cnd.mk (fun c3=> ?_) (fun c3=> ?_)
   ·have c3:i.less=true:=c3
    simp only[c3,if_true]
    refine⟨⟨y.p2,x.p2⟩,?_⟩
    (repeat'(first|exact rfl|exact trivial|assumption|apply And.intro|refine fun(_:Unit) (_:True)=>?_|refine Exists.intro () ?_|omega|(dsimp only;omega)))
    refine Cv.cnd.mk (fun c4=> ?_) (fun c4=> ?_)
    ·have c4:(uN y.p2 x.p2).2=true:=c4
     simp only[c4,if_true,yXe];exact kp
    ·have c4:(uN y.p2 x.p2).2=false:=c4
     simp only[c4,yXm,if_false,yXp];exact kp
   ·have c3:i.less=false:=c3
    simp only[c3,yXm,if_false]
    refine Cv.cnd.mk (fun c4=> ?_) (fun c4=> ?_)
    ·have c4:(uM x.p2 y.p2).2=true:=c4
     simp only[c4,if_true,yXe];exact kp
    ·have c4:(uM x.p2 y.p2).2=false:=c4
     simp only[c4,yXm,if_false,yXp];exact kp
theorem yHq:mk22.ok Tryz.prog 198:=okw mixed (gokc zTt (gokc zRm gok0)) 0 (fun _=>[]) (fun _=>[]) [] Tryz.func198 yRs
open Go Cv Go.Proofs
structure MkJ where
 i:MkI
 sa:Bool
 sb:Bool
def mkAnyC:Con:=con1 MkJ (fun j=>[.nm 0 0,.agg [zA j.i.a,zA (zD j.sa)],.agg [zA j.i.b,zA (zD j.sb)],z7 j.i.less]) (fun j=>MkR j.i.tops j.i.out)
 (fun j=>0≤j.i.a∧j.i.a<j.i.tops.length∧0≤j.i.b∧j.i.b<j.i.tops.length∧wV j.i.tops∧j.i.out.length≤1000) (fun _=>zLc) (fun j=>MkP j.i.tops (j.i.out++mkq j.i.tops ⟨j.i.a,zD j.sa⟩ ⟨j.i.b,zD j.sb⟩ j.i.less))
theorem zVw:mkAnyC.ok Tryz.prog 198:=fun j=>match j with
 |⟨i,false,false⟩=>yIy i
 |⟨i,false,true⟩=>yGm i
 |⟨i,true,false⟩=>yIk i
 |⟨i,true,true⟩=>yHq i
structure fU where
 p:Prd
 tops:List Top
 inst:Int
def kH (i:fU) (s:Int) (k:Nat):List Quote:=(List.range k).flatMap fun(k:Nat)=>mkq i.tops ⟨(i.p.spread i.inst (i.inst+1+k)).1,s⟩ ⟨i.inst+1+k,s⟩ false
def jN (i:fU) (s:Int) (k:Nat):List Quote:=(List.range k).flatMap fun(k:Nat)=>mkq i.tops ⟨(i.p.spread k i.inst).1,3-s⟩ ⟨k,s⟩ true
def yP (i:fU) (s:Int):List Quote:=mkq i.tops ⟨(i.p.legs i.inst).2.1,3-s⟩ ⟨(i.p.legs i.inst).1,s⟩ true
def dW (i:fU) (s:Int) (q:Quote):Quote:={q with a:=⟨(i.p.legs i.inst).1,s⟩,b:=⟨(i.p.legs i.inst).2.1,3-s⟩}
def qU (i:fU) (s:Int):List Quote:=
 if i.p.count=0∨(i.tops.length:Int)≠i.p.count∨i.inst<0∨(i.p.count:Int)≤i.inst then[]
 else if(i.p.legs i.inst).2.2 then(yP i s).map (dW i s)
 else kH i s (i.p.months.length-(i.inst.toNat+1))++jN i s i.inst.toNat
def yKh (s:Int):Con:=con1 fU (fun i=>[prdV i.p,roV 6 (i.tops.map zZ),zA i.inst,zA s]) (fun _=>[]) (fun i=>i.p.small∧wV i.tops) (fun _=> .own 0) (fun i=>[.own 259 6 ((qU i s).map zL)])
def all1C:Con:=yKh 1
def all2C:Con:=yKh 2
def ySy (i:fU) (s:Int):List SAnn:=[
 {ι:=Nat,slots:=fun k=>[(10,.nm 0 0),(77,zA k)],rows:=fun k=>(List.range 3).map (MkU (i.tops,((yP i s).take k).map (dW i s)++(yP i s).drop k))},
 {ι:=Nat,slots:=fun k=>[(10,.nm 0 0),(17,zA (i.inst+1+k))],rows:=fun k=>MkR i.tops (kH i s k)},
 {ι:=Nat,slots:=fun k=>[(10,.nm 0 0),(120,zA k)],rows:=fun k=>MkR i.tops (kH i s (i.p.months.length-(i.inst.toNat+1))++jN i s k)}]
structure sU where
 i:fU
 s:Bool
def allC:Con:=con1 sU (fun j=>[prdV j.i.p,roV 6 (j.i.tops.map zZ),zA j.i.inst,zA (zD j.s)]) (fun _=>[]) (fun j=>j.i.p.small∧wV j.i.tops) (fun _=> .own 0) (fun j=>[.own 259 6 ((qU j.i (zD j.s)).map zL)])
def xO (i:fU) (s:Int):List Quote:=(qU i s).filter fun q=>decide (i.p.price i.inst q.price=0)
def quotesC:Con:=con1 sU (fun j=>[prdV j.i.p,roV 6 (j.i.tops.map zZ),zA j.i.inst,zA (zD j.s)]) (fun _=>[]) (fun j=>j.i.p.small∧wV j.i.tops) (fun _=> .own 0) (fun j=>[.own 259 6 ((xO j.i (zD j.s)).map zL)])
def yHt (j:sU):List SAnn:=[{ι:=Nat,slots:=fun k=>[(9,.own 0),(18,zA k)],rows:=fun k=>[.own 259 6 ((((qU j.i (zD j.s)).take k).filter fun q=>decide (j.i.p.price j.i.inst q.price=0)).map zL)]}]
structure BsI where
 l:List Quote
 s:Int
def zU (l:List Quote) (s:Int):Quote×Bool:=match l with
 |[]=>(yQi,false)
 |q::r=>(r.foldl (fun b q=>if btr s q.price b.price then q else b) q,true)
def bestQC:Con:=con1 BsI (fun i=>[roV 6 (i.l.map zL),zA i.s]) (fun _=>[]) (fun i=>(i.s=1∨i.s=2)∧i.l.length≤1000000) (fun i=> .tup [zRw (zU i.l i.s).1,z7 (zU i.l i.s).2]) (fun _=>[])
def yMo (i:BsI):List SAnn:=[{ι:=Nat,slots:=fun k=>[(6,.nm 0 0),(26,zA k)],rows:=fun k=>[.cells (zRw (zU (i.l.take (max k 1)) i.s).1).cl 259]}]
open Go Cv Go.Proofs
def mA (a:fU):Prop:=AObj.fro 6 (List.map zZ a.tops)=AObj.fro 6 (List.map zZ a.tops)∧Sx.AObj.cells [V.d (D.v (Value.string (sb a.p.code))),V.own 0,V.d (dI a.p.tick),V.d (dI a.p.low),V.d (dI a.p.high),V.d (dI a.p.wide),V.d (dI a.p.rule),V.d (dI a.p.top),V.d (dI a.p.least),V.d (dI a.p.part),V.own ((0:Nat)+(1:Nat))] 25=Sx.AObj.cells [V.d (D.v (Value.string (sb a.p.code))),V.own 0,V.d (dI a.p.tick),V.d (dI a.p.low),V.d (dI a.p.high),V.d (dI a.p.wide),V.d (dI a.p.rule),V.d (dI a.p.top),V.d (dI a.p.least),V.d (dI a.p.part),V.own ((0:Nat)+(1:Nat))] 25∧AObj.fro 1 (iE a.p.settle)=AObj.fro 1 (iE a.p.settle)∧AObj.fro 1 (iE a.p.months)=AObj.fro 1 (iE a.p.months)
def zCq (a:Nat→Prop) (b:Nat) (c:Nat→Nat) (d:Nat) (e:fU):Prop:=a b∧c b<c d∧AObj.fro 6 (List.map zZ e.tops)=AObj.fro 6 (List.map zZ e.tops)∧mA e
def zEe (a:Nat→Prop) (b:Nat) (c:Nat→Nat) (d:Nat) (e:fU):Prop:=a b∧c b<c d∧mA e
def gA (a:Top):Prop:=((-9223372036854775808)≤a.p1∧a.p1≤9223372036854775807)∧(-9223372036854775808)≤a.p2∧a.p2≤9223372036854775807
def h9 (a:MkJ):Prop:=0≤a.i.a∧a.i.a<(↑a.i.tops.length:Int)∧0≤a.i.b∧a.i.b<(↑a.i.tops.length:Int)∧(a.i.tops.length≤1000000∧∀(b:Top),b∈a.i.tops→gA b)∧a.i.out.length≤1000
def vP (a:MkJ):=(a.i.out++mkq a.i.tops (Leg.mk a.i.a (zD a.sa)) (Leg.mk a.i.b (zD a.sb)) a.i.less)
def eD (a:Nat) (b:MkJ):=(decide ((↑a:Int)<(↑(List.map zL (vP b)).length:Int)))
def xU (a:rR):Prop:=a.p.code.length≤1099511627776∧a.p.months.length≤1099511627776∧a.p.settle.length≤1099511627776
def kM (a:dR):Prop:=a.p.code.length≤1099511627776∧a.p.months.length≤1099511627776∧a.p.settle.length≤1099511627776
def mG (a:fU) (b:Nat):=(List.map (dW a 1) (List.take b (yP a 1))++List.drop b (yP a 1))
def eB (a:fU) (b:Nat):=(List.map zL (mG a b))
def mX (a:fU) (b:Nat):=(kH a 1 (a.p.months.length-(a.inst.toNat+1))++jN a 1 b)
def wO (a:dR):=((a.p.legs a.n).snd.fst)
def yKv (i:fU):Prop:=
 ∃(a:Prd),sb a.code=sb i.p.code∧iE a.months=iE i.p.months∧a.tick=i.p.tick∧a.low=i.p.low∧a.high=i.p.high∧a.wide=i.p.wide∧a.rule=i.p.rule∧a.top=i.p.top∧a.least=i.p.least∧a.part=i.p.part∧iE a.settle=iE i.p.settle∧(zY a)∧∀(b:Unit),True→cnd ((↑a.count:Int)==0) (∃(c:Unit),List.map zL (qU i 1)=[]∧True) (cnd ((↑(List.map zZ i.tops).length:Int) !=(↑a.count:Int)) (∃(c:Unit),List.map zL (qU i 1)=[]∧True) (cnd (decide (i.inst<0)) (∃(c:Unit),List.map zL (qU i 1)=[]∧True) (cnd (decide (i.inst≥(↑a.count:Int))) (∃(c:Unit),List.map zL (qU i 1)=[]∧True) (∃(c:dR),sb c.p.code=sb i.p.code∧iE c.p.months=iE i.p.months∧c.p.tick=i.p.tick∧c.p.low=i.p.low∧c.p.high=i.p.high∧c.p.wide=i.p.wide∧c.p.rule=i.p.rule∧c.p.top=i.p.top∧c.p.least=i.p.least∧c.p.part=i.p.part∧iE c.p.settle=iE i.p.settle∧c.n=i.inst∧(kM c)∧∀(d:Unit),True→cnd (c.p.legs c.n).snd.snd (∃(e:Int),e=1∧(e=1∨e=2)∧∀(f:Unit),True→∃(g:MkJ),g.i.a=(c.p.legs c.n).snd.fst∧zD g.sa=3-e∧g.i.b=(c.p.legs c.n).fst∧zD g.sb=1∧g.i.less=true∧AObj.fro 6 (List.map zZ g.i.tops)=AObj.fro 6 (List.map zZ i.tops)∧List.map zL g.i.out=[]∧(h9 g)∧∀(h:Unit),True→∃(j:Nat),(↑j:Int)=0∧AObj.fro 6 (List.map zZ i.tops)=AObj.fro 6 (List.map zZ g.i.tops)∧List.map zL (mG i j)=List.map zL (vP g)∧∃(k:Nat→Prop),∃(l:Nat→Nat),k j∧∀(m:Nat),k m→cnd (eD m g) ((0≤(↑m:Int)∧(↑m:Int)<(↑(eB i m).length:Int))∧(↑m:Int).toNat<(eB i m).length∧∃(n:Nat),(↑n:Int)=IntKind.i64.wrap ((↑m:Int)+1)∧AObj.fro 6 (List.map zZ i.tops)=AObj.fro 6 (List.map zZ i.tops)∧List.map zL (mG i n)=zH (eB i m) (↑m:Int).toNat ((0:Nat)+(2:Nat)) [dI ((c.p.legs c.n).fst),dI 1,dI (wO c),dI (3-e)]∧k n∧l n<l m∧AObj.fro 6 (List.map zZ g.i.tops)=AObj.fro 6 (List.map zZ g.i.tops)∧Sx.AObj.cells [V.d (dI (wO c)),V.d (dI (3-e))] 256=Sx.AObj.cells [V.d (dI (wO c)),V.d (dI (3-e))] 256∧Sx.AObj.cells [V.d (dI ((c.p.legs c.n).fst)),V.d (dI 1)] 256=Sx.AObj.cells [V.d (dI ((c.p.legs c.n).fst)),V.d (dI 1)] 256∧mA i) (∃(n:Unit),List.map zL (qU i 1)=List.map zL (mG i m)∧True)) (∃(e:Nat),i.inst+1+(↑e:Int)=IntKind.i64.wrap (i.inst+1)∧AObj.fro 6 (List.map zZ i.tops)=AObj.fro 6 (List.map zZ i.tops)∧List.map zL (kH i 1 e)=[]∧∃(f:Nat→Prop),∃(g:Nat→Nat),f e∧∀(h:Nat),f h→cnd (decide (i.inst+1+(↑h:Int)<(↑(iE i.p.months).length:Int))) (∃(j:rR),sb j.p.code=sb i.p.code∧iE j.p.months=iE i.p.months∧j.p.tick=i.p.tick∧j.p.low=i.p.low∧j.p.high=i.p.high∧j.p.wide=i.p.wide∧j.p.rule=i.p.rule∧j.p.top=i.p.top∧j.p.least=i.p.least∧j.p.part=i.p.part∧iE j.p.settle=iE i.p.settle∧j.a=i.inst∧j.b=i.inst+1+(↑h:Int)∧(xU j)∧∀(k:Unit),True→∃(l:MkJ),l.i.a=(j.p.spread j.a j.b).fst∧zD l.sa=1∧l.i.b=i.inst+1+(↑h:Int)∧zD l.sb=1∧l.i.less=false∧AObj.fro 6 (List.map zZ l.i.tops)=AObj.fro 6 (List.map zZ i.tops)∧List.map zL l.i.out=List.map zL (kH i 1 h)∧(h9 l)∧∀(m:Unit),True→∃(n:Nat),i.inst+1+(↑n:Int)=IntKind.i64.wrap (i.inst+1+(↑h:Int)+1)∧AObj.fro 6 (List.map zZ i.tops)=AObj.fro 6 (List.map zZ l.i.tops)∧List.map zL (kH i 1 n)=List.map zL (vP l)∧zEe f n g h i) (∃(j:Nat),(↑j:Int)=0∧AObj.fro 6 (List.map zZ i.tops)=AObj.fro 6 (List.map zZ i.tops)∧List.map zL (mX i j)=List.map zL (kH i 1 h)∧∃(k:Nat→Prop),∃(l:Nat→Nat),k j∧∀(m:Nat),k m→cnd (decide ((↑m:Int)<i.inst)) (∃(n:rR),sb n.p.code=sb i.p.code∧iE n.p.months=iE i.p.months∧n.p.tick=i.p.tick∧n.p.low=i.p.low∧n.p.high=i.p.high∧n.p.wide=i.p.wide∧n.p.rule=i.p.rule∧n.p.top=i.p.top∧n.p.least=i.p.least∧n.p.part=i.p.part∧iE n.p.settle=iE i.p.settle∧n.a=(↑m:Int)∧n.b=i.inst∧(xU n)∧∀(p:Unit),True→∃(q:Int),q=1∧(q=1∨q=2)∧∀(r:Unit),True→∃(s:MkJ),s.i.a=(n.p.spread n.a n.b).fst∧zD s.sa=3-q∧s.i.b=(↑m:Int)∧zD s.sb=1∧s.i.less=true∧AObj.fro 6 (List.map zZ s.i.tops)=AObj.fro 6 (List.map zZ i.tops)∧List.map zL s.i.out=List.map zL (mX i m)∧(h9 s)∧∀(t:Unit),True→∃(u:Nat),(↑u:Int)=IntKind.i64.wrap ((↑m:Int)+1)∧AObj.fro 6 (List.map zZ i.tops)=AObj.fro 6 (List.map zZ s.i.tops)∧List.map zL (mX i u)=List.map zL (vP s)∧zCq k u l m i) (∃(n:Unit),List.map zL (qU i 1)=List.map zL (mX i m)∧True)))))))
def m7 (a:fU) (b:Nat):=(List.map (dW a 2) (List.take b (yP a 2))++List.drop b (yP a 2))
def tT (a:fU) (b:Nat):=(List.map zL (m7 a b))
def a6 (a:fU) (b:Nat):=(kH a 2 (a.p.months.length-(a.inst.toNat+1))++jN a 2 b)
def yLz (i:fU):Prop:=
 ∃(a:Prd),sb a.code=sb i.p.code∧iE a.months=iE i.p.months∧a.tick=i.p.tick∧a.low=i.p.low∧a.high=i.p.high∧a.wide=i.p.wide∧a.rule=i.p.rule∧a.top=i.p.top∧a.least=i.p.least∧a.part=i.p.part∧iE a.settle=iE i.p.settle∧(zY a)∧∀(b:Unit),True→cnd ((↑a.count:Int)==0) (∃(c:Unit),List.map zL (qU i 2)=[]∧True) (cnd ((↑(List.map zZ i.tops).length:Int) !=(↑a.count:Int)) (∃(c:Unit),List.map zL (qU i 2)=[]∧True) (cnd (decide (i.inst<0)) (∃(c:Unit),List.map zL (qU i 2)=[]∧True) (cnd (decide (i.inst≥(↑a.count:Int))) (∃(c:Unit),List.map zL (qU i 2)=[]∧True) (∃(c:dR),sb c.p.code=sb i.p.code∧iE c.p.months=iE i.p.months∧c.p.tick=i.p.tick∧c.p.low=i.p.low∧c.p.high=i.p.high∧c.p.wide=i.p.wide∧c.p.rule=i.p.rule∧c.p.top=i.p.top∧c.p.least=i.p.least∧c.p.part=i.p.part∧iE c.p.settle=iE i.p.settle∧c.n=i.inst∧(kM c)∧∀(d:Unit),True→cnd (c.p.legs c.n).snd.snd (∃(e:Int),e=2∧(e=1∨e=2)∧∀(f:Unit),True→∃(g:MkJ),g.i.a=(c.p.legs c.n).snd.fst∧zD g.sa=3-e∧g.i.b=(c.p.legs c.n).fst∧zD g.sb=2∧g.i.less=true∧AObj.fro 6 (List.map zZ g.i.tops)=AObj.fro 6 (List.map zZ i.tops)∧List.map zL g.i.out=[]∧(h9 g)∧∀(h:Unit),True→∃(j:Nat),(↑j:Int)=0∧AObj.fro 6 (List.map zZ i.tops)=AObj.fro 6 (List.map zZ g.i.tops)∧List.map zL (m7 i j)=List.map zL (vP g)∧∃(k:Nat→Prop),∃(l:Nat→Nat),k j∧∀(m:Nat),k m→cnd (eD m g) ((0≤(↑m:Int)∧(↑m:Int)<(↑(tT i m).length:Int))∧(↑m:Int).toNat<(tT i m).length∧∃(n:Nat),(↑n:Int)=IntKind.i64.wrap ((↑m:Int)+1)∧AObj.fro 6 (List.map zZ i.tops)=AObj.fro 6 (List.map zZ i.tops)∧List.map zL (m7 i n)=zH (tT i m) (↑m:Int).toNat ((0:Nat)+(2:Nat)) [dI ((c.p.legs c.n).fst),dI 2,dI (wO c),dI (3-e)]∧k n∧l n<l m∧AObj.fro 6 (List.map zZ g.i.tops)=AObj.fro 6 (List.map zZ g.i.tops)∧Sx.AObj.cells [V.d (dI (wO c)),V.d (dI (3-e))] 256=Sx.AObj.cells [V.d (dI (wO c)),V.d (dI (3-e))] 256∧Sx.AObj.cells [V.d (dI ((c.p.legs c.n).fst)),V.d (dI 2)] 256=Sx.AObj.cells [V.d (dI ((c.p.legs c.n).fst)),V.d (dI 2)] 256∧mA i) (∃(n:Unit),List.map zL (qU i 2)=List.map zL (m7 i m)∧True)) (∃(e:Nat),i.inst+1+(↑e:Int)=IntKind.i64.wrap (i.inst+1)∧AObj.fro 6 (List.map zZ i.tops)=AObj.fro 6 (List.map zZ i.tops)∧List.map zL (kH i 2 e)=[]∧∃(f:Nat→Prop),∃(g:Nat→Nat),f e∧∀(h:Nat),f h→cnd (decide (i.inst+1+(↑h:Int)<(↑(iE i.p.months).length:Int))) (∃(j:rR),sb j.p.code=sb i.p.code∧iE j.p.months=iE i.p.months∧j.p.tick=i.p.tick∧j.p.low=i.p.low∧j.p.high=i.p.high∧j.p.wide=i.p.wide∧j.p.rule=i.p.rule∧j.p.top=i.p.top∧j.p.least=i.p.least∧j.p.part=i.p.part∧iE j.p.settle=iE i.p.settle∧j.a=i.inst∧j.b=i.inst+1+(↑h:Int)∧(xU j)∧∀(k:Unit),True→∃(l:MkJ),l.i.a=(j.p.spread j.a j.b).fst∧zD l.sa=2∧l.i.b=i.inst+1+(↑h:Int)∧zD l.sb=2∧l.i.less=false∧AObj.fro 6 (List.map zZ l.i.tops)=AObj.fro 6 (List.map zZ i.tops)∧List.map zL l.i.out=List.map zL (kH i 2 h)∧(h9 l)∧∀(m:Unit),True→∃(n:Nat),i.inst+1+(↑n:Int)=IntKind.i64.wrap (i.inst+1+(↑h:Int)+1)∧AObj.fro 6 (List.map zZ i.tops)=AObj.fro 6 (List.map zZ l.i.tops)∧List.map zL (kH i 2 n)=List.map zL (vP l)∧zEe f n g h i) (∃(j:Nat),(↑j:Int)=0∧AObj.fro 6 (List.map zZ i.tops)=AObj.fro 6 (List.map zZ i.tops)∧List.map zL (a6 i j)=List.map zL (kH i 2 h)∧∃(k:Nat→Prop),∃(l:Nat→Nat),k j∧∀(m:Nat),k m→cnd (decide ((↑m:Int)<i.inst)) (∃(n:rR),sb n.p.code=sb i.p.code∧iE n.p.months=iE i.p.months∧n.p.tick=i.p.tick∧n.p.low=i.p.low∧n.p.high=i.p.high∧n.p.wide=i.p.wide∧n.p.rule=i.p.rule∧n.p.top=i.p.top∧n.p.least=i.p.least∧n.p.part=i.p.part∧iE n.p.settle=iE i.p.settle∧n.a=(↑m:Int)∧n.b=i.inst∧(xU n)∧∀(p:Unit),True→∃(q:Int),q=2∧(q=1∨q=2)∧∀(r:Unit),True→∃(s:MkJ),s.i.a=(n.p.spread n.a n.b).fst∧zD s.sa=3-q∧s.i.b=(↑m:Int)∧zD s.sb=2∧s.i.less=true∧AObj.fro 6 (List.map zZ s.i.tops)=AObj.fro 6 (List.map zZ i.tops)∧List.map zL s.i.out=List.map zL (a6 i m)∧(h9 s)∧∀(t:Unit),True→∃(u:Nat),(↑u:Int)=IntKind.i64.wrap ((↑m:Int)+1)∧AObj.fro 6 (List.map zZ i.tops)=AObj.fro 6 (List.map zZ s.i.tops)∧List.map zL (a6 i u)=List.map zL (vP s)∧zCq k u l m i) (∃(n:Unit),List.map zL (qU i 2)=List.map zL (a6 i m)∧True)))))))
def kT (a:sU):=(List.map zL (qU a.i (zD a.s)))
def zBb (a:Nat→Prop) (b:Nat) (c:Nat→Nat) (d:Nat) (e:sU) (f:sU):Prop:=a b∧c b<c d∧AObj.own 259 6 (kT e)=AObj.own 259 6 (kT e)∧Sx.AObj.cells [V.d (D.v (Value.string (sb f.i.p.code))),V.own 0,V.d (dI f.i.p.tick),V.d (dI f.i.p.low),V.d (dI f.i.p.high),V.d (dI f.i.p.wide),V.d (dI f.i.p.rule),V.d (dI f.i.p.top),V.d (dI f.i.p.least),V.d (dI f.i.p.part),V.own ((0:Nat)+(1:Nat))] 25=Sx.AObj.cells [V.d (D.v (Value.string (sb f.i.p.code))),V.own 0,V.d (dI f.i.p.tick),V.d (dI f.i.p.low),V.d (dI f.i.p.high),V.d (dI f.i.p.wide),V.d (dI f.i.p.rule),V.d (dI f.i.p.top),V.d (dI f.i.p.least),V.d (dI f.i.p.part),V.own ((0:Nat)+(1:Nat))] 25∧AObj.fro 1 (iE f.i.p.settle)=AObj.fro 1 (iE f.i.p.settle)∧AObj.fro 1 (iE f.i.p.months)=AObj.fro 1 (iE f.i.p.months)
def qT (a:sU):Prop:=(a.i.p.code.length≤1099511627776∧a.i.p.months.length≤1099511627776∧a.i.p.settle.length≤1099511627776)∧a.i.tops.length≤1000000∧∀(b:Top),b∈a.i.tops→gA b
def gL (a:sU):=(↑(kT a).length:Int)
def z2w (j:sU):Prop:=
 ∃(a:sU),sb a.i.p.code=sb j.i.p.code∧iE a.i.p.months=iE j.i.p.months∧a.i.p.tick=j.i.p.tick∧a.i.p.low=j.i.p.low∧a.i.p.high=j.i.p.high∧a.i.p.wide=j.i.p.wide∧a.i.p.rule=j.i.p.rule∧a.i.p.top=j.i.p.top∧a.i.p.least=j.i.p.least∧a.i.p.part=j.i.p.part∧iE a.i.p.settle=iE j.i.p.settle∧List.map zZ a.i.tops=List.map zZ j.i.tops∧a.i.inst=j.i.inst∧zD a.s=zD j.s∧(qT a)∧∀(b:Unit),True→∃(c:Nat),(↑c:Int)=0∧List.map zL (List.filter (fun(q:Sx.Quote) ↦ decide (j.i.p.price j.i.inst q.price=0)) (List.take c (qU j.i (zD j.s))))=[]∧∃(d:Nat→Prop),∃(e:Nat→Nat),d c∧∀(f:Nat),d f→cnd (decide ((↑f:Int)<(gL a))) ((0≤(↑f:Int)∧(↑f:Int)<(gL a))∧∃(g:Int),∃(h:Int),∃(k:Int),∃(l:Int),∃(m:Int),∃(n:Int),zE (kT a) (↑f:Int).toNat 0 6=some [dI g,dI h,dI k,dI l,dI m,dI n]∧∃(p:rR),sb p.p.code=sb j.i.p.code∧iE p.p.months=iE j.i.p.months∧p.p.tick=j.i.p.tick∧p.p.low=j.i.p.low∧p.p.high=j.i.p.high∧p.p.wide=j.i.p.wide∧p.p.rule=j.i.p.rule∧p.p.top=j.i.p.top∧p.p.least=j.i.p.least∧p.p.part=j.i.p.part∧iE p.p.settle=iE j.i.p.settle∧p.a=j.i.inst∧p.b=g∧(xU p)∧∀(q:Unit),True→cnd (p.p.price p.a p.b==0) (((List.map zL (List.filter (fun(q:Sx.Quote) ↦ decide (j.i.p.price j.i.inst q.price=0)) (List.take f (qU j.i (zD j.s))))).length+1)*(48:Nat)≤(140737488355328:Nat)∧∃(r:Nat),(↑r:Int)=IntKind.i64.wrap ((↑f:Int)+1)∧List.map zL (List.filter (fun(q:Sx.Quote) ↦ decide (j.i.p.price j.i.inst q.price=0)) (List.take r (qU j.i (zD j.s))))=List.map zL (List.filter (fun(q:Sx.Quote) ↦ decide (j.i.p.price j.i.inst q.price=0)) (List.take f (qU j.i (zD j.s))))++[[dI g,dI h,dI k,dI l,dI m,dI n]]∧zBb d r e f a j) (∃(r:Nat),(↑r:Int)=IntKind.i64.wrap ((↑f:Int)+1)∧List.map zL (List.filter (fun(q:Sx.Quote) ↦ decide (j.i.p.price j.i.inst q.price=0)) (List.take r (qU j.i (zD j.s))))=List.map zL (List.filter (fun(q:Sx.Quote) ↦ decide (j.i.p.price j.i.inst q.price=0)) (List.take f (qU j.i (zD j.s))))∧zBb d r e f a j)) (∃(g:Unit),List.map zL (xO j.i (zD j.s))=List.map zL (List.filter (fun(q:Sx.Quote) ↦ decide (j.i.p.price j.i.inst q.price=0)) (List.take f (qU j.i (zD j.s))))∧True)
def zAw (a:Nat→Prop) (b:Nat) (c:Nat→Nat) (d:Nat):Prop:=a b∧c b<c d∧Sx.AObj.cells (Sx.V.agg [V.d (dI 0),V.d (dI 0),V.d (dI 0),V.d (dI 0),V.d (dI 0),V.d (dI 0)]).cl 259=Sx.AObj.cells (Sx.V.agg [V.d (dI 0),V.d (dI 0),V.d (dI 0),V.d (dI 0),V.d (dI 0),V.d (dI 0)]).cl 259
def yC (a:Nat) (b:BsI):=(zU (List.take (max a 1) b.l) b.s)
def vM (a:BsI):=(↑(List.map zL a.l).length:Int)
def zEn (a:BsI):Prop:=((0:Int)≤(0:Int)∧0<(vM a))∧∃(b:Int),∃(c:Int),∃(d:Int),∃(e:Int),∃(f:Int),∃(g:Int),zE (List.map zL a.l) (Int.toNat 0) 0 6=some [dI b,dI c,dI d,dI e,dI f,dI g]∧∃(h:Nat),(↑h:Int)=0∧(yC h a).fst.price=b∧(yC h a).fst.qty=c∧(yC h a).fst.a.inst=d∧(yC h a).fst.a.side=e∧(yC h a).fst.b.inst=f∧(yC h a).fst.b.side=g∧∃(j:Nat→Prop),∃(k:Nat→Nat),j h∧∀(l:Nat),j l→cnd (decide ((↑l:Int)<(vM a))) ((0≤(↑l:Int)∧(↑l:Int)<(vM a))∧∃(m:Int),∃(n:Int),∃(p:Int),∃(q:Int),∃(r:Int),∃(s:Int),zE (List.map zL a.l) (↑l:Int).toNat 0 6=some [dI m,dI n,dI p,dI q,dI r,dI s]∧∃(t:I3'),t.side=a.s∧t.x=m∧t.y=(yC l a).fst.price∧True∧∀(u:Unit),True→cnd (btr t.side t.x t.y) (∃(v:Nat),(↑v:Int)=IntKind.i64.wrap ((↑l:Int)+1)∧(yC v a).fst.price=m∧(yC v a).fst.qty=n∧(yC v a).fst.a.inst=p∧(yC v a).fst.a.side=q∧(yC v a).fst.b.inst=r∧(yC v a).fst.b.side=s∧zAw j v k l) (∃(v:Nat),(↑v:Int)=IntKind.i64.wrap ((↑l:Int)+1)∧(yC v a).fst.price=(yC l a).fst.price∧(yC v a).fst.qty=(yC l a).fst.qty∧(yC v a).fst.a.inst=(yC l a).fst.a.inst∧(yC v a).fst.a.side=(yC l a).fst.a.side∧(yC v a).fst.b.inst=(yC l a).fst.b.inst∧(yC v a).fst.b.side=(yC l a).fst.b.side∧zAw j v k l)) (∃(m:Unit),(zU a.l a.s).fst.price=(yC l a).fst.price∧(zU a.l a.s).fst.qty=(yC l a).fst.qty∧(zU a.l a.s).fst.a.inst=(yC l a).fst.a.inst∧(zU a.l a.s).fst.a.side=(yC l a).fst.a.side∧(zU a.l a.s).fst.b.inst=(yC l a).fst.b.inst∧(zU a.l a.s).fst.b.side=(yC l a).fst.b.side∧(zU a.l a.s).snd=true∧True)
def zAb (a:BsI):Prop:=∃(b:Unit),(zU a.l a.s).fst.price=0∧(zU a.l a.s).fst.qty=0∧(zU a.l a.s).fst.a.inst=0∧(zU a.l a.s).fst.a.side=0∧(zU a.l a.s).fst.b.inst=0∧(zU a.l a.s).fst.b.side=0∧(zU a.l a.s).snd=false∧True
def yFj (i:BsI):Prop:=
 cnd ((vM i)==0) (zAb i) (cnd (i.s !=1) (cnd (i.s !=2) (zAb i) (zEn i)) (zEn i))
end Sx
