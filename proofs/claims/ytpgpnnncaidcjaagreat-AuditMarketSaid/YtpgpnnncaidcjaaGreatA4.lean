/- Texts of ours, one behind the other: a walk that the kernel reckons, and contracts of functions. No condition. -/
import Derived.Test.YtpgpnnncaidcjaaGreatRows
import Derived.Test.YtpgpnnncaidcjaaGreatA3
namespace Sx
set_option linter.unusedVariables false
open Go Cv Go.Proofs
theorem kp {P:Prop} (h:P:=by(repeat'(first|exact rfl|exact trivial|assumption|apply And.intro|refine fun(_:Unit) (_:True)=>?_|refine Exists.intro () ?_|omega|(dsimp only;omega)))):P:=h
theorem mixed:Tryz.prog.follows .mixedOrders=true:=by kernel_rfl
theorem okw {P:Program} {f:FuncId} {fn:Func} {C:Con} {G:List (Nat×Con)} {V:C.ι→Prop} (hm:P.follows .mixedOrders=true) (hG:GOk P G) (d:Nat) (J:C.ι→List (Nat×SAnn)) (an:C.ι→List SAnn) (op:List Nat) (hf:P.funcs[f]? =some fn) (h:∀i,C.cnd i→V i) (hb:fn.body=some (fn.body.getD .skip):=by kernel_rfl) (hbd:uB P f=true:=by kernel_rfl) (hok:okC fn.ntmps (fn.body.getD .skip)=true:=by kernel_rfl) (hsz:∀i,Nat.ble (C.pat i).length fn.ntmps=true:=by intro _;kernel_rfl) (e:∀i,V i=walk P G d (J i) (an i) op fn (fn.body.getD .skip) (C.pat i) (C.pre i) (C.alts i):=by intro _;kernel_rfl):C.ok P f:=zAd hm G hG d J an op hf hb hbd hok hsz fun i hc=>Eq.mp (e i) (h i hc)
structure Lv where
 price:Int
 qty:Int
 count:Int
def lvV (l:Lv):V:= .agg [zA l.price,zA l.qty,zA l.count]
open Go Cv Go.Proofs
def sb (l:List UInt8):ByteArray:=⟨l.toArray⟩
@[reducible] def sV (l:List UInt8):V:= .d (.v (.string (sb l)))
def zJc (l:List UInt8):Nat×Nat:=Utf8.decode (sb l) 0
def eF:Nat→Nat→List UInt8→List (Nat×Nat)
 |0,_,_=>[]
 |k+1,p,l=>match l with
  |[]=>[]
  |_=>(p,(zJc l).1)::eF k (p+(zJc l).2) (l.drop (zJc l).2)
def gH (s:List UInt8) (p:Nat):List (Nat×Nat):=eF (s.length-p) p (s.drop p)
def kX (s:List UInt8):List Nat:=(gH s 0).map (·.2)
def countC:Con:=con1 (List UInt8) (fun s=>[sV s]) (fun _=>[]) (fun s=>s.length≤1099511627776) (fun s=>zA (kX s).length) (fun _=>[])
def yNi (s:List UInt8):List SAnn:=[{ι:=Nat×Nat,slots:=fun x=>[(3,zA x.2),(5,.nm 0 0)],rows:=fun x=>[.iter (sb s) x.1]}]
def u7 (r:Nat):Bool:=(decide (65≤r) && decide (r≤90))||(decide (913≤r) && decide (r≤937) && decide (r≠930))
def jY (s:List UInt8):Bool:=(kX s).all u7 && decide (s≠[]) && decide ((kX s).length≤4)
def symC:Con:=con1 (List UInt8) (fun s=>[sV s]) (fun _=>[]) (fun s=>s.length≤1099511627776) (fun s=>yP (jY s)) (fun _=>[])
def ySc (s:List UInt8):List SAnn:=[{ι:=Nat,slots:=fun x=>[(7,.nm 0 0)],rows:=fun x=>[.iter (sb s) x]}]
def iE (l:List Int):List (List D):=l.map fun n=>[.v (.int .i64 n)]
@[reducible] def iV (l:List Int):V:=roV 1 (iE l)
structure Prd where
 code:List UInt8
 months:List Int
 tick:Int
 low:Int
 high:Int
 wide:Int
 rule:Int
 top:Int
 least:Int
 part:Int
 settle:List Int
 deriving DecidableEq
@[reducible] def Prd.cells (p:Prd):List V:=[sV p.code,iV p.months,zA p.tick,zA p.low,zA p.high,zA p.wide,zA p.rule,zA p.top,zA p.least,zA p.part,iV p.settle]
@[reducible] def prdV (p:Prd):V:= .agg p.cells
@[reducible] def Prd.small (p:Prd):Prop:=p.code.length≤1099511627776∧p.months.length≤1099511627776∧p.settle.length≤1099511627776
def qU (l:List Int) (k:Nat):Bool:=decide (0≤l.getD k 0) && decide (l.getD k 0≤1199) && (decide (k=0)||decide (l.getD (k-1) 0<l.getD k 0))
def xJ (l:List Int):Bool:=(List.range l.length).all (qU l) && decide (2≤l.length) && decide (l.length≤6)
def monthsC:Con:=con1 (List Int) (fun l=>[iV l]) (fun _=>[]) (fun l=>l.length≤1099511627776) (fun l=>yP (xJ l)) (fun _=>[])
def yEx:List SAnn:=[{ι:=Nat,slots:=fun j=>[(7,zA j)],rows:=fun _=>[]}]
def pK (l:List Int):Int:=l.tail.foldl min (l.headD 0)
def rE (l:List Int):Int:=l.tail.foldl max (l.headD 0)
def minC:Con:=con1 (List Int) (fun l=>[iV l]) (fun _=>[]) (fun l=>0<l.length∧l.length≤1099511627776) (fun l=>zA (pK l)) (fun _=>[])
def maxC:Con:=con1 (List Int) (fun l=>[iV l]) (fun _=>[]) (fun l=>0<l.length∧l.length≤1099511627776) (fun l=>zA (rE l)) (fun _=>[])
def yRj (l:List Int):List SAnn:=[{ι:=Nat,slots:=fun j=>[(3,zA (pK (l.take j))),(4,zA j)],rows:=fun _=>[]}]
def ySd (l:List Int):List SAnn:=[{ι:=Nat,slots:=fun j=>[(3,zA (rE (l.take j))),(4,zA j)],rows:=fun _=>[]}]
set_option maxRecDepth 100000
open Go Cv Go.Proofs
@[reducible] def dI (n:Int):D:= .v (.int .i64 n)
def dN (a:Nat×Nat) (b:List UInt8) (c:Nat×Nat→Prop) (d:Nat×Nat→Nat):Prop:=∃(e:Nat×Nat),(↑e.snd:Int)=IntKind.i64.wrap ((↑a.snd:Int)+1)∧sb b=sb b∧e.fst=a.fst+(Utf8.decode (sb b) a.fst).snd∧c e∧d e<d a∧True
def z7m (s:List UInt8):Prop:=
 ∃(a:Nat×Nat),(↑a.snd:Int)=0∧sb s=sb s∧a.fst=0∧∃(b:Nat×Nat→Prop),∃(c:Nat×Nat→Nat),b a∧∀(d:Nat×Nat),b d→cnd (d.fst.blt (sb s).size) (dN d s b c) (∃(e:Unit),(↑(kX s).length:Int)=(↑d.snd:Int)∧True)
def zCu (a:List UInt8) (b:Nat) (c:Nat→Prop) (d:Nat→Nat):Prop:=∃(e:Nat),sb a=sb a∧e=b+(Utf8.decode (sb a) b).snd∧c e∧d e<d b∧True
def fD (a:List UInt8) (b:Nat):=(↑(Utf8.decode (sb a) b).fst:Int)
def yPg (s:List UInt8):Prop:=
 ∃(a:Nat),sb s=sb s∧a=0∧∃(b:Nat→Prop),∃(c:Nat→Nat),b a∧∀(d:Nat),b d→cnd (d.blt (sb s).size) (cnd (decide ((fD s d)≥65)) (cnd (decide ((fD s d)≤90)) (zCu s d b c) (cnd (decide ((fD s d)≥913)) (cnd (decide ((fD s d)≤937)) (cnd (!(fD s d) !=930) (∃(e:Unit),jY s=false∧True) (zCu s d b c)) (∃(e:Unit),jY s=false∧True)) (∃(e:Unit),jY s=false∧True))) (cnd (decide ((fD s d)≥913)) (cnd (decide ((fD s d)≤937)) (cnd (!(fD s d) !=930) (∃(e:Unit),jY s=false∧True) (zCu s d b c)) (∃(e:Unit),jY s=false∧True)) (∃(e:Unit),jY s=false∧True))) (cnd (!(sb s).toList==(ByteArray.mk #[]).toList) (∃(e:List UInt8),sb e=sb s∧e.length≤1099511627776∧∀(f:Unit),True→∃(g:Unit),jY s=decide ((↑(kX e).length:Int)≤4)∧True) (∃(e:Unit),jY s=false∧True))
def vI (a:Nat) (b:Nat) (c:Nat→Prop) (d:Nat→Nat):Prop:=(↑a:Int)=IntKind.i64.wrap ((↑b:Int)+1)∧c a∧d a<d b∧True
def cA (a:Nat) (b:Nat→Prop) (c:Nat→Nat):Prop:=∃(d:Nat),vI d a b c
def z3v (l:List Int):Prop:=
 ∃(a:Nat),(↑a:Int)=0∧∃(b:Nat→Prop),∃(c:Nat→Nat),b a∧∀(d:Nat),b d→cnd (decide ((↑d:Int)<(↑(iE l).length:Int))) ((0≤(↑d:Int)∧(↑d:Int)<(↑(iE l).length:Int))∧∃(e:Int),zF (iE l) (↑d:Int).toNat 0 1=some [dI e]∧cnd (decide (e<0)) (∃(f:Unit),xJ l=false∧True) (cnd (decide (e>1199)) (∃(f:Unit),xJ l=false∧True) (cnd (decide ((↑d:Int)>0)) ((0≤IntKind.i64.wrap ((↑d:Int)-1)∧IntKind.i64.wrap ((↑d:Int)-1)<(↑(iE l).length:Int))∧∃(f:Int),zF (iE l) (IntKind.i64.wrap ((↑d:Int)-1)).toNat 0 1=some [dI f]∧cnd (decide (f≥e)) (∃(g:Unit),xJ l=false∧True) (cA d b c)) (cA d b c)))) (cnd (decide ((↑(iE l).length:Int)≥2)) (∃(e:Unit),xJ l=decide ((↑(iE l).length:Int)≤6)∧True) (∃(e:Unit),xJ l=false∧True))
def yQs (l:List Int):Prop:=
 cnd (decide ((↑(iE l).length:Int)<1)) False (((0:Int)≤(0:Int)∧0<(↑(iE l).length:Int))∧∃(a:Int),zF (iE l) (Int.toNat 0) 0 1=some [dI a]∧∃(b:Nat),pK (List.take b l)=a∧(↑b:Int)=1∧∃(c:Nat→Prop),∃(d:Nat→Nat),c b∧∀(e:Nat),c e→cnd (decide ((↑e:Int)<(↑(iE l).length:Int))) ((0≤(↑e:Int)∧(↑e:Int)<(↑(iE l).length:Int))∧∃(f:Int),zF (iE l) (↑e:Int).toNat 0 1=some [dI f]∧∃(g:Nat),pK (List.take g l)=min (pK (List.take e l)) f∧vI g e c d) (∃(f:Unit),pK l=pK (List.take e l)∧True))
def yOw (l:List Int):Prop:=
 cnd (decide ((↑(iE l).length:Int)<1)) False (((0:Int)≤(0:Int)∧0<(↑(iE l).length:Int))∧∃(a:Int),zF (iE l) (Int.toNat 0) 0 1=some [dI a]∧∃(b:Nat),rE (List.take b l)=a∧(↑b:Int)=1∧∃(c:Nat→Prop),∃(d:Nat→Nat),c b∧∀(e:Nat),c e→cnd (decide ((↑e:Int)<(↑(iE l).length:Int))) ((0≤(↑e:Int)∧(↑e:Int)<(↑(iE l).length:Int))∧∃(f:Int),zF (iE l) (↑e:Int).toNat 0 1=some [dI f]∧∃(g:Nat),(rE (List.take g l)=if f>rE (List.take e l)then f else rE (List.take e l))∧vI g e c d) (∃(f:Unit),rE l=rE (List.take e l)∧True))
set_option linter.unusedSimpArgs false
open Go Cv Go.Proofs
@[simp] theorem z2v (s:List UInt8):(sb s).size=s.length:=by simp[sb,ByteArray.size]
theorem mK (s:List UInt8):(sb s).toList=s:=by rw[ByteArray.toList_eq];rfl
theorem yLx (s:List UInt8) (p k:Nat):(sb s).get! (p+k)=(sb (s.drop p)).get! (0+k):=by
 simp only[sb,ByteArray.get!,yTn]
 simp only[List.getElem!_toArray,List.getElem!_eq_getElem?_getD,yVk]
theorem zGy (s:List UInt8) (p:Nat):Utf8.decode (sb s) p=zJc (s.drop p):=by
 have h (k:Nat):(decide (p+k<(sb s).size))=decide (0+k<(sb (s.drop p)).size):=by
  simp only[z2v,yTm]
  by_cases h:p+k<s.length
  ·rw[yTd h,yTd (by omega)]
  ·rw[ySu h,ySu (by omega)]
 unfold zJc Utf8.decode
 simp only[yLx s p,h]
theorem b8 (s:List UInt8) {p:Nat} (h:p<s.length):1≤(Utf8.decode (sb s) p).2∧p+(Utf8.decode (sb s) p).2≤s.length:=by
 unfold Utf8.decode
 simp only[z2v,ySx,yTo]
 split
 ·exact⟨by simp,by simp;omega⟩
 split
 ·rename_i h1
  split
  ·exact⟨by simp,by simp;omega⟩
  ·exact⟨by simp,by simp;omega⟩
 split
 ·rename_i h1
  split
  ·exact⟨by simp,by simp;omega⟩
  ·exact⟨by simp,by simp;omega⟩
 split
 ·rename_i h1
  split
  ·exact⟨by simp,by simp;omega⟩
  ·exact⟨by simp,by simp;omega⟩
 ·exact⟨by simp,by simp;omega⟩
theorem yLf {l:List UInt8} (h:l≠[]):1≤(zJc l).2∧(zJc l).2≤l.length:=by
 have:=b8 l (p:=0) (by cases l<;>simp_all)
 rw[zJc];omega
theorem nX:∀(k:Nat) (p:Nat) (l:List UInt8),l.length≤k→eF k p l=eF l.length p l
 |0,p,l,h=>by
  have:l=[]:=yTs (by omega)
  subst this;rfl
 |k+1,p,[],h=>rfl
 |k+1,p,b::l,h=>by
  have hw:=yLf (l:=b::l) (by simp)
  have hl:((b::l).drop (zJc (b::l)).2).length≤l.length:=by rw[yTm,yTc];omega
  rw[yTc]
  simp only[eF]
  rw[nX k _ _ (by rw[yTc]at h;omega),nX l.length _ _ hl]
theorem dC {s:List UInt8} {p:Nat} (h:s.length≤p):gH s p=[]:=by
 rw[gH,show s.length-p=0 by omega];rfl
theorem j9 {s:List UInt8} {p:Nat} (h:p<s.length):gH s p=(p,(Utf8.decode (sb s) p).1)::gH s (p+(Utf8.decode (sb s) p).2):=by
 obtain⟨k,hk⟩:∃k,s.length-p=k+1:=⟨s.length-p-1,by omega⟩
 have hw:=b8 s h
 obtain⟨b,l,hb⟩:∃b l,s.drop p=b::l:=by
  cases hd:s.drop p with
  |nil=>rw[List.drop_eq_nil_iff]at hd;omega
  |cons b l=>exact⟨b,l,rfl⟩
 have hlen:(b::l).length=s.length-p:=by rw[← hb,yTm]
 rw[gH,hk,hb,zGy,hb,gH]
 rw[zGy,hb]at hw
 simp only[eF]
 have e:(b::l).drop (zJc (b::l)).2=s.drop (p+(zJc (b::l)).2):=by rw[← hb,yVw]
 rw[e,nX k _ _ (by rw[yTm];omega),yTm]
theorem zJq (s:List UInt8):∀(k p:Nat),s.length-p≤k→(gH s p).length≤s.length-p
 |0,p,h=>by rw[dC (by omega)];simp
 |k+1,p,h=>by
  by_cases hp:p<s.length
  ·have hw:=b8 s hp
   rw[j9 hp,yTc]
   have:=zJq s k (p+(Utf8.decode (sb s) p).2) (by omega)
   omega
  ·rw[dC (by omega)];simp
theorem zFq (s:List UInt8):(kX s).length≤s.length:=by
 rw[kX,ySm]
 have:=zJq s s.length 0 (by omega)
 omega
theorem z2w {a b:Nat} (h:Nat.blt a b=false):b≤a:=by
 rcases yUu a b with h1|h1
 ·rw[show Nat.blt a b=true by rw[yVn];exact h1]at h;cases h
 ·exact h1
theorem yBh:(ByteArray.mk #[]).toList=[]:=mK []
theorem yKd (s:List UInt8) (h:countC.cnd s):z7m s:=by
 have h:s.length≤1099511627776:=h
 have hr:=zFq s
 unfold z7m dN
 refine⟨(0,0),rfl,rfl,rfl,fun x=>x.1≤s.length∧x.2+(gH s x.1).length=(kX s).length,fun x=>s.length-x.1,⟨by omega,by rw[kX,ySm];simp⟩,?_⟩
 rintro⟨p,n⟩ ⟨h1,h2⟩
 dsimp only at h1 h2 ⊢
 refine Cv.cnd.mk (fun hp=> ?_) (fun hp=> ?_)
 ·have hp:p<s.length:=by simpa[yVn]using hp
  have hw:=b8 s hp
  rw[j9 hp,yTc]at h2
  refine⟨(p+(Utf8.decode (sb s) p).2,n+1),?_,rfl,rfl,⟨hw.2,by(first|omega|(dsimp only;omega))⟩,by(first|omega|(dsimp only;omega)),trivial⟩
  rw[w64 (by omega)];rfl
 ·have hp:s.length≤p:=by have:=z2w hp;simpa using this
  rw[dC hp]at h2
  exact⟨(),by rw[← h2];rfl,trivial⟩
theorem yBr:countC.ok Tryz.prog 108:=okw mixed gok0 0 (fun _=>[]) (fun s=>yNi s) [] Tryz.func108 yKd
theorem ySg (s:List UInt8) (h:symC.cnd s):yPg s:=by
 have h:s.length≤1099511627776:=h
 unfold yPg fD zCu
 refine⟨0,rfl,rfl,fun p=>p≤s.length∧(kX s).all u7=(gH s p).all fun x=>u7 x.2,fun p=>s.length-p,⟨by omega,by rw[kX,List.all_map];rfl⟩,?_⟩
 rintro p ⟨h1,h2⟩
 refine Cv.cnd.mk (fun hp=> ?_) (fun hp=> ?_)
 ·have hp:p<s.length:=by simpa[yVn]using hp
  have hw:=b8 s hp
  rw[j9 hp,List.all_cons]at h2
  generalize hc:(Utf8.decode (sb s) p).1=c at h2 ⊢
  generalize hww:(Utf8.decode (sb s) p).2=w at h2 hw ⊢
  dsimp only at h2
  have bad:u7 c=false→∃(o:Unit),jY s=false∧True:=fun e=>⟨(),by rw[jY,h2,e];rfl,trivial⟩
  have good:u7 c=true→∃i':Nat,sb s=sb s∧i'=p+w∧(i'≤s.length∧(kX s).all u7=(gH s i').all fun x=>u7 x.2)∧s.length-i'<s.length-p∧True:=fun e=>⟨p+w,rfl,rfl,⟨hw.2,by rw[h2,e];rfl⟩,by omega,trivial⟩
  refine zL (fun c1=>zL (fun c2=> ?_) (fun c2=>zL (fun c3=>zL (fun c4=>Cv.cnd.mk (fun c5=> ?_) (fun c5=> ?_)) (fun c4=> ?_)) (fun c3=> ?_))) (fun c1=>zL (fun c3=>zL (fun c4=>Cv.cnd.mk (fun c5=> ?_) (fun c5=> ?_)) (fun c4=> ?_)) (fun c3=> ?_))
  all_goals first|(refine good ?_;simp[u7]at*;omega)|(refine bad ?_;simp[u7]at*;omega)
 ·have hp:s.length≤p:=by have:=z2w hp;simpa using this
  rw[dC hp]at h2
  have h2:(kX s).all u7=true:=h2
  refine Cv.cnd.mk (fun e=>⟨s,rfl,h,fun _ _=>⟨(),?_,trivial⟩⟩) (fun e=>⟨(),?_,trivial⟩)
  ·rw[mK,yBh]at e
   have:s≠[]:=by simpa using e
   rw[jY,h2,yTd this]
   simp only[yTr]
   congr 1
   simp only[eq_iff_iff];omega
  ·have:s=[]:=by
    rw[mK,yBh]at e
    simpa using e
   rw[jY,this];rfl
theorem yNw:symC.ok Tryz.prog 82:=okw mixed (gokc yBr gok0) 0 (fun _=>[]) (fun s=>ySc s) [] Tryz.func82 ySg
@[simp] theorem yX (l:List Int):(iE l).length=l.length:=by simp[iE]
theorem elI {l:List Int} {k:Nat} {n:Int} (h:l[k]? =some n):zF (iE l) k 0 1=some [D.v (.int .i64 n)]:=by
 simp[zF,iE,h];rfl
theorem z9 {α:Type} {l:List α} {i:Nat} (h:i<l.length):∃x,l[i]? =some x:=⟨l[i],yTx h⟩
theorem zQh {n k:Nat} {f:Nat→Bool} (hk:k<n) (h:f k=false):(List.range n).all f=false:=by
 cases hh:(List.range n).all f
 ·rfl
 ·rw[yVl]at hh
  rw[hh k (by simpa using hk)]at h;cases h
theorem zWi {n:Nat} {f:Nat→Bool} (h:∀k<n,f k=true):(List.range n).all f=true:=by
 rw[yVl];intro k hk;exact h k (by simpa using hk)
theorem yGt (l:List Int) (h:monthsC.cnd l):z3v l:=by
 have h:l.length≤1099511627776:=h
 unfold z3v cA vI dI
 simp only[yX]
 refine⟨0,rfl,fun j=>j≤l.length∧∀k<j,qU l k=true,fun j=>l.length-j,⟨by omega,fun k hk=>by omega⟩,?_⟩
 rintro j ⟨h1,h2⟩
 have bad:j<l.length→qU l j=false→∃(o:Unit),xJ l=false∧True:=fun hj e=>⟨(),by rw[xJ,zQh hj e];rfl,trivial⟩
 have good:j<l.length→qU l j=true→∃i':Nat,(i':Int)=IntKind.i64.wrap ((j:Int)+1)∧(i'≤l.length∧∀k<i',qU l k=true)∧l.length-i'<l.length-j∧True:=fun hj e=>⟨j+1,by rw[w64 (by omega)];rfl,⟨by omega,fun k hk=>by
  rcases yUu k j with hk'|hk'
  ·exact h2 k hk'
  ·obtain rfl:k=j:=by omega
   exact e⟩,by omega,trivial⟩
 refine zL (fun hj=> ?_) (fun hj=> ?_)
 ·have hj:j<l.length:=by omega
  obtain⟨n,hn⟩:=z9 hj
  have hg:l.getD j 0=n:=by simp[hn]
  refine⟨⟨by omega,by omega⟩,n,elI hn,zL (fun c1=>bad hj (by simp[qU,hn];omega)) (fun c1=>zL (fun c2=>bad hj (by simp[qU,hn];omega)) (fun c2=>zL (fun c3=> ?_) (fun c3=>good hj ?_)))⟩
  ·have e:IntKind.i64.wrap ((j:Int)-1)=((j-1:Nat):Int):=by rw[w64 (by omega)];omega
   obtain⟨m,hm⟩:=z9 (l:=l) (i:=j-1) (by omega)
   rw[e]
   refine⟨⟨by omega,by omega⟩,m,elI hm,zL (fun c4=>bad hj ?_) (fun c4=>good hj ?_)⟩
   ·simp[qU,hn,hm];omega
   ·simp[qU,hn,hm];omega
  ·simp[qU,hn];omega
 ·have e:(List.range l.length).all (qU l)=true:=zWi fun k hk=>h2 k (by omega)
  refine zL (fun c=>⟨(),?_,trivial⟩) (fun c=>⟨(),?_,trivial⟩)
  ·rw[xJ,e,yTd (show 2≤l.length by omega)]
   simp;omega
  ·rw[xJ,ySu (show ¬2≤l.length by omega)];simp
theorem z4o:monthsC.ok Tryz.prog 83:=okw mixed gok0 0 (fun _=>[]) (fun _=>yEx) [] Tryz.func83 yGt
theorem zEz {f:Int→Int→Int} {l:List Int} {j:Nat} {n:Int} (h:l[j+1]? =some n):(l.take (j+2)).tail.foldl f ((l.take (j+2)).headD 0)=f ((l.take (j+1)).tail.foldl f ((l.take (j+1)).headD 0)) n:=by
 cases l with
 |nil=>simp at h
 |cons a l=>
  simp only[yUc]at h
  simp only[yUb,List.tail_cons,List.headD_cons]
  rw[yUm,h,yYm];rfl
theorem zVh {l:List Int} {n:Int} (h:l[0]? =some n) (f:Int→Int→Int):(l.take 1).tail.foldl f ((l.take 1).headD 0)=n:=by
 cases l with
 |nil=>simp at h
 |cons a l=>simpa using h
theorem ySe (l:List Int) (h:minC.cnd l):yQs l:=by
 obtain⟨h0,h⟩:0<l.length∧l.length≤1099511627776:=h
 unfold yQs vI dI
 simp only[yX]
 obtain⟨n,hn⟩:=z9 h0
 refine zL (fun c=>by omega) (fun c=>⟨⟨by omega,by omega⟩,n,elI hn,1,zVh hn min,rfl,fun j=>1≤j∧j≤l.length,fun j=>l.length-j,⟨by omega,by omega⟩,?_⟩)
 rintro j ⟨h1,h2⟩
 refine zL (fun hj=> ?_) (fun hj=>⟨(),?_,trivial⟩)
 ·obtain⟨m,hm⟩:=z9 (l:=l) (i:=j) (by omega)
  refine⟨⟨by omega,by omega⟩,m,elI hm,j+1,?_,?_,⟨by omega,by omega⟩,by(first|omega|(dsimp only;omega)),trivial⟩
  ·obtain⟨k,rfl⟩:∃k,j=k+1:=⟨j-1,by omega⟩
   first
    |(rw[pK,zEz hm,← pK];done)
    |(rw[pK,zEz hm,← pK];generalize pK (l.take (k+1))=x;split<;>omega)
  ·rw[w64 (by omega)];rfl
 ·rw[yTe (by omega)]
theorem yOb:minC.ok Tryz.prog 85:=okw mixed gok0 0 (fun _=>[]) (fun l=>yRj l) [] Tryz.func85 ySe
theorem yRf (l:List Int) (h:maxC.cnd l):yOw l:=by
 obtain⟨h0,h⟩:0<l.length∧l.length≤1099511627776:=h
 unfold yOw vI dI
 simp only[yX]
 obtain⟨n,hn⟩:=z9 h0
 refine zL (fun c=>by omega) (fun c=>⟨⟨by omega,by omega⟩,n,elI hn,1,zVh hn max,rfl,fun j=>1≤j∧j≤l.length,fun j=>l.length-j,⟨by omega,by omega⟩,?_⟩)
 rintro j ⟨h1,h2⟩
 refine zL (fun hj=> ?_) (fun hj=>⟨(),?_,trivial⟩)
 ·obtain⟨m,hm⟩:=z9 (l:=l) (i:=j) (by omega)
  refine⟨⟨by omega,by omega⟩,m,elI hm,j+1,?_,?_,⟨by omega,by omega⟩,by(first|omega|(dsimp only;omega)),trivial⟩
  ·obtain⟨k,rfl⟩:∃k,j=k+1:=⟨j-1,by omega⟩
   rw[rE,zEz hm,← rE]
   generalize rE (l.take (k+1))=x
   split<;>omega
  ·rw[w64 (by omega)];rfl
 ·rw[yTe (by omega)]
theorem yNk:maxC.ok Tryz.prog 86:=okw mixed gok0 0 (fun _=>[]) (fun l=>ySd l) [] Tryz.func86 yRf
open Go Cv Go.Proofs
@[reducible] def Prd.row (p:Prd):AObj:= .cells p.cells 29
structure zZe where
 p:Prd
 n:Int
structure zSr where
 p:Prd
 l:List Int
def qS (t n:Int):Bool:=n.tmod t !=0
def offC:Con:=con1 zZe (fun i=>[zA i.n,.nm 0 0]) (fun i=>[i.p.row]) (fun i=>1≤i.p.tick) (fun i=>yP (qS i.p.tick i.n)) (fun i=>[i.p.row])
@[reducible] def yQn:V:= .fn 109 [] [.nm 0 0]
def zGj (k:Option Nat):Int:=match k with
 |some k=>k
 |none=> -1
def idxC:Con:=con1 zSr (fun i=>[iV i.l,yQn]) (fun i=>[i.p.row]) (fun i=>1≤i.p.tick∧i.l.length≤1099511627776) (fun i=>zA (zGj (i.l.findIdx? (qS i.p.tick)))) (fun i=>[i.p.row])
def yQy (i:zSr):List SAnn:=[{ι:=Nat,slots:=fun j=>[(8,zA j)],rows:=fun _=>[]}]
def containsC:Con:=con1 zSr (fun i=>[iV i.l,yQn]) (fun i=>[i.p.row]) (fun i=>1≤i.p.tick∧i.l.length≤1099511627776) (fun i=>yP (i.l.any (qS i.p.tick))) (fun i=>[i.p.row])
def qQ (p:Prd):Bool:=decide (1≤p.tick) && decide (p.tick≤1000) && !qS p.tick p.low && !qS p.tick p.high && !qS p.tick p.wide && !p.settle.any (qS p.tick)
def ticksC:Con:=con1 Prd (fun p=>[prdV p]) (fun _=>[]) Prd.small (fun p=>yP (qQ p)) (fun _=>[])
def qN (p:Prd):Bool:=decide (p.low< -1000000)||decide (p.low≥p.high)||decide (p.high>1000000)||decide (p.wide<0)||decide (p.wide>p.high-p.low)
def xL (p:Prd):Bool:=decide (p.settle.length≠p.months.length)||decide (pK p.settle<p.low)||decide (rE p.settle>p.high)
def kG (p:Prd):Bool:=decide (p.rule<1)||decide (p.rule>3)
def x5 (p:Prd):Bool:=decide (p.top<0)||decide (p.top>1000000)||decide (p.least<1)||decide (p.least>1000)||decide (p.part<0)||decide (p.part>100)
def Prd.check (p:Prd):Int:=
 if !jY p.code then 12 else if !xJ p.months then 1 else if !qQ p then 22 else if qN p then 23 else if xL p then 1 else if kG p then 31 else if x5 p then 24 else 0
def checkC:Con:=con1 Prd (fun p=>[prdV p]) (fun _=>[]) Prd.small (fun p=>zA p.check) (fun _=>[])
def Prd.count (p:Prd):Nat:=if p.check=0 then p.months.length+p.months.length*(p.months.length-1) / 2 else 0
def pcountC:Con:=con1 Prd (fun p=>[prdV p]) (fun _=>[]) Prd.small (fun p=>zA p.count) (fun _=>[])
structure dP where
 p:Prd
 n:Int
def yI (n:Nat):Nat→Nat
 |0=>n
 |k+1=>yI n k+(n-1-k)
def kF (n inst:Nat):Nat→Nat→Int×Int×Bool
 |0,_=>(0,0,false)
 |k+1,m=>if inst<yI n m+(n-1-m)then(m,m+1+(inst-yI n m:Nat),true)else kF n inst k (m+1)
def Prd.legs (p:Prd) (i:Int):Int×Int×Bool:=
 if i<0∨(p.count:Int)≤i then(0,0,false)else if i<p.months.length then(i,i,false)else kF p.months.length i.toNat p.months.length 0
def legsC:Con:=con1 dP (fun i=>[prdV i.p,zA i.n]) (fun _=>[]) (fun i=>i.p.small) (fun i=> .tup [zA (i.p.legs i.n).1,zA (i.p.legs i.n).2.1,yP (i.p.legs i.n).2.2]) (fun _=>[])
structure rC where
 p:Prd
 a:Int
 b:Int
def Prd.spread (p:Prd) (a b:Int):Int×Bool:=
 if p.check≠0∨a<0∨b≤a∨(p.months.length:Int)≤b then(0,false)else((yI p.months.length a.toNat:Int)+b-a-1,true)
def spreadC:Con:=con1 rC (fun i=>[prdV i.p,zA i.a,zA i.b]) (fun _=>[]) (fun i=>i.p.small) (fun i=> .tup [zA (i.p.spread i.a i.b).1,yP (i.p.spread i.a i.b).2]) (fun _=>[])
def Prd.price (p:Prd) (i n:Int):Int:=
 if p.count=0 then 1 else if i<0∨(p.count:Int)≤i then 20 else if qS p.tick n then 22 else
 if n<(if(p.months.length:Int)≤i then-p.wide else p.low)∨(if(p.months.length:Int)≤i then p.wide else p.high)<n then 23 else 0
def priceC:Con:=con1 rC (fun i=>[prdV i.p,zA i.a,zA i.b]) (fun _=>[]) (fun i=>i.p.small) (fun i=>zA (i.p.price i.a i.b)) (fun _=>[])
structure I2 where
 x:Int
 y:Int
@[reducible] def yZ (n:Int):Prop:= -9223372036854775808≤n∧n≤9223372036854775807
def uL (x y:Int):Int×Bool:=if yZ (x+y)then(x+y,true)else(0,false)
def uM (x y:Int):Int×Bool:=if yZ (x-y)then(x-y,true)else(0,false)
def addC:Con:=con1 I2 (fun i=>[zA i.x,zA i.y]) (fun _=>[]) (fun i=>yZ i.x∧yZ i.y) (fun i=> .tup [zA (uL i.x i.y).1,yP (uL i.x i.y).2]) (fun _=>[])
def subC:Con:=con1 I2 (fun i=>[zA i.x,zA i.y]) (fun _=>[]) (fun i=>yZ i.x∧yZ i.y) (fun i=> .tup [zA (uM i.x i.y).1,yP (uM i.x i.y).2]) (fun _=>[])
def yPj (i:dP):List SAnn:=[{ι:=Nat,slots:=fun m=>[(8,zA (yI i.p.months.length m)),(33,zA m)],rows:=fun _=>[]}]
def yGa (i:rC):List SAnn:=[{ι:=Nat,slots:=fun m=>[(9,zA (yI i.p.months.length m)),(33,zA m)],rows:=fun _=>[]}]
open Go Cv Go.Proofs
def yQj (i:zZe):Prop:=
 IntKind.i64=IntKind.i64∧i.p.tick≠0∧∃(a:Unit),qS i.p.tick i.n=(i.n.tmod i.p.tick !=0)∧sb i.p.code=sb i.p.code∧iE i.p.months=iE i.p.months∧i.p.tick=i.p.tick∧i.p.low=i.p.low∧i.p.high=i.p.high∧i.p.wide=i.p.wide∧i.p.rule=i.p.rule∧i.p.top=i.p.top∧i.p.least=i.p.least∧i.p.part=i.p.part∧iE i.p.settle=iE i.p.settle∧True
def yQd (i:zSr):Prop:=
 ∃(a:Nat),(↑a:Int)=0∧∃(b:Nat→Prop),∃(c:Nat→Nat),b a∧∀(d:Nat),b d→cnd (decide ((↑d:Int)<(↑(iE i.l).length:Int))) ((0≤(↑d:Int)∧(↑d:Int)<(↑(iE i.l).length:Int))∧∃(e:Int),zF (iE i.l) (↑d:Int).toNat 0 1=some [dI e]∧∃(f:zZe),f.n=e∧sb f.p.code=sb i.p.code∧iE f.p.months=iE i.p.months∧f.p.tick=i.p.tick∧f.p.low=i.p.low∧f.p.high=i.p.high∧f.p.wide=i.p.wide∧f.p.rule=i.p.rule∧f.p.top=i.p.top∧f.p.least=i.p.least∧f.p.part=i.p.part∧iE f.p.settle=iE i.p.settle∧1≤f.p.tick∧∀(g:Unit),True→cnd (qS f.p.tick f.n) (∃(h:Unit),zGj (List.findIdx? (qS i.p.tick) i.l)=(↑d:Int)∧sb i.p.code=sb f.p.code∧iE i.p.months=iE f.p.months∧i.p.tick=f.p.tick∧i.p.low=f.p.low∧i.p.high=f.p.high∧i.p.wide=f.p.wide∧i.p.rule=f.p.rule∧i.p.top=f.p.top∧i.p.least=f.p.least∧i.p.part=f.p.part∧iE i.p.settle=iE f.p.settle∧True) (∃(h:Nat),(↑h:Int)=IntKind.i64.wrap ((↑d:Int)+1)∧b h∧c h<c d∧Sx.AObj.cells (gC (aC 1 ((1:Nat)+(0:Nat)) ((1:Nat)-(1:Nat)) [((0:Nat),(0:Nat))]) f.p.cells) (29:TypeId)=i.p.row)) (∃(e:Unit),zGj (List.findIdx? (qS i.p.tick) i.l)=(-1)∧sb i.p.code=sb i.p.code∧iE i.p.months=iE i.p.months∧i.p.tick=i.p.tick∧i.p.low=i.p.low∧i.p.high=i.p.high∧i.p.wide=i.p.wide∧i.p.rule=i.p.rule∧i.p.top=i.p.top∧i.p.least=i.p.least∧i.p.part=i.p.part∧iE i.p.settle=iE i.p.settle∧True)
def zOt (i:zSr):Prop:=
 ∃(a:zSr),iE a.l=iE i.l∧sb a.p.code=sb i.p.code∧iE a.p.months=iE i.p.months∧a.p.tick=i.p.tick∧a.p.low=i.p.low∧a.p.high=i.p.high∧a.p.wide=i.p.wide∧a.p.rule=i.p.rule∧a.p.top=i.p.top∧a.p.least=i.p.least∧a.p.part=i.p.part∧iE a.p.settle=iE i.p.settle∧(1≤a.p.tick∧a.l.length≤1099511627776)∧∀(b:Unit),True→∃(c:Unit),i.l.any (qS i.p.tick)=decide (zGj (List.findIdx? (qS a.p.tick) a.l)≥0)∧sb i.p.code=sb a.p.code∧iE i.p.months=iE a.p.months∧i.p.tick=a.p.tick∧i.p.low=a.p.low∧i.p.high=a.p.high∧i.p.wide=a.p.wide∧i.p.rule=a.p.rule∧i.p.top=a.p.top∧i.p.least=a.p.least∧i.p.part=a.p.part∧iE i.p.settle=iE a.p.settle∧True
def yBy (p:Prd):Prop:=
 cnd (decide (p.tick<1)) (∃(a:Unit),qQ p=false∧True) (cnd (decide (p.tick>1000)) (∃(a:Unit),qQ p=false∧True) (∃(a:zZe),a.n=p.low∧sb a.p.code=sb p.code∧iE a.p.months=iE p.months∧a.p.tick=p.tick∧a.p.low=p.low∧a.p.high=p.high∧a.p.wide=p.wide∧a.p.rule=p.rule∧a.p.top=p.top∧a.p.least=p.least∧a.p.part=p.part∧iE a.p.settle=iE p.settle∧1≤a.p.tick∧∀(b:Unit),True→cnd (!qS a.p.tick a.n) (∃(c:zZe),c.n=a.p.high∧sb c.p.code=sb a.p.code∧iE c.p.months=iE a.p.months∧c.p.tick=a.p.tick∧c.p.low=a.p.low∧c.p.high=a.p.high∧c.p.wide=a.p.wide∧c.p.rule=a.p.rule∧c.p.top=a.p.top∧c.p.least=a.p.least∧c.p.part=a.p.part∧iE c.p.settle=iE a.p.settle∧1≤c.p.tick∧∀(d:Unit),True→cnd (!qS c.p.tick c.n) (∃(e:zZe),e.n=c.p.wide∧sb e.p.code=sb c.p.code∧iE e.p.months=iE c.p.months∧e.p.tick=c.p.tick∧e.p.low=c.p.low∧e.p.high=c.p.high∧e.p.wide=c.p.wide∧e.p.rule=c.p.rule∧e.p.top=c.p.top∧e.p.least=c.p.least∧e.p.part=c.p.part∧iE e.p.settle=iE c.p.settle∧1≤e.p.tick∧∀(f:Unit),True→cnd (!qS e.p.tick e.n) (∃(g:zSr),iE g.l=iE e.p.settle∧sb g.p.code=sb e.p.code∧iE g.p.months=iE e.p.months∧g.p.tick=e.p.tick∧g.p.low=e.p.low∧g.p.high=e.p.high∧g.p.wide=e.p.wide∧g.p.rule=e.p.rule∧g.p.top=e.p.top∧g.p.least=e.p.least∧g.p.part=e.p.part∧iE g.p.settle=iE e.p.settle∧(1≤g.p.tick∧g.l.length≤1099511627776)∧∀(h:Unit),True→∃(j:Unit),qQ p=!g.l.any (qS g.p.tick)∧True) (∃(g:Unit),qQ p=false∧True)) (∃(e:Unit),qQ p=false∧True)) (∃(c:Unit),qQ p=false∧True)))
def zS (a:Prd):Prop:=a.code.length≤1099511627776∧a.months.length≤1099511627776∧a.settle.length≤1099511627776
def wD (a:Prd):=(↑(iE a.settle).length:Int)
def xI (a:Prd):=(↑(iE a.months).length:Int)
def z9z (p:Prd):Prop:=
 ∃(a:List UInt8),sb a=sb p.code∧a.length≤1099511627776∧∀(b:Unit),True→cnd (!jY a) (∃(c:Unit),p.check=12∧True) (∃(c:List Int),iE c=iE p.months∧c.length≤1099511627776∧∀(d:Unit),True→cnd (!xJ c) (∃(e:Unit),p.check=1∧True) (∃(e:Prd),sb e.code=sb p.code∧iE e.months=iE p.months∧e.tick=p.tick∧e.low=p.low∧e.high=p.high∧e.wide=p.wide∧e.rule=p.rule∧e.top=p.top∧e.least=p.least∧e.part=p.part∧iE e.settle=iE p.settle∧(zS e)∧∀(f:Unit),True→cnd (!qQ e) (∃(g:Unit),p.check=22∧True) (cnd (decide (p.low<(-1000000))) (∃(g:Unit),p.check=23∧True) (cnd (decide (p.low≥p.high)) (∃(g:Unit),p.check=23∧True) (cnd (decide (p.high>1000000)) (∃(g:Unit),p.check=23∧True) (cnd (decide (p.wide<0)) (∃(g:Unit),p.check=23∧True) (cnd (decide (p.wide>IntKind.i64.wrap (p.high-p.low))) (∃(g:Unit),p.check=23∧True) (cnd ((wD p) !=(xI p)) (∃(g:Unit),p.check=1∧True) (∃(g:List Int),iE g=iE p.settle∧(0<g.length∧g.length≤1099511627776)∧∀(h:Unit),True→p.low=p.low∧cnd (decide (pK g<p.low)) (∃(j:Unit),p.check=1∧True) (∃(j:List Int),iE j=iE p.settle∧(0<j.length∧j.length≤1099511627776)∧∀(k:Unit),True→p.high=p.high∧cnd (decide (rE j>p.high)) (∃(l:Unit),p.check=1∧True) (cnd (decide (p.rule<1)) (∃(l:Unit),p.check=31∧True) (cnd (decide (p.rule>3)) (∃(l:Unit),p.check=31∧True) (cnd (decide (p.top<0)) (∃(l:Unit),p.check=24∧True) (cnd (decide (p.top>1000000)) (∃(l:Unit),p.check=24∧True) (cnd (decide (p.least<1)) (∃(l:Unit),p.check=24∧True) (cnd (decide (p.least>1000)) (∃(l:Unit),p.check=24∧True) (cnd (decide (p.part<0)) (∃(l:Unit),p.check=24∧True) (cnd (decide (p.part>100)) (∃(l:Unit),p.check=24∧True) (∃(l:Unit),p.check=0∧True)))))))))))))))))))
def pZ (a:Prd) (b:Prd):Prop:=sb a.code=sb b.code∧iE a.months=iE b.months∧a.tick=b.tick∧a.low=b.low∧a.high=b.high∧a.wide=b.wide∧a.rule=b.rule∧a.top=b.top∧a.least=b.least∧a.part=b.part∧iE a.settle=iE b.settle∧(zS a)∧∀(c:Unit),True→cnd (a.check !=0) (∃(d:Unit),(↑b.count:Int)=0∧True) (IntKind.i64=IntKind.i64∧(2:Int)≠(0:Int)∧∃(d:Unit),(↑b.count:Int)=IntKind.i64.wrap ((xI b)+IntKind.i64.wrap ((IntKind.i64.wrap ((xI b)*IntKind.i64.wrap ((xI b)-1))).tdiv 2))∧True)
def z3d (p:Prd):Prop:=
 ∃(a:Prd),pZ a p
def nK (a:dP):Prop:=Sx.AObj.cells [V.d (D.v (Value.string (sb a.p.code))),V.own 0,V.d (dI a.p.tick),V.d (dI a.p.low),V.d (dI a.p.high),V.d (dI a.p.wide),V.d (dI a.p.rule),V.d (dI a.p.top),V.d (dI a.p.least),V.d (dI a.p.part),V.own ((0:Nat)+(1:Nat))] 29=Sx.AObj.cells [V.d (D.v (Value.string (sb a.p.code))),V.own 0,V.d (dI a.p.tick),V.d (dI a.p.low),V.d (dI a.p.high),V.d (dI a.p.wide),V.d (dI a.p.rule),V.d (dI a.p.top),V.d (dI a.p.least),V.d (dI a.p.part),V.own ((0:Nat)+(1:Nat))] 29∧AObj.fro 1 (iE a.p.settle)=AObj.fro 1 (iE a.p.settle)∧AObj.fro 1 (iE a.p.months)=AObj.fro 1 (iE a.p.months)
def zDe (a:Nat→Prop) (b:Nat) (c:Nat→Nat) (d:Nat) (e:dP):Prop:=a b∧c b<c d∧nK e
def uG (a:dP) (b:Nat):=(↑(yI a.p.months.length b):Int)
def wN (a:dP):=(↑(iE a.p.months).length:Int)
def zDu (a:dP) (b:Nat):=((uG a b)+IntKind.i64.wrap (IntKind.i64.wrap ((wN a)-1)-(↑b:Int)))
def gT (a:dP):Prop:=∃(b:Unit),(a.p.legs a.n).fst=0∧(a.p.legs a.n).snd.fst=0∧(a.p.legs a.n).snd.snd=false∧True
def tA (a:dP):Prop:=∃(b:Unit),(a.p.legs a.n).fst=a.n∧(a.p.legs a.n).snd.fst=a.n∧(a.p.legs a.n).snd.snd=false∧True
def yIm (i:dP):Prop:=
 ∃(a:Prd),sb a.code=sb i.p.code∧iE a.months=iE i.p.months∧a.tick=i.p.tick∧a.low=i.p.low∧a.high=i.p.high∧a.wide=i.p.wide∧a.rule=i.p.rule∧a.top=i.p.top∧a.least=i.p.least∧a.part=i.p.part∧iE a.settle=iE i.p.settle∧(zS a)∧∀(b:Unit),True→cnd (decide (i.n<0)) (gT i) (cnd (decide (i.n≥(↑a.count:Int))) (gT i) (cnd (decide (i.n<(wN i))) (tA i) (∃(c:Nat),(uG i c)=(wN i)∧(↑c:Int)=0∧∃(d:Nat→Prop),∃(e:Nat→Nat),d c∧∀(f:Nat),d f→cnd (decide ((↑f:Int)<(wN i))) (cnd (decide (i.n<IntKind.i64.wrap (zDu i f))) (∃(g:Unit),(i.p.legs i.n).fst=(↑f:Int)∧(i.p.legs i.n).snd.fst=IntKind.i64.wrap (IntKind.i64.wrap (IntKind.i64.wrap ((↑f:Int)+1)+i.n)-(uG i f))∧(i.p.legs i.n).snd.snd=true∧True) (∃(g:Nat),(uG i g)=IntKind.i64.wrap (zDu i f)∧(↑g:Int)=IntKind.i64.wrap ((↑f:Int)+1)∧zDe d g e f i)) (gT i))))
def cB (a:rC):Prop:=∃(b:Unit),(a.p.spread a.a a.b).fst=0∧(a.p.spread a.a a.b).snd=false∧True
def z1q (i:rC):Prop:=
 ∃(a:Prd),sb a.code=sb i.p.code∧iE a.months=iE i.p.months∧a.tick=i.p.tick∧a.low=i.p.low∧a.high=i.p.high∧a.wide=i.p.wide∧a.rule=i.p.rule∧a.top=i.p.top∧a.least=i.p.least∧a.part=i.p.part∧iE a.settle=iE i.p.settle∧(zS a)∧∀(b:Unit),True→cnd (a.check !=0) (cB i) (cnd (decide (i.a<0)) (cB i) (cnd (decide (i.a≥i.b)) (cB i) (cnd (decide (i.b≥(↑(iE i.p.months).length:Int))) (cB i) (∃(c:Nat),(↑(yI i.p.months.length c):Int)=(↑(iE i.p.months).length:Int)∧(↑c:Int)=0∧∃(d:Nat→Prop),∃(e:Nat→Nat),d c∧∀(f:Nat),d f→cnd (decide ((↑f:Int)<i.a)) (∃(g:Nat),(↑(yI i.p.months.length g):Int)=IntKind.i64.wrap ((↑(yI i.p.months.length f):Int)+IntKind.i64.wrap (IntKind.i64.wrap ((↑(iE i.p.months).length:Int)-1)-(↑f:Int)))∧(↑g:Int)=IntKind.i64.wrap ((↑f:Int)+1)∧d g∧e g<e f∧Sx.AObj.cells [V.d (D.v (Value.string (sb i.p.code))),V.own 0,V.d (dI i.p.tick),V.d (dI i.p.low),V.d (dI i.p.high),V.d (dI i.p.wide),V.d (dI i.p.rule),V.d (dI i.p.top),V.d (dI i.p.least),V.d (dI i.p.part),V.own ((0:Nat)+(1:Nat))] 29=Sx.AObj.cells [V.d (D.v (Value.string (sb i.p.code))),V.own 0,V.d (dI i.p.tick),V.d (dI i.p.low),V.d (dI i.p.high),V.d (dI i.p.wide),V.d (dI i.p.rule),V.d (dI i.p.top),V.d (dI i.p.least),V.d (dI i.p.part),V.own ((0:Nat)+(1:Nat))] 29∧AObj.fro 1 (iE i.p.settle)=AObj.fro 1 (iE i.p.settle)∧AObj.fro 1 (iE i.p.months)=AObj.fro 1 (iE i.p.months)) (∃(g:Unit),(i.p.spread i.a i.b).fst=IntKind.i64.wrap (IntKind.i64.wrap (IntKind.i64.wrap ((↑(yI i.p.months.length f):Int)+i.b)-i.a)-1)∧(i.p.spread i.a i.b).snd=true∧True)))))
def yBs (i:rC):Prop:=
 ∃(a:Prd),sb a.code=sb i.p.code∧iE a.months=iE i.p.months∧a.tick=i.p.tick∧a.low=i.p.low∧a.high=i.p.high∧a.wide=i.p.wide∧a.rule=i.p.rule∧a.top=i.p.top∧a.least=i.p.least∧a.part=i.p.part∧iE a.settle=iE i.p.settle∧(zS a)∧∀(b:Unit),True→cnd ((↑a.count:Int)==0) (∃(c:Unit),i.p.price i.a i.b=1∧True) (cnd (decide (i.a<0)) (∃(c:Unit),i.p.price i.a i.b=20∧True) (cnd (decide (i.a≥(↑a.count:Int))) (∃(c:Unit),i.p.price i.a i.b=20∧True) (IntKind.i64=IntKind.i64∧i.p.tick≠0∧cnd (i.b.tmod i.p.tick !=0) (∃(c:Unit),i.p.price i.a i.b=22∧True) (cnd (decide (i.a≥(↑(iE i.p.months).length:Int))) (cnd (decide (i.b<IntKind.i64.wrap (0-i.p.wide))) (∃(c:Unit),i.p.price i.a i.b=23∧True) (cnd (decide (i.b>i.p.wide)) (∃(c:Unit),i.p.price i.a i.b=23∧True) (∃(c:Unit),i.p.price i.a i.b=0∧True))) (cnd (decide (i.b<i.p.low)) (∃(c:Unit),i.p.price i.a i.b=23∧True) (cnd (decide (i.b>i.p.high)) (∃(c:Unit),i.p.price i.a i.b=23∧True) (∃(c:Unit),i.p.price i.a i.b=0∧True)))))))
def zLb (a:I2):Prop:=∃(b:Unit),(uL a.x a.y).fst=IntKind.i64.wrap (a.x+a.y)∧(uL a.x a.y).snd=true∧True
def yPl (i:I2):Prop:=
 cnd (decide (i.x<0)==decide (i.y<0)) (cnd (!decide (IntKind.i64.wrap (i.x+i.y)<0)==decide (i.x<0)) (∃(a:Unit),(uL i.x i.y).fst=0∧(uL i.x i.y).snd=false∧True) (zLb i)) (zLb i)
def zJr (a:I2):Prop:=∃(b:Unit),(uM a.x a.y).fst=IntKind.i64.wrap (a.x-a.y)∧(uM a.x a.y).snd=true∧True
def yPb (i:I2):Prop:=
 cnd (!decide (i.x<0)==decide (i.y<0)) (cnd (!decide (IntKind.i64.wrap (i.x-i.y)<0)==decide (i.x<0)) (∃(a:Unit),(uM i.x i.y).fst=0∧(uM i.x i.y).snd=false∧True) (zJr i)) (zJr i)
open Go Cv Go.Proofs
theorem yRr (i:zZe) (h:offC.cnd i):yQj i:=by
 have h:1≤i.p.tick:=h
 unfold yQj;exact kp
theorem yAk:offC.ok Tryz.prog 109:=okw mixed gok0 0 (fun _=>[]) (fun _=>[]) [] Tryz.func109 yRr
theorem zDz {α:Type} {f:α→Bool} {l:List α} (h:∀(k:Nat) (x:α),l[k]? =some x→f x=false):l.findIdx? f=none:=by
 rw[yXe]
 intro x hx
 obtain⟨k,hk⟩:=yXi hx
 exact h k x hk
theorem zFk {α:Type} {f:α→Bool} {l:List α} {j:Nat} {x:α} (h1:l[j]? =some x) (h2:f x=true) (h:∀k<j,∀x:α,l[k]? =some x→f x=false):l.findIdx? f=some j:=by
 rw[yVo]
 obtain⟨hj,rfl⟩:=ySl.1 h1
 exact⟨hj,h2,fun k hk=>by rw[h k hk _ (yTx (by omega))];simp⟩
theorem yRa (i:zSr) (h:idxC.cnd i):yQd i:=by
 obtain⟨h1,h2⟩:1≤i.p.tick∧i.l.length≤1099511627776:=h
 unfold yQd dI
 simp only[yX]
 refine⟨0,rfl,fun j=>j≤i.l.length∧∀k<j,∀x,i.l[k]? =some x→qS i.p.tick x=false,fun j=>i.l.length-j,⟨by omega,fun k hk=>by omega⟩,?_⟩
 rintro j ⟨h3,h4⟩
 refine zL (fun hj=> ?_) (fun hj=> ?_)
 ·obtain⟨n,hn⟩:=z9 (l:=i.l) (i:=j) (by omega)
  refine⟨⟨by omega,by omega⟩,n,elI hn,⟨i.p,n⟩,?_⟩
  (repeat'(first|exact rfl|exact trivial|assumption|apply And.intro|refine fun(_:Unit) (_:True)=>?_|refine Exists.intro () ?_|omega|(dsimp only;omega)))
  refine Cv.cnd.mk (fun e=> ?_) (fun e=> ?_)
  ·rw[zFk hn e h4];exact kp
  ·refine⟨j+1,by rw[w64 (by omega)];rfl,⟨by omega,fun k hk x hx=> ?_⟩,by(first|omega|(dsimp only;omega)),rfl⟩
   rcases yUu k j with hk'|hk'
   ·exact h4 k hk' x hx
   ·obtain rfl:k=j:=by omega
    rw[hn]at hx;cases hx;exact e
 ·rw[zDz fun k x hx=>h4 k (by have:=(ySl.1 hx).1;omega) x hx];exact kp
theorem yNy:idxC.ok Tryz.prog 125:=okw mixed (gokc yAk gok0) 0 (fun _=>[]) (fun i=>yQy i) [] Tryz.func125 yRa
theorem z5d {l:List Int} {f:Int→Bool}:l.any f=decide (zGj (l.findIdx? f)≥0):=by
 cases hf:l.findIdx? f with
 |none=>
  rw[yXe]at hf
  have:l.any f=false:=by rw[yXn];intro x hx;simp[hf x hx]
  rw[this];rfl
 |some k=>
  rw[yVo]at hf
  obtain⟨hk,h1,_⟩:=hf
  have:l.any f=true:=by rw[yYh];exact⟨_,List.getElem_mem hk,h1⟩
  rw[this,zGj,yTd (by omega)]
theorem z6x (i:zSr) (h:containsC.cnd i):zOt i:=by
 unfold zOt
 have h':1≤i.p.tick∧i.l.length≤1099511627776:=h
 refine⟨i,?_⟩
 (repeat'(first|exact rfl|exact trivial|assumption|apply And.intro|refine fun(_:Unit) (_:True)=>?_|refine Exists.intro () ?_|omega|(dsimp only;omega)))
 exact z5d
theorem zUf:containsC.ok Tryz.prog 110:=okw mixed (gokc yNy gok0) 0 (fun _=>[]) (fun _=>[]) [] Tryz.func110 z6x
theorem yKh (p:Prd) (h:ticksC.cnd p):yBy p:=by
 obtain⟨h1,h2,h3⟩:p.small:=h
 unfold yBy
 refine zL (fun c1=>⟨(),by rw[qQ,ySu (by omega)];rfl,trivial⟩) (fun c1=>zL (fun c2=>⟨(),by rw[qQ,ySu (show ¬p.tick≤1000 by omega)];simp,trivial⟩) (fun c2=>⟨⟨p,p.low⟩,?_⟩))
 have e1:qQ p=(!qS p.tick p.low && !qS p.tick p.high && !qS p.tick p.wide && !p.settle.any (qS p.tick)):=by
  rw[qQ,yTd (by omega),yTd (by omega)];rfl
 rw[e1]
 (repeat'(first|exact rfl|exact trivial|assumption|apply And.intro|refine fun(_:Unit) (_:True)=>?_|refine Exists.intro () ?_|omega|(dsimp only;omega)))
 refine Cv.cnd.mk (fun c3=>⟨⟨p,p.high⟩,?_⟩) (fun c3=>⟨(),?_,trivial⟩)
 ·dsimp only at c3
  (repeat'(first|exact rfl|exact trivial|assumption|apply And.intro|refine fun(_:Unit) (_:True)=>?_|refine Exists.intro () ?_|omega|(dsimp only;omega)))
  refine Cv.cnd.mk (fun c4=>⟨⟨p,p.wide⟩,?_⟩) (fun c4=>⟨(),?_,trivial⟩)
  ·dsimp only at c4
   (repeat'(first|exact rfl|exact trivial|assumption|apply And.intro|refine fun(_:Unit) (_:True)=>?_|refine Exists.intro () ?_|omega|(dsimp only;omega)))
   refine Cv.cnd.mk (fun c5=>⟨⟨p,p.settle⟩,?_⟩) (fun c5=>⟨(),?_,trivial⟩)
   ·dsimp only at c5
    (repeat'(first|exact rfl|exact trivial|assumption|apply And.intro|refine fun(_:Unit) (_:True)=>?_|refine Exists.intro () ?_|omega|(dsimp only;omega)))
    rw[c3,c4,c5];simp
   ·dsimp only at c5
    rw[c5];simp
  ·dsimp only at c4
   rw[c4];simp
 ·dsimp only at c3
  rw[c3];simp
theorem yDs:ticksC.ok Tryz.prog 84:=okw mixed (gokc yAk (gokc zUf gok0)) 0 (fun _=>[]) (fun _=>[]) [] Tryz.func84 yKh
theorem yLn (p:Prd) (h:checkC.cnd p):z9z p:=by
 obtain⟨h1,h2,h3⟩:p.small:=h
 unfold z9z xI wD zS
 simp only[yX]
 refine⟨p.code,rfl,h1,fun _ _=>Cv.cnd.mk (fun c1=>⟨(),by rw[Prd.check,ySk c1],trivial⟩) (fun c1=>⟨p.months,rfl,h2,fun _ _=>Cv.cnd.mk (fun c2=>⟨(),by rw[Prd.check,ySj (by simp[c1]),ySk c2],trivial⟩) (fun c2=>⟨p,?_⟩)⟩)⟩
 (repeat'(first|exact rfl|exact trivial|assumption|apply And.intro|refine fun(_:Unit) (_:True)=>?_|refine Exists.intro () ?_|omega|(dsimp only;omega)))
 refine Cv.cnd.mk (fun c3=>⟨(),by rw[Prd.check,ySj (by simp[c1]),ySj (by simp[c2]),ySk c3],trivial⟩) (fun c3=> ?_)
 have e0:p.check=if qN p then 23 else if xL p then 1 else if kG p then 31 else if x5 p then 24 else 0:=by
  rw[Prd.check,ySj (by simp[c1]),ySj (by simp[c2]),ySj (by simp[c3])]
 have b (hb:qN p=true):∃(o:Unit),p.check=23∧True:=⟨(),by rw[e0,ySk hb],trivial⟩
 refine zL (fun d1=>b (by simp[qN,d1])) fun d1=>zL (fun d2=>b (by simp[qN];omega)) fun d2=>zL (fun d3=>b (by simp[qN];omega)) fun d3=>zL (fun d4=>b (by simp[qN];omega)) fun d4=> ?_
 rw[w64 (by omega)]
 refine zL (fun d5=>b (by simp[qN];omega)) fun d5=> ?_
 have e1:p.check=if xL p then 1 else if kG p then 31 else if x5 p then 24 else 0:=by
  rw[e0,ySj (by simp[qN];omega)]
 have s (hb:xL p=true):∃(o:Unit),p.check=1∧True:=⟨(),by rw[e1,ySk hb],trivial⟩
 have hm:2≤p.months.length:=by
  have c2:xJ p.months=true:=by simpa using c2
  simp[xJ]at c2;omega
 refine Cv.cnd.mk (fun d6=>s (by have d6:¬(p.settle.length:Int)=p.months.length:=(by simpa using d6);simp[xL];omega)) fun d6=> ?_
 have d6:p.settle.length=p.months.length:=by
  have:(p.settle.length:Int)=p.months.length:=by simpa using d6
  omega
 refine⟨p.settle,rfl,⟨by omega,by omega⟩,fun _ _=>⟨kp,zL (fun d7=>s (by simp[xL];left;right;omega)) fun d7=>⟨p.settle,rfl,⟨by omega,by omega⟩,fun _ _=>⟨kp,zL (fun d8=>s (by simp[xL];right;omega)) fun d8=> ?_⟩⟩⟩⟩
 have e2:p.check=if kG p then 31 else if x5 p then 24 else 0:=by
  rw[e1,ySj (by simp[xL];omega)]
 have r (hb:kG p=true):∃(o:Unit),p.check=31∧True:=⟨(),by rw[e2,ySk hb],trivial⟩
 refine zL (fun d9=>r (by simp[kG];omega)) fun d9=>zL (fun d10=>r (by simp[kG];omega)) fun d10=> ?_
 have e3:p.check=if x5 p then 24 else 0:=by
  rw[e2,ySj (by simp[kG];omega)]
 have q (hb:x5 p=true):∃(o:Unit),p.check=24∧True:=⟨(),by rw[e3,ySk hb],trivial⟩
 refine zL (fun f1=>q (by simp[x5];omega)) fun f1=>zL (fun f2=>q (by simp[x5];omega)) fun f2=>zL (fun f3=>q (by simp[x5];omega)) fun f3=>zL (fun f4=>q (by simp[x5];omega)) fun f4=>zL (fun f5=>q (by simp[x5];omega)) fun f5=>zL (fun f6=>q (by simp[x5];omega)) fun f6=> ?_
 exact⟨(),by rw[e3,ySj (by simp[x5];omega)],trivial⟩
theorem bP:checkC.ok Tryz.prog 50:=okw mixed (gokc yNw (gokc z4o (gokc yDs (gokc yOb (gokc yNk gok0))))) 0 (fun _=>[]) (fun _=>[]) [] Tryz.func50 yLn
structure Prd.Ok (p:Prd):Prop where
 sym:jY p.code=true
 months:xJ p.months=true
 ticks:qQ p=true
 m2:2≤p.months.length
 m6:p.months.length≤6
 t1:1≤p.tick
 t2:p.tick≤1000
 b1: -1000000≤p.low
 b2:p.low<p.high
 b3:p.high≤1000000
 b4:0≤p.wide
 b5:p.wide≤p.high-p.low
 s1:p.settle.length=p.months.length
 s2:p.low≤pK p.settle
 s3:rE p.settle≤p.high
 r1:1≤p.rule
 r2:p.rule≤3
 q1:0≤p.top
 q2:p.top≤1000000
 q3:1≤p.least
 q4:p.least≤1000
 q5:0≤p.part
 q6:p.part≤100
theorem qM {p:Prd} (h:p.check=0):p.Ok:=by
 unfold Prd.check at h
 split at h<;>first|(exfalso;revert h;decide)|skip
 rename_i c1
 split at h<;>first|(exfalso;revert h;decide)|skip
 rename_i c2
 split at h<;>first|(exfalso;revert h;decide)|skip
 rename_i c3
 split at h<;>first|(exfalso;revert h;decide)|skip
 rename_i c4
 split at h<;>first|(exfalso;revert h;decide)|skip
 rename_i c5
 split at h<;>first|(exfalso;revert h;decide)|skip
 rename_i c6
 split at h<;>first|(exfalso;revert h;decide)|skip
 rename_i c7
 simp only[yXl,Bool.not_eq_false,Bool.not_eq_true]at c1 c2 c3
 have m:=c2
 have t:=c3
 simp[xJ]at m
 simp[qQ]at t
 simp[qN]at c4
 simp[xL]at c5
 simp[kG]at c6
 simp[x5]at c7
 exact⟨c1,c2,c3,by omega,by omega,by omega,by omega,by omega,by omega,by omega,by omega,by omega,by omega,by omega,by omega,by omega,by omega,by omega,by omega,by omega,by omega,by omega,by omega⟩
theorem yCe {n:Nat} (h:n≤6):n+n*(n-1) / 2≤21:=by
 have:∀n≤6,n+n*(n-1) / 2≤21:=by decide
 exact this n h
theorem yHp (p:Prd) (h:pcountC.cnd p):z3d p:=by
 unfold z3d pZ xI zS
 obtain⟨h1,h2,h3⟩:p.small:=h
 refine⟨p,?_⟩
 simp only[yX]
 (repeat'(first|exact rfl|exact trivial|assumption|apply And.intro|refine fun(_:Unit) (_:True)=>?_|refine Exists.intro () ?_|omega|(dsimp only;omega)))
 refine Cv.cnd.mk (fun c=>⟨(),by rw[Prd.count,ySj (by simpa using c)];rfl,trivial⟩) (fun c=> ?_)
 have c:p.check=0:=by simpa using c
 have ok:=qM c
 refine⟨kp,by decide,(),?_,trivial⟩
 rw[Prd.count,ySk c]
 obtain⟨n,hn⟩:∃n,p.months.length=n:=⟨_,rfl⟩
 have m2:=ok.m2
 have m6:=ok.m6
 rw[hn]at m2 m6 ⊢
 have:n=2∨n=3∨n=4∨n=5∨n=6:=by omega
 rcases this with rfl|rfl|rfl|rfl|rfl<;>rfl
theorem bF:pcountC.ok Tryz.prog 24:=okw mixed (gokc bP gok0) 0 (fun _=>[]) (fun _=>[]) [] Tryz.func24 yHp
theorem sI {p:Prd} (h:p.count≠0):p.check=0:=by
 unfold Prd.count at h
 split at h
 ·assumption
 ·exact absurd rfl h
theorem xQ (p:Prd):p.count≤21:=by
 unfold Prd.count
 split
 ·rename_i h;exact yCe (qM h).m6
 ·omega
theorem zJw {n m:Nat} (h:n≤6) (hm:m≤n):yI n m≤21:=by
 have:∀n≤6,∀m≤n,yI n m≤21:=by decide
 exact this n h m hm
theorem yPu (i:dP) (h:legsC.cnd i):yIm i:=by
 unfold yIm zDe nK tA gT zDu wN uG zS dI
 obtain⟨h1,h2,h3⟩:i.p.small:=h
 refine⟨i.p,?_⟩
 simp only[yX]
 (repeat'(first|exact rfl|exact trivial|assumption|apply And.intro|refine fun(_:Unit) (_:True)=>?_|refine Exists.intro () ?_|omega|(dsimp only;omega)))
 refine zL (fun c1=> ?_) (fun c1=>zL (fun c2=> ?_) (fun c2=> ?_))
 ·rw[Prd.legs,ySk (by omega)];exact kp
 ·rw[Prd.legs,ySk (by omega)];exact kp
 have c2:¬i.n≥(i.p.count:Int):=c2
 have hc:=xQ i.p
 have ok:=qM (sI (p:=i.p) (by omega))
 have m6:=ok.m6
 refine zL (fun c3=> ?_) (fun c3=> ?_)
 ·rw[Prd.legs,ySj (by omega),ySk c3];exact kp
 have e0:i.p.legs i.n=kF i.p.months.length i.n.toNat i.p.months.length 0:=by
  rw[Prd.legs,ySj (by omega),ySj c3]
 rw[e0]
 generalize hn:i.p.months.length=n at c3 m6 ⊢
 obtain⟨k,hk⟩:∃k:Nat,i.n=k:=⟨i.n.toNat,by omega⟩
 rw[hk]at c2 c3 ⊢
 refine⟨0,rfl,rfl,fun m=>m≤n∧yI n m≤k∧kF n k n 0=kF n k (n-m) m,fun m=>n-m,⟨by omega,by show n≤k;omega,rfl⟩,?_⟩
 rintro m ⟨g1,g2,g3⟩
 have hf:=zJw m6 g1
 refine zL (fun c4=> ?_) (fun c4=> ?_)
 ·obtain⟨r,hr⟩:∃r,n-m=r+1:=⟨n-m-1,by omega⟩
  have e1:(k:Int).toNat=k:=by omega
  rw[e1,g3,hr,w64 (x:=(n:Int)-1) (by omega),w64 (x:=(n:Int)-1-m) (by omega),w64 (x:=(yI n m:Int)+((n:Int)-1-m)) (by omega),w64 (x:=(m:Int)+1) (by omega)]
  rw[hr]at g3
  refine zL (fun c5=> ?_) (fun c5=> ?_)
  ·rw[w64 (x:=(m:Int)+1+k) (by omega),w64 (x:=(m:Int)+1+k-(yI n m:Int)) (by omega),kF,ySk (by omega)]
   refine⟨(),rfl,?_,rfl,trivial⟩
   dsimp only;omega
  ·refine⟨m+1,?_,rfl,⟨by omega,?_,?_⟩,by(first|omega|(dsimp only;omega)),kp⟩
   ·rw[yI];omega
   ·rw[yI];omega
   ·rw[kF,ySj (by omega),show n-(m+1)=r by omega]
 ·have e1:(k:Int).toNat=k:=by omega
  rw[e1,g3,show n-m=0 by omega]
  exact⟨(),rfl,rfl,rfl,trivial⟩
theorem pB:legsC.ok Tryz.prog 51:=okw mixed (gokc bF gok0) 0 (fun _=>[]) (fun i=>yPj i) [] Tryz.func51 yPu
theorem yGx (i:rC) (h:spreadC.cnd i):z1q i:=by
 unfold z1q cB zS dI
 obtain⟨h1,h2,h3⟩:i.p.small:=h
 refine⟨i.p,?_⟩
 simp only[yX]
 (repeat'(first|exact rfl|exact trivial|assumption|apply And.intro|refine fun(_:Unit) (_:True)=>?_|refine Exists.intro () ?_|omega|(dsimp only;omega)))
 have bad (hb:i.p.check≠0∨i.a<0∨i.b≤i.a∨(i.p.months.length:Int)≤i.b):∃(o:Unit),(i.p.spread i.a i.b).fst=0∧(i.p.spread i.a i.b).snd=false∧True:=⟨(),by rw[Prd.spread,ySk hb],by rw[Prd.spread,ySk hb],trivial⟩
 refine Cv.cnd.mk (fun c1=>bad (.inl (by simpa using c1))) fun c1=>zL (fun c2=>bad (by omega)) fun c2=>zL (fun c3=>bad (by omega)) fun c3=>zL (fun c4=>bad (by omega)) fun c4=> ?_
 have c1:i.p.check=0:=by simpa using c1
 have m6:=(qM c1).m6
 rw[Prd.spread,ySj (by omega)]
 generalize hn:i.p.months.length=n at c4 m6 ⊢
 obtain⟨a,ha⟩:∃k:Nat,i.a=k:=⟨i.a.toNat,by omega⟩
 rw[ha]at c3 ⊢
 refine⟨0,rfl,rfl,fun m=>m≤a,fun m=>a-m,by omega,?_⟩
 intro m hm
 have hm:m≤a:=hm
 have hf:=zJw (m:=m) m6 (by omega)
 refine zL (fun c5=> ?_) (fun c5=> ?_)
 ·rw[w64 (x:=(n:Int)-1) (by omega),w64 (x:=(n:Int)-1-m) (by omega),w64 (x:=(yI n m:Int)+((n:Int)-1-m)) (by omega),w64 (x:=(m:Int)+1) (by omega)]
  refine⟨m+1,?_,rfl,by omega,by(first|omega|(dsimp only;omega)),kp⟩
  rw[yI];omega
 ·obtain rfl:m=a:=by omega
  rw[w64 (x:=(yI n m:Int)+i.b) (by omega),w64 (x:=(yI n m:Int)+i.b-m) (by omega),w64 (x:=(yI n m:Int)+i.b-m-1) (by omega)]
  exact⟨(),rfl,rfl,trivial⟩
theorem zPc:spreadC.ok Tryz.prog 54:=okw mixed (gokc bP gok0) 0 (fun _=>[]) (fun i=>yGa i) [] Tryz.func54 yGx
theorem yMi (i:rC) (h:priceC.cnd i):yBs i:=by
 unfold yBs zS
 obtain⟨h1,h2,h3⟩:i.p.small:=h
 refine⟨i.p,?_⟩
 simp only[yX]
 (repeat'(first|exact rfl|exact trivial|assumption|apply And.intro|refine fun(_:Unit) (_:True)=>?_|refine Exists.intro () ?_|omega|(dsimp only;omega)))
 refine Cv.cnd.mk (fun c1=>⟨(),by rw[Prd.price,ySk (by have:(i.p.count:Int)=0:=(by simpa using c1);omega)],trivial⟩) fun c1=> ?_
 have c1:i.p.count≠0:=by
  have:¬(i.p.count:Int)=0:=by simpa using c1
  omega
 have e0:i.p.price i.a i.b=if i.a<0∨(i.p.count:Int)≤i.a then 20 else if qS i.p.tick i.b then 22 else
  if i.b<(if(i.p.months.length:Int)≤i.a then-i.p.wide else i.p.low)∨(if(i.p.months.length:Int)≤i.a then i.p.wide else i.p.high)<i.b then 23 else 0:=by rw[Prd.price,ySj c1]
 rw[e0]
 have ok:=qM (sI c1)
 obtain⟨t1,b3,b1,b2,b4,b5⟩:=(⟨ok.t1,ok.b3,ok.b1,ok.b2,ok.b4,ok.b5⟩:_∧_∧_∧_∧_∧_)
 refine zL (fun c2=>⟨(),by rw[ySk (.inl c2)],trivial⟩) fun c2=>zL (fun c3=>⟨(),by rw[ySk (.inr c3)],trivial⟩) fun c3=>⟨kp,by omega,?_⟩
 have c3:¬i.a≥(i.p.count:Int):=c3
 rw[ySj (by omega)]
 refine Cv.cnd.mk (fun c4=>⟨(),ySk c4,trivial⟩) fun c4=> ?_
 rw[ySj (by rw[qS,c4];simp),w64 (x:=0-i.p.wide) (by omega)]
 refine zL (fun c5=> ?_) (fun c5=> ?_)
 ·have c5:(i.p.months.length:Int)≤i.a:=c5
  simp only[ySk c5]
  refine zL (fun c6=>⟨(),ySk (.inl (by omega)),trivial⟩) fun c6=>zL (fun c7=>⟨(),ySk (.inr (by omega)),trivial⟩) fun c7=>⟨(),ySj (by omega),trivial⟩
 ·have c5:¬(i.p.months.length:Int)≤i.a:=c5
  simp only[ySj c5]
  refine zL (fun c6=>⟨(),ySk (.inl (by omega)),trivial⟩) fun c6=>zL (fun c7=>⟨(),ySk (.inr (by omega)),trivial⟩) fun c7=>⟨(),ySj (by omega),trivial⟩
theorem sQ:priceC.ok Tryz.prog 72:=okw mixed (gokc bF gok0) 0 (fun _=>[]) (fun _=>[]) [] Tryz.func72 yMi
theorem yIe (x:Int) (h: -18446744073709551616≤x∧x<18446744073709551616):(yZ x∧IntKind.i64.wrap x=x)∨(9223372036854775807<x∧IntKind.i64.wrap x=x-18446744073709551616)∨(x< -9223372036854775808∧IntKind.i64.wrap x=x+18446744073709551616):=by
 have e:IntKind.i64.wrap x=if(decide (x % 18446744073709551616≥9223372036854775808))=true then x % 18446744073709551616-18446744073709551616 else x % 18446744073709551616:=by
  have:IntKind.i64.wrap x=if(true && decide (x % 18446744073709551616≥9223372036854775808))=true then x % 18446744073709551616-18446744073709551616 else x % 18446744073709551616:=rfl
  rw[this,yTr]
 have e:IntKind.i64.wrap x=(x+9223372036854775808) % 18446744073709551616-9223372036854775808:=by
  rw[e]
  by_cases h2:x % 18446744073709551616≥9223372036854775808
  ·rw[ySk (yTd h2)];omega
  ·rw[ySj (by simpa using h2)];omega
 rw[e]
 by_cases h1:yZ x
 ·exact .inl ⟨h1,by unfold yZ at h1;omega⟩
 ·unfold yZ at h1
  omega
theorem yRb (i:I2) (h:addC.cnd i):yPl i:=by
 obtain⟨⟨x1,x2⟩,y1,y2⟩:yZ i.x∧yZ i.y:=h
 have hw:=yIe (i.x+i.y) (by omega)
 unfold yPl zLb uL
 generalize IntKind.i64.wrap (i.x+i.y)=w at hw ⊢
 unfold yZ at hw ⊢
 refine Cv.cnd.mk (fun c1=>Cv.cnd.mk (fun c2=> ?_) (fun c2=> ?_)) (fun c1=> ?_)
 all_goals(simp at*)
 ·rw[ySj (by omega)];exact kp
 ·rw[ySk (by omega)];refine⟨?_,rfl⟩;dsimp only;omega
 ·rw[ySk (by omega)];refine⟨?_,rfl⟩;dsimp only;omega
theorem zSq:addC.ok Tryz.prog 87:=okw mixed gok0 0 (fun _=>[]) (fun _=>[]) [] Tryz.func87 yRb
theorem ySb (i:I2) (h:subC.cnd i):yPb i:=by
 obtain⟨⟨x1,x2⟩,y1,y2⟩:yZ i.x∧yZ i.y:=h
 have hw:=yIe (i.x-i.y) (by omega)
 unfold yPb zJr uM
 generalize IntKind.i64.wrap (i.x-i.y)=w at hw ⊢
 unfold yZ at hw ⊢
 refine Cv.cnd.mk (fun c1=>Cv.cnd.mk (fun c2=> ?_) (fun c2=> ?_)) (fun c1=> ?_)
 all_goals(simp at*)
 ·rw[ySj (by omega)];exact kp
 ·rw[ySk (by omega)];refine⟨?_,rfl⟩;dsimp only;omega
 ·rw[ySk (by omega)];refine⟨?_,rfl⟩;dsimp only;omega
theorem zRc:subC.ok Tryz.prog 88:=okw mixed gok0 0 (fun _=>[]) (fun _=>[]) [] Tryz.func88 ySb
open Go Cv Go.Proofs
structure Slot where
 used:Bool
 n:Int
 id:Int
 qty:Int
 top:Bool
 queue:Int
 ahead:Int
 back:Int
 deriving DecidableEq
structure fF where
 first:Int
 last:Int
 total:Int
 count:Int
 deriving DecidableEq
structure Arena where
 slots:List Slot
 queues:List fF
 free:Int
 deriving DecidableEq
def zR (s:Slot):List D:=[.v (.bool s.used),.v (.int .i64 s.n),.v (.int .i64 s.id),.v (.int .i64 s.qty),.v (.bool s.top),.v (.int .i64 s.queue),.v (.int .i64 s.ahead),.v (.int .i64 s.back)]
def zO (q:fF):List D:=[.v (.int .i64 q.first),.v (.int .i64 q.last),.v (.int .i64 q.total),.v (.int .i64 q.count)]
def slot0:Slot:=⟨false,0,0,0,false,0,0,0⟩
def zG (a:Arena):Nat→AObj
 |0=> .cells [.own 1,.own 2,zA a.free] 185
 |1=> .own 193 8 (a.slots.map zR)
 |2=> .own 199 4 (a.queues.map zO)
 |_=> .gone
def jM (a:Arena):AObj:= .adt Arena 3 zG a
structure xM where
 price:Int
 queue:Int
 deriving DecidableEq
structure Place where
 side:Int
 price:Int
 slot:Int
 deriving DecidableEq
structure Book where
 a:Arena
 buys:List xM
 sells:List xM
 at_:List (Int×Place)
 top1:Int
 top2:Int
 spare:List Int
 has1:Bool
 has2:Bool
 deriving DecidableEq
def zC (r:xM):List D:=[.v (.int .i64 r.price),.v (.int .i64 r.queue)]
def zYq (p:Place):List D:=[.v (.int .i64 p.side),.v (.int .i64 p.price),.v (.int .i64 p.slot)]
def atE (l:List (Int×Place)):List (Value×List D):=l.map fun x=>(.int .i64 x.1,zYq x.2)
def zT (b:Book):Nat→AObj
 |0=> .cells [.nm 1 0,.own 2,.own 3,.mp 4,zA b.top1,zA b.top2,.own 5,yP b.has1,yP b.has2] 144
 |1=>jM b.a
 |2=> .own 147 2 (b.buys.map zC)
 |3=> .own 147 2 (b.sells.map zC)
 |4=> .map (atE b.at_)
 |5=> .own 3 1 (iE b.spare)
 |_=> .gone
def yD (b:Book):AObj:= .adt Book 6 zT b
structure MSt where
 p:Prd
 books:List Book
 wh:List (Int×Int)
def zV (l:List (Int×Int)):List (Value×List D):=l.map fun x=>(.int .i64 x.1,[.v (.int .i64 x.2)])
def xR (s:MSt):Nat→AObj
 |0=> .cells [sV s.p.code,.own 3,zA s.p.tick,zA s.p.low,zA s.p.high,zA s.p.wide,zA s.p.rule,zA s.p.top,zA s.p.least,zA s.p.part,.own 4,.own 1,.mp 2] 101
 |1=> .objs 102 Book 6 zT s.books none
 |2=> .map (zV s.wh)
 |3=> .fro 1 (iE s.p.months)
 |4=> .fro 1 (iE s.p.settle)
 |_=> .gone
def zE (s:MSt):AObj:= .adt MSt 5 xR s
def zIv (n:Nat):Arena:=⟨List.replicate n slot0,[],n⟩
def book0:Book:=⟨zIv 250,[],[],[],0,0,[],false,false⟩
def newAC:Con:=con1 Nat (fun n=>[zA n]) (fun _=>[]) (fun n=>1≤n∧n≤4096) (fun _=> .tup [.nm 0 0,zA 0]) (fun n=>[jM (zIv n)])
def newBC:Con:=con1 Unit (fun _=>[]) (fun _=>[]) (fun _=>True) (fun _=> .nm 0 0) (fun _=>[yD book0])
def h9 (p:Prd):MSt:=⟨p,List.replicate p.count book0,[]⟩
def newSC:Con where
 ι:=Prd
 pat:=fun p=>[prdV p]
 pre:=fun _=>[]
 cnd:=fun p=>p.small
 alts:=fun p=>[{o:=Unit,res:=fun _=> .tup [.nm 0 0,zA 0],post:=fun _=>[zE (h9 p)],rel:=fun _=>p.check=0},{o:=Unit,res:=fun _=> .tup [.d (.v (.pointer none)),zA p.check],post:=fun _=>[],rel:=fun _=>p.check≠0}]
def yOu (p:Prd):List SAnn:=[{ι:=Nat,slots:=fun j=>[(5,.nm 0 0),(27,zA j)],rows:=fun j=>(List.range 5).map (xR ⟨p,List.replicate j book0,[]⟩)}]
def clSlotC:Con:=con1 (List Slot) (fun _=>[.own 0]) (fun l=>[.own 193 8 (l.map zR)]) (fun l=>l.length≤1000000) (fun _=> .own 1) (fun l=>[.own 193 8 (l.map zR),.own 193 8 (l.map zR)])
def clQueueC:Con:=con1 (List fF) (fun _=>[.own 0]) (fun l=>[.own 199 4 (l.map zO)]) (fun l=>l.length≤1000000) (fun _=> .own 1) (fun l=>[.own 199 4 (l.map zO),.own 199 4 (l.map zO)])
def clRungC:Con:=con1 (List xM) (fun _=>[.own 0]) (fun l=>[.own 147 2 (l.map zC)]) (fun l=>l.length≤1000000) (fun _=> .own 1) (fun l=>[.own 147 2 (l.map zC),.own 147 2 (l.map zC)])
def clIntC:Con:=con1 (List Int) (fun _=>[.own 0]) (fun l=>[.own 3 1 (iE l)]) (fun l=>l.length≤1000000) (fun _=> .own 1) (fun l=>[.own 3 1 (iE l),.own 3 1 (iE l)])
def z9a (f:Nat):Con:=con1 (List (Value×List D)) (fun _=>[.mp 0]) (fun es=>[.map es]) (fun _=>True) (fun _=> .mp 1) (fun es=>[.map es,.map es])
def clAtC:Con:=z9a 0
def clWhC:Con:=z9a 1
@[reducible] def Arena.small (a:Arena):Prop:=a.slots.length≤1000000∧a.queues.length≤1000000
@[reducible] def Book.small (b:Book):Prop:=b.a.small∧b.buys.length≤1000000∧b.sells.length≤1000000∧b.spare.length≤1000000
@[reducible] def MSt.small (s:MSt):Prop:=s.books.length≤1000000∧∀b∈s.books,b.small
def copyAC:Con:=con1 Arena (fun _=>[.nm 0 0]) (fun a=>[jM a]) Arena.small (fun _=> .nm 1 0) (fun a=>[jM a,jM a])
def copyBC:Con:=con1 Book (fun _=>[.nm 0 0]) (fun b=>[yD b]) Book.small (fun _=> .nm 1 0) (fun b=>[yD b,yD b])
def yKt:List SAnn:=[{ι:=Unit,slots:=fun _=>[],rows:=fun _=>[],un:=3}]
def copySC:Con:=con1 MSt (fun _=>[.nm 0 0]) (fun s=>[zE s]) MSt.small (fun _=> .nm 1 0) (fun s=>[zE s,zE s])
open Go Cv Go.Proofs
def yJf (n:Nat):Prop:=
 cnd (decide ((↑n:Int)<1)) (∃(a:Unit),False) (cnd (decide ((↑n:Int)>4096)) (∃(a:Unit),False) ((0≤(↑n:Int)∧(↑n:Int)≤(↑n:Int)∧(↑n:Int)≤9223372036854775807∧(↑(64:Nat):Int)*(↑n:Int)≤2 ^ (48:Nat))∧∃(a:Unit),(0:Int)=(0:Int)∧(↑n:Int)=(↑n:Int)∧List.map zR (List.replicate n slot0)=List.replicate (↑n:Int).toNat [D.v (.bool false),dI 0,dI 0,dI 0,D.v (.bool false),dI 0,dI 0,dI 0]∧([]:List (List D))=[]∧True))
def yQt (u:Unit):Prop:=
 ∃(i:Nat),(↑i:Int)=250∧(1≤i∧i≤4096)∧∀(o:Unit),True→∃(o:Unit),(0:Int)=(0:Int)∧(0:Int)=(0:Int)∧false=false∧false=false∧AObj.adt Arena 3 zG (zIv 250)=AObj.adt Arena 3 zG (zIv i)∧([]:List (List D))=[]∧([]:List (List D))=[]∧atE []=[]∧iE []=[]∧True
def zFj (a:Prd) (b:Nat) (c:Unit):Prop:=(∃(d:Unit),(0:Int)=(0:Int)∧sb a.code=sb a.code∧a.tick=a.tick∧a.low=a.low∧a.high=a.high∧a.wide=a.wide∧a.rule=a.rule∧a.top=a.top∧a.least=a.least∧a.part=a.part∧AObj.objs 102 Book 6 zT (List.replicate a.count book0) none=AObj.objs 102 Book 6 zT (List.replicate b book0) none∧zV []=zV []∧AObj.fro 1 (iE a.months)=AObj.fro 1 (iE a.months)∧AObj.fro 1 (iE a.settle)=AObj.fro 1 (iE a.settle)∧a.check=0)∨∃(c:Unit),False
def bE (a:Prd):Prop:=AObj.fro 1 (iE a.settle)=AObj.fro 1 (iE a.settle)∧AObj.fro 1 (iE a.months)=AObj.fro 1 (iE a.months)
def v9 (a:Prd):=(D.v (Value.string (sb a.code)))
def zRt (a:Prd):Prop:=True∧True∧(0+(iE a.months).length)*(8:Nat)≤(70368744177664:Nat)∧True∧(0+(iE a.settle).length)*(8:Nat)≤(70368744177664:Nat)∧∃(b:Prd),sb b.code=sb a.code∧iE b.months=[]++iE a.months∧b.tick=a.tick∧b.low=a.low∧b.high=a.high∧b.wide=a.wide∧b.rule=a.rule∧b.top=a.top∧b.least=a.least∧b.part=a.part∧iE b.settle=[]++iE a.settle∧(zS b)∧∀(c:Unit),True→∃(d:Nat),(↑d:Int)=0∧sb a.code=sb a.code∧a.tick=a.tick∧a.low=a.low∧a.high=a.high∧a.wide=a.wide∧a.rule=a.rule∧a.top=a.top∧a.least=a.least∧a.part=a.part∧List.replicate d book0=[]∧(none:Option Nat)=none∧zV []=[]∧AObj.fro 1 (iE a.months)=AObj.fro 1 ([]++iE a.months)∧AObj.fro 1 (iE a.settle)=AObj.fro 1 ([]++iE a.settle)∧∃(e:Nat→Prop),∃(f:Nat→Nat),e d∧∀(g:Nat),e g→cnd (decide ((↑g:Int)<(↑b.count:Int))) (∃(h:Unit),True∧∀(j:Unit),True→True∧True∧∃(k:List Book),AObj.objs 102 Book 6 zT (List.replicate g book0) none=AObj.objs 102 Book 6 zT k none∧(k.length+1)*(8:Nat)≤(70368744177664:Nat)∧∃(l:Nat),(↑l:Int)=IntKind.i64.wrap ((↑g:Int)+1)∧sb a.code=sb a.code∧a.tick=a.tick∧a.low=a.low∧a.high=a.high∧a.wide=a.wide∧a.rule=a.rule∧a.top=a.top∧a.least=a.least∧a.part=a.part∧AObj.objs 102 Book 6 zT (List.replicate l book0) none=AObj.objs 102 Book 6 zT (k++[book0]) none∧zV []=zV []∧AObj.fro 1 (iE a.months)=AObj.fro 1 (iE a.months)∧AObj.fro 1 (iE a.settle)=AObj.fro 1 (iE a.settle)∧e l∧f l<f g∧AObj.fro 1 ([]++iE a.settle)=AObj.fro 1 ([]++iE a.settle)∧AObj.fro 1 ([]++iE a.months)=AObj.fro 1 ([]++iE a.months)∧Sx.AObj.cells [V.d (v9 a),V.own ((0:Nat)+(1:Nat)+(1:Nat)+(1:Nat)+((0:Nat)-(0:Nat))+(1:Nat)+(1:Nat)),V.d (dI a.tick),V.d (dI a.low),V.d (dI a.high),V.d (dI a.wide),V.d (dI a.rule),V.d (dI a.top),V.d (dI a.least),V.d (dI a.part),V.own ((0:Nat)+(1:Nat)+(1:Nat)+(1:Nat)+((0:Nat)-(0:Nat))+(1:Nat)+(1:Nat)+1)] 29=Sx.AObj.cells [V.d (v9 a),V.own ((0:Nat)+(1:Nat)+(1:Nat)+(1:Nat)+((0:Nat)-(0:Nat))+(1:Nat)+(1:Nat)),V.d (dI a.tick),V.d (dI a.low),V.d (dI a.high),V.d (dI a.wide),V.d (dI a.rule),V.d (dI a.top),V.d (dI a.least),V.d (dI a.part),V.own ((0:Nat)+(1:Nat)+(1:Nat)+(1:Nat)+((0:Nat)-(0:Nat))+(1:Nat)+(1:Nat)+1)] 29∧bE a) (zFj a g c)
def c8 (a:Unit) (b:Prd) (c:Prd):Prop:=(∃(d:Unit),False)∨∃(a:Unit),True∧b.check=c.check∧(b.check=0→False)
def yIw (p:Prd):Prop:=
 ∃(a:Prd),sb a.code=sb p.code∧iE a.months=iE p.months∧a.tick=p.tick∧a.low=p.low∧a.high=p.high∧a.wide=p.wide∧a.rule=p.rule∧a.top=p.top∧a.least=p.least∧a.part=p.part∧iE a.settle=iE p.settle∧(zS a)∧∀(b:Unit),True→cnd (a.check !=0) (c8 b p a) ((True∧True∧((0+(iE p.months).length)*(8:Nat)≤(70368744177664:Nat)∧True∧True∧(0+(iE p.settle).length)*(8:Nat)≤(70368744177664:Nat)∧∃(c:Prd),sb c.code=sb p.code∧iE c.months=[]++iE p.months∧c.tick=p.tick∧c.low=p.low∧c.high=p.high∧c.wide=p.wide∧c.rule=p.rule∧c.top=p.top∧c.least=p.least∧c.part=p.part∧iE c.settle=[]++iE p.settle∧(zS c)∧∀(d:Unit),True→∃(e:Nat),(↑e:Int)=0∧sb p.code=sb p.code∧p.tick=p.tick∧p.low=p.low∧p.high=p.high∧p.wide=p.wide∧p.rule=p.rule∧p.top=p.top∧p.least=p.least∧p.part=p.part∧List.replicate e book0=[]∧(none:Option Nat)=none∧zV []=[]∧AObj.fro 1 (iE p.months)=AObj.fro 1 ([]++iE p.months)∧AObj.fro 1 (iE p.settle)=AObj.fro 1 ([]++iE p.settle)∧∃(f:Nat→Prop),∃(g:Nat→Nat),f e∧∀(h:Nat),f h→cnd (decide ((↑h:Int)<(↑c.count:Int))) (∃(j:Unit),True∧∀(k:Unit),True→True∧True∧∃(l:List Book),AObj.objs 102 Book 6 zT (List.replicate h book0) none=AObj.objs 102 Book 6 zT l none∧(l.length+1)*(8:Nat)≤(70368744177664:Nat)∧∃(m:Nat),(↑m:Int)=IntKind.i64.wrap ((↑h:Int)+1)∧sb p.code=sb p.code∧p.tick=p.tick∧p.low=p.low∧p.high=p.high∧p.wide=p.wide∧p.rule=p.rule∧p.top=p.top∧p.least=p.least∧p.part=p.part∧AObj.objs 102 Book 6 zT (List.replicate m book0) none=AObj.objs 102 Book 6 zT (l++[book0]) none∧zV []=zV []∧AObj.fro 1 (iE p.months)=AObj.fro 1 (iE p.months)∧AObj.fro 1 (iE p.settle)=AObj.fro 1 (iE p.settle)∧f m∧g m<g h∧AObj.fro 1 ([]++iE p.settle)=AObj.fro 1 ([]++iE p.settle)∧AObj.fro 1 ([]++iE p.months)=AObj.fro 1 ([]++iE p.months)∧Sx.AObj.cells [V.d (v9 p),V.own ((0:Nat)+(1:Nat)+(1:Nat)+(1:Nat)+((0:Nat)-(0:Nat))+1),V.d (dI p.tick),V.d (dI p.low),V.d (dI p.high),V.d (dI p.wide),V.d (dI p.rule),V.d (dI p.top),V.d (dI p.least),V.d (dI p.part),V.own ((0:Nat)+(1:Nat)+(1:Nat)+(1:Nat)+((0:Nat)-(0:Nat))+(1:Nat)+(1:Nat)+1)] 29=Sx.AObj.cells [V.d (v9 p),V.own ((0:Nat)+(1:Nat)+(1:Nat)+(1:Nat)+((0:Nat)-(0:Nat))+1),V.d (dI p.tick),V.d (dI p.low),V.d (dI p.high),V.d (dI p.wide),V.d (dI p.rule),V.d (dI p.top),V.d (dI p.least),V.d (dI p.part),V.own ((0:Nat)+(1:Nat)+(1:Nat)+(1:Nat)+((0:Nat)-(0:Nat))+(1:Nat)+(1:Nat)+1)] 29∧bE p) (zFj p h d))∧zRt p)∧True∧True∧zRt p)
def yGg (l:List Slot):Prop:=
 ∀(b:Bool),(b=true→List.map zR l=[])→cnd b (∃(o:Unit),List.map zR l=List.map zR l∧List.map zR l=[]∧True) ((0+(List.map zR l).length)*(64:Nat)≤(70368744177664:Nat)∧∃(o:Unit),List.map zR l=List.map zR l∧List.map zR l=[]++List.map zR l∧True)
def z7g (l:List fF):Prop:=
 ∀(b:Bool),(b=true→List.map zO l=[])→cnd b (∃(o:Unit),List.map zO l=List.map zO l∧List.map zO l=[]∧True) ((0+(List.map zO l).length)*(32:Nat)≤(70368744177664:Nat)∧∃(o:Unit),List.map zO l=List.map zO l∧List.map zO l=[]++List.map zO l∧True)
def yFi (l:List xM):Prop:=
 ∀(b:Bool),(b=true→List.map zC l=[])→cnd b (∃(o:Unit),List.map zC l=List.map zC l∧List.map zC l=[]∧True) ((0+(List.map zC l).length)*(16:Nat)≤(70368744177664:Nat)∧∃(o:Unit),List.map zC l=List.map zC l∧List.map zC l=[]++List.map zC l∧True)
def yMr (l:List Int):Prop:=
 ∀(b:Bool),(b=true→iE l=[])→cnd b (∃(o:Unit),iE l=iE l∧iE l=[]∧True) ((0+(iE l).length)*(8:Nat)≤(70368744177664:Nat)∧∃(o:Unit),iE l=iE l∧iE l=[]++iE l∧True)
def z8u (es:List (Value×List D)):Prop:=
 ∃(a:List (Value×List D)),a=es∧True∧∀(b:Unit),True→∃(c:Unit),es=a∧es=a∧True
theorem yLd (es:List (Value×List D)):z8u es=walk Tryz.prog ([(102,cR 142)]) 0 ([]) ([]) [] Tryz.f104 (Tryz.f104.body.getD .skip) (clAtC.pat es) (clAtC.pre es) (clAtC.alts es):=by kernel_rfl
theorem yMz (hG:GOk Tryz.prog ([(102,cR 142)])) (h:∀(es:List (Value×List D)),clAtC.cnd es→z8u es):clAtC.ok Tryz.prog 104:=zAd mixed ([(102,cR 142)]) hG 0 (fun(es:List (Value×List D))=>[]) (fun(es:List (Value×List D))=>[]) [] Tryz.func104 (by kernel_rfl) (by kernel_rfl) (by kernel_rfl) (fun _=>by kernel_rfl) (fun(es:List (Value×List D)) hc=>Eq.mp (yLd es) (h es hc))
def z7k (es:List (Value×List D)):Prop:=
 ∃(a:List (Value×List D)),a=es∧True∧∀(b:Unit),True→∃(c:Unit),es=a∧es=a∧True
theorem yNm (es:List (Value×List D)):z7k es=walk Tryz.prog ([(102,cR 99)]) 0 ([]) ([]) [] Tryz.f78 (Tryz.f78.body.getD .skip) (clWhC.pat es) (clWhC.pre es) (clWhC.alts es):=by kernel_rfl
theorem yJr (hG:GOk Tryz.prog ([(102,cR 99)])) (h:∀(es:List (Value×List D)),clWhC.cnd es→z7k es):clWhC.ok Tryz.prog 78:=zAd mixed ([(102,cR 99)]) hG 0 (fun(es:List (Value×List D))=>[]) (fun(es:List (Value×List D))=>[]) [] Tryz.func78 (by kernel_rfl) (by kernel_rfl) (by kernel_rfl) (fun _=>by kernel_rfl) (fun(es:List (Value×List D)) hc=>Eq.mp (yNm es) (h es hc))
def yLp (a:Arena):Prop:=
 ∃(i:List Slot),List.map zR i=List.map zR a.slots∧i.length≤1000000∧∀(o:Unit),True→a.free=a.free∧True∧∃(i_1:List fF),List.map zO i_1=List.map zO a.queues∧i_1.length≤1000000∧∀(o:Unit),True→a.free=a.free∧∃(o:Unit),a.free=a.free∧List.map zR a.slots=List.map zR i∧List.map zO a.queues=List.map zO i_1∧a.free=a.free∧List.map zR a.slots=List.map zR i∧List.map zO a.queues=List.map zO i_1∧True
def yLk (b:Book):Prop:=
 ∃(i:Arena),AObj.adt Arena 3 zG i=AObj.adt Arena 3 zG b.a∧(i.slots.length≤1000000∧i.queues.length≤1000000)∧∀(o:Unit),True→True∧True∧∃(i_1:List (Value×List D)),i_1=atE b.at_∧True∧∀(o:Unit),True→True∧∃(i_2:List Int),iE i_2=iE b.spare∧i_2.length≤1000000∧∀(o:Unit),True→∃(i_3:List xM),List.map zC i_3=List.map zC b.buys∧i_3.length≤1000000∧∀(o:Unit),True→∃(i_4:List xM),List.map zC i_4=List.map zC b.sells∧i_4.length≤1000000∧∀(o:Unit),True→∃(o:Unit),b.top1=b.top1∧b.top2=b.top2∧b.has1=b.has1∧b.has2=b.has2∧AObj.adt Arena 3 zG b.a=AObj.adt Arena 3 zG i∧List.map zC b.buys=List.map zC i_3∧List.map zC b.sells=List.map zC i_4∧atE b.at_=i_1∧iE b.spare=iE i_2∧b.top1=b.top1∧b.top2=b.top2∧b.has1=b.has1∧b.has2=b.has2∧AObj.adt Arena 3 zG b.a=AObj.adt Arena 3 zG i∧List.map zC b.buys=List.map zC i_3∧List.map zC b.sells=List.map zC i_4∧atE b.at_=i_1∧iE b.spare=iE i_2∧True
open Go Cv Go.Proofs
theorem yOo (n:Nat) (h:newAC.cnd n):yJf n:=by
 obtain⟨h1,h2⟩:1≤n∧n≤4096:=h
 unfold yJf dI
 refine zL (fun c=>by omega) fun c=>zL (fun c=>by omega) fun c=> ?_
 refine⟨⟨by omega,by omega,by omega,?_⟩,?_⟩
 ·have:(2:Int) ^ (48:Nat)=281474976710656:=by decide
  rw[this];omega
 ·refine⟨(),rfl,rfl,?_,rfl,trivial⟩
  rw[yYa];rfl
theorem yEu:newAC.ok Tryz.prog 95:=okw mixed gok0 0 (fun _=>[]) (fun _=>[]) [] Tryz.func95 yOo
theorem yGl:newBC.ok Tryz.prog 68:=okw (V:=yQt) mixed (gokc yEu gok0) 0 (fun _=>[]) (fun _=>[]) [] Tryz.func68 fun(u:Unit) _=>by
 refine⟨250,rfl,⟨by omega,by omega⟩,?_⟩;exact kp
theorem yPq (p:Prd) (h:newSC.cnd p):yIw p:=by
 unfold yIw zRt v9 c8 bE zFj zS dI
 have hs:p.small:=h
 obtain⟨h1,h2,h3⟩:p.small:=h
 refine⟨p,?_⟩
 simp only[yX]
 (repeat'(first|exact rfl|exact trivial|assumption|apply And.intro|refine fun(_:Unit) (_:True)=>?_|refine Exists.intro () ?_|omega|(dsimp only;omega)))
 refine Cv.cnd.mk (fun c=> .inr ⟨(),trivial,kp,by simpa using c⟩) fun c=> ?_
 have c:p.check=0:=by simpa using c
 have hc:=xQ p
 (repeat'(first|exact rfl|exact trivial|assumption|apply And.intro|refine fun(_:Unit) (_:True)=>?_|refine Exists.intro () ?_|omega|(dsimp only;omega)))
 all_goals(refine⟨p,?_⟩;(repeat'(first|exact rfl|exact trivial|assumption|apply And.intro|refine fun(_:Unit) (_:True)=>?_|refine Exists.intro () ?_|omega|(dsimp only;omega))))
 all_goals(refine⟨0,?_⟩;(repeat'(first|exact rfl|exact trivial|assumption|apply And.intro|refine fun(_:Unit) (_:True)=>?_|refine Exists.intro () ?_|omega|(dsimp only;omega))))
 all_goals(refine⟨fun j=>j≤p.count,fun j=>p.count-j,by omega,fun j hj=>zL (fun hlt=> ?_) (fun hlt=> ?_)⟩;all_goals dsimp only at hj hlt)
 all_goals first
  |(refine .inl ⟨(),?_⟩
    obtain rfl:j=p.count:=by omega
    (repeat'(first|exact rfl|exact trivial|assumption|apply And.intro|refine fun(_:Unit) (_:True)=>?_|refine Exists.intro () ?_|omega|(dsimp only;omega))))
  |(refine⟨(),trivial,fun _ _=>⟨trivial,trivial,List.replicate j book0,rfl,?_,j+1,?_⟩⟩
    ·rw[yVb];omega
    ·rw[w64 (by omega),← List.replicate_succ']
     (repeat'(first|exact rfl|exact trivial|assumption|apply And.intro|refine fun(_:Unit) (_:True)=>?_|refine Exists.intro () ?_|omega|(dsimp only;omega))))
theorem yDz:newSC.ok Tryz.prog 37:=okw mixed (gokc bP (gokc bF (gokc yGl gok0))) 0 (fun _=>[]) (fun p=>yOu p) [] Tryz.func37 yPq
theorem z4l:clSlotC.ok Tryz.prog 122:=okw (V:=yGg) mixed gok0 0 (fun _=>[]) (fun _=>[]) [] Tryz.func122 fun(l:List Slot) h=>by
 have h:l.length≤1000000:=h
 exact fun b hb=>Cv.cnd.mk (fun e=>⟨(),rfl,hb e,trivial⟩) (fun _=>⟨by rw[yTn,ySm];omega,(),rfl,rfl,trivial⟩)
theorem zZw:clQueueC.ok Tryz.prog 123:=okw (V:=z7g) mixed gok0 0 (fun _=>[]) (fun _=>[]) [] Tryz.func123 fun(l:List fF) h=>by
 have h:l.length≤1000000:=h
 exact fun b hb=>Cv.cnd.mk (fun e=>⟨(),rfl,hb e,trivial⟩) (fun _=>⟨by rw[yTn,ySm];omega,(),rfl,rfl,trivial⟩)
theorem z6k:clRungC.ok Tryz.prog 105:=okw (V:=yFi) mixed gok0 0 (fun _=>[]) (fun _=>[]) [] Tryz.func105 fun(l:List xM) h=>by
 have h:l.length≤1000000:=h
 exact fun b hb=>Cv.cnd.mk (fun e=>⟨(),rfl,hb e,trivial⟩) (fun _=>⟨by rw[yTn,ySm];omega,(),rfl,rfl,trivial⟩)
theorem yCg:clIntC.ok Tryz.prog 58:=okw (V:=yMr) mixed gok0 0 (fun _=>[]) (fun _=>[]) [] Tryz.func58 fun(l:List Int) h=>by
 have h:l.length≤1000000:=h
 exact fun b hb=>Cv.cnd.mk (fun e=>⟨(),rfl,hb e,trivial⟩) (fun _=>⟨by rw[yTn,yX];omega,(),rfl,rfl,trivial⟩)
theorem zNy (t:Nat):(cR t).ok Tryz.prog 102:=zYr Tryz.func102 (by kernel_rfl) (by kernel_rfl) (by kernel_rfl) (by kernel_rfl) t
theorem yHb:clAtC.ok Tryz.prog 104:=yMz (gokc (zNy _) gok0) fun es _=>by
 unfold z8u
 refine⟨es,?_⟩;exact kp
theorem yGi:clWhC.ok Tryz.prog 78:=yJr (gokc (zNy _) gok0) fun es _=>by
 unfold z7k
 refine⟨es,?_⟩;exact kp
theorem z7h:copyAC.ok Tryz.prog 103:=okw (V:=yLp) mixed (gokc z4l (gokc zZw gok0)) 0 (fun _=>[]) (fun _=>[]) [0] Tryz.func103 fun(a:Arena) h=>by
 obtain⟨h1,h2⟩:a.small:=h
 refine⟨a.slots,?_⟩;(repeat'(first|exact rfl|exact trivial|assumption|apply And.intro|refine fun(_:Unit) (_:True)=>?_|refine Exists.intro () ?_|omega|(dsimp only;omega)))
 refine⟨a.queues,?_⟩;exact kp
theorem yCl:copyBC.ok Tryz.prog 79:=okw (V:=yLk) mixed (gokc z7h (gokc yHb (gokc yCg (gokc z6k gok0)))) 0 (fun _=>[]) (fun _=>yKt) [0] Tryz.func79 fun(b:Book) h=>by
 obtain⟨⟨h1,h1'⟩,h2,h3,h4⟩:b.small:=h
 refine⟨b.a,?_⟩;(repeat'(first|exact rfl|exact trivial|assumption|apply And.intro|refine fun(_:Unit) (_:True)=>?_|refine Exists.intro () ?_|omega|(dsimp only;omega)))
 refine⟨atE b.at_,?_⟩;(repeat'(first|exact rfl|exact trivial|assumption|apply And.intro|refine fun(_:Unit) (_:True)=>?_|refine Exists.intro () ?_|omega|(dsimp only;omega)))
 refine⟨b.spare,?_⟩;(repeat'(first|exact rfl|exact trivial|assumption|apply And.intro|refine fun(_:Unit) (_:True)=>?_|refine Exists.intro () ?_|omega|(dsimp only;omega)))
 refine⟨b.buys,?_⟩;(repeat'(first|exact rfl|exact trivial|assumption|apply And.intro|refine fun(_:Unit) (_:True)=>?_|refine Exists.intro () ?_|omega|(dsimp only;omega)))
 refine⟨b.sells,?_⟩;exact kp
open Go Cv Go.Proofs
structure ArN where
 a:Arena
 n:Int
def Arena.qAt (a:Arena) (n:Int):fF:=if 0≤n∧n<a.queues.length then a.queues.getD n.toNat ⟨0,0,0,0⟩else⟨0,0,0,0⟩
def atotalC:Con:=con1 ArN (fun i=>[.nm 0 0,zA i.n]) (fun i=>[jM i.a]) (fun i=>True) (fun i=>zA (i.a.qAt i.n).total) (fun i=>[jM i.a])
def acountC:Con:=con1 ArN (fun i=>[.nm 0 0,zA i.n]) (fun i=>[jM i.a]) (fun i=>True) (fun i=>zA (i.a.qAt i.n).count) (fun i=>[jM i.a])
def bisC:Con:=con1 Int (fun n=>[zA n]) (fun _=>[]) (fun _=>True) (fun n=>yP (decide (n=1)||decide (n=2))) (fun _=>[])
structure BkR where
 b:Book
 r:xM
def Book.told (b:Book) (r:xM):Lv:=⟨r.price,(b.a.qAt r.queue).total,(b.a.qAt r.queue).count⟩
@[reducible] def Book.cntOk (b:Book):Prop:=∀q∈b.a.queues,yZ q.count
def toldC:Con:=con1 BkR (fun i=>[.nm 0 0,.agg [zA i.r.price,zA i.r.queue]]) (fun i=>[yD i.b]) (fun i=>i.b.cntOk) (fun i=>lvV (i.b.told i.r)) (fun i=>[yD i.b])
def Book.best (b:Book) (l:List xM):Lv×Bool:=match l with
 |[]=>(⟨0,0,0⟩,false)
 |r::_=>(b.told r,true)
structure BkS where
 side:Bool
 b:Book
def Book.side (b:Book) (s:Bool):List xM:=if s then b.sells else b.buys
@[reducible] def zZg (b:Book) (l:List xM):V:= .tup [lvV (b.best l).1,yP (b.best l).2]
def best1C:Con:=con1 Book (fun _=>[.nm 0 0,zA 1]) (fun b=>[yD b]) Book.cntOk (fun b=>zZg b b.buys) (fun b=>[yD b])
def best2C:Con:=con1 Book (fun _=>[.nm 0 0,zA 2]) (fun b=>[yD b]) Book.cntOk (fun b=>zZg b b.sells) (fun b=>[yD b])
def zB (s:Bool):Int:=if s then 2 else 1
def bestC:Con:=con1 BkS (fun i=>[.nm 0 0,zA (zB i.side)]) (fun i=>[yD i.b]) (fun i=>i.b.cntOk) (fun i=>zZg i.b (i.b.side i.side)) (fun i=>[yD i.b])
structure Top where
 has1:Bool
 has2:Bool
 p1:Int
 p2:Int
 q1:Int
 q2:Int
 deriving DecidableEq
def zU (t:Top):List D:=[.v (.bool t.has1),.v (.bool t.has2),.v (.int .i64 t.p1),.v (.int .i64 t.p2),.v (.int .i64 t.q1),.v (.int .i64 t.q2)]
def top0:Top:=⟨false,false,0,0,0,0⟩
def Top.buy (t:Top) (x:Lv×Bool):Top:=if x.2 then{t with has1:=true,p1:=x.1.price,q1:=x.1.qty}else t
def Top.sell (t:Top) (x:Lv×Bool):Top:=if x.2 then{t with has2:=true,p2:=x.1.price,q2:=x.1.qty}else t
def Book.top (b:Book):Top:=(top0.buy (b.best b.buys)).sell (b.best b.sells)
def MSt.tops (s:MSt):List Top:=s.books.map Book.top
@[reducible] def MSt.cntOk (s:MSt):Prop:=s.books.length≤1000000∧∀b∈s.books,b.cntOk
def topsC:Con:=con1 MSt (fun _=>[.nm 0 0]) (fun s=>[zE s]) MSt.cntOk (fun s=> .own 1) (fun s=>[zE s,.own 55 6 (s.tops.map zU)])
def xX (s:MSt) (j:Nat) (x:Top):List Top:=(s.tops.take j)++x::List.replicate (s.books.length-j-1) top0
def x3 (s:MSt) (j:Nat):List Top:=(s.tops.take j)++List.replicate (s.books.length-j) top0
def yHx (s:MSt):List SAnn:=[
 {ι:=Nat,slots:=fun j=>[(3,.own 0),(21,zA j)],rows:=fun j=>[.own 55 6 ((x3 s j).map zU)]},
 {ι:=Unit,slots:=fun _=>[],rows:=fun _=>[],un:=3}]
def yJa (s:MSt):List (Nat×SAnn):=[(15,{ι:=Nat×Top,slots:=fun x=>[(3,.own 0)],slots0:=fun x=>[(3,.own 0)],rows0:=fun x=>[.own 55 6 ((xX s x.1 x.2).map zU)],rows:=fun x=>[.own 55 6 ((xX s x.1 x.2).map zU)]})]
def yLh (s:MSt):List SAnn:=[{ι:=Nat,slots:=fun j=>[(3,.nm 0 0),(22,zA j)],rows:=fun j=>(List.range 5).map (xR ⟨s.p,s.books.take j,s.wh⟩)}]
open Go Cv Go.Proofs
def k9 (a:ArN):Prop:=a.a.free=a.a.free∧List.map zR a.a.slots=List.map zR a.a.slots∧List.map zO a.a.queues=List.map zO a.a.queues∧True
def sA (a:ArN):Prop:=∃(b:Unit),(a.a.qAt a.n).total=0∧k9 a
def g8 (a:ArN):=(↑(List.map zO a.a.queues).length:Int)
def z3p (i:ArN):Prop:=
 cnd (decide (i.n≥0)) (cnd (!decide (i.n<(g8 i))) (sA i) ((0≤i.n∧i.n<(g8 i))∧∃(a:Int),zF (List.map zO i.a.queues) i.n.toNat ((0:Nat)+(2:Nat)) 1=some [dI a]∧∃(b:Unit),(i.a.qAt i.n).total=a∧k9 i)) (sA i)
def rI (a:ArN):Prop:=∃(b:Unit),(a.a.qAt a.n).count=0∧k9 a
def z2p (i:ArN):Prop:=
 cnd (decide (i.n≥0)) (cnd (!decide (i.n<(g8 i))) (rI i) ((0≤i.n∧i.n<(g8 i))∧∃(a:Int),zF (List.map zO i.a.queues) i.n.toNat ((0:Nat)+(3:Nat)) 1=some [dI a]∧∃(b:Unit),(i.a.qAt i.n).count=a∧k9 i)) (rI i)
def vJ (a:Int):=(decide (a=1)||decide (a=2))
def yOz (n:Int):Prop:=
 cnd (n==1) (∃(a:Unit),(vJ n)=true∧True) (∃(a:Unit),(vJ n)=(n==2)∧True)
def yQk (i:BkR):Prop:=
 ∃(i_1:ArN),i_1.n=i.r.queue∧AObj.adt Arena 3 zG i_1.a=AObj.adt Arena 3 zG i.b.a∧True∧∀(o:Unit),True→i.r.queue=i.r.queue∧True∧i.r.price=i.r.price∧∃(i_2:ArN),i_2.n=i.r.queue∧AObj.adt Arena 3 zG i_2.a=AObj.adt Arena 3 zG i_1.a∧True∧∀(o:Unit),True→i.r.price=i.r.price∧∃(o:Unit),i.r.price=i.r.price∧(i.b.a.qAt i.r.queue).total=(i_1.a.qAt i_1.n).total∧(i.b.a.qAt i.r.queue).count=(i_2.a.qAt i_2.n).count∧i.b.top1=i.b.top1∧i.b.top2=i.b.top2∧i.b.has1=i.b.has1∧i.b.has2=i.b.has2∧AObj.adt Arena 3 zG i.b.a=AObj.adt Arena 3 zG i_2.a∧List.map zC i.b.buys=List.map zC i.b.buys∧List.map zC i.b.sells=List.map zC i.b.sells∧atE i.b.at_=atE i.b.at_∧iE i.b.spare=iE i.b.spare∧True
def yMt (b:Book):Prop:=
 ∃(i:Int),i=1∧True∧∀(o:Unit),True→cnd (!(decide (i=1)||decide (i=2))) (∃(o:Unit),(b.best b.buys).fst.price=0∧(b.best b.buys).fst.qty=0∧(b.best b.buys).fst.count=0∧(b.best b.buys).snd=false∧b.top1=b.top1∧b.top2=b.top2∧b.has1=b.has1∧b.has2=b.has2∧AObj.adt Arena 3 zG b.a=AObj.adt Arena 3 zG b.a∧List.map zC b.buys=List.map zC b.buys∧List.map zC b.sells=List.map zC b.sells∧atE b.at_=atE b.at_∧iE b.spare=iE b.spare∧True) (cnd ((↑(List.map zC b.buys).length:Int)==0) (∃(o:Unit),(b.best b.buys).fst.price=0∧(b.best b.buys).fst.qty=0∧(b.best b.buys).fst.count=0∧(b.best b.buys).snd=false∧b.top1=b.top1∧b.top2=b.top2∧b.has1=b.has1∧b.has2=b.has2∧AObj.adt Arena 3 zG b.a=AObj.adt Arena 3 zG b.a∧List.map zC b.buys=List.map zC b.buys∧List.map zC b.sells=List.map zC b.sells∧atE b.at_=atE b.at_∧iE b.spare=iE b.spare∧True) (((0:Int)≤(0:Int)∧0<(↑(List.map zC b.buys).length:Int))∧∃(n:Int),∃(n_1:Int),zF (List.map zC b.buys) (Int.toNat 0) 0 2=some [D.v (.int .i64 n),D.v (.int .i64 n_1)]∧∃(i:BkR),i.r.price=n∧i.r.queue=n_1∧i.b.top1=b.top1∧i.b.top2=b.top2∧i.b.has1=b.has1∧i.b.has2=b.has2∧AObj.adt Arena 3 zG i.b.a=AObj.adt Arena 3 zG b.a∧List.map zC i.b.buys=List.map zC b.buys∧List.map zC i.b.sells=List.map zC b.sells∧atE i.b.at_=atE b.at_∧iE i.b.spare=iE b.spare∧(∀(q:fF),q∈i.b.a.queues→(-9223372036854775808)≤q.count∧q.count≤9223372036854775807)∧∀(o:Unit),True→∃(o:Unit),(b.best b.buys).fst.price=i.r.price∧(b.best b.buys).fst.qty=(i.b.a.qAt i.r.queue).total∧(b.best b.buys).fst.count=(i.b.a.qAt i.r.queue).count∧(b.best b.buys).snd=true∧yD b=yD i.b∧True))
def yKg (b:Book):Prop:=
 ∃(i:Int),i=2∧True∧∀(o:Unit),True→cnd (!(decide (i=1)||decide (i=2))) (∃(o:Unit),(b.best b.sells).fst.price=0∧(b.best b.sells).fst.qty=0∧(b.best b.sells).fst.count=0∧(b.best b.sells).snd=false∧b.top1=b.top1∧b.top2=b.top2∧b.has1=b.has1∧b.has2=b.has2∧AObj.adt Arena 3 zG b.a=AObj.adt Arena 3 zG b.a∧List.map zC b.buys=List.map zC b.buys∧List.map zC b.sells=List.map zC b.sells∧atE b.at_=atE b.at_∧iE b.spare=iE b.spare∧True) (cnd ((↑(List.map zC b.sells).length:Int)==0) (∃(o:Unit),(b.best b.sells).fst.price=0∧(b.best b.sells).fst.qty=0∧(b.best b.sells).fst.count=0∧(b.best b.sells).snd=false∧b.top1=b.top1∧b.top2=b.top2∧b.has1=b.has1∧b.has2=b.has2∧AObj.adt Arena 3 zG b.a=AObj.adt Arena 3 zG b.a∧List.map zC b.buys=List.map zC b.buys∧List.map zC b.sells=List.map zC b.sells∧atE b.at_=atE b.at_∧iE b.spare=iE b.spare∧True) (((0:Int)≤(0:Int)∧0<(↑(List.map zC b.sells).length:Int))∧∃(n:Int),∃(n_1:Int),zF (List.map zC b.sells) (Int.toNat 0) 0 2=some [D.v (.int .i64 n),D.v (.int .i64 n_1)]∧∃(i:BkR),i.r.price=n∧i.r.queue=n_1∧i.b.top1=b.top1∧i.b.top2=b.top2∧i.b.has1=b.has1∧i.b.has2=b.has2∧AObj.adt Arena 3 zG i.b.a=AObj.adt Arena 3 zG b.a∧List.map zC i.b.buys=List.map zC b.buys∧List.map zC i.b.sells=List.map zC b.sells∧atE i.b.at_=atE b.at_∧iE i.b.spare=iE b.spare∧(∀(q:fF),q∈i.b.a.queues→(-9223372036854775808)≤q.count∧q.count≤9223372036854775807)∧∀(o:Unit),True→∃(o:Unit),(b.best b.sells).fst.price=i.r.price∧(b.best b.sells).fst.qty=(i.b.a.qAt i.r.queue).total∧(b.best b.sells).fst.count=(i.b.a.qAt i.r.queue).count∧(b.best b.sells).snd=true∧yD b=yD i.b∧True))
def zEk (a:MSt):Prop:=Sx.AObj.map (zV a.wh)=Sx.AObj.map (zV a.wh)∧AObj.fro 1 (iE a.p.months)=AObj.fro 1 (iE a.p.months)∧AObj.fro 1 (iE a.p.settle)=AObj.fro 1 (iE a.p.settle)
def zBy (a:Nat×Top→Prop) (b:Nat×Top) (c:MSt) (d:Nat) (e:Book):Prop:=a b∧AObj.own 3 1 [[dI 1],[dI 2]]=AObj.own 3 1 [[dI 1],[dI 2]]∧Sx.AObj.cells (gC (jB 0 1 5) [sV c.p.code,V.own 3,zA c.p.tick,zA c.p.low,zA c.p.high,zA c.p.wide,zA c.p.rule,zA c.p.top,zA c.p.least,zA c.p.part,V.own 4,V.own 1,V.mp 2]) (101:TypeId)=Sx.AObj.cells (gC (jB 0 1 5) [sV c.p.code,V.own 3,zA c.p.tick,zA c.p.low,zA c.p.high,zA c.p.wide,zA c.p.rule,zA c.p.top,zA c.p.least,zA c.p.part,V.own 4,V.own 1,V.mp 2]) (101:TypeId)∧AObj.objs 102 Book 6 zT (c.books.set (↑d:Int).toNat e) none=AObj.objs 102 Book 6 zT c.books none∧zEk c
def zIq (a:MSt) (b:Nat×Top) (c:Nat×Top→Prop) (d:Nat) (e:Book):Prop:=∃(f:Nat×Top),List.map zU (xX a f.fst f.snd)=List.map zU (xX a b.fst b.snd)∧zBy c f a d e
def uK (a:MSt) (b:Nat×Top):=(List.map zU (xX a b.fst b.snd))
def cW (a:MSt) (b:Nat×Top) (c:Nat):=(yB (uK a b) (↑c:Int).toNat ((0:Nat)+(0:Nat)+(nat_lit 0+nat_lit 1) % ((2:Int) ^ IntKind.i64.bits).natAbs*1) [D.v (.bool true)])
def zX (a:BkS):=(a.b.best (a.b.side a.side))
def f8 (a:BkS):=((zX a).fst.price)
def f0 (a:MSt) (b:Nat×Top) (c:Nat) (d:BkS):=(yB (cW a b c) (↑c:Int).toNat ((0:Nat)+(2:Nat)+(nat_lit 0+nat_lit 1) % ((2:Int) ^ IntKind.i64.bits).natAbs*1) [dI (f8 d)])
def eJ (a:Nat) (b:MSt) (c:Nat×Top) (d:BkS):Prop:=(0≤(↑a:Int)∧(↑a:Int)<(↑(f0 b c a d).length:Int))∧(↑a:Int).toNat=(↑a:Int).toNat
def cX (a:MSt) (b:Nat×Top) (c:Nat):=(yB (uK a b) (↑c:Int).toNat ((0:Nat)+(0:Nat)+nat_lit 0*1) [D.v (.bool true)])
def fY (a:MSt) (b:Nat×Top) (c:Nat) (d:BkS):=(yB (cX a b c) (↑c:Int).toNat ((0:Nat)+(2:Nat)+nat_lit 0*1) [dI (f8 d)])
def eH (a:Nat) (b:MSt) (c:Nat×Top) (d:BkS):Prop:=(0≤(↑a:Int)∧(↑a:Int)<(↑(fY b c a d).length:Int))∧(↑a:Int).toNat=(↑a:Int).toNat
def bG (a:Nat) (b:MSt) (c:Nat×Top):Prop:=(0≤(↑a:Int)∧(↑a:Int)<(↑(cW b c a).length:Int))∧(↑a:Int).toNat=(↑a:Int).toNat
def cZ (a:Nat) (b:MSt) (c:Nat×Top):Prop:=(0≤(↑a:Int)∧(↑a:Int)<(↑(cX b c a).length:Int))∧(↑a:Int).toNat=(↑a:Int).toNat
def tO (a:MSt):Prop:=0≤(↑a.books.length:Int)∧(↑a.books.length:Int)≤(↑a.books.length:Int)∧(↑a.books.length:Int)≤9223372036854775807∧(↑(40:Nat):Int)*(↑a.books.length:Int)≤2 ^ (48:Nat)
def x7 (a:fF):Prop:=(-9223372036854775808)≤a.count∧a.count≤9223372036854775807
def wU (a:BkS):Prop:=∀(b:fF),b∈a.b.a.queues→x7 b
def qT (a:Nat) (b:MSt) (c:Nat×Top):Prop:=0≤(↑a:Int)∧(↑a:Int)<(↑(uK b c).length:Int)
def uC (a:BkS):=((zX a).fst.qty)
def yHz (s:MSt):Prop:=
 (tO s)∧∃(a:Nat),(↑a:Int)=0∧List.map zU (x3 s a)=List.replicate (↑s.books.length:Int).toNat [D.v (.bool false),D.v (.bool false),dI 0,dI 0,dI 0,dI 0]∧∃(b:Nat→Prop),∃(c:Nat→Nat),b a∧∀(d:Nat),b d→cnd (decide ((↑d:Int)<(↑s.books.length:Int))) ((0≤(↑d:Int)∧(↑d:Int)<(↑s.books.length:Int))∧(↑d:Int).toNat<s.books.length∧∃(e:Nat×Top),List.map zU (xX s e.fst e.snd)=List.map zU (x3 s d)∧∃(f:Nat×Top→Prop),(((0:Int)≤(0:Int)∧0<(↑(2:Nat):Int))∧∃(g:Int),zF [[dI 1],[dI 2]] (Int.toNat 0) 0 1=some [dI g]∧∃(h:Book),s.books[(↑d:Int).toNat]?=some h∧∃(j:BkS),zB j.side=g∧yD j.b=yD h∧(wU j)∧∀(k:Unit),True→∃(l:Book),yD j.b=yD l∧(↑d:Int).toNat=(↑d:Int).toNat∧(↑d:Int).toNat<s.books.length∧cnd (zX j).snd ((qT d s e)∧(qT d s e)∧(qT d s e)∧(↑d:Int).toNat<(uK s e).length∧(cZ d s e)∧(cZ d s e)∧(zX j).fst.qty=(zX j).fst.qty∧(zX j).fst.price=(zX j).fst.price∧(↑d:Int).toNat<(cX s e d).length∧(eH d s e j)∧(zX j).fst.qty=(zX j).fst.qty∧(↑d:Int).toNat<(fY s e d j).length∧∃(m:Nat×Top),List.map zU (xX s m.fst m.snd)=yB (fY s e d j) (↑d:Int).toNat ((0:Nat)+(4:Nat)+nat_lit 0*1) [dI (uC j)]∧zBy f m s d l) (zIq s e f d l))∧∀(g:Nat×Top),f g→∃(h:Nat×Top),List.map zU (xX s h.fst h.snd)=List.map zU (xX s g.fst g.snd)∧∃(j:Nat×Top→Prop),((0≤IntKind.i64.wrap ((0:Int)+(1:Int))∧IntKind.i64.wrap ((0:Int)+(1:Int))<(↑(2:Nat):Int))∧∃(k:Int),zF [[dI 1],[dI 2]] (IntKind.i64.wrap ((0:Int)+(1:Int))).toNat 0 1=some [dI k]∧∃(l:Book),s.books[(↑d:Int).toNat]?=some l∧∃(m:BkS),zB m.side=k∧yD m.b=yD l∧(wU m)∧∀(n:Unit),True→∃(p:Book),yD m.b=yD p∧(↑d:Int).toNat=(↑d:Int).toNat∧(↑d:Int).toNat<s.books.length∧cnd (zX m).snd ((qT d s h)∧(qT d s h)∧(qT d s h)∧(↑d:Int).toNat<(uK s h).length∧(bG d s h)∧(bG d s h)∧(zX m).fst.qty=(zX m).fst.qty∧(zX m).fst.price=(zX m).fst.price∧(↑d:Int).toNat<(cW s h d).length∧(eJ d s h m)∧(zX m).fst.qty=(zX m).fst.qty∧(↑d:Int).toNat<(f0 s h d m).length∧∃(q:Nat×Top),List.map zU (xX s q.fst q.snd)=yB (f0 s h d m) (↑d:Int).toNat ((0:Nat)+(4:Nat)+(nat_lit 0+nat_lit 1) % ((2:Int) ^ IntKind.i64.bits).natAbs*1) [dI (uC m)]∧zBy j q s d p) (zIq s h j d p))∧∀(k:Nat×Top),j k→∃(l:Nat),(↑l:Int)=IntKind.i64.wrap ((↑d:Int)+1)∧List.map zU (x3 s l)=List.map zU (xX s k.fst k.snd)∧b l∧c l<c d∧Sx.AObj.cells (gC (jB 0 1 5) [sV s.p.code,V.own 3,zA s.p.tick,zA s.p.low,zA s.p.high,zA s.p.wide,zA s.p.rule,zA s.p.top,zA s.p.least,zA s.p.part,V.own 4,V.own 1,V.mp 2]) (101:TypeId)=Sx.AObj.cells (gC (jB 0 1 5) [sV s.p.code,V.own 3,zA s.p.tick,zA s.p.low,zA s.p.high,zA s.p.wide,zA s.p.rule,zA s.p.top,zA s.p.least,zA s.p.part,V.own 4,V.own 1,V.mp 2]) (101:TypeId)∧AObj.objs 102 Book 6 zT s.books none=AObj.objs 102 Book 6 zT s.books none∧zEk s) (∃(e:Unit),sb s.p.code=sb s.p.code∧s.p.tick=s.p.tick∧s.p.low=s.p.low∧s.p.high=s.p.high∧s.p.wide=s.p.wide∧s.p.rule=s.p.rule∧s.p.top=s.p.top∧s.p.least=s.p.least∧s.p.part=s.p.part∧AObj.objs 102 Book 6 zT s.books none=AObj.objs 102 Book 6 zT s.books none∧zV s.wh=zV s.wh∧AObj.fro 1 (iE s.p.months)=AObj.fro 1 (iE s.p.months)∧AObj.fro 1 (iE s.p.settle)=AObj.fro 1 (iE s.p.settle)∧List.map zU s.tops=List.map zU (x3 s d)∧True)
def yKm (s:MSt):Prop:=
 ∃(i:List (Value×List D)),i=zV s.wh∧True∧∀(o:Unit),True→(sb s.p.code=sb s.p.code∧True∧s.p.tick=s.p.tick∧s.p.low=s.p.low∧s.p.high=s.p.high∧s.p.wide=s.p.wide∧s.p.rule=s.p.rule∧s.p.top=s.p.top∧s.p.least=s.p.least∧s.p.part=s.p.part∧True∧True)∧∃(i0:Nat),(↑i0:Int)=0∧sb s.p.code=sb s.p.code∧s.p.tick=s.p.tick∧s.p.low=s.p.low∧s.p.high=s.p.high∧s.p.wide=s.p.wide∧s.p.rule=s.p.rule∧s.p.top=s.p.top∧s.p.least=s.p.least∧s.p.part=s.p.part∧List.take i0 s.books=[]∧(none:Option Nat)=none∧zV s.wh=i∧AObj.fro 1 (iE s.p.months)=AObj.fro 1 (iE s.p.months)∧AObj.fro 1 (iE s.p.settle)=AObj.fro 1 (iE s.p.settle)∧∃(I:Nat→Prop),∃(μ:Nat→Nat),I i0∧∀(i_1:Nat),I i_1→cnd (decide ((↑i_1:Int)<(↑s.books.length:Int))) ((0≤(↑i_1:Int)∧(↑i_1:Int)<(↑s.books.length:Int))∧(↑i_1:Int).toNat<s.books.length∧∃(x:Book),s.books[(↑i_1:Int).toNat]?=some x∧∃(i_2:Book),yD i_2=yD x∧((i_2.a.slots.length≤1000000∧i_2.a.queues.length≤1000000)∧i_2.buys.length≤1000000∧i_2.sells.length≤1000000∧i_2.spare.length≤1000000)∧∀(o:Unit),True→∃(x:Book),yD i_2=yD x∧(↑i_1:Int).toNat=(↑i_1:Int).toNat∧(↑i_1:Int).toNat<s.books.length∧True∧True∧∃(l1':List Book),AObj.objs 102 Book 6 zT (List.take i_1 s.books) none=AObj.objs 102 Book 6 zT l1' none∧(l1'.length+1)*(8:Nat)≤(70368744177664:Nat)∧∃(i':Nat),(↑i':Int)=IntKind.i64.wrap ((↑i_1:Int)+1)∧sb s.p.code=sb s.p.code∧s.p.tick=s.p.tick∧s.p.low=s.p.low∧s.p.high=s.p.high∧s.p.wide=s.p.wide∧s.p.rule=s.p.rule∧s.p.top=s.p.top∧s.p.least=s.p.least∧s.p.part=s.p.part∧AObj.objs 102 Book 6 zT (List.take i' s.books) none=AObj.objs 102 Book 6 zT (l1'++[i_2]) none∧zV s.wh=zV s.wh∧AObj.fro 1 (iE s.p.months)=AObj.fro 1 (iE s.p.months)∧AObj.fro 1 (iE s.p.settle)=AObj.fro 1 (iE s.p.settle)∧I i'∧μ i'<μ i_1∧Sx.AObj.map i=Sx.AObj.map i∧Sx.AObj.cells (gC (jB 0 1 5) [sV s.p.code,V.own 3,zA s.p.tick,zA s.p.low,zA s.p.high,zA s.p.wide,zA s.p.rule,zA s.p.top,zA s.p.least,zA s.p.part,V.own 4,V.own 1,V.mp 2]) (101:TypeId)=Sx.AObj.cells (gC (jB 0 1 5) [sV s.p.code,V.own 3,zA s.p.tick,zA s.p.low,zA s.p.high,zA s.p.wide,zA s.p.rule,zA s.p.top,zA s.p.least,zA s.p.part,V.own 4,V.own 1,V.mp 2]) (101:TypeId)∧AObj.objs 102 Book 6 zT (s.books.set (↑i_1:Int).toNat x) none=AObj.objs 102 Book 6 zT s.books none∧AObj.fro 1 (iE s.p.months)=AObj.fro 1 (iE s.p.months)∧AObj.fro 1 (iE s.p.settle)=AObj.fro 1 (iE s.p.settle)) (∃(o:Unit),sb s.p.code=sb s.p.code∧s.p.tick=s.p.tick∧s.p.low=s.p.low∧s.p.high=s.p.high∧s.p.wide=s.p.wide∧s.p.rule=s.p.rule∧s.p.top=s.p.top∧s.p.least=s.p.least∧s.p.part=s.p.part∧AObj.objs 102 Book 6 zT s.books none=AObj.objs 102 Book 6 zT s.books none∧zV s.wh=i∧AObj.fro 1 (iE s.p.months)=AObj.fro 1 (iE s.p.months)∧AObj.fro 1 (iE s.p.settle)=AObj.fro 1 (iE s.p.settle)∧sb s.p.code=sb s.p.code∧s.p.tick=s.p.tick∧s.p.low=s.p.low∧s.p.high=s.p.high∧s.p.wide=s.p.wide∧s.p.rule=s.p.rule∧s.p.top=s.p.top∧s.p.least=s.p.least∧s.p.part=s.p.part∧AObj.objs 102 Book 6 zT s.books none=AObj.objs 102 Book 6 zT (List.take i_1 s.books) none∧zV s.wh=zV s.wh∧AObj.fro 1 (iE s.p.months)=AObj.fro 1 (iE s.p.months)∧AObj.fro 1 (iE s.p.settle)=AObj.fro 1 (iE s.p.settle)∧True)
open Go Cv Go.Proofs
theorem elA {α:Type} {f:α→List D} {l:List α} {i g n:Nat} {x:α} {r:List D} (h:l[i]? =some x) (hn:g+n≤(f x).length) (hr:((f x).drop g).take n=r):zF (l.map f) i g n=some r:=by
 unfold zF
 rw[yUd,h]
 simp only[yUp,Nat.ble_eq_true_of_le hn,cond_true,hr]
theorem zTi {a:Arena} {n:Int} {q:fF} (h0:0≤n) (h:a.queues[n.toNat]? =some q):a.qAt n=q:=by
 have:=(ySl.1 h).1
 rw[Arena.qAt,ySk ⟨h0,by omega⟩,ySn,h];rfl
theorem zId {a:Arena} {n:Int} (h:¬(0≤n∧n<a.queues.length)):a.qAt n=⟨0,0,0,0⟩:=by rw[Arena.qAt,ySj h]
theorem z6i:atotalC.ok Tryz.prog 106:=okw (V:=z3p) mixed gok0 1 (fun _=>[]) (fun _=>[]) [0] Tryz.func106 fun(i:ArN) _=>by
 unfold z3p g8 sA k9 dI
 simp only[ySm]
 refine zL (fun c=>Cv.cnd.mk (fun d=> ?_) (fun d=> ?_)) (fun c=> ?_)
 ·have d:¬i.n<(i.a.queues.length:Int):=by simpa using d
  rw[zId (by omega)];exact kp
 ·have d:i.n<(i.a.queues.length:Int):=by simpa using d
  obtain⟨q,hq⟩:=z9 (l:=i.a.queues) (i:=i.n.toNat) (by omega)
  rw[zTi (by omega) hq]
  refine⟨⟨by omega,by omega⟩,q.total,elA hq (by simp[zO]) rfl,?_⟩;exact kp
 ·rw[zId (by omega)];exact kp
theorem zEu:acountC.ok Tryz.prog 107:=okw (V:=z2p) mixed gok0 1 (fun _=>[]) (fun _=>[]) [0] Tryz.func107 fun(i:ArN) _=>by
 unfold z2p g8 rI k9 dI
 simp only[ySm]
 refine zL (fun c=>Cv.cnd.mk (fun d=> ?_) (fun d=> ?_)) (fun c=> ?_)
 ·have d:¬i.n<(i.a.queues.length:Int):=by simpa using d
  rw[zId (by omega)];exact kp
 ·have d:i.n<(i.a.queues.length:Int):=by simpa using d
  obtain⟨q,hq⟩:=z9 (l:=i.a.queues) (i:=i.n.toNat) (by omega)
  rw[zTi (by omega) hq]
  refine⟨⟨by omega,by omega⟩,q.count,elA hq (by simp[zO]) rfl,?_⟩;exact kp
 ·rw[zId (by omega)];exact kp
theorem zFc:bisC.ok Tryz.prog 80:=okw (V:=yOz) mixed gok0 0 (fun _=>[]) (fun _=>[]) [] Tryz.func80 fun(n:Int) _=>by
 unfold yOz vJ
 refine Cv.cnd.mk (fun c=>⟨(),?_,trivial⟩) (fun c=>⟨(),?_,trivial⟩)
 all_goals simp at c
 ·simp[c]
 ·by_cases h:n=2<;>simp[c,h]
theorem z1u:toldC.ok Tryz.prog 81:=okw (V:=yQk) mixed (gokc z6i (gokc zEu gok0)) 0 (fun _=>[]) (fun _=>[]) [0] Tryz.func81 fun(i:BkR) h=>by
 refine⟨⟨i.b.a,i.r.queue⟩,?_⟩;(repeat'(first|exact rfl|exact trivial|assumption|apply And.intro|refine fun(_:Unit) (_:True)=>?_|refine Exists.intro () ?_|omega|(dsimp only;omega)))
 refine⟨⟨i.b.a,i.r.queue⟩,?_⟩;exact kp
theorem yDh:best1C.ok Tryz.prog 49:=okw (V:=yMt) mixed (gokc zFc (gokc z1u gok0)) 0 (fun _=>[]) (fun _=>[]) [0] Tryz.func49 fun(b:Book) h=>by
 have h:b.cntOk:=h
 refine⟨1,rfl,trivial,fun _ _=>Cv.cnd.mk (fun c=>absurd c (by decide)) fun _=> ?_⟩
 simp only[ySm]
 refine Cv.cnd.mk (fun c=> ?_) (fun c=> ?_)
 ·have hl:b.buys=[]:=yTs (by have:(b.buys.length:Int)=0:=(by simpa using c);omega)
  have e:b.best b.buys=(⟨0,0,0⟩,false):=by rw[hl];rfl
  rw[e];exact kp
 ·obtain⟨r,l,hl⟩:∃r l,b.buys=r::l:=by
   cases hb:b.buys with
   |nil=>rw[hb]at c;exact absurd c (by decide)
   |cons r l=>exact⟨r,l,rfl⟩
  have e:b.best b.buys=(b.told r,true):=by rw[hl];rfl
  rw[e]
  refine⟨⟨by omega,by rw[hl,yTc];omega⟩,r.price,r.queue,elA (x:=r) (by rw[hl];rfl) (by simp[zC]) rfl,⟨b,r⟩,?_⟩
  exact kp
theorem z8b:best2C.ok Tryz.prog 49:=okw (V:=yKg) mixed (gokc zFc (gokc z1u gok0)) 0 (fun _=>[]) (fun _=>[]) [0] Tryz.func49 fun(b:Book) h=>by
 have h:b.cntOk:=h
 refine⟨2,rfl,trivial,fun _ _=>Cv.cnd.mk (fun c=>absurd c (by decide)) fun _=> ?_⟩
 simp only[ySm]
 refine Cv.cnd.mk (fun c=> ?_) (fun c=> ?_)
 ·have hl:b.sells=[]:=yTs (by have:(b.sells.length:Int)=0:=(by simpa using c);omega)
  have e:b.best b.sells=(⟨0,0,0⟩,false):=by rw[hl];rfl
  rw[e];exact kp
 ·obtain⟨r,l,hl⟩:∃r l,b.sells=r::l:=by
   cases hb:b.sells with
   |nil=>rw[hb]at c;exact absurd c (by decide)
   |cons r l=>exact⟨r,l,rfl⟩
  have e:b.best b.sells=(b.told r,true):=by rw[hl];rfl
  rw[e]
  refine⟨⟨by omega,by rw[hl,yTc];omega⟩,r.price,r.queue,elA (x:=r) (by rw[hl];rfl) (by simp[zC]) rfl,⟨b,r⟩,?_⟩
  exact kp
theorem zHz:bestC.ok Tryz.prog 49:=fun i=>match i with
 |⟨false,b⟩=>yDh b
 |⟨true,b⟩=>z8b b
theorem zMn {α:Type} (f:α→α) (x:α) (b:List α):∀a:List α,(a++x::b).modify a.length f=a++f x::b
 |[]=>rfl
 |y::a=>by
  show y::(a++x::b).modify a.length f=_
  rw[zMn f x b a];rfl
theorem zQc {els:List (List D)} {a b:List (List D)} {x y ds:List D} {j f:Nat} (h:els=a++x::b) (hl:a.length=j) (hy:x.take f++(ds++x.drop (f+ds.length))=y):yB els j f ds=a++y::b:=by
 rw[yB,h,← hl,zMn,hy]
theorem qY {s:MSt} {j:Nat} {x y:Top} {f:Nat} {ds:List D} (hj:j<s.books.length) (hy:(zU x).take f++(ds++(zU x).drop (f+ds.length))=zU y):
 yB (List.map zU (xX s j x)) j f ds=List.map zU (xX s j y):=by
 rw[zQc (a:=(s.tops.take j).map zU) (b:=(List.replicate (s.books.length-j-1) top0).map zU) (by rw[xX,ySv,ySs]) (by
  rw[ySm,yTi,MSt.tops,ySm];omega) hy,xX,ySv,ySs]
theorem zKg {s:MSt} {j:Nat} {x:Top} (hj:j<s.books.length):(xX s j x).length=s.books.length:=by
 rw[xX,ySr,yTc,yTi,MSt.tops,ySm,yVb];omega
theorem zHe {s:MSt} {j:Nat} (hj:j<s.books.length):xX s j top0=x3 s j:=by
 rw[xX,x3]
 obtain⟨m,hm⟩:∃m,s.books.length-j=m+1:=⟨s.books.length-j-1,by omega⟩
 rw[hm,yWp];rfl
theorem zGm {s:MSt} {j:Nat} {b:Book} (hb:s.books[j]? =some b):xX s j b.top=x3 s (j+1):=by
 have hj:=(ySl.1 hb).1
 rw[xX,x3,yUm,show s.tops[j]? =some b.top by rw[MSt.tops,yUd,hb];rfl]
 simp only[yWz,ySw,yTy,yUy]
 rw[show s.books.length-j-1=s.books.length-(j+1)by omega]
theorem fC {α:Type} {l:List α} {j:Nat} {x:α} (h:l[j]? =some x):l.set j x=l:=by
 obtain⟨hj,rfl⟩:=ySl.1 h
 exact List.set_getElem_self hj
theorem yPs (s:MSt) (h:topsC.cnd s):yHz s:=by
 obtain⟨h1,h2⟩:s.cntOk:=h
 unfold yHz zIq zBy uC qT wU x7 zEk tO cZ bG eH fY cX eJ f0 f8 zX cW uK dI
 have p48:(2:Int) ^ (48:Nat)=281474976710656:=by decide
 refine⟨⟨by omega,by omega,by omega,by rw[p48];omega⟩,0,rfl,?_,fun j=>j≤s.books.length,fun j=>s.books.length-j,by omega,fun j hj=>zL (fun hlt=> ?_) (fun hlt=> ?_)⟩
 ·rw[x3,ySv,yYa];rfl
 ·have hj':j<s.books.length:=by omega
  obtain⟨b,hb⟩:=z9 hj'
  have hc:=h2 b (ySt hb)
  simp only[ySy]
  have ha:∀x,(List.map zU (xX s j x)).length=s.books.length:=fun x=>by rw[ySm,zKg hj']
  have w1:IntKind.i64.wrap (0+1)=1:=by decide
  have w2:(0+1) % ((2:Int) ^ IntKind.i64.bits).natAbs=1:=by decide
  refine⟨⟨by omega,by omega⟩,by omega,(j,top0),by rw[zHe hj'],fun x=>x=(j,top0.buy (b.best b.buys)),⟨⟨by decide,by decide⟩,1,rfl,b,hb,⟨false,b⟩,rfl,rfl,hc,fun _ _=>⟨b,rfl,kp,by omega,?_⟩⟩,?_⟩
  ·refine Cv.cnd.mk (fun c=> ?_) (fun c=> ?_)
   ·have c:(b.best b.buys).2=true:=c
    have e1:=qY (s:=s) hj' (x:=top0) (y:={top0 with has1:=true}) (f:=0+0+0*1) (ds:=[D.v (.bool true)]) rfl
    have e2:=qY (s:=s) hj' (x:={top0 with has1:=true}) (y:={top0 with has1:=true,p1:=(b.best b.buys).1.price}) (f:=0+2+0*1) (ds:=[D.v (.int .i64 (b.best b.buys).1.price)]) rfl
    have e3:=qY (s:=s) hj' (x:={top0 with has1:=true,p1:=(b.best b.buys).1.price}) (y:={top0 with has1:=true,p1:=(b.best b.buys).1.price,q1:=(b.best b.buys).1.qty}) (f:=0+4+0*1) (ds:=[D.v (.int .i64 (b.best b.buys).1.qty)]) rfl
    dsimp only
    simp only[show b.side false=b.buys from rfl,e1,e2,e3,ha]
    (repeat'(first|exact rfl|exact trivial|assumption|apply And.intro|refine fun(_:Unit) (_:True)=>?_|refine Exists.intro () ?_|omega|(dsimp only;omega)))
    refine⟨(j,{top0 with has1:=true,p1:=(b.best b.buys).1.price,q1:=(b.best b.buys).1.qty}),rfl,?_,?_⟩
    ·rw[Top.buy,ySk c]
    ·(repeat'(first|exact rfl|exact trivial|assumption|apply And.intro|refine fun(_:Unit) (_:True)=>?_|refine Exists.intro () ?_|omega|(dsimp only;omega)))
     rw[fC hb]
   ·have c:(b.best b.buys).2=false:=c
    refine⟨(j,top0),rfl,?_,?_⟩
    ·rw[Top.buy,ySj (by rw[c];simp)]
    ·(repeat'(first|exact rfl|exact trivial|assumption|apply And.intro|refine fun(_:Unit) (_:True)=>?_|refine Exists.intro () ?_|omega|(dsimp only;omega)))
     rw[fC hb]
  ·rintro _ rfl
   rw[w1]
   generalize hx:top0.buy (b.best b.buys)=x
   have hx2:b.top=x.sell (b.best b.sells):=by rw[Book.top,hx]
   refine⟨(j,x),rfl,fun y=>y=(j,b.top),⟨⟨by decide,by decide⟩,2,rfl,b,hb,⟨true,b⟩,rfl,rfl,hc,fun _ _=>⟨b,rfl,kp,by omega,?_⟩⟩,?_⟩
   ·refine Cv.cnd.mk (fun c=> ?_) (fun c=> ?_)
    ·have c:(b.best b.sells).2=true:=c
     have e1:=qY (s:=s) hj' (x:=x) (y:={x with has2:=true}) (f:=0+0+1*1) (ds:=[D.v (.bool true)]) rfl
     have e2:=qY (s:=s) hj' (x:={x with has2:=true}) (y:={x with has2:=true,p2:=(b.best b.sells).1.price}) (f:=0+2+1*1) (ds:=[D.v (.int .i64 (b.best b.sells).1.price)]) rfl
     have e3:=qY (s:=s) hj' (x:={x with has2:=true,p2:=(b.best b.sells).1.price}) (y:={x with has2:=true,p2:=(b.best b.sells).1.price,q2:=(b.best b.sells).1.qty}) (f:=0+4+1*1) (ds:=[D.v (.int .i64 (b.best b.sells).1.qty)]) rfl
     dsimp only
     simp only[w2,show b.side true=b.sells from rfl,e1,e2,e3,ha]
     (repeat'(first|exact rfl|exact trivial|assumption|apply And.intro|refine fun(_:Unit) (_:True)=>?_|refine Exists.intro () ?_|omega|(dsimp only;omega)))
     refine⟨(j,{x with has2:=true,p2:=(b.best b.sells).1.price,q2:=(b.best b.sells).1.qty}),rfl,?_,?_⟩
     ·rw[hx2,Top.sell,ySk c]
     ·(repeat'(first|exact rfl|exact trivial|assumption|apply And.intro|refine fun(_:Unit) (_:True)=>?_|refine Exists.intro () ?_|omega|(dsimp only;omega)))
      rw[fC hb]
    ·have c:(b.best b.sells).2=false:=c
     refine⟨(j,x),rfl,?_,?_⟩
     ·rw[hx2,Top.sell,ySj (by rw[c];simp)]
     ·(repeat'(first|exact rfl|exact trivial|assumption|apply And.intro|refine fun(_:Unit) (_:True)=>?_|refine Exists.intro () ?_|omega|(dsimp only;omega)))
      rw[fC hb]
   ·rintro _ rfl
    refine⟨j+1,by rw[w64 (by omega)];rfl,?_⟩
    refine⟨by dsimp only;rw[zGm hb],?_⟩
    exact kp
 ·have hj:j≤s.books.length:=hj
  obtain rfl:j=s.books.length:=by omega
  have e:x3 s s.books.length=s.tops:=by
   rw[x3,yXz,List.replicate_zero,yTl,yTe (by rw[MSt.tops,ySm];omega)]
  rw[e]
  exact kp
theorem yHg:topsC.ok Tryz.prog 23:=okw mixed (gokc zHz gok0) 0 (fun s=>yJa s) (fun s=>yHx s) [0] Tryz.func23 yPs
theorem zCl:copySC.ok Tryz.prog 48:=okw (V:=yKm) mixed (gokc yGi (gokc yCl gok0)) 0 (fun _=>[]) (fun s=>yLh s) [0] Tryz.func48 fun(s:MSt) h=>by
 obtain⟨h1,h2⟩:s.small:=h
 refine⟨zV s.wh,?_⟩;(repeat'(first|exact rfl|exact trivial|assumption|apply And.intro|refine fun(_:Unit) (_:True)=>?_|refine Exists.intro () ?_|omega|(dsimp only;omega)))
 refine⟨0,?_⟩;(repeat'(first|exact rfl|exact trivial|assumption|apply And.intro|refine fun(_:Unit) (_:True)=>?_|refine Exists.intro () ?_|omega|(dsimp only;omega)))
 refine⟨fun j=>j≤s.books.length,fun j=>s.books.length-j,by omega,fun j hj=>zL (fun hlt=> ?_) (fun hlt=> ?_)⟩
 ·obtain⟨b,hb⟩:=z9 (l:=s.books) (i:=j) (by omega)
  have hs:=h2 b (ySt hb)
  simp only[ySy]
  refine⟨⟨by omega,by omega⟩,by omega,b,hb,b,rfl,hs,fun _ _=>⟨b,rfl,kp,by omega,trivial,trivial,s.books.take j,rfl,?_,j+1,?_⟩⟩
  ·rw[yTi];omega
  ·rw[w64 (by omega),yUm,hb]
   (repeat'(first|exact rfl|exact trivial|assumption|apply And.intro|refine fun(_:Unit) (_:True)=>?_|refine Exists.intro () ?_|omega|(dsimp only;omega)))
   rw[fC hb]
 ·have hj:j≤s.books.length:=hj
  obtain rfl:j=s.books.length:=by omega
  rw[yTe (yTj _)]
  exact kp
open Go Cv Go.Proofs
structure Leg where
 inst:Int
 side:Int
 deriving DecidableEq
structure Quote where
 price:Int
 qty:Int
 a:Leg
 b:Leg
 deriving DecidableEq
def zK (q:Quote):List D:=[.v (.int .i64 q.price),.v (.int .i64 q.qty),.v (.int .i64 q.a.inst),.v (.int .i64 q.a.side),.v (.int .i64 q.b.inst),.v (.int .i64 q.b.side)]
@[reducible] def z0j (q:Quote):V:= .agg [zA q.price,zA q.qty,zA q.a.inst,zA q.a.side,zA q.b.inst,zA q.b.side]
def yKl:Quote:=⟨0,0,⟨0,0⟩,⟨0,0⟩⟩
structure I3' where
 side:Int
 x:Int
 y:Int
def btr (side x y:Int):Bool:=if side=1 then decide (y<x)else decide (x<y)
def iotherC:Con:=con1 Int (fun n=>[zA n]) (fun _=>[]) (fun n=>n=1∨n=2) (fun n=>zA (3-n)) (fun _=>[])
def ibetterC:Con:=con1 I3' (fun i=>[zA i.side,zA i.x,zA i.y]) (fun _=>[]) (fun _=>True) (fun i=>yP (btr i.side i.x i.y)) (fun _=>[])
structure CrI where
 x:Int
 y:Int
 b:Bool
def crossC:Con:=con1 CrI (fun i=>[zA i.x,zA i.y,yP i.b]) (fun _=>[]) (fun _=>True) (fun i=>yP (i.b && decide (i.y≤i.x))) (fun _=>[])
def Top.has (t:Top) (s:Int):Bool:=if s=1 then t.has1 else t.has2
def Top.price (t:Top) (s:Int):Int:=if s=1 then t.p1 else t.p2
def Top.qty (t:Top) (s:Int):Int:=if s=1 then t.q1 else t.q2
def mkq (tops:List Top) (a b:Leg) (less:Bool):List Quote:=
 let x:=tops.getD a.inst.toNat top0
 let y:=tops.getD b.inst.toNat top0
 let r:=if less then uM (y.price b.side) (x.price a.side)else uL (x.price a.side) (y.price b.side)
 if x.has a.side && y.has b.side && r.2 then[⟨r.1,min (x.qty a.side) (y.qty b.side),a,b⟩]else[]
structure MkI where
 tops:List Top
 out:List Quote
 a:Int
 b:Int
 less:Bool
@[reducible] def jU (l:List Top):Prop:=l.length≤1000000∧∀t∈l,yZ t.p1∧yZ t.p2
def MkU (x:List Top×List Quote):Nat→AObj
 |0=> .cells [.own 1,.own 2] 110
 |1=> .fro 6 (x.1.map zU)
 |2=> .own 62 6 (x.2.map zK)
 |_=> .gone
@[reducible] def MkR (tops:List Top) (out:List Quote):List AObj:=[MkU (tops,out) 0,MkU (tops,out) 1,MkU (tops,out) 2]
@[reducible] def MkP (tops:List Top) (out:List Quote):List AObj:=[.cells [.own 1,.own 3] 110,MkU (tops,out) 1,.gone,MkU (tops,out) 2]
def mkC (sa sb:Int):Con:=con1 MkI (fun i=>[.nm 0 0,.agg [zA i.a,zA sa],.agg [zA i.b,zA sb],yP i.less]) (fun i=>MkR i.tops i.out)
 (fun i=>0≤i.a∧i.a<i.tops.length∧0≤i.b∧i.b<i.tops.length∧jU i.tops∧i.out.length≤1000) (fun _=>zWa) (fun i=>MkP i.tops (i.out++mkq i.tops ⟨i.a,sa⟩ ⟨i.b,sb⟩ i.less))
def mk11:Con:=mkC 1 1
def mk12:Con:=mkC 1 2
def mk21:Con:=mkC 2 1
def mk22:Con:=mkC 2 2
open Go Cv Go.Proofs
def yGq (n:Int):Prop:=
 ∃(o:Unit),3-n=IntKind.i64.wrap (3-n)∧True
def z8l (i:I3'):Prop:=
 cnd (i.side==1) (∃(o:Unit),btr i.side i.x i.y=decide (i.x>i.y)∧True) (∃(o:Unit),btr i.side i.x i.y=decide (i.x<i.y)∧True)
def yLl (i:CrI):Prop:=
 cnd i.b (∃(o:Unit),(i.b && decide (i.y≤i.x))=decide (i.x≥i.y)∧True) (∃(o:Unit),(i.b && decide (i.y≤i.x))=false∧True)
def tT (a:MkI):=(a.out++mkq a.tops (Leg.mk a.a 1) (Leg.mk a.b 1) a.less)
def mX (a:MkI):Prop:=∃(b:Unit),AObj.fro 6 (List.map zU a.tops)=MkU (a.tops,a.out) 1∧List.map zK (tT a)=List.map zK a.out∧True
def k7 (a:I2):Prop:=((-9223372036854775808)≤a.x∧a.x≤9223372036854775807)∧(-9223372036854775808)≤a.y∧a.y≤9223372036854775807
def qW (a:MkI):=(↑(List.map zU a.tops).length:Int)
def qA (a:MkI):Prop:=(0≤a.b∧a.b<(qW a))∧a.b.toNat=a.b.toNat
def k6 (a:MkI):Prop:=(0≤a.a∧a.a<(qW a))∧a.a.toNat=a.a.toNat
def kZ (a:MkI):=((List.map zK a.out).length+1)
def zJp (a:MkI) (b:Bool) (c:Bool) (d:Int) (e:Int) (f:Int) (g:Int):Prop:=True∧(qA a)∧a.b=a.b∧True∧True∧(k6 a)∧a.a=a.a∧True∧True∧(qA a)∧a.b=a.b∧True∧True∧(k6 a)∧a.a=a.a∧True∧True∧(qA a)∧a.b=a.b∧True∧cnd (!b) (mX a) (cnd (!c) (mX a) (∃(h:I2),h.x=d∧h.y=e∧(k7 h)∧∀(j:Unit),True→cnd a.less (∃(k:I2),k.x=e∧k.y=d∧(k7 k)∧∀(l:Unit),True→cnd (uM k.x k.y).snd (True∧(kZ a)*(48:Nat)≤(70368744177664:Nat)∧∃(m:Unit),AObj.fro 6 (List.map zU a.tops)=MkU (a.tops,a.out) 1∧List.map zK (tT a)=List.map zK a.out++[[dI ((uM k.x k.y).fst),dI (min f g),dI a.a,dI 1,dI a.b,dI 1]]∧True) (mX a)) (cnd (uL h.x h.y).snd (True∧(kZ a)*(48:Nat)≤(70368744177664:Nat)∧∃(k:Unit),AObj.fro 6 (List.map zU a.tops)=MkU (a.tops,a.out) 1∧List.map zK (tT a)=List.map zK a.out++[[dI ((uL h.x h.y).fst),dI (min f g),dI a.a,dI 1,dI a.b,dI 1]]∧True) (mX a))))
def yJg (i:MkI):Prop:=
 (0≤i.a∧i.a<(qW i))∧∃(a:Bool),∃(b:Bool),∃(c:Int),∃(d:Int),∃(e:Int),∃(f:Int),zF (List.map zU i.tops) i.a.toNat 0 6=some [D.v (.bool a),D.v (.bool b),dI c,dI d,dI e,dI f]∧(0≤i.b∧i.b<(qW i))∧∃(g:Bool),∃(h:Bool),∃(j:Int),∃(k:Int),∃(l:Int),∃(m:Int),zF (List.map zU i.tops) i.b.toNat 0 6=some [D.v (.bool g),D.v (.bool h),dI j,dI k,dI l,dI m]∧(zJp i a g c j e l)∧zJp i a g c j e l
def tM (a:MkI):=(a.out++mkq a.tops (Leg.mk a.a 1) (Leg.mk a.b 2) a.less)
def mB (a:MkI):Prop:=∃(b:Unit),AObj.fro 6 (List.map zU a.tops)=MkU (a.tops,a.out) 1∧List.map zK (tM a)=List.map zK a.out∧True
def zLe (a:MkI) (b:Bool) (c:Bool) (d:Int) (e:Int) (f:Int) (g:Int):Prop:=True∧(qA a)∧a.b=a.b∧True∧True∧(k6 a)∧a.a=a.a∧True∧True∧(qA a)∧a.b=a.b∧True∧True∧(k6 a)∧a.a=a.a∧True∧True∧(qA a)∧a.b=a.b∧True∧cnd (!b) (mB a) (cnd (!c) (mB a) (∃(h:I2),h.x=d∧h.y=e∧(k7 h)∧∀(j:Unit),True→cnd a.less (∃(k:I2),k.x=e∧k.y=d∧(k7 k)∧∀(l:Unit),True→cnd (uM k.x k.y).snd (True∧(kZ a)*(48:Nat)≤(70368744177664:Nat)∧∃(m:Unit),AObj.fro 6 (List.map zU a.tops)=MkU (a.tops,a.out) 1∧List.map zK (tM a)=List.map zK a.out++[[dI ((uM k.x k.y).fst),dI (min f g),dI a.a,dI 1,dI a.b,dI 2]]∧True) (mB a)) (cnd (uL h.x h.y).snd (True∧(kZ a)*(48:Nat)≤(70368744177664:Nat)∧∃(k:Unit),AObj.fro 6 (List.map zU a.tops)=MkU (a.tops,a.out) 1∧List.map zK (tM a)=List.map zK a.out++[[dI ((uL h.x h.y).fst),dI (min f g),dI a.a,dI 1,dI a.b,dI 2]]∧True) (mB a))))
def yIt (i:MkI):Prop:=
 (0≤i.a∧i.a<(qW i))∧∃(a:Bool),∃(b:Bool),∃(c:Int),∃(d:Int),∃(e:Int),∃(f:Int),zF (List.map zU i.tops) i.a.toNat 0 6=some [D.v (.bool a),D.v (.bool b),dI c,dI d,dI e,dI f]∧(0≤i.b∧i.b<(qW i))∧∃(g:Bool),∃(h:Bool),∃(j:Int),∃(k:Int),∃(l:Int),∃(m:Int),zF (List.map zU i.tops) i.b.toNat 0 6=some [D.v (.bool g),D.v (.bool h),dI j,dI k,dI l,dI m]∧(zLe i a h c k e m)∧zLe i a h c k e m
def eB (a:MkI):=(a.out++mkq a.tops (Leg.mk a.a 2) (Leg.mk a.b 1) a.less)
def mL (a:MkI):Prop:=∃(b:Unit),AObj.fro 6 (List.map zU a.tops)=MkU (a.tops,a.out) 1∧List.map zK (eB a)=List.map zK a.out∧True
def zIu (a:MkI) (b:Bool) (c:Bool) (d:Int) (e:Int) (f:Int) (g:Int):Prop:=True∧(qA a)∧a.b=a.b∧True∧True∧(k6 a)∧a.a=a.a∧True∧True∧(qA a)∧a.b=a.b∧True∧True∧(k6 a)∧a.a=a.a∧True∧True∧(qA a)∧a.b=a.b∧True∧cnd (!b) (mL a) (cnd (!c) (mL a) (∃(h:I2),h.x=d∧h.y=e∧(k7 h)∧∀(j:Unit),True→cnd a.less (∃(k:I2),k.x=e∧k.y=d∧(k7 k)∧∀(l:Unit),True→cnd (uM k.x k.y).snd (True∧(kZ a)*(48:Nat)≤(70368744177664:Nat)∧∃(m:Unit),AObj.fro 6 (List.map zU a.tops)=MkU (a.tops,a.out) 1∧List.map zK (eB a)=List.map zK a.out++[[dI ((uM k.x k.y).fst),dI (min f g),dI a.a,dI 2,dI a.b,dI 1]]∧True) (mL a)) (cnd (uL h.x h.y).snd (True∧(kZ a)*(48:Nat)≤(70368744177664:Nat)∧∃(k:Unit),AObj.fro 6 (List.map zU a.tops)=MkU (a.tops,a.out) 1∧List.map zK (eB a)=List.map zK a.out++[[dI ((uL h.x h.y).fst),dI (min f g),dI a.a,dI 2,dI a.b,dI 1]]∧True) (mL a))))
def yIh (i:MkI):Prop:=
 (0≤i.a∧i.a<(qW i))∧∃(a:Bool),∃(b:Bool),∃(c:Int),∃(d:Int),∃(e:Int),∃(f:Int),zF (List.map zU i.tops) i.a.toNat 0 6=some [D.v (.bool a),D.v (.bool b),dI c,dI d,dI e,dI f]∧(0≤i.b∧i.b<(qW i))∧∃(g:Bool),∃(h:Bool),∃(j:Int),∃(k:Int),∃(l:Int),∃(m:Int),zF (List.map zU i.tops) i.b.toNat 0 6=some [D.v (.bool g),D.v (.bool h),dI j,dI k,dI l,dI m]∧(zIu i b g d j f l)∧zIu i b g d j f l
def eN (a:MkI):=(a.out++mkq a.tops (Leg.mk a.a 2) (Leg.mk a.b 2) a.less)
def mU (a:MkI):Prop:=∃(b:Unit),AObj.fro 6 (List.map zU a.tops)=MkU (a.tops,a.out) 1∧List.map zK (eN a)=List.map zK a.out∧True
def zMj (a:MkI) (b:Bool) (c:Bool) (d:Int) (e:Int) (f:Int) (g:Int):Prop:=True∧(qA a)∧a.b=a.b∧True∧True∧(k6 a)∧a.a=a.a∧True∧True∧(qA a)∧a.b=a.b∧True∧True∧(k6 a)∧a.a=a.a∧True∧True∧(qA a)∧a.b=a.b∧True∧cnd (!b) (mU a) (cnd (!c) (mU a) (∃(h:I2),h.x=d∧h.y=e∧(k7 h)∧∀(j:Unit),True→cnd a.less (∃(k:I2),k.x=e∧k.y=d∧(k7 k)∧∀(l:Unit),True→cnd (uM k.x k.y).snd (True∧(kZ a)*(48:Nat)≤(70368744177664:Nat)∧∃(m:Unit),AObj.fro 6 (List.map zU a.tops)=MkU (a.tops,a.out) 1∧List.map zK (eN a)=List.map zK a.out++[[dI ((uM k.x k.y).fst),dI (min f g),dI a.a,dI 2,dI a.b,dI 2]]∧True) (mU a)) (cnd (uL h.x h.y).snd (True∧(kZ a)*(48:Nat)≤(70368744177664:Nat)∧∃(k:Unit),AObj.fro 6 (List.map zU a.tops)=MkU (a.tops,a.out) 1∧List.map zK (eN a)=List.map zK a.out++[[dI ((uL h.x h.y).fst),dI (min f g),dI a.a,dI 2,dI a.b,dI 2]]∧True) (mU a))))
def yJh (i:MkI):Prop:=
 (0≤i.a∧i.a<(qW i))∧∃(a:Bool),∃(b:Bool),∃(c:Int),∃(d:Int),∃(e:Int),∃(f:Int),zF (List.map zU i.tops) i.a.toNat 0 6=some [D.v (.bool a),D.v (.bool b),dI c,dI d,dI e,dI f]∧(0≤i.b∧i.b<(qW i))∧∃(g:Bool),∃(h:Bool),∃(j:Int),∃(k:Int),∃(l:Int),∃(m:Int),zF (List.map zU i.tops) i.b.toNat 0 6=some [D.v (.bool g),D.v (.bool h),dI j,dI k,dI l,dI m]∧(zMj i b h d k f m)∧zMj i b h d k f m
open Go Cv Go.Proofs
theorem zNs:iotherC.ok Tryz.prog 52:=okw (V:=yGq) mixed gok0 0 (fun _=>[]) (fun _=>[]) [] Tryz.func52 fun(n:Int) h=>by
 have h:n=1∨n=2:=h
 refine⟨(),?_,trivial⟩
 rw[w64 (by omega)]
theorem z0g:ibetterC.ok Tryz.prog 94:=okw (V:=z8l) mixed gok0 0 (fun _=>[]) (fun _=>[]) [] Tryz.func94 fun(i:I3') _=>by
 refine Cv.cnd.mk (fun e=>⟨(),?_,trivial⟩) (fun e=>⟨(),?_,trivial⟩)
 ·have e:i.side=1:=by simpa using e
  simp[btr,e]
 ·have e:i.side≠1:=by simpa using e
  simp[btr,e]
theorem z8c:crossC.ok Tryz.prog 65:=okw (V:=yLl) mixed gok0 0 (fun _=>[]) (fun _=>[]) [] Tryz.func65 fun(i:CrI) _=>by
 refine Cv.cnd.mk (fun e=>⟨(),?_,trivial⟩) (fun e=>⟨(),?_,trivial⟩)
 ·have e:i.b=true:=e
  rw[e,yTr]
 ·have e:i.b=false:=e
  rw[e,yUe]
theorem yGw (a b:Int):(if b<a then b else a)=min a b:=by split<;>omega
theorem yOk (i:MkI) (h:mk11.cnd i):yJg i:=by
 obtain⟨a0,a1,b0,b1,⟨ht,hp⟩,ho⟩:0≤i.a∧i.a<i.tops.length∧0≤i.b∧i.b<i.tops.length∧jU i.tops∧i.out.length≤1000:=h
 obtain⟨x,hx⟩:=z9 (l:=i.tops) (i:=i.a.toNat) (by omega)
 obtain⟨y,hy⟩:=z9 (l:=i.tops) (i:=i.b.toNat) (by omega)
 obtain⟨⟨px1,px2⟩,px3,px4⟩:=hp x (ySt hx)
 obtain⟨⟨py1,py2⟩,py3,py4⟩:=hp y (ySt hy)
 have e0:mkq i.tops ⟨i.a,1⟩ ⟨i.b,1⟩ i.less=if x.has1 && y.has1 && (if i.less then uM y.p1 x.p1 else uL x.p1 y.p1).2 then[⟨(if i.less then uM y.p1 x.p1 else uL x.p1 y.p1).1,min x.q1 y.q1,⟨i.a,1⟩,⟨i.b,1⟩⟩]else[]:=by
  simp only[mkq,ySn,hx,hy,yUo];rfl
 unfold yJg zJp kZ k6 qA qW k7 mX tT dI
 simp only[ySm]
 refine⟨⟨by omega,by omega⟩,x.has1,x.has2,x.p1,x.p2,x.q1,x.q2,elA hx (by simp[zU]) rfl,⟨by omega,by omega⟩,y.has1,y.has2,y.p1,y.p2,y.q1,y.q2,elA hy (by simp[zU]) rfl,?_⟩
 rw[e0]
 (repeat'(first|exact rfl|exact trivial|assumption|apply And.intro|refine fun(_:Unit) (_:True)=>?_|refine Exists.intro () ?_|omega|(dsimp only;omega)))
 all_goals
  refine Cv.cnd.mk (fun c1=> ?_) (fun c1=>Cv.cnd.mk (fun c2=> ?_) (fun c2=> ?_))
  ·have c1:x.has1=false:=by simpa using c1
   simp only[c1,yUe,ySz,if_false,yTl];exact kp
  ·have c2:y.has1=false:=by simpa using c2
   simp only[c2,yXa,yUe,ySz,if_false,yTl];exact kp
  ·have c1:x.has1=true:=by simpa using c1
   have c2:y.has1=true:=by simpa using c2
   simp only[c1,c2,yTr,yGw]
   refine⟨⟨x.p1,y.p1⟩,?_⟩
   (repeat'(first|exact rfl|exact trivial|assumption|apply And.intro|refine fun(_:Unit) (_:True)=>?_|refine Exists.intro () ?_|omega|(dsimp only;omega)))
   refine Cv.cnd.mk (fun c3=> ?_) (fun c3=> ?_)
   ·have c3:i.less=true:=c3
    simp only[c3,if_true]
    refine⟨⟨y.p1,x.p1⟩,?_⟩
    (repeat'(first|exact rfl|exact trivial|assumption|apply And.intro|refine fun(_:Unit) (_:True)=>?_|refine Exists.intro () ?_|omega|(dsimp only;omega)))
    refine Cv.cnd.mk (fun c4=> ?_) (fun c4=> ?_)
    ·have c4:(uM y.p1 x.p1).2=true:=c4
     simp only[c4,if_true,ySv];exact kp
    ·have c4:(uM y.p1 x.p1).2=false:=c4
     simp only[c4,ySz,if_false,yTl];exact kp
   ·have c3:i.less=false:=c3
    simp only[c3,ySz,if_false]
    refine Cv.cnd.mk (fun c4=> ?_) (fun c4=> ?_)
    ·have c4:(uL x.p1 y.p1).2=true:=c4
     simp only[c4,if_true,ySv];exact kp
    ·have c4:(uL x.p1 y.p1).2=false:=c4
     simp only[c4,ySz,if_false,yTl];exact kp
theorem yFo:mk11.ok Tryz.prog 53:=okw mixed (gokc zSq (gokc zRc gok0)) 0 (fun _=>[]) (fun _=>[]) [] Tryz.func53 yOk
theorem yPm (i:MkI) (h:mk12.cnd i):yIt i:=by
 obtain⟨a0,a1,b0,b1,⟨ht,hp⟩,ho⟩:0≤i.a∧i.a<i.tops.length∧0≤i.b∧i.b<i.tops.length∧jU i.tops∧i.out.length≤1000:=h
 obtain⟨x,hx⟩:=z9 (l:=i.tops) (i:=i.a.toNat) (by omega)
 obtain⟨y,hy⟩:=z9 (l:=i.tops) (i:=i.b.toNat) (by omega)
 obtain⟨⟨px1,px2⟩,px3,px4⟩:=hp x (ySt hx)
 obtain⟨⟨py1,py2⟩,py3,py4⟩:=hp y (ySt hy)
 have e0:mkq i.tops ⟨i.a,1⟩ ⟨i.b,2⟩ i.less=if x.has1 && y.has2 && (if i.less then uM y.p2 x.p1 else uL x.p1 y.p2).2 then[⟨(if i.less then uM y.p2 x.p1 else uL x.p1 y.p2).1,min x.q1 y.q2,⟨i.a,1⟩,⟨i.b,2⟩⟩]else[]:=by
  simp only[mkq,ySn,hx,hy,yUo];rfl
 unfold yIt zLe mB tM kZ k6 qA k7 qW dI
 simp only[ySm]
 refine⟨⟨by omega,by omega⟩,x.has1,x.has2,x.p1,x.p2,x.q1,x.q2,elA hx (by simp[zU]) rfl,⟨by omega,by omega⟩,y.has1,y.has2,y.p1,y.p2,y.q1,y.q2,elA hy (by simp[zU]) rfl,?_⟩
 rw[e0]
 (repeat'(first|exact rfl|exact trivial|assumption|apply And.intro|refine fun(_:Unit) (_:True)=>?_|refine Exists.intro () ?_|omega|(dsimp only;omega)))
 all_goals
  refine Cv.cnd.mk (fun c1=> ?_) (fun c1=>Cv.cnd.mk (fun c2=> ?_) (fun c2=> ?_))
  ·have c1:x.has1=false:=by simpa using c1
   simp only[c1,yUe,ySz,if_false,yTl];exact kp
  ·have c2:y.has2=false:=by simpa using c2
   simp only[c2,yXa,yUe,ySz,if_false,yTl];exact kp
  ·have c1:x.has1=true:=by simpa using c1
   have c2:y.has2=true:=by simpa using c2
   simp only[c1,c2,yTr,yGw]
   refine⟨⟨x.p1,y.p2⟩,?_⟩
   (repeat'(first|exact rfl|exact trivial|assumption|apply And.intro|refine fun(_:Unit) (_:True)=>?_|refine Exists.intro () ?_|omega|(dsimp only;omega)))
   refine Cv.cnd.mk (fun c3=> ?_) (fun c3=> ?_)
   ·have c3:i.less=true:=c3
    simp only[c3,if_true]
    refine⟨⟨y.p2,x.p1⟩,?_⟩
    (repeat'(first|exact rfl|exact trivial|assumption|apply And.intro|refine fun(_:Unit) (_:True)=>?_|refine Exists.intro () ?_|omega|(dsimp only;omega)))
    refine Cv.cnd.mk (fun c4=> ?_) (fun c4=> ?_)
    ·have c4:(uM y.p2 x.p1).2=true:=c4
     simp only[c4,if_true,ySv];exact kp
    ·have c4:(uM y.p2 x.p1).2=false:=c4
     simp only[c4,ySz,if_false,yTl];exact kp
   ·have c3:i.less=false:=c3
    simp only[c3,ySz,if_false]
    refine Cv.cnd.mk (fun c4=> ?_) (fun c4=> ?_)
    ·have c4:(uL x.p1 y.p2).2=true:=c4
     simp only[c4,if_true,ySv];exact kp
    ·have c4:(uL x.p1 y.p2).2=false:=c4
     simp only[c4,ySz,if_false,yTl];exact kp
theorem yFa:mk12.ok Tryz.prog 53:=okw mixed (gokc zSq (gokc zRc gok0)) 0 (fun _=>[]) (fun _=>[]) [] Tryz.func53 yPm
theorem yPh (i:MkI) (h:mk21.cnd i):yIh i:=by
 obtain⟨a0,a1,b0,b1,⟨ht,hp⟩,ho⟩:0≤i.a∧i.a<i.tops.length∧0≤i.b∧i.b<i.tops.length∧jU i.tops∧i.out.length≤1000:=h
 obtain⟨x,hx⟩:=z9 (l:=i.tops) (i:=i.a.toNat) (by omega)
 obtain⟨y,hy⟩:=z9 (l:=i.tops) (i:=i.b.toNat) (by omega)
 obtain⟨⟨px1,px2⟩,px3,px4⟩:=hp x (ySt hx)
 obtain⟨⟨py1,py2⟩,py3,py4⟩:=hp y (ySt hy)
 have e0:mkq i.tops ⟨i.a,2⟩ ⟨i.b,1⟩ i.less=if x.has2 && y.has1 && (if i.less then uM y.p1 x.p2 else uL x.p2 y.p1).2 then[⟨(if i.less then uM y.p1 x.p2 else uL x.p2 y.p1).1,min x.q2 y.q1,⟨i.a,2⟩,⟨i.b,1⟩⟩]else[]:=by
  simp only[mkq,ySn,hx,hy,yUo];rfl
 unfold yIh zIu mL eB kZ k6 qA k7 qW dI
 simp only[ySm]
 refine⟨⟨by omega,by omega⟩,x.has1,x.has2,x.p1,x.p2,x.q1,x.q2,elA hx (by simp[zU]) rfl,⟨by omega,by omega⟩,y.has1,y.has2,y.p1,y.p2,y.q1,y.q2,elA hy (by simp[zU]) rfl,?_⟩
 rw[e0]
 (repeat'(first|exact rfl|exact trivial|assumption|apply And.intro|refine fun(_:Unit) (_:True)=>?_|refine Exists.intro () ?_|omega|(dsimp only;omega)))
 all_goals
  refine Cv.cnd.mk (fun c1=> ?_) (fun c1=>Cv.cnd.mk (fun c2=> ?_) (fun c2=> ?_))
  ·have c1:x.has2=false:=by simpa using c1
   simp only[c1,yUe,ySz,if_false,yTl];exact kp
  ·have c2:y.has1=false:=by simpa using c2
   simp only[c2,yXa,yUe,ySz,if_false,yTl];exact kp
  ·have c1:x.has2=true:=by simpa using c1
   have c2:y.has1=true:=by simpa using c2
   simp only[c1,c2,yTr,yGw]
   refine⟨⟨x.p2,y.p1⟩,?_⟩
   (repeat'(first|exact rfl|exact trivial|assumption|apply And.intro|refine fun(_:Unit) (_:True)=>?_|refine Exists.intro () ?_|omega|(dsimp only;omega)))
   refine Cv.cnd.mk (fun c3=> ?_) (fun c3=> ?_)
   ·have c3:i.less=true:=c3
    simp only[c3,if_true]
    refine⟨⟨y.p1,x.p2⟩,?_⟩
    (repeat'(first|exact rfl|exact trivial|assumption|apply And.intro|refine fun(_:Unit) (_:True)=>?_|refine Exists.intro () ?_|omega|(dsimp only;omega)))
    refine Cv.cnd.mk (fun c4=> ?_) (fun c4=> ?_)
    ·have c4:(uM y.p1 x.p2).2=true:=c4
     simp only[c4,if_true,ySv];exact kp
    ·have c4:(uM y.p1 x.p2).2=false:=c4
     simp only[c4,ySz,if_false,yTl];exact kp
   ·have c3:i.less=false:=c3
    simp only[c3,ySz,if_false]
    refine Cv.cnd.mk (fun c4=> ?_) (fun c4=> ?_)
    ·have c4:(uL x.p2 y.p1).2=true:=c4
     simp only[c4,if_true,ySv];exact kp
    ·have c4:(uL x.p2 y.p1).2=false:=c4
     simp only[c4,ySz,if_false,yTl];exact kp
theorem yFj:mk21.ok Tryz.prog 53:=okw mixed (gokc zSq (gokc zRc gok0)) 0 (fun _=>[]) (fun _=>[]) [] Tryz.func53 yPh
theorem yPr (i:MkI) (h:mk22.cnd i):yJh i:=by
 obtain⟨a0,a1,b0,b1,⟨ht,hp⟩,ho⟩:0≤i.a∧i.a<i.tops.length∧0≤i.b∧i.b<i.tops.length∧jU i.tops∧i.out.length≤1000:=h
 obtain⟨x,hx⟩:=z9 (l:=i.tops) (i:=i.a.toNat) (by omega)
 obtain⟨y,hy⟩:=z9 (l:=i.tops) (i:=i.b.toNat) (by omega)
 obtain⟨⟨px1,px2⟩,px3,px4⟩:=hp x (ySt hx)
 obtain⟨⟨py1,py2⟩,py3,py4⟩:=hp y (ySt hy)
 have e0:mkq i.tops ⟨i.a,2⟩ ⟨i.b,2⟩ i.less=if x.has2 && y.has2 && (if i.less then uM y.p2 x.p2 else uL x.p2 y.p2).2 then[⟨(if i.less then uM y.p2 x.p2 else uL x.p2 y.p2).1,min x.q2 y.q2,⟨i.a,2⟩,⟨i.b,2⟩⟩]else[]:=by
  simp only[mkq,ySn,hx,hy,yUo];rfl
 unfold yJh zMj mU eN kZ k6 qA k7 qW dI
 simp only[ySm]
 refine⟨⟨by omega,by omega⟩,x.has1,x.has2,x.p1,x.p2,x.q1,x.q2,elA hx (by simp[zU]) rfl,⟨by omega,by omega⟩,y.has1,y.has2,y.p1,y.p2,y.q1,y.q2,elA hy (by simp[zU]) rfl,?_⟩
 rw[e0]
 (repeat'(first|exact rfl|exact trivial|assumption|apply And.intro|refine fun(_:Unit) (_:True)=>?_|refine Exists.intro () ?_|omega|(dsimp only;omega)))
 all_goals
  refine Cv.cnd.mk (fun c1=> ?_) (fun c1=>Cv.cnd.mk (fun c2=> ?_) (fun c2=> ?_))
  ·have c1:x.has2=false:=by simpa using c1
   simp only[c1,yUe,ySz,if_false,yTl];exact kp
  ·have c2:y.has2=false:=by simpa using c2
   simp only[c2,yXa,yUe,ySz,if_false,yTl];exact kp
  ·have c1:x.has2=true:=by simpa using c1
   have c2:y.has2=true:=by simpa using c2
   simp only[c1,c2,yTr,yGw]
   refine⟨⟨x.p2,y.p2⟩,?_⟩
   (repeat'(first|exact rfl|exact trivial|assumption|apply And.intro|refine fun(_:Unit) (_:True)=>?_|refine Exists.intro () ?_|omega|(dsimp only;omega)))
   refine Cv.cnd.mk (fun c3=> ?_) (fun c3=> ?_)
   ·have c3:i.less=true:=c3
    simp only[c3,if_true]
    refine⟨⟨y.p2,x.p2⟩,?_⟩
    (repeat'(first|exact rfl|exact trivial|assumption|apply And.intro|refine fun(_:Unit) (_:True)=>?_|refine Exists.intro () ?_|omega|(dsimp only;omega)))
    refine Cv.cnd.mk (fun c4=> ?_) (fun c4=> ?_)
    ·have c4:(uM y.p2 x.p2).2=true:=c4
     simp only[c4,if_true,ySv];exact kp
    ·have c4:(uM y.p2 x.p2).2=false:=c4
     simp only[c4,ySz,if_false,yTl];exact kp
   ·have c3:i.less=false:=c3
    simp only[c3,ySz,if_false]
    refine Cv.cnd.mk (fun c4=> ?_) (fun c4=> ?_)
    ·have c4:(uL x.p2 y.p2).2=true:=c4
     simp only[c4,if_true,ySv];exact kp
    ·have c4:(uL x.p2 y.p2).2=false:=c4
     simp only[c4,ySz,if_false,yTl];exact kp
theorem yGc:mk22.ok Tryz.prog 53:=okw mixed (gokc zSq (gokc zRc gok0)) 0 (fun _=>[]) (fun _=>[]) [] Tryz.func53 yPr
open Go Cv Go.Proofs
structure MkJ where
 i:MkI
 sa:Bool
 sb:Bool
def mkAnyC:Con:=con1 MkJ (fun j=>[.nm 0 0,.agg [zA j.i.a,zA (zB j.sa)],.agg [zA j.i.b,zA (zB j.sb)],yP j.i.less]) (fun j=>MkR j.i.tops j.i.out)
 (fun j=>0≤j.i.a∧j.i.a<j.i.tops.length∧0≤j.i.b∧j.i.b<j.i.tops.length∧jU j.i.tops∧j.i.out.length≤1000) (fun _=>zWa) (fun j=>MkP j.i.tops (j.i.out++mkq j.i.tops ⟨j.i.a,zB j.sa⟩ ⟨j.i.b,zB j.sb⟩ j.i.less))
theorem zXu:mkAnyC.ok Tryz.prog 53:=fun j=>match j with
 |⟨i,false,false⟩=>yFo i
 |⟨i,false,true⟩=>yFa i
 |⟨i,true,false⟩=>yFj i
 |⟨i,true,true⟩=>yGc i
structure dH where
 p:Prd
 tops:List Top
 inst:Int
def kA (i:dH) (s:Int) (k:Nat):List Quote:=(List.range k).flatMap fun(k:Nat)=>mkq i.tops ⟨(i.p.spread i.inst (i.inst+1+k)).1,s⟩ ⟨i.inst+1+k,s⟩ false
def kB (i:dH) (s:Int) (k:Nat):List Quote:=(List.range k).flatMap fun(k:Nat)=>mkq i.tops ⟨(i.p.spread k i.inst).1,3-s⟩ ⟨k,s⟩ true
def yN (i:dH) (s:Int):List Quote:=mkq i.tops ⟨(i.p.legs i.inst).2.1,3-s⟩ ⟨(i.p.legs i.inst).1,s⟩ true
def fU (i:dH) (s:Int) (q:Quote):Quote:={q with a:=⟨(i.p.legs i.inst).1,s⟩,b:=⟨(i.p.legs i.inst).2.1,3-s⟩}
def qC (i:dH) (s:Int):List Quote:=
 if i.p.count=0∨(i.tops.length:Int)≠i.p.count∨i.inst<0∨(i.p.count:Int)≤i.inst then[]
 else if(i.p.legs i.inst).2.2 then(yN i s).map (fU i s)
 else kA i s (i.p.months.length-(i.inst.toNat+1))++kB i s i.inst.toNat
def yIg (s:Int):Con:=con1 dH (fun i=>[prdV i.p,roV 6 (i.tops.map zU),zA i.inst,zA s]) (fun _=>[]) (fun i=>i.p.small∧jU i.tops) (fun _=> .own 0) (fun i=>[.own 62 6 ((qC i s).map zK)])
def all1C:Con:=yIg 1
def all2C:Con:=yIg 2
def yPy (i:dH) (s:Int):List SAnn:=[
 {ι:=Nat,slots:=fun k=>[(10,.nm 0 0),(77,zA k)],rows:=fun k=>(List.range 3).map (MkU (i.tops,((yN i s).take k).map (fU i s)++(yN i s).drop k))},
 {ι:=Nat,slots:=fun k=>[(10,.nm 0 0),(17,zA (i.inst+1+k))],rows:=fun k=>MkR i.tops (kA i s k)},
 {ι:=Nat,slots:=fun k=>[(10,.nm 0 0),(120,zA k)],rows:=fun k=>MkR i.tops (kA i s (i.p.months.length-(i.inst.toNat+1))++kB i s k)}]
structure sS where
 i:dH
 s:Bool
def allC:Con:=con1 sS (fun j=>[prdV j.i.p,roV 6 (j.i.tops.map zU),zA j.i.inst,zA (zB j.s)]) (fun _=>[]) (fun j=>j.i.p.small∧jU j.i.tops) (fun _=> .own 0) (fun j=>[.own 62 6 ((qC j.i (zB j.s)).map zK)])
def yF (i:dH) (s:Int):List Quote:=(qC i s).filter fun q=>decide (i.p.price i.inst q.price=0)
def quotesC:Con:=con1 sS (fun j=>[prdV j.i.p,roV 6 (j.i.tops.map zU),zA j.i.inst,zA (zB j.s)]) (fun _=>[]) (fun j=>j.i.p.small∧jU j.i.tops) (fun _=> .own 0) (fun j=>[.own 62 6 ((yF j.i (zB j.s)).map zK)])
def yFd (j:sS):List SAnn:=[{ι:=Nat,slots:=fun k=>[(9,.own 0),(18,zA k)],rows:=fun k=>[.own 62 6 ((((qC j.i (zB j.s)).take k).filter fun q=>decide (j.i.p.price j.i.inst q.price=0)).map zK)]}]
structure BsI where
 l:List Quote
 s:Int
def z5 (l:List Quote) (s:Int):Quote×Bool:=match l with
 |[]=>(yKl,false)
 |q::r=>(r.foldl (fun b q=>if btr s q.price b.price then q else b) q,true)
def bestQC:Con:=con1 BsI (fun i=>[roV 6 (i.l.map zK),zA i.s]) (fun _=>[]) (fun i=>(i.s=1∨i.s=2)∧i.l.length≤1000000) (fun i=> .tup [z0j (z5 i.l i.s).1,yP (z5 i.l i.s).2]) (fun _=>[])
def yLm (i:BsI):List SAnn:=[{ι:=Nat,slots:=fun k=>[(6,.nm 0 0),(26,zA k)],rows:=fun k=>[.cells (z0j (z5 (i.l.take (max k 1)) i.s).1).cl 62]}]
open Go Cv Go.Proofs
def mI (a:dH):Prop:=AObj.fro 6 (List.map zU a.tops)=AObj.fro 6 (List.map zU a.tops)∧Sx.AObj.cells [V.d (D.v (Value.string (sb a.p.code))),V.own 0,V.d (dI a.p.tick),V.d (dI a.p.low),V.d (dI a.p.high),V.d (dI a.p.wide),V.d (dI a.p.rule),V.d (dI a.p.top),V.d (dI a.p.least),V.d (dI a.p.part),V.own ((0:Nat)+(1:Nat))] 29=Sx.AObj.cells [V.d (D.v (Value.string (sb a.p.code))),V.own 0,V.d (dI a.p.tick),V.d (dI a.p.low),V.d (dI a.p.high),V.d (dI a.p.wide),V.d (dI a.p.rule),V.d (dI a.p.top),V.d (dI a.p.least),V.d (dI a.p.part),V.own ((0:Nat)+(1:Nat))] 29∧AObj.fro 1 (iE a.p.settle)=AObj.fro 1 (iE a.p.settle)∧AObj.fro 1 (iE a.p.months)=AObj.fro 1 (iE a.p.months)
def zBr (a:Nat→Prop) (b:Nat) (c:Nat→Nat) (d:Nat) (e:dH):Prop:=a b∧c b<c d∧AObj.fro 6 (List.map zU e.tops)=AObj.fro 6 (List.map zU e.tops)∧mI e
def zCc (a:Nat→Prop) (b:Nat) (c:Nat→Nat) (d:Nat) (e:dH):Prop:=a b∧c b<c d∧mI e
def j0 (a:Top):Prop:=((-9223372036854775808)≤a.p1∧a.p1≤9223372036854775807)∧(-9223372036854775808)≤a.p2∧a.p2≤9223372036854775807
def gV (a:MkJ):Prop:=0≤a.i.a∧a.i.a<(↑a.i.tops.length:Int)∧0≤a.i.b∧a.i.b<(↑a.i.tops.length:Int)∧(a.i.tops.length≤1000000∧∀(b:Top),b∈a.i.tops→j0 b)∧a.i.out.length≤1000
def vY (a:MkJ):=(a.i.out++mkq a.i.tops (Leg.mk a.i.a (zB a.sa)) (Leg.mk a.i.b (zB a.sb)) a.i.less)
def sX (a:Nat) (b:MkJ):=(decide ((↑a:Int)<(↑(List.map zK (vY b)).length:Int)))
def x9 (a:rC):Prop:=a.p.code.length≤1099511627776∧a.p.months.length≤1099511627776∧a.p.settle.length≤1099511627776
def qX (a:dP):Prop:=a.p.code.length≤1099511627776∧a.p.months.length≤1099511627776∧a.p.settle.length≤1099511627776
def mT (a:dH) (b:Nat):=(List.map (fU a 1) (List.take b (yN a 1))++List.drop b (yN a 1))
def tE (a:dH) (b:Nat):=(List.map zK (mT a b))
def mE (a:dH) (b:Nat):=(kA a 1 (a.p.months.length-(a.inst.toNat+1))++kB a 1 b)
def wO (a:dP):=((a.p.legs a.n).snd.fst)
def yIy (i:dH):Prop:=
 ∃(a:Prd),sb a.code=sb i.p.code∧iE a.months=iE i.p.months∧a.tick=i.p.tick∧a.low=i.p.low∧a.high=i.p.high∧a.wide=i.p.wide∧a.rule=i.p.rule∧a.top=i.p.top∧a.least=i.p.least∧a.part=i.p.part∧iE a.settle=iE i.p.settle∧(zS a)∧∀(b:Unit),True→cnd ((↑a.count:Int)==0) (∃(c:Unit),List.map zK (qC i 1)=[]∧True) (cnd ((↑(List.map zU i.tops).length:Int) !=(↑a.count:Int)) (∃(c:Unit),List.map zK (qC i 1)=[]∧True) (cnd (decide (i.inst<0)) (∃(c:Unit),List.map zK (qC i 1)=[]∧True) (cnd (decide (i.inst≥(↑a.count:Int))) (∃(c:Unit),List.map zK (qC i 1)=[]∧True) (∃(c:dP),sb c.p.code=sb i.p.code∧iE c.p.months=iE i.p.months∧c.p.tick=i.p.tick∧c.p.low=i.p.low∧c.p.high=i.p.high∧c.p.wide=i.p.wide∧c.p.rule=i.p.rule∧c.p.top=i.p.top∧c.p.least=i.p.least∧c.p.part=i.p.part∧iE c.p.settle=iE i.p.settle∧c.n=i.inst∧(qX c)∧∀(d:Unit),True→cnd (c.p.legs c.n).snd.snd (∃(e:Int),e=1∧(e=1∨e=2)∧∀(f:Unit),True→∃(g:MkJ),g.i.a=(c.p.legs c.n).snd.fst∧zB g.sa=3-e∧g.i.b=(c.p.legs c.n).fst∧zB g.sb=1∧g.i.less=true∧AObj.fro 6 (List.map zU g.i.tops)=AObj.fro 6 (List.map zU i.tops)∧List.map zK g.i.out=[]∧(gV g)∧∀(h:Unit),True→∃(j:Nat),(↑j:Int)=0∧AObj.fro 6 (List.map zU i.tops)=AObj.fro 6 (List.map zU g.i.tops)∧List.map zK (mT i j)=List.map zK (vY g)∧∃(k:Nat→Prop),∃(l:Nat→Nat),k j∧∀(m:Nat),k m→cnd (sX m g) ((0≤(↑m:Int)∧(↑m:Int)<(↑(tE i m).length:Int))∧(↑m:Int).toNat<(tE i m).length∧∃(n:Nat),(↑n:Int)=IntKind.i64.wrap ((↑m:Int)+1)∧AObj.fro 6 (List.map zU i.tops)=AObj.fro 6 (List.map zU i.tops)∧List.map zK (mT i n)=yB (tE i m) (↑m:Int).toNat ((0:Nat)+(2:Nat)) [dI ((c.p.legs c.n).fst),dI 1,dI (wO c),dI (3-e)]∧k n∧l n<l m∧AObj.fro 6 (List.map zU g.i.tops)=AObj.fro 6 (List.map zU g.i.tops)∧Sx.AObj.cells [V.d (dI (wO c)),V.d (dI (3-e))] 59=Sx.AObj.cells [V.d (dI (wO c)),V.d (dI (3-e))] 59∧Sx.AObj.cells [V.d (dI ((c.p.legs c.n).fst)),V.d (dI 1)] 59=Sx.AObj.cells [V.d (dI ((c.p.legs c.n).fst)),V.d (dI 1)] 59∧mI i) (∃(n:Unit),List.map zK (qC i 1)=List.map zK (mT i m)∧True)) (∃(e:Nat),i.inst+1+(↑e:Int)=IntKind.i64.wrap (i.inst+1)∧AObj.fro 6 (List.map zU i.tops)=AObj.fro 6 (List.map zU i.tops)∧List.map zK (kA i 1 e)=[]∧∃(f:Nat→Prop),∃(g:Nat→Nat),f e∧∀(h:Nat),f h→cnd (decide (i.inst+1+(↑h:Int)<(↑(iE i.p.months).length:Int))) (∃(j:rC),sb j.p.code=sb i.p.code∧iE j.p.months=iE i.p.months∧j.p.tick=i.p.tick∧j.p.low=i.p.low∧j.p.high=i.p.high∧j.p.wide=i.p.wide∧j.p.rule=i.p.rule∧j.p.top=i.p.top∧j.p.least=i.p.least∧j.p.part=i.p.part∧iE j.p.settle=iE i.p.settle∧j.a=i.inst∧j.b=i.inst+1+(↑h:Int)∧(x9 j)∧∀(k:Unit),True→∃(l:MkJ),l.i.a=(j.p.spread j.a j.b).fst∧zB l.sa=1∧l.i.b=i.inst+1+(↑h:Int)∧zB l.sb=1∧l.i.less=false∧AObj.fro 6 (List.map zU l.i.tops)=AObj.fro 6 (List.map zU i.tops)∧List.map zK l.i.out=List.map zK (kA i 1 h)∧(gV l)∧∀(m:Unit),True→∃(n:Nat),i.inst+1+(↑n:Int)=IntKind.i64.wrap (i.inst+1+(↑h:Int)+1)∧AObj.fro 6 (List.map zU i.tops)=AObj.fro 6 (List.map zU l.i.tops)∧List.map zK (kA i 1 n)=List.map zK (vY l)∧zCc f n g h i) (∃(j:Nat),(↑j:Int)=0∧AObj.fro 6 (List.map zU i.tops)=AObj.fro 6 (List.map zU i.tops)∧List.map zK (mE i j)=List.map zK (kA i 1 h)∧∃(k:Nat→Prop),∃(l:Nat→Nat),k j∧∀(m:Nat),k m→cnd (decide ((↑m:Int)<i.inst)) (∃(n:rC),sb n.p.code=sb i.p.code∧iE n.p.months=iE i.p.months∧n.p.tick=i.p.tick∧n.p.low=i.p.low∧n.p.high=i.p.high∧n.p.wide=i.p.wide∧n.p.rule=i.p.rule∧n.p.top=i.p.top∧n.p.least=i.p.least∧n.p.part=i.p.part∧iE n.p.settle=iE i.p.settle∧n.a=(↑m:Int)∧n.b=i.inst∧(x9 n)∧∀(p:Unit),True→∃(q:Int),q=1∧(q=1∨q=2)∧∀(r:Unit),True→∃(s:MkJ),s.i.a=(n.p.spread n.a n.b).fst∧zB s.sa=3-q∧s.i.b=(↑m:Int)∧zB s.sb=1∧s.i.less=true∧AObj.fro 6 (List.map zU s.i.tops)=AObj.fro 6 (List.map zU i.tops)∧List.map zK s.i.out=List.map zK (mE i m)∧(gV s)∧∀(t:Unit),True→∃(u:Nat),(↑u:Int)=IntKind.i64.wrap ((↑m:Int)+1)∧AObj.fro 6 (List.map zU i.tops)=AObj.fro 6 (List.map zU s.i.tops)∧List.map zK (mE i u)=List.map zK (vY s)∧zBr k u l m i) (∃(n:Unit),List.map zK (qC i 1)=List.map zK (mE i m)∧True)))))))
def mV (a:dH) (b:Nat):=(List.map (fU a 2) (List.take b (yN a 2))++List.drop b (yN a 2))
def tR (a:dH) (b:Nat):=(List.map zK (mV a b))
def mG (a:dH) (b:Nat):=(kA a 2 (a.p.months.length-(a.inst.toNat+1))++kB a 2 b)
def yIc (i:dH):Prop:=
 ∃(a:Prd),sb a.code=sb i.p.code∧iE a.months=iE i.p.months∧a.tick=i.p.tick∧a.low=i.p.low∧a.high=i.p.high∧a.wide=i.p.wide∧a.rule=i.p.rule∧a.top=i.p.top∧a.least=i.p.least∧a.part=i.p.part∧iE a.settle=iE i.p.settle∧(zS a)∧∀(b:Unit),True→cnd ((↑a.count:Int)==0) (∃(c:Unit),List.map zK (qC i 2)=[]∧True) (cnd ((↑(List.map zU i.tops).length:Int) !=(↑a.count:Int)) (∃(c:Unit),List.map zK (qC i 2)=[]∧True) (cnd (decide (i.inst<0)) (∃(c:Unit),List.map zK (qC i 2)=[]∧True) (cnd (decide (i.inst≥(↑a.count:Int))) (∃(c:Unit),List.map zK (qC i 2)=[]∧True) (∃(c:dP),sb c.p.code=sb i.p.code∧iE c.p.months=iE i.p.months∧c.p.tick=i.p.tick∧c.p.low=i.p.low∧c.p.high=i.p.high∧c.p.wide=i.p.wide∧c.p.rule=i.p.rule∧c.p.top=i.p.top∧c.p.least=i.p.least∧c.p.part=i.p.part∧iE c.p.settle=iE i.p.settle∧c.n=i.inst∧(qX c)∧∀(d:Unit),True→cnd (c.p.legs c.n).snd.snd (∃(e:Int),e=2∧(e=1∨e=2)∧∀(f:Unit),True→∃(g:MkJ),g.i.a=(c.p.legs c.n).snd.fst∧zB g.sa=3-e∧g.i.b=(c.p.legs c.n).fst∧zB g.sb=2∧g.i.less=true∧AObj.fro 6 (List.map zU g.i.tops)=AObj.fro 6 (List.map zU i.tops)∧List.map zK g.i.out=[]∧(gV g)∧∀(h:Unit),True→∃(j:Nat),(↑j:Int)=0∧AObj.fro 6 (List.map zU i.tops)=AObj.fro 6 (List.map zU g.i.tops)∧List.map zK (mV i j)=List.map zK (vY g)∧∃(k:Nat→Prop),∃(l:Nat→Nat),k j∧∀(m:Nat),k m→cnd (sX m g) ((0≤(↑m:Int)∧(↑m:Int)<(↑(tR i m).length:Int))∧(↑m:Int).toNat<(tR i m).length∧∃(n:Nat),(↑n:Int)=IntKind.i64.wrap ((↑m:Int)+1)∧AObj.fro 6 (List.map zU i.tops)=AObj.fro 6 (List.map zU i.tops)∧List.map zK (mV i n)=yB (tR i m) (↑m:Int).toNat ((0:Nat)+(2:Nat)) [dI ((c.p.legs c.n).fst),dI 2,dI (wO c),dI (3-e)]∧k n∧l n<l m∧AObj.fro 6 (List.map zU g.i.tops)=AObj.fro 6 (List.map zU g.i.tops)∧Sx.AObj.cells [V.d (dI (wO c)),V.d (dI (3-e))] 59=Sx.AObj.cells [V.d (dI (wO c)),V.d (dI (3-e))] 59∧Sx.AObj.cells [V.d (dI ((c.p.legs c.n).fst)),V.d (dI 2)] 59=Sx.AObj.cells [V.d (dI ((c.p.legs c.n).fst)),V.d (dI 2)] 59∧mI i) (∃(n:Unit),List.map zK (qC i 2)=List.map zK (mV i m)∧True)) (∃(e:Nat),i.inst+1+(↑e:Int)=IntKind.i64.wrap (i.inst+1)∧AObj.fro 6 (List.map zU i.tops)=AObj.fro 6 (List.map zU i.tops)∧List.map zK (kA i 2 e)=[]∧∃(f:Nat→Prop),∃(g:Nat→Nat),f e∧∀(h:Nat),f h→cnd (decide (i.inst+1+(↑h:Int)<(↑(iE i.p.months).length:Int))) (∃(j:rC),sb j.p.code=sb i.p.code∧iE j.p.months=iE i.p.months∧j.p.tick=i.p.tick∧j.p.low=i.p.low∧j.p.high=i.p.high∧j.p.wide=i.p.wide∧j.p.rule=i.p.rule∧j.p.top=i.p.top∧j.p.least=i.p.least∧j.p.part=i.p.part∧iE j.p.settle=iE i.p.settle∧j.a=i.inst∧j.b=i.inst+1+(↑h:Int)∧(x9 j)∧∀(k:Unit),True→∃(l:MkJ),l.i.a=(j.p.spread j.a j.b).fst∧zB l.sa=2∧l.i.b=i.inst+1+(↑h:Int)∧zB l.sb=2∧l.i.less=false∧AObj.fro 6 (List.map zU l.i.tops)=AObj.fro 6 (List.map zU i.tops)∧List.map zK l.i.out=List.map zK (kA i 2 h)∧(gV l)∧∀(m:Unit),True→∃(n:Nat),i.inst+1+(↑n:Int)=IntKind.i64.wrap (i.inst+1+(↑h:Int)+1)∧AObj.fro 6 (List.map zU i.tops)=AObj.fro 6 (List.map zU l.i.tops)∧List.map zK (kA i 2 n)=List.map zK (vY l)∧zCc f n g h i) (∃(j:Nat),(↑j:Int)=0∧AObj.fro 6 (List.map zU i.tops)=AObj.fro 6 (List.map zU i.tops)∧List.map zK (mG i j)=List.map zK (kA i 2 h)∧∃(k:Nat→Prop),∃(l:Nat→Nat),k j∧∀(m:Nat),k m→cnd (decide ((↑m:Int)<i.inst)) (∃(n:rC),sb n.p.code=sb i.p.code∧iE n.p.months=iE i.p.months∧n.p.tick=i.p.tick∧n.p.low=i.p.low∧n.p.high=i.p.high∧n.p.wide=i.p.wide∧n.p.rule=i.p.rule∧n.p.top=i.p.top∧n.p.least=i.p.least∧n.p.part=i.p.part∧iE n.p.settle=iE i.p.settle∧n.a=(↑m:Int)∧n.b=i.inst∧(x9 n)∧∀(p:Unit),True→∃(q:Int),q=2∧(q=1∨q=2)∧∀(r:Unit),True→∃(s:MkJ),s.i.a=(n.p.spread n.a n.b).fst∧zB s.sa=3-q∧s.i.b=(↑m:Int)∧zB s.sb=2∧s.i.less=true∧AObj.fro 6 (List.map zU s.i.tops)=AObj.fro 6 (List.map zU i.tops)∧List.map zK s.i.out=List.map zK (mG i m)∧(gV s)∧∀(t:Unit),True→∃(u:Nat),(↑u:Int)=IntKind.i64.wrap ((↑m:Int)+1)∧AObj.fro 6 (List.map zU i.tops)=AObj.fro 6 (List.map zU s.i.tops)∧List.map zK (mG i u)=List.map zK (vY s)∧zBr k u l m i) (∃(n:Unit),List.map zK (qC i 2)=List.map zK (mG i m)∧True)))))))
def jA (a:sS):=(List.map zK (qC a.i (zB a.s)))
def lQ (a:Nat→Prop) (b:Nat) (c:Nat→Nat) (d:Nat) (e:sS) (f:sS):Prop:=a b∧c b<c d∧AObj.own 62 6 (jA e)=AObj.own 62 6 (jA e)∧Sx.AObj.cells [V.d (D.v (Value.string (sb f.i.p.code))),V.own 0,V.d (dI f.i.p.tick),V.d (dI f.i.p.low),V.d (dI f.i.p.high),V.d (dI f.i.p.wide),V.d (dI f.i.p.rule),V.d (dI f.i.p.top),V.d (dI f.i.p.least),V.d (dI f.i.p.part),V.own ((0:Nat)+(1:Nat))] 29=Sx.AObj.cells [V.d (D.v (Value.string (sb f.i.p.code))),V.own 0,V.d (dI f.i.p.tick),V.d (dI f.i.p.low),V.d (dI f.i.p.high),V.d (dI f.i.p.wide),V.d (dI f.i.p.rule),V.d (dI f.i.p.top),V.d (dI f.i.p.least),V.d (dI f.i.p.part),V.own ((0:Nat)+(1:Nat))] 29∧AObj.fro 1 (iE f.i.p.settle)=AObj.fro 1 (iE f.i.p.settle)∧AObj.fro 1 (iE f.i.p.months)=AObj.fro 1 (iE f.i.p.months)
def kJ (a:sS):Prop:=(a.i.p.code.length≤1099511627776∧a.i.p.months.length≤1099511627776∧a.i.p.settle.length≤1099511627776)∧a.i.tops.length≤1000000∧∀(b:Top),b∈a.i.tops→j0 b
def gX (a:sS):=(↑(jA a).length:Int)
def z2g (j:sS):Prop:=
 ∃(a:sS),sb a.i.p.code=sb j.i.p.code∧iE a.i.p.months=iE j.i.p.months∧a.i.p.tick=j.i.p.tick∧a.i.p.low=j.i.p.low∧a.i.p.high=j.i.p.high∧a.i.p.wide=j.i.p.wide∧a.i.p.rule=j.i.p.rule∧a.i.p.top=j.i.p.top∧a.i.p.least=j.i.p.least∧a.i.p.part=j.i.p.part∧iE a.i.p.settle=iE j.i.p.settle∧List.map zU a.i.tops=List.map zU j.i.tops∧a.i.inst=j.i.inst∧zB a.s=zB j.s∧(kJ a)∧∀(b:Unit),True→∃(c:Nat),(↑c:Int)=0∧List.map zK (List.filter (fun(q:Sx.Quote) ↦ decide (j.i.p.price j.i.inst q.price=0)) (List.take c (qC j.i (zB j.s))))=[]∧∃(d:Nat→Prop),∃(e:Nat→Nat),d c∧∀(f:Nat),d f→cnd (decide ((↑f:Int)<(gX a))) ((0≤(↑f:Int)∧(↑f:Int)<(gX a))∧∃(g:Int),∃(h:Int),∃(k:Int),∃(l:Int),∃(m:Int),∃(n:Int),zF (jA a) (↑f:Int).toNat 0 6=some [dI g,dI h,dI k,dI l,dI m,dI n]∧∃(p:rC),sb p.p.code=sb j.i.p.code∧iE p.p.months=iE j.i.p.months∧p.p.tick=j.i.p.tick∧p.p.low=j.i.p.low∧p.p.high=j.i.p.high∧p.p.wide=j.i.p.wide∧p.p.rule=j.i.p.rule∧p.p.top=j.i.p.top∧p.p.least=j.i.p.least∧p.p.part=j.i.p.part∧iE p.p.settle=iE j.i.p.settle∧p.a=j.i.inst∧p.b=g∧(x9 p)∧∀(q:Unit),True→cnd (p.p.price p.a p.b==0) (((List.map zK (List.filter (fun(q:Sx.Quote) ↦ decide (j.i.p.price j.i.inst q.price=0)) (List.take f (qC j.i (zB j.s))))).length+1)*(48:Nat)≤(70368744177664:Nat)∧∃(r:Nat),(↑r:Int)=IntKind.i64.wrap ((↑f:Int)+1)∧List.map zK (List.filter (fun(q:Sx.Quote) ↦ decide (j.i.p.price j.i.inst q.price=0)) (List.take r (qC j.i (zB j.s))))=List.map zK (List.filter (fun(q:Sx.Quote) ↦ decide (j.i.p.price j.i.inst q.price=0)) (List.take f (qC j.i (zB j.s))))++[[dI g,dI h,dI k,dI l,dI m,dI n]]∧lQ d r e f a j) (∃(r:Nat),(↑r:Int)=IntKind.i64.wrap ((↑f:Int)+1)∧List.map zK (List.filter (fun(q:Sx.Quote) ↦ decide (j.i.p.price j.i.inst q.price=0)) (List.take r (qC j.i (zB j.s))))=List.map zK (List.filter (fun(q:Sx.Quote) ↦ decide (j.i.p.price j.i.inst q.price=0)) (List.take f (qC j.i (zB j.s))))∧lQ d r e f a j)) (∃(g:Unit),List.map zK (yF j.i (zB j.s))=List.map zK (List.filter (fun(q:Sx.Quote) ↦ decide (j.i.p.price j.i.inst q.price=0)) (List.take f (qC j.i (zB j.s))))∧True)
def lG (a:Nat→Prop) (b:Nat) (c:Nat→Nat) (d:Nat):Prop:=a b∧c b<c d∧Sx.AObj.cells (Sx.V.agg [V.d (dI 0),V.d (dI 0),V.d (dI 0),V.d (dI 0),V.d (dI 0),V.d (dI 0)]).cl 62=Sx.AObj.cells (Sx.V.agg [V.d (dI 0),V.d (dI 0),V.d (dI 0),V.d (dI 0),V.d (dI 0),V.d (dI 0)]).cl 62
def z8 (a:Nat) (b:BsI):=(z5 (List.take (max a 1) b.l) b.s)
def bQ (a:BsI):=(↑(List.map zK a.l).length:Int)
def zMa (a:BsI):Prop:=((0:Int)≤(0:Int)∧0<(bQ a))∧∃(b:Int),∃(c:Int),∃(d:Int),∃(e:Int),∃(f:Int),∃(g:Int),zF (List.map zK a.l) (Int.toNat 0) 0 6=some [dI b,dI c,dI d,dI e,dI f,dI g]∧∃(h:Nat),(↑h:Int)=0∧(z8 h a).fst.price=b∧(z8 h a).fst.qty=c∧(z8 h a).fst.a.inst=d∧(z8 h a).fst.a.side=e∧(z8 h a).fst.b.inst=f∧(z8 h a).fst.b.side=g∧∃(j:Nat→Prop),∃(k:Nat→Nat),j h∧∀(l:Nat),j l→cnd (decide ((↑l:Int)<(bQ a))) ((0≤(↑l:Int)∧(↑l:Int)<(bQ a))∧∃(m:Int),∃(n:Int),∃(p:Int),∃(q:Int),∃(r:Int),∃(s:Int),zF (List.map zK a.l) (↑l:Int).toNat 0 6=some [dI m,dI n,dI p,dI q,dI r,dI s]∧∃(t:I3'),t.side=a.s∧t.x=m∧t.y=(z8 l a).fst.price∧True∧∀(u:Unit),True→cnd (btr t.side t.x t.y) (∃(v:Nat),(↑v:Int)=IntKind.i64.wrap ((↑l:Int)+1)∧(z8 v a).fst.price=m∧(z8 v a).fst.qty=n∧(z8 v a).fst.a.inst=p∧(z8 v a).fst.a.side=q∧(z8 v a).fst.b.inst=r∧(z8 v a).fst.b.side=s∧lG j v k l) (∃(v:Nat),(↑v:Int)=IntKind.i64.wrap ((↑l:Int)+1)∧(z8 v a).fst.price=(z8 l a).fst.price∧(z8 v a).fst.qty=(z8 l a).fst.qty∧(z8 v a).fst.a.inst=(z8 l a).fst.a.inst∧(z8 v a).fst.a.side=(z8 l a).fst.a.side∧(z8 v a).fst.b.inst=(z8 l a).fst.b.inst∧(z8 v a).fst.b.side=(z8 l a).fst.b.side∧lG j v k l)) (∃(m:Unit),(z5 a.l a.s).fst.price=(z8 l a).fst.price∧(z5 a.l a.s).fst.qty=(z8 l a).fst.qty∧(z5 a.l a.s).fst.a.inst=(z8 l a).fst.a.inst∧(z5 a.l a.s).fst.a.side=(z8 l a).fst.a.side∧(z5 a.l a.s).fst.b.inst=(z8 l a).fst.b.inst∧(z5 a.l a.s).fst.b.side=(z8 l a).fst.b.side∧(z5 a.l a.s).snd=true∧True)
def zAb (a:BsI):Prop:=∃(b:Unit),(z5 a.l a.s).fst.price=0∧(z5 a.l a.s).fst.qty=0∧(z5 a.l a.s).fst.a.inst=0∧(z5 a.l a.s).fst.a.side=0∧(z5 a.l a.s).fst.b.inst=0∧(z5 a.l a.s).fst.b.side=0∧(z5 a.l a.s).snd=false∧True
def yDe (i:BsI):Prop:=
 cnd ((bQ i)==0) (zAb i) (cnd (i.s !=1) (cnd (i.s !=2) (zAb i) (zMa i)) (zMa i))
end Sx
