/- Texts of ours, one behind the other: a walk that the kernel reckons, and contracts of functions. No condition. -/
import Derived.Test.YtpgpnnncaidcjaaGreatRows
import Derived.Test.YtpgpnnncaidcjaaGreatB3
namespace Sx
set_option linter.unusedVariables false
open Go Cv Go.Proofs
theorem kp {P:Prop} (h:P:=by(repeat'(first|exact rfl|exact trivial|assumption|apply And.intro|refine fun(_:Unit) (_:True)=>?_|refine Exists.intro () ?_|omega|(dsimp only;omega)))):P:=h
theorem mixed:Tryz.prog.follows .mixedOrders=true:=by kernel_rfl
theorem okw {P:Program} {f:FuncId} {fn:Func} {C:Con} {G:List (Nat×Con)} {V:C.ι→Prop} (hm:P.follows .mixedOrders=true) (hG:GOk P G) (d:Nat) (J:C.ι→List (Nat×SAnn)) (an:C.ι→List SAnn) (op:List Nat) (hf:P.funcs[f]? =some fn) (h:∀i,C.cnd i→V i) (hb:fn.body=some (fn.body.getD .skip):=by kernel_rfl) (hbd:vU P f=true:=by kernel_rfl) (hok:okC fn.ntmps (fn.body.getD .skip)=true:=by kernel_rfl) (hsz:∀i,Nat.ble (C.pat i).length fn.ntmps=true:=by intro _;kernel_rfl) (e:∀i,V i=walk P G d (J i) (an i) op fn (fn.body.getD .skip) (C.pat i) (C.pre i) (C.alts i):=by intro _;kernel_rfl):C.ok P f:=lY hm G hG d J an op hf hb hbd hok hsz fun i hc=>Eq.mp (e i) (h i hc)
structure Lv where
 price:Int
 qty:Int
 count:Int
def lvV (l:Lv):V:= .agg [zA l.price,zA l.qty,zA l.count]
open Go Cv Go.Proofs
def sb (l:List UInt8):ByteArray:=⟨l.toArray⟩
@[reducible] def sV (l:List UInt8):V:= .d (.v (.string (sb l)))
def zLd (l:List UInt8):Nat×Nat:=Utf8.decode (sb l) 0
def eU:Nat→Nat→List UInt8→List (Nat×Nat)
 |0,_,_=>[]
 |k+1,p,l=>match l with
  |[]=>[]
  |_=>(p,(zLd l).1)::eU k (p+(zLd l).2) (l.drop (zLd l).2)
def gF (s:List UInt8) (p:Nat):List (Nat×Nat):=eU (s.length-p) p (s.drop p)
def kW (s:List UInt8):List Nat:=(gF s 0).map (·.2)
def countC:Con:=con1 (List UInt8) (fun s=>[sV s]) (fun _=>[]) (fun s=>s.length≤1099511627776) (fun s=>zA (kW s).length) (fun _=>[])
def yNx (s:List UInt8):List SAnn:=[{ι:=Nat×Nat,slots:=fun x=>[(3,zA x.2),(5,.nm 0 0)],rows:=fun x=>[.iter (sb s) x.1]}]
def u0 (r:Nat):Bool:=(decide (65≤r) && decide (r≤90))||(decide (913≤r) && decide (r≤937) && decide (r≠930))
def j6 (s:List UInt8):Bool:=(kW s).all u0 && decide (s≠[]) && decide ((kW s).length≤4)
def symC:Con:=con1 (List UInt8) (fun s=>[sV s]) (fun _=>[]) (fun s=>s.length≤1099511627776) (fun s=>yR (j6 s)) (fun _=>[])
def yRc (s:List UInt8):List SAnn:=[{ι:=Nat,slots:=fun x=>[(7,.nm 0 0)],rows:=fun x=>[.iter (sb s) x]}]
def iE (l:List Int):List (List D):=l.map fun n=>[.v (.int .i64 n)]
@[reducible] def iV (l:List Int):V:=roV 1 (iE l)
structure Prd where
 code:List UInt8
 months:List Int
 tick:Int
 low:Int
 high:Int
 wide:Int
 rule:Int
 top:Int
 least:Int
 part:Int
 settle:List Int
 deriving DecidableEq
@[reducible] def Prd.cells (p:Prd):List V:=[sV p.code,iV p.months,zA p.tick,zA p.low,zA p.high,zA p.wide,zA p.rule,zA p.top,zA p.least,zA p.part,iV p.settle]
@[reducible] def prdV (p:Prd):V:= .agg p.cells
@[reducible] def Prd.small (p:Prd):Prop:=p.code.length≤1099511627776∧p.months.length≤1099511627776∧p.settle.length≤1099511627776
def qS (l:List Int) (k:Nat):Bool:=decide (0≤l.getD k 0) && decide (l.getD k 0≤1199) && (decide (k=0)||decide (l.getD (k-1) 0<l.getD k 0))
def xJ (l:List Int):Bool:=(List.range l.length).all (qS l) && decide (2≤l.length) && decide (l.length≤6)
def monthsC:Con:=con1 (List Int) (fun l=>[iV l]) (fun _=>[]) (fun l=>l.length≤1099511627776) (fun l=>yR (xJ l)) (fun _=>[])
def yHq:List SAnn:=[{ι:=Nat,slots:=fun j=>[(7,zA j)],rows:=fun _=>[]}]
def pB (l:List Int):Int:=l.tail.foldl min (l.headD 0)
def rI (l:List Int):Int:=l.tail.foldl max (l.headD 0)
def minC:Con:=con1 (List Int) (fun l=>[iV l]) (fun _=>[]) (fun l=>0<l.length∧l.length≤1099511627776) (fun l=>zA (pB l)) (fun _=>[])
def maxC:Con:=con1 (List Int) (fun l=>[iV l]) (fun _=>[]) (fun l=>0<l.length∧l.length≤1099511627776) (fun l=>zA (rI l)) (fun _=>[])
def yQx (l:List Int):List SAnn:=[{ι:=Nat,slots:=fun j=>[(3,zA (pB (l.take j))),(4,zA j)],rows:=fun _=>[]}]
def yQr (l:List Int):List SAnn:=[{ι:=Nat,slots:=fun j=>[(3,zA (rI (l.take j))),(4,zA j)],rows:=fun _=>[]}]
set_option maxRecDepth 100000
open Go Cv Go.Proofs
@[reducible] def dI (n:Int):D:= .v (.int .i64 n)
def fW (a:Nat×Nat) (b:List UInt8) (c:Nat×Nat→Prop) (d:Nat×Nat→Nat):Prop:=∃(e:Nat×Nat),(↑e.snd:Int)=IntKind.i64.wrap ((↑a.snd:Int)+1)∧sb b=sb b∧e.fst=a.fst+(Utf8.decode (sb b) a.fst).snd∧c e∧d e<d a∧True
def z9s (s:List UInt8):Prop:=
 ∃(a:Nat×Nat),(↑a.snd:Int)=0∧sb s=sb s∧a.fst=0∧∃(b:Nat×Nat→Prop),∃(c:Nat×Nat→Nat),b a∧∀(d:Nat×Nat),b d→cnd (d.fst.blt (sb s).size) (fW d s b c) (∃(e:Unit),(↑(kW s).length:Int)=(↑d.snd:Int)∧True)
def zCh (a:List UInt8) (b:Nat) (c:Nat→Prop) (d:Nat→Nat):Prop:=∃(e:Nat),sb a=sb a∧e=b+(Utf8.decode (sb a) b).snd∧c e∧d e<d b∧True
def g9 (a:List UInt8) (b:Nat):=(↑(Utf8.decode (sb a) b).fst:Int)
def yOj (s:List UInt8):Prop:=
 ∃(a:Nat),sb s=sb s∧a=0∧∃(b:Nat→Prop),∃(c:Nat→Nat),b a∧∀(d:Nat),b d→cnd (d.blt (sb s).size) (cnd (decide ((g9 s d)≥65)) (cnd (decide ((g9 s d)≤90)) (zCh s d b c) (cnd (decide ((g9 s d)≥913)) (cnd (decide ((g9 s d)≤937)) (cnd (!(g9 s d) !=930) (∃(e:Unit),j6 s=false∧True) (zCh s d b c)) (∃(e:Unit),j6 s=false∧True)) (∃(e:Unit),j6 s=false∧True))) (cnd (decide ((g9 s d)≥913)) (cnd (decide ((g9 s d)≤937)) (cnd (!(g9 s d) !=930) (∃(e:Unit),j6 s=false∧True) (zCh s d b c)) (∃(e:Unit),j6 s=false∧True)) (∃(e:Unit),j6 s=false∧True))) (cnd (!(sb s).toList==(ByteArray.mk #[]).toList) (∃(e:List UInt8),sb e=sb s∧e.length≤1099511627776∧∀(f:Unit),True→∃(g:Unit),j6 s=decide ((↑(kW e).length:Int)≤4)∧True) (∃(e:Unit),j6 s=false∧True))
def vM (a:Nat) (b:Nat) (c:Nat→Prop) (d:Nat→Nat):Prop:=(↑a:Int)=IntKind.i64.wrap ((↑b:Int)+1)∧c a∧d a<d b∧True
def dY (a:Nat) (b:Nat→Prop) (c:Nat→Nat):Prop:=∃(d:Nat),vM d a b c
def z2a (l:List Int):Prop:=
 ∃(a:Nat),(↑a:Int)=0∧∃(b:Nat→Prop),∃(c:Nat→Nat),b a∧∀(d:Nat),b d→cnd (decide ((↑d:Int)<(↑(iE l).length:Int))) ((0≤(↑d:Int)∧(↑d:Int)<(↑(iE l).length:Int))∧∃(e:Int),zF (iE l) (↑d:Int).toNat 0 1=some [dI e]∧cnd (decide (e<0)) (∃(f:Unit),xJ l=false∧True) (cnd (decide (e>1199)) (∃(f:Unit),xJ l=false∧True) (cnd (decide ((↑d:Int)>0)) ((0≤IntKind.i64.wrap ((↑d:Int)-1)∧IntKind.i64.wrap ((↑d:Int)-1)<(↑(iE l).length:Int))∧∃(f:Int),zF (iE l) (IntKind.i64.wrap ((↑d:Int)-1)).toNat 0 1=some [dI f]∧cnd (decide (f≥e)) (∃(g:Unit),xJ l=false∧True) (dY d b c)) (dY d b c)))) (cnd (decide ((↑(iE l).length:Int)≥2)) (∃(e:Unit),xJ l=decide ((↑(iE l).length:Int)≤6)∧True) (∃(e:Unit),xJ l=false∧True))
def yOp (l:List Int):Prop:=
 cnd (decide ((↑(iE l).length:Int)<1)) False (((0:Int)≤(0:Int)∧0<(↑(iE l).length:Int))∧∃(a:Int),zF (iE l) (Int.toNat 0) 0 1=some [dI a]∧∃(b:Nat),pB (List.take b l)=a∧(↑b:Int)=1∧∃(c:Nat→Prop),∃(d:Nat→Nat),c b∧∀(e:Nat),c e→cnd (decide ((↑e:Int)<(↑(iE l).length:Int))) ((0≤(↑e:Int)∧(↑e:Int)<(↑(iE l).length:Int))∧∃(f:Int),zF (iE l) (↑e:Int).toNat 0 1=some [dI f]∧∃(g:Nat),pB (List.take g l)=min (pB (List.take e l)) f∧vM g e c d) (∃(f:Unit),pB l=pB (List.take e l)∧True))
def yPe (l:List Int):Prop:=
 cnd (decide ((↑(iE l).length:Int)<1)) False (((0:Int)≤(0:Int)∧0<(↑(iE l).length:Int))∧∃(a:Int),zF (iE l) (Int.toNat 0) 0 1=some [dI a]∧∃(b:Nat),rI (List.take b l)=a∧(↑b:Int)=1∧∃(c:Nat→Prop),∃(d:Nat→Nat),c b∧∀(e:Nat),c e→cnd (decide ((↑e:Int)<(↑(iE l).length:Int))) ((0≤(↑e:Int)∧(↑e:Int)<(↑(iE l).length:Int))∧∃(f:Int),zF (iE l) (↑e:Int).toNat 0 1=some [dI f]∧∃(g:Nat),(rI (List.take g l)=if f>rI (List.take e l)then f else rI (List.take e l))∧vM g e c d) (∃(f:Unit),rI l=rI (List.take e l)∧True))
set_option linter.unusedSimpArgs false
open Go Cv Go.Proofs
@[simp] theorem z2y (s:List UInt8):(sb s).size=s.length:=by simp[sb,ByteArray.size]
theorem aY (s:List UInt8):(sb s).toList=s:=by rw[ByteArray.toList_eq];rfl
theorem yLu (s:List UInt8) (p k:Nat):(sb s).get! (p+k)=(sb (s.drop p)).get! (0+k):=by
 simp only[sb,ByteArray.get!,yTl]
 simp only[List.getElem!_toArray,List.getElem!_eq_getElem?_getD,yVg]
theorem zGo (s:List UInt8) (p:Nat):Utf8.decode (sb s) p=zLd (s.drop p):=by
 have h (k:Nat):(decide (p+k<(sb s).size))=decide (0+k<(sb (s.drop p)).size):=by
  simp only[z2y,yTk]
  by_cases h:p+k<s.length
  ·rw[ySw h,ySw (by omega)]
  ·rw[ySp h,ySp (by omega)]
 unfold zLd Utf8.decode
 simp only[yLu s p,h]
theorem bV (s:List UInt8) {p:Nat} (h:p<s.length):1≤(Utf8.decode (sb s) p).2∧p+(Utf8.decode (sb s) p).2≤s.length:=by
 unfold Utf8.decode
 simp only[z2y,ySs,yTj]
 split
 ·exact⟨by simp,by simp;omega⟩
 split
 ·rename_i h1
  split
  ·exact⟨by simp,by simp;omega⟩
  ·exact⟨by simp,by simp;omega⟩
 split
 ·rename_i h1
  split
  ·exact⟨by simp,by simp;omega⟩
  ·exact⟨by simp,by simp;omega⟩
 split
 ·rename_i h1
  split
  ·exact⟨by simp,by simp;omega⟩
  ·exact⟨by simp,by simp;omega⟩
 ·exact⟨by simp,by simp;omega⟩
theorem yLx {l:List UInt8} (h:l≠[]):1≤(zLd l).2∧(zLd l).2≤l.length:=by
 have:=bV l (p:=0) (by cases l<;>simp_all)
 rw[zLd];omega
theorem pT:∀(k:Nat) (p:Nat) (l:List UInt8),l.length≤k→eU k p l=eU l.length p l
 |0,p,l,h=>by
  have:l=[]:=yTn (by omega)
  subst this;rfl
 |k+1,p,[],h=>rfl
 |k+1,p,b::l,h=>by
  have hw:=yLx (l:=b::l) (by simp)
  have hl:((b::l).drop (zLd (b::l)).2).length≤l.length:=by rw[yTk,ySx];omega
  rw[ySx]
  simp only[eU]
  rw[pT k _ _ (by rw[ySx]at h;omega),pT l.length _ _ hl]
theorem fU {s:List UInt8} {p:Nat} (h:s.length≤p):gF s p=[]:=by
 rw[gF,show s.length-p=0 by omega];rfl
theorem j8 {s:List UInt8} {p:Nat} (h:p<s.length):gF s p=(p,(Utf8.decode (sb s) p).1)::gF s (p+(Utf8.decode (sb s) p).2):=by
 obtain⟨k,hk⟩:∃k,s.length-p=k+1:=⟨s.length-p-1,by omega⟩
 have hw:=bV s h
 obtain⟨b,l,hb⟩:∃b l,s.drop p=b::l:=by
  cases hd:s.drop p with
  |nil=>rw[List.drop_eq_nil_iff]at hd;omega
  |cons b l=>exact⟨b,l,rfl⟩
 have hlen:(b::l).length=s.length-p:=by rw[← hb,yTk]
 rw[gF,hk,hb,zGo,hb,gF]
 rw[zGo,hb]at hw
 simp only[eU]
 have e:(b::l).drop (zLd (b::l)).2=s.drop (p+(zLd (b::l)).2):=by rw[← hb,yVs]
 rw[e,pT k _ _ (by rw[yTk];omega),yTk]
theorem zLf (s:List UInt8):∀(k p:Nat),s.length-p≤k→(gF s p).length≤s.length-p
 |0,p,h=>by rw[fU (by omega)];simp
 |k+1,p,h=>by
  by_cases hp:p<s.length
  ·have hw:=bV s hp
   rw[j8 hp,ySx]
   have:=zLf s k (p+(Utf8.decode (sb s) p).2) (by omega)
   omega
  ·rw[fU (by omega)];simp
theorem zFr (s:List UInt8):(kW s).length≤s.length:=by
 rw[kW,ySh]
 have:=zLf s s.length 0 (by omega)
 omega
theorem z1q {a b:Nat} (h:Nat.blt a b=false):b≤a:=by
 rcases yUr a b with h1|h1
 ·rw[show Nat.blt a b=true by rw[yVi];exact h1]at h;cases h
 ·exact h1
theorem z8z:(ByteArray.mk #[]).toList=[]:=aY []
theorem yJu (s:List UInt8) (h:countC.cnd s):z9s s:=by
 have h:s.length≤1099511627776:=h
 have hr:=zFr s
 unfold z9s fW
 refine⟨(0,0),rfl,rfl,rfl,fun x=>x.1≤s.length∧x.2+(gF s x.1).length=(kW s).length,fun x=>s.length-x.1,⟨by omega,by rw[kW,ySh];simp⟩,?_⟩
 rintro⟨p,n⟩ ⟨h1,h2⟩
 dsimp only at h1 h2 ⊢
 refine Cv.cnd.mk (fun hp=> ?_) (fun hp=> ?_)
 ·have hp:p<s.length:=by simpa[yVi]using hp
  have hw:=bV s hp
  rw[j8 hp,ySx]at h2
  refine⟨(p+(Utf8.decode (sb s) p).2,n+1),?_,rfl,rfl,⟨hw.2,by(first|omega|(dsimp only;omega))⟩,by(first|omega|(dsimp only;omega)),trivial⟩
  rw[w64 (by omega)];rfl
 ·have hp:s.length≤p:=by have:=z1q hp;simpa using this
  rw[fU hp]at h2
  exact⟨(),by rw[← h2];rfl,trivial⟩
theorem yAh:countC.ok Tryz.prog 108:=okw mixed gok0 0 (fun _=>[]) (fun s=>yNx s) [] Tryz.func108 yJu
theorem ySb (s:List UInt8) (h:symC.cnd s):yOj s:=by
 have h:s.length≤1099511627776:=h
 unfold yOj g9 zCh
 refine⟨0,rfl,rfl,fun p=>p≤s.length∧(kW s).all u0=(gF s p).all fun x=>u0 x.2,fun p=>s.length-p,⟨by omega,by rw[kW,List.all_map];rfl⟩,?_⟩
 rintro p ⟨h1,h2⟩
 refine Cv.cnd.mk (fun hp=> ?_) (fun hp=> ?_)
 ·have hp:p<s.length:=by simpa[yVi]using hp
  have hw:=bV s hp
  rw[j8 hp,List.all_cons]at h2
  generalize hc:(Utf8.decode (sb s) p).1=c at h2 ⊢
  generalize hww:(Utf8.decode (sb s) p).2=w at h2 hw ⊢
  dsimp only at h2
  have bad:u0 c=false→∃(o:Unit),j6 s=false∧True:=fun e=>⟨(),by rw[j6,h2,e];rfl,trivial⟩
  have good:u0 c=true→∃i':Nat,sb s=sb s∧i'=p+w∧(i'≤s.length∧(kW s).all u0=(gF s i').all fun x=>u0 x.2)∧s.length-i'<s.length-p∧True:=fun e=>⟨p+w,rfl,rfl,⟨hw.2,by rw[h2,e];rfl⟩,by omega,trivial⟩
  refine zK (fun c1=>zK (fun c2=> ?_) (fun c2=>zK (fun c3=>zK (fun c4=>Cv.cnd.mk (fun c5=> ?_) (fun c5=> ?_)) (fun c4=> ?_)) (fun c3=> ?_))) (fun c1=>zK (fun c3=>zK (fun c4=>Cv.cnd.mk (fun c5=> ?_) (fun c5=> ?_)) (fun c4=> ?_)) (fun c3=> ?_))
  all_goals first|(refine good ?_;simp[u0]at*;omega)|(refine bad ?_;simp[u0]at*;omega)
 ·have hp:s.length≤p:=by have:=z1q hp;simpa using this
  rw[fU hp]at h2
  have h2:(kW s).all u0=true:=h2
  refine Cv.cnd.mk (fun e=>⟨s,rfl,h,fun _ _=>⟨(),?_,trivial⟩⟩) (fun e=>⟨(),?_,trivial⟩)
  ·rw[aY,z8z]at e
   have:s≠[]:=by simpa using e
   rw[j6,h2,ySw this]
   simp only[yTm]
   congr 1
   simp only[eq_iff_iff];omega
  ·have:s=[]:=by
    rw[aY,z8z]at e
    simpa using e
   rw[j6,this];rfl
theorem yKo:symC.ok Tryz.prog 82:=okw mixed (gokc yAh gok0) 0 (fun _=>[]) (fun s=>yRc s) [] Tryz.func82 ySb
@[simp] theorem yW (l:List Int):(iE l).length=l.length:=by simp[iE]
theorem elI {l:List Int} {k:Nat} {n:Int} (h:l[k]? =some n):zF (iE l) k 0 1=some [D.v (.int .i64 n)]:=by
 simp[zF,iE,h];rfl
theorem z6 {α:Type} {l:List α} {i:Nat} (h:i<l.length):∃x,l[i]? =some x:=⟨l[i],yTs h⟩
theorem zOv {n k:Nat} {f:Nat→Bool} (hk:k<n) (h:f k=false):(List.range n).all f=false:=by
 cases hh:(List.range n).all f
 ·rfl
 ·rw[yVh]at hh
  rw[hh k (by simpa using hk)]at h;cases h
theorem zTv {n:Nat} {f:Nat→Bool} (h:∀k<n,f k=true):(List.range n).all f=true:=by
 rw[yVh];intro k hk;exact h k (by simpa using hk)
theorem yFc (l:List Int) (h:monthsC.cnd l):z2a l:=by
 have h:l.length≤1099511627776:=h
 unfold z2a dY vM dI
 simp only[yW]
 refine⟨0,rfl,fun j=>j≤l.length∧∀k<j,qS l k=true,fun j=>l.length-j,⟨by omega,fun k hk=>by omega⟩,?_⟩
 rintro j ⟨h1,h2⟩
 have bad:j<l.length→qS l j=false→∃(o:Unit),xJ l=false∧True:=fun hj e=>⟨(),by rw[xJ,zOv hj e];rfl,trivial⟩
 have good:j<l.length→qS l j=true→∃i':Nat,(i':Int)=IntKind.i64.wrap ((j:Int)+1)∧(i'≤l.length∧∀k<i',qS l k=true)∧l.length-i'<l.length-j∧True:=fun hj e=>⟨j+1,by rw[w64 (by omega)];rfl,⟨by omega,fun k hk=>by
  rcases yUr k j with hk'|hk'
  ·exact h2 k hk'
  ·obtain rfl:k=j:=by omega
   exact e⟩,by omega,trivial⟩
 refine zK (fun hj=> ?_) (fun hj=> ?_)
 ·have hj:j<l.length:=by omega
  obtain⟨n,hn⟩:=z6 hj
  have hg:l.getD j 0=n:=by simp[hn]
  refine⟨⟨by omega,by omega⟩,n,elI hn,zK (fun c1=>bad hj (by simp[qS,hn];omega)) (fun c1=>zK (fun c2=>bad hj (by simp[qS,hn];omega)) (fun c2=>zK (fun c3=> ?_) (fun c3=>good hj ?_)))⟩
  ·have e:IntKind.i64.wrap ((j:Int)-1)=((j-1:Nat):Int):=by rw[w64 (by omega)];omega
   obtain⟨m,hm⟩:=z6 (l:=l) (i:=j-1) (by omega)
   rw[e]
   refine⟨⟨by omega,by omega⟩,m,elI hm,zK (fun c4=>bad hj ?_) (fun c4=>good hj ?_)⟩
   ·simp[qS,hn,hm];omega
   ·simp[qS,hn,hm];omega
  ·simp[qS,hn];omega
 ·have e:(List.range l.length).all (qS l)=true:=zTv fun k hk=>h2 k (by omega)
  refine zK (fun c=>⟨(),?_,trivial⟩) (fun c=>⟨(),?_,trivial⟩)
  ·rw[xJ,e,ySw (show 2≤l.length by omega)]
   simp;omega
  ·rw[xJ,ySp (show ¬2≤l.length by omega)];simp
theorem z4k:monthsC.ok Tryz.prog 83:=okw mixed gok0 0 (fun _=>[]) (fun _=>yHq) [] Tryz.func83 yFc
theorem zDs {f:Int→Int→Int} {l:List Int} {j:Nat} {n:Int} (h:l[j+1]? =some n):(l.take (j+2)).tail.foldl f ((l.take (j+2)).headD 0)=f ((l.take (j+1)).tail.foldl f ((l.take (j+1)).headD 0)) n:=by
 cases l with
 |nil=>simp at h
 |cons a l=>
  simp only[yTx]at h
  simp only[yTw,List.tail_cons,List.headD_cons]
  rw[yUf,h,yYl];rfl
theorem zXg {l:List Int} {n:Int} (h:l[0]? =some n) (f:Int→Int→Int):(l.take 1).tail.foldl f ((l.take 1).headD 0)=n:=by
 cases l with
 |nil=>simp at h
 |cons a l=>simpa using h
theorem yRd (l:List Int) (h:minC.cnd l):yOp l:=by
 obtain⟨h0,h⟩:0<l.length∧l.length≤1099511627776:=h
 unfold yOp vM dI
 simp only[yW]
 obtain⟨n,hn⟩:=z6 h0
 refine zK (fun c=>by omega) (fun c=>⟨⟨by omega,by omega⟩,n,elI hn,1,zXg hn min,rfl,fun j=>1≤j∧j≤l.length,fun j=>l.length-j,⟨by omega,by omega⟩,?_⟩)
 rintro j ⟨h1,h2⟩
 refine zK (fun hj=> ?_) (fun hj=>⟨(),?_,trivial⟩)
 ·obtain⟨m,hm⟩:=z6 (l:=l) (i:=j) (by omega)
  refine⟨⟨by omega,by omega⟩,m,elI hm,j+1,?_,?_,⟨by omega,by omega⟩,by(first|omega|(dsimp only;omega)),trivial⟩
  ·obtain⟨k,rfl⟩:∃k,j=k+1:=⟨j-1,by omega⟩
   first
    |(rw[pB,zDs hm,← pB];done)
    |(rw[pB,zDs hm,← pB];generalize pB (l.take (k+1))=x;split<;>omega)
  ·rw[w64 (by omega)];rfl
 ·rw[ySz (by omega)]
theorem yNp:minC.ok Tryz.prog 85:=okw mixed gok0 0 (fun _=>[]) (fun l=>yQx l) [] Tryz.func85 yRd
theorem yQt (l:List Int) (h:maxC.cnd l):yPe l:=by
 obtain⟨h0,h⟩:0<l.length∧l.length≤1099511627776:=h
 unfold yPe vM dI
 simp only[yW]
 obtain⟨n,hn⟩:=z6 h0
 refine zK (fun c=>by omega) (fun c=>⟨⟨by omega,by omega⟩,n,elI hn,1,zXg hn max,rfl,fun j=>1≤j∧j≤l.length,fun j=>l.length-j,⟨by omega,by omega⟩,?_⟩)
 rintro j ⟨h1,h2⟩
 refine zK (fun hj=> ?_) (fun hj=>⟨(),?_,trivial⟩)
 ·obtain⟨m,hm⟩:=z6 (l:=l) (i:=j) (by omega)
  refine⟨⟨by omega,by omega⟩,m,elI hm,j+1,?_,?_,⟨by omega,by omega⟩,by(first|omega|(dsimp only;omega)),trivial⟩
  ·obtain⟨k,rfl⟩:∃k,j=k+1:=⟨j-1,by omega⟩
   rw[rI,zDs hm,← rI]
   generalize rI (l.take (k+1))=x
   split<;>omega
  ·rw[w64 (by omega)];rfl
 ·rw[ySz (by omega)]
theorem yLs:maxC.ok Tryz.prog 86:=okw mixed gok0 0 (fun _=>[]) (fun l=>yQr l) [] Tryz.func86 yQt
open Go Cv Go.Proofs
@[reducible] def Prd.row (p:Prd):AObj:= .cells p.cells 29
structure zYl where
 p:Prd
 n:Int
structure zSi where
 p:Prd
 l:List Int
def qQ (t n:Int):Bool:=n.tmod t !=0
def offC:Con:=con1 zYl (fun i=>[zA i.n,.nm 0 0]) (fun i=>[i.p.row]) (fun i=>1≤i.p.tick) (fun i=>yR (qQ i.p.tick i.n)) (fun i=>[i.p.row])
@[reducible] def yPl:V:= .fn 109 [] [.nm 0 0]
def zGx (k:Option Nat):Int:=match k with
 |some k=>k
 |none=> -1
def idxC:Con:=con1 zSi (fun i=>[iV i.l,yPl]) (fun i=>[i.p.row]) (fun i=>1≤i.p.tick∧i.l.length≤1099511627776) (fun i=>zA (zGx (i.l.findIdx? (qQ i.p.tick)))) (fun i=>[i.p.row])
def yRt (i:zSi):List SAnn:=[{ι:=Nat,slots:=fun j=>[(8,zA j)],rows:=fun _=>[]}]
def containsC:Con:=con1 zSi (fun i=>[iV i.l,yPl]) (fun i=>[i.p.row]) (fun i=>1≤i.p.tick∧i.l.length≤1099511627776) (fun i=>yR (i.l.any (qQ i.p.tick))) (fun i=>[i.p.row])
def qM (p:Prd):Bool:=decide (1≤p.tick) && decide (p.tick≤1000) && !qQ p.tick p.low && !qQ p.tick p.high && !qQ p.tick p.wide && !p.settle.any (qQ p.tick)
def ticksC:Con:=con1 Prd (fun p=>[prdV p]) (fun _=>[]) Prd.small (fun p=>yR (qM p)) (fun _=>[])
def qN (p:Prd):Bool:=decide (p.low< -1000000)||decide (p.low≥p.high)||decide (p.high>1000000)||decide (p.wide<0)||decide (p.wide>p.high-p.low)
def xM (p:Prd):Bool:=decide (p.settle.length≠p.months.length)||decide (pB p.settle<p.low)||decide (rI p.settle>p.high)
def kF (p:Prd):Bool:=decide (p.rule<1)||decide (p.rule>3)
def x3 (p:Prd):Bool:=decide (p.top<0)||decide (p.top>1000000)||decide (p.least<1)||decide (p.least>1000)||decide (p.part<0)||decide (p.part>100)
def Prd.check (p:Prd):Int:=
 if !j6 p.code then 12 else if !xJ p.months then 1 else if !qM p then 22 else if qN p then 23 else if xM p then 1 else if kF p then 31 else if x3 p then 24 else 0
def checkC:Con:=con1 Prd (fun p=>[prdV p]) (fun _=>[]) Prd.small (fun p=>zA p.check) (fun _=>[])
def Prd.count (p:Prd):Nat:=if p.check=0 then p.months.length+p.months.length*(p.months.length-1) / 2 else 0
def pcountC:Con:=con1 Prd (fun p=>[prdV p]) (fun _=>[]) Prd.small (fun p=>zA p.count) (fun _=>[])
structure f9 where
 p:Prd
 n:Int
def yG (n:Nat):Nat→Nat
 |0=>n
 |k+1=>yG n k+(n-1-k)
def kA (n inst:Nat):Nat→Nat→Int×Int×Bool
 |0,_=>(0,0,false)
 |k+1,m=>if inst<yG n m+(n-1-m)then(m,m+1+(inst-yG n m:Nat),true)else kA n inst k (m+1)
def Prd.legs (p:Prd) (i:Int):Int×Int×Bool:=
 if i<0∨(p.count:Int)≤i then(0,0,false)else if i<p.months.length then(i,i,false)else kA p.months.length i.toNat p.months.length 0
def legsC:Con:=con1 f9 (fun i=>[prdV i.p,zA i.n]) (fun _=>[]) (fun i=>i.p.small) (fun i=> .tup [zA (i.p.legs i.n).1,zA (i.p.legs i.n).2.1,yR (i.p.legs i.n).2.2]) (fun _=>[])
structure rB where
 p:Prd
 a:Int
 b:Int
def Prd.spread (p:Prd) (a b:Int):Int×Bool:=
 if p.check≠0∨a<0∨b≤a∨(p.months.length:Int)≤b then(0,false)else((yG p.months.length a.toNat:Int)+b-a-1,true)
def spreadC:Con:=con1 rB (fun i=>[prdV i.p,zA i.a,zA i.b]) (fun _=>[]) (fun i=>i.p.small) (fun i=> .tup [zA (i.p.spread i.a i.b).1,yR (i.p.spread i.a i.b).2]) (fun _=>[])
def Prd.price (p:Prd) (i n:Int):Int:=
 if p.count=0 then 1 else if i<0∨(p.count:Int)≤i then 20 else if qQ p.tick n then 22 else
 if n<(if(p.months.length:Int)≤i then-p.wide else p.low)∨(if(p.months.length:Int)≤i then p.wide else p.high)<n then 23 else 0
def priceC:Con:=con1 rB (fun i=>[prdV i.p,zA i.a,zA i.b]) (fun _=>[]) (fun i=>i.p.small) (fun i=>zA (i.p.price i.a i.b)) (fun _=>[])
structure I2 where
 x:Int
 y:Int
@[reducible] def yY (n:Int):Prop:= -9223372036854775808≤n∧n≤9223372036854775807
def vZ (x y:Int):Int×Bool:=if yY (x+y)then(x+y,true)else(0,false)
def uL (x y:Int):Int×Bool:=if yY (x-y)then(x-y,true)else(0,false)
def addC:Con:=con1 I2 (fun i=>[zA i.x,zA i.y]) (fun _=>[]) (fun i=>yY i.x∧yY i.y) (fun i=> .tup [zA (vZ i.x i.y).1,yR (vZ i.x i.y).2]) (fun _=>[])
def subC:Con:=con1 I2 (fun i=>[zA i.x,zA i.y]) (fun _=>[]) (fun i=>yY i.x∧yY i.y) (fun i=> .tup [zA (uL i.x i.y).1,yR (uL i.x i.y).2]) (fun _=>[])
def yPh (i:f9):List SAnn:=[{ι:=Nat,slots:=fun m=>[(8,zA (yG i.p.months.length m)),(33,zA m)],rows:=fun _=>[]}]
def yEr (i:rB):List SAnn:=[{ι:=Nat,slots:=fun m=>[(9,zA (yG i.p.months.length m)),(33,zA m)],rows:=fun _=>[]}]
open Go Cv Go.Proofs
def yOq (i:zYl):Prop:=
 IntKind.i64=IntKind.i64∧i.p.tick≠0∧∃(a:Unit),qQ i.p.tick i.n=(i.n.tmod i.p.tick !=0)∧sb i.p.code=sb i.p.code∧iE i.p.months=iE i.p.months∧i.p.tick=i.p.tick∧i.p.low=i.p.low∧i.p.high=i.p.high∧i.p.wide=i.p.wide∧i.p.rule=i.p.rule∧i.p.top=i.p.top∧i.p.least=i.p.least∧i.p.part=i.p.part∧iE i.p.settle=iE i.p.settle∧True
def yOw (i:zSi):Prop:=
 ∃(a:Nat),(↑a:Int)=0∧∃(b:Nat→Prop),∃(c:Nat→Nat),b a∧∀(d:Nat),b d→cnd (decide ((↑d:Int)<(↑(iE i.l).length:Int))) ((0≤(↑d:Int)∧(↑d:Int)<(↑(iE i.l).length:Int))∧∃(e:Int),zF (iE i.l) (↑d:Int).toNat 0 1=some [dI e]∧∃(f:zYl),f.n=e∧sb f.p.code=sb i.p.code∧iE f.p.months=iE i.p.months∧f.p.tick=i.p.tick∧f.p.low=i.p.low∧f.p.high=i.p.high∧f.p.wide=i.p.wide∧f.p.rule=i.p.rule∧f.p.top=i.p.top∧f.p.least=i.p.least∧f.p.part=i.p.part∧iE f.p.settle=iE i.p.settle∧1≤f.p.tick∧∀(g:Unit),True→cnd (qQ f.p.tick f.n) (∃(h:Unit),zGx (List.findIdx? (qQ i.p.tick) i.l)=(↑d:Int)∧sb i.p.code=sb f.p.code∧iE i.p.months=iE f.p.months∧i.p.tick=f.p.tick∧i.p.low=f.p.low∧i.p.high=f.p.high∧i.p.wide=f.p.wide∧i.p.rule=f.p.rule∧i.p.top=f.p.top∧i.p.least=f.p.least∧i.p.part=f.p.part∧iE i.p.settle=iE f.p.settle∧True) (∃(h:Nat),(↑h:Int)=IntKind.i64.wrap ((↑d:Int)+1)∧b h∧c h<c d∧Sx.AObj.cells (gD (bL 1 ((1:Nat)+(0:Nat)) ((1:Nat)-(1:Nat)) [((0:Nat),(0:Nat))]) f.p.cells) (29:TypeId)=i.p.row)) (∃(e:Unit),zGx (List.findIdx? (qQ i.p.tick) i.l)=(-1)∧sb i.p.code=sb i.p.code∧iE i.p.months=iE i.p.months∧i.p.tick=i.p.tick∧i.p.low=i.p.low∧i.p.high=i.p.high∧i.p.wide=i.p.wide∧i.p.rule=i.p.rule∧i.p.top=i.p.top∧i.p.least=i.p.least∧i.p.part=i.p.part∧iE i.p.settle=iE i.p.settle∧True)
def zNv (i:zSi):Prop:=
 ∃(a:zSi),iE a.l=iE i.l∧sb a.p.code=sb i.p.code∧iE a.p.months=iE i.p.months∧a.p.tick=i.p.tick∧a.p.low=i.p.low∧a.p.high=i.p.high∧a.p.wide=i.p.wide∧a.p.rule=i.p.rule∧a.p.top=i.p.top∧a.p.least=i.p.least∧a.p.part=i.p.part∧iE a.p.settle=iE i.p.settle∧(1≤a.p.tick∧a.l.length≤1099511627776)∧∀(b:Unit),True→∃(c:Unit),i.l.any (qQ i.p.tick)=decide (zGx (List.findIdx? (qQ a.p.tick) a.l)≥0)∧sb i.p.code=sb a.p.code∧iE i.p.months=iE a.p.months∧i.p.tick=a.p.tick∧i.p.low=a.p.low∧i.p.high=a.p.high∧i.p.wide=a.p.wide∧i.p.rule=a.p.rule∧i.p.top=a.p.top∧i.p.least=a.p.least∧i.p.part=a.p.part∧iE i.p.settle=iE a.p.settle∧True
def yDm (p:Prd):Prop:=
 cnd (decide (p.tick<1)) (∃(a:Unit),qM p=false∧True) (cnd (decide (p.tick>1000)) (∃(a:Unit),qM p=false∧True) (∃(a:zYl),a.n=p.low∧sb a.p.code=sb p.code∧iE a.p.months=iE p.months∧a.p.tick=p.tick∧a.p.low=p.low∧a.p.high=p.high∧a.p.wide=p.wide∧a.p.rule=p.rule∧a.p.top=p.top∧a.p.least=p.least∧a.p.part=p.part∧iE a.p.settle=iE p.settle∧1≤a.p.tick∧∀(b:Unit),True→cnd (!qQ a.p.tick a.n) (∃(c:zYl),c.n=a.p.high∧sb c.p.code=sb a.p.code∧iE c.p.months=iE a.p.months∧c.p.tick=a.p.tick∧c.p.low=a.p.low∧c.p.high=a.p.high∧c.p.wide=a.p.wide∧c.p.rule=a.p.rule∧c.p.top=a.p.top∧c.p.least=a.p.least∧c.p.part=a.p.part∧iE c.p.settle=iE a.p.settle∧1≤c.p.tick∧∀(d:Unit),True→cnd (!qQ c.p.tick c.n) (∃(e:zYl),e.n=c.p.wide∧sb e.p.code=sb c.p.code∧iE e.p.months=iE c.p.months∧e.p.tick=c.p.tick∧e.p.low=c.p.low∧e.p.high=c.p.high∧e.p.wide=c.p.wide∧e.p.rule=c.p.rule∧e.p.top=c.p.top∧e.p.least=c.p.least∧e.p.part=c.p.part∧iE e.p.settle=iE c.p.settle∧1≤e.p.tick∧∀(f:Unit),True→cnd (!qQ e.p.tick e.n) (∃(g:zSi),iE g.l=iE e.p.settle∧sb g.p.code=sb e.p.code∧iE g.p.months=iE e.p.months∧g.p.tick=e.p.tick∧g.p.low=e.p.low∧g.p.high=e.p.high∧g.p.wide=e.p.wide∧g.p.rule=e.p.rule∧g.p.top=e.p.top∧g.p.least=e.p.least∧g.p.part=e.p.part∧iE g.p.settle=iE e.p.settle∧(1≤g.p.tick∧g.l.length≤1099511627776)∧∀(h:Unit),True→∃(j:Unit),qM p=!g.l.any (qQ g.p.tick)∧True) (∃(g:Unit),qM p=false∧True)) (∃(e:Unit),qM p=false∧True)) (∃(c:Unit),qM p=false∧True)))
def zS (a:Prd):Prop:=a.code.length≤1099511627776∧a.months.length≤1099511627776∧a.settle.length≤1099511627776
def wE (a:Prd):=(↑(iE a.settle).length:Int)
def xH (a:Prd):=(↑(iE a.months).length:Int)
def yBd (p:Prd):Prop:=
 ∃(a:List UInt8),sb a=sb p.code∧a.length≤1099511627776∧∀(b:Unit),True→cnd (!j6 a) (∃(c:Unit),p.check=12∧True) (∃(c:List Int),iE c=iE p.months∧c.length≤1099511627776∧∀(d:Unit),True→cnd (!xJ c) (∃(e:Unit),p.check=1∧True) (∃(e:Prd),sb e.code=sb p.code∧iE e.months=iE p.months∧e.tick=p.tick∧e.low=p.low∧e.high=p.high∧e.wide=p.wide∧e.rule=p.rule∧e.top=p.top∧e.least=p.least∧e.part=p.part∧iE e.settle=iE p.settle∧(zS e)∧∀(f:Unit),True→cnd (!qM e) (∃(g:Unit),p.check=22∧True) (cnd (decide (p.low<(-1000000))) (∃(g:Unit),p.check=23∧True) (cnd (decide (p.low≥p.high)) (∃(g:Unit),p.check=23∧True) (cnd (decide (p.high>1000000)) (∃(g:Unit),p.check=23∧True) (cnd (decide (p.wide<0)) (∃(g:Unit),p.check=23∧True) (cnd (decide (p.wide>IntKind.i64.wrap (p.high-p.low))) (∃(g:Unit),p.check=23∧True) (cnd ((wE p) !=(xH p)) (∃(g:Unit),p.check=1∧True) (∃(g:List Int),iE g=iE p.settle∧(0<g.length∧g.length≤1099511627776)∧∀(h:Unit),True→p.low=p.low∧cnd (decide (pB g<p.low)) (∃(j:Unit),p.check=1∧True) (∃(j:List Int),iE j=iE p.settle∧(0<j.length∧j.length≤1099511627776)∧∀(k:Unit),True→p.high=p.high∧cnd (decide (rI j>p.high)) (∃(l:Unit),p.check=1∧True) (cnd (decide (p.rule<1)) (∃(l:Unit),p.check=31∧True) (cnd (decide (p.rule>3)) (∃(l:Unit),p.check=31∧True) (cnd (decide (p.top<0)) (∃(l:Unit),p.check=24∧True) (cnd (decide (p.top>1000000)) (∃(l:Unit),p.check=24∧True) (cnd (decide (p.least<1)) (∃(l:Unit),p.check=24∧True) (cnd (decide (p.least>1000)) (∃(l:Unit),p.check=24∧True) (cnd (decide (p.part<0)) (∃(l:Unit),p.check=24∧True) (cnd (decide (p.part>100)) (∃(l:Unit),p.check=24∧True) (∃(l:Unit),p.check=0∧True)))))))))))))))))))
def pF (a:Prd) (b:Prd):Prop:=sb a.code=sb b.code∧iE a.months=iE b.months∧a.tick=b.tick∧a.low=b.low∧a.high=b.high∧a.wide=b.wide∧a.rule=b.rule∧a.top=b.top∧a.least=b.least∧a.part=b.part∧iE a.settle=iE b.settle∧(zS a)∧∀(c:Unit),True→cnd (a.check !=0) (∃(d:Unit),(↑b.count:Int)=0∧True) (IntKind.i64=IntKind.i64∧(2:Int)≠(0:Int)∧∃(d:Unit),(↑b.count:Int)=IntKind.i64.wrap ((xH b)+IntKind.i64.wrap ((IntKind.i64.wrap ((xH b)*IntKind.i64.wrap ((xH b)-1))).tdiv 2))∧True)
def z1c (p:Prd):Prop:=
 ∃(a:Prd),pF a p
def pI (a:f9):Prop:=Sx.AObj.cells [V.d (D.v (Value.string (sb a.p.code))),V.own 0,V.d (dI a.p.tick),V.d (dI a.p.low),V.d (dI a.p.high),V.d (dI a.p.wide),V.d (dI a.p.rule),V.d (dI a.p.top),V.d (dI a.p.least),V.d (dI a.p.part),V.own ((0:Nat)+(1:Nat))] 29=Sx.AObj.cells [V.d (D.v (Value.string (sb a.p.code))),V.own 0,V.d (dI a.p.tick),V.d (dI a.p.low),V.d (dI a.p.high),V.d (dI a.p.wide),V.d (dI a.p.rule),V.d (dI a.p.top),V.d (dI a.p.least),V.d (dI a.p.part),V.own ((0:Nat)+(1:Nat))] 29∧AObj.fro 1 (iE a.p.settle)=AObj.fro 1 (iE a.p.settle)∧AObj.fro 1 (iE a.p.months)=AObj.fro 1 (iE a.p.months)
def zBt (a:Nat→Prop) (b:Nat) (c:Nat→Nat) (d:Nat) (e:f9):Prop:=a b∧c b<c d∧pI e
def uN (a:f9) (b:Nat):=(↑(yG a.p.months.length b):Int)
def wN (a:f9):=(↑(iE a.p.months).length:Int)
def zDi (a:f9) (b:Nat):=((uN a b)+IntKind.i64.wrap (IntKind.i64.wrap ((wN a)-1)-(↑b:Int)))
def gX (a:f9):Prop:=∃(b:Unit),(a.p.legs a.n).fst=0∧(a.p.legs a.n).snd.fst=0∧(a.p.legs a.n).snd.snd=false∧True
def eG (a:f9):Prop:=∃(b:Unit),(a.p.legs a.n).fst=a.n∧(a.p.legs a.n).snd.fst=a.n∧(a.p.legs a.n).snd.snd=false∧True
def yIa (i:f9):Prop:=
 ∃(a:Prd),sb a.code=sb i.p.code∧iE a.months=iE i.p.months∧a.tick=i.p.tick∧a.low=i.p.low∧a.high=i.p.high∧a.wide=i.p.wide∧a.rule=i.p.rule∧a.top=i.p.top∧a.least=i.p.least∧a.part=i.p.part∧iE a.settle=iE i.p.settle∧(zS a)∧∀(b:Unit),True→cnd (decide (i.n<0)) (gX i) (cnd (decide (i.n≥(↑a.count:Int))) (gX i) (cnd (decide (i.n<(wN i))) (eG i) (∃(c:Nat),(uN i c)=(wN i)∧(↑c:Int)=0∧∃(d:Nat→Prop),∃(e:Nat→Nat),d c∧∀(f:Nat),d f→cnd (decide ((↑f:Int)<(wN i))) (cnd (decide (i.n<IntKind.i64.wrap (zDi i f))) (∃(g:Unit),(i.p.legs i.n).fst=(↑f:Int)∧(i.p.legs i.n).snd.fst=IntKind.i64.wrap (IntKind.i64.wrap (IntKind.i64.wrap ((↑f:Int)+1)+i.n)-(uN i f))∧(i.p.legs i.n).snd.snd=true∧True) (∃(g:Nat),(uN i g)=IntKind.i64.wrap (zDi i f)∧(↑g:Int)=IntKind.i64.wrap ((↑f:Int)+1)∧zBt d g e f i)) (gX i))))
def cJ (a:rB):Prop:=∃(b:Unit),(a.p.spread a.a a.b).fst=0∧(a.p.spread a.a a.b).snd=false∧True
def z2j (i:rB):Prop:=
 ∃(a:Prd),sb a.code=sb i.p.code∧iE a.months=iE i.p.months∧a.tick=i.p.tick∧a.low=i.p.low∧a.high=i.p.high∧a.wide=i.p.wide∧a.rule=i.p.rule∧a.top=i.p.top∧a.least=i.p.least∧a.part=i.p.part∧iE a.settle=iE i.p.settle∧(zS a)∧∀(b:Unit),True→cnd (a.check !=0) (cJ i) (cnd (decide (i.a<0)) (cJ i) (cnd (decide (i.a≥i.b)) (cJ i) (cnd (decide (i.b≥(↑(iE i.p.months).length:Int))) (cJ i) (∃(c:Nat),(↑(yG i.p.months.length c):Int)=(↑(iE i.p.months).length:Int)∧(↑c:Int)=0∧∃(d:Nat→Prop),∃(e:Nat→Nat),d c∧∀(f:Nat),d f→cnd (decide ((↑f:Int)<i.a)) (∃(g:Nat),(↑(yG i.p.months.length g):Int)=IntKind.i64.wrap ((↑(yG i.p.months.length f):Int)+IntKind.i64.wrap (IntKind.i64.wrap ((↑(iE i.p.months).length:Int)-1)-(↑f:Int)))∧(↑g:Int)=IntKind.i64.wrap ((↑f:Int)+1)∧d g∧e g<e f∧Sx.AObj.cells [V.d (D.v (Value.string (sb i.p.code))),V.own 0,V.d (dI i.p.tick),V.d (dI i.p.low),V.d (dI i.p.high),V.d (dI i.p.wide),V.d (dI i.p.rule),V.d (dI i.p.top),V.d (dI i.p.least),V.d (dI i.p.part),V.own ((0:Nat)+(1:Nat))] 29=Sx.AObj.cells [V.d (D.v (Value.string (sb i.p.code))),V.own 0,V.d (dI i.p.tick),V.d (dI i.p.low),V.d (dI i.p.high),V.d (dI i.p.wide),V.d (dI i.p.rule),V.d (dI i.p.top),V.d (dI i.p.least),V.d (dI i.p.part),V.own ((0:Nat)+(1:Nat))] 29∧AObj.fro 1 (iE i.p.settle)=AObj.fro 1 (iE i.p.settle)∧AObj.fro 1 (iE i.p.months)=AObj.fro 1 (iE i.p.months)) (∃(g:Unit),(i.p.spread i.a i.b).fst=IntKind.i64.wrap (IntKind.i64.wrap (IntKind.i64.wrap ((↑(yG i.p.months.length f):Int)+i.b)-i.a)-1)∧(i.p.spread i.a i.b).snd=true∧True)))))
def z9u (i:rB):Prop:=
 ∃(a:Prd),sb a.code=sb i.p.code∧iE a.months=iE i.p.months∧a.tick=i.p.tick∧a.low=i.p.low∧a.high=i.p.high∧a.wide=i.p.wide∧a.rule=i.p.rule∧a.top=i.p.top∧a.least=i.p.least∧a.part=i.p.part∧iE a.settle=iE i.p.settle∧(zS a)∧∀(b:Unit),True→cnd ((↑a.count:Int)==0) (∃(c:Unit),i.p.price i.a i.b=1∧True) (cnd (decide (i.a<0)) (∃(c:Unit),i.p.price i.a i.b=20∧True) (cnd (decide (i.a≥(↑a.count:Int))) (∃(c:Unit),i.p.price i.a i.b=20∧True) (IntKind.i64=IntKind.i64∧i.p.tick≠0∧cnd (i.b.tmod i.p.tick !=0) (∃(c:Unit),i.p.price i.a i.b=22∧True) (cnd (decide (i.a≥(↑(iE i.p.months).length:Int))) (cnd (decide (i.b<IntKind.i64.wrap (0-i.p.wide))) (∃(c:Unit),i.p.price i.a i.b=23∧True) (cnd (decide (i.b>i.p.wide)) (∃(c:Unit),i.p.price i.a i.b=23∧True) (∃(c:Unit),i.p.price i.a i.b=0∧True))) (cnd (decide (i.b<i.p.low)) (∃(c:Unit),i.p.price i.a i.b=23∧True) (cnd (decide (i.b>i.p.high)) (∃(c:Unit),i.p.price i.a i.b=23∧True) (∃(c:Unit),i.p.price i.a i.b=0∧True)))))))
def zMg (a:I2):Prop:=∃(b:Unit),(vZ a.x a.y).fst=IntKind.i64.wrap (a.x+a.y)∧(vZ a.x a.y).snd=true∧True
def yQg (i:I2):Prop:=
 cnd (decide (i.x<0)==decide (i.y<0)) (cnd (!decide (IntKind.i64.wrap (i.x+i.y)<0)==decide (i.x<0)) (∃(a:Unit),(vZ i.x i.y).fst=0∧(vZ i.x i.y).snd=false∧True) (zMg i)) (zMg i)
def zKo (a:I2):Prop:=∃(b:Unit),(uL a.x a.y).fst=IntKind.i64.wrap (a.x-a.y)∧(uL a.x a.y).snd=true∧True
def yOy (i:I2):Prop:=
 cnd (!decide (i.x<0)==decide (i.y<0)) (cnd (!decide (IntKind.i64.wrap (i.x-i.y)<0)==decide (i.x<0)) (∃(a:Unit),(uL i.x i.y).fst=0∧(uL i.x i.y).snd=false∧True) (zKo i)) (zKo i)
open Go Cv Go.Proofs
theorem yRs (i:zYl) (h:offC.cnd i):yOq i:=by
 have h:1≤i.p.tick:=h
 unfold yOq;exact kp
theorem z8n:offC.ok Tryz.prog 109:=okw mixed gok0 0 (fun _=>[]) (fun _=>[]) [] Tryz.func109 yRs
theorem zEc {α:Type} {f:α→Bool} {l:List α} (h:∀(k:Nat) (x:α),l[k]? =some x→f x=false):l.findIdx? f=none:=by
 rw[yXa]
 intro x hx
 obtain⟨k,hk⟩:=yXe hx
 exact h k x hk
theorem zEw {α:Type} {f:α→Bool} {l:List α} {j:Nat} {x:α} (h1:l[j]? =some x) (h2:f x=true) (h:∀k<j,∀x:α,l[k]? =some x→f x=false):l.findIdx? f=some j:=by
 rw[yVj]
 obtain⟨hj,rfl⟩:=ySg.1 h1
 exact⟨hj,h2,fun k hk=>by rw[h k hk _ (yTs (by omega))];simp⟩
theorem yRu (i:zSi) (h:idxC.cnd i):yOw i:=by
 obtain⟨h1,h2⟩:1≤i.p.tick∧i.l.length≤1099511627776:=h
 unfold yOw dI
 simp only[yW]
 refine⟨0,rfl,fun j=>j≤i.l.length∧∀k<j,∀x,i.l[k]? =some x→qQ i.p.tick x=false,fun j=>i.l.length-j,⟨by omega,fun k hk=>by omega⟩,?_⟩
 rintro j ⟨h3,h4⟩
 refine zK (fun hj=> ?_) (fun hj=> ?_)
 ·obtain⟨n,hn⟩:=z6 (l:=i.l) (i:=j) (by omega)
  refine⟨⟨by omega,by omega⟩,n,elI hn,⟨i.p,n⟩,?_⟩
  (repeat'(first|exact rfl|exact trivial|assumption|apply And.intro|refine fun(_:Unit) (_:True)=>?_|refine Exists.intro () ?_|omega|(dsimp only;omega)))
  refine Cv.cnd.mk (fun e=> ?_) (fun e=> ?_)
  ·rw[zEw hn e h4];exact kp
  ·refine⟨j+1,by rw[w64 (by omega)];rfl,⟨by omega,fun k hk x hx=> ?_⟩,by(first|omega|(dsimp only;omega)),rfl⟩
   rcases yUr k j with hk'|hk'
   ·exact h4 k hk' x hx
   ·obtain rfl:k=j:=by omega
    rw[hn]at hx;cases hx;exact e
 ·rw[zEc fun k x hx=>h4 k (by have:=(ySg.1 hx).1;omega) x hx];exact kp
theorem yJr:idxC.ok Tryz.prog 125:=okw mixed (gokc z8n gok0) 0 (fun _=>[]) (fun i=>yRt i) [] Tryz.func125 yRu
theorem z4s {l:List Int} {f:Int→Bool}:l.any f=decide (zGx (l.findIdx? f)≥0):=by
 cases hf:l.findIdx? f with
 |none=>
  rw[yXa]at hf
  have:l.any f=false:=by rw[yXj];intro x hx;simp[hf x hx]
  rw[this];rfl
 |some k=>
  rw[yVj]at hf
  obtain⟨hk,h1,_⟩:=hf
  have:l.any f=true:=by rw[yYe];exact⟨_,List.getElem_mem hk,h1⟩
  rw[this,zGx,ySw (by omega)]
theorem z5q (i:zSi) (h:containsC.cnd i):zNv i:=by
 unfold zNv
 have h':1≤i.p.tick∧i.l.length≤1099511627776:=h
 refine⟨i,?_⟩
 (repeat'(first|exact rfl|exact trivial|assumption|apply And.intro|refine fun(_:Unit) (_:True)=>?_|refine Exists.intro () ?_|omega|(dsimp only;omega)))
 exact z4s
theorem zTt:containsC.ok Tryz.prog 110:=okw mixed (gokc yJr gok0) 0 (fun _=>[]) (fun _=>[]) [] Tryz.func110 z5q
theorem yJj (p:Prd) (h:ticksC.cnd p):yDm p:=by
 obtain⟨h1,h2,h3⟩:p.small:=h
 unfold yDm
 refine zK (fun c1=>⟨(),by rw[qM,ySp (by omega)];rfl,trivial⟩) (fun c1=>zK (fun c2=>⟨(),by rw[qM,ySp (show ¬p.tick≤1000 by omega)];simp,trivial⟩) (fun c2=>⟨⟨p,p.low⟩,?_⟩))
 have e1:qM p=(!qQ p.tick p.low && !qQ p.tick p.high && !qQ p.tick p.wide && !p.settle.any (qQ p.tick)):=by
  rw[qM,ySw (by omega),ySw (by omega)];rfl
 rw[e1]
 (repeat'(first|exact rfl|exact trivial|assumption|apply And.intro|refine fun(_:Unit) (_:True)=>?_|refine Exists.intro () ?_|omega|(dsimp only;omega)))
 refine Cv.cnd.mk (fun c3=>⟨⟨p,p.high⟩,?_⟩) (fun c3=>⟨(),?_,trivial⟩)
 ·dsimp only at c3
  (repeat'(first|exact rfl|exact trivial|assumption|apply And.intro|refine fun(_:Unit) (_:True)=>?_|refine Exists.intro () ?_|omega|(dsimp only;omega)))
  refine Cv.cnd.mk (fun c4=>⟨⟨p,p.wide⟩,?_⟩) (fun c4=>⟨(),?_,trivial⟩)
  ·dsimp only at c4
   (repeat'(first|exact rfl|exact trivial|assumption|apply And.intro|refine fun(_:Unit) (_:True)=>?_|refine Exists.intro () ?_|omega|(dsimp only;omega)))
   refine Cv.cnd.mk (fun c5=>⟨⟨p,p.settle⟩,?_⟩) (fun c5=>⟨(),?_,trivial⟩)
   ·dsimp only at c5
    (repeat'(first|exact rfl|exact trivial|assumption|apply And.intro|refine fun(_:Unit) (_:True)=>?_|refine Exists.intro () ?_|omega|(dsimp only;omega)))
    rw[c3,c4,c5];simp
   ·dsimp only at c5
    rw[c5];simp
  ·dsimp only at c4
   rw[c4];simp
 ·dsimp only at c3
  rw[c3];simp
theorem yCu:ticksC.ok Tryz.prog 84:=okw mixed (gokc z8n (gokc zTt gok0)) 0 (fun _=>[]) (fun _=>[]) [] Tryz.func84 yJj
theorem yJs (p:Prd) (h:checkC.cnd p):yBd p:=by
 obtain⟨h1,h2,h3⟩:p.small:=h
 unfold yBd xH wE zS
 simp only[yW]
 refine⟨p.code,rfl,h1,fun _ _=>Cv.cnd.mk (fun c1=>⟨(),by rw[Prd.check,ySf c1],trivial⟩) (fun c1=>⟨p.months,rfl,h2,fun _ _=>Cv.cnd.mk (fun c2=>⟨(),by rw[Prd.check,ySe (by simp[c1]),ySf c2],trivial⟩) (fun c2=>⟨p,?_⟩)⟩)⟩
 (repeat'(first|exact rfl|exact trivial|assumption|apply And.intro|refine fun(_:Unit) (_:True)=>?_|refine Exists.intro () ?_|omega|(dsimp only;omega)))
 refine Cv.cnd.mk (fun c3=>⟨(),by rw[Prd.check,ySe (by simp[c1]),ySe (by simp[c2]),ySf c3],trivial⟩) (fun c3=> ?_)
 have e0:p.check=if qN p then 23 else if xM p then 1 else if kF p then 31 else if x3 p then 24 else 0:=by
  rw[Prd.check,ySe (by simp[c1]),ySe (by simp[c2]),ySe (by simp[c3])]
 have b (hb:qN p=true):∃(o:Unit),p.check=23∧True:=⟨(),by rw[e0,ySf hb],trivial⟩
 refine zK (fun d1=>b (by simp[qN,d1])) fun d1=>zK (fun d2=>b (by simp[qN];omega)) fun d2=>zK (fun d3=>b (by simp[qN];omega)) fun d3=>zK (fun d4=>b (by simp[qN];omega)) fun d4=> ?_
 rw[w64 (by omega)]
 refine zK (fun d5=>b (by simp[qN];omega)) fun d5=> ?_
 have e1:p.check=if xM p then 1 else if kF p then 31 else if x3 p then 24 else 0:=by
  rw[e0,ySe (by simp[qN];omega)]
 have s (hb:xM p=true):∃(o:Unit),p.check=1∧True:=⟨(),by rw[e1,ySf hb],trivial⟩
 have hm:2≤p.months.length:=by
  have c2:xJ p.months=true:=by simpa using c2
  simp[xJ]at c2;omega
 refine Cv.cnd.mk (fun d6=>s (by have d6:¬(p.settle.length:Int)=p.months.length:=(by simpa using d6);simp[xM];omega)) fun d6=> ?_
 have d6:p.settle.length=p.months.length:=by
  have:(p.settle.length:Int)=p.months.length:=by simpa using d6
  omega
 refine⟨p.settle,rfl,⟨by omega,by omega⟩,fun _ _=>⟨kp,zK (fun d7=>s (by simp[xM];left;right;omega)) fun d7=>⟨p.settle,rfl,⟨by omega,by omega⟩,fun _ _=>⟨kp,zK (fun d8=>s (by simp[xM];right;omega)) fun d8=> ?_⟩⟩⟩⟩
 have e2:p.check=if kF p then 31 else if x3 p then 24 else 0:=by
  rw[e1,ySe (by simp[xM];omega)]
 have r (hb:kF p=true):∃(o:Unit),p.check=31∧True:=⟨(),by rw[e2,ySf hb],trivial⟩
 refine zK (fun d9=>r (by simp[kF];omega)) fun d9=>zK (fun d10=>r (by simp[kF];omega)) fun d10=> ?_
 have e3:p.check=if x3 p then 24 else 0:=by
  rw[e2,ySe (by simp[kF];omega)]
 have q (hb:x3 p=true):∃(o:Unit),p.check=24∧True:=⟨(),by rw[e3,ySf hb],trivial⟩
 refine zK (fun f1=>q (by simp[x3];omega)) fun f1=>zK (fun f2=>q (by simp[x3];omega)) fun f2=>zK (fun f3=>q (by simp[x3];omega)) fun f3=>zK (fun f4=>q (by simp[x3];omega)) fun f4=>zK (fun f5=>q (by simp[x3];omega)) fun f5=>zK (fun f6=>q (by simp[x3];omega)) fun f6=> ?_
 exact⟨(),by rw[e3,ySe (by simp[x3];omega)],trivial⟩
theorem bQ:checkC.ok Tryz.prog 50:=okw mixed (gokc yKo (gokc z4k (gokc yCu (gokc yNp (gokc yLs gok0))))) 0 (fun _=>[]) (fun _=>[]) [] Tryz.func50 yJs
structure Prd.Ok (p:Prd):Prop where
 sym:j6 p.code=true
 months:xJ p.months=true
 ticks:qM p=true
 m2:2≤p.months.length
 m6:p.months.length≤6
 t1:1≤p.tick
 t2:p.tick≤1000
 b1: -1000000≤p.low
 b2:p.low<p.high
 b3:p.high≤1000000
 b4:0≤p.wide
 b5:p.wide≤p.high-p.low
 s1:p.settle.length=p.months.length
 s2:p.low≤pB p.settle
 s3:rI p.settle≤p.high
 r1:1≤p.rule
 r2:p.rule≤3
 q1:0≤p.top
 q2:p.top≤1000000
 q3:1≤p.least
 q4:p.least≤1000
 q5:0≤p.part
 q6:p.part≤100
theorem qG {p:Prd} (h:p.check=0):p.Ok:=by
 unfold Prd.check at h
 split at h<;>first|(exfalso;revert h;decide)|skip
 rename_i c1
 split at h<;>first|(exfalso;revert h;decide)|skip
 rename_i c2
 split at h<;>first|(exfalso;revert h;decide)|skip
 rename_i c3
 split at h<;>first|(exfalso;revert h;decide)|skip
 rename_i c4
 split at h<;>first|(exfalso;revert h;decide)|skip
 rename_i c5
 split at h<;>first|(exfalso;revert h;decide)|skip
 rename_i c6
 split at h<;>first|(exfalso;revert h;decide)|skip
 rename_i c7
 simp only[yXh,Bool.not_eq_false,Bool.not_eq_true]at c1 c2 c3
 have m:=c2
 have t:=c3
 simp[xJ]at m
 simp[qM]at t
 simp[qN]at c4
 simp[xM]at c5
 simp[kF]at c6
 simp[x3]at c7
 exact⟨c1,c2,c3,by omega,by omega,by omega,by omega,by omega,by omega,by omega,by omega,by omega,by omega,by omega,by omega,by omega,by omega,by omega,by omega,by omega,by omega,by omega,by omega⟩
theorem z8c {n:Nat} (h:n≤6):n+n*(n-1) / 2≤21:=by
 have:∀n≤6,n+n*(n-1) / 2≤21:=by decide
 exact this n h
theorem yGz (p:Prd) (h:pcountC.cnd p):z1c p:=by
 unfold z1c pF xH zS
 obtain⟨h1,h2,h3⟩:p.small:=h
 refine⟨p,?_⟩
 simp only[yW]
 (repeat'(first|exact rfl|exact trivial|assumption|apply And.intro|refine fun(_:Unit) (_:True)=>?_|refine Exists.intro () ?_|omega|(dsimp only;omega)))
 refine Cv.cnd.mk (fun c=>⟨(),by rw[Prd.count,ySe (by simpa using c)];rfl,trivial⟩) (fun c=> ?_)
 have c:p.check=0:=by simpa using c
 have ok:=qG c
 refine⟨kp,by decide,(),?_,trivial⟩
 rw[Prd.count,ySf c]
 obtain⟨n,hn⟩:∃n,p.months.length=n:=⟨_,rfl⟩
 have m2:=ok.m2
 have m6:=ok.m6
 rw[hn]at m2 m6 ⊢
 have:n=2∨n=3∨n=4∨n=5∨n=6:=by omega
 rcases this with rfl|rfl|rfl|rfl|rfl<;>rfl
theorem cU:pcountC.ok Tryz.prog 24:=okw mixed (gokc bQ gok0) 0 (fun _=>[]) (fun _=>[]) [] Tryz.func24 yGz
theorem rQ {p:Prd} (h:p.count≠0):p.check=0:=by
 unfold Prd.count at h
 split at h
 ·assumption
 ·exact absurd rfl h
theorem xV (p:Prd):p.count≤21:=by
 unfold Prd.count
 split
 ·rename_i h;exact z8c (qG h).m6
 ·omega
theorem zIs {n m:Nat} (h:n≤6) (hm:m≤n):yG n m≤21:=by
 have:∀n≤6,∀m≤n,yG n m≤21:=by decide
 exact this n h m hm
theorem yOk (i:f9) (h:legsC.cnd i):yIa i:=by
 unfold yIa zBt pI eG gX zDi wN uN zS dI
 obtain⟨h1,h2,h3⟩:i.p.small:=h
 refine⟨i.p,?_⟩
 simp only[yW]
 (repeat'(first|exact rfl|exact trivial|assumption|apply And.intro|refine fun(_:Unit) (_:True)=>?_|refine Exists.intro () ?_|omega|(dsimp only;omega)))
 refine zK (fun c1=> ?_) (fun c1=>zK (fun c2=> ?_) (fun c2=> ?_))
 ·rw[Prd.legs,ySf (by omega)];exact kp
 ·rw[Prd.legs,ySf (by omega)];exact kp
 have c2:¬i.n≥(i.p.count:Int):=c2
 have hc:=xV i.p
 have ok:=qG (rQ (p:=i.p) (by omega))
 have m6:=ok.m6
 refine zK (fun c3=> ?_) (fun c3=> ?_)
 ·rw[Prd.legs,ySe (by omega),ySf c3];exact kp
 have e0:i.p.legs i.n=kA i.p.months.length i.n.toNat i.p.months.length 0:=by
  rw[Prd.legs,ySe (by omega),ySe c3]
 rw[e0]
 generalize hn:i.p.months.length=n at c3 m6 ⊢
 obtain⟨k,hk⟩:∃k:Nat,i.n=k:=⟨i.n.toNat,by omega⟩
 rw[hk]at c2 c3 ⊢
 refine⟨0,rfl,rfl,fun m=>m≤n∧yG n m≤k∧kA n k n 0=kA n k (n-m) m,fun m=>n-m,⟨by omega,by show n≤k;omega,rfl⟩,?_⟩
 rintro m ⟨g1,g2,g3⟩
 have hf:=zIs m6 g1
 refine zK (fun c4=> ?_) (fun c4=> ?_)
 ·obtain⟨r,hr⟩:∃r,n-m=r+1:=⟨n-m-1,by omega⟩
  have e1:(k:Int).toNat=k:=by omega
  rw[e1,g3,hr,w64 (x:=(n:Int)-1) (by omega),w64 (x:=(n:Int)-1-m) (by omega),w64 (x:=(yG n m:Int)+((n:Int)-1-m)) (by omega),w64 (x:=(m:Int)+1) (by omega)]
  rw[hr]at g3
  refine zK (fun c5=> ?_) (fun c5=> ?_)
  ·rw[w64 (x:=(m:Int)+1+k) (by omega),w64 (x:=(m:Int)+1+k-(yG n m:Int)) (by omega),kA,ySf (by omega)]
   refine⟨(),rfl,?_,rfl,trivial⟩
   dsimp only;omega
  ·refine⟨m+1,?_,rfl,⟨by omega,?_,?_⟩,by(first|omega|(dsimp only;omega)),kp⟩
   ·rw[yG];omega
   ·rw[yG];omega
   ·rw[kA,ySe (by omega),show n-(m+1)=r by omega]
 ·have e1:(k:Int).toNat=k:=by omega
  rw[e1,g3,show n-m=0 by omega]
  exact⟨(),rfl,rfl,rfl,trivial⟩
theorem pW:legsC.ok Tryz.prog 51:=okw mixed (gokc cU gok0) 0 (fun _=>[]) (fun i=>yPh i) [] Tryz.func51 yOk
theorem yHm (i:rB) (h:spreadC.cnd i):z2j i:=by
 unfold z2j cJ zS dI
 obtain⟨h1,h2,h3⟩:i.p.small:=h
 refine⟨i.p,?_⟩
 simp only[yW]
 (repeat'(first|exact rfl|exact trivial|assumption|apply And.intro|refine fun(_:Unit) (_:True)=>?_|refine Exists.intro () ?_|omega|(dsimp only;omega)))
 have bad (hb:i.p.check≠0∨i.a<0∨i.b≤i.a∨(i.p.months.length:Int)≤i.b):∃(o:Unit),(i.p.spread i.a i.b).fst=0∧(i.p.spread i.a i.b).snd=false∧True:=⟨(),by rw[Prd.spread,ySf hb],by rw[Prd.spread,ySf hb],trivial⟩
 refine Cv.cnd.mk (fun c1=>bad (.inl (by simpa using c1))) fun c1=>zK (fun c2=>bad (by omega)) fun c2=>zK (fun c3=>bad (by omega)) fun c3=>zK (fun c4=>bad (by omega)) fun c4=> ?_
 have c1:i.p.check=0:=by simpa using c1
 have m6:=(qG c1).m6
 rw[Prd.spread,ySe (by omega)]
 generalize hn:i.p.months.length=n at c4 m6 ⊢
 obtain⟨a,ha⟩:∃k:Nat,i.a=k:=⟨i.a.toNat,by omega⟩
 rw[ha]at c3 ⊢
 refine⟨0,rfl,rfl,fun m=>m≤a,fun m=>a-m,by omega,?_⟩
 intro m hm
 have hm:m≤a:=hm
 have hf:=zIs (m:=m) m6 (by omega)
 refine zK (fun c5=> ?_) (fun c5=> ?_)
 ·rw[w64 (x:=(n:Int)-1) (by omega),w64 (x:=(n:Int)-1-m) (by omega),w64 (x:=(yG n m:Int)+((n:Int)-1-m)) (by omega),w64 (x:=(m:Int)+1) (by omega)]
  refine⟨m+1,?_,rfl,by omega,by(first|omega|(dsimp only;omega)),kp⟩
  rw[yG];omega
 ·obtain rfl:m=a:=by omega
  rw[w64 (x:=(yG n m:Int)+i.b) (by omega),w64 (x:=(yG n m:Int)+i.b-m) (by omega),w64 (x:=(yG n m:Int)+i.b-m-1) (by omega)]
  exact⟨(),rfl,rfl,trivial⟩
theorem zPj:spreadC.ok Tryz.prog 54:=okw mixed (gokc bQ gok0) 0 (fun _=>[]) (fun i=>yEr i) [] Tryz.func54 yHm
theorem yLg (i:rB) (h:priceC.cnd i):z9u i:=by
 unfold z9u zS
 obtain⟨h1,h2,h3⟩:i.p.small:=h
 refine⟨i.p,?_⟩
 simp only[yW]
 (repeat'(first|exact rfl|exact trivial|assumption|apply And.intro|refine fun(_:Unit) (_:True)=>?_|refine Exists.intro () ?_|omega|(dsimp only;omega)))
 refine Cv.cnd.mk (fun c1=>⟨(),by rw[Prd.price,ySf (by have:(i.p.count:Int)=0:=(by simpa using c1);omega)],trivial⟩) fun c1=> ?_
 have c1:i.p.count≠0:=by
  have:¬(i.p.count:Int)=0:=by simpa using c1
  omega
 have e0:i.p.price i.a i.b=if i.a<0∨(i.p.count:Int)≤i.a then 20 else if qQ i.p.tick i.b then 22 else
  if i.b<(if(i.p.months.length:Int)≤i.a then-i.p.wide else i.p.low)∨(if(i.p.months.length:Int)≤i.a then i.p.wide else i.p.high)<i.b then 23 else 0:=by rw[Prd.price,ySe c1]
 rw[e0]
 have ok:=qG (rQ c1)
 obtain⟨t1,b3,b1,b2,b4,b5⟩:=(⟨ok.t1,ok.b3,ok.b1,ok.b2,ok.b4,ok.b5⟩:_∧_∧_∧_∧_∧_)
 refine zK (fun c2=>⟨(),by rw[ySf (.inl c2)],trivial⟩) fun c2=>zK (fun c3=>⟨(),by rw[ySf (.inr c3)],trivial⟩) fun c3=>⟨kp,by omega,?_⟩
 have c3:¬i.a≥(i.p.count:Int):=c3
 rw[ySe (by omega)]
 refine Cv.cnd.mk (fun c4=>⟨(),ySf c4,trivial⟩) fun c4=> ?_
 rw[ySe (by rw[qQ,c4];simp),w64 (x:=0-i.p.wide) (by omega)]
 refine zK (fun c5=> ?_) (fun c5=> ?_)
 ·have c5:(i.p.months.length:Int)≤i.a:=c5
  simp only[ySf c5]
  refine zK (fun c6=>⟨(),ySf (.inl (by omega)),trivial⟩) fun c6=>zK (fun c7=>⟨(),ySf (.inr (by omega)),trivial⟩) fun c7=>⟨(),ySe (by omega),trivial⟩
 ·have c5:¬(i.p.months.length:Int)≤i.a:=c5
  simp only[ySe c5]
  refine zK (fun c6=>⟨(),ySf (.inl (by omega)),trivial⟩) fun c6=>zK (fun c7=>⟨(),ySf (.inr (by omega)),trivial⟩) fun c7=>⟨(),ySe (by omega),trivial⟩
theorem rY:priceC.ok Tryz.prog 72:=okw mixed (gokc cU gok0) 0 (fun _=>[]) (fun _=>[]) [] Tryz.func72 yLg
theorem yIh (x:Int) (h: -18446744073709551616≤x∧x<18446744073709551616):(yY x∧IntKind.i64.wrap x=x)∨(9223372036854775807<x∧IntKind.i64.wrap x=x-18446744073709551616)∨(x< -9223372036854775808∧IntKind.i64.wrap x=x+18446744073709551616):=by
 have e:IntKind.i64.wrap x=if(decide (x % 18446744073709551616≥9223372036854775808))=true then x % 18446744073709551616-18446744073709551616 else x % 18446744073709551616:=by
  have:IntKind.i64.wrap x=if(true && decide (x % 18446744073709551616≥9223372036854775808))=true then x % 18446744073709551616-18446744073709551616 else x % 18446744073709551616:=rfl
  rw[this,yTm]
 have e:IntKind.i64.wrap x=(x+9223372036854775808) % 18446744073709551616-9223372036854775808:=by
  rw[e]
  by_cases h2:x % 18446744073709551616≥9223372036854775808
  ·rw[ySf (ySw h2)];omega
  ·rw[ySe (by simpa using h2)];omega
 rw[e]
 by_cases h1:yY x
 ·exact .inl ⟨h1,by unfold yY at h1;omega⟩
 ·unfold yY at h1
  omega
theorem yRa (i:I2) (h:addC.cnd i):yQg i:=by
 obtain⟨⟨x1,x2⟩,y1,y2⟩:yY i.x∧yY i.y:=h
 have hw:=yIh (i.x+i.y) (by omega)
 unfold yQg zMg vZ
 generalize IntKind.i64.wrap (i.x+i.y)=w at hw ⊢
 unfold yY at hw ⊢
 refine Cv.cnd.mk (fun c1=>Cv.cnd.mk (fun c2=> ?_) (fun c2=> ?_)) (fun c1=> ?_)
 all_goals(simp at*)
 ·rw[ySe (by omega)];exact kp
 ·rw[ySf (by omega)];refine⟨?_,rfl⟩;dsimp only;omega
 ·rw[ySf (by omega)];refine⟨?_,rfl⟩;dsimp only;omega
theorem zSd:addC.ok Tryz.prog 87:=okw mixed gok0 0 (fun _=>[]) (fun _=>[]) [] Tryz.func87 yRa
theorem yRw (i:I2) (h:subC.cnd i):yOy i:=by
 obtain⟨⟨x1,x2⟩,y1,y2⟩:yY i.x∧yY i.y:=h
 have hw:=yIh (i.x-i.y) (by omega)
 unfold yOy zKo uL
 generalize IntKind.i64.wrap (i.x-i.y)=w at hw ⊢
 unfold yY at hw ⊢
 refine Cv.cnd.mk (fun c1=>Cv.cnd.mk (fun c2=> ?_) (fun c2=> ?_)) (fun c1=> ?_)
 all_goals(simp at*)
 ·rw[ySe (by omega)];exact kp
 ·rw[ySf (by omega)];refine⟨?_,rfl⟩;dsimp only;omega
 ·rw[ySf (by omega)];refine⟨?_,rfl⟩;dsimp only;omega
theorem zRw:subC.ok Tryz.prog 88:=okw mixed gok0 0 (fun _=>[]) (fun _=>[]) [] Tryz.func88 yRw
open Go Cv Go.Proofs
structure Slot where
 used:Bool
 n:Int
 id:Int
 qty:Int
 top:Bool
 queue:Int
 ahead:Int
 back:Int
 deriving DecidableEq
structure fB where
 first:Int
 last:Int
 total:Int
 count:Int
 deriving DecidableEq
structure Arena where
 slots:List Slot
 queues:List fB
 free:Int
 deriving DecidableEq
def zQ (s:Slot):List D:=[.v (.bool s.used),.v (.int .i64 s.n),.v (.int .i64 s.id),.v (.int .i64 s.qty),.v (.bool s.top),.v (.int .i64 s.queue),.v (.int .i64 s.ahead),.v (.int .i64 s.back)]
def zN (q:fB):List D:=[.v (.int .i64 q.first),.v (.int .i64 q.last),.v (.int .i64 q.total),.v (.int .i64 q.count)]
def slot0:Slot:=⟨false,0,0,0,false,0,0,0⟩
def zG (a:Arena):Nat→AObj
 |0=> .cells [.own 1,.own 2,zA a.free] 185
 |1=> .own 193 8 (a.slots.map zQ)
 |2=> .own 199 4 (a.queues.map zN)
 |_=> .gone
def jO (a:Arena):AObj:= .adt Arena 3 zG a
structure xN where
 price:Int
 queue:Int
 deriving DecidableEq
structure Place where
 side:Int
 price:Int
 slot:Int
 deriving DecidableEq
structure Book where
 a:Arena
 buys:List xN
 sells:List xN
 at_:List (Int×Place)
 top1:Int
 top2:Int
 spare:List Int
 has1:Bool
 has2:Bool
 deriving DecidableEq
def zC (r:xN):List D:=[.v (.int .i64 r.price),.v (.int .i64 r.queue)]
def z0j (p:Place):List D:=[.v (.int .i64 p.side),.v (.int .i64 p.price),.v (.int .i64 p.slot)]
def atE (l:List (Int×Place)):List (Value×List D):=l.map fun x=>(.int .i64 x.1,z0j x.2)
def zR (b:Book):Nat→AObj
 |0=> .cells [.nm 1 0,.own 2,.own 3,.mp 4,zA b.top1,zA b.top2,.own 5,yR b.has1,yR b.has2] 144
 |1=>jO b.a
 |2=> .own 147 2 (b.buys.map zC)
 |3=> .own 147 2 (b.sells.map zC)
 |4=> .map (atE b.at_)
 |5=> .own 3 1 (iE b.spare)
 |_=> .gone
def yC (b:Book):AObj:= .adt Book 6 zR b
structure MSt where
 p:Prd
 books:List Book
 wh:List (Int×Int)
def zY (l:List (Int×Int)):List (Value×List D):=l.map fun x=>(.int .i64 x.1,[.v (.int .i64 x.2)])
def xS (s:MSt):Nat→AObj
 |0=> .cells [sV s.p.code,.own 3,zA s.p.tick,zA s.p.low,zA s.p.high,zA s.p.wide,zA s.p.rule,zA s.p.top,zA s.p.least,zA s.p.part,.own 4,.own 1,.mp 2] 101
 |1=> .objs 102 Book 6 zR s.books none
 |2=> .map (zY s.wh)
 |3=> .fro 1 (iE s.p.months)
 |4=> .fro 1 (iE s.p.settle)
 |_=> .gone
def zE (s:MSt):AObj:= .adt MSt 5 xS s
def zKk (n:Nat):Arena:=⟨List.replicate n slot0,[],n⟩
def book0:Book:=⟨zKk 250,[],[],[],0,0,[],false,false⟩
def newAC:Con:=con1 Nat (fun n=>[zA n]) (fun _=>[]) (fun n=>1≤n∧n≤4096) (fun _=> .tup [.nm 0 0,zA 0]) (fun n=>[jO (zKk n)])
def newBC:Con:=con1 Unit (fun _=>[]) (fun _=>[]) (fun _=>True) (fun _=> .nm 0 0) (fun _=>[yC book0])
def h8 (p:Prd):MSt:=⟨p,List.replicate p.count book0,[]⟩
def newSC:Con where
 ι:=Prd
 pat:=fun p=>[prdV p]
 pre:=fun _=>[]
 cnd:=fun p=>p.small
 alts:=fun p=>[{o:=Unit,res:=fun _=> .tup [.nm 0 0,zA 0],post:=fun _=>[zE (h8 p)],rel:=fun _=>p.check=0},{o:=Unit,res:=fun _=> .tup [.d (.v (.pointer none)),zA p.check],post:=fun _=>[],rel:=fun _=>p.check≠0}]
def yOc (p:Prd):List SAnn:=[{ι:=Nat,slots:=fun j=>[(5,.nm 0 0),(27,zA j)],rows:=fun j=>(List.range 5).map (xS ⟨p,List.replicate j book0,[]⟩)}]
def clSlotC:Con:=con1 (List Slot) (fun _=>[.own 0]) (fun l=>[.own 193 8 (l.map zQ)]) (fun l=>l.length≤1000000) (fun _=> .own 1) (fun l=>[.own 193 8 (l.map zQ),.own 193 8 (l.map zQ)])
def clQueueC:Con:=con1 (List fB) (fun _=>[.own 0]) (fun l=>[.own 199 4 (l.map zN)]) (fun l=>l.length≤1000000) (fun _=> .own 1) (fun l=>[.own 199 4 (l.map zN),.own 199 4 (l.map zN)])
def clRungC:Con:=con1 (List xN) (fun _=>[.own 0]) (fun l=>[.own 147 2 (l.map zC)]) (fun l=>l.length≤1000000) (fun _=> .own 1) (fun l=>[.own 147 2 (l.map zC),.own 147 2 (l.map zC)])
def clIntC:Con:=con1 (List Int) (fun _=>[.own 0]) (fun l=>[.own 3 1 (iE l)]) (fun l=>l.length≤1000000) (fun _=> .own 1) (fun l=>[.own 3 1 (iE l),.own 3 1 (iE l)])
def yAq (f:Nat):Con:=con1 (List (Value×List D)) (fun _=>[.mp 0]) (fun es=>[.map es]) (fun _=>True) (fun _=> .mp 1) (fun es=>[.map es,.map es])
def clAtC:Con:=yAq 0
def clWhC:Con:=yAq 1
@[reducible] def Arena.small (a:Arena):Prop:=a.slots.length≤1000000∧a.queues.length≤1000000
@[reducible] def Book.small (b:Book):Prop:=b.a.small∧b.buys.length≤1000000∧b.sells.length≤1000000∧b.spare.length≤1000000
@[reducible] def MSt.small (s:MSt):Prop:=s.books.length≤1000000∧∀b∈s.books,b.small
def copyAC:Con:=con1 Arena (fun _=>[.nm 0 0]) (fun a=>[jO a]) Arena.small (fun _=> .nm 1 0) (fun a=>[jO a,jO a])
def copyBC:Con:=con1 Book (fun _=>[.nm 0 0]) (fun b=>[yC b]) Book.small (fun _=> .nm 1 0) (fun b=>[yC b,yC b])
def yMn:List SAnn:=[{ι:=Unit,slots:=fun _=>[],rows:=fun _=>[],un:=3}]
def copySC:Con:=con1 MSt (fun _=>[.nm 0 0]) (fun s=>[zE s]) MSt.small (fun _=> .nm 1 0) (fun s=>[zE s,zE s])
open Go Cv Go.Proofs
def yIf (n:Nat):Prop:=
 cnd (decide ((↑n:Int)<1)) (∃(a:Unit),False) (cnd (decide ((↑n:Int)>4096)) (∃(a:Unit),False) ((0≤(↑n:Int)∧(↑n:Int)≤(↑n:Int)∧(↑n:Int)≤9223372036854775807∧(↑(64:Nat):Int)*(↑n:Int)≤2 ^ (48:Nat))∧∃(a:Unit),(0:Int)=(0:Int)∧(↑n:Int)=(↑n:Int)∧List.map zQ (List.replicate n slot0)=List.replicate (↑n:Int).toNat [D.v (.bool false),dI 0,dI 0,dI 0,D.v (.bool false),dI 0,dI 0,dI 0]∧([]:List (List D))=[]∧True))
def yPk (u:Unit):Prop:=
 ∃(i:Nat),(↑i:Int)=250∧(1≤i∧i≤4096)∧∀(o:Unit),True→∃(o:Unit),(0:Int)=(0:Int)∧(0:Int)=(0:Int)∧false=false∧false=false∧AObj.adt Arena 3 zG (zKk 250)=AObj.adt Arena 3 zG (zKk i)∧([]:List (List D))=[]∧([]:List (List D))=[]∧atE []=[]∧iE []=[]∧True
def cY (a:Prd):Prop:=AObj.fro 1 (iE a.settle)=AObj.fro 1 (iE a.settle)∧AObj.fro 1 (iE a.months)=AObj.fro 1 (iE a.months)
def uG (a:Prd):=(D.v (Value.string (sb a.code)))
def zIj (a:Prd) (b:Nat) (c:Unit):Prop:=(∃(d:Unit),(0:Int)=(0:Int)∧sb a.code=sb a.code∧a.tick=a.tick∧a.low=a.low∧a.high=a.high∧a.wide=a.wide∧a.rule=a.rule∧a.top=a.top∧a.least=a.least∧a.part=a.part∧AObj.objs 102 Book 6 zR (List.replicate a.count book0) none=AObj.objs 102 Book 6 zR (List.replicate b book0) none∧zY []=zY []∧AObj.fro 1 (iE a.months)=AObj.fro 1 (iE a.months)∧AObj.fro 1 (iE a.settle)=AObj.fro 1 (iE a.settle)∧a.check=0)∨∃(c:Unit),False
def zQv (a:Prd):Prop:=True∧True∧(0+(iE a.months).length)*(8:Nat)≤(70368744177664:Nat)∧True∧(0+(iE a.settle).length)*(8:Nat)≤(70368744177664:Nat)∧∃(b:Prd),sb b.code=sb a.code∧iE b.months=[]++iE a.months∧b.tick=a.tick∧b.low=a.low∧b.high=a.high∧b.wide=a.wide∧b.rule=a.rule∧b.top=a.top∧b.least=a.least∧b.part=a.part∧iE b.settle=[]++iE a.settle∧(zS b)∧∀(c:Unit),True→∃(d:Nat),(↑d:Int)=0∧sb a.code=sb a.code∧a.tick=a.tick∧a.low=a.low∧a.high=a.high∧a.wide=a.wide∧a.rule=a.rule∧a.top=a.top∧a.least=a.least∧a.part=a.part∧List.replicate d book0=[]∧(none:Option Nat)=none∧zY []=[]∧AObj.fro 1 (iE a.months)=AObj.fro 1 ([]++iE a.months)∧AObj.fro 1 (iE a.settle)=AObj.fro 1 ([]++iE a.settle)∧∃(e:Nat→Prop),∃(f:Nat→Nat),e d∧∀(g:Nat),e g→cnd (decide ((↑g:Int)<(↑b.count:Int))) (∃(h:Unit),True∧∀(j:Unit),True→True∧True∧∃(k:List Book),AObj.objs 102 Book 6 zR (List.replicate g book0) none=AObj.objs 102 Book 6 zR k none∧(k.length+1)*(8:Nat)≤(70368744177664:Nat)∧∃(l:Nat),(↑l:Int)=IntKind.i64.wrap ((↑g:Int)+1)∧sb a.code=sb a.code∧a.tick=a.tick∧a.low=a.low∧a.high=a.high∧a.wide=a.wide∧a.rule=a.rule∧a.top=a.top∧a.least=a.least∧a.part=a.part∧AObj.objs 102 Book 6 zR (List.replicate l book0) none=AObj.objs 102 Book 6 zR (k++[book0]) none∧zY []=zY []∧AObj.fro 1 (iE a.months)=AObj.fro 1 (iE a.months)∧AObj.fro 1 (iE a.settle)=AObj.fro 1 (iE a.settle)∧e l∧f l<f g∧AObj.fro 1 ([]++iE a.settle)=AObj.fro 1 ([]++iE a.settle)∧AObj.fro 1 ([]++iE a.months)=AObj.fro 1 ([]++iE a.months)∧Sx.AObj.cells [V.d (uG a),V.own ((0:Nat)+(1:Nat)+(1:Nat)+(1:Nat)+((0:Nat)-(0:Nat))+(1:Nat)+(1:Nat)),V.d (dI a.tick),V.d (dI a.low),V.d (dI a.high),V.d (dI a.wide),V.d (dI a.rule),V.d (dI a.top),V.d (dI a.least),V.d (dI a.part),V.own ((0:Nat)+(1:Nat)+(1:Nat)+(1:Nat)+((0:Nat)-(0:Nat))+(1:Nat)+(1:Nat)+1)] 29=Sx.AObj.cells [V.d (uG a),V.own ((0:Nat)+(1:Nat)+(1:Nat)+(1:Nat)+((0:Nat)-(0:Nat))+(1:Nat)+(1:Nat)),V.d (dI a.tick),V.d (dI a.low),V.d (dI a.high),V.d (dI a.wide),V.d (dI a.rule),V.d (dI a.top),V.d (dI a.least),V.d (dI a.part),V.own ((0:Nat)+(1:Nat)+(1:Nat)+(1:Nat)+((0:Nat)-(0:Nat))+(1:Nat)+(1:Nat)+1)] 29∧cY a) (zIj a g c)
def c8 (a:Unit) (b:Prd) (c:Prd):Prop:=(∃(d:Unit),False)∨∃(a:Unit),True∧b.check=c.check∧(b.check=0→False)
def yHy (p:Prd):Prop:=
 ∃(a:Prd),sb a.code=sb p.code∧iE a.months=iE p.months∧a.tick=p.tick∧a.low=p.low∧a.high=p.high∧a.wide=p.wide∧a.rule=p.rule∧a.top=p.top∧a.least=p.least∧a.part=p.part∧iE a.settle=iE p.settle∧(zS a)∧∀(b:Unit),True→cnd (a.check !=0) (c8 b p a) ((True∧True∧((0+(iE p.months).length)*(8:Nat)≤(70368744177664:Nat)∧True∧True∧(0+(iE p.settle).length)*(8:Nat)≤(70368744177664:Nat)∧∃(c:Prd),sb c.code=sb p.code∧iE c.months=[]++iE p.months∧c.tick=p.tick∧c.low=p.low∧c.high=p.high∧c.wide=p.wide∧c.rule=p.rule∧c.top=p.top∧c.least=p.least∧c.part=p.part∧iE c.settle=[]++iE p.settle∧(zS c)∧∀(d:Unit),True→∃(e:Nat),(↑e:Int)=0∧sb p.code=sb p.code∧p.tick=p.tick∧p.low=p.low∧p.high=p.high∧p.wide=p.wide∧p.rule=p.rule∧p.top=p.top∧p.least=p.least∧p.part=p.part∧List.replicate e book0=[]∧(none:Option Nat)=none∧zY []=[]∧AObj.fro 1 (iE p.months)=AObj.fro 1 ([]++iE p.months)∧AObj.fro 1 (iE p.settle)=AObj.fro 1 ([]++iE p.settle)∧∃(f:Nat→Prop),∃(g:Nat→Nat),f e∧∀(h:Nat),f h→cnd (decide ((↑h:Int)<(↑c.count:Int))) (∃(j:Unit),True∧∀(k:Unit),True→True∧True∧∃(l:List Book),AObj.objs 102 Book 6 zR (List.replicate h book0) none=AObj.objs 102 Book 6 zR l none∧(l.length+1)*(8:Nat)≤(70368744177664:Nat)∧∃(m:Nat),(↑m:Int)=IntKind.i64.wrap ((↑h:Int)+1)∧sb p.code=sb p.code∧p.tick=p.tick∧p.low=p.low∧p.high=p.high∧p.wide=p.wide∧p.rule=p.rule∧p.top=p.top∧p.least=p.least∧p.part=p.part∧AObj.objs 102 Book 6 zR (List.replicate m book0) none=AObj.objs 102 Book 6 zR (l++[book0]) none∧zY []=zY []∧AObj.fro 1 (iE p.months)=AObj.fro 1 (iE p.months)∧AObj.fro 1 (iE p.settle)=AObj.fro 1 (iE p.settle)∧f m∧g m<g h∧AObj.fro 1 ([]++iE p.settle)=AObj.fro 1 ([]++iE p.settle)∧AObj.fro 1 ([]++iE p.months)=AObj.fro 1 ([]++iE p.months)∧Sx.AObj.cells [V.d (uG p),V.own ((0:Nat)+(1:Nat)+(1:Nat)+(1:Nat)+((0:Nat)-(0:Nat))+1),V.d (dI p.tick),V.d (dI p.low),V.d (dI p.high),V.d (dI p.wide),V.d (dI p.rule),V.d (dI p.top),V.d (dI p.least),V.d (dI p.part),V.own ((0:Nat)+(1:Nat)+(1:Nat)+(1:Nat)+((0:Nat)-(0:Nat))+(1:Nat)+(1:Nat)+1)] 29=Sx.AObj.cells [V.d (uG p),V.own ((0:Nat)+(1:Nat)+(1:Nat)+(1:Nat)+((0:Nat)-(0:Nat))+1),V.d (dI p.tick),V.d (dI p.low),V.d (dI p.high),V.d (dI p.wide),V.d (dI p.rule),V.d (dI p.top),V.d (dI p.least),V.d (dI p.part),V.own ((0:Nat)+(1:Nat)+(1:Nat)+(1:Nat)+((0:Nat)-(0:Nat))+(1:Nat)+(1:Nat)+1)] 29∧cY p) (zIj p h d))∧zQv p)∧True∧True∧zQv p)
def yDz (l:List Slot):Prop:=
 ∀(b:Bool),(b=true→List.map zQ l=[])→cnd b (∃(o:Unit),List.map zQ l=List.map zQ l∧List.map zQ l=[]∧True) ((0+(List.map zQ l).length)*(64:Nat)≤(70368744177664:Nat)∧∃(o:Unit),List.map zQ l=List.map zQ l∧List.map zQ l=[]++List.map zQ l∧True)
def yAf (l:List fB):Prop:=
 ∀(b:Bool),(b=true→List.map zN l=[])→cnd b (∃(o:Unit),List.map zN l=List.map zN l∧List.map zN l=[]∧True) ((0+(List.map zN l).length)*(32:Nat)≤(70368744177664:Nat)∧∃(o:Unit),List.map zN l=List.map zN l∧List.map zN l=[]++List.map zN l∧True)
def yFq (l:List xN):Prop:=
 ∀(b:Bool),(b=true→List.map zC l=[])→cnd b (∃(o:Unit),List.map zC l=List.map zC l∧List.map zC l=[]∧True) ((0+(List.map zC l).length)*(16:Nat)≤(70368744177664:Nat)∧∃(o:Unit),List.map zC l=List.map zC l∧List.map zC l=[]++List.map zC l∧True)
def yNr (l:List Int):Prop:=
 ∀(b:Bool),(b=true→iE l=[])→cnd b (∃(o:Unit),iE l=iE l∧iE l=[]∧True) ((0+(iE l).length)*(8:Nat)≤(70368744177664:Nat)∧∃(o:Unit),iE l=iE l∧iE l=[]++iE l∧True)
def yBc (es:List (Value×List D)):Prop:=
 ∃(a:List (Value×List D)),a=es∧True∧∀(b:Unit),True→∃(c:Unit),es=a∧es=a∧True
theorem yLk (es:List (Value×List D)):yBc es=walk Tryz.prog ([(102,cQ 142)]) 0 ([]) ([]) [] Tryz.f104 (Tryz.f104.body.getD .skip) (clAtC.pat es) (clAtC.pre es) (clAtC.alts es):=by kernel_rfl
theorem yNw (hG:GOk Tryz.prog ([(102,cQ 142)])) (h:∀(es:List (Value×List D)),clAtC.cnd es→yBc es):clAtC.ok Tryz.prog 104:=lY mixed ([(102,cQ 142)]) hG 0 (fun(es:List (Value×List D))=>[]) (fun(es:List (Value×List D))=>[]) [] Tryz.func104 (by kernel_rfl) (by kernel_rfl) (by kernel_rfl) (fun _=>by kernel_rfl) (fun(es:List (Value×List D)) hc=>Eq.mp (yLk es) (h es hc))
def z7b (es:List (Value×List D)):Prop:=
 ∃(a:List (Value×List D)),a=es∧True∧∀(b:Unit),True→∃(c:Unit),es=a∧es=a∧True
theorem yLi (es:List (Value×List D)):z7b es=walk Tryz.prog ([(102,cQ 99)]) 0 ([]) ([]) [] Tryz.f78 (Tryz.f78.body.getD .skip) (clWhC.pat es) (clWhC.pre es) (clWhC.alts es):=by kernel_rfl
theorem yNt (hG:GOk Tryz.prog ([(102,cQ 99)])) (h:∀(es:List (Value×List D)),clWhC.cnd es→z7b es):clWhC.ok Tryz.prog 78:=lY mixed ([(102,cQ 99)]) hG 0 (fun(es:List (Value×List D))=>[]) (fun(es:List (Value×List D))=>[]) [] Tryz.func78 (by kernel_rfl) (by kernel_rfl) (by kernel_rfl) (fun _=>by kernel_rfl) (fun(es:List (Value×List D)) hc=>Eq.mp (yLi es) (h es hc))
def yNm (a:Arena):Prop:=
 ∃(i:List Slot),List.map zQ i=List.map zQ a.slots∧i.length≤1000000∧∀(o:Unit),True→a.free=a.free∧True∧∃(i_1:List fB),List.map zN i_1=List.map zN a.queues∧i_1.length≤1000000∧∀(o:Unit),True→a.free=a.free∧∃(o:Unit),a.free=a.free∧List.map zQ a.slots=List.map zQ i∧List.map zN a.queues=List.map zN i_1∧a.free=a.free∧List.map zQ a.slots=List.map zQ i∧List.map zN a.queues=List.map zN i_1∧True
def yMm (b:Book):Prop:=
 ∃(i:Arena),AObj.adt Arena 3 zG i=AObj.adt Arena 3 zG b.a∧(i.slots.length≤1000000∧i.queues.length≤1000000)∧∀(o:Unit),True→True∧True∧∃(i_1:List (Value×List D)),i_1=atE b.at_∧True∧∀(o:Unit),True→True∧∃(i_2:List Int),iE i_2=iE b.spare∧i_2.length≤1000000∧∀(o:Unit),True→∃(i_3:List xN),List.map zC i_3=List.map zC b.buys∧i_3.length≤1000000∧∀(o:Unit),True→∃(i_4:List xN),List.map zC i_4=List.map zC b.sells∧i_4.length≤1000000∧∀(o:Unit),True→∃(o:Unit),b.top1=b.top1∧b.top2=b.top2∧b.has1=b.has1∧b.has2=b.has2∧AObj.adt Arena 3 zG b.a=AObj.adt Arena 3 zG i∧List.map zC b.buys=List.map zC i_3∧List.map zC b.sells=List.map zC i_4∧atE b.at_=i_1∧iE b.spare=iE i_2∧b.top1=b.top1∧b.top2=b.top2∧b.has1=b.has1∧b.has2=b.has2∧AObj.adt Arena 3 zG b.a=AObj.adt Arena 3 zG i∧List.map zC b.buys=List.map zC i_3∧List.map zC b.sells=List.map zC i_4∧atE b.at_=i_1∧iE b.spare=iE i_2∧True
open Go Cv Go.Proofs
theorem yQb (n:Nat) (h:newAC.cnd n):yIf n:=by
 obtain⟨h1,h2⟩:1≤n∧n≤4096:=h
 unfold yIf dI
 refine zK (fun c=>by omega) fun c=>zK (fun c=>by omega) fun c=> ?_
 refine⟨⟨by omega,by omega,by omega,?_⟩,?_⟩
 ·have:(2:Int) ^ (48:Nat)=281474976710656:=by decide
  rw[this];omega
 ·refine⟨(),rfl,rfl,?_,rfl,trivial⟩
  rw[yXw];rfl
theorem yHa:newAC.ok Tryz.prog 95:=okw mixed gok0 0 (fun _=>[]) (fun _=>[]) [] Tryz.func95 yQb
theorem yEv:newBC.ok Tryz.prog 68:=okw (V:=yPk) mixed (gokc yHa gok0) 0 (fun _=>[]) (fun _=>[]) [] Tryz.func68 fun(u:Unit) _=>by
 refine⟨250,rfl,⟨by omega,by omega⟩,?_⟩;exact kp
theorem yQp (p:Prd) (h:newSC.cnd p):yHy p:=by
 unfold yHy zQv zIj uG c8 cY zS dI
 have hs:p.small:=h
 obtain⟨h1,h2,h3⟩:p.small:=h
 refine⟨p,?_⟩
 simp only[yW]
 (repeat'(first|exact rfl|exact trivial|assumption|apply And.intro|refine fun(_:Unit) (_:True)=>?_|refine Exists.intro () ?_|omega|(dsimp only;omega)))
 refine Cv.cnd.mk (fun c=> .inr ⟨(),trivial,kp,by simpa using c⟩) fun c=> ?_
 have c:p.check=0:=by simpa using c
 have hc:=xV p
 (repeat'(first|exact rfl|exact trivial|assumption|apply And.intro|refine fun(_:Unit) (_:True)=>?_|refine Exists.intro () ?_|omega|(dsimp only;omega)))
 all_goals(refine⟨p,?_⟩;(repeat'(first|exact rfl|exact trivial|assumption|apply And.intro|refine fun(_:Unit) (_:True)=>?_|refine Exists.intro () ?_|omega|(dsimp only;omega))))
 all_goals(refine⟨0,?_⟩;(repeat'(first|exact rfl|exact trivial|assumption|apply And.intro|refine fun(_:Unit) (_:True)=>?_|refine Exists.intro () ?_|omega|(dsimp only;omega))))
 all_goals(refine⟨fun j=>j≤p.count,fun j=>p.count-j,by omega,fun j hj=>zK (fun hlt=> ?_) (fun hlt=> ?_)⟩;all_goals dsimp only at hj hlt)
 all_goals first
  |(refine .inl ⟨(),?_⟩
    obtain rfl:j=p.count:=by omega
    (repeat'(first|exact rfl|exact trivial|assumption|apply And.intro|refine fun(_:Unit) (_:True)=>?_|refine Exists.intro () ?_|omega|(dsimp only;omega))))
  |(refine⟨(),trivial,fun _ _=>⟨trivial,trivial,List.replicate j book0,rfl,?_,j+1,?_⟩⟩
    ·rw[yUn];omega
    ·rw[w64 (by omega),← List.replicate_succ']
     (repeat'(first|exact rfl|exact trivial|assumption|apply And.intro|refine fun(_:Unit) (_:True)=>?_|refine Exists.intro () ?_|omega|(dsimp only;omega))))
theorem yGr:newSC.ok Tryz.prog 37:=okw mixed (gokc bQ (gokc cU (gokc yEv gok0))) 0 (fun _=>[]) (fun p=>yOc p) [] Tryz.func37 yQp
theorem z6f:clSlotC.ok Tryz.prog 122:=okw (V:=yDz) mixed gok0 0 (fun _=>[]) (fun _=>[]) [] Tryz.func122 fun(l:List Slot) h=>by
 have h:l.length≤1000000:=h
 exact fun b hb=>Cv.cnd.mk (fun e=>⟨(),rfl,hb e,trivial⟩) (fun _=>⟨by rw[yTl,ySh];omega,(),rfl,rfl,trivial⟩)
theorem zYp:clQueueC.ok Tryz.prog 123:=okw (V:=yAf) mixed gok0 0 (fun _=>[]) (fun _=>[]) [] Tryz.func123 fun(l:List fB) h=>by
 have h:l.length≤1000000:=h
 exact fun b hb=>Cv.cnd.mk (fun e=>⟨(),rfl,hb e,trivial⟩) (fun _=>⟨by rw[yTl,ySh];omega,(),rfl,rfl,trivial⟩)
theorem z5e:clRungC.ok Tryz.prog 105:=okw (V:=yFq) mixed gok0 0 (fun _=>[]) (fun _=>[]) [] Tryz.func105 fun(l:List xN) h=>by
 have h:l.length≤1000000:=h
 exact fun b hb=>Cv.cnd.mk (fun e=>⟨(),rfl,hb e,trivial⟩) (fun _=>⟨by rw[yTl,ySh];omega,(),rfl,rfl,trivial⟩)
theorem yCp:clIntC.ok Tryz.prog 58:=okw (V:=yNr) mixed gok0 0 (fun _=>[]) (fun _=>[]) [] Tryz.func58 fun(l:List Int) h=>by
 have h:l.length≤1000000:=h
 exact fun b hb=>Cv.cnd.mk (fun e=>⟨(),rfl,hb e,trivial⟩) (fun _=>⟨by rw[yTl,yW];omega,(),rfl,rfl,trivial⟩)
theorem zOc (t:Nat):(cQ t).ok Tryz.prog 102:=zYo Tryz.func102 (by kernel_rfl) (by kernel_rfl) (by kernel_rfl) (by kernel_rfl) t
theorem yHc:clAtC.ok Tryz.prog 104:=yNw (gokc (zOc _) gok0) fun es _=>by
 unfold yBc
 refine⟨es,?_⟩;exact kp
theorem yEu:clWhC.ok Tryz.prog 78:=yNt (gokc (zOc _) gok0) fun es _=>by
 unfold z7b
 refine⟨es,?_⟩;exact kp
theorem yCv:copyAC.ok Tryz.prog 103:=okw (V:=yNm) mixed (gokc z6f (gokc zYp gok0)) 0 (fun _=>[]) (fun _=>[]) [0] Tryz.func103 fun(a:Arena) h=>by
 obtain⟨h1,h2⟩:a.small:=h
 refine⟨a.slots,?_⟩;(repeat'(first|exact rfl|exact trivial|assumption|apply And.intro|refine fun(_:Unit) (_:True)=>?_|refine Exists.intro () ?_|omega|(dsimp only;omega)))
 refine⟨a.queues,?_⟩;exact kp
theorem yDo:copyBC.ok Tryz.prog 79:=okw (V:=yMm) mixed (gokc yCv (gokc yHc (gokc yCp (gokc z5e gok0)))) 0 (fun _=>[]) (fun _=>yMn) [0] Tryz.func79 fun(b:Book) h=>by
 obtain⟨⟨h1,h1'⟩,h2,h3,h4⟩:b.small:=h
 refine⟨b.a,?_⟩;(repeat'(first|exact rfl|exact trivial|assumption|apply And.intro|refine fun(_:Unit) (_:True)=>?_|refine Exists.intro () ?_|omega|(dsimp only;omega)))
 refine⟨atE b.at_,?_⟩;(repeat'(first|exact rfl|exact trivial|assumption|apply And.intro|refine fun(_:Unit) (_:True)=>?_|refine Exists.intro () ?_|omega|(dsimp only;omega)))
 refine⟨b.spare,?_⟩;(repeat'(first|exact rfl|exact trivial|assumption|apply And.intro|refine fun(_:Unit) (_:True)=>?_|refine Exists.intro () ?_|omega|(dsimp only;omega)))
 refine⟨b.buys,?_⟩;(repeat'(first|exact rfl|exact trivial|assumption|apply And.intro|refine fun(_:Unit) (_:True)=>?_|refine Exists.intro () ?_|omega|(dsimp only;omega)))
 refine⟨b.sells,?_⟩;exact kp
open Go Cv Go.Proofs
structure ArN where
 a:Arena
 n:Int
def Arena.qAt (a:Arena) (n:Int):fB:=if 0≤n∧n<a.queues.length then a.queues.getD n.toNat ⟨0,0,0,0⟩else⟨0,0,0,0⟩
def atotalC:Con:=con1 ArN (fun i=>[.nm 0 0,zA i.n]) (fun i=>[jO i.a]) (fun i=>True) (fun i=>zA (i.a.qAt i.n).total) (fun i=>[jO i.a])
def acountC:Con:=con1 ArN (fun i=>[.nm 0 0,zA i.n]) (fun i=>[jO i.a]) (fun i=>True) (fun i=>zA (i.a.qAt i.n).count) (fun i=>[jO i.a])
def bisC:Con:=con1 Int (fun n=>[zA n]) (fun _=>[]) (fun _=>True) (fun n=>yR (decide (n=1)||decide (n=2))) (fun _=>[])
structure BkR where
 b:Book
 r:xN
def Book.told (b:Book) (r:xN):Lv:=⟨r.price,(b.a.qAt r.queue).total,(b.a.qAt r.queue).count⟩
@[reducible] def Book.cntOk (b:Book):Prop:=∀q∈b.a.queues,yY q.count
def toldC:Con:=con1 BkR (fun i=>[.nm 0 0,.agg [zA i.r.price,zA i.r.queue]]) (fun i=>[yC i.b]) (fun i=>i.b.cntOk) (fun i=>lvV (i.b.told i.r)) (fun i=>[yC i.b])
def Book.best (b:Book) (l:List xN):Lv×Bool:=match l with
 |[]=>(⟨0,0,0⟩,false)
 |r::_=>(b.told r,true)
structure BkS where
 side:Bool
 b:Book
def Book.side (b:Book) (s:Bool):List xN:=if s then b.sells else b.buys
@[reducible] def zYw (b:Book) (l:List xN):V:= .tup [lvV (b.best l).1,yR (b.best l).2]
def best1C:Con:=con1 Book (fun _=>[.nm 0 0,zA 1]) (fun b=>[yC b]) Book.cntOk (fun b=>zYw b b.buys) (fun b=>[yC b])
def best2C:Con:=con1 Book (fun _=>[.nm 0 0,zA 2]) (fun b=>[yC b]) Book.cntOk (fun b=>zYw b b.sells) (fun b=>[yC b])
def zB (s:Bool):Int:=if s then 2 else 1
def bestC:Con:=con1 BkS (fun i=>[.nm 0 0,zA (zB i.side)]) (fun i=>[yC i.b]) (fun i=>i.b.cntOk) (fun i=>zYw i.b (i.b.side i.side)) (fun i=>[yC i.b])
structure Top where
 has1:Bool
 has2:Bool
 p1:Int
 p2:Int
 q1:Int
 q2:Int
 deriving DecidableEq
def zU (t:Top):List D:=[.v (.bool t.has1),.v (.bool t.has2),.v (.int .i64 t.p1),.v (.int .i64 t.p2),.v (.int .i64 t.q1),.v (.int .i64 t.q2)]
def top0:Top:=⟨false,false,0,0,0,0⟩
def Top.buy (t:Top) (x:Lv×Bool):Top:=if x.2 then{t with has1:=true,p1:=x.1.price,q1:=x.1.qty}else t
def Top.sell (t:Top) (x:Lv×Bool):Top:=if x.2 then{t with has2:=true,p2:=x.1.price,q2:=x.1.qty}else t
def Book.top (b:Book):Top:=(top0.buy (b.best b.buys)).sell (b.best b.sells)
def MSt.tops (s:MSt):List Top:=s.books.map Book.top
@[reducible] def MSt.cntOk (s:MSt):Prop:=s.books.length≤1000000∧∀b∈s.books,b.cntOk
def topsC:Con:=con1 MSt (fun _=>[.nm 0 0]) (fun s=>[zE s]) MSt.cntOk (fun s=> .own 1) (fun s=>[zE s,.own 55 6 (s.tops.map zU)])
def xZ (s:MSt) (j:Nat) (x:Top):List Top:=(s.tops.take j)++x::List.replicate (s.books.length-j-1) top0
def x4 (s:MSt) (j:Nat):List Top:=(s.tops.take j)++List.replicate (s.books.length-j) top0
def yIy (s:MSt):List SAnn:=[
 {ι:=Nat,slots:=fun j=>[(3,.own 0),(21,zA j)],rows:=fun j=>[.own 55 6 ((x4 s j).map zU)]},
 {ι:=Unit,slots:=fun _=>[],rows:=fun _=>[],un:=3}]
def yIx (s:MSt):List (Nat×SAnn):=[(15,{ι:=Nat×Top,slots:=fun x=>[(3,.own 0)],slots0:=fun x=>[(3,.own 0)],rows0:=fun x=>[.own 55 6 ((xZ s x.1 x.2).map zU)],rows:=fun x=>[.own 55 6 ((xZ s x.1 x.2).map zU)]})]
def yLw (s:MSt):List SAnn:=[{ι:=Nat,slots:=fun j=>[(3,.nm 0 0),(22,zA j)],rows:=fun j=>(List.range 5).map (xS ⟨s.p,s.books.take j,s.wh⟩)}]
open Go Cv Go.Proofs
def jC (a:ArN):Prop:=a.a.free=a.a.free∧List.map zQ a.a.slots=List.map zQ a.a.slots∧List.map zN a.a.queues=List.map zN a.a.queues∧True
def sQ (a:ArN):Prop:=∃(b:Unit),(a.a.qAt a.n).total=0∧jC a
def gN (a:ArN):=(↑(List.map zN a.a.queues).length:Int)
def z0w (i:ArN):Prop:=
 cnd (decide (i.n≥0)) (cnd (!decide (i.n<(gN i))) (sQ i) ((0≤i.n∧i.n<(gN i))∧∃(a:Int),zF (List.map zN i.a.queues) i.n.toNat ((0:Nat)+(2:Nat)) 1=some [dI a]∧∃(b:Unit),(i.a.qAt i.n).total=a∧jC i)) (sQ i)
def sW (a:ArN):Prop:=∃(b:Unit),(a.a.qAt a.n).count=0∧jC a
def z0x (i:ArN):Prop:=
 cnd (decide (i.n≥0)) (cnd (!decide (i.n<(gN i))) (sW i) ((0≤i.n∧i.n<(gN i))∧∃(a:Int),zF (List.map zN i.a.queues) i.n.toNat ((0:Nat)+(3:Nat)) 1=some [dI a]∧∃(b:Unit),(i.a.qAt i.n).count=a∧jC i)) (sW i)
def vP (a:Int):=(decide (a=1)||decide (a=2))
def yQa (n:Int):Prop:=
 cnd (n==1) (∃(a:Unit),(vP n)=true∧True) (∃(a:Unit),(vP n)=(n==2)∧True)
def yPf (i:BkR):Prop:=
 ∃(i_1:ArN),i_1.n=i.r.queue∧AObj.adt Arena 3 zG i_1.a=AObj.adt Arena 3 zG i.b.a∧True∧∀(o:Unit),True→i.r.queue=i.r.queue∧True∧i.r.price=i.r.price∧∃(i_2:ArN),i_2.n=i.r.queue∧AObj.adt Arena 3 zG i_2.a=AObj.adt Arena 3 zG i_1.a∧True∧∀(o:Unit),True→i.r.price=i.r.price∧∃(o:Unit),i.r.price=i.r.price∧(i.b.a.qAt i.r.queue).total=(i_1.a.qAt i_1.n).total∧(i.b.a.qAt i.r.queue).count=(i_2.a.qAt i_2.n).count∧i.b.top1=i.b.top1∧i.b.top2=i.b.top2∧i.b.has1=i.b.has1∧i.b.has2=i.b.has2∧AObj.adt Arena 3 zG i.b.a=AObj.adt Arena 3 zG i_2.a∧List.map zC i.b.buys=List.map zC i.b.buys∧List.map zC i.b.sells=List.map zC i.b.sells∧atE i.b.at_=atE i.b.at_∧iE i.b.spare=iE i.b.spare∧True
def yLe (b:Book):Prop:=
 ∃(i:Int),i=1∧True∧∀(o:Unit),True→cnd (!(decide (i=1)||decide (i=2))) (∃(o:Unit),(b.best b.buys).fst.price=0∧(b.best b.buys).fst.qty=0∧(b.best b.buys).fst.count=0∧(b.best b.buys).snd=false∧b.top1=b.top1∧b.top2=b.top2∧b.has1=b.has1∧b.has2=b.has2∧AObj.adt Arena 3 zG b.a=AObj.adt Arena 3 zG b.a∧List.map zC b.buys=List.map zC b.buys∧List.map zC b.sells=List.map zC b.sells∧atE b.at_=atE b.at_∧iE b.spare=iE b.spare∧True) (cnd ((↑(List.map zC b.buys).length:Int)==0) (∃(o:Unit),(b.best b.buys).fst.price=0∧(b.best b.buys).fst.qty=0∧(b.best b.buys).fst.count=0∧(b.best b.buys).snd=false∧b.top1=b.top1∧b.top2=b.top2∧b.has1=b.has1∧b.has2=b.has2∧AObj.adt Arena 3 zG b.a=AObj.adt Arena 3 zG b.a∧List.map zC b.buys=List.map zC b.buys∧List.map zC b.sells=List.map zC b.sells∧atE b.at_=atE b.at_∧iE b.spare=iE b.spare∧True) (((0:Int)≤(0:Int)∧0<(↑(List.map zC b.buys).length:Int))∧∃(n:Int),∃(n_1:Int),zF (List.map zC b.buys) (Int.toNat 0) 0 2=some [D.v (.int .i64 n),D.v (.int .i64 n_1)]∧∃(i:BkR),i.r.price=n∧i.r.queue=n_1∧i.b.top1=b.top1∧i.b.top2=b.top2∧i.b.has1=b.has1∧i.b.has2=b.has2∧AObj.adt Arena 3 zG i.b.a=AObj.adt Arena 3 zG b.a∧List.map zC i.b.buys=List.map zC b.buys∧List.map zC i.b.sells=List.map zC b.sells∧atE i.b.at_=atE b.at_∧iE i.b.spare=iE b.spare∧(∀(q:fB),q∈i.b.a.queues→(-9223372036854775808)≤q.count∧q.count≤9223372036854775807)∧∀(o:Unit),True→∃(o:Unit),(b.best b.buys).fst.price=i.r.price∧(b.best b.buys).fst.qty=(i.b.a.qAt i.r.queue).total∧(b.best b.buys).fst.count=(i.b.a.qAt i.r.queue).count∧(b.best b.buys).snd=true∧yC b=yC i.b∧True))
def yJm (b:Book):Prop:=
 ∃(i:Int),i=2∧True∧∀(o:Unit),True→cnd (!(decide (i=1)||decide (i=2))) (∃(o:Unit),(b.best b.sells).fst.price=0∧(b.best b.sells).fst.qty=0∧(b.best b.sells).fst.count=0∧(b.best b.sells).snd=false∧b.top1=b.top1∧b.top2=b.top2∧b.has1=b.has1∧b.has2=b.has2∧AObj.adt Arena 3 zG b.a=AObj.adt Arena 3 zG b.a∧List.map zC b.buys=List.map zC b.buys∧List.map zC b.sells=List.map zC b.sells∧atE b.at_=atE b.at_∧iE b.spare=iE b.spare∧True) (cnd ((↑(List.map zC b.sells).length:Int)==0) (∃(o:Unit),(b.best b.sells).fst.price=0∧(b.best b.sells).fst.qty=0∧(b.best b.sells).fst.count=0∧(b.best b.sells).snd=false∧b.top1=b.top1∧b.top2=b.top2∧b.has1=b.has1∧b.has2=b.has2∧AObj.adt Arena 3 zG b.a=AObj.adt Arena 3 zG b.a∧List.map zC b.buys=List.map zC b.buys∧List.map zC b.sells=List.map zC b.sells∧atE b.at_=atE b.at_∧iE b.spare=iE b.spare∧True) (((0:Int)≤(0:Int)∧0<(↑(List.map zC b.sells).length:Int))∧∃(n:Int),∃(n_1:Int),zF (List.map zC b.sells) (Int.toNat 0) 0 2=some [D.v (.int .i64 n),D.v (.int .i64 n_1)]∧∃(i:BkR),i.r.price=n∧i.r.queue=n_1∧i.b.top1=b.top1∧i.b.top2=b.top2∧i.b.has1=b.has1∧i.b.has2=b.has2∧AObj.adt Arena 3 zG i.b.a=AObj.adt Arena 3 zG b.a∧List.map zC i.b.buys=List.map zC b.buys∧List.map zC i.b.sells=List.map zC b.sells∧atE i.b.at_=atE b.at_∧iE i.b.spare=iE b.spare∧(∀(q:fB),q∈i.b.a.queues→(-9223372036854775808)≤q.count∧q.count≤9223372036854775807)∧∀(o:Unit),True→∃(o:Unit),(b.best b.sells).fst.price=i.r.price∧(b.best b.sells).fst.qty=(i.b.a.qAt i.r.queue).total∧(b.best b.sells).fst.count=(i.b.a.qAt i.r.queue).count∧(b.best b.sells).snd=true∧yC b=yC i.b∧True))
def zDn (a:MSt):Prop:=Sx.AObj.map (zY a.wh)=Sx.AObj.map (zY a.wh)∧AObj.fro 1 (iE a.p.months)=AObj.fro 1 (iE a.p.months)∧AObj.fro 1 (iE a.p.settle)=AObj.fro 1 (iE a.p.settle)
def zBa (a:Nat×Top→Prop) (b:Nat×Top) (c:MSt) (d:Nat) (e:Book):Prop:=a b∧AObj.own 3 1 [[dI 1],[dI 2]]=AObj.own 3 1 [[dI 1],[dI 2]]∧Sx.AObj.cells (gD (k9 0 1 5) [sV c.p.code,V.own 3,zA c.p.tick,zA c.p.low,zA c.p.high,zA c.p.wide,zA c.p.rule,zA c.p.top,zA c.p.least,zA c.p.part,V.own 4,V.own 1,V.mp 2]) (101:TypeId)=Sx.AObj.cells (gD (k9 0 1 5) [sV c.p.code,V.own 3,zA c.p.tick,zA c.p.low,zA c.p.high,zA c.p.wide,zA c.p.rule,zA c.p.top,zA c.p.least,zA c.p.part,V.own 4,V.own 1,V.mp 2]) (101:TypeId)∧AObj.objs 102 Book 6 zR (c.books.set (↑d:Int).toNat e) none=AObj.objs 102 Book 6 zR c.books none∧zDn c
def zKu (a:MSt) (b:Nat×Top) (c:Nat×Top→Prop) (d:Nat) (e:Book):Prop:=∃(f:Nat×Top),List.map zU (xZ a f.fst f.snd)=List.map zU (xZ a b.fst b.snd)∧zBa c f a d e
def uO (a:MSt) (b:Nat×Top):=(List.map zU (xZ a b.fst b.snd))
def c9 (a:MSt) (b:Nat×Top) (c:Nat):=(z9 (uO a b) (↑c:Int).toNat ((0:Nat)+(0:Nat)+(nat_lit 0+nat_lit 1) % ((2:Int) ^ IntKind.i64.bits).natAbs*1) [D.v (.bool true)])
def zW (a:BkS):=(a.b.best (a.b.side a.side))
def dH (a:BkS):=((zW a).fst.price)
def dB (a:MSt) (b:Nat×Top) (c:Nat) (d:BkS):=(z9 (c9 a b c) (↑c:Int).toNat ((0:Nat)+(2:Nat)+(nat_lit 0+nat_lit 1) % ((2:Int) ^ IntKind.i64.bits).natAbs*1) [dI (dH d)])
def tT (a:Nat) (b:MSt) (c:Nat×Top) (d:BkS):Prop:=(0≤(↑a:Int)∧(↑a:Int)<(↑(dB b c a d).length:Int))∧(↑a:Int).toNat=(↑a:Int).toNat
def bE (a:MSt) (b:Nat×Top) (c:Nat):=(z9 (uO a b) (↑c:Int).toNat ((0:Nat)+(0:Nat)+nat_lit 0*1) [D.v (.bool true)])
def dE (a:MSt) (b:Nat×Top) (c:Nat) (d:BkS):=(z9 (bE a b c) (↑c:Int).toNat ((0:Nat)+(2:Nat)+nat_lit 0*1) [dI (dH d)])
def tP (a:Nat) (b:MSt) (c:Nat×Top) (d:BkS):Prop:=(0≤(↑a:Int)∧(↑a:Int)<(↑(dE b c a d).length:Int))∧(↑a:Int).toNat=(↑a:Int).toNat
def cV (a:Nat) (b:MSt) (c:Nat×Top):Prop:=(0≤(↑a:Int)∧(↑a:Int)<(↑(c9 b c a).length:Int))∧(↑a:Int).toNat=(↑a:Int).toNat
def cW (a:Nat) (b:MSt) (c:Nat×Top):Prop:=(0≤(↑a:Int)∧(↑a:Int)<(↑(bE b c a).length:Int))∧(↑a:Int).toNat=(↑a:Int).toNat
def tN (a:MSt):Prop:=0≤(↑a.books.length:Int)∧(↑a.books.length:Int)≤(↑a.books.length:Int)∧(↑a.books.length:Int)≤9223372036854775807∧(↑(40:Nat):Int)*(↑a.books.length:Int)≤2 ^ (48:Nat)
def qO (a:fB):Prop:=(-9223372036854775808)≤a.count∧a.count≤9223372036854775807
def wR (a:BkS):Prop:=∀(b:fB),b∈a.b.a.queues→qO b
def qT (a:Nat) (b:MSt) (c:Nat×Top):Prop:=0≤(↑a:Int)∧(↑a:Int)<(↑(uO b c).length:Int)
def uA (a:BkS):=((zW a).fst.qty)
def yHx (s:MSt):Prop:=
 (tN s)∧∃(a:Nat),(↑a:Int)=0∧List.map zU (x4 s a)=List.replicate (↑s.books.length:Int).toNat [D.v (.bool false),D.v (.bool false),dI 0,dI 0,dI 0,dI 0]∧∃(b:Nat→Prop),∃(c:Nat→Nat),b a∧∀(d:Nat),b d→cnd (decide ((↑d:Int)<(↑s.books.length:Int))) ((0≤(↑d:Int)∧(↑d:Int)<(↑s.books.length:Int))∧(↑d:Int).toNat<s.books.length∧∃(e:Nat×Top),List.map zU (xZ s e.fst e.snd)=List.map zU (x4 s d)∧∃(f:Nat×Top→Prop),(((0:Int)≤(0:Int)∧0<(↑(2:Nat):Int))∧∃(g:Int),zF [[dI 1],[dI 2]] (Int.toNat 0) 0 1=some [dI g]∧∃(h:Book),s.books[(↑d:Int).toNat]?=some h∧∃(j:BkS),zB j.side=g∧yC j.b=yC h∧(wR j)∧∀(k:Unit),True→∃(l:Book),yC j.b=yC l∧(↑d:Int).toNat=(↑d:Int).toNat∧(↑d:Int).toNat<s.books.length∧cnd (zW j).snd ((qT d s e)∧(qT d s e)∧(qT d s e)∧(↑d:Int).toNat<(uO s e).length∧(cW d s e)∧(cW d s e)∧(zW j).fst.qty=(zW j).fst.qty∧(zW j).fst.price=(zW j).fst.price∧(↑d:Int).toNat<(bE s e d).length∧(tP d s e j)∧(zW j).fst.qty=(zW j).fst.qty∧(↑d:Int).toNat<(dE s e d j).length∧∃(m:Nat×Top),List.map zU (xZ s m.fst m.snd)=z9 (dE s e d j) (↑d:Int).toNat ((0:Nat)+(4:Nat)+nat_lit 0*1) [dI (uA j)]∧zBa f m s d l) (zKu s e f d l))∧∀(g:Nat×Top),f g→∃(h:Nat×Top),List.map zU (xZ s h.fst h.snd)=List.map zU (xZ s g.fst g.snd)∧∃(j:Nat×Top→Prop),((0≤IntKind.i64.wrap ((0:Int)+(1:Int))∧IntKind.i64.wrap ((0:Int)+(1:Int))<(↑(2:Nat):Int))∧∃(k:Int),zF [[dI 1],[dI 2]] (IntKind.i64.wrap ((0:Int)+(1:Int))).toNat 0 1=some [dI k]∧∃(l:Book),s.books[(↑d:Int).toNat]?=some l∧∃(m:BkS),zB m.side=k∧yC m.b=yC l∧(wR m)∧∀(n:Unit),True→∃(p:Book),yC m.b=yC p∧(↑d:Int).toNat=(↑d:Int).toNat∧(↑d:Int).toNat<s.books.length∧cnd (zW m).snd ((qT d s h)∧(qT d s h)∧(qT d s h)∧(↑d:Int).toNat<(uO s h).length∧(cV d s h)∧(cV d s h)∧(zW m).fst.qty=(zW m).fst.qty∧(zW m).fst.price=(zW m).fst.price∧(↑d:Int).toNat<(c9 s h d).length∧(tT d s h m)∧(zW m).fst.qty=(zW m).fst.qty∧(↑d:Int).toNat<(dB s h d m).length∧∃(q:Nat×Top),List.map zU (xZ s q.fst q.snd)=z9 (dB s h d m) (↑d:Int).toNat ((0:Nat)+(4:Nat)+(nat_lit 0+nat_lit 1) % ((2:Int) ^ IntKind.i64.bits).natAbs*1) [dI (uA m)]∧zBa j q s d p) (zKu s h j d p))∧∀(k:Nat×Top),j k→∃(l:Nat),(↑l:Int)=IntKind.i64.wrap ((↑d:Int)+1)∧List.map zU (x4 s l)=List.map zU (xZ s k.fst k.snd)∧b l∧c l<c d∧Sx.AObj.cells (gD (k9 0 1 5) [sV s.p.code,V.own 3,zA s.p.tick,zA s.p.low,zA s.p.high,zA s.p.wide,zA s.p.rule,zA s.p.top,zA s.p.least,zA s.p.part,V.own 4,V.own 1,V.mp 2]) (101:TypeId)=Sx.AObj.cells (gD (k9 0 1 5) [sV s.p.code,V.own 3,zA s.p.tick,zA s.p.low,zA s.p.high,zA s.p.wide,zA s.p.rule,zA s.p.top,zA s.p.least,zA s.p.part,V.own 4,V.own 1,V.mp 2]) (101:TypeId)∧AObj.objs 102 Book 6 zR s.books none=AObj.objs 102 Book 6 zR s.books none∧zDn s) (∃(e:Unit),sb s.p.code=sb s.p.code∧s.p.tick=s.p.tick∧s.p.low=s.p.low∧s.p.high=s.p.high∧s.p.wide=s.p.wide∧s.p.rule=s.p.rule∧s.p.top=s.p.top∧s.p.least=s.p.least∧s.p.part=s.p.part∧AObj.objs 102 Book 6 zR s.books none=AObj.objs 102 Book 6 zR s.books none∧zY s.wh=zY s.wh∧AObj.fro 1 (iE s.p.months)=AObj.fro 1 (iE s.p.months)∧AObj.fro 1 (iE s.p.settle)=AObj.fro 1 (iE s.p.settle)∧List.map zU s.tops=List.map zU (x4 s d)∧True)
def yKk (s:MSt):Prop:=
 ∃(i:List (Value×List D)),i=zY s.wh∧True∧∀(o:Unit),True→(sb s.p.code=sb s.p.code∧True∧s.p.tick=s.p.tick∧s.p.low=s.p.low∧s.p.high=s.p.high∧s.p.wide=s.p.wide∧s.p.rule=s.p.rule∧s.p.top=s.p.top∧s.p.least=s.p.least∧s.p.part=s.p.part∧True∧True)∧∃(i0:Nat),(↑i0:Int)=0∧sb s.p.code=sb s.p.code∧s.p.tick=s.p.tick∧s.p.low=s.p.low∧s.p.high=s.p.high∧s.p.wide=s.p.wide∧s.p.rule=s.p.rule∧s.p.top=s.p.top∧s.p.least=s.p.least∧s.p.part=s.p.part∧List.take i0 s.books=[]∧(none:Option Nat)=none∧zY s.wh=i∧AObj.fro 1 (iE s.p.months)=AObj.fro 1 (iE s.p.months)∧AObj.fro 1 (iE s.p.settle)=AObj.fro 1 (iE s.p.settle)∧∃(I:Nat→Prop),∃(μ:Nat→Nat),I i0∧∀(i_1:Nat),I i_1→cnd (decide ((↑i_1:Int)<(↑s.books.length:Int))) ((0≤(↑i_1:Int)∧(↑i_1:Int)<(↑s.books.length:Int))∧(↑i_1:Int).toNat<s.books.length∧∃(x:Book),s.books[(↑i_1:Int).toNat]?=some x∧∃(i_2:Book),yC i_2=yC x∧((i_2.a.slots.length≤1000000∧i_2.a.queues.length≤1000000)∧i_2.buys.length≤1000000∧i_2.sells.length≤1000000∧i_2.spare.length≤1000000)∧∀(o:Unit),True→∃(x:Book),yC i_2=yC x∧(↑i_1:Int).toNat=(↑i_1:Int).toNat∧(↑i_1:Int).toNat<s.books.length∧True∧True∧∃(l1':List Book),AObj.objs 102 Book 6 zR (List.take i_1 s.books) none=AObj.objs 102 Book 6 zR l1' none∧(l1'.length+1)*(8:Nat)≤(70368744177664:Nat)∧∃(i':Nat),(↑i':Int)=IntKind.i64.wrap ((↑i_1:Int)+1)∧sb s.p.code=sb s.p.code∧s.p.tick=s.p.tick∧s.p.low=s.p.low∧s.p.high=s.p.high∧s.p.wide=s.p.wide∧s.p.rule=s.p.rule∧s.p.top=s.p.top∧s.p.least=s.p.least∧s.p.part=s.p.part∧AObj.objs 102 Book 6 zR (List.take i' s.books) none=AObj.objs 102 Book 6 zR (l1'++[i_2]) none∧zY s.wh=zY s.wh∧AObj.fro 1 (iE s.p.months)=AObj.fro 1 (iE s.p.months)∧AObj.fro 1 (iE s.p.settle)=AObj.fro 1 (iE s.p.settle)∧I i'∧μ i'<μ i_1∧Sx.AObj.map i=Sx.AObj.map i∧Sx.AObj.cells (gD (k9 0 1 5) [sV s.p.code,V.own 3,zA s.p.tick,zA s.p.low,zA s.p.high,zA s.p.wide,zA s.p.rule,zA s.p.top,zA s.p.least,zA s.p.part,V.own 4,V.own 1,V.mp 2]) (101:TypeId)=Sx.AObj.cells (gD (k9 0 1 5) [sV s.p.code,V.own 3,zA s.p.tick,zA s.p.low,zA s.p.high,zA s.p.wide,zA s.p.rule,zA s.p.top,zA s.p.least,zA s.p.part,V.own 4,V.own 1,V.mp 2]) (101:TypeId)∧AObj.objs 102 Book 6 zR (s.books.set (↑i_1:Int).toNat x) none=AObj.objs 102 Book 6 zR s.books none∧AObj.fro 1 (iE s.p.months)=AObj.fro 1 (iE s.p.months)∧AObj.fro 1 (iE s.p.settle)=AObj.fro 1 (iE s.p.settle)) (∃(o:Unit),sb s.p.code=sb s.p.code∧s.p.tick=s.p.tick∧s.p.low=s.p.low∧s.p.high=s.p.high∧s.p.wide=s.p.wide∧s.p.rule=s.p.rule∧s.p.top=s.p.top∧s.p.least=s.p.least∧s.p.part=s.p.part∧AObj.objs 102 Book 6 zR s.books none=AObj.objs 102 Book 6 zR s.books none∧zY s.wh=i∧AObj.fro 1 (iE s.p.months)=AObj.fro 1 (iE s.p.months)∧AObj.fro 1 (iE s.p.settle)=AObj.fro 1 (iE s.p.settle)∧sb s.p.code=sb s.p.code∧s.p.tick=s.p.tick∧s.p.low=s.p.low∧s.p.high=s.p.high∧s.p.wide=s.p.wide∧s.p.rule=s.p.rule∧s.p.top=s.p.top∧s.p.least=s.p.least∧s.p.part=s.p.part∧AObj.objs 102 Book 6 zR s.books none=AObj.objs 102 Book 6 zR (List.take i_1 s.books) none∧zY s.wh=zY s.wh∧AObj.fro 1 (iE s.p.months)=AObj.fro 1 (iE s.p.months)∧AObj.fro 1 (iE s.p.settle)=AObj.fro 1 (iE s.p.settle)∧True)
open Go Cv Go.Proofs
theorem elA {α:Type} {f:α→List D} {l:List α} {i g n:Nat} {x:α} {r:List D} (h:l[i]? =some x) (hn:g+n≤(f x).length) (hr:((f x).drop g).take n=r):zF (l.map f) i g n=some r:=by
 unfold zF
 rw[yTy,h]
 simp only[yUk,Nat.ble_eq_true_of_le hn,cond_true,hr]
theorem zSf {a:Arena} {n:Int} {q:fB} (h0:0≤n) (h:a.queues[n.toNat]? =some q):a.qAt n=q:=by
 have:=(ySg.1 h).1
 rw[Arena.qAt,ySf ⟨h0,by omega⟩,ySi,h];rfl
theorem zHn {a:Arena} {n:Int} (h:¬(0≤n∧n<a.queues.length)):a.qAt n=⟨0,0,0,0⟩:=by rw[Arena.qAt,ySe h]
theorem z5v:atotalC.ok Tryz.prog 106:=okw (V:=z0w) mixed gok0 1 (fun _=>[]) (fun _=>[]) [0] Tryz.func106 fun(i:ArN) _=>by
 unfold z0w gN sQ jC dI
 simp only[ySh]
 refine zK (fun c=>Cv.cnd.mk (fun d=> ?_) (fun d=> ?_)) (fun c=> ?_)
 ·have d:¬i.n<(i.a.queues.length:Int):=by simpa using d
  rw[zHn (by omega)];exact kp
 ·have d:i.n<(i.a.queues.length:Int):=by simpa using d
  obtain⟨q,hq⟩:=z6 (l:=i.a.queues) (i:=i.n.toNat) (by omega)
  rw[zSf (by omega) hq]
  refine⟨⟨by omega,by omega⟩,q.total,elA hq (by simp[zN]) rfl,?_⟩;exact kp
 ·rw[zHn (by omega)];exact kp
theorem zFb:acountC.ok Tryz.prog 107:=okw (V:=z0x) mixed gok0 1 (fun _=>[]) (fun _=>[]) [0] Tryz.func107 fun(i:ArN) _=>by
 unfold z0x gN sW jC dI
 simp only[ySh]
 refine zK (fun c=>Cv.cnd.mk (fun d=> ?_) (fun d=> ?_)) (fun c=> ?_)
 ·have d:¬i.n<(i.a.queues.length:Int):=by simpa using d
  rw[zHn (by omega)];exact kp
 ·have d:i.n<(i.a.queues.length:Int):=by simpa using d
  obtain⟨q,hq⟩:=z6 (l:=i.a.queues) (i:=i.n.toNat) (by omega)
  rw[zSf (by omega) hq]
  refine⟨⟨by omega,by omega⟩,q.count,elA hq (by simp[zN]) rfl,?_⟩;exact kp
 ·rw[zHn (by omega)];exact kp
theorem zFa:bisC.ok Tryz.prog 80:=okw (V:=yQa) mixed gok0 0 (fun _=>[]) (fun _=>[]) [] Tryz.func80 fun(n:Int) _=>by
 unfold yQa vP
 refine Cv.cnd.mk (fun c=>⟨(),?_,trivial⟩) (fun c=>⟨(),?_,trivial⟩)
 all_goals simp at c
 ·simp[c]
 ·by_cases h:n=2<;>simp[c,h]
theorem z2d:toldC.ok Tryz.prog 81:=okw (V:=yPf) mixed (gokc z5v (gokc zFb gok0)) 0 (fun _=>[]) (fun _=>[]) [0] Tryz.func81 fun(i:BkR) h=>by
 refine⟨⟨i.b.a,i.r.queue⟩,?_⟩;(repeat'(first|exact rfl|exact trivial|assumption|apply And.intro|refine fun(_:Unit) (_:True)=>?_|refine Exists.intro () ?_|omega|(dsimp only;omega)))
 refine⟨⟨i.b.a,i.r.queue⟩,?_⟩;exact kp
theorem z9q:best1C.ok Tryz.prog 49:=okw (V:=yLe) mixed (gokc zFa (gokc z2d gok0)) 0 (fun _=>[]) (fun _=>[]) [0] Tryz.func49 fun(b:Book) h=>by
 have h:b.cntOk:=h
 refine⟨1,rfl,trivial,fun _ _=>Cv.cnd.mk (fun c=>absurd c (by decide)) fun _=> ?_⟩
 simp only[ySh]
 refine Cv.cnd.mk (fun c=> ?_) (fun c=> ?_)
 ·have hl:b.buys=[]:=yTn (by have:(b.buys.length:Int)=0:=(by simpa using c);omega)
  have e:b.best b.buys=(⟨0,0,0⟩,false):=by rw[hl];rfl
  rw[e];exact kp
 ·obtain⟨r,l,hl⟩:∃r l,b.buys=r::l:=by
   cases hb:b.buys with
   |nil=>rw[hb]at c;exact absurd c (by decide)
   |cons r l=>exact⟨r,l,rfl⟩
  have e:b.best b.buys=(b.told r,true):=by rw[hl];rfl
  rw[e]
  refine⟨⟨by omega,by rw[hl,ySx];omega⟩,r.price,r.queue,elA (x:=r) (by rw[hl];rfl) (by simp[zC]) rfl,⟨b,r⟩,?_⟩
  exact kp
theorem yBj:best2C.ok Tryz.prog 49:=okw (V:=yJm) mixed (gokc zFa (gokc z2d gok0)) 0 (fun _=>[]) (fun _=>[]) [0] Tryz.func49 fun(b:Book) h=>by
 have h:b.cntOk:=h
 refine⟨2,rfl,trivial,fun _ _=>Cv.cnd.mk (fun c=>absurd c (by decide)) fun _=> ?_⟩
 simp only[ySh]
 refine Cv.cnd.mk (fun c=> ?_) (fun c=> ?_)
 ·have hl:b.sells=[]:=yTn (by have:(b.sells.length:Int)=0:=(by simpa using c);omega)
  have e:b.best b.sells=(⟨0,0,0⟩,false):=by rw[hl];rfl
  rw[e];exact kp
 ·obtain⟨r,l,hl⟩:∃r l,b.sells=r::l:=by
   cases hb:b.sells with
   |nil=>rw[hb]at c;exact absurd c (by decide)
   |cons r l=>exact⟨r,l,rfl⟩
  have e:b.best b.sells=(b.told r,true):=by rw[hl];rfl
  rw[e]
  refine⟨⟨by omega,by rw[hl,ySx];omega⟩,r.price,r.queue,elA (x:=r) (by rw[hl];rfl) (by simp[zC]) rfl,⟨b,r⟩,?_⟩
  exact kp
theorem zHx:bestC.ok Tryz.prog 49:=fun i=>match i with
 |⟨false,b⟩=>z9q b
 |⟨true,b⟩=>yBj b
theorem zJh {α:Type} (f:α→α) (x:α) (b:List α):∀a:List α,(a++x::b).modify a.length f=a++f x::b
 |[]=>rfl
 |y::a=>by
  show y::(a++x::b).modify a.length f=_
  rw[zJh f x b a];rfl
theorem zOe {els:List (List D)} {a b:List (List D)} {x y ds:List D} {j f:Nat} (h:els=a++x::b) (hl:a.length=j) (hy:x.take f++(ds++x.drop (f+ds.length))=y):z9 els j f ds=a++y::b:=by
 rw[z9,h,← hl,zJh,hy]
theorem qW {s:MSt} {j:Nat} {x y:Top} {f:Nat} {ds:List D} (hj:j<s.books.length) (hy:(zU x).take f++(ds++(zU x).drop (f+ds.length))=zU y):
 z9 (List.map zU (xZ s j x)) j f ds=List.map zU (xZ s j y):=by
 rw[zOe (a:=(s.tops.take j).map zU) (b:=(List.replicate (s.books.length-j-1) top0).map zU) (by rw[xZ,ySr,ySn]) (by
  rw[ySh,yTe,MSt.tops,ySh];omega) hy,xZ,ySr,ySn]
theorem zLw {s:MSt} {j:Nat} {x:Top} (hj:j<s.books.length):(xZ s j x).length=s.books.length:=by
 rw[xZ,ySm,ySx,yTe,MSt.tops,ySh,yUn];omega
theorem zGn {s:MSt} {j:Nat} (hj:j<s.books.length):xZ s j top0=x4 s j:=by
 rw[xZ,x4]
 obtain⟨m,hm⟩:∃m,s.books.length-j=m+1:=⟨s.books.length-j-1,by omega⟩
 rw[hm,yWm];rfl
theorem zHb {s:MSt} {j:Nat} {b:Book} (hb:s.books[j]? =some b):xZ s j b.top=x4 s (j+1):=by
 have hj:=(ySg.1 hb).1
 rw[xZ,x4,yUf,show s.tops[j]? =some b.top by rw[MSt.tops,yTy,hb];rfl]
 simp only[yWv,ySq,yTt,yUu]
 rw[show s.books.length-j-1=s.books.length-(j+1)by omega]
theorem fG {α:Type} {l:List α} {j:Nat} {x:α} (h:l[j]? =some x):l.set j x=l:=by
 obtain⟨hj,rfl⟩:=ySg.1 h
 exact List.set_getElem_self hj
theorem yPq (s:MSt) (h:topsC.cnd s):yHx s:=by
 obtain⟨h1,h2⟩:s.cntOk:=h
 unfold yHx zKu zBa uA qT wR qO zDn tN cW cV tP dE bE tT dB dH zW c9 uO dI
 have p48:(2:Int) ^ (48:Nat)=281474976710656:=by decide
 refine⟨⟨by omega,by omega,by omega,by rw[p48];omega⟩,0,rfl,?_,fun j=>j≤s.books.length,fun j=>s.books.length-j,by omega,fun j hj=>zK (fun hlt=> ?_) (fun hlt=> ?_)⟩
 ·rw[x4,ySr,yXw];rfl
 ·have hj':j<s.books.length:=by omega
  obtain⟨b,hb⟩:=z6 hj'
  have hc:=h2 b (ySo hb)
  simp only[ySt]
  have ha:∀x,(List.map zU (xZ s j x)).length=s.books.length:=fun x=>by rw[ySh,zLw hj']
  have w1:IntKind.i64.wrap (0+1)=1:=by decide
  have w2:(0+1) % ((2:Int) ^ IntKind.i64.bits).natAbs=1:=by decide
  refine⟨⟨by omega,by omega⟩,by omega,(j,top0),by rw[zGn hj'],fun x=>x=(j,top0.buy (b.best b.buys)),⟨⟨by decide,by decide⟩,1,rfl,b,hb,⟨false,b⟩,rfl,rfl,hc,fun _ _=>⟨b,rfl,kp,by omega,?_⟩⟩,?_⟩
  ·refine Cv.cnd.mk (fun c=> ?_) (fun c=> ?_)
   ·have c:(b.best b.buys).2=true:=c
    have e1:=qW (s:=s) hj' (x:=top0) (y:={top0 with has1:=true}) (f:=0+0+0*1) (ds:=[D.v (.bool true)]) rfl
    have e2:=qW (s:=s) hj' (x:={top0 with has1:=true}) (y:={top0 with has1:=true,p1:=(b.best b.buys).1.price}) (f:=0+2+0*1) (ds:=[D.v (.int .i64 (b.best b.buys).1.price)]) rfl
    have e3:=qW (s:=s) hj' (x:={top0 with has1:=true,p1:=(b.best b.buys).1.price}) (y:={top0 with has1:=true,p1:=(b.best b.buys).1.price,q1:=(b.best b.buys).1.qty}) (f:=0+4+0*1) (ds:=[D.v (.int .i64 (b.best b.buys).1.qty)]) rfl
    dsimp only
    simp only[show b.side false=b.buys from rfl,e1,e2,e3,ha]
    (repeat'(first|exact rfl|exact trivial|assumption|apply And.intro|refine fun(_:Unit) (_:True)=>?_|refine Exists.intro () ?_|omega|(dsimp only;omega)))
    refine⟨(j,{top0 with has1:=true,p1:=(b.best b.buys).1.price,q1:=(b.best b.buys).1.qty}),rfl,?_,?_⟩
    ·rw[Top.buy,ySf c]
    ·(repeat'(first|exact rfl|exact trivial|assumption|apply And.intro|refine fun(_:Unit) (_:True)=>?_|refine Exists.intro () ?_|omega|(dsimp only;omega)))
     rw[fG hb]
   ·have c:(b.best b.buys).2=false:=c
    refine⟨(j,top0),rfl,?_,?_⟩
    ·rw[Top.buy,ySe (by rw[c];simp)]
    ·(repeat'(first|exact rfl|exact trivial|assumption|apply And.intro|refine fun(_:Unit) (_:True)=>?_|refine Exists.intro () ?_|omega|(dsimp only;omega)))
     rw[fG hb]
  ·rintro _ rfl
   rw[w1]
   generalize hx:top0.buy (b.best b.buys)=x
   have hx2:b.top=x.sell (b.best b.sells):=by rw[Book.top,hx]
   refine⟨(j,x),rfl,fun y=>y=(j,b.top),⟨⟨by decide,by decide⟩,2,rfl,b,hb,⟨true,b⟩,rfl,rfl,hc,fun _ _=>⟨b,rfl,kp,by omega,?_⟩⟩,?_⟩
   ·refine Cv.cnd.mk (fun c=> ?_) (fun c=> ?_)
    ·have c:(b.best b.sells).2=true:=c
     have e1:=qW (s:=s) hj' (x:=x) (y:={x with has2:=true}) (f:=0+0+1*1) (ds:=[D.v (.bool true)]) rfl
     have e2:=qW (s:=s) hj' (x:={x with has2:=true}) (y:={x with has2:=true,p2:=(b.best b.sells).1.price}) (f:=0+2+1*1) (ds:=[D.v (.int .i64 (b.best b.sells).1.price)]) rfl
     have e3:=qW (s:=s) hj' (x:={x with has2:=true,p2:=(b.best b.sells).1.price}) (y:={x with has2:=true,p2:=(b.best b.sells).1.price,q2:=(b.best b.sells).1.qty}) (f:=0+4+1*1) (ds:=[D.v (.int .i64 (b.best b.sells).1.qty)]) rfl
     dsimp only
     simp only[w2,show b.side true=b.sells from rfl,e1,e2,e3,ha]
     (repeat'(first|exact rfl|exact trivial|assumption|apply And.intro|refine fun(_:Unit) (_:True)=>?_|refine Exists.intro () ?_|omega|(dsimp only;omega)))
     refine⟨(j,{x with has2:=true,p2:=(b.best b.sells).1.price,q2:=(b.best b.sells).1.qty}),rfl,?_,?_⟩
     ·rw[hx2,Top.sell,ySf c]
     ·(repeat'(first|exact rfl|exact trivial|assumption|apply And.intro|refine fun(_:Unit) (_:True)=>?_|refine Exists.intro () ?_|omega|(dsimp only;omega)))
      rw[fG hb]
    ·have c:(b.best b.sells).2=false:=c
     refine⟨(j,x),rfl,?_,?_⟩
     ·rw[hx2,Top.sell,ySe (by rw[c];simp)]
     ·(repeat'(first|exact rfl|exact trivial|assumption|apply And.intro|refine fun(_:Unit) (_:True)=>?_|refine Exists.intro () ?_|omega|(dsimp only;omega)))
      rw[fG hb]
   ·rintro _ rfl
    refine⟨j+1,by rw[w64 (by omega)];rfl,?_⟩
    refine⟨by dsimp only;rw[zHb hb],?_⟩
    exact kp
 ·have hj:j≤s.books.length:=hj
  obtain rfl:j=s.books.length:=by omega
  have e:x4 s s.books.length=s.tops:=by
   rw[x4,yXv,List.replicate_zero,yTg,ySz (by rw[MSt.tops,ySh];omega)]
  rw[e]
  exact kp
theorem yEs:topsC.ok Tryz.prog 23:=okw mixed (gokc zHx gok0) 0 (fun s=>yIx s) (fun s=>yIy s) [0] Tryz.func23 yPq
theorem zBs:copySC.ok Tryz.prog 48:=okw (V:=yKk) mixed (gokc yEu (gokc yDo gok0)) 0 (fun _=>[]) (fun s=>yLw s) [0] Tryz.func48 fun(s:MSt) h=>by
 obtain⟨h1,h2⟩:s.small:=h
 refine⟨zY s.wh,?_⟩;(repeat'(first|exact rfl|exact trivial|assumption|apply And.intro|refine fun(_:Unit) (_:True)=>?_|refine Exists.intro () ?_|omega|(dsimp only;omega)))
 refine⟨0,?_⟩;(repeat'(first|exact rfl|exact trivial|assumption|apply And.intro|refine fun(_:Unit) (_:True)=>?_|refine Exists.intro () ?_|omega|(dsimp only;omega)))
 refine⟨fun j=>j≤s.books.length,fun j=>s.books.length-j,by omega,fun j hj=>zK (fun hlt=> ?_) (fun hlt=> ?_)⟩
 ·obtain⟨b,hb⟩:=z6 (l:=s.books) (i:=j) (by omega)
  have hs:=h2 b (ySo hb)
  simp only[ySt]
  refine⟨⟨by omega,by omega⟩,by omega,b,hb,b,rfl,hs,fun _ _=>⟨b,rfl,kp,by omega,trivial,trivial,s.books.take j,rfl,?_,j+1,?_⟩⟩
  ·rw[yTe];omega
  ·rw[w64 (by omega),yUf,hb]
   (repeat'(first|exact rfl|exact trivial|assumption|apply And.intro|refine fun(_:Unit) (_:True)=>?_|refine Exists.intro () ?_|omega|(dsimp only;omega)))
   rw[fG hb]
 ·have hj:j≤s.books.length:=hj
  obtain rfl:j=s.books.length:=by omega
  rw[ySz (yTd _)]
  exact kp
open Go Cv Go.Proofs
structure Leg where
 inst:Int
 side:Int
 deriving DecidableEq
structure Quote where
 price:Int
 qty:Int
 a:Leg
 b:Leg
 deriving DecidableEq
def zJ (q:Quote):List D:=[.v (.int .i64 q.price),.v (.int .i64 q.qty),.v (.int .i64 q.a.inst),.v (.int .i64 q.a.side),.v (.int .i64 q.b.inst),.v (.int .i64 q.b.side)]
@[reducible] def zXv (q:Quote):V:= .agg [zA q.price,zA q.qty,zA q.a.inst,zA q.a.side,zA q.b.inst,zA q.b.side]
def yKp:Quote:=⟨0,0,⟨0,0⟩,⟨0,0⟩⟩
structure I3' where
 side:Int
 x:Int
 y:Int
def btr (side x y:Int):Bool:=if side=1 then decide (y<x)else decide (x<y)
def iotherC:Con:=con1 Int (fun n=>[zA n]) (fun _=>[]) (fun n=>n=1∨n=2) (fun n=>zA (3-n)) (fun _=>[])
def ibetterC:Con:=con1 I3' (fun i=>[zA i.side,zA i.x,zA i.y]) (fun _=>[]) (fun _=>True) (fun i=>yR (btr i.side i.x i.y)) (fun _=>[])
structure CrI where
 x:Int
 y:Int
 b:Bool
def crossC:Con:=con1 CrI (fun i=>[zA i.x,zA i.y,yR i.b]) (fun _=>[]) (fun _=>True) (fun i=>yR (i.b && decide (i.y≤i.x))) (fun _=>[])
def Top.has (t:Top) (s:Int):Bool:=if s=1 then t.has1 else t.has2
def Top.price (t:Top) (s:Int):Int:=if s=1 then t.p1 else t.p2
def Top.qty (t:Top) (s:Int):Int:=if s=1 then t.q1 else t.q2
def mkq (tops:List Top) (a b:Leg) (less:Bool):List Quote:=
 let x:=tops.getD a.inst.toNat top0
 let y:=tops.getD b.inst.toNat top0
 let r:=if less then uL (y.price b.side) (x.price a.side)else vZ (x.price a.side) (y.price b.side)
 if x.has a.side && y.has b.side && r.2 then[⟨r.1,min (x.qty a.side) (y.qty b.side),a,b⟩]else[]
structure MkI where
 tops:List Top
 out:List Quote
 a:Int
 b:Int
 less:Bool
@[reducible] def j0 (l:List Top):Prop:=l.length≤1000000∧∀t∈l,yY t.p1∧yY t.p2
def MkU (x:List Top×List Quote):Nat→AObj
 |0=> .cells [.own 1,.own 2] 110
 |1=> .fro 6 (x.1.map zU)
 |2=> .own 62 6 (x.2.map zJ)
 |_=> .gone
@[reducible] def MkR (tops:List Top) (out:List Quote):List AObj:=[MkU (tops,out) 0,MkU (tops,out) 1,MkU (tops,out) 2]
@[reducible] def MkP (tops:List Top) (out:List Quote):List AObj:=[.cells [.own 1,.own 3] 110,MkU (tops,out) 1,.gone,MkU (tops,out) 2]
def mkC (sa sb:Int):Con:=con1 MkI (fun i=>[.nm 0 0,.agg [zA i.a,zA sa],.agg [zA i.b,zA sb],yR i.less]) (fun i=>MkR i.tops i.out)
 (fun i=>0≤i.a∧i.a<i.tops.length∧0≤i.b∧i.b<i.tops.length∧j0 i.tops∧i.out.length≤1000) (fun _=>zTg) (fun i=>MkP i.tops (i.out++mkq i.tops ⟨i.a,sa⟩ ⟨i.b,sb⟩ i.less))
def mk11:Con:=mkC 1 1
def mk12:Con:=mkC 1 2
def mk21:Con:=mkC 2 1
def mk22:Con:=mkC 2 2
open Go Cv Go.Proofs
def yEo (n:Int):Prop:=
 ∃(o:Unit),3-n=IntKind.i64.wrap (3-n)∧True
def yCw (i:I3'):Prop:=
 cnd (i.side==1) (∃(o:Unit),btr i.side i.x i.y=decide (i.x>i.y)∧True) (∃(o:Unit),btr i.side i.x i.y=decide (i.x<i.y)∧True)
def yKe (i:CrI):Prop:=
 cnd i.b (∃(o:Unit),(i.b && decide (i.y≤i.x))=decide (i.x≥i.y)∧True) (∃(o:Unit),(i.b && decide (i.y≤i.x))=false∧True)
def sZ (a:MkI):=(a.out++mkq a.tops (Leg.mk a.a 1) (Leg.mk a.b 1) a.less)
def mK (a:MkI):Prop:=∃(b:Unit),AObj.fro 6 (List.map zU a.tops)=MkU (a.tops,a.out) 1∧List.map zJ (sZ a)=List.map zJ a.out∧True
def k8 (a:I2):Prop:=((-9223372036854775808)≤a.x∧a.x≤9223372036854775807)∧(-9223372036854775808)≤a.y∧a.y≤9223372036854775807
def qV (a:MkI):=(↑(List.map zU a.tops).length:Int)
def x6 (a:MkI):Prop:=(0≤a.b∧a.b<(qV a))∧a.b.toNat=a.b.toNat
def k7 (a:MkI):Prop:=(0≤a.a∧a.a<(qV a))∧a.a.toNat=a.a.toNat
def kZ (a:MkI):=((List.map zJ a.out).length+1)
def zIm (a:MkI) (b:Bool) (c:Bool) (d:Int) (e:Int) (f:Int) (g:Int):Prop:=True∧(x6 a)∧a.b=a.b∧True∧True∧(k7 a)∧a.a=a.a∧True∧True∧(x6 a)∧a.b=a.b∧True∧True∧(k7 a)∧a.a=a.a∧True∧True∧(x6 a)∧a.b=a.b∧True∧cnd (!b) (mK a) (cnd (!c) (mK a) (∃(h:I2),h.x=d∧h.y=e∧(k8 h)∧∀(j:Unit),True→cnd a.less (∃(k:I2),k.x=e∧k.y=d∧(k8 k)∧∀(l:Unit),True→cnd (uL k.x k.y).snd (True∧(kZ a)*(48:Nat)≤(70368744177664:Nat)∧∃(m:Unit),AObj.fro 6 (List.map zU a.tops)=MkU (a.tops,a.out) 1∧List.map zJ (sZ a)=List.map zJ a.out++[[dI ((uL k.x k.y).fst),dI (min f g),dI a.a,dI 1,dI a.b,dI 1]]∧True) (mK a)) (cnd (vZ h.x h.y).snd (True∧(kZ a)*(48:Nat)≤(70368744177664:Nat)∧∃(k:Unit),AObj.fro 6 (List.map zU a.tops)=MkU (a.tops,a.out) 1∧List.map zJ (sZ a)=List.map zJ a.out++[[dI ((vZ h.x h.y).fst),dI (min f g),dI a.a,dI 1,dI a.b,dI 1]]∧True) (mK a))))
def yJe (i:MkI):Prop:=
 (0≤i.a∧i.a<(qV i))∧∃(a:Bool),∃(b:Bool),∃(c:Int),∃(d:Int),∃(e:Int),∃(f:Int),zF (List.map zU i.tops) i.a.toNat 0 6=some [D.v (.bool a),D.v (.bool b),dI c,dI d,dI e,dI f]∧(0≤i.b∧i.b<(qV i))∧∃(g:Bool),∃(h:Bool),∃(j:Int),∃(k:Int),∃(l:Int),∃(m:Int),zF (List.map zU i.tops) i.b.toNat 0 6=some [D.v (.bool g),D.v (.bool h),dI j,dI k,dI l,dI m]∧(zIm i a g c j e l)∧zIm i a g c j e l
def tD (a:MkI):=(a.out++mkq a.tops (Leg.mk a.a 1) (Leg.mk a.b 2) a.less)
def mO (a:MkI):Prop:=∃(b:Unit),AObj.fro 6 (List.map zU a.tops)=MkU (a.tops,a.out) 1∧List.map zJ (tD a)=List.map zJ a.out∧True
def zIf (a:MkI) (b:Bool) (c:Bool) (d:Int) (e:Int) (f:Int) (g:Int):Prop:=True∧(x6 a)∧a.b=a.b∧True∧True∧(k7 a)∧a.a=a.a∧True∧True∧(x6 a)∧a.b=a.b∧True∧True∧(k7 a)∧a.a=a.a∧True∧True∧(x6 a)∧a.b=a.b∧True∧cnd (!b) (mO a) (cnd (!c) (mO a) (∃(h:I2),h.x=d∧h.y=e∧(k8 h)∧∀(j:Unit),True→cnd a.less (∃(k:I2),k.x=e∧k.y=d∧(k8 k)∧∀(l:Unit),True→cnd (uL k.x k.y).snd (True∧(kZ a)*(48:Nat)≤(70368744177664:Nat)∧∃(m:Unit),AObj.fro 6 (List.map zU a.tops)=MkU (a.tops,a.out) 1∧List.map zJ (tD a)=List.map zJ a.out++[[dI ((uL k.x k.y).fst),dI (min f g),dI a.a,dI 1,dI a.b,dI 2]]∧True) (mO a)) (cnd (vZ h.x h.y).snd (True∧(kZ a)*(48:Nat)≤(70368744177664:Nat)∧∃(k:Unit),AObj.fro 6 (List.map zU a.tops)=MkU (a.tops,a.out) 1∧List.map zJ (tD a)=List.map zJ a.out++[[dI ((vZ h.x h.y).fst),dI (min f g),dI a.a,dI 1,dI a.b,dI 2]]∧True) (mO a))))
def yIs (i:MkI):Prop:=
 (0≤i.a∧i.a<(qV i))∧∃(a:Bool),∃(b:Bool),∃(c:Int),∃(d:Int),∃(e:Int),∃(f:Int),zF (List.map zU i.tops) i.a.toNat 0 6=some [D.v (.bool a),D.v (.bool b),dI c,dI d,dI e,dI f]∧(0≤i.b∧i.b<(qV i))∧∃(g:Bool),∃(h:Bool),∃(j:Int),∃(k:Int),∃(l:Int),∃(m:Int),zF (List.map zU i.tops) i.b.toNat 0 6=some [D.v (.bool g),D.v (.bool h),dI j,dI k,dI l,dI m]∧(zIf i a h c k e m)∧zIf i a h c k e m
def eH (a:MkI):=(a.out++mkq a.tops (Leg.mk a.a 2) (Leg.mk a.b 1) a.less)
def a8 (a:MkI):Prop:=∃(b:Unit),AObj.fro 6 (List.map zU a.tops)=MkU (a.tops,a.out) 1∧List.map zJ (eH a)=List.map zJ a.out∧True
def zKw (a:MkI) (b:Bool) (c:Bool) (d:Int) (e:Int) (f:Int) (g:Int):Prop:=True∧(x6 a)∧a.b=a.b∧True∧True∧(k7 a)∧a.a=a.a∧True∧True∧(x6 a)∧a.b=a.b∧True∧True∧(k7 a)∧a.a=a.a∧True∧True∧(x6 a)∧a.b=a.b∧True∧cnd (!b) (a8 a) (cnd (!c) (a8 a) (∃(h:I2),h.x=d∧h.y=e∧(k8 h)∧∀(j:Unit),True→cnd a.less (∃(k:I2),k.x=e∧k.y=d∧(k8 k)∧∀(l:Unit),True→cnd (uL k.x k.y).snd (True∧(kZ a)*(48:Nat)≤(70368744177664:Nat)∧∃(m:Unit),AObj.fro 6 (List.map zU a.tops)=MkU (a.tops,a.out) 1∧List.map zJ (eH a)=List.map zJ a.out++[[dI ((uL k.x k.y).fst),dI (min f g),dI a.a,dI 2,dI a.b,dI 1]]∧True) (a8 a)) (cnd (vZ h.x h.y).snd (True∧(kZ a)*(48:Nat)≤(70368744177664:Nat)∧∃(k:Unit),AObj.fro 6 (List.map zU a.tops)=MkU (a.tops,a.out) 1∧List.map zJ (eH a)=List.map zJ a.out++[[dI ((vZ h.x h.y).fst),dI (min f g),dI a.a,dI 2,dI a.b,dI 1]]∧True) (a8 a))))
def yJc (i:MkI):Prop:=
 (0≤i.a∧i.a<(qV i))∧∃(a:Bool),∃(b:Bool),∃(c:Int),∃(d:Int),∃(e:Int),∃(f:Int),zF (List.map zU i.tops) i.a.toNat 0 6=some [D.v (.bool a),D.v (.bool b),dI c,dI d,dI e,dI f]∧(0≤i.b∧i.b<(qV i))∧∃(g:Bool),∃(h:Bool),∃(j:Int),∃(k:Int),∃(l:Int),∃(m:Int),zF (List.map zU i.tops) i.b.toNat 0 6=some [D.v (.bool g),D.v (.bool h),dI j,dI k,dI l,dI m]∧(zKw i b g d j f l)∧zKw i b g d j f l
def tW (a:MkI):=(a.out++mkq a.tops (Leg.mk a.a 2) (Leg.mk a.b 2) a.less)
def mL (a:MkI):Prop:=∃(b:Unit),AObj.fro 6 (List.map zU a.tops)=MkU (a.tops,a.out) 1∧List.map zJ (tW a)=List.map zJ a.out∧True
def zJw (a:MkI) (b:Bool) (c:Bool) (d:Int) (e:Int) (f:Int) (g:Int):Prop:=True∧(x6 a)∧a.b=a.b∧True∧True∧(k7 a)∧a.a=a.a∧True∧True∧(x6 a)∧a.b=a.b∧True∧True∧(k7 a)∧a.a=a.a∧True∧True∧(x6 a)∧a.b=a.b∧True∧cnd (!b) (mL a) (cnd (!c) (mL a) (∃(h:I2),h.x=d∧h.y=e∧(k8 h)∧∀(j:Unit),True→cnd a.less (∃(k:I2),k.x=e∧k.y=d∧(k8 k)∧∀(l:Unit),True→cnd (uL k.x k.y).snd (True∧(kZ a)*(48:Nat)≤(70368744177664:Nat)∧∃(m:Unit),AObj.fro 6 (List.map zU a.tops)=MkU (a.tops,a.out) 1∧List.map zJ (tW a)=List.map zJ a.out++[[dI ((uL k.x k.y).fst),dI (min f g),dI a.a,dI 2,dI a.b,dI 2]]∧True) (mL a)) (cnd (vZ h.x h.y).snd (True∧(kZ a)*(48:Nat)≤(70368744177664:Nat)∧∃(k:Unit),AObj.fro 6 (List.map zU a.tops)=MkU (a.tops,a.out) 1∧List.map zJ (tW a)=List.map zJ a.out++[[dI ((vZ h.x h.y).fst),dI (min f g),dI a.a,dI 2,dI a.b,dI 2]]∧True) (mL a))))
def yHw (i:MkI):Prop:=
 (0≤i.a∧i.a<(qV i))∧∃(a:Bool),∃(b:Bool),∃(c:Int),∃(d:Int),∃(e:Int),∃(f:Int),zF (List.map zU i.tops) i.a.toNat 0 6=some [D.v (.bool a),D.v (.bool b),dI c,dI d,dI e,dI f]∧(0≤i.b∧i.b<(qV i))∧∃(g:Bool),∃(h:Bool),∃(j:Int),∃(k:Int),∃(l:Int),∃(m:Int),zF (List.map zU i.tops) i.b.toNat 0 6=some [D.v (.bool g),D.v (.bool h),dI j,dI k,dI l,dI m]∧(zJw i b h d k f m)∧zJw i b h d k f m
open Go Cv Go.Proofs
theorem zNm:iotherC.ok Tryz.prog 52:=okw (V:=yEo) mixed gok0 0 (fun _=>[]) (fun _=>[]) [] Tryz.func52 fun(n:Int) h=>by
 have h:n=1∨n=2:=h
 refine⟨(),?_,trivial⟩
 rw[w64 (by omega)]
theorem zZq:ibetterC.ok Tryz.prog 94:=okw (V:=yCw) mixed gok0 0 (fun _=>[]) (fun _=>[]) [] Tryz.func94 fun(i:I3') _=>by
 refine Cv.cnd.mk (fun e=>⟨(),?_,trivial⟩) (fun e=>⟨(),?_,trivial⟩)
 ·have e:i.side=1:=by simpa using e
  simp[btr,e]
 ·have e:i.side≠1:=by simpa using e
  simp[btr,e]
theorem z8b:crossC.ok Tryz.prog 65:=okw (V:=yKe) mixed gok0 0 (fun _=>[]) (fun _=>[]) [] Tryz.func65 fun(i:CrI) _=>by
 refine Cv.cnd.mk (fun e=>⟨(),?_,trivial⟩) (fun e=>⟨(),?_,trivial⟩)
 ·have e:i.b=true:=e
  rw[e,yTm]
 ·have e:i.b=false:=e
  rw[e,yTz]
theorem yFh (a b:Int):(if b<a then b else a)=min a b:=by split<;>omega
theorem yOl (i:MkI) (h:mk11.cnd i):yJe i:=by
 obtain⟨a0,a1,b0,b1,⟨ht,hp⟩,ho⟩:0≤i.a∧i.a<i.tops.length∧0≤i.b∧i.b<i.tops.length∧j0 i.tops∧i.out.length≤1000:=h
 obtain⟨x,hx⟩:=z6 (l:=i.tops) (i:=i.a.toNat) (by omega)
 obtain⟨y,hy⟩:=z6 (l:=i.tops) (i:=i.b.toNat) (by omega)
 obtain⟨⟨px1,px2⟩,px3,px4⟩:=hp x (ySo hx)
 obtain⟨⟨py1,py2⟩,py3,py4⟩:=hp y (ySo hy)
 have e0:mkq i.tops ⟨i.a,1⟩ ⟨i.b,1⟩ i.less=if x.has1 && y.has1 && (if i.less then uL y.p1 x.p1 else vZ x.p1 y.p1).2 then[⟨(if i.less then uL y.p1 x.p1 else vZ x.p1 y.p1).1,min x.q1 y.q1,⟨i.a,1⟩,⟨i.b,1⟩⟩]else[]:=by
  simp only[mkq,ySi,hx,hy,yUj];rfl
 unfold yJe zIm kZ k7 x6 qV k8 mK sZ dI
 simp only[ySh]
 refine⟨⟨by omega,by omega⟩,x.has1,x.has2,x.p1,x.p2,x.q1,x.q2,elA hx (by simp[zU]) rfl,⟨by omega,by omega⟩,y.has1,y.has2,y.p1,y.p2,y.q1,y.q2,elA hy (by simp[zU]) rfl,?_⟩
 rw[e0]
 (repeat'(first|exact rfl|exact trivial|assumption|apply And.intro|refine fun(_:Unit) (_:True)=>?_|refine Exists.intro () ?_|omega|(dsimp only;omega)))
 all_goals
  refine Cv.cnd.mk (fun c1=> ?_) (fun c1=>Cv.cnd.mk (fun c2=> ?_) (fun c2=> ?_))
  ·have c1:x.has1=false:=by simpa using c1
   simp only[c1,yTz,ySu,if_false,yTg];exact kp
  ·have c2:y.has1=false:=by simpa using c2
   simp only[c2,yWw,yTz,ySu,if_false,yTg];exact kp
  ·have c1:x.has1=true:=by simpa using c1
   have c2:y.has1=true:=by simpa using c2
   simp only[c1,c2,yTm,yFh]
   refine⟨⟨x.p1,y.p1⟩,?_⟩
   (repeat'(first|exact rfl|exact trivial|assumption|apply And.intro|refine fun(_:Unit) (_:True)=>?_|refine Exists.intro () ?_|omega|(dsimp only;omega)))
   refine Cv.cnd.mk (fun c3=> ?_) (fun c3=> ?_)
   ·have c3:i.less=true:=c3
    simp only[c3,if_true]
    refine⟨⟨y.p1,x.p1⟩,?_⟩
    (repeat'(first|exact rfl|exact trivial|assumption|apply And.intro|refine fun(_:Unit) (_:True)=>?_|refine Exists.intro () ?_|omega|(dsimp only;omega)))
    refine Cv.cnd.mk (fun c4=> ?_) (fun c4=> ?_)
    ·have c4:(uL y.p1 x.p1).2=true:=c4
     simp only[c4,if_true,ySr];exact kp
    ·have c4:(uL y.p1 x.p1).2=false:=c4
     simp only[c4,ySu,if_false,yTg];exact kp
   ·have c3:i.less=false:=c3
    simp only[c3,ySu,if_false]
    refine Cv.cnd.mk (fun c4=> ?_) (fun c4=> ?_)
    ·have c4:(vZ x.p1 y.p1).2=true:=c4
     simp only[c4,if_true,ySr];exact kp
    ·have c4:(vZ x.p1 y.p1).2=false:=c4
     simp only[c4,ySu,if_false,yTg];exact kp
theorem yGm:mk11.ok Tryz.prog 53:=okw mixed (gokc zSd (gokc zRw gok0)) 0 (fun _=>[]) (fun _=>[]) [] Tryz.func53 yOl
theorem yQi (i:MkI) (h:mk12.cnd i):yIs i:=by
 obtain⟨a0,a1,b0,b1,⟨ht,hp⟩,ho⟩:0≤i.a∧i.a<i.tops.length∧0≤i.b∧i.b<i.tops.length∧j0 i.tops∧i.out.length≤1000:=h
 obtain⟨x,hx⟩:=z6 (l:=i.tops) (i:=i.a.toNat) (by omega)
 obtain⟨y,hy⟩:=z6 (l:=i.tops) (i:=i.b.toNat) (by omega)
 obtain⟨⟨px1,px2⟩,px3,px4⟩:=hp x (ySo hx)
 obtain⟨⟨py1,py2⟩,py3,py4⟩:=hp y (ySo hy)
 have e0:mkq i.tops ⟨i.a,1⟩ ⟨i.b,2⟩ i.less=if x.has1 && y.has2 && (if i.less then uL y.p2 x.p1 else vZ x.p1 y.p2).2 then[⟨(if i.less then uL y.p2 x.p1 else vZ x.p1 y.p2).1,min x.q1 y.q2,⟨i.a,1⟩,⟨i.b,2⟩⟩]else[]:=by
  simp only[mkq,ySi,hx,hy,yUj];rfl
 unfold yIs zIf mO tD kZ k7 x6 k8 qV dI
 simp only[ySh]
 refine⟨⟨by omega,by omega⟩,x.has1,x.has2,x.p1,x.p2,x.q1,x.q2,elA hx (by simp[zU]) rfl,⟨by omega,by omega⟩,y.has1,y.has2,y.p1,y.p2,y.q1,y.q2,elA hy (by simp[zU]) rfl,?_⟩
 rw[e0]
 (repeat'(first|exact rfl|exact trivial|assumption|apply And.intro|refine fun(_:Unit) (_:True)=>?_|refine Exists.intro () ?_|omega|(dsimp only;omega)))
 all_goals
  refine Cv.cnd.mk (fun c1=> ?_) (fun c1=>Cv.cnd.mk (fun c2=> ?_) (fun c2=> ?_))
  ·have c1:x.has1=false:=by simpa using c1
   simp only[c1,yTz,ySu,if_false,yTg];exact kp
  ·have c2:y.has2=false:=by simpa using c2
   simp only[c2,yWw,yTz,ySu,if_false,yTg];exact kp
  ·have c1:x.has1=true:=by simpa using c1
   have c2:y.has2=true:=by simpa using c2
   simp only[c1,c2,yTm,yFh]
   refine⟨⟨x.p1,y.p2⟩,?_⟩
   (repeat'(first|exact rfl|exact trivial|assumption|apply And.intro|refine fun(_:Unit) (_:True)=>?_|refine Exists.intro () ?_|omega|(dsimp only;omega)))
   refine Cv.cnd.mk (fun c3=> ?_) (fun c3=> ?_)
   ·have c3:i.less=true:=c3
    simp only[c3,if_true]
    refine⟨⟨y.p2,x.p1⟩,?_⟩
    (repeat'(first|exact rfl|exact trivial|assumption|apply And.intro|refine fun(_:Unit) (_:True)=>?_|refine Exists.intro () ?_|omega|(dsimp only;omega)))
    refine Cv.cnd.mk (fun c4=> ?_) (fun c4=> ?_)
    ·have c4:(uL y.p2 x.p1).2=true:=c4
     simp only[c4,if_true,ySr];exact kp
    ·have c4:(uL y.p2 x.p1).2=false:=c4
     simp only[c4,ySu,if_false,yTg];exact kp
   ·have c3:i.less=false:=c3
    simp only[c3,ySu,if_false]
    refine Cv.cnd.mk (fun c4=> ?_) (fun c4=> ?_)
    ·have c4:(vZ x.p1 y.p2).2=true:=c4
     simp only[c4,if_true,ySr];exact kp
    ·have c4:(vZ x.p1 y.p2).2=false:=c4
     simp only[c4,ySu,if_false,yTg];exact kp
theorem yGa:mk12.ok Tryz.prog 53:=okw mixed (gokc zSd (gokc zRw gok0)) 0 (fun _=>[]) (fun _=>[]) [] Tryz.func53 yQi
theorem yPs (i:MkI) (h:mk21.cnd i):yJc i:=by
 obtain⟨a0,a1,b0,b1,⟨ht,hp⟩,ho⟩:0≤i.a∧i.a<i.tops.length∧0≤i.b∧i.b<i.tops.length∧j0 i.tops∧i.out.length≤1000:=h
 obtain⟨x,hx⟩:=z6 (l:=i.tops) (i:=i.a.toNat) (by omega)
 obtain⟨y,hy⟩:=z6 (l:=i.tops) (i:=i.b.toNat) (by omega)
 obtain⟨⟨px1,px2⟩,px3,px4⟩:=hp x (ySo hx)
 obtain⟨⟨py1,py2⟩,py3,py4⟩:=hp y (ySo hy)
 have e0:mkq i.tops ⟨i.a,2⟩ ⟨i.b,1⟩ i.less=if x.has2 && y.has1 && (if i.less then uL y.p1 x.p2 else vZ x.p2 y.p1).2 then[⟨(if i.less then uL y.p1 x.p2 else vZ x.p2 y.p1).1,min x.q2 y.q1,⟨i.a,2⟩,⟨i.b,1⟩⟩]else[]:=by
  simp only[mkq,ySi,hx,hy,yUj];rfl
 unfold yJc zKw a8 eH kZ k7 x6 k8 qV dI
 simp only[ySh]
 refine⟨⟨by omega,by omega⟩,x.has1,x.has2,x.p1,x.p2,x.q1,x.q2,elA hx (by simp[zU]) rfl,⟨by omega,by omega⟩,y.has1,y.has2,y.p1,y.p2,y.q1,y.q2,elA hy (by simp[zU]) rfl,?_⟩
 rw[e0]
 (repeat'(first|exact rfl|exact trivial|assumption|apply And.intro|refine fun(_:Unit) (_:True)=>?_|refine Exists.intro () ?_|omega|(dsimp only;omega)))
 all_goals
  refine Cv.cnd.mk (fun c1=> ?_) (fun c1=>Cv.cnd.mk (fun c2=> ?_) (fun c2=> ?_))
  ·have c1:x.has2=false:=by simpa using c1
   simp only[c1,yTz,ySu,if_false,yTg];exact kp
  ·have c2:y.has1=false:=by simpa using c2
   simp only[c2,yWw,yTz,ySu,if_false,yTg];exact kp
  ·have c1:x.has2=true:=by simpa using c1
   have c2:y.has1=true:=by simpa using c2
   simp only[c1,c2,yTm,yFh]
   refine⟨⟨x.p2,y.p1⟩,?_⟩
   (repeat'(first|exact rfl|exact trivial|assumption|apply And.intro|refine fun(_:Unit) (_:True)=>?_|refine Exists.intro () ?_|omega|(dsimp only;omega)))
   refine Cv.cnd.mk (fun c3=> ?_) (fun c3=> ?_)
   ·have c3:i.less=true:=c3
    simp only[c3,if_true]
    refine⟨⟨y.p1,x.p2⟩,?_⟩
    (repeat'(first|exact rfl|exact trivial|assumption|apply And.intro|refine fun(_:Unit) (_:True)=>?_|refine Exists.intro () ?_|omega|(dsimp only;omega)))
    refine Cv.cnd.mk (fun c4=> ?_) (fun c4=> ?_)
    ·have c4:(uL y.p1 x.p2).2=true:=c4
     simp only[c4,if_true,ySr];exact kp
    ·have c4:(uL y.p1 x.p2).2=false:=c4
     simp only[c4,ySu,if_false,yTg];exact kp
   ·have c3:i.less=false:=c3
    simp only[c3,ySu,if_false]
    refine Cv.cnd.mk (fun c4=> ?_) (fun c4=> ?_)
    ·have c4:(vZ x.p2 y.p1).2=true:=c4
     simp only[c4,if_true,ySr];exact kp
    ·have c4:(vZ x.p2 y.p1).2=false:=c4
     simp only[c4,ySu,if_false,yTg];exact kp
theorem yGs:mk21.ok Tryz.prog 53:=okw mixed (gokc zSd (gokc zRw gok0)) 0 (fun _=>[]) (fun _=>[]) [] Tryz.func53 yPs
theorem yOs (i:MkI) (h:mk22.cnd i):yHw i:=by
 obtain⟨a0,a1,b0,b1,⟨ht,hp⟩,ho⟩:0≤i.a∧i.a<i.tops.length∧0≤i.b∧i.b<i.tops.length∧j0 i.tops∧i.out.length≤1000:=h
 obtain⟨x,hx⟩:=z6 (l:=i.tops) (i:=i.a.toNat) (by omega)
 obtain⟨y,hy⟩:=z6 (l:=i.tops) (i:=i.b.toNat) (by omega)
 obtain⟨⟨px1,px2⟩,px3,px4⟩:=hp x (ySo hx)
 obtain⟨⟨py1,py2⟩,py3,py4⟩:=hp y (ySo hy)
 have e0:mkq i.tops ⟨i.a,2⟩ ⟨i.b,2⟩ i.less=if x.has2 && y.has2 && (if i.less then uL y.p2 x.p2 else vZ x.p2 y.p2).2 then[⟨(if i.less then uL y.p2 x.p2 else vZ x.p2 y.p2).1,min x.q2 y.q2,⟨i.a,2⟩,⟨i.b,2⟩⟩]else[]:=by
  simp only[mkq,ySi,hx,hy,yUj];rfl
 unfold yHw zJw mL tW kZ k7 x6 k8 qV dI
 simp only[ySh]
 refine⟨⟨by omega,by omega⟩,x.has1,x.has2,x.p1,x.p2,x.q1,x.q2,elA hx (by simp[zU]) rfl,⟨by omega,by omega⟩,y.has1,y.has2,y.p1,y.p2,y.q1,y.q2,elA hy (by simp[zU]) rfl,?_⟩
 rw[e0]
 (repeat'(first|exact rfl|exact trivial|assumption|apply And.intro|refine fun(_:Unit) (_:True)=>?_|refine Exists.intro () ?_|omega|(dsimp only;omega)))
 all_goals
  refine Cv.cnd.mk (fun c1=> ?_) (fun c1=>Cv.cnd.mk (fun c2=> ?_) (fun c2=> ?_))
  ·have c1:x.has2=false:=by simpa using c1
   simp only[c1,yTz,ySu,if_false,yTg];exact kp
  ·have c2:y.has2=false:=by simpa using c2
   simp only[c2,yWw,yTz,ySu,if_false,yTg];exact kp
  ·have c1:x.has2=true:=by simpa using c1
   have c2:y.has2=true:=by simpa using c2
   simp only[c1,c2,yTm,yFh]
   refine⟨⟨x.p2,y.p2⟩,?_⟩
   (repeat'(first|exact rfl|exact trivial|assumption|apply And.intro|refine fun(_:Unit) (_:True)=>?_|refine Exists.intro () ?_|omega|(dsimp only;omega)))
   refine Cv.cnd.mk (fun c3=> ?_) (fun c3=> ?_)
   ·have c3:i.less=true:=c3
    simp only[c3,if_true]
    refine⟨⟨y.p2,x.p2⟩,?_⟩
    (repeat'(first|exact rfl|exact trivial|assumption|apply And.intro|refine fun(_:Unit) (_:True)=>?_|refine Exists.intro () ?_|omega|(dsimp only;omega)))
    refine Cv.cnd.mk (fun c4=> ?_) (fun c4=> ?_)
    ·have c4:(uL y.p2 x.p2).2=true:=c4
     simp only[c4,if_true,ySr];exact kp
    ·have c4:(uL y.p2 x.p2).2=false:=c4
     simp only[c4,ySu,if_false,yTg];exact kp
   ·have c3:i.less=false:=c3
    simp only[c3,ySu,if_false]
    refine Cv.cnd.mk (fun c4=> ?_) (fun c4=> ?_)
    ·have c4:(vZ x.p2 y.p2).2=true:=c4
     simp only[c4,if_true,ySr];exact kp
    ·have c4:(vZ x.p2 y.p2).2=false:=c4
     simp only[c4,ySu,if_false,yTg];exact kp
theorem yGw:mk22.ok Tryz.prog 53:=okw mixed (gokc zSd (gokc zRw gok0)) 0 (fun _=>[]) (fun _=>[]) [] Tryz.func53 yOs
open Go Cv Go.Proofs
structure MkJ where
 i:MkI
 sa:Bool
 sb:Bool
def mkAnyC:Con:=con1 MkJ (fun j=>[.nm 0 0,.agg [zA j.i.a,zA (zB j.sa)],.agg [zA j.i.b,zA (zB j.sb)],yR j.i.less]) (fun j=>MkR j.i.tops j.i.out)
 (fun j=>0≤j.i.a∧j.i.a<j.i.tops.length∧0≤j.i.b∧j.i.b<j.i.tops.length∧j0 j.i.tops∧j.i.out.length≤1000) (fun _=>zTg) (fun j=>MkP j.i.tops (j.i.out++mkq j.i.tops ⟨j.i.a,zB j.sa⟩ ⟨j.i.b,zB j.sb⟩ j.i.less))
theorem zUt:mkAnyC.ok Tryz.prog 53:=fun j=>match j with
 |⟨i,false,false⟩=>yGm i
 |⟨i,false,true⟩=>yGa i
 |⟨i,true,false⟩=>yGs i
 |⟨i,true,true⟩=>yGw i
structure dN where
 p:Prd
 tops:List Top
 inst:Int
def qX (i:dN) (s:Int) (k:Nat):List Quote:=(List.range k).flatMap fun(k:Nat)=>mkq i.tops ⟨(i.p.spread i.inst (i.inst+1+k)).1,s⟩ ⟨i.inst+1+k,s⟩ false
def kB (i:dN) (s:Int) (k:Nat):List Quote:=(List.range k).flatMap fun(k:Nat)=>mkq i.tops ⟨(i.p.spread k i.inst).1,3-s⟩ ⟨k,s⟩ true
def yM (i:dN) (s:Int):List Quote:=mkq i.tops ⟨(i.p.legs i.inst).2.1,3-s⟩ ⟨(i.p.legs i.inst).1,s⟩ true
def fS (i:dN) (s:Int) (q:Quote):Quote:={q with a:=⟨(i.p.legs i.inst).1,s⟩,b:=⟨(i.p.legs i.inst).2.1,3-s⟩}
def qC (i:dN) (s:Int):List Quote:=
 if i.p.count=0∨(i.tops.length:Int)≠i.p.count∨i.inst<0∨(i.p.count:Int)≤i.inst then[]
 else if(i.p.legs i.inst).2.2 then(yM i s).map (fS i s)
 else qX i s (i.p.months.length-(i.inst.toNat+1))++kB i s i.inst.toNat
def yIk (s:Int):Con:=con1 dN (fun i=>[prdV i.p,roV 6 (i.tops.map zU),zA i.inst,zA s]) (fun _=>[]) (fun i=>i.p.small∧j0 i.tops) (fun _=> .own 0) (fun i=>[.own 62 6 ((qC i s).map zJ)])
def all1C:Con:=yIk 1
def all2C:Con:=yIk 2
def yPv (i:dN) (s:Int):List SAnn:=[
 {ι:=Nat,slots:=fun k=>[(10,.nm 0 0),(77,zA k)],rows:=fun k=>(List.range 3).map (MkU (i.tops,((yM i s).take k).map (fS i s)++(yM i s).drop k))},
 {ι:=Nat,slots:=fun k=>[(10,.nm 0 0),(17,zA (i.inst+1+k))],rows:=fun k=>MkR i.tops (qX i s k)},
 {ι:=Nat,slots:=fun k=>[(10,.nm 0 0),(120,zA k)],rows:=fun k=>MkR i.tops (qX i s (i.p.months.length-(i.inst.toNat+1))++kB i s k)}]
structure rM where
 i:dN
 s:Bool
def allC:Con:=con1 rM (fun j=>[prdV j.i.p,roV 6 (j.i.tops.map zU),zA j.i.inst,zA (zB j.s)]) (fun _=>[]) (fun j=>j.i.p.small∧j0 j.i.tops) (fun _=> .own 0) (fun j=>[.own 62 6 ((qC j.i (zB j.s)).map zJ)])
def yL (i:dN) (s:Int):List Quote:=(qC i s).filter fun q=>decide (i.p.price i.inst q.price=0)
def quotesC:Con:=con1 rM (fun j=>[prdV j.i.p,roV 6 (j.i.tops.map zU),zA j.i.inst,zA (zB j.s)]) (fun _=>[]) (fun j=>j.i.p.small∧j0 j.i.tops) (fun _=> .own 0) (fun j=>[.own 62 6 ((yL j.i (zB j.s)).map zJ)])
def yFf (j:rM):List SAnn:=[{ι:=Nat,slots:=fun k=>[(9,.own 0),(18,zA k)],rows:=fun k=>[.own 62 6 ((((qC j.i (zB j.s)).take k).filter fun q=>decide (j.i.p.price j.i.inst q.price=0)).map zJ)]}]
structure BsI where
 l:List Quote
 s:Int
def yD (l:List Quote) (s:Int):Quote×Bool:=match l with
 |[]=>(yKp,false)
 |q::r=>(r.foldl (fun b q=>if btr s q.price b.price then q else b) q,true)
def bestQC:Con:=con1 BsI (fun i=>[roV 6 (i.l.map zJ),zA i.s]) (fun _=>[]) (fun i=>(i.s=1∨i.s=2)∧i.l.length≤1000000) (fun i=> .tup [zXv (yD i.l i.s).1,yR (yD i.l i.s).2]) (fun _=>[])
def yMh (i:BsI):List SAnn:=[{ι:=Nat,slots:=fun k=>[(6,.nm 0 0),(26,zA k)],rows:=fun k=>[.cells (zXv (yD (i.l.take (max k 1)) i.s).1).cl 62]}]
open Go Cv Go.Proofs
def mM (a:dN):Prop:=AObj.fro 6 (List.map zU a.tops)=AObj.fro 6 (List.map zU a.tops)∧Sx.AObj.cells [V.d (D.v (Value.string (sb a.p.code))),V.own 0,V.d (dI a.p.tick),V.d (dI a.p.low),V.d (dI a.p.high),V.d (dI a.p.wide),V.d (dI a.p.rule),V.d (dI a.p.top),V.d (dI a.p.least),V.d (dI a.p.part),V.own ((0:Nat)+(1:Nat))] 29=Sx.AObj.cells [V.d (D.v (Value.string (sb a.p.code))),V.own 0,V.d (dI a.p.tick),V.d (dI a.p.low),V.d (dI a.p.high),V.d (dI a.p.wide),V.d (dI a.p.rule),V.d (dI a.p.top),V.d (dI a.p.least),V.d (dI a.p.part),V.own ((0:Nat)+(1:Nat))] 29∧AObj.fro 1 (iE a.p.settle)=AObj.fro 1 (iE a.p.settle)∧AObj.fro 1 (iE a.p.months)=AObj.fro 1 (iE a.p.months)
def zBf (a:Nat→Prop) (b:Nat) (c:Nat→Nat) (d:Nat) (e:dN):Prop:=a b∧c b<c d∧AObj.fro 6 (List.map zU e.tops)=AObj.fro 6 (List.map zU e.tops)∧mM e
def zDb (a:Nat→Prop) (b:Nat) (c:Nat→Nat) (d:Nat) (e:dN):Prop:=a b∧c b<c d∧mM e
def wO (a:Top):Prop:=((-9223372036854775808)≤a.p1∧a.p1≤9223372036854775807)∧(-9223372036854775808)≤a.p2∧a.p2≤9223372036854775807
def gZ (a:MkJ):Prop:=0≤a.i.a∧a.i.a<(↑a.i.tops.length:Int)∧0≤a.i.b∧a.i.b<(↑a.i.tops.length:Int)∧(a.i.tops.length≤1000000∧∀(b:Top),b∈a.i.tops→wO b)∧a.i.out.length≤1000
def uE (a:MkJ):=(a.i.out++mkq a.i.tops (Leg.mk a.i.a (zB a.sa)) (Leg.mk a.i.b (zB a.sb)) a.i.less)
def sX (a:Nat) (b:MkJ):=(decide ((↑a:Int)<(↑(List.map zJ (uE b)).length:Int)))
def x7 (a:rB):Prop:=a.p.code.length≤1099511627776∧a.p.months.length≤1099511627776∧a.p.settle.length≤1099511627776
def qR (a:f9):Prop:=a.p.code.length≤1099511627776∧a.p.months.length≤1099511627776∧a.p.settle.length≤1099511627776
def mR (a:dN) (b:Nat):=(List.map (fS a 1) (List.take b (yM a 1))++List.drop b (yM a 1))
def tR (a:dN) (b:Nat):=(List.map zJ (mR a b))
def mX (a:dN) (b:Nat):=(qX a 1 (a.p.months.length-(a.inst.toNat+1))++kB a 1 b)
def wQ (a:f9):=((a.p.legs a.n).snd.fst)
def yHv (i:dN):Prop:=
 ∃(a:Prd),sb a.code=sb i.p.code∧iE a.months=iE i.p.months∧a.tick=i.p.tick∧a.low=i.p.low∧a.high=i.p.high∧a.wide=i.p.wide∧a.rule=i.p.rule∧a.top=i.p.top∧a.least=i.p.least∧a.part=i.p.part∧iE a.settle=iE i.p.settle∧(zS a)∧∀(b:Unit),True→cnd ((↑a.count:Int)==0) (∃(c:Unit),List.map zJ (qC i 1)=[]∧True) (cnd ((↑(List.map zU i.tops).length:Int) !=(↑a.count:Int)) (∃(c:Unit),List.map zJ (qC i 1)=[]∧True) (cnd (decide (i.inst<0)) (∃(c:Unit),List.map zJ (qC i 1)=[]∧True) (cnd (decide (i.inst≥(↑a.count:Int))) (∃(c:Unit),List.map zJ (qC i 1)=[]∧True) (∃(c:f9),sb c.p.code=sb i.p.code∧iE c.p.months=iE i.p.months∧c.p.tick=i.p.tick∧c.p.low=i.p.low∧c.p.high=i.p.high∧c.p.wide=i.p.wide∧c.p.rule=i.p.rule∧c.p.top=i.p.top∧c.p.least=i.p.least∧c.p.part=i.p.part∧iE c.p.settle=iE i.p.settle∧c.n=i.inst∧(qR c)∧∀(d:Unit),True→cnd (c.p.legs c.n).snd.snd (∃(e:Int),e=1∧(e=1∨e=2)∧∀(f:Unit),True→∃(g:MkJ),g.i.a=(c.p.legs c.n).snd.fst∧zB g.sa=3-e∧g.i.b=(c.p.legs c.n).fst∧zB g.sb=1∧g.i.less=true∧AObj.fro 6 (List.map zU g.i.tops)=AObj.fro 6 (List.map zU i.tops)∧List.map zJ g.i.out=[]∧(gZ g)∧∀(h:Unit),True→∃(j:Nat),(↑j:Int)=0∧AObj.fro 6 (List.map zU i.tops)=AObj.fro 6 (List.map zU g.i.tops)∧List.map zJ (mR i j)=List.map zJ (uE g)∧∃(k:Nat→Prop),∃(l:Nat→Nat),k j∧∀(m:Nat),k m→cnd (sX m g) ((0≤(↑m:Int)∧(↑m:Int)<(↑(tR i m).length:Int))∧(↑m:Int).toNat<(tR i m).length∧∃(n:Nat),(↑n:Int)=IntKind.i64.wrap ((↑m:Int)+1)∧AObj.fro 6 (List.map zU i.tops)=AObj.fro 6 (List.map zU i.tops)∧List.map zJ (mR i n)=z9 (tR i m) (↑m:Int).toNat ((0:Nat)+(2:Nat)) [dI ((c.p.legs c.n).fst),dI 1,dI (wQ c),dI (3-e)]∧k n∧l n<l m∧AObj.fro 6 (List.map zU g.i.tops)=AObj.fro 6 (List.map zU g.i.tops)∧Sx.AObj.cells [V.d (dI (wQ c)),V.d (dI (3-e))] 59=Sx.AObj.cells [V.d (dI (wQ c)),V.d (dI (3-e))] 59∧Sx.AObj.cells [V.d (dI ((c.p.legs c.n).fst)),V.d (dI 1)] 59=Sx.AObj.cells [V.d (dI ((c.p.legs c.n).fst)),V.d (dI 1)] 59∧mM i) (∃(n:Unit),List.map zJ (qC i 1)=List.map zJ (mR i m)∧True)) (∃(e:Nat),i.inst+1+(↑e:Int)=IntKind.i64.wrap (i.inst+1)∧AObj.fro 6 (List.map zU i.tops)=AObj.fro 6 (List.map zU i.tops)∧List.map zJ (qX i 1 e)=[]∧∃(f:Nat→Prop),∃(g:Nat→Nat),f e∧∀(h:Nat),f h→cnd (decide (i.inst+1+(↑h:Int)<(↑(iE i.p.months).length:Int))) (∃(j:rB),sb j.p.code=sb i.p.code∧iE j.p.months=iE i.p.months∧j.p.tick=i.p.tick∧j.p.low=i.p.low∧j.p.high=i.p.high∧j.p.wide=i.p.wide∧j.p.rule=i.p.rule∧j.p.top=i.p.top∧j.p.least=i.p.least∧j.p.part=i.p.part∧iE j.p.settle=iE i.p.settle∧j.a=i.inst∧j.b=i.inst+1+(↑h:Int)∧(x7 j)∧∀(k:Unit),True→∃(l:MkJ),l.i.a=(j.p.spread j.a j.b).fst∧zB l.sa=1∧l.i.b=i.inst+1+(↑h:Int)∧zB l.sb=1∧l.i.less=false∧AObj.fro 6 (List.map zU l.i.tops)=AObj.fro 6 (List.map zU i.tops)∧List.map zJ l.i.out=List.map zJ (qX i 1 h)∧(gZ l)∧∀(m:Unit),True→∃(n:Nat),i.inst+1+(↑n:Int)=IntKind.i64.wrap (i.inst+1+(↑h:Int)+1)∧AObj.fro 6 (List.map zU i.tops)=AObj.fro 6 (List.map zU l.i.tops)∧List.map zJ (qX i 1 n)=List.map zJ (uE l)∧zDb f n g h i) (∃(j:Nat),(↑j:Int)=0∧AObj.fro 6 (List.map zU i.tops)=AObj.fro 6 (List.map zU i.tops)∧List.map zJ (mX i j)=List.map zJ (qX i 1 h)∧∃(k:Nat→Prop),∃(l:Nat→Nat),k j∧∀(m:Nat),k m→cnd (decide ((↑m:Int)<i.inst)) (∃(n:rB),sb n.p.code=sb i.p.code∧iE n.p.months=iE i.p.months∧n.p.tick=i.p.tick∧n.p.low=i.p.low∧n.p.high=i.p.high∧n.p.wide=i.p.wide∧n.p.rule=i.p.rule∧n.p.top=i.p.top∧n.p.least=i.p.least∧n.p.part=i.p.part∧iE n.p.settle=iE i.p.settle∧n.a=(↑m:Int)∧n.b=i.inst∧(x7 n)∧∀(p:Unit),True→∃(q:Int),q=1∧(q=1∨q=2)∧∀(r:Unit),True→∃(s:MkJ),s.i.a=(n.p.spread n.a n.b).fst∧zB s.sa=3-q∧s.i.b=(↑m:Int)∧zB s.sb=1∧s.i.less=true∧AObj.fro 6 (List.map zU s.i.tops)=AObj.fro 6 (List.map zU i.tops)∧List.map zJ s.i.out=List.map zJ (mX i m)∧(gZ s)∧∀(t:Unit),True→∃(u:Nat),(↑u:Int)=IntKind.i64.wrap ((↑m:Int)+1)∧AObj.fro 6 (List.map zU i.tops)=AObj.fro 6 (List.map zU s.i.tops)∧List.map zJ (mX i u)=List.map zJ (uE s)∧zBf k u l m i) (∃(n:Unit),List.map zJ (qC i 1)=List.map zJ (mX i m)∧True)))))))
def mQ (a:dN) (b:Nat):=(List.map (fS a 2) (List.take b (yM a 2))++List.drop b (yM a 2))
def eT (a:dN) (b:Nat):=(List.map zJ (mQ a b))
def mB (a:dN) (b:Nat):=(qX a 2 (a.p.months.length-(a.inst.toNat+1))++kB a 2 b)
def yIp (i:dN):Prop:=
 ∃(a:Prd),sb a.code=sb i.p.code∧iE a.months=iE i.p.months∧a.tick=i.p.tick∧a.low=i.p.low∧a.high=i.p.high∧a.wide=i.p.wide∧a.rule=i.p.rule∧a.top=i.p.top∧a.least=i.p.least∧a.part=i.p.part∧iE a.settle=iE i.p.settle∧(zS a)∧∀(b:Unit),True→cnd ((↑a.count:Int)==0) (∃(c:Unit),List.map zJ (qC i 2)=[]∧True) (cnd ((↑(List.map zU i.tops).length:Int) !=(↑a.count:Int)) (∃(c:Unit),List.map zJ (qC i 2)=[]∧True) (cnd (decide (i.inst<0)) (∃(c:Unit),List.map zJ (qC i 2)=[]∧True) (cnd (decide (i.inst≥(↑a.count:Int))) (∃(c:Unit),List.map zJ (qC i 2)=[]∧True) (∃(c:f9),sb c.p.code=sb i.p.code∧iE c.p.months=iE i.p.months∧c.p.tick=i.p.tick∧c.p.low=i.p.low∧c.p.high=i.p.high∧c.p.wide=i.p.wide∧c.p.rule=i.p.rule∧c.p.top=i.p.top∧c.p.least=i.p.least∧c.p.part=i.p.part∧iE c.p.settle=iE i.p.settle∧c.n=i.inst∧(qR c)∧∀(d:Unit),True→cnd (c.p.legs c.n).snd.snd (∃(e:Int),e=2∧(e=1∨e=2)∧∀(f:Unit),True→∃(g:MkJ),g.i.a=(c.p.legs c.n).snd.fst∧zB g.sa=3-e∧g.i.b=(c.p.legs c.n).fst∧zB g.sb=2∧g.i.less=true∧AObj.fro 6 (List.map zU g.i.tops)=AObj.fro 6 (List.map zU i.tops)∧List.map zJ g.i.out=[]∧(gZ g)∧∀(h:Unit),True→∃(j:Nat),(↑j:Int)=0∧AObj.fro 6 (List.map zU i.tops)=AObj.fro 6 (List.map zU g.i.tops)∧List.map zJ (mQ i j)=List.map zJ (uE g)∧∃(k:Nat→Prop),∃(l:Nat→Nat),k j∧∀(m:Nat),k m→cnd (sX m g) ((0≤(↑m:Int)∧(↑m:Int)<(↑(eT i m).length:Int))∧(↑m:Int).toNat<(eT i m).length∧∃(n:Nat),(↑n:Int)=IntKind.i64.wrap ((↑m:Int)+1)∧AObj.fro 6 (List.map zU i.tops)=AObj.fro 6 (List.map zU i.tops)∧List.map zJ (mQ i n)=z9 (eT i m) (↑m:Int).toNat ((0:Nat)+(2:Nat)) [dI ((c.p.legs c.n).fst),dI 2,dI (wQ c),dI (3-e)]∧k n∧l n<l m∧AObj.fro 6 (List.map zU g.i.tops)=AObj.fro 6 (List.map zU g.i.tops)∧Sx.AObj.cells [V.d (dI (wQ c)),V.d (dI (3-e))] 59=Sx.AObj.cells [V.d (dI (wQ c)),V.d (dI (3-e))] 59∧Sx.AObj.cells [V.d (dI ((c.p.legs c.n).fst)),V.d (dI 2)] 59=Sx.AObj.cells [V.d (dI ((c.p.legs c.n).fst)),V.d (dI 2)] 59∧mM i) (∃(n:Unit),List.map zJ (qC i 2)=List.map zJ (mQ i m)∧True)) (∃(e:Nat),i.inst+1+(↑e:Int)=IntKind.i64.wrap (i.inst+1)∧AObj.fro 6 (List.map zU i.tops)=AObj.fro 6 (List.map zU i.tops)∧List.map zJ (qX i 2 e)=[]∧∃(f:Nat→Prop),∃(g:Nat→Nat),f e∧∀(h:Nat),f h→cnd (decide (i.inst+1+(↑h:Int)<(↑(iE i.p.months).length:Int))) (∃(j:rB),sb j.p.code=sb i.p.code∧iE j.p.months=iE i.p.months∧j.p.tick=i.p.tick∧j.p.low=i.p.low∧j.p.high=i.p.high∧j.p.wide=i.p.wide∧j.p.rule=i.p.rule∧j.p.top=i.p.top∧j.p.least=i.p.least∧j.p.part=i.p.part∧iE j.p.settle=iE i.p.settle∧j.a=i.inst∧j.b=i.inst+1+(↑h:Int)∧(x7 j)∧∀(k:Unit),True→∃(l:MkJ),l.i.a=(j.p.spread j.a j.b).fst∧zB l.sa=2∧l.i.b=i.inst+1+(↑h:Int)∧zB l.sb=2∧l.i.less=false∧AObj.fro 6 (List.map zU l.i.tops)=AObj.fro 6 (List.map zU i.tops)∧List.map zJ l.i.out=List.map zJ (qX i 2 h)∧(gZ l)∧∀(m:Unit),True→∃(n:Nat),i.inst+1+(↑n:Int)=IntKind.i64.wrap (i.inst+1+(↑h:Int)+1)∧AObj.fro 6 (List.map zU i.tops)=AObj.fro 6 (List.map zU l.i.tops)∧List.map zJ (qX i 2 n)=List.map zJ (uE l)∧zDb f n g h i) (∃(j:Nat),(↑j:Int)=0∧AObj.fro 6 (List.map zU i.tops)=AObj.fro 6 (List.map zU i.tops)∧List.map zJ (mB i j)=List.map zJ (qX i 2 h)∧∃(k:Nat→Prop),∃(l:Nat→Nat),k j∧∀(m:Nat),k m→cnd (decide ((↑m:Int)<i.inst)) (∃(n:rB),sb n.p.code=sb i.p.code∧iE n.p.months=iE i.p.months∧n.p.tick=i.p.tick∧n.p.low=i.p.low∧n.p.high=i.p.high∧n.p.wide=i.p.wide∧n.p.rule=i.p.rule∧n.p.top=i.p.top∧n.p.least=i.p.least∧n.p.part=i.p.part∧iE n.p.settle=iE i.p.settle∧n.a=(↑m:Int)∧n.b=i.inst∧(x7 n)∧∀(p:Unit),True→∃(q:Int),q=2∧(q=1∨q=2)∧∀(r:Unit),True→∃(s:MkJ),s.i.a=(n.p.spread n.a n.b).fst∧zB s.sa=3-q∧s.i.b=(↑m:Int)∧zB s.sb=2∧s.i.less=true∧AObj.fro 6 (List.map zU s.i.tops)=AObj.fro 6 (List.map zU i.tops)∧List.map zJ s.i.out=List.map zJ (mB i m)∧(gZ s)∧∀(t:Unit),True→∃(u:Nat),(↑u:Int)=IntKind.i64.wrap ((↑m:Int)+1)∧AObj.fro 6 (List.map zU i.tops)=AObj.fro 6 (List.map zU s.i.tops)∧List.map zJ (mB i u)=List.map zJ (uE s)∧zBf k u l m i) (∃(n:Unit),List.map zJ (qC i 2)=List.map zJ (mB i m)∧True)))))))
def jK (a:rM):=(List.map zJ (qC a.i (zB a.s)))
def l6 (a:Nat→Prop) (b:Nat) (c:Nat→Nat) (d:Nat) (e:rM) (f:rM):Prop:=a b∧c b<c d∧AObj.own 62 6 (jK e)=AObj.own 62 6 (jK e)∧Sx.AObj.cells [V.d (D.v (Value.string (sb f.i.p.code))),V.own 0,V.d (dI f.i.p.tick),V.d (dI f.i.p.low),V.d (dI f.i.p.high),V.d (dI f.i.p.wide),V.d (dI f.i.p.rule),V.d (dI f.i.p.top),V.d (dI f.i.p.least),V.d (dI f.i.p.part),V.own ((0:Nat)+(1:Nat))] 29=Sx.AObj.cells [V.d (D.v (Value.string (sb f.i.p.code))),V.own 0,V.d (dI f.i.p.tick),V.d (dI f.i.p.low),V.d (dI f.i.p.high),V.d (dI f.i.p.wide),V.d (dI f.i.p.rule),V.d (dI f.i.p.top),V.d (dI f.i.p.least),V.d (dI f.i.p.part),V.own ((0:Nat)+(1:Nat))] 29∧AObj.fro 1 (iE f.i.p.settle)=AObj.fro 1 (iE f.i.p.settle)∧AObj.fro 1 (iE f.i.p.months)=AObj.fro 1 (iE f.i.p.months)
def kH (a:rM):Prop:=(a.i.p.code.length≤1099511627776∧a.i.p.months.length≤1099511627776∧a.i.p.settle.length≤1099511627776)∧a.i.tops.length≤1000000∧∀(b:Top),b∈a.i.tops→wO b
def gJ (a:rM):=(↑(jK a).length:Int)
def z1x (j:rM):Prop:=
 ∃(a:rM),sb a.i.p.code=sb j.i.p.code∧iE a.i.p.months=iE j.i.p.months∧a.i.p.tick=j.i.p.tick∧a.i.p.low=j.i.p.low∧a.i.p.high=j.i.p.high∧a.i.p.wide=j.i.p.wide∧a.i.p.rule=j.i.p.rule∧a.i.p.top=j.i.p.top∧a.i.p.least=j.i.p.least∧a.i.p.part=j.i.p.part∧iE a.i.p.settle=iE j.i.p.settle∧List.map zU a.i.tops=List.map zU j.i.tops∧a.i.inst=j.i.inst∧zB a.s=zB j.s∧(kH a)∧∀(b:Unit),True→∃(c:Nat),(↑c:Int)=0∧List.map zJ (List.filter (fun(q:Sx.Quote) ↦ decide (j.i.p.price j.i.inst q.price=0)) (List.take c (qC j.i (zB j.s))))=[]∧∃(d:Nat→Prop),∃(e:Nat→Nat),d c∧∀(f:Nat),d f→cnd (decide ((↑f:Int)<(gJ a))) ((0≤(↑f:Int)∧(↑f:Int)<(gJ a))∧∃(g:Int),∃(h:Int),∃(k:Int),∃(l:Int),∃(m:Int),∃(n:Int),zF (jK a) (↑f:Int).toNat 0 6=some [dI g,dI h,dI k,dI l,dI m,dI n]∧∃(p:rB),sb p.p.code=sb j.i.p.code∧iE p.p.months=iE j.i.p.months∧p.p.tick=j.i.p.tick∧p.p.low=j.i.p.low∧p.p.high=j.i.p.high∧p.p.wide=j.i.p.wide∧p.p.rule=j.i.p.rule∧p.p.top=j.i.p.top∧p.p.least=j.i.p.least∧p.p.part=j.i.p.part∧iE p.p.settle=iE j.i.p.settle∧p.a=j.i.inst∧p.b=g∧(x7 p)∧∀(q:Unit),True→cnd (p.p.price p.a p.b==0) (((List.map zJ (List.filter (fun(q:Sx.Quote) ↦ decide (j.i.p.price j.i.inst q.price=0)) (List.take f (qC j.i (zB j.s))))).length+1)*(48:Nat)≤(70368744177664:Nat)∧∃(r:Nat),(↑r:Int)=IntKind.i64.wrap ((↑f:Int)+1)∧List.map zJ (List.filter (fun(q:Sx.Quote) ↦ decide (j.i.p.price j.i.inst q.price=0)) (List.take r (qC j.i (zB j.s))))=List.map zJ (List.filter (fun(q:Sx.Quote) ↦ decide (j.i.p.price j.i.inst q.price=0)) (List.take f (qC j.i (zB j.s))))++[[dI g,dI h,dI k,dI l,dI m,dI n]]∧l6 d r e f a j) (∃(r:Nat),(↑r:Int)=IntKind.i64.wrap ((↑f:Int)+1)∧List.map zJ (List.filter (fun(q:Sx.Quote) ↦ decide (j.i.p.price j.i.inst q.price=0)) (List.take r (qC j.i (zB j.s))))=List.map zJ (List.filter (fun(q:Sx.Quote) ↦ decide (j.i.p.price j.i.inst q.price=0)) (List.take f (qC j.i (zB j.s))))∧l6 d r e f a j)) (∃(g:Unit),List.map zJ (yL j.i (zB j.s))=List.map zJ (List.filter (fun(q:Sx.Quote) ↦ decide (j.i.p.price j.i.inst q.price=0)) (List.take f (qC j.i (zB j.s))))∧True)
def zAr (a:Nat→Prop) (b:Nat) (c:Nat→Nat) (d:Nat):Prop:=a b∧c b<c d∧Sx.AObj.cells (Sx.V.agg [V.d (dI 0),V.d (dI 0),V.d (dI 0),V.d (dI 0),V.d (dI 0),V.d (dI 0)]).cl 62=Sx.AObj.cells (Sx.V.agg [V.d (dI 0),V.d (dI 0),V.d (dI 0),V.d (dI 0),V.d (dI 0),V.d (dI 0)]).cl 62
def z8 (a:Nat) (b:BsI):=(yD (List.take (max a 1) b.l) b.s)
def bN (a:BsI):=(↑(List.map zJ a.l).length:Int)
def zKf (a:BsI):Prop:=((0:Int)≤(0:Int)∧0<(bN a))∧∃(b:Int),∃(c:Int),∃(d:Int),∃(e:Int),∃(f:Int),∃(g:Int),zF (List.map zJ a.l) (Int.toNat 0) 0 6=some [dI b,dI c,dI d,dI e,dI f,dI g]∧∃(h:Nat),(↑h:Int)=0∧(z8 h a).fst.price=b∧(z8 h a).fst.qty=c∧(z8 h a).fst.a.inst=d∧(z8 h a).fst.a.side=e∧(z8 h a).fst.b.inst=f∧(z8 h a).fst.b.side=g∧∃(j:Nat→Prop),∃(k:Nat→Nat),j h∧∀(l:Nat),j l→cnd (decide ((↑l:Int)<(bN a))) ((0≤(↑l:Int)∧(↑l:Int)<(bN a))∧∃(m:Int),∃(n:Int),∃(p:Int),∃(q:Int),∃(r:Int),∃(s:Int),zF (List.map zJ a.l) (↑l:Int).toNat 0 6=some [dI m,dI n,dI p,dI q,dI r,dI s]∧∃(t:I3'),t.side=a.s∧t.x=m∧t.y=(z8 l a).fst.price∧True∧∀(u:Unit),True→cnd (btr t.side t.x t.y) (∃(v:Nat),(↑v:Int)=IntKind.i64.wrap ((↑l:Int)+1)∧(z8 v a).fst.price=m∧(z8 v a).fst.qty=n∧(z8 v a).fst.a.inst=p∧(z8 v a).fst.a.side=q∧(z8 v a).fst.b.inst=r∧(z8 v a).fst.b.side=s∧zAr j v k l) (∃(v:Nat),(↑v:Int)=IntKind.i64.wrap ((↑l:Int)+1)∧(z8 v a).fst.price=(z8 l a).fst.price∧(z8 v a).fst.qty=(z8 l a).fst.qty∧(z8 v a).fst.a.inst=(z8 l a).fst.a.inst∧(z8 v a).fst.a.side=(z8 l a).fst.a.side∧(z8 v a).fst.b.inst=(z8 l a).fst.b.inst∧(z8 v a).fst.b.side=(z8 l a).fst.b.side∧zAr j v k l)) (∃(m:Unit),(yD a.l a.s).fst.price=(z8 l a).fst.price∧(yD a.l a.s).fst.qty=(z8 l a).fst.qty∧(yD a.l a.s).fst.a.inst=(z8 l a).fst.a.inst∧(yD a.l a.s).fst.a.side=(z8 l a).fst.a.side∧(yD a.l a.s).fst.b.inst=(z8 l a).fst.b.inst∧(yD a.l a.s).fst.b.side=(z8 l a).fst.b.side∧(yD a.l a.s).snd=true∧True)
def lK (a:BsI):Prop:=∃(b:Unit),(yD a.l a.s).fst.price=0∧(yD a.l a.s).fst.qty=0∧(yD a.l a.s).fst.a.inst=0∧(yD a.l a.s).fst.a.side=0∧(yD a.l a.s).fst.b.inst=0∧(yD a.l a.s).fst.b.side=0∧(yD a.l a.s).snd=false∧True
def yCa (i:BsI):Prop:=
 cnd ((bN i)==0) (lK i) (cnd (i.s !=1) (cnd (i.s !=2) (lK i) (zKf i)) (zKf i))
end Sx
