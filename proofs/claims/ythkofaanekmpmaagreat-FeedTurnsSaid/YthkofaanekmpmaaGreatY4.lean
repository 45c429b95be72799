/- Texts of ours, one behind the other: a walk that the kernel reckons, and contracts of functions. No condition. -/
import Derived.Test.YthkofaanekmpmaaGreatRows
import Derived.Test.YthkofaanekmpmaaGreatY3
open List renaming map→aa,replicate→ab,take→ac,range→ae,filter→af,findIdx?→ag,drop→aj
open Sx.AObj renaming fro→ak,cells→am,objs→ao,adt→ap,map→aq,own→ar
open Go.IntKind renaming i64→au
open Bool renaming false→av,true→aw
open Exists renaming intro→ax
open And renaming intro→ay
open Option renaming some→az,none→bc
open Go.Utf8 renaming decode→be
open Go.Value renaming string→bg
open Go renaming Value→bo,TypeId→bu
open Int renaming toNat→bv
namespace Sx
set_option linter.unusedVariables false
open Go Cv Go.Proofs
theorem kp {P:Prop} (h:P:=by(repeat'(first|exact rfl|exact trivial|assumption|apply And.intro|refine fun(_:Unit) (_:True)=>?_|refine Exists.intro () ?_|omega|(dsimp only;omega)))):P:=h
theorem k0q {P:Prop} (h:P:=by(repeat'(first|exact trivial|exact rfl|apply And.intro))):P:=h
theorem mixed:Tryz.prog.follows .mixedOrders=aw:=by kernel_rfl
theorem okw {P:Program} {f:FuncId} {fn:Func} {C:Con} {G:List (Nat×Con)} {V:C.ι→Prop} (hm:P.follows .mixedOrders=aw) (hG:GOk P G) (d:Nat) (J:C.ι→List (Nat×SAnn)) (an:C.ι→List SAnn) (op:List Nat) (hf:P.funcs[f]? =az fn) (h:∀i,C.cnd i→V i) (hb:fn.body=az (fn.body.getD .skip):=by kernel_rfl) (hbd:uH P f=aw:=by kernel_rfl) (hok:okC fn.ntmps (fn.body.getD .skip)=aw:=by kernel_rfl) (hsz:∀i,Nat.ble (C.pat i).length fn.ntmps=aw:=by intro _;kernel_rfl) (e:∀i,V i=walk P G d (J i) (an i) op fn (fn.body.getD .skip) (C.pat i) (C.pre i) (C.alts i):=by intro _;kernel_rfl):C.ok P f:=gK hm G hG d J an op hf hb hbd hok hsz fun i hc=>Eq.mp (e i) (h i hc)
structure Lv where
 price:Int
 qty:Int
 count:Int
def lvE (l:Lv):List D:=[.v (.int .i64 l.price),.v (.int .i64 l.qty),.v (.int .i64 l.count)]
def lvV (l:Lv):V:= .agg [zA l.price,zA l.qty,zA l.count]
open Go Cv Go.Proofs
def sb (l:List UInt8):ByteArray:=⟨l.toArray⟩
@[reducible] def sV (l:List UInt8):V:= .d (.v (.string (sb l)))
def zMt (l:List UInt8):Nat×Nat:=be (sb l) 0
def lL:Nat→Nat→List UInt8→List (Nat×Nat)
 |0,_,_=>[]
 |k+1,p,l=>match l with
  |[]=>[]
  |_=>(p,(zMt l).1)::lL k (p+(zMt l).2) (l.drop (zMt l).2)
def gE (s:List UInt8) (p:Nat):List (Nat×Nat):=lL (s.length-p) p (s.drop p)
def kQ (s:List UInt8):List Nat:=(gE s 0).map (·.2)
def countC:Con:=con1 (List UInt8) (fun s=>[sV s]) (fun _=>[]) (fun s=>s.length≤1099511627776) (fun s=>zA (kQ s).length) (fun _=>[])
def yRv (s:List UInt8):List SAnn:=[{ι:=Nat×Nat,slots:=fun x=>[(3,zA x.2),(5,.nm 0 0)],rows:=fun x=>[.iter (sb s) x.1]}]
def uY (r:Nat):Bool:=(decide (65≤r) && decide (r≤90))||(decide (913≤r) && decide (r≤937) && decide (r≠930))
def j0 (s:List UInt8):Bool:=(kQ s).all uY && decide (s≠[]) && decide ((kQ s).length≤4)
def symC:Con:=con1 (List UInt8) (fun s=>[sV s]) (fun _=>[]) (fun s=>s.length≤1099511627776) (fun s=>yF (j0 s)) (fun _=>[])
def yYb (s:List UInt8):List SAnn:=[{ι:=Nat,slots:=fun x=>[(7,.nm 0 0)],rows:=fun x=>[.iter (sb s) x]}]
def iE (l:List Int):List (List D):=l.map fun n=>[.v (.int .i64 n)]
@[reducible] def iV (l:List Int):V:=roV 1 (iE l)
structure Prd where
 code:List UInt8
 months:List Int
 tick:Int
 low:Int
 high:Int
 wide:Int
 rule:Int
 top:Int
 least:Int
 part:Int
 settle:List Int
 deriving DecidableEq
@[reducible] def Prd.cells (p:Prd):List V:=[sV p.code,iV p.months,zA p.tick,zA p.low,zA p.high,zA p.wide,zA p.rule,zA p.top,zA p.least,zA p.part,iV p.settle]
@[reducible] def prdV (p:Prd):V:= .agg p.cells
@[reducible] def Prd.small (p:Prd):Prop:=p.code.length≤1099511627776∧p.months.length≤1099511627776∧p.settle.length≤1099511627776
def qL (l:List Int) (k:Nat):Bool:=decide (0≤l.getD k 0) && decide (l.getD k 0≤1199) && (decide (k=0)||decide (l.getD (k-1) 0<l.getD k 0))
def xC (l:List Int):Bool:=(ae l.length).all (qL l) && decide (2≤l.length) && decide (l.length≤6)
def monthsC:Con:=con1 (List Int) (fun l=>[iV l]) (fun _=>[]) (fun l=>l.length≤1099511627776) (fun l=>yF (xC l)) (fun _=>[])
def yIe:List SAnn:=[{ι:=Nat,slots:=fun j=>[(7,zA j)],rows:=fun _=>[]}]
def rC (l:List Int):Int:=l.tail.foldl min (l.headD 0)
def rX (l:List Int):Int:=l.tail.foldl max (l.headD 0)
def minC:Con:=con1 (List Int) (fun l=>[iV l]) (fun _=>[]) (fun l=>0<l.length∧l.length≤1099511627776) (fun l=>zA (rC l)) (fun _=>[])
def maxC:Con:=con1 (List Int) (fun l=>[iV l]) (fun _=>[]) (fun l=>0<l.length∧l.length≤1099511627776) (fun l=>zA (rX l)) (fun _=>[])
def yZf (l:List Int):List SAnn:=[{ι:=Nat,slots:=fun j=>[(3,zA (rC (l.take j))),(4,zA j)],rows:=fun _=>[]}]
def yZe (l:List Int):List SAnn:=[{ι:=Nat,slots:=fun j=>[(3,zA (rX (l.take j))),(4,zA j)],rows:=fun _=>[]}]
set_option maxRecDepth 100000
open Go Cv Go.Proofs
@[reducible] def dI (n:Int):D:= .v (.int .i64 n)
def fX (a:Nat×Nat) (b:List UInt8) (c:Nat×Nat→Prop) (d:Nat×Nat→Nat):Prop:=∃(e:Nat×Nat),(↑e.snd:Int)=au.wrap ((↑a.snd:Int)+1)∧sb b=sb b∧e.fst=a.fst+(be (sb b) a.fst).snd∧c e∧d e<d a∧True
def yFh (s:List UInt8):Prop:=
 ∃(a:Nat×Nat),(↑a.snd:Int)=0∧sb s=sb s∧a.fst=0∧∃(b:Nat×Nat→Prop),∃(c:Nat×Nat→Nat),b a∧∀(d:Nat×Nat),b d→cnd (d.fst.blt (sb s).size) (fX d s b c) (∃(e:Unit),(↑(kQ s).length:Int)=(↑d.snd:Int)∧True)
def zEb (a:List UInt8) (b:Nat) (c:Nat→Prop) (d:Nat→Nat):Prop:=∃(e:Nat),sb a=sb a∧e=b+(be (sb a) b).snd∧c e∧d e<d b∧True
def fK (a:List UInt8) (b:Nat):=(↑(be (sb a) b).fst:Int)
def yWo (s:List UInt8):Prop:=
 ∃(a:Nat),sb s=sb s∧a=0∧∃(b:Nat→Prop),∃(c:Nat→Nat),b a∧∀(d:Nat),b d→cnd (d.blt (sb s).size) (cnd (decide ((fK s d)≥65)) (cnd (decide ((fK s d)≤90)) (zEb s d b c) (cnd (decide ((fK s d)≥913)) (cnd (decide ((fK s d)≤937)) (cnd (!(fK s d) !=930) (∃(e:Unit),j0 s=av∧True) (zEb s d b c)) (∃(e:Unit),j0 s=av∧True)) (∃(e:Unit),j0 s=av∧True))) (cnd (decide ((fK s d)≥913)) (cnd (decide ((fK s d)≤937)) (cnd (!(fK s d) !=930) (∃(e:Unit),j0 s=av∧True) (zEb s d b c)) (∃(e:Unit),j0 s=av∧True)) (∃(e:Unit),j0 s=av∧True))) (cnd (!(sb s).toList==(ByteArray.mk #[]).toList) (∃(e:List UInt8),sb e=sb s∧e.length≤1099511627776∧∀(f:Unit),True→∃(g:Unit),j0 s=decide ((↑(kQ e).length:Int)≤4)∧True) (∃(e:Unit),j0 s=av∧True))
def j7 (a:Nat) (b:Nat) (c:Nat→Prop) (d:Nat→Nat):Prop:=(↑a:Int)=au.wrap ((↑b:Int)+1)∧c a∧d a<d b∧True
def jL (a:Nat) (b:Nat→Prop) (c:Nat→Nat):Prop:=∃(d:Nat),j7 d a b c
def z5r (l:List Int):Prop:=
 ∃(a:Nat),(↑a:Int)=0∧∃(b:Nat→Prop),∃(c:Nat→Nat),b a∧∀(d:Nat),b d→cnd (decide ((↑d:Int)<(↑(iE l).length:Int))) ((0≤(↑d:Int)∧(↑d:Int)<(↑(iE l).length:Int))∧∃(e:Int),zE (iE l) (↑d:Int).toNat 0 1=az [dI e]∧cnd (decide (e<0)) (∃(f:Unit),xC l=av∧True) (cnd (decide (e>1199)) (∃(f:Unit),xC l=av∧True) (cnd (decide ((↑d:Int)>0)) ((0≤au.wrap ((↑d:Int)-1)∧au.wrap ((↑d:Int)-1)<(↑(iE l).length:Int))∧∃(f:Int),zE (iE l) (au.wrap ((↑d:Int)-1)).toNat 0 1=az [dI f]∧cnd (decide (f≥e)) (∃(g:Unit),xC l=av∧True) (jL d b c)) (jL d b c)))) (cnd (decide ((↑(iE l).length:Int)≥2)) (∃(e:Unit),xC l=decide ((↑(iE l).length:Int)≤6)∧True) (∃(e:Unit),xC l=av∧True))
def yXg (l:List Int):Prop:=
 cnd (decide ((↑(iE l).length:Int)<1)) False (((0:Int)≤(0:Int)∧0<(↑(iE l).length:Int))∧∃(a:Int),zE (iE l) (bv 0) 0 1=az [dI a]∧∃(b:Nat),rC (ac b l)=a∧(↑b:Int)=1∧∃(c:Nat→Prop),∃(d:Nat→Nat),c b∧∀(e:Nat),c e→cnd (decide ((↑e:Int)<(↑(iE l).length:Int))) ((0≤(↑e:Int)∧(↑e:Int)<(↑(iE l).length:Int))∧∃(f:Int),zE (iE l) (↑e:Int).toNat 0 1=az [dI f]∧∃(g:Nat),rC (ac g l)=min (rC (ac e l)) f∧j7 g e c d) (∃(f:Unit),rC l=rC (ac e l)∧True))
def yWj (l:List Int):Prop:=
 cnd (decide ((↑(iE l).length:Int)<1)) False (((0:Int)≤(0:Int)∧0<(↑(iE l).length:Int))∧∃(a:Int),zE (iE l) (bv 0) 0 1=az [dI a]∧∃(b:Nat),rX (ac b l)=a∧(↑b:Int)=1∧∃(c:Nat→Prop),∃(d:Nat→Nat),c b∧∀(e:Nat),c e→cnd (decide ((↑e:Int)<(↑(iE l).length:Int))) ((0≤(↑e:Int)∧(↑e:Int)<(↑(iE l).length:Int))∧∃(f:Int),zE (iE l) (↑e:Int).toNat 0 1=az [dI f]∧∃(g:Nat),(rX (ac g l)=if f>rX (ac e l)then f else rX (ac e l))∧j7 g e c d) (∃(f:Unit),rX l=rX (ac e l)∧True))
set_option linter.unusedSimpArgs false
open Go Cv Go.Proofs
@[simp] theorem z4t (s:List UInt8):(sb s).size=s.length:=by simp[sb,ByteArray.size]
theorem nJ (s:List UInt8):(sb s).toList=s:=by rw[ByteArray.toList_eq];rfl
theorem ySm (s:List UInt8) (p k:Nat):(sb s).get! (p+k)=(sb (s.drop p)).get! (0+k):=by
 simp only[sb,ByteArray.get!,y0w]
 simp only[List.getElem!_toArray,List.getElem!_eq_getElem?_getD,y2i]
theorem zIe (s:List UInt8) (p:Nat):be (sb s) p=zMt (s.drop p):=by
 have h (k:Nat):(decide (p+k<(sb s).size))=decide (0+k<(sb (s.drop p)).size):=by
  simp only[z4t,y0x]
  by_cases h:p+k<s.length
  ·rw[y0n h,y0n (by omega)]
  ·rw[y0k h,y0k (by omega)]
 unfold zMt be
 simp only[ySm s p,h]
theorem aM (s:List UInt8) {p:Nat} (h:p<s.length):1≤(be (sb s) p).2∧p+(be (sb s) p).2≤s.length:=by
 unfold be
 simp only[z4t,y0o,y1z]
 split
 ·exact⟨by simp,by simp;omega⟩
 split
 ·rename_i h1
  split
  ·exact⟨by simp,by simp;omega⟩
  ·exact⟨by simp,by simp;omega⟩
 split
 ·rename_i h1
  split
  ·exact⟨by simp,by simp;omega⟩
  ·exact⟨by simp,by simp;omega⟩
 split
 ·rename_i h1
  split
  ·exact⟨by simp,by simp;omega⟩
  ·exact⟨by simp,by simp;omega⟩
 ·exact⟨by simp,by simp;omega⟩
theorem yTk {l:List UInt8} (h:l≠[]):1≤(zMt l).2∧(zMt l).2≤l.length:=by
 have:=aM l (p:=0) (by cases l<;>simp_all)
 rw[zMt];omega
theorem nR:∀(k:Nat) (p:Nat) (l:List UInt8),l.length≤k→lL k p l=lL l.length p l
 |0,p,l,h=>by
  have:l=[]:=y0y (by omega)
  subst this;rfl
 |k+1,p,[],h=>rfl
 |k+1,p,b::l,h=>by
  have hw:=yTk (l:=b::l) (by simp)
  have hl:((b::l).drop (zMt (b::l)).2).length≤l.length:=by rw[y0x,y0f];omega
  rw[y0f]
  simp only[lL]
  rw[nR k _ _ (by rw[y0f]at h;omega),nR l.length _ _ hl]
theorem dD {s:List UInt8} {p:Nat} (h:s.length≤p):gE s p=[]:=by
 rw[gE,show s.length-p=0 by omega];rfl
theorem wH {s:List UInt8} {p:Nat} (h:p<s.length):gE s p=(p,(be (sb s) p).1)::gE s (p+(be (sb s) p).2):=by
 obtain⟨k,hk⟩:∃k,s.length-p=k+1:=⟨s.length-p-1,by omega⟩
 have hw:=aM s h
 obtain⟨b,l,hb⟩:∃b l,s.drop p=b::l:=by
  cases hd:s.drop p with
  |nil=>rw[List.drop_eq_nil_iff]at hd;omega
  |cons b l=>exact⟨b,l,rfl⟩
 have hlen:(b::l).length=s.length-p:=by rw[← hb,y0x]
 rw[gE,hk,hb,zIe,hb,gE]
 rw[zIe,hb]at hw
 simp only[lL]
 have e:(b::l).drop (zMt (b::l)).2=s.drop (p+(zMt (b::l)).2):=by rw[← hb,y3q]
 rw[e,nR k _ _ (by rw[y0x];omega),y0x]
theorem zLz (s:List UInt8):∀(k p:Nat),s.length-p≤k→(gE s p).length≤s.length-p
 |0,p,h=>by rw[dD (by omega)];simp
 |k+1,p,h=>by
  by_cases hp:p<s.length
  ·have hw:=aM s hp
   rw[wH hp,y0f]
   have:=zLz s k (p+(be (sb s) p).2) (by omega)
   omega
  ·rw[dD (by omega)];simp
theorem zFx (s:List UInt8):(kQ s).length≤s.length:=by
 rw[kQ,y0a]
 have:=zLz s s.length 0 (by omega)
 omega
theorem z5j {a b:Nat} (h:Nat.blt a b=av):b≤a:=by
 rcases y2v a b with h1|h1
 ·rw[show Nat.blt a b=aw by rw[y3d];exact h1]at h;cases h
 ·exact h1
theorem yCf:(ByteArray.mk #[]).toList=[]:=nJ []
theorem yOy (s:List UInt8) (h:countC.cnd s):yFh s:=by
 have h:s.length≤1099511627776:=h
 have hr:=zFx s
 unfold yFh fX
 refine⟨(0,0),rfl,rfl,rfl,fun x=>x.1≤s.length∧x.2+(gE s x.1).length=(kQ s).length,fun x=>s.length-x.1,⟨by omega,by rw[kQ,y0a];simp⟩,?_⟩
 rintro⟨p,n⟩ ⟨h1,h2⟩
 dsimp only at h1 h2 ⊢
 refine Cv.cnd.mk (fun hp=> ?_) (fun hp=> ?_)
 ·have hp:p<s.length:=by simpa[y3d]using hp
  have hw:=aM s hp
  rw[wH hp,y0f]at h2
  refine⟨(p+(be (sb s) p).2,n+1),?_,rfl,rfl,⟨hw.2,by(first|omega|(dsimp only;omega))⟩,by(first|omega|(dsimp only;omega)),trivial⟩
  rw[w64 (by omega)];rfl
 ·have hp:s.length≤p:=by have:=z5j hp;simpa using this
  rw[dD hp]at h2
  exact⟨(),by rw[← h2];rfl,trivial⟩
theorem yGz:countC.ok Tryz.prog 190:=okw mixed gok0 0 (fun _=>[]) (fun s=>yRv s) [] Tryz.func190 yOy
theorem yZj (s:List UInt8) (h:symC.cnd s):yWo s:=by
 have h:s.length≤1099511627776:=h
 unfold yWo fK zEb
 refine⟨0,rfl,rfl,fun p=>p≤s.length∧(kQ s).all uY=(gE s p).all fun x=>uY x.2,fun p=>s.length-p,⟨by omega,by rw[kQ,List.all_map];rfl⟩,?_⟩
 rintro p ⟨h1,h2⟩
 refine Cv.cnd.mk (fun hp=> ?_) (fun hp=> ?_)
 ·have hp:p<s.length:=by simpa[y3d]using hp
  have hw:=aM s hp
  rw[wH hp,List.all_cons]at h2
  generalize hc:(be (sb s) p).1=c at h2 ⊢
  generalize hww:(be (sb s) p).2=w at h2 hw ⊢
  dsimp only at h2
  have bad:uY c=av→∃(o:Unit),j0 s=av∧True:=fun e=>⟨(),by rw[j0,h2,e];rfl,trivial⟩
  have good:uY c=aw→∃i':Nat,sb s=sb s∧i'=p+w∧(i'≤s.length∧(kQ s).all uY=(gE s i').all fun x=>uY x.2)∧s.length-i'<s.length-p∧True:=fun e=>⟨p+w,rfl,rfl,⟨hw.2,by rw[h2,e];rfl⟩,by omega,trivial⟩
  refine zJ (fun c1=>zJ (fun c2=> ?_) (fun c2=>zJ (fun c3=>zJ (fun c4=>Cv.cnd.mk (fun c5=> ?_) (fun c5=> ?_)) (fun c4=> ?_)) (fun c3=> ?_))) (fun c1=>zJ (fun c3=>zJ (fun c4=>Cv.cnd.mk (fun c5=> ?_) (fun c5=> ?_)) (fun c4=> ?_)) (fun c3=> ?_))
  all_goals first|(refine good ?_;simp[uY]at*;omega)|(refine bad ?_;simp[uY]at*;omega)
 ·have hp:s.length≤p:=by have:=z5j hp;simpa using this
  rw[dD hp]at h2
  have h2:(kQ s).all uY=aw:=h2
  refine Cv.cnd.mk (fun e=>⟨s,rfl,h,fun _ _=>⟨(),?_,trivial⟩⟩) (fun e=>⟨(),?_,trivial⟩)
  ·rw[nJ,yCf]at e
   have:s≠[]:=by simpa using e
   rw[j0,h2,y0n this]
   simp only[y2y]
   congr 1
   simp only[eq_iff_iff];omega
  ·have:s=[]:=by
    rw[nJ,yCf]at e
    simpa using e
   rw[j0,this];rfl
theorem yPy:symC.ok Tryz.prog 151:=okw mixed (gokc yGz gok0) 0 (fun _=>[]) (fun s=>yYb s) [] Tryz.func151 yZj
@[simp] theorem xD (l:List Int):(iE l).length=l.length:=by simp[iE]
theorem elI {l:List Int} {k:Nat} {n:Int} (h:l[k]? =az n):zE (iE l) k 0 1=az [D.v (.int .i64 n)]:=by
 simp[zE,iE,h];rfl
theorem z8 {α:Type} {l:List α} {i:Nat} (h:i<l.length):∃x,l[i]? =az x:=⟨l[i],y1g h⟩
theorem zQe {n k:Nat} {f:Nat→Bool} (hk:k<n) (h:f k=av):(ae n).all f=av:=by
 cases hh:(ae n).all f
 ·rfl
 ·rw[y3i]at hh
  rw[hh k (by simpa using hk)]at h;cases h
theorem zVf {n:Nat} {f:Nat→Bool} (h:∀k<n,f k=aw):(ae n).all f=aw:=by
 rw[y3i];intro k hk;exact h k (by simpa using hk)
theorem yKc (l:List Int) (h:monthsC.cnd l):z5r l:=by
 have h:l.length≤1099511627776:=h
 unfold z5r jL j7 dI
 simp only[xD]
 refine⟨0,rfl,fun j=>j≤l.length∧∀k<j,qL l k=aw,fun j=>l.length-j,⟨by omega,fun k hk=>by omega⟩,?_⟩
 rintro j ⟨h1,h2⟩
 have bad:j<l.length→qL l j=av→∃(o:Unit),xC l=av∧True:=fun hj e=>⟨(),by rw[xC,zQe hj e];rfl,trivial⟩
 have good:j<l.length→qL l j=aw→∃i':Nat,(i':Int)=au.wrap ((j:Int)+1)∧(i'≤l.length∧∀k<i',qL l k=aw)∧l.length-i'<l.length-j∧True:=fun hj e=>⟨j+1,by rw[w64 (by omega)];rfl,⟨by omega,fun k hk=>by
  rcases y2v k j with hk'|hk'
  ·exact h2 k hk'
  ·obtain rfl:k=j:=by omega
   exact e⟩,by omega,trivial⟩
 refine zJ (fun hj=> ?_) (fun hj=> ?_)
 ·have hj:j<l.length:=by omega
  obtain⟨n,hn⟩:=z8 hj
  have hg:l.getD j 0=n:=by simp[hn]
  refine⟨⟨by omega,by omega⟩,n,elI hn,zJ (fun c1=>bad hj (by simp[qL,hn];omega)) (fun c1=>zJ (fun c2=>bad hj (by simp[qL,hn];omega)) (fun c2=>zJ (fun c3=> ?_) (fun c3=>good hj ?_)))⟩
  ·have e:au.wrap ((j:Int)-1)=((j-1:Nat):Int):=by rw[w64 (by omega)];omega
   obtain⟨m,hm⟩:=z8 (l:=l) (i:=j-1) (by omega)
   rw[e]
   refine⟨⟨by omega,by omega⟩,m,elI hm,zJ (fun c4=>bad hj ?_) (fun c4=>good hj ?_)⟩
   ·simp[qL,hn,hm];omega
   ·simp[qL,hn,hm];omega
  ·simp[qL,hn];omega
 ·have e:(ae l.length).all (qL l)=aw:=zVf fun k hk=>h2 k (by omega)
  refine zJ (fun c=>⟨(),?_,trivial⟩) (fun c=>⟨(),?_,trivial⟩)
  ·rw[xC,e,y0n (show 2≤l.length by omega)]
   simp;omega
  ·rw[xC,y0k (show ¬2≤l.length by omega)];simp
theorem z8p:monthsC.ok Tryz.prog 152:=okw mixed gok0 0 (fun _=>[]) (fun _=>yIe) [] Tryz.func152 yKc
theorem zEv {f:Int→Int→Int} {l:List Int} {j:Nat} {n:Int} (h:l[j+1]? =az n):(l.take (j+2)).tail.foldl f ((l.take (j+2)).headD 0)=f ((l.take (j+1)).tail.foldl f ((l.take (j+1)).headD 0)) n:=by
 cases l with
 |nil=>simp at h
 |cons a l=>
  simp only[y1r]at h
  simp only[y1j,List.tail_cons,List.headD_cons]
  rw[y1i,h,y5o];rfl
theorem zXk {l:List Int} {n:Int} (h:l[0]? =az n) (f:Int→Int→Int):(l.take 1).tail.foldl f ((l.take 1).headD 0)=n:=by
 cases l with
 |nil=>simp at h
 |cons a l=>simpa using h
theorem yYg (l:List Int) (h:minC.cnd l):yXg l:=by
 obtain⟨h0,h⟩:0<l.length∧l.length≤1099511627776:=h
 unfold yXg j7 dI
 simp only[xD]
 obtain⟨n,hn⟩:=z8 h0
 refine zJ (fun c=>by omega) (fun c=>⟨⟨by omega,by omega⟩,n,elI hn,1,zXk hn min,rfl,fun j=>1≤j∧j≤l.length,fun j=>l.length-j,⟨by omega,by omega⟩,?_⟩)
 rintro j ⟨h1,h2⟩
 refine zJ (fun hj=> ?_) (fun hj=>⟨(),?_,trivial⟩)
 ·obtain⟨m,hm⟩:=z8 (l:=l) (i:=j) (by omega)
  refine⟨⟨by omega,by omega⟩,m,elI hm,j+1,?_,?_,⟨by omega,by omega⟩,by(first|omega|(dsimp only;omega)),trivial⟩
  ·obtain⟨k,rfl⟩:∃k,j=k+1:=⟨j-1,by omega⟩
   first
    |(rw[rC,zEv hm,← rC];done)
    |(rw[rC,zEv hm,← rC];generalize rC (l.take (k+1))=x;split<;>omega)
  ·rw[w64 (by omega)];rfl
 ·rw[y0p (by omega)]
theorem yPc:minC.ok Tryz.prog 154:=okw mixed gok0 0 (fun _=>[]) (fun l=>yZf l) [] Tryz.func154 yYg
theorem yYz (l:List Int) (h:maxC.cnd l):yWj l:=by
 obtain⟨h0,h⟩:0<l.length∧l.length≤1099511627776:=h
 unfold yWj j7 dI
 simp only[xD]
 obtain⟨n,hn⟩:=z8 h0
 refine zJ (fun c=>by omega) (fun c=>⟨⟨by omega,by omega⟩,n,elI hn,1,zXk hn max,rfl,fun j=>1≤j∧j≤l.length,fun j=>l.length-j,⟨by omega,by omega⟩,?_⟩)
 rintro j ⟨h1,h2⟩
 refine zJ (fun hj=> ?_) (fun hj=>⟨(),?_,trivial⟩)
 ·obtain⟨m,hm⟩:=z8 (l:=l) (i:=j) (by omega)
  refine⟨⟨by omega,by omega⟩,m,elI hm,j+1,?_,?_,⟨by omega,by omega⟩,by(first|omega|(dsimp only;omega)),trivial⟩
  ·obtain⟨k,rfl⟩:∃k,j=k+1:=⟨j-1,by omega⟩
   rw[rX,zEv hm,← rX]
   generalize rX (l.take (k+1))=x
   split<;>omega
  ·rw[w64 (by omega)];rfl
 ·rw[y0p (by omega)]
theorem ySo:maxC.ok Tryz.prog 155:=okw mixed gok0 0 (fun _=>[]) (fun l=>yZe l) [] Tryz.func155 yYz
open Go Cv Go.Proofs
@[reducible] def Prd.row (p:Prd):AObj:= .cells p.cells 25
structure zZm where
 p:Prd
 n:Int
structure zTp where
 p:Prd
 l:List Int
def qH (t n:Int):Bool:=n.tmod t !=0
def offC:Con:=con1 zZm (fun i=>[zA i.n,.nm 0 0]) (fun i=>[i.p.row]) (fun i=>1≤i.p.tick) (fun i=>yF (qH i.p.tick i.n)) (fun i=>[i.p.row])
@[reducible] def yWk:V:= .fn 191 [] [.nm 0 0]
def zHm (k:Option Nat):Int:=match k with
 |some k=>k
 |none=> -1
def idxC:Con:=con1 zTp (fun i=>[iV i.l,yWk]) (fun i=>[i.p.row]) (fun i=>1≤i.p.tick∧i.l.length≤1099511627776) (fun i=>zA (zHm (i.l.findIdx? (qH i.p.tick)))) (fun i=>[i.p.row])
def yYj (i:zTp):List SAnn:=[{ι:=Nat,slots:=fun j=>[(8,zA j)],rows:=fun _=>[]}]
def containsC:Con:=con1 zTp (fun i=>[iV i.l,yWk]) (fun i=>[i.p.row]) (fun i=>1≤i.p.tick∧i.l.length≤1099511627776) (fun i=>yF (i.l.any (qH i.p.tick))) (fun i=>[i.p.row])
def qD (p:Prd):Bool:=decide (1≤p.tick) && decide (p.tick≤1000) && !qH p.tick p.low && !qH p.tick p.high && !qH p.tick p.wide && !p.settle.any (qH p.tick)
def ticksC:Con:=con1 Prd (fun p=>[prdV p]) (fun _=>[]) Prd.small (fun p=>yF (qD p)) (fun _=>[])
def qB (p:Prd):Bool:=decide (p.low< -1000000)||decide (p.low≥p.high)||decide (p.high>1000000)||decide (p.wide<0)||decide (p.wide>p.high-p.low)
def xF (p:Prd):Bool:=decide (p.settle.length≠p.months.length)||decide (rC p.settle<p.low)||decide (rX p.settle>p.high)
def qZ (p:Prd):Bool:=decide (p.rule<1)||decide (p.rule>3)
def xW (p:Prd):Bool:=decide (p.top<0)||decide (p.top>1000000)||decide (p.least<1)||decide (p.least>1000)||decide (p.part<0)||decide (p.part>100)
def Prd.check (p:Prd):Int:=
 if !j0 p.code then 12 else if !xC p.months then 1 else if !qD p then 22 else if qB p then 23 else if xF p then 1 else if qZ p then 31 else if xW p then 24 else 0
def checkC:Con:=con1 Prd (fun p=>[prdV p]) (fun _=>[]) Prd.small (fun p=>zA p.check) (fun _=>[])
def Prd.count (p:Prd):Nat:=if p.check=0 then p.months.length+p.months.length*(p.months.length-1) / 2 else 0
def pcountC:Con:=con1 Prd (fun p=>[prdV p]) (fun _=>[]) Prd.small (fun p=>zA p.count) (fun _=>[])
structure cI where
 p:Prd
 n:Int
def yJ (n:Nat):Nat→Nat
 |0=>n
 |k+1=>yJ n k+(n-1-k)
def kK (n inst:Nat):Nat→Nat→Int×Int×Bool
 |0,_=>(0,0,av)
 |k+1,m=>if inst<yJ n m+(n-1-m)then(m,m+1+(inst-yJ n m:Nat),aw)else kK n inst k (m+1)
def Prd.legs (p:Prd) (i:Int):Int×Int×Bool:=
 if i<0∨(p.count:Int)≤i then(0,0,av)else if i<p.months.length then(i,i,av)else kK p.months.length i.toNat p.months.length 0
def legsC:Con:=con1 cI (fun i=>[prdV i.p,zA i.n]) (fun _=>[]) (fun i=>i.p.small) (fun i=> .tup [zA (i.p.legs i.n).1,zA (i.p.legs i.n).2.1,yF (i.p.legs i.n).2.2]) (fun _=>[])
structure r9 where
 p:Prd
 a:Int
 b:Int
def Prd.spread (p:Prd) (a b:Int):Int×Bool:=
 if p.check≠0∨a<0∨b≤a∨(p.months.length:Int)≤b then(0,av)else((yJ p.months.length a.toNat:Int)+b-a-1,aw)
def spreadC:Con:=con1 r9 (fun i=>[prdV i.p,zA i.a,zA i.b]) (fun _=>[]) (fun i=>i.p.small) (fun i=> .tup [zA (i.p.spread i.a i.b).1,yF (i.p.spread i.a i.b).2]) (fun _=>[])
def Prd.price (p:Prd) (i n:Int):Int:=
 if p.count=0 then 1 else if i<0∨(p.count:Int)≤i then 20 else if qH p.tick n then 22 else
 if n<(if(p.months.length:Int)≤i then-p.wide else p.low)∨(if(p.months.length:Int)≤i then p.wide else p.high)<n then 23 else 0
def priceC:Con:=con1 r9 (fun i=>[prdV i.p,zA i.a,zA i.b]) (fun _=>[]) (fun i=>i.p.small) (fun i=>zA (i.p.price i.a i.b)) (fun _=>[])
structure I2 where
 x:Int
 y:Int
@[reducible] def yO (n:Int):Prop:= -9223372036854775808≤n∧n≤9223372036854775807
def u0 (x y:Int):Int×Bool:=if yO (x+y)then(x+y,aw)else(0,av)
def uW (x y:Int):Int×Bool:=if yO (x-y)then(x-y,aw)else(0,av)
def addC:Con:=con1 I2 (fun i=>[zA i.x,zA i.y]) (fun _=>[]) (fun i=>yO i.x∧yO i.y) (fun i=> .tup [zA (u0 i.x i.y).1,yF (u0 i.x i.y).2]) (fun _=>[])
def subC:Con:=con1 I2 (fun i=>[zA i.x,zA i.y]) (fun _=>[]) (fun i=>yO i.x∧yO i.y) (fun i=> .tup [zA (uW i.x i.y).1,yF (uW i.x i.y).2]) (fun _=>[])
def yXe (i:cI):List SAnn:=[{ι:=Nat,slots:=fun m=>[(8,zA (yJ i.p.months.length m)),(33,zA m)],rows:=fun _=>[]}]
def yLe (i:r9):List SAnn:=[{ι:=Nat,slots:=fun m=>[(9,zA (yJ i.p.months.length m)),(33,zA m)],rows:=fun _=>[]}]
open Go Cv Go.Proofs
def yXn (i:zZm):Prop:=
 au=au∧i.p.tick≠0∧∃(a:Unit),qH i.p.tick i.n=(i.n.tmod i.p.tick !=0)∧sb i.p.code=sb i.p.code∧iE i.p.months=iE i.p.months∧i.p.tick=i.p.tick∧i.p.low=i.p.low∧i.p.high=i.p.high∧i.p.wide=i.p.wide∧i.p.rule=i.p.rule∧i.p.top=i.p.top∧i.p.least=i.p.least∧i.p.part=i.p.part∧iE i.p.settle=iE i.p.settle∧True
def yXk (i:zTp):Prop:=
 ∃(a:Nat),(↑a:Int)=0∧∃(b:Nat→Prop),∃(c:Nat→Nat),b a∧∀(d:Nat),b d→cnd (decide ((↑d:Int)<(↑(iE i.l).length:Int))) ((0≤(↑d:Int)∧(↑d:Int)<(↑(iE i.l).length:Int))∧∃(e:Int),zE (iE i.l) (↑d:Int).toNat 0 1=az [dI e]∧∃(f:zZm),f.n=e∧sb f.p.code=sb i.p.code∧iE f.p.months=iE i.p.months∧f.p.tick=i.p.tick∧f.p.low=i.p.low∧f.p.high=i.p.high∧f.p.wide=i.p.wide∧f.p.rule=i.p.rule∧f.p.top=i.p.top∧f.p.least=i.p.least∧f.p.part=i.p.part∧iE f.p.settle=iE i.p.settle∧1≤f.p.tick∧∀(g:Unit),True→cnd (qH f.p.tick f.n) (∃(h:Unit),zHm (ag (qH i.p.tick) i.l)=(↑d:Int)∧sb i.p.code=sb f.p.code∧iE i.p.months=iE f.p.months∧i.p.tick=f.p.tick∧i.p.low=f.p.low∧i.p.high=f.p.high∧i.p.wide=f.p.wide∧i.p.rule=f.p.rule∧i.p.top=f.p.top∧i.p.least=f.p.least∧i.p.part=f.p.part∧iE i.p.settle=iE f.p.settle∧True) (∃(h:Nat),(↑h:Int)=au.wrap ((↑d:Int)+1)∧b h∧c h<c d∧am (vI (cO 1 ((1:Nat)+(0:Nat)) ((1:Nat)-(1:Nat)) [((0:Nat),(0:Nat))]) f.p.cells) (25:bu)=i.p.row)) (∃(e:Unit),zHm (ag (qH i.p.tick) i.l)=(-1)∧sb i.p.code=sb i.p.code∧iE i.p.months=iE i.p.months∧i.p.tick=i.p.tick∧i.p.low=i.p.low∧i.p.high=i.p.high∧i.p.wide=i.p.wide∧i.p.rule=i.p.rule∧i.p.top=i.p.top∧i.p.least=i.p.least∧i.p.part=i.p.part∧iE i.p.settle=iE i.p.settle∧True)
def zPv (i:zTp):Prop:=
 ∃(a:zTp),iE a.l=iE i.l∧sb a.p.code=sb i.p.code∧iE a.p.months=iE i.p.months∧a.p.tick=i.p.tick∧a.p.low=i.p.low∧a.p.high=i.p.high∧a.p.wide=i.p.wide∧a.p.rule=i.p.rule∧a.p.top=i.p.top∧a.p.least=i.p.least∧a.p.part=i.p.part∧iE a.p.settle=iE i.p.settle∧(1≤a.p.tick∧a.l.length≤1099511627776)∧∀(b:Unit),True→∃(c:Unit),i.l.any (qH i.p.tick)=decide (zHm (ag (qH a.p.tick) a.l)≥0)∧sb i.p.code=sb a.p.code∧iE i.p.months=iE a.p.months∧i.p.tick=a.p.tick∧i.p.low=a.p.low∧i.p.high=a.p.high∧i.p.wide=a.p.wide∧i.p.rule=a.p.rule∧i.p.top=a.p.top∧i.p.least=a.p.least∧i.p.part=a.p.part∧iE i.p.settle=iE a.p.settle∧True
def yEo (p:Prd):Prop:=
 cnd (decide (p.tick<1)) (∃(a:Unit),qD p=av∧True) (cnd (decide (p.tick>1000)) (∃(a:Unit),qD p=av∧True) (∃(a:zZm),a.n=p.low∧sb a.p.code=sb p.code∧iE a.p.months=iE p.months∧a.p.tick=p.tick∧a.p.low=p.low∧a.p.high=p.high∧a.p.wide=p.wide∧a.p.rule=p.rule∧a.p.top=p.top∧a.p.least=p.least∧a.p.part=p.part∧iE a.p.settle=iE p.settle∧1≤a.p.tick∧∀(b:Unit),True→cnd (!qH a.p.tick a.n) (∃(c:zZm),c.n=a.p.high∧sb c.p.code=sb a.p.code∧iE c.p.months=iE a.p.months∧c.p.tick=a.p.tick∧c.p.low=a.p.low∧c.p.high=a.p.high∧c.p.wide=a.p.wide∧c.p.rule=a.p.rule∧c.p.top=a.p.top∧c.p.least=a.p.least∧c.p.part=a.p.part∧iE c.p.settle=iE a.p.settle∧1≤c.p.tick∧∀(d:Unit),True→cnd (!qH c.p.tick c.n) (∃(e:zZm),e.n=c.p.wide∧sb e.p.code=sb c.p.code∧iE e.p.months=iE c.p.months∧e.p.tick=c.p.tick∧e.p.low=c.p.low∧e.p.high=c.p.high∧e.p.wide=c.p.wide∧e.p.rule=c.p.rule∧e.p.top=c.p.top∧e.p.least=c.p.least∧e.p.part=c.p.part∧iE e.p.settle=iE c.p.settle∧1≤e.p.tick∧∀(f:Unit),True→cnd (!qH e.p.tick e.n) (∃(g:zTp),iE g.l=iE e.p.settle∧sb g.p.code=sb e.p.code∧iE g.p.months=iE e.p.months∧g.p.tick=e.p.tick∧g.p.low=e.p.low∧g.p.high=e.p.high∧g.p.wide=e.p.wide∧g.p.rule=e.p.rule∧g.p.top=e.p.top∧g.p.least=e.p.least∧g.p.part=e.p.part∧iE g.p.settle=iE e.p.settle∧(1≤g.p.tick∧g.l.length≤1099511627776)∧∀(h:Unit),True→∃(j:Unit),qD p=!g.l.any (qH g.p.tick)∧True) (∃(g:Unit),qD p=av∧True)) (∃(e:Unit),qD p=av∧True)) (∃(c:Unit),qD p=av∧True)))
def zY (a:Prd):Prop:=a.code.length≤1099511627776∧a.months.length≤1099511627776∧a.settle.length≤1099511627776
def wL (a:Prd):=(↑(iE a.settle).length:Int)
def xA (a:Prd):=(↑(iE a.months).length:Int)
def yCv (p:Prd):Prop:=
 ∃(a:List UInt8),sb a=sb p.code∧a.length≤1099511627776∧∀(b:Unit),True→cnd (!j0 a) (∃(c:Unit),p.check=12∧True) (∃(c:List Int),iE c=iE p.months∧c.length≤1099511627776∧∀(d:Unit),True→cnd (!xC c) (∃(e:Unit),p.check=1∧True) (∃(e:Prd),sb e.code=sb p.code∧iE e.months=iE p.months∧e.tick=p.tick∧e.low=p.low∧e.high=p.high∧e.wide=p.wide∧e.rule=p.rule∧e.top=p.top∧e.least=p.least∧e.part=p.part∧iE e.settle=iE p.settle∧(zY e)∧∀(f:Unit),True→cnd (!qD e) (∃(g:Unit),p.check=22∧True) (cnd (decide (p.low<(-1000000))) (∃(g:Unit),p.check=23∧True) (cnd (decide (p.low≥p.high)) (∃(g:Unit),p.check=23∧True) (cnd (decide (p.high>1000000)) (∃(g:Unit),p.check=23∧True) (cnd (decide (p.wide<0)) (∃(g:Unit),p.check=23∧True) (cnd (decide (p.wide>au.wrap (p.high-p.low))) (∃(g:Unit),p.check=23∧True) (cnd ((wL p) !=(xA p)) (∃(g:Unit),p.check=1∧True) (∃(g:List Int),iE g=iE p.settle∧(0<g.length∧g.length≤1099511627776)∧∀(h:Unit),True→p.low=p.low∧cnd (decide (rC g<p.low)) (∃(j:Unit),p.check=1∧True) (∃(j:List Int),iE j=iE p.settle∧(0<j.length∧j.length≤1099511627776)∧∀(k:Unit),True→p.high=p.high∧cnd (decide (rX j>p.high)) (∃(l:Unit),p.check=1∧True) (cnd (decide (p.rule<1)) (∃(l:Unit),p.check=31∧True) (cnd (decide (p.rule>3)) (∃(l:Unit),p.check=31∧True) (cnd (decide (p.top<0)) (∃(l:Unit),p.check=24∧True) (cnd (decide (p.top>1000000)) (∃(l:Unit),p.check=24∧True) (cnd (decide (p.least<1)) (∃(l:Unit),p.check=24∧True) (cnd (decide (p.least>1000)) (∃(l:Unit),p.check=24∧True) (cnd (decide (p.part<0)) (∃(l:Unit),p.check=24∧True) (cnd (decide (p.part>100)) (∃(l:Unit),p.check=24∧True) (∃(l:Unit),p.check=0∧True)))))))))))))))))))
def pW (a:Prd) (b:Prd):Prop:=sb a.code=sb b.code∧iE a.months=iE b.months∧a.tick=b.tick∧a.low=b.low∧a.high=b.high∧a.wide=b.wide∧a.rule=b.rule∧a.top=b.top∧a.least=b.least∧a.part=b.part∧iE a.settle=iE b.settle∧(zY a)∧∀(c:Unit),True→cnd (a.check !=0) (∃(d:Unit),(↑b.count:Int)=0∧True) (au=au∧(2:Int)≠(0:Int)∧∃(d:Unit),(↑b.count:Int)=au.wrap ((xA b)+au.wrap ((au.wrap ((xA b)*au.wrap ((xA b)-1))).tdiv 2))∧True)
def z3o (p:Prd):Prop:=
 ∃(a:Prd),pW a p
def pK (a:cI):Prop:=am [V.d (D.v (bg (sb a.p.code))),V.own 0,V.d (dI a.p.tick),V.d (dI a.p.low),V.d (dI a.p.high),V.d (dI a.p.wide),V.d (dI a.p.rule),V.d (dI a.p.top),V.d (dI a.p.least),V.d (dI a.p.part),V.own ((0:Nat)+(1:Nat))] 25=am [V.d (D.v (bg (sb a.p.code))),V.own 0,V.d (dI a.p.tick),V.d (dI a.p.low),V.d (dI a.p.high),V.d (dI a.p.wide),V.d (dI a.p.rule),V.d (dI a.p.top),V.d (dI a.p.least),V.d (dI a.p.part),V.own ((0:Nat)+(1:Nat))] 25∧ak 1 (iE a.p.settle)=ak 1 (iE a.p.settle)∧ak 1 (iE a.p.months)=ak 1 (iE a.p.months)
def zCk (a:Nat→Prop) (b:Nat) (c:Nat→Nat) (d:Nat) (e:cI):Prop:=a b∧c b<c d∧pK e
def uF (a:cI) (b:Nat):=(↑(yJ a.p.months.length b):Int)
def wX (a:cI):=(↑(iE a.p.months).length:Int)
def zFo (a:cI) (b:Nat):=((uF a b)+au.wrap (au.wrap ((wX a)-1)-(↑b:Int)))
def gY (a:cI):Prop:=∃(b:Unit),(a.p.legs a.n).fst=0∧(a.p.legs a.n).snd.fst=0∧(a.p.legs a.n).snd.snd=av∧True
def eV (a:cI):Prop:=∃(b:Unit),(a.p.legs a.n).fst=a.n∧(a.p.legs a.n).snd.fst=a.n∧(a.p.legs a.n).snd.snd=av∧True
def yNg (i:cI):Prop:=
 ∃(a:Prd),sb a.code=sb i.p.code∧iE a.months=iE i.p.months∧a.tick=i.p.tick∧a.low=i.p.low∧a.high=i.p.high∧a.wide=i.p.wide∧a.rule=i.p.rule∧a.top=i.p.top∧a.least=i.p.least∧a.part=i.p.part∧iE a.settle=iE i.p.settle∧(zY a)∧∀(b:Unit),True→cnd (decide (i.n<0)) (gY i) (cnd (decide (i.n≥(↑a.count:Int))) (gY i) (cnd (decide (i.n<(wX i))) (eV i) (∃(c:Nat),(uF i c)=(wX i)∧(↑c:Int)=0∧∃(d:Nat→Prop),∃(e:Nat→Nat),d c∧∀(f:Nat),d f→cnd (decide ((↑f:Int)<(wX i))) (cnd (decide (i.n<au.wrap (zFo i f))) (∃(g:Unit),(i.p.legs i.n).fst=(↑f:Int)∧(i.p.legs i.n).snd.fst=au.wrap (au.wrap (au.wrap ((↑f:Int)+1)+i.n)-(uF i f))∧(i.p.legs i.n).snd.snd=aw∧True) (∃(g:Nat),(uF i g)=au.wrap (zFo i f)∧(↑g:Int)=au.wrap ((↑f:Int)+1)∧zCk d g e f i)) (gY i))))
def cG (a:r9):Prop:=∃(b:Unit),(a.p.spread a.a a.b).fst=0∧(a.p.spread a.a a.b).snd=av∧True
def z5a (i:r9):Prop:=
 ∃(a:Prd),sb a.code=sb i.p.code∧iE a.months=iE i.p.months∧a.tick=i.p.tick∧a.low=i.p.low∧a.high=i.p.high∧a.wide=i.p.wide∧a.rule=i.p.rule∧a.top=i.p.top∧a.least=i.p.least∧a.part=i.p.part∧iE a.settle=iE i.p.settle∧(zY a)∧∀(b:Unit),True→cnd (a.check !=0) (cG i) (cnd (decide (i.a<0)) (cG i) (cnd (decide (i.a≥i.b)) (cG i) (cnd (decide (i.b≥(↑(iE i.p.months).length:Int))) (cG i) (∃(c:Nat),(↑(yJ i.p.months.length c):Int)=(↑(iE i.p.months).length:Int)∧(↑c:Int)=0∧∃(d:Nat→Prop),∃(e:Nat→Nat),d c∧∀(f:Nat),d f→cnd (decide ((↑f:Int)<i.a)) (∃(g:Nat),(↑(yJ i.p.months.length g):Int)=au.wrap ((↑(yJ i.p.months.length f):Int)+au.wrap (au.wrap ((↑(iE i.p.months).length:Int)-1)-(↑f:Int)))∧(↑g:Int)=au.wrap ((↑f:Int)+1)∧d g∧e g<e f∧am [V.d (D.v (bg (sb i.p.code))),V.own 0,V.d (dI i.p.tick),V.d (dI i.p.low),V.d (dI i.p.high),V.d (dI i.p.wide),V.d (dI i.p.rule),V.d (dI i.p.top),V.d (dI i.p.least),V.d (dI i.p.part),V.own ((0:Nat)+(1:Nat))] 25=am [V.d (D.v (bg (sb i.p.code))),V.own 0,V.d (dI i.p.tick),V.d (dI i.p.low),V.d (dI i.p.high),V.d (dI i.p.wide),V.d (dI i.p.rule),V.d (dI i.p.top),V.d (dI i.p.least),V.d (dI i.p.part),V.own ((0:Nat)+(1:Nat))] 25∧ak 1 (iE i.p.settle)=ak 1 (iE i.p.settle)∧ak 1 (iE i.p.months)=ak 1 (iE i.p.months)) (∃(g:Unit),(i.p.spread i.a i.b).fst=au.wrap (au.wrap (au.wrap ((↑(yJ i.p.months.length f):Int)+i.b)-i.a)-1)∧(i.p.spread i.a i.b).snd=aw∧True)))))
def yCb (i:r9):Prop:=
 ∃(a:Prd),sb a.code=sb i.p.code∧iE a.months=iE i.p.months∧a.tick=i.p.tick∧a.low=i.p.low∧a.high=i.p.high∧a.wide=i.p.wide∧a.rule=i.p.rule∧a.top=i.p.top∧a.least=i.p.least∧a.part=i.p.part∧iE a.settle=iE i.p.settle∧(zY a)∧∀(b:Unit),True→cnd ((↑a.count:Int)==0) (∃(c:Unit),i.p.price i.a i.b=1∧True) (cnd (decide (i.a<0)) (∃(c:Unit),i.p.price i.a i.b=20∧True) (cnd (decide (i.a≥(↑a.count:Int))) (∃(c:Unit),i.p.price i.a i.b=20∧True) (au=au∧i.p.tick≠0∧cnd (i.b.tmod i.p.tick !=0) (∃(c:Unit),i.p.price i.a i.b=22∧True) (cnd (decide (i.a≥(↑(iE i.p.months).length:Int))) (cnd (decide (i.b<au.wrap (0-i.p.wide))) (∃(c:Unit),i.p.price i.a i.b=23∧True) (cnd (decide (i.b>i.p.wide)) (∃(c:Unit),i.p.price i.a i.b=23∧True) (∃(c:Unit),i.p.price i.a i.b=0∧True))) (cnd (decide (i.b<i.p.low)) (∃(c:Unit),i.p.price i.a i.b=23∧True) (cnd (decide (i.b>i.p.high)) (∃(c:Unit),i.p.price i.a i.b=23∧True) (∃(c:Unit),i.p.price i.a i.b=0∧True)))))))
def zNs (a:I2):Prop:=∃(b:Unit),(u0 a.x a.y).fst=au.wrap (a.x+a.y)∧(u0 a.x a.y).snd=aw∧True
def yXp (i:I2):Prop:=
 cnd (decide (i.x<0)==decide (i.y<0)) (cnd (!decide (au.wrap (i.x+i.y)<0)==decide (i.x<0)) (∃(a:Unit),(u0 i.x i.y).fst=0∧(u0 i.x i.y).snd=av∧True) (zNs i)) (zNs i)
def zKj (a:I2):Prop:=∃(b:Unit),(uW a.x a.y).fst=au.wrap (a.x-a.y)∧(uW a.x a.y).snd=aw∧True
def yUk (i:I2):Prop:=
 cnd (!decide (i.x<0)==decide (i.y<0)) (cnd (!decide (au.wrap (i.x-i.y)<0)==decide (i.x<0)) (∃(a:Unit),(uW i.x i.y).fst=0∧(uW i.x i.y).snd=av∧True) (zKj i)) (zKj i)
open Go Cv Go.Proofs
theorem yYq (i:zZm) (h:offC.cnd i):yXn i:=by
 have h:1≤i.p.tick:=h
 unfold yXn;exact kp
theorem yHb:offC.ok Tryz.prog 191:=okw mixed gok0 0 (fun _=>[]) (fun _=>[]) [] Tryz.func191 yYq
theorem zFf {α:Type} {f:α→Bool} {l:List α} (h:∀(k:Nat) (x:α),l[k]? =az x→f x=av):l.findIdx? f=bc:=by
 rw[y4g]
 intro x hx
 obtain⟨k,hk⟩:=List.getElem?_of_mem hx
 exact h k x hk
theorem zGt {α:Type} {f:α→Bool} {l:List α} {j:Nat} {x:α} (h1:l[j]? =az x) (h2:f x=aw) (h:∀k<j,∀x:α,l[k]? =az x→f x=av):l.findIdx? f=az j:=by
 rw[y3b]
 obtain⟨hj,rfl⟩:=yZz.1 h1
 exact⟨hj,h2,fun k hk=>by rw[h k hk _ (y1g (by omega))];simp⟩
theorem yYs (i:zTp) (h:idxC.cnd i):yXk i:=by
 obtain⟨h1,h2⟩:1≤i.p.tick∧i.l.length≤1099511627776:=h
 unfold yXk dI
 simp only[xD]
 refine⟨0,rfl,fun j=>j≤i.l.length∧∀k<j,∀x,i.l[k]? =az x→qH i.p.tick x=av,fun j=>i.l.length-j,⟨by omega,fun k hk=>by omega⟩,?_⟩
 rintro j ⟨h3,h4⟩
 refine zJ (fun hj=> ?_) (fun hj=> ?_)
 ·obtain⟨n,hn⟩:=z8 (l:=i.l) (i:=j) (by omega)
  refine⟨⟨by omega,by omega⟩,n,elI hn,⟨i.p,n⟩,?_⟩
  (repeat'(first|exact rfl|exact trivial|assumption|apply ay|refine fun(_:Unit) (_:True)=>?_|refine ax () ?_|omega|(dsimp only;omega)))
  refine Cv.cnd.mk (fun e=> ?_) (fun e=> ?_)
  ·rw[zGt hn e h4];exact kp
  ·refine⟨j+1,by rw[w64 (by omega)];rfl,⟨by omega,fun k hk x hx=> ?_⟩,by(first|omega|(dsimp only;omega)),rfl⟩
   rcases y2v k j with hk'|hk'
   ·exact h4 k hk' x hx
   ·obtain rfl:k=j:=by omega
    rw[hn]at hx;cases hx;exact e
 ·rw[zFf fun k x hx=>h4 k (by have:=(yZz.1 hx).1;omega) x hx];exact kp
theorem yTd:idxC.ok Tryz.prog 227:=okw mixed (gokc yHb gok0) 0 (fun _=>[]) (fun i=>yYj i) [] Tryz.func227 yYs
theorem z6o {l:List Int} {f:Int→Bool}:l.any f=decide (zHm (l.findIdx? f)≥0):=by
 cases hf:l.findIdx? f with
 |none=>
  rw[y4g]at hf
  have:l.any f=av:=by rw[y6h];intro x hx;simp[hf x hx]
  rw[this];rfl
 |some k=>
  rw[y3b]at hf
  obtain⟨hk,h1,_⟩:=hf
  have:l.any f=aw:=by rw[List.any_eq_true];exact⟨_,List.getElem_mem hk,h1⟩
  rw[this,zHm,y0n (by omega)]
theorem z6v (i:zTp) (h:containsC.cnd i):zPv i:=by
 unfold zPv
 have h':1≤i.p.tick∧i.l.length≤1099511627776:=h
 refine⟨i,?_⟩
 (repeat'(first|exact rfl|exact trivial|assumption|apply ay|refine fun(_:Unit) (_:True)=>?_|refine ax () ?_|omega|(dsimp only;omega)))
 exact z6o
theorem zXj:containsC.ok Tryz.prog 192:=okw mixed (gokc yTd gok0) 0 (fun _=>[]) (fun _=>[]) [] Tryz.func192 z6v
theorem ySn (p:Prd) (h:ticksC.cnd p):yEo p:=by
 obtain⟨h1,h2,h3⟩:p.small:=h
 unfold yEo
 refine zJ (fun c1=>⟨(),by rw[qD,y0k (by omega)];rfl,trivial⟩) (fun c1=>zJ (fun c2=>⟨(),by rw[qD,y0k (show ¬p.tick≤1000 by omega)];simp,trivial⟩) (fun c2=>⟨⟨p,p.low⟩,?_⟩))
 have e1:qD p=(!qH p.tick p.low && !qH p.tick p.high && !qH p.tick p.wide && !p.settle.any (qH p.tick)):=by
  rw[qD,y0n (by omega),y0n (by omega)];rfl
 rw[e1]
 (repeat'(first|exact rfl|exact trivial|assumption|apply ay|refine fun(_:Unit) (_:True)=>?_|refine ax () ?_|omega|(dsimp only;omega)))
 refine Cv.cnd.mk (fun c3=>⟨⟨p,p.high⟩,?_⟩) (fun c3=>⟨(),?_,trivial⟩)
 ·dsimp only at c3
  (repeat'(first|exact rfl|exact trivial|assumption|apply ay|refine fun(_:Unit) (_:True)=>?_|refine ax () ?_|omega|(dsimp only;omega)))
  refine Cv.cnd.mk (fun c4=>⟨⟨p,p.wide⟩,?_⟩) (fun c4=>⟨(),?_,trivial⟩)
  ·dsimp only at c4
   (repeat'(first|exact rfl|exact trivial|assumption|apply ay|refine fun(_:Unit) (_:True)=>?_|refine ax () ?_|omega|(dsimp only;omega)))
   refine Cv.cnd.mk (fun c5=>⟨⟨p,p.settle⟩,?_⟩) (fun c5=>⟨(),?_,trivial⟩)
   ·dsimp only at c5
    (repeat'(first|exact rfl|exact trivial|assumption|apply ay|refine fun(_:Unit) (_:True)=>?_|refine ax () ?_|omega|(dsimp only;omega)))
    rw[c3,c4,c5];simp
   ·dsimp only at c5
    rw[c5];simp
  ·dsimp only at c4
   rw[c4];simp
 ·dsimp only at c3
  rw[c3];simp
theorem yBf:ticksC.ok Tryz.prog 153:=okw mixed (gokc yHb (gokc zXj gok0)) 0 (fun _=>[]) (fun _=>[]) [] Tryz.func153 ySn
theorem yPx (p:Prd) (h:checkC.cnd p):yCv p:=by
 obtain⟨h1,h2,h3⟩:p.small:=h
 unfold yCv xA wL zY
 simp only[xD]
 refine⟨p.code,rfl,h1,fun _ _=>Cv.cnd.mk (fun c1=>⟨(),by rw[Prd.check,yZy c1],trivial⟩) (fun c1=>⟨p.months,rfl,h2,fun _ _=>Cv.cnd.mk (fun c2=>⟨(),by rw[Prd.check,yZx (by simp[c1]),yZy c2],trivial⟩) (fun c2=>⟨p,?_⟩)⟩)⟩
 (repeat'(first|exact rfl|exact trivial|assumption|apply ay|refine fun(_:Unit) (_:True)=>?_|refine ax () ?_|omega|(dsimp only;omega)))
 refine Cv.cnd.mk (fun c3=>⟨(),by rw[Prd.check,yZx (by simp[c1]),yZx (by simp[c2]),yZy c3],trivial⟩) (fun c3=> ?_)
 have e0:p.check=if qB p then 23 else if xF p then 1 else if qZ p then 31 else if xW p then 24 else 0:=by
  rw[Prd.check,yZx (by simp[c1]),yZx (by simp[c2]),yZx (by simp[c3])]
 have b (hb:qB p=aw):∃(o:Unit),p.check=23∧True:=⟨(),by rw[e0,yZy hb],trivial⟩
 refine zJ (fun d1=>b (by simp[qB,d1])) fun d1=>zJ (fun d2=>b (by simp[qB];omega)) fun d2=>zJ (fun d3=>b (by simp[qB];omega)) fun d3=>zJ (fun d4=>b (by simp[qB];omega)) fun d4=> ?_
 rw[w64 (by omega)]
 refine zJ (fun d5=>b (by simp[qB];omega)) fun d5=> ?_
 have e1:p.check=if xF p then 1 else if qZ p then 31 else if xW p then 24 else 0:=by
  rw[e0,yZx (by simp[qB];omega)]
 have s (hb:xF p=aw):∃(o:Unit),p.check=1∧True:=⟨(),by rw[e1,yZy hb],trivial⟩
 have hm:2≤p.months.length:=by
  have c2:xC p.months=aw:=by simpa using c2
  simp[xC]at c2;omega
 refine Cv.cnd.mk (fun d6=>s (by have d6:¬(p.settle.length:Int)=p.months.length:=(by simpa using d6);simp[xF];omega)) fun d6=> ?_
 have d6:p.settle.length=p.months.length:=by
  have:(p.settle.length:Int)=p.months.length:=by simpa using d6
  omega
 refine⟨p.settle,rfl,⟨by omega,by omega⟩,fun _ _=>⟨kp,zJ (fun d7=>s (by simp[xF];left;right;omega)) fun d7=>⟨p.settle,rfl,⟨by omega,by omega⟩,fun _ _=>⟨kp,zJ (fun d8=>s (by simp[xF];right;omega)) fun d8=> ?_⟩⟩⟩⟩
 have e2:p.check=if qZ p then 31 else if xW p then 24 else 0:=by
  rw[e1,yZx (by simp[xF];omega)]
 have r (hb:qZ p=aw):∃(o:Unit),p.check=31∧True:=⟨(),by rw[e2,yZy hb],trivial⟩
 refine zJ (fun d9=>r (by simp[qZ];omega)) fun d9=>zJ (fun d10=>r (by simp[qZ];omega)) fun d10=> ?_
 have e3:p.check=if xW p then 24 else 0:=by
  rw[e2,yZx (by simp[qZ];omega)]
 have q (hb:xW p=aw):∃(o:Unit),p.check=24∧True:=⟨(),by rw[e3,yZy hb],trivial⟩
 refine zJ (fun f1=>q (by simp[xW];omega)) fun f1=>zJ (fun f2=>q (by simp[xW];omega)) fun f2=>zJ (fun f3=>q (by simp[xW];omega)) fun f3=>zJ (fun f4=>q (by simp[xW];omega)) fun f4=>zJ (fun f5=>q (by simp[xW];omega)) fun f5=>zJ (fun f6=>q (by simp[xW];omega)) fun f6=> ?_
 exact⟨(),by rw[e3,yZx (by simp[xW];omega)],trivial⟩
theorem tH:checkC.ok Tryz.prog 104:=okw mixed (gokc yPy (gokc z8p (gokc yBf (gokc yPc (gokc ySo gok0))))) 0 (fun _=>[]) (fun _=>[]) [] Tryz.func104 yPx
structure Prd.Ok (p:Prd):Prop where
 sym:j0 p.code=aw
 months:xC p.months=aw
 ticks:qD p=aw
 m2:2≤p.months.length
 m6:p.months.length≤6
 t1:1≤p.tick
 t2:p.tick≤1000
 b1: -1000000≤p.low
 b2:p.low<p.high
 b3:p.high≤1000000
 b4:0≤p.wide
 b5:p.wide≤p.high-p.low
 s1:p.settle.length=p.months.length
 s2:p.low≤rC p.settle
 s3:rX p.settle≤p.high
 r1:1≤p.rule
 r2:p.rule≤3
 q1:0≤p.top
 q2:p.top≤1000000
 q3:1≤p.least
 q4:p.least≤1000
 q5:0≤p.part
 q6:p.part≤100
theorem jR {p:Prd} (h:p.check=0):p.Ok:=by
 unfold Prd.check at h
 split at h<;>first|(exfalso;revert h;decide)|skip
 rename_i c1
 split at h<;>first|(exfalso;revert h;decide)|skip
 rename_i c2
 split at h<;>first|(exfalso;revert h;decide)|skip
 rename_i c3
 split at h<;>first|(exfalso;revert h;decide)|skip
 rename_i c4
 split at h<;>first|(exfalso;revert h;decide)|skip
 rename_i c5
 split at h<;>first|(exfalso;revert h;decide)|skip
 rename_i c6
 split at h<;>first|(exfalso;revert h;decide)|skip
 rename_i c7
 simp only[y4e,Bool.not_eq_false,Bool.not_eq_true]at c1 c2 c3
 have m:=c2
 have t:=c3
 simp[xC]at m
 simp[qD]at t
 simp[qB]at c4
 simp[xF]at c5
 simp[qZ]at c6
 simp[xW]at c7
 exact⟨c1,c2,c3,by omega,by omega,by omega,by omega,by omega,by omega,by omega,by omega,by omega,by omega,by omega,by omega,by omega,by omega,by omega,by omega,by omega,by omega,by omega,by omega⟩
theorem z9r {n:Nat} (h:n≤6):n+n*(n-1) / 2≤21:=by
 have:∀n≤6,n+n*(n-1) / 2≤21:=by decide
 exact this n h
theorem yHz (p:Prd) (h:pcountC.cnd p):z3o p:=by
 unfold z3o pW xA zY
 obtain⟨h1,h2,h3⟩:p.small:=h
 refine⟨p,?_⟩
 simp only[xD]
 (repeat'(first|exact rfl|exact trivial|assumption|apply ay|refine fun(_:Unit) (_:True)=>?_|refine ax () ?_|omega|(dsimp only;omega)))
 refine Cv.cnd.mk (fun c=>⟨(),by rw[Prd.count,yZx (by simpa using c)];rfl,trivial⟩) (fun c=> ?_)
 have c:p.check=0:=by simpa using c
 have ok:=jR c
 refine⟨kp,by decide,(),?_,trivial⟩
 rw[Prd.count,yZy c]
 obtain⟨n,hn⟩:∃n,p.months.length=n:=⟨_,rfl⟩
 have m2:=ok.m2
 have m6:=ok.m6
 rw[hn]at m2 m6 ⊢
 have:n=2∨n=3∨n=4∨n=5∨n=6:=by omega
 rcases this with rfl|rfl|rfl|rfl|rfl<;>rfl
theorem bI:pcountC.ok Tryz.prog 106:=okw mixed (gokc tH gok0) 0 (fun _=>[]) (fun _=>[]) [] Tryz.func106 yHz
theorem sG {p:Prd} (h:p.count≠0):p.check=0:=by
 unfold Prd.count at h
 split at h
 ·assumption
 ·exact absurd rfl h
theorem xQ (p:Prd):p.count≤21:=by
 unfold Prd.count
 split
 ·rename_i h;exact z9r (jR h).m6
 ·omega
theorem zLb {n m:Nat} (h:n≤6) (hm:m≤n):yJ n m≤21:=by
 have:∀n≤6,∀m≤n,yJ n m≤21:=by decide
 exact this n h m hm
theorem yUq (i:cI) (h:legsC.cnd i):yNg i:=by
 unfold yNg zCk pK eV gY zFo wX uF zY dI
 obtain⟨h1,h2,h3⟩:i.p.small:=h
 refine⟨i.p,?_⟩
 simp only[xD]
 (repeat'(first|exact rfl|exact trivial|assumption|apply ay|refine fun(_:Unit) (_:True)=>?_|refine ax () ?_|omega|(dsimp only;omega)))
 refine zJ (fun c1=> ?_) (fun c1=>zJ (fun c2=> ?_) (fun c2=> ?_))
 ·rw[Prd.legs,yZy (by omega)];exact kp
 ·rw[Prd.legs,yZy (by omega)];exact kp
 have c2:¬i.n≥(i.p.count:Int):=c2
 have hc:=xQ i.p
 have ok:=jR (sG (p:=i.p) (by omega))
 have m6:=ok.m6
 refine zJ (fun c3=> ?_) (fun c3=> ?_)
 ·rw[Prd.legs,yZx (by omega),yZy c3];exact kp
 have e0:i.p.legs i.n=kK i.p.months.length i.n.toNat i.p.months.length 0:=by
  rw[Prd.legs,yZx (by omega),yZx c3]
 rw[e0]
 generalize hn:i.p.months.length=n at c3 m6 ⊢
 obtain⟨k,hk⟩:∃k:Nat,i.n=k:=⟨i.n.toNat,by omega⟩
 rw[hk]at c2 c3 ⊢
 refine⟨0,rfl,rfl,fun m=>m≤n∧yJ n m≤k∧kK n k n 0=kK n k (n-m) m,fun m=>n-m,⟨by omega,by show n≤k;omega,rfl⟩,?_⟩
 rintro m ⟨g1,g2,g3⟩
 have hf:=zLb m6 g1
 refine zJ (fun c4=> ?_) (fun c4=> ?_)
 ·obtain⟨r,hr⟩:∃r,n-m=r+1:=⟨n-m-1,by omega⟩
  have e1:(k:Int).toNat=k:=by omega
  rw[e1,g3,hr,w64 (x:=(n:Int)-1) (by omega),w64 (x:=(n:Int)-1-m) (by omega),w64 (x:=(yJ n m:Int)+((n:Int)-1-m)) (by omega),w64 (x:=(m:Int)+1) (by omega)]
  rw[hr]at g3
  refine zJ (fun c5=> ?_) (fun c5=> ?_)
  ·rw[w64 (x:=(m:Int)+1+k) (by omega),w64 (x:=(m:Int)+1+k-(yJ n m:Int)) (by omega),kK,yZy (by omega)]
   refine⟨(),rfl,?_,rfl,trivial⟩
   dsimp only;omega
  ·refine⟨m+1,?_,rfl,⟨by omega,?_,?_⟩,by(first|omega|(dsimp only;omega)),kp⟩
   ·rw[yJ];omega
   ·rw[yJ];omega
   ·rw[kK,yZx (by omega),show n-(m+1)=r by omega]
 ·have e1:(k:Int).toNat=k:=by omega
  rw[e1,g3,show n-m=0 by omega]
  exact⟨(),rfl,rfl,rfl,trivial⟩
theorem lU:legsC.ok Tryz.prog 196:=okw mixed (gokc bI gok0) 0 (fun _=>[]) (fun i=>yXe i) [] Tryz.func196 yUq
theorem yJf (i:r9) (h:spreadC.cnd i):z5a i:=by
 unfold z5a cG zY dI
 obtain⟨h1,h2,h3⟩:i.p.small:=h
 refine⟨i.p,?_⟩
 simp only[xD]
 (repeat'(first|exact rfl|exact trivial|assumption|apply ay|refine fun(_:Unit) (_:True)=>?_|refine ax () ?_|omega|(dsimp only;omega)))
 have bad (hb:i.p.check≠0∨i.a<0∨i.b≤i.a∨(i.p.months.length:Int)≤i.b):∃(o:Unit),(i.p.spread i.a i.b).fst=0∧(i.p.spread i.a i.b).snd=av∧True:=⟨(),by rw[Prd.spread,yZy hb],by rw[Prd.spread,yZy hb],trivial⟩
 refine Cv.cnd.mk (fun c1=>bad (.inl (by simpa using c1))) fun c1=>zJ (fun c2=>bad (by omega)) fun c2=>zJ (fun c3=>bad (by omega)) fun c3=>zJ (fun c4=>bad (by omega)) fun c4=> ?_
 have c1:i.p.check=0:=by simpa using c1
 have m6:=(jR c1).m6
 rw[Prd.spread,yZx (by omega)]
 generalize hn:i.p.months.length=n at c4 m6 ⊢
 obtain⟨a,ha⟩:∃k:Nat,i.a=k:=⟨i.a.toNat,by omega⟩
 rw[ha]at c3 ⊢
 refine⟨0,rfl,rfl,fun m=>m≤a,fun m=>a-m,by omega,?_⟩
 intro m hm
 have hm:m≤a:=hm
 have hf:=zLb (m:=m) m6 (by omega)
 refine zJ (fun c5=> ?_) (fun c5=> ?_)
 ·rw[w64 (x:=(n:Int)-1) (by omega),w64 (x:=(n:Int)-1-m) (by omega),w64 (x:=(yJ n m:Int)+((n:Int)-1-m)) (by omega),w64 (x:=(m:Int)+1) (by omega)]
  refine⟨m+1,?_,rfl,by omega,by(first|omega|(dsimp only;omega)),kp⟩
  rw[yJ];omega
 ·obtain rfl:m=a:=by omega
  rw[w64 (x:=(yJ n m:Int)+i.b) (by omega),w64 (x:=(yJ n m:Int)+i.b-m) (by omega),w64 (x:=(yJ n m:Int)+i.b-m-1) (by omega)]
  exact⟨(),rfl,rfl,trivial⟩
theorem zOx:spreadC.ok Tryz.prog 199:=okw mixed (gokc tH gok0) 0 (fun _=>[]) (fun i=>yLe i) [] Tryz.func199 yJf
theorem yTp (i:r9) (h:priceC.cnd i):yCb i:=by
 unfold yCb zY
 obtain⟨h1,h2,h3⟩:i.p.small:=h
 refine⟨i.p,?_⟩
 simp only[xD]
 (repeat'(first|exact rfl|exact trivial|assumption|apply ay|refine fun(_:Unit) (_:True)=>?_|refine ax () ?_|omega|(dsimp only;omega)))
 refine Cv.cnd.mk (fun c1=>⟨(),by rw[Prd.price,yZy (by have:(i.p.count:Int)=0:=(by simpa using c1);omega)],trivial⟩) fun c1=> ?_
 have c1:i.p.count≠0:=by
  have:¬(i.p.count:Int)=0:=by simpa using c1
  omega
 have e0:i.p.price i.a i.b=if i.a<0∨(i.p.count:Int)≤i.a then 20 else if qH i.p.tick i.b then 22 else
  if i.b<(if(i.p.months.length:Int)≤i.a then-i.p.wide else i.p.low)∨(if(i.p.months.length:Int)≤i.a then i.p.wide else i.p.high)<i.b then 23 else 0:=by rw[Prd.price,yZx c1]
 rw[e0]
 have ok:=jR (sG c1)
 obtain⟨t1,b3,b1,b2,b4,b5⟩:=(⟨ok.t1,ok.b3,ok.b1,ok.b2,ok.b4,ok.b5⟩:_∧_∧_∧_∧_∧_)
 refine zJ (fun c2=>⟨(),by rw[yZy (.inl c2)],trivial⟩) fun c2=>zJ (fun c3=>⟨(),by rw[yZy (.inr c3)],trivial⟩) fun c3=>⟨kp,by omega,?_⟩
 have c3:¬i.a≥(i.p.count:Int):=c3
 rw[yZx (by omega)]
 refine Cv.cnd.mk (fun c4=>⟨(),yZy c4,trivial⟩) fun c4=> ?_
 rw[yZx (by rw[qH,c4];simp),w64 (x:=0-i.p.wide) (by omega)]
 refine zJ (fun c5=> ?_) (fun c5=> ?_)
 ·have c5:(i.p.months.length:Int)≤i.a:=c5
  simp only[yZy c5]
  refine zJ (fun c6=>⟨(),yZy (.inl (by omega)),trivial⟩) fun c6=>zJ (fun c7=>⟨(),yZy (.inr (by omega)),trivial⟩) fun c7=>⟨(),yZx (by omega),trivial⟩
 ·have c5:¬(i.p.months.length:Int)≤i.a:=c5
  simp only[yZx c5]
  refine zJ (fun c6=>⟨(),yZy (.inl (by omega)),trivial⟩) fun c6=>zJ (fun c7=>⟨(),yZy (.inr (by omega)),trivial⟩) fun c7=>⟨(),yZx (by omega),trivial⟩
theorem tG:priceC.ok Tryz.prog 161:=okw mixed (gokc bI gok0) 0 (fun _=>[]) (fun _=>[]) [] Tryz.func161 yTp
theorem yMw (x:Int) (h: -18446744073709551616≤x∧x<18446744073709551616):(yO x∧au.wrap x=x)∨(9223372036854775807<x∧au.wrap x=x-18446744073709551616)∨(x< -9223372036854775808∧au.wrap x=x+18446744073709551616):=by
 have e:au.wrap x=if(decide (x % 18446744073709551616≥9223372036854775808))=aw then x % 18446744073709551616-18446744073709551616 else x % 18446744073709551616:=by
  have:au.wrap x=if(aw && decide (x % 18446744073709551616≥9223372036854775808))=aw then x % 18446744073709551616-18446744073709551616 else x % 18446744073709551616:=rfl
  rw[this,y2y]
 have e:au.wrap x=(x+9223372036854775808) % 18446744073709551616-9223372036854775808:=by
  rw[e]
  by_cases h2:x % 18446744073709551616≥9223372036854775808
  ·rw[yZy (y0n h2)];omega
  ·rw[yZx (by simpa using h2)];omega
 rw[e]
 by_cases h1:yO x
 ·exact .inl ⟨h1,by unfold yO at h1;omega⟩
 ·unfold yO at h1
  omega
theorem yYe (i:I2) (h:addC.cnd i):yXp i:=by
 obtain⟨⟨x1,x2⟩,y1,y2⟩:yO i.x∧yO i.y:=h
 have hw:=yMw (i.x+i.y) (by omega)
 unfold yXp zNs u0
 generalize au.wrap (i.x+i.y)=w at hw ⊢
 unfold yO at hw ⊢
 refine Cv.cnd.mk (fun c1=>Cv.cnd.mk (fun c2=> ?_) (fun c2=> ?_)) (fun c1=> ?_)
 all_goals(simp at*)
 ·rw[yZx (by omega)];exact kp
 ·rw[yZy (by omega)];refine⟨?_,rfl⟩;dsimp only;omega
 ·rw[yZy (by omega)];refine⟨?_,rfl⟩;dsimp only;omega
theorem zTi:addC.ok Tryz.prog 230:=okw mixed gok0 0 (fun _=>[]) (fun _=>[]) [] Tryz.func230 yYe
theorem yZo (i:I2) (h:subC.cnd i):yUk i:=by
 obtain⟨⟨x1,x2⟩,y1,y2⟩:yO i.x∧yO i.y:=h
 have hw:=yMw (i.x-i.y) (by omega)
 unfold yUk zKj uW
 generalize au.wrap (i.x-i.y)=w at hw ⊢
 unfold yO at hw ⊢
 refine Cv.cnd.mk (fun c1=>Cv.cnd.mk (fun c2=> ?_) (fun c2=> ?_)) (fun c1=> ?_)
 all_goals(simp at*)
 ·rw[yZx (by omega)];exact kp
 ·rw[yZy (by omega)];refine⟨?_,rfl⟩;dsimp only;omega
 ·rw[yZy (by omega)];refine⟨?_,rfl⟩;dsimp only;omega
theorem zRz:subC.ok Tryz.prog 231:=okw mixed gok0 0 (fun _=>[]) (fun _=>[]) [] Tryz.func231 yZo
open Go Cv Go.Proofs
structure Slot where
 used:Bool
 n:Int
 id:Int
 qty:Int
 top:Bool
 queue:Int
 ahead:Int
 back:Int
 deriving DecidableEq
structure cH where
 first:Int
 last:Int
 total:Int
 count:Int
 deriving DecidableEq
structure Arena where
 slots:List Slot
 queues:List cH
 free:Int
 deriving DecidableEq
def zR (s:Slot):List D:=[.v (.bool s.used),.v (.int .i64 s.n),.v (.int .i64 s.id),.v (.int .i64 s.qty),.v (.bool s.top),.v (.int .i64 s.queue),.v (.int .i64 s.ahead),.v (.int .i64 s.back)]
def zQ (q:cH):List D:=[.v (.int .i64 q.first),.v (.int .i64 q.last),.v (.int .i64 q.total),.v (.int .i64 q.count)]
def slot0:Slot:=⟨av,0,0,0,av,0,0,0⟩
def zG (a:Arena):Nat→AObj
 |0=> .cells [.own 1,.own 2,zA a.free] 355
 |1=> .own 362 8 (a.slots.map zR)
 |2=> .own 365 4 (a.queues.map zQ)
 |_=> .gone
def jO (a:Arena):AObj:= .adt Arena 3 zG a
structure xG where
 price:Int
 queue:Int
 deriving DecidableEq
structure Place where
 side:Int
 price:Int
 slot:Int
 deriving DecidableEq
structure Book where
 a:Arena
 buys:List xG
 sells:List xG
 at_:List (Int×Place)
 top1:Int
 top2:Int
 spare:List Int
 has1:Bool
 has2:Bool
 deriving DecidableEq
def zC (r:xG):List D:=[.v (.int .i64 r.price),.v (.int .i64 r.queue)]
def zZz (p:Place):List D:=[.v (.int .i64 p.side),.v (.int .i64 p.price),.v (.int .i64 p.slot)]
def atE (l:List (Int×Place)):List (bo×List D):=l.map fun x=>(.int .i64 x.1,zZz x.2)
def zS (b:Book):Nat→AObj
 |0=> .cells [.nm 1 0,.own 2,.own 3,.mp 4,zA b.top1,zA b.top2,.own 5,yF b.has1,yF b.has2] 299
 |1=>jO b.a
 |2=> .own 304 2 (b.buys.map zC)
 |3=> .own 304 2 (b.sells.map zC)
 |4=> .map (atE b.at_)
 |5=> .own 3 1 (iE b.spare)
 |_=> .gone
def z6 (b:Book):AObj:= .adt Book 6 zS b
structure MSt where
 p:Prd
 books:List Book
 wh:List (Int×Int)
def yW (l:List (Int×Int)):List (bo×List D):=l.map fun x=>(.int .i64 x.1,[.v (.int .i64 x.2)])
def xL (s:MSt):Nat→AObj
 |0=> .cells [sV s.p.code,.own 3,zA s.p.tick,zA s.p.low,zA s.p.high,zA s.p.wide,zA s.p.rule,zA s.p.top,zA s.p.least,zA s.p.part,.own 4,.own 1,.mp 2] 240
 |1=> .objs 241 Book 6 zS s.books bc
 |2=> .map (yW s.wh)
 |3=> .fro 1 (iE s.p.months)
 |4=> .fro 1 (iE s.p.settle)
 |_=> .gone
def zF (s:MSt):AObj:= .adt MSt 5 xL s
def zJr (n:Nat):Arena:=⟨ab n slot0,[],n⟩
def book0:Book:=⟨zJr 250,[],[],[],0,0,[],av,av⟩
def newAC:Con:=con1 Nat (fun n=>[zA n]) (fun _=>[]) (fun n=>1≤n∧n≤4096) (fun _=> .tup [.nm 0 0,zA 0]) (fun n=>[jO (zJr n)])
def newBC:Con:=con1 Unit (fun _=>[]) (fun _=>[]) (fun _=>True) (fun _=> .nm 0 0) (fun _=>[z6 book0])
def mF (p:Prd):MSt:=⟨p,ab p.count book0,[]⟩
def newSC:Con where
 ι:=Prd
 pat:=fun p=>[prdV p]
 pre:=fun _=>[]
 cnd:=fun p=>p.small
 alts:=fun p=>[{o:=Unit,res:=fun _=> .tup [.nm 0 0,zA 0],post:=fun _=>[zF (mF p)],rel:=fun _=>p.check=0},{o:=Unit,res:=fun _=> .tup [.d (.v (.pointer bc)),zA p.check],post:=fun _=>[],rel:=fun _=>p.check≠0}]
def yUo (p:Prd):List SAnn:=[{ι:=Nat,slots:=fun j=>[(5,.nm 0 0),(27,zA j)],rows:=fun j=>(ae 5).map (xL ⟨p,ab j book0,[]⟩)}]
def clSlotC:Con:=con1 (List Slot) (fun _=>[.own 0]) (fun l=>[.own 362 8 (l.map zR)]) (fun l=>l.length≤1000000) (fun _=> .own 1) (fun l=>[.own 362 8 (l.map zR),.own 362 8 (l.map zR)])
def clQueueC:Con:=con1 (List cH) (fun _=>[.own 0]) (fun l=>[.own 365 4 (l.map zQ)]) (fun l=>l.length≤1000000) (fun _=> .own 1) (fun l=>[.own 365 4 (l.map zQ),.own 365 4 (l.map zQ)])
def clRungC:Con:=con1 (List xG) (fun _=>[.own 0]) (fun l=>[.own 304 2 (l.map zC)]) (fun l=>l.length≤1000000) (fun _=> .own 1) (fun l=>[.own 304 2 (l.map zC),.own 304 2 (l.map zC)])
def clIntC:Con:=con1 (List Int) (fun _=>[.own 0]) (fun l=>[.own 3 1 (iE l)]) (fun l=>l.length≤1000000) (fun _=> .own 1) (fun l=>[.own 3 1 (iE l),.own 3 1 (iE l)])
def yGy (f:Nat):Con:=con1 (List (bo×List D)) (fun _=>[.mp 0]) (fun es=>[.map es]) (fun _=>True) (fun _=> .mp 1) (fun es=>[.map es,.map es])
def clAtC:Con:=yGy 0
def clWhC:Con:=yGy 1
@[reducible] def Arena.small (a:Arena):Prop:=a.slots.length≤1000000∧a.queues.length≤1000000
@[reducible] def Book.small (b:Book):Prop:=b.a.small∧b.buys.length≤1000000∧b.sells.length≤1000000∧b.spare.length≤1000000
@[reducible] def MSt.small (s:MSt):Prop:=s.books.length≤1000000∧∀b∈s.books,b.small
def copyAC:Con:=con1 Arena (fun _=>[.nm 0 0]) (fun a=>[jO a]) Arena.small (fun _=> .nm 1 0) (fun a=>[jO a,jO a])
def copyBC:Con:=con1 Book (fun _=>[.nm 0 0]) (fun b=>[z6 b]) Book.small (fun _=> .nm 1 0) (fun b=>[z6 b,z6 b])
def yTb:List SAnn:=[{ι:=Unit,slots:=fun _=>[],rows:=fun _=>[],un:=3}]
def copySC:Con:=con1 MSt (fun _=>[.nm 0 0]) (fun s=>[zF s]) MSt.small (fun _=> .nm 1 0) (fun s=>[zF s,zF s])
open Go Cv Go.Proofs
def yMe (n:Nat):Prop:=
 cnd (decide ((↑n:Int)<1)) (∃(a:Unit),False) (cnd (decide ((↑n:Int)>4096)) (∃(a:Unit),False) ((0≤(↑n:Int)∧(↑n:Int)≤(↑n:Int)∧(↑n:Int)≤9223372036854775807∧(↑(64:Nat):Int)*(↑n:Int)≤2 ^ (48:Nat))∧∃(a:Unit),(0:Int)=(0:Int)∧(↑n:Int)=(↑n:Int)∧aa zR (ab n slot0)=ab (↑n:Int).toNat [D.v (.bool av),dI 0,dI 0,dI 0,D.v (.bool av),dI 0,dI 0,dI 0]∧([]:List (List D))=[]∧True))
def yVu (u:Unit):Prop:=
 ∃(i:Nat),(↑i:Int)=250∧(1≤i∧i≤4096)∧∀(o:Unit),True→∃(o:Unit),(0:Int)=(0:Int)∧(0:Int)=(0:Int)∧av=av∧av=av∧ap Arena 3 zG (zJr 250)=ap Arena 3 zG (zJr i)∧([]:List (List D))=[]∧([]:List (List D))=[]∧atE []=[]∧iE []=[]∧True
def bN (a:Prd):Prop:=ak 1 (iE a.settle)=ak 1 (iE a.settle)∧ak 1 (iE a.months)=ak 1 (iE a.months)
def uJ (a:Prd):=(D.v (bg (sb a.code)))
def zLi (a:Prd) (b:Nat) (c:Unit):Prop:=(∃(d:Unit),(0:Int)=(0:Int)∧sb a.code=sb a.code∧a.tick=a.tick∧a.low=a.low∧a.high=a.high∧a.wide=a.wide∧a.rule=a.rule∧a.top=a.top∧a.least=a.least∧a.part=a.part∧ao 241 Book 6 zS (ab a.count book0) bc=ao 241 Book 6 zS (ab b book0) bc∧yW []=yW []∧ak 1 (iE a.months)=ak 1 (iE a.months)∧ak 1 (iE a.settle)=ak 1 (iE a.settle)∧a.check=0)∨∃(c:Unit),False
def zLl (a:Prd):Prop:=True∧True∧(0+(iE a.months).length)*(8:Nat)≤(140737488355328:Nat)∧True∧(0+(iE a.settle).length)*(8:Nat)≤(140737488355328:Nat)∧∃(b:Prd),sb b.code=sb a.code∧iE b.months=[]++iE a.months∧b.tick=a.tick∧b.low=a.low∧b.high=a.high∧b.wide=a.wide∧b.rule=a.rule∧b.top=a.top∧b.least=a.least∧b.part=a.part∧iE b.settle=[]++iE a.settle∧(zY b)∧∀(c:Unit),True→∃(d:Nat),(↑d:Int)=0∧sb a.code=sb a.code∧a.tick=a.tick∧a.low=a.low∧a.high=a.high∧a.wide=a.wide∧a.rule=a.rule∧a.top=a.top∧a.least=a.least∧a.part=a.part∧ab d book0=[]∧(bc:Option Nat)=bc∧yW []=[]∧ak 1 (iE a.months)=ak 1 ([]++iE a.months)∧ak 1 (iE a.settle)=ak 1 ([]++iE a.settle)∧∃(e:Nat→Prop),∃(f:Nat→Nat),e d∧∀(g:Nat),e g→cnd (decide ((↑g:Int)<(↑b.count:Int))) (∃(h:Unit),True∧∀(j:Unit),True→True∧True∧∃(k:List Book),ao 241 Book 6 zS (ab g book0) bc=ao 241 Book 6 zS k bc∧(k.length+1)*(8:Nat)≤(140737488355328:Nat)∧∃(l:Nat),(↑l:Int)=au.wrap ((↑g:Int)+1)∧sb a.code=sb a.code∧a.tick=a.tick∧a.low=a.low∧a.high=a.high∧a.wide=a.wide∧a.rule=a.rule∧a.top=a.top∧a.least=a.least∧a.part=a.part∧ao 241 Book 6 zS (ab l book0) bc=ao 241 Book 6 zS (k++[book0]) bc∧yW []=yW []∧ak 1 (iE a.months)=ak 1 (iE a.months)∧ak 1 (iE a.settle)=ak 1 (iE a.settle)∧e l∧f l<f g∧ak 1 ([]++iE a.settle)=ak 1 ([]++iE a.settle)∧ak 1 ([]++iE a.months)=ak 1 ([]++iE a.months)∧am [V.d (uJ a),V.own ((0:Nat)+(1:Nat)+(1:Nat)+(1:Nat)+((0:Nat)-(0:Nat))+(1:Nat)+(1:Nat)),V.d (dI a.tick),V.d (dI a.low),V.d (dI a.high),V.d (dI a.wide),V.d (dI a.rule),V.d (dI a.top),V.d (dI a.least),V.d (dI a.part),V.own ((0:Nat)+(1:Nat)+(1:Nat)+(1:Nat)+((0:Nat)-(0:Nat))+(1:Nat)+(1:Nat)+1)] 25=am [V.d (uJ a),V.own ((0:Nat)+(1:Nat)+(1:Nat)+(1:Nat)+((0:Nat)-(0:Nat))+(1:Nat)+(1:Nat)),V.d (dI a.tick),V.d (dI a.low),V.d (dI a.high),V.d (dI a.wide),V.d (dI a.rule),V.d (dI a.top),V.d (dI a.least),V.d (dI a.part),V.own ((0:Nat)+(1:Nat)+(1:Nat)+(1:Nat)+((0:Nat)-(0:Nat))+(1:Nat)+(1:Nat)+1)] 25∧bN a) (zLi a g c)
def yOj (p:Prd):Prop:=
 ∃(a:Prd),sb a.code=sb p.code∧iE a.months=iE p.months∧a.tick=p.tick∧a.low=p.low∧a.high=p.high∧a.wide=p.wide∧a.rule=p.rule∧a.top=p.top∧a.least=p.least∧a.part=p.part∧iE a.settle=iE p.settle∧(zY a)∧∀(b:Unit),True→cnd (a.check !=0) ((∃(c:Unit),False)∨∃(b:Unit),True∧p.check=a.check∧(p.check=0→False)) ((True∧True∧((0+(iE p.months).length)*(8:Nat)≤(140737488355328:Nat)∧True∧True∧(0+(iE p.settle).length)*(8:Nat)≤(140737488355328:Nat)∧∃(c:Prd),sb c.code=sb p.code∧iE c.months=[]++iE p.months∧c.tick=p.tick∧c.low=p.low∧c.high=p.high∧c.wide=p.wide∧c.rule=p.rule∧c.top=p.top∧c.least=p.least∧c.part=p.part∧iE c.settle=[]++iE p.settle∧(zY c)∧∀(d:Unit),True→∃(e:Nat),(↑e:Int)=0∧sb p.code=sb p.code∧p.tick=p.tick∧p.low=p.low∧p.high=p.high∧p.wide=p.wide∧p.rule=p.rule∧p.top=p.top∧p.least=p.least∧p.part=p.part∧ab e book0=[]∧(bc:Option Nat)=bc∧yW []=[]∧ak 1 (iE p.months)=ak 1 ([]++iE p.months)∧ak 1 (iE p.settle)=ak 1 ([]++iE p.settle)∧∃(f:Nat→Prop),∃(g:Nat→Nat),f e∧∀(h:Nat),f h→cnd (decide ((↑h:Int)<(↑c.count:Int))) (∃(j:Unit),True∧∀(k:Unit),True→True∧True∧∃(l:List Book),ao 241 Book 6 zS (ab h book0) bc=ao 241 Book 6 zS l bc∧(l.length+1)*(8:Nat)≤(140737488355328:Nat)∧∃(m:Nat),(↑m:Int)=au.wrap ((↑h:Int)+1)∧sb p.code=sb p.code∧p.tick=p.tick∧p.low=p.low∧p.high=p.high∧p.wide=p.wide∧p.rule=p.rule∧p.top=p.top∧p.least=p.least∧p.part=p.part∧ao 241 Book 6 zS (ab m book0) bc=ao 241 Book 6 zS (l++[book0]) bc∧yW []=yW []∧ak 1 (iE p.months)=ak 1 (iE p.months)∧ak 1 (iE p.settle)=ak 1 (iE p.settle)∧f m∧g m<g h∧ak 1 ([]++iE p.settle)=ak 1 ([]++iE p.settle)∧ak 1 ([]++iE p.months)=ak 1 ([]++iE p.months)∧am [V.d (uJ p),V.own ((0:Nat)+(1:Nat)+(1:Nat)+(1:Nat)+((0:Nat)-(0:Nat))+1),V.d (dI p.tick),V.d (dI p.low),V.d (dI p.high),V.d (dI p.wide),V.d (dI p.rule),V.d (dI p.top),V.d (dI p.least),V.d (dI p.part),V.own ((0:Nat)+(1:Nat)+(1:Nat)+(1:Nat)+((0:Nat)-(0:Nat))+(1:Nat)+(1:Nat)+1)] 25=am [V.d (uJ p),V.own ((0:Nat)+(1:Nat)+(1:Nat)+(1:Nat)+((0:Nat)-(0:Nat))+1),V.d (dI p.tick),V.d (dI p.low),V.d (dI p.high),V.d (dI p.wide),V.d (dI p.rule),V.d (dI p.top),V.d (dI p.least),V.d (dI p.part),V.own ((0:Nat)+(1:Nat)+(1:Nat)+(1:Nat)+((0:Nat)-(0:Nat))+(1:Nat)+(1:Nat)+1)] 25∧bN p) (zLi p h d))∧zLl p)∧True∧True∧zLl p)
def yKy (l:List Slot):Prop:=
 ∀(b:Bool),(b=aw→aa zR l=[])→cnd b (∃(o:Unit),aa zR l=aa zR l∧aa zR l=[]∧True) ((0+(aa zR l).length)*(64:Nat)≤(140737488355328:Nat)∧∃(o:Unit),aa zR l=aa zR l∧aa zR l=[]++aa zR l∧True)
def yDf (l:List cH):Prop:=
 ∀(b:Bool),(b=aw→aa zQ l=[])→cnd b (∃(o:Unit),aa zQ l=aa zQ l∧aa zQ l=[]∧True) ((0+(aa zQ l).length)*(32:Nat)≤(140737488355328:Nat)∧∃(o:Unit),aa zQ l=aa zQ l∧aa zQ l=[]++aa zQ l∧True)
def yLj (l:List xG):Prop:=
 ∀(b:Bool),(b=aw→aa zC l=[])→cnd b (∃(o:Unit),aa zC l=aa zC l∧aa zC l=[]∧True) ((0+(aa zC l).length)*(16:Nat)≤(140737488355328:Nat)∧∃(o:Unit),aa zC l=aa zC l∧aa zC l=[]++aa zC l∧True)
def yPw (l:List Int):Prop:=
 ∀(b:Bool),(b=aw→iE l=[])→cnd b (∃(o:Unit),iE l=iE l∧iE l=[]∧True) ((0+(iE l).length)*(8:Nat)≤(140737488355328:Nat)∧∃(o:Unit),iE l=iE l∧iE l=[]++iE l∧True)
def yDo (es:List (bo×List D)):Prop:=
 ∃(a:List (bo×List D)),a=es∧True∧∀(b:Unit),True→∃(c:Unit),es=a∧es=a∧True
theorem ySl (es:List (bo×List D)):yDo es=walk Tryz.prog ([(186,cS 295)]) 0 ([]) ([]) [] Tryz.f201 (Tryz.f201.body.getD .skip) (clAtC.pat es) (clAtC.pre es) (clAtC.alts es):=by kernel_rfl
theorem yOm (hG:GOk Tryz.prog ([(186,cS 295)])) (h:∀(es:List (bo×List D)),clAtC.cnd es→yDo es):clAtC.ok Tryz.prog 201:=gK mixed ([(186,cS 295)]) hG 0 (fun(es:List (bo×List D))=>[]) (fun(es:List (bo×List D))=>[]) [] Tryz.func201 (by kernel_rfl) (by kernel_rfl) (by kernel_rfl) (fun _=>by kernel_rfl) (fun(es:List (bo×List D)) hc=>Eq.mp (ySl es) (h es hc))
def yFi (es:List (bo×List D)):Prop:=
 ∃(a:List (bo×List D)),a=es∧True∧∀(b:Unit),True→∃(c:Unit),es=a∧es=a∧True
theorem yRc (es:List (bo×List D)):yFi es=walk Tryz.prog ([(186,cS 168)]) 0 ([]) ([]) [] Tryz.f146 (Tryz.f146.body.getD .skip) (clWhC.pat es) (clWhC.pre es) (clWhC.alts es):=by kernel_rfl
theorem ySy (hG:GOk Tryz.prog ([(186,cS 168)])) (h:∀(es:List (bo×List D)),clWhC.cnd es→yFi es):clWhC.ok Tryz.prog 146:=gK mixed ([(186,cS 168)]) hG 0 (fun(es:List (bo×List D))=>[]) (fun(es:List (bo×List D))=>[]) [] Tryz.func146 (by kernel_rfl) (by kernel_rfl) (by kernel_rfl) (fun _=>by kernel_rfl) (fun(es:List (bo×List D)) hc=>Eq.mp (yRc es) (h es hc))
def yRy (a:Arena):Prop:=
 ∃(i:List Slot),aa zR i=aa zR a.slots∧i.length≤1000000∧∀(o:Unit),True→a.free=a.free∧True∧∃(i_1:List cH),aa zQ i_1=aa zQ a.queues∧i_1.length≤1000000∧∀(o:Unit),True→a.free=a.free∧∃(o:Unit),a.free=a.free∧aa zR a.slots=aa zR i∧aa zQ a.queues=aa zQ i_1∧a.free=a.free∧aa zR a.slots=aa zR i∧aa zQ a.queues=aa zQ i_1∧True
def yRf (b:Book):Prop:=
 ∃(i:Arena),ap Arena 3 zG i=ap Arena 3 zG b.a∧(i.slots.length≤1000000∧i.queues.length≤1000000)∧∀(o:Unit),True→True∧True∧∃(i_1:List (bo×List D)),i_1=atE b.at_∧True∧∀(o:Unit),True→True∧∃(i_2:List Int),iE i_2=iE b.spare∧i_2.length≤1000000∧∀(o:Unit),True→∃(i_3:List xG),aa zC i_3=aa zC b.buys∧i_3.length≤1000000∧∀(o:Unit),True→∃(i_4:List xG),aa zC i_4=aa zC b.sells∧i_4.length≤1000000∧∀(o:Unit),True→∃(o:Unit),b.top1=b.top1∧b.top2=b.top2∧b.has1=b.has1∧b.has2=b.has2∧ap Arena 3 zG b.a=ap Arena 3 zG i∧aa zC b.buys=aa zC i_3∧aa zC b.sells=aa zC i_4∧atE b.at_=i_1∧iE b.spare=iE i_2∧b.top1=b.top1∧b.top2=b.top2∧b.has1=b.has1∧b.has2=b.has2∧ap Arena 3 zG b.a=ap Arena 3 zG i∧aa zC b.buys=aa zC i_3∧aa zC b.sells=aa zC i_4∧atE b.at_=i_1∧iE b.spare=iE i_2∧True
open Go Cv Go.Proofs
theorem yUl (n:Nat) (h:newAC.cnd n):yMe n:=by
 obtain⟨h1,h2⟩:1≤n∧n≤4096:=h
 unfold yMe dI
 refine zJ (fun c=>by omega) fun c=>zJ (fun c=>by omega) fun c=> ?_
 refine⟨⟨by omega,by omega,by omega,?_⟩,?_⟩
 ·have:(2:Int) ^ (48:Nat)=281474976710656:=by decide
  rw[this];omega
 ·refine⟨(),rfl,rfl,?_,rfl,trivial⟩
  rw[List.map_replicate];rfl
theorem yHw:newAC.ok Tryz.prog 189:=okw mixed gok0 0 (fun _=>[]) (fun _=>[]) [] Tryz.func189 yUl
theorem yJt:newBC.ok Tryz.prog 150:=okw (V:=yVu) mixed (gokc yHw gok0) 0 (fun _=>[]) (fun _=>[]) [] Tryz.func150 fun(u:Unit) _=>by
 refine⟨250,rfl,⟨by omega,by omega⟩,?_⟩;exact kp
theorem yUr (p:Prd) (h:newSC.cnd p):yOj p:=by
 unfold yOj zLl zLi uJ bN zY dI
 have hs:p.small:=h
 obtain⟨h1,h2,h3⟩:p.small:=h
 refine⟨p,?_⟩
 simp only[xD]
 (repeat'(first|exact rfl|exact trivial|assumption|apply ay|refine fun(_:Unit) (_:True)=>?_|refine ax () ?_|omega|(dsimp only;omega)))
 refine Cv.cnd.mk (fun c=> .inr ⟨(),trivial,kp,by simpa using c⟩) fun c=> ?_
 have c:p.check=0:=by simpa using c
 have hc:=xQ p
 (repeat'(first|exact rfl|exact trivial|assumption|apply ay|refine fun(_:Unit) (_:True)=>?_|refine ax () ?_|omega|(dsimp only;omega)))
 all_goals(refine⟨p,?_⟩;(repeat'(first|exact rfl|exact trivial|assumption|apply ay|refine fun(_:Unit) (_:True)=>?_|refine ax () ?_|omega|(dsimp only;omega))))
 all_goals(refine⟨0,?_⟩;(repeat'(first|exact rfl|exact trivial|assumption|apply ay|refine fun(_:Unit) (_:True)=>?_|refine ax () ?_|omega|(dsimp only;omega))))
 all_goals(refine⟨fun j=>j≤p.count,fun j=>p.count-j,by omega,fun j hj=>zJ (fun hlt=> ?_) (fun hlt=> ?_)⟩;all_goals dsimp only at hj hlt)
 all_goals first
  |(refine .inl ⟨(),?_⟩
    obtain rfl:j=p.count:=by omega
    (repeat'(first|exact rfl|exact trivial|assumption|apply ay|refine fun(_:Unit) (_:True)=>?_|refine ax () ?_|omega|(dsimp only;omega))))
  |(refine⟨(),trivial,fun _ _=>⟨trivial,trivial,ab j book0,rfl,?_,j+1,?_⟩⟩
    ·rw[y3h];omega
    ·rw[w64 (by omega),← List.replicate_succ']
     (repeat'(first|exact rfl|exact trivial|assumption|apply ay|refine fun(_:Unit) (_:True)=>?_|refine ax () ?_|omega|(dsimp only;omega))))
theorem yJo:newSC.ok Tryz.prog 103:=okw mixed (gokc tH (gokc bI (gokc yJt gok0))) 0 (fun _=>[]) (fun p=>yUo p) [] Tryz.func103 yUr
theorem z9i:clSlotC.ok Tryz.prog 232:=okw (V:=yKy) mixed gok0 0 (fun _=>[]) (fun _=>[]) [] Tryz.func232 fun(l:List Slot) h=>by
 have h:l.length≤1000000:=h
 exact fun b hb=>Cv.cnd.mk (fun e=>⟨(),rfl,hb e,trivial⟩) (fun _=>⟨by rw[y0w,y0a];omega,(),rfl,rfl,trivial⟩)
theorem zZn:clQueueC.ok Tryz.prog 233:=okw (V:=yDf) mixed gok0 0 (fun _=>[]) (fun _=>[]) [] Tryz.func233 fun(l:List cH) h=>by
 have h:l.length≤1000000:=h
 exact fun b hb=>Cv.cnd.mk (fun e=>⟨(),rfl,hb e,trivial⟩) (fun _=>⟨by rw[y0w,y0a];omega,(),rfl,rfl,trivial⟩)
theorem z7a:clRungC.ok Tryz.prog 202:=okw (V:=yLj) mixed gok0 0 (fun _=>[]) (fun _=>[]) [] Tryz.func202 fun(l:List xG) h=>by
 have h:l.length≤1000000:=h
 exact fun b hb=>Cv.cnd.mk (fun e=>⟨(),rfl,hb e,trivial⟩) (fun _=>⟨by rw[y0w,y0a];omega,(),rfl,rfl,trivial⟩)
theorem yAu:clIntC.ok Tryz.prog 88:=okw (V:=yPw) mixed gok0 0 (fun _=>[]) (fun _=>[]) [] Tryz.func88 fun(l:List Int) h=>by
 have h:l.length≤1000000:=h
 exact fun b hb=>Cv.cnd.mk (fun e=>⟨(),rfl,hb e,trivial⟩) (fun _=>⟨by rw[y0w,xD];omega,(),rfl,rfl,trivial⟩)
theorem zQh (t:Nat):(cS t).ok Tryz.prog 186:=z0p Tryz.func186 (by kernel_rfl) (by kernel_rfl) (by kernel_rfl) (by kernel_rfl) t
theorem yKz:clAtC.ok Tryz.prog 201:=yOm (gokc (zQh _) gok0) fun es _=>by
 unfold yDo
 refine⟨es,?_⟩;exact kp
theorem yIo:clWhC.ok Tryz.prog 146:=ySy (gokc (zQh _) gok0) fun es _=>by
 unfold yFi
 refine⟨es,?_⟩;exact kp
theorem yFe:copyAC.ok Tryz.prog 200:=okw (V:=yRy) mixed (gokc z9i (gokc zZn gok0)) 0 (fun _=>[]) (fun _=>[]) [0] Tryz.func200 fun(a:Arena) h=>by
 obtain⟨h1,h2⟩:a.small:=h
 refine⟨a.slots,?_⟩;(repeat'(first|exact rfl|exact trivial|assumption|apply ay|refine fun(_:Unit) (_:True)=>?_|refine ax () ?_|omega|(dsimp only;omega)))
 refine⟨a.queues,?_⟩;exact kp
theorem yFt:copyBC.ok Tryz.prog 162:=okw (V:=yRf) mixed (gokc yFe (gokc yKz (gokc yAu (gokc z7a gok0)))) 0 (fun _=>[]) (fun _=>yTb) [0] Tryz.func162 fun(b:Book) h=>by
 obtain⟨⟨h1,h1'⟩,h2,h3,h4⟩:b.small:=h
 refine⟨b.a,?_⟩;(repeat'(first|exact rfl|exact trivial|assumption|apply ay|refine fun(_:Unit) (_:True)=>?_|refine ax () ?_|omega|(dsimp only;omega)))
 refine⟨atE b.at_,?_⟩;(repeat'(first|exact rfl|exact trivial|assumption|apply ay|refine fun(_:Unit) (_:True)=>?_|refine ax () ?_|omega|(dsimp only;omega)))
 refine⟨b.spare,?_⟩;(repeat'(first|exact rfl|exact trivial|assumption|apply ay|refine fun(_:Unit) (_:True)=>?_|refine ax () ?_|omega|(dsimp only;omega)))
 refine⟨b.buys,?_⟩;(repeat'(first|exact rfl|exact trivial|assumption|apply ay|refine fun(_:Unit) (_:True)=>?_|refine ax () ?_|omega|(dsimp only;omega)))
 refine⟨b.sells,?_⟩;exact kp
open Go Cv Go.Proofs
structure ArN where
 a:Arena
 n:Int
def Arena.qAt (a:Arena) (n:Int):cH:=if 0≤n∧n<a.queues.length then a.queues.getD n.toNat ⟨0,0,0,0⟩else⟨0,0,0,0⟩
def atotalC:Con:=con1 ArN (fun i=>[.nm 0 0,zA i.n]) (fun i=>[jO i.a]) (fun i=>True) (fun i=>zA (i.a.qAt i.n).total) (fun i=>[jO i.a])
def acountC:Con:=con1 ArN (fun i=>[.nm 0 0,zA i.n]) (fun i=>[jO i.a]) (fun i=>True) (fun i=>zA (i.a.qAt i.n).count) (fun i=>[jO i.a])
def bisC:Con:=con1 Int (fun n=>[zA n]) (fun _=>[]) (fun _=>True) (fun n=>yF (decide (n=1)||decide (n=2))) (fun _=>[])
structure BkR where
 b:Book
 r:xG
def Book.told (b:Book) (r:xG):Lv:=⟨r.price,(b.a.qAt r.queue).total,(b.a.qAt r.queue).count⟩
@[reducible] def Book.cntOk (b:Book):Prop:=∀q∈b.a.queues,yO q.count
def toldC:Con:=con1 BkR (fun i=>[.nm 0 0,.agg [zA i.r.price,zA i.r.queue]]) (fun i=>[z6 i.b]) (fun i=>i.b.cntOk) (fun i=>lvV (i.b.told i.r)) (fun i=>[z6 i.b])
def Book.best (b:Book) (l:List xG):Lv×Bool:=match l with
 |[]=>(⟨0,0,0⟩,av)
 |r::_=>(b.told r,aw)
structure BkS where
 side:Bool
 b:Book
def Book.side (b:Book) (s:Bool):List xG:=if s then b.sells else b.buys
@[reducible] def z1x (b:Book) (l:List xG):V:= .tup [lvV (b.best l).1,yF (b.best l).2]
def best1C:Con:=con1 Book (fun _=>[.nm 0 0,zA 1]) (fun b=>[z6 b]) Book.cntOk (fun b=>z1x b b.buys) (fun b=>[z6 b])
def best2C:Con:=con1 Book (fun _=>[.nm 0 0,zA 2]) (fun b=>[z6 b]) Book.cntOk (fun b=>z1x b b.sells) (fun b=>[z6 b])
def zD (s:Bool):Int:=if s then 2 else 1
def bestC:Con:=con1 BkS (fun i=>[.nm 0 0,zA (zD i.side)]) (fun i=>[z6 i.b]) (fun i=>i.b.cntOk) (fun i=>z1x i.b (i.b.side i.side)) (fun i=>[z6 i.b])
structure Top where
 has1:Bool
 has2:Bool
 p1:Int
 p2:Int
 q1:Int
 q2:Int
 deriving DecidableEq
def zX (t:Top):List D:=[.v (.bool t.has1),.v (.bool t.has2),.v (.int .i64 t.p1),.v (.int .i64 t.p2),.v (.int .i64 t.q1),.v (.int .i64 t.q2)]
def top0:Top:=⟨av,av,0,0,0,0⟩
def Top.buy (t:Top) (x:Lv×Bool):Top:=if x.2 then{t with has1:=aw,p1:=x.1.price,q1:=x.1.qty}else t
def Top.sell (t:Top) (x:Lv×Bool):Top:=if x.2 then{t with has2:=aw,p2:=x.1.price,q2:=x.1.qty}else t
def Book.top (b:Book):Top:=(top0.buy (b.best b.buys)).sell (b.best b.sells)
def MSt.tops (s:MSt):List Top:=s.books.map Book.top
@[reducible] def MSt.cntOk (s:MSt):Prop:=s.books.length≤1000000∧∀b∈s.books,b.cntOk
def topsC:Con:=con1 MSt (fun _=>[.nm 0 0]) (fun s=>[zF s]) MSt.cntOk (fun s=> .own 1) (fun s=>[zF s,.own 252 6 (s.tops.map zX)])
def xN (s:MSt) (j:Nat) (x:Top):List Top:=(s.tops.take j)++x::ab (s.books.length-j-1) top0
def xX (s:MSt) (j:Nat):List Top:=(s.tops.take j)++ab (s.books.length-j) top0
def yMm (s:MSt):List SAnn:=[
 {ι:=Nat,slots:=fun j=>[(3,.own 0),(21,zA j)],rows:=fun j=>[.own 252 6 ((xX s j).map zX)]},
 {ι:=Unit,slots:=fun _=>[],rows:=fun _=>[],un:=3}]
def yNj (s:MSt):List (Nat×SAnn):=[(15,{ι:=Nat×Top,slots:=fun x=>[(3,.own 0)],slots0:=fun x=>[(3,.own 0)],rows0:=fun x=>[.own 252 6 ((xN s x.1 x.2).map zX)],rows:=fun x=>[.own 252 6 ((xN s x.1 x.2).map zX)]})]
def yPi (s:MSt):List SAnn:=[{ι:=Nat,slots:=fun j=>[(3,.nm 0 0),(22,zA j)],rows:=fun j=>(ae 5).map (xL ⟨s.p,s.books.take j,s.wh⟩)}]
open Go Cv Go.Proofs
def k0 (a:ArN):Prop:=a.a.free=a.a.free∧aa zR a.a.slots=aa zR a.a.slots∧aa zQ a.a.queues=aa zQ a.a.queues∧True
def tQ (a:ArN):Prop:=∃(b:Unit),(a.a.qAt a.n).total=0∧k0 a
def gS (a:ArN):=(↑(aa zQ a.a.queues).length:Int)
def z2f (i:ArN):Prop:=
 cnd (decide (i.n≥0)) (cnd (!decide (i.n<(gS i))) (tQ i) ((0≤i.n∧i.n<(gS i))∧∃(a:Int),zE (aa zQ i.a.queues) i.n.toNat ((0:Nat)+(2:Nat)) 1=az [dI a]∧∃(b:Unit),(i.a.qAt i.n).total=a∧k0 i)) (tQ i)
def sR (a:ArN):Prop:=∃(b:Unit),(a.a.qAt a.n).count=0∧k0 a
def z2h (i:ArN):Prop:=
 cnd (decide (i.n≥0)) (cnd (!decide (i.n<(gS i))) (sR i) ((0≤i.n∧i.n<(gS i))∧∃(a:Int),zE (aa zQ i.a.queues) i.n.toNat ((0:Nat)+(3:Nat)) 1=az [dI a]∧∃(b:Unit),(i.a.qAt i.n).count=a∧k0 i)) (sR i)
def yXa (n:Int):Prop:=
 cnd (n==1) (∃(a:Unit),(decide (n=1)||decide (n=2))=aw∧True) (∃(a:Unit),(decide (n=1)||decide (n=2))=(n==2)∧True)
def yVg (i:BkR):Prop:=
 ∃(i_1:ArN),i_1.n=i.r.queue∧ap Arena 3 zG i_1.a=ap Arena 3 zG i.b.a∧True∧∀(o:Unit),True→i.r.queue=i.r.queue∧True∧i.r.price=i.r.price∧∃(i_2:ArN),i_2.n=i.r.queue∧ap Arena 3 zG i_2.a=ap Arena 3 zG i_1.a∧True∧∀(o:Unit),True→i.r.price=i.r.price∧∃(o:Unit),i.r.price=i.r.price∧(i.b.a.qAt i.r.queue).total=(i_1.a.qAt i_1.n).total∧(i.b.a.qAt i.r.queue).count=(i_2.a.qAt i_2.n).count∧i.b.top1=i.b.top1∧i.b.top2=i.b.top2∧i.b.has1=i.b.has1∧i.b.has2=i.b.has2∧ap Arena 3 zG i.b.a=ap Arena 3 zG i_2.a∧aa zC i.b.buys=aa zC i.b.buys∧aa zC i.b.sells=aa zC i.b.sells∧atE i.b.at_=atE i.b.at_∧iE i.b.spare=iE i.b.spare∧True
def ySu (b:Book):Prop:=
 ∃(i:Int),i=1∧True∧∀(o:Unit),True→cnd (!(decide (i=1)||decide (i=2))) (∃(o:Unit),(b.best b.buys).fst.price=0∧(b.best b.buys).fst.qty=0∧(b.best b.buys).fst.count=0∧(b.best b.buys).snd=av∧b.top1=b.top1∧b.top2=b.top2∧b.has1=b.has1∧b.has2=b.has2∧ap Arena 3 zG b.a=ap Arena 3 zG b.a∧aa zC b.buys=aa zC b.buys∧aa zC b.sells=aa zC b.sells∧atE b.at_=atE b.at_∧iE b.spare=iE b.spare∧True) (cnd ((↑(aa zC b.buys).length:Int)==0) (∃(o:Unit),(b.best b.buys).fst.price=0∧(b.best b.buys).fst.qty=0∧(b.best b.buys).fst.count=0∧(b.best b.buys).snd=av∧b.top1=b.top1∧b.top2=b.top2∧b.has1=b.has1∧b.has2=b.has2∧ap Arena 3 zG b.a=ap Arena 3 zG b.a∧aa zC b.buys=aa zC b.buys∧aa zC b.sells=aa zC b.sells∧atE b.at_=atE b.at_∧iE b.spare=iE b.spare∧True) (((0:Int)≤(0:Int)∧0<(↑(aa zC b.buys).length:Int))∧∃(n:Int),∃(n_1:Int),zE (aa zC b.buys) (bv 0) 0 2=az [D.v (.int .i64 n),D.v (.int .i64 n_1)]∧∃(i:BkR),i.r.price=n∧i.r.queue=n_1∧i.b.top1=b.top1∧i.b.top2=b.top2∧i.b.has1=b.has1∧i.b.has2=b.has2∧ap Arena 3 zG i.b.a=ap Arena 3 zG b.a∧aa zC i.b.buys=aa zC b.buys∧aa zC i.b.sells=aa zC b.sells∧atE i.b.at_=atE b.at_∧iE i.b.spare=iE b.spare∧(∀(q:cH),q∈i.b.a.queues→(-9223372036854775808)≤q.count∧q.count≤9223372036854775807)∧∀(o:Unit),True→∃(o:Unit),(b.best b.buys).fst.price=i.r.price∧(b.best b.buys).fst.qty=(i.b.a.qAt i.r.queue).total∧(b.best b.buys).fst.count=(i.b.a.qAt i.r.queue).count∧(b.best b.buys).snd=aw∧z6 b=z6 i.b∧True))
def yTt (b:Book):Prop:=
 ∃(i:Int),i=2∧True∧∀(o:Unit),True→cnd (!(decide (i=1)||decide (i=2))) (∃(o:Unit),(b.best b.sells).fst.price=0∧(b.best b.sells).fst.qty=0∧(b.best b.sells).fst.count=0∧(b.best b.sells).snd=av∧b.top1=b.top1∧b.top2=b.top2∧b.has1=b.has1∧b.has2=b.has2∧ap Arena 3 zG b.a=ap Arena 3 zG b.a∧aa zC b.buys=aa zC b.buys∧aa zC b.sells=aa zC b.sells∧atE b.at_=atE b.at_∧iE b.spare=iE b.spare∧True) (cnd ((↑(aa zC b.sells).length:Int)==0) (∃(o:Unit),(b.best b.sells).fst.price=0∧(b.best b.sells).fst.qty=0∧(b.best b.sells).fst.count=0∧(b.best b.sells).snd=av∧b.top1=b.top1∧b.top2=b.top2∧b.has1=b.has1∧b.has2=b.has2∧ap Arena 3 zG b.a=ap Arena 3 zG b.a∧aa zC b.buys=aa zC b.buys∧aa zC b.sells=aa zC b.sells∧atE b.at_=atE b.at_∧iE b.spare=iE b.spare∧True) (((0:Int)≤(0:Int)∧0<(↑(aa zC b.sells).length:Int))∧∃(n:Int),∃(n_1:Int),zE (aa zC b.sells) (bv 0) 0 2=az [D.v (.int .i64 n),D.v (.int .i64 n_1)]∧∃(i:BkR),i.r.price=n∧i.r.queue=n_1∧i.b.top1=b.top1∧i.b.top2=b.top2∧i.b.has1=b.has1∧i.b.has2=b.has2∧ap Arena 3 zG i.b.a=ap Arena 3 zG b.a∧aa zC i.b.buys=aa zC b.buys∧aa zC i.b.sells=aa zC b.sells∧atE i.b.at_=atE b.at_∧iE i.b.spare=iE b.spare∧(∀(q:cH),q∈i.b.a.queues→(-9223372036854775808)≤q.count∧q.count≤9223372036854775807)∧∀(o:Unit),True→∃(o:Unit),(b.best b.sells).fst.price=i.r.price∧(b.best b.sells).fst.qty=(i.b.a.qAt i.r.queue).total∧(b.best b.sells).fst.count=(i.b.a.qAt i.r.queue).count∧(b.best b.sells).snd=aw∧z6 b=z6 i.b∧True))
def zFe (a:MSt):Prop:=aq (yW a.wh)=aq (yW a.wh)∧ak 1 (iE a.p.months)=ak 1 (iE a.p.months)∧ak 1 (iE a.p.settle)=ak 1 (iE a.p.settle)
def zCp (a:Nat×Top→Prop) (b:Nat×Top) (c:MSt) (d:Nat) (e:Book):Prop:=a b∧ar 3 1 [[dI 1],[dI 2]]=ar 3 1 [[dI 1],[dI 2]]∧am (vI (jE 0 1 5) [sV c.p.code,V.own 3,zA c.p.tick,zA c.p.low,zA c.p.high,zA c.p.wide,zA c.p.rule,zA c.p.top,zA c.p.least,zA c.p.part,V.own 4,V.own 1,V.mp 2]) (240:bu)=am (vI (jE 0 1 5) [sV c.p.code,V.own 3,zA c.p.tick,zA c.p.low,zA c.p.high,zA c.p.wide,zA c.p.rule,zA c.p.top,zA c.p.least,zA c.p.part,V.own 4,V.own 1,V.mp 2]) (240:bu)∧ao 241 Book 6 zS (c.books.set (↑d:Int).toNat e) bc=ao 241 Book 6 zS c.books bc∧zFe c
def zNg (a:MSt) (b:Nat×Top) (c:Nat×Top→Prop) (d:Nat) (e:Book):Prop:=∃(f:Nat×Top),aa zX (xN a f.fst f.snd)=aa zX (xN a b.fst b.snd)∧zCp c f a d e
def uK (a:MSt) (b:Nat×Top):=(aa zX (xN a b.fst b.snd))
def Vtopst364:=((2:Int) ^ au.bits)
def bD (a:MSt) (b:Nat×Top) (c:Nat):=(zH (uK a b) (↑c:Int).toNat ((0:Nat)+(0:Nat)+(nat_lit 0+nat_lit 1) % Vtopst364.natAbs*1) [D.v (.bool aw)])
def zV (a:BkS):=(a.b.best (a.b.side a.side))
def dQ (a:BkS):=((zV a).fst.price)
def f8 (a:MSt) (b:Nat×Top) (c:Nat) (d:BkS):=(zH (bD a b c) (↑c:Int).toNat ((0:Nat)+(2:Nat)+(nat_lit 0+nat_lit 1) % Vtopst364.natAbs*1) [dI (dQ d)])
def lV (a:Nat) (b:MSt) (c:Nat×Top) (d:BkS):Prop:=(0≤(↑a:Int)∧(↑a:Int)<(↑(f8 b c a d).length:Int))∧(↑a:Int).toNat=(↑a:Int).toNat
def bF (a:MSt) (b:Nat×Top) (c:Nat):=(zH (uK a b) (↑c:Int).toNat ((0:Nat)+(0:Nat)+nat_lit 0*1) [D.v (.bool aw)])
def fZ (a:MSt) (b:Nat×Top) (c:Nat) (d:BkS):=(zH (bF a b c) (↑c:Int).toNat ((0:Nat)+(2:Nat)+nat_lit 0*1) [dI (dQ d)])
def lP (a:Nat) (b:MSt) (c:Nat×Top) (d:BkS):Prop:=(0≤(↑a:Int)∧(↑a:Int)<(↑(fZ b c a d).length:Int))∧(↑a:Int).toNat=(↑a:Int).toNat
def bM (a:Nat) (b:MSt) (c:Nat×Top):Prop:=(0≤(↑a:Int)∧(↑a:Int)<(↑(bD b c a).length:Int))∧(↑a:Int).toNat=(↑a:Int).toNat
def bK (a:Nat) (b:MSt) (c:Nat×Top):Prop:=(0≤(↑a:Int)∧(↑a:Int)<(↑(bF b c a).length:Int))∧(↑a:Int).toNat=(↑a:Int).toNat
def lG (a:MSt):Prop:=0≤(↑a.books.length:Int)∧(↑a.books.length:Int)≤(↑a.books.length:Int)∧(↑a.books.length:Int)≤9223372036854775807∧(↑(40:Nat):Int)*(↑a.books.length:Int)≤2 ^ (48:Nat)
def gR:Prop:=0≤au.wrap ((0:Int)+(1:Int))∧au.wrap ((0:Int)+(1:Int))<(↑(2:Nat):Int)
def wW (a:BkS):Prop:=∀(b:cH),b∈a.b.a.queues→(-9223372036854775808)≤b.count∧b.count≤9223372036854775807
def qM (a:Nat) (b:MSt) (c:Nat×Top):Prop:=0≤(↑a:Int)∧(↑a:Int)<(↑(uK b c).length:Int)
def uN (a:BkS):=((zV a).fst.qty)
def yOb (s:MSt):Prop:=
 (lG s)∧∃(a:Nat),(↑a:Int)=0∧aa zX (xX s a)=ab (↑s.books.length:Int).toNat [D.v (.bool av),D.v (.bool av),dI 0,dI 0,dI 0,dI 0]∧∃(b:Nat→Prop),∃(c:Nat→Nat),b a∧∀(d:Nat),b d→cnd (decide ((↑d:Int)<(↑s.books.length:Int))) ((0≤(↑d:Int)∧(↑d:Int)<(↑s.books.length:Int))∧(↑d:Int).toNat<s.books.length∧∃(e:Nat×Top),aa zX (xN s e.fst e.snd)=aa zX (xX s d)∧∃(f:Nat×Top→Prop),(((0:Int)≤(0:Int)∧0<(↑(2:Nat):Int))∧∃(g:Int),zE [[dI 1],[dI 2]] (bv 0) 0 1=az [dI g]∧∃(h:Book),s.books[(↑d:Int).toNat]?=az h∧∃(j:BkS),zD j.side=g∧z6 j.b=z6 h∧(wW j)∧∀(k:Unit),True→∃(l:Book),z6 j.b=z6 l∧(↑d:Int).toNat=(↑d:Int).toNat∧(↑d:Int).toNat<s.books.length∧cnd (zV j).snd ((qM d s e)∧(qM d s e)∧(qM d s e)∧(↑d:Int).toNat<(uK s e).length∧(bK d s e)∧(bK d s e)∧(zV j).fst.qty=(zV j).fst.qty∧(zV j).fst.price=(zV j).fst.price∧(↑d:Int).toNat<(bF s e d).length∧(lP d s e j)∧(zV j).fst.qty=(zV j).fst.qty∧(↑d:Int).toNat<(fZ s e d j).length∧∃(m:Nat×Top),aa zX (xN s m.fst m.snd)=zH (fZ s e d j) (↑d:Int).toNat ((0:Nat)+(4:Nat)+nat_lit 0*1) [dI (uN j)]∧zCp f m s d l) (zNg s e f d l))∧∀(g:Nat×Top),f g→∃(h:Nat×Top),aa zX (xN s h.fst h.snd)=aa zX (xN s g.fst g.snd)∧∃(j:Nat×Top→Prop),((gR)∧∃(k:Int),zE [[dI 1],[dI 2]] (au.wrap ((0:Int)+(1:Int))).toNat 0 1=az [dI k]∧∃(l:Book),s.books[(↑d:Int).toNat]?=az l∧∃(m:BkS),zD m.side=k∧z6 m.b=z6 l∧(wW m)∧∀(n:Unit),True→∃(p:Book),z6 m.b=z6 p∧(↑d:Int).toNat=(↑d:Int).toNat∧(↑d:Int).toNat<s.books.length∧cnd (zV m).snd ((qM d s h)∧(qM d s h)∧(qM d s h)∧(↑d:Int).toNat<(uK s h).length∧(bM d s h)∧(bM d s h)∧(zV m).fst.qty=(zV m).fst.qty∧(zV m).fst.price=(zV m).fst.price∧(↑d:Int).toNat<(bD s h d).length∧(lV d s h m)∧(zV m).fst.qty=(zV m).fst.qty∧(↑d:Int).toNat<(f8 s h d m).length∧∃(q:Nat×Top),aa zX (xN s q.fst q.snd)=zH (f8 s h d m) (↑d:Int).toNat ((0:Nat)+(4:Nat)+(nat_lit 0+nat_lit 1) % Vtopst364.natAbs*1) [dI (uN m)]∧zCp j q s d p) (zNg s h j d p))∧∀(k:Nat×Top),j k→∃(l:Nat),(↑l:Int)=au.wrap ((↑d:Int)+1)∧aa zX (xX s l)=aa zX (xN s k.fst k.snd)∧b l∧c l<c d∧am (vI (jE 0 1 5) [sV s.p.code,V.own 3,zA s.p.tick,zA s.p.low,zA s.p.high,zA s.p.wide,zA s.p.rule,zA s.p.top,zA s.p.least,zA s.p.part,V.own 4,V.own 1,V.mp 2]) (240:bu)=am (vI (jE 0 1 5) [sV s.p.code,V.own 3,zA s.p.tick,zA s.p.low,zA s.p.high,zA s.p.wide,zA s.p.rule,zA s.p.top,zA s.p.least,zA s.p.part,V.own 4,V.own 1,V.mp 2]) (240:bu)∧ao 241 Book 6 zS s.books bc=ao 241 Book 6 zS s.books bc∧zFe s) (∃(e:Unit),sb s.p.code=sb s.p.code∧s.p.tick=s.p.tick∧s.p.low=s.p.low∧s.p.high=s.p.high∧s.p.wide=s.p.wide∧s.p.rule=s.p.rule∧s.p.top=s.p.top∧s.p.least=s.p.least∧s.p.part=s.p.part∧ao 241 Book 6 zS s.books bc=ao 241 Book 6 zS s.books bc∧yW s.wh=yW s.wh∧ak 1 (iE s.p.months)=ak 1 (iE s.p.months)∧ak 1 (iE s.p.settle)=ak 1 (iE s.p.settle)∧aa zX s.tops=aa zX (xX s d)∧True)
def yQa (s:MSt):Prop:=
 ∃(i:List (bo×List D)),i=yW s.wh∧True∧∀(o:Unit),True→(sb s.p.code=sb s.p.code∧True∧s.p.tick=s.p.tick∧s.p.low=s.p.low∧s.p.high=s.p.high∧s.p.wide=s.p.wide∧s.p.rule=s.p.rule∧s.p.top=s.p.top∧s.p.least=s.p.least∧s.p.part=s.p.part∧True∧True)∧∃(i0:Nat),(↑i0:Int)=0∧sb s.p.code=sb s.p.code∧s.p.tick=s.p.tick∧s.p.low=s.p.low∧s.p.high=s.p.high∧s.p.wide=s.p.wide∧s.p.rule=s.p.rule∧s.p.top=s.p.top∧s.p.least=s.p.least∧s.p.part=s.p.part∧ac i0 s.books=[]∧(bc:Option Nat)=bc∧yW s.wh=i∧ak 1 (iE s.p.months)=ak 1 (iE s.p.months)∧ak 1 (iE s.p.settle)=ak 1 (iE s.p.settle)∧∃(I:Nat→Prop),∃(μ:Nat→Nat),I i0∧∀(i_1:Nat),I i_1→cnd (decide ((↑i_1:Int)<(↑s.books.length:Int))) ((0≤(↑i_1:Int)∧(↑i_1:Int)<(↑s.books.length:Int))∧(↑i_1:Int).toNat<s.books.length∧∃(x:Book),s.books[(↑i_1:Int).toNat]?=az x∧∃(i_2:Book),z6 i_2=z6 x∧((i_2.a.slots.length≤1000000∧i_2.a.queues.length≤1000000)∧i_2.buys.length≤1000000∧i_2.sells.length≤1000000∧i_2.spare.length≤1000000)∧∀(o:Unit),True→∃(x:Book),z6 i_2=z6 x∧(↑i_1:Int).toNat=(↑i_1:Int).toNat∧(↑i_1:Int).toNat<s.books.length∧True∧True∧∃(l1':List Book),ao 241 Book 6 zS (ac i_1 s.books) bc=ao 241 Book 6 zS l1' bc∧(l1'.length+1)*(8:Nat)≤(140737488355328:Nat)∧∃(i':Nat),(↑i':Int)=au.wrap ((↑i_1:Int)+1)∧sb s.p.code=sb s.p.code∧s.p.tick=s.p.tick∧s.p.low=s.p.low∧s.p.high=s.p.high∧s.p.wide=s.p.wide∧s.p.rule=s.p.rule∧s.p.top=s.p.top∧s.p.least=s.p.least∧s.p.part=s.p.part∧ao 241 Book 6 zS (ac i' s.books) bc=ao 241 Book 6 zS (l1'++[i_2]) bc∧yW s.wh=yW s.wh∧ak 1 (iE s.p.months)=ak 1 (iE s.p.months)∧ak 1 (iE s.p.settle)=ak 1 (iE s.p.settle)∧I i'∧μ i'<μ i_1∧aq i=aq i∧am (vI (jE 0 1 5) [sV s.p.code,V.own 3,zA s.p.tick,zA s.p.low,zA s.p.high,zA s.p.wide,zA s.p.rule,zA s.p.top,zA s.p.least,zA s.p.part,V.own 4,V.own 1,V.mp 2]) (240:bu)=am (vI (jE 0 1 5) [sV s.p.code,V.own 3,zA s.p.tick,zA s.p.low,zA s.p.high,zA s.p.wide,zA s.p.rule,zA s.p.top,zA s.p.least,zA s.p.part,V.own 4,V.own 1,V.mp 2]) (240:bu)∧ao 241 Book 6 zS (s.books.set (↑i_1:Int).toNat x) bc=ao 241 Book 6 zS s.books bc∧ak 1 (iE s.p.months)=ak 1 (iE s.p.months)∧ak 1 (iE s.p.settle)=ak 1 (iE s.p.settle)) (∃(o:Unit),sb s.p.code=sb s.p.code∧s.p.tick=s.p.tick∧s.p.low=s.p.low∧s.p.high=s.p.high∧s.p.wide=s.p.wide∧s.p.rule=s.p.rule∧s.p.top=s.p.top∧s.p.least=s.p.least∧s.p.part=s.p.part∧ao 241 Book 6 zS s.books bc=ao 241 Book 6 zS s.books bc∧yW s.wh=i∧ak 1 (iE s.p.months)=ak 1 (iE s.p.months)∧ak 1 (iE s.p.settle)=ak 1 (iE s.p.settle)∧sb s.p.code=sb s.p.code∧s.p.tick=s.p.tick∧s.p.low=s.p.low∧s.p.high=s.p.high∧s.p.wide=s.p.wide∧s.p.rule=s.p.rule∧s.p.top=s.p.top∧s.p.least=s.p.least∧s.p.part=s.p.part∧ao 241 Book 6 zS s.books bc=ao 241 Book 6 zS (ac i_1 s.books) bc∧yW s.wh=yW s.wh∧ak 1 (iE s.p.months)=ak 1 (iE s.p.months)∧ak 1 (iE s.p.settle)=ak 1 (iE s.p.settle)∧True)
open Go Cv Go.Proofs
theorem elA {α:Type} {f:α→List D} {l:List α} {i g n:Nat} {x:α} {r:List D} (h:l[i]? =az x) (hn:g+n≤(f x).length) (hr:((f x).drop g).take n=r):zE (l.map f) i g n=az r:=by
 unfold zE
 rw[y0z,h]
 simp only[y1y,Nat.ble_eq_true_of_le hn,cond_true,hr]
theorem zSp {a:Arena} {n:Int} {q:cH} (h0:0≤n) (h:a.queues[n.toNat]? =az q):a.qAt n=q:=by
 have:=(yZz.1 h).1
 rw[Arena.qAt,yZy ⟨h0,by omega⟩,y0h,h];rfl
theorem zIq {a:Arena} {n:Int} (h:¬(0≤n∧n<a.queues.length)):a.qAt n=⟨0,0,0,0⟩:=by rw[Arena.qAt,yZx h]
theorem zFr:atotalC.ok Tryz.prog 228:=okw (V:=z2f) mixed gok0 1 (fun _=>[]) (fun _=>[]) [0] Tryz.func228 fun(i:ArN) _=>by
 unfold z2f gS tQ k0 dI
 simp only[y0a]
 refine zJ (fun c=>Cv.cnd.mk (fun d=> ?_) (fun d=> ?_)) (fun c=> ?_)
 ·have d:¬i.n<(i.a.queues.length:Int):=by simpa using d
  rw[zIq (by omega)];exact kp
 ·have d:i.n<(i.a.queues.length:Int):=by simpa using d
  obtain⟨q,hq⟩:=z8 (l:=i.a.queues) (i:=i.n.toNat) (by omega)
  rw[zSp (by omega) hq]
  refine⟨⟨by omega,by omega⟩,q.total,elA hq (by simp[zQ]) rfl,?_⟩;exact kp
 ·rw[zIq (by omega)];exact kp
theorem m8:acountC.ok Tryz.prog 229:=okw (V:=z2h) mixed gok0 1 (fun _=>[]) (fun _=>[]) [0] Tryz.func229 fun(i:ArN) _=>by
 unfold z2h gS sR k0 dI
 simp only[y0a]
 refine zJ (fun c=>Cv.cnd.mk (fun d=> ?_) (fun d=> ?_)) (fun c=> ?_)
 ·have d:¬i.n<(i.a.queues.length:Int):=by simpa using d
  rw[zIq (by omega)];exact kp
 ·have d:i.n<(i.a.queues.length:Int):=by simpa using d
  obtain⟨q,hq⟩:=z8 (l:=i.a.queues) (i:=i.n.toNat) (by omega)
  rw[zSp (by omega) hq]
  refine⟨⟨by omega,by omega⟩,q.count,elA hq (by simp[zQ]) rfl,?_⟩;exact kp
 ·rw[zIq (by omega)];exact kp
theorem sX:bisC.ok Tryz.prog 193:=okw (V:=yXa) mixed gok0 0 (fun _=>[]) (fun _=>[]) [] Tryz.func193 fun(n:Int) _=>by
 unfold yXa
 refine Cv.cnd.mk (fun c=>⟨(),?_,trivial⟩) (fun c=>⟨(),?_,trivial⟩)
 all_goals simp at c
 ·simp[c]
 ·by_cases h:n=2<;>simp[c,h]
theorem z4i:toldC.ok Tryz.prog 194:=okw (V:=yVg) mixed (gokc zFr (gokc m8 gok0)) 0 (fun _=>[]) (fun _=>[]) [0] Tryz.func194 fun(i:BkR) h=>by
 refine⟨⟨i.b.a,i.r.queue⟩,?_⟩;(repeat'(first|exact rfl|exact trivial|assumption|apply ay|refine fun(_:Unit) (_:True)=>?_|refine ax () ?_|omega|(dsimp only;omega)))
 refine⟨⟨i.b.a,i.r.queue⟩,?_⟩;exact kp
theorem yEe:best1C.ok Tryz.prog 156:=okw (V:=ySu) mixed (gokc sX (gokc z4i gok0)) 0 (fun _=>[]) (fun _=>[]) [0] Tryz.func156 fun(b:Book) h=>by
 have h:b.cntOk:=h
 refine⟨1,rfl,trivial,fun _ _=>Cv.cnd.mk (fun c=>absurd c (by decide)) fun _=> ?_⟩
 simp only[y0a]
 refine Cv.cnd.mk (fun c=> ?_) (fun c=> ?_)
 ·have hl:b.buys=[]:=y0y (by have:(b.buys.length:Int)=0:=(by simpa using c);omega)
  have e:b.best b.buys=(⟨0,0,0⟩,av):=by rw[hl];rfl
  rw[e];exact kp
 ·obtain⟨r,l,hl⟩:∃r l,b.buys=r::l:=by
   cases hb:b.buys with
   |nil=>rw[hb]at c;exact absurd c (by decide)
   |cons r l=>exact⟨r,l,rfl⟩
  have e:b.best b.buys=(b.told r,aw):=by rw[hl];rfl
  rw[e]
  refine⟨⟨by omega,by rw[hl,y0f];omega⟩,r.price,r.queue,elA (x:=r) (by rw[hl];rfl) (by simp[zC]) rfl,⟨b,r⟩,?_⟩
  exact kp
theorem yEl:best2C.ok Tryz.prog 156:=okw (V:=yTt) mixed (gokc sX (gokc z4i gok0)) 0 (fun _=>[]) (fun _=>[]) [0] Tryz.func156 fun(b:Book) h=>by
 have h:b.cntOk:=h
 refine⟨2,rfl,trivial,fun _ _=>Cv.cnd.mk (fun c=>absurd c (by decide)) fun _=> ?_⟩
 simp only[y0a]
 refine Cv.cnd.mk (fun c=> ?_) (fun c=> ?_)
 ·have hl:b.sells=[]:=y0y (by have:(b.sells.length:Int)=0:=(by simpa using c);omega)
  have e:b.best b.sells=(⟨0,0,0⟩,av):=by rw[hl];rfl
  rw[e];exact kp
 ·obtain⟨r,l,hl⟩:∃r l,b.sells=r::l:=by
   cases hb:b.sells with
   |nil=>rw[hb]at c;exact absurd c (by decide)
   |cons r l=>exact⟨r,l,rfl⟩
  have e:b.best b.sells=(b.told r,aw):=by rw[hl];rfl
  rw[e]
  refine⟨⟨by omega,by rw[hl,y0f];omega⟩,r.price,r.queue,elA (x:=r) (by rw[hl];rfl) (by simp[zC]) rfl,⟨b,r⟩,?_⟩
  exact kp
theorem zJe:bestC.ok Tryz.prog 156:=fun i=>match i with
 |⟨av,b⟩=>yEe b
 |⟨aw,b⟩=>yEl b
theorem zMk {α:Type} (f:α→α) (x:α) (b:List α):∀a:List α,(a++x::b).modify a.length f=a++f x::b
 |[]=>rfl
 |y::a=>by
  show y::(a++x::b).modify a.length f=_
  rw[zMk f x b a];rfl
theorem zQm {els:List (List D)} {a b:List (List D)} {x y ds:List D} {j f:Nat} (h:els=a++x::b) (hl:a.length=j) (hy:x.take f++(ds++x.drop (f+ds.length))=y):zH els j f ds=a++y::b:=by
 rw[zH,h,← hl,zMk,hy]
theorem qS {s:MSt} {j:Nat} {x y:Top} {f:Nat} {ds:List D} (hj:j<s.books.length) (hy:(zX x).take f++(ds++(zX x).drop (f+ds.length))=zX y):
 zH (aa zX (xN s j x)) j f ds=aa zX (xN s j y):=by
 rw[zQm (a:=(s.tops.take j).map zX) (b:=(ab (s.books.length-j-1) top0).map zX) (by rw[xN,y0j,y0l]) (by
  rw[y0a,y0t,MSt.tops,y0a];omega) hy,xN,y0j,y0l]
theorem zNb {s:MSt} {j:Nat} {x:Top} (hj:j<s.books.length):(xN s j x).length=s.books.length:=by
 rw[xN,y0e,y0f,y0t,MSt.tops,y0a,y3h];omega
theorem zHn {s:MSt} {j:Nat} (hj:j<s.books.length):xN s j top0=xX s j:=by
 rw[xN,xX]
 obtain⟨m,hm⟩:∃m,s.books.length-j=m+1:=⟨s.books.length-j-1,by omega⟩
 rw[hm,y4o];rfl
theorem zIc {s:MSt} {j:Nat} {b:Book} (hb:s.books[j]? =az b):xN s j b.top=xX s (j+1):=by
 have hj:=(yZz.1 hb).1
 rw[xN,xX,y1i,show s.tops[j]? =az b.top by rw[MSt.tops,y0z,hb];rfl]
 simp only[y3f,y0i,y1p,y2e]
 rw[show s.books.length-j-1=s.books.length-(j+1)by omega]
theorem fQ {α:Type} {l:List α} {j:Nat} {x:α} (h:l[j]? =az x):l.set j x=l:=by
 obtain⟨hj,rfl⟩:=yZz.1 h
 exact List.set_getElem_self hj
theorem yVw (s:MSt) (h:topsC.cnd s):yOb s:=by
 obtain⟨h1,h2⟩:s.cntOk:=h
 unfold yOb zNg zCp uN qM wW gR zFe lG bK bM lP fZ bF lV f8 dQ zV bD Vtopst364 uK dI
 have p48:(2:Int) ^ (48:Nat)=281474976710656:=by decide
 refine⟨⟨by omega,by omega,by omega,by rw[p48];omega⟩,0,rfl,?_,fun j=>j≤s.books.length,fun j=>s.books.length-j,by omega,fun j hj=>zJ (fun hlt=> ?_) (fun hlt=> ?_)⟩
 ·rw[xX,y0j,List.map_replicate];rfl
 ·have hj':j<s.books.length:=by omega
  obtain⟨b,hb⟩:=z8 hj'
  have hc:=h2 b (y0g hb)
  simp only[y0s]
  have ha:∀x,(aa zX (xN s j x)).length=s.books.length:=fun x=>by rw[y0a,zNb hj']
  have w1:au.wrap (0+1)=1:=by decide
  have w2:(0+1) % ((2:Int) ^ au.bits).natAbs=1:=by decide
  refine⟨⟨by omega,by omega⟩,by omega,(j,top0),by rw[zHn hj'],fun x=>x=(j,top0.buy (b.best b.buys)),⟨⟨by decide,by decide⟩,1,rfl,b,hb,⟨av,b⟩,rfl,rfl,hc,fun _ _=>⟨b,rfl,kp,by omega,?_⟩⟩,?_⟩
  ·refine Cv.cnd.mk (fun c=> ?_) (fun c=> ?_)
   ·have c:(b.best b.buys).2=aw:=c
    have e1:=qS (s:=s) hj' (x:=top0) (y:={top0 with has1:=aw}) (f:=0+0+0*1) (ds:=[D.v (.bool aw)]) rfl
    have e2:=qS (s:=s) hj' (x:={top0 with has1:=aw}) (y:={top0 with has1:=aw,p1:=(b.best b.buys).1.price}) (f:=0+2+0*1) (ds:=[D.v (.int .i64 (b.best b.buys).1.price)]) rfl
    have e3:=qS (s:=s) hj' (x:={top0 with has1:=aw,p1:=(b.best b.buys).1.price}) (y:={top0 with has1:=aw,p1:=(b.best b.buys).1.price,q1:=(b.best b.buys).1.qty}) (f:=0+4+0*1) (ds:=[D.v (.int .i64 (b.best b.buys).1.qty)]) rfl
    dsimp only
    simp only[show b.side av=b.buys from rfl,e1,e2,e3,ha]
    (repeat'(first|exact rfl|exact trivial|assumption|apply ay|refine fun(_:Unit) (_:True)=>?_|refine ax () ?_|omega|(dsimp only;omega)))
    refine⟨(j,{top0 with has1:=aw,p1:=(b.best b.buys).1.price,q1:=(b.best b.buys).1.qty}),rfl,?_,?_⟩
    ·rw[Top.buy,yZy c]
    ·(repeat'(first|exact rfl|exact trivial|assumption|apply ay|refine fun(_:Unit) (_:True)=>?_|refine ax () ?_|omega|(dsimp only;omega)))
     rw[fQ hb]
   ·have c:(b.best b.buys).2=av:=c
    refine⟨(j,top0),rfl,?_,?_⟩
    ·rw[Top.buy,yZx (by rw[c];simp)]
    ·(repeat'(first|exact rfl|exact trivial|assumption|apply ay|refine fun(_:Unit) (_:True)=>?_|refine ax () ?_|omega|(dsimp only;omega)))
     rw[fQ hb]
  ·rintro _ rfl
   rw[w1]
   generalize hx:top0.buy (b.best b.buys)=x
   have hx2:b.top=x.sell (b.best b.sells):=by rw[Book.top,hx]
   refine⟨(j,x),rfl,fun y=>y=(j,b.top),⟨⟨by decide,by decide⟩,2,rfl,b,hb,⟨aw,b⟩,rfl,rfl,hc,fun _ _=>⟨b,rfl,kp,by omega,?_⟩⟩,?_⟩
   ·refine Cv.cnd.mk (fun c=> ?_) (fun c=> ?_)
    ·have c:(b.best b.sells).2=aw:=c
     have e1:=qS (s:=s) hj' (x:=x) (y:={x with has2:=aw}) (f:=0+0+1*1) (ds:=[D.v (.bool aw)]) rfl
     have e2:=qS (s:=s) hj' (x:={x with has2:=aw}) (y:={x with has2:=aw,p2:=(b.best b.sells).1.price}) (f:=0+2+1*1) (ds:=[D.v (.int .i64 (b.best b.sells).1.price)]) rfl
     have e3:=qS (s:=s) hj' (x:={x with has2:=aw,p2:=(b.best b.sells).1.price}) (y:={x with has2:=aw,p2:=(b.best b.sells).1.price,q2:=(b.best b.sells).1.qty}) (f:=0+4+1*1) (ds:=[D.v (.int .i64 (b.best b.sells).1.qty)]) rfl
     dsimp only
     simp only[w2,show b.side aw=b.sells from rfl,e1,e2,e3,ha]
     (repeat'(first|exact rfl|exact trivial|assumption|apply ay|refine fun(_:Unit) (_:True)=>?_|refine ax () ?_|omega|(dsimp only;omega)))
     refine⟨(j,{x with has2:=aw,p2:=(b.best b.sells).1.price,q2:=(b.best b.sells).1.qty}),rfl,?_,?_⟩
     ·rw[hx2,Top.sell,yZy c]
     ·(repeat'(first|exact rfl|exact trivial|assumption|apply ay|refine fun(_:Unit) (_:True)=>?_|refine ax () ?_|omega|(dsimp only;omega)))
      rw[fQ hb]
    ·have c:(b.best b.sells).2=av:=c
     refine⟨(j,x),rfl,?_,?_⟩
     ·rw[hx2,Top.sell,yZx (by rw[c];simp)]
     ·(repeat'(first|exact rfl|exact trivial|assumption|apply ay|refine fun(_:Unit) (_:True)=>?_|refine ax () ?_|omega|(dsimp only;omega)))
      rw[fQ hb]
   ·rintro _ rfl
    refine⟨j+1,by rw[w64 (by omega)];rfl,?_⟩
    refine⟨by dsimp only;rw[zIc hb],?_⟩
    exact kp
 ·have hj:j≤s.books.length:=hj
  obtain rfl:j=s.books.length:=by omega
  have e:xX s s.books.length=s.tops:=by
   rw[xX,y5s,List.replicate_zero,y0v,y0p (by rw[MSt.tops,y0a];omega)]
  rw[e]
  exact kp
theorem yIj:topsC.ok Tryz.prog 105:=okw mixed (gokc zJe gok0) 0 (fun s=>yNj s) (fun s=>yMm s) [0] Tryz.func105 yVw
theorem zDe:copySC.ok Tryz.prog 110:=okw (V:=yQa) mixed (gokc yIo (gokc yFt gok0)) 0 (fun _=>[]) (fun s=>yPi s) [0] Tryz.func110 fun(s:MSt) h=>by
 obtain⟨h1,h2⟩:s.small:=h
 refine⟨yW s.wh,?_⟩;(repeat'(first|exact rfl|exact trivial|assumption|apply ay|refine fun(_:Unit) (_:True)=>?_|refine ax () ?_|omega|(dsimp only;omega)))
 refine⟨0,?_⟩;(repeat'(first|exact rfl|exact trivial|assumption|apply ay|refine fun(_:Unit) (_:True)=>?_|refine ax () ?_|omega|(dsimp only;omega)))
 refine⟨fun j=>j≤s.books.length,fun j=>s.books.length-j,by omega,fun j hj=>zJ (fun hlt=> ?_) (fun hlt=> ?_)⟩
 ·obtain⟨b,hb⟩:=z8 (l:=s.books) (i:=j) (by omega)
  have hs:=h2 b (y0g hb)
  simp only[y0s]
  refine⟨⟨by omega,by omega⟩,by omega,b,hb,b,rfl,hs,fun _ _=>⟨b,rfl,kp,by omega,trivial,trivial,s.books.take j,rfl,?_,j+1,?_⟩⟩
  ·rw[y0t];omega
  ·rw[w64 (by omega),y1i,hb]
   (repeat'(first|exact rfl|exact trivial|assumption|apply ay|refine fun(_:Unit) (_:True)=>?_|refine ax () ?_|omega|(dsimp only;omega)))
   rw[fQ hb]
 ·have hj:j≤s.books.length:=hj
  obtain rfl:j=s.books.length:=by omega
  rw[y0p (y1f _)]
  exact kp
open Go Cv Go.Proofs
structure Leg where
 inst:Int
 side:Int
 deriving DecidableEq
structure Quote where
 price:Int
 qty:Int
 a:Leg
 b:Leg
 deriving DecidableEq
def zL (q:Quote):List D:=[.v (.int .i64 q.price),.v (.int .i64 q.qty),.v (.int .i64 q.a.inst),.v (.int .i64 q.a.side),.v (.int .i64 q.b.inst),.v (.int .i64 q.b.side)]
@[reducible] def zUc (q:Quote):V:= .agg [zA q.price,zA q.qty,zA q.a.inst,zA q.a.side,zA q.b.inst,zA q.b.side]
def yQk:Quote:=⟨0,0,⟨0,0⟩,⟨0,0⟩⟩
structure I3' where
 side:Int
 x:Int
 y:Int
def btr (side x y:Int):Bool:=if side=1 then decide (y<x)else decide (x<y)
def iotherC:Con:=con1 Int (fun n=>[zA n]) (fun _=>[]) (fun n=>n=1∨n=2) (fun n=>zA (3-n)) (fun _=>[])
def ibetterC:Con:=con1 I3' (fun i=>[zA i.side,zA i.x,zA i.y]) (fun _=>[]) (fun _=>True) (fun i=>yF (btr i.side i.x i.y)) (fun _=>[])
def Top.has (t:Top) (s:Int):Bool:=if s=1 then t.has1 else t.has2
def Top.price (t:Top) (s:Int):Int:=if s=1 then t.p1 else t.p2
def Top.qty (t:Top) (s:Int):Int:=if s=1 then t.q1 else t.q2
def mkq (tops:List Top) (a b:Leg) (less:Bool):List Quote:=
 let x:=tops.getD a.inst.toNat top0
 let y:=tops.getD b.inst.toNat top0
 let r:=if less then uW (y.price b.side) (x.price a.side)else u0 (x.price a.side) (y.price b.side)
 if x.has a.side && y.has b.side && r.2 then[⟨r.1,min (x.qty a.side) (y.qty b.side),a,b⟩]else[]
structure MkI where
 tops:List Top
 out:List Quote
 a:Int
 b:Int
 less:Bool
@[reducible] def vD (l:List Top):Prop:=l.length≤1000000∧∀t∈l,yO t.p1∧yO t.p2
def MkU (x:List Top×List Quote):Nat→AObj
 |0=> .cells [.own 1,.own 2] 307
 |1=> .fro 6 (x.1.map zX)
 |2=> .own 259 6 (x.2.map zL)
 |_=> .gone
@[reducible] def MkR (tops:List Top) (out:List Quote):List AObj:=[MkU (tops,out) 0,MkU (tops,out) 1,MkU (tops,out) 2]
@[reducible] def MkP (tops:List Top) (out:List Quote):List AObj:=[.cells [.own 1,.own 3] 307,MkU (tops,out) 1,.gone,MkU (tops,out) 2]
def mkC (sa sb:Int):Con:=con1 MkI (fun i=>[.nm 0 0,.agg [zA i.a,zA sa],.agg [zA i.b,zA sb],yF i.less]) (fun i=>MkR i.tops i.out)
 (fun i=>0≤i.a∧i.a<i.tops.length∧0≤i.b∧i.b<i.tops.length∧vD i.tops∧i.out.length≤1000) (fun _=>zDh) (fun i=>MkP i.tops (i.out++mkq i.tops ⟨i.a,sa⟩ ⟨i.b,sb⟩ i.less))
def mk11:Con:=mkC 1 1
def mk12:Con:=mkC 1 2
def mk21:Con:=mkC 2 1
def mk22:Con:=mkC 2 2
open Go Cv Go.Proofs
def yHl (n:Int):Prop:=
 ∃(o:Unit),3-n=au.wrap (3-n)∧True
def yCw (i:I3'):Prop:=
 cnd (i.side==1) (∃(o:Unit),btr i.side i.x i.y=decide (i.x>i.y)∧True) (∃(o:Unit),btr i.side i.x i.y=decide (i.x<i.y)∧True)
def eE (a:MkI):=(a.out++mkq a.tops (Leg.mk a.a 1) (Leg.mk a.b 1) a.less)
def nB (a:MkI):Prop:=∃(b:Unit),ak 6 (aa zX a.tops)=MkU (a.tops,a.out) 1∧aa zL (eE a)=aa zL a.out∧True
def kV (a:I2):Prop:=((-9223372036854775808)≤a.x∧a.x≤9223372036854775807)∧(-9223372036854775808)≤a.y∧a.y≤9223372036854775807
def qK (a:MkI):=(↑(aa zX a.tops).length:Int)
def xY (a:MkI):Prop:=(0≤a.b∧a.b<(qK a))∧a.b.toNat=a.b.toNat
def kX (a:MkI):Prop:=(0≤a.a∧a.a<(qK a))∧a.a.toNat=a.a.toNat
def kU (a:MkI):=((aa zL a.out).length+1)
def zMz (a:MkI) (b:Bool) (c:Bool) (d:Int) (e:Int) (f:Int) (g:Int):Prop:=True∧(xY a)∧a.b=a.b∧True∧True∧(kX a)∧a.a=a.a∧True∧True∧(xY a)∧a.b=a.b∧True∧True∧(kX a)∧a.a=a.a∧True∧True∧(xY a)∧a.b=a.b∧True∧cnd (!b) (nB a) (cnd (!c) (nB a) (∃(h:I2),h.x=d∧h.y=e∧(kV h)∧∀(j:Unit),True→cnd a.less (∃(k:I2),k.x=e∧k.y=d∧(kV k)∧∀(l:Unit),True→cnd (uW k.x k.y).snd (True∧(kU a)*(48:Nat)≤(140737488355328:Nat)∧∃(m:Unit),ak 6 (aa zX a.tops)=MkU (a.tops,a.out) 1∧aa zL (eE a)=aa zL a.out++[[dI ((uW k.x k.y).fst),dI (min f g),dI a.a,dI 1,dI a.b,dI 1]]∧True) (nB a)) (cnd (u0 h.x h.y).snd (True∧(kU a)*(48:Nat)≤(140737488355328:Nat)∧∃(k:Unit),ak 6 (aa zX a.tops)=MkU (a.tops,a.out) 1∧aa zL (eE a)=aa zL a.out++[[dI ((u0 h.x h.y).fst),dI (min f g),dI a.a,dI 1,dI a.b,dI 1]]∧True) (nB a))))
def yNq (i:MkI):Prop:=
 (0≤i.a∧i.a<(qK i))∧∃(a:Bool),∃(b:Bool),∃(c:Int),∃(d:Int),∃(e:Int),∃(f:Int),zE (aa zX i.tops) i.a.toNat 0 6=az [D.v (.bool a),D.v (.bool b),dI c,dI d,dI e,dI f]∧(0≤i.b∧i.b<(qK i))∧∃(g:Bool),∃(h:Bool),∃(j:Int),∃(k:Int),∃(l:Int),∃(m:Int),zE (aa zX i.tops) i.b.toNat 0 6=az [D.v (.bool g),D.v (.bool h),dI j,dI k,dI l,dI m]∧(zMz i a g c j e l)∧zMz i a g c j e l
def lB (a:MkI):=(a.out++mkq a.tops (Leg.mk a.a 1) (Leg.mk a.b 2) a.less)
def nI (a:MkI):Prop:=∃(b:Unit),ak 6 (aa zX a.tops)=MkU (a.tops,a.out) 1∧aa zL (lB a)=aa zL a.out∧True
def zKv (a:MkI) (b:Bool) (c:Bool) (d:Int) (e:Int) (f:Int) (g:Int):Prop:=True∧(xY a)∧a.b=a.b∧True∧True∧(kX a)∧a.a=a.a∧True∧True∧(xY a)∧a.b=a.b∧True∧True∧(kX a)∧a.a=a.a∧True∧True∧(xY a)∧a.b=a.b∧True∧cnd (!b) (nI a) (cnd (!c) (nI a) (∃(h:I2),h.x=d∧h.y=e∧(kV h)∧∀(j:Unit),True→cnd a.less (∃(k:I2),k.x=e∧k.y=d∧(kV k)∧∀(l:Unit),True→cnd (uW k.x k.y).snd (True∧(kU a)*(48:Nat)≤(140737488355328:Nat)∧∃(m:Unit),ak 6 (aa zX a.tops)=MkU (a.tops,a.out) 1∧aa zL (lB a)=aa zL a.out++[[dI ((uW k.x k.y).fst),dI (min f g),dI a.a,dI 1,dI a.b,dI 2]]∧True) (nI a)) (cnd (u0 h.x h.y).snd (True∧(kU a)*(48:Nat)≤(140737488355328:Nat)∧∃(k:Unit),ak 6 (aa zX a.tops)=MkU (a.tops,a.out) 1∧aa zL (lB a)=aa zL a.out++[[dI ((u0 h.x h.y).fst),dI (min f g),dI a.a,dI 1,dI a.b,dI 2]]∧True) (nI a))))
def yNp (i:MkI):Prop:=
 (0≤i.a∧i.a<(qK i))∧∃(a:Bool),∃(b:Bool),∃(c:Int),∃(d:Int),∃(e:Int),∃(f:Int),zE (aa zX i.tops) i.a.toNat 0 6=az [D.v (.bool a),D.v (.bool b),dI c,dI d,dI e,dI f]∧(0≤i.b∧i.b<(qK i))∧∃(g:Bool),∃(h:Bool),∃(j:Int),∃(k:Int),∃(l:Int),∃(m:Int),zE (aa zX i.tops) i.b.toNat 0 6=az [D.v (.bool g),D.v (.bool h),dI j,dI k,dI l,dI m]∧(zKv i a h c k e m)∧zKv i a h c k e m
def lS (a:MkI):=(a.out++mkq a.tops (Leg.mk a.a 2) (Leg.mk a.b 1) a.less)
def m4 (a:MkI):Prop:=∃(b:Unit),ak 6 (aa zX a.tops)=MkU (a.tops,a.out) 1∧aa zL (lS a)=aa zL a.out∧True
def zMo (a:MkI) (b:Bool) (c:Bool) (d:Int) (e:Int) (f:Int) (g:Int):Prop:=True∧(xY a)∧a.b=a.b∧True∧True∧(kX a)∧a.a=a.a∧True∧True∧(xY a)∧a.b=a.b∧True∧True∧(kX a)∧a.a=a.a∧True∧True∧(xY a)∧a.b=a.b∧True∧cnd (!b) (m4 a) (cnd (!c) (m4 a) (∃(h:I2),h.x=d∧h.y=e∧(kV h)∧∀(j:Unit),True→cnd a.less (∃(k:I2),k.x=e∧k.y=d∧(kV k)∧∀(l:Unit),True→cnd (uW k.x k.y).snd (True∧(kU a)*(48:Nat)≤(140737488355328:Nat)∧∃(m:Unit),ak 6 (aa zX a.tops)=MkU (a.tops,a.out) 1∧aa zL (lS a)=aa zL a.out++[[dI ((uW k.x k.y).fst),dI (min f g),dI a.a,dI 2,dI a.b,dI 1]]∧True) (m4 a)) (cnd (u0 h.x h.y).snd (True∧(kU a)*(48:Nat)≤(140737488355328:Nat)∧∃(k:Unit),ak 6 (aa zX a.tops)=MkU (a.tops,a.out) 1∧aa zL (lS a)=aa zL a.out++[[dI ((u0 h.x h.y).fst),dI (min f g),dI a.a,dI 2,dI a.b,dI 1]]∧True) (m4 a))))
def yOd (i:MkI):Prop:=
 (0≤i.a∧i.a<(qK i))∧∃(a:Bool),∃(b:Bool),∃(c:Int),∃(d:Int),∃(e:Int),∃(f:Int),zE (aa zX i.tops) i.a.toNat 0 6=az [D.v (.bool a),D.v (.bool b),dI c,dI d,dI e,dI f]∧(0≤i.b∧i.b<(qK i))∧∃(g:Bool),∃(h:Bool),∃(j:Int),∃(k:Int),∃(l:Int),∃(m:Int),zE (aa zX i.tops) i.b.toNat 0 6=az [D.v (.bool g),D.v (.bool h),dI j,dI k,dI l,dI m]∧(zMo i b g d j f l)∧zMo i b g d j f l
def eC (a:MkI):=(a.out++mkq a.tops (Leg.mk a.a 2) (Leg.mk a.b 2) a.less)
def mS (a:MkI):Prop:=∃(b:Unit),ak 6 (aa zX a.tops)=MkU (a.tops,a.out) 1∧aa zL (eC a)=aa zL a.out∧True
def zJt (a:MkI) (b:Bool) (c:Bool) (d:Int) (e:Int) (f:Int) (g:Int):Prop:=True∧(xY a)∧a.b=a.b∧True∧True∧(kX a)∧a.a=a.a∧True∧True∧(xY a)∧a.b=a.b∧True∧True∧(kX a)∧a.a=a.a∧True∧True∧(xY a)∧a.b=a.b∧True∧cnd (!b) (mS a) (cnd (!c) (mS a) (∃(h:I2),h.x=d∧h.y=e∧(kV h)∧∀(j:Unit),True→cnd a.less (∃(k:I2),k.x=e∧k.y=d∧(kV k)∧∀(l:Unit),True→cnd (uW k.x k.y).snd (True∧(kU a)*(48:Nat)≤(140737488355328:Nat)∧∃(m:Unit),ak 6 (aa zX a.tops)=MkU (a.tops,a.out) 1∧aa zL (eC a)=aa zL a.out++[[dI ((uW k.x k.y).fst),dI (min f g),dI a.a,dI 2,dI a.b,dI 2]]∧True) (mS a)) (cnd (u0 h.x h.y).snd (True∧(kU a)*(48:Nat)≤(140737488355328:Nat)∧∃(k:Unit),ak 6 (aa zX a.tops)=MkU (a.tops,a.out) 1∧aa zL (eC a)=aa zL a.out++[[dI ((u0 h.x h.y).fst),dI (min f g),dI a.a,dI 2,dI a.b,dI 2]]∧True) (mS a))))
def yOf (i:MkI):Prop:=
 (0≤i.a∧i.a<(qK i))∧∃(a:Bool),∃(b:Bool),∃(c:Int),∃(d:Int),∃(e:Int),∃(f:Int),zE (aa zX i.tops) i.a.toNat 0 6=az [D.v (.bool a),D.v (.bool b),dI c,dI d,dI e,dI f]∧(0≤i.b∧i.b<(qK i))∧∃(g:Bool),∃(h:Bool),∃(j:Int),∃(k:Int),∃(l:Int),∃(m:Int),zE (aa zX i.tops) i.b.toNat 0 6=az [D.v (.bool g),D.v (.bool h),dI j,dI k,dI l,dI m]∧(zJt i b h d k f m)∧zJt i b h d k f m
open Go Cv Go.Proofs
theorem zQi:iotherC.ok Tryz.prog 197:=okw (V:=yHl) mixed gok0 0 (fun _=>[]) (fun _=>[]) [] Tryz.func197 fun(n:Int) h=>by
 have h:n=1∨n=2:=h
 refine⟨(),?_,trivial⟩
 rw[w64 (by omega)]
theorem z0u:ibetterC.ok Tryz.prog 195:=okw (V:=yCw) mixed gok0 0 (fun _=>[]) (fun _=>[]) [] Tryz.func195 fun(i:I3') _=>by
 refine Cv.cnd.mk (fun e=>⟨(),?_,trivial⟩) (fun e=>⟨(),?_,trivial⟩)
 ·have e:i.side=1:=by simpa using e
  simp[btr,e]
 ·have e:i.side≠1:=by simpa using e
  simp[btr,e]
theorem yKv (a b:Int):(if b<a then b else a)=min a b:=by split<;>omega
theorem yXo (i:MkI) (h:mk11.cnd i):yNq i:=by
 obtain⟨a0,a1,b0,b1,⟨ht,hp⟩,ho⟩:0≤i.a∧i.a<i.tops.length∧0≤i.b∧i.b<i.tops.length∧vD i.tops∧i.out.length≤1000:=h
 obtain⟨x,hx⟩:=z8 (l:=i.tops) (i:=i.a.toNat) (by omega)
 obtain⟨y,hy⟩:=z8 (l:=i.tops) (i:=i.b.toNat) (by omega)
 obtain⟨⟨px1,px2⟩,px3,px4⟩:=hp x (y0g hx)
 obtain⟨⟨py1,py2⟩,py3,py4⟩:=hp y (y0g hy)
 have e0:mkq i.tops ⟨i.a,1⟩ ⟨i.b,1⟩ i.less=if x.has1 && y.has1 && (if i.less then uW y.p1 x.p1 else u0 x.p1 y.p1).2 then[⟨(if i.less then uW y.p1 x.p1 else u0 x.p1 y.p1).1,min x.q1 y.q1,⟨i.a,1⟩,⟨i.b,1⟩⟩]else[]:=by
  simp only[mkq,y0h,hx,hy,y2f];rfl
 unfold yNq zMz kU kX xY qK kV nB eE dI
 simp only[y0a]
 refine⟨⟨by omega,by omega⟩,x.has1,x.has2,x.p1,x.p2,x.q1,x.q2,elA hx (by simp[zX]) rfl,⟨by omega,by omega⟩,y.has1,y.has2,y.p1,y.p2,y.q1,y.q2,elA hy (by simp[zX]) rfl,?_⟩
 rw[e0]
 (repeat'(first|exact rfl|exact trivial|assumption|apply ay|refine fun(_:Unit) (_:True)=>?_|refine ax () ?_|omega|(dsimp only;omega)))
 all_goals
  refine Cv.cnd.mk (fun c1=> ?_) (fun c1=>Cv.cnd.mk (fun c2=> ?_) (fun c2=> ?_))
  ·have c1:x.has1=av:=by simpa using c1
   simp only[c1,y3l,y0r,if_false,y0v];exact kp
  ·have c2:y.has1=av:=by simpa using c2
   simp only[c2,y5g,y3l,y0r,if_false,y0v];exact kp
  ·have c1:x.has1=aw:=by simpa using c1
   have c2:y.has1=aw:=by simpa using c2
   simp only[c1,c2,y2y,yKv]
   refine⟨⟨x.p1,y.p1⟩,?_⟩
   (repeat'(first|exact rfl|exact trivial|assumption|apply ay|refine fun(_:Unit) (_:True)=>?_|refine ax () ?_|omega|(dsimp only;omega)))
   refine Cv.cnd.mk (fun c3=> ?_) (fun c3=> ?_)
   ·have c3:i.less=aw:=c3
    simp only[c3,if_true]
    refine⟨⟨y.p1,x.p1⟩,?_⟩
    (repeat'(first|exact rfl|exact trivial|assumption|apply ay|refine fun(_:Unit) (_:True)=>?_|refine ax () ?_|omega|(dsimp only;omega)))
    refine Cv.cnd.mk (fun c4=> ?_) (fun c4=> ?_)
    ·have c4:(uW y.p1 x.p1).2=aw:=c4
     simp only[c4,if_true,y0j];exact kp
    ·have c4:(uW y.p1 x.p1).2=av:=c4
     simp only[c4,y0r,if_false,y0v];exact kp
   ·have c3:i.less=av:=c3
    simp only[c3,y0r,if_false]
    refine Cv.cnd.mk (fun c4=> ?_) (fun c4=> ?_)
    ·have c4:(u0 x.p1 y.p1).2=aw:=c4
     simp only[c4,if_true,y0j];exact kp
    ·have c4:(u0 x.p1 y.p1).2=av:=c4
     simp only[c4,y0r,if_false,y0v];exact kp
theorem yHm:mk11.ok Tryz.prog 198:=okw mixed (gokc zTi (gokc zRz gok0)) 0 (fun _=>[]) (fun _=>[]) [] Tryz.func198 yXo
theorem yWc (i:MkI) (h:mk12.cnd i):yNp i:=by
 obtain⟨a0,a1,b0,b1,⟨ht,hp⟩,ho⟩:0≤i.a∧i.a<i.tops.length∧0≤i.b∧i.b<i.tops.length∧vD i.tops∧i.out.length≤1000:=h
 obtain⟨x,hx⟩:=z8 (l:=i.tops) (i:=i.a.toNat) (by omega)
 obtain⟨y,hy⟩:=z8 (l:=i.tops) (i:=i.b.toNat) (by omega)
 obtain⟨⟨px1,px2⟩,px3,px4⟩:=hp x (y0g hx)
 obtain⟨⟨py1,py2⟩,py3,py4⟩:=hp y (y0g hy)
 have e0:mkq i.tops ⟨i.a,1⟩ ⟨i.b,2⟩ i.less=if x.has1 && y.has2 && (if i.less then uW y.p2 x.p1 else u0 x.p1 y.p2).2 then[⟨(if i.less then uW y.p2 x.p1 else u0 x.p1 y.p2).1,min x.q1 y.q2,⟨i.a,1⟩,⟨i.b,2⟩⟩]else[]:=by
  simp only[mkq,y0h,hx,hy,y2f];rfl
 unfold yNp zKv nI lB kU kX xY kV qK dI
 simp only[y0a]
 refine⟨⟨by omega,by omega⟩,x.has1,x.has2,x.p1,x.p2,x.q1,x.q2,elA hx (by simp[zX]) rfl,⟨by omega,by omega⟩,y.has1,y.has2,y.p1,y.p2,y.q1,y.q2,elA hy (by simp[zX]) rfl,?_⟩
 rw[e0]
 (repeat'(first|exact rfl|exact trivial|assumption|apply ay|refine fun(_:Unit) (_:True)=>?_|refine ax () ?_|omega|(dsimp only;omega)))
 all_goals
  refine Cv.cnd.mk (fun c1=> ?_) (fun c1=>Cv.cnd.mk (fun c2=> ?_) (fun c2=> ?_))
  ·have c1:x.has1=av:=by simpa using c1
   simp only[c1,y3l,y0r,if_false,y0v];exact kp
  ·have c2:y.has2=av:=by simpa using c2
   simp only[c2,y5g,y3l,y0r,if_false,y0v];exact kp
  ·have c1:x.has1=aw:=by simpa using c1
   have c2:y.has2=aw:=by simpa using c2
   simp only[c1,c2,y2y,yKv]
   refine⟨⟨x.p1,y.p2⟩,?_⟩
   (repeat'(first|exact rfl|exact trivial|assumption|apply ay|refine fun(_:Unit) (_:True)=>?_|refine ax () ?_|omega|(dsimp only;omega)))
   refine Cv.cnd.mk (fun c3=> ?_) (fun c3=> ?_)
   ·have c3:i.less=aw:=c3
    simp only[c3,if_true]
    refine⟨⟨y.p2,x.p1⟩,?_⟩
    (repeat'(first|exact rfl|exact trivial|assumption|apply ay|refine fun(_:Unit) (_:True)=>?_|refine ax () ?_|omega|(dsimp only;omega)))
    refine Cv.cnd.mk (fun c4=> ?_) (fun c4=> ?_)
    ·have c4:(uW y.p2 x.p1).2=aw:=c4
     simp only[c4,if_true,y0j];exact kp
    ·have c4:(uW y.p2 x.p1).2=av:=c4
     simp only[c4,y0r,if_false,y0v];exact kp
   ·have c3:i.less=av:=c3
    simp only[c3,y0r,if_false]
    refine Cv.cnd.mk (fun c4=> ?_) (fun c4=> ?_)
    ·have c4:(u0 x.p1 y.p2).2=aw:=c4
     simp only[c4,if_true,y0j];exact kp
    ·have c4:(u0 x.p1 y.p2).2=av:=c4
     simp only[c4,y0r,if_false,y0v];exact kp
theorem yIc:mk12.ok Tryz.prog 198:=okw mixed (gokc zTi (gokc zRz gok0)) 0 (fun _=>[]) (fun _=>[]) [] Tryz.func198 yWc
theorem yWx (i:MkI) (h:mk21.cnd i):yOd i:=by
 obtain⟨a0,a1,b0,b1,⟨ht,hp⟩,ho⟩:0≤i.a∧i.a<i.tops.length∧0≤i.b∧i.b<i.tops.length∧vD i.tops∧i.out.length≤1000:=h
 obtain⟨x,hx⟩:=z8 (l:=i.tops) (i:=i.a.toNat) (by omega)
 obtain⟨y,hy⟩:=z8 (l:=i.tops) (i:=i.b.toNat) (by omega)
 obtain⟨⟨px1,px2⟩,px3,px4⟩:=hp x (y0g hx)
 obtain⟨⟨py1,py2⟩,py3,py4⟩:=hp y (y0g hy)
 have e0:mkq i.tops ⟨i.a,2⟩ ⟨i.b,1⟩ i.less=if x.has2 && y.has1 && (if i.less then uW y.p1 x.p2 else u0 x.p2 y.p1).2 then[⟨(if i.less then uW y.p1 x.p2 else u0 x.p2 y.p1).1,min x.q2 y.q1,⟨i.a,2⟩,⟨i.b,1⟩⟩]else[]:=by
  simp only[mkq,y0h,hx,hy,y2f];rfl
 unfold yOd zMo m4 lS kU kX xY kV qK dI
 simp only[y0a]
 refine⟨⟨by omega,by omega⟩,x.has1,x.has2,x.p1,x.p2,x.q1,x.q2,elA hx (by simp[zX]) rfl,⟨by omega,by omega⟩,y.has1,y.has2,y.p1,y.p2,y.q1,y.q2,elA hy (by simp[zX]) rfl,?_⟩
 rw[e0]
 (repeat'(first|exact rfl|exact trivial|assumption|apply ay|refine fun(_:Unit) (_:True)=>?_|refine ax () ?_|omega|(dsimp only;omega)))
 all_goals
  refine Cv.cnd.mk (fun c1=> ?_) (fun c1=>Cv.cnd.mk (fun c2=> ?_) (fun c2=> ?_))
  ·have c1:x.has2=av:=by simpa using c1
   simp only[c1,y3l,y0r,if_false,y0v];exact kp
  ·have c2:y.has1=av:=by simpa using c2
   simp only[c2,y5g,y3l,y0r,if_false,y0v];exact kp
  ·have c1:x.has2=aw:=by simpa using c1
   have c2:y.has1=aw:=by simpa using c2
   simp only[c1,c2,y2y,yKv]
   refine⟨⟨x.p2,y.p1⟩,?_⟩
   (repeat'(first|exact rfl|exact trivial|assumption|apply ay|refine fun(_:Unit) (_:True)=>?_|refine ax () ?_|omega|(dsimp only;omega)))
   refine Cv.cnd.mk (fun c3=> ?_) (fun c3=> ?_)
   ·have c3:i.less=aw:=c3
    simp only[c3,if_true]
    refine⟨⟨y.p1,x.p2⟩,?_⟩
    (repeat'(first|exact rfl|exact trivial|assumption|apply ay|refine fun(_:Unit) (_:True)=>?_|refine ax () ?_|omega|(dsimp only;omega)))
    refine Cv.cnd.mk (fun c4=> ?_) (fun c4=> ?_)
    ·have c4:(uW y.p1 x.p2).2=aw:=c4
     simp only[c4,if_true,y0j];exact kp
    ·have c4:(uW y.p1 x.p2).2=av:=c4
     simp only[c4,y0r,if_false,y0v];exact kp
   ·have c3:i.less=av:=c3
    simp only[c3,y0r,if_false]
    refine Cv.cnd.mk (fun c4=> ?_) (fun c4=> ?_)
    ·have c4:(u0 x.p2 y.p1).2=aw:=c4
     simp only[c4,if_true,y0j];exact kp
    ·have c4:(u0 x.p2 y.p1).2=av:=c4
     simp only[c4,y0r,if_false,y0v];exact kp
theorem yJj:mk21.ok Tryz.prog 198:=okw mixed (gokc zTi (gokc zRz gok0)) 0 (fun _=>[]) (fun _=>[]) [] Tryz.func198 yWx
theorem yWh (i:MkI) (h:mk22.cnd i):yOf i:=by
 obtain⟨a0,a1,b0,b1,⟨ht,hp⟩,ho⟩:0≤i.a∧i.a<i.tops.length∧0≤i.b∧i.b<i.tops.length∧vD i.tops∧i.out.length≤1000:=h
 obtain⟨x,hx⟩:=z8 (l:=i.tops) (i:=i.a.toNat) (by omega)
 obtain⟨y,hy⟩:=z8 (l:=i.tops) (i:=i.b.toNat) (by omega)
 obtain⟨⟨px1,px2⟩,px3,px4⟩:=hp x (y0g hx)
 obtain⟨⟨py1,py2⟩,py3,py4⟩:=hp y (y0g hy)
 have e0:mkq i.tops ⟨i.a,2⟩ ⟨i.b,2⟩ i.less=if x.has2 && y.has2 && (if i.less then uW y.p2 x.p2 else u0 x.p2 y.p2).2 then[⟨(if i.less then uW y.p2 x.p2 else u0 x.p2 y.p2).1,min x.q2 y.q2,⟨i.a,2⟩,⟨i.b,2⟩⟩]else[]:=by
  simp only[mkq,y0h,hx,hy,y2f];rfl
 unfold yOf zJt mS eC kU kX xY kV qK dI
 simp only[y0a]
 refine⟨⟨by omega,by omega⟩,x.has1,x.has2,x.p1,x.p2,x.q1,x.q2,elA hx (by simp[zX]) rfl,⟨by omega,by omega⟩,y.has1,y.has2,y.p1,y.p2,y.q1,y.q2,elA hy (by simp[zX]) rfl,?_⟩
 rw[e0]
 (repeat'(first|exact rfl|exact trivial|assumption|apply ay|refine fun(_:Unit) (_:True)=>?_|refine ax () ?_|omega|(dsimp only;omega)))
 all_goals
  refine Cv.cnd.mk (fun c1=> ?_) (fun c1=>Cv.cnd.mk (fun c2=> ?_) (fun c2=> ?_))
  ·have c1:x.has2=av:=by simpa using c1
   simp only[c1,y3l,y0r,if_false,y0v];exact kp
  ·have c2:y.has2=av:=by simpa using c2
   simp only[c2,y5g,y3l,y0r,if_false,y0v];exact kp
  ·have c1:x.has2=aw:=by simpa using c1
   have c2:y.has2=aw:=by simpa using c2
   simp only[c1,c2,y2y,yKv]
   refine⟨⟨x.p2,y.p2⟩,?_⟩
   (repeat'(first|exact rfl|exact trivial|assumption|apply ay|refine fun(_:Unit) (_:True)=>?_|refine ax () ?_|omega|(dsimp only;omega)))
   refine Cv.cnd.mk (fun c3=> ?_) (fun c3=> ?_)
   ·have c3:i.less=aw:=c3
    simp only[c3,if_true]
    refine⟨⟨y.p2,x.p2⟩,?_⟩
    (repeat'(first|exact rfl|exact trivial|assumption|apply ay|refine fun(_:Unit) (_:True)=>?_|refine ax () ?_|omega|(dsimp only;omega)))
    refine Cv.cnd.mk (fun c4=> ?_) (fun c4=> ?_)
    ·have c4:(uW y.p2 x.p2).2=aw:=c4
     simp only[c4,if_true,y0j];exact kp
    ·have c4:(uW y.p2 x.p2).2=av:=c4
     simp only[c4,y0r,if_false,y0v];exact kp
   ·have c3:i.less=av:=c3
    simp only[c3,y0r,if_false]
    refine Cv.cnd.mk (fun c4=> ?_) (fun c4=> ?_)
    ·have c4:(u0 x.p2 y.p2).2=aw:=c4
     simp only[c4,if_true,y0j];exact kp
    ·have c4:(u0 x.p2 y.p2).2=av:=c4
     simp only[c4,y0r,if_false,y0v];exact kp
theorem yHy:mk22.ok Tryz.prog 198:=okw mixed (gokc zTi (gokc zRz gok0)) 0 (fun _=>[]) (fun _=>[]) [] Tryz.func198 yWh
open Go Cv Go.Proofs
structure MkJ where
 i:MkI
 sa:Bool
 sb:Bool
def mkAnyC:Con:=con1 MkJ (fun j=>[.nm 0 0,.agg [zA j.i.a,zA (zD j.sa)],.agg [zA j.i.b,zA (zD j.sb)],yF j.i.less]) (fun j=>MkR j.i.tops j.i.out)
 (fun j=>0≤j.i.a∧j.i.a<j.i.tops.length∧0≤j.i.b∧j.i.b<j.i.tops.length∧vD j.i.tops∧j.i.out.length≤1000) (fun _=>zDh) (fun j=>MkP j.i.tops (j.i.out++mkq j.i.tops ⟨j.i.a,zD j.sa⟩ ⟨j.i.b,zD j.sb⟩ j.i.less))
theorem zXp:mkAnyC.ok Tryz.prog 198:=fun j=>match j with
 |⟨i,av,av⟩=>yHm i
 |⟨i,av,aw⟩=>yIc i
 |⟨i,aw,av⟩=>yJj i
 |⟨i,aw,aw⟩=>yHy i
structure dJ where
 p:Prd
 tops:List Top
 inst:Int
def kT (i:dJ) (s:Int) (k:Nat):List Quote:=(ae k).flatMap fun(k:Nat)=>mkq i.tops ⟨(i.p.spread i.inst (i.inst+1+k)).1,s⟩ ⟨i.inst+1+k,s⟩ av
def j6 (i:dJ) (s:Int) (k:Nat):List Quote:=(ae k).flatMap fun(k:Nat)=>mkq i.tops ⟨(i.p.spread k i.inst).1,3-s⟩ ⟨k,s⟩ aw
def yP (i:dJ) (s:Int):List Quote:=mkq i.tops ⟨(i.p.legs i.inst).2.1,3-s⟩ ⟨(i.p.legs i.inst).1,s⟩ aw
def cP (i:dJ) (s:Int) (q:Quote):Quote:={q with a:=⟨(i.p.legs i.inst).1,s⟩,b:=⟨(i.p.legs i.inst).2.1,3-s⟩}
def kE (i:dJ) (s:Int):List Quote:=
 if i.p.count=0∨(i.tops.length:Int)≠i.p.count∨i.inst<0∨(i.p.count:Int)≤i.inst then[]
 else if(i.p.legs i.inst).2.2 then(yP i s).map (cP i s)
 else kT i s (i.p.months.length-(i.inst.toNat+1))++j6 i s i.inst.toNat
def yNl (s:Int):Con:=con1 dJ (fun i=>[prdV i.p,roV 6 (i.tops.map zX),zA i.inst,zA s]) (fun _=>[]) (fun i=>i.p.small∧vD i.tops) (fun _=> .own 0) (fun i=>[.own 259 6 ((kE i s).map zL)])
def all1C:Con:=yNl 1
def all2C:Con:=yNl 2
def yWr (i:dJ) (s:Int):List SAnn:=[
 {ι:=Nat,slots:=fun k=>[(10,.nm 0 0),(77,zA k)],rows:=fun k=>(ae 3).map (MkU (i.tops,((yP i s).take k).map (cP i s)++(yP i s).drop k))},
 {ι:=Nat,slots:=fun k=>[(10,.nm 0 0),(17,zA (i.inst+1+k))],rows:=fun k=>MkR i.tops (kT i s k)},
 {ι:=Nat,slots:=fun k=>[(10,.nm 0 0),(120,zA k)],rows:=fun k=>MkR i.tops (kT i s (i.p.months.length-(i.inst.toNat+1))++j6 i s k)}]
structure tM where
 i:dJ
 s:Bool
def allC:Con:=con1 tM (fun j=>[prdV j.i.p,roV 6 (j.i.tops.map zX),zA j.i.inst,zA (zD j.s)]) (fun _=>[]) (fun j=>j.i.p.small∧vD j.i.tops) (fun _=> .own 0) (fun j=>[.own 259 6 ((kE j.i (zD j.s)).map zL)])
def xS (i:dJ) (s:Int):List Quote:=(kE i s).filter fun q=>decide (i.p.price i.inst q.price=0)
def quotesC:Con:=con1 tM (fun j=>[prdV j.i.p,roV 6 (j.i.tops.map zX),zA j.i.inst,zA (zD j.s)]) (fun _=>[]) (fun j=>j.i.p.small∧vD j.i.tops) (fun _=> .own 0) (fun j=>[.own 259 6 ((xS j.i (zD j.s)).map zL)])
def yLd (j:tM):List SAnn:=[{ι:=Nat,slots:=fun k=>[(9,.own 0),(18,zA k)],rows:=fun k=>[.own 259 6 ((((kE j.i (zD j.s)).take k).filter fun q=>decide (j.i.p.price j.i.inst q.price=0)).map zL)]}]
structure BsI where
 l:List Quote
 s:Int
def zU (l:List Quote) (s:Int):Quote×Bool:=match l with
 |[]=>(yQk,av)
 |q::r=>(r.foldl (fun b q=>if btr s q.price b.price then q else b) q,aw)
def bestQC:Con:=con1 BsI (fun i=>[roV 6 (i.l.map zL),zA i.s]) (fun _=>[]) (fun i=>(i.s=1∨i.s=2)∧i.l.length≤1000000) (fun i=> .tup [zUc (zU i.l i.s).1,yF (zU i.l i.s).2]) (fun _=>[])
def yPh (i:BsI):List SAnn:=[{ι:=Nat,slots:=fun k=>[(6,.nm 0 0),(26,zA k)],rows:=fun k=>[.cells (zUc (zU (i.l.take (max k 1)) i.s).1).cl 259]}]
open Go Cv Go.Proofs
def mK (a:dJ):Prop:=ak 6 (aa zX a.tops)=ak 6 (aa zX a.tops)∧am [V.d (D.v (bg (sb a.p.code))),V.own 0,V.d (dI a.p.tick),V.d (dI a.p.low),V.d (dI a.p.high),V.d (dI a.p.wide),V.d (dI a.p.rule),V.d (dI a.p.top),V.d (dI a.p.least),V.d (dI a.p.part),V.own ((0:Nat)+(1:Nat))] 25=am [V.d (D.v (bg (sb a.p.code))),V.own 0,V.d (dI a.p.tick),V.d (dI a.p.low),V.d (dI a.p.high),V.d (dI a.p.wide),V.d (dI a.p.rule),V.d (dI a.p.top),V.d (dI a.p.least),V.d (dI a.p.part),V.own ((0:Nat)+(1:Nat))] 25∧ak 1 (iE a.p.settle)=ak 1 (iE a.p.settle)∧ak 1 (iE a.p.months)=ak 1 (iE a.p.months)
def zDx (a:Nat→Prop) (b:Nat) (c:Nat→Nat) (d:Nat) (e:dJ):Prop:=a b∧c b<c d∧ak 6 (aa zX e.tops)=ak 6 (aa zX e.tops)∧mK e
def zDq (a:Nat→Prop) (b:Nat) (c:Nat→Nat) (d:Nat) (e:dJ):Prop:=a b∧c b<c d∧mK e
def gU (a:Top):Prop:=((-9223372036854775808)≤a.p1∧a.p1≤9223372036854775807)∧(-9223372036854775808)≤a.p2∧a.p2≤9223372036854775807
def g7 (a:MkJ):Prop:=0≤a.i.a∧a.i.a<(↑a.i.tops.length:Int)∧0≤a.i.b∧a.i.b<(↑a.i.tops.length:Int)∧(a.i.tops.length≤1000000∧∀(b:Top),b∈a.i.tops→gU b)∧a.i.out.length≤1000
def uC (a:MkJ):=(a.i.out++mkq a.i.tops (Leg.mk a.i.a (zD a.sa)) (Leg.mk a.i.b (zD a.sb)) a.i.less)
def lJ (a:Nat) (b:MkJ):=(decide ((↑a:Int)<(↑(aa zL (uC b)).length:Int)))
def xZ (a:r9):Prop:=a.p.code.length≤1099511627776∧a.p.months.length≤1099511627776∧a.p.settle.length≤1099511627776
def kY (a:cI):Prop:=a.p.code.length≤1099511627776∧a.p.months.length≤1099511627776∧a.p.settle.length≤1099511627776
def mQ (a:dJ) (b:Nat):=(aa (cP a 1) (ac b (yP a 1))++aj b (yP a 1))
def lE (a:dJ) (b:Nat):=(aa zL (mQ a b))
def mR (a:dJ) (b:Nat):=(kT a 1 (a.p.months.length-(a.inst.toNat+1))++j6 a 1 b)
def vA (a:cI):=((a.p.legs a.n).snd.fst)
def yMs (i:dJ):Prop:=
 ∃(a:Prd),sb a.code=sb i.p.code∧iE a.months=iE i.p.months∧a.tick=i.p.tick∧a.low=i.p.low∧a.high=i.p.high∧a.wide=i.p.wide∧a.rule=i.p.rule∧a.top=i.p.top∧a.least=i.p.least∧a.part=i.p.part∧iE a.settle=iE i.p.settle∧(zY a)∧∀(b:Unit),True→cnd ((↑a.count:Int)==0) (∃(c:Unit),aa zL (kE i 1)=[]∧True) (cnd ((↑(aa zX i.tops).length:Int) !=(↑a.count:Int)) (∃(c:Unit),aa zL (kE i 1)=[]∧True) (cnd (decide (i.inst<0)) (∃(c:Unit),aa zL (kE i 1)=[]∧True) (cnd (decide (i.inst≥(↑a.count:Int))) (∃(c:Unit),aa zL (kE i 1)=[]∧True) (∃(c:cI),sb c.p.code=sb i.p.code∧iE c.p.months=iE i.p.months∧c.p.tick=i.p.tick∧c.p.low=i.p.low∧c.p.high=i.p.high∧c.p.wide=i.p.wide∧c.p.rule=i.p.rule∧c.p.top=i.p.top∧c.p.least=i.p.least∧c.p.part=i.p.part∧iE c.p.settle=iE i.p.settle∧c.n=i.inst∧(kY c)∧∀(d:Unit),True→cnd (c.p.legs c.n).snd.snd (∃(e:Int),e=1∧(e=1∨e=2)∧∀(f:Unit),True→∃(g:MkJ),g.i.a=(c.p.legs c.n).snd.fst∧zD g.sa=3-e∧g.i.b=(c.p.legs c.n).fst∧zD g.sb=1∧g.i.less=aw∧ak 6 (aa zX g.i.tops)=ak 6 (aa zX i.tops)∧aa zL g.i.out=[]∧(g7 g)∧∀(h:Unit),True→∃(j:Nat),(↑j:Int)=0∧ak 6 (aa zX i.tops)=ak 6 (aa zX g.i.tops)∧aa zL (mQ i j)=aa zL (uC g)∧∃(k:Nat→Prop),∃(l:Nat→Nat),k j∧∀(m:Nat),k m→cnd (lJ m g) ((0≤(↑m:Int)∧(↑m:Int)<(↑(lE i m).length:Int))∧(↑m:Int).toNat<(lE i m).length∧∃(n:Nat),(↑n:Int)=au.wrap ((↑m:Int)+1)∧ak 6 (aa zX i.tops)=ak 6 (aa zX i.tops)∧aa zL (mQ i n)=zH (lE i m) (↑m:Int).toNat ((0:Nat)+(2:Nat)) [dI ((c.p.legs c.n).fst),dI 1,dI (vA c),dI (3-e)]∧k n∧l n<l m∧ak 6 (aa zX g.i.tops)=ak 6 (aa zX g.i.tops)∧am [V.d (dI (vA c)),V.d (dI (3-e))] 256=am [V.d (dI (vA c)),V.d (dI (3-e))] 256∧am [V.d (dI ((c.p.legs c.n).fst)),V.d (dI 1)] 256=am [V.d (dI ((c.p.legs c.n).fst)),V.d (dI 1)] 256∧mK i) (∃(n:Unit),aa zL (kE i 1)=aa zL (mQ i m)∧True)) (∃(e:Nat),i.inst+1+(↑e:Int)=au.wrap (i.inst+1)∧ak 6 (aa zX i.tops)=ak 6 (aa zX i.tops)∧aa zL (kT i 1 e)=[]∧∃(f:Nat→Prop),∃(g:Nat→Nat),f e∧∀(h:Nat),f h→cnd (decide (i.inst+1+(↑h:Int)<(↑(iE i.p.months).length:Int))) (∃(j:r9),sb j.p.code=sb i.p.code∧iE j.p.months=iE i.p.months∧j.p.tick=i.p.tick∧j.p.low=i.p.low∧j.p.high=i.p.high∧j.p.wide=i.p.wide∧j.p.rule=i.p.rule∧j.p.top=i.p.top∧j.p.least=i.p.least∧j.p.part=i.p.part∧iE j.p.settle=iE i.p.settle∧j.a=i.inst∧j.b=i.inst+1+(↑h:Int)∧(xZ j)∧∀(k:Unit),True→∃(l:MkJ),l.i.a=(j.p.spread j.a j.b).fst∧zD l.sa=1∧l.i.b=i.inst+1+(↑h:Int)∧zD l.sb=1∧l.i.less=av∧ak 6 (aa zX l.i.tops)=ak 6 (aa zX i.tops)∧aa zL l.i.out=aa zL (kT i 1 h)∧(g7 l)∧∀(m:Unit),True→∃(n:Nat),i.inst+1+(↑n:Int)=au.wrap (i.inst+1+(↑h:Int)+1)∧ak 6 (aa zX i.tops)=ak 6 (aa zX l.i.tops)∧aa zL (kT i 1 n)=aa zL (uC l)∧zDq f n g h i) (∃(j:Nat),(↑j:Int)=0∧ak 6 (aa zX i.tops)=ak 6 (aa zX i.tops)∧aa zL (mR i j)=aa zL (kT i 1 h)∧∃(k:Nat→Prop),∃(l:Nat→Nat),k j∧∀(m:Nat),k m→cnd (decide ((↑m:Int)<i.inst)) (∃(n:r9),sb n.p.code=sb i.p.code∧iE n.p.months=iE i.p.months∧n.p.tick=i.p.tick∧n.p.low=i.p.low∧n.p.high=i.p.high∧n.p.wide=i.p.wide∧n.p.rule=i.p.rule∧n.p.top=i.p.top∧n.p.least=i.p.least∧n.p.part=i.p.part∧iE n.p.settle=iE i.p.settle∧n.a=(↑m:Int)∧n.b=i.inst∧(xZ n)∧∀(p:Unit),True→∃(q:Int),q=1∧(q=1∨q=2)∧∀(r:Unit),True→∃(s:MkJ),s.i.a=(n.p.spread n.a n.b).fst∧zD s.sa=3-q∧s.i.b=(↑m:Int)∧zD s.sb=1∧s.i.less=aw∧ak 6 (aa zX s.i.tops)=ak 6 (aa zX i.tops)∧aa zL s.i.out=aa zL (mR i m)∧(g7 s)∧∀(t:Unit),True→∃(u:Nat),(↑u:Int)=au.wrap ((↑m:Int)+1)∧ak 6 (aa zX i.tops)=ak 6 (aa zX s.i.tops)∧aa zL (mR i u)=aa zL (uC s)∧zDx k u l m i) (∃(n:Unit),aa zL (kE i 1)=aa zL (mR i m)∧True)))))))
def nA (a:dJ) (b:Nat):=(aa (cP a 2) (ac b (yP a 2))++aj b (yP a 2))
def eG (a:dJ) (b:Nat):=(aa zL (nA a b))
def mH (a:dJ) (b:Nat):=(kT a 2 (a.p.months.length-(a.inst.toNat+1))++j6 a 2 b)
def yOh (i:dJ):Prop:=
 ∃(a:Prd),sb a.code=sb i.p.code∧iE a.months=iE i.p.months∧a.tick=i.p.tick∧a.low=i.p.low∧a.high=i.p.high∧a.wide=i.p.wide∧a.rule=i.p.rule∧a.top=i.p.top∧a.least=i.p.least∧a.part=i.p.part∧iE a.settle=iE i.p.settle∧(zY a)∧∀(b:Unit),True→cnd ((↑a.count:Int)==0) (∃(c:Unit),aa zL (kE i 2)=[]∧True) (cnd ((↑(aa zX i.tops).length:Int) !=(↑a.count:Int)) (∃(c:Unit),aa zL (kE i 2)=[]∧True) (cnd (decide (i.inst<0)) (∃(c:Unit),aa zL (kE i 2)=[]∧True) (cnd (decide (i.inst≥(↑a.count:Int))) (∃(c:Unit),aa zL (kE i 2)=[]∧True) (∃(c:cI),sb c.p.code=sb i.p.code∧iE c.p.months=iE i.p.months∧c.p.tick=i.p.tick∧c.p.low=i.p.low∧c.p.high=i.p.high∧c.p.wide=i.p.wide∧c.p.rule=i.p.rule∧c.p.top=i.p.top∧c.p.least=i.p.least∧c.p.part=i.p.part∧iE c.p.settle=iE i.p.settle∧c.n=i.inst∧(kY c)∧∀(d:Unit),True→cnd (c.p.legs c.n).snd.snd (∃(e:Int),e=2∧(e=1∨e=2)∧∀(f:Unit),True→∃(g:MkJ),g.i.a=(c.p.legs c.n).snd.fst∧zD g.sa=3-e∧g.i.b=(c.p.legs c.n).fst∧zD g.sb=2∧g.i.less=aw∧ak 6 (aa zX g.i.tops)=ak 6 (aa zX i.tops)∧aa zL g.i.out=[]∧(g7 g)∧∀(h:Unit),True→∃(j:Nat),(↑j:Int)=0∧ak 6 (aa zX i.tops)=ak 6 (aa zX g.i.tops)∧aa zL (nA i j)=aa zL (uC g)∧∃(k:Nat→Prop),∃(l:Nat→Nat),k j∧∀(m:Nat),k m→cnd (lJ m g) ((0≤(↑m:Int)∧(↑m:Int)<(↑(eG i m).length:Int))∧(↑m:Int).toNat<(eG i m).length∧∃(n:Nat),(↑n:Int)=au.wrap ((↑m:Int)+1)∧ak 6 (aa zX i.tops)=ak 6 (aa zX i.tops)∧aa zL (nA i n)=zH (eG i m) (↑m:Int).toNat ((0:Nat)+(2:Nat)) [dI ((c.p.legs c.n).fst),dI 2,dI (vA c),dI (3-e)]∧k n∧l n<l m∧ak 6 (aa zX g.i.tops)=ak 6 (aa zX g.i.tops)∧am [V.d (dI (vA c)),V.d (dI (3-e))] 256=am [V.d (dI (vA c)),V.d (dI (3-e))] 256∧am [V.d (dI ((c.p.legs c.n).fst)),V.d (dI 2)] 256=am [V.d (dI ((c.p.legs c.n).fst)),V.d (dI 2)] 256∧mK i) (∃(n:Unit),aa zL (kE i 2)=aa zL (nA i m)∧True)) (∃(e:Nat),i.inst+1+(↑e:Int)=au.wrap (i.inst+1)∧ak 6 (aa zX i.tops)=ak 6 (aa zX i.tops)∧aa zL (kT i 2 e)=[]∧∃(f:Nat→Prop),∃(g:Nat→Nat),f e∧∀(h:Nat),f h→cnd (decide (i.inst+1+(↑h:Int)<(↑(iE i.p.months).length:Int))) (∃(j:r9),sb j.p.code=sb i.p.code∧iE j.p.months=iE i.p.months∧j.p.tick=i.p.tick∧j.p.low=i.p.low∧j.p.high=i.p.high∧j.p.wide=i.p.wide∧j.p.rule=i.p.rule∧j.p.top=i.p.top∧j.p.least=i.p.least∧j.p.part=i.p.part∧iE j.p.settle=iE i.p.settle∧j.a=i.inst∧j.b=i.inst+1+(↑h:Int)∧(xZ j)∧∀(k:Unit),True→∃(l:MkJ),l.i.a=(j.p.spread j.a j.b).fst∧zD l.sa=2∧l.i.b=i.inst+1+(↑h:Int)∧zD l.sb=2∧l.i.less=av∧ak 6 (aa zX l.i.tops)=ak 6 (aa zX i.tops)∧aa zL l.i.out=aa zL (kT i 2 h)∧(g7 l)∧∀(m:Unit),True→∃(n:Nat),i.inst+1+(↑n:Int)=au.wrap (i.inst+1+(↑h:Int)+1)∧ak 6 (aa zX i.tops)=ak 6 (aa zX l.i.tops)∧aa zL (kT i 2 n)=aa zL (uC l)∧zDq f n g h i) (∃(j:Nat),(↑j:Int)=0∧ak 6 (aa zX i.tops)=ak 6 (aa zX i.tops)∧aa zL (mH i j)=aa zL (kT i 2 h)∧∃(k:Nat→Prop),∃(l:Nat→Nat),k j∧∀(m:Nat),k m→cnd (decide ((↑m:Int)<i.inst)) (∃(n:r9),sb n.p.code=sb i.p.code∧iE n.p.months=iE i.p.months∧n.p.tick=i.p.tick∧n.p.low=i.p.low∧n.p.high=i.p.high∧n.p.wide=i.p.wide∧n.p.rule=i.p.rule∧n.p.top=i.p.top∧n.p.least=i.p.least∧n.p.part=i.p.part∧iE n.p.settle=iE i.p.settle∧n.a=(↑m:Int)∧n.b=i.inst∧(xZ n)∧∀(p:Unit),True→∃(q:Int),q=2∧(q=1∨q=2)∧∀(r:Unit),True→∃(s:MkJ),s.i.a=(n.p.spread n.a n.b).fst∧zD s.sa=3-q∧s.i.b=(↑m:Int)∧zD s.sb=2∧s.i.less=aw∧ak 6 (aa zX s.i.tops)=ak 6 (aa zX i.tops)∧aa zL s.i.out=aa zL (mH i m)∧(g7 s)∧∀(t:Unit),True→∃(u:Nat),(↑u:Int)=au.wrap ((↑m:Int)+1)∧ak 6 (aa zX i.tops)=ak 6 (aa zX s.i.tops)∧aa zL (mH i u)=aa zL (uC s)∧zDx k u l m i) (∃(n:Unit),aa zL (kE i 2)=aa zL (mH i m)∧True)))))))
def jH (a:tM):=(aa zL (kE a.i (zD a.s)))
def zBj (a:Nat→Prop) (b:Nat) (c:Nat→Nat) (d:Nat) (e:tM) (f:tM):Prop:=a b∧c b<c d∧ar 259 6 (jH e)=ar 259 6 (jH e)∧am [V.d (D.v (bg (sb f.i.p.code))),V.own 0,V.d (dI f.i.p.tick),V.d (dI f.i.p.low),V.d (dI f.i.p.high),V.d (dI f.i.p.wide),V.d (dI f.i.p.rule),V.d (dI f.i.p.top),V.d (dI f.i.p.least),V.d (dI f.i.p.part),V.own ((0:Nat)+(1:Nat))] 25=am [V.d (D.v (bg (sb f.i.p.code))),V.own 0,V.d (dI f.i.p.tick),V.d (dI f.i.p.low),V.d (dI f.i.p.high),V.d (dI f.i.p.wide),V.d (dI f.i.p.rule),V.d (dI f.i.p.top),V.d (dI f.i.p.least),V.d (dI f.i.p.part),V.own ((0:Nat)+(1:Nat))] 25∧ak 1 (iE f.i.p.settle)=ak 1 (iE f.i.p.settle)∧ak 1 (iE f.i.p.months)=ak 1 (iE f.i.p.months)
def kD (a:tM):Prop:=(a.i.p.code.length≤1099511627776∧a.i.p.months.length≤1099511627776∧a.i.p.settle.length≤1099511627776)∧a.i.tops.length≤1000000∧∀(b:Top),b∈a.i.tops→gU b
def gW (a:tM):=(↑(jH a).length:Int)
def z3d (j:tM):Prop:=
 ∃(a:tM),sb a.i.p.code=sb j.i.p.code∧iE a.i.p.months=iE j.i.p.months∧a.i.p.tick=j.i.p.tick∧a.i.p.low=j.i.p.low∧a.i.p.high=j.i.p.high∧a.i.p.wide=j.i.p.wide∧a.i.p.rule=j.i.p.rule∧a.i.p.top=j.i.p.top∧a.i.p.least=j.i.p.least∧a.i.p.part=j.i.p.part∧iE a.i.p.settle=iE j.i.p.settle∧aa zX a.i.tops=aa zX j.i.tops∧a.i.inst=j.i.inst∧zD a.s=zD j.s∧(kD a)∧∀(b:Unit),True→∃(c:Nat),(↑c:Int)=0∧aa zL (af (fun(q:Sx.Quote) ↦ decide (j.i.p.price j.i.inst q.price=0)) (ac c (kE j.i (zD j.s))))=[]∧∃(d:Nat→Prop),∃(e:Nat→Nat),d c∧∀(f:Nat),d f→cnd (decide ((↑f:Int)<(gW a))) ((0≤(↑f:Int)∧(↑f:Int)<(gW a))∧∃(g:Int),∃(h:Int),∃(k:Int),∃(l:Int),∃(m:Int),∃(n:Int),zE (jH a) (↑f:Int).toNat 0 6=az [dI g,dI h,dI k,dI l,dI m,dI n]∧∃(p:r9),sb p.p.code=sb j.i.p.code∧iE p.p.months=iE j.i.p.months∧p.p.tick=j.i.p.tick∧p.p.low=j.i.p.low∧p.p.high=j.i.p.high∧p.p.wide=j.i.p.wide∧p.p.rule=j.i.p.rule∧p.p.top=j.i.p.top∧p.p.least=j.i.p.least∧p.p.part=j.i.p.part∧iE p.p.settle=iE j.i.p.settle∧p.a=j.i.inst∧p.b=g∧(xZ p)∧∀(q:Unit),True→cnd (p.p.price p.a p.b==0) (((aa zL (af (fun(q:Sx.Quote) ↦ decide (j.i.p.price j.i.inst q.price=0)) (ac f (kE j.i (zD j.s))))).length+1)*(48:Nat)≤(140737488355328:Nat)∧∃(r:Nat),(↑r:Int)=au.wrap ((↑f:Int)+1)∧aa zL (af (fun(q:Sx.Quote) ↦ decide (j.i.p.price j.i.inst q.price=0)) (ac r (kE j.i (zD j.s))))=aa zL (af (fun(q:Sx.Quote) ↦ decide (j.i.p.price j.i.inst q.price=0)) (ac f (kE j.i (zD j.s))))++[[dI g,dI h,dI k,dI l,dI m,dI n]]∧zBj d r e f a j) (∃(r:Nat),(↑r:Int)=au.wrap ((↑f:Int)+1)∧aa zL (af (fun(q:Sx.Quote) ↦ decide (j.i.p.price j.i.inst q.price=0)) (ac r (kE j.i (zD j.s))))=aa zL (af (fun(q:Sx.Quote) ↦ decide (j.i.p.price j.i.inst q.price=0)) (ac f (kE j.i (zD j.s))))∧zBj d r e f a j)) (∃(g:Unit),aa zL (xS j.i (zD j.s))=aa zL (af (fun(q:Sx.Quote) ↦ decide (j.i.p.price j.i.inst q.price=0)) (ac f (kE j.i (zD j.s))))∧True)
def zBi (a:Nat→Prop) (b:Nat) (c:Nat→Nat) (d:Nat):Prop:=a b∧c b<c d∧am (Sx.V.agg [V.d (dI 0),V.d (dI 0),V.d (dI 0),V.d (dI 0),V.d (dI 0),V.d (dI 0)]).cl 259=am (Sx.V.agg [V.d (dI 0),V.d (dI 0),V.d (dI 0),V.d (dI 0),V.d (dI 0),V.d (dI 0)]).cl 259
def yA (a:Nat) (b:BsI):=(zU (ac (max a 1) b.l) b.s)
def vY (a:BsI):=(↑(aa zL a.l).length:Int)
def zHd (a:BsI):Prop:=((0:Int)≤(0:Int)∧0<(vY a))∧∃(b:Int),∃(c:Int),∃(d:Int),∃(e:Int),∃(f:Int),∃(g:Int),zE (aa zL a.l) (bv 0) 0 6=az [dI b,dI c,dI d,dI e,dI f,dI g]∧∃(h:Nat),(↑h:Int)=0∧(yA h a).fst.price=b∧(yA h a).fst.qty=c∧(yA h a).fst.a.inst=d∧(yA h a).fst.a.side=e∧(yA h a).fst.b.inst=f∧(yA h a).fst.b.side=g∧∃(j:Nat→Prop),∃(k:Nat→Nat),j h∧∀(l:Nat),j l→cnd (decide ((↑l:Int)<(vY a))) ((0≤(↑l:Int)∧(↑l:Int)<(vY a))∧∃(m:Int),∃(n:Int),∃(p:Int),∃(q:Int),∃(r:Int),∃(s:Int),zE (aa zL a.l) (↑l:Int).toNat 0 6=az [dI m,dI n,dI p,dI q,dI r,dI s]∧∃(t:I3'),t.side=a.s∧t.x=m∧t.y=(yA l a).fst.price∧True∧∀(u:Unit),True→cnd (btr t.side t.x t.y) (∃(v:Nat),(↑v:Int)=au.wrap ((↑l:Int)+1)∧(yA v a).fst.price=m∧(yA v a).fst.qty=n∧(yA v a).fst.a.inst=p∧(yA v a).fst.a.side=q∧(yA v a).fst.b.inst=r∧(yA v a).fst.b.side=s∧zBi j v k l) (∃(v:Nat),(↑v:Int)=au.wrap ((↑l:Int)+1)∧(yA v a).fst.price=(yA l a).fst.price∧(yA v a).fst.qty=(yA l a).fst.qty∧(yA v a).fst.a.inst=(yA l a).fst.a.inst∧(yA v a).fst.a.side=(yA l a).fst.a.side∧(yA v a).fst.b.inst=(yA l a).fst.b.inst∧(yA v a).fst.b.side=(yA l a).fst.b.side∧zBi j v k l)) (∃(m:Unit),(zU a.l a.s).fst.price=(yA l a).fst.price∧(zU a.l a.s).fst.qty=(yA l a).fst.qty∧(zU a.l a.s).fst.a.inst=(yA l a).fst.a.inst∧(zU a.l a.s).fst.a.side=(yA l a).fst.a.side∧(zU a.l a.s).fst.b.inst=(yA l a).fst.b.inst∧(zU a.l a.s).fst.b.side=(yA l a).fst.b.side∧(zU a.l a.s).snd=aw∧True)
def zBw (a:BsI):Prop:=∃(b:Unit),(zU a.l a.s).fst.price=0∧(zU a.l a.s).fst.qty=0∧(zU a.l a.s).fst.a.inst=0∧(zU a.l a.s).fst.a.side=0∧(zU a.l a.s).fst.b.inst=0∧(zU a.l a.s).fst.b.side=0∧(zU a.l a.s).snd=av∧True
def yBi (i:BsI):Prop:=
 cnd ((vY i)==0) (zBw i) (cnd (i.s !=1) (cnd (i.s !=2) (zBw i) (zHd i)) (zHd i))
end Sx
