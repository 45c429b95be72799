/- Texts of ours. No condition. -/
import Derived.Test.YtfmobncdogfbmaaGreatRows
import Derived.Test.YtfmobncdogfbmaaGreatQ3
set_option linter.all false
open List renaming map->ab,replicate->ac,take->ae,range->af,filter->ag,findIdx?->aj,drop->ak
open Sx.fq renaming kq->am,cells->ao,kj->ap,rh->aq,map->ar,own->au
open Go.IntKind renaming i64->av
open Bool renaming false->aw,true->ax
open Exists renaming intro->ay
open And renaming intro->az
open Option renaming some->ba,none->bc
open Go.Utf8 renaming decode->be
open Go renaming Value->bg,TypeId->bo
open Go.Value renaming string->bu
open Int renaming toNat->bv
namespace Sx
open Go Cv Go.Proofs
def kp {P:Prop} (h:P:=by(repeat'(first|exact rfl|exact trivial|assumption|apply And.intro|refineλ(_:Unit) (_:True)=>?_|refine Exists.intro () ?_|omega|(dsimp only;omega)))):P:=h
def oM {P:Prop} (h:P:=by omega):P:=h
def Z9 {P:Prop} (h:P:=by (dsimp only;omega)):P:=h
def Z8 {P:Prop} (h:P:=by decide):P:=h
def iM {α0:Sort _} {a0:α0} {α1:Sort _} {a1:α1} {α2:Sort _} {a2:α2} {P:Prop} (h:P):a0=a0/\a1=a1/\a2=a2/\P:=⟨rfl,rfl,rfl,h⟩
def nf {α0:Sort _} {a0:α0} {α1:Sort _} {a1:α1} {α2:Sort _} {a2:α2} {α3:Sort _} {a3:α3} {P:Prop} (h:P):a0=a0/\a1=a1/\a2=a2/\a3=a3/\P:=⟨rfl,rfl,rfl,rfl,h⟩
def sy {α0:Sort _} {a0:α0} {α1:Sort _} {a1:α1} {α2:Sort _} {a2:α2} {α3:Sort _} {a3:α3} {α4:Sort _} {a4:α4} {P:Prop} (h:P):a0=a0/\a1=a1/\a2=a2/\a3=a3/\a4=a4/\P:=⟨rfl,rfl,rfl,rfl,rfl,h⟩
def nr {α0:Sort _} {a0:α0} {α1:Sort _} {a1:α1} {α2:Sort _} {a2:α2} {α3:Sort _} {a3:α3} {α4:Sort _} {a4:α4} {α5:Sort _} {a5:α5} {P:Prop} (h:P):a0=a0/\a1=a1/\a2=a2/\a3=a3/\a4=a4/\a5=a5/\P:=⟨rfl,rfl,rfl,rfl,rfl,rfl,h⟩
def oL {α0:Sort _} {a0:α0} {α1:Sort _} {a1:α1} {α2:Sort _} {a2:α2} {α3:Sort _} {a3:α3} {α4:Sort _} {a4:α4} {α5:Sort _} {a5:α5} {α6:Sort _} {a6:α6} {P:Prop} (h:P):a0=a0/\a1=a1/\a2=a2/\a3=a3/\a4=a4/\a5=a5/\a6=a6/\P:=⟨rfl,rfl,rfl,rfl,rfl,rfl,rfl,h⟩
def iA {α0:Sort _} {a0:α0} {α1:Sort _} {a1:α1} {α2:Sort _} {a2:α2} {α3:Sort _} {a3:α3} {α4:Sort _} {a4:α4} {α5:Sort _} {a5:α5} {α6:Sort _} {a6:α6} {α7:Sort _} {a7:α7} {P:Prop} (h:P):a0=a0/\a1=a1/\a2=a2/\a3=a3/\a4=a4/\a5=a5/\a6=a6/\a7=a7/\P:=⟨rfl,rfl,rfl,rfl,rfl,rfl,rfl,rfl,h⟩
def gn {P:Prop} (h:P:=by(repeat'(first|exact trivial|exact rfl|apply And.intro))):P:=h
def mixed:Tryz.prog.follows .mixedOrders=ax:=by kernel_rfl
def gx {P:Program} {f:FuncId} {fn:Func} {C:gh} {G:List (Nat×gh)} {V:C.ι->Prop} (hm:P.follows .mixedOrders=ax) (hG:zf P G) (d:Nat) (J:C.ι->List (Nat×gr)) (an:C.ι->List gr) (op:List Nat) (hf:P.funcs[f]? =ba fn) (h:∀i,C.dp i->V i) (hb:fn.body=ba (fn.body.getD .skip):=by kernel_rfl) (BD:gU P f=ax:=by kernel_rfl) (oX:xl fn.ntmps (fn.body.getD .skip)=ax:=by kernel_rfl) (pg:∀i,Nat.ble (C.pat i).length fn.ntmps=ax:=by intro _;kernel_rfl) (e:∀i,V i=walk P G d (J i) (an i) op fn (fn.body.getD .skip) (C.pat i) (C.pre i) (C.alts i):=by intro _;kernel_rfl):C.ok P f:=qY hm G hG d J an op hf hb BD oX pg λi hc=>Eq.mp (e i) (h i hc)
structure Lv where
 dm:Int
 dr:Int
 count:Int
def im (l:Lv):List D:=[.v (.int .i64 l.dm),.v (.int .i64 l.dr),.v (.int .i64 l.count)]
def RT (l:Lv):V:= .agg [zB l.dm,zB l.dr,zB l.count]
def sb (l:i4):ByteArray:=⟨l.toArray⟩
@[reducible] def sV (l:i4):V:= .d (.v (.string (sb l)))
def Fu (l:i4):Nat×Nat:=be (sb l) 0
def NV:Nat->Nat->i4->List (Nat×Nat)
 |0,_,_=>[]
 |k+1,p,l=>match l with
  |[]=>[]
  |_=>(p,(Fu l).1)::NV k (p+(Fu l).2) (l.drop (Fu l).2)
def g7 (s:i4) (p:Nat):List (Nat×Nat):=NV (s.length-p) p (s.drop p)
def jM (s:i4):List Nat:=(g7 s 0).map (·.2)
def GX:gh:=fp i4 (λs=>[sV s]) i6 (λs=>s.length<=1099511627776) (λs=>zB (jM s).length) i6
def xAx (s:i4):List gr:=[{ι:=Nat×Nat,du:=λx=>[(3,zB x.2),(5,.nm 0 0)],rows:=λx=>[.iter (sb s) x.1]}]
def fA (r:Nat):Bool:=(decide (65<=r) && decide (r<=90))||(decide (913<=r) && decide (r<=937) && decide (r≠930))
def vL (s:i4):Bool:=(jM s).all fA && decide (s≠[]) && decide ((jM s).length<=4)
def SV:gh:=fp i4 (λs=>[sV s]) i6 (λs=>s.length<=1099511627776) (λs=>yL (vL s)) i6
def xJm (s:i4):List gr:=[{ι:=Nat,du:=λx=>[(7,.nm 0 0)],rows:=λx=>[.iter (sb s) x]}]
def iE (l:List Int):Q_ D:=l.map λn=>[.v (.int .i64 n)]
@[reducible] def iV (l:List Int):V:=ow 1 (iE l)
structure fj where
 code:i4
 dt:List Int
 tick:Int
 low:Int
 high:Int
 wide:Int
 gm:Int
 top:Int
 least:Int
 part:Int
 settle:List Int
 deriving DecidableEq
@[reducible] def fj.cells (p:fj):List V:=[sV p.code,iV p.dt,zB p.tick,zB p.low,zB p.high,zB p.wide,zB p.gm,zB p.top,zB p.least,zB p.part,iV p.settle]
@[reducible] def nt (p:fj):V:= .agg p.cells
@[reducible] def fj.small (p:fj):Prop:=p.code.length<=1099511627776/\p.dt.length<=1099511627776/\p.settle.length<=1099511627776
def kU (l:List Int) (k:Nat):Bool:=decide (0<=l.getD k 0) && decide (l.getD k 0<=1199) && (decide (k=0)||decide (l.getD (k-1) 0<l.getD k 0))
def xS (l:List Int):Bool:=(af l.length).all (kU l) && decide (2<=l.length) && decide (l.length<=6)
def D2:gh:=fp (List Int) (λl=>[iV l]) i6 (λl=>l.length<=1099511627776) (λl=>yL (xS l)) i6
def yWu:List gr:=[{ι:=Nat,du:=λj=>[(7,zB j)],rows:=λ_=>[]}]
def lH (l:List Int):Int:=l.tail.foldl min (l.headD 0)
def A1 (l:List Int):Int:=l.tail.foldl max (l.headD 0)
def Tb:gh:=fp (List Int) (λl=>[iV l]) i6 (λl=>0<l.length/\l.length<=1099511627776) (λl=>zB (lH l)) i6
def Tc:gh:=fp (List Int) (λl=>[iV l]) i6 (λl=>0<l.length/\l.length<=1099511627776) (λl=>zB (A1 l)) i6
def xIp (l:List Int):List gr:=[{ι:=Nat,du:=λj=>[(3,zB (lH (l.take j))),(4,zB j)],rows:=λ_=>[]}]
def xJt (l:List Int):List gr:=[{ι:=Nat,du:=λj=>[(3,zB (A1 (l.take j))),(4,zB j)],rows:=λ_=>[]}]
set_option maxRecDepth 100000
@[reducible] def dI (n:Int):D:= .v (.int .i64 n)
def bU (a:Nat×Nat) (b:i4) (c:Nat×Nat->Prop) (d:Nat×Nat->Nat):Prop:=∃(e:Nat×Nat),(e.snd:Int)=av.wrap ((a.snd:Int)+1)/\sb b=sb b/\e.fst=a.fst+(be (sb b) a.fst).snd/\c e/\d e<d a/\True
@[reducible] def ff(R:Prop):Prop:=∀_:Unit,True->R
@[reducible] def dx(R:Prop):Prop:=∃_:Unit,R
def ySd (s:i4):Prop:=
 ∃(a:Nat×Nat),(a.snd:Int)=0/\sb s=sb s/\a.fst=0/\∃(b:Nat×Nat->Prop),∃(c:Nat×Nat->Nat),b a/\∀(d:Nat×Nat),b d->dp (d.fst.blt (sb s).size) (bU d s b c) (dx (((jM s).length:Int)=(d.snd:Int)/\True))
def VL (a:i4) (b:Nat) (c:Nat->Prop) (d:Nat->Nat):Prop:=∃(e:Nat),sb a=sb a/\e=b+(be (sb a) b).snd/\c e/\d e<d b/\True
def cL (a:i4) (b:Nat):=((be (sb a) b).fst:Int)
def xDz (s:i4):Prop:=
 ∃(a:Nat),sb s=sb s/\a=0/\∃(b:Nat->Prop),∃(c:Nat->Nat),b a/\∀(d:Nat),b d->dp (d.blt (sb s).size) (dp (decide ((cL s d)>=65)) (dp (decide ((cL s d)<=90)) (VL s d b c) (dp (decide ((cL s d)>=913)) (dp (decide ((cL s d)<=937)) (dp (!(cL s d) !=930) (dx (vL s=aw/\True)) (VL s d b c)) (dx (vL s=aw/\True))) (dx (vL s=aw/\True)))) (dp (decide ((cL s d)>=913)) (dp (decide ((cL s d)<=937)) (dp (!(cL s d) !=930) (dx (vL s=aw/\True)) (VL s d b c)) (dx (vL s=aw/\True))) (dx (vL s=aw/\True)))) (dp (!(sb s).toList==(ByteArray.mk #[]).toList) (∃(e:i4),sb e=sb s/\e.length<=1099511627776/\ff (dx (vL s=decide (((jM e).length:Int)<=4)/\True))) (dx (vL s=aw/\True)))
@[reducible] def QO (a b:Nat)(c:Nat->Prop)(d:Nat->Nat)(R:Prop):Prop:=(a:Int)=av.wrap ((b:Int)+1)/\c a/\d a<d b/\R
def kL (a:Nat) (b:Nat) (c:Nat->Prop) (d:Nat->Nat):Prop:=QO a b c d (True)
def wG (a:Nat) (b:Nat->Prop) (c:Nat->Nat):Prop:=∃(d:Nat),kL d a b c
def yHw (l:List Int):Prop:=
 ∃(a:Nat),(a:Int)=0/\∃(b:Nat->Prop),∃(c:Nat->Nat),b a/\∀(d:Nat),b d->dp (decide ((d:Int)<((iE l).length:Int))) ((0<=(d:Int)/\(d:Int)<((iE l).length:Int))/\∃(e:Int),zD (iE l) (d:Int).toNat 0 1=ba [dI e]/\dp (decide (e<0)) (dx (xS l=aw/\True)) (dp (decide (e>1199)) (dx (xS l=aw/\True)) (dp (decide ((d:Int)>0)) ((0<=av.wrap ((d:Int)-1)/\av.wrap ((d:Int)-1)<((iE l).length:Int))/\∃(f:Int),zD (iE l) (av.wrap ((d:Int)-1)).toNat 0 1=ba [dI f]/\dp (decide (f>=e)) (dx (xS l=aw/\True)) (wG d b c)) (wG d b c)))) (dp (decide (((iE l).length:Int)>=2)) (dx (xS l=decide (((iE l).length:Int)<=6)/\True)) (dx (xS l=aw/\True)))
def xEn (l:List Int):Prop:=
 dp (decide (((iE l).length:Int)<1)) False (((0:Int)<=(0:Int)/\0<((iE l).length:Int))/\∃(a:Int),zD (iE l) (bv 0) 0 1=ba [dI a]/\∃(b:Nat),lH (ae b l)=a/\(b:Int)=1/\∃(c:Nat->Prop),∃(d:Nat->Nat),c b/\∀(e:Nat),c e->dp (decide ((e:Int)<((iE l).length:Int))) ((0<=(e:Int)/\(e:Int)<((iE l).length:Int))/\∃(f:Int),zD (iE l) (e:Int).toNat 0 1=ba [dI f]/\∃(g:Nat),lH (ae g l)=min (lH (ae e l)) f/\kL g e c d) (dx (lH l=lH (ae e l)/\True)))
def xGn (l:List Int):Prop:=
 dp (decide (((iE l).length:Int)<1)) False (((0:Int)<=(0:Int)/\0<((iE l).length:Int))/\∃(a:Int),zD (iE l) (bv 0) 0 1=ba [dI a]/\∃(b:Nat),A1 (ae b l)=a/\(b:Int)=1/\∃(c:Nat->Prop),∃(d:Nat->Nat),c b/\∀(e:Nat),c e->dp (decide ((e:Int)<((iE l).length:Int))) ((0<=(e:Int)/\(e:Int)<((iE l).length:Int))/\∃(f:Int),zD (iE l) (e:Int).toNat 0 1=ba [dI f]/\∃(g:Nat),(A1 (ae g l)=if f>A1 (ae e l)then f else A1 (ae e l))/\kL g e c d) (dx (A1 l=A1 (ae e l)/\True)))
@[simp] theorem U7 (s:i4):(sb s).size=s.length:=by simp[sb,ByteArray.size]
def rT (s:i4):(sb s).toList=s:=by rw[ByteArray.toList_eq];rfl
def y7b (s:i4) (p k:Nat):(sb s).get! (p+k)=(sb (s.drop p)).get! (0+k):=by
 simp only[sb,ByteArray.get!,nq];simp only[List.getElem!_toArray,List.getElem!_eq_getElem?_getD,Bu]
def zOh (s:i4) (p:Nat):be (sb s) p=Fu (s.drop p):=by
 have h (k:Nat):(decide (p+k<(sb s).size))=decide (0+k<(sb (s.drop p)).size):=by
  simp only[U7,pd];by_cases h:p+k<s.length
  ·rw[jo h,jo (by omega)]
  ·rw[jv h,jv (by omega)]
 unfold Fu be;simp only[y7b s p,h]
def aU (s:i4) {p:Nat} (h:p<s.length):1<=(be (sb s) p).2/\p+(be (sb s) p).2<=s.length:=by
 unfold be;simp only[U7,lr,tn];split
 ·exact⟨by simp,by simp;omega⟩
 split
 ·rename_i h1;split
  ·exact⟨by simp,by simp;omega⟩
  ·exact⟨by simp,by simp;omega⟩
 split
 ·rename_i h1;split
  ·exact⟨by simp,by simp;omega⟩
  ·exact⟨by simp,by simp;omega⟩
 split
 ·rename_i h1;split
  ·exact⟨by simp,by simp;omega⟩
  ·exact⟨by simp,by simp;omega⟩
 ·exact⟨by simp,by simp;omega⟩
def y8c {l:i4} (h:l≠[]):1<=(Fu l).2/\(Fu l).2<=l.length:=by
 have:=aU l (p:=0) (by cases l<;>simp_all);rw[Fu];omega
def eF:∀(k:Nat) (p:Nat) (l:i4),l.length<=k->NV k p l=NV l.length p l
 |0,p,l,h=>by
  have:l=[]:=xq oM;subst this;rfl
 |k+1,p,[],h=>rfl
 |k+1,p,b::l,h=>by
  have hw:=y8c (l:=b::l) (by simp);have hl:((b::l).drop (Fu (b::l)).2).length<=l.length:=by rw[pd,iF];omega
  rw[iF];simp only[NV];rw[eF k _ _ (by rw[iF]at h;omega),eF l.length _ _ hl]
def hU {s:i4} {p:Nat} (h:s.length<=p):g7 s p=[]:=by
 rw[g7,show s.length-p=0 by omega];rfl
def wM {s:i4} {p:Nat} (h:p<s.length):g7 s p=(p,(be (sb s) p).1)::g7 s (p+(be (sb s) p).2):=by
 obtain⟨k,hk⟩:∃k,s.length-p=k+1:=⟨s.length-p-1,oM⟩
 have hw:=aU s h;obtain⟨b,l,hb⟩:∃b l,s.drop p=b::l:=by
  cases hd:s.drop p with
  |nil=>rw[List.drop_eq_nil_iff]at hd;omega
  |cons b l=>exact⟨b,l,rfl⟩
 have hlen:(b::l).length=s.length-p:=by rw[<- hb,pd]
 rw[g7,hk,hb,zOh,hb,g7];rw[zOh,hb]at hw;simp only[NV];have e:(b::l).drop (Fu (b::l)).2=s.drop (p+(Fu (b::l)).2):=by rw[<- hb,Dl]
 rw[e,eF k _ _ (by rw[pd];omega),pd]
def zRl (s:i4):∀(k p:Nat),s.length-p<=k->(g7 s p).length<=s.length-p
 |0,p,h=>by rw[hU (by omega)];simp
 |k+1,p,h=>by
  by_cases hp:p<s.length
  ·have hw:=aU s hp;rw[wM hp,iF];have:=zRl s k (p+(be (sb s) p).2) oM;omega
  ·rw[hU (by omega)];simp
def zMs (s:i4):(jM s).length<=s.length:=by
 rw[jM,ia];have:=zRl s s.length 0 oM;omega
def Xt {a b:Nat} (h:Nat.blt a b=aw):b<=a:=by
 rcases uz a b with h1|h1
 ·rw[show Nat.blt a b=ax by rw[yk];exact h1]at h;cases h
 ·exact h1
def yRw:(ByteArray.mk #[]).toList=[]:=rT []
def xBf (s:i4) (h:GX.dp s):ySd s:=by
 have h:s.length<=1099511627776:=h;have hr:=zMs s;unfold ySd dx bU;refine⟨(0,0),rfl,rfl,rfl,λx=>x.1<=s.length/\x.2+(g7 s x.1).length=(jM s).length,λx=>s.length-x.1,⟨oM,by rw[jM,ia];simp⟩,?_⟩;rintro⟨p,n⟩ ⟨h1,h2⟩;dsimp only at h1 h2 ⊢;refine Cv.dp.mk (λhp=> ?_) (λhp=> ?_)
 ·have hp:p<s.length:=by simpa[yk]using hp
  have hw:=aU s hp;rw[wM hp,iF]at h2;refine⟨(p+(be (sb s) p).2,n+1),?_,rfl,rfl,⟨hw.2,by(first|omega|(dsimp only;omega))⟩,by(first|omega|(dsimp only;omega)),trivial⟩;rw[iw (by omega)];rfl
 ·have hp:s.length<=p:=by have:=Xt hp;simpa using this
  rw[hU hp]at h2;exact⟨(),by rw[<- h2];rfl,trivial⟩
def yTj:GX.ok Tryz.prog 200:=gx mixed fk 0 i6 (λs=>xAx s) [] Tryz.func200 xBf
def xIf (s:i4) (h:SV.dp s):xDz s:=by
 have h:s.length<=1099511627776:=h;unfold xDz ff dx cL VL;refine⟨0,rfl,rfl,λp=>p<=s.length/\(jM s).all fA=(g7 s p).all λx=>fA x.2,λp=>s.length-p,⟨oM,by rw[jM,List.all_map];rfl⟩,?_⟩;rintro p ⟨h1,h2⟩;refine Cv.dp.mk (λhp=> ?_) (λhp=> ?_)
 ·have hp:p<s.length:=by simpa[yk]using hp
  have hw:=aU s hp;rw[wM hp,List.all_cons]at h2;generalize hc:(be (sb s) p).1=c at h2 ⊢;generalize hww:(be (sb s) p).2=w at h2 hw ⊢;dsimp only at h2;have bad:fA c=aw->∃(o:Unit),vL s=aw/\True:=λe=>⟨(),by rw[vL,h2,e];rfl,trivial⟩
  have vw:fA c=ax->∃i':Nat,sb s=sb s/\i'=p+w/\(i'<=s.length/\(jM s).all fA=(g7 s i').all λx=>fA x.2)/\s.length-i'<s.length-p/\True:=λe=>⟨p+w,rfl,rfl,⟨hw.2,by rw[h2,e];rfl⟩,oM,trivial⟩
  refine zG (λc1=>zG (λc2=> ?_) (λc2=>zG (λc3=>zG (λc4=>Cv.dp.mk (λc5=> ?_) (λc5=> ?_)) (λc4=> ?_)) (λc3=> ?_))) (λc1=>zG (λc3=>zG (λc4=>Cv.dp.mk (λc5=> ?_) (λc5=> ?_)) (λc4=> ?_)) (λc3=> ?_))
  all_goals first|(refine vw ?_;simp[fA]at*;omega)|(refine bad ?_;simp[fA]at*;omega)
 ·have hp:s.length<=p:=by have:=Xt hp;simpa using this
  rw[hU hp]at h2;have h2:(jM s).all fA=ax:=h2;refine Cv.dp.mk (λe=>⟨s,rfl,h,λ_ _=>⟨(),?_,trivial⟩⟩) (λe=>⟨(),?_,trivial⟩)
  ·rw[rT,yRw]at e;have:s≠[]:=i9 e
   rw[vL,h2,jo this];simp only[As];congr 1;simp only[eq_iff_iff];omega
  ·have:s=[]:=by
    rw[rT,yRw]at e;simpa using e
   rw[vL,this];rfl
def y9u:SV.ok Tryz.prog 124:=gx mixed (dw yTj fk) 0 i6 (λs=>xJm s) [] Tryz.func124 xIf
@[simp] theorem y9 (l:List Int):(iE l).length=l.length:=by simp[iE]
def rp {l:List Int} {k:Nat} {n:Int} (h:l[k]? =ba n):zD (iE l) k 0 1=ba [D.v (.int .i64 n)]:=by
 simp[zD,iE,h];rfl
def zZ {α:Type} {l:List α} {i:Nat} (h:i<l.length):∃x,l[i]? =ba x:=⟨l[i],vd h⟩
def zZj {n k:Nat} {f:Nat->Bool} (hk:k<n) (h:f k=aw):(af n).all f=aw:=by
 cases hh:(af n).all f
 ·rfl
 ·rw[Ef]at hh;rw[hh k (i9 hk)]at h;cases h
def z6l {n:Nat} {f:Nat->Bool} (h:∀k<n,f k=ax):(af n).all f=ax:=by
 rw[Ef];intro k hk;exact h k (i9 hk)
def yZo (l:List Int) (h:D2.dp l):yHw l:=by
 have h:l.length<=1099511627776:=h;unfold yHw dx wG kL QO dI;simp only[y9];refine⟨0,rfl,λj=>j<=l.length/\∀k<j,kU l k=ax,λj=>l.length-j,⟨oM,λk hk=>by omega⟩,?_⟩;rintro j ⟨h1,h2⟩;have bad:j<l.length->kU l j=aw->∃(o:Unit),xS l=aw/\True:=λhj e=>⟨(),by rw[xS,zZj hj e];rfl,trivial⟩
 have vw:j<l.length->kU l j=ax->∃i':Nat,(i':Int)=av.wrap ((j:Int)+1)/\(i'<=l.length/\∀k<i',kU l k=ax)/\l.length-i'<l.length-j/\True:=λhj e=>⟨j+1,by rw[iw (by omega)];rfl,⟨oM,λk hk=>by
  rcases uz k j with pk|pk
  ·exact h2 k pk
  ·obtain rfl:k=j:=by omega
   exact e⟩,oM,trivial⟩
 refine zG (λhj=> ?_) (λhj=> ?_)
 ·have hj:j<l.length:=by omega
  obtain⟨n,hn⟩:=zZ hj;have hg:l.getD j 0=n:=by simp[hn]
  refine⟨⟨oM,oM⟩,n,rp hn,zG (λc1=>bad hj (by simp[kU,hn];omega)) (λc1=>zG (λc2=>bad hj (by simp[kU,hn];omega)) (λc2=>zG (λc3=> ?_) (λc3=>vw hj ?_)))⟩
  ·have e:av.wrap ((j:Int)-1)=((j-1:Nat):Int):=by rw[iw (by omega)];omega
   obtain⟨m,hm⟩:=zZ (l:=l) (i:=j-1) oM;rw[e];refine⟨⟨oM,oM⟩,m,rp hm,zG (λc4=>bad hj ?_) (λc4=>vw hj ?_)⟩
   ·simp[kU,hn,hm];omega
   ·simp[kU,hn,hm];omega
  ·simp[kU,hn];omega
 ·have e:(af l.length).all (kU l)=ax:=z6l λk hk=>h2 k oM
  refine zG (λc=>⟨(),?_,trivial⟩) (λc=>⟨(),?_,trivial⟩)
  ·rw[xS,e,jo (show 2<=l.length by omega)];simp;omega
  ·rw[xS,jv (show ¬2<=l.length by omega)];simp
def yJs:D2.ok Tryz.prog 125:=gx mixed fk 0 i6 (λ_=>yWu) [] Tryz.func125 yZo
def zLe {f:Int->Int->Int} {l:List Int} {j:Nat} {n:Int} (h:l[j+1]? =ba n):(l.take (j+2)).tail.foldl f ((l.take (j+2)).headD 0)=f ((l.take (j+1)).tail.foldl f ((l.take (j+1)).headD 0)) n:=by
 cases l with
 |nil=>simp at h
 |cons a l=>
  simp only[Bd]at h;simp only[u',List.tail_cons,List.headD_cons];rw[qq,h,Iz];rfl
def z6x {l:List Int} {n:Int} (h:l[0]? =ba n) (f:Int->Int->Int):(l.take 1).tail.foldl f ((l.take 1).headD 0)=n:=by
 cases l with
 |nil=>simp at h
 |cons a l=>simpa using h
def xHm (l:List Int) (h:Tb.dp l):xEn l:=by
 obtain⟨h0,h⟩:0<l.length/\l.length<=1099511627776:=h;unfold xEn dx kL QO dI;simp only[y9];obtain⟨n,hn⟩:=zZ h0;refine zG (λc=>by omega) (λc=>⟨⟨oM,oM⟩,n,rp hn,1,z6x hn min,rfl,λj=>1<=j/\j<=l.length,λj=>l.length-j,⟨oM,oM⟩,?_⟩);rintro j ⟨h1,h2⟩;refine zG (λhj=> ?_) (λhj=>⟨(),?_,trivial⟩)
 ·obtain⟨m,hm⟩:=zZ (l:=l) (i:=j) oM;refine⟨⟨oM,oM⟩,m,rp hm,j+1,?_,?_,⟨oM,oM⟩,by(first|omega|(dsimp only;omega)),trivial⟩
  ·obtain⟨k,rfl⟩:∃k,j=k+1:=⟨j-1,oM⟩
   first
    |(rw[lH,zLe hm,<- lH];done)
    |(rw[lH,zLe hm,<- lH];generalize lH (l.take (k+1))=x;split<;>omega)
  ·rw[iw (by omega)];rfl
 ·rw[mz (by omega)]
def y4v:Tb.ok Tryz.prog 127:=gx mixed fk 0 i6 (λl=>xIp l) [] Tryz.func127 xHm
def xIw (l:List Int) (h:Tc.dp l):xGn l:=by
 obtain⟨h0,h⟩:0<l.length/\l.length<=1099511627776:=h;unfold xGn dx kL QO dI;simp only[y9];obtain⟨n,hn⟩:=zZ h0;refine zG (λc=>by omega) (λc=>⟨⟨oM,oM⟩,n,rp hn,1,z6x hn max,rfl,λj=>1<=j/\j<=l.length,λj=>l.length-j,⟨oM,oM⟩,?_⟩);rintro j ⟨h1,h2⟩;refine zG (λhj=> ?_) (λhj=>⟨(),?_,trivial⟩)
 ·obtain⟨m,hm⟩:=zZ (l:=l) (i:=j) oM;refine⟨⟨oM,oM⟩,m,rp hm,j+1,?_,?_,⟨oM,oM⟩,by(first|omega|(dsimp only;omega)),trivial⟩
  ·obtain⟨k,rfl⟩:∃k,j=k+1:=⟨j-1,oM⟩
   rw[A1,zLe hm,<- A1];generalize A1 (l.take (k+1))=x;split<;>omega
  ·rw[iw (by omega)];rfl
 ·rw[mz (by omega)]
def xAi:Tc.ok Tryz.prog 128:=gx mixed fk 0 i6 (λl=>xJt l) [] Tryz.func128 xIw
@[reducible] def fj.row (p:fj):fq:= .cells p.cells 25
structure LC where
 p:fj
 n:Int
structure Ip where
 p:fj
 l:List Int
def kJ (t n:Int):Bool:=n.tmod t !=0
def S7:gh:=fp LC (λi=>[zB i.n,.nm 0 0]) (λi=>[i.p.row]) (λi=>1<=i.p.tick) (λi=>yL (kJ i.p.tick i.n)) (λi=>[i.p.row])
@[reducible] def xBr:V:= .fn 201 [] [.nm 0 0]
def JC (k:Option Nat):Int:=match k with
 |some k=>k
 |none=> -1
def Th:gh:=fp Ip (λi=>[iV i.l,xBr]) (λi=>[i.p.row]) (λi=>1<=i.p.tick/\i.l.length<=1099511627776) (λi=>zB (JC (i.l.findIdx? (kJ i.p.tick)))) (λi=>[i.p.row])
def xId (i:Ip):List gr:=[{ι:=Nat,du:=λj=>[(8,zB j)],rows:=λ_=>[]}]
def Am:gh:=fp Ip (λi=>[iV i.l,xBr]) (λi=>[i.p.row]) (λi=>1<=i.p.tick/\i.l.length<=1099511627776) (λi=>yL (i.l.any (kJ i.p.tick))) (λi=>[i.p.row])
def kI (p:fj):Bool:=decide (1<=p.tick) && decide (p.tick<=1000) && !kJ p.tick p.low && !kJ p.tick p.high && !kJ p.tick p.wide && !p.settle.any (kJ p.tick)
def Gq:gh:=fp fj (λp=>[nt p]) i6 fj.small (λp=>yL (kI p)) i6
def kG (p:fj):Bool:=decide (p.low< -1000000)||decide (p.low>=p.high)||decide (p.high>1000000)||decide (p.wide<0)||decide (p.wide>p.high-p.low)
def xW (p:fj):Bool:=decide (p.settle.length≠p.dt.length)||decide (lH p.settle<p.low)||decide (A1 p.settle>p.high)
def jD (p:fj):Bool:=decide (p.gm<1)||decide (p.gm>3)
def qO (p:fj):Bool:=decide (p.top<0)||decide (p.top>1000000)||decide (p.least<1)||decide (p.least>1000)||decide (p.part<0)||decide (p.part>100)
def fj.check (p:fj):Int:=
 if !vL p.code then 12 else if !xS p.dt then 1 else if !kI p then 22 else if kG p then 23 else if xW p then 1 else if jD p then 31 else if qO p then 24 else 0
def GZ:gh:=fp fj (λp=>[nt p]) i6 fj.small (λp=>zB p.check) i6
def fj.count (p:fj):Nat:=if p.check=0 then p.dt.length+p.dt.length*(p.dt.length-1) / 2 else 0
def DZ:gh:=fp fj (λp=>[nt p]) i6 fj.small (λp=>zB p.count) i6
structure aP where
 p:fj
 n:Int
def yQ (n:Nat):Nat->Nat
 |0=>n
 |k+1=>yQ n k+(n-1-k)
def jT (n inst:Nat):Nat->Nat->Int×Int×Bool
 |0,_=>(0,0,aw)
 |k+1,m=>if inst<yQ n m+(n-1-m)then(m,m+1+(inst-yQ n m:Nat),ax)else jT n inst k (m+1)
def fj.gp (p:fj) (i:Int):Int×Int×Bool:=
 if i<0\/(p.count:Int)<=i then(0,0,aw)else if i<p.dt.length then(i,i,aw)else jT p.dt.length i.toNat p.dt.length 0
def KP:gh:=fp aP (λi=>[nt i.p,zB i.n]) i6 (λi=>i.p.small) (λi=> .je [zB (i.p.gp i.n).1,zB (i.p.gp i.n).2.1,yL (i.p.gp i.n).2.2]) i6
structure A2 where
 p:fj
 a:Int
 b:Int
def fj.spread (p:fj) (a b:Int):Int×Bool:=
 if p.check≠0\/a<0\/b<=a\/(p.dt.length:Int)<=b then(0,aw)else((yQ p.dt.length a.toNat:Int)+b-a-1,ax)
def DQ:gh:=fp A2 (λi=>[nt i.p,zB i.a,zB i.b]) i6 (λi=>i.p.small) (λi=> .je [zB (i.p.spread i.a i.b).1,yL (i.p.spread i.a i.b).2]) i6
def fj.dm (p:fj) (i n:Int):Int:=
 if p.count=0 then 1 else if i<0\/(p.count:Int)<=i then 20 else if kJ p.tick n then 22 else
 if n<(if(p.dt.length:Int)<=i then-p.wide else p.low)\/(if(p.dt.length:Int)<=i then p.wide else p.high)<n then 23 else 0
def Gz:gh:=fp A2 (λi=>[nt i.p,zB i.a,zB i.b]) i6 (λi=>i.p.small) (λi=>zB (i.p.dm i.a i.b)) i6
structure I2 where
 x:Int
 y:Int
@[reducible] def yP (n:Int):Prop:= -9223372036854775808<=n/\n<=9223372036854775807
def fH (x y:Int):Int×Bool:=if yP (x+y)then(x+y,ax)else(0,aw)
def fG (x y:Int):Int×Bool:=if yP (x-y)then(x-y,ax)else(0,aw)
def TM:gh:=fp I2 (λi=>[zB i.x,zB i.y]) i6 (λi=>yP i.x/\yP i.y) (λi=> .je [zB (fH i.x i.y).1,yL (fH i.x i.y).2]) i6
def SX:gh:=fp I2 (λi=>[zB i.x,zB i.y]) i6 (λi=>yP i.x/\yP i.y) (λi=> .je [zB (fG i.x i.y).1,yL (fG i.x i.y).2]) i6
def xGu (i:aP):List gr:=[{ι:=Nat,du:=λm=>[(8,zB (yQ i.p.dt.length m)),(33,zB m)],rows:=λ_=>[]}]
def yXh (i:A2):List gr:=[{ι:=Nat,du:=λm=>[(9,zB (yQ i.p.dt.length m)),(33,zB m)],rows:=λ_=>[]}]
@[reducible] def QA (a:fj)(R:Prop):Prop:=sb a.code=sb a.code/\iE a.dt=iE a.dt/\a.tick=a.tick/\a.low=a.low/\a.high=a.high/\a.wide=a.wide/\a.gm=a.gm/\a.top=a.top/\a.least=a.least/\a.part=a.part/\iE a.settle=iE a.settle/\R
@[reducible] def IT (a:fj)(R:Prop):Prop:=av=av/\a.tick≠0/\R
def xFi (i:LC):Prop:=IT i.p (dx (kJ i.p.tick i.n=(i.n.tmod i.p.tick !=0)/\QA i.p (True)))
@[reducible] def Qb (a b:fj)(R:Prop):Prop:=sb a.code=sb b.code/\iE a.dt=iE b.dt/\a.tick=b.tick/\a.low=b.low/\a.high=b.high/\a.wide=b.wide/\a.gm=b.gm/\a.top=b.top/\a.least=b.least/\a.part=b.part/\iE a.settle=iE b.settle/\R
def xDb (i:Ip):Prop:=
 ∃(a:Nat),(a:Int)=0/\∃(b:Nat->Prop),∃(c:Nat->Nat),b a/\∀(d:Nat),b d->dp (decide ((d:Int)<((iE i.l).length:Int))) ((0<=(d:Int)/\(d:Int)<((iE i.l).length:Int))/\∃(e:Int),zD (iE i.l) (d:Int).toNat 0 1=ba [dI e]/\∃(f:LC),f.n=e/\Qb f.p i.p (1<=f.p.tick/\ff (dp (kJ f.p.tick f.n) (dx (JC (aj (kJ i.p.tick) i.l)=(d:Int)/\Qb i.p f.p (True))) (∃(h:Nat),QO h d b c (ao [V.d (D.v (bu (sb f.p.code))),V.d (D.ro 1 (iE f.p.dt)),V.d (dI f.p.tick),V.d (dI f.p.low),V.d (dI f.p.high),V.d (dI f.p.wide),V.d (dI f.p.gm),V.d (dI f.p.top),V.d (dI f.p.least),V.d (dI f.p.part),V.d (D.ro 1 (iE f.p.settle))] (25:bo)=i.p.row))))) (dx (JC (aj (kJ i.p.tick) i.l)=(-1)/\QA i.p (True)))
def zXd (i:Ip):Prop:=
 ∃(a:Ip),iE a.l=iE i.l/\Qb a.p i.p ((1<=a.p.tick/\a.l.length<=1099511627776)/\ff (dx (i.l.any (kJ i.p.tick)=decide (JC (aj (kJ a.p.tick) a.l)>=0)/\Qb i.p a.p (True))))
def yVg (p:fj):Prop:=
 dp (decide (p.tick<1)) (dx (kI p=aw/\True)) (dp (decide (p.tick>1000)) (dx (kI p=aw/\True)) (∃(a:LC),a.n=p.low/\Qb a.p p (1<=a.p.tick/\ff (dp (!kJ a.p.tick a.n) (∃(c:LC),c.n=a.p.high/\Qb c.p a.p (1<=c.p.tick/\ff (dp (!kJ c.p.tick c.n) (∃(e:LC),e.n=c.p.wide/\Qb e.p c.p (1<=e.p.tick/\ff (dp (!kJ e.p.tick e.n) (∃(g:Ip),iE g.l=iE e.p.settle/\Qb g.p e.p ((1<=g.p.tick/\g.l.length<=1099511627776)/\ff (dx (kI p=!g.l.any (kJ g.p.tick)/\True)))) (dx (kI p=aw/\True))))) (dx (kI p=aw/\True))))) (dx (kI p=aw/\True))))))
@[reducible] def o8 (a:fj)(R:Prop):Prop:=a.code.length<=1099511627776/\a.dt.length<=1099511627776/\R
def zV (a:fj):Prop:=o8 a (a.settle.length<=1099511627776)
def v8 (a:fj):=((iE a.settle).length:Int)
def xP (a:fj):=((iE a.dt).length:Int)
def yMr (p:fj):Prop:=
 ∃(a:i4),sb a=sb p.code/\a.length<=1099511627776/\ff (dp (!vL a) (dx (p.check=12/\True)) (∃(c:List Int),iE c=iE p.dt/\c.length<=1099511627776/\ff (dp (!xS c) (dx (p.check=1/\True)) (∃(e:fj),Qb e p ((zV e)/\ff (dp (!kI e) (dx (p.check=22/\True)) (dp (decide (p.low<(-1000000))) (dx (p.check=23/\True)) (dp (decide (p.low>=p.high)) (dx (p.check=23/\True)) (dp (decide (p.high>1000000)) (dx (p.check=23/\True)) (dp (decide (p.wide<0)) (dx (p.check=23/\True)) (dp (decide (p.wide>av.wrap (p.high-p.low))) (dx (p.check=23/\True)) (dp ((v8 p) !=(xP p)) (dx (p.check=1/\True)) (∃(g:List Int),iE g=iE p.settle/\(0<g.length/\g.length<=1099511627776)/\ff (dl p.low/\dp (decide (lH g<p.low)) (dx (p.check=1/\True)) (∃(j:List Int),iE j=iE p.settle/\(0<j.length/\j.length<=1099511627776)/\ff (dl p.high/\dp (decide (A1 j>p.high)) (dx (p.check=1/\True)) (dp (decide (p.gm<1)) (dx (p.check=31/\True)) (dp (decide (p.gm>3)) (dx (p.check=31/\True)) (dp (decide (p.top<0)) (dx (p.check=24/\True)) (dp (decide (p.top>1000000)) (dx (p.check=24/\True)) (dp (decide (p.least<1)) (dx (p.check=24/\True)) (dp (decide (p.least>1000)) (dx (p.check=24/\True)) (dp (decide (p.part<0)) (dx (p.check=24/\True)) (dp (decide (p.part>100)) (dx (p.check=24/\True)) (dx (p.check=0/\True))))))))))))))))))))))))))
def eD (a:fj) (b:fj):Prop:=Qb a b ((zV a)/\ff (dp (a.check !=0) (dx ((b.count:Int)=0/\True)) (av=av/\(2:Int)≠(0:Int)/\dx ((b.count:Int)=av.wrap ((xP b)+av.wrap ((av.wrap ((xP b)*av.wrap ((xP b)-1))).tdiv 2))/\True))))
def yHy (p:fj):Prop:=
 ∃(a:fj),eD a p
@[reducible] def Bi (a:fj)(R:Prop):Prop:=ao [V.d (D.v (bu (sb a.code))),V.own 0,V.d (dI a.tick),V.d (dI a.low),V.d (dI a.high),V.d (dI a.wide),V.d (dI a.gm),V.d (dI a.top),V.d (dI a.least),V.d (dI a.part),V.own 1] 25=ao [V.d (D.v (bu (sb a.code))),V.own 0,V.d (dI a.tick),V.d (dI a.low),V.d (dI a.high),V.d (dI a.wide),V.d (dI a.gm),V.d (dI a.top),V.d (dI a.least),V.d (dI a.part),V.own 1] 25/\am 1 (iE a.settle)=am 1 (iE a.settle)/\R
def pX (a:aP):Prop:=Bi a.p (dl (am 1 (iE a.p.dt)))
def Wv (a:Nat->Prop) (b:Nat) (c:Nat->Nat) (d:Nat) (e:aP):Prop:=a b/\c b<c d/\pX e
def gM (a:aP) (b:Nat):=((yQ a.p.dt.length b):Int)
def uM (a:aP):=((iE a.p.dt).length:Int)
def zMe (a:aP) (b:Nat):=((gM a b)+av.wrap (av.wrap ((uM a)-1)-(b:Int)))
def dF (a:aP):Prop:=dx ((a.p.gp a.n).fst=0/\(a.p.gp a.n).snd.fst=0/\(a.p.gp a.n).snd.snd=aw/\True)
def Wu (a:aP):Prop:=dx ((a.p.gp a.n).fst=a.n/\(a.p.gp a.n).snd.fst=a.n/\(a.p.gp a.n).snd.snd=aw/\True)
def y3o (i:aP):Prop:=
 ∃(a:fj),Qb a i.p ((zV a)/\ff (dp (decide (i.n<0)) (dF i) (dp (decide (i.n>=(a.count:Int))) (dF i) (dp (decide (i.n<(uM i))) (Wu i) (∃(c:Nat),(gM i c)=(uM i)/\(c:Int)=0/\∃(d:Nat->Prop),∃(e:Nat->Nat),d c/\∀(f:Nat),d f->dp (decide ((f:Int)<(uM i))) (dp (decide (i.n<av.wrap (zMe i f))) (dx ((i.p.gp i.n).fst=(f:Int)/\(i.p.gp i.n).snd.fst=av.wrap (av.wrap (av.wrap ((f:Int)+1)+i.n)-(gM i f))/\(i.p.gp i.n).snd.snd=ax/\True)) (∃(g:Nat),(gM i g)=av.wrap (zMe i f)/\(g:Int)=av.wrap ((f:Int)+1)/\Wv d g e f i)) (dF i))))))
def aR (a:A2):Prop:=dx ((a.p.spread a.a a.b).fst=0/\(a.p.spread a.a a.b).snd=aw/\True)
def yEz (i:A2):Prop:=
 ∃(a:fj),Qb a i.p ((zV a)/\ff (dp (a.check !=0) (aR i) (dp (decide (i.a<0)) (aR i) (dp (decide (i.a>=i.b)) (aR i) (dp (decide (i.b>=((iE i.p.dt).length:Int))) (aR i) (∃(c:Nat),((yQ i.p.dt.length c):Int)=((iE i.p.dt).length:Int)/\(c:Int)=0/\∃(d:Nat->Prop),∃(e:Nat->Nat),d c/\∀(f:Nat),d f->dp (decide ((f:Int)<i.a)) (∃(g:Nat),((yQ i.p.dt.length g):Int)=av.wrap (((yQ i.p.dt.length f):Int)+av.wrap (av.wrap (((iE i.p.dt).length:Int)-1)-(f:Int)))/\QO g f d e (Bi i.p (dl (am 1 (iE i.p.dt))))) (dx ((i.p.spread i.a i.b).fst=av.wrap (av.wrap (av.wrap (((yQ i.p.dt.length f):Int)+i.b)-i.a)-1)/\(i.p.spread i.a i.b).snd=ax/\True))))))))
def yNm (i:A2):Prop:=
 ∃(a:fj),Qb a i.p ((zV a)/\ff (dp ((a.count:Int)==0) (dx (i.p.dm i.a i.b=1/\True)) (dp (decide (i.a<0)) (dx (i.p.dm i.a i.b=20/\True)) (dp (decide (i.a>=(a.count:Int))) (dx (i.p.dm i.a i.b=20/\True)) (IT i.p (dp (i.b.tmod i.p.tick !=0) (dx (i.p.dm i.a i.b=22/\True)) (dp (decide (i.a>=((iE i.p.dt).length:Int))) (dp (decide (i.b<av.wrap (0-i.p.wide))) (dx (i.p.dm i.a i.b=23/\True)) (dp (decide (i.b>i.p.wide)) (dx (i.p.dm i.a i.b=23/\True)) (dx (i.p.dm i.a i.b=0/\True)))) (dp (decide (i.b<i.p.low)) (dx (i.p.dm i.a i.b=23/\True)) (dp (decide (i.b>i.p.high)) (dx (i.p.dm i.a i.b=23/\True)) (dx (i.p.dm i.a i.b=0/\True)))))))))))
def ZB (a:I2):Prop:=dx ((fH a.x a.y).fst=av.wrap (a.x+a.y)/\(fH a.x a.y).snd=ax/\True)
def xBv (i:I2):Prop:=
 dp (decide (i.x<0)==decide (i.y<0)) (dp (!decide (av.wrap (i.x+i.y)<0)==decide (i.x<0)) (dx ((fH i.x i.y).fst=0/\(fH i.x i.y).snd=aw/\True)) (ZB i)) (ZB i)
def YP (a:I2):Prop:=dx ((fG a.x a.y).fst=av.wrap (a.x-a.y)/\(fG a.x a.y).snd=ax/\True)
def xCr (i:I2):Prop:=
 dp (!decide (i.x<0)==decide (i.y<0)) (dp (!decide (av.wrap (i.x-i.y)<0)==decide (i.x<0)) (dx ((fG i.x i.y).fst=0/\(fG i.x i.y).snd=aw/\True)) (YP i)) (YP i)
def xIy (i:LC) (h:S7.dp i):xFi i:=by
 have h:1<=i.p.tick:=h;unfold xFi QA IT dx;exact kp
def yRy:S7.ok Tryz.prog 201:=gx mixed fk 0 i6 i6 [] Tryz.func201 xIy
def zMk {α:Type} {f:α->Bool} {l:List α} (h:∀(k:Nat) (x:α),l[k]? =ba x->f x=aw):l.findIdx? f=bc:=by
 rw[Ou];intro x hx;obtain⟨k,hk⟩:=Oq hx;exact h k x hk
def ZP {α:Type} {f:α->Bool} {l:List α} {j:Nat} {x:α} (h1:l[j]? =ba x) (h2:f x=ax) (h:∀k<j,∀x:α,l[k]? =ba x->f x=aw):l.findIdx? f=ba j:=by
 rw[L4];obtain⟨hj,rfl⟩:=jm.1 h1;exact⟨hj,h2,λk hk=>by rw[h k hk _ (vd (by omega))];simp⟩
def xJd (i:Ip) (h:Th.dp i):xDb i:=by
 obtain⟨h1,h2⟩:1<=i.p.tick/\i.l.length<=1099511627776:=h;unfold xDb QA QO Qb ff dx dI;simp only[y9];refine⟨0,rfl,λj=>j<=i.l.length/\∀k<j,∀x,i.l[k]? =ba x->kJ i.p.tick x=aw,λj=>i.l.length-j,⟨oM,λk hk=>by omega⟩,?_⟩;rintro j ⟨h3,h4⟩;refine zG (λhj=> ?_) (λhj=> ?_)
 ·obtain⟨n,hn⟩:=zZ (l:=i.l) (i:=j) oM;refine⟨⟨oM,oM⟩,n,rp hn,⟨i.p,n⟩,?_⟩
  (repeat'(first|exact rfl|exact trivial|assumption|apply az|refineλ(_:Unit) (_:True)=>?_|refine ay () ?_|omega|(dsimp only;omega)))
  refine Cv.dp.mk (λe=> ?_) (λe=> ?_)
  ·rw[ZP hn e h4];exact kp
  ·refine⟨j+1,by rw[iw (by omega)];rfl,⟨oM,λk hk x hx=> ?_⟩,by(first|omega|(dsimp only;omega)),rfl⟩;rcases uz k j with pk|pk
   ·exact h4 k pk x hx
   ·obtain rfl:k=j:=by omega
    rw[hn]at hx;cases hx;exact e
 ·rw[zMk λk x hx=>h4 k (by have:=(jm.1 hx).1;omega) x hx];exact kp
def y5d:Th.ok Tryz.prog 247:=gx mixed (dw yRy fk) 0 i6 (λi=>xId i) [] Tryz.func247 xJd
def yLt {l:List Int} {f:Int->Bool}:l.any f=decide (JC (l.findIdx? f)>=0):=by
 cases hf:l.findIdx? f with
 |none=>
  rw[Ou]at hf;have:l.any f=aw:=by rw[L0];intro x hx;simp[hf x hx]
  rw[this];rfl
 |some k=>
  rw[L4]at hf;obtain⟨hk,h1,_⟩:=hf;have:l.any f=ax:=by rw[Oh];exact⟨_,List.getElem_mem hk,h1⟩
  rw[this,JC,jo (by omega)]
def yKx (i:Ip) (h:Am.dp i):zXd i:=by
 unfold zXd Qb ff dx;have h':1<=i.p.tick/\i.l.length<=1099511627776:=h;refine⟨i,?_⟩
 (repeat'(first|exact rfl|exact trivial|assumption|apply az|refineλ(_:Unit) (_:True)=>?_|refine ay () ?_|omega|(dsimp only;omega)))
 exact yLt
def z7i:Am.ok Tryz.prog 202:=gx mixed (dw y5d fk) 0 i6 i6 [] Tryz.func202 yKx
def y7i (p:fj) (h:Gq.dp p):yVg p:=by
 obtain⟨h1,h2,h3⟩:p.small:=h;unfold yVg Qb ff dx;refine zG (λc1=>⟨(),by rw[kI,jv (by omega)];rfl,trivial⟩) (λc1=>zG (λc2=>⟨(),by rw[kI,jv (show ¬p.tick<=1000 by omega)];simp,trivial⟩) (λc2=>⟨⟨p,p.low⟩,?_⟩));have e1:kI p=(!kJ p.tick p.low && !kJ p.tick p.high && !kJ p.tick p.wide && !p.settle.any (kJ p.tick)):=by
  rw[kI,jo (by omega),jo (by omega)];rfl
 rw[e1]
 (repeat'(first|exact rfl|exact trivial|assumption|apply az|refineλ(_:Unit) (_:True)=>?_|refine ay () ?_|omega|(dsimp only;omega)))
 refine Cv.dp.mk (λc3=>⟨⟨p,p.high⟩,?_⟩) (λc3=>⟨(),?_,trivial⟩)
 ·dsimp only at c3
  (repeat'(first|exact rfl|exact trivial|assumption|apply az|refineλ(_:Unit) (_:True)=>?_|refine ay () ?_|omega|(dsimp only;omega)))
  refine Cv.dp.mk (λc4=>⟨⟨p,p.wide⟩,?_⟩) (λc4=>⟨(),?_,trivial⟩)
  ·dsimp only at c4
   (repeat'(first|exact rfl|exact trivial|assumption|apply az|refineλ(_:Unit) (_:True)=>?_|refine ay () ?_|omega|(dsimp only;omega)))
   refine Cv.dp.mk (λc5=>⟨⟨p,p.settle⟩,?_⟩) (λc5=>⟨(),?_,trivial⟩)
   ·dsimp only at c5
    (repeat'(first|exact rfl|exact trivial|assumption|apply az|refineλ(_:Unit) (_:True)=>?_|refine ay () ?_|omega|(dsimp only;omega)))
    rw[c3,c4,c5];simp
   ·dsimp only at c5;rw[c5];simp
  ·dsimp only at c4;rw[c4];simp
 ·dsimp only at c3;rw[c3];simp
def yNb:Gq.ok Tryz.prog 126:=gx mixed (dw yRy (dw z7i fk)) 0 i6 i6 [] Tryz.func126 y7i
def y5w (p:fj) (h:GZ.dp p):yMr p:=by
 obtain⟨h1,h2,h3⟩:p.small:=h;unfold yMr Qb ff dx xP v8 zV o8;simp only[y9];refine⟨p.code,rfl,h1,λ_ _=>Cv.dp.mk (λc1=>⟨(),by rw[fj.check,fh c1],trivial⟩) (λc1=>⟨p.dt,rfl,h2,λ_ _=>Cv.dp.mk (λc2=>⟨(),by rw[fj.check,ez (by simp[c1]),fh c2],trivial⟩) (λc2=>⟨p,?_⟩)⟩)⟩
 (repeat'(first|exact rfl|exact trivial|assumption|apply az|refineλ(_:Unit) (_:True)=>?_|refine ay () ?_|omega|(dsimp only;omega)))
 refine Cv.dp.mk (λc3=>⟨(),by rw[fj.check,ez (by simp[c1]),ez (by simp[c2]),fh c3],trivial⟩) (λc3=> ?_);have e0:p.check=if kG p then 23 else if xW p then 1 else if jD p then 31 else if qO p then 24 else 0:=by
  rw[fj.check,ez (by simp[c1]),ez (by simp[c2]),ez (by simp[c3])]
 have b (hb:kG p=ax):∃(o:Unit),p.check=23/\True:=⟨(),by rw[e0,fh hb],trivial⟩
 refine zG (λd1=>b (by simp[kG,d1])) λd1=>zG (λd2=>b (by simp[kG];omega)) λd2=>zG (λd3=>b (by simp[kG];omega)) λd3=>zG (λd4=>b (by simp[kG];omega)) λd4=> ?_
 rw[iw (by omega)];refine zG (λd5=>b (by simp[kG];omega)) λd5=> ?_
 have e1:p.check=if xW p then 1 else if jD p then 31 else if qO p then 24 else 0:=by
  rw[e0,ez (by simp[kG];omega)]
 have s (hb:xW p=ax):∃(o:Unit),p.check=1/\True:=⟨(),by rw[e1,fh hb],trivial⟩
 have hm:2<=p.dt.length:=by
  have c2:xS p.dt=ax:=i9 c2
  simp[xS]at c2;omega
 refine Cv.dp.mk (λd6=>s (by have d6:¬(p.settle.length:Int)=p.dt.length:=(i9 d6);simp[xW];omega)) λd6=> ?_
 have d6:p.settle.length=p.dt.length:=by
  have:(p.settle.length:Int)=p.dt.length:=i9 d6
  omega
 refine⟨p.settle,rfl,⟨oM,oM⟩,λ_ _=>⟨kp,zG (λd7=>s (by simp[xW];left;right;omega)) λd7=>⟨p.settle,rfl,⟨oM,oM⟩,λ_ _=>⟨kp,zG (λd8=>s (by simp[xW];right;omega)) λd8=> ?_⟩⟩⟩⟩;have e2:p.check=if jD p then 31 else if qO p then 24 else 0:=by
  rw[e1,ez (by simp[xW];omega)]
 have r (hb:jD p=ax):∃(o:Unit),p.check=31/\True:=⟨(),by rw[e2,fh hb],trivial⟩
 refine zG (λd9=>r (by simp[jD];omega)) λd9=>zG (λd10=>r (by simp[jD];omega)) λd10=> ?_
 have e3:p.check=if qO p then 24 else 0:=by
  rw[e2,ez (by simp[jD];omega)]
 have q (hb:qO p=ax):∃(o:Unit),p.check=24/\True:=⟨(),by rw[e3,fh hb],trivial⟩
 refine zG (λf1=>q (by simp[qO];omega)) λf1=>zG (λf2=>q (by simp[qO];omega)) λf2=>zG (λf3=>q (by simp[qO];omega)) λf3=>zG (λf4=>q (by simp[qO];omega)) λf4=>zG (λf5=>q (by simp[qO];omega)) λf5=>zG (λf6=>q (by simp[qO];omega)) λf6=> ?_
 exact⟨(),by rw[e3,ez (by simp[qO];omega)],trivial⟩
def pG:GZ.ok Tryz.prog 53:=gx mixed (dw y9u (dw yJs (dw yNb (dw y4v (dw xAi fk))))) 0 i6 i6 [] Tryz.func53 y5w
structure fj.Ok (p:fj):Prop where
 sym:vL p.code=ax
 dt:xS p.dt=ax
 aa0:kI p=ax
 m2:2<=p.dt.length
 m6:p.dt.length<=6
 t1:1<=p.tick
 t2:p.tick<=1000
 b1: -1000000<=p.low
 b2:p.low<p.high
 b3:p.high<=1000000
 b4:0<=p.wide
 b5:p.wide<=p.high-p.low
 s1:p.settle.length=p.dt.length
 s2:p.low<=lH p.settle
 s3:A1 p.settle<=p.high
 r1:1<=p.gm
 r2:p.gm<=3
 q1:0<=p.top
 q2:p.top<=1000000
 q3:1<=p.least
 q4:p.least<=1000
 q5:0<=p.part
 q6:p.part<=100
def jB {p:fj} (h:p.check=0):p.Ok:=by
 unfold fj.check at h;split at h<;>first|(exfalso;revert h;decide)|skip
 rename_i c1;split at h<;>first|(exfalso;revert h;decide)|skip
 rename_i c2;split at h<;>first|(exfalso;revert h;decide)|skip
 rename_i c3;split at h<;>first|(exfalso;revert h;decide)|skip
 rename_i c4;split at h<;>first|(exfalso;revert h;decide)|skip
 rename_i c5;split at h<;>first|(exfalso;revert h;decide)|skip
 rename_i c6;split at h<;>first|(exfalso;revert h;decide)|skip
 rename_i c7;simp only[Dp,Bool.not_eq_false,Bool.not_eq_true]at c1 c2 c3;have m:=c2;have t:=c3;simp[xS]at m;simp[kI]at t;simp[kG]at c4;simp[xW]at c5;simp[jD]at c6;simp[qO]at c7;exact⟨c1,c2,c3,oM,oM,oM,oM,oM,oM,oM,oM,oM,oM,oM,oM,oM,oM,oM,oM,oM,oM,oM,oM⟩
def yQx {n:Nat} (h:n<=6):n+n*(n-1) / 2<=21:=by
 have:∀n≤6,n+n*(n-1) / 2<=21:=by decide
 exact this n h
def yXx (p:fj) (h:DZ.dp p):yHy p:=by
 unfold yHy eD Qb ff dx xP zV o8;obtain⟨h1,h2,h3⟩:p.small:=h;refine⟨p,?_⟩;simp only[y9]
 (repeat'(first|exact rfl|exact trivial|assumption|apply az|refineλ(_:Unit) (_:True)=>?_|refine ay () ?_|omega|(dsimp only;omega)))
 refine Cv.dp.mk (λc=>⟨(),by rw[fj.count,ez (i9 c)];rfl,trivial⟩) (λc=> ?_);have c:p.check=0:=i9 c
 have ok:=jB c;refine⟨kp,Z8,(),?_,trivial⟩;rw[fj.count,fh c];obtain⟨n,hn⟩:∃n,p.dt.length=n:=⟨_,rfl⟩
 have m2:=ok.m2;have m6:=ok.m6;rw[hn]at m2 m6 ⊢;have:n=2\/n=3\/n=4\/n=5\/n=6:=by omega
 rcases this with rfl|rfl|rfl|rfl|rfl<;>rfl
def dU:DZ.ok Tryz.prog 54:=gx mixed (dw pG fk) 0 i6 i6 [] Tryz.func54 yXx
def PW {p:fj} (h:p.count≠0):p.check=0:=by
 unfold fj.count at h;split at h
 ·assumption
 ·exact absurd rfl h
def y7 (p:fj):p.count<=21:=by
 unfold fj.count;split
 ·rename_i h;exact yQx (jB h).m6
 ·omega
def ZK {n m:Nat} (h:n<=6) (hm:m<=n):yQ n m<=21:=by
 have:∀n≤6,∀m≤n,yQ n m<=21:=by decide
 exact this n h m hm
def xGi (i:aP) (h:KP.dp i):y3o i:=by
 unfold y3o Qb ff dx Wu dx dF dx zMe uM gM Wv pX Bi zV o8 dI;obtain⟨h1,h2,h3⟩:i.p.small:=h;refine⟨i.p,?_⟩;simp only[y9]
 (repeat'(first|exact rfl|exact trivial|assumption|apply az|refineλ(_:Unit) (_:True)=>?_|refine ay () ?_|omega|(dsimp only;omega)))
 refine zG (λc1=> ?_) (λc1=>zG (λc2=> ?_) (λc2=> ?_))
 ·rw[fj.gp,fh (by omega)];exact kp
 ·rw[fj.gp,fh (by omega)];exact kp
 have c2:¬i.n>=(i.p.count:Int):=c2;have hc:=y7 i.p;have ok:=jB (PW (p:=i.p) oM);have m6:=ok.m6;refine zG (λc3=> ?_) (λc3=> ?_)
 ·rw[fj.gp,ez (by omega),fh c3];exact kp
 have e0:i.p.gp i.n=jT i.p.dt.length i.n.toNat i.p.dt.length 0:=by
  rw[fj.gp,ez (by omega),ez c3]
 rw[e0];generalize hn:i.p.dt.length=n at c3 m6 ⊢;obtain⟨k,hk⟩:∃k:Nat,i.n=k:=⟨i.n.toNat,oM⟩
 rw[hk]at c2 c3 ⊢;refine⟨0,rfl,rfl,λm=>m<=n/\yQ n m<=k/\jT n k n 0=jT n k (n-m) m,λm=>n-m,⟨oM,by show n<=k;omega,rfl⟩,?_⟩;rintro m ⟨g1,g2,g3⟩;have hf:=ZK m6 g1;refine zG (λc4=> ?_) (λc4=> ?_)
 ·obtain⟨r,hr⟩:∃r,n-m=r+1:=⟨n-m-1,oM⟩
  have e1:(k:Int).toNat=k:=by omega
  rw[e1,g3,hr,iw (x:=(n:Int)-1) (by omega),iw (x:=(n:Int)-1-m) (by omega),iw (x:=(yQ n m:Int)+((n:Int)-1-m)) (by omega),iw (x:=(m:Int)+1) (by omega)];rw[hr]at g3;refine zG (λc5=> ?_) (λc5=> ?_)
  ·rw[iw (x:=(m:Int)+1+k) (by omega),iw (x:=(m:Int)+1+k-(yQ n m:Int)) (by omega),jT,fh (by omega)];refine⟨(),rfl,?_,rfl,trivial⟩;dsimp only;omega
  ·refine⟨m+1,?_,rfl,⟨oM,?_,?_⟩,by(first|omega|(dsimp only;omega)),kp⟩
   ·rw[yQ];omega
   ·rw[yQ];omega
   ·rw[jT,ez (by omega),show n-(m+1)=r by omega]
 ·have e1:(k:Int).toNat=k:=by omega
  rw[e1,g3,show n-m=0 by omega];exact⟨(),iM trivial⟩
def NX:KP.ok Tryz.prog 219:=gx mixed (dw dU fk) 0 i6 (λi=>xGu i) [] Tryz.func219 xGi
def yWt (i:A2) (h:DQ.dp i):yEz i:=by
 unfold yEz QO Qb Bi ff dx aR dx zV o8 dI;obtain⟨h1,h2,h3⟩:i.p.small:=h;refine⟨i.p,?_⟩;simp only[y9]
 (repeat'(first|exact rfl|exact trivial|assumption|apply az|refineλ(_:Unit) (_:True)=>?_|refine ay () ?_|omega|(dsimp only;omega)))
 have bad (hb:i.p.check≠0\/i.a<0\/i.b<=i.a\/(i.p.dt.length:Int)<=i.b):∃(o:Unit),(i.p.spread i.a i.b).fst=0/\(i.p.spread i.a i.b).snd=aw/\True:=⟨(),by rw[fj.spread,fh hb],by rw[fj.spread,fh hb],trivial⟩
 refine Cv.dp.mk (λc1=>bad (.inl (i9 c1))) λc1=>zG (λc2=>bad oM) λc2=>zG (λc3=>bad oM) λc3=>zG (λc4=>bad oM) λc4=> ?_
 have c1:i.p.check=0:=i9 c1
 have m6:=(jB c1).m6;rw[fj.spread,ez (by omega)];generalize hn:i.p.dt.length=n at c4 m6 ⊢;obtain⟨a,ha⟩:∃k:Nat,i.a=k:=⟨i.a.toNat,oM⟩
 rw[ha]at c3 ⊢;refine⟨0,rfl,rfl,λm=>m<=a,λm=>a-m,oM,?_⟩;intro m hm;have hm:m<=a:=hm;have hf:=ZK (m:=m) m6 oM;refine zG (λc5=> ?_) (λc5=> ?_)
 ·rw[iw (x:=(n:Int)-1) (by omega),iw (x:=(n:Int)-1-m) (by omega),iw (x:=(yQ n m:Int)+((n:Int)-1-m)) (by omega),iw (x:=(m:Int)+1) (by omega)];refine⟨m+1,?_,rfl,oM,by(first|omega|(dsimp only;omega)),kp⟩;rw[yQ];omega
 ·obtain rfl:m=a:=by omega
  rw[iw (x:=(yQ n m:Int)+i.b) (by omega),iw (x:=(yQ n m:Int)+i.b-m) (by omega),iw (x:=(yQ n m:Int)+i.b-m-1) (by omega)];exact⟨(),rfl,rfl,trivial⟩
def zXq:DQ.ok Tryz.prog 222:=gx mixed (dw pG fk) 0 i6 (λi=>yXh i) [] Tryz.func222 yWt
def y7z (i:A2) (h:Gz.dp i):yNm i:=by
 unfold yNm Qb IT ff dx zV o8;obtain⟨h1,h2,h3⟩:i.p.small:=h;refine⟨i.p,?_⟩;simp only[y9]
 (repeat'(first|exact rfl|exact trivial|assumption|apply az|refineλ(_:Unit) (_:True)=>?_|refine ay () ?_|omega|(dsimp only;omega)))
 refine Cv.dp.mk (λc1=>⟨(),by rw[fj.dm,fh (by have:(i.p.count:Int)=0:=(i9 c1);omega)],trivial⟩) λc1=> ?_
 have c1:i.p.count≠0:=by
  have:¬(i.p.count:Int)=0:=i9 c1
  omega
 have e0:i.p.dm i.a i.b=if i.a<0\/(i.p.count:Int)<=i.a then 20 else if kJ i.p.tick i.b then 22 else
  if i.b<(if(i.p.dt.length:Int)<=i.a then-i.p.wide else i.p.low)\/(if(i.p.dt.length:Int)<=i.a then i.p.wide else i.p.high)<i.b then 23 else 0:=by rw[fj.dm,ez c1]
 rw[e0];have ok:=jB (PW c1);obtain⟨t1,b3,b1,b2,b4,b5⟩:=(⟨ok.t1,ok.b3,ok.b1,ok.b2,ok.b4,ok.b5⟩:_/\_/\_/\_/\_/\_)
 refine zG (λc2=>⟨(),by rw[fh (.inl c2)],trivial⟩) λc2=>zG (λc3=>⟨(),by rw[fh (.inr c3)],trivial⟩) λc3=>⟨kp,oM,?_⟩
 have c3:¬i.a>=(i.p.count:Int):=c3;rw[ez (by omega)];refine Cv.dp.mk (λc4=>⟨(),fh c4,trivial⟩) λc4=> ?_
 rw[ez (by rw[kJ,c4];simp),iw (x:=0-i.p.wide) (by omega)];refine zG (λc5=> ?_) (λc5=> ?_)
 ·have c5:(i.p.dt.length:Int)<=i.a:=c5;simp only[fh c5];refine zG (λc6=>⟨(),fh (.inl oM),trivial⟩) λc6=>zG (λc7=>⟨(),fh (.inr oM),trivial⟩) λc7=>⟨(),ez oM,trivial⟩
 ·have c5:¬(i.p.dt.length:Int)<=i.a:=c5;simp only[ez c5];refine zG (λc6=>⟨(),fh (.inl oM),trivial⟩) λc6=>zG (λc7=>⟨(),fh (.inr oM),trivial⟩) λc7=>⟨(),ez oM,trivial⟩
def PS:Gz.ok Tryz.prog 160:=gx mixed (dw dU fk) 0 i6 i6 [] Tryz.func160 y7z
def y2h (x:Int) (h: -18446744073709551616<=x/\x<18446744073709551616):(yP x/\av.wrap x=x)\/(9223372036854775807<x/\av.wrap x=x-18446744073709551616)\/(x< -9223372036854775808/\av.wrap x=x+18446744073709551616):=by
 have e:av.wrap x=if(decide (x % 18446744073709551616>=9223372036854775808))=ax then x % 18446744073709551616-18446744073709551616 else x % 18446744073709551616:=by
  have:av.wrap x=if(ax && decide (x % 18446744073709551616>=9223372036854775808))=ax then x % 18446744073709551616-18446744073709551616 else x % 18446744073709551616:=rfl
  rw[this,As]
 have e:av.wrap x=(x+9223372036854775808) % 18446744073709551616-9223372036854775808:=by
  rw[e];by_cases h2:x % 18446744073709551616>=9223372036854775808
  ·rw[fh (jo h2)];omega
  ·rw[ez (i9 h2)];omega
 rw[e];by_cases h1:yP x
 ·exact .inl ⟨h1,by unfold yP at h1;omega⟩
 ·unfold yP at h1;omega
def xJw (i:I2) (h:TM.dp i):xBv i:=by
 obtain⟨⟨x1,x2⟩,y1,y2⟩:yP i.x/\yP i.y:=h;have hw:=y2h (i.x+i.y) oM;unfold xBv dx ZB dx fH;generalize av.wrap (i.x+i.y)=w at hw ⊢;unfold yP at hw ⊢;refine Cv.dp.mk (λc1=>Cv.dp.mk (λc2=> ?_) (λc2=> ?_)) (λc1=> ?_)
 all_goals(simp at*)
 ·rw[ez (by omega)];exact kp
 ·rw[fh (by omega)];refine⟨?_,rfl⟩;dsimp only;omega
 ·rw[fh (by omega)];refine⟨?_,rfl⟩;dsimp only;omega
def WL:TM.ok Tryz.prog 257:=gx mixed fk 0 i6 i6 [] Tryz.func257 xJw
def xHd (i:I2) (h:SX.dp i):xCr i:=by
 obtain⟨⟨x1,x2⟩,y1,y2⟩:yP i.x/\yP i.y:=h;have hw:=y2h (i.x-i.y) oM;unfold xCr dx YP dx fG;generalize av.wrap (i.x-i.y)=w at hw ⊢;unfold yP at hw ⊢;refine Cv.dp.mk (λc1=>Cv.dp.mk (λc2=> ?_) (λc2=> ?_)) (λc1=> ?_)
 all_goals(simp at*)
 ·rw[ez (by omega)];exact kp
 ·rw[fh (by omega)];refine⟨?_,rfl⟩;dsimp only;omega
 ·rw[fh (by omega)];refine⟨?_,rfl⟩;dsimp only;omega
def WT:SX.ok Tryz.prog 258:=gx mixed fk 0 i6 i6 [] Tryz.func258 xHd
structure Slot where
 used:Bool
 n:Int
 id:Int
 dr:Int
 top:Bool
 queue:Int
 ahead:Int
 back:Int
 deriving DecidableEq
structure aV where
 first:Int
 last:Int
 total:Int
 count:Int
 deriving DecidableEq
structure dv where
 du:List Slot
 dy:List aV
 free:Int
 deriving DecidableEq
def zT (s:Slot):List D:=[.v (.bool s.used),.v (.int .i64 s.n),.v (.int .i64 s.id),.v (.int .i64 s.dr),.v (.bool s.top),.v (.int .i64 s.queue),.v (.int .i64 s.ahead),.v (.int .i64 s.back)]
def zQ (q:aV):List D:=[.v (.int .i64 q.first),.v (.int .i64 q.last),.v (.int .i64 q.total),.v (.int .i64 q.count)]
def iH:Slot:=⟨aw,0,0,0,aw,0,0,0⟩
def zH (a:dv):Nat->fq
 |0=> .cells [.own 1,.own 2,zB a.free] 355
 |1=> .own 389 8 (a.du.map zT)
 |2=> .own 392 4 (a.dy.map zQ)
 |_=> .gone
def wT (a:dv):fq:= .rh dv 3 zH a
structure xY where
 dm:Int
 queue:Int
 deriving DecidableEq
structure Place where
 side:Int
 dm:Int
 slot:Int
 deriving DecidableEq
structure dq where
 a:dv
 fv:List xY
 fc:List xY
 at_:List (Int×Place)
 iK:Int
 iJ:Int
 spare:List Int
 gv:Bool
 gq:Bool
 deriving DecidableEq
def zC (r:xY):List D:=[.v (.int .i64 r.dm),.v (.int .i64 r.queue)]
def yBa (p:Place):List D:=[.v (.int .i64 p.side),.v (.int .i64 p.dm),.v (.int .i64 p.slot)]
def jw (l:List (Int×Place)):List (bg×List D):=l.map λx=>(.int .i64 x.1,yBa x.2)
def zR (b:dq):Nat->fq
 |0=> .cells [.nm 1 0,.own 2,.own 3,.mp 4,zB b.iK,zB b.iJ,.own 5,yL b.gv,yL b.gq] 284
 |1=>wT b.a
 |2=> .own 340 2 (b.fv.map zC)
 |3=> .own 340 2 (b.fc.map zC)
 |4=> .map (jw b.at_)
 |5=> .own 3 1 (iE b.spare)
 |_=> .gone
def yA (b:dq):fq:= .rh dq 6 zR b
structure gy where
 p:fj
 eg:List dq
 wh:List (Int×Int)
def yV (l:List (Int×Int)):List (bg×List D):=l.map λx=>(.int .i64 x.1,[.v (.int .i64 x.2)])
def qB (s:gy):Nat->fq
 |0=> .cells [sV s.p.code,.own 3,zB s.p.tick,zB s.p.low,zB s.p.high,zB s.p.wide,zB s.p.gm,zB s.p.top,zB s.p.least,zB s.p.part,.own 4,.own 1,.mp 2] 159
 |1=> .kj 160 dq 6 zR s.eg bc
 |2=> .map (yV s.wh)
 |3=> .kq 1 (iE s.p.dt)
 |4=> .kq 1 (iE s.p.settle)
 |_=> .gone
def zE (s:gy):fq:= .rh gy 5 qB s
def Pn (n:Nat):dv:=⟨ac n iH,[],n⟩
def oc:dq:=⟨Pn 250,[],[],[],0,0,[],aw,aw⟩
def KN:gh:=fp Nat (λn=>[zB n]) i6 (λn=>1<=n/\n<=4096) (λ_=> .je [.nm 0 0,zB 0]) (λn=>[wT (Pn n)])
def TY:gh:=fp Unit i6 i6 (λ_=>True) (λ_=> .nm 0 0) (λ_=>[yA oc])
def pH (p:fj):gy:=⟨p,ac p.count oc,[]⟩
def KL:gh where
 ι:=fj
 pat:=λp=>[nt p]
 pre:=λ_=>[]
 dp:=λp=>p.small
 alts:=λp=>[{o:=Unit,res:=λ_=> .je [.nm 0 0,zB 0],post:=λ_=>[zE (pH p)],rel:=λ_=>p.check=0},{o:=Unit,res:=λ_=> .je [.d (.v (.pointer bc)),zB p.check],post:=λ_=>[],rel:=λ_=>p.check≠0}]
def xBp (p:fj):List gr:=[{ι:=Nat,du:=λj=>[(5,.nm 0 0),(27,zB j)],rows:=λj=>(af 5).map (qB ⟨p,ac j oc,[]⟩)}]
def Js:gh:=fp (List Slot) (λ_=>[.own 0]) (λl=>[.own 389 8 (l.map zT)]) (λl=>l.length<=1000000) (λ_=> .own 1) (λl=>[.own 389 8 (l.map zT),.own 389 8 (l.map zT)])
def Hk:gh:=fp (List aV) (λ_=>[.own 0]) (λl=>[.own 392 4 (l.map zQ)]) (λl=>l.length<=1000000) (λ_=> .own 1) (λl=>[.own 392 4 (l.map zQ),.own 392 4 (l.map zQ)])
def Jt:gh:=fp (List xY) (λ_=>[.own 0]) (λl=>[.own 340 2 (l.map zC)]) (λl=>l.length<=1000000) (λ_=> .own 1) (λl=>[.own 340 2 (l.map zC),.own 340 2 (l.map zC)])
def Nq:gh:=fp (List Int) (λ_=>[.own 0]) (λl=>[.own 3 1 (iE l)]) (λl=>l.length<=1000000) (λ_=> .own 1) (λl=>[.own 3 1 (iE l),.own 3 1 (iE l)])
def WK (f:Nat):gh:=fp (List (bg×List D)) (λ_=>[.mp 0]) (λes=>[.map es]) (λ_=>True) (λ_=> .mp 1) (λes=>[.map es,.map es])
def Al:gh:=WK 0
def Af:gh:=WK 1
@[reducible] def dv.small (a:dv):Prop:=a.du.length<=1000000/\a.dy.length<=1000000
@[reducible] def dq.small (b:dq):Prop:=b.a.small/\b.fv.length<=1000000/\b.fc.length<=1000000/\b.spare.length<=1000000
@[reducible] def gy.small (s:gy):Prop:=s.eg.length<=1000000/\∀b∈s.eg,b.small
def Np:gh:=fp dv (λ_=>[.nm 0 0]) (λa=>[wT a]) dv.small (λ_=> .nm 1 0) (λa=>[wT a,wT a])
def Nn:gh:=fp dq (λ_=>[.nm 0 0]) (λb=>[yA b]) dq.small (λ_=> .nm 1 0) (λb=>[yA b,yA b])
def xAh:List gr:=[{ι:=Unit,du:=λ_=>[],rows:=λ_=>[],un:=3}]
def Nm:gh:=fp gy (λ_=>[.nm 0 0]) (λs=>[zE s]) gy.small (λ_=> .nm 1 0) (λs=>[zE s,zE s])
def y2l (n:Nat):Prop:=
 dp (decide ((n:Int)<1)) (dx (False)) (dp (decide ((n:Int)>4096)) (dx (False)) ((0<=(n:Int)/\(n:Int)<=(n:Int)/\(n:Int)<=9223372036854775807/\((64:Nat):Int)*(n:Int)<=2 ^ (48:Nat))/\dx (dl ((0:Int))/\dl ((n:Int))/\ab zT (ac n iH)=ac (n:Int).toNat [D.v (.bool aw),dI 0,dI 0,dI 0,D.v (.bool aw),dI 0,dI 0,dI 0]/\([]:Q_ D)=[]/\True)))
def xBs (u:Unit):Prop:=
 ∃(i:Nat),(i:Int)=250/\(1<=i/\i<=4096)/\∀(o:Unit),True->∃(o:Unit),dl ((0:Int))/\dl ((0:Int))/\aw=aw/\aw=aw/\aq dv 3 zH (Pn 250)=aq dv 3 zH (Pn i)/\([]:Q_ D)=[]/\([]:Q_ D)=[]/\jw []=[]/\iE []=[]/\True
@[reducible] def Qc (a:fj)(R:Prop):Prop:=sb a.code=sb a.code/\a.tick=a.tick/\a.low=a.low/\a.high=a.high/\a.wide=a.wide/\a.gm=a.gm/\a.top=a.top/\a.least=a.least/\a.part=a.part/\R
@[reducible] def wy (a:fj)(R:Prop):Prop:=am 1 (iE a.dt)=am 1 (iE a.dt)/\am 1 (iE a.settle)=am 1 (iE a.settle)/\R
def zMd (a:fj) (b:Nat):Prop:=dx (dl ((0:Int))/\Qc a (ap 160 dq 6 zR (ac a.count oc) bc=ap 160 dq 6 zR (ac b oc) bc/\dl (yV [])/\wy a (a.check=0)))
def mT (a:fj):Prop:=am 1 (iE a.settle)=am 1 (iE a.settle)/\dl (am 1 (iE a.dt))
def gE (a:fj):=(D.v (bu (sb a.code)))
@[reducible] def Qr (a b:fj)(R:Prop):Prop:=a.tick=b.tick/\a.low=b.low/\a.high=b.high/\a.wide=b.wide/\a.gm=b.gm/\a.top=b.top/\a.least=b.least/\a.part=b.part/\R
@[reducible] def Qx (a:Nat)(b:List dq)(c:fj)(d:Nat->Prop)(e:Nat->Nat)(f:Nat)(R:Prop):Prop:=ap 160 dq 6 zR (ac a oc) bc=ap 160 dq 6 zR (b++[oc]) bc/\yV []=yV []/\am 1 (iE c.dt)=am 1 (iE c.dt)/\am 1 (iE c.settle)=am 1 (iE c.settle)/\d a/\e a<e f/\am 1 ([]++iE c.settle)=am 1 ([]++iE c.settle)/\am 1 ([]++iE c.dt)=am 1 ([]++iE c.dt)/\R
@[reducible] def Yq (a:Nat)(b:fj)(R:Prop):Prop:=ac a oc=[]/\(bc:Option Nat)=bc/\yV []=[]/\am 1 (iE b.dt)=am 1 ([]++iE b.dt)/\am 1 (iE b.settle)=am 1 ([]++iE b.settle)/\R
@[reducible] def Mt (a:fj)(R:Prop):Prop:=(0+(iE a.dt).length)*(8:Nat)<=(140737488355328:Nat)/\True/\R
def Zw (a:fj):Prop:=True/\True/\Mt a ((0+(iE a.settle).length)*(8:Nat)<=(140737488355328:Nat)/\∃(b:fj),sb b.code=sb a.code/\iE b.dt=[]++iE a.dt/\Qr b a (iE b.settle=[]++iE a.settle/\(zV b)/\ff (∃(d:Nat),(d:Int)=0/\Qc a (Yq d a (∃(e:Nat->Prop),∃(f:Nat->Nat),e d/\∀(g:Nat),e g->dp (decide ((g:Int)<(b.count:Int))) (dx (True/\ff (True/\True/\∃(k:List dq),ap 160 dq 6 zR (ac g oc) bc=ap 160 dq 6 zR k bc/\(k.length+1)*(8:Nat)<=(140737488355328:Nat)/\∃(l:Nat),(l:Int)=av.wrap ((g:Int)+1)/\Qc a (Qx l k a e f g (dl (ao [V.d (gE a),V.own 5,V.d (dI a.tick),V.d (dI a.low),V.d (dI a.high),V.d (dI a.wide),V.d (dI a.gm),V.d (dI a.top),V.d (dI a.least),V.d (dI a.part),V.own 6] 25)/\mT a))))) ((zMd a g)\/(dx (False))))))))
def y4h (p:fj):Prop:=
 ∃(a:fj),Qb a p ((zV a)/\ff (dp (a.check !=0) ((dx (False))\/(dx (True/\p.check=a.check/\(p.check=0->False)))) ((True/\True/\(Mt p (True/\(0+(iE p.settle).length)*(8:Nat)<=(140737488355328:Nat)/\∃(c:fj),sb c.code=sb p.code/\iE c.dt=[]++iE p.dt/\Qr c p (iE c.settle=[]++iE p.settle/\(zV c)/\ff (∃(e:Nat),(e:Int)=0/\Qc p (Yq e p (∃(f:Nat->Prop),∃(g:Nat->Nat),f e/\∀(h:Nat),f h->dp (decide ((h:Int)<(c.count:Int))) (dx (True/\ff (True/\True/\∃(l:List dq),ap 160 dq 6 zR (ac h oc) bc=ap 160 dq 6 zR l bc/\(l.length+1)*(8:Nat)<=(140737488355328:Nat)/\∃(m:Nat),(m:Int)=av.wrap ((h:Int)+1)/\Qc p (Qx m l p f g h (dl (ao [V.d (gE p),V.own 4,V.d (dI p.tick),V.d (dI p.low),V.d (dI p.high),V.d (dI p.wide),V.d (dI p.gm),V.d (dI p.top),V.d (dI p.least),V.d (dI p.part),V.own 6] 25)/\mT p))))) ((zMd p h)\/(dx (False)))))))))/\Zw p)/\True/\True/\Zw p)))
def yYd (l:List Slot):Prop:=
 ∀(b:Bool),(b=ax->ab zT l=[])->dp b (∃(o:Unit),dl (ab zT l)/\ab zT l=[]/\True) ((0+(ab zT l).length)*(64:Nat)<=(140737488355328:Nat)/\∃(o:Unit),dl (ab zT l)/\ab zT l=[]++ab zT l/\True)
def yVe (l:List aV):Prop:=
 ∀(b:Bool),(b=ax->ab zQ l=[])->dp b (∃(o:Unit),dl (ab zQ l)/\ab zQ l=[]/\True) ((0+(ab zQ l).length)*(32:Nat)<=(140737488355328:Nat)/\∃(o:Unit),dl (ab zQ l)/\ab zQ l=[]++ab zQ l/\True)
def yYt (l:List xY):Prop:=
 ∀(b:Bool),(b=ax->ab zC l=[])->dp b (∃(o:Unit),dl (ab zC l)/\ab zC l=[]/\True) ((0+(ab zC l).length)*(16:Nat)<=(140737488355328:Nat)/\∃(o:Unit),dl (ab zC l)/\ab zC l=[]++ab zC l/\True)
def y7a (l:List Int):Prop:=
 ∀(b:Bool),(b=ax->iE l=[])->dp b (∃(o:Unit),iE l=iE l/\iE l=[]/\True) ((0+(iE l).length)*(8:Nat)<=(140737488355328:Nat)/\∃(o:Unit),iE l=iE l/\iE l=[]++iE l/\True)
def yNx (es:List (bg×List D)):Prop:=
 ∃(a:List (bg×List D)),a=es/\True/\ff (dx (es=a/\es=a/\True))
def y7j (es:List (bg×List D)):yNx es=walk Tryz.prog ([(223,v7 280)]) 0 ([]) ([]) [] Tryz.f225 (Tryz.f225.body.getD .skip) (Al.pat es) (Al.pre es) (Al.alts es):=by kernel_rfl
def y4q (hG:zf Tryz.prog ([(223,v7 280)])) (h:∀(es:List (bg×List D)),Al.dp es->yNx es):Al.ok Tryz.prog 225:=qY mixed ([(223,v7 280)]) hG 0 (λ(es:List (bg×List D))=>[]) (λ(es:List (bg×List D))=>[]) [] Tryz.func225 (by kernel_rfl) (by kernel_rfl) (by kernel_rfl) (λ_=>by kernel_rfl) (λ(es:List (bg×List D)) hc=>Eq.mp (y7j es) (h es hc))
def yPg (es:List (bg×List D)):Prop:=
 ∃(a:List (bg×List D)),a=es/\True/\ff (dx (es=a/\es=a/\True))
def y6t (es:List (bg×List D)):yPg es=walk Tryz.prog ([(223,v7 150)]) 0 ([]) ([]) [] Tryz.f161 (Tryz.f161.body.getD .skip) (Af.pat es) (Af.pre es) (Af.alts es):=by kernel_rfl
def xAn (hG:zf Tryz.prog ([(223,v7 150)])) (h:∀(es:List (bg×List D)),Af.dp es->yPg es):Af.ok Tryz.prog 161:=qY mixed ([(223,v7 150)]) hG 0 (λ(es:List (bg×List D))=>[]) (λ(es:List (bg×List D))=>[]) [] Tryz.func161 (by kernel_rfl) (by kernel_rfl) (by kernel_rfl) (λ_=>by kernel_rfl) (λ(es:List (bg×List D)) hc=>Eq.mp (y6t es) (h es hc))
def y8p (a:dv):Prop:=
 ∃(i:List Slot),ab zT i=ab zT a.du/\i.length<=1000000/\∀(o:Unit),True->dl a.free/\True/\∃(gz:List aV),ab zQ gz=ab zQ a.dy/\gz.length<=1000000/\∀(o:Unit),True->dl a.free/\∃(o:Unit),dl a.free/\ab zT a.du=ab zT i/\ab zQ a.dy=ab zQ gz/\dl a.free/\ab zT a.du=ab zT i/\ab zQ a.dy=ab zQ gz/\True
def y6o (b:dq):Prop:=
 ∃(i:dv),aq dv 3 zH i=aq dv 3 zH b.a/\(i.du.length<=1000000/\i.dy.length<=1000000)/\∀(o:Unit),True->True/\True/\∃(gz:List (bg×List D)),gz=jw b.at_/\True/\∀(o:Unit),True->True/\∃(mf:List Int),iE mf=iE b.spare/\mf.length<=1000000/\∀(o:Unit),True->∃(mh:List xY),ab zC mh=ab zC b.fv/\mh.length<=1000000/\∀(o:Unit),True->∃(oC:List xY),ab zC oC=ab zC b.fc/\oC.length<=1000000/\∀(o:Unit),True->∃(o:Unit),dl b.iK/\dl b.iJ/\dl b.gv/\dl b.gq/\aq dv 3 zH b.a=aq dv 3 zH i/\ab zC b.fv=ab zC mh/\ab zC b.fc=ab zC oC/\jw b.at_=gz/\iE b.spare=iE mf/\dl b.iK/\dl b.iJ/\dl b.gv/\dl b.gq/\aq dv 3 zH b.a=aq dv 3 zH i/\ab zC b.fv=ab zC mh/\ab zC b.fc=ab zC oC/\jw b.at_=gz/\iE b.spare=iE mf/\True
def xDm (n:Nat) (h:KN.dp n):y2l n:=by
 obtain⟨h1,h2⟩:1<=n/\n<=4096:=h;unfold y2l dx dI;refine zG (λc=>by omega) λc=>zG (λc=>by omega) λc=> ?_
 refine⟨⟨oM,oM,oM,?_⟩,?_⟩
 ·have:(2:Int) ^ (48:Nat)=281474976710656:=by decide
  rw[this];omega
 ·refine⟨(),rfl,rfl,?_,rfl,trivial⟩;rw[Oi];rfl
def y1j:KN.ok Tryz.prog 164:=gx mixed fk 0 i6 i6 [] Tryz.func164 xDm
def yWv:TY.ok Tryz.prog 87:=gx (V:=xBs) mixed (dw y1j fk) 0 i6 i6 [] Tryz.func87 λ(u:Unit) _=>by
 refine⟨250,rfl,⟨oM,oM⟩,?_⟩;exact kp
def xCz (p:fj) (h:KL.dp p):y4h p:=by
 unfold y4h Yq Qb Qc Mt ff dx Qr Qx Zw Yq Qc Mt ff dx Qr Qx gE mT zMd wy Qc dx zV o8 dI;have hs:p.small:=h;obtain⟨h1,h2,h3⟩:p.small:=h;refine⟨p,?_⟩;simp only[y9]
 (repeat'(first|exact rfl|exact trivial|assumption|apply az|refineλ(_:Unit) (_:True)=>?_|refine ay () ?_|omega|(dsimp only;omega)))
 refine Cv.dp.mk (λc=> .inr ⟨(),trivial,kp,i9 c⟩) λc=> ?_
 have c:p.check=0:=i9 c
 have hc:=y7 p
 (repeat'(first|exact rfl|exact trivial|assumption|apply az|refineλ(_:Unit) (_:True)=>?_|refine ay () ?_|omega|(dsimp only;omega)))
 all_goals(refine⟨p,?_⟩;(repeat'(first|exact rfl|exact trivial|assumption|apply az|refineλ(_:Unit) (_:True)=>?_|refine ay () ?_|omega|(dsimp only;omega))))
 all_goals(refine⟨0,?_⟩;(repeat'(first|exact rfl|exact trivial|assumption|apply az|refineλ(_:Unit) (_:True)=>?_|refine ay () ?_|omega|(dsimp only;omega))))
 all_goals(refine⟨λj=>j<=p.count,λj=>p.count-j,oM,λj hj=>zG (λgu=> ?_) (λgu=> ?_)⟩;all_goals dsimp only at hj gu)
 all_goals first
  |(refine .inl ⟨(),?_⟩
    obtain rfl:j=p.count:=by omega
    (repeat'(first|exact rfl|exact trivial|assumption|apply az|refineλ(_:Unit) (_:True)=>?_|refine ay () ?_|omega|(dsimp only;omega))))
  |(refine⟨(),trivial,λ_ _=>⟨trivial,trivial,ac j oc,rfl,?_,j+1,?_⟩⟩
    ·rw[HF];omega
    ·rw[iw (by omega),<- List.replicate_succ']
     (repeat'(first|exact rfl|exact trivial|assumption|apply az|refineλ(_:Unit) (_:True)=>?_|refine ay () ?_|omega|(dsimp only;omega))))
def yZj:KL.ok Tryz.prog 31:=gx mixed (dw pG (dw dU (dw yWv fk))) 0 i6 (λp=>xBp p) [] Tryz.func31 xCz
def yJo:Js.ok Tryz.prog 259:=gx (V:=yYd) mixed fk 0 i6 i6 [] Tryz.func259 λ(l:List Slot) h=>by
 have h:l.length<=1000000:=h;exactλb hb=>Cv.dp.mk (λe=>⟨(),rfl,hb e,trivial⟩) (λ_=>⟨by rw[nq,ia];omega,(),rfl,rfl,trivial⟩)
def yCc:Hk.ok Tryz.prog 260:=gx (V:=yVe) mixed fk 0 i6 i6 [] Tryz.func260 λ(l:List aV) h=>by
 have h:l.length<=1000000:=h;exactλb hb=>Cv.dp.mk (λe=>⟨(),rfl,hb e,trivial⟩) (λ_=>⟨by rw[nq,ia];omega,(),rfl,rfl,trivial⟩)
def yLc:Jt.ok Tryz.prog 226:=gx (V:=yYt) mixed fk 0 i6 i6 [] Tryz.func226 λ(l:List xY) h=>by
 have h:l.length<=1000000:=h;exactλb hb=>Cv.dp.mk (λe=>⟨(),rfl,hb e,trivial⟩) (λ_=>⟨by rw[nq,ia];omega,(),rfl,rfl,trivial⟩)
def yOk:Nq.ok Tryz.prog 120:=gx (V:=y7a) mixed fk 0 i6 i6 [] Tryz.func120 λ(l:List Int) h=>by
 have h:l.length<=1000000:=h;exactλb hb=>Cv.dp.mk (λe=>⟨(),rfl,hb e,trivial⟩) (λ_=>⟨by rw[nq,y9];omega,(),rfl,rfl,trivial⟩)
def VX (t:Nat):(v7 t).ok Tryz.prog 223:=z9y Tryz.func223 (by kernel_rfl) (by kernel_rfl) (by kernel_rfl) (by kernel_rfl) t
def yYc:Al.ok Tryz.prog 225:=y4q (dw (VX _) fk) λes _=>by
 unfold yNx ff dx;refine⟨es,?_⟩;exact kp
def y0h:Af.ok Tryz.prog 161:=xAn (dw (VX _) fk) λes _=>by
 unfold yPg ff dx;refine⟨es,?_⟩;exact kp
def yRt:Np.ok Tryz.prog 224:=gx (V:=y8p) mixed (dw yJo (dw yCc fk)) 0 i6 i6 [0] Tryz.func224 λ(a:dv) h=>by
 obtain⟨h1,h2⟩:a.small:=h;refine⟨a.du,?_⟩;(repeat'(first|exact rfl|exact trivial|assumption|apply az|refineλ(_:Unit) (_:True)=>?_|refine ay () ?_|omega|(dsimp only;omega)));refine⟨a.dy,?_⟩;exact kp
def ySs:Nn.ok Tryz.prog 163:=gx (V:=y6o) mixed (dw yRt (dw yYc (dw yOk (dw yLc fk)))) 0 i6 (λ_=>xAh) [0] Tryz.func163 λ(b:dq) h=>by
 obtain⟨⟨h1,BE⟩,h2,h3,h4⟩:b.small:=h;refine⟨b.a,?_⟩;(repeat'(first|exact rfl|exact trivial|assumption|apply az|refineλ(_:Unit) (_:True)=>?_|refine ay () ?_|omega|(dsimp only;omega)));refine⟨jw b.at_,?_⟩;(repeat'(first|exact rfl|exact trivial|assumption|apply az|refineλ(_:Unit) (_:True)=>?_|refine ay () ?_|omega|(dsimp only;omega)));refine⟨b.spare,?_⟩;(repeat'(first|exact rfl|exact trivial|assumption|apply az|refineλ(_:Unit) (_:True)=>?_|refine ay () ?_|omega|(dsimp only;omega)));refine⟨b.fv,?_⟩;(repeat'(first|exact rfl|exact trivial|assumption|apply az|refineλ(_:Unit) (_:True)=>?_|refine ay () ?_|omega|(dsimp only;omega)));refine⟨b.fc,?_⟩;exact kp
structure ur where
 a:dv
 n:Int
def dv.qg (a:dv) (n:Int):aV:=if 0<=n/\n<a.dy.length then a.dy.getD n.toNat ⟨0,0,0,0⟩else⟨0,0,0,0⟩
def Jw:gh:=fp ur (λi=>[.nm 0 0,zB i.n]) (λi=>[wT i.a]) (λi=>True) (λi=>zB (i.a.qg i.n).total) (λi=>[wT i.a])
def Jx:gh:=fp ur (λi=>[.nm 0 0,zB i.n]) (λi=>[wT i.a]) (λi=>True) (λi=>zB (i.a.qg i.n).count) (λi=>[wT i.a])
def aaY:gh:=fp Int (λn=>[zB n]) i6 (λ_=>True) (λn=>yL (decide (n=1)||decide (n=2))) i6
structure SQ where
 b:dq
 r:xY
def dq.told (b:dq) (r:xY):Lv:=⟨r.dm,(b.a.qg r.queue).total,(b.a.qg r.queue).count⟩
@[reducible] def dq.ob (b:dq):Prop:=∀q∈b.a.dy,yP q.count
def TP:gh:=fp SQ (λi=>[.nm 0 0,.agg [zB i.r.dm,zB i.r.queue]]) (λi=>[yA i.b]) (λi=>i.b.ob) (λi=>RT (i.b.told i.r)) (λi=>[yA i.b])
def dq.ix (b:dq) (l:List xY):Lv×Bool:=match l with
 |[]=>(⟨0,0,0⟩,aw)
 |r::_=>(b.told r,ax)
structure Ac where
 side:Bool
 b:dq
def dq.side (b:dq) (s:Bool):List xY:=if s then b.fc else b.fv
@[reducible] def yBu (b:dq) (l:List xY):V:= .je [RT (b.ix l).1,yL (b.ix l).2]
def Ns:gh:=fp dq (λ_=>[.nm 0 0,zB 1]) (λb=>[yA b]) dq.ob (λb=>yBu b b.fv) (λb=>[yA b])
def Nr:gh:=fp dq (λ_=>[.nm 0 0,zB 2]) (λb=>[yA b]) dq.ob (λb=>yBu b b.fc) (λb=>[yA b])
def zF (s:Bool):Int:=if s then 2 else 1
def UA:gh:=fp Ac (λi=>[.nm 0 0,zB (zF i.side)]) (λi=>[yA i.b]) (λi=>i.b.ob) (λi=>yBu i.b (i.b.side i.side)) (λi=>[yA i.b])
structure j' where
 gv:Bool
 gq:Bool
 p1:Int
 p2:Int
 q1:Int
 q2:Int
 deriving DecidableEq
def yC (t:j'):List D:=[.v (.bool t.gv),.v (.bool t.gq),.v (.int .i64 t.p1),.v (.int .i64 t.p2),.v (.int .i64 t.q1),.v (.int .i64 t.q2)]
def kf:j':=⟨aw,aw,0,0,0,0⟩
def j'.F4 (t:j') (x:Lv×Bool):j':=if x.2 then{t with gv:=ax,p1:=x.1.dm,q1:=x.1.dr}else t
def j'.AI (t:j') (x:Lv×Bool):j':=if x.2 then{t with gq:=ax,p2:=x.1.dm,q2:=x.1.dr}else t
def dq.top (b:dq):j':=(kf.F4 (b.ix b.fv)).AI (b.ix b.fc)
def gy.fm (s:gy):List j':=s.eg.map dq.top
@[reducible] def gy.ob (s:gy):Prop:=s.eg.length<=1000000/\∀b∈s.eg,b.ob
def KA:gh:=fp gy (λ_=>[.nm 0 0]) (λs=>[zE s]) gy.ob (λs=> .own 1) (λs=>[zE s,.own 198 6 (s.fm.map yC)])
def qD (s:gy) (j:Nat) (x:j'):List j':=(s.fm.take j)++x::ac (s.eg.length-j-1) kf
def qP (s:gy) (j:Nat):List j':=(s.fm.take j)++ac (s.eg.length-j) kf
def y3m (s:gy):List gr:=[
 {ι:=Nat,du:=λj=>[(3,.own 0),(21,zB j)],rows:=λj=>[.own 198 6 ((qP s j).map yC)]},
 {ι:=Unit,du:=λ_=>[],rows:=λ_=>[],un:=3}]
def y1m (s:gy):List (Nat×gr):=[(15,{ι:=Nat×j',du:=λx=>[(3,.own 0)],oP:=λx=>[(3,.own 0)],lq:=λx=>[.own 198 6 ((qD s x.1 x.2).map yC)],rows:=λx=>[.own 198 6 ((qD s x.1 x.2).map yC)]})]
def y7g (s:gy):List gr:=[{ι:=Nat,du:=λj=>[(3,.nm 0 0),(22,zB j)],rows:=λj=>(af 5).map (qB ⟨s.p,s.eg.take j,s.wh⟩)}]
@[reducible] def Q8 (a:dv)(R:Prop):Prop:=a.free=a.free/\ab zT a.du=ab zT a.du/\ab zQ a.dy=ab zQ a.dy/\R
def wF (a:ur):Prop:=Q8 a.a (True)
def zBv (a:ur):Prop:=dx ((a.a.qg a.n).total=0/\wF a)
def dJ (a:ur):=((ab zQ a.a.dy).length:Int)
def yIm (i:ur):Prop:=
 dp (decide (i.n>=0)) (dp (!decide (i.n<(dJ i))) (zBv i) ((0<=i.n/\i.n<(dJ i))/\∃(a:Int),zD (ab zQ i.a.dy) i.n.toNat 2 1=ba [dI a]/\dx ((i.a.qg i.n).total=a/\wF i))) (zBv i)
def zBk (a:ur):Prop:=dx ((a.a.qg a.n).count=0/\wF a)
def yGk (i:ur):Prop:=
 dp (decide (i.n>=0)) (dp (!decide (i.n<(dJ i))) (zBk i) ((0<=i.n/\i.n<(dJ i))/\∃(a:Int),zD (ab zQ i.a.dy) i.n.toNat 3 1=ba [dI a]/\dx ((i.a.qg i.n).count=a/\wF i))) (zBk i)
def xGp (n:Int):Prop:=
 dp (n==1) (dx ((decide (n=1)||decide (n=2))=ax/\True)) (dx ((decide (n=1)||decide (n=2))=(n==2)/\True))
def xFn (i:SQ):Prop:=
 ∃(gz:ur),gz.n=i.r.queue/\aq dv 3 zH gz.a=aq dv 3 zH i.b.a/\True/\∀(o:Unit),True->dl i.r.queue/\True/\dl i.r.dm/\∃(mf:ur),mf.n=i.r.queue/\aq dv 3 zH mf.a=aq dv 3 zH gz.a/\True/\∀(o:Unit),True->dl i.r.dm/\∃(o:Unit),dl i.r.dm/\(i.b.a.qg i.r.queue).total=(gz.a.qg gz.n).total/\(i.b.a.qg i.r.queue).count=(mf.a.qg mf.n).count/\dl i.b.iK/\dl i.b.iJ/\dl i.b.gv/\dl i.b.gq/\aq dv 3 zH i.b.a=aq dv 3 zH mf.a/\dl (ab zC i.b.fv)/\dl (ab zC i.b.fc)/\dl (jw i.b.at_)/\dl (iE i.b.spare)/\True
def y6h (b:dq):Prop:=
 ∃(i:Int),i=1/\True/\∀(o:Unit),True->dp (!(decide (i=1)||decide (i=2))) (∃(o:Unit),(b.ix b.fv).fst.dm=0/\(b.ix b.fv).fst.dr=0/\(b.ix b.fv).fst.count=0/\(b.ix b.fv).snd=aw/\dl b.iK/\dl b.iJ/\dl b.gv/\dl b.gq/\dl (aq dv 3 zH b.a)/\dl (ab zC b.fv)/\dl (ab zC b.fc)/\dl (jw b.at_)/\dl (iE b.spare)/\True) (dp (((ab zC b.fv).length:Int)==0) (∃(o:Unit),(b.ix b.fv).fst.dm=0/\(b.ix b.fv).fst.dr=0/\(b.ix b.fv).fst.count=0/\(b.ix b.fv).snd=aw/\dl b.iK/\dl b.iJ/\dl b.gv/\dl b.gq/\dl (aq dv 3 zH b.a)/\dl (ab zC b.fv)/\dl (ab zC b.fc)/\dl (jw b.at_)/\dl (iE b.spare)/\True) (((0:Int)<=(0:Int)/\0<((ab zC b.fv).length:Int))/\∃(n:Int),∃(ID:Int),zD (ab zC b.fv) (bv 0) 0 2=ba [D.v (.int .i64 n),D.v (.int .i64 ID)]/\∃(i:SQ),i.r.dm=n/\i.r.queue=ID/\i.b.iK=b.iK/\i.b.iJ=b.iJ/\i.b.gv=b.gv/\i.b.gq=b.gq/\aq dv 3 zH i.b.a=aq dv 3 zH b.a/\ab zC i.b.fv=ab zC b.fv/\ab zC i.b.fc=ab zC b.fc/\jw i.b.at_=jw b.at_/\iE i.b.spare=iE b.spare/\(∀(q:aV),q∈i.b.a.dy->(-9223372036854775808)<=q.count/\q.count<=9223372036854775807)/\∀(o:Unit),True->∃(o:Unit),(b.ix b.fv).fst.dm=i.r.dm/\(b.ix b.fv).fst.dr=(i.b.a.qg i.r.queue).total/\(b.ix b.fv).fst.count=(i.b.a.qg i.r.queue).count/\(b.ix b.fv).snd=ax/\yA b=yA i.b/\True))
def xAd (b:dq):Prop:=
 ∃(i:Int),i=2/\True/\∀(o:Unit),True->dp (!(decide (i=1)||decide (i=2))) (∃(o:Unit),(b.ix b.fc).fst.dm=0/\(b.ix b.fc).fst.dr=0/\(b.ix b.fc).fst.count=0/\(b.ix b.fc).snd=aw/\dl b.iK/\dl b.iJ/\dl b.gv/\dl b.gq/\dl (aq dv 3 zH b.a)/\dl (ab zC b.fv)/\dl (ab zC b.fc)/\dl (jw b.at_)/\dl (iE b.spare)/\True) (dp (((ab zC b.fc).length:Int)==0) (∃(o:Unit),(b.ix b.fc).fst.dm=0/\(b.ix b.fc).fst.dr=0/\(b.ix b.fc).fst.count=0/\(b.ix b.fc).snd=aw/\dl b.iK/\dl b.iJ/\dl b.gv/\dl b.gq/\dl (aq dv 3 zH b.a)/\dl (ab zC b.fv)/\dl (ab zC b.fc)/\dl (jw b.at_)/\dl (iE b.spare)/\True) (((0:Int)<=(0:Int)/\0<((ab zC b.fc).length:Int))/\∃(n:Int),∃(ID:Int),zD (ab zC b.fc) (bv 0) 0 2=ba [D.v (.int .i64 n),D.v (.int .i64 ID)]/\∃(i:SQ),i.r.dm=n/\i.r.queue=ID/\i.b.iK=b.iK/\i.b.iJ=b.iJ/\i.b.gv=b.gv/\i.b.gq=b.gq/\aq dv 3 zH i.b.a=aq dv 3 zH b.a/\ab zC i.b.fv=ab zC b.fv/\ab zC i.b.fc=ab zC b.fc/\jw i.b.at_=jw b.at_/\iE i.b.spare=iE b.spare/\(∀(q:aV),q∈i.b.a.dy->(-9223372036854775808)<=q.count/\q.count<=9223372036854775807)/\∀(o:Unit),True->∃(o:Unit),(b.ix b.fc).fst.dm=i.r.dm/\(b.ix b.fc).fst.dr=(i.b.a.qg i.r.queue).total/\(b.ix b.fc).fst.count=(i.b.a.qg i.r.queue).count/\(b.ix b.fc).snd=ax/\yA b=yA i.b/\True))
def zMr (a:gy):Prop:=ar (yV a.wh)=ar (yV a.wh)/\dl (am 1 (iE a.p.dt))/\dl (am 1 (iE a.p.settle))
def f7 (a:gy):=(D.v (bu (sb a.p.code)))
def VH (a:Nat×j'->Prop) (b:Nat×j') (c:gy) (d:Nat) (e:dq):Prop:=a b/\dl (au 3 1 [[dI 1],[dI 2]])/\dl (ao [V.d (f7 c),V.own 3,V.d (dI c.p.tick),V.d (dI c.p.low),V.d (dI c.p.high),V.d (dI c.p.wide),V.d (dI c.p.gm),V.d (dI c.p.top),V.d (dI c.p.least),V.d (dI c.p.part),V.own 4,V.own 1,V.mp 2] (159:bo))/\ap 160 dq 6 zR (c.eg.set (d:Int).toNat e) bc=ap 160 dq 6 zR c.eg bc/\zMr c
def ZC (a:gy) (b:Nat×j') (c:Nat×j'->Prop) (d:Nat) (e:dq):Prop:=∃(f:Nat×j'),ab yC (qD a f.fst f.snd)=ab yC (qD a b.fst b.snd)/\VH c f a d e
def gK (a:gy) (b:Nat×j'):=(ab yC (qD a b.fst b.snd))
def mN (a:gy) (b:Nat×j') (c:Nat):=(zK (gK a b) (c:Int).toNat 1 [D.v (.bool ax)])
def z7 (a:Ac):=(a.b.ix (a.b.side a.side))
def bF (a:Ac):=((z7 a).fst.dm)
def bK (a:gy) (b:Nat×j') (c:Nat) (d:Ac):=(zK (mN a b c) (c:Int).toNat 3 [dI (bF d)])
def zDj (a:Nat) (b:gy) (c:Nat×j') (d:Ac):Prop:=(0<=(a:Int)/\(a:Int)<((bK b c a d).length:Int))/\dl ((a:Int).toNat)
def mS (a:gy) (b:Nat×j') (c:Nat):=(zK (gK a b) (c:Int).toNat 0 [D.v (.bool ax)])
def bW (a:gy) (b:Nat×j') (c:Nat) (d:Ac):=(zK (mS a b c) (c:Int).toNat 2 [dI (bF d)])
def zEd (a:Nat) (b:gy) (c:Nat×j') (d:Ac):Prop:=(0<=(a:Int)/\(a:Int)<((bW b c a d).length:Int))/\dl ((a:Int).toNat)
def V4 (a:gy):Prop:=0<=(a.eg.length:Int)/\(a.eg.length:Int)<=(a.eg.length:Int)/\(a.eg.length:Int)<=9223372036854775807/\((40:Nat):Int)*(a.eg.length:Int)<=2 ^ (48:Nat)
def mL (a:Nat) (b:gy) (c:Nat×j'):Prop:=(0<=(a:Int)/\(a:Int)<((mN b c a).length:Int))/\dl ((a:Int).toNat)
def mM (a:Nat) (b:gy) (c:Nat×j'):Prop:=(0<=(a:Int)/\(a:Int)<((mS b c a).length:Int))/\dl ((a:Int).toNat)
def gN:Prop:=0<=av.wrap ((0:Int)+(1:Int))/\av.wrap ((0:Int)+(1:Int))<((2:Nat):Int)
def uH (a:Ac):Prop:=∀(b:aV),b∈a.b.a.dy->(-9223372036854775808)<=b.count/\b.count<=9223372036854775807
def kP (a:Nat) (b:gy) (c:Nat×j'):Prop:=0<=(a:Int)/\(a:Int)<((gK b c).length:Int)
def gT (a:Ac):=((z7 a).fst.dr)
@[reducible] def QJ (a:gy)(R:Prop):Prop:=yV a.wh=yV a.wh/\am 1 (iE a.p.dt)=am 1 (iE a.p.dt)/\am 1 (iE a.p.settle)=am 1 (iE a.p.settle)/\R
@[reducible] def Ys (a:Nat)(b:gy)(c:Nat×j')(d:Ac)(R:Prop):Prop:=(kP a b c)/\(kP a b c)/\(kP a b c)/\(a:Int).toNat<(gK b c).length/\(mM a b c)/\(mM a b c)/\(z7 d).fst.dr=(z7 d).fst.dr/\(z7 d).fst.dm=(z7 d).fst.dm/\(a:Int).toNat<(mS b c a).length/\(zEd a b c d)/\(z7 d).fst.dr=(z7 d).fst.dr/\(a:Int).toNat<(bW b c a d).length/\R
@[reducible] def Yr (a:Nat)(b:gy)(c:Nat×j')(d:Ac)(R:Prop):Prop:=(kP a b c)/\(kP a b c)/\(kP a b c)/\(a:Int).toNat<(gK b c).length/\(mL a b c)/\(mL a b c)/\(z7 d).fst.dr=(z7 d).fst.dr/\(z7 d).fst.dm=(z7 d).fst.dm/\(a:Int).toNat<(mN b c a).length/\(zDj a b c d)/\(z7 d).fst.dr=(z7 d).fst.dr/\(a:Int).toNat<(bK b c a d).length/\R
@[reducible] def O6 (a:Ac)(b:dq)(c:Nat)(d:gy)(R:Prop):Prop:=yA a.b=yA b/\(c:Int).toNat=(c:Int).toNat/\(c:Int).toNat<d.eg.length/\R
def y1v (s:gy):Prop:=
 (V4 s)/\∃(a:Nat),(a:Int)=0/\ab yC (qP s a)=ac (s.eg.length:Int).toNat [D.v (.bool aw),D.v (.bool aw),dI 0,dI 0,dI 0,dI 0]/\∃(b:Nat->Prop),∃(c:Nat->Nat),b a/\∀(d:Nat),b d->dp (decide ((d:Int)<(s.eg.length:Int))) ((0<=(d:Int)/\(d:Int)<(s.eg.length:Int))/\(d:Int).toNat<s.eg.length/\∃(e:Nat×j'),ab yC (qD s e.fst e.snd)=ab yC (qP s d)/\∃(f:Nat×j'->Prop),(((0:Int)<=(0:Int)/\0<((2:Nat):Int))/\∃(g:Int),zD [[dI 1],[dI 2]] (bv 0) 0 1=ba [dI g]/\∃(h:dq),s.eg[(d:Int).toNat]?=ba h/\∃(j:Ac),zF j.side=g/\yA j.b=yA h/\(uH j)/\ff (∃(l:dq),O6 j l d s (dp (z7 j).snd (Ys d s e j (∃(m:Nat×j'),ab yC (qD s m.fst m.snd)=zK (bW s e d j) (d:Int).toNat 4 [dI (gT j)]/\VH f m s d l)) (ZC s e f d l))))/\∀(g:Nat×j'),f g->∃(h:Nat×j'),ab yC (qD s h.fst h.snd)=ab yC (qD s g.fst g.snd)/\∃(j:Nat×j'->Prop),((gN)/\∃(k:Int),zD [[dI 1],[dI 2]] (av.wrap ((0:Int)+(1:Int))).toNat 0 1=ba [dI k]/\∃(l:dq),s.eg[(d:Int).toNat]?=ba l/\∃(m:Ac),zF m.side=k/\yA m.b=yA l/\(uH m)/\ff (∃(p:dq),O6 m p d s (dp (z7 m).snd (Yr d s h m (∃(q:Nat×j'),ab yC (qD s q.fst q.snd)=zK (bK s h d m) (d:Int).toNat 5 [dI (gT m)]/\VH j q s d p)) (ZC s h j d p))))/\∀(k:Nat×j'),j k->∃(l:Nat),(l:Int)=av.wrap ((d:Int)+1)/\ab yC (qP s l)=ab yC (qD s k.fst k.snd)/\b l/\c l<c d/\dl (ao [V.d (f7 s),V.own 3,V.d (dI s.p.tick),V.d (dI s.p.low),V.d (dI s.p.high),V.d (dI s.p.wide),V.d (dI s.p.gm),V.d (dI s.p.top),V.d (dI s.p.least),V.d (dI s.p.part),V.own 4,V.own 1,V.mp 2] (159:bo))/\dl (ap 160 dq 6 zR s.eg bc)/\zMr s) (dx (Qc s.p (dl (ap 160 dq 6 zR s.eg bc)/\QJ s (ab yC s.fm=ab yC (qP s d)/\True))))
def y6a (s:gy):Prop:=
 ∃(i:List (bg×List D)),i=yV s.wh/\True/\∀(o:Unit),True->(dl (sb s.p.code)/\True/\dl s.p.tick/\dl s.p.low/\dl s.p.high/\dl s.p.wide/\dl s.p.gm/\dl s.p.top/\dl s.p.least/\dl s.p.part/\True/\True)/\∃(i0:Nat),(i0:Int)=0/\dl (sb s.p.code)/\dl s.p.tick/\dl s.p.low/\dl s.p.high/\dl s.p.wide/\dl s.p.gm/\dl s.p.top/\dl s.p.least/\dl s.p.part/\ae i0 s.eg=[]/\(bc:Option Nat)=bc/\yV s.wh=i/\dl (am 1 (iE s.p.dt))/\dl (am 1 (iE s.p.settle))/\∃(I:Nat->Prop),∃(μ:Nat->Nat),I i0/\∀(gz:Nat),I gz->dp (decide ((gz:Int)<(s.eg.length:Int))) ((0<=(gz:Int)/\(gz:Int)<(s.eg.length:Int))/\(gz:Int).toNat<s.eg.length/\∃(x:dq),s.eg[(gz:Int).toNat]?=ba x/\∃(mf:dq),yA mf=yA x/\((mf.a.du.length<=1000000/\mf.a.dy.length<=1000000)/\mf.fv.length<=1000000/\mf.fc.length<=1000000/\mf.spare.length<=1000000)/\∀(o:Unit),True->∃(x:dq),yA mf=yA x/\dl ((gz:Int).toNat)/\(gz:Int).toNat<s.eg.length/\True/\True/\∃(za:List dq),ap 160 dq 6 zR (ae gz s.eg) bc=ap 160 dq 6 zR za bc/\(za.length+1)*(8:Nat)<=(140737488355328:Nat)/\∃(i':Nat),(i':Int)=av.wrap ((gz:Int)+1)/\dl (sb s.p.code)/\dl s.p.tick/\dl s.p.low/\dl s.p.high/\dl s.p.wide/\dl s.p.gm/\dl s.p.top/\dl s.p.least/\dl s.p.part/\ap 160 dq 6 zR (ae i' s.eg) bc=ap 160 dq 6 zR (za++[mf]) bc/\dl (yV s.wh)/\dl (am 1 (iE s.p.dt))/\dl (am 1 (iE s.p.settle))/\I i'/\μ i'<μ gz/\ar i=ar i/\dl (ao [V.d (D.v (bu (sb s.p.code))),V.own 3,V.d (D.v (.int .i64 s.p.tick)),V.d (D.v (.int .i64 s.p.low)),V.d (D.v (.int .i64 s.p.high)),V.d (D.v (.int .i64 s.p.wide)),V.d (D.v (.int .i64 s.p.gm)),V.d (D.v (.int .i64 s.p.top)),V.d (D.v (.int .i64 s.p.least)),V.d (D.v (.int .i64 s.p.part)),V.own 4,V.own 1,V.mp 2] (159:bo))/\ap 160 dq 6 zR (s.eg.set (gz:Int).toNat x) bc=ap 160 dq 6 zR s.eg bc/\dl (am 1 (iE s.p.dt))/\dl (am 1 (iE s.p.settle))) (∃(o:Unit),dl (sb s.p.code)/\dl s.p.tick/\dl s.p.low/\dl s.p.high/\dl s.p.wide/\dl s.p.gm/\dl s.p.top/\dl s.p.least/\dl s.p.part/\dl (ap 160 dq 6 zR s.eg bc)/\yV s.wh=i/\dl (am 1 (iE s.p.dt))/\dl (am 1 (iE s.p.settle))/\dl (sb s.p.code)/\dl s.p.tick/\dl s.p.low/\dl s.p.high/\dl s.p.wide/\dl s.p.gm/\dl s.p.top/\dl s.p.least/\dl s.p.part/\ap 160 dq 6 zR s.eg bc=ap 160 dq 6 zR (ae gz s.eg) bc/\dl (yV s.wh)/\dl (am 1 (iE s.p.dt))/\dl (am 1 (iE s.p.settle))/\True)
def jz {α:Type} {f:α->List D} {l:List α} {i g n:Nat} {x:α} {r:List D} (h:l[i]? =ba x) (hn:g+n<=(f x).length) (hr:((f x).drop g).take n=r):zD (l.map f) i g n=ba r:=by
 unfold zD;rw[qt,h];simp only[wg,Nat.ble_eq_true_of_le hn,cond_true,hr]
def WX {a:dv} {n:Int} {q:aV} (h0:0<=n) (h:a.dy[n.toNat]? =ba q):a.qg n=q:=by
 have:=(jm.1 h).1;rw[dv.qg,fh ⟨h0,by omega⟩,mu,h];rfl
def U4 {a:dv} {n:Int} (h:¬(0<=n/\n<a.dy.length)):a.qg n=⟨0,0,0,0⟩:=by rw[dv.qg,ez h]
def zLn:Jw.ok Tryz.prog 255:=gx (V:=yIm) mixed fk 1 i6 i6 [0] Tryz.func255 λ(i:ur) _=>by
 unfold yIm dx dJ zBv dx wF Q8 dI;simp only[ia];refine zG (λc=>Cv.dp.mk (λd=> ?_) (λd=> ?_)) (λc=> ?_)
 ·have d:¬i.n<(i.a.dy.length:Int):=i9 d
  rw[U4 (by omega)];exact kp
 ·have d:i.n<(i.a.dy.length:Int):=i9 d
  obtain⟨q,hq⟩:=zZ (l:=i.a.dy) (i:=i.n.toNat) oM;rw[WX (by omega) hq];refine⟨⟨oM,oM⟩,q.total,jz hq (by simp[zQ]) rfl,?_⟩;exact kp
 ·rw[U4 (by omega)];exact kp
def sO:Jx.ok Tryz.prog 256:=gx (V:=yGk) mixed fk 1 i6 i6 [0] Tryz.func256 λ(i:ur) _=>by
 unfold yGk dx dJ zBk dx wF Q8 dI;simp only[ia];refine zG (λc=>Cv.dp.mk (λd=> ?_) (λd=> ?_)) (λc=> ?_)
 ·have d:¬i.n<(i.a.dy.length:Int):=i9 d
  rw[U4 (by omega)];exact kp
 ·have d:i.n<(i.a.dy.length:Int):=i9 d
  obtain⟨q,hq⟩:=zZ (l:=i.a.dy) (i:=i.n.toNat) oM;rw[WX (by omega) hq];refine⟨⟨oM,oM⟩,q.count,jz hq (by simp[zQ]) rfl,?_⟩;exact kp
 ·rw[U4 (by omega)];exact kp
def JK:aaY.ok Tryz.prog 216:=gx (V:=xGp) mixed fk 0 i6 i6 [] Tryz.func216 λ(n:Int) _=>by
 unfold xGp dx;refine Cv.dp.mk (λc=>⟨(),?_,trivial⟩) (λc=>⟨(),?_,trivial⟩)
 all_goals simp at c
 ·simp[c]
 ·by_cases h:n=2<;>simp[c,h]
def yGy:TP.ok Tryz.prog 217:=gx (V:=xFn) mixed (dw zLn (dw sO fk)) 0 i6 i6 [0] Tryz.func217 λ(i:SQ) h=>by
 refine⟨⟨i.b.a,i.r.queue⟩,?_⟩;(repeat'(first|exact rfl|exact trivial|assumption|apply az|refineλ(_:Unit) (_:True)=>?_|refine ay () ?_|omega|(dsimp only;omega)));refine⟨⟨i.b.a,i.r.queue⟩,?_⟩;exact kp
def yUe:Ns.ok Tryz.prog 155:=gx (V:=y6h) mixed (dw JK (dw yGy fk)) 0 i6 i6 [0] Tryz.func155 λ(b:dq) h=>by
 have h:b.ob:=h;refine⟨1,rfl,trivial,λ_ _=>Cv.dp.mk (λc=>absurd c Z8) λ_=> ?_⟩;simp only[ia];refine Cv.dp.mk (λc=> ?_) (λc=> ?_)
 ·have hl:b.fv=[]:=xq (by have:(b.fv.length:Int)=0:=(i9 c);omega);have e:b.ix b.fv=(⟨0,0,0⟩,aw):=by rw[hl];rfl
  rw[e];exact kp
 ·obtain⟨r,l,hl⟩:∃r l,b.fv=r::l:=by
   cases hb:b.fv with
   |nil=>rw[hb]at c;exact absurd c Z8
   |cons r l=>exact⟨r,l,rfl⟩
  have e:b.ix b.fv=(b.told r,ax):=by rw[hl];rfl
  rw[e];refine⟨⟨oM,by rw[hl,iF];omega⟩,r.dm,r.queue,jz (x:=r) (by rw[hl];rfl) (by simp[zC]) rfl,⟨b,r⟩,?_⟩;exact kp
def yRv:Nr.ok Tryz.prog 155:=gx (V:=xAd) mixed (dw JK (dw yGy fk)) 0 i6 i6 [0] Tryz.func155 λ(b:dq) h=>by
 have h:b.ob:=h;refine⟨2,rfl,trivial,λ_ _=>Cv.dp.mk (λc=>absurd c Z8) λ_=> ?_⟩;simp only[ia];refine Cv.dp.mk (λc=> ?_) (λc=> ?_)
 ·have hl:b.fc=[]:=xq (by have:(b.fc.length:Int)=0:=(i9 c);omega);have e:b.ix b.fc=(⟨0,0,0⟩,aw):=by rw[hl];rfl
  rw[e];exact kp
 ·obtain⟨r,l,hl⟩:∃r l,b.fc=r::l:=by
   cases hb:b.fc with
   |nil=>rw[hb]at c;exact absurd c Z8
   |cons r l=>exact⟨r,l,rfl⟩
  have e:b.ix b.fc=(b.told r,ax):=by rw[hl];rfl
  rw[e];refine⟨⟨oM,by rw[hl,iF];omega⟩,r.dm,r.queue,jz (x:=r) (by rw[hl];rfl) (by simp[zC]) rfl,⟨b,r⟩,?_⟩;exact kp
def U1:UA.ok Tryz.prog 155:=λi=>match i with
 |⟨aw,b⟩=>yUe b
 |⟨ax,b⟩=>yRv b
def zUu {α:Type} (f:α->α) (x:α) (b:List α):∀a:List α,(a++x::b).modify a.length f=a++f x::b
 |[]=>rfl
 |y::a=>by
  show y::(a++x::b).modify a.length f=_;rw[zUu f x b a];rfl
def zXg {fa:Q_ D} {a b:Q_ D} {x y ds:List D} {j f:Nat} (h:fa=a++x::b) (hl:a.length=j) (hy:x.take f++(ds++x.drop (f+ds.length))=y):zK fa j f ds=a++y::b:=by
 rw[zK,h,<- hl,zUu,hy]
def kW {s:gy} {j:Nat} {x y:j'} {f:Nat} {ds:List D} (hj:j<s.eg.length) (hy:(yC x).take f++(ds++(yC x).drop (f+ds.length))=yC y):
 zK (ab yC (qD s j x)) j f ds=ab yC (qD s j y):=by
 rw[zXg (a:=(s.fm.take j).map yC) (b:=(ac (s.eg.length-j-1) kf).map yC) (by rw[qD,jk,jf]) (by
  rw[ia,nn,gy.fm,ia];omega) hy,qD,jk,jf]
def zRy {s:gy} {j:Nat} {x:j'} (hj:j<s.eg.length):(qD s j x).length=s.eg.length:=by
 rw[qD,iv,iF,nn,gy.fm,ia,HF];omega
def zOa {s:gy} {j:Nat} (hj:j<s.eg.length):qD s j kf=qP s j:=by
 rw[qD,qP];obtain⟨m,hm⟩:∃m,s.eg.length-j=m+1:=⟨s.eg.length-j-1,oM⟩
 rw[hm,J7];rfl
def zOj {s:gy} {j:Nat} {b:dq} (hb:s.eg[j]? =ba b):qD s j b.top=qP s (j+1):=by
 have hj:=(jm.1 hb).1;rw[qD,qP,qq,show s.fm[j]? =ba b.top by rw[gy.fm,qt,hb];rfl];simp only[Bt,jd,uh,we];rw[show s.eg.length-j-1=s.eg.length-(j+1)by omega]
def cJ {α:Type} {l:List α} {j:Nat} {x:α} (h:l[j]? =ba x):l.set j x=l:=by
 obtain⟨hj,rfl⟩:=jm.1 h;exact List.set_getElem_self hj
def xBw (s:gy) (h:KA.dp s):y1v s:=by
 obtain⟨h1,h2⟩:s.ob:=h;unfold y1v QJ Ys Yr O6 Qc ff dx ZC VH f7 gT kP uH gN mM mL zMr V4 zEd bW mS zDj bK bF z7 mN gK dI;have p48:(2:Int) ^ (48:Nat)=281474976710656:=by decide
 refine⟨⟨oM,oM,oM,by rw[p48];omega⟩,0,rfl,?_,λj=>j<=s.eg.length,λj=>s.eg.length-j,oM,λj hj=>zG (λgu=> ?_) (λgu=> ?_)⟩
 ·rw[qP,jk,Oi];rfl
 ·have ox:j<s.eg.length:=by omega
  obtain⟨b,hb⟩:=zZ ox;have hc:=h2 b (lh hb);simp only[ot];have ha:∀x,(ab yC (qD s j x)).length=s.eg.length:=λx=>by rw[ia,zRy ox]
  have w1:av.wrap (0+1)=1:=by decide
  have w2:(0+1) % ((2:Int) ^ av.bits).natAbs=1:=by decide
  refine⟨⟨oM,oM⟩,oM,(j,kf),by rw[zOa ox],λx=>x=(j,kf.F4 (b.ix b.fv)),⟨⟨Z8,Z8⟩,1,rfl,b,hb,⟨aw,b⟩,rfl,rfl,hc,λ_ _=>⟨b,rfl,kp,oM,?_⟩⟩,?_⟩
  ·refine Cv.dp.mk (λc=> ?_) (λc=> ?_)
   ·have c:(b.ix b.fv).2=ax:=c;have e1:=kW (s:=s) ox (x:=kf) (y:={kf with gv:=ax}) (f:=0+0+0*1) (ds:=[D.v (.bool ax)]) rfl;have e2:=kW (s:=s) ox (x:={kf with gv:=ax}) (y:={kf with gv:=ax,p1:=(b.ix b.fv).1.dm}) (f:=0+2+0*1) (ds:=[D.v (.int .i64 (b.ix b.fv).1.dm)]) rfl;have e3:=kW (s:=s) ox (x:={kf with gv:=ax,p1:=(b.ix b.fv).1.dm}) (y:={kf with gv:=ax,p1:=(b.ix b.fv).1.dm,q1:=(b.ix b.fv).1.dr}) (f:=0+4+0*1) (ds:=[D.v (.int .i64 (b.ix b.fv).1.dr)]) rfl;dsimp only;simp only[show b.side aw=b.fv from rfl,e1,e2,e3,ha]
    (repeat'(first|exact rfl|exact trivial|assumption|apply az|refineλ(_:Unit) (_:True)=>?_|refine ay () ?_|omega|(dsimp only;omega)))
    refine⟨(j,{kf with gv:=ax,p1:=(b.ix b.fv).1.dm,q1:=(b.ix b.fv).1.dr}),rfl,?_,?_⟩
    ·rw[j'.F4,fh c]
    ·(repeat'(first|exact rfl|exact trivial|assumption|apply az|refineλ(_:Unit) (_:True)=>?_|refine ay () ?_|omega|(dsimp only;omega)))
     rw[cJ hb]
   ·have c:(b.ix b.fv).2=aw:=c;refine⟨(j,kf),rfl,?_,?_⟩
    ·rw[j'.F4,ez (by rw[c];simp)]
    ·(repeat'(first|exact rfl|exact trivial|assumption|apply az|refineλ(_:Unit) (_:True)=>?_|refine ay () ?_|omega|(dsimp only;omega)))
     rw[cJ hb]
  ·rintro _ rfl;rw[w1];generalize hx:kf.F4 (b.ix b.fv)=x;have RV:b.top=x.AI (b.ix b.fc):=by rw[dq.top,hx]
   refine⟨(j,x),rfl,λy=>y=(j,b.top),⟨⟨Z8,Z8⟩,2,rfl,b,hb,⟨ax,b⟩,rfl,rfl,hc,λ_ _=>⟨b,rfl,kp,oM,?_⟩⟩,?_⟩
   ·refine Cv.dp.mk (λc=> ?_) (λc=> ?_)
    ·have c:(b.ix b.fc).2=ax:=c;have e1:=kW (s:=s) ox (x:=x) (y:={x with gq:=ax}) (f:=0+0+1*1) (ds:=[D.v (.bool ax)]) rfl;have e2:=kW (s:=s) ox (x:={x with gq:=ax}) (y:={x with gq:=ax,p2:=(b.ix b.fc).1.dm}) (f:=0+2+1*1) (ds:=[D.v (.int .i64 (b.ix b.fc).1.dm)]) rfl;have e3:=kW (s:=s) ox (x:={x with gq:=ax,p2:=(b.ix b.fc).1.dm}) (y:={x with gq:=ax,p2:=(b.ix b.fc).1.dm,q2:=(b.ix b.fc).1.dr}) (f:=0+4+1*1) (ds:=[D.v (.int .i64 (b.ix b.fc).1.dr)]) rfl;dsimp only;simp only[w2,show b.side ax=b.fc from rfl,e1,e2,e3,ha]
     (repeat'(first|exact rfl|exact trivial|assumption|apply az|refineλ(_:Unit) (_:True)=>?_|refine ay () ?_|omega|(dsimp only;omega)))
     refine⟨(j,{x with gq:=ax,p2:=(b.ix b.fc).1.dm,q2:=(b.ix b.fc).1.dr}),rfl,?_,?_⟩
     ·rw[RV,j'.AI,fh c]
     ·(repeat'(first|exact rfl|exact trivial|assumption|apply az|refineλ(_:Unit) (_:True)=>?_|refine ay () ?_|omega|(dsimp only;omega)))
      rw[cJ hb]
    ·have c:(b.ix b.fc).2=aw:=c;refine⟨(j,x),rfl,?_,?_⟩
     ·rw[RV,j'.AI,ez (by rw[c];simp)]
     ·(repeat'(first|exact rfl|exact trivial|assumption|apply az|refineλ(_:Unit) (_:True)=>?_|refine ay () ?_|omega|(dsimp only;omega)))
      rw[cJ hb]
   ·rintro _ rfl;refine⟨j+1,by rw[iw (by omega)];rfl,?_⟩;refine⟨by dsimp only;rw[zOj hb],?_⟩;exact kp
 ·have hj:j<=s.eg.length:=hj;obtain rfl:j=s.eg.length:=by omega
  have e:qP s s.eg.length=s.fm:=by
   rw[qP,JW,List.replicate_zero,oJ,mz (by rw[gy.fm,ia];omega)]
  rw[e];exact kp
def yGo:KA.ok Tryz.prog 78:=gx mixed (dw U1 fk) 0 (λs=>y1m s) (λs=>y3m s) [0] Tryz.func78 xBw
def P4:Nm.ok Tryz.prog 85:=gx (V:=y6a) mixed (dw y0h (dw ySs fk)) 0 i6 (λs=>y7g s) [0] Tryz.func85 λ(s:gy) h=>by
 obtain⟨h1,h2⟩:s.small:=h;refine⟨yV s.wh,?_⟩;(repeat'(first|exact rfl|exact trivial|assumption|apply az|refineλ(_:Unit) (_:True)=>?_|refine ay () ?_|omega|(dsimp only;omega)));refine⟨0,?_⟩;(repeat'(first|exact rfl|exact trivial|assumption|apply az|refineλ(_:Unit) (_:True)=>?_|refine ay () ?_|omega|(dsimp only;omega)));refine⟨λj=>j<=s.eg.length,λj=>s.eg.length-j,oM,λj hj=>zG (λgu=> ?_) (λgu=> ?_)⟩
 ·obtain⟨b,hb⟩:=zZ (l:=s.eg) (i:=j) oM;have hs:=h2 b (lh hb);simp only[ot];refine⟨⟨oM,oM⟩,oM,b,hb,b,rfl,hs,λ_ _=>⟨b,rfl,kp,oM,trivial,trivial,s.eg.take j,rfl,?_,j+1,?_⟩⟩
  ·rw[nn];omega
  ·rw[iw (by omega),qq,hb]
   (repeat'(first|exact rfl|exact trivial|assumption|apply az|refineλ(_:Unit) (_:True)=>?_|refine ay () ?_|omega|(dsimp only;omega)))
   rw[cJ hb]
 ·have hj:j<=s.eg.length:=hj;obtain rfl:j=s.eg.length:=by omega
  rw[mz (ju _)];exact kp
structure Ct where
 inst:Int
 side:Int
 deriving DecidableEq
structure Quote where
 dm:Int
 dr:Int
 a:Ct
 b:Ct
 deriving DecidableEq
def zL (q:Quote):List D:=[.v (.int .i64 q.dm),.v (.int .i64 q.dr),.v (.int .i64 q.a.inst),.v (.int .i64 q.a.side),.v (.int .i64 q.b.inst),.v (.int .i64 q.b.side)]
@[reducible] def WR (q:Quote):V:= .agg [zB q.dm,zB q.dr,zB q.a.inst,zB q.a.side,zB q.b.inst,zB q.b.side]
def y9l:Quote:=⟨0,0,⟨0,0⟩,⟨0,0⟩⟩
structure Et where
 side:Int
 x:Int
 y:Int
def jl (side x y:Int):Bool:=if side=1 then decide (y<x)else decide (x<y)
def Jp:gh:=fp Int (λn=>[zB n]) i6 (λn=>n=1\/n=2) (λn=>zB (3-n)) i6
def Hh:gh:=fp Et (λi=>[zB i.side,zB i.x,zB i.y]) i6 (λ_=>True) (λi=>yL (jl i.side i.x i.y)) i6
def j'.has (t:j') (s:Int):Bool:=if s=1 then t.gv else t.gq
def j'.dm (t:j') (s:Int):Int:=if s=1 then t.p1 else t.p2
def j'.dr (t:j') (s:Int):Int:=if s=1 then t.q1 else t.q2
def xm (fm:List j') (a b:Ct) (less:Bool):List Quote:=
 let x:=fm.getD a.inst.toNat kf
 let y:=fm.getD b.inst.toNat kf
 let r:=if less then fG (y.dm b.side) (x.dm a.side)else fH (x.dm a.side) (y.dm b.side)
 if x.has a.side && y.has b.side && r.2 then[⟨r.1,min (x.dr a.side) (y.dr b.side),a,b⟩]else[]
structure uq where
 fm:List j'
 out:List Quote
 a:Int
 b:Int
 less:Bool
@[reducible] def uB (l:List j'):Prop:=l.length<=1000000/\∀t∈l,yP t.p1/\yP t.p2
def Bj (x:List j'×List Quote):Nat->fq
 |0=> .cells [.own 1,.own 2] 343
 |1=> .kq 6 (x.1.map yC)
 |2=> .own 271 6 (x.2.map zL)
 |_=> .gone
@[reducible] def Yw (fm:List j') (out:List Quote):List fq:=[Bj (fm,out) 0,Bj (fm,out) 1,Bj (fm,out) 2]
@[reducible] def MkP (fm:List j') (out:List Quote):List fq:=[.cells [.own 1,.own 3] 343,Bj (fm,out) 1,.gone,Bj (fm,out) 2]
def XP (sa sb:Int):gh:=fp uq (λi=>[.nm 0 0,.agg [zB i.a,zB sa],.agg [zB i.b,zB sb],yL i.less]) (λi=>Yw i.fm i.out)
 (λi=>0<=i.a/\i.a<i.fm.length/\0<=i.b/\i.b<i.fm.length/\uB i.fm/\i.out.length<=1000) (λ_=>rE) (λi=>MkP i.fm (i.out++xm i.fm ⟨i.a,sa⟩ ⟨i.b,sb⟩ i.less))
def Ta:gh:=XP 1 1
def S':gh:=XP 1 2
def S9:gh:=XP 2 1
def S8:gh:=XP 2 2
def yYb (n:Int):Prop:=
 ∃(o:Unit),3-n=av.wrap (3-n)/\True
def yTo (i:Et):Prop:=
 dp (i.side==1) (∃(o:Unit),jl i.side i.x i.y=decide (i.x>i.y)/\True) (∃(o:Unit),jl i.side i.x i.y=decide (i.x<i.y)/\True)
def V8 (a:uq):=(a.out++xm a.fm (Ct.mk a.a 1) (Ct.mk a.b 1) a.less)
def sA (a:uq):Prop:=dx (am 6 (ab yC a.fm)=Bj (a.fm,a.out) 1/\ab zL (V8 a)=ab zL a.out/\True)
def j7 (a:I2):Prop:=((-9223372036854775808)<=a.x/\a.x<=9223372036854775807)/\(-9223372036854775808)<=a.y/\a.y<=9223372036854775807
def kQ (a:uq):=((ab yC a.fm).length:Int)
def qR (a:uq):Prop:=(0<=a.b/\a.b<(kQ a))/\dl a.b.toNat
def j8 (a:uq):Prop:=(0<=a.a/\a.a<(kQ a))/\dl a.a.toNat
def wC (a:uq):=((ab zL a.out).length+1)
@[reducible] def Qv (a:uq)(R:Prop):Prop:=True/\(qR a)/\a.b=a.b/\True/\True/\(j8 a)/\a.a=a.a/\True/\R
@[reducible] def Fm (a:uq)(R:Prop):Prop:=True/\(wC a)*(48:Nat)<=(140737488355328:Nat)/\R
def ZF (a:uq) (b:Bool) (c:Bool) (d:Int) (e:Int) (f:Int) (g:Int):Prop:=Qv a (Qv a (True/\(qR a)/\a.b=a.b/\True/\dp (!b) (sA a) (dp (!c) (sA a) (∃(h:I2),h.x=d/\h.y=e/\(j7 h)/\ff (dp a.less (∃(k:I2),k.x=e/\k.y=d/\(j7 k)/\ff (dp (fG k.x k.y).snd (Fm a (dx (am 6 (ab yC a.fm)=Bj (a.fm,a.out) 1/\ab zL (V8 a)=ab zL a.out++[[dI ((fG k.x k.y).fst),dI (min f g),dI a.a,dI 1,dI a.b,dI 1]]/\True))) (sA a))) (dp (fH h.x h.y).snd (Fm a (dx (am 6 (ab yC a.fm)=Bj (a.fm,a.out) 1/\ab zL (V8 a)=ab zL a.out++[[dI ((fH h.x h.y).fst),dI (min f g),dI a.a,dI 1,dI a.b,dI 1]]/\True))) (sA a)))))))
def y3u (i:uq):Prop:=
 (0<=i.a/\i.a<(kQ i))/\∃(a:Bool),∃(b:Bool),∃(c:Int),∃(d:Int),∃(e:Int),∃(f:Int),zD (ab yC i.fm) i.a.toNat 0 6=ba [D.v (.bool a),D.v (.bool b),dI c,dI d,dI e,dI f]/\(0<=i.b/\i.b<(kQ i))/\∃(g:Bool),∃(h:Bool),∃(j:Int),∃(k:Int),∃(l:Int),∃(m:Int),zD (ab yC i.fm) i.b.toNat 0 6=ba [D.v (.bool g),D.v (.bool h),dI j,dI k,dI l,dI m]/\(ZF i a g c j e l)/\ZF i a g c j e l
def V6 (a:uq):=(a.out++xm a.fm (Ct.mk a.a 1) (Ct.mk a.b 2) a.less)
def sK (a:uq):Prop:=dx (am 6 (ab yC a.fm)=Bj (a.fm,a.out) 1/\ab zL (V6 a)=ab zL a.out/\True)
def Zx (a:uq) (b:Bool) (c:Bool) (d:Int) (e:Int) (f:Int) (g:Int):Prop:=Qv a (Qv a (True/\(qR a)/\a.b=a.b/\True/\dp (!b) (sK a) (dp (!c) (sK a) (∃(h:I2),h.x=d/\h.y=e/\(j7 h)/\ff (dp a.less (∃(k:I2),k.x=e/\k.y=d/\(j7 k)/\ff (dp (fG k.x k.y).snd (Fm a (dx (am 6 (ab yC a.fm)=Bj (a.fm,a.out) 1/\ab zL (V6 a)=ab zL a.out++[[dI ((fG k.x k.y).fst),dI (min f g),dI a.a,dI 1,dI a.b,dI 2]]/\True))) (sK a))) (dp (fH h.x h.y).snd (Fm a (dx (am 6 (ab yC a.fm)=Bj (a.fm,a.out) 1/\ab zL (V6 a)=ab zL a.out++[[dI ((fH h.x h.y).fst),dI (min f g),dI a.a,dI 1,dI a.b,dI 2]]/\True))) (sK a)))))))
def y2t (i:uq):Prop:=
 (0<=i.a/\i.a<(kQ i))/\∃(a:Bool),∃(b:Bool),∃(c:Int),∃(d:Int),∃(e:Int),∃(f:Int),zD (ab yC i.fm) i.a.toNat 0 6=ba [D.v (.bool a),D.v (.bool b),dI c,dI d,dI e,dI f]/\(0<=i.b/\i.b<(kQ i))/\∃(g:Bool),∃(h:Bool),∃(j:Int),∃(k:Int),∃(l:Int),∃(m:Int),zD (ab yC i.fm) i.b.toNat 0 6=ba [D.v (.bool g),D.v (.bool h),dI j,dI k,dI l,dI m]/\(Zx i a h c k e m)/\Zx i a h c k e m
def Wb (a:uq):=(a.out++xm a.fm (Ct.mk a.a 2) (Ct.mk a.b 1) a.less)
def sP (a:uq):Prop:=dx (am 6 (ab yC a.fm)=Bj (a.fm,a.out) 1/\ab zL (Wb a)=ab zL a.out/\True)
def Y1 (a:uq) (b:Bool) (c:Bool) (d:Int) (e:Int) (f:Int) (g:Int):Prop:=Qv a (Qv a (True/\(qR a)/\a.b=a.b/\True/\dp (!b) (sP a) (dp (!c) (sP a) (∃(h:I2),h.x=d/\h.y=e/\(j7 h)/\ff (dp a.less (∃(k:I2),k.x=e/\k.y=d/\(j7 k)/\ff (dp (fG k.x k.y).snd (Fm a (dx (am 6 (ab yC a.fm)=Bj (a.fm,a.out) 1/\ab zL (Wb a)=ab zL a.out++[[dI ((fG k.x k.y).fst),dI (min f g),dI a.a,dI 2,dI a.b,dI 1]]/\True))) (sP a))) (dp (fH h.x h.y).snd (Fm a (dx (am 6 (ab yC a.fm)=Bj (a.fm,a.out) 1/\ab zL (Wb a)=ab zL a.out++[[dI ((fH h.x h.y).fst),dI (min f g),dI a.a,dI 2,dI a.b,dI 1]]/\True))) (sP a)))))))
def y3w (i:uq):Prop:=
 (0<=i.a/\i.a<(kQ i))/\∃(a:Bool),∃(b:Bool),∃(c:Int),∃(d:Int),∃(e:Int),∃(f:Int),zD (ab yC i.fm) i.a.toNat 0 6=ba [D.v (.bool a),D.v (.bool b),dI c,dI d,dI e,dI f]/\(0<=i.b/\i.b<(kQ i))/\∃(g:Bool),∃(h:Bool),∃(j:Int),∃(k:Int),∃(l:Int),∃(m:Int),zD (ab yC i.fm) i.b.toNat 0 6=ba [D.v (.bool g),D.v (.bool h),dI j,dI k,dI l,dI m]/\(Y1 i b g d j f l)/\Y1 i b g d j f l
def VV (a:uq):=(a.out++xm a.fm (Ct.mk a.a 2) (Ct.mk a.b 2) a.less)
def sL (a:uq):Prop:=dx (am 6 (ab yC a.fm)=Bj (a.fm,a.out) 1/\ab zL (VV a)=ab zL a.out/\True)
def Zs (a:uq) (b:Bool) (c:Bool) (d:Int) (e:Int) (f:Int) (g:Int):Prop:=Qv a (Qv a (True/\(qR a)/\a.b=a.b/\True/\dp (!b) (sL a) (dp (!c) (sL a) (∃(h:I2),h.x=d/\h.y=e/\(j7 h)/\ff (dp a.less (∃(k:I2),k.x=e/\k.y=d/\(j7 k)/\ff (dp (fG k.x k.y).snd (Fm a (dx (am 6 (ab yC a.fm)=Bj (a.fm,a.out) 1/\ab zL (VV a)=ab zL a.out++[[dI ((fG k.x k.y).fst),dI (min f g),dI a.a,dI 2,dI a.b,dI 2]]/\True))) (sL a))) (dp (fH h.x h.y).snd (Fm a (dx (am 6 (ab yC a.fm)=Bj (a.fm,a.out) 1/\ab zL (VV a)=ab zL a.out++[[dI ((fH h.x h.y).fst),dI (min f g),dI a.a,dI 2,dI a.b,dI 2]]/\True))) (sL a)))))))
def y1k (i:uq):Prop:=
 (0<=i.a/\i.a<(kQ i))/\∃(a:Bool),∃(b:Bool),∃(c:Int),∃(d:Int),∃(e:Int),∃(f:Int),zD (ab yC i.fm) i.a.toNat 0 6=ba [D.v (.bool a),D.v (.bool b),dI c,dI d,dI e,dI f]/\(0<=i.b/\i.b<(kQ i))/\∃(g:Bool),∃(h:Bool),∃(j:Int),∃(k:Int),∃(l:Int),∃(m:Int),zD (ab yC i.fm) i.b.toNat 0 6=ba [D.v (.bool g),D.v (.bool h),dI j,dI k,dI l,dI m]/\(Zs i b h d k f m)/\Zs i b h d k f m
def zWg:Jp.ok Tryz.prog 220:=gx (V:=yYb) mixed fk 0 i6 i6 [] Tryz.func220 λ(n:Int) h=>by
 have h:n=1\/n=2:=h;refine⟨(),?_,trivial⟩;rw[iw (by omega)]
def yBl:Hh.ok Tryz.prog 218:=gx (V:=yTo) mixed fk 0 i6 i6 [] Tryz.func218 λ(i:Et) _=>by
 refine Cv.dp.mk (λe=>⟨(),?_,trivial⟩) (λe=>⟨(),?_,trivial⟩)
 ·have e:i.side=1:=i9 e
  simp[jl,e]
 ·have e:i.side≠1:=i9 e
  simp[jl,e]
def W3 (a b:Int):(if b<a then b else a)=min a b:=by split<;>omega
def xBn (i:uq) (h:Ta.dp i):y3u i:=by
 obtain⟨a0,a1,b0,b1,⟨ht,hp⟩,ho⟩:0<=i.a/\i.a<i.fm.length/\0<=i.b/\i.b<i.fm.length/\uB i.fm/\i.out.length<=1000:=h;obtain⟨x,hx⟩:=zZ (l:=i.fm) (i:=i.a.toNat) oM;obtain⟨y,hy⟩:=zZ (l:=i.fm) (i:=i.b.toNat) oM;obtain⟨⟨px1,px2⟩,px3,px4⟩:=hp x (lh hx);obtain⟨⟨py1,py2⟩,py3,py4⟩:=hp y (lh hy);have e0:xm i.fm ⟨i.a,1⟩ ⟨i.b,1⟩ i.less=if x.gv && y.gv && (if i.less then fG y.p1 x.p1 else fH x.p1 y.p1).2 then[⟨(if i.less then fG y.p1 x.p1 else fH x.p1 y.p1).1,min x.q1 y.q1,⟨i.a,1⟩,⟨i.b,1⟩⟩]else[]:=by
  simp only[xm,mu,hx,hy,zt];rfl
 unfold y3u ZF Fm ff dx Qv wC j8 qR kQ j7 sA dx V8 dI;simp only[ia];refine⟨⟨oM,oM⟩,x.gv,x.gq,x.p1,x.p2,x.q1,x.q2,jz hx (by simp[yC]) rfl,⟨oM,oM⟩,y.gv,y.gq,y.p1,y.p2,y.q1,y.q2,jz hy (by simp[yC]) rfl,?_⟩;rw[e0]
 (repeat'(first|exact rfl|exact trivial|assumption|apply az|refineλ(_:Unit) (_:True)=>?_|refine ay () ?_|omega|(dsimp only;omega)))
 all_goals
  refine Cv.dp.mk (λc1=> ?_) (λc1=>Cv.dp.mk (λc2=> ?_) (λc2=> ?_))
  ·have c1:x.gv=aw:=i9 c1
   simp only[c1,Di,oR,if_false,oJ];exact kp
  ·have c2:y.gv=aw:=i9 c2
   simp only[c2,JX,Di,oR,if_false,oJ];exact kp
  ·have c1:x.gv=ax:=i9 c1
   have c2:y.gv=ax:=i9 c2
   simp only[c1,c2,As,W3];refine⟨⟨x.p1,y.p1⟩,?_⟩
   (repeat'(first|exact rfl|exact trivial|assumption|apply az|refineλ(_:Unit) (_:True)=>?_|refine ay () ?_|omega|(dsimp only;omega)))
   refine Cv.dp.mk (λc3=> ?_) (λc3=> ?_)
   ·have c3:i.less=ax:=c3;simp only[c3,if_true];refine⟨⟨y.p1,x.p1⟩,?_⟩
    (repeat'(first|exact rfl|exact trivial|assumption|apply az|refineλ(_:Unit) (_:True)=>?_|refine ay () ?_|omega|(dsimp only;omega)))
    refine Cv.dp.mk (λc4=> ?_) (λc4=> ?_)
    ·have c4:(fG y.p1 x.p1).2=ax:=c4;simp only[c4,if_true,jk];exact kp
    ·have c4:(fG y.p1 x.p1).2=aw:=c4;simp only[c4,oR,if_false,oJ];exact kp
   ·have c3:i.less=aw:=c3;simp only[c3,oR,if_false];refine Cv.dp.mk (λc4=> ?_) (λc4=> ?_)
    ·have c4:(fH x.p1 y.p1).2=ax:=c4;simp only[c4,if_true,jk];exact kp
    ·have c4:(fH x.p1 y.p1).2=aw:=c4;simp only[c4,oR,if_false,oJ];exact kp
def yZr:Ta.ok Tryz.prog 221:=gx mixed (dw WL (dw WT fk)) 0 i6 i6 [] Tryz.func221 xBn
def xCl (i:uq) (h:S'.dp i):y2t i:=by
 obtain⟨a0,a1,b0,b1,⟨ht,hp⟩,ho⟩:0<=i.a/\i.a<i.fm.length/\0<=i.b/\i.b<i.fm.length/\uB i.fm/\i.out.length<=1000:=h;obtain⟨x,hx⟩:=zZ (l:=i.fm) (i:=i.a.toNat) oM;obtain⟨y,hy⟩:=zZ (l:=i.fm) (i:=i.b.toNat) oM;obtain⟨⟨px1,px2⟩,px3,px4⟩:=hp x (lh hx);obtain⟨⟨py1,py2⟩,py3,py4⟩:=hp y (lh hy);have e0:xm i.fm ⟨i.a,1⟩ ⟨i.b,2⟩ i.less=if x.gv && y.gq && (if i.less then fG y.p2 x.p1 else fH x.p1 y.p2).2 then[⟨(if i.less then fG y.p2 x.p1 else fH x.p1 y.p2).1,min x.q1 y.q2,⟨i.a,1⟩,⟨i.b,2⟩⟩]else[]:=by
  simp only[xm,mu,hx,hy,zt];rfl
 unfold y2t Zx Fm ff dx Qv sK dx V6 wC j8 qR j7 kQ dI;simp only[ia];refine⟨⟨oM,oM⟩,x.gv,x.gq,x.p1,x.p2,x.q1,x.q2,jz hx (by simp[yC]) rfl,⟨oM,oM⟩,y.gv,y.gq,y.p1,y.p2,y.q1,y.q2,jz hy (by simp[yC]) rfl,?_⟩;rw[e0]
 (repeat'(first|exact rfl|exact trivial|assumption|apply az|refineλ(_:Unit) (_:True)=>?_|refine ay () ?_|omega|(dsimp only;omega)))
 all_goals
  refine Cv.dp.mk (λc1=> ?_) (λc1=>Cv.dp.mk (λc2=> ?_) (λc2=> ?_))
  ·have c1:x.gv=aw:=i9 c1
   simp only[c1,Di,oR,if_false,oJ];exact kp
  ·have c2:y.gq=aw:=i9 c2
   simp only[c2,JX,Di,oR,if_false,oJ];exact kp
  ·have c1:x.gv=ax:=i9 c1
   have c2:y.gq=ax:=i9 c2
   simp only[c1,c2,As,W3];refine⟨⟨x.p1,y.p2⟩,?_⟩
   (repeat'(first|exact rfl|exact trivial|assumption|apply az|refineλ(_:Unit) (_:True)=>?_|refine ay () ?_|omega|(dsimp only;omega)))
   refine Cv.dp.mk (λc3=> ?_) (λc3=> ?_)
   ·have c3:i.less=ax:=c3;simp only[c3,if_true];refine⟨⟨y.p2,x.p1⟩,?_⟩
    (repeat'(first|exact rfl|exact trivial|assumption|apply az|refineλ(_:Unit) (_:True)=>?_|refine ay () ?_|omega|(dsimp only;omega)))
    refine Cv.dp.mk (λc4=> ?_) (λc4=> ?_)
    ·have c4:(fG y.p2 x.p1).2=ax:=c4;simp only[c4,if_true,jk];exact kp
    ·have c4:(fG y.p2 x.p1).2=aw:=c4;simp only[c4,oR,if_false,oJ];exact kp
   ·have c3:i.less=aw:=c3;simp only[c3,oR,if_false];refine Cv.dp.mk (λc4=> ?_) (λc4=> ?_)
    ·have c4:(fH x.p1 y.p2).2=ax:=c4;simp only[c4,if_true,jk];exact kp
    ·have c4:(fH x.p1 y.p2).2=aw:=c4;simp only[c4,oR,if_false,oJ];exact kp
def yVq:S'.ok Tryz.prog 221:=gx mixed (dw WL (dw WT fk)) 0 i6 i6 [] Tryz.func221 xCl
def xBq (i:uq) (h:S9.dp i):y3w i:=by
 obtain⟨a0,a1,b0,b1,⟨ht,hp⟩,ho⟩:0<=i.a/\i.a<i.fm.length/\0<=i.b/\i.b<i.fm.length/\uB i.fm/\i.out.length<=1000:=h;obtain⟨x,hx⟩:=zZ (l:=i.fm) (i:=i.a.toNat) oM;obtain⟨y,hy⟩:=zZ (l:=i.fm) (i:=i.b.toNat) oM;obtain⟨⟨px1,px2⟩,px3,px4⟩:=hp x (lh hx);obtain⟨⟨py1,py2⟩,py3,py4⟩:=hp y (lh hy);have e0:xm i.fm ⟨i.a,2⟩ ⟨i.b,1⟩ i.less=if x.gq && y.gv && (if i.less then fG y.p1 x.p2 else fH x.p2 y.p1).2 then[⟨(if i.less then fG y.p1 x.p2 else fH x.p2 y.p1).1,min x.q2 y.q1,⟨i.a,2⟩,⟨i.b,1⟩⟩]else[]:=by
  simp only[xm,mu,hx,hy,zt];rfl
 unfold y3w Y1 Fm ff dx Qv sP dx Wb wC j8 qR j7 kQ dI;simp only[ia];refine⟨⟨oM,oM⟩,x.gv,x.gq,x.p1,x.p2,x.q1,x.q2,jz hx (by simp[yC]) rfl,⟨oM,oM⟩,y.gv,y.gq,y.p1,y.p2,y.q1,y.q2,jz hy (by simp[yC]) rfl,?_⟩;rw[e0]
 (repeat'(first|exact rfl|exact trivial|assumption|apply az|refineλ(_:Unit) (_:True)=>?_|refine ay () ?_|omega|(dsimp only;omega)))
 all_goals
  refine Cv.dp.mk (λc1=> ?_) (λc1=>Cv.dp.mk (λc2=> ?_) (λc2=> ?_))
  ·have c1:x.gq=aw:=i9 c1
   simp only[c1,Di,oR,if_false,oJ];exact kp
  ·have c2:y.gv=aw:=i9 c2
   simp only[c2,JX,Di,oR,if_false,oJ];exact kp
  ·have c1:x.gq=ax:=i9 c1
   have c2:y.gv=ax:=i9 c2
   simp only[c1,c2,As,W3];refine⟨⟨x.p2,y.p1⟩,?_⟩
   (repeat'(first|exact rfl|exact trivial|assumption|apply az|refineλ(_:Unit) (_:True)=>?_|refine ay () ?_|omega|(dsimp only;omega)))
   refine Cv.dp.mk (λc3=> ?_) (λc3=> ?_)
   ·have c3:i.less=ax:=c3;simp only[c3,if_true];refine⟨⟨y.p1,x.p2⟩,?_⟩
    (repeat'(first|exact rfl|exact trivial|assumption|apply az|refineλ(_:Unit) (_:True)=>?_|refine ay () ?_|omega|(dsimp only;omega)))
    refine Cv.dp.mk (λc4=> ?_) (λc4=> ?_)
    ·have c4:(fG y.p1 x.p2).2=ax:=c4;simp only[c4,if_true,jk];exact kp
    ·have c4:(fG y.p1 x.p2).2=aw:=c4;simp only[c4,oR,if_false,oJ];exact kp
   ·have c3:i.less=aw:=c3;simp only[c3,oR,if_false];refine Cv.dp.mk (λc4=> ?_) (λc4=> ?_)
    ·have c4:(fH x.p2 y.p1).2=ax:=c4;simp only[c4,if_true,jk];exact kp
    ·have c4:(fH x.p2 y.p1).2=aw:=c4;simp only[c4,oR,if_false,oJ];exact kp
def y0r:S9.ok Tryz.prog 221:=gx mixed (dw WL (dw WT fk)) 0 i6 i6 [] Tryz.func221 xBq
def xDv (i:uq) (h:S8.dp i):y1k i:=by
 obtain⟨a0,a1,b0,b1,⟨ht,hp⟩,ho⟩:0<=i.a/\i.a<i.fm.length/\0<=i.b/\i.b<i.fm.length/\uB i.fm/\i.out.length<=1000:=h;obtain⟨x,hx⟩:=zZ (l:=i.fm) (i:=i.a.toNat) oM;obtain⟨y,hy⟩:=zZ (l:=i.fm) (i:=i.b.toNat) oM;obtain⟨⟨px1,px2⟩,px3,px4⟩:=hp x (lh hx);obtain⟨⟨py1,py2⟩,py3,py4⟩:=hp y (lh hy);have e0:xm i.fm ⟨i.a,2⟩ ⟨i.b,2⟩ i.less=if x.gq && y.gq && (if i.less then fG y.p2 x.p2 else fH x.p2 y.p2).2 then[⟨(if i.less then fG y.p2 x.p2 else fH x.p2 y.p2).1,min x.q2 y.q2,⟨i.a,2⟩,⟨i.b,2⟩⟩]else[]:=by
  simp only[xm,mu,hx,hy,zt];rfl
 unfold y1k Zs Fm ff dx Qv sL dx VV wC j8 qR j7 kQ dI;simp only[ia];refine⟨⟨oM,oM⟩,x.gv,x.gq,x.p1,x.p2,x.q1,x.q2,jz hx (by simp[yC]) rfl,⟨oM,oM⟩,y.gv,y.gq,y.p1,y.p2,y.q1,y.q2,jz hy (by simp[yC]) rfl,?_⟩;rw[e0]
 (repeat'(first|exact rfl|exact trivial|assumption|apply az|refineλ(_:Unit) (_:True)=>?_|refine ay () ?_|omega|(dsimp only;omega)))
 all_goals
  refine Cv.dp.mk (λc1=> ?_) (λc1=>Cv.dp.mk (λc2=> ?_) (λc2=> ?_))
  ·have c1:x.gq=aw:=i9 c1
   simp only[c1,Di,oR,if_false,oJ];exact kp
  ·have c2:y.gq=aw:=i9 c2
   simp only[c2,JX,Di,oR,if_false,oJ];exact kp
  ·have c1:x.gq=ax:=i9 c1
   have c2:y.gq=ax:=i9 c2
   simp only[c1,c2,As,W3];refine⟨⟨x.p2,y.p2⟩,?_⟩
   (repeat'(first|exact rfl|exact trivial|assumption|apply az|refineλ(_:Unit) (_:True)=>?_|refine ay () ?_|omega|(dsimp only;omega)))
   refine Cv.dp.mk (λc3=> ?_) (λc3=> ?_)
   ·have c3:i.less=ax:=c3;simp only[c3,if_true];refine⟨⟨y.p2,x.p2⟩,?_⟩
    (repeat'(first|exact rfl|exact trivial|assumption|apply az|refineλ(_:Unit) (_:True)=>?_|refine ay () ?_|omega|(dsimp only;omega)))
    refine Cv.dp.mk (λc4=> ?_) (λc4=> ?_)
    ·have c4:(fG y.p2 x.p2).2=ax:=c4;simp only[c4,if_true,jk];exact kp
    ·have c4:(fG y.p2 x.p2).2=aw:=c4;simp only[c4,oR,if_false,oJ];exact kp
   ·have c3:i.less=aw:=c3;simp only[c3,oR,if_false];refine Cv.dp.mk (λc4=> ?_) (λc4=> ?_)
    ·have c4:(fH x.p2 y.p2).2=ax:=c4;simp only[c4,if_true,jk];exact kp
    ·have c4:(fH x.p2 y.p2).2=aw:=c4;simp only[c4,oR,if_false,oJ];exact kp
def yWs:S8.ok Tryz.prog 221:=gx mixed (dw WL (dw WT fk)) 0 i6 i6 [] Tryz.func221 xDv
structure F7 where
 i:uq
 sa:Bool
 sb:Bool
def M9:gh:=fp F7 (λj=>[.nm 0 0,.agg [zB j.i.a,zB (zF j.sa)],.agg [zB j.i.b,zB (zF j.sb)],yL j.i.less]) (λj=>Yw j.i.fm j.i.out)
 (λj=>0<=j.i.a/\j.i.a<j.i.fm.length/\0<=j.i.b/\j.i.b<j.i.fm.length/\uB j.i.fm/\j.i.out.length<=1000) (λ_=>rE) (λj=>MkP j.i.fm (j.i.out++xm j.i.fm ⟨j.i.a,zF j.sa⟩ ⟨j.i.b,zF j.sb⟩ j.i.less))
def z3v:M9.ok Tryz.prog 221:=λj=>match j with
 |⟨i,aw,aw⟩=>yZr i
 |⟨i,aw,ax⟩=>yVq i
 |⟨i,ax,aw⟩=>y0r i
 |⟨i,ax,ax⟩=>yWs i
structure bS where
 p:fj
 fm:List j'
 inst:Int
def jQ (i:bS) (s:Int) (k:Nat):List Quote:=(af k).flatMap λ(k:Nat)=>xm i.fm ⟨(i.p.spread i.inst (i.inst+1+k)).1,s⟩ ⟨i.inst+1+k,s⟩ aw
def wL (i:bS) (s:Int) (k:Nat):List Quote:=(af k).flatMap λ(k:Nat)=>xm i.fm ⟨(i.p.spread k i.inst).1,3-s⟩ ⟨k,s⟩ ax
def yY (i:bS) (s:Int):List Quote:=xm i.fm ⟨(i.p.gp i.inst).2.1,3-s⟩ ⟨(i.p.gp i.inst).1,s⟩ ax
def aY (i:bS) (s:Int) (q:Quote):Quote:={q with a:=⟨(i.p.gp i.inst).1,s⟩,b:=⟨(i.p.gp i.inst).2.1,3-s⟩}
def kZ (i:bS) (s:Int):List Quote:=
 if i.p.count=0\/(i.fm.length:Int)≠i.p.count\/i.inst<0\/(i.p.count:Int)<=i.inst then[]
 else if(i.p.gp i.inst).2.2 then(yY i s).map (aY i s)
 else jQ i s (i.p.dt.length-(i.inst.toNat+1))++wL i s i.inst.toNat
def y3v (s:Int):gh:=fp bS (λi=>[nt i.p,ow 6 (i.fm.map yC),zB i.inst,zB s]) i6 (λi=>i.p.small/\uB i.fm) (λ_=> .own 0) (λi=>[.own 271 6 ((kZ i s).map zL)])
def Lh:gh:=y3v 1
def Lg:gh:=y3v 2
def xDn (i:bS) (s:Int):List gr:=[
 {ι:=Nat,du:=λk=>[(10,.nm 0 0),(77,zB k)],rows:=λk=>(af 3).map (Bj (i.fm,((yY i s).take k).map (aY i s)++(yY i s).drop k))},
 {ι:=Nat,du:=λk=>[(10,.nm 0 0),(17,zB (i.inst+1+k))],rows:=λk=>Yw i.fm (jQ i s k)},
 {ι:=Nat,du:=λk=>[(10,.nm 0 0),(120,zB k)],rows:=λk=>Yw i.fm (jQ i s (i.p.dt.length-(i.inst.toNat+1))++wL i s k)}]
structure Bq where
 i:bS
 s:Bool
def aaZ:gh:=fp Bq (λj=>[nt j.i.p,ow 6 (j.i.fm.map yC),zB j.i.inst,zB (zF j.s)]) i6 (λj=>j.i.p.small/\uB j.i.fm) (λ_=> .own 0) (λj=>[.own 271 6 ((kZ j.i (zF j.s)).map zL)])
def xR (i:bS) (s:Int):List Quote:=(kZ i s).filter λq=>decide (i.p.dm i.inst q.dm=0)
def DW:gh:=fp Bq (λj=>[nt j.i.p,ow 6 (j.i.fm.map yC),zB j.i.inst,zB (zF j.s)]) i6 (λj=>j.i.p.small/\uB j.i.fm) (λ_=> .own 0) (λj=>[.own 271 6 ((xR j.i (zF j.s)).map zL)])
def y0o (j:Bq):List gr:=[{ι:=Nat,du:=λk=>[(9,.own 0),(18,zB k)],rows:=λk=>[.own 271 6 ((((kZ j.i (zF j.s)).take k).filter λq=>decide (j.i.p.dm j.i.inst q.dm=0)).map zL)]}]
structure Ab where
 l:List Quote
 s:Int
def z6 (l:List Quote) (s:Int):Quote×Bool:=match l with
 |[]=>(y9l,aw)
 |q::r=>(r.foldl (λb q=>if jl s q.dm b.dm then q else b) q,ax)
def G1:gh:=fp Ab (λi=>[ow 6 (i.l.map zL),zB i.s]) i6 (λi=>(i.s=1\/i.s=2)/\i.l.length<=1000000) (λi=> .je [WR (z6 i.l i.s).1,yL (z6 i.l i.s).2]) i6
def y7o (i:Ab):List gr:=[{ι:=Nat,du:=λk=>[(6,.nm 0 0),(26,zB k)],rows:=λk=>[.cells (WR (z6 (i.l.take (max k 1)) i.s).1).cl 271]}]
def sU (a:bS):Prop:=am 6 (ab yC a.fm)=am 6 (ab yC a.fm)/\Bi a.p (dl (am 1 (iE a.p.dt)))
def Vh (a:Nat->Prop) (b:Nat) (c:Nat->Nat) (d:Nat) (e:bS):Prop:=a b/\c b<c d/\dl (am 6 (ab yC e.fm))/\sU e
def Vu (a:Nat->Prop) (b:Nat) (c:Nat->Nat) (d:Nat) (e:bS):Prop:=a b/\c b<c d/\sU e
def gI (a:j'):Prop:=((-9223372036854775808)<=a.p1/\a.p1<=9223372036854775807)/\(-9223372036854775808)<=a.p2/\a.p2<=9223372036854775807
def dE (a:F7):Prop:=0<=a.i.a/\a.i.a<(a.i.fm.length:Int)/\0<=a.i.b/\a.i.b<(a.i.fm.length:Int)/\(a.i.fm.length<=1000000/\∀(b:j'),b∈a.i.fm->gI b)/\a.i.out.length<=1000
def gH (a:F7):=(a.i.out++xm a.i.fm (Ct.mk a.i.a (zF a.sa)) (Ct.mk a.i.b (zF a.sb)) a.i.less)
def VY (a:Nat) (b:F7):=(decide ((a:Int)<((ab zL (gH b)).length:Int)))
def qQ (a:A2):Prop:=o8 a.p (a.p.settle.length<=1099511627776)
def j9 (a:aP):Prop:=o8 a.p (a.p.settle.length<=1099511627776)
def tN (a:bS) (b:Nat):=(ab (aY a 1) (ae b (yY a 1))++ak b (yY a 1))
def Wm (a:bS) (b:Nat):=(ab zL (tN a b))
def rU (a:bS) (b:Nat):=(jQ a 1 (a.p.dt.length-(a.inst.toNat+1))++wL a 1 b)
def uJ (a:aP):=((a.p.gp a.n).snd.fst)
@[reducible] def O4 (a:F7)(b:bS)(R:Prop):Prop:=a.i.less=ax/\am 6 (ab yC a.i.fm)=am 6 (ab yC b.fm)/\R
@[reducible] def Yn (a:uq)(b:aP)(c:Int)(R:Prop):Prop:=am 6 (ab yC a.fm)=am 6 (ab yC a.fm)/\ao [V.d (dI (uJ b)),V.d (dI (3-c))] 268=ao [V.d (dI (uJ b)),V.d (dI (3-c))] 268/\R
def y3i (i:bS):Prop:=
 ∃(a:fj),Qb a i.p ((zV a)/\ff (dp ((a.count:Int)==0) (dx (ab zL (kZ i 1)=[]/\True)) (dp (((ab yC i.fm).length:Int) !=(a.count:Int)) (dx (ab zL (kZ i 1)=[]/\True)) (dp (decide (i.inst<0)) (dx (ab zL (kZ i 1)=[]/\True)) (dp (decide (i.inst>=(a.count:Int))) (dx (ab zL (kZ i 1)=[]/\True)) (∃(c:aP),Qb c.p i.p (c.n=i.inst/\(j9 c)/\ff (dp (c.p.gp c.n).snd.snd (∃(e:Int),e=1/\(e=1\/e=2)/\ff (∃(g:F7),g.i.a=(c.p.gp c.n).snd.fst/\zF g.sa=3-e/\g.i.b=(c.p.gp c.n).fst/\zF g.sb=1/\O4 g i (ab zL g.i.out=[]/\(dE g)/\ff (∃(j:Nat),(j:Int)=0/\am 6 (ab yC i.fm)=am 6 (ab yC g.i.fm)/\ab zL (tN i j)=ab zL (gH g)/\∃(k:Nat->Prop),∃(l:Nat->Nat),k j/\∀(m:Nat),k m->dp (VY m g) ((0<=(m:Int)/\(m:Int)<((Wm i m).length:Int))/\(m:Int).toNat<(Wm i m).length/\∃(n:Nat),(n:Int)=av.wrap ((m:Int)+1)/\dl (am 6 (ab yC i.fm))/\ab zL (tN i n)=zK (Wm i m) (m:Int).toNat 2 [dI ((c.p.gp c.n).fst),dI 1,dI (uJ c),dI (3-e)]/\k n/\l n<l m/\Yn g.i c e (dl (ao [V.d (dI ((c.p.gp c.n).fst)),V.d (dI 1)] 268)/\sU i)) (dx (ab zL (kZ i 1)=ab zL (tN i m)/\True)))))) (∃(e:Nat),i.inst+1+(e:Int)=av.wrap (i.inst+1)/\dl (am 6 (ab yC i.fm))/\ab zL (jQ i 1 e)=[]/\∃(f:Nat->Prop),∃(g:Nat->Nat),f e/\∀(h:Nat),f h->dp (decide (i.inst+1+(h:Int)<((iE i.p.dt).length:Int))) (∃(j:A2),Qb j.p i.p (j.a=i.inst/\j.b=i.inst+1+(h:Int)/\(qQ j)/\ff (∃(l:F7),l.i.a=(j.p.spread j.a j.b).fst/\zF l.sa=1/\l.i.b=i.inst+1+(h:Int)/\zF l.sb=1/\l.i.less=aw/\am 6 (ab yC l.i.fm)=am 6 (ab yC i.fm)/\ab zL l.i.out=ab zL (jQ i 1 h)/\(dE l)/\ff (∃(n:Nat),i.inst+1+(n:Int)=av.wrap (i.inst+1+(h:Int)+1)/\am 6 (ab yC i.fm)=am 6 (ab yC l.i.fm)/\ab zL (jQ i 1 n)=ab zL (gH l)/\Vu f n g h i)))) (∃(j:Nat),(j:Int)=0/\dl (am 6 (ab yC i.fm))/\ab zL (rU i j)=ab zL (jQ i 1 h)/\∃(k:Nat->Prop),∃(l:Nat->Nat),k j/\∀(m:Nat),k m->dp (decide ((m:Int)<i.inst)) (∃(n:A2),Qb n.p i.p (n.a=(m:Int)/\n.b=i.inst/\(qQ n)/\ff (∃(q:Int),q=1/\(q=1\/q=2)/\ff (∃(s:F7),s.i.a=(n.p.spread n.a n.b).fst/\zF s.sa=3-q/\s.i.b=(m:Int)/\zF s.sb=1/\O4 s i (ab zL s.i.out=ab zL (rU i m)/\(dE s)/\ff (∃(u:Nat),(u:Int)=av.wrap ((m:Int)+1)/\am 6 (ab yC i.fm)=am 6 (ab yC s.i.fm)/\ab zL (rU i u)=ab zL (gH s)/\Vh k u l m i)))))) (dx (ab zL (kZ i 1)=ab zL (rU i m)/\True))))))))))))
def sM (a:bS) (b:Nat):=(ab (aY a 2) (ae b (yY a 2))++ak b (yY a 2))
def Wq (a:bS) (b:Nat):=(ab zL (sM a b))
def tK (a:bS) (b:Nat):=(jQ a 2 (a.p.dt.length-(a.inst.toNat+1))++wL a 2 b)
def y3t (i:bS):Prop:=
 ∃(a:fj),Qb a i.p ((zV a)/\ff (dp ((a.count:Int)==0) (dx (ab zL (kZ i 2)=[]/\True)) (dp (((ab yC i.fm).length:Int) !=(a.count:Int)) (dx (ab zL (kZ i 2)=[]/\True)) (dp (decide (i.inst<0)) (dx (ab zL (kZ i 2)=[]/\True)) (dp (decide (i.inst>=(a.count:Int))) (dx (ab zL (kZ i 2)=[]/\True)) (∃(c:aP),Qb c.p i.p (c.n=i.inst/\(j9 c)/\ff (dp (c.p.gp c.n).snd.snd (∃(e:Int),e=2/\(e=1\/e=2)/\ff (∃(g:F7),g.i.a=(c.p.gp c.n).snd.fst/\zF g.sa=3-e/\g.i.b=(c.p.gp c.n).fst/\zF g.sb=2/\O4 g i (ab zL g.i.out=[]/\(dE g)/\ff (∃(j:Nat),(j:Int)=0/\am 6 (ab yC i.fm)=am 6 (ab yC g.i.fm)/\ab zL (sM i j)=ab zL (gH g)/\∃(k:Nat->Prop),∃(l:Nat->Nat),k j/\∀(m:Nat),k m->dp (VY m g) ((0<=(m:Int)/\(m:Int)<((Wq i m).length:Int))/\(m:Int).toNat<(Wq i m).length/\∃(n:Nat),(n:Int)=av.wrap ((m:Int)+1)/\dl (am 6 (ab yC i.fm))/\ab zL (sM i n)=zK (Wq i m) (m:Int).toNat 2 [dI ((c.p.gp c.n).fst),dI 2,dI (uJ c),dI (3-e)]/\k n/\l n<l m/\Yn g.i c e (dl (ao [V.d (dI ((c.p.gp c.n).fst)),V.d (dI 2)] 268)/\sU i)) (dx (ab zL (kZ i 2)=ab zL (sM i m)/\True)))))) (∃(e:Nat),i.inst+1+(e:Int)=av.wrap (i.inst+1)/\dl (am 6 (ab yC i.fm))/\ab zL (jQ i 2 e)=[]/\∃(f:Nat->Prop),∃(g:Nat->Nat),f e/\∀(h:Nat),f h->dp (decide (i.inst+1+(h:Int)<((iE i.p.dt).length:Int))) (∃(j:A2),Qb j.p i.p (j.a=i.inst/\j.b=i.inst+1+(h:Int)/\(qQ j)/\ff (∃(l:F7),l.i.a=(j.p.spread j.a j.b).fst/\zF l.sa=2/\l.i.b=i.inst+1+(h:Int)/\zF l.sb=2/\l.i.less=aw/\am 6 (ab yC l.i.fm)=am 6 (ab yC i.fm)/\ab zL l.i.out=ab zL (jQ i 2 h)/\(dE l)/\ff (∃(n:Nat),i.inst+1+(n:Int)=av.wrap (i.inst+1+(h:Int)+1)/\am 6 (ab yC i.fm)=am 6 (ab yC l.i.fm)/\ab zL (jQ i 2 n)=ab zL (gH l)/\Vu f n g h i)))) (∃(j:Nat),(j:Int)=0/\dl (am 6 (ab yC i.fm))/\ab zL (tK i j)=ab zL (jQ i 2 h)/\∃(k:Nat->Prop),∃(l:Nat->Nat),k j/\∀(m:Nat),k m->dp (decide ((m:Int)<i.inst)) (∃(n:A2),Qb n.p i.p (n.a=(m:Int)/\n.b=i.inst/\(qQ n)/\ff (∃(q:Int),q=2/\(q=1\/q=2)/\ff (∃(s:F7),s.i.a=(n.p.spread n.a n.b).fst/\zF s.sa=3-q/\s.i.b=(m:Int)/\zF s.sb=2/\O4 s i (ab zL s.i.out=ab zL (tK i m)/\(dE s)/\ff (∃(u:Nat),(u:Int)=av.wrap ((m:Int)+1)/\am 6 (ab yC i.fm)=am 6 (ab yC s.i.fm)/\ab zL (tK i u)=ab zL (gH s)/\Vh k u l m i)))))) (dx (ab zL (kZ i 2)=ab zL (tK i m)/\True))))))))))))
def wH (a:Bq):=(ab zL (kZ a.i (zF a.s)))
def zFs (a:Nat->Prop) (b:Nat) (c:Nat->Nat) (d:Nat) (e:Bq) (f:Bq):Prop:=a b/\c b<c d/\dl (au 271 6 (wH e))/\Bi f.i.p (dl (am 1 (iE f.i.p.dt)))
def kK (a:Bq):Prop:=(o8 a.i.p (a.i.p.settle.length<=1099511627776))/\a.i.fm.length<=1000000/\∀(b:j'),b∈a.i.fm->gI b
def dD (a:Bq):=((wH a).length:Int)
def yGf (j:Bq):Prop:=
 ∃(a:Bq),Qb a.i.p j.i.p (ab yC a.i.fm=ab yC j.i.fm/\a.i.inst=j.i.inst/\zF a.s=zF j.s/\(kK a)/\ff (∃(c:Nat),(c:Int)=0/\ab zL (ag (λ(q:Sx.Quote) ↦ decide (j.i.p.dm j.i.inst q.dm=0)) (ae c (kZ j.i (zF j.s))))=[]/\∃(d:Nat->Prop),∃(e:Nat->Nat),d c/\∀(f:Nat),d f->dp (decide ((f:Int)<(dD a))) ((0<=(f:Int)/\(f:Int)<(dD a))/\∃(g:Int),∃(h:Int),∃(k:Int),∃(l:Int),∃(m:Int),∃(n:Int),zD (wH a) (f:Int).toNat 0 6=ba [dI g,dI h,dI k,dI l,dI m,dI n]/\∃(p:A2),Qb p.p j.i.p (p.a=j.i.inst/\p.b=g/\(qQ p)/\∀(q:Unit),True->dp (p.p.dm p.a p.b==0) (((ab zL (ag (λ(q:Sx.Quote) ↦ decide (j.i.p.dm j.i.inst q.dm=0)) (ae f (kZ j.i (zF j.s))))).length+1)*(48:Nat)<=(140737488355328:Nat)/\∃(r:Nat),(r:Int)=av.wrap ((f:Int)+1)/\ab zL (ag (λ(q:Sx.Quote) ↦ decide (j.i.p.dm j.i.inst q.dm=0)) (ae r (kZ j.i (zF j.s))))=ab zL (ag (λ(q:Sx.Quote) ↦ decide (j.i.p.dm j.i.inst q.dm=0)) (ae f (kZ j.i (zF j.s))))++[[dI g,dI h,dI k,dI l,dI m,dI n]]/\zFs d r e f a j) (∃(r:Nat),(r:Int)=av.wrap ((f:Int)+1)/\ab zL (ag (λ(q:Sx.Quote) ↦ decide (j.i.p.dm j.i.inst q.dm=0)) (ae r (kZ j.i (zF j.s))))=ab zL (ag (λ(q:Sx.Quote) ↦ decide (j.i.p.dm j.i.inst q.dm=0)) (ae f (kZ j.i (zF j.s))))/\zFs d r e f a j))) (dx (ab zL (xR j.i (zF j.s))=ab zL (ag (λ(q:Sx.Quote) ↦ decide (j.i.p.dm j.i.inst q.dm=0)) (ae f (kZ j.i (zF j.s))))/\True))))
def zFz (a:Nat->Prop) (b:Nat) (c:Nat->Nat) (d:Nat):Prop:=a b/\c b<c d/\dl (ao (Sx.V.agg [V.d (dI 0),V.d (dI 0),V.d (dI 0),V.d (dI 0),V.d (dI 0),V.d (dI 0)]).cl 271)
def yH (a:Nat) (b:Ab):=(z6 (ae (max a 1) b.l) b.s)
def u9 (a:Ab):=((ab zL a.l).length:Int)
def zLt (a:Ab):Prop:=((0:Int)<=(0:Int)/\0<(u9 a))/\∃(b:Int),∃(c:Int),∃(d:Int),∃(e:Int),∃(f:Int),∃(g:Int),zD (ab zL a.l) (bv 0) 0 6=ba [dI b,dI c,dI d,dI e,dI f,dI g]/\∃(h:Nat),(h:Int)=0/\(yH h a).fst.dm=b/\(yH h a).fst.dr=c/\(yH h a).fst.a.inst=d/\(yH h a).fst.a.side=e/\(yH h a).fst.b.inst=f/\(yH h a).fst.b.side=g/\∃(j:Nat->Prop),∃(k:Nat->Nat),j h/\∀(l:Nat),j l->dp (decide ((l:Int)<(u9 a))) ((0<=(l:Int)/\(l:Int)<(u9 a))/\∃(m:Int),∃(n:Int),∃(p:Int),∃(q:Int),∃(r:Int),∃(s:Int),zD (ab zL a.l) (l:Int).toNat 0 6=ba [dI m,dI n,dI p,dI q,dI r,dI s]/\∃(t:Et),t.side=a.s/\t.x=m/\t.y=(yH l a).fst.dm/\True/\ff (dp (jl t.side t.x t.y) (∃(v:Nat),(v:Int)=av.wrap ((l:Int)+1)/\(yH v a).fst.dm=m/\(yH v a).fst.dr=n/\(yH v a).fst.a.inst=p/\(yH v a).fst.a.side=q/\(yH v a).fst.b.inst=r/\(yH v a).fst.b.side=s/\zFz j v k l) (∃(v:Nat),(v:Int)=av.wrap ((l:Int)+1)/\(yH v a).fst.dm=(yH l a).fst.dm/\(yH v a).fst.dr=(yH l a).fst.dr/\(yH v a).fst.a.inst=(yH l a).fst.a.inst/\(yH v a).fst.a.side=(yH l a).fst.a.side/\(yH v a).fst.b.inst=(yH l a).fst.b.inst/\(yH v a).fst.b.side=(yH l a).fst.b.side/\zFz j v k l))) (dx ((z6 a.l a.s).fst.dm=(yH l a).fst.dm/\(z6 a.l a.s).fst.dr=(yH l a).fst.dr/\(z6 a.l a.s).fst.a.inst=(yH l a).fst.a.inst/\(z6 a.l a.s).fst.a.side=(yH l a).fst.a.side/\(z6 a.l a.s).fst.b.inst=(yH l a).fst.b.inst/\(z6 a.l a.s).fst.b.side=(yH l a).fst.b.side/\(z6 a.l a.s).snd=ax/\True))
def zGa (a:Ab):Prop:=dx ((z6 a.l a.s).fst.dm=0/\(z6 a.l a.s).fst.dr=0/\(z6 a.l a.s).fst.a.inst=0/\(z6 a.l a.s).fst.a.side=0/\(z6 a.l a.s).fst.b.inst=0/\(z6 a.l a.s).fst.b.side=0/\(z6 a.l a.s).snd=aw/\True)
def yNr (i:Ab):Prop:=
 dp ((u9 i)==0) (zGa i) (dp (i.s !=1) (dp (i.s !=2) (zGa i) (zLt i)) (zLt i))
end Sx
