/- Texts of ours. No condition. -/
import Derived.Test.YtfmobncdogfbmaaGreatRows
import Derived.Test.YtfmobncdogfbmaaGreatR3
set_option linter.all false
open List renaming map->aa,replicate->ab,take->ac,range->ae,filter->af,findIdx?->ag,drop->aj
open Sx.fq renaming kr->ak,cells->am,km->ao,rk->ap,map->aq,own->ar
open Go.IntKind renaming i64->au
open Bool renaming false->av,true->aw
open Exists renaming intro->ax
open And renaming intro->ay
open Option renaming some->az,none->ba
open Go.Utf8 renaming decode->bc
open Go renaming Value->be,TypeId->bg
open Go.Value renaming string->bo
open Int renaming toNat->bu
open True renaming intro->Y_
open Cv.dp renaming mk->W_
namespace Sx
open Go Cv Go.Proofs
open Tryz renaming prog->Z_
open Tryz hiding prog
def kp {P:Prop} (h:P:=by(repeat'(first|exact rfl|exact Y_|assumption|apply And.intro|refineλ(_:Unit) (_:True)=>?_|refine Exists.intro () ?_|omega|(dsimp only;omega)))):P:=h
def oM {P:Prop} (h:P:=by omega):P:=h
def Z9 {P:Prop} (h:P:=by (dsimp only;omega)):P:=h
def Z8 {P:Prop} (h:P:=by decide):P:=h
def iP {α0:Sort _} {a0:α0} {α1:Sort _} {a1:α1} {α2:Sort _} {a2:α2} {P:Prop} (h:P):a0=a0/\a1=a1/\a2=a2/\P:=⟨rfl,rfl,rfl,h⟩
def nh {α0:Sort _} {a0:α0} {α1:Sort _} {a1:α1} {α2:Sort _} {a2:α2} {α3:Sort _} {a3:α3} {P:Prop} (h:P):a0=a0/\a1=a1/\a2=a2/\a3=a3/\P:=⟨rfl,rfl,rfl,rfl,h⟩
def tr {α0:Sort _} {a0:α0} {α1:Sort _} {a1:α1} {α2:Sort _} {a2:α2} {α3:Sort _} {a3:α3} {α4:Sort _} {a4:α4} {P:Prop} (h:P):a0=a0/\a1=a1/\a2=a2/\a3=a3/\a4=a4/\P:=⟨rfl,rfl,rfl,rfl,rfl,h⟩
def nu {α0:Sort _} {a0:α0} {α1:Sort _} {a1:α1} {α2:Sort _} {a2:α2} {α3:Sort _} {a3:α3} {α4:Sort _} {a4:α4} {α5:Sort _} {a5:α5} {P:Prop} (h:P):a0=a0/\a1=a1/\a2=a2/\a3=a3/\a4=a4/\a5=a5/\P:=⟨rfl,rfl,rfl,rfl,rfl,rfl,h⟩
def oO {α0:Sort _} {a0:α0} {α1:Sort _} {a1:α1} {α2:Sort _} {a2:α2} {α3:Sort _} {a3:α3} {α4:Sort _} {a4:α4} {α5:Sort _} {a5:α5} {α6:Sort _} {a6:α6} {P:Prop} (h:P):a0=a0/\a1=a1/\a2=a2/\a3=a3/\a4=a4/\a5=a5/\a6=a6/\P:=⟨rfl,rfl,rfl,rfl,rfl,rfl,rfl,h⟩
def iB {α0:Sort _} {a0:α0} {α1:Sort _} {a1:α1} {α2:Sort _} {a2:α2} {α3:Sort _} {a3:α3} {α4:Sort _} {a4:α4} {α5:Sort _} {a5:α5} {α6:Sort _} {a6:α6} {α7:Sort _} {a7:α7} {P:Prop} (h:P):a0=a0/\a1=a1/\a2=a2/\a3=a3/\a4=a4/\a5=a5/\a6=a6/\a7=a7/\P:=⟨rfl,rfl,rfl,rfl,rfl,rfl,rfl,rfl,h⟩
def gj {P:Prop} (h:P:=by(repeat'(first|exact Y_|exact rfl|apply And.intro))):P:=h
def mixed:Z_.follows .mixedOrders=aw:=by kernel_rfl
def gy {P:Program} {f:FuncId} {fn:Func} {C:gh} {G:List (Nat×gh)} {V:C.ι->Prop} (hm:P.follows .mixedOrders=aw) (hG:zq P G) (d:Nat) (J:C.ι->List (Nat×gu)) (an:C.ι->List gu) (op:List Nat) (hf:P.funcs[f]? =az fn) (h:∀i,C.dp i->V i) (hb:fn.body=az (fn.body.getD .skip):=by kernel_rfl) (BJ:gJ P f=aw:=by kernel_rfl) (oZ:xx fn.ntmps (fn.body.getD .skip)=aw:=by kernel_rfl) (pn:∀i,Nat.ble (C.pat i).length fn.ntmps=aw:=by intro _;kernel_rfl) (e:∀i,V i=walk P G d (J i) (an i) op fn (fn.body.getD .skip) (C.pat i) (C.pre i) (C.alts i):=by intro _;kernel_rfl):C.ok P f:=qY hm G hG d J an op hf hb BJ oZ pn λi hc=>Eq.mp (e i) (h i hc)
structure Lv where
 dm:Int
 dr:Int
 count:Int
def iq (l:Lv):List D:=[.v (.int .i64 l.dm),.v (.int .i64 l.dr),.v (.int .i64 l.count)]
def Sb (l:Lv):V:= .agg [zB l.dm,zB l.dr,zB l.count]
def sb (l:i4):ByteArray:=⟨l.toArray⟩
@[reducible] def sV (l:i4):V:= .d (.v (.string (sb l)))
def Fx (l:i4):Nat×Nat:=bc (sb l) 0
def N0:Nat->Nat->i4->List (Nat×Nat)
 |0,_,_=>[]
 |k+1,p,l=>match l with
  |[]=>[]
  |_=>(p,(Fx l).1)::N0 k (p+(Fx l).2) (l.drop (Fx l).2)
def fA (s:i4) (p:Nat):List (Nat×Nat):=N0 (s.length-p) p (s.drop p)
def jW (s:i4):List Nat:=(fA s 0).map (·.2)
def G4:gh:=fp i4 (λs=>[sV s]) i6 (λs=>s.length<=1099511627776) (λs=>zB (jW s).length) i6
def y5q (s:i4):List gu:=[{ι:=Nat×Nat,du:=λx=>[(3,zB x.2),(5,.nm 0 0)],rows:=λx=>[.iter (sb s) x.1]}]
def fB (r:Nat):Bool:=(decide (65<=r) && decide (r<=90))||(decide (913<=r) && decide (r<=937) && decide (r≠930))
def vC (s:i4):Bool:=(jW s).all fB && decide (s≠[]) && decide ((jW s).length<=4)
def S8:gh:=fp i4 (λs=>[sV s]) i6 (λs=>s.length<=1099511627776) (λs=>yM (vC s)) i6
def xIp (s:i4):List gu:=[{ι:=Nat,du:=λx=>[(7,.nm 0 0)],rows:=λx=>[.iter (sb s) x]}]
def iE (l:List Int):Q_ D:=l.map λn=>[.v (.int .i64 n)]
@[reducible] def iV (l:List Int):V:=ox 1 (iE l)
structure fj where
 code:i4
 dt:List Int
 tick:Int
 low:Int
 high:Int
 wide:Int
 gn:Int
 top:Int
 least:Int
 part:Int
 settle:List Int
 deriving DecidableEq
@[reducible] def fj.cells (p:fj):List V:=[sV p.code,iV p.dt,zB p.tick,zB p.low,zB p.high,zB p.wide,zB p.gn,zB p.top,zB p.least,zB p.part,iV p.settle]
@[reducible] def nv (p:fj):V:= .agg p.cells
@[reducible] def fj.small (p:fj):Prop:=p.code.length<=1099511627776/\p.dt.length<=1099511627776/\p.settle.length<=1099511627776
def kU (l:List Int) (k:Nat):Bool:=decide (0<=l.getD k 0) && decide (l.getD k 0<=1199) && (decide (k=0)||decide (l.getD (k-1) 0<l.getD k 0))
def xQ (l:List Int):Bool:=(ae l.length).all (kU l) && decide (2<=l.length) && decide (l.length<=6)
def D6:gh:=fp (List Int) (λl=>[iV l]) i6 (λl=>l.length<=1099511627776) (λl=>yM (xQ l)) i6
def yZv:List gu:=[{ι:=Nat,du:=λj=>[(7,zB j)],rows:=λ_=>[]}]
def eI (l:List Int):Int:=l.tail.foldl min (l.headD 0)
def Bc (l:List Int):Int:=l.tail.foldl max (l.headD 0)
def To:gh:=fp (List Int) (λl=>[iV l]) i6 (λl=>0<l.length/\l.length<=1099511627776) (λl=>zB (eI l)) i6
def Tp:gh:=fp (List Int) (λl=>[iV l]) i6 (λl=>0<l.length/\l.length<=1099511627776) (λl=>zB (Bc l)) i6
def xKs (l:List Int):List gu:=[{ι:=Nat,du:=λj=>[(3,zB (eI (l.take j))),(4,zB j)],rows:=λ_=>[]}]
def xIz (l:List Int):List gu:=[{ι:=Nat,du:=λj=>[(3,zB (Bc (l.take j))),(4,zB j)],rows:=λ_=>[]}]
set_option maxRecDepth 100000
@[reducible] def dI (n:Int):D:= .v (.int .i64 n)
def bR (a:Nat×Nat) (b:i4) (c:Nat×Nat->Prop) (d:Nat×Nat->Nat):Prop:=∃(e:Nat×Nat),(e.snd:Int)=au.wrap ((a.snd:Int)+1)/\sb b=sb b/\e.fst=a.fst+(bc (sb b) a.fst).snd/\c e/\d e<d a/\True
@[reducible] def ff(R:Prop):Prop:=∀_:Unit,True->R
@[reducible] def dx(R:Prop):Prop:=∃_:Unit,R
def ySf (s:i4):Prop:=
 ∃(a:Nat×Nat),(a.snd:Int)=0/\sb s=sb s/\a.fst=0/\∃(b:Nat×Nat->Prop),∃(c:Nat×Nat->Nat),b a/\∀(d:Nat×Nat),b d->dp (d.fst.blt (sb s).size) (bR d s b c) (dx (((jW s).length:Int)=(d.snd:Int)/\True))
def VW (a:i4) (b:Nat) (c:Nat->Prop) (d:Nat->Nat):Prop:=∃(e:Nat),sb a=sb a/\e=b+(bc (sb a) b).snd/\c e/\d e<d b/\True
def cM (a:i4) (b:Nat):=((bc (sb a) b).fst:Int)
def xEk (s:i4):Prop:=
 ∃(a:Nat),sb s=sb s/\a=0/\∃(b:Nat->Prop),∃(c:Nat->Nat),b a/\∀(d:Nat),b d->dp (d.blt (sb s).size) (dp (decide ((cM s d)>=65)) (dp (decide ((cM s d)<=90)) (VW s d b c) (dp (decide ((cM s d)>=913)) (dp (decide ((cM s d)<=937)) (dp (!(cM s d) !=930) (dx (vC s=av/\True)) (VW s d b c)) (dx (vC s=av/\True))) (dx (vC s=av/\True)))) (dp (decide ((cM s d)>=913)) (dp (decide ((cM s d)<=937)) (dp (!(cM s d) !=930) (dx (vC s=av/\True)) (VW s d b c)) (dx (vC s=av/\True))) (dx (vC s=av/\True)))) (dp (!(sb s).toList==(ByteArray.mk #[]).toList) (∃(e:i4),sb e=sb s/\e.length<=1099511627776/\ff (dx (vC s=decide (((jW e).length:Int)<=4)/\True))) (dx (vC s=av/\True)))
@[reducible] def QM (a b:Nat)(c:Nat->Prop)(d:Nat->Nat)(R:Prop):Prop:=(a:Int)=au.wrap ((b:Int)+1)/\c a/\d a<d b/\R
def kL (a:Nat) (b:Nat) (c:Nat->Prop) (d:Nat->Nat):Prop:=QM a b c d (True)
def wS (a:Nat) (b:Nat->Prop) (c:Nat->Nat):Prop:=∃(d:Nat),kL d a b c
def yIj (l:List Int):Prop:=
 ∃(a:Nat),(a:Int)=0/\∃(b:Nat->Prop),∃(c:Nat->Nat),b a/\∀(d:Nat),b d->dp (decide ((d:Int)<((iE l).length:Int))) ((0<=(d:Int)/\(d:Int)<((iE l).length:Int))/\∃(e:Int),zC (iE l) (d:Int).toNat 0 1=az [dI e]/\dp (decide (e<0)) (dx (xQ l=av/\True)) (dp (decide (e>1199)) (dx (xQ l=av/\True)) (dp (decide ((d:Int)>0)) ((0<=au.wrap ((d:Int)-1)/\au.wrap ((d:Int)-1)<((iE l).length:Int))/\∃(f:Int),zC (iE l) (au.wrap ((d:Int)-1)).toNat 0 1=az [dI f]/\dp (decide (f>=e)) (dx (xQ l=av/\True)) (wS d b c)) (wS d b c)))) (dp (decide (((iE l).length:Int)>=2)) (dx (xQ l=decide (((iE l).length:Int)<=6)/\True)) (dx (xQ l=av/\True)))
def xEj (l:List Int):Prop:=
 dp (decide (((iE l).length:Int)<1)) False (((0:Int)<=(0:Int)/\0<((iE l).length:Int))/\∃(a:Int),zC (iE l) (bu 0) 0 1=az [dI a]/\∃(b:Nat),eI (ac b l)=a/\(b:Int)=1/\∃(c:Nat->Prop),∃(d:Nat->Nat),c b/\∀(e:Nat),c e->dp (decide ((e:Int)<((iE l).length:Int))) ((0<=(e:Int)/\(e:Int)<((iE l).length:Int))/\∃(f:Int),zC (iE l) (e:Int).toNat 0 1=az [dI f]/\∃(g:Nat),eI (ac g l)=min (eI (ac e l)) f/\kL g e c d) (dx (eI l=eI (ac e l)/\True)))
def xGz (l:List Int):Prop:=
 dp (decide (((iE l).length:Int)<1)) False (((0:Int)<=(0:Int)/\0<((iE l).length:Int))/\∃(a:Int),zC (iE l) (bu 0) 0 1=az [dI a]/\∃(b:Nat),Bc (ac b l)=a/\(b:Int)=1/\∃(c:Nat->Prop),∃(d:Nat->Nat),c b/\∀(e:Nat),c e->dp (decide ((e:Int)<((iE l).length:Int))) ((0<=(e:Int)/\(e:Int)<((iE l).length:Int))/\∃(f:Int),zC (iE l) (e:Int).toNat 0 1=az [dI f]/\∃(g:Nat),(Bc (ac g l)=if f>Bc (ac e l)then f else Bc (ac e l))/\kL g e c d) (dx (Bc l=Bc (ac e l)/\True)))
@[simp] theorem U0 (s:i4):(sb s).size=s.length:=by simp[sb,ByteArray.size]
def sZ (s:i4):(sb s).toList=s:=by rw[ByteArray.toList_eq];rfl
def y9r (s:i4) (p k:Nat):(sb s).get! (p+k)=(sb (s.drop p)).get! (0+k):=by
 simp only[sb,ByteArray.get!,nt];simp only[List.getElem!_toArray,List.getElem!_eq_getElem?_getD,BA]
def zOv (s:i4) (p:Nat):bc (sb s) p=Fx (s.drop p):=by
 have h (k:Nat):(decide (p+k<(sb s).size))=decide (0+k<(sb (s.drop p)).size):=by
  simp only[U0,pj];by_cases h:p+k<s.length
  ·rw[jt h,jt X_]
  ·rw[ju h,ju X_]
 unfold Fx bc;simp only[y9r s p,h]
def aT (s:i4) {p:Nat} (h:p<s.length):1<=(bc (sb s) p).2/\p+(bc (sb s) p).2<=s.length:=by
 unfold bc;simp only[U0,lu,ua];split
 ·exact⟨by simp,by simp;omega⟩
 split
 ·rename_i h1;split
  ·exact⟨by simp,by simp;omega⟩
  ·exact⟨by simp,by simp;omega⟩
 split
 ·rename_i h1;split
  ·exact⟨by simp,by simp;omega⟩
  ·exact⟨by simp,by simp;omega⟩
 split
 ·rename_i h1;split
  ·exact⟨by simp,by simp;omega⟩
  ·exact⟨by simp,by simp;omega⟩
 ·exact⟨by simp,by simp;omega⟩
def y9m {l:i4} (h:l≠[]):1<=(Fx l).2/\(Fx l).2<=l.length:=by
 have:=aT l (p:=0) (by cases l<;>simp_all);rw[Fx];omega
def lB:∀(k:Nat) (p:Nat) (l:i4),l.length<=k->N0 k p l=N0 l.length p l
 |0,p,l,h=>by
  have:l=[]:=ye oM;subst this;rfl
 |k+1,p,[],h=>rfl
 |k+1,p,b::l,h=>by
  have hw:=y9m (l:=b::l) (by simp);have hl:((b::l).drop (Fx (b::l)).2).length<=l.length:=by rw[pj,iG];omega
  rw[iG];simp only[N0];rw[lB k _ _ (by rw[iG]at h;omega),lB l.length _ _ hl]
def uY {s:i4} {p:Nat} (h:s.length<=p):fA s p=[]:=by
 rw[fA,show s.length-p=0 by omega];rfl
def wM {s:i4} {p:Nat} (h:p<s.length):fA s p=(p,(bc (sb s) p).1)::fA s (p+(bc (sb s) p).2):=by
 obtain⟨k,hk⟩:∃k,s.length-p=k+1:=⟨s.length-p-1,oM⟩
 have hw:=aT s h;obtain⟨b,l,hb⟩:∃b l,s.drop p=b::l:=by
  cases hd:s.drop p with
  |nil=>rw[List.drop_eq_nil_iff]at hd;omega
  |cons b l=>exact⟨b,l,rfl⟩
 have hlen:(b::l).length=s.length-p:=by rw[<- hb,pj]
 rw[fA,hk,hb,zOv,hb,fA];rw[zOv,hb]at hw;simp only[N0];have e:(b::l).drop (Fx (b::l)).2=s.drop (p+(Fx (b::l)).2):=by rw[<- hb,Ds]
 rw[e,lB k _ _ (by rw[pj];omega),pj]
def zVn (s:i4):∀(k p:Nat),s.length-p<=k->(fA s p).length<=s.length-p
 |0,p,h=>by rw[uY (by omega)];simp
 |k+1,p,h=>by
  by_cases hp:p<s.length
  ·have hw:=aT s hp;rw[wM hp,iG];have:=zVn s k (p+(bc (sb s) p).2) oM;omega
  ·rw[uY X_];simp
def ZX (s:i4):(jW s).length<=s.length:=by
 rw[jW,ib];have:=zVn s s.length 0 oM;omega
def Xz {a b:Nat} (h:Nat.blt a b=av):b<=a:=by
 rcases vh a b with h1|h1
 ·rw[show Nat.blt a b=aw by rw[yx];exact h1]at h;cases h
 ·exact h1
def yQb:(ByteArray.mk #[]).toList=[]:=sZ []
def xBu (s:i4) (h:G4.dp s):ySf s:=by
 have h:s.length<=1099511627776:=h;have hr:=ZX s;unfold ySf dx bR;refine⟨(0,0),rfl,rfl,rfl,λx=>x.1<=s.length/\x.2+(fA s x.1).length=(jW s).length,λx=>s.length-x.1,⟨oM,by rw[jW,ib];simp⟩,?_⟩;rintro⟨p,n⟩ ⟨h1,h2⟩;dsimp only at h1 h2 ⊢;refine W_ (λhp=> ?_) (λhp=> ?_)
 ·have hp:p<s.length:=by simpa[yx]using hp
  have hw:=aT s hp;rw[wM hp,iG]at h2;refine⟨(p+(bc (sb s) p).2,n+1),?_,rfl,rfl,⟨hw.2,by(first|omega|(dsimp only;omega))⟩,by(first|omega|(dsimp only;omega)),Y_⟩;rw[iw X_];rfl
 ·have hp:s.length<=p:=by have:=Xz hp;simpa using this
  rw[uY hp]at h2;exact⟨(),by rw[<- h2];rfl,Y_⟩
def yUn:G4.ok Z_ 200:=gy mixed fk 0 i6 (λs=>y5q s) [] func200 xBu
def xJr (s:i4) (h:S8.dp s):xEk s:=by
 have h:s.length<=1099511627776:=h;unfold xEk ff dx cM VW;refine⟨0,rfl,rfl,λp=>p<=s.length/\(jW s).all fB=(fA s p).all λx=>fB x.2,λp=>s.length-p,⟨oM,by rw[jW,List.all_map];rfl⟩,?_⟩;rintro p ⟨h1,h2⟩;refine W_ (λhp=> ?_) (λhp=> ?_)
 ·have hp:p<s.length:=by simpa[yx]using hp
  have hw:=aT s hp;rw[wM hp,List.all_cons]at h2;generalize hc:(bc (sb s) p).1=c at h2 ⊢;generalize Yb:(bc (sb s) p).2=w at h2 hw ⊢;dsimp only at h2;have bad:fB c=av->∃(o:Unit),vC s=av/\True:=λe=>⟨(),by rw[vC,h2,e];rfl,Y_⟩
  have wm:fB c=aw->∃i':Nat,sb s=sb s/\i'=p+w/\(i'<=s.length/\(jW s).all fB=(fA s i').all λx=>fB x.2)/\s.length-i'<s.length-p/\True:=λe=>⟨p+w,rfl,rfl,⟨hw.2,by rw[h2,e];rfl⟩,oM,Y_⟩
  refine zH (λc1=>zH (λc2=> ?_) (λc2=>zH (λc3=>zH (λc4=>W_ (λc5=> ?_) (λc5=> ?_)) (λc4=> ?_)) (λc3=> ?_))) (λc1=>zH (λc3=>zH (λc4=>W_ (λc5=> ?_) (λc5=> ?_)) (λc4=> ?_)) (λc3=> ?_))
  all_goals first|(refine wm ?_;simp[fB]at*;omega)|(refine bad ?_;simp[fB]at*;omega)
 ·have hp:s.length<=p:=by have:=Xz hp;simpa using this
  rw[uY hp]at h2;have h2:(jW s).all fB=aw:=h2;refine W_ (λe=>⟨s,rfl,h,λ_ _=>⟨(),?_,Y_⟩⟩) (λe=>⟨(),?_,Y_⟩)
  ·rw[sZ,yQb]at e;have:s≠[]:=i9 e
   rw[vC,h2,jt this];simp only[AA];congr 1;simp only[eq_iff_iff];omega
  ·have:s=[]:=by
    rw[sZ,yQb]at e;simpa using e
   rw[vC,this];rfl
def y8k:S8.ok Z_ 124:=gy mixed (dw yUn fk) 0 i6 (λs=>xIp s) [] func124 xJr
@[simp] theorem y9 (l:List Int):(iE l).length=l.length:=by simp[iE]
def rq {l:List Int} {k:Nat} {n:Int} (h:l[k]? =az n):zC (iE l) k 0 1=az [D.v (.int .i64 n)]:=by
 simp[zC,iE,h];rfl
def zZ {α:Type} {l:List α} {i:Nat} (h:i<l.length):∃x,l[i]? =az x:=⟨l[i],vl h⟩
def zWo {n k:Nat} {f:Nat->Bool} (hk:k<n) (h:f k=av):(ae n).all f=av:=by
 cases hh:(ae n).all f
 ·rfl
 ·rw[Ej]at hh;rw[hh k (i9 hk)]at h;cases h
def z7x {n:Nat} {f:Nat->Bool} (h:∀k<n,f k=aw):(ae n).all f=aw:=by
 rw[Ej];intro k hk;exact h k (i9 hk)
def yZh (l:List Int) (h:D6.dp l):yIj l:=by
 have h:l.length<=1099511627776:=h;unfold yIj dx wS kL QM dI;simp only[y9];refine⟨0,rfl,λj=>j<=l.length/\∀k<j,kU l k=aw,λj=>l.length-j,⟨oM,λk hk=>X_⟩,?_⟩;rintro j ⟨h1,h2⟩;have bad:j<l.length->kU l j=av->∃(o:Unit),xQ l=av/\True:=λhj e=>⟨(),by rw[xQ,zWo hj e];rfl,Y_⟩
 have wm:j<l.length->kU l j=aw->∃i':Nat,(i':Int)=au.wrap ((j:Int)+1)/\(i'<=l.length/\∀k<i',kU l k=aw)/\l.length-i'<l.length-j/\True:=λhj e=>⟨j+1,by rw[iw X_];rfl,⟨oM,λk hk=>by
  rcases vh k j with qc|qc
  ·exact h2 k qc
  ·obtain rfl:k=j:=X_
   exact e⟩,oM,Y_⟩
 refine zH (λhj=> ?_) (λhj=> ?_)
 ·have hj:j<l.length:=X_
  obtain⟨n,hn⟩:=zZ hj;have hg:l.getD j 0=n:=by simp[hn]
  refine⟨⟨oM,oM⟩,n,rq hn,zH (λc1=>bad hj (by simp[kU,hn];omega)) (λc1=>zH (λc2=>bad hj (by simp[kU,hn];omega)) (λc2=>zH (λc3=> ?_) (λc3=>wm hj ?_)))⟩
  ·have e:au.wrap ((j:Int)-1)=((j-1:Nat):Int):=by rw[iw X_];omega
   obtain⟨m,hm⟩:=zZ (l:=l) (i:=j-1) oM;rw[e];refine⟨⟨oM,oM⟩,m,rq hm,zH (λc4=>bad hj ?_) (λc4=>wm hj ?_)⟩
   ·simp[kU,hn,hm];omega
   ·simp[kU,hn,hm];omega
  ·simp[kU,hn];omega
 ·have e:(ae l.length).all (kU l)=aw:=z7x λk hk=>h2 k oM
  refine zH (λc=>⟨(),?_,Y_⟩) (λc=>⟨(),?_,Y_⟩)
  ·rw[xQ,e,jt (show 2<=l.length by omega)];simp;omega
  ·rw[xQ,ju (show ¬2<=l.length by omega)];simp
def yJl:D6.ok Z_ 125:=gy mixed fk 0 i6 (λ_=>yZv) [] func125 yZh
def zLf {f:Int->Int->Int} {l:List Int} {j:Nat} {n:Int} (h:l[j+1]? =az n):(l.take (j+2)).tail.foldl f ((l.take (j+2)).headD 0)=f ((l.take (j+1)).tail.foldl f ((l.take (j+1)).headD 0)) n:=by
 cases l with
 |nil=>simp at h
 |cons a l=>
  simp only[Bk]at h;simp only[vj,List.tail_cons,List.headD_cons];rw[qf,h,IG];rfl
def z5t {l:List Int} {n:Int} (h:l[0]? =az n) (f:Int->Int->Int):(l.take 1).tail.foldl f ((l.take 1).headD 0)=n:=by
 cases l with
 |nil=>simp at h
 |cons a l=>simpa using h
def xJh (l:List Int) (h:To.dp l):xEj l:=by
 obtain⟨h0,h⟩:0<l.length/\l.length<=1099511627776:=h;unfold xEj dx kL QM dI;simp only[y9];obtain⟨n,hn⟩:=zZ h0;refine zH (λc=>X_) (λc=>⟨⟨oM,oM⟩,n,rq hn,1,z5t hn min,rfl,λj=>1<=j/\j<=l.length,λj=>l.length-j,⟨oM,oM⟩,?_⟩);rintro j ⟨h1,h2⟩;refine zH (λhj=> ?_) (λhj=>⟨(),?_,Y_⟩)
 ·obtain⟨m,hm⟩:=zZ (l:=l) (i:=j) oM;refine⟨⟨oM,oM⟩,m,rq hm,j+1,?_,?_,⟨oM,oM⟩,by(first|omega|(dsimp only;omega)),Y_⟩
  ·obtain⟨k,rfl⟩:∃k,j=k+1:=⟨j-1,oM⟩
   first
    |(rw[eI,zLf hm,<- eI];done)
    |(rw[eI,zLf hm,<- eI];generalize eI (l.take (k+1))=x;split<;>omega)
  ·rw[iw X_];rfl
 ·rw[ng X_]
def y6a:To.ok Z_ 127:=gy mixed fk 0 i6 (λl=>xKs l) [] func127 xJh
def xIt (l:List Int) (h:Tp.dp l):xGz l:=by
 obtain⟨h0,h⟩:0<l.length/\l.length<=1099511627776:=h;unfold xGz dx kL QM dI;simp only[y9];obtain⟨n,hn⟩:=zZ h0;refine zH (λc=>X_) (λc=>⟨⟨oM,oM⟩,n,rq hn,1,z5t hn max,rfl,λj=>1<=j/\j<=l.length,λj=>l.length-j,⟨oM,oM⟩,?_⟩);rintro j ⟨h1,h2⟩;refine zH (λhj=> ?_) (λhj=>⟨(),?_,Y_⟩)
 ·obtain⟨m,hm⟩:=zZ (l:=l) (i:=j) oM;refine⟨⟨oM,oM⟩,m,rq hm,j+1,?_,?_,⟨oM,oM⟩,by(first|omega|(dsimp only;omega)),Y_⟩
  ·obtain⟨k,rfl⟩:∃k,j=k+1:=⟨j-1,oM⟩
   rw[Bc,zLf hm,<- Bc];generalize Bc (l.take (k+1))=x;split<;>omega
  ·rw[iw X_];rfl
 ·rw[ng X_]
def xCa:Tp.ok Z_ 128:=gy mixed fk 0 i6 (λl=>xIz l) [] func128 xIt
@[reducible] def fj.row (p:fj):fq:= .cells p.cells 25
structure LR where
 p:fj
 n:Int
structure IA where
 p:fj
 l:List Int
def kM (t n:Int):Bool:=n.tmod t !=0
def Tj:gh:=fp LR (λi=>[zB i.n,.nm 0 0]) (λi=>[i.p.row]) (λi=>1<=i.p.tick) (λi=>yM (kM i.p.tick i.n)) (λi=>[i.p.row])
@[reducible] def xGo:V:= .fn 201 [] [.nm 0 0]
def JH (k:Option Nat):Int:=match k with
 |some k=>k
 |none=> -1
def Tv:gh:=fp IA (λi=>[iV i.l,xGo]) (λi=>[i.p.row]) (λi=>1<=i.p.tick/\i.l.length<=1099511627776) (λi=>zB (JH (i.l.findIdx? (kM i.p.tick)))) (λi=>[i.p.row])
def xIj (i:IA):List gu:=[{ι:=Nat,du:=λj=>[(8,zB j)],rows:=λ_=>[]}]
def Ax:gh:=fp IA (λi=>[iV i.l,xGo]) (λi=>[i.p.row]) (λi=>1<=i.p.tick/\i.l.length<=1099511627776) (λi=>yM (i.l.any (kM i.p.tick))) (λi=>[i.p.row])
def kE (p:fj):Bool:=decide (1<=p.tick) && decide (p.tick<=1000) && !kM p.tick p.low && !kM p.tick p.high && !kM p.tick p.wide && !p.settle.any (kM p.tick)
def Gy:gh:=fp fj (λp=>[nv p]) i6 fj.small (λp=>yM (kE p)) i6
def kD (p:fj):Bool:=decide (p.low< -1000000)||decide (p.low>=p.high)||decide (p.high>1000000)||decide (p.wide<0)||decide (p.wide>p.high-p.low)
def xV (p:fj):Bool:=decide (p.settle.length≠p.dt.length)||decide (eI p.settle<p.low)||decide (Bc p.settle>p.high)
def jA (p:fj):Bool:=decide (p.gn<1)||decide (p.gn>3)
def qO (p:fj):Bool:=decide (p.top<0)||decide (p.top>1000000)||decide (p.least<1)||decide (p.least>1000)||decide (p.part<0)||decide (p.part>100)
def fj.check (p:fj):Int:=
 if !vC p.code then 12 else if !xQ p.dt then 1 else if !kE p then 22 else if kD p then 23 else if xV p then 1 else if jA p then 31 else if qO p then 24 else 0
def G6:gh:=fp fj (λp=>[nv p]) i6 fj.small (λp=>zB p.check) i6
def fj.count (p:fj):Nat:=if p.check=0 then p.dt.length+p.dt.length*(p.dt.length-1) / 2 else 0
def D3:gh:=fp fj (λp=>[nv p]) i6 fj.small (λp=>zB p.count) i6
structure aK where
 p:fj
 n:Int
def yP (n:Nat):Nat->Nat
 |0=>n
 |k+1=>yP n k+(n-1-k)
def jO (n inst:Nat):Nat->Nat->Int×Int×Bool
 |0,_=>(0,0,av)
 |k+1,m=>if inst<yP n m+(n-1-m)then(m,m+1+(inst-yP n m:Nat),aw)else jO n inst k (m+1)
def fj.gp (p:fj) (i:Int):Int×Int×Bool:=
 if i<0\/(p.count:Int)<=i then(0,0,av)else if i<p.dt.length then(i,i,av)else jO p.dt.length i.toNat p.dt.length 0
def KX:gh:=fp aK (λi=>[nv i.p,zB i.n]) i6 (λi=>i.p.small) (λi=> .je [zB (i.p.gp i.n).1,zB (i.p.gp i.n).2.1,yM (i.p.gp i.n).2.2]) i6
structure A9 where
 p:fj
 a:Int
 b:Int
def fj.spread (p:fj) (a b:Int):Int×Bool:=
 if p.check≠0\/a<0\/b<=a\/(p.dt.length:Int)<=b then(0,av)else((yP p.dt.length a.toNat:Int)+b-a-1,aw)
def DV:gh:=fp A9 (λi=>[nv i.p,zB i.a,zB i.b]) i6 (λi=>i.p.small) (λi=> .je [zB (i.p.spread i.a i.b).1,yM (i.p.spread i.a i.b).2]) i6
def fj.dm (p:fj) (i n:Int):Int:=
 if p.count=0 then 1 else if i<0\/(p.count:Int)<=i then 20 else if kM p.tick n then 22 else
 if n<(if(p.dt.length:Int)<=i then-p.wide else p.low)\/(if(p.dt.length:Int)<=i then p.wide else p.high)<n then 23 else 0
def GH:gh:=fp A9 (λi=>[nv i.p,zB i.a,zB i.b]) i6 (λi=>i.p.small) (λi=>zB (i.p.dm i.a i.b)) i6
structure I2 where
 x:Int
 y:Int
@[reducible] def gx (n:Int):Prop:= -9223372036854775808<=n/\n<=9223372036854775807
def fC (x y:Int):Int×Bool:=if gx (x+y)then(x+y,aw)else(0,av)
def fL (x y:Int):Int×Bool:=if gx (x-y)then(x-y,aw)else(0,av)
def TY:gh:=fp I2 (λi=>[zB i.x,zB i.y]) i6 (λi=>gx i.x/\gx i.y) (λi=> .je [zB (fC i.x i.y).1,yM (fC i.x i.y).2]) i6
def Ta:gh:=fp I2 (λi=>[zB i.x,zB i.y]) i6 (λi=>gx i.x/\gx i.y) (λi=> .je [zB (fL i.x i.y).1,yM (fL i.x i.y).2]) i6
def xFh (i:aK):List gu:=[{ι:=Nat,du:=λm=>[(8,zB (yP i.p.dt.length m)),(33,zB m)],rows:=λ_=>[]}]
def y1o (i:A9):List gu:=[{ι:=Nat,du:=λm=>[(9,zB (yP i.p.dt.length m)),(33,zB m)],rows:=λ_=>[]}]
@[reducible] def Qz (a:fj)(R:Prop):Prop:=sb a.code=sb a.code/\iE a.dt=iE a.dt/\a.tick=a.tick/\a.low=a.low/\a.high=a.high/\a.wide=a.wide/\a.gn=a.gn/\a.top=a.top/\a.least=a.least/\a.part=a.part/\iE a.settle=iE a.settle/\R
@[reducible] def I4 (a:fj)(R:Prop):Prop:=au=au/\a.tick≠0/\R
def xFy (i:LR):Prop:=I4 i.p (dx (kM i.p.tick i.n=(i.n.tmod i.p.tick !=0)/\Qz i.p (True)))
@[reducible] def Qb (a b:fj)(R:Prop):Prop:=sb a.code=sb b.code/\iE a.dt=iE b.dt/\a.tick=b.tick/\a.low=b.low/\a.high=b.high/\a.wide=b.wide/\a.gn=b.gn/\a.top=b.top/\a.least=b.least/\a.part=b.part/\iE a.settle=iE b.settle/\R
def xHp (i:IA):Prop:=
 ∃(a:Nat),(a:Int)=0/\∃(b:Nat->Prop),∃(c:Nat->Nat),b a/\∀(d:Nat),b d->dp (decide ((d:Int)<((iE i.l).length:Int))) ((0<=(d:Int)/\(d:Int)<((iE i.l).length:Int))/\∃(e:Int),zC (iE i.l) (d:Int).toNat 0 1=az [dI e]/\∃(f:LR),f.n=e/\Qb f.p i.p (1<=f.p.tick/\ff (dp (kM f.p.tick f.n) (dx (JH (ag (kM i.p.tick) i.l)=(d:Int)/\Qb i.p f.p (True))) (∃(h:Nat),QM h d b c (am [V.d (D.v (bo (sb f.p.code))),V.d (D.ro 1 (iE f.p.dt)),V.d (dI f.p.tick),V.d (dI f.p.low),V.d (dI f.p.high),V.d (dI f.p.wide),V.d (dI f.p.gn),V.d (dI f.p.top),V.d (dI f.p.least),V.d (dI f.p.part),V.d (D.ro 1 (iE f.p.settle))] (25:bg)=i.p.row))))) (dx (JH (ag (kM i.p.tick) i.l)=(-1)/\Qz i.p (True)))
def zZg (i:IA):Prop:=
 ∃(a:IA),iE a.l=iE i.l/\Qb a.p i.p ((1<=a.p.tick/\a.l.length<=1099511627776)/\ff (dx (i.l.any (kM i.p.tick)=decide (JH (ag (kM a.p.tick) a.l)>=0)/\Qb i.p a.p (True))))
def yVw (p:fj):Prop:=
 dp (decide (p.tick<1)) (dx (kE p=av/\True)) (dp (decide (p.tick>1000)) (dx (kE p=av/\True)) (∃(a:LR),a.n=p.low/\Qb a.p p (1<=a.p.tick/\ff (dp (!kM a.p.tick a.n) (∃(c:LR),c.n=a.p.high/\Qb c.p a.p (1<=c.p.tick/\ff (dp (!kM c.p.tick c.n) (∃(e:LR),e.n=c.p.wide/\Qb e.p c.p (1<=e.p.tick/\ff (dp (!kM e.p.tick e.n) (∃(g:IA),iE g.l=iE e.p.settle/\Qb g.p e.p ((1<=g.p.tick/\g.l.length<=1099511627776)/\ff (dx (kE p=!g.l.any (kM g.p.tick)/\True)))) (dx (kE p=av/\True))))) (dx (kE p=av/\True))))) (dx (kE p=av/\True))))))
@[reducible] def ph (a:fj)(R:Prop):Prop:=a.code.length<=1099511627776/\a.dt.length<=1099511627776/\R
def zV (a:fj):Prop:=ph a (a.settle.length<=1099511627776)
def vX (a:fj):=((iE a.settle).length:Int)
def xO (a:fj):=((iE a.dt).length:Int)
def ySt (p:fj):Prop:=
 ∃(a:i4),sb a=sb p.code/\a.length<=1099511627776/\ff (dp (!vC a) (dx (p.check=12/\True)) (∃(c:List Int),iE c=iE p.dt/\c.length<=1099511627776/\ff (dp (!xQ c) (dx (p.check=1/\True)) (∃(e:fj),Qb e p ((zV e)/\ff (dp (!kE e) (dx (p.check=22/\True)) (dp (decide (p.low<(-1000000))) (dx (p.check=23/\True)) (dp (decide (p.low>=p.high)) (dx (p.check=23/\True)) (dp (decide (p.high>1000000)) (dx (p.check=23/\True)) (dp (decide (p.wide<0)) (dx (p.check=23/\True)) (dp (decide (p.wide>au.wrap (p.high-p.low))) (dx (p.check=23/\True)) (dp ((vX p) !=(xO p)) (dx (p.check=1/\True)) (∃(g:List Int),iE g=iE p.settle/\(0<g.length/\g.length<=1099511627776)/\ff (dk p.low/\dp (decide (eI g<p.low)) (dx (p.check=1/\True)) (∃(j:List Int),iE j=iE p.settle/\(0<j.length/\j.length<=1099511627776)/\ff (dk p.high/\dp (decide (Bc j>p.high)) (dx (p.check=1/\True)) (dp (decide (p.gn<1)) (dx (p.check=31/\True)) (dp (decide (p.gn>3)) (dx (p.check=31/\True)) (dp (decide (p.top<0)) (dx (p.check=24/\True)) (dp (decide (p.top>1000000)) (dx (p.check=24/\True)) (dp (decide (p.least<1)) (dx (p.check=24/\True)) (dp (decide (p.least>1000)) (dx (p.check=24/\True)) (dp (decide (p.part<0)) (dx (p.check=24/\True)) (dp (decide (p.part>100)) (dx (p.check=24/\True)) (dx (p.check=0/\True))))))))))))))))))))))))))
def pZ (a:fj) (b:fj):Prop:=Qb a b ((zV a)/\ff (dp (a.check !=0) (dx ((b.count:Int)=0/\True)) (au=au/\(2:Int)≠(0:Int)/\dx ((b.count:Int)=au.wrap ((xO b)+au.wrap ((au.wrap ((xO b)*au.wrap ((xO b)-1))).tdiv 2))/\True))))
def yIl (p:fj):Prop:=
 ∃(a:fj),pZ a p
@[reducible] def Bp (a:fj)(R:Prop):Prop:=am [V.d (D.v (bo (sb a.code))),V.own 0,V.d (dI a.tick),V.d (dI a.low),V.d (dI a.high),V.d (dI a.wide),V.d (dI a.gn),V.d (dI a.top),V.d (dI a.least),V.d (dI a.part),V.own 1] 25=am [V.d (D.v (bo (sb a.code))),V.own 0,V.d (dI a.tick),V.d (dI a.low),V.d (dI a.high),V.d (dI a.wide),V.d (dI a.gn),V.d (dI a.top),V.d (dI a.least),V.d (dI a.part),V.own 1] 25/\ak 1 (iE a.settle)=ak 1 (iE a.settle)/\R
def rG (a:aK):Prop:=Bp a.p (dk (ak 1 (iE a.p.dt)))
def WH (a:Nat->Prop) (b:Nat) (c:Nat->Nat) (d:Nat) (e:aK):Prop:=a b/\c b<c d/\rG e
def gI (a:aK) (b:Nat):=((yP a.p.dt.length b):Int)
def uJ (a:aK):=((iE a.p.dt).length:Int)
def Z5 (a:aK) (b:Nat):=((gI a b)+au.wrap (au.wrap ((uJ a)-1)-(b:Int)))
def f7 (a:aK):Prop:=dx ((a.p.gp a.n).fst=0/\(a.p.gp a.n).snd.fst=0/\(a.p.gp a.n).snd.snd=av/\True)
def Wv (a:aK):Prop:=dx ((a.p.gp a.n).fst=a.n/\(a.p.gp a.n).snd.fst=a.n/\(a.p.gp a.n).snd.snd=av/\True)
def y2k (i:aK):Prop:=
 ∃(a:fj),Qb a i.p ((zV a)/\ff (dp (decide (i.n<0)) (f7 i) (dp (decide (i.n>=(a.count:Int))) (f7 i) (dp (decide (i.n<(uJ i))) (Wv i) (∃(c:Nat),(gI i c)=(uJ i)/\(c:Int)=0/\∃(d:Nat->Prop),∃(e:Nat->Nat),d c/\∀(f:Nat),d f->dp (decide ((f:Int)<(uJ i))) (dp (decide (i.n<au.wrap (Z5 i f))) (dx ((i.p.gp i.n).fst=(f:Int)/\(i.p.gp i.n).snd.fst=au.wrap (au.wrap (au.wrap ((f:Int)+1)+i.n)-(gI i f))/\(i.p.gp i.n).snd.snd=aw/\True)) (∃(g:Nat),(gI i g)=au.wrap (Z5 i f)/\(g:Int)=au.wrap ((f:Int)+1)/\WH d g e f i)) (f7 i))))))
def aL (a:A9):Prop:=dx ((a.p.spread a.a a.b).fst=0/\(a.p.spread a.a a.b).snd=av/\True)
def yFg (i:A9):Prop:=
 ∃(a:fj),Qb a i.p ((zV a)/\ff (dp (a.check !=0) (aL i) (dp (decide (i.a<0)) (aL i) (dp (decide (i.a>=i.b)) (aL i) (dp (decide (i.b>=((iE i.p.dt).length:Int))) (aL i) (∃(c:Nat),((yP i.p.dt.length c):Int)=((iE i.p.dt).length:Int)/\(c:Int)=0/\∃(d:Nat->Prop),∃(e:Nat->Nat),d c/\∀(f:Nat),d f->dp (decide ((f:Int)<i.a)) (∃(g:Nat),((yP i.p.dt.length g):Int)=au.wrap (((yP i.p.dt.length f):Int)+au.wrap (au.wrap (((iE i.p.dt).length:Int)-1)-(f:Int)))/\QM g f d e (Bp i.p (dk (ak 1 (iE i.p.dt))))) (dx ((i.p.spread i.a i.b).fst=au.wrap (au.wrap (au.wrap (((yP i.p.dt.length f):Int)+i.b)-i.a)-1)/\(i.p.spread i.a i.b).snd=aw/\True))))))))
def yVd (i:A9):Prop:=
 ∃(a:fj),Qb a i.p ((zV a)/\ff (dp ((a.count:Int)==0) (dx (i.p.dm i.a i.b=1/\True)) (dp (decide (i.a<0)) (dx (i.p.dm i.a i.b=20/\True)) (dp (decide (i.a>=(a.count:Int))) (dx (i.p.dm i.a i.b=20/\True)) (I4 i.p (dp (i.b.tmod i.p.tick !=0) (dx (i.p.dm i.a i.b=22/\True)) (dp (decide (i.a>=((iE i.p.dt).length:Int))) (dp (decide (i.b<au.wrap (0-i.p.wide))) (dx (i.p.dm i.a i.b=23/\True)) (dp (decide (i.b>i.p.wide)) (dx (i.p.dm i.a i.b=23/\True)) (dx (i.p.dm i.a i.b=0/\True)))) (dp (decide (i.b<i.p.low)) (dx (i.p.dm i.a i.b=23/\True)) (dp (decide (i.b>i.p.high)) (dx (i.p.dm i.a i.b=23/\True)) (dx (i.p.dm i.a i.b=0/\True)))))))))))
def Zq (a:I2):Prop:=dx ((fC a.x a.y).fst=au.wrap (a.x+a.y)/\(fC a.x a.y).snd=aw/\True)
def xDn (i:I2):Prop:=
 dp (decide (i.x<0)==decide (i.y<0)) (dp (!decide (au.wrap (i.x+i.y)<0)==decide (i.x<0)) (dx ((fC i.x i.y).fst=0/\(fC i.x i.y).snd=av/\True)) (Zq i)) (Zq i)
def ZE (a:I2):Prop:=dx ((fL a.x a.y).fst=au.wrap (a.x-a.y)/\(fL a.x a.y).snd=aw/\True)
def xDc (i:I2):Prop:=
 dp (!decide (i.x<0)==decide (i.y<0)) (dp (!decide (au.wrap (i.x-i.y)<0)==decide (i.x<0)) (dx ((fL i.x i.y).fst=0/\(fL i.x i.y).snd=av/\True)) (ZE i)) (ZE i)
def xIb (i:LR) (h:Tj.dp i):xFy i:=by
 have h:1<=i.p.tick:=h;unfold xFy I4 dx Qz;exact kp
def yVv:Tj.ok Z_ 201:=gy mixed fk 0 i6 i6 [] func201 xIb
def zLj {α:Type} {f:α->Bool} {l:List α} (h:∀(k:Nat) (x:α),l[k]? =az x->f x=av):l.findIdx? f=ba:=by
 rw[OH];intro x hx;obtain⟨k,hk⟩:=Mi hx;exact h k x hk
def zLw {α:Type} {f:α->Bool} {l:List α} {j:Nat} {x:α} (h1:l[j]? =az x) (h2:f x=aw) (h:∀k<j,∀x:α,l[k]? =az x->f x=av):l.findIdx? f=az j:=by
 rw[Mj];obtain⟨hj,rfl⟩:=jk.1 h1;exact⟨hj,h2,λk hk=>by rw[h k hk _ (vl X_)];simp⟩
def xIh (i:IA) (h:Tv.dp i):xHp i:=by
 obtain⟨h1,h2⟩:1<=i.p.tick/\i.l.length<=1099511627776:=h;unfold xHp QM Qb ff dx Qz dI;simp only[y9];refine⟨0,rfl,λj=>j<=i.l.length/\∀k<j,∀x,i.l[k]? =az x->kM i.p.tick x=av,λj=>i.l.length-j,⟨oM,λk hk=>X_⟩,?_⟩;rintro j ⟨h3,h4⟩;refine zH (λhj=> ?_) (λhj=> ?_)
 ·obtain⟨n,hn⟩:=zZ (l:=i.l) (i:=j) oM;refine⟨⟨oM,oM⟩,n,rq hn,⟨i.p,n⟩,?_⟩
  (repeat'(first|exact rfl|exact Y_|assumption|apply ay|refineλ(_:Unit) (_:True)=>?_|refine ax () ?_|omega|(dsimp only;omega)))
  refine W_ (λe=> ?_) (λe=> ?_)
  ·rw[zLw hn e h4];exact kp
  ·refine⟨j+1,by rw[iw X_];rfl,⟨oM,λk hk x hx=> ?_⟩,by(first|omega|(dsimp only;omega)),rfl⟩;rcases vh k j with qc|qc
   ·exact h4 k qc x hx
   ·obtain rfl:k=j:=X_
    rw[hn]at hx;cases hx;exact e
 ·rw[zLj λk x hx=>h4 k (by have:=(jk.1 hx).1;omega) x hx];exact kp
def xAz:Tv.ok Z_ 247:=gy mixed (dw yVv fk) 0 i6 (λi=>xIj i) [] func247 xIh
def yJu {l:List Int} {f:Int->Bool}:l.any f=decide (JH (l.findIdx? f)>=0):=by
 cases hf:l.findIdx? f with
 |none=>
  rw[OH]at hf;have:l.any f=av:=by rw[Mf];intro x hx;simp[hf x hx]
  rw[this];rfl
 |some k=>
  rw[Mj]at hf;obtain⟨hk,h1,_⟩:=hf;have:l.any f=aw:=by rw[Oy];exact⟨_,List.getElem_mem hk,h1⟩
  rw[this,JH,jt X_]
def yMe (i:IA) (h:Ax.dp i):zZg i:=by
 unfold zZg Qb ff dx;have h':1<=i.p.tick/\i.l.length<=1099511627776:=h;refine⟨i,?_⟩
 (repeat'(first|exact rfl|exact Y_|assumption|apply ay|refineλ(_:Unit) (_:True)=>?_|refine ax () ?_|omega|(dsimp only;omega)))
 exact yJu
def z6p:Ax.ok Z_ 202:=gy mixed (dw xAz fk) 0 i6 i6 [] func202 yMe
def y7g (p:fj) (h:Gy.dp p):yVw p:=by
 obtain⟨h1,h2,h3⟩:p.small:=h;unfold yVw Qb ff dx;refine zH (λc1=>⟨(),by rw[kE,ju X_];rfl,Y_⟩) (λc1=>zH (λc2=>⟨(),by rw[kE,ju (show ¬p.tick<=1000 by omega)];simp,Y_⟩) (λc2=>⟨⟨p,p.low⟩,?_⟩));have e1:kE p=(!kM p.tick p.low && !kM p.tick p.high && !kM p.tick p.wide && !p.settle.any (kM p.tick)):=by
  rw[kE,jt X_,jt X_];rfl
 rw[e1]
 (repeat'(first|exact rfl|exact Y_|assumption|apply ay|refineλ(_:Unit) (_:True)=>?_|refine ax () ?_|omega|(dsimp only;omega)))
 refine W_ (λc3=>⟨⟨p,p.high⟩,?_⟩) (λc3=>⟨(),?_,Y_⟩)
 ·dsimp only at c3
  (repeat'(first|exact rfl|exact Y_|assumption|apply ay|refineλ(_:Unit) (_:True)=>?_|refine ax () ?_|omega|(dsimp only;omega)))
  refine W_ (λc4=>⟨⟨p,p.wide⟩,?_⟩) (λc4=>⟨(),?_,Y_⟩)
  ·dsimp only at c4
   (repeat'(first|exact rfl|exact Y_|assumption|apply ay|refineλ(_:Unit) (_:True)=>?_|refine ax () ?_|omega|(dsimp only;omega)))
   refine W_ (λc5=>⟨⟨p,p.settle⟩,?_⟩) (λc5=>⟨(),?_,Y_⟩)
   ·dsimp only at c5
    (repeat'(first|exact rfl|exact Y_|assumption|apply ay|refineλ(_:Unit) (_:True)=>?_|refine ax () ?_|omega|(dsimp only;omega)))
    rw[c3,c4,c5];simp
   ·dsimp only at c5;rw[c5];simp
  ·dsimp only at c4;rw[c4];simp
 ·dsimp only at c3;rw[c3];simp
def yOs:Gy.ok Z_ 126:=gy mixed (dw yVv (dw z6p fk)) 0 i6 i6 [] func126 y7g
def xAo (p:fj) (h:G6.dp p):ySt p:=by
 obtain⟨h1,h2,h3⟩:p.small:=h;unfold ySt Qb ff dx xO vX zV ph;simp only[y9];refine⟨p.code,rfl,h1,λ_ _=>W_ (λc1=>⟨(),by rw[fj.check,fh c1],Y_⟩) (λc1=>⟨p.dt,rfl,h2,λ_ _=>W_ (λc2=>⟨(),by rw[fj.check,eg (by simp[c1]),fh c2],Y_⟩) (λc2=>⟨p,?_⟩)⟩)⟩
 (repeat'(first|exact rfl|exact Y_|assumption|apply ay|refineλ(_:Unit) (_:True)=>?_|refine ax () ?_|omega|(dsimp only;omega)))
 refine W_ (λc3=>⟨(),by rw[fj.check,eg (by simp[c1]),eg (by simp[c2]),fh c3],Y_⟩) (λc3=> ?_);have e0:p.check=if kD p then 23 else if xV p then 1 else if jA p then 31 else if qO p then 24 else 0:=by
  rw[fj.check,eg (by simp[c1]),eg (by simp[c2]),eg (by simp[c3])]
 have b (hb:kD p=aw):∃(o:Unit),p.check=23/\True:=⟨(),by rw[e0,fh hb],Y_⟩
 refine zH (λd1=>b (by simp[kD,d1])) λd1=>zH (λd2=>b (by simp[kD];omega)) λd2=>zH (λd3=>b (by simp[kD];omega)) λd3=>zH (λd4=>b (by simp[kD];omega)) λd4=> ?_
 rw[iw X_];refine zH (λd5=>b (by simp[kD];omega)) λd5=> ?_
 have e1:p.check=if xV p then 1 else if jA p then 31 else if qO p then 24 else 0:=by
  rw[e0,eg (by simp[kD];omega)]
 have s (hb:xV p=aw):∃(o:Unit),p.check=1/\True:=⟨(),by rw[e1,fh hb],Y_⟩
 have hm:2<=p.dt.length:=by
  have c2:xQ p.dt=aw:=i9 c2
  simp[xQ]at c2;omega
 refine W_ (λd6=>s (by have d6:¬(p.settle.length:Int)=p.dt.length:=(i9 d6);simp[xV];omega)) λd6=> ?_
 have d6:p.settle.length=p.dt.length:=by
  have:(p.settle.length:Int)=p.dt.length:=i9 d6
  omega
 refine⟨p.settle,rfl,⟨oM,oM⟩,λ_ _=>⟨kp,zH (λd7=>s (by simp[xV];left;right;omega)) λd7=>⟨p.settle,rfl,⟨oM,oM⟩,λ_ _=>⟨kp,zH (λd8=>s (by simp[xV];right;omega)) λd8=> ?_⟩⟩⟩⟩;have e2:p.check=if jA p then 31 else if qO p then 24 else 0:=by
  rw[e1,eg (by simp[xV];omega)]
 have r (hb:jA p=aw):∃(o:Unit),p.check=31/\True:=⟨(),by rw[e2,fh hb],Y_⟩
 refine zH (λd9=>r (by simp[jA];omega)) λd9=>zH (λd10=>r (by simp[jA];omega)) λd10=> ?_
 have e3:p.check=if qO p then 24 else 0:=by
  rw[e2,eg (by simp[jA];omega)]
 have q (hb:qO p=aw):∃(o:Unit),p.check=24/\True:=⟨(),by rw[e3,fh hb],Y_⟩
 refine zH (λf1=>q (by simp[qO];omega)) λf1=>zH (λf2=>q (by simp[qO];omega)) λf2=>zH (λf3=>q (by simp[qO];omega)) λf3=>zH (λf4=>q (by simp[qO];omega)) λf4=>zH (λf5=>q (by simp[qO];omega)) λf5=>zH (λf6=>q (by simp[qO];omega)) λf6=> ?_
 exact⟨(),by rw[e3,eg (by simp[qO];omega)],Y_⟩
def pC:G6.ok Z_ 53:=gy mixed (dw y8k (dw yJl (dw yOs (dw y6a (dw xCa fk))))) 0 i6 i6 [] func53 xAo
structure fj.Ok (p:fj):Prop where
 sym:vC p.code=aw
 dt:xQ p.dt=aw
 aa4:kE p=aw
 m2:2<=p.dt.length
 m6:p.dt.length<=6
 t1:1<=p.tick
 t2:p.tick<=1000
 b1: -1000000<=p.low
 b2:p.low<p.high
 b3:p.high<=1000000
 b4:0<=p.wide
 b5:p.wide<=p.high-p.low
 s1:p.settle.length=p.dt.length
 s2:p.low<=eI p.settle
 s3:Bc p.settle<=p.high
 r1:1<=p.gn
 r2:p.gn<=3
 q1:0<=p.top
 q2:p.top<=1000000
 q3:1<=p.least
 q4:p.least<=1000
 q5:0<=p.part
 q6:p.part<=100
def jH {p:fj} (h:p.check=0):p.Ok:=by
 unfold fj.check at h;split at h<;>first|(exfalso;revert h;decide)|skip
 rename_i c1;split at h<;>first|(exfalso;revert h;decide)|skip
 rename_i c2;split at h<;>first|(exfalso;revert h;decide)|skip
 rename_i c3;split at h<;>first|(exfalso;revert h;decide)|skip
 rename_i c4;split at h<;>first|(exfalso;revert h;decide)|skip
 rename_i c5;split at h<;>first|(exfalso;revert h;decide)|skip
 rename_i c6;split at h<;>first|(exfalso;revert h;decide)|skip
 rename_i c7;simp only[Dv,Bool.not_eq_false,Bool.not_eq_true]at c1 c2 c3;have m:=c2;have t:=c3;simp[xQ]at m;simp[kE]at t;simp[kD]at c4;simp[xV]at c5;simp[jA]at c6;simp[qO]at c7;exact⟨c1,c2,c3,oM,oM,oM,oM,oM,oM,oM,oM,oM,oM,oM,oM,oM,oM,oM,oM,oM,oM,oM,oM⟩
def yVg {n:Nat} (h:n<=6):n+n*(n-1) / 2<=21:=by
 have:∀n≤6,n+n*(n-1) / 2<=21:=by decide
 exact this n h
def yXs (p:fj) (h:D3.dp p):yIl p:=by
 unfold yIl pZ Qb ff dx xO zV ph;obtain⟨h1,h2,h3⟩:p.small:=h;refine⟨p,?_⟩;simp only[y9]
 (repeat'(first|exact rfl|exact Y_|assumption|apply ay|refineλ(_:Unit) (_:True)=>?_|refine ax () ?_|omega|(dsimp only;omega)))
 refine W_ (λc=>⟨(),by rw[fj.count,eg (i9 c)];rfl,Y_⟩) (λc=> ?_);have c:p.check=0:=i9 c
 have ok:=jH c;refine⟨kp,Z8,(),?_,Y_⟩;rw[fj.count,fh c];obtain⟨n,hn⟩:∃n,p.dt.length=n:=⟨_,rfl⟩
 have m2:=ok.m2;have m6:=ok.m6;rw[hn]at m2 m6 ⊢;have:n=2\/n=3\/n=4\/n=5\/n=6:=X_
 rcases this with rfl|rfl|rfl|rfl|rfl<;>rfl
def dL:D3.ok Z_ 54:=gy mixed (dw pC fk) 0 i6 i6 [] func54 yXs
def Rg {p:fj} (h:p.count≠0):p.check=0:=by
 unfold fj.count at h;split at h
 ·assumption
 ·exact absurd rfl h
def y8 (p:fj):p.count<=21:=by
 unfold fj.count;split
 ·rename_i h;exact yVg (jH h).m6
 ·omega
def Zm {n m:Nat} (h:n<=6) (hm:m<=n):yP n m<=21:=by
 have:∀n≤6,∀m≤n,yP n m<=21:=by decide
 exact this n h m hm
def xEa (i:aK) (h:KX.dp i):y2k i:=by
 unfold y2k Qb ff dx Wv dx f7 dx Z5 uJ gI WH rG Bp zV ph dI;obtain⟨h1,h2,h3⟩:i.p.small:=h;refine⟨i.p,?_⟩;simp only[y9]
 (repeat'(first|exact rfl|exact Y_|assumption|apply ay|refineλ(_:Unit) (_:True)=>?_|refine ax () ?_|omega|(dsimp only;omega)))
 refine zH (λc1=> ?_) (λc1=>zH (λc2=> ?_) (λc2=> ?_))
 ·rw[fj.gp,fh X_];exact kp
 ·rw[fj.gp,fh X_];exact kp
 have c2:¬i.n>=(i.p.count:Int):=c2;have hc:=y8 i.p;have ok:=jH (Rg (p:=i.p) oM);have m6:=ok.m6;refine zH (λc3=> ?_) (λc3=> ?_)
 ·rw[fj.gp,eg X_,fh c3];exact kp
 have e0:i.p.gp i.n=jO i.p.dt.length i.n.toNat i.p.dt.length 0:=by
  rw[fj.gp,eg X_,eg c3]
 rw[e0];generalize hn:i.p.dt.length=n at c3 m6 ⊢;obtain⟨k,hk⟩:∃k:Nat,i.n=k:=⟨i.n.toNat,oM⟩
 rw[hk]at c2 c3 ⊢;refine⟨0,rfl,rfl,λm=>m<=n/\yP n m<=k/\jO n k n 0=jO n k (n-m) m,λm=>n-m,⟨oM,by show n<=k;omega,rfl⟩,?_⟩;rintro m ⟨g1,g2,g3⟩;have hf:=Zm m6 g1;refine zH (λc4=> ?_) (λc4=> ?_)
 ·obtain⟨r,hr⟩:∃r,n-m=r+1:=⟨n-m-1,oM⟩
  have e1:(k:Int).toNat=k:=X_
  rw[e1,g3,hr,iw (x:=(n:Int)-1) X_,iw (x:=(n:Int)-1-m) X_,iw (x:=(yP n m:Int)+((n:Int)-1-m)) X_,iw (x:=(m:Int)+1) X_];rw[hr]at g3;refine zH (λc5=> ?_) (λc5=> ?_)
  ·rw[iw (x:=(m:Int)+1+k) X_,iw (x:=(m:Int)+1+k-(yP n m:Int)) X_,jO,fh X_];refine⟨(),rfl,?_,rfl,Y_⟩;dsimp only;omega
  ·refine⟨m+1,?_,rfl,⟨oM,?_,?_⟩,by(first|omega|(dsimp only;omega)),kp⟩
   ·rw[yP];omega
   ·rw[yP];omega
   ·rw[jO,eg X_,show n-(m+1)=r by omega]
 ·have e1:(k:Int).toNat=k:=X_
  rw[e1,g3,show n-m=0 by omega];exact⟨(),iP Y_⟩
def NY:KX.ok Z_ 219:=gy mixed (dw dL fk) 0 i6 (λi=>xFh i) [] func219 xEa
def y1j (i:A9) (h:DV.dp i):yFg i:=by
 unfold yFg QM Qb Bp ff dx aL dx zV ph dI;obtain⟨h1,h2,h3⟩:i.p.small:=h;refine⟨i.p,?_⟩;simp only[y9]
 (repeat'(first|exact rfl|exact Y_|assumption|apply ay|refineλ(_:Unit) (_:True)=>?_|refine ax () ?_|omega|(dsimp only;omega)))
 have bad (hb:i.p.check≠0\/i.a<0\/i.b<=i.a\/(i.p.dt.length:Int)<=i.b):∃(o:Unit),(i.p.spread i.a i.b).fst=0/\(i.p.spread i.a i.b).snd=av/\True:=⟨(),by rw[fj.spread,fh hb],by rw[fj.spread,fh hb],Y_⟩
 refine W_ (λc1=>bad (.inl (i9 c1))) λc1=>zH (λc2=>bad oM) λc2=>zH (λc3=>bad oM) λc3=>zH (λc4=>bad oM) λc4=> ?_
 have c1:i.p.check=0:=i9 c1
 have m6:=(jH c1).m6;rw[fj.spread,eg X_];generalize hn:i.p.dt.length=n at c4 m6 ⊢;obtain⟨a,ha⟩:∃k:Nat,i.a=k:=⟨i.a.toNat,oM⟩
 rw[ha]at c3 ⊢;refine⟨0,rfl,rfl,λm=>m<=a,λm=>a-m,oM,?_⟩;intro m hm;have hm:m<=a:=hm;have hf:=Zm (m:=m) m6 oM;refine zH (λc5=> ?_) (λc5=> ?_)
 ·rw[iw (x:=(n:Int)-1) X_,iw (x:=(n:Int)-1-m) X_,iw (x:=(yP n m:Int)+((n:Int)-1-m)) X_,iw (x:=(m:Int)+1) X_];refine⟨m+1,?_,rfl,oM,by(first|omega|(dsimp only;omega)),kp⟩;rw[yP];omega
 ·obtain rfl:m=a:=X_
  rw[iw (x:=(yP n m:Int)+i.b) X_,iw (x:=(yP n m:Int)+i.b-m) X_,iw (x:=(yP n m:Int)+i.b-m-1) X_];exact⟨(),rfl,rfl,Y_⟩
def zXc:DV.ok Z_ 222:=gy mixed (dw pC fk) 0 i6 (λi=>y1o i) [] func222 y1j
def xAj (i:A9) (h:GH.dp i):yVd i:=by
 unfold yVd Qb I4 ff dx zV ph;obtain⟨h1,h2,h3⟩:i.p.small:=h;refine⟨i.p,?_⟩;simp only[y9]
 (repeat'(first|exact rfl|exact Y_|assumption|apply ay|refineλ(_:Unit) (_:True)=>?_|refine ax () ?_|omega|(dsimp only;omega)))
 refine W_ (λc1=>⟨(),by rw[fj.dm,fh (by have:(i.p.count:Int)=0:=(i9 c1);omega)],Y_⟩) λc1=> ?_
 have c1:i.p.count≠0:=by
  have:¬(i.p.count:Int)=0:=i9 c1
  omega
 have e0:i.p.dm i.a i.b=if i.a<0\/(i.p.count:Int)<=i.a then 20 else if kM i.p.tick i.b then 22 else
  if i.b<(if(i.p.dt.length:Int)<=i.a then-i.p.wide else i.p.low)\/(if(i.p.dt.length:Int)<=i.a then i.p.wide else i.p.high)<i.b then 23 else 0:=by rw[fj.dm,eg c1]
 rw[e0];have ok:=jH (Rg c1);obtain⟨t1,b3,b1,b2,b4,b5⟩:=(⟨ok.t1,ok.b3,ok.b1,ok.b2,ok.b4,ok.b5⟩:_/\_/\_/\_/\_/\_)
 refine zH (λc2=>⟨(),by rw[fh (.inl c2)],Y_⟩) λc2=>zH (λc3=>⟨(),by rw[fh (.inr c3)],Y_⟩) λc3=>⟨kp,oM,?_⟩
 have c3:¬i.a>=(i.p.count:Int):=c3;rw[eg X_];refine W_ (λc4=>⟨(),fh c4,Y_⟩) λc4=> ?_
 rw[eg (by rw[kM,c4];simp),iw (x:=0-i.p.wide) X_];refine zH (λc5=> ?_) (λc5=> ?_)
 ·have c5:(i.p.dt.length:Int)<=i.a:=c5;simp only[fh c5];refine zH (λc6=>⟨(),fh (.inl oM),Y_⟩) λc6=>zH (λc7=>⟨(),fh (.inr oM),Y_⟩) λc7=>⟨(),eg oM,Y_⟩
 ·have c5:¬(i.p.dt.length:Int)<=i.a:=c5;simp only[eg c5];refine zH (λc6=>⟨(),fh (.inl oM),Y_⟩) λc6=>zH (λc7=>⟨(),fh (.inr oM),Y_⟩) λc7=>⟨(),eg oM,Y_⟩
def Rf:GH.ok Z_ 160:=gy mixed (dw dL fk) 0 i6 i6 [] func160 xAj
def y3x (x:Int) (h: -18446744073709551616<=x/\x<18446744073709551616):(gx x/\au.wrap x=x)\/(9223372036854775807<x/\au.wrap x=x-18446744073709551616)\/(x< -9223372036854775808/\au.wrap x=x+18446744073709551616):=by
 have e:au.wrap x=if(decide (x % 18446744073709551616>=9223372036854775808))=aw then x % 18446744073709551616-18446744073709551616 else x % 18446744073709551616:=by
  have:au.wrap x=if(aw && decide (x % 18446744073709551616>=9223372036854775808))=aw then x % 18446744073709551616-18446744073709551616 else x % 18446744073709551616:=rfl
  rw[this,AA]
 have e:au.wrap x=(x+9223372036854775808) % 18446744073709551616-9223372036854775808:=by
  rw[e];by_cases h2:x % 18446744073709551616>=9223372036854775808
  ·rw[fh (jt h2)];omega
  ·rw[eg (i9 h2)];omega
 rw[e];by_cases h1:gx x
 ·exact .inl ⟨h1,by unfold gx at h1;omega⟩
 ·unfold gx at h1;omega
def xIl (i:I2) (h:TY.dp i):xDn i:=by
 obtain⟨⟨x1,x2⟩,y1,y2⟩:gx i.x/\gx i.y:=h;have hw:=y3x (i.x+i.y) oM;unfold xDn dx Zq dx fC;generalize au.wrap (i.x+i.y)=w at hw ⊢;unfold gx at hw ⊢;refine W_ (λc1=>W_ (λc2=> ?_) (λc2=> ?_)) (λc1=> ?_)
 all_goals(simp at*)
 ·rw[eg X_];exact kp
 ·rw[fh X_];refine⟨?_,rfl⟩;dsimp only;omega
 ·rw[fh X_];refine⟨?_,rfl⟩;dsimp only;omega
def W8:TY.ok Z_ 257:=gy mixed fk 0 i6 i6 [] func257 xIl
def xId (i:I2) (h:Ta.dp i):xDc i:=by
 obtain⟨⟨x1,x2⟩,y1,y2⟩:gx i.x/\gx i.y:=h;have hw:=y3x (i.x-i.y) oM;unfold xDc dx ZE dx fL;generalize au.wrap (i.x-i.y)=w at hw ⊢;unfold gx at hw ⊢;refine W_ (λc1=>W_ (λc2=> ?_) (λc2=> ?_)) (λc1=> ?_)
 all_goals(simp at*)
 ·rw[eg X_];exact kp
 ·rw[fh X_];refine⟨?_,rfl⟩;dsimp only;omega
 ·rw[fh X_];refine⟨?_,rfl⟩;dsimp only;omega
def WZ:Ta.ok Z_ 258:=gy mixed fk 0 i6 i6 [] func258 xId
structure Slot where
 used:Bool
 n:Int
 id:Int
 dr:Int
 top:Bool
 queue:Int
 ahead:Int
 back:Int
 deriving DecidableEq
structure aV where
 first:Int
 last:Int
 total:Int
 count:Int
 deriving DecidableEq
structure dv where
 du:List Slot
 dy:List aV
 free:Int
 deriving DecidableEq
def zS (s:Slot):List D:=[.v (.bool s.used),.v (.int .i64 s.n),.v (.int .i64 s.id),.v (.int .i64 s.dr),.v (.bool s.top),.v (.int .i64 s.queue),.v (.int .i64 s.ahead),.v (.int .i64 s.back)]
def zQ (q:aV):List D:=[.v (.int .i64 q.first),.v (.int .i64 q.last),.v (.int .i64 q.total),.v (.int .i64 q.count)]
def iK:Slot:=⟨av,0,0,0,av,0,0,0⟩
def zI (a:dv):Nat->fq
 |0=> .cells [.own 1,.own 2,zB a.free] 355
 |1=> .own 389 8 (a.du.map zS)
 |2=> .own 392 4 (a.dy.map zQ)
 |_=> .gone
def wV (a:dv):fq:= .rk dv 3 zI a
structure xX where
 dm:Int
 queue:Int
 deriving DecidableEq
structure Place where
 side:Int
 dm:Int
 slot:Int
 deriving DecidableEq
structure dq where
 a:dv
 fv:List xX
 fc:List xX
 at_:List (Int×Place)
 iM:Int
 iL:Int
 spare:List Int
 gv:Bool
 gq:Bool
 deriving DecidableEq
def zD (r:xX):List D:=[.v (.int .i64 r.dm),.v (.int .i64 r.queue)]
def yAr (p:Place):List D:=[.v (.int .i64 p.side),.v (.int .i64 p.dm),.v (.int .i64 p.slot)]
def jv (l:List (Int×Place)):List (be×List D):=l.map λx=>(.int .i64 x.1,yAr x.2)
def zR (b:dq):Nat->fq
 |0=> .cells [.nm 1 0,.own 2,.own 3,.mp 4,zB b.iM,zB b.iL,.own 5,yM b.gv,yM b.gq] 284
 |1=>wV b.a
 |2=> .own 340 2 (b.fv.map zD)
 |3=> .own 340 2 (b.fc.map zD)
 |4=> .map (jv b.at_)
 |5=> .own 3 1 (iE b.spare)
 |_=> .gone
def yA (b:dq):fq:= .rk dq 6 zR b
structure gz where
 p:fj
 ez:List dq
 wh:List (Int×Int)
def yT (l:List (Int×Int)):List (be×List D):=l.map λx=>(.int .i64 x.1,[.v (.int .i64 x.2)])
def qB (s:gz):Nat->fq
 |0=> .cells [sV s.p.code,.own 3,zB s.p.tick,zB s.p.low,zB s.p.high,zB s.p.wide,zB s.p.gn,zB s.p.top,zB s.p.least,zB s.p.part,.own 4,.own 1,.mp 2] 159
 |1=> .km 160 dq 6 zR s.ez ba
 |2=> .map (yT s.wh)
 |3=> .kr 1 (iE s.p.dt)
 |4=> .kr 1 (iE s.p.settle)
 |_=> .gone
def zE (s:gz):fq:= .rk gz 5 qB s
def PA (n:Nat):dv:=⟨ab n iK,[],n⟩
def og:dq:=⟨PA 250,[],[],[],0,0,[],av,av⟩
def KV:gh:=fp Nat (λn=>[zB n]) i6 (λn=>1<=n/\n<=4096) (λ_=> .je [.nm 0 0,zB 0]) (λn=>[wV (PA n)])
def Uc:gh:=fp Unit i6 i6 (λ_=>True) (λ_=> .nm 0 0) (λ_=>[yA og])
def nN (p:fj):gz:=⟨p,ab p.count og,[]⟩
def KT:gh where
 ι:=fj
 pat:=λp=>[nv p]
 pre:=λ_=>[]
 dp:=λp=>p.small
 alts:=λp=>[{o:=Unit,res:=λ_=> .je [.nm 0 0,zB 0],post:=λ_=>[zE (nN p)],rel:=λ_=>p.check=0},{o:=Unit,res:=λ_=> .je [.d (.v (.pointer ba)),zB p.check],post:=λ_=>[],rel:=λ_=>p.check≠0}]
def xEb (p:fj):List gu:=[{ι:=Nat,du:=λj=>[(5,.nm 0 0),(27,zB j)],rows:=λj=>(ae 5).map (qB ⟨p,ab j og,[]⟩)}]
def JB:gh:=fp (List Slot) (λ_=>[.own 0]) (λl=>[.own 389 8 (l.map zS)]) (λl=>l.length<=1000000) (λ_=> .own 1) (λl=>[.own 389 8 (l.map zS),.own 389 8 (l.map zS)])
def Ht:gh:=fp (List aV) (λ_=>[.own 0]) (λl=>[.own 392 4 (l.map zQ)]) (λl=>l.length<=1000000) (λ_=> .own 1) (λl=>[.own 392 4 (l.map zQ),.own 392 4 (l.map zQ)])
def JC:gh:=fp (List xX) (λ_=>[.own 0]) (λl=>[.own 340 2 (l.map zD)]) (λl=>l.length<=1000000) (λ_=> .own 1) (λl=>[.own 340 2 (l.map zD),.own 340 2 (l.map zD)])
def NC:gh:=fp (List Int) (λ_=>[.own 0]) (λl=>[.own 3 1 (iE l)]) (λl=>l.length<=1000000) (λ_=> .own 1) (λl=>[.own 3 1 (iE l),.own 3 1 (iE l)])
def W5 (f:Nat):gh:=fp (List (be×List D)) (λ_=>[.mp 0]) (λes=>[.map es]) (λ_=>True) (λ_=> .mp 1) (λes=>[.map es,.map es])
def Aw:gh:=W5 0
def Aq:gh:=W5 1
@[reducible] def dv.small (a:dv):Prop:=a.du.length<=1000000/\a.dy.length<=1000000
@[reducible] def dq.small (b:dq):Prop:=b.a.small/\b.fv.length<=1000000/\b.fc.length<=1000000/\b.spare.length<=1000000
@[reducible] def gz.small (s:gz):Prop:=s.ez.length<=1000000/\∀b∈s.ez,b.small
def NB:gh:=fp dv (λ_=>[.nm 0 0]) (λa=>[wV a]) dv.small (λ_=> .nm 1 0) (λa=>[wV a,wV a])
def NA:gh:=fp dq (λ_=>[.nm 0 0]) (λb=>[yA b]) dq.small (λ_=> .nm 1 0) (λb=>[yA b,yA b])
def y9k:List gu:=[{ι:=Unit,du:=λ_=>[],rows:=λ_=>[],un:=3}]
def Nz:gh:=fp gz (λ_=>[.nm 0 0]) (λs=>[zE s]) gz.small (λ_=> .nm 1 0) (λs=>[zE s,zE s])
def y5a (n:Nat):Prop:=
 dp (decide ((n:Int)<1)) (dx (False)) (dp (decide ((n:Int)>4096)) (dx (False)) ((0<=(n:Int)/\(n:Int)<=(n:Int)/\(n:Int)<=9223372036854775807/\((64:Nat):Int)*(n:Int)<=2 ^ (48:Nat))/\dx (dk ((0:Int))/\dk ((n:Int))/\aa zS (ab n iK)=ab (n:Int).toNat [D.v (.bool av),dI 0,dI 0,dI 0,D.v (.bool av),dI 0,dI 0,dI 0]/\([]:Q_ D)=[]/\True)))
def xCn (u:Unit):Prop:=
 ∃(i:Nat),(i:Int)=250/\(1<=i/\i<=4096)/\∀(o:Unit),True->∃(o:Unit),dk ((0:Int))/\dk ((0:Int))/\av=av/\av=av/\ap dv 3 zI (PA 250)=ap dv 3 zI (PA i)/\([]:Q_ D)=[]/\([]:Q_ D)=[]/\jv []=[]/\iE []=[]/\True
@[reducible] def Qc (a:fj)(R:Prop):Prop:=sb a.code=sb a.code/\a.tick=a.tick/\a.low=a.low/\a.high=a.high/\a.wide=a.wide/\a.gn=a.gn/\a.top=a.top/\a.least=a.least/\a.part=a.part/\R
@[reducible] def vt (a:fj)(R:Prop):Prop:=ak 1 (iE a.dt)=ak 1 (iE a.dt)/\ak 1 (iE a.settle)=ak 1 (iE a.settle)/\R
def zMz (a:fj) (b:Nat):Prop:=dx (dk ((0:Int))/\Qc a (ao 160 dq 6 zR (ab a.count og) ba=ao 160 dq 6 zR (ab b og) ba/\dk (yT [])/\vt a (a.check=0)))
def mR (a:fj):Prop:=ak 1 (iE a.settle)=ak 1 (iE a.settle)/\dk (ak 1 (iE a.dt))
def gX (a:fj):=(D.v (bo (sb a.code)))
@[reducible] def Qr (a b:fj)(R:Prop):Prop:=a.tick=b.tick/\a.low=b.low/\a.high=b.high/\a.wide=b.wide/\a.gn=b.gn/\a.top=b.top/\a.least=b.least/\a.part=b.part/\R
@[reducible] def Qw (a:Nat)(b:List dq)(c:fj)(d:Nat->Prop)(e:Nat->Nat)(f:Nat)(R:Prop):Prop:=ao 160 dq 6 zR (ab a og) ba=ao 160 dq 6 zR (b++[og]) ba/\yT []=yT []/\ak 1 (iE c.dt)=ak 1 (iE c.dt)/\ak 1 (iE c.settle)=ak 1 (iE c.settle)/\d a/\e a<e f/\ak 1 ([]++iE c.settle)=ak 1 ([]++iE c.settle)/\ak 1 ([]++iE c.dt)=ak 1 ([]++iE c.dt)/\R
@[reducible] def YG (a:Nat)(b:fj)(R:Prop):Prop:=ab a og=[]/\(ba:Option Nat)=ba/\yT []=[]/\ak 1 (iE b.dt)=ak 1 ([]++iE b.dt)/\ak 1 (iE b.settle)=ak 1 ([]++iE b.settle)/\R
@[reducible] def MH (a:fj)(R:Prop):Prop:=(0+(iE a.dt).length)*(8:Nat)<=(140737488355328:Nat)/\True/\R
def Zy (a:fj):Prop:=True/\True/\MH a ((0+(iE a.settle).length)*(8:Nat)<=(140737488355328:Nat)/\∃(b:fj),sb b.code=sb a.code/\iE b.dt=[]++iE a.dt/\Qr b a (iE b.settle=[]++iE a.settle/\(zV b)/\ff (∃(d:Nat),(d:Int)=0/\Qc a (YG d a (∃(e:Nat->Prop),∃(f:Nat->Nat),e d/\∀(g:Nat),e g->dp (decide ((g:Int)<(b.count:Int))) (dx (True/\ff (True/\True/\∃(k:List dq),ao 160 dq 6 zR (ab g og) ba=ao 160 dq 6 zR k ba/\(k.length+1)*(8:Nat)<=(140737488355328:Nat)/\∃(l:Nat),(l:Int)=au.wrap ((g:Int)+1)/\Qc a (Qw l k a e f g (dk (am [V.d (gX a),V.own 5,V.d (dI a.tick),V.d (dI a.low),V.d (dI a.high),V.d (dI a.wide),V.d (dI a.gn),V.d (dI a.top),V.d (dI a.least),V.d (dI a.part),V.own 6] 25)/\mR a))))) ((zMz a g)\/(dx (False))))))))
def y2y (p:fj):Prop:=
 ∃(a:fj),Qb a p ((zV a)/\ff (dp (a.check !=0) ((dx (False))\/(dx (True/\p.check=a.check/\(p.check=0->False)))) ((True/\True/\(MH p (True/\(0+(iE p.settle).length)*(8:Nat)<=(140737488355328:Nat)/\∃(c:fj),sb c.code=sb p.code/\iE c.dt=[]++iE p.dt/\Qr c p (iE c.settle=[]++iE p.settle/\(zV c)/\ff (∃(e:Nat),(e:Int)=0/\Qc p (YG e p (∃(f:Nat->Prop),∃(g:Nat->Nat),f e/\∀(h:Nat),f h->dp (decide ((h:Int)<(c.count:Int))) (dx (True/\ff (True/\True/\∃(l:List dq),ao 160 dq 6 zR (ab h og) ba=ao 160 dq 6 zR l ba/\(l.length+1)*(8:Nat)<=(140737488355328:Nat)/\∃(m:Nat),(m:Int)=au.wrap ((h:Int)+1)/\Qc p (Qw m l p f g h (dk (am [V.d (gX p),V.own 4,V.d (dI p.tick),V.d (dI p.low),V.d (dI p.high),V.d (dI p.wide),V.d (dI p.gn),V.d (dI p.top),V.d (dI p.least),V.d (dI p.part),V.own 6] 25)/\mR p))))) ((zMz p h)\/(dx (False)))))))))/\Zy p)/\True/\True/\Zy p)))
def yXe (l:List Slot):Prop:=
 ∀(b:Bool),(b=aw->aa zS l=[])->dp b (∃(o:Unit),dk (aa zS l)/\aa zS l=[]/\True) ((0+(aa zS l).length)*(64:Nat)<=(140737488355328:Nat)/\∃(o:Unit),dk (aa zS l)/\aa zS l=[]++aa zS l/\True)
def yVy (l:List aV):Prop:=
 ∀(b:Bool),(b=aw->aa zQ l=[])->dp b (∃(o:Unit),dk (aa zQ l)/\aa zQ l=[]/\True) ((0+(aa zQ l).length)*(32:Nat)<=(140737488355328:Nat)/\∃(o:Unit),dk (aa zQ l)/\aa zQ l=[]++aa zQ l/\True)
def y0y (l:List xX):Prop:=
 ∀(b:Bool),(b=aw->aa zD l=[])->dp b (∃(o:Unit),dk (aa zD l)/\aa zD l=[]/\True) ((0+(aa zD l).length)*(16:Nat)<=(140737488355328:Nat)/\∃(o:Unit),dk (aa zD l)/\aa zD l=[]++aa zD l/\True)
def xCe (l:List Int):Prop:=
 ∀(b:Bool),(b=aw->iE l=[])->dp b (∃(o:Unit),iE l=iE l/\iE l=[]/\True) ((0+(iE l).length)*(8:Nat)<=(140737488355328:Nat)/\∃(o:Unit),iE l=iE l/\iE l=[]++iE l/\True)
def yUc (es:List (be×List D)):Prop:=
 ∃(a:List (be×List D)),a=es/\True/\ff (dx (es=a/\es=a/\True))
def y8b (es:List (be×List D)):yUc es=walk Z_ ([(223,vZ 280)]) 0 ([]) ([]) [] Tryz.f225 (Tryz.f225.body.getD .skip) (Aw.pat es) (Aw.pre es) (Aw.alts es):=by kernel_rfl
def y6x (hG:zq Z_ ([(223,vZ 280)])) (h:∀(es:List (be×List D)),Aw.dp es->yUc es):Aw.ok Z_ 225:=qY mixed ([(223,vZ 280)]) hG 0 (λ(es:List (be×List D))=>[]) (λ(es:List (be×List D))=>[]) [] func225 (by kernel_rfl) (by kernel_rfl) (by kernel_rfl) (λ_=>by kernel_rfl) (λ(es:List (be×List D)) hc=>Eq.mp (y8b es) (h es hc))
def yTj (es:List (be×List D)):Prop:=
 ∃(a:List (be×List D)),a=es/\True/\ff (dx (es=a/\es=a/\True))
def xAh (es:List (be×List D)):yTj es=walk Z_ ([(223,vZ 150)]) 0 ([]) ([]) [] Tryz.f161 (Tryz.f161.body.getD .skip) (Aq.pat es) (Aq.pre es) (Aq.alts es):=by kernel_rfl
def xBa (hG:zq Z_ ([(223,vZ 150)])) (h:∀(es:List (be×List D)),Aq.dp es->yTj es):Aq.ok Z_ 161:=qY mixed ([(223,vZ 150)]) hG 0 (λ(es:List (be×List D))=>[]) (λ(es:List (be×List D))=>[]) [] func161 (by kernel_rfl) (by kernel_rfl) (by kernel_rfl) (λ_=>by kernel_rfl) (λ(es:List (be×List D)) hc=>Eq.mp (xAh es) (h es hc))
def xBq (a:dv):Prop:=
 ∃(i:List Slot),aa zS i=aa zS a.du/\i.length<=1000000/\∀(o:Unit),True->dk a.free/\True/\∃(ia:List aV),aa zQ ia=aa zQ a.dy/\ia.length<=1000000/\∀(o:Unit),True->dk a.free/\∃(o:Unit),dk a.free/\aa zS a.du=aa zS i/\aa zQ a.dy=aa zQ ia/\dk a.free/\aa zS a.du=aa zS i/\aa zQ a.dy=aa zQ ia/\True
def xCh (b:dq):Prop:=
 ∃(i:dv),ap dv 3 zI i=ap dv 3 zI b.a/\(i.du.length<=1000000/\i.dy.length<=1000000)/\∀(o:Unit),True->True/\True/\∃(ia:List (be×List D)),ia=jv b.at_/\True/\∀(o:Unit),True->True/\∃(mh:List Int),iE mh=iE b.spare/\mh.length<=1000000/\∀(o:Unit),True->∃(mn:List xX),aa zD mn=aa zD b.fv/\mn.length<=1000000/\∀(o:Unit),True->∃(oE:List xX),aa zD oE=aa zD b.fc/\oE.length<=1000000/\∀(o:Unit),True->∃(o:Unit),dk b.iM/\dk b.iL/\dk b.gv/\dk b.gq/\ap dv 3 zI b.a=ap dv 3 zI i/\aa zD b.fv=aa zD mn/\aa zD b.fc=aa zD oE/\jv b.at_=ia/\iE b.spare=iE mh/\dk b.iM/\dk b.iL/\dk b.gv/\dk b.gq/\ap dv 3 zI b.a=ap dv 3 zI i/\aa zD b.fv=aa zD mn/\aa zD b.fc=aa zD oE/\jv b.at_=ia/\iE b.spare=iE mh/\True
def xFd (n:Nat) (h:KV.dp n):y5a n:=by
 obtain⟨h1,h2⟩:1<=n/\n<=4096:=h;unfold y5a dx dI;refine zH (λc=>X_) λc=>zH (λc=>X_) λc=> ?_
 refine⟨⟨oM,oM,oM,?_⟩,?_⟩
 ·have:(2:Int) ^ (48:Nat)=281474976710656:=by decide
  rw[this];omega
 ·refine⟨(),rfl,rfl,?_,rfl,Y_⟩;rw[OA];rfl
def yYi:KV.ok Z_ 164:=gy mixed fk 0 i6 i6 [] func164 xFd
def yWs:Uc.ok Z_ 87:=gy (V:=xCn) mixed (dw yYi fk) 0 i6 i6 [] func87 λ(u:Unit) _=>by
 refine⟨250,rfl,⟨oM,oM⟩,?_⟩;exact kp
def xFq (p:fj) (h:KT.dp p):y2y p:=by
 unfold y2y YG Qb Qc MH ff dx Qr Qw Zy YG Qc MH ff dx Qr Qw gX mR zMz vt Qc dx zV ph dI;have hs:p.small:=h;obtain⟨h1,h2,h3⟩:p.small:=h;refine⟨p,?_⟩;simp only[y9]
 (repeat'(first|exact rfl|exact Y_|assumption|apply ay|refineλ(_:Unit) (_:True)=>?_|refine ax () ?_|omega|(dsimp only;omega)))
 refine W_ (λc=> .inr ⟨(),Y_,kp,i9 c⟩) λc=> ?_
 have c:p.check=0:=i9 c
 have hc:=y8 p
 (repeat'(first|exact rfl|exact Y_|assumption|apply ay|refineλ(_:Unit) (_:True)=>?_|refine ax () ?_|omega|(dsimp only;omega)))
 all_goals(refine⟨p,?_⟩;(repeat'(first|exact rfl|exact Y_|assumption|apply ay|refineλ(_:Unit) (_:True)=>?_|refine ax () ?_|omega|(dsimp only;omega))))
 all_goals(refine⟨0,?_⟩;(repeat'(first|exact rfl|exact Y_|assumption|apply ay|refineλ(_:Unit) (_:True)=>?_|refine ax () ?_|omega|(dsimp only;omega))))
 all_goals(refine⟨λj=>j<=p.count,λj=>p.count-j,oM,λj hj=>zH (λgr=> ?_) (λgr=> ?_)⟩;all_goals dsimp only at hj gr)
 all_goals first
  |(refine .inl ⟨(),?_⟩
    obtain rfl:j=p.count:=X_
    (repeat'(first|exact rfl|exact Y_|assumption|apply ay|refineλ(_:Unit) (_:True)=>?_|refine ax () ?_|omega|(dsimp only;omega))))
  |(refine⟨(),Y_,λ_ _=>⟨Y_,Y_,ab j og,rfl,?_,j+1,?_⟩⟩
    ·rw[HL];omega
    ·rw[iw X_,<- List.replicate_succ']
     (repeat'(first|exact rfl|exact Y_|assumption|apply ay|refineλ(_:Unit) (_:True)=>?_|refine ax () ?_|omega|(dsimp only;omega))))
def y0r:KT.ok Z_ 31:=gy mixed (dw pC (dw dL (dw yWs fk))) 0 i6 (λp=>xEb p) [] func31 xFq
def yKk:JB.ok Z_ 259:=gy (V:=yXe) mixed fk 0 i6 i6 [] func259 λ(l:List Slot) h=>by
 have h:l.length<=1000000:=h;exactλb hb=>W_ (λe=>⟨(),rfl,hb e,Y_⟩) (λ_=>⟨by rw[nt,ib];omega,(),rfl,rfl,Y_⟩)
def z9m:Ht.ok Z_ 260:=gy (V:=yVy) mixed fk 0 i6 i6 [] func260 λ(l:List aV) h=>by
 have h:l.length<=1000000:=h;exactλb hb=>W_ (λe=>⟨(),rfl,hb e,Y_⟩) (λ_=>⟨by rw[nt,ib];omega,(),rfl,rfl,Y_⟩)
def yLf:JC.ok Z_ 226:=gy (V:=y0y) mixed fk 0 i6 i6 [] func226 λ(l:List xX) h=>by
 have h:l.length<=1000000:=h;exactλb hb=>W_ (λe=>⟨(),rfl,hb e,Y_⟩) (λ_=>⟨by rw[nt,ib];omega,(),rfl,rfl,Y_⟩)
def yNw:NC.ok Z_ 120:=gy (V:=xCe) mixed fk 0 i6 i6 [] func120 λ(l:List Int) h=>by
 have h:l.length<=1000000:=h;exactλb hb=>W_ (λe=>⟨(),rfl,hb e,Y_⟩) (λ_=>⟨by rw[nt,y9];omega,(),rfl,rfl,Y_⟩)
def WI (t:Nat):(vZ t).ok Z_ 223:=yCf func223 (by kernel_rfl) (by kernel_rfl) (by kernel_rfl) (by kernel_rfl) t
def yXo:Aw.ok Z_ 225:=y6x (dw (WI _) fk) λes _=>by
 unfold yUc ff dx;refine⟨es,?_⟩;exact kp
def yYe:Aq.ok Z_ 161:=xBa (dw (WI _) fk) λes _=>by
 unfold yTj ff dx;refine⟨es,?_⟩;exact kp
def yTr:NB.ok Z_ 224:=gy (V:=xBq) mixed (dw yKk (dw z9m fk)) 0 i6 i6 [0] func224 λ(a:dv) h=>by
 obtain⟨h1,h2⟩:a.small:=h;refine⟨a.du,?_⟩;(repeat'(first|exact rfl|exact Y_|assumption|apply ay|refineλ(_:Unit) (_:True)=>?_|refine ax () ?_|omega|(dsimp only;omega)));refine⟨a.dy,?_⟩;exact kp
def yNv:NA.ok Z_ 163:=gy (V:=xCh) mixed (dw yTr (dw yXo (dw yNw (dw yLf fk)))) 0 i6 (λ_=>y9k) [0] func163 λ(b:dq) h=>by
 obtain⟨⟨h1,BK⟩,h2,h3,h4⟩:b.small:=h;refine⟨b.a,?_⟩;(repeat'(first|exact rfl|exact Y_|assumption|apply ay|refineλ(_:Unit) (_:True)=>?_|refine ax () ?_|omega|(dsimp only;omega)));refine⟨jv b.at_,?_⟩;(repeat'(first|exact rfl|exact Y_|assumption|apply ay|refineλ(_:Unit) (_:True)=>?_|refine ax () ?_|omega|(dsimp only;omega)));refine⟨b.spare,?_⟩;(repeat'(first|exact rfl|exact Y_|assumption|apply ay|refineλ(_:Unit) (_:True)=>?_|refine ax () ?_|omega|(dsimp only;omega)));refine⟨b.fv,?_⟩;(repeat'(first|exact rfl|exact Y_|assumption|apply ay|refineλ(_:Unit) (_:True)=>?_|refine ax () ?_|omega|(dsimp only;omega)));refine⟨b.fc,?_⟩;exact kp
structure vc where
 a:dv
 n:Int
def dv.qn (a:dv) (n:Int):aV:=if 0<=n/\n<a.dy.length then a.dy.getD n.toNat ⟨0,0,0,0⟩else⟨0,0,0,0⟩
def JF:gh:=fp vc (λi=>[.nm 0 0,zB i.n]) (λi=>[wV i.a]) (λi=>True) (λi=>zB (i.a.qn i.n).total) (λi=>[wV i.a])
def JG:gh:=fp vc (λi=>[.nm 0 0,zB i.n]) (λi=>[wV i.a]) (λi=>True) (λi=>zB (i.a.qn i.n).count) (λi=>[wV i.a])
def aaZ:gh:=fp Int (λn=>[zB n]) i6 (λ_=>True) (λn=>yM (decide (n=1)||decide (n=2))) i6
structure S4 where
 b:dq
 r:xX
def dq.told (b:dq) (r:xX):Lv:=⟨r.dm,(b.a.qn r.queue).total,(b.a.qn r.queue).count⟩
@[reducible] def dq.oe (b:dq):Prop:=∀q∈b.a.dy,gx q.count
def T3:gh:=fp S4 (λi=>[.nm 0 0,.agg [zB i.r.dm,zB i.r.queue]]) (λi=>[yA i.b]) (λi=>i.b.oe) (λi=>Sb (i.b.told i.r)) (λi=>[yA i.b])
def dq.iy (b:dq) (l:List xX):Lv×Bool:=match l with
 |[]=>(⟨0,0,0⟩,av)
 |r::_=>(b.told r,aw)
structure An where
 side:Bool
 b:dq
def dq.side (b:dq) (s:Bool):List xX:=if s then b.fc else b.fv
@[reducible] def yBv (b:dq) (l:List xX):V:= .je [Sb (b.iy l).1,yM (b.iy l).2]
def NF:gh:=fp dq (λ_=>[.nm 0 0,zB 1]) (λb=>[yA b]) dq.oe (λb=>yBv b b.fv) (λb=>[yA b])
def ND:gh:=fp dq (λ_=>[.nm 0 0,zB 2]) (λb=>[yA b]) dq.oe (λb=>yBv b b.fc) (λb=>[yA b])
def zF (s:Bool):Int:=if s then 2 else 1
def UM:gh:=fp An (λi=>[.nm 0 0,zB (zF i.side)]) (λi=>[yA i.b]) (λi=>i.b.oe) (λi=>yBv i.b (i.b.side i.side)) (λi=>[yA i.b])
structure kf where
 gv:Bool
 gq:Bool
 p1:Int
 p2:Int
 q1:Int
 q2:Int
 deriving DecidableEq
def yC (t:kf):List D:=[.v (.bool t.gv),.v (.bool t.gq),.v (.int .i64 t.p1),.v (.int .i64 t.p2),.v (.int .i64 t.q1),.v (.int .i64 t.q2)]
def kg:kf:=⟨av,av,0,0,0,0⟩
def kf.F9 (t:kf) (x:Lv×Bool):kf:=if x.2 then{t with gv:=aw,p1:=x.1.dm,q1:=x.1.dr}else t
def kf.AQ (t:kf) (x:Lv×Bool):kf:=if x.2 then{t with gq:=aw,p2:=x.1.dm,q2:=x.1.dr}else t
def dq.top (b:dq):kf:=(kg.F9 (b.iy b.fv)).AQ (b.iy b.fc)
def gz.fm (s:gz):List kf:=s.ez.map dq.top
@[reducible] def gz.oe (s:gz):Prop:=s.ez.length<=1000000/\∀b∈s.ez,b.oe
def KI:gh:=fp gz (λ_=>[.nm 0 0]) (λs=>[zE s]) gz.oe (λs=> .own 1) (λs=>[zE s,.own 198 6 (s.fm.map yC)])
def qF (s:gz) (j:Nat) (x:kf):List kf:=(s.fm.take j)++x::ab (s.ez.length-j-1) kg
def qM (s:gz) (j:Nat):List kf:=(s.fm.take j)++ab (s.ez.length-j) kg
def y4i (s:gz):List gu:=[
 {ι:=Nat,du:=λj=>[(3,.own 0),(21,zB j)],rows:=λj=>[.own 198 6 ((qM s j).map yC)]},
 {ι:=Unit,du:=λ_=>[],rows:=λ_=>[],un:=3}]
def y3o (s:gz):List (Nat×gu):=[(15,{ι:=Nat×kf,du:=λx=>[(3,.own 0)],o8:=λx=>[(3,.own 0)],mf:=λx=>[.own 198 6 ((qF s x.1 x.2).map yC)],rows:=λx=>[.own 198 6 ((qF s x.1 x.2).map yC)]})]
def y6u (s:gz):List gu:=[{ι:=Nat,du:=λj=>[(3,.nm 0 0),(22,zB j)],rows:=λj=>(ae 5).map (qB ⟨s.p,s.ez.take j,s.wh⟩)}]
@[reducible] def Q8 (a:dv)(R:Prop):Prop:=a.free=a.free/\aa zS a.du=aa zS a.du/\aa zQ a.dy=aa zQ a.dy/\R
def wK (a:vc):Prop:=Q8 a.a (True)
def zBn (a:vc):Prop:=dx ((a.a.qn a.n).total=0/\wK a)
def f8 (a:vc):=((aa zQ a.a.dy).length:Int)
def yIi (i:vc):Prop:=
 dp (decide (i.n>=0)) (dp (!decide (i.n<(f8 i))) (zBn i) ((0<=i.n/\i.n<(f8 i))/\∃(a:Int),zC (aa zQ i.a.dy) i.n.toNat 2 1=az [dI a]/\dx ((i.a.qn i.n).total=a/\wK i))) (zBn i)
def zBx (a:vc):Prop:=dx ((a.a.qn a.n).count=0/\wK a)
def yHq (i:vc):Prop:=
 dp (decide (i.n>=0)) (dp (!decide (i.n<(f8 i))) (zBx i) ((0<=i.n/\i.n<(f8 i))/\∃(a:Int),zC (aa zQ i.a.dy) i.n.toNat 3 1=az [dI a]/\dx ((i.a.qn i.n).count=a/\wK i))) (zBx i)
def xHs (n:Int):Prop:=
 dp (n==1) (dx ((decide (n=1)||decide (n=2))=aw/\True)) (dx ((decide (n=1)||decide (n=2))=(n==2)/\True))
def xHr (i:S4):Prop:=
 ∃(ia:vc),ia.n=i.r.queue/\ap dv 3 zI ia.a=ap dv 3 zI i.b.a/\True/\∀(o:Unit),True->dk i.r.queue/\True/\dk i.r.dm/\∃(mh:vc),mh.n=i.r.queue/\ap dv 3 zI mh.a=ap dv 3 zI ia.a/\True/\∀(o:Unit),True->dk i.r.dm/\∃(o:Unit),dk i.r.dm/\(i.b.a.qn i.r.queue).total=(ia.a.qn ia.n).total/\(i.b.a.qn i.r.queue).count=(mh.a.qn mh.n).count/\dk i.b.iM/\dk i.b.iL/\dk i.b.gv/\dk i.b.gq/\ap dv 3 zI i.b.a=ap dv 3 zI mh.a/\dk (aa zD i.b.fv)/\dk (aa zD i.b.fc)/\dk (jv i.b.at_)/\dk (iE i.b.spare)/\True
def y8z (b:dq):Prop:=
 ∃(i:Int),i=1/\True/\∀(o:Unit),True->dp (!(decide (i=1)||decide (i=2))) (∃(o:Unit),(b.iy b.fv).fst.dm=0/\(b.iy b.fv).fst.dr=0/\(b.iy b.fv).fst.count=0/\(b.iy b.fv).snd=av/\dk b.iM/\dk b.iL/\dk b.gv/\dk b.gq/\dk (ap dv 3 zI b.a)/\dk (aa zD b.fv)/\dk (aa zD b.fc)/\dk (jv b.at_)/\dk (iE b.spare)/\True) (dp (((aa zD b.fv).length:Int)==0) (∃(o:Unit),(b.iy b.fv).fst.dm=0/\(b.iy b.fv).fst.dr=0/\(b.iy b.fv).fst.count=0/\(b.iy b.fv).snd=av/\dk b.iM/\dk b.iL/\dk b.gv/\dk b.gq/\dk (ap dv 3 zI b.a)/\dk (aa zD b.fv)/\dk (aa zD b.fc)/\dk (jv b.at_)/\dk (iE b.spare)/\True) (((0:Int)<=(0:Int)/\0<((aa zD b.fv).length:Int))/\∃(n:Int),∃(IM:Int),zC (aa zD b.fv) (bu 0) 0 2=az [D.v (.int .i64 n),D.v (.int .i64 IM)]/\∃(i:S4),i.r.dm=n/\i.r.queue=IM/\i.b.iM=b.iM/\i.b.iL=b.iL/\i.b.gv=b.gv/\i.b.gq=b.gq/\ap dv 3 zI i.b.a=ap dv 3 zI b.a/\aa zD i.b.fv=aa zD b.fv/\aa zD i.b.fc=aa zD b.fc/\jv i.b.at_=jv b.at_/\iE i.b.spare=iE b.spare/\(∀(q:aV),q∈i.b.a.dy->(-9223372036854775808)<=q.count/\q.count<=9223372036854775807)/\∀(o:Unit),True->∃(o:Unit),(b.iy b.fv).fst.dm=i.r.dm/\(b.iy b.fv).fst.dr=(i.b.a.qn i.r.queue).total/\(b.iy b.fv).fst.count=(i.b.a.qn i.r.queue).count/\(b.iy b.fv).snd=aw/\yA b=yA i.b/\True))
def y6z (b:dq):Prop:=
 ∃(i:Int),i=2/\True/\∀(o:Unit),True->dp (!(decide (i=1)||decide (i=2))) (∃(o:Unit),(b.iy b.fc).fst.dm=0/\(b.iy b.fc).fst.dr=0/\(b.iy b.fc).fst.count=0/\(b.iy b.fc).snd=av/\dk b.iM/\dk b.iL/\dk b.gv/\dk b.gq/\dk (ap dv 3 zI b.a)/\dk (aa zD b.fv)/\dk (aa zD b.fc)/\dk (jv b.at_)/\dk (iE b.spare)/\True) (dp (((aa zD b.fc).length:Int)==0) (∃(o:Unit),(b.iy b.fc).fst.dm=0/\(b.iy b.fc).fst.dr=0/\(b.iy b.fc).fst.count=0/\(b.iy b.fc).snd=av/\dk b.iM/\dk b.iL/\dk b.gv/\dk b.gq/\dk (ap dv 3 zI b.a)/\dk (aa zD b.fv)/\dk (aa zD b.fc)/\dk (jv b.at_)/\dk (iE b.spare)/\True) (((0:Int)<=(0:Int)/\0<((aa zD b.fc).length:Int))/\∃(n:Int),∃(IM:Int),zC (aa zD b.fc) (bu 0) 0 2=az [D.v (.int .i64 n),D.v (.int .i64 IM)]/\∃(i:S4),i.r.dm=n/\i.r.queue=IM/\i.b.iM=b.iM/\i.b.iL=b.iL/\i.b.gv=b.gv/\i.b.gq=b.gq/\ap dv 3 zI i.b.a=ap dv 3 zI b.a/\aa zD i.b.fv=aa zD b.fv/\aa zD i.b.fc=aa zD b.fc/\jv i.b.at_=jv b.at_/\iE i.b.spare=iE b.spare/\(∀(q:aV),q∈i.b.a.dy->(-9223372036854775808)<=q.count/\q.count<=9223372036854775807)/\∀(o:Unit),True->∃(o:Unit),(b.iy b.fc).fst.dm=i.r.dm/\(b.iy b.fc).fst.dr=(i.b.a.qn i.r.queue).total/\(b.iy b.fc).fst.count=(i.b.a.qn i.r.queue).count/\(b.iy b.fc).snd=aw/\yA b=yA i.b/\True))
def zLt (a:gz):Prop:=aq (yT a.wh)=aq (yT a.wh)/\dk (ak 1 (iE a.p.dt))/\dk (ak 1 (iE a.p.settle))
def dU (a:gz):=(D.v (bo (sb a.p.code)))
def Vz (a:Nat×kf->Prop) (b:Nat×kf) (c:gz) (d:Nat) (e:dq):Prop:=a b/\dk (ar 3 1 [[dI 1],[dI 2]])/\dk (am [V.d (dU c),V.own 3,V.d (dI c.p.tick),V.d (dI c.p.low),V.d (dI c.p.high),V.d (dI c.p.wide),V.d (dI c.p.gn),V.d (dI c.p.top),V.d (dI c.p.least),V.d (dI c.p.part),V.own 4,V.own 1,V.mp 2] (159:bg))/\ao 160 dq 6 zR (c.ez.set (d:Int).toNat e) ba=ao 160 dq 6 zR c.ez ba/\zLt c
def ZM (a:gz) (b:Nat×kf) (c:Nat×kf->Prop) (d:Nat) (e:dq):Prop:=∃(f:Nat×kf),aa yC (qF a f.fst f.snd)=aa yC (qF a b.fst b.snd)/\Vz c f a d e
def gH (a:gz) (b:Nat×kf):=(aa yC (qF a b.fst b.snd))
def mO (a:gz) (b:Nat×kf) (c:Nat):=(zJ (gH a b) (c:Int).toNat 1 [D.v (.bool aw)])
def z7 (a:An):=(a.b.iy (a.b.side a.side))
def bM (a:An):=((z7 a).fst.dm)
def bG (a:gz) (b:Nat×kf) (c:Nat) (d:An):=(zJ (mO a b c) (c:Int).toNat 3 [dI (bM d)])
def zEr (a:Nat) (b:gz) (c:Nat×kf) (d:An):Prop:=(0<=(a:Int)/\(a:Int)<((bG b c a d).length:Int))/\dk ((a:Int).toNat)
def mW (a:gz) (b:Nat×kf) (c:Nat):=(zJ (gH a b) (c:Int).toNat 0 [D.v (.bool aw)])
def bJ (a:gz) (b:Nat×kf) (c:Nat) (d:An):=(zJ (mW a b c) (c:Int).toNat 2 [dI (bM d)])
def zDa (a:Nat) (b:gz) (c:Nat×kf) (d:An):Prop:=(0<=(a:Int)/\(a:Int)<((bJ b c a d).length:Int))/\dk ((a:Int).toNat)
def Wm (a:gz):Prop:=0<=(a.ez.length:Int)/\(a.ez.length:Int)<=(a.ez.length:Int)/\(a.ez.length:Int)<=9223372036854775807/\((40:Nat):Int)*(a.ez.length:Int)<=2 ^ (48:Nat)
def mU (a:Nat) (b:gz) (c:Nat×kf):Prop:=(0<=(a:Int)/\(a:Int)<((mO b c a).length:Int))/\dk ((a:Int).toNat)
def mQ (a:Nat) (b:gz) (c:Nat×kf):Prop:=(0<=(a:Int)/\(a:Int)<((mW b c a).length:Int))/\dk ((a:Int).toNat)
def gV:Prop:=0<=au.wrap ((0:Int)+(1:Int))/\au.wrap ((0:Int)+(1:Int))<((2:Nat):Int)
def uI (a:An):Prop:=∀(b:aV),b∈a.b.a.dy->(-9223372036854775808)<=b.count/\b.count<=9223372036854775807
def kV (a:Nat) (b:gz) (c:Nat×kf):Prop:=0<=(a:Int)/\(a:Int)<((gH b c).length:Int)
def gS (a:An):=((z7 a).fst.dr)
@[reducible] def QI (a:gz)(R:Prop):Prop:=yT a.wh=yT a.wh/\ak 1 (iE a.p.dt)=ak 1 (iE a.p.dt)/\ak 1 (iE a.p.settle)=ak 1 (iE a.p.settle)/\R
@[reducible] def YI (a:Nat)(b:gz)(c:Nat×kf)(d:An)(R:Prop):Prop:=(kV a b c)/\(kV a b c)/\(kV a b c)/\(a:Int).toNat<(gH b c).length/\(mQ a b c)/\(mQ a b c)/\(z7 d).fst.dr=(z7 d).fst.dr/\(z7 d).fst.dm=(z7 d).fst.dm/\(a:Int).toNat<(mW b c a).length/\(zDa a b c d)/\(z7 d).fst.dr=(z7 d).fst.dr/\(a:Int).toNat<(bJ b c a d).length/\R
@[reducible] def YH (a:Nat)(b:gz)(c:Nat×kf)(d:An)(R:Prop):Prop:=(kV a b c)/\(kV a b c)/\(kV a b c)/\(a:Int).toNat<(gH b c).length/\(mU a b c)/\(mU a b c)/\(z7 d).fst.dr=(z7 d).fst.dr/\(z7 d).fst.dm=(z7 d).fst.dm/\(a:Int).toNat<(mO b c a).length/\(zEr a b c d)/\(z7 d).fst.dr=(z7 d).fst.dr/\(a:Int).toNat<(bG b c a d).length/\R
@[reducible] def Pl (a:An)(b:dq)(c:Nat)(d:gz)(R:Prop):Prop:=yA a.b=yA b/\(c:Int).toNat=(c:Int).toNat/\(c:Int).toNat<d.ez.length/\R
def y5c (s:gz):Prop:=
 (Wm s)/\∃(a:Nat),(a:Int)=0/\aa yC (qM s a)=ab (s.ez.length:Int).toNat [D.v (.bool av),D.v (.bool av),dI 0,dI 0,dI 0,dI 0]/\∃(b:Nat->Prop),∃(c:Nat->Nat),b a/\∀(d:Nat),b d->dp (decide ((d:Int)<(s.ez.length:Int))) ((0<=(d:Int)/\(d:Int)<(s.ez.length:Int))/\(d:Int).toNat<s.ez.length/\∃(e:Nat×kf),aa yC (qF s e.fst e.snd)=aa yC (qM s d)/\∃(f:Nat×kf->Prop),(((0:Int)<=(0:Int)/\0<((2:Nat):Int))/\∃(g:Int),zC [[dI 1],[dI 2]] (bu 0) 0 1=az [dI g]/\∃(h:dq),s.ez[(d:Int).toNat]?=az h/\∃(j:An),zF j.side=g/\yA j.b=yA h/\(uI j)/\ff (∃(l:dq),Pl j l d s (dp (z7 j).snd (YI d s e j (∃(m:Nat×kf),aa yC (qF s m.fst m.snd)=zJ (bJ s e d j) (d:Int).toNat 4 [dI (gS j)]/\Vz f m s d l)) (ZM s e f d l))))/\∀(g:Nat×kf),f g->∃(h:Nat×kf),aa yC (qF s h.fst h.snd)=aa yC (qF s g.fst g.snd)/\∃(j:Nat×kf->Prop),((gV)/\∃(k:Int),zC [[dI 1],[dI 2]] (au.wrap ((0:Int)+(1:Int))).toNat 0 1=az [dI k]/\∃(l:dq),s.ez[(d:Int).toNat]?=az l/\∃(m:An),zF m.side=k/\yA m.b=yA l/\(uI m)/\ff (∃(p:dq),Pl m p d s (dp (z7 m).snd (YH d s h m (∃(q:Nat×kf),aa yC (qF s q.fst q.snd)=zJ (bG s h d m) (d:Int).toNat 5 [dI (gS m)]/\Vz j q s d p)) (ZM s h j d p))))/\∀(k:Nat×kf),j k->∃(l:Nat),(l:Int)=au.wrap ((d:Int)+1)/\aa yC (qM s l)=aa yC (qF s k.fst k.snd)/\b l/\c l<c d/\dk (am [V.d (dU s),V.own 3,V.d (dI s.p.tick),V.d (dI s.p.low),V.d (dI s.p.high),V.d (dI s.p.wide),V.d (dI s.p.gn),V.d (dI s.p.top),V.d (dI s.p.least),V.d (dI s.p.part),V.own 4,V.own 1,V.mp 2] (159:bg))/\dk (ao 160 dq 6 zR s.ez ba)/\zLt s) (dx (Qc s.p (dk (ao 160 dq 6 zR s.ez ba)/\QI s (aa yC s.fm=aa yC (qM s d)/\True))))
def xBf (s:gz):Prop:=
 ∃(i:List (be×List D)),i=yT s.wh/\True/\∀(o:Unit),True->(dk (sb s.p.code)/\True/\dk s.p.tick/\dk s.p.low/\dk s.p.high/\dk s.p.wide/\dk s.p.gn/\dk s.p.top/\dk s.p.least/\dk s.p.part/\True/\True)/\∃(i0:Nat),(i0:Int)=0/\dk (sb s.p.code)/\dk s.p.tick/\dk s.p.low/\dk s.p.high/\dk s.p.wide/\dk s.p.gn/\dk s.p.top/\dk s.p.least/\dk s.p.part/\ac i0 s.ez=[]/\(ba:Option Nat)=ba/\yT s.wh=i/\dk (ak 1 (iE s.p.dt))/\dk (ak 1 (iE s.p.settle))/\∃(I:Nat->Prop),∃(μ:Nat->Nat),I i0/\∀(ia:Nat),I ia->dp (decide ((ia:Int)<(s.ez.length:Int))) ((0<=(ia:Int)/\(ia:Int)<(s.ez.length:Int))/\(ia:Int).toNat<s.ez.length/\∃(x:dq),s.ez[(ia:Int).toNat]?=az x/\∃(mh:dq),yA mh=yA x/\((mh.a.du.length<=1000000/\mh.a.dy.length<=1000000)/\mh.fv.length<=1000000/\mh.fc.length<=1000000/\mh.spare.length<=1000000)/\∀(o:Unit),True->∃(x:dq),yA mh=yA x/\dk ((ia:Int).toNat)/\(ia:Int).toNat<s.ez.length/\True/\True/\∃(zk:List dq),ao 160 dq 6 zR (ac ia s.ez) ba=ao 160 dq 6 zR zk ba/\(zk.length+1)*(8:Nat)<=(140737488355328:Nat)/\∃(i':Nat),(i':Int)=au.wrap ((ia:Int)+1)/\dk (sb s.p.code)/\dk s.p.tick/\dk s.p.low/\dk s.p.high/\dk s.p.wide/\dk s.p.gn/\dk s.p.top/\dk s.p.least/\dk s.p.part/\ao 160 dq 6 zR (ac i' s.ez) ba=ao 160 dq 6 zR (zk++[mh]) ba/\dk (yT s.wh)/\dk (ak 1 (iE s.p.dt))/\dk (ak 1 (iE s.p.settle))/\I i'/\μ i'<μ ia/\aq i=aq i/\dk (am [V.d (D.v (bo (sb s.p.code))),V.own 3,V.d (D.v (.int .i64 s.p.tick)),V.d (D.v (.int .i64 s.p.low)),V.d (D.v (.int .i64 s.p.high)),V.d (D.v (.int .i64 s.p.wide)),V.d (D.v (.int .i64 s.p.gn)),V.d (D.v (.int .i64 s.p.top)),V.d (D.v (.int .i64 s.p.least)),V.d (D.v (.int .i64 s.p.part)),V.own 4,V.own 1,V.mp 2] (159:bg))/\ao 160 dq 6 zR (s.ez.set (ia:Int).toNat x) ba=ao 160 dq 6 zR s.ez ba/\dk (ak 1 (iE s.p.dt))/\dk (ak 1 (iE s.p.settle))) (∃(o:Unit),dk (sb s.p.code)/\dk s.p.tick/\dk s.p.low/\dk s.p.high/\dk s.p.wide/\dk s.p.gn/\dk s.p.top/\dk s.p.least/\dk s.p.part/\dk (ao 160 dq 6 zR s.ez ba)/\yT s.wh=i/\dk (ak 1 (iE s.p.dt))/\dk (ak 1 (iE s.p.settle))/\dk (sb s.p.code)/\dk s.p.tick/\dk s.p.low/\dk s.p.high/\dk s.p.wide/\dk s.p.gn/\dk s.p.top/\dk s.p.least/\dk s.p.part/\ao 160 dq 6 zR s.ez ba=ao 160 dq 6 zR (ac ia s.ez) ba/\dk (yT s.wh)/\dk (ak 1 (iE s.p.dt))/\dk (ak 1 (iE s.p.settle))/\True)
def jz {α:Type} {f:α->List D} {l:List α} {i g n:Nat} {x:α} {r:List D} (h:l[i]? =az x) (hn:g+n<=(f x).length) (hr:((f x).drop g).take n=r):zC (l.map f) i g n=az r:=by
 unfold zC;rw[ra,h];simp only[wz,Nat.ble_eq_true_of_le hn,cond_true,hr]
def W6 {a:dv} {n:Int} {q:aV} (h0:0<=n) (h:a.dy[n.toNat]? =az q):a.qn n=q:=by
 have:=(jk.1 h).1;rw[dv.qn,fh ⟨h0,X_⟩,mz,h];rfl
def US {a:dv} {n:Int} (h:¬(0<=n/\n<a.dy.length)):a.qn n=⟨0,0,0,0⟩:=by rw[dv.qn,eg h]
def ZY:JF.ok Z_ 255:=gy (V:=yIi) mixed fk 1 i6 i6 [0] func255 λ(i:vc) _=>by
 unfold yIi dx f8 zBn dx wK Q8 dI;simp only[ib];refine zH (λc=>W_ (λd=> ?_) (λd=> ?_)) (λc=> ?_)
 ·have d:¬i.n<(i.a.dy.length:Int):=i9 d
  rw[US X_];exact kp
 ·have d:i.n<(i.a.dy.length:Int):=i9 d
  obtain⟨q,hq⟩:=zZ (l:=i.a.dy) (i:=i.n.toNat) oM;rw[W6 X_ hq];refine⟨⟨oM,oM⟩,q.total,jz hq (by simp[zQ]) rfl,?_⟩;exact kp
 ·rw[US X_];exact kp
def sX:JG.ok Z_ 256:=gy (V:=yHq) mixed fk 1 i6 i6 [0] func256 λ(i:vc) _=>by
 unfold yHq dx f8 zBx dx wK Q8 dI;simp only[ib];refine zH (λc=>W_ (λd=> ?_) (λd=> ?_)) (λc=> ?_)
 ·have d:¬i.n<(i.a.dy.length:Int):=i9 d
  rw[US X_];exact kp
 ·have d:i.n<(i.a.dy.length:Int):=i9 d
  obtain⟨q,hq⟩:=zZ (l:=i.a.dy) (i:=i.n.toNat) oM;rw[W6 X_ hq];refine⟨⟨oM,oM⟩,q.count,jz hq (by simp[zQ]) rfl,?_⟩;exact kp
 ·rw[US X_];exact kp
def JR:aaZ.ok Z_ 216:=gy (V:=xHs) mixed fk 0 i6 i6 [] func216 λ(n:Int) _=>by
 unfold xHs dx;refine W_ (λc=>⟨(),?_,Y_⟩) (λc=>⟨(),?_,Y_⟩)
 all_goals simp at c
 ·simp[c]
 ·by_cases h:n=2<;>simp[c,h]
def yIu:T3.ok Z_ 217:=gy (V:=xHr) mixed (dw ZY (dw sX fk)) 0 i6 i6 [0] func217 λ(i:S4) h=>by
 refine⟨⟨i.b.a,i.r.queue⟩,?_⟩;(repeat'(first|exact rfl|exact Y_|assumption|apply ay|refineλ(_:Unit) (_:True)=>?_|refine ax () ?_|omega|(dsimp only;omega)));refine⟨⟨i.b.a,i.r.queue⟩,?_⟩;exact kp
def yNq:NF.ok Z_ 155:=gy (V:=y8z) mixed (dw JR (dw yIu fk)) 0 i6 i6 [0] func155 λ(b:dq) h=>by
 have h:b.oe:=h;refine⟨1,rfl,Y_,λ_ _=>W_ (λc=>absurd c Z8) λ_=> ?_⟩;simp only[ib];refine W_ (λc=> ?_) (λc=> ?_)
 ·have hl:b.fv=[]:=ye (by have:(b.fv.length:Int)=0:=(i9 c);omega);have e:b.iy b.fv=(⟨0,0,0⟩,av):=by rw[hl];rfl
  rw[e];exact kp
 ·obtain⟨r,l,hl⟩:∃r l,b.fv=r::l:=by
   cases hb:b.fv with
   |nil=>rw[hb]at c;exact absurd c Z8
   |cons r l=>exact⟨r,l,rfl⟩
  have e:b.iy b.fv=(b.told r,aw):=by rw[hl];rfl
  rw[e];refine⟨⟨oM,by rw[hl,iG];omega⟩,r.dm,r.queue,jz (x:=r) (by rw[hl];rfl) (by simp[zD]) rfl,⟨b,r⟩,?_⟩;exact kp
def yNn:ND.ok Z_ 155:=gy (V:=y6z) mixed (dw JR (dw yIu fk)) 0 i6 i6 [0] func155 λ(b:dq) h=>by
 have h:b.oe:=h;refine⟨2,rfl,Y_,λ_ _=>W_ (λc=>absurd c Z8) λ_=> ?_⟩;simp only[ib];refine W_ (λc=> ?_) (λc=> ?_)
 ·have hl:b.fc=[]:=ye (by have:(b.fc.length:Int)=0:=(i9 c);omega);have e:b.iy b.fc=(⟨0,0,0⟩,av):=by rw[hl];rfl
  rw[e];exact kp
 ·obtain⟨r,l,hl⟩:∃r l,b.fc=r::l:=by
   cases hb:b.fc with
   |nil=>rw[hb]at c;exact absurd c Z8
   |cons r l=>exact⟨r,l,rfl⟩
  have e:b.iy b.fc=(b.told r,aw):=by rw[hl];rfl
  rw[e];refine⟨⟨oM,by rw[hl,iG];omega⟩,r.dm,r.queue,jz (x:=r) (by rw[hl];rfl) (by simp[zD]) rfl,⟨b,r⟩,?_⟩;exact kp
def Vj:UM.ok Z_ 155:=λi=>match i with
 |⟨av,b⟩=>yNq b
 |⟨aw,b⟩=>yNn b
def zVu {α:Type} (f:α->α) (x:α) (b:List α):∀a:List α,(a++x::b).modify a.length f=a++f x::b
 |[]=>rfl
 |y::a=>by
  show y::(a++x::b).modify a.length f=_;rw[zVu f x b a];rfl
def zYb {fa:Q_ D} {a b:Q_ D} {x y ds:List D} {j f:Nat} (h:fa=a++x::b) (hl:a.length=j) (hy:x.take f++(ds++x.drop (f+ds.length))=y):zJ fa j f ds=a++y::b:=by
 rw[zJ,h,<- hl,zVu,hy]
def kX {s:gz} {j:Nat} {x y:kf} {f:Nat} {ds:List D} (hj:j<s.ez.length) (hy:(yC x).take f++(ds++(yC x).drop (f+ds.length))=yC y):
 zJ (aa yC (qF s j x)) j f ds=aa yC (qF s j y):=by
 rw[zYb (a:=(s.fm.take j).map yC) (b:=(ab (s.ez.length-j-1) kg).map yC) (by rw[qF,jh,jg]) (by
  rw[ib,nr,gz.fm,ib];omega) hy,qF,jh,jg]
def zSo {s:gz} {j:Nat} {x:kf} (hj:j<s.ez.length):(qF s j x).length=s.ez.length:=by
 rw[qF,ix,iG,nr,gz.fm,ib,HL];omega
def zOq {s:gz} {j:Nat} (hj:j<s.ez.length):qF s j kg=qM s j:=by
 rw[qF,qM];obtain⟨m,hm⟩:∃m,s.ez.length-j=m+1:=⟨s.ez.length-j-1,oM⟩
 rw[hm,Ke];rfl
def zOi {s:gz} {j:Nat} {b:dq} (hb:s.ez[j]? =az b):qF s j b.top=qM s (j+1):=by
 have hj:=(jk.1 hb).1;rw[qF,qM,qf,show s.fm[j]? =az b.top by rw[gz.fm,ra,hb];rfl];simp only[AD,jd,uu,wy];rw[show s.ez.length-j-1=s.ez.length-(j+1)by omega]
def cD {α:Type} {l:List α} {j:Nat} {x:α} (h:l[j]? =az x):l.set j x=l:=by
 obtain⟨hj,rfl⟩:=jk.1 h;exact List.set_getElem_self hj
def xDh (s:gz) (h:KI.dp s):y5c s:=by
 obtain⟨h1,h2⟩:s.oe:=h;unfold y5c QI YI YH Pl Qc ff dx ZM Vz dU gS kV uI gV mQ mU zLt Wm zDa bJ mW zEr bG bM z7 mO gH dI;have p48:(2:Int) ^ (48:Nat)=281474976710656:=by decide
 refine⟨⟨oM,oM,oM,by rw[p48];omega⟩,0,rfl,?_,λj=>j<=s.ez.length,λj=>s.ez.length-j,oM,λj hj=>zH (λgr=> ?_) (λgr=> ?_)⟩
 ·rw[qM,jh,OA];rfl
 ·have oz:j<s.ez.length:=X_
  obtain⟨b,hb⟩:=zZ oz;have hc:=h2 b (kx hb);simp only[ov];have ha:∀x,(aa yC (qF s j x)).length=s.ez.length:=λx=>by rw[ib,zSo oz]
  have w1:au.wrap (0+1)=1:=by decide
  have w2:(0+1) % ((2:Int) ^ au.bits).natAbs=1:=by decide
  refine⟨⟨oM,oM⟩,oM,(j,kg),by rw[zOq oz],λx=>x=(j,kg.F9 (b.iy b.fv)),⟨⟨Z8,Z8⟩,1,rfl,b,hb,⟨av,b⟩,rfl,rfl,hc,λ_ _=>⟨b,rfl,kp,oM,?_⟩⟩,?_⟩
  ·refine W_ (λc=> ?_) (λc=> ?_)
   ·have c:(b.iy b.fv).2=aw:=c;have e1:=kX (s:=s) oz (x:=kg) (y:={kg with gv:=aw}) (f:=0+0+0*1) (ds:=[D.v (.bool aw)]) rfl;have e2:=kX (s:=s) oz (x:={kg with gv:=aw}) (y:={kg with gv:=aw,p1:=(b.iy b.fv).1.dm}) (f:=0+2+0*1) (ds:=[D.v (.int .i64 (b.iy b.fv).1.dm)]) rfl;have e3:=kX (s:=s) oz (x:={kg with gv:=aw,p1:=(b.iy b.fv).1.dm}) (y:={kg with gv:=aw,p1:=(b.iy b.fv).1.dm,q1:=(b.iy b.fv).1.dr}) (f:=0+4+0*1) (ds:=[D.v (.int .i64 (b.iy b.fv).1.dr)]) rfl;dsimp only;simp only[show b.side av=b.fv from rfl,e1,e2,e3,ha]
    (repeat'(first|exact rfl|exact Y_|assumption|apply ay|refineλ(_:Unit) (_:True)=>?_|refine ax () ?_|omega|(dsimp only;omega)))
    refine⟨(j,{kg with gv:=aw,p1:=(b.iy b.fv).1.dm,q1:=(b.iy b.fv).1.dr}),rfl,?_,?_⟩
    ·rw[kf.F9,fh c]
    ·(repeat'(first|exact rfl|exact Y_|assumption|apply ay|refineλ(_:Unit) (_:True)=>?_|refine ax () ?_|omega|(dsimp only;omega)))
     rw[cD hb]
   ·have c:(b.iy b.fv).2=av:=c;refine⟨(j,kg),rfl,?_,?_⟩
    ·rw[kf.F9,eg (by rw[c];simp)]
    ·(repeat'(first|exact rfl|exact Y_|assumption|apply ay|refineλ(_:Unit) (_:True)=>?_|refine ax () ?_|omega|(dsimp only;omega)))
     rw[cD hb]
  ·rintro _ rfl;rw[w1];generalize hx:kg.F9 (b.iy b.fv)=x;have Se:b.top=x.AQ (b.iy b.fc):=by rw[dq.top,hx]
   refine⟨(j,x),rfl,λy=>y=(j,b.top),⟨⟨Z8,Z8⟩,2,rfl,b,hb,⟨aw,b⟩,rfl,rfl,hc,λ_ _=>⟨b,rfl,kp,oM,?_⟩⟩,?_⟩
   ·refine W_ (λc=> ?_) (λc=> ?_)
    ·have c:(b.iy b.fc).2=aw:=c;have e1:=kX (s:=s) oz (x:=x) (y:={x with gq:=aw}) (f:=0+0+1*1) (ds:=[D.v (.bool aw)]) rfl;have e2:=kX (s:=s) oz (x:={x with gq:=aw}) (y:={x with gq:=aw,p2:=(b.iy b.fc).1.dm}) (f:=0+2+1*1) (ds:=[D.v (.int .i64 (b.iy b.fc).1.dm)]) rfl;have e3:=kX (s:=s) oz (x:={x with gq:=aw,p2:=(b.iy b.fc).1.dm}) (y:={x with gq:=aw,p2:=(b.iy b.fc).1.dm,q2:=(b.iy b.fc).1.dr}) (f:=0+4+1*1) (ds:=[D.v (.int .i64 (b.iy b.fc).1.dr)]) rfl;dsimp only;simp only[w2,show b.side aw=b.fc from rfl,e1,e2,e3,ha]
     (repeat'(first|exact rfl|exact Y_|assumption|apply ay|refineλ(_:Unit) (_:True)=>?_|refine ax () ?_|omega|(dsimp only;omega)))
     refine⟨(j,{x with gq:=aw,p2:=(b.iy b.fc).1.dm,q2:=(b.iy b.fc).1.dr}),rfl,?_,?_⟩
     ·rw[Se,kf.AQ,fh c]
     ·(repeat'(first|exact rfl|exact Y_|assumption|apply ay|refineλ(_:Unit) (_:True)=>?_|refine ax () ?_|omega|(dsimp only;omega)))
      rw[cD hb]
    ·have c:(b.iy b.fc).2=av:=c;refine⟨(j,x),rfl,?_,?_⟩
     ·rw[Se,kf.AQ,eg (by rw[c];simp)]
     ·(repeat'(first|exact rfl|exact Y_|assumption|apply ay|refineλ(_:Unit) (_:True)=>?_|refine ax () ?_|omega|(dsimp only;omega)))
      rw[cD hb]
   ·rintro _ rfl;refine⟨j+1,by rw[iw X_];rfl,?_⟩;refine⟨by dsimp only;rw[zOi hb],?_⟩;exact kp
 ·have hj:j<=s.ez.length:=hj;obtain rfl:j=s.ez.length:=X_
  have e:qM s s.ez.length=s.fm:=by
   rw[qM,J6,List.replicate_zero,oQ,ng (by rw[gz.fm,ib];omega)]
  rw[e];exact kp
def yGi:KI.ok Z_ 78:=gy mixed (dw Vj fk) 0 (λs=>y3o s) (λs=>y4i s) [0] func78 xDh
def P5:Nz.ok Z_ 85:=gy (V:=xBf) mixed (dw yYe (dw yNv fk)) 0 i6 (λs=>y6u s) [0] func85 λ(s:gz) h=>by
 obtain⟨h1,h2⟩:s.small:=h;refine⟨yT s.wh,?_⟩;(repeat'(first|exact rfl|exact Y_|assumption|apply ay|refineλ(_:Unit) (_:True)=>?_|refine ax () ?_|omega|(dsimp only;omega)));refine⟨0,?_⟩;(repeat'(first|exact rfl|exact Y_|assumption|apply ay|refineλ(_:Unit) (_:True)=>?_|refine ax () ?_|omega|(dsimp only;omega)));refine⟨λj=>j<=s.ez.length,λj=>s.ez.length-j,oM,λj hj=>zH (λgr=> ?_) (λgr=> ?_)⟩
 ·obtain⟨b,hb⟩:=zZ (l:=s.ez) (i:=j) oM;have hs:=h2 b (kx hb);simp only[ov];refine⟨⟨oM,oM⟩,oM,b,hb,b,rfl,hs,λ_ _=>⟨b,rfl,kp,oM,Y_,Y_,s.ez.take j,rfl,?_,j+1,?_⟩⟩
  ·rw[nr];omega
  ·rw[iw X_,qf,hb]
   (repeat'(first|exact rfl|exact Y_|assumption|apply ay|refineλ(_:Unit) (_:True)=>?_|refine ax () ?_|omega|(dsimp only;omega)))
   rw[cD hb]
 ·have hj:j<=s.ez.length:=hj;obtain rfl:j=s.ez.length:=X_
  rw[ng (jx _)];exact kp
structure Cw where
 inst:Int
 side:Int
 deriving DecidableEq
structure Quote where
 dm:Int
 dr:Int
 a:Cw
 b:Cw
 deriving DecidableEq
def zL (q:Quote):List D:=[.v (.int .i64 q.dm),.v (.int .i64 q.dr),.v (.int .i64 q.a.inst),.v (.int .i64 q.a.side),.v (.int .i64 q.b.inst),.v (.int .i64 q.b.side)]
@[reducible] def WU (q:Quote):V:= .agg [zB q.dm,zB q.dr,zB q.a.inst,zB q.a.side,zB q.b.inst,zB q.b.side]
def y9a:Quote:=⟨0,0,⟨0,0⟩,⟨0,0⟩⟩
structure Ew where
 side:Int
 x:Int
 y:Int
def jo (side x y:Int):Bool:=if side=1 then decide (y<x)else decide (x<y)
def Jy:gh:=fp Int (λn=>[zB n]) i6 (λn=>n=1\/n=2) (λn=>zB (3-n)) i6
def Ho:gh:=fp Ew (λi=>[zB i.side,zB i.x,zB i.y]) i6 (λ_=>True) (λi=>yM (jo i.side i.x i.y)) i6
def kf.has (t:kf) (s:Int):Bool:=if s=1 then t.gv else t.gq
def kf.dm (t:kf) (s:Int):Int:=if s=1 then t.p1 else t.p2
def kf.dr (t:kf) (s:Int):Int:=if s=1 then t.q1 else t.q2
def xy (fm:List kf) (a b:Cw) (less:Bool):List Quote:=
 let x:=fm.getD a.inst.toNat kg
 let y:=fm.getD b.inst.toNat kg
 let r:=if less then fL (y.dm b.side) (x.dm a.side)else fC (x.dm a.side) (y.dm b.side)
 if x.has a.side && y.has b.side && r.2 then[⟨r.1,min (x.dr a.side) (y.dr b.side),a,b⟩]else[]
structure u' where
 fm:List kf
 out:List Quote
 a:Int
 b:Int
 less:Bool
@[reducible] def vW (l:List kf):Prop:=l.length<=1000000/\∀t∈l,gx t.p1/\gx t.p2
def Bq (x:List kf×List Quote):Nat->fq
 |0=> .cells [.own 1,.own 2] 343
 |1=> .kr 6 (x.1.map yC)
 |2=> .own 271 6 (x.2.map zL)
 |_=> .gone
@[reducible] def YL (fm:List kf) (out:List Quote):List fq:=[Bq (fm,out) 0,Bq (fm,out) 1,Bq (fm,out) 2]
@[reducible] def MkP (fm:List kf) (out:List Quote):List fq:=[.cells [.own 1,.own 3] 343,Bq (fm,out) 1,.gone,Bq (fm,out) 2]
def X2 (sa sb:Int):gh:=fp u' (λi=>[.nm 0 0,.agg [zB i.a,zB sa],.agg [zB i.b,zB sb],yM i.less]) (λi=>YL i.fm i.out)
 (λi=>0<=i.a/\i.a<i.fm.length/\0<=i.b/\i.b<i.fm.length/\vW i.fm/\i.out.length<=1000) (λ_=>pW) (λi=>MkP i.fm (i.out++xy i.fm ⟨i.a,sa⟩ ⟨i.b,sb⟩ i.less))
def Tn:gh:=X2 1 1
def Tm:gh:=X2 1 2
def Tl:gh:=X2 2 1
def Tk:gh:=X2 2 2
def yXu (n:Int):Prop:=
 ∃(o:Unit),3-n=au.wrap (3-n)/\True
def yRd (i:Ew):Prop:=
 dp (i.side==1) (∃(o:Unit),jo i.side i.x i.y=decide (i.x>i.y)/\True) (∃(o:Unit),jo i.side i.x i.y=decide (i.x<i.y)/\True)
def Wc (a:u'):=(a.out++xy a.fm (Cw.mk a.a 1) (Cw.mk a.b 1) a.less)
def sF (a:u'):Prop:=dx (ak 6 (aa yC a.fm)=Bq (a.fm,a.out) 1/\aa zL (Wc a)=aa zL a.out/\True)
def wD (a:I2):Prop:=((-9223372036854775808)<=a.x/\a.x<=9223372036854775807)/\(-9223372036854775808)<=a.y/\a.y<=9223372036854775807
def kR (a:u'):=((aa yC a.fm).length:Int)
def qR (a:u'):Prop:=(0<=a.b/\a.b<(kR a))/\dk a.b.toNat
def j7 (a:u'):Prop:=(0<=a.a/\a.a<(kR a))/\dk a.a.toNat
def wC (a:u'):=((aa zL a.out).length+1)
@[reducible] def Qu (a:u')(R:Prop):Prop:=True/\(qR a)/\a.b=a.b/\True/\True/\(j7 a)/\a.a=a.a/\True/\R
@[reducible] def Fs (a:u')(R:Prop):Prop:=True/\(wC a)*(48:Nat)<=(140737488355328:Nat)/\R
def Zn (a:u') (b:Bool) (c:Bool) (d:Int) (e:Int) (f:Int) (g:Int):Prop:=Qu a (Qu a (True/\(qR a)/\a.b=a.b/\True/\dp (!b) (sF a) (dp (!c) (sF a) (∃(h:I2),h.x=d/\h.y=e/\(wD h)/\ff (dp a.less (∃(k:I2),k.x=e/\k.y=d/\(wD k)/\ff (dp (fL k.x k.y).snd (Fs a (dx (ak 6 (aa yC a.fm)=Bq (a.fm,a.out) 1/\aa zL (Wc a)=aa zL a.out++[[dI ((fL k.x k.y).fst),dI (min f g),dI a.a,dI 1,dI a.b,dI 1]]/\True))) (sF a))) (dp (fC h.x h.y).snd (Fs a (dx (ak 6 (aa yC a.fm)=Bq (a.fm,a.out) 1/\aa zL (Wc a)=aa zL a.out++[[dI ((fC h.x h.y).fst),dI (min f g),dI a.a,dI 1,dI a.b,dI 1]]/\True))) (sF a)))))))
def y2x (i:u'):Prop:=
 (0<=i.a/\i.a<(kR i))/\∃(a:Bool),∃(b:Bool),∃(c:Int),∃(d:Int),∃(e:Int),∃(f:Int),zC (aa yC i.fm) i.a.toNat 0 6=az [D.v (.bool a),D.v (.bool b),dI c,dI d,dI e,dI f]/\(0<=i.b/\i.b<(kR i))/\∃(g:Bool),∃(h:Bool),∃(j:Int),∃(k:Int),∃(l:Int),∃(m:Int),zC (aa yC i.fm) i.b.toNat 0 6=az [D.v (.bool g),D.v (.bool h),dI j,dI k,dI l,dI m]/\(Zn i a g c j e l)/\Zn i a g c j e l
def WD (a:u'):=(a.out++xy a.fm (Cw.mk a.a 1) (Cw.mk a.b 2) a.less)
def sU (a:u'):Prop:=dx (ak 6 (aa yC a.fm)=Bq (a.fm,a.out) 1/\aa zL (WD a)=aa zL a.out/\True)
def Zg (a:u') (b:Bool) (c:Bool) (d:Int) (e:Int) (f:Int) (g:Int):Prop:=Qu a (Qu a (True/\(qR a)/\a.b=a.b/\True/\dp (!b) (sU a) (dp (!c) (sU a) (∃(h:I2),h.x=d/\h.y=e/\(wD h)/\ff (dp a.less (∃(k:I2),k.x=e/\k.y=d/\(wD k)/\ff (dp (fL k.x k.y).snd (Fs a (dx (ak 6 (aa yC a.fm)=Bq (a.fm,a.out) 1/\aa zL (WD a)=aa zL a.out++[[dI ((fL k.x k.y).fst),dI (min f g),dI a.a,dI 1,dI a.b,dI 2]]/\True))) (sU a))) (dp (fC h.x h.y).snd (Fs a (dx (ak 6 (aa yC a.fm)=Bq (a.fm,a.out) 1/\aa zL (WD a)=aa zL a.out++[[dI ((fC h.x h.y).fst),dI (min f g),dI a.a,dI 1,dI a.b,dI 2]]/\True))) (sU a)))))))
def y4y (i:u'):Prop:=
 (0<=i.a/\i.a<(kR i))/\∃(a:Bool),∃(b:Bool),∃(c:Int),∃(d:Int),∃(e:Int),∃(f:Int),zC (aa yC i.fm) i.a.toNat 0 6=az [D.v (.bool a),D.v (.bool b),dI c,dI d,dI e,dI f]/\(0<=i.b/\i.b<(kR i))/\∃(g:Bool),∃(h:Bool),∃(j:Int),∃(k:Int),∃(l:Int),∃(m:Int),zC (aa yC i.fm) i.b.toNat 0 6=az [D.v (.bool g),D.v (.bool h),dI j,dI k,dI l,dI m]/\(Zg i a h c k e m)/\Zg i a h c k e m
def Wn (a:u'):=(a.out++xy a.fm (Cw.mk a.a 2) (Cw.mk a.b 1) a.less)
def sS (a:u'):Prop:=dx (ak 6 (aa yC a.fm)=Bq (a.fm,a.out) 1/\aa zL (Wn a)=aa zL a.out/\True)
def ZQ (a:u') (b:Bool) (c:Bool) (d:Int) (e:Int) (f:Int) (g:Int):Prop:=Qu a (Qu a (True/\(qR a)/\a.b=a.b/\True/\dp (!b) (sS a) (dp (!c) (sS a) (∃(h:I2),h.x=d/\h.y=e/\(wD h)/\ff (dp a.less (∃(k:I2),k.x=e/\k.y=d/\(wD k)/\ff (dp (fL k.x k.y).snd (Fs a (dx (ak 6 (aa yC a.fm)=Bq (a.fm,a.out) 1/\aa zL (Wn a)=aa zL a.out++[[dI ((fL k.x k.y).fst),dI (min f g),dI a.a,dI 2,dI a.b,dI 1]]/\True))) (sS a))) (dp (fC h.x h.y).snd (Fs a (dx (ak 6 (aa yC a.fm)=Bq (a.fm,a.out) 1/\aa zL (Wn a)=aa zL a.out++[[dI ((fC h.x h.y).fst),dI (min f g),dI a.a,dI 2,dI a.b,dI 1]]/\True))) (sS a)))))))
def y4f (i:u'):Prop:=
 (0<=i.a/\i.a<(kR i))/\∃(a:Bool),∃(b:Bool),∃(c:Int),∃(d:Int),∃(e:Int),∃(f:Int),zC (aa yC i.fm) i.a.toNat 0 6=az [D.v (.bool a),D.v (.bool b),dI c,dI d,dI e,dI f]/\(0<=i.b/\i.b<(kR i))/\∃(g:Bool),∃(h:Bool),∃(j:Int),∃(k:Int),∃(l:Int),∃(m:Int),zC (aa yC i.fm) i.b.toNat 0 6=az [D.v (.bool g),D.v (.bool h),dI j,dI k,dI l,dI m]/\(ZQ i b g d j f l)/\ZQ i b g d j f l
def Wl (a:u'):=(a.out++xy a.fm (Cw.mk a.a 2) (Cw.mk a.b 2) a.less)
def tA (a:u'):Prop:=dx (ak 6 (aa yC a.fm)=Bq (a.fm,a.out) 1/\aa zL (Wl a)=aa zL a.out/\True)
def Zj (a:u') (b:Bool) (c:Bool) (d:Int) (e:Int) (f:Int) (g:Int):Prop:=Qu a (Qu a (True/\(qR a)/\a.b=a.b/\True/\dp (!b) (tA a) (dp (!c) (tA a) (∃(h:I2),h.x=d/\h.y=e/\(wD h)/\ff (dp a.less (∃(k:I2),k.x=e/\k.y=d/\(wD k)/\ff (dp (fL k.x k.y).snd (Fs a (dx (ak 6 (aa yC a.fm)=Bq (a.fm,a.out) 1/\aa zL (Wl a)=aa zL a.out++[[dI ((fL k.x k.y).fst),dI (min f g),dI a.a,dI 2,dI a.b,dI 2]]/\True))) (tA a))) (dp (fC h.x h.y).snd (Fs a (dx (ak 6 (aa yC a.fm)=Bq (a.fm,a.out) 1/\aa zL (Wl a)=aa zL a.out++[[dI ((fC h.x h.y).fst),dI (min f g),dI a.a,dI 2,dI a.b,dI 2]]/\True))) (tA a)))))))
def y3j (i:u'):Prop:=
 (0<=i.a/\i.a<(kR i))/\∃(a:Bool),∃(b:Bool),∃(c:Int),∃(d:Int),∃(e:Int),∃(f:Int),zC (aa yC i.fm) i.a.toNat 0 6=az [D.v (.bool a),D.v (.bool b),dI c,dI d,dI e,dI f]/\(0<=i.b/\i.b<(kR i))/\∃(g:Bool),∃(h:Bool),∃(j:Int),∃(k:Int),∃(l:Int),∃(m:Int),zC (aa yC i.fm) i.b.toNat 0 6=az [D.v (.bool g),D.v (.bool h),dI j,dI k,dI l,dI m]/\(Zj i b h d k f m)/\Zj i b h d k f m
def zZh:Jy.ok Z_ 220:=gy (V:=yXu) mixed fk 0 i6 i6 [] func220 λ(n:Int) h=>by
 have h:n=1\/n=2:=h;refine⟨(),?_,Y_⟩;rw[iw X_]
def z9h:Ho.ok Z_ 218:=gy (V:=yRd) mixed fk 0 i6 i6 [] func218 λ(i:Ew) _=>by
 refine W_ (λe=>⟨(),?_,Y_⟩) (λe=>⟨(),?_,Y_⟩)
 ·have e:i.side=1:=i9 e
  simp[jo,e]
 ·have e:i.side≠1:=i9 e
  simp[jo,e]
def Xj (a b:Int):(if b<a then b else a)=min a b:=by split<;>omega
def xFb (i:u') (h:Tn.dp i):y2x i:=by
 obtain⟨a0,a1,b0,b1,⟨ht,hp⟩,ho⟩:0<=i.a/\i.a<i.fm.length/\0<=i.b/\i.b<i.fm.length/\vW i.fm/\i.out.length<=1000:=h;obtain⟨x,hx⟩:=zZ (l:=i.fm) (i:=i.a.toNat) oM;obtain⟨y,hy⟩:=zZ (l:=i.fm) (i:=i.b.toNat) oM;obtain⟨⟨px1,px2⟩,px3,px4⟩:=hp x (kx hx);obtain⟨⟨py1,py2⟩,py3,py4⟩:=hp y (kx hy);have e0:xy i.fm ⟨i.a,1⟩ ⟨i.b,1⟩ i.less=if x.gv && y.gv && (if i.less then fL y.p1 x.p1 else fC x.p1 y.p1).2 then[⟨(if i.less then fL y.p1 x.p1 else fC x.p1 y.p1).1,min x.q1 y.q1,⟨i.a,1⟩,⟨i.b,1⟩⟩]else[]:=by
  simp only[xy,mz,hx,hy,Ae];rfl
 unfold y2x Zn Fs ff dx Qu wC j7 qR kR wD sF dx Wc dI;simp only[ib];refine⟨⟨oM,oM⟩,x.gv,x.gq,x.p1,x.p2,x.q1,x.q2,jz hx (by simp[yC]) rfl,⟨oM,oM⟩,y.gv,y.gq,y.p1,y.p2,y.q1,y.q2,jz hy (by simp[yC]) rfl,?_⟩;rw[e0]
 (repeat'(first|exact rfl|exact Y_|assumption|apply ay|refineλ(_:Unit) (_:True)=>?_|refine ax () ?_|omega|(dsimp only;omega)))
 all_goals
  refine W_ (λc1=> ?_) (λc1=>W_ (λc2=> ?_) (λc2=> ?_))
  ·have c1:x.gv=av:=i9 c1
   simp only[c1,Dr,oS,if_false,oQ];exact kp
  ·have c2:y.gv=av:=i9 c2
   simp only[c2,J7,Dr,oS,if_false,oQ];exact kp
  ·have c1:x.gv=aw:=i9 c1
   have c2:y.gv=aw:=i9 c2
   simp only[c1,c2,AA,Xj];refine⟨⟨x.p1,y.p1⟩,?_⟩
   (repeat'(first|exact rfl|exact Y_|assumption|apply ay|refineλ(_:Unit) (_:True)=>?_|refine ax () ?_|omega|(dsimp only;omega)))
   refine W_ (λc3=> ?_) (λc3=> ?_)
   ·have c3:i.less=aw:=c3;simp only[c3,if_true];refine⟨⟨y.p1,x.p1⟩,?_⟩
    (repeat'(first|exact rfl|exact Y_|assumption|apply ay|refineλ(_:Unit) (_:True)=>?_|refine ax () ?_|omega|(dsimp only;omega)))
    refine W_ (λc4=> ?_) (λc4=> ?_)
    ·have c4:(fL y.p1 x.p1).2=aw:=c4;simp only[c4,if_true,jh];exact kp
    ·have c4:(fL y.p1 x.p1).2=av:=c4;simp only[c4,oS,if_false,oQ];exact kp
   ·have c3:i.less=av:=c3;simp only[c3,oS,if_false];refine W_ (λc4=> ?_) (λc4=> ?_)
    ·have c4:(fC x.p1 y.p1).2=aw:=c4;simp only[c4,if_true,jh];exact kp
    ·have c4:(fC x.p1 y.p1).2=av:=c4;simp only[c4,oS,if_false,oQ];exact kp
def yXl:Tn.ok Z_ 221:=gy mixed (dw W8 (dw WZ fk)) 0 i6 i6 [] func221 xFb
def xGs (i:u') (h:Tm.dp i):y4y i:=by
 obtain⟨a0,a1,b0,b1,⟨ht,hp⟩,ho⟩:0<=i.a/\i.a<i.fm.length/\0<=i.b/\i.b<i.fm.length/\vW i.fm/\i.out.length<=1000:=h;obtain⟨x,hx⟩:=zZ (l:=i.fm) (i:=i.a.toNat) oM;obtain⟨y,hy⟩:=zZ (l:=i.fm) (i:=i.b.toNat) oM;obtain⟨⟨px1,px2⟩,px3,px4⟩:=hp x (kx hx);obtain⟨⟨py1,py2⟩,py3,py4⟩:=hp y (kx hy);have e0:xy i.fm ⟨i.a,1⟩ ⟨i.b,2⟩ i.less=if x.gv && y.gq && (if i.less then fL y.p2 x.p1 else fC x.p1 y.p2).2 then[⟨(if i.less then fL y.p2 x.p1 else fC x.p1 y.p2).1,min x.q1 y.q2,⟨i.a,1⟩,⟨i.b,2⟩⟩]else[]:=by
  simp only[xy,mz,hx,hy,Ae];rfl
 unfold y4y Zg Fs ff dx Qu sU dx WD wC j7 qR wD kR dI;simp only[ib];refine⟨⟨oM,oM⟩,x.gv,x.gq,x.p1,x.p2,x.q1,x.q2,jz hx (by simp[yC]) rfl,⟨oM,oM⟩,y.gv,y.gq,y.p1,y.p2,y.q1,y.q2,jz hy (by simp[yC]) rfl,?_⟩;rw[e0]
 (repeat'(first|exact rfl|exact Y_|assumption|apply ay|refineλ(_:Unit) (_:True)=>?_|refine ax () ?_|omega|(dsimp only;omega)))
 all_goals
  refine W_ (λc1=> ?_) (λc1=>W_ (λc2=> ?_) (λc2=> ?_))
  ·have c1:x.gv=av:=i9 c1
   simp only[c1,Dr,oS,if_false,oQ];exact kp
  ·have c2:y.gq=av:=i9 c2
   simp only[c2,J7,Dr,oS,if_false,oQ];exact kp
  ·have c1:x.gv=aw:=i9 c1
   have c2:y.gq=aw:=i9 c2
   simp only[c1,c2,AA,Xj];refine⟨⟨x.p1,y.p2⟩,?_⟩
   (repeat'(first|exact rfl|exact Y_|assumption|apply ay|refineλ(_:Unit) (_:True)=>?_|refine ax () ?_|omega|(dsimp only;omega)))
   refine W_ (λc3=> ?_) (λc3=> ?_)
   ·have c3:i.less=aw:=c3;simp only[c3,if_true];refine⟨⟨y.p2,x.p1⟩,?_⟩
    (repeat'(first|exact rfl|exact Y_|assumption|apply ay|refineλ(_:Unit) (_:True)=>?_|refine ax () ?_|omega|(dsimp only;omega)))
    refine W_ (λc4=> ?_) (λc4=> ?_)
    ·have c4:(fL y.p2 x.p1).2=aw:=c4;simp only[c4,if_true,jh];exact kp
    ·have c4:(fL y.p2 x.p1).2=av:=c4;simp only[c4,oS,if_false,oQ];exact kp
   ·have c3:i.less=av:=c3;simp only[c3,oS,if_false];refine W_ (λc4=> ?_) (λc4=> ?_)
    ·have c4:(fC x.p1 y.p2).2=aw:=c4;simp only[c4,if_true,jh];exact kp
    ·have c4:(fC x.p1 y.p2).2=av:=c4;simp only[c4,oS,if_false,oQ];exact kp
def yXv:Tm.ok Z_ 221:=gy mixed (dw W8 (dw WZ fk)) 0 i6 i6 [] func221 xGs
def xFa (i:u') (h:Tl.dp i):y4f i:=by
 obtain⟨a0,a1,b0,b1,⟨ht,hp⟩,ho⟩:0<=i.a/\i.a<i.fm.length/\0<=i.b/\i.b<i.fm.length/\vW i.fm/\i.out.length<=1000:=h;obtain⟨x,hx⟩:=zZ (l:=i.fm) (i:=i.a.toNat) oM;obtain⟨y,hy⟩:=zZ (l:=i.fm) (i:=i.b.toNat) oM;obtain⟨⟨px1,px2⟩,px3,px4⟩:=hp x (kx hx);obtain⟨⟨py1,py2⟩,py3,py4⟩:=hp y (kx hy);have e0:xy i.fm ⟨i.a,2⟩ ⟨i.b,1⟩ i.less=if x.gq && y.gv && (if i.less then fL y.p1 x.p2 else fC x.p2 y.p1).2 then[⟨(if i.less then fL y.p1 x.p2 else fC x.p2 y.p1).1,min x.q2 y.q1,⟨i.a,2⟩,⟨i.b,1⟩⟩]else[]:=by
  simp only[xy,mz,hx,hy,Ae];rfl
 unfold y4f ZQ Fs ff dx Qu sS dx Wn wC j7 qR wD kR dI;simp only[ib];refine⟨⟨oM,oM⟩,x.gv,x.gq,x.p1,x.p2,x.q1,x.q2,jz hx (by simp[yC]) rfl,⟨oM,oM⟩,y.gv,y.gq,y.p1,y.p2,y.q1,y.q2,jz hy (by simp[yC]) rfl,?_⟩;rw[e0]
 (repeat'(first|exact rfl|exact Y_|assumption|apply ay|refineλ(_:Unit) (_:True)=>?_|refine ax () ?_|omega|(dsimp only;omega)))
 all_goals
  refine W_ (λc1=> ?_) (λc1=>W_ (λc2=> ?_) (λc2=> ?_))
  ·have c1:x.gq=av:=i9 c1
   simp only[c1,Dr,oS,if_false,oQ];exact kp
  ·have c2:y.gv=av:=i9 c2
   simp only[c2,J7,Dr,oS,if_false,oQ];exact kp
  ·have c1:x.gq=aw:=i9 c1
   have c2:y.gv=aw:=i9 c2
   simp only[c1,c2,AA,Xj];refine⟨⟨x.p2,y.p1⟩,?_⟩
   (repeat'(first|exact rfl|exact Y_|assumption|apply ay|refineλ(_:Unit) (_:True)=>?_|refine ax () ?_|omega|(dsimp only;omega)))
   refine W_ (λc3=> ?_) (λc3=> ?_)
   ·have c3:i.less=aw:=c3;simp only[c3,if_true];refine⟨⟨y.p1,x.p2⟩,?_⟩
    (repeat'(first|exact rfl|exact Y_|assumption|apply ay|refineλ(_:Unit) (_:True)=>?_|refine ax () ?_|omega|(dsimp only;omega)))
    refine W_ (λc4=> ?_) (λc4=> ?_)
    ·have c4:(fL y.p1 x.p2).2=aw:=c4;simp only[c4,if_true,jh];exact kp
    ·have c4:(fL y.p1 x.p2).2=av:=c4;simp only[c4,oS,if_false,oQ];exact kp
   ·have c3:i.less=av:=c3;simp only[c3,oS,if_false];refine W_ (λc4=> ?_) (λc4=> ?_)
    ·have c4:(fC x.p2 y.p1).2=aw:=c4;simp only[c4,if_true,jh];exact kp
    ·have c4:(fC x.p2 y.p1).2=av:=c4;simp only[c4,oS,if_false,oQ];exact kp
def y0s:Tl.ok Z_ 221:=gy mixed (dw W8 (dw WZ fk)) 0 i6 i6 [] func221 xFa
def xHh (i:u') (h:Tk.dp i):y3j i:=by
 obtain⟨a0,a1,b0,b1,⟨ht,hp⟩,ho⟩:0<=i.a/\i.a<i.fm.length/\0<=i.b/\i.b<i.fm.length/\vW i.fm/\i.out.length<=1000:=h;obtain⟨x,hx⟩:=zZ (l:=i.fm) (i:=i.a.toNat) oM;obtain⟨y,hy⟩:=zZ (l:=i.fm) (i:=i.b.toNat) oM;obtain⟨⟨px1,px2⟩,px3,px4⟩:=hp x (kx hx);obtain⟨⟨py1,py2⟩,py3,py4⟩:=hp y (kx hy);have e0:xy i.fm ⟨i.a,2⟩ ⟨i.b,2⟩ i.less=if x.gq && y.gq && (if i.less then fL y.p2 x.p2 else fC x.p2 y.p2).2 then[⟨(if i.less then fL y.p2 x.p2 else fC x.p2 y.p2).1,min x.q2 y.q2,⟨i.a,2⟩,⟨i.b,2⟩⟩]else[]:=by
  simp only[xy,mz,hx,hy,Ae];rfl
 unfold y3j Zj Fs ff dx Qu tA dx Wl wC j7 qR wD kR dI;simp only[ib];refine⟨⟨oM,oM⟩,x.gv,x.gq,x.p1,x.p2,x.q1,x.q2,jz hx (by simp[yC]) rfl,⟨oM,oM⟩,y.gv,y.gq,y.p1,y.p2,y.q1,y.q2,jz hy (by simp[yC]) rfl,?_⟩;rw[e0]
 (repeat'(first|exact rfl|exact Y_|assumption|apply ay|refineλ(_:Unit) (_:True)=>?_|refine ax () ?_|omega|(dsimp only;omega)))
 all_goals
  refine W_ (λc1=> ?_) (λc1=>W_ (λc2=> ?_) (λc2=> ?_))
  ·have c1:x.gq=av:=i9 c1
   simp only[c1,Dr,oS,if_false,oQ];exact kp
  ·have c2:y.gq=av:=i9 c2
   simp only[c2,J7,Dr,oS,if_false,oQ];exact kp
  ·have c1:x.gq=aw:=i9 c1
   have c2:y.gq=aw:=i9 c2
   simp only[c1,c2,AA,Xj];refine⟨⟨x.p2,y.p2⟩,?_⟩
   (repeat'(first|exact rfl|exact Y_|assumption|apply ay|refineλ(_:Unit) (_:True)=>?_|refine ax () ?_|omega|(dsimp only;omega)))
   refine W_ (λc3=> ?_) (λc3=> ?_)
   ·have c3:i.less=aw:=c3;simp only[c3,if_true];refine⟨⟨y.p2,x.p2⟩,?_⟩
    (repeat'(first|exact rfl|exact Y_|assumption|apply ay|refineλ(_:Unit) (_:True)=>?_|refine ax () ?_|omega|(dsimp only;omega)))
    refine W_ (λc4=> ?_) (λc4=> ?_)
    ·have c4:(fL y.p2 x.p2).2=aw:=c4;simp only[c4,if_true,jh];exact kp
    ·have c4:(fL y.p2 x.p2).2=av:=c4;simp only[c4,oS,if_false,oQ];exact kp
   ·have c3:i.less=av:=c3;simp only[c3,oS,if_false];refine W_ (λc4=> ?_) (λc4=> ?_)
    ·have c4:(fC x.p2 y.p2).2=aw:=c4;simp only[c4,if_true,jh];exact kp
    ·have c4:(fC x.p2 y.p2).2=av:=c4;simp only[c4,oS,if_false,oQ];exact kp
def yXt:Tk.ok Z_ 221:=gy mixed (dw W8 (dw WZ fk)) 0 i6 i6 [] func221 xHh
structure Gb where
 i:u'
 sa:Bool
 sb:Bool
def Nm:gh:=fp Gb (λj=>[.nm 0 0,.agg [zB j.i.a,zB (zF j.sa)],.agg [zB j.i.b,zB (zF j.sb)],yM j.i.less]) (λj=>YL j.i.fm j.i.out)
 (λj=>0<=j.i.a/\j.i.a<j.i.fm.length/\0<=j.i.b/\j.i.b<j.i.fm.length/\vW j.i.fm/\j.i.out.length<=1000) (λ_=>pW) (λj=>MkP j.i.fm (j.i.out++xy j.i.fm ⟨j.i.a,zF j.sa⟩ ⟨j.i.b,zF j.sb⟩ j.i.less))
def z4g:Nm.ok Z_ 221:=λj=>match j with
 |⟨i,av,av⟩=>yXl i
 |⟨i,av,aw⟩=>yXv i
 |⟨i,aw,av⟩=>y0s i
 |⟨i,aw,aw⟩=>yXt i
structure bU where
 p:fj
 fm:List kf
 inst:Int
def jV (i:bU) (s:Int) (k:Nat):List Quote:=(ae k).flatMap λ(k:Nat)=>xy i.fm ⟨(i.p.spread i.inst (i.inst+1+k)).1,s⟩ ⟨i.inst+1+k,s⟩ av
def wL (i:bU) (s:Int) (k:Nat):List Quote:=(ae k).flatMap λ(k:Nat)=>xy i.fm ⟨(i.p.spread k i.inst).1,3-s⟩ ⟨k,s⟩ aw
def yX (i:bU) (s:Int):List Quote:=xy i.fm ⟨(i.p.gp i.inst).2.1,3-s⟩ ⟨(i.p.gp i.inst).1,s⟩ aw
def aX (i:bU) (s:Int) (q:Quote):Quote:={q with a:=⟨(i.p.gp i.inst).1,s⟩,b:=⟨(i.p.gp i.inst).2.1,3-s⟩}
def kY (i:bU) (s:Int):List Quote:=
 if i.p.count=0\/(i.fm.length:Int)≠i.p.count\/i.inst<0\/(i.p.count:Int)<=i.inst then[]
 else if(i.p.gp i.inst).2.2 then(yX i s).map (aX i s)
 else jV i s (i.p.dt.length-(i.inst.toNat+1))++wL i s i.inst.toNat
def y2z (s:Int):gh:=fp bU (λi=>[nv i.p,ox 6 (i.fm.map yC),zB i.inst,zB s]) i6 (λi=>i.p.small/\vW i.fm) (λ_=> .own 0) (λi=>[.own 271 6 ((kY i s).map zL)])
def Lp:gh:=y2z 1
def Lo:gh:=y2z 2
def xCr (i:bU) (s:Int):List gu:=[
 {ι:=Nat,du:=λk=>[(10,.nm 0 0),(77,zB k)],rows:=λk=>(ae 3).map (Bq (i.fm,((yX i s).take k).map (aX i s)++(yX i s).drop k))},
 {ι:=Nat,du:=λk=>[(10,.nm 0 0),(17,zB (i.inst+1+k))],rows:=λk=>YL i.fm (jV i s k)},
 {ι:=Nat,du:=λk=>[(10,.nm 0 0),(120,zB k)],rows:=λk=>YL i.fm (jV i s (i.p.dt.length-(i.inst.toNat+1))++wL i s k)}]
structure Bw where
 i:bU
 s:Bool
def aa0:gh:=fp Bw (λj=>[nv j.i.p,ox 6 (j.i.fm.map yC),zB j.i.inst,zB (zF j.s)]) i6 (λj=>j.i.p.small/\vW j.i.fm) (λ_=> .own 0) (λj=>[.own 271 6 ((kY j.i (zF j.s)).map zL)])
def xR (i:bU) (s:Int):List Quote:=(kY i s).filter λq=>decide (i.p.dm i.inst q.dm=0)
def D0:gh:=fp Bw (λj=>[nv j.i.p,ox 6 (j.i.fm.map yC),zB j.i.inst,zB (zF j.s)]) i6 (λj=>j.i.p.small/\vW j.i.fm) (λ_=> .own 0) (λj=>[.own 271 6 ((xR j.i (zF j.s)).map zL)])
def yZt (j:Bw):List gu:=[{ι:=Nat,du:=λk=>[(9,.own 0),(18,zB k)],rows:=λk=>[.own 271 6 ((((kY j.i (zF j.s)).take k).filter λq=>decide (j.i.p.dm j.i.inst q.dm=0)).map zL)]}]
structure Am where
 l:List Quote
 s:Int
def z6 (l:List Quote) (s:Int):Quote×Bool:=match l with
 |[]=>(y9a,av)
 |q::r=>(r.foldl (λb q=>if jo s q.dm b.dm then q else b) q,aw)
def G8:gh:=fp Am (λi=>[ox 6 (i.l.map zL),zB i.s]) i6 (λi=>(i.s=1\/i.s=2)/\i.l.length<=1000000) (λi=> .je [WU (z6 i.l i.s).1,yM (z6 i.l i.s).2]) i6
def y6k (i:Am):List gu:=[{ι:=Nat,du:=λk=>[(6,.nm 0 0),(26,zB k)],rows:=λk=>[.cells (WU (z6 (i.l.take (max k 1)) i.s).1).cl 271]}]
def mT (a:bU):Prop:=ak 6 (aa yC a.fm)=ak 6 (aa yC a.fm)/\Bp a.p (dk (ak 1 (iE a.p.dt)))
def VL (a:Nat->Prop) (b:Nat) (c:Nat->Nat) (d:Nat) (e:bU):Prop:=a b/\c b<c d/\dk (ak 6 (aa yC e.fm))/\mT e
def WG (a:Nat->Prop) (b:Nat) (c:Nat->Nat) (d:Nat) (e:bU):Prop:=a b/\c b<c d/\mT e
def gK (a:kf):Prop:=((-9223372036854775808)<=a.p1/\a.p1<=9223372036854775807)/\(-9223372036854775808)<=a.p2/\a.p2<=9223372036854775807
def dN (a:Gb):Prop:=0<=a.i.a/\a.i.a<(a.i.fm.length:Int)/\0<=a.i.b/\a.i.b<(a.i.fm.length:Int)/\(a.i.fm.length<=1000000/\∀(b:kf),b∈a.i.fm->gK b)/\a.i.out.length<=1000
def gW (a:Gb):=(a.i.out++xy a.i.fm (Cw.mk a.i.a (zF a.sa)) (Cw.mk a.i.b (zF a.sb)) a.i.less)
def Wh (a:Nat) (b:Gb):=(decide ((a:Int)<((aa zL (gW b)).length:Int)))
def qQ (a:A9):Prop:=ph a.p (a.p.settle.length<=1099511627776)
def j8 (a:aK):Prop:=ph a.p (a.p.settle.length<=1099511627776)
def tH (a:bU) (b:Nat):=(aa (aX a 1) (ac b (yX a 1))++aj b (yX a 1))
def Wo (a:bU) (b:Nat):=(aa zL (tH a b))
def sB (a:bU) (b:Nat):=(jV a 1 (a.p.dt.length-(a.inst.toNat+1))++wL a 1 b)
def uL (a:aK):=((a.p.gp a.n).snd.fst)
@[reducible] def Pj (a:Gb)(b:bU)(R:Prop):Prop:=a.i.less=aw/\ak 6 (aa yC a.i.fm)=ak 6 (aa yC b.fm)/\R
@[reducible] def YD (a:u')(b:aK)(c:Int)(R:Prop):Prop:=ak 6 (aa yC a.fm)=ak 6 (aa yC a.fm)/\am [V.d (dI (uL b)),V.d (dI (3-c))] 268=am [V.d (dI (uL b)),V.d (dI (3-c))] 268/\R
def y3r (i:bU):Prop:=
 ∃(a:fj),Qb a i.p ((zV a)/\ff (dp ((a.count:Int)==0) (dx (aa zL (kY i 1)=[]/\True)) (dp (((aa yC i.fm).length:Int) !=(a.count:Int)) (dx (aa zL (kY i 1)=[]/\True)) (dp (decide (i.inst<0)) (dx (aa zL (kY i 1)=[]/\True)) (dp (decide (i.inst>=(a.count:Int))) (dx (aa zL (kY i 1)=[]/\True)) (∃(c:aK),Qb c.p i.p (c.n=i.inst/\(j8 c)/\ff (dp (c.p.gp c.n).snd.snd (∃(e:Int),e=1/\(e=1\/e=2)/\ff (∃(g:Gb),g.i.a=(c.p.gp c.n).snd.fst/\zF g.sa=3-e/\g.i.b=(c.p.gp c.n).fst/\zF g.sb=1/\Pj g i (aa zL g.i.out=[]/\(dN g)/\ff (∃(j:Nat),(j:Int)=0/\ak 6 (aa yC i.fm)=ak 6 (aa yC g.i.fm)/\aa zL (tH i j)=aa zL (gW g)/\∃(k:Nat->Prop),∃(l:Nat->Nat),k j/\∀(m:Nat),k m->dp (Wh m g) ((0<=(m:Int)/\(m:Int)<((Wo i m).length:Int))/\(m:Int).toNat<(Wo i m).length/\∃(n:Nat),(n:Int)=au.wrap ((m:Int)+1)/\dk (ak 6 (aa yC i.fm))/\aa zL (tH i n)=zJ (Wo i m) (m:Int).toNat 2 [dI ((c.p.gp c.n).fst),dI 1,dI (uL c),dI (3-e)]/\k n/\l n<l m/\YD g.i c e (dk (am [V.d (dI ((c.p.gp c.n).fst)),V.d (dI 1)] 268)/\mT i)) (dx (aa zL (kY i 1)=aa zL (tH i m)/\True)))))) (∃(e:Nat),i.inst+1+(e:Int)=au.wrap (i.inst+1)/\dk (ak 6 (aa yC i.fm))/\aa zL (jV i 1 e)=[]/\∃(f:Nat->Prop),∃(g:Nat->Nat),f e/\∀(h:Nat),f h->dp (decide (i.inst+1+(h:Int)<((iE i.p.dt).length:Int))) (∃(j:A9),Qb j.p i.p (j.a=i.inst/\j.b=i.inst+1+(h:Int)/\(qQ j)/\ff (∃(l:Gb),l.i.a=(j.p.spread j.a j.b).fst/\zF l.sa=1/\l.i.b=i.inst+1+(h:Int)/\zF l.sb=1/\l.i.less=av/\ak 6 (aa yC l.i.fm)=ak 6 (aa yC i.fm)/\aa zL l.i.out=aa zL (jV i 1 h)/\(dN l)/\ff (∃(n:Nat),i.inst+1+(n:Int)=au.wrap (i.inst+1+(h:Int)+1)/\ak 6 (aa yC i.fm)=ak 6 (aa yC l.i.fm)/\aa zL (jV i 1 n)=aa zL (gW l)/\WG f n g h i)))) (∃(j:Nat),(j:Int)=0/\dk (ak 6 (aa yC i.fm))/\aa zL (sB i j)=aa zL (jV i 1 h)/\∃(k:Nat->Prop),∃(l:Nat->Nat),k j/\∀(m:Nat),k m->dp (decide ((m:Int)<i.inst)) (∃(n:A9),Qb n.p i.p (n.a=(m:Int)/\n.b=i.inst/\(qQ n)/\ff (∃(q:Int),q=1/\(q=1\/q=2)/\ff (∃(s:Gb),s.i.a=(n.p.spread n.a n.b).fst/\zF s.sa=3-q/\s.i.b=(m:Int)/\zF s.sb=1/\Pj s i (aa zL s.i.out=aa zL (sB i m)/\(dN s)/\ff (∃(u:Nat),(u:Int)=au.wrap ((m:Int)+1)/\ak 6 (aa yC i.fm)=ak 6 (aa yC s.i.fm)/\aa zL (sB i u)=aa zL (gW s)/\VL k u l m i)))))) (dx (aa zL (kY i 1)=aa zL (sB i m)/\True))))))))))))
def sQ (a:bU) (b:Nat):=(aa (aX a 2) (ac b (yX a 2))++aj b (yX a 2))
def V5 (a:bU) (b:Nat):=(aa zL (sQ a b))
def r9 (a:bU) (b:Nat):=(jV a 2 (a.p.dt.length-(a.inst.toNat+1))++wL a 2 b)
def y4w (i:bU):Prop:=
 ∃(a:fj),Qb a i.p ((zV a)/\ff (dp ((a.count:Int)==0) (dx (aa zL (kY i 2)=[]/\True)) (dp (((aa yC i.fm).length:Int) !=(a.count:Int)) (dx (aa zL (kY i 2)=[]/\True)) (dp (decide (i.inst<0)) (dx (aa zL (kY i 2)=[]/\True)) (dp (decide (i.inst>=(a.count:Int))) (dx (aa zL (kY i 2)=[]/\True)) (∃(c:aK),Qb c.p i.p (c.n=i.inst/\(j8 c)/\ff (dp (c.p.gp c.n).snd.snd (∃(e:Int),e=2/\(e=1\/e=2)/\ff (∃(g:Gb),g.i.a=(c.p.gp c.n).snd.fst/\zF g.sa=3-e/\g.i.b=(c.p.gp c.n).fst/\zF g.sb=2/\Pj g i (aa zL g.i.out=[]/\(dN g)/\ff (∃(j:Nat),(j:Int)=0/\ak 6 (aa yC i.fm)=ak 6 (aa yC g.i.fm)/\aa zL (sQ i j)=aa zL (gW g)/\∃(k:Nat->Prop),∃(l:Nat->Nat),k j/\∀(m:Nat),k m->dp (Wh m g) ((0<=(m:Int)/\(m:Int)<((V5 i m).length:Int))/\(m:Int).toNat<(V5 i m).length/\∃(n:Nat),(n:Int)=au.wrap ((m:Int)+1)/\dk (ak 6 (aa yC i.fm))/\aa zL (sQ i n)=zJ (V5 i m) (m:Int).toNat 2 [dI ((c.p.gp c.n).fst),dI 2,dI (uL c),dI (3-e)]/\k n/\l n<l m/\YD g.i c e (dk (am [V.d (dI ((c.p.gp c.n).fst)),V.d (dI 2)] 268)/\mT i)) (dx (aa zL (kY i 2)=aa zL (sQ i m)/\True)))))) (∃(e:Nat),i.inst+1+(e:Int)=au.wrap (i.inst+1)/\dk (ak 6 (aa yC i.fm))/\aa zL (jV i 2 e)=[]/\∃(f:Nat->Prop),∃(g:Nat->Nat),f e/\∀(h:Nat),f h->dp (decide (i.inst+1+(h:Int)<((iE i.p.dt).length:Int))) (∃(j:A9),Qb j.p i.p (j.a=i.inst/\j.b=i.inst+1+(h:Int)/\(qQ j)/\ff (∃(l:Gb),l.i.a=(j.p.spread j.a j.b).fst/\zF l.sa=2/\l.i.b=i.inst+1+(h:Int)/\zF l.sb=2/\l.i.less=av/\ak 6 (aa yC l.i.fm)=ak 6 (aa yC i.fm)/\aa zL l.i.out=aa zL (jV i 2 h)/\(dN l)/\ff (∃(n:Nat),i.inst+1+(n:Int)=au.wrap (i.inst+1+(h:Int)+1)/\ak 6 (aa yC i.fm)=ak 6 (aa yC l.i.fm)/\aa zL (jV i 2 n)=aa zL (gW l)/\WG f n g h i)))) (∃(j:Nat),(j:Int)=0/\dk (ak 6 (aa yC i.fm))/\aa zL (r9 i j)=aa zL (jV i 2 h)/\∃(k:Nat->Prop),∃(l:Nat->Nat),k j/\∀(m:Nat),k m->dp (decide ((m:Int)<i.inst)) (∃(n:A9),Qb n.p i.p (n.a=(m:Int)/\n.b=i.inst/\(qQ n)/\ff (∃(q:Int),q=2/\(q=1\/q=2)/\ff (∃(s:Gb),s.i.a=(n.p.spread n.a n.b).fst/\zF s.sa=3-q/\s.i.b=(m:Int)/\zF s.sb=2/\Pj s i (aa zL s.i.out=aa zL (r9 i m)/\(dN s)/\ff (∃(u:Nat),(u:Int)=au.wrap ((m:Int)+1)/\ak 6 (aa yC i.fm)=ak 6 (aa yC s.i.fm)/\aa zL (r9 i u)=aa zL (gW s)/\VL k u l m i)))))) (dx (aa zL (kY i 2)=aa zL (r9 i m)/\True))))))))))))
def wN (a:Bw):=(aa zL (kY a.i (zF a.s)))
def zGp (a:Nat->Prop) (b:Nat) (c:Nat->Nat) (d:Nat) (e:Bw) (f:Bw):Prop:=a b/\c b<c d/\dk (ar 271 6 (wN e))/\Bp f.i.p (dk (ak 1 (iE f.i.p.dt)))
def kJ (a:Bw):Prop:=(ph a.i.p (a.i.p.settle.length<=1099511627776))/\a.i.fm.length<=1000000/\∀(b:kf),b∈a.i.fm->gK b
def dR (a:Bw):=((wN a).length:Int)
def yDv (j:Bw):Prop:=
 ∃(a:Bw),Qb a.i.p j.i.p (aa yC a.i.fm=aa yC j.i.fm/\a.i.inst=j.i.inst/\zF a.s=zF j.s/\(kJ a)/\ff (∃(c:Nat),(c:Int)=0/\aa zL (af (λ(q:Sx.Quote) ↦ decide (j.i.p.dm j.i.inst q.dm=0)) (ac c (kY j.i (zF j.s))))=[]/\∃(d:Nat->Prop),∃(e:Nat->Nat),d c/\∀(f:Nat),d f->dp (decide ((f:Int)<(dR a))) ((0<=(f:Int)/\(f:Int)<(dR a))/\∃(g:Int),∃(h:Int),∃(k:Int),∃(l:Int),∃(m:Int),∃(n:Int),zC (wN a) (f:Int).toNat 0 6=az [dI g,dI h,dI k,dI l,dI m,dI n]/\∃(p:A9),Qb p.p j.i.p (p.a=j.i.inst/\p.b=g/\(qQ p)/\∀(q:Unit),True->dp (p.p.dm p.a p.b==0) (((aa zL (af (λ(q:Sx.Quote) ↦ decide (j.i.p.dm j.i.inst q.dm=0)) (ac f (kY j.i (zF j.s))))).length+1)*(48:Nat)<=(140737488355328:Nat)/\∃(r:Nat),(r:Int)=au.wrap ((f:Int)+1)/\aa zL (af (λ(q:Sx.Quote) ↦ decide (j.i.p.dm j.i.inst q.dm=0)) (ac r (kY j.i (zF j.s))))=aa zL (af (λ(q:Sx.Quote) ↦ decide (j.i.p.dm j.i.inst q.dm=0)) (ac f (kY j.i (zF j.s))))++[[dI g,dI h,dI k,dI l,dI m,dI n]]/\zGp d r e f a j) (∃(r:Nat),(r:Int)=au.wrap ((f:Int)+1)/\aa zL (af (λ(q:Sx.Quote) ↦ decide (j.i.p.dm j.i.inst q.dm=0)) (ac r (kY j.i (zF j.s))))=aa zL (af (λ(q:Sx.Quote) ↦ decide (j.i.p.dm j.i.inst q.dm=0)) (ac f (kY j.i (zF j.s))))/\zGp d r e f a j))) (dx (aa zL (xR j.i (zF j.s))=aa zL (af (λ(q:Sx.Quote) ↦ decide (j.i.p.dm j.i.inst q.dm=0)) (ac f (kY j.i (zF j.s))))/\True))))
def zGc (a:Nat->Prop) (b:Nat) (c:Nat->Nat) (d:Nat):Prop:=a b/\c b<c d/\dk (am (Sx.V.agg [V.d (dI 0),V.d (dI 0),V.d (dI 0),V.d (dI 0),V.d (dI 0),V.d (dI 0)]).cl 271)
def yG (a:Nat) (b:Am):=(z6 (ac (max a 1) b.l) b.s)
def uZ (a:Am):=((aa zL a.l).length:Int)
def zMw (a:Am):Prop:=((0:Int)<=(0:Int)/\0<(uZ a))/\∃(b:Int),∃(c:Int),∃(d:Int),∃(e:Int),∃(f:Int),∃(g:Int),zC (aa zL a.l) (bu 0) 0 6=az [dI b,dI c,dI d,dI e,dI f,dI g]/\∃(h:Nat),(h:Int)=0/\(yG h a).fst.dm=b/\(yG h a).fst.dr=c/\(yG h a).fst.a.inst=d/\(yG h a).fst.a.side=e/\(yG h a).fst.b.inst=f/\(yG h a).fst.b.side=g/\∃(j:Nat->Prop),∃(k:Nat->Nat),j h/\∀(l:Nat),j l->dp (decide ((l:Int)<(uZ a))) ((0<=(l:Int)/\(l:Int)<(uZ a))/\∃(m:Int),∃(n:Int),∃(p:Int),∃(q:Int),∃(r:Int),∃(s:Int),zC (aa zL a.l) (l:Int).toNat 0 6=az [dI m,dI n,dI p,dI q,dI r,dI s]/\∃(t:Ew),t.side=a.s/\t.x=m/\t.y=(yG l a).fst.dm/\True/\ff (dp (jo t.side t.x t.y) (∃(v:Nat),(v:Int)=au.wrap ((l:Int)+1)/\(yG v a).fst.dm=m/\(yG v a).fst.dr=n/\(yG v a).fst.a.inst=p/\(yG v a).fst.a.side=q/\(yG v a).fst.b.inst=r/\(yG v a).fst.b.side=s/\zGc j v k l) (∃(v:Nat),(v:Int)=au.wrap ((l:Int)+1)/\(yG v a).fst.dm=(yG l a).fst.dm/\(yG v a).fst.dr=(yG l a).fst.dr/\(yG v a).fst.a.inst=(yG l a).fst.a.inst/\(yG v a).fst.a.side=(yG l a).fst.a.side/\(yG v a).fst.b.inst=(yG l a).fst.b.inst/\(yG v a).fst.b.side=(yG l a).fst.b.side/\zGc j v k l))) (dx ((z6 a.l a.s).fst.dm=(yG l a).fst.dm/\(z6 a.l a.s).fst.dr=(yG l a).fst.dr/\(z6 a.l a.s).fst.a.inst=(yG l a).fst.a.inst/\(z6 a.l a.s).fst.a.side=(yG l a).fst.a.side/\(z6 a.l a.s).fst.b.inst=(yG l a).fst.b.inst/\(z6 a.l a.s).fst.b.side=(yG l a).fst.b.side/\(z6 a.l a.s).snd=aw/\True))
def zHb (a:Am):Prop:=dx ((z6 a.l a.s).fst.dm=0/\(z6 a.l a.s).fst.dr=0/\(z6 a.l a.s).fst.a.inst=0/\(z6 a.l a.s).fst.a.side=0/\(z6 a.l a.s).fst.b.inst=0/\(z6 a.l a.s).fst.b.side=0/\(z6 a.l a.s).snd=av/\True)
def ySc (i:Am):Prop:=
 dp ((uZ i)==0) (zHb i) (dp (i.s !=1) (dp (i.s !=2) (zHb i) (zMw i)) (zMw i))
end Sx
