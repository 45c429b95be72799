/- Texts of ours. No condition. -/
import Derived.Test.YtgmmlhddihaocaaGreatRows
import Derived.Test.YtgmmlhddihaocaaGreatF3
set_option linter.all false
open List renaming map->ab,replicate->ac,take->ae,range->af,filter->ag,findIdx?->aj,drop->ak
open Sx.fj renaming kg->am,cells->ao,jz->ap,ra->aq,map->ar,own->au
open Go.IntKind renaming i64->av
open Bool renaming false->aw,true->ax
open Exists renaming intro->ay
open And renaming intro->az
open Option renaming some->ba,none->bc
open Go.Utf8 renaming decode->be
open Go renaming Value->bg,TypeId->bo
open Go.Value renaming string->bu
open Int renaming toNat->bv
namespace Sx
open Go Cv Go.Proofs
def kp {P:Prop} (h:P:=by(repeat'(first|exact rfl|exact trivial|assumption|apply And.intro|refineλ(_:Unit) (_:True)=>?_|refine Exists.intro () ?_|omega|(dsimp only;omega)))):P:=h
def oM {P:Prop} (h:P:=by omega):P:=h
def Z9 {P:Prop} (h:P:=by (dsimp only;omega)):P:=h
def Z8 {P:Prop} (h:P:=by decide):P:=h
def iJ {α0:Sort _} {a0:α0} {α1:Sort _} {a1:α1} {α2:Sort _} {a2:α2} {P:Prop} (h:P):a0=a0/\a1=a1/\a2=a2/\P:=⟨rfl,rfl,rfl,h⟩
def mn {α0:Sort _} {a0:α0} {α1:Sort _} {a1:α1} {α2:Sort _} {a2:α2} {α3:Sort _} {a3:α3} {P:Prop} (h:P):a0=a0/\a1=a1/\a2=a2/\a3=a3/\P:=⟨rfl,rfl,rfl,rfl,h⟩
def tg {α0:Sort _} {a0:α0} {α1:Sort _} {a1:α1} {α2:Sort _} {a2:α2} {α3:Sort _} {a3:α3} {α4:Sort _} {a4:α4} {P:Prop} (h:P):a0=a0/\a1=a1/\a2=a2/\a3=a3/\a4=a4/\P:=⟨rfl,rfl,rfl,rfl,rfl,h⟩
def ni {α0:Sort _} {a0:α0} {α1:Sort _} {a1:α1} {α2:Sort _} {a2:α2} {α3:Sort _} {a3:α3} {α4:Sort _} {a4:α4} {α5:Sort _} {a5:α5} {P:Prop} (h:P):a0=a0/\a1=a1/\a2=a2/\a3=a3/\a4=a4/\a5=a5/\P:=⟨rfl,rfl,rfl,rfl,rfl,rfl,h⟩
def oF {α0:Sort _} {a0:α0} {α1:Sort _} {a1:α1} {α2:Sort _} {a2:α2} {α3:Sort _} {a3:α3} {α4:Sort _} {a4:α4} {α5:Sort _} {a5:α5} {α6:Sort _} {a6:α6} {P:Prop} (h:P):a0=a0/\a1=a1/\a2=a2/\a3=a3/\a4=a4/\a5=a5/\a6=a6/\P:=⟨rfl,rfl,rfl,rfl,rfl,rfl,rfl,h⟩
def iw {α0:Sort _} {a0:α0} {α1:Sort _} {a1:α1} {α2:Sort _} {a2:α2} {α3:Sort _} {a3:α3} {α4:Sort _} {a4:α4} {α5:Sort _} {a5:α5} {α6:Sort _} {a6:α6} {α7:Sort _} {a7:α7} {P:Prop} (h:P):a0=a0/\a1=a1/\a2=a2/\a3=a3/\a4=a4/\a5=a5/\a6=a6/\a7=a7/\P:=⟨rfl,rfl,rfl,rfl,rfl,rfl,rfl,rfl,h⟩
def gg {P:Prop} (h:P:=by(repeat'(first|exact trivial|exact rfl|apply And.intro))):P:=h
def mixed:Tryz.prog.follows .mixedOrders=ax:=by kernel_rfl
def gu {P:Program} {f:FuncId} {fn:Func} {C:fy} {G:List (Nat×fy)} {V:C.ι->Prop} (hm:P.follows .mixedOrders=ax) (hG:zd P G) (d:Nat) (J:C.ι->List (Nat×gm)) (an:C.ι->List gm) (op:List Nat) (hf:P.funcs[f]? =ba fn) (h:∀i,C.dp i->V i) (hb:fn.body=ba (fn.body.getD .skip):=by kernel_rfl) (Ci:gD P f=ax:=by kernel_rfl) (oT:xl fn.ntmps (fn.body.getD .skip)=ax:=by kernel_rfl) (pf:∀i,Nat.ble (C.pat i).length fn.ntmps=ax:=by intro _;kernel_rfl) (e:∀i,V i=walk P G d (J i) (an i) op fn (fn.body.getD .skip) (C.pat i) (C.pre i) (C.alts i):=by intro _;kernel_rfl):C.ok P f:=qY hm G hG d J an op hf hb Ci oT pf λi hc=>Eq.mp (e i) (h i hc)
structure Lv where
 dm:Int
 dr:Int
 count:Int
def ic (l:Lv):List D:=[.v (.int .i64 l.dm),.v (.int .i64 l.dr),.v (.int .i64 l.count)]
def RC (l:Lv):V:= .agg [zB l.dm,zB l.dr,zB l.count]
def sb (l:List UInt8):ByteArray:=⟨l.toArray⟩
@[reducible] def sV (l:List UInt8):V:= .d (.v (.string (sb l)))
def Fh (l:List UInt8):Nat×Nat:=be (sb l) 0
def Nw:Nat->Nat->List UInt8->List (Nat×Nat)
 |0,_,_=>[]
 |k+1,p,l=>match l with
  |[]=>[]
  |_=>(p,(Fh l).1)::Nw k (p+(Fh l).2) (l.drop (Fh l).2)
def gW (s:List UInt8) (p:Nat):List (Nat×Nat):=Nw (s.length-p) p (s.drop p)
def jO (s:List UInt8):List Nat:=(gW s 0).map (·.2)
def GQ:fy:=fi (List UInt8) (λs=>[sV s]) (λ_=>[]) (λs=>s.length<=1099511627776) (λs=>zB (jO s).length) (λ_=>[])
def y3s (s:List UInt8):List gm:=[{ι:=Nat×Nat,du:=λx=>[(3,zB x.2),(5,.nm 0 0)],rows:=λx=>[.iter (sb s) x.1]}]
def fC (r:Nat):Bool:=(decide (65<=r) && decide (r<=90))||(decide (913<=r) && decide (r<=937) && decide (r≠930))
def vB (s:List UInt8):Bool:=(jO s).all fC && decide (s≠[]) && decide ((jO s).length<=4)
def SH:fy:=fi (List UInt8) (λs=>[sV s]) (λ_=>[]) (λs=>s.length<=1099511627776) (λs=>yL (vB s)) (λ_=>[])
def xIl (s:List UInt8):List gm:=[{ι:=Nat,du:=λx=>[(7,.nm 0 0)],rows:=λx=>[.iter (sb s) x]}]
def iE (l:List Int):List (List D):=l.map λn=>[.v (.int .i64 n)]
@[reducible] def iV (l:List Int):V:=ot 1 (iE l)
structure ff where
 code:List UInt8
 dt:List Int
 tick:Int
 low:Int
 high:Int
 wide:Int
 gi:Int
 top:Int
 least:Int
 part:Int
 settle:List Int
 deriving DecidableEq
@[reducible] def ff.cells (p:ff):List V:=[sV p.code,iV p.dt,zB p.tick,zB p.low,zB p.high,zB p.wide,zB p.gi,zB p.top,zB p.least,zB p.part,iV p.settle]
@[reducible] def nk (p:ff):V:= .agg p.cells
@[reducible] def ff.small (p:ff):Prop:=p.code.length<=1099511627776/\p.dt.length<=1099511627776/\p.settle.length<=1099511627776
def kP (l:List Int) (k:Nat):Bool:=decide (0<=l.getD k 0) && decide (l.getD k 0<=1199) && (decide (k=0)||decide (l.getD (k-1) 0<l.getD k 0))
def xP (l:List Int):Bool:=(af l.length).all (kP l) && decide (2<=l.length) && decide (l.length<=6)
def DV:fy:=fi (List Int) (λl=>[iV l]) (λ_=>[]) (λl=>l.length<=1099511627776) (λl=>yL (xP l)) (λ_=>[])
def yZt:List gm:=[{ι:=Nat,du:=λj=>[(7,zB j)],rows:=λ_=>[]}]
def eT (l:List Int):Int:=l.tail.foldl min (l.headD 0)
def AY (l:List Int):Int:=l.tail.foldl max (l.headD 0)
def SY:fy:=fi (List Int) (λl=>[iV l]) (λ_=>[]) (λl=>0<l.length/\l.length<=1099511627776) (λl=>zB (eT l)) (λ_=>[])
def SZ:fy:=fi (List Int) (λl=>[iV l]) (λ_=>[]) (λl=>0<l.length/\l.length<=1099511627776) (λl=>zB (AY l)) (λ_=>[])
def xIf (l:List Int):List gm:=[{ι:=Nat,du:=λj=>[(3,zB (eT (l.take j))),(4,zB j)],rows:=λ_=>[]}]
def xIb (l:List Int):List gm:=[{ι:=Nat,du:=λj=>[(3,zB (AY (l.take j))),(4,zB j)],rows:=λ_=>[]}]
set_option maxRecDepth 100000
@[reducible] def dI (n:Int):D:= .v (.int .i64 n)
def c9 (a:Nat×Nat) (b:List UInt8) (c:Nat×Nat->Prop) (d:Nat×Nat->Nat):Prop:=∃(e:Nat×Nat),(↑e.snd:Int)=av.wrap ((↑a.snd:Int)+1)/\sb b=sb b/\e.fst=a.fst+(be (sb b) a.fst).snd/\c e/\d e<d a/\True
@[reducible] def fa(R:Prop):Prop:=∀_:Unit,True->R
@[reducible] def dx(R:Prop):Prop:=∃_:Unit,R
def ySi (s:List UInt8):Prop:=
 ∃(a:Nat×Nat),(↑a.snd:Int)=0/\sb s=sb s/\a.fst=0/\∃(b:Nat×Nat->Prop),∃(c:Nat×Nat->Nat),b a/\∀(d:Nat×Nat),b d->dp (d.fst.blt (sb s).size) (c9 d s b c) (dx ((↑(jO s).length:Int)=(↑d.snd:Int)/\True))
def U7 (a:List UInt8) (b:Nat) (c:Nat->Prop) (d:Nat->Nat):Prop:=∃(e:Nat),sb a=sb a/\e=b+(be (sb a) b).snd/\c e/\d e<d b/\True
def cI (a:List UInt8) (b:Nat):=(↑(be (sb a) b).fst:Int)
def xCj (s:List UInt8):Prop:=
 ∃(a:Nat),sb s=sb s/\a=0/\∃(b:Nat->Prop),∃(c:Nat->Nat),b a/\∀(d:Nat),b d->dp (d.blt (sb s).size) (dp (decide ((cI s d)>=65)) (dp (decide ((cI s d)<=90)) (U7 s d b c) (dp (decide ((cI s d)>=913)) (dp (decide ((cI s d)<=937)) (dp (!(cI s d) !=930) (dx (vB s=aw/\True)) (U7 s d b c)) (dx (vB s=aw/\True))) (dx (vB s=aw/\True)))) (dp (decide ((cI s d)>=913)) (dp (decide ((cI s d)<=937)) (dp (!(cI s d) !=930) (dx (vB s=aw/\True)) (U7 s d b c)) (dx (vB s=aw/\True))) (dx (vB s=aw/\True)))) (dp (!(sb s).toList==(ByteArray.mk #[]).toList) (∃(e:List UInt8),sb e=sb s/\e.length<=1099511627776/\fa (dx (vB s=decide ((↑(jO e).length:Int)<=4)/\True))) (dx (vB s=aw/\True)))
@[reducible] def QP (a b:Nat)(c:Nat->Prop)(d:Nat->Nat)(R:Prop):Prop:=(↑a:Int)=av.wrap ((↑b:Int)+1)/\c a/\d a<d b/\R
def kI (a:Nat) (b:Nat) (c:Nat->Prop) (d:Nat->Nat):Prop:=QP a b c d (True)
def wC (a:Nat) (b:Nat->Prop) (c:Nat->Nat):Prop:=∃(d:Nat),kI d a b c
def yDm (l:List Int):Prop:=
 ∃(a:Nat),(↑a:Int)=0/\∃(b:Nat->Prop),∃(c:Nat->Nat),b a/\∀(d:Nat),b d->dp (decide ((↑d:Int)<(↑(iE l).length:Int))) ((0<=(↑d:Int)/\(↑d:Int)<(↑(iE l).length:Int))/\∃(e:Int),zD (iE l) (↑d:Int).toNat 0 1=ba [dI e]/\dp (decide (e<0)) (dx (xP l=aw/\True)) (dp (decide (e>1199)) (dx (xP l=aw/\True)) (dp (decide ((↑d:Int)>0)) ((0<=av.wrap ((↑d:Int)-1)/\av.wrap ((↑d:Int)-1)<(↑(iE l).length:Int))/\∃(f:Int),zD (iE l) (av.wrap ((↑d:Int)-1)).toNat 0 1=ba [dI f]/\dp (decide (f>=e)) (dx (xP l=aw/\True)) (wC d b c)) (wC d b c)))) (dp (decide ((↑(iE l).length:Int)>=2)) (dx (xP l=decide ((↑(iE l).length:Int)<=6)/\True)) (dx (xP l=aw/\True)))
def xDo (l:List Int):Prop:=
 dp (decide ((↑(iE l).length:Int)<1)) False (((0:Int)<=(0:Int)/\0<(↑(iE l).length:Int))/\∃(a:Int),zD (iE l) (bv 0) 0 1=ba [dI a]/\∃(b:Nat),eT (ae b l)=a/\(↑b:Int)=1/\∃(c:Nat->Prop),∃(d:Nat->Nat),c b/\∀(e:Nat),c e->dp (decide ((↑e:Int)<(↑(iE l).length:Int))) ((0<=(↑e:Int)/\(↑e:Int)<(↑(iE l).length:Int))/\∃(f:Int),zD (iE l) (↑e:Int).toNat 0 1=ba [dI f]/\∃(g:Nat),eT (ae g l)=min (eT (ae e l)) f/\kI g e c d) (dx (eT l=eT (ae e l)/\True)))
def xCc (l:List Int):Prop:=
 dp (decide ((↑(iE l).length:Int)<1)) False (((0:Int)<=(0:Int)/\0<(↑(iE l).length:Int))/\∃(a:Int),zD (iE l) (bv 0) 0 1=ba [dI a]/\∃(b:Nat),AY (ae b l)=a/\(↑b:Int)=1/\∃(c:Nat->Prop),∃(d:Nat->Nat),c b/\∀(e:Nat),c e->dp (decide ((↑e:Int)<(↑(iE l).length:Int))) ((0<=(↑e:Int)/\(↑e:Int)<(↑(iE l).length:Int))/\∃(f:Int),zD (iE l) (↑e:Int).toNat 0 1=ba [dI f]/\∃(g:Nat),(AY (ae g l)=if f>AY (ae e l)then f else AY (ae e l))/\kI g e c d) (dx (AY l=AY (ae e l)/\True)))
@[simp] theorem UO (s:List UInt8):(sb s).size=s.length:=by simp[sb,ByteArray.size]
def rV (s:List UInt8):(sb s).toList=s:=by rw[ByteArray.toList_eq];rfl
def y3m (s:List UInt8) (p k:Nat):(sb s).get! (p+k)=(sb (s.drop p)).get! (0+k):=by
 simp only[sb,ByteArray.get!,nh];simp only[List.getElem!_toArray,List.getElem!_eq_getElem?_getD,Bs]
def zOm (s:List UInt8) (p:Nat):be (sb s) p=Fh (s.drop p):=by
 have h (k:Nat):(decide (p+k<(sb s).size))=decide (0+k<(sb (s.drop p)).size):=by
  simp only[UO,o8];by_cases h:p+k<s.length
  ·rw[jk h,jk (by omega)]
  ·rw[jt h,jt (by omega)]
 unfold Fh be;simp only[y3m s p,h]
def aJ (s:List UInt8) {p:Nat} (h:p<s.length):1<=(be (sb s) p).2/\p+(be (sb s) p).2<=s.length:=by
 unfold be;simp only[UO,lj,tq];split
 ·exact⟨by simp,by simp;omega⟩
 split
 ·rename_i h1;split
  ·exact⟨by simp,by simp;omega⟩
  ·exact⟨by simp,by simp;omega⟩
 split
 ·rename_i h1;split
  ·exact⟨by simp,by simp;omega⟩
  ·exact⟨by simp,by simp;omega⟩
 split
 ·rename_i h1;split
  ·exact⟨by simp,by simp;omega⟩
  ·exact⟨by simp,by simp;omega⟩
 ·exact⟨by simp,by simp;omega⟩
def y9c {l:List UInt8} (h:l≠[]):1<=(Fh l).2/\(Fh l).2<=l.length:=by
 have:=aJ l (p:=0) (by cases l<;>simp_all);rw[Fh];omega
def eH:∀(k:Nat) (p:Nat) (l:List UInt8),l.length<=k->Nw k p l=Nw l.length p l
 |0,p,l,h=>by
  have:l=[]:=xu oM;subst this;rfl
 |k+1,p,[],h=>rfl
 |k+1,p,b::l,h=>by
  have hw:=y9c (l:=b::l) (by simp);have hl:((b::l).drop (Fh (b::l)).2).length<=l.length:=by rw[o8,iC];omega
  rw[iC];simp only[Nw];rw[eH k _ _ (by rw[iC]at h;omega),eH l.length _ _ hl]
def uP {s:List UInt8} {p:Nat} (h:s.length<=p):gW s p=[]:=by
 rw[gW,show s.length-p=0 by omega];rfl
def wG {s:List UInt8} {p:Nat} (h:p<s.length):gW s p=(p,(be (sb s) p).1)::gW s (p+(be (sb s) p).2):=by
 obtain⟨k,hk⟩:∃k,s.length-p=k+1:=⟨s.length-p-1,oM⟩
 have hw:=aJ s h;obtain⟨b,l,hb⟩:∃b l,s.drop p=b::l:=by
  cases hd:s.drop p with
  |nil=>rw[List.drop_eq_nil_iff]at hd;omega
  |cons b l=>exact⟨b,l,rfl⟩
 have hlen:(b::l).length=s.length-p:=by rw[<- hb,o8]
 rw[gW,hk,hb,zOm,hb,gW];rw[zOm,hb]at hw;simp only[Nw];have e:(b::l).drop (Fh (b::l)).2=s.drop (p+(Fh (b::l)).2):=by rw[<- hb,Db]
 rw[e,eH k _ _ (by rw[o8];omega),o8]
def zSn (s:List UInt8):∀(k p:Nat),s.length-p<=k->(gW s p).length<=s.length-p
 |0,p,h=>by rw[uP (by omega)];simp
 |k+1,p,h=>by
  by_cases hp:p<s.length
  ·have hw:=aJ s hp;rw[wG hp,iC];have:=zSn s k (p+(be (sb s) p).2) oM;omega
  ·rw[uP (by omega)];simp
def zLb (s:List UInt8):(jO s).length<=s.length:=by
 rw[jO,gy];have:=zSn s s.length 0 oM;omega
def Xg {a b:Nat} (h:Nat.blt a b=aw):b<=a:=by
 rcases vh a b with h1|h1
 ·rw[show Nat.blt a b=ax by rw[yj];exact h1]at h;cases h
 ·exact h1
def yQn:(ByteArray.mk #[]).toList=[]:=rV []
def y3r (s:List UInt8) (h:GQ.dp s):ySi s:=by
 have h:s.length<=1099511627776:=h;have hr:=zLb s;unfold ySi dx c9;refine⟨(0,0),rfl,rfl,rfl,λx=>x.1<=s.length/\x.2+(gW s x.1).length=(jO s).length,λx=>s.length-x.1,⟨oM,by rw[jO,gy];simp⟩,?_⟩;rintro⟨p,n⟩ ⟨h1,h2⟩;dsimp only at h1 h2 ⊢;refine Cv.dp.mk (λhp=> ?_) (λhp=> ?_)
 ·have hp:p<s.length:=by simpa[yj]using hp
  have hw:=aJ s hp;rw[wG hp,iC]at h2;refine⟨(p+(be (sb s) p).2,n+1),?_,rfl,rfl,⟨hw.2,by(first|omega|(dsimp only;omega))⟩,by(first|omega|(dsimp only;omega)),trivial⟩;rw[iq (by omega)];rfl
 ·have hp:s.length<=p:=by have:=Xg hp;simpa using this
  rw[uP hp]at h2;exact⟨(),by rw[<- h2];rfl,trivial⟩
def ySg:GQ.ok Tryz.prog 153:=gu mixed fg 0 (λ_=>[]) (λs=>y3s s) [] Tryz.func153 y3r
def xGk (s:List UInt8) (h:SH.dp s):xCj s:=by
 have h:s.length<=1099511627776:=h;unfold xCj fa dx cI U7;refine⟨0,rfl,rfl,λp=>p<=s.length/\(jO s).all fC=(gW s p).all λx=>fC x.2,λp=>s.length-p,⟨oM,by rw[jO,List.all_map];rfl⟩,?_⟩;rintro p ⟨h1,h2⟩;refine Cv.dp.mk (λhp=> ?_) (λhp=> ?_)
 ·have hp:p<s.length:=by simpa[yj]using hp
  have hw:=aJ s hp;rw[wG hp,List.all_cons]at h2;generalize hc:(be (sb s) p).1=c at h2 ⊢;generalize hww:(be (sb s) p).2=w at h2 hw ⊢;dsimp only at h2;have bad:fC c=aw->∃(o:Unit),vB s=aw/\True:=λe=>⟨(),by rw[vB,h2,e];rfl,trivial⟩
  have vw:fC c=ax->∃i':Nat,sb s=sb s/\i'=p+w/\(i'<=s.length/\(jO s).all fC=(gW s i').all λx=>fC x.2)/\s.length-i'<s.length-p/\True:=λe=>⟨p+w,rfl,rfl,⟨hw.2,by rw[h2,e];rfl⟩,oM,trivial⟩
  refine zH (λc1=>zH (λc2=> ?_) (λc2=>zH (λc3=>zH (λc4=>Cv.dp.mk (λc5=> ?_) (λc5=> ?_)) (λc4=> ?_)) (λc3=> ?_))) (λc1=>zH (λc3=>zH (λc4=>Cv.dp.mk (λc5=> ?_) (λc5=> ?_)) (λc4=> ?_)) (λc3=> ?_))
  all_goals first|(refine vw ?_;simp[fC]at*;omega)|(refine bad ?_;simp[fC]at*;omega)
 ·have hp:s.length<=p:=by have:=Xg hp;simpa using this
  rw[uP hp]at h2;have h2:(jO s).all fC=ax:=h2;refine Cv.dp.mk (λe=>⟨s,rfl,h,λ_ _=>⟨(),?_,trivial⟩⟩) (λe=>⟨(),?_,trivial⟩)
  ·rw[rV,yQn]at e;have:s≠[]:=by simpa using e
   rw[vB,h2,jk this];simp only[Ao];congr 1;simp only[eq_iff_iff];omega
  ·have:s=[]:=by
    rw[rV,yQn]at e;simpa using e
   rw[vB,this];rfl
def y5r:SH.ok Tryz.prog 103:=gu mixed (dw ySg fg) 0 (λ_=>[]) (λs=>xIl s) [] Tryz.func103 xGk
@[simp] theorem y8 (l:List Int):(iE l).length=l.length:=by simp[iE]
def rm {l:List Int} {k:Nat} {n:Int} (h:l[k]? =ba n):zD (iE l) k 0 1=ba [D.v (.int .i64 n)]:=by
 simp[zD,iE,h];rfl
def z6 {α:Type} {l:List α} {i:Nat} (h:i<l.length):∃x,l[i]? =ba x:=⟨l[i],u' h⟩
def zWa {n k:Nat} {f:Nat->Bool} (hk:k<n) (h:f k=aw):(af n).all f=aw:=by
 cases hh:(af n).all f
 ·rfl
 ·rw[Eb]at hh;rw[hh k (by simpa using hk)]at h;cases h
def z7a {n:Nat} {f:Nat->Bool} (h:∀k<n,f k=ax):(af n).all f=ax:=by
 rw[Eb];intro k hk;exact h k (by simpa using hk)
def yZi (l:List Int) (h:DV.dp l):yDm l:=by
 have h:l.length<=1099511627776:=h;unfold yDm dx wC kI QP dI;simp only[y8];refine⟨0,rfl,λj=>j<=l.length/\∀k<j,kP l k=ax,λj=>l.length-j,⟨oM,λk hk=>by omega⟩,?_⟩;rintro j ⟨h1,h2⟩;have bad:j<l.length->kP l j=aw->∃(o:Unit),xP l=aw/\True:=λhj e=>⟨(),by rw[xP,zWa hj e];rfl,trivial⟩
 have vw:j<l.length->kP l j=ax->∃i':Nat,(i':Int)=av.wrap ((j:Int)+1)/\(i'<=l.length/\∀k<i',kP l k=ax)/\l.length-i'<l.length-j/\True:=λhj e=>⟨j+1,by rw[iq (by omega)];rfl,⟨oM,λk hk=>by
  rcases vh k j with pj|pj
  ·exact h2 k pj
  ·obtain rfl:k=j:=by omega
   exact e⟩,oM,trivial⟩
 refine zH (λhj=> ?_) (λhj=> ?_)
 ·have hj:j<l.length:=by omega
  obtain⟨n,hn⟩:=z6 hj;have hg:l.getD j 0=n:=by simp[hn]
  refine⟨⟨oM,oM⟩,n,rm hn,zH (λc1=>bad hj (by simp[kP,hn];omega)) (λc1=>zH (λc2=>bad hj (by simp[kP,hn];omega)) (λc2=>zH (λc3=> ?_) (λc3=>vw hj ?_)))⟩
  ·have e:av.wrap ((j:Int)-1)=((j-1:Nat):Int):=by rw[iq (by omega)];omega
   obtain⟨m,hm⟩:=z6 (l:=l) (i:=j-1) oM;rw[e];refine⟨⟨oM,oM⟩,m,rm hm,zH (λc4=>bad hj ?_) (λc4=>vw hj ?_)⟩
   ·simp[kP,hn,hm];omega
   ·simp[kP,hn,hm];omega
  ·simp[kP,hn];omega
 ·have e:(af l.length).all (kP l)=ax:=z7a λk hk=>h2 k oM
  refine zH (λc=>⟨(),?_,trivial⟩) (λc=>⟨(),?_,trivial⟩)
  ·rw[xP,e,jk (show 2<=l.length by omega)];simp;omega
  ·rw[xP,jt (show ¬2<=l.length by omega)];simp
def yLd:DV.ok Tryz.prog 104:=gu mixed fg 0 (λ_=>[]) (λ_=>yZt) [] Tryz.func104 yZi
def zLn {f:Int->Int->Int} {l:List Int} {j:Nat} {n:Int} (h:l[j+1]? =ba n):(l.take (j+2)).tail.foldl f ((l.take (j+2)).headD 0)=f ((l.take (j+1)).tail.foldl f ((l.take (j+1)).headD 0)) n:=by
 cases l with
 |nil=>simp at h
 |cons a l=>
  simp only[Bd]at h;simp only[ux,List.tail_cons,List.headD_cons];rw[qx,h,JK];rfl
def z3q {l:List Int} {n:Int} (h:l[0]? =ba n) (f:Int->Int->Int):(l.take 1).tail.foldl f ((l.take 1).headD 0)=n:=by
 cases l with
 |nil=>simp at h
 |cons a l=>simpa using h
def xHb (l:List Int) (h:SY.dp l):xDo l:=by
 obtain⟨h0,h⟩:0<l.length/\l.length<=1099511627776:=h;unfold xDo dx kI QP dI;simp only[y8];obtain⟨n,hn⟩:=z6 h0;refine zH (λc=>by omega) (λc=>⟨⟨oM,oM⟩,n,rm hn,1,z3q hn min,rfl,λj=>1<=j/\j<=l.length,λj=>l.length-j,⟨oM,oM⟩,?_⟩);rintro j ⟨h1,h2⟩;refine zH (λhj=> ?_) (λhj=>⟨(),?_,trivial⟩)
 ·obtain⟨m,hm⟩:=z6 (l:=l) (i:=j) oM;refine⟨⟨oM,oM⟩,m,rm hm,j+1,?_,?_,⟨oM,oM⟩,by(first|omega|(dsimp only;omega)),trivial⟩
  ·obtain⟨k,rfl⟩:∃k,j=k+1:=⟨j-1,oM⟩
   first
    |(rw[eT,zLn hm,<- eT];done)
    |(rw[eT,zLn hm,<- eT];generalize eT (l.take (k+1))=x;split<;>omega)
  ·rw[iq (by omega)];rfl
 ·rw[mo (by omega)]
def y5n:SY.ok Tryz.prog 106:=gu mixed fg 0 (λ_=>[]) (λl=>xIf l) [] Tryz.func106 xHb
def xIo (l:List Int) (h:SZ.dp l):xCc l:=by
 obtain⟨h0,h⟩:0<l.length/\l.length<=1099511627776:=h;unfold xCc dx kI QP dI;simp only[y8];obtain⟨n,hn⟩:=z6 h0;refine zH (λc=>by omega) (λc=>⟨⟨oM,oM⟩,n,rm hn,1,z3q hn max,rfl,λj=>1<=j/\j<=l.length,λj=>l.length-j,⟨oM,oM⟩,?_⟩);rintro j ⟨h1,h2⟩;refine zH (λhj=> ?_) (λhj=>⟨(),?_,trivial⟩)
 ·obtain⟨m,hm⟩:=z6 (l:=l) (i:=j) oM;refine⟨⟨oM,oM⟩,m,rm hm,j+1,?_,?_,⟨oM,oM⟩,by(first|omega|(dsimp only;omega)),trivial⟩
  ·obtain⟨k,rfl⟩:∃k,j=k+1:=⟨j-1,oM⟩
   rw[AY,zLn hm,<- AY];generalize AY (l.take (k+1))=x;split<;>omega
  ·rw[iq (by omega)];rfl
 ·rw[mo (by omega)]
def y4n:SZ.ok Tryz.prog 107:=gu mixed fg 0 (λ_=>[]) (λl=>xIb l) [] Tryz.func107 xIo
@[reducible] def ff.row (p:ff):fj:= .cells p.cells 25
structure Lw where
 p:ff
 n:Int
structure HS where
 p:ff
 l:List Int
def kH (t n:Int):Bool:=n.tmod t !=0
def SS:fy:=fi Lw (λi=>[zB i.n,.nm 0 0]) (λi=>[i.p.row]) (λi=>1<=i.p.tick) (λi=>yL (kH i.p.tick i.n)) (λi=>[i.p.row])
@[reducible] def xFa:V:= .fn 154 [] [.nm 0 0]
def Jn (k:Option Nat):Int:=match k with
 |some k=>k
 |none=> -1
def S4:fy:=fi HS (λi=>[iV i.l,xFa]) (λi=>[i.p.row]) (λi=>1<=i.p.tick/\i.l.length<=1099511627776) (λi=>zB (Jn (i.l.findIdx? (kH i.p.tick)))) (λi=>[i.p.row])
def xGl (i:HS):List gm:=[{ι:=Nat,du:=λj=>[(8,zB j)],rows:=λ_=>[]}]
def Ak:fy:=fi HS (λi=>[iV i.l,xFa]) (λi=>[i.p.row]) (λi=>1<=i.p.tick/\i.l.length<=1099511627776) (λi=>yL (i.l.any (kH i.p.tick))) (λi=>[i.p.row])
def kD (p:ff):Bool:=decide (1<=p.tick) && decide (p.tick<=1000) && !kH p.tick p.low && !kH p.tick p.high && !kH p.tick p.wide && !p.settle.any (kH p.tick)
def Gi:fy:=fi ff (λp=>[nk p]) (λ_=>[]) ff.small (λp=>yL (kD p)) (λ_=>[])
def kF (p:ff):Bool:=decide (p.low< -1000000)||decide (p.low>=p.high)||decide (p.high>1000000)||decide (p.wide<0)||decide (p.wide>p.high-p.low)
def xS (p:ff):Bool:=decide (p.settle.length≠p.dt.length)||decide (eT p.settle<p.low)||decide (AY p.settle>p.high)
def k0 (p:ff):Bool:=decide (p.gi<1)||decide (p.gi>3)
def qJ (p:ff):Bool:=decide (p.top<0)||decide (p.top>1000000)||decide (p.least<1)||decide (p.least>1000)||decide (p.part<0)||decide (p.part>100)
def ff.check (p:ff):Int:=
 if !vB p.code then 12 else if !xP p.dt then 1 else if !kD p then 22 else if kF p then 23 else if xS p then 1 else if k0 p then 31 else if qJ p then 24 else 0
def GS:fy:=fi ff (λp=>[nk p]) (λ_=>[]) ff.small (λp=>zB p.check) (λ_=>[])
def ff.count (p:ff):Nat:=if p.check=0 then p.dt.length+p.dt.length*(p.dt.length-1) / 2 else 0
def DS:fy:=fi ff (λp=>[nk p]) (λ_=>[]) ff.small (λp=>zB p.count) (λ_=>[])
structure aL where
 p:ff
 n:Int
def yP (n:Nat):Nat->Nat
 |0=>n
 |k+1=>yP n k+(n-1-k)
def jS (n inst:Nat):Nat->Nat->Int×Int×Bool
 |0,_=>(0,0,aw)
 |k+1,m=>if inst<yP n m+(n-1-m)then(m,m+1+(inst-yP n m:Nat),ax)else jS n inst k (m+1)
def ff.gj (p:ff) (i:Int):Int×Int×Bool:=
 if i<0\/(p.count:Int)<=i then(0,0,aw)else if i<p.dt.length then(i,i,aw)else jS p.dt.length i.toNat p.dt.length 0
def Kw:fy:=fi aL (λi=>[nk i.p,zB i.n]) (λ_=>[]) (λi=>i.p.small) (λi=> .iZ [zB (i.p.gj i.n).1,zB (i.p.gj i.n).2.1,yL (i.p.gj i.n).2.2]) (λ_=>[])
structure AX where
 p:ff
 a:Int
 b:Int
def ff.spread (p:ff) (a b:Int):Int×Bool:=
 if p.check≠0\/a<0\/b<=a\/(p.dt.length:Int)<=b then(0,aw)else((yP p.dt.length a.toNat:Int)+b-a-1,ax)
def DJ:fy:=fi AX (λi=>[nk i.p,zB i.a,zB i.b]) (λ_=>[]) (λi=>i.p.small) (λi=> .iZ [zB (i.p.spread i.a i.b).1,yL (i.p.spread i.a i.b).2]) (λ_=>[])
def ff.dm (p:ff) (i n:Int):Int:=
 if p.count=0 then 1 else if i<0\/(p.count:Int)<=i then 20 else if kH p.tick n then 22 else
 if n<(if(p.dt.length:Int)<=i then-p.wide else p.low)\/(if(p.dt.length:Int)<=i then p.wide else p.high)<n then 23 else 0
def Gr:fy:=fi AX (λi=>[nk i.p,zB i.a,zB i.b]) (λ_=>[]) (λi=>i.p.small) (λi=>zB (i.p.dm i.a i.b)) (λ_=>[])
structure I2 where
 x:Int
 y:Int
@[reducible] def gr (n:Int):Prop:= -9223372036854775808<=n/\n<=9223372036854775807
def fD (x y:Int):Int×Bool:=if gr (x+y)then(x+y,ax)else(0,aw)
def fA (x y:Int):Int×Bool:=if gr (x-y)then(x-y,ax)else(0,aw)
def Tw:fy:=fi I2 (λi=>[zB i.x,zB i.y]) (λ_=>[]) (λi=>gr i.x/\gr i.y) (λi=> .iZ [zB (fD i.x i.y).1,yL (fD i.x i.y).2]) (λ_=>[])
def SJ:fy:=fi I2 (λi=>[zB i.x,zB i.y]) (λ_=>[]) (λi=>gr i.x/\gr i.y) (λi=> .iZ [zB (fA i.x i.y).1,yL (fA i.x i.y).2]) (λ_=>[])
def xAv (i:aL):List gm:=[{ι:=Nat,du:=λm=>[(8,zB (yP i.p.dt.length m)),(33,zB m)],rows:=λ_=>[]}]
def yXc (i:AX):List gm:=[{ι:=Nat,du:=λm=>[(9,zB (yP i.p.dt.length m)),(33,zB m)],rows:=λ_=>[]}]
@[reducible] def QB (a:ff)(R:Prop):Prop:=sb a.code=sb a.code/\iE a.dt=iE a.dt/\a.tick=a.tick/\a.low=a.low/\a.high=a.high/\a.wide=a.wide/\a.gi=a.gi/\a.top=a.top/\a.least=a.least/\a.part=a.part/\iE a.settle=iE a.settle/\R
@[reducible] def IB (a:ff)(R:Prop):Prop:=av=av/\a.tick≠0/\R
def xAw (i:Lw):Prop:=IB i.p (dx (kH i.p.tick i.n=(i.n.tmod i.p.tick !=0)/\QB i.p (True)))
@[reducible] def Qb (a b:ff)(R:Prop):Prop:=sb a.code=sb b.code/\iE a.dt=iE b.dt/\a.tick=b.tick/\a.low=b.low/\a.high=b.high/\a.wide=b.wide/\a.gi=b.gi/\a.top=b.top/\a.least=b.least/\a.part=b.part/\iE a.settle=iE b.settle/\R
def xAu (i:HS):Prop:=
 ∃(a:Nat),(↑a:Int)=0/\∃(b:Nat->Prop),∃(c:Nat->Nat),b a/\∀(d:Nat),b d->dp (decide ((↑d:Int)<(↑(iE i.l).length:Int))) ((0<=(↑d:Int)/\(↑d:Int)<(↑(iE i.l).length:Int))/\∃(e:Int),zD (iE i.l) (↑d:Int).toNat 0 1=ba [dI e]/\∃(f:Lw),f.n=e/\Qb f.p i.p (1<=f.p.tick/\fa (dp (kH f.p.tick f.n) (dx (Jn (aj (kH i.p.tick) i.l)=(↑d:Int)/\Qb i.p f.p (True))) (∃(h:Nat),QP h d b c (ao [V.d (D.v (bu (sb f.p.code))),V.d (D.ro 1 (iE f.p.dt)),V.d (dI f.p.tick),V.d (dI f.p.low),V.d (dI f.p.high),V.d (dI f.p.wide),V.d (dI f.p.gi),V.d (dI f.p.top),V.d (dI f.p.least),V.d (dI f.p.part),V.d (D.ro 1 (iE f.p.settle))] (25:bo)=i.p.row))))) (dx (Jn (aj (kH i.p.tick) i.l)=(-1)/\QB i.p (True)))
def zXf (i:HS):Prop:=
 ∃(a:HS),iE a.l=iE i.l/\Qb a.p i.p ((1<=a.p.tick/\a.l.length<=1099511627776)/\fa (dx (i.l.any (kH i.p.tick)=decide (Jn (aj (kH a.p.tick) a.l)>=0)/\Qb i.p a.p (True))))
def yOg (p:ff):Prop:=
 dp (decide (p.tick<1)) (dx (kD p=aw/\True)) (dp (decide (p.tick>1000)) (dx (kD p=aw/\True)) (∃(a:Lw),a.n=p.low/\Qb a.p p (1<=a.p.tick/\fa (dp (!kH a.p.tick a.n) (∃(c:Lw),c.n=a.p.high/\Qb c.p a.p (1<=c.p.tick/\fa (dp (!kH c.p.tick c.n) (∃(e:Lw),e.n=c.p.wide/\Qb e.p c.p (1<=e.p.tick/\fa (dp (!kH e.p.tick e.n) (∃(g:HS),iE g.l=iE e.p.settle/\Qb g.p e.p ((1<=g.p.tick/\g.l.length<=1099511627776)/\fa (dx (kD p=!g.l.any (kH g.p.tick)/\True)))) (dx (kD p=aw/\True))))) (dx (kD p=aw/\True))))) (dx (kD p=aw/\True))))))
@[reducible] def o7 (a:ff)(R:Prop):Prop:=a.code.length<=1099511627776/\a.dt.length<=1099511627776/\R
def zW (a:ff):Prop:=o7 a (a.settle.length<=1099511627776)
def vT (a:ff):=(↑(iE a.settle).length:Int)
def xM (a:ff):=(↑(iE a.dt).length:Int)
def yNq (p:ff):Prop:=
 ∃(a:List UInt8),sb a=sb p.code/\a.length<=1099511627776/\fa (dp (!vB a) (dx (p.check=12/\True)) (∃(c:List Int),iE c=iE p.dt/\c.length<=1099511627776/\fa (dp (!xP c) (dx (p.check=1/\True)) (∃(e:ff),Qb e p ((zW e)/\fa (dp (!kD e) (dx (p.check=22/\True)) (dp (decide (p.low<(-1000000))) (dx (p.check=23/\True)) (dp (decide (p.low>=p.high)) (dx (p.check=23/\True)) (dp (decide (p.high>1000000)) (dx (p.check=23/\True)) (dp (decide (p.wide<0)) (dx (p.check=23/\True)) (dp (decide (p.wide>av.wrap (p.high-p.low))) (dx (p.check=23/\True)) (dp ((vT p) !=(xM p)) (dx (p.check=1/\True)) (∃(g:List Int),iE g=iE p.settle/\(0<g.length/\g.length<=1099511627776)/\fa (dl p.low/\dp (decide (eT g<p.low)) (dx (p.check=1/\True)) (∃(j:List Int),iE j=iE p.settle/\(0<j.length/\j.length<=1099511627776)/\fa (dl p.high/\dp (decide (AY j>p.high)) (dx (p.check=1/\True)) (dp (decide (p.gi<1)) (dx (p.check=31/\True)) (dp (decide (p.gi>3)) (dx (p.check=31/\True)) (dp (decide (p.top<0)) (dx (p.check=24/\True)) (dp (decide (p.top>1000000)) (dx (p.check=24/\True)) (dp (decide (p.least<1)) (dx (p.check=24/\True)) (dp (decide (p.least>1000)) (dx (p.check=24/\True)) (dp (decide (p.part<0)) (dx (p.check=24/\True)) (dp (decide (p.part>100)) (dx (p.check=24/\True)) (dx (p.check=0/\True))))))))))))))))))))))))))
def Wm (a:ff) (b:ff):Prop:=Qb a b ((zW a)/\fa (dp (a.check !=0) (dx ((↑b.count:Int)=0/\True)) (av=av/\(2:Int)≠(0:Int)/\dx ((↑b.count:Int)=av.wrap ((xM b)+av.wrap ((av.wrap ((xM b)*av.wrap ((xM b)-1))).tdiv 2))/\True))))
def yDv (p:ff):Prop:=
 ∃(a:ff),Wm a p
@[reducible] def Bi (a:ff)(R:Prop):Prop:=ao [V.d (D.v (bu (sb a.code))),V.own 0,V.d (dI a.tick),V.d (dI a.low),V.d (dI a.high),V.d (dI a.wide),V.d (dI a.gi),V.d (dI a.top),V.d (dI a.least),V.d (dI a.part),V.own 1] 25=ao [V.d (D.v (bu (sb a.code))),V.own 0,V.d (dI a.tick),V.d (dI a.low),V.d (dI a.high),V.d (dI a.wide),V.d (dI a.gi),V.d (dI a.top),V.d (dI a.least),V.d (dI a.part),V.own 1] 25/\am 1 (iE a.settle)=am 1 (iE a.settle)/\R
def pO (a:aL):Prop:=Bi a.p (dl (am 1 (iE a.p.dt)))
def VZ (a:Nat->Prop) (b:Nat) (c:Nat->Nat) (d:Nat) (e:aL):Prop:=a b/\c b<c d/\pO e
def gR (a:aL) (b:Nat):=(↑(yP a.p.dt.length b):Int)
def uH (a:aL):=(↑(iE a.p.dt).length:Int)
def ZV (a:aL) (b:Nat):=((gR a b)+av.wrap (av.wrap ((uH a)-1)-(↑b:Int)))
def dL (a:aL):Prop:=dx ((a.p.gj a.n).fst=0/\(a.p.gj a.n).snd.fst=0/\(a.p.gj a.n).snd.snd=aw/\True)
def VS (a:aL):Prop:=dx ((a.p.gj a.n).fst=a.n/\(a.p.gj a.n).snd.fst=a.n/\(a.p.gj a.n).snd.snd=aw/\True)
def y2s (i:aL):Prop:=
 ∃(a:ff),Qb a i.p ((zW a)/\fa (dp (decide (i.n<0)) (dL i) (dp (decide (i.n>=(↑a.count:Int))) (dL i) (dp (decide (i.n<(uH i))) (VS i) (∃(c:Nat),(gR i c)=(uH i)/\(↑c:Int)=0/\∃(d:Nat->Prop),∃(e:Nat->Nat),d c/\∀(f:Nat),d f->dp (decide ((↑f:Int)<(uH i))) (dp (decide (i.n<av.wrap (ZV i f))) (dx ((i.p.gj i.n).fst=(↑f:Int)/\(i.p.gj i.n).snd.fst=av.wrap (av.wrap (av.wrap ((↑f:Int)+1)+i.n)-(gR i f))/\(i.p.gj i.n).snd.snd=ax/\True)) (∃(g:Nat),(gR i g)=av.wrap (ZV i f)/\(↑g:Int)=av.wrap ((↑f:Int)+1)/\VZ d g e f i)) (dL i))))))
def aE (a:AX):Prop:=dx ((a.p.spread a.a a.b).fst=0/\(a.p.spread a.a a.b).snd=aw/\True)
def yGk (i:AX):Prop:=
 ∃(a:ff),Qb a i.p ((zW a)/\fa (dp (a.check !=0) (aE i) (dp (decide (i.a<0)) (aE i) (dp (decide (i.a>=i.b)) (aE i) (dp (decide (i.b>=(↑(iE i.p.dt).length:Int))) (aE i) (∃(c:Nat),(↑(yP i.p.dt.length c):Int)=(↑(iE i.p.dt).length:Int)/\(↑c:Int)=0/\∃(d:Nat->Prop),∃(e:Nat->Nat),d c/\∀(f:Nat),d f->dp (decide ((↑f:Int)<i.a)) (∃(g:Nat),(↑(yP i.p.dt.length g):Int)=av.wrap ((↑(yP i.p.dt.length f):Int)+av.wrap (av.wrap ((↑(iE i.p.dt).length:Int)-1)-(↑f:Int)))/\QP g f d e (Bi i.p (dl (am 1 (iE i.p.dt))))) (dx ((i.p.spread i.a i.b).fst=av.wrap (av.wrap (av.wrap ((↑(yP i.p.dt.length f):Int)+i.b)-i.a)-1)/\(i.p.spread i.a i.b).snd=ax/\True))))))))
def yOq (i:AX):Prop:=
 ∃(a:ff),Qb a i.p ((zW a)/\fa (dp ((↑a.count:Int)==0) (dx (i.p.dm i.a i.b=1/\True)) (dp (decide (i.a<0)) (dx (i.p.dm i.a i.b=20/\True)) (dp (decide (i.a>=(↑a.count:Int))) (dx (i.p.dm i.a i.b=20/\True)) (IB i.p (dp (i.b.tmod i.p.tick !=0) (dx (i.p.dm i.a i.b=22/\True)) (dp (decide (i.a>=(↑(iE i.p.dt).length:Int))) (dp (decide (i.b<av.wrap (0-i.p.wide))) (dx (i.p.dm i.a i.b=23/\True)) (dp (decide (i.b>i.p.wide)) (dx (i.p.dm i.a i.b=23/\True)) (dx (i.p.dm i.a i.b=0/\True)))) (dp (decide (i.b<i.p.low)) (dx (i.p.dm i.a i.b=23/\True)) (dp (decide (i.b>i.p.high)) (dx (i.p.dm i.a i.b=23/\True)) (dx (i.p.dm i.a i.b=0/\True)))))))))))
def Zk (a:I2):Prop:=dx ((fD a.x a.y).fst=av.wrap (a.x+a.y)/\(fD a.x a.y).snd=ax/\True)
def xCr (i:I2):Prop:=
 dp (decide (i.x<0)==decide (i.y<0)) (dp (!decide (av.wrap (i.x+i.y)<0)==decide (i.x<0)) (dx ((fD i.x i.y).fst=0/\(fD i.x i.y).snd=aw/\True)) (Zk i)) (Zk i)
def Zc (a:I2):Prop:=dx ((fA a.x a.y).fst=av.wrap (a.x-a.y)/\(fA a.x a.y).snd=ax/\True)
def xDq (i:I2):Prop:=
 dp (!decide (i.x<0)==decide (i.y<0)) (dp (!decide (av.wrap (i.x-i.y)<0)==decide (i.x<0)) (dx ((fA i.x i.y).fst=0/\(fA i.x i.y).snd=aw/\True)) (Zc i)) (Zc i)
def xIe (i:Lw) (h:SS.dp i):xAw i:=by
 have h:1<=i.p.tick:=h;unfold xAw QB IB dx;exact kp
def yRd:SS.ok Tryz.prog 154:=gu mixed fg 0 (λ_=>[]) (λ_=>[]) [] Tryz.func154 xIe
def zLw {α:Type} {f:α->Bool} {l:List α} (h:∀(k:Nat) (x:α),l[k]? =ba x->f x=aw):l.findIdx? f=bc:=by
 rw[N9];intro x hx;obtain⟨k,hk⟩:=N7 hx;exact h k x hk
def ZS {α:Type} {f:α->Bool} {l:List α} {j:Nat} {x:α} (h1:l[j]? =ba x) (h2:f x=ax) (h:∀k<j,∀x:α,l[k]? =ba x->f x=aw):l.findIdx? f=ba j:=by
 rw[LJ];obtain⟨hj,rfl⟩:=jf.1 h1;exact⟨hj,h2,λk hk=>by rw[h k hk _ (u' (by omega))];simp⟩
def xIh (i:HS) (h:S4.dp i):xAu i:=by
 obtain⟨h1,h2⟩:1<=i.p.tick/\i.l.length<=1099511627776:=h;unfold xAu QB QP Qb fa dx dI;simp only[y8];refine⟨0,rfl,λj=>j<=i.l.length/\∀k<j,∀x,i.l[k]? =ba x->kH i.p.tick x=aw,λj=>i.l.length-j,⟨oM,λk hk=>by omega⟩,?_⟩;rintro j ⟨h3,h4⟩;refine zH (λhj=> ?_) (λhj=> ?_)
 ·obtain⟨n,hn⟩:=z6 (l:=i.l) (i:=j) oM;refine⟨⟨oM,oM⟩,n,rm hn,⟨i.p,n⟩,?_⟩
  (repeat'(first|exact rfl|exact trivial|assumption|apply az|refineλ(_:Unit) (_:True)=>?_|refine ay () ?_|omega|(dsimp only;omega)))
  refine Cv.dp.mk (λe=> ?_) (λe=> ?_)
  ·rw[ZS hn e h4];exact kp
  ·refine⟨j+1,by rw[iq (by omega)];rfl,⟨oM,λk hk x hx=> ?_⟩,by(first|omega|(dsimp only;omega)),rfl⟩;rcases vh k j with pj|pj
   ·exact h4 k pj x hx
   ·obtain rfl:k=j:=by omega
    rw[hn]at hx;cases hx;exact e
 ·rw[zLw λk x hx=>h4 k (by have:=(jf.1 hx).1;omega) x hx];exact kp
def y7d:S4.ok Tryz.prog 191:=gu mixed (dw yRd fg) 0 (λ_=>[]) (λi=>xGl i) [] Tryz.func191 xIh
def yKi {l:List Int} {f:Int->Bool}:l.any f=decide (Jn (l.findIdx? f)>=0):=by
 cases hf:l.findIdx? f with
 |none=>
  rw[N9]at hf;have:l.any f=aw:=by rw[N0];intro x hx;simp[hf x hx]
  rw[this];rfl
 |some k=>
  rw[LJ]at hf;obtain⟨hk,h1,_⟩:=hf;have:l.any f=ax:=by rw[List.any_eq_true];exact⟨_,List.getElem_mem hk,h1⟩
  rw[this,Jn,jk (by omega)]
def yIo (i:HS) (h:Ak.dp i):zXf i:=by
 unfold zXf Qb fa dx;have h':1<=i.p.tick/\i.l.length<=1099511627776:=h;refine⟨i,?_⟩
 (repeat'(first|exact rfl|exact trivial|assumption|apply az|refineλ(_:Unit) (_:True)=>?_|refine ay () ?_|omega|(dsimp only;omega)))
 exact yKi
def z5c:Ak.ok Tryz.prog 155:=gu mixed (dw y7d fg) 0 (λ_=>[]) (λ_=>[]) [] Tryz.func155 yIo
def y4k (p:ff) (h:Gi.dp p):yOg p:=by
 obtain⟨h1,h2,h3⟩:p.small:=h;unfold yOg Qb fa dx;refine zH (λc1=>⟨(),by rw[kD,jt (by omega)];rfl,trivial⟩) (λc1=>zH (λc2=>⟨(),by rw[kD,jt (show ¬p.tick<=1000 by omega)];simp,trivial⟩) (λc2=>⟨⟨p,p.low⟩,?_⟩));have e1:kD p=(!kH p.tick p.low && !kH p.tick p.high && !kH p.tick p.wide && !p.settle.any (kH p.tick)):=by
  rw[kD,jk (by omega),jk (by omega)];rfl
 rw[e1]
 (repeat'(first|exact rfl|exact trivial|assumption|apply az|refineλ(_:Unit) (_:True)=>?_|refine ay () ?_|omega|(dsimp only;omega)))
 refine Cv.dp.mk (λc3=>⟨⟨p,p.high⟩,?_⟩) (λc3=>⟨(),?_,trivial⟩)
 ·dsimp only at c3
  (repeat'(first|exact rfl|exact trivial|assumption|apply az|refineλ(_:Unit) (_:True)=>?_|refine ay () ?_|omega|(dsimp only;omega)))
  refine Cv.dp.mk (λc4=>⟨⟨p,p.wide⟩,?_⟩) (λc4=>⟨(),?_,trivial⟩)
  ·dsimp only at c4
   (repeat'(first|exact rfl|exact trivial|assumption|apply az|refineλ(_:Unit) (_:True)=>?_|refine ay () ?_|omega|(dsimp only;omega)))
   refine Cv.dp.mk (λc5=>⟨⟨p,p.settle⟩,?_⟩) (λc5=>⟨(),?_,trivial⟩)
   ·dsimp only at c5
    (repeat'(first|exact rfl|exact trivial|assumption|apply az|refineλ(_:Unit) (_:True)=>?_|refine ay () ?_|omega|(dsimp only;omega)))
    rw[c3,c4,c5];simp
   ·dsimp only at c5;rw[c5];simp
  ·dsimp only at c4;rw[c4];simp
 ·dsimp only at c3;rw[c3];simp
def yLv:Gi.ok Tryz.prog 105:=gu mixed (dw yRd (dw z5c fg)) 0 (λ_=>[]) (λ_=>[]) [] Tryz.func105 y4k
def y7q (p:ff) (h:GS.dp p):yNq p:=by
 obtain⟨h1,h2,h3⟩:p.small:=h;unfold yNq Qb fa dx xM vT zW o7;simp only[y8];refine⟨p.code,rfl,h1,λ_ _=>Cv.dp.mk (λc1=>⟨(),by rw[ff.check,fc c1],trivial⟩) (λc1=>⟨p.dt,rfl,h2,λ_ _=>Cv.dp.mk (λc2=>⟨(),by rw[ff.check,eg (by simp[c1]),fc c2],trivial⟩) (λc2=>⟨p,?_⟩)⟩)⟩
 (repeat'(first|exact rfl|exact trivial|assumption|apply az|refineλ(_:Unit) (_:True)=>?_|refine ay () ?_|omega|(dsimp only;omega)))
 refine Cv.dp.mk (λc3=>⟨(),by rw[ff.check,eg (by simp[c1]),eg (by simp[c2]),fc c3],trivial⟩) (λc3=> ?_);have e0:p.check=if kF p then 23 else if xS p then 1 else if k0 p then 31 else if qJ p then 24 else 0:=by
  rw[ff.check,eg (by simp[c1]),eg (by simp[c2]),eg (by simp[c3])]
 have b (hb:kF p=ax):∃(o:Unit),p.check=23/\True:=⟨(),by rw[e0,fc hb],trivial⟩
 refine zH (λd1=>b (by simp[kF,d1])) λd1=>zH (λd2=>b (by simp[kF];omega)) λd2=>zH (λd3=>b (by simp[kF];omega)) λd3=>zH (λd4=>b (by simp[kF];omega)) λd4=> ?_
 rw[iq (by omega)];refine zH (λd5=>b (by simp[kF];omega)) λd5=> ?_
 have e1:p.check=if xS p then 1 else if k0 p then 31 else if qJ p then 24 else 0:=by
  rw[e0,eg (by simp[kF];omega)]
 have s (hb:xS p=ax):∃(o:Unit),p.check=1/\True:=⟨(),by rw[e1,fc hb],trivial⟩
 have hm:2<=p.dt.length:=by
  have c2:xP p.dt=ax:=by simpa using c2
  simp[xP]at c2;omega
 refine Cv.dp.mk (λd6=>s (by have d6:¬(p.settle.length:Int)=p.dt.length:=(by simpa using d6);simp[xS];omega)) λd6=> ?_
 have d6:p.settle.length=p.dt.length:=by
  have:(p.settle.length:Int)=p.dt.length:=by simpa using d6
  omega
 refine⟨p.settle,rfl,⟨oM,oM⟩,λ_ _=>⟨kp,zH (λd7=>s (by simp[xS];left;right;omega)) λd7=>⟨p.settle,rfl,⟨oM,oM⟩,λ_ _=>⟨kp,zH (λd8=>s (by simp[xS];right;omega)) λd8=> ?_⟩⟩⟩⟩;have e2:p.check=if k0 p then 31 else if qJ p then 24 else 0:=by
  rw[e1,eg (by simp[xS];omega)]
 have r (hb:k0 p=ax):∃(o:Unit),p.check=31/\True:=⟨(),by rw[e2,fc hb],trivial⟩
 refine zH (λd9=>r (by simp[k0];omega)) λd9=>zH (λd10=>r (by simp[k0];omega)) λd10=> ?_
 have e3:p.check=if qJ p then 24 else 0:=by
  rw[e2,eg (by simp[k0];omega)]
 have q (hb:qJ p=ax):∃(o:Unit),p.check=24/\True:=⟨(),by rw[e3,fc hb],trivial⟩
 refine zH (λf1=>q (by simp[qJ];omega)) λf1=>zH (λf2=>q (by simp[qJ];omega)) λf2=>zH (λf3=>q (by simp[qJ];omega)) λf3=>zH (λf4=>q (by simp[qJ];omega)) λf4=>zH (λf5=>q (by simp[qJ];omega)) λf5=>zH (λf6=>q (by simp[qJ];omega)) λf6=> ?_
 exact⟨(),by rw[e3,eg (by simp[qJ];omega)],trivial⟩
def mV:GS.ok Tryz.prog 43:=gu mixed (dw y5r (dw yLd (dw yLv (dw y5n (dw y4n fg))))) 0 (λ_=>[]) (λ_=>[]) [] Tryz.func43 y7q
structure ff.Ok (p:ff):Prop where
 sym:vB p.code=ax
 dt:xP p.dt=ax
 aa0:kD p=ax
 m2:2<=p.dt.length
 m6:p.dt.length<=6
 t1:1<=p.tick
 t2:p.tick<=1000
 b1: -1000000<=p.low
 b2:p.low<p.high
 b3:p.high<=1000000
 b4:0<=p.wide
 b5:p.wide<=p.high-p.low
 s1:p.settle.length=p.dt.length
 s2:p.low<=eT p.settle
 s3:AY p.settle<=p.high
 r1:1<=p.gi
 r2:p.gi<=3
 q1:0<=p.top
 q2:p.top<=1000000
 q3:1<=p.least
 q4:p.least<=1000
 q5:0<=p.part
 q6:p.part<=100
def jE {p:ff} (h:p.check=0):p.Ok:=by
 unfold ff.check at h;split at h<;>first|(exfalso;revert h;decide)|skip
 rename_i c1;split at h<;>first|(exfalso;revert h;decide)|skip
 rename_i c2;split at h<;>first|(exfalso;revert h;decide)|skip
 rename_i c3;split at h<;>first|(exfalso;revert h;decide)|skip
 rename_i c4;split at h<;>first|(exfalso;revert h;decide)|skip
 rename_i c5;split at h<;>first|(exfalso;revert h;decide)|skip
 rename_i c6;split at h<;>first|(exfalso;revert h;decide)|skip
 rename_i c7;simp only[De,Bool.not_eq_false,Bool.not_eq_true]at c1 c2 c3;have m:=c2;have t:=c3;simp[xP]at m;simp[kD]at t;simp[kF]at c4;simp[xS]at c5;simp[k0]at c6;simp[qJ]at c7;exact⟨c1,c2,c3,oM,oM,oM,oM,oM,oM,oM,oM,oM,oM,oM,oM,oM,oM,oM,oM,oM,oM,oM,oM⟩
def yOt {n:Nat} (h:n<=6):n+n*(n-1) / 2<=21:=by
 have:∀n≤6,n+n*(n-1) / 2<=21:=by decide
 exact this n h
def yWx (p:ff) (h:DS.dp p):yDv p:=by
 unfold yDv Wm Qb fa dx xM zW o7;obtain⟨h1,h2,h3⟩:p.small:=h;refine⟨p,?_⟩;simp only[y8]
 (repeat'(first|exact rfl|exact trivial|assumption|apply az|refineλ(_:Unit) (_:True)=>?_|refine ay () ?_|omega|(dsimp only;omega)))
 refine Cv.dp.mk (λc=>⟨(),by rw[ff.count,eg (by simpa using c)];rfl,trivial⟩) (λc=> ?_);have c:p.check=0:=by simpa using c
 have ok:=jE c;refine⟨kp,Z8,(),?_,trivial⟩;rw[ff.count,fc c];obtain⟨n,hn⟩:∃n,p.dt.length=n:=⟨_,rfl⟩
 have m2:=ok.m2;have m6:=ok.m6;rw[hn]at m2 m6 ⊢;have:n=2\/n=3\/n=4\/n=5\/n=6:=by omega
 rcases this with rfl|rfl|rfl|rfl|rfl<;>rfl
def fW:DS.ok Tryz.prog 44:=gu mixed (dw mV fg) 0 (λ_=>[]) (λ_=>[]) [] Tryz.func44 yWx
def PC {p:ff} (h:p.count≠0):p.check=0:=by
 unfold ff.count at h;split at h
 ·assumption
 ·exact absurd rfl h
def xF (p:ff):p.count<=21:=by
 unfold ff.count;split
 ·rename_i h;exact yOt (jE h).m6
 ·omega
def YS {n m:Nat} (h:n<=6) (hm:m<=n):yP n m<=21:=by
 have:∀n≤6,∀m≤n,yP n m<=21:=by decide
 exact this n h m hm
def xBp (i:aL) (h:Kw.dp i):y2s i:=by
 unfold y2s Qb fa dx VS dx dL dx ZV uH gR VZ pO Bi zW o7 dI;obtain⟨h1,h2,h3⟩:i.p.small:=h;refine⟨i.p,?_⟩;simp only[y8]
 (repeat'(first|exact rfl|exact trivial|assumption|apply az|refineλ(_:Unit) (_:True)=>?_|refine ay () ?_|omega|(dsimp only;omega)))
 refine zH (λc1=> ?_) (λc1=>zH (λc2=> ?_) (λc2=> ?_))
 ·rw[ff.gj,fc (by omega)];exact kp
 ·rw[ff.gj,fc (by omega)];exact kp
 have c2:¬i.n>=(i.p.count:Int):=c2;have hc:=xF i.p;have ok:=jE (PC (p:=i.p) oM);have m6:=ok.m6;refine zH (λc3=> ?_) (λc3=> ?_)
 ·rw[ff.gj,eg (by omega),fc c3];exact kp
 have e0:i.p.gj i.n=jS i.p.dt.length i.n.toNat i.p.dt.length 0:=by
  rw[ff.gj,eg (by omega),eg c3]
 rw[e0];generalize hn:i.p.dt.length=n at c3 m6 ⊢;obtain⟨k,hk⟩:∃k:Nat,i.n=k:=⟨i.n.toNat,oM⟩
 rw[hk]at c2 c3 ⊢;refine⟨0,rfl,rfl,λm=>m<=n/\yP n m<=k/\jS n k n 0=jS n k (n-m) m,λm=>n-m,⟨oM,by show n<=k;omega,rfl⟩,?_⟩;rintro m ⟨g1,g2,g3⟩;have hf:=YS m6 g1;refine zH (λc4=> ?_) (λc4=> ?_)
 ·obtain⟨r,hr⟩:∃r,n-m=r+1:=⟨n-m-1,oM⟩
  have e1:(k:Int).toNat=k:=by omega
  rw[e1,g3,hr,iq (x:=(n:Int)-1) (by omega),iq (x:=(n:Int)-1-m) (by omega),iq (x:=(yP n m:Int)+((n:Int)-1-m)) (by omega),iq (x:=(m:Int)+1) (by omega)];rw[hr]at g3;refine zH (λc5=> ?_) (λc5=> ?_)
  ·rw[iq (x:=(m:Int)+1+k) (by omega),iq (x:=(m:Int)+1+k-(yP n m:Int)) (by omega),jS,fc (by omega)];refine⟨(),rfl,?_,rfl,trivial⟩;dsimp only;omega
  ·refine⟨m+1,?_,rfl,⟨oM,?_,?_⟩,by(first|omega|(dsimp only;omega)),kp⟩
   ·rw[yP];omega
   ·rw[yP];omega
   ·rw[jS,eg (by omega),show n-(m+1)=r by omega]
 ·have e1:(k:Int).toNat=k:=by omega
  rw[e1,g3,show n-m=0 by omega];exact⟨(),iJ trivial⟩
def Nx:Kw.ok Tryz.prog 119:=gu mixed (dw fW fg) 0 (λ_=>[]) (λi=>xAv i) [] Tryz.func119 xBp
def yVn (i:AX) (h:DJ.dp i):yGk i:=by
 unfold yGk QP Qb Bi fa dx aE dx zW o7 dI;obtain⟨h1,h2,h3⟩:i.p.small:=h;refine⟨i.p,?_⟩;simp only[y8]
 (repeat'(first|exact rfl|exact trivial|assumption|apply az|refineλ(_:Unit) (_:True)=>?_|refine ay () ?_|omega|(dsimp only;omega)))
 have bad (hb:i.p.check≠0\/i.a<0\/i.b<=i.a\/(i.p.dt.length:Int)<=i.b):∃(o:Unit),(i.p.spread i.a i.b).fst=0/\(i.p.spread i.a i.b).snd=aw/\True:=⟨(),by rw[ff.spread,fc hb],by rw[ff.spread,fc hb],trivial⟩
 refine Cv.dp.mk (λc1=>bad (.inl (by simpa using c1))) λc1=>zH (λc2=>bad oM) λc2=>zH (λc3=>bad oM) λc3=>zH (λc4=>bad oM) λc4=> ?_
 have c1:i.p.check=0:=by simpa using c1
 have m6:=(jE c1).m6;rw[ff.spread,eg (by omega)];generalize hn:i.p.dt.length=n at c4 m6 ⊢;obtain⟨a,ha⟩:∃k:Nat,i.a=k:=⟨i.a.toNat,oM⟩
 rw[ha]at c3 ⊢;refine⟨0,rfl,rfl,λm=>m<=a,λm=>a-m,oM,?_⟩;intro m hm;have hm:m<=a:=hm;have hf:=YS (m:=m) m6 oM;refine zH (λc5=> ?_) (λc5=> ?_)
 ·rw[iq (x:=(n:Int)-1) (by omega),iq (x:=(n:Int)-1-m) (by omega),iq (x:=(yP n m:Int)+((n:Int)-1-m)) (by omega),iq (x:=(m:Int)+1) (by omega)];refine⟨m+1,?_,rfl,oM,by(first|omega|(dsimp only;omega)),kp⟩;rw[yP];omega
 ·obtain rfl:m=a:=by omega
  rw[iq (x:=(yP n m:Int)+i.b) (by omega),iq (x:=(yP n m:Int)+i.b-m) (by omega),iq (x:=(yP n m:Int)+i.b-m-1) (by omega)];exact⟨(),rfl,rfl,trivial⟩
def zYd:DJ.ok Tryz.prog 173:=gu mixed (dw mV fg) 0 (λ_=>[]) (λi=>yXc i) [] Tryz.func173 yVn
def y9d (i:AX) (h:Gr.dp i):yOq i:=by
 unfold yOq Qb IB fa dx zW o7;obtain⟨h1,h2,h3⟩:i.p.small:=h;refine⟨i.p,?_⟩;simp only[y8]
 (repeat'(first|exact rfl|exact trivial|assumption|apply az|refineλ(_:Unit) (_:True)=>?_|refine ay () ?_|omega|(dsimp only;omega)))
 refine Cv.dp.mk (λc1=>⟨(),by rw[ff.dm,fc (by have:(i.p.count:Int)=0:=(by simpa using c1);omega)],trivial⟩) λc1=> ?_
 have c1:i.p.count≠0:=by
  have:¬(i.p.count:Int)=0:=by simpa using c1
  omega
 have e0:i.p.dm i.a i.b=if i.a<0\/(i.p.count:Int)<=i.a then 20 else if kH i.p.tick i.b then 22 else
  if i.b<(if(i.p.dt.length:Int)<=i.a then-i.p.wide else i.p.low)\/(if(i.p.dt.length:Int)<=i.a then i.p.wide else i.p.high)<i.b then 23 else 0:=by rw[ff.dm,eg c1]
 rw[e0];have ok:=jE (PC c1);obtain⟨t1,b3,b1,b2,b4,b5⟩:=(⟨ok.t1,ok.b3,ok.b1,ok.b2,ok.b4,ok.b5⟩:_/\_/\_/\_/\_/\_)
 refine zH (λc2=>⟨(),by rw[fc (.inl c2)],trivial⟩) λc2=>zH (λc3=>⟨(),by rw[fc (.inr c3)],trivial⟩) λc3=>⟨kp,oM,?_⟩
 have c3:¬i.a>=(i.p.count:Int):=c3;rw[eg (by omega)];refine Cv.dp.mk (λc4=>⟨(),fc c4,trivial⟩) λc4=> ?_
 rw[eg (by rw[kH,c4];simp),iq (x:=0-i.p.wide) (by omega)];refine zH (λc5=> ?_) (λc5=> ?_)
 ·have c5:(i.p.dt.length:Int)<=i.a:=c5;simp only[fc c5];refine zH (λc6=>⟨(),fc (.inl oM),trivial⟩) λc6=>zH (λc7=>⟨(),fc (.inr oM),trivial⟩) λc7=>⟨(),eg oM,trivial⟩
 ·have c5:¬(i.p.dt.length:Int)<=i.a:=c5;simp only[eg c5];refine zH (λc6=>⟨(),fc (.inl oM),trivial⟩) λc6=>zH (λc7=>⟨(),fc (.inr oM),trivial⟩) λc7=>⟨(),eg oM,trivial⟩
def Pt:Gr.ok Tryz.prog 123:=gu mixed (dw fW fg) 0 (λ_=>[]) (λ_=>[]) [] Tryz.func123 y9d
def y2v (x:Int) (h: -18446744073709551616<=x/\x<18446744073709551616):(gr x/\av.wrap x=x)\/(9223372036854775807<x/\av.wrap x=x-18446744073709551616)\/(x< -9223372036854775808/\av.wrap x=x+18446744073709551616):=by
 have e:av.wrap x=if(decide (x % 18446744073709551616>=9223372036854775808))=ax then x % 18446744073709551616-18446744073709551616 else x % 18446744073709551616:=by
  have:av.wrap x=if(ax && decide (x % 18446744073709551616>=9223372036854775808))=ax then x % 18446744073709551616-18446744073709551616 else x % 18446744073709551616:=rfl
  rw[this,Ao]
 have e:av.wrap x=(x+9223372036854775808) % 18446744073709551616-9223372036854775808:=by
  rw[e];by_cases h2:x % 18446744073709551616>=9223372036854775808
  ·rw[fc (jk h2)];omega
  ·rw[eg (by simpa using h2)];omega
 rw[e];by_cases h1:gr x
 ·exact .inl ⟨h1,by unfold gr at h1;omega⟩
 ·unfold gr at h1;omega
def xIg (i:I2) (h:Tw.dp i):xCr i:=by
 obtain⟨⟨x1,x2⟩,y1,y2⟩:gr i.x/\gr i.y:=h;have hw:=y2v (i.x+i.y) oM;unfold xCr dx Zk dx fD;generalize av.wrap (i.x+i.y)=w at hw ⊢;unfold gr at hw ⊢;refine Cv.dp.mk (λc1=>Cv.dp.mk (λc2=> ?_) (λc2=> ?_)) (λc1=> ?_)
 all_goals(simp at*)
 ·rw[eg (by omega)];exact kp
 ·rw[fc (by omega)];refine⟨?_,rfl⟩;dsimp only;omega
 ·rw[fc (by omega)];refine⟨?_,rfl⟩;dsimp only;omega
def Ww:Tw.ok Tryz.prog 205:=gu mixed fg 0 (λ_=>[]) (λ_=>[]) [] Tryz.func205 xIg
def xGu (i:I2) (h:SJ.dp i):xDq i:=by
 obtain⟨⟨x1,x2⟩,y1,y2⟩:gr i.x/\gr i.y:=h;have hw:=y2v (i.x-i.y) oM;unfold xDq dx Zc dx fA;generalize av.wrap (i.x-i.y)=w at hw ⊢;unfold gr at hw ⊢;refine Cv.dp.mk (λc1=>Cv.dp.mk (λc2=> ?_) (λc2=> ?_)) (λc1=> ?_)
 all_goals(simp at*)
 ·rw[eg (by omega)];exact kp
 ·rw[fc (by omega)];refine⟨?_,rfl⟩;dsimp only;omega
 ·rw[fc (by omega)];refine⟨?_,rfl⟩;dsimp only;omega
def WB:SJ.ok Tryz.prog 206:=gu mixed fg 0 (λ_=>[]) (λ_=>[]) [] Tryz.func206 xGu
structure Slot where
 used:Bool
 n:Int
 id:Int
 dr:Int
 top:Bool
 queue:Int
 ahead:Int
 back:Int
 deriving DecidableEq
structure aK where
 first:Int
 last:Int
 total:Int
 count:Int
 deriving DecidableEq
structure dv where
 du:List Slot
 dy:List aK
 free:Int
 deriving DecidableEq
def zT (s:Slot):List D:=[.v (.bool s.used),.v (.int .i64 s.n),.v (.int .i64 s.id),.v (.int .i64 s.dr),.v (.bool s.top),.v (.int .i64 s.queue),.v (.int .i64 s.ahead),.v (.int .i64 s.back)]
def zR (q:aK):List D:=[.v (.int .i64 q.first),.v (.int .i64 q.last),.v (.int .i64 q.total),.v (.int .i64 q.count)]
def iB:Slot:=⟨aw,0,0,0,aw,0,0,0⟩
def zI (a:dv):Nat->fj
 |0=> .cells [.own 1,.own 2,zB a.free] 317
 |1=> .own 314 8 (a.du.map zT)
 |2=> .own 320 4 (a.dy.map zR)
 |_=> .gone
def wR (a:dv):fj:= .ra dv 3 zI a
structure xV where
 dm:Int
 queue:Int
 deriving DecidableEq
structure Place where
 side:Int
 dm:Int
 slot:Int
 deriving DecidableEq
structure dq where
 a:dv
 fm:List xV
 ej:List xV
 at_:List (Int×Place)
 iH:Int
 iG:Int
 spare:List Int
 gp:Bool
 gl:Bool
 deriving DecidableEq
def zC (r:xV):List D:=[.v (.int .i64 r.dm),.v (.int .i64 r.queue)]
def z9o (p:Place):List D:=[.v (.int .i64 p.side),.v (.int .i64 p.dm),.v (.int .i64 p.slot)]
def jm (l:List (Int×Place)):List (bg×List D):=l.map λx=>(.int .i64 x.1,z9o x.2)
def zS (b:dq):Nat->fj
 |0=> .cells [.nm 1 0,.own 2,.own 3,.mp 4,zB b.iH,zB b.iG,.own 5,yL b.gp,yL b.gl] 273
 |1=>wR b.a
 |2=> .own 276 2 (b.fm.map zC)
 |3=> .own 276 2 (b.ej.map zC)
 |4=> .map (jm b.at_)
 |5=> .own 3 1 (iE b.spare)
 |_=> .gone
def yE (b:dq):fj:= .ra dq 6 zS b
structure gv where
 p:ff
 ei:List dq
 wh:List (Int×Int)
def yY (l:List (Int×Int)):List (bg×List D):=l.map λx=>(.int .i64 x.1,[.v (.int .i64 x.2)])
def x6 (s:gv):Nat->fj
 |0=> .cells [sV s.p.code,.own 3,zB s.p.tick,zB s.p.low,zB s.p.high,zB s.p.wide,zB s.p.gi,zB s.p.top,zB s.p.least,zB s.p.part,.own 4,.own 1,.mp 2] 210
 |1=> .jz 211 dq 6 zS s.ei bc
 |2=> .map (yY s.wh)
 |3=> .kg 1 (iE s.p.dt)
 |4=> .kg 1 (iE s.p.settle)
 |_=> .gone
def zF (s:gv):fj:= .ra gv 5 x6 s
def O8 (n:Nat):dv:=⟨ac n iB,[],n⟩
def nu:dq:=⟨O8 250,[],[],[],0,0,[],aw,aw⟩
def Ku:fy:=fi Nat (λn=>[zB n]) (λ_=>[]) (λn=>1<=n/\n<=4096) (λ_=> .iZ [.nm 0 0,zB 0]) (λn=>[wR (O8 n)])
def TJ:fy:=fi Unit (λ_=>[]) (λ_=>[]) (λ_=>True) (λ_=> .nm 0 0) (λ_=>[yE nu])
def nU (p:ff):gv:=⟨p,ac p.count nu,[]⟩
def Ks:fy where
 ι:=ff
 pat:=λp=>[nk p]
 pre:=λ_=>[]
 dp:=λp=>p.small
 alts:=λp=>[{o:=Unit,res:=λ_=> .iZ [.nm 0 0,zB 0],post:=λ_=>[zF (nU p)],rel:=λ_=>p.check=0},{o:=Unit,res:=λ_=> .iZ [.d (.v (.pointer bc)),zB p.check],post:=λ_=>[],rel:=λ_=>p.check≠0}]
def xBn (p:ff):List gm:=[{ι:=Nat,du:=λj=>[(5,.nm 0 0),(27,zB j)],rows:=λj=>(af 5).map (x6 ⟨p,ac j nu,[]⟩)}]
def Jc:fy:=fi (List Slot) (λ_=>[.own 0]) (λl=>[.own 314 8 (l.map zT)]) (λl=>l.length<=1000000) (λ_=> .own 1) (λl=>[.own 314 8 (l.map zT),.own 314 8 (l.map zT)])
def Hb:fy:=fi (List aK) (λ_=>[.own 0]) (λl=>[.own 320 4 (l.map zR)]) (λl=>l.length<=1000000) (λ_=> .own 1) (λl=>[.own 320 4 (l.map zR),.own 320 4 (l.map zR)])
def Jd:fy:=fi (List xV) (λ_=>[.own 0]) (λl=>[.own 276 2 (l.map zC)]) (λl=>l.length<=1000000) (λ_=> .own 1) (λl=>[.own 276 2 (l.map zC),.own 276 2 (l.map zC)])
def M8:fy:=fi (List Int) (λ_=>[.own 0]) (λl=>[.own 3 1 (iE l)]) (λl=>l.length<=1000000) (λ_=> .own 1) (λl=>[.own 3 1 (iE l),.own 3 1 (iE l)])
def Ut (f:Nat):fy:=fi (List (bg×List D)) (λ_=>[.mp 0]) (λes=>[.map es]) (λ_=>True) (λ_=> .mp 1) (λes=>[.map es,.map es])
def Aj:fy:=Ut 0
def Ad:fy:=Ut 1
@[reducible] def dv.small (a:dv):Prop:=a.du.length<=1000000/\a.dy.length<=1000000
@[reducible] def dq.small (b:dq):Prop:=b.a.small/\b.fm.length<=1000000/\b.ej.length<=1000000/\b.spare.length<=1000000
@[reducible] def gv.small (s:gv):Prop:=s.ei.length<=1000000/\∀b∈s.ei,b.small
def M7:fy:=fi dv (λ_=>[.nm 0 0]) (λa=>[wR a]) dv.small (λ_=> .nm 1 0) (λa=>[wR a,wR a])
def M6:fy:=fi dq (λ_=>[.nm 0 0]) (λb=>[yE b]) dq.small (λ_=> .nm 1 0) (λb=>[yE b,yE b])
def y6i:List gm:=[{ι:=Unit,du:=λ_=>[],rows:=λ_=>[],un:=3}]
def M5:fy:=fi gv (λ_=>[.nm 0 0]) (λs=>[zF s]) gv.small (λ_=> .nm 1 0) (λs=>[zF s,zF s])
def y0u (n:Nat):Prop:=
 dp (decide ((↑n:Int)<1)) (dx (False)) (dp (decide ((↑n:Int)>4096)) (dx (False)) ((0<=(↑n:Int)/\(↑n:Int)<=(↑n:Int)/\(↑n:Int)<=9223372036854775807/\(↑(64:Nat):Int)*(↑n:Int)<=2 ^ (48:Nat))/\dx (dl ((0:Int))/\dl ((↑n:Int))/\ab zT (ac n iB)=ac (↑n:Int).toNat [D.v (.bool aw),dI 0,dI 0,dI 0,D.v (.bool aw),dI 0,dI 0,dI 0]/\([]:List (List D))=[]/\True)))
def xDs (u:Unit):Prop:=
 ∃(i:Nat),(↑i:Int)=250/\(1<=i/\i<=4096)/\∀(o:Unit),True->∃(o:Unit),dl ((0:Int))/\dl ((0:Int))/\aw=aw/\aw=aw/\aq dv 3 zI (O8 250)=aq dv 3 zI (O8 i)/\([]:List (List D))=[]/\([]:List (List D))=[]/\jm []=[]/\iE []=[]/\True
@[reducible] def Qc (a:ff)(R:Prop):Prop:=sb a.code=sb a.code/\a.tick=a.tick/\a.low=a.low/\a.high=a.high/\a.wide=a.wide/\a.gi=a.gi/\a.top=a.top/\a.least=a.least/\a.part=a.part/\R
@[reducible] def wv (a:ff)(R:Prop):Prop:=am 1 (iE a.dt)=am 1 (iE a.dt)/\am 1 (iE a.settle)=am 1 (iE a.settle)/\R
def zKl (a:ff) (b:Nat):Prop:=dx (dl ((0:Int))/\Qc a (ap 211 dq 6 zS (ac a.count nu) bc=ap 211 dq 6 zS (ac b nu) bc/\dl (yY [])/\wv a (a.check=0)))
def mM (a:ff):Prop:=am 1 (iE a.settle)=am 1 (iE a.settle)/\dl (am 1 (iE a.dt))
def gI (a:ff):=(D.v (bu (sb a.code)))
@[reducible] def Qs (a b:ff)(R:Prop):Prop:=a.tick=b.tick/\a.low=b.low/\a.high=b.high/\a.wide=b.wide/\a.gi=b.gi/\a.top=b.top/\a.least=b.least/\a.part=b.part/\R
@[reducible] def Qy (a:Nat)(b:List dq)(c:ff)(d:Nat->Prop)(e:Nat->Nat)(f:Nat)(R:Prop):Prop:=ap 211 dq 6 zS (ac a nu) bc=ap 211 dq 6 zS (b++[nu]) bc/\yY []=yY []/\am 1 (iE c.dt)=am 1 (iE c.dt)/\am 1 (iE c.settle)=am 1 (iE c.settle)/\d a/\e a<e f/\am 1 ([]++iE c.settle)=am 1 ([]++iE c.settle)/\am 1 ([]++iE c.dt)=am 1 ([]++iE c.dt)/\R
@[reducible] def Yb (a:Nat)(b:ff)(R:Prop):Prop:=ac a nu=[]/\(bc:Option Nat)=bc/\yY []=[]/\am 1 (iE b.dt)=am 1 ([]++iE b.dt)/\am 1 (iE b.settle)=am 1 ([]++iE b.settle)/\R
@[reducible] def Mc (a:ff)(R:Prop):Prop:=(0+(iE a.dt).length)*(8:Nat)<=(140737488355328:Nat)/\True/\R
def Zj (a:ff):Prop:=True/\True/\Mc a ((0+(iE a.settle).length)*(8:Nat)<=(140737488355328:Nat)/\∃(b:ff),sb b.code=sb a.code/\iE b.dt=[]++iE a.dt/\Qs b a (iE b.settle=[]++iE a.settle/\(zW b)/\fa (∃(d:Nat),(↑d:Int)=0/\Qc a (Yb d a (∃(e:Nat->Prop),∃(f:Nat->Nat),e d/\∀(g:Nat),e g->dp (decide ((↑g:Int)<(↑b.count:Int))) (dx (True/\fa (True/\True/\∃(k:List dq),ap 211 dq 6 zS (ac g nu) bc=ap 211 dq 6 zS k bc/\(k.length+1)*(8:Nat)<=(140737488355328:Nat)/\∃(l:Nat),(↑l:Int)=av.wrap ((↑g:Int)+1)/\Qc a (Qy l k a e f g (dl (ao [V.d (gI a),V.own 5,V.d (dI a.tick),V.d (dI a.low),V.d (dI a.high),V.d (dI a.wide),V.d (dI a.gi),V.d (dI a.top),V.d (dI a.least),V.d (dI a.part),V.own 6] 25)/\mM a))))) ((zKl a g)\/(dx (False))))))))
def y2r (p:ff):Prop:=
 ∃(a:ff),Qb a p ((zW a)/\fa (dp (a.check !=0) ((dx (False))\/(dx (True/\p.check=a.check/\(p.check=0->False)))) ((True/\True/\(Mc p (True/\(0+(iE p.settle).length)*(8:Nat)<=(140737488355328:Nat)/\∃(c:ff),sb c.code=sb p.code/\iE c.dt=[]++iE p.dt/\Qs c p (iE c.settle=[]++iE p.settle/\(zW c)/\fa (∃(e:Nat),(↑e:Int)=0/\Qc p (Yb e p (∃(f:Nat->Prop),∃(g:Nat->Nat),f e/\∀(h:Nat),f h->dp (decide ((↑h:Int)<(↑c.count:Int))) (dx (True/\fa (True/\True/\∃(l:List dq),ap 211 dq 6 zS (ac h nu) bc=ap 211 dq 6 zS l bc/\(l.length+1)*(8:Nat)<=(140737488355328:Nat)/\∃(m:Nat),(↑m:Int)=av.wrap ((↑h:Int)+1)/\Qc p (Qy m l p f g h (dl (ao [V.d (gI p),V.own 4,V.d (dI p.tick),V.d (dI p.low),V.d (dI p.high),V.d (dI p.wide),V.d (dI p.gi),V.d (dI p.top),V.d (dI p.least),V.d (dI p.part),V.own 6] 25)/\mM p))))) ((zKl p h)\/(dx (False)))))))))/\Zj p)/\True/\True/\Zj p)))
def yVc (l:List Slot):Prop:=
 ∀(b:Bool),(b=ax->ab zT l=[])->dp b (∃(o:Unit),dl (ab zT l)/\ab zT l=[]/\True) ((0+(ab zT l).length)*(64:Nat)<=(140737488355328:Nat)/\∃(o:Unit),dl (ab zT l)/\ab zT l=[]++ab zT l/\True)
def yLz (l:List aK):Prop:=
 ∀(b:Bool),(b=ax->ab zR l=[])->dp b (∃(o:Unit),dl (ab zR l)/\ab zR l=[]/\True) ((0+(ab zR l).length)*(32:Nat)<=(140737488355328:Nat)/\∃(o:Unit),dl (ab zR l)/\ab zR l=[]++ab zR l/\True)
def yXr (l:List xV):Prop:=
 ∀(b:Bool),(b=ax->ab zC l=[])->dp b (∃(o:Unit),dl (ab zC l)/\ab zC l=[]/\True) ((0+(ab zC l).length)*(16:Nat)<=(140737488355328:Nat)/\∃(o:Unit),dl (ab zC l)/\ab zC l=[]++ab zC l/\True)
def y9g (l:List Int):Prop:=
 ∀(b:Bool),(b=ax->iE l=[])->dp b (∃(o:Unit),iE l=iE l/\iE l=[]/\True) ((0+(iE l).length)*(8:Nat)<=(140737488355328:Nat)/\∃(o:Unit),iE l=iE l/\iE l=[]++iE l/\True)
def yMq (es:List (bg×List D)):Prop:=
 ∃(a:List (bg×List D)),a=es/\True/\fa (dx (es=a/\es=a/\True))
def y4w (es:List (bg×List D)):yMq es=walk Tryz.prog ([(174,vY 271)]) 0 ([]) ([]) [] Tryz.f176 (Tryz.f176.body.getD .skip) (Aj.pat es) (Aj.pre es) (Aj.alts es):=by kernel_rfl
def y6w (hG:zd Tryz.prog ([(174,vY 271)])) (h:∀(es:List (bg×List D)),Aj.dp es->yMq es):Aj.ok Tryz.prog 176:=qY mixed ([(174,vY 271)]) hG 0 (λ(es:List (bg×List D))=>[]) (λ(es:List (bg×List D))=>[]) [] Tryz.func176 (by kernel_rfl) (by kernel_rfl) (by kernel_rfl) (λ_=>by kernel_rfl) (λ(es:List (bg×List D)) hc=>Eq.mp (y4w es) (h es hc))
def yTw (es:List (bg×List D)):Prop:=
 ∃(a:List (bg×List D)),a=es/\True/\fa (dx (es=a/\es=a/\True))
def y7r (es:List (bg×List D)):yTw es=walk Tryz.prog ([(174,vY 100)]) 0 ([]) ([]) [] Tryz.f124 (Tryz.f124.body.getD .skip) (Ad.pat es) (Ad.pre es) (Ad.alts es):=by kernel_rfl
def y8e (hG:zd Tryz.prog ([(174,vY 100)])) (h:∀(es:List (bg×List D)),Ad.dp es->yTw es):Ad.ok Tryz.prog 124:=qY mixed ([(174,vY 100)]) hG 0 (λ(es:List (bg×List D))=>[]) (λ(es:List (bg×List D))=>[]) [] Tryz.func124 (by kernel_rfl) (by kernel_rfl) (by kernel_rfl) (λ_=>by kernel_rfl) (λ(es:List (bg×List D)) hc=>Eq.mp (y7r es) (h es hc))
def y7c (a:dv):Prop:=
 ∃(i:List Slot),ab zT i=ab zT a.du/\i.length<=1000000/\∀(o:Unit),True->dl a.free/\True/\∃(gx:List aK),ab zR gx=ab zR a.dy/\gx.length<=1000000/\∀(o:Unit),True->dl a.free/\∃(o:Unit),dl a.free/\ab zT a.du=ab zT i/\ab zR a.dy=ab zR gx/\dl a.free/\ab zT a.du=ab zT i/\ab zR a.dy=ab zR gx/\True
def y7p (b:dq):Prop:=
 ∃(i:dv),aq dv 3 zI i=aq dv 3 zI b.a/\(i.du.length<=1000000/\i.dy.length<=1000000)/\∀(o:Unit),True->True/\True/\∃(gx:List (bg×List D)),gx=jm b.at_/\True/\∀(o:Unit),True->True/\∃(ma:List Int),iE ma=iE b.spare/\ma.length<=1000000/\∀(o:Unit),True->∃(me:List xV),ab zC me=ab zC b.fm/\me.length<=1000000/\∀(o:Unit),True->∃(oB:List xV),ab zC oB=ab zC b.ej/\oB.length<=1000000/\∀(o:Unit),True->∃(o:Unit),dl b.iH/\dl b.iG/\dl b.gp/\dl b.gl/\aq dv 3 zI b.a=aq dv 3 zI i/\ab zC b.fm=ab zC me/\ab zC b.ej=ab zC oB/\jm b.at_=gx/\iE b.spare=iE ma/\dl b.iH/\dl b.iG/\dl b.gp/\dl b.gl/\aq dv 3 zI b.a=aq dv 3 zI i/\ab zC b.fm=ab zC me/\ab zC b.ej=ab zC oB/\jm b.at_=gx/\iE b.spare=iE ma/\True
def xCl (n:Nat) (h:Ku.dp n):y0u n:=by
 obtain⟨h1,h2⟩:1<=n/\n<=4096:=h;unfold y0u dx dI;refine zH (λc=>by omega) λc=>zH (λc=>by omega) λc=> ?_
 refine⟨⟨oM,oM,oM,?_⟩,?_⟩
 ·have:(2:Int) ^ (48:Nat)=281474976710656:=by decide
  rw[this];omega
 ·refine⟨(),rfl,rfl,?_,rfl,trivial⟩;rw[Rf];rfl
def yXu:Ku.ok Tryz.prog 224:=gu mixed fg 0 (λ_=>[]) (λ_=>[]) [] Tryz.func224 xCl
def yYe:TJ.ok Tryz.prog 209:=gu (V:=xDs) mixed (dw yXu fg) 0 (λ_=>[]) (λ_=>[]) [] Tryz.func209 λ(u:Unit) _=>by
 refine⟨250,rfl,⟨oM,oM⟩,?_⟩;exact kp
def xEd (p:ff) (h:Ks.dp p):y2r p:=by
 unfold y2r Yb Qb Qc Mc fa dx Qs Qy Zj Yb Qc Mc fa dx Qs Qy gI mM zKl wv Qc dx zW o7 dI;have hs:p.small:=h;obtain⟨h1,h2,h3⟩:p.small:=h;refine⟨p,?_⟩;simp only[y8]
 (repeat'(first|exact rfl|exact trivial|assumption|apply az|refineλ(_:Unit) (_:True)=>?_|refine ay () ?_|omega|(dsimp only;omega)))
 refine Cv.dp.mk (λc=> .inr ⟨(),trivial,kp,by simpa using c⟩) λc=> ?_
 have c:p.check=0:=by simpa using c
 have hc:=xF p
 (repeat'(first|exact rfl|exact trivial|assumption|apply az|refineλ(_:Unit) (_:True)=>?_|refine ay () ?_|omega|(dsimp only;omega)))
 all_goals(refine⟨p,?_⟩;(repeat'(first|exact rfl|exact trivial|assumption|apply az|refineλ(_:Unit) (_:True)=>?_|refine ay () ?_|omega|(dsimp only;omega))))
 all_goals(refine⟨0,?_⟩;(repeat'(first|exact rfl|exact trivial|assumption|apply az|refineλ(_:Unit) (_:True)=>?_|refine ay () ?_|omega|(dsimp only;omega))))
 all_goals(refine⟨λj=>j<=p.count,λj=>p.count-j,oM,λj hj=>zH (λgn=> ?_) (λgn=> ?_)⟩;all_goals dsimp only at hj gn)
 all_goals first
  |(refine .inl ⟨(),?_⟩
    obtain rfl:j=p.count:=by omega
    (repeat'(first|exact rfl|exact trivial|assumption|apply az|refineλ(_:Unit) (_:True)=>?_|refine ay () ?_|omega|(dsimp only;omega))))
  |(refine⟨(),trivial,λ_ _=>⟨trivial,trivial,ac j nu,rfl,?_,j+1,?_⟩⟩
    ·rw[FB];omega
    ·rw[iq (by omega),<- List.replicate_succ']
     (repeat'(first|exact rfl|exact trivial|assumption|apply az|refineλ(_:Unit) (_:True)=>?_|refine ay () ?_|omega|(dsimp only;omega))))
def yZa:Ks.ok Tryz.prog 178:=gu mixed (dw mV (dw fW (dw yYe fg))) 0 (λ_=>[]) (λp=>xBn p) [] Tryz.func178 xEd
def yJb:Jc.ok Tryz.prog 207:=gu (V:=yVc) mixed fg 0 (λ_=>[]) (λ_=>[]) [] Tryz.func207 λ(l:List Slot) h=>by
 have h:l.length<=1000000:=h;exactλb hb=>Cv.dp.mk (λe=>⟨(),rfl,hb e,trivial⟩) (λ_=>⟨by rw[nh,gy];omega,(),rfl,rfl,trivial⟩)
def z8u:Hb.ok Tryz.prog 208:=gu (V:=yLz) mixed fg 0 (λ_=>[]) (λ_=>[]) [] Tryz.func208 λ(l:List aK) h=>by
 have h:l.length<=1000000:=h;exactλb hb=>Cv.dp.mk (λe=>⟨(),rfl,hb e,trivial⟩) (λ_=>⟨by rw[nh,gy];omega,(),rfl,rfl,trivial⟩)
def yKd:Jd.ok Tryz.prog 177:=gu (V:=yXr) mixed fg 0 (λ_=>[]) (λ_=>[]) [] Tryz.func177 λ(l:List xV) h=>by
 have h:l.length<=1000000:=h;exactλb hb=>Cv.dp.mk (λe=>⟨(),rfl,hb e,trivial⟩) (λ_=>⟨by rw[nh,gy];omega,(),rfl,rfl,trivial⟩)
def yNp:M8.ok Tryz.prog 45:=gu (V:=y9g) mixed fg 0 (λ_=>[]) (λ_=>[]) [] Tryz.func45 λ(l:List Int) h=>by
 have h:l.length<=1000000:=h;exactλb hb=>Cv.dp.mk (λe=>⟨(),rfl,hb e,trivial⟩) (λ_=>⟨by rw[nh,y8];omega,(),rfl,rfl,trivial⟩)
def VF (t:Nat):(vY t).ok Tryz.prog 174:=z8g Tryz.func174 (by kernel_rfl) (by kernel_rfl) (by kernel_rfl) (by kernel_rfl) t
def yZj:Aj.ok Tryz.prog 176:=y6w (dw (VF _) fg) λes _=>by
 unfold yMq fa dx;refine⟨es,?_⟩;exact kp
def yZr:Ad.ok Tryz.prog 124:=y8e (dw (VF _) fg) λes _=>by
 unfold yTw fa dx;refine⟨es,?_⟩;exact kp
def yNk:M7.ok Tryz.prog 175:=gu (V:=y7c) mixed (dw yJb (dw z8u fg)) 0 (λ_=>[]) (λ_=>[]) [0] Tryz.func175 λ(a:dv) h=>by
 obtain⟨h1,h2⟩:a.small:=h;refine⟨a.du,?_⟩;(repeat'(first|exact rfl|exact trivial|assumption|apply az|refineλ(_:Unit) (_:True)=>?_|refine ay () ?_|omega|(dsimp only;omega)));refine⟨a.dy,?_⟩;exact kp
def yPx:M6.ok Tryz.prog 126:=gu (V:=y7p) mixed (dw yNk (dw yZj (dw yNp (dw yKd fg)))) 0 (λ_=>[]) (λ_=>y6i) [0] Tryz.func126 λ(b:dq) h=>by
 obtain⟨⟨h1,BB⟩,h2,h3,h4⟩:b.small:=h;refine⟨b.a,?_⟩;(repeat'(first|exact rfl|exact trivial|assumption|apply az|refineλ(_:Unit) (_:True)=>?_|refine ay () ?_|omega|(dsimp only;omega)));refine⟨jm b.at_,?_⟩;(repeat'(first|exact rfl|exact trivial|assumption|apply az|refineλ(_:Unit) (_:True)=>?_|refine ay () ?_|omega|(dsimp only;omega)));refine⟨b.spare,?_⟩;(repeat'(first|exact rfl|exact trivial|assumption|apply az|refineλ(_:Unit) (_:True)=>?_|refine ay () ?_|omega|(dsimp only;omega)));refine⟨b.fm,?_⟩;(repeat'(first|exact rfl|exact trivial|assumption|apply az|refineλ(_:Unit) (_:True)=>?_|refine ay () ?_|omega|(dsimp only;omega)));refine⟨b.ej,?_⟩;exact kp
structure uq where
 a:dv
 n:Int
def dv.qe (a:dv) (n:Int):aK:=if 0<=n/\n<a.dy.length then a.dy.getD n.toNat ⟨0,0,0,0⟩else⟨0,0,0,0⟩
def Jg:fy:=fi uq (λi=>[.nm 0 0,zB i.n]) (λi=>[wR i.a]) (λi=>True) (λi=>zB (i.a.qe i.n).total) (λi=>[wR i.a])
def Jh:fy:=fi uq (λi=>[.nm 0 0,zB i.n]) (λi=>[wR i.a]) (λi=>True) (λi=>zB (i.a.qe i.n).count) (λi=>[wR i.a])
def aaY:fy:=fi Int (λn=>[zB n]) (λ_=>[]) (λ_=>True) (λn=>yL (decide (n=1)||decide (n=2))) (λ_=>[])
structure SC where
 b:dq
 r:xV
def dq.told (b:dq) (r:xV):Lv:=⟨r.dm,(b.a.qe r.queue).total,(b.a.qe r.queue).count⟩
@[reducible] def dq.nt (b:dq):Prop:=∀q∈b.a.dy,gr q.count
def TB:fy:=fi SC (λi=>[.nm 0 0,.agg [zB i.r.dm,zB i.r.queue]]) (λi=>[yE i.b]) (λi=>i.b.nt) (λi=>RC (i.b.told i.r)) (λi=>[yE i.b])
def dq.ir (b:dq) (l:List xV):Lv×Bool:=match l with
 |[]=>(⟨0,0,0⟩,aw)
 |r::_=>(b.told r,ax)
structure Aa where
 side:Bool
 b:dq
def dq.side (b:dq) (s:Bool):List xV:=if s then b.ej else b.fm
@[reducible] def z9u (b:dq) (l:List xV):V:= .iZ [RC (b.ir l).1,yL (b.ir l).2]
def Na:fy:=fi dq (λ_=>[.nm 0 0,zB 1]) (λb=>[yE b]) dq.nt (λb=>z9u b b.fm) (λb=>[yE b])
def M9:fy:=fi dq (λ_=>[.nm 0 0,zB 2]) (λb=>[yE b]) dq.nt (λb=>z9u b b.ej) (λb=>[yE b])
def zE (s:Bool):Int:=if s then 2 else 1
def Ul:fy:=fi Aa (λi=>[.nm 0 0,zB (zE i.side)]) (λi=>[yE i.b]) (λi=>i.b.nt) (λi=>z9u i.b (i.b.side i.side)) (λi=>[yE i.b])
structure jv where
 gp:Bool
 gl:Bool
 p1:Int
 p2:Int
 q1:Int
 q2:Int
 deriving DecidableEq
def yB (t:jv):List D:=[.v (.bool t.gp),.v (.bool t.gl),.v (.int .i64 t.p1),.v (.int .i64 t.p2),.v (.int .i64 t.q1),.v (.int .i64 t.q2)]
def jw:jv:=⟨aw,aw,0,0,0,0⟩
def jv.FX (t:jv) (x:Lv×Bool):jv:=if x.2 then{t with gp:=ax,p1:=x.1.dm,q1:=x.1.dr}else t
def jv.AF (t:jv) (x:Lv×Bool):jv:=if x.2 then{t with gl:=ax,p2:=x.1.dm,q2:=x.1.dr}else t
def dq.top (b:dq):jv:=(jw.FX (b.ir b.fm)).AF (b.ir b.ej)
def gv.fh (s:gv):List jv:=s.ei.map dq.top
@[reducible] def gv.nt (s:gv):Prop:=s.ei.length<=1000000/\∀b∈s.ei,b.nt
def Kg:fy:=fi gv (λ_=>[.nm 0 0]) (λs=>[zF s]) gv.nt (λs=> .own 1) (λs=>[zF s,.own 122 6 (s.fh.map yB)])
def qD (s:gv) (j:Nat) (x:jv):List jv:=(s.fh.take j)++x::ac (s.ei.length-j-1) jw
def qI (s:gv) (j:Nat):List jv:=(s.fh.take j)++ac (s.ei.length-j) jw
def y0l (s:gv):List gm:=[
 {ι:=Nat,du:=λj=>[(3,.own 0),(21,zB j)],rows:=λj=>[.own 122 6 ((qI s j).map yB)]},
 {ι:=Unit,du:=λ_=>[],rows:=λ_=>[],un:=3}]
def y2h (s:gv):List (Nat×gm):=[(15,{ι:=Nat×jv,du:=λx=>[(3,.own 0)],oZ:=λx=>[(3,.own 0)],lu:=λx=>[.own 122 6 ((qD s x.1 x.2).map yB)],rows:=λx=>[.own 122 6 ((qD s x.1 x.2).map yB)]})]
def y9a (s:gv):List gm:=[{ι:=Nat,du:=λj=>[(3,.nm 0 0),(22,zB j)],rows:=λj=>(af 5).map (x6 ⟨s.p,s.ei.take j,s.wh⟩)}]
@[reducible] def Q9 (a:dv)(R:Prop):Prop:=a.free=a.free/\ab zT a.du=ab zT a.du/\ab zR a.dy=ab zR a.dy/\R
def wI (a:uq):Prop:=Q9 a.a (True)
def zBt (a:uq):Prop:=dx ((a.a.qe a.n).total=0/\wI a)
def dP (a:uq):=(↑(ab zR a.a.dy).length:Int)
def yEz (i:uq):Prop:=
 dp (decide (i.n>=0)) (dp (!decide (i.n<(dP i))) (zBt i) ((0<=i.n/\i.n<(dP i))/\∃(a:Int),zD (ab zR i.a.dy) i.n.toNat 2 1=ba [dI a]/\dx ((i.a.qe i.n).total=a/\wI i))) (zBt i)
def zBl (a:uq):Prop:=dx ((a.a.qe a.n).count=0/\wI a)
def yDn (i:uq):Prop:=
 dp (decide (i.n>=0)) (dp (!decide (i.n<(dP i))) (zBl i) ((0<=i.n/\i.n<(dP i))/\∃(a:Int),zD (ab zR i.a.dy) i.n.toNat 3 1=ba [dI a]/\dx ((i.a.qe i.n).count=a/\wI i))) (zBl i)
def xFd (n:Int):Prop:=
 dp (n==1) (dx ((decide (n=1)||decide (n=2))=ax/\True)) (dx ((decide (n=1)||decide (n=2))=(n==2)/\True))
def xEf (i:SC):Prop:=
 ∃(gx:uq),gx.n=i.r.queue/\aq dv 3 zI gx.a=aq dv 3 zI i.b.a/\True/\∀(o:Unit),True->dl i.r.queue/\True/\dl i.r.dm/\∃(ma:uq),ma.n=i.r.queue/\aq dv 3 zI ma.a=aq dv 3 zI gx.a/\True/\∀(o:Unit),True->dl i.r.dm/\∃(o:Unit),dl i.r.dm/\(i.b.a.qe i.r.queue).total=(gx.a.qe gx.n).total/\(i.b.a.qe i.r.queue).count=(ma.a.qe ma.n).count/\dl i.b.iH/\dl i.b.iG/\dl i.b.gp/\dl i.b.gl/\aq dv 3 zI i.b.a=aq dv 3 zI ma.a/\dl (ab zC i.b.fm)/\dl (ab zC i.b.ej)/\dl (jm i.b.at_)/\dl (iE i.b.spare)/\True
def y6d (b:dq):Prop:=
 ∃(i:Int),i=1/\True/\∀(o:Unit),True->dp (!(decide (i=1)||decide (i=2))) (∃(o:Unit),(b.ir b.fm).fst.dm=0/\(b.ir b.fm).fst.dr=0/\(b.ir b.fm).fst.count=0/\(b.ir b.fm).snd=aw/\dl b.iH/\dl b.iG/\dl b.gp/\dl b.gl/\dl (aq dv 3 zI b.a)/\dl (ab zC b.fm)/\dl (ab zC b.ej)/\dl (jm b.at_)/\dl (iE b.spare)/\True) (dp ((↑(ab zC b.fm).length:Int)==0) (∃(o:Unit),(b.ir b.fm).fst.dm=0/\(b.ir b.fm).fst.dr=0/\(b.ir b.fm).fst.count=0/\(b.ir b.fm).snd=aw/\dl b.iH/\dl b.iG/\dl b.gp/\dl b.gl/\dl (aq dv 3 zI b.a)/\dl (ab zC b.fm)/\dl (ab zC b.ej)/\dl (jm b.at_)/\dl (iE b.spare)/\True) (((0:Int)<=(0:Int)/\0<(↑(ab zC b.fm).length:Int))/\∃(n:Int),∃(Io:Int),zD (ab zC b.fm) (bv 0) 0 2=ba [D.v (.int .i64 n),D.v (.int .i64 Io)]/\∃(i:SC),i.r.dm=n/\i.r.queue=Io/\i.b.iH=b.iH/\i.b.iG=b.iG/\i.b.gp=b.gp/\i.b.gl=b.gl/\aq dv 3 zI i.b.a=aq dv 3 zI b.a/\ab zC i.b.fm=ab zC b.fm/\ab zC i.b.ej=ab zC b.ej/\jm i.b.at_=jm b.at_/\iE i.b.spare=iE b.spare/\(∀(q:aK),q∈i.b.a.dy->(-9223372036854775808)<=q.count/\q.count<=9223372036854775807)/\∀(o:Unit),True->∃(o:Unit),(b.ir b.fm).fst.dm=i.r.dm/\(b.ir b.fm).fst.dr=(i.b.a.qe i.r.queue).total/\(b.ir b.fm).fst.count=(i.b.a.qe i.r.queue).count/\(b.ir b.fm).snd=ax/\yE b=yE i.b/\True))
def y6o (b:dq):Prop:=
 ∃(i:Int),i=2/\True/\∀(o:Unit),True->dp (!(decide (i=1)||decide (i=2))) (∃(o:Unit),(b.ir b.ej).fst.dm=0/\(b.ir b.ej).fst.dr=0/\(b.ir b.ej).fst.count=0/\(b.ir b.ej).snd=aw/\dl b.iH/\dl b.iG/\dl b.gp/\dl b.gl/\dl (aq dv 3 zI b.a)/\dl (ab zC b.fm)/\dl (ab zC b.ej)/\dl (jm b.at_)/\dl (iE b.spare)/\True) (dp ((↑(ab zC b.ej).length:Int)==0) (∃(o:Unit),(b.ir b.ej).fst.dm=0/\(b.ir b.ej).fst.dr=0/\(b.ir b.ej).fst.count=0/\(b.ir b.ej).snd=aw/\dl b.iH/\dl b.iG/\dl b.gp/\dl b.gl/\dl (aq dv 3 zI b.a)/\dl (ab zC b.fm)/\dl (ab zC b.ej)/\dl (jm b.at_)/\dl (iE b.spare)/\True) (((0:Int)<=(0:Int)/\0<(↑(ab zC b.ej).length:Int))/\∃(n:Int),∃(Io:Int),zD (ab zC b.ej) (bv 0) 0 2=ba [D.v (.int .i64 n),D.v (.int .i64 Io)]/\∃(i:SC),i.r.dm=n/\i.r.queue=Io/\i.b.iH=b.iH/\i.b.iG=b.iG/\i.b.gp=b.gp/\i.b.gl=b.gl/\aq dv 3 zI i.b.a=aq dv 3 zI b.a/\ab zC i.b.fm=ab zC b.fm/\ab zC i.b.ej=ab zC b.ej/\jm i.b.at_=jm b.at_/\iE i.b.spare=iE b.spare/\(∀(q:aK),q∈i.b.a.dy->(-9223372036854775808)<=q.count/\q.count<=9223372036854775807)/\∀(o:Unit),True->∃(o:Unit),(b.ir b.ej).fst.dm=i.r.dm/\(b.ir b.ej).fst.dr=(i.b.a.qe i.r.queue).total/\(b.ir b.ej).fst.count=(i.b.a.qe i.r.queue).count/\(b.ir b.ej).snd=ax/\yE b=yE i.b/\True))
def zLc (a:gv):Prop:=ar (yY a.wh)=ar (yY a.wh)/\dl (am 1 (iE a.p.dt))/\dl (am 1 (iE a.p.settle))
def dA (a:gv):=(D.v (bu (sb a.p.code)))
def Vy (a:Nat×jv->Prop) (b:Nat×jv) (c:gv) (d:Nat) (e:dq):Prop:=a b/\dl (au 3 1 [[dI 1],[dI 2]])/\dl (ao [V.d (dA c),V.own 3,V.d (dI c.p.tick),V.d (dI c.p.low),V.d (dI c.p.high),V.d (dI c.p.wide),V.d (dI c.p.gi),V.d (dI c.p.top),V.d (dI c.p.least),V.d (dI c.p.part),V.own 4,V.own 1,V.mp 2] (210:bo))/\ap 211 dq 6 zS (c.ei.set (↑d:Int).toNat e) bc=ap 211 dq 6 zS c.ei bc/\zLc c
def Zy (a:gv) (b:Nat×jv) (c:Nat×jv->Prop) (d:Nat) (e:dq):Prop:=∃(f:Nat×jv),ab yB (qD a f.fst f.snd)=ab yB (qD a b.fst b.snd)/\Vy c f a d e
def gE (a:gv) (b:Nat×jv):=(ab yB (qD a b.fst b.snd))
def mH (a:gv) (b:Nat×jv) (c:Nat):=(zJ (gE a b) (↑c:Int).toNat 1 [D.v (.bool ax)])
def z7 (a:Aa):=(a.b.ir (a.b.side a.side))
def c8 (a:Aa):=((z7 a).fst.dm)
def bF (a:gv) (b:Nat×jv) (c:Nat) (d:Aa):=(zJ (mH a b c) (↑c:Int).toNat 3 [dI (c8 d)])
def zCy (a:Nat) (b:gv) (c:Nat×jv) (d:Aa):Prop:=(0<=(↑a:Int)/\(↑a:Int)<(↑(bF b c a d).length:Int))/\dl ((↑a:Int).toNat)
def mL (a:gv) (b:Nat×jv) (c:Nat):=(zJ (gE a b) (↑c:Int).toNat 0 [D.v (.bool ax)])
def cT (a:gv) (b:Nat×jv) (c:Nat) (d:Aa):=(zJ (mL a b c) (↑c:Int).toNat 2 [dI (c8 d)])
def zDl (a:Nat) (b:gv) (c:Nat×jv) (d:Aa):Prop:=(0<=(↑a:Int)/\(↑a:Int)<(↑(cT b c a d).length:Int))/\dl ((↑a:Int).toNat)
def V5 (a:gv):Prop:=0<=(↑a.ei.length:Int)/\(↑a.ei.length:Int)<=(↑a.ei.length:Int)/\(↑a.ei.length:Int)<=9223372036854775807/\(↑(40:Nat):Int)*(↑a.ei.length:Int)<=2 ^ (48:Nat)
def mR (a:Nat) (b:gv) (c:Nat×jv):Prop:=(0<=(↑a:Int)/\(↑a:Int)<(↑(mH b c a).length:Int))/\dl ((↑a:Int).toNat)
def mN (a:Nat) (b:gv) (c:Nat×jv):Prop:=(0<=(↑a:Int)/\(↑a:Int)<(↑(mL b c a).length:Int))/\dl ((↑a:Int).toNat)
def hU:Prop:=0<=av.wrap ((0:Int)+(1:Int))/\av.wrap ((0:Int)+(1:Int))<(↑(2:Nat):Int)
def uD (a:Aa):Prop:=∀(b:aK),b∈a.b.a.dy->(-9223372036854775808)<=b.count/\b.count<=9223372036854775807
def kL (a:Nat) (b:gv) (c:Nat×jv):Prop:=0<=(↑a:Int)/\(↑a:Int)<(↑(gE b c).length:Int)
def gF (a:Aa):=((z7 a).fst.dr)
@[reducible] def QL (a:gv)(R:Prop):Prop:=yY a.wh=yY a.wh/\am 1 (iE a.p.dt)=am 1 (iE a.p.dt)/\am 1 (iE a.p.settle)=am 1 (iE a.p.settle)/\R
@[reducible] def Yd (a:Nat)(b:gv)(c:Nat×jv)(d:Aa)(R:Prop):Prop:=(kL a b c)/\(kL a b c)/\(kL a b c)/\(↑a:Int).toNat<(gE b c).length/\(mN a b c)/\(mN a b c)/\(z7 d).fst.dr=(z7 d).fst.dr/\(z7 d).fst.dm=(z7 d).fst.dm/\(↑a:Int).toNat<(mL b c a).length/\(zDl a b c d)/\(z7 d).fst.dr=(z7 d).fst.dr/\(↑a:Int).toNat<(cT b c a d).length/\R
@[reducible] def Yc (a:Nat)(b:gv)(c:Nat×jv)(d:Aa)(R:Prop):Prop:=(kL a b c)/\(kL a b c)/\(kL a b c)/\(↑a:Int).toNat<(gE b c).length/\(mR a b c)/\(mR a b c)/\(z7 d).fst.dr=(z7 d).fst.dr/\(z7 d).fst.dm=(z7 d).fst.dm/\(↑a:Int).toNat<(mH b c a).length/\(zCy a b c d)/\(z7 d).fst.dr=(z7 d).fst.dr/\(↑a:Int).toNat<(bF b c a d).length/\R
@[reducible] def ON (a:Aa)(b:dq)(c:Nat)(d:gv)(R:Prop):Prop:=yE a.b=yE b/\(↑c:Int).toNat=(↑c:Int).toNat/\(↑c:Int).toNat<d.ei.length/\R
def y2f (s:gv):Prop:=
 (V5 s)/\∃(a:Nat),(↑a:Int)=0/\ab yB (qI s a)=ac (↑s.ei.length:Int).toNat [D.v (.bool aw),D.v (.bool aw),dI 0,dI 0,dI 0,dI 0]/\∃(b:Nat->Prop),∃(c:Nat->Nat),b a/\∀(d:Nat),b d->dp (decide ((↑d:Int)<(↑s.ei.length:Int))) ((0<=(↑d:Int)/\(↑d:Int)<(↑s.ei.length:Int))/\(↑d:Int).toNat<s.ei.length/\∃(e:Nat×jv),ab yB (qD s e.fst e.snd)=ab yB (qI s d)/\∃(f:Nat×jv->Prop),(((0:Int)<=(0:Int)/\0<(↑(2:Nat):Int))/\∃(g:Int),zD [[dI 1],[dI 2]] (bv 0) 0 1=ba [dI g]/\∃(h:dq),s.ei[(↑d:Int).toNat]?=ba h/\∃(j:Aa),zE j.side=g/\yE j.b=yE h/\(uD j)/\fa (∃(l:dq),ON j l d s (dp (z7 j).snd (Yd d s e j (∃(m:Nat×jv),ab yB (qD s m.fst m.snd)=zJ (cT s e d j) (↑d:Int).toNat 4 [dI (gF j)]/\Vy f m s d l)) (Zy s e f d l))))/\∀(g:Nat×jv),f g->∃(h:Nat×jv),ab yB (qD s h.fst h.snd)=ab yB (qD s g.fst g.snd)/\∃(j:Nat×jv->Prop),((hU)/\∃(k:Int),zD [[dI 1],[dI 2]] (av.wrap ((0:Int)+(1:Int))).toNat 0 1=ba [dI k]/\∃(l:dq),s.ei[(↑d:Int).toNat]?=ba l/\∃(m:Aa),zE m.side=k/\yE m.b=yE l/\(uD m)/\fa (∃(p:dq),ON m p d s (dp (z7 m).snd (Yc d s h m (∃(q:Nat×jv),ab yB (qD s q.fst q.snd)=zJ (bF s h d m) (↑d:Int).toNat 5 [dI (gF m)]/\Vy j q s d p)) (Zy s h j d p))))/\∀(k:Nat×jv),j k->∃(l:Nat),(↑l:Int)=av.wrap ((↑d:Int)+1)/\ab yB (qI s l)=ab yB (qD s k.fst k.snd)/\b l/\c l<c d/\dl (ao [V.d (dA s),V.own 3,V.d (dI s.p.tick),V.d (dI s.p.low),V.d (dI s.p.high),V.d (dI s.p.wide),V.d (dI s.p.gi),V.d (dI s.p.top),V.d (dI s.p.least),V.d (dI s.p.part),V.own 4,V.own 1,V.mp 2] (210:bo))/\dl (ap 211 dq 6 zS s.ei bc)/\zLc s) (dx (Qc s.p (dl (ap 211 dq 6 zS s.ei bc)/\QL s (ab yB s.fh=ab yB (qI s d)/\True))))
def y6s (s:gv):Prop:=
 ∃(i:List (bg×List D)),i=yY s.wh/\True/\∀(o:Unit),True->(dl (sb s.p.code)/\True/\dl s.p.tick/\dl s.p.low/\dl s.p.high/\dl s.p.wide/\dl s.p.gi/\dl s.p.top/\dl s.p.least/\dl s.p.part/\True/\True)/\∃(i0:Nat),(↑i0:Int)=0/\dl (sb s.p.code)/\dl s.p.tick/\dl s.p.low/\dl s.p.high/\dl s.p.wide/\dl s.p.gi/\dl s.p.top/\dl s.p.least/\dl s.p.part/\ae i0 s.ei=[]/\(bc:Option Nat)=bc/\yY s.wh=i/\dl (am 1 (iE s.p.dt))/\dl (am 1 (iE s.p.settle))/\∃(I:Nat->Prop),∃(μ:Nat->Nat),I i0/\∀(gx:Nat),I gx->dp (decide ((↑gx:Int)<(↑s.ei.length:Int))) ((0<=(↑gx:Int)/\(↑gx:Int)<(↑s.ei.length:Int))/\(↑gx:Int).toNat<s.ei.length/\∃(x:dq),s.ei[(↑gx:Int).toNat]?=ba x/\∃(ma:dq),yE ma=yE x/\((ma.a.du.length<=1000000/\ma.a.dy.length<=1000000)/\ma.fm.length<=1000000/\ma.ej.length<=1000000/\ma.spare.length<=1000000)/\∀(o:Unit),True->∃(x:dq),yE ma=yE x/\dl ((↑gx:Int).toNat)/\(↑gx:Int).toNat<s.ei.length/\True/\True/\∃(yy:List dq),ap 211 dq 6 zS (ae gx s.ei) bc=ap 211 dq 6 zS yy bc/\(yy.length+1)*(8:Nat)<=(140737488355328:Nat)/\∃(i':Nat),(↑i':Int)=av.wrap ((↑gx:Int)+1)/\dl (sb s.p.code)/\dl s.p.tick/\dl s.p.low/\dl s.p.high/\dl s.p.wide/\dl s.p.gi/\dl s.p.top/\dl s.p.least/\dl s.p.part/\ap 211 dq 6 zS (ae i' s.ei) bc=ap 211 dq 6 zS (yy++[ma]) bc/\dl (yY s.wh)/\dl (am 1 (iE s.p.dt))/\dl (am 1 (iE s.p.settle))/\I i'/\μ i'<μ gx/\ar i=ar i/\dl (ao [V.d (D.v (bu (sb s.p.code))),V.own 3,V.d (D.v (.int .i64 s.p.tick)),V.d (D.v (.int .i64 s.p.low)),V.d (D.v (.int .i64 s.p.high)),V.d (D.v (.int .i64 s.p.wide)),V.d (D.v (.int .i64 s.p.gi)),V.d (D.v (.int .i64 s.p.top)),V.d (D.v (.int .i64 s.p.least)),V.d (D.v (.int .i64 s.p.part)),V.own 4,V.own 1,V.mp 2] (210:bo))/\ap 211 dq 6 zS (s.ei.set (↑gx:Int).toNat x) bc=ap 211 dq 6 zS s.ei bc/\dl (am 1 (iE s.p.dt))/\dl (am 1 (iE s.p.settle))) (∃(o:Unit),dl (sb s.p.code)/\dl s.p.tick/\dl s.p.low/\dl s.p.high/\dl s.p.wide/\dl s.p.gi/\dl s.p.top/\dl s.p.least/\dl s.p.part/\dl (ap 211 dq 6 zS s.ei bc)/\yY s.wh=i/\dl (am 1 (iE s.p.dt))/\dl (am 1 (iE s.p.settle))/\dl (sb s.p.code)/\dl s.p.tick/\dl s.p.low/\dl s.p.high/\dl s.p.wide/\dl s.p.gi/\dl s.p.top/\dl s.p.least/\dl s.p.part/\ap 211 dq 6 zS s.ei bc=ap 211 dq 6 zS (ae gx s.ei) bc/\dl (yY s.wh)/\dl (am 1 (iE s.p.dt))/\dl (am 1 (iE s.p.settle))/\True)
def ju {α:Type} {f:α->List D} {l:List α} {i g n:Nat} {x:α} {r:List D} (h:l[i]? =ba x) (hn:g+n<=(f x).length) (hr:((f x).drop g).take n=r):zD (l.map f) i g n=ba r:=by
 unfold zD;rw[rf,h];simp only[we,Nat.ble_eq_true_of_le hn,cond_true,hr]
def Wp {a:dv} {n:Int} {q:aK} (h0:0<=n) (h:a.dy[n.toNat]? =ba q):a.qe n=q:=by
 have:=(jf.1 h).1;rw[dv.qe,fc ⟨h0,by omega⟩,oc,h];rfl
def UB {a:dv} {n:Int} (h:¬(0<=n/\n<a.dy.length)):a.qe n=⟨0,0,0,0⟩:=by rw[dv.qe,eg h]
def Z4:Jg.ok Tryz.prog 203:=gu (V:=yEz) mixed fg 1 (λ_=>[]) (λ_=>[]) [0] Tryz.func203 λ(i:uq) _=>by
 unfold yEz dx dP zBt dx wI Q9 dI;simp only[gy];refine zH (λc=>Cv.dp.mk (λd=> ?_) (λd=> ?_)) (λc=> ?_)
 ·have d:¬i.n<(i.a.dy.length:Int):=by simpa using d
  rw[UB (by omega)];exact kp
 ·have d:i.n<(i.a.dy.length:Int):=by simpa using d
  obtain⟨q,hq⟩:=z6 (l:=i.a.dy) (i:=i.n.toNat) oM;rw[Wp (by omega) hq];refine⟨⟨oM,oM⟩,q.total,ju hq (by simp[zR]) rfl,?_⟩;exact kp
 ·rw[UB (by omega)];exact kp
def sW:Jh.ok Tryz.prog 204:=gu (V:=yDn) mixed fg 1 (λ_=>[]) (λ_=>[]) [0] Tryz.func204 λ(i:uq) _=>by
 unfold yDn dx dP zBl dx wI Q9 dI;simp only[gy];refine zH (λc=>Cv.dp.mk (λd=> ?_) (λd=> ?_)) (λc=> ?_)
 ·have d:¬i.n<(i.a.dy.length:Int):=by simpa using d
  rw[UB (by omega)];exact kp
 ·have d:i.n<(i.a.dy.length:Int):=by simpa using d
  obtain⟨q,hq⟩:=z6 (l:=i.a.dy) (i:=i.n.toNat) oM;rw[Wp (by omega) hq];refine⟨⟨oM,oM⟩,q.count,ju hq (by simp[zR]) rfl,?_⟩;exact kp
 ·rw[UB (by omega)];exact kp
def Jr:aaY.ok Tryz.prog 169:=gu (V:=xFd) mixed fg 0 (λ_=>[]) (λ_=>[]) [] Tryz.func169 λ(n:Int) _=>by
 unfold xFd dx;refine Cv.dp.mk (λc=>⟨(),?_,trivial⟩) (λc=>⟨(),?_,trivial⟩)
 all_goals simp at c
 ·simp[c]
 ·by_cases h:n=2<;>simp[c,h]
def yEh:TB.ok Tryz.prog 170:=gu (V:=xEf) mixed (dw Z4 (dw sW fg)) 0 (λ_=>[]) (λ_=>[]) [0] Tryz.func170 λ(i:SC) h=>by
 refine⟨⟨i.b.a,i.r.queue⟩,?_⟩;(repeat'(first|exact rfl|exact trivial|assumption|apply az|refineλ(_:Unit) (_:True)=>?_|refine ay () ?_|omega|(dsimp only;omega)));refine⟨⟨i.b.a,i.r.queue⟩,?_⟩;exact kp
def yRe:Na.ok Tryz.prog 120:=gu (V:=y6d) mixed (dw Jr (dw yEh fg)) 0 (λ_=>[]) (λ_=>[]) [0] Tryz.func120 λ(b:dq) h=>by
 have h:b.nt:=h;refine⟨1,rfl,trivial,λ_ _=>Cv.dp.mk (λc=>absurd c Z8) λ_=> ?_⟩;simp only[gy];refine Cv.dp.mk (λc=> ?_) (λc=> ?_)
 ·have hl:b.fm=[]:=xu (by have:(b.fm.length:Int)=0:=(by simpa using c);omega);have e:b.ir b.fm=(⟨0,0,0⟩,aw):=by rw[hl];rfl
  rw[e];exact kp
 ·obtain⟨r,l,hl⟩:∃r l,b.fm=r::l:=by
   cases hb:b.fm with
   |nil=>rw[hb]at c;exact absurd c Z8
   |cons r l=>exact⟨r,l,rfl⟩
  have e:b.ir b.fm=(b.told r,ax):=by rw[hl];rfl
  rw[e];refine⟨⟨oM,by rw[hl,iC];omega⟩,r.dm,r.queue,ju (x:=r) (by rw[hl];rfl) (by simp[zC]) rfl,⟨b,r⟩,?_⟩;exact kp
def yTs:M9.ok Tryz.prog 120:=gu (V:=y6o) mixed (dw Jr (dw yEh fg)) 0 (λ_=>[]) (λ_=>[]) [0] Tryz.func120 λ(b:dq) h=>by
 have h:b.nt:=h;refine⟨2,rfl,trivial,λ_ _=>Cv.dp.mk (λc=>absurd c Z8) λ_=> ?_⟩;simp only[gy];refine Cv.dp.mk (λc=> ?_) (λc=> ?_)
 ·have hl:b.ej=[]:=xu (by have:(b.ej.length:Int)=0:=(by simpa using c);omega);have e:b.ir b.ej=(⟨0,0,0⟩,aw):=by rw[hl];rfl
  rw[e];exact kp
 ·obtain⟨r,l,hl⟩:∃r l,b.ej=r::l:=by
   cases hb:b.ej with
   |nil=>rw[hb]at c;exact absurd c Z8
   |cons r l=>exact⟨r,l,rfl⟩
  have e:b.ir b.ej=(b.told r,ax):=by rw[hl];rfl
  rw[e];refine⟨⟨oM,by rw[hl,iC];omega⟩,r.dm,r.queue,ju (x:=r) (by rw[hl];rfl) (by simp[zC]) rfl,⟨b,r⟩,?_⟩;exact kp
def US:Ul.ok Tryz.prog 120:=λi=>match i with
 |⟨aw,b⟩=>yRe b
 |⟨ax,b⟩=>yTs b
def zSm {α:Type} (f:α->α) (x:α) (b:List α):∀a:List α,(a++x::b).modify a.length f=a++f x::b
 |[]=>rfl
 |y::a=>by
  show y::(a++x::b).modify a.length f=_;rw[zSm f x b a];rfl
def zXv {ez:List (List D)} {a b:List (List D)} {x y ds:List D} {j f:Nat} (h:ez=a++x::b) (hl:a.length=j) (hy:x.take f++(ds++x.drop (f+ds.length))=y):zJ ez j f ds=a++y::b:=by
 rw[zJ,h,<- hl,zSm,hy]
def kV {s:gv} {j:Nat} {x y:jv} {f:Nat} {ds:List D} (hj:j<s.ei.length) (hy:(yB x).take f++(ds++(yB x).drop (f+ds.length))=yB y):
 zJ (ab yB (qD s j x)) j f ds=ab yB (qD s j y):=by
 rw[zXv (a:=(s.fh.take j).map yB) (b:=(ac (s.ei.length-j-1) jw).map yB) (by rw[qD,jl,jj]) (by
  rw[gy,ng,gv.fh,gy];omega) hy,qD,jl,jj]
def zRl {s:gv} {j:Nat} {x:jv} (hj:j<s.ei.length):(qD s j x).length=s.ei.length:=by
 rw[qD,iv,iC,ng,gv.fh,gy,FB];omega
def zOn {s:gv} {j:Nat} (hj:j<s.ei.length):qD s j jw=qI s j:=by
 rw[qD,qI];obtain⟨m,hm⟩:∃m,s.ei.length-j=m+1:=⟨s.ei.length-j-1,oM⟩
 rw[hm,LI];rfl
def zNw {s:gv} {j:Nat} {b:dq} (hb:s.ei[j]? =ba b):qD s j b.top=qI s (j+1):=by
 have hj:=(jf.1 hb).1;rw[qD,qI,qx,show s.fh[j]? =ba b.top by rw[gv.fh,rf,hb];rfl];simp only[Cb,iY,ui,xi];rw[show s.ei.length-j-1=s.ei.length-(j+1)by omega]
def cG {α:Type} {l:List α} {j:Nat} {x:α} (h:l[j]? =ba x):l.set j x=l:=by
 obtain⟨hj,rfl⟩:=jf.1 h;exact List.set_getElem_self hj
def xDr (s:gv) (h:Kg.dp s):y2f s:=by
 obtain⟨h1,h2⟩:s.nt:=h;unfold y2f QL Yd Yc ON Qc fa dx Zy Vy dA gF kL uD hU mN mR zLc V5 zDl cT mL zCy bF c8 z7 mH gE dI;have p48:(2:Int) ^ (48:Nat)=281474976710656:=by decide
 refine⟨⟨oM,oM,oM,by rw[p48];omega⟩,0,rfl,?_,λj=>j<=s.ei.length,λj=>s.ei.length-j,oM,λj hj=>zH (λgn=> ?_) (λgn=> ?_)⟩
 ·rw[qI,jl,Rf];rfl
 ·have ov:j<s.ei.length:=by omega
  obtain⟨b,hb⟩:=z6 ov;have hc:=h2 b (ku hb);simp only[om];have ha:∀x,(ab yB (qD s j x)).length=s.ei.length:=λx=>by rw[gy,zRl ov]
  have w1:av.wrap (0+1)=1:=by decide
  have w2:(0+1) % ((2:Int) ^ av.bits).natAbs=1:=by decide
  refine⟨⟨oM,oM⟩,oM,(j,jw),by rw[zOn ov],λx=>x=(j,jw.FX (b.ir b.fm)),⟨⟨Z8,Z8⟩,1,rfl,b,hb,⟨aw,b⟩,rfl,rfl,hc,λ_ _=>⟨b,rfl,kp,oM,?_⟩⟩,?_⟩
  ·refine Cv.dp.mk (λc=> ?_) (λc=> ?_)
   ·have c:(b.ir b.fm).2=ax:=c;have e1:=kV (s:=s) ov (x:=jw) (y:={jw with gp:=ax}) (f:=0+0+0*1) (ds:=[D.v (.bool ax)]) rfl;have e2:=kV (s:=s) ov (x:={jw with gp:=ax}) (y:={jw with gp:=ax,p1:=(b.ir b.fm).1.dm}) (f:=0+2+0*1) (ds:=[D.v (.int .i64 (b.ir b.fm).1.dm)]) rfl;have e3:=kV (s:=s) ov (x:={jw with gp:=ax,p1:=(b.ir b.fm).1.dm}) (y:={jw with gp:=ax,p1:=(b.ir b.fm).1.dm,q1:=(b.ir b.fm).1.dr}) (f:=0+4+0*1) (ds:=[D.v (.int .i64 (b.ir b.fm).1.dr)]) rfl;dsimp only;simp only[show b.side aw=b.fm from rfl,e1,e2,e3,ha]
    (repeat'(first|exact rfl|exact trivial|assumption|apply az|refineλ(_:Unit) (_:True)=>?_|refine ay () ?_|omega|(dsimp only;omega)))
    refine⟨(j,{jw with gp:=ax,p1:=(b.ir b.fm).1.dm,q1:=(b.ir b.fm).1.dr}),rfl,?_,?_⟩
    ·rw[jv.FX,fc c]
    ·(repeat'(first|exact rfl|exact trivial|assumption|apply az|refineλ(_:Unit) (_:True)=>?_|refine ay () ?_|omega|(dsimp only;omega)))
     rw[cG hb]
   ·have c:(b.ir b.fm).2=aw:=c;refine⟨(j,jw),rfl,?_,?_⟩
    ·rw[jv.FX,eg (by rw[c];simp)]
    ·(repeat'(first|exact rfl|exact trivial|assumption|apply az|refineλ(_:Unit) (_:True)=>?_|refine ay () ?_|omega|(dsimp only;omega)))
     rw[cG hb]
  ·rintro _ rfl;rw[w1];generalize hx:jw.FX (b.ir b.fm)=x;have RE:b.top=x.AF (b.ir b.ej):=by rw[dq.top,hx]
   refine⟨(j,x),rfl,λy=>y=(j,b.top),⟨⟨Z8,Z8⟩,2,rfl,b,hb,⟨ax,b⟩,rfl,rfl,hc,λ_ _=>⟨b,rfl,kp,oM,?_⟩⟩,?_⟩
   ·refine Cv.dp.mk (λc=> ?_) (λc=> ?_)
    ·have c:(b.ir b.ej).2=ax:=c;have e1:=kV (s:=s) ov (x:=x) (y:={x with gl:=ax}) (f:=0+0+1*1) (ds:=[D.v (.bool ax)]) rfl;have e2:=kV (s:=s) ov (x:={x with gl:=ax}) (y:={x with gl:=ax,p2:=(b.ir b.ej).1.dm}) (f:=0+2+1*1) (ds:=[D.v (.int .i64 (b.ir b.ej).1.dm)]) rfl;have e3:=kV (s:=s) ov (x:={x with gl:=ax,p2:=(b.ir b.ej).1.dm}) (y:={x with gl:=ax,p2:=(b.ir b.ej).1.dm,q2:=(b.ir b.ej).1.dr}) (f:=0+4+1*1) (ds:=[D.v (.int .i64 (b.ir b.ej).1.dr)]) rfl;dsimp only;simp only[w2,show b.side ax=b.ej from rfl,e1,e2,e3,ha]
     (repeat'(first|exact rfl|exact trivial|assumption|apply az|refineλ(_:Unit) (_:True)=>?_|refine ay () ?_|omega|(dsimp only;omega)))
     refine⟨(j,{x with gl:=ax,p2:=(b.ir b.ej).1.dm,q2:=(b.ir b.ej).1.dr}),rfl,?_,?_⟩
     ·rw[RE,jv.AF,fc c]
     ·(repeat'(first|exact rfl|exact trivial|assumption|apply az|refineλ(_:Unit) (_:True)=>?_|refine ay () ?_|omega|(dsimp only;omega)))
      rw[cG hb]
    ·have c:(b.ir b.ej).2=aw:=c;refine⟨(j,x),rfl,?_,?_⟩
     ·rw[RE,jv.AF,eg (by rw[c];simp)]
     ·(repeat'(first|exact rfl|exact trivial|assumption|apply az|refineλ(_:Unit) (_:True)=>?_|refine ay () ?_|omega|(dsimp only;omega)))
      rw[cG hb]
   ·rintro _ rfl;refine⟨j+1,by rw[iq (by omega)];rfl,?_⟩;refine⟨by dsimp only;rw[zNw hb],?_⟩;exact kp
 ·have hj:j<=s.ei.length:=hj;obtain rfl:j=s.ei.length:=by omega
  have e:qI s s.ei.length=s.fh:=by
   rw[qI,JF,List.replicate_zero,oJ,mo (by rw[gv.fh,gy];omega)]
  rw[e];exact kp
def yHd:Kg.ok Tryz.prog 59:=gu mixed (dw US fg) 0 (λs=>y2h s) (λs=>y0l s) [0] Tryz.func59 xDr
def Pz:M5.ok Tryz.prog 65:=gu (V:=y6s) mixed (dw yZr (dw yPx fg)) 0 (λ_=>[]) (λs=>y9a s) [0] Tryz.func65 λ(s:gv) h=>by
 obtain⟨h1,h2⟩:s.small:=h;refine⟨yY s.wh,?_⟩;(repeat'(first|exact rfl|exact trivial|assumption|apply az|refineλ(_:Unit) (_:True)=>?_|refine ay () ?_|omega|(dsimp only;omega)));refine⟨0,?_⟩;(repeat'(first|exact rfl|exact trivial|assumption|apply az|refineλ(_:Unit) (_:True)=>?_|refine ay () ?_|omega|(dsimp only;omega)));refine⟨λj=>j<=s.ei.length,λj=>s.ei.length-j,oM,λj hj=>zH (λgn=> ?_) (λgn=> ?_)⟩
 ·obtain⟨b,hb⟩:=z6 (l:=s.ei) (i:=j) oM;have hs:=h2 b (ku hb);simp only[om];refine⟨⟨oM,oM⟩,oM,b,hb,b,rfl,hs,λ_ _=>⟨b,rfl,kp,oM,trivial,trivial,s.ei.take j,rfl,?_,j+1,?_⟩⟩
  ·rw[ng];omega
  ·rw[iq (by omega),qx,hb]
   (repeat'(first|exact rfl|exact trivial|assumption|apply az|refineλ(_:Unit) (_:True)=>?_|refine ay () ?_|omega|(dsimp only;omega)))
   rw[cG hb]
 ·have hj:j<=s.ei.length:=hj;obtain rfl:j=s.ei.length:=by omega
  rw[mo (lh _)];exact kp
structure Co where
 inst:Int
 side:Int
 deriving DecidableEq
structure Quote where
 dm:Int
 dr:Int
 a:Co
 b:Co
 deriving DecidableEq
def zL (q:Quote):List D:=[.v (.int .i64 q.dm),.v (.int .i64 q.dr),.v (.int .i64 q.a.inst),.v (.int .i64 q.a.side),.v (.int .i64 q.b.inst),.v (.int .i64 q.b.side)]
@[reducible] def Wy (q:Quote):V:= .agg [zB q.dm,zB q.dr,zB q.a.inst,zB q.a.side,zB q.b.inst,zB q.b.side]
def y9b:Quote:=⟨0,0,⟨0,0⟩,⟨0,0⟩⟩
structure Ej where
 side:Int
 x:Int
 y:Int
def je (side x y:Int):Bool:=if side=1 then decide (y<x)else decide (x<y)
def I':fy:=fi Int (λn=>[zB n]) (λ_=>[]) (λn=>n=1\/n=2) (λn=>zB (3-n)) (λ_=>[])
def G9:fy:=fi Ej (λi=>[zB i.side,zB i.x,zB i.y]) (λ_=>[]) (λ_=>True) (λi=>yL (je i.side i.x i.y)) (λ_=>[])
def jv.has (t:jv) (s:Int):Bool:=if s=1 then t.gp else t.gl
def jv.dm (t:jv) (s:Int):Int:=if s=1 then t.p1 else t.p2
def jv.dr (t:jv) (s:Int):Int:=if s=1 then t.q1 else t.q2
def xm (fh:List jv) (a b:Co) (less:Bool):List Quote:=
 let x:=fh.getD a.inst.toNat jw
 let y:=fh.getD b.inst.toNat jw
 let r:=if less then fA (y.dm b.side) (x.dm a.side)else fD (x.dm a.side) (y.dm b.side)
 if x.has a.side && y.has b.side && r.2 then[⟨r.1,min (x.dr a.side) (y.dr b.side),a,b⟩]else[]
structure uo where
 fh:List jv
 out:List Quote
 a:Int
 b:Int
 less:Bool
@[reducible] def vU (l:List jv):Prop:=l.length<=1000000/\∀t∈l,gr t.p1/\gr t.p2
def Bj (x:List jv×List Quote):Nat->fj
 |0=> .cells [.own 1,.own 2] 279
 |1=> .kg 6 (x.1.map yB)
 |2=> .own 128 6 (x.2.map zL)
 |_=> .gone
@[reducible] def Yh (fh:List jv) (out:List Quote):List fj:=[Bj (fh,out) 0,Bj (fh,out) 1,Bj (fh,out) 2]
@[reducible] def MkP (fh:List jv) (out:List Quote):List fj:=[.cells [.own 1,.own 3] 279,Bj (fh,out) 1,.gone,Bj (fh,out) 2]
def Xx (sa sb:Int):fy:=fi uo (λi=>[.nm 0 0,.agg [zB i.a,zB sa],.agg [zB i.b,zB sb],yL i.less]) (λi=>Yh i.fh i.out)
 (λi=>0<=i.a/\i.a<i.fh.length/\0<=i.b/\i.b<i.fh.length/\vU i.fh/\i.out.length<=1000) (λ_=>pL) (λi=>MkP i.fh (i.out++xm i.fh ⟨i.a,sa⟩ ⟨i.b,sb⟩ i.less))
def SX:fy:=Xx 1 1
def SW:fy:=Xx 1 2
def SV:fy:=Xx 2 1
def SU:fy:=Xx 2 2
def yVu (n:Int):Prop:=
 ∃(o:Unit),3-n=av.wrap (3-n)/\True
def yMd (i:Ej):Prop:=
 dp (i.side==1) (∃(o:Unit),je i.side i.x i.y=decide (i.x>i.y)/\True) (∃(o:Unit),je i.side i.x i.y=decide (i.x<i.y)/\True)
def Wg (a:uo):=(a.out++xm a.fh (Co.mk a.a 1) (Co.mk a.b 1) a.less)
def tA (a:uo):Prop:=dx (am 6 (ab yB a.fh)=Bj (a.fh,a.out) 1/\ab zL (Wg a)=ab zL a.out/\True)
def wA (a:I2):Prop:=((-9223372036854775808)<=a.x/\a.x<=9223372036854775807)/\(-9223372036854775808)<=a.y/\a.y<=9223372036854775807
def kT (a:uo):=(↑(ab yB a.fh).length:Int)
def qP (a:uo):Prop:=(0<=a.b/\a.b<(kT a))/\dl a.b.toNat
def j7 (a:uo):Prop:=(0<=a.a/\a.a<(kT a))/\dl a.a.toNat
def j6 (a:uo):=((ab zL a.out).length+1)
@[reducible] def Qw (a:uo)(R:Prop):Prop:=True/\(qP a)/\a.b=a.b/\True/\True/\(j7 a)/\a.a=a.a/\True/\R
@[reducible] def Fb (a:uo)(R:Prop):Prop:=True/\(j6 a)*(48:Nat)<=(140737488355328:Nat)/\R
def Zm (a:uo) (b:Bool) (c:Bool) (d:Int) (e:Int) (f:Int) (g:Int):Prop:=Qw a (Qw a (True/\(qP a)/\a.b=a.b/\True/\dp (!b) (tA a) (dp (!c) (tA a) (∃(h:I2),h.x=d/\h.y=e/\(wA h)/\fa (dp a.less (∃(k:I2),k.x=e/\k.y=d/\(wA k)/\fa (dp (fA k.x k.y).snd (Fb a (dx (am 6 (ab yB a.fh)=Bj (a.fh,a.out) 1/\ab zL (Wg a)=ab zL a.out++[[dI ((fA k.x k.y).fst),dI (min f g),dI a.a,dI 1,dI a.b,dI 1]]/\True))) (tA a))) (dp (fD h.x h.y).snd (Fb a (dx (am 6 (ab yB a.fh)=Bj (a.fh,a.out) 1/\ab zL (Wg a)=ab zL a.out++[[dI ((fD h.x h.y).fst),dI (min f g),dI a.a,dI 1,dI a.b,dI 1]]/\True))) (tA a)))))))
def y2g (i:uo):Prop:=
 (0<=i.a/\i.a<(kT i))/\∃(a:Bool),∃(b:Bool),∃(c:Int),∃(d:Int),∃(e:Int),∃(f:Int),zD (ab yB i.fh) i.a.toNat 0 6=ba [D.v (.bool a),D.v (.bool b),dI c,dI d,dI e,dI f]/\(0<=i.b/\i.b<(kT i))/\∃(g:Bool),∃(h:Bool),∃(j:Int),∃(k:Int),∃(l:Int),∃(m:Int),zD (ab yB i.fh) i.b.toNat 0 6=ba [D.v (.bool g),D.v (.bool h),dI j,dI k,dI l,dI m]/\(Zm i a g c j e l)/\Zm i a g c j e l
def Wa (a:uo):=(a.out++xm a.fh (Co.mk a.a 1) (Co.mk a.b 2) a.less)
def sC (a:uo):Prop:=dx (am 6 (ab yB a.fh)=Bj (a.fh,a.out) 1/\ab zL (Wa a)=ab zL a.out/\True)
def Zh (a:uo) (b:Bool) (c:Bool) (d:Int) (e:Int) (f:Int) (g:Int):Prop:=Qw a (Qw a (True/\(qP a)/\a.b=a.b/\True/\dp (!b) (sC a) (dp (!c) (sC a) (∃(h:I2),h.x=d/\h.y=e/\(wA h)/\fa (dp a.less (∃(k:I2),k.x=e/\k.y=d/\(wA k)/\fa (dp (fA k.x k.y).snd (Fb a (dx (am 6 (ab yB a.fh)=Bj (a.fh,a.out) 1/\ab zL (Wa a)=ab zL a.out++[[dI ((fA k.x k.y).fst),dI (min f g),dI a.a,dI 1,dI a.b,dI 2]]/\True))) (sC a))) (dp (fD h.x h.y).snd (Fb a (dx (am 6 (ab yB a.fh)=Bj (a.fh,a.out) 1/\ab zL (Wa a)=ab zL a.out++[[dI ((fD h.x h.y).fst),dI (min f g),dI a.a,dI 1,dI a.b,dI 2]]/\True))) (sC a)))))))
def y0r (i:uo):Prop:=
 (0<=i.a/\i.a<(kT i))/\∃(a:Bool),∃(b:Bool),∃(c:Int),∃(d:Int),∃(e:Int),∃(f:Int),zD (ab yB i.fh) i.a.toNat 0 6=ba [D.v (.bool a),D.v (.bool b),dI c,dI d,dI e,dI f]/\(0<=i.b/\i.b<(kT i))/\∃(g:Bool),∃(h:Bool),∃(j:Int),∃(k:Int),∃(l:Int),∃(m:Int),zD (ab yB i.fh) i.b.toNat 0 6=ba [D.v (.bool g),D.v (.bool h),dI j,dI k,dI l,dI m]/\(Zh i a h c k e m)/\Zh i a h c k e m
def Wi (a:uo):=(a.out++xm a.fh (Co.mk a.a 2) (Co.mk a.b 1) a.less)
def tC (a:uo):Prop:=dx (am 6 (ab yB a.fh)=Bj (a.fh,a.out) 1/\ab zL (Wi a)=ab zL a.out/\True)
def YT (a:uo) (b:Bool) (c:Bool) (d:Int) (e:Int) (f:Int) (g:Int):Prop:=Qw a (Qw a (True/\(qP a)/\a.b=a.b/\True/\dp (!b) (tC a) (dp (!c) (tC a) (∃(h:I2),h.x=d/\h.y=e/\(wA h)/\fa (dp a.less (∃(k:I2),k.x=e/\k.y=d/\(wA k)/\fa (dp (fA k.x k.y).snd (Fb a (dx (am 6 (ab yB a.fh)=Bj (a.fh,a.out) 1/\ab zL (Wi a)=ab zL a.out++[[dI ((fA k.x k.y).fst),dI (min f g),dI a.a,dI 2,dI a.b,dI 1]]/\True))) (tC a))) (dp (fD h.x h.y).snd (Fb a (dx (am 6 (ab yB a.fh)=Bj (a.fh,a.out) 1/\ab zL (Wi a)=ab zL a.out++[[dI ((fD h.x h.y).fst),dI (min f g),dI a.a,dI 2,dI a.b,dI 1]]/\True))) (tC a)))))))
def y1z (i:uo):Prop:=
 (0<=i.a/\i.a<(kT i))/\∃(a:Bool),∃(b:Bool),∃(c:Int),∃(d:Int),∃(e:Int),∃(f:Int),zD (ab yB i.fh) i.a.toNat 0 6=ba [D.v (.bool a),D.v (.bool b),dI c,dI d,dI e,dI f]/\(0<=i.b/\i.b<(kT i))/\∃(g:Bool),∃(h:Bool),∃(j:Int),∃(k:Int),∃(l:Int),∃(m:Int),zD (ab yB i.fh) i.b.toNat 0 6=ba [D.v (.bool g),D.v (.bool h),dI j,dI k,dI l,dI m]/\(YT i b g d j f l)/\YT i b g d j f l
def VO (a:uo):=(a.out++xm a.fh (Co.mk a.a 2) (Co.mk a.b 2) a.less)
def rU (a:uo):Prop:=dx (am 6 (ab yB a.fh)=Bj (a.fh,a.out) 1/\ab zL (VO a)=ab zL a.out/\True)
def Zn (a:uo) (b:Bool) (c:Bool) (d:Int) (e:Int) (f:Int) (g:Int):Prop:=Qw a (Qw a (True/\(qP a)/\a.b=a.b/\True/\dp (!b) (rU a) (dp (!c) (rU a) (∃(h:I2),h.x=d/\h.y=e/\(wA h)/\fa (dp a.less (∃(k:I2),k.x=e/\k.y=d/\(wA k)/\fa (dp (fA k.x k.y).snd (Fb a (dx (am 6 (ab yB a.fh)=Bj (a.fh,a.out) 1/\ab zL (VO a)=ab zL a.out++[[dI ((fA k.x k.y).fst),dI (min f g),dI a.a,dI 2,dI a.b,dI 2]]/\True))) (rU a))) (dp (fD h.x h.y).snd (Fb a (dx (am 6 (ab yB a.fh)=Bj (a.fh,a.out) 1/\ab zL (VO a)=ab zL a.out++[[dI ((fD h.x h.y).fst),dI (min f g),dI a.a,dI 2,dI a.b,dI 2]]/\True))) (rU a)))))))
def y2y (i:uo):Prop:=
 (0<=i.a/\i.a<(kT i))/\∃(a:Bool),∃(b:Bool),∃(c:Int),∃(d:Int),∃(e:Int),∃(f:Int),zD (ab yB i.fh) i.a.toNat 0 6=ba [D.v (.bool a),D.v (.bool b),dI c,dI d,dI e,dI f]/\(0<=i.b/\i.b<(kT i))/\∃(g:Bool),∃(h:Bool),∃(j:Int),∃(k:Int),∃(l:Int),∃(m:Int),zD (ab yB i.fh) i.b.toNat 0 6=ba [D.v (.bool g),D.v (.bool h),dI j,dI k,dI l,dI m]/\(Zn i b h d k f m)/\Zn i b h d k f m
def zYc:I'.ok Tryz.prog 171:=gu (V:=yVu) mixed fg 0 (λ_=>[]) (λ_=>[]) [] Tryz.func171 λ(n:Int) h=>by
 have h:n=1\/n=2:=h;refine⟨(),?_,trivial⟩;rw[iq (by omega)]
def z8e:G9.ok Tryz.prog 121:=gu (V:=yMd) mixed fg 0 (λ_=>[]) (λ_=>[]) [] Tryz.func121 λ(i:Ej) _=>by
 refine Cv.dp.mk (λe=>⟨(),?_,trivial⟩) (λe=>⟨(),?_,trivial⟩)
 ·have e:i.side=1:=by simpa using e
  simp[je,e]
 ·have e:i.side≠1:=by simpa using e
  simp[je,e]
def WI (a b:Int):(if b<a then b else a)=min a b:=by split<;>omega
def xDv (i:uo) (h:SX.dp i):y2g i:=by
 obtain⟨a0,a1,b0,b1,⟨ht,hp⟩,ho⟩:0<=i.a/\i.a<i.fh.length/\0<=i.b/\i.b<i.fh.length/\vU i.fh/\i.out.length<=1000:=h;obtain⟨x,hx⟩:=z6 (l:=i.fh) (i:=i.a.toNat) oM;obtain⟨y,hy⟩:=z6 (l:=i.fh) (i:=i.b.toNat) oM;obtain⟨⟨px1,px2⟩,px3,px4⟩:=hp x (ku hx);obtain⟨⟨py1,py2⟩,py3,py4⟩:=hp y (ku hy);have e0:xm i.fh ⟨i.a,1⟩ ⟨i.b,1⟩ i.less=if x.gp && y.gp && (if i.less then fA y.p1 x.p1 else fD x.p1 y.p1).2 then[⟨(if i.less then fA y.p1 x.p1 else fD x.p1 y.p1).1,min x.q1 y.q1,⟨i.a,1⟩,⟨i.b,1⟩⟩]else[]:=by
  simp only[xm,oc,hx,hy,zt];rfl
 unfold y2g Zm Fb fa dx Qw j6 j7 qP kT wA tA dx Wg dI;simp only[gy];refine⟨⟨oM,oM⟩,x.gp,x.gl,x.p1,x.p2,x.q1,x.q2,ju hx (by simp[yB]) rfl,⟨oM,oM⟩,y.gp,y.gl,y.p1,y.p2,y.q1,y.q2,ju hy (by simp[yB]) rfl,?_⟩;rw[e0]
 (repeat'(first|exact rfl|exact trivial|assumption|apply az|refineλ(_:Unit) (_:True)=>?_|refine ay () ?_|omega|(dsimp only;omega)))
 all_goals
  refine Cv.dp.mk (λc1=> ?_) (λc1=>Cv.dp.mk (λc2=> ?_) (λc2=> ?_))
  ·have c1:x.gp=aw:=by simpa using c1
   simp only[c1,Da,oL,if_false,oJ];exact kp
  ·have c2:y.gp=aw:=by simpa using c2
   simp only[c2,JG,Da,oL,if_false,oJ];exact kp
  ·have c1:x.gp=ax:=by simpa using c1
   have c2:y.gp=ax:=by simpa using c2
   simp only[c1,c2,Ao,WI];refine⟨⟨x.p1,y.p1⟩,?_⟩
   (repeat'(first|exact rfl|exact trivial|assumption|apply az|refineλ(_:Unit) (_:True)=>?_|refine ay () ?_|omega|(dsimp only;omega)))
   refine Cv.dp.mk (λc3=> ?_) (λc3=> ?_)
   ·have c3:i.less=ax:=c3;simp only[c3,if_true];refine⟨⟨y.p1,x.p1⟩,?_⟩
    (repeat'(first|exact rfl|exact trivial|assumption|apply az|refineλ(_:Unit) (_:True)=>?_|refine ay () ?_|omega|(dsimp only;omega)))
    refine Cv.dp.mk (λc4=> ?_) (λc4=> ?_)
    ·have c4:(fA y.p1 x.p1).2=ax:=c4;simp only[c4,if_true,jl];exact kp
    ·have c4:(fA y.p1 x.p1).2=aw:=c4;simp only[c4,oL,if_false,oJ];exact kp
   ·have c3:i.less=aw:=c3;simp only[c3,oL,if_false];refine Cv.dp.mk (λc4=> ?_) (λc4=> ?_)
    ·have c4:(fD x.p1 y.p1).2=ax:=c4;simp only[c4,if_true,jl];exact kp
    ·have c4:(fD x.p1 y.p1).2=aw:=c4;simp only[c4,oL,if_false,oJ];exact kp
def yWd:SX.ok Tryz.prog 172:=gu mixed (dw Ww (dw WB fg)) 0 (λ_=>[]) (λ_=>[]) [] Tryz.func172 xDv
def xFp (i:uo) (h:SW.dp i):y0r i:=by
 obtain⟨a0,a1,b0,b1,⟨ht,hp⟩,ho⟩:0<=i.a/\i.a<i.fh.length/\0<=i.b/\i.b<i.fh.length/\vU i.fh/\i.out.length<=1000:=h;obtain⟨x,hx⟩:=z6 (l:=i.fh) (i:=i.a.toNat) oM;obtain⟨y,hy⟩:=z6 (l:=i.fh) (i:=i.b.toNat) oM;obtain⟨⟨px1,px2⟩,px3,px4⟩:=hp x (ku hx);obtain⟨⟨py1,py2⟩,py3,py4⟩:=hp y (ku hy);have e0:xm i.fh ⟨i.a,1⟩ ⟨i.b,2⟩ i.less=if x.gp && y.gl && (if i.less then fA y.p2 x.p1 else fD x.p1 y.p2).2 then[⟨(if i.less then fA y.p2 x.p1 else fD x.p1 y.p2).1,min x.q1 y.q2,⟨i.a,1⟩,⟨i.b,2⟩⟩]else[]:=by
  simp only[xm,oc,hx,hy,zt];rfl
 unfold y0r Zh Fb fa dx Qw sC dx Wa j6 j7 qP wA kT dI;simp only[gy];refine⟨⟨oM,oM⟩,x.gp,x.gl,x.p1,x.p2,x.q1,x.q2,ju hx (by simp[yB]) rfl,⟨oM,oM⟩,y.gp,y.gl,y.p1,y.p2,y.q1,y.q2,ju hy (by simp[yB]) rfl,?_⟩;rw[e0]
 (repeat'(first|exact rfl|exact trivial|assumption|apply az|refineλ(_:Unit) (_:True)=>?_|refine ay () ?_|omega|(dsimp only;omega)))
 all_goals
  refine Cv.dp.mk (λc1=> ?_) (λc1=>Cv.dp.mk (λc2=> ?_) (λc2=> ?_))
  ·have c1:x.gp=aw:=by simpa using c1
   simp only[c1,Da,oL,if_false,oJ];exact kp
  ·have c2:y.gl=aw:=by simpa using c2
   simp only[c2,JG,Da,oL,if_false,oJ];exact kp
  ·have c1:x.gp=ax:=by simpa using c1
   have c2:y.gl=ax:=by simpa using c2
   simp only[c1,c2,Ao,WI];refine⟨⟨x.p1,y.p2⟩,?_⟩
   (repeat'(first|exact rfl|exact trivial|assumption|apply az|refineλ(_:Unit) (_:True)=>?_|refine ay () ?_|omega|(dsimp only;omega)))
   refine Cv.dp.mk (λc3=> ?_) (λc3=> ?_)
   ·have c3:i.less=ax:=c3;simp only[c3,if_true];refine⟨⟨y.p2,x.p1⟩,?_⟩
    (repeat'(first|exact rfl|exact trivial|assumption|apply az|refineλ(_:Unit) (_:True)=>?_|refine ay () ?_|omega|(dsimp only;omega)))
    refine Cv.dp.mk (λc4=> ?_) (λc4=> ?_)
    ·have c4:(fA y.p2 x.p1).2=ax:=c4;simp only[c4,if_true,jl];exact kp
    ·have c4:(fA y.p2 x.p1).2=aw:=c4;simp only[c4,oL,if_false,oJ];exact kp
   ·have c3:i.less=aw:=c3;simp only[c3,oL,if_false];refine Cv.dp.mk (λc4=> ?_) (λc4=> ?_)
    ·have c4:(fD x.p1 y.p2).2=ax:=c4;simp only[c4,if_true,jl];exact kp
    ·have c4:(fD x.p1 y.p2).2=aw:=c4;simp only[c4,oL,if_false,oJ];exact kp
def yWt:SW.ok Tryz.prog 172:=gu mixed (dw Ww (dw WB fg)) 0 (λ_=>[]) (λ_=>[]) [] Tryz.func172 xFp
def xCm (i:uo) (h:SV.dp i):y1z i:=by
 obtain⟨a0,a1,b0,b1,⟨ht,hp⟩,ho⟩:0<=i.a/\i.a<i.fh.length/\0<=i.b/\i.b<i.fh.length/\vU i.fh/\i.out.length<=1000:=h;obtain⟨x,hx⟩:=z6 (l:=i.fh) (i:=i.a.toNat) oM;obtain⟨y,hy⟩:=z6 (l:=i.fh) (i:=i.b.toNat) oM;obtain⟨⟨px1,px2⟩,px3,px4⟩:=hp x (ku hx);obtain⟨⟨py1,py2⟩,py3,py4⟩:=hp y (ku hy);have e0:xm i.fh ⟨i.a,2⟩ ⟨i.b,1⟩ i.less=if x.gl && y.gp && (if i.less then fA y.p1 x.p2 else fD x.p2 y.p1).2 then[⟨(if i.less then fA y.p1 x.p2 else fD x.p2 y.p1).1,min x.q2 y.q1,⟨i.a,2⟩,⟨i.b,1⟩⟩]else[]:=by
  simp only[xm,oc,hx,hy,zt];rfl
 unfold y1z YT Fb fa dx Qw tC dx Wi j6 j7 qP wA kT dI;simp only[gy];refine⟨⟨oM,oM⟩,x.gp,x.gl,x.p1,x.p2,x.q1,x.q2,ju hx (by simp[yB]) rfl,⟨oM,oM⟩,y.gp,y.gl,y.p1,y.p2,y.q1,y.q2,ju hy (by simp[yB]) rfl,?_⟩;rw[e0]
 (repeat'(first|exact rfl|exact trivial|assumption|apply az|refineλ(_:Unit) (_:True)=>?_|refine ay () ?_|omega|(dsimp only;omega)))
 all_goals
  refine Cv.dp.mk (λc1=> ?_) (λc1=>Cv.dp.mk (λc2=> ?_) (λc2=> ?_))
  ·have c1:x.gl=aw:=by simpa using c1
   simp only[c1,Da,oL,if_false,oJ];exact kp
  ·have c2:y.gp=aw:=by simpa using c2
   simp only[c2,JG,Da,oL,if_false,oJ];exact kp
  ·have c1:x.gl=ax:=by simpa using c1
   have c2:y.gp=ax:=by simpa using c2
   simp only[c1,c2,Ao,WI];refine⟨⟨x.p2,y.p1⟩,?_⟩
   (repeat'(first|exact rfl|exact trivial|assumption|apply az|refineλ(_:Unit) (_:True)=>?_|refine ay () ?_|omega|(dsimp only;omega)))
   refine Cv.dp.mk (λc3=> ?_) (λc3=> ?_)
   ·have c3:i.less=ax:=c3;simp only[c3,if_true];refine⟨⟨y.p1,x.p2⟩,?_⟩
    (repeat'(first|exact rfl|exact trivial|assumption|apply az|refineλ(_:Unit) (_:True)=>?_|refine ay () ?_|omega|(dsimp only;omega)))
    refine Cv.dp.mk (λc4=> ?_) (λc4=> ?_)
    ·have c4:(fA y.p1 x.p2).2=ax:=c4;simp only[c4,if_true,jl];exact kp
    ·have c4:(fA y.p1 x.p2).2=aw:=c4;simp only[c4,oL,if_false,oJ];exact kp
   ·have c3:i.less=aw:=c3;simp only[c3,oL,if_false];refine Cv.dp.mk (λc4=> ?_) (λc4=> ?_)
    ·have c4:(fD x.p2 y.p1).2=ax:=c4;simp only[c4,if_true,jl];exact kp
    ·have c4:(fD x.p2 y.p1).2=aw:=c4;simp only[c4,oL,if_false,oJ];exact kp
def yWf:SV.ok Tryz.prog 172:=gu mixed (dw Ww (dw WB fg)) 0 (λ_=>[]) (λ_=>[]) [] Tryz.func172 xCm
def xEq (i:uo) (h:SU.dp i):y2y i:=by
 obtain⟨a0,a1,b0,b1,⟨ht,hp⟩,ho⟩:0<=i.a/\i.a<i.fh.length/\0<=i.b/\i.b<i.fh.length/\vU i.fh/\i.out.length<=1000:=h;obtain⟨x,hx⟩:=z6 (l:=i.fh) (i:=i.a.toNat) oM;obtain⟨y,hy⟩:=z6 (l:=i.fh) (i:=i.b.toNat) oM;obtain⟨⟨px1,px2⟩,px3,px4⟩:=hp x (ku hx);obtain⟨⟨py1,py2⟩,py3,py4⟩:=hp y (ku hy);have e0:xm i.fh ⟨i.a,2⟩ ⟨i.b,2⟩ i.less=if x.gl && y.gl && (if i.less then fA y.p2 x.p2 else fD x.p2 y.p2).2 then[⟨(if i.less then fA y.p2 x.p2 else fD x.p2 y.p2).1,min x.q2 y.q2,⟨i.a,2⟩,⟨i.b,2⟩⟩]else[]:=by
  simp only[xm,oc,hx,hy,zt];rfl
 unfold y2y Zn Fb fa dx Qw rU dx VO j6 j7 qP wA kT dI;simp only[gy];refine⟨⟨oM,oM⟩,x.gp,x.gl,x.p1,x.p2,x.q1,x.q2,ju hx (by simp[yB]) rfl,⟨oM,oM⟩,y.gp,y.gl,y.p1,y.p2,y.q1,y.q2,ju hy (by simp[yB]) rfl,?_⟩;rw[e0]
 (repeat'(first|exact rfl|exact trivial|assumption|apply az|refineλ(_:Unit) (_:True)=>?_|refine ay () ?_|omega|(dsimp only;omega)))
 all_goals
  refine Cv.dp.mk (λc1=> ?_) (λc1=>Cv.dp.mk (λc2=> ?_) (λc2=> ?_))
  ·have c1:x.gl=aw:=by simpa using c1
   simp only[c1,Da,oL,if_false,oJ];exact kp
  ·have c2:y.gl=aw:=by simpa using c2
   simp only[c2,JG,Da,oL,if_false,oJ];exact kp
  ·have c1:x.gl=ax:=by simpa using c1
   have c2:y.gl=ax:=by simpa using c2
   simp only[c1,c2,Ao,WI];refine⟨⟨x.p2,y.p2⟩,?_⟩
   (repeat'(first|exact rfl|exact trivial|assumption|apply az|refineλ(_:Unit) (_:True)=>?_|refine ay () ?_|omega|(dsimp only;omega)))
   refine Cv.dp.mk (λc3=> ?_) (λc3=> ?_)
   ·have c3:i.less=ax:=c3;simp only[c3,if_true];refine⟨⟨y.p2,x.p2⟩,?_⟩
    (repeat'(first|exact rfl|exact trivial|assumption|apply az|refineλ(_:Unit) (_:True)=>?_|refine ay () ?_|omega|(dsimp only;omega)))
    refine Cv.dp.mk (λc4=> ?_) (λc4=> ?_)
    ·have c4:(fA y.p2 x.p2).2=ax:=c4;simp only[c4,if_true,jl];exact kp
    ·have c4:(fA y.p2 x.p2).2=aw:=c4;simp only[c4,oL,if_false,oJ];exact kp
   ·have c3:i.less=aw:=c3;simp only[c3,oL,if_false];refine Cv.dp.mk (λc4=> ?_) (λc4=> ?_)
    ·have c4:(fD x.p2 y.p2).2=ax:=c4;simp only[c4,if_true,jl];exact kp
    ·have c4:(fD x.p2 y.p2).2=aw:=c4;simp only[c4,oL,if_false,oJ];exact kp
def yZh:SU.ok Tryz.prog 172:=gu mixed (dw Ww (dw WB fg)) 0 (λ_=>[]) (λ_=>[]) [] Tryz.func172 xEq
structure F1 where
 i:uo
 sa:Bool
 sb:Bool
def MS:fy:=fi F1 (λj=>[.nm 0 0,.agg [zB j.i.a,zB (zE j.sa)],.agg [zB j.i.b,zB (zE j.sb)],yL j.i.less]) (λj=>Yh j.i.fh j.i.out)
 (λj=>0<=j.i.a/\j.i.a<j.i.fh.length/\0<=j.i.b/\j.i.b<j.i.fh.length/\vU j.i.fh/\j.i.out.length<=1000) (λ_=>pL) (λj=>MkP j.i.fh (j.i.out++xm j.i.fh ⟨j.i.a,zE j.sa⟩ ⟨j.i.b,zE j.sb⟩ j.i.less))
def z2t:MS.ok Tryz.prog 172:=λj=>match j with
 |⟨i,aw,aw⟩=>yWd i
 |⟨i,aw,ax⟩=>yWt i
 |⟨i,ax,aw⟩=>yWf i
 |⟨i,ax,ax⟩=>yZh i
structure cV where
 p:ff
 fh:List jv
 inst:Int
def jK (i:cV) (s:Int) (k:Nat):List Quote:=(af k).flatMap λ(k:Nat)=>xm i.fh ⟨(i.p.spread i.inst (i.inst+1+k)).1,s⟩ ⟨i.inst+1+k,s⟩ aw
def wH (i:cV) (s:Int) (k:Nat):List Quote:=(af k).flatMap λ(k:Nat)=>xm i.fh ⟨(i.p.spread k i.inst).1,3-s⟩ ⟨k,s⟩ ax
def yW (i:cV) (s:Int):List Quote:=xm i.fh ⟨(i.p.gj i.inst).2.1,3-s⟩ ⟨(i.p.gj i.inst).1,s⟩ ax
def aQ (i:cV) (s:Int) (q:Quote):Quote:={q with a:=⟨(i.p.gj i.inst).1,s⟩,b:=⟨(i.p.gj i.inst).2.1,3-s⟩}
def kX (i:cV) (s:Int):List Quote:=
 if i.p.count=0\/(i.fh.length:Int)≠i.p.count\/i.inst<0\/(i.p.count:Int)<=i.inst then[]
 else if(i.p.gj i.inst).2.2 then(yW i s).map (aQ i s)
 else jK i s (i.p.dt.length-(i.inst.toNat+1))++wH i s i.inst.toNat
def y2n (s:Int):fy:=fi cV (λi=>[nk i.p,ot 6 (i.fh.map yB),zB i.inst,zB s]) (λ_=>[]) (λi=>i.p.small/\vU i.fh) (λ_=> .own 0) (λi=>[.own 128 6 ((kX i s).map zL)])
def KX:fy:=y2n 1
def KW:fy:=y2n 2
def xBl (i:cV) (s:Int):List gm:=[
 {ι:=Nat,du:=λk=>[(10,.nm 0 0),(77,zB k)],rows:=λk=>(af 3).map (Bj (i.fh,((yW i s).take k).map (aQ i s)++(yW i s).drop k))},
 {ι:=Nat,du:=λk=>[(10,.nm 0 0),(17,zB (i.inst+1+k))],rows:=λk=>Yh i.fh (jK i s k)},
 {ι:=Nat,du:=λk=>[(10,.nm 0 0),(120,zB k)],rows:=λk=>Yh i.fh (jK i s (i.p.dt.length-(i.inst.toNat+1))++wH i s k)}]
structure Br where
 i:cV
 s:Bool
def aaZ:fy:=fi Br (λj=>[nk j.i.p,ot 6 (j.i.fh.map yB),zB j.i.inst,zB (zE j.s)]) (λ_=>[]) (λj=>j.i.p.small/\vU j.i.fh) (λ_=> .own 0) (λj=>[.own 128 6 ((kX j.i (zE j.s)).map zL)])
def xN (i:cV) (s:Int):List Quote:=(kX i s).filter λq=>decide (i.p.dm i.inst q.dm=0)
def DO:fy:=fi Br (λj=>[nk j.i.p,ot 6 (j.i.fh.map yB),zB j.i.inst,zB (zE j.s)]) (λ_=>[]) (λj=>j.i.p.small/\vU j.i.fh) (λ_=> .own 0) (λj=>[.own 128 6 ((xN j.i (zE j.s)).map zL)])
def yZg (j:Br):List gm:=[{ι:=Nat,du:=λk=>[(9,.own 0),(18,zB k)],rows:=λk=>[.own 128 6 ((((kX j.i (zE j.s)).take k).filter λq=>decide (j.i.p.dm j.i.inst q.dm=0)).map zL)]}]
structure zz where
 l:List Quote
 s:Int
def zZ (l:List Quote) (s:Int):Quote×Bool:=match l with
 |[]=>(y9b,aw)
 |q::r=>(r.foldl (λb q=>if je s q.dm b.dm then q else b) q,ax)
def GV:fy:=fi zz (λi=>[ot 6 (i.l.map zL),zB i.s]) (λ_=>[]) (λi=>(i.s=1\/i.s=2)/\i.l.length<=1000000) (λi=> .iZ [Wy (zZ i.l i.s).1,yL (zZ i.l i.s).2]) (λ_=>[])
def y9u (i:zz):List gm:=[{ι:=Nat,du:=λk=>[(6,.nm 0 0),(26,zB k)],rows:=λk=>[.cells (Wy (zZ (i.l.take (max k 1)) i.s).1).cl 128]}]
def mJ (a:cV):Prop:=am 6 (ab yB a.fh)=am 6 (ab yB a.fh)/\Bi a.p (dl (am 1 (iE a.p.dt)))
def VC (a:Nat->Prop) (b:Nat) (c:Nat->Nat) (d:Nat) (e:cV):Prop:=a b/\c b<c d/\dl (am 6 (ab yB e.fh))/\mJ e
def Vk (a:Nat->Prop) (b:Nat) (c:Nat->Nat) (d:Nat) (e:cV):Prop:=a b/\c b<c d/\mJ e
def gO (a:jv):Prop:=((-9223372036854775808)<=a.p1/\a.p1<=9223372036854775807)/\(-9223372036854775808)<=a.p2/\a.p2<=9223372036854775807
def dF (a:F1):Prop:=0<=a.i.a/\a.i.a<(↑a.i.fh.length:Int)/\0<=a.i.b/\a.i.b<(↑a.i.fh.length:Int)/\(a.i.fh.length<=1000000/\∀(b:jv),b∈a.i.fh->gO b)/\a.i.out.length<=1000
def hJ (a:F1):=(a.i.out++xm a.i.fh (Co.mk a.i.a (zE a.sa)) (Co.mk a.i.b (zE a.sb)) a.i.less)
def VK (a:Nat) (b:F1):=(decide ((↑a:Int)<(↑(ab zL (hJ b)).length:Int)))
def qQ (a:AX):Prop:=o7 a.p (a.p.settle.length<=1099511627776)
def j8 (a:aL):Prop:=o7 a.p (a.p.settle.length<=1099511627776)
def sB (a:cV) (b:Nat):=(ab (aQ a 1) (ae b (yW a 1))++ak b (yW a 1))
def V9 (a:cV) (b:Nat):=(ab zL (sB a b))
def sN (a:cV) (b:Nat):=(jK a 1 (a.p.dt.length-(a.inst.toNat+1))++wH a 1 b)
def uB (a:aL):=((a.p.gj a.n).snd.fst)
@[reducible] def OK (a:F1)(b:cV)(R:Prop):Prop:=a.i.less=ax/\am 6 (ab yB a.i.fh)=am 6 (ab yB b.fh)/\R
@[reducible] def X8 (a:uo)(b:aL)(c:Int)(R:Prop):Prop:=am 6 (ab yB a.fh)=am 6 (ab yB a.fh)/\ao [V.d (dI (uB b)),V.d (dI (3-c))] 125=ao [V.d (dI (uB b)),V.d (dI (3-c))] 125/\R
def y0p (i:cV):Prop:=
 ∃(a:ff),Qb a i.p ((zW a)/\fa (dp ((↑a.count:Int)==0) (dx (ab zL (kX i 1)=[]/\True)) (dp ((↑(ab yB i.fh).length:Int) !=(↑a.count:Int)) (dx (ab zL (kX i 1)=[]/\True)) (dp (decide (i.inst<0)) (dx (ab zL (kX i 1)=[]/\True)) (dp (decide (i.inst>=(↑a.count:Int))) (dx (ab zL (kX i 1)=[]/\True)) (∃(c:aL),Qb c.p i.p (c.n=i.inst/\(j8 c)/\fa (dp (c.p.gj c.n).snd.snd (∃(e:Int),e=1/\(e=1\/e=2)/\fa (∃(g:F1),g.i.a=(c.p.gj c.n).snd.fst/\zE g.sa=3-e/\g.i.b=(c.p.gj c.n).fst/\zE g.sb=1/\OK g i (ab zL g.i.out=[]/\(dF g)/\fa (∃(j:Nat),(↑j:Int)=0/\am 6 (ab yB i.fh)=am 6 (ab yB g.i.fh)/\ab zL (sB i j)=ab zL (hJ g)/\∃(k:Nat->Prop),∃(l:Nat->Nat),k j/\∀(m:Nat),k m->dp (VK m g) ((0<=(↑m:Int)/\(↑m:Int)<(↑(V9 i m).length:Int))/\(↑m:Int).toNat<(V9 i m).length/\∃(n:Nat),(↑n:Int)=av.wrap ((↑m:Int)+1)/\dl (am 6 (ab yB i.fh))/\ab zL (sB i n)=zJ (V9 i m) (↑m:Int).toNat 2 [dI ((c.p.gj c.n).fst),dI 1,dI (uB c),dI (3-e)]/\k n/\l n<l m/\X8 g.i c e (dl (ao [V.d (dI ((c.p.gj c.n).fst)),V.d (dI 1)] 125)/\mJ i)) (dx (ab zL (kX i 1)=ab zL (sB i m)/\True)))))) (∃(e:Nat),i.inst+1+(↑e:Int)=av.wrap (i.inst+1)/\dl (am 6 (ab yB i.fh))/\ab zL (jK i 1 e)=[]/\∃(f:Nat->Prop),∃(g:Nat->Nat),f e/\∀(h:Nat),f h->dp (decide (i.inst+1+(↑h:Int)<(↑(iE i.p.dt).length:Int))) (∃(j:AX),Qb j.p i.p (j.a=i.inst/\j.b=i.inst+1+(↑h:Int)/\(qQ j)/\fa (∃(l:F1),l.i.a=(j.p.spread j.a j.b).fst/\zE l.sa=1/\l.i.b=i.inst+1+(↑h:Int)/\zE l.sb=1/\l.i.less=aw/\am 6 (ab yB l.i.fh)=am 6 (ab yB i.fh)/\ab zL l.i.out=ab zL (jK i 1 h)/\(dF l)/\fa (∃(n:Nat),i.inst+1+(↑n:Int)=av.wrap (i.inst+1+(↑h:Int)+1)/\am 6 (ab yB i.fh)=am 6 (ab yB l.i.fh)/\ab zL (jK i 1 n)=ab zL (hJ l)/\Vk f n g h i)))) (∃(j:Nat),(↑j:Int)=0/\dl (am 6 (ab yB i.fh))/\ab zL (sN i j)=ab zL (jK i 1 h)/\∃(k:Nat->Prop),∃(l:Nat->Nat),k j/\∀(m:Nat),k m->dp (decide ((↑m:Int)<i.inst)) (∃(n:AX),Qb n.p i.p (n.a=(↑m:Int)/\n.b=i.inst/\(qQ n)/\fa (∃(q:Int),q=1/\(q=1\/q=2)/\fa (∃(s:F1),s.i.a=(n.p.spread n.a n.b).fst/\zE s.sa=3-q/\s.i.b=(↑m:Int)/\zE s.sb=1/\OK s i (ab zL s.i.out=ab zL (sN i m)/\(dF s)/\fa (∃(u:Nat),(↑u:Int)=av.wrap ((↑m:Int)+1)/\am 6 (ab yB i.fh)=am 6 (ab yB s.i.fh)/\ab zL (sN i u)=ab zL (hJ s)/\VC k u l m i)))))) (dx (ab zL (kX i 1)=ab zL (sN i m)/\True))))))))))))
def sH (a:cV) (b:Nat):=(ab (aQ a 2) (ae b (yW a 2))++ak b (yW a 2))
def VJ (a:cV) (b:Nat):=(ab zL (sH a b))
def rT (a:cV) (b:Nat):=(jK a 2 (a.p.dt.length-(a.inst.toNat+1))++wH a 2 b)
def y2b (i:cV):Prop:=
 ∃(a:ff),Qb a i.p ((zW a)/\fa (dp ((↑a.count:Int)==0) (dx (ab zL (kX i 2)=[]/\True)) (dp ((↑(ab yB i.fh).length:Int) !=(↑a.count:Int)) (dx (ab zL (kX i 2)=[]/\True)) (dp (decide (i.inst<0)) (dx (ab zL (kX i 2)=[]/\True)) (dp (decide (i.inst>=(↑a.count:Int))) (dx (ab zL (kX i 2)=[]/\True)) (∃(c:aL),Qb c.p i.p (c.n=i.inst/\(j8 c)/\fa (dp (c.p.gj c.n).snd.snd (∃(e:Int),e=2/\(e=1\/e=2)/\fa (∃(g:F1),g.i.a=(c.p.gj c.n).snd.fst/\zE g.sa=3-e/\g.i.b=(c.p.gj c.n).fst/\zE g.sb=2/\OK g i (ab zL g.i.out=[]/\(dF g)/\fa (∃(j:Nat),(↑j:Int)=0/\am 6 (ab yB i.fh)=am 6 (ab yB g.i.fh)/\ab zL (sH i j)=ab zL (hJ g)/\∃(k:Nat->Prop),∃(l:Nat->Nat),k j/\∀(m:Nat),k m->dp (VK m g) ((0<=(↑m:Int)/\(↑m:Int)<(↑(VJ i m).length:Int))/\(↑m:Int).toNat<(VJ i m).length/\∃(n:Nat),(↑n:Int)=av.wrap ((↑m:Int)+1)/\dl (am 6 (ab yB i.fh))/\ab zL (sH i n)=zJ (VJ i m) (↑m:Int).toNat 2 [dI ((c.p.gj c.n).fst),dI 2,dI (uB c),dI (3-e)]/\k n/\l n<l m/\X8 g.i c e (dl (ao [V.d (dI ((c.p.gj c.n).fst)),V.d (dI 2)] 125)/\mJ i)) (dx (ab zL (kX i 2)=ab zL (sH i m)/\True)))))) (∃(e:Nat),i.inst+1+(↑e:Int)=av.wrap (i.inst+1)/\dl (am 6 (ab yB i.fh))/\ab zL (jK i 2 e)=[]/\∃(f:Nat->Prop),∃(g:Nat->Nat),f e/\∀(h:Nat),f h->dp (decide (i.inst+1+(↑h:Int)<(↑(iE i.p.dt).length:Int))) (∃(j:AX),Qb j.p i.p (j.a=i.inst/\j.b=i.inst+1+(↑h:Int)/\(qQ j)/\fa (∃(l:F1),l.i.a=(j.p.spread j.a j.b).fst/\zE l.sa=2/\l.i.b=i.inst+1+(↑h:Int)/\zE l.sb=2/\l.i.less=aw/\am 6 (ab yB l.i.fh)=am 6 (ab yB i.fh)/\ab zL l.i.out=ab zL (jK i 2 h)/\(dF l)/\fa (∃(n:Nat),i.inst+1+(↑n:Int)=av.wrap (i.inst+1+(↑h:Int)+1)/\am 6 (ab yB i.fh)=am 6 (ab yB l.i.fh)/\ab zL (jK i 2 n)=ab zL (hJ l)/\Vk f n g h i)))) (∃(j:Nat),(↑j:Int)=0/\dl (am 6 (ab yB i.fh))/\ab zL (rT i j)=ab zL (jK i 2 h)/\∃(k:Nat->Prop),∃(l:Nat->Nat),k j/\∀(m:Nat),k m->dp (decide ((↑m:Int)<i.inst)) (∃(n:AX),Qb n.p i.p (n.a=(↑m:Int)/\n.b=i.inst/\(qQ n)/\fa (∃(q:Int),q=2/\(q=1\/q=2)/\fa (∃(s:F1),s.i.a=(n.p.spread n.a n.b).fst/\zE s.sa=3-q/\s.i.b=(↑m:Int)/\zE s.sb=2/\OK s i (ab zL s.i.out=ab zL (rT i m)/\(dF s)/\fa (∃(u:Nat),(↑u:Int)=av.wrap ((↑m:Int)+1)/\am 6 (ab yB i.fh)=am 6 (ab yB s.i.fh)/\ab zL (rT i u)=ab zL (hJ s)/\VC k u l m i)))))) (dx (ab zL (kX i 2)=ab zL (rT i m)/\True))))))))))))
def wD (a:Br):=(ab zL (kX a.i (zE a.s)))
def zGd (a:Nat->Prop) (b:Nat) (c:Nat->Nat) (d:Nat) (e:Br) (f:Br):Prop:=a b/\c b<c d/\dl (au 128 6 (wD e))/\Bi f.i.p (dl (am 1 (iE f.i.p.dt)))
def kJ (a:Br):Prop:=(o7 a.i.p (a.i.p.settle.length<=1099511627776))/\a.i.fh.length<=1000000/\∀(b:jv),b∈a.i.fh->gO b
def fZ (a:Br):=(↑(wD a).length:Int)
def yFy (j:Br):Prop:=
 ∃(a:Br),Qb a.i.p j.i.p (ab yB a.i.fh=ab yB j.i.fh/\a.i.inst=j.i.inst/\zE a.s=zE j.s/\(kJ a)/\fa (∃(c:Nat),(↑c:Int)=0/\ab zL (ag (λ(q:Sx.Quote) ↦ decide (j.i.p.dm j.i.inst q.dm=0)) (ae c (kX j.i (zE j.s))))=[]/\∃(d:Nat->Prop),∃(e:Nat->Nat),d c/\∀(f:Nat),d f->dp (decide ((↑f:Int)<(fZ a))) ((0<=(↑f:Int)/\(↑f:Int)<(fZ a))/\∃(g:Int),∃(h:Int),∃(k:Int),∃(l:Int),∃(m:Int),∃(n:Int),zD (wD a) (↑f:Int).toNat 0 6=ba [dI g,dI h,dI k,dI l,dI m,dI n]/\∃(p:AX),Qb p.p j.i.p (p.a=j.i.inst/\p.b=g/\(qQ p)/\∀(q:Unit),True->dp (p.p.dm p.a p.b==0) (((ab zL (ag (λ(q:Sx.Quote) ↦ decide (j.i.p.dm j.i.inst q.dm=0)) (ae f (kX j.i (zE j.s))))).length+1)*(48:Nat)<=(140737488355328:Nat)/\∃(r:Nat),(↑r:Int)=av.wrap ((↑f:Int)+1)/\ab zL (ag (λ(q:Sx.Quote) ↦ decide (j.i.p.dm j.i.inst q.dm=0)) (ae r (kX j.i (zE j.s))))=ab zL (ag (λ(q:Sx.Quote) ↦ decide (j.i.p.dm j.i.inst q.dm=0)) (ae f (kX j.i (zE j.s))))++[[dI g,dI h,dI k,dI l,dI m,dI n]]/\zGd d r e f a j) (∃(r:Nat),(↑r:Int)=av.wrap ((↑f:Int)+1)/\ab zL (ag (λ(q:Sx.Quote) ↦ decide (j.i.p.dm j.i.inst q.dm=0)) (ae r (kX j.i (zE j.s))))=ab zL (ag (λ(q:Sx.Quote) ↦ decide (j.i.p.dm j.i.inst q.dm=0)) (ae f (kX j.i (zE j.s))))/\zGd d r e f a j))) (dx (ab zL (xN j.i (zE j.s))=ab zL (ag (λ(q:Sx.Quote) ↦ decide (j.i.p.dm j.i.inst q.dm=0)) (ae f (kX j.i (zE j.s))))/\True))))
def zHd (a:Nat->Prop) (b:Nat) (c:Nat->Nat) (d:Nat):Prop:=a b/\c b<c d/\dl (ao (Sx.V.agg [V.d (dI 0),V.d (dI 0),V.d (dI 0),V.d (dI 0),V.d (dI 0),V.d (dI 0)]).cl 128)
def yI (a:Nat) (b:zz):=(zZ (ae (max a 1) b.l) b.s)
def uU (a:zz):=(↑(ab zL a.l).length:Int)
def zKu (a:zz):Prop:=((0:Int)<=(0:Int)/\0<(uU a))/\∃(b:Int),∃(c:Int),∃(d:Int),∃(e:Int),∃(f:Int),∃(g:Int),zD (ab zL a.l) (bv 0) 0 6=ba [dI b,dI c,dI d,dI e,dI f,dI g]/\∃(h:Nat),(↑h:Int)=0/\(yI h a).fst.dm=b/\(yI h a).fst.dr=c/\(yI h a).fst.a.inst=d/\(yI h a).fst.a.side=e/\(yI h a).fst.b.inst=f/\(yI h a).fst.b.side=g/\∃(j:Nat->Prop),∃(k:Nat->Nat),j h/\∀(l:Nat),j l->dp (decide ((↑l:Int)<(uU a))) ((0<=(↑l:Int)/\(↑l:Int)<(uU a))/\∃(m:Int),∃(n:Int),∃(p:Int),∃(q:Int),∃(r:Int),∃(s:Int),zD (ab zL a.l) (↑l:Int).toNat 0 6=ba [dI m,dI n,dI p,dI q,dI r,dI s]/\∃(t:Ej),t.side=a.s/\t.x=m/\t.y=(yI l a).fst.dm/\True/\fa (dp (je t.side t.x t.y) (∃(v:Nat),(↑v:Int)=av.wrap ((↑l:Int)+1)/\(yI v a).fst.dm=m/\(yI v a).fst.dr=n/\(yI v a).fst.a.inst=p/\(yI v a).fst.a.side=q/\(yI v a).fst.b.inst=r/\(yI v a).fst.b.side=s/\zHd j v k l) (∃(v:Nat),(↑v:Int)=av.wrap ((↑l:Int)+1)/\(yI v a).fst.dm=(yI l a).fst.dm/\(yI v a).fst.dr=(yI l a).fst.dr/\(yI v a).fst.a.inst=(yI l a).fst.a.inst/\(yI v a).fst.a.side=(yI l a).fst.a.side/\(yI v a).fst.b.inst=(yI l a).fst.b.inst/\(yI v a).fst.b.side=(yI l a).fst.b.side/\zHd j v k l))) (dx ((zZ a.l a.s).fst.dm=(yI l a).fst.dm/\(zZ a.l a.s).fst.dr=(yI l a).fst.dr/\(zZ a.l a.s).fst.a.inst=(yI l a).fst.a.inst/\(zZ a.l a.s).fst.a.side=(yI l a).fst.a.side/\(zZ a.l a.s).fst.b.inst=(yI l a).fst.b.inst/\(zZ a.l a.s).fst.b.side=(yI l a).fst.b.side/\(zZ a.l a.s).snd=ax/\True))
def zFn (a:zz):Prop:=dx ((zZ a.l a.s).fst.dm=0/\(zZ a.l a.s).fst.dr=0/\(zZ a.l a.s).fst.a.inst=0/\(zZ a.l a.s).fst.a.side=0/\(zZ a.l a.s).fst.b.inst=0/\(zZ a.l a.s).fst.b.side=0/\(zZ a.l a.s).snd=aw/\True)
def yMc (i:zz):Prop:=
 dp ((uU i)==0) (zFn i) (dp (i.s !=1) (dp (i.s !=2) (zFn i) (zKu i)) (zKu i))
end Sx
