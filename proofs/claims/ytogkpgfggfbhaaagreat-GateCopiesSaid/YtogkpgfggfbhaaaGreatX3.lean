/- Texts of ours, one behind the other: a walk that the kernel reckons, and contracts of functions. No condition. -/
import Derived.Laws.Externs
import Derived.LoopN
import Derived.MapKept
import Derived.Test.YtogkpgfggfbhaaaGreatX2
namespace Sx
set_option linter.unusedSimpArgs false
set_option linter.unusedVariables false
open Go Go.RowKit Cv
@[reducible] def NM:=List (Nat×Nat)
def z9 (p:Nat):NM→Option Nat
 |[]=>none
 |(q,n)::l=>bif Nat.beq q p then some n else z9 p l
def lEq:Value→Value→Prop
 | .int k a,.int k' b=>bif keq k k' then a=b else False
 | .bool a,.bool b=>a=b
 | .string a,.string b=>a=b
 | .pointer none,.pointer none=>True
 | .slice none 0 0,.slice none 0 0=>True
 | .map none,.map none=>True
 | .nilFunc,.nilFunc=>True
 | .nilIface,.nilIface=>True
 |_,_=>False
theorem z8f {x y:Value} (h:lEq x y):x=y:=by
 unfold lEq at h
 split at h<;>first|exact h.elim|rfl|(subst h;rfl)|skip
 obtain⟨hk,rfl⟩:=zO h
 rw[zLs hk]
def dEq:D→D→Prop
 | .v x,.v y=>lEq x y
 | .ro sz els,.ro sz' els'=>bif Nat.beq sz sz' then els=els' else False
 | .ro _ els,.v (.slice none 0 0)=>els=[]
 |_,_=>False
theorem yHg {F:PH} {p q:D} {y:Value} (h:dEq p q) (hq:DR F q y):DR F p y:=by
 unfold dEq at h
 split at h<;>first|exact h.elim|skip
 ·rw[z8f h];exact hq
 ·obtain⟨hb,rfl⟩:=zO h
  rw[yRh hb];exact hq
 ·subst h
  simp only[DR]at hq ⊢
  exact⟨none,0,hq.1,ySk _,by simp,.inl trivial⟩
def zMz (p n:Nat) (π:NM) (K:NM→Prop):Prop:=
 match z9 p π with
 |some m=>bif Nat.beq m n then K π else False
 |none=>K ((p,n)::π)
mutual
def mtV:V→V→NM→St→(NM→St→Prop)→Prop
 | .top,_,π,s,K=>K π s
 | .d p,a,π,s,K=>match a with
   | .d q=>dEq p q∧K π s
   | .own n=>match p with
     | .ro sz els=>match s.get n with
       |some (.own _ sz' els')=>bif Nat.beq sz sz' then els=els'∧K π (s.set n (.fro sz' els'))else False
       |some (.fro sz' els')=>bif Nat.beq sz sz' then els=els'∧K π s else False
       |_=>False
     |_=>False
   |_=>False
 | .nm p o,a,π,s,K=>match a with
   | .nm n o'=>bif Nat.beq o o' then zMz p n π fun π=>K π s else False
   |_=>False
 | .el p sz i f,a,π,s,K=>match a with
   | .el n sz' i' f'=>bif Nat.beq sz sz' && Nat.beq f f' then i=i'∧zMz p n π fun π=>K π s else False
   |_=>False
 | .own p,a,π,s,K=>match a with
   | .own n=>zMz p n π fun π=>K π s
   | .d (.v (.slice none 0 0))=>match z9 p π with
     |none=>K ((p,s.nx)::π) (s.new .nilo)
     |some _=>False
   |_=>False
 | .mp p,a,π,s,K=>match a with
   | .mp n=>zMz p n π fun π=>K π s
   |_=>False
 | .agg l,a,π,s,K=>match a with
   | .agg l'=>mtL l l' π s K
   |_=>False
 | .tup l,a,π,s,K=>match a with
   | .tup l'=>mtL l l' π s K
   |_=>False
 | .fn f x y,a,π,s,K=>match a with
   | .fn f' x' y'=>bif Nat.beq f f' then mtL x x' π s fun π s=>mtL y y' π s K else False
   |_=>False
 | .ifc t x,a,π,s,K=>match a with
   | .ifc t' x'=>bif Nat.beq t t' then mtV x x' π s K else False
   |_=>False
 |_,_,_,_,_=>False
def mtL:List V→List V→NM→St→(NM→St→Prop)→Prop
 |[],l,π,s,K=>match l with
  |[]=>K π s
  |_=>False
 |v::vs,l,π,s,K=>match l with
  |u::us=>mtV v u π s fun π s=>mtL vs us π s K
  |[]=>False
end
def Loc (π:NM) (tab tl:List Hd):Prop:=∀p n,z9 p π=some n→∃hd,tab[n]?=some hd∧tl[p]?=some hd
def Ext (π π':NM):Prop:=∀p n,z9 p π=some n→z9 p π'=some n
def WfM (π:NM) (tab:List Hd):Prop:=∀p n,z9 p π=some n→∃hd,tab[n]?=some hd
theorem Ext.refl (π:NM):Ext π π:=fun _ _ h=>h
theorem Ext.trans {a b c:NM} (h:Ext a b) (h':Ext b c):Ext a c:=fun p n e=>h' p n (h p n e)
theorem WfM.mono {π:NM} {E E':Ev} (h:WfM π E.tab) (hle:E.le E'):WfM π E'.tab:=fun p n e=>let⟨hd,q⟩:=h p n e;⟨hd,hle.get q⟩
def PV (E:Ev) (π:NM) (v:V) (y:Value):Prop:=∀E2 π2,E.le E2→Ext π π2→∀tl,Loc π2 E2.tab tl→VR ⟨E2.F,tl⟩ v y
def PVL (E:Ev) (π:NM) (v:List V) (y:List Value):Prop:=∀E2 π2,E.le E2→Ext π π2→∀tl,Loc π2 E2.tab tl→VRL ⟨E2.F,tl⟩ v y
theorem PV.mono {E E':Ev} {π π':NM} {v:V} {y:Value} (h:PV E π v y) (hle:E.le E') (hx:Ext π π'):PV E' π' v y:=fun E2 π2 a b tl c=>h E2 π2 (hle.trans a) (hx.trans b) tl c
theorem PVL.mono {E E':Ev} {π π':NM} {v:List V} {y:List Value} (h:PVL E π v y) (hle:E.le E') (hx:Ext π π'):PVL E' π' v y:=fun E2 π2 a b tl c=>h E2 π2 (hle.trans a) (hx.trans b) tl c
theorem sN {p n:Nat} {π:NM} {tab:List Hd} {K:NM→Prop} (h:zMz p n π K) (hw:WfM π tab) {hd:Hd} (hn:tab[n]? =some hd):∃π',Ext π π'∧WfM π' tab∧z9 p π'=some n∧K π':=by
 unfold zMz at h
 split at h
 ·rename_i m hm
  obtain⟨hb,hk⟩:=zO h
  have:=yRh hb
  subst this
  exact⟨π,Ext.refl _,hw,hm,hk⟩
 ·rename_i hm
  refine⟨_,fun q m e=> ?_,fun q m e=> ?_,by simp[z9],h⟩
  ·simp only[z9]
   cases hb:Nat.beq p q
   ·exact e
   ·have:=yRh hb
    subst this
    rw[hm]at e;cases e
  ·simp only[z9]at e
   cases hb:Nat.beq p q
   ·rw[hb]at e;exact hw q m e
   ·rw[hb]at e;cases e;exact⟨hd,hn⟩
variable {k:Ko} {L:List HP} {w:World}
structure MtOk (k:Ko) (L:List HP) (w:World) (E:Ev) (π:NM) (E':Ev) (π':NM) (s':St):Prop where
 le:E.le E'
 ext:Ext π π'
 wf:WfM π' E'.tab
 rel:Rel k L E' s' w
theorem MtOk.trans {E E1 E2:Ev} {π π1 π2:NM} {s1 s2:St} {L1 L2:List HP} (a:MtOk k L1 w E π E1 π1 s1) (b:MtOk k L2 w E1 π1 E2 π2 s2):MtOk k L2 w E π E2 π2 s2:=⟨a.le.trans b.le,a.ext.trans b.ext,b.wf,b.rel⟩
theorem Rel.newNil {E:Ev} {s:St} (R:Rel k L E s w):∃E',E.le E'∧Rel k L E' (s.new .nilo) w∧E'.tab[s.nx]? =some (.slice none 0 0,[]):=by
 have hle:E.le ⟨E.F,E.tab++[(.slice none 0 0,[])]⟩:=Ev.le.app _
 have hget:(E.tab++[((.slice none 0 0,[]):Hd)])[s.nx]? =some (.slice none 0 0,[]):=by rw[← R.nx];simp
 refine⟨_,hle,⟨by simp[St.new,R.nx],?_⟩,hget⟩
 have H2:=jM (fun r x=>rHP.mono hle r) R.hp
 have:=(@vS k w True _).2 ⟨trivial,H2⟩
 exact this.imp fun x hx=> .inr ⟨_,hget,by simp only[rowHP];exact⟨hx.2,trivial,trivial⟩⟩
mutual
theorem zVm:∀{v a:V} {π:NM} {s:St} {K:NM→St→Prop} {E:Ev} {y:Value},mtV v a π s K→Rel k L E s w→WfM π E.tab→VR E a y→∃E' π' s',MtOk k L w E π E' π' s'∧PV E' π' v y∧K π' s'
 | .top,a,π,s,K,E,y,h,R,hw,hv=>by
   simp only[mtV]at h
   exact⟨E,π,s,⟨Ev.le.refl _,Ext.refl _,hw,R⟩,fun _ _ _ _ _ _=>by simp only[VR],h⟩
 | .d p,a,π,s,K,E,y,h,R,hw,hv=>by
   simp only[mtV]at h
   split at h<;>first|exact h.elim|skip
   ·rename_i q
    obtain⟨h1,h⟩:=h
    simp only[VR]at hv
    exact⟨E,π,s,⟨Ev.le.refl _,Ext.refl _,hw,R⟩,fun E2 _ a _ _ _=>by simp only[VR];exact(yHg h1 hv).mono a.1,h⟩
   ·rename_i n
    split at h<;>first|exact h.elim|skip
    rename_i sz els
    split at h<;>first|exact h.elim|skip
    ·rename_i t sz' els' hg
     obtain⟨hb,rfl,hk⟩:=zO h
     have e:=yRh hb
     subst e
     obtain⟨E',q1,q2,q3,q4,q5⟩:=zAf R (v:= .own n) (d:= .ro sz els) (s':=s.set n (.fro sz els)) (by simp only[zWa,hg]) hv
     exact⟨E',π,_,⟨q1,Ext.refl _,by rw[q2];exact hw,q3⟩,fun E2 _ a _ _ _=>by simp only[VR];exact q5.mono a.1,hk⟩
    ·rename_i sz' els' hg
     obtain⟨hb,rfl,hk⟩:=zO h
     have e:=yRh hb
     subst e
     obtain⟨E',q1,q2,q3,q4,q5⟩:=zAf R (v:= .own n) (d:= .ro sz els) (s':=s) (by simp only[zWa,hg]) hv
     exact⟨E',π,_,⟨q1,Ext.refl _,by rw[q2];exact hw,q3⟩,fun E2 _ a _ _ _=>by simp only[VR];exact q5.mono a.1,hk⟩
 | .nm p o,a,π,s,K,E,y,h,R,hw,hv=>by
   simp only[mtV]at h
   split at h<;>first|exact h.elim|skip
   rename_i n o'
   obtain⟨hb,hk⟩:=zO h
   have e:=yRh hb
   subst e
   simp only[VR]at hv
   obtain⟨b,oo,l,h1,rfl⟩:=hv
   obtain⟨π',q1,q2,q3,q4⟩:=sN hk hw h1
   refine⟨E,π',s,⟨Ev.le.refl _,q1,q2,R⟩,fun E2 π2 a b' tl hl=> ?_,q4⟩
   simp only[VR]
   obtain⟨hd,e1,e2⟩:=hl p n (b' p n q3)
   rw[a.get h1]at e1;cases e1
   exact⟨b,oo,l,e2,rfl⟩
 | .el p sz i f,a,π,s,K,E,y,h,R,hw,hv=>by
   simp only[mtV]at h
   split at h<;>first|exact h.elim|skip
   rename_i n sz' i' f'
   obtain⟨hb,rfl,hk⟩:=zO h
   simp only[yRq]at hb
   have e:=yRh hb.1
   subst e
   have e:=yRh hb.2
   subst e
   simp only[VR]at hv
   obtain⟨b,oo,m,c,l,h1,rfl⟩:=hv
   obtain⟨π',q1,q2,q3,q4⟩:=sN hk hw h1
   refine⟨E,π',s,⟨Ev.le.refl _,q1,q2,R⟩,fun E2 π2 a b' tl hl=> ?_,q4⟩
   simp only[VR]
   obtain⟨hd,e1,e2⟩:=hl p n (b' p n q3)
   rw[a.get h1]at e1;cases e1
   exact⟨b,oo,m,c,l,e2,rfl⟩
 | .own p,a,π,s,K,E,y,h,R,hw,hv=>by
   simp only[mtV]at h
   split at h<;>first|exact h.elim|skip
   ·rename_i n
    simp only[VR]at hv
    obtain⟨l,h1,h2⟩:=hv
    obtain⟨π',q1,q2,q3,q4⟩:=sN h hw h1
    refine⟨E,π',s,⟨Ev.le.refl _,q1,q2,R⟩,fun E2 π2 a b' tl hl=> ?_,q4⟩
    simp only[VR]
    obtain⟨hd,e1,e2⟩:=hl p n (b' p n q3)
    rw[a.get h1]at e1;cases e1
    exact⟨l,e2,h2⟩
   ·split at h<;>first|exact h.elim|skip
    rename_i hm
    obtain⟨E',q1,q2,q3⟩:=R.newNil
    simp only[VR,DR]at hv
    obtain⟨rfl,_⟩:=hv
    have hpl:z9 p ((p,s.nx)::π)=some s.nx:=by simp[z9]
    refine⟨E',_,_,⟨q1,fun q m e=> ?_,fun q m e=> ?_,q2⟩,fun E2 π2 a b' tl hl=> ?_,h⟩
    ·simp only[z9]
     cases hb:Nat.beq p q
     ·exact e
     ·have:=yRh hb
      subst this
      rw[hm]at e;cases e
    ·simp only[z9]at e
     cases hb:Nat.beq p q
     ·rw[hb]at e;obtain⟨hd,h'⟩:=hw q m e;exact⟨hd,q1.get h'⟩
     ·rw[hb]at e;cases e;exact⟨_,q3⟩
    ·simp only[VR]
     obtain⟨hd,e1,e2⟩:=hl p _ (b' p _ hpl)
     rw[a.get q3]at e1;cases e1
     exact⟨[],e2,_,_,_,rfl⟩
 | .mp p,a,π,s,K,E,y,h,R,hw,hv=>by
   simp only[mtV]at h
   split at h<;>first|exact h.elim|skip
   rename_i n
   simp only[VR]at hv
   obtain⟨b,l,h1,h2⟩:=hv
   obtain⟨π',q1,q2,q3,q4⟩:=sN h hw h1
   refine⟨E,π',s,⟨Ev.le.refl _,q1,q2,R⟩,fun E2 π2 a b' tl hl=> ?_,q4⟩
   simp only[VR]
   obtain⟨hd,e1,e2⟩:=hl p n (b' p n q3)
   rw[a.get h1]at e1;cases e1
   exact⟨b,l,e2,h2⟩
 | .agg l,a,π,s,K,E,y,h,R,hw,hv=>by
   simp only[mtV]at h
   split at h<;>first|exact h.elim|skip
   simp only[VR]at hv
   obtain⟨ys,rfl,hv⟩:=hv
   obtain⟨E',π',s',q1,q2,q3⟩:=pM h R hw hv
   exact⟨E',π',s',q1,fun E2 π2 a b tl c=>by simp only[VR];exact⟨ys,rfl,q2 E2 π2 a b tl c⟩,q3⟩
 | .tup l,a,π,s,K,E,y,h,R,hw,hv=>by
   simp only[mtV]at h
   split at h<;>first|exact h.elim|skip
   simp only[VR]at hv
   obtain⟨ys,rfl,hv⟩:=hv
   obtain⟨E',π',s',q1,q2,q3⟩:=pM h R hw hv
   exact⟨E',π',s',q1,fun E2 π2 a b tl c=>by simp only[VR];exact⟨ys,rfl,q2 E2 π2 a b tl c⟩,q3⟩
 | .fn f x z,a,π,s,K,E,y,h,R,hw,hv=>by
   simp only[mtV]at h
   split at h<;>first|exact h.elim|skip
   rename_i f' x' z'
   obtain⟨hb,hk⟩:=zO h
   have e:=yRh hb
   subst e
   simp only[VR]at hv
   obtain⟨as,bs,rfl,h1,h2⟩:=hv
   obtain⟨E',π',s',q1,q2,q3⟩:=pM hk R hw h1
   obtain⟨E2,π2,s2,r1,r2,r3⟩:=pM q3 q1.rel q1.wf (h2.mono q1.le)
   exact⟨E2,π2,s2,q1.trans r1,fun E3 π3 a b tl c=>by simp only[VR];exact⟨as,bs,rfl,q2.mono r1.le r1.ext E3 π3 a b tl c,r2 E3 π3 a b tl c⟩,r3⟩
 | .ifc t x,a,π,s,K,E,y,h,R,hw,hv=>by
   simp only[mtV]at h
   split at h<;>first|exact h.elim|skip
   rename_i t' x'
   obtain⟨hb,hk⟩:=zO h
   have e:=yRh hb
   subst e
   simp only[VR]at hv
   obtain⟨z,rfl,h1⟩:=hv
   obtain⟨E',π',s',q1,q2,q3⟩:=zVm hk R hw h1
   exact⟨E',π',s',q1,fun E3 π3 a b tl c=>by simp only[VR];exact⟨z,rfl,q2 E3 π3 a b tl c⟩,q3⟩
 | .re sz els i f,a,π,s,K,E,y,h,R,hw,hv=>by simp only[mtV]at h
 | .sub n i,a,π,s,K,E,y,h,R,hw,hv=>by simp only[mtV]at h
theorem pM:∀{v a:List V} {π:NM} {s:St} {K:NM→St→Prop} {E:Ev} {y:List Value},mtL v a π s K→Rel k L E s w→WfM π E.tab→VRL E a y→∃E' π' s',MtOk k L w E π E' π' s'∧PVL E' π' v y∧K π' s'
 |[],a,π,s,K,E,y,h,R,hw,hv=>by
  simp only[mtL]at h
  split at h<;>first|exact h.elim|skip
  simp only[VRL]at hv
  exact⟨E,π,s,⟨Ev.le.refl _,Ext.refl _,hw,R⟩,fun _ _ _ _ _ _=>by simpa only[VRL]using hv,h⟩
 |v::vs,a,π,s,K,E,y,h,R,hw,hv=>by
  simp only[mtL]at h
  split at h<;>first|exact h.elim|skip
  simp only[VRL]at hv
  obtain⟨x,xs,rfl,h1,h2⟩:=hv
  obtain⟨E',π',s',q1,q2,q3⟩:=zVm h R hw h1
  obtain⟨E2,π2,s2,r1,r2,r3⟩:=pM q3 q1.rel q1.wf (h2.mono q1.le)
  exact⟨E2,π2,s2,q1.trans r1,fun E3 π3 a b tl c=>by simp only[VRL];exact⟨_,_,rfl,q2.mono r1.le r1.ext E3 π3 a b tl c,r2 E3 π3 a b tl c⟩,r3⟩
end
mutual
def pI (π:NM):V→V
 | .top=> .top
 | .d d=> .d d
 | .nm n o=>match z9 n π with
   |some m=> .nm m o
   |none=> .top
 | .el n sz i f=>match z9 n π with
   |some m=> .el m sz i f
   |none=> .top
 | .re sz els i f=> .re sz els i f
 | .na _ _ _=> .top
 | .own n=>match z9 n π with
   |some m=> .own m
   |none=> .top
 | .mp n=>match z9 n π with
   |some m=> .mp m
   |none=> .top
 | .sub n i=>match z9 n π with
   |some m=> .sub m i
   |none=> .top
 | .agg l=> .agg (jX π l)
 | .tup l=> .tup (jX π l)
 | .fn f a b=> .fn f (jX π a) (jX π b)
 | .ifc t x=> .ifc t (pI π x)
def jX (π:NM):List V→List V
 |[]=>[]
 |v::l=>pI π v::jX π l
end
def zFh (π:NM):AObj→AObj
 | .cells vs t=> .cells (jX π vs) t
 |o=>o
def zAi (unf:Nat→AObj) (π:NM) (nx:Nat):List Nat→List (Nat×AObj)
 |[]=>[]
 |j::js=>(nx+j,zFh π (unf (j+1)))::zAi unf π nx js
def qR (n nx m:Nat):NM:=(0,n)::(List.range (m-1)).map fun j=>(j+1,nx+j)
def zIt (s:St) (n m:Nat) (unf:Nat→AObj):AObj×St:=
 (zFh (qR n s.nx m) (unf 0),⟨zAi unf (qR n s.nx m) s.nx (List.range (m-1))++s.rows,s.nx+(m-1)⟩)
def St.getg (s:St) (n:Nat):Option AObj:=
 match s.get n with
 |some .gone=>none
 |o=>o
theorem sU {s:St} {n:Nat} {o:AObj} (h:s.getg n=some o):s.get n=some o∧o≠.gone:=by
 unfold St.getg at h
 split at h
 ·cases h
 ·rename_i hne
  exact⟨h,fun e=>hne (e▸h)⟩
def nX (m:Nat):NM→Bool
 |[]=>true
 |(p,_)::l=>bif Nat.blt p m then nX m l else false
theorem dV {m:Nat}:∀{π:NM},nX m π=true→∀p n,z9 p π=some n→p<m
 |[],h,p,n,e=>by cases e
 |(q,r)::l,h,p,n,e=>by
  simp only[nX]at h
  cases hb:Nat.blt q m
  ·rw[hb]at h;cases h
  ·rw[hb]at h
   simp only[z9]at e
   cases hq:Nat.beq q p
   ·rw[hq]at e;exact dV h p n e
   ·have:=yRh hq
    subst this
    simpa[yUb]using hb
def zQk (f:Nat→NM→St→(NM→St→Prop)→Prop):List Nat→NM→St→(NM→St→Prop)→Prop
 |[],π,s,K=>K π s
 |j::js,π,s,K=>f j π s fun π s=>zQk f js π s K
def mtO:AObj→Nat→AObj→NM→St→(NM→St→Prop)→Prop
 | .gone,_,_,π,s,K=>K π s
 | .cells vs t,n,o,π,s,K=>match o with
   | .cells vs' t'=>bif Nat.beq t t' then mtL vs vs' π s K else False
   | .adt T m unf x=>bif Nat.ble 1 m then(match zIt s n m (unf x)with
     |(.cells vs' t',s')=>bif Nat.beq t t' then mtL vs vs' π s' K else False
     |_=>False)else False
   |_=>False
 | .own t sz els,n,o,π,s,K=>match o with
   | .own t' sz' els'=>bif Nat.beq t t' && Nat.beq sz sz' then els=els'∧K π s else False
   | .nilo=>els=[]∧K π s
   |_=>False
 | .vec ds t,n,o,π,s,K=>match o with
   | .cells vs t'=>bif Nat.beq t t' then ds.map V.d=vs∧K π s else False
   |o=>AObj.vec ds t=o∧K π s
 | .map es,n,o,π,s,K=>match o with
   | .map es'=>es=es'∧K π s
   |_=>False
 | .iter b p,n,o,π,s,K=>match o with
   | .iter b' p'=>b=b'∧p=p'∧K π s
   |_=>False
 | .adt T m unf x,n,o,π,s,K=>match o with
   | .cells vs t=>bif Nat.ble 1 m then zQk (fun j π s K=>match z9 j π with
      |some n'=>match(match j with|0=>some (AObj.cells vs t)|_=>s.getg n')with
       |some o'=>mtO (unf x j) n' o' π (match j with|0=>s|_=>s.delF n' o') K
       |none=>False
      |none=>False) (List.range m) [(0,n)] s (fun π' s=>bif nX m π' then K π s else False)else False
   |o=>AObj.adt T m unf x=o∧K π s
 | .fro sz els,n,o,π,s,K=>match o with
   | .own t sz' els'=>bif Nat.beq sz sz' then els=els'∧K π s else False
   |o=>AObj.fro sz els=o∧K π s
 | .objs t T m unf l hole,n,o,π,s,K=>match o with
   | .nilo=>l=[]∧hole=none∧K π s
   |o=>AObj.objs t T m unf l hole=o∧K π s
 |o',n,o,π,s,K=>o'=o∧K π s
def mtR:Nat→List AObj→NM→St→(NM→St→Prop)→Prop
 |_,[],π,s,K=>K π s
 |p,.gone::os,π,s,K=>mtR (p+1) os π s K
 |p,o::os,π,s,K=>match z9 p π with
  |some n=>match s.getg n with
   |some o'=>mtO o n o' π (s.delF n o') fun π s=>mtR (p+1) os π s K
   |none=>False
  |none=>False
open Go Go.RowKit Cv
variable {k:Ko} {L:List HP} {w:World}
def PRow (E:Ev) (π:NM) (n:Nat) (o:AObj):HP:=fun h=>∀E2 π2,E.le E2→Ext π π2→∀tl,Loc π2 E2.tab tl→∃hd,E2.tab[n]? =some hd∧rowHP E2.F o tl hd h
theorem PRow.mono {E E':Ev} {π π':NM} (hle:E.le E') (hx:Ext π π') {n:Nat} {o:AObj} {h:PH} (e:PRow E π n o h):PRow E' π' n o h:=fun E2 π2 a b tl c=>e E2 π2 (hle.trans a) (hx.trans b) tl c
def z1a:AObj→Bool
 | .cells _ _=>true
 |_=>false
theorem rowHP.tab {F:PH} {o:AObj} (ho:z1a o=false) {tab tab':List Hd} {hd:Hd} {h:PH} (e:rowHP F o tab hd h):rowHP F o tab' hd h:=by
 cases o<;>first|(cases ho;done)|(simp only[rowHP]at e ⊢;exact e)
theorem uK {E:Ev} {π:NM} {n:Nat} {o:AObj} (ho:z1a o=false) (hg:o≠.gone) {h:PH} (e:rHP E (n,o) h):PRow E π n o h:=by
 rcases e with⟨e,_⟩|⟨hd,h1,h2⟩
 ·exact absurd e hg
 ·intro E2 π2 a b tl c
  exact⟨hd,a.get h1,(h2.mono a.1 _ a.2).tab ho⟩
mutual
theorem VR.ren {π:NM} {F:PH} {tl tab:List Hd} (hr:∀p n hd,z9 p π=some n→tl[p]? =some hd→tab[n]? =some hd):∀{v:V} {y:Value},VR ⟨F,tl⟩ v y→VR ⟨F,tab⟩ (pI π v) y
 | .top,y,h=>by simp only[pI,VR]
 | .d d,y,h=>by simpa only[pI,VR]using h
 | .nm n o,y,h=>by
   simp only[pI]
   split
   ·rename_i m hm
    simp only[VR]at h ⊢
    obtain⟨b,oo,l,h1,h2⟩:=h
    exact⟨b,oo,l,hr _ _ _ hm h1,h2⟩
   ·simp only[VR]
 | .el n sz i f,y,h=>by
   simp only[pI]
   split
   ·rename_i m hm
    simp only[VR]at h ⊢
    obtain⟨b,oo,mm,c,l,h1,h2⟩:=h
    exact⟨b,oo,mm,c,l,hr _ _ _ hm h1,h2⟩
   ·simp only[VR]
 | .re sz els i f,y,h=>by simpa only[pI,VR]using h
 | .na n o i,y,h=>by simp only[pI,VR]
 | .own n,y,h=>by
   simp only[pI]
   split
   ·rename_i m hm
    simp only[VR]at h ⊢
    obtain⟨l,h1,h2⟩:=h
    exact⟨l,hr _ _ _ hm h1,h2⟩
   ·simp only[VR]
 | .mp n,y,h=>by
   simp only[pI]
   split
   ·rename_i m hm
    simp only[VR]at h ⊢
    obtain⟨b,l,h1,h2⟩:=h
    exact⟨b,l,hr _ _ _ hm h1,h2⟩
   ·simp only[VR]
 | .sub n i,y,h=>by
   simp only[pI]
   split
   ·rename_i m hm
    simp only[VR]at h ⊢
    obtain⟨hd,l,b,oo,h1,h2⟩:=h
    exact⟨hd,l,b,oo,hr _ _ _ hm h1,h2⟩
   ·simp only[VR]
 | .agg l,y,h=>by
   simp only[pI,VR]at h ⊢
   obtain⟨ys,h1,h2⟩:=h
   exact⟨ys,h1,VRL.ren hr h2⟩
 | .tup l,y,h=>by
   simp only[pI,VR]at h ⊢
   obtain⟨ys,h1,h2⟩:=h
   exact⟨ys,h1,VRL.ren hr h2⟩
 | .fn f a b,y,h=>by
   simp only[pI,VR]at h ⊢
   obtain⟨as,bs,h1,h2,h3⟩:=h
   exact⟨as,bs,h1,VRL.ren hr h2,VRL.ren hr h3⟩
 | .ifc t x,y,h=>by
   simp only[pI,VR]at h ⊢
   obtain⟨z,h1,h2⟩:=h
   exact⟨z,h1,VR.ren hr h2⟩
theorem VRL.ren {π:NM} {F:PH} {tl tab:List Hd} (hr:∀p n hd,z9 p π=some n→tl[p]? =some hd→tab[n]? =some hd):∀{vs:List V} {l:List Value},VRL ⟨F,tl⟩ vs l→VRL ⟨F,tab⟩ (jX π vs) l
 |[],l,h=>by simpa only[jX,VRL]using h
 |v::vs,l,h=>by
  simp only[jX,VRL]at h ⊢
  obtain⟨x,xs,h1,h2,h3⟩:=h
  exact⟨x,xs,h1,VR.ren hr h2,VRL.ren hr h3⟩
end
theorem rowHP.ren {π:NM} {F:PH} {tl tab:List Hd} (hr:∀p n hd,z9 p π=some n→tl[p]? =some hd→tab[n]? =some hd) {o:AObj} {hd:Hd} {h:PH} (e:rowHP F o tl hd h):rowHP F (zFh π o) tab hd h:=by
 cases o<;>simp only[zFh]<;>first|exact e.tab rfl|skip
 simp only[rowHP]at e ⊢
 obtain⟨b,l,h1,h2,h3⟩:=e
 exact⟨b,l,h1,h2.ren hr,h3⟩
theorem z2x {n nx m j:Nat} (hj:j+1<m):z9 (j+1) (qR n nx m)=some (nx+j):=by
 unfold qR
 simp only[z9,Nat.beq,cond_false]
 have:∀(a c:Nat),a≤j→j<a+c→z9 (j+1) ((List.range' a c).map fun j=>(j+1,nx+j))=some (nx+j):=by
  intro a c
  induction c generalizing a with
  |zero=>intro h1 h2;omega
  |succ c ih=>
   intro h1 h2
   simp only[List.range'_succ,yRs,z9]
   cases hb:Nat.beq (a+1) (j+1)
   ·have hne:a≠j:=fun e=>by subst e;simp at hb
    exact ih (a+1) (by omega) (by omega)
   ·have:=yRh hb
    have e:a=j:=by omega
    subst e;rfl
 rw[List.range_eq_range']
 exact this 0 (m-1) (by omega) (by omega)
theorem zKm {n nx m p q:Nat} (h:z9 p (qR n nx m)=some q):(p=0∧q=n)∨∃j,p=j+1∧q=nx+j∧j+1<m:=by
 unfold qR at h
 simp only[z9]at h
 cases hb:Nat.beq 0 p
 ·rw[hb]at h
  right
  simp only[cond_false]at h
  rw[List.range_eq_range']at h
  have:∀(a c:Nat),z9 p ((List.range' a c).map fun j=>(j+1,nx+j))=some q→∃j,p=j+1∧q=nx+j∧j<a+c:=by
   intro a c
   induction c generalizing a with
   |zero=>intro h;simp[z9]at h
   |succ c ih=>
    intro h
    simp only[List.range'_succ,yRs,z9]at h
    cases hb:Nat.beq (a+1) p
    ·rw[hb]at h
     obtain⟨j,h1,h2,h3⟩:=ih (a+1) h
     exact⟨j,h1,h2,by omega⟩
    ·rw[hb]at h
     simp only[cond_true,Option.some.injEq]at h
     exact⟨a,(yRh hb).symm,h.symm,by omega⟩
  obtain⟨j,h1,h2,h3⟩:=this 0 (m-1) h
  exact⟨j,h1,h2,by omega⟩
 ·rw[hb]at h
  left
  simp only[cond_true,Option.some.injEq]at h
  exact⟨(yRh hb).symm,h.symm⟩
theorem Rel.unfold {E:Ev} {s:St} {n m:Nat} {T:Type} {unf:T→Nat→AObj} {x:T} (R:Rel k (rHP E (n,.adt T m unf x)::L) E s w) (hm:1≤m):
 ∃E',E.le E'∧Rel k (rHP E' (n,(zIt s n m (unf x)).1)::L) E' (zIt s n m (unf x)).2 w:=by
 have H:=R.out
 obtain⟨hd,tab1,h1,h2,h3,H⟩:∃hd tab1,E.tab[n]? =some hd∧tab1[0]? =some hd∧tab1.length=m∧
  Hp k w (hS ((List.range m).map fun j=>fun h=>∃hd',tab1[j]? =some hd'∧rowHP E.F (unf x j) tab1 hd' h)::(s.rows.map (rHP E)++fz E.F::L)):=by
  obtain⟨hk,hs,hh⟩:=H
  cases hh with
  |cons ha hsub hdj hr=>
   rcases ha with⟨e,_⟩|⟨hd,q1,q2⟩
   ·cases e
   ·simp only[rowHP]at q2
    obtain⟨tab1,q3,q4,q5⟩:=q2
    exact⟨hd,tab1,q1,q3,q4,hk,_,.cons q5 hsub hdj hr⟩
 let E':Ev:=⟨E.F,E.tab++tab1.drop 1⟩
 have hle:E.le E':=⟨FLe.refl _,yUs _ _⟩
 have hren:∀p q hd',z9 p (qR n s.nx m)=some q→tab1[p]? =some hd'→E'.tab[q]? =some hd':=by
  intro p q hd' hp ht
  rcases zKm hp with⟨rfl,rfl⟩|⟨j,rfl,rfl,hj⟩
  ·rw[h2]at ht;cases ht
   exact hle.get h1
  ·show(E.tab++tab1.drop 1)[s.nx+j]? =some hd'
   rw[← R.nx,yTj (by omega),yUa]
   rw[show E.tab.length+j-E.tab.length=j by omega,yWk]
   exact ht
 have H2:=(hp_star.1 H)
 have hrange:List.range m=0::(List.range (m-1)).map (·+1):=by
  have:m=(m-1)+1:=by omega
  rw[this,List.range_succ_eq_map]
  simp
 rw[hrange]at H2
 simp only[yRs,yTl,ySv]at H2
 refine⟨E',hle,Rel.inn (by show(E.tab++tab1.drop 1).length=s.nx+(m-1);rw[yRi,ySb,R.nx,h3]) ?_⟩
 have hrows:∀l:List Nat,(∀j∈l,j+1<m)→(zAi (unf x) (qR n s.nx m) s.nx l)=l.map fun j=>(s.nx+j,zFh (qR n s.nx m) (unf x (j+1))):=by
  intro l
  induction l with
  |nil=>intro _;rfl
  |cons j l ih=>intro h;simp only[zAi,yRs];rw[ih fun j hj=>h j (yRk _ hj)]
 have hr2:=hrows (List.range (m-1)) (fun j hj=>by have:=yUg.1 hj;omega)
 show Hp k w (rHP E' (n,zFh (qR n s.nx m) (unf x 0))::((zAi (unf x) (qR n s.nx m) s.nx (List.range (m-1))++s.rows).map (rHP E')++fz E.F::L))
 rw[hr2,yRm,yTl,yRn]
 have H3:Hp k w ((List.range (m-1)).map ((fun j=>fun h=>∃hd',tab1[j]? =some hd'∧rowHP E.F (unf x j) tab1 hd' h)∘(·+1))++((fun h=>∃hd',tab1[0]? =some hd'∧rowHP E.F (unf x 0) tab1 hd' h)::(s.rows.map (rHP E)++fz E.F::L))):=H2.perm yRr.symm
 have H4:=jM (g:=(rHP E')∘fun j=>(s.nx+j,zFh (qR n s.nx m) (unf x (j+1)))) (fun j y hy=>by
  obtain⟨hd',e1,e2⟩:=hy
  right
  have hj:j+1<m:=by
   have:=(yRf.1 e1).1
   simp only at this;omega
  exact⟨hd',hren _ _ _ (z2x hj) e1,e2.ren hren⟩) H3
 have H5:=H4.perm yRr
 have H6:=H5.imp (B:=rHP E' (n,zFh (qR n s.nx m) (unf x 0))) (fun y hy=>by
  obtain⟨hd',e1,e2⟩:=hy
  right
  rw[h2]at e1;cases e1
  exact⟨hd,hle.get h1,e2.ren hren⟩)
 have H7:Hp k w (s.rows.map (rHP E)++(rHP E' (n,zFh (qR n s.nx m) (unf x 0))::((List.range (m-1)).map ((rHP E')∘fun j=>(s.nx+j,zFh (qR n s.nx m) (unf x (j+1))))++fz E.F::L))):=by
  refine H6.perm ?_
  refine List.Perm.trans ?_ yRr.symm
  refine .cons _ ?_
  rw[← yRn,← yRn]
  exact yTc.append_right _
 have H8:=jM (fun r y=>rHP.mono hle r) H7
 refine H8.perm ?_
 refine yRr.trans (.cons _ ?_)
 rw[← yRn,← yRn]
 exact yTc.append_right _
theorem z1v {n p q:Nat} (h:z9 p [(0,n)]=some q):p=0∧q=n:=by
 simp only[z9]at h
 cases hb:Nat.beq 0 p
 ·rw[hb]at h;cases h
 ·rw[hb]at h
  simp only[cond_true,Option.some.injEq]at h
  exact⟨(yRh hb).symm,h.symm⟩
def yFz (o':AObj):Prop:=∀{k:Ko} {L:List HP} {w:World} {n:Nat} {o:AObj} {π:NM} {s:St} {K:NM→St→Prop} {E:Ev},mtO o' n o π s K→Rel k (rHP E (n,o)::L) E s w→WfM π E.tab→o≠.gone→
 ∃E' π' s',MtOk k (PRow E' π' n o'::L) w E π E' π' s'∧K π' s'
def PJ (g:Nat→AObj) (E:Ev) (π:NM) (j:Nat):HP:=fun h=>∃n,z9 j π=some n∧PRow E π n (g j) h
theorem PJ.mono {g:Nat→AObj} {E E':Ev} {π π':NM} (hle:E.le E') (hx:Ext π π') {j:Nat} {h:PH} (e:PJ g E π j h):PJ g E' π' j h:=by
 obtain⟨n,h1,h2⟩:=e
 exact⟨n,hx _ _ h1,h2.mono hle hx⟩
theorem Rel.mapL {α:Type} {f g:α→HP} (h:∀a x,f a x→g a x) {l:List α} {E:Ev} {s:St} (R:Rel k (l.map f++L) E s w):Rel k (l.map g++L) E s w:=by
 refine⟨R.nx,?_⟩
 have H:Hp k w (l.map f++(s.rows.map (rHP E)++fz E.F::L)):=by
  refine R.hp.perm ?_
  rw[show s.rows.map (rHP E)++fz E.F::(l.map f++L)=(s.rows.map (rHP E)++[fz E.F])++(l.map f++L)by simp,← yRn,show l.map f++(s.rows.map (rHP E)++fz E.F::L)=(l.map f++(s.rows.map (rHP E)++[fz E.F]))++L by simp]
  exact yTc.append_right _
 have H2:=jM h H
 refine H2.perm ?_
 rw[show s.rows.map (rHP E)++fz E.F::(l.map g++L)=((s.rows.map (rHP E)++[fz E.F])++l.map g)++L by simp,show l.map g++(s.rows.map (rHP E)++fz E.F::L)=(l.map g++(s.rows.map (rHP E)++[fz E.F]))++L by simp]
 exact yTc.append_right _
theorem Rel.frontL {E:Ev} {s:St} {A:List HP} (R:Rel k (A++L) E s w):Hp k w (A++(s.rows.map (rHP E)++fz E.F::L)):=by
 refine R.hp.perm ?_
 rw[show s.rows.map (rHP E)++fz E.F::(A++L)=(s.rows.map (rHP E)++[fz E.F])++(A++L)by simp,← yRn,show A++(s.rows.map (rHP E)++fz E.F::L)=(A++(s.rows.map (rHP E)++[fz E.F]))++L by simp]
 exact yTc.append_right _
theorem zTa {g:Nat→AObj} (hg:∀j,yFz (g j)) {c:Option AObj}:∀{js:List Nat} {done:List Nat} {π:NM} {s:St} {K:NM→St→Prop} {E:Ev},(0∉js)→
 zQk (fun j π s K=>match z9 j π with
  |some n'=>match(match j with|0=>c|_=>s.getg n')with
   |some o'=>mtO (g j) n' o' π (match j with|0=>s|_=>s.delF n' o') K
   |none=>False
  |none=>False) js π s K→Rel k (done.map (PJ g E π)++L) E s w→WfM π E.tab→
 ∃E' π' s',MtOk k ((js.reverse++done).map (PJ g E' π')++L) w E π E' π' s'∧K π' s'
 |[],done,π,s,K,E,h0,h,R,hw=>⟨E,π,s,⟨Ev.le.refl _,Ext.refl _,hw,by simpa using R⟩,h⟩
 |j::js,done,π,s,K,E,h0,h,R,hw=>by
  simp only[zQk]at h
  split at h<;>first|exact h.elim|skip
  rename_i n' hn'
  cases j with
  |zero=>exact absurd yRj h0
  |succ j=>
   simp only at h
   split at h<;>first|exact h.elim|skip
   rename_i o' ho'
   obtain⟨ho',hgone⟩:=sU ho'
   ·have R1:=R.takeF ho'
    obtain⟨E1,π1,s1,q1,q2⟩:=hg (j+1) h R1 hw hgone
    have R2:Rel k (((j+1)::done).map (PJ g E1 π1)++L) E1 s1 w:=by
     have R3:=q1.rel.impL (B:=PJ g E1 π1 (j+1)) fun x hx=>⟨n',q1.ext _ _ hn',hx⟩
     have R4:Rel k (done.map (PJ g E π)++(PJ g E1 π1 (j+1)::L)) E1 s1 w:=⟨R3.nx,R3.hp.perm (by
      refine List.Perm.append_left _ (.cons _ ?_)
      exact yRr.symm)⟩
     have R5:=R4.mapL (g:=PJ g E1 π1) fun a x hx=>hx.mono q1.le q1.ext
     exact⟨R5.nx,R5.hp.perm (by
      refine List.Perm.append_left _ (.cons _ ?_)
      exact yRr)⟩
    obtain⟨E2,π2,s2,r1,r2⟩:=zTa hg (fun hm=>h0 (yRk _ hm)) q2 R2 q1.wf
    refine⟨E2,π2,s2,⟨q1.le.trans r1.le,q1.ext.trans r1.ext,r1.wf,?_⟩,r2⟩
    have:=r1.rel
    simpa using this
theorem yBj {E:Ev}:∀{ds:List D} {l:List Value},VRL E (ds.map V.d) l→DRL E.F ds l
 |[],l,h=>by simpa only[yUr,VRL,DRL]using h
 |d::ds,l,h=>by
  simp only[yRs,VRL,VR]at h
  obtain⟨x,xs,h1,h2,h3⟩:=h
  simp only[DRL]
  exact⟨x,xs,h1,h2,yBj h3⟩
theorem yHx:∀o',yFz o':=by
 intro o'
 induction o' with
 |gone=>
  intro k L w n o π s K E h R hw hg
  simp only[mtO]at h
  have H:=R.out
  refine⟨E,π,s,⟨Ev.le.refl _,Ext.refl _,hw,?_⟩,h⟩
  obtain⟨hd,x,q1,_,_⟩:∃hd x,E.tab[n]? =some hd∧rowHP E.F o E.tab hd x∧Sub x w:=by
   obtain⟨x,hx,hs⟩:=H.sat
   rcases hx with⟨e,_⟩|⟨hd,h1,h2⟩
   ·exact absurd e hg
   ·exact⟨hd,x,h1,h2,hs⟩
  refine Rel.inn R.nx (((@vS k w True _).2 ⟨trivial,H.drop⟩).imp fun x hx=> ?_)
  intro E2 π2 a b tl c
  exact⟨hd,a.get q1,by simp only[rowHP];exact hx.2⟩
 |nilo=>
  intro k L w n o π s K E h R hw hg
  simp only[mtO]at h
  obtain⟨rfl,h⟩:=h
  exact⟨E,π,s,⟨Ev.le.refl _,Ext.refl _,hw,R.impL fun x hx=>uK rfl (by simp) hx⟩,h⟩
 |fro sz els=>
  intro k L w n o π s K E h R hw hg
  simp only[mtO]at h
  split at h
  ·rename_i t sz' els'
   obtain⟨hb,e9,hK⟩:=zO h
   subst e9
   have e:=yRh hb
   subst e
   have H:Hp k w (rHP E (n,.own t sz els)::fz E.F::(s.rows.map (rHP E)++L)):=R.out.cons yRr
   obtain⟨x,hx,hd,hsub,H⟩:=zNr H
   rcases hx with⟨e,_⟩|⟨hv,h1,h2⟩
   ·cases e
   simp only[rowHP]at h2
   obtain⟨a,c,xs,h3,h4,h5,h6⟩:=h2
   have hle:E.le ⟨un x E.F,E.tab⟩:=⟨zVo hd,yVg _⟩
   have hdr:DR (un x E.F) (.ro sz els) hv.1:=by
    simp only[DR]
    refine⟨a,c,h3,(zFl h6).2,h5,?_⟩
    rcases h6 with⟨rfl,q2,rfl,rfl,rfl⟩|⟨b,r,rfl,rfl,q3,q4,q5⟩
    ·exact .inl (ySe q2)
    ·refine .inr ⟨b,0,xs++r,t,(0,0),rfl,?_,DRS_iff.2 ⟨xs,r,rfl,h4.mono hle.1⟩⟩
     simp[un,one]
   have H1:Hp k w (s.rows.map (rHP E)++fz (un x E.F)::L):=H.perm yRr.symm
   have H2:=jM (fun r x=>rHP.mono hle r) H1
   have H3:=yBs H2
   refine⟨⟨un x E.F,E.tab⟩,π,s,⟨hle,Ext.refl _,hw,Rel.inn R.nx (H3.imp fun y hy=> ?_)⟩,hK⟩
   intro E2 π2 a1 b1 tl c1
   refine⟨hv,a1.get h1,?_⟩
   simp only[rowHP]
   exact⟨hy,hdr.mono a1.1⟩
  ·obtain⟨rfl,h⟩:=h
   exact⟨E,π,s,⟨Ev.le.refl _,Ext.refl _,hw,R.impL fun x hx=>uK rfl (by simp) hx⟩,h⟩
 |objs t T m unf l hole ih=>
  intro k L w n o π s K E h R hw hg
  simp only[mtO]at h
  split at h
  ·obtain⟨rfl,rfl,h⟩:=h
   refine⟨E,π,s,⟨Ev.le.refl _,Ext.refl _,hw,R.impL fun x hx=>uK (o:= .objs t T m unf [] none) rfl (by simp) ?_⟩,h⟩
   rcases hx with⟨e,_⟩|⟨hd,h1,h2⟩
   ·cases e
   ·simp only[rowHP]at h2
    obtain⟨rfl,e1,e2⟩:=h2
    refine .inr ⟨hd,h1,rowHP_objs.2 ⟨none,0,e1,by rw[e2];rfl,fun p hp=>(by rw[e2]at hp;exact(nomatch hp)),pe,pe,by rw[e2];exact zZo t 1,rfl,?_,?_⟩⟩
    ·intro b;exact .inl rfl
    ·funext b;rfl
  ·obtain⟨rfl,h⟩:=h
   exact⟨E,π,s,⟨Ev.le.refl _,Ext.refl _,hw,R.impL fun x hx=>uK rfl (by simp) hx⟩,h⟩
 |vec ds t=>
  intro k L w n o π s K E h R hw hg
  simp only[mtO]at h
  split at h
  ·obtain⟨hb,e9,hK⟩:=zO h
   subst e9
   have e:=yRh hb
   subst e
   refine⟨E,π,s,⟨Ev.le.refl _,Ext.refl _,hw,R.impL fun x hx=>uK (o:= .vec ds t) rfl (by simp) ?_⟩,hK⟩
   rcases hx with⟨e,_⟩|⟨hd,h1,h2⟩
   ·cases e
   ·simp only[rowHP]at h2
    obtain⟨b,l,e1,e2,e3⟩:=h2
    refine .inr ⟨hd,h1,?_⟩
    simp only[rowHP]
    exact⟨b,l,e1,yBj e2,e3⟩
  ·obtain⟨rfl,h⟩:=h
   exact⟨E,π,s,⟨Ev.le.refl _,Ext.refl _,hw,R.impL fun x hx=>uK rfl (by simp) hx⟩,h⟩
 |map es=>
  intro k L w n o π s K E h R hw hg
  simp only[mtO]at h
  split at h<;>first|exact h.elim|skip
  obtain⟨rfl,h⟩:=h
  exact⟨E,π,s,⟨Ev.le.refl _,Ext.refl _,hw,R.impL fun x hx=>uK rfl (by simp) hx⟩,h⟩
 |mapS es kv x=>
  intro k L w n o π s K E h R hw hg
  simp only[mtO]at h
  obtain⟨rfl,h⟩:=h
  exact⟨E,π,s,⟨Ev.le.refl _,Ext.refl _,hw,R.impL fun x hx=>uK rfl (by simp) hx⟩,h⟩
 |mrk t els=>
  intro k L w n o π s K E h R hw hg
  simp only[mtO]at h
  obtain⟨rfl,h⟩:=h
  exact⟨E,π,s,⟨Ev.le.refl _,Ext.refl _,hw,R.impL fun x hx=>uK rfl (by simp) hx⟩,h⟩
 |iter b p=>
  intro k L w n o π s K E h R hw hg
  simp only[mtO]at h
  split at h<;>first|exact h.elim|skip
  obtain⟨rfl,rfl,h⟩:=h
  exact⟨E,π,s,⟨Ev.le.refl _,Ext.refl _,hw,R.impL fun x hx=>uK rfl (by simp) hx⟩,h⟩
 |own t sz els=>
  intro k L w n o π s K E h R hw hg
  simp only[mtO]at h
  split at h<;>first|exact h.elim|skip
  ·obtain⟨hb,rfl,hk⟩:=zO h
   simp only[yRq]at hb
   have e1:=yRh hb.1
   have e2:=yRh hb.2
   subst e1 e2
   exact⟨E,π,s,⟨Ev.le.refl _,Ext.refl _,hw,R.impL fun x hx=>uK rfl (by simp) hx⟩,hk⟩
  ·obtain⟨rfl,h⟩:=h
   refine⟨E,π,s,⟨Ev.le.refl _,Ext.refl _,hw,R.impL fun x hx=> ?_⟩,h⟩
   rcases hx with⟨e,_⟩|⟨hd,h1,h2⟩
   ·cases e
   ·intro E2 π2 a b tl c
    simp only[rowHP]at h2
    refine⟨hd,a.get h1,?_⟩
    simp only[rowHP]
    exact⟨none,0,[],h2.2.1,by simp[DRL],by simp,.inl ⟨rfl,rfl,rfl,rfl,h2.1⟩⟩
 |cells vs t=>
  intro k L w n o π s K E h R hw hg
  have key:∀{E:Ev} {s:St} {vs':List V} {π:NM},Rel k (rHP E (n,.cells vs' t)::L) E s w→WfM π E.tab→mtL vs vs' π s K→∃E' π' s',MtOk k (PRow E' π' n (.cells vs t)::L) w E π E' π' s'∧K π' s':=by
   intro E s vs' π R hw h
   have H:=R.out
   obtain⟨b,l,sub,h1,h2,H⟩:∃b l sub,E.tab[n]? =some (.pointer (some ⟨b,0,none⟩),sub)∧VRL E vs' l∧Hp k w (pt b (.cells l.toArray t)::(s.rows.map (rHP E)++fz E.F::L)):=by
    obtain⟨hk,hs,hh⟩:=H
    cases hh with
    |cons ha hsub hdj hr=>
     rcases ha with⟨e,_⟩|⟨⟨hv,sub⟩,q1,q2⟩
     ·cases e
     ·simp only[rowHP]at q2
      obtain⟨b,l,rfl,q3,rfl⟩:=q2
      exact⟨b,l,sub,q1,q3,hk,_,.cons rfl hsub hdj hr⟩
   have R1:Rel k (pt b (.cells l.toArray t)::L) E s w:=Rel.inn R.nx H
   obtain⟨E',π',s',q1,q2,q3⟩:=pM h R1 hw h2
   refine⟨E',π',s',⟨q1.le,q1.ext,q1.wf,q1.rel.impL fun x hx=> ?_⟩,q3⟩
   intro E2 π2 a b' tl c
   refine⟨_,a.get (q1.le.get h1),?_⟩
   simp only[rowHP]
   exact⟨b,l,rfl,q2 E2 π2 a b' tl c,hx⟩
  simp only[mtO]at h
  split at h<;>first|exact h.elim|skip
  ·obtain⟨hb,hk⟩:=zO h
   have e:=yRh hb
   subst e
   exact key R hw hk
  ·rename_i T m unf x
   obtain⟨hb,h⟩:=zO h
   obtain⟨E1,q1,q2⟩:=R.unfold (yTn hb)
   revert q2 h
   generalize zIt s n m (unf x)=u
   obtain⟨u1,u2⟩:=u
   intro h q2
   simp only at h q2
   split at h<;>first|exact h.elim|skip
   rename_i vs' t' s' heq
   cases heq
   obtain⟨hb,hk⟩:=zO h
   have e:=yRh hb
   subst e
   obtain⟨E',π',s2,r1,r2⟩:=key q2 (hw.mono q1) hk
   exact⟨E',π',s2,⟨q1.trans r1.le,r1.ext,r1.wf,r1.rel⟩,r2⟩
 |adt T m unf x ih=>
  intro k L w n o π s K E h R hw hg
  unfold mtO at h
  split at h
  ·rename_i vs t
   obtain⟨hb,h⟩:=zO h
   have hm:=yTn hb
   have hrange:List.range m=0::(List.range (m-1)).map (·+1):=by
    have:m=(m-1)+1:=by omega
    rw[this,List.range_succ_eq_map]
    simp
   obtain⟨hd,hd1⟩:∃hd,E.tab[n]? =some hd:=by
    obtain⟨x,hx,_⟩:=R.out.sat
    rcases hx with⟨e,_⟩|⟨hd,h1,_⟩
    ·cases e
    ·exact⟨hd,h1⟩
   have hw0:WfM [(0,n)] E.tab:=fun p q e=>by
    obtain⟨_,rfl⟩:=z1v e
    exact⟨hd,hd1⟩
   rw[hrange]at h
   simp only[zQk]at h
   have hpl:z9 0 [(0,n)]=some n:=rfl
   rw[hpl]at h
   simp only at h
   obtain⟨E1,π1,s1,q1,q2⟩:=ih x 0 h R hw0 (by simp)
   have R2:Rel k ([0].map (PJ (unf x) E1 π1)++L) E1 s1 w:=q1.rel.impL fun y hy=>⟨n,q1.ext _ _ hpl,hy⟩
   obtain⟨E2,π2,s2,r1,r2⟩:=zTa (fun j=>ih x j) (c:=some (AObj.cells vs t)) (by simp) q2 R2 q1.wf
   have hle:=q1.le.trans r1.le
   obtain⟨hlt,r2⟩:=zO r2
   refine⟨E2,π,s2,⟨hle,Ext.refl _,hw.mono hle,?_⟩,r2⟩
   have H:=r1.rel.frontL
   have H2:Hp k w ((List.range m).map (PJ (unf x) E2 π2)++(s2.rows.map (rHP E2)++fz E2.F::L)):=by
    refine H.perm (List.Perm.append_right _ (List.Perm.map _ ?_))
    rw[hrange]
    refine(List.reverse_perm _).append_right _|>.trans ?_
    exact yTc
   refine Rel.inn r1.rel.nx ((hp_star.2 H2).imp fun y hy=> ?_)
   intro E3 π3 a b tl c
   have hall:∀j,j<m→∃n,z9 j π2=some n:=by
    intro j hj
    have hs:∀{l:List HP} {y:PH},hS l y→∀A∈l,∃z,A z:=by
     intro l
     induction l with
     |nil=>intro y _ A hA;cases hA
     |cons B l ih=>
      intro y hy A hA
      cases l with
      |nil=>rcases yTa.1 hA with rfl;exact⟨y,hy⟩
      |cons C l=>
       obtain⟨g,g',h1,h2,_,_⟩:=hy
       rcases yRy.1 hA with rfl|hA
       ·exact⟨g,h1⟩
       ·exact ih h2 A hA
    obtain⟨z,n,hz,_⟩:=hs hy (PJ (unf x) E2 π2 j) (ySm.2 ⟨j,yUg.2 hj,rfl⟩)
    exact⟨n,hz⟩
   let tab1:List Hd:=(List.range m).map fun j=>(E3.tab[(z9 j π2).getD 0]?).getD (undef,[])
   have htab:∀j n,j<m→z9 j π2=some n→∃hd,E3.tab[n]? =some hd∧tab1[j]? =some hd:=by
    intro j n hj hn
    obtain⟨hd,h'⟩:=r1.wf j n hn
    refine⟨hd,a.get h',?_⟩
    show((List.range m).map _)[j]? =_
    rw[yTb,yVu hj]
    simp only[yTd,hn,yTi,a.get h']
   have hloc:Loc π2 E3.tab tab1:=fun p q e=>htab p q (dV hlt p q e) e
   refine⟨hd,a.get (hle.get hd1),?_⟩
   simp only[rowHP]
   refine⟨tab1,?_,by simp[tab1],?_⟩
   ·have h0:z9 0 π2=some n:=r1.ext _ _ (q1.ext _ _ hpl)
    obtain⟨hd',e1,e2⟩:=htab 0 n (by omega) h0
    rw[a.get (hle.get hd1)]at e1;cases e1
    exact e2
   ·refine lP ?_ hy
    rintro j z ⟨nj,hj,hz⟩
    obtain⟨hd',e1,e2⟩:=hz E3 π2 a (Ext.refl _) tab1 hloc
    obtain⟨hd2,e3,e4⟩:=hloc j nj hj
    rw[e1]at e3;cases e3
    exact⟨hd',e4,e2⟩
  ·obtain⟨rfl,h⟩:=h
   exact⟨E,π,s,⟨Ev.le.refl _,Ext.refl _,hw,R.impL fun x hx=>uK rfl (by simp) hx⟩,h⟩
open Go Go.RowKit Cv
variable {k:Ko} {L:List HP} {w:World}
def v8:Nat→List AObj→List (Nat×AObj)
 |_,[]=>[]
 |p,o::os=>(p,o)::v8 (p+1) os
def PQ (E:Ev) (π:NM) (r:Nat×AObj):HP:=fun h=>(r.2= .gone∧h=pe)∨∃n,z9 r.1 π=some n∧PRow E π n r.2 h
theorem PQ.mono {E E':Ev} {π π':NM} (hle:E.le E') (hx:Ext π π') (r:Nat×AObj) {h:PH} (e:PQ E π r h):PQ E' π' r h:=by
 rcases e with e|⟨n,h1,h2⟩
 ·exact .inl e
 ·exact .inr ⟨n,hx _ _ h1,h2.mono hle hx⟩
theorem zPh:∀{os:List AObj} {p:Nat} {π:NM} {s:St} {K:NM→St→Prop} {E:Ev} {L:List HP},mtR p os π s K→Rel k L E s w→WfM π E.tab→
 ∃E' π' s',MtOk k ((v8 p os).map (PQ E' π')++L) w E π E' π' s'∧K π' s'
 |[],p,π,s,K,E,L,h,R,hw=>⟨E,π,s,⟨Ev.le.refl _,Ext.refl _,hw,R⟩,h⟩
 |o::os,p,π,s,K,E,L,h,R,hw=>by
  have fin:∀{E1:Ev} {π1:NM} {s1:St},MtOk k (PQ E1 π1 (p,o)::L) w E π E1 π1 s1→mtR (p+1) os π1 s1 K→∃E' π' s',MtOk k ((v8 p (o::os)).map (PQ E' π')++L) w E π E' π' s'∧K π' s':=by
   intro E1 π1 s1 q1 q2
   obtain⟨E2,π2,s2,r1,r2⟩:=zPh q2 q1.rel q1.wf
   refine⟨E2,π2,s2,⟨q1.le.trans r1.le,q1.ext.trans r1.ext,r1.wf,?_⟩,r2⟩
   have R3:=r1.rel
   have R4:Rel k (PQ E1 π1 (p,o)::((v8 (p+1) os).map (PQ E2 π2)++L)) E2 s2 w:=⟨R3.nx,R3.hp.perm (by
    refine List.Perm.append_left _ (.cons _ ?_)
    exact yRr)⟩
   exact R4.impL fun x hx=>hx.mono r1.le r1.ext
  cases o with
  |gone=>
   simp only[mtR]at h
   refine fin ⟨Ev.le.refl _,Ext.refl _,hw,?_⟩ h
   exact Rel.inn R.nx (((@vS k w True _).2 ⟨trivial,R.hp⟩).imp fun x hx=> .inl ⟨rfl,hx.2⟩)
  |_=>
   simp only[mtR]at h
   split at h<;>first|exact h.elim|skip
   rename_i n hn
   split at h<;>first|exact h.elim|skip
   rename_i o' ho'
   obtain⟨ho',hg⟩:=sU ho'
   obtain⟨E1,π1,s1,q1,q2⟩:=yHx _ h (R.takeF ho') hw hg
   exact fin ⟨q1.le,q1.ext,q1.wf,q1.rel.impL fun x hx=> .inr ⟨n,q1.ext _ _ hn,hx⟩⟩ q2
structure Alt where
 o:Type
 res:o→V
 post:o→List AObj
 rel:o→Prop
structure Con where
 ι:Type
 pat:ι→List V
 pre:ι→List AObj
 cnd:ι→Prop
 alts:ι→List Alt
def dA (m nx:Nat):Nat→NM→NM
 |0,π=>π
 |q+1,π=>dA m nx q ((m+q,nx+q)::π)
def qL (π:NM):Nat→List AObj→List (Nat×AObj)
 |_,[]=>[]
 |p,.gone::os=>qL π (p+1) os
 |p,o::os=>match z9 p π with
  |some n=>(n,zFh π o)::qL π (p+1) os
  |none=>qL π (p+1) os
def yHj (m:Nat) (π:NM) (s:St) (os:List AObj):St:=⟨qL (dA m s.nx (os.length-m) π) 0 os++s.rows,s.nx+(os.length-m)⟩
def yKe (m:Nat) (π:NM) (s:St) (K:V→St→Prop) (a:Alt):Prop:=
 ∀o,a.rel o→bif Nat.ble m (a.post o).length then K (pI (dA m s.nx ((a.post o).length-m) π) (a.res o)) (yHj m π s (a.post o))else False
def z9l (m:Nat) (π:NM) (s:St) (K:V→St→Prop):List Alt→Prop
 |[]=>True
 |[a]=>yKe m π s K a
 |a::l=>yKe m π s K a∧z9l m π s K l
theorem zMc {m:Nat} {π:NM} {s:St} {K:V→St→Prop}:∀{l:List Alt},z9l m π s K l→∀a∈l,yKe m π s K a
 |[],_,a,ha=>by cases ha
 |[b],h,a,ha=>by rcases yTa.1 ha with rfl;exact h
 |b::c::l,h,a,ha=>by
  rcases yRy.1 ha with rfl|ha
  ·exact h.1
  ·exact zMc h.2 a ha
def Con.call (C:Con) (args:List V) (s:St) (K:V→St→Prop):Prop:=
 ∃i:C.ι,mtL (C.pat i) args [] s fun π s=>mtR 0 (C.pre i) π s fun π s=>bif nX (C.pre i).length π then C.cnd i∧z9l (C.pre i).length π s K (C.alts i)else False
def Con.ok (P:Program) (f:FuncId) (C:Con):Prop:=∀i,C.cnd i→∀(k:Ko) (L:List HP) (E:Ev) (w:World) (ys:List Value),Rel k L E ⟨v8 0 (C.pre i),(C.pre i).length⟩ w→VRL E (C.pat i) ys→
 Does P (callFunc f ys.toArray) w fun y w'=>∃a∈C.alts i,∃o,a.rel o∧∃E',E.le E'∧VR E' (a.res o) y∧Rel k L E' ⟨v8 0 (a.post o),(a.post o).length⟩ w'
theorem zKx {m nx:Nat} {p n:Nat}:∀{q:Nat} {π:NM},z9 p (dA m nx q π)=some n→z9 p π=some n∨(m≤p∧n=nx+(p-m))
 |0,π,h=> .inl h
 |q+1,π,h=>by
  simp only[dA]at h
  rcases zKx (q:=q) h with h|h
  ·simp only[z9]at h
   cases hb:Nat.beq (m+q) p
   ·rw[hb]at h;exact .inl h
   ·rw[hb]at h
    have:=yRh hb
    simp only[cond_true,Option.some.injEq]at h
    exact .inr ⟨by omega,by omega⟩
  ·exact .inr h
theorem bH {π:NM} {E E2:Ev} (hF:E.F=E2.F) (hr:∀p n hd,z9 p π=some n→E.tab[p]? =some hd→E2.tab[n]? =some hd) {M:List HP}:∀{os:List AObj} {p:Nat},Hp k w ((v8 p os).map (rHP E)++M)→Hp k w ((qL π p os).map (rHP E2)++M)
 |[],p,H=>H
 |o::os,p,H=>by
  simp only[v8,yRs,ySv]at H
  have drop:Hp k w ((qL π (p+1) os).map (rHP E2)++M):=bH hF hr H.drop
  have main:∀n,z9 p π=some n→Hp k w (rHP E2 (n,zFh π o)::((qL π (p+1) os).map (rHP E2)++M)):=by
   intro n hn
   have H1:Hp k w ((v8 (p+1) os).map (rHP E)++(rHP E (p,o)::M)):=H.perm yRr.symm
   have H2:=bH hF hr H1
   refine(H2.perm yRr).imp fun x hx=> ?_
   rcases hx with⟨e,e2⟩|⟨hd,h1,h2⟩
   ·left
    simp only at e;subst e
    exact⟨rfl,e2⟩
   ·right
    exact⟨hd,hr _ _ _ hn h1,hF▸h2.ren hr⟩
  cases o with
  |gone=>simpa only[qL]using drop
  |_=>
   simp only[qL]
   split
   ·rename_i n hn;exact main n hn
   ·exact drop
theorem Con.call_sound {P:Program} {f:FuncId} {C:Con} (hC:C.ok P f) {args:List V} {s:St} {K:V→St→Prop} {E:Ev} {ys:List Value} (h:C.call args s K) (R:Rel k L E s w) (hv:VRL E args ys):
 Does P (callFunc f ys.toArray) w (Outc k L E K):=by
 obtain⟨i,h⟩:=h
 have hw0:WfM [] E.tab:=fun p n e=>by cases e
 obtain⟨E1,π1,s1,q1,q2,q3⟩:=pM h R hw0 hv
 obtain⟨E2,π2,s2,r1,r2⟩:=zPh q3 q1.rel q1.wf
 obtain⟨hlt,hc,ha⟩:=zO r2
 have hlt:=dV hlt
 let m:=(C.pre i).length
 let tl:List Hd:=(List.range m).map fun p=>(E2.tab[(z9 p π2).getD 0]?).getD (undef,[])
 have hloc:Loc π2 E2.tab tl:=by
  intro p n hp
  obtain⟨hd,h'⟩:=r1.wf p n hp
  refine⟨hd,h',?_⟩
  show((List.range m).map _)[p]? =_
  rw[yTb,yVu (hlt p n hp)]
  simp only[yTd,hp,yTi,h']
 have htl:tl.length=m:=by simp[tl]
 have H:=r1.rel.frontL
 have H1:=jM (g:=rHP ⟨E2.F,tl⟩) (fun r x hx=>by
  rcases hx with⟨e1,e2⟩|⟨n,h1,h2⟩
  ·exact .inl ⟨e1,e2⟩
  ·right
   obtain⟨hd,h3,h4⟩:=h2 E2 π2 (Ev.le.refl _) (Ext.refl _) tl hloc
   obtain⟨hd',h5,h6⟩:=hloc _ _ h1
   rw[h3]at h5;cases h5
   exact⟨hd,h6,h4⟩) H
 have R0:Rel k (s2.rows.map (rHP E2)++L) ⟨E2.F,tl⟩ ⟨v8 0 (C.pre i),(C.pre i).length⟩ w:=⟨htl,H1.perm (List.Perm.append_left _ yRr)⟩
 have hv0:VRL ⟨E2.F,tl⟩ (C.pat i) ys:=q2 E2 π2 r1.le r1.ext tl hloc
 refine(hC i hc k _ _ w ys R0 hv0).mono ?_
 rintro y w' ⟨a,ha',o,hrel,E3,hle,hvr,R3⟩
 obtain⟨hm,hk⟩:=zO (zMc ha a ha' o hrel)
 have hm:=yTn hm
 let q:=(a.post o).length
 have hlen:E3.tab.length=q:=R3.nx
 let E4:Ev:=⟨E3.F,E2.tab++E3.tab.drop m⟩
 have hle4:E2.le E4:=⟨hle.1,yUs _ _⟩
 have hren:∀p n hd,z9 p (dA m s2.nx (q-m) π2)=some n→E3.tab[p]? =some hd→E4.tab[n]? =some hd:=by
  intro p n hd hp ht
  rcases zKx hp with hp|⟨h1,rfl⟩
  ·obtain⟨hd',h5,h6⟩:=hloc _ _ hp
   have:=zOy hle.2 h6
   rw[ht]at this;cases this
   exact hle4.get h5
  ·show(E2.tab++E3.tab.drop m)[s2.nx+(p-m)]? =some hd
   rw[← r1.rel.nx,yTj (by omega),yUa]
   rw[show m+(E2.tab.length+(p-m)-E2.tab.length)=p by omega]
   exact ht
 refine⟨E4,_,_,(q1.le.trans r1.le).trans hle4,?_,hvr.ren (F:=E3.F) hren,hk⟩
 refine⟨by show(E2.tab++E3.tab.drop m).length=s2.nx+(q-m);rw[yRi,ySb,r1.rel.nx,hlen],?_⟩
 have H2:=bH (E:=E3) (E2:=E4) rfl hren R3.hp
 have H3:Hp k w' (s2.rows.map (rHP E2)++((qL (dA m s2.nx (q-m) π2) 0 (a.post o)).map (rHP E4)++fz E3.F::L)):=by
  refine H2.perm ?_
  rw[← yRn]
  refine List.Perm.trans ?_ (yTc.append_right _)
  rw[yRn]
  exact List.Perm.append_left _ yRr.symm
 have H4:=jM (g:=rHP E4) (fun r x=>rHP.mono hle4 r) H3
 refine H4.perm ?_
 show(s2.rows.map (rHP E4)++((qL (dA m s2.nx (q-m) π2) 0 (a.post o)).map (rHP E4)++fz E3.F::L)).Perm ((qL (dA m s2.nx (q-m) π2) 0 (a.post o)++s2.rows).map (rHP E4)++fz E4.F::L)
 rw[← yRn,yRm]
 exact yTc.append_right _
open Go Go.RowKit Cv
variable {P:Program} {k:Ko} {L:List HP}
def kS (P:Program) (ρ:y3) (op:Op):Nat:=
 match op with
 | .convert s d _=>bif yAo P s && eU P d then 1 else bif eU P s && zBb P d then 2 else bif yAo P s && zBb P d then 2 else 0
 | .indexAddr _ x _=>match sev ρ x with
   | .own _=>1
   |_=>0
 | .slice _ x _ _ _=>match sev ρ x with
   | .own _=>2
   |_=>0
 | .binOp _ _ x _ _=>match sev ρ x with
   | .own _=>1
   |_=>0
 | .call c=>match c.callee with
   | .builtin .len=>match evs ρ c.args.toList with
     |[.own _]=>1
     |[.mp _]=>1
     |_=>0
   | .builtin .cap=>0
   | .builtin .min=>0
   | .builtin .max=>0
   |_=>2
 |op=>zNt P op
def opS (P:Program) (H:Hnd) (o:Oper) (ρ:y3) (s:St) (K:V→St→Prop):Prop:=
 match kS P ρ o.op with
 |0=>sq P o ρ fun v=>K v s
 |1=>sr P o ρ s fun v=>K v s
 |_=>se P H o ρ s K
theorem z4b {H:Hnd} (hH:HOk P H) {E:Ev} {s:St} {w:World} (R:Rel k L E s w) {ρS:y3} {ρ:Env} (he:EnvR E ρS ρ) {o:Oper} {K:V→St→Prop} (h:opS P H o ρS s K):Does P (execOp (ev ρ) o) w (Outc k L E K):=by
 unfold opS at h
 split at h
 ·obtain⟨v,y,hk,hv,hf⟩:=zTv he h
  exact jB (hf w) ⟨E,v,s,Ev.le.refl _,R,hv,hk⟩
 ·obtain⟨v,y,hk,hv,hf⟩:=zIy R he h
  exact jB hf ⟨E,v,s,Ev.le.refl _,R,hv,hk⟩
 ·exact zSe hH R he h
def zKe (ops:List Oper) (g:Option (Nat×Bool)) (ρ:y3) (Y N:y3→Prop):Prop:=
 match g with
 |none=>Y ρ
 |some (j,want)=>
  match zYt ops j with
  |none=>N ρ
  |some d=>
   match ρ d with
   | .d (.v (.bool c))=>gd c want (Y (pX ρ (some d) (.d (.v (.bool want))))) (N (pX ρ (some d) (.d (.v (.bool !want)))))
   | .tup []=>N ρ
   |_=>False
theorem z2d {ρ:y3} {d:Nat} {v:V} (h:ρ d=v):pX ρ (some d) v=ρ:=by
 funext i
 simp only[pX]
 cases hb:Nat.beq i d
 ·rfl
 ·have:=yRh hb;subst this;exact h.symm
theorem mP {ops:List Oper} {o:Oper} {a:Act} {E:Ev} {ρS:y3} (he:EnvR E ρS (yI a)) {Y N:y3→Prop} (h:zKe ops o.guard ρS Y N):
 if Region.wanted o (yielded ops.toArray a.tmps)then Y ρS else N ρS:=by
 unfold zKe at h
 unfold Region.wanted
 split at h
 ·rename_i hg;rw[hg];exact h
 ·rename_i j want hg
  rw[hg]
  have hy:=zAq ops a.tmps j
  split at h
  ·rename_i hd
   rw[hd]at hy
   simp only[hy]
   simpa using h
  ·rename_i d hd
   rw[hd]at hy
   simp only[hy]
   have hv:yI a d=(a.tmps[d]?).getD undef:=by simp[yI,ySu]
   have hed:=he d
   rw[hv]at hed
   split at h<;>first|exact h.elim|skip
   ·rename_i c hc
    rw[hc]at hed
    simp only[VR,DR]at hed
    cases ht:a.tmps[d]? with
    |none=>rw[ht]at hed;exact absurd hed.1 (by simp[undef])
    |some v=>
     rw[ht]at hed
     simp only[yTi]at hed
     rw[hed.1]
     simp only[]
     have hs:∀b,c=b→pX ρS (some d) (.d (.v (.bool b)))=ρS:=fun b hb=>z2d (by rw[hc,hb])
     cases c<;>cases want<;>simp only[gd,Bool.not_true,yVw]at h<;>rw[hs _ rfl]at h<;>simpa using h
   ·rename_i hc
    rw[hc]at hed
    simp only[VR,VRL]at hed
    obtain⟨ys,e1,rfl⟩:=hed
    cases ht:a.tmps[d]? with
    |none=>simpa using h
    |some v=>
     rw[ht]at e1
     simp only[yTi]at e1
     subst e1
     simpa using h
def zRw (P:Program) (H:Hnd) (ops:List Oper):List Oper→y3→St→(y3→St→Prop)→Prop
 |[],ρ,s,K=>K ρ s
 |o::rest,ρ,s,K=>zKe ops o.guard ρ (fun ρ=>opS P H o ρ s fun v s'=>zRw P H ops rest (pX ρ o.dst v) s' K) (fun ρ=>zRw P H ops rest (pX ρ o.dst (.tup [])) s K)
theorem tV (E:Ev):VR E (.tup []) undef:=by
 simp only[VR];exact⟨[],rfl,VRL.nil⟩
theorem zEy {H:Hnd} (hH:HOk P H) {ops:List Oper} {n:Nat} {A:Nat→Bool} {e0:Env} {Q:Exit→Act→World→Prop} {E0:Ev} {K:y3→St→Prop}
 (hQ:∀a w E ρS s,Good n A e0 a→E0.le E→Rel k L E s w→EnvR E ρS (yI a)→K ρS s→Q .normal a w):
 ∀(l:List Oper) (a:Act) (w:World) (E:Ev) (ρS:y3) (s:St),zFa n A l→Good n A e0 a→E0.le E→Rel k L E s w→EnvR E ρS (yI a)→zRw P H ops l ρS s K→wpList P ops.toArray Q l a w
 |[],a,w,E,ρS,s,_,hg,hle,R,he,h=>hQ a w E ρS s hg hle R he h
 |o::l,a,w,E,ρS,s,hf,hgd,hle,R,he,h=>by
  have hdst:=hf o yRj
  have hf':zFa n A l:=fun o' ho'=>hf o' (yRk _ ho')
  have hg:=mP he h
  have nx:∀{v:Value} {w:World} {E':Ev} {v':V} {s':St},E.le E'→Rel k L E' s' w→VR E' v' v→zRw P H ops l (pX ρS o.dst v') s' K→wpList P ops.toArray Q l (a.put o.dst v) w:=fun{v w E' v' s'} hle' R' hv hh=>
   zEy hH hQ l _ _ E' _ s' hf' (hgd.put hdst v) (hle.trans hle') R' (by rw[hgd.envOf_put hdst];exact(he.mono hle').put _ hv) hh
  unfold wpList
  split
  ·rename_i hw
   rw[yRe hw]at hg
   left
   refine eN ?_
   have:=z4b hH R he hg
   rw[jK]at this
   refine this.mono ?_
   rintro v w' ⟨E',v',s',h1,h2,h3,h4⟩
   exact nx h1 h2 h3 h4
  ·rename_i hw
   rw[yRd hw]at hg
   exact nx (Ev.le.refl _) R (tV E) hg
theorem zEz {P:Program} {E:Ev} {t sz i f:Nat} {els:List (List D)} {b o:Nat} {l:List Value} {T:TypeId} {fr:Nat×Nat} {ds:List D} {v:V} (hu:∀el∈els,el.length=sz) (h5:DRS E.F els (l.drop o))
 (hp:zE els i f ds.length=some ds) (hm:mkD P t ds=some v):∃y,VR E v y∧∀w:World,w.heap[b]? =some (.cells l.toArray T fr)→nZ P t ⟨b,o+i*sz+f,none⟩ w y:=by
 obtain⟨xs,r,e,hx⟩:=DRS_iff.1 h5
 unfold zE at hp
 split at hp<;>first|(cases hp;done)|skip
 rename_i el hel
 obtain⟨hb,hp⟩:=y5 hp
 have hb:=yTn hb
 have hmem:=yRp hel
 have hi:i<els.length:=(yRf.1 hel).1
 rw[hu el hmem]at hb
 have hpart:=(hx.drop (i*sz+f)).take ds.length
 have hfp:=zMm hu hel hb
 rw[hfp,Option.some.inj hp]at hpart
 have hlen:xs.length=els.length*sz:=by rw[hx.length,j7 hu]
 have hin:i*sz+sz≤els.length*sz:=by
  have:=yTe sz (show i+1≤els.length by omega)
  rwa [yUo]at this
 have hmemory:(l.drop (o+i*sz+f)).take ds.length=(xs.drop (i*sz+f)).take ds.length:=by
  rw[yUu,← yUl,e,yTw (by omega),ySf (by rw[ySb];omega)]
 unfold mkD at hm
 split at hm
 ·rename_i n hn
  obtain⟨hq,hm⟩:=y5 hm
  have:=yRh hq
  cases hm
  refine⟨.agg ((xs.drop (i*sz+f)).take ds.length).toArray,by simp only[VR];exact⟨_,rfl,hpart.vrl⟩,fun w e2=> ?_⟩
  refine zDe hn e2 (by rw[← this];exact hmemory) ?_
  rw[hpart.length,this]
 ·obtain⟨hq,hm⟩:=y5 hm
  split at hm<;>first|(cases hm;done)|skip
  rename_i d
  cases hm
  simp only[yRt,yUi,DRL]at hpart hmemory
  obtain⟨y,ys,e4,h4,h5⟩:=hpart
  subst h5
  refine⟨y,by simpa only[VR]using h4,fun w e2=>uO hq e2 ?_⟩
  have:((l.drop (o+i*sz+f)).take 1)[0]? =some y:=by rw[hmemory,e4];rfl
  rw[List.getElem?_take,yRe (by omega),yUa]at this
  simpa using this
def zFq (ρ:y3) (s:St):Op→Bool
 | .load _ x=>match sev ρ x with
   | .re _ _ _ _=>true
   | .el n _ _ _=>match s.get n with
     |some (.fro _ _)=>true
     |_=>false
   |_=>false
 |_=>false
theorem z2r {E:Ev} {s:St} {w:World} (R:Rel k L E s w) {ρS:y3} {ρ:Env} (he:EnvR E ρS ρ) {o:Oper} {K:V→Prop} (hst:zFq ρS s o.op=true) (h:sr P o ρS s K):
 ∃v y,K v∧VR E v y∧∀(E':Ev) (s':St) (w':World),E.le E'→Rel k L E' s' w'→(execOp (ev ρ) o).run P w'= .ok (.value y) w':=by
 cases ho:o.op<;>rw[ho]at hst<;>first|(cases hst;done)|skip
 case load t x=>
  simp only[sr,ho]at h
  simp only[zFq]at hst
  have hv:=he.ev x
  split at hst<;>first|(cases hst;done)|skip
  ·rename_i sz els i f hx
   rw[hx]at hv h;simp only[VR]at hv
   simp only at h
   obtain⟨e0,e1,b,oo,l,T,fr,e2,e3,e4⟩:=hv
   obtain⟨ds,hp,h⟩:=c9 h
   obtain⟨v,hm,hk⟩:=zM h
   obtain⟨y,hy,hh⟩:=zEz (b:=b) (T:=T) (fr:=fr) e1 e4 hp hm
   refine⟨v,y,hk,hy,fun E' s' w' hle R'=> ?_⟩
   simp only[execOp,ho,e2]
   exact yB (hh w' (R'.frozen _ _ (hle.1 _ _ e3)))
  ·rename_i n sz i f hx
   rw[hx]at hv h;simp only[VR]at hv
   simp only at h
   split at hst<;>first|(cases hst;done)|skip
   rename_i sz0 els0 hg
   obtain⟨b,oo,m,c,l,e1,e2⟩:=hv
   simp only[eY,hg]at h
   obtain⟨⟨sz',els⟩,hd,h⟩:=zM h
   simp only[mH,hg,Option.some.injEq,Prod.mk.injEq]at hd
   obtain⟨rfl,rfl⟩:=hd
   obtain⟨hb,h⟩:=zO h
   have:=yRh hb
   simp only at this
   subst this
   obtain⟨ds,hp,h⟩:=c9 h
   obtain⟨v,hm,hk⟩:=zM h
   obtain⟨hd,x',q1,q2,q3⟩:=R.row hg (by simp)
   rw[e1]at q1;cases q1
   simp only[rowHP,DR]at q2
   obtain⟨_,a,c',q4,q5,q6,q7⟩:=q2
   cases q4
   rcases q7 with rfl|⟨b',o',l',T,fr,q8,q9,q10⟩
   ·simp[zE]at hp
   cases q8
   obtain⟨y,hy,hh⟩:=zEz (b:=b) (T:=T) (fr:=fr) q6 q10 hp hm
   refine⟨v,y,hk,hy,fun E' s' w' hle R'=> ?_⟩
   simp only[execOp,ho,e2]
   exact yB (hh w' (R'.frozen _ _ (hle.1 _ _ q9)))
def yLr:V→V→Prop
 | .d (.v x),.d (.v y)=>lEq x y
 | .nm n o,.nm n' o'=>bif Nat.beq n n' && Nat.beq o o' then True else False
 | .own n,.own n'=>bif Nat.beq n n' then True else False
 | .mp n,.mp n'=>bif Nat.beq n n' then True else False
 | .el n sz i f,.el n' sz' i' f'=>bif Nat.beq n n' && Nat.beq sz sz' && Nat.beq f f' then i=i' else False
 |_,_=>False
theorem uG {E E':Ev} (hle:E.le E') {v v':V} {y y':Value} (h:yLr v' v) (hy:VR E v y) (hy':VR E' v' y'):y'=y:=by
 unfold yLr at h
 split at h<;>first|exact h.elim|skip
 ·simp only[VR,DR]at hy hy'
  rw[hy.1,hy'.1,z8f h]
 ·obtain⟨hb,_⟩:=zO h
  simp only[yRq]at hb
  have e1:=yRh hb.1
  have e2:=yRh hb.2
  subst e1 e2
  simp only[VR]at hy hy'
  obtain⟨b,oo,l,h1,rfl⟩:=hy
  obtain⟨b',oo',l',h1',rfl⟩:=hy'
  rw[hle.get h1]at h1';cases h1';rfl
 ·obtain⟨hb,_⟩:=zO h
  have e1:=yRh hb
  subst e1
  simp only[VR]at hy hy'
  obtain⟨l,h1,_⟩:=hy
  obtain⟨l',h1',_⟩:=hy'
  rw[hle.get h1]at h1';cases h1';rfl
 ·obtain⟨hb,_⟩:=zO h
  have e1:=yRh hb
  subst e1
  simp only[VR]at hy hy'
  obtain⟨b,l,h1,_⟩:=hy
  obtain⟨b',l',h1',_⟩:=hy'
  rw[hle.get h1]at h1';cases h1';rfl
 ·obtain⟨hb,rfl⟩:=zO h
  simp only[yRq]at hb
  have e1:=yRh hb.1.1
  have e2:=yRh hb.1.2
  have e3:=yRh hb.2
  subst e1 e2 e3
  simp only[VR]at hy hy'
  obtain⟨b,oo,m,c,l,h1,rfl⟩:=hy
  obtain⟨b',oo',m',c',l',h1',rfl⟩:=hy'
  rw[hle.get h1]at h1';cases h1';rfl
mutual
def vEq:V→V→Prop
 | .agg l,v=>match v with
   | .agg l'=>z3x l l'
   |_=>False
 | .tup l,v=>match v with
   | .tup l'=>z3x l l'
   |_=>False
 |u,v=>yLr u v
def z3x:List V→List V→Prop
 |[],l=>match l with
  |[]=>True
  |_=>False
 |u::us,l=>match l with
  |v::vs=>vEq u v∧z3x us vs
  |[]=>False
end
mutual
theorem z1m {E E':Ev} (hle:E.le E'):∀{v' v:V} {y y':Value},vEq v' v→VR E v y→VR E' v' y'→y'=y
 | .agg l,v,y,y',h,hy,hy'=>by
   simp only[vEq]at h
   split at h<;>first|exact h.elim|skip
   simp only[VR]at hy hy'
   obtain⟨ys,rfl,h1⟩:=hy
   obtain⟨ys',rfl,h2⟩:=hy'
   rw[zGr hle h h1 h2]
 | .tup l,v,y,y',h,hy,hy'=>by
   simp only[vEq]at h
   split at h<;>first|exact h.elim|skip
   simp only[VR]at hy hy'
   obtain⟨ys,rfl,h1⟩:=hy
   obtain⟨ys',rfl,h2⟩:=hy'
   rw[zGr hle h h1 h2]
 | .top,v,y,y',h,hy,hy'=>uG hle (by simpa only[vEq]using h) hy hy'
 | .d _,v,y,y',h,hy,hy'=>uG hle (by simpa only[vEq]using h) hy hy'
 | .nm _ _,v,y,y',h,hy,hy'=>uG hle (by simpa only[vEq]using h) hy hy'
 | .el _ _ _ _,v,y,y',h,hy,hy'=>uG hle (by simpa only[vEq]using h) hy hy'
 | .re _ _ _ _,v,y,y',h,hy,hy'=>uG hle (by simpa only[vEq]using h) hy hy'
 | .own _,v,y,y',h,hy,hy'=>uG hle (by simpa only[vEq]using h) hy hy'
 | .mp _,v,y,y',h,hy,hy'=>uG hle (by simpa only[vEq]using h) hy hy'
 | .sub _ _,v,y,y',h,hy,hy'=>uG hle (by simpa only[vEq]using h) hy hy'
 | .fn _ _ _,v,y,y',h,hy,hy'=>uG hle (by simpa only[vEq]using h) hy hy'
 | .ifc _ _,v,y,y',h,hy,hy'=>uG hle (by simpa only[vEq]using h) hy hy'
theorem zGr {E E':Ev} (hle:E.le E'):∀{v' v:List V} {y y':List Value},z3x v' v→VRL E v y→VRL E' v' y'→y'=y
 |[],v,y,y',h,hy,hy'=>by
  simp only[z3x]at h
  split at h<;>first|exact h.elim|skip
  simp only[VRL]at hy hy'
  rw[hy,hy']
 |u::us,v,y,y',h,hy,hy'=>by
  simp only[z3x]at h
  split at h<;>first|exact h.elim|skip
  simp only[VRL]at hy hy'
  obtain⟨x,xs,rfl,h1,h2⟩:=hy
  obtain⟨x',xs',rfl,h1',h2'⟩:=hy'
  rw[z1m hle h.1 h1 h1',zGr hle h.2 h2 h2']
end
@[reducible] def zJs:=Nat×(St→Prop)
def zFb (bf:List Nat) (i:Nat):List zJs→List zJs
 |[]=>[]
 |m::l=>bif Bef bf i m.1 then zFb bf i l else m::zFb bf i l
def yHm:List zJs→St→Prop→Prop
 |[],_,X=>X
 |m::ms,s,X=>m.2 s∧yHm ms s X
def yJt (P:Program) (ops:List Oper) (ρ:y3) (i:Nat):Bool:=
 match ops[i]? with
 |some o=>match kS P ρ o.op with
  |2=>false
  |_=>true
 |none=>true
def zPj:Op→Bool
 | .slice _ _ _ _ none=>true
 |_=>false
theorem zXc {o:Op} (h:zPj o=true):∃t x lo hi,o= .slice t x lo hi none:=by
 unfold zPj at h
 split at h
 ·exact⟨_,_,_,_,rfl⟩
 ·cases h
def rO (P:Program) (H:Hnd) (ops:List Oper) (bf:List Nat):Nat→Array Bool→List zJs→y3→St→(y3→St→Prop)→Prop
 |0,listed,_,ρ,s,K=>
  match Region.ready .any ops.toArray listed with
  |[]=>K ρ s
  |_=>False
 |fuel+1,listed,M,ρ,s,K=>
  match Region.ready .any ops.toArray listed with
  |[]=>K ρ s
  |r::rs=>
   match(r::rs).find? (yJt P ops ρ)with
   |some i=>
    match ops[i]? with
    |none=>False
    |some o=>zKe ops o.guard ρ
      (fun ρ'=>match kS P ρ' o.op with
        |0=>sq P o ρ' fun v=>rO P H ops bf fuel (listed.setIfInBounds i true) M (pX ρ' o.dst v) s K
        |1=>sr P o ρ' s fun v=>rO P H ops bf fuel (listed.setIfInBounds i true) ((i,fun s'=>bif zFq ρ' s o.op then True else sr P o ρ' s' fun v'=>vEq v' v)::M) (pX ρ' o.dst v) s K
        |_=>False)
      (fun ρ'=>rO P H ops bf fuel (listed.setIfInBounds i true) M (pX ρ' o.dst (.tup [])) s K)
   |none=>yDt (r::rs) fun i=>
    match ops[i]? with
    |none=>False
    |some o=>zKe ops o.guard ρ
      (fun ρ'=>se P H o ρ' s fun v s'=>bif zPj o.op then rO P H ops bf fuel (listed.setIfInBounds i true) (zFb bf i M) (pX ρ' o.dst v) s' K else yHm (zFb bf i M) s' (rO P H ops bf fuel (listed.setIfInBounds i true) (zFb bf i M) (pX ρ' o.dst v) s' K))
      (fun ρ'=>rO P H ops bf fuel (listed.setIfInBounds i true) (zFb bf i M) (pX ρ' o.dst (.tup [])) s K)
inductive MonRel (k:Ko) (L:List HP) (E:Ev):List zJs→List Mon→Prop
 |nil:MonRel k L E [] []
 |cons {i:Nat} {f:St→Prop} {g:World→Prop} {M:List zJs} {N:List Mon}:(∀E' s' w',E.le E'→Rel k L E' s' w'→f s'→g w')→MonRel k L E M N→MonRel k L E ((i,f)::M) ((i,g)::N)
theorem MonRel.mono {E E':Ev} (hle:E.le E') {M:List zJs} {N:List Mon} (h:MonRel k L E M N):MonRel k L E' M N:=by
 induction h with
 |nil=>exact .nil
 |cons h _ ih=>exact .cons (fun E2 s w a=>h E2 s w (hle.trans a)) ih
theorem MonRel.keep {E:Ev} {bf:List Nat} {i:Nat} {M:List zJs} {N:List Mon} (h:MonRel k L E M N):MonRel k L E (zFb bf i M) (kE bf i N):=by
 induction h with
 |nil=>exact .nil
 | @cons j f g M N h _ ih=>
   simp only[zFb,kE,List.filter_cons]at ih ⊢
   cases hb:Bef bf i j
   ·simpa using .cons h ih
   ·simpa using ih
theorem MonRel.all {E E':Ev} (hle:E.le E') {M:List zJs} {N:List Mon} (h:MonRel k L E M N) {s:St} {w:World} (R:Rel k L E' s w) {X:Prop} (hm:yHm M s X):zHu N w∧X:=by
 induction h with
 |nil=>exact⟨fun m hm=>(by cases hm),hm⟩
 |cons h _ ih=>
  obtain⟨h1,h2⟩:=hm
  obtain⟨h3,h4⟩:=ih h2
  refine⟨fun m hm=> ?_,h4⟩
  rcases yRy.1 hm with rfl|hm
  ·exact h _ _ _ hle R h1
  ·exact h3 m hm
theorem zUf {H:Hnd} (hH:HOk P H) {ops:List Oper} {n:Nat} {A:Nat→Bool} {e0:Env} {Q:Act→World→Prop} {E0:Ev} {K:y3→St→Prop} (hok:mA ops (vR ops [])=true) (hf:zFa n A ops)
 (hQ:∀a w E ρS s,Good n A e0 a→E0.le E→Rel k L E s w→EnvR E ρS (yI a)→K ρS s→Q a w):
 ∀(fuel:Nat) (listed:Array Bool) (M:List zJs) (N:List Mon) (a:Act) (w:World) (E:Ev) (ρS:y3) (s:St),mE ops (x5 listed)→zHu N w→MonRel k L E M N→Good n A e0 a→E0.le E→Rel k L E s w→EnvR E ρS (yI a)→
  rO P H ops (vR ops []) fuel listed M ρS s K→zAr P ops.toArray (vR ops []) Q fuel N listed a w:=by
 intro fuel
 induction fuel with
 |zero=>
  intro listed M N a w E ρS s hc hM hMR hgd hle R he h
  unfold rO at h
  split at h
  ·rename_i hr;exact⟨hr,hQ a w E ρS s hgd hle R he h⟩
  ·exact h.elim
 |succ fuel ih=>
  intro listed M N a w E ρS s hc hM hMR hgd hle R he h
  unfold rO at h
  split at h
  ·rename_i hr
   exact⟨fun _=>hQ a w E ρS s hgd hle R he h,fun i hi=>by rw[hr]at hi;cases hi⟩
  ·rename_i r rs hr
   have hne:Region.ready .any ops.toArray listed≠[]:=by rw[hr];simp
   split at h
   ·rename_i i hfind
    have hi:i∈Region.ready .any ops.toArray listed:=by rw[hr];exact List.mem_of_find?_eq_some hfind
    split at h<;>first|exact h.elim|skip
    rename_i o ho
    have hput:∀v,yI (a.put o.dst v)=Cv.put (yI a) o.dst v:=fun v=>hgd.envOf_put (cS hf ho) v
    have hg:=mP he h
    have nx:∀{M:List zJs} {N:List Mon} {v:V} {y:Value},zHu N w→MonRel k L E M N→VR E v y→rO P H ops (vR ops []) fuel (listed.setIfInBounds i true) M (pX ρS o.dst v) s K→
     zAr P ops.toArray (vR ops []) Q fuel N (listed.setIfInBounds i true) (a.put o.dst y) w:=fun{M N v y} hM hMR hv hh=>
     ih _ _ _ _ _ _ _ _ (wT hc hi) hM hMR (hgd.put (cS hf ho) _) hle R (by rw[hput];exact he.put _ hv) hh
    by_cases hw:Region.wanted o (yielded ops.toArray a.tmps)=true
    ·rw[yRe hw]at hg
     split at hg<;>first|exact hg.elim|skip
     ·obtain⟨v,y,hk,hv,hfree⟩:=zTv he hg
      rw[jK]at hfree
      have hs:∀w,nF P ops.toArray o y a w:=fun w=> .inl ⟨hw,hfree w⟩
      exact uN hok ho fuel N listed a w hc hi (hs w) hM (dU hs fuel _ _ _ (nx hM hMR hv hk))
     ·cases hst:zFq ρS s o.op
      ·obtain⟨v,y,hk,hv,hrun⟩:=zIy R he hg
       rw[jK]at hrun
       simp only[hst,cond_false]at hk
       have hs:nF P ops.toArray o y a w:= .inl ⟨hw,hrun⟩
       refine uN hok ho fuel N listed a w hc hi hs hM (nx ?_ (.cons ?_ hMR) hv hk)
       ·intro m hm
        rcases yRy.1 hm with rfl|hm
        ·exact hs
        ·exact hM m hm
       ·intro E' s' w' hle' R' hst
        obtain⟨v',y',hk',hv',hrun'⟩:=zIy R' (he.mono hle') hst
        rw[jK]at hrun'
        have:=z1m hle' hk' hv hv'
        subst this
        exact .inl ⟨hw,hrun'⟩
      ·obtain⟨v,y,hk,hv,hrun⟩:=z2r R he hst hg
       rw[jK]at hrun
       simp only[hst,cond_true]at hk
       have hs:nF P ops.toArray o y a w:= .inl ⟨hw,hrun E s w (Ev.le.refl _) R⟩
       refine uN hok ho fuel N listed a w hc hi hs hM (nx ?_ (.cons ?_ hMR) hv hk)
       ·intro m hm
        rcases yRy.1 hm with rfl|hm
        ·exact hs
        ·exact hM m hm
       ·intro E' s' w' hle' R' _
        exact .inl ⟨hw,hrun E' s' w' hle' R'⟩
    ·rw[yRd hw]at hg
     have hs:∀w,nF P ops.toArray o undef a w:=fun w=> .inr ⟨by simpa using hw,rfl⟩
     exact uN hok ho fuel N listed a w hc hi (hs w) hM (dU hs fuel _ _ _ (nx hM hMR (tV E) hg))
   ·refine⟨fun h0=>absurd h0 hne,fun i hi=> ?_⟩
    have h1:=zIg h i (by rw[← hr];exact hi)
    split at h1<;>first|exact h1.elim|skip
    rename_i o ho
    have hput:∀v,yI (a.put o.dst v)=Cv.put (yI a) o.dst v:=fun v=>hgd.envOf_put (cS hf ho) v
    have hg:=mP he h1
    unfold zFe
    simp only[ySy,ho]
    by_cases hw:Region.wanted o (yielded ops.toArray a.tmps)=true
    ·rw[yRe hw]at hg ⊢
     cases hsl:zPj o.op with
     |true=>
      obtain⟨t,x,lo,hi',ho'⟩:=zXc hsl
      obtain⟨y,hfr,E',v,s',hle',R',hv,hh⟩:=zQl R he ho' hg
      rw[jK]at hfr
      rw[hsl]at hh
      have hM':zHu (kE (vR ops []) i N) w:=fun m hm=>hM m (by simp only[kE,yTf]at hm;exact hm.1)
      exact jB (hfr w) ⟨hM',ih _ _ _ _ _ _ _ _ (wT hc hi) hM' (hMR.keep.mono hle') (hgd.put (cS hf ho) _) (hle.trans hle') R' (by rw[hput];exact(he.mono hle').put _ hv) hh⟩
     |false=>
     have hdoes:=zSe hH R he hg
     rw[jK]at hdoes
     refine hdoes.mono ?_
     rintro y w' ⟨E',v,s',hle',R',hv,hh⟩
     rw[hsl]at hh
     obtain⟨hM',hh⟩:=(hMR.keep (bf:=vR ops []) (i:=i)).all hle' R' hh
     exact⟨hM',ih _ _ _ _ _ _ _ _ (wT hc hi) hM' (hMR.keep.mono hle') (hgd.put (cS hf ho) _) (hle.trans hle') R' (by rw[hput];exact(he.mono hle').put _ hv) hh⟩
    ·rw[yRd hw]at hg ⊢
     have hM':zHu (kE (vR ops []) i N) w:=fun m hm=>hM m (by simp only[kE,yTf]at hm;exact hm.1)
     exact⟨hM',ih _ _ _ _ _ _ _ _ (wT hc hi) hM' hMR.keep (hgd.put (cS hf ho) _) hle R (by rw[hput];exact he.put _ (tV E)) hg⟩
open Go Go.RowKit Cv
variable {P:Program} {k:Ko} {L:List HP}
structure SAnn where
 ι:Type
 slots:ι→List (Nat×V)
 rows:ι→List AObj
 keep:Nat→Bool:=fun _=>true
 un:Nat:=0
 slots0:ι→List (Nat×V):=fun _=>[]
 rows0:ι→List AObj:=fun _=>[]
 lits:List (Nat×Value):=[]
 opn:List Nat:=[]
def SAnn.ent (x:SAnn):SAnn:={x with slots:=x.slots0,rows:=x.rows0}
def lmC:Code→Nat
 | .region i _ _=>i
 | .seq a _=>lmC a
 | .block _ a=>lmC a
 | .loop a=>lmC a
 | .cond _ a _=>lmC a
 |_=>0
def yPq:Code→Nat
 | .region i _ _=>4*i
 | .cond c a b=>4*lmC (.cond c a b)+1
 | .seq a b=>4*lmC a+2
 | .block id _=>4*id+3
 |_=>0
def yGb (n:Nat):List (Nat×SAnn)→Option SAnn
 |[]=>none
 |(m,x)::l=>bif Nat.beq m n then some x else yGb n l
def z0f (t:Nat):List (Nat×V)→Option V
 |[]=>none
 |(u,v)::l=>bif Nat.beq u t then some v else z0f t l
def zJv (ρ:y3):List (Nat×V)→List V
 |[]=>[]
 |(t,_)::l=>ρ t::zJv ρ l
def zTb:List (Nat×V)→List V
 |[]=>[]
 |(_,v)::l=>v::zTb l
def zZm:AObj→Bool
 | .own _ _ _=>true
 | .nilo=>true
 | .fro _ _=>true
 | .objs _ _ _ _ _ _=>true
 |_=>false
def jA (π:NM):Nat→List AObj→NM
 |_,[]=>[]
 |p,o::os=>bif zZm o then jA π (p+1) os else match z9 p π with
  |some n=>(p,n)::jA π (p+1) os
  |none=>jA π (p+1) os
def cW (N:Nat) (π:NM):Nat→List AObj→NM
 |_,[]=>[]
 |p,o::os=>bif zZm o then(p,N+p)::cW N π (p+1) os else match z9 p π with
  |some n=>(p,n)::cW N π (p+1) os
  |none=>cW N π (p+1) os
def zGz (N:Nat) (st:NM):Nat→NM
 |0=>[]
 |p+1=>(p,(z9 p st).getD (N+p))::zGz N st p
theorem zId {N:Nat} {st:NM} {p q:Nat}:∀{m:Nat},z9 p (zGz N st m)=some q→q=N+p∨z9 p st=some q
 |0,h=>by cases h
 |m+1,h=>by
  simp only[zGz,z9]at h
  cases hb:Nat.beq m p
  ·rw[hb]at h;exact zId h
  ·rw[hb]at h
   have:=yRh hb
   subst this
   simp only[cond_true,Option.some.injEq]at h
   cases hs:z9 m st with
   |none=>rw[hs]at h;exact .inl h.symm
   |some n=>rw[hs]at h;exact .inr (by rw[← h];rfl)
theorem rP {π:NM} {p q:Nat}:∀{os:List AObj} {p0:Nat},z9 p (jA π p0 os)=some q→z9 p π=some q
 |[],p0,h=>by cases h
 |o::os,p0,h=>by
  simp only[jA]at h
  cases ho:zZm o<;>rw[ho]at h
  ·simp only[cond_false]at h
   split at h
   ·rename_i n hn
    simp only[z9]at h
    cases hb:Nat.beq p0 p
    ·rw[hb]at h;exact rP h
    ·rw[hb]at h
     cases h
     rw[← yRh hb];exact hn
   ·exact rP h
  ·exact rP h
theorem zBe {N:Nat} {π:NM} {p q:Nat}:∀{os:List AObj} {p0:Nat},z9 p (cW N π p0 os)=some q→q=N+p∨z9 p (jA π p0 os)=some q
 |[],p0,h=>by cases h
 |o::os,p0,h=>by
  simp only[cW,jA]at h ⊢
  cases ho:zZm o<;>rw[ho]at h
  ·simp only[cond_false]at h ⊢
   split at h
   ·rename_i n hn
    simp only[z9]at h ⊢
    cases hb:Nat.beq p0 p
    ·rw[hb]at h;exact zBe h
    ·rw[hb]at h;exact .inr h
   ·exact zBe h
  ·simp only[cond_true,z9]at h ⊢
   cases hb:Nat.beq p0 p
   ·rw[hb]at h;exact zBe h
   ·rw[hb]at h
    cases h
    left
    rw[yRh hb]
def sE (ren:NM) (slots:List (Nat×V)) (as:List Nat) (ρ:y3):y3:=fun t=>
 match z0f t slots with
 |some v=>pI ren v
 |none=>bif bT t as then .top else ρ t
mutual
def zDi (N:Nat):V→Bool
 | .nm n _=>Nat.blt n N
 | .el n _ _ _=>Nat.blt n N
 | .own n=>Nat.blt n N
 | .na n _ _=>Nat.blt n N
 | .mp n=>Nat.blt n N
 | .sub n _=>Nat.blt n N
 | .agg l=>zRh N l
 | .tup l=>zRh N l
 | .fn _ a b=>zRh N a && zRh N b
 | .ifc _ x=>zDi N x
 |_=>true
def zRh (N:Nat):List V→Bool
 |[]=>true
 |v::l=>zDi N v && zRh N l
end
def yNf (N:Nat):AObj→Bool
 | .cells vs _=>zRh N vs
 |_=>true
def zAj (N:Nat):List (Nat×AObj)→Bool
 |[]=>true
 |(n,o)::l=>Nat.blt n N && yNf N o && zAj N l
def qM (keep:Nat→Bool):List (Nat×AObj)→List (Nat×AObj)
 |[]=>[]
 |(n,o)::l=>bif keep n then(n,o)::qM keep l else qM keep l
def zGq:List (Nat×AObj)→St→Prop
 |[],_=>True
 |[(n,o)],s=>match s.getg n with
  |some o'=>o'=o
  |none=>False
 |(n,o)::l,s=>match s.getg n with
  |some o'=>o'=o∧zGq l (s.del n)
  |none=>False
def zJl (N:Nat) (ren:NM) (rows:List AObj) (kept:List (Nat×AObj)):St:=⟨qL ren 0 rows++kept,N+rows.length⟩
def zLg (next:y3→St→Prop) (Q:Exit→y3→St→Prop):Exit→y3→St→Prop
 | .normal,ρ,s=>next ρ s
 |e,ρ,s=>Q e ρ s
def z8y (id:Nat) (Q:Exit→y3→St→Prop):Exit→y3→St→Prop
 | .exit id',ρ,s=>bif Nat.beq id' id then Q .normal ρ s else Q (.exit id') ρ s
 |e,ρ,s=>Q e ρ s
def zMa (x:SAnn) (i:x.ι) (π0:NM) (ρ:y3) (s:St) (K:NM→St→Prop):Prop:=
 mtL (zTb (x.slots i)) (zJv ρ (x.slots i)) π0 s fun π s=>mtR 0 (x.rows i) π s fun π s=>bif nX (x.rows i).length π then K π s else False
def z9z (f:(Exit→y3→St→Prop)→y3→St→Prop) (Q:Exit→y3→St→Prop):Nat→y3→St→Prop
 |0,_,_=>False
 |n+1,ρ,s=>f (zLg (z9z f Q n) Q) ρ s
def zHg (n:Nat) (s:St):St:=
 match s.get n with
 |some (.adt _ m unf x)=>bif Nat.ble 1 m then⟨(n,(zIt (s.del n) n m (unf x)).1)::(zIt (s.del n) n m (unf x)).2.rows,(zIt (s.del n) n m (unf x)).2.nx⟩else s
 |_=>s
def zFp:List Nat→St→St
 |[],s=>s
 |n::l,s=>zFp l (zHg n s)
theorem zNc {w:World} {E:Ev} {s:St} (R:Rel k L E s w) (n:Nat):∃E',E.le E'∧Rel k L E' (zHg n s) w:=by
 unfold zHg
 split
 ·rename_i T m unf x hg
  cases hb:Nat.ble 1 m
  ·exact⟨E,Ev.le.refl _,R⟩
  ·obtain⟨E',h1,h2⟩:=(R.take hg).unfold (yTn hb)
   refine⟨E',h1,⟨h2.nx,?_⟩⟩
   have:=h2.out
   simpa using this
 ·exact⟨E,Ev.le.refl _,R⟩
theorem tW {w:World}:∀(l:List Nat) {E:Ev} {s:St} (R:Rel k L E s w),∃E',E.le E'∧Rel k L E' (zFp l s) w
 |[],E,s,R=>⟨E,Ev.le.refl _,R⟩
 |n::l,E,s,R=>by
  obtain⟨E1,h1,h2⟩:=zNc R n
  obtain⟨E2,h3,h4⟩:=tW l h2
  exact⟨E2,h1.trans h3,h4⟩
def zXn:List Nat→y3→St→St
 |[],_,s=>s
 |t::ts,ρ,s=>zXn ts ρ (match ρ t with
  | .nm n 0=>zHg n s
  |_=>s)
theorem zLy {w:World} {ρ:y3}:∀(l:List Nat) {E:Ev} {s:St} (R:Rel k L E s w),∃E',E.le E'∧Rel k L E' (zXn l ρ s) w
 |[],E,s,R=>⟨E,Ev.le.refl _,R⟩
 |t::ts,E,s,R=>by
  obtain⟨E1,h1,h2⟩:∃E',E.le E'∧Rel k L E' (match ρ t with
   | .nm n 0=>zHg n s
   |_=>s) w:=by
   split
   ·exact zNc R _
   ·exact⟨E,Ev.le.refl _,R⟩
  obtain⟨E2,h3,h4⟩:=zLy ts h2
  exact⟨E2,h1.trans h3,h4⟩
def yNp (t:Nat) (x:Value) (ρ:y3) (K:y3→Prop):Prop:=match ρ t with
 | .d (.v y)=>y=x∧K (fun u=>bif Nat.beq u t then .d (.v x)else ρ u)
 |_=>False
def zWj:List (Nat×Value)→y3→(y3→Prop)→Prop
 |[],_,_=>False
 |(t,x)::l,ρ,K=>yNp t x ρ K∨zWj l ρ K
def scode (P:Program) (H:Hnd) (J:List (Nat×SAnn)):List SAnn→Code→(Exit→y3→St→Prop)→y3→St→Prop
 |_,.skip,Q,ρ,s=>Q .normal ρ s
 |an,.seq a b,Q,ρ,s=>match yGb (yPq a) J with
  |none=>scode P H J (an.take (nL a)) a (zLg (fun ρ s=>scode P H J (an.drop (nL a)) b Q ρ s) Q) ρ s
  |some x=>match x.opn with
   |t0::ts=>scode P H J (an.take (nL a)) a (zLg (fun ρ s=>scode P H J (an.drop (nL a)) b Q ρ (zXn (t0::ts) ρ s)) Q) ρ s
   |[]=>match x.lits with
   |l0::ls=>scode P H J (an.take (nL a)) a (zLg (fun ρ s=>zWj (l0::ls) ρ fun ρ=>scode P H J (an.drop (nL a)) b Q ρ s) Q) ρ s
   |[]=>∃i0,zMa x.ent i0 [] ρ s fun π s1=>∃(I:x.ι→Prop),(bif zAj s1.nx (qM x.keep s1.rows)then
    scode P H J (an.take (nL a)) a (zLg (fun ρ' s'=>∃i',zMa x i' (jA π 0 (x.rows0 i0)) ρ' s' fun _ s2=>I i'∧zGq (qM x.keep s1.rows) s2) Q)
     (sE (zGz s1.nx (jA π 0 (x.rows0 i0)) (x.rows0 i0).length) (x.slots0 i0) [] ρ) (zJl s1.nx (zGz s1.nx (jA π 0 (x.rows0 i0)) (x.rows0 i0).length) (x.rows0 i0) (qM x.keep s1.rows))∧
    ∀i,I i→scode P H J (an.drop (nL a)) b Q (sE (zGz s1.nx (jA π 0 (x.rows0 i0)) (x.rows i).length) (x.slots i) (asg a) ρ) (zJl s1.nx (zGz s1.nx (jA π 0 (x.rows0 i0)) (x.rows i).length) (x.rows i) (qM x.keep s1.rows))else False)
 |an,.cond c a b,Q,ρ,s=>
  match sev ρ c with
  | .d (.v (.bool t))=>cnd t (scode P H J (an.take (nL a)) a Q ρ s) (scode P H J (an.drop (nL a)) b Q ρ s)
  |_=>False
 |an,.block id a,Q,ρ,s=>scode P H J an a (z8y id Q) ρ s
 |an,.loop a,Q,ρ,s=>
  match an with
  |[]=>False
  |x::rest=>bif Nat.blt 0 x.un then z9z (fun Q ρ s=>scode P H J rest a Q ρ s) Q x.un ρ s else ∃i0,zMa x i0 [] ρ s fun π s1=>∃(I:x.ι→Prop) (μ:x.ι→Nat),I i0∧(bif zAj s1.nx (qM x.keep s1.rows)then
    ∀i,I i→scode P H J rest a (zLg (fun ρ' s'=>∃i',zMa x i' (jA π 0 (x.rows i0)) ρ' s' fun _ s2=>I i'∧μ i'<μ i∧zGq (qM x.keep s1.rows) s2) Q)
     (sE (cW s1.nx π 0 (x.rows i0)) (x.slots i) (asg a) ρ) (zJl s1.nx (cW s1.nx π 0 (x.rows i0)) (x.rows i) (qM x.keep s1.rows))else False)
 |_,.exit id,Q,ρ,s=>Q (.exit id) ρ s
 |_,.ret,Q,ρ,s=>Q .ret ρ s
 |_,.region _ ops d,Q,ρ,s=>bif d then rO P H ops.toList (vR ops.toList []) ops.toList.length (Array.replicate ops.toList.length false) [] ρ s (Q .normal)
    else zRw P H ops.toList ops.toList ρ s (Q .normal)
 |_,_,_,_,_=>False
def zYn (k:Ko) (L:List HP) (n:Nat) (A:Nat→Bool) (e0:Env) (E0:Ev) (Q:Exit→y3→St→Prop):Exit→Act→World→Prop:=fun e a w=>
 Good n A e0 a∧∃E ρS s,E0.le E∧Rel k L E s w∧EnvR E ρS (yI a)∧Q e ρS s
mutual
theorem VR.low {F:PH} {tab tab':List Hd} {N:Nat} (h:∀n,n<N→∀hd,tab[n]? =some hd→tab'[n]? =some hd):∀{v:V} {y:Value},zDi N v=true→VR ⟨F,tab⟩ v y→VR ⟨F,tab'⟩ v y
 | .top,y,hl,e=>by simp only[VR]
 | .d d,y,hl,e=>by simpa only[VR]using e
 | .nm n o,y,hl,e=>by
   simp only[zDi,yUb]at hl
   simp only[VR]at e ⊢
   obtain⟨b,oo,l,h1,h2⟩:=e
   exact⟨b,oo,l,h n hl _ h1,h2⟩
 | .el n sz i f,y,hl,e=>by
   simp only[zDi,yUb]at hl
   simp only[VR]at e ⊢
   obtain⟨b,oo,m,c,l,h1,h2⟩:=e
   exact⟨b,oo,m,c,l,h n hl _ h1,h2⟩
 | .re sz els i f,y,hl,e=>by simpa only[VR]using e
 | .na n o i,y,hl,e=>by
   simp only[zDi,yUb]at hl
   simp only[VR]at e ⊢
   obtain⟨b,oo,l,h1,h2⟩:=e
   exact⟨b,oo,l,h n hl _ h1,h2⟩
 | .own n,y,hl,e=>by
   simp only[zDi,yUb]at hl
   simp only[VR]at e ⊢
   obtain⟨l,h1,h2⟩:=e
   exact⟨l,h n hl _ h1,h2⟩
 | .mp n,y,hl,e=>by
   simp only[zDi,yUb]at hl
   simp only[VR]at e ⊢
   obtain⟨b,l,h1,h2⟩:=e
   exact⟨b,l,h n hl _ h1,h2⟩
 | .sub n i,y,hl,e=>by
   simp only[zDi,yUb]at hl
   simp only[VR]at e ⊢
   obtain⟨hd,l,b,oo,h1,h2⟩:=e
   exact⟨hd,l,b,oo,h n hl _ h1,h2⟩
 | .agg l,y,hl,e=>by
   simp only[zDi]at hl
   simp only[VR]at e ⊢
   obtain⟨ys,h1,h2⟩:=e
   exact⟨ys,h1,VRL.low h hl h2⟩
 | .tup l,y,hl,e=>by
   simp only[zDi]at hl
   simp only[VR]at e ⊢
   obtain⟨ys,h1,h2⟩:=e
   exact⟨ys,h1,VRL.low h hl h2⟩
 | .fn f a b,y,hl,e=>by
   simp only[zDi,yRq]at hl
   simp only[VR]at e ⊢
   obtain⟨as,bs,h1,h2,h3⟩:=e
   exact⟨as,bs,h1,VRL.low h hl.1 h2,VRL.low h hl.2 h3⟩
 | .ifc t x,y,hl,e=>by
   simp only[zDi]at hl
   simp only[VR]at e ⊢
   obtain⟨z,h1,h2⟩:=e
   exact⟨z,h1,VR.low h hl h2⟩
theorem VRL.low {F:PH} {tab tab':List Hd} {N:Nat} (h:∀n,n<N→∀hd,tab[n]? =some hd→tab'[n]? =some hd):∀{vs:List V} {l:List Value},zRh N vs=true→VRL ⟨F,tab⟩ vs l→VRL ⟨F,tab'⟩ vs l
 |[],l,hl,e=>by simpa only[VRL]using e
 |v::vs,l,hl,e=>by
  simp only[zRh,yRq]at hl
  simp only[VRL]at e ⊢
  obtain⟨x,xs,h1,h2,h3⟩:=e
  exact⟨x,xs,h1,VR.low h hl.1 h2,VRL.low h hl.2 h3⟩
end
theorem rowHP.low {F:PH} {tab tab':List Hd} {N:Nat} (h:∀n,n<N→∀hd,tab[n]? =some hd→tab'[n]? =some hd) {o:AObj} (hl:yNf N o=true) {hd:Hd} {x:PH} (e:rowHP F o tab hd x):rowHP F o tab' hd x:=by
 cases o<;>first|exact e.tab rfl|skip
 simp only[rowHP]at e ⊢
 obtain⟨b,l,h1,h2,h3⟩:=e
 exact⟨b,l,h1,h2.low h hl,h3⟩
theorem zNd {E:Ev} {ρS:y3} {ρ:Env} (he:EnvR E ρS ρ):∀l:List (Nat×V),VRL E (zJv ρS l) (l.map fun p=>ρ p.1)
 |[]=>by simp[zJv,VRL]
 |(t,v)::l=>by simp only[zJv,yRs,VRL];exact⟨_,_,rfl,he t,zNd he l⟩
theorem zUi {F:PH} {tl:List Hd} {ρ:Env}:∀{l:List (Nat×V)},VRL ⟨F,tl⟩ (zTb l) (l.map fun p=>ρ p.1)→∀{t:Nat} {v:V},z0f t l=some v→VR ⟨F,tl⟩ v (ρ t)
 |[],_,t,v,h=>by cases h
 |(u,x)::l,hv,t,v,h=>by
  simp only[zTb,yRs,VRL]at hv
  obtain⟨y,ys,e,h1,h2⟩:=hv
  cases e
  simp only[z0f]at h
  cases hb:Nat.beq u t
  ·rw[hb]at h;exact zUi h2 h
  ·rw[hb]at h
   cases h
   rw[← yRh hb];exact h1
theorem zPs {w:World} {E3 E4:Ev} (hF:E3.F=E4.F) {N:Nat} (hlow:∀n,n<N→∀hd,E3.tab[n]? =some hd→E4.tab[n]? =some hd):∀{kept:List (Nat×AObj)} {s:St} {M:List HP},zGq kept s→zAj N kept=true→
 Hp k w (s.rows.map (rHP E3)++M)→Hp k w (kept.map (rHP E4)++M)
 |[],s,M,_,_,H=>by
  have:∀(l:List (Nat×AObj)),Hp k w (l.map (rHP E3)++M)→Hp k w M:=by
   intro l
   induction l with
   |nil=>intro H;exact H
   |cons a l ih=>intro H;exact ih H.drop
  exact this _ H
 |(n,o)::kept,s,M,hk,hl,H=>by
  simp only[zAj,yRq,yUb]at hl
  have hget:s.get n=some o∧zGq kept (s.del n):=by
   cases kept with
   |nil=>
    simp only[zGq]at hk
    split at hk<;>first|exact hk.elim|skip
    rename_i o' ho
    subst hk
    exact⟨(sU ho).1,trivial⟩
   |cons a l=>
    simp only[zGq]at hk
    split at hk<;>first|exact hk.elim|skip
    rename_i o' ho
    obtain⟨rfl,hk⟩:=hk
    exact⟨(sU ho).1,hk⟩
  have H1:Hp k w (rHP E3 (n,o)::((s.del n).rows.map (rHP E3)++M)):=by
   refine H.perm ?_
   have:=((wD hget.1).1.map (rHP E3)).append_right M
   simpa[St.del]using this
  have H2:Hp k w ((s.del n).rows.map (rHP E3)++(rHP E3 (n,o)::M)):=H1.perm yRr.symm
  have H3:=zPs hF hlow hget.2 hl.2 H2
  refine(H3.perm yRr).imp fun x hx=> ?_
  rcases hx with⟨e,e2⟩|⟨hd,h1,h2⟩
  ·exact .inl ⟨e,e2⟩
  ·exact .inr ⟨hd,hlow n hl.1.1 _ h1,hF▸h2.low hlow hl.1.2⟩
theorem lX {w:World} {x:SAnn} {i:x.ι} {π0:NM} {ρS:y3} {ρ:Env} {s:St} {K:NM→St→Prop} {E:Ev} (h:zMa x i π0 ρS s K) (R:Rel k L E s w) (he:EnvR E ρS ρ) (hw0:WfM π0 E.tab):
 ∃E3 s3 π3,E.le E3∧K π3 s3∧Ext π0 π3∧WfM π3 E3.tab∧E3.tab.length=s3.nx∧∀(E1:Ev) (kept:List (Nat×AObj)) (N:Nat) (ρ0:y3) (as:List Nat) (ren:NM),(∀p q,z9 p ren=some q→q=N+p∨(z9 p π3=some q∧q<N))→E1.tab.length=N→FLe E1.F E3.F→E1.tab<+:E3.tab→(∀E4:Ev,E3.F=E4.F→E1.le E4→(∀n,n<N→∀hd,E3.tab[n]? =some hd→E4.tab[n]? =some hd)→∀M,Hp k w (s3.rows.map (rHP E3)++M)→Hp k w (kept.map (rHP E4)++M))→(∀t,bT t as=false→VR E1 (ρ0 t) (ρ t))→
  ∃E4,E1.le E4∧Rel k L E4 (zJl N ren (x.rows i) kept) w∧EnvR E4 (sE ren (x.slots i) as ρ0) ρ:=by
 unfold zMa at h
 obtain⟨E2,π2,s2,q1,q2,q3⟩:=pM h R hw0 (zNd he _)
 obtain⟨E3,π3,s3,r1,r2⟩:=zPh q3 q1.rel q1.wf
 obtain⟨hlt,hk⟩:=zO r2
 have hlt:=dV hlt
 refine⟨E3,s3,π3,q1.le.trans r1.le,hk,q1.ext.trans r1.ext,r1.wf,r1.rel.nx,?_⟩
 intro E1 kept N ρ0 as ren hre hN hF hpre hkept hfix
 let m:=(x.rows i).length
 let tl:List Hd:=(List.range m).map fun p=>(E3.tab[(z9 p π3).getD 0]?).getD (undef,[])
 have hloc:Loc π3 E3.tab tl:=by
  intro p n hp
  obtain⟨hd,h'⟩:=r1.wf p n hp
  refine⟨hd,h',?_⟩
  show((List.range m).map _)[p]? =_
  rw[yTb,yVu (hlt p n hp)]
  simp only[yTd,hp,yTi,h']
 have htl:tl.length=m:=by simp[tl]
 let E4:Ev:=⟨E3.F,E1.tab++tl⟩
 have hle4:E1.le E4:=⟨hF,yUs _ _⟩
 have hlow3:∀n,n<N→∀hd,E3.tab[n]? =some hd→E4.tab[n]? =some hd:=by
  intro n hn hd e
  have h1:E1.tab[n]? =some hd:=by
   rw[ySl (by omega)]
   have:E3.tab[n]? =some (E1.tab[n]'(by omega)):=zOy hpre (ySl (by omega))
   rw[this]at e;exact e
  exact hle4.get h1
 have hren:∀p n hd,z9 p ren=some n→tl[p]? =some hd→E4.tab[n]? =some hd:=by
  intro p n hd hp ht
  rcases hre p n hp with rfl|⟨h1,h2⟩
  ·show(E1.tab++tl)[N+p]? =some hd
   rw[← hN,yTj (by omega),show E1.tab.length+p-E1.tab.length=p by omega]
   exact ht
  ·obtain⟨hd',e1,e2⟩:=hloc p n h1
   rw[ht]at e2;cases e2
   exact hlow3 n h2 _ e1
 refine⟨E4,hle4,⟨by show(E1.tab++tl).length=N+m;rw[yRi,htl,hN],?_⟩,?_⟩
 ·have H:=r1.rel.frontL
  have H1:=jM (g:=rHP ⟨E3.F,tl⟩) (fun r y hy=>by
   rcases hy with⟨e1,e2⟩|⟨n,h1,h2⟩
   ·exact .inl ⟨e1,e2⟩
   ·right
    obtain⟨hd,h3,h4⟩:=h2 E3 π3 (Ev.le.refl _) (Ext.refl _) tl hloc
    obtain⟨hd',h5,h6⟩:=hloc _ _ h1
    rw[h3]at h5;cases h5
    exact⟨hd,h6,h4⟩) H
  have H2:=bH (E:=⟨E3.F,tl⟩) (E2:=E4) rfl hren H1
  have H3:Hp k w (s3.rows.map (rHP E3)++((qL ren 0 (x.rows i)).map (rHP E4)++fz E3.F::L)):=by
   refine H2.perm ?_
   rw[← yRn,← yRn]
   exact yTc.append_right _
  have H4:=hkept E4 rfl hle4 hlow3 _ H3
  refine H4.perm ?_
  show(kept.map (rHP E4)++((qL ren 0 (x.rows i)).map (rHP E4)++fz E3.F::L)).Perm ((qL ren 0 (x.rows i)++kept).map (rHP E4)++fz E4.F::L)
  rw[← yRn,yRm]
  exact yTc.append_right _
 ·intro t
  have hsl:VRL ⟨E3.F,tl⟩ (zTb (x.slots i)) ((x.slots i).map fun p=>ρ p.1):=q2 E3 π3 r1.le r1.ext tl hloc
  unfold sE
  split
  ·rename_i v hv
   exact(zUi hsl hv).ren hren
  ·cases hb:bT t as
   ·exact(hfix t hb).mono hle4
   ·simp only[cond_true,VR]
theorem sY {w:World} {E:Ev} {keep:Nat→Bool}:∀{l:List (Nat×AObj)} {M:List HP},Hp k w (l.map (rHP E)++M)→Hp k w ((qM keep l).map (rHP E)++M)
 |[],M,H=>H
 |(n,o)::l,M,H=>by
  simp only[qM]
  cases keep n
  ·exact sY H.drop
  ·have H1:Hp k w (l.map (rHP E)++(rHP E (n,o)::M)):=H.perm yRr.symm
   exact(sY H1).perm yRr
theorem zLp {E:Ev} {env:Env} {K:y3→Prop}:∀{l:List (Nat×Value)} {ρ:y3},zWj l ρ K→EnvR E ρ env→∃ρ',EnvR E ρ' env∧K ρ'
 |[],ρ,h,_=>h.elim
 |(t,x)::l,ρ,h,he=>by
  rcases h with h|h
  ·unfold yNp at h
   split at h<;>first|exact h.elim|skip
   rename_i y hy
   obtain⟨rfl,hk⟩:=h
   refine⟨_,fun u=> ?_,hk⟩
   have:=he u
   cases hb:Nat.beq u t
   ·exact this
   ·rw[yRh hb]at this ⊢
    rw[hy]at this
    exact this
  ·exact zLp h he
theorem zQn {H:Hnd} (hH:HOk P H) (hm:P.follows .mixedOrders=true) {J:List (Nat×SAnn)} {n:Nat}:∀(c:Code) (an:List SAnn) (Q:Exit→y3→St→Prop) (A:Nat→Bool) (e0:Env) (E0 E:Ev) (a:Act) (w:World) (ρS:y3) (s:St),
 okC n c=true→(∀t∈asg c,A t=true)→Good n A e0 a→E0.le E→Rel k L E s w→EnvR E ρS (yI a)→scode P H J an c Q ρS s→c.wp P (zYn k L n A e0 E0 Q) a w:=by
 intro c
 induction c with
 |skip=>intro an Q A e0 E0 E a w ρS s _ _ hg hle R he h;exact wp_skip ⟨hg,E,ρS,s,hle,R,he,h⟩
 |region id ops d=>
  intro an Q A e0 E0 E a w ρS s hc hA hg hle R he h
  simp only[okC,yRq]at hc
  have hdst:=zRc (A:=A) hc.1 hA
  cases d
  ·refine wp_region_list ?_
   exact zEy (Q:=zYn k L n A e0 E0 Q) (E0:=E0) (K:=Q .normal) hH (fun a w E ρS s hg hle R he h=>⟨hg,E,ρS,s,hle,R,he,h⟩) ops.toList a w E ρS s hdst hg hle R he h
  ·refine wp_region_any hm ?_
   have hok:mA ops.toList (vR ops.toList [])=true:=hc.2
   have he':EnvR E ρS (yI a):=he
   have R':Rel k L E s w.drew:=⟨R.nx,R.hp.drew⟩
   refine uH (Q:=fun a w=>zYn k L n A e0 E0 Q .normal a w) (fun _ _ h=>h) ops.size _ _ _ (M:=[]) (bf:=vR ops.toList []) ?_
   have hclosed:mE ops.toList (x5 (Array.replicate ops.toList.length false)):=by
    intro i o ho hi
    exfalso
    unfold x5 at hi
    simp[ySu]at hi
    rw[yWj]at hi
    split at hi<;>simp at hi
   have:=zUf (P:=P) (K:=Q .normal) (E0:=E0) (Q:=fun a w=>zYn k L n A e0 E0 Q .normal a w) hH hok hdst (fun a w E ρS s hg hle R he h=>⟨hg,E,ρS,s,hle,R,he,h⟩) ops.toList.length _ [] [] a _ E ρS s hclosed (fun m hm=>by cases hm) .nil hg hle R' he' h
   simpa using this
 |seq x y ihx ihy=>
  intro an Q A e0 E0 E a w ρS s hc hA hg hle R he h
  simp only[okC,yRq,asg,ySg]at hc hA
  simp only[scode]at h
  split at h
  ·refine wp_seq (wp_mono (ihx _ _ A e0 E0 E a w ρS s hc.1 (fun t ht=>hA t (.inl ht)) hg hle R he h) ?_)
   rintro e a' w' ⟨hg',E',ρ',s',hle',R',he',h'⟩
   cases e<;>first|exact ihy _ _ A e0 E0 E' a' w' ρ' s' hc.2 (fun t ht=>hA t (.inr ht)) hg' hle' R' he' h'|exact⟨hg',E',ρ',s',hle',R',he',h'⟩
  rename_i jn hjn
  split at h
  ·rename_i t0 ts hts
   refine wp_seq (wp_mono (ihx _ _ A e0 E0 E a w ρS s hc.1 (fun t ht=>hA t (.inl ht)) hg hle R he h) ?_)
   rintro e a' w' ⟨hg',E',ρ',s',hle',R',he',h'⟩
   cases e<;>first|exact⟨hg',E',ρ',s',hle',R',he',h'⟩|skip
   obtain⟨E2,hle2,R2⟩:=zLy (ρ:=ρ') (t0::ts) R'
   exact ihy _ _ A e0 E0 E2 a' w' ρ' _ hc.2 (fun t ht=>hA t (.inr ht)) hg' (hle'.trans hle2) R2 (he'.mono hle2) h'
  split at h
  ·rename_i l0 ls hls
   refine wp_seq (wp_mono (ihx _ _ A e0 E0 E a w ρS s hc.1 (fun t ht=>hA t (.inl ht)) hg hle R he h) ?_)
   rintro e a' w' ⟨hg',E',ρ',s',hle',R',he',h'⟩
   cases e<;>first|exact⟨hg',E',ρ',s',hle',R',he',h'⟩|skip
   obtain⟨ρ2,he2,h2⟩:=zLp h' he'
   exact ihy _ _ A e0 E0 E' a' w' ρ2 s' hc.2 (fun t ht=>hA t (.inr ht)) hg' hle' R' he2 h2
  ·obtain⟨i0,h⟩:=h
   obtain⟨E1,s1,π1,hle1,⟨I,hround⟩,_,hwf1,hn1,hmk⟩:=lX (x:=jn.ent) h R he (fun p n e=>by cases e)
   obtain⟨hlow,hbody,hrest⟩:=zO hround
   have hnlt:∀p q,z9 p (jA π1 0 (jn.rows0 i0))=some q→z9 p π1=some q∧q<s1.nx:=fun p q e=>by
    have h1:=rP e
    obtain⟨hd,h2⟩:=hwf1 p q h1
    exact⟨h1,by rw[← hn1];exact(yRf.1 h2).1⟩
   have hfix0:∀t,bT t []=false→VR E1 (ρS t) (yI a t):=fun t _=>(he t).mono hle1
   obtain⟨E2,hle2,R2,he2⟩:=hmk E1 (qM jn.keep s1.rows) s1.nx ρS [] (zGz s1.nx (jA π1 0 (jn.rows0 i0)) (jn.rows0 i0).length) (fun p q e=>(zId e).imp_right (hnlt p q)) hn1 (FLe.refl _) (yVg _) (fun E4 _ hle4 _ M H=>jM (fun r y=>rHP.mono hle4 r) (sY H)) hfix0
   have hgB:Good n (fun t=>A t && bT t (asg x)) (yI a) a:=⟨hg.size,hg.defers,fun _ _=>rfl⟩
   refine wp_seq (wp_mono (ihx _ _ (fun t=>A t && bT t (asg x)) (yI a) E2 E2 a w _ _ hc.1 (fun t ht=>by rw[hA t (.inl ht),memN_iff.2 ht];rfl) hgB (Ev.le.refl _) R2 he2 hbody) ?_)
   rintro e a2 w2 ⟨hg2,E3,ρ3,s3,hle3,R3,he3,h2⟩
   have hg3:Good n A e0 a2:=⟨hg2.size,hg2.defers,fun t ht=>by rw[hg2.same t (by simp[ht]),hg.same t ht]⟩
   have hle03:E0.le E3:=hle.trans (hle1.trans (hle2.trans hle3))
   cases e<;>first|exact⟨hg3,E3,ρ3,s3,hle03,R3,he3,h2⟩|skip
   obtain⟨i',h2⟩:=h2
   have hw3:WfM (jA π1 0 (jn.rows0 i0)) E3.tab:=fun p q e=>by
    obtain⟨hd,h2⟩:=hwf1 p q (hnlt p q e).1
    exact⟨hd,(hle2.trans hle3).get h2⟩
   obtain⟨E4,s4,π4,hle4,⟨hinv',hkept⟩,hext4,_,hn4,hmk'⟩:=lX h2 R3 he3 hw3
   have hfix2:∀t,bT t (asg x)=false→VR E1 (ρS t) (yI a2 t):=fun t ht=>by rw[hg2.same t (by simp[ht])];exact(he t).mono hle1
   obtain⟨E5,hle5,R5,he5⟩:=hmk' E1 (qM jn.keep s1.rows) s1.nx ρS (asg x) (zGz s1.nx (jA π1 0 (jn.rows0 i0)) (jn.rows i').length) (fun p q e=>(zId e).imp_right fun h=>⟨hext4 p q h,(hnlt p q h).2⟩) hn1 (hle2.trans (hle3.trans hle4)).1 (hle2.trans (hle3.trans hle4)).2
    (fun E6 hF _ hl M H=>zPs (E3:=E4) (E4:=E6) hF hl hkept hlow H) hfix2
   exact ihy _ _ A e0 E0 E5 a2 w2 _ _ hc.2 (fun t ht=>hA t (.inr ht)) hg3 (hle.trans (hle1.trans hle5)) R5 he5 (hrest i' hinv')
 |cond c x y ihx ihy=>
  intro an Q A e0 E0 E a w ρS s hc hA hg hle R he h
  simp only[okC,yRq,asg,ySg]at hc hA
  simp only[scode]at h
  split at h<;>first|exact h.elim|skip
  rename_i t ht
  have hv:=he.ev c
  rw[ht]at hv
  simp only[VR,DR]at hv
  have hv1:=hv.1
  rw[jK]at hv1
  refine wp_cond_split hv1 (fun e=> ?_) (fun e=> ?_)
  ·subst e;exact ihx _ _ A e0 E0 E a w ρS s hc.1 (fun t ht=>hA t (.inl ht)) hg hle R he h
  ·subst e;exact ihy _ _ A e0 E0 E a w ρS s hc.2 (fun t ht=>hA t (.inr ht)) hg hle R he h
 |block id x ih=>
  intro an Q A e0 E0 E a w ρS s hc hA hg hle R he h
  refine wp_block (wp_mono (ih an _ A e0 E0 E a w ρS s hc hA hg hle R he h) ?_)
  rintro e a' w' ⟨hg',E',ρ',s',hle',R',he',h'⟩
  cases e<;>first|exact⟨hg',E',ρ',s',hle',R',he',h'⟩|skip
  rename_i id'
  simp only[Exit.inBlock]
  simp only[z8y]at h'
  split
  ·rename_i heq;subst heq;rw[Nat.beq_refl]at h';exact⟨hg',E',ρ',s',hle',R',he',h'⟩
  ·rename_i hne
   have hb:Nat.beq id' id=false:=by
    cases hb:Nat.beq id' id with
    |false=>rfl
    |true=>exact absurd (yRh hb) hne
   rw[hb]at h'
   exact⟨hg',E',ρ',s',hle',R',he',h'⟩
 |loop x ih=>
  intro an Q A e0 E0 E a w ρS s hc hA hg hle R he h
  cases an with
  |nil=>exact h.elim
  |cons an rest=>
   have hh:=h9 h
   clear h
   rcases hh with⟨_,h⟩|⟨_,h⟩
   ·refine wp_loop_rounds an.un ?_
    revert h
    generalize an.un=m
    intro h
    induction m generalizing a w E ρS s with
    |zero=>exact h.elim
    |succ m ihm=>
     rw[rounds_succ]
     simp only[z9z]at h
     refine wp_mono (ih rest _ A e0 E0 E a w ρS s hc hA hg hle R he h) ?_
     rintro e a' w' ⟨hg',E',ρ',s',hle',R',he',h'⟩
     cases e<;>first|exact ihm E' a' w' ρ' s' hg' hle' R' he' h'|exact⟨hg',E',ρ',s',hle',R',he',h'⟩
   obtain⟨i0,h⟩:=h
   obtain⟨E1,s1,π1,hle1,⟨I,μ,hinv0,hround⟩,_,hwf1,hn1,hmk⟩:=lX h R he (fun p n e=>by cases e)
   obtain⟨hlow,hround⟩:=zO hround
   have hnlt:∀p q,z9 p (jA π1 0 (an.rows i0))=some q→z9 p π1=some q∧q<s1.nx:=fun p q e=>by
    have h1:=rP e
    obtain⟨hd,h2⟩:=hwf1 p q h1
    exact⟨h1,by rw[← hn1];exact(yRf.1 h2).1⟩
   have hfix0:∀t,bT t (asg x)=false→VR E1 (ρS t) (yI a t):=fun t _=>(he t).mono hle1
   obtain⟨E2,hle2,R2,he2⟩:=hmk E1 (qM an.keep s1.rows) s1.nx ρS (asg x) (cW s1.nx π1 0 (an.rows i0)) (fun p q e=>(zBe e).imp_right (hnlt p q)) hn1 (FLe.refl _) (yVg _) (fun E4 _ hle4 _ M H=>jM (fun r y=>rHP.mono hle4 r) (sY H)) hfix0
   refine wp_loop_ghost (fun m a' w'=>Good n A e0 a'∧(∀t,bT t (asg x)=false→yI a' t=yI a t)∧∃i E',E1.le E'∧I i∧Rel k L E' (zJl s1.nx (cW s1.nx π1 0 (an.rows i0)) (an.rows i) (qM an.keep s1.rows)) w'∧
    EnvR E' (sE (cW s1.nx π1 0 (an.rows i0)) (an.slots i) (asg x) ρS) (yI a')∧μ i=m) (μ i0) ⟨hg,fun _ _=>rfl,i0,E2,hle2,hinv0,R2,he2,rfl⟩ ?_
   rintro m a' w' ⟨hg',hfix,i,E',hle',hinv,R',he',rfl⟩
   have h1:=hround i hinv
   have hgB:Good n (fun t=>A t && bT t (asg x)) (yI a') a':=⟨hg'.size,hg'.defers,fun _ _=>rfl⟩
   refine wp_mono (ih rest _ (fun t=>A t && bT t (asg x)) (yI a') E' E' a' w' _ _ hc (fun t ht=>by rw[hA t ht,memN_iff.2 ht];rfl) hgB (Ev.le.refl _) R' he' h1) ?_
   rintro e a2 w2 ⟨hg2,E3,ρ3,s3,hle3,R3,he3,h2⟩
   have hg3:Good n A e0 a2:=⟨hg2.size,hg2.defers,fun t ht=>by rw[hg2.same t (by simp[ht]),hg'.same t ht]⟩
   have hle03:E0.le E3:=hle.trans (hle1.trans (hle'.trans hle3))
   cases e<;>first|exact⟨hg3,E3,ρ3,s3,hle03,R3,he3,h2⟩|skip
   obtain⟨i',h2⟩:=h2
   have hw3:WfM (jA π1 0 (an.rows i0)) E3.tab:=fun p q e=>by
    obtain⟨hd,h2⟩:=hwf1 p q (hnlt p q e).1
    exact⟨hd,(hle'.trans hle3).get h2⟩
   obtain⟨E4,s4,π4,hle4,⟨hinv',hμ,hkept⟩,hext4,_,hn4,hmk'⟩:=lX h2 R3 he3 hw3
   have hfix2:∀t,bT t (asg x)=false→yI a2 t=yI a t:=fun t ht=>by rw[hg2.same t (by simp[ht]),hfix t ht]
   obtain⟨E5,hle5,R5,he5⟩:=hmk' E1 (qM an.keep s1.rows) s1.nx ρS (asg x) (cW s1.nx π1 0 (an.rows i0)) (fun p q e=>(zBe e).imp_right fun h=>⟨hext4 p q h,(hnlt p q h).2⟩) hn1 (hle'.trans (hle3.trans hle4)).1 (hle'.trans (hle3.trans hle4)).2
    (fun E6 hF _ hl M H=>zPs (E3:=E4) (E4:=E6) hF hl hkept hlow H) (fun t ht=>by rw[hfix2 t ht];exact hfix0 t ht)
   exact⟨_,hμ,hg3,hfix2,i',E5,hle5,hinv',R5,he5,rfl⟩
 |exit id=>intro an Q A e0 E0 E a w ρS s _ _ hg hle R he h;exact wp_exit ⟨hg,E,ρS,s,hle,R,he,h⟩
 |ret=>intro an Q A e0 E0 E a w ρS s _ _ hg hle R he h;exact wp_ret ⟨hg,E,ρS,s,hle,R,he,h⟩
 |rangeFunc f ps x y ihx ihy=>intro an Q A e0 E0 E a w ρS s _ _ hg hle R he h;exact h.elim
 |scope x ih=>intro an Q A e0 E0 E a w ρS s _ _ hg hle R he h;exact h.elim
 |label l=>intro an Q A e0 E0 E a w ρS s _ _ hg hle R he h;exact h.elim
 |goto l=>intro an Q A e0 E0 E a w ρS s _ _ hg hle R he h;exact h.elim
 |refuse t=>intro an Q A e0 E0 E a w ρS s _ _ hg hle R he h;exact h.elim
open Go Go.RowKit Cv
variable {P:Program} {k:Ko} {L:List HP}
def zOp (P:Program) (ρ:y3) (s:St):List ResultVar→Option (List V)
 |[]=>some []
 | .tmp t::rs=>match zOp P ρ s rs with
   |some vs=>some (ρ t::vs)
   |none=>none
 | .cell a t::rs=>match ρ a with
   | .nm n off=>match s.get n with
     |some (.cells vs _)=>match z0n P t vs off with
      |some v=>match zOp P ρ s rs with
       |some us=>some (v::us)
       |none=>none
      |none=>none
     |_=>none
   |_=>none
def zNa:List V→V
 |[v]=>v
 |vs=> .tup vs
theorem eI {E:Ev} {s:St} {w:World} (R:Rel k L E s w) {ρS:y3} {a:Act} (he:EnvR E ρS (yI a)):∀{rs:List ResultVar} {vs:List V},zOp P ρS s rs=some vs→∃ys,(rs.mapM (zNu a.tmps)).run P w= .ok ys w∧VRL E vs ys
 |[],vs,h=>by
  simp only[zOp,Option.some.injEq]at h
  subst h
  exact⟨[],rfl,VRL.nil⟩
 | .tmp t::rs,vs,h=>by
   simp only[zOp]at h
   split at h<;>first|(cases h;done)|skip
   rename_i us hus
   cases h
   obtain⟨ys,h1,h2⟩:=eI R he hus
   refine⟨yI a t::ys,?_,by simp only[VRL];exact⟨_,_,rfl,he t,h2⟩⟩
   simp only[List.mapM_cons,zNu,bind,pure,run_bind,Sem.bind,Sem.run]at h1 ⊢
   rw[h1]
 | .cell c t::rs,vs,h=>by
   simp only[zOp]at h
   split at h<;>first|(cases h;done)|skip
   rename_i n off hc
   split at h<;>first|(cases h;done)|skip
   rename_i cs T hg
   split at h<;>first|(cases h;done)|skip
   rename_i v hp
   split at h<;>first|(cases h;done)|skip
   rename_i us hus
   cases h
   obtain⟨ys,h1,h2⟩:=eI R he hus
   have hv:=he c
   rw[hc]at hv
   simp only[VR]at hv
   obtain⟨b,oo,l,e1,e2⟩:=hv
   obtain⟨b',l',sub,q1,q2,q3⟩:=R.cells hg
   rw[e1]at q1;cases q1
   obtain⟨y,hy,hh⟩:=zEs q2 q3 hp
   refine⟨y::ys,?_,by simp only[VRL];exact⟨_,_,rfl,hy,h2⟩⟩
   rw[ySd]at e2
   have e2':a.tmps.getD c undef= .pointer (some ⟨b,off,none⟩):=e2
   unfold nZ at hh
   simp only[List.mapM_cons,zNu,bind,pure,run_bind,Sem.bind,Sem.run,e2',asAddr,hh]at h1 ⊢
   rw[h1]
def fnS (P:Program) (fn:Func) (K:V→St→Prop):Exit→y3→St→Prop
 | .normal,ρ,s=>optK (zOp P ρ s fn.results.toList) fun vs=>K (zNa vs) s
 | .ret,ρ,s=>optK (zOp P ρ s fn.results.toList) fun vs=>K (zNa vs) s
 |_,_,_=>False
def yAl:List V→Nat→V
 |[],_=> .top
 |v::_,0=>v
 |_::l,n+1=>yAl l n
def zIj (args:List V):y3:=fun t=>yAl args t
theorem z1j {E:Ev}:∀{vs:List V} {ys:List Value},VRL E vs ys→∀t,VR E (yAl vs t) (ys.getD t undef)
 |[],ys,h,t=>by simp only[yAl,VR]
 |v::vs,ys,h,t=>by
  simp only[VRL]at h
  obtain⟨x,xs,rfl,h1,h2⟩:=h
  cases t with
  |zero=>exact h1
  |succ t=>simpa[yAl]using z1j h2 t
theorem nA {f:FuncId} {args:Array Value} {w:World} {K:Value→World→Prop} (hb:vO P f=true) (h:Calls P f args w fun e w'=>∃v,e= .returned v∧K v w'):Does P (callFunc f args) w K:=by
 unfold vO at hb
 split at hb
 ·rename_i fn hfn
  simp only[yRq,yVo,Bool.not_eq_eq_eq_not,Bool.not_true]at hb
  unfold Does
  have:(callFunc f args).run P w= .ok (.enter f args) w:=by
   simp only[callFunc,bind,pure,run_bind,program,Sem.run,Sem.bind,hfn,hb.1,hb.2,yRv,if_false]
  rw[this]
  exact h
 ·cases hb
theorem pT {H:Hnd} (hH:HOk P H) (hm:P.follows .mixedOrders=true) {f:FuncId} {fn:Func} {c:Code} (hf:P.funcs[f]? =some fn) (hb:fn.body=some c) (hok:okC fn.ntmps c=true) (J:List (Nat×SAnn)) (an:List SAnn)
 {args:List V} (hsz:Nat.ble args.length fn.ntmps=true) {K:V→St→Prop} {s:St} (h:scode P H J an c (fnS P fn K) (zIj args) s) {E:Ev} {w:World} {ys:List Value} (R:Rel k L E s w) (hv:VRL E args ys):
 Calls P f ys.toArray w fun e w'=>∃v,e= .returned v∧Outc k L E K v w':=by
 refine calls_of_wp hf hb ?_
 have hsz:=yTn hsz
 have hlen:=hv.length
 have hg:Good fn.ntmps (fun _=>true) (vH ys) {tmps:=ys.toArray++Array.replicate (fn.ntmps-ys.toArray.size) undef,defers:=[]}:=
  ⟨by simp;omega,rfl,fun s hs=>by cases hs⟩
 have henv:yI {tmps:=ys.toArray++Array.replicate (fn.ntmps-ys.toArray.size) undef,defers:=[]}=vH ys:=by
  funext i
  simp only[yI,vH,ySu,yRl,Array.getElem?_append]
  split
  ·simp
  ·rename_i hlt
   simp at hlt
   rw[ySi hlt,yWj]
   split<;>rfl
 have he:EnvR E (zIj args) (yI {tmps:=ys.toArray++Array.replicate (fn.ntmps-ys.toArray.size) undef,defers:=[]}):=by
  rw[henv]
  intro t
  exact z1j hv t
 refine wp_mono (zQn hH hm c an _ (fun _=>true) (vH ys) E E _ w _ s hok (fun _ _=>rfl) hg (Ev.le.refl _) R he h) ?_
 have fin:∀{a':Act} {w':World} {E':Ev} {ρ':y3} {s':St},Good fn.ntmps (fun _=>true) (vH ys) a'→E.le E'→Rel k L E' s' w'→EnvR E' ρ' (yI a')→(optK (zOp P ρ' s' fn.results.toList) fun vs=>K (zNa vs) s')→
  ∃v,(results fn a'.tmps).run P w'= .ok v w'∧∃v',Ending.returned v= .returned v'∧Outc k L E K v' w':=by
  intro a' w' E' ρ' s' hg' hle' R' he' h'
  obtain⟨vs,hvs,hk⟩:=zM h'
  obtain⟨zs,h1,h2⟩:=eI R' he' hvs
  refine⟨zBm zs,?_,_,rfl,E',zNa vs,s',hle',R',?_,hk⟩
  ·unfold results
   rw[Array.mapM_eq_mapM_toList,map_eq_pure_bind,bind_assoc]
   exact zEv h1 _ (fun r=>by cases r<;>rfl)
  ·rcases vs with _|⟨v,_|⟨u,vs⟩⟩
   ·simp only[VRL]at h2;subst h2
    simp only[zNa,zBm,VR];exact⟨[],rfl,VRL.nil⟩
   ·simp only[VRL]at h2
    obtain⟨x,xs,rfl,h3,rfl⟩:=h2
    exact h3
   ·have h20:=h2
    simp only[VRL]at h2
    obtain⟨x,xs,rfl,h3,y,ys',rfl,h4,h5⟩:=h2
    simp only[zNa,zBm,VR];exact⟨_,rfl,h20⟩
 rintro e a' w' ⟨hg',E',ρ',s',hle',R',he',h'⟩
 cases e<;>first|exact h'.elim|skip
 ·obtain⟨v,h1,h2⟩:=fin hg' hle' R' he' h'
  exact⟨hg'.defers,v,h1,h2⟩
 ·obtain⟨v,h1,h2⟩:=fin hg' hle' R' he' h'
  exact⟨hg'.defers,v,h1,h2⟩
theorem tM {H:Hnd} (hH:HOk P H) (hm:P.follows .mixedOrders=true) {f:FuncId} {fn:Func} {c:Code} (hf:P.funcs[f]? =some fn) (hb:fn.body=some c) (hbd:vO P f=true) (hok:okC fn.ntmps c=true) (J:List (Nat×SAnn)) (an:List SAnn)
 {args:List V} (hsz:Nat.ble args.length fn.ntmps=true) {K:V→St→Prop} {s:St} (h:scode P H J an c (fnS P fn K) (zIj args) s) {E:Ev} {w:World} {ys:List Value} (R:Rel k L E s w) (hv:VRL E args ys):
 Does P (callFunc f ys.toArray) w (Outc k L E K):=nA hbd (pT hH hm hf hb hok J an hsz h R hv)
def E0 (w:World):Ev:=⟨fun b=>w.heap[b]?,[]⟩
theorem yQe (w:World) (hG:GTab fun b=>w.heap[b]?):Rel (Cv.ko w) [] (E0 w) ⟨[],0⟩ w:=⟨rfl,(Hp.start w).imp fun x hx=>⟨hx,hG⟩⟩
def yNo (f:Nat):List (Nat×Con)→Option Con
 |[]=>none
 |(g,C)::l=>bif Nat.beq g f then some C else yNo f l
def GOk (P:Program):List (Nat×Con)→Prop
 |[]=>True
 |(f,C)::l=>C.ok P f∧GOk P l
def z7b (f:Nat):List (Nat×Con)→Bool
 |[]=>false
 |(g,_)::l=>bif Nat.beq g f then true else z7b f l
def zKs (f:Nat) (args:List V) (s:St) (K:V→St→Prop):List (Nat×Con)→Prop
 |[]=>False
 |(g,C)::l=>bif Nat.beq g f then(bif z7b f l then C.call args s K∨zKs f args s K l else C.call args s K)else zKs f args s K l
theorem sM {f:Nat} {args:List V} {s:St} {K:V→St→Prop}:∀{G:List (Nat×Con)},GOk P G→zKs f args s K G→∃C:Con,C.ok P f∧C.call args s K
 |[],_,h=>h.elim
 |(g,C)::l,hG,h=>by
  simp only[zKs]at h
  cases hb:Nat.beq g f with
  |false=>rw[hb]at h;exact sM hG.2 h
  |true=>
   rw[hb]at h
   have e:=yRh hb
   subst e
   cases hl:z7b g l with
   |false=>rw[hl]at h;exact⟨C,hG.1,h⟩
   |true=>
    rw[hl]at h
    rcases h with h|h
    ·exact⟨C,hG.1,h⟩
    ·exact sM hG.2 h
def hnd (P:Program) (G:List (Nat×Con)):Nat→Hnd
 |0,f,args,s,K=>match z7b f G with
  |true=>zKs f args s K G
  |false=>False
 |d+1,f,args,s,K=>match z7b f G with
  |true=>zKs f args s K G
  |false=>match P.funcs[f]? with
   |some fn=>match fn.body with
    |some c=>bif vO P f && okC fn.ntmps c && Nat.ble args.length fn.ntmps then scode P (hnd P G d) [] [] c (fnS P fn K) (zIj args) s else False
    |none=>False
   |none=>False
theorem yBk (hm:P.follows .mixedOrders=true) {G:List (Nat×Con)} (hG:GOk P G):∀d,HOk P (hnd P G d):=by
 intro d
 induction d with
 |zero=>
  intro f args s K h k L E w ys R hv
  simp only[hnd]at h
  split at h<;>first|exact h.elim|skip
  obtain⟨C,h1,h2⟩:=sM hG h
  exact Con.call_sound h1 h2 R hv
 |succ d ih=>
  intro f args s K h k L E w ys R hv
  simp only[hnd]at h
  split at h
  ·obtain⟨C,h1,h2⟩:=sM hG h
   exact Con.call_sound h1 h2 R hv
  ·split at h<;>first|exact h.elim|skip
   rename_i fn hfn
   split at h<;>first|exact h.elim|skip
   rename_i c hc
   obtain⟨hb,h⟩:=zO h
   simp only[yRq]at hb
   exact tM ih hm hfn hc hb.1.1 hb.1.2 [] [] hb.2 h R hv
def zWd:Nat→NM
 |0=>[]
 |m+1=>(m,m)::zWd m
theorem zSz:∀{m p:Nat},p<m→z9 p (zWd m)=some p
 |m+1,p,h=>by
  simp only[zWd,z9]
  cases hb:Nat.beq m p
  ·have:m≠p:=fun e=>by subst e;simp at hb
   exact zSz (by omega)
  ·rw[← yRh hb];rfl
theorem zAn:∀{m p q:Nat},z9 p (zWd m)=some q→p<m∧q=p
 |0,p,q,h=>by cases h
 |m+1,p,q,h=>by
  simp only[zWd,z9]at h
  cases hb:Nat.beq m p
  ·rw[hb]at h
   obtain⟨h1,h2⟩:=zAn h
   exact⟨by omega,h2⟩
  ·rw[hb]at h
   have:=yRh hb
   simp only[cond_true,Option.some.injEq]at h
   exact⟨by omega,by omega⟩
def yFd (m:Nat) (v:V) (s:St) (a:Alt):Prop:=
 ∃o,mtV (a.res o) v (zWd m) s fun π s=>mtR 0 (a.post o) π s fun π _=>bif nX (a.post o).length π && Nat.ble m (a.post o).length then a.rel o else False
def yDi (m:Nat) (v:V) (s:St):List Alt→Prop
 |[]=>False
 |[a]=>yFd m v s a
 |a::l=>yFd m v s a∨yDi m v s l
theorem zBd {m:Nat} {v:V} {s:St}:∀{l:List Alt},yDi m v s l→∃a∈l,yFd m v s a
 |[a],h=>⟨a,by simp,h⟩
 |a::b::l,h=>by
  rcases h with h|h
  ·exact⟨a,by simp,h⟩
  ·obtain⟨c,h1,h2⟩:=zBd h
   exact⟨c,yRk _ h1,h2⟩
theorem zPm {w:World} {m:Nat} {v:V} {s:St} {a:Alt} {E0 E:Ev} (h:yFd m v s a) (hn:E0.tab.length=m) (hle:E0.le E) (R:Rel k L E s w) {y:Value} (hv:VR E v y):
 ∃o,a.rel o∧∃E',E0.le E'∧VR E' (a.res o) y∧Rel k L E' ⟨v8 0 (a.post o),(a.post o).length⟩ w:=by
 obtain⟨o,h⟩:=h
 have hid:WfM (zWd m) E.tab:=fun p n e=>by
  obtain⟨h1,rfl⟩:=zAn e
  exact⟨E0.tab[n]'(by omega),hle.get (ySl (by omega))⟩
 obtain⟨E1,π1,s1,q1,q2,q3⟩:=zVm h R hid hv
 obtain⟨E2,π2,s2,r1,r2⟩:=zPh q3 q1.rel q1.wf
 obtain⟨hb,hrel⟩:=zO r2
 simp only[yRq]at hb
 have hlt:=dV hb.1
 have hmq:=yTn hb.2
 let q:=(a.post o).length
 let tl:List Hd:=(List.range q).map fun p=>(E2.tab[(z9 p π2).getD 0]?).getD (undef,[])
 have hget:∀p,p<q→tl[p]? =some ((E2.tab[(z9 p π2).getD 0]?).getD (undef,[])):=fun p hp=>by
  show((List.range q).map _)[p]? =_
  rw[yTb,yVu hp];rfl
 have hloc:Loc π2 E2.tab tl:=by
  intro p n hp
  obtain⟨hd,h'⟩:=r1.wf p n hp
  refine⟨hd,h',?_⟩
  rw[hget p (hlt p n hp)]
  simp only[hp,yTi,h']
 have hle2:E0.le E2:=hle.trans (q1.le.trans r1.le)
 have hpre:E0.tab<+:tl:=by
  refine⟨tl.drop m,?_⟩
  apply yVp
  intro p
  by_cases hp:p<m
  ·rw[yUe (by omega)]
   have hpl:z9 p π2=some p:=r1.ext _ _ (q1.ext _ _ (zSz hp))
   have e1:E0.tab[p]? =some (E0.tab[p]'(by omega)):=ySl (by omega)
   rw[hget p (by omega),hpl,yTi,hle2.get e1,e1];rfl
  ·rw[yTj (by omega),yUa,hn,show m+(p-m)=p by omega]
 refine⟨o,hrel,⟨E2.F,tl⟩,⟨hle2.1,hpre⟩,q2 E2 π2 r1.le r1.ext tl hloc,⟨by simp[tl,q],?_⟩⟩
 have H:=r1.rel.frontL
 have H1:=jM (g:=rHP ⟨E2.F,tl⟩) (fun r x hx=>by
  rcases hx with⟨e1,e2⟩|⟨n,h1,h2⟩
  ·exact .inl ⟨e1,e2⟩
  ·right
   obtain⟨hd,h3,h4⟩:=h2 E2 π2 (Ev.le.refl _) (Ext.refl _) tl hloc
   obtain⟨hd',h5,h6⟩:=hloc _ _ h1
   rw[h3]at h5;cases h5
   exact⟨hd,h6,h4⟩) H
 have H2:Hp k w (s2.rows.map (rHP E2)++((v8 0 (a.post o)).map (rHP ⟨E2.F,tl⟩)++fz E2.F::L)):=by
  refine H1.perm ?_
  rw[← yRn,← yRn]
  exact yTc.append_right _
 have hdrop:∀(l:List (Nat×AObj)) {M:List HP},Hp k w (l.map (rHP E2)++M)→Hp k w M:=by
  intro l
  induction l with
  |nil=>intro M H;exact H
  |cons a l ih=>intro M H;exact ih H.drop
 exact hdrop _ H2
def walk (P:Program) (G:List (Nat×Con)) (d:Nat) (J:List (Nat×SAnn)) (an:List SAnn) (op:List Nat) (fn:Func) (c:Code) (args:List V) (rows:List AObj) (alts:List Alt):Prop:=
 scode P (hnd P G d) J an c (fnS P fn fun v s=>yDi rows.length v s alts) (zIj args) (zFp op ⟨v8 0 rows,rows.length⟩)
theorem gZ (hm:P.follows .mixedOrders=true) {f:FuncId} {fn:Func} {c:Code} {C:Con} (G:List (Nat×Con)) (hG:GOk P G) (d:Nat) (J:C.ι→List (Nat×SAnn)) (an:C.ι→List SAnn) (op:List Nat) (hf:P.funcs[f]? =some fn) (hb:fn.body=some c) (hbd:vO P f=true) (hok:okC fn.ntmps c=true)
 (hsz:∀i,Nat.ble (C.pat i).length fn.ntmps=true) (h:∀i,C.cnd i→walk P G d (J i) (an i) op fn c (C.pat i) (C.pre i) (C.alts i)):C.ok P f:=by
 intro i hc k L E w ys R hv
 obtain⟨E1,hle,R1⟩:=tW op R
 refine(tM (yBk hm hG d) hm hf hb hbd hok (J i) (an i) (hsz i) (h i hc) R1 (hv.mono hle)).mono ?_
 rintro y w' ⟨E',v,s',hle',R',hv',hk⟩
 obtain⟨a,ha,hend⟩:=zBd hk
 obtain⟨o,h1,E2,h2,h3,h4⟩:=zPm hend R.nx (hle.trans hle') R' hv'
 exact⟨a,ha,o,h1,E2,h2,h3,h4⟩
def uJ (t:TypeId):Con where
 ι:=List (Value×List D)
 pat:=fun _=>[.ifc t (.mp 0)]
 pre:=fun es=>[.map es]
 cnd:=fun _=>True
 alts:=fun es=>[{o:=Unit,res:=fun _=> .ifc t (.mp 1),post:=fun _=>[.map es,.map es],rel:=fun _=>True}]
theorem zUs {f : FuncId} {fn : Func} (hf : P.funcs[f]? = some fn) (hname : (fn.name == "runtime.NumGoroutine") = false) (hb : fn.body.isNone = true) (hn : Extern.findNext fn = none) (he : Extern.find fn = some Extern.MapsClone.clone) (t : TypeId) : (uJ t).ok P f := by
 intro es _ k L E w ys R hv
 simp only[uJ,VRL,VR]at hv
 obtain⟨y,_,rfl,⟨z,rfl,b,sub,e1,rfl⟩,rfl⟩:=hv
 have hg:(⟨v8 0 [.map es],1⟩:St).get 0=some (.map es):=rfl
 obtain⟨hd,x,q1,q2,q3⟩:=R.row hg (by simp)
 rw[e1]at q1;cases q1
 simp only[rowHP]at q2
 obtain⟨b',ents,ck,e4,e5,e6,rfl⟩:=q2
 cases e4
 have hm:=q3 b _ (by simp[one];rfl)
 have hrun:(Extern.MapsClone.clone #[.iface t (.map (some b))]).run P w= .ok (.iface t (.map (some w.heap.size))) (w.alloc (.map ents.toArray ck)):=by
  have e:Extern.MapsClone.clone #[.iface t (.map (some b))]=(getObj b>>=fun o=>match o with
   | .map entries clock=>(newObj (.map entries clock)>>=fun n=>pure (.iface t (.map (some n))))
   | _ => stuck "maps.clone: a map expected") := rfl
  rw[e]
  simp only[bind,run_bind,x6 hm trivial]
  rfl
 unfold Does
 rw[run_callFunc_extern hf hname hb hn he,hrun]
 simp only[Result.andThen]
 have hfresh:rowHP E.F (.map es) (E.tab++[(.map (some w.heap.size),[])]) (.map (some w.heap.size),[]) (one w.heap.size (.map ents.toArray ck)):=by
  simp only[rowHP];exact⟨_,ents,ck,rfl,e5,e6,rfl⟩
 obtain⟨h1,h2,h3⟩:=R.new hfresh
 refine⟨_,yTa.2 rfl,(),trivial,_,h1,by simp only[VR];exact⟨_,rfl,_,_,h3,rfl⟩,⟨h2.nx,h2.hp.perm ?_⟩⟩
 exact .swap _ _ _
theorem zOo {E:Ev} {s:St} {w w':World} (hle:(E0 w).le E) (R:Rel (Cv.ko w) [] E s w'):Below w.heap.size w w':=by
 have hfr:=R.frozen
 obtain⟨h1,h2,h3⟩:=R.hp.1
 have hblk:∀b,b<w.heap.size→w'.heap[b]? =w.heap[b]? :=fun b hb=>by
  have:w.heap[b]? =some w.heap[b]:=yVi hb
  rw[this];exact hfr b _ (hle.1 b _ this)
 refine⟨h1,h2,h3,?_,hblk⟩
 rcases yTt w'.heap.size w.heap.size with hlt|hge
 ·have:=hblk w'.heap.size hlt
  rw[yTy (ySk _),yVi hlt]at this
  cases this
 ·exact hge
theorem calls_of_walk (hm:P.follows .mixedOrders=true) {f:FuncId} {fn:Func} {c:Code} (G:List (Nat×Con)) (hG:GOk P G) (d:Nat) (J:List (Nat×SAnn)) (an:List SAnn) (hf:P.funcs[f]? =some fn) (hb:fn.body=some c) (hok:okC fn.ntmps c=true)
 {args:List V} {alts:List Alt} (hsz:Nat.ble args.length fn.ntmps=true) (h:walk P G d J an [] fn c args [] alts) {w:World} (hG0:GTab fun b=>w.heap[b]?) {ys:List Value} (hv:VRL (E0 w) args ys):
 Calls P f ys.toArray w fun e w'=>∃y,e= .returned y∧Below w.heap.size w w'∧∃a∈alts,∃o,a.rel o∧∃E',VR E' (a.res o) y:=by
 refine(pT (yBk hm hG d) hm hf hb hok J an hsz h (yQe w hG0) hv).mono ?_
 rintro e w' ⟨y,he,E',v,s',hle,R,hvr,hk⟩
 obtain⟨a,ha,hend⟩:=zBd hk
 obtain⟨o,h1,E2,h2,h3,h4⟩:=zPm hend rfl hle R hvr
 exact⟨y,he,zOo hle R,a,ha,o,h1,E2,h3⟩
open Go Cv
@[reducible] def zA (n:Int):V:= .d (.v (.int .i64 n))
@[reducible] def pH (n:Int):V:= .d (.v (.int .u64 n))
@[reducible] def yM (b:Bool):V:= .d (.v (.bool b))
@[reducible] def roV (sz:Nat) (els:List (List D)):V:= .d (.ro sz els)
def zRg:V:= .tup []
@[reducible] def con1 (ι:Type) (pat:ι→List V) (pre:ι→List AObj) (cnd:ι→Prop) (res:ι→V) (post:ι→List AObj):Con where
 ι:=ι
 pat:=pat
 pre:=pre
 cnd:=cnd
 alts:=fun i=>[{o:=Unit,res:=fun _=>res i,post:=fun _=>post i,rel:=fun _=>True}]
def bE (l:List UInt8):List (List D):=l.map fun b=>[.v (.int .u8 b.toNat)]
@[simp] theorem zWw (a b:List UInt8):bE (a++b)=bE a++bE b:=by simp[bE]
@[simp] theorem yQu:bE []=[]:=rfl
@[simp] theorem vY (a:List UInt8):(bE a).length=a.length:=by simp[bE]
theorem yCk (a:List UInt8) (n:Nat):bE (a.take n)=(bE a).take n:=by simp[bE]
theorem yDq (a:List UInt8) (n:Nat):bE (a.drop n)=(bE a).drop n:=by simp[bE]
theorem zNe (s:ByteArray):k0 s=bE s.data.toList:=rfl
def lob (n:Int):UInt8:=UInt8.ofNat (n % 256).toNat
def le (n:Int):Nat→List UInt8
 |0=>[]
 |k+1=>lob n::le (n / 256) k
theorem vZ (k:Nat):∀n:Int,(le n k).length=k:=by
 induction k with
 |zero=>intro n;rfl
 |succ k ih=>intro n;simp[le,ih]
theorem yEq (k:Nat):∀n:Int,le n (k+1)=le n k++[lob (n / 256 ^ k)]:=by
 induction k with
 |zero=>intro n;simp[le]
 |succ k ih=>
  intro n
  have:n / 256 / 256 ^ k=n / 256 ^ (k+1):=by
   rw[Int.ediv_ediv_of_nonneg (by omega),Int.pow_succ,yVc]
  rw[le,ih,le,this,ySv]
theorem zZn (n:Int):IntKind.u8.wrap n=((lob n).toNat:Int):=by
 have:(IntKind.u8.wrap n)=n % 256:=rfl
 rw[this]
 unfold lob
 have h1:(n % 256).toNat<256:=by omega
 rw[UInt8.toNat_ofNat_of_lt' (by simpa using h1)]
 omega
theorem w64 {x:Int} (h: -9223372036854775808≤x∧x≤9223372036854775807):IntKind.i64.wrap x=x:=Cv.wrap_i64 h.1 h.2
theorem tZ {x:Int} (h:0≤x∧x<18446744073709551616):IntKind.u64.wrap x=x:=by
 have:IntKind.u64.wrap x=x % 18446744073709551616:=rfl
 rw[this];omega
theorem lT (k:IntKind) (a:Int) (b:Nat) (h:b≤k.bits):nR k a b=a / 2 ^ b:=by
 unfold nR
 rw[show min (Int.toNat (b:Int)) k.bits=b by simp;omega]
 rw[Int.fdiv_eq_ediv_of_nonneg]
 exact Int.pow_nonneg (by omega)
theorem zI {p:Prop} [Decidable p] {A B:Prop} (h1:p→A) (h2:¬p→B):cnd (decide p) A B:=Cv.cnd.mk (fun h=>h1 (yTx h)) (fun h=>h2 (yWv h))
theorem gok0 {P:Program}:GOk P []:=trivial
theorem gokc {P:Program} {f:Nat} {C:Con} {l:List (Nat×Con)} (h:C.ok P f) (hl:GOk P l):GOk P ((f,C)::l):=⟨h,hl⟩
end Sx
