/- Texts of ours, one behind the other: a walk that the kernel reckons, and contracts of functions. No condition. -/
import Derived.Laws.Externs
import Derived.LoopN
import Derived.MapKept
import Derived.Test.YtogkpgfggfbhaaaGreatX2
namespace Sx
set_option linter.unusedSimpArgs false
set_option linter.unusedVariables false
open Go Go.RowKit Cv
@[reducible] def NM:=List (Nat×Nat)
def yC (p:Nat):NM→Option Nat
 |[]=>none
 |(q,n)::l=>bif Nat.beq q p then some n else yC p l
def lEq:Value→Value→Prop
 | .int k a,.int k' b=>bif keq k k' then a=b else False
 | .bool a,.bool b=>a=b
 | .string a,.string b=>a=b
 | .pointer none,.pointer none=>True
 | .slice none 0 0,.slice none 0 0=>True
 | .map none,.map none=>True
 | .nilFunc,.nilFunc=>True
 | .nilIface,.nilIface=>True
 |_,_=>False
theorem z8d {x y:Value} (h:lEq x y):x=y:=by
 unfold lEq at h
 split at h<;>first|exact h.elim|rfl|(subst h;rfl)|skip
 obtain⟨hk,rfl⟩:=zP h
 rw[zNy hk]
def dEq:D→D→Prop
 | .v x,.v y=>lEq x y
 | .ro sz els,.ro sz' els'=>bif Nat.beq sz sz' then els=els' else False
 | .ro _ els,.v (.slice none 0 0)=>els=[]
 |_,_=>False
theorem yOs {F:PH} {p q:D} {y:Value} (h:dEq p q) (hq:DR F q y):DR F p y:=by
 unfold dEq at h
 split at h<;>first|exact h.elim|skip
 ·rw[z8d h];exact hq
 ·obtain⟨hb,rfl⟩:=zP h
  rw[yVo hb];exact hq
 ·subst h
  simp only[DR]at hq ⊢
  exact⟨none,0,hq.1,yWj _,by simp,.inl trivial⟩
def zNc (p n:Nat) (π:NM) (K:NM→Prop):Prop:=
 match yC p π with
 |some m=>bif Nat.beq m n then K π else False
 |none=>K ((p,n)::π)
mutual
def mtV:V→V→NM→St→(NM→St→Prop)→Prop
 | .top,_,π,s,K=>K π s
 | .d p,a,π,s,K=>match a with
   | .d q=>dEq p q∧K π s
   | .own n=>match p with
     | .ro sz els=>match s.get n with
       |some (.own _ sz' els')=>bif Nat.beq sz sz' then els=els'∧K π (s.set n (.fro sz' els'))else False
       |some (.fro sz' els')=>bif Nat.beq sz sz' then els=els'∧K π s else False
       |_=>False
     |_=>False
   |_=>False
 | .nm p o,a,π,s,K=>match a with
   | .nm n o'=>bif Nat.beq o o' then zNc p n π fun π=>K π s else False
   |_=>False
 | .el p sz i f,a,π,s,K=>match a with
   | .el n sz' i' f'=>bif Nat.beq sz sz' && Nat.beq f f' then i=i'∧zNc p n π fun π=>K π s else False
   |_=>False
 | .own p,a,π,s,K=>match a with
   | .own n=>zNc p n π fun π=>K π s
   | .d (.v (.slice none 0 0))=>match yC p π with
     |none=>K ((p,s.nx)::π) (s.new .nilo)
     |some _=>False
   |_=>False
 | .mp p,a,π,s,K=>match a with
   | .mp n=>zNc p n π fun π=>K π s
   |_=>False
 | .agg l,a,π,s,K=>match a with
   | .agg l'=>mtL l l' π s K
   |_=>False
 | .tup l,a,π,s,K=>match a with
   | .tup l'=>mtL l l' π s K
   |_=>False
 | .fn f x y,a,π,s,K=>match a with
   | .fn f' x' y'=>bif Nat.beq f f' then mtL x x' π s fun π s=>mtL y y' π s K else False
   |_=>False
 | .ifc t x,a,π,s,K=>match a with
   | .ifc t' x'=>bif Nat.beq t t' then mtV x x' π s K else False
   |_=>False
 |_,_,_,_,_=>False
def mtL:List V→List V→NM→St→(NM→St→Prop)→Prop
 |[],l,π,s,K=>match l with
  |[]=>K π s
  |_=>False
 |v::vs,l,π,s,K=>match l with
  |u::us=>mtV v u π s fun π s=>mtL vs us π s K
  |[]=>False
end
def Loc (π:NM) (tab tl:List Hd):Prop:=∀p n,yC p π=some n→∃hd,tab[n]?=some hd∧tl[p]?=some hd
def Ext (π π':NM):Prop:=∀p n,yC p π=some n→yC p π'=some n
def WfM (π:NM) (tab:List Hd):Prop:=∀p n,yC p π=some n→∃hd,tab[n]?=some hd
theorem Ext.refl (π:NM):Ext π π:=fun _ _ h=>h
theorem Ext.trans {a b c:NM} (h:Ext a b) (h':Ext b c):Ext a c:=fun p n e=>h' p n (h p n e)
theorem WfM.mono {π:NM} {E E':Ev} (h:WfM π E.tab) (hle:E.le E'):WfM π E'.tab:=fun p n e=>let⟨hd,q⟩:=h p n e;⟨hd,hle.get q⟩
def PV (E:Ev) (π:NM) (v:V) (y:Value):Prop:=∀E2 π2,E.le E2→Ext π π2→∀tl,Loc π2 E2.tab tl→VR ⟨E2.F,tl⟩ v y
def PVL (E:Ev) (π:NM) (v:List V) (y:List Value):Prop:=∀E2 π2,E.le E2→Ext π π2→∀tl,Loc π2 E2.tab tl→VRL ⟨E2.F,tl⟩ v y
theorem PV.mono {E E':Ev} {π π':NM} {v:V} {y:Value} (h:PV E π v y) (hle:E.le E') (hx:Ext π π'):PV E' π' v y:=fun E2 π2 a b tl c=>h E2 π2 (hle.trans a) (hx.trans b) tl c
theorem PVL.mono {E E':Ev} {π π':NM} {v:List V} {y:List Value} (h:PVL E π v y) (hle:E.le E') (hx:Ext π π'):PVL E' π' v y:=fun E2 π2 a b tl c=>h E2 π2 (hle.trans a) (hx.trans b) tl c
theorem sW {p n:Nat} {π:NM} {tab:List Hd} {K:NM→Prop} (h:zNc p n π K) (hw:WfM π tab) {hd:Hd} (hn:tab[n]? =some hd):∃π',Ext π π'∧WfM π' tab∧yC p π'=some n∧K π':=by
 unfold zNc at h
 split at h
 ·rename_i m hm
  obtain⟨hb,hk⟩:=zP h
  have:=yVo hb
  subst this
  exact⟨π,Ext.refl _,hw,hm,hk⟩
 ·rename_i hm
  refine⟨_,fun q m e=> ?_,fun q m e=> ?_,by simp[yC],h⟩
  ·simp only[yC]
   cases hb:Nat.beq p q
   ·exact e
   ·have:=yVo hb
    subst this
    rw[hm]at e;cases e
  ·simp only[yC]at e
   cases hb:Nat.beq p q
   ·rw[hb]at e;exact hw q m e
   ·rw[hb]at e;cases e;exact⟨hd,hn⟩
variable {k:Ko} {L:List HP} {w:World}
structure MtOk (k:Ko) (L:List HP) (w:World) (E:Ev) (π:NM) (E':Ev) (π':NM) (s':St):Prop where
 le:E.le E'
 ext:Ext π π'
 wf:WfM π' E'.tab
 rel:Rel k L E' s' w
theorem MtOk.trans {E E1 E2:Ev} {π π1 π2:NM} {s1 s2:St} {L1 L2:List HP} (a:MtOk k L1 w E π E1 π1 s1) (b:MtOk k L2 w E1 π1 E2 π2 s2):MtOk k L2 w E π E2 π2 s2:=⟨a.le.trans b.le,a.ext.trans b.ext,b.wf,b.rel⟩
theorem Rel.newNil {E:Ev} {s:St} (R:Rel k L E s w):∃E',E.le E'∧Rel k L E' (s.new .nilo) w∧E'.tab[s.nx]? =some (.slice none 0 0,[]):=by
 have hle:E.le ⟨E.F,E.tab++[(.slice none 0 0,[])]⟩:=Ev.le.app _
 have hget:(E.tab++[((.slice none 0 0,[]):Hd)])[s.nx]? =some (.slice none 0 0,[]):=by rw[← R.nx];simp
 refine⟨_,hle,⟨by simp[St.new,R.nx],?_⟩,hget⟩
 have H2:=wE (fun r x=>rHP.mono hle r) R.hp
 have:=(@vS k w True _).2 ⟨trivial,H2⟩
 exact this.imp fun x hx=> .inr ⟨_,hget,by simp only[rowHP];exact⟨hx.2,trivial,trivial⟩⟩
mutual
theorem zZp:∀{v a:V} {π:NM} {s:St} {K:NM→St→Prop} {E:Ev} {y:Value},mtV v a π s K→Rel k L E s w→WfM π E.tab→VR E a y→∃E' π' s',MtOk k L w E π E' π' s'∧PV E' π' v y∧K π' s'
 | .top,a,π,s,K,E,y,h,R,hw,hv=>by
   simp only[mtV]at h
   exact⟨E,π,s,⟨Ev.le.refl _,Ext.refl _,hw,R⟩,fun _ _ _ _ _ _=>by simp only[VR],h⟩
 | .d p,a,π,s,K,E,y,h,R,hw,hv=>by
   simp only[mtV]at h
   split at h<;>first|exact h.elim|skip
   ·rename_i q
    obtain⟨h1,h⟩:=h
    simp only[VR]at hv
    exact⟨E,π,s,⟨Ev.le.refl _,Ext.refl _,hw,R⟩,fun E2 _ a _ _ _=>by simp only[VR];exact(yOs h1 hv).mono a.1,h⟩
   ·rename_i n
    split at h<;>first|exact h.elim|skip
    rename_i sz els
    split at h<;>first|exact h.elim|skip
    ·rename_i t sz' els' hg
     obtain⟨hb,rfl,hk⟩:=zP h
     have e:=yVo hb
     subst e
     obtain⟨E',q1,q2,q3,q4,q5⟩:=zCy R (v:= .own n) (d:= .ro sz els) (s':=s.set n (.fro sz els)) (by simp only[z0h,hg]) hv
     exact⟨E',π,_,⟨q1,Ext.refl _,by rw[q2];exact hw,q3⟩,fun E2 _ a _ _ _=>by simp only[VR];exact q5.mono a.1,hk⟩
    ·rename_i sz' els' hg
     obtain⟨hb,rfl,hk⟩:=zP h
     have e:=yVo hb
     subst e
     obtain⟨E',q1,q2,q3,q4,q5⟩:=zCy R (v:= .own n) (d:= .ro sz els) (s':=s) (by simp only[z0h,hg]) hv
     exact⟨E',π,_,⟨q1,Ext.refl _,by rw[q2];exact hw,q3⟩,fun E2 _ a _ _ _=>by simp only[VR];exact q5.mono a.1,hk⟩
 | .nm p o,a,π,s,K,E,y,h,R,hw,hv=>by
   simp only[mtV]at h
   split at h<;>first|exact h.elim|skip
   rename_i n o'
   obtain⟨hb,hk⟩:=zP h
   have e:=yVo hb
   subst e
   simp only[VR]at hv
   obtain⟨b,oo,l,h1,rfl⟩:=hv
   obtain⟨π',q1,q2,q3,q4⟩:=sW hk hw h1
   refine⟨E,π',s,⟨Ev.le.refl _,q1,q2,R⟩,fun E2 π2 a b' tl hl=> ?_,q4⟩
   simp only[VR]
   obtain⟨hd,e1,e2⟩:=hl p n (b' p n q3)
   rw[a.get h1]at e1;cases e1
   exact⟨b,oo,l,e2,rfl⟩
 | .el p sz i f,a,π,s,K,E,y,h,R,hw,hv=>by
   simp only[mtV]at h
   split at h<;>first|exact h.elim|skip
   rename_i n sz' i' f'
   obtain⟨hb,rfl,hk⟩:=zP h
   simp only[yVy]at hb
   have e:=yVo hb.1
   subst e
   have e:=yVo hb.2
   subst e
   simp only[VR]at hv
   obtain⟨b,oo,m,c,l,h1,rfl⟩:=hv
   obtain⟨π',q1,q2,q3,q4⟩:=sW hk hw h1
   refine⟨E,π',s,⟨Ev.le.refl _,q1,q2,R⟩,fun E2 π2 a b' tl hl=> ?_,q4⟩
   simp only[VR]
   obtain⟨hd,e1,e2⟩:=hl p n (b' p n q3)
   rw[a.get h1]at e1;cases e1
   exact⟨b,oo,m,c,l,e2,rfl⟩
 | .own p,a,π,s,K,E,y,h,R,hw,hv=>by
   simp only[mtV]at h
   split at h<;>first|exact h.elim|skip
   ·rename_i n
    simp only[VR]at hv
    obtain⟨l,h1,h2⟩:=hv
    obtain⟨π',q1,q2,q3,q4⟩:=sW h hw h1
    refine⟨E,π',s,⟨Ev.le.refl _,q1,q2,R⟩,fun E2 π2 a b' tl hl=> ?_,q4⟩
    simp only[VR]
    obtain⟨hd,e1,e2⟩:=hl p n (b' p n q3)
    rw[a.get h1]at e1;cases e1
    exact⟨l,e2,h2⟩
   ·split at h<;>first|exact h.elim|skip
    rename_i hm
    obtain⟨E',q1,q2,q3⟩:=R.newNil
    simp only[VR,DR]at hv
    obtain⟨rfl,_⟩:=hv
    have hpl:yC p ((p,s.nx)::π)=some s.nx:=by simp[yC]
    refine⟨E',_,_,⟨q1,fun q m e=> ?_,fun q m e=> ?_,q2⟩,fun E2 π2 a b' tl hl=> ?_,h⟩
    ·simp only[yC]
     cases hb:Nat.beq p q
     ·exact e
     ·have:=yVo hb
      subst this
      rw[hm]at e;cases e
    ·simp only[yC]at e
     cases hb:Nat.beq p q
     ·rw[hb]at e;obtain⟨hd,h'⟩:=hw q m e;exact⟨hd,q1.get h'⟩
     ·rw[hb]at e;cases e;exact⟨_,q3⟩
    ·simp only[VR]
     obtain⟨hd,e1,e2⟩:=hl p _ (b' p _ hpl)
     rw[a.get q3]at e1;cases e1
     exact⟨[],e2,_,_,_,rfl⟩
 | .mp p,a,π,s,K,E,y,h,R,hw,hv=>by
   simp only[mtV]at h
   split at h<;>first|exact h.elim|skip
   rename_i n
   simp only[VR]at hv
   obtain⟨b,l,h1,h2⟩:=hv
   obtain⟨π',q1,q2,q3,q4⟩:=sW h hw h1
   refine⟨E,π',s,⟨Ev.le.refl _,q1,q2,R⟩,fun E2 π2 a b' tl hl=> ?_,q4⟩
   simp only[VR]
   obtain⟨hd,e1,e2⟩:=hl p n (b' p n q3)
   rw[a.get h1]at e1;cases e1
   exact⟨b,l,e2,h2⟩
 | .agg l,a,π,s,K,E,y,h,R,hw,hv=>by
   simp only[mtV]at h
   split at h<;>first|exact h.elim|skip
   simp only[VR]at hv
   obtain⟨ys,rfl,hv⟩:=hv
   obtain⟨E',π',s',q1,q2,q3⟩:=sK h R hw hv
   exact⟨E',π',s',q1,fun E2 π2 a b tl c=>by simp only[VR];exact⟨ys,rfl,q2 E2 π2 a b tl c⟩,q3⟩
 | .tup l,a,π,s,K,E,y,h,R,hw,hv=>by
   simp only[mtV]at h
   split at h<;>first|exact h.elim|skip
   simp only[VR]at hv
   obtain⟨ys,rfl,hv⟩:=hv
   obtain⟨E',π',s',q1,q2,q3⟩:=sK h R hw hv
   exact⟨E',π',s',q1,fun E2 π2 a b tl c=>by simp only[VR];exact⟨ys,rfl,q2 E2 π2 a b tl c⟩,q3⟩
 | .fn f x z,a,π,s,K,E,y,h,R,hw,hv=>by
   simp only[mtV]at h
   split at h<;>first|exact h.elim|skip
   rename_i f' x' z'
   obtain⟨hb,hk⟩:=zP h
   have e:=yVo hb
   subst e
   simp only[VR]at hv
   obtain⟨as,bs,rfl,h1,h2⟩:=hv
   obtain⟨E',π',s',q1,q2,q3⟩:=sK hk R hw h1
   obtain⟨E2,π2,s2,r1,r2,r3⟩:=sK q3 q1.rel q1.wf (h2.mono q1.le)
   exact⟨E2,π2,s2,q1.trans r1,fun E3 π3 a b tl c=>by simp only[VR];exact⟨as,bs,rfl,q2.mono r1.le r1.ext E3 π3 a b tl c,r2 E3 π3 a b tl c⟩,r3⟩
 | .ifc t x,a,π,s,K,E,y,h,R,hw,hv=>by
   simp only[mtV]at h
   split at h<;>first|exact h.elim|skip
   rename_i t' x'
   obtain⟨hb,hk⟩:=zP h
   have e:=yVo hb
   subst e
   simp only[VR]at hv
   obtain⟨z,rfl,h1⟩:=hv
   obtain⟨E',π',s',q1,q2,q3⟩:=zZp hk R hw h1
   exact⟨E',π',s',q1,fun E3 π3 a b tl c=>by simp only[VR];exact⟨z,rfl,q2 E3 π3 a b tl c⟩,q3⟩
 | .re sz els i f,a,π,s,K,E,y,h,R,hw,hv=>by simp only[mtV]at h
 | .sub n i,a,π,s,K,E,y,h,R,hw,hv=>by simp only[mtV]at h
theorem sK:∀{v a:List V} {π:NM} {s:St} {K:NM→St→Prop} {E:Ev} {y:List Value},mtL v a π s K→Rel k L E s w→WfM π E.tab→VRL E a y→∃E' π' s',MtOk k L w E π E' π' s'∧PVL E' π' v y∧K π' s'
 |[],a,π,s,K,E,y,h,R,hw,hv=>by
  simp only[mtL]at h
  split at h<;>first|exact h.elim|skip
  simp only[VRL]at hv
  exact⟨E,π,s,⟨Ev.le.refl _,Ext.refl _,hw,R⟩,fun _ _ _ _ _ _=>by simpa only[VRL]using hv,h⟩
 |v::vs,a,π,s,K,E,y,h,R,hw,hv=>by
  simp only[mtL]at h
  split at h<;>first|exact h.elim|skip
  simp only[VRL]at hv
  obtain⟨x,xs,rfl,h1,h2⟩:=hv
  obtain⟨E',π',s',q1,q2,q3⟩:=zZp h R hw h1
  obtain⟨E2,π2,s2,r1,r2,r3⟩:=sK q3 q1.rel q1.wf (h2.mono q1.le)
  exact⟨E2,π2,s2,q1.trans r1,fun E3 π3 a b tl c=>by simp only[VRL];exact⟨_,_,rfl,q2.mono r1.le r1.ext E3 π3 a b tl c,r2 E3 π3 a b tl c⟩,r3⟩
end
mutual
def pV (π:NM):V→V
 | .top=> .top
 | .d d=> .d d
 | .nm n o=>match yC n π with
   |some m=> .nm m o
   |none=> .top
 | .el n sz i f=>match yC n π with
   |some m=> .el m sz i f
   |none=> .top
 | .re sz els i f=> .re sz els i f
 | .na _ _ _=> .top
 | .own n=>match yC n π with
   |some m=> .own m
   |none=> .top
 | .mp n=>match yC n π with
   |some m=> .mp m
   |none=> .top
 | .sub n i=>match yC n π with
   |some m=> .sub m i
   |none=> .top
 | .agg l=> .agg (gY π l)
 | .tup l=> .tup (gY π l)
 | .fn f a b=> .fn f (gY π a) (gY π b)
 | .ifc t x=> .ifc t (pV π x)
def gY (π:NM):List V→List V
 |[]=>[]
 |v::l=>pV π v::gY π l
end
def zGq (π:NM):AObj→AObj
 | .cells vs t=> .cells (gY π vs) t
 |o=>o
def zBo (unf:Nat→AObj) (π:NM) (nx:Nat):List Nat→List (Nat×AObj)
 |[]=>[]
 |j::js=>(nx+j,zGq π (unf (j+1)))::zBo unf π nx js
def jH (n nx m:Nat):NM:=(0,n)::(List.range (m-1)).map fun j=>(j+1,nx+j)
def zJh (s:St) (n m:Nat) (unf:Nat→AObj):AObj×St:=
 (zGq (jH n s.nx m) (unf 0),⟨zBo unf (jH n s.nx m) s.nx (List.range (m-1))++s.rows,s.nx+(m-1)⟩)
def St.getg (s:St) (n:Nat):Option AObj:=
 match s.get n with
 |some .gone=>none
 |o=>o
theorem sY {s:St} {n:Nat} {o:AObj} (h:s.getg n=some o):s.get n=some o∧o≠.gone:=by
 unfold St.getg at h
 split at h
 ·cases h
 ·rename_i hne
  exact⟨h,fun e=>hne (e▸h)⟩
def nB (m:Nat):NM→Bool
 |[]=>true
 |(p,_)::l=>bif Nat.blt p m then nB m l else false
theorem bS {m:Nat}:∀{π:NM},nB m π=true→∀p n,yC p π=some n→p<m
 |[],h,p,n,e=>by cases e
 |(q,r)::l,h,p,n,e=>by
  simp only[nB]at h
  cases hb:Nat.blt q m
  ·rw[hb]at h;cases h
  ·rw[hb]at h
   simp only[yC]at e
   cases hq:Nat.beq q p
   ·rw[hq]at e;exact bS h p n e
   ·have:=yVo hq
    subst this
    simpa[yYi]using hb
def zUv (f:Nat→NM→St→(NM→St→Prop)→Prop):List Nat→NM→St→(NM→St→Prop)→Prop
 |[],π,s,K=>K π s
 |j::js,π,s,K=>f j π s fun π s=>zUv f js π s K
def mtO:AObj→Nat→AObj→NM→St→(NM→St→Prop)→Prop
 | .gone,_,_,π,s,K=>K π s
 | .cells vs t,n,o,π,s,K=>match o with
   | .cells vs' t'=>bif Nat.beq t t' then mtL vs vs' π s K else False
   | .adt T m unf x=>bif Nat.ble 1 m then(match zJh s n m (unf x)with
     |(.cells vs' t',s')=>bif Nat.beq t t' then mtL vs vs' π s' K else False
     |_=>False)else False
   |_=>False
 | .own t sz els,n,o,π,s,K=>match o with
   | .own t' sz' els'=>bif Nat.beq t t' && Nat.beq sz sz' then els=els'∧K π s else False
   | .nilo=>els=[]∧K π s
   |_=>False
 | .vec ds t,n,o,π,s,K=>match o with
   | .cells vs t'=>bif Nat.beq t t' then ds.map V.d=vs∧K π s else False
   |o=>AObj.vec ds t=o∧K π s
 | .map es,n,o,π,s,K=>match o with
   | .map es'=>es=es'∧K π s
   |_=>False
 | .iter b p,n,o,π,s,K=>match o with
   | .iter b' p'=>b=b'∧p=p'∧K π s
   |_=>False
 | .adt T m unf x,n,o,π,s,K=>match o with
   | .cells vs t=>bif Nat.ble 1 m then zUv (fun j π s K=>match yC j π with
      |some n'=>match(match j with|0=>some (AObj.cells vs t)|_=>s.getg n')with
       |some o'=>mtO (unf x j) n' o' π (match j with|0=>s|_=>s.delF n' o') K
       |none=>False
      |none=>False) (List.range m) [(0,n)] s (fun π' s=>bif nB m π' then K π s else False)else False
   |o=>AObj.adt T m unf x=o∧K π s
 | .fro sz els,n,o,π,s,K=>match o with
   | .own t sz' els'=>bif Nat.beq sz sz' then els=els'∧K π s else False
   |o=>AObj.fro sz els=o∧K π s
 | .objs t T m unf l hole,n,o,π,s,K=>match o with
   | .nilo=>l=[]∧hole=none∧K π s
   |o=>AObj.objs t T m unf l hole=o∧K π s
 |o',n,o,π,s,K=>o'=o∧K π s
def mtR:Nat→List AObj→NM→St→(NM→St→Prop)→Prop
 |_,[],π,s,K=>K π s
 |p,.gone::os,π,s,K=>mtR (p+1) os π s K
 |p,o::os,π,s,K=>match yC p π with
  |some n=>match s.getg n with
   |some o'=>mtO o n o' π (s.delF n o') fun π s=>mtR (p+1) os π s K
   |none=>False
  |none=>False
open Go Go.RowKit Cv
variable {k:Ko} {L:List HP} {w:World}
def PRow (E:Ev) (π:NM) (n:Nat) (o:AObj):HP:=fun h=>∀E2 π2,E.le E2→Ext π π2→∀tl,Loc π2 E2.tab tl→∃hd,E2.tab[n]? =some hd∧rowHP E2.F o tl hd h
theorem PRow.mono {E E':Ev} {π π':NM} (hle:E.le E') (hx:Ext π π') {n:Nat} {o:AObj} {h:PH} (e:PRow E π n o h):PRow E' π' n o h:=fun E2 π2 a b tl c=>e E2 π2 (hle.trans a) (hx.trans b) tl c
def z2i:AObj→Bool
 | .cells _ _=>true
 |_=>false
theorem rowHP.tab {F:PH} {o:AObj} (ho:z2i o=false) {tab tab':List Hd} {hd:Hd} {h:PH} (e:rowHP F o tab hd h):rowHP F o tab' hd h:=by
 cases o<;>first|(cases ho;done)|(simp only[rowHP]at e ⊢;exact e)
theorem uV {E:Ev} {π:NM} {n:Nat} {o:AObj} (ho:z2i o=false) (hg:o≠.gone) {h:PH} (e:rHP E (n,o) h):PRow E π n o h:=by
 rcases e with⟨e,_⟩|⟨hd,h1,h2⟩
 ·exact absurd e hg
 ·intro E2 π2 a b tl c
  exact⟨hd,a.get h1,(h2.mono a.1 _ a.2).tab ho⟩
mutual
theorem VR.ren {π:NM} {F:PH} {tl tab:List Hd} (hr:∀p n hd,yC p π=some n→tl[p]? =some hd→tab[n]? =some hd):∀{v:V} {y:Value},VR ⟨F,tl⟩ v y→VR ⟨F,tab⟩ (pV π v) y
 | .top,y,h=>by simp only[pV,VR]
 | .d d,y,h=>by simpa only[pV,VR]using h
 | .nm n o,y,h=>by
   simp only[pV]
   split
   ·rename_i m hm
    simp only[VR]at h ⊢
    obtain⟨b,oo,l,h1,h2⟩:=h
    exact⟨b,oo,l,hr _ _ _ hm h1,h2⟩
   ·simp only[VR]
 | .el n sz i f,y,h=>by
   simp only[pV]
   split
   ·rename_i m hm
    simp only[VR]at h ⊢
    obtain⟨b,oo,mm,c,l,h1,h2⟩:=h
    exact⟨b,oo,mm,c,l,hr _ _ _ hm h1,h2⟩
   ·simp only[VR]
 | .re sz els i f,y,h=>by simpa only[pV,VR]using h
 | .na n o i,y,h=>by simp only[pV,VR]
 | .own n,y,h=>by
   simp only[pV]
   split
   ·rename_i m hm
    simp only[VR]at h ⊢
    obtain⟨l,h1,h2⟩:=h
    exact⟨l,hr _ _ _ hm h1,h2⟩
   ·simp only[VR]
 | .mp n,y,h=>by
   simp only[pV]
   split
   ·rename_i m hm
    simp only[VR]at h ⊢
    obtain⟨b,l,h1,h2⟩:=h
    exact⟨b,l,hr _ _ _ hm h1,h2⟩
   ·simp only[VR]
 | .sub n i,y,h=>by
   simp only[pV]
   split
   ·rename_i m hm
    simp only[VR]at h ⊢
    obtain⟨hd,l,b,oo,h1,h2⟩:=h
    exact⟨hd,l,b,oo,hr _ _ _ hm h1,h2⟩
   ·simp only[VR]
 | .agg l,y,h=>by
   simp only[pV,VR]at h ⊢
   obtain⟨ys,h1,h2⟩:=h
   exact⟨ys,h1,VRL.ren hr h2⟩
 | .tup l,y,h=>by
   simp only[pV,VR]at h ⊢
   obtain⟨ys,h1,h2⟩:=h
   exact⟨ys,h1,VRL.ren hr h2⟩
 | .fn f a b,y,h=>by
   simp only[pV,VR]at h ⊢
   obtain⟨as,bs,h1,h2,h3⟩:=h
   exact⟨as,bs,h1,VRL.ren hr h2,VRL.ren hr h3⟩
 | .ifc t x,y,h=>by
   simp only[pV,VR]at h ⊢
   obtain⟨z,h1,h2⟩:=h
   exact⟨z,h1,VR.ren hr h2⟩
theorem VRL.ren {π:NM} {F:PH} {tl tab:List Hd} (hr:∀p n hd,yC p π=some n→tl[p]? =some hd→tab[n]? =some hd):∀{vs:List V} {l:List Value},VRL ⟨F,tl⟩ vs l→VRL ⟨F,tab⟩ (gY π vs) l
 |[],l,h=>by simpa only[gY,VRL]using h
 |v::vs,l,h=>by
  simp only[gY,VRL]at h ⊢
  obtain⟨x,xs,h1,h2,h3⟩:=h
  exact⟨x,xs,h1,VR.ren hr h2,VRL.ren hr h3⟩
end
theorem rowHP.ren {π:NM} {F:PH} {tl tab:List Hd} (hr:∀p n hd,yC p π=some n→tl[p]? =some hd→tab[n]? =some hd) {o:AObj} {hd:Hd} {h:PH} (e:rowHP F o tl hd h):rowHP F (zGq π o) tab hd h:=by
 cases o<;>simp only[zGq]<;>first|exact e.tab rfl|skip
 simp only[rowHP]at e ⊢
 obtain⟨b,l,h1,h2,h3⟩:=e
 exact⟨b,l,h1,h2.ren hr,h3⟩
theorem z6l {n nx m j:Nat} (hj:j+1<m):yC (j+1) (jH n nx m)=some (nx+j):=by
 unfold jH
 simp only[yC,Nat.beq,cond_false]
 have:∀(a c:Nat),a≤j→j<a+c→yC (j+1) ((List.range' a c).map fun j=>(j+1,nx+j))=some (nx+j):=by
  intro a c
  induction c generalizing a with
  |zero=>intro h1 h2;omega
  |succ c ih=>
   intro h1 h2
   simp only[List.range'_succ,yVz,yC]
   cases hb:Nat.beq (a+1) (j+1)
   ·have hne:a≠j:=fun e=>by subst e;simp at hb
    exact ih (a+1) (by omega) (by omega)
   ·have:=yVo hb
    have e:a=j:=by omega
    subst e;rfl
 rw[List.range_eq_range']
 exact this 0 (m-1) (by omega) (by omega)
theorem zLx {n nx m p q:Nat} (h:yC p (jH n nx m)=some q):(p=0∧q=n)∨∃j,p=j+1∧q=nx+j∧j+1<m:=by
 unfold jH at h
 simp only[yC]at h
 cases hb:Nat.beq 0 p
 ·rw[hb]at h
  right
  simp only[cond_false]at h
  rw[List.range_eq_range']at h
  have:∀(a c:Nat),yC p ((List.range' a c).map fun j=>(j+1,nx+j))=some q→∃j,p=j+1∧q=nx+j∧j<a+c:=by
   intro a c
   induction c generalizing a with
   |zero=>intro h;simp[yC]at h
   |succ c ih=>
    intro h
    simp only[List.range'_succ,yVz,yC]at h
    cases hb:Nat.beq (a+1) p
    ·rw[hb]at h
     obtain⟨j,h1,h2,h3⟩:=ih (a+1) h
     exact⟨j,h1,h2,by omega⟩
    ·rw[hb]at h
     simp only[cond_true,Option.some.injEq]at h
     exact⟨a,(yVo hb).symm,h.symm,by omega⟩
  obtain⟨j,h1,h2,h3⟩:=this 0 (m-1) h
  exact⟨j,h1,h2,by omega⟩
 ·rw[hb]at h
  left
  simp only[cond_true,Option.some.injEq]at h
  exact⟨(yVo hb).symm,h.symm⟩
theorem Rel.unfold {E:Ev} {s:St} {n m:Nat} {T:Type} {unf:T→Nat→AObj} {x:T} (R:Rel k (rHP E (n,.adt T m unf x)::L) E s w) (hm:1≤m):
 ∃E',E.le E'∧Rel k (rHP E' (n,(zJh s n m (unf x)).1)::L) E' (zJh s n m (unf x)).2 w:=by
 have H:=R.out
 obtain⟨hd,tab1,h1,h2,h3,H⟩:∃hd tab1,E.tab[n]? =some hd∧tab1[0]? =some hd∧tab1.length=m∧
  Hp k w (hS ((List.range m).map fun j=>fun h=>∃hd',tab1[j]? =some hd'∧rowHP E.F (unf x j) tab1 hd' h)::(s.rows.map (rHP E)++fz E.F::L)):=by
  obtain⟨hk,hs,hh⟩:=H
  cases hh with
  |cons ha hsub hdj hr=>
   rcases ha with⟨e,_⟩|⟨hd,q1,q2⟩
   ·cases e
   ·simp only[rowHP]at q2
    obtain⟨tab1,q3,q4,q5⟩:=q2
    exact⟨hd,tab1,q1,q3,q4,hk,_,.cons q5 hsub hdj hr⟩
 let E':Ev:=⟨E.F,E.tab++tab1.drop 1⟩
 have hle:E.le E':=⟨FLe.refl _,yZd _ _⟩
 have hren:∀p q hd',yC p (jH n s.nx m)=some q→tab1[p]? =some hd'→E'.tab[q]? =some hd':=by
  intro p q hd' hp ht
  rcases zLx hp with⟨rfl,rfl⟩|⟨j,rfl,rfl,hj⟩
  ·rw[h2]at ht;cases ht
   exact hle.get h1
  ·show(E.tab++tab1.drop 1)[s.nx+j]? =some hd'
   rw[← R.nx,yXp (by omega),yYg]
   rw[show E.tab.length+j-E.tab.length=j by omega,y0y]
   exact ht
 have H2:=(hp_star.1 H)
 have hrange:List.range m=0::(List.range (m-1)).map (·+1):=by
  have:m=(m-1)+1:=by omega
  rw[this,List.range_succ_eq_map]
  simp
 rw[hrange]at H2
 simp only[yVz,yXz,yXb]at H2
 refine⟨E',hle,Rel.inn (by show(E.tab++tab1.drop 1).length=s.nx+(m-1);rw[yVm,yWh,R.nx,h3]) ?_⟩
 have hrows:∀l:List Nat,(∀j∈l,j+1<m)→(zBo (unf x) (jH n s.nx m) s.nx l)=l.map fun j=>(s.nx+j,zGq (jH n s.nx m) (unf x (j+1))):=by
  intro l
  induction l with
  |nil=>intro _;rfl
  |cons j l ih=>intro h;simp only[zBo,yVz];rw[ih fun j hj=>h j (yVr _ hj)]
 have hr2:=hrows (List.range (m-1)) (fun j hj=>by have:=yYh.1 hj;omega)
 show Hp k w (rHP E' (n,zGq (jH n s.nx m) (unf x 0))::((zBo (unf x) (jH n s.nx m) s.nx (List.range (m-1))++s.rows).map (rHP E')++fz E.F::L))
 rw[hr2,yVu,yXz,yVq]
 have H3:Hp k w ((List.range (m-1)).map ((fun j=>fun h=>∃hd',tab1[j]? =some hd'∧rowHP E.F (unf x j) tab1 hd' h)∘(·+1))++((fun h=>∃hd',tab1[0]? =some hd'∧rowHP E.F (unf x 0) tab1 hd' h)::(s.rows.map (rHP E)++fz E.F::L))):=H2.perm yWa.symm
 have H4:=wE (g:=(rHP E')∘fun j=>(s.nx+j,zGq (jH n s.nx m) (unf x (j+1)))) (fun j y hy=>by
  obtain⟨hd',e1,e2⟩:=hy
  right
  have hj:j+1<m:=by
   have:=(yVn.1 e1).1
   simp only at this;omega
  exact⟨hd',hren _ _ _ (z6l hj) e1,e2.ren hren⟩) H3
 have H5:=H4.perm yWa
 have H6:=H5.imp (B:=rHP E' (n,zGq (jH n s.nx m) (unf x 0))) (fun y hy=>by
  obtain⟨hd',e1,e2⟩:=hy
  right
  rw[h2]at e1;cases e1
  exact⟨hd,hle.get h1,e2.ren hren⟩)
 have H7:Hp k w (s.rows.map (rHP E)++(rHP E' (n,zGq (jH n s.nx m) (unf x 0))::((List.range (m-1)).map ((rHP E')∘fun j=>(s.nx+j,zGq (jH n s.nx m) (unf x (j+1))))++fz E.F::L))):=by
  refine H6.perm ?_
  refine List.Perm.trans ?_ yWa.symm
  refine .cons _ ?_
  rw[← yVq,← yVq]
  exact yXj.append_right _
 have H8:=wE (fun r y=>rHP.mono hle r) H7
 refine H8.perm ?_
 refine yWa.trans (.cons _ ?_)
 rw[← yVq,← yVq]
 exact yXj.append_right _
theorem z5f {n p q:Nat} (h:yC p [(0,n)]=some q):p=0∧q=n:=by
 simp only[yC]at h
 cases hb:Nat.beq 0 p
 ·rw[hb]at h;cases h
 ·rw[hb]at h
  simp only[cond_true,Option.some.injEq]at h
  exact⟨(yVo hb).symm,h.symm⟩
def yJq (o':AObj):Prop:=∀{k:Ko} {L:List HP} {w:World} {n:Nat} {o:AObj} {π:NM} {s:St} {K:NM→St→Prop} {E:Ev},mtO o' n o π s K→Rel k (rHP E (n,o)::L) E s w→WfM π E.tab→o≠.gone→
 ∃E' π' s',MtOk k (PRow E' π' n o'::L) w E π E' π' s'∧K π' s'
def PJ (g:Nat→AObj) (E:Ev) (π:NM) (j:Nat):HP:=fun h=>∃n,yC j π=some n∧PRow E π n (g j) h
theorem PJ.mono {g:Nat→AObj} {E E':Ev} {π π':NM} (hle:E.le E') (hx:Ext π π') {j:Nat} {h:PH} (e:PJ g E π j h):PJ g E' π' j h:=by
 obtain⟨n,h1,h2⟩:=e
 exact⟨n,hx _ _ h1,h2.mono hle hx⟩
theorem Rel.mapL {α:Type} {f g:α→HP} (h:∀a x,f a x→g a x) {l:List α} {E:Ev} {s:St} (R:Rel k (l.map f++L) E s w):Rel k (l.map g++L) E s w:=by
 refine⟨R.nx,?_⟩
 have H:Hp k w (l.map f++(s.rows.map (rHP E)++fz E.F::L)):=by
  refine R.hp.perm ?_
  rw[show s.rows.map (rHP E)++fz E.F::(l.map f++L)=(s.rows.map (rHP E)++[fz E.F])++(l.map f++L)by simp,← yVq,show l.map f++(s.rows.map (rHP E)++fz E.F::L)=(l.map f++(s.rows.map (rHP E)++[fz E.F]))++L by simp]
  exact yXj.append_right _
 have H2:=wE h H
 refine H2.perm ?_
 rw[show s.rows.map (rHP E)++fz E.F::(l.map g++L)=((s.rows.map (rHP E)++[fz E.F])++l.map g)++L by simp,show l.map g++(s.rows.map (rHP E)++fz E.F::L)=(l.map g++(s.rows.map (rHP E)++[fz E.F]))++L by simp]
 exact yXj.append_right _
theorem Rel.frontL {E:Ev} {s:St} {A:List HP} (R:Rel k (A++L) E s w):Hp k w (A++(s.rows.map (rHP E)++fz E.F::L)):=by
 refine R.hp.perm ?_
 rw[show s.rows.map (rHP E)++fz E.F::(A++L)=(s.rows.map (rHP E)++[fz E.F])++(A++L)by simp,← yVq,show A++(s.rows.map (rHP E)++fz E.F::L)=(A++(s.rows.map (rHP E)++[fz E.F]))++L by simp]
 exact yXj.append_right _
theorem zTk {g:Nat→AObj} (hg:∀j,yJq (g j)) {c:Option AObj}:∀{js:List Nat} {done:List Nat} {π:NM} {s:St} {K:NM→St→Prop} {E:Ev},(0∉js)→
 zUv (fun j π s K=>match yC j π with
  |some n'=>match(match j with|0=>c|_=>s.getg n')with
   |some o'=>mtO (g j) n' o' π (match j with|0=>s|_=>s.delF n' o') K
   |none=>False
  |none=>False) js π s K→Rel k (done.map (PJ g E π)++L) E s w→WfM π E.tab→
 ∃E' π' s',MtOk k ((js.reverse++done).map (PJ g E' π')++L) w E π E' π' s'∧K π' s'
 |[],done,π,s,K,E,h0,h,R,hw=>⟨E,π,s,⟨Ev.le.refl _,Ext.refl _,hw,by simpa using R⟩,h⟩
 |j::js,done,π,s,K,E,h0,h,R,hw=>by
  simp only[zUv]at h
  split at h<;>first|exact h.elim|skip
  rename_i n' hn'
  cases j with
  |zero=>exact absurd yVp h0
  |succ j=>
   simp only at h
   split at h<;>first|exact h.elim|skip
   rename_i o' ho'
   obtain⟨ho',hgone⟩:=sY ho'
   ·have R1:=R.takeF ho'
    obtain⟨E1,π1,s1,q1,q2⟩:=hg (j+1) h R1 hw hgone
    have R2:Rel k (((j+1)::done).map (PJ g E1 π1)++L) E1 s1 w:=by
     have R3:=q1.rel.impL (B:=PJ g E1 π1 (j+1)) fun x hx=>⟨n',q1.ext _ _ hn',hx⟩
     have R4:Rel k (done.map (PJ g E π)++(PJ g E1 π1 (j+1)::L)) E1 s1 w:=⟨R3.nx,R3.hp.perm (by
      refine List.Perm.append_left _ (.cons _ ?_)
      exact yWa.symm)⟩
     have R5:=R4.mapL (g:=PJ g E1 π1) fun a x hx=>hx.mono q1.le q1.ext
     exact⟨R5.nx,R5.hp.perm (by
      refine List.Perm.append_left _ (.cons _ ?_)
      exact yWa)⟩
    obtain⟨E2,π2,s2,r1,r2⟩:=zTk hg (fun hm=>h0 (yVr _ hm)) q2 R2 q1.wf
    refine⟨E2,π2,s2,⟨q1.le.trans r1.le,q1.ext.trans r1.ext,r1.wf,?_⟩,r2⟩
    have:=r1.rel
    simpa using this
theorem z7w {E:Ev}:∀{ds:List D} {l:List Value},VRL E (ds.map V.d) l→DRL E.F ds l
 |[],l,h=>by simpa only[yZc,VRL,DRL]using h
 |d::ds,l,h=>by
  simp only[yVz,VRL,VR]at h
  obtain⟨x,xs,h1,h2,h3⟩:=h
  simp only[DRL]
  exact⟨x,xs,h1,h2,z7w h3⟩
theorem yMc:∀o',yJq o':=by
 intro o'
 induction o' with
 |gone=>
  intro k L w n o π s K E h R hw hg
  simp only[mtO]at h
  have H:=R.out
  refine⟨E,π,s,⟨Ev.le.refl _,Ext.refl _,hw,?_⟩,h⟩
  obtain⟨hd,x,q1,_,_⟩:∃hd x,E.tab[n]? =some hd∧rowHP E.F o E.tab hd x∧Sub x w:=by
   obtain⟨x,hx,hs⟩:=H.sat
   rcases hx with⟨e,_⟩|⟨hd,h1,h2⟩
   ·exact absurd e hg
   ·exact⟨hd,x,h1,h2,hs⟩
  refine Rel.inn R.nx (((@vS k w True _).2 ⟨trivial,H.drop⟩).imp fun x hx=> ?_)
  intro E2 π2 a b tl c
  exact⟨hd,a.get q1,by simp only[rowHP];exact hx.2⟩
 |nilo=>
  intro k L w n o π s K E h R hw hg
  simp only[mtO]at h
  obtain⟨rfl,h⟩:=h
  exact⟨E,π,s,⟨Ev.le.refl _,Ext.refl _,hw,R.impL fun x hx=>uV rfl (by simp) hx⟩,h⟩
 |fro sz els=>
  intro k L w n o π s K E h R hw hg
  simp only[mtO]at h
  split at h
  ·rename_i t sz' els'
   obtain⟨hb,e9,hK⟩:=zP h
   subst e9
   have e:=yVo hb
   subst e
   have H:Hp k w (rHP E (n,.own t sz els)::fz E.F::(s.rows.map (rHP E)++L)):=R.out.cons yWa
   obtain⟨x,hx,hd,hsub,H⟩:=zQb H
   rcases hx with⟨e,_⟩|⟨hv,h1,h2⟩
   ·cases e
   simp only[rowHP]at h2
   obtain⟨a,c,xs,h3,h4,h5,h6⟩:=h2
   have hle:E.le ⟨un x E.F,E.tab⟩:=⟨zZz hd,yZq _⟩
   have hdr:DR (un x E.F) (.ro sz els) hv.1:=by
    simp only[DR]
    refine⟨a,c,h3,(zHa h6).2,h5,?_⟩
    rcases h6 with⟨rfl,q2,rfl,rfl,rfl⟩|⟨b,r,rfl,rfl,q3,q4,q5⟩
    ·exact .inl (yWl q2)
    ·refine .inr ⟨b,0,xs++r,t,(0,0),rfl,?_,DRS_iff.2 ⟨xs,r,rfl,h4.mono hle.1⟩⟩
     simp[un,one]
   have H1:Hp k w (s.rows.map (rHP E)++fz (un x E.F)::L):=H.perm yWa.symm
   have H2:=wE (fun r x=>rHP.mono hle r) H1
   have H3:=yDt H2
   refine⟨⟨un x E.F,E.tab⟩,π,s,⟨hle,Ext.refl _,hw,Rel.inn R.nx (H3.imp fun y hy=> ?_)⟩,hK⟩
   intro E2 π2 a1 b1 tl c1
   refine⟨hv,a1.get h1,?_⟩
   simp only[rowHP]
   exact⟨hy,hdr.mono a1.1⟩
  ·obtain⟨rfl,h⟩:=h
   exact⟨E,π,s,⟨Ev.le.refl _,Ext.refl _,hw,R.impL fun x hx=>uV rfl (by simp) hx⟩,h⟩
 |objs t T m unf l hole ih=>
  intro k L w n o π s K E h R hw hg
  simp only[mtO]at h
  split at h
  ·obtain⟨rfl,rfl,h⟩:=h
   refine⟨E,π,s,⟨Ev.le.refl _,Ext.refl _,hw,R.impL fun x hx=>uV (o:= .objs t T m unf [] none) rfl (by simp) ?_⟩,h⟩
   rcases hx with⟨e,_⟩|⟨hd,h1,h2⟩
   ·cases e
   ·simp only[rowHP]at h2
    obtain⟨rfl,e1,e2⟩:=h2
    refine .inr ⟨hd,h1,rowHP_objs.2 ⟨none,0,e1,by rw[e2];rfl,fun p hp=>(by rw[e2]at hp;exact(nomatch hp)),pe,pe,by rw[e2];exact z1t t 1,rfl,?_,?_⟩⟩
    ·intro b;exact .inl rfl
    ·funext b;rfl
  ·obtain⟨rfl,h⟩:=h
   exact⟨E,π,s,⟨Ev.le.refl _,Ext.refl _,hw,R.impL fun x hx=>uV rfl (by simp) hx⟩,h⟩
 |vec ds t=>
  intro k L w n o π s K E h R hw hg
  simp only[mtO]at h
  split at h
  ·obtain⟨hb,e9,hK⟩:=zP h
   subst e9
   have e:=yVo hb
   subst e
   refine⟨E,π,s,⟨Ev.le.refl _,Ext.refl _,hw,R.impL fun x hx=>uV (o:= .vec ds t) rfl (by simp) ?_⟩,hK⟩
   rcases hx with⟨e,_⟩|⟨hd,h1,h2⟩
   ·cases e
   ·simp only[rowHP]at h2
    obtain⟨b,l,e1,e2,e3⟩:=h2
    refine .inr ⟨hd,h1,?_⟩
    simp only[rowHP]
    exact⟨b,l,e1,z7w e2,e3⟩
  ·obtain⟨rfl,h⟩:=h
   exact⟨E,π,s,⟨Ev.le.refl _,Ext.refl _,hw,R.impL fun x hx=>uV rfl (by simp) hx⟩,h⟩
 |map es=>
  intro k L w n o π s K E h R hw hg
  simp only[mtO]at h
  split at h<;>first|exact h.elim|skip
  obtain⟨rfl,h⟩:=h
  exact⟨E,π,s,⟨Ev.le.refl _,Ext.refl _,hw,R.impL fun x hx=>uV rfl (by simp) hx⟩,h⟩
 |mapS es kv x=>
  intro k L w n o π s K E h R hw hg
  simp only[mtO]at h
  obtain⟨rfl,h⟩:=h
  exact⟨E,π,s,⟨Ev.le.refl _,Ext.refl _,hw,R.impL fun x hx=>uV rfl (by simp) hx⟩,h⟩
 |mrk t els=>
  intro k L w n o π s K E h R hw hg
  simp only[mtO]at h
  obtain⟨rfl,h⟩:=h
  exact⟨E,π,s,⟨Ev.le.refl _,Ext.refl _,hw,R.impL fun x hx=>uV rfl (by simp) hx⟩,h⟩
 |iter b p=>
  intro k L w n o π s K E h R hw hg
  simp only[mtO]at h
  split at h<;>first|exact h.elim|skip
  obtain⟨rfl,rfl,h⟩:=h
  exact⟨E,π,s,⟨Ev.le.refl _,Ext.refl _,hw,R.impL fun x hx=>uV rfl (by simp) hx⟩,h⟩
 |own t sz els=>
  intro k L w n o π s K E h R hw hg
  simp only[mtO]at h
  split at h<;>first|exact h.elim|skip
  ·obtain⟨hb,rfl,hk⟩:=zP h
   simp only[yVy]at hb
   have e1:=yVo hb.1
   have e2:=yVo hb.2
   subst e1 e2
   exact⟨E,π,s,⟨Ev.le.refl _,Ext.refl _,hw,R.impL fun x hx=>uV rfl (by simp) hx⟩,hk⟩
  ·obtain⟨rfl,h⟩:=h
   refine⟨E,π,s,⟨Ev.le.refl _,Ext.refl _,hw,R.impL fun x hx=> ?_⟩,h⟩
   rcases hx with⟨e,_⟩|⟨hd,h1,h2⟩
   ·cases e
   ·intro E2 π2 a b tl c
    simp only[rowHP]at h2
    refine⟨hd,a.get h1,?_⟩
    simp only[rowHP]
    exact⟨none,0,[],h2.2.1,by simp[DRL],by simp,.inl ⟨rfl,rfl,rfl,rfl,h2.1⟩⟩
 |cells vs t=>
  intro k L w n o π s K E h R hw hg
  have key:∀{E:Ev} {s:St} {vs':List V} {π:NM},Rel k (rHP E (n,.cells vs' t)::L) E s w→WfM π E.tab→mtL vs vs' π s K→∃E' π' s',MtOk k (PRow E' π' n (.cells vs t)::L) w E π E' π' s'∧K π' s':=by
   intro E s vs' π R hw h
   have H:=R.out
   obtain⟨b,l,sub,h1,h2,H⟩:∃b l sub,E.tab[n]? =some (.pointer (some ⟨b,0,none⟩),sub)∧VRL E vs' l∧Hp k w (pt b (.cells l.toArray t)::(s.rows.map (rHP E)++fz E.F::L)):=by
    obtain⟨hk,hs,hh⟩:=H
    cases hh with
    |cons ha hsub hdj hr=>
     rcases ha with⟨e,_⟩|⟨⟨hv,sub⟩,q1,q2⟩
     ·cases e
     ·simp only[rowHP]at q2
      obtain⟨b,l,rfl,q3,rfl⟩:=q2
      exact⟨b,l,sub,q1,q3,hk,_,.cons rfl hsub hdj hr⟩
   have R1:Rel k (pt b (.cells l.toArray t)::L) E s w:=Rel.inn R.nx H
   obtain⟨E',π',s',q1,q2,q3⟩:=sK h R1 hw h2
   refine⟨E',π',s',⟨q1.le,q1.ext,q1.wf,q1.rel.impL fun x hx=> ?_⟩,q3⟩
   intro E2 π2 a b' tl c
   refine⟨_,a.get (q1.le.get h1),?_⟩
   simp only[rowHP]
   exact⟨b,l,rfl,q2 E2 π2 a b' tl c,hx⟩
  simp only[mtO]at h
  split at h<;>first|exact h.elim|skip
  ·obtain⟨hb,hk⟩:=zP h
   have e:=yVo hb
   subst e
   exact key R hw hk
  ·rename_i T m unf x
   obtain⟨hb,h⟩:=zP h
   obtain⟨E1,q1,q2⟩:=R.unfold (yXt hb)
   revert q2 h
   generalize zJh s n m (unf x)=u
   obtain⟨u1,u2⟩:=u
   intro h q2
   simp only at h q2
   split at h<;>first|exact h.elim|skip
   rename_i vs' t' s' heq
   cases heq
   obtain⟨hb,hk⟩:=zP h
   have e:=yVo hb
   subst e
   obtain⟨E',π',s2,r1,r2⟩:=key q2 (hw.mono q1) hk
   exact⟨E',π',s2,⟨q1.trans r1.le,r1.ext,r1.wf,r1.rel⟩,r2⟩
 |adt T m unf x ih=>
  intro k L w n o π s K E h R hw hg
  unfold mtO at h
  split at h
  ·rename_i vs t
   obtain⟨hb,h⟩:=zP h
   have hm:=yXt hb
   have hrange:List.range m=0::(List.range (m-1)).map (·+1):=by
    have:m=(m-1)+1:=by omega
    rw[this,List.range_succ_eq_map]
    simp
   obtain⟨hd,hd1⟩:∃hd,E.tab[n]? =some hd:=by
    obtain⟨x,hx,_⟩:=R.out.sat
    rcases hx with⟨e,_⟩|⟨hd,h1,_⟩
    ·cases e
    ·exact⟨hd,h1⟩
   have hw0:WfM [(0,n)] E.tab:=fun p q e=>by
    obtain⟨_,rfl⟩:=z5f e
    exact⟨hd,hd1⟩
   rw[hrange]at h
   simp only[zUv]at h
   have hpl:yC 0 [(0,n)]=some n:=rfl
   rw[hpl]at h
   simp only at h
   obtain⟨E1,π1,s1,q1,q2⟩:=ih x 0 h R hw0 (by simp)
   have R2:Rel k ([0].map (PJ (unf x) E1 π1)++L) E1 s1 w:=q1.rel.impL fun y hy=>⟨n,q1.ext _ _ hpl,hy⟩
   obtain⟨E2,π2,s2,r1,r2⟩:=zTk (fun j=>ih x j) (c:=some (AObj.cells vs t)) (by simp) q2 R2 q1.wf
   have hle:=q1.le.trans r1.le
   obtain⟨hlt,r2⟩:=zP r2
   refine⟨E2,π,s2,⟨hle,Ext.refl _,hw.mono hle,?_⟩,r2⟩
   have H:=r1.rel.frontL
   have H2:Hp k w ((List.range m).map (PJ (unf x) E2 π2)++(s2.rows.map (rHP E2)++fz E2.F::L)):=by
    refine H.perm (List.Perm.append_right _ (List.Perm.map _ ?_))
    rw[hrange]
    refine(List.reverse_perm _).append_right _|>.trans ?_
    exact yXj
   refine Rel.inn r1.rel.nx ((hp_star.2 H2).imp fun y hy=> ?_)
   intro E3 π3 a b tl c
   have hall:∀j,j<m→∃n,yC j π2=some n:=by
    intro j hj
    have hs:∀{l:List HP} {y:PH},hS l y→∀A∈l,∃z,A z:=by
     intro l
     induction l with
     |nil=>intro y _ A hA;cases hA
     |cons B l ih=>
      intro y hy A hA
      cases l with
      |nil=>rcases yXc.1 hA with rfl;exact⟨y,hy⟩
      |cons C l=>
       obtain⟨g,g',h1,h2,_,_⟩:=hy
       rcases yWf.1 hA with rfl|hA
       ·exact⟨g,h1⟩
       ·exact ih h2 A hA
    obtain⟨z,n,hz,_⟩:=hs hy (PJ (unf x) E2 π2 j) (yWy.2 ⟨j,yYh.2 hj,rfl⟩)
    exact⟨n,hz⟩
   let tab1:List Hd:=(List.range m).map fun j=>(E3.tab[(yC j π2).getD 0]?).getD (undef,[])
   have htab:∀j n,j<m→yC j π2=some n→∃hd,E3.tab[n]? =some hd∧tab1[j]? =some hd:=by
    intro j n hj hn
    obtain⟨hd,h'⟩:=r1.wf j n hn
    refine⟨hd,a.get h',?_⟩
    show((List.range m).map _)[j]? =_
    rw[yWt,yZk hj]
    simp only[yXi,hn,yXo,a.get h']
   have hloc:Loc π2 E3.tab tab1:=fun p q e=>htab p q (bS hlt p q e) e
   refine⟨hd,a.get (hle.get hd1),?_⟩
   simp only[rowHP]
   refine⟨tab1,?_,by simp[tab1],?_⟩
   ·have h0:yC 0 π2=some n:=r1.ext _ _ (q1.ext _ _ hpl)
    obtain⟨hd',e1,e2⟩:=htab 0 n (by omega) h0
    rw[a.get (hle.get hd1)]at e1;cases e1
    exact e2
   ·refine lW ?_ hy
    rintro j z ⟨nj,hj,hz⟩
    obtain⟨hd',e1,e2⟩:=hz E3 π2 a (Ext.refl _) tab1 hloc
    obtain⟨hd2,e3,e4⟩:=hloc j nj hj
    rw[e1]at e3;cases e3
    exact⟨hd',e4,e2⟩
  ·obtain⟨rfl,h⟩:=h
   exact⟨E,π,s,⟨Ev.le.refl _,Ext.refl _,hw,R.impL fun x hx=>uV rfl (by simp) hx⟩,h⟩
open Go Go.RowKit Cv
variable {k:Ko} {L:List HP} {w:World}
def hJ:Nat→List AObj→List (Nat×AObj)
 |_,[]=>[]
 |p,o::os=>(p,o)::hJ (p+1) os
def PQ (E:Ev) (π:NM) (r:Nat×AObj):HP:=fun h=>(r.2= .gone∧h=pe)∨∃n,yC r.1 π=some n∧PRow E π n r.2 h
theorem PQ.mono {E E':Ev} {π π':NM} (hle:E.le E') (hx:Ext π π') (r:Nat×AObj) {h:PH} (e:PQ E π r h):PQ E' π' r h:=by
 rcases e with e|⟨n,h1,h2⟩
 ·exact .inl e
 ·exact .inr ⟨n,hx _ _ h1,h2.mono hle hx⟩
theorem zRc:∀{os:List AObj} {p:Nat} {π:NM} {s:St} {K:NM→St→Prop} {E:Ev} {L:List HP},mtR p os π s K→Rel k L E s w→WfM π E.tab→
 ∃E' π' s',MtOk k ((hJ p os).map (PQ E' π')++L) w E π E' π' s'∧K π' s'
 |[],p,π,s,K,E,L,h,R,hw=>⟨E,π,s,⟨Ev.le.refl _,Ext.refl _,hw,R⟩,h⟩
 |o::os,p,π,s,K,E,L,h,R,hw=>by
  have fin:∀{E1:Ev} {π1:NM} {s1:St},MtOk k (PQ E1 π1 (p,o)::L) w E π E1 π1 s1→mtR (p+1) os π1 s1 K→∃E' π' s',MtOk k ((hJ p (o::os)).map (PQ E' π')++L) w E π E' π' s'∧K π' s':=by
   intro E1 π1 s1 q1 q2
   obtain⟨E2,π2,s2,r1,r2⟩:=zRc q2 q1.rel q1.wf
   refine⟨E2,π2,s2,⟨q1.le.trans r1.le,q1.ext.trans r1.ext,r1.wf,?_⟩,r2⟩
   have R3:=r1.rel
   have R4:Rel k (PQ E1 π1 (p,o)::((hJ (p+1) os).map (PQ E2 π2)++L)) E2 s2 w:=⟨R3.nx,R3.hp.perm (by
    refine List.Perm.append_left _ (.cons _ ?_)
    exact yWa)⟩
   exact R4.impL fun x hx=>hx.mono r1.le r1.ext
  cases o with
  |gone=>
   simp only[mtR]at h
   refine fin ⟨Ev.le.refl _,Ext.refl _,hw,?_⟩ h
   exact Rel.inn R.nx (((@vS k w True _).2 ⟨trivial,R.hp⟩).imp fun x hx=> .inl ⟨rfl,hx.2⟩)
  |_=>
   simp only[mtR]at h
   split at h<;>first|exact h.elim|skip
   rename_i n hn
   split at h<;>first|exact h.elim|skip
   rename_i o' ho'
   obtain⟨ho',hg⟩:=sY ho'
   obtain⟨E1,π1,s1,q1,q2⟩:=yMc _ h (R.takeF ho') hw hg
   exact fin ⟨q1.le,q1.ext,q1.wf,q1.rel.impL fun x hx=> .inr ⟨n,q1.ext _ _ hn,hx⟩⟩ q2
structure Alt where
 o:Type
 res:o→V
 post:o→List AObj
 rel:o→Prop
structure Con where
 ι:Type
 pat:ι→List V
 pre:ι→List AObj
 cnd:ι→Prop
 alts:ι→List Alt
def bQ (m nx:Nat):Nat→NM→NM
 |0,π=>π
 |q+1,π=>bQ m nx q ((m+q,nx+q)::π)
def qZ (π:NM):Nat→List AObj→List (Nat×AObj)
 |_,[]=>[]
 |p,.gone::os=>qZ π (p+1) os
 |p,o::os=>match yC p π with
  |some n=>(n,zGq π o)::qZ π (p+1) os
  |none=>qZ π (p+1) os
def yNr (m:Nat) (π:NM) (s:St) (os:List AObj):St:=⟨qZ (bQ m s.nx (os.length-m) π) 0 os++s.rows,s.nx+(os.length-m)⟩
def yLi (m:Nat) (π:NM) (s:St) (K:V→St→Prop) (a:Alt):Prop:=
 ∀o,a.rel o→bif Nat.ble m (a.post o).length then K (pV (bQ m s.nx ((a.post o).length-m) π) (a.res o)) (yNr m π s (a.post o))else False
def yCp (m:Nat) (π:NM) (s:St) (K:V→St→Prop):List Alt→Prop
 |[]=>True
 |[a]=>yLi m π s K a
 |a::l=>yLi m π s K a∧yCp m π s K l
theorem zNr {m:Nat} {π:NM} {s:St} {K:V→St→Prop}:∀{l:List Alt},yCp m π s K l→∀a∈l,yLi m π s K a
 |[],_,a,ha=>by cases ha
 |[b],h,a,ha=>by rcases yXc.1 ha with rfl;exact h
 |b::c::l,h,a,ha=>by
  rcases yWf.1 ha with rfl|ha
  ·exact h.1
  ·exact zNr h.2 a ha
def Con.call (C:Con) (args:List V) (s:St) (K:V→St→Prop):Prop:=
 ∃i:C.ι,mtL (C.pat i) args [] s fun π s=>mtR 0 (C.pre i) π s fun π s=>bif nB (C.pre i).length π then C.cnd i∧yCp (C.pre i).length π s K (C.alts i)else False
def Con.ok (P:Program) (f:FuncId) (C:Con):Prop:=∀i,C.cnd i→∀(k:Ko) (L:List HP) (E:Ev) (w:World) (ys:List Value),Rel k L E ⟨hJ 0 (C.pre i),(C.pre i).length⟩ w→VRL E (C.pat i) ys→
 Does P (callFunc f ys.toArray) w fun y w'=>∃a∈C.alts i,∃o,a.rel o∧∃E',E.le E'∧VR E' (a.res o) y∧Rel k L E' ⟨hJ 0 (a.post o),(a.post o).length⟩ w'
theorem zMq {m nx:Nat} {p n:Nat}:∀{q:Nat} {π:NM},yC p (bQ m nx q π)=some n→yC p π=some n∨(m≤p∧n=nx+(p-m))
 |0,π,h=> .inl h
 |q+1,π,h=>by
  simp only[bQ]at h
  rcases zMq (q:=q) h with h|h
  ·simp only[yC]at h
   cases hb:Nat.beq (m+q) p
   ·rw[hb]at h;exact .inl h
   ·rw[hb]at h
    have:=yVo hb
    simp only[cond_true,Option.some.injEq]at h
    exact .inr ⟨by omega,by omega⟩
  ·exact .inr h
theorem bZ {π:NM} {E E2:Ev} (hF:E.F=E2.F) (hr:∀p n hd,yC p π=some n→E.tab[p]? =some hd→E2.tab[n]? =some hd) {M:List HP}:∀{os:List AObj} {p:Nat},Hp k w ((hJ p os).map (rHP E)++M)→Hp k w ((qZ π p os).map (rHP E2)++M)
 |[],p,H=>H
 |o::os,p,H=>by
  simp only[hJ,yVz,yXb]at H
  have drop:Hp k w ((qZ π (p+1) os).map (rHP E2)++M):=bZ hF hr H.drop
  have main:∀n,yC p π=some n→Hp k w (rHP E2 (n,zGq π o)::((qZ π (p+1) os).map (rHP E2)++M)):=by
   intro n hn
   have H1:Hp k w ((hJ (p+1) os).map (rHP E)++(rHP E (p,o)::M)):=H.perm yWa.symm
   have H2:=bZ hF hr H1
   refine(H2.perm yWa).imp fun x hx=> ?_
   rcases hx with⟨e,e2⟩|⟨hd,h1,h2⟩
   ·left
    simp only at e;subst e
    exact⟨rfl,e2⟩
   ·right
    exact⟨hd,hr _ _ _ hn h1,hF▸h2.ren hr⟩
  cases o with
  |gone=>simpa only[qZ]using drop
  |_=>
   simp only[qZ]
   split
   ·rename_i n hn;exact main n hn
   ·exact drop
theorem Con.call_sound {P:Program} {f:FuncId} {C:Con} (hC:C.ok P f) {args:List V} {s:St} {K:V→St→Prop} {E:Ev} {ys:List Value} (h:C.call args s K) (R:Rel k L E s w) (hv:VRL E args ys):
 Does P (callFunc f ys.toArray) w (Outc k L E K):=by
 obtain⟨i,h⟩:=h
 have hw0:WfM [] E.tab:=fun p n e=>by cases e
 obtain⟨E1,π1,s1,q1,q2,q3⟩:=sK h R hw0 hv
 obtain⟨E2,π2,s2,r1,r2⟩:=zRc q3 q1.rel q1.wf
 obtain⟨hlt,hc,ha⟩:=zP r2
 have hlt:=bS hlt
 let m:=(C.pre i).length
 let tl:List Hd:=(List.range m).map fun p=>(E2.tab[(yC p π2).getD 0]?).getD (undef,[])
 have hloc:Loc π2 E2.tab tl:=by
  intro p n hp
  obtain⟨hd,h'⟩:=r1.wf p n hp
  refine⟨hd,h',?_⟩
  show((List.range m).map _)[p]? =_
  rw[yWt,yZk (hlt p n hp)]
  simp only[yXi,hp,yXo,h']
 have htl:tl.length=m:=by simp[tl]
 have H:=r1.rel.frontL
 have H1:=wE (g:=rHP ⟨E2.F,tl⟩) (fun r x hx=>by
  rcases hx with⟨e1,e2⟩|⟨n,h1,h2⟩
  ·exact .inl ⟨e1,e2⟩
  ·right
   obtain⟨hd,h3,h4⟩:=h2 E2 π2 (Ev.le.refl _) (Ext.refl _) tl hloc
   obtain⟨hd',h5,h6⟩:=hloc _ _ h1
   rw[h3]at h5;cases h5
   exact⟨hd,h6,h4⟩) H
 have R0:Rel k (s2.rows.map (rHP E2)++L) ⟨E2.F,tl⟩ ⟨hJ 0 (C.pre i),(C.pre i).length⟩ w:=⟨htl,H1.perm (List.Perm.append_left _ yWa)⟩
 have hv0:VRL ⟨E2.F,tl⟩ (C.pat i) ys:=q2 E2 π2 r1.le r1.ext tl hloc
 refine(hC i hc k _ _ w ys R0 hv0).mono ?_
 rintro y w' ⟨a,ha',o,hrel,E3,hle,hvr,R3⟩
 obtain⟨hm,hk⟩:=zP (zNr ha a ha' o hrel)
 have hm:=yXt hm
 let q:=(a.post o).length
 have hlen:E3.tab.length=q:=R3.nx
 let E4:Ev:=⟨E3.F,E2.tab++E3.tab.drop m⟩
 have hle4:E2.le E4:=⟨hle.1,yZd _ _⟩
 have hren:∀p n hd,yC p (bQ m s2.nx (q-m) π2)=some n→E3.tab[p]? =some hd→E4.tab[n]? =some hd:=by
  intro p n hd hp ht
  rcases zMq hp with hp|⟨h1,rfl⟩
  ·obtain⟨hd',h5,h6⟩:=hloc _ _ hp
   have:=zRr hle.2 h6
   rw[ht]at this;cases this
   exact hle4.get h5
  ·show(E2.tab++E3.tab.drop m)[s2.nx+(p-m)]? =some hd
   rw[← r1.rel.nx,yXp (by omega),yYg]
   rw[show m+(E2.tab.length+(p-m)-E2.tab.length)=p by omega]
   exact ht
 refine⟨E4,_,_,(q1.le.trans r1.le).trans hle4,?_,hvr.ren (F:=E3.F) hren,hk⟩
 refine⟨by show(E2.tab++E3.tab.drop m).length=s2.nx+(q-m);rw[yVm,yWh,r1.rel.nx,hlen],?_⟩
 have H2:=bZ (E:=E3) (E2:=E4) rfl hren R3.hp
 have H3:Hp k w' (s2.rows.map (rHP E2)++((qZ (bQ m s2.nx (q-m) π2) 0 (a.post o)).map (rHP E4)++fz E3.F::L)):=by
  refine H2.perm ?_
  rw[← yVq]
  refine List.Perm.trans ?_ (yXj.append_right _)
  rw[yVq]
  exact List.Perm.append_left _ yWa.symm
 have H4:=wE (g:=rHP E4) (fun r x=>rHP.mono hle4 r) H3
 refine H4.perm ?_
 show(s2.rows.map (rHP E4)++((qZ (bQ m s2.nx (q-m) π2) 0 (a.post o)).map (rHP E4)++fz E3.F::L)).Perm ((qZ (bQ m s2.nx (q-m) π2) 0 (a.post o)++s2.rows).map (rHP E4)++fz E4.F::L)
 rw[← yVq,yVu]
 exact yXj.append_right _
open Go Go.RowKit Cv
variable {P:Program} {k:Ko} {L:List HP}
def kS (P:Program) (ρ:yY) (op:Op):Nat:=
 match op with
 | .convert s d _=>bif yAm P s && lA P d then 1 else bif lA P s && zBp P d then 2 else bif yAm P s && zBp P d then 2 else 0
 | .indexAddr _ x _=>match sev ρ x with
   | .own _=>1
   |_=>0
 | .slice _ x _ _ _=>match sev ρ x with
   | .own _=>2
   |_=>0
 | .binOp _ _ x _ _=>match sev ρ x with
   | .own _=>1
   |_=>0
 | .call c=>match c.callee with
   | .builtin .len=>match evs ρ c.args.toList with
     |[.own _]=>1
     |[.mp _]=>1
     |_=>0
   | .builtin .cap=>0
   | .builtin .min=>0
   | .builtin .max=>0
   |_=>2
 |op=>zRd P op
def opS (P:Program) (H:Hnd) (o:Oper) (ρ:yY) (s:St) (K:V→St→Prop):Prop:=
 match kS P ρ o.op with
 |0=>sq P o ρ fun v=>K v s
 |1=>sr P o ρ s fun v=>K v s
 |_=>se P H o ρ s K
theorem z6x {H:Hnd} (hH:HOk P H) {E:Ev} {s:St} {w:World} (R:Rel k L E s w) {ρS:yY} {ρ:Env} (he:EnvR E ρS ρ) {o:Oper} {K:V→St→Prop} (h:opS P H o ρS s K):Does P (execOp (ev ρ) o) w (Outc k L E K):=by
 unfold opS at h
 split at h
 ·obtain⟨v,y,hk,hv,hf⟩:=zTb he h
  exact jP (hf w) ⟨E,v,s,Ev.le.refl _,R,hv,hk⟩
 ·obtain⟨v,y,hk,hv,hf⟩:=zJs R he h
  exact jP hf ⟨E,v,s,Ev.le.refl _,R,hv,hk⟩
 ·exact zUs hH R he h
def zJt (ops:List Oper) (g:Option (Nat×Bool)) (ρ:yY) (Y N:yY→Prop):Prop:=
 match g with
 |none=>Y ρ
 |some (j,want)=>
  match z1o ops j with
  |none=>N ρ
  |some d=>
   match ρ d with
   | .d (.v (.bool c))=>gd c want (Y (rY ρ (some d) (.d (.v (.bool want))))) (N (rY ρ (some d) (.d (.v (.bool !want)))))
   | .tup []=>N ρ
   |_=>False
theorem z6n {ρ:yY} {d:Nat} {v:V} (h:ρ d=v):rY ρ (some d) v=ρ:=by
 funext i
 simp only[rY]
 cases hb:Nat.beq i d
 ·rfl
 ·have:=yVo hb;subst this;exact h.symm
theorem mT {ops:List Oper} {o:Oper} {a:Act} {E:Ev} {ρS:yY} (he:EnvR E ρS (yL a)) {Y N:yY→Prop} (h:zJt ops o.guard ρS Y N):
 if Region.wanted o (yielded ops.toArray a.tmps)then Y ρS else N ρS:=by
 unfold zJt at h
 unfold Region.wanted
 split at h
 ·rename_i hg;rw[hg];exact h
 ·rename_i j want hg
  rw[hg]
  have hy:=zBe ops a.tmps j
  split at h
  ·rename_i hd
   rw[hd]at hy
   simp only[hy]
   simpa using h
  ·rename_i d hd
   rw[hd]at hy
   simp only[hy]
   have hv:yL a d=(a.tmps[d]?).getD undef:=by simp[yL,yXa]
   have hed:=he d
   rw[hv]at hed
   split at h<;>first|exact h.elim|skip
   ·rename_i c hc
    rw[hc]at hed
    simp only[VR,DR]at hed
    cases ht:a.tmps[d]? with
    |none=>rw[ht]at hed;exact absurd hed.1 (by simp[undef])
    |some v=>
     rw[ht]at hed
     simp only[yXo]at hed
     rw[hed.1]
     simp only[]
     have hs:∀b,c=b→rY ρS (some d) (.d (.v (.bool b)))=ρS:=fun b hb=>z6n (by rw[hc,hb])
     cases c<;>cases want<;>simp only[gd,Bool.not_true,y0h]at h<;>rw[hs _ rfl]at h<;>simpa using h
   ·rename_i hc
    rw[hc]at hed
    simp only[VR,VRL]at hed
    obtain⟨ys,e1,rfl⟩:=hed
    cases ht:a.tmps[d]? with
    |none=>simpa using h
    |some v=>
     rw[ht]at e1
     simp only[yXo]at e1
     subst e1
     simpa using h
def zTe (P:Program) (H:Hnd) (ops:List Oper):List Oper→yY→St→(yY→St→Prop)→Prop
 |[],ρ,s,K=>K ρ s
 |o::rest,ρ,s,K=>zJt ops o.guard ρ (fun ρ=>opS P H o ρ s fun v s'=>zTe P H ops rest (rY ρ o.dst v) s' K) (fun ρ=>zTe P H ops rest (rY ρ o.dst (.tup [])) s K)
theorem lD (E:Ev):VR E (.tup []) undef:=by
 simp only[VR];exact⟨[],rfl,VRL.nil⟩
theorem zGa {H:Hnd} (hH:HOk P H) {ops:List Oper} {n:Nat} {A:Nat→Bool} {e0:Env} {Q:Exit→Act→World→Prop} {E0:Ev} {K:yY→St→Prop}
 (hQ:∀a w E ρS s,Good n A e0 a→E0.le E→Rel k L E s w→EnvR E ρS (yL a)→K ρS s→Q .normal a w):
 ∀(l:List Oper) (a:Act) (w:World) (E:Ev) (ρS:yY) (s:St),zFu n A l→Good n A e0 a→E0.le E→Rel k L E s w→EnvR E ρS (yL a)→zTe P H ops l ρS s K→wpList P ops.toArray Q l a w
 |[],a,w,E,ρS,s,_,hg,hle,R,he,h=>hQ a w E ρS s hg hle R he h
 |o::l,a,w,E,ρS,s,hf,hgd,hle,R,he,h=>by
  have hdst:=hf o yVp
  have hf':zFu n A l:=fun o' ho'=>hf o' (yVr _ ho')
  have hg:=mT he h
  have nx:∀{v:Value} {w:World} {E':Ev} {v':V} {s':St},E.le E'→Rel k L E' s' w→VR E' v' v→zTe P H ops l (rY ρS o.dst v') s' K→wpList P ops.toArray Q l (a.put o.dst v) w:=fun{v w E' v' s'} hle' R' hv hh=>
   zGa hH hQ l _ _ E' _ s' hf' (hgd.put hdst v) (hle.trans hle') R' (by rw[hgd.envOf_put hdst];exact(he.mono hle').put _ hv) hh
  unfold wpList
  split
  ·rename_i hw
   rw[yVl hw]at hg
   left
   refine zAi ?_
   have:=z6x hH R he hg
   rw[jU]at this
   refine this.mono ?_
   rintro v w' ⟨E',v',s',h1,h2,h3,h4⟩
   exact nx h1 h2 h3 h4
  ·rename_i hw
   rw[yVj hw]at hg
   exact nx (Ev.le.refl _) R (lD E) hg
theorem zGc {P:Program} {E:Ev} {t sz i f:Nat} {els:List (List D)} {b o:Nat} {l:List Value} {T:TypeId} {fr:Nat×Nat} {ds:List D} {v:V} (hu:∀el∈els,el.length=sz) (h5:DRS E.F els (l.drop o))
 (hp:zE els i f ds.length=some ds) (hm:mkD P t ds=some v):∃y,VR E v y∧∀w:World,w.heap[b]? =some (.cells l.toArray T fr)→rD P t ⟨b,o+i*sz+f,none⟩ w y:=by
 obtain⟨xs,r,e,hx⟩:=DRS_iff.1 h5
 unfold zE at hp
 split at hp<;>first|(cases hp;done)|skip
 rename_i el hel
 obtain⟨hb,hp⟩:=y3 hp
 have hb:=yXt hb
 have hmem:=yVv hel
 have hi:i<els.length:=(yVn.1 hel).1
 rw[hu el hmem]at hb
 have hpart:=(hx.drop (i*sz+f)).take ds.length
 have hfp:=zNb hu hel hb
 rw[hfp,Option.some.inj hp]at hpart
 have hlen:xs.length=els.length*sz:=by rw[hx.length,wN hu]
 have hin:i*sz+sz≤els.length*sz:=by
  have:=yXm sz (show i+1≤els.length by omega)
  rwa [yZb]at this
 have hmemory:(l.drop (o+i*sz+f)).take ds.length=(xs.drop (i*sz+f)).take ds.length:=by
  rw[yZf,← yYu,e,yYd (by omega),yWm (by rw[yWh];omega)]
 unfold mkD at hm
 split at hm
 ·rename_i n hn
  obtain⟨hq,hm⟩:=y3 hm
  have:=yVo hq
  cases hm
  refine⟨.agg ((xs.drop (i*sz+f)).take ds.length).toArray,by simp only[VR];exact⟨_,rfl,hpart.vrl⟩,fun w e2=> ?_⟩
  refine zEa hn e2 (by rw[← this];exact hmemory) ?_
  rw[hpart.length,this]
 ·obtain⟨hq,hm⟩:=y3 hm
  split at hm<;>first|(cases hm;done)|skip
  rename_i d
  cases hm
  simp only[yVt,yXk,DRL]at hpart hmemory
  obtain⟨y,ys,e4,h4,h5⟩:=hpart
  subst h5
  refine⟨y,by simpa only[VR]using h4,fun w e2=>fH hq e2 ?_⟩
  have:((l.drop (o+i*sz+f)).take 1)[0]? =some y:=by rw[hmemory,e4];rfl
  rw[List.getElem?_take,yVl (by omega),yYg]at this
  simpa using this
def zHb (ρ:yY) (s:St):Op→Bool
 | .load _ x=>match sev ρ x with
   | .re _ _ _ _=>true
   | .el n _ _ _=>match s.get n with
     |some (.fro _ _)=>true
     |_=>false
   |_=>false
 |_=>false
theorem z6e {E:Ev} {s:St} {w:World} (R:Rel k L E s w) {ρS:yY} {ρ:Env} (he:EnvR E ρS ρ) {o:Oper} {K:V→Prop} (hst:zHb ρS s o.op=true) (h:sr P o ρS s K):
 ∃v y,K v∧VR E v y∧∀(E':Ev) (s':St) (w':World),E.le E'→Rel k L E' s' w'→(execOp (ev ρ) o).run P w'= .ok (.value y) w':=by
 cases ho:o.op<;>rw[ho]at hst<;>first|(cases hst;done)|skip
 case load t x=>
  simp only[sr,ho]at h
  simp only[zHb]at hst
  have hv:=he.ev x
  split at hst<;>first|(cases hst;done)|skip
  ·rename_i sz els i f hx
   rw[hx]at hv h;simp only[VR]at hv
   simp only at h
   obtain⟨e0,e1,b,oo,l,T,fr,e2,e3,e4⟩:=hv
   obtain⟨ds,hp,h⟩:=bY h
   obtain⟨v,hm,hk⟩:=zM h
   obtain⟨y,hy,hh⟩:=zGc (b:=b) (T:=T) (fr:=fr) e1 e4 hp hm
   refine⟨v,y,hk,hy,fun E' s' w' hle R'=> ?_⟩
   simp only[execOp,ho,e2]
   exact yE (hh w' (R'.frozen _ _ (hle.1 _ _ e3)))
  ·rename_i n sz i f hx
   rw[hx]at hv h;simp only[VR]at hv
   simp only at h
   split at hst<;>first|(cases hst;done)|skip
   rename_i sz0 els0 hg
   obtain⟨b,oo,m,c,l,e1,e2⟩:=hv
   simp only[eX,hg]at h
   obtain⟨⟨sz',els⟩,hd,h⟩:=zM h
   simp only[nF,hg,Option.some.injEq,Prod.mk.injEq]at hd
   obtain⟨rfl,rfl⟩:=hd
   obtain⟨hb,h⟩:=zP h
   have:=yVo hb
   simp only at this
   subst this
   obtain⟨ds,hp,h⟩:=bY h
   obtain⟨v,hm,hk⟩:=zM h
   obtain⟨hd,x',q1,q2,q3⟩:=R.row hg (by simp)
   rw[e1]at q1;cases q1
   simp only[rowHP,DR]at q2
   obtain⟨_,a,c',q4,q5,q6,q7⟩:=q2
   cases q4
   rcases q7 with rfl|⟨b',o',l',T,fr,q8,q9,q10⟩
   ·simp[zE]at hp
   cases q8
   obtain⟨y,hy,hh⟩:=zGc (b:=b) (T:=T) (fr:=fr) q6 q10 hp hm
   refine⟨v,y,hk,hy,fun E' s' w' hle R'=> ?_⟩
   simp only[execOp,ho,e2]
   exact yE (hh w' (R'.frozen _ _ (hle.1 _ _ q9)))
def yNg:V→V→Prop
 | .d (.v x),.d (.v y)=>lEq x y
 | .nm n o,.nm n' o'=>bif Nat.beq n n' && Nat.beq o o' then True else False
 | .own n,.own n'=>bif Nat.beq n n' then True else False
 | .mp n,.mp n'=>bif Nat.beq n n' then True else False
 | .el n sz i f,.el n' sz' i' f'=>bif Nat.beq n n' && Nat.beq sz sz' && Nat.beq f f' then i=i' else False
 |_,_=>False
theorem uM {E E':Ev} (hle:E.le E') {v v':V} {y y':Value} (h:yNg v' v) (hy:VR E v y) (hy':VR E' v' y'):y'=y:=by
 unfold yNg at h
 split at h<;>first|exact h.elim|skip
 ·simp only[VR,DR]at hy hy'
  rw[hy.1,hy'.1,z8d h]
 ·obtain⟨hb,_⟩:=zP h
  simp only[yVy]at hb
  have e1:=yVo hb.1
  have e2:=yVo hb.2
  subst e1 e2
  simp only[VR]at hy hy'
  obtain⟨b,oo,l,h1,rfl⟩:=hy
  obtain⟨b',oo',l',h1',rfl⟩:=hy'
  rw[hle.get h1]at h1';cases h1';rfl
 ·obtain⟨hb,_⟩:=zP h
  have e1:=yVo hb
  subst e1
  simp only[VR]at hy hy'
  obtain⟨l,h1,_⟩:=hy
  obtain⟨l',h1',_⟩:=hy'
  rw[hle.get h1]at h1';cases h1';rfl
 ·obtain⟨hb,_⟩:=zP h
  have e1:=yVo hb
  subst e1
  simp only[VR]at hy hy'
  obtain⟨b,l,h1,_⟩:=hy
  obtain⟨b',l',h1',_⟩:=hy'
  rw[hle.get h1]at h1';cases h1';rfl
 ·obtain⟨hb,rfl⟩:=zP h
  simp only[yVy]at hb
  have e1:=yVo hb.1.1
  have e2:=yVo hb.1.2
  have e3:=yVo hb.2
  subst e1 e2 e3
  simp only[VR]at hy hy'
  obtain⟨b,oo,m,c,l,h1,rfl⟩:=hy
  obtain⟨b',oo',m',c',l',h1',rfl⟩:=hy'
  rw[hle.get h1]at h1';cases h1';rfl
mutual
def vEq:V→V→Prop
 | .agg l,v=>match v with
   | .agg l'=>z5b l l'
   |_=>False
 | .tup l,v=>match v with
   | .tup l'=>z5b l l'
   |_=>False
 |u,v=>yNg u v
def z5b:List V→List V→Prop
 |[],l=>match l with
  |[]=>True
  |_=>False
 |u::us,l=>match l with
  |v::vs=>vEq u v∧z5b us vs
  |[]=>False
end
mutual
theorem z3q {E E':Ev} (hle:E.le E'):∀{v' v:V} {y y':Value},vEq v' v→VR E v y→VR E' v' y'→y'=y
 | .agg l,v,y,y',h,hy,hy'=>by
   simp only[vEq]at h
   split at h<;>first|exact h.elim|skip
   simp only[VR]at hy hy'
   obtain⟨ys,rfl,h1⟩:=hy
   obtain⟨ys',rfl,h2⟩:=hy'
   rw[zJd hle h h1 h2]
 | .tup l,v,y,y',h,hy,hy'=>by
   simp only[vEq]at h
   split at h<;>first|exact h.elim|skip
   simp only[VR]at hy hy'
   obtain⟨ys,rfl,h1⟩:=hy
   obtain⟨ys',rfl,h2⟩:=hy'
   rw[zJd hle h h1 h2]
 | .top,v,y,y',h,hy,hy'=>uM hle (by simpa only[vEq]using h) hy hy'
 | .d _,v,y,y',h,hy,hy'=>uM hle (by simpa only[vEq]using h) hy hy'
 | .nm _ _,v,y,y',h,hy,hy'=>uM hle (by simpa only[vEq]using h) hy hy'
 | .el _ _ _ _,v,y,y',h,hy,hy'=>uM hle (by simpa only[vEq]using h) hy hy'
 | .re _ _ _ _,v,y,y',h,hy,hy'=>uM hle (by simpa only[vEq]using h) hy hy'
 | .own _,v,y,y',h,hy,hy'=>uM hle (by simpa only[vEq]using h) hy hy'
 | .mp _,v,y,y',h,hy,hy'=>uM hle (by simpa only[vEq]using h) hy hy'
 | .sub _ _,v,y,y',h,hy,hy'=>uM hle (by simpa only[vEq]using h) hy hy'
 | .fn _ _ _,v,y,y',h,hy,hy'=>uM hle (by simpa only[vEq]using h) hy hy'
 | .ifc _ _,v,y,y',h,hy,hy'=>uM hle (by simpa only[vEq]using h) hy hy'
theorem zJd {E E':Ev} (hle:E.le E'):∀{v' v:List V} {y y':List Value},z5b v' v→VRL E v y→VRL E' v' y'→y'=y
 |[],v,y,y',h,hy,hy'=>by
  simp only[z5b]at h
  split at h<;>first|exact h.elim|skip
  simp only[VRL]at hy hy'
  rw[hy,hy']
 |u::us,v,y,y',h,hy,hy'=>by
  simp only[z5b]at h
  split at h<;>first|exact h.elim|skip
  simp only[VRL]at hy hy'
  obtain⟨x,xs,rfl,h1,h2⟩:=hy
  obtain⟨x',xs',rfl,h1',h2'⟩:=hy'
  rw[z3q hle h.1 h1 h1',zJd hle h.2 h2 h2']
end
@[reducible] def zJc:=Nat×(St→Prop)
def zGf (bf:List Nat) (i:Nat):List zJc→List zJc
 |[]=>[]
 |m::l=>bif Bef bf i m.1 then zGf bf i l else m::zGf bf i l
def yMa:List zJc→St→Prop→Prop
 |[],_,X=>X
 |m::ms,s,X=>m.2 s∧yMa ms s X
def yNi (P:Program) (ops:List Oper) (ρ:yY) (i:Nat):Bool:=
 match ops[i]? with
 |some o=>match kS P ρ o.op with
  |2=>false
  |_=>true
 |none=>true
def zQs:Op→Bool
 | .slice _ _ _ _ none=>true
 |_=>false
theorem zXs {o:Op} (h:zQs o=true):∃t x lo hi,o= .slice t x lo hi none:=by
 unfold zQs at h
 split at h
 ·exact⟨_,_,_,_,rfl⟩
 ·cases h
def sH (P:Program) (H:Hnd) (ops:List Oper) (bf:List Nat):Nat→Array Bool→List zJc→yY→St→(yY→St→Prop)→Prop
 |0,listed,_,ρ,s,K=>
  match Region.ready .any ops.toArray listed with
  |[]=>K ρ s
  |_=>False
 |fuel+1,listed,M,ρ,s,K=>
  match Region.ready .any ops.toArray listed with
  |[]=>K ρ s
  |r::rs=>
   match(r::rs).find? (yNi P ops ρ)with
   |some i=>
    match ops[i]? with
    |none=>False
    |some o=>zJt ops o.guard ρ
      (fun ρ'=>match kS P ρ' o.op with
        |0=>sq P o ρ' fun v=>sH P H ops bf fuel (listed.setIfInBounds i true) M (rY ρ' o.dst v) s K
        |1=>sr P o ρ' s fun v=>sH P H ops bf fuel (listed.setIfInBounds i true) ((i,fun s'=>bif zHb ρ' s o.op then True else sr P o ρ' s' fun v'=>vEq v' v)::M) (rY ρ' o.dst v) s K
        |_=>False)
      (fun ρ'=>sH P H ops bf fuel (listed.setIfInBounds i true) M (rY ρ' o.dst (.tup [])) s K)
   |none=>yEc (r::rs) fun i=>
    match ops[i]? with
    |none=>False
    |some o=>zJt ops o.guard ρ
      (fun ρ'=>se P H o ρ' s fun v s'=>bif zQs o.op then sH P H ops bf fuel (listed.setIfInBounds i true) (zGf bf i M) (rY ρ' o.dst v) s' K else yMa (zGf bf i M) s' (sH P H ops bf fuel (listed.setIfInBounds i true) (zGf bf i M) (rY ρ' o.dst v) s' K))
      (fun ρ'=>sH P H ops bf fuel (listed.setIfInBounds i true) (zGf bf i M) (rY ρ' o.dst (.tup [])) s K)
inductive MonRel (k:Ko) (L:List HP) (E:Ev):List zJc→List Mon→Prop
 |nil:MonRel k L E [] []
 |cons {i:Nat} {f:St→Prop} {g:World→Prop} {M:List zJc} {N:List Mon}:(∀E' s' w',E.le E'→Rel k L E' s' w'→f s'→g w')→MonRel k L E M N→MonRel k L E ((i,f)::M) ((i,g)::N)
theorem MonRel.mono {E E':Ev} (hle:E.le E') {M:List zJc} {N:List Mon} (h:MonRel k L E M N):MonRel k L E' M N:=by
 induction h with
 |nil=>exact .nil
 |cons h _ ih=>exact .cons (fun E2 s w a=>h E2 s w (hle.trans a)) ih
theorem MonRel.keep {E:Ev} {bf:List Nat} {i:Nat} {M:List zJc} {N:List Mon} (h:MonRel k L E M N):MonRel k L E (zGf bf i M) (kU bf i N):=by
 induction h with
 |nil=>exact .nil
 | @cons j f g M N h _ ih=>
   simp only[zGf,kU,List.filter_cons]at ih ⊢
   cases hb:Bef bf i j
   ·simpa using .cons h ih
   ·simpa using ih
theorem MonRel.all {E E':Ev} (hle:E.le E') {M:List zJc} {N:List Mon} (h:MonRel k L E M N) {s:St} {w:World} (R:Rel k L E' s w) {X:Prop} (hm:yMa M s X):zKd N w∧X:=by
 induction h with
 |nil=>exact⟨fun m hm=>(by cases hm),hm⟩
 |cons h _ ih=>
  obtain⟨h1,h2⟩:=hm
  obtain⟨h3,h4⟩:=ih h2
  refine⟨fun m hm=> ?_,h4⟩
  rcases yWf.1 hm with rfl|hm
  ·exact h _ _ _ hle R h1
  ·exact h3 m hm
theorem zUd {H:Hnd} (hH:HOk P H) {ops:List Oper} {n:Nat} {A:Nat→Bool} {e0:Env} {Q:Act→World→Prop} {E0:Ev} {K:yY→St→Prop} (hok:pN ops (uC ops [])=true) (hf:zFu n A ops)
 (hQ:∀a w E ρS s,Good n A e0 a→E0.le E→Rel k L E s w→EnvR E ρS (yL a)→K ρS s→Q a w):
 ∀(fuel:Nat) (listed:Array Bool) (M:List zJc) (N:List Mon) (a:Act) (w:World) (E:Ev) (ρS:yY) (s:St),pK ops (qA listed)→zKd N w→MonRel k L E M N→Good n A e0 a→E0.le E→Rel k L E s w→EnvR E ρS (yL a)→
  sH P H ops (uC ops []) fuel listed M ρS s K→zCg P ops.toArray (uC ops []) Q fuel N listed a w:=by
 intro fuel
 induction fuel with
 |zero=>
  intro listed M N a w E ρS s hc hM hMR hgd hle R he h
  unfold sH at h
  split at h
  ·rename_i hr;exact⟨hr,hQ a w E ρS s hgd hle R he h⟩
  ·exact h.elim
 |succ fuel ih=>
  intro listed M N a w E ρS s hc hM hMR hgd hle R he h
  unfold sH at h
  split at h
  ·rename_i hr
   exact⟨fun _=>hQ a w E ρS s hgd hle R he h,fun i hi=>by rw[hr]at hi;cases hi⟩
  ·rename_i r rs hr
   have hne:Region.ready .any ops.toArray listed≠[]:=by rw[hr];simp
   split at h
   ·rename_i i hfind
    have hi:i∈Region.ready .any ops.toArray listed:=by rw[hr];exact List.mem_of_find?_eq_some hfind
    split at h<;>first|exact h.elim|skip
    rename_i o ho
    have hput:∀v,yL (a.put o.dst v)=Cv.put (yL a) o.dst v:=fun v=>hgd.envOf_put (bL hf ho) v
    have hg:=mT he h
    have nx:∀{M:List zJc} {N:List Mon} {v:V} {y:Value},zKd N w→MonRel k L E M N→VR E v y→sH P H ops (uC ops []) fuel (listed.setIfInBounds i true) M (rY ρS o.dst v) s K→
     zCg P ops.toArray (uC ops []) Q fuel N (listed.setIfInBounds i true) (a.put o.dst y) w:=fun{M N v y} hM hMR hv hh=>
     ih _ _ _ _ _ _ _ _ (vI hc hi) hM hMR (hgd.put (bL hf ho) _) hle R (by rw[hput];exact he.put _ hv) hh
    by_cases hw:Region.wanted o (yielded ops.toArray a.tmps)=true
    ·rw[yVl hw]at hg
     split at hg<;>first|exact hg.elim|skip
     ·obtain⟨v,y,hk,hv,hfree⟩:=zTb he hg
      rw[jU]at hfree
      have hs:∀w,nS P ops.toArray o y a w:=fun w=> .inl ⟨hw,hfree w⟩
      exact uY hok ho fuel N listed a w hc hi (hs w) hM (cU hs fuel _ _ _ (nx hM hMR hv hk))
     ·cases hst:zHb ρS s o.op
      ·obtain⟨v,y,hk,hv,hrun⟩:=zJs R he hg
       rw[jU]at hrun
       simp only[hst,cond_false]at hk
       have hs:nS P ops.toArray o y a w:= .inl ⟨hw,hrun⟩
       refine uY hok ho fuel N listed a w hc hi hs hM (nx ?_ (.cons ?_ hMR) hv hk)
       ·intro m hm
        rcases yWf.1 hm with rfl|hm
        ·exact hs
        ·exact hM m hm
       ·intro E' s' w' hle' R' hst
        obtain⟨v',y',hk',hv',hrun'⟩:=zJs R' (he.mono hle') hst
        rw[jU]at hrun'
        have:=z3q hle' hk' hv hv'
        subst this
        exact .inl ⟨hw,hrun'⟩
      ·obtain⟨v,y,hk,hv,hrun⟩:=z6e R he hst hg
       rw[jU]at hrun
       simp only[hst,cond_true]at hk
       have hs:nS P ops.toArray o y a w:= .inl ⟨hw,hrun E s w (Ev.le.refl _) R⟩
       refine uY hok ho fuel N listed a w hc hi hs hM (nx ?_ (.cons ?_ hMR) hv hk)
       ·intro m hm
        rcases yWf.1 hm with rfl|hm
        ·exact hs
        ·exact hM m hm
       ·intro E' s' w' hle' R' _
        exact .inl ⟨hw,hrun E' s' w' hle' R'⟩
    ·rw[yVj hw]at hg
     have hs:∀w,nS P ops.toArray o undef a w:=fun w=> .inr ⟨by simpa using hw,rfl⟩
     exact uY hok ho fuel N listed a w hc hi (hs w) hM (cU hs fuel _ _ _ (nx hM hMR (lD E) hg))
   ·refine⟨fun h0=>absurd h0 hne,fun i hi=> ?_⟩
    have h1:=zIo h i (by rw[← hr];exact hi)
    split at h1<;>first|exact h1.elim|skip
    rename_i o ho
    have hput:∀v,yL (a.put o.dst v)=Cv.put (yL a) o.dst v:=fun v=>hgd.envOf_put (bL hf ho) v
    have hg:=mT he h1
    unfold zGm
    simp only[yXh,ho]
    by_cases hw:Region.wanted o (yielded ops.toArray a.tmps)=true
    ·rw[yVl hw]at hg ⊢
     cases hsl:zQs o.op with
     |true=>
      obtain⟨t,x,lo,hi',ho'⟩:=zXs hsl
      obtain⟨y,hfr,E',v,s',hle',R',hv,hh⟩:=zTv R he ho' hg
      rw[jU]at hfr
      rw[hsl]at hh
      have hM':zKd (kU (uC ops []) i N) w:=fun m hm=>hM m (by simp only[kU,yXl]at hm;exact hm.1)
      exact jP (hfr w) ⟨hM',ih _ _ _ _ _ _ _ _ (vI hc hi) hM' (hMR.keep.mono hle') (hgd.put (bL hf ho) _) (hle.trans hle') R' (by rw[hput];exact(he.mono hle').put _ hv) hh⟩
     |false=>
     have hdoes:=zUs hH R he hg
     rw[jU]at hdoes
     refine hdoes.mono ?_
     rintro y w' ⟨E',v,s',hle',R',hv,hh⟩
     rw[hsl]at hh
     obtain⟨hM',hh⟩:=(hMR.keep (bf:=uC ops []) (i:=i)).all hle' R' hh
     exact⟨hM',ih _ _ _ _ _ _ _ _ (vI hc hi) hM' (hMR.keep.mono hle') (hgd.put (bL hf ho) _) (hle.trans hle') R' (by rw[hput];exact(he.mono hle').put _ hv) hh⟩
    ·rw[yVj hw]at hg ⊢
     have hM':zKd (kU (uC ops []) i N) w:=fun m hm=>hM m (by simp only[kU,yXl]at hm;exact hm.1)
     exact⟨hM',ih _ _ _ _ _ _ _ _ (vI hc hi) hM' hMR.keep (hgd.put (bL hf ho) _) hle R (by rw[hput];exact he.put _ (lD E)) hg⟩
open Go Go.RowKit Cv
variable {P:Program} {k:Ko} {L:List HP}
structure SAnn where
 ι:Type
 slots:ι→List (Nat×V)
 rows:ι→List AObj
 keep:Nat→Bool:=fun _=>true
 un:Nat:=0
 slots0:ι→List (Nat×V):=fun _=>[]
 rows0:ι→List AObj:=fun _=>[]
 lits:List (Nat×Value):=[]
 opn:List Nat:=[]
def SAnn.ent (x:SAnn):SAnn:={x with slots:=x.slots0,rows:=x.rows0}
def lmC:Code→Nat
 | .region i _ _=>i
 | .seq a _=>lmC a
 | .block _ a=>lmC a
 | .loop a=>lmC a
 | .cond _ a _=>lmC a
 |_=>0
def yUd:Code→Nat
 | .region i _ _=>4*i
 | .cond c a b=>4*lmC (.cond c a b)+1
 | .seq a b=>4*lmC a+2
 | .block id _=>4*id+3
 |_=>0
def yJt (n:Nat):List (Nat×SAnn)→Option SAnn
 |[]=>none
 |(m,x)::l=>bif Nat.beq m n then some x else yJt n l
def z4c (t:Nat):List (Nat×V)→Option V
 |[]=>none
 |(u,v)::l=>bif Nat.beq u t then some v else z4c t l
def zLr (ρ:yY):List (Nat×V)→List V
 |[]=>[]
 |(t,_)::l=>ρ t::zLr ρ l
def zTp:List (Nat×V)→List V
 |[]=>[]
 |(_,v)::l=>v::zTp l
def z1n:AObj→Bool
 | .own _ _ _=>true
 | .nilo=>true
 | .fro _ _=>true
 | .objs _ _ _ _ _ _=>true
 |_=>false
def wF (π:NM):Nat→List AObj→NM
 |_,[]=>[]
 |p,o::os=>bif z1n o then wF π (p+1) os else match yC p π with
  |some n=>(p,n)::wF π (p+1) os
  |none=>wF π (p+1) os
def rO (N:Nat) (π:NM):Nat→List AObj→NM
 |_,[]=>[]
 |p,o::os=>bif z1n o then(p,N+p)::rO N π (p+1) os else match yC p π with
  |some n=>(p,n)::rO N π (p+1) os
  |none=>rO N π (p+1) os
def zPx (N:Nat) (st:NM):Nat→NM
 |0=>[]
 |p+1=>(p,(yC p st).getD (N+p))::zPx N st p
theorem zLs {N:Nat} {st:NM} {p q:Nat}:∀{m:Nat},yC p (zPx N st m)=some q→q=N+p∨yC p st=some q
 |0,h=>by cases h
 |m+1,h=>by
  simp only[zPx,yC]at h
  cases hb:Nat.beq m p
  ·rw[hb]at h;exact zLs h
  ·rw[hb]at h
   have:=yVo hb
   subst this
   simp only[cond_true,Option.some.injEq]at h
   cases hs:yC m st with
   |none=>rw[hs]at h;exact .inl h.symm
   |some n=>rw[hs]at h;exact .inr (by rw[← h];rfl)
theorem rI {π:NM} {p q:Nat}:∀{os:List AObj} {p0:Nat},yC p (wF π p0 os)=some q→yC p π=some q
 |[],p0,h=>by cases h
 |o::os,p0,h=>by
  simp only[wF]at h
  cases ho:z1n o<;>rw[ho]at h
  ·simp only[cond_false]at h
   split at h
   ·rename_i n hn
    simp only[yC]at h
    cases hb:Nat.beq p0 p
    ·rw[hb]at h;exact rI h
    ·rw[hb]at h
     cases h
     rw[← yVo hb];exact hn
   ·exact rI h
  ·exact rI h
theorem zBn {N:Nat} {π:NM} {p q:Nat}:∀{os:List AObj} {p0:Nat},yC p (rO N π p0 os)=some q→q=N+p∨yC p (wF π p0 os)=some q
 |[],p0,h=>by cases h
 |o::os,p0,h=>by
  simp only[rO,wF]at h ⊢
  cases ho:z1n o<;>rw[ho]at h
  ·simp only[cond_false]at h ⊢
   split at h
   ·rename_i n hn
    simp only[yC]at h ⊢
    cases hb:Nat.beq p0 p
    ·rw[hb]at h;exact zBn h
    ·rw[hb]at h;exact .inr h
   ·exact zBn h
  ·simp only[cond_true,yC]at h ⊢
   cases hb:Nat.beq p0 p
   ·rw[hb]at h;exact zBn h
   ·rw[hb]at h
    cases h
    left
    rw[yVo hb]
def eD (ren:NM) (slots:List (Nat×V)) (as:List Nat) (ρ:yY):yY:=fun t=>
 match z4c t slots with
 |some v=>pV ren v
 |none=>bif aH t as then .top else ρ t
mutual
def zEh (N:Nat):V→Bool
 | .nm n _=>Nat.blt n N
 | .el n _ _ _=>Nat.blt n N
 | .own n=>Nat.blt n N
 | .na n _ _=>Nat.blt n N
 | .mp n=>Nat.blt n N
 | .sub n _=>Nat.blt n N
 | .agg l=>zVc N l
 | .tup l=>zVc N l
 | .fn _ a b=>zVc N a && zVc N b
 | .ifc _ x=>zEh N x
 |_=>true
def zVc (N:Nat):List V→Bool
 |[]=>true
 |v::l=>zEh N v && zVc N l
end
def ySk (N:Nat):AObj→Bool
 | .cells vs _=>zVc N vs
 |_=>true
def zAw (N:Nat):List (Nat×AObj)→Bool
 |[]=>true
 |(n,o)::l=>Nat.blt n N && ySk N o && zAw N l
def kA (keep:Nat→Bool):List (Nat×AObj)→List (Nat×AObj)
 |[]=>[]
 |(n,o)::l=>bif keep n then(n,o)::kA keep l else kA keep l
def zHm:List (Nat×AObj)→St→Prop
 |[],_=>True
 |[(n,o)],s=>match s.getg n with
  |some o'=>o'=o
  |none=>False
 |(n,o)::l,s=>match s.getg n with
  |some o'=>o'=o∧zHm l (s.del n)
  |none=>False
def zLa (N:Nat) (ren:NM) (rows:List AObj) (kept:List (Nat×AObj)):St:=⟨qZ ren 0 rows++kept,N+rows.length⟩
def zNx (next:yY→St→Prop) (Q:Exit→yY→St→Prop):Exit→yY→St→Prop
 | .normal,ρ,s=>next ρ s
 |e,ρ,s=>Q e ρ s
def z9a (id:Nat) (Q:Exit→yY→St→Prop):Exit→yY→St→Prop
 | .exit id',ρ,s=>bif Nat.beq id' id then Q .normal ρ s else Q (.exit id') ρ s
 |e,ρ,s=>Q e ρ s
def zMs (x:SAnn) (i:x.ι) (π0:NM) (ρ:yY) (s:St) (K:NM→St→Prop):Prop:=
 mtL (zTp (x.slots i)) (zLr ρ (x.slots i)) π0 s fun π s=>mtR 0 (x.rows i) π s fun π s=>bif nB (x.rows i).length π then K π s else False
def z8b (f:(Exit→yY→St→Prop)→yY→St→Prop) (Q:Exit→yY→St→Prop):Nat→yY→St→Prop
 |0,_,_=>False
 |n+1,ρ,s=>f (zNx (z8b f Q n) Q) ρ s
def zIa (n:Nat) (s:St):St:=
 match s.get n with
 |some (.adt _ m unf x)=>bif Nat.ble 1 m then⟨(n,(zJh (s.del n) n m (unf x)).1)::(zJh (s.del n) n m (unf x)).2.rows,(zJh (s.del n) n m (unf x)).2.nx⟩else s
 |_=>s
def zPk:List Nat→St→St
 |[],s=>s
 |n::l,s=>zPk l (zIa n s)
theorem zOr {w:World} {E:Ev} {s:St} (R:Rel k L E s w) (n:Nat):∃E',E.le E'∧Rel k L E' (zIa n s) w:=by
 unfold zIa
 split
 ·rename_i T m unf x hg
  cases hb:Nat.ble 1 m
  ·exact⟨E,Ev.le.refl _,R⟩
  ·obtain⟨E',h1,h2⟩:=(R.take hg).unfold (yXt hb)
   refine⟨E',h1,⟨h2.nx,?_⟩⟩
   have:=h2.out
   simpa using this
 ·exact⟨E,Ev.le.refl _,R⟩
theorem zIj {w:World}:∀(l:List Nat) {E:Ev} {s:St} (R:Rel k L E s w),∃E',E.le E'∧Rel k L E' (zPk l s) w
 |[],E,s,R=>⟨E,Ev.le.refl _,R⟩
 |n::l,E,s,R=>by
  obtain⟨E1,h1,h2⟩:=zOr R n
  obtain⟨E2,h3,h4⟩:=zIj l h2
  exact⟨E2,h1.trans h3,h4⟩
def zWj:List Nat→yY→St→St
 |[],_,s=>s
 |t::ts,ρ,s=>zWj ts ρ (match ρ t with
  | .nm n 0=>zIa n s
  |_=>s)
theorem zOa {w:World} {ρ:yY}:∀(l:List Nat) {E:Ev} {s:St} (R:Rel k L E s w),∃E',E.le E'∧Rel k L E' (zWj l ρ s) w
 |[],E,s,R=>⟨E,Ev.le.refl _,R⟩
 |t::ts,E,s,R=>by
  obtain⟨E1,h1,h2⟩:∃E',E.le E'∧Rel k L E' (match ρ t with
   | .nm n 0=>zIa n s
   |_=>s) w:=by
   split
   ·exact zOr R _
   ·exact⟨E,Ev.le.refl _,R⟩
  obtain⟨E2,h3,h4⟩:=zOa ts h2
  exact⟨E2,h1.trans h3,h4⟩
def yPn (t:Nat) (x:Value) (ρ:yY) (K:yY→Prop):Prop:=match ρ t with
 | .d (.v y)=>y=x∧K (fun u=>bif Nat.beq u t then .d (.v x)else ρ u)
 |_=>False
def zWl:List (Nat×Value)→yY→(yY→Prop)→Prop
 |[],_,_=>False
 |(t,x)::l,ρ,K=>yPn t x ρ K∨zWl l ρ K
def scode (P:Program) (H:Hnd) (J:List (Nat×SAnn)):List SAnn→Code→(Exit→yY→St→Prop)→yY→St→Prop
 |_,.skip,Q,ρ,s=>Q .normal ρ s
 |an,.seq a b,Q,ρ,s=>match yJt (yUd a) J with
  |none=>scode P H J (an.take (nL a)) a (zNx (fun ρ s=>scode P H J (an.drop (nL a)) b Q ρ s) Q) ρ s
  |some x=>match x.opn with
   |t0::ts=>scode P H J (an.take (nL a)) a (zNx (fun ρ s=>scode P H J (an.drop (nL a)) b Q ρ (zWj (t0::ts) ρ s)) Q) ρ s
   |[]=>match x.lits with
   |l0::ls=>scode P H J (an.take (nL a)) a (zNx (fun ρ s=>zWl (l0::ls) ρ fun ρ=>scode P H J (an.drop (nL a)) b Q ρ s) Q) ρ s
   |[]=>∃i0,zMs x.ent i0 [] ρ s fun π s1=>∃(I:x.ι→Prop),(bif zAw s1.nx (kA x.keep s1.rows)then
    scode P H J (an.take (nL a)) a (zNx (fun ρ' s'=>∃i',zMs x i' (wF π 0 (x.rows0 i0)) ρ' s' fun _ s2=>I i'∧zHm (kA x.keep s1.rows) s2) Q)
     (eD (zPx s1.nx (wF π 0 (x.rows0 i0)) (x.rows0 i0).length) (x.slots0 i0) [] ρ) (zLa s1.nx (zPx s1.nx (wF π 0 (x.rows0 i0)) (x.rows0 i0).length) (x.rows0 i0) (kA x.keep s1.rows))∧
    ∀i,I i→scode P H J (an.drop (nL a)) b Q (eD (zPx s1.nx (wF π 0 (x.rows0 i0)) (x.rows i).length) (x.slots i) (asg a) ρ) (zLa s1.nx (zPx s1.nx (wF π 0 (x.rows0 i0)) (x.rows i).length) (x.rows i) (kA x.keep s1.rows))else False)
 |an,.cond c a b,Q,ρ,s=>
  match sev ρ c with
  | .d (.v (.bool t))=>cnd t (scode P H J (an.take (nL a)) a Q ρ s) (scode P H J (an.drop (nL a)) b Q ρ s)
  |_=>False
 |an,.block id a,Q,ρ,s=>scode P H J an a (z9a id Q) ρ s
 |an,.loop a,Q,ρ,s=>
  match an with
  |[]=>False
  |x::rest=>bif Nat.blt 0 x.un then z8b (fun Q ρ s=>scode P H J rest a Q ρ s) Q x.un ρ s else ∃i0,zMs x i0 [] ρ s fun π s1=>∃(I:x.ι→Prop) (μ:x.ι→Nat),I i0∧(bif zAw s1.nx (kA x.keep s1.rows)then
    ∀i,I i→scode P H J rest a (zNx (fun ρ' s'=>∃i',zMs x i' (wF π 0 (x.rows i0)) ρ' s' fun _ s2=>I i'∧μ i'<μ i∧zHm (kA x.keep s1.rows) s2) Q)
     (eD (rO s1.nx π 0 (x.rows i0)) (x.slots i) (asg a) ρ) (zLa s1.nx (rO s1.nx π 0 (x.rows i0)) (x.rows i) (kA x.keep s1.rows))else False)
 |_,.exit id,Q,ρ,s=>Q (.exit id) ρ s
 |_,.ret,Q,ρ,s=>Q .ret ρ s
 |_,.region _ ops d,Q,ρ,s=>bif d then sH P H ops.toList (uC ops.toList []) ops.toList.length (Array.replicate ops.toList.length false) [] ρ s (Q .normal)
    else zTe P H ops.toList ops.toList ρ s (Q .normal)
 |_,_,_,_,_=>False
def z1k (k:Ko) (L:List HP) (n:Nat) (A:Nat→Bool) (e0:Env) (E0:Ev) (Q:Exit→yY→St→Prop):Exit→Act→World→Prop:=fun e a w=>
 Good n A e0 a∧∃E ρS s,E0.le E∧Rel k L E s w∧EnvR E ρS (yL a)∧Q e ρS s
mutual
theorem VR.low {F:PH} {tab tab':List Hd} {N:Nat} (h:∀n,n<N→∀hd,tab[n]? =some hd→tab'[n]? =some hd):∀{v:V} {y:Value},zEh N v=true→VR ⟨F,tab⟩ v y→VR ⟨F,tab'⟩ v y
 | .top,y,hl,e=>by simp only[VR]
 | .d d,y,hl,e=>by simpa only[VR]using e
 | .nm n o,y,hl,e=>by
   simp only[zEh,yYi]at hl
   simp only[VR]at e ⊢
   obtain⟨b,oo,l,h1,h2⟩:=e
   exact⟨b,oo,l,h n hl _ h1,h2⟩
 | .el n sz i f,y,hl,e=>by
   simp only[zEh,yYi]at hl
   simp only[VR]at e ⊢
   obtain⟨b,oo,m,c,l,h1,h2⟩:=e
   exact⟨b,oo,m,c,l,h n hl _ h1,h2⟩
 | .re sz els i f,y,hl,e=>by simpa only[VR]using e
 | .na n o i,y,hl,e=>by
   simp only[zEh,yYi]at hl
   simp only[VR]at e ⊢
   obtain⟨b,oo,l,h1,h2⟩:=e
   exact⟨b,oo,l,h n hl _ h1,h2⟩
 | .own n,y,hl,e=>by
   simp only[zEh,yYi]at hl
   simp only[VR]at e ⊢
   obtain⟨l,h1,h2⟩:=e
   exact⟨l,h n hl _ h1,h2⟩
 | .mp n,y,hl,e=>by
   simp only[zEh,yYi]at hl
   simp only[VR]at e ⊢
   obtain⟨b,l,h1,h2⟩:=e
   exact⟨b,l,h n hl _ h1,h2⟩
 | .sub n i,y,hl,e=>by
   simp only[zEh,yYi]at hl
   simp only[VR]at e ⊢
   obtain⟨hd,l,b,oo,h1,h2⟩:=e
   exact⟨hd,l,b,oo,h n hl _ h1,h2⟩
 | .agg l,y,hl,e=>by
   simp only[zEh]at hl
   simp only[VR]at e ⊢
   obtain⟨ys,h1,h2⟩:=e
   exact⟨ys,h1,VRL.low h hl h2⟩
 | .tup l,y,hl,e=>by
   simp only[zEh]at hl
   simp only[VR]at e ⊢
   obtain⟨ys,h1,h2⟩:=e
   exact⟨ys,h1,VRL.low h hl h2⟩
 | .fn f a b,y,hl,e=>by
   simp only[zEh,yVy]at hl
   simp only[VR]at e ⊢
   obtain⟨as,bs,h1,h2,h3⟩:=e
   exact⟨as,bs,h1,VRL.low h hl.1 h2,VRL.low h hl.2 h3⟩
 | .ifc t x,y,hl,e=>by
   simp only[zEh]at hl
   simp only[VR]at e ⊢
   obtain⟨z,h1,h2⟩:=e
   exact⟨z,h1,VR.low h hl h2⟩
theorem VRL.low {F:PH} {tab tab':List Hd} {N:Nat} (h:∀n,n<N→∀hd,tab[n]? =some hd→tab'[n]? =some hd):∀{vs:List V} {l:List Value},zVc N vs=true→VRL ⟨F,tab⟩ vs l→VRL ⟨F,tab'⟩ vs l
 |[],l,hl,e=>by simpa only[VRL]using e
 |v::vs,l,hl,e=>by
  simp only[zVc,yVy]at hl
  simp only[VRL]at e ⊢
  obtain⟨x,xs,h1,h2,h3⟩:=e
  exact⟨x,xs,h1,VR.low h hl.1 h2,VRL.low h hl.2 h3⟩
end
theorem rowHP.low {F:PH} {tab tab':List Hd} {N:Nat} (h:∀n,n<N→∀hd,tab[n]? =some hd→tab'[n]? =some hd) {o:AObj} (hl:ySk N o=true) {hd:Hd} {x:PH} (e:rowHP F o tab hd x):rowHP F o tab' hd x:=by
 cases o<;>first|exact e.tab rfl|skip
 simp only[rowHP]at e ⊢
 obtain⟨b,l,h1,h2,h3⟩:=e
 exact⟨b,l,h1,h2.low h hl,h3⟩
theorem zNl {E:Ev} {ρS:yY} {ρ:Env} (he:EnvR E ρS ρ):∀l:List (Nat×V),VRL E (zLr ρS l) (l.map fun p=>ρ p.1)
 |[]=>by simp[zLr,VRL]
 |(t,v)::l=>by simp only[zLr,yVz,VRL];exact⟨_,_,rfl,he t,zNl he l⟩
theorem zTs {F:PH} {tl:List Hd} {ρ:Env}:∀{l:List (Nat×V)},VRL ⟨F,tl⟩ (zTp l) (l.map fun p=>ρ p.1)→∀{t:Nat} {v:V},z4c t l=some v→VR ⟨F,tl⟩ v (ρ t)
 |[],_,t,v,h=>by cases h
 |(u,x)::l,hv,t,v,h=>by
  simp only[zTp,yVz,VRL]at hv
  obtain⟨y,ys,e,h1,h2⟩:=hv
  cases e
  simp only[z4c]at h
  cases hb:Nat.beq u t
  ·rw[hb]at h;exact zTs h2 h
  ·rw[hb]at h
   cases h
   rw[← yVo hb];exact h1
theorem zRb {w:World} {E3 E4:Ev} (hF:E3.F=E4.F) {N:Nat} (hlow:∀n,n<N→∀hd,E3.tab[n]? =some hd→E4.tab[n]? =some hd):∀{kept:List (Nat×AObj)} {s:St} {M:List HP},zHm kept s→zAw N kept=true→
 Hp k w (s.rows.map (rHP E3)++M)→Hp k w (kept.map (rHP E4)++M)
 |[],s,M,_,_,H=>by
  have:∀(l:List (Nat×AObj)),Hp k w (l.map (rHP E3)++M)→Hp k w M:=by
   intro l
   induction l with
   |nil=>intro H;exact H
   |cons a l ih=>intro H;exact ih H.drop
  exact this _ H
 |(n,o)::kept,s,M,hk,hl,H=>by
  simp only[zAw,yVy,yYi]at hl
  have hget:s.get n=some o∧zHm kept (s.del n):=by
   cases kept with
   |nil=>
    simp only[zHm]at hk
    split at hk<;>first|exact hk.elim|skip
    rename_i o' ho
    subst hk
    exact⟨(sY ho).1,trivial⟩
   |cons a l=>
    simp only[zHm]at hk
    split at hk<;>first|exact hk.elim|skip
    rename_i o' ho
    obtain⟨rfl,hk⟩:=hk
    exact⟨(sY ho).1,hk⟩
  have H1:Hp k w (rHP E3 (n,o)::((s.del n).rows.map (rHP E3)++M)):=by
   refine H.perm ?_
   have:=((gC hget.1).1.map (rHP E3)).append_right M
   simpa[St.del]using this
  have H2:Hp k w ((s.del n).rows.map (rHP E3)++(rHP E3 (n,o)::M)):=H1.perm yWa.symm
  have H3:=zRb hF hlow hget.2 hl.2 H2
  refine(H3.perm yWa).imp fun x hx=> ?_
  rcases hx with⟨e,e2⟩|⟨hd,h1,h2⟩
  ·exact .inl ⟨e,e2⟩
  ·exact .inr ⟨hd,hlow n hl.1.1 _ h1,hF▸h2.low hlow hl.1.2⟩
theorem zAr {w:World} {x:SAnn} {i:x.ι} {π0:NM} {ρS:yY} {ρ:Env} {s:St} {K:NM→St→Prop} {E:Ev} (h:zMs x i π0 ρS s K) (R:Rel k L E s w) (he:EnvR E ρS ρ) (hw0:WfM π0 E.tab):
 ∃E3 s3 π3,E.le E3∧K π3 s3∧Ext π0 π3∧WfM π3 E3.tab∧E3.tab.length=s3.nx∧∀(E1:Ev) (kept:List (Nat×AObj)) (N:Nat) (ρ0:yY) (as:List Nat) (ren:NM),(∀p q,yC p ren=some q→q=N+p∨(yC p π3=some q∧q<N))→E1.tab.length=N→FLe E1.F E3.F→E1.tab<+:E3.tab→(∀E4:Ev,E3.F=E4.F→E1.le E4→(∀n,n<N→∀hd,E3.tab[n]? =some hd→E4.tab[n]? =some hd)→∀M,Hp k w (s3.rows.map (rHP E3)++M)→Hp k w (kept.map (rHP E4)++M))→(∀t,aH t as=false→VR E1 (ρ0 t) (ρ t))→
  ∃E4,E1.le E4∧Rel k L E4 (zLa N ren (x.rows i) kept) w∧EnvR E4 (eD ren (x.slots i) as ρ0) ρ:=by
 unfold zMs at h
 obtain⟨E2,π2,s2,q1,q2,q3⟩:=sK h R hw0 (zNl he _)
 obtain⟨E3,π3,s3,r1,r2⟩:=zRc q3 q1.rel q1.wf
 obtain⟨hlt,hk⟩:=zP r2
 have hlt:=bS hlt
 refine⟨E3,s3,π3,q1.le.trans r1.le,hk,q1.ext.trans r1.ext,r1.wf,r1.rel.nx,?_⟩
 intro E1 kept N ρ0 as ren hre hN hF hpre hkept hfix
 let m:=(x.rows i).length
 let tl:List Hd:=(List.range m).map fun p=>(E3.tab[(yC p π3).getD 0]?).getD (undef,[])
 have hloc:Loc π3 E3.tab tl:=by
  intro p n hp
  obtain⟨hd,h'⟩:=r1.wf p n hp
  refine⟨hd,h',?_⟩
  show((List.range m).map _)[p]? =_
  rw[yWt,yZk (hlt p n hp)]
  simp only[yXi,hp,yXo,h']
 have htl:tl.length=m:=by simp[tl]
 let E4:Ev:=⟨E3.F,E1.tab++tl⟩
 have hle4:E1.le E4:=⟨hF,yZd _ _⟩
 have hlow3:∀n,n<N→∀hd,E3.tab[n]? =some hd→E4.tab[n]? =some hd:=by
  intro n hn hd e
  have h1:E1.tab[n]? =some hd:=by
   rw[yWp (by omega)]
   have:E3.tab[n]? =some (E1.tab[n]'(by omega)):=zRr hpre (yWp (by omega))
   rw[this]at e;exact e
  exact hle4.get h1
 have hren:∀p n hd,yC p ren=some n→tl[p]? =some hd→E4.tab[n]? =some hd:=by
  intro p n hd hp ht
  rcases hre p n hp with rfl|⟨h1,h2⟩
  ·show(E1.tab++tl)[N+p]? =some hd
   rw[← hN,yXp (by omega),show E1.tab.length+p-E1.tab.length=p by omega]
   exact ht
  ·obtain⟨hd',e1,e2⟩:=hloc p n h1
   rw[ht]at e2;cases e2
   exact hlow3 n h2 _ e1
 refine⟨E4,hle4,⟨by show(E1.tab++tl).length=N+m;rw[yVm,htl,hN],?_⟩,?_⟩
 ·have H:=r1.rel.frontL
  have H1:=wE (g:=rHP ⟨E3.F,tl⟩) (fun r y hy=>by
   rcases hy with⟨e1,e2⟩|⟨n,h1,h2⟩
   ·exact .inl ⟨e1,e2⟩
   ·right
    obtain⟨hd,h3,h4⟩:=h2 E3 π3 (Ev.le.refl _) (Ext.refl _) tl hloc
    obtain⟨hd',h5,h6⟩:=hloc _ _ h1
    rw[h3]at h5;cases h5
    exact⟨hd,h6,h4⟩) H
  have H2:=bZ (E:=⟨E3.F,tl⟩) (E2:=E4) rfl hren H1
  have H3:Hp k w (s3.rows.map (rHP E3)++((qZ ren 0 (x.rows i)).map (rHP E4)++fz E3.F::L)):=by
   refine H2.perm ?_
   rw[← yVq,← yVq]
   exact yXj.append_right _
  have H4:=hkept E4 rfl hle4 hlow3 _ H3
  refine H4.perm ?_
  show(kept.map (rHP E4)++((qZ ren 0 (x.rows i)).map (rHP E4)++fz E3.F::L)).Perm ((qZ ren 0 (x.rows i)++kept).map (rHP E4)++fz E4.F::L)
  rw[← yVq,yVu]
  exact yXj.append_right _
 ·intro t
  have hsl:VRL ⟨E3.F,tl⟩ (zTp (x.slots i)) ((x.slots i).map fun p=>ρ p.1):=q2 E3 π3 r1.le r1.ext tl hloc
  unfold eD
  split
  ·rename_i v hv
   exact(zTs hsl hv).ren hren
  ·cases hb:aH t as
   ·exact(hfix t hb).mono hle4
   ·simp only[cond_true,VR]
theorem tY {w:World} {E:Ev} {keep:Nat→Bool}:∀{l:List (Nat×AObj)} {M:List HP},Hp k w (l.map (rHP E)++M)→Hp k w ((kA keep l).map (rHP E)++M)
 |[],M,H=>H
 |(n,o)::l,M,H=>by
  simp only[kA]
  cases keep n
  ·exact tY H.drop
  ·have H1:Hp k w (l.map (rHP E)++(rHP E (n,o)::M)):=H.perm yWa.symm
   exact(tY H1).perm yWa
theorem zMi {E:Ev} {env:Env} {K:yY→Prop}:∀{l:List (Nat×Value)} {ρ:yY},zWl l ρ K→EnvR E ρ env→∃ρ',EnvR E ρ' env∧K ρ'
 |[],ρ,h,_=>h.elim
 |(t,x)::l,ρ,h,he=>by
  rcases h with h|h
  ·unfold yPn at h
   split at h<;>first|exact h.elim|skip
   rename_i y hy
   obtain⟨rfl,hk⟩:=h
   refine⟨_,fun u=> ?_,hk⟩
   have:=he u
   cases hb:Nat.beq u t
   ·exact this
   ·rw[yVo hb]at this ⊢
    rw[hy]at this
    exact this
  ·exact zMi h he
theorem zVa {H:Hnd} (hH:HOk P H) (hm:P.follows .mixedOrders=true) {J:List (Nat×SAnn)} {n:Nat}:∀(c:Code) (an:List SAnn) (Q:Exit→yY→St→Prop) (A:Nat→Bool) (e0:Env) (E0 E:Ev) (a:Act) (w:World) (ρS:yY) (s:St),
 okC n c=true→(∀t∈asg c,A t=true)→Good n A e0 a→E0.le E→Rel k L E s w→EnvR E ρS (yL a)→scode P H J an c Q ρS s→c.wp P (z1k k L n A e0 E0 Q) a w:=by
 intro c
 induction c with
 |skip=>intro an Q A e0 E0 E a w ρS s _ _ hg hle R he h;exact wp_skip ⟨hg,E,ρS,s,hle,R,he,h⟩
 |region id ops d=>
  intro an Q A e0 E0 E a w ρS s hc hA hg hle R he h
  simp only[okC,yVy]at hc
  have hdst:=zVs (A:=A) hc.1 hA
  cases d
  ·refine wp_region_list ?_
   exact zGa (Q:=z1k k L n A e0 E0 Q) (E0:=E0) (K:=Q .normal) hH (fun a w E ρS s hg hle R he h=>⟨hg,E,ρS,s,hle,R,he,h⟩) ops.toList a w E ρS s hdst hg hle R he h
  ·refine wp_region_any hm ?_
   have hok:pN ops.toList (uC ops.toList [])=true:=hc.2
   have he':EnvR E ρS (yL a):=he
   have R':Rel k L E s w.drew:=⟨R.nx,R.hp.drew⟩
   refine uO (Q:=fun a w=>z1k k L n A e0 E0 Q .normal a w) (fun _ _ h=>h) ops.size _ _ _ (M:=[]) (bf:=uC ops.toList []) ?_
   have hclosed:pK ops.toList (qA (Array.replicate ops.toList.length false)):=by
    intro i o ho hi
    exfalso
    unfold qA at hi
    simp[yXa]at hi
    rw[y0x]at hi
    split at hi<;>simp at hi
   have:=zUd (P:=P) (K:=Q .normal) (E0:=E0) (Q:=fun a w=>z1k k L n A e0 E0 Q .normal a w) hH hok hdst (fun a w E ρS s hg hle R he h=>⟨hg,E,ρS,s,hle,R,he,h⟩) ops.toList.length _ [] [] a _ E ρS s hclosed (fun m hm=>by cases hm) .nil hg hle R' he' h
   simpa using this
 |seq x y ihx ihy=>
  intro an Q A e0 E0 E a w ρS s hc hA hg hle R he h
  simp only[okC,yVy,asg,yWn]at hc hA
  simp only[scode]at h
  split at h
  ·refine wp_seq (wp_mono (ihx _ _ A e0 E0 E a w ρS s hc.1 (fun t ht=>hA t (.inl ht)) hg hle R he h) ?_)
   rintro e a' w' ⟨hg',E',ρ',s',hle',R',he',h'⟩
   cases e<;>first|exact ihy _ _ A e0 E0 E' a' w' ρ' s' hc.2 (fun t ht=>hA t (.inr ht)) hg' hle' R' he' h'|exact⟨hg',E',ρ',s',hle',R',he',h'⟩
  rename_i jn hjn
  split at h
  ·rename_i t0 ts hts
   refine wp_seq (wp_mono (ihx _ _ A e0 E0 E a w ρS s hc.1 (fun t ht=>hA t (.inl ht)) hg hle R he h) ?_)
   rintro e a' w' ⟨hg',E',ρ',s',hle',R',he',h'⟩
   cases e<;>first|exact⟨hg',E',ρ',s',hle',R',he',h'⟩|skip
   obtain⟨E2,hle2,R2⟩:=zOa (ρ:=ρ') (t0::ts) R'
   exact ihy _ _ A e0 E0 E2 a' w' ρ' _ hc.2 (fun t ht=>hA t (.inr ht)) hg' (hle'.trans hle2) R2 (he'.mono hle2) h'
  split at h
  ·rename_i l0 ls hls
   refine wp_seq (wp_mono (ihx _ _ A e0 E0 E a w ρS s hc.1 (fun t ht=>hA t (.inl ht)) hg hle R he h) ?_)
   rintro e a' w' ⟨hg',E',ρ',s',hle',R',he',h'⟩
   cases e<;>first|exact⟨hg',E',ρ',s',hle',R',he',h'⟩|skip
   obtain⟨ρ2,he2,h2⟩:=zMi h' he'
   exact ihy _ _ A e0 E0 E' a' w' ρ2 s' hc.2 (fun t ht=>hA t (.inr ht)) hg' hle' R' he2 h2
  ·obtain⟨i0,h⟩:=h
   obtain⟨E1,s1,π1,hle1,⟨I,hround⟩,_,hwf1,hn1,hmk⟩:=zAr (x:=jn.ent) h R he (fun p n e=>by cases e)
   obtain⟨hlow,hbody,hrest⟩:=zP hround
   have hnlt:∀p q,yC p (wF π1 0 (jn.rows0 i0))=some q→yC p π1=some q∧q<s1.nx:=fun p q e=>by
    have h1:=rI e
    obtain⟨hd,h2⟩:=hwf1 p q h1
    exact⟨h1,by rw[← hn1];exact(yVn.1 h2).1⟩
   have hfix0:∀t,aH t []=false→VR E1 (ρS t) (yL a t):=fun t _=>(he t).mono hle1
   obtain⟨E2,hle2,R2,he2⟩:=hmk E1 (kA jn.keep s1.rows) s1.nx ρS [] (zPx s1.nx (wF π1 0 (jn.rows0 i0)) (jn.rows0 i0).length) (fun p q e=>(zLs e).imp_right (hnlt p q)) hn1 (FLe.refl _) (yZq _) (fun E4 _ hle4 _ M H=>wE (fun r y=>rHP.mono hle4 r) (tY H)) hfix0
   have hgB:Good n (fun t=>A t && aH t (asg x)) (yL a) a:=⟨hg.size,hg.defers,fun _ _=>rfl⟩
   refine wp_seq (wp_mono (ihx _ _ (fun t=>A t && aH t (asg x)) (yL a) E2 E2 a w _ _ hc.1 (fun t ht=>by rw[hA t (.inl ht),memN_iff.2 ht];rfl) hgB (Ev.le.refl _) R2 he2 hbody) ?_)
   rintro e a2 w2 ⟨hg2,E3,ρ3,s3,hle3,R3,he3,h2⟩
   have hg3:Good n A e0 a2:=⟨hg2.size,hg2.defers,fun t ht=>by rw[hg2.same t (by simp[ht]),hg.same t ht]⟩
   have hle03:E0.le E3:=hle.trans (hle1.trans (hle2.trans hle3))
   cases e<;>first|exact⟨hg3,E3,ρ3,s3,hle03,R3,he3,h2⟩|skip
   obtain⟨i',h2⟩:=h2
   have hw3:WfM (wF π1 0 (jn.rows0 i0)) E3.tab:=fun p q e=>by
    obtain⟨hd,h2⟩:=hwf1 p q (hnlt p q e).1
    exact⟨hd,(hle2.trans hle3).get h2⟩
   obtain⟨E4,s4,π4,hle4,⟨hinv',hkept⟩,hext4,_,hn4,hmk'⟩:=zAr h2 R3 he3 hw3
   have hfix2:∀t,aH t (asg x)=false→VR E1 (ρS t) (yL a2 t):=fun t ht=>by rw[hg2.same t (by simp[ht])];exact(he t).mono hle1
   obtain⟨E5,hle5,R5,he5⟩:=hmk' E1 (kA jn.keep s1.rows) s1.nx ρS (asg x) (zPx s1.nx (wF π1 0 (jn.rows0 i0)) (jn.rows i').length) (fun p q e=>(zLs e).imp_right fun h=>⟨hext4 p q h,(hnlt p q h).2⟩) hn1 (hle2.trans (hle3.trans hle4)).1 (hle2.trans (hle3.trans hle4)).2
    (fun E6 hF _ hl M H=>zRb (E3:=E4) (E4:=E6) hF hl hkept hlow H) hfix2
   exact ihy _ _ A e0 E0 E5 a2 w2 _ _ hc.2 (fun t ht=>hA t (.inr ht)) hg3 (hle.trans (hle1.trans hle5)) R5 he5 (hrest i' hinv')
 |cond c x y ihx ihy=>
  intro an Q A e0 E0 E a w ρS s hc hA hg hle R he h
  simp only[okC,yVy,asg,yWn]at hc hA
  simp only[scode]at h
  split at h<;>first|exact h.elim|skip
  rename_i t ht
  have hv:=he.ev c
  rw[ht]at hv
  simp only[VR,DR]at hv
  have hv1:=hv.1
  rw[jU]at hv1
  refine wp_cond_split hv1 (fun e=> ?_) (fun e=> ?_)
  ·subst e;exact ihx _ _ A e0 E0 E a w ρS s hc.1 (fun t ht=>hA t (.inl ht)) hg hle R he h
  ·subst e;exact ihy _ _ A e0 E0 E a w ρS s hc.2 (fun t ht=>hA t (.inr ht)) hg hle R he h
 |block id x ih=>
  intro an Q A e0 E0 E a w ρS s hc hA hg hle R he h
  refine wp_block (wp_mono (ih an _ A e0 E0 E a w ρS s hc hA hg hle R he h) ?_)
  rintro e a' w' ⟨hg',E',ρ',s',hle',R',he',h'⟩
  cases e<;>first|exact⟨hg',E',ρ',s',hle',R',he',h'⟩|skip
  rename_i id'
  simp only[Exit.inBlock]
  simp only[z9a]at h'
  split
  ·rename_i heq;subst heq;rw[Nat.beq_refl]at h';exact⟨hg',E',ρ',s',hle',R',he',h'⟩
  ·rename_i hne
   have hb:Nat.beq id' id=false:=by
    cases hb:Nat.beq id' id with
    |false=>rfl
    |true=>exact absurd (yVo hb) hne
   rw[hb]at h'
   exact⟨hg',E',ρ',s',hle',R',he',h'⟩
 |loop x ih=>
  intro an Q A e0 E0 E a w ρS s hc hA hg hle R he h
  cases an with
  |nil=>exact h.elim
  |cons an rest=>
   have hh:=gS h
   clear h
   rcases hh with⟨_,h⟩|⟨_,h⟩
   ·refine wp_loop_rounds an.un ?_
    revert h
    generalize an.un=m
    intro h
    induction m generalizing a w E ρS s with
    |zero=>exact h.elim
    |succ m ihm=>
     rw[rounds_succ]
     simp only[z8b]at h
     refine wp_mono (ih rest _ A e0 E0 E a w ρS s hc hA hg hle R he h) ?_
     rintro e a' w' ⟨hg',E',ρ',s',hle',R',he',h'⟩
     cases e<;>first|exact ihm E' a' w' ρ' s' hg' hle' R' he' h'|exact⟨hg',E',ρ',s',hle',R',he',h'⟩
   obtain⟨i0,h⟩:=h
   obtain⟨E1,s1,π1,hle1,⟨I,μ,hinv0,hround⟩,_,hwf1,hn1,hmk⟩:=zAr h R he (fun p n e=>by cases e)
   obtain⟨hlow,hround⟩:=zP hround
   have hnlt:∀p q,yC p (wF π1 0 (an.rows i0))=some q→yC p π1=some q∧q<s1.nx:=fun p q e=>by
    have h1:=rI e
    obtain⟨hd,h2⟩:=hwf1 p q h1
    exact⟨h1,by rw[← hn1];exact(yVn.1 h2).1⟩
   have hfix0:∀t,aH t (asg x)=false→VR E1 (ρS t) (yL a t):=fun t _=>(he t).mono hle1
   obtain⟨E2,hle2,R2,he2⟩:=hmk E1 (kA an.keep s1.rows) s1.nx ρS (asg x) (rO s1.nx π1 0 (an.rows i0)) (fun p q e=>(zBn e).imp_right (hnlt p q)) hn1 (FLe.refl _) (yZq _) (fun E4 _ hle4 _ M H=>wE (fun r y=>rHP.mono hle4 r) (tY H)) hfix0
   refine wp_loop_ghost (fun m a' w'=>Good n A e0 a'∧(∀t,aH t (asg x)=false→yL a' t=yL a t)∧∃i E',E1.le E'∧I i∧Rel k L E' (zLa s1.nx (rO s1.nx π1 0 (an.rows i0)) (an.rows i) (kA an.keep s1.rows)) w'∧
    EnvR E' (eD (rO s1.nx π1 0 (an.rows i0)) (an.slots i) (asg x) ρS) (yL a')∧μ i=m) (μ i0) ⟨hg,fun _ _=>rfl,i0,E2,hle2,hinv0,R2,he2,rfl⟩ ?_
   rintro m a' w' ⟨hg',hfix,i,E',hle',hinv,R',he',rfl⟩
   have h1:=hround i hinv
   have hgB:Good n (fun t=>A t && aH t (asg x)) (yL a') a':=⟨hg'.size,hg'.defers,fun _ _=>rfl⟩
   refine wp_mono (ih rest _ (fun t=>A t && aH t (asg x)) (yL a') E' E' a' w' _ _ hc (fun t ht=>by rw[hA t ht,memN_iff.2 ht];rfl) hgB (Ev.le.refl _) R' he' h1) ?_
   rintro e a2 w2 ⟨hg2,E3,ρ3,s3,hle3,R3,he3,h2⟩
   have hg3:Good n A e0 a2:=⟨hg2.size,hg2.defers,fun t ht=>by rw[hg2.same t (by simp[ht]),hg'.same t ht]⟩
   have hle03:E0.le E3:=hle.trans (hle1.trans (hle'.trans hle3))
   cases e<;>first|exact⟨hg3,E3,ρ3,s3,hle03,R3,he3,h2⟩|skip
   obtain⟨i',h2⟩:=h2
   have hw3:WfM (wF π1 0 (an.rows i0)) E3.tab:=fun p q e=>by
    obtain⟨hd,h2⟩:=hwf1 p q (hnlt p q e).1
    exact⟨hd,(hle'.trans hle3).get h2⟩
   obtain⟨E4,s4,π4,hle4,⟨hinv',hμ,hkept⟩,hext4,_,hn4,hmk'⟩:=zAr h2 R3 he3 hw3
   have hfix2:∀t,aH t (asg x)=false→yL a2 t=yL a t:=fun t ht=>by rw[hg2.same t (by simp[ht]),hfix t ht]
   obtain⟨E5,hle5,R5,he5⟩:=hmk' E1 (kA an.keep s1.rows) s1.nx ρS (asg x) (rO s1.nx π1 0 (an.rows i0)) (fun p q e=>(zBn e).imp_right fun h=>⟨hext4 p q h,(hnlt p q h).2⟩) hn1 (hle'.trans (hle3.trans hle4)).1 (hle'.trans (hle3.trans hle4)).2
    (fun E6 hF _ hl M H=>zRb (E3:=E4) (E4:=E6) hF hl hkept hlow H) (fun t ht=>by rw[hfix2 t ht];exact hfix0 t ht)
   exact⟨_,hμ,hg3,hfix2,i',E5,hle5,hinv',R5,he5,rfl⟩
 |exit id=>intro an Q A e0 E0 E a w ρS s _ _ hg hle R he h;exact wp_exit ⟨hg,E,ρS,s,hle,R,he,h⟩
 |ret=>intro an Q A e0 E0 E a w ρS s _ _ hg hle R he h;exact wp_ret ⟨hg,E,ρS,s,hle,R,he,h⟩
 |rangeFunc f ps x y ihx ihy=>intro an Q A e0 E0 E a w ρS s _ _ hg hle R he h;exact h.elim
 |scope x ih=>intro an Q A e0 E0 E a w ρS s _ _ hg hle R he h;exact h.elim
 |label l=>intro an Q A e0 E0 E a w ρS s _ _ hg hle R he h;exact h.elim
 |goto l=>intro an Q A e0 E0 E a w ρS s _ _ hg hle R he h;exact h.elim
 |refuse t=>intro an Q A e0 E0 E a w ρS s _ _ hg hle R he h;exact h.elim
open Go Go.RowKit Cv
variable {P:Program} {k:Ko} {L:List HP}
def zQg (P:Program) (ρ:yY) (s:St):List ResultVar→Option (List V)
 |[]=>some []
 | .tmp t::rs=>match zQg P ρ s rs with
   |some vs=>some (ρ t::vs)
   |none=>none
 | .cell a t::rs=>match ρ a with
   | .nm n off=>match s.get n with
     |some (.cells vs _)=>match z2f P t vs off with
      |some v=>match zQg P ρ s rs with
       |some us=>some (v::us)
       |none=>none
      |none=>none
     |_=>none
   |_=>none
def zMk:List V→V
 |[v]=>v
 |vs=> .tup vs
theorem lP {E:Ev} {s:St} {w:World} (R:Rel k L E s w) {ρS:yY} {a:Act} (he:EnvR E ρS (yL a)):∀{rs:List ResultVar} {vs:List V},zQg P ρS s rs=some vs→∃ys,(rs.mapM (zQl a.tmps)).run P w= .ok ys w∧VRL E vs ys
 |[],vs,h=>by
  simp only[zQg,Option.some.injEq]at h
  subst h
  exact⟨[],rfl,VRL.nil⟩
 | .tmp t::rs,vs,h=>by
   simp only[zQg]at h
   split at h<;>first|(cases h;done)|skip
   rename_i us hus
   cases h
   obtain⟨ys,h1,h2⟩:=lP R he hus
   refine⟨yL a t::ys,?_,by simp only[VRL];exact⟨_,_,rfl,he t,h2⟩⟩
   simp only[List.mapM_cons,zQl,bind,pure,run_bind,Sem.bind,Sem.run]at h1 ⊢
   rw[h1]
 | .cell c t::rs,vs,h=>by
   simp only[zQg]at h
   split at h<;>first|(cases h;done)|skip
   rename_i n off hc
   split at h<;>first|(cases h;done)|skip
   rename_i cs T hg
   split at h<;>first|(cases h;done)|skip
   rename_i v hp
   split at h<;>first|(cases h;done)|skip
   rename_i us hus
   cases h
   obtain⟨ys,h1,h2⟩:=lP R he hus
   have hv:=he c
   rw[hc]at hv
   simp only[VR]at hv
   obtain⟨b,oo,l,e1,e2⟩:=hv
   obtain⟨b',l',sub,q1,q2,q3⟩:=R.cells hg
   rw[e1]at q1;cases q1
   obtain⟨y,hy,hh⟩:=zGj q2 q3 hp
   refine⟨y::ys,?_,by simp only[VRL];exact⟨_,_,rfl,hy,h2⟩⟩
   rw[yWi]at e2
   have e2':a.tmps.getD c undef= .pointer (some ⟨b,off,none⟩):=e2
   unfold rD at hh
   simp only[List.mapM_cons,zQl,bind,pure,run_bind,Sem.bind,Sem.run,e2',asAddr,hh]at h1 ⊢
   rw[h1]
def fnS (P:Program) (fn:Func) (K:V→St→Prop):Exit→yY→St→Prop
 | .normal,ρ,s=>optK (zQg P ρ s fn.results.toList) fun vs=>K (zMk vs) s
 | .ret,ρ,s=>optK (zQg P ρ s fn.results.toList) fun vs=>K (zMk vs) s
 |_,_,_=>False
def yCb:List V→Nat→V
 |[],_=> .top
 |v::_,0=>v
 |_::l,n+1=>yCb l n
def zIy (args:List V):yY:=fun t=>yCb args t
theorem z2v {E:Ev}:∀{vs:List V} {ys:List Value},VRL E vs ys→∀t,VR E (yCb vs t) (ys.getD t undef)
 |[],ys,h,t=>by simp only[yCb,VR]
 |v::vs,ys,h,t=>by
  simp only[VRL]at h
  obtain⟨x,xs,rfl,h1,h2⟩:=h
  cases t with
  |zero=>exact h1
  |succ t=>simpa[yCb]using z2v h2 t
theorem lF {f:FuncId} {args:Array Value} {w:World} {K:Value→World→Prop} (hb:uE P f=true) (h:Calls P f args w fun e w'=>∃v,e= .returned v∧K v w'):Does P (callFunc f args) w K:=by
 unfold uE at hb
 split at hb
 ·rename_i fn hfn
  simp only[yVy,yYl,Bool.not_eq_eq_eq_not,Bool.not_true]at hb
  unfold Does
  have:(callFunc f args).run P w= .ok (.enter f args) w:=by
   simp only[callFunc,bind,pure,run_bind,program,Sem.run,Sem.bind,hfn,hb.1,hb.2,yWc,if_false]
  rw[this]
  exact h
 ·cases hb
theorem sF {H:Hnd} (hH:HOk P H) (hm:P.follows .mixedOrders=true) {f:FuncId} {fn:Func} {c:Code} (hf:P.funcs[f]? =some fn) (hb:fn.body=some c) (hok:okC fn.ntmps c=true) (J:List (Nat×SAnn)) (an:List SAnn)
 {args:List V} (hsz:Nat.ble args.length fn.ntmps=true) {K:V→St→Prop} {s:St} (h:scode P H J an c (fnS P fn K) (zIy args) s) {E:Ev} {w:World} {ys:List Value} (R:Rel k L E s w) (hv:VRL E args ys):
 Calls P f ys.toArray w fun e w'=>∃v,e= .returned v∧Outc k L E K v w':=by
 refine calls_of_wp hf hb ?_
 have hsz:=yXt hsz
 have hlen:=hv.length
 have hg:Good fn.ntmps (fun _=>true) (v7 ys) {tmps:=ys.toArray++Array.replicate (fn.ntmps-ys.toArray.size) undef,defers:=[]}:=
  ⟨by simp;omega,rfl,fun s hs=>by cases hs⟩
 have henv:yL {tmps:=ys.toArray++Array.replicate (fn.ntmps-ys.toArray.size) undef,defers:=[]}=v7 ys:=by
  funext i
  simp only[yL,v7,yXa,yVs,Array.getElem?_append]
  split
  ·simp
  ·rename_i hlt
   simp at hlt
   rw[yWk hlt,y0x]
   split<;>rfl
 have he:EnvR E (zIy args) (yL {tmps:=ys.toArray++Array.replicate (fn.ntmps-ys.toArray.size) undef,defers:=[]}):=by
  rw[henv]
  intro t
  exact z2v hv t
 refine wp_mono (zVa hH hm c an _ (fun _=>true) (v7 ys) E E _ w _ s hok (fun _ _=>rfl) hg (Ev.le.refl _) R he h) ?_
 have fin:∀{a':Act} {w':World} {E':Ev} {ρ':yY} {s':St},Good fn.ntmps (fun _=>true) (v7 ys) a'→E.le E'→Rel k L E' s' w'→EnvR E' ρ' (yL a')→(optK (zQg P ρ' s' fn.results.toList) fun vs=>K (zMk vs) s')→
  ∃v,(results fn a'.tmps).run P w'= .ok v w'∧∃v',Ending.returned v= .returned v'∧Outc k L E K v' w':=by
  intro a' w' E' ρ' s' hg' hle' R' he' h'
  obtain⟨vs,hvs,hk⟩:=zM h'
  obtain⟨zs,h1,h2⟩:=lP R' he' hvs
  refine⟨zCp zs,?_,_,rfl,E',zMk vs,s',hle',R',?_,hk⟩
  ·unfold results
   rw[Array.mapM_eq_mapM_toList,map_eq_pure_bind,bind_assoc]
   exact zFy h1 _ (fun r=>by cases r<;>rfl)
  ·rcases vs with _|⟨v,_|⟨u,vs⟩⟩
   ·simp only[VRL]at h2;subst h2
    simp only[zMk,zCp,VR];exact⟨[],rfl,VRL.nil⟩
   ·simp only[VRL]at h2
    obtain⟨x,xs,rfl,h3,rfl⟩:=h2
    exact h3
   ·have h20:=h2
    simp only[VRL]at h2
    obtain⟨x,xs,rfl,h3,y,ys',rfl,h4,h5⟩:=h2
    simp only[zMk,zCp,VR];exact⟨_,rfl,h20⟩
 rintro e a' w' ⟨hg',E',ρ',s',hle',R',he',h'⟩
 cases e<;>first|exact h'.elim|skip
 ·obtain⟨v,h1,h2⟩:=fin hg' hle' R' he' h'
  exact⟨hg'.defers,v,h1,h2⟩
 ·obtain⟨v,h1,h2⟩:=fin hg' hle' R' he' h'
  exact⟨hg'.defers,v,h1,h2⟩
theorem eT {H:Hnd} (hH:HOk P H) (hm:P.follows .mixedOrders=true) {f:FuncId} {fn:Func} {c:Code} (hf:P.funcs[f]? =some fn) (hb:fn.body=some c) (hbd:uE P f=true) (hok:okC fn.ntmps c=true) (J:List (Nat×SAnn)) (an:List SAnn)
 {args:List V} (hsz:Nat.ble args.length fn.ntmps=true) {K:V→St→Prop} {s:St} (h:scode P H J an c (fnS P fn K) (zIy args) s) {E:Ev} {w:World} {ys:List Value} (R:Rel k L E s w) (hv:VRL E args ys):
 Does P (callFunc f ys.toArray) w (Outc k L E K):=lF hbd (sF hH hm hf hb hok J an hsz h R hv)
def E0 (w:World):Ev:=⟨fun b=>w.heap[b]?,[]⟩
theorem yVd (w:World) (hG:GTab fun b=>w.heap[b]?):Rel (Cv.ko w) [] (E0 w) ⟨[],0⟩ w:=⟨rfl,(Hp.start w).imp fun x hx=>⟨hx,hG⟩⟩
def ySp (f:Nat):List (Nat×Con)→Option Con
 |[]=>none
 |(g,C)::l=>bif Nat.beq g f then some C else ySp f l
def GOk (P:Program):List (Nat×Con)→Prop
 |[]=>True
 |(f,C)::l=>C.ok P f∧GOk P l
def z9o (f:Nat):List (Nat×Con)→Bool
 |[]=>false
 |(g,_)::l=>bif Nat.beq g f then true else z9o f l
def zNm (f:Nat) (args:List V) (s:St) (K:V→St→Prop):List (Nat×Con)→Prop
 |[]=>False
 |(g,C)::l=>bif Nat.beq g f then(bif z9o f l then C.call args s K∨zNm f args s K l else C.call args s K)else zNm f args s K l
theorem tJ {f:Nat} {args:List V} {s:St} {K:V→St→Prop}:∀{G:List (Nat×Con)},GOk P G→zNm f args s K G→∃C:Con,C.ok P f∧C.call args s K
 |[],_,h=>h.elim
 |(g,C)::l,hG,h=>by
  simp only[zNm]at h
  cases hb:Nat.beq g f with
  |false=>rw[hb]at h;exact tJ hG.2 h
  |true=>
   rw[hb]at h
   have e:=yVo hb
   subst e
   cases hl:z9o g l with
   |false=>rw[hl]at h;exact⟨C,hG.1,h⟩
   |true=>
    rw[hl]at h
    rcases h with h|h
    ·exact⟨C,hG.1,h⟩
    ·exact tJ hG.2 h
def hnd (P:Program) (G:List (Nat×Con)):Nat→Hnd
 |0,f,args,s,K=>match z9o f G with
  |true=>zNm f args s K G
  |false=>False
 |d+1,f,args,s,K=>match z9o f G with
  |true=>zNm f args s K G
  |false=>match P.funcs[f]? with
   |some fn=>match fn.body with
    |some c=>bif uE P f && okC fn.ntmps c && Nat.ble args.length fn.ntmps then scode P (hnd P G d) [] [] c (fnS P fn K) (zIy args) s else False
    |none=>False
   |none=>False
theorem yDq (hm:P.follows .mixedOrders=true) {G:List (Nat×Con)} (hG:GOk P G):∀d,HOk P (hnd P G d):=by
 intro d
 induction d with
 |zero=>
  intro f args s K h k L E w ys R hv
  simp only[hnd]at h
  split at h<;>first|exact h.elim|skip
  obtain⟨C,h1,h2⟩:=tJ hG h
  exact Con.call_sound h1 h2 R hv
 |succ d ih=>
  intro f args s K h k L E w ys R hv
  simp only[hnd]at h
  split at h
  ·obtain⟨C,h1,h2⟩:=tJ hG h
   exact Con.call_sound h1 h2 R hv
  ·split at h<;>first|exact h.elim|skip
   rename_i fn hfn
   split at h<;>first|exact h.elim|skip
   rename_i c hc
   obtain⟨hb,h⟩:=zP h
   simp only[yVy]at hb
   exact eT ih hm hfn hc hb.1.1 hb.1.2 [] [] hb.2 h R hv
def zZn:Nat→NM
 |0=>[]
 |m+1=>(m,m)::zZn m
theorem zTq:∀{m p:Nat},p<m→yC p (zZn m)=some p
 |m+1,p,h=>by
  simp only[zZn,yC]
  cases hb:Nat.beq m p
  ·have:m≠p:=fun e=>by subst e;simp at hb
   exact zTq (by omega)
  ·rw[← yVo hb];rfl
theorem zCj:∀{m p q:Nat},yC p (zZn m)=some q→p<m∧q=p
 |0,p,q,h=>by cases h
 |m+1,p,q,h=>by
  simp only[zZn,yC]at h
  cases hb:Nat.beq m p
  ·rw[hb]at h
   obtain⟨h1,h2⟩:=zCj h
   exact⟨by omega,h2⟩
  ·rw[hb]at h
   have:=yVo hb
   simp only[cond_true,Option.some.injEq]at h
   exact⟨by omega,by omega⟩
def yEs (m:Nat) (v:V) (s:St) (a:Alt):Prop:=
 ∃o,mtV (a.res o) v (zZn m) s fun π s=>mtR 0 (a.post o) π s fun π _=>bif nB (a.post o).length π && Nat.ble m (a.post o).length then a.rel o else False
def yKp (m:Nat) (v:V) (s:St):List Alt→Prop
 |[]=>False
 |[a]=>yEs m v s a
 |a::l=>yEs m v s a∨yKp m v s l
theorem zHy {m:Nat} {v:V} {s:St}:∀{l:List Alt},yKp m v s l→∃a∈l,yEs m v s a
 |[a],h=>⟨a,by simp,h⟩
 |a::b::l,h=>by
  rcases h with h|h
  ·exact⟨a,by simp,h⟩
  ·obtain⟨c,h1,h2⟩:=zHy h
   exact⟨c,yVr _ h1,h2⟩
theorem z2p {w:World} {m:Nat} {v:V} {s:St} {a:Alt} {E0 E:Ev} (h:yEs m v s a) (hn:E0.tab.length=m) (hle:E0.le E) (R:Rel k L E s w) {y:Value} (hv:VR E v y):
 ∃o,a.rel o∧∃E',E0.le E'∧VR E' (a.res o) y∧Rel k L E' ⟨hJ 0 (a.post o),(a.post o).length⟩ w:=by
 obtain⟨o,h⟩:=h
 have hid:WfM (zZn m) E.tab:=fun p n e=>by
  obtain⟨h1,rfl⟩:=zCj e
  exact⟨E0.tab[n]'(by omega),hle.get (yWp (by omega))⟩
 obtain⟨E1,π1,s1,q1,q2,q3⟩:=zZp h R hid hv
 obtain⟨E2,π2,s2,r1,r2⟩:=zRc q3 q1.rel q1.wf
 obtain⟨hb,hrel⟩:=zP r2
 simp only[yVy]at hb
 have hlt:=bS hb.1
 have hmq:=yXt hb.2
 let q:=(a.post o).length
 let tl:List Hd:=(List.range q).map fun p=>(E2.tab[(yC p π2).getD 0]?).getD (undef,[])
 have hget:∀p,p<q→tl[p]? =some ((E2.tab[(yC p π2).getD 0]?).getD (undef,[])):=fun p hp=>by
  show((List.range q).map _)[p]? =_
  rw[yWt,yZk hp];rfl
 have hloc:Loc π2 E2.tab tl:=by
  intro p n hp
  obtain⟨hd,h'⟩:=r1.wf p n hp
  refine⟨hd,h',?_⟩
  rw[hget p (hlt p n hp)]
  simp only[hp,yXo,h']
 have hle2:E0.le E2:=hle.trans (q1.le.trans r1.le)
 have hpre:E0.tab<+:tl:=by
  refine⟨tl.drop m,?_⟩
  apply y0b
  intro p
  by_cases hp:p<m
  ·rw[yYm (by omega)]
   have hpl:yC p π2=some p:=r1.ext _ _ (q1.ext _ _ (zTq hp))
   have e1:E0.tab[p]? =some (E0.tab[p]'(by omega)):=yWp (by omega)
   rw[hget p (by omega),hpl,yXo,hle2.get e1,e1];rfl
  ·rw[yXp (by omega),yYg,hn,show m+(p-m)=p by omega]
 refine⟨o,hrel,⟨E2.F,tl⟩,⟨hle2.1,hpre⟩,q2 E2 π2 r1.le r1.ext tl hloc,⟨by simp[tl,q],?_⟩⟩
 have H:=r1.rel.frontL
 have H1:=wE (g:=rHP ⟨E2.F,tl⟩) (fun r x hx=>by
  rcases hx with⟨e1,e2⟩|⟨n,h1,h2⟩
  ·exact .inl ⟨e1,e2⟩
  ·right
   obtain⟨hd,h3,h4⟩:=h2 E2 π2 (Ev.le.refl _) (Ext.refl _) tl hloc
   obtain⟨hd',h5,h6⟩:=hloc _ _ h1
   rw[h3]at h5;cases h5
   exact⟨hd,h6,h4⟩) H
 have H2:Hp k w (s2.rows.map (rHP E2)++((hJ 0 (a.post o)).map (rHP ⟨E2.F,tl⟩)++fz E2.F::L)):=by
  refine H1.perm ?_
  rw[← yVq,← yVq]
  exact yXj.append_right _
 have hdrop:∀(l:List (Nat×AObj)) {M:List HP},Hp k w (l.map (rHP E2)++M)→Hp k w M:=by
  intro l
  induction l with
  |nil=>intro M H;exact H
  |cons a l ih=>intro M H;exact ih H.drop
 exact hdrop _ H2
def walk (P:Program) (G:List (Nat×Con)) (d:Nat) (J:List (Nat×SAnn)) (an:List SAnn) (op:List Nat) (fn:Func) (c:Code) (args:List V) (rows:List AObj) (alts:List Alt):Prop:=
 scode P (hnd P G d) J an c (fnS P fn fun v s=>yKp rows.length v s alts) (zIy args) (zPk op ⟨hJ 0 rows,rows.length⟩)
theorem bD (hm:P.follows .mixedOrders=true) {f:FuncId} {fn:Func} {c:Code} {C:Con} (G:List (Nat×Con)) (hG:GOk P G) (d:Nat) (J:C.ι→List (Nat×SAnn)) (an:C.ι→List SAnn) (op:List Nat) (hf:P.funcs[f]? =some fn) (hb:fn.body=some c) (hbd:uE P f=true) (hok:okC fn.ntmps c=true)
 (hsz:∀i,Nat.ble (C.pat i).length fn.ntmps=true) (h:∀i,C.cnd i→walk P G d (J i) (an i) op fn c (C.pat i) (C.pre i) (C.alts i)):C.ok P f:=by
 intro i hc k L E w ys R hv
 obtain⟨E1,hle,R1⟩:=zIj op R
 refine(eT (yDq hm hG d) hm hf hb hbd hok (J i) (an i) (hsz i) (h i hc) R1 (hv.mono hle)).mono ?_
 rintro y w' ⟨E',v,s',hle',R',hv',hk⟩
 obtain⟨a,ha,hend⟩:=zHy hk
 obtain⟨o,h1,E2,h2,h3,h4⟩:=z2p hend R.nx (hle.trans hle') R' hv'
 exact⟨a,ha,o,h1,E2,h2,h3,h4⟩
def dZ (t:TypeId):Con where
 ι:=List (Value×List D)
 pat:=fun _=>[.ifc t (.mp 0)]
 pre:=fun es=>[.map es]
 cnd:=fun _=>True
 alts:=fun es=>[{o:=Unit,res:=fun _=> .ifc t (.mp 1),post:=fun _=>[.map es,.map es],rel:=fun _=>True}]
theorem zXz {f : FuncId} {fn : Func} (hf : P.funcs[f]? = some fn) (hname : (fn.name == "runtime.NumGoroutine") = false) (hb : fn.body.isNone = true) (hn : Extern.findNext fn = none) (he : Extern.find fn = some Extern.MapsClone.clone) (t : TypeId) : (dZ t).ok P f := by
 intro es _ k L E w ys R hv
 simp only[dZ,VRL,VR]at hv
 obtain⟨y,_,rfl,⟨z,rfl,b,sub,e1,rfl⟩,rfl⟩:=hv
 have hg:(⟨hJ 0 [.map es],1⟩:St).get 0=some (.map es):=rfl
 obtain⟨hd,x,q1,q2,q3⟩:=R.row hg (by simp)
 rw[e1]at q1;cases q1
 simp only[rowHP]at q2
 obtain⟨b',ents,ck,e4,e5,e6,rfl⟩:=q2
 cases e4
 have hm:=q3 b _ (by simp[one];rfl)
 have hrun:(Extern.MapsClone.clone #[.iface t (.map (some b))]).run P w= .ok (.iface t (.map (some w.heap.size))) (w.alloc (.map ents.toArray ck)):=by
  have e:Extern.MapsClone.clone #[.iface t (.map (some b))]=(getObj b>>=fun o=>match o with
   | .map entries clock=>(newObj (.map entries clock)>>=fun n=>pure (.iface t (.map (some n))))
   | _ => stuck "maps.clone: a map expected") := rfl
  rw[e]
  simp only[bind,run_bind,qC hm trivial]
  rfl
 unfold Does
 rw[run_callFunc_extern hf hname hb hn he,hrun]
 simp only[Result.andThen]
 have hfresh:rowHP E.F (.map es) (E.tab++[(.map (some w.heap.size),[])]) (.map (some w.heap.size),[]) (one w.heap.size (.map ents.toArray ck)):=by
  simp only[rowHP];exact⟨_,ents,ck,rfl,e5,e6,rfl⟩
 obtain⟨h1,h2,h3⟩:=R.new hfresh
 refine⟨_,yXc.2 rfl,(),trivial,_,h1,by simp only[VR];exact⟨_,rfl,_,_,h3,rfl⟩,⟨h2.nx,h2.hp.perm ?_⟩⟩
 exact .swap _ _ _
theorem zRg {E:Ev} {s:St} {w w':World} (hle:(E0 w).le E) (R:Rel (Cv.ko w) [] E s w'):Below w.heap.size w w':=by
 have hfr:=R.frozen
 obtain⟨h1,h2,h3⟩:=R.hp.1
 have hblk:∀b,b<w.heap.size→w'.heap[b]? =w.heap[b]? :=fun b hb=>by
  have:w.heap[b]? =some w.heap[b]:=yZs hb
  rw[this];exact hfr b _ (hle.1 b _ this)
 refine⟨h1,h2,h3,?_,hblk⟩
 rcases yXv w'.heap.size w.heap.size with hlt|hge
 ·have:=hblk w'.heap.size hlt
  rw[yYe (yWj _),yZs hlt]at this
  cases this
 ·exact hge
theorem calls_of_walk (hm:P.follows .mixedOrders=true) {f:FuncId} {fn:Func} {c:Code} (G:List (Nat×Con)) (hG:GOk P G) (d:Nat) (J:List (Nat×SAnn)) (an:List SAnn) (hf:P.funcs[f]? =some fn) (hb:fn.body=some c) (hok:okC fn.ntmps c=true)
 {args:List V} {alts:List Alt} (hsz:Nat.ble args.length fn.ntmps=true) (h:walk P G d J an [] fn c args [] alts) {w:World} (hG0:GTab fun b=>w.heap[b]?) {ys:List Value} (hv:VRL (E0 w) args ys):
 Calls P f ys.toArray w fun e w'=>∃y,e= .returned y∧Below w.heap.size w w'∧∃a∈alts,∃o,a.rel o∧∃E',VR E' (a.res o) y:=by
 refine(sF (yDq hm hG d) hm hf hb hok J an hsz h (yVd w hG0) hv).mono ?_
 rintro e w' ⟨y,he,E',v,s',hle,R,hvr,hk⟩
 obtain⟨a,ha,hend⟩:=zHy hk
 obtain⟨o,h1,E2,h2,h3,h4⟩:=z2p hend rfl hle R hvr
 exact⟨y,he,zRg hle R,a,ha,o,h1,E2,h3⟩
open Go Cv
@[reducible] def zA (n:Int):V:= .d (.v (.int .i64 n))
@[reducible] def rC (n:Int):V:= .d (.v (.int .u64 n))
@[reducible] def yFn (n:Int):V:= .d (.v (.int .u32 n))
@[reducible] def yF (b:Bool):V:= .d (.v (.bool b))
@[reducible] def roV (sz:Nat) (els:List (List D)):V:= .d (.ro sz els)
def zCk:V:= .tup []
@[reducible] def con1 (ι:Type) (pat:ι→List V) (pre:ι→List AObj) (cnd:ι→Prop) (res:ι→V) (post:ι→List AObj):Con where
 ι:=ι
 pat:=pat
 pre:=pre
 cnd:=cnd
 alts:=fun i=>[{o:=Unit,res:=fun _=>res i,post:=fun _=>post i,rel:=fun _=>True}]
def bE (l:List UInt8):List (List D):=l.map fun b=>[.v (.int .u8 b.toNat)]
@[simp] theorem yUa (a b:List UInt8):bE (a++b)=bE a++bE b:=by simp[bE]
@[simp] theorem yUp:bE []=[]:=rfl
@[simp] theorem vM (a:List UInt8):(bE a).length=a.length:=by simp[bE]
theorem zQz (a:List UInt8) (n:Nat):bE (a.take n)=(bE a).take n:=by simp[bE]
theorem z0l (a:List UInt8) (n:Nat):bE (a.drop n)=(bE a).drop n:=by simp[bE]
def lob (n:Int):UInt8:=UInt8.ofNat (n % 256).toNat
def le (n:Int):Nat→List UInt8
 |0=>[]
 |k+1=>lob n::le (n / 256) k
theorem gW (k:Nat):∀n:Int,(le n k).length=k:=by
 induction k with
 |zero=>intro n;rfl
 |succ k ih=>intro n;simp[le,ih]
theorem yHh (k:Nat):∀n:Int,le n (k+1)=le n k++[lob (n / 256 ^ k)]:=by
 induction k with
 |zero=>intro n;simp[le]
 |succ k ih=>
  intro n
  have:n / 256 / 256 ^ k=n / 256 ^ (k+1):=by
   rw[Int.ediv_ediv_of_nonneg (by omega),Int.pow_succ,y0o]
  rw[le,ih,le,this,yXb]
theorem z0m (n:Int):IntKind.u8.wrap n=((lob n).toNat:Int):=by
 have:(IntKind.u8.wrap n)=n % 256:=rfl
 rw[this]
 unfold lob
 have h1:(n % 256).toNat<256:=by omega
 rw[UInt8.toNat_ofNat_of_lt' (by simpa using h1)]
 omega
theorem w64 {x:Int} (h: -9223372036854775808≤x∧x≤9223372036854775807):IntKind.i64.wrap x=x:=Cv.wrap_i64 h.1 h.2
theorem zAm {x:Int} (h:0≤x∧x<18446744073709551616):IntKind.u64.wrap x=x:=by
 have:IntKind.u64.wrap x=x % 18446744073709551616:=rfl
 rw[this];omega
theorem yUy {x:Int} (h:0≤x∧x<4294967296):IntKind.u32.wrap x=x:=by
 have:IntKind.u32.wrap x=x % 4294967296:=rfl
 rw[this];omega
theorem zBq (k:IntKind) (a:Int) (b:Nat) (h:b≤k.bits):bU k a b=a / 2 ^ b:=by
 unfold bU
 rw[show min (Int.toNat (b:Int)) k.bits=b by simp;omega]
 rw[Int.fdiv_eq_ediv_of_nonneg]
 exact Int.pow_nonneg (by omega)
theorem zJ {p:Prop} [Decidable p] {A B:Prop} (h1:p→A) (h2:¬p→B):cnd (decide p) A B:=Cv.cnd.mk (fun h=>h1 (yXu h)) (fun h=>h2 (yZr h))
theorem gok0 {P:Program}:GOk P []:=trivial
theorem gokc {P:Program} {f:Nat} {C:Con} {l:List (Nat×Con)} (h:C.ok P f) (hl:GOk P l):GOk P ((f,C)::l):=⟨h,hl⟩
end Sx
