/- Texts of ours, one behind the other: a walk that the kernel reckons, and contracts of functions. No condition. -/
import Derived.Laws.Externs
import Derived.LoopN
import Derived.MapKept
import Derived.Test.YtogkpgfggfbhaaaGreatX2
namespace Sx
set_option linter.unusedSimpArgs false
set_option linter.unusedVariables false
open Go Go.RowKit Cv
@[reducible] def NM:=List (Nat×Nat)
def z6 (p:Nat):NM→Option Nat
 |[]=>none
 |(q,n)::l=>bif Nat.beq q p then some n else z6 p l
def lEq:Value→Value→Prop
 | .int k a,.int k' b=>bif keq k k' then a=b else False
 | .bool a,.bool b=>a=b
 | .string a,.string b=>a=b
 | .pointer none,.pointer none=>True
 | .slice none 0 0,.slice none 0 0=>True
 | .map none,.map none=>True
 | .nilFunc,.nilFunc=>True
 | .nilIface,.nilIface=>True
 |_,_=>False
theorem z8o {x y:Value} (h:lEq x y):x=y:=by
 unfold lEq at h
 split at h<;>first|exact h.elim|rfl|(subst h;rfl)|skip
 obtain⟨hk,rfl⟩:=zN h
 rw[zLj hk]
def dEq:D→D→Prop
 | .v x,.v y=>lEq x y
 | .ro sz els,.ro sz' els'=>bif Nat.beq sz sz' then els=els' else False
 | .ro _ els,.v (.slice none 0 0)=>els=[]
 |_,_=>False
theorem yFz {F:PH} {p q:D} {y:Value} (h:dEq p q) (hq:DR F q y):DR F p y:=by
 unfold dEq at h
 split at h<;>first|exact h.elim|skip
 ·rw[z8o h];exact hq
 ·obtain⟨hb,rfl⟩:=zN h
  rw[yOv hb];exact hq
 ·subst h
  simp only[DR]at hq ⊢
  exact⟨none,0,hq.1,yPy _,by simp,.inl trivial⟩
def zKz (p n:Nat) (π:NM) (K:NM→Prop):Prop:=
 match z6 p π with
 |some m=>bif Nat.beq m n then K π else False
 |none=>K ((p,n)::π)
mutual
def mtV:V→V→NM→St→(NM→St→Prop)→Prop
 | .top,_,π,s,K=>K π s
 | .d p,a,π,s,K=>match a with
   | .d q=>dEq p q∧K π s
   | .own n=>match p with
     | .ro sz els=>match s.get n with
       |some (.own _ sz' els')=>bif Nat.beq sz sz' then els=els'∧K π (s.set n (.fro sz' els'))else False
       |some (.fro sz' els')=>bif Nat.beq sz sz' then els=els'∧K π s else False
       |_=>False
     |_=>False
   |_=>False
 | .nm p o,a,π,s,K=>match a with
   | .nm n o'=>bif Nat.beq o o' then zKz p n π fun π=>K π s else False
   |_=>False
 | .el p sz i f,a,π,s,K=>match a with
   | .el n sz' i' f'=>bif Nat.beq sz sz' && Nat.beq f f' then i=i'∧zKz p n π fun π=>K π s else False
   |_=>False
 | .own p,a,π,s,K=>match a with
   | .own n=>zKz p n π fun π=>K π s
   | .d (.v (.slice none 0 0))=>match z6 p π with
     |none=>K ((p,s.nx)::π) (s.new .nilo)
     |some _=>False
   |_=>False
 | .mp p,a,π,s,K=>match a with
   | .mp n=>zKz p n π fun π=>K π s
   |_=>False
 | .agg l,a,π,s,K=>match a with
   | .agg l'=>mtL l l' π s K
   |_=>False
 | .tup l,a,π,s,K=>match a with
   | .tup l'=>mtL l l' π s K
   |_=>False
 | .fn f x y,a,π,s,K=>match a with
   | .fn f' x' y'=>bif Nat.beq f f' then mtL x x' π s fun π s=>mtL y y' π s K else False
   |_=>False
 | .ifc t x,a,π,s,K=>match a with
   | .ifc t' x'=>bif Nat.beq t t' then mtV x x' π s K else False
   |_=>False
 |_,_,_,_,_=>False
def mtL:List V→List V→NM→St→(NM→St→Prop)→Prop
 |[],l,π,s,K=>match l with
  |[]=>K π s
  |_=>False
 |v::vs,l,π,s,K=>match l with
  |u::us=>mtV v u π s fun π s=>mtL vs us π s K
  |[]=>False
end
def Loc (π:NM) (tab tl:List Hd):Prop:=∀p n,z6 p π=some n→∃hd,tab[n]?=some hd∧tl[p]?=some hd
def Ext (π π':NM):Prop:=∀p n,z6 p π=some n→z6 p π'=some n
def WfM (π:NM) (tab:List Hd):Prop:=∀p n,z6 p π=some n→∃hd,tab[n]?=some hd
theorem Ext.refl (π:NM):Ext π π:=fun _ _ h=>h
theorem Ext.trans {a b c:NM} (h:Ext a b) (h':Ext b c):Ext a c:=fun p n e=>h' p n (h p n e)
theorem WfM.mono {π:NM} {E E':Ev} (h:WfM π E.tab) (hle:E.le E'):WfM π E'.tab:=fun p n e=>let⟨hd,q⟩:=h p n e;⟨hd,hle.get q⟩
def PV (E:Ev) (π:NM) (v:V) (y:Value):Prop:=∀E2 π2,E.le E2→Ext π π2→∀tl,Loc π2 E2.tab tl→VR ⟨E2.F,tl⟩ v y
def PVL (E:Ev) (π:NM) (v:List V) (y:List Value):Prop:=∀E2 π2,E.le E2→Ext π π2→∀tl,Loc π2 E2.tab tl→VRL ⟨E2.F,tl⟩ v y
theorem PV.mono {E E':Ev} {π π':NM} {v:V} {y:Value} (h:PV E π v y) (hle:E.le E') (hx:Ext π π'):PV E' π' v y:=fun E2 π2 a b tl c=>h E2 π2 (hle.trans a) (hx.trans b) tl c
theorem PVL.mono {E E':Ev} {π π':NM} {v:List V} {y:List Value} (h:PVL E π v y) (hle:E.le E') (hx:Ext π π'):PVL E' π' v y:=fun E2 π2 a b tl c=>h E2 π2 (hle.trans a) (hx.trans b) tl c
theorem pU {p n:Nat} {π:NM} {tab:List Hd} {K:NM→Prop} (h:zKz p n π K) (hw:WfM π tab) {hd:Hd} (hn:tab[n]? =some hd):∃π',Ext π π'∧WfM π' tab∧z6 p π'=some n∧K π':=by
 unfold zKz at h
 split at h
 ·rename_i m hm
  obtain⟨hb,hk⟩:=zN h
  have:=yOv hb
  subst this
  exact⟨π,Ext.refl _,hw,hm,hk⟩
 ·rename_i hm
  refine⟨_,fun q m e=> ?_,fun q m e=> ?_,by simp[z6],h⟩
  ·simp only[z6]
   cases hb:Nat.beq p q
   ·exact e
   ·have:=yOv hb
    subst this
    rw[hm]at e;cases e
  ·simp only[z6]at e
   cases hb:Nat.beq p q
   ·rw[hb]at e;exact hw q m e
   ·rw[hb]at e;cases e;exact⟨hd,hn⟩
variable {k:Ko} {L:List HP} {w:World}
structure MtOk (k:Ko) (L:List HP) (w:World) (E:Ev) (π:NM) (E':Ev) (π':NM) (s':St):Prop where
 le:E.le E'
 ext:Ext π π'
 wf:WfM π' E'.tab
 rel:Rel k L E' s' w
theorem MtOk.trans {E E1 E2:Ev} {π π1 π2:NM} {s1 s2:St} {L1 L2:List HP} (a:MtOk k L1 w E π E1 π1 s1) (b:MtOk k L2 w E1 π1 E2 π2 s2):MtOk k L2 w E π E2 π2 s2:=⟨a.le.trans b.le,a.ext.trans b.ext,b.wf,b.rel⟩
theorem Rel.newNil {E:Ev} {s:St} (R:Rel k L E s w):∃E',E.le E'∧Rel k L E' (s.new .nilo) w∧E'.tab[s.nx]? =some (.slice none 0 0,[]):=by
 have hle:E.le ⟨E.F,E.tab++[(.slice none 0 0,[])]⟩:=Ev.le.app _
 have hget:(E.tab++[((.slice none 0 0,[]):Hd)])[s.nx]? =some (.slice none 0 0,[]):=by rw[← R.nx];simp
 refine⟨_,hle,⟨by simp[St.new,R.nx],?_⟩,hget⟩
 have H2:=jC (fun r x=>rHP.mono hle r) R.hp
 have:=(@wE k w True _).2 ⟨trivial,H2⟩
 exact this.imp fun x hx=> .inr ⟨_,hget,by simp only[rowHP];exact⟨hx.2,trivial,trivial⟩⟩
mutual
theorem zUd:∀{v a:V} {π:NM} {s:St} {K:NM→St→Prop} {E:Ev} {y:Value},mtV v a π s K→Rel k L E s w→WfM π E.tab→VR E a y→∃E' π' s',MtOk k L w E π E' π' s'∧PV E' π' v y∧K π' s'
 | .top,a,π,s,K,E,y,h,R,hw,hv=>by
   simp only[mtV]at h
   exact⟨E,π,s,⟨Ev.le.refl _,Ext.refl _,hw,R⟩,fun _ _ _ _ _ _=>by simp only[VR],h⟩
 | .d p,a,π,s,K,E,y,h,R,hw,hv=>by
   simp only[mtV]at h
   split at h<;>first|exact h.elim|skip
   ·rename_i q
    obtain⟨h1,h⟩:=h
    simp only[VR]at hv
    exact⟨E,π,s,⟨Ev.le.refl _,Ext.refl _,hw,R⟩,fun E2 _ a _ _ _=>by simp only[VR];exact(yFz h1 hv).mono a.1,h⟩
   ·rename_i n
    split at h<;>first|exact h.elim|skip
    rename_i sz els
    split at h<;>first|exact h.elim|skip
    ·rename_i t sz' els' hg
     obtain⟨hb,rfl,hk⟩:=zN h
     have e:=yOv hb
     subst e
     obtain⟨E',q1,q2,q3,q4,q5⟩:=eM R (v:= .own n) (d:= .ro sz els) (s':=s.set n (.fro sz els)) (by simp only[zTm,hg]) hv
     exact⟨E',π,_,⟨q1,Ext.refl _,by rw[q2];exact hw,q3⟩,fun E2 _ a _ _ _=>by simp only[VR];exact q5.mono a.1,hk⟩
    ·rename_i sz' els' hg
     obtain⟨hb,rfl,hk⟩:=zN h
     have e:=yOv hb
     subst e
     obtain⟨E',q1,q2,q3,q4,q5⟩:=eM R (v:= .own n) (d:= .ro sz els) (s':=s) (by simp only[zTm,hg]) hv
     exact⟨E',π,_,⟨q1,Ext.refl _,by rw[q2];exact hw,q3⟩,fun E2 _ a _ _ _=>by simp only[VR];exact q5.mono a.1,hk⟩
 | .nm p o,a,π,s,K,E,y,h,R,hw,hv=>by
   simp only[mtV]at h
   split at h<;>first|exact h.elim|skip
   rename_i n o'
   obtain⟨hb,hk⟩:=zN h
   have e:=yOv hb
   subst e
   simp only[VR]at hv
   obtain⟨b,oo,l,h1,rfl⟩:=hv
   obtain⟨π',q1,q2,q3,q4⟩:=pU hk hw h1
   refine⟨E,π',s,⟨Ev.le.refl _,q1,q2,R⟩,fun E2 π2 a b' tl hl=> ?_,q4⟩
   simp only[VR]
   obtain⟨hd,e1,e2⟩:=hl p n (b' p n q3)
   rw[a.get h1]at e1;cases e1
   exact⟨b,oo,l,e2,rfl⟩
 | .el p sz i f,a,π,s,K,E,y,h,R,hw,hv=>by
   simp only[mtV]at h
   split at h<;>first|exact h.elim|skip
   rename_i n sz' i' f'
   obtain⟨hb,rfl,hk⟩:=zN h
   simp only[yPh]at hb
   have e:=yOv hb.1
   subst e
   have e:=yOv hb.2
   subst e
   simp only[VR]at hv
   obtain⟨b,oo,m,c,l,h1,rfl⟩:=hv
   obtain⟨π',q1,q2,q3,q4⟩:=pU hk hw h1
   refine⟨E,π',s,⟨Ev.le.refl _,q1,q2,R⟩,fun E2 π2 a b' tl hl=> ?_,q4⟩
   simp only[VR]
   obtain⟨hd,e1,e2⟩:=hl p n (b' p n q3)
   rw[a.get h1]at e1;cases e1
   exact⟨b,oo,m,c,l,e2,rfl⟩
 | .own p,a,π,s,K,E,y,h,R,hw,hv=>by
   simp only[mtV]at h
   split at h<;>first|exact h.elim|skip
   ·rename_i n
    simp only[VR]at hv
    obtain⟨l,h1,h2⟩:=hv
    obtain⟨π',q1,q2,q3,q4⟩:=pU h hw h1
    refine⟨E,π',s,⟨Ev.le.refl _,q1,q2,R⟩,fun E2 π2 a b' tl hl=> ?_,q4⟩
    simp only[VR]
    obtain⟨hd,e1,e2⟩:=hl p n (b' p n q3)
    rw[a.get h1]at e1;cases e1
    exact⟨l,e2,h2⟩
   ·split at h<;>first|exact h.elim|skip
    rename_i hm
    obtain⟨E',q1,q2,q3⟩:=R.newNil
    simp only[VR,DR]at hv
    obtain⟨rfl,_⟩:=hv
    have hpl:z6 p ((p,s.nx)::π)=some s.nx:=by simp[z6]
    refine⟨E',_,_,⟨q1,fun q m e=> ?_,fun q m e=> ?_,q2⟩,fun E2 π2 a b' tl hl=> ?_,h⟩
    ·simp only[z6]
     cases hb:Nat.beq p q
     ·exact e
     ·have:=yOv hb
      subst this
      rw[hm]at e;cases e
    ·simp only[z6]at e
     cases hb:Nat.beq p q
     ·rw[hb]at e;obtain⟨hd,h'⟩:=hw q m e;exact⟨hd,q1.get h'⟩
     ·rw[hb]at e;cases e;exact⟨_,q3⟩
    ·simp only[VR]
     obtain⟨hd,e1,e2⟩:=hl p _ (b' p _ hpl)
     rw[a.get q3]at e1;cases e1
     exact⟨[],e2,_,_,_,rfl⟩
 | .mp p,a,π,s,K,E,y,h,R,hw,hv=>by
   simp only[mtV]at h
   split at h<;>first|exact h.elim|skip
   rename_i n
   simp only[VR]at hv
   obtain⟨b,l,h1,h2⟩:=hv
   obtain⟨π',q1,q2,q3,q4⟩:=pU h hw h1
   refine⟨E,π',s,⟨Ev.le.refl _,q1,q2,R⟩,fun E2 π2 a b' tl hl=> ?_,q4⟩
   simp only[VR]
   obtain⟨hd,e1,e2⟩:=hl p n (b' p n q3)
   rw[a.get h1]at e1;cases e1
   exact⟨b,l,e2,h2⟩
 | .agg l,a,π,s,K,E,y,h,R,hw,hv=>by
   simp only[mtV]at h
   split at h<;>first|exact h.elim|skip
   simp only[VR]at hv
   obtain⟨ys,rfl,hv⟩:=hv
   obtain⟨E',π',s',q1,q2,q3⟩:=m7 h R hw hv
   exact⟨E',π',s',q1,fun E2 π2 a b tl c=>by simp only[VR];exact⟨ys,rfl,q2 E2 π2 a b tl c⟩,q3⟩
 | .tup l,a,π,s,K,E,y,h,R,hw,hv=>by
   simp only[mtV]at h
   split at h<;>first|exact h.elim|skip
   simp only[VR]at hv
   obtain⟨ys,rfl,hv⟩:=hv
   obtain⟨E',π',s',q1,q2,q3⟩:=m7 h R hw hv
   exact⟨E',π',s',q1,fun E2 π2 a b tl c=>by simp only[VR];exact⟨ys,rfl,q2 E2 π2 a b tl c⟩,q3⟩
 | .fn f x z,a,π,s,K,E,y,h,R,hw,hv=>by
   simp only[mtV]at h
   split at h<;>first|exact h.elim|skip
   rename_i f' x' z'
   obtain⟨hb,hk⟩:=zN h
   have e:=yOv hb
   subst e
   simp only[VR]at hv
   obtain⟨as,bs,rfl,h1,h2⟩:=hv
   obtain⟨E',π',s',q1,q2,q3⟩:=m7 hk R hw h1
   obtain⟨E2,π2,s2,r1,r2,r3⟩:=m7 q3 q1.rel q1.wf (h2.mono q1.le)
   exact⟨E2,π2,s2,q1.trans r1,fun E3 π3 a b tl c=>by simp only[VR];exact⟨as,bs,rfl,q2.mono r1.le r1.ext E3 π3 a b tl c,r2 E3 π3 a b tl c⟩,r3⟩
 | .ifc t x,a,π,s,K,E,y,h,R,hw,hv=>by
   simp only[mtV]at h
   split at h<;>first|exact h.elim|skip
   rename_i t' x'
   obtain⟨hb,hk⟩:=zN h
   have e:=yOv hb
   subst e
   simp only[VR]at hv
   obtain⟨z,rfl,h1⟩:=hv
   obtain⟨E',π',s',q1,q2,q3⟩:=zUd hk R hw h1
   exact⟨E',π',s',q1,fun E3 π3 a b tl c=>by simp only[VR];exact⟨z,rfl,q2 E3 π3 a b tl c⟩,q3⟩
 | .re sz els i f,a,π,s,K,E,y,h,R,hw,hv=>by simp only[mtV]at h
 | .sub n i,a,π,s,K,E,y,h,R,hw,hv=>by simp only[mtV]at h
theorem m7:∀{v a:List V} {π:NM} {s:St} {K:NM→St→Prop} {E:Ev} {y:List Value},mtL v a π s K→Rel k L E s w→WfM π E.tab→VRL E a y→∃E' π' s',MtOk k L w E π E' π' s'∧PVL E' π' v y∧K π' s'
 |[],a,π,s,K,E,y,h,R,hw,hv=>by
  simp only[mtL]at h
  split at h<;>first|exact h.elim|skip
  simp only[VRL]at hv
  exact⟨E,π,s,⟨Ev.le.refl _,Ext.refl _,hw,R⟩,fun _ _ _ _ _ _=>by simpa only[VRL]using hv,h⟩
 |v::vs,a,π,s,K,E,y,h,R,hw,hv=>by
  simp only[mtL]at h
  split at h<;>first|exact h.elim|skip
  simp only[VRL]at hv
  obtain⟨x,xs,rfl,h1,h2⟩:=hv
  obtain⟨E',π',s',q1,q2,q3⟩:=zUd h R hw h1
  obtain⟨E2,π2,s2,r1,r2,r3⟩:=m7 q3 q1.rel q1.wf (h2.mono q1.le)
  exact⟨E2,π2,s2,q1.trans r1,fun E3 π3 a b tl c=>by simp only[VRL];exact⟨_,_,rfl,q2.mono r1.le r1.ext E3 π3 a b tl c,r2 E3 π3 a b tl c⟩,r3⟩
end
mutual
def mX (π:NM):V→V
 | .top=> .top
 | .d d=> .d d
 | .nm n o=>match z6 n π with
   |some m=> .nm m o
   |none=> .top
 | .el n sz i f=>match z6 n π with
   |some m=> .el m sz i f
   |none=> .top
 | .re sz els i f=> .re sz els i f
 | .na _ _ _=> .top
 | .own n=>match z6 n π with
   |some m=> .own m
   |none=> .top
 | .mp n=>match z6 n π with
   |some m=> .mp m
   |none=> .top
 | .sub n i=>match z6 n π with
   |some m=> .sub m i
   |none=> .top
 | .agg l=> .agg (wT π l)
 | .tup l=> .tup (wT π l)
 | .fn f a b=> .fn f (wT π a) (wT π b)
 | .ifc t x=> .ifc t (mX π x)
def wT (π:NM):List V→List V
 |[]=>[]
 |v::l=>mX π v::wT π l
end
def zDn (π:NM):AObj→AObj
 | .cells vs t=> .cells (wT π vs) t
 |o=>o
def eN (unf:Nat→AObj) (π:NM) (nx:Nat):List Nat→List (Nat×AObj)
 |[]=>[]
 |j::js=>(nx+j,zDn π (unf (j+1)))::eN unf π nx js
def qQ (n nx m:Nat):NM:=(0,n)::(List.range (m-1)).map fun j=>(j+1,nx+j)
def zEm (s:St) (n m:Nat) (unf:Nat→AObj):AObj×St:=
 (zDn (qQ n s.nx m) (unf 0),⟨eN unf (qQ n s.nx m) s.nx (List.range (m-1))++s.rows,s.nx+(m-1)⟩)
def St.getg (s:St) (n:Nat):Option AObj:=
 match s.get n with
 |some .gone=>none
 |o=>o
theorem pG {s:St} {n:Nat} {o:AObj} (h:s.getg n=some o):s.get n=some o∧o≠.gone:=by
 unfold St.getg at h
 split at h
 ·cases h
 ·rename_i hne
  exact⟨h,fun e=>hne (e▸h)⟩
def mG (m:Nat):NM→Bool
 |[]=>true
 |(p,_)::l=>bif Nat.blt p m then mG m l else false
theorem fV {m:Nat}:∀{π:NM},mG m π=true→∀p n,z6 p π=some n→p<m
 |[],h,p,n,e=>by cases e
 |(q,r)::l,h,p,n,e=>by
  simp only[mG]at h
  cases hb:Nat.blt q m
  ·rw[hb]at h;cases h
  ·rw[hb]at h
   simp only[z6]at e
   cases hq:Nat.beq q p
   ·rw[hq]at e;exact fV h p n e
   ·have:=yOv hq
    subst this
    simpa[yRt]using hb
def zPt (f:Nat→NM→St→(NM→St→Prop)→Prop):List Nat→NM→St→(NM→St→Prop)→Prop
 |[],π,s,K=>K π s
 |j::js,π,s,K=>f j π s fun π s=>zPt f js π s K
def mtO:AObj→Nat→AObj→NM→St→(NM→St→Prop)→Prop
 | .gone,_,_,π,s,K=>K π s
 | .cells vs t,n,o,π,s,K=>match o with
   | .cells vs' t'=>bif Nat.beq t t' then mtL vs vs' π s K else False
   | .adt T m unf x=>bif Nat.ble 1 m then(match zEm s n m (unf x)with
     |(.cells vs' t',s')=>bif Nat.beq t t' then mtL vs vs' π s' K else False
     |_=>False)else False
   |_=>False
 | .own t sz els,n,o,π,s,K=>match o with
   | .own t' sz' els'=>bif Nat.beq t t' && Nat.beq sz sz' then els=els'∧K π s else False
   | .nilo=>els=[]∧K π s
   |_=>False
 | .vec ds t,n,o,π,s,K=>match o with
   | .cells vs t'=>bif Nat.beq t t' then ds.map V.d=vs∧K π s else False
   |o=>AObj.vec ds t=o∧K π s
 | .map es,n,o,π,s,K=>match o with
   | .map es'=>es=es'∧K π s
   |_=>False
 | .iter b p,n,o,π,s,K=>match o with
   | .iter b' p'=>b=b'∧p=p'∧K π s
   |_=>False
 | .adt T m unf x,n,o,π,s,K=>match o with
   | .cells vs t=>bif Nat.ble 1 m then zPt (fun j π s K=>match z6 j π with
      |some n'=>match(match j with|0=>some (AObj.cells vs t)|_=>s.getg n')with
       |some o'=>mtO (unf x j) n' o' π (match j with|0=>s|_=>s.delF n' o') K
       |none=>False
      |none=>False) (List.range m) [(0,n)] s (fun π' s=>bif mG m π' then K π s else False)else False
   |o=>AObj.adt T m unf x=o∧K π s
 | .fro sz els,n,o,π,s,K=>match o with
   | .own t sz' els'=>bif Nat.beq sz sz' then els=els'∧K π s else False
   |o=>AObj.fro sz els=o∧K π s
 | .objs t T m unf l hole,n,o,π,s,K=>match o with
   | .nilo=>l=[]∧hole=none∧K π s
   |o=>AObj.objs t T m unf l hole=o∧K π s
 |o',n,o,π,s,K=>o'=o∧K π s
def mtR:Nat→List AObj→NM→St→(NM→St→Prop)→Prop
 |_,[],π,s,K=>K π s
 |p,.gone::os,π,s,K=>mtR (p+1) os π s K
 |p,o::os,π,s,K=>match z6 p π with
  |some n=>match s.getg n with
   |some o'=>mtO o n o' π (s.delF n o') fun π s=>mtR (p+1) os π s K
   |none=>False
  |none=>False
open Go Go.RowKit Cv
variable {k:Ko} {L:List HP} {w:World}
def PRow (E:Ev) (π:NM) (n:Nat) (o:AObj):HP:=fun h=>∀E2 π2,E.le E2→Ext π π2→∀tl,Loc π2 E2.tab tl→∃hd,E2.tab[n]? =some hd∧rowHP E2.F o tl hd h
theorem PRow.mono {E E':Ev} {π π':NM} (hle:E.le E') (hx:Ext π π') {n:Nat} {o:AObj} {h:PH} (e:PRow E π n o h):PRow E' π' n o h:=fun E2 π2 a b tl c=>e E2 π2 (hle.trans a) (hx.trans b) tl c
def zWa:AObj→Bool
 | .cells _ _=>true
 |_=>false
theorem rowHP.tab {F:PH} {o:AObj} (ho:zWa o=false) {tab tab':List Hd} {hd:Hd} {h:PH} (e:rowHP F o tab hd h):rowHP F o tab' hd h:=by
 cases o<;>first|(cases ho;done)|(simp only[rowHP]at e ⊢;exact e)
theorem vE {E:Ev} {π:NM} {n:Nat} {o:AObj} (ho:zWa o=false) (hg:o≠.gone) {h:PH} (e:rHP E (n,o) h):PRow E π n o h:=by
 rcases e with⟨e,_⟩|⟨hd,h1,h2⟩
 ·exact absurd e hg
 ·intro E2 π2 a b tl c
  exact⟨hd,a.get h1,(h2.mono a.1 _ a.2).tab ho⟩
mutual
theorem VR.ren {π:NM} {F:PH} {tl tab:List Hd} (hr:∀p n hd,z6 p π=some n→tl[p]? =some hd→tab[n]? =some hd):∀{v:V} {y:Value},VR ⟨F,tl⟩ v y→VR ⟨F,tab⟩ (mX π v) y
 | .top,y,h=>by simp only[mX,VR]
 | .d d,y,h=>by simpa only[mX,VR]using h
 | .nm n o,y,h=>by
   simp only[mX]
   split
   ·rename_i m hm
    simp only[VR]at h ⊢
    obtain⟨b,oo,l,h1,h2⟩:=h
    exact⟨b,oo,l,hr _ _ _ hm h1,h2⟩
   ·simp only[VR]
 | .el n sz i f,y,h=>by
   simp only[mX]
   split
   ·rename_i m hm
    simp only[VR]at h ⊢
    obtain⟨b,oo,mm,c,l,h1,h2⟩:=h
    exact⟨b,oo,mm,c,l,hr _ _ _ hm h1,h2⟩
   ·simp only[VR]
 | .re sz els i f,y,h=>by simpa only[mX,VR]using h
 | .na n o i,y,h=>by simp only[mX,VR]
 | .own n,y,h=>by
   simp only[mX]
   split
   ·rename_i m hm
    simp only[VR]at h ⊢
    obtain⟨l,h1,h2⟩:=h
    exact⟨l,hr _ _ _ hm h1,h2⟩
   ·simp only[VR]
 | .mp n,y,h=>by
   simp only[mX]
   split
   ·rename_i m hm
    simp only[VR]at h ⊢
    obtain⟨b,l,h1,h2⟩:=h
    exact⟨b,l,hr _ _ _ hm h1,h2⟩
   ·simp only[VR]
 | .sub n i,y,h=>by
   simp only[mX]
   split
   ·rename_i m hm
    simp only[VR]at h ⊢
    obtain⟨hd,l,b,oo,h1,h2⟩:=h
    exact⟨hd,l,b,oo,hr _ _ _ hm h1,h2⟩
   ·simp only[VR]
 | .agg l,y,h=>by
   simp only[mX,VR]at h ⊢
   obtain⟨ys,h1,h2⟩:=h
   exact⟨ys,h1,VRL.ren hr h2⟩
 | .tup l,y,h=>by
   simp only[mX,VR]at h ⊢
   obtain⟨ys,h1,h2⟩:=h
   exact⟨ys,h1,VRL.ren hr h2⟩
 | .fn f a b,y,h=>by
   simp only[mX,VR]at h ⊢
   obtain⟨as,bs,h1,h2,h3⟩:=h
   exact⟨as,bs,h1,VRL.ren hr h2,VRL.ren hr h3⟩
 | .ifc t x,y,h=>by
   simp only[mX,VR]at h ⊢
   obtain⟨z,h1,h2⟩:=h
   exact⟨z,h1,VR.ren hr h2⟩
theorem VRL.ren {π:NM} {F:PH} {tl tab:List Hd} (hr:∀p n hd,z6 p π=some n→tl[p]? =some hd→tab[n]? =some hd):∀{vs:List V} {l:List Value},VRL ⟨F,tl⟩ vs l→VRL ⟨F,tab⟩ (wT π vs) l
 |[],l,h=>by simpa only[wT,VRL]using h
 |v::vs,l,h=>by
  simp only[wT,VRL]at h ⊢
  obtain⟨x,xs,h1,h2,h3⟩:=h
  exact⟨x,xs,h1,VR.ren hr h2,VRL.ren hr h3⟩
end
theorem rowHP.ren {π:NM} {F:PH} {tl tab:List Hd} (hr:∀p n hd,z6 p π=some n→tl[p]? =some hd→tab[n]? =some hd) {o:AObj} {hd:Hd} {h:PH} (e:rowHP F o tl hd h):rowHP F (zDn π o) tab hd h:=by
 cases o<;>simp only[zDn]<;>first|exact e.tab rfl|skip
 simp only[rowHP]at e ⊢
 obtain⟨b,l,h1,h2,h3⟩:=e
 exact⟨b,l,h1,h2.ren hr,h3⟩
theorem zYz {n nx m j:Nat} (hj:j+1<m):z6 (j+1) (qQ n nx m)=some (nx+j):=by
 unfold qQ
 simp only[z6,Nat.beq,cond_false]
 have:∀(a c:Nat),a≤j→j<a+c→z6 (j+1) ((List.range' a c).map fun j=>(j+1,nx+j))=some (nx+j):=by
  intro a c
  induction c generalizing a with
  |zero=>intro h1 h2;omega
  |succ c ih=>
   intro h1 h2
   simp only[List.range'_succ,yPd,z6]
   cases hb:Nat.beq (a+1) (j+1)
   ·have hne:a≠j:=fun e=>by subst e;simp at hb
    exact ih (a+1) (by omega) (by omega)
   ·have:=yOv hb
    have e:a=j:=by omega
    subst e;rfl
 rw[List.range_eq_range']
 exact this 0 (m-1) (by omega) (by omega)
theorem zIr {n nx m p q:Nat} (h:z6 p (qQ n nx m)=some q):(p=0∧q=n)∨∃j,p=j+1∧q=nx+j∧j+1<m:=by
 unfold qQ at h
 simp only[z6]at h
 cases hb:Nat.beq 0 p
 ·rw[hb]at h
  right
  simp only[cond_false]at h
  rw[List.range_eq_range']at h
  have:∀(a c:Nat),z6 p ((List.range' a c).map fun j=>(j+1,nx+j))=some q→∃j,p=j+1∧q=nx+j∧j<a+c:=by
   intro a c
   induction c generalizing a with
   |zero=>intro h;simp[z6]at h
   |succ c ih=>
    intro h
    simp only[List.range'_succ,yPd,z6]at h
    cases hb:Nat.beq (a+1) p
    ·rw[hb]at h
     obtain⟨j,h1,h2,h3⟩:=ih (a+1) h
     exact⟨j,h1,h2,by omega⟩
    ·rw[hb]at h
     simp only[cond_true,Option.some.injEq]at h
     exact⟨a,(yOv hb).symm,h.symm,by omega⟩
  obtain⟨j,h1,h2,h3⟩:=this 0 (m-1) h
  exact⟨j,h1,h2,by omega⟩
 ·rw[hb]at h
  left
  simp only[cond_true,Option.some.injEq]at h
  exact⟨(yOv hb).symm,h.symm⟩
theorem Rel.unfold {E:Ev} {s:St} {n m:Nat} {T:Type} {unf:T→Nat→AObj} {x:T} (R:Rel k (rHP E (n,.adt T m unf x)::L) E s w) (hm:1≤m):
 ∃E',E.le E'∧Rel k (rHP E' (n,(zEm s n m (unf x)).1)::L) E' (zEm s n m (unf x)).2 w:=by
 have H:=R.out
 obtain⟨hd,tab1,h1,h2,h3,H⟩:∃hd tab1,E.tab[n]? =some hd∧tab1[0]? =some hd∧tab1.length=m∧
  Hp k w (hS ((List.range m).map fun j=>fun h=>∃hd',tab1[j]? =some hd'∧rowHP E.F (unf x j) tab1 hd' h)::(s.rows.map (rHP E)++fz E.F::L)):=by
  obtain⟨hk,hs,hh⟩:=H
  cases hh with
  |cons ha hsub hdj hr=>
   rcases ha with⟨e,_⟩|⟨hd,q1,q2⟩
   ·cases e
   ·simp only[rowHP]at q2
    obtain⟨tab1,q3,q4,q5⟩:=q2
    exact⟨hd,tab1,q1,q3,q4,hk,_,.cons q5 hsub hdj hr⟩
 let E':Ev:=⟨E.F,E.tab++tab1.drop 1⟩
 have hle:E.le E':=⟨FLe.refl _,ySi _ _⟩
 have hren:∀p q hd',z6 p (qQ n s.nx m)=some q→tab1[p]? =some hd'→E'.tab[q]? =some hd':=by
  intro p q hd' hp ht
  rcases zIr hp with⟨rfl,rfl⟩|⟨j,rfl,rfl,hj⟩
  ·rw[h2]at ht;cases ht
   exact hle.get h1
  ·show(E.tab++tab1.drop 1)[s.nx+j]? =some hd'
   rw[← R.nx,yQv (by omega),yRo]
   rw[show E.tab.length+j-E.tab.length=j by omega,yTn]
   exact ht
 have H2:=(hp_star.1 H)
 have hrange:List.range m=0::(List.range (m-1)).map (·+1):=by
  have:m=(m-1)+1:=by omega
  rw[this,List.range_succ_eq_map]
  simp
 rw[hrange]at H2
 simp only[yPd,yRe,yQe]at H2
 refine⟨E',hle,Rel.inn (by show(E.tab++tab1.drop 1).length=s.nx+(m-1);rw[yOw,yPq,R.nx,h3]) ?_⟩
 have hrows:∀l:List Nat,(∀j∈l,j+1<m)→(eN (unf x) (qQ n s.nx m) s.nx l)=l.map fun j=>(s.nx+j,zDn (qQ n s.nx m) (unf x (j+1))):=by
  intro l
  induction l with
  |nil=>intro _;rfl
  |cons j l ih=>intro h;simp only[eN,yPd];rw[ih fun j hj=>h j (yOz _ hj)]
 have hr2:=hrows (List.range (m-1)) (fun j hj=>by have:=yRx.1 hj;omega)
 show Hp k w (rHP E' (n,zDn (qQ n s.nx m) (unf x 0))::((eN (unf x) (qQ n s.nx m) s.nx (List.range (m-1))++s.rows).map (rHP E')++fz E.F::L))
 rw[hr2,yPc,yRe,yPb]
 have H3:Hp k w ((List.range (m-1)).map ((fun j=>fun h=>∃hd',tab1[j]? =some hd'∧rowHP E.F (unf x j) tab1 hd' h)∘(·+1))++((fun h=>∃hd',tab1[0]? =some hd'∧rowHP E.F (unf x 0) tab1 hd' h)::(s.rows.map (rHP E)++fz E.F::L))):=H2.perm yPg.symm
 have H4:=jC (g:=(rHP E')∘fun j=>(s.nx+j,zDn (qQ n s.nx m) (unf x (j+1)))) (fun j y hy=>by
  obtain⟨hd',e1,e2⟩:=hy
  right
  have hj:j+1<m:=by
   have:=(yOt.1 e1).1
   simp only at this;omega
  exact⟨hd',hren _ _ _ (zYz hj) e1,e2.ren hren⟩) H3
 have H5:=H4.perm yPg
 have H6:=H5.imp (B:=rHP E' (n,zDn (qQ n s.nx m) (unf x 0))) (fun y hy=>by
  obtain⟨hd',e1,e2⟩:=hy
  right
  rw[h2]at e1;cases e1
  exact⟨hd,hle.get h1,e2.ren hren⟩)
 have H7:Hp k w (s.rows.map (rHP E)++(rHP E' (n,zDn (qQ n s.nx m) (unf x 0))::((List.range (m-1)).map ((rHP E')∘fun j=>(s.nx+j,zDn (qQ n s.nx m) (unf x (j+1))))++fz E.F::L))):=by
  refine H6.perm ?_
  refine List.Perm.trans ?_ yPg.symm
  refine .cons _ ?_
  rw[← yPb,← yPb]
  exact yQo.append_right _
 have H8:=jC (fun r y=>rHP.mono hle r) H7
 refine H8.perm ?_
 refine yPg.trans (.cons _ ?_)
 rw[← yPb,← yPb]
 exact yQo.append_right _
theorem zYt {n p q:Nat} (h:z6 p [(0,n)]=some q):p=0∧q=n:=by
 simp only[z6]at h
 cases hb:Nat.beq 0 p
 ·rw[hb]at h;cases h
 ·rw[hb]at h
  simp only[cond_true,Option.some.injEq]at h
  exact⟨(yOv hb).symm,h.symm⟩
def yDc (o':AObj):Prop:=∀{k:Ko} {L:List HP} {w:World} {n:Nat} {o:AObj} {π:NM} {s:St} {K:NM→St→Prop} {E:Ev},mtO o' n o π s K→Rel k (rHP E (n,o)::L) E s w→WfM π E.tab→o≠.gone→
 ∃E' π' s',MtOk k (PRow E' π' n o'::L) w E π E' π' s'∧K π' s'
def PJ (g:Nat→AObj) (E:Ev) (π:NM) (j:Nat):HP:=fun h=>∃n,z6 j π=some n∧PRow E π n (g j) h
theorem PJ.mono {g:Nat→AObj} {E E':Ev} {π π':NM} (hle:E.le E') (hx:Ext π π') {j:Nat} {h:PH} (e:PJ g E π j h):PJ g E' π' j h:=by
 obtain⟨n,h1,h2⟩:=e
 exact⟨n,hx _ _ h1,h2.mono hle hx⟩
theorem Rel.mapL {α:Type} {f g:α→HP} (h:∀a x,f a x→g a x) {l:List α} {E:Ev} {s:St} (R:Rel k (l.map f++L) E s w):Rel k (l.map g++L) E s w:=by
 refine⟨R.nx,?_⟩
 have H:Hp k w (l.map f++(s.rows.map (rHP E)++fz E.F::L)):=by
  refine R.hp.perm ?_
  rw[show s.rows.map (rHP E)++fz E.F::(l.map f++L)=(s.rows.map (rHP E)++[fz E.F])++(l.map f++L)by simp,← yPb,show l.map f++(s.rows.map (rHP E)++fz E.F::L)=(l.map f++(s.rows.map (rHP E)++[fz E.F]))++L by simp]
  exact yQo.append_right _
 have H2:=jC h H
 refine H2.perm ?_
 rw[show s.rows.map (rHP E)++fz E.F::(l.map g++L)=((s.rows.map (rHP E)++[fz E.F])++l.map g)++L by simp,show l.map g++(s.rows.map (rHP E)++fz E.F::L)=(l.map g++(s.rows.map (rHP E)++[fz E.F]))++L by simp]
 exact yQo.append_right _
theorem Rel.frontL {E:Ev} {s:St} {A:List HP} (R:Rel k (A++L) E s w):Hp k w (A++(s.rows.map (rHP E)++fz E.F::L)):=by
 refine R.hp.perm ?_
 rw[show s.rows.map (rHP E)++fz E.F::(A++L)=(s.rows.map (rHP E)++[fz E.F])++(A++L)by simp,← yPb,show A++(s.rows.map (rHP E)++fz E.F::L)=(A++(s.rows.map (rHP E)++[fz E.F]))++L by simp]
 exact yQo.append_right _
theorem zPj {g:Nat→AObj} (hg:∀j,yDc (g j)) {c:Option AObj}:∀{js:List Nat} {done:List Nat} {π:NM} {s:St} {K:NM→St→Prop} {E:Ev},(0∉js)→
 zPt (fun j π s K=>match z6 j π with
  |some n'=>match(match j with|0=>c|_=>s.getg n')with
   |some o'=>mtO (g j) n' o' π (match j with|0=>s|_=>s.delF n' o') K
   |none=>False
  |none=>False) js π s K→Rel k (done.map (PJ g E π)++L) E s w→WfM π E.tab→
 ∃E' π' s',MtOk k ((js.reverse++done).map (PJ g E' π')++L) w E π E' π' s'∧K π' s'
 |[],done,π,s,K,E,h0,h,R,hw=>⟨E,π,s,⟨Ev.le.refl _,Ext.refl _,hw,by simpa using R⟩,h⟩
 |j::js,done,π,s,K,E,h0,h,R,hw=>by
  simp only[zPt]at h
  split at h<;>first|exact h.elim|skip
  rename_i n' hn'
  cases j with
  |zero=>exact absurd yOx h0
  |succ j=>
   simp only at h
   split at h<;>first|exact h.elim|skip
   rename_i o' ho'
   obtain⟨ho',hgone⟩:=pG ho'
   ·have R1:=R.takeF ho'
    obtain⟨E1,π1,s1,q1,q2⟩:=hg (j+1) h R1 hw hgone
    have R2:Rel k (((j+1)::done).map (PJ g E1 π1)++L) E1 s1 w:=by
     have R3:=q1.rel.impL (B:=PJ g E1 π1 (j+1)) fun x hx=>⟨n',q1.ext _ _ hn',hx⟩
     have R4:Rel k (done.map (PJ g E π)++(PJ g E1 π1 (j+1)::L)) E1 s1 w:=⟨R3.nx,R3.hp.perm (by
      refine List.Perm.append_left _ (.cons _ ?_)
      exact yPg.symm)⟩
     have R5:=R4.mapL (g:=PJ g E1 π1) fun a x hx=>hx.mono q1.le q1.ext
     exact⟨R5.nx,R5.hp.perm (by
      refine List.Perm.append_left _ (.cons _ ?_)
      exact yPg)⟩
    obtain⟨E2,π2,s2,r1,r2⟩:=zPj hg (fun hm=>h0 (yOz _ hm)) q2 R2 q1.wf
    refine⟨E2,π2,s2,⟨q1.le.trans r1.le,q1.ext.trans r1.ext,r1.wf,?_⟩,r2⟩
    have:=r1.rel
    simpa using this
theorem z3c {E:Ev}:∀{ds:List D} {l:List Value},VRL E (ds.map V.d) l→DRL E.F ds l
 |[],l,h=>by simpa only[ySc,VRL,DRL]using h
 |d::ds,l,h=>by
  simp only[yPd,VRL,VR]at h
  obtain⟨x,xs,h1,h2,h3⟩:=h
  simp only[DRL]
  exact⟨x,xs,h1,h2,z3c h3⟩
theorem yHg:∀o',yDc o':=by
 intro o'
 induction o' with
 |gone=>
  intro k L w n o π s K E h R hw hg
  simp only[mtO]at h
  have H:=R.out
  refine⟨E,π,s,⟨Ev.le.refl _,Ext.refl _,hw,?_⟩,h⟩
  obtain⟨hd,x,q1,_,_⟩:∃hd x,E.tab[n]? =some hd∧rowHP E.F o E.tab hd x∧Sub x w:=by
   obtain⟨x,hx,hs⟩:=H.sat
   rcases hx with⟨e,_⟩|⟨hd,h1,h2⟩
   ·exact absurd e hg
   ·exact⟨hd,x,h1,h2,hs⟩
  refine Rel.inn R.nx (((@wE k w True _).2 ⟨trivial,H.drop⟩).imp fun x hx=> ?_)
  intro E2 π2 a b tl c
  exact⟨hd,a.get q1,by simp only[rowHP];exact hx.2⟩
 |nilo=>
  intro k L w n o π s K E h R hw hg
  simp only[mtO]at h
  obtain⟨rfl,h⟩:=h
  exact⟨E,π,s,⟨Ev.le.refl _,Ext.refl _,hw,R.impL fun x hx=>vE rfl (by simp) hx⟩,h⟩
 |fro sz els=>
  intro k L w n o π s K E h R hw hg
  simp only[mtO]at h
  split at h
  ·rename_i t sz' els'
   obtain⟨hb,e9,hK⟩:=zN h
   subst e9
   have e:=yOv hb
   subst e
   have H:Hp k w (rHP E (n,.own t sz els)::fz E.F::(s.rows.map (rHP E)++L)):=R.out.cons yPg
   obtain⟨x,hx,hd,hsub,H⟩:=zMr H
   rcases hx with⟨e,_⟩|⟨hv,h1,h2⟩
   ·cases e
   simp only[rowHP]at h2
   obtain⟨a,c,xs,h3,h4,h5,h6⟩:=h2
   have hle:E.le ⟨un x E.F,E.tab⟩:=⟨zVg hd,ySt _⟩
   have hdr:DR (un x E.F) (.ro sz els) hv.1:=by
    simp only[DR]
    refine⟨a,c,h3,(zDw h6).2,h5,?_⟩
    rcases h6 with⟨rfl,q2,rfl,rfl,rfl⟩|⟨b,r,rfl,rfl,q3,q4,q5⟩
    ·exact .inl (yPo q2)
    ·refine .inr ⟨b,0,xs++r,t,(0,0),rfl,?_,DRS_iff.2 ⟨xs,r,rfl,h4.mono hle.1⟩⟩
     simp[un,one]
   have H1:Hp k w (s.rows.map (rHP E)++fz (un x E.F)::L):=H.perm yPg.symm
   have H2:=jC (fun r x=>rHP.mono hle r) H1
   have H3:=z6r H2
   refine⟨⟨un x E.F,E.tab⟩,π,s,⟨hle,Ext.refl _,hw,Rel.inn R.nx (H3.imp fun y hy=> ?_)⟩,hK⟩
   intro E2 π2 a1 b1 tl c1
   refine⟨hv,a1.get h1,?_⟩
   simp only[rowHP]
   exact⟨hy,hdr.mono a1.1⟩
  ·obtain⟨rfl,h⟩:=h
   exact⟨E,π,s,⟨Ev.le.refl _,Ext.refl _,hw,R.impL fun x hx=>vE rfl (by simp) hx⟩,h⟩
 |objs t T m unf l hole ih=>
  intro k L w n o π s K E h R hw hg
  simp only[mtO]at h
  split at h
  ·obtain⟨rfl,rfl,h⟩:=h
   refine⟨E,π,s,⟨Ev.le.refl _,Ext.refl _,hw,R.impL fun x hx=>vE (o:= .objs t T m unf [] none) rfl (by simp) ?_⟩,h⟩
   rcases hx with⟨e,_⟩|⟨hd,h1,h2⟩
   ·cases e
   ·simp only[rowHP]at h2
    obtain⟨rfl,e1,e2⟩:=h2
    refine .inr ⟨hd,h1,rowHP_objs.2 ⟨none,0,e1,by rw[e2];rfl,fun p hp=>(by rw[e2]at hp;exact(nomatch hp)),pe,pe,by rw[e2];exact zVu t 1,rfl,?_,?_⟩⟩
    ·intro b;exact .inl rfl
    ·funext b;rfl
  ·obtain⟨rfl,h⟩:=h
   exact⟨E,π,s,⟨Ev.le.refl _,Ext.refl _,hw,R.impL fun x hx=>vE rfl (by simp) hx⟩,h⟩
 |vec ds t=>
  intro k L w n o π s K E h R hw hg
  simp only[mtO]at h
  split at h
  ·obtain⟨hb,e9,hK⟩:=zN h
   subst e9
   have e:=yOv hb
   subst e
   refine⟨E,π,s,⟨Ev.le.refl _,Ext.refl _,hw,R.impL fun x hx=>vE (o:= .vec ds t) rfl (by simp) ?_⟩,hK⟩
   rcases hx with⟨e,_⟩|⟨hd,h1,h2⟩
   ·cases e
   ·simp only[rowHP]at h2
    obtain⟨b,l,e1,e2,e3⟩:=h2
    refine .inr ⟨hd,h1,?_⟩
    simp only[rowHP]
    exact⟨b,l,e1,z3c e2,e3⟩
  ·obtain⟨rfl,h⟩:=h
   exact⟨E,π,s,⟨Ev.le.refl _,Ext.refl _,hw,R.impL fun x hx=>vE rfl (by simp) hx⟩,h⟩
 |map es=>
  intro k L w n o π s K E h R hw hg
  simp only[mtO]at h
  split at h<;>first|exact h.elim|skip
  obtain⟨rfl,h⟩:=h
  exact⟨E,π,s,⟨Ev.le.refl _,Ext.refl _,hw,R.impL fun x hx=>vE rfl (by simp) hx⟩,h⟩
 |mapS es kv x=>
  intro k L w n o π s K E h R hw hg
  simp only[mtO]at h
  obtain⟨rfl,h⟩:=h
  exact⟨E,π,s,⟨Ev.le.refl _,Ext.refl _,hw,R.impL fun x hx=>vE rfl (by simp) hx⟩,h⟩
 |mrk t els=>
  intro k L w n o π s K E h R hw hg
  simp only[mtO]at h
  obtain⟨rfl,h⟩:=h
  exact⟨E,π,s,⟨Ev.le.refl _,Ext.refl _,hw,R.impL fun x hx=>vE rfl (by simp) hx⟩,h⟩
 |iter b p=>
  intro k L w n o π s K E h R hw hg
  simp only[mtO]at h
  split at h<;>first|exact h.elim|skip
  obtain⟨rfl,rfl,h⟩:=h
  exact⟨E,π,s,⟨Ev.le.refl _,Ext.refl _,hw,R.impL fun x hx=>vE rfl (by simp) hx⟩,h⟩
 |own t sz els=>
  intro k L w n o π s K E h R hw hg
  simp only[mtO]at h
  split at h<;>first|exact h.elim|skip
  ·obtain⟨hb,rfl,hk⟩:=zN h
   simp only[yPh]at hb
   have e1:=yOv hb.1
   have e2:=yOv hb.2
   subst e1 e2
   exact⟨E,π,s,⟨Ev.le.refl _,Ext.refl _,hw,R.impL fun x hx=>vE rfl (by simp) hx⟩,hk⟩
  ·obtain⟨rfl,h⟩:=h
   refine⟨E,π,s,⟨Ev.le.refl _,Ext.refl _,hw,R.impL fun x hx=> ?_⟩,h⟩
   rcases hx with⟨e,_⟩|⟨hd,h1,h2⟩
   ·cases e
   ·intro E2 π2 a b tl c
    simp only[rowHP]at h2
    refine⟨hd,a.get h1,?_⟩
    simp only[rowHP]
    exact⟨none,0,[],h2.2.1,by simp[DRL],by simp,.inl ⟨rfl,rfl,rfl,rfl,h2.1⟩⟩
 |cells vs t=>
  intro k L w n o π s K E h R hw hg
  have key:∀{E:Ev} {s:St} {vs':List V} {π:NM},Rel k (rHP E (n,.cells vs' t)::L) E s w→WfM π E.tab→mtL vs vs' π s K→∃E' π' s',MtOk k (PRow E' π' n (.cells vs t)::L) w E π E' π' s'∧K π' s':=by
   intro E s vs' π R hw h
   have H:=R.out
   obtain⟨b,l,sub,h1,h2,H⟩:∃b l sub,E.tab[n]? =some (.pointer (some ⟨b,0,none⟩),sub)∧VRL E vs' l∧Hp k w (pt b (.cells l.toArray t)::(s.rows.map (rHP E)++fz E.F::L)):=by
    obtain⟨hk,hs,hh⟩:=H
    cases hh with
    |cons ha hsub hdj hr=>
     rcases ha with⟨e,_⟩|⟨⟨hv,sub⟩,q1,q2⟩
     ·cases e
     ·simp only[rowHP]at q2
      obtain⟨b,l,rfl,q3,rfl⟩:=q2
      exact⟨b,l,sub,q1,q3,hk,_,.cons rfl hsub hdj hr⟩
   have R1:Rel k (pt b (.cells l.toArray t)::L) E s w:=Rel.inn R.nx H
   obtain⟨E',π',s',q1,q2,q3⟩:=m7 h R1 hw h2
   refine⟨E',π',s',⟨q1.le,q1.ext,q1.wf,q1.rel.impL fun x hx=> ?_⟩,q3⟩
   intro E2 π2 a b' tl c
   refine⟨_,a.get (q1.le.get h1),?_⟩
   simp only[rowHP]
   exact⟨b,l,rfl,q2 E2 π2 a b' tl c,hx⟩
  simp only[mtO]at h
  split at h<;>first|exact h.elim|skip
  ·obtain⟨hb,hk⟩:=zN h
   have e:=yOv hb
   subst e
   exact key R hw hk
  ·rename_i T m unf x
   obtain⟨hb,h⟩:=zN h
   obtain⟨E1,q1,q2⟩:=R.unfold (yQy hb)
   revert q2 h
   generalize zEm s n m (unf x)=u
   obtain⟨u1,u2⟩:=u
   intro h q2
   simp only at h q2
   split at h<;>first|exact h.elim|skip
   rename_i vs' t' s' heq
   cases heq
   obtain⟨hb,hk⟩:=zN h
   have e:=yOv hb
   subst e
   obtain⟨E',π',s2,r1,r2⟩:=key q2 (hw.mono q1) hk
   exact⟨E',π',s2,⟨q1.trans r1.le,r1.ext,r1.wf,r1.rel⟩,r2⟩
 |adt T m unf x ih=>
  intro k L w n o π s K E h R hw hg
  unfold mtO at h
  split at h
  ·rename_i vs t
   obtain⟨hb,h⟩:=zN h
   have hm:=yQy hb
   have hrange:List.range m=0::(List.range (m-1)).map (·+1):=by
    have:m=(m-1)+1:=by omega
    rw[this,List.range_succ_eq_map]
    simp
   obtain⟨hd,hd1⟩:∃hd,E.tab[n]? =some hd:=by
    obtain⟨x,hx,_⟩:=R.out.sat
    rcases hx with⟨e,_⟩|⟨hd,h1,_⟩
    ·cases e
    ·exact⟨hd,h1⟩
   have hw0:WfM [(0,n)] E.tab:=fun p q e=>by
    obtain⟨_,rfl⟩:=zYt e
    exact⟨hd,hd1⟩
   rw[hrange]at h
   simp only[zPt]at h
   have hpl:z6 0 [(0,n)]=some n:=rfl
   rw[hpl]at h
   simp only at h
   obtain⟨E1,π1,s1,q1,q2⟩:=ih x 0 h R hw0 (by simp)
   have R2:Rel k ([0].map (PJ (unf x) E1 π1)++L) E1 s1 w:=q1.rel.impL fun y hy=>⟨n,q1.ext _ _ hpl,hy⟩
   obtain⟨E2,π2,s2,r1,r2⟩:=zPj (fun j=>ih x j) (c:=some (AObj.cells vs t)) (by simp) q2 R2 q1.wf
   have hle:=q1.le.trans r1.le
   obtain⟨hlt,r2⟩:=zN r2
   refine⟨E2,π,s2,⟨hle,Ext.refl _,hw.mono hle,?_⟩,r2⟩
   have H:=r1.rel.frontL
   have H2:Hp k w ((List.range m).map (PJ (unf x) E2 π2)++(s2.rows.map (rHP E2)++fz E2.F::L)):=by
    refine H.perm (List.Perm.append_right _ (List.Perm.map _ ?_))
    rw[hrange]
    refine(List.reverse_perm _).append_right _|>.trans ?_
    exact yQo
   refine Rel.inn r1.rel.nx ((hp_star.2 H2).imp fun y hy=> ?_)
   intro E3 π3 a b tl c
   have hall:∀j,j<m→∃n,z6 j π2=some n:=by
    intro j hj
    have hs:∀{l:List HP} {y:PH},hS l y→∀A∈l,∃z,A z:=by
     intro l
     induction l with
     |nil=>intro y _ A hA;cases hA
     |cons B l ih=>
      intro y hy A hA
      cases l with
      |nil=>rcases yQr.1 hA with rfl;exact⟨y,hy⟩
      |cons C l=>
       obtain⟨g,g',h1,h2,_,_⟩:=hy
       rcases yPk.1 hA with rfl|hA
       ·exact⟨g,h1⟩
       ·exact ih h2 A hA
    obtain⟨z,n,hz,_⟩:=hs hy (PJ (unf x) E2 π2 j) (yQk.2 ⟨j,yRx.2 hj,rfl⟩)
    exact⟨n,hz⟩
   let tab1:List Hd:=(List.range m).map fun j=>(E3.tab[(z6 j π2).getD 0]?).getD (undef,[])
   have htab:∀j n,j<m→z6 j π2=some n→∃hd,E3.tab[n]? =some hd∧tab1[j]? =some hd:=by
    intro j n hj hn
    obtain⟨hd,h'⟩:=r1.wf j n hn
    refine⟨hd,a.get h',?_⟩
    show((List.range m).map _)[j]? =_
    rw[yQg,ySn hj]
    simp only[yQp,hn,yQt,a.get h']
   have hloc:Loc π2 E3.tab tab1:=fun p q e=>htab p q (fV hlt p q e) e
   refine⟨hd,a.get (hle.get hd1),?_⟩
   simp only[rowHP]
   refine⟨tab1,?_,by simp[tab1],?_⟩
   ·have h0:z6 0 π2=some n:=r1.ext _ _ (q1.ext _ _ hpl)
    obtain⟨hd',e1,e2⟩:=htab 0 n (by omega) h0
    rw[a.get (hle.get hd1)]at e1;cases e1
    exact e2
   ·refine sZ ?_ hy
    rintro j z ⟨nj,hj,hz⟩
    obtain⟨hd',e1,e2⟩:=hz E3 π2 a (Ext.refl _) tab1 hloc
    obtain⟨hd2,e3,e4⟩:=hloc j nj hj
    rw[e1]at e3;cases e3
    exact⟨hd',e4,e2⟩
  ·obtain⟨rfl,h⟩:=h
   exact⟨E,π,s,⟨Ev.le.refl _,Ext.refl _,hw,R.impL fun x hx=>vE rfl (by simp) hx⟩,h⟩
open Go Go.RowKit Cv
variable {k:Ko} {L:List HP} {w:World}
def vK:Nat→List AObj→List (Nat×AObj)
 |_,[]=>[]
 |p,o::os=>(p,o)::vK (p+1) os
def PQ (E:Ev) (π:NM) (r:Nat×AObj):HP:=fun h=>(r.2= .gone∧h=pe)∨∃n,z6 r.1 π=some n∧PRow E π n r.2 h
theorem PQ.mono {E E':Ev} {π π':NM} (hle:E.le E') (hx:Ext π π') (r:Nat×AObj) {h:PH} (e:PQ E π r h):PQ E' π' r h:=by
 rcases e with e|⟨n,h1,h2⟩
 ·exact .inl e
 ·exact .inr ⟨n,hx _ _ h1,h2.mono hle hx⟩
theorem zMi:∀{os:List AObj} {p:Nat} {π:NM} {s:St} {K:NM→St→Prop} {E:Ev} {L:List HP},mtR p os π s K→Rel k L E s w→WfM π E.tab→
 ∃E' π' s',MtOk k ((vK p os).map (PQ E' π')++L) w E π E' π' s'∧K π' s'
 |[],p,π,s,K,E,L,h,R,hw=>⟨E,π,s,⟨Ev.le.refl _,Ext.refl _,hw,R⟩,h⟩
 |o::os,p,π,s,K,E,L,h,R,hw=>by
  have fin:∀{E1:Ev} {π1:NM} {s1:St},MtOk k (PQ E1 π1 (p,o)::L) w E π E1 π1 s1→mtR (p+1) os π1 s1 K→∃E' π' s',MtOk k ((vK p (o::os)).map (PQ E' π')++L) w E π E' π' s'∧K π' s':=by
   intro E1 π1 s1 q1 q2
   obtain⟨E2,π2,s2,r1,r2⟩:=zMi q2 q1.rel q1.wf
   refine⟨E2,π2,s2,⟨q1.le.trans r1.le,q1.ext.trans r1.ext,r1.wf,?_⟩,r2⟩
   have R3:=r1.rel
   have R4:Rel k (PQ E1 π1 (p,o)::((vK (p+1) os).map (PQ E2 π2)++L)) E2 s2 w:=⟨R3.nx,R3.hp.perm (by
    refine List.Perm.append_left _ (.cons _ ?_)
    exact yPg)⟩
   exact R4.impL fun x hx=>hx.mono r1.le r1.ext
  cases o with
  |gone=>
   simp only[mtR]at h
   refine fin ⟨Ev.le.refl _,Ext.refl _,hw,?_⟩ h
   exact Rel.inn R.nx (((@wE k w True _).2 ⟨trivial,R.hp⟩).imp fun x hx=> .inl ⟨rfl,hx.2⟩)
  |_=>
   simp only[mtR]at h
   split at h<;>first|exact h.elim|skip
   rename_i n hn
   split at h<;>first|exact h.elim|skip
   rename_i o' ho'
   obtain⟨ho',hg⟩:=pG ho'
   obtain⟨E1,π1,s1,q1,q2⟩:=yHg _ h (R.takeF ho') hw hg
   exact fin ⟨q1.le,q1.ext,q1.wf,q1.rel.impL fun x hx=> .inr ⟨n,q1.ext _ _ hn,hx⟩⟩ q2
structure Alt where
 o:Type
 res:o→V
 post:o→List AObj
 rel:o→Prop
structure Con where
 ι:Type
 pat:ι→List V
 pre:ι→List AObj
 cnd:ι→Prop
 alts:ι→List Alt
def dO (m nx:Nat):Nat→NM→NM
 |0,π=>π
 |q+1,π=>dO m nx q ((m+q,nx+q)::π)
def x3 (π:NM):Nat→List AObj→List (Nat×AObj)
 |_,[]=>[]
 |p,.gone::os=>x3 π (p+1) os
 |p,o::os=>match z6 p π with
  |some n=>(n,zDn π o)::x3 π (p+1) os
  |none=>x3 π (p+1) os
def yEr (m:Nat) (π:NM) (s:St) (os:List AObj):St:=⟨x3 (dO m s.nx (os.length-m) π) 0 os++s.rows,s.nx+(os.length-m)⟩
def yHf (m:Nat) (π:NM) (s:St) (K:V→St→Prop) (a:Alt):Prop:=
 ∀o,a.rel o→bif Nat.ble m (a.post o).length then K (mX (dO m s.nx ((a.post o).length-m) π) (a.res o)) (yEr m π s (a.post o))else False
def z8m (m:Nat) (π:NM) (s:St) (K:V→St→Prop):List Alt→Prop
 |[]=>True
 |[a]=>yHf m π s K a
 |a::l=>yHf m π s K a∧z8m m π s K l
theorem zKu {m:Nat} {π:NM} {s:St} {K:V→St→Prop}:∀{l:List Alt},z8m m π s K l→∀a∈l,yHf m π s K a
 |[],_,a,ha=>by cases ha
 |[b],h,a,ha=>by rcases yQr.1 ha with rfl;exact h
 |b::c::l,h,a,ha=>by
  rcases yPk.1 ha with rfl|ha
  ·exact h.1
  ·exact zKu h.2 a ha
def Con.call (C:Con) (args:List V) (s:St) (K:V→St→Prop):Prop:=
 ∃i:C.ι,mtL (C.pat i) args [] s fun π s=>mtR 0 (C.pre i) π s fun π s=>bif mG (C.pre i).length π then C.cnd i∧z8m (C.pre i).length π s K (C.alts i)else False
def Con.ok (P:Program) (f:FuncId) (C:Con):Prop:=∀i,C.cnd i→∀(k:Ko) (L:List HP) (E:Ev) (w:World) (ys:List Value),Rel k L E ⟨vK 0 (C.pre i),(C.pre i).length⟩ w→VRL E (C.pat i) ys→
 Does P (callFunc f ys.toArray) w fun y w'=>∃a∈C.alts i,∃o,a.rel o∧∃E',E.le E'∧VR E' (a.res o) y∧Rel k L E' ⟨vK 0 (a.post o),(a.post o).length⟩ w'
theorem zKc {m nx:Nat} {p n:Nat}:∀{q:Nat} {π:NM},z6 p (dO m nx q π)=some n→z6 p π=some n∨(m≤p∧n=nx+(p-m))
 |0,π,h=> .inl h
 |q+1,π,h=>by
  simp only[dO]at h
  rcases zKc (q:=q) h with h|h
  ·simp only[z6]at h
   cases hb:Nat.beq (m+q) p
   ·rw[hb]at h;exact .inl h
   ·rw[hb]at h
    have:=yOv hb
    simp only[cond_true,Option.some.injEq]at h
    exact .inr ⟨by omega,by omega⟩
  ·exact .inr h
theorem cI {π:NM} {E E2:Ev} (hF:E.F=E2.F) (hr:∀p n hd,z6 p π=some n→E.tab[p]? =some hd→E2.tab[n]? =some hd) {M:List HP}:∀{os:List AObj} {p:Nat},Hp k w ((vK p os).map (rHP E)++M)→Hp k w ((x3 π p os).map (rHP E2)++M)
 |[],p,H=>H
 |o::os,p,H=>by
  simp only[vK,yPd,yQe]at H
  have drop:Hp k w ((x3 π (p+1) os).map (rHP E2)++M):=cI hF hr H.drop
  have main:∀n,z6 p π=some n→Hp k w (rHP E2 (n,zDn π o)::((x3 π (p+1) os).map (rHP E2)++M)):=by
   intro n hn
   have H1:Hp k w ((vK (p+1) os).map (rHP E)++(rHP E (p,o)::M)):=H.perm yPg.symm
   have H2:=cI hF hr H1
   refine(H2.perm yPg).imp fun x hx=> ?_
   rcases hx with⟨e,e2⟩|⟨hd,h1,h2⟩
   ·left
    simp only at e;subst e
    exact⟨rfl,e2⟩
   ·right
    exact⟨hd,hr _ _ _ hn h1,hF▸h2.ren hr⟩
  cases o with
  |gone=>simpa only[x3]using drop
  |_=>
   simp only[x3]
   split
   ·rename_i n hn;exact main n hn
   ·exact drop
theorem Con.call_sound {P:Program} {f:FuncId} {C:Con} (hC:C.ok P f) {args:List V} {s:St} {K:V→St→Prop} {E:Ev} {ys:List Value} (h:C.call args s K) (R:Rel k L E s w) (hv:VRL E args ys):
 Does P (callFunc f ys.toArray) w (Outc k L E K):=by
 obtain⟨i,h⟩:=h
 have hw0:WfM [] E.tab:=fun p n e=>by cases e
 obtain⟨E1,π1,s1,q1,q2,q3⟩:=m7 h R hw0 hv
 obtain⟨E2,π2,s2,r1,r2⟩:=zMi q3 q1.rel q1.wf
 obtain⟨hlt,hc,ha⟩:=zN r2
 have hlt:=fV hlt
 let m:=(C.pre i).length
 let tl:List Hd:=(List.range m).map fun p=>(E2.tab[(z6 p π2).getD 0]?).getD (undef,[])
 have hloc:Loc π2 E2.tab tl:=by
  intro p n hp
  obtain⟨hd,h'⟩:=r1.wf p n hp
  refine⟨hd,h',?_⟩
  show((List.range m).map _)[p]? =_
  rw[yQg,ySn (hlt p n hp)]
  simp only[yQp,hp,yQt,h']
 have htl:tl.length=m:=by simp[tl]
 have H:=r1.rel.frontL
 have H1:=jC (g:=rHP ⟨E2.F,tl⟩) (fun r x hx=>by
  rcases hx with⟨e1,e2⟩|⟨n,h1,h2⟩
  ·exact .inl ⟨e1,e2⟩
  ·right
   obtain⟨hd,h3,h4⟩:=h2 E2 π2 (Ev.le.refl _) (Ext.refl _) tl hloc
   obtain⟨hd',h5,h6⟩:=hloc _ _ h1
   rw[h3]at h5;cases h5
   exact⟨hd,h6,h4⟩) H
 have R0:Rel k (s2.rows.map (rHP E2)++L) ⟨E2.F,tl⟩ ⟨vK 0 (C.pre i),(C.pre i).length⟩ w:=⟨htl,H1.perm (List.Perm.append_left _ yPg)⟩
 have hv0:VRL ⟨E2.F,tl⟩ (C.pat i) ys:=q2 E2 π2 r1.le r1.ext tl hloc
 refine(hC i hc k _ _ w ys R0 hv0).mono ?_
 rintro y w' ⟨a,ha',o,hrel,E3,hle,hvr,R3⟩
 obtain⟨hm,hk⟩:=zN (zKu ha a ha' o hrel)
 have hm:=yQy hm
 let q:=(a.post o).length
 have hlen:E3.tab.length=q:=R3.nx
 let E4:Ev:=⟨E3.F,E2.tab++E3.tab.drop m⟩
 have hle4:E2.le E4:=⟨hle.1,ySi _ _⟩
 have hren:∀p n hd,z6 p (dO m s2.nx (q-m) π2)=some n→E3.tab[p]? =some hd→E4.tab[n]? =some hd:=by
  intro p n hd hp ht
  rcases zKc hp with hp|⟨h1,rfl⟩
  ·obtain⟨hd',h5,h6⟩:=hloc _ _ hp
   have:=zMt hle.2 h6
   rw[ht]at this;cases this
   exact hle4.get h5
  ·show(E2.tab++E3.tab.drop m)[s2.nx+(p-m)]? =some hd
   rw[← r1.rel.nx,yQv (by omega),yRo]
   rw[show m+(E2.tab.length+(p-m)-E2.tab.length)=p by omega]
   exact ht
 refine⟨E4,_,_,(q1.le.trans r1.le).trans hle4,?_,hvr.ren (F:=E3.F) hren,hk⟩
 refine⟨by show(E2.tab++E3.tab.drop m).length=s2.nx+(q-m);rw[yOw,yPq,r1.rel.nx,hlen],?_⟩
 have H2:=cI (E:=E3) (E2:=E4) rfl hren R3.hp
 have H3:Hp k w' (s2.rows.map (rHP E2)++((x3 (dO m s2.nx (q-m) π2) 0 (a.post o)).map (rHP E4)++fz E3.F::L)):=by
  refine H2.perm ?_
  rw[← yPb]
  refine List.Perm.trans ?_ (yQo.append_right _)
  rw[yPb]
  exact List.Perm.append_left _ yPg.symm
 have H4:=jC (g:=rHP E4) (fun r x=>rHP.mono hle4 r) H3
 refine H4.perm ?_
 show(s2.rows.map (rHP E4)++((x3 (dO m s2.nx (q-m) π2) 0 (a.post o)).map (rHP E4)++fz E3.F::L)).Perm ((x3 (dO m s2.nx (q-m) π2) 0 (a.post o)++s2.rows).map (rHP E4)++fz E4.F::L)
 rw[← yPb,yPc]
 exact yQo.append_right _
open Go Go.RowKit Cv
variable {P:Program} {k:Ko} {L:List HP}
def kS (P:Program) (ρ:yQ) (op:Op):Nat:=
 match op with
 | .convert s d _=>bif z1x P s && s9 P d then 1 else bif s9 P s && lC P d then 2 else bif z1x P s && lC P d then 2 else 0
 | .indexAddr _ x _=>match sev ρ x with
   | .own _=>1
   |_=>0
 | .slice _ x _ _ _=>match sev ρ x with
   | .own _=>2
   |_=>0
 | .binOp _ _ x _ _=>match sev ρ x with
   | .own _=>1
   |_=>0
 | .call c=>match c.callee with
   | .builtin .len=>match evs ρ c.args.toList with
     |[.own _]=>1
     |[.mp _]=>1
     |_=>0
   | .builtin .cap=>0
   | .builtin .min=>0
   | .builtin .max=>0
   |_=>2
 |op=>zMj P op
def opS (P:Program) (H:Hnd) (o:Oper) (ρ:yQ) (s:St) (K:V→St→Prop):Prop:=
 match kS P ρ o.op with
 |0=>sq P o ρ fun v=>K v s
 |1=>sr P o ρ s fun v=>K v s
 |_=>se P H o ρ s K
theorem z1a {H:Hnd} (hH:HOk P H) {E:Ev} {s:St} {w:World} (R:Rel k L E s w) {ρS:yQ} {ρ:Env} (he:EnvR E ρS ρ) {o:Oper} {K:V→St→Prop} (h:opS P H o ρS s K):Does P (execOp (ev ρ) o) w (Outc k L E K):=by
 unfold opS at h
 split at h
 ·obtain⟨v,y,hk,hv,hf⟩:=zQo he h
  exact qY (hf w) ⟨E,v,s,Ev.le.refl _,R,hv,hk⟩
 ·obtain⟨v,y,hk,hv,hf⟩:=zFf R he h
  exact qY hf ⟨E,v,s,Ev.le.refl _,R,hv,hk⟩
 ·exact zPi hH R he h
def zFc (ops:List Oper) (g:Option (Nat×Bool)) (ρ:yQ) (Y N:yQ→Prop):Prop:=
 match g with
 |none=>Y ρ
 |some (j,want)=>
  match zYr ops j with
  |none=>N ρ
  |some d=>
   match ρ d with
   | .d (.v (.bool c))=>gd c want (Y (nC ρ (some d) (.d (.v (.bool want))))) (N (nC ρ (some d) (.d (.v (.bool !want)))))
   | .tup []=>N ρ
   |_=>False
theorem zZi {ρ:yQ} {d:Nat} {v:V} (h:ρ d=v):nC ρ (some d) v=ρ:=by
 funext i
 simp only[nC]
 cases hb:Nat.beq i d
 ·rfl
 ·have:=yOv hb;subst this;exact h.symm
theorem mR {ops:List Oper} {o:Oper} {a:Act} {E:Ev} {ρS:yQ} (he:EnvR E ρS (yF a)) {Y N:yQ→Prop} (h:zFc ops o.guard ρS Y N):
 if Region.wanted o (yielded ops.toArray a.tmps)then Y ρS else N ρS:=by
 unfold zFc at h
 unfold Region.wanted
 split at h
 ·rename_i hg;rw[hg];exact h
 ·rename_i j want hg
  rw[hg]
  have hy:=lI ops a.tmps j
  split at h
  ·rename_i hd
   rw[hd]at hy
   simp only[hy]
   simpa using h
  ·rename_i d hd
   rw[hd]at hy
   simp only[hy]
   have hv:yF a d=(a.tmps[d]?).getD undef:=by simp[yF,yQi]
   have hed:=he d
   rw[hv]at hed
   split at h<;>first|exact h.elim|skip
   ·rename_i c hc
    rw[hc]at hed
    simp only[VR,DR]at hed
    cases ht:a.tmps[d]? with
    |none=>rw[ht]at hed;exact absurd hed.1 (by simp[undef])
    |some v=>
     rw[ht]at hed
     simp only[yQt]at hed
     rw[hed.1]
     simp only[]
     have hs:∀b,c=b→nC ρS (some d) (.d (.v (.bool b)))=ρS:=fun b hb=>zZi (by rw[hc,hb])
     cases c<;>cases want<;>simp only[gd,Bool.not_true,yTy]at h<;>rw[hs _ rfl]at h<;>simpa using h
   ·rename_i hc
    rw[hc]at hed
    simp only[VR,VRL]at hed
    obtain⟨ys,e1,rfl⟩:=hed
    cases ht:a.tmps[d]? with
    |none=>simpa using h
    |some v=>
     rw[ht]at e1
     simp only[yQt]at e1
     subst e1
     simpa using h
def zQz (P:Program) (H:Hnd) (ops:List Oper):List Oper→yQ→St→(yQ→St→Prop)→Prop
 |[],ρ,s,K=>K ρ s
 |o::rest,ρ,s,K=>zFc ops o.guard ρ (fun ρ=>opS P H o ρ s fun v s'=>zQz P H ops rest (nC ρ o.dst v) s' K) (fun ρ=>zQz P H ops rest (nC ρ o.dst (.tup [])) s K)
theorem sH (E:Ev):VR E (.tup []) undef:=by
 simp only[VR];exact⟨[],rfl,VRL.nil⟩
theorem zDh {H:Hnd} (hH:HOk P H) {ops:List Oper} {n:Nat} {A:Nat→Bool} {e0:Env} {Q:Exit→Act→World→Prop} {E0:Ev} {K:yQ→St→Prop}
 (hQ:∀a w E ρS s,Good n A e0 a→E0.le E→Rel k L E s w→EnvR E ρS (yF a)→K ρS s→Q .normal a w):
 ∀(l:List Oper) (a:Act) (w:World) (E:Ev) (ρS:yQ) (s:St),zCv n A l→Good n A e0 a→E0.le E→Rel k L E s w→EnvR E ρS (yF a)→zQz P H ops l ρS s K→wpList P ops.toArray Q l a w
 |[],a,w,E,ρS,s,_,hg,hle,R,he,h=>hQ a w E ρS s hg hle R he h
 |o::l,a,w,E,ρS,s,hf,hgd,hle,R,he,h=>by
  have hdst:=hf o yOx
  have hf':zCv n A l:=fun o' ho'=>hf o' (yOz _ ho')
  have hg:=mR he h
  have nx:∀{v:Value} {w:World} {E':Ev} {v':V} {s':St},E.le E'→Rel k L E' s' w→VR E' v' v→zQz P H ops l (nC ρS o.dst v') s' K→wpList P ops.toArray Q l (a.put o.dst v) w:=fun{v w E' v' s'} hle' R' hv hh=>
   zDh hH hQ l _ _ E' _ s' hf' (hgd.put hdst v) (hle.trans hle') R' (by rw[hgd.envOf_put hdst];exact(he.mono hle').put _ hv) hh
  unfold wpList
  split
  ·rename_i hw
   rw[yOu hw]at hg
   left
   refine tQ ?_
   have:=z1a hH R he hg
   rw[kJ]at this
   refine this.mono ?_
   rintro v w' ⟨E',v',s',h1,h2,h3,h4⟩
   exact nx h1 h2 h3 h4
  ·rename_i hw
   rw[yOr hw]at hg
   exact nx (Ev.le.refl _) R (sH E) hg
theorem zCz {P:Program} {E:Ev} {t sz i f:Nat} {els:List (List D)} {b o:Nat} {l:List Value} {T:TypeId} {fr:Nat×Nat} {ds:List D} {v:V} (hu:∀el∈els,el.length=sz) (h5:DRS E.F els (l.drop o))
 (hp:zF els i f ds.length=some ds) (hm:mkD P t ds=some v):∃y,VR E v y∧∀w:World,w.heap[b]? =some (.cells l.toArray T fr)→pB P t ⟨b,o+i*sz+f,none⟩ w y:=by
 obtain⟨xs,r,e,hx⟩:=DRS_iff.1 h5
 unfold zF at hp
 split at hp<;>first|(cases hp;done)|skip
 rename_i el hel
 obtain⟨hb,hp⟩:=yS hp
 have hb:=yQy hb
 have hmem:=yPe hel
 have hi:i<els.length:=(yOt.1 hel).1
 rw[hu el hmem]at hb
 have hpart:=(hx.drop (i*sz+f)).take ds.length
 have hfp:=zKp hu hel hb
 rw[hfp,Option.some.inj hp]at hpart
 have hlen:xs.length=els.length*sz:=by rw[hx.length,jF hu]
 have hin:i*sz+sz≤els.length*sz:=by
  have:=yQq sz (show i+1≤els.length by omega)
  rwa [ySh]at this
 have hmemory:(l.drop (o+i*sz+f)).take ds.length=(xs.drop (i*sz+f)).take ds.length:=by
  rw[ySg,← ySb,e,yRj (by omega),yPs (by rw[yPq];omega)]
 unfold mkD at hm
 split at hm
 ·rename_i n hn
  obtain⟨hq,hm⟩:=yS hm
  have:=yOv hq
  cases hm
  refine⟨.agg ((xs.drop (i*sz+f)).take ds.length).toArray,by simp only[VR];exact⟨_,rfl,hpart.vrl⟩,fun w e2=> ?_⟩
  refine zAk hn e2 (by rw[← this];exact hmemory) ?_
  rw[hpart.length,this]
 ·obtain⟨hq,hm⟩:=yS hm
  split at hm<;>first|(cases hm;done)|skip
  rename_i d
  cases hm
  simp only[yOy,yRi,DRL]at hpart hmemory
  obtain⟨y,ys,e4,h4,h5⟩:=hpart
  subst h5
  refine⟨y,by simpa only[VR]using h4,fun w e2=>uU hq e2 ?_⟩
  have:((l.drop (o+i*sz+f)).take 1)[0]? =some y:=by rw[hmemory,e4];rfl
  rw[List.getElem?_take,yOu (by omega),yRo]at this
  simpa using this
def zEc (ρ:yQ) (s:St):Op→Bool
 | .load _ x=>match sev ρ x with
   | .re _ _ _ _=>true
   | .el n _ _ _=>match s.get n with
     |some (.fro _ _)=>true
     |_=>false
   |_=>false
 |_=>false
theorem zZy {E:Ev} {s:St} {w:World} (R:Rel k L E s w) {ρS:yQ} {ρ:Env} (he:EnvR E ρS ρ) {o:Oper} {K:V→Prop} (hst:zEc ρS s o.op=true) (h:sr P o ρS s K):
 ∃v y,K v∧VR E v y∧∀(E':Ev) (s':St) (w':World),E.le E'→Rel k L E' s' w'→(execOp (ev ρ) o).run P w'= .ok (.value y) w':=by
 cases ho:o.op<;>rw[ho]at hst<;>first|(cases hst;done)|skip
 case load t x=>
  simp only[sr,ho]at h
  simp only[zEc]at hst
  have hv:=he.ev x
  split at hst<;>first|(cases hst;done)|skip
  ·rename_i sz els i f hx
   rw[hx]at hv h;simp only[VR]at hv
   simp only at h
   obtain⟨e0,e1,b,oo,l,T,fr,e2,e3,e4⟩:=hv
   obtain⟨ds,hp,h⟩:=cB h
   obtain⟨v,hm,hk⟩:=zK h
   obtain⟨y,hy,hh⟩:=zCz (b:=b) (T:=T) (fr:=fr) e1 e4 hp hm
   refine⟨v,y,hk,hy,fun E' s' w' hle R'=> ?_⟩
   simp only[execOp,ho,e2]
   exact z7 (hh w' (R'.frozen _ _ (hle.1 _ _ e3)))
  ·rename_i n sz i f hx
   rw[hx]at hv h;simp only[VR]at hv
   simp only at h
   split at hst<;>first|(cases hst;done)|skip
   rename_i sz0 els0 hg
   obtain⟨b,oo,m,c,l,e1,e2⟩:=hv
   simp only[sL,hg]at h
   obtain⟨⟨sz',els⟩,hd,h⟩:=zK h
   simp only[aG,hg,Option.some.injEq,Prod.mk.injEq]at hd
   obtain⟨rfl,rfl⟩:=hd
   obtain⟨hb,h⟩:=zN h
   have:=yOv hb
   simp only at this
   subst this
   obtain⟨ds,hp,h⟩:=cB h
   obtain⟨v,hm,hk⟩:=zK h
   obtain⟨hd,x',q1,q2,q3⟩:=R.row hg (by simp)
   rw[e1]at q1;cases q1
   simp only[rowHP,DR]at q2
   obtain⟨_,a,c',q4,q5,q6,q7⟩:=q2
   cases q4
   rcases q7 with rfl|⟨b',o',l',T,fr,q8,q9,q10⟩
   ·simp[zF]at hp
   cases q8
   obtain⟨y,hy,hh⟩:=zCz (b:=b) (T:=T) (fr:=fr) q6 q10 hp hm
   refine⟨v,y,hk,hy,fun E' s' w' hle R'=> ?_⟩
   simp only[execOp,ho,e2]
   exact z7 (hh w' (R'.frozen _ _ (hle.1 _ _ q9)))
def yGy:V→V→Prop
 | .d (.v x),.d (.v y)=>lEq x y
 | .nm n o,.nm n' o'=>bif Nat.beq n n' && Nat.beq o o' then True else False
 | .own n,.own n'=>bif Nat.beq n n' then True else False
 | .mp n,.mp n'=>bif Nat.beq n n' then True else False
 | .el n sz i f,.el n' sz' i' f'=>bif Nat.beq n n' && Nat.beq sz sz' && Nat.beq f f' then i=i' else False
 |_,_=>False
theorem vA {E E':Ev} (hle:E.le E') {v v':V} {y y':Value} (h:yGy v' v) (hy:VR E v y) (hy':VR E' v' y'):y'=y:=by
 unfold yGy at h
 split at h<;>first|exact h.elim|skip
 ·simp only[VR,DR]at hy hy'
  rw[hy.1,hy'.1,z8o h]
 ·obtain⟨hb,_⟩:=zN h
  simp only[yPh]at hb
  have e1:=yOv hb.1
  have e2:=yOv hb.2
  subst e1 e2
  simp only[VR]at hy hy'
  obtain⟨b,oo,l,h1,rfl⟩:=hy
  obtain⟨b',oo',l',h1',rfl⟩:=hy'
  rw[hle.get h1]at h1';cases h1';rfl
 ·obtain⟨hb,_⟩:=zN h
  have e1:=yOv hb
  subst e1
  simp only[VR]at hy hy'
  obtain⟨l,h1,_⟩:=hy
  obtain⟨l',h1',_⟩:=hy'
  rw[hle.get h1]at h1';cases h1';rfl
 ·obtain⟨hb,_⟩:=zN h
  have e1:=yOv hb
  subst e1
  simp only[VR]at hy hy'
  obtain⟨b,l,h1,_⟩:=hy
  obtain⟨b',l',h1',_⟩:=hy'
  rw[hle.get h1]at h1';cases h1';rfl
 ·obtain⟨hb,rfl⟩:=zN h
  simp only[yPh]at hb
  have e1:=yOv hb.1.1
  have e2:=yOv hb.1.2
  have e3:=yOv hb.2
  subst e1 e2 e3
  simp only[VR]at hy hy'
  obtain⟨b,oo,m,c,l,h1,rfl⟩:=hy
  obtain⟨b',oo',m',c',l',h1',rfl⟩:=hy'
  rw[hle.get h1]at h1';cases h1';rfl
mutual
def vEq:V→V→Prop
 | .agg l,v=>match v with
   | .agg l'=>z0v l l'
   |_=>False
 | .tup l,v=>match v with
   | .tup l'=>z0v l l'
   |_=>False
 |u,v=>yGy u v
def z0v:List V→List V→Prop
 |[],l=>match l with
  |[]=>True
  |_=>False
 |u::us,l=>match l with
  |v::vs=>vEq u v∧z0v us vs
  |[]=>False
end
mutual
theorem zXi {E E':Ev} (hle:E.le E'):∀{v' v:V} {y y':Value},vEq v' v→VR E v y→VR E' v' y'→y'=y
 | .agg l,v,y,y',h,hy,hy'=>by
   simp only[vEq]at h
   split at h<;>first|exact h.elim|skip
   simp only[VR]at hy hy'
   obtain⟨ys,rfl,h1⟩:=hy
   obtain⟨ys',rfl,h2⟩:=hy'
   rw[zFd hle h h1 h2]
 | .tup l,v,y,y',h,hy,hy'=>by
   simp only[vEq]at h
   split at h<;>first|exact h.elim|skip
   simp only[VR]at hy hy'
   obtain⟨ys,rfl,h1⟩:=hy
   obtain⟨ys',rfl,h2⟩:=hy'
   rw[zFd hle h h1 h2]
 | .top,v,y,y',h,hy,hy'=>vA hle (by simpa only[vEq]using h) hy hy'
 | .d _,v,y,y',h,hy,hy'=>vA hle (by simpa only[vEq]using h) hy hy'
 | .nm _ _,v,y,y',h,hy,hy'=>vA hle (by simpa only[vEq]using h) hy hy'
 | .el _ _ _ _,v,y,y',h,hy,hy'=>vA hle (by simpa only[vEq]using h) hy hy'
 | .re _ _ _ _,v,y,y',h,hy,hy'=>vA hle (by simpa only[vEq]using h) hy hy'
 | .own _,v,y,y',h,hy,hy'=>vA hle (by simpa only[vEq]using h) hy hy'
 | .mp _,v,y,y',h,hy,hy'=>vA hle (by simpa only[vEq]using h) hy hy'
 | .sub _ _,v,y,y',h,hy,hy'=>vA hle (by simpa only[vEq]using h) hy hy'
 | .fn _ _ _,v,y,y',h,hy,hy'=>vA hle (by simpa only[vEq]using h) hy hy'
 | .ifc _ _,v,y,y',h,hy,hy'=>vA hle (by simpa only[vEq]using h) hy hy'
theorem zFd {E E':Ev} (hle:E.le E'):∀{v' v:List V} {y y':List Value},z0v v' v→VRL E v y→VRL E' v' y'→y'=y
 |[],v,y,y',h,hy,hy'=>by
  simp only[z0v]at h
  split at h<;>first|exact h.elim|skip
  simp only[VRL]at hy hy'
  rw[hy,hy']
 |u::us,v,y,y',h,hy,hy'=>by
  simp only[z0v]at h
  split at h<;>first|exact h.elim|skip
  simp only[VRL]at hy hy'
  obtain⟨x,xs,rfl,h1,h2⟩:=hy
  obtain⟨x',xs',rfl,h1',h2'⟩:=hy'
  rw[zXi hle h.1 h1 h1',zFd hle h.2 h2 h2']
end
@[reducible] def zGa:=Nat×(St→Prop)
def zDa (bf:List Nat) (i:Nat):List zGa→List zGa
 |[]=>[]
 |m::l=>bif Bef bf i m.1 then zDa bf i l else m::zDa bf i l
def yGm:List zGa→St→Prop→Prop
 |[],_,X=>X
 |m::ms,s,X=>m.2 s∧yGm ms s X
def yGg (P:Program) (ops:List Oper) (ρ:yQ) (i:Nat):Bool:=
 match ops[i]? with
 |some o=>match kS P ρ o.op with
  |2=>false
  |_=>true
 |none=>true
def zMg:Op→Bool
 | .slice _ _ _ _ none=>true
 |_=>false
theorem zVb {o:Op} (h:zMg o=true):∃t x lo hi,o= .slice t x lo hi none:=by
 unfold zMg at h
 split at h
 ·exact⟨_,_,_,_,rfl⟩
 ·cases h
def m5 (P:Program) (H:Hnd) (ops:List Oper) (bf:List Nat):Nat→Array Bool→List zGa→yQ→St→(yQ→St→Prop)→Prop
 |0,listed,_,ρ,s,K=>
  match Region.ready .any ops.toArray listed with
  |[]=>K ρ s
  |_=>False
 |fuel+1,listed,M,ρ,s,K=>
  match Region.ready .any ops.toArray listed with
  |[]=>K ρ s
  |r::rs=>
   match(r::rs).find? (yGg P ops ρ)with
   |some i=>
    match ops[i]? with
    |none=>False
    |some o=>zFc ops o.guard ρ
      (fun ρ'=>match kS P ρ' o.op with
        |0=>sq P o ρ' fun v=>m5 P H ops bf fuel (listed.setIfInBounds i true) M (nC ρ' o.dst v) s K
        |1=>sr P o ρ' s fun v=>m5 P H ops bf fuel (listed.setIfInBounds i true) ((i,fun s'=>bif zEc ρ' s o.op then True else sr P o ρ' s' fun v'=>vEq v' v)::M) (nC ρ' o.dst v) s K
        |_=>False)
      (fun ρ'=>m5 P H ops bf fuel (listed.setIfInBounds i true) M (nC ρ' o.dst (.tup [])) s K)
   |none=>yBd (r::rs) fun i=>
    match ops[i]? with
    |none=>False
    |some o=>zFc ops o.guard ρ
      (fun ρ'=>se P H o ρ' s fun v s'=>bif zMg o.op then m5 P H ops bf fuel (listed.setIfInBounds i true) (zDa bf i M) (nC ρ' o.dst v) s' K else yGm (zDa bf i M) s' (m5 P H ops bf fuel (listed.setIfInBounds i true) (zDa bf i M) (nC ρ' o.dst v) s' K))
      (fun ρ'=>m5 P H ops bf fuel (listed.setIfInBounds i true) (zDa bf i M) (nC ρ' o.dst (.tup [])) s K)
inductive MonRel (k:Ko) (L:List HP) (E:Ev):List zGa→List Mon→Prop
 |nil:MonRel k L E [] []
 |cons {i:Nat} {f:St→Prop} {g:World→Prop} {M:List zGa} {N:List Mon}:(∀E' s' w',E.le E'→Rel k L E' s' w'→f s'→g w')→MonRel k L E M N→MonRel k L E ((i,f)::M) ((i,g)::N)
theorem MonRel.mono {E E':Ev} (hle:E.le E') {M:List zGa} {N:List Mon} (h:MonRel k L E M N):MonRel k L E' M N:=by
 induction h with
 |nil=>exact .nil
 |cons h _ ih=>exact .cons (fun E2 s w a=>h E2 s w (hle.trans a)) ih
theorem MonRel.keep {E:Ev} {bf:List Nat} {i:Nat} {M:List zGa} {N:List Mon} (h:MonRel k L E M N):MonRel k L E (zDa bf i M) (qE bf i N):=by
 induction h with
 |nil=>exact .nil
 | @cons j f g M N h _ ih=>
   simp only[zDa,qE,List.filter_cons]at ih ⊢
   cases hb:Bef bf i j
   ·simpa using .cons h ih
   ·simpa using ih
theorem MonRel.all {E E':Ev} (hle:E.le E') {M:List zGa} {N:List Mon} (h:MonRel k L E M N) {s:St} {w:World} (R:Rel k L E' s w) {X:Prop} (hm:yGm M s X):zFk N w∧X:=by
 induction h with
 |nil=>exact⟨fun m hm=>(by cases hm),hm⟩
 |cons h _ ih=>
  obtain⟨h1,h2⟩:=hm
  obtain⟨h3,h4⟩:=ih h2
  refine⟨fun m hm=> ?_,h4⟩
  rcases yPk.1 hm with rfl|hm
  ·exact h _ _ _ hle R h1
  ·exact h3 m hm
theorem zRu {H:Hnd} (hH:HOk P H) {ops:List Oper} {n:Nat} {A:Nat→Bool} {e0:Env} {Q:Act→World→Prop} {E0:Ev} {K:yQ→St→Prop} (hok:aW ops (wK ops [])=true) (hf:zCv n A ops)
 (hQ:∀a w E ρS s,Good n A e0 a→E0.le E→Rel k L E s w→EnvR E ρS (yF a)→K ρS s→Q a w):
 ∀(fuel:Nat) (listed:Array Bool) (M:List zGa) (N:List Mon) (a:Act) (w:World) (E:Ev) (ρS:yQ) (s:St),mK ops (xM listed)→zFk N w→MonRel k L E M N→Good n A e0 a→E0.le E→Rel k L E s w→EnvR E ρS (yF a)→
  m5 P H ops (wK ops []) fuel listed M ρS s K→eG P ops.toArray (wK ops []) Q fuel N listed a w:=by
 intro fuel
 induction fuel with
 |zero=>
  intro listed M N a w E ρS s hc hM hMR hgd hle R he h
  unfold m5 at h
  split at h
  ·rename_i hr;exact⟨hr,hQ a w E ρS s hgd hle R he h⟩
  ·exact h.elim
 |succ fuel ih=>
  intro listed M N a w E ρS s hc hM hMR hgd hle R he h
  unfold m5 at h
  split at h
  ·rename_i hr
   exact⟨fun _=>hQ a w E ρS s hgd hle R he h,fun i hi=>by rw[hr]at hi;cases hi⟩
  ·rename_i r rs hr
   have hne:Region.ready .any ops.toArray listed≠[]:=by rw[hr];simp
   split at h
   ·rename_i i hfind
    have hi:i∈Region.ready .any ops.toArray listed:=by rw[hr];exact List.mem_of_find?_eq_some hfind
    split at h<;>first|exact h.elim|skip
    rename_i o ho
    have hput:∀v,yF (a.put o.dst v)=Cv.put (yF a) o.dst v:=fun v=>hgd.envOf_put (fY hf ho) v
    have hg:=mR he h
    have nx:∀{M:List zGa} {N:List Mon} {v:V} {y:Value},zFk N w→MonRel k L E M N→VR E v y→m5 P H ops (wK ops []) fuel (listed.setIfInBounds i true) M (nC ρS o.dst v) s K→
     eG P ops.toArray (wK ops []) Q fuel N (listed.setIfInBounds i true) (a.put o.dst y) w:=fun{M N v y} hM hMR hv hh=>
     ih _ _ _ _ _ _ _ _ (jW hc hi) hM hMR (hgd.put (fY hf ho) _) hle R (by rw[hput];exact he.put _ hv) hh
    by_cases hw:Region.wanted o (yielded ops.toArray a.tmps)=true
    ·rw[yOu hw]at hg
     split at hg<;>first|exact hg.elim|skip
     ·obtain⟨v,y,hk,hv,hfree⟩:=zQo he hg
      rw[kJ]at hfree
      have hs:∀w,aY P ops.toArray o y a w:=fun w=> .inl ⟨hw,hfree w⟩
      exact vM hok ho fuel N listed a w hc hi (hs w) hM (dG hs fuel _ _ _ (nx hM hMR hv hk))
     ·cases hst:zEc ρS s o.op
      ·obtain⟨v,y,hk,hv,hrun⟩:=zFf R he hg
       rw[kJ]at hrun
       simp only[hst,cond_false]at hk
       have hs:aY P ops.toArray o y a w:= .inl ⟨hw,hrun⟩
       refine vM hok ho fuel N listed a w hc hi hs hM (nx ?_ (.cons ?_ hMR) hv hk)
       ·intro m hm
        rcases yPk.1 hm with rfl|hm
        ·exact hs
        ·exact hM m hm
       ·intro E' s' w' hle' R' hst
        obtain⟨v',y',hk',hv',hrun'⟩:=zFf R' (he.mono hle') hst
        rw[kJ]at hrun'
        have:=zXi hle' hk' hv hv'
        subst this
        exact .inl ⟨hw,hrun'⟩
      ·obtain⟨v,y,hk,hv,hrun⟩:=zZy R he hst hg
       rw[kJ]at hrun
       simp only[hst,cond_true]at hk
       have hs:aY P ops.toArray o y a w:= .inl ⟨hw,hrun E s w (Ev.le.refl _) R⟩
       refine vM hok ho fuel N listed a w hc hi hs hM (nx ?_ (.cons ?_ hMR) hv hk)
       ·intro m hm
        rcases yPk.1 hm with rfl|hm
        ·exact hs
        ·exact hM m hm
       ·intro E' s' w' hle' R' _
        exact .inl ⟨hw,hrun E' s' w' hle' R'⟩
    ·rw[yOr hw]at hg
     have hs:∀w,aY P ops.toArray o undef a w:=fun w=> .inr ⟨by simpa using hw,rfl⟩
     exact vM hok ho fuel N listed a w hc hi (hs w) hM (dG hs fuel _ _ _ (nx hM hMR (sH E) hg))
   ·refine⟨fun h0=>absurd h0 hne,fun i hi=> ?_⟩
    have h1:=zFz h i (by rw[← hr];exact hi)
    split at h1<;>first|exact h1.elim|skip
    rename_i o ho
    have hput:∀v,yF (a.put o.dst v)=Cv.put (yF a) o.dst v:=fun v=>hgd.envOf_put (fY hf ho) v
    have hg:=mR he h1
    unfold zDq
    simp only[yQm,ho]
    by_cases hw:Region.wanted o (yielded ops.toArray a.tmps)=true
    ·rw[yOu hw]at hg ⊢
     cases hsl:zMg o.op with
     |true=>
      obtain⟨t,x,lo,hi',ho'⟩:=zVb hsl
      obtain⟨y,hfr,E',v,s',hle',R',hv,hh⟩:=zQi R he ho' hg
      rw[kJ]at hfr
      rw[hsl]at hh
      have hM':zFk (qE (wK ops []) i N) w:=fun m hm=>hM m (by simp only[qE,yRa]at hm;exact hm.1)
      exact qY (hfr w) ⟨hM',ih _ _ _ _ _ _ _ _ (jW hc hi) hM' (hMR.keep.mono hle') (hgd.put (fY hf ho) _) (hle.trans hle') R' (by rw[hput];exact(he.mono hle').put _ hv) hh⟩
     |false=>
     have hdoes:=zPi hH R he hg
     rw[kJ]at hdoes
     refine hdoes.mono ?_
     rintro y w' ⟨E',v,s',hle',R',hv,hh⟩
     rw[hsl]at hh
     obtain⟨hM',hh⟩:=(hMR.keep (bf:=wK ops []) (i:=i)).all hle' R' hh
     exact⟨hM',ih _ _ _ _ _ _ _ _ (jW hc hi) hM' (hMR.keep.mono hle') (hgd.put (fY hf ho) _) (hle.trans hle') R' (by rw[hput];exact(he.mono hle').put _ hv) hh⟩
    ·rw[yOr hw]at hg ⊢
     have hM':zFk (qE (wK ops []) i N) w:=fun m hm=>hM m (by simp only[qE,yRa]at hm;exact hm.1)
     exact⟨hM',ih _ _ _ _ _ _ _ _ (jW hc hi) hM' hMR.keep (hgd.put (fY hf ho) _) hle R (by rw[hput];exact he.put _ (sH E)) hg⟩
open Go Go.RowKit Cv
variable {P:Program} {k:Ko} {L:List HP}
structure SAnn where
 ι:Type
 slots:ι→List (Nat×V)
 rows:ι→List AObj
 keep:Nat→Bool:=fun _=>true
 un:Nat:=0
 slots0:ι→List (Nat×V):=fun _=>[]
 rows0:ι→List AObj:=fun _=>[]
 lits:List (Nat×Value):=[]
 opn:List Nat:=[]
def SAnn.ent (x:SAnn):SAnn:={x with slots:=x.slots0,rows:=x.rows0}
def lmC:Code→Nat
 | .region i _ _=>i
 | .seq a _=>lmC a
 | .block _ a=>lmC a
 | .loop a=>lmC a
 | .cond _ a _=>lmC a
 |_=>0
def yOn:Code→Nat
 | .region i _ _=>4*i
 | .cond c a b=>4*lmC (.cond c a b)+1
 | .seq a b=>4*lmC a+2
 | .block id _=>4*id+3
 |_=>0
def yEh (n:Nat):List (Nat×SAnn)→Option SAnn
 |[]=>none
 |(m,x)::l=>bif Nat.beq m n then some x else yEh n l
def zYq (t:Nat):List (Nat×V)→Option V
 |[]=>none
 |(u,v)::l=>bif Nat.beq u t then some v else zYq t l
def zGn (ρ:yQ):List (Nat×V)→List V
 |[]=>[]
 |(t,_)::l=>ρ t::zGn ρ l
def zOx:List (Nat×V)→List V
 |[]=>[]
 |(_,v)::l=>v::zOx l
def zWt:AObj→Bool
 | .own _ _ _=>true
 | .nilo=>true
 | .fro _ _=>true
 | .objs _ _ _ _ _ _=>true
 |_=>false
def qV (π:NM):Nat→List AObj→NM
 |_,[]=>[]
 |p,o::os=>bif zWt o then qV π (p+1) os else match z6 p π with
  |some n=>(p,n)::qV π (p+1) os
  |none=>qV π (p+1) os
def bD (N:Nat) (π:NM):Nat→List AObj→NM
 |_,[]=>[]
 |p,o::os=>bif zWt o then(p,N+p)::bD N π (p+1) os else match z6 p π with
  |some n=>(p,n)::bD N π (p+1) os
  |none=>bD N π (p+1) os
def zGe (N:Nat) (st:NM):Nat→NM
 |0=>[]
 |p+1=>(p,(z6 p st).getD (N+p))::zGe N st p
theorem zFh {N:Nat} {st:NM} {p q:Nat}:∀{m:Nat},z6 p (zGe N st m)=some q→q=N+p∨z6 p st=some q
 |0,h=>by cases h
 |m+1,h=>by
  simp only[zGe,z6]at h
  cases hb:Nat.beq m p
  ·rw[hb]at h;exact zFh h
  ·rw[hb]at h
   have:=yOv hb
   subst this
   simp only[cond_true,Option.some.injEq]at h
   cases hs:z6 m st with
   |none=>rw[hs]at h;exact .inl h.symm
   |some n=>rw[hs]at h;exact .inr (by rw[← h];rfl)
theorem nV {π:NM} {p q:Nat}:∀{os:List AObj} {p0:Nat},z6 p (qV π p0 os)=some q→z6 p π=some q
 |[],p0,h=>by cases h
 |o::os,p0,h=>by
  simp only[qV]at h
  cases ho:zWt o<;>rw[ho]at h
  ·simp only[cond_false]at h
   split at h
   ·rename_i n hn
    simp only[z6]at h
    cases hb:Nat.beq p0 p
    ·rw[hb]at h;exact nV h
    ·rw[hb]at h
     cases h
     rw[← yOv hb];exact hn
   ·exact nV h
  ·exact nV h
theorem zAa {N:Nat} {π:NM} {p q:Nat}:∀{os:List AObj} {p0:Nat},z6 p (bD N π p0 os)=some q→q=N+p∨z6 p (qV π p0 os)=some q
 |[],p0,h=>by cases h
 |o::os,p0,h=>by
  simp only[bD,qV]at h ⊢
  cases ho:zWt o<;>rw[ho]at h
  ·simp only[cond_false]at h ⊢
   split at h
   ·rename_i n hn
    simp only[z6]at h ⊢
    cases hb:Nat.beq p0 p
    ·rw[hb]at h;exact zAa h
    ·rw[hb]at h;exact .inr h
   ·exact zAa h
  ·simp only[cond_true,z6]at h ⊢
   cases hb:Nat.beq p0 p
   ·rw[hb]at h;exact zAa h
   ·rw[hb]at h
    cases h
    left
    rw[yOv hb]
def rP (ren:NM) (slots:List (Nat×V)) (as:List Nat) (ρ:yQ):yQ:=fun t=>
 match zYq t slots with
 |some v=>mX ren v
 |none=>bif cL t as then .top else ρ t
mutual
def zBw (N:Nat):V→Bool
 | .nm n _=>Nat.blt n N
 | .el n _ _ _=>Nat.blt n N
 | .own n=>Nat.blt n N
 | .na n _ _=>Nat.blt n N
 | .mp n=>Nat.blt n N
 | .sub n _=>Nat.blt n N
 | .agg l=>zPf N l
 | .tup l=>zPf N l
 | .fn _ a b=>zPf N a && zPf N b
 | .ifc _ x=>zBw N x
 |_=>true
def zPf (N:Nat):List V→Bool
 |[]=>true
 |v::l=>zBw N v && zPf N l
end
def yKc (N:Nat):AObj→Bool
 | .cells vs _=>zPf N vs
 |_=>true
def lB (N:Nat):List (Nat×AObj)→Bool
 |[]=>true
 |(n,o)::l=>Nat.blt n N && yKc N o && lB N l
def xZ (keep:Nat→Bool):List (Nat×AObj)→List (Nat×AObj)
 |[]=>[]
 |(n,o)::l=>bif keep n then(n,o)::xZ keep l else xZ keep l
def zEv:List (Nat×AObj)→St→Prop
 |[],_=>True
 |[(n,o)],s=>match s.getg n with
  |some o'=>o'=o
  |none=>False
 |(n,o)::l,s=>match s.getg n with
  |some o'=>o'=o∧zEv l (s.del n)
  |none=>False
def zIe (N:Nat) (ren:NM) (rows:List AObj) (kept:List (Nat×AObj)):St:=⟨x3 ren 0 rows++kept,N+rows.length⟩
def zKw (next:yQ→St→Prop) (Q:Exit→yQ→St→Prop):Exit→yQ→St→Prop
 | .normal,ρ,s=>next ρ s
 |e,ρ,s=>Q e ρ s
def z4c (id:Nat) (Q:Exit→yQ→St→Prop):Exit→yQ→St→Prop
 | .exit id',ρ,s=>bif Nat.beq id' id then Q .normal ρ s else Q (.exit id') ρ s
 |e,ρ,s=>Q e ρ s
def zJa (x:SAnn) (i:x.ι) (π0:NM) (ρ:yQ) (s:St) (K:NM→St→Prop):Prop:=
 mtL (zOx (x.slots i)) (zGn ρ (x.slots i)) π0 s fun π s=>mtR 0 (x.rows i) π s fun π s=>bif mG (x.rows i).length π then K π s else False
def z7m (f:(Exit→yQ→St→Prop)→yQ→St→Prop) (Q:Exit→yQ→St→Prop):Nat→yQ→St→Prop
 |0,_,_=>False
 |n+1,ρ,s=>f (zKw (z7m f Q n) Q) ρ s
def zEr (n:Nat) (s:St):St:=
 match s.get n with
 |some (.adt _ m unf x)=>bif Nat.ble 1 m then⟨(n,(zEm (s.del n) n m (unf x)).1)::(zEm (s.del n) n m (unf x)).2.rows,(zEm (s.del n) n m (unf x)).2.nx⟩else s
 |_=>s
def zOf:List Nat→St→St
 |[],s=>s
 |n::l,s=>zOf l (zEr n s)
theorem zKs {w:World} {E:Ev} {s:St} (R:Rel k L E s w) (n:Nat):∃E',E.le E'∧Rel k L E' (zEr n s) w:=by
 unfold zEr
 split
 ·rename_i T m unf x hg
  cases hb:Nat.ble 1 m
  ·exact⟨E,Ev.le.refl _,R⟩
  ·obtain⟨E',h1,h2⟩:=(R.take hg).unfold (yQy hb)
   refine⟨E',h1,⟨h2.nx,?_⟩⟩
   have:=h2.out
   simpa using this
 ·exact⟨E,Ev.le.refl _,R⟩
theorem zHf {w:World}:∀(l:List Nat) {E:Ev} {s:St} (R:Rel k L E s w),∃E',E.le E'∧Rel k L E' (zOf l s) w
 |[],E,s,R=>⟨E,Ev.le.refl _,R⟩
 |n::l,E,s,R=>by
  obtain⟨E1,h1,h2⟩:=zKs R n
  obtain⟨E2,h3,h4⟩:=zHf l h2
  exact⟨E2,h1.trans h3,h4⟩
def zVe:List Nat→yQ→St→St
 |[],_,s=>s
 |t::ts,ρ,s=>zVe ts ρ (match ρ t with
  | .nm n 0=>zEr n s
  |_=>s)
theorem zLb {w:World} {ρ:yQ}:∀(l:List Nat) {E:Ev} {s:St} (R:Rel k L E s w),∃E',E.le E'∧Rel k L E' (zVe l ρ s) w
 |[],E,s,R=>⟨E,Ev.le.refl _,R⟩
 |t::ts,E,s,R=>by
  obtain⟨E1,h1,h2⟩:∃E',E.le E'∧Rel k L E' (match ρ t with
   | .nm n 0=>zEr n s
   |_=>s) w:=by
   split
   ·exact zKs R _
   ·exact⟨E,Ev.le.refl _,R⟩
  obtain⟨E2,h3,h4⟩:=zLb ts h2
  exact⟨E2,h1.trans h3,h4⟩
def yJq (t:Nat) (x:Value) (ρ:yQ) (K:yQ→Prop):Prop:=match ρ t with
 | .d (.v y)=>y=x∧K (fun u=>bif Nat.beq u t then .d (.v x)else ρ u)
 |_=>False
def zSw:List (Nat×Value)→yQ→(yQ→Prop)→Prop
 |[],_,_=>False
 |(t,x)::l,ρ,K=>yJq t x ρ K∨zSw l ρ K
def scode (P:Program) (H:Hnd) (J:List (Nat×SAnn)):List SAnn→Code→(Exit→yQ→St→Prop)→yQ→St→Prop
 |_,.skip,Q,ρ,s=>Q .normal ρ s
 |an,.seq a b,Q,ρ,s=>match yEh (yOn a) J with
  |none=>scode P H J (an.take (nL a)) a (zKw (fun ρ s=>scode P H J (an.drop (nL a)) b Q ρ s) Q) ρ s
  |some x=>match x.opn with
   |t0::ts=>scode P H J (an.take (nL a)) a (zKw (fun ρ s=>scode P H J (an.drop (nL a)) b Q ρ (zVe (t0::ts) ρ s)) Q) ρ s
   |[]=>match x.lits with
   |l0::ls=>scode P H J (an.take (nL a)) a (zKw (fun ρ s=>zSw (l0::ls) ρ fun ρ=>scode P H J (an.drop (nL a)) b Q ρ s) Q) ρ s
   |[]=>∃i0,zJa x.ent i0 [] ρ s fun π s1=>∃(I:x.ι→Prop),(bif lB s1.nx (xZ x.keep s1.rows)then
    scode P H J (an.take (nL a)) a (zKw (fun ρ' s'=>∃i',zJa x i' (qV π 0 (x.rows0 i0)) ρ' s' fun _ s2=>I i'∧zEv (xZ x.keep s1.rows) s2) Q)
     (rP (zGe s1.nx (qV π 0 (x.rows0 i0)) (x.rows0 i0).length) (x.slots0 i0) [] ρ) (zIe s1.nx (zGe s1.nx (qV π 0 (x.rows0 i0)) (x.rows0 i0).length) (x.rows0 i0) (xZ x.keep s1.rows))∧
    ∀i,I i→scode P H J (an.drop (nL a)) b Q (rP (zGe s1.nx (qV π 0 (x.rows0 i0)) (x.rows i).length) (x.slots i) (asg a) ρ) (zIe s1.nx (zGe s1.nx (qV π 0 (x.rows0 i0)) (x.rows i).length) (x.rows i) (xZ x.keep s1.rows))else False)
 |an,.cond c a b,Q,ρ,s=>
  match sev ρ c with
  | .d (.v (.bool t))=>cnd t (scode P H J (an.take (nL a)) a Q ρ s) (scode P H J (an.drop (nL a)) b Q ρ s)
  |_=>False
 |an,.block id a,Q,ρ,s=>scode P H J an a (z4c id Q) ρ s
 |an,.loop a,Q,ρ,s=>
  match an with
  |[]=>False
  |x::rest=>bif Nat.blt 0 x.un then z7m (fun Q ρ s=>scode P H J rest a Q ρ s) Q x.un ρ s else ∃i0,zJa x i0 [] ρ s fun π s1=>∃(I:x.ι→Prop) (μ:x.ι→Nat),I i0∧(bif lB s1.nx (xZ x.keep s1.rows)then
    ∀i,I i→scode P H J rest a (zKw (fun ρ' s'=>∃i',zJa x i' (qV π 0 (x.rows i0)) ρ' s' fun _ s2=>I i'∧μ i'<μ i∧zEv (xZ x.keep s1.rows) s2) Q)
     (rP (bD s1.nx π 0 (x.rows i0)) (x.slots i) (asg a) ρ) (zIe s1.nx (bD s1.nx π 0 (x.rows i0)) (x.rows i) (xZ x.keep s1.rows))else False)
 |_,.exit id,Q,ρ,s=>Q (.exit id) ρ s
 |_,.ret,Q,ρ,s=>Q .ret ρ s
 |_,.region _ ops d,Q,ρ,s=>bif d then m5 P H ops.toList (wK ops.toList []) ops.toList.length (Array.replicate ops.toList.length false) [] ρ s (Q .normal)
    else zQz P H ops.toList ops.toList ρ s (Q .normal)
 |_,_,_,_,_=>False
def zXr (k:Ko) (L:List HP) (n:Nat) (A:Nat→Bool) (e0:Env) (E0:Ev) (Q:Exit→yQ→St→Prop):Exit→Act→World→Prop:=fun e a w=>
 Good n A e0 a∧∃E ρS s,E0.le E∧Rel k L E s w∧EnvR E ρS (yF a)∧Q e ρS s
mutual
theorem VR.low {F:PH} {tab tab':List Hd} {N:Nat} (h:∀n,n<N→∀hd,tab[n]? =some hd→tab'[n]? =some hd):∀{v:V} {y:Value},zBw N v=true→VR ⟨F,tab⟩ v y→VR ⟨F,tab'⟩ v y
 | .top,y,hl,e=>by simp only[VR]
 | .d d,y,hl,e=>by simpa only[VR]using e
 | .nm n o,y,hl,e=>by
   simp only[zBw,yRt]at hl
   simp only[VR]at e ⊢
   obtain⟨b,oo,l,h1,h2⟩:=e
   exact⟨b,oo,l,h n hl _ h1,h2⟩
 | .el n sz i f,y,hl,e=>by
   simp only[zBw,yRt]at hl
   simp only[VR]at e ⊢
   obtain⟨b,oo,m,c,l,h1,h2⟩:=e
   exact⟨b,oo,m,c,l,h n hl _ h1,h2⟩
 | .re sz els i f,y,hl,e=>by simpa only[VR]using e
 | .na n o i,y,hl,e=>by
   simp only[zBw,yRt]at hl
   simp only[VR]at e ⊢
   obtain⟨b,oo,l,h1,h2⟩:=e
   exact⟨b,oo,l,h n hl _ h1,h2⟩
 | .own n,y,hl,e=>by
   simp only[zBw,yRt]at hl
   simp only[VR]at e ⊢
   obtain⟨l,h1,h2⟩:=e
   exact⟨l,h n hl _ h1,h2⟩
 | .mp n,y,hl,e=>by
   simp only[zBw,yRt]at hl
   simp only[VR]at e ⊢
   obtain⟨b,l,h1,h2⟩:=e
   exact⟨b,l,h n hl _ h1,h2⟩
 | .sub n i,y,hl,e=>by
   simp only[zBw,yRt]at hl
   simp only[VR]at e ⊢
   obtain⟨hd,l,b,oo,h1,h2⟩:=e
   exact⟨hd,l,b,oo,h n hl _ h1,h2⟩
 | .agg l,y,hl,e=>by
   simp only[zBw]at hl
   simp only[VR]at e ⊢
   obtain⟨ys,h1,h2⟩:=e
   exact⟨ys,h1,VRL.low h hl h2⟩
 | .tup l,y,hl,e=>by
   simp only[zBw]at hl
   simp only[VR]at e ⊢
   obtain⟨ys,h1,h2⟩:=e
   exact⟨ys,h1,VRL.low h hl h2⟩
 | .fn f a b,y,hl,e=>by
   simp only[zBw,yPh]at hl
   simp only[VR]at e ⊢
   obtain⟨as,bs,h1,h2,h3⟩:=e
   exact⟨as,bs,h1,VRL.low h hl.1 h2,VRL.low h hl.2 h3⟩
 | .ifc t x,y,hl,e=>by
   simp only[zBw]at hl
   simp only[VR]at e ⊢
   obtain⟨z,h1,h2⟩:=e
   exact⟨z,h1,VR.low h hl h2⟩
theorem VRL.low {F:PH} {tab tab':List Hd} {N:Nat} (h:∀n,n<N→∀hd,tab[n]? =some hd→tab'[n]? =some hd):∀{vs:List V} {l:List Value},zPf N vs=true→VRL ⟨F,tab⟩ vs l→VRL ⟨F,tab'⟩ vs l
 |[],l,hl,e=>by simpa only[VRL]using e
 |v::vs,l,hl,e=>by
  simp only[zPf,yPh]at hl
  simp only[VRL]at e ⊢
  obtain⟨x,xs,h1,h2,h3⟩:=e
  exact⟨x,xs,h1,VR.low h hl.1 h2,VRL.low h hl.2 h3⟩
end
theorem rowHP.low {F:PH} {tab tab':List Hd} {N:Nat} (h:∀n,n<N→∀hd,tab[n]? =some hd→tab'[n]? =some hd) {o:AObj} (hl:yKc N o=true) {hd:Hd} {x:PH} (e:rowHP F o tab hd x):rowHP F o tab' hd x:=by
 cases o<;>first|exact e.tab rfl|skip
 simp only[rowHP]at e ⊢
 obtain⟨b,l,h1,h2,h3⟩:=e
 exact⟨b,l,h1,h2.low h hl,h3⟩
theorem zIz {E:Ev} {ρS:yQ} {ρ:Env} (he:EnvR E ρS ρ):∀l:List (Nat×V),VRL E (zGn ρS l) (l.map fun p=>ρ p.1)
 |[]=>by simp[zGn,VRL]
 |(t,v)::l=>by simp only[zGn,yPd,VRL];exact⟨_,_,rfl,he t,zIz he l⟩
theorem zQa {F:PH} {tl:List Hd} {ρ:Env}:∀{l:List (Nat×V)},VRL ⟨F,tl⟩ (zOx l) (l.map fun p=>ρ p.1)→∀{t:Nat} {v:V},zYq t l=some v→VR ⟨F,tl⟩ v (ρ t)
 |[],_,t,v,h=>by cases h
 |(u,x)::l,hv,t,v,h=>by
  simp only[zOx,yPd,VRL]at hv
  obtain⟨y,ys,e,h1,h2⟩:=hv
  cases e
  simp only[zYq]at h
  cases hb:Nat.beq u t
  ·rw[hb]at h;exact zQa h2 h
  ·rw[hb]at h
   cases h
   rw[← yOv hb];exact h1
theorem zNd {w:World} {E3 E4:Ev} (hF:E3.F=E4.F) {N:Nat} (hlow:∀n,n<N→∀hd,E3.tab[n]? =some hd→E4.tab[n]? =some hd):∀{kept:List (Nat×AObj)} {s:St} {M:List HP},zEv kept s→lB N kept=true→
 Hp k w (s.rows.map (rHP E3)++M)→Hp k w (kept.map (rHP E4)++M)
 |[],s,M,_,_,H=>by
  have:∀(l:List (Nat×AObj)),Hp k w (l.map (rHP E3)++M)→Hp k w M:=by
   intro l
   induction l with
   |nil=>intro H;exact H
   |cons a l ih=>intro H;exact ih H.drop
  exact this _ H
 |(n,o)::kept,s,M,hk,hl,H=>by
  simp only[lB,yPh,yRt]at hl
  have hget:s.get n=some o∧zEv kept (s.del n):=by
   cases kept with
   |nil=>
    simp only[zEv]at hk
    split at hk<;>first|exact hk.elim|skip
    rename_i o' ho
    subst hk
    exact⟨(pG ho).1,trivial⟩
   |cons a l=>
    simp only[zEv]at hk
    split at hk<;>first|exact hk.elim|skip
    rename_i o' ho
    obtain⟨rfl,hk⟩:=hk
    exact⟨(pG ho).1,hk⟩
  have H1:Hp k w (rHP E3 (n,o)::((s.del n).rows.map (rHP E3)++M)):=by
   refine H.perm ?_
   have:=((vR hget.1).1.map (rHP E3)).append_right M
   simpa[St.del]using this
  have H2:Hp k w ((s.del n).rows.map (rHP E3)++(rHP E3 (n,o)::M)):=H1.perm yPg.symm
  have H3:=zNd hF hlow hget.2 hl.2 H2
  refine(H3.perm yPg).imp fun x hx=> ?_
  rcases hx with⟨e,e2⟩|⟨hd,h1,h2⟩
  ·exact .inl ⟨e,e2⟩
  ·exact .inr ⟨hd,hlow n hl.1.1 _ h1,hF▸h2.low hlow hl.1.2⟩
theorem eE {w:World} {x:SAnn} {i:x.ι} {π0:NM} {ρS:yQ} {ρ:Env} {s:St} {K:NM→St→Prop} {E:Ev} (h:zJa x i π0 ρS s K) (R:Rel k L E s w) (he:EnvR E ρS ρ) (hw0:WfM π0 E.tab):
 ∃E3 s3 π3,E.le E3∧K π3 s3∧Ext π0 π3∧WfM π3 E3.tab∧E3.tab.length=s3.nx∧∀(E1:Ev) (kept:List (Nat×AObj)) (N:Nat) (ρ0:yQ) (as:List Nat) (ren:NM),(∀p q,z6 p ren=some q→q=N+p∨(z6 p π3=some q∧q<N))→E1.tab.length=N→FLe E1.F E3.F→E1.tab<+:E3.tab→(∀E4:Ev,E3.F=E4.F→E1.le E4→(∀n,n<N→∀hd,E3.tab[n]? =some hd→E4.tab[n]? =some hd)→∀M,Hp k w (s3.rows.map (rHP E3)++M)→Hp k w (kept.map (rHP E4)++M))→(∀t,cL t as=false→VR E1 (ρ0 t) (ρ t))→
  ∃E4,E1.le E4∧Rel k L E4 (zIe N ren (x.rows i) kept) w∧EnvR E4 (rP ren (x.slots i) as ρ0) ρ:=by
 unfold zJa at h
 obtain⟨E2,π2,s2,q1,q2,q3⟩:=m7 h R hw0 (zIz he _)
 obtain⟨E3,π3,s3,r1,r2⟩:=zMi q3 q1.rel q1.wf
 obtain⟨hlt,hk⟩:=zN r2
 have hlt:=fV hlt
 refine⟨E3,s3,π3,q1.le.trans r1.le,hk,q1.ext.trans r1.ext,r1.wf,r1.rel.nx,?_⟩
 intro E1 kept N ρ0 as ren hre hN hF hpre hkept hfix
 let m:=(x.rows i).length
 let tl:List Hd:=(List.range m).map fun p=>(E3.tab[(z6 p π3).getD 0]?).getD (undef,[])
 have hloc:Loc π3 E3.tab tl:=by
  intro p n hp
  obtain⟨hd,h'⟩:=r1.wf p n hp
  refine⟨hd,h',?_⟩
  show((List.range m).map _)[p]? =_
  rw[yQg,ySn (hlt p n hp)]
  simp only[yQp,hp,yQt,h']
 have htl:tl.length=m:=by simp[tl]
 let E4:Ev:=⟨E3.F,E1.tab++tl⟩
 have hle4:E1.le E4:=⟨hF,ySi _ _⟩
 have hlow3:∀n,n<N→∀hd,E3.tab[n]? =some hd→E4.tab[n]? =some hd:=by
  intro n hn hd e
  have h1:E1.tab[n]? =some hd:=by
   rw[yPz (by omega)]
   have:E3.tab[n]? =some (E1.tab[n]'(by omega)):=zMt hpre (yPz (by omega))
   rw[this]at e;exact e
  exact hle4.get h1
 have hren:∀p n hd,z6 p ren=some n→tl[p]? =some hd→E4.tab[n]? =some hd:=by
  intro p n hd hp ht
  rcases hre p n hp with rfl|⟨h1,h2⟩
  ·show(E1.tab++tl)[N+p]? =some hd
   rw[← hN,yQv (by omega),show E1.tab.length+p-E1.tab.length=p by omega]
   exact ht
  ·obtain⟨hd',e1,e2⟩:=hloc p n h1
   rw[ht]at e2;cases e2
   exact hlow3 n h2 _ e1
 refine⟨E4,hle4,⟨by show(E1.tab++tl).length=N+m;rw[yOw,htl,hN],?_⟩,?_⟩
 ·have H:=r1.rel.frontL
  have H1:=jC (g:=rHP ⟨E3.F,tl⟩) (fun r y hy=>by
   rcases hy with⟨e1,e2⟩|⟨n,h1,h2⟩
   ·exact .inl ⟨e1,e2⟩
   ·right
    obtain⟨hd,h3,h4⟩:=h2 E3 π3 (Ev.le.refl _) (Ext.refl _) tl hloc
    obtain⟨hd',h5,h6⟩:=hloc _ _ h1
    rw[h3]at h5;cases h5
    exact⟨hd,h6,h4⟩) H
  have H2:=cI (E:=⟨E3.F,tl⟩) (E2:=E4) rfl hren H1
  have H3:Hp k w (s3.rows.map (rHP E3)++((x3 ren 0 (x.rows i)).map (rHP E4)++fz E3.F::L)):=by
   refine H2.perm ?_
   rw[← yPb,← yPb]
   exact yQo.append_right _
  have H4:=hkept E4 rfl hle4 hlow3 _ H3
  refine H4.perm ?_
  show(kept.map (rHP E4)++((x3 ren 0 (x.rows i)).map (rHP E4)++fz E3.F::L)).Perm ((x3 ren 0 (x.rows i)++kept).map (rHP E4)++fz E4.F::L)
  rw[← yPb,yPc]
  exact yQo.append_right _
 ·intro t
  have hsl:VRL ⟨E3.F,tl⟩ (zOx (x.slots i)) ((x.slots i).map fun p=>ρ p.1):=q2 E3 π3 r1.le r1.ext tl hloc
  unfold rP
  split
  ·rename_i v hv
   exact(zQa hsl hv).ren hren
  ·cases hb:cL t as
   ·exact(hfix t hb).mono hle4
   ·simp only[cond_true,VR]
theorem pJ {w:World} {E:Ev} {keep:Nat→Bool}:∀{l:List (Nat×AObj)} {M:List HP},Hp k w (l.map (rHP E)++M)→Hp k w ((xZ keep l).map (rHP E)++M)
 |[],M,H=>H
 |(n,o)::l,M,H=>by
  simp only[xZ]
  cases keep n
  ·exact pJ H.drop
  ·have H1:Hp k w (l.map (rHP E)++(rHP E (n,o)::M)):=H.perm yPg.symm
   exact(pJ H1).perm yPg
theorem zKq {E:Ev} {env:Env} {K:yQ→Prop}:∀{l:List (Nat×Value)} {ρ:yQ},zSw l ρ K→EnvR E ρ env→∃ρ',EnvR E ρ' env∧K ρ'
 |[],ρ,h,_=>h.elim
 |(t,x)::l,ρ,h,he=>by
  rcases h with h|h
  ·unfold yJq at h
   split at h<;>first|exact h.elim|skip
   rename_i y hy
   obtain⟨rfl,hk⟩:=h
   refine⟨_,fun u=> ?_,hk⟩
   have:=he u
   cases hb:Nat.beq u t
   ·exact this
   ·rw[yOv hb]at this ⊢
    rw[hy]at this
    exact this
  ·exact zKq h he
theorem zRm {H:Hnd} (hH:HOk P H) (hm:P.follows .mixedOrders=true) {J:List (Nat×SAnn)} {n:Nat}:∀(c:Code) (an:List SAnn) (Q:Exit→yQ→St→Prop) (A:Nat→Bool) (e0:Env) (E0 E:Ev) (a:Act) (w:World) (ρS:yQ) (s:St),
 okC n c=true→(∀t∈asg c,A t=true)→Good n A e0 a→E0.le E→Rel k L E s w→EnvR E ρS (yF a)→scode P H J an c Q ρS s→c.wp P (zXr k L n A e0 E0 Q) a w:=by
 intro c
 induction c with
 |skip=>intro an Q A e0 E0 E a w ρS s _ _ hg hle R he h;exact wp_skip ⟨hg,E,ρS,s,hle,R,he,h⟩
 |region id ops d=>
  intro an Q A e0 E0 E a w ρS s hc hA hg hle R he h
  simp only[okC,yPh]at hc
  have hdst:=zRq (A:=A) hc.1 hA
  cases d
  ·refine wp_region_list ?_
   exact zDh (Q:=zXr k L n A e0 E0 Q) (E0:=E0) (K:=Q .normal) hH (fun a w E ρS s hg hle R he h=>⟨hg,E,ρS,s,hle,R,he,h⟩) ops.toList a w E ρS s hdst hg hle R he h
  ·refine wp_region_any hm ?_
   have hok:aW ops.toList (wK ops.toList [])=true:=hc.2
   have he':EnvR E ρS (yF a):=he
   have R':Rel k L E s w.drew:=⟨R.nx,R.hp.drew⟩
   refine wY (Q:=fun a w=>zXr k L n A e0 E0 Q .normal a w) (fun _ _ h=>h) ops.size _ _ _ (M:=[]) (bf:=wK ops.toList []) ?_
   have hclosed:mK ops.toList (xM (Array.replicate ops.toList.length false)):=by
    intro i o ho hi
    exfalso
    unfold xM at hi
    simp[yQi]at hi
    rw[yUa]at hi
    split at hi<;>simp at hi
   have:=zRu (P:=P) (K:=Q .normal) (E0:=E0) (Q:=fun a w=>zXr k L n A e0 E0 Q .normal a w) hH hok hdst (fun a w E ρS s hg hle R he h=>⟨hg,E,ρS,s,hle,R,he,h⟩) ops.toList.length _ [] [] a _ E ρS s hclosed (fun m hm=>by cases hm) .nil hg hle R' he' h
   simpa using this
 |seq x y ihx ihy=>
  intro an Q A e0 E0 E a w ρS s hc hA hg hle R he h
  simp only[okC,yPh,asg,yPv]at hc hA
  simp only[scode]at h
  split at h
  ·refine wp_seq (wp_mono (ihx _ _ A e0 E0 E a w ρS s hc.1 (fun t ht=>hA t (.inl ht)) hg hle R he h) ?_)
   rintro e a' w' ⟨hg',E',ρ',s',hle',R',he',h'⟩
   cases e<;>first|exact ihy _ _ A e0 E0 E' a' w' ρ' s' hc.2 (fun t ht=>hA t (.inr ht)) hg' hle' R' he' h'|exact⟨hg',E',ρ',s',hle',R',he',h'⟩
  rename_i jn hjn
  split at h
  ·rename_i t0 ts hts
   refine wp_seq (wp_mono (ihx _ _ A e0 E0 E a w ρS s hc.1 (fun t ht=>hA t (.inl ht)) hg hle R he h) ?_)
   rintro e a' w' ⟨hg',E',ρ',s',hle',R',he',h'⟩
   cases e<;>first|exact⟨hg',E',ρ',s',hle',R',he',h'⟩|skip
   obtain⟨E2,hle2,R2⟩:=zLb (ρ:=ρ') (t0::ts) R'
   exact ihy _ _ A e0 E0 E2 a' w' ρ' _ hc.2 (fun t ht=>hA t (.inr ht)) hg' (hle'.trans hle2) R2 (he'.mono hle2) h'
  split at h
  ·rename_i l0 ls hls
   refine wp_seq (wp_mono (ihx _ _ A e0 E0 E a w ρS s hc.1 (fun t ht=>hA t (.inl ht)) hg hle R he h) ?_)
   rintro e a' w' ⟨hg',E',ρ',s',hle',R',he',h'⟩
   cases e<;>first|exact⟨hg',E',ρ',s',hle',R',he',h'⟩|skip
   obtain⟨ρ2,he2,h2⟩:=zKq h' he'
   exact ihy _ _ A e0 E0 E' a' w' ρ2 s' hc.2 (fun t ht=>hA t (.inr ht)) hg' hle' R' he2 h2
  ·obtain⟨i0,h⟩:=h
   obtain⟨E1,s1,π1,hle1,⟨I,hround⟩,_,hwf1,hn1,hmk⟩:=eE (x:=jn.ent) h R he (fun p n e=>by cases e)
   obtain⟨hlow,hbody,hrest⟩:=zN hround
   have hnlt:∀p q,z6 p (qV π1 0 (jn.rows0 i0))=some q→z6 p π1=some q∧q<s1.nx:=fun p q e=>by
    have h1:=nV e
    obtain⟨hd,h2⟩:=hwf1 p q h1
    exact⟨h1,by rw[← hn1];exact(yOt.1 h2).1⟩
   have hfix0:∀t,cL t []=false→VR E1 (ρS t) (yF a t):=fun t _=>(he t).mono hle1
   obtain⟨E2,hle2,R2,he2⟩:=hmk E1 (xZ jn.keep s1.rows) s1.nx ρS [] (zGe s1.nx (qV π1 0 (jn.rows0 i0)) (jn.rows0 i0).length) (fun p q e=>(zFh e).imp_right (hnlt p q)) hn1 (FLe.refl _) (ySt _) (fun E4 _ hle4 _ M H=>jC (fun r y=>rHP.mono hle4 r) (pJ H)) hfix0
   have hgB:Good n (fun t=>A t && cL t (asg x)) (yF a) a:=⟨hg.size,hg.defers,fun _ _=>rfl⟩
   refine wp_seq (wp_mono (ihx _ _ (fun t=>A t && cL t (asg x)) (yF a) E2 E2 a w _ _ hc.1 (fun t ht=>by rw[hA t (.inl ht),memN_iff.2 ht];rfl) hgB (Ev.le.refl _) R2 he2 hbody) ?_)
   rintro e a2 w2 ⟨hg2,E3,ρ3,s3,hle3,R3,he3,h2⟩
   have hg3:Good n A e0 a2:=⟨hg2.size,hg2.defers,fun t ht=>by rw[hg2.same t (by simp[ht]),hg.same t ht]⟩
   have hle03:E0.le E3:=hle.trans (hle1.trans (hle2.trans hle3))
   cases e<;>first|exact⟨hg3,E3,ρ3,s3,hle03,R3,he3,h2⟩|skip
   obtain⟨i',h2⟩:=h2
   have hw3:WfM (qV π1 0 (jn.rows0 i0)) E3.tab:=fun p q e=>by
    obtain⟨hd,h2⟩:=hwf1 p q (hnlt p q e).1
    exact⟨hd,(hle2.trans hle3).get h2⟩
   obtain⟨E4,s4,π4,hle4,⟨hinv',hkept⟩,hext4,_,hn4,hmk'⟩:=eE h2 R3 he3 hw3
   have hfix2:∀t,cL t (asg x)=false→VR E1 (ρS t) (yF a2 t):=fun t ht=>by rw[hg2.same t (by simp[ht])];exact(he t).mono hle1
   obtain⟨E5,hle5,R5,he5⟩:=hmk' E1 (xZ jn.keep s1.rows) s1.nx ρS (asg x) (zGe s1.nx (qV π1 0 (jn.rows0 i0)) (jn.rows i').length) (fun p q e=>(zFh e).imp_right fun h=>⟨hext4 p q h,(hnlt p q h).2⟩) hn1 (hle2.trans (hle3.trans hle4)).1 (hle2.trans (hle3.trans hle4)).2
    (fun E6 hF _ hl M H=>zNd (E3:=E4) (E4:=E6) hF hl hkept hlow H) hfix2
   exact ihy _ _ A e0 E0 E5 a2 w2 _ _ hc.2 (fun t ht=>hA t (.inr ht)) hg3 (hle.trans (hle1.trans hle5)) R5 he5 (hrest i' hinv')
 |cond c x y ihx ihy=>
  intro an Q A e0 E0 E a w ρS s hc hA hg hle R he h
  simp only[okC,yPh,asg,yPv]at hc hA
  simp only[scode]at h
  split at h<;>first|exact h.elim|skip
  rename_i t ht
  have hv:=he.ev c
  rw[ht]at hv
  simp only[VR,DR]at hv
  have hv1:=hv.1
  rw[kJ]at hv1
  refine wp_cond_split hv1 (fun e=> ?_) (fun e=> ?_)
  ·subst e;exact ihx _ _ A e0 E0 E a w ρS s hc.1 (fun t ht=>hA t (.inl ht)) hg hle R he h
  ·subst e;exact ihy _ _ A e0 E0 E a w ρS s hc.2 (fun t ht=>hA t (.inr ht)) hg hle R he h
 |block id x ih=>
  intro an Q A e0 E0 E a w ρS s hc hA hg hle R he h
  refine wp_block (wp_mono (ih an _ A e0 E0 E a w ρS s hc hA hg hle R he h) ?_)
  rintro e a' w' ⟨hg',E',ρ',s',hle',R',he',h'⟩
  cases e<;>first|exact⟨hg',E',ρ',s',hle',R',he',h'⟩|skip
  rename_i id'
  simp only[Exit.inBlock]
  simp only[z4c]at h'
  split
  ·rename_i heq;subst heq;rw[Nat.beq_refl]at h';exact⟨hg',E',ρ',s',hle',R',he',h'⟩
  ·rename_i hne
   have hb:Nat.beq id' id=false:=by
    cases hb:Nat.beq id' id with
    |false=>rfl
    |true=>exact absurd (yOv hb) hne
   rw[hb]at h'
   exact⟨hg',E',ρ',s',hle',R',he',h'⟩
 |loop x ih=>
  intro an Q A e0 E0 E a w ρS s hc hA hg hle R he h
  cases an with
  |nil=>exact h.elim
  |cons an rest=>
   have hh:=uG h
   clear h
   rcases hh with⟨_,h⟩|⟨_,h⟩
   ·refine wp_loop_rounds an.un ?_
    revert h
    generalize an.un=m
    intro h
    induction m generalizing a w E ρS s with
    |zero=>exact h.elim
    |succ m ihm=>
     rw[rounds_succ]
     simp only[z7m]at h
     refine wp_mono (ih rest _ A e0 E0 E a w ρS s hc hA hg hle R he h) ?_
     rintro e a' w' ⟨hg',E',ρ',s',hle',R',he',h'⟩
     cases e<;>first|exact ihm E' a' w' ρ' s' hg' hle' R' he' h'|exact⟨hg',E',ρ',s',hle',R',he',h'⟩
   obtain⟨i0,h⟩:=h
   obtain⟨E1,s1,π1,hle1,⟨I,μ,hinv0,hround⟩,_,hwf1,hn1,hmk⟩:=eE h R he (fun p n e=>by cases e)
   obtain⟨hlow,hround⟩:=zN hround
   have hnlt:∀p q,z6 p (qV π1 0 (an.rows i0))=some q→z6 p π1=some q∧q<s1.nx:=fun p q e=>by
    have h1:=nV e
    obtain⟨hd,h2⟩:=hwf1 p q h1
    exact⟨h1,by rw[← hn1];exact(yOt.1 h2).1⟩
   have hfix0:∀t,cL t (asg x)=false→VR E1 (ρS t) (yF a t):=fun t _=>(he t).mono hle1
   obtain⟨E2,hle2,R2,he2⟩:=hmk E1 (xZ an.keep s1.rows) s1.nx ρS (asg x) (bD s1.nx π1 0 (an.rows i0)) (fun p q e=>(zAa e).imp_right (hnlt p q)) hn1 (FLe.refl _) (ySt _) (fun E4 _ hle4 _ M H=>jC (fun r y=>rHP.mono hle4 r) (pJ H)) hfix0
   refine wp_loop_ghost (fun m a' w'=>Good n A e0 a'∧(∀t,cL t (asg x)=false→yF a' t=yF a t)∧∃i E',E1.le E'∧I i∧Rel k L E' (zIe s1.nx (bD s1.nx π1 0 (an.rows i0)) (an.rows i) (xZ an.keep s1.rows)) w'∧
    EnvR E' (rP (bD s1.nx π1 0 (an.rows i0)) (an.slots i) (asg x) ρS) (yF a')∧μ i=m) (μ i0) ⟨hg,fun _ _=>rfl,i0,E2,hle2,hinv0,R2,he2,rfl⟩ ?_
   rintro m a' w' ⟨hg',hfix,i,E',hle',hinv,R',he',rfl⟩
   have h1:=hround i hinv
   have hgB:Good n (fun t=>A t && cL t (asg x)) (yF a') a':=⟨hg'.size,hg'.defers,fun _ _=>rfl⟩
   refine wp_mono (ih rest _ (fun t=>A t && cL t (asg x)) (yF a') E' E' a' w' _ _ hc (fun t ht=>by rw[hA t ht,memN_iff.2 ht];rfl) hgB (Ev.le.refl _) R' he' h1) ?_
   rintro e a2 w2 ⟨hg2,E3,ρ3,s3,hle3,R3,he3,h2⟩
   have hg3:Good n A e0 a2:=⟨hg2.size,hg2.defers,fun t ht=>by rw[hg2.same t (by simp[ht]),hg'.same t ht]⟩
   have hle03:E0.le E3:=hle.trans (hle1.trans (hle'.trans hle3))
   cases e<;>first|exact⟨hg3,E3,ρ3,s3,hle03,R3,he3,h2⟩|skip
   obtain⟨i',h2⟩:=h2
   have hw3:WfM (qV π1 0 (an.rows i0)) E3.tab:=fun p q e=>by
    obtain⟨hd,h2⟩:=hwf1 p q (hnlt p q e).1
    exact⟨hd,(hle'.trans hle3).get h2⟩
   obtain⟨E4,s4,π4,hle4,⟨hinv',hμ,hkept⟩,hext4,_,hn4,hmk'⟩:=eE h2 R3 he3 hw3
   have hfix2:∀t,cL t (asg x)=false→yF a2 t=yF a t:=fun t ht=>by rw[hg2.same t (by simp[ht]),hfix t ht]
   obtain⟨E5,hle5,R5,he5⟩:=hmk' E1 (xZ an.keep s1.rows) s1.nx ρS (asg x) (bD s1.nx π1 0 (an.rows i0)) (fun p q e=>(zAa e).imp_right fun h=>⟨hext4 p q h,(hnlt p q h).2⟩) hn1 (hle'.trans (hle3.trans hle4)).1 (hle'.trans (hle3.trans hle4)).2
    (fun E6 hF _ hl M H=>zNd (E3:=E4) (E4:=E6) hF hl hkept hlow H) (fun t ht=>by rw[hfix2 t ht];exact hfix0 t ht)
   exact⟨_,hμ,hg3,hfix2,i',E5,hle5,hinv',R5,he5,rfl⟩
 |exit id=>intro an Q A e0 E0 E a w ρS s _ _ hg hle R he h;exact wp_exit ⟨hg,E,ρS,s,hle,R,he,h⟩
 |ret=>intro an Q A e0 E0 E a w ρS s _ _ hg hle R he h;exact wp_ret ⟨hg,E,ρS,s,hle,R,he,h⟩
 |rangeFunc f ps x y ihx ihy=>intro an Q A e0 E0 E a w ρS s _ _ hg hle R he h;exact h.elim
 |scope x ih=>intro an Q A e0 E0 E a w ρS s _ _ hg hle R he h;exact h.elim
 |label l=>intro an Q A e0 E0 E a w ρS s _ _ hg hle R he h;exact h.elim
 |goto l=>intro an Q A e0 E0 E a w ρS s _ _ hg hle R he h;exact h.elim
 |refuse t=>intro an Q A e0 E0 E a w ρS s _ _ hg hle R he h;exact h.elim
open Go Go.RowKit Cv
variable {P:Program} {k:Ko} {L:List HP}
def zMh (P:Program) (ρ:yQ) (s:St):List ResultVar→Option (List V)
 |[]=>some []
 | .tmp t::rs=>match zMh P ρ s rs with
   |some vs=>some (ρ t::vs)
   |none=>none
 | .cell a t::rs=>match ρ a with
   | .nm n off=>match s.get n with
     |some (.cells vs _)=>match zVw P t vs off with
      |some v=>match zMh P ρ s rs with
       |some us=>some (v::us)
       |none=>none
      |none=>none
     |_=>none
   |_=>none
def zKg:List V→V
 |[v]=>v
 |vs=> .tup vs
theorem sI {E:Ev} {s:St} {w:World} (R:Rel k L E s w) {ρS:yQ} {a:Act} (he:EnvR E ρS (yF a)):∀{rs:List ResultVar} {vs:List V},zMh P ρS s rs=some vs→∃ys,(rs.mapM (zOb a.tmps)).run P w= .ok ys w∧VRL E vs ys
 |[],vs,h=>by
  simp only[zMh,Option.some.injEq]at h
  subst h
  exact⟨[],rfl,VRL.nil⟩
 | .tmp t::rs,vs,h=>by
   simp only[zMh]at h
   split at h<;>first|(cases h;done)|skip
   rename_i us hus
   cases h
   obtain⟨ys,h1,h2⟩:=sI R he hus
   refine⟨yF a t::ys,?_,by simp only[VRL];exact⟨_,_,rfl,he t,h2⟩⟩
   simp only[List.mapM_cons,zOb,bind,pure,run_bind,Sem.bind,Sem.run]at h1 ⊢
   rw[h1]
 | .cell c t::rs,vs,h=>by
   simp only[zMh]at h
   split at h<;>first|(cases h;done)|skip
   rename_i n off hc
   split at h<;>first|(cases h;done)|skip
   rename_i cs T hg
   split at h<;>first|(cases h;done)|skip
   rename_i v hp
   split at h<;>first|(cases h;done)|skip
   rename_i us hus
   cases h
   obtain⟨ys,h1,h2⟩:=sI R he hus
   have hv:=he c
   rw[hc]at hv
   simp only[VR]at hv
   obtain⟨b,oo,l,e1,e2⟩:=hv
   obtain⟨b',l',sub,q1,q2,q3⟩:=R.cells hg
   rw[e1]at q1;cases q1
   obtain⟨y,hy,hh⟩:=zDd q2 q3 hp
   refine⟨y::ys,?_,by simp only[VRL];exact⟨_,_,rfl,hy,h2⟩⟩
   rw[yPr]at e2
   have e2':a.tmps.getD c undef= .pointer (some ⟨b,off,none⟩):=e2
   unfold pB at hh
   simp only[List.mapM_cons,zOb,bind,pure,run_bind,Sem.bind,Sem.run,e2',asAddr,hh]at h1 ⊢
   rw[h1]
def fnS (P:Program) (fn:Func) (K:V→St→Prop):Exit→yQ→St→Prop
 | .normal,ρ,s=>optK (zMh P ρ s fn.results.toList) fun vs=>K (zKg vs) s
 | .ret,ρ,s=>optK (zMh P ρ s fn.results.toList) fun vs=>K (zKg vs) s
 |_,_,_=>False
def z2j:List V→Nat→V
 |[],_=> .top
 |v::_,0=>v
 |_::l,n+1=>z2j l n
def zFu (args:List V):yQ:=fun t=>z2j args t
theorem zXd {E:Ev}:∀{vs:List V} {ys:List Value},VRL E vs ys→∀t,VR E (z2j vs t) (ys.getD t undef)
 |[],ys,h,t=>by simp only[z2j,VR]
 |v::vs,ys,h,t=>by
  simp only[VRL]at h
  obtain⟨x,xs,rfl,h1,h2⟩:=h
  cases t with
  |zero=>exact h1
  |succ t=>simpa[z2j]using zXd h2 t
theorem sY {f:FuncId} {args:Array Value} {w:World} {K:Value→World→Prop} (hb:wB P f=true) (h:Calls P f args w fun e w'=>∃v,e= .returned v∧K v w'):Does P (callFunc f args) w K:=by
 unfold wB at hb
 split at hb
 ·rename_i fn hfn
  simp only[yPh,yTc,Bool.not_eq_eq_eq_not,Bool.not_true]at hb
  unfold Does
  have:(callFunc f args).run P w= .ok (.enter f args) w:=by
   simp only[callFunc,bind,pure,run_bind,program,Sem.run,Sem.bind,hfn,hb.1,hb.2,yPi,if_false]
  rw[this]
  exact h
 ·cases hb
theorem nR {H:Hnd} (hH:HOk P H) (hm:P.follows .mixedOrders=true) {f:FuncId} {fn:Func} {c:Code} (hf:P.funcs[f]? =some fn) (hb:fn.body=some c) (hok:okC fn.ntmps c=true) (J:List (Nat×SAnn)) (an:List SAnn)
 {args:List V} (hsz:Nat.ble args.length fn.ntmps=true) {K:V→St→Prop} {s:St} (h:scode P H J an c (fnS P fn K) (zFu args) s) {E:Ev} {w:World} {ys:List Value} (R:Rel k L E s w) (hv:VRL E args ys):
 Calls P f ys.toArray w fun e w'=>∃v,e= .returned v∧Outc k L E K v w':=by
 refine calls_of_wp hf hb ?_
 have hsz:=yQy hsz
 have hlen:=hv.length
 have hg:Good fn.ntmps (fun _=>true) (wM ys) {tmps:=ys.toArray++Array.replicate (fn.ntmps-ys.toArray.size) undef,defers:=[]}:=
  ⟨by simp;omega,rfl,fun s hs=>by cases hs⟩
 have henv:yF {tmps:=ys.toArray++Array.replicate (fn.ntmps-ys.toArray.size) undef,defers:=[]}=wM ys:=by
  funext i
  simp only[yF,wM,yQi,yPa,Array.getElem?_append]
  split
  ·simp
  ·rename_i hlt
   simp at hlt
   rw[yPt hlt,yUa]
   split<;>rfl
 have he:EnvR E (zFu args) (yF {tmps:=ys.toArray++Array.replicate (fn.ntmps-ys.toArray.size) undef,defers:=[]}):=by
  rw[henv]
  intro t
  exact zXd hv t
 refine wp_mono (zRm hH hm c an _ (fun _=>true) (wM ys) E E _ w _ s hok (fun _ _=>rfl) hg (Ev.le.refl _) R he h) ?_
 have fin:∀{a':Act} {w':World} {E':Ev} {ρ':yQ} {s':St},Good fn.ntmps (fun _=>true) (wM ys) a'→E.le E'→Rel k L E' s' w'→EnvR E' ρ' (yF a')→(optK (zMh P ρ' s' fn.results.toList) fun vs=>K (zKg vs) s')→
  ∃v,(results fn a'.tmps).run P w'= .ok v w'∧∃v',Ending.returned v= .returned v'∧Outc k L E K v' w':=by
  intro a' w' E' ρ' s' hg' hle' R' he' h'
  obtain⟨vs,hvs,hk⟩:=zK h'
  obtain⟨zs,h1,h2⟩:=sI R' he' hvs
  refine⟨eZ zs,?_,_,rfl,E',zKg vs,s',hle',R',?_,hk⟩
  ·unfold results
   rw[Array.mapM_eq_mapM_toList,map_eq_pure_bind,bind_assoc]
   exact zCy h1 _ (fun r=>by cases r<;>rfl)
  ·rcases vs with _|⟨v,_|⟨u,vs⟩⟩
   ·simp only[VRL]at h2;subst h2
    simp only[zKg,eZ,VR];exact⟨[],rfl,VRL.nil⟩
   ·simp only[VRL]at h2
    obtain⟨x,xs,rfl,h3,rfl⟩:=h2
    exact h3
   ·have h20:=h2
    simp only[VRL]at h2
    obtain⟨x,xs,rfl,h3,y,ys',rfl,h4,h5⟩:=h2
    simp only[zKg,eZ,VR];exact⟨_,rfl,h20⟩
 rintro e a' w' ⟨hg',E',ρ',s',hle',R',he',h'⟩
 cases e<;>first|exact h'.elim|skip
 ·obtain⟨v,h1,h2⟩:=fin hg' hle' R' he' h'
  exact⟨hg'.defers,v,h1,h2⟩
 ·obtain⟨v,h1,h2⟩:=fin hg' hle' R' he' h'
  exact⟨hg'.defers,v,h1,h2⟩
theorem sC {H:Hnd} (hH:HOk P H) (hm:P.follows .mixedOrders=true) {f:FuncId} {fn:Func} {c:Code} (hf:P.funcs[f]? =some fn) (hb:fn.body=some c) (hbd:wB P f=true) (hok:okC fn.ntmps c=true) (J:List (Nat×SAnn)) (an:List SAnn)
 {args:List V} (hsz:Nat.ble args.length fn.ntmps=true) {K:V→St→Prop} {s:St} (h:scode P H J an c (fnS P fn K) (zFu args) s) {E:Ev} {w:World} {ys:List Value} (R:Rel k L E s w) (hv:VRL E args ys):
 Does P (callFunc f ys.toArray) w (Outc k L E K):=sY hbd (nR hH hm hf hb hok J an hsz h R hv)
def E0 (w:World):Ev:=⟨fun b=>w.heap[b]?,[]⟩
theorem yNy (w:World) (hG:GTab fun b=>w.heap[b]?):Rel (Cv.ko w) [] (E0 w) ⟨[],0⟩ w:=⟨rfl,(Hp.start w).imp fun x hx=>⟨hx,hG⟩⟩
def yKh (f:Nat):List (Nat×Con)→Option Con
 |[]=>none
 |(g,C)::l=>bif Nat.beq g f then some C else yKh f l
def GOk (P:Program):List (Nat×Con)→Prop
 |[]=>True
 |(f,C)::l=>C.ok P f∧GOk P l
def z6n (f:Nat):List (Nat×Con)→Bool
 |[]=>false
 |(g,_)::l=>bif Nat.beq g f then true else z6n f l
def zLf (f:Nat) (args:List V) (s:St) (K:V→St→Prop):List (Nat×Con)→Prop
 |[]=>False
 |(g,C)::l=>bif Nat.beq g f then(bif z6n f l then C.call args s K∨zLf f args s K l else C.call args s K)else zLf f args s K l
theorem rJ {f:Nat} {args:List V} {s:St} {K:V→St→Prop}:∀{G:List (Nat×Con)},GOk P G→zLf f args s K G→∃C:Con,C.ok P f∧C.call args s K
 |[],_,h=>h.elim
 |(g,C)::l,hG,h=>by
  simp only[zLf]at h
  cases hb:Nat.beq g f with
  |false=>rw[hb]at h;exact rJ hG.2 h
  |true=>
   rw[hb]at h
   have e:=yOv hb
   subst e
   cases hl:z6n g l with
   |false=>rw[hl]at h;exact⟨C,hG.1,h⟩
   |true=>
    rw[hl]at h
    rcases h with h|h
    ·exact⟨C,hG.1,h⟩
    ·exact rJ hG.2 h
def hnd (P:Program) (G:List (Nat×Con)):Nat→Hnd
 |0,f,args,s,K=>match z6n f G with
  |true=>zLf f args s K G
  |false=>False
 |d+1,f,args,s,K=>match z6n f G with
  |true=>zLf f args s K G
  |false=>match P.funcs[f]? with
   |some fn=>match fn.body with
    |some c=>bif wB P f && okC fn.ntmps c && Nat.ble args.length fn.ntmps then scode P (hnd P G d) [] [] c (fnS P fn K) (zFu args) s else False
    |none=>False
   |none=>False
theorem z4e (hm:P.follows .mixedOrders=true) {G:List (Nat×Con)} (hG:GOk P G):∀d,HOk P (hnd P G d):=by
 intro d
 induction d with
 |zero=>
  intro f args s K h k L E w ys R hv
  simp only[hnd]at h
  split at h<;>first|exact h.elim|skip
  obtain⟨C,h1,h2⟩:=rJ hG h
  exact Con.call_sound h1 h2 R hv
 |succ d ih=>
  intro f args s K h k L E w ys R hv
  simp only[hnd]at h
  split at h
  ·obtain⟨C,h1,h2⟩:=rJ hG h
   exact Con.call_sound h1 h2 R hv
  ·split at h<;>first|exact h.elim|skip
   rename_i fn hfn
   split at h<;>first|exact h.elim|skip
   rename_i c hc
   obtain⟨hb,h⟩:=zN h
   simp only[yPh]at hb
   exact sC ih hm hfn hc hb.1.1 hb.1.2 [] [] hb.2 h R hv
def zUo:Nat→NM
 |0=>[]
 |m+1=>(m,m)::zUo m
theorem zPk:∀{m p:Nat},p<m→z6 p (zUo m)=some p
 |m+1,p,h=>by
  simp only[zUo,z6]
  cases hb:Nat.beq m p
  ·have:m≠p:=fun e=>by subst e;simp at hb
   exact zPk (by omega)
  ·rw[← yOv hb];rfl
theorem eW:∀{m p q:Nat},z6 p (zUo m)=some q→p<m∧q=p
 |0,p,q,h=>by cases h
 |m+1,p,q,h=>by
  simp only[zUo,z6]at h
  cases hb:Nat.beq m p
  ·rw[hb]at h
   obtain⟨h1,h2⟩:=eW h
   exact⟨by omega,h2⟩
  ·rw[hb]at h
   have:=yOv hb
   simp only[cond_true,Option.some.injEq]at h
   exact⟨by omega,by omega⟩
def yBj (m:Nat) (v:V) (s:St) (a:Alt):Prop:=
 ∃o,mtV (a.res o) v (zUo m) s fun π s=>mtR 0 (a.post o) π s fun π _=>bif mG (a.post o).length π && Nat.ble m (a.post o).length then a.rel o else False
def yFn (m:Nat) (v:V) (s:St):List Alt→Prop
 |[]=>False
 |[a]=>yBj m v s a
 |a::l=>yBj m v s a∨yFn m v s l
theorem zGb {m:Nat} {v:V} {s:St}:∀{l:List Alt},yFn m v s l→∃a∈l,yBj m v s a
 |[a],h=>⟨a,by simp,h⟩
 |a::b::l,h=>by
  rcases h with h|h
  ·exact⟨a,by simp,h⟩
  ·obtain⟨c,h1,h2⟩:=zGb h
   exact⟨c,yOz _ h1,h2⟩
theorem zXm {w:World} {m:Nat} {v:V} {s:St} {a:Alt} {E0 E:Ev} (h:yBj m v s a) (hn:E0.tab.length=m) (hle:E0.le E) (R:Rel k L E s w) {y:Value} (hv:VR E v y):
 ∃o,a.rel o∧∃E',E0.le E'∧VR E' (a.res o) y∧Rel k L E' ⟨vK 0 (a.post o),(a.post o).length⟩ w:=by
 obtain⟨o,h⟩:=h
 have hid:WfM (zUo m) E.tab:=fun p n e=>by
  obtain⟨h1,rfl⟩:=eW e
  exact⟨E0.tab[n]'(by omega),hle.get (yPz (by omega))⟩
 obtain⟨E1,π1,s1,q1,q2,q3⟩:=zUd h R hid hv
 obtain⟨E2,π2,s2,r1,r2⟩:=zMi q3 q1.rel q1.wf
 obtain⟨hb,hrel⟩:=zN r2
 simp only[yPh]at hb
 have hlt:=fV hb.1
 have hmq:=yQy hb.2
 let q:=(a.post o).length
 let tl:List Hd:=(List.range q).map fun p=>(E2.tab[(z6 p π2).getD 0]?).getD (undef,[])
 have hget:∀p,p<q→tl[p]? =some ((E2.tab[(z6 p π2).getD 0]?).getD (undef,[])):=fun p hp=>by
  show((List.range q).map _)[p]? =_
  rw[yQg,ySn hp];rfl
 have hloc:Loc π2 E2.tab tl:=by
  intro p n hp
  obtain⟨hd,h'⟩:=r1.wf p n hp
  refine⟨hd,h',?_⟩
  rw[hget p (hlt p n hp)]
  simp only[hp,yQt,h']
 have hle2:E0.le E2:=hle.trans (q1.le.trans r1.le)
 have hpre:E0.tab<+:tl:=by
  refine⟨tl.drop m,?_⟩
  apply yTd
  intro p
  by_cases hp:p<m
  ·rw[yRs (by omega)]
   have hpl:z6 p π2=some p:=r1.ext _ _ (q1.ext _ _ (zPk hp))
   have e1:E0.tab[p]? =some (E0.tab[p]'(by omega)):=yPz (by omega)
   rw[hget p (by omega),hpl,yQt,hle2.get e1,e1];rfl
  ·rw[yQv (by omega),yRo,hn,show m+(p-m)=p by omega]
 refine⟨o,hrel,⟨E2.F,tl⟩,⟨hle2.1,hpre⟩,q2 E2 π2 r1.le r1.ext tl hloc,⟨by simp[tl,q],?_⟩⟩
 have H:=r1.rel.frontL
 have H1:=jC (g:=rHP ⟨E2.F,tl⟩) (fun r x hx=>by
  rcases hx with⟨e1,e2⟩|⟨n,h1,h2⟩
  ·exact .inl ⟨e1,e2⟩
  ·right
   obtain⟨hd,h3,h4⟩:=h2 E2 π2 (Ev.le.refl _) (Ext.refl _) tl hloc
   obtain⟨hd',h5,h6⟩:=hloc _ _ h1
   rw[h3]at h5;cases h5
   exact⟨hd,h6,h4⟩) H
 have H2:Hp k w (s2.rows.map (rHP E2)++((vK 0 (a.post o)).map (rHP ⟨E2.F,tl⟩)++fz E2.F::L)):=by
  refine H1.perm ?_
  rw[← yPb,← yPb]
  exact yQo.append_right _
 have hdrop:∀(l:List (Nat×AObj)) {M:List HP},Hp k w (l.map (rHP E2)++M)→Hp k w M:=by
  intro l
  induction l with
  |nil=>intro M H;exact H
  |cons a l ih=>intro M H;exact ih H.drop
 exact hdrop _ H2
def walk (P:Program) (G:List (Nat×Con)) (d:Nat) (J:List (Nat×SAnn)) (an:List SAnn) (op:List Nat) (fn:Func) (c:Code) (args:List V) (rows:List AObj) (alts:List Alt):Prop:=
 scode P (hnd P G d) J an c (fnS P fn fun v s=>yFn rows.length v s alts) (zFu args) (zOf op ⟨vK 0 rows,rows.length⟩)
theorem dW (hm:P.follows .mixedOrders=true) {f:FuncId} {fn:Func} {c:Code} {C:Con} (G:List (Nat×Con)) (hG:GOk P G) (d:Nat) (J:C.ι→List (Nat×SAnn)) (an:C.ι→List SAnn) (op:List Nat) (hf:P.funcs[f]? =some fn) (hb:fn.body=some c) (hbd:wB P f=true) (hok:okC fn.ntmps c=true)
 (hsz:∀i,Nat.ble (C.pat i).length fn.ntmps=true) (h:∀i,C.cnd i→walk P G d (J i) (an i) op fn c (C.pat i) (C.pre i) (C.alts i)):C.ok P f:=by
 intro i hc k L E w ys R hv
 obtain⟨E1,hle,R1⟩:=zHf op R
 refine(sC (z4e hm hG d) hm hf hb hbd hok (J i) (an i) (hsz i) (h i hc) R1 (hv.mono hle)).mono ?_
 rintro y w' ⟨E',v,s',hle',R',hv',hk⟩
 obtain⟨a,ha,hend⟩:=zGb hk
 obtain⟨o,h1,E2,h2,h3,h4⟩:=zXm hend R.nx (hle.trans hle') R' hv'
 exact⟨a,ha,o,h1,E2,h2,h3,h4⟩
def fE (t:TypeId):Con where
 ι:=List (Value×List D)
 pat:=fun _=>[.ifc t (.mp 0)]
 pre:=fun es=>[.map es]
 cnd:=fun _=>True
 alts:=fun es=>[{o:=Unit,res:=fun _=> .ifc t (.mp 1),post:=fun _=>[.map es,.map es],rel:=fun _=>True}]
theorem zUs {f : FuncId} {fn : Func} (hf : P.funcs[f]? = some fn) (hname : (fn.name == "runtime.NumGoroutine") = false) (hb : fn.body.isNone = true) (hn : Extern.findNext fn = none) (he : Extern.find fn = some Extern.MapsClone.clone) (t : TypeId) : (fE t).ok P f := by
 intro es _ k L E w ys R hv
 simp only[fE,VRL,VR]at hv
 obtain⟨y,_,rfl,⟨z,rfl,b,sub,e1,rfl⟩,rfl⟩:=hv
 have hg:(⟨vK 0 [.map es],1⟩:St).get 0=some (.map es):=rfl
 obtain⟨hd,x,q1,q2,q3⟩:=R.row hg (by simp)
 rw[e1]at q1;cases q1
 simp only[rowHP]at q2
 obtain⟨b',ents,ck,e4,e5,e6,rfl⟩:=q2
 cases e4
 have hm:=q3 b _ (by simp[one];rfl)
 have hrun:(Extern.MapsClone.clone #[.iface t (.map (some b))]).run P w= .ok (.iface t (.map (some w.heap.size))) (w.alloc (.map ents.toArray ck)):=by
  have e:Extern.MapsClone.clone #[.iface t (.map (some b))]=(getObj b>>=fun o=>match o with
   | .map entries clock=>(newObj (.map entries clock)>>=fun n=>pure (.iface t (.map (some n))))
   | _ => stuck "maps.clone: a map expected") := rfl
  rw[e]
  simp only[bind,run_bind,xN hm trivial]
  rfl
 unfold Does
 rw[run_callFunc_extern hf hname hb hn he,hrun]
 simp only[Result.andThen]
 have hfresh:rowHP E.F (.map es) (E.tab++[(.map (some w.heap.size),[])]) (.map (some w.heap.size),[]) (one w.heap.size (.map ents.toArray ck)):=by
  simp only[rowHP];exact⟨_,ents,ck,rfl,e5,e6,rfl⟩
 obtain⟨h1,h2,h3⟩:=R.new hfresh
 refine⟨_,yQr.2 rfl,(),trivial,_,h1,by simp only[VR];exact⟨_,rfl,_,_,h3,rfl⟩,⟨h2.nx,h2.hp.perm ?_⟩⟩
 exact .swap _ _ _
theorem zNn {E:Ev} {s:St} {w w':World} (hle:(E0 w).le E) (R:Rel (Cv.ko w) [] E s w'):Below w.heap.size w w':=by
 have hfr:=R.frozen
 obtain⟨h1,h2,h3⟩:=R.hp.1
 have hblk:∀b,b<w.heap.size→w'.heap[b]? =w.heap[b]? :=fun b hb=>by
  have:w.heap[b]? =some w.heap[b]:=ySw hb
  rw[this];exact hfr b _ (hle.1 b _ this)
 refine⟨h1,h2,h3,?_,hblk⟩
 rcases yRn w'.heap.size w.heap.size with hlt|hge
 ·have:=hblk w'.heap.size hlt
  rw[yRl (yPy _),ySw hlt]at this
  cases this
 ·exact hge
theorem calls_of_walk (hm:P.follows .mixedOrders=true) {f:FuncId} {fn:Func} {c:Code} (G:List (Nat×Con)) (hG:GOk P G) (d:Nat) (J:List (Nat×SAnn)) (an:List SAnn) (hf:P.funcs[f]? =some fn) (hb:fn.body=some c) (hok:okC fn.ntmps c=true)
 {args:List V} {alts:List Alt} (hsz:Nat.ble args.length fn.ntmps=true) (h:walk P G d J an [] fn c args [] alts) {w:World} (hG0:GTab fun b=>w.heap[b]?) {ys:List Value} (hv:VRL (E0 w) args ys):
 Calls P f ys.toArray w fun e w'=>∃y,e= .returned y∧Below w.heap.size w w'∧∃a∈alts,∃o,a.rel o∧∃E',VR E' (a.res o) y:=by
 refine(nR (z4e hm hG d) hm hf hb hok J an hsz h (yNy w hG0) hv).mono ?_
 rintro e w' ⟨y,he,E',v,s',hle,R,hvr,hk⟩
 obtain⟨a,ha,hend⟩:=zGb hk
 obtain⟨o,h1,E2,h2,h3,h4⟩:=zXm hend rfl hle R hvr
 exact⟨y,he,zNn hle R,a,ha,o,h1,E2,h3⟩
open Go Cv
@[reducible] def zA (n:Int):V:= .d (.v (.int .i64 n))
@[reducible] def n8 (n:Int):V:= .d (.v (.int .u64 n))
@[reducible] def yB (b:Bool):V:= .d (.v (.bool b))
@[reducible] def roV (sz:Nat) (els:List (List D)):V:= .d (.ro sz els)
def eQ:V:= .tup []
@[reducible] def con1 (ι:Type) (pat:ι→List V) (pre:ι→List AObj) (cnd:ι→Prop) (res:ι→V) (post:ι→List AObj):Con where
 ι:=ι
 pat:=pat
 pre:=pre
 cnd:=cnd
 alts:=fun i=>[{o:=Unit,res:=fun _=>res i,post:=fun _=>post i,rel:=fun _=>True}]
def bE (l:List UInt8):List (List D):=l.map fun b=>[.v (.int .u8 b.toNat)]
@[simp] theorem yNb (a b:List UInt8):bE (a++b)=bE a++bE b:=by simp[bE]
@[simp] theorem yNg:bE []=[]:=rfl
@[simp] theorem bE_len (a:List UInt8):(bE a).length=a.length:=by simp[bE]
theorem yBn (a:List UInt8) (n:Nat):bE (a.take n)=(bE a).take n:=by simp[bE]
theorem z9p (a:List UInt8) (n:Nat):bE (a.drop n)=(bE a).drop n:=by simp[bE]
def lob (n:Int):UInt8:=UInt8.ofNat (n % 256).toNat
def le (n:Int):Nat→List UInt8
 |0=>[]
 |k+1=>lob n::le (n / 256) k
theorem cK (k:Nat):∀n:Int,(le n k).length=k:=by
 induction k with
 |zero=>intro n;rfl
 |succ k ih=>intro n;simp[le,ih]
theorem z9q (k:Nat):∀n:Int,le n (k+1)=le n k++[lob (n / 256 ^ k)]:=by
 induction k with
 |zero=>intro n;simp[le]
 |succ k ih=>
  intro n
  have:n / 256 / 256 ^ k=n / 256 ^ (k+1):=by
   rw[Int.ediv_ediv_of_nonneg (by omega),yTo,yTp]
  rw[le,ih,le,this,yQe]
theorem zWu (n:Int):IntKind.u8.wrap n=((lob n).toNat:Int):=by
 have:(IntKind.u8.wrap n)=n % 256:=rfl
 rw[this]
 unfold lob
 have h1:(n % 256).toNat<256:=by omega
 rw[UInt8.toNat_ofNat_of_lt' (by simpa using h1)]
 omega
theorem w64 {x:Int} (h: -9223372036854775808≤x∧x≤9223372036854775807):IntKind.i64.wrap x=x:=Cv.wrap_i64 h.1 h.2
theorem lF {x:Int} (h:0≤x∧x<18446744073709551616):IntKind.u64.wrap x=x:=by
 have:IntKind.u64.wrap x=x % 18446744073709551616:=rfl
 rw[this];omega
theorem eF (k:IntKind) (a:Int) (b:Nat) (h:b≤k.bits):mP k a b=a / 2 ^ b:=by
 unfold mP
 rw[show min (Int.toNat (b:Int)) k.bits=b by simp;omega]
 rw[Int.fdiv_eq_ediv_of_nonneg]
 exact Int.pow_nonneg (by omega)
theorem zI {p:Prop} [Decidable p] {A B:Prop} (h1:p→A) (h2:¬p→B):cnd (decide p) A B:=Cv.cnd.mk (fun h=>h1 (yRk h)) (fun h=>h2 (yUk h))
theorem gok0 {P:Program}:GOk P []:=trivial
theorem gokc {P:Program} {f:Nat} {C:Con} {l:List (Nat×Con)} (h:C.ok P f) (hl:GOk P l):GOk P ((f,C)::l):=⟨h,hl⟩
end Sx
