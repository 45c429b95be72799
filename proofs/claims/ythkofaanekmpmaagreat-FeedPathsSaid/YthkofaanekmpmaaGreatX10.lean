/- Texts of ours, one behind the other: a walk that the kernel reckons, and contracts of functions. No condition. -/
import Derived.Test.YthkofaanekmpmaaGreatX9
namespace Sx
set_option linter.unusedVariables false
set_option linter.unusedSimpArgs false
set_option maxRecDepth 100000
open Go Cv Go.Proofs
open Go Cv Go.Proofs
open Classical
structure Sd where
 levels:List Lv
 imp:Lv
 has:Bool
@[reducible] def Vw:=List (Sd×Sd)
def zB (b:Sd×Sd):List D:=[.ro 3 (b.1.levels.map lvE),.v (.int .i64 b.1.imp.price),.v (.int .i64 b.1.imp.qty),.v (.int .i64 b.1.imp.count),.v (.bool b.1.has),
 .ro 3 (b.2.levels.map lvE),.v (.int .i64 b.2.imp.price),.v (.int .i64 b.2.imp.qty),.v (.int .i64 b.2.imp.count),.v (.bool b.2.has)]
def sdV (s:Sd):V:= .agg [roV 3 (s.levels.map lvE),zA s.imp.price,zA s.imp.qty,zA s.imp.count,yG s.has]
def vwV (v:Vw):V:= .agg [roV 10 (v.map zB)]
def xD (side x y:Int):Bool:=if side=1 then decide (y<x)else decide (x<y)
structure I3 where
 side:Int
 x:Int
 y:Int
def betterC:Con:=con1 I3 (fun i=>[zA i.side,zA i.x,zA i.y]) (fun _=>[]) (fun _=>True) (fun i=>yG (xD i.side i.x i.y)) (fun _=>[])
def yEm (side:Int) (l:List Lv) (i:Nat):Prop:=∀a,l[i]?=some a→1≤a.qty∧1≤a.count∧∀j b,i=j+1→l[j]?=some b→xD side b.price a.price=true
def zCk (side:Int) (s:Sd):Prop:=(∀i,yEm side s.levels i)∧s.levels.length≤255∧(s.has=true→1≤s.imp.qty∧1≤s.imp.count)∧(s.has=false→s.imp=⟨0,0,0⟩)
def zSh (v:Vw):Prop:=(∀b∈v,zCk 1 b.1∧zCk 2 b.2)∧v.length≤255
@[reducible] def qF (v:Vw):Prop:=v.length≤1099511627776∧∀b∈v,b.1.levels.length≤1099511627776∧b.2.levels.length≤1099511627776
open Go Cv Go.Proofs
def yJz (i:I3):Prop:=
 cnd (i.side==1) (∃(o:Unit),xD i.side i.x i.y=decide (i.x>i.y)∧True) (∃(o:Unit),xD i.side i.x i.y=decide (i.x<i.y)∧True)
open Go Cv Go.Proofs
open Classical
theorem getD {α:Type} {l:List α} {i:Nat} (h:i<l.length):∃x,l[i]? =some x:=⟨_,yXu h⟩
theorem zPl:betterC.ok Tryz.prog 58:=okw (V:=yJz) mixed gok0 0 (fun _=>[]) (fun _=>[]) [] Tryz.func58 fun(i:I3) _=>by
 refine Cv.cnd.mk (fun e=>⟨(),?_,trivial⟩) (fun e=>⟨(),?_,trivial⟩)
 ·have e:i.side=1:=by simpa using e
  simp[xD,e]
 ·have e:i.side≠1:=by simpa using e
  simp[xD,e]
open Go Cv Go.Proofs
open Classical
open Go Cv Go.Proofs
open Classical
open Go Cv Go.Proofs
open Go Cv Go.Proofs
open Classical
open Go Cv Go.Proofs
open Classical
open Go Cv Go.Proofs
open Go Cv Go.Proofs
open Classical
open Go Cv Go.Proofs
open Go Cv Go.Proofs
open Go Cv Go.Proofs
open Go Cv Go.Proofs
open Go Cv Go.Proofs
structure MsgM where
 seq:Int
 inst:Int
 side:Int
 price:Int
 qty:Int
 count:Int
 implied:Bool
 deriving DecidableEq
open Go Cv Go.Proofs
deriving instance DecidableEq for Lv
def fP (s:Int) (L:List Lv):Prop:=L.Pairwise fun a b=>btr s a.price b.price=true
def lkL (L:List Lv) (p:Int):Option Lv:=L.find? fun l=>decide (l.price=p)
def cX (s:Int):List Lv→Lv→List Lv
 |[],m=>if 0<m.qty then[m]else[]
 |x::L,m=>if x.price=m.price then(if m.qty=0 then L else m::L)else if btr s m.price x.price=true then(if 0<m.qty then m::x::L else x::L)else x::cX s L m
def xA (s:Int):Nat→List Lv→List Lv→List Lv
 |0,_,_=>[]
 |k+1,[],[]=>[]
 |k+1,x::X,[]=>⟨x.price,0,0⟩::xA s k X []
 |k+1,[],y::Y=>y::xA s k [] Y
 |k+1,x::X,y::Y=>if btr s x.price y.price=true then⟨x.price,0,0⟩::xA s k X (y::Y)else if btr s y.price x.price=true then y::xA s k (x::X) Y else(if x=y then[]else[y])++xA s k X Y
theorem nR {s x y z:Int} (h:btr s x y=true) (h2:btr s y z=true):btr s x z=true:=by
 rw[btr]at h h2 ⊢
 split
 ·rename_i e;rw[yWl e]at h h2;have:=yYq h;have:=yYq h2;exact yXb (by omega)
 ·rename_i e;rw[yWk e]at h h2;have:=yYq h;have:=yYq h2;exact yXb (by omega)
theorem dX {s x y:Int} (h:btr s x y=true):x≠y:=by
 rintro rfl
 rw[btr]at h
 split at h<;>simp at h
theorem yPz {s x y:Int} (h:btr s x y=true):btr s y x=false:=by
 rw[btr]at h ⊢
 split
 ·rename_i e;rw[yWl e]at h;have:=yYq h;exact yWx (by omega)
 ·rename_i e;rw[yWk e]at h;have:=yYq h;exact yWx (by omega)
theorem zIc {s x y:Int} (h:btr s x y=false) (hne:x≠y):btr s y x=true:=by
 rw[btr]at h ⊢
 split
 ·rename_i e;rw[yWl e]at h;have:=y1f h;exact yXb (by omega)
 ·rename_i e;rw[yWk e]at h;have:=y1f h;exact yXb (by omega)
theorem pQ {s p:Int} {L:List Lv} (h:∀l∈L,btr s p l.price=true):lkL L p=none:=by
 rw[lkL,List.find?_eq_none]
 intro l hl
 have:=dX (h l hl)
 simp;omega
theorem qG (x:Lv) (L:List Lv) (p:Int):lkL (x::L) p=if x.price=p then some x else lkL L p:=by
 rw[lkL,y2o,lkL]
 by_cases h:x.price=p<;>simp[h]
theorem z4h {s:Int} {m:Lv}:∀{L:List Lv} {l:Lv},l∈cX s L m→l=m∨l∈L
 |[],l,h=>by
  rw[cX]at h
  split at h
  ·exact .inl (yXx.1 h)
  ·cases h
 |x::L,l,h=>by
  rw[cX]at h
  split at h
  ·split at h
   ·exact .inr (yWq _ h)
   ·rcases yWz.1 h with h|h
    ·exact .inl h
    ·exact .inr (yWq _ h)
  split at h
  ·split at h
   ·rcases yWz.1 h with h|h
    ·exact .inl h
    ·exact .inr h
   ·exact .inr h
  ·rcases yWz.1 h with h|h
   ·exact .inr (h▸yWr)
   ·rcases z4h h with h|h
    ·exact .inl h
    ·exact .inr (yWq _ h)
theorem zIb {s:Int} {m:Lv}:∀{L:List Lv},fP s L→fP s (cX s L m)
 |[],_=>by
  rw[cX];split
  ·exact List.pairwise_singleton _ _
  ·exact List.Pairwise.nil
 |x::L,h=>by
  have h':=h
  rw[fP,yYk]at h
  rw[cX]
  split
  ·rename_i e
   split
   ·exact h.2
   ·exact yYk.2 ⟨fun l hl=>by rw[← e];exact h.1 l hl,h.2⟩
  rename_i hne
  split
  ·rename_i hb
   split
   ·refine yYk.2 ⟨fun l hl=> ?_,h'⟩
    rcases yWz.1 hl with rfl|hl
    ·exact hb
    ·exact nR hb (h.1 l hl)
   ·exact h'
  ·rename_i hb
   refine yYk.2 ⟨fun l hl=> ?_,zIb h.2⟩
   rcases z4h hl with rfl|hl
   ·exact zIc (by simpa using hb) (fun e=>hne e.symm)
   ·exact h.1 l hl
theorem z0v {s:Int} {m:Lv} (hm:0≤m.qty):∀{L:List Lv},fP s L→∀p,lkL (cX s L m) p=if p=m.price then(if m.qty=0 then none else some m)else lkL L p
 |[],_,p=>by
  rw[cX]
  by_cases h0:m.qty=0
  ·rw[yWk (by omega),yWl h0];split<;>rfl
  ·rw[yWl (by omega),yWk h0,qG]
   by_cases e:m.price=p
   ·rw[yWl e,yWl e.symm]
   ·rw[yWk e,yWk (fun h=>e h.symm)]
 |x::L,h,p=>by
  have h':=h
  rw[fP,yYk]at h
  rw[cX]
  by_cases hx:x.price=m.price
  ·rw[yWl hx]
   have hn:lkL L m.price=none:=pQ (s:=s) fun l hl=>by rw[← hx];exact h.1 l hl
   by_cases h0:m.qty=0
   ·rw[yWl h0,yWl h0,qG]
    by_cases e:p=m.price
    ·rw[yWl e,e,hn]
    ·rw[yWk e,yWk (by omega)]
   ·rw[yWk h0,yWk h0,qG,qG]
    by_cases e:p=m.price
    ·rw[yWl e,yWl e.symm]
    ·rw[yWk e,yWk (fun h=>e h.symm),yWk (by omega)]
  rw[yWk hx]
  by_cases hb:btr s m.price x.price=true
  ·rw[yWl hb]
   have hn:lkL (x::L) m.price=none:=pQ (s:=s) fun l hl=>by
    rcases yWz.1 hl with rfl|hl
    ·exact hb
    ·exact nR hb (h.1 l hl)
   by_cases h0:m.qty=0
   ·rw[yWk (by omega),yWl h0]
    by_cases e:p=m.price
    ·rw[yWl e,e,hn]
    ·rw[yWk e]
   ·rw[yWl (by omega),yWk h0,qG]
    by_cases e:p=m.price
    ·rw[yWl e,yWl e.symm]
    ·rw[yWk e,yWk (fun h=>e h.symm)]
  ·rw[yWk hb,qG,qG,z0v hm h.2 p]
   by_cases e:x.price=p
   ·rw[yWl e,yWl e,yWk (by omega)]
   ·rw[yWk e,yWk e]
theorem yBw {s:Int}:∀{A B:List Lv},fP s A→fP s B→(∀p,lkL A p=lkL B p)→A=B
 |[],[],_,_,_=>rfl
 |[],b::B,_,_,h=>by have:=h b.price;rw[qG,yWl rfl]at this;cases this
 |a::A,[],_,_,h=>by have:=h a.price;rw[qG,yWl rfl]at this;cases this
 |a::A,b::B,hA,hB,h=>by
  rw[fP,yYk]at hA hB
  have key:a.price=b.price:=by
   by_cases e:a.price=b.price
   ·exact e
   ·exfalso
    by_cases hb:btr s a.price b.price=true
    ·have:=h a.price
     rw[qG,yWl rfl,pQ (s:=s) fun l hl=>by
      rcases yWz.1 hl with rfl|hl
      ·exact hb
      ·exact nR hb (hB.1 l hl)]at this
     cases this
    ·have hb:=zIc (by simpa using hb) e
     have:=h b.price
     rw[qG (x:=b),yWl rfl,pQ (s:=s) fun l hl=>by
      rcases yWz.1 hl with rfl|hl
      ·exact hb
      ·exact nR hb (hA.1 l hl)]at this
     cases this
  have hab:a=b:=by
   have:=h a.price
   rw[qG,yWl rfl,qG,yWl key.symm]at this
   exact Option.some.inj this
  subst hab
  rw[yBw hA.2 hB.2 fun p=> ?_]
  have:=h p
  rw[qG,qG]at this
  by_cases e:a.price=p
  ·rw[← e,pQ (s:=s) hA.1,pQ (s:=s) hB.1]
  ·rwa [yWk e,yWk e]at this
theorem mT {s:Int}:∀(k:Nat) (X Y:List Lv),(xA s k X Y).length=(xA s k Y X).length
 |0,_,_=>rfl
 |k+1,[],[]=>rfl
 |k+1,x::X,[]=>by rw[xA,xA,yWs,yWs,mT k X []]
 |k+1,[],y::Y=>by rw[xA,xA,yWs,yWs,mT k [] Y]
 |k+1,x::X,y::Y=>by
  rw[xA,xA]
  by_cases h1:btr s x.price y.price=true
  ·rw[yWl h1,yWk (by rw[yPz h1];decide),yWl h1,yWs,yWs,mT k X (y::Y)]
  ·rw[yWk h1]
   by_cases h2:btr s y.price x.price=true
   ·rw[yWl h2,yWl h2,yWs,yWs,mT k (x::X) Y]
   ·rw[yWk h2,yWk h2,yWk h1,yWp,yWp,mT k X Y]
    by_cases e:x=y
    ·rw[yWl e,yWl e.symm]
    ·rw[yWk e,yWk (fun h=>e h.symm),yYs,yYs]
open Go Cv Go.Proofs
theorem dW {s:Int}:∀(k:Nat) (X Y:List Lv),∀m∈xA s k X Y,m.price∈X.map (·.price)∨m.price∈Y.map (·.price)
 |0,_,_,m,h=>by cases h
 |k+1,[],[],m,h=>by cases h
 |k+1,x::X,[],m,h=>by
  rw[xA]at h
  rcases yWz.1 h with rfl|h
  ·exact .inl yWr
  ·rcases dW k X [] m h with h|h
   ·exact .inl (yWq _ h)
   ·exact .inr h
 |k+1,[],y::Y,m,h=>by
  rw[xA]at h
  rcases yWz.1 h with rfl|h
  ·exact .inr yWr
  ·rcases dW k [] Y m h with h|h
   ·exact .inl h
   ·exact .inr (yWq _ h)
 |k+1,x::X,y::Y,m,h=>by
  rw[xA]at h
  split at h
  ·rcases yWz.1 h with rfl|h
   ·exact .inl yWr
   ·rcases dW k X (y::Y) m h with h|h
    ·exact .inl (yWq _ h)
    ·exact .inr h
  split at h
  ·rcases yWz.1 h with rfl|h
   ·exact .inr yWr
   ·rcases dW k (x::X) Y m h with h|h
    ·exact .inl h
    ·exact .inr (yWq _ h)
  ·rcases yXh.1 h with h|h
   ·split at h
    ·cases h
    ·rw[yXx]at h;subst h;exact .inr yWr
   ·rcases dW k X Y m h with h|h
    ·exact .inl (yWq _ h)
    ·exact .inr (yWq _ h)
def tgt (m:Lv):Option Lv:=if m.qty=0 then none else some m
structure DifOk (M A B:List Lv):Prop where
 q:∀m∈M,0≤m.qty
 t:∀m∈M,tgt m=lkL B m.price
 n:(M.map (·.price)).Nodup
 e:∀p,p∉M.map (·.price)→lkL A p=lkL B p
def yFq (L:List Lv):Prop:=∀l∈L,1≤l.qty
theorem zTz {m:Lv} (h:1≤m.qty):tgt m=some m:=by rw[tgt,yWk (by omega)]
theorem DifOk.cons {M A B:List Lv} {m:Lv} {A' B':List Lv} (h:DifOk M A B) (hq:0≤m.qty) (ht:tgt m=lkL B' m.price) (hn:m.price∉M.map (·.price))
 (hA:∀p,p≠m.price→lkL A' p=lkL A p) (hB:∀p,p≠m.price→lkL B' p=lkL B p):DifOk (m::M) A' B':=by
 refine⟨fun x hx=> ?_,fun x hx=> ?_,?_,fun p hp=> ?_⟩
 ·rcases yWz.1 hx with rfl|hx
  ·exact hq
  ·exact h.q x hx
 ·rcases yWz.1 hx with rfl|hx
  ·exact ht
  ·rw[hB _ fun e=>hn (e▸yXq hx)];exact h.t x hx
 ·rw[yWy,yZa];exact⟨hn,h.n⟩
 ·rw[yWy,yWz,not_or]at hp
  rw[hA p hp.1,hB p hp.1];exact h.e p hp.2
theorem cU {x:Lv} {L:List Lv} {p:Int} (h:p≠x.price):lkL (x::L) p=lkL L p:=by rw[qG,yWk fun e=>h e.symm]
theorem lJ {s:Int}:∀(k:Nat) (X Y:List Lv),X.length+Y.length≤k→fP s X→fP s Y→yFq Y→DifOk (xA s k X Y) X Y
 |0,x::X,_,h,_,_,_=>absurd h (by simp)
 |0,[],y::Y,h,_,_,_=>absurd h (by simp)
 |0,[],[],_,_,_,_=>⟨fun _ h=>(y0m h).elim,fun _ h=>(y0m h).elim,List.nodup_nil,fun _ _=>rfl⟩
 |k+1,[],[],_,_,_,_=>⟨fun _ h=>(y0m h).elim,fun _ h=>(y0m h).elim,List.nodup_nil,fun _ _=>rfl⟩
 |k+1,x::X,[],hk,hX,hY,hp=>by
  have hX':=hX
  rw[fP,yYk]at hX
  have ih:=lJ (s:=s) k X [] (by simp at hk ⊢;omega) hX.2 hY hp
  rw[xA]
  refine ih.cons (y0b _) rfl (fun h=> ?_) (fun p h=>cU h) fun _ _=>rfl
  obtain⟨m,hm,e⟩:=yXm.1 h
  rcases dW k X [] m hm with h|h
  ·obtain⟨l,hl,e2⟩:=yXm.1 h
   exact dX (hX.1 l hl) (by rw[e2,e])
  ·cases h
 |k+1,[],y::Y,hk,hX,hY,hp=>by
  rw[fP,yYk]at hY
  have ih:=lJ (s:=s) k [] Y (by simp at hk ⊢;omega) hX hY.2 fun l hl=>hp l (yWq _ hl)
  have hy:=hp y yWr
  rw[xA]
  refine ih.cons (by omega) (by rw[zTz hy,qG,yWl rfl]) (fun h=> ?_) (fun _ _=>rfl) fun p h=>cU h
  obtain⟨m,hm,e⟩:=yXm.1 h
  rcases dW k [] Y m hm with h|h
  ·cases h
  ·obtain⟨l,hl,e2⟩:=yXm.1 h
   exact dX (hY.1 l hl) (by rw[e2,e])
 |k+1,x::X,y::Y,hk,hX,hY,hp=>by
  have hX':=hX
  have hY':=hY
  rw[fP,yYk]at hX hY
  have hpY:yFq Y:=fun l hl=>hp l (yWq _ hl)
  have hy:=hp y yWr
  simp only[yWs]at hk
  rw[xA]
  by_cases h1:btr s x.price y.price=true
  ·rw[yWl h1]
   have hb:∀l∈y::Y,btr s x.price l.price=true:=fun l hl=>by
    rcases yWz.1 hl with rfl|hl
    ·exact h1
    ·exact nR h1 (hY.1 l hl)
   have ih:=lJ (s:=s) k X (y::Y) (by rw[yWs];omega) hX.2 hY' hp
   refine ih.cons (y0b _) ?_ (fun h=> ?_) (fun p h=>cU h) fun _ _=>rfl
   ·exact(pQ hb).symm
   ·obtain⟨m,hm,e⟩:=yXm.1 h
    rcases dW k X (y::Y) m hm with h|h
    ·obtain⟨l,hl,e2⟩:=yXm.1 h
     exact dX (hX.1 l hl) (by rw[e2,e])
    ·obtain⟨l,hl,e2⟩:=yXm.1 h
     exact dX (hb l hl) (by rw[e2,e])
  rw[yWk h1]
  by_cases h2:btr s y.price x.price=true
  ·rw[yWl h2]
   have hb:∀l∈x::X,btr s y.price l.price=true:=fun l hl=>by
    rcases yWz.1 hl with rfl|hl
    ·exact h2
    ·exact nR h2 (hX.1 l hl)
   have ih:=lJ (s:=s) k (x::X) Y (by rw[yWs];omega) hX' hY.2 hpY
   refine ih.cons (by omega) (by rw[zTz hy,qG,yWl rfl]) (fun h=> ?_) (fun _ _=>rfl) fun p h=>cU h
   obtain⟨m,hm,e⟩:=yXm.1 h
   rcases dW k (x::X) Y m hm with h|h
   ·obtain⟨l,hl,e2⟩:=yXm.1 h
    exact dX (hb l hl) (by rw[e2,e])
   ·obtain⟨l,hl,e2⟩:=yXm.1 h
    exact dX (hY.1 l hl) (by rw[e2,e])
  rw[yWk h2]
  have he:x.price=y.price:=by
   by_cases e:x.price=y.price
   ·exact e
   ·exact absurd (zIc (by simpa using h1) e) h2
  have ih:=lJ (s:=s) k X Y (by omega) hX.2 hY.2 hpY
  have hno:y.price∉(xA s k X Y).map (·.price):=fun h=>by
   obtain⟨m,hm,e⟩:=yXm.1 h
   rcases dW k X Y m hm with h|h
   ·obtain⟨l,hl,e2⟩:=yXm.1 h
    exact dX (hX.1 l hl) (by rw[e2,e,he])
   ·obtain⟨l,hl,e2⟩:=yXm.1 h
    exact dX (hY.1 l hl) (by rw[e2,e])
  by_cases e:x=y
  ·rw[yWl e,yYt]
   subst e
   refine⟨ih.q,fun m hm=> ?_,ih.n,fun p hpn=> ?_⟩
   ·rw[cU fun e=>hno (e▸yXq hm)];exact ih.t m hm
   ·by_cases ep:p=x.price
    ·rw[ep,qG,yWl rfl,qG,yWl rfl]
    ·rw[cU ep,cU ep];exact ih.e p hpn
  ·rw[yWk e,List.singleton_append]
   exact ih.cons (by omega) (by rw[zTz hy,qG,yWl rfl]) hno (fun p h=>cU (by rw[he];exact h)) fun p h=>cU h
theorem z4w {s:Int}:∀(M:List Lv) {L:List Lv},fP s L→(∀m∈M,0≤m.qty)→(M.map (·.price)).Nodup→
 fP s (M.foldl (cX s) L)∧(∀m∈M,lkL (M.foldl (cX s) L) m.price=tgt m)∧∀p,p∉M.map (·.price)→lkL (M.foldl (cX s) L) p=lkL L p
 |[],L,h,_,_=>⟨h,fun _ hm=>(y0m hm).elim,fun _ _=>rfl⟩
 |m::M,L,h,hq,hn=>by
  rw[yWy,yZa]at hn
  have h0:=hq m yWr
  obtain⟨a,b,c⟩:=z4w M (L:=cX s L m) (zIb h) (fun x hx=>hq x (yWq _ hx)) hn.2
  rw[yZh]
  refine⟨a,fun x hx=> ?_,fun p hp=> ?_⟩
  ·rcases yWz.1 hx with rfl|hx
   ·rw[c _ hn.1,z0v h0 h,yWl rfl];rfl
   ·exact b x hx
  ·rw[yWy,yWz,not_or]at hp
   rw[c p hp.2,z0v h0 h,yWk hp.1]
theorem z1m {s:Int} {A B M:List Lv} (hA:fP s A) (hB:fP s B) (hp:yFq B) {k:Nat} (hk:A.length+B.length≤k) (hM:M.Perm (xA s k A B)):M.foldl (cX s) A=B:=by
 have d:=lJ (s:=s) k A B hk hA hB hp
 have hpm:=hM.map (·.price)
 obtain⟨a,b,c⟩:=z4w (s:=s) M hA (fun m hm=>d.q m (hM.mem_iff.1 hm)) (hpm.nodup_iff.2 d.n)
 refine yBw a hB fun p=> ?_
 by_cases h:p∈M.map (·.price)
 ·obtain⟨m,hm,rfl⟩:=yXm.1 h
  rw[b m hm];exact d.t m (hM.mem_iff.1 hm)
 ·rw[c p h];exact d.e p fun h2=>h (hpm.mem_iff.2 h2)
theorem zOv {s:Int}:∀(k:Nat) (A:List Lv),xA s k A A=[]
 |0,_=>rfl
 |k+1,[]=>rfl
 |k+1,x::A=>by
  rw[xA]
  have:btr s x.price x.price=false:=by rw[btr];split<;>simp
  rw[yWk (by rw[this];decide),yWk (by rw[this];decide),yWl rfl,zOv k A];rfl
open Go Cv Go.Proofs
def jR (s:Int) (L:List Lv) (m:Lv):List Lv:=match L.findIdx? fun y=>decide (y.price=m.price)with
 |some n=>if m.qty=0 then L.eraseIdx n else L.set n m
 |none=>if 0<m.qty then L.take ((L.findIdx? fun y=>btr s m.price y.price).getD L.length)++m::L.drop ((L.findIdx? fun y=>btr s m.price y.price).getD L.length)else L
theorem zOf {s:Int} {m:Lv} (hq:0≤m.qty):∀{L:List Lv},fP s L→jR s L m=cX s L m
 |[],_=>by
  rw[jR,cX,List.findIdx?_nil]
  dsimp only
  split<;>rfl
 |x::L,h=>by
  rw[fP,yYk]at h
  have ih:=zOf hq h.2
  rw[cX]
  by_cases hx:x.price=m.price
  ·rw[yWl hx,jR,y0v,yWl (by simp[hx])]
   dsimp only
   split<;>rfl
  rw[yWk hx]
  by_cases hb:btr s m.price x.price=true
  ·have hn:(x::L).findIdx? (fun y=>decide (y.price=m.price))=none:=by
    rw[y0s]
    intro l hl
    rcases yWz.1 hl with rfl|hl
    ·exact yWx hx
    ·have:=dX (nR hb (h.1 l hl))
     exact yWx fun e=>this e.symm
   rw[yWl hb,jR,hn]
   dsimp only
   rw[y0v,yWl hb]
   rfl
  ·have e1:(x::L).findIdx? (fun y=>decide (y.price=m.price))=(L.findIdx? fun y=>decide (y.price=m.price)).map (·+1):=by
    rw[y0v,yWk (by simp[hx])]
   have e2:(x::L).findIdx? (fun y=>btr s m.price y.price)=(L.findIdx? fun y=>btr s m.price y.price).map (·+1):=by
    rw[y0v,yWk hb]
   rw[yWk hb,← ih,jR,jR,e1,e2]
   cases L.findIdx? (fun y=>decide (y.price=m.price))with
   |some n=>
    dsimp only[Option.map]
    split<;>rfl
   |none=>
    dsimp only[Option.map]
    split
    ·cases L.findIdx? (fun y=>btr s m.price y.price)<;>rfl
    ·rfl
open Go Cv Go.Proofs
open Go Cv Go.Proofs
open Classical
def Lv.fit (x:Lv):Prop:=yV x.price∧yV x.qty∧yV x.count
def Sd.fit (s:Sd):Prop:=(∀x∈s.levels,x.fit)∧s.imp.fit
def ySq (v:Vw):Prop:=∀b∈v,b.1.fit∧b.2.fit
open Go Cv Go.Proofs
structure VM where
 inst:Nat
 side:Int
 l:Lv
 imp:Bool
def lv0:Lv:=⟨0,0,0⟩
def jW (s:Int) (x:Sd) (m:VM):Sd:=if m.imp=true then(if 0<m.l.qty then⟨x.levels,m.l,true⟩else⟨x.levels,lv0,false⟩)else⟨cX s x.levels m.l,x.imp,x.has⟩
def zFu (a b:Sd):Bool:=decide (a.imp≠b.imp)||decide (a.has≠b.has)
def zBr (b:Sd):Lv:=if b.has=true then b.imp else lv0
def y8 (n:Nat) (s:Int) (a b:Sd):List VM:=(xA s (a.levels.length+b.levels.length) a.levels b.levels).map (fun l=>⟨n,s,l,false⟩)++if zFu a b=true then[⟨n,s,zBr b,true⟩]else[]
def yHv (s:Int) (x:Sd):Prop:=fP s x.levels∧yFq x.levels∧(x.has=true→1≤x.imp.qty)∧(x.has=false→x.imp=lv0)
theorem z4g {s:Int}:∀(M:List VM) (x:Sd),(M.foldl (jW s) x).levels=((M.filter fun m=> !m.imp).map (·.l)).foldl (cX s) x.levels
 |[],_=>rfl
 |m::M,x=>by
  rw[yZh,z4g M,y0l]
  cases h:m.imp with
  |true=>
   rw[yWk (by simp),jW,yWl h]
   split<;>rfl
  |false=>
   rw[yWl (show(!false)=true from rfl),jW,yWk (by simp[h])]
   rfl
theorem z2r {s:Int} {l:Lv} {n:Nat}:∀(M:List VM) (x:Sd),(M.filter (·.imp))=[⟨n,s,l,true⟩]→(M.foldl (jW s) x).imp=(if 0<l.qty then l else lv0)∧(M.foldl (jW s) x).has=decide (0<l.qty)
 |[],_,h=>by cases h
 |m::M,x,h=>by
  rw[yZh]
  rw[y0l]at h
  cases hm:m.imp with
  |true=>
   rw[yWl hm]at h
   have h1:=(List.cons.inj h).1
   have h2:=(List.cons.inj h).2
   have keep:∀(M:List VM) (x:Sd),M.filter (·.imp)=[]→(M.foldl (jW s) x).imp=x.imp∧(M.foldl (jW s) x).has=x.has:=by
    intro M
    induction M with
    |nil=>intro x _;exact⟨rfl,rfl⟩
    |cons y M ih=>
     intro x hy
     rw[y0l]at hy
     cases hi:y.imp with
     |true=>rw[yWl hi]at hy;cases hy
     |false=>
      rw[yWk (by simp[hi])]at hy
      rw[yZh,(ih _ hy).1,(ih _ hy).2,jW,yWk (by simp[hi])]
      exact⟨rfl,rfl⟩
   rw[(keep M _ h2).1,(keep M _ h2).2,h1,jW,yWl rfl]
   by_cases c:0<l.qty
   ·rw[yWl c,yWl c,yXb c];exact⟨rfl,rfl⟩
   ·rw[yWk c,yWk c,yWx c];exact⟨rfl,rfl⟩
  |false=>
   rw[yWk (by simp[hm])]at h
   exact z2r M _ h
theorem zNf {s:Int}:∀(M:List VM) (x:Sd),M.filter (·.imp)=[]→(M.foldl (jW s) x).imp=x.imp∧(M.foldl (jW s) x).has=x.has
 |[],_,_=>⟨rfl,rfl⟩
 |y::M,x,hy=>by
  rw[y0l]at hy
  cases hi:y.imp with
  |true=>rw[yWl hi]at hy;cases hy
  |false=>
   rw[yWk (by simp[hi])]at hy
   rw[yZh,(zNf M _ hy).1,(zNf M _ hy).2,jW,yWk (by simp[hi])]
   exact⟨rfl,rfl⟩
theorem zXx {n:Nat} {s:Int} {a b:Sd} (ha:yHv s a) (hb:yHv s b) {M:List VM} (hM:M.Perm (y8 n s a b)):M.foldl (jW s) a=b:=by
 have hl:(M.foldl (jW s) a).levels=b.levels:=by
  rw[z4g]
  refine z1m ha.1 hb.1 hb.2.1 (yXs _) ?_
  have:=(hM.filter fun m=> !m.imp).map (·.l)
  refine this.trans (List.Perm.of_eq ?_)
  rw[y8,yZj,List.filter_map]
  have e:(if zFu a b=true then[(⟨n,s,zBr b,true⟩:VM)]else[]).filter (fun m=> !m.imp)=[]:=by split<;>rfl
  rw[e,yXi,yZc]
  have e2:(xA s (a.levels.length+b.levels.length) a.levels b.levels).filter ((fun m:VM=> !m.imp)∘fun l=>⟨n,s,l,false⟩)=xA s (a.levels.length+b.levels.length) a.levels b.levels:=y0g.2 fun _ _=>rfl
  rw[e2]
  exact List.map_id _
 have hi:(M.foldl (jW s) a).imp=b.imp∧(M.foldl (jW s) a).has=b.has:=by
  have hf:=hM.filter (·.imp)
  have e0:(y8 n s a b).filter (·.imp)=if zFu a b=true then[⟨n,s,zBr b,true⟩]else[]:=by
   rw[y8,yZj,List.filter_map]
   have e2:(xA s (a.levels.length+b.levels.length) a.levels b.levels).filter ((fun m:VM=>m.imp)∘fun l=>⟨n,s,l,false⟩)=[]:=y0f.2 fun _ _=>by simp
   rw[e2,y0d,yYt]
   split<;>rfl
  rw[e0]at hf
  by_cases c:zFu a b=true
  ·rw[yWl c]at hf
   have hf:=List.perm_singleton.1 hf
   obtain⟨x1,x2⟩:=z2r M a hf
   rw[x1,x2,zBr]
   cases hh:b.has with
   |true=>
    have:=hb.2.2.1 hh
    rw[yWl rfl,yWl (by omega),yXb (by omega)];exact⟨rfl,rfl⟩
   |false=>
    rw[hb.2.2.2 hh];exact⟨rfl,rfl⟩
  ·rw[yWk c]at hf
   obtain⟨x1,x2⟩:=zNf M a (List.perm_nil.1 hf)
   rw[zFu,y2k,yYm,yYm,not_or]at c
   rw[x1,x2]
   exact⟨Decidable.not_not.1 c.1,Decidable.not_not.1 c.2⟩
 generalize M.foldl (jW s) a=x at hl hi
 cases x;cases b
 simp only at hl hi
 rw[hl,hi.1,hi.2]
theorem yBb (n:Nat) (s:Int) (a b:Sd):(y8 n s a b).length=(y8 n s b a).length:=by
 have e:zFu a b=zFu b a:=by rw[zFu,zFu];congr 1<;>simp[eq_comm]
 rw[y8,y8,yWp,yWp,yWm,yWm,y1x a.levels.length,mT,e]
 split<;>rfl
theorem z3v (n:Nat) (s:Int) (a:Sd):y8 n s a a=[]:=by
 rw[y8,zOv];simp[zFu]
open Go Cv Go.Proofs
def dV (p:Sd×Sd) (m:VM):Sd×Sd:=if m.side=1 then(jW 1 p.1 m,p.2)else(p.1,jW 2 p.2 m)
def g9 (v:Vw) (m:VM):Vw:=v.modify m.inst fun p=>dV p m
def z9 (n:Nat):Vw→Vw→List VM
 |a::A,b::B=>y8 n 1 a.1 b.1++y8 n 2 a.2 b.2++z9 (n+1) A B
 |_,_=>[]
def zZa (v:Vw):Prop:=∀p∈v,yHv 1 p.1∧yHv 2 p.2
theorem yHd (v:Vw) (m:VM):(g9 v m).length=v.length:=List.length_modify _ _ _
theorem zUx:∀(M:List VM) (v:Vw) (i:Nat),(M.foldl g9 v)[i]? =v[i]?.map fun p=>(M.filter fun m=>decide (m.inst=i)).foldl dV p
 |[],v,i=>by simp
 |m::M,v,i=>by
  rw[yZh,zUx M,g9,yZv,y0l]
  by_cases h:m.inst=i
  ·cases v[i]? <;>simp[h]
  ·cases v[i]? <;>simp[h]
theorem zQh:∀(M:List VM) (p:Sd×Sd),M.foldl dV p=((M.filter fun m=>decide (m.side=1)).foldl (jW 1) p.1,(M.filter fun m=> !decide (m.side=1)).foldl (jW 2) p.2)
 |[],_=>rfl
 |m::M,p=>by
  rw[yZh,zQh M,dV,y0l,y0l]
  by_cases h:m.side=1
  ·rw[yWl h,yWl (by simp[h]),yWk (by simp[h])];rfl
  ·rw[yWk h,yWk (by simp[h]),yWl (by simp[h])];rfl
theorem mB {n:Nat} {s:Int} {a b:Sd}:∀m∈y8 n s a b,m.inst=n∧m.side=s:=by
 intro m hm
 rw[y8,yXh]at hm
 rcases hm with hm|hm
 ·obtain⟨l,_,rfl⟩:=yXm.1 hm;exact⟨rfl,rfl⟩
 ·split at hm
  ·rw[yXx]at hm;subst hm;exact⟨rfl,rfl⟩
  ·cases hm
theorem yLx:∀{n:Nat} {A B:Vw},∀m∈z9 n A B,n≤m.inst
 |n,[],_,m,h=>by rw[z9]at h<;>first|cases h|simp
 |n,a::A,[],m,h=>by rw[z9]at h<;>first|cases h|simp
 |n,a::A,b::B,m,h=>by
  rw[z9,yXh,yXh]at h
  rcases h with(h|h)|h
  ·exact Nat.le_of_eq (mB m h).1.symm
  ·exact Nat.le_of_eq (mB m h).1.symm
  ·have:=yLx m h;omega
theorem yAb:∀{n:Nat} {A B:Vw} {i:Nat} {a b:Sd×Sd},A[i]? =some a→B[i]? =some b→(z9 n A B).filter (fun m=>decide (m.inst=n+i))=y8 (n+i) 1 a.1 b.1++y8 (n+i) 2 a.2 b.2
 |n,[],_,i,a,b,h,_=>by cases h
 |n,x::A,[],i,a,b,_,h=>by cases h
 |n,x::A,y::B,0,a,b,h,h2=>by
  cases h;cases h2
  rw[z9,yZj]
  have e1:(z9 (n+1) A B).filter (fun m=>decide (m.inst=n+0))=[]:=y0f.2 fun m hm=>by
   have:=yLx m hm
   simp;omega
  rw[e1,yXi]
  refine y0g.2 fun m hm=> ?_
  rcases yXh.1 hm with hm|hm
  ·exact yXb (mB m hm).1
  ·exact yXb (mB m hm).1
 |n,x::A,y::B,i+1,a,b,h,h2=>by
  have ih:=yAb (n:=n+1) (A:=A) (B:=B) (i:=i) (a:=a) (b:=b) h h2
  rw[z9,yZj]
  have e1:(y8 n 1 x.1 y.1++y8 n 2 x.2 y.2).filter (fun m=>decide (m.inst=n+(i+1)))=[]:=y0f.2 fun m hm=>by
   rcases yXh.1 hm with hm|hm
   ·have:=(mB m hm).1;simp;omega
   ·have:=(mB m hm).1;simp;omega
  rw[e1,yYt,show n+(i+1)=n+1+i by omega]
  exact ih
theorem zLu {A B:Vw} (hl:A.length=B.length) (hA:zZa A) (hB:zZa B) {M:List VM} (hM:M.Perm (z9 0 A B)):M.foldl g9 A=B:=by
 refine yZn fun i=> ?_
 rw[zUx]
 cases hi:A[i]? with
 |none=>
  have:=y2a.1 hi
  rw[yXr (by omega)];rfl
 |some a=>
  have hlt:=(yWn.1 hi).1
  obtain⟨b,hb⟩:∃b,B[i]? =some b:=⟨_,yXu (by omega)⟩
  obtain⟨a1,a2⟩:=hA a (yWu hi)
  obtain⟨b1,b2⟩:=hB b (yWu hb)
  have hf:=hM.filter fun m=>decide (m.inst=i)
  have hv:=yAb (n:=0) hi hb
  rw[yXl]at hv
  rw[hv]at hf
  have h1:((M.filter fun m=>decide (m.inst=i)).filter fun m=>decide (m.side=1)).Perm (y8 i 1 a.1 b.1):=by
   refine(hf.filter _).trans (List.Perm.of_eq ?_)
   rw[yZj,y0g.2 fun m hm=>yXb (mB m hm).2,y0f.2 fun m hm=>by rw[(mB m hm).2];decide,yXi]
  have h2:((M.filter fun m=>decide (m.inst=i)).filter fun m=> !decide (m.side=1)).Perm (y8 i 2 a.2 b.2):=by
   refine(hf.filter _).trans (List.Perm.of_eq ?_)
   rw[yZj,y0f.2 fun m hm=>by rw[(mB m hm).2];decide,y0g.2 fun m hm=>by rw[(mB m hm).2];decide,yYt]
  rw[hb,yYl,zQh,zXx a1 b1 h1,zXx a2 b2 h2]
theorem yFs:∀(n:Nat) (A B:Vw),(z9 n A B).length=(z9 n B A).length
 |_,[],[]=>rfl
 |_,[],_::_=>rfl
 |_,_::_,[]=>rfl
 |n,a::A,b::B=>by
  rw[z9,z9]
  simp only[yWp]
  rw[yBb n 1 a.1,yBb n 2 a.2,yFs (n+1) A B]
theorem zTt:∀(n:Nat) (A:Vw),z9 n A A=[]
 |_,[]=>rfl
 |n,a::A=>by rw[z9,z3v,z3v,zTt];rfl
theorem zLh {A B C:Vw} (h1:A.length=B.length) (h2:B.length=C.length) (hA:zZa A) (hB:zZa B) (hC:zZa C):(z9 0 A B++z9 0 B C).foldl g9 A=C:=by
 rw[y1l,zLu h1 hA hB (List.Perm.refl _),zLu h2 hB hC (List.Perm.refl _)]
open Go Cv Go.Proofs
end Sx
